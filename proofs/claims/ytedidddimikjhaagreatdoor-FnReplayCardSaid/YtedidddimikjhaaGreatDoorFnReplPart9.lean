/- Texts of this claim, joined. No condition. -/
import Derived.Test.YtedidddimikjhaaGreatDoorFnReplPart8
import Derived.Test.YtedidddimikjhaaGreatDoorFnReplPart4
import Derived.Test.YtedidddimikjhaaGreatDoorFnReplPart6
import Derived.Test.YtedidddimikjhaaGreatDoorFnReplPart5
open List (length_map prefix_append append_assoc prefix_rfl length_append getElem?_eq_getElem getElem_map length_take getElem_mem getElem?_append_right length_cons getElem?_cons_zero mem_map take_length getElem?_cons_succ cons_append map_append length_nil mem_iff_getElem append_nil mem_range length_pos_iff getElem?_map nil_append mem_append length_singleton drop_eq_getElem_cons any_eq_true take_left' take_add_one mem_filter flatten_append take_succ_eq_append_getElem drop_left' drop_drop take_append_drop)
open Nat (le_refl le_trans add_zero zero_le sub_self min_eq_left zero_lt_of_lt add_sub_cancel_left)
set_option linter.unusedSimpArgs false
set_option linter.unusedVariables false
namespace Go.Proofs.YtedidddimikjhaaGreatDoor
open Go.HH Go.Proofs
theorem dv_cell{D:List Int}{N:Nat}(hl:D.length=N+1){x:Int}(h0:0<=x)(h1:x<=N):(D.map iv)[x.toNat]? = some (.int .i64 (dv D x)):=by
 have:x.toNat<D.length:=by omega
 rw[getElem?_map,getElem?_eq_getElem this,dv,List.getD,getElem?_eq_getElem this];rfl
theorem dv_put{D:List Int}{x:Int}(y:Int)(h:x.toNat<D.length):setRange (D.map iv) x.toNat [.int .i64 y]=(D.set x.toNat y).map iv:=by
 rw[←setRange_one (by simp;omega),List.map_set];rfl
theorem set_there{t:Heap}{j:Nat}{b:Blk}(b2:Blk)(h:t[j]? = some b):(t.set j b2)[j]? = some b2:=by
 have:=(List.getElem?_eq_some_iff.1 h).1
 rw[List.getElem?_set_self this]
section
variable {h:Heap} {M:Nat->Prop}
set_option maxRecDepth 4000 in
theorem c_l2Steps{n:Nat}(v:Value)(N:Nat)(P:List Pip)(s:Int)(hv:NA n h v N P)(g:netGood N P)(hs:1<=s∧s<=N) :
  vCall [] Tryz.prog M 239 [v, .int .i64 s] h (fun r h'=>(∃D,SI h' r D∧Dst P s N D)∧h<+:h'):=by
 obtain⟨wp,rfl,sP0⟩:=id hv
 have sP:Sl h 4 wp (P.map pip):=sP0.1
 obtain⟨a,rfl⟩:=Sl.len4 sP
 have hN:N<=8:=by have:=g.2.1;omega
 have hP:P.length<=10:=g.2.2
 have he:=g.ends
 refine bo Tryz.func239 rfl rfl ?_
 simp only[go_sem]
 refine vLoop.count mo (N+1) (fun i e h'=> ∃(t:Heap) (v5:Value),Regs e [(1, .int .i64 s),(2, .pointer (some ⟨h.length,0,none⟩)),(5,v5),(6, .int .i64 i)] ∧
  HeapIs h' (h++(⟨[.int .i64 N, .slice a P.length 0],2, .rw⟩::t))∧OF h.length 1 t v5 (List.replicate i (-1))) ?_ ?_
 ·exact⟨_,_,⟨rfl,rfl,rfl,rfl,trivial⟩, .rfl, .mk' 0 rfl rfl rfl⟩
 ·rintro i e _ hi ⟨t,v5,⟨e1,e2,e5,e6,_⟩,rfl,oi⟩
  obtain⟨j,rfl,hj⟩:=id oi
  simp only[go_sem,e1,e2,e5,e6]
  by_cases hlt:i<=N
  ·have hz:(i:Int)<=N:=by omega
   have ws:=wsucc (show i<N+1 by omega) (by omega)
   simp only[go_sem,e1,e2,e5,e6,hz,app_old hj,length_map,List.length_replicate]
   refine⟨by omega,by omega,by omega,_,_,⟨e1,e2,rfl,congrArg _ ws,trivial⟩, .rfl,(.mk' (t.length+1) ?_ (by simp) ?_)⟩
   ·simp;try omega
   ·refine (new_at (by simp;try omega)).trans ?_
    simp[iv,List.replicate_succ']
  ·obtain rfl:i=N+1:=by omega
   have hz: ¬(((N+1:Nat):Int)<=N):=by omega
   have q1:0<=s:=by omega
   have q2:s<((N+1:Nat):Int):=by omega
   have p0:=dv_put (D:=List.replicate (N+1) (-1:Int)) (x:=s) 0 (by simp;omega)
   simp only[go_sem,e1,e2,e5,e6,hz,hj,q1,q2,p0,List.length_replicate,length_map]
   refine⟨by omega, ?_⟩
   refine vLoop.count mo N (fun k e h'=> ∃(D:List Int) (t:Heap) (v5:Value),Regs e [(2, .pointer (some ⟨h.length,0,none⟩)),(5,v5),(7, .int .i64 k)] ∧
    HeapIs h' (h++(⟨[.int .i64 N, .slice a P.length 0],2, .rw⟩::t))∧OF h.length 1 t v5 D∧Lay P s N k D) ?_ ?_
   ·refine⟨_,_,_,⟨e2,e5,rfl,trivial⟩, .rfl, .mk' j ?_ ?_ (set_there _ hj),Lay.init hs⟩
    ·rfl
    ·simp
   ·clear oi hj e1 e2 e5 e6 p0
    rintro k e _ hk ⟨D,t,v5,⟨e2,e5,e7,_⟩,rfl,oi,lay⟩
    simp only[go_sem,e2,e5,e7]
    by_cases hkN:k<N
    ·have hz3:(k:Int)<N:=by omega
     simp only[go_sem,e2,e5,e7,hz3]
     refine vLoop.count mo P.length (fun i e h'=> ∃(D:List Int) (t:Heap) (v5:Value),Regs e [(2, .pointer (some ⟨h.length,0,none⟩)),(5,v5),(7, .int .i64 k),(8, .int .i64 i)] ∧
      HeapIs h' (h++(⟨[.int .i64 N, .slice a P.length 0],2, .rw⟩::t))∧OF h.length 1 t v5 D∧Lyr P s N k i D) ?_ ?_
     ·exact⟨D,t,v5,⟨e2,e5,e7,rfl,trivial⟩, .rfl,oi,lay.lyr⟩
     ·clear oi lay e2 e5 e7
      rintro i e _ hi ⟨D,t,v5,⟨e2,e5,e7,e8,_⟩,rfl,oi,lay⟩
      obtain⟨j,rfl,hj⟩:=id oi
      simp only[go_sem,e2,e5,e7,e8]
      by_cases hlt:i<P.length
      ·have hlt':i<(P.map pip).length:=by simpa using hlt
       have hz:(i:Int)<P.length:=by omega
       have ws:=wsucc hlt (by omega)
       obtain⟨id2,o,K,hv',hk2,_,hd,hb,hrow,hat⟩:=sP.at hlt'
       obtain rfl:a=some ⟨id2,o,none⟩:=by simpa using hv'
       have g1:=hat 1 (by omega)
       have g2:=hat 2 (by omega)
       rw[getElem_map] at g1 g2
       simp only[pip,getElem?_cons_zero,getElem?_cons_succ] at g1 g2
       have hpi:=he _ (getElem_mem hlt)
       have hl:=lay.len
       have c1:=dv_cell hl (x:=P[i].2.1) (by omega) (by omega)
       have c2:=dv_cell hl (x:=P[i].2.2.1) (by omega) (by omega)
       have a0:0<=P[i].2.1:=by omega
       have b0:0<=P[i].2.2.1:=by omega
       have a1:P[i].2.1<((N+1:Nat):Int):=by omega
       have b1:P[i].2.2.1<((N+1:Nat):Int):=by omega
       have wk:=wsucc hkN (by omega)
       have p1:=dv_put (D:=D) (x:=P[i].2.1) ((k+1:Nat):Int) (by omega)
       have p2:=dv_put (D:=D) (x:=P[i].2.2.1) ((k+1:Nat):Int) (by omega)
       have ab:adj P P[i].2.1 P[i].2.2.1:=⟨_,getElem_mem hlt, .inl ⟨rfl,rfl⟩⟩
       have l1:P[i].2.1.toNat+1<=N+1:=by omega
       have l2:P[i].2.2.1.toNat+1<=N+1:=by omega
       have kc:((k+1:Nat):Int)=(k:Int)+1:=by omega
       have stay: ¬(dv D P[i].2.1=k∧dv D P[i].2.2.1<0)->¬(dv D P[i].2.2.1=k∧dv D P[i].2.1<0)->Lyr P s N k (i+1) D:=fun n1 n2=>lay.next hlt ⟨fun q1=>by
        by_cases q2:dv D P[i].2.2.1<0
        ·exact absurd ⟨q1,q2⟩ n1
        ·omega,fun q1=>by
        by_cases q2:dv D P[i].2.1<0
        ·exact absurd ⟨q1,q2⟩ n2
        ·omega⟩
       have ne:(((k+1:Nat):Int)==(k:Int))=false:=by simp;omega
       by_cases y1:dv D P[i].2.2.1=k
       ·have x2: ¬dv D P[i].2.2.1<0:=by omega
        have by1:(dv D P[i].2.2.1==(k:Int))=true:=by simpa using y1
        by_cases y2:dv D P[i].2.1<0
        ·have x1:(dv D P[i].2.1==(k:Int))=false:=by simp;omega
         have lay2:=lay.set he hpi.1 hpi.2.1 ab.symm y1 y2
         rw[←kc] at lay2
         simp only[go_sem,e2,e5,e7,e8,hz,hk2,hd,g1,g2,hj,hl,c1,c2,a0,b0,a1,b1,x1,by1,y2,wk,p1,l1,length_map]
         have d1:dv (D.set P[i].2.1.toNat ((k+1:Nat):Int)) P[i].2.1=((k+1:Nat):Int):=by rw[dv_set hpi.1.1 hpi.1.1 (by omega),if_pos rfl]
         have far:(dv (D.set P[i].2.1.toNat ((k+1:Nat):Int)) P[i].2.1=k->0<=dv (D.set P[i].2.1.toNat ((k+1:Nat):Int)) P[i].2.2.1)∧(dv (D.set P[i].2.1.toNat ((k+1:Nat):Int)) P[i].2.2.1=k->0<=dv (D.set P[i].2.1.toNat ((k+1:Nat):Int)) P[i].2.1):=by
          rw[d1];exact⟨fun hh=>absurd hh (by omega),fun _=>by omega⟩
         exact⟨hlt,_,_,_,⟨e2,e5,e7,congrArg _ ws,trivial⟩, .rfl, .mk' j rfl (by simp[hl]) (set_there _ hj),lay2.next hlt far⟩
        ·have lay2:=stay (fun hh=>x2 hh.2) (fun hh=>y2 hh.2)
         by_cases x1:dv D P[i].2.1=k
         ·simp only[go_sem,e2,e5,e7,e8,hz,hk2,hd,g1,g2,hj,hl,c1,c2,a0,b0,a1,b1,show (dv D P[i].2.1==(k:Int))=true by simpa using x1,x2,by1,y2]
          exact⟨hlt,_,_,_,⟨e2,e5,e7,congrArg _ ws,trivial⟩, .rfl,oi,lay2⟩
         ·simp only[go_sem,e2,e5,e7,e8,hz,hk2,hd,g1,g2,hj,hl,c1,c2,a0,b0,a1,b1,show (dv D P[i].2.1==(k:Int))=false by simpa using x1,x2,by1,y2]
          exact⟨hlt,_,_,_,⟨e2,e5,e7,congrArg _ ws,trivial⟩, .rfl,oi,lay2⟩
       ·have by1:(dv D P[i].2.2.1==(k:Int))=false:=by simpa using y1
        by_cases x1:dv D P[i].2.1=k
        ·by_cases x2:dv D P[i].2.2.1<0
         ·have lay2:=lay.set he hpi.2.1 hpi.1 ab x1 x2
          rw[←kc] at lay2
          have hset:=set_there (⟨((D.set P[i].2.2.1.toNat ((k+1:Nat):Int)).map iv),1, .rw⟩:Blk) hj
          have d2:dv (D.set P[i].2.2.1.toNat ((k+1:Nat):Int)) P[i].2.2.1=((k+1:Nat):Int):=by rw[dv_set hpi.2.1.1 hpi.2.1.1 (by omega),if_pos rfl]
          have c2':=dv_cell lay2.len (x:=P[i].2.2.1) (by omega) (by omega)
          rw[d2] at c2'
          simp only[go_sem,e2,e5,e7,e8,hz,hk2,hd,g1,g2,hj,hl,c1,c2,a0,b0,a1,b1,show (dv D P[i].2.1==(k:Int))=true by simpa using x1,x2,wk,p2,l2,length_map,hset,c2',ne]
          have far:(dv (D.set P[i].2.2.1.toNat ((k+1:Nat):Int)) P[i].2.1=k->0<=dv (D.set P[i].2.2.1.toNat ((k+1:Nat):Int)) P[i].2.2.1)∧(dv (D.set P[i].2.2.1.toNat ((k+1:Nat):Int)) P[i].2.2.1=k->0<=dv (D.set P[i].2.2.1.toNat ((k+1:Nat):Int)) P[i].2.1):=by
           rw[d2];exact⟨fun _=>by omega,fun hh=>absurd hh (by omega)⟩
          exact⟨hlt,_,_,_,⟨e2,e5,e7,congrArg _ ws,trivial⟩, .rfl, .mk' j rfl (by simp[hl]) (set_there _ hj),lay2.next hlt far⟩
         ·have lay2:=stay (fun hh=>x2 hh.2) (fun hh=>y1 hh.1)
          simp only[go_sem,e2,e5,e7,e8,hz,hk2,hd,g1,g2,hj,hl,c1,c2,a0,b0,a1,b1,show (dv D P[i].2.1==(k:Int))=true by simpa using x1,x2,by1]
          exact⟨hlt,_,_,_,⟨e2,e5,e7,congrArg _ ws,trivial⟩, .rfl,oi,lay2⟩
        ·have lay2:=stay (fun hh=>x1 hh.1) (fun hh=>y1 hh.1)
         simp only[go_sem,e2,e5,e7,e8,hz,hk2,hd,g1,g2,hj,hl,c1,c2,a0,b0,a1,b1,show (dv D P[i].2.1==(k:Int))=false by simpa using x1,by1]
         exact⟨hlt,_,_,_,⟨e2,e5,e7,congrArg _ ws,trivial⟩, .rfl,oi,lay2⟩
      ·obtain rfl:i=P.length:=by omega
       have wk:=wsucc hkN (by omega)
       simp only[go_sem,show ¬((P.length:Int)<P.length) by omega,e2,e5,e7,e8]
       exact⟨hkN,D,t,_,⟨e2,e5,congrArg _ wk,trivial⟩, .rfl,oi,lay.lay he hs⟩
    ·obtain rfl:k=N:=by omega
     obtain⟨j,rfl,hj⟩:=id oi
     simp only[go_sem,show ¬((k:Int)<k) by omega,e2,e5,e7]
     have:=OF.ai [⟨[.int .i64 k, .slice a P.length 0],2, .rw⟩] oi rfl
     exact⟨D,this,lay.dst⟩
end
open Go.HH Go.Proofs
section
variable {h:Heap} {M:Nat->Prop}
set_option maxRecDepth 4000 in
theorem c_l2Way{n:Nat}(v:Value)(N:Nat)(P:List Pip)(x y:Int)(hv:NA n h v N P)(g:netGood N P)(hx:1<=x∧x<=N)(hy:1<=y∧y<=N)(hb:ball P y N x=true) :
  vCall [] Tryz.prog M 202 [v, .int .i64 x, .int .i64 y] h (fun r h'=>SI h' r (wayL P (dst P y N) y (dst P y N x).toNat x)∧h<+:h'):=by
 obtain⟨wp,rfl,sP0⟩:=id hv
 have sP:Sl h 4 wp (P.map pip):=sP0.1
 obtain⟨a,rfl⟩:=Sl.len4 sP
 have hN:N<=8:=by have:=g.2.1;omega
 have hP:P.length<=10:=g.2.2
 have he:=g.ends
 refine bo Tryz.func202 rfl rfl ?_
 simp only[go_sem]
 refine (c_l2Steps _ N P y (hv.mono (by simp)) g hy).go ?_
 rintro vD H ⟨⟨D,sD,aD⟩,hp⟩
 have hbox:hget H h.length=some ⟨[.int .i64 N, .slice a P.length 0],2, .rw⟩:=by
  refine hget_prefix hp ?_ |>.trans ?_
  ·simp
  ·simp[hget]
 have hpH:h<+:H:=(prefix_append _ _).trans hp
 replace sP:=sP.mono hpH
 have hl:=aD.len
 obtain⟨aa,rfl⟩:=AI.len sD
 obtain⟨idD,oD,kD,hvD,_,hkD,_,hdD,_,_,_,hatD⟩:=AI.at sD (by omega)
 obtain rfl:aa=some ⟨idD,oD,none⟩:=by simpa using hvD
 have cell: ∀z:Int,1<=z->z<=N->kD.cells[oD+z.toNat]? = some (.int .i64 (dst P y N z)):=fun z h1 h2=>by
  have:=hatD z.toNat (by omega)
  rw[this, ←aD.eq h1 h2,dv,List.getD,getElem?_eq_getElem (by omega)];rfl
 have hbx:=self_get hbox
 have d0:0<=dst P y N x:=by
  rw[←aD.eq hx.1 hx.2]
  exact ((aD.ok x hx.1 hx.2 N (le_refl _)).2 hb).1
 have hHl:h.length<=H.length:=hpH.length_le
 have dN:dst P y N x<=N:=by rw[←aD.eq hx.1 hx.2];exact (aD.rng x hx.1 hx.2).2
 refine vLoop.rank mo (dst P y N x).toNat (fun m e h'=> ∃(z:Int) (acc:List Int) (u:Heap) (v8:Value),Regs e [(1, .int .i64 z),(2, .int .i64 y),(3, .pointer (some ⟨h.length,0,none⟩)),(7, .slice (some ⟨idD,oD,none⟩) D.length 0),(8,v8)] ∧
  HeapIs h' (H++u)∧OF H.length 0 u v8 acc∧(1<=z∧z<=N)∧0<=dst P y N z∧(dst P y N z).toNat<=m∧acc.length+(dst P y N z).toNat<=8∧acc++wayL P (dst P y N) y (dst P y N z).toNat z=wayL P (dst P y N) y (dst P y N x).toNat x) ?_ ?_
 ·exact⟨x,[],_,_,⟨rfl,rfl,rfl,rfl,rfl,trivial⟩, .rfl, .mk' 0 rfl rfl rfl,hx,d0,le_refl _,by simp;omega,rfl⟩
 ·clear hb
  rintro m e _ ⟨z,acc,u,v8,⟨e1,e2,e3,e7,e8,_⟩,rfl,oi,hz,z0,hm,hln,hw⟩
  obtain⟨j,rfl,hj⟩:=id oi
  by_cases hzy:z=y
  ·subst hzy
   rw[wayL_end,append_nil] at hw
   simp only[go_sem,e1,e2,e3,e7,e8]
   refine⟨?_, ?_⟩
   ·rw[←hw]
    have:=OF.fi0 (m:=0) oi (zero_le _)
    exact FI.ai (n:=0) this |>.le (by simp)
   ·exact hpH.trans (prefix_append _ _)
  ·obtain⟨zp,q,hq,hnx,hqn,hqd⟩:=nx_some he hy aD hz.1 hz.2 z0 hzy
   simp only[go_sem,e1,e2,e3,e7,e8,show (z != y)=true by simpa using hzy]
   refine vLoop.count mo P.length (fun i e h'=> ∃(u:Heap),Regs e [(1, .int .i64 z),(2, .int .i64 y),(3, .pointer (some ⟨h.length,0,none⟩)),(7, .slice (some ⟨idD,oD,none⟩) D.length 0),(8, .slice (some ⟨H.length+(j+0),0,none⟩) acc.length 0),(9, .int .i64 i)] ∧
    HeapIs h' (H++u)∧u[j]? = some ⟨acc.map iv,1, .rw⟩∧∀(k:Nat) (hk:k<P.length),k<i->¬(0<oth P[k] z∧dst P y N (oth P[k] z)=dst P y N z-1)) ?_ ?_
   ·exact⟨u,⟨e1,e2,e3,e7,e8,rfl,trivial⟩, .rfl,hj,fun k _ hk=>absurd hk (by omega)⟩
   ·clear e1 e2 e3 e7 e8 hj oi
    rintro i e _ hi ⟨u,⟨e1,e2,e3,e7,e8,e9,_⟩,rfl,hj,hno⟩
    simp only[go_sem,e1,e2,e3,e7,e8,e9,hbx]
    by_cases hlt:i<P.length
    ·have hlt':i<(P.map pip).length:=by simpa using hlt
     have hz1:(i:Int)<P.length:=by omega
     have ws:=wsucc hlt (by omega)
     obtain⟨id2,o,K,hv',hk2,_,hd,hb,hrow,hat⟩:=sP.at hlt'
     obtain rfl:a=some ⟨id2,o,none⟩:=by simpa using hv'
     rw[getElem_map] at hrow
     simp only[pip] at hrow
     have hpi:=he _ (getElem_mem hlt)
     have cz:=cell z hz.1 hz.2
     have hkD2:=fun t=>hkD t
     have hw1:IntKind.i64.wrap (dst P y N z-1)=dst P y N z-1:=wrap64 (by omega)
     have ow1:own (List.length h) M (H.length+j) := .inl (by omega)
     have ow2:own (List.length h) M (H.length+u.length) := .inl (by omega)
     have more: ¬(0<oth P[i] z∧dst P y N (oth P[i] z)=dst P y N z-1)->∀(k:Nat) (hk:k<P.length),k<i+1->¬(0<oth P[k] z∧dst P y N (oth P[k] z)=dst P y N z-1):=fun hh k hk hki=>by
      by_cases hk3:k<i
      ·exact hno k hk hk3
      ·obtain rfl:k=i:=by omega
       exact hh
     by_cases c1:P[i].2.1=z
     ·have ho:oth P[i] z=P[i].2.2.1:=by rw[oth,if_pos c1.symm]
      have hpos:0<oth P[i] z:=by rw[ho];omega
      have co:=cell P[i].2.2.1 (by omega) (by omega)
      by_cases c2:dst P y N P[i].2.2.1=dst P y N z-1
      ·have hwl:=wayL_step he hy aD hz.1 hz.2 z0 hzy hlt hno (by rw[ho];exact⟨by omega,c2⟩)
       rw[ho] at hwl
       simp only[go_sem,e1,e2,e3,e7,e8,e9,hbx,hz1,hk2,hd,hb,hrow,show (P[i].2.1==z)=true by simpa using c1,show 0<P[i].2.2.1 by omega,show 0<=P[i].2.2.1 by omega,show P[i].2.2.1<(D.length:Int) by omega,show 0<=z by omega,show z<(D.length:Int) by omega,hkD2,hdD,cz,co,hw1,show (dst P y N P[i].2.2.1==dst P y N z-1)=true by simpa using c2,ow2,app_old hj,length_map,ow1]
       have hacc:(acc++ [P[i].1])++wayL P (dst P y N) y (dst P y N P[i].2.2.1).toNat P[i].2.2.1=wayL P (dst P y N) y (dst P y N x).toNat x:=by
        rw[←hw,hwl,append_assoc];rfl
       refine⟨by omega,by omega,(dst P y N z).toNat-1,by omega,P[i].2.2.1,acc++ [P[i].1],_,_,⟨rfl,e2,e3,e7,rfl,trivial⟩, .rfl, .mk' (u.length+2) ?_ (by simp) ?_,by omega,by omega,by omega,by simp;omega,hacc⟩
       ·simp;try omega
       ·refine (new_at (by simp;try omega)).trans ?_
        simp[iv]
      ·simp only[go_sem,e1,e2,e3,e7,e8,e9,hbx,hz1,hk2,hd,hb,hrow,show (P[i].2.1==z)=true by simpa using c1,show 0<P[i].2.2.1 by omega,show 0<=P[i].2.2.1 by omega,show P[i].2.2.1<(D.length:Int) by omega,show 0<=z by omega,show z<(D.length:Int) by omega,hkD2,hdD,cz,co,hw1,show (dst P y N P[i].2.2.1==dst P y N z-1)=false by simpa using c2,ow2]
       exact⟨hlt,_,⟨e1,e2,e3,e7,e8,congrArg _ ws,trivial⟩, .rfl,app_old hj _,more (fun hh=>c2 (by have:=hh.2;rwa [ho] at this))⟩
     ·by_cases c3:P[i].2.2.1=z
      ·have ho:oth P[i] z=P[i].2.1:=by rw[oth,if_neg (Ne.symm c1),if_pos c3.symm]
       have hpos:0<oth P[i] z:=by rw[ho];omega
       have co:=cell P[i].2.1 (by omega) (by omega)
       by_cases c2:dst P y N P[i].2.1=dst P y N z-1
       ·have hwl:=wayL_step he hy aD hz.1 hz.2 z0 hzy hlt hno (by rw[ho];exact⟨by omega,c2⟩)
        rw[ho] at hwl
        simp only[go_sem,e1,e2,e3,e7,e8,e9,hbx,hz1,hk2,hd,hb,hrow,show (P[i].2.1==z)=false by simpa using c1,show (P[i].2.2.1==z)=true by simpa using c3,show 0<P[i].2.1 by omega,show 0<=P[i].2.1 by omega,show P[i].2.1<(D.length:Int) by omega,show 0<=z by omega,show z<(D.length:Int) by omega,hkD2,hdD,cz,co,hw1,show (dst P y N P[i].2.1==dst P y N z-1)=true by simpa using c2,ow2,app_old hj,length_map,ow1]
        have hacc:(acc++ [P[i].1])++wayL P (dst P y N) y (dst P y N P[i].2.1).toNat P[i].2.1=wayL P (dst P y N) y (dst P y N x).toNat x:=by
         rw[←hw,hwl,append_assoc];rfl
        refine⟨by omega,by omega,(dst P y N z).toNat-1,by omega,P[i].2.1,acc++ [P[i].1],_,_,⟨rfl,e2,e3,e7,rfl,trivial⟩, .rfl, .mk' (u.length+2) ?_ (by simp) ?_,by omega,by omega,by omega,by simp;omega,hacc⟩
        ·simp;try omega
        ·refine (new_at (by simp;try omega)).trans ?_
         simp[iv]
       ·simp only[go_sem,e1,e2,e3,e7,e8,e9,hbx,hz1,hk2,hd,hb,hrow,show (P[i].2.1==z)=false by simpa using c1,show (P[i].2.2.1==z)=true by simpa using c3,show 0<P[i].2.1 by omega,show 0<=P[i].2.1 by omega,show P[i].2.1<(D.length:Int) by omega,show 0<=z by omega,show z<(D.length:Int) by omega,hkD2,hdD,cz,co,hw1,show (dst P y N P[i].2.1==dst P y N z-1)=false by simpa using c2,ow2]
        exact⟨hlt,_,⟨e1,e2,e3,e7,e8,congrArg _ ws,trivial⟩, .rfl,app_old hj _,more (fun hh=>c2 (by have:=hh.2;rwa [ho] at this))⟩
      ·have ho:oth P[i] z=0:=by rw[oth,if_neg (Ne.symm c1),if_neg (Ne.symm c3)]
       simp only[go_sem,e1,e2,e3,e7,e8,e9,hbx,hz1,hk2,hd,hb,hrow,show (P[i].2.1==z)=false by simpa using c1,show (P[i].2.2.1==z)=false by simpa using c3,ow2]
       exact⟨hlt,_,⟨e1,e2,e3,e7,e8,congrArg _ ws,trivial⟩, .rfl,app_old hj _,more (fun hh=>by have:=hh.1;rw[ho] at this;omega)⟩
    ·obtain rfl:i=P.length:=by omega
     exfalso
     obtain⟨k,hk,rfl⟩:=mem_iff_getElem.1 hq
     exact hno k hk hk ⟨by omega,hqd⟩
theorem c_sShortestWay{n:Nat}(v:Value)(N:Int)(P:List Pip)(x y:Int)(hv:NA n h v N P)(hP:P.length<=1048576) :
  vCall [] Tryz.prog M 158 [v, .int .i64 x, .int .i64 y] h (fun r h'=>(∃w,r = .tuple #[w, .bool (decide (wayOk N P x y))]∧SI h' w (wayR N P x y))∧h<+:h'):=by
 obtain⟨wp,rfl,sP0⟩:=id hv
 have sP:Sl h 4 wp (P.map pip):=sP0.1
 obtain⟨a,rfl⟩:=Sl.len4 sP
 have no: ∀H:Heap,¬wayOk N P x y->∃w,Value.tuple #[.slice (some ⟨H.length,0,none⟩) 0 0, .bool false] = .tuple #[w, .bool (decide (wayOk N P x y))]∧SI (H++ [⟨[],1, .rw⟩]) w (wayR N P x y):=fun H hn=>by
  refine⟨_,by rw[decide_eq_false hn], ?_⟩
  rw[wayR,if_neg hn]
  exact FI.si (lo:=0) (hi:=(H++ [_]).length) (FI.at' rfl (by omega) (by simp) (by simp[hget])) (le_refl _)
 refine bo Tryz.func158 rfl rfl ?_
 simp only[go_sem]
 refine (c_l2NodeN _ N P x (hv.mono (by simp)) hP).go ?_
 rintro _ _⟨rfl,⟨t0,rfl⟩⟩
 by_cases h1:netGood N P∧1<=x∧x<=N
 ·simp only[go_sem,decb h1]
  refine (c_l2NodeN _ N P y (hv.mono (by simp)) hP).go ?_
  rintro _ _⟨rfl,⟨t1,rfl⟩⟩
  by_cases h2:netGood N P∧1<=y∧y<=N
  ·have g:=h1.1
   have hN:1<=N∧N<=8:=g.2.1
   obtain⟨N,rfl⟩: ∃N':Nat,N=N':=⟨N.toNat,by omega⟩
   simp only[go_sem,decb h1,decb h2]
   refine (c_l2Reached _ N P x (hv.mono (by simp)) g.ends (by omega) g.2.2 h1.2).go ?_
   rintro vS _ ⟨⟨S,sS,hS1,hS2⟩,⟨t3,rfl⟩⟩
   try simp only[append_assoc,cons_append] at sS
   simp only[go_sem,decb h1,decb h2]
   refine (c_l1Has _ S _ sS (by omega)).go ?_
   rintro _ _⟨rfl,rfl⟩
   by_cases h3:y∈S
   ·have hb:ball P y N x=true:=ball_symm ((hS2 y).1 h3)
    have ok:wayOk N P x y:=⟨g,h1.2,h2.2,by rw[Int.toNat_natCast];exact hb⟩
    simp only[go_sem,decb h1,decb h2,decb h3]
    refine (c_l2Way _ N P x y (hv.mono (by simp)) g h1.2 h2.2 hb).go ?_
    rintro vw _ ⟨sw,⟨t4,rfl⟩⟩
    try simp only[append_assoc,cons_append] at sw
    simp only[go_sem,decb h1,decb h2,decb h3]
    refine⟨_,by rw[decide_eq_true ok], ?_⟩
    rw[wayR,if_pos ok,Int.toNat_natCast]
    exact sw
   ·have nok: ¬wayOk N P x y:=fun hh=>h3 ((hS2 y).2 (ball_symm (by have:=hh.2.2.2;rwa [Int.toNat_natCast] at this)))
    simp only[go_sem,decb h1,decb h2,dect h3]
    have:=no (h++(⟨[.int .i64 N, .slice a P.length 0],2, .rw⟩::(t0++(t1++t3)))) nok
    simpa using this
  ·have nok: ¬wayOk N P x y:=fun hh=>h2 ⟨hh.1,hh.2.2.1⟩
   simp only[go_sem,decb h1,dect h2]
   have:=no (h++(⟨[.int .i64 N, .slice a P.length 0],2, .rw⟩::(t0++t1))) nok
   simpa using this
 ·have nok: ¬wayOk N P x y:=fun hh=>h1 ⟨hh.1,hh.2.1⟩
  simp only[go_sem,dect h1]
  have:=no (h++(⟨[.int .i64 N, .slice a P.length 0],2, .rw⟩::t0)) nok
  simpa using this
set_option maxRecDepth 4000 in
theorem c_ShortestWay{n:Nat}(v:Value)(N:Int)(P:List Pip)(x y:Int)(hv:NA n h v N P)(hP:P.length<=1048576) :
  vCall [] Tryz.prog M 145 [v, .int .i64 x, .int .i64 y] h (fun r h'=>(∃w,r = .tuple #[w, .bool (decide (wayOk N P x y))]∧SI h' w (wayR N P x y))∧h<+:h'):=by
 obtain⟨wp,rfl,sP0⟩:=id hv
 have sP:Sl h 4 wp (P.map pip):=sP0.1
 obtain⟨a,rfl⟩:=Sl.len4 sP
 have no: ∀H:Heap,¬wayOk N P x y->∃w,Value.tuple #[.slice none 0 0, .bool false] = .tuple #[w, .bool (decide (wayOk N P x y))]∧SI H w (wayR N P x y):=fun H hn=>by
  refine⟨_,by rw[decide_eq_false hn], ?_⟩
  rw[wayR,if_neg hn]
  exact AI.none
 refine bo Tryz.func145 rfl rfl ?_
 simp only[go_sem]
 refine (c_hasNode _ N P x (hv.mono (by simp)) hP).go ?_
 rintro _ _⟨rfl,⟨t0,rfl⟩⟩
 by_cases h1:netGood N P∧1<=x∧x<=N
 ·simp only[go_sem,decb h1]
  refine (c_has N _ y).go ?_
  rintro _ _⟨rfl,⟨t1,rfl⟩⟩
  by_cases h2:1<=y∧y<=N
  ·have g:=h1.1
   have hN:1<=N∧N<=8:=g.2.1
   have hP10:P.length<=10:=g.2.2
   have he:=g.ends
   have hx:=h1.2
   obtain⟨N,rfl⟩: ∃N':Nat,N=N':=⟨N.toNat,by omega⟩
   simp only[go_sem,decb h1,decb h2]
   refine (c_distances _ N P y 0 (hv.mono (by simp)) g h2).go ?_
   rintro vD H ⟨⟨D,fD,bD⟩,hp⟩
   have hbox:hget H h.length=some ⟨[.int .i64 N, .slice a P.length 0],2, .rw⟩:=by
    refine hget_prefix hp ?_ |>.trans ?_
    ·simp
    ·simp[hget]
   have hpH:h<+:H:=(prefix_append _ _).trans hp
   have hHl:h.length<=H.length:=hpH.length_le
   replace sP:=sP.mono hpH
   rw[but_none (fun p hp=>by have:=g.ids p hp;omega)] at bD
   have aD:=bD.dst he h2
   have hl:=aD.len
   have sD:=fD.si (le_refl _)
   obtain⟨aa,rfl⟩:=AI.len sD
   obtain⟨idD,oD,kD,hvD,_,hkD,_,hdD,_,_,_,hatD⟩:=AI.at sD (by omega)
   obtain rfl:aa=some ⟨idD,oD,none⟩:=by simpa using hvD
   have cell: ∀z:Int,1<=z->z<=N->kD.cells[oD+z.toNat]? = some (.int .i64 (dst P y N z)):=fun z h1 h2=>by
    have:=hatD z.toNat (by omega)
    rw[this, ←aD.eq h1 h2,dv,List.getD,getElem?_eq_getElem (by omega)];rfl
   have hbx:=self_get hbox
   have cx:=cell x hx.1 hx.2
   have dN:dst P y N x<=N:=by rw[←aD.eq hx.1 hx.2];exact (aD.rng x hx.1 hx.2).2
   have hkD2:=fun t=>hkD t
   have l0:0<=x:=by omega
   have l1:x<(D.length:Int):=by omega
   simp only[go_sem,decb h1,decb h2,hkD2,hdD,cx,l0,l1]
   by_cases d0:dst P y N x<0
   ·have nok: ¬wayOk N P x y:=fun hh=>by
     have:=(aD.ok x hx.1 hx.2 N (le_refl _)).2 (by have:=hh.2.2.2;rwa [Int.toNat_natCast] at this)
     rw[aD.eq hx.1 hx.2] at this
     omega
    simp only[go_sem,d0]
    exact⟨no _ nok,hpH.trans (prefix_append _ _)⟩
   ·have hb:ball P y N x=true:=(aD.ok x hx.1 hx.2 N (le_refl _)).1 ⟨by rw[aD.eq hx.1 hx.2];omega,(aD.rng x hx.1 hx.2).2⟩
    have ok:wayOk N P x y:=⟨g,hx,h2,by rw[Int.toNat_natCast];exact hb⟩
    simp only[go_sem,d0]
    replace d0:0<=dst P y N x:=by omega
    refine vLoop.rank mo (dst P y N x).toNat (fun m e h'=> ∃(z:Int) (acc:List Int) (u:Heap) (v8:Value),Regs e [(1, .int .i64 z),(2, .int .i64 y),(3, .pointer (some ⟨h.length,0,none⟩)),(8, .slice (some ⟨idD,oD,none⟩) D.length 0),(9,v8)] ∧
     HeapIs h' (H++u)∧OF H.length 0 u v8 acc∧(1<=z∧z<=N)∧0<=dst P y N z∧(dst P y N z).toNat<=m∧acc.length+(dst P y N z).toNat<=8∧acc++wayL P (dst P y N) y (dst P y N z).toNat z=wayL P (dst P y N) y (dst P y N x).toNat x) ?_ ?_
    ·exact⟨x,[],_,_,⟨rfl,rfl,rfl,rfl,rfl,trivial⟩, .rfl, .mk' 0 rfl rfl rfl,hx,d0,le_refl _,by simp;omega,rfl⟩
    ·clear hb
     rintro m e _ ⟨z,acc,u,v8,⟨e1,e2,e3,e8,e9,_⟩,rfl,oi,hz,z0,hm,hln,hw⟩
     obtain⟨j,rfl,hj⟩:=id oi
     by_cases hzy:z=y
     ·subst hzy
      rw[wayL_end,append_nil] at hw
      simp only[go_sem,e1,e2,e3,e8,e9]
      refine⟨⟨_,by rw[decide_eq_true ok], ?_⟩, ?_⟩
      ·rw[wayR,if_pos ok,Int.toNat_natCast, ←hw]
       have:=OF.fi0 (m:=0) oi (zero_le _)
       exact FI.ai (n:=0) this |>.le (by simp)
      ·exact hpH.trans (prefix_append _ _)
     ·obtain⟨zp,q,hq,hnx,hqn,hqd⟩:=nx_some he h2 aD hz.1 hz.2 z0 hzy
      simp only[go_sem,e1,e2,e3,e8,e9,hbx,show (z != y)=true by simpa using hzy]
      refine vLoop.count mo P.length (fun i e h'=> ∃(u:Heap),Regs e [(1, .int .i64 z),(2, .int .i64 y),(3, .pointer (some ⟨h.length,0,none⟩)),(8, .slice (some ⟨idD,oD,none⟩) D.length 0),(9, .slice (some ⟨H.length+(j+0),0,none⟩) acc.length 0),(36, .slice a P.length 0),(37, .int .i64 P.length),(38, .int .i64 i)] ∧
       HeapIs h' (H++u)∧u[j]? = some ⟨acc.map iv,1, .rw⟩∧∀(k:Nat) (hk:k<P.length),k<i->¬(0<oth P[k] z∧dst P y N (oth P[k] z)=dst P y N z-1)) ?_ ?_
      ·exact⟨u,⟨e1,e2,e3,e8,e9,rfl,rfl,rfl,trivial⟩, .rfl,hj,fun k _ hk=>absurd hk (by omega)⟩
      ·clear e1 e2 e3 e8 e9 hj oi
       rintro i e _ hi ⟨u,⟨e1,e2,e3,e8,e9,e36,e37,e38,_⟩,rfl,hj,hno⟩
       simp only[go_sem,e1,e2,e3,e8,e9,e36,e37,e38,hbx]
       by_cases hlt:i<P.length
       ·have hlt':i<(P.map pip).length:=by simpa using hlt
        have hz1:(i:Int)<P.length:=by omega
        have ws:=wsucc hlt (by omega)
        obtain⟨id2,o,K,hv',hk2,_,hd,hb,hrow,hat⟩:=sP.at hlt'
        obtain rfl:a=some ⟨id2,o,none⟩:=by simpa using hv'
        rw[getElem_map] at hrow
        simp only[pip] at hrow
        have hpi:=he _ (getElem_mem hlt)
        have cz:=cell z hz.1 hz.2
        have hw1:IntKind.i64.wrap (dst P y N z-1)=dst P y N z-1:=wrap64 (by omega)
        have ow1:own (List.length h) M (H.length+j) := .inl (by omega)
        have ow2:own (List.length h) M (H.length+u.length) := .inl (by omega)
        have more: ¬(0<oth P[i] z∧dst P y N (oth P[i] z)=dst P y N z-1)->∀(k:Nat) (hk:k<P.length),k<i+1->¬(0<oth P[k] z∧dst P y N (oth P[k] z)=dst P y N z-1):=fun hh k hk hki=>by
         by_cases hk3:k<i
         ·exact hno k hk hk3
         ·obtain rfl:k=i:=by omega
          exact hh
        have z00:0<=z:=by omega
        have z01:z<(D.length:Int):=by omega
        simp only[go_sem,e1,e2,e3,e8,e9,e36,e37,e38,hbx,hz1,hk2,hd,hb,hrow,ow2]
        refine (c_other P[i] z).go ?_
        rintro _ _⟨rfl,⟨t2,rfl⟩⟩
        by_cases c1:0<oth P[i] z
        ·have hor:=oth_range hpi c1
         have co:=cell (oth P[i] z) hor.1 hor.2
         have n0:0<=oth P[i] z:=by omega
         have n1:oth P[i] z<(D.length:Int):=by omega
         by_cases c2:dst P y N (oth P[i] z)=dst P y N z-1
         ·have hwl:=wayL_step he h2 aD hz.1 hz.2 z0 hzy hlt hno ⟨c1,c2⟩
          simp only[go_sem,e1,e2,e3,e8,e9,e36,e37,e38,hbx,c1,n0,n1,z00,z01,hkD2,hdD,cz,co,hw1,show (dst P y N (oth P[i] z)==dst P y N z-1)=true by simpa using c2,ow2,app_old hj,length_map,ow1]
          have hacc:(acc++ [P[i].1])++wayL P (dst P y N) y (dst P y N (oth P[i] z)).toNat (oth P[i] z)=wayL P (dst P y N) y (dst P y N x).toNat x:=by
           rw[←hw,hwl,append_assoc];rfl
          refine⟨by omega,by omega,(dst P y N z).toNat-1,by omega,oth P[i] z,acc++ [P[i].1],_,_,⟨rfl,e2,e3,e8,rfl,trivial⟩, .rfl, .mk' (u.length+(t2.length+2)) ?_ (by simp) ?_,hor,by omega,by omega,by simp;omega,hacc⟩
          ·simp;try omega
          ·refine (new_at (by simp;try omega)).trans ?_
           simp[iv]
         ·simp only[go_sem,e1,e2,e3,e8,e9,e36,e37,e38,hbx,c1,n0,n1,z00,z01,hkD2,hdD,cz,co,hw1,show (dst P y N (oth P[i] z)==dst P y N z-1)=false by simpa using c2,ow2]
          exact⟨hlt,_,⟨e1,e2,e3,e8,e9,e36,e37,congrArg _ ws,trivial⟩, .rfl,app_old hj _,more (fun hh=>c2 hh.2)⟩
        ·simp only[go_sem,e1,e2,e3,e8,e9,e36,e37,e38,hbx,c1]
         exact⟨hlt,_,⟨e1,e2,e3,e8,e9,e36,e37,congrArg _ ws,trivial⟩, .rfl,app_old hj _,more (fun hh=>c1 hh.1)⟩
       ·obtain rfl:i=P.length:=by omega
        exfalso
        obtain⟨k,hk,rfl⟩:=mem_iff_getElem.1 hq
        exact hno k hk hk ⟨by omega,hqd⟩
  ·have nok: ¬wayOk N P x y:=fun hh=>h2 hh.2.2.1
   simp only[go_sem,decb h1,dect h2]
   exact no _ nok
 ·have nok: ¬wayOk N P x y:=fun hh=>h1 ⟨hh.1,hh.2.1⟩
  simp only[go_sem,dect h1]
  exact no _ nok
end
open Go.HH
theorem shr_nat{a i:Nat}(hi:i<=63):((a:Int)).fdiv (2 ^ (min ((i:Int)).toNat IntKind.i64.bits))=((a >>> i:Nat):Int):=by
 have e:min ((i:Int)).toNat IntKind.i64.bits=i:=by
  rw[Int.toNat_natCast];exact min_eq_left (by show i<=64;omega)
 rw[e,Int.fdiv_eq_ediv_of_nonneg _ (Int.pow_nonneg (by decide)),Nat.shiftRight_eq_div_pow]
 simp
theorem and_one{n:Nat}:IntKind.i64.wrap ((BitVec.ofInt IntKind.i64.bits (n:Int) &&& BitVec.ofInt IntKind.i64.bits 1).toNat:Int)=((n%2:Nat):Int):=by
 have e:(BitVec.ofInt IntKind.i64.bits (n:Int) &&& BitVec.ofInt IntKind.i64.bits 1).toNat=n%2:=by
  rw[BitVec.toNat_and]
  have h1:(BitVec.ofInt IntKind.i64.bits (n:Int)).toNat=n%2 ^ 64:=by rw[BitVec.ofInt_natCast,BitVec.toNat_ofNat];rfl
  have h2:(BitVec.ofInt IntKind.i64.bits 1).toNat=1:=by decide
  rw[h1,h2,Nat.and_one_is_mod,Nat.mod_mod_of_dvd _ (by decide)]
 rw[e,IntWalk.i64_in _ (by have:=Nat.mod_lt n (show 2>0 by omega);omega)]
theorem bit_eq{s i:Nat}:(((s >>> i%2:Nat):Int)==1)=s.testBit i:=by
 rw[Nat.testBit_eq_decide_div_mod_eq,Nat.shiftRight_eq_div_pow]
 generalize s/2 ^ i=m
 rw[Bool.eq_iff_iff,beq_iff_eq,decide_eq_true_iff]
 omega
theorem shl_one{n:Nat}(hn:n<=60):IntKind.i64.wrap (1*2 ^ (min ((n:Int)).toNat IntKind.i64.bits))=((2 ^ n:Nat):Int):=by
 have e:min ((n:Int)).toNat IntKind.i64.bits=n:=by
  rw[Int.toNat_natCast];exact min_eq_left (by show n<=64;omega)
 have h1:(2:Nat) ^ n<=2 ^ 60:=Nat.pow_le_pow_right (by omega) hn
 have e3:(2:Int) ^ n=((2 ^ n:Nat):Int):=by simp
 rw[e,Int.one_mul,e3]
 obtain⟨m,hm⟩: ∃m:Nat,2 ^ n=m:=⟨_,rfl⟩
 rw[hm] at h1 ⊢
 exact IntWalk.i64_in _ (by omega)
theorem shl_one'{n:Nat}(hn:n<=60):IntKind.i64.wrap (1*2 ^ min n 64)=((2 ^ n:Nat):Int):=shl_one hn
theorem shr_nat'{a i:Nat}(hi:i<=63):((a:Int)).fdiv (2 ^ min i 64)=((a >>> i:Nat):Int):=shr_nat hi
theorem hBin_bit{n:Nat}:hBin .and (.int .i64 (n:Int)) (.int .i64 1)=some (.int .i64 ((n%2:Nat):Int)):=by rw[hBin_and,and_one]
def choice(L:List Int)(s:Nat)(i:Nat):List Int:=((List.range i).filter fun j=>s.testBit j).map fun j=>L.getD j 0
theorem choice_yes{L:List Int}{s i:Nat}(hi:i<L.length)(h:s.testBit i=true):choice L s (i+1)=choice L s i++ [L[i]]:=by
 simp only[choice,List.range_succ,List.filter_append,map_append,List.filter_cons,List.filter_nil]
 rw[if_pos h];simp[List.getD,hi]
theorem choice_no{L:List Int}{s i:Nat}(h:s.testBit i=false):choice L s (i+1)=choice L s i:=by
 simp only[choice,List.range_succ,List.filter_append,map_append,List.filter_cons,List.filter_nil]
 rw[if_neg (by simp[h])];simp
theorem choice_len{L:List Int}{s i:Nat}:(choice L s i).length<=i:=by
 unfold choice
 rw[length_map]
 exact le_trans (List.length_filter_le _ _) (by simp)
theorem choice_mem{L:List Int}{s i:Nat}(hi:i<=L.length): ∀x∈choice L s i,x∈L:=by
 intro x hx
 obtain⟨j,hj,rfl⟩:=mem_map.1 hx
 have:j<L.length:=by have:=mem_range.1 (mem_filter.1 hj).1;omega
 simp[List.getD,this]
def lexL:List Int->List Int->Bool
 | a::xs,b::ys=>if a=b then lexL xs ys else decide (a<b)
 | _,_=>false
def cmpL:List Int->List Int->Int
 | [],[]=>0
 | [],_::_ => -1
 | _::_,[]=>1
 | a::xs,b::ys=>if a<b then -1 else if b<a then 1 else cmpL xs ys
theorem cmpL_lex: ∀ {a b:List Int},a.length=b.length->(cmpL a b<0↔lexL a b=true)
 | [],[],_=>by simp[cmpL,lexL]
 | a::xs,b::ys,h=>by
  unfold cmpL lexL
  by_cases h1:a<b
  ·rw[if_pos h1,if_neg (by omega)];simp[h1]
  ·rw[if_neg h1]
   by_cases h2:b<a
   ·rw[if_pos h2,if_neg (by omega)];simp[h1]
   ·rw[if_neg h2,if_pos (by omega)]
    exact cmpL_lex (by simpa using h)
 | [],_::_,h=>by simp at h
 | _::_,[],h=>by simp at h
theorem cmpL_drop{a b:List Int}: ∀ {i:Nat},i<=a.length->i<=b.length->(∀(j:Nat) (h1:j<a.length) (h2:j<b.length),j<i->a[j]=b[j])->cmpL a b=cmpL (a.drop i) (b.drop i)
 | 0,_,_,_=>rfl
 | i+1,h1,h2,h=>by
  rw[cmpL_drop (i:=i) (by omega) (by omega) (fun j g1 g2 hj=>h j g1 g2 (by omega))]
  have e:=h i (by omega) (by omega) (by omega)
  rw[drop_eq_getElem_cons (show i<a.length by omega),drop_eq_getElem_cons (show i<b.length by omega),e]
  conv=>lhs;unfold cmpL
  rw[if_neg (Int.lt_irrefl _),if_neg (Int.lt_irrefl _)]
theorem lexL_drop{a b:List Int}: ∀ {i:Nat},i<=a.length->i<=b.length->(∀(j:Nat) (h1:j<a.length) (h2:j<b.length),j<i->a[j]=b[j])->lexL a b=lexL (a.drop i) (b.drop i)
 | 0,_,_,_=>rfl
 | i+1,h1,h2,h=>by
  rw[lexL_drop (i:=i) (by omega) (by omega) (fun j g1 g2 hj=>h j g1 g2 (by omega))]
  have e:=h i (by omega) (by omega) (by omega)
  rw[drop_eq_getElem_cons (show i<a.length by omega),drop_eq_getElem_cons (show i<b.length by omega),e]
  conv=>lhs;unfold lexL
  rw[if_pos rfl]
section
variable {h:Heap} {M:Nat->Prop}
theorem c_isNaN(x:Int):vCall [] Tryz.prog M 265 [.int .i64 x] h (fun r h'=>r = .bool false∧h=h'):=by
 refine bo Tryz.func265 rfl rfl ?_
 simp only[go_sem]
theorem c_Compare(x y:Int):vCall [] Tryz.prog M 255 [.int .i64 x, .int .i64 y] h (fun r h'=>r = .int .i64 (if x<y then -1 else if y<x then 1 else 0)∧h=h'):=by
 refine bo Tryz.func255 rfl rfl ?_
 simp only[go_sem]
 refine (c_isNaN _).go ?_
 rintro _ _⟨rfl,rfl⟩
 try simp only[go_sem]
 refine (c_isNaN _).go ?_
 rintro _ _⟨rfl,rfl⟩
 simp only[go_sem]
 by_cases h1:x<y
 ·simp only[go_sem,h1]
 ·by_cases h2:y<x
  ·simp only[go_sem,h1,h2]
  ·simp only[go_sem,h1,h2]
theorem c_sCompare{n m:Nat}(v w:Value)(a b:List Int)(s:AI n h v a)(s':AI m h w b)(hmax:a.length<=1048576)(hmax':b.length<=1048576) :
  vCall [] Tryz.prog M 228 [v,w] h (fun r h'=>r = .int .i64 (cmpL a b)∧h=h'):=by
 obtain⟨p,rfl⟩:=s.len
 obtain⟨q,rfl⟩:=s'.len
 refine bo Tryz.func228 rfl rfl ?_
 simp only[go_sem]
 refine vLoop.count mo a.length (fun i e h'=>Regs e [(0, .slice p a.length 0),(1, .slice q b.length 0),(9, .slice p a.length 0),(10, .int .i64 a.length),(11, .int .i64 i)]∧HeapIs h' h∧i<=b.length ∧
  ∀(j:Nat) (h1:j<a.length) (h2:j<b.length),j<i->a[j]=b[j]) ?_ ?_
 ·exact⟨⟨rfl,rfl,rfl,rfl,rfl,trivial⟩, .rfl,by omega,fun j _ _ hj=>absurd hj (by omega)⟩
 ·rintro i e H hi ⟨⟨e0,e1,e9,e10,e11,_⟩,rfl,hib,hsame⟩
  have hd:=cmpL_drop hi hib hsame
  simp only[go_sem,e0,e1,e9,e10,e11]
  by_cases hlt:i<a.length
  ·have ws:=wsucc hlt (by omega)
   have hz:(i:Int)<a.length:=by omega
   obtain⟨id,o,k,hv,_,_,hk,hkd,_,_,_,hat⟩:=s.at (zero_lt_of_lt hlt)
   obtain rfl:p=some ⟨id,o,none⟩:=by simpa using hv
   simp only[go_sem,e0,e1,e9,e10,e11,hz,hk,hkd,hat i hlt]
   by_cases h2:i<b.length
   ·obtain⟨id2,o2,k2,hv2,_,_,hk2,hkd2,_,_,_,hat2⟩:=s'.at (zero_lt_of_lt h2)
    obtain rfl:q=some ⟨id2,o2,none⟩:=by simpa using hv2
    have hz2:(i:Int)<b.length:=by omega
    rw[drop_eq_getElem_cons hlt,drop_eq_getElem_cons h2] at hd
    simp only[go_sem,e0,e1,e9,e10,e11,hz2,show ¬((b.length:Int)<=i) by omega,hk2,hkd2,hat2 i h2]
    refine (c_Compare _ _).go ?_
    rintro _ _⟨rfl,rfl⟩
    by_cases c1:a[i]<b[i]
    ·simp only[go_sem,e0,e1,e9,e10,e11,c1,show ((-1:Int) != 0)=true by decide]
     rw[hd,cmpL,if_pos c1]
    ·by_cases c2:b[i]<a[i]
     ·simp only[go_sem,e0,e1,e9,e10,e11,c1,c2,show ((1:Int) != 0)=true by decide]
      rw[hd,cmpL,if_neg c1,if_pos c2]
     ·simp only[go_sem,e0,e1,e9,e10,e11,c1,c2]
      refine⟨hlt,⟨e0,e1,e9,e10,congrArg _ ws,trivial⟩, .rfl,by omega,fun j h1 h2 hj => ?_⟩
      by_cases hji:j<i
      ·exact hsame j h1 h2 hji
      ·obtain rfl:j=i:=by omega
       omega
   ·simp only[go_sem,e0,e1,e9,e10,e11,show (b.length:Int)<=i by omega]
    rw[hd,drop_eq_getElem_cons hlt,List.drop_of_length_le (show b.length<=i by omega)]
    rfl
  ·obtain rfl:i=a.length:=by omega
   rw[List.drop_length] at hd
   simp only[go_sem,e0,e1,e9,e10,e11,show ¬((a.length:Int)<a.length) by omega]
   by_cases h2:a.length<b.length
   ·simp only[go_sem,e0,e1,e9,e10,e11,show (a.length:Int)<b.length by omega]
    rw[hd,drop_eq_getElem_cons h2];rfl
   ·simp only[go_sem,e0,e1,e9,e10,e11,show ¬((a.length:Int)<b.length) by omega]
    rw[hd,List.drop_of_length_le (by omega)];rfl
end
section
variable {h:Heap} {M:Nat->Prop}
set_option maxRecDepth 20000 in
end
open Go.HH Go.Proofs
def shutV(V:List Vlv)(plan:List Int):List Vlv:=V.map fun v=>(v.1,v.2.1,v.2.2.1,v.2.2.2||decide (v.1∈plan))
theorem shutV_len{V:List Vlv}{plan:List Int}:(shutV V plan).length=V.length:=by simp[shutV]
theorem shutV_uniq{V:List Vlv}{plan:List Int}(u:vuniq V):vuniq (shutV V plan):=fun i m hi hm=>by
 have hi':i<V.length:=by simpa[shutV] using hi
 have:=u i m hi' hm
 simpa[shutV] using this
noncomputable def isoB(P:List Pip)(V:List Vlv)(s k:Nat)(plan:List Int):Bool := !decide (Rch P (opn (shutV V plan) true) s (9+k))
theorem blk_shut{V:List Vlv}{p q:List Int}(h: ∀v∈V,v.2.2.2=false->v.1∈p->v.1∈q){pid nd:Int}(hb:blk (shutV V p) pid nd true=true):blk (shutV V q) pid nd true=true:=by
 unfold blk shutV at *
 obtain⟨x,hx,hh⟩:=any_eq_true.1 hb
 obtain⟨v,hv,rfl⟩:=mem_map.1 hx
 refine any_eq_true.2 ⟨_,mem_map.2 ⟨v,hv,rfl⟩, ?_⟩
 simp only[Bool.and_eq_true,decide_eq_true_eq,Bool.not_true,Bool.false_or,Bool.or_eq_true] at hh ⊢
 refine⟨hh.1, ?_⟩
 cases hs:v.2.2.2 with
 | true=>exact .inl rfl
 | false=>
  rcases hh.2 with h1|h1
  ·rw[hs] at h1;cases h1
  ·exact .inr (h v hv hs h1)
theorem Rch.weaker{P:List Pip}{op op':Pip->Int->Bool}(h: ∀p nd,op p nd=true->op' p nd=true){s x:Nat}(r:Rch P op s x):Rch P op' s x:=by
 induction r with
 | here=>exact .here
 | step _ l ih=>
  obtain⟨i,hi,nd,a,b,c⟩:=l
  exact .step ih ⟨i,hi,nd,a,h _ _ b,c⟩
theorem iso_more{P:List Pip}{V:List Vlv}{s k:Nat}{p q:List Int}(h: ∀v∈V,v.2.2.2=false->v.1∈p->v.1∈q)(hi:isoB P V s k p=true):isoB P V s k q=true:=by
 unfold isoB at *
 rw[Bool.not_eq_true',decide_eq_false_iff_not] at hi ⊢
 intro r
 refine hi (r.weaker fun pp nd ho => ?_)
 unfold opn at *
 rw[Bool.not_eq_true'] at ho ⊢
 cases hb:blk (shutV V p) pp.1 nd true
 ·rfl
 ·rw[blk_shut h hb] at ho;cases ho
def openVl(V:List Vlv):List Int:=(V.filter fun v => !v.2.2.2).map fun v=>v.1
theorem openVl_mem{V:List Vlv}{v:Vlv}(hv:v∈V)(ho:v.2.2.2=false):v.1∈openVl V:=mem_map.2 ⟨v,mem_filter.2 ⟨hv,by simp[ho]⟩,rfl⟩
theorem openVl_len{V:List Vlv}:(openVl V).length<=V.length:=by
 unfold openVl
 rw[length_map]
 exact List.length_filter_le _ _
noncomputable def bst(P:List Pip)(V:List Vlv)(s k:Nat):Nat->Option (List Int)
 | 0=>none
 | n+1=>if isoB P V s k (choice (openVl V) n (openVl V).length)=true then
   match bst P V s k n with
   | none=>some (choice (openVl V) n (openVl V).length)
   | some d=>if (choice (openVl V) n (openVl V).length).length<d.length∨((choice (openVl V) n (openVl V).length).length=d.length∧lexL (choice (openVl V) n (openVl V).length) d=true) then some (choice (openVl V) n (openVl V).length) else some d
  else bst P V s k n
theorem bst_none{P:List Pip}{V:List Vlv}{s k:Nat}(h:isoB P V s k (openVl V)=false)(n:Nat):bst P V s k n=none:=by
 induction n with
 | zero=>rfl
 | succ n ih=>
  rw[bst,if_neg,ih]
  intro hh
  have:=iso_more (q:=openVl V) (fun v hv ho _=>openVl_mem hv ho) hh
  rw[h] at this;cases this
theorem bst_len{P:List Pip}{V:List Vlv}{s k:Nat}: ∀ {n:Nat} {d:List Int},bst P V s k n=some d->d.length<=(openVl V).length
 | 0,d,h=>by cases h
 | n+1,d,h=>by
  unfold bst at h
  split at h
  ·split at h
   ·cases h;exact choice_len
   ·rename_i d' hd'
    split at h
    ·cases h;exact choice_len
    ·cases h;exact bst_len hd'
  ·exact bst_len h
section
variable {h:Heap} {M:Nat->Prop}
theorem c_sIndexI{n:Nat}(v:Value)(l:List Int)(x:Int)(s:AI n h v l)(hmax:l.length<=1048576):vCall [] Tryz.prog M 266 [v, .int .i64 x] h (fun r h'=>(∃z,r = .int .i64 z∧(0<=z↔x∈l))∧h=h'):=by
 obtain⟨a,rfl⟩:=s.len
 refine bo Tryz.func266 rfl rfl ?_
 simp only[go_sem]
 refine vLoop.count mo l.length (fun i e h'=>Regs e [(0, .slice a l.length 0),(1, .int .i64 x),(7, .int .i64 l.length),(8, .int .i64 i)]∧HeapIs h' h∧x∉l.take i) ?_ ?_
 ·exact⟨⟨rfl,rfl,rfl,rfl,trivial⟩, .rfl,by simp⟩
 ·rintro i e _ hi ⟨⟨e0,e1,e7,e8,_⟩,rfl,hx⟩
  simp only[go_sem,e0,e1,e7,e8]
  by_cases hlt:i<l.length
  ·have ws:=wsucc hlt (by omega)
   have hz:(i:Int)<l.length:=by omega
   obtain⟨id,off,k,hv,_,_,hk,hd,_,_,_,hat⟩:=s.at (zero_lt_of_lt hlt)
   obtain rfl:a=some ⟨id,off,none⟩:=by simpa using hv
   simp only[go_sem,e0,e1,e7,e8,hk,hat i hlt,hz,hd]
   by_cases h2:x=l[i]
   ·simp only[go_sem,e0,e1,e7,e8,show (x==l[i])=true by simpa using h2]
    exact⟨i,rfl,⟨fun _=>h2▸getElem_mem hlt,fun _=>by omega⟩⟩
   ·simp only[go_sem,e0,e1,e7,e8,show (x==l[i])=false by simpa using h2]
    refine⟨hlt,⟨e0,e1,e7,congrArg _ ws,trivial⟩, .rfl, ?_⟩
    rw[take_add_one,getElem?_eq_getElem hlt,mem_append]
    simp[hx,h2]
  ·obtain rfl:i=l.length:=by omega
   rw[take_length] at hx
   simp only[go_sem,e0,e1,e7,e8,show ¬((l.length:Int)<l.length) by omega]
   exact⟨_,rfl,⟨fun hh=>absurd hh (by decide),fun hh=>absurd hh hx⟩⟩
theorem c_sContains{n:Nat}(v:Value)(l:List Int)(x:Int)(s:AI n h v l)(hmax:l.length<=1048576):vCall [] Tryz.prog M 264 [v, .int .i64 x] h (fun r h'=>r = .bool (decide (x∈l))∧h=h'):=by
 refine bo Tryz.func264 rfl rfl ?_
 simp only[go_sem]
 refine (c_sIndexI v l x s hmax).go ?_
 rintro _ _⟨⟨z,rfl,hz⟩,rfl⟩
 simp only[go_sem]
 exact congrArg Value.bool (decide_eq_decide.2 hz)
theorem set3{P Q:List Value}{x y z w d:Value}{n:Nat}(hn:P.length=n):setRange (P++x::y::z::w::Q) (n+3) [d]=P++x::y::z::d::Q:=by
 have e1:P++x::y::z::w::Q=(P++ [x,y,z])++w::Q:=by simp
 have hl:(P++ [x,y,z]).length=n+3:=by simp[hn]
 rw[e1,setRange, ←hl,take_left' rfl,length_singleton, ←drop_drop,drop_left' rfl]
 simp
theorem c_shutToo(w vp:Value)(V:List Vlv)(plan:List Int)(sv:Sl h 4 w (V.map vlv))(sp:SI h vp plan)(hV:V.length<=1000)(hp:plan.length<=1000) :
  vCall [] Tryz.prog M 254 [w,vp] h (fun r h'=>Sl h' 4 r ((shutV V plan).map vlv)∧h<+:h'):=by
 obtain⟨a,ew,_,_⟩:=id sv
 rw[length_map] at ew
 subst ew
 refine bo Tryz.func254 rfl rfl ?_
 by_cases v0:V= []
 ·subst v0
  simp only[go_sem]
  refine vLoop.count mo 0 (fun i e h'=>Regs e [(5, .slice (some ⟨h.length,0,none⟩) 0 0),(11, .int .i64 0),(12, .int .i64 0)]∧HeapIs h' (h++ [⟨[],4, .rw⟩])) ?_ ?_
  ·exact⟨⟨rfl,rfl,rfl,trivial⟩, .rfl⟩
  ·rintro i e _ hi ⟨⟨e5,e11,e12,_⟩,rfl⟩
   simp only[go_sem,e5,e11,e12]
   exact⟨_,rfl,fun r hr=>by simp[shutV] at hr,fun h0=>absurd rfl h0⟩
 ·have hv0:0<V.length:=length_pos_iff.2 v0
  obtain⟨id,off,k,ev,hk,hd,hbb,hfl⟩:=sv.copy (by simpa using v0)
  rw[length_map] at ev hbb hfl
  obtain rfl:a=some ⟨id,off,none⟩:=by simpa using ev
  simp only[go_sem,onApp_more hv0,hv0,oneVv,flV,hk,hd,hbb,hfl,show V.length<=9223372036854775807 by omega,show V.length*32<=140737488355328 by omega]
  refine vLoop.count mo V.length (fun i e h'=>Regs e [(1,vp),(5, .slice (some ⟨h.length+1,0,none⟩) V.length 0),(11, .int .i64 V.length),(12, .int .i64 i)] ∧
   HeapIs h' (h++ [⟨[],4, .dead⟩,⟨((shutV (V.take i) plan).map vlv).flatten++((V.drop i).map vlv).flatten,4, .rw⟩])) ?_ ?_
  ·exact⟨⟨rfl,rfl,rfl,rfl,trivial⟩, .rfl⟩
  ·rintro i e _ hi ⟨⟨e1,e5,e11,e12,_⟩,rfl⟩
   by_cases hlt:i<V.length
   ·have hz:(i:Int)<V.length:=by omega
    have ws:=wsucc hlt (by omega)
    have hPl:((shutV (V.take i) plan).map vlv).flatten.length=i*4:=by rw[flV,shutV_len,length_take];omega
    have hdr:((V.drop i).map vlv).flatten = .int .i64 V[i].1 :: .int .i64 V[i].2.1 :: .int .i64 V[i].2.2.1 :: .bool V[i].2.2.2::((V.drop (i+1)).map vlv).flatten:=by
     rw[drop_eq_getElem_cons hlt];rfl
    have hnext:((shutV (V.take (i+1)) plan).map vlv).flatten++((V.drop (i+1)).map vlv).flatten=((shutV (V.take i) plan).map vlv).flatten ++ .int .i64 V[i].1 :: .int .i64 V[i].2.1 :: .int .i64 V[i].2.2.1 :: .bool (V[i].2.2.2||decide (V[i].1∈plan))::((V.drop (i+1)).map vlv).flatten:=by
     rw[take_succ_eq_append_getElem hlt,shutV,map_append,map_append,flatten_append]
     simp[shutV,vlv]
    obtain⟨A,hA⟩: ∃A,A=((shutV (V.take i) plan).map vlv).flatten:=⟨_,rfl⟩
    obtain⟨B,hB⟩: ∃B,B=((V.drop (i+1)).map vlv).flatten:=⟨_,rfl⟩
    rw[hdr, ←hB, ←hA]
    rw[←hB, ←hA] at hnext
    rw[←hA] at hPl
    have i0:(A ++ .int .i64 V[i].1 :: .int .i64 V[i].2.1 :: .int .i64 V[i].2.2.1 :: .bool V[i].2.2.2::B)[i*4]? = some (.int .i64 V[i].1):=by
     rw[getElem?_append_right (by omega),hPl,sub_self];rfl
    have i3:(A ++ .int .i64 V[i].1 :: .int .i64 V[i].2.1 :: .int .i64 V[i].2.2.1 :: .bool V[i].2.2.2::B)[i*4+3]? = some (.bool V[i].2.2.2):=by
     rw[getElem?_append_right (by omega),hPl,add_sub_cancel_left];rfl
    have st: ∀d,setRange (A ++ .int .i64 V[i].1 :: .int .i64 V[i].2.1 :: .int .i64 V[i].2.2.1 :: .bool V[i].2.2.2::B) (i*4+3) [d]=A ++ .int .i64 V[i].1 :: .int .i64 V[i].2.1 :: .int .i64 V[i].2.2.1::d::B:=fun d=>set3 hPl
    have lst:i*4+3+1<=(A ++ .int .i64 V[i].1 :: .int .i64 V[i].2.1 :: .int .i64 V[i].2.2.1 :: .bool V[i].2.2.2::B).length:=by
     rw[length_append,hPl];simp only[length_cons];omega
    simp only[go_sem,e1,e5,e11,e12,hz,i0,i3,st]
    cases q:V[i].2.2.2 with
    | true=>
     rw[q] at i0 i3 st lst hnext
     rw[Bool.true_or] at hnext
     simp only[go_sem,e1,e5,e11,e12,hz,i0,i3,st,q]
     refine⟨by omega,hlt,⟨e1,e5,e11,congrArg _ ws,trivial⟩, ?_⟩
     rw[hnext]
     exact .rfl
    | false=>
     rw[q] at i0 i3 st lst hnext
     rw[Bool.false_or] at hnext
     simp only[go_sem,e1,e5,e11,e12,hz,i0,i3,st,q]
     refine (c_sContains vp plan _ (sp.mono (by simp)) (by omega)).go ?_
     rintro _ _⟨rfl,rfl⟩
     simp only[go_sem,e1,e5,e11,e12,hz,i0,i3,st,q]
     refine⟨by omega,hlt,⟨e1,e5,e11,congrArg _ ws,trivial⟩, ?_⟩
     rw[hnext]
     exact .rfl
   ·obtain rfl:i=V.length:=by omega
    simp only[go_sem,e1,e5,e11,e12,show ¬((V.length:Int)<V.length) by omega]
    rw[take_length,List.drop_length,List.map_nil,List.flatten_nil,append_nil]
    have:=Sl.whole (h:=h++ [⟨[],4, .dead⟩,⟨((shutV V plan).map vlv).flatten,4, .rw⟩]) (id:=h.length+1) (sz:=4) (rows:=(shutV V plan).map vlv) (esz:=4) (st := .rw) (by decide) (fun r hr=>by obtain⟨x,_,rfl⟩:=mem_map.1 hr;rfl) hget_lit1
    rw[length_map,shutV_len] at this
    exact this
def turnV(V:List Vlv)(i:Nat)(sh:Bool):List Vlv:=V.set i ((V.getD i vlv0).1,(V.getD i vlv0).2.1,(V.getD i vlv0).2.2.1,sh)
theorem turnV_len{V:List Vlv}{i:Nat}{sh:Bool}:(turnV V i sh).length=V.length:=by simp[turnV]
theorem turnV_flat{V:List Vlv}{i:Nat}{sh:Bool}(hi:i<V.length):((turnV V i sh).map vlv).flatten=((V.take i).map vlv).flatten ++ .int .i64 V[i].1 :: .int .i64 V[i].2.1 :: .int .i64 V[i].2.2.1 :: .bool sh::((V.drop (i+1)).map vlv).flatten:=by
 rw[turnV,getDv hi,List.set_eq_take_append_cons_drop,if_pos hi,map_append,flatten_append]
 rfl
theorem flat_cut{V:List Vlv}{i:Nat}(hi:i<V.length):(V.map vlv).flatten=((V.take i).map vlv).flatten ++ .int .i64 V[i].1 :: .int .i64 V[i].2.1 :: .int .i64 V[i].2.2.1 :: .bool V[i].2.2.2::((V.drop (i+1)).map vlv).flatten:=by
 conv=>lhs;rw[←take_append_drop i V,drop_eq_getElem_cons hi,map_append,flatten_append]
 rfl
theorem set4all{P Q:List Value}{x y z w a b c d:Value}{n:Nat}(hn:P.length=n):setRange (P++x::y::z::w::Q) n [a,b,c,d]=P++a::b::c::d::Q:=by
 have e1:P++x::y::z::w::Q=P++([x,y,z,w]++Q):=by simp
 rw[e1,setRange, ←hn,take_left' rfl, ←drop_drop,drop_left' rfl]
 simp
theorem c_l4Turned(w:Value)(V:List Vlv)(i:Nat)(sh:Bool)(sv:Sl h 4 w (V.map vlv))(hi:i<V.length)(hV:V.length<=1000) :
  vCall [] Tryz.prog M 192 [w, .int .i64 i, .bool sh] h (fun r h'=>Sl h' 4 r ((turnV V i sh).map vlv)∧h<+:h'):=by
 obtain⟨a,ew,_,_⟩:=id sv
 rw[length_map] at ew
 subst ew
 have hv0:0<V.length:=by omega
 have hz:(i:Int)<V.length:=by omega
 have z0:(0:Int)<=i:=by omega
 obtain⟨id,off,k,ev,hk,hd,hbb,hfl⟩:=sv.copy (by have:=length_pos_iff.1 hv0;simpa using this)
 rw[length_map] at ev hbb hfl
 obtain rfl:a=some ⟨id,off,none⟩:=by simpa using ev
 have hone:=oneVv V
 have hlen:=flV V
 have hT:=turnV_flat (sh:=sh) hi
 rw[flat_cut hi] at hfl hone hlen
 have hPl:((V.take i).map vlv).flatten.length=i*4:=by rw[flV,length_take];omega
 have hSl: ∀(r:Value) (H:Heap) (X:Nat),r = .slice (some ⟨X,0,none⟩) V.length 0->hget H X=some ⟨((turnV V i sh).map vlv).flatten,4, .rw⟩->Sl H 4 r ((turnV V i sh).map vlv):=fun r H X e g=>by
  have:=Sl.whole (h:=H) (id:=X) (sz:=4) (rows:=(turnV V i sh).map vlv) (esz:=4) (st := .rw) (by decide) (fun r hr=>by obtain⟨x,_,rfl⟩:=mem_map.1 hr;rfl) g
  rw[length_map,turnV_len] at this
  rw[e];exact this
 obtain⟨A,hA⟩: ∃A,A=((V.take i).map vlv).flatten:=⟨_,rfl⟩
 obtain⟨B,hB⟩: ∃B,B=((V.drop (i+1)).map vlv).flatten:=⟨_,rfl⟩
 rw[←hA, ←hB] at hfl hone hlen hT
 rw[←hA] at hPl
 have tk:List.take 4 (List.drop (i*4) (A ++ .int .i64 V[i].1 :: .int .i64 V[i].2.1 :: .int .i64 V[i].2.2.1 :: .bool V[i].2.2.2::B))= [.int .i64 V[i].1, .int .i64 V[i].2.1, .int .i64 V[i].2.2.1, .bool V[i].2.2.2]:=by
  rw[←hPl,drop_left' rfl];rfl
 have st: ∀a b c d,setRange (A ++ .int .i64 V[i].1 :: .int .i64 V[i].2.1 :: .int .i64 V[i].2.2.1 :: .bool V[i].2.2.2::B) (i*4) [a,b,c,d]=A++a::b::c::d::B:=fun a b c d=>set4all hPl
 have hlb:i*4+4<=V.length*4:=by omega
 refine bo Tryz.func192 rfl rfl ?_
 simp only[go_sem,onApp_more hv0,hv0,hk,hd,hbb,hfl,hone,show V.length<=9223372036854775807 by omega,show V.length*32<=140737488355328 by omega,hz,z0,tk,hlen,hlb,st]
 refine hSl _ _ _ rfl ?_
 rw[hT]
 simp only[go_sem]
def shutTo(V:List Vlv)(plan:List Int)(i:Nat):List Vlv:=shutV (V.take i) plan++V.drop i
theorem shutTo_len{V:List Vlv}{plan:List Int}{i:Nat}:(shutTo V plan i).length=V.length:=by simp[shutTo,shutV_len];omega
theorem shutTo_at{V:List Vlv}{plan:List Int}{i:Nat}(hi:i<V.length):(shutTo V plan i)[i]'(by rw[shutTo_len];exact hi)=V[i]:=by
 unfold shutTo
 rw[List.getElem_append_right (by rw[shutV_len,length_take];omega)]
 simp[shutV_len,min_eq_left (Nat.le_of_lt hi)]
theorem shutTo_yes{V:List Vlv}{plan:List Int}{i:Nat}(hi:i<V.length)(h:V[i].1∈plan):turnV (shutTo V plan i) i true=shutTo V plan (i+1):=by
 have hl:(shutV (V.take i) plan).length=i:=by rw[shutV_len,length_take];omega
 rw[turnV,getDv (by rw[shutTo_len];exact hi),shutTo_at hi,shutTo,shutTo,List.set_append_right _ _ (by omega),hl,sub_self,drop_eq_getElem_cons hi,List.set_cons_zero]
 have e:shutV (V.take (i+1)) plan=shutV (V.take i) plan++ [(V[i].1,V[i].2.1,V[i].2.2.1,true)]:=by
  rw[take_succ_eq_append_getElem hi,shutV,map_append]
  simp[shutV,h]
 rw[e];simp
theorem shutTo_no{V:List Vlv}{plan:List Int}{i:Nat}(hi:i<V.length)(h:V[i].1∉plan):shutTo V plan i=shutTo V plan (i+1):=by
 rw[shutTo,shutTo,drop_eq_getElem_cons hi]
 have e:shutV (V.take (i+1)) plan=shutV (V.take i) plan++ [V[i]]:=by
  rw[take_succ_eq_append_getElem hi,shutV,map_append]
  simp[shutV,h]
 rw[e];simp
theorem c_l5Shut(w vp:Value)(V:List Vlv)(plan:List Int)(sv:Sl h 4 w (V.map vlv))(sp:SI h vp plan)(hV:V.length<=1000)(hp:plan.length<=1000) :
  vCall [] Tryz.prog M 258 [w,vp] h (fun r h'=>Sl h' 4 r ((shutV V plan).map vlv)∧h<+:h'):=by
 obtain⟨a,ew,_,_⟩:=id sv
 rw[length_map] at ew
 subst ew
 have loop: ∀(x:Value) (u:Heap),Sl (h++u) 4 x (V.map vlv)->∃a,x = .slice a V.length 0:=fun x u s=>by
  obtain⟨a,e,_⟩:=s
  rw[length_map] at e
  exact⟨a,e⟩
 refine bo Tryz.func258 rfl rfl ?_
 by_cases v0:V= []
 ·subst v0
  simp only[go_sem]
  refine vLoop.count mo 0 (fun i e h'=>Regs e [(5, .slice (some ⟨h.length,0,none⟩) 0 0),(6, .int .i64 0)]∧HeapIs h' (h++ [⟨[],4, .rw⟩])) ?_ ?_
  ·exact⟨⟨rfl,rfl,trivial⟩, .rfl⟩
  ·rintro i e _ hi ⟨⟨e5,e6,_⟩,rfl⟩
   simp only[go_sem,e5,e6]
   exact⟨_,rfl,fun r hr=>by simp[shutV] at hr,fun h0=>absurd rfl h0⟩
 ·have hv0:0<V.length:=length_pos_iff.2 v0
  obtain⟨id,off,k,ev,hk,hd,hbb,hfl⟩:=sv.copy (by simpa using v0)
  rw[length_map] at ev hbb hfl
  obtain rfl:a=some ⟨id,off,none⟩:=by simpa using ev
  simp only[go_sem,onApp_more hv0,hv0,oneVv,flV,hk,hd,hbb,hfl,show V.length<=9223372036854775807 by omega,show V.length*32<=140737488355328 by omega]
  refine vLoop.count mo V.length (fun i e h'=> ∃(u:Heap) (x:Value),Regs e [(1,vp),(5,x),(6, .int .i64 i)]∧HeapIs h' (h++u)∧Sl (h++u) 4 x ((shutTo V plan i).map vlv)) ?_ ?_
  ·refine⟨_, .slice (some ⟨h.length+1,0,none⟩) V.length 0,⟨rfl,rfl,rfl,trivial⟩, .rfl, ?_⟩
   have:=Sl.whole (h:=h++ [⟨[],4, .dead⟩,⟨(V.map vlv).flatten,4, .rw⟩]) (id:=h.length+1) (sz:=4) (rows:=V.map vlv) (esz:=4) (st := .rw) (by decide) (fun r hr=>by obtain⟨x,_,rfl⟩:=mem_map.1 hr;rfl) hget_lit1
   rw[length_map] at this
   simpa[shutTo,shutV] using this
  ·rintro i e _ hi ⟨u,x,⟨e1,e5,e6,_⟩,rfl,sx⟩
   have sx':=sx
   obtain⟨b,ex,_,_⟩:=sx'
   rw[length_map,shutTo_len] at ex
   subst ex
   simp only[go_sem,e1,e5,e6]
   by_cases hlt:i<V.length
   ·have hz:(i:Int)<V.length:=by omega
    have ws:=wsucc hlt (by omega)
    have hlt':i<((shutTo V plan i).map vlv).length:=by rw[length_map,shutTo_len];exact hlt
    obtain⟨id2,o2,K2,hv2,hK2,hK0,hd2,hb2,hrow,hat⟩:=sx.at hlt'
    obtain rfl:b=some ⟨id2,o2,none⟩:=by
     simp only[Value.slice.injEq] at hv2
     exact hv2.1
    have g0:=hat 0 (by omega)
    rw[getElem_map,shutTo_at hlt] at g0
    simp only[vlv,getElem?_cons_zero,add_zero] at g0
    simp only[go_sem,e1,e5,e6,hz,hK0,hd2,g0]
    refine (c_l1Has vp plan _ (sp.mono (prefix_append _ _)) (by omega)).go ?_
    rintro _ _⟨rfl,rfl⟩
    by_cases c:V[i].1∈plan
    ·simp only[go_sem,e1,e5,e6,decb c]
     refine (c_l4Turned _ (shutTo V plan i) i true sx (by rw[shutTo_len];exact hlt) (by rw[shutTo_len];exact hV)).go ?_
     rintro x2 _ ⟨sx2,⟨u2,rfl⟩⟩
     rw[shutTo_yes hlt c] at sx2
     simp only[go_sem,e1,e5,e6]
     exact⟨hlt,_,x2,⟨e1,rfl,congrArg _ ws,trivial⟩, .rfl,by simpa using sx2⟩
    ·simp only[go_sem,e1,e5,e6,dect c]
     rw[shutTo_no hlt c] at sx
     exact⟨hlt,_,_,⟨e1,e5,congrArg _ ws,trivial⟩, .rfl,sx⟩
   ·obtain rfl:i=V.length:=by omega
    simp only[go_sem,e1,e5,e6,show ¬((V.length:Int)<V.length) by omega]
    simpa[shutTo] using sx
theorem c_isolates{n:Nat}(v w vp:Value)(N:Nat)(P:List Pip)(V:List Vlv)(s:Nat)(pi:Int)(plan:List Int)(hv:NA n h v N P)(sv:Sl h 4 w (V.map vlv))(sp:SI h vp plan)(g:valOk N P V)(hs:1<=s∧s<=N)(hk0:0<=pidx P pi)(hp:plan.length<=1000) :
  vCall [] Tryz.prog M 227 [v,w, .int .i64 s, .int .i64 pi,vp] h (fun r h'=>r = .bool (isoB P V s (pidx P pi).toNat plan)∧h<+:h'):=by
 obtain⟨wp,rfl,sP⟩:=id hv
 have hN:1<=(N:Int)∧(N:Int)<=8:=g.1.2.1
 have hP10:=g.1.2.2
 have hV10:=g.2.1
 have hk:=pidx_lt hk0
 obtain⟨k,hk2⟩: ∃k:Nat,pidx P pi=k:=⟨(pidx P pi).toNat,by omega⟩
 rw[hk2] at hk
 refine bo Tryz.func227 rfl rfl ?_
 simp only[go_sem]
 refine (c_shutToo w vp V plan (sv.mono (by simp)) (sp.mono (by simp)) (by omega) hp).go ?_
 rintro w2 _ ⟨s2,⟨t,rfl⟩⟩
 try simp only[go_sem]
 refine (c_watered _ w2 N P (shutV V plan) s (hv.mono (by simp)) (s2.mono (by simp)) g.1 (by rw[shutV_len];omega) (shutV_uniq g.uniq) (by omega)).go ?_
 rintro ve _ ⟨⟨e,el,hl,he⟩,⟨t2,rfl⟩⟩
 obtain⟨ie,sz,rfl,ge⟩:=el
 try simp only[go_sem]
 refine (c_pipeIndex _ N P pi (hv.mono (by simp)) (by omega)).go ?_
 rintro _ _⟨rfl,⟨t3,rfl⟩⟩
 rw[hk2]
 try simp only[go_sem]
 refine (c_element k (by omega)).go ?_
 rintro _ _⟨rfl,rfl⟩
 have ge2:=self_get ge
 try simp only[append_assoc,cons_append] at ge2
 have g1:=ev_at (e:=e) (x:=9+k) (by omega)
 simp only[go_sem,ge2 t3,g1,show ((9+k:Nat):Int)<19 by omega]
 rw[isoB,ev_dec he]
theorem c_l5Cut{n:Nat}(v w vp:Value)(N:Nat)(P:List Pip)(V:List Vlv)(s:Nat)(pi:Int)(plan:List Int)(hv:NA n h v N P)(sv:Sl h 4 w (V.map vlv))(sp:SI h vp plan)(g:valOk N P V)(hs:1<=s∧s<=N)(hk0:0<=pidx P pi)(hp:plan.length<=1000) :
  vCall [] Tryz.prog M 234 [v,w, .int .i64 s, .int .i64 pi,vp] h (fun r h'=>r = .bool (isoB P V s (pidx P pi).toNat plan)∧h<+:h'):=by
 obtain⟨wp,rfl,sP⟩:=id hv
 have hN:1<=(N:Int)∧(N:Int)<=8:=g.1.2.1
 have hP10:=g.1.2.2
 have hV10:=g.2.1
 have hk:=pidx_lt hk0
 obtain⟨k,hk2⟩: ∃k:Nat,pidx P pi=k:=⟨(pidx P pi).toNat,by omega⟩
 rw[hk2] at hk
 refine bo Tryz.func234 rfl rfl ?_
 simp only[go_sem]
 refine (c_l5Shut w vp V plan (sv.mono (by simp)) (sp.mono (by simp)) (by omega) hp).go ?_
 rintro w2 _ ⟨s2,⟨t,rfl⟩⟩
 try simp only[go_sem]
 refine (c_l4Dry _ w2 N P (shutV V plan) s (hv.mono (by simp)) (s2.mono (by simp)) g.1 (by rw[shutV_len];omega) hs).go ?_
 rintro _ _⟨⟨x,y,rfl,qx,qy⟩,⟨t2,rfl⟩⟩
 simp only[go_sem]
 refine (c_l2Find _ N P pi (hv.mono (by simp)) (by omega)).go ?_
 rintro _ _⟨rfl,⟨t3,rfl⟩⟩
 rw[hk2]
 try simp only[go_sem]
 have lT:=plI_len (n:=P.length) (f:=fun i => !decide (Rch P (opn (shutV V plan) true) s (9+i)))
 refine (c_l1Has y _ k (SI.mono qy (by simp)) (by omega)).go ?_
 rintro _ _⟨rfl,rfl⟩
 simp only[go_sem]
 refine congrArg Value.bool ?_
 rw[isoB]
 have hm:=plI_mem (n:=P.length) (f:=fun i => !decide (Rch P (opn (shutV V plan) true) s (9+i))) (x:=(k:Int))
 rw[Int.toNat_natCast] at hm
 by_cases r:Rch P (opn (shutV V plan) true) s (9+k)
 ·rw[decide_eq_false,decide_eq_true r]
  ·rfl
  ·intro hh
   have:=(hm.1 hh).2.2
   rw[decide_eq_true r] at this
   cases this
 ·rw[decide_eq_true,decide_eq_false r]
  ·rfl
  ·exact hm.2 ⟨by omega,by omega,by rw[decide_eq_false r];rfl⟩
end
open Go.HH Go.Proofs
def turnOk(N:Int)(P:List Pip)(V:List Vlv)(id:Int)(sh:Bool):Prop:=valOk N P V∧0<=vidx V id∧(V.getD (vidx V id).toNat vlv0).2.2.2≠sh
open Classical in
noncomputable instance {N:Int} {P:List Pip} {V:List Vlv} {id:Int} {sh:Bool}:Decidable (turnOk N P V id sh):=propDecidable _
noncomputable def turnR(N:Int)(P:List Pip)(V:List Vlv)(id:Int)(sh:Bool):List Vlv:=if turnOk N P V id sh then turnV V (vidx V id).toNat sh else []
section
variable {h:Heap} {M:Nat->Prop}
theorem c_valveIndex1(x:Vlv)(i1:Nat)(n:Int)(hb:hget h i1=some ⟨[.int .i64 n],1, .rw⟩) :
  vCall [] Tryz.prog M 223 [.agg #[.int .i64 x.1, .int .i64 x.2.1, .int .i64 x.2.2.1, .bool x.2.2.2], .pointer (some ⟨i1,0,none⟩)] h (fun r h'=>r = .bool (decide (x.1=n))∧h<+:h'):=by
 refine bo Tryz.func223 rfl rfl ?_
 have hb1:=self_get hb
 simp only[go_sem,hb1]
 by_cases q:x.1=n
 ·simp[q]
 ·simp[q]
theorem c_valveIndex(w:Value)(V:List Vlv)(n:Int)(sv:Sl h 4 w (V.map vlv))(hV:V.length<=1048576) :
  vCall [] Tryz.prog M 176 [w, .int .i64 n] h (fun r h'=>r = .int .i64 (vidx V n)∧h<+:h'):=by
 refine bo Tryz.func176 rfl rfl ?_
 simp only[go_sem]
 refine (c_vlvIndex (by kernel_rfl) (fun p=>decide (p.1=n)) _ V (sv.mono (by simp)) hV (fun M h' x hp _=>c_valveIndex1 x _ _ (by rw[hget_prefix hp (by simp)];simp only[go_sem]))).go ?_
 rintro _ _⟨rfl,⟨t,rfl⟩⟩
 simp only[go_sem]
 rfl
theorem c_l4Find(w:Value)(V:List Vlv)(n:Int)(sv:Sl h 4 w (V.map vlv))(hV:V.length<=1048576) :
  vCall [] Tryz.prog M 191 [w, .int .i64 n] h (fun r h'=>r = .int .i64 (vidx V n)∧h=h'):=by
 obtain⟨a,ew,_,_⟩:=id sv
 rw[length_map] at ew
 subst ew
 refine bo Tryz.func191 rfl rfl ?_
 simp only[go_sem]
 refine vLoop.count mo V.length (fun i e h'=>Regs e [(0, .slice a V.length 0),(1, .int .i64 n),(5, .int .i64 i)]∧HeapIs h' h∧∀(j:Nat) (hj:j<V.length),j<i->decide (V[j].1=n)=false) ?_ ?_
 ·exact⟨⟨rfl,rfl,rfl,trivial⟩, .rfl,fun j _ hj=>absurd hj (by omega)⟩
 ·rintro i e _ hi ⟨⟨e0,e1,e5,_⟩,rfl,hno⟩
  simp only[go_sem,e0,e1,e5]
  by_cases hlt:i<V.length
  ·have hlt':i<(V.map vlv).length:=by simpa using hlt
   have hz:(i:Int)<V.length:=by omega
   have ws:=wsucc hlt (by omega)
   obtain⟨id2,o,K,hvv,hK,hK0,hd,hb,hrow,hat⟩:=sv.at hlt'
   obtain rfl:a=some ⟨id2,o,none⟩:=by simpa using hvv
   have g0:=hat 0 (by omega)
   rw[getElem_map] at g0
   simp only[vlv,getElem?_cons_zero,add_zero] at g0
   simp only[go_sem,e0,e1,e5,hz,hK0,hd,g0]
   by_cases q:V[i].1=n
   ·simp only[go_sem,e0,e1,e5,show (V[i].1==n)=true by simpa using q]
    exact congrArg (Value.int .i64) (idxI_is hlt (decide_eq_true q) hno).symm
   ·simp only[go_sem,e0,e1,e5,show (V[i].1==n)=false by simpa using q]
    refine⟨hlt,⟨e0,e1,congrArg _ ws,trivial⟩, .rfl,fun j hj hji => ?_⟩
    by_cases h3:j<i
    ·exact hno j hj h3
    ·obtain rfl:j=i:=by omega
     exact decide_eq_false q
  ·obtain rfl:i=V.length:=by omega
   simp only[go_sem,e0,e1,e5,show ¬((V.length:Int)<V.length) by omega]
   exact congrArg (Value.int .i64) (idxI_no fun j hj=>hno j hj hj).symm
theorem vidx_lt{V:List Vlv}{id:Int}(h:0<=vidx V id):(vidx V id).toNat<V.length:=by
 have:=(idxI_at (p:=fun p:Vlv=>decide (p.1=id)) (l:=V) (k:=(vidx V id).toNat) (by unfold vidx at *;omega))
 exact this.1
theorem c_TurnValve{n:Nat}(v w:Value)(N:Int)(P:List Pip)(V:List Vlv)(vi:Int)(sh:Bool)(hv:NA n h v N P)(sv:Sl h 4 w (V.map vlv))(es:EszC h 4 w)(hP:P.length<=1048576)(hV:V.length<=1048576) :
  vCall [] Tryz.prog M 140 [v,w, .int .i64 vi, .bool sh] h (fun r h'=>(∃x,r = .tuple #[x, .bool (decide (turnOk N P V vi sh))]∧FQs h.length h'.length 4 h' x ((turnR N P V vi sh).map vlv))∧h<+:h'):=by
 obtain⟨wp,rfl,sp⟩:=id hv
 obtain⟨a,ew,_,_⟩:=id sv
 rw[length_map] at ew
 subst ew
 have bad: ∀(lo hi:Nat) (H:Heap),¬turnOk N P V vi sh->∃x,Value.tuple #[Value.slice none 0 0, .bool false] = .tuple #[x, .bool (decide (turnOk N P V vi sh))]∧FQs lo hi 4 H x ((turnR N P V vi sh).map vlv):=fun lo hi H hn=>
  ⟨_,congrArg (fun b=>Value.tuple #[_,Value.bool b]) (decide_eq_false hn).symm,by rw[turnR,if_neg hn];exact fq0⟩
 refine bo Tryz.func140 rfl rfl ?_
 simp only[go_sem]
 refine (c_valveIndex _ V vi (sv.mono (by simp)) hV).go ?_
 rintro _ _⟨rfl,⟨t,rfl⟩⟩
 simp only[go_sem]
 refine (c_IsValidValves _ _ N P V (hv.mono (by simp)) (sv.mono (by simp)) (es.mono (by simp)) hP hV).go ?_
 rintro _ _⟨rfl,⟨t2,rfl⟩⟩
 by_cases h1:valOk N P V
 ·by_cases h2:vidx V vi<0
  ·simp only[go_sem,decb h1,decb h2]
   exact bad _ _ _ (fun hh=>by have:=hh.2.1;omega)
  ·have hk:=vidx_lt (V:=V) (id:=vi) (by omega)
   have hV10:=h1.2.1
   have hok:turnOk N P V vi sh↔(V.getD (vidx V vi).toNat vlv0).2.2.2≠sh:=⟨fun hh=>hh.2.2,fun hh=>⟨h1,by omega,hh⟩⟩
   obtain⟨k,hk2⟩: ∃k:Nat,vidx V vi=k:=⟨(vidx V vi).toNat,by omega⟩
   have hT: ∀(_:turnOk N P V vi sh),turnR N P V vi sh=turnV V k sh:=fun hh=>by rw[turnR,if_pos hh,hk2];rfl
   rw[hk2,Int.toNat_natCast] at hok hk
   rw[getDv hk] at hok
   rw[hk2] at h2 ⊢
   have hk':k<(V.map vlv).length:=by simpa using hk
   have hz:(k:Int)<V.length:=by omega
   have z0:(0:Int)<=k:=by omega
   obtain⟨id2,o,K,hvv,hK,_,hd,hb,hrow,hat⟩:=sv.at hk'
   obtain rfl:a=some ⟨id2,o,none⟩:=by simpa using hvv
   have g3:=hat 3 (by omega)
   rw[getElem_map] at g3
   simp only[vlv,getElem?_cons_zero,getElem?_cons_succ] at g3
   simp only[go_sem,decb h1,dect h2,hz,z0,hK,hd,g3,Tryz.underlying4]
   cases q:(V[k].2.2.2==sh) with
   | true=>
    simp only[go_sem,decb h1,dect h2,q]
    exact bad _ _ _ (fun hh=>hok.1 hh (by simpa using q))
   | false=>
    have hyes:turnOk N P V vi sh:=hok.2 (by simpa using q)
    have hv0:0<V.length:=by omega
    obtain⟨id,off,k3,ev,hk3,hd3,hbb,hfl⟩:=sv.copy (by have:=length_pos_iff.1 hv0;simpa using this)
    rw[length_map] at ev hbb hfl
    obtain⟨rfl,rfl⟩:id2=id∧o=off:=by simpa using ev
    have hone:=oneVv V
    have hlen:=flV V
    have hTf:=turnV_flat (sh:=sh) hk
    rw[flat_cut hk] at hfl hone hlen
    have hPl:((V.take k).map vlv).flatten.length=k*4:=by rw[flV,length_take];omega
    obtain⟨A,hA⟩: ∃A,A=((V.take k).map vlv).flatten:=⟨_,rfl⟩
    obtain⟨B,hB⟩: ∃B,B=((V.drop (k+1)).map vlv).flatten:=⟨_,rfl⟩
    rw[←hA, ←hB] at hfl hone hlen hTf
    rw[←hA] at hPl
    have st: ∀d,setRange (A ++ .int .i64 V[k].1 :: .int .i64 V[k].2.1 :: .int .i64 V[k].2.2.1 :: .bool V[k].2.2.2::B) (k*4+3) [d]=A ++ .int .i64 V[k].1 :: .int .i64 V[k].2.1 :: .int .i64 V[k].2.2.1::d::B:=fun d=>set3 hPl
    simp only[go_sem,decb h1,dect h2,q,onApp_more hv0,hv0,hk3,hd3,hbb,hfl,hone,show V.length<=9223372036854775807 by omega,show V.length*32<=140737488355328 by omega,hz,z0,hlen,st]
    refine⟨by omega,_,congrArg (fun b=>Value.tuple #[_,Value.bool b]) (decide_eq_true hyes).symm, ?_⟩
    rw[hT hyes]
    refine .inl ⟨_,by rw[length_map,turnV_len],by omega,by omega, ?_,fun r hr=>by obtain⟨x,_,rfl⟩:=mem_map.1 hr;rfl⟩
    rw[hTf,hget_app]
    simp only[getElem?_cons_succ,show t.length+(t2.length+1)+1=(t.length+(t2.length+1))+1 from rfl]
    rw[getElem?_append_right (by omega),add_sub_cancel_left,getElem?_append_right (by omega),add_sub_cancel_left]
    rfl
 ·simp only[go_sem,dect h1]
  exact bad _ _ _ (fun hh=>h1 hh.1)
end
open Go.HH Go.Proofs
theorem openVl_take{V:List Vlv}{i:Nat}(hi:i<V.length):openVl (V.take (i+1))=openVl (V.take i)++if V[i].2.2.2 then [] else [V[i].1]:=by
 unfold openVl
 rw[take_succ_eq_append_getElem hi,List.filter_append,map_append]
 cases h:V[i].2.2.2<;>simp[h]
section
variable {h:Heap} {M:Nat->Prop}
theorem c_price(v:Value):vCall [] Tryz.prog M 181 [v] h (fun r h'=>r = .int .i64 0∧h=h'):=by
 refine bo Tryz.func181 rfl rfl ?_
 simp only[go_sem]
theorem c_bestPlan{n:Nat}(v w:Value)(N:Nat)(P:List Pip)(V:List Vlv)(s:Nat)(pi:Int)(hv:NA n h v N P)(sv:Sl h 4 w (V.map vlv))(g:valOk N P V)(hs:1<=s∧s<=N)(hk0:0<=pidx P pi) :
  vCall [] Tryz.prog M 180 [v,w, .int .i64 s, .int .i64 pi, .func (.func 181) #[] #[]] h
   (fun r h'=>(∃x,r = .tuple #[x, .int .i64 0, .bool (bst P V s (pidx P pi).toNat (2 ^ (openVl V).length)).isSome]∧SI h' x ((bst P V s (pidx P pi).toNat (2 ^ (openVl V).length)).getD []))∧h<+:h'):=by
 obtain⟨wp,rfl,sP⟩:=id hv
 obtain⟨a,ew,_,_⟩:=id sv
 rw[length_map] at ew
 subst ew
 have hV10:=g.2.1
 refine bo Tryz.func180 rfl rfl ?_
 simp only[go_sem]
 refine vLoop.count mo V.length (fun i e h'=> ∃(t:Heap) (v13:Value),Regs e [(1, .slice a V.length 0),(2, .int .i64 s),(3, .int .i64 pi),(4, .func (.func 181) #[] #[]),(5, .pointer (some ⟨h.length,0,none⟩)),(13,v13),(26, .slice a V.length 0),(27, .int .i64 V.length),(28, .int .i64 i)] ∧
  HeapIs h' (h++(⟨[.int .i64 N,wp],2, .rw⟩::t))∧OF h.length 1 t v13 (openVl (V.take i))) ?_ ?_
 ·exact⟨_,_,⟨rfl,rfl,rfl,rfl,rfl,rfl,rfl,rfl,rfl,trivial⟩, .rfl, .mk' 0 rfl rfl rfl⟩
 ·rintro i e _ hi ⟨t,v13,⟨e1,e2,e3,e4,e5,e13,e26,e27,e28,_⟩,rfl,oi⟩
  obtain⟨j,rfl,hj⟩:=id oi
  simp only[go_sem,e1,e2,e3,e4,e5,e13,e26,e27,e28]
  by_cases hlt:i<V.length
  ·have hlt':i<(V.map vlv).length:=by simpa using hlt
   have hz:(i:Int)<V.length:=by omega
   have ws:=wsucc hlt (by omega)
   obtain⟨id2,o,K,hvv,hK,_,hd,hb,hrow,hat⟩:=sv.at hlt'
   obtain rfl:a=some ⟨id2,o,none⟩:=by simpa using hvv
   rw[getElem_map] at hrow
   simp only[vlv] at hrow
   have hlen:=openVl_len (V:=V.take i)
   have htl:(V.take i).length<=i:=by rw[length_take];omega
   have htk:=openVl_take hlt
   simp only[go_sem,e1,e2,e3,e4,e5,e13,e26,e27,e28,hz,hK,hd,hb,hrow]
   cases q:V[i].2.2.2 with
   | true=>
    rw[q] at htk
    simp only[go_sem,e1,e2,e3,e4,e5,e13,e26,e27,e28,q]
    exact⟨hlt,_,_,⟨e1,e2,e3,e4,e5,e13,e26,e27,congrArg _ ws,trivial⟩, .rfl,by rw[htk];simpa using oi.mono _⟩
   | false=>
    rw[q] at htk
    simp only[go_sem,e1,e2,e3,e4,e5,e13,e26,e27,e28,q,app_old hj,length_map]
    refine⟨by omega,by omega,hlt,_,_,⟨e1,e2,e3,e4,e5,rfl,e26,e27,congrArg _ ws,trivial⟩, .rfl,(.mk' (t.length+2) ?_ (by rw[htk];simp) ?_)⟩
    ·simp;try omega
    ·exact (new_at (by simp;try omega)).trans (by simp[iv,htk])
  ·obtain rfl:i=V.length:=by omega
   simp only[go_sem,e1,e2,e3,e4,e5,e13,e26,e27,e28,show ¬((V.length:Int)<V.length) by omega]
   rw[take_length] at hj oi e13 ⊢
   have hRl:=openVl_len (V:=V)
   obtain⟨R,hR⟩: ∃R,R=openVl V:=⟨_,rfl⟩
   rw[←hR] at hj oi hRl e13 ⊢
   have sR:=OF.ai [⟨[.int .i64 N,wp],2, .rw⟩] oi rfl
   obtain⟨H0,hH0⟩: ∃H0:Heap,H0=h++⟨[.int .i64 N,wp],2, .rw⟩::t:=⟨_,rfl⟩
   have hp0:h<+:H0:=by rw[hH0];exact prefix_append _ _
   have gB:hget H0 h.length=some ⟨[.int .i64 N,wp],2, .rw⟩:=by rw[hH0];simp only[go_sem]
   replace sR:SI H0 (.slice (some ⟨h.length+(j+1),0,none⟩) R.length 0) R:=by rw[hH0];exact sR
   obtain⟨b,hb⟩: ∃b,b=(⟨h.length+(j+1),0,none⟩:Addr):=⟨_,rfl⟩
   rw[←hb] at sR
   have e13':e 13 = .slice (some b) R.length 0:=by rw[hb];exact e13
   obtain⟨kk,hkk⟩: ∃k,k=(pidx P pi).toNat:=⟨_,rfl⟩
   rw[←hkk]
   have hbs: ∀q,bst P V s kk (q+1)=if isoB P V s kk (choice R q R.length)=true then
     match bst P V s kk q with
     | none=>some (choice R q R.length)
     | some d=>if (choice R q R.length).length<d.length∨((choice R q R.length).length=d.length∧lexL (choice R q R.length) d=true) then some (choice R q R.length) else some d
    else bst P V s kk q:=fun q=>by rw[hR];rfl
   have hbl: ∀ {q:Nat} {d:List Int},bst P V s kk q=some d->d.length<=10:=fun hd=>by have:=bst_len hd;rw[←hR] at this;omega
   have eH:h++⟨[.int .i64 N,wp],2, .rw⟩::(t++ [⟨[],1, .rw⟩])=H0++ [⟨[],1, .rw⟩]:=by rw[hH0];simp
   have hH0l:=hp0.length_le
   rw[hb.symm] at *
   simp only[go_sem,hBin_shl (show (0:Int)<=R.length by omega),shl_one' (show R.length<=60 by omega)]
   rw[eH]
   refine vLoop.count mo (2 ^ R.length) (fun q e h'=> ∃(vb:Value),Regs e [(1, .slice a V.length 0),(2, .int .i64 s),(3, .int .i64 pi),(4, .func (.func 181) #[] #[]),(5, .pointer (some ⟨h.length,0,none⟩)),(13, .slice (some b) R.length 0),(16,vb),(17, .int .i64 0),(18, .bool (bst P V s kk q).isSome),
    (44, .int .i64 ((2 ^ R.length:Nat):Int)),(45, .int .i64 q)]∧H0<+:h'∧SI h' vb ((bst P V s kk q).getD [])) ?_ ?_
   ·refine⟨_,⟨e1,e2,e3,e4,e5,e13',rfl,rfl,rfl,rfl,rfl,trivial⟩,prefix_append _ _,⟨_,rfl,fun h0=>absurd h0 (by simp[bst])⟩⟩
   ·clear e1 e2 e3 e4 e5 e13 e13' e26 e27 e28 hj oi hH0 eH hb
    rintro q e H hq ⟨vb,⟨e1,e2,e3,e4,e5,e13,e16,e17,e18,e44,e45,_⟩,hpH,sB⟩
    have hleH:h.length<=H.length:=le_trans hH0l hpH.length_le
    have h2R:2 ^ R.length<=2 ^ 10:=Nat.pow_le_pow_right (by omega) (by omega)
    obtain⟨c,hc⟩:=AI.len sB
    subst hc
    simp only[go_sem,e1,e2,e3,e4,e5,e13,e16,e17,e18,e44,e45]
    by_cases hlt:q<2 ^ R.length
    ·have ws:=wsucc hlt (by omega)
     have hz:(q:Int)<((2 ^ R.length:Nat):Int):=by omega
     simp only[go_sem,e1,e2,e3,e4,e5,e13,e16,e17,e18,e44,e45,hz]
     refine vLoop.count mo R.length (fun i e h'=> ∃(t:Heap) (v20:Value),Regs e [(1, .slice a V.length 0),(2, .int .i64 s),(3, .int .i64 pi),(4, .func (.func 181) #[] #[]),(5, .pointer (some ⟨h.length,0,none⟩)),(13, .slice (some b) R.length 0),(16, .slice c ((bst P V s kk q).getD []).length 0),(17, .int .i64 0),(18, .bool (bst P V s kk q).isSome),
      (19, .int .i64 q),(20,v20),(44, .int .i64 ((2 ^ R.length:Nat):Int)),(45, .int .i64 q),(49, .slice (some b) R.length 0),(50, .int .i64 R.length),(51, .int .i64 i)]∧HeapIs h' (H++t)∧OF H.length 0 t v20 (choice R q i)) ?_ ?_
     ·exact⟨_, .slice (some ⟨H.length,0,none⟩) 0 0,⟨e1,e2,e3,e4,e5,e13,e16,e17,e18,rfl,rfl,e44,e45,rfl,rfl,rfl,trivial⟩, .rfl, .mk' 0 rfl rfl rfl⟩
     ·rintro i e _ hi ⟨t,v20,⟨e1,e2,e3,e4,e5,e13,e16,e17,e18,e19,e20,e44,e45,e49,e50,e51,_⟩,rfl,oi⟩
      obtain⟨j,rfl,hj⟩:=id oi
      simp only[go_sem,e1,e2,e3,e4,e5,e13,e16,e17,e18,e19,e20,e44,e45,e49,e50,e51]
      have hcl:=choice_len (L:=R) (s:=q) (i:=i)
      by_cases hir:i<R.length
      ·have wi:=wsucc hir (by omega)
       have hzi:(i:Int)<R.length:=by omega
       obtain⟨id2,o2,K2,hv2,_,_,hk2,hd2,_,_,_,hat2⟩:=AI.at sR (zero_lt_of_lt hir)
       obtain rfl:b=⟨id2,o2,none⟩:=by simpa using hv2
       have hk3:=pre_get hpH hk2
       simp only[go_sem,e1,e2,e3,e4,e5,e13,e16,e17,e18,e19,e20,e44,e45,e49,e50,e51,hzi,hk3,hd2,hat2 i hir,hBin_shr (show (0:Int)<=i by omega),shr_nat' (a:=q) (i:=i) (by omega),hBin_bit,bit_eq]
       cases hbit:q.testBit i with
       | true=>
        have hyes:=choice_yes hir hbit
        simp only[go_sem,e1,e2,e3,e4,e5,e13,e16,e17,e18,e19,e20,e44,e45,e49,e50,e51,hbit,own_base hleH,app_old hj,length_map]
        refine⟨by omega,by omega,hir,_,_,⟨e1,e2,e3,e4,e5,e13,e16,e17,e18,e19,rfl,e44,e45,e49,e50,congrArg _ wi,trivial⟩, .rfl,(.mk' (t.length+1) ?_ (by rw[hyes];simp) ?_)⟩
        ·simp
        ·exact (new_at (by simp)).trans (by simp[iv,hyes])
       | false=>
        have hno:=choice_no (L:=R) hbit
        simp only[go_sem,e1,e2,e3,e4,e5,e13,e16,e17,e18,e19,e20,e44,e45,e49,e50,e51,hbit]
        exact⟨hir,_,_,⟨e1,e2,e3,e4,e5,e13,e16,e17,e18,e19,e20,e44,e45,e49,e50,congrArg _ wi,trivial⟩, .rfl,by rw[hno];exact oi⟩
      ·obtain rfl:i=R.length:=by omega
       have f1:=OF.fi0 (m:=0) oi (zero_le _)
       have f1s:=FI.si f1 (le_refl _)
       have hpt:H<+:H++t:=prefix_append _ _
       have hstep:=hbs q
       have gB1:=pre_get hpH gB
       simp only[go_sem,e1,e2,e3,e4,e5,e13,e16,e17,e18,e19,e20,e44,e45,e49,e50,e51,show ¬((R.length:Int)<R.length) by omega,gB1]
       refine (c_isolates _ _ _ N P V s pi (choice R q R.length) (hv.mono (hp0.trans (hpH.trans hpt))) (sv.mono (hp0.trans (hpH.trans hpt))) f1s g hs hk0 (by omega)).go ?_
       rintro _ _⟨rfl,⟨t2,rfl⟩⟩
       rw[←hkk]
       have sB2:SI (H++(t++t2)) (.slice c ((bst P V s kk q).getD []).length 0) ((bst P V s kk q).getD []):=SI.mono sB (prefix_append _ _)
       have f2:SI (H++(t++t2)) (.slice (some ⟨H.length+j,0,none⟩) (choice R q R.length).length 0) (choice R q R.length):=by
        rw[←append_assoc];exact SI.mono f1s (prefix_append _ _)
       have hp2:H0<+:H++(t++t2):=hpH.trans (prefix_append _ _)
       cases hi2:isoB P V s kk (choice R q R.length) with
       | false=>
        rw[hi2,if_neg (by decide)] at hstep
        simp only[go_sem,e1,e2,e3,e4,e5,e13,e16,e17,e18,e19,e20,e44,e45,e49,e50,e51,hi2]
        exact⟨hlt,_,⟨e1,e2,e3,e4,e5,e13,e16,e17,by rw[hstep];exact e18,e44,congrArg _ ws,trivial⟩,hp2,by rw[hstep];exact sB2⟩
       | true=>
        rw[hi2,if_pos rfl] at hstep
        simp only[go_sem,e1,e2,e3,e4,e5,e13,e16,e17,e18,e19,e20,e44,e45,e49,e50,e51,hi2]
        refine (c_price _).go ?_
        rintro _ _⟨rfl,rfl⟩
        simp only[go_sem,e1,e2,e3,e4,e5,e13,e16,e17,e18,e19,e20,e44,e45,e49,e50,e51,hi2]
        have mkI: ∀(u:Heap) (x:Nat) (p q:Int),u[x]? = some ⟨[.int .i64 p, .int .i64 q],1, .rw⟩->SI (H++u) (.slice (some ⟨H.length+x,0,none⟩) 2 0) [p,q]:=fun u x p q hx=>by
         have hxl:=(List.getElem?_eq_some_iff.1 hx).1
         exact FI.si (lo:=0) (hi:=(H++u).length) (FI.at' rfl (by omega) (by simp;omega) (by rw[hget_app,hx];rfl)) (le_refl _)
        refine (c_sCompare _ _ [0,((choice R q R.length).length:Int)] [0,(((bst P V s kk q).getD []).length:Int)] (mkI _ _ _ _ ?_) (mkI _ _ _ _ ?_) (Nat.le_of_ble_eq_true rfl) (Nat.le_of_ble_eq_true rfl)).go ?_
        ·rw[show t++(t2++ [⟨[.int .i64 0, .int .i64 ((choice R q R.length).length:Int)],1, .rw⟩,⟨[.int .i64 0, .int .i64 (((bst P V s kk q).getD []).length:Int)],1, .rw⟩])=(t++t2)++ [⟨[.int .i64 0, .int .i64 ((choice R q R.length).length:Int)],1, .rw⟩,⟨[.int .i64 0, .int .i64 (((bst P V s kk q).getD []).length:Int)],1, .rw⟩] by simp]
         rw[getElem?_append_right (by simp)]
         simp
        ·rw[show t++(t2++ [⟨[.int .i64 0, .int .i64 ((choice R q R.length).length:Int)],1, .rw⟩,⟨[.int .i64 0, .int .i64 (((bst P V s kk q).getD []).length:Int)],1, .rw⟩])=(t++t2)++ [⟨[.int .i64 0, .int .i64 ((choice R q R.length).length:Int)],1, .rw⟩,⟨[.int .i64 0, .int .i64 (((bst P V s kk q).getD []).length:Int)],1, .rw⟩] by simp]
         rw[getElem?_append_right (by simp;try omega)]
         simp[show t.length+(t2.length+1)-(t.length+t2.length)=1 by omega]
        rintro _ _⟨rfl,rfl⟩
        have hp3: ∀X:Heap,H0<+:H++(t++(t2++X)):=fun X=>by rw[←append_assoc t];rw[←append_assoc];exact hp2.trans (prefix_append _ _)
        have f3: ∀X:Heap,SI (H++(t++(t2++X))) (.slice (some ⟨H.length+j,0,none⟩) (choice R q R.length).length 0) (choice R q R.length):=fun X=>by
         rw[←append_assoc t, ←append_assoc];exact SI.mono f2 (prefix_append _ _)
        have sB3: ∀X:Heap,SI (H++(t++(t2++X))) (.slice c ((bst P V s kk q).getD []).length 0) ((bst P V s kk q).getD []):=fun X=>by
         rw[←append_assoc t, ←append_assoc];exact SI.mono sB2 (prefix_append _ _)
        have hcm:cmpL [0,((choice R q R.length).length:Int)] [0,(((bst P V s kk q).getD []).length:Int)]=if (choice R q R.length).length<((bst P V s kk q).getD []).length then -1 else if ((bst P V s kk q).getD []).length<(choice R q R.length).length then 1 else 0:=by
         simp only[cmpL,Int.lt_irrefl,if_false,Int.ofNat_lt]
        rw[hcm]
        cases hb:bst P V s kk q with
        | none=>
         rw[hb] at hstep
         simp only at hstep
         simp only[go_sem,e1,e2,e3,e4,e5,e13,e16,e17,e18,e19,e20,e44,e45,e49,e50,e51,hi2,hb,Option.isSome_none]
         exact⟨hlt,_,⟨e1,e2,e3,e4,e5,e13,rfl,rfl,by rw[hstep];rfl,e44,congrArg _ ws,trivial⟩,hp3 _,by rw[hstep];exact f3 _⟩
        | some d=>
         rw[hb] at hstep sB3
         simp only[Option.getD_some] at hstep sB3
         have hdl:=hbl hb
         have keep:bst P V s kk (q+1)=some d->e 18 = .bool (bst P V s kk (q+1)).isSome:=fun hh=>by rw[hh,e18,hb]
         have e16':e 16 = .slice c d.length 0:=by rw[e16,hb];rfl
         by_cases c1:(choice R q R.length).length<d.length
         ·rw[if_pos (.inl c1)] at hstep
          simp only[go_sem,e1,e2,e3,e4,e5,e13,e16,e17,e18,e19,e20,e44,e45,e49,e50,e51,hi2,hb,Option.isSome_some,Option.getD_some,c1]
          exact⟨hlt,_,⟨e1,e2,e3,e4,e5,e13,rfl,rfl,by rw[hstep];rfl,e44,congrArg _ ws,trivial⟩,hp3 _,by rw[hstep];exact f3 _⟩
         ·by_cases c2:d.length<(choice R q R.length).length
          ·rw[if_neg (by omega)] at hstep
           simp only[go_sem,e1,e2,e3,e4,e5,e13,e16,e17,e18,e19,e20,e44,e45,e49,e50,e51,hi2,hb,Option.isSome_some,Option.getD_some,c1,c2,show ((1:Int)==0)=false by decide]
           exact⟨hlt,_,⟨e1,e2,e3,e4,e5,e13,e16',e17,keep hstep,e44,congrArg _ ws,trivial⟩,hp3 _,by rw[hstep];exact sB3 _⟩
          ·have c3:(choice R q R.length).length=d.length:=by omega
           simp only[go_sem,e1,e2,e3,e4,e5,e13,e16,e17,e18,e19,e20,e44,e45,e49,e50,e51,hi2,hb,Option.isSome_some,Option.getD_some,c1,c2]
           refine (c_sCompare _ _ (choice R q R.length) d (f3 _) (sB3 _) (by omega) (by omega)).go ?_
           rintro _ _⟨rfl,rfl⟩
           have hx:=cmpL_lex c3
           by_cases c4:cmpL (choice R q R.length) d<0
           ·rw[if_pos (.inr ⟨c3,hx.1 c4⟩)] at hstep
            simp only[go_sem,e1,e2,e3,e4,e5,e13,e16,e17,e18,e19,e20,e44,e45,e49,e50,e51,hi2,hb,Option.isSome_some,Option.getD_some,c1,c2,c4]
            exact⟨hlt,_,⟨e1,e2,e3,e4,e5,e13,rfl,rfl,by rw[hstep];rfl,e44,congrArg _ ws,trivial⟩,hp3 _,by rw[hstep];exact f3 _⟩
           ·rw[if_neg (by rintro (h1|⟨_,h1⟩);exact c1 h1;exact c4 (hx.2 h1))] at hstep
            simp only[go_sem,e1,e2,e3,e4,e5,e13,e16,e17,e18,e19,e20,e44,e45,e49,e50,e51,hi2,hb,Option.isSome_some,Option.getD_some,c1,c2,c4]
            exact⟨hlt,_,⟨e1,e2,e3,e4,e5,e13,e16',e17,keep hstep,e44,congrArg _ ws,trivial⟩,hp3 _,by rw[hstep];exact sB3 _⟩
    ·obtain rfl:q=2 ^ R.length:=by omega
     simp only[go_sem,e1,e2,e3,e4,e5,e13,e16,e17,e18,e44,e45,show ¬(((2 ^ R.length:Nat):Int)<((2 ^ R.length:Nat):Int)) by omega]
     exact⟨⟨_,rfl,sB⟩,hp0.trans hpH⟩
def canB(N:Int)(P:List Pip)(V:List Vlv)(s pi:Int):Prop:=valOk N P V∧(1<=s∧s<=N)∧0<=pidx P pi
open Classical in
noncomputable instance {N:Int} {P:List Pip} {V:List Vlv} {s pi:Int}:Decidable (canB N P V s pi):=propDecidable _
noncomputable def planR(N:Int)(P:List Pip)(V:List Vlv)(s pi:Int):Option (List Int):=if canB N P V s pi then bst P V s.toNat (pidx P pi).toNat (2 ^ (openVl V).length) else none
theorem c_canBurst{n:Nat}(v w:Value)(N:Int)(P:List Pip)(V:List Vlv)(s pi:Int)(hv:NA n h v N P)(sv:Sl h 4 w (V.map vlv))(es:EszC h 4 w)(hP:P.length<=1048576)(hV:V.length<=1048576) :
  vCall [] Tryz.prog M 179 [v,w, .int .i64 s, .int .i64 pi] h (fun r h'=>r = .bool (decide (canB N P V s pi))∧h<+:h'):=by
 obtain⟨wp,rfl,sp⟩:=id hv
 refine bo Tryz.func179 rfl rfl ?_
 simp only[go_sem]
 refine (c_IsValidValves _ _ N P V (hv.mono (by simp)) (sv.mono (by simp)) (es.mono (by simp)) hP hV).go ?_
 rintro _ _⟨rfl,⟨t,rfl⟩⟩
 by_cases h1:valOk N P V
 ·simp only[go_sem,decb h1]
  refine (c_has _ _ _).go ?_
  rintro _ _⟨rfl,⟨t2,rfl⟩⟩
  by_cases h2:1<=s∧s<=N
  ·simp only[go_sem,decb h1,decb h2]
   refine (c_pipeIndex _ N P pi (hv.mono (by simp)) hP).go ?_
   rintro _ _⟨rfl,⟨t3,rfl⟩⟩
   simp only[go_sem,decb h1,decb h2]
   exact congrArg Value.bool (decide_eq_decide.2 ⟨fun hh=>⟨h1,h2,hh⟩,fun hh=>hh.2.2⟩)
  ·simp only[go_sem,decb h1,dect h2]
   exact congrArg Value.bool (decide_eq_false (fun hh:canB N P V s pi=>h2 hh.2.1)).symm
 ·simp only[go_sem,dect h1]
  exact congrArg Value.bool (decide_eq_false (fun hh:canB N P V s pi=>h1 hh.1)).symm
theorem c_ShortestPlan{n:Nat}(v w:Value)(N:Int)(P:List Pip)(V:List Vlv)(s pi:Int)(hv:NA n h v N P)(sv:Sl h 4 w (V.map vlv))(es:EszC h 4 w)(hP:P.length<=1048576)(hV:V.length<=1048576) :
  vCall [] Tryz.prog M 142 [v,w, .int .i64 s, .int .i64 pi] h (fun r h'=>(∃x,r = .tuple #[x, .bool (planR N P V s pi).isSome]∧SI h' x ((planR N P V s pi).getD []))∧h<+:h'):=by
 obtain⟨wp,rfl,sp⟩:=id hv
 refine bo Tryz.func142 rfl rfl ?_
 simp only[go_sem]
 refine (c_canBurst _ _ N P V s pi (hv.mono (by simp)) (sv.mono (by simp)) (es.mono (by simp)) hP hV).go ?_
 rintro _ _⟨rfl,⟨t,rfl⟩⟩
 by_cases h1:canB N P V s pi
 ·have hN:1<=N∧N<=8:=h1.1.1.2.1
  have hs:=h1.2.1
  have eR:planR N P V s pi=bst P V s.toNat (pidx P pi).toNat (2 ^ (openVl V).length):=by rw[planR,if_pos h1]
  rw[eR]
  obtain⟨N,rfl⟩: ∃N':Nat,N=N':=⟨N.toNat,by omega⟩
  obtain⟨s,rfl⟩: ∃s':Nat,s=s':=⟨s.toNat,by omega⟩
  rw[Int.toNat_natCast]
  simp only[go_sem,decb h1]
  refine (c_bestPlan _ _ N P V s pi (hv.mono (by simp)) (sv.mono (by simp)) h1.1 (by omega) h1.2.2).go ?_
  rintro _ _⟨⟨x,rfl,qx⟩,⟨t2,rfl⟩⟩
  try simp only[append_assoc,cons_append] at qx
  cases hb:bst P V s (pidx P pi).toNat (2 ^ (openVl V).length) with
  | none=>
   simp only[go_sem,decb h1,Option.isSome_none]
   exact⟨_,rfl,AI.none⟩
  | some d=>
   rw[hb] at qx
   simp only[go_sem,decb h1,Option.isSome_some]
   exact⟨_,rfl,qx⟩
 ·have eR:planR N P V s pi=none:=by rw[planR,if_neg h1]
  rw[eR]
  simp only[go_sem,dect h1]
  exact⟨_,rfl,AI.none⟩
end
open Go.HH Go.Proofs
def lessL(a b:List Int):Bool:=decide (a.length<b.length)||(decide (a.length=b.length)&&lexL a b)
section
variable {h:Heap} {M:Nat->Prop}
theorem c_l5Open(w:Value)(V:List Vlv)(sv:Sl h 4 w (V.map vlv))(hV:V.length<=1000):vCall [] Tryz.prog M 233 [w] h (fun r h'=>SI h' r (openVl V)∧h<+:h'):=by
 obtain⟨a,ew,_,_⟩:=id sv
 rw[length_map] at ew
 subst ew
 refine bo Tryz.func233 rfl rfl ?_
 simp only[go_sem]
 refine vLoop.count mo V.length (fun i e h'=> ∃(t:Heap) (v3:Value),Regs e [(0, .slice a V.length 0),(3,v3),(4, .int .i64 i)]∧HeapIs h' (h++t)∧OF h.length 0 t v3 (openVl (V.take i))) ?_ ?_
 ·exact⟨_, .slice (some ⟨h.length,0,none⟩) 0 0,⟨rfl,rfl,rfl,trivial⟩, .rfl, .mk' 0 rfl rfl rfl⟩
 ·rintro i e _ hi ⟨t,v3,⟨e0,e3,e4,_⟩,rfl,oi⟩
  obtain⟨j,rfl,hj⟩:=id oi
  simp only[go_sem,e0,e3,e4,add_zero]
  by_cases hlt:i<V.length
  ·have hlt':i<(V.map vlv).length:=by simpa using hlt
   have hz:(i:Int)<V.length:=by omega
   have ws:=wsucc hlt (by omega)
   obtain⟨id2,o,K,hvv,hK,_,hd,hb,hrow,hat⟩:=sv.at hlt'
   obtain rfl:a=some ⟨id2,o,none⟩:=by simpa using hvv
   have g0:=hat 0 (by omega)
   have g3:=hat 3 (by omega)
   rw[getElem_map] at g0 g3
   simp only[vlv,getElem?_cons_zero,getElem?_cons_succ,add_zero] at g0 g3
   have hlen:=openVl_len (V:=V.take i)
   have htl:(V.take i).length<=i:=by rw[length_take];omega
   have htk:=openVl_take hlt
   simp only[go_sem,e0,e3,e4,add_zero,hz,hK,hd,g3]
   cases q:V[i].2.2.2 with
   | true=>
    rw[q] at htk
    simp only[go_sem,e0,e3,e4,add_zero,q]
    exact⟨hlt,_,_,⟨e0,e3,congrArg _ ws,trivial⟩, .rfl,by rw[htk];simpa using oi.mono []⟩
   | false=>
    rw[q] at htk
    simp only[go_sem,e0,e3,e4,add_zero,q,hz,hK,hd,g0,app_old hj,length_map]
    refine⟨by omega,by omega,hlt,_,_,⟨e0,rfl,congrArg _ ws,trivial⟩, .rfl,(.mk' (t.length+1) ?_ (by rw[htk];simp) ?_)⟩
    ·simp;try omega
    ·exact (new_at (by simp;try omega)).trans (by simp[iv,htk])
  ·obtain rfl:i=V.length:=by omega
   simp only[go_sem,e0,e3,e4,add_zero,show ¬((V.length:Int)<V.length) by omega]
   rw[take_length] at oi
   have:=OF.ai [] oi rfl
   rw[take_length]
   simpa[SI] using this
theorem c_l5Choice(v:Value)(R:List Int)(q:Nat)(sR:SI h v R)(hR:R.length<=60)(hq:q<=1000000):vCall [] Tryz.prog M 235 [v, .int .i64 q] h (fun r h'=>SI h' r (choice R q R.length)∧h<+:h'):=by
 obtain⟨b,rfl⟩:=AI.len sR
 refine bo Tryz.func235 rfl rfl ?_
 simp only[go_sem]
 refine vLoop.count mo R.length (fun i e h'=> ∃(t:Heap) (v5:Value),Regs e [(0, .slice b R.length 0),(1, .int .i64 q),(5,v5),(6, .int .i64 i)]∧HeapIs h' (h++t)∧OF h.length 0 t v5 (choice R q i)) ?_ ?_
 ·exact⟨_, .slice (some ⟨h.length,0,none⟩) 0 0,⟨rfl,rfl,rfl,rfl,trivial⟩, .rfl, .mk' 0 rfl rfl rfl⟩
 ·rintro i e _ hi ⟨t,v5,⟨e0,e1,e5,e6,_⟩,rfl,oi⟩
  obtain⟨j,rfl,hj⟩:=id oi
  simp only[go_sem,e0,e1,e5,e6,add_zero]
  have hcl:=choice_len (L:=R) (s:=q) (i:=i)
  by_cases hir:i<R.length
  ·have wi:=wsucc hir (by omega)
   have hzi:(i:Int)<R.length:=by omega
   obtain⟨id2,o2,K2,hv2,_,hk2,_,hd2,_,_,_,hat2⟩:=AI.at sR (zero_lt_of_lt hir)
   obtain rfl:b=some ⟨id2,o2,none⟩:=by simpa using hv2
   have wi2:IntKind.u64.wrap (i:Int)=i:=IntWalk.u64_in _ (by omega)
   simp only[go_sem,e0,e1,e5,e6,add_zero,hzi,wi2,hBin_shr (show (0:Int)<=i by omega),shr_nat' (a:=q) (i:=i) (by omega),hBin_bit,bit_eq]
   cases hbit:q.testBit i with
   | true=>
    have hyes:=choice_yes hir hbit
    simp only[go_sem,e0,e1,e5,e6,add_zero,hbit,hzi,hk2,hd2,hat2 i hir,app_old hj,length_map]
    refine⟨by omega,by omega,hir,_,_,⟨e0,e1,rfl,congrArg _ wi,trivial⟩, .rfl,(.mk' (t.length+1) ?_ (by rw[hyes];simp) ?_)⟩
    ·simp
    ·exact (new_at (by simp)).trans (by simp[iv,hyes])
   | false=>
    have hno:=choice_no (L:=R) hbit
    simp only[go_sem,e0,e1,e5,e6,add_zero,hbit]
    exact⟨hir,_,_,⟨e0,e1,e5,congrArg _ wi,trivial⟩, .rfl,by rw[hno];exact oi⟩
  ·obtain rfl:i=R.length:=by omega
   simp only[go_sem,e0,e1,e5,e6,add_zero,show ¬((R.length:Int)<R.length) by omega]
   have:=OF.ai [] oi rfl
   simpa[SI] using this
theorem c_l5Less(v w:Value)(a b:List Int)(s:SI h v a)(s':SI h w b)(hmax:a.length<=1048576)(hmax':b.length<=1048576) :
  vCall [] Tryz.prog M 236 [v,w] h (fun r h'=>r = .bool (lessL a b)∧h=h'):=by
 obtain⟨p,rfl⟩:=AI.len s
 obtain⟨q,rfl⟩:=AI.len s'
 refine bo Tryz.func236 rfl rfl ?_
 simp only[go_sem]
 by_cases hab:a.length=b.length
 ·simp only[go_sem,show ((a.length:Int) != b.length)=false by simp[hab]]
  refine vLoop.count mo a.length (fun i e h'=>Regs e [(0, .slice p a.length 0),(1, .slice q b.length 0),(5, .int .i64 i)]∧HeapIs h' h ∧
   ∀(j:Nat) (h1:j<a.length) (h2:j<b.length),j<i->a[j]=b[j]) ?_ ?_
  ·exact⟨⟨rfl,rfl,rfl,trivial⟩, .rfl,fun j _ _ hj=>absurd hj (by omega)⟩
  ·rintro i e H hi ⟨⟨e0,e1,e5,_⟩,rfl,hsame⟩
   have hd:=lexL_drop hi (by omega) hsame
   have eL:lessL a b=lexL a b:=by simp[lessL,hab]
   rw[eL]
   simp only[go_sem,e0,e1,e5]
   by_cases hlt:i<a.length
   ·have ws:=wsucc hlt (by omega)
    have hz:(i:Int)<a.length:=by omega
    have h2:i<b.length:=by omega
    obtain⟨id,o,k,hv,_,_,hk,hkd,_,_,_,hat⟩:=AI.at s (zero_lt_of_lt hlt)
    obtain rfl:p=some ⟨id,o,none⟩:=by simpa using hv
    obtain⟨id2,o2,k2,hv2,_,_,hk2,hkd2,_,_,_,hat2⟩:=AI.at s' (zero_lt_of_lt h2)
    obtain rfl:q=some ⟨id2,o2,none⟩:=by simpa using hv2
    have hz2:(i:Int)<b.length:=by omega
    rw[drop_eq_getElem_cons hlt,drop_eq_getElem_cons h2,lexL] at hd
    simp only[go_sem,e0,e1,e5,hz,hz2,hk,hkd,hat i hlt,hk2,hkd2,hat2 i h2]
    by_cases c1:a[i]=b[i]
    ·simp only[go_sem,e0,e1,e5,show (a[i] != b[i])=false by simpa using c1]
     refine⟨hlt,⟨e0,e1,congrArg _ ws,trivial⟩, .rfl,fun j h1 h2 hj => ?_⟩
     by_cases hji:j<i
     ·exact hsame j h1 h2 hji
     ·obtain rfl:j=i:=by omega
      exact c1
    ·simp only[go_sem,e0,e1,e5,show (a[i] != b[i])=true by simpa using c1,hz,hz2,hk,hkd,hat i hlt,hk2,hkd2,hat2 i h2]
     rw[hd,if_neg c1]
   ·obtain rfl:i=a.length:=by omega
    rw[List.drop_length,List.drop_of_length_le (by omega)] at hd
    simp only[go_sem,e0,e1,e5,show ¬((a.length:Int)<a.length) by omega]
    rw[hd];rfl
 ·simp only[go_sem,show ((a.length:Int) != b.length)=true by simp;omega]
  refine congrArg Value.bool ?_
  simp[lessL,hab]
theorem c_l5Best{n:Nat}(v w:Value)(cs:Option Addr)(N:Nat)(P:List Pip)(V:List Vlv)(s:Nat)(pi:Int)(hv:NA n h v N P)(sv:Sl h 4 w (V.map vlv))(g:valOk N P V)(hs:1<=s∧s<=N)(hk0:0<=pidx P pi) :
  vCall [] Tryz.prog M 198 [v,w, .int .i64 s, .int .i64 pi, .slice cs 0 0] h
   (fun r h'=>(∃x,r = .tuple #[x, .int .i64 (if (bst P V s (pidx P pi).toNat (2 ^ (openVl V).length)).isSome then 0 else -1)]∧SI h' x ((bst P V s (pidx P pi).toNat (2 ^ (openVl V).length)).getD []))∧h<+:h'):=by
 obtain⟨wp,rfl,sP⟩:=id hv
 have hV10:=g.2.1
 refine bo Tryz.func198 rfl rfl ?_
 simp only[go_sem]
 refine (c_l5Open w V (sv.mono (by simp)) (by omega)).go ?_
 rintro vo _ ⟨sR,⟨t,rfl⟩⟩
 have hRl:=openVl_len (V:=V)
 simp only[go_sem]
 try simp only[append_assoc,cons_append] at sR
 refine (c_l5Cut _ w vo N P V s pi (openVl V) (hv.mono (by simp)) (sv.mono (by simp)) (SI.mono sR (by simp)) g hs hk0 (by omega)).go ?_
 rintro _ _⟨rfl,⟨t2,rfl⟩⟩
 obtain⟨kk,hkk⟩: ∃k,k=(pidx P pi).toNat:=⟨_,rfl⟩
 rw[←hkk]
 cases ho:isoB P V s kk (openVl V) with
 | false=>
  rw[bst_none ho]
  simp only[go_sem,ho]
  exact⟨_,rfl,⟨_,rfl,fun h0=>absurd h0 (by simp)⟩⟩
 | true=>
  simp only[go_sem,ho]
  obtain⟨R,hR⟩: ∃R,R=openVl V:=⟨_,rfl⟩
  rw[←hR] at sR hRl ⊢
  obtain⟨b,rfl⟩:=AI.len sR
  have hbs: ∀q,bst P V s kk (q+1)=if isoB P V s kk (choice R q R.length)=true then
    match bst P V s kk q with
    | none=>some (choice R q R.length)
    | some d=>if (choice R q R.length).length<d.length∨((choice R q R.length).length=d.length∧lexL (choice R q R.length) d=true) then some (choice R q R.length) else some d
   else bst P V s kk q:=fun q=>by rw[hR];rfl
  have hbl: ∀ {q:Nat} {d:List Int},bst P V s kk q=some d->d.length<=10:=fun hd=>by have:=bst_len hd;rw[←hR] at this;omega
  obtain⟨H0,hH0⟩: ∃H0:Heap,H0=h++⟨[.int .i64 N,wp],2, .rw⟩::(t++⟨[],1, .rw⟩::t2):=⟨_,rfl⟩
  have hp0:h<+:H0:=by rw[hH0];exact prefix_append _ _
  have gB:hget H0 h.length=some ⟨[.int .i64 N,wp],2, .rw⟩:=by rw[hH0];simp only[go_sem]
  replace sR:SI H0 (.slice b R.length 0) R:=by rw[hH0];exact SI.mono sR (by simp)
  rw[←hH0]
  have wR:IntKind.u64.wrap (R.length:Int)=R.length:=IntWalk.u64_in _ (by omega)
  refine vLoop.count mo (2 ^ R.length) (fun q e h'=> ∃(vb:Value),Regs e [(1,w),(2, .int .i64 s),(3, .int .i64 pi),(4, .slice cs 0 0),(5, .pointer (some ⟨h.length,0,none⟩)),(12, .slice b R.length 0),(13,vb),(14, .int .i64 (if (bst P V s kk q).isSome then 0 else -1)),(15, .int .i64 q)] ∧
   H0<+:h'∧SI h' vb ((bst P V s kk q).getD [])) ?_ ?_
  ·exact⟨_,⟨rfl,rfl,rfl,rfl,rfl,rfl,rfl,rfl,rfl,trivial⟩,prefix_rfl,⟨_,rfl,fun h0=>absurd h0 (by simp[bst])⟩⟩
  ·clear hH0
   rintro q e H hq ⟨vb,⟨e1,e2,e3,e4,e5,e12,e13,e14,e15,_⟩,hpH,sB⟩
   have h2R:2 ^ R.length<=2 ^ 10:=Nat.pow_le_pow_right (by omega) (by omega)
   obtain⟨c,hc⟩:=AI.len sB
   subst hc
   simp only[go_sem,e1,e2,e3,e4,e5,e12,e13,e14,e15,wR,hBin_shl (show (0:Int)<=R.length by omega),shl_one' (show R.length<=60 by omega)]
   by_cases hlt:q<2 ^ R.length
   ·have ws:=wsucc hlt (by omega)
    have hz:(q:Int)<((2 ^ R.length:Nat):Int):=by omega
    simp only[go_sem,e1,e2,e3,e4,e5,e12,e13,e14,e15,hz]
    refine (c_l5Choice _ R q (SI.mono sR hpH) (by omega) (by omega)).go ?_
    rintro vc _ ⟨f1,⟨t3,rfl⟩⟩
    have hstep:=hbs q
    have hcl:=choice_len (L:=R) (s:=q) (i:=R.length)
    obtain⟨c2,rfl⟩:=AI.len f1
    have gB1: ∀X:Heap,hget (H++(t3++X)) h.length=some ⟨[.int .i64 N,wp],2, .rw⟩:=fun X=>pre_get hpH gB _
    have hpX: ∀X:Heap,H0<+:H++(t3++X):=fun X=>hpH.trans (prefix_append _ _)
    have fX: ∀X:Heap,SI (H++(t3++X)) (.slice c2 (choice R q R.length).length 0) (choice R q R.length):=fun X=>by rw[←append_assoc];exact SI.mono f1 (prefix_append _ _)
    have bX: ∀X:Heap,SI (H++(t3++X)) (.slice c ((bst P V s kk q).getD []).length 0) ((bst P V s kk q).getD []):=fun X=>SI.mono sB (prefix_append _ _)
    have bX0:SI (H++t3) (.slice c ((bst P V s kk q).getD []).length 0) ((bst P V s kk q).getD []):=SI.mono sB (prefix_append _ _)
    have gB0:hget (H++t3) h.length=some ⟨[.int .i64 N,wp],2, .rw⟩:=pre_get hpH gB _
    have hp3:H0<+:H++t3:=hpH.trans (prefix_append _ _)
    cases hb:bst P V s kk q with
    | none=>
     rw[hb] at hstep
     simp only at hstep
     have keepN:bst P V s kk (q+1)=none->e 14 = .int .i64 (if (bst P V s kk (q+1)).isSome then 0 else -1):=fun hh=>by rw[hh,e14,hb]
     simp only[go_sem,e1,e2,e3,e4,e5,e12,e13,e14,e15,hb,Option.isSome_none,gB0]
     refine (c_l5Cut _ w _ N P V s pi (choice R q R.length) (hv.mono (hp0.trans hp3)) (sv.mono (hp0.trans hp3)) f1 g hs hk0 (by omega)).go ?_
     rintro _ _⟨rfl,⟨t4,rfl⟩⟩
     rw[←hkk]
     cases hi2:isoB P V s kk (choice R q R.length) with
     | false=>
      rw[hi2,if_neg (by decide)] at hstep
      simp only[go_sem,e1,e2,e3,e4,e5,e12,e13,e14,e15,hi2,hb,Option.isSome_none]
      exact⟨hlt,_,⟨e1,e2,e3,e4,e5,e12,e13,keepN hstep,congrArg _ ws,trivial⟩,hpX _,by rw[hstep];simpa[hb] using bX t4⟩
     | true=>
      rw[hi2,if_pos rfl] at hstep
      simp only[go_sem,e1,e2,e3,e4,e5,e12,e13,e14,e15,hi2,hb,Option.isSome_none,show ((-1:Int)<0) by decide]
      exact⟨hlt,_,⟨e1,e2,e3,e4,e5,e12,rfl,by rw[hstep];rfl,congrArg _ ws,trivial⟩,hpX _,by rw[hstep];exact fX t4⟩
    | some d=>
     rw[hb] at hstep bX bX0
     simp only[Option.getD_some] at hstep bX bX0
     have hdl:=hbl hb
     have hless:lessL (choice R q R.length) d=true↔((choice R q R.length).length<d.length∨((choice R q R.length).length=d.length∧lexL (choice R q R.length) d=true)):=by simp[lessL]
     have e13':e 13 = .slice c d.length 0:=by rw[e13,hb];rfl
     have keep:bst P V s kk (q+1)=some d->e 14 = .int .i64 (if (bst P V s kk (q+1)).isSome then 0 else -1):=fun hh=>by rw[hh,e14,hb]
     simp only[go_sem,e1,e2,e3,e4,e5,e12,e13,e14,e15,hb,Option.isSome_some,Option.getD_some]
     refine (c_l5Less _ _ (choice R q R.length) d f1 bX0 (by omega) (by omega)).go ?_
     rintro _ _⟨rfl,rfl⟩
     cases hl:lessL (choice R q R.length) d with
     | false=>
      have hkeep:bst P V s kk (q+1)=some d:=by
       rw[hstep]
       split
       ·rw[if_neg (fun hh=>by rw[hless.2 hh] at hl;cases hl)]
       ·rfl
      simp only[go_sem,e1,e2,e3,e4,e5,e12,e13,e14,e15,hb,hl,Option.isSome_some,Option.getD_some]
      exact⟨hlt,_,⟨e1,e2,e3,e4,e5,e12,e13',keep hkeep,congrArg _ ws,trivial⟩,hp3,by rw[hkeep];exact bX0⟩
     | true=>
      simp only[go_sem,e1,e2,e3,e4,e5,e12,e13,e14,e15,hb,hl,Option.isSome_some,Option.getD_some,gB0]
      refine (c_l5Cut _ w _ N P V s pi (choice R q R.length) (hv.mono (hp0.trans hp3)) (sv.mono (hp0.trans hp3)) f1 g hs hk0 (by omega)).go ?_
      rintro _ _⟨rfl,⟨t4,rfl⟩⟩
      rw[←hkk]
      cases hi2:isoB P V s kk (choice R q R.length) with
      | false=>
       rw[hi2,if_neg (by decide)] at hstep
       simp only[go_sem,e1,e2,e3,e4,e5,e12,e13,e14,e15,hi2,hb,Option.isSome_some,Option.getD_some]
       exact⟨hlt,_,⟨e1,e2,e3,e4,e5,e12,e13',keep hstep,congrArg _ ws,trivial⟩,hpX _,by rw[hstep];exact bX t4⟩
      | true=>
       rw[hi2,if_pos rfl,if_pos (hless.1 hl)] at hstep
       simp only[go_sem,e1,e2,e3,e4,e5,e12,e13,e14,e15,hi2,hb,Option.isSome_some,Option.getD_some]
       refine (c_l5Less _ _ (choice R q R.length) d (fX t4) (bX t4) (by omega) (by omega)).go ?_
       rintro _ _⟨rfl,rfl⟩
       simp only[go_sem,e1,e2,e3,e4,e5,e12,e13,e14,e15,hi2,hb,hl,Option.isSome_some,Option.getD_some]
       exact⟨hlt,_,⟨e1,e2,e3,e4,e5,e12,rfl,by rw[hstep];rfl,congrArg _ ws,trivial⟩,hpX _,by rw[hstep];exact fX t4⟩
   ·obtain rfl:q=2 ^ R.length:=by omega
    simp only[go_sem,e1,e2,e3,e4,e5,e12,e13,e14,e15,show ¬(((2 ^ R.length:Nat):Int)<((2 ^ R.length:Nat):Int)) by omega]
    exact⟨⟨_,rfl,sB⟩,hp0.trans hpH⟩
theorem c_l5Asked{n:Nat}(v w:Value)(N:Int)(P:List Pip)(V:List Vlv)(s pi:Int)(hv:NA n h v N P)(sv:Sl h 4 w (V.map vlv))(hP:P.length<=1048576)(hV:V.length<=1048576) :
  vCall [] Tryz.prog M 197 [v,w, .int .i64 s, .int .i64 pi] h (fun r h'=>r = .bool (decide (canB N P V s pi))∧h<+:h'):=by
 obtain⟨wp,rfl,sp⟩:=id hv
 refine bo Tryz.func197 rfl rfl ?_
 simp only[go_sem]
 refine (c_l4Good _ _ N P V (hv.mono (by simp)) (sv.mono (by simp)) hP hV).go ?_
 rintro _ _⟨rfl,⟨t,rfl⟩⟩
 by_cases h1:valOk N P V
 ·simp only[go_sem,decb h1]
  refine (c_l2NodeN _ N P s (hv.mono (by simp)) hP).go ?_
  rintro _ _⟨rfl,⟨t2,rfl⟩⟩
  by_cases h2:netGood N P∧1<=s∧s<=N
  ·simp only[go_sem,decb h1,decb h2]
   refine (c_l2Find _ N P pi (hv.mono (by simp)) hP).go ?_
   rintro _ _⟨rfl,⟨t3,rfl⟩⟩
   simp only[go_sem,decb h1,decb h2]
   exact congrArg Value.bool (decide_eq_decide.2 ⟨fun hh=>⟨h1,h2.2,hh⟩,fun hh=>hh.2.2⟩)
  ·simp only[go_sem,decb h1,dect h2]
   exact congrArg Value.bool (decide_eq_false (fun hh:canB N P V s pi=>h2 ⟨h1.1,hh.2.1⟩)).symm
 ·simp only[go_sem,dect h1]
  exact congrArg Value.bool (decide_eq_false (fun hh:canB N P V s pi=>h1 hh.1)).symm
theorem c_sShortestPlan{n:Nat}(v w:Value)(N:Int)(P:List Pip)(V:List Vlv)(s pi:Int)(hv:NA n h v N P)(sv:Sl h 4 w (V.map vlv))(hP:P.length<=1048576)(hV:V.length<=1048576) :
  vCall [] Tryz.prog M 155 [v,w, .int .i64 s, .int .i64 pi] h (fun r h'=>(∃x,r = .tuple #[x, .bool (planR N P V s pi).isSome]∧SI h' x ((planR N P V s pi).getD []))∧h<+:h'):=by
 obtain⟨wp,rfl,sp⟩:=id hv
 refine bo Tryz.func155 rfl rfl ?_
 simp only[go_sem]
 refine (c_l5Asked _ _ N P V s pi (hv.mono (by simp)) (sv.mono (by simp)) hP hV).go ?_
 rintro _ _⟨rfl,⟨t,rfl⟩⟩
 by_cases h1:canB N P V s pi
 ·have hN:1<=N∧N<=8:=h1.1.1.2.1
  have hs:=h1.2.1
  have eR:planR N P V s pi=bst P V s.toNat (pidx P pi).toNat (2 ^ (openVl V).length):=by rw[planR,if_pos h1]
  rw[eR]
  obtain⟨N,rfl⟩: ∃N':Nat,N=N':=⟨N.toNat,by omega⟩
  obtain⟨s,rfl⟩: ∃s':Nat,s=s':=⟨s.toNat,by omega⟩
  rw[Int.toNat_natCast]
  simp only[go_sem,decb h1]
  refine (c_l5Best _ _ _ N P V s pi (hv.mono (by simp)) (sv.mono (by simp)) h1.1 (by omega) h1.2.2).go ?_
  rintro _ _⟨⟨x,rfl,qx⟩,⟨t2,rfl⟩⟩
  try simp only[append_assoc,cons_append,nil_append] at qx
  cases hb:bst P V s (pidx P pi).toNat (2 ^ (openVl V).length) with
  | none=>
   rw[hb] at qx
   simp only[go_sem,decb h1,Option.isSome_none]
   exact⟨_,rfl,qx⟩
  | some d=>
   rw[hb] at qx
   simp only[go_sem,decb h1,Option.isSome_some]
   exact⟨_,rfl,qx⟩
 ·have eR:planR N P V s pi=none:=by rw[planR,if_neg h1]
  rw[eR]
  simp only[go_sem,dect h1]
  exact⟨_,rfl,⟨_,rfl,fun h0=>absurd h0 (by simp)⟩⟩
end
open Go.HH Go.Proofs
abbrev w_dry:ByteArray:=⟨#[100,114,121]⟩
abbrev w_bridges:ByteArray:=⟨#[98,114,105,100,103,101,115]⟩
abbrev w_shut:ByteArray:=⟨#[115,104,117,116]⟩
abbrev w_open:ByteArray:=⟨#[111,112,101,110]⟩
abbrev w_burst:ByteArray:=⟨#[98,117,114,115,116]⟩
abbrev w_segment:ByteArray:=⟨#[115,101,103,109,101,110,116]⟩
abbrev w_around:ByteArray:=⟨#[97,114,111,117,110,100]⟩
abbrev w_source:ByteArray:=⟨#[115,111,117,114,99,101]⟩
abbrev w_way:ByteArray:=⟨#[119,97,121]⟩
abbrev w_valve:ByteArray:=⟨#[118,97,108,118,101]⟩
abbrev w_pipe:ByteArray:=⟨#[112,105,112,101]⟩
def needs(s:ByteArray):Int:=
 if s=w_dry∨s=w_bridges then 0
 else if s=w_shut∨s=w_open∨s=w_burst∨s=w_segment∨s=w_around∨s=w_source then 1
 else if s=w_way then 2
 else if s=w_valve then 3
 else if s=w_pipe then 4
 else -1
section
variable {h:Heap} {M:Nat->Prop}
theorem c_numbersNeeded(s:ByteArray):vCall [] Tryz.prog M 105 [.string s] h (fun r h'=>r = .int .i64 (needs s)∧h<+:h'):=by
 unfold needs
 refine bo Tryz.func105 rfl rfl ?_
 by_cases h0:s=w_dry
 ·simp only[go_sem,toList_eq,decb h0,eq_true h0,true_or,or_true,or_self,if_true,if_false]
  all_goals first|rfl|(simp[h0];done)|skip
 ·skip
  by_cases h1:s=w_bridges
  ·simp only[go_sem,toList_eq,decb h1,dect h0,eq_true h1,h0,true_or,or_true,or_self,if_true,if_false]
   all_goals first|rfl|(simp[h1,h0];done)|skip
  ·skip
   by_cases h2:s=w_shut
   ·simp only[go_sem,toList_eq,decb h2,dect h0,dect h1,eq_true h2,h0,h1,true_or,or_true,or_self,if_true,if_false]
    all_goals first|rfl|(simp[h2,h0,h1];done)|skip
   ·skip
    by_cases h3:s=w_open
    ·simp only[go_sem,toList_eq,decb h3,dect h0,dect h1,dect h2,eq_true h3,h0,h1,h2,true_or,or_true,or_self,if_true,if_false]
     all_goals first|rfl|(simp[h3,h0,h1,h2];done)|skip
    ·skip
     by_cases h4:s=w_burst
     ·simp only[go_sem,toList_eq,decb h4,dect h0,dect h1,dect h2,dect h3,eq_true h4,h0,h1,h2,h3,true_or,or_true,or_self,if_true,if_false]
      all_goals first|rfl|(simp[h4,h0,h1,h2,h3];done)|skip
     ·skip
      by_cases h5:s=w_segment
      ·simp only[go_sem,toList_eq,decb h5,dect h0,dect h1,dect h2,dect h3,dect h4,eq_true h5,h0,h1,h2,h3,h4,true_or,or_true,or_self,if_true,if_false]
       all_goals first|rfl|(simp[h5,h0,h1,h2,h3,h4];done)|skip
      ·skip
       by_cases h6:s=w_around
       ·simp only[go_sem,toList_eq,decb h6,dect h0,dect h1,dect h2,dect h3,dect h4,dect h5,eq_true h6,h0,h1,h2,h3,h4,h5,true_or,or_true,or_self,if_true,if_false]
        all_goals first|rfl|(simp[h6,h0,h1,h2,h3,h4,h5];done)|skip
       ·skip
        by_cases h7:s=w_source
        ·simp only[go_sem,toList_eq,decb h7,dect h0,dect h1,dect h2,dect h3,dect h4,dect h5,dect h6,eq_true h7,h0,h1,h2,h3,h4,h5,h6,true_or,or_true,or_self,if_true,if_false]
         all_goals first|rfl|(simp[h7,h0,h1,h2,h3,h4,h5,h6];done)|skip
        ·skip
         by_cases h8:s=w_way
         ·simp only[go_sem,toList_eq,decb h8,dect h0,dect h1,dect h2,dect h3,dect h4,dect h5,dect h6,dect h7,eq_true h8,h0,h1,h2,h3,h4,h5,h6,h7,true_or,or_true,or_self,if_true,if_false]
          all_goals first|rfl|(simp[h8,h0,h1,h2,h3,h4,h5,h6,h7];done)|skip
         ·skip
          by_cases h9:s=w_valve
          ·simp only[go_sem,toList_eq,decb h9,dect h0,dect h1,dect h2,dect h3,dect h4,dect h5,dect h6,dect h7,dect h8,eq_true h9,h0,h1,h2,h3,h4,h5,h6,h7,h8,true_or,or_true,or_self,if_true,if_false]
           all_goals first|rfl|(simp[h9,h0,h1,h2,h3,h4,h5,h6,h7,h8];done)|skip
          ·skip
           by_cases h10:s=w_pipe
           ·simp only[go_sem,toList_eq,decb h10,dect h0,dect h1,dect h2,dect h3,dect h4,dect h5,dect h6,dect h7,dect h8,dect h9,eq_true h10,h0,h1,h2,h3,h4,h5,h6,h7,h8,h9,true_or,or_true,or_self,if_true,if_false]
            all_goals first|rfl|(simp[h10,h0,h1,h2,h3,h4,h5,h6,h7,h8,h9];done)|skip
           ·simp only[go_sem,toList_eq,dect h0,dect h1,dect h2,dect h3,dect h4,dect h5,dect h6,dect h7,dect h8,dect h9,dect h10,h0,h1,h2,h3,h4,h5,h6,h7,h8,h9,h10,or_self,if_false]
end
open Go.HH Go.Proofs
section
variable {h:Heap} {M:Nat->Prop}
theorem c_newConsoleX(c:Con)(wP wV:Value)(sP:Sl h 4 wP (c.P.map pip))(sV:Sl h 4 wV (c.V.map vlv))(hP:c.P.length<=1048576)(hV:c.V.length<=1048576) :
  vCall [] Tryz.prog M 54 [conV c wP wV] h (fun r h'=>(∃xP xV,r=conV c xP xV∧ConQ h.length h'.length h' c xP xV∧(c.V= []->∃X,xV = .slice (some ⟨X,0,none⟩) 0 0∧h'.length+900<=X))∧h<+:h'):=by
 obtain⟨N,P,V,src,D,Q,cnt⟩:=c
 simp only at sP sV hP hV
 obtain⟨aa,ea,_,_⟩:=id sP
 obtain⟨bb,eb,_,_⟩:=id sV
 rw[length_map] at ea eb
 refine boQ ([(1,18)]) Tryz.func54 rfl rfl ?_
 by_cases p0:P= []
 ·subst p0
  simp only[length_nil] at ea
  subst ea
  by_cases v0:V= []
  ·subst v0
   simp only[length_nil] at eb
   subst eb
   simp only[go_sem,conV]
   refine fun X _ Y hY=>⟨_,_,rfl,ConQ.mk2 h.length ?_ ?_ fq0 fq0,fun _=>⟨Y,rfl, ?_⟩⟩
   all_goals (clear sP sV hP hV;first|omega|exact le_trans (by simp) hY|(have:=hY;simp only[length_append,length_cons,length_nil] at this ⊢;omega))
  ·have hv0:0<V.length:=length_pos_iff.2 v0
   obtain⟨id,off,k,ev,hk,hd,hbb,hfl⟩:=sV.copy (by simpa using v0)
   rw[length_map] at ev hbb hfl
   rw[eb] at ev
   obtain rfl:bb=some ⟨id,off,none⟩:=by simpa using ev
   subst eb
   simp only[go_sem,conV,onAppQ_more hv0,hk,hd,hbb,hfl,show V.length<=9223372036854775807 by omega,show V.length*32<=140737488355328 by omega]
   refine fun X _ Y _=>⟨by omega,_,_,rfl,ConQ.mk2 h.length ?_ ?_ fq0 (frV ?_ rfl ?_ ?_),fun hh=>absurd hh v0⟩
   all_goals first|rfl|omega|skip
 ·have hp0:0<P.length:=length_pos_iff.2 p0
  obtain⟨id,off,k,ev,hk,hd,hbb,hfl⟩:=sP.copy (by simpa using p0)
  rw[length_map] at ev hbb hfl
  rw[ea] at ev
  obtain rfl:aa=some ⟨id,off,none⟩:=by simpa using ev
  subst ea
  by_cases v0:V= []
  ·subst v0
   simp only[length_nil] at eb
   subst eb
   simp only[go_sem,conV,onAppQ_more hp0,hk,hd,hbb,hfl,show P.length<=9223372036854775807 by omega,show P.length*32<=140737488355328 by omega]
   refine fun X _=>⟨by omega,fun Y hY=>⟨_,_,rfl,ConQ.mk2 (h.length+3) ?_ ?_ (frP ?_ rfl ?_ ?_) fq0,fun _=>⟨Y,rfl, ?_⟩⟩⟩
   all_goals first|rfl|omega|(simp at hY ⊢;omega)|skip
  ·have hv0:0<V.length:=length_pos_iff.2 v0
   obtain⟨id2,off2,k2,ev2,hk2,hd2,hbb2,hfl2⟩:=sV.copy (by simpa using v0)
   rw[length_map] at ev2 hbb2 hfl2
   rw[eb] at ev2
   obtain rfl:bb=some ⟨id2,off2,none⟩:=by simpa using ev2
   subst eb
   simp only[go_sem,conV,onAppQ_more hp0,onAppQ_more hv0,hk,hd,hbb,hfl,hk2,hd2,hbb2,hfl2,show P.length<=9223372036854775807 by omega,show P.length*32<=140737488355328 by omega,show V.length<=9223372036854775807 by omega,show V.length*32<=140737488355328 by omega]
   refine fun X _=>⟨by omega,fun Y _=>⟨by omega,_,_,rfl,ConQ.mk2 (h.length+3) ?_ ?_ (frP ?_ rfl ?_ ?_) (frV ?_ rfl ?_ ?_),fun hh=>absurd hh v0⟩⟩
   all_goals first|rfl|omega|skip
end
open Go.HH Go.Proofs
theorem eqs{s:ByteArray}:(s.toList==s.toList)=true:=beq_self_eq_true _
open Go.HH Go.Proofs
def conOk(c:Con):Prop:=valOk c.N c.P c.V∧(1<=c.src∧c.src<=c.N)∧logOk (bl c.D) (bl c.Q) c.cnt
open Classical in
noncomputable instance {c:Con}:Decidable (conOk c):=propDecidable _
section
variable {G:List (Nat×Nat)} {h:Heap} {M:Nat->Prop}
theorem c_IsValidConsole{n:Nat}(pw:PowAt G h)(c:Con)(wP wV:Value)(s:ConS n h c wP wV)(hes:EszC h 4 wV)(hc:conSmall c):vCall G Tryz.prog M 21 [conV c wP wV] h (fun r h'=>r = .bool (decide (conOk c))∧h<+:h'):=by
 refine bo Tryz.func21 rfl rfl ?_
 simp only[go_sem,conV]
 refine ((c_IsValidValves _ _ c.N c.P c.V (s.net.mono (by simp)) (s.v.mono (by simp)).1 (hes.mono (by simp)) hc.1 hc.2.1).addG).go ?_
 rintro _ _⟨rfl,⟨t,rfl⟩⟩
 by_cases h1:valOk c.N c.P c.V
 ·simp only[go_sem,conV,decb h1]
  refine ((c_has _ _ _).addG).go ?_
  rintro _ _⟨rfl,⟨t2,rfl⟩⟩
  by_cases h2:1<=c.src∧c.src<=c.N
  ·simp only[go_sem,conV,decb h1,decb h2]
   refine (c_IsValidLog (pw.mono (by simp)) c.D c.Q c.cnt (by have:=hc.2.2;omega)).go ?_
   rintro _ _⟨rfl,⟨t3,rfl⟩⟩
   by_cases h3:logOk (bl c.D) (bl c.Q) c.cnt
   ·simp only[go_sem,conV,decb h1,decb h2,decb h3]
    exact congrArg Value.bool (decide_eq_true (p:=conOk c) ⟨h1,h2,h3⟩).symm
   ·simp only[go_sem,conV,decb h1,decb h2,dect h3]
    exact congrArg Value.bool (decide_eq_false (fun hh:conOk c=>h3 hh.2.2)).symm
  ·simp only[go_sem,conV,decb h1,dect h2]
   exact congrArg Value.bool (decide_eq_false (fun hh:conOk c=>h2 hh.2.1)).symm
 ·simp only[go_sem,conV,dect h1]
  exact congrArg Value.bool (decide_eq_false (fun hh:conOk c=>h1 hh.1)).symm
theorem c_l2NodeC{n:Nat}(v:Value)(N:Int)(P:List Pip)(x:Int)(hv:NA n h v N P)(hP:P.length<=1048576):vCall [] Tryz.prog M 87 [v, .int .i64 x] h (fun r h'=>r = .bool (decide (netGood N P∧1<=x∧x<=N))∧h<+:h'):=by
 obtain⟨w,rfl,sw⟩:=id hv
 refine bo Tryz.func87 rfl rfl ?_
 simp only[go_sem]
 refine (c_l2Good _ N P (hv.mono (by simp)) hP).go ?_
 rintro _ _⟨rfl,⟨t,rfl⟩⟩
 by_cases h1:netGood N P
 ·simp only[go_sem,decb h1]
  refine (c_l1In _ _ _).go ?_
  rintro _ _⟨rfl,rfl⟩
  simp only[go_sem,decb h1]
  simp[h1]
 ·simp only[go_sem,dect h1]
  simp[h1]
theorem c_l28Good{n:Nat}(c:Con)(wP wV:Value)(s:ConS n h c wP wV)(hc:conSmall c):vCall [] Tryz.prog M 59 [conV c wP wV] h (fun r h'=>r = .bool (decide (conOk c))∧h<+:h'):=by
 refine bo Tryz.func59 rfl rfl ?_
 simp only[go_sem,conV]
 refine (c_l4Good _ _ c.N c.P c.V (s.net.mono (by simp)) (s.v.mono (by simp)).1 hc.1 hc.2.1).go ?_
 rintro _ _⟨rfl,⟨t,rfl⟩⟩
 by_cases h1:valOk c.N c.P c.V
 ·simp only[go_sem,conV,decb h1]
  refine (c_l2NodeC _ c.N c.P c.src (s.net.mono (by simp)) hc.1).go ?_
  rintro _ _⟨rfl,⟨t2,rfl⟩⟩
  by_cases h2:netGood c.N c.P∧1<=c.src∧c.src<=c.N
  ·simp only[go_sem,conV,decb h1,decb h2]
   refine (c_l27Log c.D c.Q c.cnt (by have:=hc.2.2;omega)).go ?_
   rintro _ _⟨rfl,⟨t3,rfl⟩⟩
   by_cases h3:logOk (bl c.D) (bl c.Q) c.cnt
   ·simp only[go_sem,conV,decb h1,decb h2,decb h3]
    exact congrArg Value.bool (decide_eq_true (p:=conOk c) ⟨h1,h2.2,h3⟩).symm
   ·simp only[go_sem,conV,decb h1,decb h2,dect h3]
    exact congrArg Value.bool (decide_eq_false (fun hh:conOk c=>h3 hh.2.2)).symm
  ·simp only[go_sem,conV,decb h1,dect h2]
   exact congrArg Value.bool (decide_eq_false (fun hh:conOk c=>h2 ⟨h1.1,hh.2.1⟩)).symm
 ·simp only[go_sem,conV,dect h1]
  exact congrArg Value.bool (decide_eq_false (fun hh:conOk c=>h1 hh.1)).symm
end
open Go.HH Go.Proofs
def gl(l:List Int)(i:Nat):Int:=l.getD i 0
theorem gl_at{l:List Int}{i:Nat}(h:i<l.length):l[i]=gl l i:=by rw[gl,List.getD,getElem?_eq_getElem h];rfl
def insV(V:List Vlv)(v:Vlv):List Vlv:=insAt V (low (V.map fun q=>q.1) v.1) v
def isEdit(w:ByteArray):Prop:=w=w_pipe∨w=w_valve∨w=w_shut∨w=w_open∨w=w_source
instance {w:ByteArray}:Decidable (isEdit w):=inferInstanceAs (Decidable (_∨_∨_∨_∨_))
def pipOf(l:List Int):Pip:=(gl l 0,gl l 1,gl l 2,gl l 3)
def vlvOf(l:List Int):Vlv:=(gl l 0,gl l 1,gl l 2,false)
noncomputable def editR(C:Con)(w:ByteArray)(l:List Int):Option Con:=
 if w=w_pipe then (if l.length=4∧addOk C.N C.P (pipOf l) then some {C with P:=insP C.P (pipOf l)} else none)
 else if w=w_valve then (if l.length=3∧valOk C.N C.P (insV C.V (vlvOf l)) then some {C with V:=insV C.V (vlvOf l)} else none)
 else if w=w_shut∨w=w_open then (if l.length=1∧turnOk C.N C.P C.V (gl l 0) (decide (w=w_shut)) then some {C with V:=turnR C.N C.P C.V (gl l 0) (decide (w=w_shut))} else none)
 else if w=w_source then (if l.length=1∧1<=gl l 0∧gl l 0<=C.N then some {C with src:=gl l 0} else none)
 else none
noncomputable def askR(C:Con)(w:ByteArray)(l:List Int):Option (List Int):=
 if w=w_dry then (if l.length=0∧valOk C.N C.P C.V∧1<=C.src∧C.src<=C.N then some (dryL C.N C.P C.V C.src) else none)
 else if w=w_bridges then (if l.length=0∧netGood C.N C.P then some (briR C.N C.P) else none)
 else if w=w_burst then (if l.length=1 then planR C.N C.P C.V C.src (gl l 0) else none)
 else if w=w_segment then (if l.length=1∧valOk C.N C.P C.V∧0<=pidx C.P (gl l 0) then some (segL C.N C.P C.V (gl l 0)) else none)
 else if w=w_around then (if l.length=1∧valOk C.N C.P C.V∧0<=pidx C.P (gl l 0) then some (arndL C.N C.P C.V (gl l 0)) else none)
 else if w=w_way then (if l.length=2∧wayOk C.N C.P (gl l 0) (gl l 1) then some (wayR C.N C.P (gl l 0) (gl l 1)) else none)
 else none
end Go.Proofs.YtedidddimikjhaaGreatDoor
