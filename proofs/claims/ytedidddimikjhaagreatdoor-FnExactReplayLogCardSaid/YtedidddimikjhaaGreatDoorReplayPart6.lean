/- Texts of this claim, joined. No condition. -/
import Derived.Test.YtedidddimikjhaaGreatDoorReplayPart5
import Derived.Test.YtedidddimikjhaaGreatDoorReplayPart4
set_option linter.unusedSimpArgs false
set_option linter.unusedVariables false
namespace Go.Proofs.YtedidddimikjhaaGreatDoor
open Go.HH Go.Proofs
def EL (h:Heap) (v:Value) (e:List Bool):Prop:= ∃id sz,v = .pointer (some ⟨id,0,none⟩)∧hget h id=some ⟨e.map Value.bool,sz, .rw⟩
theorem EL.mono {h h':Heap} {v:Value} {e:List Bool} (s:EL h v e) (hp:h<+:h'):EL h' v e:=by
 obtain ⟨id,sz,rfl,g⟩:=s
 exact ⟨id,sz,rfl,keep_get g hp⟩
theorem ev_at {e:List Bool} {x:Nat} (hx:x<e.length):(e.map Value.bool)[x]? = some (.bool (ev e x)):=by
 rw [List.getElem?_map,List.getElem?_eq_getElem hx,ev,List.getD,List.getElem?_eq_getElem hx];rfl
theorem ev_put {e:List Bool} {x:Nat} (hx:x<e.length):setRange (e.map Value.bool) x [.bool true]=(e.set x true).map Value.bool:=by
 rw [←setRange_one (by simpa using hx),List.map_set]
section
variable {h : Heap} {M : Nat → Prop}
theorem c_element (i:Nat) (hi:i<=100):vCall [] Tryz.prog M 183 [.int .i64 i] h (fun r h'=>r = .int .i64 ((9+i:Nat):Int)∧h=h'):=by
 refine body_of mo Tryz.func183 rfl (by kernel_rfl) (Nat.le_of_ble_eq_true (by kernel_rfl)) rfl ?_
 simp only [go_sem]
 rw [wrap64 (by omega)]
 rfl
theorem c_reached {n:Nat} {fid:Nat} {cap:Array Value} (hf:callable Tryz.prog fid=true) (op:Pip->Int->Bool) (v:Value) (N:Nat) (P:List Pip) (s:Nat) (hv:NA n h v N P) (g:netGood N P) (hs:s<19)
  (hcb: ∀(M:Nat->Prop) (h':Heap) (p:Pip) (nd:Int),h<+:h'->p∈P->vCall [] Tryz.prog M fid (.agg (pip p).toArray :: .int .i64 nd::cap.toList) h' (fun r h''=>r = .bool (op p nd)∧h'<+:h'')) :
  vCall [] Tryz.prog M 224 [v, .int .i64 s, .func (.func fid) #[] cap] h (fun r h'=>(∃e,EL h' r e∧e.length=19∧∀x,ev e x=true↔Rch P op s x)∧h<+:h'):=by
 obtain ⟨w,rfl,sP⟩:=hv
 replace sP:Sl h 4 w (P.map pip):=sP.1
 obtain ⟨a,rfl⟩:=Sl.len4 sP
 have hN:N<=8:=by have:=g.2.1;omega
 have hP:P.length<=10:=g.2.2
 have he:=g.ends
 refine body_of mo Tryz.func224 rfl (by kernel_rfl) (Nat.le_of_ble_eq_true (by kernel_rfl)) rfl ?_
 simp only [go_sem]
 have w0:s<19:=hs
 refine ⟨by omega,by omega, ?_⟩
 refine vLoop.rank mo 39 (fun m e h'=> ∃(E:List Bool) (ag:Bool) (t:Heap),Regs e [(2, .func (.func fid) #[] cap),(3, .pointer (some ⟨h.length,0,none⟩)),(7, .pointer (some ⟨h.length+1,0,none⟩)),(8, .bool ag)] ∧
  HeapIs h' (h++(⟨[.int .i64 N, .slice a P.length 0],2, .rw⟩::⟨E.map Value.bool,19, .rw⟩::t))∧Mks P op s E∧(ag=false->evenTo P op E P.length 0)∧2*lacks E+ag.toNat<=m) ?_ ?_
 ·refine ⟨(List.replicate 19 false).set s true,true,[],⟨rfl,rfl,rfl,rfl,trivial⟩, ?_,Mks.init hs,(fun h=>by cases h), ?_⟩
  ·rw [←ev_put (by simp;omega)]
   exact .rfl
  ·have:=List.countP_le_length (p:=fun b:Bool => !b) (l:=(List.replicate 19 false).set s true)
   simp [lacks] at this ⊢
   omega
 ·rintro m e _ ⟨E,ag,t,⟨e2,e3,e7,e8,_⟩,rfl,mk,ev0,hm⟩
  simp only [go_sem,e2,e3,e7,e8]
  cases ag with
  | false=>
   simp only [go_sem,e2,e3,e7,e8]
   refine ⟨E,⟨_,19,rfl, ?_⟩,mk.len,mk.done (ev0 rfl)⟩
   simp only [go_sem]
  | true=>
   simp only [go_sem,e2,e3,e7,e8]
   refine vLoop.count mo P.length (fun i e h'=> ∃(E:List Bool) (ag:Bool) (t:Heap),Regs e [(2, .func (.func fid) #[] cap),(3, .pointer (some ⟨h.length,0,none⟩)),(7, .pointer (some ⟨h.length+1,0,none⟩)),(8, .bool ag),(21, .slice a P.length 0),(22, .int .i64 P.length),(23, .int .i64 i)] ∧
    HeapIs h' (h++(⟨[.int .i64 N, .slice a P.length 0],2, .rw⟩::⟨E.map Value.bool,19, .rw⟩::t))∧Mks P op s E∧(ag=false->evenTo P op E i 0)∧2*lacks E+ag.toNat+1<=m) ?_ ?_
   ·exact ⟨E,false,t,⟨e2,e3,e7,rfl,rfl,rfl,rfl,trivial⟩, .rfl,mk,fun _=>evenTo.zero,by simpa using hm⟩
   ·clear mk ev0 hm e2 e3 e7 e8
    rintro i e _ hi ⟨E,ag,t,⟨e2,e3,e7,e8,e21,e22,e23,_⟩,rfl,mk,ev0,hm⟩
    simp only [go_sem,e2,e3,e7,e8,e21,e22,e23]
    by_cases hlt:i<P.length
    ·have hlt':i<(P.map pip).length:=by simpa using hlt
     have hz:(i:Int)<P.length:=by omega
     have ws:=wsucc hlt (by omega)
     obtain ⟨id,o,k,hv,hk,_,hd,hb,hrow,hat⟩:=sP.at hlt'
     obtain rfl:a=some ⟨id,o,none⟩:=by simpa using hv
     rw [List.getElem_map] at hrow
     simp only [pip] at hrow
     simp only [go_sem,e2,e3,e7,e8,e21,e22,e23,hz,hk,hd,hb,hrow]
     refine vLoop.count mo 2 (fun j e h'=> ∃(E:List Bool) (ag:Bool) (u:Heap),Regs e [(2, .func (.func fid) #[] cap),(3, .pointer (some ⟨h.length,0,none⟩)),(7, .pointer (some ⟨h.length+1,0,none⟩)),(8, .bool ag),(9, .int .i64 i),(10, .pointer (some ⟨h.length+(t.length+1+1),0,none⟩)),
      (21, .slice (some ⟨id,o,none⟩) P.length 0),(22, .int .i64 P.length),(23, .int .i64 i),(32, .slice (some ⟨h.length+(t.length+1+1+1),0,none⟩) 2 0),(33, .int .i64 2),(34, .int .i64 j)] ∧
      HeapIs h' (h++(⟨[.int .i64 N, .slice (some ⟨id,o,none⟩) P.length 0],2, .rw⟩::⟨E.map Value.bool,19, .rw⟩::(t++(⟨[.int .i64 P[i].1, .int .i64 P[i].2.1, .int .i64 P[i].2.2.1, .int .i64 P[i].2.2.2],4, .rw⟩::⟨[.int .i64 P[i].2.1, .int .i64 P[i].2.2.1],1, .rw⟩::u))))∧Mks P op s E∧(ag=false->evenTo P op E i j)∧2*lacks E+ag.toNat+1<=m) ?_ ?_
     ·refine ⟨E,ag,[],⟨e2,e3,e7,e8,rfl,rfl,e21,e22,e23,rfl,rfl,rfl,trivial⟩, .rfl,mk,ev0,hm⟩
     ·clear mk ev0 hm e2 e3 e7 e8 e21 e22 e23
      rintro j e _ hj ⟨E,ag,u,⟨e2,e3,e7,e8,e9,e10,e21,e22,e23,e32,e33,e34,_⟩,rfl,mk,ev0,hm⟩
      simp only [go_sem,e2,e3,e7,e8,e9,e10,e21,e22,e23,e32,e33,e34]
      by_cases hjl:j<2
      ·have hz2:(j:Int)<2:=by omega
       have hpi:=(he _ (List.getElem_mem hlt))
       obtain ⟨nd,hnd⟩: ∃nd,nd=if j=0 then P[i].2.1 else P[i].2.2.1:=⟨_,rfl⟩
       have hnd':nd=P[i].2.1∨nd=P[i].2.2.1:=by rw [hnd];split<;>simp
       have hr:1<=nd∧nd<=N:=by rcases hnd' with h|h<;>(rw [h];omega)
       have hcell: [Value.int .i64 P[i].2.1, .int .i64 P[i].2.2.1][j]? = some (.int .i64 nd):=by
        rw [hnd]
        obtain rfl|rfl:j=0∨j=1:=by omega
        ·rfl
        ·rfl
       have hl:=mk.len
       have g1:=ev_at (e:=E) (x:=nd.toNat) (by omega)
       have g2:=ev_at (e:=E) (x:=9+i) (by omega)
       have z1:0<=nd:=by omega
       have z2:nd<19:=by omega
       simp only [go_sem,e2,e3,e7,e8,e9,e10,e21,e22,e23,e32,e33,e34,hz2,hcell,z1,z2,g1]
       refine ⟨by kernel_rfl,(c_element i (by omega)).use (fun _ m=>m) ?_⟩
       rintro _ _ ⟨rfl,rfl⟩
       have z3:((9+i:Nat):Int)<19:=by omega
       have wj:=wsucc hjl (by omega)
       by_cases hx:ev E nd.toNat=ev E (9+i)
       ·simp only [go_sem,e2,e3,e7,e8,e9,e10,e21,e22,e23,e32,e33,e34,hz2,hcell,z1,z2,z3,g1,g2,show (ev E nd.toNat != ev E (9+i))=false by simp [hx]]
        refine ⟨hjl,E,ag,_,⟨e2,e3,e7,e8,e9,e10,e21,e22,e23,e32,e33,congrArg _ wj,trivial⟩, .rfl,mk,fun h0=>(ev0 h0).more hjl hlt hnd (fun _ _=>hx),hm⟩
       ·simp only [go_sem,e2,e3,e7,e8,e9,e10,e21,e22,e23,e32,e33,e34,hz2,hcell,z1,z2,z3,g1,g2,show (ev E nd.toNat != ev E (9+i))=true by simp [hx]]
        refine ⟨hf,(hcb _ _ P[i] nd (List.prefix_append _ _) (List.getElem_mem hlt)).use (fun _ m=>m) ?_⟩
        rintro _ _ ⟨rfl,⟨u2,rfl⟩⟩
        cases ho:op P[i] nd with
        | false=>
         simp only [go_sem,e2,e3,e7,e8,e9,e10,e21,e22,e23,e32,e33,e34]
         exact ⟨hjl,E,ag,_,⟨e2,e3,e7,e8,e9,e10,e21,e22,e23,e32,e33,congrArg _ wj,trivial⟩, .rfl,mk,fun h0=>(ev0 h0).more hjl hlt hnd (fun _ h1=>by rw [ho] at h1;cases h1),hm⟩
        | true=>
         simp only [go_sem,e2,e3,e7,e8,e9,e10,e21,e22,e23,e32,e33,e34,z1,z2,z3]
         refine ⟨by kernel_rfl,(c_element i (by omega)).use (fun _ m=>m) ?_⟩
         rintro _ _ ⟨rfl,rfl⟩
         have s1:=ev_put (e:=E) (x:=nd.toNat) (by omega)
         have s2:=ev_put (e:=E.set nd.toNat true) (x:=9+i) (by simp;omega)
         obtain ⟨mk2,hlk⟩:=mk.mark hlt hP hnd' (by omega) ho hx
         have b1:nd.toNat+1<=19:=by omega
         have b2:9+i+1<=19:=by omega
         simp only [go_sem,e2,e3,e7,e8,e9,e10,e21,e22,e23,e32,e33,e34,z1,z2,z3,s1,s2,List.length_map,List.length_set,hl]
         refine ⟨by omega,by omega,hjl,_,true,_,⟨e2,e3,e7,rfl,e9,e10,e21,e22,e23,e32,e33,congrArg _ wj,trivial⟩, .rfl,mk2,(fun h0=>by cases h0), ?_⟩
         have:ag.toNat<=1:=by cases ag<;>decide
         simp only [Bool.toNat_true]
         omega
      ·obtain rfl:j=2:=by omega
       have ws:=wsucc hlt (by omega)
       simp only [go_sem,e2,e3,e7,e8,e9,e10,e21,e22,e23,e32,e33,e34]
       exact ⟨hlt,E,ag,_,⟨e2,e3,e7,e8,e21,e22,congrArg _ ws,trivial⟩, .rfl,mk,fun h0=>(ev0 h0).next,hm⟩
    ·obtain rfl:i=P.length:=by omega
     simp only [go_sem,show ¬((P.length:Int)<P.length) by omega,e2,e3,e7,e8,e21,e22,e23]
     exact ⟨2*lacks E+ag.toNat,by omega,E,ag,t,⟨e2,e3,e7,e8,trivial⟩, .rfl,mk,ev0,Nat.le_refl _⟩
end
open Go.HH Go.Proofs
def blk (V:List Vlv) (pid nd:Int) (sh:Bool):Bool:=V.any fun v=>(decide (v.2.1=pid)&&decide (v.2.2.1=nd))&&(!sh||v.2.2.2)
def opn (V:List Vlv) (sh:Bool) (p:Pip) (nd:Int):Bool := !blk V p.1 nd sh
def vuniq (V:List Vlv):Prop:= ∀(i m:Nat) (hi:i<V.length) (hm:m<i),¬(V[m].2.1=V[i].2.1∧V[m].2.2.1=V[i].2.2.1)
theorem valOk.uniq {N:Int} {P:List Pip} {V:List Vlv} (g:valOk N P V):vuniq V:=fun i m hi hm=>by
 have:=(g.2.2 i hi).2 m hm
 rwa [getDv hi,getDv (by omega)] at this
def atv (pid nd:Int) (v:Vlv):Bool:=decide (v.2.1=pid)&&decide (v.2.2.1=nd)
theorem blk_any {V:List Vlv} {pid nd:Int}:blk V pid nd false=V.any (atv pid nd):=by
 unfold blk atv
 congr 1
 funext v
 simp
theorem idx_open {V:List Vlv} {p:Pip} {nd:Int}:decide (idxI (atv p.1 nd) V<0)=opn V false p nd:=by
 rw [opn,blk_any,idxI]
 split
 ·rename_i h;rw [h,decide_eq_false (by omega)];rfl
 ·rename_i h;rw [Bool.not_eq_true] at h;rw [h];rfl
theorem idx_shut {V:List Vlv} (u:vuniq V) {p:Pip} {nd:Int} {k:Nat} (h:idxI (atv p.1 nd) V=(k:Int)) (hk:k<V.length):(!V[k].2.2.2)=opn V true p nd:=by
 obtain ⟨_,hp⟩:=idxI_at h
 rw [opn]
 congr 1
 have hp':V[k].2.1=p.1∧V[k].2.2.1=nd:=by simpa [atv] using hp
 cases hs:V[k].2.2.2 with
 | true=>
  symm
  rw [blk,List.any_eq_true]
  exact ⟨V[k],List.getElem_mem hk,by simp [hp',hs]⟩
 | false=>
  symm
  rw [blk,List.any_eq_false]
  intro x hx
  obtain ⟨j,hj,rfl⟩:=List.mem_iff_getElem.1 hx
  by_cases hjk:j=k
  ·subst hjk;simp [hs]
  ·intro hh
   simp only [Bool.and_eq_true,decide_eq_true_eq] at hh
   rcases Nat.lt_or_gt_of_ne hjk with h1|h1
   ·exact u k j hk h1 ⟨by rw [hh.1.1,hp'.1],by rw [hh.1.2,hp'.2]⟩
   ·exact u j k hj h1 ⟨by rw [hh.1.1,hp'.1],by rw [hh.1.2,hp'.2]⟩
theorem idx_none {V:List Vlv} {p:Pip} {nd:Int} {sh:Bool} (h:idxI (atv p.1 nd) V<0):opn V sh p nd=true:=by
 have h0:V.any (atv p.1 nd)=false:=by
  cases hh:V.any (atv p.1 nd)
  ·rfl
  ·rw [idxI,if_pos hh] at h;omega
 rw [opn,blk,Bool.not_eq_true',List.any_eq_false]
 intro x hx
 have h1:=(List.any_eq_false.1 h0) x hx
 unfold atv at h1
 simp only [Bool.not_eq_true] at h1
 rw [h1];simp
section
variable {h : Heap} {M : Nat → Prop}
theorem c_valveAt1 (x:Vlv) (p:Pip) (nd:Int) (i1 i2:Nat) (h1:hget h i1=some ⟨[.int .i64 p.1, .int .i64 p.2.1, .int .i64 p.2.2.1, .int .i64 p.2.2.2],4, .rw⟩) (h2:hget h i2=some ⟨[.int .i64 nd],1, .rw⟩) :
  vCall [] Tryz.prog M 253 [.agg #[.int .i64 x.1, .int .i64 x.2.1, .int .i64 x.2.2.1, .bool x.2.2.2], .pointer (some ⟨i1,0,none⟩), .pointer (some ⟨i2,0,none⟩)] h (fun r h'=>r = .bool (atv p.1 nd x)∧h<+:h'):=by
 have g1:=self_get h1
 have g2:=self_get h2
 unfold atv
 refine body_of mo Tryz.func253 rfl (by kernel_rfl) (Nat.le_of_ble_eq_true (by kernel_rfl)) rfl ?_
 simp only [go_sem,g1,g2]
 by_cases q1:x.2.1=p.1
 ·simp only [go_sem,g1,g2,show (x.2.1==p.1)=true by simpa using q1]
  by_cases q2:x.2.2.1=nd
  ·simp [q1,q2]
  ·simp [q1,q2]
 ·simp only [go_sem,g1,g2,show (x.2.1==p.1)=false by simpa using q1]
  simp [q1]
theorem c_valveAt (v:Value) (V:List Vlv) (p:Pip) (nd:Int) (s:Sl h 4 v (V.map vlv)) (hV:V.length<=1048576):vCall [] Tryz.prog M 226 [v, .agg #[.int .i64 p.1, .int .i64 p.2.1, .int .i64 p.2.2.1, .int .i64 p.2.2.2], .int .i64 nd] h (fun r h'=>r = .int .i64 (idxI (atv p.1 nd) V)∧h<+:h'):=by
 refine body_of mo Tryz.func226 rfl (by kernel_rfl) (Nat.le_of_ble_eq_true (by kernel_rfl)) rfl ?_
 simp only [go_sem]
 refine ⟨by kernel_rfl,(c_vlvIndex (by kernel_rfl) (atv p.1 nd) v V (s.mono (by simp)) hV (fun M h' x hp _=>c_valveAt1 x p nd _ _ (by rw [hget_prefix hp (by simp)];simp only [go_sem]) (by rw [hget_prefix hp (by simp)];simp only [go_sem]))).use (fun _ m=>m) ?_⟩
 rintro _ _ ⟨rfl,⟨t,rfl⟩⟩
 simp only [go_sem]
theorem c_segOpen (v:Value) (V:List Vlv) (p:Pip) (nd:Int) (i1:Nat) (h1:hget h i1=some ⟨[v],1, .rw⟩) (s:Sl h 4 v (V.map vlv)) (hV:V.length<=1048576) :
  vCall [] Tryz.prog M 229 [.agg #[.int .i64 p.1, .int .i64 p.2.1, .int .i64 p.2.2.1, .int .i64 p.2.2.2], .int .i64 nd, .pointer (some ⟨i1,0,none⟩)] h (fun r h'=>r = .bool (opn V false p nd)∧h<+:h'):=by
 have g1:=self_get h1
 refine body_of mo Tryz.func229 rfl (by kernel_rfl) (Nat.le_of_ble_eq_true (by kernel_rfl)) rfl ?_
 simp only [go_sem,g1]
 refine ⟨by kernel_rfl,(c_valveAt v V p nd (s.mono (by simp)) hV).use (fun _ m=>m) ?_⟩
 rintro _ _ ⟨rfl,⟨t,rfl⟩⟩
 simp only [go_sem]
 rw [idx_open]
theorem c_watOpen (v:Value) (V:List Vlv) (p:Pip) (nd:Int) (i1:Nat) (h1:hget h i1=some ⟨[v],1, .rw⟩) (s:Sl h 4 v (V.map vlv)) (hV:V.length<=1048576) (u:vuniq V) :
  vCall [] Tryz.prog M 225 [.agg #[.int .i64 p.1, .int .i64 p.2.1, .int .i64 p.2.2.1, .int .i64 p.2.2.2], .int .i64 nd, .pointer (some ⟨i1,0,none⟩)] h (fun r h'=>r = .bool (opn V true p nd)∧h<+:h'):=by
 have g1:=self_get h1
 obtain ⟨a,ev,_,_⟩:=id s
 rw [List.length_map] at ev
 subst ev
 refine body_of mo Tryz.func225 rfl (by kernel_rfl) (Nat.le_of_ble_eq_true (by kernel_rfl)) rfl ?_
 simp only [go_sem,g1]
 refine ⟨by kernel_rfl,(c_valveAt _ V p nd (s.mono (by simp)) hV).use (fun _ m=>m) ?_⟩
 rintro _ _ ⟨rfl,⟨t,rfl⟩⟩
 by_cases q:idxI (atv p.1 nd) V<0
 ·simp only [go_sem,g1,q,decb q]
  exact congrArg Value.bool (idx_none q).symm
 ·obtain ⟨k,hk⟩: ∃k:Nat,idxI (atv p.1 nd) V=k:=⟨(idxI (atv p.1 nd) V).toNat,by omega⟩
  obtain ⟨hkl,_⟩:=idxI_at hk
  have hkl':k<(V.map vlv).length:=by simpa using hkl
  obtain ⟨id,o,B,hv,hB,_,hd,hb,hrow,hat⟩:=s.at hkl'
  obtain rfl:a=some ⟨id,o,none⟩:=by simpa using hv
  have hc:=hat 3 (by omega)
  rw [List.getElem_map] at hc
  simp only [vlv,List.getElem?_cons_zero,List.getElem?_cons_succ] at hc
  rw [hk] at q
  simp only [go_sem,g1,hk,q,show (0:Int)<=k by omega,show (k:Int)<V.length by omega,hB,hd,hc]
  exact congrArg Value.bool (idx_shut u hk hkl)
theorem c_segmentOf {n:Nat} (v w:Value) (N:Nat) (P:List Pip) (V:List Vlv) (st:Nat) (hv:NA n h v N P) (sv:Sl h 4 w (V.map vlv)) (g:netGood N P) (hV:V.length<=1048576) (hs:st<19) :
  vCall [] Tryz.prog M 182 [v,w, .int .i64 st] h (fun r h'=>(∃e,EL h' r e∧e.length=19∧∀x,ev e x=true↔Rch P (opn V false) st x)∧h<+:h'):=by
 obtain ⟨wp,rfl,sp⟩:=id hv
 obtain ⟨a,ew,_,_⟩:=id sv
 rw [List.length_map] at ew
 subst ew
 refine body_of mo Tryz.func182 rfl (by kernel_rfl) (Nat.le_of_ble_eq_true (by kernel_rfl)) rfl ?_
 simp only [go_sem]
 refine ⟨by kernel_rfl,(c_reached (by kernel_rfl) (opn V false) _ N P st (hv.mono (by simp)) g hs (fun M h' p nd hp _=>c_segOpen _ V p nd _ (by rw [hget_prefix hp (by simp)];simp only [go_sem]) (sv.mono ((by simp:h<+:_).trans hp)) hV)).use (fun _ m=>m) ?_⟩
 rintro _ _ ⟨⟨e,el,hl,he⟩,⟨t,rfl⟩⟩
 simp only [go_sem]
 exact ⟨e,by simpa using el,hl,he⟩
theorem c_watered {n:Nat} (v w:Value) (N:Nat) (P:List Pip) (V:List Vlv) (st:Nat) (hv:NA n h v N P) (sv:Sl h 4 w (V.map vlv)) (g:netGood N P) (hV:V.length<=1048576) (u:vuniq V) (hs:st<19) :
  vCall [] Tryz.prog M 178 [v,w, .int .i64 st] h (fun r h'=>(∃e,EL h' r e∧e.length=19∧∀x,ev e x=true↔Rch P (opn V true) st x)∧h<+:h'):=by
 obtain ⟨wp,rfl,sp⟩:=id hv
 obtain ⟨a,ew,_,_⟩:=id sv
 rw [List.length_map] at ew
 subst ew
 refine body_of mo Tryz.func178 rfl (by kernel_rfl) (Nat.le_of_ble_eq_true (by kernel_rfl)) rfl ?_
 simp only [go_sem]
 refine ⟨by kernel_rfl,(c_reached (by kernel_rfl) (opn V true) _ N P st (hv.mono (by simp)) g hs (fun M h' p nd hp _=>c_watOpen _ V p nd _ (by rw [hget_prefix hp (by simp)];simp only [go_sem]) (sv.mono ((by simp:h<+:_).trans hp)) hV u)).use (fun _ m=>m) ?_⟩
 rintro _ _ ⟨⟨e,el,hl,he⟩,⟨t,rfl⟩⟩
 simp only [go_sem]
 exact ⟨e,by simpa using el,hl,he⟩
def nodesOf (N:Nat) (f:Nat->Bool):List Int:=((List.range N).filter fun v=>f (v+1)).map fun v=>((v+1:Nat):Int)
theorem nodesOf_succ {N:Nat} {f:Nat->Bool}:nodesOf (N+1) f=nodesOf N f++if f (N+1) then [((N+1:Nat):Int)] else []:=by
 unfold nodesOf
 rw [List.range_succ,List.filter_append,List.map_append]
 cases h:f (N+1)<;>simp [h]
theorem c_nodesAndPipes {n:Nat} (v w:Value) (N:Nat) (P:List Pip) (e:List Bool) (b:Bool) (hv:NA n h v N P) (el:EL h w e) (hl:e.length=19) (g:netGood N P) :
  vCall [] Tryz.prog M 177 [v,w, .bool b] h (fun r h'=>(∃x y,r = .tuple #[x,y]∧FI h.length h'.length h' x (nodesOf N (fun k=>ev e k==b)))∧h<+:h'):=by
 obtain ⟨wp,rfl,sp⟩:=id hv
 obtain ⟨id,sz,rfl,gE⟩:=el
 replace sp:Sl h 4 wp (P.map pip):=sp.1
 obtain ⟨a,rfl⟩:=Sl.len4 sp
 have hN:N<=8:=by have:=g.2.1;omega
 have hP:P.length<=10:=g.2.2
 have gE1:=self_get gE
 refine body_of mo Tryz.func177 rfl (by kernel_rfl) (Nat.le_of_ble_eq_true (by kernel_rfl)) rfl ?_
 simp only [go_sem]
 refine vLoop.count mo N (fun i x h'=> ∃(t:Heap) (v8:Value) (j:Nat),Regs x [(1, .pointer (some ⟨id,0,none⟩)),(2, .bool b),(3, .pointer (some ⟨h.length,0,none⟩)),(8,v8),(9, .slice (some ⟨h.length+2,0,none⟩) 0 0),(10, .int .i64 ((i+1:Nat):Int))] ∧
  HeapIs h' (h++(⟨[.int .i64 N, .slice a P.length 0],2, .rw⟩::t))∧(v8 = .slice (some ⟨h.length+(j+1),0,none⟩) (nodesOf i (fun k=>ev e k==b)).length 0∧t[j]? = some ⟨(nodesOf i (fun k=>ev e k==b)).map iv,1, .rw⟩)∧t[1]? = some ⟨[],1, .rw⟩∧j≠1∧(nodesOf i (fun k=>ev e k==b)).length<=i) ?_ ?_
 ·exact ⟨_,_,0,⟨rfl,rfl,rfl,rfl,rfl,rfl,trivial⟩, .rfl,⟨rfl,rfl⟩,rfl,by omega,by simp [nodesOf]⟩
 ·rintro i x _ hi ⟨t,v8,j,⟨e1,e2,e3,e8,e9,e10,_⟩,rfl,⟨rfl,hj⟩,h1,hj1,hlen⟩
  simp only [go_sem,e1,e2,e3,e8,e9,e10]
  by_cases hlt:i<N
  ·have wi:=wsucc (i:=i+1) (N:=N+1) (by omega) (by omega)
   have z1:((i+1:Nat):Int)<19:=by omega
   have g1:=ev_at (e:=e) (x:=i+1) (by omega)
   simp only [go_sem,e1,e2,e3,e8,e9,e10,show ((i+1:Nat):Int)<=N by omega,z1,gE1,g1,Tryz.underlying4]
   by_cases c:(ev e (i+1)==b)=true
   ·have hyes:nodesOf (i+1) (fun k=>ev e k==b)=nodesOf i (fun k=>ev e k==b)++ [((i+1:Nat):Int)]:=by rw [nodesOf_succ,if_pos c]
    simp only [go_sem,e1,e2,e3,e8,e9,e10,c,app_old hj,List.length_map]
    have hjl:=(List.getElem?_eq_some_iff.1 hj).1
    have h1l:=(List.getElem?_eq_some_iff.1 h1).1
    refine ⟨by omega,by omega,hlt,_,_,t.length+1,⟨e1,e2,e3,rfl,e9,congrArg _ wi,trivial⟩, .rfl,⟨?_, ?_⟩, ?_,by omega, ?_⟩
    ·rw [hyes,List.length_append];rfl
    ·exact (new_at (by simp)).trans (by simp [iv,hyes])
    ·rw [List.getElem?_append_left (by simp;omega),List.getElem?_set_ne (by omega)];exact app_old h1 _
    ·rw [hyes,List.length_append];simp;omega
   ·rw [Bool.not_eq_true] at c
    have hno:nodesOf (i+1) (fun k=>ev e k==b)=nodesOf i (fun k=>ev e k==b):=by rw [nodesOf_succ,c];simp
    simp only [go_sem,e1,e2,e3,e8,e9,e10,c]
    exact ⟨hlt,t,_,j,⟨e1,e2,e3,e8,e9,congrArg _ wi,trivial⟩, .rfl,⟨by rw [hno],by rw [hno];exact hj⟩,h1,hj1,by rw [hno];omega⟩
  ·obtain rfl:i=N:=by omega
   obtain ⟨l8,hl8⟩: ∃l,l=nodesOf i (fun k=>ev e k==b):=⟨_,rfl⟩
   rw [←hl8] at hj e8 ⊢
   simp only [go_sem,e1,e2,e3,e8,e9,e10,show ¬(((i+1:Nat):Int)<=i) by omega]
   refine vLoop.count mo P.length (fun q x h'=> ∃(t:Heap) (j9:Nat) (L:List Int),Regs x [(1, .pointer (some ⟨id,0,none⟩)),(2, .bool b),(3, .pointer (some ⟨h.length,0,none⟩)),(8, .slice (some ⟨h.length+(j+1),0,none⟩) l8.length 0),(9, .slice (some ⟨h.length+(j9+1),0,none⟩) L.length 0),
    (33, .slice a P.length 0),(34, .int .i64 P.length),(35, .int .i64 q)] ∧
    HeapIs h' (h++(⟨[.int .i64 i, .slice a P.length 0],2, .rw⟩::t))∧t[j]? = some ⟨l8.map iv,1, .rw⟩∧t[j9]? = some ⟨L.map iv,1, .rw⟩∧j≠j9∧L.length<=q) ?_ ?_
   ·exact ⟨t,1,[],⟨e1,e2,e3,e8,e9,rfl,rfl,rfl,trivial⟩, .rfl,hj,h1,hj1,Nat.zero_le _⟩
   ·clear e1 e2 e3 e8 e9 e10 hj h1 hj1 hlen hi hlt hl8
    rintro q x _ hi ⟨t,j9,L,⟨e1,e2,e3,e8,e9,e33,e34,e35,_⟩,rfl,hj,hj9,hjj,hL⟩
    simp only [go_sem,e1,e2,e3,e8,e9,e33,e34,e35]
    by_cases hlt:q<P.length
    ·have hlt':q<(P.map pip).length:=by simpa using hlt
     have hz:(q:Int)<P.length:=by omega
     have ws:=wsucc hlt (by omega)
     obtain ⟨id2,o,k,hv,hk,_,hd,hb,hrow,hat⟩:=sp.at hlt'
     obtain rfl:a=some ⟨id2,o,none⟩:=by simpa using hv
     rw [List.getElem_map] at hrow
     simp only [pip] at hrow
     have g1:=ev_at (e:=e) (x:=9+q) (by omega)
     have z3:((9+q:Nat):Int)<19:=by omega
     simp only [go_sem,e1,e2,e3,e8,e9,e33,e34,e35,hz,hk,hd,hb,hrow]
     refine ⟨by kernel_rfl,(c_element q (by omega)).use (fun _ m=>m) ?_⟩
     rintro _ _ ⟨rfl,rfl⟩
     simp only [go_sem,e1,e2,e3,e8,e9,e33,e34,e35,gE1,g1,z3,Tryz.underlying4]
     by_cases c:(ev e (9+q)==b)=true
     ·simp only [go_sem,e1,e2,e3,e8,e9,e33,e34,e35,c,app_old hj9,List.length_map]
      have hjl:=(List.getElem?_eq_some_iff.1 hj).1
      have h9l:=(List.getElem?_eq_some_iff.1 hj9).1
      refine ⟨by omega,by omega,hlt,_,t.length+2,L++ [P[q].1],⟨e1,e2,e3,e8, ?_,e33,e34,congrArg _ ws,trivial⟩, .rfl, ?_, ?_,by omega,by simp;omega⟩
      ·rw [List.length_append];rfl
      ·rw [List.getElem?_append_left (by simp;omega),List.getElem?_set_ne (by omega)];exact app_old hj _
      ·exact (new_at (by simp)).trans (by simp [iv])
     ·rw [Bool.not_eq_true] at c
      simp only [go_sem,e1,e2,e3,e8,e9,e33,e34,e35,c]
      exact ⟨hlt,_,j9,L,⟨e1,e2,e3,e8,e9,e33,e34,congrArg _ ws,trivial⟩, .rfl,app_old hj _,app_old hj9 _,hjj,by omega⟩
    ·obtain rfl:q=P.length:=by omega
     simp only [go_sem,e1,e2,e3,e8,e9,e33,e34,e35,show ¬((P.length:Int)<P.length) by omega]
     have hjl:=(List.getElem?_eq_some_iff.1 hj).1
     refine ⟨_,_,rfl,FI.at (by omega) (by omega) ?_⟩
     rw [hget_app]
     exact hj
end
open Go.HH Go.Proofs
open Classical in
noncomputable def dryL (N:Int) (P:List Pip) (V:List Vlv) (s:Int):List Int:=if valOk N P V∧1<=s∧s<=N then nodesOf N.toNat (fun k => !decide (Rch P (opn V true) s.toNat k)) else []
open Classical in
noncomputable def segL (N:Int) (P:List Pip) (V:List Vlv) (id:Int):List Int:=if valOk N P V∧0<=pidx P id then nodesOf N.toNat (fun k=>decide (Rch P (opn V false) (9+(pidx P id).toNat) k)) else []
theorem ev_dec {e:List Bool} {P:List Pip} {op:Pip->Int->Bool} {s:Nat} (he: ∀x,ev e x=true↔Rch P op s x) (x:Nat):ev e x=decide (Rch P op s x):=by
 by_cases h:Rch P op s x
 ·rw [decide_eq_true h,(he x).2 h]
 ·rw [decide_eq_false h]
  cases hh:ev e x
  ·rfl
  ·exact absurd ((he x).1 hh) h
theorem pidx_lt {P:List Pip} {id:Int} (h:0<=pidx P id):(pidx P id).toNat<P.length:=by
 have:=(idxI_at (p:=fun p:Pip=>decide (p.1=id)) (l:=P) (k:=(pidx P id).toNat) (by unfold pidx at *;omega))
 exact this.1
theorem AI.none {n:Nat} {h:Heap}:AI n h (.slice none 0 0) []:=⟨_,rfl,fun h0=>absurd h0 (by simp)⟩
noncomputable def cutV (P:List Pip) (V:List Vlv) (st i:Nat):Bool:=decide (Rch P (opn V false) st (V.getD i vlv0).2.2.1.toNat) != decide (Rch P (opn V false) st (9+(pidx P (V.getD i vlv0).2.1).toNat))
noncomputable def arI (P:List Pip) (V:List Vlv) (st n:Nat):List Int:=((List.range n).filter (cutV P V st)).map Int.ofNat
theorem arI_succ {P:List Pip} {V:List Vlv} {st n:Nat}:arI P V st (n+1)=arI P V st n++if cutV P V st n then [Int.ofNat n] else []:=by
 unfold arI
 rw [List.range_succ,List.filter_append,List.map_append]
 cases h:cutV P V st n<;>simp [h]
theorem arI_len {P:List Pip} {V:List Vlv} {st n:Nat}:(arI P V st n).length<=n:=by
 unfold arI
 rw [List.length_map]
 exact Nat.le_trans (List.length_filter_le _ _) (by simp)
theorem arI_in {P:List Pip} {V:List Vlv} {st n:Nat}: ∀x∈arI P V st n,0<=x∧x<n:=by
 intro x hx
 unfold arI at hx
 obtain ⟨i,hi,rfl⟩:=List.mem_map.1 hx
 have:=List.mem_range.1 (List.mem_filter.1 hi).1
 simp only [Int.ofNat_eq_natCast]
 omega
open Classical in
noncomputable def arndL (N:Int) (P:List Pip) (V:List Vlv) (id:Int):List Int:=if valOk N P V∧0<=pidx P id then (arI P V (9+(pidx P id).toNat) V.length).map fun i=>(V.getD i.toNat vlv0).1 else []
theorem valOk.at {N:Int} {P:List Pip} {V:List Vlv} (g:valOk N P V) {i:Nat} (hi:i<V.length):(1<=V[i].2.2.1∧V[i].2.2.1<=N)∧0<=pidx P V[i].2.1∧(pidx P V[i].2.1).toNat<P.length:=by
 obtain ⟨⟨h1,h2,h3⟩,_⟩:=g.2.2 i hi
 rw [getDv hi] at h3
 have hk:=pidx_lt h3.1
 have h4:=h3.2
 rw [getDp hk] at h4
 have:=g.1.ends _ (List.getElem_mem hk)
 refine ⟨?_,h3.1,hk⟩
 rcases h4 with h|h<;>(rw [←h];omega)
section
variable {h : Heap} {M : Nat → Prop}
theorem c_DryNodes {n:Nat} (v w:Value) (N:Int) (P:List Pip) (V:List Vlv) (s:Int) (hv:NA n h v N P) (sv:Sl h 4 w (V.map vlv)) (es:EszC h 4 w) (hP:P.length<=1048576) (hV:V.length<=1048576) :
  vCall [] Tryz.prog M 141 [v,w, .int .i64 s] h (fun r h'=>(∃x,r = .tuple #[x, .bool (decide (valOk N P V∧1<=s∧s<=N))]∧SI h' x (dryL N P V s))∧h<+:h'):=by
 obtain ⟨wp,rfl,sp⟩:=id hv
 refine body_of mo Tryz.func141 rfl (by kernel_rfl) (Nat.le_of_ble_eq_true (by kernel_rfl)) rfl ?_
 simp only [go_sem]
 refine ⟨by kernel_rfl,(c_IsValidValves _ _ N P V (hv.mono (by simp)) (sv.mono (by simp)) (es.mono (by simp)) hP hV).use (fun _ m=>m) ?_⟩
 rintro _ _ ⟨rfl,⟨t,rfl⟩⟩
 by_cases h1:valOk N P V
 ·simp only [go_sem,decb h1]
  refine ⟨by kernel_rfl,(c_has _ _ _).use (fun _ m=>m) ?_⟩
  rintro _ _ ⟨rfl,⟨t2,rfl⟩⟩
  by_cases h2:1<=s∧s<=N
  ·obtain ⟨N,rfl⟩: ∃N':Nat,N=N':=⟨N.toNat,by omega⟩
   have hN:N<=8:=by have:=h1.1.2.1;omega
   obtain ⟨s,rfl⟩: ∃s':Nat,s=s':=⟨s.toNat,by omega⟩
   simp only [go_sem,decb h1,decb h2]
   refine ⟨by kernel_rfl,(c_watered _ _ N P V s (hv.mono (by simp)) (sv.mono (by simp)) h1.1 hV h1.uniq (by omega)).use (fun _ m=>m) ?_⟩
   rintro ve _ ⟨⟨e,el,hl,he⟩,⟨t3,rfl⟩⟩
   try simp only [go_sem]
   refine ⟨by kernel_rfl,(c_nodesAndPipes _ ve N P e false (hv.mono (by simp)) (by simpa using el) hl h1.1).use (fun _ m=>m) ?_⟩
   rintro _ _ ⟨⟨x,y,rfl,fx⟩,⟨t4,rfl⟩⟩
   simp only [go_sem,decb h1,decb h2]
   refine ⟨_,congrArg (fun b=>Value.tuple #[_,Value.bool b]) (decide_eq_true (p:=valOk N P V∧1<=(s:Int)∧(s:Int)<=N) ⟨h1,h2⟩).symm, ?_⟩
   have e2:dryL N P V s=nodesOf N (fun k=>ev e k==false):=by
    rw [dryL,if_pos ⟨h1,h2⟩]
    congr 1
    funext k
    rw [ev_dec he k]
    show (!decide (Rch P (opn V true) s k))=_
    generalize decide (Rch P (opn V true) s k)=b
    cases b<;>rfl
   rw [e2]
   simpa only [List.append_assoc,List.cons_append] using FI.si fx (by simp)
  ·simp only [go_sem,decb h1,dect h2]
   refine ⟨_,congrArg (fun b=>Value.tuple #[_,Value.bool b]) (decide_eq_false (fun hh:valOk N P V∧1<=s∧s<=N=>h2 hh.2)).symm, ?_⟩
   rw [dryL,if_neg (fun hh=>h2 hh.2)]
   exact AI.none
 ·simp only [go_sem,dect h1]
  refine ⟨_,congrArg (fun b=>Value.tuple #[_,Value.bool b]) (decide_eq_false (fun hh:valOk N P V∧1<=s∧s<=N=>h1 hh.1)).symm, ?_⟩
  rw [dryL,if_neg (fun hh=>h1 hh.1)]
  exact AI.none
theorem c_SegmentOfPipe {n:Nat} (v w:Value) (N:Int) (P:List Pip) (V:List Vlv) (pi:Int) (hv:NA n h v N P) (sv:Sl h 4 w (V.map vlv)) (es:EszC h 4 w) (hP:P.length<=1048576) (hV:V.length<=1048576) :
  vCall [] Tryz.prog M 143 [v,w, .int .i64 pi] h (fun r h'=>(∃x y,r = .tuple #[x,y, .bool (decide (valOk N P V∧0<=pidx P pi))]∧SI h' x (segL N P V pi))∧h<+:h'):=by
 obtain ⟨wp,rfl,sp⟩:=id hv
 refine body_of mo Tryz.func143 rfl (by kernel_rfl) (Nat.le_of_ble_eq_true (by kernel_rfl)) rfl ?_
 simp only [go_sem]
 refine ⟨by kernel_rfl,(c_IsValidValves _ _ N P V (hv.mono (by simp)) (sv.mono (by simp)) (es.mono (by simp)) hP hV).use (fun _ m=>m) ?_⟩
 rintro _ _ ⟨rfl,⟨t,rfl⟩⟩
 by_cases h1:valOk N P V
 ·simp only [go_sem,decb h1]
  refine ⟨by kernel_rfl,(c_pipeIndex _ N P pi (hv.mono (by simp)) hP).use (fun _ m=>m) ?_⟩
  rintro _ _ ⟨rfl,⟨t2,rfl⟩⟩
  by_cases h2:pidx P pi<0
  ·simp only [go_sem,decb h1,decb h2]
   refine ⟨_,_,congrArg (fun b=>Value.tuple #[_,_,Value.bool b]) (decide_eq_false (fun hh:valOk N P V∧0<=pidx P pi=>by omega)).symm, ?_⟩
   rw [segL,if_neg (by omega)]
   exact AI.none
  ·have hN:1<=N∧N<=8:=h1.1.2.1
   have hP10:=h1.1.2.2
   have hk:=pidx_lt (P:=P) (id:=pi) (by omega)
   obtain ⟨k,hk2⟩: ∃k:Nat,pidx P pi=k:=⟨(pidx P pi).toNat,by omega⟩
   obtain ⟨N,rfl⟩: ∃N':Nat,N=N':=⟨N.toNat,by omega⟩
   simp only [go_sem,decb h1,dect h2]
   refine ⟨by kernel_rfl,(c_pipeIndex _ N P pi (hv.mono (by simp)) hP).use (fun _ m=>m) ?_⟩
   rintro _ _ ⟨rfl,⟨t3,rfl⟩⟩
   rw [hk2] at hk h2 ⊢
   try simp only [go_sem]
   refine ⟨by kernel_rfl,(c_element k (by omega)).use (fun _ m=>m) ?_⟩
   rintro _ _ ⟨rfl,rfl⟩
   try simp only [go_sem]
   refine ⟨by kernel_rfl,(c_segmentOf _ _ N P V (9+k) (hv.mono (by simp)) (sv.mono (by simp)) h1.1 hV (by omega)).use (fun _ m=>m) ?_⟩
   rintro ve _ ⟨⟨e,el,hl,he⟩,⟨t4,rfl⟩⟩
   try simp only [go_sem]
   refine ⟨by kernel_rfl,(c_nodesAndPipes _ ve N P e true (hv.mono (by simp)) (by simpa using el) hl h1.1).use (fun _ m=>m) ?_⟩
   rintro _ _ ⟨⟨x,y,rfl,fx⟩,⟨t5,rfl⟩⟩
   simp only [go_sem,decb h1]
   refine ⟨_,_,rfl, ?_⟩
   have e2:segL N P V pi=nodesOf N (fun k=>ev e k==true):=by
    rw [segL,if_pos ⟨h1,by omega⟩]
    congr 1
    funext j
    rw [ev_dec he j,hk2]
    show decide (Rch P (opn V false) (9+k) j)=_
    generalize decide (Rch P (opn V false) (9+k) j)=b
    cases b<;>rfl
   rw [e2]
   simpa only [List.append_assoc,List.cons_append] using FI.si fx (by simp)
 ·simp only [go_sem,dect h1]
  refine ⟨_,_,congrArg (fun b=>Value.tuple #[_,_,Value.bool b]) (decide_eq_false (fun hh:valOk N P V∧0<=pidx P pi=>h1 hh.1)).symm, ?_⟩
  rw [segL,if_neg (fun hh=>h1 hh.1)]
  exact AI.none
theorem c_valvesAround {n:Nat} (v w:Value) (N:Nat) (P:List Pip) (V:List Vlv) (pi:Int) (hv:NA n h v N P) (sv:Sl h 4 w (V.map vlv)) (g:valOk N P V) (hk0:0<=pidx P pi) :
  vCall [] Tryz.prog M 184 [v,w, .int .i64 pi] h (fun r h'=>FI h.length h'.length h' r (arI P V (9+(pidx P pi).toNat) V.length)∧h<+:h'):=by
 obtain ⟨wp,rfl,sp⟩:=id hv
 have hN:1<=(N:Int)∧(N:Int)<=8:=g.1.2.1
 have hP10:=g.1.2.2
 have hV10:=g.2.1
 have hk:=pidx_lt hk0
 obtain ⟨k,hk2⟩: ∃k:Nat,pidx P pi=k:=⟨(pidx P pi).toNat,by omega⟩
 rw [hk2] at hk
 obtain ⟨a,ew,_,_⟩:=id sv
 rw [List.length_map] at ew
 subst ew
 refine body_of mo Tryz.func184 rfl (by kernel_rfl) (Nat.le_of_ble_eq_true (by kernel_rfl)) rfl ?_
 simp only [go_sem]
 refine ⟨by kernel_rfl,(c_pipeIndex _ N P pi (hv.mono (by simp)) (by omega)).use (fun _ m=>m) ?_⟩
 rintro _ _ ⟨rfl,⟨t3,rfl⟩⟩
 rw [hk2]
 try simp only [go_sem]
 refine ⟨by kernel_rfl,(c_element k (by omega)).use (fun _ m=>m) ?_⟩
 rintro _ _ ⟨rfl,rfl⟩
 try simp only [go_sem]
 refine ⟨by kernel_rfl,(c_segmentOf _ _ N P V (9+k) (hv.mono (by simp)) (sv.mono (by simp)) g.1 (by omega) (by omega)).use (fun _ m=>m) ?_⟩
 rintro ve _ ⟨⟨e,el,hl,he⟩,⟨t4,rfl⟩⟩
 obtain ⟨ie,sz,rfl,ge⟩:=el
 try simp only [List.append_assoc,List.cons_append] at ge
 simp only [go_sem]
 obtain ⟨H,hH⟩: ∃H:Heap,H=h++⟨[.int .i64 N,wp],2, .rw⟩::(t3++t4):=⟨_,rfl⟩
 have hp:h<+:H:=by rw [hH];exact List.prefix_append _ _
 have hHl:=hp.length_le
 have gB: ∀u,hget (H++u) h.length=some ⟨[.int .i64 N,wp],2, .rw⟩:=self_get (by rw [hH];simp only [go_sem])
 have gE: ∀u,hget (H++u) ie=some ⟨e.map Value.bool,sz, .rw⟩:=self_get (by rw [hH];exact ge)
 have eH:h++⟨[.int .i64 N,wp],2, .rw⟩::(t3++(t4++ [⟨[],1, .rw⟩]))=H++ [⟨[],1, .rw⟩]:=by rw [hH];simp
 have eL:h.length+(t3.length+t4.length+1)=H.length:=by rw [hH];simp;try omega
 have hown: ∀k,own h.length M (H.length+k):=fun k=>Or.inl (by omega)
 rw [eH]
 refine vLoop.count mo V.length (fun i x h'=> ∃(u:Heap) (v8:Value),Regs x [(3, .pointer (some ⟨h.length,0,none⟩)),(7, .pointer (some ⟨ie,0,none⟩)),(8,v8),(19, .slice a V.length 0),(20, .int .i64 V.length),(21, .int .i64 i)] ∧
  HeapIs h' (H++u)∧OF H.length 0 u v8 (arI P V (9+k) i)) ?_ ?_
 ·refine ⟨_,_,⟨rfl,rfl,rfl,rfl,rfl,rfl,trivial⟩, .rfl, .mk' 0 ?_ rfl rfl⟩
  omega
 ·rintro i x _ hi ⟨u,v8,⟨e3,e7,e8,e19,e20,e21,_⟩,rfl,oi⟩
  obtain ⟨j,rfl,hj⟩:=id oi
  simp only [go_sem,e3,e7,e8,e19,e20,e21,Nat.add_zero]
  by_cases hlt:i<V.length
  ·have hlt':i<(V.map vlv).length:=by simpa using hlt
   have hz:(i:Int)<V.length:=by omega
   have ws:=wsucc hlt (by omega)
   obtain ⟨id2,o,K,hvv,hK,_,hd,hb,hrow,hat⟩:=(sv.mono hp).at hlt'
   obtain rfl:a=some ⟨id2,o,none⟩:=by simpa using hvv
   rw [List.getElem_map] at hrow
   simp only [vlv] at hrow
   obtain ⟨hn1,hp0,hpk⟩:=g.at hlt
   obtain ⟨q,hq⟩: ∃q:Nat,pidx P V[i].2.1=q:=⟨(pidx P V[i].2.1).toNat,by omega⟩
   have g1:=ev_at (e:=e) (x:=9+q) (by omega)
   have g2:=ev_at (e:=e) (x:=V[i].2.2.1.toNat) (by omega)
   have z1:0<=V[i].2.2.1:=by omega
   have z2:V[i].2.2.1<19:=by omega
   have z3:((9+q:Nat):Int)<19:=by omega
   simp only [go_sem,e3,e7,e8,e19,e20,e21,Nat.add_zero,hz,hK,hd,hb,hrow,gB,gE,g2,z1,z2,hown]
   refine ⟨by kernel_rfl,(c_pipeIndex _ N P _ (hv.mono (hp.trans (List.prefix_append _ _))) (by omega)).use (fun _ m=>m) ?_⟩
   rintro _ _ ⟨rfl,⟨t5,rfl⟩⟩
   rw [hq]
   try simp only [go_sem]
   refine ⟨by kernel_rfl,(c_element q (by omega)).use (fun _ m=>m) ?_⟩
   rintro _ _ ⟨rfl,rfl⟩
   have hcut:cutV P V (9+k) i=(ev e V[i].2.2.1.toNat != ev e (9+q)):=by
    rw [cutV,getDv hlt,hq,ev_dec he,ev_dec he];rfl
   have hlen:=arI_len (P:=P) (V:=V) (st:=9+k) (n:=i)
   simp only [go_sem,e3,e7,e8,e19,e20,e21,Nat.add_zero,gE,g1,z3]
   by_cases c:ev e V[i].2.2.1.toNat=ev e (9+q)
   ·have hno:arI P V (9+k) (i+1)=arI P V (9+k) i:=by rw [arI_succ,hcut,c];simp
    simp only [go_sem,e3,e7,e8,e19,e20,e21,Nat.add_zero,c,bne_self_eq_false]
    exact ⟨hlt,_,_,⟨e3,e7,e8,e19,e20,congrArg _ ws,trivial⟩, .rfl,by rw [hno];exact oi.mono _⟩
   ·have hyes:arI P V (9+k) (i+1)=arI P V (9+k) i++ [(i:Int)]:=by rw [arI_succ,hcut,if_pos (by simpa using c)];rfl
    simp only [go_sem,e3,e7,e8,e19,e20,e21,Nat.add_zero,show (ev e V[i].2.2.1.toNat != ev e (9+q))=true by simpa using c,app_old hj,List.length_map,hown]
    refine ⟨by omega,by omega,hlt,_,_,⟨e3,e7,rfl,e19,e20,congrArg _ ws,trivial⟩, .rfl,(.mk' (u.length+t5.length+2) ?_ (by rw [hyes];simp) ?_)⟩
    ·simp;try omega
    ·exact (new_at (by simp;try omega)).trans (by simp [iv,hyes])
  ·obtain rfl:i=V.length:=by omega
   simp only [go_sem,e3,e7,e8,e19,e20,e21,Nat.add_zero,show ¬((V.length:Int)<V.length) by omega]
   have hjl:=(List.getElem?_eq_some_iff.1 hj).1
   refine ⟨FI.at (by omega) (by omega) ?_,hp.trans (List.prefix_append _ _)⟩
   rw [hget_app]
   exact hj
theorem c_ValvesAround {n:Nat} (v w:Value) (N:Int) (P:List Pip) (V:List Vlv) (pi:Int) (hv:NA n h v N P) (sv:Sl h 4 w (V.map vlv)) (es:EszC h 4 w) (hP:P.length<=1048576) (hV:V.length<=1048576) :
  vCall [] Tryz.prog M 144 [v,w, .int .i64 pi] h (fun r h'=>(∃x,r = .tuple #[x, .bool (decide (valOk N P V∧0<=pidx P pi))]∧SI h' x (arndL N P V pi))∧h<+:h'):=by
 obtain ⟨wp,rfl,sp⟩:=id hv
 obtain ⟨a,ew,_,_⟩:=id sv
 rw [List.length_map] at ew
 subst ew
 refine body_of mo Tryz.func144 rfl (by kernel_rfl) (Nat.le_of_ble_eq_true (by kernel_rfl)) rfl ?_
 simp only [go_sem]
 refine ⟨by kernel_rfl,(c_IsValidValves _ _ N P V (hv.mono (by simp)) (sv.mono (by simp)) (es.mono (by simp)) hP hV).use (fun _ m=>m) ?_⟩
 rintro _ _ ⟨rfl,⟨t,rfl⟩⟩
 by_cases h1:valOk N P V
 ·simp only [go_sem,decb h1]
  refine ⟨by kernel_rfl,(c_pipeIndex _ N P pi (hv.mono (by simp)) hP).use (fun _ m=>m) ?_⟩
  rintro _ _ ⟨rfl,⟨t2,rfl⟩⟩
  by_cases h2:pidx P pi<0
  ·simp only [go_sem,decb h1,decb h2]
   refine ⟨_,congrArg (fun b=>Value.tuple #[_,Value.bool b]) (decide_eq_false (fun hh:valOk N P V∧0<=pidx P pi=>by omega)).symm, ?_⟩
   rw [arndL,if_neg (by omega)]
   exact AI.none
  ·have hN:1<=N∧N<=8:=h1.1.2.1
   have hV10:=h1.2.1
   obtain ⟨N,rfl⟩: ∃N':Nat,N=N':=⟨N.toNat,by omega⟩
   simp only [go_sem,decb h1,dect h2]
   refine ⟨by kernel_rfl,(c_valvesAround _ _ N P V pi (hv.mono (by simp)) (sv.mono (by simp)) h1 (by omega)).use (fun _ m=>m) ?_⟩
   rintro vl _ ⟨fi,⟨t3,rfl⟩⟩
   obtain ⟨L,hL⟩: ∃L,L=arI P V (9+(pidx P pi).toNat) V.length:=⟨_,rfl⟩
   have hin:=arI_in (P:=P) (V:=V) (st:=9+(pidx P pi).toNat) (n:=V.length)
   have hll:=arI_len (P:=P) (V:=V) (st:=9+(pidx P pi).toNat) (n:=V.length)
   have eA:arndL N P V pi=L.map fun i=>(V.getD i.toNat vlv0).1:=by rw [arndL,if_pos ⟨h1,by omega⟩,hL]
   rw [←hL] at fi hin hll
   try simp only [List.append_assoc,List.cons_append] at fi
   obtain ⟨b,rfl,hb0⟩:=id fi
   simp only [go_sem]
   obtain ⟨H,hH⟩: ∃H:Heap,H=h++⟨[.int .i64 N,wp],2, .rw⟩::(t++t2):=⟨_,rfl⟩
   have hp:h<+:H:=by rw [hH];exact List.prefix_append _ _
   have hHl:=hp.length_le
   have eH:h++⟨[.int .i64 N,wp],2, .rw⟩::(t++(t2++⟨[],1, .rw⟩::t3))=H++⟨[],1, .rw⟩::t3:=by rw [hH];simp
   have eL:H.length=h.length+(t.length+t2.length+1):=by rw [hH];simp
   have hown: ∀k,own h.length M (H.length+k):=fun k=>Or.inl (by omega)
   obtain ⟨jd,hjd⟩: ∃jd,0<L.length->b=some ⟨H.length+jd,0,none⟩∧((⟨[],1, .rw⟩::t3:List Blk))[jd]? = some ⟨L.map iv,1, .rw⟩∧0≠jd:=by
    by_cases h0:0<L.length
    ·obtain ⟨id,e1,e2,e3,e4⟩:=hb0 h0
     simp only [List.length_append,List.length_cons,List.length_nil] at e2
     refine ⟨id-H.length,fun _=>⟨?_, ?_, ?_⟩⟩
     ·rw [e1,show H.length+(id-H.length)=id by omega]
     ·have e5:hget (H++⟨[],1, .rw⟩::t3) (H.length+(id-H.length))=some ⟨L.map iv,1, .rw⟩:=by
       rw [show H.length+(id-H.length)=id by omega,hH]
       simpa using e4
      rwa [hget_app] at e5
     ·omega
    ·exact ⟨0,fun h=>absurd h h0⟩
   rw [eH]
   refine vLoop.count mo L.length (fun i x h'=> ∃(u:Heap) (v8:Value) (j:Nat),Regs x [(1, .slice a V.length 0),(8,v8),(25, .slice b L.length 0),(26, .int .i64 L.length),(27, .int .i64 i)] ∧
    HeapIs h' (H++u)∧(v8 = .slice (some ⟨H.length+j,0,none⟩) i 0∧u[j]? = some ⟨((L.take i).map fun i=>(V.getD i.toNat vlv0).1).map iv,1, .rw⟩)∧(0<L.length->u[jd]? = some ⟨L.map iv,1, .rw⟩∧j≠jd)) ?_ ?_
   ·refine ⟨_,_,0,⟨rfl,rfl,rfl,rfl,rfl,trivial⟩, .rfl,⟨?_,rfl⟩,fun h0=>(hjd h0).2⟩
    rw [eL];rfl
   ·clear hb0 fi
    rintro i x _ hi ⟨u,v8,j,⟨e1,e8,e25,e26,e27,_⟩,rfl,⟨rfl,hj⟩,hu⟩
    simp only [go_sem,e1,e8,e25,e26,e27]
    by_cases hlt:i<L.length
    ·have hz:(i:Int)<L.length:=by omega
     have ws:=wsucc hlt (by omega)
     obtain ⟨hu1,hju⟩:=hu (by omega)
     obtain ⟨hb1,_⟩:=hjd (by omega)
     subst hb1
     obtain ⟨x1,x2⟩:=hin _ (List.getElem_mem hlt)
     obtain ⟨q,hq⟩: ∃q:Nat,L[i]=q:=⟨L[i].toNat,by omega⟩
     rw [hq] at x1 x2
     have hqV:q<V.length:=by omega
     have hqV':q<(V.map vlv).length:=by simpa using hqV
     obtain ⟨id2,o,K,hvv,hK,_,hd,hb,hrow,hat⟩:=(sv.mono hp).at hqV'
     obtain rfl:a=some ⟨id2,o,none⟩:=by simpa using hvv
     have g0:=hat 0 (by omega)
     rw [List.getElem_map] at g0
     simp only [vlv,List.getElem?_cons_zero,Nat.add_zero] at g0
     have hc:(L.map iv)[i]? = some (.int .i64 q):=by
      rw [List.getElem?_map,List.getElem?_eq_getElem hlt,hq];rfl
     have htk:(L.take (i+1)).map (fun i=>(V.getD i.toNat vlv0).1)=(L.take i).map (fun i=>(V.getD i.toNat vlv0).1)++ [V[q].1]:=by
      rw [List.take_succ_eq_append_getElem hlt,List.map_append,hq]
      simp only [List.map_cons,List.map_nil,Int.toNat_natCast,getDv hqV]
     have hjl:=(List.getElem?_eq_some_iff.1 hj).1
     have hul:=(List.getElem?_eq_some_iff.1 hu1).1
     have htl:((L.take i).map fun i=>(V.getD i.toNat vlv0).1).length=i:=by rw [List.length_map,List.length_take];omega
     obtain ⟨X,hX⟩: ∃X,X=(L.take i).map fun i=>(V.getD i.toNat vlv0).1:=⟨_,rfl⟩
     rw [←hX] at hj htl htk
     simp only [go_sem,e1,e8,e25,e26,e27,hz,hu1,hc,hK,hd,g0,x1,x2,hown,app_old hj,List.length_map,htl]
     refine ⟨by omega,by omega,hlt,_,_,u.length+1,⟨e1,rfl,e25,e26,congrArg _ ws,trivial⟩, .rfl,⟨?_, ?_⟩,fun _=>⟨?_,by omega⟩⟩
     ·rfl
     ·rw [htk]
      exact (new_at (by simp)).trans (by simp [iv])
     ·rw [List.getElem?_append_left (by simp;omega),List.getElem?_set_ne (by omega)];exact app_old hu1 _
    ·obtain rfl:i=L.length:=by omega
     simp only [go_sem,e1,e8,e25,e26,e27,show ¬((L.length:Int)<L.length) by omega]
     rw [List.take_length] at hj
     have hjl:=(List.getElem?_eq_some_iff.1 hj).1
     refine ⟨⟨_,congrArg (fun b=>Value.tuple #[_,Value.bool b]) (decide_eq_true (p:=valOk N P V∧0<=pidx P pi) ⟨h1,by omega⟩).symm, ?_⟩,hp.trans (List.prefix_append _ _)⟩
     rw [eA]
     refine FI.si (lo:=0) (hi:=(H++u).length) (FI.at' (by rw [List.length_map]) (by omega) (by simp;omega) ?_) (Nat.le_refl _)
     rw [hget_app]
     exact hj
 ·simp only [go_sem,dect h1]
  refine ⟨_,congrArg (fun b=>Value.tuple #[_,Value.bool b]) (decide_eq_false (fun hh:valOk N P V∧0<=pidx P pi=>h1 hh.1)).symm, ?_⟩
  rw [arndL,if_neg (fun hh=>h1 hh.1)]
  exact AI.none
end
open Go.HH
def oth (p:Pip) (x:Int):Int:=if x=p.2.1 then p.2.2.1 else if x=p.2.2.1 then p.2.1 else 0
def but (P:List Pip) (wo:Int):List Pip:=P.filter fun p=>decide (p.1≠wo)
theorem ends.but {N:Int} {P:List Pip} (he:ends N P) (wo:Int):ends N (but P wo):=fun p hp=>he p (List.mem_filter.1 hp).1
theorem but_none {P:List Pip} {wo:Int} (h: ∀p∈P,p.1≠wo):but P wo=P:=by
 unfold but;rw [List.filter_eq_self];intro p hp;simpa using h p hp
theorem oth_pos {N:Int} {P:List Pip} (he:ends N P) {p:Pip} (hp:p∈P) {x:Int} (h:0<oth p x):(x=p.2.1∧oth p x=p.2.2.1)∨(x=p.2.2.1∧oth p x=p.2.1):=by
 unfold oth at *
 split at h
 ·rename_i h1;exact .inl ⟨h1,by rw [if_pos h1]⟩
 ·rename_i h1
  split at h
  ·rename_i h2;exact .inr ⟨h2,by rw [if_neg h1,if_pos h2]⟩
  ·omega
theorem oth_range {N:Int} {p:Pip} (hp:(1<=p.2.1∧p.2.1<=N)∧(1<=p.2.2.1∧p.2.2.1<=N)∧p.2.1≠p.2.2.1) {x:Int} (h:0<oth p x):1<=oth p x∧oth p x<=N:=by
 unfold oth at *
 split at h
 ·rename_i h1;rw [if_pos h1];omega
 ·rename_i h1
  split at h
  ·rename_i h2;rw [if_neg h1,if_pos h2];omega
  ·omega
theorem oth_adj {N:Int} {P:List Pip} (he:ends N P) {p:Pip} {wo:Int} (hp:p∈P) (hw:p.1≠wo) {x:Int} (h:0<oth p x):adj (but P wo) x (oth p x)∧1<=oth p x∧oth p x<=N:=by
 have h1:=he p hp
 have hm:p∈but P wo:=List.mem_filter.2 ⟨hp,by simpa using hw⟩
 rcases oth_pos he hp h with ⟨h2,h3⟩|⟨h2,h3⟩
 ·exact ⟨⟨p,hm, .inl ⟨h2.symm,h3.symm⟩⟩,by omega,by rw [h3];omega⟩
 ·exact ⟨⟨p,hm, .inr ⟨h2.symm,h3.symm⟩⟩,by omega,by rw [h3];omega⟩
theorem adj_oth {N:Int} {P:List Pip} (he:ends N P) {wo x c:Int} (h:adj (but P wo) x c): ∃p∈P,p.1≠wo∧oth p x=c∧0<c:=by
 obtain ⟨p,hp,h⟩:=h
 obtain ⟨hp,hw⟩:=List.mem_filter.1 hp
 have h1:=he p hp
 refine ⟨p,hp,by simpa using hw, ?_⟩
 unfold oth
 rcases h with ⟨rfl,rfl⟩|⟨rfl,rfl⟩
 ·rw [if_pos rfl];exact ⟨rfl,by omega⟩
 ·rw [if_neg (by omega),if_pos rfl];exact ⟨rfl,by omega⟩
structure Bin (P:List Pip) (wo s:Int) (N:Nat) (D:List Int) (q:Int) (R:List Int) (i:Nat):Prop where
 b:Bfs (but P wo) s N D (q::R)
 pr: ∀(j:Nat) (hj:j<P.length),j<i->P[j].1≠wo->0<oth P[j] q->0<=dv D (oth P[j] q)∧dv D (oth P[j] q)<=dv D q+1
section
variable {P : List Pip} {wo s : Int} {N : Nat} {D : List Int} {q : Int} {R : List Int}
theorem Bin.init (b:Bfs (but P wo) s N D (q::R)):Bin P wo s N D q R 0:=⟨b,fun j _ hj=>absurd hj (by omega)⟩
theorem Bin.skip (he:ends N P) {i:Nat} (b:Bin P wo s N D q R i) (hi:i<P.length) (hno: ¬(0<oth P[i] q∧P[i].1≠wo∧dv D (oth P[i] q)<0)):Bin P wo s N D q R (i+1):=by
 refine ⟨b.b,fun j hj hji h1 h2 => ?_⟩
 by_cases hj2:j<i
 ·exact b.pr j hj hj2 h1 h2
 ·obtain rfl:j=i:=by omega
  have h3:=oth_adj he (List.getElem_mem hj) h1 h2
  have h4:=b.b.top q (by simp) (oth P[j] q) h3.2.1 h3.2.2
  have: ¬dv D (oth P[j] q)<0:=fun h=>hno ⟨h2,h1,h⟩
  omega
theorem Bin.push (he:ends N P) (hs:1<=s∧s<=N) {i:Nat} (b:Bin P wo s N D q R i) (hi:i<P.length) (h1:0<oth P[i] q) (h2:P[i].1≠wo) (h3:dv D (oth P[i] q)<0) :
  Bin P wo s N (D.set (oth P[i] q).toNat (dv D q+1)) q (R++ [oth P[i] q]) (i+1):=by
 obtain ⟨ha,hb⟩:=oth_adj he (List.getElem_mem hi) h2 h1
 have hq:=b.b.qin q (by simp)
 have hl:(oth P[i] q).toNat<D.length:=by rw [b.b.len];omega
 have hqv:dv (D.set (oth P[i] q).toNat (dv D q+1)) q=dv D q:=by
  rw [dv_set hb.1 hq.1.1 hl,if_neg]
  intro h;rw [←h] at h3;omega
 refine ⟨b.b.push hs hb ha h3,fun j hj hji g1 g2 => ?_⟩
 have g3:=oth_adj he (List.getElem_mem hj) g1 g2
 rw [hqv,dv_set hb.1 g3.2.1 hl]
 split
 ·omega
 ·rename_i hne
  by_cases hj2:j<i
  ·exact b.pr j hj hj2 g1 g2
  ·obtain rfl:j=i:=by omega
   exact absurd rfl hne
theorem Bin.done (he:ends N P) (b:Bin P wo s N D q R P.length):Bfs (but P wo) s N D R:=by
 refine b.b.pop fun c hc => ?_
 obtain ⟨p,hp,hw,ho,hc⟩:=adj_oth he hc
 obtain ⟨j,hj,rfl⟩:=List.mem_iff_getElem.1 hp
 have:=b.pr j hj hj hw (by omega)
 rwa [ho] at this
end
def neg (D:List Int):Nat:=D.countP fun x=>decide (x<0)
theorem neg_set {D:List Int} {v x:Int} (hv:1<=v) (hl:v.toNat<D.length) (h:dv D v<0) (hx:0<=x):neg (D.set v.toNat x)+1=neg D:=by
 unfold neg dv at *
 rw [List.countP_set (by exact hl)]
 have h1:D[v.toNat]<0:=by simpa [List.getD,hl] using h
 have h2:0<D.countP fun x=>decide (x<0):=List.countP_pos_iff.2 ⟨_,List.getElem_mem hl,by simpa using h1⟩
 simp [h1,show ¬x<0 by omega]
 omega
def Top (D:List Int) (N:Nat):Prop:= ∀v:Int,1<=v->v<=N->dv D v+neg D<=N
theorem Top.init {N:Nat} {s:Int} (hs:1<=s∧s<=N):Top ((List.replicate (N+1) (-1:Int)).set s.toNat 0) N:=by
 have h0:dv (List.replicate (N+1) (-1:Int)) s<0:=by
  have:s.toNat<N+1:=by omega
  simp [dv,List.getD,this]
 have h1:=neg_set (D:=List.replicate (N+1) (-1:Int)) (v:=s) (x:=0) hs.1 (by simp;omega) h0 (by omega)
 have h2:neg (List.replicate (N+1) (-1:Int))=N+1:=by simp [neg,List.countP_replicate]
 intro v hv1 hv2
 rw [dv_set hs.1 hv1 (by simp;omega)]
 have:dv (List.replicate (N+1) (-1:Int)) v = -1:=by
  have:v.toNat<N+1:=by omega
  simp [dv,List.getD,this]
 split<;>omega
theorem Top.set {N:Nat} {D:List Int} {q to:Int} (t:Top D N) (hq:1<=q∧q<=N) (ht:1<=to∧to<=N) (hl:D.length=N+1) (h:dv D to<0) (h0:0<=dv D q):Top (D.set to.toNat (dv D q+1)) N:=by
 have h1:=neg_set (D:=D) (v:=to) (x:=dv D q+1) ht.1 (by omega) h (by omega)
 intro v hv1 hv2
 rw [dv_set ht.1 hv1 (by omega)]
 have h2:=t q hq.1 hq.2
 have h3:=t v hv1 hv2
 split<;>omega
section
variable {h : Heap} {M : Nat → Prop}
theorem c_other (p:Pip) (x:Int):vCall [] Tryz.prog M 119 [.agg #[.int .i64 p.1, .int .i64 p.2.1, .int .i64 p.2.2.1, .int .i64 p.2.2.2], .int .i64 x] h (fun r h'=>r = .int .i64 (oth p x)∧h<+:h'):=by
 refine body_of mo Tryz.func119 rfl (by kernel_rfl) (Nat.le_of_ble_eq_true (by kernel_rfl)) rfl ?_
 simp only [go_sem]
 by_cases h1:x=p.2.1
 ·simp only [go_sem,show (x==p.2.1)=true by simpa using h1]
  rw [oth,if_pos h1]
 ·simp only [go_sem,show (x==p.2.1)=false by simpa using h1]
  by_cases h2:x=p.2.2.1
  ·simp only [go_sem,show (x==p.2.2.1)=true by simpa using h2]
   rw [oth,if_neg h1,if_pos h2]
  ·simp only [go_sem,show (x==p.2.2.1)=false by simpa using h2]
   rw [oth,if_neg h1,if_neg h2]
theorem c_distances {n : Nat} (v : Value) (N : Nat) (P : List Pip) (s wo : Int) (hv : NA n h v N P) (g : netGood N P) (hs : 1 ≤ s ∧ s ≤ N) :
    vCall [] Tryz.prog M 185 [v, .int .i64 s, .int .i64 wo] h (fun r h' => (∃ D, FI h.length h'.length h' r D ∧ Bfs (but P wo) s N D []) ∧ h <+: h') := by
  obtain ⟨w, rfl, sP⟩ := hv
  replace sP : Sl h 4 w (P.map pip) := sP.1
  obtain ⟨a, rfl⟩ := Sl.len4 sP
  have hN : N ≤ 8 := by have := g.2.1; omega
  have hP : P.length ≤ 10 := g.2.2
  have he := g.ends
  refine body_of mo Tryz.func185 rfl (by kernel_rfl) (Nat.le_of_ble_eq_true (by kernel_rfl)) rfl ?_
  simp only [go_sem]
  have w1 : IntKind.i64.wrap ((N : Int) + 1) = ((N + 1 : Nat) : Int) := by rw [wrap64 (by omega)]; omega
  simp only [go_sem, w1]
  refine ⟨by omega, by omega, ?_⟩
  refine vLoop.count mo (N + 1) (fun i e h' => e 0 = .agg #[.int .i64 N, .slice a P.length 0] ∧ e 1 = .int .i64 s ∧ e 2 = .int .i64 wo ∧ e 3 = .pointer (some ⟨h.length, 0, none⟩) ∧ e 7 = .slice (some ⟨h.length + 1, 0, none⟩) (N + 1) 0 ∧
    e 18 = .int .i64 ((N + 1 : Nat) : Int) ∧ e 19 = .int .i64 i ∧ h' = h ++ [⟨[.int .i64 N, .slice a P.length 0], 2, .rw⟩, ⟨List.replicate i (.int .i64 (-1)) ++ List.replicate (N + 1 - i) (.int .i64 0), 1, .rw⟩]) ?_ ?_
  · refine ⟨rfl, rfl, rfl, rfl, rfl, rfl, rfl, ?_⟩
    simp [zeros_one, List.replicate_succ]
  · rintro i e _ hi ⟨e0, e1, e2, e3, e7, e18, e19, rfl⟩
    simp only [go_sem, e7, e18, e19]
    refine .intro (fun h1 => ?_) (fun h1 => ?_)
    · have hlt : i < N + 1 := by have := of_decide_eq_true h1; omega
      have hz : (i : Int) < (N + 1 : Nat) := by omega
      have hr : setRange (List.replicate i (Value.int .i64 (-1)) ++ List.replicate (N + 1 - i) (.int .i64 0)) i [.int .i64 (-1)] = List.replicate (i + 1) (.int .i64 (-1)) ++ List.replicate (N + 1 - (i + 1)) (.int .i64 0) := by
        have e1 : N + 1 - i = (N + 1 - (i + 1)) + 1 := by omega
        rw [e1, List.replicate_succ, List.replicate_succ', setRange, List.take_left' (by simp), List.drop_append]
        simp
      simp only [go_sem, e0, e1, e2, e3, e7, e18, e19, hz, hr, List.length_replicate]
      rw [wrap64 (by omega)]
      exact ⟨by omega, hlt, rfl⟩
    · obtain rfl : i = N + 1 := by have := of_decide_eq_false h1
                                   omega
      have hz : s < (N + 1 : Nat) := by omega
      have hs0 : 0 ≤ s := by omega
      have hr : setRange (List.replicate (N + 1) (Value.int .i64 (-1)) ++ List.replicate (N + 1 - (N + 1)) (.int .i64 0)) s.toNat [.int .i64 0] = ((List.replicate (N + 1) (-1 : Int)).set s.toNat 0).map iv := by
        rw [Nat.sub_self, List.replicate_zero, List.append_nil, ← setRange_one (by simp; omega), List.map_set, List.map_replicate]
        rfl
      simp only [go_sem, e0, e1, e2, e3, e7, hz, hs0, hr, List.length_replicate]
      refine ⟨by omega, ?_⟩
      refine vLoop.rank mo (2 * neg ((List.replicate (N + 1) (-1 : Int)).set s.toNat 0) + 1) (fun m e h' => ∃ (D Q : List Int) (t : Heap) (vq : Value), Regs e [(2, .int .i64 wo), (3, .pointer (some ⟨h.length, 0, none⟩)), (7, .slice (some ⟨h.length + 1, 0, none⟩) (N + 1) 0), (9, vq)] ∧
        HeapIs h' (h ++ (⟨[.int .i64 N, .slice a P.length 0], 2, .rw⟩ :: ⟨D.map iv, 1, .rw⟩ :: t)) ∧ OI h.length 2 t vq Q ∧ Bfs (but P wo) s N D Q ∧ Top D N ∧ 2 * neg D + Q.length ≤ m ∧ m ≤ 100) ?_ ?_
      · exact ⟨_, [s], [⟨[.int .i64 s], 1, .rw⟩], .slice (some ⟨h.length + 2, 0, none⟩) 1 0, (by simp [Regs, upd, put, env0, e2, e3, e7]), HeapIs.rfl, .mk' 0 rfl rfl rfl, Bfs.init hs, Top.init hs, by simp, by have := List.countP_le_length (p := fun x : Int => decide (x < 0)) (l := (List.replicate (N + 1) (-1 : Int)).set s.toNat 0); simp at this; unfold neg; omega⟩
      · clear hr hz e0 e1 e2 e3 e7 e18 e19 h1
        rintro m e _ ⟨D, Q, t, vq, ⟨e2, e3, e7, e9, _⟩, rfl, oi, b, tp, hm, hm2⟩
        obtain ⟨j, off, cs, rfl, hj, hcs, hQ⟩ := id oi
        simp only [go_sem, e2, e3, e7, e9]
        cases Q with
        | nil =>
          simp only [go_sem, List.length_nil, e7]
          refine ⟨D, ?_, b⟩
          refine FI.at' (by rw [b.len]) (by omega) (by simp) ?_
          simp only [go_sem]
        | cons q R =>
          simp only [go_sem, List.length_cons, show (0 : Int) < ((R.length + 1 : Nat) : Int) by omega, e2, e3, e7, e9]
          obtain ⟨hq1, hq2⟩ := b.qin q (by simp)
          refine vLoop.count mo P.length (fun i e h' => ∃ (D R : List Int) (t : Heap) (vq : Value), Regs e [(2, .int .i64 wo), (3, .pointer (some ⟨h.length, 0, none⟩)), (7, .slice (some ⟨h.length + 1, 0, none⟩) (N + 1) 0), (9, vq), (37, .slice a P.length 0), (38, .int .i64 P.length), (39, .int .i64 i)] ∧
            HeapIs h' (h ++ (⟨[.int .i64 N, .slice a P.length 0], 2, .rw⟩ :: ⟨D.map iv, 1, .rw⟩ :: t)) ∧ OI h.length 2 t vq (q :: R) ∧ Bin P wo s N D q R i ∧ Top D N ∧ 2 * neg D + (R.length + 1) ≤ m) ?_ ?_
          · exact ⟨D, R, t, _, (by simp [Regs, upd, put, env0, e2, e3, e7, e9]), HeapIs.rfl, oi, Bin.init b, tp, hm⟩
          · clear b hm tp hq2 hj hcs hQ e2 e3 e7 e9 oi
            rintro i e _ hi ⟨D, R, t, vq, ⟨e2, e3, e7, e9, e37, e38, e39, _⟩, rfl, oi, b, tp, hm⟩
            obtain ⟨j, off, cs, rfl, hj, hcs, hQ⟩ := id oi
            have hcell := drop_head hQ
            have hq2 := (b.b.qin q (by simp)).2
            simp only [go_sem, e2, e3, e7, e9, e37, e38, e39, List.length_cons]
            by_cases hlt : i < P.length
            · have hlt' : i < (P.map pip).length := by simpa using hlt
              have hz : (i : Int) < P.length := by omega
              have ws := wsucc hlt (by omega)
              obtain ⟨id, o, k, hv, hk, _, hd, hb, hrow, hat⟩ := sP.at hlt'
              obtain rfl : a = some ⟨id, o, none⟩ := by simpa using hv
              rw [List.getElem_map] at hrow
              simp only [pip] at hrow
              have z1 : (0 : Int) < ((R.length + 1 : Nat) : Int) := by omega
              have hlen : D.length = N + 1 := b.b.len
              have hdv : ∀ x : Int, 0 ≤ x → x ≤ N → (D.map iv)[x.toNat]? = some (.int .i64 (dv D x)) := fun x h0 h1 => by
                have : x.toNat < D.length := by omega
                rw [List.getElem?_map, List.getElem?_eq_getElem this, dv, List.getD, List.getElem?_eq_getElem this]; rfl
              simp only [go_sem, e2, e3, e7, e9, e37, e38, e39, List.length_cons, hz, hk, hd, hb, hrow, hj, app_old hj, hcell, z1]
              refine ⟨by kernel_rfl, (c_other _ _).use (fun _ m => m) ?_⟩
              rintro _ _ ⟨rfl, ⟨t2, rfl⟩⟩
              have g1 := hdv q (by omega) (by omega)
              have stay : ¬ (0 < oth P[i] q ∧ P[i].1 ≠ wo ∧ dv D (oth P[i] q) < 0) → Bin P wo s N D q R (i + 1) := fun hh => b.skip he hlt hh
              by_cases c1 : 0 < oth P[i] q
              · have c1' := oth_range (he _ (List.getElem_mem hlt)) c1
                have g2 := hdv (oth P[i] q) (by omega) (by omega)
                have z2 : 0 ≤ oth P[i] q := by omega
                have z3 : oth P[i] q < ((N + 1 : Nat) : Int) := by omega
                have z4 : 0 ≤ q := by omega
                have z5 : q < ((N + 1 : Nat) : Int) := by omega
                by_cases c2 : P[i].1 = wo
                · simp only [go_sem, e2, e3, e7, e9, e37, e38, e39, List.length_cons, c1, show (P[i].1 != wo) = false by simpa using c2]
                  exact ⟨hlt, D, R, _, _, (by simp [Regs, upd, put, env0, e2, e3, e7, e9, e37, e38, e39, List.length_cons, ws]), HeapIs.rfl, oi.mono _, stay (fun hh => hh.2.1 c2), tp, hm⟩
                · simp only [go_sem, e2, e3, e7, e9, e37, e38, e39, List.length_cons, c1, show (P[i].1 != wo) = true by simpa using c2, z2, z3, g2, List.length_map]
                  by_cases c3 : dv D (oth P[i] q) < 0
                  · have w3 : IntKind.i64.wrap (dv D q + 1) = dv D q + 1 := by
                      have := tp q hq1.1 hq1.2
                      exact wrap64 (by omega)
                    have hset : setRange (D.map iv) (oth P[i] q).toNat [.int .i64 (dv D q + 1)] = (D.set (oth P[i] q).toNat (dv D q + 1)).map iv := by
                      rw [← setRange_one (by simp; omega), List.map_set]; rfl
                    have hng := neg_set (D := D) (v := oth P[i] q) (x := dv D q + 1) (by omega) (by omega) c3 (by omega)
                    simp only [go_sem, e2, e3, e7, e9, e37, e38, e39, List.length_cons, c3, z1, z2, z3, z4, z5, app_old hj, hcell, g1, g2, w3, hset, List.length_map, hcs]
                    refine ⟨by omega, hcs, by omega, by omega, hlt, D.set (oth P[i] q).toNat (dv D q + 1), R ++ [oth P[i] q], _, _, ⟨e2, e3, e7, rfl, e37, e38, congrArg _ ws, trivial⟩, HeapIs.rfl, (.mk' (t.length + (t2.length + 1 + 1)) ?_ (by simp) ?_), b.push he hs hlt c1 c2 c3, tp.set hq1 c1' hlen c3 hq2, by simp; omega⟩
                    · simp
                    · rw [hQ]
                      exact (new_at (by simp)).trans (by simp [iv])
                  · simp only [go_sem, e2, e3, e7, e9, e37, e38, e39, List.length_cons, c3]
                    exact ⟨hlt, D, R, _, _, (by simp [Regs, upd, put, env0, e2, e3, e7, e9, e37, e38, e39, List.length_cons, ws]), HeapIs.rfl, oi.mono _, stay (fun hh => c3 hh.2.2), tp, hm⟩
              · simp only [go_sem, e2, e3, e7, e9, e37, e38, e39, List.length_cons, c1]
                exact ⟨hlt, D, R, _, _, (by simp [Regs, upd, put, env0, e2, e3, e7, e9, e37, e38, e39, List.length_cons, ws]), HeapIs.rfl, oi.mono _, stay (fun hh => c1 hh.1), tp, hm⟩
            · obtain rfl : i = P.length := by omega
              have bd := Bin.done he b
              have w2 : ((R.length + 1 : Nat) : Int) - 1 = R.length := by omega
              simp only [go_sem, show ¬ ((P.length : Int) < P.length) by omega, e2, e3, e7, e9, e37, e38, e39, List.length_cons, hj]
              exact ⟨2 * neg D + R.length, by omega, D, R, t, _, ⟨e2, e3, e7, rfl, trivial⟩, HeapIs.rfl, .tail j rfl (by omega) hj (by simp at hcs; omega) (drop_tail hQ), bd, tp, Nat.le_refl _, by omega⟩
end
open Go.HH
def putL:List Int->Int->List Int
 | [],x=> [x]
 | y::ys,x=>if y<x then y::putL ys x else if y=x then y::ys else x::y::ys
theorem mem_putL {l:List Int} {x y:Int}:y∈putL l x↔y=x∨y∈l:=by
 induction l with
 | nil=>simp [putL]
 | cons z zs ih=>
  unfold putL
  split
  ·simp only [List.mem_cons,ih];constructor
   ·rintro (h|h|h)<;>simp [h]
   ·rintro (h|h|h)<;>simp [h]
  ·split
   ·rename_i h1 h2;subst h2;simp
   ·simp
theorem putL_len {l : List Int} {x : Int} : (putL l x).length ≤ l.length + 1 := by
  induction l with
  | nil => simp [putL]
  | cons z zs ih => unfold putL; split; · simp; omega
                    split <;> simp
theorem putL_sorted {l:List Int} {x:Int} (h:l.Pairwise (· < ·)):(putL l x).Pairwise (· < ·):=by
 induction l with
 | nil=>simp [putL]
 | cons z zs ih=>
  obtain ⟨h1,h2⟩:=List.pairwise_cons.1 h
  unfold putL
  split
  ·rename_i hz
   refine List.pairwise_cons.2 ⟨fun y hy => ?_,ih h2⟩
   rcases mem_putL.1 hy with rfl|hy
   ·exact hz
   ·exact h1 y hy
  ·split
   ·exact h
   ·refine List.pairwise_cons.2 ⟨fun y hy => ?_,h⟩
    rcases List.mem_cons.1 hy with rfl|hy
    ·omega
    ·have:=h1 y hy;omega
theorem putL_at {l:List Int} {x:Int}: ∀ {k:Nat},k<=l.length->(∀(j:Nat) (hj:j<l.length),j<k->l[j]<x)->(∀hk:k<l.length,¬l[k]<x) →
  putL l x=if l[k]? = some x then l else l.take k++x::l.drop k:=by
 induction l with
 | nil=>intro k hk _ _;simp [putL]
 | cons z zs ih=>
  intro k hk h1 h2
  cases k with
  | zero=>
   have h3:=h2 (by simp)
   simp only [List.getElem_cons_zero] at h3
   unfold putL
   rw [if_neg h3]
   simp only [List.getElem?_cons_zero,Option.some.injEq,List.take_zero,List.nil_append,List.drop_zero]
  | succ k=>
   have h3:=h1 0 (by simp) (by omega)
   simp only [List.getElem_cons_zero] at h3
   unfold putL
   rw [if_pos h3,ih (k:=k) (by simpa using hk) (fun j hj hjk=>by have:=h1 (j+1) (by simpa using hj) (by omega);rwa [List.getElem_cons_succ] at this) (fun hk=>by have:=h2 (by simpa using hk);rwa [List.getElem_cons_succ] at this)]
   simp only [List.getElem?_cons_succ,List.take_succ_cons,List.drop_succ_cons,List.cons_append]
   split<;>rfl
section
variable {h : Heap} {M : Nat → Prop}
theorem c_l1Has {n:Nat} (v:Value) (l:List Int) (x:Int) (s:AI n h v l) (hmax:l.length<=1048576):vCall [] Tryz.prog M 194 [v, .int .i64 x] h (fun r h'=>r = .bool (decide (x∈l))∧h=h'):=by
 obtain ⟨a,rfl⟩:=s.len
 refine body_of mo Tryz.func194 rfl (by kernel_rfl) (Nat.le_of_ble_eq_true (by kernel_rfl)) rfl ?_
 simp only [go_sem]
 refine vLoop.count mo l.length (fun i e h'=>Regs e [(0, .slice a l.length 0),(1, .int .i64 x),(5, .int .i64 i)]∧HeapIs h' h∧x∉l.take i) ?_ ?_
 ·exact ⟨⟨rfl,rfl,rfl,trivial⟩, .rfl,by simp⟩
 ·rintro i e _ hi ⟨⟨e0,e1,e5,_⟩,rfl,hx⟩
  simp only [go_sem,e0,e1,e5]
  by_cases hlt:i<l.length
  ·have ws:=wsucc hlt (by omega)
   have hz:(i:Int)<l.length:=by omega
   obtain ⟨id,off,k,hv,_,_,hk,hd,_,_,_,hat⟩:=s.at (Nat.zero_lt_of_lt hlt)
   obtain rfl:a=some ⟨id,off,none⟩:=by simpa using hv
   simp only [go_sem,e0,e1,e5,hk,hat i hlt,hz,hd]
   by_cases h2:l[i]=x
   ·simp only [go_sem,e0,e1,e5,show (l[i]==x)=true by simpa using h2]
    exact congrArg Value.bool (decide_eq_true (h2▸List.getElem_mem hlt)).symm
   ·simp only [go_sem,e0,e1,e5,show (l[i]==x)=false by simpa using h2]
    refine ⟨hlt,⟨e0,e1,congrArg _ ws,trivial⟩, .rfl, ?_⟩
    rw [List.take_add_one,List.getElem?_eq_getElem hlt,List.mem_append]
    simp [hx,Ne.symm h2]
  ·obtain rfl:i=l.length:=by omega
   rw [List.take_length] at hx
   simp only [go_sem,e0,e1,e5,show ¬((l.length:Int)<l.length) by omega]
   exact congrArg Value.bool (decide_eq_false hx).symm
theorem ints_one {l:List Int}:((l.map iv).all oneC)=true:=by rw [List.all_eq_true];intro x hx;obtain ⟨y,_,rfl⟩:=List.mem_map.1 hx;rfl
theorem c_l1Put {n:Nat} (v:Value) (l:List Int) (x:Int) (s:AI n h v l) (hn:n<=h.length) (hmax:l.length<=1000):vCall [] Tryz.prog M 232 [v, .int .i64 x] h (fun r h'=>AI h'.length h' r (putL l x)∧h<+:h'):=by
 obtain ⟨a,rfl⟩:=s.len
 refine body_of mo Tryz.func232 rfl (by kernel_rfl) (Nat.le_of_ble_eq_true (by kernel_rfl)) rfl ?_
 simp only [go_sem]
 refine vLoop.count mo l.length (fun i e h'=>Regs e [(0, .slice a l.length 0),(1, .int .i64 x),(5, .int .i64 i)]∧HeapIs h' h∧∀(j:Nat) (hj:j<l.length),j<i->l[j]<x) ?_ ?_
 ·exact ⟨⟨rfl,rfl,rfl,trivial⟩, .rfl,fun j _ hj=>absurd hj (by omega)⟩
 ·rintro i e H hi ⟨⟨e0,e1,e5,_⟩,rfl,hx⟩
  simp only [go_sem,e0,e1,e5]
  by_cases hlt:i<l.length
  ·have ws:=wsucc hlt (by omega)
   have hz:(i:Int)<l.length:=by omega
   obtain ⟨id,off,k,hv,hidn,hkt,hk,hd,he,hb,hrow,hat⟩:=s.at (Nat.zero_lt_of_lt hlt)
   obtain rfl:a=some ⟨id,off,none⟩:=by simpa using hv
   by_cases h2:l[i]<x
   ·simp only [go_sem,e0,e1,e5,hk,hat i hlt,hz,hd,h2]
    refine ⟨hlt,⟨e0,e1,congrArg _ ws,trivial⟩, .rfl,fun j hj hji => ?_⟩
    by_cases h3:j<i
    ·exact hx j hj h3
    ·obtain rfl:j=i:=by omega
     exact h2
   ·have hput:=putL_at (Nat.le_of_lt hlt) hx (fun _=>h2)
    rw [List.getElem?_eq_getElem hlt] at hput
    simp only [go_sem,e0,e1,e5,hk,hat i hlt,hz,hd,h2]
    by_cases h3:l[i]=x
    ·rw [if_pos (by rw [h3])] at hput
     simp only [go_sem,e0,e1,e5,hk,hat i hlt,hz,hd,h2,show (l[i]==x)=true by simpa using h3]
     rw [hput]
     exact s.le hn
    ·rw [if_neg (by simpa using h3)] at hput
     have hp:0<l.length:=by omega
     have hp2:0<l.length-i:=by omega
     have f1:(k.cells.drop off).take i=(l.take i).map iv:=by
      have:=congrArg (List.take i) hrow
      rw [List.take_take,Nat.min_eq_left (by omega)] at this
      rw [this,List.map_take]
     have f2:(k.cells.drop (off+i)).take (l.length-i)=(l.drop i).map iv:=by
      have:=congrArg (List.drop i) hrow
      rw [List.drop_take,List.drop_drop] at this
      rw [this,List.map_drop]
     have o1:((l.take i).map iv).all oneC=true:=ints_one
     have o2:((l.drop i).map iv).all oneC=true:=ints_one
     have hil:i<=l.length:=hi
     have h4:(i:Int).toNat=i:=by omega
     by_cases h5:i=0
     ·subst h5
      simp only [Nat.sub_zero,Nat.add_zero,List.drop_zero] at f2 o2
      simp only [go_sem,e0,e1,e5,hkt,hat 0 hlt,hz,hd,h2,show (l[0]==x)=false by simpa using h3,onSl_more hp,he,hp,h4,onApp_more hp,show off+l.length<=k.cells.length by omega,f2,o2]
      refine ⟨by omega,by omega,by omega,by omega, ?_⟩
      rw [hput]
      refine AI.le (FI.ai (n:=0) (FI.at' (m:=H.length+4) ?_ (Nat.zero_le _) (by omega) ?_)) (by simp)
      ·simp;omega
      ·simp only [go_sem,List.take_zero,List.drop_zero,List.map_cons]
       rfl
     ·have hp3:0<i:=by omega
      simp only [go_sem,e0,e1,e5,hkt,hat i hlt,hz,hd,h2,show (l[i]==x)=false by simpa using h3,onSl_more hp,he,hp,h4,onApp_more hp2,onApp_more hp3,f1,f2,o1,o2,hil]
      have e1:((l.take i).map iv).length=i:=by simp;omega
      refine ⟨by omega,hp3,by omega,by omega,by omega,e1.symm,by omega,by omega,hp2,e1.symm,by omega,by omega,by omega, ?_⟩
      rw [hput]
      refine FI.ai (n:=0) (FI.at' ?_ (Nat.zero_le _) (by omega) ?_)
      ·simp;omega
      ·simp only [go_sem,List.map_append,List.map_cons]
       rfl
  ·obtain rfl:i=l.length:=by omega
   have hput:=putL_at (Nat.le_refl _) hx (fun hh=>absurd hh (by omega))
   rw [if_neg (by simp),List.take_length,List.drop_length] at hput
   by_cases h0:l.length=0
   ·obtain rfl:l= []:=List.length_eq_zero_iff.1 h0
    simp only [go_sem,e0,e1,e5]
    rw [hput]
    refine FI.ai (n:=0) (FI.at' rfl (Nat.zero_le _) (Nat.lt_succ_self _) ?_)
    simp only [go_sem]
    rfl
   ·obtain ⟨id,off,k,hv,hidn,hkt,hk,hd,he,hb,hrow,hat⟩:=s.at (by omega)
    obtain rfl:a=some ⟨id,off,none⟩:=by simpa using hv
    have hp:0<l.length:=by omega
    have h4:(l.length:Int).toNat=l.length:=by omega
    simp only [go_sem,e0,e1,e5,show ¬((l.length:Int)<l.length) by omega,hkt,hd,he,hp,onSl_more hp,onApp_more hp,h4,Nat.sub_self,hrow,ints_one]
    refine ⟨by omega,by omega,by omega,by omega,by simp,by omega,by omega, ?_⟩
    rw [hput]
    refine FI.ai (n:=0) (FI.at' (by simp) (Nat.zero_le _) (by omega) ?_)
    simp only [go_sem,List.map_append,List.map_cons]
    rfl
def seen (P:List Pip) (s:Int) (k:Nat) (L:List Int):Prop:= ∀v,v∈L↔ball P s k v=true
end
open Go.HH Go.Proofs
theorem rising_ext: ∀ {a b:List Int},a.Pairwise (· < ·)->b.Pairwise (· < ·)->(∀x,x∈a↔x∈b)->a=b
 | [],[],_,_,_=>rfl
 | [],y::b,_,_,h=>absurd ((h y).2 (by simp)) (by simp)
 | x::a,[],_,_,h=>absurd ((h x).1 (by simp)) (by simp)
 | x::a,y::b,ha,hb,h=>by
  obtain ⟨a1,a2⟩:=List.pairwise_cons.1 ha
  obtain ⟨b1,b2⟩:=List.pairwise_cons.1 hb
  have hxy:x=y:=by
   rcases List.mem_cons.1 ((h x).1 (by simp)) with h1|h1
   ·exact h1
   ·rcases List.mem_cons.1 ((h y).2 (by simp)) with h2|h2
    ·exact h2.symm
    ·have:=a1 y h2;have:=b1 x h1;omega
  subst hxy
  congr 1
  refine rising_ext a2 b2 fun z=>⟨fun hz => ?_,fun hz => ?_⟩
  ·rcases List.mem_cons.1 ((h z).1 (List.mem_cons_of_mem _ hz)) with h1|h1
   ·subst h1;have:=a1 z hz;omega
   ·exact h1
  ·rcases List.mem_cons.1 ((h z).2 (List.mem_cons_of_mem _ hz)) with h1|h1
   ·subst h1;have:=b1 z hz;omega
   ·exact h1
theorem nodesOf_rising {N:Nat} {f:Nat->Bool}:(nodesOf N f).Pairwise (· < ·):=by
 induction N with
 | zero=>simp [nodesOf]
 | succ N ih=>
  rw [nodesOf_succ,List.pairwise_append]
  refine ⟨ih,by split<;>simp,fun x hx y hy => ?_⟩
  have hx2:x<=N:=by
   obtain ⟨i,hi,rfl⟩:=List.mem_map.1 hx
   have:=List.mem_range.1 (List.mem_filter.1 hi).1
   omega
  split at hy
  ·have:y=((N+1:Nat):Int):=by simpa using hy
   omega
  ·simp at hy
theorem nodesOf_mem {N:Nat} {f:Nat->Bool} {x:Int}:x∈nodesOf N f↔1<=x∧x<=N∧f x.toNat=true:=by
 unfold nodesOf
 constructor
 ·intro hx
  obtain ⟨i,hi,rfl⟩:=List.mem_map.1 hx
  obtain ⟨h1,h2⟩:=List.mem_filter.1 hi
  have:=List.mem_range.1 h1
  exact ⟨by omega,by omega,by simpa using h2⟩
 ·rintro ⟨h1,h2,h3⟩
  refine List.mem_map.2 ⟨x.toNat-1,List.mem_filter.2 ⟨List.mem_range.2 (by omega), ?_⟩,by omega⟩
  rw [show x.toNat-1+1=x.toNat by omega]
  exact h3
structure Rep (e:List Bool) (S T:List Int):Prop where
 sS:S.Pairwise (· < ·)
 sT:T.Pairwise (· < ·)
 mS: ∀v,v∈S↔(0<=v∧v<=8∧ev e v.toNat=true)
 mT: ∀i,i∈T↔(0<=i∧i<10∧ev e (9+i.toNat)=true)
 ln:S.length+T.length+2*lacks e<=40
theorem lacks_init {s:Nat}:lacks ((List.replicate 19 false).set s true)<=19:=by
 have:=List.countP_le_length (p:=fun b:Bool => !b) (l:=(List.replicate 19 false).set s true)
 simpa [lacks] using this
theorem ev_init {s x:Nat} (hs:s<19):ev ((List.replicate 19 false).set s true) x=decide (s=x):=by
 rw [ev_set (by simpa using hs)]
 have h0:ev (List.replicate 19 false) x=false:=by
  unfold ev
  rw [List.getD_eq_getElem?_getD,List.getElem?_replicate]
  split<;>rfl
 rw [h0];rfl
theorem Rep.node {s:Nat} (h1:s<=8):Rep ((List.replicate 19 false).set s true) [(s:Int)] []:=by
 refine ⟨by simp,by simp,fun v => ?_,fun i => ?_, ?_⟩
 ·rw [ev_init (by omega)]
  simp only [List.mem_singleton,decide_eq_true_eq]
  omega
 ·rw [ev_init (by omega)]
  simp only [List.not_mem_nil,false_iff,decide_eq_true_eq]
  omega
 ·have:=lacks_init (s:=s)
  simp only [List.length_cons,List.length_nil];omega
theorem Rep.pipe {k:Nat} (h1:k<10):Rep ((List.replicate 19 false).set (9+k) true) [] [(k:Int)]:=by
 refine ⟨by simp,by simp,fun v => ?_,fun i => ?_, ?_⟩
 ·rw [ev_init (by omega)]
  simp only [List.not_mem_nil,false_iff,decide_eq_true_eq]
  omega
 ·rw [ev_init (by omega)]
  simp only [List.mem_singleton,decide_eq_true_eq]
  omega
 ·have:=lacks_init (s:=9+k)
  simp only [List.length_cons,List.length_nil];omega
theorem Rep.mark {e:List Bool} {S T:List Int} (r:Rep e S T) (hl:e.length=19) {i:Nat} (hi:i<10) {nd:Int} (hr:0<=nd∧nd<=8) (hk:lacks ((e.set nd.toNat true).set (9+i) true)+1=lacks e) :
  Rep ((e.set nd.toNat true).set (9+i) true) (putL S nd) (putL T i):=by
 have h1:nd.toNat<e.length:=by omega
 have h2:9+i<(e.set nd.toNat true).length:=by simp;omega
 refine ⟨putL_sorted r.sS,putL_sorted r.sT,fun v => ?_,fun j => ?_, ?_⟩
 ·rw [mem_putL,r.mS,ev_set h2,ev_set h1]
  simp only [Bool.or_eq_true,decide_eq_true_eq]
  constructor
  ·rintro (rfl|⟨a,b,c⟩)
   ·exact ⟨hr.1,hr.2, .inl (.inr rfl)⟩
   ·exact ⟨a,b, .inl (.inl c)⟩
  ·rintro ⟨a,b,(c|c)|c⟩
   ·exact .inr ⟨a,b,c⟩
   ·exact .inl (by omega)
   ·omega
 ·rw [mem_putL,r.mT,ev_set h2,ev_set h1]
  simp only [Bool.or_eq_true,decide_eq_true_eq]
  constructor
  ·rintro (rfl|⟨a,b,c⟩)
   ·exact ⟨by omega,by omega, .inr (by omega)⟩
   ·exact ⟨a,b, .inl (.inl c)⟩
  ·rintro ⟨a,b,(c|c)|c⟩
   ·exact .inr ⟨a,b,c⟩
   ·omega
   ·exact .inl (by omega)
 ·have a:=putL_len (l:=S) (x:=nd)
  have b:=putL_len (l:=T) (x:=(i:Int))
  have:=r.ln
  omega
section
variable {h : Heap} {M : Nat → Prop}
theorem c_l4Blocked (w:Value) (V:List Vlv) (pid nd:Int) (sh:Bool) (s:Sl h 4 w (V.map vlv)) (hV:V.length<=1048576) :
  vCall [] Tryz.prog M 238 [w, .int .i64 pid, .int .i64 nd, .bool sh] h (fun r h'=>r = .bool (blk V pid nd sh)∧h<+:h'):=by
 obtain ⟨a,ew,_,_⟩:=id s
 rw [List.length_map] at ew
 subst ew
 refine body_of mo Tryz.func238 rfl (by kernel_rfl) (Nat.le_of_ble_eq_true (by kernel_rfl)) rfl ?_
 simp only [go_sem]
 refine vLoop.count mo V.length (fun i e h'=>Regs e [(0, .slice a V.length 0),(1, .int .i64 pid),(2, .int .i64 nd),(3, .bool sh),(9, .int .i64 i)]∧HeapIs h' h∧∀(j:Nat) (hj:j<V.length),j<i->((decide (V[j].2.1=pid)&&decide (V[j].2.2.1=nd))&&(!sh||V[j].2.2.2))=false) ?_ ?_
 ·exact ⟨⟨rfl,rfl,rfl,rfl,rfl,trivial⟩, .rfl,fun j _ hj=>absurd hj (by omega)⟩
 ·rintro i e _ hi ⟨⟨e0,e1,e2,e3,e9,_⟩,rfl,hno⟩
  simp only [go_sem,e0,e1,e2,e3,e9]
  by_cases hlt:i<V.length
  ·have hlt':i<(V.map vlv).length:=by simpa using hlt
   have hz:(i:Int)<V.length:=by omega
   have ws:=wsucc hlt (by omega)
   obtain ⟨id,o,K,hv,hK,hK0,hd,hb,hrow,hat⟩:=s.at hlt'
   obtain rfl:a=some ⟨id,o,none⟩:=by simpa using hv
   have g1:=hat 1 (by omega)
   have g2:=hat 2 (by omega)
   have g3:=hat 3 (by omega)
   rw [List.getElem_map] at g1 g2 g3
   simp only [vlv,List.getElem?_cons_zero,List.getElem?_cons_succ] at g1 g2 g3
   have no:((decide (V[i].2.1=pid)&&decide (V[i].2.2.1=nd))&&(!sh||V[i].2.2.2))=false->∀(j:Nat) (hj:j<V.length),j<i+1->((decide (V[j].2.1=pid)&&decide (V[j].2.2.1=nd))&&(!sh||V[j].2.2.2))=false:=fun hh j hj hji=>by
    by_cases h3:j<i
    ·exact hno j hj h3
    ·obtain rfl:j=i:=by omega
     exact hh
   have yes:((decide (V[i].2.1=pid)&&decide (V[i].2.2.1=nd))&&(!sh||V[i].2.2.2))=true->Value.bool true=Value.bool (blk V pid nd sh):=fun hh=>
    congrArg Value.bool (List.any_eq_true.2 ⟨_,List.getElem_mem hlt,hh⟩).symm
   simp only [go_sem,e0,e1,e2,e3,e9,hz,hK0,hd,g1,g2,g3]
   by_cases q1:V[i].2.1=pid
   ·simp only [go_sem,e0,e1,e2,e3,e9,hz,hK0,hd,g1,g2,g3,show (V[i].2.1==pid)=true by simpa using q1]
    by_cases q2:V[i].2.2.1=nd
    ·simp only [go_sem,e0,e1,e2,e3,e9,hz,hK0,hd,g1,g2,g3,show (V[i].2.2.1==nd)=true by simpa using q2]
     cases sh with
     | true=>
      simp only [go_sem,e0,e1,e2,e3,e9,hz,hK0,hd,g1,g2,g3,show (V[i].2.1==pid)=true by simpa using q1,show (V[i].2.2.1==nd)=true by simpa using q2]
      cases q3:V[i].2.2.2 with
      | true=>
       simp only [go_sem,e0,e1,e2,e3,e9,hz,hK0,hd,g1,g2,g3,q3]
       exact yes (by simp [q1,q2,q3])
      | false=>
       simp only [go_sem,e0,e1,e2,e3,e9,hz,hK0,hd,g1,g2,g3,q3]
       exact ⟨hlt,⟨e0,e1,e2,e3,congrArg _ ws,trivial⟩, .rfl,no (by simp [q3])⟩
     | false=>
      simp only [go_sem,e0,e1,e2,e3,e9,hz,hK0,hd,g1,g2,g3,show (V[i].2.1==pid)=true by simpa using q1,show (V[i].2.2.1==nd)=true by simpa using q2]
      exact yes (by simp [q1,q2])
    ·simp only [go_sem,e0,e1,e2,e3,e9,hz,hK0,hd,g1,g2,g3,show (V[i].2.2.1==nd)=false by simpa using q2]
     exact ⟨hlt,⟨e0,e1,e2,e3,congrArg _ ws,trivial⟩, .rfl,no (by simp [q2])⟩
   ·simp only [go_sem,e0,e1,e2,e3,e9,hz,hK0,hd,g1,g2,g3,show (V[i].2.1==pid)=false by simpa using q1]
    exact ⟨hlt,⟨e0,e1,e2,e3,congrArg _ ws,trivial⟩, .rfl,no (by simp [q1])⟩
  ·obtain rfl:i=V.length:=by omega
   simp only [go_sem,e0,e1,e2,e3,e9,show ¬((V.length:Int)<V.length) by omega]
   refine congrArg Value.bool (List.any_eq_false.2 fun x hx => ?_).symm
   obtain ⟨j,hj,rfl⟩:=List.mem_iff_getElem.1 hx
   rw [hno j hj hj];simp
theorem c_l4Spread {n:Nat} (v w vS0 vT0:Value) (N:Nat) (P:List Pip) (V:List Vlv) (sh:Bool) (s:Nat) (e0:List Bool) (S0 T0:List Int) (hv:NA n h v N P) (sv:Sl h 4 w (V.map vlv)) (g:netGood N P) (hV:V.length<=1048576)
  (sS:SI h vS0 S0) (sT:SI h vT0 T0) (r0:Rep e0 S0 T0) (m0:Mks P (opn V sh) s e0) :
  vCall [] Tryz.prog M 199 [v,w, .bool sh,vS0,vT0] h (fun r h'=>(∃e S T x y,r = .tuple #[x,y]∧SI h' x S∧SI h' y T∧Rep e S T∧∀x,ev e x=true↔Rch P (opn V sh) s x)∧h<+:h'):=by
 obtain ⟨wp,rfl,sP⟩:=id hv
 replace sP:Sl h 4 wp (P.map pip):=sP.1
 obtain ⟨a,rfl⟩:=Sl.len4 sP
 have hN:N<=8:=by have:=g.2.1;omega
 have hP:P.length<=10:=g.2.2
 have he:=g.ends
 refine body_of mo Tryz.func199 rfl (by kernel_rfl) (Nat.le_of_ble_eq_true (by kernel_rfl)) rfl ?_
 simp only [go_sem]
 refine vLoop.rank mo 41 (fun m e h'=> ∃(E:List Bool) (S T:List Int) (vS vT:Value) (ag:Bool) (t:Heap),Regs e [(1,w),(2, .bool sh),(3,vS),(4,vT),(5, .pointer (some ⟨h.length,0,none⟩)),(12, .bool ag)] ∧
  HeapIs h' (h++(⟨[.int .i64 N, .slice a P.length 0],2, .rw⟩::t))∧SI h' vS S∧SI h' vT T∧Rep E S T∧Mks P (opn V sh) s E∧(ag=false->evenTo P (opn V sh) E P.length 0)∧2*lacks E+ag.toNat<=m) ?_ ?_
 ·refine ⟨e0,S0,T0,vS0,vT0,true,[],⟨rfl,rfl,rfl,rfl,rfl,rfl,trivial⟩, .rfl,sS.mono (by simp),sT.mono (by simp),r0,m0,(fun h=>by cases h), ?_⟩
  have:=r0.ln
  simp only [Bool.toNat_true]
  omega
 ·rintro m e _ ⟨E,S,T,vS,vT,ag,t,⟨e1,e2,e3,e4,e5,e12,_⟩,rfl,qS,qT,rp,mk,ev0,hm⟩
  simp only [go_sem,e1,e2,e3,e4,e5,e12]
  cases ag with
  | false=>
   simp only [go_sem,e1,e2,e3,e4,e5,e12]
   exact ⟨E,S,T,vS,vT,rfl,qS,qT,rp,mk.done (ev0 rfl)⟩
  | true=>
   simp only [go_sem,e1,e2,e3,e4,e5,e12]
   refine vLoop.count mo P.length (fun i e h'=> ∃(E:List Bool) (S T:List Int) (vS vT:Value) (ag:Bool) (t:Heap),Regs e [(1,w),(2, .bool sh),(3,vS),(4,vT),(5, .pointer (some ⟨h.length,0,none⟩)),(12, .bool ag),(13, .int .i64 i)] ∧
    HeapIs h' (h++(⟨[.int .i64 N, .slice a P.length 0],2, .rw⟩::t))∧SI h' vS S∧SI h' vT T∧Rep E S T∧Mks P (opn V sh) s E∧(ag=false->evenTo P (opn V sh) E i 0)∧2*lacks E+ag.toNat+1<=m) ?_ ?_
   ·exact ⟨E,S,T,vS,vT,false,t,⟨e1,e2,e3,e4,e5,rfl,rfl,trivial⟩, .rfl,qS,qT,rp,mk,fun _=>evenTo.zero,by simpa using hm⟩
   ·clear mk ev0 hm e1 e2 e3 e4 e5 e12 qS qT rp
    rintro i e _ hi ⟨E,S,T,vS,vT,ag,t,⟨e1,e2,e3,e4,e5,e12,e13,_⟩,rfl,qS,qT,rp,mk,ev0,hm⟩
    simp only [go_sem,e1,e2,e3,e4,e5,e12,e13]
    by_cases hlt:i<P.length
    ·have hlt':i<(P.map pip).length:=by simpa using hlt
     have hz:(i:Int)<P.length:=by omega
     have ws:=wsucc hlt (by omega)
     obtain ⟨id,o,k,hv',hk,_,hd,hb,hrow,hat⟩:=sP.at hlt'
     obtain rfl:a=some ⟨id,o,none⟩:=by simpa using hv'
     rw [List.getElem_map] at hrow
     simp only [pip] at hrow
     simp only [go_sem,e1,e2,e3,e4,e5,e12,e13,hz,hk,hd,hb,hrow]
     refine vLoop.count mo 2 (fun j e h'=> ∃(E:List Bool) (S T:List Int) (vS vT:Value) (ag:Bool) (u:Heap),Regs e [(1,w),(2, .bool sh),(3,vS),(4,vT),(5, .pointer (some ⟨h.length,0,none⟩)),(12, .bool ag),(13, .int .i64 i),(14, .pointer (some ⟨h.length+(t.length+1),0,none⟩)),(15, .int .i64 j)] ∧
      HeapIs h' (h++(⟨[.int .i64 N, .slice (some ⟨id,o,none⟩) P.length 0],2, .rw⟩::(t++(⟨[.int .i64 P[i].1, .int .i64 P[i].2.1, .int .i64 P[i].2.2.1, .int .i64 P[i].2.2.2],4, .rw⟩::u))))∧SI h' vS S∧SI h' vT T∧Rep E S T∧Mks P (opn V sh) s E∧(ag=false->evenTo P (opn V sh) E i j)∧2*lacks E+ag.toNat+1<=m) ?_ ?_
     ·exact ⟨E,S,T,vS,vT,ag,[],⟨e1,e2,e3,e4,e5,e12,e13,rfl,rfl,trivial⟩, .rfl,qS.mono (by simp),qT.mono (by simp),rp,mk,ev0,hm⟩
     ·clear mk ev0 hm e1 e2 e3 e4 e5 e12 e13 qS qT rp
      rintro j e _ hj ⟨E,S,T,vS,vT,ag,u,⟨e1,e2,e3,e4,e5,e12,e13,e14,e15,_⟩,rfl,qS,qT,rp,mk,ev0,hm⟩
      simp only [go_sem,e1,e2,e3,e4,e5,e12,e13,e14,e15]
      by_cases hjl:j<2
      ·have hz2:(j:Int)<2:=by omega
       have hpi:=(he _ (List.getElem_mem hlt))
       obtain ⟨nd,hnd⟩: ∃nd,nd=if j=0 then P[i].2.1 else P[i].2.2.1:=⟨_,rfl⟩
       have hnd':nd=P[i].2.1∨nd=P[i].2.2.1:=by rw [hnd];split<;>simp
       have hr:1<=nd∧nd<=N:=by rcases hnd' with h|h<;>(rw [h];omega)
       have hcell: [Value.int .i64 P[i].2.1, .int .i64 P[i].2.2.1][j]? = some (.int .i64 nd):=by
        rw [hnd]
        obtain rfl|rfl:j=0∨j=1:=by omega
        ·rfl
        ·rfl
       have wj:=wsucc hjl (by omega)
       have hl:=mk.len
       have hrl:=rp.ln
       simp only [go_sem,e1,e2,e3,e4,e5,e12,e13,e14,e15,hz2,hcell]
       refine ⟨by kernel_rfl,(c_l4Blocked _ V _ _ _ (sv.mono (by simp)) hV).use (fun _ m=>m) ?_⟩
       rintro _ _ ⟨rfl,⟨u2,rfl⟩⟩
       cases hb2:blk V P[i].1 nd sh with
       | true=>
        simp only [go_sem,e1,e2,e3,e4,e5,e12,e13,e14,e15,hb2]
        exact ⟨hjl,E,S,T,vS,vT,ag,_,⟨e1,e2,e3,e4,e5,e12,e13,e14,congrArg _ wj,trivial⟩, .rfl,qS.mono (by simp),qT.mono (by simp),rp,mk,fun h0=>(ev0 h0).more hjl hlt hnd (fun _ h1=>by rw [opn,hb2] at h1;cases h1),hm⟩
       | false=>
        have ho:opn V sh P[i] nd=true:=by rw [opn,hb2];rfl
        have c1:decide (nd∈S)=ev E nd.toNat:=by
         cases hh:ev E nd.toNat
         ·rw [decide_eq_false];intro h1;have:=((rp.mS nd).1 h1).2.2;rw [hh] at this;cases this
         ·rw [decide_eq_true];exact (rp.mS nd).2 ⟨by omega,by omega,hh⟩
        have c2:decide ((i:Int)∈T)=ev E (9+i):=by
         cases hh:ev E (9+i)
         ·rw [decide_eq_false];intro h1;have:=((rp.mT i).1 h1).2.2;rw [Int.toNat_natCast,hh] at this;cases this
         ·rw [decide_eq_true];exact (rp.mT i).2 ⟨by omega,by omega,by rw [Int.toNat_natCast];exact hh⟩
        simp only [go_sem,e1,e2,e3,e4,e5,e12,e13,e14,e15,hb2]
        refine ⟨by kernel_rfl,(c_l1Has _ S nd (qS.mono (by simp)) (by omega)).use (fun _ m=>m) ?_⟩
        rintro _ _ ⟨rfl,rfl⟩
        rw [c1]
        try simp only [go_sem]
        refine ⟨by kernel_rfl,(c_l1Has _ T i (qT.mono (by simp)) (by omega)).use (fun _ m=>m) ?_⟩
        rintro _ _ ⟨rfl,rfl⟩
        rw [c2]
        by_cases hx:ev E nd.toNat=ev E (9+i)
        ·simp only [go_sem,e1,e2,e3,e4,e5,e12,e13,e14,e15,hb2,Tryz.underlying4,show (ev E nd.toNat==ev E (9+i))=true by simp [hx]]
         exact ⟨hjl,E,S,T,vS,vT,ag,_,⟨e1,e2,e3,e4,e5,e12,e13,e14,congrArg _ wj,trivial⟩, .rfl,qS.mono (by simp),qT.mono (by simp),rp,mk,fun h0=>(ev0 h0).more hjl hlt hnd (fun _ _=>hx),hm⟩
        ·obtain ⟨mk2,hlk⟩:=mk.mark hlt hP hnd' (by omega) ho hx
         have rp2:=rp.mark hl (by omega) (by omega) hlk
         simp only [go_sem,e1,e2,e3,e4,e5,e12,e13,e14,e15,hb2,Tryz.underlying4,show (ev E nd.toNat==ev E (9+i))=false by simp [hx]]
         refine ⟨by kernel_rfl,(c_l1Put _ S nd (qS.mono (by simp)) (by simp) (by omega)).use (fun _ m=>m) ?_⟩
         rintro vS2 _ ⟨qS2,⟨u3,rfl⟩⟩
         simp only [go_sem,e1,e2,e3,e4,e5,e12,e13,e14,e15]
         refine ⟨by kernel_rfl,(c_l1Put _ T i (qT.mono (by simp)) (by simp) (by omega)).use (fun _ m=>m) ?_⟩
         rintro vT2 _ ⟨qT2,⟨u4,rfl⟩⟩
         simp only [go_sem,e1,e2,e3,e4,e5,e12,e13,e14,e15]
         refine ⟨hjl,_,_,_,vS2,vT2,true,_,⟨e1,e2,rfl,rfl,e5,rfl,e13,e14,congrArg _ wj,trivial⟩, .rfl, ?_, ?_,rp2,mk2,(fun h0=>by cases h0), ?_⟩
         ·exact SI.mono (h:=_) (qS2:SI _ vS2 _) (by simp)
         ·unfold SI
          simpa using qT2
         ·have:ag.toNat<=1:=by cases ag<;>decide
          simp only [Bool.toNat_true]
          omega
      ·obtain rfl:j=2:=by omega
       have ws:=wsucc hlt (by omega)
       simp only [go_sem,e1,e2,e3,e4,e5,e12,e13,e14,e15]
       exact ⟨hlt,E,S,T,vS,vT,ag,_,⟨e1,e2,e3,e4,e5,e12,congrArg _ ws,trivial⟩, .rfl,qS,qT,rp,mk,fun h0=>(ev0 h0).next,hm⟩
    ·obtain rfl:i=P.length:=by omega
     simp only [go_sem,show ¬((P.length:Int)<P.length) by omega,e1,e2,e3,e4,e5,e12,e13]
     exact ⟨2*lacks E+ag.toNat,by omega,E,S,T,vS,vT,ag,t,⟨e1,e2,e3,e4,e5,e12,trivial⟩, .rfl,qS,qT,rp,mk,ev0,Nat.le_refl _⟩
end
open Go.HH Go.Proofs
structure Con where
 N:Int
 P:List Pip
 V:List Vlv
 src:Int
 D:ByteArray
 Q:ByteArray
 cnt:Int
def conV (c:Con) (wP wV:Value):Value := .agg #[.int .i64 c.N,wP,wV, .int .i64 c.src, .string c.D, .string c.Q, .int .i64 c.cnt]
structure ConS (n:Nat) (h:Heap) (c:Con) (wP wV:Value):Prop where
 p:SB n 4 h wP (c.P.map pip)
 v:SB n 4 h wV (c.V.map vlv)
theorem ConS.mono {n:Nat} {h h':Heap} {c:Con} {wP wV:Value} (s:ConS n h c wP wV) (hp:h<+:h'):ConS n h' c wP wV:=⟨s.p.mono hp,s.v.mono hp⟩
theorem ConS.net {n:Nat} {h:Heap} {c:Con} {wP wV:Value} (s:ConS n h c wP wV):NA n h (.agg #[.int .i64 c.N,wP]) c.N c.P:=⟨wP,rfl,s.p⟩
structure ConF (lo hi:Nat) (h:Heap) (c:Con) (wP wV:Value):Prop where
 p:FR lo hi 4 h wP (c.P.map pip)
 v:FR lo hi 4 h wV (c.V.map vlv)
theorem ConF.mono {lo hi:Nat} {h h':Heap} {c:Con} {wP wV:Value} (s:ConF lo hi h c wP wV) (hp:h<+:h'):ConF lo hi h' c wP wV:=⟨s.p.mono hp,s.v.mono hp⟩
theorem ConF.s {lo hi:Nat} {h:Heap} {c:Con} {wP wV:Value} (s:ConF lo hi h c wP wV):ConS hi h c wP wV:=⟨s.p.sb,s.v.sb⟩
theorem frOne {lo hi sz:Nat} {h:Heap} {v:Value} {rows:List (List Value)} (s:FR lo hi sz h v rows):oneC v=true:=by
 obtain ⟨id,rfl,_⟩:=s
 rfl
def conSmall (c:Con):Prop:=c.P.length<=1048576∧c.V.length<=1048576∧c.D.size+c.Q.size<=1048576
theorem hgMove {h x y t u:Heap} {id:Nat} {b:Blk} (g:hget (h++x++t) id=some b) (hl:h.length+x.length<=id) (e:y.length=x.length):hget (h++(y++(t++u))) id=some b:=by
 obtain ⟨j,rfl⟩: ∃j,id=h.length+(x.length+j):=⟨id-h.length-x.length,by omega⟩
 rw [List.append_assoc,hget_app,List.getElem?_append_right (by omega),Nat.add_sub_cancel_left] at g
 rw [hget_app,List.getElem?_append_right (by omega),e,Nat.add_sub_cancel_left]
 have:=(List.getElem?_eq_some_iff.1 g).1
 rw [List.getElem?_append_left this]
 exact g
open Go.HH Go.Proofs
structure ConQ (lo hi:Nat) (h:Heap) (c:Con) (wP wV:Value):Prop where
 p: ∃a b x y,(lo<=a∧b<=hi∧lo<=x∧y<=hi∧(b<=x∨y<=a))∧FQs a b 4 h wP (c.P.map pip)∧FQs x y 4 h wV (c.V.map vlv)
theorem ConQ.mk2 {lo hi:Nat} {h:Heap} {c:Con} {wP wV:Value} (mid:Nat) (h1:lo<=mid) (h2:mid<=hi) (p:FQs lo mid 4 h wP (c.P.map pip)) (v:FQs mid hi 4 h wV (c.V.map vlv)):ConQ lo hi h c wP wV:=
 ⟨lo,mid,mid,hi,⟨Nat.le_refl _,h2,h1,Nat.le_refl _, .inl (Nat.le_refl _)⟩,p,v⟩
theorem oneP (P:List Pip):((P.map pip).flatten).all oneC=true:=rows_one fun r hr=>by
 obtain ⟨x,_,rfl⟩:=List.mem_map.1 hr
 rfl
theorem oneVv (P:List Vlv):((P.map vlv).flatten).all oneC=true:=rows_one fun r hr=>by
 obtain ⟨x,_,rfl⟩:=List.mem_map.1 hr
 rfl
theorem flP (P:List Pip):((P.map pip).flatten).length=P.length*4:=by
 rw [flatten_len (sz:=4) (fun r hr=>by obtain ⟨x,_,rfl⟩:=List.mem_map.1 hr;rfl),List.length_map]
theorem flV (P:List Vlv):((P.map vlv).flatten).length=P.length*4:=by
 rw [flatten_len (sz:=4) (fun r hr=>by obtain ⟨x,_,rfl⟩:=List.mem_map.1 hr;rfl),List.length_map]
theorem frP {h t:Heap} {j n lo hi:Nat} {P:List Pip} (hj:t[j]? = some ⟨(P.map pip).flatten,4, .rw⟩) (hn:n=P.length) (h1:lo<=h.length+j) (h2:h.length+j<hi):FQs lo hi 4 (h++t) (.slice (some ⟨h.length+j,0,none⟩) n 0) (P.map pip):=
 .inl ⟨h.length+j,by rw [List.length_map,hn],h1,h2,by rw [hget_app];exact hj,fun r hr=>by obtain ⟨x,_,rfl⟩:=List.mem_map.1 hr;rfl⟩
theorem frV {h t:Heap} {j n lo hi:Nat} {P:List Vlv} (hj:t[j]? = some ⟨(P.map vlv).flatten,4, .rw⟩) (hn:n=P.length) (h1:lo<=h.length+j) (h2:h.length+j<hi):FQs lo hi 4 (h++t) (.slice (some ⟨h.length+j,0,none⟩) n 0) (P.map vlv):=
 .inl ⟨h.length+j,by rw [List.length_map,hn],h1,h2,by rw [hget_app];exact hj,fun r hr=>by obtain ⟨x,_,rfl⟩:=List.mem_map.1 hr;rfl⟩
theorem fq0 {α:Type} {h:Heap} {lo hi:Nat} {a:Option Addr} {f:α->List Value}:FQs lo hi 4 h (.slice a 0 0) (([]:List α).map f) := .inr ⟨rfl,a,rfl⟩
theorem FQs.one {lo hi sz:Nat} {h:Heap} {v:Value} {rows:List (List Value)} (s:FQs lo hi sz h v rows):oneC v=true:=by
 rcases s with ⟨id,rfl,_⟩|⟨_,a,rfl⟩<;>rfl
theorem FQs.swapped {h x y t:Heap} {lo hi lo' hi':Nat} {v:Value} {rows:List (List Value)} (s:FQs lo hi 4 (h++x++t) v rows) (hl:h.length+x.length<=lo) (e:y.length=x.length) (h1:lo'<=lo) (h2:hi<=hi'):FQs lo' hi' 4 (h++(y++t)) v rows:=by
 rcases s with ⟨id,ev,g1,g2,g3,g4⟩|s
 ·have:=hgMove (y:=y) (u:= []) g3 (by omega) e
  rw [List.append_nil] at this
  exact .inl ⟨id,ev,by omega,by omega,this,g4⟩
 ·exact .inr s
theorem ConQ.swapped {h x y t:Heap} {hi hi':Nat} {c:Con} {wP wV:Value} (s:ConQ (h++x).length hi (h++x++t) c wP wV) (e:y.length=x.length) (h2:hi<=hi'):ConQ h.length hi' (h++(y++t)) c wP wV:=by
 obtain ⟨a,b,x',y',hh,p,v⟩:=s.p
 rw [List.length_append] at hh
 exact ⟨a,b,x',y',by omega,p.swapped (by omega) e (Nat.le_refl _) (Nat.le_refl _),v.swapped (by omega) e (Nat.le_refl _) (Nat.le_refl _)⟩
theorem ConQ.one {lo hi:Nat} {h:Heap} {c:Con} {wP wV:Value} (s:ConQ lo hi h c wP wV):oneC wP=true∧oneC wV=true:=by
 obtain ⟨_,_,_,_,_,p,v⟩:=s.p
 exact ⟨p.one,v.one⟩
section
variable {h : Heap} {M : Nat → Prop}
theorem c_newConsole (c:Con) (wP wV:Value) (sP:Sl h 4 wP (c.P.map pip)) (sV:Sl h 4 wV (c.V.map vlv)) (hP:c.P.length<=1048576) (hV:c.V.length<=1048576) :
  vCall [] Tryz.prog M 54 [conV c wP wV] h (fun r h'=>(∃xP xV,r=conV c xP xV∧ConQ h.length h'.length h' c xP xV)∧h<+:h'):=by
 obtain ⟨N,P,V,src,D,Q,cnt⟩:=c
 simp only at sP sV hP hV
 obtain ⟨aa,ea,_,_⟩:=id sP
 obtain ⟨bb,eb,_,_⟩:=id sV
 rw [List.length_map] at ea eb
 refine body_ofQ ([(1,18)]) mo Tryz.func54 rfl (by kernel_rfl) (Nat.le_of_ble_eq_true (by kernel_rfl)) rfl ?_
 by_cases p0:P= []
 ·subst p0
  simp only [List.length_nil] at ea
  subst ea
  by_cases v0:V= []
  ·subst v0
   simp only [List.length_nil] at eb
   subst eb
   simp only [go_sem,conV]
   refine fun X _ Y _=>⟨_,_,rfl,ConQ.mk2 h.length ?_ ?_ fq0 fq0⟩
   all_goals (clear sP sV;omega)
  ·have hv0:0<V.length:=List.length_pos_iff.2 v0
   obtain ⟨id,off,k,ev,hk,hd,hbb,hfl⟩:=sV.copy (by simpa using v0)
   rw [List.length_map] at ev hbb hfl
   rw [eb] at ev
   obtain rfl:bb=some ⟨id,off,none⟩:=by simpa using ev
   subst eb
   simp only [go_sem,conV,onAppQ_more hv0,hk,hd,hbb,hfl,show V.length<=9223372036854775807 by omega,show V.length*32<=140737488355328 by omega]
   refine fun X _ Y _=>⟨by omega,_,_,rfl,ConQ.mk2 h.length ?_ ?_ fq0 (frV ?_ rfl ?_ ?_)⟩
   all_goals first|rfl|omega|skip
 ·have hp0:0<P.length:=List.length_pos_iff.2 p0
  obtain ⟨id,off,k,ev,hk,hd,hbb,hfl⟩:=sP.copy (by simpa using p0)
  rw [List.length_map] at ev hbb hfl
  rw [ea] at ev
  obtain rfl:aa=some ⟨id,off,none⟩:=by simpa using ev
  subst ea
  by_cases v0:V= []
  ·subst v0
   simp only [List.length_nil] at eb
   subst eb
   simp only [go_sem,conV,onAppQ_more hp0,hk,hd,hbb,hfl,show P.length<=9223372036854775807 by omega,show P.length*32<=140737488355328 by omega]
   refine fun X _=>⟨by omega,fun Y _=>⟨_,_,rfl,ConQ.mk2 (h.length+3) ?_ ?_ (frP ?_ rfl ?_ ?_) fq0⟩⟩
   all_goals first|rfl|omega|skip
  ·have hv0:0<V.length:=List.length_pos_iff.2 v0
   obtain ⟨id2,off2,k2,ev2,hk2,hd2,hbb2,hfl2⟩:=sV.copy (by simpa using v0)
   rw [List.length_map] at ev2 hbb2 hfl2
   rw [eb] at ev2
   obtain rfl:bb=some ⟨id2,off2,none⟩:=by simpa using ev2
   subst eb
   simp only [go_sem,conV,onAppQ_more hp0,onAppQ_more hv0,hk,hd,hbb,hfl,hk2,hd2,hbb2,hfl2,show P.length<=9223372036854775807 by omega,show P.length*32<=140737488355328 by omega,show V.length<=9223372036854775807 by omega,show V.length*32<=140737488355328 by omega]
   refine fun X _=>⟨by omega,fun Y _=>⟨by omega,_,_,rfl,ConQ.mk2 (h.length+3) ?_ ?_ (frP ?_ rfl ?_ ?_) (frV ?_ rfl ?_ ?_)⟩⟩
   all_goals first|rfl|omega|skip
theorem c_l28Own (c:Con) (wP wV:Value) (sP:Sl h 4 wP (c.P.map pip)) (sV:Sl h 4 wV (c.V.map vlv)) (hP:c.P.length<=1048576) (hV:c.V.length<=1048576) :
  vCall [] Tryz.prog M 58 [conV c wP wV] h (fun r h'=>(∃xP xV,r=conV c xP xV∧ConQ h.length h'.length h' c xP xV)∧h<+:h'):=by
 obtain ⟨N,P,V,src,D,Q,cnt⟩:=c
 simp only at sP sV hP hV
 obtain ⟨aa,ea,_,_⟩:=id sP
 obtain ⟨bb,eb,_,_⟩:=id sV
 rw [List.length_map] at ea eb
 refine body_ofQ ([(1,10),(2,10)]) mo Tryz.func58 rfl (by kernel_rfl) (Nat.le_of_ble_eq_true (by kernel_rfl)) rfl ?_
 by_cases p0:P= []
 ·subst p0
  simp only [List.length_nil] at ea
  subst ea
  by_cases v0:V= []
  ·subst v0
   simp only [List.length_nil] at eb
   subst eb
   simp only [go_sem,conV]
   refine fun X _ Y _=>⟨_,_,rfl,ConQ.mk2 h.length ?_ ?_ fq0 fq0⟩
   all_goals (clear sP sV;omega)
  ·have hv0:0<V.length:=List.length_pos_iff.2 v0
   obtain ⟨id,off,k,ev,hk,hd,hbb,hfl⟩:=sV.copy (by simpa using v0)
   rw [List.length_map] at ev hbb hfl
   rw [eb] at ev
   obtain rfl:bb=some ⟨id,off,none⟩:=by simpa using ev
   subst eb
   simp only [go_sem,conV,onAppQ_more hv0,hk,hd,hbb,hfl,show V.length<=9223372036854775807 by omega,show V.length*32<=140737488355328 by omega]
   refine fun X _ Y _=>⟨by omega,_,_,rfl,ConQ.mk2 h.length ?_ ?_ fq0 (frV ?_ rfl ?_ ?_)⟩
   all_goals first|rfl|omega|skip
 ·have hp0:0<P.length:=List.length_pos_iff.2 p0
  obtain ⟨id,off,k,ev,hk,hd,hbb,hfl⟩:=sP.copy (by simpa using p0)
  rw [List.length_map] at ev hbb hfl
  rw [ea] at ev
  obtain rfl:aa=some ⟨id,off,none⟩:=by simpa using ev
  subst ea
  by_cases v0:V= []
  ·subst v0
   simp only [List.length_nil] at eb
   subst eb
   simp only [go_sem,conV,onAppQ_more hp0,hk,hd,hbb,hfl,show P.length<=9223372036854775807 by omega,show P.length*32<=140737488355328 by omega]
   refine fun X _=>⟨by omega,fun Y _=>⟨_,_,rfl,ConQ.mk2 (h.length+3) ?_ ?_ (frP ?_ rfl ?_ ?_) fq0⟩⟩
   all_goals first|rfl|omega|skip
  ·have hv0:0<V.length:=List.length_pos_iff.2 v0
   obtain ⟨id2,off2,k2,ev2,hk2,hd2,hbb2,hfl2⟩:=sV.copy (by simpa using v0)
   rw [List.length_map] at ev2 hbb2 hfl2
   rw [eb] at ev2
   obtain rfl:bb=some ⟨id2,off2,none⟩:=by simpa using ev2
   subst eb
   simp only [go_sem,conV,onAppQ_more hp0,onAppQ_more hv0,hk,hd,hbb,hfl,hk2,hd2,hbb2,hfl2,show P.length<=9223372036854775807 by omega,show P.length*32<=140737488355328 by omega,show V.length<=9223372036854775807 by omega,show V.length*32<=140737488355328 by omega]
   refine fun X _=>⟨by omega,fun Y _=>⟨by omega,_,_,rfl,ConQ.mk2 (h.length+3) ?_ ?_ (frP ?_ rfl ?_ ?_) (frV ?_ rfl ?_ ?_)⟩⟩
   all_goals first|rfl|omega|skip
theorem c_l2NodeN {n:Nat} (v:Value) (N:Int) (P:List Pip) (x:Int) (hv:NA n h v N P) (hP:P.length<=1048576):vCall [] Tryz.prog M 87 [v, .int .i64 x] h (fun r h'=>r = .bool (decide (netGood N P∧1<=x∧x<=N))∧h<+:h'):=by
 obtain ⟨w,rfl,sw⟩:=id hv
 refine body_of mo Tryz.func87 rfl (by kernel_rfl) (Nat.le_of_ble_eq_true (by kernel_rfl)) rfl ?_
 simp only [go_sem]
 refine ⟨by kernel_rfl,(c_l2Good _ N P (hv.mono (by simp)) hP).use (fun _ m=>m) ?_⟩
 rintro _ _ ⟨rfl,⟨t,rfl⟩⟩
 by_cases h1:netGood N P
 ·simp only [go_sem,decb h1]
  refine ⟨by kernel_rfl,(c_l1In _ _ _).use (fun _ m=>m) ?_⟩
  rintro _ _ ⟨rfl,rfl⟩
  simp only [go_sem,decb h1]
  simp [h1]
 ·simp only [go_sem,dect h1]
  simp [h1]
theorem c_hasNode {n:Nat} (v:Value) (N:Int) (P:List Pip) (x:Int) (hv:NA n h v N P) (hP:P.length<=1048576):vCall [] Tryz.prog M 86 [v, .int .i64 x] h (fun r h'=>r = .bool (decide (netGood N P∧1<=x∧x<=N))∧h<+:h'):=by
 obtain ⟨w,rfl,sw⟩:=id hv
 refine body_of mo Tryz.func86 rfl (by kernel_rfl) (Nat.le_of_ble_eq_true (by kernel_rfl)) rfl ?_
 simp only [go_sem]
 refine ⟨by kernel_rfl,(c_IsValidNetwork _ N P (hv.mono (by simp)) hP).use (fun _ m=>m) ?_⟩
 rintro _ _ ⟨rfl,⟨t,rfl⟩⟩
 by_cases h1:netGood N P
 ·simp only [go_sem,decb h1]
  refine ⟨by kernel_rfl,(c_has _ _ _).use (fun _ m=>m) ?_⟩
  rintro _ _ ⟨rfl,⟨t2,rfl⟩⟩
  simp only [go_sem,decb h1]
  simp [h1]
 ·simp only [go_sem,dect h1]
  simp [h1]
def newC (N:Int) (P:List Pip) (x:Int):Con:=if netGood N P∧1<=x∧x<=N then ⟨N,P,[],x, .empty, .empty,0⟩ else ⟨0,[],[],0, .empty, .empty,0⟩
theorem c_NewConsole {n:Nat} (v:Value) (N:Int) (P:List Pip) (x:Int) (hv:NA n h v N P) (hP:P.length<=1048576):vCall [] Tryz.prog M 39 [v, .int .i64 x] h
  (fun r h'=>(∃xP xV,r = .tuple #[conV (newC N P x) xP xV, .bool (decide (netGood N P∧1<=x∧x<=N))]∧ConQ h.length h'.length h' (newC N P x) xP xV)∧h<+:h'):=by
 obtain ⟨w,rfl,sw⟩:=id hv
 refine body_of mo Tryz.func39 rfl (by kernel_rfl) (Nat.le_of_ble_eq_true (by kernel_rfl)) rfl ?_
 simp only [go_sem]
 refine ⟨by kernel_rfl,(c_hasNode _ N P x (hv.mono (by simp)) hP).use (fun _ m=>m) ?_⟩
 rintro _ _ ⟨rfl,⟨t,rfl⟩⟩
 by_cases h1:netGood N P∧1<=x∧x<=N
 ·simp only [go_sem,decb h1]
  refine ⟨by kernel_rfl,(c_newConsole ⟨N,P,[],x, .empty, .empty,0⟩ w (.slice none 0 0) ((sw.mono (by simp)).1) Sl.nil hP (by simp)).use (fun _ m=>m) ?_⟩
  rintro _ _ ⟨⟨xP,xV,rfl,q⟩,⟨t2,rfl⟩⟩
  simp only [go_sem,decb h1,conV,q.one.1,q.one.2,Bool.and_self]
  have en:newC N P x=⟨N,P,[],x, .empty, .empty,0⟩:=by rw [newC,if_pos h1]
  rw [en]
  exact ⟨_,_,rfl,q.swapped (y:=_::_::t) rfl (by simp)⟩
 ·simp only [go_sem,dect h1]
  have en:newC N P x=⟨0,[],[],0, .empty, .empty,0⟩:=by rw [newC,if_neg h1]
  rw [en]
  exact ⟨_,_,rfl,ConQ.mk2 h.length (by omega) (by omega) fq0 fq0⟩
theorem c_sNewConsole {n:Nat} (v:Value) (N:Int) (P:List Pip) (x:Int) (hv:NA n h v N P) (hP:P.length<=1048576):vCall [] Tryz.prog M 40 [v, .int .i64 x] h
  (fun r h'=>(∃xP xV,r = .tuple #[conV (newC N P x) xP xV, .bool (decide (netGood N P∧1<=x∧x<=N))]∧ConQ h.length h'.length h' (newC N P x) xP xV)∧h<+:h'):=by
 obtain ⟨w,rfl,sw⟩:=id hv
 refine body_of mo Tryz.func40 rfl (by kernel_rfl) (Nat.le_of_ble_eq_true (by kernel_rfl)) rfl ?_
 simp only [go_sem]
 refine ⟨by kernel_rfl,(c_l2NodeN _ N P x (hv.mono (by simp)) hP).use (fun _ m=>m) ?_⟩
 rintro _ _ ⟨rfl,⟨t,rfl⟩⟩
 by_cases h1:netGood N P∧1<=x∧x<=N
 ·simp only [go_sem,decb h1]
  refine ⟨by kernel_rfl,(c_l28Own ⟨N,P,[],x, .empty, .empty,0⟩ w (.slice none 0 0) ((sw.mono (by simp)).1) Sl.nil hP (by simp)).use (fun _ m=>m) ?_⟩
  rintro _ _ ⟨⟨xP,xV,rfl,q⟩,⟨t2,rfl⟩⟩
  simp only [go_sem,decb h1,conV,q.one.1,q.one.2,Bool.and_self]
  have en:newC N P x=⟨N,P,[],x, .empty, .empty,0⟩:=by rw [newC,if_pos h1]
  rw [en]
  exact ⟨_,_,rfl,q.swapped (y:=_::_::t) rfl (by simp)⟩
 ·simp only [go_sem,dect h1]
  have en:newC N P x=⟨0,[],[],0, .empty, .empty,0⟩:=by rw [newC,if_neg h1]
  rw [en]
  exact ⟨_,_,rfl,ConQ.mk2 h.length (by omega) (by omega) fq0 fq0⟩
end
open Go.HH Go.Proofs
def plI (n:Nat) (f:Nat->Bool):List Int:=((List.range n).filter f).map Int.ofNat
theorem plI_succ {n:Nat} {f:Nat->Bool}:plI (n+1) f=plI n f++if f n then [Int.ofNat n] else []:=by
 unfold plI
 rw [List.range_succ,List.filter_append,List.map_append]
 cases h:f n<;>simp [h]
theorem plI_len {n:Nat} {f:Nat->Bool}:(plI n f).length<=n:=by
 unfold plI
 rw [List.length_map]
 exact Nat.le_trans (List.length_filter_le _ _) (by simp)
theorem plI_mem {n:Nat} {f:Nat->Bool} {x:Int}:x∈plI n f↔0<=x∧x<n∧f x.toNat=true:=by
 unfold plI
 constructor
 ·intro hx
  obtain ⟨i,hi,rfl⟩:=List.mem_map.1 hx
  obtain ⟨h1,h2⟩:=List.mem_filter.1 hi
  have:=List.mem_range.1 h1
  simp only [Int.ofNat_eq_natCast,Int.toNat_natCast]
  exact ⟨by omega,by omega,h2⟩
 ·rintro ⟨h1,h2,h3⟩
  exact List.mem_map.2 ⟨x.toNat,List.mem_filter.2 ⟨List.mem_range.2 (by omega),h3⟩,by simp only [Int.ofNat_eq_natCast];omega⟩
theorem plI_rising {n:Nat} {f:Nat->Bool}:(plI n f).Pairwise (· < ·):=by
 induction n with
 | zero=>simp [plI]
 | succ n ih=>
  rw [plI_succ,List.pairwise_append]
  refine ⟨ih,by split<;>simp,fun x hx y hy => ?_⟩
  have hx2:=(plI_mem.1 hx).2.1
  split at hy
  ·have:y=Int.ofNat n:=by simpa using hy
   rw [this];simpa using hx2
  ·simp at hy
theorem nodesOf_len {N:Nat} {f:Nat->Bool}:(nodesOf N f).length<=N:=by
 unfold nodesOf
 rw [List.length_map]
 exact Nat.le_trans (List.length_filter_le _ _) (by simp)
section
variable {h : Heap} {M : Nat → Prop}
theorem c_l4Dry {n:Nat} (v w:Value) (N:Nat) (P:List Pip) (V:List Vlv) (s:Nat) (hv:NA n h v N P) (sv:Sl h 4 w (V.map vlv)) (g:netGood N P) (hV:V.length<=1048576) (hs:1<=s∧s<=N) :
  vCall [] Tryz.prog M 193 [v,w, .int .i64 s] h (fun r h'=>(∃x y,r = .tuple #[x,y]∧SI h' x (nodesOf N (fun k => !decide (Rch P (opn V true) s k)))∧SI h' y (plI P.length (fun i => !decide (Rch P (opn V true) s (9+i)))))∧h<+:h'):=by
 obtain ⟨wp,rfl,sP⟩:=id hv
 replace sP:Sl h 4 wp (P.map pip):=sP.1
 obtain ⟨a,rfl⟩:=Sl.len4 sP
 have hN:N<=8:=by have:=g.2.1;omega
 have hP:P.length<=10:=g.2.2
 refine body_of mo Tryz.func193 rfl (by kernel_rfl) (Nat.le_of_ble_eq_true (by kernel_rfl)) rfl ?_
 simp only [go_sem]
 refine ⟨by kernel_rfl,(c_l4Spread _ w _ _ N P V true s ((List.replicate 19 false).set s true) [(s:Int)] [] (hv.mono (by simp)) (sv.mono (by simp)) g hV ?_ ?_ (Rep.node (by omega)) (Mks.init (by omega))).use (fun _ m=>m) ?_⟩
 ·refine FI.si (lo:=0) (hi:=(h++_).length) (FI.at' rfl (by omega) (by simp) ?_) (Nat.le_refl _)
  simp only [go_sem]
  rfl
 ·exact ⟨_,rfl,fun h0=>absurd h0 (by simp)⟩
 rintro _ _ ⟨⟨e,S,T,x,y,rfl,qS,qT,rp,he⟩,⟨t,rfl⟩⟩
 try simp only [List.append_assoc,List.cons_append,List.nil_append] at qS qT
 have hrl:=rp.ln
 simp only [go_sem]
 obtain ⟨H,hH⟩: ∃H:Heap,H=h++⟨[.int .i64 N, .slice a P.length 0],2, .rw⟩::⟨[.int .i64 s],1, .rw⟩::⟨[],1, .rw⟩::t:=⟨_,rfl⟩
 have hp:h<+:H:=by rw [hH];exact List.prefix_append _ _
 have hHl:=hp.length_le
 rw [←hH] at qS qT
 have gB: ∀u,hget (H++u) h.length=some ⟨[.int .i64 N, .slice a P.length 0],2, .rw⟩:=self_get (by rw [hH];simp only [go_sem])
 have eL:H.length=h.length+(t.length+1+1+1):=by rw [hH];simp
 have eH:h++⟨[.int .i64 N, .slice a P.length 0],2, .rw⟩::⟨[.int .i64 s],1, .rw⟩::⟨[],1, .rw⟩::(t++ [⟨[],1, .rw⟩,⟨[],1, .rw⟩])=H++ [⟨[],1, .rw⟩,⟨[],1, .rw⟩]:=by rw [hH];simp
 have hown: ∀k,own h.length M (H.length+k):=fun k=>Or.inl (by omega)
 have c1: ∀k:Nat,k<=8->decide ((k:Int)∈S)=decide (Rch P (opn V true) s k):=fun k hk=>by
  rw [←ev_dec he]
  cases hh:ev e k
  ·rw [decide_eq_false];intro h1;have:=((rp.mS k).1 h1).2.2;rw [Int.toNat_natCast,hh] at this;cases this
  ·rw [decide_eq_true];exact (rp.mS k).2 ⟨by omega,by omega,by rw [Int.toNat_natCast];exact hh⟩
 have c2: ∀k:Nat,k<10->decide ((k:Int)∈T)=decide (Rch P (opn V true) s (9+k)):=fun k hk=>by
  rw [←ev_dec he]
  cases hh:ev e (9+k)
  ·rw [decide_eq_false];intro h1;have:=((rp.mT k).1 h1).2.2;rw [Int.toNat_natCast,hh] at this;cases this
  ·rw [decide_eq_true];exact (rp.mT k).2 ⟨by omega,by omega,by rw [Int.toNat_natCast];exact hh⟩
 obtain ⟨fN,hfN⟩: ∃f:Nat->Bool,f=fun k => !decide (Rch P (opn V true) s k):=⟨_,rfl⟩
 obtain ⟨fP,hfP⟩: ∃f:Nat->Bool,f=fun i => !decide (Rch P (opn V true) s (9+i)):=⟨_,rfl⟩
 rw [←hfN, ←hfP,eH]
 clear hH eH
 refine vLoop.count mo N (fun i z h'=> ∃(u:Heap) (j:Nat),Regs z [(3, .pointer (some ⟨h.length,0,none⟩)),(8,x),(9,y),(10, .slice (some ⟨H.length+j,0,none⟩) (nodesOf i fN).length 0),(11, .slice (some ⟨H.length+1,0,none⟩) 0 0),(12, .int .i64 ((i+1:Nat):Int))] ∧
  HeapIs h' (H++u)∧u[j]? = some ⟨(nodesOf i fN).map iv,1, .rw⟩∧u[1]? = some ⟨[],1, .rw⟩∧j≠1) ?_ ?_
 ·refine ⟨_,0,⟨rfl,rfl,rfl, ?_, ?_,rfl,trivial⟩, .rfl,rfl,rfl,by omega⟩
  ·rw [eL];rfl
  ·rw [eL];rfl
 ·rintro i z _ hi ⟨u,j,⟨e3,e8,e9,e10,e11,e12,_⟩,rfl,hj,h1,hj1⟩
  simp only [go_sem,e3,e8,e9,e10,e11,e12,gB]
  by_cases hlt:i<N
  ·have wi:=wsucc (i:=i+1) (N:=N+1) (by omega) (by omega)
   have hlen:=nodesOf_len (N:=i) (f:=fN)
   simp only [go_sem,e3,e8,e9,e10,e11,e12,gB,show ((i+1:Nat):Int)<=N by omega]
   refine ⟨by kernel_rfl,(c_l1Has _ S _ (qS.mono (List.prefix_append _ _)) (by omega)).use (fun _ m=>m) ?_⟩
   rintro _ _ ⟨rfl,rfl⟩
   rw [c1 (i+1) (by omega)]
   by_cases c:Rch P (opn V true) s (i+1)
   ·have hno:nodesOf (i+1) fN=nodesOf i fN:=by rw [nodesOf_succ,hfN];simp [c]
    simp only [go_sem,e3,e8,e9,e10,e11,e12,decb c]
    exact ⟨hlt,u,j,⟨e3,e8,e9,by rw [hno];exact e10,e11,congrArg _ wi,trivial⟩, .rfl,by rw [hno];exact hj,h1,hj1⟩
   ·have hyes:nodesOf (i+1) fN=nodesOf i fN++ [((i+1:Nat):Int)]:=by rw [nodesOf_succ,hfN];simp [c]
    have hjl:=(List.getElem?_eq_some_iff.1 hj).1
    have h1l:=(List.getElem?_eq_some_iff.1 h1).1
    simp only [go_sem,e3,e8,e9,e10,e11,e12,dect c,app_old hj,List.length_map,hown]
    refine ⟨by omega,by omega,hlt,_,u.length+1,⟨e3,e8,e9, ?_,e11,congrArg _ wi,trivial⟩, .rfl, ?_, ?_,by omega⟩
    ·rw [hyes,List.length_append];rfl
    ·exact (new_at (by simp)).trans (by simp [iv,hyes])
    ·rw [List.getElem?_append_left (by simp;omega),List.getElem?_set_ne (by omega)];exact app_old h1 _
  ·obtain rfl:i=N:=by omega
   simp only [go_sem,e3,e8,e9,e10,e11,e12,gB,show ¬(((i+1:Nat):Int)<=i) by omega]
   refine vLoop.count mo P.length (fun q z h'=> ∃(u:Heap) (j9:Nat),Regs z [(3, .pointer (some ⟨h.length,0,none⟩)),(9,y),(10, .slice (some ⟨H.length+j,0,none⟩) (nodesOf i fN).length 0),(11, .slice (some ⟨H.length+j9,0,none⟩) (plI q fP).length 0),(13, .int .i64 q)] ∧
    HeapIs h' (H++u)∧u[j]? = some ⟨(nodesOf i fN).map iv,1, .rw⟩∧u[j9]? = some ⟨(plI q fP).map iv,1, .rw⟩∧j≠j9) ?_ ?_
   ·exact ⟨u,1,⟨e3,e9,e10,e11,rfl,trivial⟩, .rfl,hj,h1,hj1⟩
   ·clear e3 e8 e9 e10 e11 e12 hj h1 hj1 hi hlt
    rintro q z _ hi ⟨u,j9,⟨e3,e9,e10,e11,e13,_⟩,rfl,hj,h9,hj9⟩
    simp only [go_sem,e3,e9,e10,e11,e13,gB]
    by_cases hlt:q<P.length
    ·have ws:=wsucc hlt (by omega)
     have hlen:=plI_len (n:=q) (f:=fP)
     simp only [go_sem,e3,e9,e10,e11,e13,gB,show ((q:Nat):Int)<P.length by omega]
     refine ⟨by kernel_rfl,(c_l1Has _ T _ (qT.mono (List.prefix_append _ _)) (by omega)).use (fun _ m=>m) ?_⟩
     rintro _ _ ⟨rfl,rfl⟩
     rw [c2 q (by omega)]
     by_cases c:Rch P (opn V true) s (9+q)
     ·have hno:plI (q+1) fP=plI q fP:=by rw [plI_succ,hfP];simp [c]
      simp only [go_sem,e3,e9,e10,e11,e13,decb c]
      exact ⟨hlt,u,j9,⟨e3,e9,e10,by rw [hno];exact e11,congrArg _ ws,trivial⟩, .rfl,hj,by rw [hno];exact h9,hj9⟩
     ·have hyes:plI (q+1) fP=plI q fP++ [(q:Int)]:=by rw [plI_succ,hfP];simp [c]
      have hjl:=(List.getElem?_eq_some_iff.1 hj).1
      have h9l:=(List.getElem?_eq_some_iff.1 h9).1
      simp only [go_sem,e3,e9,e10,e11,e13,dect c,app_old h9,List.length_map,hown]
      refine ⟨by omega,by omega,hlt,_,u.length+1,⟨e3,e9,e10, ?_,congrArg _ ws,trivial⟩, .rfl, ?_, ?_,by omega⟩
      ·rw [hyes,List.length_append];rfl
      ·rw [List.getElem?_append_left (by simp;omega),List.getElem?_set_ne (by omega)];exact app_old hj _
      ·exact (new_at (by simp)).trans (by simp [iv,hyes])
    ·obtain rfl:q=P.length:=by omega
     simp only [go_sem,e3,e9,e10,e11,e13,gB,show ¬((P.length:Int)<P.length) by omega]
     have hjl:=(List.getElem?_eq_some_iff.1 hj).1
     have h9l:=(List.getElem?_eq_some_iff.1 h9).1
     refine ⟨⟨_,_,rfl,FI.si (lo:=0) (hi:=(H++u).length) (FI.at (by omega) (by simp;omega) ?_) (Nat.le_refl _),FI.si (lo:=0) (hi:=(H++u).length) (FI.at (by omega) (by simp;omega) ?_) (Nat.le_refl _)⟩,hp.trans (List.prefix_append _ _)⟩
     ·rw [hget_app];exact hj
     ·rw [hget_app];exact h9
theorem c_sDryNodes {n:Nat} (v w:Value) (N:Int) (P:List Pip) (V:List Vlv) (s:Int) (hv:NA n h v N P) (sv:Sl h 4 w (V.map vlv)) (hP:P.length<=1048576) (hV:V.length<=1048576) :
  vCall [] Tryz.prog M 153 [v,w, .int .i64 s] h (fun r h'=>(∃x,r = .tuple #[x, .bool (decide (valOk N P V∧1<=s∧s<=N))]∧SI h' x (dryL N P V s))∧h<+:h'):=by
 obtain ⟨wp,rfl,sp⟩:=id hv
 refine body_of mo Tryz.func153 rfl (by kernel_rfl) (Nat.le_of_ble_eq_true (by kernel_rfl)) rfl ?_
 simp only [go_sem]
 refine ⟨by kernel_rfl,(c_l4Good _ _ N P V (hv.mono (by simp)) (sv.mono (by simp)) hP hV).use (fun _ m=>m) ?_⟩
 rintro _ _ ⟨rfl,⟨t,rfl⟩⟩
 by_cases h1:valOk N P V
 ·simp only [go_sem,decb h1]
  refine ⟨by kernel_rfl,(c_l2NodeN _ N P s (hv.mono (by simp)) hP).use (fun _ m=>m) ?_⟩
  rintro _ _ ⟨rfl,⟨t2,rfl⟩⟩
  by_cases h2:1<=s∧s<=N
  ·obtain ⟨N,rfl⟩: ∃N':Nat,N=N':=⟨N.toNat,by omega⟩
   have hN:N<=8:=by have:=h1.1.2.1;omega
   obtain ⟨s,rfl⟩: ∃s':Nat,s=s':=⟨s.toNat,by omega⟩
   have h3:netGood N P∧1<=(s:Int)∧(s:Int)<=N:=⟨h1.1,h2⟩
   simp only [go_sem,decb h1,decb h3]
   refine ⟨by kernel_rfl,(c_l4Dry _ _ N P V s (hv.mono (by simp)) (sv.mono (by simp)) h1.1 hV (by omega)).use (fun _ m=>m) ?_⟩
   rintro _ _ ⟨⟨x,y,rfl,qx,qy⟩,⟨t3,rfl⟩⟩
   simp only [go_sem,decb h1,decb h3]
   refine ⟨_,congrArg (fun b=>Value.tuple #[_,Value.bool b]) (decide_eq_true (p:=valOk N P V∧1<=(s:Int)∧(s:Int)<=N) ⟨h1,h2⟩).symm, ?_⟩
   rw [dryL,if_pos ⟨h1,h2⟩]
   simpa only [List.append_assoc,List.cons_append,Int.toNat_natCast] using qx
  ·have h3: ¬(netGood N P∧1<=s∧s<=N):=fun hh=>h2 hh.2
   simp only [go_sem,decb h1,dect h3]
   refine ⟨_,congrArg (fun b=>Value.tuple #[_,Value.bool b]) (decide_eq_false (fun hh:valOk N P V∧1<=s∧s<=N=>h2 hh.2)).symm, ?_⟩
   rw [dryL,if_neg (fun hh=>h2 hh.2)]
   exact ⟨_,rfl,fun h0=>absurd h0 (by simp)⟩
 ·simp only [go_sem,dect h1]
  refine ⟨_,congrArg (fun b=>Value.tuple #[_,Value.bool b]) (decide_eq_false (fun hh:valOk N P V∧1<=s∧s<=N=>h1 hh.1)).symm, ?_⟩
  rw [dryL,if_neg (fun hh=>h1 hh.1)]
  exact ⟨_,rfl,fun h0=>absurd h0 (by simp)⟩
theorem c_l4Ids {n:Nat} (v w:Value) (N:Nat) (P:List Pip) (T:List Int) (hv:NA n h v N P) (sT:SI h w T) (hT: ∀x∈T,0<=x∧x<P.length) (hP:P.length<=1048576) (hl:T.length<=1000) :
  vCall [] Tryz.prog M 200 [v,w] h (fun r h'=>h<+:h'):=by
 obtain ⟨wp,rfl,sP⟩:=id hv
 replace sP:Sl h 4 wp (P.map pip):=sP.1
 obtain ⟨a,rfl⟩:=Sl.len4 sP
 obtain ⟨b,rfl⟩:=AI.len sT
 refine body_of mo Tryz.func200 rfl (by kernel_rfl) (Nat.le_of_ble_eq_true (by kernel_rfl)) rfl ?_
 simp only [go_sem]
 refine vLoop.count mo T.length (fun i z h'=> ∃(u:Heap) (j:Nat) (X:List Int),Regs z [(1, .slice b T.length 0),(2, .pointer (some ⟨h.length,0,none⟩)),(5, .slice (some ⟨h.length+(j+1),0,none⟩) X.length 0),(6, .int .i64 i)] ∧
  HeapIs h' (h++(⟨[.int .i64 N, .slice a P.length 0],2, .rw⟩::u))∧u[j]? = some ⟨X.map iv,1, .rw⟩∧X.length<=i) ?_ ?_
 ·exact ⟨_,0,[],⟨rfl,rfl,rfl,rfl,trivial⟩, .rfl,rfl,Nat.le_refl _⟩
 ·rintro i z _ hi ⟨u,j,X,⟨e1,e2,e5,e6,_⟩,rfl,hj,hX⟩
  simp only [go_sem,e1,e2,e5,e6]
  by_cases hlt:i<T.length
  ·have hz:(i:Int)<T.length:=by omega
   have ws:=wsucc hlt (by omega)
   obtain ⟨id2,o2,K2,hv2,_,hK2,_,hd2,_,_,_,hcell⟩:=AI.at sT (by omega)
   obtain rfl:b=some ⟨id2,o2,none⟩:=by simpa using hv2
   obtain ⟨x1,x2⟩:=hT _ (List.getElem_mem hlt)
   obtain ⟨q,hq⟩: ∃q:Nat,T[i]=q:=⟨T[i].toNat,by omega⟩
   have hc:=hcell i hlt
   rw [hq] at x1 x2 hc
   have hqP:q<(P.map pip).length:=by simp;omega
   obtain ⟨id,o,k,hv',hk,_,hd,hb,hrow,hat⟩:=sP.at hqP
   obtain rfl:a=some ⟨id,o,none⟩:=by simpa using hv'
   have g0:=hat 0 (by omega)
   rw [List.getElem_map] at g0
   simp only [pip,List.getElem?_cons_zero,Nat.add_zero] at g0
   simp only [go_sem,e1,e2,e5,e6,hz,hK2,hd2,hc,x1,x2,hk,hd,g0,app_old hj,List.length_map]
   refine ⟨by omega,by omega,hlt,_,u.length+1,X++ [(P[q]'(by simpa using hqP)).1],⟨e1,e2, ?_,congrArg _ ws,trivial⟩, .rfl, ?_,by simp;omega⟩
   ·rw [List.length_append];rfl
   ·exact (new_at (by simp)).trans (by simp [iv])
  ·obtain rfl:i=T.length:=by omega
   simp only [go_sem,e1,e2,e5,e6,show ¬((T.length:Int)<T.length) by omega]
theorem c_segLists {n:Nat} (v w vS vT:Value) (N:Nat) (P:List Pip) (V:List Vlv) (k:Nat) (hv:NA n h v N P) (sv:Sl h 4 w (V.map vlv)) (g:netGood N P) (hV:V.length<=1048576) (hk:k<P.length)
  (sS:SI h vS []) (sT:SI h vT [(k:Int)]) :
  vCall [] Tryz.prog M 199 [v,w, .bool false,vS,vT] h (fun r h'=>(∃x y,r = .tuple #[x,y]∧SI h' x (nodesOf N (fun j=>decide (Rch P (opn V false) (9+k) j)))∧SI h' y (plI P.length (fun i=>decide (Rch P (opn V false) (9+k) (9+i)))))∧h<+:h'):=by
 have hN:N<=8:=by have:=g.2.1;omega
 have hP:P.length<=10:=g.2.2
 refine (c_l4Spread _ w _ _ N P V false (9+k) ((List.replicate 19 false).set (9+k) true) [] [(k:Int)] hv sv g hV sS sT (Rep.pipe (by omega)) (Mks.init (by omega))).use (fun _ m=>m) ?_
 rintro _ _ ⟨⟨e,S,T,x,y,rfl,qS,qT,rp,he⟩,hp⟩
 have bound: ∀ {x:Nat},Rch P (opn V false) (9+k) x->(1<=x∧x<=N)∨(9<=x∧x<9+P.length):=by
  intro x r
  induction r with
  | here=>exact .inr ⟨by omega,by omega⟩
  | step _ l _=>
   obtain ⟨i,hi,nd,hnd,_,⟨_,rfl⟩|⟨_,rfl⟩⟩:=l
   ·exact .inr ⟨by omega,by omega⟩
   ·have:=g.ends _ (List.getElem_mem hi)
    rcases hnd with rfl|rfl
    ·exact .inl (by omega)
    ·exact .inl (by omega)
 have eS:S=nodesOf N (fun j=>decide (Rch P (opn V false) (9+k) j)):=by
  refine rising_ext rp.sS nodesOf_rising fun z => ?_
  rw [rp.mS,nodesOf_mem]
  constructor
  ·rintro ⟨a,b,c⟩
   have hr:=(he _).1 c
   have:=bound hr
   exact ⟨by omega,by omega,decide_eq_true hr⟩
  ·rintro ⟨a,b,c⟩
   exact ⟨by omega,by omega,(he _).2 (of_decide_eq_true c)⟩
 have eT:T=plI P.length (fun i=>decide (Rch P (opn V false) (9+k) (9+i))):=by
  refine rising_ext rp.sT plI_rising fun z => ?_
  rw [rp.mT,plI_mem]
  constructor
  ·rintro ⟨a,b,c⟩
   have hr:=(he _).1 c
   have:=bound hr
   exact ⟨by omega,by omega,decide_eq_true hr⟩
  ·rintro ⟨a,b,c⟩
   exact ⟨by omega,by omega,(he _).2 (of_decide_eq_true c)⟩
 exact ⟨⟨x,y,rfl,by rw [←eS];exact qS,by rw [←eT];exact qT⟩,hp⟩
theorem c_sSegmentOfPipe {n:Nat} (v w:Value) (N:Int) (P:List Pip) (V:List Vlv) (pi:Int) (hv:NA n h v N P) (sv:Sl h 4 w (V.map vlv)) (hP:P.length<=1048576) (hV:V.length<=1048576) :
  vCall [] Tryz.prog M 156 [v,w, .int .i64 pi] h (fun r h'=>(∃x y,r = .tuple #[x,y, .bool (decide (valOk N P V∧0<=pidx P pi))]∧SI h' x (segL N P V pi))∧h<+:h'):=by
 obtain ⟨wp,rfl,sp⟩:=id hv
 refine body_of mo Tryz.func156 rfl (by kernel_rfl) (Nat.le_of_ble_eq_true (by kernel_rfl)) rfl ?_
 simp only [go_sem]
 refine ⟨by kernel_rfl,(c_l2Find _ N P pi (hv.mono (by simp)) hP).use (fun _ m=>m) ?_⟩
 rintro _ _ ⟨rfl,⟨t,rfl⟩⟩
 simp only [go_sem]
 refine ⟨by kernel_rfl,(c_l4Good _ _ N P V (hv.mono (by simp)) (sv.mono (by simp)) hP hV).use (fun _ m=>m) ?_⟩
 rintro _ _ ⟨rfl,⟨t2,rfl⟩⟩
 by_cases h1:valOk N P V
 ·by_cases h2:pidx P pi<0
  ·simp only [go_sem,decb h1,decb h2]
   refine ⟨_,_,congrArg (fun b=>Value.tuple #[_,_,Value.bool b]) (decide_eq_false (fun hh:valOk N P V∧0<=pidx P pi=>by omega)).symm, ?_⟩
   rw [segL,if_neg (by omega)]
   exact ⟨_,rfl,fun h0=>absurd h0 (by simp)⟩
  ·have hN:1<=N∧N<=8:=h1.1.2.1
   have hP10:=h1.1.2.2
   have hk:=pidx_lt (P:=P) (id:=pi) (by omega)
   obtain ⟨k,hk2⟩: ∃k:Nat,pidx P pi=k:=⟨(pidx P pi).toNat,by omega⟩
   obtain ⟨N,rfl⟩: ∃N':Nat,N=N':=⟨N.toNat,by omega⟩
   rw [hk2] at hk h2 ⊢
   simp only [go_sem,decb h1,dect h2]
   refine ⟨by kernel_rfl,(c_segLists _ _ _ _ N P V k (hv.mono (by simp)) (sv.mono (by simp)) h1.1 hV (by omega) ?_ ?_).use (fun _ m=>m) ?_⟩
   ·exact ⟨_,rfl,fun h0=>absurd h0 (by simp)⟩
   ·refine FI.si (lo:=0) (hi:=(h++_).length) (FI.at' rfl (by omega) (by simp) ?_) (Nat.le_refl _)
    simp only [go_sem]
    rfl
   rintro _ _ ⟨⟨x,y,rfl,qx,qy⟩,⟨t3,rfl⟩⟩
   try simp only [List.append_assoc,List.cons_append,List.nil_append] at qx qy
   simp only [go_sem,decb h1,dect h2]
   refine ⟨by kernel_rfl,(c_l4Ids _ _ N P _ (hv.mono (by simp)) qy (fun x hx=>by have:=plI_mem.1 hx;omega) (by omega) (Nat.le_trans plI_len (by omega))).use (fun _ m=>m) ?_⟩
   rintro v' _ ⟨t4,rfl⟩
   simp only [go_sem]
   refine ⟨_,_,rfl, ?_⟩
   have e2:segL N P V pi=nodesOf N (fun j=>decide (Rch P (opn V false) (9+k) j)):=by
    rw [segL,if_pos ⟨h1,by omega⟩,hk2];rfl
   rw [e2]
   exact SI.mono qx (by simp)
 ·simp only [go_sem,dect h1]
  refine ⟨_,_,congrArg (fun b=>Value.tuple #[_,_,Value.bool b]) (decide_eq_false (fun hh:valOk N P V∧0<=pidx P pi=>h1 hh.1)).symm, ?_⟩
  rw [segL,if_neg (fun hh=>h1 hh.1)]
  exact ⟨_,rfl,fun h0=>absurd h0 (by simp)⟩
theorem c_l4Around {n:Nat} (v w vS vT:Value) (N:Nat) (P:List Pip) (V:List Vlv) (st:Nat) (hv:NA n h v N P) (sv:Sl h 4 w (V.map vlv)) (g:valOk N P V)
  (sS:SI h vS (nodesOf N (fun j=>decide (Rch P (opn V false) st j)))) (sT:SI h vT (plI P.length (fun i=>decide (Rch P (opn V false) st (9+i))))) :
  vCall [] Tryz.prog M 201 [v,w,vS,vT] h (fun r h'=>FI h.length h'.length h' r (arI P V st V.length)∧h<+:h'):=by
 obtain ⟨wp,rfl,sP⟩:=id hv
 obtain ⟨a,ew,_,_⟩:=id sv
 rw [List.length_map] at ew
 subst ew
 have hN:1<=(N:Int)∧(N:Int)<=8:=g.1.2.1
 have hP:P.length<=10:=g.1.2.2
 have hV10:=g.2.1
 have lS:=nodesOf_len (N:=N) (f:=fun j=>decide (Rch P (opn V false) st j))
 have lT:=plI_len (n:=P.length) (f:=fun i=>decide (Rch P (opn V false) st (9+i)))
 refine body_of mo Tryz.func201 rfl (by kernel_rfl) (Nat.le_of_ble_eq_true (by kernel_rfl)) rfl ?_
 simp only [go_sem]
 refine vLoop.count mo V.length (fun i x h'=> ∃(u:Heap) (v9:Value),Regs x [(1, .slice a V.length 0),(2,vS),(3,vT),(4, .pointer (some ⟨h.length,0,none⟩)),(9,v9),(10, .int .i64 i)] ∧
  HeapIs h' (h++(⟨[.int .i64 N,wp],2, .rw⟩::u))∧OF h.length 1 u v9 (arI P V st i)) ?_ ?_
 ·exact ⟨_,_,⟨rfl,rfl,rfl,rfl,rfl,rfl,trivial⟩, .rfl, .mk' 0 rfl rfl rfl⟩
 ·rintro i x _ hi ⟨u,v9,⟨e1,e2,e3,e4,e9,e10,_⟩,rfl,oi⟩
  obtain ⟨j,rfl,hj⟩:=id oi
  simp only [go_sem,e1,e2,e3,e4,e9,e10]
  by_cases hlt:i<V.length
  ·have hlt':i<(V.map vlv).length:=by simpa using hlt
   have hz:(i:Int)<V.length:=by omega
   have ws:=wsucc hlt (by omega)
   obtain ⟨id2,o,K,hvv,hK,_,hd,hb,hrow,hat⟩:=sv.at hlt'
   obtain rfl:a=some ⟨id2,o,none⟩:=by simpa using hvv
   have g1:=hat 1 (by omega)
   have g2:=hat 2 (by omega)
   rw [List.getElem_map] at g1 g2
   simp only [vlv,List.getElem?_cons_zero,List.getElem?_cons_succ] at g1 g2
   obtain ⟨hn1,hp0,hpk⟩:=g.at hlt
   obtain ⟨q,hq⟩: ∃q:Nat,pidx P V[i].2.1=q:=⟨(pidx P V[i].2.1).toNat,by omega⟩
   have hlen:=arI_len (P:=P) (V:=V) (st:=st) (n:=i)
   simp only [go_sem,e1,e2,e3,e4,e9,e10,hz,hK,hd,g1,g2]
   refine ⟨by kernel_rfl,(c_l1Has _ _ _ (sS.mono (by simp)) (by omega)).use (fun _ m=>m) ?_⟩
   rintro _ _ ⟨rfl,rfl⟩
   simp only [go_sem,e1,e2,e3,e4,e9,e10,hz,hK,hd,g1,g2]
   refine ⟨by kernel_rfl,(c_l2Find _ N P _ (hv.mono (by simp)) (by omega)).use (fun _ m=>m) ?_⟩
   rintro _ _ ⟨rfl,⟨t2,rfl⟩⟩
   rw [hq]
   try simp only [go_sem]
   refine ⟨by kernel_rfl,(c_l1Has _ _ _ (sT.mono (by simp)) (by omega)).use (fun _ m=>m) ?_⟩
   rintro _ _ ⟨rfl,rfl⟩
   have d1:decide (V[i].2.2.1∈nodesOf N (fun j=>decide (Rch P (opn V false) st j)))=decide (Rch P (opn V false) st V[i].2.2.1.toNat):=by
    refine decide_eq_decide.2 (nodesOf_mem.trans ⟨fun hh=>of_decide_eq_true hh.2.2,fun hh=>⟨by omega,by omega,decide_eq_true hh⟩⟩)
   have d2:decide ((q:Int)∈plI P.length (fun i=>decide (Rch P (opn V false) st (9+i))))=decide (Rch P (opn V false) st (9+q)):=by
    refine decide_eq_decide.2 (plI_mem.trans ⟨fun hh=>of_decide_eq_true hh.2.2,fun hh=>⟨by omega,by omega,decide_eq_true hh⟩⟩)
   have hcut:cutV P V st i=(decide (Rch P (opn V false) st V[i].2.2.1.toNat) != decide (Rch P (opn V false) st (9+q))):=by
    rw [cutV,getDv hlt,hq];rfl
   rw [d1,d2]
   cases c:(decide (Rch P (opn V false) st V[i].2.2.1.toNat) != decide (Rch P (opn V false) st (9+q))) with
   | false=>
    have hno:arI P V st (i+1)=arI P V st i:=by rw [arI_succ,hcut,c];simp
    simp only [go_sem,e1,e2,e3,e4,e9,e10,Tryz.underlying4,c]
    exact ⟨hlt,_,_,⟨e1,e2,e3,e4,e9,congrArg _ ws,trivial⟩, .rfl,by rw [hno];exact oi.mono _⟩
   | true=>
    have hyes:arI P V st (i+1)=arI P V st i++ [(i:Int)]:=by rw [arI_succ,hcut,c];rfl
    simp only [go_sem,e1,e2,e3,e4,e9,e10,Tryz.underlying4,c,app_old hj,List.length_map]
    refine ⟨by omega,by omega,hlt,_,_,⟨e1,e2,e3,e4,rfl,congrArg _ ws,trivial⟩, .rfl,(.mk' (u.length+t2.length+1) ?_ (by rw [hyes];simp) ?_)⟩
    ·simp;try omega
    ·exact (new_at (by simp;try omega)).trans (by simp [iv,hyes])
  ·obtain rfl:i=V.length:=by omega
   simp only [go_sem,e1,e2,e3,e4,e9,e10,show ¬((V.length:Int)<V.length) by omega]
   exact OF.fix [_] oi rfl (by omega) (by omega)
theorem c_sValvesAround {n:Nat} (v w:Value) (N:Int) (P:List Pip) (V:List Vlv) (pi:Int) (hv:NA n h v N P) (sv:Sl h 4 w (V.map vlv)) (hP:P.length<=1048576) (hV:V.length<=1048576) :
  vCall [] Tryz.prog M 157 [v,w, .int .i64 pi] h (fun r h'=>(∃x,r = .tuple #[x, .bool (decide (valOk N P V∧0<=pidx P pi))]∧SI h' x (arndL N P V pi))∧h<+:h'):=by
 obtain ⟨wp,rfl,sp⟩:=id hv
 obtain ⟨a,ew,_,_⟩:=id sv
 rw [List.length_map] at ew
 subst ew
 refine body_of mo Tryz.func157 rfl (by kernel_rfl) (Nat.le_of_ble_eq_true (by kernel_rfl)) rfl ?_
 simp only [go_sem]
 refine ⟨by kernel_rfl,(c_l2Find _ N P pi (hv.mono (by simp)) hP).use (fun _ m=>m) ?_⟩
 rintro _ _ ⟨rfl,⟨t,rfl⟩⟩
 simp only [go_sem]
 refine ⟨by kernel_rfl,(c_l4Good _ _ N P V (hv.mono (by simp)) (sv.mono (by simp)) hP hV).use (fun _ m=>m) ?_⟩
 rintro _ _ ⟨rfl,⟨t2,rfl⟩⟩
 by_cases h1:valOk N P V
 ·by_cases h2:pidx P pi<0
  ·simp only [go_sem,decb h1,decb h2]
   refine ⟨_,congrArg (fun b=>Value.tuple #[_,Value.bool b]) (decide_eq_false (fun hh:valOk N P V∧0<=pidx P pi=>by omega)).symm, ?_⟩
   rw [arndL,if_neg (by omega)]
   exact ⟨_,rfl,fun h0=>absurd h0 (by simp)⟩
  ·have hN:1<=N∧N<=8:=h1.1.2.1
   have hP10:=h1.1.2.2
   have hV10:=h1.2.1
   have hk:=pidx_lt (P:=P) (id:=pi) (by omega)
   obtain ⟨k,hk2⟩: ∃k:Nat,pidx P pi=k:=⟨(pidx P pi).toNat,by omega⟩
   obtain ⟨N,rfl⟩: ∃N':Nat,N=N':=⟨N.toNat,by omega⟩
   simp only [go_sem,decb h1,dect h2]
   rw [hk2] at hk ⊢
   refine ⟨by kernel_rfl,(c_segLists _ _ _ _ N P V k (hv.mono (by simp)) (sv.mono (by simp)) h1.1 hV (by omega) ?_ ?_).use (fun _ m=>m) ?_⟩
   ·exact ⟨_,rfl,fun h0=>absurd h0 (by simp)⟩
   ·refine FI.si (lo:=0) (hi:=(h++_).length) (FI.at' rfl (by omega) (by simp) ?_) (Nat.le_refl _)
    simp only [go_sem]
    rfl
   rintro _ _ ⟨⟨x,y,rfl,qx,qy⟩,⟨t3,rfl⟩⟩
   try simp only [List.append_assoc,List.cons_append,List.nil_append] at qx qy
   simp only [go_sem]
   refine ⟨by kernel_rfl,(c_l4Around _ _ _ _ N P V (9+k) (hv.mono (by simp)) (sv.mono (by simp)) h1 qx qy).use (fun _ m=>m) ?_⟩
   rintro vl _ ⟨fi,⟨t4,rfl⟩⟩
   try simp only [List.append_assoc,List.cons_append,List.nil_append] at fi
   obtain ⟨L,hL⟩: ∃L,L=arI P V (9+k) V.length:=⟨_,rfl⟩
   have hin:=arI_in (P:=P) (V:=V) (st:=9+k) (n:=V.length)
   have hll:=arI_len (P:=P) (V:=V) (st:=9+k) (n:=V.length)
   have eA:arndL N P V pi=L.map fun i=>(V.getD i.toNat vlv0).1:=by rw [arndL,if_pos ⟨h1,by omega⟩,hL,hk2];rfl
   rw [←hL] at fi hin hll
   obtain ⟨b,rfl,hb0⟩:=id fi
   obtain ⟨W,hW⟩: ∃W:Heap,W=t++(t2++⟨[],1, .rw⟩::⟨[.int .i64 k],1, .rw⟩::(t3++t4)):=⟨_,rfl⟩
   rw [←hW] at hb0
   simp only [go_sem]
   rw [←hW]
   obtain ⟨H,hH⟩: ∃H:Heap,H=h++ [⟨[.int .i64 N,wp],2, .rw⟩]:=⟨_,rfl⟩
   have hp:h<+:H:=by rw [hH];exact List.prefix_append _ _
   have hHl:=hp.length_le
   have eH:h++⟨[.int .i64 N,wp],2, .rw⟩::⟨[],1, .rw⟩::W=H++⟨[],1, .rw⟩::W:=by rw [hH];simp
   have eL:H.length=h.length+1:=by rw [hH];simp
   have hown: ∀k,own h.length M (H.length+k):=fun k=>Or.inl (by omega)
   obtain ⟨jd,hjd⟩: ∃jd,0<L.length->b=some ⟨H.length+jd,0,none⟩∧((⟨[],1, .rw⟩::W:List Blk))[jd]? = some ⟨L.map iv,1, .rw⟩∧0≠jd:=by
    by_cases h0:0<L.length
    ·obtain ⟨id,e1,e2,e3,e4⟩:=hb0 h0
     simp only [List.length_append,List.length_cons,List.length_nil] at e2
     refine ⟨id-H.length,fun _=>⟨?_, ?_, ?_⟩⟩
     ·rw [e1,show H.length+(id-H.length)=id by omega]
     ·have e5:hget (H++⟨[],1, .rw⟩::W) (H.length+(id-H.length))=some ⟨L.map iv,1, .rw⟩:=by
       rw [show H.length+(id-H.length)=id by omega,hH]
       simpa using e4
      rwa [hget_app] at e5
     ·omega
    ·exact ⟨0,fun h=>absurd h h0⟩
   rw [eH]
   refine vLoop.count mo L.length (fun i x h'=> ∃(u:Heap) (v8:Value) (j:Nat),Regs x [(1, .slice a V.length 0),(8,v8),(12, .slice b L.length 0),(13, .int .i64 i)] ∧
    HeapIs h' (H++u)∧(v8 = .slice (some ⟨H.length+j,0,none⟩) i 0∧u[j]? = some ⟨((L.take i).map fun i=>(V.getD i.toNat vlv0).1).map iv,1, .rw⟩)∧(0<L.length->u[jd]? = some ⟨L.map iv,1, .rw⟩∧j≠jd)) ?_ ?_
   ·refine ⟨_,_,0,⟨rfl,rfl,rfl,rfl,trivial⟩, .rfl,⟨?_,rfl⟩,fun h0=>(hjd h0).2⟩
    rw [eL];rfl
   ·clear hb0 fi
    rintro i x _ hi ⟨u,v8,j,⟨e1,e8,e12,e13,_⟩,rfl,⟨rfl,hj⟩,hu⟩
    simp only [go_sem,e1,e8,e12,e13]
    by_cases hlt:i<L.length
    ·have hz:(i:Int)<L.length:=by omega
     have ws:=wsucc hlt (by omega)
     obtain ⟨hu1,hju⟩:=hu (by omega)
     obtain ⟨hb1,_⟩:=hjd (by omega)
     subst hb1
     obtain ⟨x1,x2⟩:=hin _ (List.getElem_mem hlt)
     obtain ⟨q,hq⟩: ∃q:Nat,L[i]=q:=⟨L[i].toNat,by omega⟩
     rw [hq] at x1 x2
     have hqV:q<V.length:=by omega
     have hqV':q<(V.map vlv).length:=by simpa using hqV
     obtain ⟨id2,o,K,hvv,hK,_,hd,hb,hrow,hat⟩:=(sv.mono hp).at hqV'
     obtain rfl:a=some ⟨id2,o,none⟩:=by simpa using hvv
     have g0:=hat 0 (by omega)
     rw [List.getElem_map] at g0
     simp only [vlv,List.getElem?_cons_zero,Nat.add_zero] at g0
     have hc:(L.map iv)[i]? = some (.int .i64 q):=by
      rw [List.getElem?_map,List.getElem?_eq_getElem hlt,hq];rfl
     have htk:(L.take (i+1)).map (fun i=>(V.getD i.toNat vlv0).1)=(L.take i).map (fun i=>(V.getD i.toNat vlv0).1)++ [V[q].1]:=by
      rw [List.take_succ_eq_append_getElem hlt,List.map_append,hq]
      simp only [List.map_cons,List.map_nil,Int.toNat_natCast,getDv hqV]
     have hjl:=(List.getElem?_eq_some_iff.1 hj).1
     have hul:=(List.getElem?_eq_some_iff.1 hu1).1
     have htl:((L.take i).map fun i=>(V.getD i.toNat vlv0).1).length=i:=by rw [List.length_map,List.length_take];omega
     obtain ⟨X,hX⟩: ∃X,X=(L.take i).map fun i=>(V.getD i.toNat vlv0).1:=⟨_,rfl⟩
     rw [←hX] at hj htl htk
     simp only [go_sem,e1,e8,e12,e13,hz,hu1,hc,hK,hd,g0,x1,x2,hown,app_old hj,List.length_map,htl]
     refine ⟨by omega,by omega,hlt,_,_,u.length+1,⟨e1,rfl,e12,congrArg _ ws,trivial⟩, .rfl,⟨?_, ?_⟩,fun _=>⟨?_,by omega⟩⟩
     ·rfl
     ·rw [htk]
      exact (new_at (by simp)).trans (by simp [iv])
     ·rw [List.getElem?_append_left (by simp;omega),List.getElem?_set_ne (by omega)];exact app_old hu1 _
    ·obtain rfl:i=L.length:=by omega
     simp only [go_sem,e1,e8,e12,e13,show ¬((L.length:Int)<L.length) by omega]
     rw [List.take_length] at hj
     have hjl:=(List.getElem?_eq_some_iff.1 hj).1
     refine ⟨⟨_,congrArg (fun b=>Value.tuple #[_,Value.bool b]) (decide_eq_true (p:=valOk N P V) h1).symm, ?_⟩,hp.trans (List.prefix_append _ _)⟩
     rw [eA]
     refine FI.si (lo:=0) (hi:=(H++u).length) (FI.at' (by rw [List.length_map]) (by omega) (by simp;omega) ?_) (Nat.le_refl _)
     rw [hget_app]
     exact hj
 ·simp only [go_sem,dect h1]
  refine ⟨_,congrArg (fun b=>Value.tuple #[_,Value.bool b]) (decide_eq_false (fun hh:valOk N P V∧0<=pidx P pi=>h1 hh.1)).symm, ?_⟩
  rw [arndL,if_neg (fun hh=>h1 hh.1)]
  exact ⟨_,rfl,fun h0=>absurd h0 (by simp)⟩
end
end Go.Proofs.YtedidddimikjhaaGreatDoor
