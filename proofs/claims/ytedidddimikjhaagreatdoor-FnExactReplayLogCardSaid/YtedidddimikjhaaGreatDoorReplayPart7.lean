/- Texts of this claim, joined. No condition. -/
import Derived.Test.YtedidddimikjhaaGreatDoorReplayPart6
import Derived.Test.YtedidddimikjhaaGreatDoorReplayPart5
import Derived.Test.YtedidddimikjhaaGreatDoorReplayPart4
set_option linter.unusedSimpArgs false
set_option linter.unusedVariables false
namespace Go.Proofs.YtedidddimikjhaaGreatDoor
open Go.HH Go.Proofs
def isBri (N:Nat) (P:List Pip) (p:Pip):Bool := !ball (but P p.1) p.2.1 N p.2.2.1
def briL (N:Nat) (P Q:List Pip):List Int:=(Q.filter (isBri N P)).map fun p=>p.1
theorem briL_take {N:Nat} {P:List Pip} {i:Nat} (hi:i<P.length):briL N P (P.take (i+1))=briL N P (P.take i)++if isBri N P P[i] then [P[i].1] else []:=by
 unfold briL
 rw [List.take_succ_eq_append_getElem hi,List.filter_append,List.map_append]
 cases h:isBri N P P[i]<;>simp [h]
theorem briL_len {N:Nat} {P Q:List Pip}:(briL N P Q).length<=Q.length:=by
 unfold briL
 rw [List.length_map]
 exact List.length_filter_le _ _
noncomputable def briR (N:Int) (P:List Pip):List Int:=if netGood N P then briL N.toNat P P else []
theorem Bfs.neg {P:List Pip} {s:Int} {N:Nat} {D:List Int} (he:ends N P) (hs:1<=s∧s<=N) (b:Bfs P s N D []) {v:Int} (h1:1<=v) (h2:v<=N):dv D v<0↔ball P s N v=false:=by
 constructor
 ·intro h
  cases hb:ball P s N v
  ·rfl
  ·have:=(b.fin he hs h1 h2 N).2 hb;omega
 ·intro h
  by_cases h3:dv D v<0
  ·exact h3
  ·have:=(b.fin he hs h1 h2 (dv D v).toNat).1 ⟨by omega,by omega⟩
   rw [ball_stop he hs this] at h;cases h
def lackN (S:List Int):Nat:=(List.range 9).countP fun v:Nat => !decide ((v:Int)∈S)
theorem lackN_lt {S T:List Int} (hs: ∀x,x∈S->x∈T) {x:Int} (h0:0<=x∧x<=8) (h1:x∈T) (h2:x∉S):lackN T<lackN S:=by
 refine countP_lt (fun v _ hv => ?_) ⟨x.toNat,List.mem_range.2 (by omega), ?_, ?_⟩
 ·simp only [Bool.not_eq_true',decide_eq_false_iff_not] at hv ⊢
  exact fun hh=>hv (hs _ hh)
 ·rw [show ((x.toNat:Nat):Int)=x by omega];simp [h2]
 ·rw [show ((x.toNat:Nat):Int)=x by omega];simp [h1]
structure Fnd (P:List Pip) (s:Int) (N:Nat) (S:List Int):Prop where
 sS:S.Pairwise (· < ·)
 has:s∈S
 ok: ∀v,v∈S->ball P s N v=true
 ln:S.length+2*lackN S<=20
def evenP (P:List Pip) (S:List Int) (i:Nat):Prop:= ∀(j:Nat) (hj:j<P.length),j<i->(P[j].2.1∈S↔P[j].2.2.1∈S)
theorem Fnd.init {P:List Pip} {s:Int} {N:Nat}:Fnd P s N [s]:=by
 refine ⟨by simp,by simp,fun v hv => ?_, ?_⟩
 ·rw [List.mem_singleton.1 hv]
  exact ball_mono (Nat.zero_le _) (ball_zero.2 rfl)
 ·have:=List.countP_le_length (p:=fun v:Nat => !decide ((v:Int)∈ [s])) (l:=List.range 9)
  simp only [List.length_range] at this
  simp only [lackN,List.length_cons,List.length_nil]
  omega
theorem Fnd.put {P:List Pip} {s:Int} {N:Nat} {S:List Int} (he:ends N P) (hN:N<=8) (hs:1<=s∧s<=N) (f:Fnd P s N S) {i:Nat} (hi:i<P.length) (hne: ¬(P[i].2.1∈S↔P[i].2.2.1∈S)) :
  Fnd P s N (putL (putL S P[i].2.1) P[i].2.2.1)∧lackN (putL (putL S P[i].2.1) P[i].2.2.1)<lackN S:=by
 have hp:=he _ (List.getElem_mem hi)
 have lt:lackN (putL (putL S P[i].2.1) P[i].2.2.1)<lackN S:=by
  by_cases h1:P[i].2.1∈S
  ·exact lackN_lt (fun x hx=>mem_putL.2 (.inr (mem_putL.2 (.inr hx)))) (x:=P[i].2.2.1) (by omega) (mem_putL.2 (.inl rfl)) (fun h2=>hne ⟨fun _=>h2,fun _=>h1⟩)
  ·exact lackN_lt (fun x hx=>mem_putL.2 (.inr (mem_putL.2 (.inr hx)))) (x:=P[i].2.1) (by omega) (mem_putL.2 (.inr (mem_putL.2 (.inl rfl)))) h1
 have a1:=putL_len (l:=S) (x:=P[i].2.1)
 have a2:=putL_len (l:=putL S P[i].2.1) (x:=P[i].2.2.1)
 have adj1:adj P P[i].2.1 P[i].2.2.1:=⟨_,List.getElem_mem hi, .inl ⟨rfl,rfl⟩⟩
 have nxt: ∀ {a b:Int},ball P s N a=true->adj P a b->ball P s N b=true:=fun ha hab=>ball_stop he hs (k:=N+1) (ball_succ.2 (.inr ⟨_,ha,hab⟩))
 refine ⟨⟨putL_sorted (putL_sorted f.sS),mem_putL.2 (.inr (mem_putL.2 (.inr f.has))),fun v hv => ?_,by have:=f.ln;omega⟩,lt⟩
 by_cases h1:P[i].2.1∈S
 ·rcases mem_putL.1 hv with rfl|hv
  ·exact nxt (f.ok _ h1) adj1
  ·rcases mem_putL.1 hv with rfl|hv
   ·exact f.ok _ h1
   ·exact f.ok _ hv
 ·have h2:P[i].2.2.1∈S:=by
   by_cases h2:P[i].2.2.1∈S
   ·exact h2
   ·exact absurd ⟨fun hh=>absurd hh h1,fun hh=>absurd hh h2⟩ hne
  rcases mem_putL.1 hv with rfl|hv
  ·exact f.ok _ h2
  ·rcases mem_putL.1 hv with rfl|hv
   ·exact nxt (f.ok _ h2) adj1.symm
   ·exact f.ok _ hv
theorem Fnd.done {P:List Pip} {s:Int} {N:Nat} {S:List Int} (f:Fnd P s N S) (c:evenP P S P.length) (v:Int):v∈S↔ball P s N v=true:=by
 refine ⟨f.ok v,fun hb => ?_⟩
 have key: ∀k v,ball P s k v=true->v∈S:=by
  intro k
  induction k with
  | zero=>intro v hv;rw [ball_zero.1 hv];exact f.has
  | succ k ih=>
   intro v hv
   rcases ball_succ.1 hv with h1|⟨a,h1,p,hp,h2⟩
   ·exact ih v h1
   ·obtain ⟨j,hj,rfl⟩:=List.mem_iff_getElem.1 hp
    have hc:=c j hj hj
    rcases h2 with ⟨rfl,rfl⟩|⟨rfl,rfl⟩
    ·exact hc.1 (ih _ h1)
    ·exact hc.2 (ih _ h1)
 exact key N v hb
section
variable {h : Heap} {M : Nat → Prop}
theorem c_BridgePipes {n:Nat} (v:Value) (N:Int) (P:List Pip) (hv:NA n h v N P) (hP:P.length<=1048576) :
  vCall [] Tryz.prog M 146 [v] h (fun r h'=>(∃x,r = .tuple #[x, .bool (decide (netGood N P))]∧SI h' x (briR N P))∧h<+:h'):=by
 obtain ⟨wp,rfl,sP0⟩:=id hv
 have sP:Sl h 4 wp (P.map pip):=sP0.1
 obtain ⟨a,rfl⟩:=Sl.len4 sP
 refine body_of mo Tryz.func146 rfl (by kernel_rfl) (Nat.le_of_ble_eq_true (by kernel_rfl)) rfl ?_
 simp only [go_sem]
 refine ⟨by kernel_rfl,(c_IsValidNetwork _ N P (hv.mono (by simp)) hP).use (fun _ m=>m) ?_⟩
 rintro _ _ ⟨rfl,⟨t0,rfl⟩⟩
 by_cases h1:netGood N P
 ·have hN:1<=N∧N<=8:=h1.2.1
  have hP10:P.length<=10:=h1.2.2
  obtain ⟨N,rfl⟩: ∃N':Nat,N=N':=⟨N.toNat,by omega⟩
  have he:=h1.ends
  simp only [go_sem,decb h1]
  refine vLoop.count mo P.length (fun i e h'=> ∃(t:Heap) (v4:Value),Regs e [(1, .pointer (some ⟨h.length,0,none⟩)),(4,v4),(12, .slice a P.length 0),(13, .int .i64 P.length),(14, .int .i64 i)] ∧
   HeapIs h' (h++(⟨[.int .i64 N, .slice a P.length 0],2, .rw⟩::t))∧OF h.length 1 t v4 (briL N P (P.take i))) ?_ ?_
  ·refine ⟨_,_,⟨rfl,rfl,rfl,rfl,rfl,trivial⟩, .rfl, .mk' t0.length ?_ rfl ?_⟩
   ·simp
   ·rw [List.getElem?_append_right (by omega),Nat.sub_self];rfl
  ·rintro i e _ hi ⟨t,v4,⟨e1,e4,e12,e13,e14,_⟩,rfl,oi⟩
   obtain ⟨j,rfl,hj⟩:=id oi
   simp only [go_sem,e1,e4,e12,e13,e14]
   by_cases hlt:i<P.length
   ·have hlt':i<(P.map pip).length:=by simpa using hlt
    have hz:(i:Int)<P.length:=by omega
    have ws:=wsucc hlt (by omega)
    obtain ⟨id2,o,k,hv',hk,_,hd,hb,hrow,hat⟩:=sP.at hlt'
    obtain rfl:a=some ⟨id2,o,none⟩:=by simpa using hv'
    rw [List.getElem_map] at hrow
    simp only [pip] at hrow
    have hpi:=he _ (List.getElem_mem hlt)
    have hlen:=briL_len (N:=N) (P:=P) (Q:=P.take i)
    have htl:(P.take i).length<=i:=by rw [List.length_take];omega
    have htk:=briL_take (N:=N) hlt
    simp only [go_sem,e1,e4,e12,e13,e14,hz,hk,hd,hb,hrow]
    refine ⟨by kernel_rfl,(c_distances _ N P P[i].2.1 P[i].1 (hv.mono (by simp)) h1 hpi.1).use (fun _ m=>m) ?_⟩
    rintro vd _ ⟨⟨D,fD,bD⟩,⟨t2,rfl⟩⟩
    have hneg:=Bfs.neg (he.but P[i].1) hpi.1 bD hpi.2.1.1 hpi.2.1.2
    have hDl:=bD.len
    obtain ⟨c,rfl,hc0⟩:=id fD
    obtain ⟨idd,rfl,_,_,hgd⟩:=hc0 (by omega)
    try simp only [List.append_assoc,List.cons_append,List.nil_append] at hgd
    have hdv:(D.map iv)[P[i].2.2.1.toNat]? = some (.int .i64 (dv D P[i].2.2.1)):=by
     have:P[i].2.2.1.toNat<D.length:=by omega
     rw [List.getElem?_map,List.getElem?_eq_getElem this,dv,List.getD,List.getElem?_eq_getElem this];rfl
    simp only [go_sem,e1,e4,e12,e13,e14,hgd,hdv,hDl,show 0<=P[i].2.2.1 by omega,show P[i].2.2.1<((N+1:Nat):Int) by omega]
    by_cases c:dv D P[i].2.2.1<0
    ·have hb2:isBri N P P[i]=true:=by rw [isBri,hneg.1 c];rfl
     rw [hb2] at htk
     simp only [go_sem,e1,e4,e12,e13,e14,c,app_old hj,List.length_map]
     refine ⟨by omega,by omega,hlt,_,_,⟨e1,rfl,e12,e13,congrArg _ ws,trivial⟩, .rfl,(.mk' (t.length+t2.length+2) ?_ (by rw [htk];simp) ?_)⟩
     ·simp;try omega
     ·exact (new_at (by simp;try omega)).trans (by simp [iv,htk])
    ·have hb2:isBri N P P[i]=false:=by
      rw [isBri]
      cases hh:ball (but P P[i].1) P[i].2.1 N P[i].2.2.1
      ·exact absurd (hneg.2 hh) c
      ·rfl
     rw [hb2] at htk
     simp only [go_sem,e1,e4,e12,e13,e14,c]
     exact ⟨hlt,_,_,⟨e1,e4,e12,e13,congrArg _ ws,trivial⟩, .rfl,by rw [htk];simpa using oi.mono _⟩
   ·obtain rfl:i=P.length:=by omega
    simp only [go_sem,e1,e4,e12,e13,e14,show ¬((P.length:Int)<P.length) by omega]
    rw [List.take_length] at oi ⊢
    have:=OF.ai [⟨[.int .i64 N, .slice a P.length 0],2, .rw⟩] oi rfl
    refine ⟨_,rfl, ?_⟩
    rw [briR,if_pos h1,Int.toNat_natCast]
    exact this
 ·simp only [go_sem,dect h1]
  rw [briR,if_neg h1]
  exact ⟨_,rfl,AI.none⟩
theorem c_l2Reached {n:Nat} (v:Value) (N:Nat) (P:List Pip) (s:Int) (hv:NA n h v N P) (he:ends N P) (hN:N<=8) (hP:P.length<=10) (hs:1<=s∧s<=N) :
  vCall [] Tryz.prog M 195 [v, .int .i64 s] h (fun r h'=>(∃S,SI h' r S∧S.length<=20∧∀x,x∈S↔ball P s N x=true)∧h<+:h'):=by
 obtain ⟨wp,rfl,sP0⟩:=id hv
 have sP:Sl h 4 wp (P.map pip):=sP0.1
 obtain ⟨a,rfl⟩:=Sl.len4 sP
 refine body_of mo Tryz.func195 rfl (by kernel_rfl) (Nat.le_of_ble_eq_true (by kernel_rfl)) rfl ?_
 simp only [go_sem]
 refine vLoop.rank mo 21 (fun m e h'=> ∃(S:List Int) (vS:Value) (ag:Bool) (t:Heap),Regs e [(2, .pointer (some ⟨h.length,0,none⟩)),(5,vS),(6, .bool ag)] ∧
  HeapIs h' (h++(⟨[.int .i64 N, .slice a P.length 0],2, .rw⟩::t))∧SI h' vS S∧Fnd P s N S∧(ag=false->evenP P S P.length)∧2*lackN S+ag.toNat<=m) ?_ ?_
 ·refine ⟨[s],_,true,_,⟨rfl,rfl,rfl,trivial⟩, .rfl, ?_,Fnd.init,(fun h=>by cases h), ?_⟩
  ·refine FI.si (lo:=0) (hi:=(h++_).length) (FI.at' rfl (by omega) (by simp) ?_) (Nat.le_refl _)
   simp only [go_sem]
   rfl
  ·have:=(Fnd.init (P:=P) (s:=s) (N:=N)).ln
   simp only [Bool.toNat_true,List.length_cons,List.length_nil] at this ⊢
   omega
 ·rintro m e _ ⟨S,vS,ag,t,⟨e2,e5,e6,_⟩,rfl,qS,f,ev0,hm⟩
  simp only [go_sem,e2,e5,e6]
  cases ag with
  | false=>
   simp only [go_sem,e2,e5,e6]
   exact ⟨S,qS,by have:=f.ln;omega,f.done (ev0 rfl)⟩
  | true=>
   simp only [go_sem,e2,e5,e6]
   refine vLoop.count mo P.length (fun i e h'=> ∃(S:List Int) (vS:Value) (ag:Bool) (t:Heap),Regs e [(2, .pointer (some ⟨h.length,0,none⟩)),(5,vS),(6, .bool ag),(7, .int .i64 i)] ∧
    HeapIs h' (h++(⟨[.int .i64 N, .slice a P.length 0],2, .rw⟩::t))∧SI h' vS S∧Fnd P s N S∧(ag=false->evenP P S i)∧2*lackN S+ag.toNat+1<=m) ?_ ?_
   ·exact ⟨S,vS,false,t,⟨e2,e5,rfl,rfl,trivial⟩, .rfl,qS,f,fun _ j hj h0=>absurd h0 (by omega),by simpa using hm⟩
   ·clear f ev0 hm e2 e5 e6 qS
    rintro i e _ hi ⟨S,vS,ag,t,⟨e2,e5,e6,e7,_⟩,rfl,qS,f,ev0,hm⟩
    simp only [go_sem,e2,e5,e6,e7]
    by_cases hlt:i<P.length
    ·have hlt':i<(P.map pip).length:=by simpa using hlt
     have hz:(i:Int)<P.length:=by omega
     have ws:=wsucc hlt (by omega)
     obtain ⟨id2,o,k,hv',hk,_,hd,hb,hrow,hat⟩:=sP.at hlt'
     obtain rfl:a=some ⟨id2,o,none⟩:=by simpa using hv'
     have g1:=hat 1 (by omega)
     have g2:=hat 2 (by omega)
     rw [List.getElem_map] at g1 g2
     simp only [pip,List.getElem?_cons_zero,List.getElem?_cons_succ] at g1 g2
     have hln:=f.ln
     have more:(P[i].2.1∈S↔P[i].2.2.1∈S)->ag=false->evenP P S (i+1):=fun hh h0 j hj hji=>by
      by_cases h3:j<i
      ·exact ev0 h0 j hj h3
      ·obtain rfl:j=i:=by omega
       exact hh
     simp only [go_sem,e2,e5,e6,e7,hz,hk,hd,g1,g2]
     refine ⟨by kernel_rfl,(c_l1Has _ S _ qS (by omega)).use (fun _ m=>m) ?_⟩
     rintro _ _ ⟨rfl,rfl⟩
     simp only [go_sem,e2,e5,e6,e7,hz,hk,hd,g1,g2]
     refine ⟨by kernel_rfl,(c_l1Has _ S _ qS (by omega)).use (fun _ m=>m) ?_⟩
     rintro _ _ ⟨rfl,rfl⟩
     by_cases c:P[i].2.1∈S↔P[i].2.2.1∈S
     ·have hde:(decide (P[i].2.1∈S)==decide (P[i].2.2.1∈S))=true:=beq_iff_eq.2 (decide_eq_decide.2 c)
      simp only [go_sem,e2,e5,e6,e7,Tryz.underlying4,hde]
      exact ⟨hlt,S,vS,ag,_,⟨e2,e5,e6,congrArg _ ws,trivial⟩, .rfl,qS,f,more c,hm⟩
     ·have hde:(decide (P[i].2.1∈S)==decide (P[i].2.2.1∈S))=false:=by
       cases hh:(decide (P[i].2.1∈S)==decide (P[i].2.2.1∈S))
       ·rfl
       ·exact absurd (decide_eq_decide.1 (beq_iff_eq.1 hh)) c
      obtain ⟨f2,hl2⟩:=f.put he hN hs hlt c
      have pl:=putL_len (l:=S) (x:=P[i].2.1)
      simp only [go_sem,e2,e5,e6,e7,Tryz.underlying4,hde,hz,hk,hd,g1,g2]
      refine ⟨by kernel_rfl,(c_l1Put _ S _ qS (Nat.le_refl _) (by omega)).use (fun _ m=>m) ?_⟩
      rintro vS2 _ ⟨qS2,⟨u3,rfl⟩⟩
      try simp only [List.append_assoc,List.cons_append] at qS2
      simp only [go_sem,e2,e5,e6,e7,hz,hk,hd,g1,g2]
      refine ⟨by kernel_rfl,(c_l1Put _ _ _ qS2 (by simp) (by omega)).use (fun _ m=>m) ?_⟩
      rintro vS3 _ ⟨qS3,⟨u4,rfl⟩⟩
      simp only [go_sem,e2,e5,e6,e7]
      have:ag.toNat<=1:=by cases ag<;>decide
      refine ⟨hlt,_,vS3,true,_,⟨e2,rfl,rfl,congrArg _ ws,trivial⟩, .rfl, ?_,f2,(fun h0=>by cases h0), ?_⟩
      ·unfold SI
       simpa using qS3
      ·simp only [Bool.toNat_true]
       omega
    ·obtain rfl:i=P.length:=by omega
     simp only [go_sem,show ¬((P.length:Int)<P.length) by omega,e2,e5,e6,e7]
     exact ⟨2*lackN S+ag.toNat,by omega,S,vS,ag,t,⟨e2,e5,e6,trivial⟩, .rfl,qS,f,ev0,Nat.le_refl _⟩
end
open Go.HH Go.Proofs
theorem rowsLen {α:Type} {f:α->List Value} {sz:Nat} (hf: ∀x,(f x).length=sz) (L:List α):((L.map f).flatten).length=L.length*sz:=by
 rw [flatten_len (sz:=sz) (fun r hr=>by obtain ⟨x,_,rfl⟩:=List.mem_map.1 hr;exact hf x),List.length_map]
theorem rowsTake {α:Type} {f:α->List Value} {sz:Nat} (hf: ∀x,(f x).length=sz) {L:List α} {cs:List Value} {off:Nat} (h:(cs.drop off).take (L.length*sz)=(L.map f).flatten) {i:Nat} (hi:i<=L.length) :
  (cs.drop off).take (i*sz)=((L.take i).map f).flatten:=by
 have hle:i*sz<=L.length*sz:=Nat.mul_le_mul_right _ hi
 have e:((cs.drop off).take (L.length*sz)).take (i*sz)=(cs.drop off).take (i*sz):=by rw [List.take_take,Nat.min_eq_left hle]
 rw [←e,h]
 conv=>lhs;rw [←List.take_append_drop i L,List.map_append,List.flatten_append]
 rw [List.take_left' (by rw [rowsLen hf,List.length_take];congr 1;omega)]
theorem rowsDrop {α:Type} {f:α->List Value} {sz:Nat} (hf: ∀x,(f x).length=sz) {L:List α} {cs:List Value} {off:Nat} (h:(cs.drop off).take (L.length*sz)=(L.map f).flatten) {i:Nat} (hi:i<=L.length) :
  (cs.drop (off+i*sz)).take ((L.length-i)*sz)=((L.drop i).map f).flatten:=by
 have e:((cs.drop off).take (L.length*sz)).drop (i*sz)=(cs.drop (off+i*sz)).take ((L.length-i)*sz):=by rw [List.drop_take,List.drop_drop,Nat.sub_mul]
 rw [←e,h]
 conv=>lhs;rw [←List.take_append_drop i L,List.map_append,List.flatten_append]
 rw [List.drop_left' (by rw [rowsLen hf,List.length_take];congr 1;omega)]
theorem pip4 (x:Pip):(pip x).length=4:=rfl
theorem vlv4 (x:Vlv):(vlv x).length=4:=rfl
theorem frG {α:Type} {f:α->List Value} (hf: ∀x,(f x).length=4) {h t:Heap} {j n lo hi:Nat} {P:List α} (hj:t[j]? = some ⟨(P.map f).flatten,4, .rw⟩) (hn:n=P.length) (h1:lo<=h.length+j) (h2:h.length+j<hi):FQs lo hi 4 (h++t) (.slice (some ⟨h.length+j,0,none⟩) n 0) (P.map f):=
 .inl ⟨h.length+j,by rw [List.length_map,hn],h1,h2,by rw [hget_app];exact hj,fun r hr=>by obtain ⟨x,_,rfl⟩:=List.mem_map.1 hr;exact hf x⟩
open Go.HH Go.Proofs
section
variable {h : Heap} {M : Nat → Prop}
set_option maxRecDepth 4000 in
theorem c_l2Without (w:Value) (N:Int) (P:List Pip) (i:Nat) (sP:Sl h 4 w (P.map pip)) (es:EszC h 4 w) (hi:i<P.length) (hP:P.length<=1048576) :
  vCall [] Tryz.prog M 196 [.agg #[.int .i64 N,w], .int .i64 i] h (fun r h'=>(∃x,r = .agg #[.int .i64 N,x]∧FQs h.length h'.length 4 h' x ((P.eraseIdx i).map pip))∧h<+:h'):=by
 have hne:P.map pip≠ []:=by intro hh;rw [List.map_eq_nil_iff] at hh;subst hh;simp at hi
 obtain ⟨id,off,k,ev,hk,hd,hbb,hfl⟩:=sP.copy hne
 rw [List.length_map] at ev hbb hfl
 subst ev
 obtain ⟨k2,hk2,hez⟩:=es id off P.length rfl (by omega)
 have hk0:=hk []
 rw [List.append_nil,hk2] at hk0
 cases hk0
 have hn:0<P.length:=by omega
 have hlt:=hget_lt hk2
 have hne2:(id==h.length)=false:=by simp;omega
 have w1:IntKind.i64.wrap ((i:Int)+1)=((i+1:Nat):Int):=by rw [wrap64 (by omega)];omega
 have f1:=rowsTake pip4 hfl (i:=i) (by omega)
 have f2:=rowsDrop pip4 hfl (i:=i+1) (by omega)
 have o1:=oneP (P.take i)
 have o2:=oneP (P.drop (i+1))
 have e0:P.eraseIdx i=P.take i++P.drop (i+1):=List.eraseIdx_eq_take_drop_succ P i
 refine body_ofR ([(1,[1,4006,4012,2009,2012,5000])]) mo Tryz.func196 rfl (by kernel_rfl) (Nat.le_of_ble_eq_true (by kernel_rfl)) rfl ?_
 simp only [go_sem]
 refine onEarly_on [h.length,id] [] (by simp) ?_
 have big:P.length*32<=140737488355328:=by omega
 by_cases c0:i=0
 ·subst c0
  simp only [Nat.zero_add,Nat.one_mul,List.take_zero,List.nil_append] at f2 o2 e0
  by_cases c1:0<P.length-1
  ·simp only [go_sem,hne2,onSl_more hn,slId_more hn,hk,hd,hez,show IntKind.i64.wrap 1=1 from rfl,onApp_more c1,f2,o2,c1,big]
   refine ⟨by omega,by omega,by omega,by omega,by omega,_,rfl, ?_⟩
   rw [e0]
   exact frG (j:=3) pip4 rfl (by simp) (by omega) (by omega)
  ·simp only [go_sem,hne2,onSl_more hn,slId_more hn,hk,hd,hez,show IntKind.i64.wrap 1=1 from rfl,show P.length-1=0 by omega]
   refine ⟨by omega,by omega,_,rfl, .inr ⟨?_,_,rfl⟩⟩
   rw [e0,List.drop_eq_nil_of_le (by omega)]
   rfl
 ·have hip:0<i:=by omega
  by_cases c1:0<P.length-(i+1)
  ·simp only [go_sem,hne2,onSl_more hn,slId_more hn,hk,hd,hez,w1,onApp_more hip,onApp_more c1,f1,f2,o1,o2,c1]
   refine ⟨by omega,by omega,hip,by omega,by omega,by omega,by omega, ?_,by omega,by omega,by omega,_,rfl, ?_⟩
   ·rw [flP,List.length_take];omega
   ·rw [e0]
    exact frG (j:=4) pip4 (by simp) (by simp;omega) (by omega) (by omega)
  ·simp only [go_sem,hne2,onSl_more hn,slId_more hn,hk,hd,hez,w1,onApp_more hip,show P.length-(i+1)=0 by omega,f1,o1]
   refine ⟨by omega,by omega,hip,by omega,by omega,by omega,by omega,_,rfl, ?_⟩
   rw [e0,List.drop_eq_nil_of_le (by omega),List.append_nil]
   exact frG (j:=3) pip4 rfl (by simp;omega) (by omega) (by omega)
end
open Go.HH Go.Proofs
section
variable {h : Heap} {M : Nat → Prop}
structure ConK (lo hi:Nat) (h:Heap) (c:Con) (wP wV:Value) (k:Int):Prop where
 p: ∃a b x y,(lo<=a∧b<=hi∧lo<=x∧y<=hi∧(b<=x∨y<=a))∧FQs a b 4 h wP (mks4 k c.P.length)∧FQs x y 4 h wV (mksV (k+4*c.P.length) c.V.length)
theorem ConK.mono {lo hi:Nat} {h h':Heap} {c:Con} {wP wV:Value} {k:Int} (s:ConK lo hi h c wP wV k) (hp:h<+:h'):ConK lo hi h' c wP wV k:=by
 obtain ⟨a,b,x,y,hh,p,v⟩:=s.p
 exact ⟨a,b,x,y,hh,p.mono hp,v.mono hp⟩
end
open Go.HH Go.Proofs
theorem FQs.sbQ {lo hi sz:Nat} {h:Heap} {v:Value} {rows:List (List Value)} (s:FQs lo hi sz h v rows):SB hi sz h v rows:=by
 rcases s with s|⟨rfl,a,rfl⟩
 ·exact s.sb
 ·exact ⟨⟨a,rfl,fun r hr=>by simp at hr,fun h0=>absurd rfl h0⟩,fun _ _ _ _ h0=>absurd rfl h0⟩
theorem ConQ.s {lo hi:Nat} {h:Heap} {c:Con} {wP wV:Value} (s:ConQ lo hi h c wP wV):ConS hi h c wP wV:=by
 obtain ⟨a,b,x,y,hh,p,v⟩:=s.p
 exact ⟨(p.wide (Nat.le_refl _) hh.2.1).sbQ,(v.wide (Nat.le_refl _) hh.2.2.2.1).sbQ⟩
theorem ConQ.mono {lo hi:Nat} {h h':Heap} {c:Con} {wP wV:Value} (s:ConQ lo hi h c wP wV) (hp:h<+:h'):ConQ lo hi h' c wP wV:=by
 obtain ⟨a,b,x,y,hh,p,v⟩:=s.p
 exact ⟨a,b,x,y,hh,p.mono hp,v.mono hp⟩
theorem ConQ.agr {lo hi l r:Nat} {h h':Heap} {c:Con} {wP wV:Value} (s:ConQ lo hi h c wP wV) (g:Agr l r h h') (hn:hi<=l∨r<=lo):ConQ lo hi h' c wP wV:=by
 obtain ⟨a,b,x,y,hh,p,v⟩:=s.p
 exact ⟨a,b,x,y,hh,p.agr g (by omega),v.agr g (by omega)⟩
theorem newC_P {N:Int} {P:List Pip} {x:Int} (hP:P.length<=1048576):(newC N P x).P.length<=1048576:=by
 unfold newC
 split
 ·exact hP
 ·simp
theorem newC_V {N:Int} {P:List Pip} {x:Int}:(newC N P x).V.length<=1048576:=by
 unfold newC
 split<;>simp
theorem newC_small {N:Int} {P:List Pip} {x:Int} (hP:P.length<=1048576):conSmall (newC N P x):=by
 refine ⟨newC_P hP,newC_V, ?_⟩
 unfold newC
 split<;>simp
theorem at_app {α:Type} {l m:List α} {j:Nat}:(l++m)[l.length+j]? = m[j]? := by
 rw [List.getElem?_append_right (by omega),Nat.add_sub_cancel_left]
theorem at_app0 {α:Type} {l m:List α}:(l++m)[l.length]? = m[0]? := by
 rw [List.getElem?_append_right (by omega),Nat.sub_self]
theorem ConQ.wide {lo hi lo' hi':Nat} {h:Heap} {c:Con} {wP wV:Value} (s:ConQ lo hi h c wP wV) (h1:lo'<=lo) (h2:hi<=hi'):ConQ lo' hi' h c wP wV:=by
 obtain ⟨a,b,x,y,hh,p,v⟩:=s.p
 exact ⟨a,b,x,y,by omega,p,v⟩
section
variable {h : Heap} {M : Nat → Prop}
set_option maxHeartbeats 4000000 in
end
open Go.HH Go.Proofs
theorem netGood.asc {N:Int} {P:List Pip} (g:netGood N P): ∀(i j:Nat) (hi:i<P.length) (hj:j<i),P[j].1<P[i].1
 | 0,j,_,hj=>absurd hj (by omega)
 | i+1,j,hi,hj=>by
  have h1:=(g.1 (i+1) hi).2 (by omega)
  rw [getDp hi,Nat.add_sub_cancel,getDp (by omega)] at h1
  by_cases h:j=i
  ·subst h;exact h1
  ·exact Int.lt_trans (netGood.asc g i j (by omega) (by omega)) h1
theorem netGood.ids {N:Int} {P:List Pip} (g:netGood N P): ∀p∈P,1<=p.1∧p.1<=99:=fun p hp=>by
 obtain ⟨i,hi,rfl⟩:=List.mem_iff_getElem.1 hp
 have h1:=(g.1 i hi).1
 rw [getDp hi] at h1
 exact h1.1
theorem but_erase {N:Int} {P:List Pip} (g:netGood N P) {i:Nat} (hi:i<P.length):but P P[i].1=P.eraseIdx i:=by
 have e:P=P.take i++P[i]::P.drop (i+1):=by rw [List.getElem_cons_drop hi,List.take_append_drop]
 rw [List.eraseIdx_eq_take_drop_succ]
 conv=>lhs;arg 1;rw [e]
 unfold but
 rw [List.filter_append,List.filter_cons,if_neg (by simp)]
 congr 1
 ·rw [List.filter_eq_self]
  intro p hp
  obtain ⟨j,hj,rfl⟩:=List.mem_iff_getElem.1 hp
  rw [List.length_take] at hj
  have:=g.asc i j hi (by omega)
  rw [List.getElem_take]
  simp only [decide_eq_true_eq]
  omega
 ·rw [List.filter_eq_self]
  intro p hp
  obtain ⟨j,hj,rfl⟩:=List.mem_iff_getElem.1 hp
  rw [List.length_drop] at hj
  have:=g.asc (i+1+j) i (by omega) (by omega)
  rw [List.getElem_drop]
  simp only [decide_eq_true_eq]
  omega
theorem briL_ids {N:Nat} {P Q:List Pip} (h: ∀p∈Q,1<=p.1∧p.1<=99): ∀x∈briL N P Q,0<=x∧x<100:=fun x hx=>by
 unfold briL at hx
 obtain ⟨p,hp,rfl⟩:=List.mem_map.1 hx
 have:=h p (List.mem_filter.1 hp).1
 omega
section
variable {h : Heap} {M : Nat → Prop}
theorem c_sBridgePipes {n:Nat} (w:Value) (N:Int) (P:List Pip) (sB:SB n 4 h w (P.map pip)) (es:EszC h 4 w) (hP:P.length<=1048576) :
  vCall [] Tryz.prog M 154 [.agg #[.int .i64 N,w]] h (fun r h'=>(∃x,r = .tuple #[x, .bool (decide (netGood N P))]∧SI h' x (briR N P))∧h<+:h'):=by
 have hv:NA n h (.agg #[.int .i64 N,w]) N P:=⟨w,rfl,sB⟩
 have sP:Sl h 4 w (P.map pip):=sB.1
 obtain ⟨a,rfl⟩:=Sl.len4 sP
 refine body_of mo Tryz.func154 rfl (by kernel_rfl) (Nat.le_of_ble_eq_true (by kernel_rfl)) rfl ?_
 simp only [go_sem]
 refine ⟨by kernel_rfl,(c_l2Good _ N P (hv.mono (by simp)) hP).use (fun _ m=>m) ?_⟩
 rintro _ _ ⟨rfl,⟨t0,rfl⟩⟩
 by_cases h1:netGood N P
 ·have hN:1<=N∧N<=8:=h1.2.1
  have hP10:P.length<=10:=h1.2.2
  obtain ⟨N,rfl⟩: ∃N':Nat,N=N':=⟨N.toNat,by omega⟩
  have he:=h1.ends
  simp only [go_sem,decb h1]
  refine vLoop.count mo P.length (fun i e h'=> ∃(t:Heap) (v4:Value),Regs e [(1, .pointer (some ⟨h.length,0,none⟩)),(4,v4),(5, .int .i64 i)] ∧
   HeapIs h' (h++(⟨[.int .i64 N, .slice a P.length 0],2, .rw⟩::t))∧OF h.length 1 t v4 (briL N P (P.take i))) ?_ ?_
  ·refine ⟨_,_,⟨rfl,rfl,rfl,trivial⟩, .rfl, .mk' 0 rfl rfl ?_⟩
   rfl
  ·rintro i e _ hi ⟨t,v4,⟨e1,e4,e5,_⟩,rfl,oi⟩
   obtain ⟨j,rfl,hj⟩:=id oi
   simp only [go_sem,e1,e4,e5]
   by_cases hlt:i<P.length
   ·have hlt':i<(P.map pip).length:=by simpa using hlt
    have hz:(i:Int)<P.length:=by omega
    have ws:=wsucc hlt (by omega)
    obtain ⟨id2,o,k,hv',hk,_,hd,hb,hrow,hat⟩:=sP.at hlt'
    obtain rfl:a=some ⟨id2,o,none⟩:=by simpa using hv'
    have g0:=hat 0 (by omega)
    have g1:=hat 1 (by omega)
    have g2:=hat 2 (by omega)
    rw [List.getElem_map] at g0 g1 g2
    simp only [pip,List.getElem?_cons_zero,List.getElem?_cons_succ,Nat.add_zero] at g0 g1 g2
    have hpi:=he _ (List.getElem_mem hlt)
    have hlen:=briL_len (N:=N) (P:=P) (Q:=P.take i)
    have htl:(P.take i).length<=i:=by rw [List.length_take];omega
    have htk:=briL_take (N:=N) hlt
    have hel:(P.eraseIdx i).length<=10:=by rw [List.length_eraseIdx];split<;>omega
    have hee:ends (N:Int) (P.eraseIdx i):=fun p hp=>he p (List.mem_of_mem_eraseIdx hp)
    have hbe:=but_erase h1 hlt
    simp only [go_sem,e1,e4,e5,hz,hk,hd,g0,g1,g2]
    refine ⟨by kernel_rfl,(c_l2Without _ N P i (sP.mono (by simp)) (es.mono (by simp)) hlt hP).use (fun _ m=>m) ?_⟩
    rintro _ _ ⟨⟨x,rfl,fx⟩,⟨t2,rfl⟩⟩
    try simp only [List.append_assoc,List.cons_append] at fx
    simp only [go_sem,e1,e4,e5,hz,hk,hd,g0,g1,g2]
    refine ⟨by kernel_rfl,(c_l2Reached _ N (P.eraseIdx i) P[i].2.1 ⟨x,rfl,fx.sbQ⟩ hee (by omega) hel hpi.1).use (fun _ m=>m) ?_⟩
    rintro vS _ ⟨⟨S,sS,hS1,hS2⟩,⟨t3,rfl⟩⟩
    try simp only [List.append_assoc,List.cons_append] at sS
    simp only [go_sem,e1,e4,e5,hz,hk,hd,g0,g1,g2]
    refine ⟨by kernel_rfl,(c_l1Has _ S _ sS (by omega)).use (fun _ m=>m) ?_⟩
    rintro _ _ ⟨rfl,rfl⟩
    have hmem:=hS2 P[i].2.2.1
    rw [←hbe] at hmem
    by_cases c:P[i].2.2.1∈S
    ·have hb2:isBri N P P[i]=false:=by rw [isBri,hmem.1 c];rfl
     rw [hb2] at htk
     simp only [go_sem,e1,e4,e5,decb c]
     exact ⟨hlt,_,_,⟨e1,e4,congrArg _ ws,trivial⟩, .rfl,by rw [htk];simpa using oi.mono _⟩
    ·have hb2:isBri N P P[i]=true:=by
      rw [isBri]
      cases hh:ball (but P P[i].1) P[i].2.1 N P[i].2.2.1
      ·rfl
      ·exact absurd (hmem.2 hh) c
     rw [hb2] at htk
     simp only [go_sem,e1,e4,e5,dect c,hz,hk,hd,g0,g1,g2,app_old hj,List.length_map]
     refine ⟨by omega,by omega,hlt,_,_,⟨e1,rfl,congrArg _ ws,trivial⟩, .rfl,(.mk' (t.length+(t2.length+(t3.length+1))) ?_ (by rw [htk];simp) ?_)⟩
     ·simp;try omega
     ·exact (new_at (by simp;try omega)).trans (by simp [iv,htk])
   ·obtain rfl:i=P.length:=by omega
    simp only [go_sem,e1,e4,e5,show ¬((P.length:Int)<P.length) by omega]
    rw [List.take_length] at oi ⊢
    have:=OF.ai [⟨[.int .i64 N, .slice a P.length 0],2, .rw⟩] oi rfl
    refine ⟨_,rfl, ?_⟩
    rw [briR,if_pos h1,Int.toNat_natCast]
    exact this
 ·simp only [go_sem,dect h1]
  rw [briR,if_neg h1]
  refine ⟨_,rfl, ?_⟩
  refine FI.si (lo:=0) (hi:=(h++_).length) (FI.at' rfl (by omega) (by simp) ?_) (Nat.le_refl _)
  simp only [go_sem]
  try rfl
end
open Go.HH Go.Proofs
def low (l:List Int) (x:Int):Nat:=(l.takeWhile fun y=>decide (y<x)).length
theorem low_eq {x:Int}: ∀ {l:List Int} {i:Nat},i<=l.length->(∀(j:Nat) (hj:j<l.length),j<i->l[j]<x)->(∀hi:i<l.length,¬l[i]<x)->low l x=i
 | [],i,hi,_,_=>by simp at hi;subst hi;rfl
 | y::l,0,_,_,h=>by
  have:=h (by simp)
  simp at this
  unfold low
  rw [List.takeWhile_cons,if_neg (by simpa using this)]
  rfl
 | y::l,i+1,hi,hb,h=>by
  have h0:=hb 0 (by simp) (by omega)
  simp at h0
  have:=low_eq (x:=x) (l:=l) (i:=i) (by simpa using hi) (fun j hj hji=>by have:=hb (j+1) (by simpa using hj) (by omega);simpa using this) (fun hi=>by have:=h (by simpa using hi);simpa using this)
  unfold low at this ⊢
  rw [List.takeWhile_cons,if_pos (by simpa using h0),List.length_cons,this]
theorem low_le {x:Int} {l:List Int}:low l x<=l.length:=List.Sublist.length_le (List.takeWhile_sublist _)
theorem low_lt {x:Int}: ∀ {l:List Int} {j:Nat} (hj:j<l.length),j<low l x->l[j]<x
 | [],j,hj,_=>by simp at hj
 | y::l,j,hj,h=>by
  unfold low at h
  rw [List.takeWhile_cons] at h
  split at h
  ·rename_i hy
   cases j with
   | zero=>simpa using hy
   | succ j=>simpa using low_lt (l:=l) (j:=j) (by simpa using hj) (by simpa [low] using h)
  ·simp at h
def insAt {α:Type} (L:List α) (k:Nat) (v:α):List α:=L.take k++v::L.drop k
theorem insAt_len {α:Type} {L:List α} {k:Nat} {v:α} (hk:k<=L.length):(insAt L k v).length=L.length+1:=by
 unfold insAt
 rw [List.length_append,List.length_cons,List.length_take,List.length_drop];omega
def insP (P:List Pip) (p:Pip):List Pip:=insAt P (low (P.map fun q=>q.1) p.1) p
theorem insP_k {P:List Pip} {p:Pip}:low (P.map fun q=>q.1) p.1<=P.length:=by have:=low_le (l:=P.map fun q=>q.1) (x:=p.1);simpa using this
theorem insP_find {N:Int} {P:List Pip} {p:Pip} (g:netGood N (insP P p)): ∀q∈P,q.1≠p.1:=fun q hq he=>by
 have hk:=insP_k (P:=P) (p:=p)
 have hl:=insAt_len (v:=p) hk
 obtain ⟨j,hj,rfl⟩:=List.mem_iff_getElem.1 hq
 rcases Nat.lt_or_ge j (low (P.map fun q=>q.1) p.1) with h|h
 ·have:=low_lt (l:=P.map fun q=>q.1) (x:=p.1) (j:=j) (by simpa using hj) h
  rw [List.getElem_map] at this
  omega
 ·have h1:(low (P.map fun q=>q.1) p.1)<(insP P p).length:=by unfold insP;omega
  have h2:j+1<(insP P p).length:=by unfold insP;omega
  have:=g.asc (j+1) (low (P.map fun q=>q.1) p.1) h2 (by omega)
  have e1:(insP P p)[low (P.map fun q=>q.1) p.1]=p:=by
   have hh:(insP P p)[low (P.map fun q=>q.1) p.1]? = some p:=by
    unfold insP insAt
    rw [List.getElem?_append_right (by rw [List.length_take];omega),List.length_take,Nat.min_eq_left hk,Nat.sub_self,List.getElem?_cons_zero]
   rw [List.getElem?_eq_getElem h1] at hh
   exact Option.some.inj hh
  have e2:(insP P p)[j+1]=P[j]:=by
   have hh:(insP P p)[j+1]? = some P[j]:=by
    unfold insP insAt
    rw [List.getElem?_append_right (by rw [List.length_take];omega),List.length_take,Nat.min_eq_left hk]
    obtain ⟨d,hd⟩: ∃d,j+1-low (P.map fun q=>q.1) p.1=d+1:=⟨j-low (P.map fun q=>q.1) p.1,by omega⟩
    rw [hd,List.getElem?_cons_succ,List.getElem?_drop,show low (P.map fun q=>q.1) p.1+d=j by omega,List.getElem?_eq_getElem hj]
   rw [List.getElem?_eq_getElem h2] at hh
   exact Option.some.inj hh
  rw [e1,e2] at this
  omega
def addOk (N:Int) (P:List Pip) (p:Pip):Prop:=netGood N P∧netGood N (insP P p)
open Classical in
noncomputable instance {N:Int} {P:List Pip} {p:Pip}:Decidable (addOk N P p):=propDecidable _
noncomputable def addN (N:Int) (P:List Pip) (p:Pip):Int:=if addOk N P p then N else 0
noncomputable def addR (N:Int) (P:List Pip) (p:Pip):List Pip:=if addOk N P p then insP P p else []
theorem pidx_mem {P:List Pip} {id:Int} (h:0<=pidx P id): ∃q∈P,q.1=id:=by
 obtain ⟨hk,hp⟩:=idxI_at (p:=fun q:Pip=>decide (q.1=id)) (l:=P) (k:=(pidx P id).toNat) (by unfold pidx at h ⊢;omega)
 exact ⟨_,List.getElem_mem hk,by simpa using hp⟩
section
variable {h : Heap} {M : Nat → Prop}
set_option maxRecDepth 4000 in
theorem c_sAddPipe {n:Nat} (w:Value) (N:Int) (P:List Pip) (p:Pip) (sB:SB n 4 h w (P.map pip)) (es:EszC h 4 w) (hP:P.length<=1048576) :
  vCall [] Tryz.prog M 150 [.agg #[.int .i64 N,w], .agg #[.int .i64 p.1, .int .i64 p.2.1, .int .i64 p.2.2.1, .int .i64 p.2.2.2]] h
   (fun r h'=>(∃x,r = .tuple #[.agg #[.int .i64 (addN N P p),x], .bool (decide (addOk N P p))]∧FQs h.length h'.length 4 h' x ((addR N P p).map pip))∧h<+:h'):=by
 have hv:NA n h (.agg #[.int .i64 N,w]) N P:=⟨w,rfl,sB⟩
 have sP:Sl h 4 w (P.map pip):=sB.1
 obtain ⟨a,rfl⟩:=Sl.len4 sP
 have no: ∀(lo hi:Nat) (H:Heap),¬addOk N P p->∃x,Value.tuple #[.agg #[.int .i64 0, .slice none 0 0], .bool false] = .tuple #[.agg #[.int .i64 (addN N P p),x], .bool (decide (addOk N P p))]∧FQs lo hi 4 H x ((addR N P p).map pip):=fun lo hi H hn=>by
  rw [decide_eq_false hn,addN,addR,if_neg hn,if_neg hn]
  exact ⟨_,rfl,fq0⟩
 refine body_ofR ([(6,[1,4006,4014,2008,2012,2014,3009,5000])]) mo Tryz.func150 rfl (by kernel_rfl) (Nat.le_of_ble_eq_true (by kernel_rfl)) rfl ?_
 simp only [go_sem]
 refine ⟨by kernel_rfl,(c_l2Good _ N P (hv.mono (by simp)) hP).use (fun _ m=>m) ?_⟩
 rintro _ _ ⟨rfl,⟨t0,rfl⟩⟩
 by_cases h1:netGood N P
 ·have hP10:P.length<=10:=h1.2.2
  simp only [go_sem,decb h1]
  refine ⟨by kernel_rfl,(c_l2Find _ N P p.1 (hv.mono (by simp)) hP).use (fun _ m=>m) ?_⟩
  rintro _ _ ⟨rfl,⟨t1,rfl⟩⟩
  by_cases h2:0<=pidx P p.1
  ·have nok: ¬addOk N P p:=fun hh=>by
    obtain ⟨q,hq,he⟩:=pidx_mem h2
    exact insP_find hh.2 q hq he
   simp only [go_sem,decb h1,h2]
   exact no _ _ _ nok
  ·simp only [go_sem,decb h1,h2]
   refine vLoopR.count mo P.length (fun i e h'=> ∃(t:Heap),Regs e [(2, .pointer (some ⟨h.length,0,none⟩)),(3, .pointer (some ⟨h.length+1,0,none⟩)),(4, .pointer (some ⟨h.length+2,0,none⟩)),(6, .int .i64 i)] ∧
    HeapIs h' (h++(⟨[.int .i64 N, .slice a P.length 0],2, .rw⟩::⟨[.int .i64 p.1, .int .i64 p.2.1, .int .i64 p.2.2.1, .int .i64 p.2.2.2],4, .rw⟩::⟨[.int .i64 0, .slice none 0 0],2, .rw⟩::t)) ∧
    ∀(j:Nat) (hj:j<P.length),j<i->P[j].1<p.1) ?_ ?_
   ·exact ⟨_,⟨rfl,rfl,rfl,rfl,trivial⟩, .rfl,fun j _ hj=>absurd hj (by omega)⟩
   ·rintro i e _ hi ⟨t,⟨e2,e3,e4,e6,_⟩,rfl,hlo⟩
    have fin:(∀hi:i<P.length,¬P[i].1<p.1)->low (P.map fun q=>q.1) p.1=i:=fun hn=>
     low_eq (by simpa using hi) (fun j hj hji=>by rw [List.getElem_map];exact hlo j (by simpa using hj) hji) (fun hi=>by rw [List.getElem_map];exact hn (by simpa using hi))
    have ne3:(h.length+1==h.length)=false:=by simp
    have hins:((insP P p).map pip).flatten=((P.take (low (P.map fun q=>q.1) p.1)).map pip).flatten ++ .int .i64 p.1 :: .int .i64 p.2.1 :: .int .i64 p.2.2.1 :: .int .i64 p.2.2.2::((P.drop (low (P.map fun q=>q.1) p.1)).map pip).flatten:=by
     simp [insP,insAt,pip]
    have hlen:(insP P p).length=P.length+1:=insAt_len insP_k
    have hidx:h.length+(t.length+1+1+1)+1=h.length+(t.length+1+1+1+1):=rfl
    have big:P.length*32<=140737488355328:=by omega
    by_cases hlt:i<P.length
    ·have hlt':i<(P.map pip).length:=by simpa using hlt
     have hz:(i:Int)<P.length:=by omega
     have ws:=wsucc hlt (by omega)
     obtain ⟨id2,o,k,hv',hk,_,hd,hb,hrow,hat⟩:=sP.at hlt'
     obtain rfl:a=some ⟨id2,o,none⟩:=by simpa using hv'
     have g0:=hat 0 (by omega)
     rw [List.getElem_map] at g0
     simp only [pip,List.getElem?_cons_zero,Nat.add_zero] at g0
     by_cases c:P[i].1<p.1
     ·simp only [go_sem,e2,e3,e4,e6,hz,hk,hd,g0,c]
      refine ⟨hlt,t,⟨e2,e3,e4,congrArg _ ws,trivial⟩, .rfl,fun j hj hji => ?_⟩
      by_cases hj2:j<i
      ·exact hlo j hj hj2
      ·obtain rfl:j=i:=by omega
       exact c
     ·have hlow:=fin (fun _=>c)
      rw [hlow] at hins
      simp only [go_sem,e2,e3,e4,e6,hz,hk,hd,g0,c]
      have hn:0<P.length:=by omega
      have c1:0<P.length-i:=by omega
      have hne:P.map pip≠ []:=by intro hh;rw [List.map_eq_nil_iff] at hh;subst hh;simp at hn
      obtain ⟨id3,off,k3,ev,hk3,hd3,hbb,hfl⟩:=sP.copy hne
      rw [List.length_map] at ev hbb hfl
      obtain ⟨rfl,rfl⟩:id3=id2∧off=o:=by
       simp only [Value.slice.injEq,Option.some.injEq,Addr.mk.injEq] at ev
       omega
      obtain ⟨k4,hk4,hez⟩:=es id3 off P.length rfl (by omega)
      have hk0:=hk3 []
      rw [List.append_nil,hk4] at hk0
      cases hk0
      have hidl:=hget_lt hk4
      have ne1:(id3==h.length)=false:=by simp;omega
      have ne2:(id3==h.length+1)=false:=by simp;omega
      have f1:=rowsTake pip4 hfl (i:=i) (by omega)
      have f2:=rowsDrop pip4 hfl (i:=i) (by omega)
      have o1:=oneP (P.take i)
      have o2:=oneP (P.drop i)
      refine onEarly_on [h.length,h.length+1,id3] [⟨[.int .i64 p.1, .int .i64 p.2.1, .int .i64 p.2.2.1, .int .i64 p.2.2.2],4, .rw⟩] (by simp) ?_
      by_cases i0:i=0
      ·subst i0
       simp only [Nat.zero_mul,Nat.sub_zero,Nat.add_zero,List.drop_zero] at f2 o2
       simp only [go_sem,e2,e3,e4,e6,ne1,ne2,ne3,hidx,onSl_more hn,slId_more hn,hk3,hd3,hez,onApp_more hn,f2,o2,hn,big]
       refine ⟨by omega,by omega,by omega,by omega,by omega, ?_⟩
       refine ⟨by kernel_rfl,(c_l2Good _ N (insP P p) ⟨_,rfl,FQs.sbQ (frG (lo:=0) (hi:=h.length+(t.length+12)) (j:=t.length+4+1+1+1) pip4 (by first|(rw [hins];done)|(rw [hins];simp;done)| (rw [hins];simp;omega)) (by rw [hlen];omega) (Nat.zero_le _) (by omega))⟩ (by rw [hlen];omega)).use (fun _ m=>m) ?_⟩
       rintro _ _ ⟨rfl,⟨t5,rfl⟩⟩
       by_cases h3:netGood N (insP P p)
       ·have ok:addOk N P p:=⟨h1,h3⟩
        simp only [go_sem,e2,e3,e4,e6,decb h3,hidx]
        refine ⟨_,by rw [decide_eq_true ok,addN,if_pos ok], ?_⟩
        rw [addR,if_pos ok]
        exact frG (j:=t.length+4+1+1+1) pip4 (by first|(rw [hins];done)|(rw [hins];simp;done)| (rw [hins];simp;omega)) (by rw [hlen];omega) (by omega) (by omega)
       ·have nok: ¬addOk N P p:=fun hh=>h3 hh.2
        simp only [go_sem,e2,e3,e4,e6,dect h3,hidx]
        exact no _ _ _ nok
      ·have hip:0<i:=by omega
       simp only [go_sem,e2,e3,e4,e6,ne1,ne2,ne3,hidx,onSl_more hn,slId_more hn,hk3,hd3,hez,onApp_more hip,onApp_more c1,f1,f2,o1,o2,c1]
       refine ⟨by omega,by omega,hip,by omega,by omega,by omega,by rw [flP,List.length_take];omega,by omega,by omega,by omega,by rw [flP,List.length_take];omega,by omega,by omega,by omega, ?_⟩
       refine ⟨by kernel_rfl,(c_l2Good _ N (insP P p) ⟨_,rfl,FQs.sbQ (frG (lo:=0) (hi:=h.length+(t.length+12)) (j:=t.length+5+1+1+1) pip4 (by first|(rw [hins];done)|(rw [hins];simp;done)| (rw [hins];simp;omega)) (by rw [hlen];omega) (Nat.zero_le _) (by omega))⟩ (by rw [hlen];omega)).use (fun _ m=>m) ?_⟩
       rintro _ _ ⟨rfl,⟨t5,rfl⟩⟩
       by_cases h3:netGood N (insP P p)
       ·have ok:addOk N P p:=⟨h1,h3⟩
        simp only [go_sem,e2,e3,e4,e6,decb h3,hidx]
        refine ⟨_,by rw [decide_eq_true ok,addN,if_pos ok], ?_⟩
        rw [addR,if_pos ok]
        exact frG (j:=t.length+5+1+1+1) pip4 (by first|(rw [hins];done)|(rw [hins];simp;done)| (rw [hins];simp;omega)) (by rw [hlen];omega) (by omega) (by omega)
       ·have nok: ¬addOk N P p:=fun hh=>h3 hh.2
        simp only [go_sem,e2,e3,e4,e6,dect h3,hidx]
        exact no _ _ _ nok
    ·obtain rfl:i=P.length:=by omega
     have hlow:=fin (fun hi=>absurd hi (by omega))
     rw [hlow] at hins
     simp only [go_sem,e2,e3,e4,e6,show ¬((P.length:Int)<P.length) by omega]
     by_cases p0:P= []
     ·have l0:P.length=0:=by simp [p0]
      refine onEarly_on [h.length,h.length+1] [⟨[.int .i64 p.1, .int .i64 p.2.1, .int .i64 p.2.2.1, .int .i64 p.2.2.2],4, .rw⟩] (by simp) ?_
      simp only [go_sem,e2,e3,e4,e6,ne3,hidx,l0]
      refine ⟨by kernel_rfl,(c_l2Good _ N (insP P p) ⟨_,rfl,FQs.sbQ (frG (lo:=0) (hi:=h.length+(t.length+12)) (j:=t.length+3+1+1+1) pip4 (by rw [hins];simp [p0]) (by rw [hlen];omega) (Nat.zero_le _) (by omega))⟩ (by rw [hlen];omega)).use (fun _ m=>m) ?_⟩
      rintro _ _ ⟨rfl,⟨t5,rfl⟩⟩
      by_cases h3:netGood N (insP P p)
      ·have ok:addOk N P p:=⟨h1,h3⟩
       simp only [go_sem,e2,e3,e4,e6,decb h3,hidx,l0]
       refine ⟨_,by rw [decide_eq_true ok,addN,if_pos ok], ?_⟩
       rw [addR,if_pos ok]
       exact frG (j:=t.length+3+1+1+1) pip4 (by rw [hins];simp [p0]) (by rw [hlen];omega) (by omega) (by omega)
      ·have nok: ¬addOk N P p:=fun hh=>h3 hh.2
       simp only [go_sem,e2,e3,e4,e6,dect h3,hidx,l0]
       exact no _ _ _ nok
     ·have hn:0<P.length:=List.length_pos_iff.2 p0
      have hne:P.map pip≠ []:=by intro hh;rw [List.map_eq_nil_iff] at hh;subst hh;simp at hn
      obtain ⟨id3,off,k3,ev,hk3,hd3,hbb,hfl⟩:=sP.copy hne
      rw [List.length_map] at ev hbb hfl
      obtain rfl:a=some ⟨id3,off,none⟩:=by simpa using ev
      obtain ⟨k4,hk4,hez⟩:=es id3 off P.length rfl (by omega)
      have hk0:=hk3 []
      rw [List.append_nil,hk4] at hk0
      cases hk0
      have hidl:=hget_lt hk4
      have ne1:(id3==h.length)=false:=by simp;omega
      have ne2:(id3==h.length+1)=false:=by simp;omega
      have f1:=rowsTake pip4 hfl (i:=P.length) (by omega)
      have f2:=rowsDrop pip4 hfl (i:=P.length) (by omega)
      have o1:=oneP (P.take P.length)
      have o2:=oneP (P.drop P.length)
      refine onEarly_on [h.length,h.length+1,id3] [⟨[.int .i64 p.1, .int .i64 p.2.1, .int .i64 p.2.2.1, .int .i64 p.2.2.2],4, .rw⟩] (by simp) ?_
      simp only [go_sem,e2,e3,e4,e6,ne1,ne2,ne3,hidx,onSl_more hn,slId_more hn,hk3,hd3,hez,onApp_more hn,f1,o1,Nat.sub_self,big]
      refine ⟨by omega,by omega,by omega,by omega,by rw [flP,List.length_take];omega,by omega,by omega, ?_⟩
      refine ⟨by kernel_rfl,(c_l2Good _ N (insP P p) ⟨_,rfl,FQs.sbQ (frG (lo:=0) (hi:=h.length+(t.length+12)) (j:=t.length+4+1+1+1) pip4 (by first|(rw [hins];done)|(rw [hins];simp;done)| (rw [hins];simp;omega)) (by first|exact hlen.symm|(rw [hlen];omega)) (Nat.zero_le _) (by omega))⟩ (by rw [hlen];omega)).use (fun _ m=>m) ?_⟩
      rintro _ _ ⟨rfl,⟨t5,rfl⟩⟩
      by_cases h3:netGood N (insP P p)
      ·have ok:addOk N P p:=⟨h1,h3⟩
       simp only [go_sem,e2,e3,e4,e6,decb h3,hidx]
       refine ⟨_,by rw [decide_eq_true ok,addN,if_pos ok], ?_⟩
       rw [addR,if_pos ok]
       exact frG (j:=t.length+4+1+1+1) pip4 (by first|(rw [hins];done)|(rw [hins];simp;done)| (rw [hins];simp;omega)) (by first|exact hlen.symm|(rw [hlen];omega)) (by omega) (by omega)
      ·have nok: ¬addOk N P p:=fun hh=>h3 hh.2
       simp only [go_sem,e2,e3,e4,e6,dect h3,hidx]
       exact no _ _ _ nok
 ·have nok: ¬addOk N P p:=fun hh=>h1 hh.1
  simp only [go_sem,dect h1]
  exact no _ _ _ nok
end
open Go Go.HH Go.Proofs Go.RowKit
section
variable {h : Heap} {M : Nat → Prop}
theorem c_insV (id jd:Nat) (L:List Vlv) (x:Vlv) (i:Nat) (hi:i<=L.length) (hid:hget h id=some ⟨(L.map vlv).flatten,4, .rw⟩) (hM:M id) (hjd:hget h jd=some ⟨vlv x,4, .rw⟩) (hne:jd≠id) (hl:L.length<=1048576) :
  vCall [] Tryz.prog M 139 [.slice (some ⟨id,0,none⟩) L.length 0, .int .i64 i, .slice (some ⟨jd,0,none⟩) 1 0] h
   (fun r h'=>r = .slice (some ⟨h.length,0,none⟩) (L.length+1) 0∧h'=h.set id ⟨(L.map vlv).flatten,4, .dead⟩++ [⟨((insAt L i x).map vlv).flatten,4, .rw⟩]):=by
 have hcl:=rowsLen vlv4 L
 have hins:((insAt L i x).map vlv).flatten=((L.map vlv).flatten).take (i*4)++vlv x++((L.map vlv).flatten).drop (i*4):=by
  have h0:(((L.map vlv).flatten).drop 0).take (L.length*4)=(L.map vlv).flatten:=by rw [List.drop_zero,List.take_of_length_le (by rw [hcl];exact Nat.le_refl _)]
  have f1:=rowsTake vlv4 h0 hi
  have f2:=rowsDrop vlv4 h0 hi
  rw [List.drop_zero] at f1
  have h3:(((L.map vlv).flatten).drop (i*4)).length<=(L.length-i)*4:=by rw [List.length_drop,hcl];omega
  rw [Nat.zero_add,List.take_of_length_le h3] at f2
  rw [f1,f2,insAt,List.map_append,List.map_cons,List.flatten_append,List.flatten_cons,List.append_assoc]
 have hone: ∀v∈(L.map vlv).flatten,oneC v=true:=List.all_eq_true.1 (rows_one fun r hr=>by obtain ⟨x,_,rfl⟩:=List.mem_map.1 hr;rfl)
 have honex: ∀v∈vlv x,oneC v=true:=fun v hv=>by simp only [vlv,List.mem_cons,List.not_mem_nil,or_false] at hv;rcases hv with rfl|rfl|rfl|rfl<;>rfl
 rcases Nat.lt_or_eq_of_le hi with hlt|rfl
 ·refine ⟨_,_,fun p w vs hh hv => ?_,rfl,rfl⟩
  have hn:0<L.length:=by omega
  obtain ⟨hvl,hv⟩:=hv
  have v0:=hv 0 (by simp) (by simp at hvl;omega)
  have v1:=hv 1 (by simp) (by simp at hvl;omega)
  have v2:=hv 2 (by simp) (by simp at hvl;omega)
  simp only [List.getElem_toArray,List.getElem_cons_zero,List.getElem_cons_succ] at v0 v1 v2
  obtain ⟨tg,cap,p0,hcap,hfit,e0⟩:=v0.slice_inv hn
  obtain ⟨tj,capj,pj,hcapj,hfitj,ej⟩:=v2.slice_inv (by omega)
  have e1:=(Plain.int .i64 (i:Int)).eq v1
  have hvs:vs= #[.slice (some ⟨tg.b,0+tg.d,none⟩) L.length cap, .int .i64 i, .slice (some ⟨tj.b,0+tj.d,none⟩) 1 capj]:=by
   refine Array.ext (by simpa using hvl.symm) fun k a b => ?_
   match k,a,b with
   | 0,_,_=>exact e0
   | 1,_,_=>exact e1
   | 2,_,_=>exact ej
  subst hvs
  have hid':h[id]? = some ⟨(L.map vlv).flatten,4, .rw⟩:=hid
  have hjd':h[jd]? = some ⟨vlv x,4, .rw⟩:=hjd
  obtain ⟨b1,c,ele,fr,b2,b3,b4,b5,b6⟩:=hh.blk id tg _ trivial p0 hid' (fun hh=>by cases hh)
  obtain ⟨j1,cj,elj,frj,j2,j3,j4,j5,j6⟩:=hh.blk jd tj _ trivial pj hjd' (fun hh=>by cases hh)
  simp only at b1 b4 b5 b6 j1 j4 j5 j6
  have hbne:tj.b≠tg.b:=fun hb=>hne (hh.inj jd id tj tg _ _ pj p0 hjd' hid' rfl (fun hh=>by cases hh) hb)
  obtain ⟨cs,l1,l2,l3⟩:=hh.cells (off:=0) (n:=L.length*4) trivial p0 hid' (fun hh=>by cases hh) (by rw [hcl];omega)
  obtain ⟨xs,x1,x2,x3⟩:=hh.cells (off:=0) (n:=4) trivial pj hjd' (fun hh=>by cases hh) (by simp [vlv])
  simp only [List.drop_zero] at l1 x1
  rw [List.take_of_length_le (by rw [hcl];exact Nat.le_refl _)] at l1
  rw [List.take_of_length_le (by simp [vlv])] at x1
  have oc: ∀v∈cs,oneC v=true:=l1.oneC hone
  have ox: ∀v∈xs,oneC v=true:=x1.oneC honex
  have hbw:=(hh.dom id tg p0).2
  have hjw:=(hh.dom jd tj pj).2
  have hx3: ∀j v,xs[j]? = some v->w.cell? ⟨tj.b,0+tj.d+j,none⟩=some v:=fun j v hj=>by have:=x3 j v hj;rwa [Addr.add_lit] at this
  have hl3: ∀j v,cs[j]? = some v->w.cell? ⟨tg.b,0+tg.d+j,none⟩=some v:=fun j v hj=>by have:=l3 j v hj;rwa [Addr.add_lit] at this
  have hrel:LRel p (((insAt L i x).map vlv).flatten) (cs.take (i*4)++xs++cs.drop (i*4)):=by
   rw [hins]
   exact ((l1.take _).append x1).append (l1.drop _)
  have hnl:(((insAt L i x).map vlv).flatten).length=(L.length+1)*4:=by rw [rowsLen vlv4,insAt_len hi]
  by_cases hroom:L.length+1<=cap
  ·have htg:tg.esz=4:=b1.symm
   have hmul:(L.length+1)*4<=cap*4:=Nat.mul_le_mul_right _ hroom
   rw [htg] at hfit
   have hcs:(c.toList.drop (0+tg.d)).take (L.length*4)=cs:=by
    refine List.ext_getElem? fun j => ?_
    rcases Nat.lt_or_ge j (L.length*4) with hj|hj
    ·have:=hl3 j cs[j] (List.getElem?_eq_getElem (by omega))
     unfold World.cell? at this
     simp only [b2] at this
     rw [List.getElem?_take,if_pos hj,List.getElem?_drop,Array.getElem?_toList,List.getElem?_eq_getElem (by omega)]
     simpa using this
    ·rw [List.getElem?_eq_none (by rw [List.length_take];omega),List.getElem?_eq_none (by omega)]
   refine (ins_shiftV tg.b (0+tg.d) L.length cap i tj.b (0+tj.d) capj cs xs w c ele fr cj elj frj hlt hroom hl hbne (by omega) x2 b2 (fun o ho=>b6 trivial o (by omega)) (by omega) hcs j2 (fun o ho=>j6 trivial o (by omega)) (by omega) hx3 oc ox).mono ?_
   ·rintro e w' ⟨R,rfl,g1,g2,g3,g4,g5,g6,g7,g8⟩
    obtain ⟨r1,x1⟩:=hh.over (M:=M) (off:=0) (C:=R) p0 hid' rfl hM b2 g1 g2 g3 g4 g6 g7 g8 (cells:=((insAt L i x).map vlv).flatten) (by rw [hnl,g5];exact hrel) (by rw [hnl];omega)
    refine ⟨_,_,rfl, ?_,r1,x1⟩
    have:=VRel.slice (p:=phiPush p h.length ⟨tg.b,0+tg.d,4,tg.n⟩) (off:=0) (len:=L.length+1) (cap:=cap) phiPush_same hroom (by simp only;omega)
    simpa using this
  ·refine (ins_growV tg.b (0+tg.d) L.length cap i tj.b (0+tj.d) capj cs xs w hlt hcap (by omega) (by omega) (by omega) x2 hbw hjw hl3 hx3 oc ox).mono ?_
   rintro e w' ⟨Gc,C,el,rfl,g1,g2,g3,g4,g6,g7,g8⟩
   obtain ⟨r1,x1⟩:=hh.anew (M:=M) (id:=id) hid' (esz:=4) g2 g6 g7 g8 (cells:=((insAt L i x).map vlv).flatten) (by rw [hnl,g4];exact hrel) (by rw [hnl,g3];omega)
   refine ⟨_,_,rfl, ?_,r1,x1⟩
   have:=VRel.slice (p:=phiPush p h.length ⟨w.heap.size,0,4,C.size⟩) (off:=0) (len:=L.length+1) (cap:=Gc) phiPush_same g1 (by simp only;omega)
   simpa using this
 ·have hx1:insAt L L.length x=L++ [x]:=by rw [insAt,List.take_length,List.drop_length]
  rw [hx1]
  have hfl:((L++ [x]).map vlv).flatten=(L.map vlv).flatten++vlv x:=by simp
  have ox1:(vlv x).all oneC=true:=List.all_eq_true.2 honex
  refine body_of mo Tryz.func139 rfl (by kernel_rfl) (Nat.le_of_ble_eq_true (by kernel_rfl)) rfl ?_
  by_cases l0:L= []
  ·subst l0
   simp only [go_sem,hid,hjd,List.length_nil,show ((1:Int)==0)=false from rfl,beq_self_eq_true,ox1]
   have t4:List.take 4 (vlv x)=vlv x:=rfl
   refine ⟨.inr hM,rfl,Nat.le_refl _,by rw [t4];exact ox1, ?_⟩
   rw [t4];simp
  ·have hn:0<L.length:=List.length_pos_iff.2 l0
   simp only [go_sem,hid,hjd,onSl_more hn,show ((1:Int)==0)=false from rfl,beq_self_eq_true,ox1]
   have t4:List.take 4 (vlv x)=vlv x:=rfl
   refine ⟨.inr hM,hcl.symm,Nat.le_refl _,by rw [t4];exact ox1,by omega,by omega, ?_⟩
   rw [t4,hfl]
theorem c_insP (id jd:Nat) (L:List Pip) (x:Pip) (i:Nat) (hi:i<=L.length) (hid:hget h id=some ⟨(L.map pip).flatten,4, .rw⟩) (hM:M id) (hjd:hget h jd=some ⟨pip x,4, .rw⟩) (hne:jd≠id) (hl:L.length<=1048576) :
  vCall [] Tryz.prog M 173 [.slice (some ⟨id,0,none⟩) L.length 0, .int .i64 i, .slice (some ⟨jd,0,none⟩) 1 0] h
   (fun r h'=>r = .slice (some ⟨h.length,0,none⟩) (L.length+1) 0∧h'=h.set id ⟨(L.map pip).flatten,4, .dead⟩++ [⟨((insAt L i x).map pip).flatten,4, .rw⟩]):=by
 have hcl:=rowsLen pip4 L
 have hins:((insAt L i x).map pip).flatten=((L.map pip).flatten).take (i*4)++pip x++((L.map pip).flatten).drop (i*4):=by
  have h0:(((L.map pip).flatten).drop 0).take (L.length*4)=(L.map pip).flatten:=by rw [List.drop_zero,List.take_of_length_le (by rw [hcl];exact Nat.le_refl _)]
  have f1:=rowsTake pip4 h0 hi
  have f2:=rowsDrop pip4 h0 hi
  rw [List.drop_zero] at f1
  have h3:(((L.map pip).flatten).drop (i*4)).length<=(L.length-i)*4:=by rw [List.length_drop,hcl];omega
  rw [Nat.zero_add,List.take_of_length_le h3] at f2
  rw [f1,f2,insAt,List.map_append,List.map_cons,List.flatten_append,List.flatten_cons,List.append_assoc]
 have hone: ∀v∈(L.map pip).flatten,oneC v=true:=List.all_eq_true.1 (rows_one fun r hr=>by obtain ⟨x,_,rfl⟩:=List.mem_map.1 hr;rfl)
 have honex: ∀v∈pip x,oneC v=true:=fun v hv=>by simp only [pip,List.mem_cons,List.not_mem_nil,or_false] at hv;rcases hv with rfl|rfl|rfl|rfl<;>rfl
 rcases Nat.lt_or_eq_of_le hi with hlt|rfl
 ·refine ⟨_,_,fun p w vs hh hv => ?_,rfl,rfl⟩
  have hn:0<L.length:=by omega
  obtain ⟨hvl,hv⟩:=hv
  have v0:=hv 0 (by simp) (by simp at hvl;omega)
  have v1:=hv 1 (by simp) (by simp at hvl;omega)
  have v2:=hv 2 (by simp) (by simp at hvl;omega)
  simp only [List.getElem_toArray,List.getElem_cons_zero,List.getElem_cons_succ] at v0 v1 v2
  obtain ⟨tg,cap,p0,hcap,hfit,e0⟩:=v0.slice_inv hn
  obtain ⟨tj,capj,pj,hcapj,hfitj,ej⟩:=v2.slice_inv (by omega)
  have e1:=(Plain.int .i64 (i:Int)).eq v1
  have hvs:vs= #[.slice (some ⟨tg.b,0+tg.d,none⟩) L.length cap, .int .i64 i, .slice (some ⟨tj.b,0+tj.d,none⟩) 1 capj]:=by
   refine Array.ext (by simpa using hvl.symm) fun k a b => ?_
   match k,a,b with
   | 0,_,_=>exact e0
   | 1,_,_=>exact e1
   | 2,_,_=>exact ej
  subst hvs
  have hid':h[id]? = some ⟨(L.map pip).flatten,4, .rw⟩:=hid
  have hjd':h[jd]? = some ⟨pip x,4, .rw⟩:=hjd
  obtain ⟨b1,c,ele,fr,b2,b3,b4,b5,b6⟩:=hh.blk id tg _ trivial p0 hid' (fun hh=>by cases hh)
  obtain ⟨j1,cj,elj,frj,j2,j3,j4,j5,j6⟩:=hh.blk jd tj _ trivial pj hjd' (fun hh=>by cases hh)
  simp only at b1 b4 b5 b6 j1 j4 j5 j6
  have hbne:tj.b≠tg.b:=fun hb=>hne (hh.inj jd id tj tg _ _ pj p0 hjd' hid' rfl (fun hh=>by cases hh) hb)
  obtain ⟨cs,l1,l2,l3⟩:=hh.cells (off:=0) (n:=L.length*4) trivial p0 hid' (fun hh=>by cases hh) (by rw [hcl];omega)
  obtain ⟨xs,x1,x2,x3⟩:=hh.cells (off:=0) (n:=4) trivial pj hjd' (fun hh=>by cases hh) (by simp [pip])
  simp only [List.drop_zero] at l1 x1
  rw [List.take_of_length_le (by rw [hcl];exact Nat.le_refl _)] at l1
  rw [List.take_of_length_le (by simp [pip])] at x1
  have oc: ∀v∈cs,oneC v=true:=l1.oneC hone
  have ox: ∀v∈xs,oneC v=true:=x1.oneC honex
  have hbw:=(hh.dom id tg p0).2
  have hjw:=(hh.dom jd tj pj).2
  have hx3: ∀j v,xs[j]? = some v->w.cell? ⟨tj.b,0+tj.d+j,none⟩=some v:=fun j v hj=>by have:=x3 j v hj;rwa [Addr.add_lit] at this
  have hl3: ∀j v,cs[j]? = some v->w.cell? ⟨tg.b,0+tg.d+j,none⟩=some v:=fun j v hj=>by have:=l3 j v hj;rwa [Addr.add_lit] at this
  have hrel:LRel p (((insAt L i x).map pip).flatten) (cs.take (i*4)++xs++cs.drop (i*4)):=by
   rw [hins]
   exact ((l1.take _).append x1).append (l1.drop _)
  have hnl:(((insAt L i x).map pip).flatten).length=(L.length+1)*4:=by rw [rowsLen pip4,insAt_len hi]
  by_cases hroom:L.length+1<=cap
  ·have htg:tg.esz=4:=b1.symm
   have hmul:(L.length+1)*4<=cap*4:=Nat.mul_le_mul_right _ hroom
   rw [htg] at hfit
   have hcs:(c.toList.drop (0+tg.d)).take (L.length*4)=cs:=by
    refine List.ext_getElem? fun j => ?_
    rcases Nat.lt_or_ge j (L.length*4) with hj|hj
    ·have:=hl3 j cs[j] (List.getElem?_eq_getElem (by omega))
     unfold World.cell? at this
     simp only [b2] at this
     rw [List.getElem?_take,if_pos hj,List.getElem?_drop,Array.getElem?_toList,List.getElem?_eq_getElem (by omega)]
     simpa using this
    ·rw [List.getElem?_eq_none (by rw [List.length_take];omega),List.getElem?_eq_none (by omega)]
   refine (ins_shiftP tg.b (0+tg.d) L.length cap i tj.b (0+tj.d) capj cs xs w c ele fr cj elj frj hlt hroom hl hbne (by omega) x2 b2 (fun o ho=>b6 trivial o (by omega)) (by omega) hcs j2 (fun o ho=>j6 trivial o (by omega)) (by omega) hx3 oc ox).mono ?_
   ·rintro e w' ⟨R,rfl,g1,g2,g3,g4,g5,g6,g7,g8⟩
    obtain ⟨r1,x1⟩:=hh.over (M:=M) (off:=0) (C:=R) p0 hid' rfl hM b2 g1 g2 g3 g4 g6 g7 g8 (cells:=((insAt L i x).map pip).flatten) (by rw [hnl,g5];exact hrel) (by rw [hnl];omega)
    refine ⟨_,_,rfl, ?_,r1,x1⟩
    have:=VRel.slice (p:=phiPush p h.length ⟨tg.b,0+tg.d,4,tg.n⟩) (off:=0) (len:=L.length+1) (cap:=cap) phiPush_same hroom (by simp only;omega)
    simpa using this
  ·refine (ins_growP tg.b (0+tg.d) L.length cap i tj.b (0+tj.d) capj cs xs w hlt hcap (by omega) (by omega) (by omega) x2 hbw hjw hl3 hx3 oc ox).mono ?_
   rintro e w' ⟨Gc,C,el,rfl,g1,g2,g3,g4,g6,g7,g8⟩
   obtain ⟨r1,x1⟩:=hh.anew (M:=M) (id:=id) hid' (esz:=4) g2 g6 g7 g8 (cells:=((insAt L i x).map pip).flatten) (by rw [hnl,g4];exact hrel) (by rw [hnl,g3];omega)
   refine ⟨_,_,rfl, ?_,r1,x1⟩
   have:=VRel.slice (p:=phiPush p h.length ⟨w.heap.size,0,4,C.size⟩) (off:=0) (len:=L.length+1) (cap:=Gc) phiPush_same g1 (by simp only;omega)
   simpa using this
 ·have hx1:insAt L L.length x=L++ [x]:=by rw [insAt,List.take_length,List.drop_length]
  rw [hx1]
  have hfl:((L++ [x]).map pip).flatten=(L.map pip).flatten++pip x:=by simp
  have ox1:(pip x).all oneC=true:=List.all_eq_true.2 honex
  refine body_of mo Tryz.func173 rfl (by kernel_rfl) (Nat.le_of_ble_eq_true (by kernel_rfl)) rfl ?_
  by_cases l0:L= []
  ·subst l0
   simp only [go_sem,hid,hjd,List.length_nil,show ((1:Int)==0)=false from rfl,beq_self_eq_true,ox1]
   have t4:List.take 4 (pip x)=pip x:=rfl
   refine ⟨.inr hM,rfl,Nat.le_refl _,by rw [t4];exact ox1, ?_⟩
   rw [t4];simp
  ·have hn:0<L.length:=List.length_pos_iff.2 l0
   simp only [go_sem,hid,hjd,onSl_more hn,show ((1:Int)==0)=false from rfl,beq_self_eq_true,ox1]
   have t4:List.take 4 (pip x)=pip x:=rfl
   refine ⟨.inr hM,hcl.symm,Nat.le_refl _,by rw [t4];exact ox1,by omega,by omega, ?_⟩
   rw [t4,hfl]
theorem c_ins0V (X jd:Nat) (x:Vlv) (hX:h.length<=X) (hjd:hget h jd=some ⟨vlv x,4, .rw⟩) :
  vCall [] Tryz.prog M 139 [.slice (some ⟨X,0,none⟩) 0 0, .int .i64 0, .slice (some ⟨jd,0,none⟩) 1 0] h
   (fun r h'=>r = .slice (some ⟨h.length,0,none⟩) 1 0∧h'=h++ [⟨vlv x,4, .rw⟩]):=by
 refine ⟨_,_,fun p w vs hh hv => ?_,rfl,rfl⟩
 obtain ⟨hvl,hv⟩:=hv
 have v0:=hv 0 (by simp) (by simp at hvl;omega)
 have v1:=hv 1 (by simp) (by simp at hvl;omega)
 have v2:=hv 2 (by simp) (by simp at hvl;omega)
 simp only [List.getElem_toArray,List.getElem_cons_zero,List.getElem_cons_succ] at v0 v1 v2
 obtain ⟨b,e0⟩: ∃b,vs[0]'(by simp at hvl;omega) = .slice (some b) 0 0:=by
  generalize vs[0]'(by simp at hvl;omega)=u at v0
  cases v0 with
  | slice f1 _ _=>exact absurd (hh.dom _ _ f1).1 (by omega)
  | @sliceEmpty _ a'=>exact ⟨a',rfl⟩
 obtain ⟨tj,capj,pj,hcapj,hfitj,ej⟩:=v2.slice_inv (by omega)
 have e1:=(Plain.int .i64 0).eq v1
 have hvs:vs= #[.slice (some b) 0 0, .int .i64 0, .slice (some ⟨tj.b,0+tj.d,none⟩) 1 capj]:=by
  refine Array.ext (by simpa using hvl.symm) fun k a b => ?_
  match k,a,b with
  | 0,_,_=>exact e0
  | 1,_,_=>exact e1
  | 2,_,_=>exact ej
 subst hvs
 have hjd':h[jd]? = some ⟨vlv x,4, .rw⟩:=hjd
 obtain ⟨xs,x1,x2,x3⟩:=hh.cells (off:=0) (n:=4) trivial pj hjd' (fun hh=>by cases hh) (by simp [vlv])
 simp only [List.drop_zero] at x1
 rw [List.take_of_length_le (by simp [vlv])] at x1
 refine (ins_oneV b tj.b (0+tj.d) capj xs w x2 (fun j v hj=>by have:=x3 j v hj;rwa [Addr.add_lit] at this)).mono ?_
 rintro e w' ⟨Gc,C,el,rfl,g1,g2,g3,g4,g6,g7,g8⟩
 obtain ⟨d1,d2⟩:=hh.push (M:=M) (cells:=vlv x) (c:=C) 4 el .rw (0,0) (by rw [show (vlv x).length=4 from rfl,g4];exact x1) (by rw [show (vlv x).length=4 from rfl,g3];omega) (fun o _=>by omega)
 refine ⟨_,_,rfl, ?_,(d1.sameHeap g2).weaken fun _ _ _ _ => .inl trivial,⟨d2.le,d2.new,d2.len,fun b hb hm=>by rw [g2];exact d2.frame b hb hm,by rw [g2];exact d2.size,g6,g7,g8⟩⟩
 have:=VRel.slice (p:=phiPush p h.length ⟨w.heap.size,0,4,C.size⟩) (off:=0) (len:=1) (cap:=Gc) phiPush_same g1 (by simp only;omega)
 simpa using this
end
open Go.HH Go.Proofs
section
variable {h : Heap} {M : Nat → Prop}
set_option maxRecDepth 4000 in
theorem c_AddPipe {n:Nat} (w:Value) (N:Int) (P:List Pip) (p:Pip) (sB:SB n 4 h w (P.map pip)) (hP:P.length<=1048576) :
  vCall [] Tryz.prog M 138 [.agg #[.int .i64 N,w], .agg #[.int .i64 p.1, .int .i64 p.2.1, .int .i64 p.2.2.1, .int .i64 p.2.2.2]] h
   (fun r h'=>(∃x,r = .tuple #[.agg #[.int .i64 (addN N P p),x], .bool (decide (addOk N P p))]∧FQs h.length h'.length 4 h' x ((addR N P p).map pip))∧h<+:h'):=by
 have hv:NA n h (.agg #[.int .i64 N,w]) N P:=⟨w,rfl,sB⟩
 have sP:Sl h 4 w (P.map pip):=sB.1
 obtain ⟨a,rfl⟩:=Sl.len4 sP
 have no: ∀(lo hi:Nat) (H:Heap),¬addOk N P p->∃x,Value.tuple #[.agg #[.int .i64 0, .slice none 0 0], .bool false] = .tuple #[.agg #[.int .i64 (addN N P p),x], .bool (decide (addOk N P p))]∧FQs lo hi 4 H x ((addR N P p).map pip):=fun lo hi H hn=>by
  rw [decide_eq_false hn,addN,addR,if_neg hn,if_neg hn]
  exact ⟨_,rfl,fq0⟩
 refine body_ofR ([(6,[1,9,2007,3008,5000])]) mo Tryz.func138 rfl (by kernel_rfl) (Nat.le_of_ble_eq_true (by kernel_rfl)) rfl ?_
 simp only [go_sem]
 refine ⟨by kernel_rfl,(c_IsValidNetwork _ N P (hv.mono (by simp)) hP).use (fun _ m=>m) ?_⟩
 rintro _ _ ⟨rfl,⟨t0,rfl⟩⟩
 by_cases h1:netGood N P
 ·have hP10:P.length<=10:=h1.2.2
  simp only [go_sem,decb h1]
  refine vLoopR.count mo P.length (fun i e h'=> ∃(t:Heap),Regs e [(2, .pointer (some ⟨h.length,0,none⟩)),(3, .pointer (some ⟨h.length+1,0,none⟩)),(4, .pointer (some ⟨h.length+2,0,none⟩)),(6, .int .i64 i)] ∧
   HeapIs h' (h++(⟨[.int .i64 N, .slice a P.length 0],2, .rw⟩::⟨[.int .i64 p.1, .int .i64 p.2.1, .int .i64 p.2.2.1, .int .i64 p.2.2.2],4, .rw⟩::⟨[.int .i64 0, .slice none 0 0],2, .rw⟩::t)) ∧
   ∀(j:Nat) (hj:j<P.length),j<i->P[j].1<p.1) ?_ ?_
  ·exact ⟨_,⟨rfl,rfl,rfl,rfl,trivial⟩, .rfl,fun j _ hj=>absurd hj (by omega)⟩
  ·rintro i e _ hi ⟨t,⟨e2,e3,e4,e6,_⟩,rfl,hlo⟩
   have fin:(∀hi:i<P.length,¬P[i].1<p.1)->low (P.map fun q=>q.1) p.1=i:=fun hn=>
    low_eq (by simpa using hi) (fun j hj hji=>by rw [List.getElem_map];exact hlo j (by simpa using hj) hji) (fun hi=>by rw [List.getElem_map];exact hn (by simpa using hi))
   have ne3:(h.length+1==h.length)=false:=by simp
   have o1:=oneP P
   have hins:((insP P p).map pip).flatten=((P.take (low (P.map fun q=>q.1) p.1)).map pip).flatten ++ .int .i64 p.1 :: .int .i64 p.2.1 :: .int .i64 p.2.2.1 :: .int .i64 p.2.2.2::((P.drop (low (P.map fun q=>q.1) p.1)).map pip).flatten:=by
    simp [insP,insAt,pip]
   have hlen:(insP P p).length=P.length+1:=insAt_len insP_k
   have hidx:h.length+(t.length+1+1+1)+1=h.length+(t.length+1+1+1+1):=rfl
   have big:P.length*32<=140737488355328:=by omega
   by_cases hlt:i<P.length
   ·have hlt':i<(P.map pip).length:=by simpa using hlt
    have hz:(i:Int)<P.length:=by omega
    have ws:=wsucc hlt (by omega)
    obtain ⟨id2,o,k,hv',hk,_,hd,hb,hrow,hat⟩:=sP.at hlt'
    obtain rfl:a=some ⟨id2,o,none⟩:=by simpa using hv'
    have g0:=hat 0 (by omega)
    rw [List.getElem_map] at g0
    simp only [pip,List.getElem?_cons_zero,Nat.add_zero] at g0
    by_cases c:P[i].1<p.1
    ·simp only [go_sem,e2,e3,e4,e6,hz,hk,hd,g0,c]
     refine ⟨hlt,t,⟨e2,e3,e4,congrArg _ ws,trivial⟩, .rfl,fun j hj hji => ?_⟩
     by_cases hj2:j<i
     ·exact hlo j hj hj2
     ·obtain rfl:j=i:=by omega
      exact c
    ·have hlow:=fin (fun _=>c)
     rw [hlow] at hins
     simp only [go_sem,e2,e3,e4,e6,hz,hk,hd,g0,c]
     have hn:0<P.length:=by omega
     have hne:P.map pip≠ []:=by intro hh;rw [List.map_eq_nil_iff] at hh;subst hh;simp at hn
     obtain ⟨id3,off,k3,ev,hk3,hd3,hbb,hfl⟩:=sP.copy hne
     rw [List.length_map] at ev hbb hfl
     obtain ⟨rfl,rfl⟩:id3=id2∧off=o:=by
      simp only [Value.slice.injEq,Option.some.injEq,Addr.mk.injEq] at ev
      omega
     refine onEarly_on [h.length+1] [⟨[.int .i64 p.1, .int .i64 p.2.1, .int .i64 p.2.2.1, .int .i64 p.2.2.2],4, .rw⟩] (by simp) ?_
     simp only [go_sem,e2,e3,e4,e6,ne3,hidx,hk3,hd3,onApp_more hn,hfl,o1,hn,big]
     refine ⟨by omega,by omega, ?_⟩
     refine ⟨by kernel_rfl,(c_insP (h.length+(t.length+3+1+1+1)) (h.length+(t.length+1+1+1)) P p i (by first|exact Nat.le_refl _|omega) (by first|(simp only [go_sem];done)|(simp only [go_sem];rfl)) (.inl (by omega)) (by simp only [go_sem,pip]) (by omega) (by first|omega|simp)).use (fun _ m=>m) ?_⟩
     rintro _ _ ⟨rfl,rfl⟩
     have hnew:insP P p=insAt P i p:=by rw [insP,hlow]
     simp only [go_sem,e2,e3,e4,e6,ne3,hidx]
     refine ⟨by omega, ?_⟩
     refine ⟨by kernel_rfl,(c_IsValidNetwork _ N (insP P p) ⟨_,rfl,FQs.sbQ (frG (lo:=0) (hi:=h.length+(t.length+12)) (j:=t.length+4+1+1+1) pip4 (by rw [hnew];simp) (by first|exact hlen.symm|(rw [hlen];omega)) (Nat.zero_le _) (by omega))⟩ (by rw [hlen];omega)).use (fun _ m=>m) ?_⟩
     rintro _ _ ⟨rfl,⟨t5,rfl⟩⟩
     by_cases h3:netGood N (insP P p)
     ·have ok:addOk N P p:=⟨h1,h3⟩
      simp only [go_sem,e2,e3,e4,e6,decb h3,hidx]
      refine ⟨_,by rw [decide_eq_true ok,addN,if_pos ok], ?_⟩
      rw [addR,if_pos ok]
      exact frG (j:=t.length+4+1+1+1) pip4 (by rw [hnew];simp) (by first|exact hlen.symm|(rw [hlen];omega)) (by omega) (by omega)
     ·have nok: ¬addOk N P p:=fun hh=>h3 hh.2
      simp only [go_sem,e2,e3,e4,e6,dect h3,hidx]
      exact no _ _ _ nok
   ·obtain rfl:i=P.length:=by omega
    have hlow:=fin (fun hi=>absurd hi (by omega))
    rw [hlow] at hins
    simp only [go_sem,e2,e3,e4,e6,show ¬((P.length:Int)<P.length) by omega]
    by_cases p0:P= []
    ·have l0:P.length=0:=by simp [p0]
     refine onEarly_on [h.length+1] [⟨[.int .i64 p.1, .int .i64 p.2.1, .int .i64 p.2.2.1, .int .i64 p.2.2.2],4, .rw⟩] (by simp) ?_
     simp only [go_sem,e2,e3,e4,e6,ne3,hidx,l0]
     refine ⟨by kernel_rfl,(c_insP (h.length+(t.length+2+1+1+1)) (h.length+(t.length+1+1+1)) [] p 0 (by first|exact Nat.le_refl _|omega) (by first|(simp only [go_sem];done)|(simp only [go_sem];rfl)) (.inl (by omega)) (by simp only [go_sem,pip]) (by omega) (by first|omega|simp)).use (fun _ m=>m) ?_⟩
     rintro _ _ ⟨rfl,rfl⟩
     have hnew:insP P p=insAt [] 0 p:=by rw [insP,hlow,p0];rfl
     simp only [go_sem,e2,e3,e4,e6,ne3,hidx,l0]
     refine ⟨by omega, ?_⟩
     refine ⟨by kernel_rfl,(c_IsValidNetwork _ N (insP P p) ⟨_,rfl,FQs.sbQ (frG (lo:=0) (hi:=h.length+(t.length+12)) (j:=t.length+3+1+1+1) pip4 (by rw [hnew];simp) (by first|exact hlen.symm|(rw [hlen];omega)) (Nat.zero_le _) (by omega))⟩ (by rw [hlen];omega)).use (fun _ m=>m) ?_⟩
     rintro _ _ ⟨rfl,⟨t5,rfl⟩⟩
     by_cases h3:netGood N (insP P p)
     ·have ok:addOk N P p:=⟨h1,h3⟩
      simp only [go_sem,e2,e3,e4,e6,decb h3,hidx,l0]
      refine ⟨_,by rw [decide_eq_true ok,addN,if_pos ok], ?_⟩
      rw [addR,if_pos ok]
      exact frG (j:=t.length+3+1+1+1) pip4 (by rw [hnew];simp) (by first|exact hlen.symm|(rw [hlen];omega)) (by omega) (by omega)
     ·have nok: ¬addOk N P p:=fun hh=>h3 hh.2
      simp only [go_sem,e2,e3,e4,e6,dect h3,hidx,l0]
      exact no _ _ _ nok
    ·have hn:0<P.length:=List.length_pos_iff.2 p0
     have hne:P.map pip≠ []:=by intro hh;rw [List.map_eq_nil_iff] at hh;subst hh;simp at hn
     obtain ⟨id3,off,k3,ev,hk3,hd3,hbb,hfl⟩:=sP.copy hne
     rw [List.length_map] at ev hbb hfl
     obtain rfl:a=some ⟨id3,off,none⟩:=by simpa using ev
     refine onEarly_on [h.length+1] [⟨[.int .i64 p.1, .int .i64 p.2.1, .int .i64 p.2.2.1, .int .i64 p.2.2.2],4, .rw⟩] (by simp) ?_
     simp only [go_sem,e2,e3,e4,e6,ne3,hidx,hk3,hd3,onApp_more hn,hfl,o1,hn,big]
     refine ⟨by omega,by omega, ?_⟩
     refine ⟨by kernel_rfl,(c_insP (h.length+(t.length+3+1+1+1)) (h.length+(t.length+1+1+1)) P p P.length (by first|exact Nat.le_refl _|omega) (by first|(simp only [go_sem];done)|(simp only [go_sem];rfl)) (.inl (by omega)) (by simp only [go_sem,pip]) (by omega) (by first|omega|simp)).use (fun _ m=>m) ?_⟩
     rintro _ _ ⟨rfl,rfl⟩
     have hnew:insP P p=insAt P P.length p:=by rw [insP,hlow]
     simp only [go_sem,e2,e3,e4,e6,ne3,hidx]
     refine ⟨by omega, ?_⟩
     refine ⟨by kernel_rfl,(c_IsValidNetwork _ N (insP P p) ⟨_,rfl,FQs.sbQ (frG (lo:=0) (hi:=h.length+(t.length+12)) (j:=t.length+4+1+1+1) pip4 (by rw [hnew];simp) (by first|exact hlen.symm|(rw [hlen];omega)) (Nat.zero_le _) (by omega))⟩ (by rw [hlen];omega)).use (fun _ m=>m) ?_⟩
     rintro _ _ ⟨rfl,⟨t5,rfl⟩⟩
     by_cases h3:netGood N (insP P p)
     ·have ok:addOk N P p:=⟨h1,h3⟩
      simp only [go_sem,e2,e3,e4,e6,decb h3,hidx]
      refine ⟨_,by rw [decide_eq_true ok,addN,if_pos ok], ?_⟩
      rw [addR,if_pos ok]
      exact frG (j:=t.length+4+1+1+1) pip4 (by rw [hnew];simp) (by first|exact hlen.symm|(rw [hlen];omega)) (by omega) (by omega)
     ·have nok: ¬addOk N P p:=fun hh=>h3 hh.2
      simp only [go_sem,e2,e3,e4,e6,dect h3,hidx]
      exact no _ _ _ nok
 ·have nok: ¬addOk N P p:=fun hh=>h1 hh.1
  simp only [go_sem,dect h1]
  exact no _ _ _ nok
end
open Go.HH Go.Proofs
structure Dst (P:List Pip) (s:Int) (N:Nat) (D:List Int):Prop where
 len:D.length=N+1
 rng: ∀v:Int,1<=v->v<=N -> -1<=dv D v∧dv D v<=N
 ok: ∀v:Int,1<=v->v<=N->∀m:Nat,m<=N->((0<=dv D v∧dv D v<=m)↔ball P s m v=true)
section
variable {P : List Pip} {s : Int} {N : Nat} {D E : List Int}
theorem Bfs.dst (he:ends N P) (hs:1<=s∧s<=N) (b:Bfs P s N D []):Dst P s N D:=by
 refine ⟨b.len,fun v h1 h2=>⟨b.low v h1 h2, ?_⟩,fun v h1 h2 m _=>b.fin he hs h1 h2 m⟩
 by_cases h:0<=dv D v
 ·have:=(b.fin he hs h1 h2 (dv D v).toNat).1 ⟨h,by omega⟩
  exact ((b.fin he hs h1 h2 N).2 (ball_stop he hs this)).2
 ·omega
theorem Dst.uniq (a:Dst P s N D) (b:Dst P s N E) {v:Int} (h1:1<=v) (h2:v<=N):dv D v=dv E v:=by
 have ra:=a.rng v h1 h2
 have rb:=b.rng v h1 h2
 by_cases h:0<=dv D v
 ·have e1:=(b.ok v h1 h2 (dv D v).toNat (by omega)).2 ((a.ok v h1 h2 _ (by omega)).1 ⟨h,by omega⟩)
  have e2:=(a.ok v h1 h2 (dv E v).toNat (by omega)).2 ((b.ok v h1 h2 _ (by omega)).1 ⟨e1.1,by omega⟩)
  omega
 ·by_cases h':0<=dv E v
  ·have e2:=(a.ok v h1 h2 (dv E v).toNat (by omega)).2 ((b.ok v h1 h2 _ (by omega)).1 ⟨h',by omega⟩)
   omega
  ·omega
open Classical in
noncomputable def dst (P:List Pip) (s:Int) (N:Nat) (v:Int):Int:=if h: ∃D,Dst P s N D then dv h.choose v else 0
theorem Dst.eq (a:Dst P s N D) {v:Int} (h1:1<=v) (h2:v<=N):dv D v=dst P s N v:=by
 have h: ∃D,Dst P s N D:=⟨D,a⟩
 unfold dst
 rw [dif_pos h]
 exact a.uniq h.choose_spec h1 h2
noncomputable def nx (P:List Pip) (f:Int->Int) (x:Int):Option Pip:=P.find? fun p=>decide (0<oth p x∧f (oth p x)=f x-1)
noncomputable def wayL (P:List Pip) (f:Int->Int) (to:Int):Nat->Int->List Int
 | 0,_=> []
 | k+1,x=>if x=to then [] else match nx P f x with
  | none=> []
  | some p=>p.1::wayL P f to k (oth p x)
theorem find_first {α:Type} {c:α->Bool}: ∀ {l:List α} {i:Nat} (hi:i<l.length),(∀(j:Nat) (hj:j<l.length),j<i->c l[j]=false)->c l[i]=true->l.find? c=some l[i]
 | [],i,hi,_,_=>by simp at hi
 | x::l,0,_,_,h=>by simp at h;simp [List.find?_cons,h]
 | x::l,i+1,hi,hb,h=>by
  have h0:=hb 0 (by simp) (by omega)
  simp at h0 h
  rw [List.find?_cons,h0]
  simp
  exact find_first (by simpa using hi) (fun j hj hji=>by have:=hb (j+1) (by simpa using hj) (by omega);simpa using this) h
theorem nx_some (he:ends N P) (hs:1<=s∧s<=N) (a:Dst P s N D) {x:Int} (h1:1<=x) (h2:x<=N) (h0:0<=dst P s N x) (hne:x≠s) :
  0<dst P s N x∧∃p∈P,nx P (dst P s N) x=some p∧(1<=oth p x∧oth p x<=N)∧dst P s N (oth p x)=dst P s N x-1:=by
 have ex:=a.eq h1 h2
 have rx:=a.rng x h1 h2
 have hpos:0<dst P s N x:=by
  rcases Int.lt_or_eq_of_le h0 with h|h
  ·exact h
  ·have:=(a.ok x h1 h2 0 (by omega)).1 (by omega)
   exact absurd (ball_zero.1 this) hne
 obtain ⟨d,hd⟩: ∃d:Nat,dst P s N x=d+1:=⟨(dst P s N x-1).toNat,by omega⟩
 have hb:=(a.ok x h1 h2 (d+1) (by omega)).1 (by omega)
 have hnb:ball P s d x=false:=by
  cases h:ball P s d x
  ·rfl
  ·have:=(a.ok x h1 h2 d (by omega)).2 h;omega
 rcases ball_succ.1 hb with h|⟨c,hc,hadj⟩
 ·rw [hnb] at h;cases h
 ·have hcn:=ball_in he hs hc
  have ec:=a.eq hcn.1 hcn.2
  have rc:=(a.ok c hcn.1 hcn.2 d (by omega)).2 hc
  have hcd:dst P s N c=d:=by
   rcases Int.lt_or_eq_of_le rc.2 with h|h
   ·exfalso
    have:=(a.ok c hcn.1 hcn.2 (dv D c).toNat (by omega)).1 ⟨rc.1,by omega⟩
    have h3:=ball_succ.2 (.inr ⟨c,this,hadj⟩)
    have:=ball_mono (show (dv D c).toNat+1<=d by omega) h3
    rw [hnb] at this;cases this
   ·omega
  obtain ⟨p,hp,hpe⟩:=hadj
  have hep:=he p hp
  have hoth:oth p x=c:=by
   unfold oth
   rcases hpe with ⟨rfl,rfl⟩|⟨rfl,rfl⟩
   ·rw [if_neg (by omega),if_pos rfl]
   ·rw [if_pos rfl]
  refine ⟨hpos, ?_⟩
  have hex:(nx P (dst P s N) x).isSome:=by
   unfold nx
   rw [List.find?_isSome]
   exact ⟨p,hp,by simp [hoth];omega⟩
  obtain ⟨q,hq⟩:=Option.isSome_iff_exists.1 hex
  have hq2:=List.find?_some hq
  have hqm:=List.mem_of_find?_eq_some hq
  simp only [decide_eq_true_eq] at hq2
  exact ⟨q,hqm,hq,oth_range (he q hqm) hq2.1,hq2.2⟩
theorem wayL_step (he:ends N P) (hs:1<=s∧s<=N) (a:Dst P s N D) {x:Int} (h1:1<=x) (h2:x<=N) (h0:0<=dst P s N x) (hne:x≠s) {i:Nat} (hi:i<P.length)
  (hb: ∀(j:Nat) (hj:j<P.length),j<i->¬(0<oth P[j] x∧dst P s N (oth P[j] x)=dst P s N x-1)) (hc:0<oth P[i] x∧dst P s N (oth P[i] x)=dst P s N x-1) :
  wayL P (dst P s N) s (dst P s N x).toNat x=P[i].1::wayL P (dst P s N) s (dst P s N (oth P[i] x)).toNat (oth P[i] x):=by
 obtain ⟨h3,_⟩:=nx_some he hs a h1 h2 h0 hne
 obtain ⟨d,hd⟩: ∃d:Nat,(dst P s N x).toNat=d+1:=⟨(dst P s N x).toNat-1,by omega⟩
 rw [hd,wayL,if_neg hne]
 have:nx P (dst P s N) x=some P[i]:=find_first hi (fun j hj hji=>by simpa using hb j hj hji) (by simpa using hc)
 rw [this]
 simp only
 rw [hc.2,show (dst P s N x-1).toNat=d by omega]
theorem wayL_end (x:Int) (k:Nat) (f:Int->Int):wayL P f x k x= []:=by
 cases k<;>simp [wayL]
theorem wayL_len (f:Int->Int) (to:Int): ∀(k:Nat) (x:Int),(wayL P f to k x).length<=k
 | 0,_=>by simp [wayL]
 | k+1,x=>by
  rw [wayL]
  split
  ·simp
  ·split
   ·simp
   ·rename_i p _
    have:=wayL_len f to k (oth p x)
    simp;omega
theorem wayL_mem (f:Int->Int) (to:Int): ∀(k:Nat) (x:Int),∀y∈wayL P f to k x,∃p∈P,p.1=y
 | 0,_,y,hy=>by simp [wayL] at hy
 | k+1,x,y,hy=>by
  rw [wayL] at hy
  split at hy
  ·cases hy
  ·split at hy
   ·cases hy
   ·rename_i p hp
    rcases List.mem_cons.1 hy with rfl|hy
    ·exact ⟨p,List.mem_of_find?_eq_some hp,rfl⟩
    ·exact wayL_mem f to k _ y hy
structure Lay (P:List Pip) (s:Int) (N k:Nat) (D:List Int):Prop where
 len:D.length=N+1
 rng: ∀v:Int,1<=v->v<=N -> -1<=dv D v∧dv D v<=k
 ok: ∀v:Int,1<=v->v<=N->∀m:Nat,m<=k->((0<=dv D v∧dv D v<=m)↔ball P s m v=true)
theorem Lay.dst (a:Lay P s N N D):Dst P s N D:=⟨a.len,a.rng,a.ok⟩
theorem Lay.init (hs:1<=s∧s<=N):Lay P s N 0 ((List.replicate (N+1) (-1:Int)).set s.toNat 0):=by
 have hd: ∀w:Int,1<=w->dv ((List.replicate (N+1) (-1:Int)).set s.toNat 0) w=if w=s then 0 else -1:=fun w hw=>by
  rw [dv_set hs.1 hw (by simp;omega)]
  have:dv (List.replicate (N+1) (-1:Int)) w = -1:=by
   unfold dv
   rw [List.getD_eq_getElem?_getD,List.getElem?_replicate]
   split<;>rfl
  rw [this]
 refine ⟨by simp,fun v h1 h2 => ?_,fun v h1 h2 m hm => ?_⟩
 ·rw [hd v h1];split<;>omega
 ·obtain rfl:m=0:=by omega
  rw [hd v h1,ball_zero]
  split
  ·rename_i h;simp [h]
  ·rename_i h;simp [h]
structure Lyr (P:List Pip) (s:Int) (N k i:Nat) (D:List Int):Prop where
 len:D.length=N+1
 rng: ∀v:Int,1<=v->v<=N -> -1<=dv D v∧dv D v<=k+1
 new: ∀v:Int,1<=v->v<=N->dv D v=k+1->ball P s (k+1) v=true
 ok: ∀v:Int,1<=v->v<=N->∀m:Nat,m<=k->((0<=dv D v∧dv D v<=m)↔ball P s m v=true)
 far: ∀(j:Nat) (hj:j<P.length),j<i->(dv D P[j].2.1=k->0<=dv D P[j].2.2.1)∧(dv D P[j].2.2.1=k->0<=dv D P[j].2.1)
theorem Lay.lyr {k:Nat} (a:Lay P s N k D):Lyr P s N k 0 D:=
 ⟨a.len,fun v h1 h2=>by have:=a.rng v h1 h2;omega,fun v h1 h2 h=>by have:=a.rng v h1 h2;omega,a.ok,fun j _ h=>absurd h (by omega)⟩
theorem Lyr.lay {k:Nat} (he:ends N P) (hs:1<=s∧s<=N) (a:Lyr P s N k P.length D):Lay P s N (k+1) D:=by
 refine ⟨a.len,fun v h1 h2=>by have:=a.rng v h1 h2;omega,fun v h1 h2 m hm => ?_⟩
 rcases Nat.lt_or_ge m (k+1) with h|h
 ·exact a.ok v h1 h2 m (by omega)
 ·obtain rfl:m=k+1:=by omega
  have rv:=a.rng v h1 h2
  constructor
  ·intro h
   rcases Int.lt_or_eq_of_le rv.2 with h3|h3
   ·exact ball_mono (Nat.le_succ _) ((a.ok v h1 h2 k (Nat.le_refl _)).1 ⟨h.1,by omega⟩)
   ·exact a.new v h1 h2 h3
  ·intro h
   refine ⟨?_,by omega⟩
   rcases ball_succ.1 h with h|⟨c,hc,p,hp,hpe⟩
   ·exact ((a.ok v h1 h2 k (Nat.le_refl _)).2 h).1
   ·have hcn:=ball_in he hs hc
    have rc:=(a.ok c hcn.1 hcn.2 k (Nat.le_refl _)).2 hc
    by_cases hk:dv D c=k
    ·obtain ⟨j,hj,rfl⟩:=List.mem_iff_getElem.1 hp
     have f:=a.far j hj hj
     rcases hpe with ⟨e1,e2⟩|⟨e1,e2⟩
     ·rw [e1,e2] at f;exact f.1 hk
     ·rw [e1,e2] at f;exact f.2 hk
    ·have h3:=(a.ok c hcn.1 hcn.2 (dv D c).toNat (by omega)).1 ⟨rc.1,by omega⟩
     have h4:ball P s ((dv D c).toNat+1) v=true:=ball_succ.2 (.inr ⟨c,h3,p,hp,hpe⟩)
     exact ((a.ok v h1 h2 _ (by omega)).2 h4).1
theorem Lyr.set {k i:Nat} (he:ends N P) (a:Lyr P s N k i D) {x y:Int} (hx:1<=x∧x<=N) (hy:1<=y∧y<=N) (hadj:adj P y x) (h1:dv D y=k) (h2:dv D x<0):Lyr P s N k i (D.set x.toNat (k+1)):=by
 have hl:x.toNat<D.length:=by rw [a.len];omega
 have hd: ∀w:Int,1<=w->dv (D.set x.toNat (k+1)) w=if w=x then (k:Int)+1 else dv D w:=fun w hw=>dv_set hx.1 hw hl
 have rx:=a.rng x hx.1 hx.2
 refine ⟨by simp [a.len],fun v g1 g2 => ?_,fun v g1 g2 h => ?_,fun v g1 g2 m hm => ?_,fun j hj hji => ?_⟩
 ·rw [hd v g1]
  have:=a.rng v g1 g2
  split<;>omega
 ·rw [hd v g1] at h
  by_cases c:v=x
  ·subst c
   exact ball_succ.2 (.inr ⟨y,(a.ok y hy.1 hy.2 k (Nat.le_refl _)).1 (by omega),hadj⟩)
  ·rw [if_neg c] at h
   exact a.new v g1 g2 h
 ·rw [hd v g1]
  by_cases c:v=x
  ·subst c
   have:=a.ok v g1 g2 m hm
   rw [if_pos rfl, ←this]
   omega
  ·rw [if_neg c]
   exact a.ok v g1 g2 m hm
 ·have hep:=he _ (List.getElem_mem hj)
  have f:=a.far j hj hji
  rw [hd _ hep.1.1,hd _ hep.2.1.1]
  constructor
  ·intro h
   by_cases c:P[j].2.1=x
   ·rw [if_pos c] at h;omega
   ·rw [if_neg c] at h
    have:=f.1 h
    split<;>omega
  ·intro h
   by_cases c:P[j].2.2.1=x
   ·rw [if_pos c] at h;omega
   ·rw [if_neg c] at h
    have:=f.2 h
    split<;>omega
theorem Lyr.next {k i:Nat} (a:Lyr P s N k i D) (hi:i<P.length) (h:(dv D P[i].2.1=k->0<=dv D P[i].2.2.1)∧(dv D P[i].2.2.1=k->0<=dv D P[i].2.1)):Lyr P s N k (i+1) D:=by
 refine ⟨a.len,a.rng,a.new,a.ok,fun j hj hji => ?_⟩
 by_cases c:j<i
 ·exact a.far j hj c
 ·obtain rfl:j=i:=by omega
  exact h
end
def wayOk (N:Int) (P:List Pip) (a b:Int):Prop:=netGood N P∧(1<=a∧a<=N)∧(1<=b∧b<=N)∧ball P b N.toNat a=true
open Classical in
noncomputable instance {N:Int} {P:List Pip} {a b:Int}:Decidable (wayOk N P a b):=propDecidable _
noncomputable def wayR (N:Int) (P:List Pip) (a b:Int):List Int:=if wayOk N P a b then wayL P (dst P b N.toNat) b (dst P b N.toNat a).toNat a else []
open Go.HH Go.Proofs
theorem dv_cell {D:List Int} {N:Nat} (hl:D.length=N+1) {x:Int} (h0:0<=x) (h1:x<=N):(D.map iv)[x.toNat]? = some (.int .i64 (dv D x)):=by
 have:x.toNat<D.length:=by omega
 rw [List.getElem?_map,List.getElem?_eq_getElem this,dv,List.getD,List.getElem?_eq_getElem this];rfl
theorem dv_put {D:List Int} {x:Int} (y:Int) (h:x.toNat<D.length):setRange (D.map iv) x.toNat [.int .i64 y]=(D.set x.toNat y).map iv:=by
 rw [←setRange_one (by simp;omega),List.map_set];rfl
theorem set_there {t:Heap} {j:Nat} {b:Blk} (b2:Blk) (h:t[j]? = some b):(t.set j b2)[j]? = some b2:=by
 have:=(List.getElem?_eq_some_iff.1 h).1
 rw [List.getElem?_set_self this]
section
variable {h : Heap} {M : Nat → Prop}
set_option maxRecDepth 4000 in
theorem c_l2Steps {n:Nat} (v:Value) (N:Nat) (P:List Pip) (s:Int) (hv:NA n h v N P) (g:netGood N P) (hs:1<=s∧s<=N) :
  vCall [] Tryz.prog M 239 [v, .int .i64 s] h (fun r h'=>(∃D,SI h' r D∧Dst P s N D)∧h<+:h'):=by
 obtain ⟨wp,rfl,sP0⟩:=id hv
 have sP:Sl h 4 wp (P.map pip):=sP0.1
 obtain ⟨a,rfl⟩:=Sl.len4 sP
 have hN:N<=8:=by have:=g.2.1;omega
 have hP:P.length<=10:=g.2.2
 have he:=g.ends
 refine body_of mo Tryz.func239 rfl (by kernel_rfl) (Nat.le_of_ble_eq_true (by kernel_rfl)) rfl ?_
 simp only [go_sem]
 refine vLoop.count mo (N+1) (fun i e h'=> ∃(t:Heap) (v5:Value),Regs e [(1, .int .i64 s),(2, .pointer (some ⟨h.length,0,none⟩)),(5,v5),(6, .int .i64 i)] ∧
  HeapIs h' (h++(⟨[.int .i64 N, .slice a P.length 0],2, .rw⟩::t))∧OF h.length 1 t v5 (List.replicate i (-1))) ?_ ?_
 ·exact ⟨_,_,⟨rfl,rfl,rfl,rfl,trivial⟩, .rfl, .mk' 0 rfl rfl rfl⟩
 ·rintro i e _ hi ⟨t,v5,⟨e1,e2,e5,e6,_⟩,rfl,oi⟩
  obtain ⟨j,rfl,hj⟩:=id oi
  simp only [go_sem,e1,e2,e5,e6]
  by_cases hlt:i<=N
  ·have hz:(i:Int)<=N:=by omega
   have ws:=wsucc (show i<N+1 by omega) (by omega)
   simp only [go_sem,e1,e2,e5,e6,hz,app_old hj,List.length_map,List.length_replicate]
   refine ⟨by omega,by omega,by omega,_,_,⟨e1,e2,rfl,congrArg _ ws,trivial⟩, .rfl,(.mk' (t.length+1) ?_ (by simp) ?_)⟩
   ·simp;try omega
   ·refine (new_at (by simp;try omega)).trans ?_
    simp [iv,List.replicate_succ']
  ·obtain rfl:i=N+1:=by omega
   have hz: ¬(((N+1:Nat):Int)<=N):=by omega
   have q1:0<=s:=by omega
   have q2:s<((N+1:Nat):Int):=by omega
   have p0:=dv_put (D:=List.replicate (N+1) (-1:Int)) (x:=s) 0 (by simp;omega)
   simp only [go_sem,e1,e2,e5,e6,hz,hj,q1,q2,p0,List.length_replicate,List.length_map]
   refine ⟨by omega, ?_⟩
   refine vLoop.count mo N (fun k e h'=> ∃(D:List Int) (t:Heap) (v5:Value),Regs e [(2, .pointer (some ⟨h.length,0,none⟩)),(5,v5),(7, .int .i64 k)] ∧
    HeapIs h' (h++(⟨[.int .i64 N, .slice a P.length 0],2, .rw⟩::t))∧OF h.length 1 t v5 D∧Lay P s N k D) ?_ ?_
   ·refine ⟨_,_,_,⟨e2,e5,rfl,trivial⟩, .rfl, .mk' j ?_ ?_ (set_there _ hj),Lay.init hs⟩
    ·rfl
    ·simp
   ·clear oi hj e1 e2 e5 e6 p0
    rintro k e _ hk ⟨D,t,v5,⟨e2,e5,e7,_⟩,rfl,oi,lay⟩
    simp only [go_sem,e2,e5,e7]
    by_cases hkN:k<N
    ·have hz3:(k:Int)<N:=by omega
     simp only [go_sem,e2,e5,e7,hz3]
     refine vLoop.count mo P.length (fun i e h'=> ∃(D:List Int) (t:Heap) (v5:Value),Regs e [(2, .pointer (some ⟨h.length,0,none⟩)),(5,v5),(7, .int .i64 k),(8, .int .i64 i)] ∧
      HeapIs h' (h++(⟨[.int .i64 N, .slice a P.length 0],2, .rw⟩::t))∧OF h.length 1 t v5 D∧Lyr P s N k i D) ?_ ?_
     ·exact ⟨D,t,v5,⟨e2,e5,e7,rfl,trivial⟩, .rfl,oi,lay.lyr⟩
     ·clear oi lay e2 e5 e7
      rintro i e _ hi ⟨D,t,v5,⟨e2,e5,e7,e8,_⟩,rfl,oi,lay⟩
      obtain ⟨j,rfl,hj⟩:=id oi
      simp only [go_sem,e2,e5,e7,e8]
      by_cases hlt:i<P.length
      ·have hlt':i<(P.map pip).length:=by simpa using hlt
       have hz:(i:Int)<P.length:=by omega
       have ws:=wsucc hlt (by omega)
       obtain ⟨id2,o,K,hv',hk2,_,hd,hb,hrow,hat⟩:=sP.at hlt'
       obtain rfl:a=some ⟨id2,o,none⟩:=by simpa using hv'
       have g1:=hat 1 (by omega)
       have g2:=hat 2 (by omega)
       rw [List.getElem_map] at g1 g2
       simp only [pip,List.getElem?_cons_zero,List.getElem?_cons_succ] at g1 g2
       have hpi:=he _ (List.getElem_mem hlt)
       have hl:=lay.len
       have c1:=dv_cell hl (x:=P[i].2.1) (by omega) (by omega)
       have c2:=dv_cell hl (x:=P[i].2.2.1) (by omega) (by omega)
       have a0:0<=P[i].2.1:=by omega
       have b0:0<=P[i].2.2.1:=by omega
       have a1:P[i].2.1<((N+1:Nat):Int):=by omega
       have b1:P[i].2.2.1<((N+1:Nat):Int):=by omega
       have wk:=wsucc hkN (by omega)
       have p1:=dv_put (D:=D) (x:=P[i].2.1) ((k+1:Nat):Int) (by omega)
       have p2:=dv_put (D:=D) (x:=P[i].2.2.1) ((k+1:Nat):Int) (by omega)
       have ab:adj P P[i].2.1 P[i].2.2.1:=⟨_,List.getElem_mem hlt, .inl ⟨rfl,rfl⟩⟩
       have l1:P[i].2.1.toNat+1<=N+1:=by omega
       have l2:P[i].2.2.1.toNat+1<=N+1:=by omega
       have kc:((k+1:Nat):Int)=(k:Int)+1:=by omega
       have stay: ¬(dv D P[i].2.1=k∧dv D P[i].2.2.1<0)->¬(dv D P[i].2.2.1=k∧dv D P[i].2.1<0)->Lyr P s N k (i+1) D:=fun n1 n2=>lay.next hlt ⟨fun q1=>by
        by_cases q2:dv D P[i].2.2.1<0
        ·exact absurd ⟨q1,q2⟩ n1
        ·omega,fun q1=>by
        by_cases q2:dv D P[i].2.1<0
        ·exact absurd ⟨q1,q2⟩ n2
        ·omega⟩
       have ne:(((k+1:Nat):Int)==(k:Int))=false:=by simp;omega
       by_cases y1:dv D P[i].2.2.1=k
       ·have x2: ¬dv D P[i].2.2.1<0:=by omega
        have by1:(dv D P[i].2.2.1==(k:Int))=true:=by simpa using y1
        by_cases y2:dv D P[i].2.1<0
        ·have x1:(dv D P[i].2.1==(k:Int))=false:=by simp;omega
         have lay2:=lay.set he hpi.1 hpi.2.1 ab.symm y1 y2
         rw [←kc] at lay2
         simp only [go_sem,e2,e5,e7,e8,hz,hk2,hd,g1,g2,hj,hl,c1,c2,a0,b0,a1,b1,x1,by1,y2,wk,p1,l1,List.length_map]
         have d1:dv (D.set P[i].2.1.toNat ((k+1:Nat):Int)) P[i].2.1=((k+1:Nat):Int):=by rw [dv_set hpi.1.1 hpi.1.1 (by omega),if_pos rfl]
         have far:(dv (D.set P[i].2.1.toNat ((k+1:Nat):Int)) P[i].2.1=k->0<=dv (D.set P[i].2.1.toNat ((k+1:Nat):Int)) P[i].2.2.1)∧(dv (D.set P[i].2.1.toNat ((k+1:Nat):Int)) P[i].2.2.1=k->0<=dv (D.set P[i].2.1.toNat ((k+1:Nat):Int)) P[i].2.1):=by
          rw [d1];exact ⟨fun hh=>absurd hh (by omega),fun _=>by omega⟩
         exact ⟨hlt,_,_,_,⟨e2,e5,e7,congrArg _ ws,trivial⟩, .rfl, .mk' j rfl (by simp [hl]) (set_there _ hj),lay2.next hlt far⟩
        ·have lay2:=stay (fun hh=>x2 hh.2) (fun hh=>y2 hh.2)
         by_cases x1:dv D P[i].2.1=k
         ·simp only [go_sem,e2,e5,e7,e8,hz,hk2,hd,g1,g2,hj,hl,c1,c2,a0,b0,a1,b1,show (dv D P[i].2.1==(k:Int))=true by simpa using x1,x2,by1,y2]
          exact ⟨hlt,_,_,_,⟨e2,e5,e7,congrArg _ ws,trivial⟩, .rfl,oi,lay2⟩
         ·simp only [go_sem,e2,e5,e7,e8,hz,hk2,hd,g1,g2,hj,hl,c1,c2,a0,b0,a1,b1,show (dv D P[i].2.1==(k:Int))=false by simpa using x1,x2,by1,y2]
          exact ⟨hlt,_,_,_,⟨e2,e5,e7,congrArg _ ws,trivial⟩, .rfl,oi,lay2⟩
       ·have by1:(dv D P[i].2.2.1==(k:Int))=false:=by simpa using y1
        by_cases x1:dv D P[i].2.1=k
        ·by_cases x2:dv D P[i].2.2.1<0
         ·have lay2:=lay.set he hpi.2.1 hpi.1 ab x1 x2
          rw [←kc] at lay2
          have hset:=set_there (⟨((D.set P[i].2.2.1.toNat ((k+1:Nat):Int)).map iv),1, .rw⟩:Blk) hj
          have d2:dv (D.set P[i].2.2.1.toNat ((k+1:Nat):Int)) P[i].2.2.1=((k+1:Nat):Int):=by rw [dv_set hpi.2.1.1 hpi.2.1.1 (by omega),if_pos rfl]
          have c2':=dv_cell lay2.len (x:=P[i].2.2.1) (by omega) (by omega)
          rw [d2] at c2'
          simp only [go_sem,e2,e5,e7,e8,hz,hk2,hd,g1,g2,hj,hl,c1,c2,a0,b0,a1,b1,show (dv D P[i].2.1==(k:Int))=true by simpa using x1,x2,wk,p2,l2,List.length_map,hset,c2',ne]
          have far:(dv (D.set P[i].2.2.1.toNat ((k+1:Nat):Int)) P[i].2.1=k->0<=dv (D.set P[i].2.2.1.toNat ((k+1:Nat):Int)) P[i].2.2.1)∧(dv (D.set P[i].2.2.1.toNat ((k+1:Nat):Int)) P[i].2.2.1=k->0<=dv (D.set P[i].2.2.1.toNat ((k+1:Nat):Int)) P[i].2.1):=by
           rw [d2];exact ⟨fun _=>by omega,fun hh=>absurd hh (by omega)⟩
          exact ⟨hlt,_,_,_,⟨e2,e5,e7,congrArg _ ws,trivial⟩, .rfl, .mk' j rfl (by simp [hl]) (set_there _ hj),lay2.next hlt far⟩
         ·have lay2:=stay (fun hh=>x2 hh.2) (fun hh=>y1 hh.1)
          simp only [go_sem,e2,e5,e7,e8,hz,hk2,hd,g1,g2,hj,hl,c1,c2,a0,b0,a1,b1,show (dv D P[i].2.1==(k:Int))=true by simpa using x1,x2,by1]
          exact ⟨hlt,_,_,_,⟨e2,e5,e7,congrArg _ ws,trivial⟩, .rfl,oi,lay2⟩
        ·have lay2:=stay (fun hh=>x1 hh.1) (fun hh=>y1 hh.1)
         simp only [go_sem,e2,e5,e7,e8,hz,hk2,hd,g1,g2,hj,hl,c1,c2,a0,b0,a1,b1,show (dv D P[i].2.1==(k:Int))=false by simpa using x1,by1]
         exact ⟨hlt,_,_,_,⟨e2,e5,e7,congrArg _ ws,trivial⟩, .rfl,oi,lay2⟩
      ·obtain rfl:i=P.length:=by omega
       have wk:=wsucc hkN (by omega)
       simp only [go_sem,show ¬((P.length:Int)<P.length) by omega,e2,e5,e7,e8]
       exact ⟨hkN,D,t,_,⟨e2,e5,congrArg _ wk,trivial⟩, .rfl,oi,lay.lay he hs⟩
    ·obtain rfl:k=N:=by omega
     obtain ⟨j,rfl,hj⟩:=id oi
     simp only [go_sem,show ¬((k:Int)<k) by omega,e2,e5,e7]
     have:=OF.ai [⟨[.int .i64 k, .slice a P.length 0],2, .rw⟩] oi rfl
     exact ⟨D,this,lay.dst⟩
end
open Go.HH Go.Proofs
section
variable {h : Heap} {M : Nat → Prop}
set_option maxRecDepth 4000 in
theorem c_l2Way {n:Nat} (v:Value) (N:Nat) (P:List Pip) (x y:Int) (hv:NA n h v N P) (g:netGood N P) (hx:1<=x∧x<=N) (hy:1<=y∧y<=N) (hb:ball P y N x=true) :
  vCall [] Tryz.prog M 202 [v, .int .i64 x, .int .i64 y] h (fun r h'=>SI h' r (wayL P (dst P y N) y (dst P y N x).toNat x)∧h<+:h'):=by
 obtain ⟨wp,rfl,sP0⟩:=id hv
 have sP:Sl h 4 wp (P.map pip):=sP0.1
 obtain ⟨a,rfl⟩:=Sl.len4 sP
 have hN:N<=8:=by have:=g.2.1;omega
 have hP:P.length<=10:=g.2.2
 have he:=g.ends
 refine body_of mo Tryz.func202 rfl (by kernel_rfl) (Nat.le_of_ble_eq_true (by kernel_rfl)) rfl ?_
 simp only [go_sem]
 refine ⟨by kernel_rfl,(c_l2Steps _ N P y (hv.mono (by simp)) g hy).use (fun _ m=>m) ?_⟩
 rintro vD H ⟨⟨D,sD,aD⟩,hp⟩
 have hbox:hget H h.length=some ⟨[.int .i64 N, .slice a P.length 0],2, .rw⟩:=by
  refine hget_prefix hp ?_ |>.trans ?_
  ·simp
  ·simp [hget]
 have hpH:h<+:H:=(List.prefix_append _ _).trans hp
 replace sP:=sP.mono hpH
 have hl:=aD.len
 obtain ⟨aa,rfl⟩:=AI.len sD
 obtain ⟨idD,oD,kD,hvD,_,hkD,_,hdD,_,_,_,hatD⟩:=AI.at sD (by omega)
 obtain rfl:aa=some ⟨idD,oD,none⟩:=by simpa using hvD
 have cell: ∀z:Int,1<=z->z<=N->kD.cells[oD+z.toNat]? = some (.int .i64 (dst P y N z)):=fun z h1 h2=>by
  have:=hatD z.toNat (by omega)
  rw [this, ←aD.eq h1 h2,dv,List.getD,List.getElem?_eq_getElem (by omega)];rfl
 have hbx:=self_get hbox
 have d0:0<=dst P y N x:=by
  rw [←aD.eq hx.1 hx.2]
  exact ((aD.ok x hx.1 hx.2 N (Nat.le_refl _)).2 hb).1
 have hHl:h.length<=H.length:=hpH.length_le
 have dN:dst P y N x<=N:=by rw [←aD.eq hx.1 hx.2];exact (aD.rng x hx.1 hx.2).2
 refine vLoop.rank mo (dst P y N x).toNat (fun m e h'=> ∃(z:Int) (acc:List Int) (u:Heap) (v8:Value),Regs e [(1, .int .i64 z),(2, .int .i64 y),(3, .pointer (some ⟨h.length,0,none⟩)),(7, .slice (some ⟨idD,oD,none⟩) D.length 0),(8,v8)] ∧
  HeapIs h' (H++u)∧OF H.length 0 u v8 acc∧(1<=z∧z<=N)∧0<=dst P y N z∧(dst P y N z).toNat<=m∧acc.length+(dst P y N z).toNat<=8∧acc++wayL P (dst P y N) y (dst P y N z).toNat z=wayL P (dst P y N) y (dst P y N x).toNat x) ?_ ?_
 ·exact ⟨x,[],_,_,⟨rfl,rfl,rfl,rfl,rfl,trivial⟩, .rfl, .mk' 0 rfl rfl rfl,hx,d0,Nat.le_refl _,by simp;omega,rfl⟩
 ·clear hb
  rintro m e _ ⟨z,acc,u,v8,⟨e1,e2,e3,e7,e8,_⟩,rfl,oi,hz,z0,hm,hln,hw⟩
  obtain ⟨j,rfl,hj⟩:=id oi
  by_cases hzy:z=y
  ·subst hzy
   rw [wayL_end,List.append_nil] at hw
   simp only [go_sem,e1,e2,e3,e7,e8]
   refine ⟨?_, ?_⟩
   ·rw [←hw]
    have:=OF.fi0 (m:=0) oi (Nat.zero_le _)
    exact FI.ai (n:=0) this |>.le (by simp)
   ·exact hpH.trans (List.prefix_append _ _)
  ·obtain ⟨zp,q,hq,hnx,hqn,hqd⟩:=nx_some he hy aD hz.1 hz.2 z0 hzy
   simp only [go_sem,e1,e2,e3,e7,e8,show (z != y)=true by simpa using hzy]
   refine vLoop.count mo P.length (fun i e h'=> ∃(u:Heap),Regs e [(1, .int .i64 z),(2, .int .i64 y),(3, .pointer (some ⟨h.length,0,none⟩)),(7, .slice (some ⟨idD,oD,none⟩) D.length 0),(8, .slice (some ⟨H.length+(j+0),0,none⟩) acc.length 0),(9, .int .i64 i)] ∧
    HeapIs h' (H++u)∧u[j]? = some ⟨acc.map iv,1, .rw⟩∧∀(k:Nat) (hk:k<P.length),k<i->¬(0<oth P[k] z∧dst P y N (oth P[k] z)=dst P y N z-1)) ?_ ?_
   ·exact ⟨u,⟨e1,e2,e3,e7,e8,rfl,trivial⟩, .rfl,hj,fun k _ hk=>absurd hk (by omega)⟩
   ·clear e1 e2 e3 e7 e8 hj oi
    rintro i e _ hi ⟨u,⟨e1,e2,e3,e7,e8,e9,_⟩,rfl,hj,hno⟩
    simp only [go_sem,e1,e2,e3,e7,e8,e9,hbx]
    by_cases hlt:i<P.length
    ·have hlt':i<(P.map pip).length:=by simpa using hlt
     have hz1:(i:Int)<P.length:=by omega
     have ws:=wsucc hlt (by omega)
     obtain ⟨id2,o,K,hv',hk2,_,hd,hb,hrow,hat⟩:=sP.at hlt'
     obtain rfl:a=some ⟨id2,o,none⟩:=by simpa using hv'
     rw [List.getElem_map] at hrow
     simp only [pip] at hrow
     have hpi:=he _ (List.getElem_mem hlt)
     have cz:=cell z hz.1 hz.2
     have hkD2:=fun t=>hkD t
     have hw1:IntKind.i64.wrap (dst P y N z-1)=dst P y N z-1:=wrap64 (by omega)
     have ow1:own (List.length h) M (H.length+j) := .inl (by omega)
     have ow2:own (List.length h) M (H.length+u.length) := .inl (by omega)
     have more: ¬(0<oth P[i] z∧dst P y N (oth P[i] z)=dst P y N z-1)->∀(k:Nat) (hk:k<P.length),k<i+1->¬(0<oth P[k] z∧dst P y N (oth P[k] z)=dst P y N z-1):=fun hh k hk hki=>by
      by_cases hk3:k<i
      ·exact hno k hk hk3
      ·obtain rfl:k=i:=by omega
       exact hh
     by_cases c1:P[i].2.1=z
     ·have ho:oth P[i] z=P[i].2.2.1:=by rw [oth,if_pos c1.symm]
      have hpos:0<oth P[i] z:=by rw [ho];omega
      have co:=cell P[i].2.2.1 (by omega) (by omega)
      by_cases c2:dst P y N P[i].2.2.1=dst P y N z-1
      ·have hwl:=wayL_step he hy aD hz.1 hz.2 z0 hzy hlt hno (by rw [ho];exact ⟨by omega,c2⟩)
       rw [ho] at hwl
       simp only [go_sem,e1,e2,e3,e7,e8,e9,hbx,hz1,hk2,hd,hb,hrow,show (P[i].2.1==z)=true by simpa using c1,show 0<P[i].2.2.1 by omega,show 0<=P[i].2.2.1 by omega,show P[i].2.2.1<(D.length:Int) by omega,show 0<=z by omega,show z<(D.length:Int) by omega,hkD2,hdD,cz,co,hw1,show (dst P y N P[i].2.2.1==dst P y N z-1)=true by simpa using c2,ow2,app_old hj,List.length_map,ow1]
       have hacc:(acc++ [P[i].1])++wayL P (dst P y N) y (dst P y N P[i].2.2.1).toNat P[i].2.2.1=wayL P (dst P y N) y (dst P y N x).toNat x:=by
        rw [←hw,hwl,List.append_assoc];rfl
       refine ⟨by omega,by omega,(dst P y N z).toNat-1,by omega,P[i].2.2.1,acc++ [P[i].1],_,_,⟨rfl,e2,e3,e7,rfl,trivial⟩, .rfl, .mk' (u.length+2) ?_ (by simp) ?_,by omega,by omega,by omega,by simp;omega,hacc⟩
       ·simp;try omega
       ·refine (new_at (by simp;try omega)).trans ?_
        simp [iv]
      ·simp only [go_sem,e1,e2,e3,e7,e8,e9,hbx,hz1,hk2,hd,hb,hrow,show (P[i].2.1==z)=true by simpa using c1,show 0<P[i].2.2.1 by omega,show 0<=P[i].2.2.1 by omega,show P[i].2.2.1<(D.length:Int) by omega,show 0<=z by omega,show z<(D.length:Int) by omega,hkD2,hdD,cz,co,hw1,show (dst P y N P[i].2.2.1==dst P y N z-1)=false by simpa using c2,ow2]
       exact ⟨hlt,_,⟨e1,e2,e3,e7,e8,congrArg _ ws,trivial⟩, .rfl,app_old hj _,more (fun hh=>c2 (by have:=hh.2;rwa [ho] at this))⟩
     ·by_cases c3:P[i].2.2.1=z
      ·have ho:oth P[i] z=P[i].2.1:=by rw [oth,if_neg (Ne.symm c1),if_pos c3.symm]
       have hpos:0<oth P[i] z:=by rw [ho];omega
       have co:=cell P[i].2.1 (by omega) (by omega)
       by_cases c2:dst P y N P[i].2.1=dst P y N z-1
       ·have hwl:=wayL_step he hy aD hz.1 hz.2 z0 hzy hlt hno (by rw [ho];exact ⟨by omega,c2⟩)
        rw [ho] at hwl
        simp only [go_sem,e1,e2,e3,e7,e8,e9,hbx,hz1,hk2,hd,hb,hrow,show (P[i].2.1==z)=false by simpa using c1,show (P[i].2.2.1==z)=true by simpa using c3,show 0<P[i].2.1 by omega,show 0<=P[i].2.1 by omega,show P[i].2.1<(D.length:Int) by omega,show 0<=z by omega,show z<(D.length:Int) by omega,hkD2,hdD,cz,co,hw1,show (dst P y N P[i].2.1==dst P y N z-1)=true by simpa using c2,ow2,app_old hj,List.length_map,ow1]
        have hacc:(acc++ [P[i].1])++wayL P (dst P y N) y (dst P y N P[i].2.1).toNat P[i].2.1=wayL P (dst P y N) y (dst P y N x).toNat x:=by
         rw [←hw,hwl,List.append_assoc];rfl
        refine ⟨by omega,by omega,(dst P y N z).toNat-1,by omega,P[i].2.1,acc++ [P[i].1],_,_,⟨rfl,e2,e3,e7,rfl,trivial⟩, .rfl, .mk' (u.length+2) ?_ (by simp) ?_,by omega,by omega,by omega,by simp;omega,hacc⟩
        ·simp;try omega
        ·refine (new_at (by simp;try omega)).trans ?_
         simp [iv]
       ·simp only [go_sem,e1,e2,e3,e7,e8,e9,hbx,hz1,hk2,hd,hb,hrow,show (P[i].2.1==z)=false by simpa using c1,show (P[i].2.2.1==z)=true by simpa using c3,show 0<P[i].2.1 by omega,show 0<=P[i].2.1 by omega,show P[i].2.1<(D.length:Int) by omega,show 0<=z by omega,show z<(D.length:Int) by omega,hkD2,hdD,cz,co,hw1,show (dst P y N P[i].2.1==dst P y N z-1)=false by simpa using c2,ow2]
        exact ⟨hlt,_,⟨e1,e2,e3,e7,e8,congrArg _ ws,trivial⟩, .rfl,app_old hj _,more (fun hh=>c2 (by have:=hh.2;rwa [ho] at this))⟩
      ·have ho:oth P[i] z=0:=by rw [oth,if_neg (Ne.symm c1),if_neg (Ne.symm c3)]
       simp only [go_sem,e1,e2,e3,e7,e8,e9,hbx,hz1,hk2,hd,hb,hrow,show (P[i].2.1==z)=false by simpa using c1,show (P[i].2.2.1==z)=false by simpa using c3,ow2]
       exact ⟨hlt,_,⟨e1,e2,e3,e7,e8,congrArg _ ws,trivial⟩, .rfl,app_old hj _,more (fun hh=>by have:=hh.1;rw [ho] at this;omega)⟩
    ·obtain rfl:i=P.length:=by omega
     exfalso
     obtain ⟨k,hk,rfl⟩:=List.mem_iff_getElem.1 hq
     exact hno k hk hk ⟨by omega,hqd⟩
theorem c_sShortestWay {n:Nat} (v:Value) (N:Int) (P:List Pip) (x y:Int) (hv:NA n h v N P) (hP:P.length<=1048576) :
  vCall [] Tryz.prog M 158 [v, .int .i64 x, .int .i64 y] h (fun r h'=>(∃w,r = .tuple #[w, .bool (decide (wayOk N P x y))]∧SI h' w (wayR N P x y))∧h<+:h'):=by
 obtain ⟨wp,rfl,sP0⟩:=id hv
 have sP:Sl h 4 wp (P.map pip):=sP0.1
 obtain ⟨a,rfl⟩:=Sl.len4 sP
 have no: ∀H:Heap,¬wayOk N P x y->∃w,Value.tuple #[.slice (some ⟨H.length,0,none⟩) 0 0, .bool false] = .tuple #[w, .bool (decide (wayOk N P x y))]∧SI (H++ [⟨[],1, .rw⟩]) w (wayR N P x y):=fun H hn=>by
  refine ⟨_,by rw [decide_eq_false hn], ?_⟩
  rw [wayR,if_neg hn]
  exact FI.si (lo:=0) (hi:=(H++ [_]).length) (FI.at' rfl (by omega) (by simp) (by simp [hget])) (Nat.le_refl _)
 refine body_of mo Tryz.func158 rfl (by kernel_rfl) (Nat.le_of_ble_eq_true (by kernel_rfl)) rfl ?_
 simp only [go_sem]
 refine ⟨by kernel_rfl,(c_l2NodeN _ N P x (hv.mono (by simp)) hP).use (fun _ m=>m) ?_⟩
 rintro _ _ ⟨rfl,⟨t0,rfl⟩⟩
 by_cases h1:netGood N P∧1<=x∧x<=N
 ·simp only [go_sem,decb h1]
  refine ⟨by kernel_rfl,(c_l2NodeN _ N P y (hv.mono (by simp)) hP).use (fun _ m=>m) ?_⟩
  rintro _ _ ⟨rfl,⟨t1,rfl⟩⟩
  by_cases h2:netGood N P∧1<=y∧y<=N
  ·have g:=h1.1
   have hN:1<=N∧N<=8:=g.2.1
   obtain ⟨N,rfl⟩: ∃N':Nat,N=N':=⟨N.toNat,by omega⟩
   simp only [go_sem,decb h1,decb h2]
   refine ⟨by kernel_rfl,(c_l2Reached _ N P x (hv.mono (by simp)) g.ends (by omega) g.2.2 h1.2).use (fun _ m=>m) ?_⟩
   rintro vS _ ⟨⟨S,sS,hS1,hS2⟩,⟨t3,rfl⟩⟩
   try simp only [List.append_assoc,List.cons_append] at sS
   simp only [go_sem,decb h1,decb h2]
   refine ⟨by kernel_rfl,(c_l1Has _ S _ sS (by omega)).use (fun _ m=>m) ?_⟩
   rintro _ _ ⟨rfl,rfl⟩
   by_cases h3:y∈S
   ·have hb:ball P y N x=true:=ball_symm ((hS2 y).1 h3)
    have ok:wayOk N P x y:=⟨g,h1.2,h2.2,by rw [Int.toNat_natCast];exact hb⟩
    simp only [go_sem,decb h1,decb h2,decb h3]
    refine ⟨by kernel_rfl,(c_l2Way _ N P x y (hv.mono (by simp)) g h1.2 h2.2 hb).use (fun _ m=>m) ?_⟩
    rintro vw _ ⟨sw,⟨t4,rfl⟩⟩
    try simp only [List.append_assoc,List.cons_append] at sw
    simp only [go_sem,decb h1,decb h2,decb h3]
    refine ⟨_,by rw [decide_eq_true ok], ?_⟩
    rw [wayR,if_pos ok,Int.toNat_natCast]
    exact sw
   ·have nok: ¬wayOk N P x y:=fun hh=>h3 ((hS2 y).2 (ball_symm (by have:=hh.2.2.2;rwa [Int.toNat_natCast] at this)))
    simp only [go_sem,decb h1,decb h2,dect h3]
    have:=no (h++(⟨[.int .i64 N, .slice a P.length 0],2, .rw⟩::(t0++(t1++t3)))) nok
    simpa using this
  ·have nok: ¬wayOk N P x y:=fun hh=>h2 ⟨hh.1,hh.2.2.1⟩
   simp only [go_sem,decb h1,dect h2]
   have:=no (h++(⟨[.int .i64 N, .slice a P.length 0],2, .rw⟩::(t0++t1))) nok
   simpa using this
 ·have nok: ¬wayOk N P x y:=fun hh=>h1 ⟨hh.1,hh.2.1⟩
  simp only [go_sem,dect h1]
  have:=no (h++(⟨[.int .i64 N, .slice a P.length 0],2, .rw⟩::t0)) nok
  simpa using this
set_option maxRecDepth 4000 in
theorem c_ShortestWay {n:Nat} (v:Value) (N:Int) (P:List Pip) (x y:Int) (hv:NA n h v N P) (hP:P.length<=1048576) :
  vCall [] Tryz.prog M 145 [v, .int .i64 x, .int .i64 y] h (fun r h'=>(∃w,r = .tuple #[w, .bool (decide (wayOk N P x y))]∧SI h' w (wayR N P x y))∧h<+:h'):=by
 obtain ⟨wp,rfl,sP0⟩:=id hv
 have sP:Sl h 4 wp (P.map pip):=sP0.1
 obtain ⟨a,rfl⟩:=Sl.len4 sP
 have no: ∀H:Heap,¬wayOk N P x y->∃w,Value.tuple #[.slice none 0 0, .bool false] = .tuple #[w, .bool (decide (wayOk N P x y))]∧SI H w (wayR N P x y):=fun H hn=>by
  refine ⟨_,by rw [decide_eq_false hn], ?_⟩
  rw [wayR,if_neg hn]
  exact AI.none
 refine body_of mo Tryz.func145 rfl (by kernel_rfl) (Nat.le_of_ble_eq_true (by kernel_rfl)) rfl ?_
 simp only [go_sem]
 refine ⟨by kernel_rfl,(c_hasNode _ N P x (hv.mono (by simp)) hP).use (fun _ m=>m) ?_⟩
 rintro _ _ ⟨rfl,⟨t0,rfl⟩⟩
 by_cases h1:netGood N P∧1<=x∧x<=N
 ·simp only [go_sem,decb h1]
  refine ⟨by kernel_rfl,(c_has N _ y).use (fun _ m=>m) ?_⟩
  rintro _ _ ⟨rfl,⟨t1,rfl⟩⟩
  by_cases h2:1<=y∧y<=N
  ·have g:=h1.1
   have hN:1<=N∧N<=8:=g.2.1
   have hP10:P.length<=10:=g.2.2
   have he:=g.ends
   have hx:=h1.2
   obtain ⟨N,rfl⟩: ∃N':Nat,N=N':=⟨N.toNat,by omega⟩
   simp only [go_sem,decb h1,decb h2]
   refine ⟨by kernel_rfl,(c_distances _ N P y 0 (hv.mono (by simp)) g h2).use (fun _ m=>m) ?_⟩
   rintro vD H ⟨⟨D,fD,bD⟩,hp⟩
   have hbox:hget H h.length=some ⟨[.int .i64 N, .slice a P.length 0],2, .rw⟩:=by
    refine hget_prefix hp ?_ |>.trans ?_
    ·simp
    ·simp [hget]
   have hpH:h<+:H:=(List.prefix_append _ _).trans hp
   have hHl:h.length<=H.length:=hpH.length_le
   replace sP:=sP.mono hpH
   rw [but_none (fun p hp=>by have:=g.ids p hp;omega)] at bD
   have aD:=bD.dst he h2
   have hl:=aD.len
   have sD:=fD.si (Nat.le_refl _)
   obtain ⟨aa,rfl⟩:=AI.len sD
   obtain ⟨idD,oD,kD,hvD,_,hkD,_,hdD,_,_,_,hatD⟩:=AI.at sD (by omega)
   obtain rfl:aa=some ⟨idD,oD,none⟩:=by simpa using hvD
   have cell: ∀z:Int,1<=z->z<=N->kD.cells[oD+z.toNat]? = some (.int .i64 (dst P y N z)):=fun z h1 h2=>by
    have:=hatD z.toNat (by omega)
    rw [this, ←aD.eq h1 h2,dv,List.getD,List.getElem?_eq_getElem (by omega)];rfl
   have hbx:=self_get hbox
   have cx:=cell x hx.1 hx.2
   have dN:dst P y N x<=N:=by rw [←aD.eq hx.1 hx.2];exact (aD.rng x hx.1 hx.2).2
   have hkD2:=fun t=>hkD t
   have l0:0<=x:=by omega
   have l1:x<(D.length:Int):=by omega
   simp only [go_sem,decb h1,decb h2,hkD2,hdD,cx,l0,l1]
   by_cases d0:dst P y N x<0
   ·have nok: ¬wayOk N P x y:=fun hh=>by
     have:=(aD.ok x hx.1 hx.2 N (Nat.le_refl _)).2 (by have:=hh.2.2.2;rwa [Int.toNat_natCast] at this)
     rw [aD.eq hx.1 hx.2] at this
     omega
    simp only [go_sem,d0]
    exact ⟨no _ nok,hpH.trans (List.prefix_append _ _)⟩
   ·have hb:ball P y N x=true:=(aD.ok x hx.1 hx.2 N (Nat.le_refl _)).1 ⟨by rw [aD.eq hx.1 hx.2];omega,(aD.rng x hx.1 hx.2).2⟩
    have ok:wayOk N P x y:=⟨g,hx,h2,by rw [Int.toNat_natCast];exact hb⟩
    simp only [go_sem,d0]
    replace d0:0<=dst P y N x:=by omega
    refine vLoop.rank mo (dst P y N x).toNat (fun m e h'=> ∃(z:Int) (acc:List Int) (u:Heap) (v8:Value),Regs e [(1, .int .i64 z),(2, .int .i64 y),(3, .pointer (some ⟨h.length,0,none⟩)),(8, .slice (some ⟨idD,oD,none⟩) D.length 0),(9,v8)] ∧
     HeapIs h' (H++u)∧OF H.length 0 u v8 acc∧(1<=z∧z<=N)∧0<=dst P y N z∧(dst P y N z).toNat<=m∧acc.length+(dst P y N z).toNat<=8∧acc++wayL P (dst P y N) y (dst P y N z).toNat z=wayL P (dst P y N) y (dst P y N x).toNat x) ?_ ?_
    ·exact ⟨x,[],_,_,⟨rfl,rfl,rfl,rfl,rfl,trivial⟩, .rfl, .mk' 0 rfl rfl rfl,hx,d0,Nat.le_refl _,by simp;omega,rfl⟩
    ·clear hb
     rintro m e _ ⟨z,acc,u,v8,⟨e1,e2,e3,e8,e9,_⟩,rfl,oi,hz,z0,hm,hln,hw⟩
     obtain ⟨j,rfl,hj⟩:=id oi
     by_cases hzy:z=y
     ·subst hzy
      rw [wayL_end,List.append_nil] at hw
      simp only [go_sem,e1,e2,e3,e8,e9]
      refine ⟨⟨_,by rw [decide_eq_true ok], ?_⟩, ?_⟩
      ·rw [wayR,if_pos ok,Int.toNat_natCast, ←hw]
       have:=OF.fi0 (m:=0) oi (Nat.zero_le _)
       exact FI.ai (n:=0) this |>.le (by simp)
      ·exact hpH.trans (List.prefix_append _ _)
     ·obtain ⟨zp,q,hq,hnx,hqn,hqd⟩:=nx_some he h2 aD hz.1 hz.2 z0 hzy
      simp only [go_sem,e1,e2,e3,e8,e9,hbx,show (z != y)=true by simpa using hzy]
      refine vLoop.count mo P.length (fun i e h'=> ∃(u:Heap),Regs e [(1, .int .i64 z),(2, .int .i64 y),(3, .pointer (some ⟨h.length,0,none⟩)),(8, .slice (some ⟨idD,oD,none⟩) D.length 0),(9, .slice (some ⟨H.length+(j+0),0,none⟩) acc.length 0),(36, .slice a P.length 0),(37, .int .i64 P.length),(38, .int .i64 i)] ∧
       HeapIs h' (H++u)∧u[j]? = some ⟨acc.map iv,1, .rw⟩∧∀(k:Nat) (hk:k<P.length),k<i->¬(0<oth P[k] z∧dst P y N (oth P[k] z)=dst P y N z-1)) ?_ ?_
      ·exact ⟨u,⟨e1,e2,e3,e8,e9,rfl,rfl,rfl,trivial⟩, .rfl,hj,fun k _ hk=>absurd hk (by omega)⟩
      ·clear e1 e2 e3 e8 e9 hj oi
       rintro i e _ hi ⟨u,⟨e1,e2,e3,e8,e9,e36,e37,e38,_⟩,rfl,hj,hno⟩
       simp only [go_sem,e1,e2,e3,e8,e9,e36,e37,e38,hbx]
       by_cases hlt:i<P.length
       ·have hlt':i<(P.map pip).length:=by simpa using hlt
        have hz1:(i:Int)<P.length:=by omega
        have ws:=wsucc hlt (by omega)
        obtain ⟨id2,o,K,hv',hk2,_,hd,hb,hrow,hat⟩:=sP.at hlt'
        obtain rfl:a=some ⟨id2,o,none⟩:=by simpa using hv'
        rw [List.getElem_map] at hrow
        simp only [pip] at hrow
        have hpi:=he _ (List.getElem_mem hlt)
        have cz:=cell z hz.1 hz.2
        have hw1:IntKind.i64.wrap (dst P y N z-1)=dst P y N z-1:=wrap64 (by omega)
        have ow1:own (List.length h) M (H.length+j) := .inl (by omega)
        have ow2:own (List.length h) M (H.length+u.length) := .inl (by omega)
        have more: ¬(0<oth P[i] z∧dst P y N (oth P[i] z)=dst P y N z-1)->∀(k:Nat) (hk:k<P.length),k<i+1->¬(0<oth P[k] z∧dst P y N (oth P[k] z)=dst P y N z-1):=fun hh k hk hki=>by
         by_cases hk3:k<i
         ·exact hno k hk hk3
         ·obtain rfl:k=i:=by omega
          exact hh
        have z00:0<=z:=by omega
        have z01:z<(D.length:Int):=by omega
        simp only [go_sem,e1,e2,e3,e8,e9,e36,e37,e38,hbx,hz1,hk2,hd,hb,hrow,ow2]
        refine ⟨by kernel_rfl,(c_other P[i] z).use (fun _ m=>m) ?_⟩
        rintro _ _ ⟨rfl,⟨t2,rfl⟩⟩
        by_cases c1:0<oth P[i] z
        ·have hor:=oth_range hpi c1
         have co:=cell (oth P[i] z) hor.1 hor.2
         have n0:0<=oth P[i] z:=by omega
         have n1:oth P[i] z<(D.length:Int):=by omega
         by_cases c2:dst P y N (oth P[i] z)=dst P y N z-1
         ·have hwl:=wayL_step he h2 aD hz.1 hz.2 z0 hzy hlt hno ⟨c1,c2⟩
          simp only [go_sem,e1,e2,e3,e8,e9,e36,e37,e38,hbx,c1,n0,n1,z00,z01,hkD2,hdD,cz,co,hw1,show (dst P y N (oth P[i] z)==dst P y N z-1)=true by simpa using c2,ow2,app_old hj,List.length_map,ow1]
          have hacc:(acc++ [P[i].1])++wayL P (dst P y N) y (dst P y N (oth P[i] z)).toNat (oth P[i] z)=wayL P (dst P y N) y (dst P y N x).toNat x:=by
           rw [←hw,hwl,List.append_assoc];rfl
          refine ⟨by omega,by omega,(dst P y N z).toNat-1,by omega,oth P[i] z,acc++ [P[i].1],_,_,⟨rfl,e2,e3,e8,rfl,trivial⟩, .rfl, .mk' (u.length+(t2.length+2)) ?_ (by simp) ?_,hor,by omega,by omega,by simp;omega,hacc⟩
          ·simp;try omega
          ·refine (new_at (by simp;try omega)).trans ?_
           simp [iv]
         ·simp only [go_sem,e1,e2,e3,e8,e9,e36,e37,e38,hbx,c1,n0,n1,z00,z01,hkD2,hdD,cz,co,hw1,show (dst P y N (oth P[i] z)==dst P y N z-1)=false by simpa using c2,ow2]
          exact ⟨hlt,_,⟨e1,e2,e3,e8,e9,e36,e37,congrArg _ ws,trivial⟩, .rfl,app_old hj _,more (fun hh=>c2 hh.2)⟩
        ·simp only [go_sem,e1,e2,e3,e8,e9,e36,e37,e38,hbx,c1]
         exact ⟨hlt,_,⟨e1,e2,e3,e8,e9,e36,e37,congrArg _ ws,trivial⟩, .rfl,app_old hj _,more (fun hh=>c1 hh.1)⟩
       ·obtain rfl:i=P.length:=by omega
        exfalso
        obtain ⟨k,hk,rfl⟩:=List.mem_iff_getElem.1 hq
        exact hno k hk hk ⟨by omega,hqd⟩
  ·have nok: ¬wayOk N P x y:=fun hh=>h2 hh.2.2.1
   simp only [go_sem,decb h1,dect h2]
   exact no _ nok
 ·have nok: ¬wayOk N P x y:=fun hh=>h1 ⟨hh.1,hh.2.1⟩
  simp only [go_sem,dect h1]
  exact no _ nok
end
open Go.HH
theorem shr_nat {a i:Nat} (hi:i<=63):((a:Int)).fdiv (2 ^ (min ((i:Int)).toNat IntKind.i64.bits))=((a >>> i:Nat):Int):=by
 have e:min ((i:Int)).toNat IntKind.i64.bits=i:=by
  rw [Int.toNat_natCast];exact Nat.min_eq_left (by show i<=64;omega)
 rw [e,Int.fdiv_eq_ediv_of_nonneg _ (Int.pow_nonneg (by decide)),Nat.shiftRight_eq_div_pow]
 simp
theorem and_one {n:Nat}:IntKind.i64.wrap ((BitVec.ofInt IntKind.i64.bits (n:Int) &&& BitVec.ofInt IntKind.i64.bits 1).toNat:Int)=((n%2:Nat):Int):=by
 have e:(BitVec.ofInt IntKind.i64.bits (n:Int) &&& BitVec.ofInt IntKind.i64.bits 1).toNat=n%2:=by
  rw [BitVec.toNat_and]
  have h1:(BitVec.ofInt IntKind.i64.bits (n:Int)).toNat=n%2 ^ 64:=by rw [BitVec.ofInt_natCast,BitVec.toNat_ofNat];rfl
  have h2:(BitVec.ofInt IntKind.i64.bits 1).toNat=1:=by decide
  rw [h1,h2,Nat.and_one_is_mod,Nat.mod_mod_of_dvd _ (by decide)]
 rw [e,IntWalk.i64_in _ (by have:=Nat.mod_lt n (show 2>0 by omega);omega)]
theorem bit_eq {s i:Nat}:(((s >>> i%2:Nat):Int)==1)=s.testBit i:=by
 rw [Nat.testBit_eq_decide_div_mod_eq,Nat.shiftRight_eq_div_pow]
 generalize s/2 ^ i=m
 rw [Bool.eq_iff_iff,beq_iff_eq,decide_eq_true_iff]
 omega
theorem shl_one {n:Nat} (hn:n<=60):IntKind.i64.wrap (1*2 ^ (min ((n:Int)).toNat IntKind.i64.bits))=((2 ^ n:Nat):Int):=by
 have e:min ((n:Int)).toNat IntKind.i64.bits=n:=by
  rw [Int.toNat_natCast];exact Nat.min_eq_left (by show n<=64;omega)
 have h1:(2:Nat) ^ n<=2 ^ 60:=Nat.pow_le_pow_right (by omega) hn
 have e3:(2:Int) ^ n=((2 ^ n:Nat):Int):=by simp
 rw [e,Int.one_mul,e3]
 obtain ⟨m,hm⟩: ∃m:Nat,2 ^ n=m:=⟨_,rfl⟩
 rw [hm] at h1 ⊢
 exact IntWalk.i64_in _ (by omega)
theorem shl_one' {n:Nat} (hn:n<=60):IntKind.i64.wrap (1*2 ^ min n 64)=((2 ^ n:Nat):Int):=shl_one hn
theorem shr_nat' {a i:Nat} (hi:i<=63):((a:Int)).fdiv (2 ^ min i 64)=((a >>> i:Nat):Int):=shr_nat hi
theorem hBin_bit {n:Nat}:hBin .and (.int .i64 (n:Int)) (.int .i64 1)=some (.int .i64 ((n%2:Nat):Int)):=by rw [hBin_and,and_one]
def choice (L:List Int) (s:Nat) (i:Nat):List Int:=((List.range i).filter fun j=>s.testBit j).map fun j=>L.getD j 0
theorem choice_yes {L:List Int} {s i:Nat} (hi:i<L.length) (h:s.testBit i=true):choice L s (i+1)=choice L s i++ [L[i]]:=by
 simp only [choice,List.range_succ,List.filter_append,List.map_append,List.filter_cons,List.filter_nil]
 rw [if_pos h];simp [List.getD,hi]
theorem choice_no {L:List Int} {s i:Nat} (h:s.testBit i=false):choice L s (i+1)=choice L s i:=by
 simp only [choice,List.range_succ,List.filter_append,List.map_append,List.filter_cons,List.filter_nil]
 rw [if_neg (by simp [h])];simp
theorem choice_len {L:List Int} {s i:Nat}:(choice L s i).length<=i:=by
 unfold choice
 rw [List.length_map]
 exact Nat.le_trans (List.length_filter_le _ _) (by simp)
theorem choice_mem {L:List Int} {s i:Nat} (hi:i<=L.length): ∀x∈choice L s i,x∈L:=by
 intro x hx
 obtain ⟨j,hj,rfl⟩:=List.mem_map.1 hx
 have:j<L.length:=by have:=List.mem_range.1 (List.mem_filter.1 hj).1;omega
 simp [List.getD,this]
def lexL:List Int->List Int->Bool
 | a::xs,b::ys=>if a=b then lexL xs ys else decide (a<b)
 | _,_=>false
def cmpL:List Int->List Int->Int
 | [],[]=>0
 | [],_::_ => -1
 | _::_,[]=>1
 | a::xs,b::ys=>if a<b then -1 else if b<a then 1 else cmpL xs ys
theorem cmpL_lex: ∀ {a b:List Int},a.length=b.length->(cmpL a b<0↔lexL a b=true)
 | [],[],_=>by simp [cmpL,lexL]
 | a::xs,b::ys,h=>by
  unfold cmpL lexL
  by_cases h1:a<b
  ·rw [if_pos h1,if_neg (by omega)];simp [h1]
  ·rw [if_neg h1]
   by_cases h2:b<a
   ·rw [if_pos h2,if_neg (by omega)];simp [h1]
   ·rw [if_neg h2,if_pos (by omega)]
    exact cmpL_lex (by simpa using h)
 | [],_::_,h=>by simp at h
 | _::_,[],h=>by simp at h
theorem cmpL_drop {a b:List Int}: ∀ {i:Nat},i<=a.length->i<=b.length->(∀(j:Nat) (h1:j<a.length) (h2:j<b.length),j<i->a[j]=b[j])->cmpL a b=cmpL (a.drop i) (b.drop i)
 | 0,_,_,_=>rfl
 | i+1,h1,h2,h=>by
  rw [cmpL_drop (i:=i) (by omega) (by omega) (fun j g1 g2 hj=>h j g1 g2 (by omega))]
  have e:=h i (by omega) (by omega) (by omega)
  rw [List.drop_eq_getElem_cons (show i<a.length by omega),List.drop_eq_getElem_cons (show i<b.length by omega),e]
  conv=>lhs;unfold cmpL
  rw [if_neg (Int.lt_irrefl _),if_neg (Int.lt_irrefl _)]
theorem lexL_drop {a b:List Int}: ∀ {i:Nat},i<=a.length->i<=b.length->(∀(j:Nat) (h1:j<a.length) (h2:j<b.length),j<i->a[j]=b[j])->lexL a b=lexL (a.drop i) (b.drop i)
 | 0,_,_,_=>rfl
 | i+1,h1,h2,h=>by
  rw [lexL_drop (i:=i) (by omega) (by omega) (fun j g1 g2 hj=>h j g1 g2 (by omega))]
  have e:=h i (by omega) (by omega) (by omega)
  rw [List.drop_eq_getElem_cons (show i<a.length by omega),List.drop_eq_getElem_cons (show i<b.length by omega),e]
  conv=>lhs;unfold lexL
  rw [if_pos rfl]
section
variable {h : Heap} {M : Nat → Prop}
theorem c_isNaN (x:Int):vCall [] Tryz.prog M 265 [.int .i64 x] h (fun r h'=>r = .bool false∧h=h'):=by
 refine body_of mo Tryz.func265 rfl (by kernel_rfl) (Nat.le_of_ble_eq_true (by kernel_rfl)) rfl ?_
 simp only [go_sem]
theorem c_Compare (x y:Int):vCall [] Tryz.prog M 255 [.int .i64 x, .int .i64 y] h (fun r h'=>r = .int .i64 (if x<y then -1 else if y<x then 1 else 0)∧h=h'):=by
 refine body_of mo Tryz.func255 rfl (by kernel_rfl) (Nat.le_of_ble_eq_true (by kernel_rfl)) rfl ?_
 simp only [go_sem]
 refine ⟨by kernel_rfl,(c_isNaN _).use (fun _ m=>m) ?_⟩
 rintro _ _ ⟨rfl,rfl⟩
 try simp only [go_sem]
 refine ⟨by kernel_rfl,(c_isNaN _).use (fun _ m=>m) ?_⟩
 rintro _ _ ⟨rfl,rfl⟩
 simp only [go_sem]
 by_cases h1:x<y
 ·simp only [go_sem,h1]
 ·by_cases h2:y<x
  ·simp only [go_sem,h1,h2]
  ·simp only [go_sem,h1,h2]
theorem c_sCompare {n m:Nat} (v w:Value) (a b:List Int) (s:AI n h v a) (s':AI m h w b) (hmax:a.length<=1048576) (hmax':b.length<=1048576) :
  vCall [] Tryz.prog M 228 [v,w] h (fun r h'=>r = .int .i64 (cmpL a b)∧h=h'):=by
 obtain ⟨p,rfl⟩:=s.len
 obtain ⟨q,rfl⟩:=s'.len
 refine body_of mo Tryz.func228 rfl (by kernel_rfl) (Nat.le_of_ble_eq_true (by kernel_rfl)) rfl ?_
 simp only [go_sem]
 refine vLoop.count mo a.length (fun i e h'=>Regs e [(0, .slice p a.length 0),(1, .slice q b.length 0),(9, .slice p a.length 0),(10, .int .i64 a.length),(11, .int .i64 i)]∧HeapIs h' h∧i<=b.length ∧
  ∀(j:Nat) (h1:j<a.length) (h2:j<b.length),j<i->a[j]=b[j]) ?_ ?_
 ·exact ⟨⟨rfl,rfl,rfl,rfl,rfl,trivial⟩, .rfl,by omega,fun j _ _ hj=>absurd hj (by omega)⟩
 ·rintro i e H hi ⟨⟨e0,e1,e9,e10,e11,_⟩,rfl,hib,hsame⟩
  have hd:=cmpL_drop hi hib hsame
  simp only [go_sem,e0,e1,e9,e10,e11]
  by_cases hlt:i<a.length
  ·have ws:=wsucc hlt (by omega)
   have hz:(i:Int)<a.length:=by omega
   obtain ⟨id,o,k,hv,_,_,hk,hkd,_,_,_,hat⟩:=s.at (Nat.zero_lt_of_lt hlt)
   obtain rfl:p=some ⟨id,o,none⟩:=by simpa using hv
   simp only [go_sem,e0,e1,e9,e10,e11,hz,hk,hkd,hat i hlt]
   by_cases h2:i<b.length
   ·obtain ⟨id2,o2,k2,hv2,_,_,hk2,hkd2,_,_,_,hat2⟩:=s'.at (Nat.zero_lt_of_lt h2)
    obtain rfl:q=some ⟨id2,o2,none⟩:=by simpa using hv2
    have hz2:(i:Int)<b.length:=by omega
    rw [List.drop_eq_getElem_cons hlt,List.drop_eq_getElem_cons h2] at hd
    simp only [go_sem,e0,e1,e9,e10,e11,hz2,show ¬((b.length:Int)<=i) by omega,hk2,hkd2,hat2 i h2]
    refine ⟨by kernel_rfl,(c_Compare _ _).use (fun _ m=>m) ?_⟩
    rintro _ _ ⟨rfl,rfl⟩
    by_cases c1:a[i]<b[i]
    ·simp only [go_sem,e0,e1,e9,e10,e11,c1,show ((-1:Int) != 0)=true by decide]
     rw [hd,cmpL,if_pos c1]
    ·by_cases c2:b[i]<a[i]
     ·simp only [go_sem,e0,e1,e9,e10,e11,c1,c2,show ((1:Int) != 0)=true by decide]
      rw [hd,cmpL,if_neg c1,if_pos c2]
     ·simp only [go_sem,e0,e1,e9,e10,e11,c1,c2]
      refine ⟨hlt,⟨e0,e1,e9,e10,congrArg _ ws,trivial⟩, .rfl,by omega,fun j h1 h2 hj => ?_⟩
      by_cases hji:j<i
      ·exact hsame j h1 h2 hji
      ·obtain rfl:j=i:=by omega
       omega
   ·simp only [go_sem,e0,e1,e9,e10,e11,show (b.length:Int)<=i by omega]
    rw [hd,List.drop_eq_getElem_cons hlt,List.drop_of_length_le (show b.length<=i by omega)]
    rfl
  ·obtain rfl:i=a.length:=by omega
   rw [List.drop_length] at hd
   simp only [go_sem,e0,e1,e9,e10,e11,show ¬((a.length:Int)<a.length) by omega]
   by_cases h2:a.length<b.length
   ·simp only [go_sem,e0,e1,e9,e10,e11,show (a.length:Int)<b.length by omega]
    rw [hd,List.drop_eq_getElem_cons h2];rfl
   ·simp only [go_sem,e0,e1,e9,e10,e11,show ¬((a.length:Int)<b.length) by omega]
    rw [hd,List.drop_of_length_le (by omega)];rfl
end
section
variable {h : Heap} {M : Nat → Prop}
set_option maxRecDepth 20000 in
end
end Go.Proofs.YtedidddimikjhaaGreatDoor
