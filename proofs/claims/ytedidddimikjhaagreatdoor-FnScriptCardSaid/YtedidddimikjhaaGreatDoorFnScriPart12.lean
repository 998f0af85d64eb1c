/- Texts of this claim, joined. No condition. -/
import Derived.Test.YtedidddimikjhaaGreatDoorRows
import Derived.Test.YtedidddimikjhaaGreatDoorFnScriPart6
import Derived.Test.YtedidddimikjhaaGreatDoorFnScriPart4
import Derived.Stop.LaidErr
import Derived.Test.YtedidddimikjhaaGreatDoorFnScriPart11
import Derived.Test.YtedidddimikjhaaGreatDoorFnScriPart10
open List (length_map prefix_append append_assoc prefix_rfl length_append getElem?_eq_getElem getElem_map getElem_mem getElem?_append_left getElem?_append_right getElem?_cons_zero mem_map getElem?_cons_succ cons_append map_append mem_cons map_cons getElem?_map nil_append mem_append length_singleton mem_of_getElem? flatten_cons getElem?_set_ne mem_singleton foldl_cons)
open Nat (le_trans add_zero lt_or_ge zero_le add_sub_cancel_left)
set_option linter.unusedSimpArgs false
set_option linter.unusedVariables false
namespace Go.Proofs.YtedidddimikjhaaGreatDoor
open Go Go.HH Go.Proofs
def globQ(L:List (Nat×List Value))(N:Nat)(t0:Tgt):Phi:=fun i=>if i=N then some t0 else globP L N i
theorem glob_relE{L:List (Nat×List Value)}{N:Nat}{W:World}{t0:Tgt}(hN: ∀x∈L,x.1<N∧L.lookup x.1=some x.2)(h0: ∃c el fr,W.heap[t0.b]? = some (.cells c el fr)∧c.size=t0.n∧t0.d<=c.size)(hz:t0.esz=1)
  (hp: ∀i l,L.lookup i=some l->∃(l':List Value) (el:TypeId) (fr:Nat×Nat),W.heap[i]? = some (.cells l'.toArray el fr)∧l'.length=l.length∧∀(j:Nat) (v:Value),l[j]? = some v->∃v':Value,l'[j]? = some v'∧VRel (globQ L N t0) v v') :
  HRel (globG L) (globQ L N t0) (globH L N++ [⟨[],1, .ro⟩]) W∧allRo (globH L N++ [⟨[],1, .ro⟩]):=by
 have hlen:(globH L N).length=N:=by simp[globH]
 have at': ∀i t,globQ L N t0 i=some t->(i=N∧t=t0)∨(i<N∧∃l,L.lookup i=some l∧t=⟨i,0,1,l.length⟩):=by
  intro i t e
  unfold globQ at e
  split at e
  ·rename_i hi
   cases e
   exact .inl ⟨hi,rfl⟩
  ·unfold globP at e
   split at e
   ·rename_i hi
    cases hl:L.lookup i with
    | none=>rw[hl] at e;cases e
    | some l=>rw[hl] at e;cases e;exact .inr ⟨hi,l,rfl,rfl⟩
   ·cases e
 have get': ∀i k,(globH L N++ [(⟨[],1, .ro⟩:Blk)])[i]? = some k->(i=N∧k=⟨[],1, .ro⟩)∨(i<N∧k=⟨(L.lookup i).getD [],1, .ro⟩):=by
  intro i k e
  rcases lt_or_ge i N with h|h
  ·rw[getElem?_append_left (by rw[hlen];exact h)] at e
   exact .inr ⟨h,(globH_get e).1⟩
  ·rw[getElem?_append_right (by rw[hlen];exact h),hlen] at e
   have:i-N=0:=by
    have:=(List.getElem?_eq_some_iff.1 e).1
    simp at this;omega
   rw[this] at e
   cases e
   exact .inl ⟨by omega,rfl⟩
 obtain⟨c0,el0,fr0,hc0,hc1,hc2⟩:=h0
 refine⟨⟨?_, ?_, ?_, ?_, ?_⟩, ?_⟩
 ·rintro g hg
  obtain⟨x,hx,rfl⟩:=mem_map.1 hg
  obtain⟨h1,h2⟩:=hN x hx
  refine⟨⟨x.1,0,1,x.2.length⟩, ?_,rfl,rfl,rfl⟩
  simp only[globQ,if_neg (Nat.ne_of_lt h1),globP,if_pos h1,h2,Option.map_some]
 ·intro i t e
  rcases at' i t e with⟨rfl,rfl⟩|⟨h1,l,h2,rfl⟩
  ·exact⟨by rw[length_append,hlen];simp,(Array.getElem?_eq_some_iff.1 hc0).1⟩
  ·obtain⟨l',el,fr,h3,_⟩:=hp i l h2
   exact⟨by rw[length_append,hlen];simp;omega,(Array.getElem?_eq_some_iff.1 h3).1⟩
 ·intro i t k _ e ek _
  rcases at' i t e with⟨rfl,rfl⟩|⟨h1,l,h2,rfl⟩
  ·rcases get' _ k ek with⟨_,rfl⟩|⟨hh,_⟩
   ·exact⟨hz.symm,c0,el0,fr0,hc0,hc1,by simpa using hc2,fun j v ej=>by simp at ej,fun hh=>by cases hh⟩
   ·omega
  ·rcases get' _ k ek with⟨hh,_⟩|⟨_,rfl⟩
   ·omega
   ·obtain⟨l',el,fr,h3,h4,h5⟩:=hp i l h2
    rw[h2]
    refine⟨rfl,l'.toArray,el,fr,h3,by simpa using h4,by simp[h4],fun j v ej => ?_,fun hh=>by cases hh⟩
    obtain⟨v',e1,e2⟩:=h5 j v (by simpa using ej)
    exact⟨v',by simpa using e1,e2⟩
 ·intro i t k e ek
  rcases at' i t e with⟨rfl,rfl⟩|⟨h1,l,h2,rfl⟩
  ·rcases get' _ k ek with⟨_,rfl⟩|⟨hh,_⟩
   ·exact hz.symm
   ·omega
  ·rcases get' _ k ek with⟨hh,_⟩|⟨_,rfl⟩
   ·omega
   ·rfl
 ·intro i i' t t' k k' e e' ek ek' hrw
  rcases get' _ k ek with⟨_,rfl⟩|⟨_,rfl⟩<;>cases hrw
 ·intro i k e
  rcases get' _ k e with⟨_,rfl⟩|⟨_,rfl⟩<;>rfl
def glNE:Nat:=max 1 2+1
def glLE:List (Nat×List Value):= [(1,powV),(2,[.iface 266 (.pointer (some ⟨glNE,0,none⟩))])]
def glGE:List (Nat×Nat):= [(1,20),(2,1)]
def glHE:Heap:=globH glLE glNE++ [⟨[],1, .ro⟩]
theorem globGE:globG glLE=glGE:=by
 show [(1,powV.length),(2,1)]=_
 rw[powV_len];rfl
theorem glHE_at{h:Heap}(hp:glHE<+:h):PowAt glGE h∧ErrAt glGE h:=by
 refine⟨PowAt.mono ⟨by simp[glGE], ?_⟩ hp,ErrAt.mono ⟨by simp[glGE],266,glNE, ?_⟩ hp⟩
 ·show (globH glLE glNE++_)[1]? = _
  rw[getElem?_append_left (by simp[globH,glNE])]
  simp[globH,glNE,glLE,List.lookup]
 ·show (globH glLE glNE++_)[2]? = _
  rw[getElem?_append_left (by simp[globH,glNE])]
  simp[globH,glNE,glLE,List.lookup]
theorem err_row (u : TypeId) (h : Tryz.prog.typeName? 3 u = some "*errors.errorString") : u = 266 :=
 typeName_ptr_named (nm := "errors.errorString") (by kernel_rfl) (by kernel_rfl) (by decide) u h
theorem glob_ex{W:World}(h:laidMetH Tryz.prog Rows.fnExactExecuteCommandRow.laid W): ∃t0:Tgt,HRel glGE (globQ glLE glNE t0) glHE W∧allRo glHE:=by
 rw[MakeChecks.laidMetH_plain _ _ _ (by kernel_rfl)] at h
 have h3:laidMet Tryz.prog ((_,Lib.tabData .u64 Lib.pow10Tab)::_) W:=laidMet.tail (laidMet.tail h)
 have t:=Lib.tabIs_of_head (g:=1) (t:=242) (e:=81) (n:=20) (by kernel_rfl) (by kernel_rfl) (by kernel_rfl) (by kernel_rfl) (by kernel_rfl) (by kernel_rfl) h3
 have h5:=laidMet.tail (laidMet.tail (laidMet.tail h3))
 obtain⟨a,s,hv0,hc0,_,_⟩:=laid_sentinel (g:=2) (ti:=160) (tp:=266) (te:=268) (ts:=9) h5 (by kernel_rfl) (by kernel_rfl) Tryz.underlying160 err_row Tryz.underlying266 Tryz.underlying268 rfl rfl Tryz.underlying9 (by kernel_rfl) (by kernel_rfl)
 obtain⟨b,off,spot⟩:=a
 unfold World.cell? at hc0
 simp only at hc0
 split at hc0
 ·rename_i c el fr hcl
  cases spot with
  | some _=>simp at hc0
  | none=>
   simp only[Option.isSome_none,if_false,Bool.false_eq_true] at hc0
   have hoff:off<c.size:=(Array.getElem?_eq_some_iff.1 hc0).1
   refine⟨⟨b,off,1,c.size⟩, ?_⟩
   rw[←globGE]
   refine glob_relE ?_ ⟨c,el,fr,hcl,rfl,by simp only;omega⟩ rfl ?_
   ·intro x hx
    simp only[glLE,mem_cons,List.not_mem_nil,or_false] at hx
    rcases hx with rfl|rfl<;>exact⟨Nat.le_of_ble_eq_true rfl,rfl⟩
   ·intro i l e
    unfold glLE at e
    rw[List.lookup_cons] at e
    split at e
    ·rename_i hi
     obtain rfl:i=1:=by simpa using hi
     cases e
     obtain⟨el2,fr2,e2⟩:=var_cells (by kernel_rfl) t
     exact⟨powV,el2,fr2,e2,rfl,fun j v ej=>⟨v,ej,(powV_plain v (mem_of_getElem? ej)).rel⟩⟩
    ·rw[List.lookup_cons] at e
     split at e
     ·rename_i hi
      obtain rfl:i=2:=by simpa using hi
      cases e
      obtain⟨el2,fr2,e2⟩:=var_cells (by kernel_rfl) hv0
      refine⟨[.iface 266 (.pointer (some ⟨b,off,none⟩))],el2,fr2,e2,rfl,fun j v ej => ?_⟩
      have hj:j=0:=by
       have:=(List.getElem?_eq_some_iff.1 ej).1
       simp at this;omega
      subst hj
      cases ej
      refine⟨_,rfl, .iface ?_⟩
      have:=VRel.ptr (p:=globQ glLE glNE ⟨b,off,1,c.size⟩) (id:=glNE) (off:=0) (t:=⟨b,off,1,c.size⟩) (by simp[globQ])
      simpa using this
     ·cases e
 ·cases hc0
noncomputable def glT{W:World}(h:laidMetH Tryz.prog Rows.fnExactExecuteCommandRow.laid W):Tgt:=(glob_ex h).choose
theorem glob_metE{W:World}(h:laidMetH Tryz.prog Rows.fnExactExecuteCommandRow.laid W):HRel glGE (globQ glLE glNE (glT h)) glHE W∧allRo glHE:=(glob_ex h).choose_spec
open Go.HH Go.Proofs
section
variable {G:List (Nat×Nat)} {h:Heap} {M:Nat->Prop}
theorem c_big(b:Option Addr)(n:Nat):vCall [] Tryz.prog M 16 [.slice b n 0] h (fun r h'=>r = .bool (decide ((65536:Int)<n))∧h=h'):=by
 refine bo Tryz.func16 rfl rfl ?_
 simp only[go_sem]
 all_goals exact fin_
theorem CB.small{c:Con}(cb:CB c)(hD:c.D.size+c.Q.size<=30000):conSmall c:=⟨by have:=cb.p1;omega,by have:=cb.v1;omega,by omega⟩
end
open Go.HH Go.Proofs
section
variable {G:List (Nat×Nat)} {h:Heap} {M:Nat->Prop}
set_option maxRecDepth 4000 in
theorem c_RunScript{n:Nat}(pw:PowAt G h)(er:ErrAt G h)(C:Con)(s:ByteArray)(wP wV:Value)(sc:ConS n h C wP wV)(es:EszC h 4 wV)(hc:conSmall C)(hs:s.size<=1048576) :
  vCall G Tryz.prog M 30 [conV C wP wV, .string s] h (fun r h'=>(∃x,r = .tuple #[x, .bool (decide (scrOk C s))]∧FQs h.length h'.length 1 h' x ((scrR C s).map sv1))∧h<+:h'):=by
 have cv: ∀(c:Con) (a b:Value),conV c a b = .agg #[.int .i64 c.N,a,b, .int .i64 c.src, .string c.D, .string c.Q, .int .i64 c.cnt]:=fun _ _ _=>rfl
 have o0:oneC wP=true:=by obtain⟨a,e,_⟩:=sc.p.1;rw[e];rfl
 have o0v:oneC wV=true:=by obtain⟨a,e,_⟩:=sc.v.1;rw[e];rfl
 have bad: ∀(a:Option Addr) (lo hi:Nat) (H:Heap),¬scrOk C s->∃x,Value.tuple #[.slice a 0 0, .bool false] = .tuple #[x, .bool (decide (scrOk C s))]∧FQs lo hi 1 H x ((scrR C s).map sv1):=fun a lo hi H hn=>
  ⟨_,by rw[decide_eq_false hn],by rw[scrR,if_neg hn];exact .inr ⟨rfl,a,rfl⟩⟩
 refine bo Tryz.func30 rfl rfl ?_
 simp only[go_sem,conV,o0,o0v]
 rw[←cv]
 refine (c_IsValidConsole (pw.mono (by simp)) C wP wV (sc.mono (by simp)) (es.mono (by simp)) hc).go ?_
 rintro _ _⟨rfl,⟨t,rfl⟩⟩
 by_cases g:conOk C
 case neg=>
  simp only[go_sem,conV,dect g]
  exact bad _ _ _ _ (fun hh=>g hh.1)
 by_cases g2:(4000:Int)<(s.size:Nat)
 ·simp only[go_sem,conV,decb g,g2]
  exact bad _ _ _ _ (fun hh=>by have:=hh.2.1;omega)
 simp only[go_sem,conV,decb g,g2]
 refine ((c_SplitB 10 s (by omega)).addG).go ?_
 rintro _ _⟨t2,j,rfl,rfl,hj⟩
 have hj':t2[j]? = some ⟨strsV (lns s),1, .rw⟩:=hj
 have ewl:(splitL (bl s) 10).length=(lns s).length:=rfl
 have hwl:=lns_len s
 by_cases g3:(30:Int)<((lns s).length:Nat)
 ·simp only[go_sem,ewl,g3]
  exact bad _ _ _ _ (fun hh=>by have:=hh.2.2;omega)
 have ok:scrOk C s:=⟨g,by omega,by omega⟩
 simp only[go_sem,ewl,g3]
 obtain⟨J,hJ⟩: ∃J,J=t.length+j:=⟨_,rfl⟩
 obtain⟨W,hW⟩: ∃W,W=h.length+(t.length+1)+j:=⟨_,rfl⟩
 have hWJ:W=h.length+(J+1):=by omega
 have hj2:(t++(t2++ [(⟨[],1, .rw⟩:Blk)]))[J]? = some ⟨strsV (lns s),1, .rw⟩:=by
  rw[hJ,getElem?_append_right (by omega),add_sub_cancel_left,getElem?_append_left (List.getElem?_eq_some_iff.1 hj').1]
  exact hj'
 have gw: ∀(i:Nat) (hi:i<(lns s).length),(strsV (lns s))[i]? = some (.string (mkB (lns s)[i])):=fun i hi=>by
  rw[strsV,getElem?_map,getElem?_eq_getElem hi];rfl
 rw[←hW]
 refine vLoop.count mo (lns s).length (fun i e h'=> ∃(u:Heap) (q m:Nat) (xP xV:Value),Regs e [(2, .pointer (some ⟨h.length,0,none⟩)),(7, .slice (some ⟨h.length+(q+1),0,none⟩) i 0),(26, .slice (some ⟨W,0,none⟩) (lns s).length 0),(27, .int .i64 (lns s).length),(28, .int .i64 i)] ∧
  HeapIs h' (h++⟨[.int .i64 (conAt C (lns s) i).N,xP,xV, .int .i64 (conAt C (lns s) i).src, .string (conAt C (lns s) i).D, .string (conAt C (lns s) i).Q, .int .i64 (conAt C (lns s) i).cnt],7, .rw⟩::u) ∧
  u[J]? = some ⟨strsV (lns s),1, .rw⟩∧u[q]? = some ⟨(reps C (lns s) i).map Value.string,1, .rw⟩∧J≠q∧ConS m h' (conAt C (lns s) i) xP xV∧EszC h' 4 xV) ?_ ?_
 ·refine⟨_,t.length+t2.length,n,wP,wV,⟨rfl,rfl,rfl,rfl,rfl,trivial⟩, .rfl,hj2, ?_, ?_,sc.mono (prefix_append _ _),es.mono (prefix_append _ _)⟩
  ·rw[←append_assoc,getElem?_append_right (by simp)];simp[reps]
  ·have:=(List.getElem?_eq_some_iff.1 hj').1
   omega
 ·clear hj hj' hj2
  rintro i e _ hi ⟨u,q,m,xP,xV,⟨e2,e7,e26,e27,e28,_⟩,rfl,hj,hq,hjq,kS,kE⟩
  have hG: ∀(b:Blk),hget (h++b::u) W=some ⟨strsV (lns s),1, .rw⟩:=fun b=>by
   rw[hWJ,hget_app];exact hj
  have hjl:=(List.getElem?_eq_some_iff.1 hj).1
  have hql:=(List.getElem?_eq_some_iff.1 hq).1
  have x0:oneC xP=true:=by obtain⟨a,e,_⟩:=kS.p.1;rw[e];rfl
  have x1:oneC xV=true:=by obtain⟨a,e,_⟩:=kS.v.1;rw[e];rfl
  have hlen:=reps_len (C:=C) (ws:=lns s) (i:=i)
  by_cases hlt:i<(lns s).length
  ·have wi:=wsucc hlt (by omega)
   have hz:(i:Int)<(lns s).length:=by omega
   have hsz:(mkB (lns s)[i]).size<=9223372036854775806:=le_trans (lns_le (getElem_mem _)) (by omega)
   simp only[go_sem,e2,e7,e26,e27,e28,hz,hG,gw i hlt]
   rw[←cv]
   refine (c_ExecuteCommand (pw.mono (by simp)) (er.mono (by simp)) (conAt C (lns s) i) (mkB (lns s)[i]) xP xV kS kE (conAt_small hc _ i) hsz).go ?_
   rintro _ _⟨⟨E,yP,yV,rfl,hE,q1⟩,⟨t3,rfl⟩⟩
   rw[←conAt_succ hlt] at hE
   subst hE
   simp only[go_sem,e2,e7,e26,e27,e28,conV,q1.one.1,q1.one.2,app_old hq,length_map,hlen]
   refine⟨by omega,by omega,hlt,_,u.length+(t3.length+2),_,yP,yV,⟨e2,rfl,e26,e27,congrArg _ wi,trivial⟩, .rfl, ?_, ?_,by omega,(q1.scr hql).s,(q1.scr hql).esz.2⟩
   ·rw[getElem?_append_left (by simp;omega),getElem?_set_ne (by omega)];exact app_old hj _
   ·rw[reps_succ hlt,map_append]
    exact (getElem?_append_right (by simp)).trans (by simp)
  ·obtain rfl:i=(lns s).length:=by omega
   simp only[go_sem,e2,e7,e26,e27,e28,show ¬(((lns s).length:Nat):Int)<(lns s).length by omega]
   refine⟨_,by rw[decide_eq_true ok], .inl ⟨_,by rw[scrR,if_pos ok,length_map,hlen],by omega,by omega, ?_,fun r hr => ?_⟩⟩
   ·rw[hget_app,getElem?_cons_succ,hq,scrR,if_pos ok]
    congr 2
    generalize reps C (lns s) (lns s).length=L
    induction L with
    | nil=>rfl
    | cons x r ih=>rw[map_cons,map_cons,flatten_cons, ←ih];rfl
   ·obtain⟨x,_,rfl⟩:=mem_map.1 hr;rfl
end
open Go.HH Go.Proofs
section
variable {h:Heap} {M:Nat->Prop}
set_option maxRecDepth 4000 in
theorem c_sRunScript{n:Nat}(C:Con)(s:ByteArray)(wP wV:Value)(sc:ConS n h C wP wV)(hc:conSmall C)(hs:s.size<=1048576) :
  vCall [] Tryz.prog M 29 [conV C wP wV, .string s] h (fun r h'=>(∃x,r = .tuple #[x, .bool (decide (scrOk C s))]∧FQs h.length h'.length 1 h' x ((scrR C s).map sv1))∧h<+:h'):=by
 have cv: ∀(c:Con) (a b:Value),conV c a b = .agg #[.int .i64 c.N,a,b, .int .i64 c.src, .string c.D, .string c.Q, .int .i64 c.cnt]:=fun _ _ _=>rfl
 have o0:oneC wP=true:=by obtain⟨a,e,_⟩:=sc.p.1;rw[e];rfl
 have o0v:oneC wV=true:=by obtain⟨a,e,_⟩:=sc.v.1;rw[e];rfl
 have bad: ∀(a:Option Addr) (lo hi:Nat) (H:Heap),¬scrOk C s->∃x,Value.tuple #[.slice a 0 0, .bool false] = .tuple #[x, .bool (decide (scrOk C s))]∧FQs lo hi 1 H x ((scrR C s).map sv1):=fun a lo hi H hn=>
  ⟨_,by rw[decide_eq_false hn],by rw[scrR,if_neg hn];exact .inr ⟨rfl,a,rfl⟩⟩
 refine bo Tryz.func29 rfl rfl ?_
 simp only[go_sem,conV,o0,o0v]
 refine (c_l1Split s 10 (by omega)).go ?_
 rintro _ _⟨t2,j,rfl,rfl,hj⟩
 have hj':t2[j]? = some ⟨strsV (lns s),1, .rw⟩:=hj
 have ewl:(splitL (bl s) 10).length=(lns s).length:=rfl
 have hwl:=lns_len s
 simp only[go_sem,ewl]
 rw[←cv]
 refine (c_l28Good C wP wV (sc.mono (by simp)) hc).go ?_
 rintro _ _⟨rfl,⟨t,rfl⟩⟩
 by_cases g:conOk C
 case neg=>
  simp only[go_sem,conV,dect g]
  exact bad _ _ _ _ (fun hh=>g hh.1)
 by_cases g2:(4000:Int)<(s.size:Nat)
 ·simp only[go_sem,conV,decb g,g2]
  exact bad _ _ _ _ (fun hh=>by have:=hh.2.1;omega)
 by_cases g3:(30:Int)<((lns s).length:Nat)
 ·simp only[go_sem,conV,decb g,g2,ewl,g3]
  exact bad _ _ _ _ (fun hh=>by have:=hh.2.2;omega)
 have ok:scrOk C s:=⟨g,by omega,by omega⟩
 simp only[go_sem,conV,decb g,g2,ewl,g3]
 obtain⟨J,hJ⟩: ∃J,J=j+1:=⟨_,rfl⟩
 obtain⟨W,hW⟩: ∃W,W=h.length+2+j:=⟨_,rfl⟩
 have hWJ:W=h.length+(J+1):=by omega
 have hj2:((⟨[],1, .rw⟩:Blk)::(t2++t))[J]? = some ⟨strsV (lns s),1, .rw⟩:=by
  rw[hJ,getElem?_cons_succ,getElem?_append_left (List.getElem?_eq_some_iff.1 hj').1]
  exact hj'
 have gw: ∀(i:Nat) (hi:i<(lns s).length),(strsV (lns s))[i]? = some (.string (mkB (lns s)[i])):=fun i hi=>by
  rw[strsV,getElem?_map,getElem?_eq_getElem hi];rfl
 rw[←hW]
 refine vLoop.count mo (lns s).length (fun i e h'=> ∃(u:Heap) (q m:Nat) (xP xV:Value),Regs e [(2, .pointer (some ⟨h.length,0,none⟩)),(6, .slice (some ⟨h.length+(q+1),0,none⟩) i 0),(7, .slice (some ⟨W,0,none⟩) (lns s).length 0),(9, .int .i64 i)] ∧
  HeapIs h' (h++⟨[.int .i64 (conAt C (lns s) i).N,xP,xV, .int .i64 (conAt C (lns s) i).src, .string (conAt C (lns s) i).D, .string (conAt C (lns s) i).Q, .int .i64 (conAt C (lns s) i).cnt],7, .rw⟩::u) ∧
  u[J]? = some ⟨strsV (lns s),1, .rw⟩∧u[q]? = some ⟨(reps C (lns s) i).map Value.string,1, .rw⟩∧J≠q∧ConS m h' (conAt C (lns s) i) xP xV) ?_ ?_
 ·exact⟨_,0,n,wP,wV,⟨rfl,rfl,rfl,rfl,trivial⟩, .rfl,hj2,rfl,by omega,sc.mono (prefix_append _ _)⟩
 ·clear hj hj' hj2
  rintro i e _ hi ⟨u,q,m,xP,xV,⟨e2,e6,e7,e9,_⟩,rfl,hj,hq,hjq,kS⟩
  have hG: ∀(b:Blk),hget (h++b::u) W=some ⟨strsV (lns s),1, .rw⟩:=fun b=>by
   rw[hWJ,hget_app];exact hj
  have hjl:=(List.getElem?_eq_some_iff.1 hj).1
  have hql:=(List.getElem?_eq_some_iff.1 hq).1
  have x0:oneC xP=true:=by obtain⟨a,e,_⟩:=kS.p.1;rw[e];rfl
  have x1:oneC xV=true:=by obtain⟨a,e,_⟩:=kS.v.1;rw[e];rfl
  have hlen:=reps_len (C:=C) (ws:=lns s) (i:=i)
  by_cases hlt:i<(lns s).length
  ·have wi:=wsucc hlt (by omega)
   have hz:(i:Int)<(lns s).length:=by omega
   have hsz:(mkB (lns s)[i]).size<=9223372036854775806:=le_trans (lns_le (getElem_mem _)) (by omega)
   simp only[go_sem,e2,e6,e7,e9,hz,hG,gw i hlt]
   rw[←cv]
   refine (c_sExecuteCommand (conAt C (lns s) i) (mkB (lns s)[i]) xP xV kS (conAt_small hc _ i) hsz).go ?_
   rintro _ _⟨⟨E,yP,yV,rfl,hE,q1⟩,⟨t3,rfl⟩⟩
   rw[←conAt_succ hlt] at hE
   subst hE
   simp only[go_sem,e2,e6,e7,e9,conV,q1.one.1,q1.one.2,app_old hq,length_map,hlen]
   refine⟨by omega,by omega,hlt,_,u.length+(t3.length+1),_,yP,yV,⟨e2,rfl,e7,congrArg _ wi,trivial⟩, .rfl, ?_, ?_,by omega,(q1.scr hql).s⟩
   ·rw[getElem?_append_left (by simp;omega),getElem?_set_ne (by omega)];exact app_old hj _
   ·rw[reps_succ hlt,map_append]
    exact (getElem?_append_right (by simp)).trans (by simp)
  ·obtain rfl:i=(lns s).length:=by omega
   simp only[go_sem,e2,e6,e7,e9,show ¬(((lns s).length:Nat):Int)<(lns s).length by omega]
   refine⟨_,by rw[decide_eq_true ok], .inl ⟨_,by rw[scrR,if_pos ok,length_map,hlen],by omega,by omega, ?_,fun r hr => ?_⟩⟩
   ·rw[hget_app,getElem?_cons_succ,hq,scrR,if_pos ok]
    congr 2
    generalize reps C (lns s) (lns s).length=L
    induction L with
    | nil=>rfl
    | cons x r ih=>rw[map_cons,map_cons,flatten_cons, ←ih];rfl
   ·obtain⟨x,_,rfl⟩:=mem_map.1 hr;rfl
end
open Go.HH Go.Proofs
theorem lns_one{w:BL}(h:(10:UInt8)∉w):lns (mkB w)= [w]:=by unfold lns;rw[bl_mkB];exact splitB_last h
theorem splB_no(b:UInt8): ∀(l:BL) (A:List BL) (c:BL),(∀w∈A,b∉w)->b∉c->(∀w∈(l.foldl (spl b) (A,c)).1,b∉w)∧b∉(l.foldl (spl b) (A,c)).2
 | [],A,c,hA,hc=>⟨hA,hc⟩
 | x::r,A,c,hA,hc=>by
  rw[foldl_cons]
  by_cases hx:x=b
  ·rw[show spl b (A,c) x=(A++ [c],[]) by rw[spl,if_pos hx]]
   exact splB_no b r _ _ (fun w hw=>by
    rcases mem_append.1 hw with h|h
    ·exact hA w h
    ·rw[mem_singleton.1 h];exact hc) (by simp)
  ·rw[show spl b (A,c) x=(A,c++ [x]) by rw[spl,if_neg hx]]
   exact splB_no b r _ _ hA (fun hm=>by
    rcases mem_append.1 hm with h|h
    ·exact hc h
    ·exact hx (mem_singleton.1 h).symm)
theorem lns_no{s:ByteArray}{w:BL}(h:w∈lns s):(10:UInt8)∉w:=by
 obtain⟨h1,h2⟩:=splB_no 10 (bl s) [] [] (fun w hw=>by cases hw) (by simp)
 rcases mem_append.1 h with h|h
 ·exact h1 w h
 ·rw[mem_singleton.1 h];exact h2
section
variable {G:List (Nat×Nat)} {h:Heap} {M:Nat->Prop}
theorem c_sSplitLines(s:ByteArray)(hs:s.size<=1000000):vCall [] Tryz.prog M 35 [.string s, .string ⟨#[10]⟩] h
  (fun r h'=>(if s.size<=4000 then ∃t j,r = .tuple #[.slice (some ⟨h.length+j,0,none⟩) (lns s).length 0, .bool true]∧h'=h++t∧t[j]? = some ⟨strsV (lns s),1, .rw⟩ else ∃a,r = .tuple #[.slice a 0 0, .bool false])∧h<+:h'):=by
 refine bo Tryz.func35 rfl rfl ?_
 by_cases g:(4000:Int)<(s.size:Nat)
 ·simp only[go_sem,g,show (((⟨#[10]⟩:ByteArray).size:Nat):Int)=1 from rfl]
  rw[if_neg (by omega)]
  exact⟨_,rfl⟩
 ·simp only[go_sem,g,show (((⟨#[10]⟩:ByteArray).size:Nat):Int)=1 from rfl,show (⟨#[10]⟩:ByteArray)[0]? = some 10 from rfl]
  refine (c_l1Split s 10 (by omega)).go ?_
  rintro _ _⟨t,j,rfl,rfl,hj⟩
  simp only[go_sem]
  rw[if_pos (by omega)]
  exact⟨t,j,rfl,rfl,hj⟩
theorem sv1_at{l:List ByteArray}{i:Nat}(hi:i<(l.map sv1).length):(l.map sv1)[i]= [.string (l[i]'(by simpa using hi))]:=by rw[getElem_map];rfl
set_option maxRecDepth 20000 in
set_option maxHeartbeats 4000000 in
theorem l_FnScript(pw:PowAt G h)(er:ErrAt G h)(b:Option Addr)(n:Nat)(hc:CodeOk h b n):vCall G Tryz.prog M 7 [.slice b n 0] h (fun r _=>r = .bool true):=by
 refine bo Tryz.func7 rfl rfl ?_
 simp only[go_sem]
 refine ((c_big b n).addG).go ?_
 rintro _ _⟨rfl,rfl⟩
 by_cases hb:(65536:Int)<n
 ·simp only[go_sem,decb hb]
 simp only[go_sem,dect hb]
 refine ((c_DrawRunScript b n hc).addG).go ?_
 rintro _ _⟨⟨c,wP,wV,s,rfl,cl,cb,hD,hs⟩,⟨t1,rfl⟩⟩
 have cv: ∀(c:Con) (a b:Value),conV c a b = .agg #[.int .i64 c.N,a,b, .int .i64 c.src, .string c.D, .string c.Q, .int .i64 c.cnt]:=fun _ _ _=>rfl
 have sm:=cb.small hD
 have o1:=cl.p.one
 have o2:=cl.v.one
 simp only[go_sem,conV,o1,o2,dect hb]
 try rw[←cv]
 refine (c_RunScript (pw.mono (by simp)) (er.mono (by simp)) c s wP wV ((cl.mono (by simp)).s) ((cl.v.mono (by simp)).esz) sm (by omega)).go ?_
 rintro _ _⟨⟨x,rfl,q1⟩,⟨t2,rfl⟩⟩
 try simp only[append_assoc,cons_append,nil_append] at q1
 simp only[go_sem,conV,o1,o2]
 try rw[←cv]
 refine ((c_sRunScript c s wP wV ((cl.mono (by simp)).s) sm (by omega)).addG).go ?_
 rintro _ _⟨⟨u,rfl,q2⟩,⟨t3,rfl⟩⟩
 try simp only[append_assoc,cons_append,nil_append] at q2
 obtain⟨xa,xe,_⟩:=q1.sl
 obtain⟨ua,ue,_⟩:=q2.sl
 rw[length_map] at xe ue
 subst xe ue
 simp only[go_sem,o1,o2,Tryz.underlying4,bne_self_eq_false]
 obtain⟨H,hH⟩: ∃H:Heap,H=h++(t1++⟨[.int .i64 c.N,wP,wV, .int .i64 c.src, .string c.D, .string c.Q, .int .i64 c.cnt],7, .rw⟩::(t2++t3)):=⟨_,rfl⟩
 try rw[←hH]
 obtain⟨bx,hbx⟩: ∃bx,bx=h.length+t1.length:=⟨_,rfl⟩
 have hB:hget H bx=some ⟨[.int .i64 c.N,wP,wV, .int .i64 c.src, .string c.D, .string c.Q, .int .i64 c.cnt],7, .rw⟩:=by rw[hH,hbx, ←append_assoc, ←length_append];exact hget_app0
 have q1H:=q1.mono (h':=H) (by rw[hH];simp)
 have q2H:=q2.mono (h':=H) (by rw[hH];simp)
 have hpre:h<+:H:=by rw[hH];exact prefix_append _ _
 have clH:=cl.mono (h':=H) (by rw[hH];simp)
 have hl30:(scrR c s).length<=30:=by
  unfold scrR
  split
  ·rename_i g;rw[reps_len];exact g.2.2
  ·exact zero_le _
 clear hH q1 q2
 refine vLoop.count mo (scrR c s).length (fun i e h'=>Regs e [(3, .pointer (some ⟨bx,0,none⟩)),(4, .string s),(5, .slice xa (scrR c s).length 0),(6, .bool (decide (scrOk c s))),(7, .slice ua (scrR c s).length 0),(9, .int .i64 i)]∧HeapIs h' H) ?_ ?_
 ·exact⟨(by simp[Regs,upd,put,env0,hbx]), .rfl⟩
 ·rintro i e HL hi ⟨⟨e3,e4,e5,e6,e7,e9,_⟩,rfl⟩
  by_cases hlt:i<(scrR c s).length
  ·have wi:=wsucc hlt (by omega)
   have hz:(i:Int)<(scrR c s).length:=by omega
   have hlt':i<((scrR c s).map sv1).length:=by rw[length_map];exact hlt
   obtain⟨id,off,k,hv,_,hk,hd,hb',_,hat⟩:=q1H.sl.at hlt'
   rw[length_map] at hv
   obtain rfl:xa=some ⟨id,off,none⟩:=by simpa using hv
   obtain⟨id2,off2,k2,hv2,_,hk2,hd2,hb2,_,hat2⟩:=q2H.sl.at hlt'
   rw[length_map] at hv2
   obtain rfl:ua=some ⟨id2,off2,none⟩:=by simpa using hv2
   have g0:=hat 0 (by omega)
   have g1:=hat2 0 (by omega)
   rw[sv1_at] at g0 g1
   simp only[getElem?_cons_zero,add_zero,Nat.mul_one] at g0 g1
   simp only[go_sem,e3,e4,e5,e6,e7,e9,hz,hk,hd,hk2,hd2,g0,g1,eqs,bne_self_eq_false]
   exact⟨hlt,⟨e3,e4,e5,e6,e7,congrArg _ wi,trivial⟩, .rfl⟩
  ·obtain rfl:i=(scrR c s).length:=by omega
   simp only[go_sem,e3,e4,e5,e6,e7,e9,show ¬(((scrR c s).length:Int)<(scrR c s).length) by omega]
   refine ((c_sSplitLines s (by omega)).addG).go ?_
   rintro r _ ⟨hr,⟨t4,rfl⟩⟩
   by_cases g:scrOk c s
   case neg=>
    have h0:(scrR c s).length=0:=by rw[scrR,if_neg g];rfl
    split at hr
    ·obtain⟨t,j,rfl,ht,hj⟩:=hr
     simp only[go_sem,e3,e4,e5,e6,e7,e9,dect g,h0,show (((0:Nat):Int)==0)=true from rfl]
    ·obtain⟨a,rfl⟩:=hr
     simp only[go_sem,e3,e4,e5,e6,e7,e9,dect g,h0,show (((0:Nat):Int)==0)=true from rfl]
   rw[if_pos g.2.1] at hr
   obtain⟨t,j,rfl,ht,hj⟩:=hr
   obtain rfl:t4=t:=by simpa using ht
   by_cases h2:((lns s).length:Int)<2
   ·simp only[go_sem,e3,e4,e5,e6,e7,e9,decb g,h2]
   have hw0:0<(lns s).length:=by omega
   have gw:(strsV (lns s))[0]? = some (.string (mkB (lns s)[0])):=by rw[strsV,getElem?_map,getElem?_eq_getElem hw0];rfl
   have hwz:(0:Int)<(lns s).length:=by omega
   simp only[go_sem,e3,e4,e5,e6,e7,e9,decb g,h2,self_get hB,hj,gw,hwz,o1,o2,prefix_rfl]
   have hsz:(mkB (lns s)[0]).size<=s.size:=lns_le (getElem_mem hw0)
   have e1:lns (mkB (lns s)[0])= [(lns s)[0]]:=lns_one (lns_no (getElem_mem hw0))
   have g1:scrOk c (mkB (lns s)[0]):=⟨g.1,by have:=g.2.1;omega,by rw[e1,length_singleton];omega⟩
   have e2':scrR c (mkB (lns s)[0])= [execT c (mkB (lns s)[0])]:=by
    rw[scrR,if_pos g1,e1];rfl
   have e3': ∃l,scrR c s=execT c (mkB (lns s)[0])::l:=by
    rw[scrR,if_pos g]
    obtain⟨m,hm⟩: ∃m,(lns s).length=m+1:=⟨(lns s).length-1,by omega⟩
    unfold reps
    rw[hm,List.range_succ_eq_map,map_cons]
    exact⟨_,congrArg (· :: _) (by simp[conAt,List.getD,hw0])⟩
   try rw[←cv]
   refine (c_RunScript (pw.mono (hpre.trans (prefix_append _ _))) (er.mono (hpre.trans (prefix_append _ _))) c (mkB (lns s)[0]) wP wV ((clH.mono (prefix_append _ _)).s) ((clH.v.mono (prefix_append _ _)).esz) sm (by omega)).go ?_
   rintro _ _⟨⟨y,rfl,q5⟩,⟨t5,rfl⟩⟩
   rw[e2'] at q5
   obtain⟨ya,ye,_⟩:=q5.sl
   rw[length_map,length_singleton] at ye
   subst ye
   try simp only[append_assoc] at q5
   simp only[go_sem,e3,e4,e5,e6,e7,e9,decb g,decb g1,h2,self_get hB,o1,o2,conV]
   try rw[←cv]
   refine (c_FormatConsole (pw.mono (hpre.trans (prefix_append _ _))) c wP wV ((clH.mono (prefix_append _ _)).s) ((clH.v.mono (prefix_append _ _)).esz) sm).go ?_
   rintro _ _⟨rfl,⟨t6,rfl⟩⟩
   rw[fmtV,if_pos g.1]
   simp only[go_sem,e3,e4,e5,e6,e7,e9,decb g,decb g1,h2,self_get hB,o1,o2]
   try rw[←cv]
   refine ((c_sFormatConsole c wP wV ((clH.mono (prefix_append _ _)).s) sm).addG).go ?_
   rintro _ _⟨rfl,⟨t7,rfl⟩⟩
   rw[fmtV,if_pos g.1]
   obtain⟨l,hl⟩:=e3'
   have hpos:0<((scrR c s).map sv1).length:=by rw[hl];simp
   obtain⟨id,off,k,hv,hk,_,hd,hbb,_,hat⟩:=q1H.sl.at hpos
   rw[length_map] at hv
   obtain rfl:xa=some ⟨id,off,none⟩:=by simpa using hv
   obtain⟨id2,off2,k2,hv2,hk2,_,hd2,hbb2,_,hat2⟩:=q5.sl.at (i:=0) (by simp)
   obtain rfl:ya=some ⟨id2,off2,none⟩:=by simpa using hv2
   have g0:=hat 0 (by omega)
   have g2:=hat2 0 (by omega)
   rw[sv1_at] at g0 g2
   simp only[getElem?_cons_zero,add_zero,Nat.zero_mul,List.getElem_cons_zero,hl] at g0 g2
   have hp0:(0:Int)<(scrR c s).length:=by rw[hl];simp
   have hkk:=hk (t4++(t5++(t6++t7)))
   have hkk2:=hk2 (t6++t7)
   try simp only[append_assoc] at hkk hkk2
   simp only[go_sem,e3,e4,e5,e6,e7,e9,decb g,decb g1,h2,o1,o2,hkk,hkk2,hd,hd2,g0,g2,hp0,eqs,beq_self_eq_true,Bool.and_self]
end
open Go.HH Go.Proofs
theorem a_FnScript(h:Heap)(a:List Value)(hp:glHE<+:h)(ft:FitsAll h [.slice (.int .u8)] a):vCall glGE Tryz.prog (fun _=>False) 7 a h (fun r _=>r = .bool true):=by
 obtain⟨v,vs,rfl,f,g⟩:=ft.cons
 obtain rfl:=g.nil
 obtain⟨b,n,rfl,hc⟩:=Fits.code f
 exact l_FnScript (glHE_at hp).1 (glHE_at hp).2 b n hc
end Go.Proofs.YtedidddimikjhaaGreatDoor
