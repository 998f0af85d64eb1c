/- Texts of this claim, joined. No condition. -/
import Derived.Test.YtedidddimikjhaaGreatDoorFnReplPart9
import Derived.Test.YtedidddimikjhaaGreatDoorFnReplPart4
import Derived.Test.YtedidddimikjhaaGreatDoorRows
import Derived.Test.YtedidddimikjhaaGreatDoorFnReplPart6
import Derived.Stop.LaidErr
import Derived.Test.YtedidddimikjhaaGreatDoorFnReplPart11
import Derived.Test.YtedidddimikjhaaGreatDoorFnReplPart10
open List (length_map prefix_append append_assoc prefix_rfl length_append getElem?_eq_getElem getElem_map length_take getElem_mem getElem?_append_left getElem?_append_right length_cons getElem?_cons_zero mem_map getElem?_cons_succ cons_append map_append length_nil take_of_length_le mem_cons drop_zero append_nil getElem?_map nil_append length_singleton mem_of_getElem? take_append_drop)
open Nat (le_refl add_zero lt_or_ge zero_le zero_add sub_self lt_succ_self)
set_option linter.unusedSimpArgs false
set_option linter.unusedVariables false
namespace Go.Proofs.YtedidddimikjhaaGreatDoor
open Go.HH Go.Proofs
def tearL(l:BL)(torn:Bool):BL:=if torn=true∧0<l.length then l.set (l.length-1) (255-l.getD (l.length-1) 0) else l
def crashV(D P:ByteArray)(n keep:Int)(torn:Bool):Value:=if logOk (bl D) (bl P) n∧(0<=keep∧keep<=P.size) then .tuple #[.string (D++mkB (tearL ((bl P).take keep.toNat) torn)), .bool true] else .tuple #[.string ⟨#[]⟩, .bool false]
theorem bytesV_len(s:ByteArray):(bytesV s).length=s.size:=by simp[bytesV]
theorem wrapU8{n:Int}(h:0<=n∧n<=255):IntKind.u8.wrap n=n:=
 IntWalk.u8_in n h
theorem tear_len(l:BL)(torn:Bool):(tearL l torn).length=l.length:=by unfold tearL;split<;>simp
section
variable {G:List (Nat×Nat)} {h:Heap} {M:Nat->Prop}
theorem c_CrashLog(pw:PowAt G h)(D P:ByteArray)(n keep:Int)(torn:Bool)(hz:D.size+P.size<=9000000):vCall G Tryz.prog M 41 [.agg #[.string D, .string P, .int .i64 n], .int .i64 keep, .bool torn] h (fun r h'=>r=crashV D P n keep torn∧h<+:h'):=by
 have lP:=bl_len P
 refine bo Tryz.func41 rfl rfl ?_
 simp only[go_sem]
 refine (c_IsValidLog (pw.mono (by simp)) D P n hz).go ?_
 rintro _ _⟨rfl,⟨t,rfl⟩⟩
 by_cases g:logOk (bl D) (bl P) n
 ·simp only[go_sem,decb g]
  refine ((c_inside _ _ _).addG).go ?_
  rintro _ _⟨rfl,rfl⟩
  by_cases g2:(0:Int)<=keep∧keep<=P.size
  ·obtain⟨k,rfl⟩:=Int.eq_ofNat_of_zero_le g2.1
   have hk:k<=P.size:=by omega
   obtain⟨s,hs⟩: ∃s,s=P.extract 0 k:=⟨_,rfl⟩
   have sz:s.size=k:=by rw[hs,ByteArray.size_extract];omega
   have bls:bl s=(bl P).take k:=by rw[hs,bl_extract];rfl
   have z0:(0:Int)<=(k:Nat):=by omega
   have z1:((k:Nat):Int)<=P.size:=g2.2
   simp only[go_sem,decb g,z0,z1,hk,Int.toNat_natCast, ←hs,sz]
   have fin:crashV D P n (k:Nat) torn = .tuple #[.string (D++mkB (tearL (bl s) torn)), .bool true]:=by rw[crashV,if_pos ⟨g,g2⟩,Int.toNat_natCast,bls]
   have lt:=tear_len (bl s) torn
   rw[bl_len,sz] at lt
   have a1:hBin .add (.string D) (.string (mkB (tearL (bl s) torn)))=some (.string (D++mkB (tearL (bl s) torn))):=adds (by rw[mkB_size,lt];omega)
   rcases Nat.eq_zero_or_pos k with k0|k0
   ·subst k0
    have bn:bl s= []:=List.eq_nil_of_length_eq_zero (by rw[bl_len,sz])
    have e1:tearL (bl s) torn= []:=by rw[bn];unfold tearL;split<;>rfl
    have e2:(mkB [])=(⟨#[]⟩:ByteArray):=rfl
    rw[e1,e2] at a1 fin
    cases torn
    ·simp only[go_sem,decb g,z0,z1,hk,Int.toNat_natCast, ←hs,sz,a1,fin]
     exact fin.symm
    ·simp only[go_sem,decb g,z0,z1,hk,Int.toNat_natCast, ←hs,sz,a1,fin]
     exact fin.symm
   ·have g4:(0:Int)<(k:Nat):=by omega
    have e2:List.take k (List.map u8v (tearL (bl s) torn))=List.map u8v (tearL (bl s) torn):=take_of_length_le (by rw[length_map,lt];exact le_refl _)
    have e3:strOfV (List.map u8v (tearL (bl s) torn))=some (mkB (tearL (bl s) torn)):=strOfV_bytes _
    have l3:(List.map u8v (tearL (bl s) torn)).length=k:=by rw[length_map,lt]
    cases torn
    ·have e1:bytesV s=List.map u8v (tearL (bl s) false):=rfl
     simp only[go_sem,decb g,z0,z1,hk,Int.toNat_natCast, ←hs,sz,g4,onCv_more k0,e1,e2,e3,l3,a1,fin]
     try all_goals exact fin_
     all_goals omega
    ·have w1:IntKind.i64.wrap (((k:Nat):Int)-1)=((k-1:Nat):Int):=by rw[wrap64 (by omega)];omega
     have hlt:k-1<(bl s).length:=by rw[bl_len,sz];omega
     have hcell:(bytesV s)[k-1]? = some (.int .u8 ((bl s)[k-1].toNat:Nat)):=by
      rw[bytesV,getElem?_map,show s.data.toList=bl s from rfl,getElem?_eq_getElem hlt];rfl
     have b0:=u8_ofNat (bl s)[k-1]
     have w2:IntKind.u8.wrap (255-(((bl s)[k-1].toNat:Nat):Int))=((255-(bl s)[k-1]).toNat:Nat):=by
      rw[UInt8.toNat_sub_of_le _ _ (by rw[UInt8.le_iff_toNat_le];show _<=255;omega)]
      show IntKind.u8.wrap _=((255-(bl s)[k-1].toNat:Nat):Int)
      have:(255:Int)-(((bl s)[k-1].toNat:Nat):Int)=((255-(bl s)[k-1].toNat:Nat):Int):=by omega
      rw[this]
      exact wrapU8 (by omega)
     have q1:((k-1:Nat):Int)<(k:Nat):=by omega
     have q2:(0:Int)<=((k-1:Nat):Int):=by omega
     have q3:k-1+1<=k:=by omega
     have e1:setRange (bytesV s) (k-1) [.int .u8 ((255-(bl s)[k-1]).toNat:Nat)]=List.map u8v (tearL (bl s) true):=by
      rw[←setRange_one (by rw[bytesV_len,sz];omega),tearL,if_pos ⟨rfl,by omega⟩,List.map_set,bl_len,sz,List.getD,getElem?_eq_getElem hlt];rfl
     simp only[go_sem,decb g,z0,z1,hk,Int.toNat_natCast, ←hs,sz,g4,w1,hcell,w2,q1,q2,q3,bytesV_len,onCv_more k0,e1,e2,e3,l3,a1,fin]
     try all_goals exact fin_
     all_goals omega
  ·simp only[go_sem,decb g,dect g2]
   rw[crashV,if_neg (fun hh=>g2 hh.2)]
   try all_goals exact fin_
 ·simp only[go_sem,dect g]
  rw[crashV,if_neg (fun hh=>g hh.1)]
  try all_goals exact fin_
end
open Go.HH Go.Proofs
open Go.HH Go.Proofs
theorem recR_rows(d:List (BL×BL)): ∀r∈d.map recR,r.length=2:=fun r hr=>by obtain⟨e,_,rfl⟩:=mem_map.1 hr;rfl
theorem FR.recs{h t:Heap}{j n:Nat}{d:List (BL×BL)}(hn:n=d.length)(hj:t[j]? = some ⟨recV d,2, .rw⟩):FR h.length (h++t).length 2 (h++t) (.slice (some ⟨h.length+j,0,none⟩) n 0) (d.map recR):=
 ⟨h.length+j,by rw[length_map,hn],by omega,by have:=(List.getElem?_eq_some_iff.1 hj).1;rw[length_append];omega,by rw[hget_app];exact hj,recR_rows d⟩
theorem FR.wide{n m n' m' sz:Nat}{h:Heap}{v:Value}{rows:List (List Value)}(s:FR n m sz h v rows)(h1:n'<=n)(h2:m<=m'):FR n' m' sz h v rows:=by
 obtain⟨id,e,e1,e2,r⟩:=s
 exact⟨id,e,by omega,by omega,r⟩
section
variable {G:List (Nat×Nat)} {h:Heap} {M:Nat->Prop}
theorem c_LogRecordsN(pw:PowAt G h)(D P:ByteArray)(n:Int)(hz:D.size+P.size<=9000000)(g: ¬logOk (bl D) (bl P) n):vCall G Tryz.prog M 23 [.agg #[.string D, .string P, .int .i64 n]] h (fun r h'=>r = .tuple #[.slice none 0 0, .bool false]∧h<+:h'):=by
 refine bo Tryz.func23 rfl rfl ?_
 simp only[go_sem]
 refine (c_IsValidLog (pw.mono (by simp)) D P n hz).go ?_
 rintro _ _⟨rfl,⟨t,rfl⟩⟩
 simp only[go_sem,dect g]
 try all_goals exact fin_
theorem c_LogRecordsY(pw:PowAt G h)(D P:ByteArray)(n:Int)(hz:D.size+P.size<=9000000)(g:logOk (bl D) (bl P) n):vCall G Tryz.prog M 23 [.agg #[.string D, .string P, .int .i64 n]] h
  (fun r h'=>(∃v,r = .tuple #[v, .bool true]∧FR h.length h'.length 2 h' v ((openL 60 0 (bl D++bl P)).map recR))∧h<+:h'):=by
 refine bo Tryz.func23 rfl rfl ?_
 simp only[go_sem]
 refine (c_IsValidLog (pw.mono (by simp)) D P n hz).go ?_
 rintro _ _⟨rfl,⟨t,rfl⟩⟩
 simp only[go_sem,decb g,joinDP D P hz]
 refine (c_readRecords (pw.mono (by simp)) (D++P) (by rw[ByteArray.size_append];omega)).go ?_
 rintro _ _⟨t2,j,j2,rfl,rfl,hj,hj2,hne⟩
 rw[bl_app] at hj
 rw[bl_app]
 simp only[go_sem,decb g,joinDP D P hz]
 refine⟨_,rfl, ?_⟩
 ·have:=FR.recs (h:=h++([⟨[.string D, .string P, .int .i64 n],3, .rw⟩]++t)) (n:=(openL 60 0 (bl D++bl P)).length) rfl hj
  simp only[append_assoc,cons_append,nil_append,length_append,length_cons,length_nil] at this ⊢
  exact FR.wide this (by omega) (by omega)
theorem c_sLogRecordsY(D P:ByteArray)(n:Int)(hz:D.size+P.size<=9000000)(g:logOk (bl D) (bl P) n):vCall [] Tryz.prog M 45 [.agg #[.string D, .string P, .int .i64 n]] h
  (fun r h'=>(∃v,r = .tuple #[v, .bool true]∧FR h.length h'.length 2 h' v ((openL 60 0 (bl D++bl P)).map recR))∧h<+:h'):=by
 have sm:=logOk_small g.1
 rw[length_append,bl_len,bl_len] at sm
 refine bo Tryz.func45 rfl rfl ?_
 simp only[go_sem]
 refine (c_l27Log D P n hz).go ?_
 rintro _ _⟨rfl,⟨t,rfl⟩⟩
 simp only[go_sem,decb g,joinDP D P hz]
 refine (c_l27Open (D++P) (by rw[ByteArray.size_append];omega)).go ?_
 rintro _ _⟨t2,j,rfl,rfl,hj⟩
 rw[bl_app] at hj
 rw[bl_app]
 simp only[go_sem,decb g,joinDP D P hz]
 refine⟨_,rfl, ?_⟩
 ·have:=FR.recs (h:=h++([⟨[.string D, .string P, .int .i64 n],3, .rw⟩]++t)) (n:=(openL 60 0 (bl D++bl P)).length) rfl hj
  simp only[append_assoc,cons_append,nil_append,length_append,length_cons,length_nil] at this ⊢
  exact FR.wide this (by omega) (by omega)
end
open Go Go.HH Go.Proofs
def globQ(L:List (Nat×List Value))(N:Nat)(t0:Tgt):Phi:=fun i=>if i=N then some t0 else globP L N i
theorem glob_relE{L:List (Nat×List Value)}{N:Nat}{W:World}{t0:Tgt}(hN: ∀x∈L,x.1<N∧L.lookup x.1=some x.2)(h0: ∃c el fr,W.heap[t0.b]? = some (.cells c el fr)∧c.size=t0.n∧t0.d<=c.size)(hz:t0.esz=1)
  (hp: ∀i l,L.lookup i=some l->∃(l':List Value) (el:TypeId) (fr:Nat×Nat),W.heap[i]? = some (.cells l'.toArray el fr)∧l'.length=l.length∧∀(j:Nat) (v:Value),l[j]? = some v->∃v':Value,l'[j]? = some v'∧VRel (globQ L N t0) v v') :
  HRel (globG L) (globQ L N t0) (globH L N++ [⟨[],1, .ro⟩]) W∧allRo (globH L N++ [⟨[],1, .ro⟩]):=by
 have hlen:(globH L N).length=N:=by simp[globH]
 have at': ∀i t,globQ L N t0 i=some t->(i=N∧t=t0)∨(i<N∧∃l,L.lookup i=some l∧t=⟨i,0,1,l.length⟩):=by
  intro i t e
  unfold globQ at e
  split at e
  ·rename_i hi
   cases e
   exact .inl ⟨hi,rfl⟩
  ·unfold globP at e
   split at e
   ·rename_i hi
    cases hl:L.lookup i with
    | none=>rw[hl] at e;cases e
    | some l=>rw[hl] at e;cases e;exact .inr ⟨hi,l,rfl,rfl⟩
   ·cases e
 have get': ∀i k,(globH L N++ [(⟨[],1, .ro⟩:Blk)])[i]? = some k->(i=N∧k=⟨[],1, .ro⟩)∨(i<N∧k=⟨(L.lookup i).getD [],1, .ro⟩):=by
  intro i k e
  rcases lt_or_ge i N with h|h
  ·rw[getElem?_append_left (by rw[hlen];exact h)] at e
   exact .inr ⟨h,(globH_get e).1⟩
  ·rw[getElem?_append_right (by rw[hlen];exact h),hlen] at e
   have:i-N=0:=by
    have:=(List.getElem?_eq_some_iff.1 e).1
    simp at this;omega
   rw[this] at e
   cases e
   exact .inl ⟨by omega,rfl⟩
 obtain⟨c0,el0,fr0,hc0,hc1,hc2⟩:=h0
 refine⟨⟨?_, ?_, ?_, ?_, ?_⟩, ?_⟩
 ·rintro g hg
  obtain⟨x,hx,rfl⟩:=mem_map.1 hg
  obtain⟨h1,h2⟩:=hN x hx
  refine⟨⟨x.1,0,1,x.2.length⟩, ?_,rfl,rfl,rfl⟩
  simp only[globQ,if_neg (Nat.ne_of_lt h1),globP,if_pos h1,h2,Option.map_some]
 ·intro i t e
  rcases at' i t e with⟨rfl,rfl⟩|⟨h1,l,h2,rfl⟩
  ·exact⟨by rw[length_append,hlen];simp,(Array.getElem?_eq_some_iff.1 hc0).1⟩
  ·obtain⟨l',el,fr,h3,_⟩:=hp i l h2
   exact⟨by rw[length_append,hlen];simp;omega,(Array.getElem?_eq_some_iff.1 h3).1⟩
 ·intro i t k _ e ek _
  rcases at' i t e with⟨rfl,rfl⟩|⟨h1,l,h2,rfl⟩
  ·rcases get' _ k ek with⟨_,rfl⟩|⟨hh,_⟩
   ·exact⟨hz.symm,c0,el0,fr0,hc0,hc1,by simpa using hc2,fun j v ej=>by simp at ej,fun hh=>by cases hh⟩
   ·omega
  ·rcases get' _ k ek with⟨hh,_⟩|⟨_,rfl⟩
   ·omega
   ·obtain⟨l',el,fr,h3,h4,h5⟩:=hp i l h2
    rw[h2]
    refine⟨rfl,l'.toArray,el,fr,h3,by simpa using h4,by simp[h4],fun j v ej => ?_,fun hh=>by cases hh⟩
    obtain⟨v',e1,e2⟩:=h5 j v (by simpa using ej)
    exact⟨v',by simpa using e1,e2⟩
 ·intro i t k e ek
  rcases at' i t e with⟨rfl,rfl⟩|⟨h1,l,h2,rfl⟩
  ·rcases get' _ k ek with⟨_,rfl⟩|⟨hh,_⟩
   ·exact hz.symm
   ·omega
  ·rcases get' _ k ek with⟨hh,_⟩|⟨_,rfl⟩
   ·omega
   ·rfl
 ·intro i i' t t' k k' e e' ek ek' hrw
  rcases get' _ k ek with⟨_,rfl⟩|⟨_,rfl⟩<;>cases hrw
 ·intro i k e
  rcases get' _ k e with⟨_,rfl⟩|⟨_,rfl⟩<;>rfl
def glNE:Nat:=max 1 2+1
def glLE:List (Nat×List Value):= [(1,powV),(2,[.iface 266 (.pointer (some ⟨glNE,0,none⟩))])]
def glGE:List (Nat×Nat):= [(1,20),(2,1)]
def glHE:Heap:=globH glLE glNE++ [⟨[],1, .ro⟩]
theorem globGE:globG glLE=glGE:=by
 show [(1,powV.length),(2,1)]=_
 rw[powV_len];rfl
theorem glHE_at{h:Heap}(hp:glHE<+:h):PowAt glGE h∧ErrAt glGE h:=by
 refine⟨PowAt.mono ⟨by simp[glGE], ?_⟩ hp,ErrAt.mono ⟨by simp[glGE],266,glNE, ?_⟩ hp⟩
 ·show (globH glLE glNE++_)[1]? = _
  rw[getElem?_append_left (by simp[globH,glNE])]
  simp[globH,glNE,glLE,List.lookup]
 ·show (globH glLE glNE++_)[2]? = _
  rw[getElem?_append_left (by simp[globH,glNE])]
  simp[globH,glNE,glLE,List.lookup]
theorem err_row (u : TypeId) (h : Tryz.prog.typeName? 3 u = some "*errors.errorString") : u = 266 :=
 typeName_ptr_named (nm := "errors.errorString") (by kernel_rfl) (by kernel_rfl) (by decide) u h
theorem glob_ex{W:World}(h:laidMetH Tryz.prog Rows.fnExactExecuteCommandRow.laid W): ∃t0:Tgt,HRel glGE (globQ glLE glNE t0) glHE W∧allRo glHE:=by
 rw[MakeChecks.laidMetH_plain _ _ _ (by kernel_rfl)] at h
 have h3:laidMet Tryz.prog ((_,Lib.tabData .u64 Lib.pow10Tab)::_) W:=laidMet.tail (laidMet.tail h)
 have t:=Lib.tabIs_of_head (g:=1) (t:=242) (e:=81) (n:=20) (by kernel_rfl) (by kernel_rfl) (by kernel_rfl) (by kernel_rfl) (by kernel_rfl) (by kernel_rfl) h3
 have h5:=laidMet.tail (laidMet.tail (laidMet.tail h3))
 obtain⟨a,s,hv0,hc0,_,_⟩:=laid_sentinel (g:=2) (ti:=160) (tp:=266) (te:=268) (ts:=9) h5 (by kernel_rfl) (by kernel_rfl) Tryz.underlying160 err_row Tryz.underlying266 Tryz.underlying268 rfl rfl Tryz.underlying9 (by kernel_rfl) (by kernel_rfl)
 obtain⟨b,off,spot⟩:=a
 unfold World.cell? at hc0
 simp only at hc0
 split at hc0
 ·rename_i c el fr hcl
  cases spot with
  | some _=>simp at hc0
  | none=>
   simp only[Option.isSome_none,if_false,Bool.false_eq_true] at hc0
   have hoff:off<c.size:=(Array.getElem?_eq_some_iff.1 hc0).1
   refine⟨⟨b,off,1,c.size⟩, ?_⟩
   rw[←globGE]
   refine glob_relE ?_ ⟨c,el,fr,hcl,rfl,by simp only;omega⟩ rfl ?_
   ·intro x hx
    simp only[glLE,mem_cons,List.not_mem_nil,or_false] at hx
    rcases hx with rfl|rfl<;>exact⟨Nat.le_of_ble_eq_true rfl,rfl⟩
   ·intro i l e
    unfold glLE at e
    rw[List.lookup_cons] at e
    split at e
    ·rename_i hi
     obtain rfl:i=1:=by simpa using hi
     cases e
     obtain⟨el2,fr2,e2⟩:=var_cells (by kernel_rfl) t
     exact⟨powV,el2,fr2,e2,rfl,fun j v ej=>⟨v,ej,(powV_plain v (mem_of_getElem? ej)).rel⟩⟩
    ·rw[List.lookup_cons] at e
     split at e
     ·rename_i hi
      obtain rfl:i=2:=by simpa using hi
      cases e
      obtain⟨el2,fr2,e2⟩:=var_cells (by kernel_rfl) hv0
      refine⟨[.iface 266 (.pointer (some ⟨b,off,none⟩))],el2,fr2,e2,rfl,fun j v ej => ?_⟩
      have hj:j=0:=by
       have:=(List.getElem?_eq_some_iff.1 ej).1
       simp at this;omega
      subst hj
      cases ej
      refine⟨_,rfl, .iface ?_⟩
      have:=VRel.ptr (p:=globQ glLE glNE ⟨b,off,1,c.size⟩) (id:=glNE) (off:=0) (t:=⟨b,off,1,c.size⟩) (by simp[globQ])
      simpa using this
     ·cases e
 ·cases hc0
noncomputable def glT{W:World}(h:laidMetH Tryz.prog Rows.fnExactExecuteCommandRow.laid W):Tgt:=(glob_ex h).choose
theorem glob_metE{W:World}(h:laidMetH Tryz.prog Rows.fnExactExecuteCommandRow.laid W):HRel glGE (globQ glLE glNE (glT h)) glHE W∧allRo glHE:=(glob_ex h).choose_spec
open Go.HH Go.Proofs
section
variable {G:List (Nat×Nat)} {h:Heap} {M:Nat->Prop}
theorem c_big(b:Option Addr)(n:Nat):vCall [] Tryz.prog M 16 [.slice b n 0] h (fun r h'=>r = .bool (decide ((65536:Int)<n))∧h=h'):=by
 refine bo Tryz.func16 rfl rfl ?_
 simp only[go_sem]
 all_goals exact fin_
end
open Go.HH Go.Proofs
open Go.HH Go.Proofs
open Go.HH Go.Proofs
section
variable {G:List (Nat×Nat)} {h:Heap} {M:Nat->Prop}
theorem c_sSplitLines(s:ByteArray)(hs:s.size<=1000000):vCall [] Tryz.prog M 35 [.string s, .string ⟨#[10]⟩] h
  (fun r h'=>(if s.size<=4000 then ∃t j,r = .tuple #[.slice (some ⟨h.length+j,0,none⟩) (lns s).length 0, .bool true]∧h'=h++t∧t[j]? = some ⟨strsV (lns s),1, .rw⟩ else ∃a,r = .tuple #[.slice a 0 0, .bool false])∧h<+:h'):=by
 refine bo Tryz.func35 rfl rfl ?_
 by_cases g:(4000:Int)<(s.size:Nat)
 ·simp only[go_sem,g,show (((⟨#[10]⟩:ByteArray).size:Nat):Int)=1 from rfl]
  rw[if_neg (by omega)]
  exact⟨_,rfl⟩
 ·simp only[go_sem,g,show (((⟨#[10]⟩:ByteArray).size:Nat):Int)=1 from rfl,show (⟨#[10]⟩:ByteArray)[0]? = some 10 from rfl]
  refine (c_l1Split s 10 (by omega)).go ?_
  rintro _ _⟨t,j,rfl,rfl,hj⟩
  simp only[go_sem]
  rw[if_pos (by omega)]
  exact⟨t,j,rfl,rfl,hj⟩
end
open Go.HH Go.Proofs
open Go.HH Go.Proofs
open Go.HH Go.Proofs
def RepAt(C:Con)(R:List (BL×BL))(i:Nat):Prop:=i<=R.length∧(∀(j:Nat) (hj:j<R.length),j<i->execT (conAt C (R.map Prod.fst) j) (mkB R[j].1)=mkB R[j].2)∧(∀hi:i<R.length,execT (conAt C (R.map Prod.fst) i) (mkB R[i].1)≠mkB R[i].2)
theorem RepAt.uniq{C:Con}{R:List (BL×BL)}{i k:Nat}(a:RepAt C R i)(b:RepAt C R k):i=k:=by
 rcases Nat.lt_trichotomy i k with h|h|h
 ·have:=b.1
  exact absurd (b.2.1 i (by omega) h) (a.2.2 (by omega))
 ·exact h
 ·have:=a.1
  exact absurd (a.2.1 k (by omega) h) (b.2.2 (by omega))
section
variable {G:List (Nat×Nat)} {h:Heap} {M:Nat->Prop}
set_option maxRecDepth 4000 in
theorem c_ReplayLog{n:Nat}(pw:PowAt G h)(er:ErrAt G h)(v:Value)(N:Int)(P:List Pip)(x:Int)(D Q:ByteArray)(cnt:Int)(hv:NA n h v N P)(hP:P.length<=1048576)(hz:D.size+Q.size<=9000000) :
  vCall G Tryz.prog M 14 [v, .int .i64 x, .agg #[.string D, .string Q, .int .i64 cnt]] h (fun r h'=>(∃i:Nat,r = .tuple #[.int .i64 i, .bool (decide ((netGood N P∧1<=x∧x<=N)∧logOk (bl D) (bl Q) cnt))]∧(((netGood N P∧1<=x∧x<=N)∧logOk (bl D) (bl Q) cnt)->RepAt (newC N P x) (openL 60 0 (bl D++bl Q)) i)∧(¬((netGood N P∧1<=x∧x<=N)∧logOk (bl D) (bl Q) cnt)->i=0))∧h<+:h'):=by
 obtain⟨w,rfl,sw⟩:=id hv
 have cv: ∀(c:Con) (a b:Value),conV c a b = .agg #[.int .i64 c.N,a,b, .int .i64 c.src, .string c.D, .string c.Q, .int .i64 c.cnt]:=fun _ _ _=>rfl
 have o0:oneC w=true:=by obtain⟨a,e,_⟩:=sw.1;rw[e];rfl
 refine bo Tryz.func14 rfl rfl ?_
 simp only[go_sem,o0]
 refine ((c_NewConsole _ N P x (hv.mono (by simp)) hP).addG).go ?_
 rintro _ _⟨⟨yP,yV,rfl,q0⟩,⟨t,rfl⟩⟩
 simp only[go_sem,conV,q0.one.1,q0.one.2]
 by_cases g:logOk (bl D) (bl Q) cnt
 case neg=>
  refine (c_LogRecordsN (pw.mono (by simp)) D Q cnt hz g).go ?_
  rintro _ _⟨rfl,⟨t2,rfl⟩⟩
  by_cases g2:netGood N P∧1<=x∧x<=N
  ·simp only[go_sem,decb g2]
   exact⟨0,by rw[decide_eq_false (fun hh=>g hh.2)];rfl,fun hh=>absurd hh.2 g,fun _=>rfl⟩
  ·simp only[go_sem,dect g2]
   exact⟨0,by rw[decide_eq_false (fun hh=>g hh.2)];rfl,fun hh=>absurd hh.2 g,fun _=>rfl⟩
 refine (c_LogRecordsY (pw.mono (by simp)) D Q cnt hz g).go ?_
 rintro _ _⟨⟨z,rfl,fz⟩,⟨t2,rfl⟩⟩
 by_cases g2:netGood N P∧1<=x∧x<=N
 case neg=>
  simp only[go_sem,dect g2]
  exact⟨0,by rw[decide_eq_false (fun hh=>g2 hh.1)];rfl,fun hh=>absurd hh.1 g2,fun _=>rfl⟩
 have hrb: ∀r∈openL 60 0 (bl D++bl Q),(mkB r.1).size<=9223372036854775806:=fun r hr=>by
  obtain⟨⟨_,h1,_⟩,_⟩:=okL_iff.1 ((open_lines 60 0 _).2 r hr)
  rw[mkB_size];omega
 have hl:(openL 60 0 (bl D++bl Q)).length<=60:=openL_len 60 0 _
 generalize openL 60 0 (bl D++bl Q)=R at fz hrb hl ⊢
 obtain⟨zid,rfl,z1,z2,z3,_⟩:=id fz
 rw[length_map]
 have hc0:conSmall (newC N P x):=newC_small hP
 obtain⟨cid,hcid⟩: ∃c,c=h.length+(t.length+2):=⟨_,rfl⟩
 have hcl0:h.length<=cid:=by omega
 simp only[go_sem,decb g2]
 refine vLoop.count mo R.length (fun i e H=> ∃(lo hi:Nat) (xP xV:Value),Regs e [(8, .pointer (some ⟨cid,0,none⟩)),(10, .slice (some ⟨zid,0,none⟩) R.length 0),(33, .slice (some ⟨zid,0,none⟩) R.length 0),(34, .int .i64 R.length),(35, .int .i64 i)] ∧
  hget H cid=some ⟨[.int .i64 (conAt (newC N P x) (R.map Prod.fst) i).N,xP,xV, .int .i64 (conAt (newC N P x) (R.map Prod.fst) i).src, .string (conAt (newC N P x) (R.map Prod.fst) i).D, .string (conAt (newC N P x) (R.map Prod.fst) i).Q, .int .i64 (conAt (newC N P x) (R.map Prod.fst) i).cnt],7, .rw⟩ ∧
  hget H zid=some ⟨(R.map recR).flatten,2, .rw⟩∧ConQ lo hi H (conAt (newC N P x) (R.map Prod.fst) i) xP xV∧(hi<=cid∨cid+1<=lo)∧h<+:H∧∀(j:Nat) (hj:j<R.length),j<i->execT (conAt (newC N P x) (R.map Prod.fst) j) (mkB R[j].1)=mkB R[j].2) ?_ ?_
 ·have hp:h++ [⟨[.int .i64 N,w],2, .rw⟩,⟨[.string D, .string Q, .int .i64 cnt],3, .rw⟩]++t<+:h++⟨[.int .i64 N,w],2, .rw⟩::⟨[.string D, .string Q, .int .i64 cnt],3, .rw⟩::(t++⟨[.int .i64 (newC N P x).N,yP,yV, .int .i64 (newC N P x).src, .string (newC N P x).D, .string (newC N P x).Q, .int .i64 (newC N P x).cnt],7, .rw⟩::t2):=by simp
  refine⟨_,_,yP,yV,(by simp[Regs,upd,put,env0,hcid]), ?_, ?_,q0.mono hp, ?_, ?_,fun j hj h0=>absurd h0 (Nat.not_lt_zero _)⟩
  ·rw[hcid,hget_app];simp[conAt]
  ·simpa using z3
  ·left;simp[hcid]
  ·exact prefix_append _ _
 ·have hzc:cid<zid:=by simp at z1;omega
  clear q0 fz z1 z2 z3
  rintro i e H hi ⟨lo,hi,xP,xV,⟨e8,e10,e33,e34,e35,_⟩,gc,gz,q,hq,pre,ok⟩
  have sz:Sl H 2 (.slice (some ⟨zid,0,none⟩) R.length 0) (R.map recR):=FR.sl (lo:=0) (hi:=zid+1) ⟨zid,by rw[length_map],zero_le _,lt_succ_self _,gz,recR_rows R⟩
  have x1:=q.one.1
  have x2:=q.one.2
  by_cases hlt:i<R.length
  ·have hz:(i:Int)<R.length:=by omega
   have wi:=wsucc hlt (by omega)
   have hlt':i<(R.map recR).length:=by rw[length_map];exact hlt
   obtain⟨id,off,kk,hv',_,hk,hdd,hbb,hrow,hat⟩:=sz.at hlt'
   obtain⟨rfl,rfl⟩:zid=id∧0=off:=by simpa using hv'
   obtain rfl:kk=⟨(R.map recR).flatten,2, .rw⟩:=Option.some.inj (hk.symm.trans gz)
   rw[getElem_map] at hrow
   have hl2:=pre.length_le
   simp only[zero_add] at hrow
   have ow:own h.length M H.length=True:=by simp[own,hl2]
   have hfl:i*2+2<=(R.map recR).flatten.length:=by simpa using hbb
   simp only[go_sem,e8,e10,e33,e34,e35,hz,gz,hrow,recR,ow,self_get gc,x1,x2]
   refine⟨by simpa using hfl, ?_⟩
   refine (c_ExecuteCommand (pw.mono (pre.trans (prefix_append _ _))) (er.mono (pre.trans (prefix_append _ _))) (conAt (newC N P x) (R.map Prod.fst) i) (mkB R[i].1) xP xV ((q.mono (prefix_append _ _)).s) ((q.mono (prefix_append _ _)).esz.2) (conAt_small hc0 _ i) (hrb _ (getElem_mem _))).go ?_
   rintro _ _⟨⟨E,yP,yV,rfl,hE,q1⟩,⟨t3,rfl⟩⟩
   have ow2:own h.length M (H.length+(t3.length+1))=True:=by simp[own];omega
   have hcl:=hget_lt gc
   have hzl:=hget_lt gz
   by_cases heq:execT (conAt (newC N P x) (R.map Prod.fst) i) (mkB R[i].1)=mkB R[i].2
   ·simp only[go_sem,e8,e10,e33,e34,e35,conV,q1.one.1,q1.one.2,ow2,show ((execT (conAt (newC N P x) (R.map Prod.fst) i) (mkB R[i].1)).toList==(mkB R[i].2).toList)=true by rw[heq];exact beq_self_eq_true _,self_get gc]
    have hs:conAt (newC N P x) (R.map Prod.fst) (i+1)=E:=by rw[hE,conAt_succ (by rw[length_map];exact hlt),getElem_map]
    obtain⟨H',hH'⟩: ∃H',H++(⟨[.string (mkB R[i].1), .string (mkB R[i].2)],2, .rw⟩:Blk)::(t3++ [⟨[.int .i64 E.N,yP,yV, .int .i64 E.src, .string E.D, .string E.Q, .int .i64 E.cnt],7, .rw⟩])=H':=⟨_,rfl⟩
    have q2:ConQ (H.length+1) H'.length H' E yP yV:=by
     rw[←hH']
     have:=(q1.mono (prefix_append _ [⟨[.int .i64 E.N,yP,yV, .int .i64 E.src, .string E.D, .string E.Q, .int .i64 E.cnt],7, .rw⟩])).wide (lo':=H.length+1) (by simp) (hi':=(H++(⟨[.string (mkB R[i].1), .string (mkB R[i].2)],2, .rw⟩:Blk)::(t3++ [⟨[.int .i64 E.N,yP,yV, .int .i64 E.src, .string E.D, .string E.Q, .int .i64 E.cnt],7, .rw⟩])).length) (by simp)
     simpa using this
    have p':H<+:H':=by rw[←hH'];exact prefix_append _ _
    have lp:=p'.length_le
    rw[hH']
    have ag:Agr cid (cid+1) H' (H'.set cid ⟨[.int .i64 E.N,yP,yV, .int .i64 E.src, .string E.D, .string E.Q, .int .i64 E.cnt],7, .rw⟩):=Agr.set (le_refl _) (lt_succ_self _)
    refine⟨by simp[own];omega,hlt,H.length+1,H'.length,yP,yV,⟨e8,e10,e33,e34,congrArg _ wi,trivial⟩, ?_, ?_, ?_, .inr ?_,Agr.keep ag (pre.trans p') (by omega),fun j hj h0 => ?_⟩
    ·rw[hs];exact hget_set_same (by omega)
    ·rw[hget_set_ne (by omega)];exact (hget_prefix p' hzl).trans gz
    ·rw[hs];exact q2.agr ag (.inr (Nat.succ_le_succ (Nat.le_of_lt hcl)))
    ·exact Nat.succ_le_succ (Nat.le_of_lt hcl)
    ·rcases lt_or_ge j i with h1|h1
     ·exact ok j hj h1
     ·obtain rfl:j=i:=by omega
      exact heq
   ·simp only[go_sem,e8,e10,e33,e34,e35,conV,q1.one.1,q1.one.2,ow2,show ((execT (conAt (newC N P x) (R.map Prod.fst) i) (mkB R[i].1)).toList==(mkB R[i].2).toList)=false by rw[toList_eq];exact decide_eq_false heq]
    exact⟨⟨i,by rw[decide_eq_true ⟨g2,g⟩],fun _=>⟨by omega,fun j hj h0=>ok j hj h0,fun _=>heq⟩,fun hh=>absurd ⟨g2,g⟩ hh⟩,pre.trans (prefix_append _ _)⟩
  ·obtain rfl:i=R.length:=by omega
   simp only[go_sem,e8,e10,e33,e34,e35,show ¬((R.length:Int)<R.length) by omega]
   exact⟨⟨R.length,by rw[decide_eq_true ⟨g2,g⟩],fun _=>⟨le_refl _,fun j hj h0=>ok j hj h0,fun h0=>absurd h0 (Nat.lt_irrefl _)⟩,fun hh=>absurd ⟨g2,g⟩ hh⟩,pre⟩
end
open Go.HH Go.Proofs
section
variable {G:List (Nat×Nat)} {h:Heap} {M:Nat->Prop}
set_option maxRecDepth 4000 in
theorem c_sReplayLog{n:Nat}(v:Value)(N:Int)(P:List Pip)(x:Int)(D Q:ByteArray)(cnt:Int)(hv:NA n h v N P)(hP:P.length<=1048576)(hz:D.size+Q.size<=9000000) :
  vCall [] Tryz.prog M 11 [v, .int .i64 x, .agg #[.string D, .string Q, .int .i64 cnt]] h (fun r h'=>(∃i:Nat,r = .tuple #[.int .i64 i, .bool (decide ((netGood N P∧1<=x∧x<=N)∧logOk (bl D) (bl Q) cnt))]∧(((netGood N P∧1<=x∧x<=N)∧logOk (bl D) (bl Q) cnt)->RepAt (newC N P x) (openL 60 0 (bl D++bl Q)) i)∧(¬((netGood N P∧1<=x∧x<=N)∧logOk (bl D) (bl Q) cnt)->i=0))∧h<+:h'):=by
 obtain⟨w,rfl,sw⟩:=id hv
 have o0:oneC w=true:=by obtain⟨a,e,_⟩:=sw.1;rw[e];rfl
 refine bo Tryz.func11 rfl rfl ?_
 simp only[go_sem,o0]
 refine (c_sNewConsole _ N P x (hv.mono (by simp)) hP).go ?_
 rintro _ _⟨⟨yP,yV,rfl,q0⟩,⟨t,rfl⟩⟩
 simp only[go_sem,conV,q0.one.1,q0.one.2]
 by_cases g2:netGood N P∧1<=x∧x<=N
 case neg=>
  simp only[go_sem,dect g2]
  exact⟨0,by rw[decide_eq_false (fun hh=>g2 hh.1)];rfl,fun hh=>absurd hh.1 g2,fun _=>rfl⟩
 simp only[go_sem,decb g2]
 refine (c_l27Log D Q cnt hz).go ?_
 rintro _ _⟨rfl,⟨t4,rfl⟩⟩
 by_cases g:logOk (bl D) (bl Q) cnt
 case neg=>
  simp only[go_sem,decb g2,dect g]
  exact⟨0,by rw[decide_eq_false (fun hh=>g hh.2)];rfl,fun hh=>absurd hh.2 g,fun _=>rfl⟩
 simp only[go_sem,decb g2,decb g]
 refine (c_sLogRecordsY D Q cnt hz g).go ?_
 rintro _ _⟨⟨z,rfl,fz⟩,⟨t2,rfl⟩⟩
 have hrb: ∀r∈openL 60 0 (bl D++bl Q),(mkB r.1).size<=9223372036854775806:=fun r hr=>by
  obtain⟨⟨_,h1,_⟩,_⟩:=okL_iff.1 ((open_lines 60 0 _).2 r hr)
  rw[mkB_size];omega
 have hl:(openL 60 0 (bl D++bl Q)).length<=60:=openL_len 60 0 _
 generalize openL 60 0 (bl D++bl Q)=R at fz hrb hl ⊢
 obtain⟨zid,rfl,z1,z2,z3,_⟩:=id fz
 rw[length_map]
 have hc0:conSmall (newC N P x):=newC_small hP
 obtain⟨cid,hcid⟩: ∃c,c=h.length+(t.length+2):=⟨_,rfl⟩
 have hcl0:h.length<=cid:=by omega
 simp only[go_sem]
 refine vLoop.count mo R.length (fun i e H=> ∃(lo hi:Nat) (xP xV:Value),Regs e [(8, .pointer (some ⟨cid,0,none⟩)),(10, .slice (some ⟨zid,0,none⟩) R.length 0),(13, .int .i64 i)] ∧
  hget H cid=some ⟨[.int .i64 (conAt (newC N P x) (R.map Prod.fst) i).N,xP,xV, .int .i64 (conAt (newC N P x) (R.map Prod.fst) i).src, .string (conAt (newC N P x) (R.map Prod.fst) i).D, .string (conAt (newC N P x) (R.map Prod.fst) i).Q, .int .i64 (conAt (newC N P x) (R.map Prod.fst) i).cnt],7, .rw⟩ ∧
  hget H zid=some ⟨(R.map recR).flatten,2, .rw⟩∧ConQ lo hi H (conAt (newC N P x) (R.map Prod.fst) i) xP xV∧(hi<=cid∨cid+1<=lo)∧h<+:H∧∀(j:Nat) (hj:j<R.length),j<i->execT (conAt (newC N P x) (R.map Prod.fst) j) (mkB R[j].1)=mkB R[j].2) ?_ ?_
 ·have hp:h++ [⟨[.int .i64 N,w],2, .rw⟩,⟨[.string D, .string Q, .int .i64 cnt],3, .rw⟩]++t<+:h++⟨[.int .i64 N,w],2, .rw⟩::⟨[.string D, .string Q, .int .i64 cnt],3, .rw⟩::(t++⟨[.int .i64 (newC N P x).N,yP,yV, .int .i64 (newC N P x).src, .string (newC N P x).D, .string (newC N P x).Q, .int .i64 (newC N P x).cnt],7, .rw⟩::(t4++t2)):=by simp
  refine⟨_,_,yP,yV,(by simp[Regs,upd,put,env0,hcid]), ?_, ?_,q0.mono hp, ?_, ?_,fun j hj h0=>absurd h0 (Nat.not_lt_zero _)⟩
  ·rw[hcid,hget_app];simp[conAt]
  ·simpa using z3
  ·left;simp[hcid]
  ·exact prefix_append _ _
 ·have hzc:cid<zid:=by simp at z1;omega
  clear q0 fz z1 z2 z3
  rintro i e H hi ⟨lo,hi,xP,xV,⟨e8,e10,e13,_⟩,gc,gz,q,hq,pre,ok⟩
  have sz:Sl H 2 (.slice (some ⟨zid,0,none⟩) R.length 0) (R.map recR):=FR.sl (lo:=0) (hi:=zid+1) ⟨zid,by rw[length_map],zero_le _,lt_succ_self _,gz,recR_rows R⟩
  have x1:=q.one.1
  have x2:=q.one.2
  by_cases hlt:i<R.length
  ·have hz:(i:Int)<R.length:=by omega
   have wi:=wsucc hlt (by omega)
   have hlt':i<(R.map recR).length:=by rw[length_map];exact hlt
   obtain⟨id,off,kk,hv',_,hk,hdd,hbb,hrow,hat⟩:=sz.at hlt'
   obtain⟨rfl,rfl⟩:zid=id∧0=off:=by simpa using hv'
   obtain rfl:kk=⟨(R.map recR).flatten,2, .rw⟩:=Option.some.inj (hk.symm.trans gz)
   have hl2:=pre.length_le
   have g0:=hat 0 (by omega)
   have g1:=hat 1 (by omega)
   rw[getElem_map] at g0 g1
   simp only[recR,getElem?_cons_zero,getElem?_cons_succ,add_zero,zero_add] at g0 g1
   have hcl:=hget_lt gc
   have hzl:=hget_lt gz
   simp only[go_sem,e8,e10,e13,hz,gz,gc,x1,x2,g0]
   refine (c_sExecuteCommand (conAt (newC N P x) (R.map Prod.fst) i) (mkB R[i].1) xP xV q.s (conAt_small hc0 _ i) (hrb _ (getElem_mem _))).go ?_
   rintro _ _⟨⟨E,yP,yV,rfl,hE,q1⟩,⟨t3,rfl⟩⟩
   have ag:Agr cid (cid+1) (H++t3) ((H++t3).set cid ⟨[.int .i64 E.N,yP,yV, .int .i64 E.src, .string E.D, .string E.Q, .int .i64 E.cnt],7, .rw⟩):=Agr.set (le_refl _) (lt_succ_self _)
   have g2':hget ((H++t3).set cid ⟨[.int .i64 E.N,yP,yV, .int .i64 E.src, .string E.D, .string E.Q, .int .i64 E.cnt],7, .rw⟩) zid=some ⟨(R.map recR).flatten,2, .rw⟩:=by rw[hget_set_ne (by omega)];exact self_get gz t3
   have ow:own h.length M cid=True:=by simp[own,hcl0]
   by_cases heq:execT (conAt (newC N P x) (R.map Prod.fst) i) (mkB R[i].1)=mkB R[i].2
   ·simp only[go_sem,e8,e10,e13,hz,conV,q1.one.1,q1.one.2,ow,self_get gc,g2',g1,show ((execT (conAt (newC N P x) (R.map Prod.fst) i) (mkB R[i].1)).toList==(mkB R[i].2).toList)=true by rw[heq];exact beq_self_eq_true _]
    have hs:conAt (newC N P x) (R.map Prod.fst) (i+1)=E:=by rw[hE,conAt_succ (by rw[length_map];exact hlt),getElem_map]
    refine⟨hlt,H.length,(H++t3).length,yP,yV,⟨e8,e10,congrArg _ wi,trivial⟩, ?_, ?_, .inr (by omega),Agr.keep ag (pre.trans (prefix_append _ _)) hcl0,fun j hj h0 => ?_⟩
    ·rw[hs];exact hget_set_same (by simp;omega)
    ·rw[hs];exact q1.agr ag (.inr (by omega))
    ·rcases lt_or_ge j i with h1|h1
     ·exact ok j hj h1
     ·obtain rfl:j=i:=by omega
      exact heq
   ·simp only[go_sem,e8,e10,e13,hz,conV,q1.one.1,q1.one.2,ow,self_get gc,g2',g1,show ((execT (conAt (newC N P x) (R.map Prod.fst) i) (mkB R[i].1)).toList==(mkB R[i].2).toList)=false by rw[toList_eq];exact decide_eq_false heq]
    exact⟨⟨i,by rw[decide_eq_true ⟨g2,g⟩],fun _=>⟨by omega,fun j hj h0=>ok j hj h0,fun _=>heq⟩,fun hh=>absurd ⟨g2,g⟩ hh⟩,Agr.keep ag (pre.trans (prefix_append _ _)) hcl0⟩
  ·obtain rfl:i=R.length:=by omega
   simp only[go_sem,e8,e10,e13,show ¬((R.length:Int)<R.length) by omega]
   exact⟨⟨R.length,by rw[decide_eq_true ⟨g2,g⟩],fun _=>⟨le_refl _,fun j hj h0=>ok j hj h0,fun h0=>absurd h0 (Nat.lt_irrefl _)⟩,fun hh=>absurd ⟨g2,g⟩ hh⟩,pre⟩
end
open Go.HH Go.Proofs
def recsOf(C:Con):List (BL×BL):=openL 60 0 (bl C.D++bl C.Q)
theorem conAt_take{C:Con}{a b:List BL}{j:Nat}(hj:j<=a.length):conAt C (a++b) j=conAt C a j:=by unfold conAt;rw[List.take_append_of_le_length hj]
def Rp(C0 C:Con):Prop:=logOk (bl C.D) (bl C.Q) C.cnt∧conAt C0 ((recsOf C).map Prod.fst) (recsOf C).length=C∧∀(j:Nat) (hj:j<(recsOf C).length),execT (conAt C0 ((recsOf C).map Prod.fst) j) (mkB (recsOf C)[j].1)=mkB (recsOf C)[j].2
theorem Rp.start{C:Con}(h1:C.D=⟨#[]⟩)(h2:C.Q=⟨#[]⟩)(h3:C.cnt=0):Rp C C:=by
 have e:recsOf C= []:=by unfold recsOf;rw[h1,h2];rfl
 refine⟨by rw[h1,h2,h3];exact⟨rfl,rfl,rfl⟩,by rw[e];rfl,fun j hj => ?_⟩
 rw[e] at hj
 exact absurd hj (Nat.not_lt_zero j)
theorem Rp.step{C0 C:Con}(g:Rp C0 C)(s:ByteArray):Rp C0 (execC C s):=by
 by_cases tk:took C s
 ·obtain⟨k1,k2,k3,k4,k5,k6⟩:=execC_yes tk
  obtain⟨g1,g2,g3⟩:=g
  have e:recsOf (execC C s)=recsOf C++ [(bl s,bl (repT C s))]:=k6
  have hm:((recsOf C).map Prod.fst).length=(recsOf C).length:=length_map ..
  have a: ∀j,j<=(recsOf C).length->conAt C0 ((recsOf (execC C s)).map Prod.fst) j=conAt C0 ((recsOf C).map Prod.fst) j:=fun j hj=>by
   rw[e,map_append];exact conAt_take (by rw[hm];exact hj)
  refine⟨k2.2.2, ?_,fun j hj => ?_⟩
  ·have hl:(recsOf (execC C s)).length=(recsOf C).length+1:=by rw[e,length_append,length_singleton]
   rw[hl,conAt_succ (by rw[length_map,hl];omega),a _ (le_refl _),g2]
   congr 1
   rw[getElem_map]
   simp only[e,List.getElem_append_right (le_refl _),sub_self,List.getElem_cons_zero,mkB_bl]
  ·have hl:(recsOf (execC C s)).length=(recsOf C).length+1:=by rw[e,length_append,length_singleton]
   rw[a j (by omega)]
   rcases lt_or_ge j (recsOf C).length with h1|h1
   ·simp only[e,List.getElem_append_left h1]
    exact g3 j h1
   ·obtain rfl:j=(recsOf C).length:=by omega
    simp only[e,List.getElem_append_right (le_refl _),sub_self,List.getElem_cons_zero,mkB_bl]
    rw[g2];exact k1
 ·rw[(execC_no tk).1];exact g
theorem Rp.all{C0:Con}(g:Rp C0 C0)(ws:List BL): ∀i,Rp C0 (conAt C0 ws i)
 | 0=>by simpa[conAt] using g
 | i+1=>by
  by_cases hi:i<ws.length
  ·rw[conAt_succ hi];exact (Rp.all g ws i).step _
  ·have:conAt C0 ws (i+1)=conAt C0 ws i:=by
    unfold conAt
    rw[take_of_length_le (by omega),take_of_length_le (by omega)]
   rw[this];exact Rp.all g ws i
theorem Rp.rep{C0 C:Con}(g:Rp C0 C){d:List (BL×BL)}(hd:d<+:recsOf C):RepAt C0 d d.length:=by
 obtain⟨t,ht⟩:=hd
 refine⟨le_refl _,fun j hj _ => ?_,fun h=>absurd h (Nat.lt_irrefl _)⟩
 have hj':j<(recsOf C).length:=by rw[←ht,length_append];omega
 have:=g.2.2 j hj'
 simp only[←ht,List.getElem_append_left hj] at this
 rw[map_append,conAt_take (by rw[length_map];omega)] at this
 exact this
open Go.HH Go.Proofs
open Go.HH Go.Proofs
section
variable {G:List (Nat×Nat)} {h:Heap} {M:Nat->Prop}
theorem recoV_ok{s:ByteArray}(h:s.size<=30000):recoV s = .tuple #[.agg #[.string (s.extract 0 (endL 0 (openL 60 0 (bl s)))), .string ⟨#[]⟩, .int .i64 (openL 60 0 (bl s)).length], .int .i64 (endL 0 (openL 60 0 (bl s)):Nat), .bool true]:=if_pos h
theorem reco_log(s:ByteArray):logOk (bl (s.extract 0 (endL 0 (openL 60 0 (bl s))))) (bl ⟨#[]⟩) (openL 60 0 (bl s)).length:=by
 rw[bl_extract,drop_zero]
 exact (logOk_take (bl s)).2
theorem reco_size(s:ByteArray):(s.extract 0 (endL 0 (openL 60 0 (bl s)))).size+(⟨#[]⟩:ByteArray).size<=s.size:=by
 have z:(⟨#[]⟩:ByteArray).size=0:=rfl
 rw[ByteArray.size_extract,z];omega
set_option maxRecDepth 20000 in
def Keep(e0 e:Env):List Nat->Prop
 | []=>True
 | s::r=>e s=e0 s∧Keep e0 e r
theorem keep_nil{e0 e:Env}:Keep e0 e []=True:=rfl
theorem keep_cons{e0 e:Env}{s:Nat}{r:List Nat}:Keep e0 e (s::r)=(e s=e0 s∧Keep e0 e r):=rfl
set_option maxRecDepth 20000 in
end
open Go.HH Go.Proofs
section
variable {G:List (Nat×Nat)} {h:Heap} {M:Nat->Prop}
set_option maxRecDepth 20000 in
end
open Go.HH Go.Proofs
theorem get_at{A B:Heap}{b:Blk}{j:Nat}(hj:j=A.length):hget (A++b::B) j=some b:=by subst hj;exact hget_app0
section
variable {G:List (Nat×Nat)} {h:Heap} {M:Nat->Prop}
set_option maxRecDepth 20000 in
set_option maxHeartbeats 4000000 in
theorem l_FnReplay(pw:PowAt G h)(er:ErrAt G h)(b:Option Addr)(n:Nat)(hc:CodeOk h b n):vCall G Tryz.prog M 8 [.slice b n 0] h (fun r _=>r = .bool true):=by
 refine bo Tryz.func8 rfl rfl ?_
 simp only[go_sem]
 refine ((c_big b n).addG).go ?_
 rintro _ _⟨rfl,rfl⟩
 by_cases hb:(65536:Int)<n
 ·simp only[go_sem,decb hb]
 simp only[go_sem,dect hb]
 refine ((c_DrawReplayLog b n hc).addG).go ?_
 rintro _ _⟨⟨N,P,w,x,D,Q,k,rfl,sl,hP,hz⟩,⟨t1,rfl⟩⟩
 have cv: ∀(c:Con) (a b:Value),conV c a b = .agg #[.int .i64 c.N,a,b, .int .i64 c.src, .string c.D, .string c.Q, .int .i64 c.cnt]:=fun _ _ _=>rfl
 have o1:=sl.one
 simp only[go_sem,dect hb,o1]
 refine (c_ReplayLog (pw.mono (by simp)) (er.mono (by simp)) _ N P x D Q k ⟨w,rfl,(sl.mono (by simp)).sb⟩ (by omega) (by omega)).go ?_
 rintro _ _⟨⟨i,rfl,i1,i2⟩,⟨t2,rfl⟩⟩
 simp only[go_sem,o1]
 refine ((c_sReplayLog _ N P x D Q k ⟨w,rfl,(sl.mono (by simp)).sb⟩ (by omega) (by omega)).addG).go ?_
 rintro _ _⟨⟨j,rfl,j1,j2⟩,⟨t3,rfl⟩⟩
 have hij:j=i:=by
  by_cases g:(netGood N P∧1<=x∧x<=N)∧logOk (bl D) (bl Q) k
  ·exact (j1 g).uniq (i1 g)
  ·rw[j2 g,i2 g]
 subst hij
 simp only[go_sem,o1,bne_self_eq_false,Tryz.underlying4]
 refine ((c_DrawRunScript b n (hc.mono (by simp))).addG).go ?_
 rintro _ _⟨⟨c,wP,wV,s,rfl,cl,cb,hD,hs⟩,⟨t4,rfl⟩⟩
 simp only[go_sem,conV,o1,cl.p.one,cl.v.one]
 refine ((c_NewConsole _ N P x ⟨w,rfl,(sl.mono (by simp)).sb⟩ (by omega)).addG).go ?_
 rintro _ _⟨⟨xP,xV,rfl,q⟩,⟨t5,rfl⟩⟩
 try simp only[append_assoc,cons_append,nil_append] at q
 simp only[go_sem,conV,o1,q.one.1,q.one.2]
 refine ((c_sNewConsole _ N P x ⟨w,rfl,(sl.mono (by simp)).sb⟩ (by omega)).addG).go ?_
 rintro _ _⟨⟨yP,yV,rfl,q'⟩,⟨t6,rfl⟩⟩
 try simp only[append_assoc,cons_append,nil_append] at q'
 simp only[go_sem,conV,o1,q.one.1,q.one.2,q'.one.1,q'.one.2]
 have sm0:= @newC_small N P x (by omega)
 try rw[←cv, ←cv]
 refine ((c_vConsole (newC N P x) xP xV yP yV ((q.mono (by simp)).s) ((q'.mono (by simp)).s) sm0.1 sm0.2.1).addG).go ?_
 rintro _ _⟨rfl,⟨t7,rfl⟩⟩
 simp only[go_sem,Tryz.underlying4,bne_self_eq_false]
 by_cases g:netGood N P∧1<=x∧x<=N
 case neg=>simp only[go_sem,dect g]
 simp only[go_sem,decb g]
 refine ((c_sSplitLines s (by omega)).addG).go ?_
 rintro _ _⟨hr,⟨t8,rfl⟩⟩
 rw[if_pos (by omega)] at hr
 obtain⟨t,jj,rfl,ht,hj⟩:=hr
 obtain rfl:t8=t:=by simpa using ht
 simp only[go_sem,decb g]
 obtain⟨H0,hH0⟩: ∃H0:Heap,H0=h++(t1++⟨[.int .i64 N,w],2, .rw⟩::⟨[.string D, .string Q, .int .i64 k],3, .rw⟩::(t2++(t3++(t4++⟨[.int .i64 c.N,wP,wV, .int .i64 c.src, .string c.D, .string c.Q, .int .i64 c.cnt],7, .rw⟩::(t5++⟨[.int .i64 (newC N P x).N,xP,xV, .int .i64 (newC N P x).src, .string (newC N P x).D, .string (newC N P x).Q, .int .i64 (newC N P x).cnt],7, .rw⟩::(t6++⟨[.int .i64 (newC N P x).N,yP,yV, .int .i64 (newC N P x).src, .string (newC N P x).D, .string (newC N P x).Q, .int .i64 (newC N P x).cnt],7, .rw⟩::(t7++t8))))))):=⟨_,rfl⟩
 obtain⟨b3,hb3⟩: ∃b3,b3=h.length+t1.length:=⟨_,rfl⟩
 obtain⟨b12,hb12⟩: ∃b,b=h.length+(t1.length+(t2.length+(t3.length+(t4.length+(t5.length+1)))+1+1)):=⟨_,rfl⟩
 obtain⟨lid,hlid⟩: ∃l,l=h.length+(t1.length+(t2.length+(t3.length+(t4.length+(t5.length+(t6.length+(t7.length+1)+1)+1)))+1+1))+jj:=⟨_,rfl⟩
 have n0:hget H0 b3=some ⟨[.int .i64 N,w],2, .rw⟩:=by
  rw[hH0, ←append_assoc];exact get_at (by simp[hb3])
 have c0:hget H0 b12=some ⟨[.int .i64 (newC N P x).N,xP,xV, .int .i64 (newC N P x).src, .string (newC N P x).D, .string (newC N P x).Q, .int .i64 (newC N P x).cnt],7, .rw⟩:=by
  rw[show H0=(h++(t1++⟨[.int .i64 N,w],2, .rw⟩::⟨[.string D, .string Q, .int .i64 k],3, .rw⟩::(t2++(t3++(t4++⟨[.int .i64 c.N,wP,wV, .int .i64 c.src, .string c.D, .string c.Q, .int .i64 c.cnt],7, .rw⟩::t5)))))++⟨[.int .i64 (newC N P x).N,xP,xV, .int .i64 (newC N P x).src, .string (newC N P x).D, .string (newC N P x).Q, .int .i64 (newC N P x).cnt],7, .rw⟩::(t6++⟨[.int .i64 (newC N P x).N,yP,yV, .int .i64 (newC N P x).src, .string (newC N P x).D, .string (newC N P x).Q, .int .i64 (newC N P x).cnt],7, .rw⟩::(t7++t8)) by rw[hH0];simp]
  exact get_at (by simp[hb12])
 have l0:hget H0 lid=some ⟨strsV (lns s),1, .rw⟩:=by
  rw[show H0=(h++(t1++⟨[.int .i64 N,w],2, .rw⟩::⟨[.string D, .string Q, .int .i64 k],3, .rw⟩::(t2++(t3++(t4++⟨[.int .i64 c.N,wP,wV, .int .i64 c.src, .string c.D, .string c.Q, .int .i64 c.cnt],7, .rw⟩::(t5++⟨[.int .i64 (newC N P x).N,xP,xV, .int .i64 (newC N P x).src, .string (newC N P x).D, .string (newC N P x).Q, .int .i64 (newC N P x).cnt],7, .rw⟩::(t6++⟨[.int .i64 (newC N P x).N,yP,yV, .int .i64 (newC N P x).src, .string (newC N P x).D, .string (newC N P x).Q, .int .i64 (newC N P x).cnt],7, .rw⟩::t7)))))))++t8 by rw[hH0];simp]
  unfold hget
  rw[getElem?_append_right (by simp[hlid];try omega)]
  refine Eq.trans (congrArg (fun z=>t8[z]?) ?_) hj
  simp[hlid];try omega
 have s0:=sl.mono (h':=H0) (by rw[hH0];simp)
 rw[length_append, ←hb3] at s0
 have q0:=(q.mono (h':=H0) (by rw[hH0];simp)).cl
 have p0:h<+:H0:=by rw[hH0];exact prefix_append _ _
 have hu:b3<=b12:=by omega
 have hq: ∀z,z=(h++(t1++⟨[.int .i64 N,w],2, .rw⟩::⟨[.string D, .string Q, .int .i64 k],3, .rw⟩::(t2++(t3++(t4++⟨[.int .i64 c.N,wP,wV, .int .i64 c.src, .string c.D, .string c.Q, .int .i64 c.cnt],7, .rw⟩::t5))))).length->z<=b12:=fun z hz=>by rw[hz];simp[hb12]
 try simp only[append_assoc,cons_append,nil_append] at q0
 have hl12:h.length<=b12:=by omega
 have h312:b3<b12:=by omega
 have hlid12:b12<lid:=by omega
 rw[←hH0]
 refine vLoop.count mo (lns s).length (fun i e H=> ∃(uP uV:Value) (lo up:Nat),Regs e [(3, .pointer (some ⟨b3,0,none⟩)),(4, .int .i64 x),(12, .pointer (some ⟨b12,0,none⟩)),(16, .slice (some ⟨lid,0,none⟩) (lns s).length 0),(18, .int .i64 i)] ∧
  hget H b3=some ⟨[.int .i64 N,w],2, .rw⟩∧hget H b12=some (conB (conAt (newC N P x) (lns s) i) uP uV)∧hget H lid=some ⟨strsV (lns s),1, .rw⟩∧SL h.length b3 H w (P.map pip)∧CL lo up H (conAt (newC N P x) (lns s) i) uP uV∧(up<=b12∨b12+1<=lo)∧h<+:H) ?_ ?_
 ·refine⟨xP,xV,_,_,(by simp[Regs,upd,put,env0,hb3,hb12,hlid]),n0,by simpa[conAt,conB] using c0,l0,s0,by simpa[conAt] using q0, .inl (hq _ (by simp)),p0⟩
 ·clear hH0 n0 c0 l0 s0 q0 q q' hq i1 i2 j1 j2
  rintro i e H hi ⟨uP,uV,lo,up,⟨e3,e4,e12,e16,e18,_⟩,nn,cc,ll,sw,q,hlo,pre⟩
  have o2:=q.p.one
  have o3:=q.v.one
  have cc':hget H b12=some ⟨[.int .i64 (conAt (newC N P x) (lns s) i).N,uP,uV, .int .i64 (conAt (newC N P x) (lns s) i).src, .string (conAt (newC N P x) (lns s) i).D, .string (conAt (newC N P x) (lns s) i).Q, .int .i64 (conAt (newC N P x) (lns s) i).cnt],7, .rw⟩:=cc
  have hcl:=hget_lt cc
  have hnl:=hget_lt nn
  have hll:=hget_lt ll
  have hln:=(lns_len s).2
  by_cases hlt:i<(lns s).length
  ·have wi:=wsucc hlt (by omega)
   have hz':(i:Int)<(lns s).length:=by omega
   have gw:(strsV (lns s))[i]? = some (.string (mkB (lns s)[i])):=by rw[strsV,getElem?_map,getElem?_eq_getElem hlt];rfl
   have hsz:(mkB (lns s)[i]).size<=s.size:=lns_le (getElem_mem hlt)
   simp only[go_sem,e3,e4,e12,e16,e18,hz',cc',ll,gw,o2,o3]
   try rw[←cv]
   refine (c_ExecuteCommand (pw.mono pre) (er.mono pre) (conAt (newC N P x) (lns s) i) (mkB (lns s)[i]) uP uV q.s q.v.esz (conAt_small sm0 _ i) (by omega)).go ?_
   rintro _ _⟨⟨E,vP,vV,rfl,hE,qE⟩,⟨t9,rfl⟩⟩
   rw[←conAt_succ hlt] at hE
   simp only[go_sem,e3,e4,e12,e16,e18,conV,qE.one.1,qE.one.2,self_get cc',own_ge hl12]
   have ag:Agr b12 (b12+1) (H++t9) ((H++t9).set b12 ⟨[.int .i64 E.N,vP,vV, .int .i64 E.src, .string E.D, .string E.Q, .int .i64 E.cnt],7, .rw⟩):=Agr.set (le_refl _) (lt_succ_self _)
   refine⟨hlt,vP,vV,H.length,(H++t9).length,⟨e3,e4,e12,e16,congrArg _ wi,trivial⟩, ?_, ?_, ?_,(sw.mono (prefix_append _ t9)).agr ag (.inl hu), ?_, .inr (by omega),pre_set (pre.trans (prefix_append _ _)) hl12⟩
   ·rw[hget_set_ne (by omega)];exact self_get nn t9
   ·rw[←hE];exact hget_set_same (by simp;omega)
   ·rw[hget_set_ne (by omega)];exact self_get ll t9
   ·rw[←hE];exact qE.cl.agr ag (.inr (by omega))
  ·obtain rfl:i=(lns s).length:=by omega
   simp only[go_sem,e3,e4,e12,e16,e18,show ¬(((lns s).length:Int)<(lns s).length) by omega,nn,cc',o1]
   have rp:Rp (newC N P x) (conAt (newC N P x) (lns s) (lns s).length):=(Rp.start (by unfold newC;rw[if_pos g];rfl) (by unfold newC;rw[if_pos g];rfl) (by unfold newC;rw[if_pos g])).all _ _
   obtain⟨C,hC⟩: ∃C,C=conAt (newC N P x) (lns s) (lns s).length:=⟨_,rfl⟩
   rw[←hC] at rp cc' q
   rw[←hC]
   have lg:=rp.1
   have lgs:=logOk_small lg.1
   rw[length_append,bl_len,bl_len] at lgs
   refine (c_ReplayLog (pw.mono pre) (er.mono pre) _ N P x C.D C.Q C.cnt ⟨w,rfl,sw.sb⟩ (by omega) (by omega)).go ?_
   rintro _ _⟨⟨i,rfl,i1,i2⟩,⟨t9,rfl⟩⟩
   have ei:i=(recsOf C).length:=(i1 ⟨g,lg⟩).uniq (rp.rep prefix_rfl)
   have ec:C.cnt=((recsOf C).length:Int):=lg.2.2.symm
   simp only[go_sem,e3,e4,e12,e16,e18,self_get cc',decide_eq_true (⟨g,lg⟩:(netGood N P∧1<=x∧x<=N)∧logOk (bl C.D) (bl C.Q) C.cnt)]
   have tm:(C.Q.size:Int).tmod 7=(C.Q.size:Int)%7:=Int.tmod_eq_emod_of_nonneg (by omega)
   obtain⟨kp,hkp,k0,k1⟩: ∃kp,IntKind.i64.wrap ((C.Q.size:Int)-(C.Q.size:Int).tmod 7)=kp∧0<=kp∧kp<=C.Q.size:=⟨_,rfl,by rw[tm,wrap64 (by omega)];omega⟩
   simp only[go_sem,e3,e4,e12,e16,e18,self_get cc',hBin_rem (show (7:Int)≠0 by omega),hkp]
   refine (c_CrashLog (pw.mono (pre.trans (prefix_append _ _))) C.D C.Q C.cnt kp false (by omega)).go ?_
   rintro _ _⟨rfl,⟨t10,rfl⟩⟩
   rw[crashV,if_pos ⟨lg,k0,k1⟩]
   obtain⟨S,hS⟩: ∃S,S=C.D++mkB (tearL ((bl C.Q).take kp.toNat) false):=⟨_,rfl⟩
   have bS:bl S=bl C.D++(bl C.Q).take kp.toNat:=by rw[hS,bl_app,bl_mkB];rfl
   have zS:S.size<=30000:=by
    have:=congrArg List.length bS
    rw[bl_len,length_append,bl_len,length_take,bl_len] at this
    omega
   rw[←hS]
   simp only[go_sem,e3,e4,e12,e16,e18]
   refine (c_RecoverLog (pw.mono (pre.trans (by simp))) S (by omega)).go ?_
   rintro _ _⟨rfl,⟨t11,rfl⟩⟩
   rw[recoV_ok zS]
   have lr:=reco_log S
   have zr:=reco_size S
   obtain⟨m,hm⟩: ∃m,m=S.extract 0 (endL 0 (openL 60 0 (bl S))):=⟨_,rfl⟩
   have om:openL 60 0 (bl m++bl ⟨#[]⟩)=openL 60 0 (bl S):=by
    rw[show bl (⟨#[]⟩:ByteArray)= [] from rfl,append_nil,hm,bl_extract,drop_zero]
    exact (logOk_take (bl S)).1
   have dp:openL 60 0 (bl S)<+:recsOf C:=by
    rw[bS]
    have:=open_pre 60 0 (bl C.D++(bl C.Q).take kp.toNat) ((bl C.Q).drop kp.toNat)
    rwa [append_assoc,take_append_drop] at this
   rw[←hm] at lr zr
   rw[←hm]
   obtain⟨d,hd⟩: ∃d,d=openL 60 0 (bl S):=⟨_,rfl⟩
   rw[←hd] at lr om dp
   rw[←hd]
   simp only[go_sem,e3,e4,e12,e16,e18,self_get nn,o1,own_ge (show h.length<=H.length+(t9.length+(t10.length+t11.length)) by omega)]
   have dl:d.length<=60:=by rw[hd];exact openL_len 60 0 _
   have ze:(⟨#[]⟩:ByteArray).size=0:=rfl
   refine (c_ReplayLog (pw.mono (pre.trans (prefix_append _ _))) (er.mono (pre.trans (prefix_append _ _))) _ N P x m ⟨#[]⟩ (d.length:Int) ⟨w,rfl,(sw.mono (prefix_append _ _)).sb⟩ (by omega) (by omega)).go ?_
   rintro _ _⟨⟨j,rfl,j1,j2⟩,⟨t12,rfl⟩⟩
   rw[om] at j1
   have ej:j=d.length:=(j1 ⟨g,lr⟩).uniq (rp.rep dp)
   rw[ei,ej]
   simp only[go_sem,e3,e4,e12,e16,e18,self_get cc',decide_eq_true (⟨g,lg⟩:(netGood N P∧1<=x∧x<=N)∧logOk (bl C.D) (bl C.Q) C.cnt),decide_eq_true (⟨g,lr⟩:(netGood N P∧1<=x∧x<=N)∧logOk (bl m) (bl ⟨#[]⟩) d.length),ec,beq_self_eq_true]
end
open Go.HH Go.Proofs
theorem a_FnReplay(h:Heap)(a:List Value)(hp:glHE<+:h)(ft:FitsAll h [.slice (.int .u8)] a):vCall glGE Tryz.prog (fun _=>False) 8 a h (fun r _=>r = .bool true):=by
 obtain⟨v,vs,rfl,f,g⟩:=ft.cons
 obtain rfl:=g.nil
 obtain⟨b,n,rfl,hc⟩:=Fits.code f
 exact l_FnReplay (glHE_at hp).1 (glHE_at hp).2 b n hc
end Go.Proofs.YtedidddimikjhaaGreatDoor
