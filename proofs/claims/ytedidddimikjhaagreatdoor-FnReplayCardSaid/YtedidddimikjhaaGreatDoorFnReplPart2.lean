/- Texts of this claim, joined. No condition. -/
import Derived.Test.YtedidddimikjhaaGreatDoorFnReplPart1
import Derived.Lib.ConvBytes
import Derived.Laws.BytesArg
import Derived.Laws.BytesString
import Derived.Laws.StructEq
import Derived.WideLaws
open List (length_map getElem?_eq_getElem length_take getElem?_append_left length_cons getElem?_cons_zero all_eq_true mem_map getElem?_cons_succ getElem?_drop take_of_length_le mem_cons map_cons mem_range getElem?_map mem_of_getElem? length_drop mem_append_left drop_drop)
open Nat (le_refl le_trans add_zero lt_or_ge zero_le zero_add)
set_option linter.unusedSimpArgs false
set_option linter.unusedVariables false
namespace Go.HH
def u8v(b:UInt8):Value := .int .u8 b.toNat
def bytesV(s:ByteArray):List Value:=s.data.toList.map u8v
def numOfV:Value->Option Int
 | .int .u8 n=>some n
 | _=>none
def numsOfV:List Value->Option (List Int)
 | []=>some []
 | v::l=>match numOfV v,numsOfV l with
  | some n,some ns=>some (n::ns)
  | _,_=>none
def strOfV(l:List Value):Option ByteArray:=(numsOfV l).map strOfNums
theorem numsOfV_spec: ∀ {l:List Value} {ns:List Int},numsOfV l=some ns->l=ns.map (Value.int .u8)
 | [],ns,h=>by cases h;rfl
 | v::l,ns,h=>by
  unfold numsOfV at h
  split at h
  ·rename_i n ns' h1 h2
   cases h
   rw[map_cons, ←numsOfV_spec h2]
   unfold numOfV at h1
   split at h1
   ·cases h1;rfl
   ·cases h1
  ·cases h
theorem numsOfV_bytes: ∀(l:List UInt8),numsOfV (l.map u8v)=some (l.map fun b=>(b.toNat:Int))
 | []=>rfl
 | b::l=>by
  rw[map_cons,numsOfV,numsOfV_bytes l];rfl
theorem strOfV_bytes(l:List UInt8):strOfV (l.map u8v)=some ⟨l.toArray⟩:=by
 rw[strOfV,numsOfV_bytes]
 have:((fun n:Int=>UInt8.ofNat n.toNat)∘fun b:UInt8=>(b.toNat:Int))=id:=by funext b;simp
 simp[strOfNums,List.map_map,this]
theorem bytesWorld_eq(w:World)(el:TypeId)(s:ByteArray) :
  Lib.bytesWorld w el s= {w.drew with heap:=w.drew.heap.push (.cells (Lib.bytesCells w el s) el ((Lib.bytesCells w el s).size,(Lib.bytesCells w el s).size+1))}:=by
 have h1:(Lib.bytesWorld w el s).heap=w.drew.heap.push (.cells (Lib.bytesCells w el s) el ((Lib.bytesCells w el s).size,(Lib.bytesCells w el s).size+1)):=by
  refine Array.ext_getElem? fun i => ?_
  rw[Array.getElem?_push]
  rcases Nat.lt_trichotomy i w.heap.size with h|h|h
  ·rw[Lib.bytesWorld_at_old w el s i h,if_neg (by show i≠w.heap.size;omega)];rfl
  ·subst h
   rw[Lib.bytesWorld_at_new,if_pos (by rfl)]
  ·rw[if_neg (by show i≠w.heap.size;omega),Array.getElem?_eq_none (by rw[Lib.bytesWorld_size];omega)]
   exact (Array.getElem?_eq_none (by show w.heap.size<=i;omega)).symm
 unfold Lib.bytesWorld at h1 ⊢
 unfold World.freeze at h1 ⊢
 simp only[Nat.succ_ne_zero,if_false] at h1 ⊢
 rw[h1]
 rfl
theorem telem_under{P:Program}{t:TypeId}{te:Nat×TypeId}(h:telem P t=some te):P.underlying t=some (.slice te.2):=by
 unfold telem at h
 split at h
 ·rename_i el hu
  rw[Option.map_eq_some_iff] at h
  obtain⟨i,_,rfl⟩:=h
  exact hu
 ·cases h
section
variable {G:List (Nat×Nat)} {P:Program} {T M:Nat->Prop} {e:Env} {h:Heap} {o:Oper}
theorem HStep.of_pureH1{v:Value}
  (hr: ∀(p:Phi) (a:Act) (w:World),HRelT G T p h w->(∀x∈o.op.operands,VRel p (Opd.val e x) (a.eval x))->∃v',VRel p v v'∧(execOp a.eval o).run P w = .ok (.value v') w):HStep G P o T M e h v h:=
 .of_run fun p a w r ho=>by
  obtain⟨v',h1,h2⟩:=hr p a w r ho
  exact⟨p,v',w, .inl h2,r.weaken (fun id t e ht=>ht.elim (fun x=>x) (fun hl=>absurd (r.dom id t e).1 (by omega))),h1,Ext.refl ..⟩
theorem HStep.convSB{s d:TypeId}{x:Operand}{str:ByteArray}{te:Nat×TypeId}(ho:o.op = .convert s d x)(hx:Opd.val e x = .string str)(hs:P.underlying s=some .string)(ht:telem P d=some te)(he:P.underlying te.2=some (.int .u8)) :
  HStep G P o T M e h (.slice (some ⟨h.length,0,none⟩) str.size 0) (h++ [⟨bytesV str,1, .rw⟩]):=
 .of_run fun p a w r hr=>by
  have h2:=hr x (by rw[ho];simp[Op.operands])
  rw[hx] at h2
  have h2':=(Plain.string str).eq h2
  have hrun:=Lib.run_convert_string_bytes (P:=P) w s d te.2 str hs (telem_under ht) he
  rw[bytesWorld_eq] at hrun
  have hge:=grownCap_ge w str.size 0 te.2
  have hcs:(Lib.bytesCells w te.2 str).size=grownCap w str.size 0 te.2:=by
   simp[Lib.bytesCells];have:str.data.size=str.size:=rfl;omega
  have hlen:(bytesV str).length=str.size:=by simp[bytesV]
  have r1:HRelT G T p h w.drew:=⟨r.glob,r.dom,fun id t k tt a b c=>let x:=r.blk id t k tt a b c;⟨x.esz,x.row⟩,r.esz,r.inj⟩
  have hl2:(Lib.bytesCells w te.2 str).toList.take (bytesV str).length=bytesV str:=by
   rw[hlen,Lib.bytesCells,Array.toList_append,List.take_append_of_le_length (by simp)]
   rw[take_of_length_le (by simp)]
   simp[bytesV,u8v]
  obtain⟨d1,d2⟩:=r1.push (M:=M) (cells:=bytesV str) (c:=Lib.bytesCells w te.2 str) 1 te.2 .rw ((Lib.bytesCells w te.2 str).size,(Lib.bytesCells w te.2 str).size+1)
   (by
    rw[hl2]
    refine⟨rfl,fun i v hv=>⟨v,hv, ?_⟩⟩
    obtain⟨b,_,rfl⟩:=mem_map.1 (mem_of_getElem? hv)
    exact VRel.int _ _) (by rw[hlen,hcs];exact hge) (fun o ho hh=>by omega)
  refine⟨_, .slice (some ⟨w.heap.size,0,none⟩) str.size (grownCap w str.size 0 te.2),_, .inl ?_,d1, ?_,⟨d2.le,d2.new,d2.len,d2.frame,d2.size,d2.os,d2.tape,d2.output⟩⟩
  ·unfold execOp
   rw[ho]
   simp[h2',hrun]
  ·exact VRel.slice (t:=⟨w.heap.size,0,1,_⟩) phiPush_same hge (by simp only;rw[hcs];omega)
theorem HStep.convBS{s d:TypeId}{x:Operand}{id off len:Nat}{k:Blk}{str:ByteArray}{te:Nat×TypeId}(ho:o.op = .convert s d x)(hx:Opd.val e x = .slice (some ⟨id,off,none⟩) len 0)(hs:telem P s=some te)(he:P.underlying te.2=some (.int .u8))(hd:P.underlying d=some .string)
  (hn:0<len) (hT:T id) (hk:h[id]? = some k) (hdead:k.st ≠ .dead) (hl:off+len<=k.cells.length) (hb:strOfV ((k.cells.drop off).take len)=some str):HStep G P o T M e h (.string str) h:=
 .of_pureH1 fun p a w r hr=>by
  have h2:=hr x (by rw[ho];simp[Op.operands])
  rw[hx] at h2
  obtain⟨t,cap,g1,g2,g3,g4⟩:=h2.slice_inv hn
  obtain⟨cs,c1,c2,c3⟩:=r.cells hT g1 hk hdead hl
  unfold strOfV at hb
  rw[Option.map_eq_some_iff] at hb
  obtain⟨ns,hns,rfl⟩:=hb
  have hcells:=numsOfV_spec hns
  have hlen:ns.length=len:=by
   have:=congrArg List.length hcells
   rw[length_map,length_take,length_drop] at this
   omega
  refine⟨.string (strOfNums ns), .string _, ?_⟩
  have:=run_convert_bytes_arg (P:=P) w s te.2 (telem_under hs) he t.b (off+t.d) len cap ns hlen (fun i hi=>by
   have hv:((k.cells.drop off).take len)[i]? = some (.int .u8 (ns.getD i 0)):=by
    rw[hcells,getElem?_map,getElem?_eq_getElem (by omega),List.getD,getElem?_eq_getElem (by omega)];rfl
   obtain⟨v',e1,e2⟩:=c1.2 i _ hv
   have e3:=(Plain.int _ _).eq e2
   subst e3
   have:=c3 i _ e1
   rwa [addr_add] at this) d hd
  unfold execOp
  rw[ho]
  simp[g4,this]
theorem HStep.convBS0{s d:TypeId}{x:Operand}{oa:Option Addr}{te:Nat×TypeId}(ho:o.op = .convert s d x)(hx:Opd.val e x = .slice oa 0 0)(hs:telem P s=some te)(he:P.underlying te.2=some (.int .u8))(hd:P.underlying d=some .string) :
  HStep G P o T M e h (.string ⟨#[]⟩) h:=
 .of_pureH1 fun p a w r hr=>by
  have h2:=hr x (by rw[ho];simp[Op.operands])
  rw[hx] at h2
  obtain⟨a1,cap,g1,_⟩:=h2.slice_any
  refine⟨.string ⟨#[]⟩, .string _, ?_⟩
  unfold execOp
  rw[ho]
  cases a1 with
  | none=>
   have:=run_convert_bytes_nil (P:=P) (w:=w) s te.2 (telem_under hs) he 0 cap d hd
   simp[g1,this];rfl
  | some ad=>
   have h3:=run_bytesToString (P:=P) w ad 0 cap [] (by simpa using run_loadCells_list (P:=P) w ad [] (fun j v hj=>by simp at hj))
   have h4:=run_convert_bytes_string (P:=P) w s d te.2 (some ad) 0 cap (telem_under hs) he hd
   rw[h3] at h4
   simp[g1,h4];rfl
def kindN(P:Program)(t:TypeId):Option Nat:=match P.underlying t with
 | some (.int _)=>some 0
 | some .string=>some 1
 | some .bool=>some 2
 | _=>none
def flatF(P:Program):Nat->List Field->Option (List Nat)
 | _,[]=>some []
 | i, f :: fs => if f.name ≠ "_" ∧ f.offset = i then (match kindN P f.type, flatF P (i + 1) fs with
  | some k,some ks=>some (k::ks)
  | _,_=>none) else none
def flatK(P:Program)(t:TypeId):Option (List Nat):=match P.underlying t with
 | some (.struct fs)=>if P.stoodInHeld t=false∧P.eqGuardType P.depth t=false then flatF P 0 fs.toList else none
 | _=>none
def eqOne:Nat->Value->Value->Option Bool
 | 0, .int k a, .int k' b=>if k=k' then some (a==b) else none
 | 1, .string a, .string b=>some (a.toList==b.toList)
 | 2, .bool a, .bool b=>some (a==b)
 | _,_,_=>none
def eqK:List Nat->List Value->List Value->Option Bool
 | [],[],[]=>some true
 | k::ks,x::xs,y::ys=>match eqOne k x y,eqK ks xs ys with
  | some a,some b=>some (a&&b)
  | _,_=>none
 | _,_,_=>none
theorem eqOne_plain{k:Nat}{x y:Value}{b:Bool}(h:eqOne k x y=some b):Plain x∧Plain y:=by
 unfold eqOne at h
 split at h
 ·exact⟨.int _ _, .int _ _⟩
 ·exact⟨.string _, .string _⟩
 ·exact⟨.bool _, .bool _⟩
 ·cases h
theorem eqK_plain: ∀ {ks:List Nat} {xs ys:List Value} {b:Bool},eqK ks xs ys=some b->(∀x∈xs,Plain x)∧(∀y∈ys,Plain y)
 | [],[],[],b,_=>⟨fun x hx=>(by cases hx),fun x hx=>(by cases hx)⟩
 | [],_::_,_,b,h=>by simp[eqK] at h
 | [],[],_::_,b,h=>by simp[eqK] at h
 | _::_,[],_,b,h=>by simp[eqK] at h
 | _::_,_::_,[],b,h=>by simp[eqK] at h
 | k::ks,x::xs,y::ys,b,h=>by
  unfold eqK at h
  split at h
  ·rename_i a b' h1 h2
   obtain⟨p1,p2⟩:=eqOne_plain h1
   obtain⟨q1,q2⟩:=eqK_plain h2
   exact⟨fun z hz=>by rcases mem_cons.1 hz with rfl|hz;exact p1;exact q1 z hz,fun z hz=>by rcases mem_cons.1 hz with rfl|hz;exact p2;exact q2 z hz⟩
  ·cases h
theorem run_eqOne(w:World)(d:Nat){k:Nat}{t:TypeId}{x y:Value}{b:Bool}(hk:kindN P t=some k)(h:eqOne k x y=some b):(Op.equalIn (d+1) t x y).run P w = .ok b w:=by
 unfold eqOne at h
 unfold kindN at hk
 split at h
 ·split at hk<;>simp at hk
  rename_i k' hu
  split at h
  ·rename_i hkk
   subst hkk
   cases h
   exact run_equalIn_int w d t _ k' _ _ hu
  ·cases h
 ·split at hk<;>simp at hk
  rename_i hu
  cases h
  exact run_equalIn_string w d t _ _ hu
 ·split at hk<;>simp at hk
  rename_i hu
  cases h
  exact run_equalIn_bool' w d t _ _ hu
 ·cases h
theorem run_part_kind(w:World){k:Nat}{t:TypeId}{xs:Array Value}{i:Nat}{v:Value}(hk:kindN P t=some k)(hx:xs[i]? = some v):(part t xs i).run P w = .ok v w:=by
 unfold kindN at hk
 split at hk<;>first|(rename_i hu;simp[part,isAgg,run_underlying hu,hx];done)|cases hk
theorem drop_cons_get{xs:Array Value}{i:Nat}{x:Value}{r:List Value}(h:xs.toList.drop i=x::r):xs[i]? = some x∧xs.toList.drop (i+1)=r:=by
 constructor
 ·have:(xs.toList.drop i)[0]? = some x:=by rw[h];rfl
  rw[getElem?_drop] at this
  simpa using this
 ·have:=congrArg (List.drop 1) h
  rw[drop_drop] at this
  exact this
theorem run_eqFlat(w:World)(d:Nat)(xs ys:Array Value): ∀(fs:List Field) (i:Nat) (ks:List Nat) (b:Bool),flatF P i fs=some ks->eqK ks (xs.toList.drop i) (ys.toList.drop i)=some b->(Op.eqFields (d+1) xs ys fs).run P w = .ok b w
 | [],i,ks,b,h,he=>by
  cases h
  cases hx:xs.toList.drop i with
  | nil=>
   cases hy:ys.toList.drop i with
   | nil=>rw[hx,hy] at he;cases he;rfl
   | cons y r=>rw[hx,hy] at he;cases he
  | cons x r=>rw[hx] at he;cases he
 | f::fs,i,ks,b,h,he=>by
  unfold flatF at h
  split at h
  ·rename_i hf
   split at h
   ·rename_i k ks' h1 h2
    cases h
    cases hx:xs.toList.drop i with
    | nil=>rw[hx] at he;cases he
    | cons x r=>
     cases hy:ys.toList.drop i with
     | nil=>rw[hx,hy] at he;cases he
     | cons y r2=>
      rw[hx,hy] at he
      obtain⟨x1,x2⟩:=drop_cons_get hx
      obtain⟨y1,y2⟩:=drop_cons_get hy
      unfold eqK at he
      split at he
      ·rename_i a b' e1 e2
       rw[←x2, ←y2] at e2
       have ih:=run_eqFlat w d xs ys fs (i+1) ks' b' h2 e2
       simp only[Op.eqFields]
       rw[if_pos hf.1,hf.2]
       simp only[Sem.run_bind,run_part_kind w h1 x1,run_part_kind w h1 y1,Result.andThen_ok,run_eqOne w d h1 e1]
       cases a
       ·cases he;simp[Sem.run_pure]
       ·cases he;simpa using ih
      ·cases he
   ·cases h
  ·cases h
def hEql(P:Program)(t:TypeId)(u v:Value):Option Value:=match u,v with
 | .agg xs, .agg ys=>(flatK P t).bind fun ks=>(eqK ks xs.toList ys.toList).map Value.bool
 | u,v=>hBin .eql u v
def isC:Operand->Bool
 | .const _=>true
 | _=>false
def ifaceT(P:Program)(t:TypeId):Bool:=match P.underlying t with
 | some (.interface _)=>true
 | _=>false
theorem ifaceT_spec{t:TypeId}(h:ifaceT P t=true):P.underlying t=some (.interface (P.methodsAt t)):=by
 unfold ifaceT at h
 unfold Program.methodsAt
 split at h
 ·rename_i ms hu;rw[hu]
 ·cases h
def hNeq(P:Program)(t:TypeId)(c:Bool)(u v:Value):Option Value:=match u,v with
 | .agg xs, .agg ys=>(flatK P t).bind fun ks=>(eqK ks xs.toList ys.toList).map fun b => .bool (!b)
 | .iface _ _, .nilIface=>if ifaceT P t=true then some (.bool true) else none
 | .nilIface, .nilIface=>if (c&&ifaceT P t)=true then some (.bool false) else none
 | u,v=>hBin .neq u v
theorem run_aggEq(w:World){t:TypeId}{xs ys:Array Value}{ks:List Nat}{b:Bool}(hf:flatK P t=some ks)(he:eqK ks xs.toList ys.toList=some b):(Op.equalIn 10000 t (.agg xs) (.agg ys)).run P w = .ok b w∧P.eqGuardType P.depth t=false:=by
 unfold flatK at hf
 split at hf
 ·rename_i fs hu
  split at hf
  ·rename_i hg
   have hfs:P.fieldsOf t=fs:=by simp[Program.fieldsOf,hu]
   refine⟨?_,hg.2⟩
   rw[show 10000=9999+1 from rfl,run_equalIn_struct w 9999 t xs ys (by rw[hfs];exact hu) hg.1,hfs]
   exact run_eqFlat w 9998 xs ys fs.toList 0 ks b hf (by simpa using he)
  ·cases hf
 ·cases hf
theorem HStep.hEql{t t':TypeId}{x y:Operand}{v:Value}(ho:o.op = .binOp .eql t x y t')(hv:HH.hEql P t (Opd.val e x) (Opd.val e y)=some v):HStep G P o T M e h v h:=by
 unfold HH.hEql at hv
 split at hv
 ·rename_i xs ys hx hy
  rw[Option.bind_eq_some_iff] at hv
  obtain⟨ks,hf,hv⟩:=hv
  rw[Option.map_eq_some_iff] at hv
  obtain⟨b,he,rfl⟩:=hv
  obtain⟨px,py⟩:=eqK_plain he
  refine .of_plain (by rw[ho];intro cs b c;cases c) ?_ (.bool _) ?_
  ·intro z hz
   rw[ho] at hz
   simp[Op.operands] at hz
   rcases hz with rfl|rfl
   ·rw[hx];exact .agg (fun i hi=>px _ (by simp))
   ·rw[hy];exact .agg (fun i hi=>py _ (by simp))
  ·intro w
   obtain⟨h1,h2⟩:=run_aggEq (P:=P) w hf he
   unfold execOp
   rw[ho]
   simp[hx,hy,run_eqGuard_agg (P:=P) w .eql t x y xs ys h2,run_eql_struct (P:=P) w t xs ys,h1]
 ·exact .bin ho hv
theorem HStep.hNeq{t t':TypeId}{x y:Operand}{v:Value}(ho:o.op = .binOp .neq t x y t')(hv:HH.hNeq P t (isC y) (Opd.val e x) (Opd.val e y)=some v):HStep G P o T M e h v h:=by
 unfold HH.hNeq at hv
 split at hv
 ·rename_i xs ys hx hy
  rw[Option.bind_eq_some_iff] at hv
  obtain⟨ks,hf,hv⟩:=hv
  rw[Option.map_eq_some_iff] at hv
  obtain⟨b,he,rfl⟩:=hv
  obtain⟨px,py⟩:=eqK_plain he
  refine .of_plain (by rw[ho];intro cs b c;cases c) ?_ (.bool _) ?_
  ·intro z hz
   rw[ho] at hz
   simp[Op.operands] at hz
   rcases hz with rfl|rfl
   ·rw[hx];exact .agg (fun i hi=>px _ (by simp))
   ·rw[hy];exact .agg (fun i hi=>py _ (by simp))
  ·intro w
   obtain⟨h1,h2⟩:=run_aggEq (P:=P) w hf he
   unfold execOp
   rw[ho]
   simp[hx,hy,run_eqGuard_agg (P:=P) w .neq t x y xs ys h2,run_neq_struct (P:=P) w t xs ys,h1]
 ·rename_i u z hx hy
  split at hv
  ·rename_i hi
   cases hv
   refine .of_pure fun p a hr => ?_
   have h1:=hr x (by rw[ho];simp[Op.operands])
   have h2:=hr y (by rw[ho];simp[Op.operands])
   rw[hx] at h1
   rw[hy] at h2
   refine⟨.bool true, .bool true,fun w => ?_⟩
   obtain⟨z',hz⟩: ∃z',a.eval x = .iface u z':=by generalize a.eval x=q at h1;cases h1;exact⟨_,rfl⟩
   have hn:a.eval y = .nilIface:=by generalize a.eval y=q at h2;cases h2;rfl
   unfold execOp
   rw[ho]
   simp only[hz,hn,eqGuard_at_iface]
   simp[run_neq_held_nil w t u z' (ifaceT_spec hi)]
  ·cases hv
 ·rename_i hx hy
  split at hv
  ·rename_i hi
   cases hv
   rw[Bool.and_eq_true] at hi
   refine .of_pure fun p a hr => ?_
   have h1:=hr x (by rw[ho];simp[Op.operands])
   have h2:=hr y (by rw[ho];simp[Op.operands])
   rw[hx] at h1
   rw[hy] at h2
   refine⟨.bool false, .bool false,fun w => ?_⟩
   have hz:a.eval x = .nilIface:=by generalize a.eval x=q at h1;cases h1;rfl
   have hn:a.eval y = .nilIface:=by generalize a.eval y=q at h2;cases h2;rfl
   obtain⟨cv,rfl⟩: ∃cv,y = .const cv:=by
    cases y with
    | const cv=>exact⟨cv,rfl⟩
    | _=>cases hi.1
   unfold execOp
   rw[ho]
   simp only[hz,hn,eqGuard_nil_constR]
   simp[run_neq_nil_nil w t (ifaceT_spec hi.2)]
  ·cases hv
 ·exact .bin ho hv
end
def loadOp:Op->Bool
 | .load .. => true
 | _=>false
def constX:Operand->Option Value
 | .const (.int k n)=>some (.int k n)
 | _=>none
def constL(ps:List (Nat×Operand)):Bool:=ps.all fun x=>(constX x.2).isSome
def allocOp:Op->Bool
 | .alloc _=>true
 | .buildSlice _ _ ps => !(ps.toList.isEmpty)&&constL ps.toList
 | _=>false
def callOp:Op->Bool
 | .call c => !(lenC c.callee)
 | _=>false
def quietOp:Op->Bool
 | .store .. => false
 | .call c=>match c.callee with
  | .builtin .append=>false
  | _=>true
 | _=>true
def qt(lo:List Nat)(i:Nat)(op:Op):Bool:=quietOp op && !(callOp op&&lo.contains i)
def bsOp:Op->Bool
 | .buildSlice _ _ ps => !(ps.toList.isEmpty)
 | _=>false
def al(lo:List Nat)(i:Nat)(op:Op):Bool:=allocOp op||(lo.contains (i+3000)&&bsOp op)
def slOp:Op->Bool
 | .slice _ _ _ _ none=>true
 | _=>false
def ld(lo:List Nat)(i:Nat)(op:Op):Bool:=loadOp op||(lo.contains (i+4000)&&slOp op)
def rdId(e:Env):Op->Option Nat
 | .load _ x=>match Opd.val e x with
  | .pointer (some ⟨id,_,none⟩)=>some id
  | _=>none
 | .slice _ x _ _ _=>match Opd.val e x with
  | .slice (some ⟨id,_,none⟩) (_+1) 0=>some id
  | _=>none
 | _=>none
def hardR(lo:List Nat)(i:Nat)(o:Oper):Bool := !(reg o)&&(!(ld lo i o.op) && !(al lo i o.op))
theorem HRelT.more{G:List (Nat×Nat)}{T:Nat->Prop}{p:Phi}{h g:Heap}{w:World}(r:HRelT G T p h w):HRelT G T p (h++g) w:=by
 have at': ∀id t k,p id=some t->(h++g)[id]? = some k->h[id]? = some k:=fun id t k e hk=>by rwa [getElem?_append_left (r.dom id t e).1] at hk
 exact⟨r.glob,fun id t e=>⟨by have:=(r.dom id t e).1;simp;omega,(r.dom id t e).2⟩,fun id t k tt e hk hd=>r.blk id t k tt e (at' id t k e hk) hd,fun id t k e hk=>r.esz id t k e (at' id t k e hk),
  fun id id' t t' k k' e e' hk hk' hrw hd hb=>r.inj id id' t t' k k' e e' (at' id t k e hk) (at' id' t' k' e' hk') hrw hd hb⟩
theorem HRelT.take{G:List (Nat×Nat)}{p:Phi}{h:Heap}{w:World}(r:HRel G p h w){id0:Nat}{cells:List Value}{c:Array Value}{esz:Nat}(elem:TypeId)(hn:p id0=none)(hk0:h[id0]? = some ⟨cells,esz, .rw⟩)(hc:LRel p cells c.toList) :
  HRel G (phiPush p id0 ⟨w.heap.size,0,esz,c.size⟩) h {w with heap:=w.heap.push (.cells c elem (0,0))}:=by
 have hle:p.le (phiPush p id0 ⟨w.heap.size,0,esz,c.size⟩):=fun id t e=>by
  unfold phiPush
  rw[if_neg]
  ·exact e
  ·intro hid;rw[hid,hn] at e;cases e
 have hkeep: ∀b,b<w.heap.size->(w.heap.push (Obj.cells c elem (0,0)))[b]? = w.heap[b]? := fun b hb=>by
  rw[Array.getElem?_push,if_neg (by omega)]
 have split: ∀id t,phiPush p id0 ⟨w.heap.size,0,esz,c.size⟩ id=some t->(p id=some t∧id<h.length∧t.b<w.heap.size)∨(id=id0∧t=⟨w.heap.size,0,esz,c.size⟩):=by
  intro id t e
  unfold phiPush at e
  split at e
  ·rename_i hid;exact .inr ⟨hid,(Option.some.inj e).symm⟩
  ·exact .inl ⟨e,r.dom id t e⟩
 have hl:cells.length=c.size:=by simpa using hc.1
 refine⟨fun g hg => ?_,fun id t e => ?_,fun id t k tt e hk hd => ?_,fun id t k e hk => ?_,fun id id' t t' k k' e e' hk hk' hrw hd hb => ?_⟩
 ·obtain⟨t,a,b⟩:=r.glob g hg
  exact⟨t,hle _ _ a,b⟩
 ·rcases split id t e with⟨_,a,b⟩|⟨rfl,rfl⟩
  ·exact⟨a,by simp;omega⟩
  ·exact⟨(List.getElem?_eq_some_iff.1 hk0).1,by simp⟩
 ·rcases split id t e with⟨a,b,b'⟩|⟨rfl,rfl⟩
  ·obtain⟨x1,cc,el,f,x2,x3,x4,x5,x6⟩:=r.blk id t k trivial a hk hd
   exact⟨x1,cc,el,f,by rw[hkeep _ b'];exact x2,x3,x4,fun i v hv=>let ⟨v',y1,y2⟩:=x5 i v hv;⟨v',y1,y2.mono hle⟩,x6⟩
  ·rw[hk0,Option.some.injEq] at hk
   subst hk
   refine⟨rfl,c,elem,(0,0), ?_,rfl,by simp;omega,fun i v hv => ?_,fun _ o _=>by omega⟩
   ·show (w.heap.push _)[w.heap.size]? = _
    rw[Array.getElem?_push,if_pos rfl]
   ·obtain⟨v',a,b⟩:=hc.2 i v hv
    exact⟨v',by simpa using a,b.mono hle⟩
 ·rcases split id t e with⟨a,b,b'⟩|⟨rfl,rfl⟩
  ·exact r.esz id t k a hk
  ·rw[hk0,Option.some.injEq] at hk
   subst hk
   rfl
 ·rcases split id t e with⟨a,b,b'⟩|⟨rfl,rfl⟩<;>rcases split id' t' e' with⟨a',c',c''⟩|⟨rfl,rfl⟩
  ·exact r.inj id id' t t' k k' a a' hk hk' hrw hd hb
  ·simp at hb;omega
  ·simp at hb;omega
  ·rfl
section
variable {G:List (Nat×Nat)} {P:Program} {M:Nat->Prop} {ops:Array Oper} {E:Nat->Env} {H:Nat->Heap} {V:Nat->Value} {rs:Nat->Nat}
def FreshAt(P:Program)(o:Oper)(e:Env)(z:List Value)(esz r:Nat)(v:Value):Prop:=
 ∀(p:Phi) (ev:Operand->Value),(∀c,ev (.const c)=c)->(∀x∈o.op.operands,VRel p (Opd.val e x) (ev x))->∀(w:World),∃(mk:Value) (c:Array Value) (elem:TypeId),
  (execOp ev o).run P w = .ok (.value mk) {w with heap:=w.heap.push (.cells c elem (0,0))}∧LRel p z c.toList∧∀q:Phi,q r=some ⟨w.heap.size,0,esz,c.size⟩->VRel q v mk
def Rfree(lo:List Nat)(i:Nat)(G:List (Nat×Nat))(P:Program)(M:Nat->Prop)(ops:Array Oper)(o:Oper)(r:Nat)(e:Env)(h:Heap)(v:Value)(h':Heap):Prop:=
 (wantedH ops o e=false∧v=undef∧h'=h) ∨
 (wantedH ops o e=true∧((h'=h∧∀h2,HStep G P o allT M e h2 v h2) ∨
  (ld lo i o.op=true∧h'=h∧∃id,rdId e o.op=some id∧id<h.length∧∀h2:Heap,h2[id]? = h[id]? -> HStep G P o allT M e h2 v h2) ∨
  (∃z esz,al lo i o.op=true∧h'=h∧FreshAt P o e z esz r v∧h[r]? = some ⟨z,esz, .rw⟩) ∨
  (hardR lo i o=true∧HStep G P o allT M e h v h'∧(qt lo i o.op=true->h<+:h'))))
structure TraceF(G:List (Nat×Nat))(P:Program)(M:Nat->Prop)(ops:Array Oper)(n0:Nat)(lo:List Nat)(rs:Nat->Nat)(E:Nat->Env)(H:Nat->Heap)(V:Nat->Value):Prop where
 envs: ∀i o,ops[i]? = some o->E (i+1)=put (E i) o.dst (V i)
 step: ∀i o,ops[i]? = some o->Rfree lo i G P M ops o (rs i) (E i) (H i) (V i) (H (i+1))
 kept: ∀i o j oj,ops[i]? = some o->ops[j]? = some oj->i<j->i∈lo∧lo.contains (j+1000)=false->wantedH ops o (E i)=true->wantedH ops oj (E j)=true->qt lo j oj.op=false->ld lo i o.op=true->∀id,rdId (E i) o.op=some id->(H (j+1))[id]? = (H j)[id]?
 early: ∀i o j oj,ops[i]? = some o->ops[j]? = some oj->j<i->lo.contains (i+2000)=true∧lo.contains (j+1000)=false->wantedH ops o (E i)=true->wantedH ops oj (E j)=true->qt lo j oj.op=false->ld lo i o.op=true->∀id,rdId (E i) o.op=some id->(H (j+1))[id]? = (H j)[id]?
 fresh: ∀i o j oj,ops[i]? = some o->ops[j]? = some oj->j<i->al lo i o.op=true->qt lo j oj.op=false->wantedH ops oj (E j)=true->(H (j+1))[rs i]? = (H j)[rs i]?
 stays: ∀i o j oj,ops[i]? = some o->ops[j]? = some oj->i<j->i∈lo∧lo.contains (j+1000)=false->al lo i o.op=true->qt lo j oj.op=false->wantedH ops oj (E j)=true->(H (j+1))[rs i]? = (H j)[rs i]?
 inj: ∀i o j oj,ops[i]? = some o->ops[j]? = some oj->al lo i o.op=true->al lo j oj.op=true->rs i=rs j->i=j
 low: ∀i o,ops[i]? = some o->al lo i o.op=true->n0<=rs i∧rs i<(H 0).length
 len: ∀i,i<ops.size->(H i).length<=(H (i+1)).length
def freeT(ops:Array Oper)(lo:List Nat):Bool:=(List.range ops.size).all fun t=>match ops[t]? with
 | none=>true
 | some ot=>ot.after.all (fun e => !Region.binds .any e||decide (e.on<t))&&((!(al lo t ot.op)||ot.guard.isNone)&&(List.range t).all (fun j=>match ops[j]? with
  | none=>true
  | some oj=>(ot.after.any (fun e=>Region.binds .any e&&e.on==j)||oj.apart ops ot) &&
    ((!(hardR lo j oj) || !(hardR lo t ot)||waitsB ops 8 t j)&&((!(ld lo j oj.op)||qt lo t ot.op||waitsB ops 8 t j||(lo.contains j && !(lo.contains (t+1000))))&&((qt lo j oj.op || !(ld lo t ot.op)||waitsB ops 8 t j||(lo.contains (t+2000) && !(lo.contains (j+1000))))&&(!(al lo j oj.op)||qt lo t ot.op||waitsB ops 8 t j||(lo.contains j && !(lo.contains (t+1000)))))))))
theorem freeT_spec{lo:List Nat}(h:freeT ops lo=true){t:Nat}{ot:Oper}(ht:ops[t]? = some ot) :
  (∀e∈ot.after,Region.binds .any e=true->e.on<t)∧(al lo t ot.op=true->ot.guard=none)∧∀j oj,j<t->ops[j]? = some oj →
   ((∃e∈ot.after,Region.binds .any e=true∧e.on=j)∨oj.apart ops ot=true)∧(hardR lo j oj=true->hardR lo t ot=true->waitsB ops 8 t j=true) ∧
   (ld lo j oj.op=true->qt lo t ot.op=false->waitsB ops 8 t j=true∨(j∈lo∧lo.contains (t+1000)=false))∧(qt lo j oj.op=false->ld lo t ot.op=true->waitsB ops 8 t j=true∨(lo.contains (t+2000)=true∧lo.contains (j+1000)=false)) ∧
   (al lo j oj.op=true->qt lo t ot.op=false->waitsB ops 8 t j=true∨(j∈lo∧lo.contains (t+1000)=false)):=by
 have hlt:=(Array.getElem?_eq_some_iff.1 ht).1
 have h1:=all_eq_true.1 h t (mem_range.2 hlt)
 rw[ht] at h1
 simp only[Bool.and_eq_true] at h1
 obtain⟨h2,h3,h4⟩:=h1
 refine⟨fun e he hb => ?_,fun ha => ?_,fun j oj hjt hoj => ?_⟩
 ·have:=(Array.all_eq_true_iff_forall_mem.1 h2) e he
  simpa[hb] using this
 ·simpa[ha] using h3
 ·have h5:=all_eq_true.1 h4 j (mem_range.2 hjt)
  rw[hoj] at h5
  simp only[Bool.or_eq_true,Bool.and_eq_true,Bool.not_eq_true'] at h5
  obtain⟨h6,h7,h8,h9,h10⟩:=h5
  refine⟨?_,fun r1 r2 => ?_,fun r1 r2 => ?_,fun r1 r2 => ?_,fun r1 r2 => ?_⟩
  ·rcases h6 with h6|h6
   ·simp only[Array.any_eq_true,Bool.and_eq_true,beq_iff_eq] at h6
    obtain⟨x,hx,hb⟩:=h6
    exact .inl ⟨_,Array.getElem_mem hx,hb.1,hb.2⟩
   ·exact .inr h6
  ·rcases h7 with (h7|h7)|h7
   ·rw[r1] at h7;cases h7
   ·rw[r2] at h7;cases h7
   ·exact h7
  ·rcases h8 with ((h7|h7)|h7)|h7
   ·rw[r1] at h7;cases h7
   ·rw[r2] at h7;cases h7
   ·exact .inl h7
   ·exact .inr ⟨by simpa using h7.1,h7.2⟩
  ·rcases h9 with ((h7|h7)|h7)|h7
   ·rw[r1] at h7;cases h7
   ·rw[r2] at h7;cases h7
   ·exact .inl h7
   ·exact .inr ⟨h7.1,h7.2⟩
  ·rcases h10 with ((h7|h7)|h7)|h7
   ·rw[r1] at h7;cases h7
   ·rw[r2] at h7;cases h7
   ·exact .inl h7
   ·exact .inr ⟨by simpa using h7.1,h7.2⟩
structure FInv(lo:List Nat)(ops:Array Oper)(rs:Nat->Nat)(E:Nat->Env)(H:Nat->Heap)(V:Nat->Value)(listed:Array Bool)(e:Env)(h:Heap)(p:Phi):Prop where
 lsize:listed.size=ops.size
 closed: ∀i o,ops[i]? = some o->listed.getD i false=true->∀e∈o.after,Region.binds .any e=true->listed.getD e.on false=true
 env: ∀t,e t=hv ops E V (fun i=>listed.getD i false) t ops.size
 heap: ∃m,m<=ops.size∧h=H m∧∀j oj,ops[j]? = some oj->hardR lo j oj=true->(listed.getD j false=true↔j<m)
 un: ∀i o,ops[i]? = some o->al lo i o.op=true->listed.getD i false=false->p (rs i)=none
theorem hard_of_write{lo:List Nat}{i:Nat}{o:Oper}(h:qt lo i o.op=false):hardR lo i o=true:=by
 unfold qt quietOp callOp at h
 unfold hardR al ld reg regOp loadOp allocOp bsOp slOp
 revert h
 cases o.op with
 | call c=>
  obtain⟨callee,x,y⟩:=c
  cases callee with
  | builtin b=>cases b<;>simp[lenC]
  | _=>simp[lenC]
 | _=>simp
theorem TraceF.same{n0:Nat}{lo:List Nat}(T:TraceF G P M ops n0 lo rs E H V){i:Nat}{o:Oper}(ho:ops[i]? = some o)(hh:hardR lo i o=false):H (i+1)=H i:=by
 rcases T.step i o ho with⟨_,_,h⟩|⟨_,⟨h,_⟩|⟨_,h,_⟩|⟨_,_,_,h,_⟩|⟨h,_⟩⟩
 ·exact h
 ·exact h
 ·exact h
 ·exact h
 ·rw[hh] at h;cases h
theorem TraceF.flat {n0 : Nat} {lo : List Nat} (T : TraceF G P M ops n0 lo rs E H V) {i m : Nat} (him : i ≤ m) (hm : m ≤ ops.size) (hr : ∀ j oj, i ≤ j → j < m → ops[j]? = some oj → hardR lo j oj = false) : H m = H i := by
  induction m with
  | zero => have : i = 0 := by omega
            subst this; rfl
  | succ m ih =>
    rcases lt_or_ge i (m + 1) with h | h
    · have hlt : m < ops.size := by omega
      have e1 := ih (by omega) (by omega) (fun j oj h1 h2 => hr j oj h1 (by omega))
      rw [T.same (Array.getElem?_eq_getElem hlt) (hr m ops[m] (by omega) (by omega) (Array.getElem?_eq_getElem hlt)), e1]
    · have : i = m + 1 := by omega
      subst this; rfl
theorem TraceF.keeps {n0 : Nat} {lo : List Nat} (T : TraceF G P M ops n0 lo rs E H V) {id i m : Nat} (him : i ≤ m) (hm : m ≤ ops.size) (hid : id < (H i).length)
    (hw : ∀ j oj, i ≤ j → j < m → ops[j]? = some oj → qt lo j oj.op = false → wantedH ops oj (E j) = true → (H (j + 1))[id]? = (H j)[id]?) : (H m)[id]? = (H i)[id]? := by
  induction m with
  | zero => have : i = 0 := by omega
            subst this; rfl
  | succ m ih =>
    rcases lt_or_ge i (m + 1) with h | h
    · have hlt : m < ops.size := by omega
      have ho : ops[m]? = some ops[m] := Array.getElem?_eq_getElem hlt
      have e1 := ih (by omega) (by omega) (fun j oj h1 h2 => hw j oj h1 (by omega))
      rw [← e1]
      by_cases hh : hardR lo m ops[m] = true
      · cases hq : qt lo m ops[m].op with
        | false =>
          by_cases hwt : wantedH ops ops[m] (E m) = true
          · exact hw m _ (by omega) (by omega) ho hq hwt
          · rcases T.step m _ ho with ⟨_, _, h⟩ | ⟨h, _⟩
            · rw [h]
            · exact absurd h hwt
        | true =>
          have hidm : id < (H m).length := by
            obtain ⟨k, hk⟩ : ∃ k, (H i)[id]? = some k := ⟨_, getElem?_eq_getElem hid⟩
            rw [hk] at e1
            exact (List.getElem?_eq_some_iff.1 e1).1
          rcases T.step m _ ho with ⟨_, _, h⟩ | ⟨_, ⟨h, _⟩ | ⟨_, h, _⟩ | ⟨_, _, _, h, _⟩ | ⟨_, _, h⟩⟩
          · rw [h]
          · rw [h]
          · rw [h]
          · rw [h]
          · obtain ⟨t, ht⟩ := h hq
            rw [← ht, getElem?_append_left hidm]
      · rw [T.same ho (by simpa using hh)]
    · have : i = m + 1 := by omega
      subst this; rfl
theorem TraceF.grows{n0:Nat}{lo:List Nat}(T:TraceF G P M ops n0 lo rs E H V): ∀m,m<=ops.size->(H 0).length<=(H m).length
 | 0,_=>le_refl _
 | m+1,h=>le_trans (T.grows m (by omega)) (T.len m (by omega))
theorem wpAny_free{n0 nt:Nat}{lo:List Nat}(T:TraceF G P M ops n0 lo rs E H V)(hfree:freeT ops lo=true)(hB:ops.toList.all (operB G nt)=true){p0:Phi}{h0:Heap}(hn0:n0=h0.length){w0:World}{Q:Exit->Act->World->Prop}
  (hQ: ∀p a w,HRel G p (H ops.size) w->ERel p nt (E ops.size) a->Ext M p0 p h0 (H ops.size) w0 w->Q .normal a w) :
  ∀(fuel:Nat) (listed:Array Bool) (e:Env) (h:Heap) (p:Phi) (a:Act) (w:World),FInv lo ops rs E H V listed e h p->HRel G p h w->ERel p nt e a->Ext M p0 p h0 h w0 w →
   listed.toList.count false<=fuel->wpAny P .any ops Q fuel listed a w:=by
 have hend: ∀(listed:Array Bool) (e:Env) (h:Heap) (p:Phi) (a:Act) (w:World),FInv lo ops rs E H V listed e h p->HRel G p h w->ERel p nt e a->Ext M p0 p h0 h w0 w->(∀k,k<ops.size->listed.getD k false=true)->Q .normal a w:=by
  intro listed e h p a w D hr er ex hall
  obtain⟨m,hm2,rfl,hm3⟩:=D.heap
  have e1:H ops.size=H m:=T.flat hm2 (le_refl _) fun j oj h1 h2 hj=>by
   cases hreg:hardR lo j oj with
   | false=>rfl
   | true=>have:=(hm3 j oj hj hreg).1 (hall j h2);omega
  have e2:e=E ops.size:=funext fun t=>by
   rw[D.env t, ←hv_text T.envs (t:=t) ops.size ops.size (le_refl _) (le_refl _)]
   exact hv_congr _ fun k hk _=>by rw[hall k hk];simp[hk]
  subst e2
  rw[←e1] at hr ex
  exact hQ p a w hr er ex
 have hready: ∀(listed:Array Bool) (e:Env) (h:Heap) (p:Phi),FInv lo ops rs E H V listed e h p->Region.ready .any ops listed= []->∀k,k<ops.size->listed.getD k false=true:=by
  intro listed e h p D hr k
  induction k using Nat.strongRecOn with
  | _ k ih=>
   intro hk
   cases hl:listed.getD k false with
   | true=>rfl
   | false=>
    exfalso
    have hks:k<listed.size:=by rw[D.lsize];exact hk
    have:k∈Region.ready .any ops listed:=by
     refine mem_ready.2 ⟨by simpa[Array.getD,hks] using hl,ops[k],Array.getElem?_eq_getElem hk,fun e he hb => ?_⟩
     have h1:=(freeT_spec hfree (Array.getElem?_eq_getElem hk)).1 e he hb
     exact ih e.on h1 (by omega)
    rw[hr] at this
    cases this
 intro fuel
 induction fuel with
 | zero=>
  intro listed e h p a w D hr er ex hc
  have hall: ∀k,k<ops.size->listed.getD k false=true:=by
   intro k hk
   have hks:k<listed.size:=by rw[D.lsize];exact hk
   cases hl:listed.getD k false with
   | true=>rfl
   | false=>
    exfalso
    have h0:listed.toList.count false=0:=by omega
    have:false∈listed.toList:=by
     have e:listed[k]=false:=by simpa[Array.getD,hks] using hl
     rw[←e]
     simp
    rw[List.count_eq_zero] at h0
    exact h0 this
  refine⟨?_,hend listed e h p a w D hr er ex hall⟩
  cases hrd:Region.ready .any ops listed with
  | nil=>rfl
  | cons i r=>
   exfalso
   have hi:i∈Region.ready .any ops listed:=by rw[hrd];simp
   obtain⟨h1,o,h2,_⟩:=mem_ready.1 hi
   have hk:=(Array.getElem?_eq_some_iff.1 h2).1
   have hks:i<listed.size:=by rw[D.lsize];exact hk
   have:=hall i hk
   simp[Array.getD,hks] at this h1
   rw[h1] at this
   cases this
 | succ fuel ih=>
  intro listed e h p a w D hr er ex hc
  refine⟨fun hrd=>hend listed e h p a w D hr er ex (hready listed e h p D hrd),fun i hi => ?_⟩
  obtain⟨hun,o,ho,hedge⟩:=mem_ready.1 hi
  have hlt:i<ops.size:=(Array.getElem?_eq_some_iff.1 ho).1
  have hll:i<listed.size:=by rw[D.lsize];exact hlt
  have hun':listed.getD i false=false:=by simpa[Array.getD,hll] using hun
  have hpair:=(freeT_spec hfree ho).2.2
  -- the operations that write what i looks at are done just where the text has them before i
  have same: ∀t,t∈o.looksAt ops∨o.dst=some t->∀k,k<ops.size->k≠i->((ops[k]?).bind (·.dst))=some t->listed.getD k false=decide (k<i):=by
   intro t ht k hk hki hd
   have hok:ops[k]? = some ops[k]:=Array.getElem?_eq_getElem hk
   rw[hok,Option.bind_some] at hd
   rcases lt_or_ge k i with h|h
   ·rw[decide_eq_true h]
    rcases (hpair k _ h hok).1 with⟨e,he,hb,hon⟩|hap
    ·rw[←hon];exact hedge e he hb
    ·obtain⟨h1,h2,h3⟩:=Oper.apart_spec hap
     rcases ht with ht|ht
     ·exact absurd ht (h1 t hd)
     ·exact absurd ht (h2 t hd)
   ·have hik:i<k:=by omega
    rw[decide_eq_false (by omega)]
    rcases ((freeT_spec hfree hok).2.2 i o hik ho).1 with⟨e,he,hb,hon⟩|hap
    ·cases hl:listed.getD k false with
     | false=>rfl
     | true=>
      have:=D.closed k _ hok hl e he hb
      rw[hon,hun'] at this
      cases this
    ·obtain⟨h1,h2,h3⟩:=Oper.apart_spec hap
     rcases ht with ht|ht
     ·exact absurd ht (h3 t hd)
     ·exact absurd hd (h2 t ht)
  have hval: ∀t,t∈o.looksAt ops->e t=E i t:=fun t ht=>by
   rw[D.env t, ←hv_text T.envs (t:=t) ops.size i (by omega) (le_refl _)]
   exact hv_congr _ fun k hk hd=>by
    by_cases hki:k=i
    ·subst hki;simp[hun']
    ·exact same t (.inl ht) k hk hki hd
  have hopv: ∀x∈o.op.operands,Opd.val e x=Opd.val (E i) x:=fun x hx=>by
   cases x with
   | tmp t=>exact hval t (mem_append_left _ (List.mem_filterMap.2 ⟨.tmp t,by simpa using hx,rfl⟩))
   | _=>rfl
  have hoB:=all_eq_true.1 hB o (by have:=Array.mem_of_getElem? ho;simpa using this)
  simp only[operB,Bool.and_eq_true,Array.all_eq_true_iff_forall_mem] at hoB
  have hdn: ∀d,o.dst=some d->d<nt:=fun d hd=>by have:=hoB.2;rw[hd] at this;simpa using this
  have hopd: ∀x∈o.op.operands,VRel p (Opd.val e x) (a.eval x):=fun x hx=>opd_rel hr (fun t _=>er.val t) (hoB.1 x hx)
  have hwt:Region.wanted o (yielded ops a.tmps)=wantedH ops o (E i):=by
   rw[←wantedH_congr (e:=E i) (e':=e) hval]
   exact wanted_rel fun g want t _ _=>⟨p,er.val t⟩
  have getD_set: ∀j,(listed.setIfInBounds i true).getD j false=if j=i then true else listed.getD j false:=fun j=>by
   by_cases hj:j=i
   ·subst hj;simp[Array.getD,hll]
   ·simp[Array.getD_eq_getD_getElem?,Array.getElem?_setIfInBounds_ne (Ne.symm hj),hj]
  have closed': ∀j oj,ops[j]? = some oj->(listed.setIfInBounds i true).getD j false=true->∀e∈oj.after,Region.binds .any e=true->(listed.setIfInBounds i true).getD e.on false=true:=by
   intro j oj hoj hl e he hb
   rw[getD_set] at hl ⊢
   by_cases hj:j=i
   ·subst hj
    rw[ho] at hoj;cases hoj
    split
    ·rfl
    ·exact hedge e he hb
   ·rw[if_neg hj] at hl
    split
    ·rfl
    ·exact D.closed j oj hoj hl e he hb
  have env': ∀t,put e o.dst (V i) t=hv ops E V (fun j=>(listed.setIfInBounds i true).getD j false) t ops.size:=by
   intro t
   by_cases hd:o.dst=some t
   ·have e1:hv ops E V (fun j=>(listed.setIfInBounds i true).getD j false) t ops.size=hv ops E V (fun j=>decide (j<i+1)) t ops.size:=hv_congr _ fun k hk hdk=>by
     rw[getD_set]
     by_cases hki:k=i
     ·subst hki;simp
     ·rw[if_neg hki,same t (.inr hd) k hk hki hdk]
      simp only[decide_eq_decide];omega
    rw[e1,hv_text T.envs (t:=t) ops.size (i+1) (by omega) (le_refl _),T.envs i o ho,hd]
    simp[put,upd]
   ·have e1:hv ops E V (fun j=>(listed.setIfInBounds i true).getD j false) t ops.size=hv ops E V (fun j=>listed.getD j false) t ops.size:=hv_congr _ fun k hk hdk=>by
     rw[getD_set]
     by_cases hki:k=i
     ·subst hki
      rw[ho] at hdk
      exact absurd hdk hd
     ·rw[if_neg hki]
    rw[e1, ←D.env t]
    cases hx:o.dst with
    | none=>rfl
    | some d=>simp only[put,upd];rw[if_neg (fun c=>hd (by rw[hx,c]))]
  have hcount:(listed.setIfInBounds i true).toList.count false<=fuel:=by
   have e:listed[i]=false:=by simpa[Array.getD,hll] using hun
   have:=List.count_set (a:=true) (b:=false) (l:=listed.toList) (i:=i) (by simpa using hll)
   simp only[Array.getElem_toList,e] at this
   have e2:(if (false==false)=true then 1 else 0)=1:=rfl
   have e3:(if (true==false)=true then 1 else 0)=0:=rfl
   rw[e2,e3] at this
   rw[Array.toList_setIfInBounds,this]
   omega
  obtain⟨m,hm2,hhm,hm3⟩:=D.heap
  have hb4:hardR lo i o=true->∀j oj,j<i->ops[j]? = some oj->hardR lo j oj=true->listed.getD j false=true:=fun hi j oj h2 h3 h4=>
   waits_listed D.closed 8 i j o ho hedge ((hpair j oj h2 h3).2.1 h4 hi)
  have hmi:hardR lo i o=true->m<=i:=fun hreg=>by
   rcases lt_or_ge i m with h1|h1
   ·have:=(hm3 i o ho hreg).2 h1;rw[hun'] at this;cases this
   ·exact h1
  have hHm:hardR lo i o=true->H i=H m:=fun hreg=>T.flat (hmi hreg) (by omega) fun j oj h1 h2 h3=>by
   cases hrj:hardR lo j oj with
   | false=>rfl
   | true=>have:=(hm3 j oj h3 hrj).1 (hb4 hreg j oj h2 h3 hrj);omega
  have next:hardR lo i o=true->∀j oj,ops[j]? = some oj->hardR lo j oj=true->((listed.setIfInBounds i true).getD j false=true↔j<i+1):=fun hreg j oj h2 h3=>by
   rw[getD_set]
   by_cases hji:j=i
   ·rw[if_pos hji];simp;omega
   ·rw[if_neg hji]
    rcases lt_or_ge j i with h4|h4
    ·exact⟨fun _=>by omega,fun _=>hb4 hreg j oj h4 h2 h3⟩
    ·refine⟨fun hl => ?_,fun h5=>by omega⟩
     have:=waits_listed D.closed 8 j i oj h2 (D.closed j oj h2 hl) (((freeT_spec hfree h2).2.2 i o (by omega) ho).2.1 hreg h3)
     rw[hun'] at this;cases this
  have unq: ∀ {q:Phi} {w':World} {h':Heap},Ext M p q h h' w w'->∀j oj,ops[j]? = some oj->al lo j oj.op=true->(listed.setIfInBounds i true).getD j false=false->q (rs j)=none:=fun {q w' h'} hex j oj h1 h2 h3=>by
   rw[getD_set] at h3
   split at h3
   ·cases h3
   ·have h4:=D.un j oj h1 h2 h3
    cases hq:q (rs j) with
    | none=>rfl
    | some t=>
     have h5:=(hex.new _ t hq h4).1
     have h6:=(T.low j oj h1 h2).2
     have h7:(H 0).length<=h.length:=by
      rw[hhm]
      exact T.grows m hm2
     omega
  -- a step that keeps the heap
  have stay:hardR lo i o=false∨H (i+1)=H i->∀ {q:Phi},(∀j oj,ops[j]? = some oj->al lo j oj.op=true->(listed.setIfInBounds i true).getD j false=false->q (rs j)=none)->FInv lo ops rs E H V (listed.setIfInBounds i true) (put e o.dst (V i)) h q:=fun hro q hq=>by
   refine⟨by simp[D.lsize],closed',env', ?_,hq⟩
   by_cases hreg:hardR lo i o=true
   ·refine⟨i+1,by omega, ?_,next hreg⟩
    rcases hro with h1|h1
    ·rw[hreg] at h1;cases h1
    ·rw[h1,hHm hreg];exact hhm
   ·refine⟨m,hm2,hhm,fun j oj h2 h3 => ?_⟩
    rw[getD_set]
    by_cases hji:j=i
    ·subst hji;rw[ho] at h2;cases h2;exact absurd h3 hreg
    ·rw[if_neg hji];exact hm3 j oj h2 h3
  unfold wpOp
  simp only[ho]
  rw[hwt]
  rcases T.step i o ho with⟨hw,hv0,hHi⟩|⟨hw,⟨hHi,hs⟩|⟨hld,hHi,id,hrd,hid,hs⟩|⟨z,esz,hal,hHi,hF,hk⟩|⟨hreg,hs,hpre⟩⟩
  ·rw[if_neg (by simp[hw])]
   have hst:=stay (.inr hHi) (unq (Ext.refl M p h w))
   rw[hv0] at hst
   exact ih _ _ _ p _ w hst hr (er.put hdn (VRel.undef p)) ex hcount
  ·rw[if_pos hw]
   refine .inl ((hs h).congr hopv p a w hr hopd _ _ ?_)
   intro q v' w' hrq hvq exq
   replace hrq:=hrq.all
   exact ih _ _ _ q _ w' (stay (.inr hHi) (unq exq)) hrq ((er.mono exq.le).put hdn hvq) (ex.trans exq) hcount
  ·rw[if_pos hw]
   have hnh:hardR lo i o=false:=by simp[hardR,hld]
   have hidh:id<h.length:=by
    cases hop:o.op with
    | load t x=>
     have hx0:=hopd x (by rw[hop];simp[Op.operands])
     rw[hopv x (by rw[hop];simp[Op.operands])] at hx0
     rw[hop] at hrd
     simp only[rdId] at hrd
     split at hrd
     ·rename_i id2 off hxv
      cases hrd
      rw[hxv] at hx0
      obtain⟨tg,hp1,_⟩:=hx0.ptr_inv
      exact (hr.dom id tg hp1).1
     ·cases hrd
    | slice t x lo2 hi2 mx=>
     have hx0:=hopd x (by rw[hop];simp[Op.operands])
     rw[hopv x (by rw[hop];simp[Op.operands])] at hx0
     rw[hop] at hrd
     simp only[rdId] at hrd
     split at hrd
     ·rename_i id2 off n hxv
      cases hrd
      rw[hxv] at hx0
      obtain⟨tg,cap,hp1,_⟩:=hx0.slice_inv (by omega)
      exact (hr.dom id tg hp1).1
     ·cases hrd
    | _=>rw[hop] at hrd;simp[rdId] at hrd
   have hsame:h[id]? = (H i)[id]? := by
    rw[hhm]
    rcases lt_or_ge i m with h1|h1
    ·refine T.keeps (by omega) hm2 hid fun j oj h2 h3 h4 h5 h6 => ?_
     have hij:i<j:=by
      rcases lt_or_ge i j with h7|h7
      ·exact h7
      ·have:i=j:=by omega
       subst this;rw[ho] at h4;cases h4
       rw[hard_of_write h5] at hnh;cases hnh
     rcases ((freeT_spec hfree h4).2.2 i o hij ho).2.2.1 hld h5 with h7|h7
     ·have hl:=(hm3 j oj h4 (hard_of_write h5)).2 h3
      have:=waits_listed D.closed 8 j i oj h4 (D.closed j oj h4 hl) h7
      rw[hun'] at this;cases this
     ·exact T.kept i o j oj ho h4 hij h7 hw h6 h5 hld id hrd
    ·refine (T.keeps h1 (by omega) (by rw[←hhm];exact hidh) fun j oj h2 h3 h4 h5 h6 => ?_).symm
     rcases (hpair j oj h3 h4).2.2.2.1 h5 hld with h7|h7
     ·have:=(hm3 j oj h4 (hard_of_write h5)).1 (waits_listed D.closed 8 i j o ho hedge h7)
      omega
     ·exact T.early i o j oj ho h4 h3 h7 hw h6 h5 hld id hrd
   refine .inl ((hs h hsame).congr hopv p a w hr hopd _ _ ?_)
   intro q v' w' hrq hvq exq
   replace hrq:=hrq.all
   exact ih _ _ _ q _ w' (stay (.inl hnh) (unq exq)) hrq ((er.mono exq.le).put hdn hvq) (ex.trans exq) hcount
  ·rw[if_pos hw]
   have hnh:hardR lo i o=false:=by simp[hardR,hal]
   have hlow:=T.low i o ho hal
   have hblk:h[rs i]? = some ⟨z,esz, .rw⟩:=by
    rw[←hk,hhm]
    have h0i:(H i)[rs i]? = (H 0)[rs i]? := T.keeps (zero_le i) (by omega) hlow.2 fun j oj h2 h3 h4 h5 h6=>T.fresh i o j oj ho h4 h3 hal h5 h6
    rw[h0i]
    refine T.keeps (zero_le m) hm2 hlow.2 fun j oj h2 h3 h4 h5 h6 => ?_
    rcases lt_or_ge j i with h7|h7
    ·exact T.fresh i o j oj ho h4 h7 hal h5 h6
    ·have hij:i<j:=by
      rcases lt_or_ge i j with h8|h8
      ·exact h8
      ·have:i=j:=by omega
       subst this;rw[ho] at h4;cases h4
       rw[hard_of_write h5] at hnh;cases hnh
     rcases ((freeT_spec hfree h4).2.2 i o hij ho).2.2.2.2 hal h5 with hwt|hwt
     ·have hl:=(hm3 j oj h4 (hard_of_write h5)).2 h3
      have:=waits_listed D.closed 8 j i oj h4 (D.closed j oj h4 hl) hwt
      rw[hun'] at this;cases this
     ·exact T.stays i o j oj ho h4 hij hwt hal h5 h6
   have hnone:=D.un i o ho hal hun'
   obtain⟨mk,c,elem,hex,hlz,hvm⟩:=hF p a.eval (fun _=>rfl) (fun x hx=>by rw[←hopv x hx];exact hopd x hx) w
   have hr1:=hr.take elem hnone hblk hlz
   have hle:p.le (phiPush p (rs i) ⟨w.heap.size,0,esz,c.size⟩):=fun id t2 e2=>by
    unfold phiPush
    rw[if_neg]
    ·exact e2
    ·intro hid;rw[hid,hnone] at e2;cases e2
   have ex1:Ext M p0 (phiPush p (rs i) ⟨w.heap.size,0,esz,c.size⟩) h0 h w0 {w with heap:=w.heap.push (.cells c elem (0,0))}:=by
    refine⟨Phi.le_trans ex.le hle,fun id t2 e2 en => ?_,ex.len,fun b hb hm => ?_,by simp;have:=ex.size;omega,ex.os,ex.tape,ex.output⟩
    ·unfold phiPush at e2
     split at e2
     ·rename_i hid
      subst hid
      cases e2
      exact⟨by omega, .inl ex.size⟩
     ·exact ex.new id t2 e2 en
    ·rw[←ex.frame b hb hm]
     have:=ex.size
     simp only[Array.getElem?_push]
     rw[if_neg (by omega)]
   refine .inl ?_
   have hq: ∀j oj,ops[j]? = some oj->al lo j oj.op=true->(listed.setIfInBounds i true).getD j false=false->phiPush p (rs i) ⟨w.heap.size,0,esz,c.size⟩ (rs j)=none:=fun j oj h1 h2 h3=>by
    rw[getD_set] at h3
    split at h3
    ·cases h3
    ·rename_i hji
     unfold phiPush
     rw[if_neg (fun hh=>hji (T.inj j oj i o h1 ho h2 hal hh))]
     exact D.un j oj h1 h2 h3
   have hst:=stay (.inl hnh) hq
   have fin:=ih _ _ _ _ (a.put o.dst mk) _ hst hr1 ((er.mono hle).put hdn (hvm _ phiPush_same)) ex1 hcount
   unfold Oper.wp
   rw[hex]
   exact fin
  ·rw[if_pos hw]
   have hh:h=H i:=by rw[hhm,hHm hreg]
   subst hh
   refine .inl (hs.congr hopv p a w hr hopd _ _ ?_)
   intro q v' w' hrq hvq exq
   replace hrq:=hrq.all
   exact ih _ _ _ q _ w' ⟨by simp[D.lsize],closed',env',⟨i+1,by omega,rfl,next hreg⟩,unq exq⟩ hrq ((er.mono exq.le).put hdn hvq) (ex.trans exq) hcount
end
def keep:List Nat->Heap->Heap->Prop
 | [],_,_=>True
 | x::l,h,h'=>h'[x]? = h[x]? ∧ keep l h h'
theorem keep_mem{h h':Heap}{x:Nat}: ∀ {l:List Nat},keep l h h'->x∈l->h'[x]? = h[x]?
 | [],_,hx=>by cases hx
 | y::l,hk,hx=>by
  rcases mem_cons.1 hx with rfl|hx
  ·exact hk.1
  ·exact keep_mem hk.2 hx
def rdk(lo rd:List Nat)(k:Nat):List Nat:=if lo.contains (k+1000)=true then [] else rd
def FOps(G:List (Nat×Nat))(P:Program)(M:Nat->Prop)(ops:Array Oper)(lo es:List Nat):Nat->List Nat->List Nat->List Oper->Env->Heap->(Env->Heap->Prop)->Prop
 | _,_,_,[],e,h,K=>K e h
 | k,rs,rd,o::os,e,h,K=> ∃v h' r rs' rd',Rfree lo k G P M ops o r e h v h'∧h.length<=h'.length∧(al lo k o.op=true->rs=r::rs')∧(al lo k o.op=false->rs'=rs)∧(∀x∈rd,x∈rd')∧(k∈lo->al lo k o.op=true->r∈rd') ∧
   (k∈lo->wantedH ops o e=true->ld lo k o.op=true->∀id,rdId e o.op=some id->id∈rd') ∧
   (lo.contains (k+2000)=true->wantedH ops o e=true->ld lo k o.op=true->∀id,rdId e o.op=some id->id∈es) ∧
   (qt lo k o.op=false->wantedH ops o e=true->keep (rs++rdk lo rd k) h h')∧FOps G P M ops lo es (k+1) rs' rd' os (put e o.dst v) h' K
section
variable {G:List (Nat×Nat)} {P:Program} {M:Nat->Prop} {ops:Array Oper}
structure FAt(G:List (Nat×Nat))(P:Program)(M:Nat->Prop)(ops:Array Oper)(lo es:List Nat)(o:Oper)(i r:Nat)(rs rs' rd rd':List Nat)(e e':Env)(h h':Heap)(v:Value):Prop where
 env:e'=put e o.dst v
 step:Rfree lo i G P M ops o r e h v h'
 len:h.length<=h'.length
 tk:al lo i o.op=true->rs=r::rs'
 no:al lo i o.op=false->rs'=rs
 sub: ∀x∈rd,x∈rd'
 la:i∈lo->al lo i o.op=true->r∈rd'
 ldd:i∈lo->wantedH ops o e=true->ld lo i o.op=true->∀id,rdId e o.op=some id->id∈rd'
 er:lo.contains (i+2000)=true->wantedH ops o e=true->ld lo i o.op=true->∀id,rdId e o.op=some id->id∈es
 wr:qt lo i o.op=false->wantedH ops o e=true->keep (rs++rdk lo rd i) h h'
theorem FOps.trace{lo es:List Nat}: ∀(l:List Oper) (k:Nat) (rs rd:List Nat) (e:Env) (h:Heap) (K:Env->Heap->Prop),FOps G P M ops lo es k rs rd l e h K →
  ∃(E:Nat->Env) (H:Nat->Heap) (V:Nat->Value) (r:Nat->Nat) (RS RD:Nat->List Nat),E k=e∧H k=h∧RS k=rs∧RD k=rd∧K (E (k+l.length)) (H (k+l.length)) ∧
   ∀i o,l[i]? = some o->FAt G P M ops lo es o (k+i) (r (k+i)) (RS (k+i)) (RS (k+i+1)) (RD (k+i)) (RD (k+i+1)) (E (k+i)) (E (k+i+1)) (H (k+i)) (H (k+i+1)) (V (k+i))
 | [],k,rs,rd,e,h,K,hv=>⟨fun _=>e,fun _=>h,fun _=>undef,fun _=>0,fun _=>rs,fun _=>rd,rfl,rfl,rfl,rfl,hv,fun i o hi=>by simp at hi⟩
 | o::os,k,rs,rd,e,h,K,hv=>by
  obtain⟨v,h',r0,rs',rd',s1,s2,s3,s4,s5,s8,s6,s9,s7,hv⟩:=hv
  obtain⟨E,H,V,r,RS,RD,h1,h2,h3,h4,h5,h6⟩:=FOps.trace os (k+1) rs' rd' _ h' K hv
  refine⟨fun j=>if j=k then e else E j,fun j=>if j=k then h else H j,fun j=>if j=k then v else V j,fun j=>if j=k then r0 else r j,fun j=>if j=k then rs else RS j,fun j=>if j=k then rd else RD j,by simp,by simp,by simp,by simp, ?_, ?_⟩
  ·have:k+(os.length+1)≠k:=by omega
   simp only[length_cons,this,if_false]
   rw[show k+(os.length+1)=k+1+os.length from by omega]
   exact h5
  ·intro i o1 hi
   cases i with
   | zero=>
    simp only[getElem?_cons_zero,Option.some.injEq] at hi
    subst hi
    have:k+1≠k:=by omega
    simp only[add_zero,this,if_false,if_true,h1,h2,h3,h4]
    exact⟨rfl,s1,s2,s3,s4,s5,s8,s6,s9,s7⟩
   | succ i=>
    simp only[getElem?_cons_succ] at hi
    have e1:k+(i+1)≠k:=by omega
    have e2:k+(i+1)+1≠k:=by omega
    have:=h6 i o1 hi
    simp only[e1,e2,if_false]
    rw[show k+(i+1)=k+1+i from by omega]
    exact this
theorem HWp.region_free {n : Nat} {id : Nat} {lo es rs : List Nat} {bs : List Blk} {Q : Exit → Env → Heap → Prop} {e : Env} {h : Heap} (hm : P.follows .mixedOrders = true) (hok : freeT ops lo = true) (hB : ops.toList.all (operB G n) = true)
    (hrs : rs.Nodup ∧ ∀ x ∈ rs, h.length ≤ x ∧ x < (h ++ bs).length) (hh : FOps G P M ops lo es 0 rs es ops.toList e (h ++ bs) (fun e' h' => Q .normal e' h')) : HWp G P n M (.region id ops true) Q e h := by
  obtain ⟨E, H, V, r, RS, RD, h1, h2, h3, h4, h5, h6⟩ := FOps.trace ops.toList 0 rs es e (h ++ bs) _ hh
  simp only [zero_add, Array.length_toList] at h5 h6
  have h6 : ∀ i o, ops[i]? = some o → FAt G P M ops lo es o i (r i) (RS i) (RS (i + 1)) (RD i) (RD (i + 1)) (E i) (E (i + 1)) (H i) (H (i + 1)) (V i) := fun i o hi => h6 i o (by simpa using hi)
  have rdm : ∀ i j, i ≤ j → j ≤ ops.size → ∀ x ∈ RD i, x ∈ RD j := fun i j hij => by
    induction j with
    | zero => intro _ x hx; have : i = 0 := by omega
              subst this; exact hx
    | succ j ih =>
      intro hj x hx
      rcases lt_or_ge i (j + 1) with h | h
      · exact (h6 j ops[j] (Array.getElem?_eq_getElem (by omega))).sub x (ih (by omega) (by omega) x hx)
      · have : i = j + 1 := by omega
        subst this; exact hx
  have rss : ∀ i j, i ≤ j → j ≤ ops.size → RS j <:+ RS i := fun i j hij => by
    induction j with
    | zero => intro _; have : i = 0 := by omega
              subst this; exact List.suffix_rfl
    | succ j ih =>
      intro hj
      rcases lt_or_ge i (j + 1) with h | h
      · have hf := h6 j ops[j] (Array.getElem?_eq_getElem (by omega))
        refine List.IsSuffix.trans ?_ (ih (by omega) (by omega))
        cases ha : al lo j ops[j].op with
        | true => rw [hf.tk ha]; exact List.suffix_cons _ _
        | false => rw [hf.no ha]; exact List.suffix_rfl
      · have : i = j + 1 := by omega
        subst this; exact List.suffix_rfl
  have rmem : ∀ i o, ops[i]? = some o → al lo i o.op = true → r i ∈ RS i := fun i o ho ha => by rw [(h6 i o ho).tk ha]; simp
  have rne : ∀ i o j oj, ops[i]? = some o → ops[j]? = some oj → al lo i o.op = true → al lo j oj.op = true → i < j → r i ≠ r j := fun i o j oj ho hoj ha haj hij hr => by
    have hj := (Array.getElem?_eq_some_iff.1 hoj).1
    have hi := (Array.getElem?_eq_some_iff.1 ho).1
    have s1 := rss (i + 1) j hij (by omega)
    have m1 := s1.subset (rmem j oj hoj haj)
    have s2 := rss 0 i (zero_le _) (by omega)
    rw [h3] at s2
    have nd := hrs.1.sublist s2.sublist
    rw [(h6 i o ho).tk ha, List.nodup_cons] at nd
    rw [← hr] at m1
    exact nd.1 m1
  have T : TraceF G P M ops h.length lo r E H V := by
    refine ⟨fun i o hi => (h6 i o hi).env, fun i o hi => (h6 i o hi).step, fun i o j oj ho hoj hij hlo hw hwj hq hld id hrd => ?_, fun i o j oj ho hoj hji hlo hw hwj hq hld id hrd => ?_, fun i o j oj ho hoj hji ha hq hwj => ?_, fun i o j oj ho hoj hij hlo ha hq hwj => ?_, fun i o j oj ho hoj ha haj hr => ?_, fun i o ho ha => ?_, fun i hi => (h6 i ops[i] (Array.getElem?_eq_getElem hi)).len⟩
    · have hj := (Array.getElem?_eq_some_iff.1 hoj).1
      have hi := (Array.getElem?_eq_some_iff.1 ho).1
      have m1 := (h6 i o ho).ldd hlo.1 hw hld id hrd
      exact keep_mem ((h6 j oj hoj).wr hq hwj) (List.mem_append_right _ (by rw [rdk, if_neg (by rw [hlo.2]; decide)]; exact rdm (i + 1) j hij (by omega) _ m1))
    · have hi := (Array.getElem?_eq_some_iff.1 ho).1
      have m1 := (h6 i o ho).er hlo.1 hw hld id hrd
      exact keep_mem ((h6 j oj hoj).wr hq hwj) (List.mem_append_right _ (by rw [rdk, if_neg (by rw [hlo.2]; decide)]; exact rdm 0 j (zero_le _) (by omega) _ (by rw [h4]; exact m1)))
    · have hi := (Array.getElem?_eq_some_iff.1 ho).1
      exact keep_mem ((h6 j oj hoj).wr hq hwj) (mem_append_left _ ((rss j i (by omega) (by omega)).subset (rmem i o ho ha)))
    · have hj := (Array.getElem?_eq_some_iff.1 hoj).1
      exact keep_mem ((h6 j oj hoj).wr hq hwj) (List.mem_append_right _ (by rw [rdk, if_neg (by rw [hlo.2]; decide)]; exact rdm (i + 1) j hij (by omega) _ ((h6 i o ho).la hlo.1 ha)))
    · rcases Nat.lt_trichotomy i j with h | h | h
      · exact absurd hr (rne i o j oj ho hoj ha haj h)
      · exact h
      · exact absurd hr.symm (rne j oj i o hoj ho haj ha h)
    · have hi := (Array.getElem?_eq_some_iff.1 ho).1
      have := (rss 0 i (zero_le _) (by omega)).subset (rmem i o ho ha)
      rw [h3] at this
      rw [h2]
      exact hrs.2 _ this
  refine ⟨.normal, E ops.size, H ops.size, fun p a w hr er => ?_, h5⟩
  refine wp_region_any hm ?_
  have hr1 : HRel G p (h ++ bs) { w with drawn := w.drawn + 1 } := (show HRel G p (h ++ bs) w from hr.more).drew
  have ex1 : Ext M p p h (h ++ bs) w { w with drawn := w.drawn + 1 } := ⟨Phi.le_refl p, fun id t e e' => (by rw [e] at e'; cases e'), by simp, fun _ _ _ => rfl, le_refl _, rfl, rfl, rfl⟩
  refine wpAny_free T hok hB rfl (p0 := p) (h0 := h) (w0 := w) (fun q2 a2 w2 hr2 er2 ex2 => ⟨rfl, q2, hr2, er2, ex2⟩) _ _ e (h ++ bs) p a _ ⟨by simp, ?_, ?_, ⟨0, zero_le _, h2.symm, ?_⟩, ?_⟩ hr1 er ex1 ?_
  · intro i o _ hl
    simp [Array.getD_eq_getD_getElem?, Array.getElem?_replicate] at hl
    split at hl <;> simp at hl
  · intro t
    rw [← h1, ← hv_text T.envs (t := t) ops.size 0 (zero_le _) (le_refl _)]
    refine hv_congr _ fun k hk _ => ?_
    simp [Array.getD_eq_getD_getElem?, hk]
  · intro j oj hj _
    simp [Array.getD_eq_getD_getElem?, Array.getElem?_replicate]
    split <;> rfl
  · intro i o ho ha _
    have := (T.low i o ho ha).1
    cases hp : p (r i) with
    | none => rfl
    | some t => have := (hr.dom _ t hp).1; omega
  · simp
end
end Go.HH
namespace Go.HH
universe u
def hget(h:Heap)(i:Nat):Option Blk:=h[i]?
inductive Hold {α:Sort u} (k:α):Type
 | mk:Hold k
abbrev hold{α:Sort u}(k:α):Hold k := .mk
def onLoad(o:Option Nat){A:Prop}{B:Nat->Prop}(_:Hold A)(_:Hold B):Prop:=match o with
 | none=>A
 | some n=>B n
def onKind(o:TypeDesc){K:IntKind->Prop}(_:Hold K):Prop:=match o with
 | .int k=>K k
 | _=>False
def vCall(G:List (Nat×Nat))(P:Program)(M:Nat->Prop)(f:FuncId)(args:List Value)(h:Heap)(K:Value->Heap->Prop):Prop:= ∃r h',HRuns G P f args h M r h'∧K r h'
def tsize(P:Program)(t:TypeId):Option Nat:=(P.info? t).map (·.size)
def tz(P:Program)(t:TypeId):Option (List Value):=match tzero P t with
 | some z=>if z.all plainB=true then some z else none
 | none=>none
theorem tz_spec{P:Program}{t:TypeId}{z:List Value}(h:tz P t=some z):tzero P t=some z∧∀v∈z,plainB v=true:=by
 unfold tz at h
 split at h
 ·split at h
  ·rename_i hz hp;cases h;exact⟨hz,all_eq_true.1 hp⟩
  ·cases h
 ·cases h
def tbytes(P:Program)(t:TypeId):Option Nat:=(P.info? t).map (·.bytes)
def pickV(b:Bool)(u v:Value):Value:=if b then u else v
def bindV(v:Value){K:Value->Prop}(_:Hold K):Prop:=K v
def onPtr(v:Value){K:Nat->Nat->Prop}(_:Hold K):Prop:=match v with
 | .pointer (some ⟨id,off,none⟩)=>K id off
 | _=>False
def onInt(v:Value){K:IntKind->Int->Prop}(_:Hold K):Prop:=match v with
 | .int k n=>K k n
 | _=>False
def onBool(v:Value){K:Bool->Prop}(_:Hold K):Prop:=match v with
 | .bool b=>K b
 | _=>False
def onSome{α:Type}(o:Option α){K:α->Prop}(_:Hold K):Prop:=match o with
 | some a=>K a
 | none=>False
def onTuple(v:Value){K:Array Value->Prop}(_:Hold K):Prop:=match v with
 | .tuple vs=>K vs
 | _=>False
def onFunc(v:Value){K:FuncId->Array Value->Array Value->Prop}(_:Hold K):Prop:=match v with
 | .func (.func f) first captured=>K f first captured
 | _=>False
def onSeq(v:Value){K:Nat->Nat->Nat->Prop}{L:Nat->Nat->Prop}{S:ByteArray->Prop}(_:Hold K)(_:Hold L)(_:Hold S):Prop:=match v with
 | .slice (some ⟨id,off,none⟩) len 0=>K id off len
 | .pointer (some ⟨id,off,none⟩)=>L id off
 | .string s=>S s
 | _=>False
def onSl(v:Value){E:Option Addr->Prop}{K:Nat->Nat->Nat->Prop}{S:ByteArray->Prop}(_:Hold E)(_:Hold K)(_:Hold S):Prop:=match v with
 | .slice oa 0 0=>E oa
 | .slice (some ⟨id,off,none⟩) (n+1) 0=>K id off (n+1)
 | .string s=>S s
 | _=>False
def onLen(v:Value){K:Nat->Prop}{S:ByteArray->Prop}(_:Hold K)(_:Hold S):Prop:=match v with
 | .slice _ len _=>K len
 | .string s=>S s
 | _=>False
def onTwo(u v:Value){B:Bool->Bool->Prop}{K:Value->Value->Prop}(_:Hold B)(_:Hold K):Prop:=match u,v with
 | .bool b, .bool c=>B b c
 | u,v=>K u v
def onApp(u v:Value){Z:Prop}{N:Nat->Nat->Nat->Prop}{K:Nat->Nat->Nat->Nat->Nat->Nat->Prop}(_:Hold Z)(_:Hold N)(_:Hold K):Prop:=match u,v with
 | .slice _ _ _, .slice _ 0 _=>Z
 | .slice none 0 0, .slice (some ⟨id2,off2,none⟩) n 0=>N id2 off2 n
 | .slice (some ⟨id,off,none⟩) len 0, .slice (some ⟨id2,off2,none⟩) n 0=>K id off len id2 off2 n
 | _,_=>False
def onCv(v:Value){K:IntKind->Int->Prop}{S:ByteArray->Prop}{E:Prop}{L:Nat->Nat->Nat->Prop}(_:Hold K)(_:Hold S)(_:Hold E)(_:Hold L):Prop:=match v with
 | .int k n=>K k n
 | .string s=>S s
 | .slice _ 0 0=>E
 | .slice (some ⟨id,off,none⟩) (n+1) 0=>L id off (n+1)
 | _=>False
def onPlaces(o:Option (List (Nat×Nat))){A:List (Nat×Nat)->Prop}{B:Prop}(_:Hold A)(_:Hold B):Prop:=match o with
 | some pl=>A pl
 | none=>B
def onArr(v:Value){A:Array Value->Prop}{B:Prop}(_:Hold A)(_:Hold B):Prop:=match v with
 | .agg cs=>A cs
 | _=>B
def vBuiltin(P:Program)(M:Nat->Prop)(b:Builtin)(args:List Operand)(ats:List TypeId)(e:Env)(h:Heap)(K:Value->Heap->Prop):Prop:=
 match b,args,ats with
 | .len,[x],[t]=>onLen (Opd.val e x) (hold fun (len:Nat)=>(telem P t).isSome=true∧K (.int .i64 len) h) (hold fun (s:ByteArray)=>P.underlying t=some .string∧K (.int .i64 s.size) h)
 | .max,[x,y],_=>onInt (Opd.val e x) (hold fun (k:IntKind) (m:Int)=>onInt (Opd.val e y) (hold fun (k':IntKind) (n:Int)=>k=k'∧K (.int k (if n>m then n else m)) h))
 | .max,[x,y,z],_=>onInt (Opd.val e x) (hold fun (k:IntKind) (m:Int)=>onInt (Opd.val e y) (hold fun (k':IntKind) (n:Int)=>onInt (Opd.val e z) (hold fun (k2:IntKind) (c:Int)=>k=k'∧k=k2∧K (.int k (if c>(if n>m then n else m) then c else (if n>m then n else m))) h)))
 | .min,[x,y],_=>onInt (Opd.val e x) (hold fun (k:IntKind) (m:Int)=>onInt (Opd.val e y) (hold fun (k':IntKind) (n:Int)=>k=k'∧K (.int k (if n<m then n else m)) h))
 | .append,[s,x],[t,t2]=>onApp (Opd.val e s) (Opd.val e x)
   (hold ((tapp P t).isSome=true∧(telem P t2).isSome=true∧bindV (Opd.val e s) (hold fun v=>K v h)))
   (hold fun (id2 off2 n:Nat)=>onSome (tapp P t) (hold fun sb=>onSome (hget h id2) (hold fun k2=>t2=t∧0<n∧k2.st ≠ .dead∧off2+n*sb.1<=k2.cells.length∧n<=9223372036854775807∧n*sb.2<=140737488355328 ∧
     K (.slice (some ⟨h.length,0,none⟩) n 0) (h++ [⟨(k2.cells.drop off2).take (n*sb.1),sb.1, .rw⟩]))))
   (hold fun (id off len id2 off2 n:Nat)=>onSome (tapp P t) (hold fun sb=>onSome (hget h id) (hold fun k=>onSome (hget h id2) (hold fun k2=>t2=t∧0<n∧M id∧k.st = .rw∧off+len*sb.1=k.cells.length∧k.esz=sb.1∧k2.st ≠ .dead∧off2+n*sb.1<=k2.cells.length∧((k2.cells.drop off2).take (n*sb.1)).all oneC=true ∧
     len+n<=9223372036854775807∧(len+n)*sb.2<=140737488355328 ∧
     K (.slice (some ⟨h.length,0,none⟩) (len+n) 0) (h.set id ⟨k.cells,k.esz, .dead⟩++ [⟨k.cells.drop off++(k2.cells.drop off2).take (n*sb.1),sb.1, .rw⟩])))))
 | _,_,_=>False
def vOp (G : List (Nat × Nat)) (P : Program) (M : Nat → Prop) (op : Op) (e : Env) (h : Heap) (K : Value → Heap → Prop) : Prop :=
  match op with
  | .move x => bindV (Opd.val e x) (hold fun v => K v h)
  | .assign x => bindV (Opd.val e x) (hold fun v => K v h)
  | .pick c x y => onBool (Opd.val e c) (hold fun b => bindV (pickV b (Opd.val e x) (Opd.val e y)) (hold fun v => K v h))
  | .alloc t => onSome (tz P t) (hold fun z => K (.pointer (some ⟨h.length, 0, none⟩)) (h ++ [⟨z, P.cellsOf t, .rw⟩]))
  | .box t x => bindV (Opd.val e x) (hold fun v => K (.pointer (some ⟨h.length, 0, none⟩)) (h ++ [⟨v.cells.toList, P.cellsOf t, .rw⟩]))
  | .load t x => onPtr (Opd.val e x) (hold fun (id off : Nat) => onSome (hget h id) (hold fun k => k.st ≠ .dead ∧ onSome (tload P t) (hold fun tl => onLoad tl (hold (onSome (k.cells[off]?) (hold fun v => K v h))) (hold fun n => off + n ≤ k.cells.length ∧ bindV (.agg ((k.cells.drop off).take n).toArray) (hold fun v => K v h)))))
  | .store t x y => onPtr (Opd.val e x) (hold fun (id off : Nat) => onSome (hget h id) (hold fun k => bindV (Opd.val e y) (hold fun v => k.st = .rw ∧ M id ∧ tsize P t = some v.cells.size ∧ off + v.cells.size ≤ k.cells.length ∧ v.cells.toList.all oneC = true ∧
          K undef (h.set id ⟨setRange k.cells off v.cells.toList, k.esz, .rw⟩))))
  | .fieldAddr s x f => onPtr (Opd.val e x) (hold fun (id off : Nat) => onSome (tfield P s f) (hold fun d => bindV (.pointer (some ⟨id, off + d.1, none⟩)) (hold fun v => K v h)))
  | .indexAddr t x y => onSeq (Opd.val e x)
      (hold fun (id off len : Nat) => onInt (Opd.val e y) (hold fun (_ : IntKind) (n : Int) => onSome (telem P t) (hold fun te => 0 ≤ n ∧ n < len ∧ bindV (.pointer (some ⟨id, off + n.toNat * te.1, none⟩)) (hold fun v => K v h))))
      (hold fun (id off : Nat) => onInt (Opd.val e y) (hold fun (_ : IntKind) (n : Int) => onSome (tarr P t) (hold fun te => 0 ≤ n ∧ n < te.1 ∧ bindV (.pointer (some ⟨id, off + n.toNat * te.2.1, none⟩)) (hold fun v => K v h))))
      (hold fun _ => False)
  | .nilCheck x => onPtr (Opd.val e x) (hold fun (id off : Nat) => K (.pointer (some ⟨id, off, none⟩)) h)
  | .binOp .eql t x y _ => onTwo (Opd.val e x) (Opd.val e y) (hold fun b c => P.underlying t = some .bool ∧ K (.bool (b == c)) h) (hold fun u v => onSome (hEql P t u v) (hold fun r => K r h))
  | .binOp .neq t x y _ => onTwo (Opd.val e x) (Opd.val e y) (hold fun b c => P.underlying t = some .bool ∧ K (.bool (b != c)) h) (hold fun u v => onSome (hNeq P t (isC y) u v) (hold fun r => K r h))
  | .binOp op _ x y _ => onTwo (Opd.val e x) (Opd.val e y) (hold fun _ _ => False) (hold fun u v => onSome (hBin op u v) (hold fun r => K r h))
  | .unOp op _ x => bindV (Opd.val e x) (hold fun v => onSome (hUn op v) (hold fun r => K r h))
  | .extract x i => onTuple (Opd.val e x) (hold fun vs => onSome (vs[i]?) (hold fun v => K v h))
  | .build t ps => onPlaces (tplaces P t) (hold fun pl => onSome (tz P t) (hold fun z => onSome (hFill (pl[·]?) z (ps.toList.map fun (i, x) => (i, Opd.val e x))) (hold fun out => bindV (.agg out.toArray) (hold fun v => K v h))))
      (hold (onSome (tarr P t) (hold fun te => onSome (tz P t) (hold fun z => onSome (hFill (fun i => some (i * te.2.1, te.2.1)) z (ps.toList.map fun (i, x) => (i, Opd.val e x))) (hold fun out => bindV (.agg out.toArray) (hold fun v => K v h))))))
  | .buildSlice t len ps => onSome (telem P t) (hold fun te => onSome (tz P te.2) (hold fun z => z.length = te.1 ∧ len * te.1 ≤ 2 ^ 24 ∧
      onSome (hFill (fun i => some (i * te.1, te.1)) ((List.range (len * te.1)).map fun i => z.getD (i % z.length) undef) (ps.toList.map fun (i, x) => (i, Opd.val e x))) (hold fun out =>
        out.length = len * te.1 ∧ K (.slice (some ⟨h.length, 0, none⟩) len 0) (h ++ [⟨out, te.1, .rw⟩]))))
  | .makeFunc fn first captured => bindV (.func fn (first.map (Opd.val e)) (captured.map (Opd.val e))) (hold fun v => K v h)
  | .makeSlice t x y => onInt (Opd.val e x) (hold fun (_ : IntKind) (n : Int) => onSome (telem P t) (hold fun te => onSome (tz P te.2) (hold fun z => onSome (tbytes P te.2) (hold fun (bt : Nat) => y = x ∧ z.length = te.1 ∧ 0 < te.1 ∧ 0 ≤ n ∧ n ≤ 9223372036854775807 ∧ (bt : Int) * n ≤ 281474976710656 ∧
            K (.slice (some ⟨h.length, 0, none⟩) n.toNat 0) (h ++ [⟨(List.range (n.toNat * te.1)).map fun i => z.getD (i % z.length) undef, te.1, .rw⟩])))))
  | .index t x y => onArr (Opd.val e x) (hold fun cs => onInt (Opd.val e y) (hold fun (_ : IntKind) (n : Int) => onSome (tarr P t) (hold fun te => te.2.1 = 1 ∧ tload P te.2.2 = some none ∧ 0 ≤ n ∧ n < te.1 ∧ onSome (cs[n.toNat]?) (hold fun v => K v h))))
      (hold (onSeq (Opd.val e x) (hold fun _ _ _ => False) (hold fun _ _ => False) (hold fun (s : ByteArray) => onInt (Opd.val e y) (hold fun (_ : IntKind) (n : Int) => P.underlying t = some .string ∧ 0 ≤ n ∧ onSome (s[n.toNat]?) (hold fun b => bindV (.int .u8 b.toNat) (hold fun v => K v h))))))
  | .convert s d x => onCv (Opd.val e x) (hold fun (_ : IntKind) (n : Int) => (P.underlying s).isSome = true ∧ onSome (P.underlying d) (hold fun td => onKind td (hold fun k' => K (.int k' (k'.wrap n)) h)))
      (hold fun str => M h.length ∧ P.underlying s = some .string ∧ onSome (telem P d) (hold fun te => P.underlying te.2 = some (.int .u8) ∧ K (.slice (some ⟨h.length, 0, none⟩) str.size 0) (h ++ [⟨bytesV str, 1, .rw⟩])))
      (hold (M h.length ∧ P.underlying d = some .string ∧ onSome (telem P s) (hold fun te => P.underlying te.2 = some (.int .u8) ∧ K (.string ⟨#[]⟩) h)))
      (hold fun (id off len : Nat) => M h.length ∧ P.underlying d = some .string ∧ onSome (telem P s) (hold fun te => P.underlying te.2 = some (.int .u8) ∧ onSome (hget h id) (hold fun k => k.st ≠ .dead ∧ off + len ≤ k.cells.length ∧ onSome (strOfV ((k.cells.drop off).take len)) (hold fun str => K (.string str) h))))
  | .slice t x lo hi none => onSl (Opd.val e x)
      (hold fun (oa : Option Addr) => (telem P t).isSome = true ∧ onSome (bnd e hi 0) (hold fun m => onSome (bnd e lo 0) (hold fun l => m = 0 ∧ l = 0 ∧ bindV (.slice oa 0 0) (hold fun v => K v h))))
      (hold fun (id off len : Nat) => onSome (telem P t) (hold fun te => onSome (hget h id) (hold fun k => onSome (bnd e hi len) (hold fun m => onSome (bnd e lo 0) (hold fun l => k.esz = te.1 ∧ m ≤ len ∧ l ≤ m ∧ bindV (.slice (some ⟨id, off + l * te.1, none⟩) (m - l) 0) (hold fun v => K v h))))))
      (hold fun (s : ByteArray) => onSome (bnd e hi s.size) (hold fun m => onSome (bnd e lo 0) (hold fun l => P.underlying t = some .string ∧ m ≤ s.size ∧ l ≤ m ∧ bindV (.string (s.extract l m)) (hold fun v => K v h))))
  | .call c => match c.callee with
    | .value f => onFunc (Opd.val e f) (hold fun fid first captured => callable P fid = true ∧ vCall G P M fid (first.toList ++ (c.args.toList.map (Opd.val e)) ++ captured.toList) h K)
    | .builtin b => vBuiltin P M b c.args.toList c.argTypes.toList e h K
    | _ => False
  | _ => False
section
variable {G:List (Nat×Nat)} {P:Program} {M:Nat->Prop} {e:Env} {h:Heap} {o:Oper} {K:Value->Heap->Prop}
theorem vBuiltin_sound{b:Builtin}{args:Array Operand}{ats:Array TypeId}{dst:Option Tmp}{ty:TypeId}{pos:String}{after:Array Edge}{guard:Option (Nat×Bool)}(hv:vBuiltin P M b args.toList ats.toList e h K) :
  ∃v h',HStep G P {dst:=dst,op := .call {callee := .builtin b,args:=args,argTypes:=ats},type:=ty,pos:=pos,after:=after,guard:=guard} allT M e h v h'∧K v h':=by
 obtain⟨args⟩:=args
 obtain⟨ats⟩:=ats
 simp only at hv
 unfold vBuiltin at hv
 split at hv
 ·unfold onLen at hv
  split at hv
  ·rename_i hx;exact⟨_,_, .lenSlice rfl hx hv.1,hv.2⟩
  ·rename_i hx;exact⟨_,_, .lenString rfl hx hv.1,hv.2⟩
  ·exact hv.elim
 ·unfold onInt at hv
  split at hv
  ·rename_i hx
   split at hv
   ·rename_i hy
    obtain⟨rfl,hv⟩:=hv
    exact⟨_,_, .max2 (t:=0) rfl hx hy rfl,hv⟩
   ·exact hv.elim
  ·exact hv.elim
 ·unfold onInt at hv
  split at hv
  ·rename_i hx
   split at hv
   ·rename_i hy
    split at hv
    ·rename_i hz
     obtain⟨rfl,rfl,hv⟩:=hv
     exact⟨_,_, .max3 rfl hx hy hz,hv⟩
    ·exact hv.elim
   ·exact hv.elim
  ·exact hv.elim
 ·unfold onInt at hv
  split at hv
  ·rename_i hx
   split at hv
   ·rename_i hy
    obtain⟨rfl,hv⟩:=hv
    exact⟨_,_, .min2 (t:=0) rfl hx hy rfl,hv⟩
   ·exact hv.elim
  ·exact hv.elim
 ·unfold onApp at hv
  split at hv
  ·rename_i hs hx
   obtain⟨sb,hsb⟩:=Option.isSome_iff_exists.1 hv.1
   have h3:=hv.2.2
   rw[hs] at h3
   exact⟨_,_, .append0 rfl hs hx hsb hv.2.1,h3⟩
  ·rename_i hs hx
   unfold onSome at hv
   split at hv
   ·rename_i sb ht
    split at hv
    ·rename_i hk
     obtain⟨rfl,h1,h2,h3,h4,h5,h6⟩:=hv
     exact⟨_,_, .appendNil (sz:=sb.1) (by8:=sb.2) rfl hs hx ht h1 trivial hk h2 h3 h4 h5,h6⟩
    ·exact hv.elim
   ·exact hv.elim
  ·rename_i hs hx
   unfold onSome at hv
   split at hv
   ·rename_i sb ht
    split at hv
    ·rename_i hk
     split at hv
     ·rename_i hk2
      obtain⟨rfl,h1,h2,h3,h4,h5,h6,h7,h8,h9,h10,h11⟩:=hv
      exact⟨_,_, .append (sz:=sb.1) (by8:=sb.2) rfl hs hx ht h1 trivial h2 hk h3 h4 h5 trivial hk2 h6 h7 h8 h9 h10,h11⟩
     ·exact hv.elim
    ·exact hv.elim
   ·exact hv.elim
  ·exact hv.elim
 ·exact hv.elim
theorem onSome.elim{α:Type}{o:Option α}{K:α->Prop}{b:Hold K}(hv:onSome o b): ∃a,o=some a∧K a:=by
 unfold onSome at hv
 split at hv
 ·exact⟨_,rfl,hv⟩
 ·exact hv.elim
theorem onPtr.elim{v:Value}{K:Nat->Nat->Prop}{b:Hold K}(hv:onPtr v b): ∃id off,v = .pointer (some ⟨id,off,none⟩)∧K id off:=by
 unfold onPtr at hv
 split at hv
 ·exact⟨_,_,rfl,hv⟩
 ·exact hv.elim
theorem onInt.elim{v:Value}{K:IntKind->Int->Prop}{b:Hold K}(hv:onInt v b): ∃k n,v = .int k n∧K k n:=by
 unfold onInt at hv
 split at hv
 ·exact⟨_,_,rfl,hv⟩
 ·exact hv.elim
theorem onBool.elim{v:Value}{K:Bool->Prop}{b:Hold K}(hv:onBool v b): ∃b,v = .bool b∧K b:=by
 unfold onBool at hv
 split at hv
 ·exact⟨_,rfl,hv⟩
 ·exact hv.elim
theorem onTuple.elim{v:Value}{K:Array Value->Prop}{b:Hold K}(hv:onTuple v b): ∃b,v = .tuple b∧K b:=by
 unfold onTuple at hv
 split at hv
 ·exact⟨_,rfl,hv⟩
 ·exact hv.elim
theorem onFunc.elim{v:Value}{K:FuncId->Array Value->Array Value->Prop}{b:Hold K}(hv:onFunc v b): ∃f a b,v = .func (.func f) a b∧K f a b:=by
 unfold onFunc at hv
 split at hv
 ·exact⟨_,_,_,rfl,hv⟩
 ·exact hv.elim
theorem vOp_sound(hv:vOp G P M o.op e h K): ∃v h',HStep G P o allT M e h v h'∧K v h':=by
 obtain⟨dst,op,ty,pos,after,guard⟩:=o
 simp only at hv
 unfold vOp at hv
 split at hv
 ·exact⟨_,_, .move rfl,hv⟩
 ·exact⟨_,_, .assign rfl,hv⟩
 ·obtain⟨b,hc,hv⟩:=hv.elim
  exact⟨_,_, .pick rfl hc,hv⟩
 ·obtain⟨z,hz,hv⟩:=hv.elim
  obtain⟨hz,hzp⟩:=tz_spec hz
  exact⟨_,_, .alloc rfl hz hzp,hv⟩
 ·exact⟨_,_, .box rfl,hv⟩
 ·obtain⟨id,off,hx,hv⟩:=hv.elim
  obtain⟨k,hk,hd,hv⟩:=hv.elim
  obtain⟨tl,ht,hv⟩:=hv.elim
  unfold onLoad at hv
  split at hv
  ·obtain⟨v,hvv,hv⟩:=hv.elim
   exact⟨_,_, .load1 rfl hx ht hk hd hvv trivial,hv⟩
  ·exact⟨_,_, .loadN rfl hx ht hk hd hv.1 trivial,hv.2⟩
 ·obtain⟨id,off,hx,hv⟩:=hv.elim
  obtain⟨k,hk,hv⟩:=hv.elim
  obtain⟨h1,h2,h3,h4,h5,h6⟩:=hv
  exact⟨_,_, .store rfl hx hk h1 h3 h4 h5 trivial h2,h6⟩
 ·obtain⟨id,off,hx,hv⟩:=hv.elim
  obtain⟨d,hf,hv⟩:=hv.elim
  exact⟨_,_, .fieldAddr (d:=d.1) (ft:=d.2) rfl hx hf,hv⟩
 ·unfold onSeq at hv
  split at hv
  ·rename_i hx
   obtain⟨k,n,hy,hv⟩:=hv.elim
   obtain⟨te,ht,hv⟩:=hv.elim
   exact⟨_,_, .indexAddr (sz:=te.1) (el:=te.2) rfl hx hy ht hv.1 hv.2.1,hv.2.2⟩
  ·rename_i hx
   obtain⟨k,n,hy,hv⟩:=hv.elim
   obtain⟨te,ht,hv⟩:=hv.elim
   exact⟨_,_, .indexAddrArr (len:=te.1) (sz:=te.2.1) (el:=te.2.2) rfl hx hy ht hv.1 hv.2.1,hv.2.2⟩
  ·exact hv.elim
  ·exact hv.elim
 ·obtain⟨id,off,hx,hv⟩:=hv.elim
  exact⟨_,_, .nilCheck rfl hx,hv⟩
 ·unfold onTwo at hv
  split at hv
  ·rename_i hx hy
   exact⟨_,_, .boolEq rfl hx hy hv.1,hv.2⟩
  ·obtain⟨r,hr,hv⟩:=hv.elim
   exact⟨_,_, .hEql rfl hr,hv⟩
 ·unfold onTwo at hv
  split at hv
  ·rename_i hx hy
   exact⟨_,_, .boolNe rfl hx hy hv.1,hv.2⟩
  ·obtain⟨r,hr,hv⟩:=hv.elim
   exact⟨_,_, .hNeq rfl hr,hv⟩
 ·unfold onTwo at hv
  split at hv
  ·exact hv.elim
  ·obtain⟨r,hr,hv⟩:=hv.elim
   exact⟨_,_, .bin rfl hr,hv⟩
 ·unfold bindV at hv
  obtain⟨r,hr,hv⟩:=hv.elim
  exact⟨_,_, .un rfl hr,hv⟩
 ·obtain⟨vs,hx,hv⟩:=hv.elim
  obtain⟨v,hr,hv⟩:=hv.elim
  exact⟨_,_, .extract rfl hx hr,hv⟩
 ·unfold onPlaces at hv
  split at hv
  ·rename_i pl hpl
   obtain⟨z,hz,hv⟩:=hv.elim
   obtain⟨hz,hzp⟩:=tz_spec hz
   obtain⟨out,hf,hv⟩:=hv.elim
   exact⟨_,_, .build rfl hpl hz hzp (by simpa using hf),hv⟩
  ·obtain⟨te,hta,hv⟩:=hv.elim
   obtain⟨z,hz,hv⟩:=hv.elim
   obtain⟨hz,hzp⟩:=tz_spec hz
   obtain⟨out,hf,hv⟩:=hv.elim
   exact⟨_,_, .buildArr (len:=te.1) (sz:=te.2.1) (el:=te.2.2) rfl hta hz hzp (by simpa using hf),hv⟩
 ·obtain⟨te,ht,hv⟩:=hv.elim
  obtain⟨z,hz,h2,h3,hv⟩:=hv.elim
  obtain⟨hz,hzp⟩:=tz_spec hz
  obtain⟨out,hf,hv⟩:=hv.elim
  exact⟨_,_, .buildSlice (sz:=te.1) (el:=te.2) rfl ht hz hzp h2 h3 (by simpa using hf) hv.1,hv.2⟩
 ·exact⟨_,_, .makeFunc rfl,hv⟩
 ·obtain⟨k,n,hx,hv⟩:=hv.elim
  obtain⟨te,ht,hv⟩:=hv.elim
  obtain⟨z,hz,hv⟩:=hv.elim
  obtain⟨hz,hzp⟩:=tz_spec hz
  obtain⟨bt,hb,hv⟩:=hv.elim
  obtain⟨rfl,h2,h3,h4,h5,h6,h7⟩:=hv
  exact⟨_,_, .makeSlice (sz:=te.1) (el:=te.2) rfl hx ht hz hzp h2 h3 hb h4 h5 h6,h7⟩
 ·unfold onArr at hv
  split at hv
  ·rename_i hx
   obtain⟨k,n,hy,hv⟩:=hv.elim
   obtain⟨te,ht,hv⟩:=hv.elim
   obtain⟨h1,h2,h3,h4,hv⟩:=hv
   obtain⟨len,sz,el⟩:=te
   simp only at h1 h2 h4
   subst h1
   obtain⟨v,hv1,hv⟩:=hv.elim
   exact⟨_,_, .indexArr rfl hx hy ht h2 h3 h4 hv1,hv⟩
  ·unfold onSeq at hv
   split at hv
   ·exact hv.elim
   ·exact hv.elim
   ·rename_i hx
    obtain⟨k,n,hy,hv⟩:=hv.elim
    obtain⟨h1,h2,hv⟩:=hv
    obtain⟨b,hb,hv⟩:=hv.elim
    exact⟨_,_, .indexString rfl hx hy h1 h2 hb,hv⟩
   ·exact hv.elim
 ·unfold onCv at hv
  split at hv
  ·rename_i hx
   obtain⟨h1,hv⟩:=hv
   obtain⟨td,ht,hv⟩:=hv.elim
   unfold onKind at hv
   split at hv
   ·exact⟨_,_, .convInt rfl hx h1 ht,hv⟩
   ·exact hv.elim
  ·rename_i hx
   obtain⟨_,hs,hv⟩:=hv
   obtain⟨te,ht,he,hv⟩:=hv.elim
   exact⟨_,_, .convSB rfl hx hs ht he,hv⟩
  ·rename_i hx
   obtain⟨_,hd,hv⟩:=hv
   obtain⟨te,ht,he,hv⟩:=hv.elim
   exact⟨_,_, .convBS0 rfl hx ht he hd,hv⟩
  ·rename_i hx
   obtain⟨_,hd,hv⟩:=hv
   obtain⟨te,ht,he,hv⟩:=hv.elim
   obtain⟨k,hk,h1,h2,hv⟩:=hv.elim
   obtain⟨str,hs,hv⟩:=hv.elim
   exact⟨_,_, .convBS rfl hx ht he hd (Nat.succ_pos _) trivial hk h1 h2 hs,hv⟩
  ·exact hv.elim
 ·unfold onSl at hv
  split at hv
  ·rename_i hx
   obtain⟨te,ht⟩:=Option.isSome_iff_exists.1 hv.1
   obtain⟨m,hh,hv⟩:=hv.2.elim
   obtain⟨l,hl,hv⟩:=hv.elim
   obtain⟨rfl,rfl,hv⟩:=hv
   exact⟨_,_, .sliceNone (sz:=te.1) (el:=te.2) rfl hx ht hh hl,hv⟩
  ·rename_i hx
   obtain⟨te,ht,hv⟩:=hv.elim
   obtain⟨k,hk,hv⟩:=hv.elim
   obtain⟨m,hh,hv⟩:=hv.elim
   obtain⟨l,hl,hv⟩:=hv.elim
   exact⟨_,_, .sliceSlice (sz:=te.1) (el:=te.2) rfl hx ht hk hv.1 hh hl hv.2.1 hv.2.2.1,hv.2.2.2⟩
  ·rename_i hx
   obtain⟨m,hh,hv⟩:=hv.elim
   obtain⟨l,hl,hv⟩:=hv.elim
   exact⟨_,_, .sliceString rfl hx hv.1 hh hl hv.2.1 hv.2.2.1,hv.2.2.2⟩
  ·exact hv.elim
 ·rename_i c
  obtain⟨callee,args,ats⟩:=c
  simp only at hv
  split at hv
  ·obtain⟨fid,first,captured,hfv,hc,r,h',hr,hk⟩:=hv.elim
   exact⟨r,h', .call rfl hfv hc (by simpa using hr),hk⟩
  ·exact vBuiltin_sound hv
  ·exact hv.elim
 ·exact hv.elim
theorem vOp_reg(hr:reg o=true)(hv:vOp G P (fun _=>False) o.op e h K): ∃v,K v h∧∀(M:Nat->Prop) (h2:Heap),HStep G P o allT M e h2 v h2:=by
 obtain⟨dst,op,ty,pos,after,guard⟩:=o
 unfold reg regOp at hr
 simp only at hv hr
 unfold vOp at hv
 split at hv
 ·exact⟨_,hv,fun _ _ => .move rfl⟩
 ·exact⟨_,hv,fun _ _ => .assign rfl⟩
 ·obtain⟨b,hc,hv⟩:=hv.elim
  exact⟨_,hv,fun _ _ => .pick rfl hc⟩
 ·cases hr
 ·cases hr
 ·cases hr
 ·cases hr
 ·obtain⟨id,off,hx,hv⟩:=hv.elim
  obtain⟨d,hf,hv⟩:=hv.elim
  exact⟨_,hv,fun _ _ => .fieldAddr (d:=d.1) (ft:=d.2) rfl hx hf⟩
 ·unfold onSeq at hv
  split at hv
  ·rename_i hx
   obtain⟨k,n,hy,hv⟩:=hv.elim
   obtain⟨te,ht,hv⟩:=hv.elim
   exact⟨_,hv.2.2,fun _ _ => .indexAddr (sz:=te.1) (el:=te.2) rfl hx hy ht hv.1 hv.2.1⟩
  ·rename_i hx
   obtain⟨k,n,hy,hv⟩:=hv.elim
   obtain⟨te,ht,hv⟩:=hv.elim
   exact⟨_,hv.2.2,fun _ _ => .indexAddrArr (len:=te.1) (sz:=te.2.1) (el:=te.2.2) rfl hx hy ht hv.1 hv.2.1⟩
  ·exact hv.elim
  ·exact hv.elim
 ·obtain⟨id,off,hx,hv⟩:=hv.elim
  exact⟨_,hv,fun _ _ => .nilCheck rfl hx⟩
 ·unfold onTwo at hv
  split at hv
  ·rename_i hx hy
   exact⟨_,hv.2,fun _ _ => .boolEq rfl hx hy hv.1⟩
  ·obtain⟨r,hr,hv⟩:=hv.elim
   exact⟨_,hv,fun _ _ => .hEql rfl hr⟩
 ·unfold onTwo at hv
  split at hv
  ·rename_i hx hy
   exact⟨_,hv.2,fun _ _ => .boolNe rfl hx hy hv.1⟩
  ·obtain⟨r,hr,hv⟩:=hv.elim
   exact⟨_,hv,fun _ _ => .hNeq rfl hr⟩
 ·unfold onTwo at hv
  split at hv
  ·exact hv.elim
  ·obtain⟨r,hr,hv⟩:=hv.elim
   exact⟨_,hv,fun _ _ => .bin rfl hr⟩
 ·unfold bindV at hv
  obtain⟨r,hr,hv⟩:=hv.elim
  exact⟨_,hv,fun _ _ => .un rfl hr⟩
 ·obtain⟨vs,hx,hv⟩:=hv.elim
  obtain⟨v,hr,hv⟩:=hv.elim
  exact⟨_,hv,fun _ _ => .extract rfl hx hr⟩
 ·unfold onPlaces at hv
  split at hv
  ·rename_i pl hpl
   obtain⟨z,hz,hv⟩:=hv.elim
   obtain⟨hz,hzp⟩:=tz_spec hz
   obtain⟨out,hf,hv⟩:=hv.elim
   exact⟨_,hv,fun _ _ => .build rfl hpl hz hzp (by simpa using hf)⟩
  ·obtain⟨te,hta,hv⟩:=hv.elim
   obtain⟨z,hz,hv⟩:=hv.elim
   obtain⟨hz,hzp⟩:=tz_spec hz
   obtain⟨out,hf,hv⟩:=hv.elim
   exact⟨_,hv,fun _ _ => .buildArr (len:=te.1) (sz:=te.2.1) (el:=te.2.2) rfl hta hz hzp (by simpa using hf)⟩
 ·cases hr
 ·exact⟨_,hv,fun _ _ => .makeFunc rfl⟩
 ·cases hr
 ·unfold onArr at hv
  split at hv
  ·rename_i hx
   obtain⟨k,n,hy,hv⟩:=hv.elim
   obtain⟨te,ht,hv⟩:=hv.elim
   obtain⟨h1,h2,h3,h4,hv⟩:=hv
   obtain⟨len,sz,el⟩:=te
   simp only at h1 h2 h4
   subst h1
   obtain⟨v,hv1,hv⟩:=hv.elim
   exact⟨_,hv,fun _ _ => .indexArr rfl hx hy ht h2 h3 h4 hv1⟩
  ·unfold onSeq at hv
   split at hv
   ·exact hv.elim
   ·exact hv.elim
   ·rename_i hx
    obtain⟨k,n,hy,hv⟩:=hv.elim
    obtain⟨h1,h2,hv⟩:=hv
    obtain⟨b,hb,hv⟩:=hv.elim
    exact⟨_,hv,fun _ _ => .indexString rfl hx hy h1 h2 hb⟩
   ·exact hv.elim
 ·unfold onCv at hv
  split at hv
  ·rename_i hx
   obtain⟨h1,hv⟩:=hv
   obtain⟨td,ht,hv⟩:=hv.elim
   unfold onKind at hv
   split at hv
   ·exact⟨_,hv,fun _ _ => .convInt rfl hx h1 ht⟩
   ·exact hv.elim
  ·exact hv.1.elim
  ·exact hv.1.elim
  ·exact hv.1.elim
  ·exact hv.elim
 ·cases hr
 ·rename_i c
  obtain⟨callee,args,ats⟩:=c
  simp only at hv hr
  unfold lenC at hr
  split at hr
  ·obtain⟨args⟩:=args
   obtain⟨ats⟩:=ats
   simp only at hv
   unfold vBuiltin at hv
   split at hv
   ·unfold onLen at hv
    split at hv
    ·rename_i hx;exact⟨_,hv.2,fun _ _ => .lenSlice rfl hx hv.1⟩
    ·rename_i hx;exact⟨_,hv.2,fun _ _ => .lenString rfl hx hv.1⟩
    ·exact hv.elim
   all_goals first|exact hv.elim|contradiction
  ·cases hr
 ·exact hv.elim
end
end Go.HH
