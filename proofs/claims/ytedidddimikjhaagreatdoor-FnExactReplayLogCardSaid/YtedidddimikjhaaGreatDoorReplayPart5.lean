/- Texts of this claim, joined. No condition. -/
import Derived.Test.YtedidddimikjhaaGreatDoorProg
import Derived.Shelf.Spec.SlicesInsertGrow
import Derived.Test.YtedidddimikjhaaGreatDoorReplayPart4
import Derived.Test.YtedidddimikjhaaGreatDoorReplayPart1
import Derived.KernelRfl
set_option linter.unusedSimpArgs false
set_option linter.unusedVariables false
namespace Go.Proofs.YtedidddimikjhaaGreatDoor
open Go Go.Proofs Go.RowKit Go.Lib Go.HH
theorem run_copy_to {P:Program} (w:World) (dT sT ty elem:TypeId) (b o dLen dCap:Nat) (a:Addr) (sLen sCap:Nat) (cs:List Value) (sz:Nat) (cur:Array Value) (t:TypeId) (fz:Nat×Nat)
  (hu:P.underlying dT=some (.slice elem)) (hs:(P.info? elem).map (·.size)=some sz) (hn:cs.length=Nat.min sLen dLen*sz)
  (hsrc: ∀j v,cs[j]? = some v->w.cell? (a.add j)=some v) (hg:w.heap[b]? = some (.cells cur t fz)) (hfz: ∀j,j<cur.size->¬(fz.1<=j∧j<fz.2)) (hfit:o+cs.length<=cur.size) (h1: ∀v∈cs,oneC v=true) :
  (Builtin.copy_ #[dT,sT] ty #[.slice (some ⟨b,o,none⟩) dLen dCap, .slice (some a) sLen sCap]).run P w = .ok (goInt (Nat.min sLen dLen)) (w.setRow b (HH.setRange cur.toList o cs).toArray):=by
 have hl:=run_loadCells_list (P:=P) w a cs hsrc
 have hst:=HH.run_storeCells_free P b o t fz cs 0 cur w hg hfz (by simpa using hfit) h1
 rw [Nat.add_zero] at hst
 cases hq:P.info? elem with
 | none=>simp [hq] at hs
 | some i=>
  have hi:i.size=sz:=by simpa [hq] using hs
  simp [Builtin.copy_,run_underlying hu,Builtin.lenOf,Builtin.firstCells,sizeOf,typeInfo,hq,hi, ←hn,hl,hst]
set_option maxHeartbeats 4000000 in
set_option maxRecDepth 100000 in
theorem ins_growV (b off n c i vb voff vc:Nat) (cs vs:List Value) (w:World) (hi:i<n) (hnc:n<=c) (hroom:c<n+1) (hbig:(n+1)*32<=140737488355328)
  (hcl:cs.length=n*4) (hvl:vs.length=4) (hbw:b<w.heap.size) (hvw:vb<w.heap.size)
  (hcs: ∀j v,cs[j]? = some v->w.cell? ⟨b,off+j,none⟩=some v)
  (hvs: ∀j v,vs[j]? = some v->w.cell? ⟨vb,voff+j,none⟩=some v) (h1c: ∀v∈cs,oneC v=true) (h1v: ∀v∈vs,oneC v=true) :
  Calls Tryz.prog 139 #[.slice (some ⟨b,off,none⟩) n c, .int .i64 i, .slice (some ⟨vb,voff,none⟩) 1 vc] w fun e w'=> ∃(G:Nat) (C:Array Value) (el:TypeId),
   e = .returned (.slice (some ⟨w.heap.size,0,none⟩) (n+1) G)∧n+1<=G∧w'.heap=w.heap.push (.cells C el (0,0))∧C.size=G*4∧C.toList.take ((n+1)*4)=cs.take (i*4)++vs++cs.drop (i*4) ∧
    w'.os=w.os∧w'.tape=w.tape∧w'.output=w.output:=by
 obtain ⟨el,i0,z,ht,hi0,hz0,hzc,hpos,hsz,hby⟩:=tapp_spec tapp_41
 have hu41:Tryz.prog.underlying 41=some (.slice 110):=by kernel_rfl
 obtain rfl:el=110:=by rw [hu41] at ht;cases ht;rfl
 have hu3:Tryz.prog.underlying 3=some (.int .i64):=by kernel_rfl
 have hz2: ¬((i:Int)=(n:Int)):=by omega
 have hz3:(c:Int)<(n:Int)+1:=by omega
 have hs4:(Tryz.prog.info? 110).map (·.size)=some 4:=by rw [hi0];simp [hsz]
 have hkk:(n:Int)+1-(i:Int)=((n+1-i:Nat):Int):=by omega
 have hik:i+(n+1-i)=n+1:=by omega
 have htl:(cs.take (i*4)).length=i*4:=by rw [List.length_take];omega
 have hold:(Builtin.firstCells i0.size i (.slice (some ⟨b,off,none⟩) i c)).run Tryz.prog w.drew = .ok (cs.take (i*4)).toArray w.drew:=by
  refine run_firstCells_some w.drew i0.size i ⟨b,off,none⟩ i c (cs.take (i*4)) (by rw [htl,hsz]) (fun j v hj => ?_)
  rw [Addr.add_lit]
  rw [List.getElem?_take] at hj
  split at hj
  ·exact hcs j v hj
  ·cases hj
 obtain ⟨G,hG⟩: ∃G,G=grownCap w (n+1) c 110:=⟨_,rfl⟩
 obtain ⟨ROW,hROW⟩: ∃ROW:Array Value,ROW=(cs.take (i*4)).toArray++Builtin.zeroCells z.cells (n+1-i)++Builtin.zeroCells z.cells (G-(n+1)):=⟨_,rfl⟩
 have hrz: ∀ty,(Builtin.append_ #[41,3] ty #[.slice (some ⟨b,off,none⟩) i c, .int .i64 ((n:Int)+1-(i:Int))]).run Tryz.prog w =
   .ok (.slice (some ⟨w.heap.size,0,none⟩) (n+1) G) (w.drew.alloc (.cells ROW 110)):=fun ty=>by
  have h:=Lib.run_append_grow_zeros w 41 3 ty 110 i0 z .i64 .i64 ht hu3 hi0 hz0 (some ⟨b,off,none⟩) i c (cs.take (i*4)) hold (n+1-i) (by omega) hpos (by omega) (by omega) (by rw [hby];omega) (by rw [hby,hik];exact growslice_fits hroom hbig)
  rw [hik, ←hG, ←hROW] at h
  rw [hkk]
  exact h
 have hGn:n+1<=G:=by rw [hG];exact grownCap_ge w _ _ _
 have hG63:G<=9223372036854775807:=by
  have:=grownCap_le_maxLen w (n+1) c 110 (by unfold maxLen;omega)
  rw [←hG] at this
  unfold maxLen at this
  omega
 have hRs:ROW.size=G*4:=by
  rw [hROW,Array.size_append,Array.size_append,size_zeroCells,size_zeroCells,hzc,hsz,List.size_toArray,htl]
  omega
 have hRt:ROW.toList.take (i*4)=cs.take (i*4):=by
  rw [hROW]
  simp only [Array.toList_append,List.append_assoc]
  rw [List.take_append_of_le_length (by simp [htl]),List.take_of_length_le (by simp [htl])]
 have hdl:(cs.drop (i*4)).length=(n-i)*4:=by rw [List.length_drop,hcl];omega
 obtain ⟨R2,hR2⟩: ∃R2,R2=(HH.setRange ROW.toList (i*4) vs).toArray:=⟨_,rfl⟩
 obtain ⟨R3,hR3⟩: ∃R3,R3=(HH.setRange R2.toList ((i+1)*4) (cs.drop (i*4))).toArray:=⟨_,rfl⟩
 have hR2s:R2.size=G*4:=by rw [hR2,List.size_toArray,HH.setRange_length (by simp [hvl,hRs];omega)];simpa using hRs
 have hR3s:R3.size=G*4:=by rw [hR3,List.size_toArray,HH.setRange_length (by simp [hdl,hR2s];omega)];simpa using hR2s
 have hfin:R3.toList.take ((n+1)*4)=cs.take (i*4)++vs++cs.drop (i*4):=by
  have e2:R2.toList=cs.take (i*4)++vs++ROW.toList.drop (i*4+4):=by rw [hR2,HH.setRange,hRt,hvl]
  have l2:(cs.take (i*4)++vs).length=(i+1)*4:=by rw [List.length_append,htl,hvl];omega
  have e3:R3.toList=(cs.take (i*4)++vs)++cs.drop (i*4)++R2.toList.drop ((i+1)*4+(n-i)*4):=by
   have e4:R2.toList.take ((i+1)*4)=cs.take (i*4)++vs:=by rw [e2,List.take_left' l2]
   rw [hR3]
   show HH.setRange R2.toList ((i+1)*4) (cs.drop (i*4))=_
   rw [HH.setRange,e4,hdl]
  rw [e3,List.take_left' (by rw [List.length_append,l2,hdl];omega)]
 obtain ⟨W1,hW1⟩: ∃W1,W1=w.drew.alloc (.cells ROW 110):=⟨_,rfl⟩
 rw [←hW1] at hrz
 have hW1h:W1.heap=w.heap.push (.cells ROW 110 (0,0)):=by rw [hW1];rfl
 have hW1N:W1.heap[w.heap.size]? = some (.cells ROW 110 (0,0)):=by rw [hW1h];simp
 have hfz: ∀(R:Array Value),∀j,j<R.size->¬(((0,0):Nat×Nat).1<=j∧j<((0,0):Nat×Nat).2):=fun R j _=>by simp
 have cellEq: ∀(W:World) (x:Addr),(∀k,k<w.heap.size->W.heap[k]? = w.heap[k]?)->x.block<w.heap.size->W.cell? x=w.cell? x:=fun W x h1 h2=>by unfold World.cell?;rw [h1 _ h2]
 have hcpA: ∀(W:World),W.heap=W1.heap->∀ty dc,(Builtin.copy_ #[41,41] ty #[.slice (some ⟨w.heap.size,i*4,none⟩) (n+1-i) dc, .slice (some ⟨vb,voff,none⟩) 1 vc]).run Tryz.prog W = .ok (goInt ((Nat.min 1 (n+1-i):Nat):Int)) (W.setRow w.heap.size R2):=fun W hWh ty dc=>by
  rw [hR2]
  refine run_copy_to W _ _ ty 110 w.heap.size (i*4) (n+1-i) dc ⟨vb,voff,none⟩ 1 vc vs 4 ROW 110 (0,0) ht hs4 (by rw [hvl];simp only [Nat.min_def];split<;>omega) (fun j v hj => ?_) (by rw [hWh];exact hW1N) (hfz _) (by rw [hvl,hRs];omega) h1v
  rw [Addr.add_lit,cellEq W _ (fun k hk=>by rw [hWh,hW1h,Array.getElem?_push,if_neg (by omega)]) hvw]
  exact hvs j v hj
 have hcpB: ∀(W:World),W.heap=(W1.setRow w.heap.size R2).heap->∀ty dc sc,(Builtin.copy_ #[41,41] ty #[.slice (some ⟨w.heap.size,(i+1)*4,none⟩) (n-i) dc, .slice (some ⟨b,off+i*4,none⟩) (n-i) sc]).run Tryz.prog W = .ok (goInt ((Nat.min (n-i) (n-i):Nat):Int)) (W.setRow w.heap.size R3):=fun W hWh ty dc sc=>by
  rw [hR3]
  refine run_copy_to W _ _ ty 110 w.heap.size ((i+1)*4) (n-i) dc ⟨b,off+i*4,none⟩ (n-i) sc (cs.drop (i*4)) 4 R2 110 (0,0) ht hs4 (by rw [hdl];simp only [Nat.min_def];split<;>omega) (fun j v hj => ?_) (by rw [hWh];exact setRow_heap W1 w.heap.size ROW R2 110 (0,0) hW1N) (hfz _) (by rw [hdl,hR2s];omega) (fun v hv=>h1c v (List.mem_of_mem_drop hv))
  rw [Addr.add_lit,cellEq W _ (fun k hk=>by rw [hWh];simp [World.setRow,hW1h,Array.getElem?_modify,Array.getElem?_push];rw [if_neg (by omega),if_neg (by omega)]) hbw,Nat.add_assoc]
  exact hcs _ v (by rwa [List.getElem?_drop] at hj)
 have hw1:IntKind.i64.wrap ((i:Int)+1)=(i:Int)+1:=by rw [IntKind.wrap_i64];omega
 have hb1:(0:Int)<=(i:Int)+1:=by omega
 have hin:i<=n:=by omega
 have htn:((i:Int)+1).toNat=i+1:=by omega
 have hb3:(i:Int)<=(n:Int):=by omega
 have hGi: ¬(G=i):=by omega
 have hGim: ¬(G=i+1):=by omega
 have hci: ¬(c=i):=by omega
 have hbN:b≠w.heap.size:=by omega
 have hheap: ∀W:World,W.heap=(W1.setRow w.heap.size R2).heap->(W.setRow w.heap.size R3).heap=w.heap.push (.cells R3 110 (0,0)):=fun W hWh=>by
  refine Array.ext_getElem? fun k => ?_
  have h1:=setRow_heap W w.heap.size R2 R3 110 (0,0) (by rw [hWh];exact setRow_heap W1 w.heap.size ROW R2 110 (0,0) hW1N)
  by_cases hk:k=w.heap.size
  ·subst hk;rw [h1];simp
  ·simp only [World.setRow,hWh,hW1h,Array.getElem?_modify,Array.getElem?_push,if_neg hk,if_neg (Ne.symm hk)]
 clear hkk hik hold hG hR2 hR3 hROW hRt
 subst hW1
 have hE1:((w.alloc (.cells ROW 110)).drew).heap=(w.drew.alloc (.cells ROW 110)).heap:=rfl
 have hF1:(((w.alloc (.cells ROW 110)).drew.setRow w.heap.size R2).drew).heap=((w.drew.alloc (.cells ROW 110)).setRow w.heap.size R2).heap:=rfl
 have mixed:=mo
 go_enter Tryz.func139,Tryz.ntmps139
 go_wp2_with (first
  | (at_builtin;refine Lib.wpList_append_run _ rfl _ _ _ _ rfl _ _ rfl rfl _ _ (hrz _) ?_)
  | (at_builtin;refine wpList_copy_runI _ rfl _ _ 41 41 rfl _ _ rfl rfl (hcpA _ hE1 _ _) ?_)
  | (at_builtin;refine wpList_copy_runI _ rfl _ _ 41 41 rfl _ _ rfl rfl (hcpB _ hF1 _ _ _) ?_))
 go_region_law_o (refine step_copy_runI rfl _ _ 41 41 rfl (.slice (some ⟨w.heap.size,(i+1)*4,none⟩) (n-i) (G-(i+1))) (.slice (some ⟨b,off+i*4,none⟩) (n-i) (c-i)) (by simp [Act.eval,Act.put]) (by simp [Act.eval,Act.put]) (hcpB _ hF1 3 (G-(i+1)) (c-i)) ?_)
 go_wp2
 go_ret
 exact ⟨G,R3,110,rfl,hGn,hheap _ rfl,hR3s,hfin,rfl,rfl,rfl⟩
set_option maxHeartbeats 4000000 in
set_option maxRecDepth 100000 in
theorem ins_shiftV (b off n c i vb voff vc:Nat) (cs vs:List Value) (w:World) (cur:Array Value) (t:TypeId) (fz:Nat×Nat) (cv:Array Value) (tv:TypeId) (fv:Nat×Nat) (hi:i<n) (hroom:n+1<=c) (hn63:n<=1048576) (hvb:vb≠b)
  (hcl:cs.length=n*4) (hvl:vs.length=4) (hg:w.heap[b]? = some (.cells cur t fz)) (hfz: ∀j,j<cur.size->¬(fz.1<=j∧j<fz.2)) (hfit:off+(n+1)*4<=cur.size) (hcs:(cur.toList.drop off).take (n*4)=cs)
  (hgv:w.heap[vb]? = some (.cells cv tv fv)) (hfv: ∀j,j<=cv.size->¬(fv.1<=j∧j<fv.2)) (hvo:voff<=cv.size)
  (hvs: ∀j v,vs[j]? = some v->w.cell? ⟨vb,voff+j,none⟩=some v) (h1c: ∀v∈cs,oneC v=true) (h1v: ∀v∈vs,oneC v=true) :
  Calls Tryz.prog 139 #[.slice (some ⟨b,off,none⟩) n c, .int .i64 i, .slice (some ⟨vb,voff,none⟩) 1 vc] w fun e w'=> ∃(R:Array Value),
   e = .returned (.slice (some ⟨b,off,none⟩) (n+1) c)∧w'.heap[b]? = some (.cells R t fz)∧R.size=cur.size∧(∀k,k≠b->w'.heap[k]? = w.heap[k]?)∧w'.heap.size=w.heap.size∧(R.toList.drop off).take ((n+1)*4)=cs.take (i*4)++vs++cs.drop (i*4) ∧
    w'.os=w.os∧w'.tape=w.tape∧w'.output=w.output:=by
 obtain ⟨el,i0,z,ht,hi0,hz0,hzc,hpos,hsz,hby⟩:=tapp_spec tapp_41
 have hu41:Tryz.prog.underlying 41=some (.slice 110):=by kernel_rfl
 obtain rfl:el=110:=by rw [hu41] at ht;cases ht;rfl
 have hz2: ¬((i:Int)=(n:Int)):=by omega
 have hs4:(Tryz.prog.info? 110).map (·.size)=some 4:=by rw [hi0];simp [hsz]
 have hsz4: ∀w,(Go.sizeOf 110).run Tryz.prog w = .ok 4 w:=fun w=>by simp [sizeOf,typeInfo,hi0,hsz]
 have hdl:(cs.drop (i*4)).length=(n-i)*4:=by rw [List.length_drop,hcl];omega
 have htl:(cs.take (i*4)).length=i*4:=by rw [List.length_take];omega
 have hov: ∀lb cb,(callFunc 174 #[.slice (some ⟨vb,voff,none⟩) 1 vc, .slice (some ⟨b,off+(i+1)*4,none⟩) lb cb]).run Tryz.prog w = .ok (.value (.bool false)) w:=fun lb cb=>by
  rw [run_callFunc_extern Tryz.func174 (by kernel_rfl) (by kernel_rfl) (by kernel_rfl) (e:=Extern.SlicesOverlaps.overlaps #[41,41] #[4]) (by kernel_rfl),
   Lib.run_overlaps_apart w 41 4 110 hu41 4 hsz4 ⟨vb,voff,none⟩ ⟨b,off+(i+1)*4,none⟩ 1 vc lb cb hvb tv t cv.size cur.size (by unfold World.shape?;rw [hgv]) (by unfold World.shape?;rw [hg]) (by omega) ?_ ?_]
  ·rfl
  ·unfold World.frozen?;rw [hgv];have:=hfv voff hvo;simp;omega
  ·unfold World.frozen?;rw [hgv];have:=hfv cv.size (Nat.le_refl _);simp;omega
 obtain ⟨R1,hR1⟩: ∃R1,R1=(HH.setRange cur.toList (off+(i+1)*4) (cs.drop (i*4))).toArray:=⟨_,rfl⟩
 obtain ⟨R2,hR2⟩: ∃R2,R2=(HH.setRange R1.toList (off+i*4) vs).toArray:=⟨_,rfl⟩
 have hR1s:R1.size=cur.size:=by rw [hR1,List.size_toArray,HH.setRange_length (by simp [hdl];omega)];simp
 have hR2s:R2.size=cur.size:=by rw [hR2,List.size_toArray,HH.setRange_length (by simp [hvl,hR1s];omega)];simpa using hR1s
 have hcat: ∀j v,cs[j]? = some v->cur[off+j]? = some v:=fun j v hj=>by
  rw [←hcs,List.getElem?_take] at hj
  split at hj
  ·rw [List.getElem?_drop] at hj;simpa using hj
  ·cases hj
 have hfin:(R2.toList.drop off).take ((n+1)*4)=cs.take (i*4)++vs++cs.drop (i*4):=by
  have c1:cur.toList.length=cur.size:=by simp
  have e1:R1.toList=cur.toList.take (off+(i+1)*4)++cs.drop (i*4)++cur.toList.drop (off+(i+1)*4+(n-i)*4):=by
   rw [hR1]
   show HH.setRange cur.toList (off+(i+1)*4) (cs.drop (i*4))=_
   rw [HH.setRange,hdl]
  have l1:(cur.toList.take (off+(i+1)*4)).length=off+(i+1)*4:=by rw [List.length_take];omega
  have e2:R2.toList=R1.toList.take (off+i*4)++vs++R1.toList.drop (off+i*4+4):=by
   rw [hR2]
   show HH.setRange R1.toList (off+i*4) vs=_
   rw [HH.setRange,hvl]
  have e3:R1.toList.take (off+i*4)=cur.toList.take (off+i*4):=by
   rw [e1,List.append_assoc,List.take_append_of_le_length (by rw [l1];omega),List.take_take,Nat.min_eq_left (by omega)]
  have e4:R1.toList.drop (off+i*4+4)=cs.drop (i*4)++cur.toList.drop (off+(i+1)*4+(n-i)*4):=by
   rw [e1,List.append_assoc,show off+i*4+4=off+(i+1)*4 by omega,List.drop_left' l1]
  have l3:(cur.toList.take (off+i*4)).length=off+i*4:=by rw [List.length_take];omega
  have e5:(cur.toList.take (off+i*4)).drop off=cs.take (i*4):=by
   rw [←hcs,List.drop_take,List.take_take,Nat.min_eq_left (by omega)]
   congr 1;omega
  rw [e2,e3,e4,List.append_assoc,List.drop_append_of_le_length (by rw [l3];omega),e5, ←List.append_assoc vs, ←List.append_assoc, ←List.append_assoc]
  rw [List.take_left' (by rw [List.length_append,List.length_append,htl,hvl,hdl];omega)]
 have hdr:w.drew.heap=w.heap:=rfl
 have hcp1: ∀ty dc sc,(Builtin.copy_ #[41,41] ty #[.slice (some ⟨b,off+(i+1)*4,none⟩) (n-i) dc, .slice (some ⟨b,off+i*4,none⟩) (n+1-i) sc]).run Tryz.prog w.drew = .ok (goInt ((Nat.min (n+1-i) (n-i):Nat):Int)) (w.drew.setRow b R1):=fun ty dc sc=>by
  rw [hR1]
  refine run_copy_to w.drew _ _ ty 110 b (off+(i+1)*4) (n-i) dc ⟨b,off+i*4,none⟩ (n+1-i) sc (cs.drop (i*4)) 4 cur t fz hu41 hs4 (by rw [hdl];simp only [Nat.min_def];split<;>omega) (fun j v hj => ?_) hg hfz (by rw [hdl];omega) (fun v hv=>h1c v (List.mem_of_mem_drop hv))
  rw [List.getElem?_drop] at hj
  rw [Addr.add_lit,Nat.add_assoc]
  have:=hcat _ v hj
  unfold World.cell?
  rw [hdr]
  simp only [hg]
  simpa using this
 have hcp2: ∀(W:World),W.heap=(w.drew.setRow b R1).heap->∀ty dc,(Builtin.copy_ #[41,41] ty #[.slice (some ⟨b,off+i*4,none⟩) (n+1-i) dc, .slice (some ⟨vb,voff,none⟩) 1 vc]).run Tryz.prog W = .ok (goInt ((Nat.min 1 (n+1-i):Nat):Int)) (W.setRow b R2):=fun W hWh ty dc=>by
  rw [hR2]
  refine run_copy_to W _ _ ty 110 b (off+i*4) (n+1-i) dc ⟨vb,voff,none⟩ 1 vc vs 4 R1 t fz hu41 hs4 (by rw [hvl];simp only [Nat.min_def];split<;>omega) (fun j v hj => ?_) (by rw [hWh];exact setRow_heap w.drew b cur R1 t fz hg) (by rw [hR1s];exact hfz) (by rw [hvl,hR1s];omega) h1v
  have:=hvs j v hj
  rw [Addr.add_lit]
  unfold World.cell? at this ⊢
  rw [hWh]
  simpa [World.setRow,hdr,Array.getElem?_modify,Ne.symm hvb] using this
 have hw1:IntKind.i64.wrap ((i:Int)+1)=(i:Int)+1:=by rw [IntKind.wrap_i64];omega
 have hw2:IntKind.i64.wrap ((n:Int)+1)=(n:Int)+1:=by rw [IntKind.wrap_i64];omega
 have hb1:(0:Int)<=(i:Int)+1:=by omega
 have hin:i<=n:=by omega
 have htn:((i:Int)+1).toNat=i+1:=by omega
 have htn2:((n:Int)+1).toNat=n+1:=by omega
 have hb2: ¬(c=i+1):=by omega
 have hb3:(i:Int)<=(n:Int)+1:=by omega
 have hb4: ¬(c=i):=by omega
 have hb5: ¬(c<n+1):=by omega
 have hb6: ¬((c:Int)<(n:Int)+1):=by omega
 have hend: ∀W:World,W.heap=(w.drew.setRow b R1).heap->(W.setRow b R2).heap[b]? = some (.cells R2 t fz)∧(∀k,k≠b->(W.setRow b R2).heap[k]? = w.heap[k]?)∧(W.setRow b R2).heap.size=w.heap.size:=fun W hWh=>by
  refine ⟨setRow_heap W b R1 R2 t fz (by rw [hWh];exact setRow_heap w.drew b cur R1 t fz hg),fun k hk => ?_, ?_⟩
  ·simp [World.setRow,hWh,hdr,Array.getElem?_modify,Ne.symm hk]
  ·simp [World.setRow,hWh,hdr]
 clear hR2 hR1 hcat
 have mixed:=mo
 have hF1:(w.drew.setRow b R1).heap=(w.drew.setRow b R1).heap:=rfl
 go_enter Tryz.func139,Tryz.ntmps139
 go_wp2_with (simp only [hov])
 go_region_law_o (refine step_copy_runI rfl _ _ 41 41 rfl (.slice (some ⟨b,off+(i+1)*4,none⟩) (n-i) (c-(i+1))) (.slice (some ⟨b,off+i*4,none⟩) (n+1-i) (c-i)) (by simp [Act.eval,Act.put]) (by simp [Act.eval,Act.put]) (hcp1 3 (c-(i+1)) (c-i)) ?_)
 go_wp2_with (at_builtin;refine wpList_copy_runI _ rfl _ _ 41 41 rfl _ _ rfl rfl (hcp2 _ hF1 _ _) ?_)
 go_ret
 exact ⟨R2,rfl,(hend _ rfl).1,hR2s,(hend _ rfl).2.1,(hend _ rfl).2.2,hfin,rfl,rfl,rfl⟩
set_option maxHeartbeats 4000000 in
set_option maxRecDepth 100000 in
theorem ins_growP (b off n c i vb voff vc:Nat) (cs vs:List Value) (w:World) (hi:i<n) (hnc:n<=c) (hroom:c<n+1) (hbig:(n+1)*32<=140737488355328)
  (hcl:cs.length=n*4) (hvl:vs.length=4) (hbw:b<w.heap.size) (hvw:vb<w.heap.size)
  (hcs: ∀j v,cs[j]? = some v->w.cell? ⟨b,off+j,none⟩=some v)
  (hvs: ∀j v,vs[j]? = some v->w.cell? ⟨vb,voff+j,none⟩=some v) (h1c: ∀v∈cs,oneC v=true) (h1v: ∀v∈vs,oneC v=true) :
  Calls Tryz.prog 173 #[.slice (some ⟨b,off,none⟩) n c, .int .i64 i, .slice (some ⟨vb,voff,none⟩) 1 vc] w fun e w'=> ∃(G:Nat) (C:Array Value) (el:TypeId),
   e = .returned (.slice (some ⟨w.heap.size,0,none⟩) (n+1) G)∧n+1<=G∧w'.heap=w.heap.push (.cells C el (0,0))∧C.size=G*4∧C.toList.take ((n+1)*4)=cs.take (i*4)++vs++cs.drop (i*4) ∧
    w'.os=w.os∧w'.tape=w.tape∧w'.output=w.output:=by
 obtain ⟨el,i0,z,ht,hi0,hz0,hzc,hpos,hsz,hby⟩:=tapp_spec tapp_31
 have hu41:Tryz.prog.underlying 31=some (.slice 119):=by kernel_rfl
 obtain rfl:el=119:=by rw [hu41] at ht;cases ht;rfl
 have hu3:Tryz.prog.underlying 3=some (.int .i64):=by kernel_rfl
 have hz2: ¬((i:Int)=(n:Int)):=by omega
 have hz3:(c:Int)<(n:Int)+1:=by omega
 have hs4:(Tryz.prog.info? 119).map (·.size)=some 4:=by rw [hi0];simp [hsz]
 have hkk:(n:Int)+1-(i:Int)=((n+1-i:Nat):Int):=by omega
 have hik:i+(n+1-i)=n+1:=by omega
 have htl:(cs.take (i*4)).length=i*4:=by rw [List.length_take];omega
 have hold:(Builtin.firstCells i0.size i (.slice (some ⟨b,off,none⟩) i c)).run Tryz.prog w.drew = .ok (cs.take (i*4)).toArray w.drew:=by
  refine run_firstCells_some w.drew i0.size i ⟨b,off,none⟩ i c (cs.take (i*4)) (by rw [htl,hsz]) (fun j v hj => ?_)
  rw [Addr.add_lit]
  rw [List.getElem?_take] at hj
  split at hj
  ·exact hcs j v hj
  ·cases hj
 obtain ⟨G,hG⟩: ∃G,G=grownCap w (n+1) c 119:=⟨_,rfl⟩
 obtain ⟨ROW,hROW⟩: ∃ROW:Array Value,ROW=(cs.take (i*4)).toArray++Builtin.zeroCells z.cells (n+1-i)++Builtin.zeroCells z.cells (G-(n+1)):=⟨_,rfl⟩
 have hrz: ∀ty,(Builtin.append_ #[31,3] ty #[.slice (some ⟨b,off,none⟩) i c, .int .i64 ((n:Int)+1-(i:Int))]).run Tryz.prog w =
   .ok (.slice (some ⟨w.heap.size,0,none⟩) (n+1) G) (w.drew.alloc (.cells ROW 119)):=fun ty=>by
  have h:=Lib.run_append_grow_zeros w 31 3 ty 119 i0 z .i64 .i64 ht hu3 hi0 hz0 (some ⟨b,off,none⟩) i c (cs.take (i*4)) hold (n+1-i) (by omega) hpos (by omega) (by omega) (by rw [hby];omega) (by rw [hby,hik];exact growslice_fits hroom hbig)
  rw [hik, ←hG, ←hROW] at h
  rw [hkk]
  exact h
 have hGn:n+1<=G:=by rw [hG];exact grownCap_ge w _ _ _
 have hG63:G<=9223372036854775807:=by
  have:=grownCap_le_maxLen w (n+1) c 119 (by unfold maxLen;omega)
  rw [←hG] at this
  unfold maxLen at this
  omega
 have hRs:ROW.size=G*4:=by
  rw [hROW,Array.size_append,Array.size_append,size_zeroCells,size_zeroCells,hzc,hsz,List.size_toArray,htl]
  omega
 have hRt:ROW.toList.take (i*4)=cs.take (i*4):=by
  rw [hROW]
  simp only [Array.toList_append,List.append_assoc]
  rw [List.take_append_of_le_length (by simp [htl]),List.take_of_length_le (by simp [htl])]
 have hdl:(cs.drop (i*4)).length=(n-i)*4:=by rw [List.length_drop,hcl];omega
 obtain ⟨R2,hR2⟩: ∃R2,R2=(HH.setRange ROW.toList (i*4) vs).toArray:=⟨_,rfl⟩
 obtain ⟨R3,hR3⟩: ∃R3,R3=(HH.setRange R2.toList ((i+1)*4) (cs.drop (i*4))).toArray:=⟨_,rfl⟩
 have hR2s:R2.size=G*4:=by rw [hR2,List.size_toArray,HH.setRange_length (by simp [hvl,hRs];omega)];simpa using hRs
 have hR3s:R3.size=G*4:=by rw [hR3,List.size_toArray,HH.setRange_length (by simp [hdl,hR2s];omega)];simpa using hR2s
 have hfin:R3.toList.take ((n+1)*4)=cs.take (i*4)++vs++cs.drop (i*4):=by
  have e2:R2.toList=cs.take (i*4)++vs++ROW.toList.drop (i*4+4):=by rw [hR2,HH.setRange,hRt,hvl]
  have l2:(cs.take (i*4)++vs).length=(i+1)*4:=by rw [List.length_append,htl,hvl];omega
  have e3:R3.toList=(cs.take (i*4)++vs)++cs.drop (i*4)++R2.toList.drop ((i+1)*4+(n-i)*4):=by
   have e4:R2.toList.take ((i+1)*4)=cs.take (i*4)++vs:=by rw [e2,List.take_left' l2]
   rw [hR3]
   show HH.setRange R2.toList ((i+1)*4) (cs.drop (i*4))=_
   rw [HH.setRange,e4,hdl]
  rw [e3,List.take_left' (by rw [List.length_append,l2,hdl];omega)]
 obtain ⟨W1,hW1⟩: ∃W1,W1=w.drew.alloc (.cells ROW 119):=⟨_,rfl⟩
 rw [←hW1] at hrz
 have hW1h:W1.heap=w.heap.push (.cells ROW 119 (0,0)):=by rw [hW1];rfl
 have hW1N:W1.heap[w.heap.size]? = some (.cells ROW 119 (0,0)):=by rw [hW1h];simp
 have hfz: ∀(R:Array Value),∀j,j<R.size->¬(((0,0):Nat×Nat).1<=j∧j<((0,0):Nat×Nat).2):=fun R j _=>by simp
 have cellEq: ∀(W:World) (x:Addr),(∀k,k<w.heap.size->W.heap[k]? = w.heap[k]?)->x.block<w.heap.size->W.cell? x=w.cell? x:=fun W x h1 h2=>by unfold World.cell?;rw [h1 _ h2]
 have hcpA: ∀(W:World),W.heap=W1.heap->∀ty dc,(Builtin.copy_ #[31,31] ty #[.slice (some ⟨w.heap.size,i*4,none⟩) (n+1-i) dc, .slice (some ⟨vb,voff,none⟩) 1 vc]).run Tryz.prog W = .ok (goInt ((Nat.min 1 (n+1-i):Nat):Int)) (W.setRow w.heap.size R2):=fun W hWh ty dc=>by
  rw [hR2]
  refine run_copy_to W _ _ ty 119 w.heap.size (i*4) (n+1-i) dc ⟨vb,voff,none⟩ 1 vc vs 4 ROW 119 (0,0) ht hs4 (by rw [hvl];simp only [Nat.min_def];split<;>omega) (fun j v hj => ?_) (by rw [hWh];exact hW1N) (hfz _) (by rw [hvl,hRs];omega) h1v
  rw [Addr.add_lit,cellEq W _ (fun k hk=>by rw [hWh,hW1h,Array.getElem?_push,if_neg (by omega)]) hvw]
  exact hvs j v hj
 have hcpB: ∀(W:World),W.heap=(W1.setRow w.heap.size R2).heap->∀ty dc sc,(Builtin.copy_ #[31,31] ty #[.slice (some ⟨w.heap.size,(i+1)*4,none⟩) (n-i) dc, .slice (some ⟨b,off+i*4,none⟩) (n-i) sc]).run Tryz.prog W = .ok (goInt ((Nat.min (n-i) (n-i):Nat):Int)) (W.setRow w.heap.size R3):=fun W hWh ty dc sc=>by
  rw [hR3]
  refine run_copy_to W _ _ ty 119 w.heap.size ((i+1)*4) (n-i) dc ⟨b,off+i*4,none⟩ (n-i) sc (cs.drop (i*4)) 4 R2 119 (0,0) ht hs4 (by rw [hdl];simp only [Nat.min_def];split<;>omega) (fun j v hj => ?_) (by rw [hWh];exact setRow_heap W1 w.heap.size ROW R2 119 (0,0) hW1N) (hfz _) (by rw [hdl,hR2s];omega) (fun v hv=>h1c v (List.mem_of_mem_drop hv))
  rw [Addr.add_lit,cellEq W _ (fun k hk=>by rw [hWh];simp [World.setRow,hW1h,Array.getElem?_modify,Array.getElem?_push];rw [if_neg (by omega),if_neg (by omega)]) hbw,Nat.add_assoc]
  exact hcs _ v (by rwa [List.getElem?_drop] at hj)
 have hw1:IntKind.i64.wrap ((i:Int)+1)=(i:Int)+1:=by rw [IntKind.wrap_i64];omega
 have hb1:(0:Int)<=(i:Int)+1:=by omega
 have hin:i<=n:=by omega
 have htn:((i:Int)+1).toNat=i+1:=by omega
 have hb3:(i:Int)<=(n:Int):=by omega
 have hGi: ¬(G=i):=by omega
 have hGim: ¬(G=i+1):=by omega
 have hci: ¬(c=i):=by omega
 have hbN:b≠w.heap.size:=by omega
 have hheap: ∀W:World,W.heap=(W1.setRow w.heap.size R2).heap->(W.setRow w.heap.size R3).heap=w.heap.push (.cells R3 119 (0,0)):=fun W hWh=>by
  refine Array.ext_getElem? fun k => ?_
  have h1:=setRow_heap W w.heap.size R2 R3 119 (0,0) (by rw [hWh];exact setRow_heap W1 w.heap.size ROW R2 119 (0,0) hW1N)
  by_cases hk:k=w.heap.size
  ·subst hk;rw [h1];simp
  ·simp only [World.setRow,hWh,hW1h,Array.getElem?_modify,Array.getElem?_push,if_neg hk,if_neg (Ne.symm hk)]
 clear hkk hik hold hG hR2 hR3 hROW hRt
 subst hW1
 have hE1:((w.alloc (.cells ROW 119)).drew).heap=(w.drew.alloc (.cells ROW 119)).heap:=rfl
 have hF1:(((w.alloc (.cells ROW 119)).drew.setRow w.heap.size R2).drew).heap=((w.drew.alloc (.cells ROW 119)).setRow w.heap.size R2).heap:=rfl
 have mixed:=mo
 go_enter Tryz.func173,Tryz.ntmps173
 go_wp2_with (first
  | (at_builtin;refine Lib.wpList_append_run _ rfl _ _ _ _ rfl _ _ rfl rfl _ _ (hrz _) ?_)
  | (at_builtin;refine wpList_copy_runI _ rfl _ _ 31 31 rfl _ _ rfl rfl (hcpA _ hE1 _ _) ?_)
  | (at_builtin;refine wpList_copy_runI _ rfl _ _ 31 31 rfl _ _ rfl rfl (hcpB _ hF1 _ _ _) ?_))
 go_region_law_o (refine step_copy_runI rfl _ _ 31 31 rfl (.slice (some ⟨w.heap.size,(i+1)*4,none⟩) (n-i) (G-(i+1))) (.slice (some ⟨b,off+i*4,none⟩) (n-i) (c-i)) (by simp [Act.eval,Act.put]) (by simp [Act.eval,Act.put]) (hcpB _ hF1 3 (G-(i+1)) (c-i)) ?_)
 go_wp2
 go_ret
 exact ⟨G,R3,119,rfl,hGn,hheap _ rfl,hR3s,hfin,rfl,rfl,rfl⟩
set_option maxHeartbeats 4000000 in
set_option maxRecDepth 100000 in
theorem ins_shiftP (b off n c i vb voff vc:Nat) (cs vs:List Value) (w:World) (cur:Array Value) (t:TypeId) (fz:Nat×Nat) (cv:Array Value) (tv:TypeId) (fv:Nat×Nat) (hi:i<n) (hroom:n+1<=c) (hn63:n<=1048576) (hvb:vb≠b)
  (hcl:cs.length=n*4) (hvl:vs.length=4) (hg:w.heap[b]? = some (.cells cur t fz)) (hfz: ∀j,j<cur.size->¬(fz.1<=j∧j<fz.2)) (hfit:off+(n+1)*4<=cur.size) (hcs:(cur.toList.drop off).take (n*4)=cs)
  (hgv:w.heap[vb]? = some (.cells cv tv fv)) (hfv: ∀j,j<=cv.size->¬(fv.1<=j∧j<fv.2)) (hvo:voff<=cv.size)
  (hvs: ∀j v,vs[j]? = some v->w.cell? ⟨vb,voff+j,none⟩=some v) (h1c: ∀v∈cs,oneC v=true) (h1v: ∀v∈vs,oneC v=true) :
  Calls Tryz.prog 173 #[.slice (some ⟨b,off,none⟩) n c, .int .i64 i, .slice (some ⟨vb,voff,none⟩) 1 vc] w fun e w'=> ∃(R:Array Value),
   e = .returned (.slice (some ⟨b,off,none⟩) (n+1) c)∧w'.heap[b]? = some (.cells R t fz)∧R.size=cur.size∧(∀k,k≠b->w'.heap[k]? = w.heap[k]?)∧w'.heap.size=w.heap.size∧(R.toList.drop off).take ((n+1)*4)=cs.take (i*4)++vs++cs.drop (i*4) ∧
    w'.os=w.os∧w'.tape=w.tape∧w'.output=w.output:=by
 obtain ⟨el,i0,z,ht,hi0,hz0,hzc,hpos,hsz,hby⟩:=tapp_spec tapp_31
 have hu41:Tryz.prog.underlying 31=some (.slice 119):=by kernel_rfl
 obtain rfl:el=119:=by rw [hu41] at ht;cases ht;rfl
 have hz2: ¬((i:Int)=(n:Int)):=by omega
 have hs4:(Tryz.prog.info? 119).map (·.size)=some 4:=by rw [hi0];simp [hsz]
 have hsz4: ∀w,(Go.sizeOf 119).run Tryz.prog w = .ok 4 w:=fun w=>by simp [sizeOf,typeInfo,hi0,hsz]
 have hdl:(cs.drop (i*4)).length=(n-i)*4:=by rw [List.length_drop,hcl];omega
 have htl:(cs.take (i*4)).length=i*4:=by rw [List.length_take];omega
 have hov: ∀lb cb,(callFunc 220 #[.slice (some ⟨vb,voff,none⟩) 1 vc, .slice (some ⟨b,off+(i+1)*4,none⟩) lb cb]).run Tryz.prog w = .ok (.value (.bool false)) w:=fun lb cb=>by
  rw [run_callFunc_extern Tryz.func220 (by kernel_rfl) (by kernel_rfl) (by kernel_rfl) (e:=Extern.SlicesOverlaps.overlaps #[31,31] #[4]) (by kernel_rfl),
   Lib.run_overlaps_apart w 31 4 119 hu41 4 hsz4 ⟨vb,voff,none⟩ ⟨b,off+(i+1)*4,none⟩ 1 vc lb cb hvb tv t cv.size cur.size (by unfold World.shape?;rw [hgv]) (by unfold World.shape?;rw [hg]) (by omega) ?_ ?_]
  ·rfl
  ·unfold World.frozen?;rw [hgv];have:=hfv voff hvo;simp;omega
  ·unfold World.frozen?;rw [hgv];have:=hfv cv.size (Nat.le_refl _);simp;omega
 obtain ⟨R1,hR1⟩: ∃R1,R1=(HH.setRange cur.toList (off+(i+1)*4) (cs.drop (i*4))).toArray:=⟨_,rfl⟩
 obtain ⟨R2,hR2⟩: ∃R2,R2=(HH.setRange R1.toList (off+i*4) vs).toArray:=⟨_,rfl⟩
 have hR1s:R1.size=cur.size:=by rw [hR1,List.size_toArray,HH.setRange_length (by simp [hdl];omega)];simp
 have hR2s:R2.size=cur.size:=by rw [hR2,List.size_toArray,HH.setRange_length (by simp [hvl,hR1s];omega)];simpa using hR1s
 have hcat: ∀j v,cs[j]? = some v->cur[off+j]? = some v:=fun j v hj=>by
  rw [←hcs,List.getElem?_take] at hj
  split at hj
  ·rw [List.getElem?_drop] at hj;simpa using hj
  ·cases hj
 have hfin:(R2.toList.drop off).take ((n+1)*4)=cs.take (i*4)++vs++cs.drop (i*4):=by
  have c1:cur.toList.length=cur.size:=by simp
  have e1:R1.toList=cur.toList.take (off+(i+1)*4)++cs.drop (i*4)++cur.toList.drop (off+(i+1)*4+(n-i)*4):=by
   rw [hR1]
   show HH.setRange cur.toList (off+(i+1)*4) (cs.drop (i*4))=_
   rw [HH.setRange,hdl]
  have l1:(cur.toList.take (off+(i+1)*4)).length=off+(i+1)*4:=by rw [List.length_take];omega
  have e2:R2.toList=R1.toList.take (off+i*4)++vs++R1.toList.drop (off+i*4+4):=by
   rw [hR2]
   show HH.setRange R1.toList (off+i*4) vs=_
   rw [HH.setRange,hvl]
  have e3:R1.toList.take (off+i*4)=cur.toList.take (off+i*4):=by
   rw [e1,List.append_assoc,List.take_append_of_le_length (by rw [l1];omega),List.take_take,Nat.min_eq_left (by omega)]
  have e4:R1.toList.drop (off+i*4+4)=cs.drop (i*4)++cur.toList.drop (off+(i+1)*4+(n-i)*4):=by
   rw [e1,List.append_assoc,show off+i*4+4=off+(i+1)*4 by omega,List.drop_left' l1]
  have l3:(cur.toList.take (off+i*4)).length=off+i*4:=by rw [List.length_take];omega
  have e5:(cur.toList.take (off+i*4)).drop off=cs.take (i*4):=by
   rw [←hcs,List.drop_take,List.take_take,Nat.min_eq_left (by omega)]
   congr 1;omega
  rw [e2,e3,e4,List.append_assoc,List.drop_append_of_le_length (by rw [l3];omega),e5, ←List.append_assoc vs, ←List.append_assoc, ←List.append_assoc]
  rw [List.take_left' (by rw [List.length_append,List.length_append,htl,hvl,hdl];omega)]
 have hdr:w.drew.heap=w.heap:=rfl
 have hcp1: ∀ty dc sc,(Builtin.copy_ #[31,31] ty #[.slice (some ⟨b,off+(i+1)*4,none⟩) (n-i) dc, .slice (some ⟨b,off+i*4,none⟩) (n+1-i) sc]).run Tryz.prog w.drew = .ok (goInt ((Nat.min (n+1-i) (n-i):Nat):Int)) (w.drew.setRow b R1):=fun ty dc sc=>by
  rw [hR1]
  refine run_copy_to w.drew _ _ ty 119 b (off+(i+1)*4) (n-i) dc ⟨b,off+i*4,none⟩ (n+1-i) sc (cs.drop (i*4)) 4 cur t fz hu41 hs4 (by rw [hdl];simp only [Nat.min_def];split<;>omega) (fun j v hj => ?_) hg hfz (by rw [hdl];omega) (fun v hv=>h1c v (List.mem_of_mem_drop hv))
  rw [List.getElem?_drop] at hj
  rw [Addr.add_lit,Nat.add_assoc]
  have:=hcat _ v hj
  unfold World.cell?
  rw [hdr]
  simp only [hg]
  simpa using this
 have hcp2: ∀(W:World),W.heap=(w.drew.setRow b R1).heap->∀ty dc,(Builtin.copy_ #[31,31] ty #[.slice (some ⟨b,off+i*4,none⟩) (n+1-i) dc, .slice (some ⟨vb,voff,none⟩) 1 vc]).run Tryz.prog W = .ok (goInt ((Nat.min 1 (n+1-i):Nat):Int)) (W.setRow b R2):=fun W hWh ty dc=>by
  rw [hR2]
  refine run_copy_to W _ _ ty 119 b (off+i*4) (n+1-i) dc ⟨vb,voff,none⟩ 1 vc vs 4 R1 t fz hu41 hs4 (by rw [hvl];simp only [Nat.min_def];split<;>omega) (fun j v hj => ?_) (by rw [hWh];exact setRow_heap w.drew b cur R1 t fz hg) (by rw [hR1s];exact hfz) (by rw [hvl,hR1s];omega) h1v
  have:=hvs j v hj
  rw [Addr.add_lit]
  unfold World.cell? at this ⊢
  rw [hWh]
  simpa [World.setRow,hdr,Array.getElem?_modify,Ne.symm hvb] using this
 have hw1:IntKind.i64.wrap ((i:Int)+1)=(i:Int)+1:=by rw [IntKind.wrap_i64];omega
 have hw2:IntKind.i64.wrap ((n:Int)+1)=(n:Int)+1:=by rw [IntKind.wrap_i64];omega
 have hb1:(0:Int)<=(i:Int)+1:=by omega
 have hin:i<=n:=by omega
 have htn:((i:Int)+1).toNat=i+1:=by omega
 have htn2:((n:Int)+1).toNat=n+1:=by omega
 have hb2: ¬(c=i+1):=by omega
 have hb3:(i:Int)<=(n:Int)+1:=by omega
 have hb4: ¬(c=i):=by omega
 have hb5: ¬(c<n+1):=by omega
 have hb6: ¬((c:Int)<(n:Int)+1):=by omega
 have hend: ∀W:World,W.heap=(w.drew.setRow b R1).heap->(W.setRow b R2).heap[b]? = some (.cells R2 t fz)∧(∀k,k≠b->(W.setRow b R2).heap[k]? = w.heap[k]?)∧(W.setRow b R2).heap.size=w.heap.size:=fun W hWh=>by
  refine ⟨setRow_heap W b R1 R2 t fz (by rw [hWh];exact setRow_heap w.drew b cur R1 t fz hg),fun k hk => ?_, ?_⟩
  ·simp [World.setRow,hWh,hdr,Array.getElem?_modify,Ne.symm hk]
  ·simp [World.setRow,hWh,hdr]
 clear hR2 hR1 hcat
 have mixed:=mo
 have hF1:(w.drew.setRow b R1).heap=(w.drew.setRow b R1).heap:=rfl
 go_enter Tryz.func173,Tryz.ntmps173
 go_wp2_with (simp only [hov])
 go_region_law_o (refine step_copy_runI rfl _ _ 31 31 rfl (.slice (some ⟨b,off+(i+1)*4,none⟩) (n-i) (c-(i+1))) (.slice (some ⟨b,off+i*4,none⟩) (n+1-i) (c-i)) (by simp [Act.eval,Act.put]) (by simp [Act.eval,Act.put]) (hcp1 3 (c-(i+1)) (c-i)) ?_)
 go_wp2_with (at_builtin;refine wpList_copy_runI _ rfl _ _ 31 31 rfl _ _ rfl rfl (hcp2 _ hF1 _ _) ?_)
 go_ret
 exact ⟨R2,rfl,(hend _ rfl).1,hR2s,(hend _ rfl).2.1,(hend _ rfl).2.2,hfin,rfl,rfl,rfl⟩
set_option maxHeartbeats 4000000 in
set_option maxRecDepth 100000 in
theorem ins_oneV (a:Addr) (vb voff vc:Nat) (vs:List Value) (w:World) (hvl:vs.length=4) (hvs: ∀j v,vs[j]? = some v->w.cell? ⟨vb,voff+j,none⟩=some v) :
  Calls Tryz.prog 139 #[.slice (some a) 0 0, .int .i64 0, .slice (some ⟨vb,voff,none⟩) 1 vc] w fun e w'=> ∃(G:Nat) (C:Array Value) (el:TypeId),
   e = .returned (.slice (some ⟨w.heap.size,0,none⟩) 1 G)∧1<=G∧w'.heap=w.heap.push (.cells C el (0,0))∧C.size=G*4∧C.toList.take 4=vs∧w'.os=w.os∧w'.tape=w.tape∧w'.output=w.output:=by
 obtain ⟨el,i0,z,ht,hi0,hz0,hzc,hpos,hsz,hby⟩:=tapp_spec tapp_41
 have hu41:Tryz.prog.underlying 41=some (.slice 110):=by kernel_rfl
 obtain rfl:el=110:=by rw [hu41] at ht;cases ht;rfl
 obtain ⟨G,hG⟩: ∃G,G=grownCap w 1 0 110:=⟨_,rfl⟩
 obtain ⟨C,hC⟩: ∃C:Array Value,C= #[]++vs.toArray++Builtin.zeroCells z.cells (G-1):=⟨_,rfl⟩
 have hrun: ∀ty,(Builtin.append_ #[41,41] ty #[.slice (some a) 0 0, .slice (some ⟨vb,voff,none⟩) 1 vc]).run Tryz.prog w = .ok (.slice (some ⟨w.heap.size,0,none⟩) 1 G) (w.drew.alloc (.cells C 110)):=fun ty=>by
  have h:=run_append_grow (P:=Tryz.prog) w 41 ty 110 i0 z ht hi0 hz0 a 0 0 [] (by simp) (by simp) ⟨vb,voff,none⟩ 1 vc vs (by rw [hvl,hsz]) (fun j v hj=>by rw [Addr.add_lit];exact hvs j v hj) (by omega) (by omega) (growslice_fits (by omega) (by rw [hby];omega))
  rw [hC,hG]
  simpa using h
 have hGn:1<=G:=by rw [hG];exact grownCap_ge w _ _ _
 have hCs:C.size=G*4:=by rw [hC,Array.size_append,size_zeroCells,hzc,hsz];simp [hvl];omega
 have hCt:C.toList.take 4=vs:=by
  rw [hC]
  simp only [Array.toList_append,List.nil_append]
  rw [List.take_append_of_le_length (by simp [hvl]),List.take_of_length_le (by simp [hvl])]
 clear hG hC
 have mixed:=mo
 obtain ⟨ab,ao,asp⟩:=a
 go_enter Tryz.func139,Tryz.ntmps139
 go_wp2_with (at_builtin;refine Lib.wpList_append_run _ rfl _ _ _ _ rfl _ _ rfl rfl _ _ (hrun _) ?_)
 all_goals (go_ret;exact ⟨G,C,110,rfl,hGn,rfl,hCs,hCt,rfl,rfl,rfl⟩)
open Go.HH
section
variable {h : Heap} {M : Nat → Prop}
theorem c_inside (n a b:Int):vCall [] Tryz.prog M 88 [.int .i64 n, .int .i64 a, .int .i64 b] h (fun r h'=>r = .bool (decide (a<=n∧n<=b))∧h=h'):=by
 refine body_of mo Tryz.func88 rfl (by kernel_rfl) (Nat.le_of_ble_eq_true (by kernel_rfl)) rfl ?_
 simp only [go_sem]
 refine .intro (fun h1 => ?_) (fun h1 => ?_)<;>simp only [go_sem,h1]<;>simp at h1 ⊢ <;> omega
theorem c_l1In (n a b:Int):vCall [] Tryz.prog M 130 [.int .i64 n, .int .i64 a, .int .i64 b] h (fun r h'=>r = .bool (decide (a<=n∧n<=b))∧h=h'):=by
 refine body_of mo Tryz.func130 rfl (by kernel_rfl) (Nat.le_of_ble_eq_true (by kernel_rfl)) rfl ?_
 simp only [go_sem]
 refine .intro (fun h1 => ?_) (fun h1 => ?_)<;>simp only [go_sem,h1]<;>simp at h1 ⊢ <;> omega
end
open Go.HH
open Go.HH
def FQs (lo hi sz:Nat) (h:Heap) (v:Value) (rows:List (List Value)):Prop:=FR lo hi sz h v rows∨(rows= []∧∃a,v = .slice a 0 0)
theorem FQs.mono {lo hi sz:Nat} {h h':Heap} {v:Value} {rows:List (List Value)} (s:FQs lo hi sz h v rows) (hp:h<+:h'):FQs lo hi sz h' v rows:=s.imp (fun s=>s.mono hp) id
theorem FQs.agr {lo hi a b sz:Nat} {h h':Heap} {v:Value} {rows:List (List Value)} (s:FQs lo hi sz h v rows) (g:Agr a b h h') (hn:hi<=a∨b<=lo):FQs lo hi sz h' v rows:=
 s.imp (fun ⟨id,e,e1,e2,e3,e4⟩=>⟨id,e,e1,e2,by rw [g.2 id (hget_lt e3) (by omega)];exact e3,e4⟩) id
theorem FQs.sl {lo hi sz:Nat} {h:Heap} {v:Value} {rows:List (List Value)} (s:FQs lo hi sz h v rows):Sl h sz v rows:=by
 rcases s with s|⟨rfl,a,rfl⟩
 ·exact s.sl
 ·exact ⟨a,rfl,fun r hr=>by simp at hr,fun h0=>absurd rfl h0⟩
theorem FQs.wide {lo hi lo' hi' sz:Nat} {h:Heap} {v:Value} {rows:List (List Value)} (s:FQs lo hi sz h v rows) (h1:lo'<=lo) (h2:hi<=hi'):FQs lo' hi' sz h v rows:=
 s.imp (fun ⟨id,e,e1,e2,e3⟩=>⟨id,e,by omega,by omega,e3⟩) id
def mk4 (k:Int) (i:Nat):List Value:= [.int .i64 (k+4*i), .int .i64 (k+4*i+1), .int .i64 (k+4*i+1+1), .int .i64 (k+4*i+1+1+1)]
def mks4 (k:Int) (n:Nat):List (List Value):=(List.range n).map (mk4 k)
def mkV (k:Int) (i:Nat):List Value:= [.int .i64 (k+4*i), .int .i64 (k+4*i+1), .int .i64 (k+4*i+1+1), .bool ((k+4*i+1+1+1).tmod 3==0)]
def mksV (k:Int) (n:Nat):List (List Value):=(List.range n).map (mkV k)
open Go.HH
abbrev Vlv:=Int×Int×Int×Bool
section
variable {h : Heap} {M : Nat → Prop}
def vlv (x:Vlv):List Value:= [.int .i64 x.1, .int .i64 x.2.1, .int .i64 x.2.2.1, .bool x.2.2.2]
end
open Go.HH
abbrev Pip:=Int×Int×Int×Int
section
variable {h : Heap} {M : Nat → Prop}
theorem c_toPipe (x:Pip):vCall [] Tryz.prog M 90 [.agg #[.int .i64 x.1, .int .i64 x.2.1, .int .i64 x.2.2.1, .int .i64 x.2.2.2]] h (fun r h'=>r = .agg #[.int .i64 x.1, .int .i64 x.2.1, .int .i64 x.2.2.1, .int .i64 x.2.2.2]∧h<+:h'):=by
 refine body_of mo Tryz.func90 rfl (by kernel_rfl) (Nat.le_of_ble_eq_true (by kernel_rfl)) rfl ?_
 simp only [go_sem]
 all_goals first|exact rfl|exact ⟨rfl,rfl⟩|exact List.prefix_append _ _|exact ⟨rfl,List.prefix_append _ _⟩|assumption|exact ⟨rfl,by assumption⟩|exact List.prefix_rfl|exact ⟨rfl,List.prefix_rfl⟩|exact List.IsPrefix.trans (by assumption) (by assumption)|exact ⟨rfl,List.IsPrefix.trans (by assumption) (by assumption)⟩
theorem c_eqPipe (x y:Pip):vCall [] Tryz.prog M 91 [.agg #[.int .i64 x.1, .int .i64 x.2.1, .int .i64 x.2.2.1, .int .i64 x.2.2.2], .agg #[.int .i64 y.1, .int .i64 y.2.1, .int .i64 y.2.2.1, .int .i64 y.2.2.2]] h (fun r h'=>r = .bool (decide (x=y))∧h<+:h'):=by
 refine body_of mo Tryz.func91 rfl (by kernel_rfl) (Nat.le_of_ble_eq_true (by kernel_rfl)) rfl ?_
 simp only [go_sem]
 obtain ⟨a,b,c,d⟩:=x
 obtain ⟨a',b',c',d'⟩:=y
 by_cases h1:a=a'
 ·subst h1
  simp only [go_sem]
  by_cases h2:b=b'
  ·subst h2
   simp only [go_sem]
   by_cases h3:c=c'
   ·subst h3
    simp only [go_sem]
    by_cases h4:d=d'
    ·subst h4
     simp only [go_sem]
    ·simp only [go_sem,show (d != d')=true by simpa using h4]
     simp [h4]
   ·simp only [go_sem,show (c != c')=true by simpa using h3]
    simp [h3]
  ·simp only [go_sem,show (b != b')=true by simpa using h2]
   simp [h2]
 ·simp only [go_sem,show (a != a')=true by simpa using h1]
  simp [h1]
def pip (x:Pip):List Value:= [.int .i64 x.1, .int .i64 x.2.1, .int .i64 x.2.2.1, .int .i64 x.2.2.2]
theorem pip_len {l:List Pip}: ∀r∈l.map pip,r.length=4:=by
 intro r hr
 obtain ⟨x,_,rfl⟩:=List.mem_map.1 hr
 rfl
theorem c_toPipeS (v:Value) (l:List Pip) (s:Sl h 4 v (l.map pip)) (hmax:l.length<=1048576):vCall [] Tryz.prog M 46 [v] h (fun r h'=>FR h.length h'.length 4 h' r (l.map pip)∧h<+:h'):=by
 obtain ⟨a,hv,_,_⟩:=id s
 rw [List.length_map] at hv
 refine body_of mo Tryz.func46 rfl (by kernel_rfl) (Nat.le_of_ble_eq_true (by kernel_rfl)) rfl ?_
 subst hv
 simp only [go_sem]
 refine ⟨by omega,by omega, ?_⟩
 refine vLoop.count mo l.length (fun i e h'=> ∃t:Heap,e 0 = .slice a l.length 0∧e 3 = .slice (some ⟨h.length,0,none⟩) l.length 0∧e 4 = .int .i64 i ∧
  h'=h++⟨((l.map pip).take i).flatten++zeros (l.length-i) [.int .i64 0, .int .i64 0, .int .i64 0, .int .i64 0],4, .rw⟩::t) ?_ ?_
 ·refine ⟨[], ?_⟩
  simp only [go_sem]
  all_goals simp
 ·rintro i e _ hi ⟨t,e0,e3,e4,rfl⟩
  simp only [go_sem,e0,e3,e4]
  refine .intro (fun h1 => ?_) (fun h1 => ?_)
  ·have hlt:i<l.length:=by simpa using h1
   have hlt':i<(l.map pip).length:=by simpa using hlt
   obtain ⟨id,off,k,hv,hk,_,hd,hb,hrow,hat⟩:=s.at hlt'
   obtain rfl:a=some ⟨id,off,none⟩:=by simpa using hv
   have hz:(i:Int)<l.length:=by omega
   simp only [go_sem,e0,e3,e4,hk,hrow,List.getElem_map,pip,hz,hd,hb]
   refine ⟨by kernel_rfl,(c_toPipe _).use (fun _ m=>m) ?_⟩
   rintro _ _ ⟨rfl,⟨t2,rfl⟩⟩
   simp only [go_sem,e0,e3,e4,hz]
   refine ⟨?_,hlt,t++t2, ?_⟩
   ·simpa using row_room (z:= [.int .i64 0, .int .i64 0, .int .i64 0, .int .i64 0]) rfl pip_len hlt' hlt
   ·have e5:=set_row (z:= [.int .i64 0, .int .i64 0, .int .i64 0, .int .i64 0]) rfl pip_len hlt' hlt
    rw [List.getElem_map] at e5
    exact ⟨by rw [wrap64 (by omega)];rfl,by rw [←e5];rfl⟩
  ·simp only [go_sem,e0,e3,e4]
   have: ¬i<l.length:=by simpa using h1
   obtain rfl:i=l.length:=by omega
   refine ⟨h.length,by rw [List.length_map],Nat.le_refl _,by omega, ?_,pip_len⟩
   rw [hget_app0,Nat.sub_self,zeros_zero,List.take_of_length_le (by simp),List.append_nil];rfl
theorem c_szPipeS (v:Value) (l:List Pip) (s:Sl h 4 v (l.map pip)) (n:Int) (hn:0<=n∧n<=1048576) (hmax:l.length<=9223372036854775807):vCall [] Tryz.prog M 43 [v, .int .i64 n] h (fun r h'=>r = .int .i64 (if n-l.length<0 then -1 else n-l.length)∧h=h'):=by
 obtain ⟨a,hv,_,_⟩:=id s
 rw [List.length_map] at hv
 refine body_of mo Tryz.func43 rfl (by kernel_rfl) (Nat.le_of_ble_eq_true (by kernel_rfl)) rfl ?_
 subst hv
 simp only [go_sem]
 have e1:IntKind.i64.wrap (n-l.length)=n-l.length:=wrap64 (by omega)
 rw [e1]
 by_cases h1:n-l.length<0
 ·simp only [go_sem,h1]
  all_goals first|exact rfl|exact ⟨rfl,rfl⟩|exact List.prefix_append _ _|exact ⟨rfl,List.prefix_append _ _⟩|assumption|exact ⟨rfl,by assumption⟩|exact List.prefix_rfl|exact ⟨rfl,List.prefix_rfl⟩|exact List.IsPrefix.trans (by assumption) (by assumption)|exact ⟨rfl,List.IsPrefix.trans (by assumption) (by assumption)⟩
 ·simp only [go_sem,h1]
  all_goals first|exact rfl|exact ⟨rfl,rfl⟩|exact List.prefix_append _ _|exact ⟨rfl,List.prefix_append _ _⟩|assumption|exact ⟨rfl,by assumption⟩|exact List.prefix_rfl|exact ⟨rfl,List.prefix_rfl⟩|exact List.IsPrefix.trans (by assumption) (by assumption)|exact ⟨rfl,List.IsPrefix.trans (by assumption) (by assumption)⟩
theorem c_eqPipeS (v w:Value) (l:List Pip) (s:Sl h 4 v (l.map pip)) (s':Sl h 4 w (l.map pip)) (hmax:l.length<=1048576):vCall [] Tryz.prog M 47 [v,w] h (fun r h'=>r = .bool true∧h<+:h'):=by
 obtain ⟨a,hv,_,_⟩:=id s
 obtain ⟨b,hw,_,_⟩:=id s'
 rw [List.length_map] at hv hw
 refine body_of mo Tryz.func47 rfl (by kernel_rfl) (Nat.le_of_ble_eq_true (by kernel_rfl)) rfl ?_
 subst hv hw
 simp only [go_sem]
 refine vLoop.count mo l.length (fun i e h'=> ∃t:Heap,e 0 = .slice a l.length 0∧e 1 = .slice b l.length 0∧e 5 = .int .i64 i∧h'=h++t) ?_ ?_
 ·refine ⟨[], ?_⟩
  simp only [go_sem]
  all_goals simp
 ·rintro i e _ hi ⟨t,e0,e1,e5,rfl⟩
  simp only [go_sem,e0,e1,e5]
  refine .intro (fun h1 => ?_) (fun h1 => ?_)
  ·have hlt:i<l.length:=by simpa using h1
   have hlt':i<(l.map pip).length:=by simpa using hlt
   obtain ⟨id,off,k,hv,hk,_,hd,hb,hrow,hat⟩:=s.at hlt'
   obtain rfl:a=some ⟨id,off,none⟩:=by simpa using hv
   obtain ⟨id2,off2,k2,hv2,hk2,_,hd2,hb2,hrow2,hat2⟩:=s'.at hlt'
   obtain rfl:b=some ⟨id2,off2,none⟩:=by simpa using hv2
   have hz:(i:Int)<l.length:=by omega
   simp only [go_sem,e0,e1,e5,hk,hrow,hk2,hrow2,List.getElem_map,pip,hz,hd,hb,hd2,hb2]
   refine ⟨by kernel_rfl,(c_eqPipe _ _).use (fun _ m=>m) ?_⟩
   rintro _ _ ⟨rfl,⟨t2,rfl⟩⟩
   simp only [go_sem,e0,e1,e5]
   exact ⟨hlt,t++t2,by rw [wrap64 (by omega)];rfl,rfl⟩
  ·simp only [go_sem,e0,e1,e5]
end
def NA (n:Nat) (h:Heap) (v:Value) (N:Int) (P:List Pip):Prop:= ∃w,v = .agg #[.int .i64 N,w]∧SB n 4 h w (P.map pip)
def FN (lo hi:Nat) (h:Heap) (v:Value) (N:Int) (P:List Pip):Prop:= ∃w,v = .agg #[.int .i64 N,w]∧FR lo hi 4 h w (P.map pip)
theorem NA.mono {n:Nat} {h h':Heap} {v:Value} {N:Int} {P:List Pip} (s:NA n h v N P) (hp:h<+:h'):NA n h' v N P:=by
 obtain ⟨w,e,s⟩:=s;exact ⟨w,e,s.mono hp⟩
theorem FN.mono {lo hi:Nat} {h h':Heap} {v:Value} {N:Int} {P:List Pip} (s:FN lo hi h v N P) (hp:h<+:h'):FN lo hi h' v N P:=by
 obtain ⟨w,e,s⟩:=s;exact ⟨w,e,s.mono hp⟩
theorem FN.na {lo hi:Nat} {h:Heap} {v:Value} {N:Int} {P:List Pip} (s:FN lo hi h v N P):NA hi h v N P:=by
 obtain ⟨w,e,s⟩:=s;exact ⟨w,e,s.sb⟩
theorem FR.swap {h x y t:Heap} {m m' sz:Nat} {v:Value} {rows:List (List Value)} (s:FR (h++x).length m sz (h++x++t) v rows) (e:y.length=x.length) (hm:m<=m'):FR h.length m' sz (h++(y++t)) v rows:=by
 obtain ⟨id,e1,e2,e3,e4,e5⟩:=s
 rw [List.length_append] at e2
 refine ⟨id,e1,by omega,by omega, ?_,e5⟩
 rw [←e4]
 unfold hget
 rw [List.append_assoc,List.getElem?_append_right (by omega),List.getElem?_append_right (by omega),List.getElem?_append_right (by omega),List.getElem?_append_right (by omega),e]
theorem Sl.len4 {h:Heap} {v:Value} {P:List Pip} (s:Sl h 4 v (P.map pip)): ∃a,v = .slice a P.length 0:=by
 obtain ⟨a,e,_⟩:=s
 rw [List.length_map] at e
 exact ⟨a,e⟩
section
variable {h : Heap} {M : Nat → Prop}
theorem c_szNetwork {n:Nat} (v:Value) (N:Int) (P:List Pip) (s:NA n h v N P) (m:Int) (hm:0<=m∧m<=1048576) (hmax:P.length<=9223372036854775807):vCall [] Tryz.prog M 9 [v, .int .i64 m] h (fun r h'=>r = .int .i64 (if m-P.length<0 then -1 else m-P.length)∧h<+:h'):=by
 obtain ⟨w,rfl,s⟩:=s
 refine body_of mo Tryz.func9 rfl (by kernel_rfl) (Nat.le_of_ble_eq_true (by kernel_rfl)) rfl ?_
 simp only [go_sem]
 refine ⟨by kernel_rfl,(c_szPipeS w P (s.mono (List.prefix_append _ _)).1 m hm hmax).use (fun _ m=>m) ?_⟩
 rintro _ _ ⟨rfl,rfl⟩
 simp only [go_sem]
 by_cases h1:m-P.length<0
 ·simp only [go_sem,h1]
 ·simp only [go_sem,h1]
theorem c_toNetwork {n:Nat} (v:Value) (N:Int) (P:List Pip) (s:NA n h v N P) (hmax:P.length<=1048576):vCall [] Tryz.prog M 12 [v] h (fun r h'=>FN h.length h'.length h' r N P∧h<+:h'):=by
 obtain ⟨w,rfl,s⟩:=s
 refine body_of mo Tryz.func12 rfl (by kernel_rfl) (Nat.le_of_ble_eq_true (by kernel_rfl)) rfl ?_
 simp only [go_sem]
 refine ⟨by kernel_rfl,(c_toPipeS w P (s.mono (List.prefix_append _ _)).1 hmax).use (fun _ m=>m) ?_⟩
 rintro w' _ ⟨s1,⟨t,rfl⟩⟩
 obtain ⟨id,rfl,q1,q2,q3,q4⟩:=id s1
 simp only [go_sem]
 exact ⟨_,rfl,FR.swap (y:= [_,_,_]) s1 rfl (by simp)⟩
theorem c_eqNetwork {n m:Nat} (v w:Value) (N:Int) (P:List Pip) (s:NA n h v N P) (s':NA m h w N P) (hmax:P.length<=1048576):vCall [] Tryz.prog M 15 [v,w] h (fun r h'=>r = .bool true∧h<+:h'):=by
 obtain ⟨v,rfl,s⟩:=s
 obtain ⟨w,rfl,s'⟩:=s'
 refine body_of mo Tryz.func15 rfl (by kernel_rfl) (Nat.le_of_ble_eq_true (by kernel_rfl)) rfl ?_
 simp only [go_sem]
 refine ⟨by kernel_rfl,(c_eqPipeS v w P (s.mono (List.prefix_append _ _)).1 (s'.mono (List.prefix_append _ _)).1 hmax).use (fun _ m=>m) ?_⟩
 rintro _ _ ⟨rfl,⟨t,rfl⟩⟩
 simp only [go_sem]
end
theorem Fits.net {h:Heap} {v:Value} (ft:FitV h (.struct (.pair (.int .i64) (.pair (.slice (.struct (.pair (.int .i64) (.pair (.int .i64) (.pair (.int .i64) (.pair (.int .i64) .unit)))))) .unit))) v): ∃N P,NA h.length h v N P∧P.length<=9223372036854775807:=by
 obtain ⟨cs,rfl,f⟩:=ft.struct
 obtain ⟨c1,c2,rfl,f1,f2⟩:=f.pair
 obtain ⟨N,rfl,_⟩:=f1.int
 obtain ⟨c3,c4,rfl,f3,f4⟩:=f2.pair
 obtain rfl:=f4.unit
 obtain ⟨w,rfl,fw⟩:=Fits.oneSlice f3
 obtain ⟨rows,s,hl,hr⟩:=Fits.sb fw
 obtain ⟨P,rfl⟩:=rows_map (f:=pip) (rows:=rows) (fun r hr'=>by
  have hf:=hr r hr'
  obtain ⟨a1,a2,rfl,g1,g2⟩:=Fits.pair (show Fits h (.pair (.int .i64) (.pair (.int .i64) (.pair (.int .i64) (.pair (.int .i64) .unit)))) r from hf)
  obtain ⟨x1,rfl,_⟩:=g1.int
  obtain ⟨a3,a4,rfl,g3,g4⟩:=g2.pair
  obtain ⟨x2,rfl,_⟩:=g3.int
  obtain ⟨a5,a6,rfl,g5,g6⟩:=g4.pair
  obtain ⟨x3,rfl,_⟩:=g5.int
  obtain ⟨a7,a8,rfl,g7,g8⟩:=g6.pair
  obtain ⟨x4,rfl,_⟩:=g7.int
  obtain rfl:=g8.unit
  exact ⟨(x1,x2,x3,x4),rfl⟩)
 rw [List.length_map] at hl
 exact ⟨N,P,⟨w,rfl,s⟩,hl⟩
open Go.HH
def ball (P:List Pip) (s:Int):Nat->Int->Bool
 | 0,v=>v==s
 | k+1,v=>ball P s k v||P.any fun p=>(ball P s k p.2.1&&p.2.2.1==v)||(ball P s k p.2.2.1&&p.2.1==v)
def adj (P:List Pip) (a b:Int):Prop:= ∃p∈P,(p.2.1=a∧p.2.2.1=b)∨(p.2.2.1=a∧p.2.1=b)
theorem adj.symm {P:List Pip} {a b:Int} (h:adj P a b):adj P b a:=by
 obtain ⟨p,hp,h|h⟩:=h
 ·exact ⟨p,hp, .inr ⟨h.2,h.1⟩⟩
 ·exact ⟨p,hp, .inl ⟨h.2,h.1⟩⟩
theorem ball_zero {P:List Pip} {s v:Int}:ball P s 0 v=true↔v=s:=by simp [ball]
theorem ball_succ {P:List Pip} {s v:Int} {k:Nat}:ball P s (k+1) v=true↔ball P s k v=true∨∃a,ball P s k a=true∧adj P a v:=by
 simp only [ball,Bool.or_eq_true,List.any_eq_true,Bool.and_eq_true,beq_iff_eq]
 refine or_congr Iff.rfl ⟨?_, ?_⟩
 ·rintro ⟨p,hp,⟨h1,h2⟩|⟨h1,h2⟩⟩
  ·exact ⟨_,h1,p,hp, .inl ⟨rfl,h2⟩⟩
  ·exact ⟨_,h1,p,hp, .inr ⟨rfl,h2⟩⟩
 ·rintro ⟨a,h,p,hp,⟨rfl,h2⟩|⟨rfl,h2⟩⟩
  ·exact ⟨p,hp, .inl ⟨h,h2⟩⟩
  ·exact ⟨p,hp, .inr ⟨h,h2⟩⟩
theorem ball_mono {P:List Pip} {s v:Int} {j k:Nat} (h:j<=k) (hb:ball P s j v=true):ball P s k v=true:=by
 induction h with
 | refl=>exact hb
 | step _ ih=>exact ball_succ.2 (.inl ih)
theorem ball_pre {P:List Pip} {a b:Int} (hab:adj P a b): ∀ {k:Nat} {v:Int},ball P b k v=true->ball P a (k+1) v=true
 | 0,v,h=>by
  rw [ball_zero] at h
  subst h
  exact ball_succ.2 (.inr ⟨a,ball_zero.2 rfl,hab⟩)
 | k+1,v,h=>by
  rcases ball_succ.1 h with h|⟨c,h,hc⟩
  ·exact ball_mono (Nat.le_succ _) (ball_pre hab h)
  ·exact ball_succ.2 (.inr ⟨c,ball_pre hab h,hc⟩)
theorem ball_symm {P:List Pip} {s:Int}: ∀ {k:Nat} {v:Int},ball P s k v=true->ball P v k s=true
 | 0,v,h=>by rw [ball_zero] at h ⊢;exact h.symm
 | k+1,v,h=>by
  rcases ball_succ.1 h with h|⟨c,h,hc⟩
  ·exact ball_mono (Nat.le_succ _) (ball_symm h)
  ·exact ball_pre hc.symm (ball_symm h)
def ends (N:Int) (P:List Pip):Prop:= ∀p∈P,(1<=p.2.1∧p.2.1<=N)∧(1<=p.2.2.1∧p.2.2.1<=N)∧p.2.1≠p.2.2.1
theorem ends.adj {N:Int} {P:List Pip} (he:ends N P) {a b:Int} (h:adj P a b):1<=b∧b<=N:=by
 obtain ⟨p,hp,h|h⟩:=h
 ·have:=he p hp;omega
 ·have:=he p hp;omega
theorem ball_in {N:Int} {P:List Pip} (he:ends N P) {s:Int} (hs:1<=s∧s<=N): ∀ {k:Nat} {v:Int},ball P s k v=true->1<=v∧v<=N
 | 0,v,h=>by rw [ball_zero] at h;omega
 | k+1,v,h=>by
  rcases ball_succ.1 h with h|⟨c,h,hc⟩
  ·exact ball_in he hs h
  ·exact he.adj hc
theorem countP_lt {α:Type} {p q:α->Bool}: ∀ {l:List α},(∀x∈l,p x=true->q x=true)->(∃x∈l,q x=true∧p x=false)->l.countP p<l.countP q
 | [],_,h=>by obtain ⟨x,hx,_⟩:=h;simp at hx
 | y::l,hm,h=>by
  have hle:l.countP p<=l.countP q:=List.countP_mono_left fun x hx=>hm x (by simp [hx])
  have hy:=hm y (by simp)
  simp only [List.countP_cons]
  by_cases hex: ∃x∈l,q x=true∧p x=false
  ·have ih:=countP_lt (l:=l) (fun x hx=>hm x (by simp [hx])) hex
   cases hp:p y with
   | false=>cases hq:q y<;>simp<;>omega
   | true=>rw [hy hp];simp;omega
  ·obtain ⟨x,hx,h1,h2⟩:=h
   rcases List.mem_cons.1 hx with rfl|hx
   ·rw [h1,h2];simp;omega
   ·exact absurd ⟨x,hx,h1,h2⟩ hex
theorem ball_stop {N:Nat} {P:List Pip} (he:ends N P) {s:Int} (hs:1<=s∧s<=N) {k:Nat} {v:Int} (h:ball P s k v=true):ball P s N v=true:=by
 have grow: ∀k,k+1<=(List.range N).countP (fun i:Nat=>ball P s k ((i:Int)+1))∨∃j,j<=k∧∀v,ball P s (j+1) v=true->ball P s j v=true:=by
  intro k
  induction k with
  | zero=>
   refine .inl ?_
   have:0<(List.range N).countP (fun i:Nat=>ball P s 0 ((i:Int)+1)):=by
    rw [List.countP_pos_iff]
    exact ⟨(s-1).toNat,by simp;omega,by rw [ball_zero];omega⟩
   omega
  | succ k ih=>
   rcases ih with ih|⟨j,hj,hst⟩
   ·by_cases hstop: ∀v,ball P s (k+1) v=true->ball P s k v=true
    ·exact .inr ⟨k,by omega,hstop⟩
    ·simp only [Classical.not_forall] at hstop
     obtain ⟨v,hv,hn⟩:=hstop
     have hr:=ball_in he hs hv
     refine .inl (Nat.lt_of_le_of_lt ih (countP_lt (fun x _ hx=>ball_mono (Nat.le_succ _) hx) ⟨(v-1).toNat,by simp;omega, ?_, ?_⟩))
     ·rw [show (((v-1).toNat:Nat):Int)+1=v by omega];exact hv
     ·rw [show (((v-1).toNat:Nat):Int)+1=v by omega];simpa using hn
   ·exact .inr ⟨j,by omega,hst⟩
 obtain ⟨j,hj,hst⟩: ∃j,j<=N∧∀v,ball P s (j+1) v=true->ball P s j v=true:=by
  rcases grow N with h|h
  ·have:=List.countP_le_length (p:=fun i:Nat=>ball P s N ((i:Int)+1)) (l:=List.range N)
   rw [List.length_range] at this
   omega
  ·exact h
 have all: ∀m v,ball P s (j+m) v=true->ball P s j v=true:=by
  intro m
  induction m with
  | zero=>exact fun v hv=>hv
  | succ m ih=>
   intro v hv
   rcases ball_succ.1 (show ball P s (j+m+1) v=true from hv) with h1|⟨a,h1,h2⟩
   ·exact ih v h1
   ·exact hst v (ball_succ.2 (.inr ⟨a,ih a h1,h2⟩))
 rcases Nat.le_total k j with h1|h1
 ·exact ball_mono (Nat.le_trans h1 hj) h
 ·refine ball_mono hj (all (k-j) v ?_)
  rwa [show j+(k-j)=k by omega]
def dv (D:List Int) (v:Int):Int:=D.getD v.toNat (-1)
theorem dv_set {D:List Int} {v w x:Int} (hv:1<=v) (hw:1<=w) (hl:v.toNat<D.length):dv (D.set v.toNat x) w=if w=v then x else dv D w:=by
 unfold dv
 by_cases h:w=v
 ·subst h
  simp [List.getD,hl]
 ·rw [if_neg h]
  have:v.toNat≠w.toNat:=by omega
  simp [List.getD,List.getElem?_set_ne this]
structure Bfs (P:List Pip) (s:Int) (N:Nat) (D:List Int) (Q:List Int):Prop where
 len:D.length=N+1
 src:dv D s=0
 low: ∀v:Int,1<=v->v<=N -> -1<=dv D v
 snd: ∀v:Int,1<=v->v<=N->∀k:Nat,dv D v=k->ball P s k v=true
 qin: ∀q∈Q,(1<=q∧q<=N)∧0<=dv D q
 done: ∀v:Int,1<=v->v<=N->0<=dv D v->v∉Q->∀b,adj P v b->0<=dv D b∧dv D b<=dv D v+1
 sorted:Q.Pairwise fun a b=>dv D a<=dv D b
 top: ∀q∈Q,∀v:Int,1<=v->v<=N->dv D v<=dv D q+1
theorem Bfs.init {P:List Pip} {s:Int} {N:Nat} (hs:1<=s∧s<=N):Bfs P s N ((List.replicate (N+1) (-1:Int)).set s.toNat 0) [s]:=by
 have hd: ∀w:Int,1<=w->dv ((List.replicate (N+1) (-1:Int)).set s.toNat 0) w=if w=s then 0 else -1:=fun w hw=>by
  rw [dv_set hs.1 hw (by simp;omega)]
  have:dv (List.replicate (N+1) (-1:Int)) w = -1:=by
   unfold dv
   rw [List.getD_eq_getElem?_getD,List.getElem?_replicate]
   split<;>rfl
  rw [this]
 refine ⟨by simp,by rw [hd s hs.1,if_pos rfl],fun v h1 h2=>by rw [hd v h1];split<;>omega,fun v h1 h2 k hk => ?_,fun q hq => ?_,fun v h1 h2 h3 h4 => ?_,by simp,fun q hq v h1 h2 => ?_⟩
 ·rw [hd v h1] at hk
  split at hk
  ·rename_i h;exact ball_mono (Nat.zero_le _) (ball_zero.2 h)
  ·omega
 ·obtain rfl:q=s:=by simpa using hq
  exact ⟨hs,by rw [hd q hs.1,if_pos rfl];omega⟩
 ·rw [hd v h1] at h3
  split at h3
  ·rename_i h;exact absurd (by simp [h]) h4
  ·omega
 ·obtain rfl:q=s:=by simpa using hq
  rw [hd v h1,hd q hs.1,if_pos rfl]
  split<;>omega
theorem Bfs.push {P:List Pip} {s:Int} {N:Nat} {D R:List Int} {q to:Int} (hs:1<=s∧s<=N) (b:Bfs P s N D (q::R)) (hto:1<=to∧to<=N) (hadj:adj P q to) (hneg:dv D to<0) :
  Bfs P s N (D.set to.toNat (dv D q+1)) (q::R++ [to]):=by
 obtain ⟨hq1,hq2⟩:=b.qin q (by simp)
 have hd: ∀w:Int,1<=w->dv (D.set to.toNat (dv D q+1)) w=if w=to then dv D q+1 else dv D w:=fun w hw=>dv_set hto.1 hw (by rw [b.len];omega)
 have hqt:q≠to:=fun h=>by rw [h] at hq2;omega
 have hst:s≠to:=fun h=>by have:=b.src;rw [h] at this;omega
 have hmem: ∀r,r∈q::R->r≠to:=fun r hr h=>by have:=(b.qin r hr).2;rw [h] at this;omega
 have hqle: ∀r,r∈q::R->dv D q<=dv D r:=fun r hr=>by
  rcases List.mem_cons.1 hr with rfl|hr
  ·exact Int.le_refl _
  ·exact (List.pairwise_cons.1 b.sorted).1 r hr
 refine ⟨by rw [List.length_set];exact b.len,by rw [hd s hs.1,if_neg hst];exact b.src,fun v h1 h2 => ?_,fun v h1 h2 k hk => ?_,fun r hr => ?_,fun v h1 h2 h3 h4 c hc => ?_, ?_,fun r hr v h1 h2 => ?_⟩
 ·rw [hd v h1]
  split
  ·omega
  ·exact b.low v h1 h2
 ·rw [hd v h1] at hk
  split at hk
  ·rename_i h
   subst h
   have:ball P s (dv D q).toNat q=true:=b.snd q hq1.1 hq1.2 _ (by omega)
   have h2:=ball_succ.2 (.inr ⟨q,this,hadj⟩)
   rwa [show (dv D q).toNat+1=k by omega] at h2
  ·exact b.snd v h1 h2 k hk
 ·rcases List.mem_append.1 hr with hr|hr
  ·obtain ⟨h1,h2⟩:=b.qin r hr
   exact ⟨h1,by rw [hd r h1.1,if_neg (hmem r hr)];exact h2⟩
  ·obtain rfl:r=to:=by simpa using hr
   exact ⟨hto,by rw [hd r hto.1,if_pos rfl];omega⟩
 ·have hvt:v≠to:=fun h=>h4 (by simp [h])
  rw [hd v h1,if_neg hvt] at h3 ⊢
  obtain ⟨g1,g2⟩:=b.done v h1 h2 h3 (fun h=>h4 (List.mem_append_left _ h)) c hc
  have hct:c≠to:=fun h=>by rw [h] at g1;omega
  have hc1:1<=c∨¬1<=c:=by omega
  rcases hc1 with hc1|hc1
  ·rw [hd c hc1,if_neg hct];exact ⟨g1,g2⟩
  ·have:dv (D.set to.toNat (dv D q+1)) c=dv D c:=by
    unfold dv
    have:to.toNat≠c.toNat:=by omega
    simp [List.getD,List.getElem?_set_ne this]
   rw [this];exact ⟨g1,g2⟩
 ·rw [List.pairwise_append]
  refine ⟨b.sorted.imp_of_mem fun {x y} hx hy hxy => ?_,by simp,fun x hx y hy => ?_⟩
  ·rw [hd x (b.qin x hx).1.1,hd y (b.qin y hy).1.1,if_neg (hmem x hx),if_neg (hmem y hy)];exact hxy
  ·obtain rfl:y=to:=by simpa using hy
   rw [hd x (b.qin x hx).1.1,if_neg (hmem x hx),hd y hto.1,if_pos rfl]
   exact b.top q (by simp) x (b.qin x hx).1.1 (b.qin x hx).1.2
 ·rcases List.mem_append.1 hr with hr|hr
  ·have hq3:=hqle r hr
   rw [hd r (b.qin r hr).1.1,if_neg (hmem r hr),hd v h1]
   split
   ·omega
   ·exact b.top r hr v h1 h2
  ·obtain rfl:r=to:=by simpa using hr
   rw [hd r hto.1,if_pos rfl,hd v h1]
   have:=b.top q (by simp) v h1 h2
   split<;>omega
theorem Bfs.pop {P:List Pip} {s:Int} {N:Nat} {D R:List Int} {q:Int} (b:Bfs P s N D (q::R)) (hdone: ∀c,adj P q c->0<=dv D c∧dv D c<=dv D q+1):Bfs P s N D R:=by
 refine ⟨b.len,b.src,b.low,b.snd,fun r hr=>b.qin r (by simp [hr]),fun v h1 h2 h3 h4 c hc => ?_,(List.pairwise_cons.1 b.sorted).2,fun r hr=>b.top r (by simp [hr])⟩
 by_cases h:v=q
 ·subst h;exact hdone c hc
 ·exact b.done v h1 h2 h3 (by simp [h,h4]) c hc
theorem Bfs.fin {P:List Pip} {s:Int} {N:Nat} {D:List Int} (he:ends N P) (hs:1<=s∧s<=N) (b:Bfs P s N D []) {v:Int} (h1:1<=v) (h2:v<=N) (m:Nat):(0<=dv D v∧dv D v<=m)↔ball P s m v=true:=by
 have comp: ∀k v,ball P s k v=true->0<=dv D v∧dv D v<=k:=by
  intro k
  induction k with
  | zero=>
   intro v hv
   rw [ball_zero] at hv
   rw [hv,b.src];simp
  | succ k ih=>
   intro v hv
   rcases ball_succ.1 hv with hv|⟨a,ha,hav⟩
   ·have:=ih v hv;omega
   ·have h3:=ih a ha
    have h4:=ball_in he hs ha
    have:=b.done a h4.1 h4.2 h3.1 (by simp) v hav
    omega
 refine ⟨fun ⟨h3,h4⟩ => ?_,fun h=>comp m v h⟩
 exact ball_mono (by omega) (b.snd v h1 h2 (dv D v).toNat (by omega))
open Go.HH
section
variable {h : Heap} {M : Nat → Prop}
theorem c_has (N:Int) (w:Value) (n:Int):vCall [] Tryz.prog M 65 [.agg #[.int .i64 N,w], .int .i64 n] h (fun r h'=>r = .bool (decide (1<=n∧n<=N))∧h<+:h'):=by
 refine body_of mo Tryz.func65 rfl (by kernel_rfl) (Nat.le_of_ble_eq_true (by kernel_rfl)) rfl ?_
 simp only [go_sem]
 refine ⟨by kernel_rfl,(c_inside _ _ _).use (fun _ m=>m) ?_⟩
 rintro _ _ ⟨rfl,rfl⟩
 simp only [go_sem]
 all_goals first|exact rfl|exact ⟨rfl,rfl⟩|exact List.prefix_append _ _|exact ⟨rfl,List.prefix_append _ _⟩|assumption|exact ⟨rfl,by assumption⟩|exact List.prefix_rfl|exact ⟨rfl,List.prefix_rfl⟩|exact List.IsPrefix.trans (by assumption) (by assumption)|exact ⟨rfl,List.IsPrefix.trans (by assumption) (by assumption)⟩
def pipOk (N:Int) (x:Pip):Prop:=(1<=x.1∧x.1<=99)∧(1<=x.2.1∧x.2.1<=N)∧(1<=x.2.2.1∧x.2.2.1<=N)∧x.2.1≠x.2.2.1∧1<=x.2.2.2∧x.2.2.2<=9
instance {N:Int} {x:Pip}:Decidable (pipOk N x):=by unfold pipOk;infer_instance
def pip0:Pip:=(0,0,0,0)
theorem getDp {l:List Pip} {i:Nat} (hi:i<l.length):l.getD i pip0=l[i]:=by simp [List.getD,hi]
def pipAt (N:Int) (l:List Pip) (i:Nat):Prop:=pipOk N (l.getD i pip0)∧(0<i->(l.getD (i-1) pip0).1<(l.getD i pip0).1)
instance {N:Int} {l:List Pip} {i:Nat}:Decidable (pipAt N l i):=by unfold pipAt;infer_instance
def netGood (N:Int) (l:List Pip):Prop:=(∀i,i<l.length->pipAt N l i)∧(1<=N∧N<=8)∧l.length<=10
instance {N:Int} {l:List Pip}:Decidable (netGood N l):=by unfold netGood;infer_instance
theorem netGood.ends {N:Int} {l:List Pip} (g:netGood N l):ends N l:=by
 intro p hp
 obtain ⟨i,hi,rfl⟩:=List.mem_iff_getElem.1 hp
 have:=(g.1 i hi).1
 rw [getDp hi] at this
 exact ⟨this.2.1,this.2.2.1,this.2.2.2.1⟩
theorem c_l2Pipe (N:Int) (x:Pip):vCall [] Tryz.prog M 167 [.int .i64 N, .agg #[.int .i64 x.1, .int .i64 x.2.1, .int .i64 x.2.2.1, .int .i64 x.2.2.2]] h (fun r h'=>r = .bool (decide (pipOk N x))∧h<+:h'):=by
 refine body_of mo Tryz.func167 rfl (by kernel_rfl) (Nat.le_of_ble_eq_true (by kernel_rfl)) rfl ?_
 simp only [go_sem]
 refine ⟨by kernel_rfl,(c_l1In _ _ _).use (fun _ m=>m) ?_⟩
 rintro _ _ ⟨rfl,rfl⟩
 simp only [go_sem]
 by_cases h1:1<=x.1∧x.1<=99
 ·simp only [go_sem,decb h1]
  refine ⟨by kernel_rfl,(c_l1In _ _ _).use (fun _ m=>m) ?_⟩
  rintro _ _ ⟨rfl,rfl⟩
  simp only [go_sem]
  by_cases h2:1<=x.2.1∧x.2.1<=N
  ·simp only [go_sem,decb h1,decb h2]
   refine ⟨by kernel_rfl,(c_l1In _ _ _).use (fun _ m=>m) ?_⟩
   rintro _ _ ⟨rfl,rfl⟩
   simp only [go_sem]
   by_cases h3:1<=x.2.2.1∧x.2.2.1<=N
   ·simp only [go_sem,decb h1,decb h2,decb h3]
    by_cases h4:x.2.1=x.2.2.1
    ·simp only [go_sem,show (x.2.1 != x.2.2.1)=false by simpa using h4,decb h1,decb h2,decb h3]
     exact congrArg Value.bool (decide_eq_false (fun hh:pipOk N x=>hh.2.2.2.1 h4)).symm
    ·simp only [go_sem,show (x.2.1 != x.2.2.1)=true by simpa using h4,decb h1,decb h2,decb h3]
     refine ⟨by kernel_rfl,(c_l1In _ _ _).use (fun _ m=>m) ?_⟩
     rintro _ _ ⟨rfl,rfl⟩
     simp only [go_sem,show (x.2.1 != x.2.2.1)=true by simpa using h4,decb h1,decb h2,decb h3]
     exact congrArg Value.bool (decide_eq_decide.2 ⟨fun hh=>⟨h1,h2,h3,h4,hh⟩,fun hh=>hh.2.2.2.2⟩)
   ·simp only [go_sem,decb h1,decb h2,dect h3]
    exact congrArg Value.bool (decide_eq_false (fun hh:pipOk N x=>h3 hh.2.2.1)).symm
  ·simp only [go_sem,decb h1,dect h2]
   exact congrArg Value.bool (decide_eq_false (fun hh:pipOk N x=>h2 hh.2.1)).symm
 ·simp only [go_sem,dect h1]
  exact congrArg Value.bool (decide_eq_false (fun hh:pipOk N x=>h1 hh.1)).symm
theorem c_l2Good {n:Nat} (v:Value) (N:Int) (P:List Pip) (s:NA n h v N P) (hmax:P.length<=1048576):vCall [] Tryz.prog M 129 [v] h (fun r h'=>r = .bool (decide (netGood N P))∧h<+:h'):=by
 obtain ⟨w,rfl,s⟩:=s
 replace s:Sl h 4 w (P.map pip):=s.1
 obtain ⟨a,rfl⟩:=Sl.len4 s
 refine body_of mo Tryz.func129 rfl (by kernel_rfl) (Nat.le_of_ble_eq_true (by kernel_rfl)) rfl ?_
 simp only [go_sem]
 refine vLoop.count mo P.length (fun i e h'=> ∃t:Heap,e 1 = .pointer (some ⟨h.length,0,none⟩)∧e 3 = .int .i64 i∧h'=h++⟨[.int .i64 N, .slice a P.length 0],2, .rw⟩::t∧i<=11∧∀j,j<i->pipAt N P j) ?_ ?_
 ·exact ⟨[],rfl,rfl,rfl,by omega,fun j hj=>absurd hj (by omega)⟩
 ·rintro i e _ hi ⟨t,e1,e3,rfl,hi11,hj⟩
  simp only [go_sem,e1,e3]
  by_cases hlt:i<P.length
  ·have hlt':i<(P.map pip).length:=by simpa using hlt
   obtain ⟨id,off,k,hv,hk,_,hd,hall⟩:=s.all (Nat.zero_lt_of_lt hlt')
   obtain rfl:a=some ⟨id,off,none⟩:=by simpa using hv
   have hz:(i:Int)<P.length:=by omega
   obtain ⟨hb,hrow,hcell⟩:=hall i hlt'
   have g0:=hcell 0 (by omega)
   rw [List.getElem_map] at g0 hrow
   simp only [pip,List.getElem?_cons_zero,Nat.add_zero] at g0 hrow
   have gd:P.getD i pip0=P[i]:=getDp hlt
   by_cases h10:(i:Int)<=10
   ·simp only [go_sem,e1,e3,hz,h10,hk,hd,g0,hrow,hb]
    refine ⟨by kernel_rfl,(c_l2Pipe _ _).use (fun _ m=>m) ?_⟩
    rintro _ _ ⟨rfl,⟨t2,rfl⟩⟩
    simp only [go_sem,e1,e3]
    by_cases h2:pipOk N P[i]
    ·simp only [go_sem,e1,e3,decb h2]
     by_cases h4:0<i
     ·have hp:i-1<(P.map pip).length:=by omega
      have g2:=(hall (i-1) hp).2.2 0 (by omega)
      rw [List.getElem_map] at g2
      simp only [pip,List.getElem?_cons_zero,Nat.add_zero] at g2
      have gd2:P.getD (i-1) pip0=P[i-1]:=getDp (by omega)
      have q1:(0:Int)<i:=by omega
      have q2:IntKind.i64.wrap ((i:Int)-1)=((i-1:Nat):Int):=by rw [wrap64 (by omega)];omega
      have q3:((i-1:Nat):Int)<P.length:=by omega
      simp only [go_sem,e1,e3,hk,hz,hd,g0,g2,q1,q2,q3,hrow,decb h2]
      by_cases h5:P[i].1<=P[i-1].1
      ·simp only [go_sem,e1,e3,h5]
       try exact congrArg Value.bool (decide_eq_false (fun hh:netGood N P=>by have:=(hh.1 i hlt).2 h4;rw [gd,gd2] at this;omega)).symm
      ·simp only [go_sem,e1,e3,h5]
       refine ⟨hlt,_,by rw [wrap64 (by omega)];rfl,rfl,by omega,fun j hji => ?_⟩
       by_cases hje:j=i
       ·subst hje;exact ⟨by rw [gd];exact h2,fun _=>by rw [gd,gd2];omega⟩
       ·exact hj j (by omega)
     ·simp only [go_sem,e1,e3,hk,hz,hd,g0,hrow,decb h2,show ¬((0:Int)<i) by omega]
      refine ⟨hlt,_,by rw [wrap64 (by omega)];rfl,rfl,by omega,fun j hji => ?_⟩
      by_cases hje:j=i
      ·subst hje;exact ⟨by rw [gd];exact h2,fun h0=>absurd h0 h4⟩
      ·exact hj j (by omega)
    ·simp only [go_sem,e1,e3,dect h2]
     try exact congrArg Value.bool (decide_eq_false (fun hh:netGood N P=>h2 (by rw [←gd];exact (hh.1 i hlt).1))).symm
   ·simp only [go_sem,e1,e3,hz,h10]
    refine ⟨by kernel_rfl,(c_l1In _ _ _).use (fun _ m=>m) ?_⟩
    rintro _ _ ⟨rfl,rfl⟩
    have hn: ¬netGood N P:=fun hh=>by have:=hh.2.2;omega
    by_cases h6:1<=N∧N<=8
    ·simp only [go_sem,decb h6,show ¬(P.length:Int)<=10 by omega,e1,dect hn]
    ·simp only [go_sem,dect h6,e1,dect hn]
  ·obtain rfl:i=P.length:=by omega
   simp only [go_sem,e1,e3,show ¬((P.length:Int)<P.length) by omega]
   refine ⟨by kernel_rfl,(c_l1In _ _ _).use (fun _ m=>m) ?_⟩
   rintro _ _ ⟨rfl,rfl⟩
   by_cases h6:1<=N∧N<=8
   ·simp only [go_sem,decb h6,e1]
    exact congrArg Value.bool (decide_eq_decide.2 ⟨fun hh=>⟨hj,h6,by omega⟩,fun hh=>by have:=hh.2.2;omega⟩)
   ·simp only [go_sem,dect h6,e1]
    exact congrArg Value.bool (decide_eq_false (fun hh:netGood N P=>h6 hh.2.1)).symm
theorem c_IsValidNetwork {n : Nat} (v : Value) (N : Int) (P : List Pip) (s : NA n h v N P) (hmax : P.length ≤ 1048576) : vCall [] Tryz.prog M 117 [v] h (fun r h' => r = .bool (decide (netGood N P)) ∧ h <+: h') := by
  obtain ⟨w, rfl, s⟩ := s
  replace s : Sl h 4 w (P.map pip) := s.1
  obtain ⟨a, rfl⟩ := Sl.len4 s
  refine body_of mo Tryz.func117 rfl (by kernel_rfl) (Nat.le_of_ble_eq_true (by kernel_rfl)) rfl ?_
  simp only [go_sem]
  refine ⟨by kernel_rfl, (c_inside _ _ _).use (fun _ m => m) ?_⟩
  rintro _ _ ⟨rfl, rfl⟩
  simp only [go_sem]
  by_cases h6 : 1 ≤ N ∧ N ≤ 8
  · simp only [go_sem, decb h6]
    by_cases h7 : (10 : Int) < P.length
    · simp only [go_sem, h7]
      exact congrArg Value.bool (decide_eq_false (fun hh : netGood N P => by have := hh.2.2; omega)).symm
    · simp only [go_sem, h7]
      refine vLoop.count mo P.length (fun i e h' => ∃ t : Heap, e 1 = .pointer (some ⟨h.length, 0, none⟩) ∧ e 16 = .slice a P.length 0 ∧ e 17 = .int .i64 P.length ∧ e 18 = .int .i64 i ∧ h' = h ++ ⟨[.int .i64 N, .slice a P.length 0], 2, .rw⟩ :: t ∧ ∀ j, j < i → pipAt N P j) ?_ ?_
      · exact ⟨[], rfl, rfl, rfl, rfl, rfl, fun j hj => absurd hj (by omega)⟩
      · rintro i e _ hi ⟨t, e1, e16, e17, e18, rfl, hj⟩
        simp only [go_sem, e1, e16, e17, e18]
        refine .intro (fun h1 => ?_) (fun h1 => ?_)
        · have hlt : i < P.length := by simpa using h1
          have hlt' : i < (P.map pip).length := by simpa using hlt
          obtain ⟨id, off, k, hv, hk, _, hd, hall⟩ := s.all (Nat.zero_lt_of_lt hlt')
          obtain rfl : a = some ⟨id, off, none⟩ := by simpa using hv
          have hz : (i : Int) < P.length := by omega
          obtain ⟨hb, hrow, hcell⟩ := hall i hlt'
          rw [List.getElem_map] at hrow
          simp only [pip] at hrow
          have gd : P.getD i pip0 = P[i] := getDp hlt
          have bad : ¬ pipAt N P i → Value.bool false = Value.bool (decide (netGood N P)) := fun hb => congrArg Value.bool (decide_eq_false (fun hh : netGood N P => hb (hh.1 i hlt))).symm
          simp only [go_sem, e1, e16, e17, e18, hz, hk, hd, hrow, hb]
          refine ⟨by kernel_rfl, (c_inside _ _ _).use (fun _ m => m) ?_⟩
          rintro _ _ ⟨rfl, rfl⟩
          by_cases h2 : 1 ≤ P[i].1 ∧ P[i].1 ≤ 99
          · simp only [go_sem, decb h2, e1]
            refine ⟨by kernel_rfl, (c_has _ _ _).use (fun _ m => m) ?_⟩
            rintro _ _ ⟨rfl, ⟨t2, rfl⟩⟩
            simp only [go_sem]
            by_cases h3 : 1 ≤ P[i].2.1 ∧ P[i].2.1 ≤ N
            · simp only [go_sem, decb h2, decb h3, e1]
              refine ⟨by kernel_rfl, (c_has _ _ _).use (fun _ m => m) ?_⟩
              rintro _ _ ⟨rfl, ⟨t3, rfl⟩⟩
              simp only [go_sem]
              by_cases h4 : 1 ≤ P[i].2.2.1 ∧ P[i].2.2.1 ≤ N
              · simp only [go_sem, decb h2, decb h3, decb h4, e1]
                by_cases h5 : P[i].2.1 = P[i].2.2.1
                · simp only [go_sem, show (P[i].2.1 == P[i].2.2.1) = true by simpa using h5, decb h2, decb h3, decb h4, e1]
                  exact bad fun hh => hh.1.2.2.2.1 (by rw [gd]; exact h5)
                · simp only [go_sem, show (P[i].2.1 == P[i].2.2.1) = false by simpa using h5, decb h2, decb h3, decb h4, e1]
                  refine ⟨by kernel_rfl, (c_inside _ _ _).use (fun _ m => m) ?_⟩
                  rintro _ _ ⟨rfl, rfl⟩
                  by_cases h8 : 1 ≤ P[i].2.2.2 ∧ P[i].2.2.2 ≤ 9
                  · have hok : pipOk N P[i] := ⟨h2, h3, h4, h5, h8⟩
                    simp only [go_sem, show (P[i].2.1 == P[i].2.2.1) = false by simpa using h5, decb h2, decb h3, decb h4, decb h8, e1]
                    by_cases h9 : 0 < i
                    · have hp : i - 1 < (P.map pip).length := by omega
                      have g2 := (hall (i - 1) hp).2.2 0 (by omega)
                      rw [List.getElem_map] at g2
                      simp only [pip, List.getElem?_cons_zero, Nat.add_zero] at g2
                      have gd2 : P.getD (i - 1) pip0 = P[i - 1] := getDp (by omega)
                      have q1 : (0 : Int) < i := by omega
                      have q2 : IntKind.i64.wrap ((i : Int) - 1) = ((i - 1 : Nat) : Int) := by rw [wrap64 (by omega)]; omega
                      have q3 : ((i - 1 : Nat) : Int) < P.length := by omega
                      simp only [go_sem, e1, hk, hz, hd, g2, q1, q2, q3]
                      by_cases h10 : P[i].1 ≤ P[i - 1].1
                      · simp only [go_sem, e1, h10, show (P[i].2.1 == P[i].2.2.1) = false by simpa using h5, decb h2, decb h3, decb h4, decb h8]
                        exact bad fun hh => by have := hh.2 h9; rw [gd, gd2] at this; omega
                      · simp only [go_sem, e1, e16, e17, e18, h10, show (P[i].2.1 == P[i].2.2.1) = false by simpa using h5, decb h2, decb h3, decb h4, decb h8]
                        refine ⟨hlt, _, by rw [wrap64 (by omega)]; rfl, rfl, fun j hji => ?_⟩
                        by_cases hje : j = i
                        · subst hje; exact ⟨by rw [gd]; exact hok, fun _ => by rw [gd, gd2]; omega⟩
                        · exact hj j (by omega)
                    · simp only [go_sem, e1, e16, e17, e18, show ¬ ((0 : Int) < i) by omega, show (P[i].2.1 == P[i].2.2.1) = false by simpa using h5, decb h2, decb h3, decb h4, decb h8]
                      refine ⟨hlt, _, by rw [wrap64 (by omega)]; rfl, rfl, fun j hji => ?_⟩
                      by_cases hje : j = i
                      · subst hje; exact ⟨by rw [gd]; exact hok, fun h0 => absurd h0 h9⟩
                      · exact hj j (by omega)
                  · simp only [go_sem, show (P[i].2.1 == P[i].2.2.1) = false by simpa using h5, decb h2, decb h3, decb h4, dect h8, e1]
                    exact bad fun hh => h8 (by rw [← gd]; exact hh.1.2.2.2.2)
              · simp only [go_sem, decb h2, decb h3, dect h4, e1]
                exact bad fun hh => h4 (by rw [← gd]; exact hh.1.2.2.1)
            · simp only [go_sem, decb h2, dect h3, e1]
              exact bad fun hh => h3 (by rw [← gd]; exact hh.1.2.1)
          · simp only [go_sem, dect h2, e1]
            exact bad fun hh => h2 (by rw [← gd]; exact hh.1.1)
        · simp only [go_sem, e1]
          obtain rfl : i = P.length := by have : ¬ i < P.length := by simpa using h1
                                          omega
          exact congrArg Value.bool (decide_eq_true (show netGood N P from ⟨hj, h6, by omega⟩)).symm
  · simp only [go_sem, dect h6]
    exact congrArg Value.bool (decide_eq_false (fun hh : netGood N P => h6 hh.2.1)).symm
end
open Go.HH
def idxI {α:Type} (p:α->Bool) (l:List α):Int:=if l.any p=true then (l.findIdx p:Int) else -1
theorem idxI_at {α:Type} {p:α->Bool} {l:List α} {k:Nat} (h:idxI p l=(k:Int)): ∃hk:k<l.length,p l[k]=true:=by
 unfold idxI at h
 split at h
 ·rename_i h1
  have hlt:=List.findIdx_lt_length.2 (List.any_eq_true.1 h1)
  have e:l.findIdx p=k:=by omega
  subst e
  exact ⟨hlt,List.findIdx_getElem⟩
 ·omega
theorem idxI_is {α:Type} {p:α->Bool} {l:List α} {i:Nat} (hi:i<l.length) (hp:p l[i]=true) (hno: ∀(j:Nat) (hj:j<l.length),j<i->p l[j]=false):idxI p l=i:=by
 have h1:l.findIdx p=i:=(List.findIdx_eq hi).2 ⟨hp,fun j hj=>hno j (by omega) hj⟩
 rw [idxI,if_pos (List.any_eq_true.2 ⟨_,List.getElem_mem hi,hp⟩),h1]
theorem idxI_no {α:Type} {p:α->Bool} {l:List α} (hno: ∀(j:Nat) (hj:j<l.length),p l[j]=false):idxI p l = -1:=by
 rw [idxI,if_neg]
 rw [Bool.not_eq_true,List.any_eq_false]
 intro x hx
 obtain ⟨j,hj,rfl⟩:=List.mem_iff_getElem.1 hx
 rw [hno j hj];simp
def pidx (P:List Pip) (id:Int):Int:=idxI (fun p=>decide (p.1=id)) P
def vidx (V:List Vlv) (id:Int):Int:=idxI (fun v=>decide (v.1=id)) V
def vlv0:Vlv:=(0,0,0,false)
theorem getDv {l:List Vlv} {i:Nat} (hi:i<l.length):l.getD i vlv0=l[i]:=by simp [List.getD,hi]
def isEnd (P:List Pip) (pid nd:Int):Prop:=0<=pidx P pid∧((P.getD (pidx P pid).toNat pip0).2.1=nd∨(P.getD (pidx P pid).toNat pip0).2.2.1=nd)
def vlvAt (P:List Pip) (V:List Vlv) (i:Nat):Prop:=((1<=(V.getD i vlv0).1∧(V.getD i vlv0).1<=99)∧(0<i->(V.getD (i-1) vlv0).1<(V.getD i vlv0).1)∧isEnd P (V.getD i vlv0).2.1 (V.getD i vlv0).2.2.1) ∧
 ∀m,m<i->¬((V.getD m vlv0).2.1=(V.getD i vlv0).2.1∧(V.getD m vlv0).2.2.1=(V.getD i vlv0).2.2.1)
def valOk (N:Int) (P:List Pip) (V:List Vlv):Prop:=netGood N P∧V.length<=10∧∀i,i<V.length->vlvAt P V i
open Classical in
noncomputable instance {N:Int} {P:List Pip} {V:List Vlv}:Decidable (valOk N P V):=propDecidable _
theorem val_bad {N:Int} {P:List Pip} {V:List Vlv} {i:Nat} (hi:i<V.length) (hb: ¬vlvAt P V i):Value.bool false=Value.bool (decide (valOk N P V)):=
 congrArg Value.bool (decide_eq_false (fun hh:valOk N P V=>hb (hh.2.2 i hi))).symm
def othE (p:Pip) (x:Int):Int:=if x=p.2.1 then p.2.2.1 else if x=p.2.2.1 then p.2.1 else 0
theorem othE_zero {N:Int} {P:List Pip} (g:netGood N P) {k:Nat} (hk:k<P.length) {nd:Int}:((¬nd<1)∧¬othE P[k] nd=0)↔(P[k].2.1=nd∨P[k].2.2.1=nd):=by
 have h1:=(g.1 k hk).1
 rw [getDp hk] at h1
 obtain ⟨_,a,b,c,_⟩:=h1
 unfold othE
 constructor
 ·rintro ⟨_,h3⟩
  by_cases q1:nd=P[k].2.1
  ·exact .inl q1.symm
  ·rw [if_neg q1] at h3
   by_cases q2:nd=P[k].2.2.1
   ·exact .inr q2.symm
   ·rw [if_neg q2] at h3;exact absurd rfl h3
 ·intro hh
  refine ⟨by omega, ?_⟩
  by_cases q1:nd=P[k].2.1
  ·rw [if_pos q1];omega
  ·rw [if_neg q1]
   by_cases q2:nd=P[k].2.2.1
   ·rw [if_pos q2];omega
   ·rcases hh with h|h
    ·exact absurd h.symm q1
    ·exact absurd h.symm q2
def EszC (h:Heap) (sz:Nat) (v:Value):Prop:= ∀id o n,v = .slice (some ⟨id,o,none⟩) n 0->0<n->∃k,hget h id=some k∧k.esz=sz
theorem EszC.mono {h h':Heap} {sz:Nat} {v:Value} (s:EszC h sz v) (hp:h<+:h'):EszC h' sz v:=fun id o n e hn=>by
 obtain ⟨k,a,b⟩:=s id o n e hn
 exact ⟨k,by rw [hget_prefix hp (hget_lt a)];exact a,b⟩
theorem FR.eszC {lo hi sz:Nat} {h:Heap} {v:Value} {rows:List (List Value)} (s:FR lo hi sz h v rows):EszC h sz v:=fun id o n e hn=>by
 obtain ⟨id2,rfl,_,_,hg,_⟩:=s
 simp only [Value.slice.injEq,Option.some.injEq,Addr.mk.injEq] at e
 obtain ⟨⟨rfl,_,_⟩,_⟩:=e
 exact ⟨_,hg,rfl⟩
section
variable {h : Heap} {M : Nat → Prop}
theorem c_pipIndex {fid:Nat} {cap:Array Value} (hf:callable Tryz.prog fid=true) (p:Pip->Bool) (v:Value) (l:List Pip) (s:Sl h 4 v (l.map pip)) (hmax:l.length<=1048576)
  (hcb: ∀(M:Nat->Prop) (h':Heap) (x:Pip),h<+:h'->x∈l->vCall [] Tryz.prog M fid (.agg (pip x).toArray::cap.toList) h' (fun r h''=>r = .bool (p x)∧h'<+:h'')) :
  vCall [] Tryz.prog M 160 [v, .func (.func fid) #[] cap] h (fun r h'=>r = .int .i64 (idxI p l)∧h<+:h'):=by
 obtain ⟨a,hv,_,_⟩:=id s
 rw [List.length_map] at hv
 subst hv
 refine body_of mo Tryz.func160 rfl (by kernel_rfl) (Nat.le_of_ble_eq_true (by kernel_rfl)) rfl ?_
 simp only [go_sem]
 refine vLoop.count mo l.length (fun i e h'=> ∃t:Heap,Regs e [(0, .slice a l.length 0),(1, .func (.func fid) #[] cap),(7, .int .i64 l.length),(8, .int .i64 i)]∧HeapIs h' (h++t)∧∀(j:Nat) (hj:j<l.length),j<i->p l[j]=false) ?_ ?_
 ·exact ⟨[],⟨rfl,rfl,rfl,rfl,trivial⟩,by simp [HeapIs],fun j _ hj=>absurd hj (by omega)⟩
 ·rintro i e _ hi ⟨t,⟨e0,e1,e7,e8,_⟩,rfl,hno⟩
  simp only [go_sem,e0,e1,e7,e8]
  by_cases hlt:i<l.length
  ·have ws:=wsucc hlt (by omega)
   have hz:(i:Int)<l.length:=by omega
   have hlt':i<(l.map pip).length:=by simpa using hlt
   obtain ⟨id,o,k,hv,hk,_,hd,hb,hrow,hat⟩:=s.at hlt'
   obtain rfl:a=some ⟨id,o,none⟩:=by simpa using hv
   rw [List.getElem_map] at hrow
   simp only [go_sem,e0,e1,e7,e8,hz,hk,hd,hb,hrow]
   refine ⟨hf,(hcb _ _ l[i] (List.prefix_append _ _) (List.getElem_mem hlt)).use (fun _ m=>m) ?_⟩
   rintro _ _ ⟨rfl,⟨t2,rfl⟩⟩
   simp only [go_sem,e0,e1,e7,e8]
   cases hp:p l[i] with
   | true=>
    simp only [go_sem,e0,e1,e7,e8]
    refine congrArg (Value.int .i64) ?_
    have h1:l.findIdx p=i:=(List.findIdx_eq hlt).2 ⟨hp,fun j hj=>hno j (by omega) hj⟩
    have h2:l.any p=true:=List.any_eq_true.2 ⟨_,List.getElem_mem hlt,hp⟩
    rw [idxI,if_pos h2,h1]
   | false=>
    simp only [go_sem,e0,e1,e7,e8]
    refine ⟨hlt,t++t2,⟨e0,e1,e7,congrArg _ ws,trivial⟩, .rfl,fun j hj hji => ?_⟩
    by_cases h3:j<i
    ·exact hno j hj h3
    ·obtain rfl:j=i:=by omega
     exact hp
  ·obtain rfl:i=l.length:=by omega
   simp only [go_sem,e0,e1,e7,e8,show ¬((l.length:Int)<l.length) by omega]
   rw [idxI,if_neg]
   rw [Bool.not_eq_true,List.any_eq_false]
   intro x hx
   obtain ⟨j,hj,rfl⟩:=List.mem_iff_getElem.1 hx
   rw [hno j hj hj];simp
theorem c_vlvIndex {fid:Nat} {cap:Array Value} (hf:callable Tryz.prog fid=true) (p:Vlv->Bool) (v:Value) (l:List Vlv) (s:Sl h 4 v (l.map vlv)) (hmax:l.length<=1048576)
  (hcb: ∀(M:Nat->Prop) (h':Heap) (x:Vlv),h<+:h'->x∈l->vCall [] Tryz.prog M fid (.agg (vlv x).toArray::cap.toList) h' (fun r h''=>r = .bool (p x)∧h'<+:h'')) :
  vCall [] Tryz.prog M 162 [v, .func (.func fid) #[] cap] h (fun r h'=>r = .int .i64 (idxI p l)∧h<+:h'):=by
 obtain ⟨a,hv,_,_⟩:=id s
 rw [List.length_map] at hv
 subst hv
 refine body_of mo Tryz.func162 rfl (by kernel_rfl) (Nat.le_of_ble_eq_true (by kernel_rfl)) rfl ?_
 simp only [go_sem]
 refine vLoop.count mo l.length (fun i e h'=> ∃t:Heap,Regs e [(0, .slice a l.length 0),(1, .func (.func fid) #[] cap),(7, .int .i64 l.length),(8, .int .i64 i)]∧HeapIs h' (h++t)∧∀(j:Nat) (hj:j<l.length),j<i->p l[j]=false) ?_ ?_
 ·exact ⟨[],⟨rfl,rfl,rfl,rfl,trivial⟩,by simp [HeapIs],fun j _ hj=>absurd hj (by omega)⟩
 ·rintro i e _ hi ⟨t,⟨e0,e1,e7,e8,_⟩,rfl,hno⟩
  simp only [go_sem,e0,e1,e7,e8]
  by_cases hlt:i<l.length
  ·have ws:=wsucc hlt (by omega)
   have hz:(i:Int)<l.length:=by omega
   have hlt':i<(l.map vlv).length:=by simpa using hlt
   obtain ⟨id,o,k,hv,hk,_,hd,hb,hrow,hat⟩:=s.at hlt'
   obtain rfl:a=some ⟨id,o,none⟩:=by simpa using hv
   rw [List.getElem_map] at hrow
   simp only [go_sem,e0,e1,e7,e8,hz,hk,hd,hb,hrow]
   refine ⟨hf,(hcb _ _ l[i] (List.prefix_append _ _) (List.getElem_mem hlt)).use (fun _ m=>m) ?_⟩
   rintro _ _ ⟨rfl,⟨t2,rfl⟩⟩
   simp only [go_sem,e0,e1,e7,e8]
   cases hp:p l[i] with
   | true=>
    simp only [go_sem,e0,e1,e7,e8]
    refine congrArg (Value.int .i64) ?_
    have h1:l.findIdx p=i:=(List.findIdx_eq hlt).2 ⟨hp,fun j hj=>hno j (by omega) hj⟩
    have h2:l.any p=true:=List.any_eq_true.2 ⟨_,List.getElem_mem hlt,hp⟩
    rw [idxI,if_pos h2,h1]
   | false=>
    simp only [go_sem,e0,e1,e7,e8]
    refine ⟨hlt,t++t2,⟨e0,e1,e7,congrArg _ ws,trivial⟩, .rfl,fun j hj hji => ?_⟩
    by_cases h3:j<i
    ·exact hno j hj h3
    ·obtain rfl:j=i:=by omega
     exact hp
  ·obtain rfl:i=l.length:=by omega
   simp only [go_sem,e0,e1,e7,e8,show ¬((l.length:Int)<l.length) by omega]
   rw [idxI,if_neg]
   rw [Bool.not_eq_true,List.any_eq_false]
   intro x hx
   obtain ⟨j,hj,rfl⟩:=List.mem_iff_getElem.1 hx
   rw [hno j hj hj];simp
theorem c_vlvContains {fid:Nat} {cap:Array Value} (hf:callable Tryz.prog fid=true) (p:Vlv->Bool) (v:Value) (l:List Vlv) (s:Sl h 4 v (l.map vlv)) (hmax:l.length<=1048576)
  (hcb: ∀(M:Nat->Prop) (h':Heap) (x:Vlv),h<+:h'->x∈l->vCall [] Tryz.prog M fid (.agg (vlv x).toArray::cap.toList) h' (fun r h''=>r = .bool (p x)∧h'<+:h'')) :
  vCall [] Tryz.prog M 120 [v, .func (.func fid) #[] cap] h (fun r h'=>r = .bool (l.any p)∧h<+:h'):=by
 refine body_of mo Tryz.func120 rfl (by kernel_rfl) (Nat.le_of_ble_eq_true (by kernel_rfl)) rfl ?_
 simp only [go_sem]
 refine ⟨by kernel_rfl,(c_vlvIndex hf p v l s hmax hcb).use (fun _ m=>m) ?_⟩
 rintro _ _ ⟨rfl,⟨t,rfl⟩⟩
 simp only [go_sem]
 refine congrArg Value.bool ?_
 unfold idxI
 cases h1:l.any p<;>simp
theorem c_otherE (p:Pip) (x:Int):vCall [] Tryz.prog M 119 [.agg #[.int .i64 p.1, .int .i64 p.2.1, .int .i64 p.2.2.1, .int .i64 p.2.2.2], .int .i64 x] h (fun r h'=>r = .int .i64 (othE p x)∧h<+:h'):=by
 refine body_of mo Tryz.func119 rfl (by kernel_rfl) (Nat.le_of_ble_eq_true (by kernel_rfl)) rfl ?_
 simp only [go_sem]
 by_cases h1:x=p.2.1
 ·simp only [go_sem,show (x==p.2.1)=true by simpa using h1]
  rw [othE,if_pos h1]
 ·simp only [go_sem,show (x==p.2.1)=false by simpa using h1]
  by_cases h2:x=p.2.2.1
  ·simp only [go_sem,show (x==p.2.2.1)=true by simpa using h2]
   rw [othE,if_neg h1,if_pos h2]
  ·simp only [go_sem,show (x==p.2.2.1)=false by simpa using h2]
   rw [othE,if_neg h1,if_neg h2]
theorem c_pipeIndex1 (x:Pip) (id:Nat) (n:Int) (hb:hget h id=some ⟨[.int .i64 n],1, .rw⟩) :
  vCall [] Tryz.prog M 161 [.agg #[.int .i64 x.1, .int .i64 x.2.1, .int .i64 x.2.2.1, .int .i64 x.2.2.2], .pointer (some ⟨id,0,none⟩)] h (fun r h'=>r = .bool (decide (x.1=n))∧h<+:h'):=by
 refine body_of mo Tryz.func161 rfl (by kernel_rfl) (Nat.le_of_ble_eq_true (by kernel_rfl)) rfl ?_
 have hb1:=self_get hb
 simp only [go_sem,hb1]
 by_cases q:x.1=n
 ·simp [q]
 ·simp [q]
theorem c_pipeIndex {n:Nat} (v:Value) (N:Int) (P:List Pip) (id:Int) (hv:NA n h v N P) (hmax:P.length<=1048576) :
  vCall [] Tryz.prog M 118 [v, .int .i64 id] h (fun r h'=>r = .int .i64 (pidx P id)∧h<+:h'):=by
 obtain ⟨w,rfl,s⟩:=hv
 refine body_of mo Tryz.func118 rfl (by kernel_rfl) (Nat.le_of_ble_eq_true (by kernel_rfl)) rfl ?_
 simp only [go_sem]
 refine ⟨by kernel_rfl,(c_pipIndex (by kernel_rfl) (fun p=>decide (p.1=id)) _ P (s.1.mono (by simp)) hmax (fun M h' x hp _=>c_pipeIndex1 x _ _ (by rw [hget_prefix hp (by simp)];simp only [go_sem]))).use (fun _ m=>m) ?_⟩
 rintro _ _ ⟨rfl,⟨t,rfl⟩⟩
 simp only [go_sem]
 rfl
theorem c_l2Find {n:Nat} (v:Value) (N:Int) (P:List Pip) (id:Int) (hv:NA n h v N P) (hmax:P.length<=1048576) :
  vCall [] Tryz.prog M 99 [v, .int .i64 id] h (fun r h'=>r = .int .i64 (pidx P id)∧h<+:h'):=by
 obtain ⟨w,rfl,s⟩:=hv
 obtain ⟨a,rfl⟩:=Sl.len4 s.1
 refine body_of mo Tryz.func99 rfl (by kernel_rfl) (Nat.le_of_ble_eq_true (by kernel_rfl)) rfl ?_
 simp only [go_sem]
 refine vLoop.count mo P.length (fun i e h'=> ∃t:Heap,e 1 = .int .i64 id∧e 2 = .pointer (some ⟨h.length,0,none⟩)∧e 5 = .int .i64 i∧h'=h++⟨[.int .i64 N, .slice a P.length 0],2, .rw⟩::t∧∀(j:Nat) (hj:j<P.length),j<i->decide (P[j].1=id)=false) ?_ ?_
 ·exact ⟨[],rfl,rfl,rfl,rfl,fun j _ hj=>absurd hj (by omega)⟩
 ·rintro i e _ hi ⟨t,e1,e2,e5,rfl,hno⟩
  simp only [go_sem,e1,e2,e5]
  by_cases hlt:i<P.length
  ·have ws:=wsucc hlt (by omega)
   have hlt':i<(P.map pip).length:=by simpa using hlt
   obtain ⟨id2,o,K,hv,hK,_,hd,hb,hrow,hcell⟩:=s.1.at hlt'
   obtain rfl:a=some ⟨id2,o,none⟩:=by simpa using hv
   have hc0:=hcell 0 (by omega)
   rw [List.getElem_map] at hc0
   simp only [pip,List.getElem?_cons_zero,Nat.add_zero] at hc0
   by_cases q:P[i].1=id
   ·simp only [go_sem,e1,e2,e5,show (i:Int)<P.length by omega,hK,hd,hc0,show (P[i].1==id)=true by simpa using q]
    exact congrArg (Value.int .i64) (idxI_is hlt (decide_eq_true q) hno).symm
   ·simp only [go_sem,e1,e2,e5,show (i:Int)<P.length by omega,hK,hd,hc0,show (P[i].1==id)=false by simpa using q]
    refine ⟨hlt,t,congrArg _ ws,rfl,fun j hj hji => ?_⟩
    by_cases e:j=i
    ·subst e;exact decide_eq_false q
    ·exact hno j hj (by omega)
  ·obtain rfl:i=P.length:=by omega
   simp only [go_sem,e1,e2,e5,show ¬((P.length:Int)<P.length) by omega]
   exact congrArg (Value.int .i64) (idxI_no fun j hj=>hno j hj hj).symm
theorem slTake {sz n:Nat} {a:Option Addr} {rows:List (List Value)} {i:Nat} (s:Sl h sz (.slice a n 0) rows) (hn:n=rows.length) (hi:i<=n):Sl h sz (.slice a i 0) (rows.take i):=by
 subst hn
 obtain ⟨a',e,hl,f⟩:=s
 obtain rfl:a=a':=by simpa using e
 refine ⟨a,by rw [List.length_take,Nat.min_eq_left hi],fun r hr=>hl r (List.mem_of_mem_take hr),fun h0 => ?_⟩
 have hr:rows≠ []:=fun h1=>h0 (by rw [h1];simp)
 obtain ⟨id,off,k,e1,e2,e3,e4,e5⟩:=f hr
 have hlen:((rows.take i).flatten).length=i*sz:=by rw [flatten_len (fun r hr=>hl r (List.mem_of_mem_take hr)),List.length_take,Nat.min_eq_left hi]
 have hmul:i*sz<=rows.length*sz:=Nat.mul_le_mul_right _ hi
 refine ⟨id,off,k,e1,e2,e3,by rw [List.length_take,Nat.min_eq_left hi];omega, ?_⟩
 rw [List.length_take,Nat.min_eq_left hi]
 have e6:(k.cells.drop off).take (i*sz)=((k.cells.drop off).take (rows.length*sz)).take (i*sz):=by rw [List.take_take,Nat.min_eq_left hmul]
 rw [e6,e5]
 conv=>lhs;rw [←List.take_append_drop i rows,List.flatten_append]
 rw [List.take_left' hlen]
theorem c_sameEnd (x y:Vlv) (id:Nat) (hb:hget h id=some ⟨vlv y,4, .rw⟩) :
  vCall [] Tryz.prog M 121 [.agg #[.int .i64 x.1, .int .i64 x.2.1, .int .i64 x.2.2.1, .bool x.2.2.2], .pointer (some ⟨id,0,none⟩)] h (fun r h'=>r = .bool (decide (x.2.1=y.2.1∧x.2.2.1=y.2.2.1))∧h<+:h'):=by
 refine body_of mo Tryz.func121 rfl (by kernel_rfl) (Nat.le_of_ble_eq_true (by kernel_rfl)) rfl ?_
 have hb1:=self_get hb
 simp only [go_sem,hb1,vlv]
 by_cases q:x.2.1=y.2.1
 ·simp only [go_sem,hb1,vlv,show (x.2.1==y.2.1)=true by simpa using q]
  by_cases q2:x.2.2.1=y.2.2.1
  ·simp [q,q2]
  ·simp [q,q2]
 ·simp only [go_sem,hb1,vlv,show (x.2.1==y.2.1)=false by simpa using q]
  simp [q]
set_option maxHeartbeats 4000000 in
theorem c_IsValidValves {n:Nat} (v vv:Value) (N:Int) (P:List Pip) (V:List Vlv) (hv:NA n h v N P) (s:Sl h 4 vv (V.map vlv)) (hes:EszC h 4 vv) (hP:P.length<=1048576) (hV:V.length<=1048576) :
  vCall [] Tryz.prog M 64 [v,vv] h (fun r h'=>r = .bool (decide (valOk N P V))∧h<+:h'):=by
 obtain ⟨w,rfl,sw⟩:=id hv
 obtain ⟨pa,rfl⟩:=Sl.len4 sw.1
 obtain ⟨a,ea,_,_⟩:=id s
 rw [List.length_map] at ea
 subst ea
 refine body_of mo Tryz.func64 rfl (by kernel_rfl) (Nat.le_of_ble_eq_true (by kernel_rfl)) rfl ?_
 simp only [go_sem]
 refine ⟨by kernel_rfl,(c_IsValidNetwork _ N P (hv.mono (by simp)) hP).use (fun _ m=>m) ?_⟩
 rintro _ _ ⟨rfl,⟨t,rfl⟩⟩
 by_cases g1:netGood N P
 ·simp only [go_sem,decb g1]
  by_cases g2:(10:Int)<V.length
  ·simp only [go_sem,g2]
   exact congrArg Value.bool (decide_eq_false (fun hh:valOk N P V=>by have:=hh.2.1;omega)).symm
  ·simp only [go_sem,g2]
   refine vLoop.count mo V.length (fun i e h'=> ∃t:Heap,e 1 = .slice a V.length 0∧e 2 = .pointer (some ⟨h.length,0,none⟩)∧e 16 = .slice a V.length 0∧e 17 = .int .i64 V.length∧e 18 = .int .i64 i∧h'=h++⟨[.int .i64 N, .slice pa P.length 0],2, .rw⟩::t∧∀j,j<i->vlvAt P V j) ?_ ?_
   ·exact ⟨t,rfl,rfl,rfl,rfl,rfl,rfl,fun j hj=>absurd hj (by omega)⟩
   ·rintro i e _ hi ⟨t,e1,e2,e16,e17,e18,rfl,hok⟩
    simp only [go_sem,e1,e2,e16,e17,e18]
    by_cases hlt:i<V.length
    ·have ws:=wsucc hlt (by omega)
     have hlt':i<(V.map vlv).length:=by simpa using hlt
     obtain ⟨id,o,K,hv2,hK,_,hd,hall⟩:=s.all (Nat.zero_lt_of_lt hlt')
     obtain rfl:a=some ⟨id,o,none⟩:=by simpa using hv2
     obtain ⟨hb,hrow,_⟩:=hall i hlt'
     rw [List.getElem_map] at hrow
     simp only [vlv] at hrow
     have gd:V.getD i vlv0=V[i]:=getDv hlt
     have bad: ¬vlvAt P V i->Value.bool false=Value.bool (decide (valOk N P V)):=val_bad hlt
     simp only [go_sem,e1,e2,e16,e17,e18,show (i:Int)<V.length by omega,hK,hd,hb,hrow]
     refine ⟨by kernel_rfl,(c_pipeIndex _ N P _ (hv.mono (by simp)) hP).use (fun _ m=>m) ?_⟩
     rintro _ _ ⟨rfl,⟨t2,rfl⟩⟩
     simp only [go_sem,e1,e2,e16,e17,e18,List.append_assoc]
     refine ⟨by kernel_rfl,(c_inside _ _ _).use (fun _ m=>m) ?_⟩
     rintro _ _ ⟨rfl,rfl⟩
     have hV0:0<V.length:=by omega
     obtain ⟨K4,hK4,hesz⟩:=hes _ _ _ rfl hV0
     obtain rfl:K=K4:=by
      have:=hK []
      rw [List.append_nil] at this
      exact Option.some.inj (this.symm.trans hK4)
     obtain ⟨kx,hkx⟩: ∃kx,pidx P V[i].2.1=kx:=⟨_,rfl⟩
     by_cases q1:1<=V[i].1∧V[i].1<=99
     ·by_cases i0:0<i
      ·have w1:IntKind.i64.wrap ((i:Int)-1)=((i-1:Nat):Int):=by rw [wrap64 (by omega)];omega
       have hlt1:i-1<(V.map vlv).length:=by omega
       obtain ⟨_,_,hcell1⟩:=hall (i-1) hlt1
       have hp0:=hcell1 0 (by omega)
       rw [List.getElem_map] at hp0
       simp only [vlv,List.getElem?_cons_zero,Nat.add_zero] at hp0
       have gd1:V.getD (i-1) vlv0=V[i-1]:=getDv (by omega)
       by_cases q2:V[i].1<=V[i-1].1
       ·simp only [go_sem,e1,e2,e16,e17,e18,decb q1,show (0:Int)<i by omega,w1,show ((i-1:Nat):Int)<V.length by omega,hK,hd,hp0,q2,ge_iff_le,List.append_assoc]
        exact bad (fun hh=>by have:=hh.1.2.1 i0;rw [gd,gd1] at this;omega)
       ·simp only [go_sem,e1,e2,e16,e17,e18,decb q1,show (0:Int)<i by omega,w1,show ((i-1:Nat):Int)<V.length by omega,hK,hd,hp0,q2,ge_iff_le,List.append_assoc,hkx]
        by_cases k0:kx<0
        ·simp only [go_sem,e1,e2,e16,e17,e18,decb q1,show (0:Int)<i by omega,w1,show ((i-1:Nat):Int)<V.length by omega,hK,hd,hp0,q2,ge_iff_le,k0,hkx,List.append_assoc]
         exact bad (fun hh=>by
          have:=hh.1.2.2.1
          rw [gd,hkx] at this
          omega)
        ·obtain ⟨k,rfl⟩:=Int.eq_ofNat_of_zero_le (show 0<=kx by omega)
         obtain ⟨hkl,hkp⟩:=idxI_at hkx
         have hkl':k<(P.map pip).length:=by simpa using hkl
         obtain ⟨idp,op,KP,hvp,hKP,_,hdp,hbp,hrowp,hcp⟩:=sw.1.at hkl'
         obtain rfl:pa=some ⟨idp,op,none⟩:=by simpa using hvp
         rw [List.getElem_map] at hrowp
         simp only [pip] at hrowp
         have ends:isEnd P V[i].2.1 V[i].2.2.1↔(P[k].2.1=V[i].2.2.1∨P[k].2.2.1=V[i].2.2.1):=by
          rw [isEnd,hkx,Int.toNat_natCast,getDp hkl]
          exact ⟨fun hh=>hh.2,fun hh=>⟨by omega,hh⟩⟩
         have hz:=othE_zero g1 hkl (nd:=V[i].2.2.1)
         by_cases n1:V[i].2.2.1<1
         ·simp only [go_sem,e1,e2,e16,e17,e18,decb q1,show (0:Int)<i by omega,w1,show ((i-1:Nat):Int)<V.length by omega,hK,hd,hp0,q2,ge_iff_le,k0,hkx,n1,List.append_assoc]
          exact bad (fun hh=>by
           have:=hh.1.2.2
           rw [gd] at this
           exact (hz.2 (ends.1 this)).1 n1)
         ·simp only [go_sem,e1,e2,e16,e17,e18,decb q1,show (0:Int)<i by omega,w1,show ((i-1:Nat):Int)<V.length by omega,hK,hd,hp0,q2,ge_iff_le,k0,hkx,n1,show (k:Int)<P.length by omega,hKP,hdp,hbp,hrowp,List.append_assoc]
          refine ⟨by kernel_rfl,(c_otherE _ _).use (fun _ m=>m) ?_⟩
          rintro _ _ ⟨rfl,⟨t3,rfl⟩⟩
          by_cases o1:othE P[k] V[i].2.2.1=0
          ·simp only [go_sem,e1,e2,e16,e17,e18,decb q1,show (0:Int)<i by omega,w1,show ((i-1:Nat):Int)<V.length by omega,hK,hd,hp0,q2,ge_iff_le,k0,hkx,n1,show (othE P[k] V[i].2.2.1==0)=true by simpa using o1,show (k:Int)<P.length by omega,hKP,hdp,hbp,hrowp,List.append_assoc]
           exact bad (fun hh=>by
            have:=hh.1.2.2
            rw [gd] at this
            exact (hz.2 (ends.1 this)).2 o1)
          ·have e0:isEnd P V[i].2.1 V[i].2.2.1:=ends.2 (hz.1 ⟨n1,o1⟩)
           simp only [go_sem,e1,e2,e16,e17,e18,decb q1,show (0:Int)<i by omega,w1,show ((i-1:Nat):Int)<V.length by omega,hK,hd,hp0,q2,ge_iff_le,k0,hkx,n1,show (othE P[k] V[i].2.2.1==0)=false by simpa using o1,show (k:Int)<P.length by omega,hKP,hdp,hbp,hrowp,List.append_assoc,onSl_more hV0,hK,hesz,show i<=V.length by omega]
           refine ⟨Nat.zero_le _, ?_⟩
           refine ⟨by kernel_rfl,(c_vlvContains (by kernel_rfl) (fun x=>decide (x.2.1=V[i].2.1∧x.2.2.1=V[i].2.2.1)) _ (V.take i) (by rw [List.map_take];exact slTake (s.mono (by simp)) (by simp) (by omega)) (by rw [List.length_take];omega) (fun M h' x hp _=>c_sameEnd x V[i] _ (by rw [hget_prefix hp (by simp)];simp only [go_sem,vlv]))).use (fun _ m=>m) ?_⟩
           rintro _ _ ⟨rfl,⟨t4,rfl⟩⟩
           cases hany:(V.take i).any (fun x=>decide (x.2.1=V[i].2.1∧x.2.2.1=V[i].2.2.1)) with
           | true=>
            simp only [go_sem,e1,e2,e16,e17,e18,List.append_assoc]
            exact bad (fun hh=>by
             obtain ⟨x,hx,hp⟩:=List.any_eq_true.1 hany
             obtain ⟨m,hm,rfl⟩:=List.mem_iff_getElem.1 hx
             rw [List.length_take] at hm
             have:=hh.2 m (by omega)
             rw [gd,getDv (by omega)] at this
             rw [List.getElem_take] at hp
             exact this (of_decide_eq_true hp))
           | false=>
            simp only [go_sem,e1,e2,e16,e17,e18,List.append_assoc]
            refine ⟨hlt,_,congrArg _ ws,rfl,fun j hj => ?_⟩
            by_cases ej:j=i
            ·subst ej
             refine ⟨⟨by rw [gd];exact q1,fun _=>by rw [gd,gd1];omega,by rw [gd];exact e0⟩,fun m hm hh => ?_⟩
             rw [gd,getDv (by omega)] at hh
             have:=List.any_eq_false.1 hany V[m] (List.mem_take_iff_getElem.2 ⟨m,by omega,rfl⟩)
             exact this (decide_eq_true hh)
            ·exact hok j (by omega)
      ·simp only [go_sem,e1,e2,e16,e17,e18,decb q1,show ¬(0:Int)<i by omega,List.append_assoc,hkx]
       by_cases k0:kx<0
       ·simp only [go_sem,e1,e2,e16,e17,e18,decb q1,show ¬(0:Int)<i by omega,k0,hkx,List.append_assoc]
        exact bad (fun hh=>by
         have:=hh.1.2.2.1
         rw [gd,hkx] at this
         omega)
       ·obtain ⟨k,rfl⟩:=Int.eq_ofNat_of_zero_le (show 0<=kx by omega)
        obtain ⟨hkl,hkp⟩:=idxI_at hkx
        have hkl':k<(P.map pip).length:=by simpa using hkl
        obtain ⟨idp,op,KP,hvp,hKP,_,hdp,hbp,hrowp,hcp⟩:=sw.1.at hkl'
        obtain rfl:pa=some ⟨idp,op,none⟩:=by simpa using hvp
        rw [List.getElem_map] at hrowp
        simp only [pip] at hrowp
        have ends:isEnd P V[i].2.1 V[i].2.2.1↔(P[k].2.1=V[i].2.2.1∨P[k].2.2.1=V[i].2.2.1):=by
         rw [isEnd,hkx,Int.toNat_natCast,getDp hkl]
         exact ⟨fun hh=>hh.2,fun hh=>⟨by omega,hh⟩⟩
        have hz:=othE_zero g1 hkl (nd:=V[i].2.2.1)
        by_cases n1:V[i].2.2.1<1
        ·simp only [go_sem,e1,e2,e16,e17,e18,decb q1,show ¬(0:Int)<i by omega,k0,hkx,n1,List.append_assoc]
         exact bad (fun hh=>by
          have:=hh.1.2.2
          rw [gd] at this
          exact (hz.2 (ends.1 this)).1 n1)
        ·simp only [go_sem,e1,e2,e16,e17,e18,decb q1,show ¬(0:Int)<i by omega,k0,hkx,n1,show (k:Int)<P.length by omega,hKP,hdp,hbp,hrowp,List.append_assoc]
         refine ⟨by kernel_rfl,(c_otherE _ _).use (fun _ m=>m) ?_⟩
         rintro _ _ ⟨rfl,⟨t3,rfl⟩⟩
         by_cases o1:othE P[k] V[i].2.2.1=0
         ·simp only [go_sem,e1,e2,e16,e17,e18,decb q1,show ¬(0:Int)<i by omega,k0,hkx,n1,show (othE P[k] V[i].2.2.1==0)=true by simpa using o1,show (k:Int)<P.length by omega,hKP,hdp,hbp,hrowp,List.append_assoc]
          exact bad (fun hh=>by
           have:=hh.1.2.2
           rw [gd] at this
           exact (hz.2 (ends.1 this)).2 o1)
         ·have e0:isEnd P V[i].2.1 V[i].2.2.1:=ends.2 (hz.1 ⟨n1,o1⟩)
          simp only [go_sem,e1,e2,e16,e17,e18,decb q1,show ¬(0:Int)<i by omega,k0,hkx,n1,show (othE P[k] V[i].2.2.1==0)=false by simpa using o1,show (k:Int)<P.length by omega,hKP,hdp,hbp,hrowp,List.append_assoc,onSl_more hV0,hK,hesz,show i<=V.length by omega]
          refine ⟨Nat.zero_le _, ?_⟩
          refine ⟨by kernel_rfl,(c_vlvContains (by kernel_rfl) (fun x=>decide (x.2.1=V[i].2.1∧x.2.2.1=V[i].2.2.1)) _ (V.take i) (by rw [List.map_take];exact slTake (s.mono (by simp)) (by simp) (by omega)) (by rw [List.length_take];omega) (fun M h' x hp _=>c_sameEnd x V[i] _ (by rw [hget_prefix hp (by simp)];simp only [go_sem,vlv]))).use (fun _ m=>m) ?_⟩
          rintro _ _ ⟨rfl,⟨t4,rfl⟩⟩
          cases hany:(V.take i).any (fun x=>decide (x.2.1=V[i].2.1∧x.2.2.1=V[i].2.2.1)) with
          | true=>
           simp only [go_sem,e1,e2,e16,e17,e18,List.append_assoc]
           exact bad (fun hh=>by
            obtain ⟨x,hx,hp⟩:=List.any_eq_true.1 hany
            obtain ⟨m,hm,rfl⟩:=List.mem_iff_getElem.1 hx
            rw [List.length_take] at hm
            have:=hh.2 m (by omega)
            rw [gd,getDv (by omega)] at this
            rw [List.getElem_take] at hp
            exact this (of_decide_eq_true hp))
          | false=>
           simp only [go_sem,e1,e2,e16,e17,e18,List.append_assoc]
           refine ⟨hlt,_,congrArg _ ws,rfl,fun j hj => ?_⟩
           by_cases ej:j=i
           ·subst ej
            refine ⟨⟨by rw [gd];exact q1,fun h0=>absurd h0 i0,by rw [gd];exact e0⟩,fun m hm hh => ?_⟩
            rw [gd,getDv (by omega)] at hh
            have:=List.any_eq_false.1 hany V[m] (List.mem_take_iff_getElem.2 ⟨m,by omega,rfl⟩)
            exact this (decide_eq_true hh)
           ·exact hok j (by omega)
     ·simp only [go_sem,e1,e2,e16,e17,e18,dect q1,List.append_assoc]
      exact bad (fun hh=>q1 (by rw [←gd];exact hh.1.1))
    ·obtain rfl:i=V.length:=by omega
     simp only [go_sem,e1,e2,e16,e17,e18,show ¬((V.length:Int)<V.length) by omega]
     exact congrArg Value.bool (decide_eq_true (p:=valOk N P V) ⟨g1,by omega,hok⟩).symm
 ·simp only [go_sem,dect g1]
  exact congrArg Value.bool (decide_eq_false (fun hh:valOk N P V=>g1 hh.1)).symm
set_option maxHeartbeats 4000000 in
theorem c_l4Good {n:Nat} (v vv:Value) (N:Int) (P:List Pip) (V:List Vlv) (hv:NA n h v N P) (s:Sl h 4 vv (V.map vlv)) (hP:P.length<=1048576) (hV:V.length<=1048576) :
  vCall [] Tryz.prog M 110 [v,vv] h (fun r h'=>r = .bool (decide (valOk N P V))∧h<+:h'):=by
 obtain ⟨w,rfl,sw⟩:=id hv
 obtain ⟨pa,rfl⟩:=Sl.len4 sw.1
 obtain ⟨a,ea,_,_⟩:=id s
 rw [List.length_map] at ea
 subst ea
 refine body_of mo Tryz.func110 rfl (by kernel_rfl) (Nat.le_of_ble_eq_true (by kernel_rfl)) rfl ?_
 simp only [go_sem]
 refine ⟨by kernel_rfl,(c_l2Good _ N P (hv.mono (by simp)) hP).use (fun _ m=>m) ?_⟩
 rintro _ _ ⟨rfl,⟨t,rfl⟩⟩
 by_cases g1:netGood N P
 ·simp only [go_sem,decb g1]
  by_cases g2:(10:Int)<V.length
  ·simp only [go_sem,g2]
   exact congrArg Value.bool (decide_eq_false (fun hh:valOk N P V=>by have:=hh.2.1;omega)).symm
  ·simp only [go_sem,g2]
   refine vLoop.count mo V.length (fun i e h'=> ∃t:Heap,e 1 = .slice a V.length 0∧e 2 = .pointer (some ⟨h.length,0,none⟩)∧e 5 = .int .i64 i∧h'=h++⟨[.int .i64 N, .slice pa P.length 0],2, .rw⟩::t∧∀j,j<i->vlvAt P V j) ?_ ?_
   ·exact ⟨t,rfl,rfl,rfl,rfl,fun j hj=>absurd hj (by omega)⟩
   ·rintro i e _ hi ⟨t,e1,e2,e5,rfl,hok⟩
    simp only [go_sem,e1,e2,e5]
    by_cases hlt:i<V.length
    ·have ws:=wsucc hlt (by omega)
     have hlt':i<(V.map vlv).length:=by simpa using hlt
     obtain ⟨id,o,K,hv2,hK,_,hd,hall⟩:=s.all (Nat.zero_lt_of_lt hlt')
     obtain rfl:a=some ⟨id,o,none⟩:=by simpa using hv2
     obtain ⟨hb,hrow,_⟩:=hall i hlt'
     rw [List.getElem_map] at hrow
     simp only [vlv] at hrow
     have gd:V.getD i vlv0=V[i]:=getDv hlt
     have bad: ¬vlvAt P V i->Value.bool false=Value.bool (decide (valOk N P V)):=val_bad hlt
     simp only [go_sem,e1,e2,e5,show (i:Int)<V.length by omega,hK,hd,hb,hrow]
     refine ⟨by kernel_rfl,(c_l2Find _ N P _ (hv.mono (by simp)) hP).use (fun _ m=>m) ?_⟩
     rintro _ _ ⟨rfl,⟨t2,rfl⟩⟩
     simp only [go_sem,e1,e2,e5,List.append_assoc]
     refine ⟨by kernel_rfl,(c_l1In _ _ _).use (fun _ m=>m) ?_⟩
     rintro _ _ ⟨rfl,rfl⟩
     obtain ⟨kx,hkx⟩: ∃kx,pidx P V[i].2.1=kx:=⟨_,rfl⟩
     by_cases q1:1<=V[i].1∧V[i].1<=99
     ·by_cases i0:0<i
      ·have w1:IntKind.i64.wrap ((i:Int)-1)=((i-1:Nat):Int):=by rw [wrap64 (by omega)];omega
       have hlt1:i-1<(V.map vlv).length:=by omega
       obtain ⟨_,_,hcell1⟩:=hall (i-1) hlt1
       have hp0:=hcell1 0 (by omega)
       rw [List.getElem_map] at hp0
       simp only [vlv,List.getElem?_cons_zero,Nat.add_zero] at hp0
       have gd1:V.getD (i-1) vlv0=V[i-1]:=getDv (by omega)
       by_cases q2:V[i].1<=V[i-1].1
       ·simp only [go_sem,e1,e2,e5,decb q1,show (0:Int)<i by omega,w1,show ((i-1:Nat):Int)<V.length by omega,hK,hd,hp0,q2,ge_iff_le,List.append_assoc]
        exact bad (fun hh=>by have:=hh.1.2.1 i0;rw [gd,gd1] at this;omega)
       ·simp only [go_sem,e1,e2,e5,decb q1,show (0:Int)<i by omega,w1,show ((i-1:Nat):Int)<V.length by omega,hK,hd,hp0,q2,ge_iff_le,List.append_assoc,hkx]
        by_cases k0:kx<0
        ·simp only [go_sem,e1,e2,e5,decb q1,show (0:Int)<i by omega,w1,show ((i-1:Nat):Int)<V.length by omega,hK,hd,hp0,q2,ge_iff_le,k0,hkx,List.append_assoc]
         exact bad (fun hh=>by
          have:=hh.1.2.2.1
          rw [gd,hkx] at this
          omega)
        ·obtain ⟨k,rfl⟩:=Int.eq_ofNat_of_zero_le (show 0<=kx by omega)
         obtain ⟨hkl,hkp⟩:=idxI_at hkx
         have hkl':k<(P.map pip).length:=by simpa using hkl
         obtain ⟨idp,op,KP,hvp,hKP,_,hdp,hbp,hrowp,hcp⟩:=sw.1.at hkl'
         obtain rfl:pa=some ⟨idp,op,none⟩:=by simpa using hvp
         have p1:=hcp 1 (by omega)
         have p2:=hcp 2 (by omega)
         rw [List.getElem_map] at p1 p2
         simp only [pip,List.getElem?_cons_zero,List.getElem?_cons_succ] at p1 p2
         have ends:isEnd P V[i].2.1 V[i].2.2.1↔(P[k].2.1=V[i].2.2.1∨P[k].2.2.1=V[i].2.2.1):=by
          rw [isEnd,hkx,Int.toNat_natCast,getDp hkl]
          exact ⟨fun hh=>hh.2,fun hh=>⟨by omega,hh⟩⟩
         by_cases z1:P[k].2.1=V[i].2.2.1
         ·simp only [go_sem,e1,e2,e5,decb q1,show (0:Int)<i by omega,w1,show ((i-1:Nat):Int)<V.length by omega,hK,hd,hp0,q2,ge_iff_le,k0,hkx,show (k:Int)<P.length by omega,hKP,hdp,p1,p2,show (P[k].2.1 != V[i].2.2.1)=false by simpa using z1,List.append_assoc]
          have hend:P[k].2.1=V[i].2.2.1∨P[k].2.2.1=V[i].2.2.1 := .inl z1
          have e0:isEnd P V[i].2.1 V[i].2.2.1:=ends.2 hend
          refine vLoop.count mo i (fun m e h'=> ∃t:Heap,e 1 = .slice (some ⟨id,o,none⟩) V.length 0∧e 2 = .pointer (some ⟨h.length,0,none⟩)∧e 5 = .int .i64 i∧e 8 = .int .i64 m∧(∃j:Nat,e 6 = .pointer (some ⟨h.length+j,0,none⟩)∧(⟨[.int .i64 N, .slice (some ⟨idp,op,none⟩) P.length 0],2, .rw⟩::t)[j]? = some ⟨vlv V[i],4, .rw⟩) ∧
            h'=h++⟨[.int .i64 N, .slice (some ⟨idp,op,none⟩) P.length 0],2, .rw⟩::t∧∀q,q<m->¬((V.getD q vlv0).2.1=V[i].2.1∧(V.getD q vlv0).2.2.1=V[i].2.2.1)) ?_ ?_
          ·exact ⟨_,by simp [upd,e1],by simp [upd,e2],by simp [upd,e5],by simp [upd],⟨t.length+1,by simp [upd],by simp [vlv]⟩,rfl,fun q hq=>absurd hq (by omega)⟩
          ·rintro m e _ hm ⟨t,e1,e2,e5,e8,⟨j6,e6,hj6⟩,rfl,hno⟩
           simp only [go_sem,e1,e2,e5,e6,e8]
           by_cases hmlt:m<i
           ·have wsm:=wsucc hmlt (by omega)
            have hm':m<(V.map vlv).length:=by omega
            obtain ⟨_,_,hcm⟩:=hall m hm'
            have c1:=hcm 1 (by omega)
            have c2:=hcm 2 (by omega)
            rw [List.getElem_map] at c1 c2
            simp only [vlv,List.getElem?_cons_zero,List.getElem?_cons_succ] at c1 c2
            have gdm:V.getD m vlv0=V[m]:=getDv (by omega)
            by_cases z1:V[m].2.1=V[i].2.1
            ·by_cases z2:V[m].2.2.1=V[i].2.2.1
             ·simp only [go_sem,e1,e2,e5,e6,e8,show (m:Int)<i by omega,show (m:Int)<V.length by omega,hK,hd,c1,c2,hj6,vlv,show (V[m].2.1==V[i].2.1)=true by simpa using z1,show (V[m].2.2.1==V[i].2.2.1)=true by simpa using z2]
              exact bad (fun hh=>by
               have:=hh.2 m hmlt
               rw [gd,gdm] at this
               exact this ⟨z1,z2⟩)
             ·simp only [go_sem,e1,e2,e5,e6,e8,show (m:Int)<i by omega,show (m:Int)<V.length by omega,hK,hd,c1,c2,hj6,vlv,show (V[m].2.1==V[i].2.1)=true by simpa using z1,show (V[m].2.2.1==V[i].2.2.1)=false by simpa using z2]
              refine ⟨hmlt,t,congrArg _ wsm,⟨j6,rfl,hj6⟩,rfl,fun q hq hh => ?_⟩
              by_cases eq:q=m
              ·subst eq;rw [gdm] at hh;exact z2 hh.2
              ·exact hno q (by omega) hh
            ·simp only [go_sem,e1,e2,e5,e6,e8,show (m:Int)<i by omega,show (m:Int)<V.length by omega,hK,hd,c1,c2,hj6,vlv,show (V[m].2.1==V[i].2.1)=false by simpa using z1]
             refine ⟨hmlt,t,congrArg _ wsm,⟨j6,rfl,hj6⟩,rfl,fun q hq hh => ?_⟩
             by_cases eq:q=m
             ·subst eq;rw [gdm] at hh;exact z1 hh.1
             ·exact hno q (by omega) hh
           ·obtain rfl:m=i:=by omega
            simp only [go_sem,e1,e2,e5,e6,e8,show ¬((m:Int)<m) by omega]
            refine ⟨hlt,t,congrArg _ ws,rfl,fun j hj => ?_⟩
            by_cases ej:j=m
            ·subst ej
             refine ⟨⟨by rw [gd];exact q1,fun _=>by rw [gd,gd1];omega,by rw [gd];exact e0⟩,fun q hq hh => ?_⟩
             rw [gd] at hh
             exact hno q hq hh
            ·exact hok j (by omega)
         ·by_cases z2:P[k].2.2.1=V[i].2.2.1
          ·simp only [go_sem,e1,e2,e5,decb q1,show (0:Int)<i by omega,w1,show ((i-1:Nat):Int)<V.length by omega,hK,hd,hp0,q2,ge_iff_le,k0,hkx,show (k:Int)<P.length by omega,hKP,hdp,p1,p2,show (P[k].2.1 != V[i].2.2.1)=true by simpa using z1,show (P[k].2.2.1 != V[i].2.2.1)=false by simpa using z2,List.append_assoc]
           have hend:P[k].2.1=V[i].2.2.1∨P[k].2.2.1=V[i].2.2.1 := .inr z2
           have e0:isEnd P V[i].2.1 V[i].2.2.1:=ends.2 hend
           refine vLoop.count mo i (fun m e h'=> ∃t:Heap,e 1 = .slice (some ⟨id,o,none⟩) V.length 0∧e 2 = .pointer (some ⟨h.length,0,none⟩)∧e 5 = .int .i64 i∧e 8 = .int .i64 m∧(∃j:Nat,e 6 = .pointer (some ⟨h.length+j,0,none⟩)∧(⟨[.int .i64 N, .slice (some ⟨idp,op,none⟩) P.length 0],2, .rw⟩::t)[j]? = some ⟨vlv V[i],4, .rw⟩) ∧
             h'=h++⟨[.int .i64 N, .slice (some ⟨idp,op,none⟩) P.length 0],2, .rw⟩::t∧∀q,q<m->¬((V.getD q vlv0).2.1=V[i].2.1∧(V.getD q vlv0).2.2.1=V[i].2.2.1)) ?_ ?_
           ·exact ⟨_,by simp [upd,e1],by simp [upd,e2],by simp [upd,e5],by simp [upd],⟨t.length+1,by simp [upd],by simp [vlv]⟩,rfl,fun q hq=>absurd hq (by omega)⟩
           ·rintro m e _ hm ⟨t,e1,e2,e5,e8,⟨j6,e6,hj6⟩,rfl,hno⟩
            simp only [go_sem,e1,e2,e5,e6,e8]
            by_cases hmlt:m<i
            ·have wsm:=wsucc hmlt (by omega)
             have hm':m<(V.map vlv).length:=by omega
             obtain ⟨_,_,hcm⟩:=hall m hm'
             have c1:=hcm 1 (by omega)
             have c2:=hcm 2 (by omega)
             rw [List.getElem_map] at c1 c2
             simp only [vlv,List.getElem?_cons_zero,List.getElem?_cons_succ] at c1 c2
             have gdm:V.getD m vlv0=V[m]:=getDv (by omega)
             by_cases z1:V[m].2.1=V[i].2.1
             ·by_cases z2:V[m].2.2.1=V[i].2.2.1
              ·simp only [go_sem,e1,e2,e5,e6,e8,show (m:Int)<i by omega,show (m:Int)<V.length by omega,hK,hd,c1,c2,hj6,vlv,show (V[m].2.1==V[i].2.1)=true by simpa using z1,show (V[m].2.2.1==V[i].2.2.1)=true by simpa using z2]
               exact bad (fun hh=>by
                have:=hh.2 m hmlt
                rw [gd,gdm] at this
                exact this ⟨z1,z2⟩)
              ·simp only [go_sem,e1,e2,e5,e6,e8,show (m:Int)<i by omega,show (m:Int)<V.length by omega,hK,hd,c1,c2,hj6,vlv,show (V[m].2.1==V[i].2.1)=true by simpa using z1,show (V[m].2.2.1==V[i].2.2.1)=false by simpa using z2]
               refine ⟨hmlt,t,congrArg _ wsm,⟨j6,rfl,hj6⟩,rfl,fun q hq hh => ?_⟩
               by_cases eq:q=m
               ·subst eq;rw [gdm] at hh;exact z2 hh.2
               ·exact hno q (by omega) hh
             ·simp only [go_sem,e1,e2,e5,e6,e8,show (m:Int)<i by omega,show (m:Int)<V.length by omega,hK,hd,c1,c2,hj6,vlv,show (V[m].2.1==V[i].2.1)=false by simpa using z1]
              refine ⟨hmlt,t,congrArg _ wsm,⟨j6,rfl,hj6⟩,rfl,fun q hq hh => ?_⟩
              by_cases eq:q=m
              ·subst eq;rw [gdm] at hh;exact z1 hh.1
              ·exact hno q (by omega) hh
            ·obtain rfl:m=i:=by omega
             simp only [go_sem,e1,e2,e5,e6,e8,show ¬((m:Int)<m) by omega]
             refine ⟨hlt,t,congrArg _ ws,rfl,fun j hj => ?_⟩
             by_cases ej:j=m
             ·subst ej
              refine ⟨⟨by rw [gd];exact q1,fun _=>by rw [gd,gd1];omega,by rw [gd];exact e0⟩,fun q hq hh => ?_⟩
              rw [gd] at hh
              exact hno q hq hh
             ·exact hok j (by omega)
          ·simp only [go_sem,e1,e2,e5,decb q1,show (0:Int)<i by omega,w1,show ((i-1:Nat):Int)<V.length by omega,hK,hd,hp0,q2,ge_iff_le,k0,hkx,show (k:Int)<P.length by omega,hKP,hdp,p1,p2,show (P[k].2.1 != V[i].2.2.1)=true by simpa using z1,show (P[k].2.2.1 != V[i].2.2.1)=true by simpa using z2,List.append_assoc]
           exact bad (fun hh=>by
            have:=hh.1.2.2
            rw [gd] at this
            rcases ends.1 this with h1|h1
            ·exact z1 h1
            ·exact z2 h1)
      ·simp only [go_sem,e1,e2,e5,decb q1,show ¬(0:Int)<i by omega,List.append_assoc,hkx]
       by_cases k0:kx<0
       ·simp only [go_sem,e1,e2,e5,decb q1,show ¬(0:Int)<i by omega,k0,hkx,List.append_assoc]
        exact bad (fun hh=>by
         have:=hh.1.2.2.1
         rw [gd,hkx] at this
         omega)
       ·obtain ⟨k,rfl⟩:=Int.eq_ofNat_of_zero_le (show 0<=kx by omega)
        obtain ⟨hkl,hkp⟩:=idxI_at hkx
        have hkl':k<(P.map pip).length:=by simpa using hkl
        obtain ⟨idp,op,KP,hvp,hKP,_,hdp,hbp,hrowp,hcp⟩:=sw.1.at hkl'
        obtain rfl:pa=some ⟨idp,op,none⟩:=by simpa using hvp
        have p1:=hcp 1 (by omega)
        have p2:=hcp 2 (by omega)
        rw [List.getElem_map] at p1 p2
        simp only [pip,List.getElem?_cons_zero,List.getElem?_cons_succ] at p1 p2
        have ends:isEnd P V[i].2.1 V[i].2.2.1↔(P[k].2.1=V[i].2.2.1∨P[k].2.2.1=V[i].2.2.1):=by
         rw [isEnd,hkx,Int.toNat_natCast,getDp hkl]
         exact ⟨fun hh=>hh.2,fun hh=>⟨by omega,hh⟩⟩
        by_cases z1:P[k].2.1=V[i].2.2.1
        ·simp only [go_sem,e1,e2,e5,decb q1,show ¬(0:Int)<i by omega,k0,hkx,show (k:Int)<P.length by omega,hKP,hdp,p1,p2,show (P[k].2.1 != V[i].2.2.1)=false by simpa using z1,List.append_assoc]
         have hend:P[k].2.1=V[i].2.2.1∨P[k].2.2.1=V[i].2.2.1 := .inl z1
         have e0:isEnd P V[i].2.1 V[i].2.2.1:=ends.2 hend
         refine vLoop.count mo i (fun m e h'=> ∃t:Heap,e 1 = .slice (some ⟨id,o,none⟩) V.length 0∧e 2 = .pointer (some ⟨h.length,0,none⟩)∧e 5 = .int .i64 i∧e 8 = .int .i64 m∧(∃j:Nat,e 6 = .pointer (some ⟨h.length+j,0,none⟩)∧(⟨[.int .i64 N, .slice (some ⟨idp,op,none⟩) P.length 0],2, .rw⟩::t)[j]? = some ⟨vlv V[i],4, .rw⟩) ∧
           h'=h++⟨[.int .i64 N, .slice (some ⟨idp,op,none⟩) P.length 0],2, .rw⟩::t∧∀q,q<m->¬((V.getD q vlv0).2.1=V[i].2.1∧(V.getD q vlv0).2.2.1=V[i].2.2.1)) ?_ ?_
         ·exact ⟨_,by simp [upd,e1],by simp [upd,e2],by simp [upd,e5],by simp [upd],⟨t.length+1,by simp [upd],by simp [vlv]⟩,rfl,fun q hq=>absurd hq (by omega)⟩
         ·rintro m e _ hm ⟨t,e1,e2,e5,e8,⟨j6,e6,hj6⟩,rfl,hno⟩
          simp only [go_sem,e1,e2,e5,e6,e8]
          by_cases hmlt:m<i
          ·have wsm:=wsucc hmlt (by omega)
           have hm':m<(V.map vlv).length:=by omega
           obtain ⟨_,_,hcm⟩:=hall m hm'
           have c1:=hcm 1 (by omega)
           have c2:=hcm 2 (by omega)
           rw [List.getElem_map] at c1 c2
           simp only [vlv,List.getElem?_cons_zero,List.getElem?_cons_succ] at c1 c2
           have gdm:V.getD m vlv0=V[m]:=getDv (by omega)
           by_cases z1:V[m].2.1=V[i].2.1
           ·by_cases z2:V[m].2.2.1=V[i].2.2.1
            ·simp only [go_sem,e1,e2,e5,e6,e8,show (m:Int)<i by omega,show (m:Int)<V.length by omega,hK,hd,c1,c2,hj6,vlv,show (V[m].2.1==V[i].2.1)=true by simpa using z1,show (V[m].2.2.1==V[i].2.2.1)=true by simpa using z2]
             exact bad (fun hh=>by
              have:=hh.2 m hmlt
              rw [gd,gdm] at this
              exact this ⟨z1,z2⟩)
            ·simp only [go_sem,e1,e2,e5,e6,e8,show (m:Int)<i by omega,show (m:Int)<V.length by omega,hK,hd,c1,c2,hj6,vlv,show (V[m].2.1==V[i].2.1)=true by simpa using z1,show (V[m].2.2.1==V[i].2.2.1)=false by simpa using z2]
             refine ⟨hmlt,t,congrArg _ wsm,⟨j6,rfl,hj6⟩,rfl,fun q hq hh => ?_⟩
             by_cases eq:q=m
             ·subst eq;rw [gdm] at hh;exact z2 hh.2
             ·exact hno q (by omega) hh
           ·simp only [go_sem,e1,e2,e5,e6,e8,show (m:Int)<i by omega,show (m:Int)<V.length by omega,hK,hd,c1,c2,hj6,vlv,show (V[m].2.1==V[i].2.1)=false by simpa using z1]
            refine ⟨hmlt,t,congrArg _ wsm,⟨j6,rfl,hj6⟩,rfl,fun q hq hh => ?_⟩
            by_cases eq:q=m
            ·subst eq;rw [gdm] at hh;exact z1 hh.1
            ·exact hno q (by omega) hh
          ·obtain rfl:m=i:=by omega
           simp only [go_sem,e1,e2,e5,e6,e8,show ¬((m:Int)<m) by omega]
           refine ⟨hlt,t,congrArg _ ws,rfl,fun j hj => ?_⟩
           by_cases ej:j=m
           ·subst ej
            refine ⟨⟨by rw [gd];exact q1,fun h0=>absurd h0 i0,by rw [gd];exact e0⟩,fun q hq hh => ?_⟩
            rw [gd] at hh
            exact hno q hq hh
           ·exact hok j (by omega)
        ·by_cases z2:P[k].2.2.1=V[i].2.2.1
         ·simp only [go_sem,e1,e2,e5,decb q1,show ¬(0:Int)<i by omega,k0,hkx,show (k:Int)<P.length by omega,hKP,hdp,p1,p2,show (P[k].2.1 != V[i].2.2.1)=true by simpa using z1,show (P[k].2.2.1 != V[i].2.2.1)=false by simpa using z2,List.append_assoc]
          have hend:P[k].2.1=V[i].2.2.1∨P[k].2.2.1=V[i].2.2.1 := .inr z2
          have e0:isEnd P V[i].2.1 V[i].2.2.1:=ends.2 hend
          refine vLoop.count mo i (fun m e h'=> ∃t:Heap,e 1 = .slice (some ⟨id,o,none⟩) V.length 0∧e 2 = .pointer (some ⟨h.length,0,none⟩)∧e 5 = .int .i64 i∧e 8 = .int .i64 m∧(∃j:Nat,e 6 = .pointer (some ⟨h.length+j,0,none⟩)∧(⟨[.int .i64 N, .slice (some ⟨idp,op,none⟩) P.length 0],2, .rw⟩::t)[j]? = some ⟨vlv V[i],4, .rw⟩) ∧
            h'=h++⟨[.int .i64 N, .slice (some ⟨idp,op,none⟩) P.length 0],2, .rw⟩::t∧∀q,q<m->¬((V.getD q vlv0).2.1=V[i].2.1∧(V.getD q vlv0).2.2.1=V[i].2.2.1)) ?_ ?_
          ·exact ⟨_,by simp [upd,e1],by simp [upd,e2],by simp [upd,e5],by simp [upd],⟨t.length+1,by simp [upd],by simp [vlv]⟩,rfl,fun q hq=>absurd hq (by omega)⟩
          ·rintro m e _ hm ⟨t,e1,e2,e5,e8,⟨j6,e6,hj6⟩,rfl,hno⟩
           simp only [go_sem,e1,e2,e5,e6,e8]
           by_cases hmlt:m<i
           ·have wsm:=wsucc hmlt (by omega)
            have hm':m<(V.map vlv).length:=by omega
            obtain ⟨_,_,hcm⟩:=hall m hm'
            have c1:=hcm 1 (by omega)
            have c2:=hcm 2 (by omega)
            rw [List.getElem_map] at c1 c2
            simp only [vlv,List.getElem?_cons_zero,List.getElem?_cons_succ] at c1 c2
            have gdm:V.getD m vlv0=V[m]:=getDv (by omega)
            by_cases z1:V[m].2.1=V[i].2.1
            ·by_cases z2:V[m].2.2.1=V[i].2.2.1
             ·simp only [go_sem,e1,e2,e5,e6,e8,show (m:Int)<i by omega,show (m:Int)<V.length by omega,hK,hd,c1,c2,hj6,vlv,show (V[m].2.1==V[i].2.1)=true by simpa using z1,show (V[m].2.2.1==V[i].2.2.1)=true by simpa using z2]
              exact bad (fun hh=>by
               have:=hh.2 m hmlt
               rw [gd,gdm] at this
               exact this ⟨z1,z2⟩)
             ·simp only [go_sem,e1,e2,e5,e6,e8,show (m:Int)<i by omega,show (m:Int)<V.length by omega,hK,hd,c1,c2,hj6,vlv,show (V[m].2.1==V[i].2.1)=true by simpa using z1,show (V[m].2.2.1==V[i].2.2.1)=false by simpa using z2]
              refine ⟨hmlt,t,congrArg _ wsm,⟨j6,rfl,hj6⟩,rfl,fun q hq hh => ?_⟩
              by_cases eq:q=m
              ·subst eq;rw [gdm] at hh;exact z2 hh.2
              ·exact hno q (by omega) hh
            ·simp only [go_sem,e1,e2,e5,e6,e8,show (m:Int)<i by omega,show (m:Int)<V.length by omega,hK,hd,c1,c2,hj6,vlv,show (V[m].2.1==V[i].2.1)=false by simpa using z1]
             refine ⟨hmlt,t,congrArg _ wsm,⟨j6,rfl,hj6⟩,rfl,fun q hq hh => ?_⟩
             by_cases eq:q=m
             ·subst eq;rw [gdm] at hh;exact z1 hh.1
             ·exact hno q (by omega) hh
           ·obtain rfl:m=i:=by omega
            simp only [go_sem,e1,e2,e5,e6,e8,show ¬((m:Int)<m) by omega]
            refine ⟨hlt,t,congrArg _ ws,rfl,fun j hj => ?_⟩
            by_cases ej:j=m
            ·subst ej
             refine ⟨⟨by rw [gd];exact q1,fun h0=>absurd h0 i0,by rw [gd];exact e0⟩,fun q hq hh => ?_⟩
             rw [gd] at hh
             exact hno q hq hh
            ·exact hok j (by omega)
         ·simp only [go_sem,e1,e2,e5,decb q1,show ¬(0:Int)<i by omega,k0,hkx,show (k:Int)<P.length by omega,hKP,hdp,p1,p2,show (P[k].2.1 != V[i].2.2.1)=true by simpa using z1,show (P[k].2.2.1 != V[i].2.2.1)=true by simpa using z2,List.append_assoc]
          exact bad (fun hh=>by
           have:=hh.1.2.2
           rw [gd] at this
           rcases ends.1 this with h1|h1
           ·exact z1 h1
           ·exact z2 h1)
     ·simp only [go_sem,e1,e2,e5,dect q1,List.append_assoc]
      exact bad (fun hh=>q1 (by rw [←gd];exact hh.1.1))
    ·obtain rfl:i=V.length:=by omega
     simp only [go_sem,e1,e2,e5,show ¬((V.length:Int)<V.length) by omega]
     exact congrArg Value.bool (decide_eq_true (p:=valOk N P V) ⟨g1,by omega,hok⟩).symm
 ·simp only [go_sem,dect g1]
  exact congrArg Value.bool (decide_eq_false (fun hh:valOk N P V=>g1 hh.1)).symm
end
open Go.HH Go.Proofs
def lnk (P:List Pip) (op:Pip->Int->Bool) (x y:Nat):Prop:=
 ∃(i:Nat) (hi:i<P.length) (nd:Int),(nd=P[i].2.1∨nd=P[i].2.2.1)∧op P[i] nd=true∧((x=nd.toNat∧y=9+i)∨(x=9+i∧y=nd.toNat))
inductive Rch (P:List Pip) (op:Pip->Int->Bool) (s:Nat):Nat->Prop
 | here:Rch P op s s
 | step {x y:Nat}:Rch P op s x->lnk P op x y->Rch P op s y
open Classical in
noncomputable instance {P:List Pip} {op:Pip->Int->Bool} {s x:Nat}:Decidable (Rch P op s x):=propDecidable _
theorem Rch.all {P:List Pip} {op:Pip->Int->Bool} {s:Nat} {E:Nat->Prop} (h0:E s) (hs: ∀x,E x->Rch P op s x)
  (hc: ∀(i:Nat) (hi:i<P.length) (nd:Int),(nd=P[i].2.1∨nd=P[i].2.2.1)->op P[i] nd=true->(E nd.toNat↔E (9+i))) (x:Nat):E x↔Rch P op s x:=by
 refine ⟨hs x,fun r => ?_⟩
 induction r with
 | here=>exact h0
 | step _ l ih=>
  obtain ⟨i,hi,nd,he,ho,⟨rfl,rfl⟩|⟨rfl,rfl⟩⟩:=l
  ·exact (hc i hi nd he ho).1 ih
  ·exact (hc i hi nd he ho).2 ih
def ev (e:List Bool) (x:Nat):Bool:=e.getD x false
theorem ev_set {e:List Bool} {x y:Nat} (hx:x<e.length):ev (e.set x true) y=(ev e y||decide (x=y)):=by
 unfold ev
 simp only [List.getD_eq_getElem?_getD,List.getElem?_set]
 by_cases h:x=y
 ·subst h;simp [hx]
 ·simp [h]
def lacks (e:List Bool):Nat:=e.countP fun b => !b
theorem lacks_set {e:List Bool} {x:Nat} (hx:x<e.length) (h:ev e x=false):lacks (e.set x true)+1=lacks e:=by
 unfold lacks
 have hb:e[x]=false:=by simpa [ev,List.getD,hx] using h
 have h2:0<e.countP fun b => !b:=List.countP_pos_iff.2 ⟨_,List.getElem_mem hx,by simp [hb]⟩
 rw [List.countP_set (by exact hx)]
 simp [hb]
 omega
theorem lacks_same {e:List Bool} {x:Nat} (hx:x<e.length) (h:ev e x=true):e.set x true=e:=by
 have hb:e[x]=true:=by simpa [ev,List.getD,hx] using h
 rw [←hb]
 exact List.set_getElem_self hx
structure Mks (P:List Pip) (op:Pip->Int->Bool) (s:Nat) (e:List Bool):Prop where
 len:e.length=19
 has:ev e s=true
 ok: ∀x,ev e x=true->Rch P op s x
def evened (P:List Pip) (op:Pip->Int->Bool) (e:List Bool) (i:Nat) (nd:Int):Prop:= ∀hi:i<P.length,op P[i] nd=true->ev e nd.toNat=ev e (9+i)
def evenTo (P:List Pip) (op:Pip->Int->Bool) (e:List Bool) (i k:Nat):Prop:=
 (∀j,j<i->∀hj:j<P.length,evened P op e j P[j].2.1∧evened P op e j P[j].2.2.1)∧(∀hi:i<P.length,(0<k->evened P op e i P[i].2.1)∧(1<k->evened P op e i P[i].2.2.1))
section
variable {P : List Pip} {op : Pip → Int → Bool} {s : Nat} {e : List Bool}
theorem Mks.init (hs:s<19):Mks P op s ((List.replicate 19 false).set s true):=by
 refine ⟨by simp, ?_,fun x hx => ?_⟩
 ·rw [ev_set (by simpa using hs)];simp
 ·rw [ev_set (by simpa using hs)] at hx
  have h0:ev (List.replicate 19 false) x=false:=by
   unfold ev
   rw [List.getD_eq_getElem?_getD,List.getElem?_replicate]
   split<;>rfl
  rw [h0] at hx
  have:s=x:=by simpa using hx
  exact this ▸ .here
theorem Mks.mark (m:Mks P op s e) {i:Nat} (hi:i<P.length) (hP:P.length<=10) {nd:Int} (he:nd=P[i].2.1∨nd=P[i].2.2.1) (hr:0<=nd∧nd<=8) (ho:op P[i] nd=true) (hne:ev e nd.toNat≠ev e (9+i)) :
  Mks P op s ((e.set nd.toNat true).set (9+i) true)∧lacks ((e.set nd.toNat true).set (9+i) true)+1=lacks e:=by
 have hl:=m.len
 have h1:nd.toNat<e.length:=by omega
 have h2:9+i<e.length:=by omega
 have h2':9+i<(e.set nd.toNat true).length:=by simpa using h2
 have hd:nd.toNat≠9+i:=by omega
 refine ⟨⟨by simpa using hl, ?_,fun x hx => ?_⟩, ?_⟩
 ·rw [ev_set h2',ev_set h1,m.has];simp
 ·rw [ev_set h2',ev_set h1] at hx
  by_cases hx0:ev e x=true
  ·exact m.ok x hx0
  ·rw [Bool.not_eq_true] at hx0
   rw [hx0] at hx
   have hx1:nd.toNat=x∨9+i=x:=by simpa using hx
   rcases hx1 with rfl|rfl
   ·have:ev e (9+i)=true:=by
     cases hh:ev e (9+i)
     ·rw [hx0,hh] at hne;exact absurd rfl hne
     ·rfl
    exact .step (m.ok _ this) ⟨i,hi,nd,he,ho, .inr ⟨rfl,rfl⟩⟩
   ·have:ev e nd.toNat=true:=by
     cases hh:ev e nd.toNat
     ·rw [hx0,hh] at hne;exact absurd rfl hne
     ·rfl
    exact .step (m.ok _ this) ⟨i,hi,nd,he,ho, .inl ⟨rfl,rfl⟩⟩
 ·cases hh:ev e nd.toNat
  ·have h3:ev e (9+i)=true:=by
    cases h3:ev e (9+i)
    ·rw [hh,h3] at hne;exact absurd rfl hne
    ·rfl
   have h4:ev (e.set nd.toNat true) (9+i)=true:=by rw [ev_set h1,h3];rfl
   rw [lacks_same h2' h4,lacks_set h1 hh]
  ·have h3:ev e (9+i)=false:=by
    cases h3:ev e (9+i)
    ·rfl
    ·rw [hh,h3] at hne;exact absurd rfl hne
   rw [lacks_same h1 hh,lacks_set h2 h3]
theorem Mks.done (m:Mks P op s e) (c:evenTo P op e P.length 0) (x:Nat):ev e x=true↔Rch P op s x:=by
 refine Rch.all (E:=fun x=>ev e x=true) m.has m.ok (fun i hi nd he ho => ?_) x
 have:=c.1 i hi hi
 rcases he with rfl|rfl
 ·rw [this.1 hi ho]
 ·rw [this.2 hi ho]
theorem evenTo.zero:evenTo P op e 0 0:=⟨fun j hj=>absurd hj (by omega),fun hi=>⟨fun h=>absurd h (by omega),fun h=>absurd h (by omega)⟩⟩
theorem evenTo.next {i:Nat} (c:evenTo P op e i 2):evenTo P op e (i+1) 0:=by
 refine ⟨fun j hj hjl => ?_,fun hi=>⟨fun h=>absurd h (by omega),fun h=>absurd h (by omega)⟩⟩
 by_cases h1:j<i
 ·exact c.1 j h1 hjl
 ·obtain rfl:j=i:=by omega
  exact ⟨(c.2 hjl).1 (by omega),(c.2 hjl).2 (by omega)⟩
theorem evenTo.more {i k:Nat} {nd:Int} (c:evenTo P op e i k) (hk:k<2) (hi:i<P.length) (hn:nd=if k=0 then P[i].2.1 else P[i].2.2.1) (h:evened P op e i nd):evenTo P op e i (k+1):=by
 refine ⟨c.1,fun _=>⟨fun _ => ?_,fun h1 => ?_⟩⟩
 ·by_cases h0:k=0
  ·rw [if_pos h0] at hn;exact hn▸h
  ·exact (c.2 hi).1 (by omega)
 ·rw [if_neg (by omega)] at hn
  exact hn▸h
end
end Go.Proofs.YtedidddimikjhaaGreatDoor
