/- Texts of this claim, joined. No condition. -/
import Derived.Test.YtedidddimikjhaaGreatDoorReplayPart6
import Derived.Test.YtedidddimikjhaaGreatDoorReplayPart7
import Derived.Test.YtedidddimikjhaaGreatDoorReplayPart4
import Derived.Lib.Bytealg
import Derived.Lib.IndexAny
import Derived.Test.YtedidddimikjhaaGreatDoorReplayPart5
import Derived.Test.YtedidddimikjhaaGreatDoorRows
import Derived.Stop.LaidErr
set_option linter.unusedSimpArgs false
set_option linter.unusedVariables false
namespace Go.Proofs.YtedidddimikjhaaGreatDoor
open Go.HH Go.Proofs
def shutV (V:List Vlv) (plan:List Int):List Vlv:=V.map fun v=>(v.1,v.2.1,v.2.2.1,v.2.2.2||decide (v.1∈plan))
theorem shutV_len {V:List Vlv} {plan:List Int}:(shutV V plan).length=V.length:=by simp [shutV]
theorem shutV_uniq {V:List Vlv} {plan:List Int} (u:vuniq V):vuniq (shutV V plan):=fun i m hi hm=>by
 have hi':i<V.length:=by simpa [shutV] using hi
 have:=u i m hi' hm
 simpa [shutV] using this
noncomputable def isoB (P:List Pip) (V:List Vlv) (s k:Nat) (plan:List Int):Bool := !decide (Rch P (opn (shutV V plan) true) s (9+k))
theorem blk_shut {V:List Vlv} {p q:List Int} (h: ∀v∈V,v.2.2.2=false->v.1∈p->v.1∈q) {pid nd:Int} (hb:blk (shutV V p) pid nd true=true):blk (shutV V q) pid nd true=true:=by
 unfold blk shutV at *
 obtain ⟨x,hx,hh⟩:=List.any_eq_true.1 hb
 obtain ⟨v,hv,rfl⟩:=List.mem_map.1 hx
 refine List.any_eq_true.2 ⟨_,List.mem_map.2 ⟨v,hv,rfl⟩, ?_⟩
 simp only [Bool.and_eq_true,decide_eq_true_eq,Bool.not_true,Bool.false_or,Bool.or_eq_true] at hh ⊢
 refine ⟨hh.1, ?_⟩
 cases hs:v.2.2.2 with
 | true=>exact .inl rfl
 | false=>
  rcases hh.2 with h1|h1
  ·rw [hs] at h1;cases h1
  ·exact .inr (h v hv hs h1)
theorem Rch.weaker {P:List Pip} {op op':Pip->Int->Bool} (h: ∀p nd,op p nd=true->op' p nd=true) {s x:Nat} (r:Rch P op s x):Rch P op' s x:=by
 induction r with
 | here=>exact .here
 | step _ l ih=>
  obtain ⟨i,hi,nd,a,b,c⟩:=l
  exact .step ih ⟨i,hi,nd,a,h _ _ b,c⟩
theorem iso_more {P:List Pip} {V:List Vlv} {s k:Nat} {p q:List Int} (h: ∀v∈V,v.2.2.2=false->v.1∈p->v.1∈q) (hi:isoB P V s k p=true):isoB P V s k q=true:=by
 unfold isoB at *
 rw [Bool.not_eq_true',decide_eq_false_iff_not] at hi ⊢
 intro r
 refine hi (r.weaker fun pp nd ho => ?_)
 unfold opn at *
 rw [Bool.not_eq_true'] at ho ⊢
 cases hb:blk (shutV V p) pp.1 nd true
 ·rfl
 ·rw [blk_shut h hb] at ho;cases ho
def openVl (V:List Vlv):List Int:=(V.filter fun v => !v.2.2.2).map fun v=>v.1
theorem openVl_mem {V:List Vlv} {v:Vlv} (hv:v∈V) (ho:v.2.2.2=false):v.1∈openVl V:=List.mem_map.2 ⟨v,List.mem_filter.2 ⟨hv,by simp [ho]⟩,rfl⟩
theorem openVl_len {V:List Vlv}:(openVl V).length<=V.length:=by
 unfold openVl
 rw [List.length_map]
 exact List.length_filter_le _ _
noncomputable def bst (P:List Pip) (V:List Vlv) (s k:Nat):Nat->Option (List Int)
 | 0=>none
 | n+1=>if isoB P V s k (choice (openVl V) n (openVl V).length)=true then
   match bst P V s k n with
   | none=>some (choice (openVl V) n (openVl V).length)
   | some d=>if (choice (openVl V) n (openVl V).length).length<d.length∨((choice (openVl V) n (openVl V).length).length=d.length∧lexL (choice (openVl V) n (openVl V).length) d=true) then some (choice (openVl V) n (openVl V).length) else some d
  else bst P V s k n
theorem bst_none {P:List Pip} {V:List Vlv} {s k:Nat} (h:isoB P V s k (openVl V)=false) (n:Nat):bst P V s k n=none:=by
 induction n with
 | zero=>rfl
 | succ n ih=>
  rw [bst,if_neg,ih]
  intro hh
  have:=iso_more (q:=openVl V) (fun v hv ho _=>openVl_mem hv ho) hh
  rw [h] at this;cases this
theorem bst_len {P:List Pip} {V:List Vlv} {s k:Nat}: ∀ {n:Nat} {d:List Int},bst P V s k n=some d->d.length<=(openVl V).length
 | 0,d,h=>by cases h
 | n+1,d,h=>by
  unfold bst at h
  split at h
  ·split at h
   ·cases h;exact choice_len
   ·rename_i d' hd'
    split at h
    ·cases h;exact choice_len
    ·cases h;exact bst_len hd'
  ·exact bst_len h
section
variable {h : Heap} {M : Nat → Prop}
theorem c_sIndexI {n:Nat} (v:Value) (l:List Int) (x:Int) (s:AI n h v l) (hmax:l.length<=1048576):vCall [] Tryz.prog M 266 [v, .int .i64 x] h (fun r h'=>(∃z,r = .int .i64 z∧(0<=z↔x∈l))∧h=h'):=by
 obtain ⟨a,rfl⟩:=s.len
 refine body_of mo Tryz.func266 rfl (by kernel_rfl) (Nat.le_of_ble_eq_true (by kernel_rfl)) rfl ?_
 simp only [go_sem]
 refine vLoop.count mo l.length (fun i e h'=>Regs e [(0, .slice a l.length 0),(1, .int .i64 x),(7, .int .i64 l.length),(8, .int .i64 i)]∧HeapIs h' h∧x∉l.take i) ?_ ?_
 ·exact ⟨⟨rfl,rfl,rfl,rfl,trivial⟩, .rfl,by simp⟩
 ·rintro i e _ hi ⟨⟨e0,e1,e7,e8,_⟩,rfl,hx⟩
  simp only [go_sem,e0,e1,e7,e8]
  by_cases hlt:i<l.length
  ·have ws:=wsucc hlt (by omega)
   have hz:(i:Int)<l.length:=by omega
   obtain ⟨id,off,k,hv,_,_,hk,hd,_,_,_,hat⟩:=s.at (Nat.zero_lt_of_lt hlt)
   obtain rfl:a=some ⟨id,off,none⟩:=by simpa using hv
   simp only [go_sem,e0,e1,e7,e8,hk,hat i hlt,hz,hd]
   by_cases h2:x=l[i]
   ·simp only [go_sem,e0,e1,e7,e8,show (x==l[i])=true by simpa using h2]
    exact ⟨i,rfl,⟨fun _=>h2▸List.getElem_mem hlt,fun _=>by omega⟩⟩
   ·simp only [go_sem,e0,e1,e7,e8,show (x==l[i])=false by simpa using h2]
    refine ⟨hlt,⟨e0,e1,e7,congrArg _ ws,trivial⟩, .rfl, ?_⟩
    rw [List.take_add_one,List.getElem?_eq_getElem hlt,List.mem_append]
    simp [hx,h2]
  ·obtain rfl:i=l.length:=by omega
   rw [List.take_length] at hx
   simp only [go_sem,e0,e1,e7,e8,show ¬((l.length:Int)<l.length) by omega]
   exact ⟨_,rfl,⟨fun hh=>absurd hh (by decide),fun hh=>absurd hh hx⟩⟩
theorem c_sContains {n:Nat} (v:Value) (l:List Int) (x:Int) (s:AI n h v l) (hmax:l.length<=1048576):vCall [] Tryz.prog M 264 [v, .int .i64 x] h (fun r h'=>r = .bool (decide (x∈l))∧h=h'):=by
 refine body_of mo Tryz.func264 rfl (by kernel_rfl) (Nat.le_of_ble_eq_true (by kernel_rfl)) rfl ?_
 simp only [go_sem]
 refine ⟨by kernel_rfl,(c_sIndexI v l x s hmax).use (fun _ m=>m) ?_⟩
 rintro _ _ ⟨⟨z,rfl,hz⟩,rfl⟩
 simp only [go_sem]
 exact congrArg Value.bool (decide_eq_decide.2 hz)
theorem set3 {P Q:List Value} {x y z w d:Value} {n:Nat} (hn:P.length=n):setRange (P++x::y::z::w::Q) (n+3) [d]=P++x::y::z::d::Q:=by
 have e1:P++x::y::z::w::Q=(P++ [x,y,z])++w::Q:=by simp
 have hl:(P++ [x,y,z]).length=n+3:=by simp [hn]
 rw [e1,setRange, ←hl,List.take_left' rfl,List.length_singleton, ←List.drop_drop,List.drop_left' rfl]
 simp
theorem c_shutToo (w vp:Value) (V:List Vlv) (plan:List Int) (sv:Sl h 4 w (V.map vlv)) (sp:SI h vp plan) (hV:V.length<=1000) (hp:plan.length<=1000) :
  vCall [] Tryz.prog M 254 [w,vp] h (fun r h'=>Sl h' 4 r ((shutV V plan).map vlv)∧h<+:h'):=by
 obtain ⟨a,ew,_,_⟩:=id sv
 rw [List.length_map] at ew
 subst ew
 refine body_of mo Tryz.func254 rfl (by kernel_rfl) (Nat.le_of_ble_eq_true (by kernel_rfl)) rfl ?_
 by_cases v0:V= []
 ·subst v0
  simp only [go_sem]
  refine vLoop.count mo 0 (fun i e h'=>Regs e [(5, .slice (some ⟨h.length,0,none⟩) 0 0),(11, .int .i64 0),(12, .int .i64 0)]∧HeapIs h' (h++ [⟨[],4, .rw⟩])) ?_ ?_
  ·exact ⟨⟨rfl,rfl,rfl,trivial⟩, .rfl⟩
  ·rintro i e _ hi ⟨⟨e5,e11,e12,_⟩,rfl⟩
   simp only [go_sem,e5,e11,e12]
   exact ⟨_,rfl,fun r hr=>by simp [shutV] at hr,fun h0=>absurd rfl h0⟩
 ·have hv0:0<V.length:=List.length_pos_iff.2 v0
  obtain ⟨id,off,k,ev,hk,hd,hbb,hfl⟩:=sv.copy (by simpa using v0)
  rw [List.length_map] at ev hbb hfl
  obtain rfl:a=some ⟨id,off,none⟩:=by simpa using ev
  simp only [go_sem,onApp_more hv0,hv0,oneVv,flV,hk,hd,hbb,hfl,show V.length<=9223372036854775807 by omega,show V.length*32<=140737488355328 by omega]
  refine vLoop.count mo V.length (fun i e h'=>Regs e [(1,vp),(5, .slice (some ⟨h.length+1,0,none⟩) V.length 0),(11, .int .i64 V.length),(12, .int .i64 i)] ∧
   HeapIs h' (h++ [⟨[],4, .dead⟩,⟨((shutV (V.take i) plan).map vlv).flatten++((V.drop i).map vlv).flatten,4, .rw⟩])) ?_ ?_
  ·exact ⟨⟨rfl,rfl,rfl,rfl,trivial⟩, .rfl⟩
  ·rintro i e _ hi ⟨⟨e1,e5,e11,e12,_⟩,rfl⟩
   by_cases hlt:i<V.length
   ·have hz:(i:Int)<V.length:=by omega
    have ws:=wsucc hlt (by omega)
    have hPl:((shutV (V.take i) plan).map vlv).flatten.length=i*4:=by rw [flV,shutV_len,List.length_take];omega
    have hdr:((V.drop i).map vlv).flatten = .int .i64 V[i].1 :: .int .i64 V[i].2.1 :: .int .i64 V[i].2.2.1 :: .bool V[i].2.2.2::((V.drop (i+1)).map vlv).flatten:=by
     rw [List.drop_eq_getElem_cons hlt];rfl
    have hnext:((shutV (V.take (i+1)) plan).map vlv).flatten++((V.drop (i+1)).map vlv).flatten=((shutV (V.take i) plan).map vlv).flatten ++ .int .i64 V[i].1 :: .int .i64 V[i].2.1 :: .int .i64 V[i].2.2.1 :: .bool (V[i].2.2.2||decide (V[i].1∈plan))::((V.drop (i+1)).map vlv).flatten:=by
     rw [List.take_succ_eq_append_getElem hlt,shutV,List.map_append,List.map_append,List.flatten_append]
     simp [shutV,vlv]
    obtain ⟨A,hA⟩: ∃A,A=((shutV (V.take i) plan).map vlv).flatten:=⟨_,rfl⟩
    obtain ⟨B,hB⟩: ∃B,B=((V.drop (i+1)).map vlv).flatten:=⟨_,rfl⟩
    rw [hdr, ←hB, ←hA]
    rw [←hB, ←hA] at hnext
    rw [←hA] at hPl
    have i0:(A ++ .int .i64 V[i].1 :: .int .i64 V[i].2.1 :: .int .i64 V[i].2.2.1 :: .bool V[i].2.2.2::B)[i*4]? = some (.int .i64 V[i].1):=by
     rw [List.getElem?_append_right (by omega),hPl,Nat.sub_self];rfl
    have i3:(A ++ .int .i64 V[i].1 :: .int .i64 V[i].2.1 :: .int .i64 V[i].2.2.1 :: .bool V[i].2.2.2::B)[i*4+3]? = some (.bool V[i].2.2.2):=by
     rw [List.getElem?_append_right (by omega),hPl,Nat.add_sub_cancel_left];rfl
    have st: ∀d,setRange (A ++ .int .i64 V[i].1 :: .int .i64 V[i].2.1 :: .int .i64 V[i].2.2.1 :: .bool V[i].2.2.2::B) (i*4+3) [d]=A ++ .int .i64 V[i].1 :: .int .i64 V[i].2.1 :: .int .i64 V[i].2.2.1::d::B:=fun d=>set3 hPl
    have lst:i*4+3+1<=(A ++ .int .i64 V[i].1 :: .int .i64 V[i].2.1 :: .int .i64 V[i].2.2.1 :: .bool V[i].2.2.2::B).length:=by
     rw [List.length_append,hPl];simp only [List.length_cons];omega
    simp only [go_sem,e1,e5,e11,e12,hz,i0,i3,st]
    cases q:V[i].2.2.2 with
    | true=>
     rw [q] at i0 i3 st lst hnext
     rw [Bool.true_or] at hnext
     simp only [go_sem,e1,e5,e11,e12,hz,i0,i3,st,q]
     refine ⟨by omega,hlt,⟨e1,e5,e11,congrArg _ ws,trivial⟩, ?_⟩
     rw [hnext]
     exact .rfl
    | false=>
     rw [q] at i0 i3 st lst hnext
     rw [Bool.false_or] at hnext
     simp only [go_sem,e1,e5,e11,e12,hz,i0,i3,st,q]
     refine ⟨by kernel_rfl,(c_sContains vp plan _ (sp.mono (by simp)) (by omega)).use (fun _ m=>m) ?_⟩
     rintro _ _ ⟨rfl,rfl⟩
     simp only [go_sem,e1,e5,e11,e12,hz,i0,i3,st,q]
     refine ⟨by omega,hlt,⟨e1,e5,e11,congrArg _ ws,trivial⟩, ?_⟩
     rw [hnext]
     exact .rfl
   ·obtain rfl:i=V.length:=by omega
    simp only [go_sem,e1,e5,e11,e12,show ¬((V.length:Int)<V.length) by omega]
    rw [List.take_length,List.drop_length,List.map_nil,List.flatten_nil,List.append_nil]
    have:=Sl.whole (h:=h++ [⟨[],4, .dead⟩,⟨((shutV V plan).map vlv).flatten,4, .rw⟩]) (id:=h.length+1) (sz:=4) (rows:=(shutV V plan).map vlv) (esz:=4) (st := .rw) (by decide) (fun r hr=>by obtain ⟨x,_,rfl⟩:=List.mem_map.1 hr;rfl) hget_lit1
    rw [List.length_map,shutV_len] at this
    exact this
def turnV (V:List Vlv) (i:Nat) (sh:Bool):List Vlv:=V.set i ((V.getD i vlv0).1,(V.getD i vlv0).2.1,(V.getD i vlv0).2.2.1,sh)
theorem turnV_len {V:List Vlv} {i:Nat} {sh:Bool}:(turnV V i sh).length=V.length:=by simp [turnV]
theorem turnV_flat {V:List Vlv} {i:Nat} {sh:Bool} (hi:i<V.length):((turnV V i sh).map vlv).flatten=((V.take i).map vlv).flatten ++ .int .i64 V[i].1 :: .int .i64 V[i].2.1 :: .int .i64 V[i].2.2.1 :: .bool sh::((V.drop (i+1)).map vlv).flatten:=by
 rw [turnV,getDv hi,List.set_eq_take_append_cons_drop,if_pos hi,List.map_append,List.flatten_append]
 rfl
theorem flat_cut {V:List Vlv} {i:Nat} (hi:i<V.length):(V.map vlv).flatten=((V.take i).map vlv).flatten ++ .int .i64 V[i].1 :: .int .i64 V[i].2.1 :: .int .i64 V[i].2.2.1 :: .bool V[i].2.2.2::((V.drop (i+1)).map vlv).flatten:=by
 conv=>lhs;rw [←List.take_append_drop i V,List.drop_eq_getElem_cons hi,List.map_append,List.flatten_append]
 rfl
theorem set4all {P Q:List Value} {x y z w a b c d:Value} {n:Nat} (hn:P.length=n):setRange (P++x::y::z::w::Q) n [a,b,c,d]=P++a::b::c::d::Q:=by
 have e1:P++x::y::z::w::Q=P++([x,y,z,w]++Q):=by simp
 rw [e1,setRange, ←hn,List.take_left' rfl, ←List.drop_drop,List.drop_left' rfl]
 simp
theorem c_l4Turned (w:Value) (V:List Vlv) (i:Nat) (sh:Bool) (sv:Sl h 4 w (V.map vlv)) (hi:i<V.length) (hV:V.length<=1000) :
  vCall [] Tryz.prog M 192 [w, .int .i64 i, .bool sh] h (fun r h'=>Sl h' 4 r ((turnV V i sh).map vlv)∧h<+:h'):=by
 obtain ⟨a,ew,_,_⟩:=id sv
 rw [List.length_map] at ew
 subst ew
 have hv0:0<V.length:=by omega
 have hz:(i:Int)<V.length:=by omega
 have z0:(0:Int)<=i:=by omega
 obtain ⟨id,off,k,ev,hk,hd,hbb,hfl⟩:=sv.copy (by have:=List.length_pos_iff.1 hv0;simpa using this)
 rw [List.length_map] at ev hbb hfl
 obtain rfl:a=some ⟨id,off,none⟩:=by simpa using ev
 have hone:=oneVv V
 have hlen:=flV V
 have hT:=turnV_flat (sh:=sh) hi
 rw [flat_cut hi] at hfl hone hlen
 have hPl:((V.take i).map vlv).flatten.length=i*4:=by rw [flV,List.length_take];omega
 have hSl: ∀(r:Value) (H:Heap) (X:Nat),r = .slice (some ⟨X,0,none⟩) V.length 0->hget H X=some ⟨((turnV V i sh).map vlv).flatten,4, .rw⟩->Sl H 4 r ((turnV V i sh).map vlv):=fun r H X e g=>by
  have:=Sl.whole (h:=H) (id:=X) (sz:=4) (rows:=(turnV V i sh).map vlv) (esz:=4) (st := .rw) (by decide) (fun r hr=>by obtain ⟨x,_,rfl⟩:=List.mem_map.1 hr;rfl) g
  rw [List.length_map,turnV_len] at this
  rw [e];exact this
 obtain ⟨A,hA⟩: ∃A,A=((V.take i).map vlv).flatten:=⟨_,rfl⟩
 obtain ⟨B,hB⟩: ∃B,B=((V.drop (i+1)).map vlv).flatten:=⟨_,rfl⟩
 rw [←hA, ←hB] at hfl hone hlen hT
 rw [←hA] at hPl
 have tk:List.take 4 (List.drop (i*4) (A ++ .int .i64 V[i].1 :: .int .i64 V[i].2.1 :: .int .i64 V[i].2.2.1 :: .bool V[i].2.2.2::B))= [.int .i64 V[i].1, .int .i64 V[i].2.1, .int .i64 V[i].2.2.1, .bool V[i].2.2.2]:=by
  rw [←hPl,List.drop_left' rfl];rfl
 have st: ∀a b c d,setRange (A ++ .int .i64 V[i].1 :: .int .i64 V[i].2.1 :: .int .i64 V[i].2.2.1 :: .bool V[i].2.2.2::B) (i*4) [a,b,c,d]=A++a::b::c::d::B:=fun a b c d=>set4all hPl
 have hlb:i*4+4<=V.length*4:=by omega
 refine body_of mo Tryz.func192 rfl (by kernel_rfl) (Nat.le_of_ble_eq_true (by kernel_rfl)) rfl ?_
 simp only [go_sem,onApp_more hv0,hv0,hk,hd,hbb,hfl,hone,show V.length<=9223372036854775807 by omega,show V.length*32<=140737488355328 by omega,hz,z0,tk,hlen,hlb,st]
 refine hSl _ _ _ rfl ?_
 rw [hT]
 simp only [go_sem]
def shutTo (V:List Vlv) (plan:List Int) (i:Nat):List Vlv:=shutV (V.take i) plan++V.drop i
theorem shutTo_len {V:List Vlv} {plan:List Int} {i:Nat}:(shutTo V plan i).length=V.length:=by simp [shutTo,shutV_len];omega
theorem shutTo_at {V:List Vlv} {plan:List Int} {i:Nat} (hi:i<V.length):(shutTo V plan i)[i]'(by rw [shutTo_len];exact hi)=V[i]:=by
 unfold shutTo
 rw [List.getElem_append_right (by rw [shutV_len,List.length_take];omega)]
 simp [shutV_len,Nat.min_eq_left (Nat.le_of_lt hi)]
theorem shutTo_yes {V:List Vlv} {plan:List Int} {i:Nat} (hi:i<V.length) (h:V[i].1∈plan):turnV (shutTo V plan i) i true=shutTo V plan (i+1):=by
 have hl:(shutV (V.take i) plan).length=i:=by rw [shutV_len,List.length_take];omega
 rw [turnV,getDv (by rw [shutTo_len];exact hi),shutTo_at hi,shutTo,shutTo,List.set_append_right _ _ (by omega),hl,Nat.sub_self,List.drop_eq_getElem_cons hi,List.set_cons_zero]
 have e:shutV (V.take (i+1)) plan=shutV (V.take i) plan++ [(V[i].1,V[i].2.1,V[i].2.2.1,true)]:=by
  rw [List.take_succ_eq_append_getElem hi,shutV,List.map_append]
  simp [shutV,h]
 rw [e];simp
theorem shutTo_no {V:List Vlv} {plan:List Int} {i:Nat} (hi:i<V.length) (h:V[i].1∉plan):shutTo V plan i=shutTo V plan (i+1):=by
 rw [shutTo,shutTo,List.drop_eq_getElem_cons hi]
 have e:shutV (V.take (i+1)) plan=shutV (V.take i) plan++ [V[i]]:=by
  rw [List.take_succ_eq_append_getElem hi,shutV,List.map_append]
  simp [shutV,h]
 rw [e];simp
theorem c_l5Shut (w vp:Value) (V:List Vlv) (plan:List Int) (sv:Sl h 4 w (V.map vlv)) (sp:SI h vp plan) (hV:V.length<=1000) (hp:plan.length<=1000) :
  vCall [] Tryz.prog M 258 [w,vp] h (fun r h'=>Sl h' 4 r ((shutV V plan).map vlv)∧h<+:h'):=by
 obtain ⟨a,ew,_,_⟩:=id sv
 rw [List.length_map] at ew
 subst ew
 have loop: ∀(x:Value) (u:Heap),Sl (h++u) 4 x (V.map vlv)->∃a,x = .slice a V.length 0:=fun x u s=>by
  obtain ⟨a,e,_⟩:=s
  rw [List.length_map] at e
  exact ⟨a,e⟩
 refine body_of mo Tryz.func258 rfl (by kernel_rfl) (Nat.le_of_ble_eq_true (by kernel_rfl)) rfl ?_
 by_cases v0:V= []
 ·subst v0
  simp only [go_sem]
  refine vLoop.count mo 0 (fun i e h'=>Regs e [(5, .slice (some ⟨h.length,0,none⟩) 0 0),(6, .int .i64 0)]∧HeapIs h' (h++ [⟨[],4, .rw⟩])) ?_ ?_
  ·exact ⟨⟨rfl,rfl,trivial⟩, .rfl⟩
  ·rintro i e _ hi ⟨⟨e5,e6,_⟩,rfl⟩
   simp only [go_sem,e5,e6]
   exact ⟨_,rfl,fun r hr=>by simp [shutV] at hr,fun h0=>absurd rfl h0⟩
 ·have hv0:0<V.length:=List.length_pos_iff.2 v0
  obtain ⟨id,off,k,ev,hk,hd,hbb,hfl⟩:=sv.copy (by simpa using v0)
  rw [List.length_map] at ev hbb hfl
  obtain rfl:a=some ⟨id,off,none⟩:=by simpa using ev
  simp only [go_sem,onApp_more hv0,hv0,oneVv,flV,hk,hd,hbb,hfl,show V.length<=9223372036854775807 by omega,show V.length*32<=140737488355328 by omega]
  refine vLoop.count mo V.length (fun i e h'=> ∃(u:Heap) (x:Value),Regs e [(1,vp),(5,x),(6, .int .i64 i)]∧HeapIs h' (h++u)∧Sl (h++u) 4 x ((shutTo V plan i).map vlv)) ?_ ?_
  ·refine ⟨_, .slice (some ⟨h.length+1,0,none⟩) V.length 0,⟨rfl,rfl,rfl,trivial⟩, .rfl, ?_⟩
   have:=Sl.whole (h:=h++ [⟨[],4, .dead⟩,⟨(V.map vlv).flatten,4, .rw⟩]) (id:=h.length+1) (sz:=4) (rows:=V.map vlv) (esz:=4) (st := .rw) (by decide) (fun r hr=>by obtain ⟨x,_,rfl⟩:=List.mem_map.1 hr;rfl) hget_lit1
   rw [List.length_map] at this
   simpa [shutTo,shutV] using this
  ·rintro i e _ hi ⟨u,x,⟨e1,e5,e6,_⟩,rfl,sx⟩
   have sx':=sx
   obtain ⟨b,ex,_,_⟩:=sx'
   rw [List.length_map,shutTo_len] at ex
   subst ex
   simp only [go_sem,e1,e5,e6]
   by_cases hlt:i<V.length
   ·have hz:(i:Int)<V.length:=by omega
    have ws:=wsucc hlt (by omega)
    have hlt':i<((shutTo V plan i).map vlv).length:=by rw [List.length_map,shutTo_len];exact hlt
    obtain ⟨id2,o2,K2,hv2,hK2,hK0,hd2,hb2,hrow,hat⟩:=sx.at hlt'
    obtain rfl:b=some ⟨id2,o2,none⟩:=by
     simp only [Value.slice.injEq] at hv2
     exact hv2.1
    have g0:=hat 0 (by omega)
    rw [List.getElem_map,shutTo_at hlt] at g0
    simp only [vlv,List.getElem?_cons_zero,Nat.add_zero] at g0
    simp only [go_sem,e1,e5,e6,hz,hK0,hd2,g0]
    refine ⟨by kernel_rfl,(c_l1Has vp plan _ (sp.mono (List.prefix_append _ _)) (by omega)).use (fun _ m=>m) ?_⟩
    rintro _ _ ⟨rfl,rfl⟩
    by_cases c:V[i].1∈plan
    ·simp only [go_sem,e1,e5,e6,decb c]
     refine ⟨by kernel_rfl,(c_l4Turned _ (shutTo V plan i) i true sx (by rw [shutTo_len];exact hlt) (by rw [shutTo_len];exact hV)).use (fun _ m=>m) ?_⟩
     rintro x2 _ ⟨sx2,⟨u2,rfl⟩⟩
     rw [shutTo_yes hlt c] at sx2
     simp only [go_sem,e1,e5,e6]
     exact ⟨hlt,_,x2,⟨e1,rfl,congrArg _ ws,trivial⟩, .rfl,by simpa using sx2⟩
    ·simp only [go_sem,e1,e5,e6,dect c]
     rw [shutTo_no hlt c] at sx
     exact ⟨hlt,_,_,⟨e1,e5,congrArg _ ws,trivial⟩, .rfl,sx⟩
   ·obtain rfl:i=V.length:=by omega
    simp only [go_sem,e1,e5,e6,show ¬((V.length:Int)<V.length) by omega]
    simpa [shutTo] using sx
theorem c_isolates {n:Nat} (v w vp:Value) (N:Nat) (P:List Pip) (V:List Vlv) (s:Nat) (pi:Int) (plan:List Int) (hv:NA n h v N P) (sv:Sl h 4 w (V.map vlv)) (sp:SI h vp plan) (g:valOk N P V) (hs:1<=s∧s<=N) (hk0:0<=pidx P pi) (hp:plan.length<=1000) :
  vCall [] Tryz.prog M 227 [v,w, .int .i64 s, .int .i64 pi,vp] h (fun r h'=>r = .bool (isoB P V s (pidx P pi).toNat plan)∧h<+:h'):=by
 obtain ⟨wp,rfl,sP⟩:=id hv
 have hN:1<=(N:Int)∧(N:Int)<=8:=g.1.2.1
 have hP10:=g.1.2.2
 have hV10:=g.2.1
 have hk:=pidx_lt hk0
 obtain ⟨k,hk2⟩: ∃k:Nat,pidx P pi=k:=⟨(pidx P pi).toNat,by omega⟩
 rw [hk2] at hk
 refine body_of mo Tryz.func227 rfl (by kernel_rfl) (Nat.le_of_ble_eq_true (by kernel_rfl)) rfl ?_
 simp only [go_sem]
 refine ⟨by kernel_rfl,(c_shutToo w vp V plan (sv.mono (by simp)) (sp.mono (by simp)) (by omega) hp).use (fun _ m=>m) ?_⟩
 rintro w2 _ ⟨s2,⟨t,rfl⟩⟩
 try simp only [go_sem]
 refine ⟨by kernel_rfl,(c_watered _ w2 N P (shutV V plan) s (hv.mono (by simp)) (s2.mono (by simp)) g.1 (by rw [shutV_len];omega) (shutV_uniq g.uniq) (by omega)).use (fun _ m=>m) ?_⟩
 rintro ve _ ⟨⟨e,el,hl,he⟩,⟨t2,rfl⟩⟩
 obtain ⟨ie,sz,rfl,ge⟩:=el
 try simp only [go_sem]
 refine ⟨by kernel_rfl,(c_pipeIndex _ N P pi (hv.mono (by simp)) (by omega)).use (fun _ m=>m) ?_⟩
 rintro _ _ ⟨rfl,⟨t3,rfl⟩⟩
 rw [hk2]
 try simp only [go_sem]
 refine ⟨by kernel_rfl,(c_element k (by omega)).use (fun _ m=>m) ?_⟩
 rintro _ _ ⟨rfl,rfl⟩
 have ge2:=self_get ge
 try simp only [List.append_assoc,List.cons_append] at ge2
 have g1:=ev_at (e:=e) (x:=9+k) (by omega)
 simp only [go_sem,ge2 t3,g1,show ((9+k:Nat):Int)<19 by omega]
 rw [isoB,ev_dec he]
theorem c_l5Cut {n:Nat} (v w vp:Value) (N:Nat) (P:List Pip) (V:List Vlv) (s:Nat) (pi:Int) (plan:List Int) (hv:NA n h v N P) (sv:Sl h 4 w (V.map vlv)) (sp:SI h vp plan) (g:valOk N P V) (hs:1<=s∧s<=N) (hk0:0<=pidx P pi) (hp:plan.length<=1000) :
  vCall [] Tryz.prog M 234 [v,w, .int .i64 s, .int .i64 pi,vp] h (fun r h'=>r = .bool (isoB P V s (pidx P pi).toNat plan)∧h<+:h'):=by
 obtain ⟨wp,rfl,sP⟩:=id hv
 have hN:1<=(N:Int)∧(N:Int)<=8:=g.1.2.1
 have hP10:=g.1.2.2
 have hV10:=g.2.1
 have hk:=pidx_lt hk0
 obtain ⟨k,hk2⟩: ∃k:Nat,pidx P pi=k:=⟨(pidx P pi).toNat,by omega⟩
 rw [hk2] at hk
 refine body_of mo Tryz.func234 rfl (by kernel_rfl) (Nat.le_of_ble_eq_true (by kernel_rfl)) rfl ?_
 simp only [go_sem]
 refine ⟨by kernel_rfl,(c_l5Shut w vp V plan (sv.mono (by simp)) (sp.mono (by simp)) (by omega) hp).use (fun _ m=>m) ?_⟩
 rintro w2 _ ⟨s2,⟨t,rfl⟩⟩
 try simp only [go_sem]
 refine ⟨by kernel_rfl,(c_l4Dry _ w2 N P (shutV V plan) s (hv.mono (by simp)) (s2.mono (by simp)) g.1 (by rw [shutV_len];omega) hs).use (fun _ m=>m) ?_⟩
 rintro _ _ ⟨⟨x,y,rfl,qx,qy⟩,⟨t2,rfl⟩⟩
 simp only [go_sem]
 refine ⟨by kernel_rfl,(c_l2Find _ N P pi (hv.mono (by simp)) (by omega)).use (fun _ m=>m) ?_⟩
 rintro _ _ ⟨rfl,⟨t3,rfl⟩⟩
 rw [hk2]
 try simp only [go_sem]
 have lT:=plI_len (n:=P.length) (f:=fun i => !decide (Rch P (opn (shutV V plan) true) s (9+i)))
 refine ⟨by kernel_rfl,(c_l1Has y _ k (SI.mono qy (by simp)) (by omega)).use (fun _ m=>m) ?_⟩
 rintro _ _ ⟨rfl,rfl⟩
 simp only [go_sem]
 refine congrArg Value.bool ?_
 rw [isoB]
 have hm:=plI_mem (n:=P.length) (f:=fun i => !decide (Rch P (opn (shutV V plan) true) s (9+i))) (x:=(k:Int))
 rw [Int.toNat_natCast] at hm
 by_cases r:Rch P (opn (shutV V plan) true) s (9+k)
 ·rw [decide_eq_false,decide_eq_true r]
  ·rfl
  ·intro hh
   have:=(hm.1 hh).2.2
   rw [decide_eq_true r] at this
   cases this
 ·rw [decide_eq_true,decide_eq_false r]
  ·rfl
  ·exact hm.2 ⟨by omega,by omega,by rw [decide_eq_false r];rfl⟩
end
open Go.HH Go.Proofs
def turnOk (N:Int) (P:List Pip) (V:List Vlv) (id:Int) (sh:Bool):Prop:=valOk N P V∧0<=vidx V id∧(V.getD (vidx V id).toNat vlv0).2.2.2≠sh
open Classical in
noncomputable instance {N:Int} {P:List Pip} {V:List Vlv} {id:Int} {sh:Bool}:Decidable (turnOk N P V id sh):=propDecidable _
noncomputable def turnR (N:Int) (P:List Pip) (V:List Vlv) (id:Int) (sh:Bool):List Vlv:=if turnOk N P V id sh then turnV V (vidx V id).toNat sh else []
section
variable {h : Heap} {M : Nat → Prop}
theorem c_valveIndex1 (x:Vlv) (i1:Nat) (n:Int) (hb:hget h i1=some ⟨[.int .i64 n],1, .rw⟩) :
  vCall [] Tryz.prog M 223 [.agg #[.int .i64 x.1, .int .i64 x.2.1, .int .i64 x.2.2.1, .bool x.2.2.2], .pointer (some ⟨i1,0,none⟩)] h (fun r h'=>r = .bool (decide (x.1=n))∧h<+:h'):=by
 refine body_of mo Tryz.func223 rfl (by kernel_rfl) (Nat.le_of_ble_eq_true (by kernel_rfl)) rfl ?_
 have hb1:=self_get hb
 simp only [go_sem,hb1]
 by_cases q:x.1=n
 ·simp [q]
 ·simp [q]
theorem c_valveIndex (w:Value) (V:List Vlv) (n:Int) (sv:Sl h 4 w (V.map vlv)) (hV:V.length<=1048576) :
  vCall [] Tryz.prog M 176 [w, .int .i64 n] h (fun r h'=>r = .int .i64 (vidx V n)∧h<+:h'):=by
 refine body_of mo Tryz.func176 rfl (by kernel_rfl) (Nat.le_of_ble_eq_true (by kernel_rfl)) rfl ?_
 simp only [go_sem]
 refine ⟨by kernel_rfl,(c_vlvIndex (by kernel_rfl) (fun p=>decide (p.1=n)) _ V (sv.mono (by simp)) hV (fun M h' x hp _=>c_valveIndex1 x _ _ (by rw [hget_prefix hp (by simp)];simp only [go_sem]))).use (fun _ m=>m) ?_⟩
 rintro _ _ ⟨rfl,⟨t,rfl⟩⟩
 simp only [go_sem]
 rfl
theorem c_l4Find (w:Value) (V:List Vlv) (n:Int) (sv:Sl h 4 w (V.map vlv)) (hV:V.length<=1048576) :
  vCall [] Tryz.prog M 191 [w, .int .i64 n] h (fun r h'=>r = .int .i64 (vidx V n)∧h=h'):=by
 obtain ⟨a,ew,_,_⟩:=id sv
 rw [List.length_map] at ew
 subst ew
 refine body_of mo Tryz.func191 rfl (by kernel_rfl) (Nat.le_of_ble_eq_true (by kernel_rfl)) rfl ?_
 simp only [go_sem]
 refine vLoop.count mo V.length (fun i e h'=>Regs e [(0, .slice a V.length 0),(1, .int .i64 n),(5, .int .i64 i)]∧HeapIs h' h∧∀(j:Nat) (hj:j<V.length),j<i->decide (V[j].1=n)=false) ?_ ?_
 ·exact ⟨⟨rfl,rfl,rfl,trivial⟩, .rfl,fun j _ hj=>absurd hj (by omega)⟩
 ·rintro i e _ hi ⟨⟨e0,e1,e5,_⟩,rfl,hno⟩
  simp only [go_sem,e0,e1,e5]
  by_cases hlt:i<V.length
  ·have hlt':i<(V.map vlv).length:=by simpa using hlt
   have hz:(i:Int)<V.length:=by omega
   have ws:=wsucc hlt (by omega)
   obtain ⟨id2,o,K,hvv,hK,hK0,hd,hb,hrow,hat⟩:=sv.at hlt'
   obtain rfl:a=some ⟨id2,o,none⟩:=by simpa using hvv
   have g0:=hat 0 (by omega)
   rw [List.getElem_map] at g0
   simp only [vlv,List.getElem?_cons_zero,Nat.add_zero] at g0
   simp only [go_sem,e0,e1,e5,hz,hK0,hd,g0]
   by_cases q:V[i].1=n
   ·simp only [go_sem,e0,e1,e5,show (V[i].1==n)=true by simpa using q]
    exact congrArg (Value.int .i64) (idxI_is hlt (decide_eq_true q) hno).symm
   ·simp only [go_sem,e0,e1,e5,show (V[i].1==n)=false by simpa using q]
    refine ⟨hlt,⟨e0,e1,congrArg _ ws,trivial⟩, .rfl,fun j hj hji => ?_⟩
    by_cases h3:j<i
    ·exact hno j hj h3
    ·obtain rfl:j=i:=by omega
     exact decide_eq_false q
  ·obtain rfl:i=V.length:=by omega
   simp only [go_sem,e0,e1,e5,show ¬((V.length:Int)<V.length) by omega]
   exact congrArg (Value.int .i64) (idxI_no fun j hj=>hno j hj hj).symm
theorem vidx_lt {V:List Vlv} {id:Int} (h:0<=vidx V id):(vidx V id).toNat<V.length:=by
 have:=(idxI_at (p:=fun p:Vlv=>decide (p.1=id)) (l:=V) (k:=(vidx V id).toNat) (by unfold vidx at *;omega))
 exact this.1
theorem c_TurnValve {n:Nat} (v w:Value) (N:Int) (P:List Pip) (V:List Vlv) (vi:Int) (sh:Bool) (hv:NA n h v N P) (sv:Sl h 4 w (V.map vlv)) (es:EszC h 4 w) (hP:P.length<=1048576) (hV:V.length<=1048576) :
  vCall [] Tryz.prog M 140 [v,w, .int .i64 vi, .bool sh] h (fun r h'=>(∃x,r = .tuple #[x, .bool (decide (turnOk N P V vi sh))]∧FQs h.length h'.length 4 h' x ((turnR N P V vi sh).map vlv))∧h<+:h'):=by
 obtain ⟨wp,rfl,sp⟩:=id hv
 obtain ⟨a,ew,_,_⟩:=id sv
 rw [List.length_map] at ew
 subst ew
 have bad: ∀(lo hi:Nat) (H:Heap),¬turnOk N P V vi sh->∃x,Value.tuple #[Value.slice none 0 0, .bool false] = .tuple #[x, .bool (decide (turnOk N P V vi sh))]∧FQs lo hi 4 H x ((turnR N P V vi sh).map vlv):=fun lo hi H hn=>
  ⟨_,congrArg (fun b=>Value.tuple #[_,Value.bool b]) (decide_eq_false hn).symm,by rw [turnR,if_neg hn];exact fq0⟩
 refine body_of mo Tryz.func140 rfl (by kernel_rfl) (Nat.le_of_ble_eq_true (by kernel_rfl)) rfl ?_
 simp only [go_sem]
 refine ⟨by kernel_rfl,(c_valveIndex _ V vi (sv.mono (by simp)) hV).use (fun _ m=>m) ?_⟩
 rintro _ _ ⟨rfl,⟨t,rfl⟩⟩
 simp only [go_sem]
 refine ⟨by kernel_rfl,(c_IsValidValves _ _ N P V (hv.mono (by simp)) (sv.mono (by simp)) (es.mono (by simp)) hP hV).use (fun _ m=>m) ?_⟩
 rintro _ _ ⟨rfl,⟨t2,rfl⟩⟩
 by_cases h1:valOk N P V
 ·by_cases h2:vidx V vi<0
  ·simp only [go_sem,decb h1,decb h2]
   exact bad _ _ _ (fun hh=>by have:=hh.2.1;omega)
  ·have hk:=vidx_lt (V:=V) (id:=vi) (by omega)
   have hV10:=h1.2.1
   have hok:turnOk N P V vi sh↔(V.getD (vidx V vi).toNat vlv0).2.2.2≠sh:=⟨fun hh=>hh.2.2,fun hh=>⟨h1,by omega,hh⟩⟩
   obtain ⟨k,hk2⟩: ∃k:Nat,vidx V vi=k:=⟨(vidx V vi).toNat,by omega⟩
   have hT: ∀(_:turnOk N P V vi sh),turnR N P V vi sh=turnV V k sh:=fun hh=>by rw [turnR,if_pos hh,hk2];rfl
   rw [hk2,Int.toNat_natCast] at hok hk
   rw [getDv hk] at hok
   rw [hk2] at h2 ⊢
   have hk':k<(V.map vlv).length:=by simpa using hk
   have hz:(k:Int)<V.length:=by omega
   have z0:(0:Int)<=k:=by omega
   obtain ⟨id2,o,K,hvv,hK,_,hd,hb,hrow,hat⟩:=sv.at hk'
   obtain rfl:a=some ⟨id2,o,none⟩:=by simpa using hvv
   have g3:=hat 3 (by omega)
   rw [List.getElem_map] at g3
   simp only [vlv,List.getElem?_cons_zero,List.getElem?_cons_succ] at g3
   simp only [go_sem,decb h1,dect h2,hz,z0,hK,hd,g3,Tryz.underlying4]
   cases q:(V[k].2.2.2==sh) with
   | true=>
    simp only [go_sem,decb h1,dect h2,q]
    exact bad _ _ _ (fun hh=>hok.1 hh (by simpa using q))
   | false=>
    have hyes:turnOk N P V vi sh:=hok.2 (by simpa using q)
    have hv0:0<V.length:=by omega
    obtain ⟨id,off,k3,ev,hk3,hd3,hbb,hfl⟩:=sv.copy (by have:=List.length_pos_iff.1 hv0;simpa using this)
    rw [List.length_map] at ev hbb hfl
    obtain ⟨rfl,rfl⟩:id2=id∧o=off:=by simpa using ev
    have hone:=oneVv V
    have hlen:=flV V
    have hTf:=turnV_flat (sh:=sh) hk
    rw [flat_cut hk] at hfl hone hlen
    have hPl:((V.take k).map vlv).flatten.length=k*4:=by rw [flV,List.length_take];omega
    obtain ⟨A,hA⟩: ∃A,A=((V.take k).map vlv).flatten:=⟨_,rfl⟩
    obtain ⟨B,hB⟩: ∃B,B=((V.drop (k+1)).map vlv).flatten:=⟨_,rfl⟩
    rw [←hA, ←hB] at hfl hone hlen hTf
    rw [←hA] at hPl
    have st: ∀d,setRange (A ++ .int .i64 V[k].1 :: .int .i64 V[k].2.1 :: .int .i64 V[k].2.2.1 :: .bool V[k].2.2.2::B) (k*4+3) [d]=A ++ .int .i64 V[k].1 :: .int .i64 V[k].2.1 :: .int .i64 V[k].2.2.1::d::B:=fun d=>set3 hPl
    simp only [go_sem,decb h1,dect h2,q,onApp_more hv0,hv0,hk3,hd3,hbb,hfl,hone,show V.length<=9223372036854775807 by omega,show V.length*32<=140737488355328 by omega,hz,z0,hlen,st]
    refine ⟨by omega,_,congrArg (fun b=>Value.tuple #[_,Value.bool b]) (decide_eq_true hyes).symm, ?_⟩
    rw [hT hyes]
    refine .inl ⟨_,by rw [List.length_map,turnV_len],by omega,by omega, ?_,fun r hr=>by obtain ⟨x,_,rfl⟩:=List.mem_map.1 hr;rfl⟩
    rw [hTf,hget_app]
    simp only [List.getElem?_cons_succ,show t.length+(t2.length+1)+1=(t.length+(t2.length+1))+1 from rfl]
    rw [List.getElem?_append_right (by omega),Nat.add_sub_cancel_left,List.getElem?_append_right (by omega),Nat.add_sub_cancel_left]
    rfl
 ·simp only [go_sem,dect h1]
  exact bad _ _ _ (fun hh=>h1 hh.1)
end
open Go.HH Go.Proofs
theorem openVl_take {V:List Vlv} {i:Nat} (hi:i<V.length):openVl (V.take (i+1))=openVl (V.take i)++if V[i].2.2.2 then [] else [V[i].1]:=by
 unfold openVl
 rw [List.take_succ_eq_append_getElem hi,List.filter_append,List.map_append]
 cases h:V[i].2.2.2<;>simp [h]
section
variable {h : Heap} {M : Nat → Prop}
theorem c_price (v:Value):vCall [] Tryz.prog M 181 [v] h (fun r h'=>r = .int .i64 0∧h=h'):=by
 refine body_of mo Tryz.func181 rfl (by kernel_rfl) (Nat.le_of_ble_eq_true (by kernel_rfl)) rfl ?_
 simp only [go_sem]
theorem c_bestPlan {n:Nat} (v w:Value) (N:Nat) (P:List Pip) (V:List Vlv) (s:Nat) (pi:Int) (hv:NA n h v N P) (sv:Sl h 4 w (V.map vlv)) (g:valOk N P V) (hs:1<=s∧s<=N) (hk0:0<=pidx P pi) :
  vCall [] Tryz.prog M 180 [v,w, .int .i64 s, .int .i64 pi, .func (.func 181) #[] #[]] h
   (fun r h'=>(∃x,r = .tuple #[x, .int .i64 0, .bool (bst P V s (pidx P pi).toNat (2 ^ (openVl V).length)).isSome]∧SI h' x ((bst P V s (pidx P pi).toNat (2 ^ (openVl V).length)).getD []))∧h<+:h'):=by
 obtain ⟨wp,rfl,sP⟩:=id hv
 obtain ⟨a,ew,_,_⟩:=id sv
 rw [List.length_map] at ew
 subst ew
 have hV10:=g.2.1
 refine body_of mo Tryz.func180 rfl (by kernel_rfl) (Nat.le_of_ble_eq_true (by kernel_rfl)) rfl ?_
 simp only [go_sem]
 refine vLoop.count mo V.length (fun i e h'=> ∃(t:Heap) (v13:Value),Regs e [(1, .slice a V.length 0),(2, .int .i64 s),(3, .int .i64 pi),(4, .func (.func 181) #[] #[]),(5, .pointer (some ⟨h.length,0,none⟩)),(13,v13),(26, .slice a V.length 0),(27, .int .i64 V.length),(28, .int .i64 i)] ∧
  HeapIs h' (h++(⟨[.int .i64 N,wp],2, .rw⟩::t))∧OF h.length 1 t v13 (openVl (V.take i))) ?_ ?_
 ·exact ⟨_,_,⟨rfl,rfl,rfl,rfl,rfl,rfl,rfl,rfl,rfl,trivial⟩, .rfl, .mk' 0 rfl rfl rfl⟩
 ·rintro i e _ hi ⟨t,v13,⟨e1,e2,e3,e4,e5,e13,e26,e27,e28,_⟩,rfl,oi⟩
  obtain ⟨j,rfl,hj⟩:=id oi
  simp only [go_sem,e1,e2,e3,e4,e5,e13,e26,e27,e28]
  by_cases hlt:i<V.length
  ·have hlt':i<(V.map vlv).length:=by simpa using hlt
   have hz:(i:Int)<V.length:=by omega
   have ws:=wsucc hlt (by omega)
   obtain ⟨id2,o,K,hvv,hK,_,hd,hb,hrow,hat⟩:=sv.at hlt'
   obtain rfl:a=some ⟨id2,o,none⟩:=by simpa using hvv
   rw [List.getElem_map] at hrow
   simp only [vlv] at hrow
   have hlen:=openVl_len (V:=V.take i)
   have htl:(V.take i).length<=i:=by rw [List.length_take];omega
   have htk:=openVl_take hlt
   simp only [go_sem,e1,e2,e3,e4,e5,e13,e26,e27,e28,hz,hK,hd,hb,hrow]
   cases q:V[i].2.2.2 with
   | true=>
    rw [q] at htk
    simp only [go_sem,e1,e2,e3,e4,e5,e13,e26,e27,e28,q]
    exact ⟨hlt,_,_,⟨e1,e2,e3,e4,e5,e13,e26,e27,congrArg _ ws,trivial⟩, .rfl,by rw [htk];simpa using oi.mono _⟩
   | false=>
    rw [q] at htk
    simp only [go_sem,e1,e2,e3,e4,e5,e13,e26,e27,e28,q,app_old hj,List.length_map]
    refine ⟨by omega,by omega,hlt,_,_,⟨e1,e2,e3,e4,e5,rfl,e26,e27,congrArg _ ws,trivial⟩, .rfl,(.mk' (t.length+2) ?_ (by rw [htk];simp) ?_)⟩
    ·simp;try omega
    ·exact (new_at (by simp;try omega)).trans (by simp [iv,htk])
  ·obtain rfl:i=V.length:=by omega
   simp only [go_sem,e1,e2,e3,e4,e5,e13,e26,e27,e28,show ¬((V.length:Int)<V.length) by omega]
   rw [List.take_length] at hj oi e13 ⊢
   have hRl:=openVl_len (V:=V)
   obtain ⟨R,hR⟩: ∃R,R=openVl V:=⟨_,rfl⟩
   rw [←hR] at hj oi hRl e13 ⊢
   have sR:=OF.ai [⟨[.int .i64 N,wp],2, .rw⟩] oi rfl
   obtain ⟨H0,hH0⟩: ∃H0:Heap,H0=h++⟨[.int .i64 N,wp],2, .rw⟩::t:=⟨_,rfl⟩
   have hp0:h<+:H0:=by rw [hH0];exact List.prefix_append _ _
   have gB:hget H0 h.length=some ⟨[.int .i64 N,wp],2, .rw⟩:=by rw [hH0];simp only [go_sem]
   replace sR:SI H0 (.slice (some ⟨h.length+(j+1),0,none⟩) R.length 0) R:=by rw [hH0];exact sR
   obtain ⟨b,hb⟩: ∃b,b=(⟨h.length+(j+1),0,none⟩:Addr):=⟨_,rfl⟩
   rw [←hb] at sR
   have e13':e 13 = .slice (some b) R.length 0:=by rw [hb];exact e13
   obtain ⟨kk,hkk⟩: ∃k,k=(pidx P pi).toNat:=⟨_,rfl⟩
   rw [←hkk]
   have hbs: ∀q,bst P V s kk (q+1)=if isoB P V s kk (choice R q R.length)=true then
     match bst P V s kk q with
     | none=>some (choice R q R.length)
     | some d=>if (choice R q R.length).length<d.length∨((choice R q R.length).length=d.length∧lexL (choice R q R.length) d=true) then some (choice R q R.length) else some d
    else bst P V s kk q:=fun q=>by rw [hR];rfl
   have hbl: ∀ {q:Nat} {d:List Int},bst P V s kk q=some d->d.length<=10:=fun hd=>by have:=bst_len hd;rw [←hR] at this;omega
   have eH:h++⟨[.int .i64 N,wp],2, .rw⟩::(t++ [⟨[],1, .rw⟩])=H0++ [⟨[],1, .rw⟩]:=by rw [hH0];simp
   have hH0l:=hp0.length_le
   rw [hb.symm] at *
   simp only [go_sem,hBin_shl (show (0:Int)<=R.length by omega),shl_one' (show R.length<=60 by omega)]
   rw [eH]
   refine vLoop.count mo (2 ^ R.length) (fun q e h'=> ∃(vb:Value),Regs e [(1, .slice a V.length 0),(2, .int .i64 s),(3, .int .i64 pi),(4, .func (.func 181) #[] #[]),(5, .pointer (some ⟨h.length,0,none⟩)),(13, .slice (some b) R.length 0),(16,vb),(17, .int .i64 0),(18, .bool (bst P V s kk q).isSome),
    (44, .int .i64 ((2 ^ R.length:Nat):Int)),(45, .int .i64 q)]∧H0<+:h'∧SI h' vb ((bst P V s kk q).getD [])) ?_ ?_
   ·refine ⟨_,⟨e1,e2,e3,e4,e5,e13',rfl,rfl,rfl,rfl,rfl,trivial⟩,List.prefix_append _ _,⟨_,rfl,fun h0=>absurd h0 (by simp [bst])⟩⟩
   ·clear e1 e2 e3 e4 e5 e13 e13' e26 e27 e28 hj oi hH0 eH hb
    rintro q e H hq ⟨vb,⟨e1,e2,e3,e4,e5,e13,e16,e17,e18,e44,e45,_⟩,hpH,sB⟩
    have hleH:h.length<=H.length:=Nat.le_trans hH0l hpH.length_le
    have h2R:2 ^ R.length<=2 ^ 10:=Nat.pow_le_pow_right (by omega) (by omega)
    obtain ⟨c,hc⟩:=AI.len sB
    subst hc
    simp only [go_sem,e1,e2,e3,e4,e5,e13,e16,e17,e18,e44,e45]
    by_cases hlt:q<2 ^ R.length
    ·have ws:=wsucc hlt (by omega)
     have hz:(q:Int)<((2 ^ R.length:Nat):Int):=by omega
     simp only [go_sem,e1,e2,e3,e4,e5,e13,e16,e17,e18,e44,e45,hz]
     refine vLoop.count mo R.length (fun i e h'=> ∃(t:Heap) (v20:Value),Regs e [(1, .slice a V.length 0),(2, .int .i64 s),(3, .int .i64 pi),(4, .func (.func 181) #[] #[]),(5, .pointer (some ⟨h.length,0,none⟩)),(13, .slice (some b) R.length 0),(16, .slice c ((bst P V s kk q).getD []).length 0),(17, .int .i64 0),(18, .bool (bst P V s kk q).isSome),
      (19, .int .i64 q),(20,v20),(44, .int .i64 ((2 ^ R.length:Nat):Int)),(45, .int .i64 q),(49, .slice (some b) R.length 0),(50, .int .i64 R.length),(51, .int .i64 i)]∧HeapIs h' (H++t)∧OF H.length 0 t v20 (choice R q i)) ?_ ?_
     ·exact ⟨_, .slice (some ⟨H.length,0,none⟩) 0 0,⟨e1,e2,e3,e4,e5,e13,e16,e17,e18,rfl,rfl,e44,e45,rfl,rfl,rfl,trivial⟩, .rfl, .mk' 0 rfl rfl rfl⟩
     ·rintro i e _ hi ⟨t,v20,⟨e1,e2,e3,e4,e5,e13,e16,e17,e18,e19,e20,e44,e45,e49,e50,e51,_⟩,rfl,oi⟩
      obtain ⟨j,rfl,hj⟩:=id oi
      simp only [go_sem,e1,e2,e3,e4,e5,e13,e16,e17,e18,e19,e20,e44,e45,e49,e50,e51]
      have hcl:=choice_len (L:=R) (s:=q) (i:=i)
      by_cases hir:i<R.length
      ·have wi:=wsucc hir (by omega)
       have hzi:(i:Int)<R.length:=by omega
       obtain ⟨id2,o2,K2,hv2,_,_,hk2,hd2,_,_,_,hat2⟩:=AI.at sR (Nat.zero_lt_of_lt hir)
       obtain rfl:b=⟨id2,o2,none⟩:=by simpa using hv2
       have hk3:=pre_get hpH hk2
       simp only [go_sem,e1,e2,e3,e4,e5,e13,e16,e17,e18,e19,e20,e44,e45,e49,e50,e51,hzi,hk3,hd2,hat2 i hir,hBin_shr (show (0:Int)<=i by omega),shr_nat' (a:=q) (i:=i) (by omega),hBin_bit,bit_eq]
       cases hbit:q.testBit i with
       | true=>
        have hyes:=choice_yes hir hbit
        simp only [go_sem,e1,e2,e3,e4,e5,e13,e16,e17,e18,e19,e20,e44,e45,e49,e50,e51,hbit,own_base hleH,app_old hj,List.length_map]
        refine ⟨by omega,by omega,hir,_,_,⟨e1,e2,e3,e4,e5,e13,e16,e17,e18,e19,rfl,e44,e45,e49,e50,congrArg _ wi,trivial⟩, .rfl,(.mk' (t.length+1) ?_ (by rw [hyes];simp) ?_)⟩
        ·simp
        ·exact (new_at (by simp)).trans (by simp [iv,hyes])
       | false=>
        have hno:=choice_no (L:=R) hbit
        simp only [go_sem,e1,e2,e3,e4,e5,e13,e16,e17,e18,e19,e20,e44,e45,e49,e50,e51,hbit]
        exact ⟨hir,_,_,⟨e1,e2,e3,e4,e5,e13,e16,e17,e18,e19,e20,e44,e45,e49,e50,congrArg _ wi,trivial⟩, .rfl,by rw [hno];exact oi⟩
      ·obtain rfl:i=R.length:=by omega
       have f1:=OF.fi0 (m:=0) oi (Nat.zero_le _)
       have f1s:=FI.si f1 (Nat.le_refl _)
       have hpt:H<+:H++t:=List.prefix_append _ _
       have hstep:=hbs q
       have gB1:=pre_get hpH gB
       simp only [go_sem,e1,e2,e3,e4,e5,e13,e16,e17,e18,e19,e20,e44,e45,e49,e50,e51,show ¬((R.length:Int)<R.length) by omega,gB1]
       refine ⟨by kernel_rfl,(c_isolates _ _ _ N P V s pi (choice R q R.length) (hv.mono (hp0.trans (hpH.trans hpt))) (sv.mono (hp0.trans (hpH.trans hpt))) f1s g hs hk0 (by omega)).use (fun _ m=>m) ?_⟩
       rintro _ _ ⟨rfl,⟨t2,rfl⟩⟩
       rw [←hkk]
       have sB2:SI (H++(t++t2)) (.slice c ((bst P V s kk q).getD []).length 0) ((bst P V s kk q).getD []):=SI.mono sB (List.prefix_append _ _)
       have f2:SI (H++(t++t2)) (.slice (some ⟨H.length+j,0,none⟩) (choice R q R.length).length 0) (choice R q R.length):=by
        rw [←List.append_assoc];exact SI.mono f1s (List.prefix_append _ _)
       have hp2:H0<+:H++(t++t2):=hpH.trans (List.prefix_append _ _)
       cases hi2:isoB P V s kk (choice R q R.length) with
       | false=>
        rw [hi2,if_neg (by decide)] at hstep
        simp only [go_sem,e1,e2,e3,e4,e5,e13,e16,e17,e18,e19,e20,e44,e45,e49,e50,e51,hi2]
        exact ⟨hlt,_,⟨e1,e2,e3,e4,e5,e13,e16,e17,by rw [hstep];exact e18,e44,congrArg _ ws,trivial⟩,hp2,by rw [hstep];exact sB2⟩
       | true=>
        rw [hi2,if_pos rfl] at hstep
        simp only [go_sem,e1,e2,e3,e4,e5,e13,e16,e17,e18,e19,e20,e44,e45,e49,e50,e51,hi2]
        refine ⟨by kernel_rfl,(c_price _).use (fun _ m=>m) ?_⟩
        rintro _ _ ⟨rfl,rfl⟩
        simp only [go_sem,e1,e2,e3,e4,e5,e13,e16,e17,e18,e19,e20,e44,e45,e49,e50,e51,hi2]
        have mkI: ∀(u:Heap) (x:Nat) (p q:Int),u[x]? = some ⟨[.int .i64 p, .int .i64 q],1, .rw⟩->SI (H++u) (.slice (some ⟨H.length+x,0,none⟩) 2 0) [p,q]:=fun u x p q hx=>by
         have hxl:=(List.getElem?_eq_some_iff.1 hx).1
         exact FI.si (lo:=0) (hi:=(H++u).length) (FI.at' rfl (by omega) (by simp;omega) (by rw [hget_app,hx];rfl)) (Nat.le_refl _)
        refine ⟨by kernel_rfl,(c_sCompare _ _ [0,((choice R q R.length).length:Int)] [0,(((bst P V s kk q).getD []).length:Int)] (mkI _ _ _ _ ?_) (mkI _ _ _ _ ?_) (Nat.le_of_ble_eq_true rfl) (Nat.le_of_ble_eq_true rfl)).use (fun _ m=>m) ?_⟩
        ·rw [show t++(t2++ [⟨[.int .i64 0, .int .i64 ((choice R q R.length).length:Int)],1, .rw⟩,⟨[.int .i64 0, .int .i64 (((bst P V s kk q).getD []).length:Int)],1, .rw⟩])=(t++t2)++ [⟨[.int .i64 0, .int .i64 ((choice R q R.length).length:Int)],1, .rw⟩,⟨[.int .i64 0, .int .i64 (((bst P V s kk q).getD []).length:Int)],1, .rw⟩] by simp]
         rw [List.getElem?_append_right (by simp)]
         simp
        ·rw [show t++(t2++ [⟨[.int .i64 0, .int .i64 ((choice R q R.length).length:Int)],1, .rw⟩,⟨[.int .i64 0, .int .i64 (((bst P V s kk q).getD []).length:Int)],1, .rw⟩])=(t++t2)++ [⟨[.int .i64 0, .int .i64 ((choice R q R.length).length:Int)],1, .rw⟩,⟨[.int .i64 0, .int .i64 (((bst P V s kk q).getD []).length:Int)],1, .rw⟩] by simp]
         rw [List.getElem?_append_right (by simp;try omega)]
         simp [show t.length+(t2.length+1)-(t.length+t2.length)=1 by omega]
        rintro _ _ ⟨rfl,rfl⟩
        have hp3: ∀X:Heap,H0<+:H++(t++(t2++X)):=fun X=>by rw [←List.append_assoc t];rw [←List.append_assoc];exact hp2.trans (List.prefix_append _ _)
        have f3: ∀X:Heap,SI (H++(t++(t2++X))) (.slice (some ⟨H.length+j,0,none⟩) (choice R q R.length).length 0) (choice R q R.length):=fun X=>by
         rw [←List.append_assoc t, ←List.append_assoc];exact SI.mono f2 (List.prefix_append _ _)
        have sB3: ∀X:Heap,SI (H++(t++(t2++X))) (.slice c ((bst P V s kk q).getD []).length 0) ((bst P V s kk q).getD []):=fun X=>by
         rw [←List.append_assoc t, ←List.append_assoc];exact SI.mono sB2 (List.prefix_append _ _)
        have hcm:cmpL [0,((choice R q R.length).length:Int)] [0,(((bst P V s kk q).getD []).length:Int)]=if (choice R q R.length).length<((bst P V s kk q).getD []).length then -1 else if ((bst P V s kk q).getD []).length<(choice R q R.length).length then 1 else 0:=by
         simp only [cmpL,Int.lt_irrefl,if_false,Int.ofNat_lt]
        rw [hcm]
        cases hb:bst P V s kk q with
        | none=>
         rw [hb] at hstep
         simp only at hstep
         simp only [go_sem,e1,e2,e3,e4,e5,e13,e16,e17,e18,e19,e20,e44,e45,e49,e50,e51,hi2,hb,Option.isSome_none]
         exact ⟨hlt,_,⟨e1,e2,e3,e4,e5,e13,rfl,rfl,by rw [hstep];rfl,e44,congrArg _ ws,trivial⟩,hp3 _,by rw [hstep];exact f3 _⟩
        | some d=>
         rw [hb] at hstep sB3
         simp only [Option.getD_some] at hstep sB3
         have hdl:=hbl hb
         have keep:bst P V s kk (q+1)=some d->e 18 = .bool (bst P V s kk (q+1)).isSome:=fun hh=>by rw [hh,e18,hb]
         have e16':e 16 = .slice c d.length 0:=by rw [e16,hb];rfl
         by_cases c1:(choice R q R.length).length<d.length
         ·rw [if_pos (.inl c1)] at hstep
          simp only [go_sem,e1,e2,e3,e4,e5,e13,e16,e17,e18,e19,e20,e44,e45,e49,e50,e51,hi2,hb,Option.isSome_some,Option.getD_some,c1]
          exact ⟨hlt,_,⟨e1,e2,e3,e4,e5,e13,rfl,rfl,by rw [hstep];rfl,e44,congrArg _ ws,trivial⟩,hp3 _,by rw [hstep];exact f3 _⟩
         ·by_cases c2:d.length<(choice R q R.length).length
          ·rw [if_neg (by omega)] at hstep
           simp only [go_sem,e1,e2,e3,e4,e5,e13,e16,e17,e18,e19,e20,e44,e45,e49,e50,e51,hi2,hb,Option.isSome_some,Option.getD_some,c1,c2,show ((1:Int)==0)=false by decide]
           exact ⟨hlt,_,⟨e1,e2,e3,e4,e5,e13,e16',e17,keep hstep,e44,congrArg _ ws,trivial⟩,hp3 _,by rw [hstep];exact sB3 _⟩
          ·have c3:(choice R q R.length).length=d.length:=by omega
           simp only [go_sem,e1,e2,e3,e4,e5,e13,e16,e17,e18,e19,e20,e44,e45,e49,e50,e51,hi2,hb,Option.isSome_some,Option.getD_some,c1,c2]
           refine ⟨by kernel_rfl,(c_sCompare _ _ (choice R q R.length) d (f3 _) (sB3 _) (by omega) (by omega)).use (fun _ m=>m) ?_⟩
           rintro _ _ ⟨rfl,rfl⟩
           have hx:=cmpL_lex c3
           by_cases c4:cmpL (choice R q R.length) d<0
           ·rw [if_pos (.inr ⟨c3,hx.1 c4⟩)] at hstep
            simp only [go_sem,e1,e2,e3,e4,e5,e13,e16,e17,e18,e19,e20,e44,e45,e49,e50,e51,hi2,hb,Option.isSome_some,Option.getD_some,c1,c2,c4]
            exact ⟨hlt,_,⟨e1,e2,e3,e4,e5,e13,rfl,rfl,by rw [hstep];rfl,e44,congrArg _ ws,trivial⟩,hp3 _,by rw [hstep];exact f3 _⟩
           ·rw [if_neg (by rintro (h1|⟨_,h1⟩);exact c1 h1;exact c4 (hx.2 h1))] at hstep
            simp only [go_sem,e1,e2,e3,e4,e5,e13,e16,e17,e18,e19,e20,e44,e45,e49,e50,e51,hi2,hb,Option.isSome_some,Option.getD_some,c1,c2,c4]
            exact ⟨hlt,_,⟨e1,e2,e3,e4,e5,e13,e16',e17,keep hstep,e44,congrArg _ ws,trivial⟩,hp3 _,by rw [hstep];exact sB3 _⟩
    ·obtain rfl:q=2 ^ R.length:=by omega
     simp only [go_sem,e1,e2,e3,e4,e5,e13,e16,e17,e18,e44,e45,show ¬(((2 ^ R.length:Nat):Int)<((2 ^ R.length:Nat):Int)) by omega]
     exact ⟨⟨_,rfl,sB⟩,hp0.trans hpH⟩
def canB (N:Int) (P:List Pip) (V:List Vlv) (s pi:Int):Prop:=valOk N P V∧(1<=s∧s<=N)∧0<=pidx P pi
open Classical in
noncomputable instance {N:Int} {P:List Pip} {V:List Vlv} {s pi:Int}:Decidable (canB N P V s pi):=propDecidable _
noncomputable def planR (N:Int) (P:List Pip) (V:List Vlv) (s pi:Int):Option (List Int):=if canB N P V s pi then bst P V s.toNat (pidx P pi).toNat (2 ^ (openVl V).length) else none
theorem c_canBurst {n:Nat} (v w:Value) (N:Int) (P:List Pip) (V:List Vlv) (s pi:Int) (hv:NA n h v N P) (sv:Sl h 4 w (V.map vlv)) (es:EszC h 4 w) (hP:P.length<=1048576) (hV:V.length<=1048576) :
  vCall [] Tryz.prog M 179 [v,w, .int .i64 s, .int .i64 pi] h (fun r h'=>r = .bool (decide (canB N P V s pi))∧h<+:h'):=by
 obtain ⟨wp,rfl,sp⟩:=id hv
 refine body_of mo Tryz.func179 rfl (by kernel_rfl) (Nat.le_of_ble_eq_true (by kernel_rfl)) rfl ?_
 simp only [go_sem]
 refine ⟨by kernel_rfl,(c_IsValidValves _ _ N P V (hv.mono (by simp)) (sv.mono (by simp)) (es.mono (by simp)) hP hV).use (fun _ m=>m) ?_⟩
 rintro _ _ ⟨rfl,⟨t,rfl⟩⟩
 by_cases h1:valOk N P V
 ·simp only [go_sem,decb h1]
  refine ⟨by kernel_rfl,(c_has _ _ _).use (fun _ m=>m) ?_⟩
  rintro _ _ ⟨rfl,⟨t2,rfl⟩⟩
  by_cases h2:1<=s∧s<=N
  ·simp only [go_sem,decb h1,decb h2]
   refine ⟨by kernel_rfl,(c_pipeIndex _ N P pi (hv.mono (by simp)) hP).use (fun _ m=>m) ?_⟩
   rintro _ _ ⟨rfl,⟨t3,rfl⟩⟩
   simp only [go_sem,decb h1,decb h2]
   exact congrArg Value.bool (decide_eq_decide.2 ⟨fun hh=>⟨h1,h2,hh⟩,fun hh=>hh.2.2⟩)
  ·simp only [go_sem,decb h1,dect h2]
   exact congrArg Value.bool (decide_eq_false (fun hh:canB N P V s pi=>h2 hh.2.1)).symm
 ·simp only [go_sem,dect h1]
  exact congrArg Value.bool (decide_eq_false (fun hh:canB N P V s pi=>h1 hh.1)).symm
theorem c_ShortestPlan {n:Nat} (v w:Value) (N:Int) (P:List Pip) (V:List Vlv) (s pi:Int) (hv:NA n h v N P) (sv:Sl h 4 w (V.map vlv)) (es:EszC h 4 w) (hP:P.length<=1048576) (hV:V.length<=1048576) :
  vCall [] Tryz.prog M 142 [v,w, .int .i64 s, .int .i64 pi] h (fun r h'=>(∃x,r = .tuple #[x, .bool (planR N P V s pi).isSome]∧SI h' x ((planR N P V s pi).getD []))∧h<+:h'):=by
 obtain ⟨wp,rfl,sp⟩:=id hv
 refine body_of mo Tryz.func142 rfl (by kernel_rfl) (Nat.le_of_ble_eq_true (by kernel_rfl)) rfl ?_
 simp only [go_sem]
 refine ⟨by kernel_rfl,(c_canBurst _ _ N P V s pi (hv.mono (by simp)) (sv.mono (by simp)) (es.mono (by simp)) hP hV).use (fun _ m=>m) ?_⟩
 rintro _ _ ⟨rfl,⟨t,rfl⟩⟩
 by_cases h1:canB N P V s pi
 ·have hN:1<=N∧N<=8:=h1.1.1.2.1
  have hs:=h1.2.1
  have eR:planR N P V s pi=bst P V s.toNat (pidx P pi).toNat (2 ^ (openVl V).length):=by rw [planR,if_pos h1]
  rw [eR]
  obtain ⟨N,rfl⟩: ∃N':Nat,N=N':=⟨N.toNat,by omega⟩
  obtain ⟨s,rfl⟩: ∃s':Nat,s=s':=⟨s.toNat,by omega⟩
  rw [Int.toNat_natCast]
  simp only [go_sem,decb h1]
  refine ⟨by kernel_rfl,(c_bestPlan _ _ N P V s pi (hv.mono (by simp)) (sv.mono (by simp)) h1.1 (by omega) h1.2.2).use (fun _ m=>m) ?_⟩
  rintro _ _ ⟨⟨x,rfl,qx⟩,⟨t2,rfl⟩⟩
  try simp only [List.append_assoc,List.cons_append] at qx
  cases hb:bst P V s (pidx P pi).toNat (2 ^ (openVl V).length) with
  | none=>
   simp only [go_sem,decb h1,Option.isSome_none]
   exact ⟨_,rfl,AI.none⟩
  | some d=>
   rw [hb] at qx
   simp only [go_sem,decb h1,Option.isSome_some]
   exact ⟨_,rfl,qx⟩
 ·have eR:planR N P V s pi=none:=by rw [planR,if_neg h1]
  rw [eR]
  simp only [go_sem,dect h1]
  exact ⟨_,rfl,AI.none⟩
end
open Go.HH Go.Proofs
def lessL (a b:List Int):Bool:=decide (a.length<b.length)||(decide (a.length=b.length)&&lexL a b)
section
variable {h : Heap} {M : Nat → Prop}
theorem c_l5Open (w:Value) (V:List Vlv) (sv:Sl h 4 w (V.map vlv)) (hV:V.length<=1000):vCall [] Tryz.prog M 233 [w] h (fun r h'=>SI h' r (openVl V)∧h<+:h'):=by
 obtain ⟨a,ew,_,_⟩:=id sv
 rw [List.length_map] at ew
 subst ew
 refine body_of mo Tryz.func233 rfl (by kernel_rfl) (Nat.le_of_ble_eq_true (by kernel_rfl)) rfl ?_
 simp only [go_sem]
 refine vLoop.count mo V.length (fun i e h'=> ∃(t:Heap) (v3:Value),Regs e [(0, .slice a V.length 0),(3,v3),(4, .int .i64 i)]∧HeapIs h' (h++t)∧OF h.length 0 t v3 (openVl (V.take i))) ?_ ?_
 ·exact ⟨_, .slice (some ⟨h.length,0,none⟩) 0 0,⟨rfl,rfl,rfl,trivial⟩, .rfl, .mk' 0 rfl rfl rfl⟩
 ·rintro i e _ hi ⟨t,v3,⟨e0,e3,e4,_⟩,rfl,oi⟩
  obtain ⟨j,rfl,hj⟩:=id oi
  simp only [go_sem,e0,e3,e4,Nat.add_zero]
  by_cases hlt:i<V.length
  ·have hlt':i<(V.map vlv).length:=by simpa using hlt
   have hz:(i:Int)<V.length:=by omega
   have ws:=wsucc hlt (by omega)
   obtain ⟨id2,o,K,hvv,hK,_,hd,hb,hrow,hat⟩:=sv.at hlt'
   obtain rfl:a=some ⟨id2,o,none⟩:=by simpa using hvv
   have g0:=hat 0 (by omega)
   have g3:=hat 3 (by omega)
   rw [List.getElem_map] at g0 g3
   simp only [vlv,List.getElem?_cons_zero,List.getElem?_cons_succ,Nat.add_zero] at g0 g3
   have hlen:=openVl_len (V:=V.take i)
   have htl:(V.take i).length<=i:=by rw [List.length_take];omega
   have htk:=openVl_take hlt
   simp only [go_sem,e0,e3,e4,Nat.add_zero,hz,hK,hd,g3]
   cases q:V[i].2.2.2 with
   | true=>
    rw [q] at htk
    simp only [go_sem,e0,e3,e4,Nat.add_zero,q]
    exact ⟨hlt,_,_,⟨e0,e3,congrArg _ ws,trivial⟩, .rfl,by rw [htk];simpa using oi.mono []⟩
   | false=>
    rw [q] at htk
    simp only [go_sem,e0,e3,e4,Nat.add_zero,q,hz,hK,hd,g0,app_old hj,List.length_map]
    refine ⟨by omega,by omega,hlt,_,_,⟨e0,rfl,congrArg _ ws,trivial⟩, .rfl,(.mk' (t.length+1) ?_ (by rw [htk];simp) ?_)⟩
    ·simp;try omega
    ·exact (new_at (by simp;try omega)).trans (by simp [iv,htk])
  ·obtain rfl:i=V.length:=by omega
   simp only [go_sem,e0,e3,e4,Nat.add_zero,show ¬((V.length:Int)<V.length) by omega]
   rw [List.take_length] at oi
   have:=OF.ai [] oi rfl
   rw [List.take_length]
   simpa [SI] using this
theorem c_l5Choice (v:Value) (R:List Int) (q:Nat) (sR:SI h v R) (hR:R.length<=60) (hq:q<=1000000):vCall [] Tryz.prog M 235 [v, .int .i64 q] h (fun r h'=>SI h' r (choice R q R.length)∧h<+:h'):=by
 obtain ⟨b,rfl⟩:=AI.len sR
 refine body_of mo Tryz.func235 rfl (by kernel_rfl) (Nat.le_of_ble_eq_true (by kernel_rfl)) rfl ?_
 simp only [go_sem]
 refine vLoop.count mo R.length (fun i e h'=> ∃(t:Heap) (v5:Value),Regs e [(0, .slice b R.length 0),(1, .int .i64 q),(5,v5),(6, .int .i64 i)]∧HeapIs h' (h++t)∧OF h.length 0 t v5 (choice R q i)) ?_ ?_
 ·exact ⟨_, .slice (some ⟨h.length,0,none⟩) 0 0,⟨rfl,rfl,rfl,rfl,trivial⟩, .rfl, .mk' 0 rfl rfl rfl⟩
 ·rintro i e _ hi ⟨t,v5,⟨e0,e1,e5,e6,_⟩,rfl,oi⟩
  obtain ⟨j,rfl,hj⟩:=id oi
  simp only [go_sem,e0,e1,e5,e6,Nat.add_zero]
  have hcl:=choice_len (L:=R) (s:=q) (i:=i)
  by_cases hir:i<R.length
  ·have wi:=wsucc hir (by omega)
   have hzi:(i:Int)<R.length:=by omega
   obtain ⟨id2,o2,K2,hv2,_,hk2,_,hd2,_,_,_,hat2⟩:=AI.at sR (Nat.zero_lt_of_lt hir)
   obtain rfl:b=some ⟨id2,o2,none⟩:=by simpa using hv2
   have wi2:IntKind.u64.wrap (i:Int)=i:=IntWalk.u64_in _ (by omega)
   simp only [go_sem,e0,e1,e5,e6,Nat.add_zero,hzi,wi2,hBin_shr (show (0:Int)<=i by omega),shr_nat' (a:=q) (i:=i) (by omega),hBin_bit,bit_eq]
   cases hbit:q.testBit i with
   | true=>
    have hyes:=choice_yes hir hbit
    simp only [go_sem,e0,e1,e5,e6,Nat.add_zero,hbit,hzi,hk2,hd2,hat2 i hir,app_old hj,List.length_map]
    refine ⟨by omega,by omega,hir,_,_,⟨e0,e1,rfl,congrArg _ wi,trivial⟩, .rfl,(.mk' (t.length+1) ?_ (by rw [hyes];simp) ?_)⟩
    ·simp
    ·exact (new_at (by simp)).trans (by simp [iv,hyes])
   | false=>
    have hno:=choice_no (L:=R) hbit
    simp only [go_sem,e0,e1,e5,e6,Nat.add_zero,hbit]
    exact ⟨hir,_,_,⟨e0,e1,e5,congrArg _ wi,trivial⟩, .rfl,by rw [hno];exact oi⟩
  ·obtain rfl:i=R.length:=by omega
   simp only [go_sem,e0,e1,e5,e6,Nat.add_zero,show ¬((R.length:Int)<R.length) by omega]
   have:=OF.ai [] oi rfl
   simpa [SI] using this
theorem c_l5Less (v w:Value) (a b:List Int) (s:SI h v a) (s':SI h w b) (hmax:a.length<=1048576) (hmax':b.length<=1048576) :
  vCall [] Tryz.prog M 236 [v,w] h (fun r h'=>r = .bool (lessL a b)∧h=h'):=by
 obtain ⟨p,rfl⟩:=AI.len s
 obtain ⟨q,rfl⟩:=AI.len s'
 refine body_of mo Tryz.func236 rfl (by kernel_rfl) (Nat.le_of_ble_eq_true (by kernel_rfl)) rfl ?_
 simp only [go_sem]
 by_cases hab:a.length=b.length
 ·simp only [go_sem,show ((a.length:Int) != b.length)=false by simp [hab]]
  refine vLoop.count mo a.length (fun i e h'=>Regs e [(0, .slice p a.length 0),(1, .slice q b.length 0),(5, .int .i64 i)]∧HeapIs h' h ∧
   ∀(j:Nat) (h1:j<a.length) (h2:j<b.length),j<i->a[j]=b[j]) ?_ ?_
  ·exact ⟨⟨rfl,rfl,rfl,trivial⟩, .rfl,fun j _ _ hj=>absurd hj (by omega)⟩
  ·rintro i e H hi ⟨⟨e0,e1,e5,_⟩,rfl,hsame⟩
   have hd:=lexL_drop hi (by omega) hsame
   have eL:lessL a b=lexL a b:=by simp [lessL,hab]
   rw [eL]
   simp only [go_sem,e0,e1,e5]
   by_cases hlt:i<a.length
   ·have ws:=wsucc hlt (by omega)
    have hz:(i:Int)<a.length:=by omega
    have h2:i<b.length:=by omega
    obtain ⟨id,o,k,hv,_,_,hk,hkd,_,_,_,hat⟩:=AI.at s (Nat.zero_lt_of_lt hlt)
    obtain rfl:p=some ⟨id,o,none⟩:=by simpa using hv
    obtain ⟨id2,o2,k2,hv2,_,_,hk2,hkd2,_,_,_,hat2⟩:=AI.at s' (Nat.zero_lt_of_lt h2)
    obtain rfl:q=some ⟨id2,o2,none⟩:=by simpa using hv2
    have hz2:(i:Int)<b.length:=by omega
    rw [List.drop_eq_getElem_cons hlt,List.drop_eq_getElem_cons h2,lexL] at hd
    simp only [go_sem,e0,e1,e5,hz,hz2,hk,hkd,hat i hlt,hk2,hkd2,hat2 i h2]
    by_cases c1:a[i]=b[i]
    ·simp only [go_sem,e0,e1,e5,show (a[i] != b[i])=false by simpa using c1]
     refine ⟨hlt,⟨e0,e1,congrArg _ ws,trivial⟩, .rfl,fun j h1 h2 hj => ?_⟩
     by_cases hji:j<i
     ·exact hsame j h1 h2 hji
     ·obtain rfl:j=i:=by omega
      exact c1
    ·simp only [go_sem,e0,e1,e5,show (a[i] != b[i])=true by simpa using c1,hz,hz2,hk,hkd,hat i hlt,hk2,hkd2,hat2 i h2]
     rw [hd,if_neg c1]
   ·obtain rfl:i=a.length:=by omega
    rw [List.drop_length,List.drop_of_length_le (by omega)] at hd
    simp only [go_sem,e0,e1,e5,show ¬((a.length:Int)<a.length) by omega]
    rw [hd];rfl
 ·simp only [go_sem,show ((a.length:Int) != b.length)=true by simp;omega]
  refine congrArg Value.bool ?_
  simp [lessL,hab]
theorem c_l5Best {n:Nat} (v w:Value) (cs:Option Addr) (N:Nat) (P:List Pip) (V:List Vlv) (s:Nat) (pi:Int) (hv:NA n h v N P) (sv:Sl h 4 w (V.map vlv)) (g:valOk N P V) (hs:1<=s∧s<=N) (hk0:0<=pidx P pi) :
  vCall [] Tryz.prog M 198 [v,w, .int .i64 s, .int .i64 pi, .slice cs 0 0] h
   (fun r h'=>(∃x,r = .tuple #[x, .int .i64 (if (bst P V s (pidx P pi).toNat (2 ^ (openVl V).length)).isSome then 0 else -1)]∧SI h' x ((bst P V s (pidx P pi).toNat (2 ^ (openVl V).length)).getD []))∧h<+:h'):=by
 obtain ⟨wp,rfl,sP⟩:=id hv
 have hV10:=g.2.1
 refine body_of mo Tryz.func198 rfl (by kernel_rfl) (Nat.le_of_ble_eq_true (by kernel_rfl)) rfl ?_
 simp only [go_sem]
 refine ⟨by kernel_rfl,(c_l5Open w V (sv.mono (by simp)) (by omega)).use (fun _ m=>m) ?_⟩
 rintro vo _ ⟨sR,⟨t,rfl⟩⟩
 have hRl:=openVl_len (V:=V)
 simp only [go_sem]
 try simp only [List.append_assoc,List.cons_append] at sR
 refine ⟨by kernel_rfl,(c_l5Cut _ w vo N P V s pi (openVl V) (hv.mono (by simp)) (sv.mono (by simp)) (SI.mono sR (by simp)) g hs hk0 (by omega)).use (fun _ m=>m) ?_⟩
 rintro _ _ ⟨rfl,⟨t2,rfl⟩⟩
 obtain ⟨kk,hkk⟩: ∃k,k=(pidx P pi).toNat:=⟨_,rfl⟩
 rw [←hkk]
 cases ho:isoB P V s kk (openVl V) with
 | false=>
  rw [bst_none ho]
  simp only [go_sem,ho]
  exact ⟨_,rfl,⟨_,rfl,fun h0=>absurd h0 (by simp)⟩⟩
 | true=>
  simp only [go_sem,ho]
  obtain ⟨R,hR⟩: ∃R,R=openVl V:=⟨_,rfl⟩
  rw [←hR] at sR hRl ⊢
  obtain ⟨b,rfl⟩:=AI.len sR
  have hbs: ∀q,bst P V s kk (q+1)=if isoB P V s kk (choice R q R.length)=true then
    match bst P V s kk q with
    | none=>some (choice R q R.length)
    | some d=>if (choice R q R.length).length<d.length∨((choice R q R.length).length=d.length∧lexL (choice R q R.length) d=true) then some (choice R q R.length) else some d
   else bst P V s kk q:=fun q=>by rw [hR];rfl
  have hbl: ∀ {q:Nat} {d:List Int},bst P V s kk q=some d->d.length<=10:=fun hd=>by have:=bst_len hd;rw [←hR] at this;omega
  obtain ⟨H0,hH0⟩: ∃H0:Heap,H0=h++⟨[.int .i64 N,wp],2, .rw⟩::(t++⟨[],1, .rw⟩::t2):=⟨_,rfl⟩
  have hp0:h<+:H0:=by rw [hH0];exact List.prefix_append _ _
  have gB:hget H0 h.length=some ⟨[.int .i64 N,wp],2, .rw⟩:=by rw [hH0];simp only [go_sem]
  replace sR:SI H0 (.slice b R.length 0) R:=by rw [hH0];exact SI.mono sR (by simp)
  rw [←hH0]
  have wR:IntKind.u64.wrap (R.length:Int)=R.length:=IntWalk.u64_in _ (by omega)
  refine vLoop.count mo (2 ^ R.length) (fun q e h'=> ∃(vb:Value),Regs e [(1,w),(2, .int .i64 s),(3, .int .i64 pi),(4, .slice cs 0 0),(5, .pointer (some ⟨h.length,0,none⟩)),(12, .slice b R.length 0),(13,vb),(14, .int .i64 (if (bst P V s kk q).isSome then 0 else -1)),(15, .int .i64 q)] ∧
   H0<+:h'∧SI h' vb ((bst P V s kk q).getD [])) ?_ ?_
  ·exact ⟨_,⟨rfl,rfl,rfl,rfl,rfl,rfl,rfl,rfl,rfl,trivial⟩,List.prefix_rfl,⟨_,rfl,fun h0=>absurd h0 (by simp [bst])⟩⟩
  ·clear hH0
   rintro q e H hq ⟨vb,⟨e1,e2,e3,e4,e5,e12,e13,e14,e15,_⟩,hpH,sB⟩
   have h2R:2 ^ R.length<=2 ^ 10:=Nat.pow_le_pow_right (by omega) (by omega)
   obtain ⟨c,hc⟩:=AI.len sB
   subst hc
   simp only [go_sem,e1,e2,e3,e4,e5,e12,e13,e14,e15,wR,hBin_shl (show (0:Int)<=R.length by omega),shl_one' (show R.length<=60 by omega)]
   by_cases hlt:q<2 ^ R.length
   ·have ws:=wsucc hlt (by omega)
    have hz:(q:Int)<((2 ^ R.length:Nat):Int):=by omega
    simp only [go_sem,e1,e2,e3,e4,e5,e12,e13,e14,e15,hz]
    refine ⟨by kernel_rfl,(c_l5Choice _ R q (SI.mono sR hpH) (by omega) (by omega)).use (fun _ m=>m) ?_⟩
    rintro vc _ ⟨f1,⟨t3,rfl⟩⟩
    have hstep:=hbs q
    have hcl:=choice_len (L:=R) (s:=q) (i:=R.length)
    obtain ⟨c2,rfl⟩:=AI.len f1
    have gB1: ∀X:Heap,hget (H++(t3++X)) h.length=some ⟨[.int .i64 N,wp],2, .rw⟩:=fun X=>pre_get hpH gB _
    have hpX: ∀X:Heap,H0<+:H++(t3++X):=fun X=>hpH.trans (List.prefix_append _ _)
    have fX: ∀X:Heap,SI (H++(t3++X)) (.slice c2 (choice R q R.length).length 0) (choice R q R.length):=fun X=>by rw [←List.append_assoc];exact SI.mono f1 (List.prefix_append _ _)
    have bX: ∀X:Heap,SI (H++(t3++X)) (.slice c ((bst P V s kk q).getD []).length 0) ((bst P V s kk q).getD []):=fun X=>SI.mono sB (List.prefix_append _ _)
    have bX0:SI (H++t3) (.slice c ((bst P V s kk q).getD []).length 0) ((bst P V s kk q).getD []):=SI.mono sB (List.prefix_append _ _)
    have gB0:hget (H++t3) h.length=some ⟨[.int .i64 N,wp],2, .rw⟩:=pre_get hpH gB _
    have hp3:H0<+:H++t3:=hpH.trans (List.prefix_append _ _)
    cases hb:bst P V s kk q with
    | none=>
     rw [hb] at hstep
     simp only at hstep
     have keepN:bst P V s kk (q+1)=none->e 14 = .int .i64 (if (bst P V s kk (q+1)).isSome then 0 else -1):=fun hh=>by rw [hh,e14,hb]
     simp only [go_sem,e1,e2,e3,e4,e5,e12,e13,e14,e15,hb,Option.isSome_none,gB0]
     refine ⟨by kernel_rfl,(c_l5Cut _ w _ N P V s pi (choice R q R.length) (hv.mono (hp0.trans hp3)) (sv.mono (hp0.trans hp3)) f1 g hs hk0 (by omega)).use (fun _ m=>m) ?_⟩
     rintro _ _ ⟨rfl,⟨t4,rfl⟩⟩
     rw [←hkk]
     cases hi2:isoB P V s kk (choice R q R.length) with
     | false=>
      rw [hi2,if_neg (by decide)] at hstep
      simp only [go_sem,e1,e2,e3,e4,e5,e12,e13,e14,e15,hi2,hb,Option.isSome_none]
      exact ⟨hlt,_,⟨e1,e2,e3,e4,e5,e12,e13,keepN hstep,congrArg _ ws,trivial⟩,hpX _,by rw [hstep];simpa [hb] using bX t4⟩
     | true=>
      rw [hi2,if_pos rfl] at hstep
      simp only [go_sem,e1,e2,e3,e4,e5,e12,e13,e14,e15,hi2,hb,Option.isSome_none,show ((-1:Int)<0) by decide]
      exact ⟨hlt,_,⟨e1,e2,e3,e4,e5,e12,rfl,by rw [hstep];rfl,congrArg _ ws,trivial⟩,hpX _,by rw [hstep];exact fX t4⟩
    | some d=>
     rw [hb] at hstep bX bX0
     simp only [Option.getD_some] at hstep bX bX0
     have hdl:=hbl hb
     have hless:lessL (choice R q R.length) d=true↔((choice R q R.length).length<d.length∨((choice R q R.length).length=d.length∧lexL (choice R q R.length) d=true)):=by simp [lessL]
     have e13':e 13 = .slice c d.length 0:=by rw [e13,hb];rfl
     have keep:bst P V s kk (q+1)=some d->e 14 = .int .i64 (if (bst P V s kk (q+1)).isSome then 0 else -1):=fun hh=>by rw [hh,e14,hb]
     simp only [go_sem,e1,e2,e3,e4,e5,e12,e13,e14,e15,hb,Option.isSome_some,Option.getD_some]
     refine ⟨by kernel_rfl,(c_l5Less _ _ (choice R q R.length) d f1 bX0 (by omega) (by omega)).use (fun _ m=>m) ?_⟩
     rintro _ _ ⟨rfl,rfl⟩
     cases hl:lessL (choice R q R.length) d with
     | false=>
      have hkeep:bst P V s kk (q+1)=some d:=by
       rw [hstep]
       split
       ·rw [if_neg (fun hh=>by rw [hless.2 hh] at hl;cases hl)]
       ·rfl
      simp only [go_sem,e1,e2,e3,e4,e5,e12,e13,e14,e15,hb,hl,Option.isSome_some,Option.getD_some]
      exact ⟨hlt,_,⟨e1,e2,e3,e4,e5,e12,e13',keep hkeep,congrArg _ ws,trivial⟩,hp3,by rw [hkeep];exact bX0⟩
     | true=>
      simp only [go_sem,e1,e2,e3,e4,e5,e12,e13,e14,e15,hb,hl,Option.isSome_some,Option.getD_some,gB0]
      refine ⟨by kernel_rfl,(c_l5Cut _ w _ N P V s pi (choice R q R.length) (hv.mono (hp0.trans hp3)) (sv.mono (hp0.trans hp3)) f1 g hs hk0 (by omega)).use (fun _ m=>m) ?_⟩
      rintro _ _ ⟨rfl,⟨t4,rfl⟩⟩
      rw [←hkk]
      cases hi2:isoB P V s kk (choice R q R.length) with
      | false=>
       rw [hi2,if_neg (by decide)] at hstep
       simp only [go_sem,e1,e2,e3,e4,e5,e12,e13,e14,e15,hi2,hb,Option.isSome_some,Option.getD_some]
       exact ⟨hlt,_,⟨e1,e2,e3,e4,e5,e12,e13',keep hstep,congrArg _ ws,trivial⟩,hpX _,by rw [hstep];exact bX t4⟩
      | true=>
       rw [hi2,if_pos rfl,if_pos (hless.1 hl)] at hstep
       simp only [go_sem,e1,e2,e3,e4,e5,e12,e13,e14,e15,hi2,hb,Option.isSome_some,Option.getD_some]
       refine ⟨by kernel_rfl,(c_l5Less _ _ (choice R q R.length) d (fX t4) (bX t4) (by omega) (by omega)).use (fun _ m=>m) ?_⟩
       rintro _ _ ⟨rfl,rfl⟩
       simp only [go_sem,e1,e2,e3,e4,e5,e12,e13,e14,e15,hi2,hb,hl,Option.isSome_some,Option.getD_some]
       exact ⟨hlt,_,⟨e1,e2,e3,e4,e5,e12,rfl,by rw [hstep];rfl,congrArg _ ws,trivial⟩,hpX _,by rw [hstep];exact fX t4⟩
   ·obtain rfl:q=2 ^ R.length:=by omega
    simp only [go_sem,e1,e2,e3,e4,e5,e12,e13,e14,e15,show ¬(((2 ^ R.length:Nat):Int)<((2 ^ R.length:Nat):Int)) by omega]
    exact ⟨⟨_,rfl,sB⟩,hp0.trans hpH⟩
theorem c_l5Asked {n:Nat} (v w:Value) (N:Int) (P:List Pip) (V:List Vlv) (s pi:Int) (hv:NA n h v N P) (sv:Sl h 4 w (V.map vlv)) (hP:P.length<=1048576) (hV:V.length<=1048576) :
  vCall [] Tryz.prog M 197 [v,w, .int .i64 s, .int .i64 pi] h (fun r h'=>r = .bool (decide (canB N P V s pi))∧h<+:h'):=by
 obtain ⟨wp,rfl,sp⟩:=id hv
 refine body_of mo Tryz.func197 rfl (by kernel_rfl) (Nat.le_of_ble_eq_true (by kernel_rfl)) rfl ?_
 simp only [go_sem]
 refine ⟨by kernel_rfl,(c_l4Good _ _ N P V (hv.mono (by simp)) (sv.mono (by simp)) hP hV).use (fun _ m=>m) ?_⟩
 rintro _ _ ⟨rfl,⟨t,rfl⟩⟩
 by_cases h1:valOk N P V
 ·simp only [go_sem,decb h1]
  refine ⟨by kernel_rfl,(c_l2NodeN _ N P s (hv.mono (by simp)) hP).use (fun _ m=>m) ?_⟩
  rintro _ _ ⟨rfl,⟨t2,rfl⟩⟩
  by_cases h2:netGood N P∧1<=s∧s<=N
  ·simp only [go_sem,decb h1,decb h2]
   refine ⟨by kernel_rfl,(c_l2Find _ N P pi (hv.mono (by simp)) hP).use (fun _ m=>m) ?_⟩
   rintro _ _ ⟨rfl,⟨t3,rfl⟩⟩
   simp only [go_sem,decb h1,decb h2]
   exact congrArg Value.bool (decide_eq_decide.2 ⟨fun hh=>⟨h1,h2.2,hh⟩,fun hh=>hh.2.2⟩)
  ·simp only [go_sem,decb h1,dect h2]
   exact congrArg Value.bool (decide_eq_false (fun hh:canB N P V s pi=>h2 ⟨h1.1,hh.2.1⟩)).symm
 ·simp only [go_sem,dect h1]
  exact congrArg Value.bool (decide_eq_false (fun hh:canB N P V s pi=>h1 hh.1)).symm
theorem c_sShortestPlan {n:Nat} (v w:Value) (N:Int) (P:List Pip) (V:List Vlv) (s pi:Int) (hv:NA n h v N P) (sv:Sl h 4 w (V.map vlv)) (hP:P.length<=1048576) (hV:V.length<=1048576) :
  vCall [] Tryz.prog M 155 [v,w, .int .i64 s, .int .i64 pi] h (fun r h'=>(∃x,r = .tuple #[x, .bool (planR N P V s pi).isSome]∧SI h' x ((planR N P V s pi).getD []))∧h<+:h'):=by
 obtain ⟨wp,rfl,sp⟩:=id hv
 refine body_of mo Tryz.func155 rfl (by kernel_rfl) (Nat.le_of_ble_eq_true (by kernel_rfl)) rfl ?_
 simp only [go_sem]
 refine ⟨by kernel_rfl,(c_l5Asked _ _ N P V s pi (hv.mono (by simp)) (sv.mono (by simp)) hP hV).use (fun _ m=>m) ?_⟩
 rintro _ _ ⟨rfl,⟨t,rfl⟩⟩
 by_cases h1:canB N P V s pi
 ·have hN:1<=N∧N<=8:=h1.1.1.2.1
  have hs:=h1.2.1
  have eR:planR N P V s pi=bst P V s.toNat (pidx P pi).toNat (2 ^ (openVl V).length):=by rw [planR,if_pos h1]
  rw [eR]
  obtain ⟨N,rfl⟩: ∃N':Nat,N=N':=⟨N.toNat,by omega⟩
  obtain ⟨s,rfl⟩: ∃s':Nat,s=s':=⟨s.toNat,by omega⟩
  rw [Int.toNat_natCast]
  simp only [go_sem,decb h1]
  refine ⟨by kernel_rfl,(c_l5Best _ _ _ N P V s pi (hv.mono (by simp)) (sv.mono (by simp)) h1.1 (by omega) h1.2.2).use (fun _ m=>m) ?_⟩
  rintro _ _ ⟨⟨x,rfl,qx⟩,⟨t2,rfl⟩⟩
  try simp only [List.append_assoc,List.cons_append,List.nil_append] at qx
  cases hb:bst P V s (pidx P pi).toNat (2 ^ (openVl V).length) with
  | none=>
   rw [hb] at qx
   simp only [go_sem,decb h1,Option.isSome_none]
   exact ⟨_,rfl,qx⟩
  | some d=>
   rw [hb] at qx
   simp only [go_sem,decb h1,Option.isSome_some]
   exact ⟨_,rfl,qx⟩
 ·have eR:planR N P V s pi=none:=by rw [planR,if_neg h1]
  rw [eR]
  simp only [go_sem,dect h1]
  exact ⟨_,rfl,⟨_,rfl,fun h0=>absurd h0 (by simp)⟩⟩
end
open Go.HH Go.Proofs
theorem c_Contains {h:Heap} {M:Nat->Prop} (s:ByteArray) (c:UInt8):vCall [] Tryz.prog M 103 [.string s, .string ⟨#[c]⟩] h (fun r h'=>r = .bool ((bl s).contains c)∧h=h'):=by
 have:=vCall_plain (G:= []) (M:=M) (h:=h) (args:= [.string s, .string ⟨#[c]⟩]) (by rfl) rfl (Tryz.strings_Contains_one s c)
 rw [←Lib.contains_iff_indexByte] at this
 exact this
open Go.HH
def okc (b:UInt8):Bool:=decide (32<=b.toNat∧b.toNat<=126∧b.toNat≠35)
def plainS (s:ByteArray):Bool:=(bl s).all okc
def recOk (c r:ByteArray):Bool:=decide (1<=c.size∧c.size<=160∧r.size<=200)&&plainS c&&plainS r && !((bl c).contains 64)
theorem u8_ofNat (b:UInt8):(b.toNat:Int)<=255∧(0:Int)<=b.toNat:=by
 have:=b.toNat_lt;omega
section
variable {h : Heap} {M : Nat → Prop}
theorem c_isPlain (s : ByteArray) (hmax : s.size ≤ 9223372036854775806) : vCall [] Tryz.prog M 102 [.string s] h (fun r h' => r = .bool (plainS s) ∧ h = h') := by
  refine body_of mo Tryz.func102 rfl (by kernel_rfl) (Nat.le_of_ble_eq_true (by kernel_rfl)) rfl ?_
  simp only [go_sem]
  refine vLoop.count mo s.size (fun i e h' => e 0 = .string s ∧ e 3 = .int .i64 i ∧ HeapIs h h' ∧ ((bl s).take i).all okc = true) ?_ ?_
  · exact ⟨rfl, rfl, HeapIs.rfl, by simp⟩
  · rintro i e _ hi ⟨e0, e3, hh, hj⟩
    cases hh
    simp only [go_sem, e0, e3]
    refine .intro (fun h1 => ?_) (fun h1 => ?_)
    · have hlt : i < s.size := by simpa using h1
      have hlt' : i < (bl s).length := by rw [bl_len]; exact hlt
      have hb := bl_get hlt
      obtain ⟨b, hbe⟩ : ∃ b, b = (bl s)[i] := ⟨_, rfl⟩
      rw [← hbe] at hb
      have hc : okc (bl s)[i] = decide (32 ≤ b.toNat ∧ b.toNat ≤ 126 ∧ b.toNat ≠ 35) := by rw [← hbe]; rfl
      simp only [go_sem, e0, e3, hb]
      by_cases g1 : (b.toNat : Int) < 32
      · simp only [go_sem, e0, e3, hb, g1]
        rw [show plainS s = false from not_all hlt' (hc.trans (decide_eq_false (by omega)))]
      · simp only [go_sem, e0, e3, hb, g1]
        by_cases g2 : (126 : Int) < b.toNat
        · simp only [go_sem, e0, e3, hb, g2]
          rw [show plainS s = false from not_all hlt' (hc.trans (decide_eq_false (by omega)))]
        · simp only [go_sem, e0, e3, hb, g2]
          by_cases g3 : (b.toNat : Int) = 35
          · simp only [go_sem, e0, e3, hb, g3]
            rw [show plainS s = false from not_all hlt' (hc.trans (decide_eq_false (by omega)))]
          · simp only [go_sem, e0, e3, hb, show ((b.toNat : Int) == 35) = false by simpa using g3]
            refine ⟨hlt, by rw [wrap64 (by omega)]; rfl, HeapIs.rfl, take_all hlt' hj (hc.trans (decide_eq_true (by omega)))⟩
    · obtain rfl : i = s.size := by have : ¬ i < s.size := by simpa using h1
                                    omega
      simp only [go_sem, e0, e3]
      have : plainS s = true := by rw [← bl_len, List.take_length] at hj; exact hj
      rw [this]
      all_goals first | exact rfl | exact ⟨rfl, rfl⟩ | exact List.prefix_append _ _ | exact ⟨rfl, List.prefix_append _ _⟩ | assumption | exact ⟨rfl, by assumption⟩ | exact List.prefix_rfl | exact ⟨rfl, List.prefix_rfl⟩ | exact List.IsPrefix.trans (by assumption) (by assumption) | exact ⟨rfl, List.IsPrefix.trans (by assumption) (by assumption)⟩
theorem c_l27Plain (s : ByteArray) (n : Int) (hmax : s.size ≤ 9223372036854775806) : vCall [] Tryz.prog M 111 [.string s, .int .i64 n] h (fun r h' => r = .bool (plainS s && decide ((s.size : Int) ≤ n)) ∧ h = h') := by
  refine body_of mo Tryz.func111 rfl (by kernel_rfl) (Nat.le_of_ble_eq_true (by kernel_rfl)) rfl ?_
  simp only [go_sem]
  refine vLoop.count mo s.size (fun i e h' => e 0 = .string s ∧ e 1 = .int .i64 n ∧ e 5 = .int .i64 i ∧ HeapIs h h' ∧ ((bl s).take i).all okc = true) ?_ ?_
  · exact ⟨rfl, rfl, rfl, HeapIs.rfl, by simp⟩
  · rintro i e _ hi ⟨e0, e1, e5, hh, hj⟩
    cases hh
    simp only [go_sem, e0, e1, e5]
    refine .intro (fun h1 => ?_) (fun h1 => ?_)
    · have hlt : i < s.size := by simpa using h1
      have hlt' : i < (bl s).length := by rw [bl_len]; exact hlt
      have hb := bl_get hlt
      obtain ⟨b, hbe⟩ : ∃ b, b = (bl s)[i] := ⟨_, rfl⟩
      rw [← hbe] at hb
      have hc : okc (bl s)[i] = decide (32 ≤ b.toNat ∧ b.toNat ≤ 126 ∧ b.toNat ≠ 35) := by rw [← hbe]; rfl
      have hb2 := u8_ofNat b
      have e6 : IntKind.i64.wrap (b.toNat : Int) = b.toNat := wrap64 (by omega)
      simp only [go_sem, e0, e1, e5, hb, e6]
      refine ⟨by kernel_rfl, (c_l1In _ _ _).use (fun _ m => m) ?_⟩
      rintro _ _ ⟨rfl, rfl⟩
      simp only [go_sem, e0, e1, e5, hb]
      by_cases g1 : (32 : Int) ≤ b.toNat ∧ (b.toNat : Int) ≤ 126
      · simp only [go_sem, e0, e1, e5, hb, decb g1]
        by_cases g3 : (b.toNat : Int) = 35
        · simp only [go_sem, e0, e1, e5, hb, g3]
          rw [show plainS s = false from not_all hlt' (hc.trans (decide_eq_false (by omega)))]
          rfl
        · simp only [go_sem, e0, e1, e5, hb, show ((b.toNat : Int) == 35) = false by simpa using g3]
          refine ⟨hlt, by rw [wrap64 (by omega)]; rfl, HeapIs.rfl, take_all hlt' hj (hc.trans (decide_eq_true (by omega)))⟩
      · simp only [go_sem, e0, e1, e5, hb, dect g1]
        rw [show plainS s = false from not_all hlt' (hc.trans (decide_eq_false (by omega)))]
        rfl
    · obtain rfl : i = s.size := by have : ¬ i < s.size := by simpa using h1
                                    omega
      simp only [go_sem, e0, e1, e5]
      have : plainS s = true := by rw [← bl_len, List.take_length] at hj; exact hj
      rw [this]
      all_goals first | exact rfl | exact ⟨rfl, rfl⟩ | exact List.prefix_append _ _ | exact ⟨rfl, List.prefix_append _ _⟩ | assumption | exact ⟨rfl, by assumption⟩ | exact List.prefix_rfl | exact ⟨rfl, List.prefix_rfl⟩ | exact List.IsPrefix.trans (by assumption) (by assumption) | exact ⟨rfl, List.IsPrefix.trans (by assumption) (by assumption)⟩
theorem c_l1Stands (s : ByteArray) (c : UInt8) (hmax : s.size ≤ 9223372036854775806) : vCall [] Tryz.prog M 112 [.string s, .int .u8 c.toNat] h (fun r h' => r = .bool ((bl s).contains c) ∧ h = h') := by
  refine body_of mo Tryz.func112 rfl (by kernel_rfl) (Nat.le_of_ble_eq_true (by kernel_rfl)) rfl ?_
  simp only [go_sem]
  refine vLoop.count mo s.size (fun i e h' => e 0 = .string s ∧ e 1 = .int .u8 c.toNat ∧ e 5 = .int .i64 i ∧ HeapIs h h' ∧ c ∉ (bl s).take i) ?_ ?_
  · exact ⟨rfl, rfl, rfl, HeapIs.rfl, by simp⟩
  · rintro i e _ hi ⟨e0, e1, e5, hh, hj⟩
    cases hh
    simp only [go_sem, e0, e1, e5]
    refine .intro (fun h1 => ?_) (fun h1 => ?_)
    · have hlt : i < s.size := by simpa using h1
      have hlt' : i < (bl s).length := by rw [bl_len]; exact hlt
      have hb := bl_get hlt
      simp only [go_sem, e0, e1, e5, hb]
      by_cases g1 : (bl s)[i] = c
      · simp only [go_sem, e0, e1, e5, hb, g1]
        rw [show (bl s).contains c = true from List.contains_iff_mem.2 (g1 ▸ List.getElem_mem hlt')]
      · have g2 : ((((bl s)[i]).toNat : Int) == (c.toNat : Int)) = false := by
          rw [beq_eq_false_iff_ne]; intro hh; exact g1 (UInt8.toNat_inj.1 (Int.ofNat.inj hh))
        simp only [go_sem, e0, e1, e5, hb, g2]
        refine ⟨hlt, by rw [wrap64 (by omega)]; rfl, HeapIs.rfl, ?_⟩
        rw [List.take_add_one, List.getElem?_eq_getElem hlt']
        simp only [List.mem_append, Option.mem_toList, not_or]
        exact ⟨hj, fun hh => g1 (by simpa using hh)⟩
    · obtain rfl : i = s.size := by have : ¬ i < s.size := by simpa using h1
                                    omega
      simp only [go_sem, e0, e1, e5]
      rw [← bl_len, List.take_length] at hj
      rw [show (bl s).contains c = false from by rw [Bool.eq_false_iff]; exact fun hh => hj (List.contains_iff_mem.1 hh)]
theorem toList_eq {s t:ByteArray}:(s.toList==t.toList)=decide (s=t):=by
 by_cases h:s=t
 ·subst h;simp
 ·have: ¬s.toList=t.toList:=by
   intro hh
   rw [Lib.toList_data,Lib.toList_data] at hh
   exact h (bl_ext hh)
  rw [decide_eq_false h]
  simpa using this
theorem c_IsValidRecord (c r:ByteArray) (hc:c.size<=9223372036854775806) (hr:r.size<=9223372036854775806):vCall [] Tryz.prog M 55 [.agg #[.string c, .string r]] h (fun v h'=>v = .bool (recOk c r)∧h<+:h'):=by
 refine body_of mo Tryz.func55 rfl (by kernel_rfl) (Nat.le_of_ble_eq_true (by kernel_rfl)) rfl ?_
 simp only [go_sem]
 refine ⟨by kernel_rfl,(c_inside _ _ _).use (fun _ m=>m) ?_⟩
 rintro _ _ ⟨rfl,rfl⟩
 simp only [go_sem]
 by_cases h1:(1:Int)<=c.size∧(c.size:Int)<=160
 ·simp only [go_sem,decb h1]
  by_cases h2:(r.size:Int)<=200
  ·simp only [go_sem,h2]
   refine ⟨by kernel_rfl,(c_isPlain c hc).use (fun _ m=>m) ?_⟩
   rintro _ _ ⟨rfl,rfl⟩
   simp only [go_sem]
   cases h3:plainS c
   ·simp only [go_sem,h3]
    simp [recOk,h3]
   ·simp only [go_sem,h3]
    refine ⟨by kernel_rfl,(c_isPlain r hr).use (fun _ m=>m) ?_⟩
    rintro _ _ ⟨rfl,rfl⟩
    simp only [go_sem]
    cases h4:plainS r
    ·simp only [go_sem,h4]
     simp [recOk,h4]
    ·simp only [go_sem,h4]
     refine ⟨by kernel_rfl,(c_Contains c 64).use (fun _ m=>m) ?_⟩
     rintro _ _ ⟨rfl,rfl⟩
     simp only [go_sem]
     have h5:1<=c.size∧c.size<=160∧r.size<=200:=by omega
     simp only [recOk,h3,h4,decb h5,Bool.true_and]
     all_goals first|exact rfl|exact ⟨rfl,rfl⟩|exact List.prefix_append _ _|exact ⟨rfl,List.prefix_append _ _⟩|assumption|exact ⟨rfl,by assumption⟩|exact List.prefix_rfl|exact ⟨rfl,List.prefix_rfl⟩|exact List.IsPrefix.trans (by assumption) (by assumption)|exact ⟨rfl,List.IsPrefix.trans (by assumption) (by assumption)⟩
  ·simp only [go_sem,h2]
   have h5: ¬(1<=c.size∧c.size<=160∧r.size<=200):=by omega
   simp [recOk,dect h5]
 ·simp only [go_sem,dect h1]
  have h5: ¬(1<=c.size∧c.size<=160∧r.size<=200):=by omega
  simp [recOk,dect h5]
theorem empty_size (c:ByteArray):(c.toList==(⟨#[]⟩:ByteArray).toList)=decide (c.size=0):=by
 rw [toList_eq]
 refine decide_eq_decide.2 ⟨fun hh=>by rw [hh];rfl,fun hh=>bl_ext ?_⟩
 have:=bl_len c
 rw [hh] at this
 rw [List.eq_nil_of_length_eq_zero this];rfl
theorem c_l27Good (c r:ByteArray) (hc:c.size<=9223372036854775806) (hr:r.size<=9223372036854775806):vCall [] Tryz.prog M 60 [.agg #[.string c, .string r]] h (fun v h'=>v = .bool (recOk c r)∧h<+:h'):=by
 refine body_of mo Tryz.func60 rfl (by kernel_rfl) (Nat.le_of_ble_eq_true (by kernel_rfl)) rfl ?_
 simp only [go_sem]
 by_cases h1:c.size=0
 ·simp only [go_sem,empty_size,h1]
  simp [recOk,h1]
 ·simp only [go_sem,empty_size,h1]
  refine ⟨by kernel_rfl,(c_l27Plain c _ hc).use (fun _ m=>m) ?_⟩
  rintro _ _ ⟨rfl,rfl⟩
  simp only [go_sem]
  by_cases h2:plainS c=true∧(c.size:Int)<=160
  ·have h2':(plainS c&&decide ((c.size:Int)<=160))=true:=by simp [h2.1,h2.2]
   simp only [go_sem,h2']
   refine ⟨by kernel_rfl,(c_l1Stands c 64 hc).use (fun _ m=>m) ?_⟩
   rintro _ _ ⟨rfl,rfl⟩
   simp only [go_sem,h2']
   cases h3:(bl c).contains 64
   ·simp only [go_sem,h2',h3]
    refine ⟨by kernel_rfl,(c_l27Plain r _ hr).use (fun _ m=>m) ?_⟩
    rintro _ _ ⟨rfl,rfl⟩
    simp only [go_sem]
    have h4:1<=c.size∧c.size<=160:=by omega
    simp only [recOk,h3,h2.1,h4.1,h4.2,true_and,Bool.true_and,Bool.not_false,Bool.and_true]
    by_cases h5:r.size<=200
    ·have h6:(r.size:Int)<=200:=by omega
     simp [h5,h6]
    ·have h6: ¬(r.size:Int)<=200:=by omega
     simp [h5,h6]
   ·simp only [go_sem,h2',h3]
    simp only [recOk,h3,Bool.not_true,Bool.and_false]
  ·have h3:(plainS c&&decide ((c.size:Int)<=160))=false:=by simpa using h2
   simp only [go_sem,h3]
   have h4:recOk c r=false:=by
    simp only [recOk]
    by_cases h5:plainS c=true
    ·have: ¬(c.size:Int)<=160:=fun hh=>h2 ⟨h5,hh⟩
     rw [dect (show ¬(1<=c.size∧c.size<=160∧r.size<=200) by omega)];rfl
    ·simp [h5]
   rw [h4]
   all_goals first|exact rfl|exact ⟨rfl,rfl⟩|exact List.prefix_append _ _|exact ⟨rfl,List.prefix_append _ _⟩|assumption|exact ⟨rfl,by assumption⟩|exact List.prefix_rfl|exact ⟨rfl,List.prefix_rfl⟩|exact List.IsPrefix.trans (by assumption) (by assumption)|exact ⟨rfl,List.IsPrefix.trans (by assumption) (by assumption)⟩
end
open Go.HH Go.Proofs
abbrev w_dry:ByteArray:=⟨#[100,114,121]⟩
abbrev w_bridges:ByteArray:=⟨#[98,114,105,100,103,101,115]⟩
abbrev w_shut:ByteArray:=⟨#[115,104,117,116]⟩
abbrev w_open:ByteArray:=⟨#[111,112,101,110]⟩
abbrev w_burst:ByteArray:=⟨#[98,117,114,115,116]⟩
abbrev w_segment:ByteArray:=⟨#[115,101,103,109,101,110,116]⟩
abbrev w_around:ByteArray:=⟨#[97,114,111,117,110,100]⟩
abbrev w_source:ByteArray:=⟨#[115,111,117,114,99,101]⟩
abbrev w_way:ByteArray:=⟨#[119,97,121]⟩
abbrev w_valve:ByteArray:=⟨#[118,97,108,118,101]⟩
abbrev w_pipe:ByteArray:=⟨#[112,105,112,101]⟩
def needs (s:ByteArray):Int:=
 if s=w_dry∨s=w_bridges then 0
 else if s=w_shut∨s=w_open∨s=w_burst∨s=w_segment∨s=w_around∨s=w_source then 1
 else if s=w_way then 2
 else if s=w_valve then 3
 else if s=w_pipe then 4
 else -1
section
variable {h : Heap} {M : Nat → Prop}
theorem c_numbersNeeded (s:ByteArray):vCall [] Tryz.prog M 105 [.string s] h (fun r h'=>r = .int .i64 (needs s)∧h<+:h'):=by
 unfold needs
 refine body_of mo Tryz.func105 rfl (by kernel_rfl) (Nat.le_of_ble_eq_true (by kernel_rfl)) rfl ?_
 by_cases h0:s=w_dry
 ·simp only [go_sem,toList_eq,decb h0,eq_true h0,true_or,or_true,or_self,if_true,if_false]
  all_goals first|rfl|(simp [h0];done)|skip
 ·skip
  by_cases h1:s=w_bridges
  ·simp only [go_sem,toList_eq,decb h1,dect h0,eq_true h1,h0,true_or,or_true,or_self,if_true,if_false]
   all_goals first|rfl|(simp [h1,h0];done)|skip
  ·skip
   by_cases h2:s=w_shut
   ·simp only [go_sem,toList_eq,decb h2,dect h0,dect h1,eq_true h2,h0,h1,true_or,or_true,or_self,if_true,if_false]
    all_goals first|rfl|(simp [h2,h0,h1];done)|skip
   ·skip
    by_cases h3:s=w_open
    ·simp only [go_sem,toList_eq,decb h3,dect h0,dect h1,dect h2,eq_true h3,h0,h1,h2,true_or,or_true,or_self,if_true,if_false]
     all_goals first|rfl|(simp [h3,h0,h1,h2];done)|skip
    ·skip
     by_cases h4:s=w_burst
     ·simp only [go_sem,toList_eq,decb h4,dect h0,dect h1,dect h2,dect h3,eq_true h4,h0,h1,h2,h3,true_or,or_true,or_self,if_true,if_false]
      all_goals first|rfl|(simp [h4,h0,h1,h2,h3];done)|skip
     ·skip
      by_cases h5:s=w_segment
      ·simp only [go_sem,toList_eq,decb h5,dect h0,dect h1,dect h2,dect h3,dect h4,eq_true h5,h0,h1,h2,h3,h4,true_or,or_true,or_self,if_true,if_false]
       all_goals first|rfl|(simp [h5,h0,h1,h2,h3,h4];done)|skip
      ·skip
       by_cases h6:s=w_around
       ·simp only [go_sem,toList_eq,decb h6,dect h0,dect h1,dect h2,dect h3,dect h4,dect h5,eq_true h6,h0,h1,h2,h3,h4,h5,true_or,or_true,or_self,if_true,if_false]
        all_goals first|rfl|(simp [h6,h0,h1,h2,h3,h4,h5];done)|skip
       ·skip
        by_cases h7:s=w_source
        ·simp only [go_sem,toList_eq,decb h7,dect h0,dect h1,dect h2,dect h3,dect h4,dect h5,dect h6,eq_true h7,h0,h1,h2,h3,h4,h5,h6,true_or,or_true,or_self,if_true,if_false]
         all_goals first|rfl|(simp [h7,h0,h1,h2,h3,h4,h5,h6];done)|skip
        ·skip
         by_cases h8:s=w_way
         ·simp only [go_sem,toList_eq,decb h8,dect h0,dect h1,dect h2,dect h3,dect h4,dect h5,dect h6,dect h7,eq_true h8,h0,h1,h2,h3,h4,h5,h6,h7,true_or,or_true,or_self,if_true,if_false]
          all_goals first|rfl|(simp [h8,h0,h1,h2,h3,h4,h5,h6,h7];done)|skip
         ·skip
          by_cases h9:s=w_valve
          ·simp only [go_sem,toList_eq,decb h9,dect h0,dect h1,dect h2,dect h3,dect h4,dect h5,dect h6,dect h7,dect h8,eq_true h9,h0,h1,h2,h3,h4,h5,h6,h7,h8,true_or,or_true,or_self,if_true,if_false]
           all_goals first|rfl|(simp [h9,h0,h1,h2,h3,h4,h5,h6,h7,h8];done)|skip
          ·skip
           by_cases h10:s=w_pipe
           ·simp only [go_sem,toList_eq,decb h10,dect h0,dect h1,dect h2,dect h3,dect h4,dect h5,dect h6,dect h7,dect h8,dect h9,eq_true h10,h0,h1,h2,h3,h4,h5,h6,h7,h8,h9,true_or,or_true,or_self,if_true,if_false]
            all_goals first|rfl|(simp [h10,h0,h1,h2,h3,h4,h5,h6,h7,h8,h9];done)|skip
           ·simp only [go_sem,toList_eq,dect h0,dect h1,dect h2,dect h3,dect h4,dect h5,dect h6,dect h7,dect h8,dect h9,dect h10,h0,h1,h2,h3,h4,h5,h6,h7,h8,h9,h10,or_self,if_false]
end
open Go.HH Go.Proofs
section
variable {h : Heap} {M : Nat → Prop}
theorem c_newConsoleX (c:Con) (wP wV:Value) (sP:Sl h 4 wP (c.P.map pip)) (sV:Sl h 4 wV (c.V.map vlv)) (hP:c.P.length<=1048576) (hV:c.V.length<=1048576) :
  vCall [] Tryz.prog M 54 [conV c wP wV] h (fun r h'=>(∃xP xV,r=conV c xP xV∧ConQ h.length h'.length h' c xP xV∧(c.V= []->∃X,xV = .slice (some ⟨X,0,none⟩) 0 0∧h'.length+900<=X))∧h<+:h'):=by
 obtain ⟨N,P,V,src,D,Q,cnt⟩:=c
 simp only at sP sV hP hV
 obtain ⟨aa,ea,_,_⟩:=id sP
 obtain ⟨bb,eb,_,_⟩:=id sV
 rw [List.length_map] at ea eb
 refine body_ofQ ([(1,18)]) mo Tryz.func54 rfl (by kernel_rfl) (Nat.le_of_ble_eq_true (by kernel_rfl)) rfl ?_
 by_cases p0:P= []
 ·subst p0
  simp only [List.length_nil] at ea
  subst ea
  by_cases v0:V= []
  ·subst v0
   simp only [List.length_nil] at eb
   subst eb
   simp only [go_sem,conV]
   refine fun X _ Y hY=>⟨_,_,rfl,ConQ.mk2 h.length ?_ ?_ fq0 fq0,fun _=>⟨Y,rfl, ?_⟩⟩
   all_goals (clear sP sV hP hV;first|omega|exact Nat.le_trans (by simp) hY|(have:=hY;simp only [List.length_append,List.length_cons,List.length_nil] at this ⊢;omega))
  ·have hv0:0<V.length:=List.length_pos_iff.2 v0
   obtain ⟨id,off,k,ev,hk,hd,hbb,hfl⟩:=sV.copy (by simpa using v0)
   rw [List.length_map] at ev hbb hfl
   rw [eb] at ev
   obtain rfl:bb=some ⟨id,off,none⟩:=by simpa using ev
   subst eb
   simp only [go_sem,conV,onAppQ_more hv0,hk,hd,hbb,hfl,show V.length<=9223372036854775807 by omega,show V.length*32<=140737488355328 by omega]
   refine fun X _ Y _=>⟨by omega,_,_,rfl,ConQ.mk2 h.length ?_ ?_ fq0 (frV ?_ rfl ?_ ?_),fun hh=>absurd hh v0⟩
   all_goals first|rfl|omega|skip
 ·have hp0:0<P.length:=List.length_pos_iff.2 p0
  obtain ⟨id,off,k,ev,hk,hd,hbb,hfl⟩:=sP.copy (by simpa using p0)
  rw [List.length_map] at ev hbb hfl
  rw [ea] at ev
  obtain rfl:aa=some ⟨id,off,none⟩:=by simpa using ev
  subst ea
  by_cases v0:V= []
  ·subst v0
   simp only [List.length_nil] at eb
   subst eb
   simp only [go_sem,conV,onAppQ_more hp0,hk,hd,hbb,hfl,show P.length<=9223372036854775807 by omega,show P.length*32<=140737488355328 by omega]
   refine fun X _=>⟨by omega,fun Y hY=>⟨_,_,rfl,ConQ.mk2 (h.length+3) ?_ ?_ (frP ?_ rfl ?_ ?_) fq0,fun _=>⟨Y,rfl, ?_⟩⟩⟩
   all_goals first|rfl|omega|(simp at hY ⊢;omega)|skip
  ·have hv0:0<V.length:=List.length_pos_iff.2 v0
   obtain ⟨id2,off2,k2,ev2,hk2,hd2,hbb2,hfl2⟩:=sV.copy (by simpa using v0)
   rw [List.length_map] at ev2 hbb2 hfl2
   rw [eb] at ev2
   obtain rfl:bb=some ⟨id2,off2,none⟩:=by simpa using ev2
   subst eb
   simp only [go_sem,conV,onAppQ_more hp0,onAppQ_more hv0,hk,hd,hbb,hfl,hk2,hd2,hbb2,hfl2,show P.length<=9223372036854775807 by omega,show P.length*32<=140737488355328 by omega,show V.length<=9223372036854775807 by omega,show V.length*32<=140737488355328 by omega]
   refine fun X _=>⟨by omega,fun Y _=>⟨by omega,_,_,rfl,ConQ.mk2 (h.length+3) ?_ ?_ (frP ?_ rfl ?_ ?_) (frV ?_ rfl ?_ ?_),fun hh=>absurd hh v0⟩⟩
   all_goals first|rfl|omega|skip
end
open Go.HH Go.Proofs
def num (n:Nat):ByteArray:=⟨(Lib.decDigits n).toArray⟩
theorem num_size: ∀(k n:Nat),n<10 ^ k->0<k->(num n).size<=k
 | 0,_,_,h=>absurd h (by omega)
 | k+1,n,h,_=>by
  show (Lib.decDigits n).toArray.size<=k+1
  rw [List.size_toArray,Lib.decDigits]
  split
  ·simp
  ·rename_i hn
   have hk:0<k:=by
    rcases Nat.eq_zero_or_pos k with h0|h0
    ·subst h0;omega
    ·exact h0
   have:=num_size k (n/10) (by rw [Nat.pow_succ] at h;omega) hk
   have h2:(Lib.decDigits (n/10)).length<=k:=by
    have:(Lib.decDigits (n/10)).toArray.size<=k:=this
    rwa [List.size_toArray] at this
   simp
   omega
theorem num_less {n:Nat} (h:n<10000000000):(num n).size<=10:=num_size 10 n h (by omega)
theorem num_dig: ∀n,n<10->(ByteArray.mk #[48,49,50,51,52,53,54,55,56,57]).extract n (n+1)=num n:=by
 intro n h
 have: ∀k:Fin 10,(ByteArray.mk #[48,49,50,51,52,53,54,55,56,57]).extract k.1 (k.1+1)=⟨#[UInt8.ofNat (48+k.1)]⟩:=by decide +kernel
 rw [this ⟨n,h⟩,num,Lib.decDigits_one h]
theorem num_step {n:Nat} (h: ¬n<10):num (n/10)++num (n%10)=num n:=by
 apply bl_ext
 show (num (n/10)++num (n%10)).data.toList=(Lib.decDigits n).toArray.toList
 rw [show (Lib.decDigits n).toArray.toList=Lib.decDigits (n/10)++ [UInt8.ofNat (48+n%10)] by rw [Lib.decDigits,dif_neg h]]
 simp [num,ByteArray.data_append,Lib.decDigits_one (Nat.mod_lt n (by omega:10>0))]
section
variable {h : Heap} {M : Nat → Prop}
theorem c_Itoa (n:Nat) (hn:n<100):vCall [] Tryz.prog M 80 [.int .i64 n] h (fun r h'=>r = .string (num n)∧h=h'):=
 vCall_plain (by rfl) rfl (Tryz.strconv_Itoa_small n hn)
theorem c_l1Num: ∀(n:Nat),n<10000000000->∀ {h:Heap} {M:Nat->Prop},vCall [] Tryz.prog M 82 [.int .i64 n] h (fun r h'=>r = .string (num n)∧h=h'):=by
 intro n
 induction n using Nat.strongRecOn with
 | _ n ih=>
  intro hn h M
  refine body_of mo Tryz.func82 rfl (by kernel_rfl) (Nat.le_of_ble_eq_true (by kernel_rfl)) rfl ?_
  simp only [go_sem,show ¬((n:Int)<0) by omega]
  have z (m:Nat):(0:Int)<=(m:Nat):=by omega
  by_cases h1:n<10
  ·have w1:IntKind.i64.wrap ((n:Int)+1)=((n+1:Nat):Int):=by rw [wrap64 (by omega)];omega
   simp only [go_sem,show ((n:Int)<10) by omega,w1,z,Int.toNat_natCast,num_dig n h1]
   exact ⟨by omega,by omega⟩
  ·have q1:(n:Int).tdiv 10=((n/10:Nat):Int):=by rw [Int.tdiv_eq_ediv_of_nonneg (by omega)];omega
   have q2:(n:Int).tmod 10=((n%10:Nat):Int):=by rw [Int.tmod_eq_emod_of_nonneg (by omega)];omega
   have q3:IntKind.i64.wrap ((n/10:Nat):Int)=((n/10:Nat):Int):=wrap64 (by omega)
   have q4:IntKind.i64.wrap (((n%10:Nat):Int)+1)=((n%10+1:Nat):Int):=by rw [wrap64 (by omega)];omega
   simp only [go_sem,show ¬((n:Int)<10) by omega,hBin_quo (show (10:Int)≠0 by omega),hBin_rem (show (10:Int)≠0 by omega),q1,q2,q3,q4]
   refine ⟨by kernel_rfl,(ih (n/10) (by omega) (by omega)).use (fun _ m=>m) ?_⟩
   rintro _ _ ⟨rfl,rfl⟩
   have s1:(num (n/10)).size<=10:=num_less (by omega)
   have s2:(num (n%10)).size<=10:=num_less (by omega)
   simp only [go_sem,num_dig (n%10) (by omega),hBin_sadd (show (num (n/10)).size+(num (n%10)).size<=9223372036854775807 by omega),num_step h1,List.prefix_rfl]
   exact ⟨by omega,by omega⟩
end
open Go.HH Go.Proofs
abbrev BL:=List UInt8
def mkB (l:BL):ByteArray:=⟨l.toArray⟩
theorem bl_mkB (l:BL):bl (mkB l)=l:=rfl
theorem mkB_bl (s:ByteArray):mkB (bl s)=s:=bl_ext rfl
theorem mkB_size (l:BL):(mkB l).size=l.length:=by rw [←bl_len,bl_mkB]
theorem mkB_inj {a b:BL}:mkB a=mkB b↔a=b:=⟨fun h=>by rw [←bl_mkB a,h,bl_mkB],fun h=>by rw [h]⟩
theorem bl_app (s t:ByteArray):bl (s++t)=bl s++bl t:=by simp [bl,ByteArray.data_append]
theorem bl_num (n:Nat):bl (num n)=Lib.decDigits n:=rfl
theorem bl_extract (s:ByteArray) (a b:Nat):bl (s.extract a b)=((bl s).take b).drop a:=by
 rw [List.drop_take]
 simp only [bl,ByteArray.data_extract,Array.toList_extract]
def cutA (l:BL) (b:UInt8):BL:=l.takeWhile fun x=>x != b
def cutB (l:BL) (b:UInt8):BL:=(l.dropWhile fun x=>x != b).drop 1
theorem cutA_miss {b:UInt8}: ∀ {p:BL},b∉p->cutA p b=p
 | [],_=>rfl
 | x::p,h=>by
  have h1:x≠b:=fun e=>h (by rw [e];exact List.mem_cons_self)
  have h2:=cutA_miss (b:=b) (p:=p) (fun e=>h (List.mem_cons_of_mem _ e))
  unfold cutA at h2 ⊢
  rw [List.takeWhile_cons_of_pos (by simpa using h1),h2]
theorem cutB_miss {b:UInt8}: ∀ {p:BL},b∉p->cutB p b= []
 | [],_=>rfl
 | x::p,h=>by
  have h1:x≠b:=fun e=>h (by rw [e];exact List.mem_cons_self)
  have h2:=cutB_miss (b:=b) (p:=p) (fun e=>h (List.mem_cons_of_mem _ e))
  unfold cutB at h2 ⊢
  rw [List.dropWhile_cons_of_pos (by simpa using h1),h2]
theorem cutA_hit {b:UInt8} {q:BL}: ∀ {p:BL},b∉p->cutA (p++b::q) b=p
 | [],_=>by simp [cutA]
 | x::p,h=>by
  have h1:x≠b:=fun e=>h (by rw [e];exact List.mem_cons_self)
  have h2:=cutA_hit (b:=b) (q:=q) (p:=p) (fun e=>h (List.mem_cons_of_mem _ e))
  unfold cutA at h2 ⊢
  rw [List.cons_append,List.takeWhile_cons_of_pos (by simpa using h1),h2]
theorem cutB_hit {b:UInt8} {q:BL}: ∀ {p:BL},b∉p->cutB (p++b::q) b=q
 | [],_=>by simp [cutB]
 | x::p,h=>by
  have h1:x≠b:=fun e=>h (by rw [e];exact List.mem_cons_self)
  have h2:=cutB_hit (b:=b) (q:=q) (p:=p) (fun e=>h (List.mem_cons_of_mem _ e))
  unfold cutB at h2 ⊢
  rw [List.cons_append,List.dropWhile_cons_of_pos (by simpa using h1),h2]
theorem cut_mem {l:BL} {b:UInt8} (h:b∈l):l=cutA l b++b::cutB l b∧b∉cutA l b:=by
 obtain ⟨p,q,rfl,hp⟩:=List.eq_append_cons_of_mem h
 rw [cutA_hit hp,cutB_hit hp]
 exact ⟨rfl,hp⟩
def spl (b:UInt8) (a:List BL×BL) (x:UInt8):List BL×BL:=if x=b then (a.1++ [a.2],[]) else (a.1,a.2++ [x])
def splitL (l:BL) (b:UInt8):List BL:=(l.foldl (spl b) ([],[])).1++ [(l.foldl (spl b) ([],[])).2]
theorem spl_none {b:UInt8}: ∀ {l:BL} (a:List BL×BL),b∉l->l.foldl (spl b) a=(a.1,a.2++l)
 | [],a,_=>by simp
 | x::l,a,h=>by
  have h1:x≠b:=fun e=>h (by rw [e];exact List.mem_cons_self)
  rw [List.foldl_cons,spl_none (l:=l) _ (fun e=>h (List.mem_cons_of_mem _ e)),spl,if_neg h1]
  simp
theorem spl_pre {b:UInt8}: ∀(l:BL) (a:List BL×BL),a.1<+:(l.foldl (spl b) a).1
 | [],a=>List.prefix_rfl
 | x::l,a=>by
  rw [List.foldl_cons]
  refine List.IsPrefix.trans ?_ (spl_pre l _)
  unfold spl
  split
  ·exact List.prefix_append _ _
  ·exact List.prefix_rfl
theorem splitL_head (l:BL) (b:UInt8): ∃r,splitL l b=cutA l b::r∧(r= []↔b∉l):=by
 by_cases h:b∈l
 ·obtain ⟨p,q,rfl,hp⟩:=List.eq_append_cons_of_mem h
  have e:(p++b::q).foldl (spl b) ([],[])=q.foldl (spl b) ([p],[]):=by
   rw [List.foldl_append,spl_none _ hp,List.foldl_cons,spl,if_pos rfl];simp
  obtain ⟨t,ht⟩:=spl_pre (b:=b) q ([p],[])
  refine ⟨t++ [(q.foldl (spl b) ([p],[])).2], ?_, ?_⟩
  ·rw [splitL,e,cutA_hit hp, ←ht];rfl
  ·simp
 ·refine ⟨[], ?_,by simpa using h⟩
  rw [splitL,spl_none _ h,cutA_miss h];simp
def sumL (l:BL):Nat:=l.foldl (fun n b=>(41*n+b.toNat+1)%999979) 7
theorem sumL_snoc (l:BL) (b:UInt8):sumL (l++ [b])=(41*sumL l+b.toNat+1)%999979:=by
 rw [sumL,List.foldl_append];rfl
theorem sumL_lt (l:BL):sumL l<999979:=by
 rcases List.eq_nil_or_concat l with rfl|⟨p,b,rfl⟩
 ·decide
 ·rw [List.concat_eq_append,sumL_snoc];exact Nat.mod_lt _ (by decide)
theorem dec_digit: ∀(u:Nat),∀c∈Lib.decDigits u,48<=c.toNat∧c.toNat<=57:=by
 intro u
 induction u using Nat.strongRecOn with
 | _ u ih=>
  intro c hc
  rw [Lib.decDigits] at hc
  split at hc
  ·rename_i h
   simp at hc
   subst hc
   simp
   omega
  ·rename_i h
   rcases List.mem_append.1 hc with hc|hc
   ·exact ih (u/10) (by omega) c hc
   ·simp at hc
    subst hc
    have:u%10<10:=Nat.mod_lt _ (by decide)
    simp
    omega
theorem dec_no {u:Nat} {b:UInt8} (h:b.toNat<48∨57<b.toNat):b∉Lib.decDigits u:=by
 intro hb
 have:=dec_digit u b hb
 omega
def okL (c r:BL):Bool:=decide (1<=c.length∧c.length<=160∧r.length<=200)&&c.all okc&&r.all okc && !c.contains 64
theorem recOk_mk (c r:BL):recOk (mkB c) (mkB r)=okL c r:=by
 simp only [recOk,okL,plainS,bl_mkB,mkB_size]
theorem okL_iff {c r:BL}:okL c r=true↔(1<=c.length∧c.length<=160∧r.length<=200)∧(∀b∈c,okc b=true)∧(∀b∈r,okc b=true)∧64∉c:=by
 simp only [okL,Bool.and_eq_true,decide_eq_true_eq,List.all_eq_true,Bool.not_eq_true',and_assoc]
 have:(c.contains 64=false)↔64∉c:=by
  rw [←Bool.not_eq_true,List.contains_iff_mem]
 rw [this]
theorem okc_no {b:UInt8} (h:okc b=true):b≠35∧b≠10:=by
 have h1:32<=b.toNat∧b.toNat<=126∧b.toNat≠35:=by simpa [okc] using h
 constructor
 ·rintro rfl;exact h1.2.2 rfl
 ·rintro rfl;exact absurd h1.1 (by decide)
def recL (k:Nat) (c r:BL):BL:=Lib.decDigits k++32::(c++64::r)
def lineL (k:Nat) (c r:BL):BL:=recL k c r++35::Lib.decDigits (sumL (recL k c r))
theorem recL_no35 {k:Nat} {c r:BL} (h:okL c r=true):35∉recL k c r:=by
 obtain ⟨_,h1,h2,_⟩:=okL_iff.1 h
 simp only [recL,List.mem_append,List.mem_cons,not_or]
 exact ⟨dec_no (by decide),by decide,fun hb=>(okc_no (h1 _ hb)).1 rfl,by decide,fun hb=>(okc_no (h2 _ hb)).1 rfl⟩
theorem dec_len {n k:Nat} (h:n<10 ^ k) (hk:0<k):(Lib.decDigits n).length<=k:=by
 have:=num_size k n h hk
 rwa [←bl_len,bl_num] at this
theorem recL_len {k:Nat} {c r:BL} (h:okL c r=true) (hk:k<100):(recL k c r).length<=364:=by
 obtain ⟨h0,_⟩:=okL_iff.1 h
 have:=dec_len (n:=k) (k:=2) (by omega) (by omega)
 simp only [recL,List.length_append,List.length_cons]
 omega
theorem lineL_len {k:Nat} {c r:BL} (h:okL c r=true) (hk:k<100):(lineL k c r).length<=371:=by
 have h1:=recL_len h hk
 have:=dec_len (n:=sumL (recL k c r)) (k:=6) (Nat.lt_trans (sumL_lt _) (by omega)) (by omega)
 simp only [lineL,List.length_append,List.length_cons]
 omega
theorem cut_line {k:Nat} {c r:BL} (h:okL c r=true):cutA (lineL k c r) 35=recL k c r:=cutA_hit (recL_no35 h)
def readL (k:Nat) (l:BL):Option (BL×BL):=
 if okL (cutA (cutB (cutA l 35) 32) 64) (cutB (cutB (cutA l 35) 32) 64)=true∧lineL k (cutA (cutB (cutA l 35) 32) 64) (cutB (cutB (cutA l 35) 32) 64)=l
 then some (cutA (cutB (cutA l 35) 32) 64,cutB (cutB (cutA l 35) 32) 64) else none
theorem readL_some {k:Nat} {l c r:BL} (h:readL k l=some (c,r)):okL c r=true∧l=lineL k c r:=by
 unfold readL at h
 split at h
 ·rename_i g
  cases h
  exact ⟨g.1,g.2.symm⟩
 ·cases h
theorem readL_no_head {k:Nat} {l:BL} (h: ¬Lib.decDigits k++ [32]<+:cutA l 35):readL k l=none:=by
 cases e:readL k l with
 | none=>rfl
 | some x=>
  obtain ⟨g,rfl⟩:=readL_some (c:=x.1) (r:=x.2) e
  exact absurd ⟨x.1++64::x.2,by rw [cut_line g,recL];simp⟩ h
theorem readL_head {k:Nat} {l rest:BL} (h:cutA l 35=Lib.decDigits k++ [32]++rest) :
  readL k l=if okL (cutA rest 64) (cutB rest 64)=true∧lineL k (cutA rest 64) (cutB rest 64)=l then some (cutA rest 64,cutB rest 64) else none:=by
 have:cutB (cutA l 35) 32=rest:=by
  rw [h,List.append_assoc,List.singleton_append]
  exact cutB_hit (dec_no (by decide))
 rw [readL,this]
theorem readL_no_at {k:Nat} {l rest:BL} (h:cutA l 35=Lib.decDigits k++ [32]++rest) (h2:64∉rest):readL k l=none:=by
 cases e:readL k l with
 | none=>rfl
 | some x=>
  obtain ⟨g,rfl⟩:=readL_some (c:=x.1) (r:=x.2) e
  rw [cut_line g,recL,List.append_assoc,List.singleton_append,List.append_cancel_left_eq] at h
  rw [List.cons.injEq] at h
  exact absurd (by rw [←h.2];simp) h2
def openL:Nat->Nat->BL->List (BL×BL)
 | 0,_,_=> []
 | n+1,k,s=>if 10∈s then (match readL k (cutA s 10) with|some e=>e::openL n (k+1) (cutB s 10)|none=> []) else []
def endL:Nat->List (BL×BL)->Nat
 | _,[]=>0
 | k,e::r=>(lineL k e.1 e.2).length+1+endL (k+1) r
theorem openL_no {n k:Nat} {s:BL} (h:10∉s):openL n k s= []:=by
 cases n with
 | zero=>rfl
 | succ n=>rw [openL,if_neg h]
theorem openL_none {n k:Nat} {s:BL} (h:readL k (cutA s 10)=none):openL n k s= []:=by
 cases n with
 | zero=>rfl
 | succ n=>rw [openL,h];simp
theorem openL_some {n k:Nat} {s:BL} {e:BL×BL} (h:10∈s) (g:readL k (cutA s 10)=some e):openL (n+1) k s=e::openL n (k+1) (cutB s 10):=by
 rw [openL,if_pos h,g]
theorem openL_len: ∀(n k:Nat) (s:BL),(openL n k s).length<=n
 | 0,_,_=>Nat.le_refl 0
 | n+1,k,s=>by
  rw [openL]
  split
  ·split
   ·rw [List.length_cons];exact Nat.succ_le_succ (openL_len n _ _)
   ·exact Nat.zero_le _
  ·exact Nat.zero_le _
theorem endL_snoc: ∀(k:Nat) (d:List (BL×BL)) (e:BL×BL),endL k (d++ [e])=endL k d+(lineL (k+d.length) e.1 e.2).length+1
 | k,[],e=>by simp [endL]
 | k,x::d,e=>by
  rw [List.cons_append,endL,endL,endL_snoc (k+1) d e,List.length_cons,show k+1+d.length=k+(d.length+1) by omega]
  omega
theorem drop_line (x y:BL):(x++10::y).drop (x.length+1)=y:=by simp [List.drop_append]
theorem line_at {s:BL} {a k:Nat} {e:BL×BL} (h:10∈s.drop a) (g:readL k (cutA (s.drop a) 10)=some e) :
  s.drop a=lineL k e.1 e.2++10::s.drop (a+(lineL k e.1 e.2).length+1)∧cutA (s.drop a) 10=lineL k e.1 e.2∧cutB (s.drop a) 10=s.drop (a+(lineL k e.1 e.2).length+1)∧a+(lineL k e.1 e.2).length+1<=s.length:=by
 have e1:=(readL_some (c:=e.1) (r:=e.2) g).2
 have h2:=(cut_mem h).1
 rw [e1] at h2
 have h3:cutB (s.drop a) 10=s.drop (a+(lineL k e.1 e.2).length+1):=by
  have:=congrArg (List.drop ((lineL k e.1 e.2).length+1)) h2
  rw [List.drop_drop,drop_line] at this
  rw [←this,Nat.add_assoc]
 have h4:=congrArg List.length h2
 rw [List.length_drop,List.length_append,List.length_cons] at h4
 refine ⟨by rw [←h3];exact h2,e1,h3,by omega⟩
theorem endL_le: ∀(n k:Nat) (s:BL),n+k<=100->endL k (openL n k s)<=372*(openL n k s).length∧endL k (openL n k s)<=s.length
 | 0,_,_,_=>⟨Nat.le_refl 0,Nat.zero_le _⟩
 | n+1,k,s,hk=>by
  by_cases h:10∈s
  ·cases g:readL k (cutA s 10) with
   | none=>rw [openL_none g];exact ⟨Nat.le_refl 0,Nat.zero_le _⟩
   | some e=>
    obtain ⟨h1,h2⟩:=endL_le n (k+1) (cutB s 10) (by omega)
    obtain ⟨g1,g2⟩:=readL_some (c:=e.1) (r:=e.2) g
    have h3:=lineL_len (k:=k) g1 (by omega)
    have h4:=congrArg List.length (cut_mem h).1
    rw [List.length_append,List.length_cons,g2] at h4
    rw [openL_some h g,endL,List.length_cons]
    omega
  ·rw [openL_no h];exact ⟨Nat.le_refl 0,Nat.zero_le _⟩
theorem cut_app {b:UInt8} {D P:BL} (h:b∈D):cutA (D++P) b=cutA D b∧cutB (D++P) b=cutB D b++P:=by
 obtain ⟨p,q,rfl,hp⟩:=List.eq_append_cons_of_mem h
 rw [List.append_assoc,List.cons_append,cutA_hit hp,cutB_hit hp,cutA_hit hp,cutB_hit hp]
 exact ⟨rfl,rfl⟩
theorem open_pre: ∀(n k:Nat) (D P:BL),openL n k D<+:openL n k (D++P)
 | 0,_,_,_=>List.prefix_rfl
 | n+1,k,D,P=>by
  by_cases h:10∈D
  ·obtain ⟨e1,e2⟩:=cut_app (P:=P) h
   cases g:readL k (cutA D 10) with
   | none=>rw [openL_none g];exact List.nil_prefix
   | some e=>
    rw [openL_some h g,openL_some (List.mem_append_left _ h) (by rw [e1];exact g),e2]
    exact List.cons_prefix_cons.2 ⟨rfl,open_pre n (k+1) _ P⟩
  ·rw [openL_no h];exact List.nil_prefix
theorem open_end: ∀(n k:Nat) (D P:BL) (j:Nat),j<=(openL n k (D++P)).length->endL k ((openL n k (D++P)).take j)=D.length->endL k (openL n k D)=D.length
 | n,k,D,P,0,_,h=>by
  rw [List.take_zero] at h
  have:D= []:=List.eq_nil_of_length_eq_zero h.symm
  subst this
  rw [openL_no (by simp)];rfl
 | 0,k,D,P,j+1,h1,h=>by simp [openL] at h1
 | n+1,k,D,P,j+1,h1,h=>by
  by_cases hm:10∈D++P
  ·cases g:readL k (cutA (D++P) 10) with
   | none=>rw [openL_none g] at h1;simp at h1
   | some e=>
    rw [openL_some hm g] at h h1
    rw [List.take_succ_cons,endL] at h
    have h2:=(cut_mem hm).1
    have h3:=(cut_mem hm).2
    rw [(readL_some (c:=e.1) (r:=e.2) g).2] at h2 h3
    have hD:10∈D:=by
     have:(D++P).take D.length=D:=by simp
     rw [←this,h2,List.take_append]
     refine List.mem_append_right _ ?_
     rw [show D.length-(lineL k e.1 e.2).length=(endL (k+1) (List.take j (openL n (k+1) (cutB (D++P) 10))))+1 by omega,List.take_succ_cons]
     exact List.mem_cons_self
    obtain ⟨e1,e2⟩:=cut_app (P:=P) hD
    rw [e1] at g
    rw [e2] at h h1
    rw [List.length_cons] at h1
    have h4:=congrArg List.length (cut_mem hD).1
    rw [List.length_append,List.length_cons,(readL_some (c:=e.1) (r:=e.2) g).2] at h4
    rw [openL_some hD g,endL,open_end n (k+1) (cutB D 10) P j (by omega) (by omega)]
    omega
  ·rw [openL_no hm] at h1;simp at h1
def endsL (d:List (BL×BL)):List Int:=(List.range (d.length+1)).map fun j=>(endL 0 (d.take j):Int)
theorem endsL_len (d:List (BL×BL)):(endsL d).length=d.length+1:=by simp [endsL]
theorem endsL_snoc (d:List (BL×BL)) (e:BL×BL):endsL (d++ [e])=endsL d++ [(endL 0 (d++ [e]):Int)]:=by
 unfold endsL
 rw [List.length_append,List.length_singleton,List.range_succ,List.map_append,List.map_singleton,List.take_of_length_le (by simp)]
 congr 1
 refine List.map_congr_left fun j hj => ?_
 rw [List.take_append_of_le_length (by have:=List.mem_range.1 hj;omega)]
theorem endsL_at {d:List (BL×BL)} {j:Nat} (hj:j<(endsL d).length):(endsL d)[j]=(endL 0 (d.take j):Int):=by
 simp [endsL]
def AtL (s:BL) (d:List (BL×BL)):Prop:=d.length<=60∧openL 60 0 s=d++openL (60-d.length) d.length (s.drop (endL 0 d))∧endL 0 d<=s.length
theorem AtL.start (s:BL):AtL s []:=⟨by simp,by simp [endL],by simp [endL]⟩
theorem AtL.step {s:BL} {d:List (BL×BL)} {e:BL×BL} (a:AtL s d) (hd:d.length<60) (hm:10∈s.drop (endL 0 d)) (g:readL d.length (cutA (s.drop (endL 0 d)) 10)=some e) :
  AtL s (d++ [e])∧endL 0 (d++ [e])=endL 0 d+((lineL d.length e.1 e.2).length+1):=by
 obtain ⟨h1,h2,h3⟩:=a
 obtain ⟨_,_,l3,l4⟩:=line_at hm g
 have e1:endL 0 (d++ [e])=endL 0 d+(lineL d.length e.1 e.2).length+1:=by rw [endL_snoc,Nat.zero_add]
 refine ⟨⟨by rw [List.length_append,List.length_singleton];omega, ?_,by omega⟩,by omega⟩
 rw [h2,show 60-d.length=(60-(d.length+1))+1 by omega,openL_some hm g,l3,e1,List.length_append,List.length_singleton,List.append_assoc,List.singleton_append]
theorem AtL.stop {s:BL} {d:List (BL×BL)} (a:AtL s d) (h: ¬(10∈s.drop (endL 0 d)∧d.length<60∧(readL d.length (cutA (s.drop (endL 0 d)) 10)).isSome=true)):openL 60 0 s=d:=by
 obtain ⟨h1,h2,h3⟩:=a
 rw [h2]
 by_cases hm:10∈s.drop (endL 0 d)
 ·by_cases hd:d.length<60
  ·have:readL d.length (cutA (s.drop (endL 0 d)) 10)=none:=by
    rw [←Option.not_isSome_iff_eq_none];exact fun hh=>h ⟨hm,hd,hh⟩
   rw [openL_none this,List.append_nil]
  ·rw [show 60-d.length=0 by omega,openL,List.append_nil]
 ·rw [openL_no hm,List.append_nil]
def logOk (D P:BL) (count:Int):Prop:=endL 0 (openL 60 0 (D++P))=(D++P).length∧endL 0 (openL 60 0 D)=D.length∧((openL 60 0 (D++P)).length:Int)=count
instance (D P:BL) (count:Int):Decidable (logOk D P count):=by unfold logOk;infer_instance
theorem logOk_small {D P:BL} (h:endL 0 (openL 60 0 (D++P))=(D++P).length):(D++P).length<=22320:=by
 have h1:=(endL_le 60 0 (D++P) (by omega)).1
 have h2:=openL_len 60 0 (D++P)
 omega
theorem logOk_ends {D P:BL}:(∃j,j<=(openL 60 0 (D++P)).length∧endL 0 ((openL 60 0 (D++P)).take j)=D.length)↔endL 0 (openL 60 0 D)=D.length:=by
 constructor
 ·rintro ⟨j,h1,h2⟩
  exact open_end 60 0 D P j h1 h2
 ·intro h
  obtain ⟨t,ht⟩:=open_pre 60 0 D P
  refine ⟨(openL 60 0 D).length, ?_, ?_⟩
  ·rw [←ht,List.length_append];omega
  ·rw [←ht,List.take_left']
   ·exact h
   ·rfl
open Go.HH Go.Proofs
theorem idx_miss {c:UInt8}: ∀ {l:BL},c∉l->Lib.indexByte l c = -1
 | [],_=>rfl
 | x::l,h=>by
  have h1:x≠c:=fun e=>h (by rw [e];exact List.mem_cons_self)
  rw [Lib.indexByte,idx_miss (l:=l) (fun e=>h (List.mem_cons_of_mem _ e))]
  simp [h1]
theorem idx_at {c:UInt8} {q:BL}: ∀ {p:BL},c∉p->Lib.indexByte (p++c::q) c=p.length
 | [],_=>by simp [Lib.indexByte]
 | x::p,h=>by
  have h1:x≠c:=fun e=>h (by rw [e];exact List.mem_cons_self)
  have h2:=idx_at (q:=q) (p:=p) (fun e=>h (List.mem_cons_of_mem _ e))
  rw [List.cons_append,Lib.indexByte,h2]
  have h3: ¬((p.length:Int) = -1):=by omega
  simp [h1,h3]
theorem idx_hit {c:UInt8} {l:BL} (h:c∈l):Lib.indexByte l c=(cutA l c).length:=by
 obtain ⟨p,q,rfl,hp⟩:=List.eq_append_cons_of_mem h
 rw [cutA_hit hp,idx_at hp]
theorem cut_len {c:UInt8} {l:BL} (h:c∈l):(cutA l c).length+1+(cutB l c).length=l.length:=by
 have:=congrArg List.length (cut_mem h).1
 rw [List.length_append,List.length_cons] at this
 omega
theorem cutA_extract {s:ByteArray} {c:UInt8} (h:c∈bl s):s.extract 0 (cutA (bl s) c).length=mkB (cutA (bl s) c):=by
 apply bl_ext
 obtain ⟨p,q,e,hp⟩:=List.eq_append_cons_of_mem h
 rw [bl_extract,bl_mkB,e,cutA_hit hp];simp
theorem cutB_extract {s:ByteArray} {c:UInt8} (h:c∈bl s):s.extract ((cutA (bl s) c).length+1) s.size=mkB (cutB (bl s) c):=by
 apply bl_ext
 rw [bl_extract, ←bl_len,List.take_length,bl_mkB]
 obtain ⟨p,q,e,hp⟩:=List.eq_append_cons_of_mem h
 rw [e,cutA_hit hp,cutB_hit hp,List.drop_append,List.drop_eq_nil_of_le (by omega)]
 simp
section
variable {h : Heap} {M : Nat → Prop}
theorem c_sIndex (s:ByteArray) (c:UInt8):vCall [] Tryz.prog M 170 [.string s, .string ⟨#[c]⟩] h (fun r h'=>r = .int .i64 (Lib.indexByte (bl s) c)∧h=h'):=
 vCall_plain (by rfl) rfl (Tryz.stringslite_Index_one s c)
theorem c_sCut (s:ByteArray) (c:UInt8) (hs:s.size<=9223372036854775000):vCall [] Tryz.prog M 203 [.string s, .string ⟨#[c]⟩] h
  (fun r h'=>r = .tuple #[.string (mkB (cutA (bl s) c)), .string (mkB (cutB (bl s) c)), .bool ((bl s).contains c)]∧h=h'):=by
 refine body_of mo Tryz.func203 rfl (by kernel_rfl) (Nat.le_of_ble_eq_true (by kernel_rfl)) rfl ?_
 simp only [go_sem]
 refine ⟨by kernel_rfl,(c_sIndex s c).use (fun _ m=>m) ?_⟩
 rintro _ _ ⟨rfl,rfl⟩
 simp only [go_sem]
 by_cases hm:c∈bl s
 ·have h1:=cut_len hm
  rw [bl_len] at h1
  have e1:IntKind.i64.wrap (((cutA (bl s) c).length:Int)+1)=(((cutA (bl s) c).length+1:Nat):Int):=by rw [wrap64 (by omega)];omega
  have e2: ¬(((cutA (bl s) c).length:Int)<0):=by omega
  simp only [go_sem,idx_hit hm,e1,e2]
  refine ⟨by omega,by omega,by omega, ?_⟩
  rw [cutA_extract hm,cutB_extract hm,List.contains_iff_mem.2 hm]
 ·simp only [go_sem,idx_miss hm]
  rw [cutA_miss hm,cutB_miss hm,mkB_bl,show (bl s).contains c=false from by rw [Bool.eq_false_iff];exact fun hh=>hm (List.contains_iff_mem.1 hh)]
  rfl
theorem c_Cut (s:ByteArray) (c:UInt8) (hs:s.size<=9223372036854775000):vCall [] Tryz.prog M 163 [.string s, .string ⟨#[c]⟩] h
  (fun r h'=>r = .tuple #[.string (mkB (cutA (bl s) c)), .string (mkB (cutB (bl s) c)), .bool ((bl s).contains c)]∧h=h'):=by
 refine body_of mo Tryz.func163 rfl (by kernel_rfl) (Nat.le_of_ble_eq_true (by kernel_rfl)) rfl ?_
 simp only [go_sem]
 refine ⟨by kernel_rfl,(c_sCut s c hs).use (fun _ m=>m) ?_⟩
 rintro _ _ ⟨rfl,rfl⟩
 simp only [go_sem]
theorem c_CutE {G:List (Nat×Nat)} (s:ByteArray) (c:UInt8) (a b:BL) (hs:s.size<=9223372036854775000) (ha:cutA (bl s) c=a) (hb:cutB (bl s) c=b):vCall G Tryz.prog M 163 [.string s, .string ⟨#[c]⟩] h
  (fun r h'=>r = .tuple #[.string (mkB a), .string (mkB b), .bool ((bl s).contains c)]∧h=h'):=by
 subst ha hb
 exact (c_Cut s c hs).addG
end
open Go.HH Go.Proofs
def powV:List Value:=Lib.pow10Tab.map (Value.int .u64)
theorem powV_len:powV.length=20:=by simp [powV,Lib.pow10Tab]
theorem powV_plain: ∀v∈powV,Plain v:=by
 intro v hv
 obtain ⟨z,_,rfl⟩:=List.mem_map.1 hv
 exact .int _ _
def PowAt (G:List (Nat×Nat)) (h:Heap):Prop:=(1,20)∈G∧hget h 1=some ⟨powV,1, .ro⟩
theorem PowAt.mono {G:List (Nat×Nat)} {h h':Heap} (a:PowAt G h) (hp:h<+:h'):PowAt G h':=⟨a.1,by rw [hget_prefix hp (hget_lt a.2)];exact a.2⟩
theorem c_ItoaG {G:List (Nat×Nat)} {M:Nat->Prop} {h:Heap} (a:PowAt G h) (n:Nat) (hn:n<10000000000):vCall G Tryz.prog M 80 [.int .i64 n] h (fun r h'=>r = .string (num n)∧h=h'):=by
 refine vCall_below (by rfl) rfl fun p w hr => ?_
 have e:Lib.itoa (n:Int)=Lib.decDigits n:=by rw [Lib.itoa,if_neg (by omega)];rfl
 have:=Tryz.strconv_Itoa n (by omega) (by omega) w (var_of (l:=powV) hr (by rw [powV_len];exact a.1) powV_plain a.2 (by simp) rfl (by kernel_rfl))
 rw [e] at this
 refine this.mono ?_
 rintro e w' ⟨rfl,k,os,rfl⟩
 exact ⟨rfl,below_grow⟩
theorem var_cells {P:Program} {W:World} {name:String} {g:Nat} {c:Array Value} (hg:P.globalNamed name=some g) (h:W.var? P name=some c): ∃el fr,W.heap[g]? = some (.cells c el fr):=by
 simp only [World.var?,hg,Option.bind_some] at h
 split at h
 ·rename_i cs el fr e
  cases h
  exact ⟨el,fr,e⟩
 ·cases h
end Go.Proofs.YtedidddimikjhaaGreatDoor
