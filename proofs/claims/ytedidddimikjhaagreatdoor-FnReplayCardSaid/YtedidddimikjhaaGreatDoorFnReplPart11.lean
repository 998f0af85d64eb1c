/- Texts of this claim, joined. No condition. -/
import Derived.Test.YtedidddimikjhaaGreatDoorFnReplPart10
import Derived.Test.YtedidddimikjhaaGreatDoorFnReplPart6
import Derived.Test.YtedidddimikjhaaGreatDoorFnReplPart8
import Derived.Test.YtedidddimikjhaaGreatDoorFnReplPart7
import Derived.Test.YtedidddimikjhaaGreatDoorFnReplPart4
import Derived.Test.YtedidddimikjhaaGreatDoorFnReplPart9
open List (length_map prefix_append append_assoc length_append getElem?_eq_getElem getElem_map length_take getElem_mem getElem?_append_left getElem?_append_right length_cons all_eq_true mem_map take_length getElem?_cons_succ cons_append map_append length_nil mem_iff_getElem take_of_length_le mem_cons map_cons drop_zero append_nil size_toArray getElem?_map nil_append mem_append length_singleton mem_cons_of_mem length_drop flatten_cons getElem?_set_ne take_add_one length_set mem_singleton mem_append_left take_append_drop foldl_cons)
open Nat (le_refl le_trans add_zero zero_le zero_add sub_self lt_of_lt_of_le lt_succ_self)
set_option linter.unusedSimpArgs false
set_option linter.unusedVariables false
namespace Go.Proofs.YtedidddimikjhaaGreatDoor
open Go.HH Go.Proofs
noncomputable def editT(C:Con)(w:ByteArray)(l:List Int):ByteArray:=if (editR C w l).isSome then w_ok else w_no
theorem FQs.w4{h t:Heap}{a b c d a' b' c' d':Blk}{lo hi:Nat}{v:Value}{rows:List (List Value)}(s:FQs lo hi 4 (h++ [a,b,c,d]++t) v rows)(hl:(h++ [a,b,c,d]).length<=lo):FQs lo hi 4 (h++a'::b'::c'::d'::t) v rows:=by
 have:=s.swapped (y:= [a',b',c',d']) (by simpa using hl) rfl (le_refl _) (le_refl _)
 simpa using this
theorem FQs.w3{h t:Heap}{a b c a' b' c':Blk}{lo hi:Nat}{v:Value}{rows:List (List Value)}(s:FQs lo hi 4 (h++ [a,b,c]++t) v rows)(hl:(h++ [a,b,c]).length<=lo):FQs lo hi 4 (h++a'::b'::c'::t) v rows:=by
 have:=s.swapped (y:= [a',b',c']) (by simpa using hl) rfl (le_refl _) (le_refl _)
 simpa using this
def Rw(lo:Nat)(H:Heap)(w x:Value)(r0 r:List (List Value)):Prop:=(x=w∧r=r0)∨FQs lo H.length 4 H x r
theorem Rw.one{lo:Nat}{H:Heap}{w x:Value}{r0 r:List (List Value)}(s:Rw lo H w x r0 r)(o:oneC w=true):oneC x=true:=by
 rcases s with⟨rfl,_⟩|s
 ·exact o
 ·exact s.one
section
variable {h:Heap} {M:Nat->Prop}
set_option maxRecDepth 4000 in
theorem c_l28EditP{n:Nat}(C:Con)(wP wV vl:Value)(l:List Int)(sP:SB n 4 h wP (C.P.map pip))(sV:Sl h 4 wV (C.V.map vlv))(esP:EszC h 4 wP)(es:EszC h 4 wV)(g:conOk C)(sl:SI h vl l) :
  vCall [] Tryz.prog M 114 [conV C wP wV, .string w_pipe,vl] h (fun r h'=>(∃E xP xV,r = .tuple #[conV E xP xV, .string (editT C w_pipe l)]∧E=(editR C w_pipe l).getD C∧Rw h.length h' wP xP (C.P.map pip) (E.P.map pip)∧Rw h.length h' wV xV (C.V.map vlv) (E.V.map vlv))∧h<+:h'):=by
 obtain⟨N,P,V,src,D,Q,cnt⟩:=C
 have hP10:P.length<=1048576:=le_trans g.1.1.2.2 (by decide)
 have hV10:V.length<=1048576:=le_trans g.1.2.1 (by decide)
 simp only at sP sV esP es
 have o0:oneC wP=true:=by obtain⟨a,e,_⟩:=sP.1;rw[e];rfl
 have o0v:oneC wV=true:=by obtain⟨a,e,_⟩:=sV;rw[e];rfl
 have hv:NA n h (.agg #[.int .i64 N,wP]) N P:=⟨wP,rfl,sP⟩
 have no: ∀(H:Heap),editR ⟨N,P,V,src,D,Q,cnt⟩ w_pipe l=none->∃E xP xV,Value.tuple #[conV ⟨N,P,V,src,D,Q,cnt⟩ wP wV, .string w_no] = .tuple #[conV E xP xV, .string (editT ⟨N,P,V,src,D,Q,cnt⟩ w_pipe l)]∧E=(editR ⟨N,P,V,src,D,Q,cnt⟩ w_pipe l).getD ⟨N,P,V,src,D,Q,cnt⟩∧Rw h.length H wP xP (P.map pip) (E.P.map pip)∧Rw h.length H wV xV (V.map vlv) (E.V.map vlv):=fun H hn=>by
  rw[editT,hn]
  exact⟨_,_,_,rfl,rfl, .inl ⟨rfl,rfl⟩, .inl ⟨rfl,rfl⟩⟩
 have yes: ∀(H:Heap) (E:Con) (xP xV:Value),editR ⟨N,P,V,src,D,Q,cnt⟩ w_pipe l=some E->Rw h.length H wP xP (P.map pip) (E.P.map pip)->Rw h.length H wV xV (V.map vlv) (E.V.map vlv)->∃E₁ yP yV,Value.tuple #[conV E xP xV, .string w_ok] = .tuple #[conV E₁ yP yV, .string (editT ⟨N,P,V,src,D,Q,cnt⟩ w_pipe l)]∧E₁=(editR ⟨N,P,V,src,D,Q,cnt⟩ w_pipe l).getD ⟨N,P,V,src,D,Q,cnt⟩∧Rw h.length H wP yP (P.map pip) (E₁.P.map pip)∧Rw h.length H wV yV (V.map vlv) (E₁.V.map vlv):=fun H E xP xV hn h1 h2=>by
  rw[editT,hn]
  exact⟨_,_,_,rfl,rfl,h1,h2⟩
 have qp:decide (w_pipe=w_pipe)=true:=by decide
 have qv:decide (w_pipe=w_valve)=false:=by decide
 have qs:decide (w_pipe=w_shut)=false:=by decide
 have qo:decide (w_pipe=w_open)=false:=by decide
 have qr:decide (w_pipe=w_source)=false:=by decide
 obtain⟨a0,rfl⟩:=AI.len sl
 refine boR ([(4,[]),(8,[])]) Tryz.func114 rfl rfl ?_
 by_cases lk:l.length=4
 case neg=>
  have he:editR ⟨N,P,V,src,D,Q,cnt⟩ w_pipe l=none:=by
   rw[editR]
   repeat rw[if_neg (by decide)]
   first|rw[if_pos rfl]|rw[if_pos (by decide)]
   rw[if_neg (fun hh=>lk hh.1)]
  have nl:((l.length:Int)==4)=false:=by rw[beq_eq_false_iff_ne];omega
  simp only[go_sem,conV,toList_eq,qp,qv,qs,qo,qr,o0,o0v,nl]
  exact no _ he
 case pos=>
  obtain⟨idl,offl,kl,hvl,_,hkl,_,hdl,_,_,_,hat⟩:=AI.at sl (by omega)
  obtain rfl:a0=some ⟨idl,offl,none⟩:=by simpa using hvl
  have p0:=hat 0 (by omega)
  rw[gl_at] at p0
  simp only[add_zero] at p0
  have p1:=hat 1 (by omega)
  have p2:=hat 2 (by omega)
  have p3:=hat 3 (by omega)
  rw[gl_at] at p1 p2 p3
  simp only[go_sem,conV,toList_eq,qp,qv,qs,qo,qr,o0,o0v,hkl,hdl,p0,p1,p2,p3,lk]
  refine (c_sAddPipe wP N P (pipOf l) (sP.mono (by simp)) (esP.mono (by simp)) hP10).go ?_
  rintro _ _⟨⟨x,rfl,fx⟩,⟨t,rfl⟩⟩
  have ox:=fx.one
  by_cases c:addOk N P (pipOf l)
  ·have he:editR ⟨N,P,V,src,D,Q,cnt⟩ w_pipe l=some ⟨N,insP P (pipOf l),V,src,D,Q,cnt⟩:=by
    rw[editR,if_pos rfl,if_pos ⟨lk,c⟩]
   rw[addR,if_pos c] at fx
   have ea:addN N P (pipOf l)=N:=by rw[addN,if_pos c]
   simp only[go_sem,decb c,ea,o0,o0v,ox]
   exact yes _ ⟨N,insP P (pipOf l),V,src,D,Q,cnt⟩ x wV he (.inr ((FQs.w4 fx (by simp)).wide (by simp) (by simp))) (.inl ⟨rfl,rfl⟩)
  ·have he:editR ⟨N,P,V,src,D,Q,cnt⟩ w_pipe l=none:=by
    rw[editR,if_pos rfl,if_neg (fun hh=>c hh.2)]
   simp only[go_sem,dect c,o0,o0v,ox]
   exact no _ he
set_option maxRecDepth 4000 in
theorem c_l28EditS{n:Nat}(C:Con)(wP wV vl:Value)(l:List Int)(sP:SB n 4 h wP (C.P.map pip))(sV:Sl h 4 wV (C.V.map vlv))(esP:EszC h 4 wP)(es:EszC h 4 wV)(g:conOk C)(sl:SI h vl l) :
  vCall [] Tryz.prog M 114 [conV C wP wV, .string w_source,vl] h (fun r h'=>(∃E xP xV,r = .tuple #[conV E xP xV, .string (editT C w_source l)]∧E=(editR C w_source l).getD C∧Rw h.length h' wP xP (C.P.map pip) (E.P.map pip)∧Rw h.length h' wV xV (C.V.map vlv) (E.V.map vlv))∧h<+:h'):=by
 obtain⟨N,P,V,src,D,Q,cnt⟩:=C
 have hP10:P.length<=1048576:=le_trans g.1.1.2.2 (by decide)
 have hV10:V.length<=1048576:=le_trans g.1.2.1 (by decide)
 simp only at sP sV esP es
 have o0:oneC wP=true:=by obtain⟨a,e,_⟩:=sP.1;rw[e];rfl
 have o0v:oneC wV=true:=by obtain⟨a,e,_⟩:=sV;rw[e];rfl
 have hv:NA n h (.agg #[.int .i64 N,wP]) N P:=⟨wP,rfl,sP⟩
 have no: ∀(H:Heap),editR ⟨N,P,V,src,D,Q,cnt⟩ w_source l=none->∃E xP xV,Value.tuple #[conV ⟨N,P,V,src,D,Q,cnt⟩ wP wV, .string w_no] = .tuple #[conV E xP xV, .string (editT ⟨N,P,V,src,D,Q,cnt⟩ w_source l)]∧E=(editR ⟨N,P,V,src,D,Q,cnt⟩ w_source l).getD ⟨N,P,V,src,D,Q,cnt⟩∧Rw h.length H wP xP (P.map pip) (E.P.map pip)∧Rw h.length H wV xV (V.map vlv) (E.V.map vlv):=fun H hn=>by
  rw[editT,hn]
  exact⟨_,_,_,rfl,rfl, .inl ⟨rfl,rfl⟩, .inl ⟨rfl,rfl⟩⟩
 have yes: ∀(H:Heap) (E:Con) (xP xV:Value),editR ⟨N,P,V,src,D,Q,cnt⟩ w_source l=some E->Rw h.length H wP xP (P.map pip) (E.P.map pip)->Rw h.length H wV xV (V.map vlv) (E.V.map vlv)->∃E₁ yP yV,Value.tuple #[conV E xP xV, .string w_ok] = .tuple #[conV E₁ yP yV, .string (editT ⟨N,P,V,src,D,Q,cnt⟩ w_source l)]∧E₁=(editR ⟨N,P,V,src,D,Q,cnt⟩ w_source l).getD ⟨N,P,V,src,D,Q,cnt⟩∧Rw h.length H wP yP (P.map pip) (E₁.P.map pip)∧Rw h.length H wV yV (V.map vlv) (E₁.V.map vlv):=fun H E xP xV hn h1 h2=>by
  rw[editT,hn]
  exact⟨_,_,_,rfl,rfl,h1,h2⟩
 have qp:decide (w_source=w_pipe)=false:=by decide
 have qv:decide (w_source=w_valve)=false:=by decide
 have qs:decide (w_source=w_shut)=false:=by decide
 have qo:decide (w_source=w_open)=false:=by decide
 have qr:decide (w_source=w_source)=true:=by decide
 obtain⟨a0,rfl⟩:=AI.len sl
 refine boR ([(4,[]),(8,[])]) Tryz.func114 rfl rfl ?_
 by_cases lk:l.length=1
 case neg=>
  have he:editR ⟨N,P,V,src,D,Q,cnt⟩ w_source l=none:=by
   rw[editR]
   repeat rw[if_neg (by decide)]
   first|rw[if_pos rfl]|rw[if_pos (by decide)]
   rw[if_neg (fun hh=>lk hh.1)]
  have nl:((l.length:Int)==1)=false:=by rw[beq_eq_false_iff_ne];omega
  simp only[go_sem,conV,toList_eq,qp,qv,qs,qo,qr,o0,o0v,nl]
  exact no _ he
 case pos=>
  obtain⟨idl,offl,kl,hvl,_,hkl,_,hdl,_,_,_,hat⟩:=AI.at sl (by omega)
  obtain rfl:a0=some ⟨idl,offl,none⟩:=by simpa using hvl
  have p0:=hat 0 (by omega)
  rw[gl_at] at p0
  simp only[add_zero] at p0
  simp only[go_sem,conV,toList_eq,qp,qv,qs,qo,qr,o0,o0v,hkl,hdl,p0,lk]
  refine (c_l2NodeC _ N P (gl l 0) (hv.mono (by simp)) hP10).go ?_
  rintro _ _⟨rfl,⟨t,rfl⟩⟩
  by_cases c:netGood N P∧1<=gl l 0∧gl l 0<=N
  ·have he:editR ⟨N,P,V,src,D,Q,cnt⟩ w_source l=some ⟨N,P,V,gl l 0,D,Q,cnt⟩:=by
    rw[editR,if_neg (by decide),if_neg (by decide),if_neg (by decide),if_pos rfl,if_pos ⟨lk,c.2⟩]
   simp only[go_sem,decb c,o0,o0v]
   exact yes _ ⟨N,P,V,gl l 0,D,Q,cnt⟩ wP wV he (.inl ⟨rfl,rfl⟩) (.inl ⟨rfl,rfl⟩)
  ·have he:editR ⟨N,P,V,src,D,Q,cnt⟩ w_source l=none:=by
    rw[editR,if_neg (by decide),if_neg (by decide),if_neg (by decide),if_pos rfl,if_neg (fun hh=>c ⟨g.1.1,hh.2⟩)]
   simp only[go_sem,dect c,o0,o0v]
   exact no _ he
set_option maxRecDepth 4000 in
theorem c_l28EditH{n:Nat}(C:Con)(wP wV vl:Value)(l:List Int)(sP:SB n 4 h wP (C.P.map pip))(sV:Sl h 4 wV (C.V.map vlv))(esP:EszC h 4 wP)(es:EszC h 4 wV)(g:conOk C)(sl:SI h vl l) :
  vCall [] Tryz.prog M 114 [conV C wP wV, .string w_shut,vl] h (fun r h'=>(∃E xP xV,r = .tuple #[conV E xP xV, .string (editT C w_shut l)]∧E=(editR C w_shut l).getD C∧Rw h.length h' wP xP (C.P.map pip) (E.P.map pip)∧Rw h.length h' wV xV (C.V.map vlv) (E.V.map vlv))∧h<+:h'):=by
 obtain⟨N,P,V,src,D,Q,cnt⟩:=C
 have hP10:P.length<=1048576:=le_trans g.1.1.2.2 (by decide)
 have hV10:V.length<=1048576:=le_trans g.1.2.1 (by decide)
 simp only at sP sV esP es
 have o0:oneC wP=true:=by obtain⟨a,e,_⟩:=sP.1;rw[e];rfl
 have o0v:oneC wV=true:=by obtain⟨a,e,_⟩:=sV;rw[e];rfl
 have hv:NA n h (.agg #[.int .i64 N,wP]) N P:=⟨wP,rfl,sP⟩
 have no: ∀(H:Heap),editR ⟨N,P,V,src,D,Q,cnt⟩ w_shut l=none->∃E xP xV,Value.tuple #[conV ⟨N,P,V,src,D,Q,cnt⟩ wP wV, .string w_no] = .tuple #[conV E xP xV, .string (editT ⟨N,P,V,src,D,Q,cnt⟩ w_shut l)]∧E=(editR ⟨N,P,V,src,D,Q,cnt⟩ w_shut l).getD ⟨N,P,V,src,D,Q,cnt⟩∧Rw h.length H wP xP (P.map pip) (E.P.map pip)∧Rw h.length H wV xV (V.map vlv) (E.V.map vlv):=fun H hn=>by
  rw[editT,hn]
  exact⟨_,_,_,rfl,rfl, .inl ⟨rfl,rfl⟩, .inl ⟨rfl,rfl⟩⟩
 have yes: ∀(H:Heap) (E:Con) (xP xV:Value),editR ⟨N,P,V,src,D,Q,cnt⟩ w_shut l=some E->Rw h.length H wP xP (P.map pip) (E.P.map pip)->Rw h.length H wV xV (V.map vlv) (E.V.map vlv)->∃E₁ yP yV,Value.tuple #[conV E xP xV, .string w_ok] = .tuple #[conV E₁ yP yV, .string (editT ⟨N,P,V,src,D,Q,cnt⟩ w_shut l)]∧E₁=(editR ⟨N,P,V,src,D,Q,cnt⟩ w_shut l).getD ⟨N,P,V,src,D,Q,cnt⟩∧Rw h.length H wP yP (P.map pip) (E₁.P.map pip)∧Rw h.length H wV yV (V.map vlv) (E₁.V.map vlv):=fun H E xP xV hn h1 h2=>by
  rw[editT,hn]
  exact⟨_,_,_,rfl,rfl,h1,h2⟩
 have qp:decide (w_shut=w_pipe)=false:=by decide
 have qv:decide (w_shut=w_valve)=false:=by decide
 have qs:decide (w_shut=w_shut)=true:=by decide
 have qo:decide (w_shut=w_open)=false:=by decide
 have qr:decide (w_shut=w_source)=false:=by decide
 obtain⟨a0,rfl⟩:=AI.len sl
 refine boR ([(4,[]),(8,[])]) Tryz.func114 rfl rfl ?_
 by_cases lk:l.length=1
 case neg=>
  have he:editR ⟨N,P,V,src,D,Q,cnt⟩ w_shut l=none:=by
   rw[editR]
   repeat rw[if_neg (by decide)]
   first|rw[if_pos rfl]|rw[if_pos (by decide)]
   rw[if_neg (fun hh=>lk hh.1)]
  have nl:((l.length:Int)==1)=false:=by rw[beq_eq_false_iff_ne];omega
  simp only[go_sem,conV,toList_eq,qp,qv,qs,qo,qr,o0,o0v,nl]
  exact no _ he
 case pos=>
  obtain⟨idl,offl,kl,hvl,_,hkl,_,hdl,_,_,_,hat⟩:=AI.at sl (by omega)
  obtain rfl:a0=some ⟨idl,offl,none⟩:=by simpa using hvl
  have p0:=hat 0 (by omega)
  rw[gl_at] at p0
  simp only[add_zero] at p0
  simp only[go_sem,conV,toList_eq,qp,qv,qs,qo,qr,o0,o0v,hkl,hdl,p0,lk]
  refine (c_sTurnValveF _ wV N P V (gl l 0) true (hv.mono (by simp)) (sV.mono (by simp)) hP10 hV10).go ?_
  rintro _ _⟨⟨x,rfl,fx⟩,⟨t,rfl⟩⟩
  obtain⟨xa,xn,rfl⟩: ∃a m,x = .slice a m 0:=by rcases fx with⟨id,rfl,_⟩|⟨_,a,rfl⟩<;>exact⟨_,_,rfl⟩
  by_cases c:turnOk N P V (gl l 0) true
  ·have he:editR ⟨N,P,V,src,D,Q,cnt⟩ w_shut l=some ⟨N,P,turnR N P V (gl l 0) true,src,D,Q,cnt⟩:=by
    rw[editR,if_neg (by decide),if_neg (by decide),if_pos (by decide),show decide (w_shut=w_shut)=true from by decide,if_pos ⟨lk,c⟩]
   simp only[go_sem,decb c,o0,o0v]
   exact yes _ ⟨N,P,turnR N P V (gl l 0) true,src,D,Q,cnt⟩ wP _ he (.inl ⟨rfl,rfl⟩) (.inr ((FQs.w3 fx (by simp)).wide (by simp) (by simp)))
  ·have he:editR ⟨N,P,V,src,D,Q,cnt⟩ w_shut l=none:=by
    rw[editR,if_neg (by decide),if_neg (by decide),if_pos (by decide),show decide (w_shut=w_shut)=true from by decide,if_neg (fun hh=>c hh.2)]
   simp only[go_sem,dect c,o0,o0v]
   exact no _ he
set_option maxRecDepth 4000 in
theorem c_l28EditO{n:Nat}(C:Con)(wP wV vl:Value)(l:List Int)(sP:SB n 4 h wP (C.P.map pip))(sV:Sl h 4 wV (C.V.map vlv))(esP:EszC h 4 wP)(es:EszC h 4 wV)(g:conOk C)(sl:SI h vl l) :
  vCall [] Tryz.prog M 114 [conV C wP wV, .string w_open,vl] h (fun r h'=>(∃E xP xV,r = .tuple #[conV E xP xV, .string (editT C w_open l)]∧E=(editR C w_open l).getD C∧Rw h.length h' wP xP (C.P.map pip) (E.P.map pip)∧Rw h.length h' wV xV (C.V.map vlv) (E.V.map vlv))∧h<+:h'):=by
 obtain⟨N,P,V,src,D,Q,cnt⟩:=C
 have hP10:P.length<=1048576:=le_trans g.1.1.2.2 (by decide)
 have hV10:V.length<=1048576:=le_trans g.1.2.1 (by decide)
 simp only at sP sV esP es
 have o0:oneC wP=true:=by obtain⟨a,e,_⟩:=sP.1;rw[e];rfl
 have o0v:oneC wV=true:=by obtain⟨a,e,_⟩:=sV;rw[e];rfl
 have hv:NA n h (.agg #[.int .i64 N,wP]) N P:=⟨wP,rfl,sP⟩
 have no: ∀(H:Heap),editR ⟨N,P,V,src,D,Q,cnt⟩ w_open l=none->∃E xP xV,Value.tuple #[conV ⟨N,P,V,src,D,Q,cnt⟩ wP wV, .string w_no] = .tuple #[conV E xP xV, .string (editT ⟨N,P,V,src,D,Q,cnt⟩ w_open l)]∧E=(editR ⟨N,P,V,src,D,Q,cnt⟩ w_open l).getD ⟨N,P,V,src,D,Q,cnt⟩∧Rw h.length H wP xP (P.map pip) (E.P.map pip)∧Rw h.length H wV xV (V.map vlv) (E.V.map vlv):=fun H hn=>by
  rw[editT,hn]
  exact⟨_,_,_,rfl,rfl, .inl ⟨rfl,rfl⟩, .inl ⟨rfl,rfl⟩⟩
 have yes: ∀(H:Heap) (E:Con) (xP xV:Value),editR ⟨N,P,V,src,D,Q,cnt⟩ w_open l=some E->Rw h.length H wP xP (P.map pip) (E.P.map pip)->Rw h.length H wV xV (V.map vlv) (E.V.map vlv)->∃E₁ yP yV,Value.tuple #[conV E xP xV, .string w_ok] = .tuple #[conV E₁ yP yV, .string (editT ⟨N,P,V,src,D,Q,cnt⟩ w_open l)]∧E₁=(editR ⟨N,P,V,src,D,Q,cnt⟩ w_open l).getD ⟨N,P,V,src,D,Q,cnt⟩∧Rw h.length H wP yP (P.map pip) (E₁.P.map pip)∧Rw h.length H wV yV (V.map vlv) (E₁.V.map vlv):=fun H E xP xV hn h1 h2=>by
  rw[editT,hn]
  exact⟨_,_,_,rfl,rfl,h1,h2⟩
 have qp:decide (w_open=w_pipe)=false:=by decide
 have qv:decide (w_open=w_valve)=false:=by decide
 have qs:decide (w_open=w_shut)=false:=by decide
 have qo:decide (w_open=w_open)=true:=by decide
 have qr:decide (w_open=w_source)=false:=by decide
 obtain⟨a0,rfl⟩:=AI.len sl
 refine boR ([(4,[]),(8,[])]) Tryz.func114 rfl rfl ?_
 by_cases lk:l.length=1
 case neg=>
  have he:editR ⟨N,P,V,src,D,Q,cnt⟩ w_open l=none:=by
   rw[editR]
   repeat rw[if_neg (by decide)]
   first|rw[if_pos rfl]|rw[if_pos (by decide)]
   rw[if_neg (fun hh=>lk hh.1)]
  have nl:((l.length:Int)==1)=false:=by rw[beq_eq_false_iff_ne];omega
  simp only[go_sem,conV,toList_eq,qp,qv,qs,qo,qr,o0,o0v,nl]
  exact no _ he
 case pos=>
  obtain⟨idl,offl,kl,hvl,_,hkl,_,hdl,_,_,_,hat⟩:=AI.at sl (by omega)
  obtain rfl:a0=some ⟨idl,offl,none⟩:=by simpa using hvl
  have p0:=hat 0 (by omega)
  rw[gl_at] at p0
  simp only[add_zero] at p0
  simp only[go_sem,conV,toList_eq,qp,qv,qs,qo,qr,o0,o0v,hkl,hdl,p0,lk]
  refine (c_sTurnValveF _ wV N P V (gl l 0) false (hv.mono (by simp)) (sV.mono (by simp)) hP10 hV10).go ?_
  rintro _ _⟨⟨x,rfl,fx⟩,⟨t,rfl⟩⟩
  obtain⟨xa,xn,rfl⟩: ∃a m,x = .slice a m 0:=by rcases fx with⟨id,rfl,_⟩|⟨_,a,rfl⟩<;>exact⟨_,_,rfl⟩
  by_cases c:turnOk N P V (gl l 0) false
  ·have he:editR ⟨N,P,V,src,D,Q,cnt⟩ w_open l=some ⟨N,P,turnR N P V (gl l 0) false,src,D,Q,cnt⟩:=by
    rw[editR,if_neg (by decide),if_neg (by decide),if_pos (by decide),show decide (w_open=w_shut)=false from by decide,if_pos ⟨lk,c⟩]
   simp only[go_sem,decb c,o0,o0v]
   exact yes _ ⟨N,P,turnR N P V (gl l 0) false,src,D,Q,cnt⟩ wP _ he (.inl ⟨rfl,rfl⟩) (.inr ((FQs.w3 fx (by simp)).wide (by simp) (by simp)))
  ·have he:editR ⟨N,P,V,src,D,Q,cnt⟩ w_open l=none:=by
    rw[editR,if_neg (by decide),if_neg (by decide),if_pos (by decide),show decide (w_open=w_shut)=false from by decide,if_neg (fun hh=>c hh.2)]
   simp only[go_sem,dect c,o0,o0v]
   exact no _ he
set_option maxRecDepth 4000 in
theorem c_l28EditV{n:Nat}(C:Con)(wP wV vl:Value)(l:List Int)(sP:SB n 4 h wP (C.P.map pip))(sV:Sl h 4 wV (C.V.map vlv))(esP:EszC h 4 wP)(es:EszC h 4 wV)(g:conOk C)(sl:SI h vl l) :
  vCall [] Tryz.prog M 114 [conV C wP wV, .string w_valve,vl] h (fun r h'=>(∃E xP xV,r = .tuple #[conV E xP xV, .string (editT C w_valve l)]∧E=(editR C w_valve l).getD C∧Rw h.length h' wP xP (C.P.map pip) (E.P.map pip)∧Rw h.length h' wV xV (C.V.map vlv) (E.V.map vlv))∧h<+:h'):=by
 obtain⟨N,P,V,src,D,Q,cnt⟩:=C
 have hP10:P.length<=1048576:=le_trans g.1.1.2.2 (by decide)
 have hV10:V.length<=1048576:=le_trans g.1.2.1 (by decide)
 simp only at sP sV esP es
 have o0:oneC wP=true:=by obtain⟨a,e,_⟩:=sP.1;rw[e];rfl
 have o0v:oneC wV=true:=by obtain⟨a,e,_⟩:=sV;rw[e];rfl
 have hv:NA n h (.agg #[.int .i64 N,wP]) N P:=⟨wP,rfl,sP⟩
 have no: ∀(H:Heap),editR ⟨N,P,V,src,D,Q,cnt⟩ w_valve l=none->∃E xP xV,Value.tuple #[conV ⟨N,P,V,src,D,Q,cnt⟩ wP wV, .string w_no] = .tuple #[conV E xP xV, .string (editT ⟨N,P,V,src,D,Q,cnt⟩ w_valve l)]∧E=(editR ⟨N,P,V,src,D,Q,cnt⟩ w_valve l).getD ⟨N,P,V,src,D,Q,cnt⟩∧Rw h.length H wP xP (P.map pip) (E.P.map pip)∧Rw h.length H wV xV (V.map vlv) (E.V.map vlv):=fun H hn=>by
  rw[editT,hn]
  exact⟨_,_,_,rfl,rfl, .inl ⟨rfl,rfl⟩, .inl ⟨rfl,rfl⟩⟩
 have yes: ∀(H:Heap) (E:Con) (xP xV:Value),editR ⟨N,P,V,src,D,Q,cnt⟩ w_valve l=some E->Rw h.length H wP xP (P.map pip) (E.P.map pip)->Rw h.length H wV xV (V.map vlv) (E.V.map vlv)->∃E₁ yP yV,Value.tuple #[conV E xP xV, .string w_ok] = .tuple #[conV E₁ yP yV, .string (editT ⟨N,P,V,src,D,Q,cnt⟩ w_valve l)]∧E₁=(editR ⟨N,P,V,src,D,Q,cnt⟩ w_valve l).getD ⟨N,P,V,src,D,Q,cnt⟩∧Rw h.length H wP yP (P.map pip) (E₁.P.map pip)∧Rw h.length H wV yV (V.map vlv) (E₁.V.map vlv):=fun H E xP xV hn h1 h2=>by
  rw[editT,hn]
  exact⟨_,_,_,rfl,rfl,h1,h2⟩
 have qp:decide (w_valve=w_pipe)=false:=by decide
 have qv:decide (w_valve=w_valve)=true:=by decide
 have qs:decide (w_valve=w_shut)=false:=by decide
 have qo:decide (w_valve=w_open)=false:=by decide
 have qr:decide (w_valve=w_source)=false:=by decide
 obtain⟨a0,rfl⟩:=AI.len sl
 refine boR ([(4,[]),(8,[])]) Tryz.func114 rfl rfl ?_
 by_cases lk:l.length=3
 case neg=>
  have he:editR ⟨N,P,V,src,D,Q,cnt⟩ w_valve l=none:=by
   rw[editR]
   repeat rw[if_neg (by decide)]
   first|rw[if_pos rfl]|rw[if_pos (by decide)]
   rw[if_neg (fun hh=>lk hh.1)]
  have nl:((l.length:Int)==3)=false:=by rw[beq_eq_false_iff_ne];omega
  simp only[go_sem,conV,toList_eq,qp,qv,qs,qo,qr,o0,o0v,nl]
  exact no _ he
 case pos=>
  obtain⟨idl,offl,kl,hvl,_,hkl,_,hdl,_,_,_,hat⟩:=AI.at sl (by omega)
  obtain rfl:a0=some ⟨idl,offl,none⟩:=by simpa using hvl
  have p0:=hat 0 (by omega)
  rw[gl_at] at p0
  simp only[add_zero] at p0
  have p1:=hat 1 (by omega)
  have p2:=hat 2 (by omega)
  rw[gl_at] at p1 p2
  simp only[go_sem,conV,toList_eq,qp,qv,qs,qo,qr,o0,o0v,hkl,hdl,p0,p1,p2,lk]
  refine (c_l28Valve ⟨N,P,V,src,D,Q,cnt⟩ wP wV (vlvOf l) (sP.mono (by simp)) (sV.mono (by simp)) (es.mono (by simp)) g).go ?_
  rintro _ _⟨⟨E,xV,rfl,rfl,sx,sn⟩,⟨t,rfl⟩⟩
  by_cases c:valOk N P (insV V (vlvOf l))
  ·have he:editR ⟨N,P,V,src,D,Q,cnt⟩ w_valve l=some ⟨N,P,insV V (vlvOf l),src,D,Q,cnt⟩:=by
    rw[editR,if_neg (by decide),if_pos rfl,if_pos ⟨lk,c⟩]
   have sx:=sx c
   rw[if_pos c] at sx ⊢
   rw[if_pos c]
   have o1:=sx.one
   simp only[go_sem,conV,o0,o1]
   exact yes _ ⟨N,P,insV V (vlvOf l),src,D,Q,cnt⟩ wP _ he (.inl ⟨rfl,rfl⟩) (.inr ((FQs.w3 sx (by simp)).wide (by simp) (by simp)))
  ·have he:editR ⟨N,P,V,src,D,Q,cnt⟩ w_valve l=none:=by
    rw[editR,if_neg (by decide),if_pos rfl,if_neg (fun hh=>c hh.2)]
   obtain rfl:=sn c
   rw[if_neg c]
   rw[if_neg c]
   simp only[go_sem,conV,o0,o0v]
   exact no _ he
theorem c_l28EditX{n:Nat}(C:Con)(w:ByteArray)(wP wV vl:Value)(l:List Int)(sP:SB n 4 h wP (C.P.map pip))(sV:Sl h 4 wV (C.V.map vlv))(sl:SI h vl l)(hw: ¬isEdit w) :
  vCall [] Tryz.prog M 114 [conV C wP wV, .string w,vl] h (fun r h'=>(∃E xP xV,r = .tuple #[conV E xP xV, .string (editT C w l)]∧E=(editR C w l).getD C∧Rw h.length h' wP xP (C.P.map pip) (E.P.map pip)∧Rw h.length h' wV xV (C.V.map vlv) (E.V.map vlv))∧h<+:h'):=by
 obtain⟨N,P,V,src,D,Q,cnt⟩:=C
 simp only[isEdit,not_or] at hw
 obtain⟨ha,hb,hc,hd,he⟩:=hw
 have o0:oneC wP=true:=by obtain⟨a,e,_⟩:=sP.1;rw[e];rfl
 have o0v:oneC wV=true:=by obtain⟨a,e,_⟩:=sV;rw[e];rfl
 have e:editR ⟨N,P,V,src,D,Q,cnt⟩ w l=none:=by
  rw[editR,if_neg ha,if_neg hb,if_neg (fun hh=>hh.elim hc hd),if_neg he]
 obtain⟨a0,rfl⟩:=AI.len sl
 refine boR ([(4,[]),(8,[])]) Tryz.func114 rfl rfl ?_
 simp only[go_sem,conV,toList_eq,dect ha,dect hb,dect hc,dect hd,dect he,o0,o0v]
 rw[editT,e]
 exact⟨⟨N,P,V,src,D,Q,cnt⟩,wP,wV,rfl,rfl, .inl ⟨rfl,rfl⟩, .inl ⟨rfl,rfl⟩⟩
theorem c_l28Edit{n:Nat}(C:Con)(w:ByteArray)(wP wV vl:Value)(l:List Int)(sP:SB n 4 h wP (C.P.map pip))(sV:Sl h 4 wV (C.V.map vlv))(esP:EszC h 4 wP)(es:EszC h 4 wV)(g:conOk C)(sl:SI h vl l) :
  vCall [] Tryz.prog M 114 [conV C wP wV, .string w,vl] h (fun r h'=>(∃E xP xV,r = .tuple #[conV E xP xV, .string (editT C w l)]∧E=(editR C w l).getD C∧Rw h.length h' wP xP (C.P.map pip) (E.P.map pip)∧Rw h.length h' wV xV (C.V.map vlv) (E.V.map vlv))∧h<+:h'):=by
 by_cases hw:isEdit w
 ·rcases hw with rfl|rfl|rfl|rfl|rfl
  ·exact c_l28EditP C wP wV vl l sP sV esP es g sl
  ·exact c_l28EditV C wP wV vl l sP sV esP es g sl
  ·exact c_l28EditH C wP wV vl l sP sV esP es g sl
  ·exact c_l28EditO C wP wV vl l sP sV esP es g sl
  ·exact c_l28EditS C wP wV vl l sP sV esP es g sl
 ·exact c_l28EditX C w wP wV vl l sP sV sl hw
end
open Go.HH Go.Proofs
def wds(s:ByteArray):List BL:=splitL (bl s) 32
def wd0(s:ByteArray):ByteArray:=mkB ((wds s).headD [])
noncomputable def runC(C:Con)(s:ByteArray):Con:=if numsOk (wds s).tail∧isEdit (wd0 s) then (editR C (wd0 s) (numsL (wds s).tail)).getD C else C
noncomputable def runT(C:Con)(s:ByteArray):ByteArray:=if numsOk (wds s).tail then (if isEdit (wd0 s) then editT C (wd0 s) (numsL (wds s).tail) else askT C (wd0 s) (numsL (wds s).tail)) else w_no
theorem spW_le(b:UInt8): ∀(l:BL) (A:List BL) (c:BL) (K:Nat),(∀w∈A,w.length<=K)->c.length<=K->(∀w∈(l.foldl (spl b) (A,c)).1,w.length<=K+l.length)∧(l.foldl (spl b) (A,c)).2.length<=K+l.length
 | [],A,c,K,hA,hc=>⟨fun w hw=>by have:=hA w hw;simpa using this,by simpa using hc⟩
 | x::r,A,c,K,hA,hc=>by
  rw[foldl_cons,length_cons]
  by_cases hx:x=b
  ·rw[show spl b (A,c) x=(A++ [c],[]) by rw[spl,if_pos hx]]
   have:=spW_le b r (A++ [c]) [] (K+1) (fun w hw=>by
    rcases mem_append.1 hw with h|h
    ·have:=hA w h;omega
    ·rw[mem_singleton.1 h];omega) (by simp)
   rwa [show K+1+r.length=K+(r.length+1) by omega] at this
  ·rw[show spl b (A,c) x=(A,c++ [x]) by rw[spl,if_neg hx]]
   have:=spW_le b r A (c++ [x]) (K+1) (fun w hw=>by have:=hA w hw;omega) (by rw[length_append,length_singleton];omega)
   rwa [show K+1+r.length=K+(r.length+1) by omega] at this
theorem wds_le{s:ByteArray}{w:BL}(hw:w∈wds s):(mkB w).size<=s.size:=by
 obtain⟨h1,h2⟩:=spW_le 32 (bl s) [] [] 0 (fun w hw=>by cases hw) (le_refl 0)
 rw[zero_add] at h1 h2
 have hl:(bl s).length=s.size:=by simp[bl]
 have hw':w.length<=(bl s).length:=by
  rcases mem_append.1 hw with h|h
  ·exact h1 w h
  ·rw[mem_singleton.1 h];exact h2
 have:(mkB w).size=w.length:=size_toArray
 omega
theorem wds_len(s:ByteArray):1<=(wds s).length∧(wds s).length<=s.size+1:=by
 have hl:(bl s).length=s.size:=by simp[bl]
 have hc:(bl s).count 32<=(bl s).length:=List.count_le_length
 rw[wds,splitL_eq 32 _ (bl s) rfl,sbL_len]
 omega
theorem wds_cons(s:ByteArray): ∃w r,wds s=w::r:=by
 have:=(wds_len s).1
 cases h:wds s with
 | nil=>rw[h] at this;simp at this
 | cons w r=>exact⟨w,r,rfl⟩
theorem FQs.v2r{h t u:Heap}{a b a' b':Blk}{lo hi:Nat}{v:Value}{rows:List (List Value)}(s:FQs lo hi 4 (h++a::b::t++u) v rows)(hl:(h++a::b::t).length<=lo):FQs lo hi 4 (h++a'::b'::(t++u)) v rows:=by
 have s':FQs lo hi 4 (h++(a::b::t)++u) v rows:=by simpa using s
 have:=s'.swapped (y:=a'::b'::t) (by simpa using hl) rfl (le_refl _) (le_refl _)
 simpa using this
theorem Rw.mv{h t t2 t3:Heap}{a b a' b':Blk}{lo:Nat}{w x:Value}{r0 r:List (List Value)}(s:Rw lo (h++a::b::(t++t2)++t3) w x r0 r)(hl:(h++a::b::(t++t2)).length<=lo):Rw h.length (h++a'::b'::(t++(t2++t3))) w x r0 r:=by
 rcases s with s|s
 ·exact .inl s
 ·refine .inr ?_
  have:=s.v2r (a':=a') (b':=b') hl
  rw[append_assoc t t2 t3] at this
  refine this.wide ?_ ?_
  ·simp at hl;omega
  ·simp
section
variable {h:Heap} {M:Nat->Prop}
theorem wds_tail{id:Nat}{s:ByteArray}(hg:hget h id=some ⟨strsV (wds s),1, .rw⟩):Sl h 1 (.slice (some ⟨id,1,none⟩) ((wds s).length-1) 0) ((wds s).tail.map strR):=by
 obtain⟨w,r,e⟩:=wds_cons s
 rw[e] at hg ⊢
 refine⟨some ⟨id,1,none⟩,by simp,fun q hq => ?_,fun _=>⟨id,1,_,rfl,hg,by simp, ?_, ?_⟩⟩
 ·obtain⟨x,_,rfl⟩:=mem_map.1 hq;rfl
 ·simp[strsV];omega
 ·have hfl: ∀r:List BL,(r.map strR).flatten=strsV r:=fun r=>by
   induction r with
   | nil=>rfl
   | cons x r ih=>rw[map_cons,flatten_cons,ih];rfl
  simp only[List.tail_cons,length_map,Nat.mul_one]
  rw[hfl,strsV,map_cons,List.drop_succ_cons,drop_zero,take_of_length_le (by simp)]
  rfl
set_option maxRecDepth 4000 in
theorem c_l28Run{n:Nat}(C:Con)(s:ByteArray)(wP wV:Value)(sP:SB n 4 h wP (C.P.map pip))(sV:Sl h 4 wV (C.V.map vlv))(esP:EszC h 4 wP)(es:EszC h 4 wV)(g:conOk C)(hs:s.size<=10000) :
  vCall [] Tryz.prog M 61 [conV C wP wV, .string s] h (fun r h'=>(∃E xP xV,r = .tuple #[conV E xP xV, .string (runT C s)]∧E=runC C s∧Rw h.length h' wP xP (C.P.map pip) (E.P.map pip)∧Rw h.length h' wV xV (C.V.map vlv) (E.V.map vlv))∧h<+:h'):=by
 obtain⟨w,r,ew⟩:=wds_cons s
 have hwl:=wds_len s
 have o0:oneC wP=true:=by obtain⟨a,e,_⟩:=sP.1;rw[e];rfl
 have o0v:oneC wV=true:=by obtain⟨a,e,_⟩:=sV;rw[e];rfl
 obtain⟨N,P,V,src,D,Q,cnt⟩:=C
 simp only at sP sV esP es
 refine bo Tryz.func61 rfl rfl ?_
 simp only[go_sem,conV,o0,o0v]
 refine (c_l1Split s 32 (by omega)).go ?_
 rintro _ _⟨t,j,rfl,rfl,hj⟩
 have hj':t[j]? = some ⟨strsV (wds s),1, .rw⟩:=hj
 have ewl:(splitL (bl s) 32).length=(wds s).length:=rfl
 have hwp:0<(wds s).length:=hwl.1
 have hG0: ∀a b:Blk,hget (h++a::b::t) (h.length+2+j)=some ⟨strsV (wds s),1, .rw⟩:=fun a b=>by
  rw[show h.length+2+j=h.length+(j+1+1) by omega,hget_app]
  exact hj'
 have hG1: ∀(a b:Blk) (u:Heap),hget (h++a::b::(t++u)) (h.length+2+j)=some ⟨strsV (wds s),1, .rw⟩:=fun a b u=>by
  rw[show h.length+2+j=h.length+(j+1+1) by omega,hget_app]
  simp only[getElem?_cons_succ]
  rw[getElem?_append_left (List.getElem?_eq_some_iff.1 hj').1]
  exact hj'
 have hsz: ∀x∈(wds s).tail,(mkB x).size<=10000000:=fun x hx=>le_trans (wds_le (List.mem_of_mem_tail hx)) (by omega)
 have hlt:(wds s).tail.length<=1048576:=by rw[List.length_tail];omega
 simp only[go_sem,ewl,o0,o0v,onSl_more hwp,hG0,hwl.1,strsV_len,show (1:Int)<=(wds s).length by omega]
 refine (c_l28Numbers _ (wds s).tail (wds_tail (hG0 _ _)) hsz hlt).go ?_
 rintro _ _⟨⟨x,rfl,sx⟩,⟨t2,rfl⟩⟩
 by_cases c:numsOk (wds s).tail
 case neg=>
  simp only[go_sem,dect c,o0,o0v]
  exact⟨⟨N,P,V,src,D,Q,cnt⟩,wP,wV,by rw[runT,if_neg c],by rw[runC,if_neg (fun hh=>c hh.1)], .inl ⟨rfl,rfl⟩, .inl ⟨rfl,rfl⟩⟩
 have sx:=sx c
 have g0:(strsV (wds s))[0]? = some (.string (wd0 s)):=by
  rw[wd0,ew];rfl
 have z0:(0:Int)<(wds s).length:=by omega
 have z1:(0:Int)<(splitL (bl s) 32).length:=z0
 by_cases hw:isEdit (wd0 s)
 ·have er:runT ⟨N,P,V,src,D,Q,cnt⟩ s=editT ⟨N,P,V,src,D,Q,cnt⟩ (wd0 s) (numsL (wds s).tail):=by rw[runT,if_pos c,if_pos hw]
  have ec:runC ⟨N,P,V,src,D,Q,cnt⟩ s=(editR ⟨N,P,V,src,D,Q,cnt⟩ (wd0 s) (numsL (wds s).tail)).getD ⟨N,P,V,src,D,Q,cnt⟩:=by rw[runC,if_pos ⟨c,hw⟩]
  rw[er,ec]
  rcases id hw with hq|hq|hq|hq|hq
  ·simp only[go_sem,decb hq,decb c,hG1,g0,z0,z1,toList_eq,o0,o0v]
   refine (c_l28Edit ⟨N,P,V,src,D,Q,cnt⟩ (wd0 s) wP wV x _ (sP.mono (by simp)) (sV.mono (by simp)) (esP.mono (by simp)) (es.mono (by simp)) g (by simpa using sx)).go ?_
   rintro _ _⟨⟨E,xP,xV,rfl,rfl,s1,s2⟩,⟨t3,rfl⟩⟩
   have o1:=s1.one o0
   have o2:=s2.one o0v
   simp only[go_sem,conV,o1,o2]
   exact⟨_,xP,xV,rfl,rfl,s1.mv (le_refl _),s2.mv (le_refl _)⟩
  ·have n0: ¬wd0 s=w_pipe:=by rw[hq];decide
   simp only[go_sem,dect n0,decb hq,decb c,hG1,g0,z0,z1,toList_eq,o0,o0v]
   refine (c_l28Edit ⟨N,P,V,src,D,Q,cnt⟩ (wd0 s) wP wV x _ (sP.mono (by simp)) (sV.mono (by simp)) (esP.mono (by simp)) (es.mono (by simp)) g (by simpa using sx)).go ?_
   rintro _ _⟨⟨E,xP,xV,rfl,rfl,s1,s2⟩,⟨t3,rfl⟩⟩
   have o1:=s1.one o0
   have o2:=s2.one o0v
   simp only[go_sem,conV,o1,o2]
   exact⟨_,xP,xV,rfl,rfl,s1.mv (le_refl _),s2.mv (le_refl _)⟩
  ·have n0: ¬wd0 s=w_pipe:=by rw[hq];decide
   have n1: ¬wd0 s=w_valve:=by rw[hq];decide
   simp only[go_sem,dect n0,dect n1,decb hq,decb c,hG1,g0,z0,z1,toList_eq,o0,o0v]
   refine (c_l28Edit ⟨N,P,V,src,D,Q,cnt⟩ (wd0 s) wP wV x _ (sP.mono (by simp)) (sV.mono (by simp)) (esP.mono (by simp)) (es.mono (by simp)) g (by simpa using sx)).go ?_
   rintro _ _⟨⟨E,xP,xV,rfl,rfl,s1,s2⟩,⟨t3,rfl⟩⟩
   have o1:=s1.one o0
   have o2:=s2.one o0v
   simp only[go_sem,conV,o1,o2]
   exact⟨_,xP,xV,rfl,rfl,s1.mv (le_refl _),s2.mv (le_refl _)⟩
  ·have n0: ¬wd0 s=w_pipe:=by rw[hq];decide
   have n1: ¬wd0 s=w_valve:=by rw[hq];decide
   have n2: ¬wd0 s=w_shut:=by rw[hq];decide
   simp only[go_sem,dect n0,dect n1,dect n2,decb hq,decb c,hG1,g0,z0,z1,toList_eq,o0,o0v]
   refine (c_l28Edit ⟨N,P,V,src,D,Q,cnt⟩ (wd0 s) wP wV x _ (sP.mono (by simp)) (sV.mono (by simp)) (esP.mono (by simp)) (es.mono (by simp)) g (by simpa using sx)).go ?_
   rintro _ _⟨⟨E,xP,xV,rfl,rfl,s1,s2⟩,⟨t3,rfl⟩⟩
   have o1:=s1.one o0
   have o2:=s2.one o0v
   simp only[go_sem,conV,o1,o2]
   exact⟨_,xP,xV,rfl,rfl,s1.mv (le_refl _),s2.mv (le_refl _)⟩
  ·have n0: ¬wd0 s=w_pipe:=by rw[hq];decide
   have n1: ¬wd0 s=w_valve:=by rw[hq];decide
   have n2: ¬wd0 s=w_shut:=by rw[hq];decide
   have n3: ¬wd0 s=w_open:=by rw[hq];decide
   simp only[go_sem,dect n0,dect n1,dect n2,dect n3,decb hq,decb c,hG1,g0,z0,z1,toList_eq,o0,o0v]
   refine (c_l28Edit ⟨N,P,V,src,D,Q,cnt⟩ (wd0 s) wP wV x _ (sP.mono (by simp)) (sV.mono (by simp)) (esP.mono (by simp)) (es.mono (by simp)) g (by simpa using sx)).go ?_
   rintro _ _⟨⟨E,xP,xV,rfl,rfl,s1,s2⟩,⟨t3,rfl⟩⟩
   have o1:=s1.one o0
   have o2:=s2.one o0v
   simp only[go_sem,conV,o1,o2]
   exact⟨_,xP,xV,rfl,rfl,s1.mv (le_refl _),s2.mv (le_refl _)⟩
 ·have er:runT ⟨N,P,V,src,D,Q,cnt⟩ s=askT ⟨N,P,V,src,D,Q,cnt⟩ (wd0 s) (numsL (wds s).tail):=by rw[runT,if_pos c,if_neg hw]
  have ec:runC ⟨N,P,V,src,D,Q,cnt⟩ s=⟨N,P,V,src,D,Q,cnt⟩:=by rw[runC,if_neg (fun hh=>hw hh.2)]
  rw[er,ec]
  simp only[isEdit,not_or] at hw
  obtain⟨n0,n1,n2,n3,n4⟩:=hw
  simp only[go_sem,dect n0,dect n1,dect n2,dect n3,dect n4,decb c,hG1,g0,z0,z1,toList_eq,o0,o0v]
  refine (c_l28Ask ⟨N,P,V,src,D,Q,cnt⟩ (wd0 s) wP wV x _ (sP.mono (by simp)) (sV.mono (by simp)) (esP.mono (by simp)) g (by simpa using sx)).go ?_
  rintro _ _⟨rfl,⟨t3,rfl⟩⟩
  simp only[go_sem,o0,o0v]
  exact⟨⟨N,P,V,src,D,Q,cnt⟩,wP,wV,rfl,rfl, .inl ⟨rfl,rfl⟩, .inl ⟨rfl,rfl⟩⟩
end
open Go.HH Go.Proofs
noncomputable def appL(D P:ByteArray)(n:Int)(c r:ByteArray):ByteArray×ByteArray×Int:=
 if (logOk (bl D) (bl P) n∧recOk c r=true)∧n≠60 then (D,P++mkB (lineL n.toNat (bl c) (bl r)++ [10]),n+1) else (D,P,n)
noncomputable def appK(D P:ByteArray)(n:Int)(c r:ByteArray):Int:=if logOk (bl D) (bl P) n∧recOk c r=true then (if n=60 then 2 else 0) else 1
theorem appV_eq{D P:ByteArray}{n:Int}{c r:ByteArray}:appV D P n c r = .tuple #[.agg #[.string (appL D P n c r).1, .string (appL D P n c r).2.1, .int .i64 (appL D P n c r).2.2], .int .i64 (appK D P n c r)]:=by
 unfold appV appL appK
 by_cases h:logOk (bl D) (bl P) n∧recOk c r=true
 ·by_cases h2:n=60
  ·rw[if_pos h,if_pos h2,if_neg (fun hh=>hh.2 h2),if_pos h,if_pos h2]
  ·rw[if_pos h,if_neg h2,if_pos ⟨h,h2⟩,if_pos h,if_neg h2]
 ·rw[if_neg h,if_neg (fun hh=>h hh.1),if_neg h]
abbrev w_nono:ByteArray:=⟨#[110,111]⟩
abbrev w_bad:ByteArray:=⟨#[98,97,100]⟩
abbrev w_full:ByteArray:=⟨#[102,117,108,108]⟩
abbrev w_long:ByteArray:=⟨#[108,111,110,103]⟩
noncomputable def repT(C:Con)(s:ByteArray):ByteArray:=if 200<(runT C s).size then w_long else runT C s
noncomputable def execC(C:Con)(s:ByteArray):Con:=
 if conOk C∧recOk s ⟨#[]⟩=true∧C.cnt≠60 then {runC C s with D:=(appL C.D C.Q C.cnt s (repT C s)).1,Q:=(appL C.D C.Q C.cnt s (repT C s)).2.1,cnt:=(appL C.D C.Q C.cnt s (repT C s)).2.2} else C
noncomputable def execT(C:Con)(s:ByteArray):ByteArray:=
 if conOk C then (if recOk s ⟨#[]⟩=true then (if C.cnt=60 then w_full else repT C s) else w_bad) else w_nono
theorem insP_len{P:List Pip}{p:Pip}:(insP P p).length=P.length+1:=insAt_len insP_k
theorem editR_small{C E:Con}{w:ByteArray}{l:List Int}(g:conOk C)(h:editR C w l=some E):E.P.length<=11∧E.V.length<=11:=by
 have h1:=g.1.1.2.2
 have h2:=g.1.2.1
 unfold editR at h
 split at h
 ·split at h
  ·cases h
   exact⟨by rw[insP_len];omega,by simp only;omega⟩
  ·cases h
 ·split at h
  ·split at h
   ·cases h
    refine⟨by simp only;omega, ?_⟩
    simp only
    rw[insV,insAt_len insV_k];omega
   ·cases h
  ·split at h
   ·split at h
    ·rename_i ht
     cases h
     refine⟨by simp only;omega, ?_⟩
     simp only
     rw[turnR,if_pos ht.2,turnV_len];omega
    ·cases h
   ·split at h
    ·split at h
     ·cases h
      exact⟨by simp only;omega,by simp only;omega⟩
     ·cases h
    ·cases h
theorem runC_small{C:Con}{s:ByteArray}(g:conOk C):(runC C s).P.length<=11∧(runC C s).V.length<=11:=by
 have h1:=g.1.1.2.2
 have h2:=g.1.2.1
 unfold runC
 split
 ·cases h:editR C (wd0 s) (numsL (wds s).tail) with
  | none=>exact⟨by simp only[Option.getD_none];omega,by simp only[Option.getD_none];omega⟩
  | some E=>exact editR_small g h
 ·exact⟨by omega,by omega⟩
theorem ConQ.v2{h t u:Heap}{a b a' b':Blk}{hi hi':Nat}{c:Con}{wP wV:Value}(s:ConQ (h++ [a,b]).length hi (h++ [a,b]++t) c wP wV)(h2:hi<=hi'):ConQ h.length hi' (h++a'::b'::(t++u)) c wP wV:=by
 have:=(s.swapped (y:= [a',b']) rfl h2).mono (prefix_append _ u)
 simpa using this
theorem ConQ.esz{lo hi:Nat}{h:Heap}{c:Con}{wP wV:Value}(s:ConQ lo hi h c wP wV):EszC h 4 wP∧EszC h 4 wV:=by
 obtain⟨_,_,_,_,_,p,v⟩:=s.p
 exact⟨p.eszQ,v.eszQ⟩
theorem Rw.sl{lo:Nat}{H:Heap}{w x:Value}{r0 r:List (List Value)}(s:Rw lo H w x r0 r)(b:Sl H 4 w r0):Sl H 4 x r:=by
 rcases s with⟨rfl,rfl⟩|s
 ·exact b
 ·exact s.sl
theorem FQs.v6{h t t2 t3 t4 t5 u:Heap}{a b c d a' b' c' d':Blk}{lo hi:Nat}{v:Value}{rows:List (List Value)}(s:FQs lo hi 4 (h++a::b::(t++c::(t2++(t3++(t4++ [d]))))++t5) v rows)(hl:(h++a::b::(t++c::(t2++(t3++(t4++ [d]))))).length<=lo) :
  FQs lo hi 4 (h++a'::b'::(t++c'::(t2++(t3++(t4++d'::(t5++u)))))) v rows:=by
 have s':FQs lo hi 4 (h++(a::b::(t++c::(t2++(t3++(t4++ [d])))))++t5) v rows:=s
 have:=(s'.swapped (y:=a'::b'::(t++c'::(t2++(t3++(t4++ [d']))))) (by simpa using hl) (by simp) (le_refl _) (le_refl _)).mono (prefix_append _ u)
 simpa using this
theorem ConQ.v6{h t t2 t3 t4 t5 u:Heap}{a b c d a' b' c' d':Blk}{hi:Nat}{C E:Con}{wP wV:Value}(s:ConQ (h++a::b::(t++c::(t2++(t3++(t4++ [d]))))).length hi (h++a::b::(t++c::(t2++(t3++(t4++ [d]))))++t5) C wP wV)(eP:E.P=C.P)(eV:E.V=C.V){hi':Nat}(h2:hi<=hi') :
  ConQ h.length hi' (h++a'::b'::(t++c'::(t2++(t3++(t4++d'::(t5++u)))))) E wP wV:=by
 obtain⟨p,q,x,y,hh,f1,f2⟩:=s.p
 refine⟨p,q,x,y, ?_,by rw[eP];exact f1.v6 hh.1,by rw[eV];exact f2.v6 hh.2.2.1⟩
 have:h.length<=(h++a::b::(t++c::(t2++(t3++(t4++ [d]))))).length:=by simp
 omega
section
variable {h:Heap} {M:Nat->Prop}
set_option maxRecDepth 4000 in
theorem c_sExecuteCommand{n:Nat}(C:Con)(s:ByteArray)(wP wV:Value)(sc:ConS n h C wP wV)(hc:conSmall C)(hs:s.size<=9223372036854775806) :
  vCall [] Tryz.prog M 19 [conV C wP wV, .string s] h (fun r h'=>(∃E xP xV,r = .tuple #[conV E xP xV, .string (execT C s)]∧E=execC C s∧ConQ h.length h'.length h' E xP xV)∧h<+:h'):=by
 obtain⟨N,P,V,src,D,Q,cnt⟩:=C
 have sP:=sc.p
 have sV:=sc.v
 have o0:oneC wP=true:=by obtain⟨a,e,_⟩:=sP.1;rw[e];rfl
 have o0v:oneC wV=true:=by obtain⟨a,e,_⟩:=sV.1;rw[e];rfl
 refine bo Tryz.func19 rfl rfl ?_
 simp only[go_sem,conV,o0,o0v]
 refine (c_l28Own ⟨N,P,V,src,D,Q,cnt⟩ wP wV (sP.1.mono (by simp)) (sV.1.mono (by simp)) hc.1 hc.2.1).go ?_
 rintro _ _⟨⟨yP,yV,rfl,q0⟩,⟨t,rfl⟩⟩
 obtain⟨o1,o2⟩:=q0.one
 simp only[go_sem,conV,o0,o0v,o1,o2]
 refine (c_l28Good ⟨N,P,V,src,D,Q,cnt⟩ wP wV (sc.mono (by simp)) hc).go ?_
 rintro _ _⟨rfl,⟨t2,rfl⟩⟩
 by_cases g:conOk ⟨N,P,V,src,D,Q,cnt⟩
 case neg=>
  simp only[go_sem,dect g,o1,o2]
  refine⟨⟨N,P,V,src,D,Q,cnt⟩,yP,yV,by rw[execT,if_neg g],by rw[execC,if_neg (fun hh=>g hh.1)],q0.v2 ?_⟩
  all_goals (simp;try omega)
 simp only[go_sem,decb g,o1,o2]
 refine (c_l27Good s ⟨#[]⟩ hs (by decide)).go ?_
 rintro _ _⟨rfl,⟨t3,rfl⟩⟩
 cases g2:recOk s ⟨#[]⟩
 case false=>
  have g2': ¬recOk s ⟨#[]⟩=true:=by rw[g2];decide
  simp only[go_sem,g2,o1,o2]
  refine⟨⟨N,P,V,src,D,Q,cnt⟩,yP,yV,by rw[execT,if_pos g,if_neg g2'],by rw[execC,if_neg (fun hh=>g2' hh.2.1)], ?_⟩
  refine q0.v2 ?_
  all_goals (simp;try omega)
 have hs2:s.size<=10000:=by
  rw[recOk] at g2
  simp only[Bool.and_eq_true,decide_eq_true_eq] at g2
  omega
 simp only[go_sem,g2,o1,o2]
 by_cases g3:cnt=60
 case pos=>
  simp only[go_sem,show (cnt==60)=true by rw[g3];rfl,o1,o2]
  refine⟨⟨N,P,V,src,D,Q,cnt⟩,yP,yV,by rw[execT,if_pos g,if_pos g2,if_pos g3],by rw[execC,if_neg (fun hh=>hh.2.2 g3)], ?_⟩
  refine q0.v2 ?_
  all_goals (simp;try omega)
 simp only[go_sem,show (cnt==60)=false by rw[beq_eq_false_iff_ne];exact g3,o1,o2]
 refine (c_l28Run ⟨N,P,V,src,D,Q,cnt⟩ s yP yV (q0.s.p.mono (by simp)) (q0.s.v.1.mono (by simp)) (q0.esz.1.mono (by simp)) (q0.esz.2.mono (by simp)) g hs2).go ?_
 rintro _ _⟨⟨E,xP,xV,rfl,rfl,s1,s2⟩,⟨t4,rfl⟩⟩
 have k1:=s1.sl (q0.s.p.1.mono (by simp))
 have k2:=s2.sl (q0.s.v.1.mono (by simp))
 have u1:=s1.one o1
 have u2:=s2.one o2
 have sm:=runC_small (s:=s) g
 simp only[go_sem,conV,u1,u2]
 refine (c_l28Own (runC ⟨N,P,V,src,D,Q,cnt⟩ s) xP xV (k1.mono (by simp)) (k2.mono (by simp)) (le_trans sm.1 (by decide)) (le_trans sm.2 (by decide))).go ?_
 rintro _ _⟨⟨zP,zV,rfl,q2⟩,⟨t5,rfl⟩⟩
 obtain⟨v1,v2⟩:=q2.one
 have er:execT ⟨N,P,V,src,D,Q,cnt⟩ s=repT ⟨N,P,V,src,D,Q,cnt⟩ s:=by rw[execT,if_pos g,if_pos g2,if_neg g3]
 have ec:execC ⟨N,P,V,src,D,Q,cnt⟩ s= {runC ⟨N,P,V,src,D,Q,cnt⟩ s with D:=(appL D Q cnt s (repT ⟨N,P,V,src,D,Q,cnt⟩ s)).1,Q:=(appL D Q cnt s (repT ⟨N,P,V,src,D,Q,cnt⟩ s)).2.1,cnt:=(appL D Q cnt s (repT ⟨N,P,V,src,D,Q,cnt⟩ s)).2.2}:=by rw[execC,if_pos ⟨g,g2,g3⟩]
 rw[er,ec]
 by_cases g4:200<(runT ⟨N,P,V,src,D,Q,cnt⟩ s).size
 ·have e4:repT ⟨N,P,V,src,D,Q,cnt⟩ s=w_long:=by rw[repT,if_pos g4]
  rw[e4]
  simp only[go_sem,conV,v1,v2,show (200:Int)<((runT ⟨N,P,V,src,D,Q,cnt⟩ s).size:Nat) by omega]
  refine (c_sAppendRecord D Q cnt s w_long (by have:=hc.2.2;simp only at this;omega) hs (by decide)).go ?_
  rintro _ _⟨rfl,⟨t6,rfl⟩⟩
  rw[appV_eq]
  generalize appL D Q cnt s w_long=L
  generalize appK D Q cnt s w_long=K
  obtain⟨D',Q',n'⟩:=L
  simp only[go_sem,conV,v1,v2]
  refine⟨_,zP,zV,rfl,rfl, ?_⟩
  refine q2.v6 (by rfl) (by rfl) ?_
  all_goals (simp;try omega)
 ·have e4:repT ⟨N,P,V,src,D,Q,cnt⟩ s=runT ⟨N,P,V,src,D,Q,cnt⟩ s:=by rw[repT,if_neg g4]
  rw[e4]
  simp only[go_sem,conV,v1,v2,show ¬(200:Int)<((runT ⟨N,P,V,src,D,Q,cnt⟩ s).size:Nat) by omega]
  refine (c_sAppendRecord D Q cnt s _ (by have:=hc.2.2;simp only at this;omega) hs (by omega)).go ?_
  rintro _ _⟨rfl,⟨t6,rfl⟩⟩
  rw[appV_eq]
  generalize appL D Q cnt s (runT ⟨N,P,V,src,D,Q,cnt⟩ s)=L
  generalize appK D Q cnt s (runT ⟨N,P,V,src,D,Q,cnt⟩ s)=K
  obtain⟨D',Q',n'⟩:=L
  simp only[go_sem,conV,v1,v2]
  refine⟨_,zP,zV,rfl,rfl, ?_⟩
  refine q2.v6 (by rfl) (by rfl) ?_
  all_goals (simp;try omega)
end
open Go.HH Go.Proofs
def linesL:Nat->List (BL×BL)->BL
 | _,[]=> []
 | k,e::r=>lineL k e.1 e.2++10::linesL (k+1) r
theorem open_lines: ∀(n k:Nat) (s:BL),linesL k (openL n k s)=s.take (endL k (openL n k s))∧∀e∈openL n k s,okL e.1 e.2=true
 | 0,_,s=>⟨by simp[openL,linesL,endL],fun e he=>by cases he⟩
 | n+1,k,s=>by
  by_cases h:10∈s
  ·cases g:readL k (cutA s 10) with
   | none=>rw[openL_none g];exact⟨by simp[linesL,endL],fun e he=>by cases he⟩
   | some e=>
    obtain⟨g1,g2⟩:=readL_some (c:=e.1) (r:=e.2) g
    obtain⟨i1,i2⟩:=open_lines n (k+1) (cutB s 10)
    rw[openL_some h g]
    refine⟨?_,fun x hx => ?_⟩
    ·rw[linesL,endL,i1]
     have hs:=(cut_mem h).1
     rw[g2] at hs
     obtain⟨T,hT⟩: ∃T,T=cutB s 10:=⟨_,rfl⟩
     rw[←hT] at hs ⊢
     obtain⟨q,hq⟩: ∃q,q=endL (k+1) (openL n (k+1) T):=⟨_,rfl⟩
     rw[←hq,hs]
     rw[show (lineL k e.1 e.2).length+1+q=(lineL k e.1 e.2).length+(q+1) by omega,List.take_length_add_append,List.take_succ_cons]
    ·rcases mem_cons.1 hx with rfl|hx
     ·exact g1
     ·exact i2 x hx
  ·rw[openL_no h];exact⟨by simp[linesL,endL],fun e he=>by cases he⟩
theorem lines_open: ∀(d:List (BL×BL)) (k n:Nat) (X:BL),(∀e∈d,okL e.1 e.2=true)->openL (d.length+n) k (linesL k d++X)=d++openL n (k+d.length) X
 | [],k,n,X,_=>by simp[linesL]
 | e::r,k,n,X,h=>by
  have g:=h e (by simp)
  have no:=lineL_no10 (k:=k) g
  have e1:linesL k (e::r)++X=lineL k e.1 e.2++10::(linesL (k+1) r++X):=by rw[linesL,append_assoc,cons_append]
  have c1:cutA (linesL k (e::r)++X) 10=lineL k e.1 e.2:=by rw[e1];exact cutA_hit no
  have c2:cutB (linesL k (e::r)++X) 10=linesL (k+1) r++X:=by rw[e1];exact cutB_hit no
  rw[length_cons,show r.length+1+n=(r.length+n)+1 by omega,openL_some (by rw[e1];simp) (by rw[c1];exact readL_line g),c2,lines_open r (k+1) n X fun x hx=>h x (mem_cons_of_mem _ hx)]
  rw[show k+1+r.length=k+(r.length+1) by omega];rfl
theorem openL_nil(n k:Nat):openL n k []= []:=openL_no (by simp)
theorem logOk_lines{S:BL}(h:endL 0 (openL 60 0 S)=S.length):linesL 0 (openL 60 0 S)=S:=by
 rw[(open_lines 60 0 S).1,h,take_length]
theorem logOk_app{D P c r:BL}{n:Nat}(g:logOk D P n)(hn:n<60)(hr:okL c r=true) :
  openL 60 0 (D ++ (P ++ (lineL n c r ++ [10]))) = openL 60 0 (D ++ P) ++ [(c, r)] ∧ logOk D (P ++ (lineL n c r ++ [10])) (n + 1 : Nat) := by
 obtain⟨d,hd⟩: ∃d,d=openL 60 0 (D++P):=⟨_,rfl⟩
 have g1:=g.1
 have g3:=g.2.2
 rw[←hd] at g1 g3
 have hl:d.length=n:=by omega
 have ok:=(open_lines 60 0 (D++P)).2
 have hS:=logOk_lines g.1
 rw[←hd] at ok hS
 have key:openL 60 0 (D++(P++(lineL n c r++ [10])))=d++ [(c,r)]:=by
  rw[←append_assoc, ←hS]
  have:=lines_open d 0 (60-n) (lineL n c r++ [10]) ok
  rw[hl,show n+(60-n)=60 by omega] at this
  rw[this]
  congr 1
  have no:=lineL_no10 (k:=n) hr
  rw[show 60-n=(59-n)+1 by omega,zero_add,openL_some (by simp) (by rw[cutA_hit no];exact readL_line hr),cutB_hit no,openL_nil]
 rw[←hd]
 refine⟨key, ?_,g.2.1, ?_⟩
 ·rw[key,endL_snoc,g1,hl]
  simp only[length_append,length_singleton,zero_add]
  omega
 ·rw[key,length_append,hl];rfl
theorem logOk_take(s:BL):openL 60 0 (s.take (endL 0 (openL 60 0 s)))=openL 60 0 s∧logOk (s.take (endL 0 (openL 60 0 s))) [] (openL 60 0 s).length:=by
 obtain⟨d,hd⟩: ∃d,d=openL 60 0 s:=⟨_,rfl⟩
 obtain⟨h1,h2⟩:=open_lines 60 0 s
 have h3:=openL_len 60 0 s
 have h4:=(endL_le 60 0 s (by omega)).2
 rw[←hd] at h1 h2 h3 h4 ⊢
 have key:openL 60 0 (s.take (endL 0 d))=d:=by
  rw[←h1]
  have:=lines_open d 0 (60-d.length) [] h2
  rw[append_nil,openL_nil,append_nil,show d.length+(60-d.length)=60 by omega] at this
  exact this
 have hl:(s.take (endL 0 d)).length=endL 0 d:=by rw[length_take];omega
 refine⟨key, ?_, ?_, ?_⟩
 ·rw[append_nil,key,hl]
 ·rw[key,hl]
 ·rw[append_nil,key]
open Go.HH Go.Proofs
theorem isEnd_iff{N:Int}{P:List Pip}(g:netGood N P){pid nd:Int}:isEnd P pid nd↔∃q∈P,q.1=pid∧(q.2.1=nd∨q.2.2.1=nd):=by
 constructor
 ·rintro⟨h0,h1⟩
  obtain⟨hk,hp⟩:=idxI_at (p:=fun q:Pip=>decide (q.1=pid)) (l:=P) (k:=(pidx P pid).toNat) (by unfold pidx at h0 ⊢;omega)
  rw[getDp hk] at h1
  exact⟨_,getElem_mem hk,of_decide_eq_true hp,h1⟩
 ·rintro⟨q,hq,rfl,h1⟩
  obtain⟨i,hi,rfl⟩:=mem_iff_getElem.1 hq
  have e:pidx P P[i].1=i:=idxI_is hi (decide_eq_true rfl) fun j hj hji=>decide_eq_false fun h=>by
   have:=g.asc i j hi hji
   omega
  unfold isEnd
  rw[e,Int.toNat_natCast,getDp hi]
  exact⟨by omega,h1⟩
theorem mem_insP{P:List Pip}{p q:Pip}(h:q∈P):q∈insP P p:=by
 rw[←take_append_drop (low (P.map fun q=>q.1) p.1) P] at h
 unfold insP insAt
 rcases mem_append.1 h with h|h
 ·exact mem_append_left _ h
 ·exact List.mem_append_right _ (mem_cons_of_mem _ h)
theorem val_pipe{N:Int}{P:List Pip}{V:List Vlv}{p:Pip}(g:valOk N P V)(g2:netGood N (insP P p)):valOk N (insP P p) V:=by
 refine⟨g2,g.2.1,fun i hi => ?_⟩
 obtain⟨⟨h1,h2,h3⟩,h4⟩:=g.2.2 i hi
 refine⟨⟨h1,h2, ?_⟩,h4⟩
 obtain⟨q,hq,h5⟩:=(isEnd_iff g.1).1 h3
 exact (isEnd_iff g2).2 ⟨q,mem_insP hq,h5⟩
theorem turn_same{V:List Vlv}{i:Nat}{sh:Bool}(j:Nat):((turnV V i sh).getD j vlv0).1=(V.getD j vlv0).1∧((turnV V i sh).getD j vlv0).2.1=(V.getD j vlv0).2.1∧((turnV V i sh).getD j vlv0).2.2.1=(V.getD j vlv0).2.2.1:=by
 unfold turnV
 by_cases h:i=j
 ·subst h
  by_cases hi:i<V.length
  ·simp[List.getD,hi]
  ·simp[List.getD,hi]
 ·simp[List.getD,getElem?_set_ne h]
theorem val_turn{N:Int}{P:List Pip}{V:List Vlv}{i:Nat}{sh:Bool}(g:valOk N P V):valOk N P (turnV V i sh):=by
 refine⟨g.1,by rw[turnV_len];exact g.2.1,fun j hj => ?_⟩
 rw[turnV_len] at hj
 have h:=g.2.2 j hj
 unfold vlvAt at h ⊢
 obtain⟨a1,a2,a3⟩:=turn_same (V:=V) (i:=i) (sh:=sh) j
 obtain⟨b1,_,_⟩:=turn_same (V:=V) (i:=i) (sh:=sh) (j-1)
 rw[a1,a2,a3,b1]
 refine⟨h.1,fun m hm => ?_⟩
 obtain⟨_,c2,c3⟩:=turn_same (V:=V) (i:=i) (sh:=sh) m
 rw[c2,c3]
 exact h.2 m hm
theorem editR_ok{C E:Con}{w:ByteArray}{l:List Int}(g:conOk C)(h:editR C w l=some E):conOk E:=by
 unfold editR at h
 split at h
 ·split at h
  ·rename_i h2
   cases h
   exact⟨val_pipe g.1 h2.2.2,g.2⟩
  ·cases h
 ·split at h
  ·split at h
   ·rename_i h2
    cases h
    exact⟨h2.2,g.2⟩
   ·cases h
  ·split at h
   ·split at h
    ·rename_i h2
     cases h
     refine⟨?_,g.2⟩
     simp only
     rw[turnR,if_pos h2.2]
     exact val_turn g.1
    ·cases h
   ·split at h
    ·split at h
     ·rename_i h2
      cases h
      exact⟨g.1,h2.2,g.2.2⟩
     ·cases h
    ·cases h
theorem runC_ok{C:Con}{s:ByteArray}(g:conOk C):conOk (runC C s):=by
 unfold runC
 split
 ·cases h:editR C (wd0 s) (numsL (wds s).tail) with
  | none=>exact g
  | some E=>exact editR_ok g h
 ·exact g
theorem okc_dec(n:Nat): ∀c∈Lib.decDigits n,okc c=true:=fun c hc=>by
 have:=dec_digit n c hc
 unfold okc
 exact decide_eq_true (by omega)
theorem plain_app{a b:ByteArray}:plainS (a++b)=(plainS a&&plainS b):=by unfold plainS;rw[bl_app,List.all_append]
theorem plain_join: ∀(n:Nat) (l:List Int),l.length=n->plainS (joinB (l.map nu) blank)=true
 | 0,l,h=>by rw[List.length_eq_zero_iff.1 h];rfl
 | n+1,l,h=>by
  have hx: ∀x,plainS (nu x)=true:=fun x=>all_eq_true.2 (okc_dec _)
  have e:=take_append_drop n l
  obtain⟨x,hd⟩: ∃x,l.drop n= [x]:=List.length_eq_one_iff.1 (by rw[length_drop];omega)
  rw[hd] at e
  have ih:=plain_join n (l.take n) (by rw[length_take];omega)
  generalize l.take n=r at e ih
  subst e
  cases r with
  | nil=>rw[nil_append,map_cons,List.map_nil,joinB_one];exact hx x
  | cons y r=>
   rw[map_append,map_cons,map_cons,List.map_nil,joinB_snoc,plain_app,plain_app,hx]
   rw[map_cons] at ih
   rw[ih];rfl
theorem runT_plain(C:Con)(s:ByteArray):plainS (runT C s)=true:=by
 unfold runT
 split
 ·split
  ·unfold editT;split<;>decide
  ·unfold askT
   split
   ·unfold listS
    split
    ·decide
    ·exact plain_join _ _ rfl
   ·decide
 ·decide
theorem repT_plain(C:Con)(s:ByteArray):plainS (repT C s)=true∧(repT C s).size<=200:=by
 unfold repT
 split
 ·exact⟨by decide,by decide⟩
 ·exact⟨runT_plain C s,by omega⟩
theorem repT_rec{C:Con}{s:ByteArray}(h:recOk s ⟨#[]⟩=true):recOk s (repT C s)=true:=by
 obtain⟨h1,h2⟩:=repT_plain C s
 unfold recOk at h ⊢
 simp only[Bool.and_eq_true,decide_eq_true_eq] at h ⊢
 exact⟨⟨⟨by omega,h.1.1.2⟩,h1⟩,h.2⟩
def took(C:Con)(s:ByteArray):Prop:=conOk C∧recOk s ⟨#[]⟩=true∧C.cnt≠60
theorem execC_no{C:Con}{s:ByteArray}(h: ¬took C s):execC C s=C∧(execT C s=w_nono∨execT C s=w_bad∨execT C s=w_full):=by
 unfold execC execT
 refine⟨if_neg h, ?_⟩
 split
 ·rename_i h1
  split
  ·rename_i h2
   rw[if_pos (Decidable.not_not.1 fun h3=>h ⟨h1,h2,h3⟩)]
   exact .inr (.inr rfl)
  ·exact .inr (.inl rfl)
 ·exact .inl rfl
theorem execC_yes{C:Con}{s:ByteArray}(h:took C s):execT C s=repT C s∧conOk (execC C s)∧(execC C s).D=C.D∧(execC C s).cnt=C.cnt+1∧(execC C s).Q≠C.Q ∧
  openL 60 0 (bl (execC C s).D ++ bl (execC C s).Q) = openL 60 0 (bl C.D ++ bl C.Q) ++ [(bl s, bl (repT C s))] := by
 obtain⟨h1,h2,h3⟩:=h
 have hr:=repT_rec (C:=C) h2
 have hl:=h1.2.2
 have hcn:=logOk_count hl
 obtain⟨i,hi⟩:=Int.eq_ofNat_of_zero_le hcn.1
 have hr':=hr
 rw[recOk_L] at hr'
 obtain⟨a1,a2⟩:=logOk_app (n:=i) (by rw[←hi];exact hl) (by omega) hr'
 have e:execC C s= {runC C s with D:=C.D,Q:=C.Q++mkB (lineL C.cnt.toNat (bl s) (bl (repT C s))++ [10]),cnt:=C.cnt+1}:=by
  unfold execC
  rw[if_pos ⟨h1,h2,h3⟩,appL,if_pos ⟨⟨hl,hr⟩,h3⟩]
 have eQ:bl (C.Q++mkB (lineL C.cnt.toNat (bl s) (bl (repT C s))++ [10]))=bl C.Q++(lineL i (bl s) (bl (repT C s))++ [10]):=by rw[bl_app,bl_mkB,hi,Int.toNat_natCast]
 have hk:=runC_ok (s:=s) h1
 rw[e]
 refine⟨?_,⟨hk.1,hk.2.1, ?_⟩,rfl,rfl,fun hh => ?_, ?_⟩
 ·unfold execT;rw[if_pos h1,if_pos h2,if_neg h3]
 ·simp only
  rw[eQ,hi];exact a2
 ·have:=congrArg bl hh
  simp only at this
  rw[eQ] at this
  have:=congrArg List.length this
  simp at this
 ·simp only
  rw[eQ];exact a1
theorem execC_ok{C:Con}{s:ByteArray}(g:conOk C):conOk (execC C s):=by
 by_cases h:took C s
 ·exact (execC_yes h).2.1
 ·rw[(execC_no h).1];exact g
open Go.HH Go.Proofs
theorem edit_needs{C:Con}{w:ByteArray}{l:List Int}(hn: ¬(l.length:Int)=needs w):editR C w l=none:=by
 unfold editR
 split
 ·rename_i h;subst h
  exact if_neg (fun hh=>hn (by rw[hh.1];decide))
 ·split
  ·rename_i h;subst h
   exact if_neg (fun hh=>hn (by rw[hh.1];decide))
  ·split
   ·rename_i h
    exact if_neg (fun hh=>hn (by rw[hh.1];rcases h with rfl|rfl<;>decide))
   ·split
    ·rename_i h;subst h
     exact if_neg (fun hh=>hn (by rw[hh.1];decide))
    ·rfl
theorem ask_needs{C:Con}{w:ByteArray}{l:List Int}(hn: ¬(l.length:Int)=needs w):askR C w l=none:=by
 unfold askR
 split
 ·rename_i h;subst h
  exact if_neg (fun hh=>hn (by rw[hh.1];decide))
 ·split
  ·rename_i h;subst h
   exact if_neg (fun hh=>hn (by rw[hh.1];decide))
  ·split
   ·rename_i h;subst h
    exact if_neg (fun hh=>hn (by rw[hh];decide))
   ·split
    ·rename_i h;subst h
     exact if_neg (fun hh=>hn (by rw[hh.1];decide))
    ·split
     ·rename_i h;subst h
      exact if_neg (fun hh=>hn (by rw[hh.1];decide))
     ·split
      ·rename_i h;subst h
       exact if_neg (fun hh=>hn (by rw[hh.1];decide))
      ·rfl
theorem needs_cmd{w:ByteArray}(h:0<=needs w)(hw: ¬isEdit w):isAsk w:=by
 unfold needs at h
 simp only[isEdit,not_or] at hw
 obtain⟨h0,h1,h2,h3,h4⟩:=hw
 unfold isAsk
 by_cases a:w=w_dry
 ·exact .inl a
 by_cases b:w=w_bridges
 ·exact .inr (.inl b)
 by_cases c:w=w_burst
 ·exact .inr (.inr (.inl c))
 by_cases d:w=w_segment
 ·exact .inr (.inr (.inr (.inl d)))
 by_cases e:w=w_around
 ·exact .inr (.inr (.inr (.inr (.inl e))))
 by_cases f:w=w_way
 ·exact .inr (.inr (.inr (.inr (.inr f))))
 simp only[a,b,c,d,e,f,h0,h1,h2,h3,h4,or_self,if_false] at h
 exact absurd h (by decide)
def ExR(lo:Nat)(H:Heap)(C:Con)(s:ByteArray)(wP wV:Value)(E:Con)(xP xV:Value)(T:ByteArray)(b:Bool):Prop:=
 (b=true->E=runC C s∧T=runT C s∧((xP=wP∧xV=wV∧E.P=C.P∧E.V=C.V)∨ConQ lo H.length H E xP xV))∧(b=false->runT C s=w_no∧runC C s=C)
theorem ExR.no{lo:Nat}{H:Heap}{C:Con}{s:ByteArray}{wP wV:Value}{E:Con}{xP xV:Value}{T:ByteArray}(h1:runT C s=w_no)(h2:runC C s=C):ExR lo H C s wP wV E xP xV T false:=
 ⟨fun h=>(by cases h),fun _=>⟨h1,h2⟩⟩
theorem ConQ.v2r{h u t2 t3 v:Heap}{a b a' b':Blk}{hi hi':Nat}{c:Con}{wP wV:Value}(s:ConQ (h++a::b::(u++t2)).length hi (h++a::b::(u++t2)++t3) c wP wV)(h2:hi<=hi'):ConQ h.length hi' (h++a'::b'::(u++(t2++(t3++v)))) c wP wV:=by
 obtain⟨p,q,x,y,hh,f1,f2⟩:=s.p
 have e:h++a'::b'::(u++t2++t3)++v=h++a'::b'::(u++(t2++(t3++v))):=by simp
 have m1:=(f1.v2r (a':=a') (b':=b') hh.1).mono (prefix_append _ v)
 have m2:=(f2.v2r (a':=a') (b':=b') hh.2.2.1).mono (prefix_append _ v)
 rw[e] at m1 m2
 refine⟨p,q,x,y, ?_,m1,m2⟩
 have:h.length<=(h++a::b::(u++t2)).length:=by simp
 omega
section
variable {G:List (Nat×Nat)} {h:Heap} {M:Nat->Prop}
set_option maxRecDepth 4000 in
theorem c_execute{n:Nat}(pw:PowAt G h)(er:ErrAt G h)(C:Con)(s:ByteArray)(wP wV:Value)(sP:SB n 4 h wP (C.P.map pip))(sV:Sl h 4 wV (C.V.map vlv))(es:EszC h 4 wV)(g:conOk C)(hs:s.size<=10000) :
  vCall G Tryz.prog M 56 [conV C wP wV, .string s] h (fun r h'=>(∃E xP xV T b,r = .tuple #[conV E xP xV, .string T, .bool b]∧(oneC xP=true∧oneC xV=true)∧ExR h.length h' C s wP wV E xP xV T b)∧h<+:h'):=by
 obtain⟨w,r,ew⟩:=wds_cons s
 have hwl:=wds_len s
 have o0:oneC wP=true:=by obtain⟨a,e,_⟩:=sP.1;rw[e];rfl
 have o0v:oneC wV=true:=by obtain⟨a,e,_⟩:=sV;rw[e];rfl
 obtain⟨N,P,V,src,D,Q,cnt⟩:=C
 simp only at sP sV es
 refine boR ([(22,[])]) Tryz.func56 rfl rfl ?_
 simp only[go_sem,conV,o0,o0v]
 refine ((c_SplitB 32 s (by omega)).addG).go ?_
 rintro _ _⟨t,j,rfl,rfl,hj⟩
 have hj':t[j]? = some ⟨strsV (wds s),1, .rw⟩:=hj
 have ewl:(splitL (bl s) 32).length=(wds s).length:=rfl
 have hwp:0<(wds s).length:=hwl.1
 have hG0: ∀a b:Blk,hget (h++a::b::t) (h.length+2+j)=some ⟨strsV (wds s),1, .rw⟩:=fun a b=>by
  rw[show h.length+2+j=h.length+(j+1+1) by omega,hget_app]
  exact hj'
 have hG1: ∀(a b:Blk) (u:Heap),hget (h++a::b::(t++u)) (h.length+2+j)=some ⟨strsV (wds s),1, .rw⟩:=fun a b u=>by
  rw[show h.length+2+j=h.length+(j+1+1) by omega,hget_app]
  simp only[getElem?_cons_succ]
  rw[getElem?_append_left (List.getElem?_eq_some_iff.1 hj').1]
  exact hj'
 have hsz: ∀x∈(wds s).tail,(mkB x).size<=10000000:=fun x hx=>le_trans (wds_le (List.mem_of_mem_tail hx)) (by omega)
 simp only[go_sem,ewl,o0,o0v,onSl_more hwp,hG0,hG1,hwl.1,strsV_len,show (1:Int)<=(wds s).length by omega]
 have hK:(wds s).length-1=(wds s).tail.length:=by rw[List.length_tail]
 have hK2:(wds s).length=(wds s).tail.length+1:=by omega
 have gw: ∀(i:Nat) (hi:i<(wds s).tail.length),(strsV (wds s))[1+i]? = some (.string (mkB (wds s).tail[i])):=fun i hi=>by
  rw[strsV,getElem?_map,Nat.add_comm 1 i,getElem?_eq_getElem (by omega),Option.map_some]
  simp only[List.getElem_tail]
 have g0:(strsV (wds s))[0]? = some (.string (wd0 s)):=by
  rw[wd0,ew];rfl
 have z0:(0:Int)<(wds s).length:=by omega
 have bad1: ∀(lo:Nat) (H:Heap) (E:Con) (xP xV:Value) (T:ByteArray),¬numsOk (wds s).tail->ExR lo H ⟨N,P,V,src,D,Q,cnt⟩ s wP wV E xP xV T false:=fun lo H E xP xV T hn=>
  .no (by rw[runT,if_neg hn]) (by rw[runC,if_neg (fun hh=>hn hh.1)])
 rw[hK]
 refine vLoopR.count mo (wds s).tail.length (fun i e h'=> ∃(u:Heap) (q:Nat),Regs e [(2, .pointer (some ⟨h.length,0,none⟩)),(4, .pointer (some ⟨h.length+1,0,none⟩)),(7, .slice (some ⟨h.length+2+j,0,none⟩) (wds s).length 0),(8, .slice (some ⟨h.length+(q+1+1),0,none⟩) i 0),(22, .slice (some ⟨h.length+2+j,1,none⟩) (wds s).tail.length 0),(23, .int .i64 (wds s).tail.length),(24, .int .i64 i)] ∧
  HeapIs h' (h++⟨[.int .i64 N,wP,wV, .int .i64 src, .string D, .string Q, .int .i64 cnt],7, .rw⟩::⟨[.int .i64 0, .slice none 0 0, .slice none 0 0, .int .i64 0, .string ⟨#[]⟩, .string ⟨#[]⟩, .int .i64 0],7, .rw⟩::u)∧u[j]? = some ⟨strsV (wds s),1, .rw⟩∧u[q]? = some ⟨(numsL ((wds s).tail.take i)).map iv,1, .rw⟩∧j≠q∧∀(m:Nat) (hm:m<(wds s).tail.length),m<i->rdOk (mkB (wds s).tail[m])) ?_ ?_
 ·have hjl:=(List.getElem?_eq_some_iff.1 hj').1
  refine⟨_,t.length,⟨rfl,rfl,rfl,rfl,rfl,rfl,rfl,trivial⟩, .rfl, ?_, ?_,by omega,fun m _ hm=>absurd hm (by omega)⟩
  ·rw[getElem?_append_left hjl];exact hj'
  ·rw[getElem?_append_right (by omega),sub_self];rfl
 ·clear hG0 hG1 hj hj'
  rintro i e _ hi ⟨u,q,⟨e2,e4,e7,e8,e22,e23,e24,_⟩,rfl,hj,hq,hjq,hlo⟩
  have hG: ∀(a b:Blk),hget (h++a::b::u) (h.length+2+j)=some ⟨strsV (wds s),1, .rw⟩:=fun a b=>by
   rw[show h.length+2+j=h.length+(j+1+1) by omega,hget_app]
   exact hj
  have hlen:=numsL_len (ws:=(wds s).tail) (i:=i) (by omega)
  have hjl:=(List.getElem?_eq_some_iff.1 hj).1
  have hql:=(List.getElem?_eq_some_iff.1 hq).1
  by_cases hlt:i<(wds s).tail.length
  ·have wi:=wsucc hlt (by omega)
   have hz:(i:Int)<(wds s).tail.length:=by omega
   simp only[go_sem,e2,e4,e7,e8,e22,e23,e24,hz,hG,gw i hlt]
   refine (c_ParseInt (pw.mono (by simp)) (er.mono (by simp)) (mkB (wds s).tail[i]) (hsz _ (getElem_mem _))).go ?_
   rintro _ _⟨rfl,⟨t2,rfl⟩⟩
   by_cases c:rdOk (mkB (wds s).tail[i])
   ·simp only[go_sem,e2,e4,e7,e8,e22,e23,e24,decb c,app_old hq,length_map,hlen]
    refine⟨by omega,by omega,hlt,_,u.length+(t2.length+1),⟨e2,e4,e7,rfl,e22,e23,congrArg _ wi,trivial⟩, .rfl, ?_, ?_,by omega, ?_⟩
    ·rw[getElem?_append_left (by simp;omega),getElem?_set_ne (by omega)];exact app_old hj _
    ·rw[numsL_take hlt,map_append]
     exact (getElem?_append_right (by simp)).trans (by simp[iv])
    ·intro m hm hmi
     by_cases h2:m<i
     ·exact hlo m hm h2
     ·obtain rfl:m=i:=by omega
      exact c
   ·have nok: ¬numsOk (wds s).tail:=fun hh=>c (hh _ (getElem_mem _))
    simp only[go_sem,e2,e4,e7,e8,e22,e23,e24,dect c,o0,o0v]
    exact⟨⟨N,P,V,src,D,Q,cnt⟩,wP,wV,_,_,rfl,⟨o0,o0v⟩,bad1 _ _ _ _ _ _ nok⟩
  ·obtain rfl:i=(wds s).tail.length:=by omega
   have ok:numsOk (wds s).tail:=fun w hw=>by
    obtain⟨m,hm,rfl⟩:=mem_iff_getElem.1 hw
    exact hlo m hm hm
   rw[take_length] at hq
   simp only[go_sem,e2,e4,e7,e8,e22,e23,e24,show ¬(((wds s).tail.length:Nat):Int)<(wds s).tail.length by omega,hG,g0,z0]
   refine ((c_numbersNeeded (wd0 s)).addG).go ?_
   rintro _ _⟨rfl,⟨t2,rfl⟩⟩
   have hlw:((numsL (wds s).tail).length:Int)=(wds s).tail.length:=by rw[numsL,length_map]
   by_cases hn:((wds s).tail.length:Int)=needs (wd0 s)
   case neg=>
    have hn': ¬((numsL (wds s).tail).length:Int)=needs (wd0 s):=by rw[hlw];exact hn
    have e1:=edit_needs (C:=⟨N,P,V,src,D,Q,cnt⟩) hn'
    have e2':=ask_needs (C:=⟨N,P,V,src,D,Q,cnt⟩) hn'
    have x1:runT ⟨N,P,V,src,D,Q,cnt⟩ s=w_no:=by
     rw[runT,if_pos ok,editT,askT,e1,e2']
     split<;>rfl
    have x2:runC ⟨N,P,V,src,D,Q,cnt⟩ s=⟨N,P,V,src,D,Q,cnt⟩:=by
     unfold runC
     split
     ·rw[e1];rfl
     ·rfl
    simp only[go_sem,e2,e4,e7,e8,e22,e23,e24,show (((wds s).tail.length:Int) != needs (wd0 s))=true by simpa using hn,o0,o0v]
    exact⟨⟨N,P,V,src,D,Q,cnt⟩,wP,wV,_,_,rfl,⟨o0,o0v⟩, .no x1 x2⟩
   have hn':((numsL (wds s).tail).length:Int)=needs (wd0 s):=by rw[hlw];exact hn
   have nb:(((wds s).tail.length:Int) != needs (wd0 s))=false:=by rw[hn];exact bne_self_eq_false _
   have slx: ∀(a b:Blk) (v:Heap),SI (h++a::b::(u++v)) (.slice (some ⟨h.length+(q+1+1),0,none⟩) (wds s).tail.length 0) (numsL (wds s).tail):=fun a b v=>
    FI.si (lo:=0) (hi:=(h++a::b::(u++v)).length) (FI.at' (by rw[numsL,length_map]) (by omega) (by simp;omega) (by rw[hget_app];simp only[getElem?_cons_succ];exact app_old hq _)) (le_refl _)
   by_cases hw:isEdit (wd0 s)
   ·have er1:runT ⟨N,P,V,src,D,Q,cnt⟩ s=editT ⟨N,P,V,src,D,Q,cnt⟩ (wd0 s) (numsL (wds s).tail):=by rw[runT,if_pos ok,if_pos hw]
    have ec1:runC ⟨N,P,V,src,D,Q,cnt⟩ s=(editR ⟨N,P,V,src,D,Q,cnt⟩ (wd0 s) (numsL (wds s).tail)).getD ⟨N,P,V,src,D,Q,cnt⟩:=by rw[runC,if_pos ⟨ok,hw⟩]
    rcases id hw with hy|hy|hy|hy|hy
    ·simp only[go_sem,e2,e4,e7,e8,e22,e23,e24,nb,decb hy,toList_eq,o0,o0v]
     refine ((c_change ⟨N,P,V,src,D,Q,cnt⟩ (wd0 s) wP wV _ _ (sP.mono (by simp)) (sV.mono (by simp)) (es.mono (by simp)) g (slx _ _ _) hw hn').addG).go ?_
     rintro _ _⟨⟨E,xP,xV,rfl,⟨o1,o2⟩,hE⟩,⟨t3,rfl⟩⟩
     simp only[go_sem,e2,e4,e7,e8,e22,e23,e24,conV,o1,o2]
     cases hc:editR ⟨N,P,V,src,D,Q,cnt⟩ (wd0 s) (numsL (wds s).tail) with
     | some E'=>
      obtain⟨rfl,hq2⟩:=hE E' hc
      have x1:runT ⟨N,P,V,src,D,Q,cnt⟩ s=w_ok:=by rw[er1,editT,hc];rfl
      have x2:runC ⟨N,P,V,src,D,Q,cnt⟩ s=E:=by rw[ec1,hc];rfl
      refine⟨E,xP,xV,_,true,rfl,⟨o1,o2⟩,fun _=>⟨x2.symm,x1.symm, .inr (hq2.v2r ?_)⟩,fun hh=>(by cases hh)⟩
      simp
     | none=>
      have x1:runT ⟨N,P,V,src,D,Q,cnt⟩ s=w_no:=by rw[er1,editT,hc];rfl
      have x2:runC ⟨N,P,V,src,D,Q,cnt⟩ s=⟨N,P,V,src,D,Q,cnt⟩:=by rw[ec1,hc];rfl
      exact⟨E,xP,xV,_,false,rfl,⟨o1,o2⟩, .no x1 x2⟩
    ·have n0: ¬wd0 s=w_pipe:=by rw[hy];decide
     simp only[go_sem,e2,e4,e7,e8,e22,e23,e24,nb,dect n0,decb hy,toList_eq,o0,o0v]
     refine ((c_change ⟨N,P,V,src,D,Q,cnt⟩ (wd0 s) wP wV _ _ (sP.mono (by simp)) (sV.mono (by simp)) (es.mono (by simp)) g (slx _ _ _) hw hn').addG).go ?_
     rintro _ _⟨⟨E,xP,xV,rfl,⟨o1,o2⟩,hE⟩,⟨t3,rfl⟩⟩
     simp only[go_sem,e2,e4,e7,e8,e22,e23,e24,conV,o1,o2]
     cases hc:editR ⟨N,P,V,src,D,Q,cnt⟩ (wd0 s) (numsL (wds s).tail) with
     | some E'=>
      obtain⟨rfl,hq2⟩:=hE E' hc
      have x1:runT ⟨N,P,V,src,D,Q,cnt⟩ s=w_ok:=by rw[er1,editT,hc];rfl
      have x2:runC ⟨N,P,V,src,D,Q,cnt⟩ s=E:=by rw[ec1,hc];rfl
      refine⟨E,xP,xV,_,true,rfl,⟨o1,o2⟩,fun _=>⟨x2.symm,x1.symm, .inr (hq2.v2r ?_)⟩,fun hh=>(by cases hh)⟩
      simp
     | none=>
      have x1:runT ⟨N,P,V,src,D,Q,cnt⟩ s=w_no:=by rw[er1,editT,hc];rfl
      have x2:runC ⟨N,P,V,src,D,Q,cnt⟩ s=⟨N,P,V,src,D,Q,cnt⟩:=by rw[ec1,hc];rfl
      exact⟨E,xP,xV,_,false,rfl,⟨o1,o2⟩, .no x1 x2⟩
    ·have n0: ¬wd0 s=w_pipe:=by rw[hy];decide
     have n1: ¬wd0 s=w_valve:=by rw[hy];decide
     simp only[go_sem,e2,e4,e7,e8,e22,e23,e24,nb,dect n0,dect n1,decb hy,toList_eq,o0,o0v]
     refine ((c_change ⟨N,P,V,src,D,Q,cnt⟩ (wd0 s) wP wV _ _ (sP.mono (by simp)) (sV.mono (by simp)) (es.mono (by simp)) g (slx _ _ _) hw hn').addG).go ?_
     rintro _ _⟨⟨E,xP,xV,rfl,⟨o1,o2⟩,hE⟩,⟨t3,rfl⟩⟩
     simp only[go_sem,e2,e4,e7,e8,e22,e23,e24,conV,o1,o2]
     cases hc:editR ⟨N,P,V,src,D,Q,cnt⟩ (wd0 s) (numsL (wds s).tail) with
     | some E'=>
      obtain⟨rfl,hq2⟩:=hE E' hc
      have x1:runT ⟨N,P,V,src,D,Q,cnt⟩ s=w_ok:=by rw[er1,editT,hc];rfl
      have x2:runC ⟨N,P,V,src,D,Q,cnt⟩ s=E:=by rw[ec1,hc];rfl
      refine⟨E,xP,xV,_,true,rfl,⟨o1,o2⟩,fun _=>⟨x2.symm,x1.symm, .inr (hq2.v2r ?_)⟩,fun hh=>(by cases hh)⟩
      simp
     | none=>
      have x1:runT ⟨N,P,V,src,D,Q,cnt⟩ s=w_no:=by rw[er1,editT,hc];rfl
      have x2:runC ⟨N,P,V,src,D,Q,cnt⟩ s=⟨N,P,V,src,D,Q,cnt⟩:=by rw[ec1,hc];rfl
      exact⟨E,xP,xV,_,false,rfl,⟨o1,o2⟩, .no x1 x2⟩
    ·have n0: ¬wd0 s=w_pipe:=by rw[hy];decide
     have n1: ¬wd0 s=w_valve:=by rw[hy];decide
     have n2: ¬wd0 s=w_shut:=by rw[hy];decide
     simp only[go_sem,e2,e4,e7,e8,e22,e23,e24,nb,dect n0,dect n1,dect n2,decb hy,toList_eq,o0,o0v]
     refine ((c_change ⟨N,P,V,src,D,Q,cnt⟩ (wd0 s) wP wV _ _ (sP.mono (by simp)) (sV.mono (by simp)) (es.mono (by simp)) g (slx _ _ _) hw hn').addG).go ?_
     rintro _ _⟨⟨E,xP,xV,rfl,⟨o1,o2⟩,hE⟩,⟨t3,rfl⟩⟩
     simp only[go_sem,e2,e4,e7,e8,e22,e23,e24,conV,o1,o2]
     cases hc:editR ⟨N,P,V,src,D,Q,cnt⟩ (wd0 s) (numsL (wds s).tail) with
     | some E'=>
      obtain⟨rfl,hq2⟩:=hE E' hc
      have x1:runT ⟨N,P,V,src,D,Q,cnt⟩ s=w_ok:=by rw[er1,editT,hc];rfl
      have x2:runC ⟨N,P,V,src,D,Q,cnt⟩ s=E:=by rw[ec1,hc];rfl
      refine⟨E,xP,xV,_,true,rfl,⟨o1,o2⟩,fun _=>⟨x2.symm,x1.symm, .inr (hq2.v2r ?_)⟩,fun hh=>(by cases hh)⟩
      simp
     | none=>
      have x1:runT ⟨N,P,V,src,D,Q,cnt⟩ s=w_no:=by rw[er1,editT,hc];rfl
      have x2:runC ⟨N,P,V,src,D,Q,cnt⟩ s=⟨N,P,V,src,D,Q,cnt⟩:=by rw[ec1,hc];rfl
      exact⟨E,xP,xV,_,false,rfl,⟨o1,o2⟩, .no x1 x2⟩
    ·have n0: ¬wd0 s=w_pipe:=by rw[hy];decide
     have n1: ¬wd0 s=w_valve:=by rw[hy];decide
     have n2: ¬wd0 s=w_shut:=by rw[hy];decide
     have n3: ¬wd0 s=w_open:=by rw[hy];decide
     simp only[go_sem,e2,e4,e7,e8,e22,e23,e24,nb,dect n0,dect n1,dect n2,dect n3,decb hy,toList_eq,o0,o0v]
     refine ((c_change ⟨N,P,V,src,D,Q,cnt⟩ (wd0 s) wP wV _ _ (sP.mono (by simp)) (sV.mono (by simp)) (es.mono (by simp)) g (slx _ _ _) hw hn').addG).go ?_
     rintro _ _⟨⟨E,xP,xV,rfl,⟨o1,o2⟩,hE⟩,⟨t3,rfl⟩⟩
     simp only[go_sem,e2,e4,e7,e8,e22,e23,e24,conV,o1,o2]
     cases hc:editR ⟨N,P,V,src,D,Q,cnt⟩ (wd0 s) (numsL (wds s).tail) with
     | some E'=>
      obtain⟨rfl,hq2⟩:=hE E' hc
      have x1:runT ⟨N,P,V,src,D,Q,cnt⟩ s=w_ok:=by rw[er1,editT,hc];rfl
      have x2:runC ⟨N,P,V,src,D,Q,cnt⟩ s=E:=by rw[ec1,hc];rfl
      refine⟨E,xP,xV,_,true,rfl,⟨o1,o2⟩,fun _=>⟨x2.symm,x1.symm, .inr (hq2.v2r ?_)⟩,fun hh=>(by cases hh)⟩
      simp
     | none=>
      have x1:runT ⟨N,P,V,src,D,Q,cnt⟩ s=w_no:=by rw[er1,editT,hc];rfl
      have x2:runC ⟨N,P,V,src,D,Q,cnt⟩ s=⟨N,P,V,src,D,Q,cnt⟩:=by rw[ec1,hc];rfl
      exact⟨E,xP,xV,_,false,rfl,⟨o1,o2⟩, .no x1 x2⟩
   ·have ha:isAsk (wd0 s):=needs_cmd (by rw[←hn];omega) hw
    have er1:runT ⟨N,P,V,src,D,Q,cnt⟩ s=askT ⟨N,P,V,src,D,Q,cnt⟩ (wd0 s) (numsL (wds s).tail):=by rw[runT,if_pos ok,if_neg hw]
    have ec1:runC ⟨N,P,V,src,D,Q,cnt⟩ s=⟨N,P,V,src,D,Q,cnt⟩:=by rw[runC,if_neg (fun hh=>hw hh.2)]
    have hw':=hw
    simp only[isEdit,not_or] at hw'
    obtain⟨n0,n1,n2,n3,n4⟩:=hw'
    simp only[go_sem,e2,e4,e7,e8,e22,e23,e24,nb,dect n0,dect n1,dect n2,dect n3,dect n4,toList_eq,o0,o0v]
    refine ((c_answer ⟨N,P,V,src,D,Q,cnt⟩ (wd0 s) wP wV _ _ (sP.mono (by simp)) (sV.mono (by simp)) (es.mono (by simp)) g (slx _ _ _) ha hn').addG).go ?_
    rintro _ _⟨⟨x,rfl,sx⟩,⟨t3,rfl⟩⟩
    have sB:Sht ((askR ⟨N,P,V,src,D,Q,cnt⟩ (wd0 s) (numsL (wds s).tail)).getD []):=by
     cases hc:askR ⟨N,P,V,src,D,Q,cnt⟩ (wd0 s) (numsL (wds s).tail) with
     | some L=>exact askB g hc
     | none=>exact .nil
    simp only[go_sem,e2,e4,e7,e8,e22,e23,e24,o0,o0v]
    refine ((c_listText x _ (by first|exact sx|simpa using sx) sB.1 sB.2).addG).go ?_
    rintro _ _⟨rfl,⟨t4,rfl⟩⟩
    simp only[go_sem,e2,e4,e7,e8,e22,e23,e24,o0,o0v]
    cases hc:askR ⟨N,P,V,src,D,Q,cnt⟩ (wd0 s) (numsL (wds s).tail) with
    | some L=>
     have e1:runT ⟨N,P,V,src,D,Q,cnt⟩ s=listS L:=by rw[er1,askT,hc]
     exact⟨⟨N,P,V,src,D,Q,cnt⟩,wP,wV,_,true,rfl,⟨o0,o0v⟩,fun _=>⟨ec1.symm,e1.symm, .inl ⟨rfl,rfl,rfl,rfl⟩⟩,fun hh=>(by cases hh)⟩
    | none=>
     have e1:runT ⟨N,P,V,src,D,Q,cnt⟩ s=w_no:=by rw[er1,askT,hc]
     exact⟨⟨N,P,V,src,D,Q,cnt⟩,wP,wV,_,false,rfl,⟨o0,o0v⟩, .no e1 ec1⟩
end
open Go.HH Go.Proofs
theorem ConQ.mvg{X X' T S:Heap}{hi hi' lo':Nat}{c E:Con}{wP wV:Value}(s:ConQ X.length hi (X++T) c wP wV)(hl:X'.length=X.length)(hlo:lo'<=X.length)(h2:hi<=hi')(eP:E.P=c.P)(eV:E.V=c.V):ConQ lo' hi' (X'++T++S) E wP wV:=by
 have mv: ∀ {lo hi:Nat} {v:Value} {rows:List (List Value)},FQs lo hi 4 (X++T) v rows->X.length<=lo->FQs lo hi 4 (X'++T++S) v rows:=fun s h=>by
  have s':FQs _ _ 4 ([]++X++T) _ _:=s
  have:=(s'.swapped (y:=X') (by simpa using h) hl (le_refl _) (le_refl _)).mono (prefix_append _ S)
  simpa using this
 obtain⟨p,q,x,y,hh,f1,f2⟩:=s.p
 refine⟨p,q,x,y,by omega,by rw[eP];exact mv f1 hh.1,by rw[eV];exact mv f2 hh.2.2.1⟩
theorem ConQ.w1{h t u:Heap}{a b a' b':Blk}{hi hi':Nat}{c:Con}{wP wV:Value}(s:ConQ (h++a::b::t).length hi (h++a::b::t++u) c wP wV)(h2:hi<=hi'):ConQ h.length hi' (h++a'::b'::(t++u)) c wP wV:=by
 have:=s.mvg (X':=h++a'::b'::t) (S:= []) (lo':=h.length) (by simp) (by simp) h2 rfl rfl
 simpa using this
theorem ConQ.w2{h t t3 t2:Heap}{a b a' b':Blk}{hi hi':Nat}{c:Con}{wP wV:Value}(s:ConQ (h++a::b::(t++t3)).length hi (h++a::b::(t++t3)++t2) c wP wV)(h2:hi<=hi'):ConQ h.length hi' (h++a'::b'::(t++(t3++t2))) c wP wV:=by
 have:=s.mvg (X':=h++a'::b'::(t++t3)) (S:= []) (lo':=h.length) (by simp) (by simp) h2 rfl rfl
 simpa using this
theorem ConQ.w3{h t t3 t2 v:Heap}{a b a' b':Blk}{hi hi':Nat}{c E:Con}{wP wV:Value}(s:ConQ (h++a::b::(t++t3)).length hi (h++a::b::(t++t3)++t2) c wP wV)(h2:hi<=hi')(eP:E.P=c.P)(eV:E.V=c.V):ConQ h.length hi' (h++a'::b'::(t++(t3++(t2++v)))) E wP wV:=by
 have:=s.mvg (X':=h++a'::b'::(t++t3)) (S:=v) (lo':=h.length) (by simp) (by simp) h2 eP eV
 simpa using this
theorem ConQ.w4{h t t3 t2 t4 v:Heap}{a b d a' b' d':Blk}{hi hi':Nat}{c E:Con}{wP wV:Value}(s:ConQ (h++a::b::(t++(t3++(t2++ [d])))).length hi (h++a::b::(t++(t3++(t2++ [d])))++t4) c wP wV)(h2:hi<=hi')(eP:E.P=c.P)(eV:E.V=c.V):ConQ h.length hi' (h++a'::b'::(t++(t3++(t2++d'::(t4++v))))) E wP wV:=by
 have:=s.mvg (X':=h++a'::b'::(t++(t3++(t2++ [d'])))) (S:=v) (lo':=h.length) (by simp) (by simp) h2 eP eV
 simpa using this
section
variable {G:List (Nat×Nat)} {h:Heap} {M:Nat->Prop}
set_option maxRecDepth 4000 in
theorem c_ExecuteCommand{n:Nat}(pw:PowAt G h)(er:ErrAt G h)(C:Con)(s:ByteArray)(wP wV:Value)(sc:ConS n h C wP wV)(es:EszC h 4 wV)(hc:conSmall C)(hs:s.size<=9223372036854775806) :
  vCall G Tryz.prog M 18 [conV C wP wV, .string s] h (fun r h'=>(∃E xP xV,r = .tuple #[conV E xP xV, .string (execT C s)]∧E=execC C s∧ConQ h.length h'.length h' E xP xV)∧h<+:h'):=by
 obtain⟨N,P,V,src,D,Q,cnt⟩:=C
 have sP:=sc.p
 have sV:=sc.v
 have o0:oneC wP=true:=by obtain⟨a,e,_⟩:=sP.1;rw[e];rfl
 have o0v:oneC wV=true:=by obtain⟨a,e,_⟩:=sV.1;rw[e];rfl
 refine bo Tryz.func18 rfl rfl ?_
 simp only[go_sem,conV,o0,o0v]
 refine (c_IsValidConsole (pw.mono (by simp)) ⟨N,P,V,src,D,Q,cnt⟩ wP wV (sc.mono (by simp)) (es.mono (by simp)) hc).go ?_
 rintro _ _⟨rfl,⟨t,rfl⟩⟩
 by_cases g:conOk ⟨N,P,V,src,D,Q,cnt⟩
 case neg=>
  simp only[go_sem,conV,dect g,o0,o0v]
  refine ((c_newConsoleX ⟨N,P,V,src,D,Q,cnt⟩ wP wV (sP.1.mono (by simp)) (sV.1.mono (by simp)) hc.1 hc.2.1).addG).go ?_
  rintro _ _⟨⟨yP,yV,rfl,q0,_⟩,⟨t2,rfl⟩⟩
  obtain⟨o1,o2⟩:=q0.one
  simp only[go_sem,conV,o1,o2]
  refine⟨⟨N,P,V,src,D,Q,cnt⟩,yP,yV,by rw[execT,if_neg g],by rw[execC,if_neg (fun hh=>g hh.1)], ?_⟩
  refine q0.w1 ?_
  simp;try omega
 simp only[go_sem,conV,decb g,o0,o0v]
 refine ((c_IsValidRecord s ⟨#[]⟩ hs (by decide)).addG).go ?_
 rintro _ _⟨rfl,⟨t3,rfl⟩⟩
 cases g2:recOk s ⟨#[]⟩
 case false=>
  have g2': ¬recOk s ⟨#[]⟩=true:=by rw[g2];decide
  simp only[go_sem,conV,g2,o0,o0v]
  refine ((c_newConsoleX ⟨N,P,V,src,D,Q,cnt⟩ wP wV (sP.1.mono (by simp)) (sV.1.mono (by simp)) hc.1 hc.2.1).addG).go ?_
  rintro _ _⟨⟨yP,yV,rfl,q0,_⟩,⟨t2,rfl⟩⟩
  obtain⟨o1,o2⟩:=q0.one
  simp only[go_sem,conV,o1,o2]
  refine⟨⟨N,P,V,src,D,Q,cnt⟩,yP,yV,by rw[execT,if_pos g,if_neg g2'],by rw[execC,if_neg (fun hh=>g2' hh.2.1)], ?_⟩
  refine q0.w2 ?_
  simp;try omega
 have hs2:s.size<=10000:=by
  rw[recOk] at g2
  simp only[Bool.and_eq_true,decide_eq_true_eq] at g2
  omega
 simp only[go_sem,conV,g2,o0,o0v]
 by_cases g3:cnt=60
 case pos=>
  simp only[go_sem,conV,show (cnt==60)=true by rw[g3];rfl,o0,o0v]
  refine ((c_newConsoleX ⟨N,P,V,src,D,Q,cnt⟩ wP wV (sP.1.mono (by simp)) (sV.1.mono (by simp)) hc.1 hc.2.1).addG).go ?_
  rintro _ _⟨⟨yP,yV,rfl,q0,_⟩,⟨t2,rfl⟩⟩
  obtain⟨o1,o2⟩:=q0.one
  simp only[go_sem,conV,o1,o2]
  refine⟨⟨N,P,V,src,D,Q,cnt⟩,yP,yV,by rw[execT,if_pos g,if_pos g2,if_pos g3],by rw[execC,if_neg (fun hh=>hh.2.2 g3)], ?_⟩
  refine q0.w2 ?_
  simp;try omega
 simp only[go_sem,conV,show (cnt==60)=false by rw[beq_eq_false_iff_ne];exact g3,o0,o0v]
 refine ((c_newConsoleX ⟨N,P,V,src,D,Q,cnt⟩ wP wV (sP.1.mono (by simp)) (sV.1.mono (by simp)) hc.1 hc.2.1).addG).go ?_
 rintro _ _⟨⟨yP,yV,rfl,q0,_⟩,⟨t2,rfl⟩⟩
 obtain⟨o1,o2⟩:=q0.one
 simp only[go_sem,conV,o1,o2]
 refine (c_execute (pw.mono (by simp)) (er.mono (by simp)) ⟨N,P,V,src,D,Q,cnt⟩ s yP yV (q0.s.p.mono (by simp)) (q0.s.v.1.mono (by simp)) (q0.esz.2.mono (by simp)) g hs2).go ?_
 rintro _ _⟨⟨E,xP,xV,T,b,rfl,⟨u1,u2⟩,hE⟩,⟨t4,rfl⟩⟩
 have er1:execT ⟨N,P,V,src,D,Q,cnt⟩ s=repT ⟨N,P,V,src,D,Q,cnt⟩ s:=by rw[execT,if_pos g,if_pos g2,if_neg g3]
 have ec:execC ⟨N,P,V,src,D,Q,cnt⟩ s= {runC ⟨N,P,V,src,D,Q,cnt⟩ s with D:=(appL D Q cnt s (repT ⟨N,P,V,src,D,Q,cnt⟩ s)).1,Q:=(appL D Q cnt s (repT ⟨N,P,V,src,D,Q,cnt⟩ s)).2.1,cnt:=(appL D Q cnt s (repT ⟨N,P,V,src,D,Q,cnt⟩ s)).2.2}:=by rw[execC,if_pos ⟨g,g2,g3⟩]
 rw[er1,ec]
 cases b with
 | false=>
  obtain⟨x1,x2⟩:=hE.2 rfl
  have e4:repT ⟨N,P,V,src,D,Q,cnt⟩ s=w_no:=by rw[repT,x1];rfl
  rw[e4,x2]
  simp only[go_sem,conV,u1,u2,o1,o2]
  refine (c_AppendRecord (pw.mono (by simp)) D Q cnt s w_no (by have:=hc.2.2;simp only at this;omega) hs (by decide)).go ?_
  rintro _ _⟨rfl,⟨t6,rfl⟩⟩
  rw[appV_eq]
  generalize appL D Q cnt s w_no=L
  generalize appK D Q cnt s w_no=K
  obtain⟨D',Q',n'⟩:=L
  simp only[go_sem,conV,o1,o2]
  refine⟨_,yP,yV,rfl,rfl, ?_⟩
  refine q0.w3 ?_ (by rfl) (by rfl)
  simp;try omega
 | true=>
  obtain⟨rfl,rfl,hx⟩:=hE.1 rfl
  by_cases g4:200<(runT ⟨N,P,V,src,D,Q,cnt⟩ s).size
  ·have e4:repT ⟨N,P,V,src,D,Q,cnt⟩ s=w_long:=by rw[repT,if_pos g4]
   rw[e4]
   simp only[go_sem,conV,u1,u2,o1,o2,show (200:Int)<((runT ⟨N,P,V,src,D,Q,cnt⟩ s).size:Nat) by omega]
   refine (c_AppendRecord (pw.mono (by simp)) D Q cnt s w_long (by have:=hc.2.2;simp only at this;omega) hs (by decide)).go ?_
   rintro _ _⟨rfl,⟨t6,rfl⟩⟩
   rw[appV_eq]
   generalize appL D Q cnt s w_long=L
   generalize appK D Q cnt s w_long=K
   obtain⟨D',Q',n'⟩:=L
   simp only[go_sem,conV,u1,u2,o1,o2]
   refine⟨_,xP,xV,rfl,rfl, ?_⟩
   rcases hx with⟨rfl,rfl,eP,eV⟩|hx
   ·refine q0.w3 ?_ (by exact eP) (by exact eV)
    simp;try omega
   ·refine hx.w4 ?_ (by rfl) (by rfl)
    simp;try omega
  ·have e4:repT ⟨N,P,V,src,D,Q,cnt⟩ s=runT ⟨N,P,V,src,D,Q,cnt⟩ s:=by rw[repT,if_neg g4]
   rw[e4]
   simp only[go_sem,conV,u1,u2,o1,o2,show ¬(200:Int)<((runT ⟨N,P,V,src,D,Q,cnt⟩ s).size:Nat) by omega]
   refine (c_AppendRecord (pw.mono (by simp)) D Q cnt s _ (by have:=hc.2.2;simp only at this;omega) hs (by omega)).go ?_
   rintro _ _⟨rfl,⟨t6,rfl⟩⟩
   rw[appV_eq]
   generalize appL D Q cnt s (runT ⟨N,P,V,src,D,Q,cnt⟩ s)=L
   generalize appK D Q cnt s (runT ⟨N,P,V,src,D,Q,cnt⟩ s)=K
   obtain⟨D',Q',n'⟩:=L
   simp only[go_sem,conV,u1,u2,o1,o2]
   refine⟨_,xP,xV,rfl,rfl, ?_⟩
   rcases hx with⟨rfl,rfl,eP,eV⟩|hx
   ·refine q0.w3 ?_ (by exact eP) (by exact eV)
    simp;try omega
   ·refine hx.w4 ?_ (by rfl) (by rfl)
    simp;try omega
end
open Go.HH Go.Proofs
theorem execC_len{c:Con}{s:ByteArray}(hc:conSmall c):(execC c s).P.length<=1048576∧(execC c s).V.length<=1048576:=by
 unfold execC
 split
 ·rename_i g
  have:=runC_small (s:=s) g.1
  exact⟨le_trans this.1 (by decide),le_trans this.2 (by decide)⟩
 ·exact⟨hc.1,hc.2.1⟩
theorem Agr.keep{lo hi:Nat}{h H H1:Heap}(g:Agr lo hi H H1)(hp:h<+:H)(h1:h.length<=lo):h<+:H1:=by
 refine List.prefix_iff_getElem?.2 fun i hi => ?_
 have hH:i<H.length:=lt_of_lt_of_le hi hp.length_le
 have e:=g.2 i hH (.inl (by omega))
 have e2:=hget_prefix hp hi
 have e3:hget h i=some h[i]:=getElem?_eq_getElem hi
 exact e.trans (e2.trans e3)
open Go.HH Go.Proofs
theorem execC_small{C:Con}{s:ByteArray}(hc:conSmall C):conSmall (execC C s):=by
 obtain⟨hP,hV⟩:=execC_len (s:=s) hc
 refine⟨hP,hV, ?_⟩
 unfold execC
 split
 ·rename_i g
  simp only
  unfold appL
  split
  ·rename_i h
   simp only
   have h1:=logOk_small h.1.1.1
   have h2:=lineL_len ((recOk_L _ _).symm.trans h.1.2) (k:=C.cnt.toNat) (by have:=logOk_count h.1.1;omega)
   have h3:(bl C.D++bl C.Q).length=C.D.size+C.Q.size:=by simp[bl]
   rw[ByteArray.size_append,mkB_size,length_append,length_singleton]
   omega
  ·exact hc.2.2
 ·exact hc.2.2
noncomputable def conAt(C:Con)(ws:List BL)(i:Nat):Con:=(ws.take i).foldl (fun c w=>execC c (mkB w)) C
theorem conAt_succ{C:Con}{ws:List BL}{i:Nat}(hi:i<ws.length):conAt C ws (i+1)=execC (conAt C ws i) (mkB ws[i]):=by
 unfold conAt
 rw[take_add_one,getElem?_eq_getElem hi,Option.toList_some,List.foldl_append]
 rfl
theorem conAt_small{C:Con}(hc:conSmall C)(ws:List BL): ∀i,conSmall (conAt C ws i)
 | 0=>by simpa[conAt] using hc
 | i+1=>by
  by_cases hi:i<ws.length
  ·rw[conAt_succ hi];exact execC_small (conAt_small hc ws i)
  ·have:conAt C ws (i+1)=conAt C ws i:=by
    unfold conAt
    rw[take_of_length_le (by omega),take_of_length_le (by omega)]
   rw[this];exact conAt_small hc ws i
def lns(s:ByteArray):List BL:=splitL (bl s) 10
theorem lns_len(s:ByteArray):1<=(lns s).length∧(lns s).length<=s.size+1:=by
 have hl:(bl s).length=s.size:=by simp[bl]
 have hc:(bl s).count 10<=(bl s).length:=List.count_le_length
 rw[lns,splitL_eq 10 _ (bl s) rfl,sbL_len]
 omega
theorem lns_le{s:ByteArray}{w:BL}(hw:w∈lns s):(mkB w).size<=s.size:=by
 obtain⟨h1,h2⟩:=spW_le 10 (bl s) [] [] 0 (fun w hw=>by cases hw) (le_refl 0)
 rw[zero_add] at h1 h2
 have hl:(bl s).length=s.size:=by simp[bl]
 have hw':w.length<=(bl s).length:=by
  rcases mem_append.1 hw with h|h
  ·exact h1 w h
  ·rw[mem_singleton.1 h];exact h2
 have:(mkB w).size=w.length:=size_toArray
 omega
def scrOk(C:Con)(s:ByteArray):Prop:=conOk C∧s.size<=4000∧(lns s).length<=30
open Classical in
noncomputable instance {C:Con} {s:ByteArray}:Decidable (scrOk C s):=propDecidable _
open Go.HH Go.Proofs
theorem conOk.cb{c:Con}(g:conOk c):CB c:=by
 have hn:=g.1.1
 refine⟨⟨by have:=hn.2.1;omega,fun p hp => ?_⟩,fun v hv => ?_,by have:=hn.2.2;omega,by have:=g.1.2.1;omega⟩
 ·obtain⟨i,hi,rfl⟩:=mem_iff_getElem.1 hp
  have h1:=(hn.1 i hi).1
  have h2:=hn.2.1
  rw[getDp hi] at h1
  unfold pipOk at h1
  omega
 ·obtain⟨i,hi,rfl⟩:=mem_iff_getElem.1 hv
  have h1:=(g.1.2.2 i hi).1.1
  rw[getDv hi] at h1
  omega
theorem conOk.log{c:Con}(g:conOk c):c.D.size+c.Q.size<=30000:=by
 have:=logOk_small g.2.2.1
 rw[length_append,bl_len,bl_len] at this
 omega
theorem ConQ.cl{lo hi:Nat}{h:Heap}{c:Con}{wP wV:Value}(s:ConQ lo hi h c wP wV):CL lo hi h c wP wV:=by
 obtain⟨p,q,x,y,hh,f1,f2⟩:=s.p
 exact⟨f1.SL.wide (by omega) (by omega),f2.SL.wide (by omega) (by omega)⟩
theorem CL.wide{lo hi lo' hi':Nat}{h:Heap}{c:Con}{wP wV:Value}(s:CL lo hi h c wP wV)(h1:lo'<=lo)(h2:hi<=hi'):CL lo' hi' h c wP wV:=⟨s.p.wide h1 h2,s.v.wide h1 h2⟩
def conB(c:Con)(wP wV:Value):Blk:=⟨[.int .i64 c.N,wP,wV, .int .i64 c.src, .string c.D, .string c.Q, .int .i64 c.cnt],7, .rw⟩
section
variable {h:Heap} {M:Nat->Prop}
set_option maxRecDepth 8000 in
set_option maxHeartbeats 4000000 in
theorem e_console{id n B:Nat}{a:Option Addr}(s:St h id n a B)(hM:M id)(hB:B<=80000) :
  vCall [] Tryz.prog M 48 [.pointer (some ⟨id,0,none⟩)] h (fun r H'=>(∃c wP wV,r=conV c wP wV∧CL h.length H'.length H' c wP wV∧CB c∧c.D.size+c.Q.size<=30000)∧St H' id n a (B+4000)∧Agr id (id+1) h H'):=by
 have hid:=s.lt
 have hown:own h.length M id:=Or.inr hM
 refine boR ([(4,[0,3,6,1009,2005,5000]),(8,[0,3,1008])]) Tryz.func48 rfl rfl ?_
 simp only[go_sem]
 refine (e_network (s.app _) hown (by omega)).go ?_
 rintro _ H1 ⟨⟨N,P,w,rfl,fc,hl,hnb⟩,s1,g1⟩
 have z1:=agr_get g1 hget_new (by omega)
 have L1:h.length+1<=H1.length:=by simpa using g1.1
 have o1:=fc.one
 simp only[go_sem,o1,own_ge (show h.length<=H1.length by omega)]
 refine (d_one _ (s1.app _) hown (by omega)).go ?_
 rintro _ H2 ⟨⟨gb,rfl⟩,s2,g2⟩
 have G2:=(Agr.app (t:= [_])).trans (g1.trans ((Agr.app (t:= [_])).trans g2))
 have z2:=agr_get ((Agr.app (t:= [_])).trans g2) z1 (by omega)
 have n2:=agr_get g2 hget_new (by omega)
 have L2:H1.length+1<=H2.length:=by simpa using g2.1
 have f2:=(fc.agr ((Agr.app (t:= [_])).trans g2) (.inr (by simp;omega))).wide (show h.length+1<=_ by simp) (show H1.length<=H1.length from le_refl _)
 have hl40:P.length<=40:=by omega
 cases gb
 case' true=>
  simp only[go_sem,o1]
  refine (e_anyNetwork s2 hown (by omega)).go ?_
  rintro _ H2' ⟨⟨N',P',w',rfl,fc',hl',hnb'⟩,s2',g2'⟩
  have o1':=fc'.one
  have n2':=agr_get g2' n2 (by omega)
  simp only[go_sem,o1,o1',n2',own_ge (show h.length<=H1.length by omega)]
  have L3:H2.length<=(H2'.set H1.length (⟨[.int .i64 N',w'],2, .rw⟩:Blk)).length:=by rw[length_set];exact g2'.1
  have s3:St (H2'.set H1.length (⟨[.int .i64 N',w'],2, .rw⟩:Blk)) id n a (B+700):=(s2'.set n2' rfl (by omega)).more (by omega)
  have G3:Agr id (id+1) h (H2'.set H1.length (⟨[.int .i64 N',w'],2, .rw⟩:Blk)):=agr_set_out (G2.trans g2') (by omega)
  have z3:hget (H2'.set H1.length (⟨[.int .i64 N',w'],2, .rw⟩:Blk)) h.length=some ⟨[.int .i64 0, .slice none 0 0, .slice none 0 0, .int .i64 0, .string ⟨#[]⟩, .string ⟨#[]⟩, .int .i64 0],7, .rw⟩:=by rw[hget_set_ne (by omega)];exact agr_get g2' z2 (by omega)
  have n3:hget (H2'.set H1.length (⟨[.int .i64 N',w'],2, .rw⟩:Blk)) H1.length=some ⟨[.int .i64 N',w'],2, .rw⟩:=set_get n2' _
  have f3:FC (h.length+1) (H2'.set H1.length (⟨[.int .i64 N',w'],2, .rw⟩:Blk)).length 4 P'.length (H2'.set H1.length (⟨[.int .i64 N',w'],2, .rw⟩:Blk)) w' (flQ P'):=by
   rw[length_set]
   exact (FC.agr fc' (Agr.set (le_refl _) (lt_succ_self _)) (.inr (by omega))).wide (by omega) (le_refl _)
  refine onEarly_on [H1.length] [] (by simp) ?_
  try simp only[go_sem]
  rw[show setRange [.int .i64 N,w] 0 [.int .i64 N',w']= [.int .i64 N',w'] from rfl]
  generalize H2'.set H1.length (⟨[.int .i64 N',w'],2, .rw⟩:Blk)=H3 at L3 s3 G3 z3 n3 f3 ⊢
  clear n2' g2' s2' fc' n2 z2 G2 g2 s2 f2 fc hl hnb o1 hl40
  clear H2'
 case' false=>
  simp only[go_sem,o1]
  obtain⟨H3,hH3⟩: ∃X,X=H2:=⟨_,rfl⟩
  obtain⟨N',hN⟩: ∃X,X=N:=⟨_,rfl⟩
  obtain⟨P',hP⟩: ∃X,X=P:=⟨_,rfl⟩
  obtain⟨w',hw⟩: ∃X,X=w:=⟨_,rfl⟩
  have L3:H2.length<=H3.length:=by rw[hH3];exact le_refl _
  subst hN hP hw hH3
  have s3:St H3 id n a (B+700):=s2.more (by omega)
  have G3:=G2
  have z3:=z2
  have n3:=n2
  have f3:FC (h.length+1) H3.length 4 P'.length H3 w' (flQ P'):=f2.wide (le_refl _) (by omega)
  have hl':=hl40
  have hnb':=hnb
  have o1':=o1
  refine onEarly_on [H1.length] [] (by simp) ?_
  try simp only[go_sem]
  clear G2 z2 n2 f2 hl40 hnb o1 s2 g2 fc hl
 all_goals
  have hlo:id<h.length+1:=by omega
  have n3':=self_get n3 [(⟨[.int .i64 0, .slice none 0 0, .slice none 0 0, .int .i64 0, .string ⟨#[]⟩, .string ⟨#[]⟩, .int .i64 0],7, .rw⟩:Blk)]
  have z3':=self_get z3 [(⟨[.int .i64 0, .slice none 0 0, .slice none 0 0, .int .i64 0, .string ⟨#[]⟩, .string ⟨#[]⟩, .int .i64 0],7, .rw⟩:Blk)]
  have y3:hget (H3++ [(⟨[.int .i64 0, .slice none 0 0, .slice none 0 0, .int .i64 0, .string ⟨#[]⟩, .string ⟨#[]⟩, .int .i64 0],7, .rw⟩:Blk)]) H3.length=some _:=hget_new
  simp only[go_sem,n3',o1']
  refine (e_few N' w' P' (f3.fq.mono (prefix_append _ _)) hlo (by simp) hnb' (by omega) (s3.app _) hown (by omega)).go ?_
  rintro _ H4 ⟨⟨V,sl,hlV,hvb⟩,s4,g4⟩
  have n4:=agr_get g4 n3' (by omega)
  have z4:=agr_get g4 z3' (by omega)
  have y4:=agr_get g4 y3 (by have:=s3.lt;omega)
  have l4:H3.length+1<=H4.length:=by simpa using g4.1
  have sls:=sl.s
  obtain⟨av,ev,_⟩:=sls
  rw[length_map] at ev
  subst ev
  have o4:=sl.one
  simp only[go_sem,n4,y4,o1',o4,l4]
  refine (e_nodeOf N' w' hnb'.1 o1' s4 hown (by omega)).go ?_
  rintro _ H5 ⟨⟨src,rfl,hsrc⟩,s5,g5⟩
  have n5:=agr_get g5 n4 (by omega)
  have z5:=agr_get g5 z4 (by omega)
  have y5:=agr_get g5 y4 (by have:=s3.lt;omega)
  have l5:=g5.1
  simp only[go_sem,n5,y4,y5,o1',o4,l5,own_ge (show h.length<=H3.length by omega)]
  have G5:=G3.trans ((Agr.app (t:= [⟨[.int .i64 0, .slice none 0 0, .slice none 0 0, .int .i64 0, .string ⟨#[]⟩, .string ⟨#[]⟩, .int .i64 0],7, .rw⟩])).trans (g4.trans g5))
  have f5:=f3.fq.SL.agr ((Agr.app (t:= [⟨[.int .i64 0, .slice none 0 0, .slice none 0 0, .int .i64 0, .string ⟨#[]⟩, .string ⟨#[]⟩, .int .i64 0],7, .rw⟩])).trans (g4.trans g5)) (.inr (by omega))
  have v5:=sl.agr g5 (.inr (by simp;omega))
  obtain⟨b4,hb4⟩: ∃b,b=H3.length:=⟨_,rfl⟩
  rw[←hb4] at y5 l4 f5 ⊢
  have lo4:(H3++ [(⟨[.int .i64 0, .slice none 0 0, .slice none 0 0, .int .i64 0, .string ⟨#[]⟩, .string ⟨#[]⟩, .int .i64 0],7, .rw⟩:Blk)]).length=b4+1:=by simp[hb4]
  rw[lo4] at v5
  have ag:Agr b4 (b4+1) H5 (H5.set b4 ⟨[.int .i64 N',w', .slice av V.length 0, .int .i64 src, .string ⟨#[]⟩, .string ⟨#[]⟩, .int .i64 0],7, .rw⟩):=Agr.set (le_refl _) (lt_succ_self _)
  have s6:St (H5.set b4 ⟨[.int .i64 N',w', .slice av V.length 0, .int .i64 src, .string ⟨#[]⟩, .string ⟨#[]⟩, .int .i64 0],7, .rw⟩) id n a (B+2760):=(s5.set y5 rfl (by omega)).more (by omega)
  have G6:Agr id (id+1) h (H5.set b4 ⟨[.int .i64 N',w', .slice av V.length 0, .int .i64 src, .string ⟨#[]⟩, .string ⟨#[]⟩, .int .i64 0],7, .rw⟩):=agr_set_out G5 (by omega)
  have z6:hget (H5.set b4 ⟨[.int .i64 N',w', .slice av V.length 0, .int .i64 src, .string ⟨#[]⟩, .string ⟨#[]⟩, .int .i64 0],7, .rw⟩) h.length=some ⟨[.int .i64 0, .slice none 0 0, .slice none 0 0, .int .i64 0, .string ⟨#[]⟩, .string ⟨#[]⟩, .int .i64 0],7, .rw⟩:=by rw[hget_set_ne (by omega)];exact z5
  have y6:hget (H5.set b4 ⟨[.int .i64 N',w', .slice av V.length 0, .int .i64 src, .string ⟨#[]⟩, .string ⟨#[]⟩, .int .i64 0],7, .rw⟩) b4=some ⟨[.int .i64 N',w', .slice av V.length 0, .int .i64 src, .string ⟨#[]⟩, .string ⟨#[]⟩, .int .i64 0],7, .rw⟩:=set_get y5 _
  have f6:=f5.agr ag (.inl (le_refl _))
  have v6:=v5.agr ag (.inr (le_refl _))
  have len6:(H5.set b4 ⟨[.int .i64 N',w', .slice av V.length 0, .int .i64 src, .string ⟨#[]⟩, .string ⟨#[]⟩, .int .i64 0],7, .rw⟩).length=H5.length:=length_set ..
  generalize H5.set b4 ⟨[.int .i64 N',w', .slice av V.length 0, .int .i64 src, .string ⟨#[]⟩, .string ⟨#[]⟩, .int .i64 0],7, .rw⟩=H6 at s6 G6 z6 y6 f6 v6 len6 ⊢
  have hb1:H1.length<b4:=by omega
  clear ag y5 v5 f5 G5 s5 z5 n5 g5 y4 n4 z4 g4 s4 n3 n3' z3 z3' y3 s3 G3 f3 sl o4 z1 g1 s1
  refine (d_pick _ s6 hown (by omega)).go ?_
  rintro _ H7 ⟨⟨m,rfl,m0,m1⟩,s7,g7⟩
  have z7:=agr_get g7 z6 (by omega)
  have y7:=agr_get g7 y6 (by omega)
  have f7:=f6.agr g7 (.inr (by omega))
  have v7:=v6.agr g7 (.inr (by omega))
  have G7:=G6.trans g7
  have l7:=g7.1
  refine vLoopR.count mo 4 (fun i e H=> ∃(c:Con) (wP wV:Value) (lo1 up1 lo2 up2:Nat),Regs e [(0, .pointer (some ⟨id,0,none⟩)),(2, .pointer (some ⟨h.length,0,none⟩)),(4, .pointer (some ⟨b4,0,none⟩)),(5, .int .i64 (m-i))]∧St H id n a (B+2800+110*i)∧Agr id (id+1) h H ∧
   hget H h.length=some ⟨[.int .i64 0, .slice none 0 0, .slice none 0 0, .int .i64 0, .string ⟨#[]⟩, .string ⟨#[]⟩, .int .i64 0],7, .rw⟩∧hget H b4=some (conB c wP wV)∧SL lo1 up1 H wP (c.P.map pip)∧SL lo2 up2 H wV (c.V.map vlv)∧((h.length+1<=lo1∧h.length+1<=lo2)∧(up1<=b4∨b4+1<=lo1)∧(up2<=b4∨b4+1<=lo2)∧up1<=H.length∧up2<=H.length)∧CB c∧c.D.size+c.Q.size<=30000∧(i:Int)<=m) ?_ ?_
  ·exact⟨⟨N',P',V,src,⟨#[]⟩,⟨#[]⟩,0⟩,w',_,_,_,_,_,⟨rfl,rfl,rfl,by simp[upd,put],trivial⟩,s7.more (by omega),G7,z7,y7,f7,v7,by omega,⟨hnb',hvb,hl',by simp only;omega⟩,(show (⟨#[]⟩:ByteArray).size+(⟨#[]⟩:ByteArray).size<=30000 by decide),m0⟩
  ·clear s6 G6 z6 y6 f6 v6 s7 G7 z7 y7 f7 v7 g7
   rintro i e H hi ⟨c,wP,wV,lo1,up1,lo2,up2,⟨e0,e2,e4,e5,_⟩,st,G,z,y,f,v,hlo,cb,hD,him⟩
   have o1:=f.one
   have o2:=v.one
   have y':hget H b4=some ⟨[.int .i64 c.N,wP,wV, .int .i64 c.src, .string c.D, .string c.Q, .int .i64 c.cnt],7, .rw⟩:=y
   have cl:CL (h.length+1) H.length H c wP wV:=⟨f.wide hlo.1.1 hlo.2.2.2.1,v.wide hlo.1.2 hlo.2.2.2.2⟩
   have hs:conSmall c:=⟨by have:=cb.p1;omega,by have:=cb.v1;omega,by omega⟩
   have cv:conV c wP wV = .agg #[.int .i64 c.N,wP,wV, .int .i64 c.src, .string c.D, .string c.Q, .int .i64 c.cnt]:=rfl
   by_cases h1:0<m-(i:Int)
   ·simp only[go_sem,e0,e2,e4,e5,h1,y',o1,o2]
    rw[←cv]
    refine (c_l28Good c wP wV cl.s hs).go ?_
    rintro _ _⟨rfl,⟨t,rfl⟩⟩
    have yt:=self_get y' t
    have clt:=cl.mono (prefix_append _ t)
    by_cases g:conOk c
    ·simp only[go_sem,e0,e2,e4,e5,h1,decb g,yt,o1,o2,Int.sub_pos]
     rw[←cv]
     refine (e_command c wP wV clt (by omega) (by simp) cb (st.app t) hown (by omega)).go ?_
     rintro _ H2 ⟨⟨s,rfl,hss⟩,s2,g2⟩
     have y2:=agr_get g2 yt (by omega)
     have l2:H.length+t.length<=H2.length:=by simpa using g2.1
     have cl2:=clt.agr g2 (.inr (by omega))
     simp only[go_sem,e0,e2,e4,e5,yt,y2,o1,o2,l2]
     try rw[←cv]
     refine (c_sExecuteCommand c s wP wV cl2.s hs (by omega)).go ?_
     rintro _ _⟨⟨E,xP,xV,rfl,hE,q⟩,⟨t2,rfl⟩⟩
     simp only[go_sem,e0,e2,e4,e5,conV,q.one.1,q.one.2,self_get y2,own_ge (show h.length<=b4 by omega)]
     have gE:conOk E:=by rw[hE];exact execC_ok g
     have ag:Agr b4 (b4+1) (H2++t2) ((H2++t2).set b4 ⟨[.int .i64 E.N,xP,xV, .int .i64 E.src, .string E.D, .string E.Q, .int .i64 E.cnt],7, .rw⟩):=Agr.set (le_refl _) (lt_succ_self _)
     have hb2:b4<H2.length:=hget_lt y2
     have qc:=q.cl.agr ag (.inr (by omega))
     have z2:=agr_get g2 (self_get z t) (by omega)
     refine⟨by omega,E,xP,xV,H2.length,(H2++t2).length,H2.length,(H2++t2).length,⟨e0,e2,e4,by rw[upd,if_pos rfl,wrap64 (by omega)];congr 1;omega,trivial⟩,((s2.app t2).set (self_get y2 t2) rfl (by omega)).more (by omega),
      agr_set_out ((G.trans (Agr.app (t:=t))).trans (g2.trans (Agr.app (t:=t2)))) (by omega),by rw[hget_set_ne (by omega)];exact self_get z2 t2,set_get (self_get y2 t2) _,qc.p,qc.v,by rw[length_set];omega,gE.cb,gE.log,by omega⟩
    ·simp only[go_sem,e0,e2,e4,e5,h1,dect g]
     refine (d_one _ (st.app t) hown (by omega)).go ?_
     rintro _ HA ⟨⟨gb,rfl⟩,sA,gA⟩
     have yA:=agr_get gA yt (by omega)
     have zA:=agr_get gA (self_get z t) (by omega)
     have GA:=(G.trans (Agr.app (t:=t))).trans gA
     have clA:=clt.agr gA (.inr (by omega))
     have lA:=gA.1
     try simp only[length_append] at lA
     cases gb with
     | false=>
      simp only[go_sem,e0,e2,e4,e5,h1,dect g,yA,zA,o1,o2,own_ge (le_refl h.length),set_get zA]
      exact⟨⟨c,wP,wV,rfl,((clA.agr (Agr.set (le_refl _) (lt_succ_self _)) (.inr (le_refl _))).wide (Nat.le_succ _) (by simp;omega)),cb,hD⟩,(sA.set zA rfl (by omega)).more (by omega),agr_set_out GA (le_refl _)⟩
     | true=>
      simp only[go_sem,e0,e2,e4,e5,h1,dect g]
      refine (d_anyLog sA hown (by omega)).go ?_
      rintro _ HB ⟨⟨D,Q,k,rfl,hDQ⟩,sB,gB⟩
      have yB:=agr_get gB yA (by omega)
      have zB:=agr_get gB zA (by omega)
      have lB:=gB.1
      have clB:=clA.agr gB (.inr (by omega))
      have hne:b4≠h.length:=by omega
      have ag:Agr b4 (b4+1) HB (HB.set b4 ⟨[.int .i64 c.N,wP,wV, .int .i64 c.src, .string D, .string Q, .int .i64 k],7, .rw⟩):=Agr.set (le_refl _) (lt_succ_self _)
      have yC:=set_get yB (⟨[.int .i64 c.N,wP,wV, .int .i64 c.src, .string D, .string Q, .int .i64 k],7, .rw⟩:Blk)
      have zC:hget (HB.set b4 ⟨[.int .i64 c.N,wP,wV, .int .i64 c.src, .string D, .string Q, .int .i64 k],7, .rw⟩) h.length=_:=(hget_set_ne hne).trans zB
      have gT:=(Agr.app (t:=t)).trans (gA.trans gB)
      have fC:=(f.agr gT (.inr (by omega))).agr ag hlo.2.1
      have vC:=(v.agr gT (.inr (by omega))).agr ag hlo.2.2.1
      simp only[go_sem,e0,e2,e4,e5,h1,dect g,yB,zB,yC,zC,o1,o2,own_ge (le_refl h.length),own_ge (show h.length<=b4 by omega),set_get zC]
      exact⟨⟨⟨c.N,c.P,c.V,c.src,D,Q,k⟩,wP,wV,rfl,⟨(fC.agr (Agr.set (le_refl _) (lt_succ_self _)) (.inr hlo.1.1)).wide (by omega) (by simp;omega),(vC.agr (Agr.set (le_refl _) (lt_succ_self _)) (.inr hlo.1.2)).wide (by omega) (by simp;omega)⟩,⟨cb.n,cb.v,cb.p1,cb.v1⟩,by simp only;omega⟩,((sB.set yB rfl (by omega)).set zC rfl (by omega)).more (by omega),agr_set_out (agr_set_out (GA.trans gB) (by omega)) (le_refl _)⟩
   ·simp only[go_sem,e0,e2,e4,e5,h1]
    refine (d_one _ st hown (by omega)).go ?_
    rintro _ HA ⟨⟨gb,rfl⟩,sA,gA⟩
    have yA:=agr_get gA y' (by omega)
    have zA:=agr_get gA z (by omega)
    have GA:=G.trans gA
    have clA:=cl.agr gA (.inr (by omega))
    have lA:=gA.1
    try simp only[length_append] at lA
    cases gb with
    | false=>
     simp only[go_sem,e0,e2,e4,e5,h1,yA,zA,o1,o2,own_ge (le_refl h.length),set_get zA]
     exact⟨⟨c,wP,wV,rfl,((clA.agr (Agr.set (le_refl _) (lt_succ_self _)) (.inr (le_refl _))).wide (Nat.le_succ _) (by simp;omega)),cb,hD⟩,(sA.set zA rfl (by omega)).more (by omega),agr_set_out GA (le_refl _)⟩
    | true=>
     simp only[go_sem,e0,e2,e4,e5,h1]
     refine (d_anyLog sA hown (by omega)).go ?_
     rintro _ HB ⟨⟨D,Q,k,rfl,hDQ⟩,sB,gB⟩
     have yB:=agr_get gB yA (by omega)
     have zB:=agr_get gB zA (by omega)
     have lB:=gB.1
     have clB:=clA.agr gB (.inr (by omega))
     have hne:b4≠h.length:=by omega
     have ag:Agr b4 (b4+1) HB (HB.set b4 ⟨[.int .i64 c.N,wP,wV, .int .i64 c.src, .string D, .string Q, .int .i64 k],7, .rw⟩):=Agr.set (le_refl _) (lt_succ_self _)
     have yC:=set_get yB (⟨[.int .i64 c.N,wP,wV, .int .i64 c.src, .string D, .string Q, .int .i64 k],7, .rw⟩:Blk)
     have zC:hget (HB.set b4 ⟨[.int .i64 c.N,wP,wV, .int .i64 c.src, .string D, .string Q, .int .i64 k],7, .rw⟩) h.length=_:=(hget_set_ne hne).trans zB
     have gT:=gA.trans gB
     have fC:=(f.agr gT (.inr (by omega))).agr ag hlo.2.1
     have vC:=(v.agr gT (.inr (by omega))).agr ag hlo.2.2.1
     simp only[go_sem,e0,e2,e4,e5,h1,yB,zB,yC,zC,o1,o2,own_ge (le_refl h.length),own_ge (show h.length<=b4 by omega),set_get zC]
     exact⟨⟨⟨c.N,c.P,c.V,c.src,D,Q,k⟩,wP,wV,rfl,⟨(fC.agr (Agr.set (le_refl _) (lt_succ_self _)) (.inr hlo.1.1)).wide (by omega) (by simp;omega),(vC.agr (Agr.set (le_refl _) (lt_succ_self _)) (.inr hlo.1.2)).wide (by omega) (by simp;omega)⟩,⟨cb.n,cb.v,cb.p1,cb.v1⟩,by simp only;omega⟩,((sB.set yB rfl (by omega)).set zC rfl (by omega)).more (by omega),agr_set_out (agr_set_out (GA.trans gB) (by omega)) (le_refl _)⟩
end
open Go.HH Go.Proofs
theorem St.start1{h:Heap}{b:Option Addr}{n:Nat}{z:Blk}(hcode:CodeOk h b n):St (h++ [z,⟨[.slice b n 0, .int .i64 0, .int .u64 0],3, .rw⟩]) (h.length+1) n b 0:=
 ⟨⟨0,0,hget_lit1,by omega,by omega⟩,hcode.app⟩
theorem St.start2{h:Heap}{b:Option Addr}{n:Nat}{y z:Blk}(hcode:CodeOk h b n):St (h++ [y,z,⟨[.slice b n 0, .int .i64 0, .int .u64 0],3, .rw⟩]) (h.length+2) n b 0:=
 ⟨⟨0,0,by simp[hget,curB],by omega,by omega⟩,hcode.app⟩
section
variable {h:Heap} {M:Nat->Prop}
set_option maxRecDepth 20000 in
end
open Go.HH Go.Proofs
theorem agr_out{lo hi l r:Nat}{h0 H H':Heap}(g:Agr lo hi h0 H)(ag:Agr l r H H')(hl:h0.length<=l):Agr lo hi h0 H':=
 ⟨le_trans g.1 ag.1,fun i h1 h2=>by rw[ag.2 i (by have:=g.1;omega) (.inl (by omega))];exact g.2 i h1 h2⟩
open Go.HH Go.Proofs
theorem CB.exec{c:Con}{s:ByteArray}(cb:CB c):CB (execC c s):=by
 by_cases tk:took c s
 ·exact (execC_yes tk).2.1.cb
 ·rw[(execC_no tk).1];exact cb
theorem exec_log{c:Con}{s:ByteArray}(hD:c.D.size+c.Q.size<=30000):(execC c s).D.size+(execC c s).Q.size<=30000:=by
 by_cases tk:took c s
 ·exact (execC_yes tk).2.1.log
 ·rw[(execC_no tk).1];exact hD
theorem CB.small'{c:Con}(cb:CB c)(hD:c.D.size+c.Q.size<=30000):conSmall c:=⟨by have:=cb.p1;omega,by have:=cb.v1;omega,by omega⟩
section
variable {h:Heap} {M:Nat->Prop}
set_option maxRecDepth 8000 in
set_option maxHeartbeats 4000000 in
theorem c_DrawReplayLog(b:Option Addr)(n:Nat)(hcode:CodeOk h b n) :
  vCall [] Tryz.prog M 38 [.slice b n 0] h (fun r h'=>(∃(N:Int) (P:List Pip) (w:Value) (x:Int) (D Q:ByteArray) (k:Int),r = .tuple #[.agg #[.int .i64 N,w], .int .i64 x, .agg #[.string D, .string Q, .int .i64 k]]∧SL h.length h'.length h' w (P.map pip)∧P.length<=40∧D.size+Q.size<=40000)∧h<+:h'):=by
 refine boR ([(10,[0,3,1008]),(13,[0,2,1007]),(14,[2,1005])]) Tryz.func38 rfl rfl ?_
 simp only[go_sem]
 have s0:=St.start2 (y:=⟨[.int .i64 0, .slice none 0 0],2, .rw⟩) (z:=⟨[.string ⟨#[]⟩, .string ⟨#[]⟩, .int .i64 0],3, .rw⟩) hcode
 have hown:own h.length M (h.length+2):=Or.inl (by omega)
 refine (e_network s0 hown (by omega)).go ?_
 rintro _ H1 ⟨⟨N,P,w,rfl,fc,hl,hnb⟩,s1,g1⟩
 have y1:hget H1 h.length=some ⟨[.int .i64 0, .slice none 0 0],2, .rw⟩:=agr_get g1 (by simp[hget]) (by omega)
 have z1:hget H1 (h.length+1)=some ⟨[.string ⟨#[]⟩, .string ⟨#[]⟩, .int .i64 0],3, .rw⟩:=agr_get g1 (by simp[hget]) (by omega)
 have L1:h.length+3<=H1.length:=by simpa using g1.1
 have sl1:=fc.fq.SL
 simp only[length_append,length_cons,length_nil] at sl1
 have o1:=fc.one
 simp only[go_sem,o1,own_ge (show h.length<=H1.length by omega)]
 refine (e_nodeOf N w hnb.1 o1 (s1.app _) hown (by omega)).go ?_
 rintro _ H2 ⟨⟨x,rfl,hx⟩,s2,g2⟩
 have n2:=agr_get g2 hget_new (by omega)
 have y2:=agr_get g2 (self_get y1 _) (by omega)
 have z2:=agr_get g2 (self_get z1 _) (by omega)
 have L2:H1.length+1<=H2.length:=by simpa using g2.1
 have sl2:=(sl1.mono (prefix_append _ _)).agr g2 (.inr (by omega))
 have G2:=g1.trans ((Agr.app (t:= [⟨[.int .i64 N,w],2, .rw⟩])).trans g2)
 simp only[go_sem,n2,o1]
 refine (c_sNewConsole _ N P x ⟨w,rfl,sl2.sb⟩ (by omega)).go ?_
 rintro _ _⟨⟨xP,xV,rfl,q⟩,⟨t,rfl⟩⟩
 have L2':h.length<=H2.length+t.length:=by omega
 simp only[go_sem,conV,q.one.1,q.one.2,o1,own_ge L2']
 have tail: ∀(H:Heap) (D Q:ByteArray) (k:Int),Agr (h.length+2) (h.length+2+1) (h++ [⟨[.int .i64 0, .slice none 0 0],2, .rw⟩,⟨[.string ⟨#[]⟩, .string ⟨#[]⟩, .int .i64 0],3, .rw⟩,⟨[.slice b n 0, .int .i64 0, .int .u64 0],3, .rw⟩]) H->SL (h.length+3) H1.length H w (P.map pip)->H1.length<=H.length->D.size+Q.size<=40000 →
   (∃(N':Int) (P:List Pip) (w':Value) (x':Int) (D' Q':ByteArray) (k':Int),Value.tuple #[.agg #[.int .i64 N,w], .int .i64 x, .agg #[.string D, .string Q, .int .i64 k]] = .tuple #[.agg #[.int .i64 N',w'], .int .i64 x', .agg #[.string D', .string Q', .int .i64 k']]∧SL h.length ((H.set h.length ⟨[.int .i64 N,w],2, .rw⟩).set (h.length+1) ⟨[.string D, .string Q, .int .i64 k],3, .rw⟩).length ((H.set h.length ⟨[.int .i64 N,w],2, .rw⟩).set (h.length+1) ⟨[.string D, .string Q, .int .i64 k],3, .rw⟩) w' (P.map pip)∧P.length<=40∧D'.size+Q'.size<=40000) ∧
    h<+:(H.set h.length ⟨[.int .i64 N,w],2, .rw⟩).set (h.length+1) ⟨[.string D, .string Q, .int .i64 k],3, .rw⟩:=fun H D Q k g sl hlen hz=>
  ⟨⟨N,P,w,x,D,Q,k,rfl,((sl.agr (Agr.set (le_refl _) (lt_succ_self _)) (.inr (by omega))).agr (Agr.set (le_refl _) (lt_succ_self _)) (.inr (by omega))).wide (by omega) (by simp;omega),by omega,hz⟩,pre_set (pre_set (agr_pre (prefix_append _ _) g (by omega)) (le_refl _)) (by omega)⟩
 by_cases g:netGood N P∧1<=x∧x<=N
 case neg=>
  have zS:hget (List.set (H2++(t++ [(⟨[.int .i64 (newC N P x).N,xP,xV, .int .i64 (newC N P x).src, .string (newC N P x).D, .string (newC N P x).Q, .int .i64 (newC N P x).cnt],7, .rw⟩:Blk)])) h.length ⟨[.int .i64 N,w],2, .rw⟩) (h.length+1)=_:=(hget_set_ne (by omega)).trans (self_get z2 _)
  have yS:hget (List.set (H2++(t++ [(⟨[.int .i64 (newC N P x).N,xP,xV, .int .i64 (newC N P x).src, .string (newC N P x).D, .string (newC N P x).Q, .int .i64 (newC N P x).cnt],7, .rw⟩:Blk)])) h.length ⟨[.int .i64 N,w],2, .rw⟩) h.length=some ⟨[.int .i64 N,w],2, .rw⟩:=set_get (self_get y2 _) _
  have yF:hget ((List.set (H2++(t++ [(⟨[.int .i64 (newC N P x).N,xP,xV, .int .i64 (newC N P x).src, .string (newC N P x).D, .string (newC N P x).Q, .int .i64 (newC N P x).cnt],7, .rw⟩:Blk)])) h.length ⟨[.int .i64 N,w],2, .rw⟩).set (h.length+1) ⟨[.string ⟨#[]⟩, .string ⟨#[]⟩, .int .i64 0],3, .rw⟩) h.length=some ⟨[.int .i64 N,w],2, .rw⟩:=(hget_set_ne (by omega)).trans yS
  have zF:=set_get zS (⟨[.string ⟨#[]⟩, .string ⟨#[]⟩, .int .i64 0],3, .rw⟩:Blk)
  simp only[go_sem,dect g,self_get n2,o1,self_get y2,self_get z2,zS,yF,zF,own_ge (le_refl h.length),own_ge (show h.length<=h.length+1 by omega),own_ge L2']
  exact tail _ ⟨#[]⟩ ⟨#[]⟩ 0 (G2.trans Agr.app) (sl2.mono (prefix_append _ _)) (by simp;omega) (by decide)
 simp only[go_sem,decb g,own_ge L2']
 obtain⟨b8,hb8⟩: ∃b8,b8=H2.length+t.length:=⟨_,rfl⟩
 have n3:hget (H2++(t++ [⟨[.int .i64 (newC N P x).N,xP,xV, .int .i64 (newC N P x).src, .string (newC N P x).D, .string (newC N P x).Q, .int .i64 (newC N P x).cnt],7, .rw⟩])) H1.length=_:=self_get n2 _
 have y3:hget (H2++(t++ [⟨[.int .i64 (newC N P x).N,xP,xV, .int .i64 (newC N P x).src, .string (newC N P x).D, .string (newC N P x).Q, .int .i64 (newC N P x).cnt],7, .rw⟩])) h.length=_:=self_get y2 _
 have z3:hget (H2++(t++ [⟨[.int .i64 (newC N P x).N,xP,xV, .int .i64 (newC N P x).src, .string (newC N P x).D, .string (newC N P x).Q, .int .i64 (newC N P x).cnt],7, .rw⟩])) (h.length+1)=_:=self_get z2 _
 have k3:hget (H2++(t++ [⟨[.int .i64 (newC N P x).N,xP,xV, .int .i64 (newC N P x).src, .string (newC N P x).D, .string (newC N P x).Q, .int .i64 (newC N P x).cnt],7, .rw⟩])) b8=some ⟨[.int .i64 (newC N P x).N,xP,xV, .int .i64 (newC N P x).src, .string (newC N P x).D, .string (newC N P x).Q, .int .i64 (newC N P x).cnt],7, .rw⟩:=by rw[hb8, ←append_assoc, ←length_append];exact hget_new
 have sl3:=sl2.mono (prefix_append _ (t++ [⟨[.int .i64 (newC N P x).N,xP,xV, .int .i64 (newC N P x).src, .string (newC N P x).D, .string (newC N P x).Q, .int .i64 (newC N P x).cnt],7, .rw⟩]))
 have q3:=(q.cl.mono (prefix_append _ [⟨[.int .i64 (newC N P x).N,xP,xV, .int .i64 (newC N P x).src, .string (newC N P x).D, .string (newC N P x).Q, .int .i64 (newC N P x).cnt],7, .rw⟩]))
 rw[append_assoc] at q3
 have lq:(H2++t).length=b8:=by rw[hb8,length_append]
 rw[lq] at q3
 have s3:=(s2.app (t++ [⟨[.int .i64 (newC N P x).N,xP,xV, .int .i64 (newC N P x).src, .string (newC N P x).D, .string (newC N P x).Q, .int .i64 (newC N P x).cnt],7, .rw⟩])).more (show 0+200+4<=1000 by omega)
 have G3:=G2.trans (Agr.app (t:=t++ [⟨[.int .i64 (newC N P x).N,xP,xV, .int .i64 (newC N P x).src, .string (newC N P x).D, .string (newC N P x).Q, .int .i64 (newC N P x).cnt],7, .rw⟩]))
 rw[←hb8]
 generalize H2++(t++ [⟨[.int .i64 (newC N P x).N,xP,xV, .int .i64 (newC N P x).src, .string (newC N P x).D, .string (newC N P x).Q, .int .i64 (newC N P x).cnt],7, .rw⟩])=H3 at n3 y3 z3 k3 sl3 q3 s3 G3 ⊢
 have hk3:=hget_lt k3
 clear q n2 y2 z2 sl2 s2 G2 sl1 s1 g1 g2 y1 z1
 refine (d_pick _ s3 hown (by omega)).go ?_
 rintro _ H4 ⟨⟨m,rfl,m0,m1⟩,s4,g4⟩
 have n4:=agr_get g4 n3 (by omega)
 have y4:=agr_get g4 y3 (by omega)
 have z4:=agr_get g4 z3 (by omega)
 have k4:=agr_get g4 k3 (by omega)
 have sl4:=sl3.agr g4 (.inr (by omega))
 have q4:=q3.agr g4 (.inr (by omega))
 have G4:=G3.trans g4
 have hk4:=hget_lt k4
 have cb0:CB (newC N P x):=by unfold newC;rw[if_pos g];exact⟨hnb, .nil,by simp only;omega,zero_le _⟩
 have hD0:(newC N P x).D.size+(newC N P x).Q.size<=30000:=by unfold newC;rw[if_pos g];exact (show ByteArray.empty.size+ByteArray.empty.size<=30000 by decide)
 try simp only[go_sem]
 refine vLoopR.count mo 6 (fun i e H=> ∃(c:Con) (wP wV:Value) (lo up:Nat),Regs e [(2, .pointer (some ⟨h.length,0,none⟩)),(4, .pointer (some ⟨h.length+1,0,none⟩)),(5, .pointer (some ⟨h.length+2,0,none⟩)),(6, .pointer (some ⟨H1.length,0,none⟩)),(7, .int .i64 x),(8, .pointer (some ⟨b8,0,none⟩)),(10, .int .i64 (m-i))]∧St H (h.length+2) n b (2000+110*i) ∧
   Agr (h.length+2) (h.length+2+1) (h++ [⟨[.int .i64 0, .slice none 0 0],2, .rw⟩,⟨[.string ⟨#[]⟩, .string ⟨#[]⟩, .int .i64 0],3, .rw⟩,⟨[.slice b n 0, .int .i64 0, .int .u64 0],3, .rw⟩]) H ∧
   hget H h.length=some ⟨[.int .i64 0, .slice none 0 0],2, .rw⟩∧hget H (h.length+1)=some ⟨[.string ⟨#[]⟩, .string ⟨#[]⟩, .int .i64 0],3, .rw⟩∧hget H H1.length=some ⟨[.int .i64 N,w],2, .rw⟩∧hget H b8=some (conB c wP wV)∧SL (h.length+3) H1.length H w (P.map pip) ∧
   CL lo up H c wP wV∧(h.length+3<=lo∧(up<=b8∨b8+1<=lo)∧up<=H.length)∧CB c∧c.D.size+c.Q.size<=30000∧(i:Int)<=m) ?_ ?_
 ·exact⟨newC N P x,xP,xV,H2.length,b8,(by simp[Regs,upd,put,env0,hb8,Int.sub_zero]),s4.more (by omega),G4,y4,z4,n4,k4,sl4,q4,by omega,cb0,hD0,m0⟩
 ·rintro i e H hi ⟨c,wP,wV,lo,up,⟨e2,e4,e5,e6,e7,e8,e10,_⟩,st,G,y,z,nn,kk,sl,cl,hlo,cb,hD,him⟩
  have o1:=cl.p.one
  have o2:=cl.v.one
  have ow:=fc.one
  have kk':hget H b8=some ⟨[.int .i64 c.N,wP,wV, .int .i64 c.src, .string c.D, .string c.Q, .int .i64 c.cnt],7, .rw⟩:=kk
  have hkH:=hget_lt kk
  have cv:conV c wP wV = .agg #[.int .i64 c.N,wP,wV, .int .i64 c.src, .string c.D, .string c.Q, .int .i64 c.cnt]:=rfl
  have sm:=CB.small' cb hD
  by_cases h1:0<m-(i:Int)
  ·simp only[go_sem,e2,e4,e5,e6,e7,e8,e10,h1,kk',o1,o2]
   try rw[←cv]
   refine (e_command c wP wV cl (by omega) hlo.2.2 cb st hown (by omega)).go ?_
   rintro _ H5 ⟨⟨s,rfl,hs⟩,s5,g5⟩
   have k5:=agr_get g5 kk' (by omega)
   have y5:=agr_get g5 y (by omega)
   have z5:=agr_get g5 z (by omega)
   have n5:=agr_get g5 nn (by omega)
   have cl5:=cl.agr g5 (.inr (by omega))
   have sl5:=sl.agr g5 (.inr (by omega))
   have l5:=g5.1
   simp only[go_sem,e2,e4,e5,e6,e7,e8,e10,h1,kk',k5,o1,o2,l5]
   try rw[←cv]
   refine (c_sExecuteCommand c s wP wV cl5.s sm (by omega)).go ?_
   rintro _ _⟨⟨E,uP,uV,rfl,hE,q⟩,⟨t2,rfl⟩⟩
   simp only[go_sem,e2,e4,e5,e6,e7,e8,e10,h1,conV,q.one.1,q.one.2,self_get k5,own_ge (show h.length<=b8 by omega)]
   have ag:Agr b8 (b8+1) (H5++t2) ((H5++t2).set b8 ⟨[.int .i64 E.N,uP,uV, .int .i64 E.src, .string E.D, .string E.Q, .int .i64 E.cnt],7, .rw⟩):=Agr.set (le_refl _) (lt_succ_self _)
   have qc:=q.cl.agr ag (.inr (by omega))
   refine⟨by omega,E,uP,uV,H5.length,(H5++t2).length,⟨e2,e4,e5,e6,e7,e8,by rw[upd,if_pos rfl,wrap64 (by omega)];congr 1;omega,trivial⟩,((s5.app t2).set (self_get k5 t2) rfl (by omega)).more (by omega),
    agr_out (G.trans (g5.trans (Agr.app (t:=t2)))) ag (by simp;omega), ?_, ?_, ?_,set_get (self_get k5 t2) _,(sl5.mono (prefix_append _ t2)).agr ag (.inl (by omega)),qc,by rw[length_set];omega,by rw[hE];exact cb.exec,by rw[hE];exact exec_log hD,by omega⟩
   ·rw[hget_set_ne (by omega)];exact self_get y5 t2
   ·rw[hget_set_ne (by omega)];exact self_get z5 t2
   ·rw[hget_set_ne (by omega)];exact self_get n5 t2
  ·simp only[go_sem,e2,e4,e5,e6,e7,e8,e10,h1,kk',o1,o2,ow,own_ge (show h.length<=H.length by omega)]
   refine (d_one _ (st.app _) hown (by omega)).go ?_
   rintro _ H6 ⟨⟨gb,rfl⟩,s6,g6⟩
   have lB:=agr_get g6 (hget_new (h:=H)) (by omega)
   have yB:=agr_get g6 (self_get y _) (by omega)
   have zB:=agr_get g6 (self_get z _) (by omega)
   have nB:=agr_get g6 (self_get nn _) (by omega)
   have sl6:=(sl.mono (prefix_append _ _)).agr g6 (.inr (by omega))
   have l6:H.length+1<=H6.length:=by simpa using g6.1
   have G6:=G.trans ((Agr.app (t:= [⟨[.string c.D, .string c.Q, .int .i64 c.cnt],3, .rw⟩])).trans g6)
   cases gb with
   | false=>
    have yS:hget (List.set H6 h.length ⟨[.int .i64 N,w],2, .rw⟩) h.length=some ⟨[.int .i64 N,w],2, .rw⟩:=set_get yB _
    have zS:hget (List.set H6 h.length ⟨[.int .i64 N,w],2, .rw⟩) (h.length+1)=_:=(hget_set_ne (by omega)).trans zB
    have yF:hget ((List.set H6 h.length ⟨[.int .i64 N,w],2, .rw⟩).set (h.length+1) ⟨[.string c.D, .string c.Q, .int .i64 c.cnt],3, .rw⟩) h.length=some ⟨[.int .i64 N,w],2, .rw⟩:=(hget_set_ne (by omega)).trans yS
    have zF:=set_get zS (⟨[.string c.D, .string c.Q, .int .i64 c.cnt],3, .rw⟩:Blk)
    simp only[go_sem,e2,e4,e5,e6,e7,e8,e10,h1,lB,nB,yB,zS,yF,zF,ow,own_ge (le_refl h.length),own_ge (show h.length<=h.length+1 by omega)]
    exact⟨(hget_set_ne (by omega)).trans lB,tail _ c.D c.Q c.cnt G6 sl6 (by omega) (by omega)⟩
   | true=>
    simp only[go_sem,e2,e4,e5,e6,e7,e8,e10,h1,lB]
    refine (d_logRecord s6 hown (by omega)).go ?_
    rintro _ H7 ⟨⟨cc,rr,rfl,hcc,hrr⟩,s7,g7⟩
    have l7:=g7.1
    have lB7:=agr_get g7 lB (by omega)
    have yB7:=agr_get g7 yB (by omega)
    have zB7:=agr_get g7 zB (by omega)
    have nB7:=agr_get g7 nB (by omega)
    have sl7:=sl6.agr g7 (.inr (by omega))
    simp only[go_sem,e2,e4,e5,e6,e7,e8,e10,h1,lB7,lB,l7]
    refine (c_sAppendRecord c.D c.Q c.cnt cc rr (by omega) (by omega) (by omega)).go ?_
    rintro _ _⟨rfl,⟨t3,rfl⟩⟩
    obtain⟨D2,P2,k2,co,hv,hbd⟩:=appV_bound c.D c.Q c.cnt cc rr
    rw[hv]
    have lC:=set_get (self_get lB7 t3) (⟨[.string D2, .string P2, .int .i64 k2],3, .rw⟩:Blk)
    have yC:hget ((H7++t3).set H.length (⟨[.string D2, .string P2, .int .i64 k2],3, .rw⟩:Blk)) h.length=_:=(hget_set_ne (by omega)).trans (self_get yB7 t3)
    have zC:hget ((H7++t3).set H.length (⟨[.string D2, .string P2, .int .i64 k2],3, .rw⟩:Blk)) (h.length+1)=_:=(hget_set_ne (by omega)).trans (self_get zB7 t3)
    have nC:hget ((H7++t3).set H.length (⟨[.string D2, .string P2, .int .i64 k2],3, .rw⟩:Blk)) H1.length=_:=(hget_set_ne (by omega)).trans (self_get nB7 t3)
    have ag:Agr H.length (H.length+1) (H7++t3) ((H7++t3).set H.length (⟨[.string D2, .string P2, .int .i64 k2],3, .rw⟩:Blk)):=Agr.set (le_refl _) (lt_succ_self _)
    have G8:=agr_out (G6.trans (g7.trans (Agr.app (t:=t3)))) ag (by simp;omega)
    have sl8:=(sl7.mono (prefix_append _ t3)).agr ag (.inl (by omega))
    have len8:H1.length<=((H7++t3).set H.length (⟨[.string D2, .string P2, .int .i64 k2],3, .rw⟩:Blk)).length:=by rw[length_set,length_append];omega
    simp only[go_sem,e2,e4,e5,e6,e7,e8,e10,h1,self_get lB7,own_ge (show h.length<=H.length by omega)]
    rw[show setRange [.string c.D, .string c.Q, .int .i64 c.cnt] 0 [.string D2, .string P2, .int .i64 k2]= [.string D2, .string P2, .int .i64 k2] from rfl]
    generalize (H7++t3).set H.length (⟨[.string D2, .string P2, .int .i64 k2],3, .rw⟩:Blk)=H8 at lC yC zC nC ag G8 sl8 len8 ⊢
    have yS:hget (List.set H8 h.length ⟨[.int .i64 N,w],2, .rw⟩) h.length=some ⟨[.int .i64 N,w],2, .rw⟩:=set_get yC _
    have zS:hget (List.set H8 h.length ⟨[.int .i64 N,w],2, .rw⟩) (h.length+1)=_:=(hget_set_ne (by omega)).trans zC
    have yF:hget ((List.set H8 h.length ⟨[.int .i64 N,w],2, .rw⟩).set (h.length+1) ⟨[.string D2, .string P2, .int .i64 k2],3, .rw⟩) h.length=some ⟨[.int .i64 N,w],2, .rw⟩:=(hget_set_ne (by omega)).trans yS
    have zF:=set_get zS (⟨[.string D2, .string P2, .int .i64 k2],3, .rw⟩:Blk)
    simp only[go_sem,e2,e4,e5,e6,e7,e8,e10,h1,lC,nC,yC,zS,yF,zF,ow,own_ge (le_refl h.length),own_ge (show h.length<=h.length+1 by omega)]
    exact⟨(hget_set_ne (by omega)).trans lC,tail _ D2 P2 k2 G8 sl8 (by omega) (by omega)⟩
end
open Go.HH Go.Proofs
section
variable {h:Heap} {M:Nat->Prop}
set_option maxRecDepth 8000 in
set_option maxHeartbeats 4000000 in
theorem c_DrawRunScript(b:Option Addr)(n:Nat)(hcode:CodeOk h b n) :
  vCall [] Tryz.prog M 34 [.slice b n 0] h (fun r h'=>(∃c wP wV s,r = .tuple #[conV c wP wV, .string s]∧CL h.length h'.length h' c wP wV∧CB c∧c.D.size+c.Q.size<=30000∧s.size<=1000)∧h<+:h'):=by
 refine bo Tryz.func34 rfl rfl ?_
 simp only[go_sem]
 have s0:=St.start1 (z:=⟨[.int .i64 0, .slice none 0 0, .slice none 0 0, .int .i64 0, .string ⟨#[]⟩, .string ⟨#[]⟩, .int .i64 0],7, .rw⟩) hcode
 have hown:own h.length M (h.length+1):=Or.inl (Nat.le_succ _)
 refine (e_console s0 hown (by omega)).go ?_
 rintro _ H1 ⟨⟨c,wP,wV,rfl,cl,cb,hD⟩,s1,g1⟩
 have cv:conV c wP wV = .agg #[.int .i64 c.N,wP,wV, .int .i64 c.src, .string c.D, .string c.Q, .int .i64 c.cnt]:=rfl
 have z1:=agr_get g1 hget_lit0 (by omega)
 have L1:h.length+2<=H1.length:=by simpa using g1.1
 have o1:=cl.p.one
 have o2:=cl.v.one
 have cl1:=cl.mono (prefix_append _ [⟨[.int .i64 c.N,wP,wV, .int .i64 c.src, .string c.D, .string c.Q, .int .i64 c.cnt],7, .rw⟩])
 simp only[length_append,length_cons,length_nil] at cl1
 simp only[go_sem,conV,o1,o2,own_ge (show h.length<=H1.length by omega)]
 try rw[←cv]
 refine (e_command c wP wV cl1 (by omega) (by simp) cb (s1.app _) hown (by omega)).go ?_
 rintro _ H2 ⟨⟨s,rfl,hs⟩,s2,g2⟩
 have y2:=agr_get g2 hget_new (by omega)
 have z2:=agr_get g2 (self_get z1 _) (by omega)
 have cl2:=cl1.agr g2 (.inr (by omega))
 have G2:=g1.trans ((Agr.app (t:= [_])).trans g2)
 simp only[go_sem,conV,o1,o2]
 refine (d_pick _ s2 hown (by omega)).go ?_
 rintro _ H3 ⟨⟨m,rfl,m0,m1⟩,s3,g3⟩
 have y3:=agr_get g3 y2 (by omega)
 have z3:=agr_get g3 z2 (by omega)
 have cl3:=cl2.agr g3 (.inr (by omega))
 have G3:=G2.trans g3
 try simp only[go_sem]
 refine vLoop.count mo 4 (fun i e H=> ∃s:ByteArray,Regs e [(2, .pointer (some ⟨h.length,0,none⟩)),(4, .pointer (some ⟨h.length+1,0,none⟩)),(5, .pointer (some ⟨H1.length,0,none⟩)),(6, .string s),(7, .int .i64 (m-i))] ∧
  St H (h.length+1) n b (5000+110*i)∧Agr (h.length+1) (h.length+2) H3 H∧s.size<=100+101*i∧(i:Int)<=m) ?_ ?_
 ·exact⟨s,(by simp[Regs,upd,put,env0,Int.sub_zero]),s3.more (by omega),Agr.refl,by omega,m0⟩
 ·rintro i e H hi ⟨s,⟨e2,e4,e5,e6,e7,_⟩,st,ag,hz,him⟩
  have yH:=agr_get ag y3 (by omega)
  have zH:=agr_get ag z3 (by omega)
  have clH:=cl3.agr ag (.inr (by omega))
  have hlH:=hget_lt yH
  by_cases h1:0<m-(i:Int)
  ·obtain⟨v1,q1,r1⟩:=padd (a:=s) (b:=⟨#[10]⟩) (100+101*i) 1 hz (le_refl 1) (by omega)
   simp only[go_sem,e2,e4,e5,e6,e7,h1,yH,q1,o1,o2]
   try rw[←cv]
   refine (e_command c wP wV clH (by omega) (by omega) cb st hown (by omega)).go ?_
   rintro _ H4 ⟨⟨s',rfl,hs'⟩,s4,g4⟩
   obtain⟨v2,q2,r2⟩:=padd (a:=v1) (b:=s') (100+101*i+1) 100 r1 hs' (by omega)
   simp only[go_sem,e2,e4,e5,e6,e7,h1,q2]
   exact⟨by omega,v2,⟨e2,e4,e5,rfl,by rw[upd,if_pos rfl,wrap64 (by omega)];congr 1;omega,trivial⟩,s4.more (by omega),ag.trans g4,by omega,by omega⟩
  ·simp only[go_sem,e2,e4,e5,e6,e7,h1]
   refine (d_one _ st hown (by omega)).go ?_
   rintro _ H5 ⟨⟨gb,rfl⟩,s5,g5⟩
   have y5:=agr_get g5 yH (by omega)
   have z5:=agr_get g5 zH (by omega)
   have cl5:=clH.agr g5 (.inr (by omega))
   have G5:=G3.trans (ag.trans g5)
   cases gb with
   | false=>
    simp only[go_sem,e2,e4,e5,e6,e7,h1,y5,z5,o1,o2,own_ge (le_refl h.length),set_get z5]
    exact⟨⟨c,wP,wV,s,rfl,(cl5.agr (Agr.set (le_refl _) (lt_succ_self _)) (.inr (by omega))).wide (by omega) (by simp;have:=hget_lt y5;omega),cb,hD,by omega⟩,pre_set (agr_pre (prefix_append _ _) G5 (by omega)) (le_refl _)⟩
   | true=>
    simp only[go_sem,e2,e4,e5,e6,e7,h1]
    refine (d_pick _ s5 hown (by omega)).go ?_
    rintro _ H6 ⟨⟨k,rfl,k0,k1⟩,s6,g6⟩
    have y6:=agr_get g6 y5 (by omega)
    have z6:=agr_get g6 z5 (by omega)
    have cl6:=cl5.agr g6 (.inr (by omega))
    have G6:=G5.trans g6
    have wk:IntKind.i64.wrap (29+k)=29+k:=wrap64 (by omega)
    simp only[go_sem,e2,e4,e5,e6,e7,h1,wk]
    refine vLoop.count mo 31 (fun i e h'=> ∃s:ByteArray,Regs e [(2, .pointer (some ⟨h.length,0,none⟩)),(5, .pointer (some ⟨H1.length,0,none⟩)),(6, .string s),(8, .int .i64 (29+k-i))]∧HeapIs h' H6∧s.size<=i∧(i:Int)<=29+k) ?_ ?_
    ·exact⟨⟨#[]⟩,⟨e2,e5,rfl,by simp[upd,put],trivial⟩, .rfl,by decide,by omega⟩
    ·clear e2 e4 e5 e6 e7 hz him h1
     rintro i e _ hi ⟨s,⟨e2,e5,e6,e8,_⟩,rfl,hz,him⟩
     by_cases h2:0<29+k-(i:Int)
     ·obtain⟨v1,q1,r1⟩:=padd (a:=s) (b:=⟨#[10]⟩) i 1 hz (le_refl 1) (by omega)
      simp only[go_sem,e2,e5,e6,e8,h2,q1]
      exact⟨by omega,v1,⟨e2,e5,rfl,by rw[upd,if_pos rfl,wrap64 (by omega)];congr 1;omega,trivial⟩, .rfl,by omega,by omega⟩
     ·simp only[go_sem,e2,e5,e6,e8,h2,y6,z6,o1,o2,own_ge (le_refl h.length),set_get z6]
      exact⟨⟨c,wP,wV,s,rfl,(cl6.agr (Agr.set (le_refl _) (lt_succ_self _)) (.inr (by omega))).wide (by omega) (by simp;have:=hget_lt y6;omega),cb,hD,by omega⟩,pre_set (agr_pre (prefix_append _ _) G6 (by omega)) (le_refl _)⟩
end
open Go.HH Go.Proofs
section
variable {h:Heap} {M:Nat->Prop}
theorem c_vPipes(v w:Value)(l:List Pip)(s:Sl h 4 v (l.map pip))(s':Sl h 4 w (l.map pip))(hmax:l.length<=1048576):vCall [] Tryz.prog M 116 [v,w] h (fun r h'=>r = .bool true∧h<+:h'):=by
 obtain⟨a,hv,_,_⟩:=id s
 obtain⟨b,hw,_,_⟩:=id s'
 rw[length_map] at hv hw
 subst hv hw
 refine bo Tryz.func116 rfl rfl ?_
 simp only[go_sem,bne_self_eq_false]
 refine vLoop.count mo l.length (fun i e h'=>Regs e [(0, .slice a l.length 0),(1, .slice b l.length 0),(5, .int .i64 i)]∧HeapIs h' h) ?_ ?_
 ·exact⟨⟨rfl,rfl,rfl,trivial⟩, .rfl⟩
 ·rintro i e _ hi ⟨⟨e0,e1,e5,_⟩,rfl⟩
  by_cases hlt:i<l.length
  ·have wi:=wsucc hlt (by omega)
   have hz:(i:Int)<l.length:=by omega
   have hlt':i<(l.map pip).length:=by rw[length_map];exact hlt
   obtain⟨id,off,k,hv,_,hk,hd,hb,hrow,_⟩:=s.at hlt'
   rw[length_map] at hv
   obtain rfl:a=some ⟨id,off,none⟩:=by simpa using hv
   obtain⟨id2,off2,k2,hv2,_,hk2,hd2,hb2,hrow2,_⟩:=s'.at hlt'
   rw[length_map] at hv2
   obtain rfl:b=some ⟨id2,off2,none⟩:=by simpa using hv2
   simp only[go_sem,e0,e1,e5,hz,hk,hrow,hk2,hrow2,getElem_map,pip,hd,hb,hd2,hb2,eqs,bne_self_eq_false]
   exact⟨hlt,⟨e0,e1,congrArg _ wi,trivial⟩, .rfl⟩
  ·obtain rfl:i=l.length:=by omega
   simp only[go_sem,e0,e1,e5,show ¬((l.length:Int)<l.length) by omega]
   try all_goals exact fin_
theorem c_vValves(v w:Value)(l:List Vlv)(s:Sl h 4 v (l.map vlv))(s':Sl h 4 w (l.map vlv))(hmax:l.length<=1048576):vCall [] Tryz.prog M 63 [v,w] h (fun r h'=>r = .bool true∧h<+:h'):=by
 obtain⟨a,hv,_,_⟩:=id s
 obtain⟨b,hw,_,_⟩:=id s'
 rw[length_map] at hv hw
 subst hv hw
 refine bo Tryz.func63 rfl rfl ?_
 simp only[go_sem,bne_self_eq_false]
 refine vLoop.count mo l.length (fun i e h'=>Regs e [(0, .slice a l.length 0),(1, .slice b l.length 0),(5, .int .i64 i)]∧HeapIs h' h) ?_ ?_
 ·exact⟨⟨rfl,rfl,rfl,trivial⟩, .rfl⟩
 ·rintro i e _ hi ⟨⟨e0,e1,e5,_⟩,rfl⟩
  by_cases hlt:i<l.length
  ·have wi:=wsucc hlt (by omega)
   have hz:(i:Int)<l.length:=by omega
   have hlt':i<(l.map vlv).length:=by rw[length_map];exact hlt
   obtain⟨id,off,k,hv,_,hk,hd,hb,hrow,_⟩:=s.at hlt'
   rw[length_map] at hv
   obtain rfl:a=some ⟨id,off,none⟩:=by simpa using hv
   obtain⟨id2,off2,k2,hv2,_,hk2,hd2,hb2,hrow2,_⟩:=s'.at hlt'
   rw[length_map] at hv2
   obtain rfl:b=some ⟨id2,off2,none⟩:=by simpa using hv2
   simp only[go_sem,e0,e1,e5,hz,hk,hrow,hk2,hrow2,getElem_map,vlv,hd,hb,hd2,hb2,eqs,bne_self_eq_false]
   exact⟨hlt,⟨e0,e1,congrArg _ wi,trivial⟩, .rfl⟩
  ·obtain rfl:i=l.length:=by omega
   simp only[go_sem,e0,e1,e5,show ¬((l.length:Int)<l.length) by omega]
   try all_goals exact fin_
theorem c_vNetwork{n m:Nat}(v w:Value)(N:Int)(P:List Pip)(s:NA n h v N P)(s':NA m h w N P)(hmax:P.length<=1048576):vCall [] Tryz.prog M 62 [v,w] h (fun r h'=>r = .bool true∧h<+:h'):=by
 obtain⟨v,rfl,s⟩:=s
 obtain⟨w,rfl,s'⟩:=s'
 have o1:oneC v=true:=by obtain⟨a,e,_⟩:=s.1;rw[e];rfl
 have o2:oneC w=true:=by obtain⟨a,e,_⟩:=s'.1;rw[e];rfl
 refine bo Tryz.func62 rfl rfl ?_
 simp only[go_sem,o1,o2,beq_self_eq_true]
 refine (c_vPipes _ _ P ((s.mono (by simp)).1) ((s'.mono (by simp)).1) hmax).go ?_
 rintro _ _⟨rfl,⟨t,rfl⟩⟩
 simp only[go_sem]
 try all_goals exact fin_
theorem c_vConsole{n m:Nat}(c:Con)(wP wV xP xV:Value)(s:ConS n h c wP wV)(s':ConS m h c xP xV)(hP:c.P.length<=1048576)(hV:c.V.length<=1048576):vCall [] Tryz.prog M 20 [conV c wP wV,conV c xP xV] h (fun r h'=>r = .bool true∧h<+:h'):=by
 have o1:oneC wP=true:=by obtain⟨a,e,_⟩:=s.p.1;rw[e];rfl
 have o2:oneC xP=true:=by obtain⟨a,e,_⟩:=s'.p.1;rw[e];rfl
 have o3:oneC wV=true:=by obtain⟨a,e,_⟩:=s.v.1;rw[e];rfl
 have o4:oneC xV=true:=by obtain⟨a,e,_⟩:=s'.v.1;rw[e];rfl
 refine bo Tryz.func20 rfl rfl ?_
 simp only[go_sem,conV,o1,o2,o3,o4]
 refine (c_vNetwork _ _ c.N c.P ⟨_,rfl,s.p.mono (by simp)⟩ ⟨_,rfl,s'.p.mono (by simp)⟩ hP).go ?_
 rintro _ _⟨rfl,⟨t,rfl⟩⟩
 simp only[go_sem,o1,o2,o3,o4]
 refine (c_vValves _ _ c.V ((s.v.mono (by simp)).1) ((s'.v.mono (by simp)).1) hV).go ?_
 rintro _ _⟨rfl,⟨t2,rfl⟩⟩
 simp only[go_sem,o1,o2,o3,o4,eqs,beq_self_eq_true]
 try all_goals exact fin_
end
end Go.Proofs.YtedidddimikjhaaGreatDoor
