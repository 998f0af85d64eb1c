/- Texts of this claim, joined. No condition. -/
import Derived.Test.YtedidddimikjhaaGreatDoorFnReplPart9
import Derived.Test.YtedidddimikjhaaGreatDoorFnReplPart4
import Derived.Test.YtedidddimikjhaaGreatDoorFnReplPart6
open List (length_map prefix_append append_assoc length_append getElem?_eq_getElem getElem_map length_take getElem_mem getElem?_append_left getElem?_append_right length_cons getElem?_cons_zero mem_map take_length getElem?_cons_succ cons_append map_append length_nil mem_iff_getElem getElem?_drop take_of_length_le mem_cons map_cons drop_zero append_nil length_pos_iff nil_append length_singleton mem_cons_of_mem length_drop flatten_cons getElem?_set_ne take_left' take_add_one mem_filter length_set flatten_append take_succ_eq_append_getElem drop_left' foldl_cons)
open Nat (le_refl le_trans add_zero lt_or_ge zero_le zero_add sub_self min_eq_left zero_lt_of_lt)
set_option linter.unusedSimpArgs false
set_option linter.unusedVariables false
namespace Go.Proofs.YtedidddimikjhaaGreatDoor
open Go.HH Go.Proofs
theorem FQs.v2{h t u:Heap}{a b a' b':Blk}{lo hi:Nat}{v:Value}{rows:List (List Value)}(s:FQs lo hi 4 (h++ [a,b]++t) v rows)(hl:h.length+2<=lo):FQs lo hi 4 (h++a'::b'::(t++u)) v rows:=by
 have:=(s.swapped (y:= [a',b']) hl rfl (le_refl _) (le_refl _)).mono (prefix_append _ u)
 simpa using this
theorem FQs.v4{h t t2:Heap}{a b c d a' b' c' d':Blk}{lo hi:Nat}{v:Value}{rows:List (List Value)}(s:FQs lo hi 4 (h++a::b::(t++ [c,d])++t2) v rows)(hl:h.length+t.length+4<=lo):FQs lo hi 4 (h++a'::b'::(t++c'::d'::t2)) v rows:=by
 have s':FQs lo hi 4 (h++([a,b]++t++ [c,d])++t2) v rows:=by simpa using s
 have:=s'.swapped (y:= [a',b']++t++ [c',d']) (by simp;omega) (by simp) (le_refl _) (le_refl _)
 simpa using this
theorem FQs.v3{h t t2:Heap}{a b c a' b' c':Blk}{lo hi:Nat}{v:Value}{rows:List (List Value)}(s:FQs lo hi 4 (h++a::b::(t++ [c])++t2) v rows)(hl:h.length+t.length+3<=lo):FQs lo hi 4 (h++a'::b'::(t++c'::t2)) v rows:=by
 have s':FQs lo hi 4 (h++([a,b]++t++ [c])++t2) v rows:=by simpa using s
 have:=s'.swapped (y:= [a',b']++t++ [c']) (by simp;omega) (by simp) (le_refl _) (le_refl _)
 simpa using this
section
variable {h:Heap} {M:Nat->Prop}
set_option maxRecDepth 4000 in
theorem c_changeP{n:Nat}(C:Con)(wP wV vl:Value)(l:List Int)(sP:SB n 4 h wP (C.P.map pip))(sV:Sl h 4 wV (C.V.map vlv))(es:EszC h 4 wV)(g:conOk C)(sl:SI h vl l)(hl:(l.length:Int)=needs w_pipe) :
  vCall [] Tryz.prog M 106 [conV C wP wV, .string w_pipe,vl] h (fun r h'=>(∃E xP xV,r = .tuple #[conV E xP xV, .bool (editR C w_pipe l).isSome]∧(oneC xP=true∧oneC xV=true)∧(∀E',editR C w_pipe l=some E'->E=E'∧ConQ h.length h'.length h' E xP xV))∧h<+:h'):=by
 obtain⟨N,P,V,src,D,Q,cnt⟩:=C
 have hP10:P.length<=10:=g.1.1.2.2
 have hV10:V.length<=10:=g.1.2.1
 have hgn:netGood N P:=g.1.1
 simp only at sP sV es
 have o0:oneC wP=true:=by obtain⟨a,e,_⟩:=sP.1;rw[e];rfl
 have o0v:oneC wV=true:=by obtain⟨a,e,_⟩:=sV;rw[e];rfl
 have hv:NA n h (.agg #[.int .i64 N,wP]) N P:=⟨wP,rfl,sP⟩
 have none_ok:editR ⟨N,P,V,src,D,Q,cnt⟩ w_pipe l=none->∀(lo hi:Nat) (H:Heap) (E:Con) (xP xV:Value),oneC xP=true∧oneC xV=true->∃E₁ x y,Value.tuple #[conV E xP xV, .bool false] = .tuple #[conV E₁ x y, .bool (editR ⟨N,P,V,src,D,Q,cnt⟩ w_pipe l).isSome]∧(oneC x=true∧oneC y=true)∧(∀E',editR ⟨N,P,V,src,D,Q,cnt⟩ w_pipe l=some E'->E₁=E'∧ConQ lo hi H E₁ x y):=fun hn lo hi H E xP xV ho=>by
  refine⟨E,xP,xV,by rw[hn];rfl,ho,fun E' he => ?_⟩
  rw[hn] at he
  cases he
 have some_ok: ∀(E:Con),editR ⟨N,P,V,src,D,Q,cnt⟩ w_pipe l=some E->∀(lo hi:Nat) (H:Heap) (xP xV:Value),ConQ lo hi H E xP xV->∃E₁ x y,Value.tuple #[conV E xP xV, .bool true] = .tuple #[conV E₁ x y, .bool (editR ⟨N,P,V,src,D,Q,cnt⟩ w_pipe l).isSome]∧(oneC x=true∧oneC y=true)∧(∀E',editR ⟨N,P,V,src,D,Q,cnt⟩ w_pipe l=some E'->E₁=E'∧ConQ lo hi H E₁ x y):=fun E he lo hi H xP xV hq=>by
  refine⟨E,xP,xV,by rw[he];rfl,hq.one,fun E' he' => ?_⟩
  rw[he] at he'
  cases he'
  exact⟨rfl,hq⟩
 have qp:decide (w_pipe=w_pipe)=true:=by decide
 have qv:decide (w_pipe=w_valve)=false:=by decide
 have qs:decide (w_pipe=w_shut)=false:=by decide
 have qo:decide (w_pipe=w_open)=false:=by decide
 refine boR ([(4,[]),(11,[14]),(12,[]),(19,[])]) Tryz.func106 rfl rfl ?_
 simp only[go_sem,conV]
 refine (c_newConsoleX ⟨N,P,V,src,D,Q,cnt⟩ wP wV (sP.1.mono (by simp)) (sV.mono (by simp)) (le_trans hP10 (by decide)) (le_trans hV10 (by decide))).go ?_
 rintro _ _⟨⟨xP,xV,rfl,hq,hX⟩,⟨t,rfl⟩⟩
 obtain⟨o1,o2⟩:=hq.one
 obtain⟨a0,rfl⟩:=AI.len sl
 have l4:l.length=4:=by
  have hnn:needs w_pipe=4:=by decide
  omega
 obtain⟨idl,offl,kl,hvl,_,hkl,_,hdl,_,_,_,hat⟩:=AI.at sl (by omega)
 obtain rfl:a0=some ⟨idl,offl,none⟩:=by simpa using hvl
 have p0:=hat 0 (by omega)
 have p1:=hat 1 (by omega)
 have p2:=hat 2 (by omega)
 have p3:=hat 3 (by omega)
 rw[gl_at] at p0 p1 p2 p3
 simp only[add_zero] at p0
 simp only[go_sem,conV,toList_eq,qp,qv,qs,qo,o1,o2,beq_self_eq_true,hkl,hdl,add_zero,p0,p1,p2,p3,l4]
 refine (c_AddPipe wP N P (pipOf l) (sP.mono (by simp)) (le_trans hP10 (by decide))).go ?_
 rintro _ _⟨⟨x,rfl,fx⟩,⟨t2,rfl⟩⟩
 have ox:=fx.one
 simp only[go_sem,conV,toList_eq,qp,qv,qs,qo,o1,o2,ox,beq_self_eq_true,hkl,hdl,add_zero,p0,p1,p2,p3,l4]
 have he:editR ⟨N,P,V,src,D,Q,cnt⟩ w_pipe l=if addOk N P (pipOf l) then some ⟨N,insP P (pipOf l),V,src,D,Q,cnt⟩ else none:=by
  rw[editR,if_pos rfl]
  simp only[l4,true_and]
 by_cases c:addOk N P (pipOf l)
 ·rw[if_pos c] at he
  rw[decide_eq_true c,addN,if_pos c]
  rw[addR,if_pos c] at fx
  obtain⟨a,b,x',y',hh,_,vq⟩:=hq.p
  refine some_ok ⟨N,insP P (pipOf l),V,src,D,Q,cnt⟩ he _ _ _ x xV ⟨_,_,x',y', ?_,fx.v4 ?_,vq.v2 ?_⟩
  all_goals (simp at hh ⊢;try omega)
 ·rw[if_neg c] at he
  rw[decide_eq_false c]
  exact none_ok he _ _ _ ⟨addN N P (pipOf l),[],[],src,D,Q,cnt⟩ x xV ⟨ox,o2⟩
set_option maxRecDepth 4000 in
theorem c_changeS{n:Nat}(C:Con)(wP wV vl:Value)(l:List Int)(sP:SB n 4 h wP (C.P.map pip))(sV:Sl h 4 wV (C.V.map vlv))(es:EszC h 4 wV)(g:conOk C)(sl:SI h vl l)(hl:(l.length:Int)=needs w_source) :
  vCall [] Tryz.prog M 106 [conV C wP wV, .string w_source,vl] h (fun r h'=>(∃E xP xV,r = .tuple #[conV E xP xV, .bool (editR C w_source l).isSome]∧(oneC xP=true∧oneC xV=true)∧(∀E',editR C w_source l=some E'->E=E'∧ConQ h.length h'.length h' E xP xV))∧h<+:h'):=by
 obtain⟨N,P,V,src,D,Q,cnt⟩:=C
 have hP10:P.length<=10:=g.1.1.2.2
 have hV10:V.length<=10:=g.1.2.1
 have hgn:netGood N P:=g.1.1
 simp only at sP sV es
 have o0:oneC wP=true:=by obtain⟨a,e,_⟩:=sP.1;rw[e];rfl
 have o0v:oneC wV=true:=by obtain⟨a,e,_⟩:=sV;rw[e];rfl
 have hv:NA n h (.agg #[.int .i64 N,wP]) N P:=⟨wP,rfl,sP⟩
 have none_ok:editR ⟨N,P,V,src,D,Q,cnt⟩ w_source l=none->∀(lo hi:Nat) (H:Heap) (E:Con) (xP xV:Value),oneC xP=true∧oneC xV=true->∃E₁ x y,Value.tuple #[conV E xP xV, .bool false] = .tuple #[conV E₁ x y, .bool (editR ⟨N,P,V,src,D,Q,cnt⟩ w_source l).isSome]∧(oneC x=true∧oneC y=true)∧(∀E',editR ⟨N,P,V,src,D,Q,cnt⟩ w_source l=some E'->E₁=E'∧ConQ lo hi H E₁ x y):=fun hn lo hi H E xP xV ho=>by
  refine⟨E,xP,xV,by rw[hn];rfl,ho,fun E' he => ?_⟩
  rw[hn] at he
  cases he
 have some_ok: ∀(E:Con),editR ⟨N,P,V,src,D,Q,cnt⟩ w_source l=some E->∀(lo hi:Nat) (H:Heap) (xP xV:Value),ConQ lo hi H E xP xV->∃E₁ x y,Value.tuple #[conV E xP xV, .bool true] = .tuple #[conV E₁ x y, .bool (editR ⟨N,P,V,src,D,Q,cnt⟩ w_source l).isSome]∧(oneC x=true∧oneC y=true)∧(∀E',editR ⟨N,P,V,src,D,Q,cnt⟩ w_source l=some E'->E₁=E'∧ConQ lo hi H E₁ x y):=fun E he lo hi H xP xV hq=>by
  refine⟨E,xP,xV,by rw[he];rfl,hq.one,fun E' he' => ?_⟩
  rw[he] at he'
  cases he'
  exact⟨rfl,hq⟩
 have qp:decide (w_source=w_pipe)=false:=by decide
 have qv:decide (w_source=w_valve)=false:=by decide
 have qs:decide (w_source=w_shut)=false:=by decide
 have qo:decide (w_source=w_open)=false:=by decide
 refine boR ([(4,[]),(11,[14]),(12,[]),(19,[])]) Tryz.func106 rfl rfl ?_
 simp only[go_sem,conV]
 refine (c_newConsoleX ⟨N,P,V,src,D,Q,cnt⟩ wP wV (sP.1.mono (by simp)) (sV.mono (by simp)) (le_trans hP10 (by decide)) (le_trans hV10 (by decide))).go ?_
 rintro _ _⟨⟨xP,xV,rfl,hq,hX⟩,⟨t,rfl⟩⟩
 obtain⟨o1,o2⟩:=hq.one
 obtain⟨a0,rfl⟩:=AI.len sl
 have l4:l.length=1:=by
  have hnn:needs w_source=1:=by decide
  omega
 obtain⟨idl,offl,kl,hvl,_,hkl,_,hdl,_,_,_,hat⟩:=AI.at sl (by omega)
 obtain rfl:a0=some ⟨idl,offl,none⟩:=by simpa using hvl
 have p0:=hat 0 (by omega)
 rw[gl_at] at p0
 simp only[add_zero] at p0
 simp only[go_sem,conV,toList_eq,qp,qv,qs,qo,o1,o2,beq_self_eq_true,hkl,hdl,add_zero,p0,l4]
 refine (c_has N wP (gl l 0)).go ?_
 rintro _ _⟨rfl,⟨t2,rfl⟩⟩
 simp only[go_sem,conV,toList_eq,qp,qv,qs,qo,o1,o2,beq_self_eq_true,hkl,hdl,add_zero,p0,l4]
 have he:editR ⟨N,P,V,src,D,Q,cnt⟩ w_source l=if 1<=gl l 0∧gl l 0<=N then some ⟨N,P,V,gl l 0,D,Q,cnt⟩ else none:=by
  rw[editR,if_neg (by decide),if_neg (by decide),if_neg (by decide),if_pos rfl]
  simp only[l4,true_and]
 by_cases c:1<=gl l 0∧gl l 0<=N
 ·rw[if_pos c] at he
  rw[decide_eq_true c]
  obtain⟨a,b,x',y',hh,pq,vq⟩:=hq.p
  refine some_ok ⟨N,P,V,gl l 0,D,Q,cnt⟩ he _ _ _ xP xV ⟨a,b,x',y', ?_,pq.v2 ?_,vq.v2 ?_⟩
  all_goals (simp at hh ⊢;try omega)
 ·rw[if_neg c] at he
  rw[decide_eq_false c]
  exact none_ok he _ _ _ ⟨N,[],[],gl l 0,D,Q,cnt⟩ xP xV ⟨o1,o2⟩
set_option maxRecDepth 4000 in
theorem c_changeH{n:Nat}(C:Con)(wP wV vl:Value)(l:List Int)(sP:SB n 4 h wP (C.P.map pip))(sV:Sl h 4 wV (C.V.map vlv))(es:EszC h 4 wV)(g:conOk C)(sl:SI h vl l)(hl:(l.length:Int)=needs w_shut) :
  vCall [] Tryz.prog M 106 [conV C wP wV, .string w_shut,vl] h (fun r h'=>(∃E xP xV,r = .tuple #[conV E xP xV, .bool (editR C w_shut l).isSome]∧(oneC xP=true∧oneC xV=true)∧(∀E',editR C w_shut l=some E'->E=E'∧ConQ h.length h'.length h' E xP xV))∧h<+:h'):=by
 obtain⟨N,P,V,src,D,Q,cnt⟩:=C
 have hP10:P.length<=10:=g.1.1.2.2
 have hV10:V.length<=10:=g.1.2.1
 have hgn:netGood N P:=g.1.1
 simp only at sP sV es
 have o0:oneC wP=true:=by obtain⟨a,e,_⟩:=sP.1;rw[e];rfl
 have o0v:oneC wV=true:=by obtain⟨a,e,_⟩:=sV;rw[e];rfl
 have hv:NA n h (.agg #[.int .i64 N,wP]) N P:=⟨wP,rfl,sP⟩
 have none_ok:editR ⟨N,P,V,src,D,Q,cnt⟩ w_shut l=none->∀(lo hi:Nat) (H:Heap) (E:Con) (xP xV:Value),oneC xP=true∧oneC xV=true->∃E₁ x y,Value.tuple #[conV E xP xV, .bool false] = .tuple #[conV E₁ x y, .bool (editR ⟨N,P,V,src,D,Q,cnt⟩ w_shut l).isSome]∧(oneC x=true∧oneC y=true)∧(∀E',editR ⟨N,P,V,src,D,Q,cnt⟩ w_shut l=some E'->E₁=E'∧ConQ lo hi H E₁ x y):=fun hn lo hi H E xP xV ho=>by
  refine⟨E,xP,xV,by rw[hn];rfl,ho,fun E' he => ?_⟩
  rw[hn] at he
  cases he
 have some_ok: ∀(E:Con),editR ⟨N,P,V,src,D,Q,cnt⟩ w_shut l=some E->∀(lo hi:Nat) (H:Heap) (xP xV:Value),ConQ lo hi H E xP xV->∃E₁ x y,Value.tuple #[conV E xP xV, .bool true] = .tuple #[conV E₁ x y, .bool (editR ⟨N,P,V,src,D,Q,cnt⟩ w_shut l).isSome]∧(oneC x=true∧oneC y=true)∧(∀E',editR ⟨N,P,V,src,D,Q,cnt⟩ w_shut l=some E'->E₁=E'∧ConQ lo hi H E₁ x y):=fun E he lo hi H xP xV hq=>by
  refine⟨E,xP,xV,by rw[he];rfl,hq.one,fun E' he' => ?_⟩
  rw[he] at he'
  cases he'
  exact⟨rfl,hq⟩
 have qp:decide (w_shut=w_pipe)=false:=by decide
 have qv:decide (w_shut=w_valve)=false:=by decide
 have qs:decide (w_shut=w_shut)=true:=by decide
 have qo:decide (w_shut=w_open)=false:=by decide
 refine boR ([(4,[]),(11,[14]),(12,[]),(19,[])]) Tryz.func106 rfl rfl ?_
 simp only[go_sem,conV]
 refine (c_newConsoleX ⟨N,P,V,src,D,Q,cnt⟩ wP wV (sP.1.mono (by simp)) (sV.mono (by simp)) (le_trans hP10 (by decide)) (le_trans hV10 (by decide))).go ?_
 rintro _ _⟨⟨xP,xV,rfl,hq,hX⟩,⟨t,rfl⟩⟩
 obtain⟨o1,o2⟩:=hq.one
 obtain⟨a0,rfl⟩:=AI.len sl
 have l4:l.length=1:=by
  have hnn:needs w_shut=1:=by decide
  omega
 obtain⟨idl,offl,kl,hvl,_,hkl,_,hdl,_,_,_,hat⟩:=AI.at sl (by omega)
 obtain rfl:a0=some ⟨idl,offl,none⟩:=by simpa using hvl
 have p0:=hat 0 (by omega)
 rw[gl_at] at p0
 simp only[add_zero] at p0
 simp only[go_sem,conV,toList_eq,qp,qv,qs,qo,o1,o2,beq_self_eq_true,hkl,hdl,add_zero,p0,l4]
 refine (c_TurnValve _ wV N P V (gl l 0) true (hv.mono (by simp)) (sV.mono (by simp)) (es.mono (by simp)) (le_trans hP10 (by decide)) (le_trans hV10 (by decide))).go ?_
 rintro _ _⟨⟨x,rfl,fx⟩,⟨t2,rfl⟩⟩
 obtain⟨xa,xn,rfl⟩: ∃a m,x = .slice a m 0:=by rcases fx with⟨id,rfl,_⟩|⟨_,a,rfl⟩<;>exact⟨_,_,rfl⟩
 have ox:=fx.one
 simp only[go_sem,conV,toList_eq,qp,qv,qs,qo,o1,o2,ox,beq_self_eq_true,hkl,hdl,add_zero,p0,l4]
 have he:editR ⟨N,P,V,src,D,Q,cnt⟩ w_shut l=if turnOk N P V (gl l 0) true then some ⟨N,P,turnR N P V (gl l 0) true,src,D,Q,cnt⟩ else none:=by
  rw[editR,if_neg (by decide),if_neg (by decide),if_pos (by decide),show decide (w_shut=w_shut)=true from by decide]
  simp only[l4,true_and]
 by_cases c:turnOk N P V (gl l 0) true
 ·rw[if_pos c] at he
  rw[decide_eq_true c]
  obtain⟨a,b,x',y',hh,pq,_⟩:=hq.p
  refine some_ok ⟨N,P,turnR N P V (gl l 0) true,src,D,Q,cnt⟩ he _ _ _ xP _ ⟨a,b,_,_, ?_,pq.v2 ?_,fx.v3 ?_⟩
  all_goals (simp at hh ⊢;try omega)
 ·rw[if_neg c] at he
  rw[decide_eq_false c]
  exact none_ok he _ _ _ ⟨N,[],turnR N P V (gl l 0) true,src,D,Q,cnt⟩ xP (.slice xa xn 0) ⟨o1,ox⟩
set_option maxRecDepth 4000 in
theorem c_changeO{n:Nat}(C:Con)(wP wV vl:Value)(l:List Int)(sP:SB n 4 h wP (C.P.map pip))(sV:Sl h 4 wV (C.V.map vlv))(es:EszC h 4 wV)(g:conOk C)(sl:SI h vl l)(hl:(l.length:Int)=needs w_open) :
  vCall [] Tryz.prog M 106 [conV C wP wV, .string w_open,vl] h (fun r h'=>(∃E xP xV,r = .tuple #[conV E xP xV, .bool (editR C w_open l).isSome]∧(oneC xP=true∧oneC xV=true)∧(∀E',editR C w_open l=some E'->E=E'∧ConQ h.length h'.length h' E xP xV))∧h<+:h'):=by
 obtain⟨N,P,V,src,D,Q,cnt⟩:=C
 have hP10:P.length<=10:=g.1.1.2.2
 have hV10:V.length<=10:=g.1.2.1
 have hgn:netGood N P:=g.1.1
 simp only at sP sV es
 have o0:oneC wP=true:=by obtain⟨a,e,_⟩:=sP.1;rw[e];rfl
 have o0v:oneC wV=true:=by obtain⟨a,e,_⟩:=sV;rw[e];rfl
 have hv:NA n h (.agg #[.int .i64 N,wP]) N P:=⟨wP,rfl,sP⟩
 have none_ok:editR ⟨N,P,V,src,D,Q,cnt⟩ w_open l=none->∀(lo hi:Nat) (H:Heap) (E:Con) (xP xV:Value),oneC xP=true∧oneC xV=true->∃E₁ x y,Value.tuple #[conV E xP xV, .bool false] = .tuple #[conV E₁ x y, .bool (editR ⟨N,P,V,src,D,Q,cnt⟩ w_open l).isSome]∧(oneC x=true∧oneC y=true)∧(∀E',editR ⟨N,P,V,src,D,Q,cnt⟩ w_open l=some E'->E₁=E'∧ConQ lo hi H E₁ x y):=fun hn lo hi H E xP xV ho=>by
  refine⟨E,xP,xV,by rw[hn];rfl,ho,fun E' he => ?_⟩
  rw[hn] at he
  cases he
 have some_ok: ∀(E:Con),editR ⟨N,P,V,src,D,Q,cnt⟩ w_open l=some E->∀(lo hi:Nat) (H:Heap) (xP xV:Value),ConQ lo hi H E xP xV->∃E₁ x y,Value.tuple #[conV E xP xV, .bool true] = .tuple #[conV E₁ x y, .bool (editR ⟨N,P,V,src,D,Q,cnt⟩ w_open l).isSome]∧(oneC x=true∧oneC y=true)∧(∀E',editR ⟨N,P,V,src,D,Q,cnt⟩ w_open l=some E'->E₁=E'∧ConQ lo hi H E₁ x y):=fun E he lo hi H xP xV hq=>by
  refine⟨E,xP,xV,by rw[he];rfl,hq.one,fun E' he' => ?_⟩
  rw[he] at he'
  cases he'
  exact⟨rfl,hq⟩
 have qp:decide (w_open=w_pipe)=false:=by decide
 have qv:decide (w_open=w_valve)=false:=by decide
 have qs:decide (w_open=w_shut)=false:=by decide
 have qo:decide (w_open=w_open)=true:=by decide
 refine boR ([(4,[]),(11,[14]),(12,[]),(19,[])]) Tryz.func106 rfl rfl ?_
 simp only[go_sem,conV]
 refine (c_newConsoleX ⟨N,P,V,src,D,Q,cnt⟩ wP wV (sP.1.mono (by simp)) (sV.mono (by simp)) (le_trans hP10 (by decide)) (le_trans hV10 (by decide))).go ?_
 rintro _ _⟨⟨xP,xV,rfl,hq,hX⟩,⟨t,rfl⟩⟩
 obtain⟨o1,o2⟩:=hq.one
 obtain⟨a0,rfl⟩:=AI.len sl
 have l4:l.length=1:=by
  have hnn:needs w_open=1:=by decide
  omega
 obtain⟨idl,offl,kl,hvl,_,hkl,_,hdl,_,_,_,hat⟩:=AI.at sl (by omega)
 obtain rfl:a0=some ⟨idl,offl,none⟩:=by simpa using hvl
 have p0:=hat 0 (by omega)
 rw[gl_at] at p0
 simp only[add_zero] at p0
 simp only[go_sem,conV,toList_eq,qp,qv,qs,qo,o1,o2,beq_self_eq_true,hkl,hdl,add_zero,p0,l4]
 refine (c_TurnValve _ wV N P V (gl l 0) false (hv.mono (by simp)) (sV.mono (by simp)) (es.mono (by simp)) (le_trans hP10 (by decide)) (le_trans hV10 (by decide))).go ?_
 rintro _ _⟨⟨x,rfl,fx⟩,⟨t2,rfl⟩⟩
 obtain⟨xa,xn,rfl⟩: ∃a m,x = .slice a m 0:=by rcases fx with⟨id,rfl,_⟩|⟨_,a,rfl⟩<;>exact⟨_,_,rfl⟩
 have ox:=fx.one
 simp only[go_sem,conV,toList_eq,qp,qv,qs,qo,o1,o2,ox,beq_self_eq_true,hkl,hdl,add_zero,p0,l4]
 have he:editR ⟨N,P,V,src,D,Q,cnt⟩ w_open l=if turnOk N P V (gl l 0) false then some ⟨N,P,turnR N P V (gl l 0) false,src,D,Q,cnt⟩ else none:=by
  rw[editR,if_neg (by decide),if_neg (by decide),if_pos (by decide),show decide (w_open=w_shut)=false from by decide]
  simp only[l4,true_and]
 by_cases c:turnOk N P V (gl l 0) false
 ·rw[if_pos c] at he
  rw[decide_eq_true c]
  obtain⟨a,b,x',y',hh,pq,_⟩:=hq.p
  refine some_ok ⟨N,P,turnR N P V (gl l 0) false,src,D,Q,cnt⟩ he _ _ _ xP _ ⟨a,b,_,_, ?_,pq.v2 ?_,fx.v3 ?_⟩
  all_goals (simp at hh ⊢;try omega)
 ·rw[if_neg c] at he
  rw[decide_eq_false c]
  exact none_ok he _ _ _ ⟨N,[],turnR N P V (gl l 0) false,src,D,Q,cnt⟩ xP (.slice xa xn 0) ⟨o1,ox⟩
end
open Go.HH Go.Proofs
theorem setT2{h t u:Heap}{a b k:Blk}{j:Nat}(hj:j<t.length):(h++a::b::(t++u)).set (h.length+(j+1+1)) k=h++a::b::(t.set j k++u):=by
 rw[List.set_append_right _ _ (by omega),show h.length+(j+1+1)-h.length=j+1+1 by omega,List.set_cons_succ,List.set_cons_succ,List.set_append_left _ _ hj]
theorem FQs.setT{h t u:Heap}{a b a' b' k:Blk}{j x y:Nat}{v:Value}{rows:List (List Value)}(s:FQs x y 4 (h++ [a,b]++t) v rows)(hl:h.length+2<=x)(hn:h.length+(j+1+1)<x∨y<=h.length+(j+1+1)):FQs x y 4 (h++a'::b'::(t.set j k++u)) v rows:=by
 refine FQs.v2 (a:=a) (b:=b) ?_ hl
 rcases s with⟨id,ev,g1,g2,g3,g4⟩|s
 ·refine .inl ⟨id,ev,g1,g2, ?_,g4⟩
  obtain⟨i,rfl⟩: ∃i,id=(h++ [a,b]).length+i:=⟨id-(h.length+2),by simp;omega⟩
  rw[hget_app] at g3 ⊢
  rw[getElem?_set_ne (by simp at g1 g2;omega)]
  exact g3
 ·exact .inr s
theorem FQs.eszQ{lo hi sz:Nat}{h:Heap}{v:Value}{rows:List (List Value)}(s:FQs lo hi sz h v rows):EszC h sz v:=by
 rcases s with s|⟨_,a,rfl⟩
 ·exact FR.eszC s
 ·intro id o n e hn
  cases e
  omega
section
variable {h:Heap} {M:Nat->Prop}
set_option maxRecDepth 4000 in
theorem c_changeV{n:Nat}(C:Con)(wP wV vl:Value)(l:List Int)(sP:SB n 4 h wP (C.P.map pip))(sV:Sl h 4 wV (C.V.map vlv))(es:EszC h 4 wV)(g:conOk C)(sl:SI h vl l)(hl:(l.length:Int)=needs w_valve) :
  vCall [] Tryz.prog M 106 [conV C wP wV, .string w_valve,vl] h (fun r h'=>(∃E xP xV,r = .tuple #[conV E xP xV, .bool (editR C w_valve l).isSome]∧(oneC xP=true∧oneC xV=true)∧(∀E',editR C w_valve l=some E'->E=E'∧ConQ h.length h'.length h' E xP xV))∧h<+:h'):=by
 obtain⟨N,P,V,src,D,Q,cnt⟩:=C
 have hP10:P.length<=10:=g.1.1.2.2
 have hV10:V.length<=10:=g.1.2.1
 have hgn:netGood N P:=g.1.1
 simp only at sP sV es
 have o0:oneC wP=true:=by obtain⟨a,e,_⟩:=sP.1;rw[e];rfl
 have o0v:oneC wV=true:=by obtain⟨a,e,_⟩:=sV;rw[e];rfl
 have hv:NA n h (.agg #[.int .i64 N,wP]) N P:=⟨wP,rfl,sP⟩
 have none_ok:editR ⟨N,P,V,src,D,Q,cnt⟩ w_valve l=none->∀(lo hi:Nat) (H:Heap) (E:Con) (xP xV:Value),oneC xP=true∧oneC xV=true->∃E₁ x y,Value.tuple #[conV E xP xV, .bool false] = .tuple #[conV E₁ x y, .bool (editR ⟨N,P,V,src,D,Q,cnt⟩ w_valve l).isSome]∧(oneC x=true∧oneC y=true)∧(∀E',editR ⟨N,P,V,src,D,Q,cnt⟩ w_valve l=some E'->E₁=E'∧ConQ lo hi H E₁ x y):=fun hn lo hi H E xP xV ho=>by
  refine⟨E,xP,xV,by rw[hn];rfl,ho,fun E' he => ?_⟩
  rw[hn] at he
  cases he
 have some_ok: ∀(E:Con),editR ⟨N,P,V,src,D,Q,cnt⟩ w_valve l=some E->∀(lo hi:Nat) (H:Heap) (xP xV:Value),ConQ lo hi H E xP xV->∃E₁ x y,Value.tuple #[conV E xP xV, .bool true] = .tuple #[conV E₁ x y, .bool (editR ⟨N,P,V,src,D,Q,cnt⟩ w_valve l).isSome]∧(oneC x=true∧oneC y=true)∧(∀E',editR ⟨N,P,V,src,D,Q,cnt⟩ w_valve l=some E'->E₁=E'∧ConQ lo hi H E₁ x y):=fun E he lo hi H xP xV hq=>by
  refine⟨E,xP,xV,by rw[he];rfl,hq.one,fun E' he' => ?_⟩
  rw[he] at he'
  cases he'
  exact⟨rfl,hq⟩
 have qp:decide (w_valve=w_pipe)=false:=by decide
 have qv:decide (w_valve=w_valve)=true:=by decide
 have qs:decide (w_valve=w_shut)=false:=by decide
 have qo:decide (w_valve=w_open)=false:=by decide
 refine boR ([(4,[]),(11,[14]),(12,[]),(19,[])]) Tryz.func106 rfl rfl ?_
 simp only[go_sem,conV]
 refine (c_newConsoleX ⟨N,P,V,src,D,Q,cnt⟩ wP wV (sP.1.mono (by simp)) (sV.mono (by simp)) (le_trans hP10 (by decide)) (le_trans hV10 (by decide))).go ?_
 rintro _ _⟨⟨xP,xV,rfl,hq,hX⟩,⟨t,rfl⟩⟩
 obtain⟨o1,o2⟩:=hq.one
 obtain⟨a0,rfl⟩:=AI.len sl
 have l4:l.length=3:=by
  have hnn:needs w_valve=3:=by decide
  omega
 obtain⟨idl,offl,kl,hvl,_,hkl,_,hdl,_,_,_,hat⟩:=AI.at sl (by omega)
 obtain rfl:a0=some ⟨idl,offl,none⟩:=by simpa using hvl
 have p0:=hat 0 (by omega)
 have p1:=hat 1 (by omega)
 have p2:=hat 2 (by omega)
 rw[gl_at] at p0 p1 p2
 simp only[add_zero] at p0
 have he:editR ⟨N,P,V,src,D,Q,cnt⟩ w_valve l=if valOk N P (insV V (vlvOf l)) then some ⟨N,P,insV V (vlvOf l),src,D,Q,cnt⟩ else none:=by
  rw[editR,if_neg (by decide),if_pos rfl]
  simp only[l4,true_and]
 obtain⟨a,b,x',y',hh,pq,vq⟩:=hq.p
 simp only[length_append,length_cons,length_nil,zero_add,Nat.reduceAdd] at hh
 rcases vq with⟨id,ev,b1,b2,b3,b4⟩|⟨v0,X0,ev⟩
 ·clear hX
  simp only[length_map] at ev
  subst ev
  obtain⟨j,rfl⟩: ∃j,id=h.length+(j+1+1):=⟨id-h.length-2,by omega⟩
  have hjt:j<t.length:=by omega
  have HJ: ∀s:Heap,(t++s)[j]? = some ⟨(V.map vlv).flatten,4, .rw⟩:=fun s=>by
   rw[getElem?_append_left hjt]
   simpa[hget_app] using b3
  have vq':Sl (h++ [⟨[.int .i64 N,wP,wV, .int .i64 src, .string D, .string Q, .int .i64 cnt],7, .rw⟩,⟨[.int .i64 0, .slice none 0 0, .slice none 0 0, .int .i64 0, .string ⟨#[]⟩, .string ⟨#[]⟩, .int .i64 0],7, .rw⟩]++t) 4 (.slice (some ⟨h.length+(j+1+1),0,none⟩) V.length 0) (V.map vlv):=FR.sl ⟨_,by rw[length_map],b1,b2,b3,b4⟩
  simp only[go_sem,conV,toList_eq,qp,qv,qs,qo,o1,o2,beq_self_eq_true,hkl,hdl,add_zero,p0,p1,p2,l4]
  refine vLoopR.count mo V.length (fun i e h'=>Regs e [(2, .slice (some ⟨idl,offl,none⟩) 3 0),(6, .pointer (some ⟨h.length+1,0,none⟩)),(8, .pointer (some ⟨h.length+(t.length+1+1),0,none⟩)),(11, .int .i64 i)] ∧
   HeapIs h' (h++(⟨[.int .i64 N,wP,wV, .int .i64 src, .string D, .string Q, .int .i64 cnt],7, .rw⟩::⟨[.int .i64 0, .slice none 0 0, .slice none 0 0, .int .i64 0, .string ⟨#[]⟩, .string ⟨#[]⟩, .int .i64 0],7, .rw⟩::(t++ [⟨[.int .i64 N,xP, .slice (some ⟨h.length+(j+1+1),0,none⟩) V.length 0, .int .i64 src, .string D, .string Q, .int .i64 cnt],7, .rw⟩]))) ∧
   ∀(k:Nat) (hk:k<V.length),k<i->V[k].1<gl l 0) ?_ ?_
  ·exact⟨⟨rfl,rfl,rfl,rfl,trivial⟩, .rfl,fun j _ hj=>absurd hj (by omega)⟩
  ·rintro i e _ hi ⟨⟨e2,e6,e8,e11,_⟩,rfl,hlo⟩
   have fin:(∀hi:i<V.length,¬V[i].1<gl l 0)->low (V.map fun q=>q.1) (gl l 0)=i:=fun hn=>
    low_eq (by simpa using hi) (fun j hj hji=>by rw[getElem_map];exact hlo j (by simpa using hj) hji) (fun hi=>by rw[getElem_map];exact hn (by simpa using hi))
   have hone:=oneVv V
   by_cases hlt:i<V.length
   ·have hlt':i<(V.map vlv).length:=by simpa using hlt
    have hz:(i:Int)<V.length:=by omega
    have ws:=wsucc hlt (by omega)
    obtain⟨id2,o,k,hv',hk,hk0,hd,hb,hrow,hat2⟩:=vq'.at hlt'
    rw[length_map] at hv'
    obtain⟨rfl,rfl⟩:h.length+(j+1+1)=id2∧0=o:=by simpa using hv'
    rw[b3] at hk0
    obtain rfl:_=k:=Option.some.inj hk0
    have g0:=hat2 0 (by omega)
    rw[getElem_map] at g0
    simp only[vlv,getElem?_cons_zero,add_zero,zero_add] at g0
    by_cases c:V[i].1<gl l 0
    ·simp only[go_sem,e2,e6,e8,e11,hz,hjt,HJ,hkl,hdl,p0,g0,c]
     refine⟨hlt,⟨e2,e6,e8,congrArg _ ws,trivial⟩, .rfl,fun j hj hji => ?_⟩
     by_cases hj2:j<i
     ·exact hlo j hj hj2
     ·obtain rfl:j=i:=by omega
      exact c
    ·simp only[go_sem,e2,e6,e8,e11,hz,hjt,HJ,hkl,hdl,p0,p1,p2,g0,c,hone]
     have hlow:=fin (fun _=>c)
     clear fin
     refine (c_insV (h.length+(j+1+1)) (h.length+(t.length+1+1+1)) V (vlvOf l) i (by omega) (by simp only[go_sem,hjt,HJ]) (.inl (by omega)) (by simp only[go_sem,vlvOf,vlv]) (by omega) (by omega)).go ?_
     rintro _ _⟨rfl,hset⟩
     rw[setT2 hjt] at hset
     obtain rfl:=hset
     have hnew:insV V (vlvOf l)=insAt V i (vlvOf l):=by rw[insV,show (vlvOf l).1=gl l 0 from rfl,hlow]
     have hnl:(insV V (vlvOf l)).length=V.length+1:=by rw[hnew];exact insAt_len (by omega)
     have hz1:h.length+2<=a∧(h.length+(j+1+1)<a∨b<=h.length+(j+1+1)):=by omega
     have pq2: ∀(a' b':Blk) (u:Heap),FQs a b 4 (h++a'::b'::(t.set j ⟨(V.map vlv).flatten,4, .dead⟩++u)) xP (P.map pip):=fun a' b' u=>pq.setT hz1.1 hz1.2
     have hTl:t.length=(t.set j ⟨(V.map vlv).flatten,4, .dead⟩).length:=by rw[length_set]
     revert pq2 hTl
     generalize t.set j ⟨(V.map vlv).flatten,4, .dead⟩=T
     intro pq2 hTl
     simp only[hTl] at hh
     simp only[go_sem,e2,e6,e8,e11,o1,hTl]
     refine⟨by omega, ?_⟩
     have fnew: ∀(a' b' c' d':Blk) (u:Heap),FQs (h.length+2+T.length) (h.length+(T.length+5)) 4 (h++a'::b'::(T++c'::d'::⟨((insAt V i (vlvOf l)).map vlv).flatten,4, .rw⟩::u)) (.slice (some ⟨h.length+(T.length+2+1+1),0,none⟩) (V.length+1) 0) ((insV V (vlvOf l)).map vlv):=fun a' b' c' d' u=>frG (j:=T.length+2+1+1) vlv4 (by rw[←hnew];simp) hnl.symm (by omega) (by omega)
     refine (c_IsValidValves _ _ N P (insV V (vlvOf l)) ⟨_,rfl,FQs.sbQ (pq2 _ _ _)⟩ (fnew _ _ _ _ []).sl (FQs.eszQ (fnew _ _ _ _ [])) (le_trans hP10 (by decide)) (by omega)).go ?_
     rintro _ _⟨rfl,⟨t5,rfl⟩⟩
     simp only[go_sem,e2,e6,e8,e11,o1,hTl]
     by_cases c:valOk N P (insV V (vlvOf l))
     ·rw[if_pos c] at he
      rw[decide_eq_true c]
      refine some_ok ⟨N,P,insV V (vlvOf l),src,D,Q,cnt⟩ he _ _ _ xP _ ⟨a,b,_,_, ?_,pq2 _ _ _,fnew _ _ _ _ _⟩
      all_goals omega
     ·rw[if_neg c] at he
      rw[decide_eq_false c]
      exact none_ok he _ _ _ ⟨N,[],[],src,D,Q,cnt⟩ xP (.slice (some ⟨h.length+(T.length+2+1+1),0,none⟩) (V.length+1) 0) ⟨o1,rfl⟩
   ·obtain rfl:i=V.length:=by omega
    have hlow:=fin (fun hi=>absurd hi (by omega))
    clear fin
    simp only[go_sem,e2,e6,e8,e11,show ¬((V.length:Int)<V.length) by omega,hkl,hdl,p0,p1,p2,hone]
    ·skip
     refine (c_insV (h.length+(j+1+1)) (h.length+(t.length+1+1+1)) V (vlvOf l) V.length (by omega) (by simp only[go_sem,hjt,HJ]) (.inl (by omega)) (by simp only[go_sem,vlvOf,vlv]) (by omega) (by omega)).go ?_
     rintro _ _⟨rfl,hset⟩
     rw[setT2 hjt] at hset
     obtain rfl:=hset
     have hnew:insV V (vlvOf l)=insAt V V.length (vlvOf l):=by rw[insV,show (vlvOf l).1=gl l 0 from rfl,hlow]
     have hnl:(insV V (vlvOf l)).length=V.length+1:=by rw[hnew];exact insAt_len (by omega)
     have hz1:h.length+2<=a∧(h.length+(j+1+1)<a∨b<=h.length+(j+1+1)):=by omega
     have pq2: ∀(a' b':Blk) (u:Heap),FQs a b 4 (h++a'::b'::(t.set j ⟨(V.map vlv).flatten,4, .dead⟩++u)) xP (P.map pip):=fun a' b' u=>pq.setT hz1.1 hz1.2
     have hTl:t.length=(t.set j ⟨(V.map vlv).flatten,4, .dead⟩).length:=by rw[length_set]
     revert pq2 hTl
     generalize t.set j ⟨(V.map vlv).flatten,4, .dead⟩=T
     intro pq2 hTl
     simp only[hTl] at hh
     simp only[go_sem,e2,e6,e8,e11,o1,hTl]
     refine⟨by omega, ?_⟩
     have fnew: ∀(a' b' c' d':Blk) (u:Heap),FQs (h.length+2+T.length) (h.length+(T.length+5)) 4 (h++a'::b'::(T++c'::d'::⟨((insAt V V.length (vlvOf l)).map vlv).flatten,4, .rw⟩::u)) (.slice (some ⟨h.length+(T.length+2+1+1),0,none⟩) (V.length+1) 0) ((insV V (vlvOf l)).map vlv):=fun a' b' c' d' u=>frG (j:=T.length+2+1+1) vlv4 (by rw[←hnew];simp) hnl.symm (by omega) (by omega)
     refine (c_IsValidValves _ _ N P (insV V (vlvOf l)) ⟨_,rfl,FQs.sbQ (pq2 _ _ _)⟩ (fnew _ _ _ _ []).sl (FQs.eszQ (fnew _ _ _ _ [])) (le_trans hP10 (by decide)) (by omega)).go ?_
     rintro _ _⟨rfl,⟨t5,rfl⟩⟩
     simp only[go_sem,e2,e6,e8,e11,o1,hTl]
     by_cases c:valOk N P (insV V (vlvOf l))
     ·rw[if_pos c] at he
      rw[decide_eq_true c]
      refine some_ok ⟨N,P,insV V (vlvOf l),src,D,Q,cnt⟩ he _ _ _ xP _ ⟨a,b,_,_, ?_,pq2 _ _ _,fnew _ _ _ _ _⟩
      all_goals omega
     ·rw[if_neg c] at he
      rw[decide_eq_false c]
      exact none_ok he _ _ _ ⟨N,[],[],src,D,Q,cnt⟩ xP (.slice (some ⟨h.length+(T.length+2+1+1),0,none⟩) (V.length+1) 0) ⟨o1,rfl⟩
 ·obtain rfl:V= []:=List.map_eq_nil_iff.1 v0
  obtain⟨X,rfl,hXl⟩:=hX rfl
  clear hX
  have hnew:insV [] (vlvOf l)= [vlvOf l]:=by rw[insV];rfl
  simp only[length_append,length_cons,length_nil,zero_add,Nat.reduceAdd] at hXl
  simp only[go_sem,conV,toList_eq,qp,qv,qs,qo,o1,o2,beq_self_eq_true,hkl,hdl,add_zero,p0,p1,p2,l4]
  refine vLoopR.count mo 0 (fun i e h'=>Regs e [(2, .slice (some ⟨idl,offl,none⟩) 3 0),(6, .pointer (some ⟨h.length+1,0,none⟩)),(8, .pointer (some ⟨h.length+(t.length+1+1),0,none⟩)),(11, .int .i64 i)] ∧
   HeapIs h' (h++(⟨[.int .i64 N,wP,wV, .int .i64 src, .string D, .string Q, .int .i64 cnt],7, .rw⟩::⟨[.int .i64 0, .slice none 0 0, .slice none 0 0, .int .i64 0, .string ⟨#[]⟩, .string ⟨#[]⟩, .int .i64 0],7, .rw⟩::(t++ [⟨[.int .i64 N,xP, .slice (some ⟨X,0,none⟩) 0 0, .int .i64 src, .string D, .string Q, .int .i64 cnt],7, .rw⟩])))) ?_ ?_
  ·exact⟨⟨rfl,rfl,rfl,rfl,trivial⟩, .rfl⟩
  ·rintro i e _ hi ⟨⟨e2,e6,e8,e11,_⟩,rfl⟩
   obtain rfl:i=0:=by omega
   simp only[go_sem,e2,e6,e8,e11,hkl,hdl,p0,p1,p2]
   refine (c_ins0V X (h.length+(t.length+1+1+1)) (vlvOf l) (by simp;omega) (by simp only[go_sem,vlvOf,vlv])).go ?_
   rintro _ _⟨rfl,rfl⟩
   simp only[go_sem,e2,e6,e8,e11,o1]
   have pq2: ∀(a' b':Blk) (u:Heap),FQs a b 4 (h++a'::b'::(t++u)) xP (P.map pip):=fun a' b' u=>pq.v2 hh.1
   have fnew: ∀(a' b' c' d':Blk) (u:Heap),FQs (h.length+2+t.length) (h.length+(t.length+5)) 4 (h++a'::b'::(t++c'::d'::⟨vlv (vlvOf l),4, .rw⟩::u)) (.slice (some ⟨h.length+(t.length+2+1+1),0,none⟩) 1 0) ((insV [] (vlvOf l)).map vlv):=fun a' b' c' d' u=>frG (j:=t.length+2+1+1) vlv4 (by rw[hnew];simp) (by rw[hnew];rfl) (by omega) (by omega)
   refine⟨by omega, ?_⟩
   refine (c_IsValidValves _ _ N P (insV [] (vlvOf l)) ⟨_,rfl,FQs.sbQ (pq2 _ _ _)⟩ (fnew _ _ _ _ []).sl (FQs.eszQ (fnew _ _ _ _ [])) (le_trans hP10 (by decide)) (by rw[hnew];exact Nat.le_of_ble_eq_true rfl)).go ?_
   rintro _ _⟨rfl,⟨t5,rfl⟩⟩
   simp only[go_sem,e2,e6,e8,e11,o1]
   by_cases c:valOk N P (insV [] (vlvOf l))
   ·rw[if_pos c] at he
    rw[decide_eq_true c]
    refine some_ok ⟨N,P,insV [] (vlvOf l),src,D,Q,cnt⟩ he _ _ _ xP _ ⟨a,b,_,_, ?_,pq2 _ _ _,fnew _ _ _ _ _⟩
    all_goals omega
   ·rw[if_neg c] at he
    rw[decide_eq_false c]
    exact none_ok he _ _ _ ⟨N,[],[],src,D,Q,cnt⟩ xP (.slice (some ⟨h.length+(t.length+2+1+1),0,none⟩) 1 0) ⟨o1,rfl⟩
theorem c_change{n:Nat}(C:Con)(w:ByteArray)(wP wV vl:Value)(l:List Int)(sP:SB n 4 h wP (C.P.map pip))(sV:Sl h 4 wV (C.V.map vlv))(es:EszC h 4 wV)(g:conOk C)(sl:SI h vl l)(hw:isEdit w)(hl:(l.length:Int)=needs w) :
  vCall [] Tryz.prog M 106 [conV C wP wV, .string w,vl] h (fun r h'=>(∃E xP xV,r = .tuple #[conV E xP xV, .bool (editR C w l).isSome]∧(oneC xP=true∧oneC xV=true)∧(∀E',editR C w l=some E'->E=E'∧ConQ h.length h'.length h' E xP xV))∧h<+:h'):=by
 rcases hw with rfl|rfl|rfl|rfl|rfl
 ·exact c_changeP C wP wV vl l sP sV es g sl hl
 ·exact c_changeV C wP wV vl l sP sV es g sl hl
 ·exact c_changeH C wP wV vl l sP sV es g sl hl
 ·exact c_changeO C wP wV vl l sP sV es g sl hl
 ·exact c_changeS C wP wV vl l sP sV es g sl hl
end
open Go.HH Go.Proofs
def isAsk(w:ByteArray):Prop:=w=w_dry∨w=w_bridges∨w=w_burst∨w=w_segment∨w=w_around∨w=w_way
instance {w:ByteArray}:Decidable (isAsk w):=inferInstanceAs (Decidable (_∨_∨_∨_∨_∨_))
section
variable {h:Heap} {M:Nat->Prop}
set_option maxRecDepth 4000 in
theorem c_answerD{n:Nat}(C:Con)(wP wV vl:Value)(l:List Int)(sP:SB n 4 h wP (C.P.map pip))(sV:Sl h 4 wV (C.V.map vlv))(es:EszC h 4 wV)(g:conOk C)(sl:SI h vl l)(hl:(l.length:Int)=needs w_dry) :
  vCall [] Tryz.prog M 107 [conV C wP wV, .string w_dry,vl] h (fun r h'=>(∃x,r = .tuple #[x, .bool (askR C w_dry l).isSome]∧SI h' x ((askR C w_dry l).getD []))∧h<+:h'):=by
 obtain⟨N,P,V,src,D,Q,cnt⟩:=C
 have hP10:P.length<=1048576:=le_trans g.1.1.2.2 (by decide)
 have hV10:V.length<=1048576:=le_trans g.1.2.1 (by decide)
 simp only at sP sV es
 have o0:oneC wP=true:=by obtain⟨a,e,_⟩:=sP.1;rw[e];rfl
 have o0v:oneC wV=true:=by obtain⟨a,e,_⟩:=sV;rw[e];rfl
 have hv:NA n h (.agg #[.int .i64 N,wP]) N P:=⟨wP,rfl,sP⟩
 have fin: ∀(c:Prop) [Decidable c] (L:List Int) (x:Value) (H:Heap),askR ⟨N,P,V,src,D,Q,cnt⟩ w_dry l=(if c then some L else none)->(¬c->L= [])->SI H x L->∃y,Value.tuple #[x, .bool (decide c)] = .tuple #[y, .bool (askR ⟨N,P,V,src,D,Q,cnt⟩ w_dry l).isSome]∧SI H y ((askR ⟨N,P,V,src,D,Q,cnt⟩ w_dry l).getD []):=fun c _ L x H he hn hs=>by
  rw[he]
  by_cases hc:c
  ·rw[if_pos hc,decide_eq_true hc]
   exact⟨_,rfl,hs⟩
  ·rw[if_neg hc,decide_eq_false hc]
   rw[hn hc] at hs
   exact⟨_,rfl,hs⟩
 have q1:decide (w_dry=w_dry)=true:=by decide
 have q2:decide (w_dry=w_burst)=false:=by decide
 have q3:decide (w_dry=w_segment)=false:=by decide
 have q4:decide (w_dry=w_around)=false:=by decide
 have q5:decide (w_dry=w_way)=false:=by decide
 have lk:l.length=0:=by
  have hnn:needs w_dry=0:=by decide
  omega
 obtain⟨a0,rfl⟩:=AI.len sl
 refine bo Tryz.func107 rfl rfl ?_
 simp only[go_sem,conV,toList_eq,q1,q2,q3,q4,q5,o0,o0v]
 refine (c_DryNodes _ wV N P V src (hv.mono (by simp)) (sV.mono (by simp)) (es.mono (by simp)) hP10 hV10).go ?_
 rintro _ _⟨⟨x,rfl,sx⟩,⟨t,rfl⟩⟩
 simp only[go_sem]
 exact fin (valOk N P V∧1<=src∧src<=N) (dryL N P V src) _ _ (by rw[askR,if_pos rfl];simp only[lk,true_and]) (fun hc=>by rw[dryL,if_neg hc]) (by first|exact sx|simpa using sx)
set_option maxRecDepth 4000 in
theorem c_answerB{n:Nat}(C:Con)(wP wV vl:Value)(l:List Int)(sP:SB n 4 h wP (C.P.map pip))(sV:Sl h 4 wV (C.V.map vlv))(es:EszC h 4 wV)(g:conOk C)(sl:SI h vl l)(hl:(l.length:Int)=needs w_bridges) :
  vCall [] Tryz.prog M 107 [conV C wP wV, .string w_bridges,vl] h (fun r h'=>(∃x,r = .tuple #[x, .bool (askR C w_bridges l).isSome]∧SI h' x ((askR C w_bridges l).getD []))∧h<+:h'):=by
 obtain⟨N,P,V,src,D,Q,cnt⟩:=C
 have hP10:P.length<=1048576:=le_trans g.1.1.2.2 (by decide)
 have hV10:V.length<=1048576:=le_trans g.1.2.1 (by decide)
 simp only at sP sV es
 have o0:oneC wP=true:=by obtain⟨a,e,_⟩:=sP.1;rw[e];rfl
 have o0v:oneC wV=true:=by obtain⟨a,e,_⟩:=sV;rw[e];rfl
 have hv:NA n h (.agg #[.int .i64 N,wP]) N P:=⟨wP,rfl,sP⟩
 have fin: ∀(c:Prop) [Decidable c] (L:List Int) (x:Value) (H:Heap),askR ⟨N,P,V,src,D,Q,cnt⟩ w_bridges l=(if c then some L else none)->(¬c->L= [])->SI H x L->∃y,Value.tuple #[x, .bool (decide c)] = .tuple #[y, .bool (askR ⟨N,P,V,src,D,Q,cnt⟩ w_bridges l).isSome]∧SI H y ((askR ⟨N,P,V,src,D,Q,cnt⟩ w_bridges l).getD []):=fun c _ L x H he hn hs=>by
  rw[he]
  by_cases hc:c
  ·rw[if_pos hc,decide_eq_true hc]
   exact⟨_,rfl,hs⟩
  ·rw[if_neg hc,decide_eq_false hc]
   rw[hn hc] at hs
   exact⟨_,rfl,hs⟩
 have q1:decide (w_bridges=w_dry)=false:=by decide
 have q2:decide (w_bridges=w_burst)=false:=by decide
 have q3:decide (w_bridges=w_segment)=false:=by decide
 have q4:decide (w_bridges=w_around)=false:=by decide
 have q5:decide (w_bridges=w_way)=false:=by decide
 have lk:l.length=0:=by
  have hnn:needs w_bridges=0:=by decide
  omega
 obtain⟨a0,rfl⟩:=AI.len sl
 refine bo Tryz.func107 rfl rfl ?_
 simp only[go_sem,conV,toList_eq,q1,q2,q3,q4,q5,o0,o0v]
 refine (c_BridgePipes _ N P (hv.mono (by simp)) hP10).go ?_
 rintro _ _⟨⟨x,rfl,sx⟩,⟨t,rfl⟩⟩
 simp only[go_sem]
 exact fin (netGood N P) (briR N P) _ _ (by rw[askR,if_neg (by decide),if_pos rfl];simp only[lk,true_and]) (fun hc=>by rw[briR,if_neg hc]) (by first|exact sx|simpa using sx)
set_option maxRecDepth 4000 in
theorem c_answerU{n:Nat}(C:Con)(wP wV vl:Value)(l:List Int)(sP:SB n 4 h wP (C.P.map pip))(sV:Sl h 4 wV (C.V.map vlv))(es:EszC h 4 wV)(g:conOk C)(sl:SI h vl l)(hl:(l.length:Int)=needs w_burst) :
  vCall [] Tryz.prog M 107 [conV C wP wV, .string w_burst,vl] h (fun r h'=>(∃x,r = .tuple #[x, .bool (askR C w_burst l).isSome]∧SI h' x ((askR C w_burst l).getD []))∧h<+:h'):=by
 obtain⟨N,P,V,src,D,Q,cnt⟩:=C
 have hP10:P.length<=1048576:=le_trans g.1.1.2.2 (by decide)
 have hV10:V.length<=1048576:=le_trans g.1.2.1 (by decide)
 simp only at sP sV es
 have o0:oneC wP=true:=by obtain⟨a,e,_⟩:=sP.1;rw[e];rfl
 have o0v:oneC wV=true:=by obtain⟨a,e,_⟩:=sV;rw[e];rfl
 have hv:NA n h (.agg #[.int .i64 N,wP]) N P:=⟨wP,rfl,sP⟩
 have fin: ∀(c:Prop) [Decidable c] (L:List Int) (x:Value) (H:Heap),askR ⟨N,P,V,src,D,Q,cnt⟩ w_burst l=(if c then some L else none)->(¬c->L= [])->SI H x L->∃y,Value.tuple #[x, .bool (decide c)] = .tuple #[y, .bool (askR ⟨N,P,V,src,D,Q,cnt⟩ w_burst l).isSome]∧SI H y ((askR ⟨N,P,V,src,D,Q,cnt⟩ w_burst l).getD []):=fun c _ L x H he hn hs=>by
  rw[he]
  by_cases hc:c
  ·rw[if_pos hc,decide_eq_true hc]
   exact⟨_,rfl,hs⟩
  ·rw[if_neg hc,decide_eq_false hc]
   rw[hn hc] at hs
   exact⟨_,rfl,hs⟩
 have q1:decide (w_burst=w_dry)=false:=by decide
 have q2:decide (w_burst=w_burst)=true:=by decide
 have q3:decide (w_burst=w_segment)=false:=by decide
 have q4:decide (w_burst=w_around)=false:=by decide
 have q5:decide (w_burst=w_way)=false:=by decide
 have lk:l.length=1:=by
  have hnn:needs w_burst=1:=by decide
  omega
 obtain⟨a0,rfl⟩:=AI.len sl
 refine bo Tryz.func107 rfl rfl ?_
 obtain⟨idl,offl,kl,hvl,_,hkl,_,hdl,_,_,_,hat⟩:=AI.at sl (by omega)
 obtain rfl:a0=some ⟨idl,offl,none⟩:=by simpa using hvl
 have p0:=hat 0 (by omega)
 rw[gl_at] at p0
 simp only[add_zero] at p0
 simp only[go_sem,conV,toList_eq,q1,q2,q3,q4,q5,o0,o0v,hkl,hdl,p0,lk]
 refine (c_ShortestPlan _ wV N P V src (gl l 0) (hv.mono (by simp)) (sV.mono (by simp)) (es.mono (by simp)) hP10 hV10).go ?_
 rintro _ _⟨⟨x,rfl,sx⟩,⟨t,rfl⟩⟩
 simp only[go_sem]
 have e:askR ⟨N,P,V,src,D,Q,cnt⟩ w_burst l=planR N P V src (gl l 0):=by
  rw[askR,if_neg (by decide),if_neg (by decide),if_pos rfl,if_pos lk]
 rw[e]
 exact⟨_,rfl,by first|exact sx|simpa using sx⟩
set_option maxRecDepth 4000 in
theorem c_answerS{n:Nat}(C:Con)(wP wV vl:Value)(l:List Int)(sP:SB n 4 h wP (C.P.map pip))(sV:Sl h 4 wV (C.V.map vlv))(es:EszC h 4 wV)(g:conOk C)(sl:SI h vl l)(hl:(l.length:Int)=needs w_segment) :
  vCall [] Tryz.prog M 107 [conV C wP wV, .string w_segment,vl] h (fun r h'=>(∃x,r = .tuple #[x, .bool (askR C w_segment l).isSome]∧SI h' x ((askR C w_segment l).getD []))∧h<+:h'):=by
 obtain⟨N,P,V,src,D,Q,cnt⟩:=C
 have hP10:P.length<=1048576:=le_trans g.1.1.2.2 (by decide)
 have hV10:V.length<=1048576:=le_trans g.1.2.1 (by decide)
 simp only at sP sV es
 have o0:oneC wP=true:=by obtain⟨a,e,_⟩:=sP.1;rw[e];rfl
 have o0v:oneC wV=true:=by obtain⟨a,e,_⟩:=sV;rw[e];rfl
 have hv:NA n h (.agg #[.int .i64 N,wP]) N P:=⟨wP,rfl,sP⟩
 have fin: ∀(c:Prop) [Decidable c] (L:List Int) (x:Value) (H:Heap),askR ⟨N,P,V,src,D,Q,cnt⟩ w_segment l=(if c then some L else none)->(¬c->L= [])->SI H x L->∃y,Value.tuple #[x, .bool (decide c)] = .tuple #[y, .bool (askR ⟨N,P,V,src,D,Q,cnt⟩ w_segment l).isSome]∧SI H y ((askR ⟨N,P,V,src,D,Q,cnt⟩ w_segment l).getD []):=fun c _ L x H he hn hs=>by
  rw[he]
  by_cases hc:c
  ·rw[if_pos hc,decide_eq_true hc]
   exact⟨_,rfl,hs⟩
  ·rw[if_neg hc,decide_eq_false hc]
   rw[hn hc] at hs
   exact⟨_,rfl,hs⟩
 have q1:decide (w_segment=w_dry)=false:=by decide
 have q2:decide (w_segment=w_burst)=false:=by decide
 have q3:decide (w_segment=w_segment)=true:=by decide
 have q4:decide (w_segment=w_around)=false:=by decide
 have q5:decide (w_segment=w_way)=false:=by decide
 have lk:l.length=1:=by
  have hnn:needs w_segment=1:=by decide
  omega
 obtain⟨a0,rfl⟩:=AI.len sl
 refine bo Tryz.func107 rfl rfl ?_
 obtain⟨idl,offl,kl,hvl,_,hkl,_,hdl,_,_,_,hat⟩:=AI.at sl (by omega)
 obtain rfl:a0=some ⟨idl,offl,none⟩:=by simpa using hvl
 have p0:=hat 0 (by omega)
 rw[gl_at] at p0
 simp only[add_zero] at p0
 simp only[go_sem,conV,toList_eq,q1,q2,q3,q4,q5,o0,o0v,hkl,hdl,p0,lk]
 refine (c_SegmentOfPipe _ wV N P V (gl l 0) (hv.mono (by simp)) (sV.mono (by simp)) (es.mono (by simp)) hP10 hV10).go ?_
 rintro _ _⟨⟨x,y,rfl,sx⟩,⟨t,rfl⟩⟩
 simp only[go_sem]
 exact fin (valOk N P V∧0<=pidx P (gl l 0)) (segL N P V (gl l 0)) _ _ (by rw[askR,if_neg (by decide),if_neg (by decide),if_neg (by decide),if_pos rfl];simp only[lk,true_and]) (fun hc=>by rw[segL,if_neg hc]) (by first|exact sx|simpa using sx)
set_option maxRecDepth 4000 in
theorem c_answerA{n:Nat}(C:Con)(wP wV vl:Value)(l:List Int)(sP:SB n 4 h wP (C.P.map pip))(sV:Sl h 4 wV (C.V.map vlv))(es:EszC h 4 wV)(g:conOk C)(sl:SI h vl l)(hl:(l.length:Int)=needs w_around) :
  vCall [] Tryz.prog M 107 [conV C wP wV, .string w_around,vl] h (fun r h'=>(∃x,r = .tuple #[x, .bool (askR C w_around l).isSome]∧SI h' x ((askR C w_around l).getD []))∧h<+:h'):=by
 obtain⟨N,P,V,src,D,Q,cnt⟩:=C
 have hP10:P.length<=1048576:=le_trans g.1.1.2.2 (by decide)
 have hV10:V.length<=1048576:=le_trans g.1.2.1 (by decide)
 simp only at sP sV es
 have o0:oneC wP=true:=by obtain⟨a,e,_⟩:=sP.1;rw[e];rfl
 have o0v:oneC wV=true:=by obtain⟨a,e,_⟩:=sV;rw[e];rfl
 have hv:NA n h (.agg #[.int .i64 N,wP]) N P:=⟨wP,rfl,sP⟩
 have fin: ∀(c:Prop) [Decidable c] (L:List Int) (x:Value) (H:Heap),askR ⟨N,P,V,src,D,Q,cnt⟩ w_around l=(if c then some L else none)->(¬c->L= [])->SI H x L->∃y,Value.tuple #[x, .bool (decide c)] = .tuple #[y, .bool (askR ⟨N,P,V,src,D,Q,cnt⟩ w_around l).isSome]∧SI H y ((askR ⟨N,P,V,src,D,Q,cnt⟩ w_around l).getD []):=fun c _ L x H he hn hs=>by
  rw[he]
  by_cases hc:c
  ·rw[if_pos hc,decide_eq_true hc]
   exact⟨_,rfl,hs⟩
  ·rw[if_neg hc,decide_eq_false hc]
   rw[hn hc] at hs
   exact⟨_,rfl,hs⟩
 have q1:decide (w_around=w_dry)=false:=by decide
 have q2:decide (w_around=w_burst)=false:=by decide
 have q3:decide (w_around=w_segment)=false:=by decide
 have q4:decide (w_around=w_around)=true:=by decide
 have q5:decide (w_around=w_way)=false:=by decide
 have lk:l.length=1:=by
  have hnn:needs w_around=1:=by decide
  omega
 obtain⟨a0,rfl⟩:=AI.len sl
 refine bo Tryz.func107 rfl rfl ?_
 obtain⟨idl,offl,kl,hvl,_,hkl,_,hdl,_,_,_,hat⟩:=AI.at sl (by omega)
 obtain rfl:a0=some ⟨idl,offl,none⟩:=by simpa using hvl
 have p0:=hat 0 (by omega)
 rw[gl_at] at p0
 simp only[add_zero] at p0
 simp only[go_sem,conV,toList_eq,q1,q2,q3,q4,q5,o0,o0v,hkl,hdl,p0,lk]
 refine (c_ValvesAround _ wV N P V (gl l 0) (hv.mono (by simp)) (sV.mono (by simp)) (es.mono (by simp)) hP10 hV10).go ?_
 rintro _ _⟨⟨x,rfl,sx⟩,⟨t,rfl⟩⟩
 simp only[go_sem]
 exact fin (valOk N P V∧0<=pidx P (gl l 0)) (arndL N P V (gl l 0)) _ _ (by rw[askR,if_neg (by decide),if_neg (by decide),if_neg (by decide),if_neg (by decide),if_pos rfl];simp only[lk,true_and]) (fun hc=>by rw[arndL,if_neg hc]) (by first|exact sx|simpa using sx)
set_option maxRecDepth 4000 in
theorem c_answerW{n:Nat}(C:Con)(wP wV vl:Value)(l:List Int)(sP:SB n 4 h wP (C.P.map pip))(sV:Sl h 4 wV (C.V.map vlv))(es:EszC h 4 wV)(g:conOk C)(sl:SI h vl l)(hl:(l.length:Int)=needs w_way) :
  vCall [] Tryz.prog M 107 [conV C wP wV, .string w_way,vl] h (fun r h'=>(∃x,r = .tuple #[x, .bool (askR C w_way l).isSome]∧SI h' x ((askR C w_way l).getD []))∧h<+:h'):=by
 obtain⟨N,P,V,src,D,Q,cnt⟩:=C
 have hP10:P.length<=1048576:=le_trans g.1.1.2.2 (by decide)
 have hV10:V.length<=1048576:=le_trans g.1.2.1 (by decide)
 simp only at sP sV es
 have o0:oneC wP=true:=by obtain⟨a,e,_⟩:=sP.1;rw[e];rfl
 have o0v:oneC wV=true:=by obtain⟨a,e,_⟩:=sV;rw[e];rfl
 have hv:NA n h (.agg #[.int .i64 N,wP]) N P:=⟨wP,rfl,sP⟩
 have fin: ∀(c:Prop) [Decidable c] (L:List Int) (x:Value) (H:Heap),askR ⟨N,P,V,src,D,Q,cnt⟩ w_way l=(if c then some L else none)->(¬c->L= [])->SI H x L->∃y,Value.tuple #[x, .bool (decide c)] = .tuple #[y, .bool (askR ⟨N,P,V,src,D,Q,cnt⟩ w_way l).isSome]∧SI H y ((askR ⟨N,P,V,src,D,Q,cnt⟩ w_way l).getD []):=fun c _ L x H he hn hs=>by
  rw[he]
  by_cases hc:c
  ·rw[if_pos hc,decide_eq_true hc]
   exact⟨_,rfl,hs⟩
  ·rw[if_neg hc,decide_eq_false hc]
   rw[hn hc] at hs
   exact⟨_,rfl,hs⟩
 have q1:decide (w_way=w_dry)=false:=by decide
 have q2:decide (w_way=w_burst)=false:=by decide
 have q3:decide (w_way=w_segment)=false:=by decide
 have q4:decide (w_way=w_around)=false:=by decide
 have q5:decide (w_way=w_way)=true:=by decide
 have lk:l.length=2:=by
  have hnn:needs w_way=2:=by decide
  omega
 obtain⟨a0,rfl⟩:=AI.len sl
 refine bo Tryz.func107 rfl rfl ?_
 obtain⟨idl,offl,kl,hvl,_,hkl,_,hdl,_,_,_,hat⟩:=AI.at sl (by omega)
 obtain rfl:a0=some ⟨idl,offl,none⟩:=by simpa using hvl
 have p0:=hat 0 (by omega)
 rw[gl_at] at p0
 simp only[add_zero] at p0
 have p1:=hat 1 (by omega)
 rw[gl_at] at p1
 simp only[go_sem,conV,toList_eq,q1,q2,q3,q4,q5,o0,o0v,hkl,hdl,p0,p1,lk]
 refine (c_ShortestWay _ N P (gl l 0) (gl l 1) (hv.mono (by simp)) hP10).go ?_
 rintro _ _⟨⟨x,rfl,sx⟩,⟨t,rfl⟩⟩
 simp only[go_sem]
 exact fin (wayOk N P (gl l 0) (gl l 1)) (wayR N P (gl l 0) (gl l 1)) _ _ (by rw[askR,if_neg (by decide),if_neg (by decide),if_neg (by decide),if_neg (by decide),if_neg (by decide),if_pos rfl];simp only[lk,true_and]) (fun hc=>by rw[wayR,if_neg hc]) (by first|exact sx|simpa using sx)
theorem c_answer{n:Nat}(C:Con)(w:ByteArray)(wP wV vl:Value)(l:List Int)(sP:SB n 4 h wP (C.P.map pip))(sV:Sl h 4 wV (C.V.map vlv))(es:EszC h 4 wV)(g:conOk C)(sl:SI h vl l)(hw:isAsk w)(hl:(l.length:Int)=needs w) :
  vCall [] Tryz.prog M 107 [conV C wP wV, .string w,vl] h (fun r h'=>(∃x,r = .tuple #[x, .bool (askR C w l).isSome]∧SI h' x ((askR C w l).getD []))∧h<+:h'):=by
 rcases hw with rfl|rfl|rfl|rfl|rfl|rfl
 ·exact c_answerD C wP wV vl l sP sV es g sl hl
 ·exact c_answerB C wP wV vl l sP sV es g sl hl
 ·exact c_answerU C wP wV vl l sP sV es g sl hl
 ·exact c_answerS C wP wV vl l sP sV es g sl hl
 ·exact c_answerA C wP wV vl l sP sV es g sl hl
 ·exact c_answerW C wP wV vl l sP sV es g sl hl
end
open Go.HH Go.Proofs
theorem splitB_hit{p q:BL}{b:UInt8}(hp:b∉p):splitL (p++b::q) b=p::splitL q b:=by
 have key: ∀(l:BL) (A:List BL) (c:BL),l.foldl (spl b) (A,c)=(A++((l.foldl (spl b) ([],c)).1),(l.foldl (spl b) ([],c)).2):=by
  intro l
  induction l with
  | nil=>intro A c;simp
  | cons x r ih=>
   intro A c
   simp only[foldl_cons]
   by_cases hx:x=b
   ·rw[show spl b (A,c) x=(A++ [c],[]) by rw[spl,if_pos hx],show spl b ([],c) x=([]++ [c],[]) by rw[spl,if_pos hx],ih (A++ [c]) [],ih ([]++ [c]) []]
    simp
   ·rw[show spl b (A,c) x=(A,c++ [x]) by rw[spl,if_neg hx],show spl b ([],c) x=([],c++ [x]) by rw[spl,if_neg hx],ih A (c++ [x])]
 have pre: ∀(l:BL) (c:BL),b∉l->l.foldl (spl b) ([],c)=([],c++l):=by
  intro l
  induction l with
  | nil=>intro c _;simp
  | cons x r ih=>
   intro c h
   simp only[mem_cons,not_or] at h
   rw[foldl_cons,show spl b ([],c) x=([],c++ [x]) by rw[spl,if_neg (fun e=>h.1 e.symm)],ih _ h.2,append_assoc];rfl
 have e:(p++b::q).foldl (spl b) ([],[])=q.foldl (spl b) ([p],[]):=by
  rw[List.foldl_append,pre p [] hp,nil_append,foldl_cons,spl,if_pos rfl];rfl
 simp only[splitL,e]
 rw[key q [p] []];rfl
theorem splitB_last{p:BL}{b:UInt8}(hp:b∉p):splitL p b= [p]:=by
 obtain⟨r,h1,h2⟩:=splitL_head p b
 rw[h1,h2.2 hp,cutA_miss hp]
def sbL(b:UInt8):Nat->BL->List BL
 | 0,l=> [l]
 | n+1,l=>cutA l b::sbL b n (cutB l b)
def sbR(b:UInt8):Nat->BL->BL
 | 0,l=>l
 | n+1,l=>sbR b n (cutB l b)
section
variable {b:UInt8}
theorem sbL_len: ∀n l,(sbL b n l).length=n+1
 | 0,_=>rfl
 | n+1,l=>by rw[sbL,length_cons,sbL_len n]
theorem sbR_succ: ∀n l,sbR b (n+1) l=cutB (sbR b n l) b
 | 0,_=>rfl
 | n+1,l=>by rw[sbR,sbR_succ n];rfl
theorem cutB_countB{l:BL}(h:b∈l):l.count b=(cutB l b).count b+1:=by
 have e:=(cut_mem h).1
 have n:(cutA l b).count b=0:=List.count_eq_zero.2 (cut_mem h).2
 conv=>lhs;rw[e]
 rw[List.count_append,List.count_cons,n];simp
theorem sbR_count: ∀n l,n<=l.count b->(sbR b n l).count b=l.count b-n
 | 0,l,_=>rfl
 | n+1,l,h=>by
  have hm:b∈l:=List.count_pos_iff.1 (by omega)
  have:=cutB_countB hm
  rw[sbR,sbR_count n _ (by omega)];omega
theorem idx_cutB: ∀ {l:BL},b∈l->Lib.indexByte l b=((cutA l b).length:Int)
 | [],h=>by cases h
 | x::l,h=>by
  unfold Lib.indexByte
  by_cases hb:x=b
  ·subst hb
   rw[show cutA (x::l) x= [] by rw[cutA,List.takeWhile_cons,if_neg (by simp)]]
   simp
  ·have hm:b∈l:=by rcases mem_cons.1 h with h|h;exact absurd h.symm hb;exact h
   have ih:=idx_cutB hm
   have e:(x==b)=false:=by simpa using hb
   rw[e,ih,show cutA (x::l) b=x::cutA l b by rw[cutA,List.takeWhile_cons,if_pos (by simpa using hb)];rfl]
   have:(((cutA l b).length:Int) == -1)=false:=by rw[beq_eq_false_iff_ne];omega
   simp[this]
theorem sbL_at: ∀(n:Nat) (l:BL) (i:Nat),i<n->(sbL b n l)[i]? = some (cutA (sbR b i l) b)
 | 0,_,i,h=>by omega
 | n+1,l,0,_=>rfl
 | n+1,l,i+1,h=>by rw[sbL,getElem?_cons_succ,sbL_at n _ i (by omega)];rfl
theorem sbL_last: ∀(n:Nat) (l:BL),(sbL b n l)[n]? = some (sbR b n l)
 | 0,_=>rfl
 | n+1,l=>by rw[sbL,getElem?_cons_succ,sbL_last n];rfl
end
theorem splitL_eq(b:UInt8): ∀(n:Nat) (l:BL),l.count b=n->splitL l b=sbL b n l
 | 0,l,h=>by rw[splitB_last (List.count_eq_zero.1 h)];rfl
 | n+1,l,h=>by
  have hm:b∈l:=List.count_pos_iff.1 (by omega)
  have h1:=cutB_countB hm
  obtain⟨h2,h3⟩:=cut_mem hm
  conv=>lhs;rw[h2]
  rw[splitB_hit h3,splitL_eq b n _ (by omega)]
  rfl
theorem set_takeB{X:List Value}{i:Nat}{v:Value}(hi:i<X.length):(setRange X i [v]).take (i+1)=X.take i++ [v]∧(setRange X i [v]).length=X.length:=by
 have lt:(X.take i).length=i:=by rw[length_take];omega
 constructor
 ·rw[setRange,List.take_append_of_le_length (by rw[length_append,lt];exact le_refl _),take_of_length_le (by rw[length_append,lt];exact le_refl _)]
 ·simp only[setRange,length_append,length_drop,length_singleton,lt];omega
theorem cut_extractB{b:UInt8}{r:BL}(h:b∈r):(mkB r).extract 0 (cutA r b).length=mkB (cutA r b)∧(mkB r).extract ((cutA r b).length+1) (mkB r).size=mkB (cutB r b)∧(cutA r b).length+1<=(mkB r).size:=by
 have e:=(cut_mem h).1
 obtain⟨A,hA⟩: ∃A,A=cutA r b:=⟨_,rfl⟩
 obtain⟨B,hB⟩: ∃B,B=cutB r b:=⟨_,rfl⟩
 rw[←hA, ←hB] at e
 rw[←hA, ←hB,e]
 have e2:A++b::B=(A++ [b])++B:=by simp
 refine⟨bl_ext ?_,bl_ext ?_,by rw[mkB_size];simp⟩
 ·rw[bl_extract,bl_mkB,bl_mkB,drop_zero,take_left'];rfl
 ·rw[bl_extract,bl_mkB,bl_mkB,mkB_size,take_length,e2,drop_left'];simp
section
variable {h:Heap} {M:Nat->Prop}
theorem c_IndexB(b:UInt8)(s:ByteArray)(hm:b∈bl s):vCall [] Tryz.prog M 136 [.string s, .string ⟨#[b]⟩] h (fun r h'=>r = .int .i64 ((cutA (bl s) b).length:Nat)∧h=h'):=by
 have:=vCall_plain (G:= []) (M:=M) (h:=h) (args:= [.string s, .string ⟨#[b]⟩]) (by rfl) rfl (Tryz.strings_Index_one s b)
 rw[show s.data.toList=bl s from rfl,idx_cutB hm] at this
 exact this
theorem c_CountB(b:UInt8)(s:ByteArray):vCall [] Tryz.prog M 165 [.string s, .string ⟨#[b]⟩] h (fun r h'=>r = .int .i64 ((bl s).count b:Nat)∧h=h'):=
 vCall_plain (G:= []) (M:=M) (h:=h) (args:= [.string s, .string ⟨#[b]⟩]) (by rfl) rfl (Tryz.strings_Count_one s b)
theorem c_genSplitB(b:UInt8)(s:ByteArray)(hs:s.size<=10000000):vCall [] Tryz.prog M 127 [.string s, .string ⟨#[b]⟩, .int .i64 0, .int .i64 (-1)] h
  (fun r h'=> ∃t j,r = .slice (some ⟨h.length+j,0,none⟩) ((bl s).count b+1) 0∧h'=h++t∧t[j]? = some ⟨strsV (sbL b ((bl s).count b) (bl s)),1, .rw⟩):=by
 refine bo Tryz.func127 rfl rfl ?_
 have f1:((-1:Int)==0)=false:=rfl
 have f2:((⟨#[b]⟩:ByteArray).toList==(⟨#[]⟩:ByteArray).toList)=false:=by rw[toList_eq];exact decide_eq_false (fun e=>by have:=congrArg ByteArray.size e;cases this)
 simp only[go_sem,f1,f2]
 refine (c_CountB b s).go ?_
 rintro _ _⟨rfl,rfl⟩
 have hc:(bl s).count b<=s.size:=by rw[←bl_len];exact List.count_le_length
 obtain⟨c,hcc⟩: ∃c,c=(bl s).count b:=⟨_,rfl⟩
 rw[←hcc] at hc
 rw[←hcc]
 have w1:IntKind.i64.wrap ((c:Int)+1)=((c+1:Nat):Int):=by rw[wrap64 (by omega)];rfl
 have w2:IntKind.i64.wrap ((s.size:Int)+1)=((s.size+1:Nat):Int):=by rw[wrap64 (by omega)];rfl
 have nm: ¬(((s.size+1:Nat):Int)<((c+1:Nat):Int)):=by omega
 have w3:IntKind.i64.wrap (((c+1:Nat):Int)-1)=(c:Int):=by rw[wrap64 (by omega)];omega
 have zl:(zeros (c+1) [Value.string ⟨#[]⟩]).length=c+1:=by rw[zeros_length];simp
 simp only[go_sem,w1,w2,w3,nm,if_false,Int.toNat_natCast]
 refine⟨by omega,by omega, ?_⟩
 refine vLoop.count mo c (fun i e h'=> ∃X:List Value,e 0 = .string (mkB (sbR b i (bl s)))∧e 1 = .string ⟨#[b]⟩∧e 2 = .int .i64 0∧e 3 = .int .i64 c∧e 9 = .slice (some ⟨h.length,0,none⟩) (c+1) 0∧e 10 = .int .i64 i ∧
  h'=h++ [⟨X,1, .rw⟩]∧X.length=c+1∧X.take i=strsV ((sbL b c (bl s)).take i)) ?_ ?_
 ·refine⟨zeros (c+1) [Value.string ⟨#[]⟩], ?_⟩
  simp only[go_sem,sbR,mkB_bl]
  refine⟨by rw[zeros_length];simp,by simp[strsV]⟩
 ·rintro i e _ hi ⟨X,e0,e1,e2,e3,e9,e10,rfl,hX,hT⟩
  by_cases hlt:i<c
  ·have hz:(i:Int)<c:=by omega
   have hm:b∈sbR b i (bl s):=List.count_pos_iff.1 (by rw[sbR_count i _ (by omega), ←hcc];omega)
   obtain⟨x1,x2,x3⟩:=cut_extractB hm
   simp only[go_sem,e0,e1,e2,e3,e9,e10,hz]
   refine (c_IndexB b (mkB (sbR b i (bl s))) hm).go ?_
   rintro _ _⟨rfl,rfl⟩
   rw[bl_mkB]
   obtain⟨q,hq⟩: ∃q,q=(cutA (sbR b i (bl s)) b).length:=⟨_,rfl⟩
   rw[←hq] at x1 x2 x3
   rw[←hq]
   have zr:(mkB (sbR b i (bl s))).size<=10000000:=by
    have: ∀n (l:BL),(sbR b n l).length<=l.length:=by
     intro n
     induction n with
     | zero=>intro l;exact le_refl _
     | succ n ih=>intro l;rw[sbR];exact le_trans (ih _) (by unfold cutB;exact le_trans (List.drop_sublist _ _).length_le (List.dropWhile_sublist _).length_le)
    have h1:=this i (bl s)
    rw[bl_len] at h1
    rw[mkB_size];omega
   have w4:IntKind.i64.wrap ((q:Int)+1)=((q+1:Nat):Int):=by rw[wrap64 (by omega)];rfl
   simp only[go_sem,e0,e1,e2,e3,e9,e10,hz,show ¬((q:Nat):Int)<0 by omega,w4,show (0:Int)<=((q+1:Nat):Int) by omega,show IntKind.i64.wrap ((q:Int)+0)=(q:Int) by rw[wrap64 (by omega)];omega,show (0:Int)<=(q:Int) by omega,show q<=(mkB (sbR b i (bl s))).size by omega,Int.toNat_natCast,x1,x2,x3,hX,show (i:Int)<((c+1:Nat):Int) by omega,show i+1<=c+1 by omega]
   obtain⟨t1,t2⟩:=set_takeB (X:=X) (v := .string (mkB (cutA (sbR b i (bl s)) b))) (show i<X.length by omega)
   exact⟨zero_le _,hlt,_,by rw[sbR_succ],by rw[wrap64 (by omega)];rfl,rfl,t2.trans hX,by rw[t1,hT,take_add_one,sbL_at c _ i hlt,strsV_app];rfl⟩
  ·obtain rfl:i=c:=by omega
   have w5:IntKind.i64.wrap ((i:Int)+1)=((i+1:Nat):Int):=by rw[wrap64 (by omega)];rfl
   simp only[go_sem,e0,e1,e2,e3,e9,e10,show ¬(i:Int)<(i:Int) by omega,hX,show (i:Int)<((i+1:Nat):Int) by omega,w5,show (0:Int)<=((i+1:Nat):Int) by omega,Int.toNat_natCast]
   obtain⟨t1,t2⟩:=set_takeB (X:=X) (v := .string (mkB (sbR b i (bl s)))) (show i<X.length by omega)
   have t3:setRange X i [.string (mkB (sbR b i (bl s)))]=strsV (sbL b i (bl s)):=by
    rw[←take_of_length_le (l:=setRange X i _) (i:=i+1) (by omega),t1,hT, ←take_of_length_le (l:=sbL b i (bl s)) (i:=i+1) (by rw[sbL_len];exact le_refl _),List.take_take,min_eq_left (by omega),take_add_one,sbL_last,strsV_app];rfl
   exact⟨_,0,rfl,rfl,by rw[t3];rfl⟩
theorem c_SplitB(b:UInt8)(s:ByteArray)(hs:s.size<=10000000):vCall [] Tryz.prog M 77 [.string s, .string ⟨#[b]⟩] h
  (fun r h'=> ∃t j,r = .slice (some ⟨h.length+j,0,none⟩) (splitL (bl s) b).length 0∧h'=h++t∧t[j]? = some ⟨strsV (splitL (bl s) b),1, .rw⟩):=by
 refine bo Tryz.func77 rfl rfl ?_
 simp only[go_sem]
 refine (c_genSplitB b s hs).go ?_
 rintro _ _⟨t,j,rfl,rfl,hj⟩
 try simp only[go_sem]
 refine⟨t,j, ?_,rfl, ?_⟩
 ·rw[splitL_eq b _ _ rfl,sbL_len]
 ·rw[splitL_eq b _ _ rfl];exact hj
end
open Go.HH Go.Proofs
def nu(n:Int):ByteArray:=num n.toNat
theorem nu_size{n:Int}(h:0<=n∧n<100):(nu n).size<=2:=num_size 2 n.toNat (by omega) (by omega)
section
variable {G:List (Nat×Nat)} {h:Heap} {M:Nat->Prop}
theorem c_ItoaI(n:Int)(hn:0<=n∧n<100):vCall [] Tryz.prog M 80 [.int .i64 n] h (fun r h'=>r = .string (nu n)∧h=h'):=by
 obtain⟨k,rfl⟩:=Int.eq_ofNat_of_zero_le hn.1
 exact c_Itoa k (by omega)
theorem c_l1NumI(n:Int)(hn:0<=n∧n<100):vCall [] Tryz.prog M 82 [.int .i64 n] h (fun r h'=>r = .string (nu n)∧h=h'):=by
 obtain⟨k,rfl⟩:=Int.eq_ofNat_of_zero_le hn.1
 exact c_l1Num k (by omega)
end
open Go.HH Go.Proofs Go.RowKit
def joinB(xs:List ByteArray)(sep:ByteArray):ByteArray:=⟨(Lib.join (xs.map (·.data.toList)) sep.data.toList).toArray⟩
theorem joinB_nil(sep:ByteArray):joinB [] sep=⟨#[]⟩:=rfl
theorem joinB_one(x sep:ByteArray):joinB [x] sep=x:=by
 show (⟨(Lib.join [x.data.toList] sep.data.toList).toArray⟩:ByteArray)=x
 rw[Lib.join_one]
theorem joinB_snoc(x:ByteArray)(xs:List ByteArray)(y sep:ByteArray):joinB (x::xs++ [y]) sep=joinB (x::xs) sep++sep++y:=by
 apply bl_ext
 show (Lib.join ((x::xs++ [y]).map (·.data.toList)) sep.data.toList).toArray.toList=(joinB (x::xs) sep++sep++y).data.toList
 simp only[cons_append,map_cons,map_append,List.map_nil,Lib.join_cons,Lib.joinTail,joinB,ByteArray.data_append,Array.toList_append,flatten_append,flatten_cons,List.flatten_nil,append_nil,append_assoc]
theorem joinB_size{sep:ByteArray}{k:Nat}: ∀ {xs:List ByteArray},(∀x∈xs,x.size<=k)->(joinB xs sep).size<=xs.length*(k+sep.size)
 | [],_=>by rw[joinB_nil];exact zero_le _
 | [x],hx=>by rw[joinB_one];have:=hx x (by simp);rw[length_singleton,Nat.one_mul];omega
 | x::y::r,hx=>by
  have e:joinB (x::y::r) sep=x++sep++joinB (y::r) sep:=by
   apply bl_ext
   show (Lib.join ((x::y::r).map (·.data.toList)) sep.data.toList).toArray.toList=(x++sep++joinB (y::r) sep).data.toList
   simp only[map_cons,Lib.join_cons,Lib.joinTail,joinB,ByteArray.data_append,Array.toList_append,flatten_cons,append_assoc]
  have h1:=joinB_size (sep:=sep) (k:=k) (xs:=y::r) (fun z hz=>hx z (mem_cons_of_mem _ hz))
  have h2:=hx x (by simp)
  rw[e,ByteArray.size_append,ByteArray.size_append,length_cons,Nat.succ_mul]
  omega
theorem strs_flat(xs:List ByteArray):(xs.map fun x=> [Value.string x]).flatten=xs.map Value.string:=by
 induction xs with
 | nil=>rfl
 | cons y ys ih=>rw[map_cons,flatten_cons,ih];rfl
theorem Sl.strs{h:Heap}{id n:Nat}{xs ys:List ByteArray}(hg:hget h id=some ⟨xs.map Value.string,1, .rw⟩)(hy:ys=xs.take n)(hn:n=ys.length):Sl h 1 (.slice (some ⟨id,0,none⟩) n 0) (ys.map fun x=> [.string x]):=by
 refine⟨some ⟨id,0,none⟩,by rw[length_map,hn],fun r hr => ?_,fun _=>⟨id,0,_,rfl,hg,by simp, ?_, ?_⟩⟩
 ·obtain⟨x,_,rfl⟩:=mem_map.1 hr;rfl
 ·have:ys.length<=xs.length:=by rw[hy,length_take];omega
  simp only[length_map];omega
 ·rw[strs_flat,length_map,drop_zero, ←List.map_take,Nat.mul_one, ←hn, ←hy]
theorem c_Join{G:List (Nat×Nat)}{h:Heap}{M:Nat->Prop}(v:Value)(xs:List ByteArray)(sep:ByteArray)(s:Sl h 1 v (xs.map fun x=> [.string x]))(hN:xs.length<=1000000)(hlen:(joinB xs sep).size<=1000000000) :
  vCall G Tryz.prog M 147 [v, .string sep] h (fun r h'=>r = .string (joinB xs sep)∧h=h'):=by
 refine⟨.string (joinB xs sep),h,fun p w vs hr ha => ?_,rfl,rfl⟩
 obtain⟨v',rfl,hv⟩: ∃v',vs= #[v', .string sep]∧VRel p v v':=by
  have h2:vs.size=2:=ha.1.symm
  refine⟨vs[0], ?_,ha.2 0 (by simp) (by omega)⟩
  refine Array.ext (by simpa using h2) fun i h3 h4 => ?_
  match i,h4 with
  | 0,_=>rfl
  | 1,_=>
   have:=ha.2 1 (by simp) (by omega)
   have:=(Plain.string sep).eq this
   simpa using this
 have fin: ∀w',Below w.heap.size w w'->∃v q,Ending.returned (.string (joinB xs sep))=Ending.returned v∧VRel q (.string (joinB xs sep)) v∧HRel G q h w'∧Ext M p q h h w w':=fun w' b=>
  ⟨_,p,rfl, .string _,hr.kept b.size (fun k hk=>b.block k hk),Ext.of_below b⟩
 by_cases h0:xs= []
 ·subst h0
  obtain⟨a,rfl,_⟩:=s
  obtain⟨a',c',rfl⟩: ∃a' c',v' = .slice a' 0 c':=by
   cases hv with
   | sliceNil=>exact⟨_,_,rfl⟩
   | slice=>exact⟨_,_,rfl⟩
   | sliceEmpty=>exact⟨_,_,rfl⟩
  refine (Tryz.strings_Join_none a' c' sep w).mono ?_
  rintro e w' ⟨rfl,rfl⟩
  exact fin _ (Below.refl _ _)
 ·obtain⟨bk,o,c,rfl,h1,h2,h3⟩:=strs_cells hr s hv h0
  refine (Tryz.strings_Join bk o c xs sep w h3 h1 (by omega) h2 ?_).mono ?_
  ·have:(joinB xs sep).size=(Lib.join (xs.map (·.data.toList)) sep.data.toList).length:=by simp[joinB,ByteArray.size]
   omega
  ·rintro e w' ⟨rfl,b⟩
   exact fin _ b
open Go.HH Go.Proofs
def blank:ByteArray:=⟨#[32]⟩
def listS(l:List Int):ByteArray:=if l= [] then ⟨#[110,111,110,101]⟩ else joinB (l.map nu) blank
theorem list_size{l:List Int}(g: ∀x∈l,0<=x∧x<100)(hl:l.length<=100)(i:Nat):(joinB ((l.take i).map nu) blank).size<=300:=by
 have h1:=joinB_size (sep:=blank) (k:=2) (xs:=(l.take i).map nu) (fun x hx=>by
  obtain⟨y,hy,rfl⟩:=mem_map.1 hx
  exact nu_size (g y (List.mem_of_mem_take hy)))
 have h2:((l.take i).map nu).length<=100:=by rw[length_map,length_take];omega
 have h3:blank.size=1:=rfl
 rw[h3] at h1
 omega
section
variable {h:Heap} {M:Nat->Prop}
theorem c_listText(v:Value)(l:List Int)(s:SI h v l)(g: ∀x∈l,0<=x∧x<100)(hl:l.length<=100):vCall [] Tryz.prog M 108 [v] h (fun r h'=>r = .string (listS l)∧h<+:h'):=by
 obtain⟨a,rfl⟩:=AI.len s
 refine bo Tryz.func108 rfl rfl ?_
 simp only[go_sem]
 by_cases l0:l= []
 ·subst l0
  simp only[go_sem]
  rfl
 ·have hpos:0<l.length:=length_pos_iff.2 l0
  simp only[go_sem,show ((l.length:Int)==0)=false by simp;omega]
  refine vLoop.count mo l.length (fun i e h'=> ∃(t:Heap) (j:Nat),Regs e [(3, .slice (some ⟨h.length+j,0,none⟩) i 0),(10, .slice a l.length 0),(11, .int .i64 l.length),(12, .int .i64 i)]∧HeapIs h' (h++t)∧t[j]? = some ⟨((l.take i).map nu).map Value.string,1, .rw⟩) ?_ ?_
  ·exact⟨_,0,⟨rfl,rfl,rfl,rfl,trivial⟩, .rfl,rfl⟩
  ·rintro i e _ hi ⟨t,j,⟨e3,e10,e11,e12,_⟩,rfl,hj⟩
   simp only[go_sem,e3,e10,e11,e12]
   by_cases hlt:i<l.length
   ·have hz:(i:Int)<l.length:=by omega
    have ws:=wsucc hlt (by omega)
    obtain⟨id,o,k,hv,_,hk,_,hd,_,_,_,hat⟩:=AI.at s (zero_lt_of_lt hlt)
    obtain rfl:a=some ⟨id,o,none⟩:=by simpa using hv
    have hx:=g _ (getElem_mem hlt)
    have htk:(l.take (i+1)).map nu=(l.take i).map nu++ [nu l[i]]:=by rw[take_succ_eq_append_getElem hlt,map_append];rfl
    obtain⟨X,hX⟩: ∃X,X=(l.take i).map nu:=⟨_,rfl⟩
    have hXl:X.length=i:=by rw[hX,length_map,length_take];omega
    rw[←hX] at hj htk
    simp only[go_sem,e3,e10,e11,e12,hz,hk,hd,hat i hlt]
    refine (c_ItoaI _ hx).go ?_
    rintro _ _⟨rfl,rfl⟩
    simp only[go_sem,e3,e10,e11,e12,app_old hj,length_map,hXl]
    refine⟨by omega,by omega,hlt,_,t.length+1,⟨rfl,e10,e11,congrArg _ ws,trivial⟩, .rfl, ?_⟩
    rw[htk]
    exact (new_at (by simp)).trans (by simp)
   ·obtain rfl:i=l.length:=by omega
    rw[take_length] at hj
    simp only[go_sem,e3,e10,e11,e12,show ¬((l.length:Int)<l.length) by omega]
    have hs:=list_size g hl l.length
    rw[take_length] at hs
    have sJ:Sl (h++t) 1 (.slice (some ⟨h.length+j,0,none⟩) l.length 0) ((l.map nu).map fun x=> [.string x]):=by
     have hy:l.map nu=(l.map nu).take l.length:=by rw[←length_map nu,take_length]
     exact Sl.strs (xs:=l.map nu) (ys:=l.map nu) (by rw[hget_app];exact hj) hy (by rw[length_map])
    refine (c_Join _ (l.map nu) blank sJ (by rw[length_map];omega) (by omega)).go ?_
    rintro _ _⟨rfl,rfl⟩
    simp only[go_sem]
    rw[listS,if_neg l0]
theorem c_l28List(v:Value)(l:List Int)(ok:Bool)(s:SI h v l)(g: ∀x∈l,0<=x∧x<100)(hl:l.length<=100):vCall [] Tryz.prog M 159 [v, .bool ok] h (fun r h'=>r = .string (if ok then listS l else ⟨#[63]⟩)∧h<+:h'):=by
 obtain⟨a,rfl⟩:=AI.len s
 refine bo Tryz.func159 rfl rfl ?_
 simp only[go_sem]
 cases ok with
 | false=>
  simp only[go_sem]
  try rfl
 | true=>
  simp only[go_sem]
  by_cases l0:l= []
  ·subst l0
   simp only[go_sem]
   rfl
  ·have hpos:0<l.length:=length_pos_iff.2 l0
   obtain⟨id,o,k,hv,_,hk,hk0,hd,_,_,_,hat⟩:=AI.at s hpos
   obtain rfl:a=some ⟨id,o,none⟩:=by simpa using hv
   have h00:=hat 0 hpos
   rw[add_zero] at h00
   simp only[go_sem,show ((l.length:Int)==0)=false by simp;omega,show (0:Int)<l.length by omega,hk0,hd,h00]
   refine (c_l1NumI _ (g _ (getElem_mem hpos))).go ?_
   rintro _ _⟨rfl,rfl⟩
   try simp only[go_sem]
   refine vLoop.count mo (l.length-1) (fun i e h'=>Regs e [(0, .slice (some ⟨id,o,none⟩) l.length 0),(5, .string (joinB ((l.take (i+1)).map nu) blank)),(6, .int .i64 ((i+1:Nat):Int))]∧HeapIs h' h) ?_ ?_
   ·refine⟨⟨rfl, ?_,rfl,trivial⟩, .rfl⟩
    have e1:(l.take (0+1)).map nu= [nu l[0]]:=by rw[take_succ_eq_append_getElem hpos];rfl
    rw[e1,joinB_one];rfl
   ·rintro i e _ hi ⟨⟨e0,e5,e6,_⟩,rfl⟩
    simp only[go_sem,e0,e5,e6]
    by_cases hlt:i+1<l.length
    ·have hz:((i+1:Nat):Int)<l.length:=by omega
     have wi:=wsucc (i:=i+1) hlt (by omega)
     have hx:=g _ (getElem_mem hlt)
     have hs:=list_size g hl (i+1)
     have hn:=nu_size hx
     have z0:(0:Int)<=((i+1:Nat):Int):=by omega
     have htk:joinB ((l.take (i+1+1)).map nu) blank=joinB ((l.take (i+1)).map nu) blank++blank++nu l[i+1]:=by
      rw[take_succ_eq_append_getElem hlt,map_append]
      obtain⟨x,xs,hc⟩: ∃x xs,(l.take (i+1)).map nu=x::xs:=by
       cases hc:(l.take (i+1)).map nu with
       | nil=>have:=congrArg List.length hc;rw[length_map,length_take,length_nil] at this;omega
       | cons x xs=>exact⟨x,xs,rfl⟩
      rw[hc]
      exact joinB_snoc x xs (nu l[i+1]) blank
     have hbl:blank=⟨#[32]⟩:=rfl
     have a1:hBin .add (.string (joinB ((l.take (i+1)).map nu) blank)) (.string ⟨#[32]⟩)=some (.string (joinB ((l.take (i+1)).map nu) blank++blank)):=hBin_sadd (by show _+1<=_;omega)
     have a2:hBin .add (.string (joinB ((l.take (i+1)).map nu) blank++blank)) (.string (nu l[i+1]))=some (.string (joinB ((l.take (i+1)).map nu) blank++blank++nu l[i+1])):=hBin_sadd (by rw[ByteArray.size_append];show _+1+_<=_;omega)
     simp only[go_sem,e0,e5,e6,hz,z0,hk0,hd,hat (i+1) hlt,a1]
     refine (c_l1NumI _ hx).go ?_
     rintro _ _⟨rfl,rfl⟩
     simp only[go_sem,e0,e5,e6,a2]
     exact⟨by omega,⟨e0,congrArg _ htk.symm,congrArg _ wi,trivial⟩, .rfl⟩
    ·obtain rfl:i=l.length-1:=by omega
     simp only[go_sem,e0,e5,e6,show ¬(((l.length-1+1:Nat):Int)<l.length) by omega]
     rw[listS,if_neg l0,show l.length-1+1=l.length by omega,take_length]
end
open Go.HH Go.Proofs
def numsOk(ws:List BL):Prop:= ∀w∈ws,rdOk (mkB w)
open Classical in
noncomputable instance {ws:List BL}:Decidable (numsOk ws):=propDecidable _
noncomputable def numsL(ws:List BL):List Int:=ws.map fun w=>rdN (mkB w)
def strR(w:BL):List Value:= [.string (mkB w)]
theorem numsL_take{ws:List BL}{i:Nat}(hi:i<ws.length):numsL (ws.take (i+1))=numsL (ws.take i)++ [rdN (mkB ws[i])]:=by
 unfold numsL
 rw[take_add_one,getElem?_eq_getElem hi,Option.toList_some,map_append]
 rfl
theorem numsL_len{ws:List BL}{i:Nat}(hi:i<=ws.length):(numsL (ws.take i)).length=i:=by
 unfold numsL
 rw[length_map,length_take];omega
section
variable {h:Heap} {M:Nat->Prop}
set_option maxRecDepth 4000 in
theorem c_l28Numbers(v:Value)(ws:List BL)(sw:Sl h 1 v (ws.map strR))(hs: ∀w∈ws,(mkB w).size<=10000000)(hn:ws.length<=1048576) :
  vCall [] Tryz.prog M 113 [v] h (fun r h'=>(∃x,r = .tuple #[x, .bool (decide (numsOk ws))]∧(numsOk ws->SI h' x (numsL ws)))∧h<+:h'):=by
 obtain⟨a,ev,_,_⟩:=id sw
 rw[length_map] at ev
 subst ev
 refine bo Tryz.func113 rfl rfl ?_
 simp only[go_sem]
 refine vLoop.count mo ws.length (fun i e h'=> ∃(u:Heap) (j:Nat),Regs e [(0, .slice a ws.length 0),(4, .slice (some ⟨h.length+j,0,none⟩) i 0),(5, .int .i64 i)] ∧
  HeapIs h' (h++u)∧u[j]? = some ⟨(numsL (ws.take i)).map iv,1, .rw⟩∧∀(m:Nat) (hm:m<ws.length),m<i->rdOk (mkB ws[m])) ?_ ?_
 ·exact⟨_,0,⟨rfl,rfl,rfl,trivial⟩, .rfl,rfl,fun m _ hm=>absurd hm (by omega)⟩
 ·rintro i e _ hi ⟨u,j,⟨e0,e4,e5,_⟩,rfl,hj,hlo⟩
  by_cases hlt:i<ws.length
  ·have wi:=wsucc hlt (by omega)
   obtain⟨id,o,k,hv',hk,_,hd,hb,hrow,hat⟩:=sw.at (i:=i) (by rw[length_map];exact hlt)
   rw[length_map] at hv'
   obtain rfl:a=some ⟨id,o,none⟩:=by simpa using hv'
   have g0:=hat 0 (by omega)
   rw[getElem_map] at g0
   simp only[strR,getElem?_cons_zero,add_zero,Nat.mul_one] at g0
   have hz:(i:Int)<ws.length:=by omega
   simp only[go_sem,e0,e4,e5,hz,hk,hd,g0]
   refine (c_sParseInt (mkB ws[i]) (hs _ (getElem_mem _))).go ?_
   rintro _ _⟨rfl,⟨t,rfl⟩⟩
   by_cases c:rdOk (mkB ws[i])
   ·have hlen:=numsL_len (ws:=ws) (i:=i) (by omega)
    have hjl:=(List.getElem?_eq_some_iff.1 hj).1
    simp only[go_sem,e0,e4,e5,decb c,app_old hj,length_map,hlen]
    refine⟨by omega,by omega,hlt,_,u.length+(t.length+1),⟨e0,rfl,congrArg _ wi,trivial⟩, .rfl, ?_, ?_⟩
    ·rw[numsL_take hlt,map_append]
     exact (getElem?_append_right (by simp)).trans (by simp[iv])
    ·intro m hm hmi
     by_cases h2:m<i
     ·exact hlo m hm h2
     ·obtain rfl:m=i:=by omega
      exact c
   ·have nok: ¬numsOk ws:=fun hh=>c (hh _ (getElem_mem _))
    simp only[go_sem,e0,e4,e5,dect c]
    exact⟨_,by rw[decide_eq_false nok],fun hh=>absurd hh nok⟩
  ·obtain rfl:i=ws.length:=by omega
   have ok:numsOk ws:=fun w hw=>by
    obtain⟨m,hm,rfl⟩:=mem_iff_getElem.1 hw
    exact hlo m hm hm
   simp only[go_sem,e0,e4,e5,show ¬((ws.length:Int)<ws.length) by omega]
   refine⟨_,by rw[decide_eq_true ok],fun _ => ?_⟩
   rw[take_length] at hj
   have hjl:=(List.getElem?_eq_some_iff.1 hj).1
   have:=FI.si (lo:=0) (hi:=(h++u).length) (FI.at (h:=h++u) (l:=numsL ws) (id:=h.length+j) (by omega) (by simp;omega) (by rw[hget_app];exact hj)) (le_refl _)
   simpa[numsL] using this
end
open Go.HH Go.Proofs
theorem dst_le{P:List Pip}{s:Int}{N:Nat}{v:Int}(h1:1<=v)(h2:v<=N):dst P s N v<=N:=by
 unfold dst
 split
 ·rename_i h
  exact (h.choose_spec.rng v h1 h2).2
 ·omega
theorem bst_mem{P:List Pip}{V:List Vlv}{s k:Nat}: ∀ {n:Nat} {d:List Int},bst P V s k n=some d->∀x∈d,x∈openVl V
 | 0,d,h=>by cases h
 | n+1,d,h=>by
  unfold bst at h
  split at h
  ·split at h
   ·cases h;exact choice_mem (le_refl _)
   ·rename_i d' hd'
    split at h
    ·cases h;exact choice_mem (le_refl _)
    ·cases h;exact bst_mem hd'
  ·exact bst_mem h
theorem valOk.ids{N:Int}{P:List Pip}{V:List Vlv}(g:valOk N P V): ∀v∈V,1<=v.1∧v.1<=99:=fun v hv=>by
 obtain⟨i,hi,rfl⟩:=mem_iff_getElem.1 hv
 have h1:=(g.2.2 i hi).1.1
 rw[getDv hi] at h1
 exact h1
theorem openVl_ids{N:Int}{P:List Pip}{V:List Vlv}(g:valOk N P V): ∀x∈openVl V,0<=x∧x<100:=fun x hx=>by
 obtain⟨v,hv,rfl⟩:=mem_map.1 hx
 have:=g.ids v (mem_filter.1 hv).1
 omega
def Sht(l:List Int):Prop:=(∀x∈l,0<=x∧x<100)∧l.length<=100
theorem Sht.nil:Sht []:=⟨fun x hx=>(by cases hx),by decide⟩
theorem Sht.nodes{N:Int}{f:Nat->Bool}(hN:1<=N∧N<=8):Sht (nodesOf N.toNat f):=by
 refine⟨fun x hx => ?_,le_trans nodesOf_len (by omega)⟩
 have:=nodesOf_mem.1 hx
 omega
theorem askB{C:Con}(g:conOk C){w:ByteArray}{l L:List Int}(h:askR C w l=some L):Sht L:=by
 have hN:=g.1.1.2.1
 have hids:=g.1.1.ids
 unfold askR at h
 split at h
 ·split at h
  ·cases h
   unfold dryL
   split
   ·exact .nodes hN
   ·exact .nil
  ·cases h
 ·split at h
  ·split at h
   ·cases h
    unfold briR
    split
    ·exact⟨briL_ids hids,le_trans briL_len (le_trans g.1.1.2.2 (by decide))⟩
    ·exact .nil
   ·cases h
  ·split at h
   ·split at h
    ·unfold planR at h
     split at h
     ·refine⟨fun x hx=>openVl_ids g.1 x (bst_mem h x hx), ?_⟩
      have h1:=bst_len h
      have h2:=openVl_len (V:=C.V)
      have h3:=g.1.2.1
      omega
     ·cases h
    ·cases h
   ·split at h
    ·split at h
     ·cases h
      unfold segL
      split
      ·exact .nodes hN
      ·exact .nil
     ·cases h
    ·split at h
     ·split at h
      ·cases h
       unfold arndL
       split
       ·refine⟨fun x hx => ?_, ?_⟩
        ·obtain⟨i,hi,rfl⟩:=mem_map.1 hx
         have hb:=arI_in i hi
         have hl:i.toNat<C.V.length:=by omega
         have:=g.1.ids C.V[i.toNat] (getElem_mem hl)
         rw[getDv hl]
         omega
        ·rw[length_map]
         have h3:=g.1.2.1
         exact le_trans arI_len (by omega)
       ·exact .nil
      ·cases h
     ·split at h
      ·split at h
       ·rename_i hw
        cases h
        unfold wayR
        rw[if_pos hw.2]
        refine⟨fun x hx => ?_, ?_⟩
        ·obtain⟨p,hp,rfl⟩:=wayL_mem _ _ _ _ x hx
         have:=hids p hp
         omega
        ·have h1:=wayL_len (P:=C.P) (dst C.P (gl l 1) C.N.toNat) (gl l 1) (dst C.P (gl l 1) C.N.toNat (gl l 0)).toNat (gl l 0)
         have h2:=dst_le (P:=C.P) (s:=gl l 1) (N:=C.N.toNat) (v:=gl l 0) hw.2.2.1.1 (by have:=hw.2.2.1.2;omega)
         omega
       ·cases h
      ·cases h
section
variable {h:Heap} {M:Nat->Prop}
theorem c_l28ListNo(v:Value):vCall [] Tryz.prog M 159 [v, .bool false] h (fun r h'=>r = .string ⟨#[63]⟩∧h<+:h'):=by
 refine bo Tryz.func159 rfl rfl ?_
 simp only[go_sem]
 try rfl
end
open Go.HH Go.Proofs
noncomputable def askT(C:Con)(w:ByteArray)(l:List Int):ByteArray:=match askR C w l with
 | some L=>listS L
 | none=>⟨#[63]⟩
section
variable {h:Heap} {M:Nat->Prop}
set_option maxRecDepth 4000 in
theorem c_l28AskD{n:Nat}(C:Con)(wP wV vl:Value)(l:List Int)(sP:SB n 4 h wP (C.P.map pip))(sV:Sl h 4 wV (C.V.map vlv))(esP:EszC h 4 wP)(g:conOk C)(sl:SI h vl l) :
  vCall [] Tryz.prog M 115 [conV C wP wV, .string w_dry,vl] h (fun r h'=>r = .string (askT C w_dry l)∧h<+:h'):=by
 have hB:= @askB C g w_dry l
 obtain⟨N,P,V,src,D,Q,cnt⟩:=C
 have hP10:P.length<=1048576:=le_trans g.1.1.2.2 (by decide)
 have hV10:V.length<=1048576:=le_trans g.1.2.1 (by decide)
 simp only at sP sV esP
 have o0:oneC wP=true:=by obtain⟨a,e,_⟩:=sP.1;rw[e];rfl
 have o0v:oneC wV=true:=by obtain⟨a,e,_⟩:=sV;rw[e];rfl
 have hv:NA n h (.agg #[.int .i64 N,wP]) N P:=⟨wP,rfl,sP⟩
 have qa:decide (w_dry=w_dry)=true:=by decide
 have qb:decide (w_dry=w_burst)=false:=by decide
 have qc:decide (w_dry=w_segment)=false:=by decide
 have qd:decide (w_dry=w_around)=false:=by decide
 have qe:decide (w_dry=w_way)=false:=by decide
 have qf:decide (w_dry=w_bridges)=false:=by decide
 obtain⟨a0,rfl⟩:=AI.len sl
 refine bo Tryz.func115 rfl rfl ?_
 by_cases lk:l.length=0
 case neg=>
  have he:askR ⟨N,P,V,src,D,Q,cnt⟩ w_dry l=none:=by
   rw[askR]
   repeat rw[if_neg (by decide)]
   rw[if_pos rfl]
   first|rw[if_neg lk]|rw[if_neg (fun hh=>lk hh.1)]
  have nl:((l.length:Int)==0)=false:=by rw[beq_eq_false_iff_ne];omega
  simp only[go_sem,conV,toList_eq,qa,qb,qc,qd,qe,qf,o0,o0v,nl]
  refine (c_l28ListNo _).go ?_
  rintro _ _⟨rfl,⟨t,rfl⟩⟩
  simp only[go_sem]
  rw[askT,he]
 case pos=>
  simp only[go_sem,conV,toList_eq,qa,qb,qc,qd,qe,qf,o0,o0v,lk]
  refine (c_sDryNodes _ wV N P V src (hv.mono (by simp)) (sV.mono (by simp)) hP10 hV10).go ?_
  rintro _ _⟨⟨x,rfl,sx⟩,⟨t,rfl⟩⟩
  by_cases c:valOk N P V∧1<=src∧src<=N
  ·have he:askR ⟨N,P,V,src,D,Q,cnt⟩ w_dry l=some (dryL N P V src):=by
    rw[askR,if_pos rfl,if_pos ⟨lk,c⟩]
   simp only[go_sem,decb c]
   refine (c_l28List x (dryL N P V src) true (by first|exact sx|simpa using sx) (hB he).1 (hB he).2).go ?_
   rintro _ _⟨rfl,⟨t2,rfl⟩⟩
   simp only[go_sem]
   rw[askT,he]
  ·have he:askR ⟨N,P,V,src,D,Q,cnt⟩ w_dry l=none:=by
    rw[askR,if_pos rfl,if_neg (fun hh=>c hh.2)]
   simp only[go_sem,dect c]
   refine (c_l28ListNo _).go ?_
   rintro _ _⟨rfl,⟨t2,rfl⟩⟩
   simp only[go_sem]
   rw[askT,he]
set_option maxRecDepth 4000 in
theorem c_l28AskB{n:Nat}(C:Con)(wP wV vl:Value)(l:List Int)(sP:SB n 4 h wP (C.P.map pip))(sV:Sl h 4 wV (C.V.map vlv))(esP:EszC h 4 wP)(g:conOk C)(sl:SI h vl l) :
  vCall [] Tryz.prog M 115 [conV C wP wV, .string w_bridges,vl] h (fun r h'=>r = .string (askT C w_bridges l)∧h<+:h'):=by
 have hB:= @askB C g w_bridges l
 obtain⟨N,P,V,src,D,Q,cnt⟩:=C
 have hP10:P.length<=1048576:=le_trans g.1.1.2.2 (by decide)
 have hV10:V.length<=1048576:=le_trans g.1.2.1 (by decide)
 simp only at sP sV esP
 have o0:oneC wP=true:=by obtain⟨a,e,_⟩:=sP.1;rw[e];rfl
 have o0v:oneC wV=true:=by obtain⟨a,e,_⟩:=sV;rw[e];rfl
 have hv:NA n h (.agg #[.int .i64 N,wP]) N P:=⟨wP,rfl,sP⟩
 have qa:decide (w_bridges=w_dry)=false:=by decide
 have qb:decide (w_bridges=w_burst)=false:=by decide
 have qc:decide (w_bridges=w_segment)=false:=by decide
 have qd:decide (w_bridges=w_around)=false:=by decide
 have qe:decide (w_bridges=w_way)=false:=by decide
 have qf:decide (w_bridges=w_bridges)=true:=by decide
 obtain⟨a0,rfl⟩:=AI.len sl
 refine bo Tryz.func115 rfl rfl ?_
 by_cases lk:l.length=0
 case neg=>
  have he:askR ⟨N,P,V,src,D,Q,cnt⟩ w_bridges l=none:=by
   rw[askR]
   repeat rw[if_neg (by decide)]
   rw[if_pos rfl]
   first|rw[if_neg lk]|rw[if_neg (fun hh=>lk hh.1)]
  have nl:((l.length:Int)==0)=false:=by rw[beq_eq_false_iff_ne];omega
  simp only[go_sem,conV,toList_eq,qa,qb,qc,qd,qe,qf,o0,o0v,nl]
  refine (c_l28ListNo _).go ?_
  rintro _ _⟨rfl,⟨t,rfl⟩⟩
  simp only[go_sem]
  rw[askT,he]
 case pos=>
  simp only[go_sem,conV,toList_eq,qa,qb,qc,qd,qe,qf,o0,o0v,lk]
  refine (c_sBridgePipes wP N P (sP.mono (by simp)) (esP.mono (by simp)) hP10).go ?_
  rintro _ _⟨⟨x,rfl,sx⟩,⟨t,rfl⟩⟩
  by_cases c:netGood N P
  ·have he:askR ⟨N,P,V,src,D,Q,cnt⟩ w_bridges l=some (briR N P):=by
    rw[askR,if_neg (by decide),if_pos rfl,if_pos ⟨lk,c⟩]
   simp only[go_sem,decb c]
   refine (c_l28List x (briR N P) true (by first|exact sx|simpa using sx) (hB he).1 (hB he).2).go ?_
   rintro _ _⟨rfl,⟨t2,rfl⟩⟩
   simp only[go_sem]
   rw[askT,he]
  ·have he:askR ⟨N,P,V,src,D,Q,cnt⟩ w_bridges l=none:=by
    rw[askR,if_neg (by decide),if_pos rfl,if_neg (fun hh=>c hh.2)]
   simp only[go_sem,dect c]
   refine (c_l28ListNo _).go ?_
   rintro _ _⟨rfl,⟨t2,rfl⟩⟩
   simp only[go_sem]
   rw[askT,he]
set_option maxRecDepth 4000 in
theorem c_l28AskU{n:Nat}(C:Con)(wP wV vl:Value)(l:List Int)(sP:SB n 4 h wP (C.P.map pip))(sV:Sl h 4 wV (C.V.map vlv))(esP:EszC h 4 wP)(g:conOk C)(sl:SI h vl l) :
  vCall [] Tryz.prog M 115 [conV C wP wV, .string w_burst,vl] h (fun r h'=>r = .string (askT C w_burst l)∧h<+:h'):=by
 have hB:= @askB C g w_burst l
 obtain⟨N,P,V,src,D,Q,cnt⟩:=C
 have hP10:P.length<=1048576:=le_trans g.1.1.2.2 (by decide)
 have hV10:V.length<=1048576:=le_trans g.1.2.1 (by decide)
 simp only at sP sV esP
 have o0:oneC wP=true:=by obtain⟨a,e,_⟩:=sP.1;rw[e];rfl
 have o0v:oneC wV=true:=by obtain⟨a,e,_⟩:=sV;rw[e];rfl
 have hv:NA n h (.agg #[.int .i64 N,wP]) N P:=⟨wP,rfl,sP⟩
 have qa:decide (w_burst=w_dry)=false:=by decide
 have qb:decide (w_burst=w_burst)=true:=by decide
 have qc:decide (w_burst=w_segment)=false:=by decide
 have qd:decide (w_burst=w_around)=false:=by decide
 have qe:decide (w_burst=w_way)=false:=by decide
 have qf:decide (w_burst=w_bridges)=false:=by decide
 obtain⟨a0,rfl⟩:=AI.len sl
 refine bo Tryz.func115 rfl rfl ?_
 by_cases lk:l.length=1
 case neg=>
  have he:askR ⟨N,P,V,src,D,Q,cnt⟩ w_burst l=none:=by
   rw[askR]
   repeat rw[if_neg (by decide)]
   rw[if_pos rfl]
   first|rw[if_neg lk]|rw[if_neg (fun hh=>lk hh.1)]
  have nl:((l.length:Int)==1)=false:=by rw[beq_eq_false_iff_ne];omega
  simp only[go_sem,conV,toList_eq,qa,qb,qc,qd,qe,qf,o0,o0v,nl]
  refine (c_l28ListNo _).go ?_
  rintro _ _⟨rfl,⟨t,rfl⟩⟩
  simp only[go_sem]
  rw[askT,he]
 case pos=>
  obtain⟨idl,offl,kl,hvl,_,hkl,_,hdl,_,_,_,hat⟩:=AI.at sl (by omega)
  obtain rfl:a0=some ⟨idl,offl,none⟩:=by simpa using hvl
  have p0:=hat 0 (by omega)
  rw[gl_at] at p0
  simp only[add_zero] at p0
  simp only[go_sem,conV,toList_eq,qa,qb,qc,qd,qe,qf,o0,o0v,lk,hkl,hdl,p0]
  refine (c_sShortestPlan _ wV N P V src (gl l 0) (hv.mono (by simp)) (sV.mono (by simp)) hP10 hV10).go ?_
  rintro _ _⟨⟨x,rfl,sx⟩,⟨t,rfl⟩⟩
  have he:askR ⟨N,P,V,src,D,Q,cnt⟩ w_burst l=planR N P V src (gl l 0):=by
   rw[askR,if_neg (by decide),if_neg (by decide),if_pos rfl,if_pos lk]
  cases hc:planR N P V src (gl l 0) with
  | some L=>
   rw[hc] at sx he
   simp only[go_sem,hc]
   refine (c_l28List x L true (by first|exact sx|simpa using sx) (hB he).1 (hB he).2).go ?_
   rintro _ _⟨rfl,⟨t2,rfl⟩⟩
   simp only[go_sem]
   rw[askT,he]
  | none=>
   rw[hc] at sx he
   simp only[go_sem,hc]
   refine (c_l28ListNo _).go ?_
   rintro _ _⟨rfl,⟨t2,rfl⟩⟩
   simp only[go_sem]
   rw[askT,he]
set_option maxRecDepth 4000 in
theorem c_l28AskS{n:Nat}(C:Con)(wP wV vl:Value)(l:List Int)(sP:SB n 4 h wP (C.P.map pip))(sV:Sl h 4 wV (C.V.map vlv))(esP:EszC h 4 wP)(g:conOk C)(sl:SI h vl l) :
  vCall [] Tryz.prog M 115 [conV C wP wV, .string w_segment,vl] h (fun r h'=>r = .string (askT C w_segment l)∧h<+:h'):=by
 have hB:= @askB C g w_segment l
 obtain⟨N,P,V,src,D,Q,cnt⟩:=C
 have hP10:P.length<=1048576:=le_trans g.1.1.2.2 (by decide)
 have hV10:V.length<=1048576:=le_trans g.1.2.1 (by decide)
 simp only at sP sV esP
 have o0:oneC wP=true:=by obtain⟨a,e,_⟩:=sP.1;rw[e];rfl
 have o0v:oneC wV=true:=by obtain⟨a,e,_⟩:=sV;rw[e];rfl
 have hv:NA n h (.agg #[.int .i64 N,wP]) N P:=⟨wP,rfl,sP⟩
 have qa:decide (w_segment=w_dry)=false:=by decide
 have qb:decide (w_segment=w_burst)=false:=by decide
 have qc:decide (w_segment=w_segment)=true:=by decide
 have qd:decide (w_segment=w_around)=false:=by decide
 have qe:decide (w_segment=w_way)=false:=by decide
 have qf:decide (w_segment=w_bridges)=false:=by decide
 obtain⟨a0,rfl⟩:=AI.len sl
 refine bo Tryz.func115 rfl rfl ?_
 by_cases lk:l.length=1
 case neg=>
  have he:askR ⟨N,P,V,src,D,Q,cnt⟩ w_segment l=none:=by
   rw[askR]
   repeat rw[if_neg (by decide)]
   rw[if_pos rfl]
   first|rw[if_neg lk]|rw[if_neg (fun hh=>lk hh.1)]
  have nl:((l.length:Int)==1)=false:=by rw[beq_eq_false_iff_ne];omega
  simp only[go_sem,conV,toList_eq,qa,qb,qc,qd,qe,qf,o0,o0v,nl]
  refine (c_l28ListNo _).go ?_
  rintro _ _⟨rfl,⟨t,rfl⟩⟩
  simp only[go_sem]
  rw[askT,he]
 case pos=>
  obtain⟨idl,offl,kl,hvl,_,hkl,_,hdl,_,_,_,hat⟩:=AI.at sl (by omega)
  obtain rfl:a0=some ⟨idl,offl,none⟩:=by simpa using hvl
  have p0:=hat 0 (by omega)
  rw[gl_at] at p0
  simp only[add_zero] at p0
  simp only[go_sem,conV,toList_eq,qa,qb,qc,qd,qe,qf,o0,o0v,lk,hkl,hdl,p0]
  refine (c_sSegmentOfPipe _ wV N P V (gl l 0) (hv.mono (by simp)) (sV.mono (by simp)) hP10 hV10).go ?_
  rintro _ _⟨⟨x,y,rfl,sx⟩,⟨t,rfl⟩⟩
  by_cases c:valOk N P V∧0<=pidx P (gl l 0)
  ·have he:askR ⟨N,P,V,src,D,Q,cnt⟩ w_segment l=some (segL N P V (gl l 0)):=by
    rw[askR,if_neg (by decide),if_neg (by decide),if_neg (by decide),if_pos rfl,if_pos ⟨lk,c⟩]
   simp only[go_sem,decb c]
   refine (c_l28List x (segL N P V (gl l 0)) true (by first|exact sx|simpa using sx) (hB he).1 (hB he).2).go ?_
   rintro _ _⟨rfl,⟨t2,rfl⟩⟩
   simp only[go_sem]
   rw[askT,he]
  ·have he:askR ⟨N,P,V,src,D,Q,cnt⟩ w_segment l=none:=by
    rw[askR,if_neg (by decide),if_neg (by decide),if_neg (by decide),if_pos rfl,if_neg (fun hh=>c hh.2)]
   simp only[go_sem,dect c]
   refine (c_l28ListNo _).go ?_
   rintro _ _⟨rfl,⟨t2,rfl⟩⟩
   simp only[go_sem]
   rw[askT,he]
set_option maxRecDepth 4000 in
theorem c_l28AskA{n:Nat}(C:Con)(wP wV vl:Value)(l:List Int)(sP:SB n 4 h wP (C.P.map pip))(sV:Sl h 4 wV (C.V.map vlv))(esP:EszC h 4 wP)(g:conOk C)(sl:SI h vl l) :
  vCall [] Tryz.prog M 115 [conV C wP wV, .string w_around,vl] h (fun r h'=>r = .string (askT C w_around l)∧h<+:h'):=by
 have hB:= @askB C g w_around l
 obtain⟨N,P,V,src,D,Q,cnt⟩:=C
 have hP10:P.length<=1048576:=le_trans g.1.1.2.2 (by decide)
 have hV10:V.length<=1048576:=le_trans g.1.2.1 (by decide)
 simp only at sP sV esP
 have o0:oneC wP=true:=by obtain⟨a,e,_⟩:=sP.1;rw[e];rfl
 have o0v:oneC wV=true:=by obtain⟨a,e,_⟩:=sV;rw[e];rfl
 have hv:NA n h (.agg #[.int .i64 N,wP]) N P:=⟨wP,rfl,sP⟩
 have qa:decide (w_around=w_dry)=false:=by decide
 have qb:decide (w_around=w_burst)=false:=by decide
 have qc:decide (w_around=w_segment)=false:=by decide
 have qd:decide (w_around=w_around)=true:=by decide
 have qe:decide (w_around=w_way)=false:=by decide
 have qf:decide (w_around=w_bridges)=false:=by decide
 obtain⟨a0,rfl⟩:=AI.len sl
 refine bo Tryz.func115 rfl rfl ?_
 by_cases lk:l.length=1
 case neg=>
  have he:askR ⟨N,P,V,src,D,Q,cnt⟩ w_around l=none:=by
   rw[askR]
   repeat rw[if_neg (by decide)]
   rw[if_pos rfl]
   first|rw[if_neg lk]|rw[if_neg (fun hh=>lk hh.1)]
  have nl:((l.length:Int)==1)=false:=by rw[beq_eq_false_iff_ne];omega
  simp only[go_sem,conV,toList_eq,qa,qb,qc,qd,qe,qf,o0,o0v,nl]
  refine (c_l28ListNo _).go ?_
  rintro _ _⟨rfl,⟨t,rfl⟩⟩
  simp only[go_sem]
  rw[askT,he]
 case pos=>
  obtain⟨idl,offl,kl,hvl,_,hkl,_,hdl,_,_,_,hat⟩:=AI.at sl (by omega)
  obtain rfl:a0=some ⟨idl,offl,none⟩:=by simpa using hvl
  have p0:=hat 0 (by omega)
  rw[gl_at] at p0
  simp only[add_zero] at p0
  simp only[go_sem,conV,toList_eq,qa,qb,qc,qd,qe,qf,o0,o0v,lk,hkl,hdl,p0]
  refine (c_sValvesAround _ wV N P V (gl l 0) (hv.mono (by simp)) (sV.mono (by simp)) hP10 hV10).go ?_
  rintro _ _⟨⟨x,rfl,sx⟩,⟨t,rfl⟩⟩
  by_cases c:valOk N P V∧0<=pidx P (gl l 0)
  ·have he:askR ⟨N,P,V,src,D,Q,cnt⟩ w_around l=some (arndL N P V (gl l 0)):=by
    rw[askR,if_neg (by decide),if_neg (by decide),if_neg (by decide),if_neg (by decide),if_pos rfl,if_pos ⟨lk,c⟩]
   simp only[go_sem,decb c]
   refine (c_l28List x (arndL N P V (gl l 0)) true (by first|exact sx|simpa using sx) (hB he).1 (hB he).2).go ?_
   rintro _ _⟨rfl,⟨t2,rfl⟩⟩
   simp only[go_sem]
   rw[askT,he]
  ·have he:askR ⟨N,P,V,src,D,Q,cnt⟩ w_around l=none:=by
    rw[askR,if_neg (by decide),if_neg (by decide),if_neg (by decide),if_neg (by decide),if_pos rfl,if_neg (fun hh=>c hh.2)]
   simp only[go_sem,dect c]
   refine (c_l28ListNo _).go ?_
   rintro _ _⟨rfl,⟨t2,rfl⟩⟩
   simp only[go_sem]
   rw[askT,he]
set_option maxRecDepth 4000 in
theorem c_l28AskW{n:Nat}(C:Con)(wP wV vl:Value)(l:List Int)(sP:SB n 4 h wP (C.P.map pip))(sV:Sl h 4 wV (C.V.map vlv))(esP:EszC h 4 wP)(g:conOk C)(sl:SI h vl l) :
  vCall [] Tryz.prog M 115 [conV C wP wV, .string w_way,vl] h (fun r h'=>r = .string (askT C w_way l)∧h<+:h'):=by
 have hB:= @askB C g w_way l
 obtain⟨N,P,V,src,D,Q,cnt⟩:=C
 have hP10:P.length<=1048576:=le_trans g.1.1.2.2 (by decide)
 have hV10:V.length<=1048576:=le_trans g.1.2.1 (by decide)
 simp only at sP sV esP
 have o0:oneC wP=true:=by obtain⟨a,e,_⟩:=sP.1;rw[e];rfl
 have o0v:oneC wV=true:=by obtain⟨a,e,_⟩:=sV;rw[e];rfl
 have hv:NA n h (.agg #[.int .i64 N,wP]) N P:=⟨wP,rfl,sP⟩
 have qa:decide (w_way=w_dry)=false:=by decide
 have qb:decide (w_way=w_burst)=false:=by decide
 have qc:decide (w_way=w_segment)=false:=by decide
 have qd:decide (w_way=w_around)=false:=by decide
 have qe:decide (w_way=w_way)=true:=by decide
 have qf:decide (w_way=w_bridges)=false:=by decide
 obtain⟨a0,rfl⟩:=AI.len sl
 refine bo Tryz.func115 rfl rfl ?_
 by_cases lk:l.length=2
 case neg=>
  have he:askR ⟨N,P,V,src,D,Q,cnt⟩ w_way l=none:=by
   rw[askR]
   repeat rw[if_neg (by decide)]
   rw[if_pos rfl]
   first|rw[if_neg lk]|rw[if_neg (fun hh=>lk hh.1)]
  have nl:((l.length:Int)==2)=false:=by rw[beq_eq_false_iff_ne];omega
  simp only[go_sem,conV,toList_eq,qa,qb,qc,qd,qe,qf,o0,o0v,nl]
  refine (c_l28ListNo _).go ?_
  rintro _ _⟨rfl,⟨t,rfl⟩⟩
  simp only[go_sem]
  rw[askT,he]
 case pos=>
  obtain⟨idl,offl,kl,hvl,_,hkl,_,hdl,_,_,_,hat⟩:=AI.at sl (by omega)
  obtain rfl:a0=some ⟨idl,offl,none⟩:=by simpa using hvl
  have p0:=hat 0 (by omega)
  have p1:=hat 1 (by omega)
  rw[gl_at] at p0 p1
  simp only[add_zero] at p0
  simp only[go_sem,conV,toList_eq,qa,qb,qc,qd,qe,qf,o0,o0v,lk,hkl,hdl,p0,p1]
  refine (c_sShortestWay _ N P (gl l 0) (gl l 1) (hv.mono (by simp)) hP10).go ?_
  rintro _ _⟨⟨x,rfl,sx⟩,⟨t,rfl⟩⟩
  by_cases c:wayOk N P (gl l 0) (gl l 1)
  ·have he:askR ⟨N,P,V,src,D,Q,cnt⟩ w_way l=some (wayR N P (gl l 0) (gl l 1)):=by
    rw[askR,if_neg (by decide),if_neg (by decide),if_neg (by decide),if_neg (by decide),if_neg (by decide),if_pos rfl,if_pos ⟨lk,c⟩]
   simp only[go_sem,decb c]
   refine (c_l28List x (wayR N P (gl l 0) (gl l 1)) true (by first|exact sx|simpa using sx) (hB he).1 (hB he).2).go ?_
   rintro _ _⟨rfl,⟨t2,rfl⟩⟩
   simp only[go_sem]
   rw[askT,he]
  ·have he:askR ⟨N,P,V,src,D,Q,cnt⟩ w_way l=none:=by
    rw[askR,if_neg (by decide),if_neg (by decide),if_neg (by decide),if_neg (by decide),if_neg (by decide),if_pos rfl,if_neg (fun hh=>c hh.2)]
   simp only[go_sem,dect c]
   refine (c_l28ListNo _).go ?_
   rintro _ _⟨rfl,⟨t2,rfl⟩⟩
   simp only[go_sem]
   rw[askT,he]
theorem c_l28AskX(C:Con)(w:ByteArray)(wP wV vl:Value)(l:List Int)(o0:oneC wP=true)(o0v:oneC wV=true)(sl:SI h vl l)(hw: ¬isAsk w) :
  vCall [] Tryz.prog M 115 [conV C wP wV, .string w,vl] h (fun r h'=>r = .string (askT C w l)∧h<+:h'):=by
 obtain⟨N,P,V,src,D,Q,cnt⟩:=C
 simp only[isAsk,not_or] at hw
 obtain⟨ha,hf,hb,hc,hd,he⟩:=hw
 have e:askR ⟨N,P,V,src,D,Q,cnt⟩ w l=none:=by
  rw[askR,if_neg ha,if_neg hf,if_neg hb,if_neg hc,if_neg hd,if_neg he]
 obtain⟨a0,rfl⟩:=AI.len sl
 refine bo Tryz.func115 rfl rfl ?_
 simp only[go_sem,conV,toList_eq,dect ha,dect hb,dect hc,dect hd,dect he,dect hf,o0,o0v]
 refine (c_l28ListNo _).go ?_
 rintro _ _⟨rfl,⟨t,rfl⟩⟩
 simp only[go_sem]
 rw[askT,e]
theorem c_l28Ask{n:Nat}(C:Con)(w:ByteArray)(wP wV vl:Value)(l:List Int)(sP:SB n 4 h wP (C.P.map pip))(sV:Sl h 4 wV (C.V.map vlv))(esP:EszC h 4 wP)(g:conOk C)(sl:SI h vl l) :
  vCall [] Tryz.prog M 115 [conV C wP wV, .string w,vl] h (fun r h'=>r = .string (askT C w l)∧h<+:h'):=by
 by_cases hw:isAsk w
 ·rcases hw with rfl|rfl|rfl|rfl|rfl|rfl
  ·exact c_l28AskD C wP wV vl l sP sV esP g sl
  ·exact c_l28AskB C wP wV vl l sP sV esP g sl
  ·exact c_l28AskU C wP wV vl l sP sV esP g sl
  ·exact c_l28AskS C wP wV vl l sP sV esP g sl
  ·exact c_l28AskA C wP wV vl l sP sV esP g sl
  ·exact c_l28AskW C wP wV vl l sP sV esP g sl
 ·exact c_l28AskX C w wP wV vl l (by obtain⟨a,e,_⟩:=sP.1;rw[e];rfl) (by obtain⟨a,e,_⟩:=sV;rw[e];rfl) sl hw
end
open Go.HH Go.Proofs
abbrev w_ok:ByteArray:=⟨#[111,107]⟩
abbrev w_no:ByteArray:=⟨#[63]⟩
theorem insV_k{V:List Vlv}{v:Vlv}:low (V.map fun q=>q.1) v.1<=V.length:=by have:=low_le (l:=V.map fun q=>q.1) (x:=v.1);simpa using this
theorem vidx_mem{V:List Vlv}{id:Int}(h:0<=vidx V id): ∃q∈V,q.1=id:=by
 obtain⟨hk,hp⟩:=idxI_at (p:=fun q:Vlv=>decide (q.1=id)) (l:=V) (k:=(vidx V id).toNat) (by unfold vidx at h ⊢;omega)
 exact⟨_,getElem_mem hk,by simpa using hp⟩
theorem valOk.asc{N:Int}{P:List Pip}{V:List Vlv}(g:valOk N P V): ∀(i j:Nat) (hi:i<V.length) (hj:j<i),V[j].1<V[i].1
 | 0,j,hi,hj=>by omega
 | i+1,j,hi,hj=>by
  have h1:=(g.2.2 (i+1) hi).1.2.1 (by omega)
  rw[Nat.add_sub_cancel,getDv hi,getDv (show i<V.length by omega)] at h1
  by_cases h:j=i
  ·subst h;exact h1
  ·have:=valOk.asc g i j (by omega) (by omega)
   omega
theorem insV_find{N:Int}{P:List Pip}{V:List Vlv}{v:Vlv}(g:valOk N P (insV V v)): ∀q∈V,q.1≠v.1:=fun q hq he=>by
 have hk:=insV_k (V:=V) (v:=v)
 have hl:=insAt_len (v:=v) hk
 obtain⟨j,hj,rfl⟩:=mem_iff_getElem.1 hq
 rcases lt_or_ge j (low (V.map fun q=>q.1) v.1) with h|h
 ·have:=low_lt (l:=V.map fun q=>q.1) (x:=v.1) (j:=j) (by simpa using hj) h
  rw[getElem_map] at this
  omega
 ·have h1:(low (V.map fun q=>q.1) v.1)<(insV V v).length:=by unfold insV;omega
  have h2:j+1<(insV V v).length:=by unfold insV;omega
  have:=g.asc (j+1) (low (V.map fun q=>q.1) v.1) h2 (by omega)
  have e1:(insV V v)[low (V.map fun q=>q.1) v.1]=v:=by
   have hh:(insV V v)[low (V.map fun q=>q.1) v.1]? = some v:=by
    unfold insV insAt
    rw[getElem?_append_right (by rw[length_take];omega),length_take,min_eq_left hk,sub_self,getElem?_cons_zero]
   rw[getElem?_eq_getElem h1] at hh
   exact Option.some.inj hh
  have e2:(insV V v)[j+1]=V[j]:=by
   have hh:(insV V v)[j+1]? = some V[j]:=by
    unfold insV insAt
    rw[getElem?_append_right (by rw[length_take];omega),length_take,min_eq_left hk]
    obtain⟨d,hd⟩: ∃d,j+1-low (V.map fun q=>q.1) v.1=d+1:=⟨j-low (V.map fun q=>q.1) v.1,by omega⟩
    rw[hd,getElem?_cons_succ,getElem?_drop,show low (V.map fun q=>q.1) v.1+d=j by omega,getElem?_eq_getElem hj]
   rw[getElem?_eq_getElem h2] at hh
   exact Option.some.inj hh
  rw[e1,e2] at this
  omega
section
variable {h:Heap} {M:Nat->Prop}
set_option maxRecDepth 4000 in
theorem c_l28Valve{n:Nat}(C:Con)(wP wV:Value)(v:Vlv)(sP:SB n 4 h wP (C.P.map pip))(sV:Sl h 4 wV (C.V.map vlv))(es:EszC h 4 wV)(g:conOk C) :
  vCall [] Tryz.prog M 151 [conV C wP wV, .agg #[.int .i64 v.1, .int .i64 v.2.1, .int .i64 v.2.2.1, .bool v.2.2.2]] h
   (fun r h'=>(∃E xV,r = .tuple #[conV E wP xV, .string (if valOk C.N C.P (insV C.V v) then w_ok else w_no)]∧E=(if valOk C.N C.P (insV C.V v) then {C with V:=insV C.V v} else C)∧(valOk C.N C.P (insV C.V v)->FQs h.length h'.length 4 h' xV (E.V.map vlv))∧(¬valOk C.N C.P (insV C.V v)->xV=wV))∧h<+:h'):=by
 obtain⟨N,P,V,src,D,Q,cnt⟩:=C
 have hP10:P.length<=1048576:=le_trans g.1.1.2.2 (by decide)
 have hV10:V.length<=10:=g.1.2.1
 simp only at sP sV es ⊢
 have o0:oneC wP=true:=by obtain⟨a,e,_⟩:=sP.1;rw[e];rfl
 have hv:NA n h (.agg #[.int .i64 N,wP]) N P:=⟨wP,rfl,sP⟩
 obtain⟨a,ea,_,_⟩:=id sV
 rw[length_map] at ea
 subst ea
 have no: ∀(lo hi:Nat) (H:Heap),¬valOk N P (insV V v)->∃E xV,Value.tuple #[conV ⟨N,P,V,src,D,Q,cnt⟩ wP (.slice a V.length 0), .string w_no] = .tuple #[conV E wP xV, .string (if valOk N P (insV V v) then w_ok else w_no)]∧E=(if valOk N P (insV V v) then { ({N:=N,P:=P,V:=V,src:=src,D:=D,Q:=Q,cnt:=cnt}:Con) with V:=insV V v} else ⟨N,P,V,src,D,Q,cnt⟩)∧(valOk N P (insV V v)->FQs lo hi 4 H xV (E.V.map vlv))∧(¬valOk N P (insV V v)->xV = .slice a V.length 0):=fun lo hi H hn=>by
  rw[if_neg hn,if_neg hn]
  exact⟨_,_,rfl,rfl,fun hh=>absurd hh hn,fun _=>rfl⟩
 refine bo Tryz.func151 rfl rfl ?_
 simp only[go_sem,conV,o0]
 refine (c_l4Find _ V v.1 (sV.mono (by simp)) (by omega)).go ?_
 rintro _ _⟨rfl,rfl⟩
 by_cases h2:0<=vidx V v.1
 ·have nok: ¬valOk N P (insV V v):=fun hh=>by
   obtain⟨q,hq,he⟩:=vidx_mem h2
   exact insV_find hh q hq he
  simp only[go_sem,h2,o0]
  exact no _ _ _ nok
 ·simp only[go_sem,h2,o0]
  refine vLoop.count mo V.length (fun i e h'=> ∃(t:Heap),Regs e [(2, .pointer (some ⟨h.length,0,none⟩)),(3, .pointer (some ⟨h.length+1,0,none⟩)),(4, .pointer (some ⟨h.length+2,0,none⟩)),(6, .int .i64 i)] ∧
   HeapIs h' (h++(⟨[.int .i64 N,wP, .slice a V.length 0, .int .i64 src, .string D, .string Q, .int .i64 cnt],7, .rw⟩::⟨[.int .i64 v.1, .int .i64 v.2.1, .int .i64 v.2.2.1, .bool v.2.2.2],4, .rw⟩::⟨[.int .i64 0, .slice none 0 0, .slice none 0 0, .int .i64 0, .string ⟨#[]⟩, .string ⟨#[]⟩, .int .i64 0],7, .rw⟩::t)) ∧
   ∀(j:Nat) (hj:j<V.length),j<i->V[j].1<v.1) ?_ ?_
  ·exact⟨_,⟨rfl,rfl,rfl,rfl,trivial⟩, .rfl,fun j _ hj=>absurd hj (by omega)⟩
  ·rintro i e _ hi ⟨t,⟨e2,e3,e4,e6,_⟩,rfl,hlo⟩
   have fin:(∀hi:i<V.length,¬V[i].1<v.1)->low (V.map fun q=>q.1) v.1=i:=fun hn=>
    low_eq (by simpa using hi) (fun j hj hji=>by rw[getElem_map];exact hlo j (by simpa using hj) hji) (fun hi=>by rw[getElem_map];exact hn (by simpa using hi))
   have hins:((insV V v).map vlv).flatten=((V.take (low (V.map fun q=>q.1) v.1)).map vlv).flatten ++ .int .i64 v.1 :: .int .i64 v.2.1 :: .int .i64 v.2.2.1 :: .bool v.2.2.2::((V.drop (low (V.map fun q=>q.1) v.1)).map vlv).flatten:=by
    simp[insV,insAt,vlv]
   have hlen:(insV V v).length=V.length+1:=insAt_len insV_k
   have big:V.length*32<=140737488355328:=by omega
   by_cases hlt:i<V.length
   ·have hlt':i<(V.map vlv).length:=by simpa using hlt
    have hz:(i:Int)<V.length:=by omega
    have ws:=wsucc hlt (by omega)
    obtain⟨id2,o,k,hv',hk,_,hd,hb,hrow,hat⟩:=sV.at hlt'
    obtain rfl:a=some ⟨id2,o,none⟩:=by simpa using hv'
    have g0:=hat 0 (by omega)
    rw[getElem_map] at g0
    simp only[vlv,getElem?_cons_zero,add_zero] at g0
    by_cases c:V[i].1<v.1
    ·simp only[go_sem,e2,e3,e4,e6,hz,hk,hd,g0,c]
     refine⟨hlt,t,⟨e2,e3,e4,congrArg _ ws,trivial⟩, .rfl,fun j hj hji => ?_⟩
     by_cases hj2:j<i
     ·exact hlo j hj hj2
     ·obtain rfl:j=i:=by omega
      exact c
    ·have hlow:=fin (fun _=>c)
     clear fin
     rw[hlow] at hins
     simp only[go_sem,e2,e3,e4,e6,hz,hk,hd,g0,c]
     have hn:0<V.length:=by omega
     have c1:0<V.length-i:=by omega
     have hne:V.map vlv≠ []:=by intro hh;rw[List.map_eq_nil_iff] at hh;subst hh;simp at hn
     obtain⟨id3,off,k3,ev,hk3,hd3,hbb,hfl⟩:=sV.copy hne
     rw[length_map] at ev hbb hfl
     obtain⟨rfl,rfl⟩:id3=id2∧off=o:=by
      simp only[Value.slice.injEq,Option.some.injEq,Addr.mk.injEq] at ev
      omega
     obtain rfl:k=k3:=Option.some.inj ((hk []).symm.trans (hk3 []))
     obtain⟨k4,hk4,hez⟩:=es id3 off V.length rfl (by omega)
     have hk0:=hk3 []
     rw[append_nil,hk4] at hk0
     cases hk0
     have f1:=rowsTake vlv4 hfl (i:=i) (by omega)
     have f2:=rowsDrop vlv4 hfl (i:=i) (by omega)
     have o1:=oneVv (V.take i)
     have o2:=oneVv (V.drop i)
     by_cases i0:i=0
     ·subst i0
      simp only[Nat.zero_mul,Nat.sub_zero,add_zero,drop_zero] at f2 o2
      simp only[go_sem,e2,e3,e4,e6,onSl_more hn,slId_more hn,hk3,hd3,hez,onApp_more hn,f2,o2,hn,big]
      refine⟨by omega,by omega,by omega,by omega,by omega, ?_⟩
      refine (c_l4Good _ _ N P (insV V v) (hv.mono (by simp)) (frG (lo:=0) (hi:=h.length+(t.length+12)) (j:=t.length+3+1+1+1) vlv4 (by first|(rw[hins];done)|(rw[hins];simp;done)|(rw[hins];simp[v0];done)|(rw[hins];simp;omega)) (by first|exact hlen.symm|(rw[hlen];omega)) (zero_le _) (by omega)).sl hP10 (by rw[hlen];omega)).go ?_
      rintro _ _⟨rfl,⟨t5,rfl⟩⟩
      by_cases h3:valOk N P (insV V v)
      ·simp only[go_sem,e2,e3,e4,e6,decb h3,o0]
       rw[if_pos h3,if_pos h3]
       refine⟨_,_,rfl,rfl,fun _=>frG (j:=t.length+3+1+1+1) vlv4 (by first|(rw[hins];done)|(rw[hins];simp;done)|(rw[hins];simp[v0];done)|(rw[hins];simp;omega)) (by first|exact hlen.symm|(rw[hlen];omega)) (by omega) (by omega),fun hh=>absurd h3 hh⟩
      ·simp only[go_sem,e2,e3,e4,e6,dect h3,o0]
       first|exact no _ _ _ h3|exact no0 _ _ _ h3|(rw[l0];exact no0 _ _ _ h3)
     ·have hip:0<i:=by omega
      simp only[go_sem,e2,e3,e4,e6,onSl_more hn,slId_more hn,hk3,hd3,hez,onApp_more hip,onApp_more c1,f1,f2,o1,o2,c1]
      have lT:(List.map vlv (List.take i V)).flatten.length=i*4:=by rw[flV,length_take];omega
      refine⟨by omega,by omega,hip,by omega,by omega,by omega,by omega,by omega,by omega,by omega,by omega,by omega,by omega,by omega, ?_⟩
      refine (c_l4Good _ _ N P (insV V v) (hv.mono (by simp)) (frG (lo:=0) (hi:=h.length+(t.length+12)) (j:=t.length+4+1+1+1) vlv4 (by first|(rw[hins];done)|(rw[hins];simp;done)|(rw[hins];simp[v0];done)|(rw[hins];simp;omega)) (by first|exact hlen.symm|(rw[hlen];omega)) (zero_le _) (by omega)).sl hP10 (by rw[hlen];omega)).go ?_
      rintro _ _⟨rfl,⟨t5,rfl⟩⟩
      by_cases h3:valOk N P (insV V v)
      ·simp only[go_sem,e2,e3,e4,e6,decb h3,o0]
       rw[if_pos h3,if_pos h3]
       refine⟨_,_,rfl,rfl,fun _=>frG (j:=t.length+4+1+1+1) vlv4 (by first|(rw[hins];done)|(rw[hins];simp;done)|(rw[hins];simp[v0];done)|(rw[hins];simp;omega)) (by first|exact hlen.symm|(rw[hlen];omega)) (by omega) (by omega),fun hh=>absurd h3 hh⟩
      ·simp only[go_sem,e2,e3,e4,e6,dect h3,o0]
       first|exact no _ _ _ h3|exact no0 _ _ _ h3|(rw[l0];exact no0 _ _ _ h3)
   ·obtain rfl:i=V.length:=by omega
    have hlow:=fin (fun hi=>absurd hi (by omega))
    clear fin
    rw[hlow] at hins
    simp only[go_sem,e2,e3,e4,e6,show ¬((V.length:Int)<V.length) by omega]
    by_cases v0:V= []
    ·have l0:V.length=0:=by simp[v0]
     have no0:=no
     rw[l0] at no0
     by_cases tt:True
     case neg=>exact absurd trivial tt
     case pos=>
      simp only[go_sem,e2,e3,e4,e6,l0]
      refine (c_l4Good _ _ N P (insV V v) (hv.mono (by simp)) (frG (lo:=0) (hi:=h.length+(t.length+12)) (j:=t.length+2+1+1+1) vlv4 (by first|(rw[hins];done)|(rw[hins];simp;done)|(rw[hins];simp[v0];done)|(rw[hins];simp;omega)) (by first|exact hlen.symm|(rw[hlen];omega)) (zero_le _) (by omega)).sl hP10 (by rw[hlen];omega)).go ?_
      rintro _ _⟨rfl,⟨t5,rfl⟩⟩
      by_cases h3:valOk N P (insV V v)
      ·simp only[go_sem,e2,e3,e4,e6,decb h3,o0]
       rw[if_pos h3,if_pos h3]
       refine⟨_,_,rfl,rfl,fun _=>frG (j:=t.length+2+1+1+1) vlv4 (by first|(rw[hins];done)|(rw[hins];simp;done)|(rw[hins];simp[v0];done)|(rw[hins];simp;omega)) (by first|exact hlen.symm|(rw[hlen];omega)) (by omega) (by omega),fun hh=>absurd h3 hh⟩
      ·simp only[go_sem,e2,e3,e4,e6,dect h3,o0]
       first|exact no _ _ _ h3|exact no0 _ _ _ h3|(rw[l0];exact no0 _ _ _ h3)
    ·have hn:0<V.length:=length_pos_iff.2 v0
     have hne:V.map vlv≠ []:=by intro hh;rw[List.map_eq_nil_iff] at hh;subst hh;simp at hn
     obtain⟨id3,off,k3,ev,hk3,hd3,hbb,hfl⟩:=sV.copy hne
     rw[length_map] at ev hbb hfl
     obtain rfl:a=some ⟨id3,off,none⟩:=by simpa using ev
     obtain⟨k4,hk4,hez⟩:=es id3 off V.length rfl (by omega)
     have hk0:=hk3 []
     rw[append_nil,hk4] at hk0
     cases hk0
     have o1:=oneVv V
     by_cases tt:True
     case neg=>exact absurd trivial tt
     case pos=>
      simp only[go_sem,e2,e3,e4,e6,onSl_more hn,slId_more hn,hk3,hd3,hez,onApp_more hn,hfl,o1,hn,big,sub_self]
      have lT:(List.map vlv V).flatten.length=V.length*4:=by rw[flV]
      refine⟨by omega,by omega,by omega,by omega,by omega,by omega, ?_⟩
      refine (c_l4Good _ _ N P (insV V v) (hv.mono (by simp)) (frG (lo:=0) (hi:=h.length+(t.length+12)) (j:=t.length+3+1+1+1) vlv4 (by first|(rw[hins];done)|(rw[hins];simp;done)|(rw[hins];simp[v0];done)|(rw[hins];simp;omega)) (by first|exact hlen.symm|(rw[hlen];omega)) (zero_le _) (by omega)).sl hP10 (by rw[hlen];omega)).go ?_
      rintro _ _⟨rfl,⟨t5,rfl⟩⟩
      by_cases h3:valOk N P (insV V v)
      ·simp only[go_sem,e2,e3,e4,e6,decb h3,o0]
       rw[if_pos h3,if_pos h3]
       refine⟨_,_,rfl,rfl,fun _=>frG (j:=t.length+3+1+1+1) vlv4 (by first|(rw[hins];done)|(rw[hins];simp;done)|(rw[hins];simp[v0];done)|(rw[hins];simp;omega)) (by first|exact hlen.symm|(rw[hlen];omega)) (by omega) (by omega),fun hh=>absurd h3 hh⟩
      ·simp only[go_sem,e2,e3,e4,e6,dect h3,o0]
       first|exact no _ _ _ h3|exact no0 _ _ _ h3|(rw[l0];exact no0 _ _ _ h3)
end
open Go.HH Go.Proofs
section
variable {h:Heap} {M:Nat->Prop}
theorem c_l4TurnedF(w:Value)(V:List Vlv)(i:Nat)(sh:Bool)(sv:Sl h 4 w (V.map vlv))(hi:i<V.length)(hV:V.length<=1000) :
  vCall [] Tryz.prog M 192 [w, .int .i64 i, .bool sh] h (fun r h'=>FQs h.length h'.length 4 h' r ((turnV V i sh).map vlv)∧h<+:h'):=by
 obtain⟨a,ew,_,_⟩:=id sv
 rw[length_map] at ew
 subst ew
 have hv0:0<V.length:=by omega
 have hz:(i:Int)<V.length:=by omega
 have z0:(0:Int)<=i:=by omega
 obtain⟨id,off,k,ev,hk,hd,hbb,hfl⟩:=sv.copy (by have:=length_pos_iff.1 hv0;simpa using this)
 rw[length_map] at ev hbb hfl
 obtain rfl:a=some ⟨id,off,none⟩:=by simpa using ev
 have hone:=oneVv V
 have hlen:=flV V
 have hT:=turnV_flat (sh:=sh) hi
 rw[flat_cut hi] at hfl hone hlen
 have hPl:((V.take i).map vlv).flatten.length=i*4:=by rw[flV,length_take];omega
 have hSl: ∀(r:Value) (H:Heap) (X hi:Nat),r = .slice (some ⟨X,0,none⟩) V.length 0->h.length<=X->X<hi->hget H X=some ⟨((turnV V i sh).map vlv).flatten,4, .rw⟩->FQs h.length hi 4 H r ((turnV V i sh).map vlv):=fun r H X hi e h1 h2 g=>
  .inl ⟨X,by rw[length_map,turnV_len];exact e,h1,h2,g,fun r hr=>by obtain⟨x,_,rfl⟩:=mem_map.1 hr;rfl⟩
 obtain⟨A,hA⟩: ∃A,A=((V.take i).map vlv).flatten:=⟨_,rfl⟩
 obtain⟨B,hB⟩: ∃B,B=((V.drop (i+1)).map vlv).flatten:=⟨_,rfl⟩
 rw[←hA, ←hB] at hfl hone hlen hT
 rw[←hA] at hPl
 have tk:List.take 4 (List.drop (i*4) (A ++ .int .i64 V[i].1 :: .int .i64 V[i].2.1 :: .int .i64 V[i].2.2.1 :: .bool V[i].2.2.2::B))= [.int .i64 V[i].1, .int .i64 V[i].2.1, .int .i64 V[i].2.2.1, .bool V[i].2.2.2]:=by
  rw[←hPl,drop_left' rfl];rfl
 have st: ∀a b c d,setRange (A ++ .int .i64 V[i].1 :: .int .i64 V[i].2.1 :: .int .i64 V[i].2.2.1 :: .bool V[i].2.2.2::B) (i*4) [a,b,c,d]=A++a::b::c::d::B:=fun a b c d=>set4all hPl
 have hlb:i*4+4<=V.length*4:=by omega
 refine bo Tryz.func192 rfl rfl ?_
 simp only[go_sem,onApp_more hv0,hv0,hk,hd,hbb,hfl,hone,show V.length<=9223372036854775807 by omega,show V.length*32<=140737488355328 by omega,hz,z0,tk,hlen,hlb,st]
 have hge: ∀k:Nat,h.length<=h.length+k:=fun k=>by omega
 refine hSl _ _ _ _ rfl (hge _) (by omega) ?_
 rw[hT]
 simp only[go_sem]
theorem c_sTurnValveF{n:Nat}(v w:Value)(N:Int)(P:List Pip)(V:List Vlv)(vi:Int)(sh:Bool)(hv:NA n h v N P)(sv:Sl h 4 w (V.map vlv))(hP:P.length<=1048576)(hV:V.length<=1048576) :
  vCall [] Tryz.prog M 152 [v,w, .int .i64 vi, .bool sh] h (fun r h'=>(∃x,r = .tuple #[x, .bool (decide (turnOk N P V vi sh))]∧FQs h.length h'.length 4 h' x ((turnR N P V vi sh).map vlv))∧h<+:h'):=by
 obtain⟨wp,rfl,sp⟩:=id hv
 obtain⟨a,ew,_,_⟩:=id sv
 rw[length_map] at ew
 subst ew
 have bad: ∀(x:Option Addr) (lo hi:Nat) (H:Heap),¬turnOk N P V vi sh->∃y,Value.tuple #[Value.slice x 0 0, .bool false] = .tuple #[y, .bool (decide (turnOk N P V vi sh))]∧FQs lo hi 4 H y ((turnR N P V vi sh).map vlv):=fun x lo hi H hn=>
  ⟨_,congrArg (fun b=>Value.tuple #[_,Value.bool b]) (decide_eq_false hn).symm,by rw[turnR,if_neg hn];exact fq0⟩
 refine bo Tryz.func152 rfl rfl ?_
 simp only[go_sem]
 refine (c_l4Find _ V vi (sv.mono (by simp)) hV).go ?_
 rintro _ _⟨rfl,rfl⟩
 simp only[go_sem]
 refine (c_l4Good _ _ N P V (hv.mono (by simp)) (sv.mono (by simp)) hP hV).go ?_
 rintro _ _⟨rfl,⟨t2,rfl⟩⟩
 by_cases h1:valOk N P V
 ·by_cases h2:vidx V vi<0
  ·simp only[go_sem,decb h1,decb h2]
   exact bad _ _ _ _ (fun hh=>by have:=hh.2.1;omega)
  ·have hk:=vidx_lt (V:=V) (id:=vi) (by omega)
   have hV10:=h1.2.1
   have hok:turnOk N P V vi sh↔(V.getD (vidx V vi).toNat vlv0).2.2.2≠sh:=⟨fun hh=>hh.2.2,fun hh=>⟨h1,by omega,hh⟩⟩
   obtain⟨k,hk2⟩: ∃k:Nat,vidx V vi=k:=⟨(vidx V vi).toNat,by omega⟩
   have hT: ∀(_:turnOk N P V vi sh),turnR N P V vi sh=turnV V k sh:=fun hh=>by rw[turnR,if_pos hh,hk2];rfl
   rw[hk2,Int.toNat_natCast] at hok hk
   rw[getDv hk] at hok
   rw[hk2] at h2 ⊢
   have hk':k<(V.map vlv).length:=by simpa using hk
   have hz:(k:Int)<V.length:=by omega
   have z0:(0:Int)<=k:=by omega
   obtain⟨id2,o,K,hvv,hK,_,hd,hb,hrow,hat⟩:=sv.at hk'
   obtain rfl:a=some ⟨id2,o,none⟩:=by simpa using hvv
   have g3:=hat 3 (by omega)
   rw[getElem_map] at g3
   simp only[vlv,getElem?_cons_zero,getElem?_cons_succ] at g3
   simp only[go_sem,decb h1,dect h2,hz,z0,hK,hd,g3,Tryz.underlying4]
   cases q:(V[k].2.2.2==sh) with
   | true=>
    simp only[go_sem,decb h1,dect h2,q]
    exact bad _ _ _ _ (fun hh=>hok.1 hh (by simpa using q))
   | false=>
    have hyes:turnOk N P V vi sh:=hok.2 (by simpa using q)
    simp only[go_sem,decb h1,dect h2,q]
    refine (c_l4TurnedF _ V k sh (sv.mono (by simp)) hk (by omega)).go ?_
    rintro x _ ⟨sx,⟨t3,rfl⟩⟩
    simp only[go_sem]
    rw[hT hyes]
    exact⟨_,congrArg (fun b=>Value.tuple #[_,Value.bool b]) (decide_eq_true hyes).symm,FQs.wide (by simpa using sx) (by simp) (by simp)⟩
 ·simp only[go_sem,dect h1]
  exact bad _ _ _ _ (fun hh=>h1 hh.1)
end
end Go.Proofs.YtedidddimikjhaaGreatDoor
