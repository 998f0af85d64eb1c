/- Texts of this claim, joined. No condition. -/
import Derived.Test.YtedidddimikjhaaGreatDoorReplayPart10
import Derived.Test.YtedidddimikjhaaGreatDoorReplayPart9
import Derived.Test.YtedidddimikjhaaGreatDoorReplayPart7
import Derived.Test.YtedidddimikjhaaGreatDoorReplayPart4
import Derived.Test.YtedidddimikjhaaGreatDoorRows
import Derived.Stop.LaidErr
import Derived.Test.YtedidddimikjhaaGreatDoorReplayPart8
set_option linter.unusedSimpArgs false
set_option linter.unusedVariables false
namespace Go.Proofs.YtedidddimikjhaaGreatDoor
open Go.HH Go.Proofs
noncomputable def appL (D P:ByteArray) (n:Int) (c r:ByteArray):ByteArray×ByteArray×Int:=
 if (logOk (bl D) (bl P) n∧recOk c r=true)∧n≠60 then (D,P++mkB (lineL n.toNat (bl c) (bl r)++ [10]),n+1) else (D,P,n)
noncomputable def appK (D P:ByteArray) (n:Int) (c r:ByteArray):Int:=if logOk (bl D) (bl P) n∧recOk c r=true then (if n=60 then 2 else 0) else 1
theorem appV_eq {D P:ByteArray} {n:Int} {c r:ByteArray}:appV D P n c r = .tuple #[.agg #[.string (appL D P n c r).1, .string (appL D P n c r).2.1, .int .i64 (appL D P n c r).2.2], .int .i64 (appK D P n c r)]:=by
 unfold appV appL appK
 by_cases h:logOk (bl D) (bl P) n∧recOk c r=true
 ·by_cases h2:n=60
  ·rw [if_pos h,if_pos h2,if_neg (fun hh=>hh.2 h2),if_pos h,if_pos h2]
  ·rw [if_pos h,if_neg h2,if_pos ⟨h,h2⟩,if_pos h,if_neg h2]
 ·rw [if_neg h,if_neg (fun hh=>h hh.1),if_neg h]
abbrev w_nono:ByteArray:=⟨#[110,111]⟩
abbrev w_bad:ByteArray:=⟨#[98,97,100]⟩
abbrev w_full:ByteArray:=⟨#[102,117,108,108]⟩
abbrev w_long:ByteArray:=⟨#[108,111,110,103]⟩
noncomputable def repT (C:Con) (s:ByteArray):ByteArray:=if 200<(runT C s).size then w_long else runT C s
noncomputable def execC (C:Con) (s:ByteArray):Con:=
 if conOk C∧recOk s ⟨#[]⟩=true∧C.cnt≠60 then {runC C s with D:=(appL C.D C.Q C.cnt s (repT C s)).1,Q:=(appL C.D C.Q C.cnt s (repT C s)).2.1,cnt:=(appL C.D C.Q C.cnt s (repT C s)).2.2} else C
noncomputable def execT (C:Con) (s:ByteArray):ByteArray:=
 if conOk C then (if recOk s ⟨#[]⟩=true then (if C.cnt=60 then w_full else repT C s) else w_bad) else w_nono
theorem insP_len {P:List Pip} {p:Pip}:(insP P p).length=P.length+1:=insAt_len insP_k
theorem editR_small {C E:Con} {w:ByteArray} {l:List Int} (g:conOk C) (h:editR C w l=some E):E.P.length<=11∧E.V.length<=11:=by
 have h1:=g.1.1.2.2
 have h2:=g.1.2.1
 unfold editR at h
 split at h
 ·split at h
  ·cases h
   exact ⟨by rw [insP_len];omega,by simp only;omega⟩
  ·cases h
 ·split at h
  ·split at h
   ·cases h
    refine ⟨by simp only;omega, ?_⟩
    simp only
    rw [insV,insAt_len insV_k];omega
   ·cases h
  ·split at h
   ·split at h
    ·rename_i ht
     cases h
     refine ⟨by simp only;omega, ?_⟩
     simp only
     rw [turnR,if_pos ht.2,turnV_len];omega
    ·cases h
   ·split at h
    ·split at h
     ·cases h
      exact ⟨by simp only;omega,by simp only;omega⟩
     ·cases h
    ·cases h
theorem runC_small {C:Con} {s:ByteArray} (g:conOk C):(runC C s).P.length<=11∧(runC C s).V.length<=11:=by
 have h1:=g.1.1.2.2
 have h2:=g.1.2.1
 unfold runC
 split
 ·cases h:editR C (wd0 s) (numsL (wds s).tail) with
  | none=>exact ⟨by simp only [Option.getD_none];omega,by simp only [Option.getD_none];omega⟩
  | some E=>exact editR_small g h
 ·exact ⟨by omega,by omega⟩
theorem ConQ.v2 {h t u:Heap} {a b a' b':Blk} {hi hi':Nat} {c:Con} {wP wV:Value} (s:ConQ (h++ [a,b]).length hi (h++ [a,b]++t) c wP wV) (h2:hi<=hi'):ConQ h.length hi' (h++a'::b'::(t++u)) c wP wV:=by
 have:=(s.swapped (y:= [a',b']) rfl h2).mono (List.prefix_append _ u)
 simpa using this
theorem ConQ.esz {lo hi:Nat} {h:Heap} {c:Con} {wP wV:Value} (s:ConQ lo hi h c wP wV):EszC h 4 wP∧EszC h 4 wV:=by
 obtain ⟨_,_,_,_,_,p,v⟩:=s.p
 exact ⟨p.eszQ,v.eszQ⟩
theorem Rw.sl {lo:Nat} {H:Heap} {w x:Value} {r0 r:List (List Value)} (s:Rw lo H w x r0 r) (b:Sl H 4 w r0):Sl H 4 x r:=by
 rcases s with ⟨rfl,rfl⟩|s
 ·exact b
 ·exact s.sl
theorem FQs.v6 {h t t2 t3 t4 t5 u:Heap} {a b c d a' b' c' d':Blk} {lo hi:Nat} {v:Value} {rows:List (List Value)} (s:FQs lo hi 4 (h++a::b::(t++c::(t2++(t3++(t4++ [d]))))++t5) v rows) (hl:(h++a::b::(t++c::(t2++(t3++(t4++ [d]))))).length<=lo) :
  FQs lo hi 4 (h++a'::b'::(t++c'::(t2++(t3++(t4++d'::(t5++u)))))) v rows:=by
 have s':FQs lo hi 4 (h++(a::b::(t++c::(t2++(t3++(t4++ [d])))))++t5) v rows:=s
 have:=(s'.swapped (y:=a'::b'::(t++c'::(t2++(t3++(t4++ [d']))))) (by simpa using hl) (by simp) (Nat.le_refl _) (Nat.le_refl _)).mono (List.prefix_append _ u)
 simpa using this
theorem ConQ.v6 {h t t2 t3 t4 t5 u:Heap} {a b c d a' b' c' d':Blk} {hi:Nat} {C E:Con} {wP wV:Value} (s:ConQ (h++a::b::(t++c::(t2++(t3++(t4++ [d]))))).length hi (h++a::b::(t++c::(t2++(t3++(t4++ [d]))))++t5) C wP wV) (eP:E.P=C.P) (eV:E.V=C.V) {hi':Nat} (h2:hi<=hi') :
  ConQ h.length hi' (h++a'::b'::(t++c'::(t2++(t3++(t4++d'::(t5++u)))))) E wP wV:=by
 obtain ⟨p,q,x,y,hh,f1,f2⟩:=s.p
 refine ⟨p,q,x,y, ?_,by rw [eP];exact f1.v6 hh.1,by rw [eV];exact f2.v6 hh.2.2.1⟩
 have:h.length<=(h++a::b::(t++c::(t2++(t3++(t4++ [d]))))).length:=by simp
 omega
section
variable {h : Heap} {M : Nat → Prop}
set_option maxRecDepth 4000 in
theorem c_sExecuteCommand {n:Nat} (C:Con) (s:ByteArray) (wP wV:Value) (sc:ConS n h C wP wV) (hc:conSmall C) (hs:s.size<=9223372036854775806) :
  vCall [] Tryz.prog M 19 [conV C wP wV, .string s] h (fun r h'=>(∃E xP xV,r = .tuple #[conV E xP xV, .string (execT C s)]∧E=execC C s∧ConQ h.length h'.length h' E xP xV)∧h<+:h'):=by
 obtain ⟨N,P,V,src,D,Q,cnt⟩:=C
 have sP:=sc.p
 have sV:=sc.v
 have o0:oneC wP=true:=by obtain ⟨a,e,_⟩:=sP.1;rw [e];rfl
 have o0v:oneC wV=true:=by obtain ⟨a,e,_⟩:=sV.1;rw [e];rfl
 refine body_of mo Tryz.func19 rfl (by kernel_rfl) (Nat.le_of_ble_eq_true (by kernel_rfl)) rfl ?_
 simp only [go_sem,conV,o0,o0v]
 refine ⟨by kernel_rfl,(c_l28Own ⟨N,P,V,src,D,Q,cnt⟩ wP wV (sP.1.mono (by simp)) (sV.1.mono (by simp)) hc.1 hc.2.1).use (fun _ m=>m) ?_⟩
 rintro _ _ ⟨⟨yP,yV,rfl,q0⟩,⟨t,rfl⟩⟩
 obtain ⟨o1,o2⟩:=q0.one
 simp only [go_sem,conV,o0,o0v,o1,o2]
 refine ⟨by kernel_rfl,(c_l28Good ⟨N,P,V,src,D,Q,cnt⟩ wP wV (sc.mono (by simp)) hc).use (fun _ m=>m) ?_⟩
 rintro _ _ ⟨rfl,⟨t2,rfl⟩⟩
 by_cases g:conOk ⟨N,P,V,src,D,Q,cnt⟩
 case neg=>
  simp only [go_sem,dect g,o1,o2]
  refine ⟨⟨N,P,V,src,D,Q,cnt⟩,yP,yV,by rw [execT,if_neg g],by rw [execC,if_neg (fun hh=>g hh.1)],q0.v2 ?_⟩
  all_goals (simp;try omega)
 simp only [go_sem,decb g,o1,o2]
 refine ⟨by kernel_rfl,(c_l27Good s ⟨#[]⟩ hs (by decide)).use (fun _ m=>m) ?_⟩
 rintro _ _ ⟨rfl,⟨t3,rfl⟩⟩
 cases g2:recOk s ⟨#[]⟩
 case false=>
  have g2': ¬recOk s ⟨#[]⟩=true:=by rw [g2];decide
  simp only [go_sem,g2,o1,o2]
  refine ⟨⟨N,P,V,src,D,Q,cnt⟩,yP,yV,by rw [execT,if_pos g,if_neg g2'],by rw [execC,if_neg (fun hh=>g2' hh.2.1)], ?_⟩
  refine q0.v2 ?_
  all_goals (simp;try omega)
 have hs2:s.size<=10000:=by
  rw [recOk] at g2
  simp only [Bool.and_eq_true,decide_eq_true_eq] at g2
  omega
 simp only [go_sem,g2,o1,o2]
 by_cases g3:cnt=60
 case pos=>
  simp only [go_sem,show (cnt==60)=true by rw [g3];rfl,o1,o2]
  refine ⟨⟨N,P,V,src,D,Q,cnt⟩,yP,yV,by rw [execT,if_pos g,if_pos g2,if_pos g3],by rw [execC,if_neg (fun hh=>hh.2.2 g3)], ?_⟩
  refine q0.v2 ?_
  all_goals (simp;try omega)
 simp only [go_sem,show (cnt==60)=false by rw [beq_eq_false_iff_ne];exact g3,o1,o2]
 refine ⟨by kernel_rfl,(c_l28Run ⟨N,P,V,src,D,Q,cnt⟩ s yP yV (q0.s.p.mono (by simp)) (q0.s.v.1.mono (by simp)) (q0.esz.1.mono (by simp)) (q0.esz.2.mono (by simp)) g hs2).use (fun _ m=>m) ?_⟩
 rintro _ _ ⟨⟨E,xP,xV,rfl,rfl,s1,s2⟩,⟨t4,rfl⟩⟩
 have k1:=s1.sl (q0.s.p.1.mono (by simp))
 have k2:=s2.sl (q0.s.v.1.mono (by simp))
 have u1:=s1.one o1
 have u2:=s2.one o2
 have sm:=runC_small (s:=s) g
 simp only [go_sem,conV,u1,u2]
 refine ⟨by kernel_rfl,(c_l28Own (runC ⟨N,P,V,src,D,Q,cnt⟩ s) xP xV (k1.mono (by simp)) (k2.mono (by simp)) (Nat.le_trans sm.1 (by decide)) (Nat.le_trans sm.2 (by decide))).use (fun _ m=>m) ?_⟩
 rintro _ _ ⟨⟨zP,zV,rfl,q2⟩,⟨t5,rfl⟩⟩
 obtain ⟨v1,v2⟩:=q2.one
 have er:execT ⟨N,P,V,src,D,Q,cnt⟩ s=repT ⟨N,P,V,src,D,Q,cnt⟩ s:=by rw [execT,if_pos g,if_pos g2,if_neg g3]
 have ec:execC ⟨N,P,V,src,D,Q,cnt⟩ s= {runC ⟨N,P,V,src,D,Q,cnt⟩ s with D:=(appL D Q cnt s (repT ⟨N,P,V,src,D,Q,cnt⟩ s)).1,Q:=(appL D Q cnt s (repT ⟨N,P,V,src,D,Q,cnt⟩ s)).2.1,cnt:=(appL D Q cnt s (repT ⟨N,P,V,src,D,Q,cnt⟩ s)).2.2}:=by rw [execC,if_pos ⟨g,g2,g3⟩]
 rw [er,ec]
 by_cases g4:200<(runT ⟨N,P,V,src,D,Q,cnt⟩ s).size
 ·have e4:repT ⟨N,P,V,src,D,Q,cnt⟩ s=w_long:=by rw [repT,if_pos g4]
  rw [e4]
  simp only [go_sem,conV,v1,v2,show (200:Int)<((runT ⟨N,P,V,src,D,Q,cnt⟩ s).size:Nat) by omega]
  refine ⟨by kernel_rfl,(c_sAppendRecord D Q cnt s w_long (by have:=hc.2.2;simp only at this;omega) hs (by decide)).use (fun _ m=>m) ?_⟩
  rintro _ _ ⟨rfl,⟨t6,rfl⟩⟩
  rw [appV_eq]
  generalize appL D Q cnt s w_long=L
  generalize appK D Q cnt s w_long=K
  obtain ⟨D',Q',n'⟩:=L
  simp only [go_sem,conV,v1,v2]
  refine ⟨_,zP,zV,rfl,rfl, ?_⟩
  refine q2.v6 (by rfl) (by rfl) ?_
  all_goals (simp;try omega)
 ·have e4:repT ⟨N,P,V,src,D,Q,cnt⟩ s=runT ⟨N,P,V,src,D,Q,cnt⟩ s:=by rw [repT,if_neg g4]
  rw [e4]
  simp only [go_sem,conV,v1,v2,show ¬(200:Int)<((runT ⟨N,P,V,src,D,Q,cnt⟩ s).size:Nat) by omega]
  refine ⟨by kernel_rfl,(c_sAppendRecord D Q cnt s _ (by have:=hc.2.2;simp only at this;omega) hs (by omega)).use (fun _ m=>m) ?_⟩
  rintro _ _ ⟨rfl,⟨t6,rfl⟩⟩
  rw [appV_eq]
  generalize appL D Q cnt s (runT ⟨N,P,V,src,D,Q,cnt⟩ s)=L
  generalize appK D Q cnt s (runT ⟨N,P,V,src,D,Q,cnt⟩ s)=K
  obtain ⟨D',Q',n'⟩:=L
  simp only [go_sem,conV,v1,v2]
  refine ⟨_,zP,zV,rfl,rfl, ?_⟩
  refine q2.v6 (by rfl) (by rfl) ?_
  all_goals (simp;try omega)
end
open Go.HH Go.Proofs
theorem edit_needs {C:Con} {w:ByteArray} {l:List Int} (hn: ¬(l.length:Int)=needs w):editR C w l=none:=by
 unfold editR
 split
 ·rename_i h;subst h
  exact if_neg (fun hh=>hn (by rw [hh.1];decide))
 ·split
  ·rename_i h;subst h
   exact if_neg (fun hh=>hn (by rw [hh.1];decide))
  ·split
   ·rename_i h
    exact if_neg (fun hh=>hn (by rw [hh.1];rcases h with rfl|rfl<;>decide))
   ·split
    ·rename_i h;subst h
     exact if_neg (fun hh=>hn (by rw [hh.1];decide))
    ·rfl
theorem ask_needs {C:Con} {w:ByteArray} {l:List Int} (hn: ¬(l.length:Int)=needs w):askR C w l=none:=by
 unfold askR
 split
 ·rename_i h;subst h
  exact if_neg (fun hh=>hn (by rw [hh.1];decide))
 ·split
  ·rename_i h;subst h
   exact if_neg (fun hh=>hn (by rw [hh.1];decide))
  ·split
   ·rename_i h;subst h
    exact if_neg (fun hh=>hn (by rw [hh];decide))
   ·split
    ·rename_i h;subst h
     exact if_neg (fun hh=>hn (by rw [hh.1];decide))
    ·split
     ·rename_i h;subst h
      exact if_neg (fun hh=>hn (by rw [hh.1];decide))
     ·split
      ·rename_i h;subst h
       exact if_neg (fun hh=>hn (by rw [hh.1];decide))
      ·rfl
theorem needs_cmd {w:ByteArray} (h:0<=needs w) (hw: ¬isEdit w):isAsk w:=by
 unfold needs at h
 simp only [isEdit,not_or] at hw
 obtain ⟨h0,h1,h2,h3,h4⟩:=hw
 unfold isAsk
 by_cases a:w=w_dry
 ·exact .inl a
 by_cases b:w=w_bridges
 ·exact .inr (.inl b)
 by_cases c:w=w_burst
 ·exact .inr (.inr (.inl c))
 by_cases d:w=w_segment
 ·exact .inr (.inr (.inr (.inl d)))
 by_cases e:w=w_around
 ·exact .inr (.inr (.inr (.inr (.inl e))))
 by_cases f:w=w_way
 ·exact .inr (.inr (.inr (.inr (.inr f))))
 simp only [a,b,c,d,e,f,h0,h1,h2,h3,h4,or_self,if_false] at h
 exact absurd h (by decide)
def ExR (lo:Nat) (H:Heap) (C:Con) (s:ByteArray) (wP wV:Value) (E:Con) (xP xV:Value) (T:ByteArray) (b:Bool):Prop:=
 (b=true->E=runC C s∧T=runT C s∧((xP=wP∧xV=wV∧E.P=C.P∧E.V=C.V)∨ConQ lo H.length H E xP xV))∧(b=false->runT C s=w_no∧runC C s=C)
theorem ExR.no {lo:Nat} {H:Heap} {C:Con} {s:ByteArray} {wP wV:Value} {E:Con} {xP xV:Value} {T:ByteArray} (h1:runT C s=w_no) (h2:runC C s=C):ExR lo H C s wP wV E xP xV T false:=
 ⟨fun h=>(by cases h),fun _=>⟨h1,h2⟩⟩
theorem ConQ.v2r {h u t2 t3 v:Heap} {a b a' b':Blk} {hi hi':Nat} {c:Con} {wP wV:Value} (s:ConQ (h++a::b::(u++t2)).length hi (h++a::b::(u++t2)++t3) c wP wV) (h2:hi<=hi'):ConQ h.length hi' (h++a'::b'::(u++(t2++(t3++v)))) c wP wV:=by
 obtain ⟨p,q,x,y,hh,f1,f2⟩:=s.p
 have e:h++a'::b'::(u++t2++t3)++v=h++a'::b'::(u++(t2++(t3++v))):=by simp
 have m1:=(f1.v2r (a':=a') (b':=b') hh.1).mono (List.prefix_append _ v)
 have m2:=(f2.v2r (a':=a') (b':=b') hh.2.2.1).mono (List.prefix_append _ v)
 rw [e] at m1 m2
 refine ⟨p,q,x,y, ?_,m1,m2⟩
 have:h.length<=(h++a::b::(u++t2)).length:=by simp
 omega
section
variable {G : List (Nat × Nat)} {h : Heap} {M : Nat → Prop}
set_option maxRecDepth 4000 in
theorem c_execute {n:Nat} (pw:PowAt G h) (er:ErrAt G h) (C:Con) (s:ByteArray) (wP wV:Value) (sP:SB n 4 h wP (C.P.map pip)) (sV:Sl h 4 wV (C.V.map vlv)) (es:EszC h 4 wV) (g:conOk C) (hs:s.size<=10000) :
  vCall G Tryz.prog M 56 [conV C wP wV, .string s] h (fun r h'=>(∃E xP xV T b,r = .tuple #[conV E xP xV, .string T, .bool b]∧(oneC xP=true∧oneC xV=true)∧ExR h.length h' C s wP wV E xP xV T b)∧h<+:h'):=by
 obtain ⟨w,r,ew⟩:=wds_cons s
 have hwl:=wds_len s
 have o0:oneC wP=true:=by obtain ⟨a,e,_⟩:=sP.1;rw [e];rfl
 have o0v:oneC wV=true:=by obtain ⟨a,e,_⟩:=sV;rw [e];rfl
 obtain ⟨N,P,V,src,D,Q,cnt⟩:=C
 simp only at sP sV es
 refine body_ofR ([(22,[])]) mo Tryz.func56 rfl (by kernel_rfl) (Nat.le_of_ble_eq_true (by kernel_rfl)) rfl ?_
 simp only [go_sem,conV,o0,o0v]
 refine ⟨by kernel_rfl,((c_SplitB 32 s (by omega)).addG).use (fun _ m=>m) ?_⟩
 rintro _ _ ⟨t,j,rfl,rfl,hj⟩
 have hj':t[j]? = some ⟨strsV (wds s),1, .rw⟩:=hj
 have ewl:(splitL (bl s) 32).length=(wds s).length:=rfl
 have hwp:0<(wds s).length:=hwl.1
 have hG0: ∀a b:Blk,hget (h++a::b::t) (h.length+2+j)=some ⟨strsV (wds s),1, .rw⟩:=fun a b=>by
  rw [show h.length+2+j=h.length+(j+1+1) by omega,hget_app]
  exact hj'
 have hG1: ∀(a b:Blk) (u:Heap),hget (h++a::b::(t++u)) (h.length+2+j)=some ⟨strsV (wds s),1, .rw⟩:=fun a b u=>by
  rw [show h.length+2+j=h.length+(j+1+1) by omega,hget_app]
  simp only [List.getElem?_cons_succ]
  rw [List.getElem?_append_left (List.getElem?_eq_some_iff.1 hj').1]
  exact hj'
 have hsz: ∀x∈(wds s).tail,(mkB x).size<=10000000:=fun x hx=>Nat.le_trans (wds_le (List.mem_of_mem_tail hx)) (by omega)
 simp only [go_sem,ewl,o0,o0v,onSl_more hwp,hG0,hG1,hwl.1,strsV_len,show (1:Int)<=(wds s).length by omega]
 have hK:(wds s).length-1=(wds s).tail.length:=by rw [List.length_tail]
 have hK2:(wds s).length=(wds s).tail.length+1:=by omega
 have gw: ∀(i:Nat) (hi:i<(wds s).tail.length),(strsV (wds s))[1+i]? = some (.string (mkB (wds s).tail[i])):=fun i hi=>by
  rw [strsV,List.getElem?_map,Nat.add_comm 1 i,List.getElem?_eq_getElem (by omega),Option.map_some]
  simp only [List.getElem_tail]
 have g0:(strsV (wds s))[0]? = some (.string (wd0 s)):=by
  rw [wd0,ew];rfl
 have z0:(0:Int)<(wds s).length:=by omega
 have bad1: ∀(lo:Nat) (H:Heap) (E:Con) (xP xV:Value) (T:ByteArray),¬numsOk (wds s).tail->ExR lo H ⟨N,P,V,src,D,Q,cnt⟩ s wP wV E xP xV T false:=fun lo H E xP xV T hn=>
  .no (by rw [runT,if_neg hn]) (by rw [runC,if_neg (fun hh=>hn hh.1)])
 rw [hK]
 refine vLoopR.count mo (wds s).tail.length (fun i e h'=> ∃(u:Heap) (q:Nat),Regs e [(2, .pointer (some ⟨h.length,0,none⟩)),(4, .pointer (some ⟨h.length+1,0,none⟩)),(7, .slice (some ⟨h.length+2+j,0,none⟩) (wds s).length 0),(8, .slice (some ⟨h.length+(q+1+1),0,none⟩) i 0),(22, .slice (some ⟨h.length+2+j,1,none⟩) (wds s).tail.length 0),(23, .int .i64 (wds s).tail.length),(24, .int .i64 i)] ∧
  HeapIs h' (h++⟨[.int .i64 N,wP,wV, .int .i64 src, .string D, .string Q, .int .i64 cnt],7, .rw⟩::⟨[.int .i64 0, .slice none 0 0, .slice none 0 0, .int .i64 0, .string ⟨#[]⟩, .string ⟨#[]⟩, .int .i64 0],7, .rw⟩::u)∧u[j]? = some ⟨strsV (wds s),1, .rw⟩∧u[q]? = some ⟨(numsL ((wds s).tail.take i)).map iv,1, .rw⟩∧j≠q∧∀(m:Nat) (hm:m<(wds s).tail.length),m<i->rdOk (mkB (wds s).tail[m])) ?_ ?_
 ·have hjl:=(List.getElem?_eq_some_iff.1 hj').1
  refine ⟨_,t.length,⟨rfl,rfl,rfl,rfl,rfl,rfl,rfl,trivial⟩, .rfl, ?_, ?_,by omega,fun m _ hm=>absurd hm (by omega)⟩
  ·rw [List.getElem?_append_left hjl];exact hj'
  ·rw [List.getElem?_append_right (by omega),Nat.sub_self];rfl
 ·clear hG0 hG1 hj hj'
  rintro i e _ hi ⟨u,q,⟨e2,e4,e7,e8,e22,e23,e24,_⟩,rfl,hj,hq,hjq,hlo⟩
  have hG: ∀(a b:Blk),hget (h++a::b::u) (h.length+2+j)=some ⟨strsV (wds s),1, .rw⟩:=fun a b=>by
   rw [show h.length+2+j=h.length+(j+1+1) by omega,hget_app]
   exact hj
  have hlen:=numsL_len (ws:=(wds s).tail) (i:=i) (by omega)
  have hjl:=(List.getElem?_eq_some_iff.1 hj).1
  have hql:=(List.getElem?_eq_some_iff.1 hq).1
  by_cases hlt:i<(wds s).tail.length
  ·have wi:=wsucc hlt (by omega)
   have hz:(i:Int)<(wds s).tail.length:=by omega
   simp only [go_sem,e2,e4,e7,e8,e22,e23,e24,hz,hG,gw i hlt]
   refine ⟨by kernel_rfl,(c_ParseInt (pw.mono (by simp)) (er.mono (by simp)) (mkB (wds s).tail[i]) (hsz _ (List.getElem_mem _))).use (fun _ m=>m) ?_⟩
   rintro _ _ ⟨rfl,⟨t2,rfl⟩⟩
   by_cases c:rdOk (mkB (wds s).tail[i])
   ·simp only [go_sem,e2,e4,e7,e8,e22,e23,e24,decb c,app_old hq,List.length_map,hlen]
    refine ⟨by omega,by omega,hlt,_,u.length+(t2.length+1),⟨e2,e4,e7,rfl,e22,e23,congrArg _ wi,trivial⟩, .rfl, ?_, ?_,by omega, ?_⟩
    ·rw [List.getElem?_append_left (by simp;omega),List.getElem?_set_ne (by omega)];exact app_old hj _
    ·rw [numsL_take hlt,List.map_append]
     exact (List.getElem?_append_right (by simp)).trans (by simp [iv])
    ·intro m hm hmi
     by_cases h2:m<i
     ·exact hlo m hm h2
     ·obtain rfl:m=i:=by omega
      exact c
   ·have nok: ¬numsOk (wds s).tail:=fun hh=>c (hh _ (List.getElem_mem _))
    simp only [go_sem,e2,e4,e7,e8,e22,e23,e24,dect c,o0,o0v]
    exact ⟨⟨N,P,V,src,D,Q,cnt⟩,wP,wV,_,_,rfl,⟨o0,o0v⟩,bad1 _ _ _ _ _ _ nok⟩
  ·obtain rfl:i=(wds s).tail.length:=by omega
   have ok:numsOk (wds s).tail:=fun w hw=>by
    obtain ⟨m,hm,rfl⟩:=List.mem_iff_getElem.1 hw
    exact hlo m hm hm
   rw [List.take_length] at hq
   simp only [go_sem,e2,e4,e7,e8,e22,e23,e24,show ¬(((wds s).tail.length:Nat):Int)<(wds s).tail.length by omega,hG,g0,z0]
   refine ⟨by kernel_rfl,((c_numbersNeeded (wd0 s)).addG).use (fun _ m=>m) ?_⟩
   rintro _ _ ⟨rfl,⟨t2,rfl⟩⟩
   have hlw:((numsL (wds s).tail).length:Int)=(wds s).tail.length:=by rw [numsL,List.length_map]
   by_cases hn:((wds s).tail.length:Int)=needs (wd0 s)
   case neg=>
    have hn': ¬((numsL (wds s).tail).length:Int)=needs (wd0 s):=by rw [hlw];exact hn
    have e1:=edit_needs (C:=⟨N,P,V,src,D,Q,cnt⟩) hn'
    have e2':=ask_needs (C:=⟨N,P,V,src,D,Q,cnt⟩) hn'
    have x1:runT ⟨N,P,V,src,D,Q,cnt⟩ s=w_no:=by
     rw [runT,if_pos ok,editT,askT,e1,e2']
     split<;>rfl
    have x2:runC ⟨N,P,V,src,D,Q,cnt⟩ s=⟨N,P,V,src,D,Q,cnt⟩:=by
     unfold runC
     split
     ·rw [e1];rfl
     ·rfl
    simp only [go_sem,e2,e4,e7,e8,e22,e23,e24,show (((wds s).tail.length:Int) != needs (wd0 s))=true by simpa using hn,o0,o0v]
    exact ⟨⟨N,P,V,src,D,Q,cnt⟩,wP,wV,_,_,rfl,⟨o0,o0v⟩, .no x1 x2⟩
   have hn':((numsL (wds s).tail).length:Int)=needs (wd0 s):=by rw [hlw];exact hn
   have nb:(((wds s).tail.length:Int) != needs (wd0 s))=false:=by rw [hn];exact bne_self_eq_false _
   have slx: ∀(a b:Blk) (v:Heap),SI (h++a::b::(u++v)) (.slice (some ⟨h.length+(q+1+1),0,none⟩) (wds s).tail.length 0) (numsL (wds s).tail):=fun a b v=>
    FI.si (lo:=0) (hi:=(h++a::b::(u++v)).length) (FI.at' (by rw [numsL,List.length_map]) (by omega) (by simp;omega) (by rw [hget_app];simp only [List.getElem?_cons_succ];exact app_old hq _)) (Nat.le_refl _)
   by_cases hw:isEdit (wd0 s)
   ·have er1:runT ⟨N,P,V,src,D,Q,cnt⟩ s=editT ⟨N,P,V,src,D,Q,cnt⟩ (wd0 s) (numsL (wds s).tail):=by rw [runT,if_pos ok,if_pos hw]
    have ec1:runC ⟨N,P,V,src,D,Q,cnt⟩ s=(editR ⟨N,P,V,src,D,Q,cnt⟩ (wd0 s) (numsL (wds s).tail)).getD ⟨N,P,V,src,D,Q,cnt⟩:=by rw [runC,if_pos ⟨ok,hw⟩]
    rcases id hw with hy|hy|hy|hy|hy
    ·simp only [go_sem,e2,e4,e7,e8,e22,e23,e24,nb,decb hy,toList_eq,o0,o0v]
     refine ⟨by kernel_rfl,((c_change ⟨N,P,V,src,D,Q,cnt⟩ (wd0 s) wP wV _ _ (sP.mono (by simp)) (sV.mono (by simp)) (es.mono (by simp)) g (slx _ _ _) hw hn').addG).use (fun _ m=>m) ?_⟩
     rintro _ _ ⟨⟨E,xP,xV,rfl,⟨o1,o2⟩,hE⟩,⟨t3,rfl⟩⟩
     simp only [go_sem,e2,e4,e7,e8,e22,e23,e24,conV,o1,o2]
     cases hc:editR ⟨N,P,V,src,D,Q,cnt⟩ (wd0 s) (numsL (wds s).tail) with
     | some E'=>
      obtain ⟨rfl,hq2⟩:=hE E' hc
      have x1:runT ⟨N,P,V,src,D,Q,cnt⟩ s=w_ok:=by rw [er1,editT,hc];rfl
      have x2:runC ⟨N,P,V,src,D,Q,cnt⟩ s=E:=by rw [ec1,hc];rfl
      refine ⟨E,xP,xV,_,true,rfl,⟨o1,o2⟩,fun _=>⟨x2.symm,x1.symm, .inr (hq2.v2r ?_)⟩,fun hh=>(by cases hh)⟩
      simp
     | none=>
      have x1:runT ⟨N,P,V,src,D,Q,cnt⟩ s=w_no:=by rw [er1,editT,hc];rfl
      have x2:runC ⟨N,P,V,src,D,Q,cnt⟩ s=⟨N,P,V,src,D,Q,cnt⟩:=by rw [ec1,hc];rfl
      exact ⟨E,xP,xV,_,false,rfl,⟨o1,o2⟩, .no x1 x2⟩
    ·have n0: ¬wd0 s=w_pipe:=by rw [hy];decide
     simp only [go_sem,e2,e4,e7,e8,e22,e23,e24,nb,dect n0,decb hy,toList_eq,o0,o0v]
     refine ⟨by kernel_rfl,((c_change ⟨N,P,V,src,D,Q,cnt⟩ (wd0 s) wP wV _ _ (sP.mono (by simp)) (sV.mono (by simp)) (es.mono (by simp)) g (slx _ _ _) hw hn').addG).use (fun _ m=>m) ?_⟩
     rintro _ _ ⟨⟨E,xP,xV,rfl,⟨o1,o2⟩,hE⟩,⟨t3,rfl⟩⟩
     simp only [go_sem,e2,e4,e7,e8,e22,e23,e24,conV,o1,o2]
     cases hc:editR ⟨N,P,V,src,D,Q,cnt⟩ (wd0 s) (numsL (wds s).tail) with
     | some E'=>
      obtain ⟨rfl,hq2⟩:=hE E' hc
      have x1:runT ⟨N,P,V,src,D,Q,cnt⟩ s=w_ok:=by rw [er1,editT,hc];rfl
      have x2:runC ⟨N,P,V,src,D,Q,cnt⟩ s=E:=by rw [ec1,hc];rfl
      refine ⟨E,xP,xV,_,true,rfl,⟨o1,o2⟩,fun _=>⟨x2.symm,x1.symm, .inr (hq2.v2r ?_)⟩,fun hh=>(by cases hh)⟩
      simp
     | none=>
      have x1:runT ⟨N,P,V,src,D,Q,cnt⟩ s=w_no:=by rw [er1,editT,hc];rfl
      have x2:runC ⟨N,P,V,src,D,Q,cnt⟩ s=⟨N,P,V,src,D,Q,cnt⟩:=by rw [ec1,hc];rfl
      exact ⟨E,xP,xV,_,false,rfl,⟨o1,o2⟩, .no x1 x2⟩
    ·have n0: ¬wd0 s=w_pipe:=by rw [hy];decide
     have n1: ¬wd0 s=w_valve:=by rw [hy];decide
     simp only [go_sem,e2,e4,e7,e8,e22,e23,e24,nb,dect n0,dect n1,decb hy,toList_eq,o0,o0v]
     refine ⟨by kernel_rfl,((c_change ⟨N,P,V,src,D,Q,cnt⟩ (wd0 s) wP wV _ _ (sP.mono (by simp)) (sV.mono (by simp)) (es.mono (by simp)) g (slx _ _ _) hw hn').addG).use (fun _ m=>m) ?_⟩
     rintro _ _ ⟨⟨E,xP,xV,rfl,⟨o1,o2⟩,hE⟩,⟨t3,rfl⟩⟩
     simp only [go_sem,e2,e4,e7,e8,e22,e23,e24,conV,o1,o2]
     cases hc:editR ⟨N,P,V,src,D,Q,cnt⟩ (wd0 s) (numsL (wds s).tail) with
     | some E'=>
      obtain ⟨rfl,hq2⟩:=hE E' hc
      have x1:runT ⟨N,P,V,src,D,Q,cnt⟩ s=w_ok:=by rw [er1,editT,hc];rfl
      have x2:runC ⟨N,P,V,src,D,Q,cnt⟩ s=E:=by rw [ec1,hc];rfl
      refine ⟨E,xP,xV,_,true,rfl,⟨o1,o2⟩,fun _=>⟨x2.symm,x1.symm, .inr (hq2.v2r ?_)⟩,fun hh=>(by cases hh)⟩
      simp
     | none=>
      have x1:runT ⟨N,P,V,src,D,Q,cnt⟩ s=w_no:=by rw [er1,editT,hc];rfl
      have x2:runC ⟨N,P,V,src,D,Q,cnt⟩ s=⟨N,P,V,src,D,Q,cnt⟩:=by rw [ec1,hc];rfl
      exact ⟨E,xP,xV,_,false,rfl,⟨o1,o2⟩, .no x1 x2⟩
    ·have n0: ¬wd0 s=w_pipe:=by rw [hy];decide
     have n1: ¬wd0 s=w_valve:=by rw [hy];decide
     have n2: ¬wd0 s=w_shut:=by rw [hy];decide
     simp only [go_sem,e2,e4,e7,e8,e22,e23,e24,nb,dect n0,dect n1,dect n2,decb hy,toList_eq,o0,o0v]
     refine ⟨by kernel_rfl,((c_change ⟨N,P,V,src,D,Q,cnt⟩ (wd0 s) wP wV _ _ (sP.mono (by simp)) (sV.mono (by simp)) (es.mono (by simp)) g (slx _ _ _) hw hn').addG).use (fun _ m=>m) ?_⟩
     rintro _ _ ⟨⟨E,xP,xV,rfl,⟨o1,o2⟩,hE⟩,⟨t3,rfl⟩⟩
     simp only [go_sem,e2,e4,e7,e8,e22,e23,e24,conV,o1,o2]
     cases hc:editR ⟨N,P,V,src,D,Q,cnt⟩ (wd0 s) (numsL (wds s).tail) with
     | some E'=>
      obtain ⟨rfl,hq2⟩:=hE E' hc
      have x1:runT ⟨N,P,V,src,D,Q,cnt⟩ s=w_ok:=by rw [er1,editT,hc];rfl
      have x2:runC ⟨N,P,V,src,D,Q,cnt⟩ s=E:=by rw [ec1,hc];rfl
      refine ⟨E,xP,xV,_,true,rfl,⟨o1,o2⟩,fun _=>⟨x2.symm,x1.symm, .inr (hq2.v2r ?_)⟩,fun hh=>(by cases hh)⟩
      simp
     | none=>
      have x1:runT ⟨N,P,V,src,D,Q,cnt⟩ s=w_no:=by rw [er1,editT,hc];rfl
      have x2:runC ⟨N,P,V,src,D,Q,cnt⟩ s=⟨N,P,V,src,D,Q,cnt⟩:=by rw [ec1,hc];rfl
      exact ⟨E,xP,xV,_,false,rfl,⟨o1,o2⟩, .no x1 x2⟩
    ·have n0: ¬wd0 s=w_pipe:=by rw [hy];decide
     have n1: ¬wd0 s=w_valve:=by rw [hy];decide
     have n2: ¬wd0 s=w_shut:=by rw [hy];decide
     have n3: ¬wd0 s=w_open:=by rw [hy];decide
     simp only [go_sem,e2,e4,e7,e8,e22,e23,e24,nb,dect n0,dect n1,dect n2,dect n3,decb hy,toList_eq,o0,o0v]
     refine ⟨by kernel_rfl,((c_change ⟨N,P,V,src,D,Q,cnt⟩ (wd0 s) wP wV _ _ (sP.mono (by simp)) (sV.mono (by simp)) (es.mono (by simp)) g (slx _ _ _) hw hn').addG).use (fun _ m=>m) ?_⟩
     rintro _ _ ⟨⟨E,xP,xV,rfl,⟨o1,o2⟩,hE⟩,⟨t3,rfl⟩⟩
     simp only [go_sem,e2,e4,e7,e8,e22,e23,e24,conV,o1,o2]
     cases hc:editR ⟨N,P,V,src,D,Q,cnt⟩ (wd0 s) (numsL (wds s).tail) with
     | some E'=>
      obtain ⟨rfl,hq2⟩:=hE E' hc
      have x1:runT ⟨N,P,V,src,D,Q,cnt⟩ s=w_ok:=by rw [er1,editT,hc];rfl
      have x2:runC ⟨N,P,V,src,D,Q,cnt⟩ s=E:=by rw [ec1,hc];rfl
      refine ⟨E,xP,xV,_,true,rfl,⟨o1,o2⟩,fun _=>⟨x2.symm,x1.symm, .inr (hq2.v2r ?_)⟩,fun hh=>(by cases hh)⟩
      simp
     | none=>
      have x1:runT ⟨N,P,V,src,D,Q,cnt⟩ s=w_no:=by rw [er1,editT,hc];rfl
      have x2:runC ⟨N,P,V,src,D,Q,cnt⟩ s=⟨N,P,V,src,D,Q,cnt⟩:=by rw [ec1,hc];rfl
      exact ⟨E,xP,xV,_,false,rfl,⟨o1,o2⟩, .no x1 x2⟩
   ·have ha:isAsk (wd0 s):=needs_cmd (by rw [←hn];omega) hw
    have er1:runT ⟨N,P,V,src,D,Q,cnt⟩ s=askT ⟨N,P,V,src,D,Q,cnt⟩ (wd0 s) (numsL (wds s).tail):=by rw [runT,if_pos ok,if_neg hw]
    have ec1:runC ⟨N,P,V,src,D,Q,cnt⟩ s=⟨N,P,V,src,D,Q,cnt⟩:=by rw [runC,if_neg (fun hh=>hw hh.2)]
    have hw':=hw
    simp only [isEdit,not_or] at hw'
    obtain ⟨n0,n1,n2,n3,n4⟩:=hw'
    simp only [go_sem,e2,e4,e7,e8,e22,e23,e24,nb,dect n0,dect n1,dect n2,dect n3,dect n4,toList_eq,o0,o0v]
    refine ⟨by kernel_rfl,((c_answer ⟨N,P,V,src,D,Q,cnt⟩ (wd0 s) wP wV _ _ (sP.mono (by simp)) (sV.mono (by simp)) (es.mono (by simp)) g (slx _ _ _) ha hn').addG).use (fun _ m=>m) ?_⟩
    rintro _ _ ⟨⟨x,rfl,sx⟩,⟨t3,rfl⟩⟩
    have sB:Sht ((askR ⟨N,P,V,src,D,Q,cnt⟩ (wd0 s) (numsL (wds s).tail)).getD []):=by
     cases hc:askR ⟨N,P,V,src,D,Q,cnt⟩ (wd0 s) (numsL (wds s).tail) with
     | some L=>exact askB g hc
     | none=>exact .nil
    simp only [go_sem,e2,e4,e7,e8,e22,e23,e24,o0,o0v]
    refine ⟨by kernel_rfl,((c_listText x _ (by first|exact sx|simpa using sx) sB.1 sB.2).addG).use (fun _ m=>m) ?_⟩
    rintro _ _ ⟨rfl,⟨t4,rfl⟩⟩
    simp only [go_sem,e2,e4,e7,e8,e22,e23,e24,o0,o0v]
    cases hc:askR ⟨N,P,V,src,D,Q,cnt⟩ (wd0 s) (numsL (wds s).tail) with
    | some L=>
     have e1:runT ⟨N,P,V,src,D,Q,cnt⟩ s=listS L:=by rw [er1,askT,hc]
     exact ⟨⟨N,P,V,src,D,Q,cnt⟩,wP,wV,_,true,rfl,⟨o0,o0v⟩,fun _=>⟨ec1.symm,e1.symm, .inl ⟨rfl,rfl,rfl,rfl⟩⟩,fun hh=>(by cases hh)⟩
    | none=>
     have e1:runT ⟨N,P,V,src,D,Q,cnt⟩ s=w_no:=by rw [er1,askT,hc]
     exact ⟨⟨N,P,V,src,D,Q,cnt⟩,wP,wV,_,false,rfl,⟨o0,o0v⟩, .no e1 ec1⟩
end
open Go.HH Go.Proofs
theorem ConQ.mvg {X X' T S:Heap} {hi hi' lo':Nat} {c E:Con} {wP wV:Value} (s:ConQ X.length hi (X++T) c wP wV) (hl:X'.length=X.length) (hlo:lo'<=X.length) (h2:hi<=hi') (eP:E.P=c.P) (eV:E.V=c.V):ConQ lo' hi' (X'++T++S) E wP wV:=by
 have mv: ∀ {lo hi:Nat} {v:Value} {rows:List (List Value)},FQs lo hi 4 (X++T) v rows->X.length<=lo->FQs lo hi 4 (X'++T++S) v rows:=fun s h=>by
  have s':FQs _ _ 4 ([]++X++T) _ _:=s
  have:=(s'.swapped (y:=X') (by simpa using h) hl (Nat.le_refl _) (Nat.le_refl _)).mono (List.prefix_append _ S)
  simpa using this
 obtain ⟨p,q,x,y,hh,f1,f2⟩:=s.p
 refine ⟨p,q,x,y,by omega,by rw [eP];exact mv f1 hh.1,by rw [eV];exact mv f2 hh.2.2.1⟩
theorem ConQ.w1 {h t u:Heap} {a b a' b':Blk} {hi hi':Nat} {c:Con} {wP wV:Value} (s:ConQ (h++a::b::t).length hi (h++a::b::t++u) c wP wV) (h2:hi<=hi'):ConQ h.length hi' (h++a'::b'::(t++u)) c wP wV:=by
 have:=s.mvg (X':=h++a'::b'::t) (S:= []) (lo':=h.length) (by simp) (by simp) h2 rfl rfl
 simpa using this
theorem ConQ.w2 {h t t3 t2:Heap} {a b a' b':Blk} {hi hi':Nat} {c:Con} {wP wV:Value} (s:ConQ (h++a::b::(t++t3)).length hi (h++a::b::(t++t3)++t2) c wP wV) (h2:hi<=hi'):ConQ h.length hi' (h++a'::b'::(t++(t3++t2))) c wP wV:=by
 have:=s.mvg (X':=h++a'::b'::(t++t3)) (S:= []) (lo':=h.length) (by simp) (by simp) h2 rfl rfl
 simpa using this
theorem ConQ.w3 {h t t3 t2 v:Heap} {a b a' b':Blk} {hi hi':Nat} {c E:Con} {wP wV:Value} (s:ConQ (h++a::b::(t++t3)).length hi (h++a::b::(t++t3)++t2) c wP wV) (h2:hi<=hi') (eP:E.P=c.P) (eV:E.V=c.V):ConQ h.length hi' (h++a'::b'::(t++(t3++(t2++v)))) E wP wV:=by
 have:=s.mvg (X':=h++a'::b'::(t++t3)) (S:=v) (lo':=h.length) (by simp) (by simp) h2 eP eV
 simpa using this
theorem ConQ.w4 {h t t3 t2 t4 v:Heap} {a b d a' b' d':Blk} {hi hi':Nat} {c E:Con} {wP wV:Value} (s:ConQ (h++a::b::(t++(t3++(t2++ [d])))).length hi (h++a::b::(t++(t3++(t2++ [d])))++t4) c wP wV) (h2:hi<=hi') (eP:E.P=c.P) (eV:E.V=c.V):ConQ h.length hi' (h++a'::b'::(t++(t3++(t2++d'::(t4++v))))) E wP wV:=by
 have:=s.mvg (X':=h++a'::b'::(t++(t3++(t2++ [d'])))) (S:=v) (lo':=h.length) (by simp) (by simp) h2 eP eV
 simpa using this
section
variable {G : List (Nat × Nat)} {h : Heap} {M : Nat → Prop}
set_option maxRecDepth 4000 in
theorem c_ExecuteCommand {n:Nat} (pw:PowAt G h) (er:ErrAt G h) (C:Con) (s:ByteArray) (wP wV:Value) (sc:ConS n h C wP wV) (es:EszC h 4 wV) (hc:conSmall C) (hs:s.size<=9223372036854775806) :
  vCall G Tryz.prog M 18 [conV C wP wV, .string s] h (fun r h'=>(∃E xP xV,r = .tuple #[conV E xP xV, .string (execT C s)]∧E=execC C s∧ConQ h.length h'.length h' E xP xV)∧h<+:h'):=by
 obtain ⟨N,P,V,src,D,Q,cnt⟩:=C
 have sP:=sc.p
 have sV:=sc.v
 have o0:oneC wP=true:=by obtain ⟨a,e,_⟩:=sP.1;rw [e];rfl
 have o0v:oneC wV=true:=by obtain ⟨a,e,_⟩:=sV.1;rw [e];rfl
 refine body_of mo Tryz.func18 rfl (by kernel_rfl) (Nat.le_of_ble_eq_true (by kernel_rfl)) rfl ?_
 simp only [go_sem,conV,o0,o0v]
 refine ⟨by kernel_rfl,(c_IsValidConsole (pw.mono (by simp)) ⟨N,P,V,src,D,Q,cnt⟩ wP wV (sc.mono (by simp)) (es.mono (by simp)) hc).use (fun _ m=>m) ?_⟩
 rintro _ _ ⟨rfl,⟨t,rfl⟩⟩
 by_cases g:conOk ⟨N,P,V,src,D,Q,cnt⟩
 case neg=>
  simp only [go_sem,conV,dect g,o0,o0v]
  refine ⟨by kernel_rfl,((c_newConsoleX ⟨N,P,V,src,D,Q,cnt⟩ wP wV (sP.1.mono (by simp)) (sV.1.mono (by simp)) hc.1 hc.2.1).addG).use (fun _ m=>m) ?_⟩
  rintro _ _ ⟨⟨yP,yV,rfl,q0,_⟩,⟨t2,rfl⟩⟩
  obtain ⟨o1,o2⟩:=q0.one
  simp only [go_sem,conV,o1,o2]
  refine ⟨⟨N,P,V,src,D,Q,cnt⟩,yP,yV,by rw [execT,if_neg g],by rw [execC,if_neg (fun hh=>g hh.1)], ?_⟩
  refine q0.w1 ?_
  simp;try omega
 simp only [go_sem,conV,decb g,o0,o0v]
 refine ⟨by kernel_rfl,((c_IsValidRecord s ⟨#[]⟩ hs (by decide)).addG).use (fun _ m=>m) ?_⟩
 rintro _ _ ⟨rfl,⟨t3,rfl⟩⟩
 cases g2:recOk s ⟨#[]⟩
 case false=>
  have g2': ¬recOk s ⟨#[]⟩=true:=by rw [g2];decide
  simp only [go_sem,conV,g2,o0,o0v]
  refine ⟨by kernel_rfl,((c_newConsoleX ⟨N,P,V,src,D,Q,cnt⟩ wP wV (sP.1.mono (by simp)) (sV.1.mono (by simp)) hc.1 hc.2.1).addG).use (fun _ m=>m) ?_⟩
  rintro _ _ ⟨⟨yP,yV,rfl,q0,_⟩,⟨t2,rfl⟩⟩
  obtain ⟨o1,o2⟩:=q0.one
  simp only [go_sem,conV,o1,o2]
  refine ⟨⟨N,P,V,src,D,Q,cnt⟩,yP,yV,by rw [execT,if_pos g,if_neg g2'],by rw [execC,if_neg (fun hh=>g2' hh.2.1)], ?_⟩
  refine q0.w2 ?_
  simp;try omega
 have hs2:s.size<=10000:=by
  rw [recOk] at g2
  simp only [Bool.and_eq_true,decide_eq_true_eq] at g2
  omega
 simp only [go_sem,conV,g2,o0,o0v]
 by_cases g3:cnt=60
 case pos=>
  simp only [go_sem,conV,show (cnt==60)=true by rw [g3];rfl,o0,o0v]
  refine ⟨by kernel_rfl,((c_newConsoleX ⟨N,P,V,src,D,Q,cnt⟩ wP wV (sP.1.mono (by simp)) (sV.1.mono (by simp)) hc.1 hc.2.1).addG).use (fun _ m=>m) ?_⟩
  rintro _ _ ⟨⟨yP,yV,rfl,q0,_⟩,⟨t2,rfl⟩⟩
  obtain ⟨o1,o2⟩:=q0.one
  simp only [go_sem,conV,o1,o2]
  refine ⟨⟨N,P,V,src,D,Q,cnt⟩,yP,yV,by rw [execT,if_pos g,if_pos g2,if_pos g3],by rw [execC,if_neg (fun hh=>hh.2.2 g3)], ?_⟩
  refine q0.w2 ?_
  simp;try omega
 simp only [go_sem,conV,show (cnt==60)=false by rw [beq_eq_false_iff_ne];exact g3,o0,o0v]
 refine ⟨by kernel_rfl,((c_newConsoleX ⟨N,P,V,src,D,Q,cnt⟩ wP wV (sP.1.mono (by simp)) (sV.1.mono (by simp)) hc.1 hc.2.1).addG).use (fun _ m=>m) ?_⟩
 rintro _ _ ⟨⟨yP,yV,rfl,q0,_⟩,⟨t2,rfl⟩⟩
 obtain ⟨o1,o2⟩:=q0.one
 simp only [go_sem,conV,o1,o2]
 refine ⟨by kernel_rfl,(c_execute (pw.mono (by simp)) (er.mono (by simp)) ⟨N,P,V,src,D,Q,cnt⟩ s yP yV (q0.s.p.mono (by simp)) (q0.s.v.1.mono (by simp)) (q0.esz.2.mono (by simp)) g hs2).use (fun _ m=>m) ?_⟩
 rintro _ _ ⟨⟨E,xP,xV,T,b,rfl,⟨u1,u2⟩,hE⟩,⟨t4,rfl⟩⟩
 have er1:execT ⟨N,P,V,src,D,Q,cnt⟩ s=repT ⟨N,P,V,src,D,Q,cnt⟩ s:=by rw [execT,if_pos g,if_pos g2,if_neg g3]
 have ec:execC ⟨N,P,V,src,D,Q,cnt⟩ s= {runC ⟨N,P,V,src,D,Q,cnt⟩ s with D:=(appL D Q cnt s (repT ⟨N,P,V,src,D,Q,cnt⟩ s)).1,Q:=(appL D Q cnt s (repT ⟨N,P,V,src,D,Q,cnt⟩ s)).2.1,cnt:=(appL D Q cnt s (repT ⟨N,P,V,src,D,Q,cnt⟩ s)).2.2}:=by rw [execC,if_pos ⟨g,g2,g3⟩]
 rw [er1,ec]
 cases b with
 | false=>
  obtain ⟨x1,x2⟩:=hE.2 rfl
  have e4:repT ⟨N,P,V,src,D,Q,cnt⟩ s=w_no:=by rw [repT,x1];rfl
  rw [e4,x2]
  simp only [go_sem,conV,u1,u2,o1,o2]
  refine ⟨by kernel_rfl,(c_AppendRecord (pw.mono (by simp)) D Q cnt s w_no (by have:=hc.2.2;simp only at this;omega) hs (by decide)).use (fun _ m=>m) ?_⟩
  rintro _ _ ⟨rfl,⟨t6,rfl⟩⟩
  rw [appV_eq]
  generalize appL D Q cnt s w_no=L
  generalize appK D Q cnt s w_no=K
  obtain ⟨D',Q',n'⟩:=L
  simp only [go_sem,conV,o1,o2]
  refine ⟨_,yP,yV,rfl,rfl, ?_⟩
  refine q0.w3 ?_ (by rfl) (by rfl)
  simp;try omega
 | true=>
  obtain ⟨rfl,rfl,hx⟩:=hE.1 rfl
  by_cases g4:200<(runT ⟨N,P,V,src,D,Q,cnt⟩ s).size
  ·have e4:repT ⟨N,P,V,src,D,Q,cnt⟩ s=w_long:=by rw [repT,if_pos g4]
   rw [e4]
   simp only [go_sem,conV,u1,u2,o1,o2,show (200:Int)<((runT ⟨N,P,V,src,D,Q,cnt⟩ s).size:Nat) by omega]
   refine ⟨by kernel_rfl,(c_AppendRecord (pw.mono (by simp)) D Q cnt s w_long (by have:=hc.2.2;simp only at this;omega) hs (by decide)).use (fun _ m=>m) ?_⟩
   rintro _ _ ⟨rfl,⟨t6,rfl⟩⟩
   rw [appV_eq]
   generalize appL D Q cnt s w_long=L
   generalize appK D Q cnt s w_long=K
   obtain ⟨D',Q',n'⟩:=L
   simp only [go_sem,conV,u1,u2,o1,o2]
   refine ⟨_,xP,xV,rfl,rfl, ?_⟩
   rcases hx with ⟨rfl,rfl,eP,eV⟩|hx
   ·refine q0.w3 ?_ (by exact eP) (by exact eV)
    simp;try omega
   ·refine hx.w4 ?_ (by rfl) (by rfl)
    simp;try omega
  ·have e4:repT ⟨N,P,V,src,D,Q,cnt⟩ s=runT ⟨N,P,V,src,D,Q,cnt⟩ s:=by rw [repT,if_neg g4]
   rw [e4]
   simp only [go_sem,conV,u1,u2,o1,o2,show ¬(200:Int)<((runT ⟨N,P,V,src,D,Q,cnt⟩ s).size:Nat) by omega]
   refine ⟨by kernel_rfl,(c_AppendRecord (pw.mono (by simp)) D Q cnt s _ (by have:=hc.2.2;simp only at this;omega) hs (by omega)).use (fun _ m=>m) ?_⟩
   rintro _ _ ⟨rfl,⟨t6,rfl⟩⟩
   rw [appV_eq]
   generalize appL D Q cnt s (runT ⟨N,P,V,src,D,Q,cnt⟩ s)=L
   generalize appK D Q cnt s (runT ⟨N,P,V,src,D,Q,cnt⟩ s)=K
   obtain ⟨D',Q',n'⟩:=L
   simp only [go_sem,conV,u1,u2,o1,o2]
   refine ⟨_,xP,xV,rfl,rfl, ?_⟩
   rcases hx with ⟨rfl,rfl,eP,eV⟩|hx
   ·refine q0.w3 ?_ (by exact eP) (by exact eV)
    simp;try omega
   ·refine hx.w4 ?_ (by rfl) (by rfl)
    simp;try omega
end
open Go.HH Go.Proofs
theorem ConF.q {lo hi:Nat} {h:Heap} {c:Con} {wP wV:Value} (s:ConF lo hi h c wP wV):ConQ lo hi h c wP wV:=by
 obtain ⟨i,e1,a1,a2,a3,a4⟩:=s.p
 obtain ⟨k,d1,b1,b2,b3,b4⟩:=s.v
 by_cases hlt:i<k
 ·exact ⟨i,i+1,k,k+1,by omega, .inl ⟨i,e1,Nat.le_refl _,by omega,a3,a4⟩, .inl ⟨k,d1,Nat.le_refl _,by omega,b3,b4⟩⟩
 by_cases hgt:k<i
 ·exact ⟨i,i+1,k,k+1,by omega, .inl ⟨i,e1,Nat.le_refl _,by omega,a3,a4⟩, .inl ⟨k,d1,Nat.le_refl _,by omega,b3,b4⟩⟩
 obtain rfl:i=k:=by omega
 rw [a3] at b3
 have ef:(c.P.map pip).flatten=(c.V.map vlv).flatten:=by
  have:=Option.some.inj b3
  simpa using this
 have el:c.P.length*4=c.V.length*4:=by
  have:=congrArg List.length ef
  rwa [flP,flV] at this
 have hv:c.V= []:=by
  cases hp:c.P with
  | nil=>rw [hp] at el;simp at el;exact List.eq_nil_of_length_eq_zero (by omega)
  | cons p P=>
   cases hv:c.V with
   | nil=>rfl
   | cons v V=>
    rw [hp,hv] at ef
    simp [pip,vlv] at ef
 refine ⟨lo,hi,lo,lo,by omega, .inl ⟨i,e1,a1,a2,a3,a4⟩, .inr ⟨by rw [hv];rfl,some ⟨i,0,none⟩,by rw [d1,hv];rfl⟩⟩
theorem execC_len {c:Con} {s:ByteArray} (hc:conSmall c):(execC c s).P.length<=1048576∧(execC c s).V.length<=1048576:=by
 unfold execC
 split
 ·rename_i g
  have:=runC_small (s:=s) g.1
  exact ⟨Nat.le_trans this.1 (by decide),Nat.le_trans this.2 (by decide)⟩
 ·exact ⟨hc.1,hc.2.1⟩
theorem Agr.keep {lo hi:Nat} {h H H1:Heap} (g:Agr lo hi H H1) (hp:h<+:H) (h1:h.length<=lo):h<+:H1:=by
 refine List.prefix_iff_getElem?.2 fun i hi => ?_
 have hH:i<H.length:=Nat.lt_of_lt_of_le hi hp.length_le
 have e:=g.2 i hH (.inl (by omega))
 have e2:=hget_prefix hp hi
 have e3:hget h i=some h[i]:=List.getElem?_eq_getElem hi
 exact e.trans (e2.trans e3)
open Go.HH Go.Proofs
theorem execC_small {C:Con} {s:ByteArray} (hc:conSmall C):conSmall (execC C s):=by
 obtain ⟨hP,hV⟩:=execC_len (s:=s) hc
 refine ⟨hP,hV, ?_⟩
 unfold execC
 split
 ·rename_i g
  simp only
  unfold appL
  split
  ·rename_i h
   simp only
   have h1:=logOk_small h.1.1.1
   have h2:=lineL_len ((recOk_L _ _).symm.trans h.1.2) (k:=C.cnt.toNat) (by have:=logOk_count h.1.1;omega)
   have h3:(bl C.D++bl C.Q).length=C.D.size+C.Q.size:=by simp [bl]
   rw [ByteArray.size_append,mkB_size,List.length_append,List.length_singleton]
   omega
  ·exact hc.2.2
 ·exact hc.2.2
noncomputable def conAt (C:Con) (ws:List BL) (i:Nat):Con:=(ws.take i).foldl (fun c w=>execC c (mkB w)) C
theorem conAt_succ {C:Con} {ws:List BL} {i:Nat} (hi:i<ws.length):conAt C ws (i+1)=execC (conAt C ws i) (mkB ws[i]):=by
 unfold conAt
 rw [List.take_add_one,List.getElem?_eq_getElem hi,Option.toList_some,List.foldl_append]
 rfl
theorem conAt_small {C:Con} (hc:conSmall C) (ws:List BL): ∀i,conSmall (conAt C ws i)
 | 0=>by simpa [conAt] using hc
 | i+1=>by
  by_cases hi:i<ws.length
  ·rw [conAt_succ hi];exact execC_small (conAt_small hc ws i)
  ·have:conAt C ws (i+1)=conAt C ws i:=by
    unfold conAt
    rw [List.take_of_length_le (by omega),List.take_of_length_le (by omega)]
   rw [this];exact conAt_small hc ws i
def lns (s:ByteArray):List BL:=splitL (bl s) 10
def scrOk (C:Con) (s:ByteArray):Prop:=conOk C∧s.size<=4000∧(lns s).length<=30
open Classical in
noncomputable instance {C:Con} {s:ByteArray}:Decidable (scrOk C s):=propDecidable _
open Go.HH Go.Proofs
open Go.HH Go.Proofs
open Go.HH Go.Proofs
open Go.HH Go.Proofs
open Go.HH Go.Proofs
open Go Go.HH Go.Proofs
def globQ (L:List (Nat×List Value)) (N:Nat) (t0:Tgt):Phi:=fun i=>if i=N then some t0 else globP L N i
theorem glob_relE {L:List (Nat×List Value)} {N:Nat} {W:World} {t0:Tgt} (hN: ∀x∈L,x.1<N∧L.lookup x.1=some x.2) (h0: ∃c el fr,W.heap[t0.b]? = some (.cells c el fr)∧c.size=t0.n∧t0.d<=c.size) (hz:t0.esz=1)
  (hp: ∀i l,L.lookup i=some l->∃(l':List Value) (el:TypeId) (fr:Nat×Nat),W.heap[i]? = some (.cells l'.toArray el fr)∧l'.length=l.length∧∀(j:Nat) (v:Value),l[j]? = some v->∃v':Value,l'[j]? = some v'∧VRel (globQ L N t0) v v') :
  HRel (globG L) (globQ L N t0) (globH L N++ [⟨[],1, .ro⟩]) W∧allRo (globH L N++ [⟨[],1, .ro⟩]):=by
 have hlen:(globH L N).length=N:=by simp [globH]
 have at': ∀i t,globQ L N t0 i=some t->(i=N∧t=t0)∨(i<N∧∃l,L.lookup i=some l∧t=⟨i,0,1,l.length⟩):=by
  intro i t e
  unfold globQ at e
  split at e
  ·rename_i hi
   cases e
   exact .inl ⟨hi,rfl⟩
  ·unfold globP at e
   split at e
   ·rename_i hi
    cases hl:L.lookup i with
    | none=>rw [hl] at e;cases e
    | some l=>rw [hl] at e;cases e;exact .inr ⟨hi,l,rfl,rfl⟩
   ·cases e
 have get': ∀i k,(globH L N++ [(⟨[],1, .ro⟩:Blk)])[i]? = some k->(i=N∧k=⟨[],1, .ro⟩)∨(i<N∧k=⟨(L.lookup i).getD [],1, .ro⟩):=by
  intro i k e
  rcases Nat.lt_or_ge i N with h|h
  ·rw [List.getElem?_append_left (by rw [hlen];exact h)] at e
   exact .inr ⟨h,(globH_get e).1⟩
  ·rw [List.getElem?_append_right (by rw [hlen];exact h),hlen] at e
   have:i-N=0:=by
    have:=(List.getElem?_eq_some_iff.1 e).1
    simp at this;omega
   rw [this] at e
   cases e
   exact .inl ⟨by omega,rfl⟩
 obtain ⟨c0,el0,fr0,hc0,hc1,hc2⟩:=h0
 refine ⟨⟨?_, ?_, ?_, ?_, ?_⟩, ?_⟩
 ·rintro g hg
  obtain ⟨x,hx,rfl⟩:=List.mem_map.1 hg
  obtain ⟨h1,h2⟩:=hN x hx
  refine ⟨⟨x.1,0,1,x.2.length⟩, ?_,rfl,rfl,rfl⟩
  simp only [globQ,if_neg (Nat.ne_of_lt h1),globP,if_pos h1,h2,Option.map_some]
 ·intro i t e
  rcases at' i t e with ⟨rfl,rfl⟩|⟨h1,l,h2,rfl⟩
  ·exact ⟨by rw [List.length_append,hlen];simp,(Array.getElem?_eq_some_iff.1 hc0).1⟩
  ·obtain ⟨l',el,fr,h3,_⟩:=hp i l h2
   exact ⟨by rw [List.length_append,hlen];simp;omega,(Array.getElem?_eq_some_iff.1 h3).1⟩
 ·intro i t k _ e ek _
  rcases at' i t e with ⟨rfl,rfl⟩|⟨h1,l,h2,rfl⟩
  ·rcases get' _ k ek with ⟨_,rfl⟩|⟨hh,_⟩
   ·exact ⟨hz.symm,c0,el0,fr0,hc0,hc1,by simpa using hc2,fun j v ej=>by simp at ej,fun hh=>by cases hh⟩
   ·omega
  ·rcases get' _ k ek with ⟨hh,_⟩|⟨_,rfl⟩
   ·omega
   ·obtain ⟨l',el,fr,h3,h4,h5⟩:=hp i l h2
    rw [h2]
    refine ⟨rfl,l'.toArray,el,fr,h3,by simpa using h4,by simp [h4],fun j v ej => ?_,fun hh=>by cases hh⟩
    obtain ⟨v',e1,e2⟩:=h5 j v (by simpa using ej)
    exact ⟨v',by simpa using e1,e2⟩
 ·intro i t k e ek
  rcases at' i t e with ⟨rfl,rfl⟩|⟨h1,l,h2,rfl⟩
  ·rcases get' _ k ek with ⟨_,rfl⟩|⟨hh,_⟩
   ·exact hz.symm
   ·omega
  ·rcases get' _ k ek with ⟨hh,_⟩|⟨_,rfl⟩
   ·omega
   ·rfl
 ·intro i i' t t' k k' e e' ek ek' hrw
  rcases get' _ k ek with ⟨_,rfl⟩|⟨_,rfl⟩<;>cases hrw
 ·intro i k e
  rcases get' _ k e with ⟨_,rfl⟩|⟨_,rfl⟩<;>rfl
def glNE:Nat:=max 1 2+1
def glLE:List (Nat×List Value):= [(1,powV),(2,[.iface 266 (.pointer (some ⟨glNE,0,none⟩))])]
def glGE:List (Nat×Nat):= [(1,20),(2,1)]
def glHE:Heap:=globH glLE glNE++ [⟨[],1, .ro⟩]
theorem globGE:globG glLE=glGE:=by
 show [(1,powV.length),(2,1)]=_
 rw [powV_len];rfl
theorem glHE_at {h:Heap} (hp:glHE<+:h):PowAt glGE h∧ErrAt glGE h:=by
 refine ⟨PowAt.mono ⟨by simp [glGE], ?_⟩ hp,ErrAt.mono ⟨by simp [glGE],266,glNE, ?_⟩ hp⟩
 ·show (globH glLE glNE++_)[1]? = _
  rw [List.getElem?_append_left (by simp [globH,glNE])]
  simp [globH,glNE,glLE,List.lookup]
 ·show (globH glLE glNE++_)[2]? = _
  rw [List.getElem?_append_left (by simp [globH,glNE])]
  simp [globH,glNE,glLE,List.lookup]
theorem err_row (u : TypeId) (h : Tryz.prog.typeName? 3 u = some "*errors.errorString") : u = 266 :=
 typeName_ptr_named (nm := "errors.errorString") (by kernel_rfl) (by kernel_rfl) (by decide) u h
theorem glob_ex {W:World} (h:laidMetH Tryz.prog Rows.fnExactExecuteCommandRow.laid W): ∃t0:Tgt,HRel glGE (globQ glLE glNE t0) glHE W∧allRo glHE:=by
 rw [MakeChecks.laidMetH_plain _ _ _ (by kernel_rfl)] at h
 have h3:laidMet Tryz.prog ((_,Lib.tabData .u64 Lib.pow10Tab)::_) W:=laidMet.tail (laidMet.tail h)
 have t:=Lib.tabIs_of_head (g:=1) (t:=242) (e:=81) (n:=20) (by kernel_rfl) (by kernel_rfl) (by kernel_rfl) (by kernel_rfl) (by kernel_rfl) (by kernel_rfl) h3
 have h5:=laidMet.tail (laidMet.tail (laidMet.tail h3))
 obtain ⟨a,s,hv0,hc0,_,_⟩:=laid_sentinel (g:=2) (ti:=160) (tp:=266) (te:=268) (ts:=9) h5 (by kernel_rfl) (by kernel_rfl) Tryz.underlying160 err_row Tryz.underlying266 Tryz.underlying268 rfl rfl Tryz.underlying9 (by kernel_rfl) (by kernel_rfl)
 obtain ⟨b,off,spot⟩:=a
 unfold World.cell? at hc0
 simp only at hc0
 split at hc0
 ·rename_i c el fr hcl
  cases spot with
  | some _=>simp at hc0
  | none=>
   simp only [Option.isSome_none,if_false,Bool.false_eq_true] at hc0
   have hoff:off<c.size:=(Array.getElem?_eq_some_iff.1 hc0).1
   refine ⟨⟨b,off,1,c.size⟩, ?_⟩
   rw [←globGE]
   refine glob_relE ?_ ⟨c,el,fr,hcl,rfl,by simp only;omega⟩ rfl ?_
   ·intro x hx
    simp only [glLE,List.mem_cons,List.not_mem_nil,or_false] at hx
    rcases hx with rfl|rfl<;>exact ⟨Nat.le_of_ble_eq_true rfl,rfl⟩
   ·intro i l e
    unfold glLE at e
    rw [List.lookup_cons] at e
    split at e
    ·rename_i hi
     obtain rfl:i=1:=by simpa using hi
     cases e
     obtain ⟨el2,fr2,e2⟩:=var_cells (by kernel_rfl) t
     exact ⟨powV,el2,fr2,e2,rfl,fun j v ej=>⟨v,ej,(powV_plain v (List.mem_of_getElem? ej)).rel⟩⟩
    ·rw [List.lookup_cons] at e
     split at e
     ·rename_i hi
      obtain rfl:i=2:=by simpa using hi
      cases e
      obtain ⟨el2,fr2,e2⟩:=var_cells (by kernel_rfl) hv0
      refine ⟨[.iface 266 (.pointer (some ⟨b,off,none⟩))],el2,fr2,e2,rfl,fun j v ej => ?_⟩
      have hj:j=0:=by
       have:=(List.getElem?_eq_some_iff.1 ej).1
       simp at this;omega
      subst hj
      cases ej
      refine ⟨_,rfl, .iface ?_⟩
      have:=VRel.ptr (p:=globQ glLE glNE ⟨b,off,1,c.size⟩) (id:=glNE) (off:=0) (t:=⟨b,off,1,c.size⟩) (by simp [globQ])
      simpa using this
     ·cases e
 ·cases hc0
noncomputable def glT {W:World} (h:laidMetH Tryz.prog Rows.fnExactExecuteCommandRow.laid W):Tgt:=(glob_ex h).choose
theorem glob_metE {W:World} (h:laidMetH Tryz.prog Rows.fnExactExecuteCommandRow.laid W):HRel glGE (globQ glLE glNE (glT h)) glHE W∧allRo glHE:=(glob_ex h).choose_spec
open Go.HH Go.Proofs
open Go.HH Go.Proofs
theorem recR_rows (d:List (BL×BL)): ∀r∈d.map recR,r.length=2:=fun r hr=>by obtain ⟨e,_,rfl⟩:=List.mem_map.1 hr;rfl
theorem FR.recs {h t:Heap} {j n:Nat} {d:List (BL×BL)} (hn:n=d.length) (hj:t[j]? = some ⟨recV d,2, .rw⟩):FR h.length (h++t).length 2 (h++t) (.slice (some ⟨h.length+j,0,none⟩) n 0) (d.map recR):=
 ⟨h.length+j,by rw [List.length_map,hn],by omega,by have:=(List.getElem?_eq_some_iff.1 hj).1;rw [List.length_append];omega,by rw [hget_app];exact hj,recR_rows d⟩
theorem FR.wide {n m n' m' sz:Nat} {h:Heap} {v:Value} {rows:List (List Value)} (s:FR n m sz h v rows) (h1:n'<=n) (h2:m<=m'):FR n' m' sz h v rows:=by
 obtain ⟨id,e,e1,e2,r⟩:=s
 exact ⟨id,e,by omega,by omega,r⟩
section
variable {G : List (Nat × Nat)} {h : Heap} {M : Nat → Prop}
theorem c_LogRecordsN (pw:PowAt G h) (D P:ByteArray) (n:Int) (hz:D.size+P.size<=9000000) (g: ¬logOk (bl D) (bl P) n):vCall G Tryz.prog M 23 [.agg #[.string D, .string P, .int .i64 n]] h (fun r h'=>r = .tuple #[.slice none 0 0, .bool false]∧h<+:h'):=by
 refine body_of mo Tryz.func23 rfl (by kernel_rfl) (Nat.le_of_ble_eq_true (by kernel_rfl)) rfl ?_
 simp only [go_sem]
 refine ⟨by kernel_rfl,(c_IsValidLog (pw.mono (by simp)) D P n hz).use (fun _ m=>m) ?_⟩
 rintro _ _ ⟨rfl,⟨t,rfl⟩⟩
 simp only [go_sem,dect g]
 try all_goals first|exact rfl|exact ⟨rfl,rfl⟩|exact List.prefix_append _ _|exact ⟨rfl,List.prefix_append _ _⟩|assumption|exact ⟨rfl,by assumption⟩|exact List.prefix_rfl|exact ⟨rfl,List.prefix_rfl⟩|exact List.IsPrefix.trans (by assumption) (by assumption)|exact ⟨rfl,List.IsPrefix.trans (by assumption) (by assumption)⟩
theorem c_LogRecordsY (pw:PowAt G h) (D P:ByteArray) (n:Int) (hz:D.size+P.size<=9000000) (g:logOk (bl D) (bl P) n):vCall G Tryz.prog M 23 [.agg #[.string D, .string P, .int .i64 n]] h
  (fun r h'=>(∃v,r = .tuple #[v, .bool true]∧FR h.length h'.length 2 h' v ((openL 60 0 (bl D++bl P)).map recR))∧h<+:h'):=by
 refine body_of mo Tryz.func23 rfl (by kernel_rfl) (Nat.le_of_ble_eq_true (by kernel_rfl)) rfl ?_
 simp only [go_sem]
 refine ⟨by kernel_rfl,(c_IsValidLog (pw.mono (by simp)) D P n hz).use (fun _ m=>m) ?_⟩
 rintro _ _ ⟨rfl,⟨t,rfl⟩⟩
 simp only [go_sem,decb g,joinDP D P hz]
 refine ⟨by kernel_rfl,(c_readRecords (pw.mono (by simp)) (D++P) (by rw [ByteArray.size_append];omega)).use (fun _ m=>m) ?_⟩
 rintro _ _ ⟨t2,j,j2,rfl,rfl,hj,hj2,hne⟩
 rw [bl_app] at hj
 rw [bl_app]
 simp only [go_sem,decb g,joinDP D P hz]
 refine ⟨_,rfl, ?_⟩
 ·have:=FR.recs (h:=h++([⟨[.string D, .string P, .int .i64 n],3, .rw⟩]++t)) (n:=(openL 60 0 (bl D++bl P)).length) rfl hj
  simp only [List.append_assoc,List.cons_append,List.nil_append,List.length_append,List.length_cons,List.length_nil] at this ⊢
  exact FR.wide this (by omega) (by omega)
theorem c_sLogRecordsY (D P:ByteArray) (n:Int) (hz:D.size+P.size<=9000000) (g:logOk (bl D) (bl P) n):vCall [] Tryz.prog M 45 [.agg #[.string D, .string P, .int .i64 n]] h
  (fun r h'=>(∃v,r = .tuple #[v, .bool true]∧FR h.length h'.length 2 h' v ((openL 60 0 (bl D++bl P)).map recR))∧h<+:h'):=by
 have sm:=logOk_small g.1
 rw [List.length_append,bl_len,bl_len] at sm
 refine body_of mo Tryz.func45 rfl (by kernel_rfl) (Nat.le_of_ble_eq_true (by kernel_rfl)) rfl ?_
 simp only [go_sem]
 refine ⟨by kernel_rfl,(c_l27Log D P n hz).use (fun _ m=>m) ?_⟩
 rintro _ _ ⟨rfl,⟨t,rfl⟩⟩
 simp only [go_sem,decb g,joinDP D P hz]
 refine ⟨by kernel_rfl,(c_l27Open (D++P) (by rw [ByteArray.size_append];omega)).use (fun _ m=>m) ?_⟩
 rintro _ _ ⟨t2,j,rfl,rfl,hj⟩
 rw [bl_app] at hj
 rw [bl_app]
 simp only [go_sem,decb g,joinDP D P hz]
 refine ⟨_,rfl, ?_⟩
 ·have:=FR.recs (h:=h++([⟨[.string D, .string P, .int .i64 n],3, .rw⟩]++t)) (n:=(openL 60 0 (bl D++bl P)).length) rfl hj
  simp only [List.append_assoc,List.cons_append,List.nil_append,List.length_append,List.length_cons,List.length_nil] at this ⊢
  exact FR.wide this (by omega) (by omega)
end
open Go.HH Go.Proofs
def linesL:Nat->List (BL×BL)->BL
 | _,[]=> []
 | k,e::r=>lineL k e.1 e.2++10::linesL (k+1) r
theorem open_lines: ∀(n k:Nat) (s:BL),linesL k (openL n k s)=s.take (endL k (openL n k s))∧∀e∈openL n k s,okL e.1 e.2=true
 | 0,_,s=>⟨by simp [openL,linesL,endL],fun e he=>by cases he⟩
 | n+1,k,s=>by
  by_cases h:10∈s
  ·cases g:readL k (cutA s 10) with
   | none=>rw [openL_none g];exact ⟨by simp [linesL,endL],fun e he=>by cases he⟩
   | some e=>
    obtain ⟨g1,g2⟩:=readL_some (c:=e.1) (r:=e.2) g
    obtain ⟨i1,i2⟩:=open_lines n (k+1) (cutB s 10)
    rw [openL_some h g]
    refine ⟨?_,fun x hx => ?_⟩
    ·rw [linesL,endL,i1]
     have hs:=(cut_mem h).1
     rw [g2] at hs
     obtain ⟨T,hT⟩: ∃T,T=cutB s 10:=⟨_,rfl⟩
     rw [←hT] at hs ⊢
     obtain ⟨q,hq⟩: ∃q,q=endL (k+1) (openL n (k+1) T):=⟨_,rfl⟩
     rw [←hq,hs]
     rw [show (lineL k e.1 e.2).length+1+q=(lineL k e.1 e.2).length+(q+1) by omega,List.take_length_add_append,List.take_succ_cons]
    ·rcases List.mem_cons.1 hx with rfl|hx
     ·exact g1
     ·exact i2 x hx
  ·rw [openL_no h];exact ⟨by simp [linesL,endL],fun e he=>by cases he⟩
open Go.HH Go.Proofs
def RepAt (C:Con) (R:List (BL×BL)) (i:Nat):Prop:=i<=R.length∧(∀(j:Nat) (hj:j<R.length),j<i->execT (conAt C (R.map Prod.fst) j) (mkB R[j].1)=mkB R[j].2)∧(∀hi:i<R.length,execT (conAt C (R.map Prod.fst) i) (mkB R[i].1)≠mkB R[i].2)
theorem RepAt.uniq {C:Con} {R:List (BL×BL)} {i k:Nat} (a:RepAt C R i) (b:RepAt C R k):i=k:=by
 rcases Nat.lt_trichotomy i k with h|h|h
 ·have:=b.1
  exact absurd (b.2.1 i (by omega) h) (a.2.2 (by omega))
 ·exact h
 ·have:=a.1
  exact absurd (a.2.1 k (by omega) h) (b.2.2 (by omega))
section
variable {G : List (Nat × Nat)} {h : Heap} {M : Nat → Prop}
set_option maxRecDepth 4000 in
theorem c_ReplayLog {n:Nat} (pw:PowAt G h) (er:ErrAt G h) (v:Value) (N:Int) (P:List Pip) (x:Int) (D Q:ByteArray) (cnt:Int) (hv:NA n h v N P) (hP:P.length<=1048576) (hz:D.size+Q.size<=9000000) :
  vCall G Tryz.prog M 14 [v, .int .i64 x, .agg #[.string D, .string Q, .int .i64 cnt]] h (fun r h'=>(∃i:Nat,r = .tuple #[.int .i64 i, .bool (decide ((netGood N P∧1<=x∧x<=N)∧logOk (bl D) (bl Q) cnt))]∧(((netGood N P∧1<=x∧x<=N)∧logOk (bl D) (bl Q) cnt)->RepAt (newC N P x) (openL 60 0 (bl D++bl Q)) i)∧(¬((netGood N P∧1<=x∧x<=N)∧logOk (bl D) (bl Q) cnt)->i=0))∧h<+:h'):=by
 obtain ⟨w,rfl,sw⟩:=id hv
 have cv: ∀(c:Con) (a b:Value),conV c a b = .agg #[.int .i64 c.N,a,b, .int .i64 c.src, .string c.D, .string c.Q, .int .i64 c.cnt]:=fun _ _ _=>rfl
 have o0:oneC w=true:=by obtain ⟨a,e,_⟩:=sw.1;rw [e];rfl
 refine body_of mo Tryz.func14 rfl (by kernel_rfl) (Nat.le_of_ble_eq_true (by kernel_rfl)) rfl ?_
 simp only [go_sem,o0]
 refine ⟨by kernel_rfl,((c_NewConsole _ N P x (hv.mono (by simp)) hP).addG).use (fun _ m=>m) ?_⟩
 rintro _ _ ⟨⟨yP,yV,rfl,q0⟩,⟨t,rfl⟩⟩
 simp only [go_sem,conV,q0.one.1,q0.one.2]
 by_cases g:logOk (bl D) (bl Q) cnt
 case neg=>
  refine ⟨by kernel_rfl,(c_LogRecordsN (pw.mono (by simp)) D Q cnt hz g).use (fun _ m=>m) ?_⟩
  rintro _ _ ⟨rfl,⟨t2,rfl⟩⟩
  by_cases g2:netGood N P∧1<=x∧x<=N
  ·simp only [go_sem,decb g2]
   exact ⟨0,by rw [decide_eq_false (fun hh=>g hh.2)];rfl,fun hh=>absurd hh.2 g,fun _=>rfl⟩
  ·simp only [go_sem,dect g2]
   exact ⟨0,by rw [decide_eq_false (fun hh=>g hh.2)];rfl,fun hh=>absurd hh.2 g,fun _=>rfl⟩
 refine ⟨by kernel_rfl,(c_LogRecordsY (pw.mono (by simp)) D Q cnt hz g).use (fun _ m=>m) ?_⟩
 rintro _ _ ⟨⟨z,rfl,fz⟩,⟨t2,rfl⟩⟩
 by_cases g2:netGood N P∧1<=x∧x<=N
 case neg=>
  simp only [go_sem,dect g2]
  exact ⟨0,by rw [decide_eq_false (fun hh=>g2 hh.1)];rfl,fun hh=>absurd hh.1 g2,fun _=>rfl⟩
 have hrb: ∀r∈openL 60 0 (bl D++bl Q),(mkB r.1).size<=9223372036854775806:=fun r hr=>by
  obtain ⟨⟨_,h1,_⟩,_⟩:=okL_iff.1 ((open_lines 60 0 _).2 r hr)
  rw [mkB_size];omega
 have hl:(openL 60 0 (bl D++bl Q)).length<=60:=openL_len 60 0 _
 generalize openL 60 0 (bl D++bl Q)=R at fz hrb hl ⊢
 obtain ⟨zid,rfl,z1,z2,z3,_⟩:=id fz
 rw [List.length_map]
 have hc0:conSmall (newC N P x):=newC_small hP
 obtain ⟨cid,hcid⟩: ∃c,c=h.length+(t.length+2):=⟨_,rfl⟩
 have hcl0:h.length<=cid:=by omega
 simp only [go_sem,decb g2]
 refine vLoop.count mo R.length (fun i e H=> ∃(lo hi:Nat) (xP xV:Value),Regs e [(8, .pointer (some ⟨cid,0,none⟩)),(10, .slice (some ⟨zid,0,none⟩) R.length 0),(33, .slice (some ⟨zid,0,none⟩) R.length 0),(34, .int .i64 R.length),(35, .int .i64 i)] ∧
  hget H cid=some ⟨[.int .i64 (conAt (newC N P x) (R.map Prod.fst) i).N,xP,xV, .int .i64 (conAt (newC N P x) (R.map Prod.fst) i).src, .string (conAt (newC N P x) (R.map Prod.fst) i).D, .string (conAt (newC N P x) (R.map Prod.fst) i).Q, .int .i64 (conAt (newC N P x) (R.map Prod.fst) i).cnt],7, .rw⟩ ∧
  hget H zid=some ⟨(R.map recR).flatten,2, .rw⟩∧ConQ lo hi H (conAt (newC N P x) (R.map Prod.fst) i) xP xV∧(hi<=cid∨cid+1<=lo)∧h<+:H∧∀(j:Nat) (hj:j<R.length),j<i->execT (conAt (newC N P x) (R.map Prod.fst) j) (mkB R[j].1)=mkB R[j].2) ?_ ?_
 ·have hp:h++ [⟨[.int .i64 N,w],2, .rw⟩,⟨[.string D, .string Q, .int .i64 cnt],3, .rw⟩]++t<+:h++⟨[.int .i64 N,w],2, .rw⟩::⟨[.string D, .string Q, .int .i64 cnt],3, .rw⟩::(t++⟨[.int .i64 (newC N P x).N,yP,yV, .int .i64 (newC N P x).src, .string (newC N P x).D, .string (newC N P x).Q, .int .i64 (newC N P x).cnt],7, .rw⟩::t2):=by simp
  refine ⟨_,_,yP,yV,(by simp [Regs,upd,put,env0,hcid]), ?_, ?_,q0.mono hp, ?_, ?_,fun j hj h0=>absurd h0 (Nat.not_lt_zero _)⟩
  ·rw [hcid,hget_app];simp [conAt]
  ·simpa using z3
  ·left;simp [hcid]
  ·exact List.prefix_append _ _
 ·have hzc:cid<zid:=by simp at z1;omega
  clear q0 fz z1 z2 z3
  rintro i e H hi ⟨lo,hi,xP,xV,⟨e8,e10,e33,e34,e35,_⟩,gc,gz,q,hq,pre,ok⟩
  have sz:Sl H 2 (.slice (some ⟨zid,0,none⟩) R.length 0) (R.map recR):=FR.sl (lo:=0) (hi:=zid+1) ⟨zid,by rw [List.length_map],Nat.zero_le _,Nat.lt_succ_self _,gz,recR_rows R⟩
  have x1:=q.one.1
  have x2:=q.one.2
  by_cases hlt:i<R.length
  ·have hz:(i:Int)<R.length:=by omega
   have wi:=wsucc hlt (by omega)
   have hlt':i<(R.map recR).length:=by rw [List.length_map];exact hlt
   obtain ⟨id,off,kk,hv',_,hk,hdd,hbb,hrow,hat⟩:=sz.at hlt'
   obtain ⟨rfl,rfl⟩:zid=id∧0=off:=by simpa using hv'
   obtain rfl:kk=⟨(R.map recR).flatten,2, .rw⟩:=Option.some.inj (hk.symm.trans gz)
   rw [List.getElem_map] at hrow
   have hl2:=pre.length_le
   simp only [Nat.zero_add] at hrow
   have ow:own h.length M H.length=True:=by simp [own,hl2]
   have hfl:i*2+2<=(R.map recR).flatten.length:=by simpa using hbb
   simp only [go_sem,e8,e10,e33,e34,e35,hz,gz,hrow,recR,ow,self_get gc,x1,x2]
   refine ⟨by simpa using hfl, ?_⟩
   refine ⟨by kernel_rfl,(c_ExecuteCommand (pw.mono (pre.trans (List.prefix_append _ _))) (er.mono (pre.trans (List.prefix_append _ _))) (conAt (newC N P x) (R.map Prod.fst) i) (mkB R[i].1) xP xV ((q.mono (List.prefix_append _ _)).s) ((q.mono (List.prefix_append _ _)).esz.2) (conAt_small hc0 _ i) (hrb _ (List.getElem_mem _))).use (fun _ m=>m) ?_⟩
   rintro _ _ ⟨⟨E,yP,yV,rfl,hE,q1⟩,⟨t3,rfl⟩⟩
   have ow2:own h.length M (H.length+(t3.length+1))=True:=by simp [own];omega
   have hcl:=hget_lt gc
   have hzl:=hget_lt gz
   by_cases heq:execT (conAt (newC N P x) (R.map Prod.fst) i) (mkB R[i].1)=mkB R[i].2
   ·simp only [go_sem,e8,e10,e33,e34,e35,conV,q1.one.1,q1.one.2,ow2,show ((execT (conAt (newC N P x) (R.map Prod.fst) i) (mkB R[i].1)).toList==(mkB R[i].2).toList)=true by rw [heq];exact beq_self_eq_true _,self_get gc]
    have hs:conAt (newC N P x) (R.map Prod.fst) (i+1)=E:=by rw [hE,conAt_succ (by rw [List.length_map];exact hlt),List.getElem_map]
    obtain ⟨H',hH'⟩: ∃H',H++(⟨[.string (mkB R[i].1), .string (mkB R[i].2)],2, .rw⟩:Blk)::(t3++ [⟨[.int .i64 E.N,yP,yV, .int .i64 E.src, .string E.D, .string E.Q, .int .i64 E.cnt],7, .rw⟩])=H':=⟨_,rfl⟩
    have q2:ConQ (H.length+1) H'.length H' E yP yV:=by
     rw [←hH']
     have:=(q1.mono (List.prefix_append _ [⟨[.int .i64 E.N,yP,yV, .int .i64 E.src, .string E.D, .string E.Q, .int .i64 E.cnt],7, .rw⟩])).wide (lo':=H.length+1) (by simp) (hi':=(H++(⟨[.string (mkB R[i].1), .string (mkB R[i].2)],2, .rw⟩:Blk)::(t3++ [⟨[.int .i64 E.N,yP,yV, .int .i64 E.src, .string E.D, .string E.Q, .int .i64 E.cnt],7, .rw⟩])).length) (by simp)
     simpa using this
    have p':H<+:H':=by rw [←hH'];exact List.prefix_append _ _
    have lp:=p'.length_le
    rw [hH']
    have ag:Agr cid (cid+1) H' (H'.set cid ⟨[.int .i64 E.N,yP,yV, .int .i64 E.src, .string E.D, .string E.Q, .int .i64 E.cnt],7, .rw⟩):=Agr.set (Nat.le_refl _) (Nat.lt_succ_self _)
    refine ⟨by simp [own];omega,hlt,H.length+1,H'.length,yP,yV,⟨e8,e10,e33,e34,congrArg _ wi,trivial⟩, ?_, ?_, ?_, .inr ?_,Agr.keep ag (pre.trans p') (by omega),fun j hj h0 => ?_⟩
    ·rw [hs];exact hget_set_same (by omega)
    ·rw [hget_set_ne (by omega)];exact (hget_prefix p' hzl).trans gz
    ·rw [hs];exact q2.agr ag (.inr (Nat.succ_le_succ (Nat.le_of_lt hcl)))
    ·exact Nat.succ_le_succ (Nat.le_of_lt hcl)
    ·rcases Nat.lt_or_ge j i with h1|h1
     ·exact ok j hj h1
     ·obtain rfl:j=i:=by omega
      exact heq
   ·simp only [go_sem,e8,e10,e33,e34,e35,conV,q1.one.1,q1.one.2,ow2,show ((execT (conAt (newC N P x) (R.map Prod.fst) i) (mkB R[i].1)).toList==(mkB R[i].2).toList)=false by rw [toList_eq];exact decide_eq_false heq]
    exact ⟨⟨i,by rw [decide_eq_true ⟨g2,g⟩],fun _=>⟨by omega,fun j hj h0=>ok j hj h0,fun _=>heq⟩,fun hh=>absurd ⟨g2,g⟩ hh⟩,pre.trans (List.prefix_append _ _)⟩
  ·obtain rfl:i=R.length:=by omega
   simp only [go_sem,e8,e10,e33,e34,e35,show ¬((R.length:Int)<R.length) by omega]
   exact ⟨⟨R.length,by rw [decide_eq_true ⟨g2,g⟩],fun _=>⟨Nat.le_refl _,fun j hj h0=>ok j hj h0,fun h0=>absurd h0 (Nat.lt_irrefl _)⟩,fun hh=>absurd ⟨g2,g⟩ hh⟩,pre⟩
end
open Go.HH Go.Proofs
section
variable {G : List (Nat × Nat)} {h : Heap} {M : Nat → Prop}
set_option maxRecDepth 4000 in
theorem c_sReplayLog {n:Nat} (v:Value) (N:Int) (P:List Pip) (x:Int) (D Q:ByteArray) (cnt:Int) (hv:NA n h v N P) (hP:P.length<=1048576) (hz:D.size+Q.size<=9000000) :
  vCall [] Tryz.prog M 11 [v, .int .i64 x, .agg #[.string D, .string Q, .int .i64 cnt]] h (fun r h'=>(∃i:Nat,r = .tuple #[.int .i64 i, .bool (decide ((netGood N P∧1<=x∧x<=N)∧logOk (bl D) (bl Q) cnt))]∧(((netGood N P∧1<=x∧x<=N)∧logOk (bl D) (bl Q) cnt)->RepAt (newC N P x) (openL 60 0 (bl D++bl Q)) i)∧(¬((netGood N P∧1<=x∧x<=N)∧logOk (bl D) (bl Q) cnt)->i=0))∧h<+:h'):=by
 obtain ⟨w,rfl,sw⟩:=id hv
 have o0:oneC w=true:=by obtain ⟨a,e,_⟩:=sw.1;rw [e];rfl
 refine body_of mo Tryz.func11 rfl (by kernel_rfl) (Nat.le_of_ble_eq_true (by kernel_rfl)) rfl ?_
 simp only [go_sem,o0]
 refine ⟨by kernel_rfl,(c_sNewConsole _ N P x (hv.mono (by simp)) hP).use (fun _ m=>m) ?_⟩
 rintro _ _ ⟨⟨yP,yV,rfl,q0⟩,⟨t,rfl⟩⟩
 simp only [go_sem,conV,q0.one.1,q0.one.2]
 by_cases g2:netGood N P∧1<=x∧x<=N
 case neg=>
  simp only [go_sem,dect g2]
  exact ⟨0,by rw [decide_eq_false (fun hh=>g2 hh.1)];rfl,fun hh=>absurd hh.1 g2,fun _=>rfl⟩
 simp only [go_sem,decb g2]
 refine ⟨by kernel_rfl,(c_l27Log D Q cnt hz).use (fun _ m=>m) ?_⟩
 rintro _ _ ⟨rfl,⟨t4,rfl⟩⟩
 by_cases g:logOk (bl D) (bl Q) cnt
 case neg=>
  simp only [go_sem,decb g2,dect g]
  exact ⟨0,by rw [decide_eq_false (fun hh=>g hh.2)];rfl,fun hh=>absurd hh.2 g,fun _=>rfl⟩
 simp only [go_sem,decb g2,decb g]
 refine ⟨by kernel_rfl,(c_sLogRecordsY D Q cnt hz g).use (fun _ m=>m) ?_⟩
 rintro _ _ ⟨⟨z,rfl,fz⟩,⟨t2,rfl⟩⟩
 have hrb: ∀r∈openL 60 0 (bl D++bl Q),(mkB r.1).size<=9223372036854775806:=fun r hr=>by
  obtain ⟨⟨_,h1,_⟩,_⟩:=okL_iff.1 ((open_lines 60 0 _).2 r hr)
  rw [mkB_size];omega
 have hl:(openL 60 0 (bl D++bl Q)).length<=60:=openL_len 60 0 _
 generalize openL 60 0 (bl D++bl Q)=R at fz hrb hl ⊢
 obtain ⟨zid,rfl,z1,z2,z3,_⟩:=id fz
 rw [List.length_map]
 have hc0:conSmall (newC N P x):=newC_small hP
 obtain ⟨cid,hcid⟩: ∃c,c=h.length+(t.length+2):=⟨_,rfl⟩
 have hcl0:h.length<=cid:=by omega
 simp only [go_sem]
 refine vLoop.count mo R.length (fun i e H=> ∃(lo hi:Nat) (xP xV:Value),Regs e [(8, .pointer (some ⟨cid,0,none⟩)),(10, .slice (some ⟨zid,0,none⟩) R.length 0),(13, .int .i64 i)] ∧
  hget H cid=some ⟨[.int .i64 (conAt (newC N P x) (R.map Prod.fst) i).N,xP,xV, .int .i64 (conAt (newC N P x) (R.map Prod.fst) i).src, .string (conAt (newC N P x) (R.map Prod.fst) i).D, .string (conAt (newC N P x) (R.map Prod.fst) i).Q, .int .i64 (conAt (newC N P x) (R.map Prod.fst) i).cnt],7, .rw⟩ ∧
  hget H zid=some ⟨(R.map recR).flatten,2, .rw⟩∧ConQ lo hi H (conAt (newC N P x) (R.map Prod.fst) i) xP xV∧(hi<=cid∨cid+1<=lo)∧h<+:H∧∀(j:Nat) (hj:j<R.length),j<i->execT (conAt (newC N P x) (R.map Prod.fst) j) (mkB R[j].1)=mkB R[j].2) ?_ ?_
 ·have hp:h++ [⟨[.int .i64 N,w],2, .rw⟩,⟨[.string D, .string Q, .int .i64 cnt],3, .rw⟩]++t<+:h++⟨[.int .i64 N,w],2, .rw⟩::⟨[.string D, .string Q, .int .i64 cnt],3, .rw⟩::(t++⟨[.int .i64 (newC N P x).N,yP,yV, .int .i64 (newC N P x).src, .string (newC N P x).D, .string (newC N P x).Q, .int .i64 (newC N P x).cnt],7, .rw⟩::(t4++t2)):=by simp
  refine ⟨_,_,yP,yV,(by simp [Regs,upd,put,env0,hcid]), ?_, ?_,q0.mono hp, ?_, ?_,fun j hj h0=>absurd h0 (Nat.not_lt_zero _)⟩
  ·rw [hcid,hget_app];simp [conAt]
  ·simpa using z3
  ·left;simp [hcid]
  ·exact List.prefix_append _ _
 ·have hzc:cid<zid:=by simp at z1;omega
  clear q0 fz z1 z2 z3
  rintro i e H hi ⟨lo,hi,xP,xV,⟨e8,e10,e13,_⟩,gc,gz,q,hq,pre,ok⟩
  have sz:Sl H 2 (.slice (some ⟨zid,0,none⟩) R.length 0) (R.map recR):=FR.sl (lo:=0) (hi:=zid+1) ⟨zid,by rw [List.length_map],Nat.zero_le _,Nat.lt_succ_self _,gz,recR_rows R⟩
  have x1:=q.one.1
  have x2:=q.one.2
  by_cases hlt:i<R.length
  ·have hz:(i:Int)<R.length:=by omega
   have wi:=wsucc hlt (by omega)
   have hlt':i<(R.map recR).length:=by rw [List.length_map];exact hlt
   obtain ⟨id,off,kk,hv',_,hk,hdd,hbb,hrow,hat⟩:=sz.at hlt'
   obtain ⟨rfl,rfl⟩:zid=id∧0=off:=by simpa using hv'
   obtain rfl:kk=⟨(R.map recR).flatten,2, .rw⟩:=Option.some.inj (hk.symm.trans gz)
   have hl2:=pre.length_le
   have g0:=hat 0 (by omega)
   have g1:=hat 1 (by omega)
   rw [List.getElem_map] at g0 g1
   simp only [recR,List.getElem?_cons_zero,List.getElem?_cons_succ,Nat.add_zero,Nat.zero_add] at g0 g1
   have hcl:=hget_lt gc
   have hzl:=hget_lt gz
   simp only [go_sem,e8,e10,e13,hz,gz,gc,x1,x2,g0]
   refine ⟨by kernel_rfl,(c_sExecuteCommand (conAt (newC N P x) (R.map Prod.fst) i) (mkB R[i].1) xP xV q.s (conAt_small hc0 _ i) (hrb _ (List.getElem_mem _))).use (fun _ m=>m) ?_⟩
   rintro _ _ ⟨⟨E,yP,yV,rfl,hE,q1⟩,⟨t3,rfl⟩⟩
   have ag:Agr cid (cid+1) (H++t3) ((H++t3).set cid ⟨[.int .i64 E.N,yP,yV, .int .i64 E.src, .string E.D, .string E.Q, .int .i64 E.cnt],7, .rw⟩):=Agr.set (Nat.le_refl _) (Nat.lt_succ_self _)
   have g2':hget ((H++t3).set cid ⟨[.int .i64 E.N,yP,yV, .int .i64 E.src, .string E.D, .string E.Q, .int .i64 E.cnt],7, .rw⟩) zid=some ⟨(R.map recR).flatten,2, .rw⟩:=by rw [hget_set_ne (by omega)];exact self_get gz t3
   have ow:own h.length M cid=True:=by simp [own,hcl0]
   by_cases heq:execT (conAt (newC N P x) (R.map Prod.fst) i) (mkB R[i].1)=mkB R[i].2
   ·simp only [go_sem,e8,e10,e13,hz,conV,q1.one.1,q1.one.2,ow,self_get gc,g2',g1,show ((execT (conAt (newC N P x) (R.map Prod.fst) i) (mkB R[i].1)).toList==(mkB R[i].2).toList)=true by rw [heq];exact beq_self_eq_true _]
    have hs:conAt (newC N P x) (R.map Prod.fst) (i+1)=E:=by rw [hE,conAt_succ (by rw [List.length_map];exact hlt),List.getElem_map]
    refine ⟨hlt,H.length,(H++t3).length,yP,yV,⟨e8,e10,congrArg _ wi,trivial⟩, ?_, ?_, .inr (by omega),Agr.keep ag (pre.trans (List.prefix_append _ _)) hcl0,fun j hj h0 => ?_⟩
    ·rw [hs];exact hget_set_same (by simp;omega)
    ·rw [hs];exact q1.agr ag (.inr (by omega))
    ·rcases Nat.lt_or_ge j i with h1|h1
     ·exact ok j hj h1
     ·obtain rfl:j=i:=by omega
      exact heq
   ·simp only [go_sem,e8,e10,e13,hz,conV,q1.one.1,q1.one.2,ow,self_get gc,g2',g1,show ((execT (conAt (newC N P x) (R.map Prod.fst) i) (mkB R[i].1)).toList==(mkB R[i].2).toList)=false by rw [toList_eq];exact decide_eq_false heq]
    exact ⟨⟨i,by rw [decide_eq_true ⟨g2,g⟩],fun _=>⟨by omega,fun j hj h0=>ok j hj h0,fun _=>heq⟩,fun hh=>absurd ⟨g2,g⟩ hh⟩,Agr.keep ag (pre.trans (List.prefix_append _ _)) hcl0⟩
  ·obtain rfl:i=R.length:=by omega
   simp only [go_sem,e8,e10,e13,show ¬((R.length:Int)<R.length) by omega]
   exact ⟨⟨R.length,by rw [decide_eq_true ⟨g2,g⟩],fun _=>⟨Nat.le_refl _,fun j hj h0=>ok j hj h0,fun h0=>absurd h0 (Nat.lt_irrefl _)⟩,fun hh=>absurd ⟨g2,g⟩ hh⟩,pre⟩
theorem l_ReplayLog (pw:PowAt G h) (er:ErrAt G h) (v:Value) (N:Int) (P:List Pip) (x:Int) (D Q:ByteArray) (cnt:Int) (s:NA h.length h v N P) (hmax:P.length<=9223372036854775807) (hD:D.size<=9223372036854775807) (hQ:Q.size<=9223372036854775807) :
  vCall G Tryz.prog M 3 [v, .int .i64 x, .agg #[.string D, .string Q, .int .i64 cnt]] h (fun r h'=>r = .bool true):=by
 obtain ⟨w,rfl,sw⟩:=id s
 have o0:oneC w=true:=by obtain ⟨a,e,_⟩:=sw.1;rw [e];rfl
 refine body_of mo Tryz.func3 rfl (by kernel_rfl) (Nat.le_of_ble_eq_true (by kernel_rfl)) rfl ?_
 simp only [go_sem,o0]
 refine ⟨by kernel_rfl,((c_szNetwork _ N P (s.mono (by simp)) 1048576 (by omega) hmax).addG).use (fun _ m=>m) ?_⟩
 rintro _ _ ⟨rfl,⟨t,rfl⟩⟩
 by_cases h1:(1048576:Int)-P.length<0
 ·simp only [go_sem,h1]
 have hm:P.length<=1048576:=by omega
 simp only [go_sem,h1]
 by_cases h2:(1048576:Int)-P.length<D.size+Q.size
 ·refine ⟨by kernel_rfl,((c_szLogN D Q (1048576-P.length) cnt (by omega) hD hQ h2).addG).use (fun _ m=>m) ?_⟩
  rintro _ _ ⟨rfl,⟨t1,rfl⟩⟩
  simp only [go_sem,h1]
 refine ⟨by kernel_rfl,((c_szLogY D Q (1048576-P.length) cnt (by omega) hD hQ h2).addG).use (fun _ m=>m) ?_⟩
 rintro _ _ ⟨rfl,⟨t1,rfl⟩⟩
 have hz:D.size+Q.size<=9000000:=by omega
 simp only [go_sem,h1,show ¬((1048576:Int)-P.length-D.size-Q.size<0) by omega]
 refine ⟨by kernel_rfl,((c_toNetwork _ N P (s.mono (by simp)) hm).addG).use (fun _ m=>m) ?_⟩
 rintro v1 _ ⟨s1,⟨t2,rfl⟩⟩
 try simp only [List.append_assoc,List.cons_append] at s1
 try simp only [go_sem]
 refine ⟨by kernel_rfl,((c_toLog D Q cnt).addG).use (fun _ m=>m) ?_⟩
 rintro _ _ ⟨rfl,⟨t3,rfl⟩⟩
 try simp only [go_sem]
 refine ⟨by kernel_rfl,((c_sReplayLog _ N P x D Q cnt (s1.na.mono (by simp)) hm hz).addG).use (fun _ m=>m) ?_⟩
 rintro _ _ ⟨⟨i,rfl,i1,i2⟩,⟨t4,rfl⟩⟩
 try simp only [go_sem]
 refine ⟨by kernel_rfl,((c_toNetwork _ N P (s.mono (by simp)) hm).addG).use (fun _ m=>m) ?_⟩
 rintro v2 _ ⟨s2,⟨t5,rfl⟩⟩
 try simp only [List.append_assoc,List.cons_append] at s2
 obtain ⟨w2,rfl,f2⟩:=id s2
 simp only [go_sem,frOne f2]
 refine ⟨by kernel_rfl,((c_toLog D Q cnt).addG).use (fun _ m=>m) ?_⟩
 rintro _ _ ⟨rfl,⟨t6,rfl⟩⟩
 try simp only [go_sem]
 refine ⟨by kernel_rfl,(c_ReplayLog (pw.mono (by simp)) (er.mono (by simp)) _ N P x D Q cnt (s2.na.mono (by simp)) hm hz).use (fun _ m=>m) ?_⟩
 rintro _ _ ⟨⟨k,rfl,k1,k2⟩,⟨t7,rfl⟩⟩
 have hik:k=i:=by
  by_cases g:(netGood N P∧1<=x∧x<=N)∧logOk (bl D) (bl Q) cnt
  ·exact (k1 g).uniq (i1 g)
  ·rw [k2 g,i2 g]
 subst hik
 simp only [go_sem,bne_self_eq_false,Tryz.underlying4]
 refine ⟨by kernel_rfl,((c_toNetwork _ N P (s.mono (by simp)) hm).addG).use (fun _ m=>m) ?_⟩
 rintro v3 _ ⟨s3,⟨t8,rfl⟩⟩
 try simp only [List.append_assoc,List.cons_append] at s3
 try simp only [go_sem]
 refine ⟨by kernel_rfl,((c_eqNetwork _ _ N P (s2.na.mono (by simp)) s3.na hm).addG).use (fun _ m=>m) ?_⟩
 rintro _ _ ⟨rfl,⟨t9,rfl⟩⟩
 simp only [go_sem]
end
open Go.HH Go.Proofs
theorem a_FnExactReplayLog (h:Heap) (a:List Value) (hp:glHE<+:h) (ft:FitsAll h [.struct (.pair (.int .i64) (.pair (.slice (.struct (.pair (.int .i64) (.pair (.int .i64) (.pair (.int .i64) (.pair (.int .i64) .unit)))))) .unit)), .int .i64, .struct (.pair .str (.pair .str (.pair (.int .i64) .unit)))] a) :
  vCall glGE Tryz.prog (fun _=>False) 3 a h (fun r _=>r = .bool true):=by
 obtain ⟨v,vs,rfl,f,g⟩:=ft.cons
 obtain ⟨v2,vs,rfl,f2,g⟩:=g.cons
 obtain ⟨v3,vs,rfl,f3,g⟩:=g.cons
 obtain rfl:=g.nil
 obtain ⟨N,P,s,hP⟩:=Fits.net f
 obtain ⟨x,rfl,_⟩:=FitV.int f2
 obtain ⟨D,Q,n,rfl,hD,hQ⟩:=FitV.log f3
 exact l_ReplayLog (glHE_at hp).1 (glHE_at hp).2 v N P x D Q n s hP hD hQ
end Go.Proofs.YtedidddimikjhaaGreatDoor
