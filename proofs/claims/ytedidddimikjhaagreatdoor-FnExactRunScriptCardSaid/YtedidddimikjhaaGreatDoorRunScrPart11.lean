/- Texts of this claim, joined. No condition. -/
import Derived.Test.YtedidddimikjhaaGreatDoorRunScrPart10
import Derived.Test.YtedidddimikjhaaGreatDoorRunScrPart9
import Derived.Test.YtedidddimikjhaaGreatDoorRunScrPart7
import Derived.Test.YtedidddimikjhaaGreatDoorRunScrPart4
import Derived.Test.YtedidddimikjhaaGreatDoorRows
import Derived.Stop.LaidErr
set_option linter.unusedSimpArgs false
set_option linter.unusedVariables false
namespace Go.Proofs.YtedidddimikjhaaGreatDoor
open Go.HH Go.Proofs
noncomputable def appL (D P:ByteArray) (n:Int) (c r:ByteArray):ByteArray×ByteArray×Int:=
 if (logOk (bl D) (bl P) n∧recOk c r=true)∧n≠60 then (D,P++mkB (lineL n.toNat (bl c) (bl r)++ [10]),n+1) else (D,P,n)
noncomputable def appK (D P:ByteArray) (n:Int) (c r:ByteArray):Int:=if logOk (bl D) (bl P) n∧recOk c r=true then (if n=60 then 2 else 0) else 1
theorem appV_eq {D P:ByteArray} {n:Int} {c r:ByteArray}:appV D P n c r = .tuple #[.agg #[.string (appL D P n c r).1, .string (appL D P n c r).2.1, .int .i64 (appL D P n c r).2.2], .int .i64 (appK D P n c r)]:=by
 unfold appV appL appK
 by_cases h:logOk (bl D) (bl P) n∧recOk c r=true
 ·by_cases h2:n=60
  ·rw [if_pos h,if_pos h2,if_neg (fun hh=>hh.2 h2),if_pos h,if_pos h2]
  ·rw [if_pos h,if_neg h2,if_pos ⟨h,h2⟩,if_pos h,if_neg h2]
 ·rw [if_neg h,if_neg (fun hh=>h hh.1),if_neg h]
abbrev w_nono:ByteArray:=⟨#[110,111]⟩
abbrev w_bad:ByteArray:=⟨#[98,97,100]⟩
abbrev w_full:ByteArray:=⟨#[102,117,108,108]⟩
abbrev w_long:ByteArray:=⟨#[108,111,110,103]⟩
noncomputable def repT (C:Con) (s:ByteArray):ByteArray:=if 200<(runT C s).size then w_long else runT C s
noncomputable def execC (C:Con) (s:ByteArray):Con:=
 if conOk C∧recOk s ⟨#[]⟩=true∧C.cnt≠60 then {runC C s with D:=(appL C.D C.Q C.cnt s (repT C s)).1,Q:=(appL C.D C.Q C.cnt s (repT C s)).2.1,cnt:=(appL C.D C.Q C.cnt s (repT C s)).2.2} else C
noncomputable def execT (C:Con) (s:ByteArray):ByteArray:=
 if conOk C then (if recOk s ⟨#[]⟩=true then (if C.cnt=60 then w_full else repT C s) else w_bad) else w_nono
theorem insP_len {P:List Pip} {p:Pip}:(insP P p).length=P.length+1:=insAt_len insP_k
theorem editR_small {C E:Con} {w:ByteArray} {l:List Int} (g:conOk C) (h:editR C w l=some E):E.P.length<=11∧E.V.length<=11:=by
 have h1:=g.1.1.2.2
 have h2:=g.1.2.1
 unfold editR at h
 split at h
 ·split at h
  ·cases h
   exact ⟨by rw [insP_len];omega,by simp only;omega⟩
  ·cases h
 ·split at h
  ·split at h
   ·cases h
    refine ⟨by simp only;omega, ?_⟩
    simp only
    rw [insV,insAt_len insV_k];omega
   ·cases h
  ·split at h
   ·split at h
    ·rename_i ht
     cases h
     refine ⟨by simp only;omega, ?_⟩
     simp only
     rw [turnR,if_pos ht.2,turnV_len];omega
    ·cases h
   ·split at h
    ·split at h
     ·cases h
      exact ⟨by simp only;omega,by simp only;omega⟩
     ·cases h
    ·cases h
theorem runC_small {C:Con} {s:ByteArray} (g:conOk C):(runC C s).P.length<=11∧(runC C s).V.length<=11:=by
 have h1:=g.1.1.2.2
 have h2:=g.1.2.1
 unfold runC
 split
 ·cases h:editR C (wd0 s) (numsL (wds s).tail) with
  | none=>exact ⟨by simp only [Option.getD_none];omega,by simp only [Option.getD_none];omega⟩
  | some E=>exact editR_small g h
 ·exact ⟨by omega,by omega⟩
theorem ConQ.v2 {h t u:Heap} {a b a' b':Blk} {hi hi':Nat} {c:Con} {wP wV:Value} (s:ConQ (h++ [a,b]).length hi (h++ [a,b]++t) c wP wV) (h2:hi<=hi'):ConQ h.length hi' (h++a'::b'::(t++u)) c wP wV:=by
 have:=(s.swapped (y:= [a',b']) rfl h2).mono (List.prefix_append _ u)
 simpa using this
theorem ConQ.esz {lo hi:Nat} {h:Heap} {c:Con} {wP wV:Value} (s:ConQ lo hi h c wP wV):EszC h 4 wP∧EszC h 4 wV:=by
 obtain ⟨_,_,_,_,_,p,v⟩:=s.p
 exact ⟨p.eszQ,v.eszQ⟩
theorem Rw.sl {lo:Nat} {H:Heap} {w x:Value} {r0 r:List (List Value)} (s:Rw lo H w x r0 r) (b:Sl H 4 w r0):Sl H 4 x r:=by
 rcases s with ⟨rfl,rfl⟩|s
 ·exact b
 ·exact s.sl
theorem FQs.v6 {h t t2 t3 t4 t5 u:Heap} {a b c d a' b' c' d':Blk} {lo hi:Nat} {v:Value} {rows:List (List Value)} (s:FQs lo hi 4 (h++a::b::(t++c::(t2++(t3++(t4++ [d]))))++t5) v rows) (hl:(h++a::b::(t++c::(t2++(t3++(t4++ [d]))))).length<=lo) :
  FQs lo hi 4 (h++a'::b'::(t++c'::(t2++(t3++(t4++d'::(t5++u)))))) v rows:=by
 have s':FQs lo hi 4 (h++(a::b::(t++c::(t2++(t3++(t4++ [d])))))++t5) v rows:=s
 have:=(s'.swapped (y:=a'::b'::(t++c'::(t2++(t3++(t4++ [d']))))) (by simpa using hl) (by simp) (Nat.le_refl _) (Nat.le_refl _)).mono (List.prefix_append _ u)
 simpa using this
theorem ConQ.v6 {h t t2 t3 t4 t5 u:Heap} {a b c d a' b' c' d':Blk} {hi:Nat} {C E:Con} {wP wV:Value} (s:ConQ (h++a::b::(t++c::(t2++(t3++(t4++ [d]))))).length hi (h++a::b::(t++c::(t2++(t3++(t4++ [d]))))++t5) C wP wV) (eP:E.P=C.P) (eV:E.V=C.V) {hi':Nat} (h2:hi<=hi') :
  ConQ h.length hi' (h++a'::b'::(t++c'::(t2++(t3++(t4++d'::(t5++u)))))) E wP wV:=by
 obtain ⟨p,q,x,y,hh,f1,f2⟩:=s.p
 refine ⟨p,q,x,y, ?_,by rw [eP];exact f1.v6 hh.1,by rw [eV];exact f2.v6 hh.2.2.1⟩
 have:h.length<=(h++a::b::(t++c::(t2++(t3++(t4++ [d]))))).length:=by simp
 omega
section
variable {h : Heap} {M : Nat → Prop}
set_option maxRecDepth 4000 in
theorem c_sExecuteCommand {n:Nat} (C:Con) (s:ByteArray) (wP wV:Value) (sc:ConS n h C wP wV) (hc:conSmall C) (hs:s.size<=9223372036854775806) :
  vCall [] Tryz.prog M 19 [conV C wP wV, .string s] h (fun r h'=>(∃E xP xV,r = .tuple #[conV E xP xV, .string (execT C s)]∧E=execC C s∧ConQ h.length h'.length h' E xP xV)∧h<+:h'):=by
 obtain ⟨N,P,V,src,D,Q,cnt⟩:=C
 have sP:=sc.p
 have sV:=sc.v
 have o0:oneC wP=true:=by obtain ⟨a,e,_⟩:=sP.1;rw [e];rfl
 have o0v:oneC wV=true:=by obtain ⟨a,e,_⟩:=sV.1;rw [e];rfl
 refine body_of mo Tryz.func19 rfl (by kernel_rfl) (Nat.le_of_ble_eq_true (by kernel_rfl)) rfl ?_
 simp only [go_sem,conV,o0,o0v]
 refine ⟨by kernel_rfl,(c_l28Own ⟨N,P,V,src,D,Q,cnt⟩ wP wV (sP.1.mono (by simp)) (sV.1.mono (by simp)) hc.1 hc.2.1).use (fun _ m=>m) ?_⟩
 rintro _ _ ⟨⟨yP,yV,rfl,q0⟩,⟨t,rfl⟩⟩
 obtain ⟨o1,o2⟩:=q0.one
 simp only [go_sem,conV,o0,o0v,o1,o2]
 refine ⟨by kernel_rfl,(c_l28Good ⟨N,P,V,src,D,Q,cnt⟩ wP wV (sc.mono (by simp)) hc).use (fun _ m=>m) ?_⟩
 rintro _ _ ⟨rfl,⟨t2,rfl⟩⟩
 by_cases g:conOk ⟨N,P,V,src,D,Q,cnt⟩
 case neg=>
  simp only [go_sem,dect g,o1,o2]
  refine ⟨⟨N,P,V,src,D,Q,cnt⟩,yP,yV,by rw [execT,if_neg g],by rw [execC,if_neg (fun hh=>g hh.1)],q0.v2 ?_⟩
  all_goals (simp;try omega)
 simp only [go_sem,decb g,o1,o2]
 refine ⟨by kernel_rfl,(c_l27Good s ⟨#[]⟩ hs (by decide)).use (fun _ m=>m) ?_⟩
 rintro _ _ ⟨rfl,⟨t3,rfl⟩⟩
 cases g2:recOk s ⟨#[]⟩
 case false=>
  have g2': ¬recOk s ⟨#[]⟩=true:=by rw [g2];decide
  simp only [go_sem,g2,o1,o2]
  refine ⟨⟨N,P,V,src,D,Q,cnt⟩,yP,yV,by rw [execT,if_pos g,if_neg g2'],by rw [execC,if_neg (fun hh=>g2' hh.2.1)], ?_⟩
  refine q0.v2 ?_
  all_goals (simp;try omega)
 have hs2:s.size<=10000:=by
  rw [recOk] at g2
  simp only [Bool.and_eq_true,decide_eq_true_eq] at g2
  omega
 simp only [go_sem,g2,o1,o2]
 by_cases g3:cnt=60
 case pos=>
  simp only [go_sem,show (cnt==60)=true by rw [g3];rfl,o1,o2]
  refine ⟨⟨N,P,V,src,D,Q,cnt⟩,yP,yV,by rw [execT,if_pos g,if_pos g2,if_pos g3],by rw [execC,if_neg (fun hh=>hh.2.2 g3)], ?_⟩
  refine q0.v2 ?_
  all_goals (simp;try omega)
 simp only [go_sem,show (cnt==60)=false by rw [beq_eq_false_iff_ne];exact g3,o1,o2]
 refine ⟨by kernel_rfl,(c_l28Run ⟨N,P,V,src,D,Q,cnt⟩ s yP yV (q0.s.p.mono (by simp)) (q0.s.v.1.mono (by simp)) (q0.esz.1.mono (by simp)) (q0.esz.2.mono (by simp)) g hs2).use (fun _ m=>m) ?_⟩
 rintro _ _ ⟨⟨E,xP,xV,rfl,rfl,s1,s2⟩,⟨t4,rfl⟩⟩
 have k1:=s1.sl (q0.s.p.1.mono (by simp))
 have k2:=s2.sl (q0.s.v.1.mono (by simp))
 have u1:=s1.one o1
 have u2:=s2.one o2
 have sm:=runC_small (s:=s) g
 simp only [go_sem,conV,u1,u2]
 refine ⟨by kernel_rfl,(c_l28Own (runC ⟨N,P,V,src,D,Q,cnt⟩ s) xP xV (k1.mono (by simp)) (k2.mono (by simp)) (Nat.le_trans sm.1 (by decide)) (Nat.le_trans sm.2 (by decide))).use (fun _ m=>m) ?_⟩
 rintro _ _ ⟨⟨zP,zV,rfl,q2⟩,⟨t5,rfl⟩⟩
 obtain ⟨v1,v2⟩:=q2.one
 have er:execT ⟨N,P,V,src,D,Q,cnt⟩ s=repT ⟨N,P,V,src,D,Q,cnt⟩ s:=by rw [execT,if_pos g,if_pos g2,if_neg g3]
 have ec:execC ⟨N,P,V,src,D,Q,cnt⟩ s= {runC ⟨N,P,V,src,D,Q,cnt⟩ s with D:=(appL D Q cnt s (repT ⟨N,P,V,src,D,Q,cnt⟩ s)).1,Q:=(appL D Q cnt s (repT ⟨N,P,V,src,D,Q,cnt⟩ s)).2.1,cnt:=(appL D Q cnt s (repT ⟨N,P,V,src,D,Q,cnt⟩ s)).2.2}:=by rw [execC,if_pos ⟨g,g2,g3⟩]
 rw [er,ec]
 by_cases g4:200<(runT ⟨N,P,V,src,D,Q,cnt⟩ s).size
 ·have e4:repT ⟨N,P,V,src,D,Q,cnt⟩ s=w_long:=by rw [repT,if_pos g4]
  rw [e4]
  simp only [go_sem,conV,v1,v2,show (200:Int)<((runT ⟨N,P,V,src,D,Q,cnt⟩ s).size:Nat) by omega]
  refine ⟨by kernel_rfl,(c_sAppendRecord D Q cnt s w_long (by have:=hc.2.2;simp only at this;omega) hs (by decide)).use (fun _ m=>m) ?_⟩
  rintro _ _ ⟨rfl,⟨t6,rfl⟩⟩
  rw [appV_eq]
  generalize appL D Q cnt s w_long=L
  generalize appK D Q cnt s w_long=K
  obtain ⟨D',Q',n'⟩:=L
  simp only [go_sem,conV,v1,v2]
  refine ⟨_,zP,zV,rfl,rfl, ?_⟩
  refine q2.v6 (by rfl) (by rfl) ?_
  all_goals (simp;try omega)
 ·have e4:repT ⟨N,P,V,src,D,Q,cnt⟩ s=runT ⟨N,P,V,src,D,Q,cnt⟩ s:=by rw [repT,if_neg g4]
  rw [e4]
  simp only [go_sem,conV,v1,v2,show ¬(200:Int)<((runT ⟨N,P,V,src,D,Q,cnt⟩ s).size:Nat) by omega]
  refine ⟨by kernel_rfl,(c_sAppendRecord D Q cnt s _ (by have:=hc.2.2;simp only at this;omega) hs (by omega)).use (fun _ m=>m) ?_⟩
  rintro _ _ ⟨rfl,⟨t6,rfl⟩⟩
  rw [appV_eq]
  generalize appL D Q cnt s (runT ⟨N,P,V,src,D,Q,cnt⟩ s)=L
  generalize appK D Q cnt s (runT ⟨N,P,V,src,D,Q,cnt⟩ s)=K
  obtain ⟨D',Q',n'⟩:=L
  simp only [go_sem,conV,v1,v2]
  refine ⟨_,zP,zV,rfl,rfl, ?_⟩
  refine q2.v6 (by rfl) (by rfl) ?_
  all_goals (simp;try omega)
end
open Go.HH Go.Proofs
theorem edit_needs {C:Con} {w:ByteArray} {l:List Int} (hn: ¬(l.length:Int)=needs w):editR C w l=none:=by
 unfold editR
 split
 ·rename_i h;subst h
  exact if_neg (fun hh=>hn (by rw [hh.1];decide))
 ·split
  ·rename_i h;subst h
   exact if_neg (fun hh=>hn (by rw [hh.1];decide))
  ·split
   ·rename_i h
    exact if_neg (fun hh=>hn (by rw [hh.1];rcases h with rfl|rfl<;>decide))
   ·split
    ·rename_i h;subst h
     exact if_neg (fun hh=>hn (by rw [hh.1];decide))
    ·rfl
theorem ask_needs {C:Con} {w:ByteArray} {l:List Int} (hn: ¬(l.length:Int)=needs w):askR C w l=none:=by
 unfold askR
 split
 ·rename_i h;subst h
  exact if_neg (fun hh=>hn (by rw [hh.1];decide))
 ·split
  ·rename_i h;subst h
   exact if_neg (fun hh=>hn (by rw [hh.1];decide))
  ·split
   ·rename_i h;subst h
    exact if_neg (fun hh=>hn (by rw [hh];decide))
   ·split
    ·rename_i h;subst h
     exact if_neg (fun hh=>hn (by rw [hh.1];decide))
    ·split
     ·rename_i h;subst h
      exact if_neg (fun hh=>hn (by rw [hh.1];decide))
     ·split
      ·rename_i h;subst h
       exact if_neg (fun hh=>hn (by rw [hh.1];decide))
      ·rfl
theorem needs_cmd {w:ByteArray} (h:0<=needs w) (hw: ¬isEdit w):isAsk w:=by
 unfold needs at h
 simp only [isEdit,not_or] at hw
 obtain ⟨h0,h1,h2,h3,h4⟩:=hw
 unfold isAsk
 by_cases a:w=w_dry
 ·exact .inl a
 by_cases b:w=w_bridges
 ·exact .inr (.inl b)
 by_cases c:w=w_burst
 ·exact .inr (.inr (.inl c))
 by_cases d:w=w_segment
 ·exact .inr (.inr (.inr (.inl d)))
 by_cases e:w=w_around
 ·exact .inr (.inr (.inr (.inr (.inl e))))
 by_cases f:w=w_way
 ·exact .inr (.inr (.inr (.inr (.inr f))))
 simp only [a,b,c,d,e,f,h0,h1,h2,h3,h4,or_self,if_false] at h
 exact absurd h (by decide)
def ExR (lo:Nat) (H:Heap) (C:Con) (s:ByteArray) (wP wV:Value) (E:Con) (xP xV:Value) (T:ByteArray) (b:Bool):Prop:=
 (b=true->E=runC C s∧T=runT C s∧((xP=wP∧xV=wV∧E.P=C.P∧E.V=C.V)∨ConQ lo H.length H E xP xV))∧(b=false->runT C s=w_no∧runC C s=C)
theorem ExR.no {lo:Nat} {H:Heap} {C:Con} {s:ByteArray} {wP wV:Value} {E:Con} {xP xV:Value} {T:ByteArray} (h1:runT C s=w_no) (h2:runC C s=C):ExR lo H C s wP wV E xP xV T false:=
 ⟨fun h=>(by cases h),fun _=>⟨h1,h2⟩⟩
theorem ConQ.v2r {h u t2 t3 v:Heap} {a b a' b':Blk} {hi hi':Nat} {c:Con} {wP wV:Value} (s:ConQ (h++a::b::(u++t2)).length hi (h++a::b::(u++t2)++t3) c wP wV) (h2:hi<=hi'):ConQ h.length hi' (h++a'::b'::(u++(t2++(t3++v)))) c wP wV:=by
 obtain ⟨p,q,x,y,hh,f1,f2⟩:=s.p
 have e:h++a'::b'::(u++t2++t3)++v=h++a'::b'::(u++(t2++(t3++v))):=by simp
 have m1:=(f1.v2r (a':=a') (b':=b') hh.1).mono (List.prefix_append _ v)
 have m2:=(f2.v2r (a':=a') (b':=b') hh.2.2.1).mono (List.prefix_append _ v)
 rw [e] at m1 m2
 refine ⟨p,q,x,y, ?_,m1,m2⟩
 have:h.length<=(h++a::b::(u++t2)).length:=by simp
 omega
section
variable {G : List (Nat × Nat)} {h : Heap} {M : Nat → Prop}
set_option maxRecDepth 4000 in
theorem c_execute {n:Nat} (pw:PowAt G h) (er:ErrAt G h) (C:Con) (s:ByteArray) (wP wV:Value) (sP:SB n 4 h wP (C.P.map pip)) (sV:Sl h 4 wV (C.V.map vlv)) (es:EszC h 4 wV) (g:conOk C) (hs:s.size<=10000) :
  vCall G Tryz.prog M 56 [conV C wP wV, .string s] h (fun r h'=>(∃E xP xV T b,r = .tuple #[conV E xP xV, .string T, .bool b]∧(oneC xP=true∧oneC xV=true)∧ExR h.length h' C s wP wV E xP xV T b)∧h<+:h'):=by
 obtain ⟨w,r,ew⟩:=wds_cons s
 have hwl:=wds_len s
 have o0:oneC wP=true:=by obtain ⟨a,e,_⟩:=sP.1;rw [e];rfl
 have o0v:oneC wV=true:=by obtain ⟨a,e,_⟩:=sV;rw [e];rfl
 obtain ⟨N,P,V,src,D,Q,cnt⟩:=C
 simp only at sP sV es
 refine body_ofR ([(22,[])]) mo Tryz.func56 rfl (by kernel_rfl) (Nat.le_of_ble_eq_true (by kernel_rfl)) rfl ?_
 simp only [go_sem,conV,o0,o0v]
 refine ⟨by kernel_rfl,((c_SplitB 32 s (by omega)).addG).use (fun _ m=>m) ?_⟩
 rintro _ _ ⟨t,j,rfl,rfl,hj⟩
 have hj':t[j]? = some ⟨strsV (wds s),1, .rw⟩:=hj
 have ewl:(splitL (bl s) 32).length=(wds s).length:=rfl
 have hwp:0<(wds s).length:=hwl.1
 have hG0: ∀a b:Blk,hget (h++a::b::t) (h.length+2+j)=some ⟨strsV (wds s),1, .rw⟩:=fun a b=>by
  rw [show h.length+2+j=h.length+(j+1+1) by omega,hget_app]
  exact hj'
 have hG1: ∀(a b:Blk) (u:Heap),hget (h++a::b::(t++u)) (h.length+2+j)=some ⟨strsV (wds s),1, .rw⟩:=fun a b u=>by
  rw [show h.length+2+j=h.length+(j+1+1) by omega,hget_app]
  simp only [List.getElem?_cons_succ]
  rw [List.getElem?_append_left (List.getElem?_eq_some_iff.1 hj').1]
  exact hj'
 have hsz: ∀x∈(wds s).tail,(mkB x).size<=10000000:=fun x hx=>Nat.le_trans (wds_le (List.mem_of_mem_tail hx)) (by omega)
 simp only [go_sem,ewl,o0,o0v,onSl_more hwp,hG0,hG1,hwl.1,strsV_len,show (1:Int)<=(wds s).length by omega]
 have hK:(wds s).length-1=(wds s).tail.length:=by rw [List.length_tail]
 have hK2:(wds s).length=(wds s).tail.length+1:=by omega
 have gw: ∀(i:Nat) (hi:i<(wds s).tail.length),(strsV (wds s))[1+i]? = some (.string (mkB (wds s).tail[i])):=fun i hi=>by
  rw [strsV,List.getElem?_map,Nat.add_comm 1 i,List.getElem?_eq_getElem (by omega),Option.map_some]
  simp only [List.getElem_tail]
 have g0:(strsV (wds s))[0]? = some (.string (wd0 s)):=by
  rw [wd0,ew];rfl
 have z0:(0:Int)<(wds s).length:=by omega
 have bad1: ∀(lo:Nat) (H:Heap) (E:Con) (xP xV:Value) (T:ByteArray),¬numsOk (wds s).tail->ExR lo H ⟨N,P,V,src,D,Q,cnt⟩ s wP wV E xP xV T false:=fun lo H E xP xV T hn=>
  .no (by rw [runT,if_neg hn]) (by rw [runC,if_neg (fun hh=>hn hh.1)])
 rw [hK]
 refine vLoopR.count mo (wds s).tail.length (fun i e h'=> ∃(u:Heap) (q:Nat),Regs e [(2, .pointer (some ⟨h.length,0,none⟩)),(4, .pointer (some ⟨h.length+1,0,none⟩)),(7, .slice (some ⟨h.length+2+j,0,none⟩) (wds s).length 0),(8, .slice (some ⟨h.length+(q+1+1),0,none⟩) i 0),(22, .slice (some ⟨h.length+2+j,1,none⟩) (wds s).tail.length 0),(23, .int .i64 (wds s).tail.length),(24, .int .i64 i)] ∧
  HeapIs h' (h++⟨[.int .i64 N,wP,wV, .int .i64 src, .string D, .string Q, .int .i64 cnt],7, .rw⟩::⟨[.int .i64 0, .slice none 0 0, .slice none 0 0, .int .i64 0, .string ⟨#[]⟩, .string ⟨#[]⟩, .int .i64 0],7, .rw⟩::u)∧u[j]? = some ⟨strsV (wds s),1, .rw⟩∧u[q]? = some ⟨(numsL ((wds s).tail.take i)).map iv,1, .rw⟩∧j≠q∧∀(m:Nat) (hm:m<(wds s).tail.length),m<i->rdOk (mkB (wds s).tail[m])) ?_ ?_
 ·have hjl:=(List.getElem?_eq_some_iff.1 hj').1
  refine ⟨_,t.length,⟨rfl,rfl,rfl,rfl,rfl,rfl,rfl,trivial⟩, .rfl, ?_, ?_,by omega,fun m _ hm=>absurd hm (by omega)⟩
  ·rw [List.getElem?_append_left hjl];exact hj'
  ·rw [List.getElem?_append_right (by omega),Nat.sub_self];rfl
 ·clear hG0 hG1 hj hj'
  rintro i e _ hi ⟨u,q,⟨e2,e4,e7,e8,e22,e23,e24,_⟩,rfl,hj,hq,hjq,hlo⟩
  have hG: ∀(a b:Blk),hget (h++a::b::u) (h.length+2+j)=some ⟨strsV (wds s),1, .rw⟩:=fun a b=>by
   rw [show h.length+2+j=h.length+(j+1+1) by omega,hget_app]
   exact hj
  have hlen:=numsL_len (ws:=(wds s).tail) (i:=i) (by omega)
  have hjl:=(List.getElem?_eq_some_iff.1 hj).1
  have hql:=(List.getElem?_eq_some_iff.1 hq).1
  by_cases hlt:i<(wds s).tail.length
  ·have wi:=wsucc hlt (by omega)
   have hz:(i:Int)<(wds s).tail.length:=by omega
   simp only [go_sem,e2,e4,e7,e8,e22,e23,e24,hz,hG,gw i hlt]
   refine ⟨by kernel_rfl,(c_ParseInt (pw.mono (by simp)) (er.mono (by simp)) (mkB (wds s).tail[i]) (hsz _ (List.getElem_mem _))).use (fun _ m=>m) ?_⟩
   rintro _ _ ⟨rfl,⟨t2,rfl⟩⟩
   by_cases c:rdOk (mkB (wds s).tail[i])
   ·simp only [go_sem,e2,e4,e7,e8,e22,e23,e24,decb c,app_old hq,List.length_map,hlen]
    refine ⟨by omega,by omega,hlt,_,u.length+(t2.length+1),⟨e2,e4,e7,rfl,e22,e23,congrArg _ wi,trivial⟩, .rfl, ?_, ?_,by omega, ?_⟩
    ·rw [List.getElem?_append_left (by simp;omega),List.getElem?_set_ne (by omega)];exact app_old hj _
    ·rw [numsL_take hlt,List.map_append]
     exact (List.getElem?_append_right (by simp)).trans (by simp [iv])
    ·intro m hm hmi
     by_cases h2:m<i
     ·exact hlo m hm h2
     ·obtain rfl:m=i:=by omega
      exact c
   ·have nok: ¬numsOk (wds s).tail:=fun hh=>c (hh _ (List.getElem_mem _))
    simp only [go_sem,e2,e4,e7,e8,e22,e23,e24,dect c,o0,o0v]
    exact ⟨⟨N,P,V,src,D,Q,cnt⟩,wP,wV,_,_,rfl,⟨o0,o0v⟩,bad1 _ _ _ _ _ _ nok⟩
  ·obtain rfl:i=(wds s).tail.length:=by omega
   have ok:numsOk (wds s).tail:=fun w hw=>by
    obtain ⟨m,hm,rfl⟩:=List.mem_iff_getElem.1 hw
    exact hlo m hm hm
   rw [List.take_length] at hq
   simp only [go_sem,e2,e4,e7,e8,e22,e23,e24,show ¬(((wds s).tail.length:Nat):Int)<(wds s).tail.length by omega,hG,g0,z0]
   refine ⟨by kernel_rfl,((c_numbersNeeded (wd0 s)).addG).use (fun _ m=>m) ?_⟩
   rintro _ _ ⟨rfl,⟨t2,rfl⟩⟩
   have hlw:((numsL (wds s).tail).length:Int)=(wds s).tail.length:=by rw [numsL,List.length_map]
   by_cases hn:((wds s).tail.length:Int)=needs (wd0 s)
   case neg=>
    have hn': ¬((numsL (wds s).tail).length:Int)=needs (wd0 s):=by rw [hlw];exact hn
    have e1:=edit_needs (C:=⟨N,P,V,src,D,Q,cnt⟩) hn'
    have e2':=ask_needs (C:=⟨N,P,V,src,D,Q,cnt⟩) hn'
    have x1:runT ⟨N,P,V,src,D,Q,cnt⟩ s=w_no:=by
     rw [runT,if_pos ok,editT,askT,e1,e2']
     split<;>rfl
    have x2:runC ⟨N,P,V,src,D,Q,cnt⟩ s=⟨N,P,V,src,D,Q,cnt⟩:=by
     unfold runC
     split
     ·rw [e1];rfl
     ·rfl
    simp only [go_sem,e2,e4,e7,e8,e22,e23,e24,show (((wds s).tail.length:Int) != needs (wd0 s))=true by simpa using hn,o0,o0v]
    exact ⟨⟨N,P,V,src,D,Q,cnt⟩,wP,wV,_,_,rfl,⟨o0,o0v⟩, .no x1 x2⟩
   have hn':((numsL (wds s).tail).length:Int)=needs (wd0 s):=by rw [hlw];exact hn
   have nb:(((wds s).tail.length:Int) != needs (wd0 s))=false:=by rw [hn];exact bne_self_eq_false _
   have slx: ∀(a b:Blk) (v:Heap),SI (h++a::b::(u++v)) (.slice (some ⟨h.length+(q+1+1),0,none⟩) (wds s).tail.length 0) (numsL (wds s).tail):=fun a b v=>
    FI.si (lo:=0) (hi:=(h++a::b::(u++v)).length) (FI.at' (by rw [numsL,List.length_map]) (by omega) (by simp;omega) (by rw [hget_app];simp only [List.getElem?_cons_succ];exact app_old hq _)) (Nat.le_refl _)
   by_cases hw:isEdit (wd0 s)
   ·have er1:runT ⟨N,P,V,src,D,Q,cnt⟩ s=editT ⟨N,P,V,src,D,Q,cnt⟩ (wd0 s) (numsL (wds s).tail):=by rw [runT,if_pos ok,if_pos hw]
    have ec1:runC ⟨N,P,V,src,D,Q,cnt⟩ s=(editR ⟨N,P,V,src,D,Q,cnt⟩ (wd0 s) (numsL (wds s).tail)).getD ⟨N,P,V,src,D,Q,cnt⟩:=by rw [runC,if_pos ⟨ok,hw⟩]
    rcases id hw with hy|hy|hy|hy|hy
    ·simp only [go_sem,e2,e4,e7,e8,e22,e23,e24,nb,decb hy,toList_eq,o0,o0v]
     refine ⟨by kernel_rfl,((c_change ⟨N,P,V,src,D,Q,cnt⟩ (wd0 s) wP wV _ _ (sP.mono (by simp)) (sV.mono (by simp)) (es.mono (by simp)) g (slx _ _ _) hw hn').addG).use (fun _ m=>m) ?_⟩
     rintro _ _ ⟨⟨E,xP,xV,rfl,⟨o1,o2⟩,hE⟩,⟨t3,rfl⟩⟩
     simp only [go_sem,e2,e4,e7,e8,e22,e23,e24,conV,o1,o2]
     cases hc:editR ⟨N,P,V,src,D,Q,cnt⟩ (wd0 s) (numsL (wds s).tail) with
     | some E'=>
      obtain ⟨rfl,hq2⟩:=hE E' hc
      have x1:runT ⟨N,P,V,src,D,Q,cnt⟩ s=w_ok:=by rw [er1,editT,hc];rfl
      have x2:runC ⟨N,P,V,src,D,Q,cnt⟩ s=E:=by rw [ec1,hc];rfl
      refine ⟨E,xP,xV,_,true,rfl,⟨o1,o2⟩,fun _=>⟨x2.symm,x1.symm, .inr (hq2.v2r ?_)⟩,fun hh=>(by cases hh)⟩
      simp
     | none=>
      have x1:runT ⟨N,P,V,src,D,Q,cnt⟩ s=w_no:=by rw [er1,editT,hc];rfl
      have x2:runC ⟨N,P,V,src,D,Q,cnt⟩ s=⟨N,P,V,src,D,Q,cnt⟩:=by rw [ec1,hc];rfl
      exact ⟨E,xP,xV,_,false,rfl,⟨o1,o2⟩, .no x1 x2⟩
    ·have n0: ¬wd0 s=w_pipe:=by rw [hy];decide
     simp only [go_sem,e2,e4,e7,e8,e22,e23,e24,nb,dect n0,decb hy,toList_eq,o0,o0v]
     refine ⟨by kernel_rfl,((c_change ⟨N,P,V,src,D,Q,cnt⟩ (wd0 s) wP wV _ _ (sP.mono (by simp)) (sV.mono (by simp)) (es.mono (by simp)) g (slx _ _ _) hw hn').addG).use (fun _ m=>m) ?_⟩
     rintro _ _ ⟨⟨E,xP,xV,rfl,⟨o1,o2⟩,hE⟩,⟨t3,rfl⟩⟩
     simp only [go_sem,e2,e4,e7,e8,e22,e23,e24,conV,o1,o2]
     cases hc:editR ⟨N,P,V,src,D,Q,cnt⟩ (wd0 s) (numsL (wds s).tail) with
     | some E'=>
      obtain ⟨rfl,hq2⟩:=hE E' hc
      have x1:runT ⟨N,P,V,src,D,Q,cnt⟩ s=w_ok:=by rw [er1,editT,hc];rfl
      have x2:runC ⟨N,P,V,src,D,Q,cnt⟩ s=E:=by rw [ec1,hc];rfl
      refine ⟨E,xP,xV,_,true,rfl,⟨o1,o2⟩,fun _=>⟨x2.symm,x1.symm, .inr (hq2.v2r ?_)⟩,fun hh=>(by cases hh)⟩
      simp
     | none=>
      have x1:runT ⟨N,P,V,src,D,Q,cnt⟩ s=w_no:=by rw [er1,editT,hc];rfl
      have x2:runC ⟨N,P,V,src,D,Q,cnt⟩ s=⟨N,P,V,src,D,Q,cnt⟩:=by rw [ec1,hc];rfl
      exact ⟨E,xP,xV,_,false,rfl,⟨o1,o2⟩, .no x1 x2⟩
    ·have n0: ¬wd0 s=w_pipe:=by rw [hy];decide
     have n1: ¬wd0 s=w_valve:=by rw [hy];decide
     simp only [go_sem,e2,e4,e7,e8,e22,e23,e24,nb,dect n0,dect n1,decb hy,toList_eq,o0,o0v]
     refine ⟨by kernel_rfl,((c_change ⟨N,P,V,src,D,Q,cnt⟩ (wd0 s) wP wV _ _ (sP.mono (by simp)) (sV.mono (by simp)) (es.mono (by simp)) g (slx _ _ _) hw hn').addG).use (fun _ m=>m) ?_⟩
     rintro _ _ ⟨⟨E,xP,xV,rfl,⟨o1,o2⟩,hE⟩,⟨t3,rfl⟩⟩
     simp only [go_sem,e2,e4,e7,e8,e22,e23,e24,conV,o1,o2]
     cases hc:editR ⟨N,P,V,src,D,Q,cnt⟩ (wd0 s) (numsL (wds s).tail) with
     | some E'=>
      obtain ⟨rfl,hq2⟩:=hE E' hc
      have x1:runT ⟨N,P,V,src,D,Q,cnt⟩ s=w_ok:=by rw [er1,editT,hc];rfl
      have x2:runC ⟨N,P,V,src,D,Q,cnt⟩ s=E:=by rw [ec1,hc];rfl
      refine ⟨E,xP,xV,_,true,rfl,⟨o1,o2⟩,fun _=>⟨x2.symm,x1.symm, .inr (hq2.v2r ?_)⟩,fun hh=>(by cases hh)⟩
      simp
     | none=>
      have x1:runT ⟨N,P,V,src,D,Q,cnt⟩ s=w_no:=by rw [er1,editT,hc];rfl
      have x2:runC ⟨N,P,V,src,D,Q,cnt⟩ s=⟨N,P,V,src,D,Q,cnt⟩:=by rw [ec1,hc];rfl
      exact ⟨E,xP,xV,_,false,rfl,⟨o1,o2⟩, .no x1 x2⟩
    ·have n0: ¬wd0 s=w_pipe:=by rw [hy];decide
     have n1: ¬wd0 s=w_valve:=by rw [hy];decide
     have n2: ¬wd0 s=w_shut:=by rw [hy];decide
     simp only [go_sem,e2,e4,e7,e8,e22,e23,e24,nb,dect n0,dect n1,dect n2,decb hy,toList_eq,o0,o0v]
     refine ⟨by kernel_rfl,((c_change ⟨N,P,V,src,D,Q,cnt⟩ (wd0 s) wP wV _ _ (sP.mono (by simp)) (sV.mono (by simp)) (es.mono (by simp)) g (slx _ _ _) hw hn').addG).use (fun _ m=>m) ?_⟩
     rintro _ _ ⟨⟨E,xP,xV,rfl,⟨o1,o2⟩,hE⟩,⟨t3,rfl⟩⟩
     simp only [go_sem,e2,e4,e7,e8,e22,e23,e24,conV,o1,o2]
     cases hc:editR ⟨N,P,V,src,D,Q,cnt⟩ (wd0 s) (numsL (wds s).tail) with
     | some E'=>
      obtain ⟨rfl,hq2⟩:=hE E' hc
      have x1:runT ⟨N,P,V,src,D,Q,cnt⟩ s=w_ok:=by rw [er1,editT,hc];rfl
      have x2:runC ⟨N,P,V,src,D,Q,cnt⟩ s=E:=by rw [ec1,hc];rfl
      refine ⟨E,xP,xV,_,true,rfl,⟨o1,o2⟩,fun _=>⟨x2.symm,x1.symm, .inr (hq2.v2r ?_)⟩,fun hh=>(by cases hh)⟩
      simp
     | none=>
      have x1:runT ⟨N,P,V,src,D,Q,cnt⟩ s=w_no:=by rw [er1,editT,hc];rfl
      have x2:runC ⟨N,P,V,src,D,Q,cnt⟩ s=⟨N,P,V,src,D,Q,cnt⟩:=by rw [ec1,hc];rfl
      exact ⟨E,xP,xV,_,false,rfl,⟨o1,o2⟩, .no x1 x2⟩
    ·have n0: ¬wd0 s=w_pipe:=by rw [hy];decide
     have n1: ¬wd0 s=w_valve:=by rw [hy];decide
     have n2: ¬wd0 s=w_shut:=by rw [hy];decide
     have n3: ¬wd0 s=w_open:=by rw [hy];decide
     simp only [go_sem,e2,e4,e7,e8,e22,e23,e24,nb,dect n0,dect n1,dect n2,dect n3,decb hy,toList_eq,o0,o0v]
     refine ⟨by kernel_rfl,((c_change ⟨N,P,V,src,D,Q,cnt⟩ (wd0 s) wP wV _ _ (sP.mono (by simp)) (sV.mono (by simp)) (es.mono (by simp)) g (slx _ _ _) hw hn').addG).use (fun _ m=>m) ?_⟩
     rintro _ _ ⟨⟨E,xP,xV,rfl,⟨o1,o2⟩,hE⟩,⟨t3,rfl⟩⟩
     simp only [go_sem,e2,e4,e7,e8,e22,e23,e24,conV,o1,o2]
     cases hc:editR ⟨N,P,V,src,D,Q,cnt⟩ (wd0 s) (numsL (wds s).tail) with
     | some E'=>
      obtain ⟨rfl,hq2⟩:=hE E' hc
      have x1:runT ⟨N,P,V,src,D,Q,cnt⟩ s=w_ok:=by rw [er1,editT,hc];rfl
      have x2:runC ⟨N,P,V,src,D,Q,cnt⟩ s=E:=by rw [ec1,hc];rfl
      refine ⟨E,xP,xV,_,true,rfl,⟨o1,o2⟩,fun _=>⟨x2.symm,x1.symm, .inr (hq2.v2r ?_)⟩,fun hh=>(by cases hh)⟩
      simp
     | none=>
      have x1:runT ⟨N,P,V,src,D,Q,cnt⟩ s=w_no:=by rw [er1,editT,hc];rfl
      have x2:runC ⟨N,P,V,src,D,Q,cnt⟩ s=⟨N,P,V,src,D,Q,cnt⟩:=by rw [ec1,hc];rfl
      exact ⟨E,xP,xV,_,false,rfl,⟨o1,o2⟩, .no x1 x2⟩
   ·have ha:isAsk (wd0 s):=needs_cmd (by rw [←hn];omega) hw
    have er1:runT ⟨N,P,V,src,D,Q,cnt⟩ s=askT ⟨N,P,V,src,D,Q,cnt⟩ (wd0 s) (numsL (wds s).tail):=by rw [runT,if_pos ok,if_neg hw]
    have ec1:runC ⟨N,P,V,src,D,Q,cnt⟩ s=⟨N,P,V,src,D,Q,cnt⟩:=by rw [runC,if_neg (fun hh=>hw hh.2)]
    have hw':=hw
    simp only [isEdit,not_or] at hw'
    obtain ⟨n0,n1,n2,n3,n4⟩:=hw'
    simp only [go_sem,e2,e4,e7,e8,e22,e23,e24,nb,dect n0,dect n1,dect n2,dect n3,dect n4,toList_eq,o0,o0v]
    refine ⟨by kernel_rfl,((c_answer ⟨N,P,V,src,D,Q,cnt⟩ (wd0 s) wP wV _ _ (sP.mono (by simp)) (sV.mono (by simp)) (es.mono (by simp)) g (slx _ _ _) ha hn').addG).use (fun _ m=>m) ?_⟩
    rintro _ _ ⟨⟨x,rfl,sx⟩,⟨t3,rfl⟩⟩
    have sB:Sht ((askR ⟨N,P,V,src,D,Q,cnt⟩ (wd0 s) (numsL (wds s).tail)).getD []):=by
     cases hc:askR ⟨N,P,V,src,D,Q,cnt⟩ (wd0 s) (numsL (wds s).tail) with
     | some L=>exact askB g hc
     | none=>exact .nil
    simp only [go_sem,e2,e4,e7,e8,e22,e23,e24,o0,o0v]
    refine ⟨by kernel_rfl,((c_listText x _ (by first|exact sx|simpa using sx) sB.1 sB.2).addG).use (fun _ m=>m) ?_⟩
    rintro _ _ ⟨rfl,⟨t4,rfl⟩⟩
    simp only [go_sem,e2,e4,e7,e8,e22,e23,e24,o0,o0v]
    cases hc:askR ⟨N,P,V,src,D,Q,cnt⟩ (wd0 s) (numsL (wds s).tail) with
    | some L=>
     have e1:runT ⟨N,P,V,src,D,Q,cnt⟩ s=listS L:=by rw [er1,askT,hc]
     exact ⟨⟨N,P,V,src,D,Q,cnt⟩,wP,wV,_,true,rfl,⟨o0,o0v⟩,fun _=>⟨ec1.symm,e1.symm, .inl ⟨rfl,rfl,rfl,rfl⟩⟩,fun hh=>(by cases hh)⟩
    | none=>
     have e1:runT ⟨N,P,V,src,D,Q,cnt⟩ s=w_no:=by rw [er1,askT,hc]
     exact ⟨⟨N,P,V,src,D,Q,cnt⟩,wP,wV,_,false,rfl,⟨o0,o0v⟩, .no e1 ec1⟩
end
open Go.HH Go.Proofs
theorem ConQ.mvg {X X' T S:Heap} {hi hi' lo':Nat} {c E:Con} {wP wV:Value} (s:ConQ X.length hi (X++T) c wP wV) (hl:X'.length=X.length) (hlo:lo'<=X.length) (h2:hi<=hi') (eP:E.P=c.P) (eV:E.V=c.V):ConQ lo' hi' (X'++T++S) E wP wV:=by
 have mv: ∀ {lo hi:Nat} {v:Value} {rows:List (List Value)},FQs lo hi 4 (X++T) v rows->X.length<=lo->FQs lo hi 4 (X'++T++S) v rows:=fun s h=>by
  have s':FQs _ _ 4 ([]++X++T) _ _:=s
  have:=(s'.swapped (y:=X') (by simpa using h) hl (Nat.le_refl _) (Nat.le_refl _)).mono (List.prefix_append _ S)
  simpa using this
 obtain ⟨p,q,x,y,hh,f1,f2⟩:=s.p
 refine ⟨p,q,x,y,by omega,by rw [eP];exact mv f1 hh.1,by rw [eV];exact mv f2 hh.2.2.1⟩
theorem ConQ.w1 {h t u:Heap} {a b a' b':Blk} {hi hi':Nat} {c:Con} {wP wV:Value} (s:ConQ (h++a::b::t).length hi (h++a::b::t++u) c wP wV) (h2:hi<=hi'):ConQ h.length hi' (h++a'::b'::(t++u)) c wP wV:=by
 have:=s.mvg (X':=h++a'::b'::t) (S:= []) (lo':=h.length) (by simp) (by simp) h2 rfl rfl
 simpa using this
theorem ConQ.w2 {h t t3 t2:Heap} {a b a' b':Blk} {hi hi':Nat} {c:Con} {wP wV:Value} (s:ConQ (h++a::b::(t++t3)).length hi (h++a::b::(t++t3)++t2) c wP wV) (h2:hi<=hi'):ConQ h.length hi' (h++a'::b'::(t++(t3++t2))) c wP wV:=by
 have:=s.mvg (X':=h++a'::b'::(t++t3)) (S:= []) (lo':=h.length) (by simp) (by simp) h2 rfl rfl
 simpa using this
theorem ConQ.w3 {h t t3 t2 v:Heap} {a b a' b':Blk} {hi hi':Nat} {c E:Con} {wP wV:Value} (s:ConQ (h++a::b::(t++t3)).length hi (h++a::b::(t++t3)++t2) c wP wV) (h2:hi<=hi') (eP:E.P=c.P) (eV:E.V=c.V):ConQ h.length hi' (h++a'::b'::(t++(t3++(t2++v)))) E wP wV:=by
 have:=s.mvg (X':=h++a'::b'::(t++t3)) (S:=v) (lo':=h.length) (by simp) (by simp) h2 eP eV
 simpa using this
theorem ConQ.w4 {h t t3 t2 t4 v:Heap} {a b d a' b' d':Blk} {hi hi':Nat} {c E:Con} {wP wV:Value} (s:ConQ (h++a::b::(t++(t3++(t2++ [d])))).length hi (h++a::b::(t++(t3++(t2++ [d])))++t4) c wP wV) (h2:hi<=hi') (eP:E.P=c.P) (eV:E.V=c.V):ConQ h.length hi' (h++a'::b'::(t++(t3++(t2++d'::(t4++v))))) E wP wV:=by
 have:=s.mvg (X':=h++a'::b'::(t++(t3++(t2++ [d'])))) (S:=v) (lo':=h.length) (by simp) (by simp) h2 eP eV
 simpa using this
section
variable {G : List (Nat × Nat)} {h : Heap} {M : Nat → Prop}
set_option maxRecDepth 4000 in
theorem c_ExecuteCommand {n:Nat} (pw:PowAt G h) (er:ErrAt G h) (C:Con) (s:ByteArray) (wP wV:Value) (sc:ConS n h C wP wV) (es:EszC h 4 wV) (hc:conSmall C) (hs:s.size<=9223372036854775806) :
  vCall G Tryz.prog M 18 [conV C wP wV, .string s] h (fun r h'=>(∃E xP xV,r = .tuple #[conV E xP xV, .string (execT C s)]∧E=execC C s∧ConQ h.length h'.length h' E xP xV)∧h<+:h'):=by
 obtain ⟨N,P,V,src,D,Q,cnt⟩:=C
 have sP:=sc.p
 have sV:=sc.v
 have o0:oneC wP=true:=by obtain ⟨a,e,_⟩:=sP.1;rw [e];rfl
 have o0v:oneC wV=true:=by obtain ⟨a,e,_⟩:=sV.1;rw [e];rfl
 refine body_of mo Tryz.func18 rfl (by kernel_rfl) (Nat.le_of_ble_eq_true (by kernel_rfl)) rfl ?_
 simp only [go_sem,conV,o0,o0v]
 refine ⟨by kernel_rfl,(c_IsValidConsole (pw.mono (by simp)) ⟨N,P,V,src,D,Q,cnt⟩ wP wV (sc.mono (by simp)) (es.mono (by simp)) hc).use (fun _ m=>m) ?_⟩
 rintro _ _ ⟨rfl,⟨t,rfl⟩⟩
 by_cases g:conOk ⟨N,P,V,src,D,Q,cnt⟩
 case neg=>
  simp only [go_sem,conV,dect g,o0,o0v]
  refine ⟨by kernel_rfl,((c_newConsoleX ⟨N,P,V,src,D,Q,cnt⟩ wP wV (sP.1.mono (by simp)) (sV.1.mono (by simp)) hc.1 hc.2.1).addG).use (fun _ m=>m) ?_⟩
  rintro _ _ ⟨⟨yP,yV,rfl,q0,_⟩,⟨t2,rfl⟩⟩
  obtain ⟨o1,o2⟩:=q0.one
  simp only [go_sem,conV,o1,o2]
  refine ⟨⟨N,P,V,src,D,Q,cnt⟩,yP,yV,by rw [execT,if_neg g],by rw [execC,if_neg (fun hh=>g hh.1)], ?_⟩
  refine q0.w1 ?_
  simp;try omega
 simp only [go_sem,conV,decb g,o0,o0v]
 refine ⟨by kernel_rfl,((c_IsValidRecord s ⟨#[]⟩ hs (by decide)).addG).use (fun _ m=>m) ?_⟩
 rintro _ _ ⟨rfl,⟨t3,rfl⟩⟩
 cases g2:recOk s ⟨#[]⟩
 case false=>
  have g2': ¬recOk s ⟨#[]⟩=true:=by rw [g2];decide
  simp only [go_sem,conV,g2,o0,o0v]
  refine ⟨by kernel_rfl,((c_newConsoleX ⟨N,P,V,src,D,Q,cnt⟩ wP wV (sP.1.mono (by simp)) (sV.1.mono (by simp)) hc.1 hc.2.1).addG).use (fun _ m=>m) ?_⟩
  rintro _ _ ⟨⟨yP,yV,rfl,q0,_⟩,⟨t2,rfl⟩⟩
  obtain ⟨o1,o2⟩:=q0.one
  simp only [go_sem,conV,o1,o2]
  refine ⟨⟨N,P,V,src,D,Q,cnt⟩,yP,yV,by rw [execT,if_pos g,if_neg g2'],by rw [execC,if_neg (fun hh=>g2' hh.2.1)], ?_⟩
  refine q0.w2 ?_
  simp;try omega
 have hs2:s.size<=10000:=by
  rw [recOk] at g2
  simp only [Bool.and_eq_true,decide_eq_true_eq] at g2
  omega
 simp only [go_sem,conV,g2,o0,o0v]
 by_cases g3:cnt=60
 case pos=>
  simp only [go_sem,conV,show (cnt==60)=true by rw [g3];rfl,o0,o0v]
  refine ⟨by kernel_rfl,((c_newConsoleX ⟨N,P,V,src,D,Q,cnt⟩ wP wV (sP.1.mono (by simp)) (sV.1.mono (by simp)) hc.1 hc.2.1).addG).use (fun _ m=>m) ?_⟩
  rintro _ _ ⟨⟨yP,yV,rfl,q0,_⟩,⟨t2,rfl⟩⟩
  obtain ⟨o1,o2⟩:=q0.one
  simp only [go_sem,conV,o1,o2]
  refine ⟨⟨N,P,V,src,D,Q,cnt⟩,yP,yV,by rw [execT,if_pos g,if_pos g2,if_pos g3],by rw [execC,if_neg (fun hh=>hh.2.2 g3)], ?_⟩
  refine q0.w2 ?_
  simp;try omega
 simp only [go_sem,conV,show (cnt==60)=false by rw [beq_eq_false_iff_ne];exact g3,o0,o0v]
 refine ⟨by kernel_rfl,((c_newConsoleX ⟨N,P,V,src,D,Q,cnt⟩ wP wV (sP.1.mono (by simp)) (sV.1.mono (by simp)) hc.1 hc.2.1).addG).use (fun _ m=>m) ?_⟩
 rintro _ _ ⟨⟨yP,yV,rfl,q0,_⟩,⟨t2,rfl⟩⟩
 obtain ⟨o1,o2⟩:=q0.one
 simp only [go_sem,conV,o1,o2]
 refine ⟨by kernel_rfl,(c_execute (pw.mono (by simp)) (er.mono (by simp)) ⟨N,P,V,src,D,Q,cnt⟩ s yP yV (q0.s.p.mono (by simp)) (q0.s.v.1.mono (by simp)) (q0.esz.2.mono (by simp)) g hs2).use (fun _ m=>m) ?_⟩
 rintro _ _ ⟨⟨E,xP,xV,T,b,rfl,⟨u1,u2⟩,hE⟩,⟨t4,rfl⟩⟩
 have er1:execT ⟨N,P,V,src,D,Q,cnt⟩ s=repT ⟨N,P,V,src,D,Q,cnt⟩ s:=by rw [execT,if_pos g,if_pos g2,if_neg g3]
 have ec:execC ⟨N,P,V,src,D,Q,cnt⟩ s= {runC ⟨N,P,V,src,D,Q,cnt⟩ s with D:=(appL D Q cnt s (repT ⟨N,P,V,src,D,Q,cnt⟩ s)).1,Q:=(appL D Q cnt s (repT ⟨N,P,V,src,D,Q,cnt⟩ s)).2.1,cnt:=(appL D Q cnt s (repT ⟨N,P,V,src,D,Q,cnt⟩ s)).2.2}:=by rw [execC,if_pos ⟨g,g2,g3⟩]
 rw [er1,ec]
 cases b with
 | false=>
  obtain ⟨x1,x2⟩:=hE.2 rfl
  have e4:repT ⟨N,P,V,src,D,Q,cnt⟩ s=w_no:=by rw [repT,x1];rfl
  rw [e4,x2]
  simp only [go_sem,conV,u1,u2,o1,o2]
  refine ⟨by kernel_rfl,(c_AppendRecord (pw.mono (by simp)) D Q cnt s w_no (by have:=hc.2.2;simp only at this;omega) hs (by decide)).use (fun _ m=>m) ?_⟩
  rintro _ _ ⟨rfl,⟨t6,rfl⟩⟩
  rw [appV_eq]
  generalize appL D Q cnt s w_no=L
  generalize appK D Q cnt s w_no=K
  obtain ⟨D',Q',n'⟩:=L
  simp only [go_sem,conV,o1,o2]
  refine ⟨_,yP,yV,rfl,rfl, ?_⟩
  refine q0.w3 ?_ (by rfl) (by rfl)
  simp;try omega
 | true=>
  obtain ⟨rfl,rfl,hx⟩:=hE.1 rfl
  by_cases g4:200<(runT ⟨N,P,V,src,D,Q,cnt⟩ s).size
  ·have e4:repT ⟨N,P,V,src,D,Q,cnt⟩ s=w_long:=by rw [repT,if_pos g4]
   rw [e4]
   simp only [go_sem,conV,u1,u2,o1,o2,show (200:Int)<((runT ⟨N,P,V,src,D,Q,cnt⟩ s).size:Nat) by omega]
   refine ⟨by kernel_rfl,(c_AppendRecord (pw.mono (by simp)) D Q cnt s w_long (by have:=hc.2.2;simp only at this;omega) hs (by decide)).use (fun _ m=>m) ?_⟩
   rintro _ _ ⟨rfl,⟨t6,rfl⟩⟩
   rw [appV_eq]
   generalize appL D Q cnt s w_long=L
   generalize appK D Q cnt s w_long=K
   obtain ⟨D',Q',n'⟩:=L
   simp only [go_sem,conV,u1,u2,o1,o2]
   refine ⟨_,xP,xV,rfl,rfl, ?_⟩
   rcases hx with ⟨rfl,rfl,eP,eV⟩|hx
   ·refine q0.w3 ?_ (by exact eP) (by exact eV)
    simp;try omega
   ·refine hx.w4 ?_ (by rfl) (by rfl)
    simp;try omega
  ·have e4:repT ⟨N,P,V,src,D,Q,cnt⟩ s=runT ⟨N,P,V,src,D,Q,cnt⟩ s:=by rw [repT,if_neg g4]
   rw [e4]
   simp only [go_sem,conV,u1,u2,o1,o2,show ¬(200:Int)<((runT ⟨N,P,V,src,D,Q,cnt⟩ s).size:Nat) by omega]
   refine ⟨by kernel_rfl,(c_AppendRecord (pw.mono (by simp)) D Q cnt s _ (by have:=hc.2.2;simp only at this;omega) hs (by omega)).use (fun _ m=>m) ?_⟩
   rintro _ _ ⟨rfl,⟨t6,rfl⟩⟩
   rw [appV_eq]
   generalize appL D Q cnt s (runT ⟨N,P,V,src,D,Q,cnt⟩ s)=L
   generalize appK D Q cnt s (runT ⟨N,P,V,src,D,Q,cnt⟩ s)=K
   obtain ⟨D',Q',n'⟩:=L
   simp only [go_sem,conV,u1,u2,o1,o2]
   refine ⟨_,xP,xV,rfl,rfl, ?_⟩
   rcases hx with ⟨rfl,rfl,eP,eV⟩|hx
   ·refine q0.w3 ?_ (by exact eP) (by exact eV)
    simp;try omega
   ·refine hx.w4 ?_ (by rfl) (by rfl)
    simp;try omega
end
open Go.HH Go.Proofs
theorem ConF.q {lo hi:Nat} {h:Heap} {c:Con} {wP wV:Value} (s:ConF lo hi h c wP wV):ConQ lo hi h c wP wV:=by
 obtain ⟨i,e1,a1,a2,a3,a4⟩:=s.p
 obtain ⟨k,d1,b1,b2,b3,b4⟩:=s.v
 by_cases hlt:i<k
 ·exact ⟨i,i+1,k,k+1,by omega, .inl ⟨i,e1,Nat.le_refl _,by omega,a3,a4⟩, .inl ⟨k,d1,Nat.le_refl _,by omega,b3,b4⟩⟩
 by_cases hgt:k<i
 ·exact ⟨i,i+1,k,k+1,by omega, .inl ⟨i,e1,Nat.le_refl _,by omega,a3,a4⟩, .inl ⟨k,d1,Nat.le_refl _,by omega,b3,b4⟩⟩
 obtain rfl:i=k:=by omega
 rw [a3] at b3
 have ef:(c.P.map pip).flatten=(c.V.map vlv).flatten:=by
  have:=Option.some.inj b3
  simpa using this
 have el:c.P.length*4=c.V.length*4:=by
  have:=congrArg List.length ef
  rwa [flP,flV] at this
 have hv:c.V= []:=by
  cases hp:c.P with
  | nil=>rw [hp] at el;simp at el;exact List.eq_nil_of_length_eq_zero (by omega)
  | cons p P=>
   cases hv:c.V with
   | nil=>rfl
   | cons v V=>
    rw [hp,hv] at ef
    simp [pip,vlv] at ef
 refine ⟨lo,hi,lo,lo,by omega, .inl ⟨i,e1,a1,a2,a3,a4⟩, .inr ⟨by rw [hv];rfl,some ⟨i,0,none⟩,by rw [d1,hv];rfl⟩⟩
theorem execC_len {c:Con} {s:ByteArray} (hc:conSmall c):(execC c s).P.length<=1048576∧(execC c s).V.length<=1048576:=by
 unfold execC
 split
 ·rename_i g
  have:=runC_small (s:=s) g.1
  exact ⟨Nat.le_trans this.1 (by decide),Nat.le_trans this.2 (by decide)⟩
 ·exact ⟨hc.1,hc.2.1⟩
theorem Agr.keep {lo hi:Nat} {h H H1:Heap} (g:Agr lo hi H H1) (hp:h<+:H) (h1:h.length<=lo):h<+:H1:=by
 refine List.prefix_iff_getElem?.2 fun i hi => ?_
 have hH:i<H.length:=Nat.lt_of_lt_of_le hi hp.length_le
 have e:=g.2 i hH (.inl (by omega))
 have e2:=hget_prefix hp hi
 have e3:hget h i=some h[i]:=List.getElem?_eq_getElem hi
 exact e.trans (e2.trans e3)
section
variable {G : List (Nat × Nat)} {h : Heap} {M : Nat → Prop}
theorem c_eqConsoleE {n m:Nat} (c:Con) (wP wV xP xV:Value) (s:ConS n h c wP wV) (s':ConS m h c xP xV) (hP:c.P.length<=1048576) (hV:c.V.length<=1048576):vCall [] Tryz.prog M 26 [conV c wP wV,conV c xP xV] h (fun r h'=>r = .bool true∧h<+:h'):=by
 refine body_of mo Tryz.func26 rfl (by kernel_rfl) (Nat.le_of_ble_eq_true (by kernel_rfl)) rfl ?_
 simp only [go_sem,conV]
 refine ⟨by kernel_rfl,(c_eqNetwork _ _ c.N c.P (s.net.mono (by simp)) (s'.net.mono (by simp)) hP).use (fun _ m=>m) ?_⟩
 rintro _ _ ⟨rfl,⟨t,rfl⟩⟩
 simp only [go_sem,conV]
 refine ⟨by kernel_rfl,(c_eqValveS _ _ c.V (s.v.mono (by simp)).1 (s'.v.mono (by simp)).1 hV).use (fun _ m=>m) ?_⟩
 rintro _ _ ⟨rfl,⟨t2,rfl⟩⟩
 simp only [go_sem,conV,bne_self_eq_false]
 refine ⟨by kernel_rfl,(c_eqLogC _ _ _).use (fun _ m=>m) ?_⟩
 rintro _ _ ⟨rfl,⟨t3,rfl⟩⟩
 simp only [go_sem,conV]
end
open Go.HH Go.Proofs
theorem execC_small {C:Con} {s:ByteArray} (hc:conSmall C):conSmall (execC C s):=by
 obtain ⟨hP,hV⟩:=execC_len (s:=s) hc
 refine ⟨hP,hV, ?_⟩
 unfold execC
 split
 ·rename_i g
  simp only
  unfold appL
  split
  ·rename_i h
   simp only
   have h1:=logOk_small h.1.1.1
   have h2:=lineL_len ((recOk_L _ _).symm.trans h.1.2) (k:=C.cnt.toNat) (by have:=logOk_count h.1.1;omega)
   have h3:(bl C.D++bl C.Q).length=C.D.size+C.Q.size:=by simp [bl]
   rw [ByteArray.size_append,mkB_size,List.length_append,List.length_singleton]
   omega
  ·exact hc.2.2
 ·exact hc.2.2
noncomputable def conAt (C:Con) (ws:List BL) (i:Nat):Con:=(ws.take i).foldl (fun c w=>execC c (mkB w)) C
theorem conAt_succ {C:Con} {ws:List BL} {i:Nat} (hi:i<ws.length):conAt C ws (i+1)=execC (conAt C ws i) (mkB ws[i]):=by
 unfold conAt
 rw [List.take_add_one,List.getElem?_eq_getElem hi,Option.toList_some,List.foldl_append]
 rfl
theorem conAt_small {C:Con} (hc:conSmall C) (ws:List BL): ∀i,conSmall (conAt C ws i)
 | 0=>by simpa [conAt] using hc
 | i+1=>by
  by_cases hi:i<ws.length
  ·rw [conAt_succ hi];exact execC_small (conAt_small hc ws i)
  ·have:conAt C ws (i+1)=conAt C ws i:=by
    unfold conAt
    rw [List.take_of_length_le (by omega),List.take_of_length_le (by omega)]
   rw [this];exact conAt_small hc ws i
noncomputable def reps (C:Con) (ws:List BL) (i:Nat):List ByteArray:=(List.range i).map fun j=>execT (conAt C ws j) (mkB (ws.getD j []))
theorem reps_succ {C:Con} {ws:List BL} {i:Nat} (hi:i<ws.length):reps C ws (i+1)=reps C ws i++ [execT (conAt C ws i) (mkB ws[i])]:=by
 unfold reps
 rw [List.range_succ,List.map_append]
 simp [List.getD,hi]
theorem reps_len {C:Con} {ws:List BL} {i:Nat}:(reps C ws i).length=i:=by simp [reps]
def lns (s:ByteArray):List BL:=splitL (bl s) 10
theorem lns_len (s:ByteArray):1<=(lns s).length∧(lns s).length<=s.size+1:=by
 have hl:(bl s).length=s.size:=by simp [bl]
 have hc:(bl s).count 10<=(bl s).length:=List.count_le_length
 rw [lns,splitL_eq 10 _ (bl s) rfl,sbL_len]
 omega
theorem lns_le {s:ByteArray} {w:BL} (hw:w∈lns s):(mkB w).size<=s.size:=by
 obtain ⟨h1,h2⟩:=spW_le 10 (bl s) [] [] 0 (fun w hw=>by cases hw) (Nat.le_refl 0)
 rw [Nat.zero_add] at h1 h2
 have hl:(bl s).length=s.size:=by simp [bl]
 have hw':w.length<=(bl s).length:=by
  rcases List.mem_append.1 hw with h|h
  ·exact h1 w h
  ·rw [List.mem_singleton.1 h];exact h2
 have:(mkB w).size=w.length:=List.size_toArray
 omega
def scrOk (C:Con) (s:ByteArray):Prop:=conOk C∧s.size<=4000∧(lns s).length<=30
open Classical in
noncomputable instance {C:Con} {s:ByteArray}:Decidable (scrOk C s):=propDecidable _
noncomputable def scrR (C:Con) (s:ByteArray):List ByteArray:=if scrOk C s then reps C (lns s) (lns s).length else []
def sv1 (b:ByteArray):List Value:= [.string b]
theorem ConQ.scr {h u t2 v w:Heap} {b b' k:Blk} {q hi:Nat} {c:Con} {wP wV:Value} (s:ConQ (h++b::u).length hi (h++b::u++t2) c wP wV) (hq:q<u.length):ConQ (h++b::u).length hi (h++b'::((u++(t2++v)).set q k++w)) c wP wV:=by
 have mv: ∀ {lo hi:Nat} {x:Value} {rows:List (List Value)},FQs lo hi 4 (h++b::u++t2) x rows->(h++b::u).length<=lo->FQs lo hi 4 (h++b'::((u++(t2++v)).set q k++w)) x rows:=fun s hl=>by
  rcases s with ⟨id,ev,g1,g2,g3,g4⟩|s
  ·refine .inl ⟨id,ev,g1,g2, ?_,g4⟩
   obtain ⟨m,rfl⟩: ∃m,id=(h++b::u).length+m:=⟨id-(h++b::u).length,by omega⟩
   rw [hget_app] at g3
   have hm:=(List.getElem?_eq_some_iff.1 g3).1
   rw [show (h++b::u).length+m=h.length+(u.length+m+1) by simp;omega,hget_app,List.getElem?_cons_succ,List.getElem?_append_left (by simp;omega),List.getElem?_set_ne (by omega),List.getElem?_append_right (by omega),Nat.add_sub_cancel_left,List.getElem?_append_left hm]
   exact g3
  ·exact .inr s
 obtain ⟨p,q',x,y,hh,f1,f2⟩:=s.p
 exact ⟨p,q',x,y,hh,mv f1 hh.1,mv f2 hh.2.2.1⟩
open Go.HH Go.Proofs
section
variable {G : List (Nat × Nat)} {h : Heap} {M : Nat → Prop}
set_option maxRecDepth 4000 in
theorem c_RunScript {n:Nat} (pw:PowAt G h) (er:ErrAt G h) (C:Con) (s:ByteArray) (wP wV:Value) (sc:ConS n h C wP wV) (es:EszC h 4 wV) (hc:conSmall C) (hs:s.size<=1048576) :
  vCall G Tryz.prog M 30 [conV C wP wV, .string s] h (fun r h'=>(∃x,r = .tuple #[x, .bool (decide (scrOk C s))]∧FQs h.length h'.length 1 h' x ((scrR C s).map sv1))∧h<+:h'):=by
 have cv: ∀(c:Con) (a b:Value),conV c a b = .agg #[.int .i64 c.N,a,b, .int .i64 c.src, .string c.D, .string c.Q, .int .i64 c.cnt]:=fun _ _ _=>rfl
 have o0:oneC wP=true:=by obtain ⟨a,e,_⟩:=sc.p.1;rw [e];rfl
 have o0v:oneC wV=true:=by obtain ⟨a,e,_⟩:=sc.v.1;rw [e];rfl
 have bad: ∀(a:Option Addr) (lo hi:Nat) (H:Heap),¬scrOk C s->∃x,Value.tuple #[.slice a 0 0, .bool false] = .tuple #[x, .bool (decide (scrOk C s))]∧FQs lo hi 1 H x ((scrR C s).map sv1):=fun a lo hi H hn=>
  ⟨_,by rw [decide_eq_false hn],by rw [scrR,if_neg hn];exact .inr ⟨rfl,a,rfl⟩⟩
 refine body_of mo Tryz.func30 rfl (by kernel_rfl) (Nat.le_of_ble_eq_true (by kernel_rfl)) rfl ?_
 simp only [go_sem,conV,o0,o0v]
 rw [←cv]
 refine ⟨by kernel_rfl,(c_IsValidConsole (pw.mono (by simp)) C wP wV (sc.mono (by simp)) (es.mono (by simp)) hc).use (fun _ m=>m) ?_⟩
 rintro _ _ ⟨rfl,⟨t,rfl⟩⟩
 by_cases g:conOk C
 case neg=>
  simp only [go_sem,conV,dect g]
  exact bad _ _ _ _ (fun hh=>g hh.1)
 by_cases g2:(4000:Int)<(s.size:Nat)
 ·simp only [go_sem,conV,decb g,g2]
  exact bad _ _ _ _ (fun hh=>by have:=hh.2.1;omega)
 simp only [go_sem,conV,decb g,g2]
 refine ⟨by kernel_rfl,((c_SplitB 10 s (by omega)).addG).use (fun _ m=>m) ?_⟩
 rintro _ _ ⟨t2,j,rfl,rfl,hj⟩
 have hj':t2[j]? = some ⟨strsV (lns s),1, .rw⟩:=hj
 have ewl:(splitL (bl s) 10).length=(lns s).length:=rfl
 have hwl:=lns_len s
 by_cases g3:(30:Int)<((lns s).length:Nat)
 ·simp only [go_sem,ewl,g3]
  exact bad _ _ _ _ (fun hh=>by have:=hh.2.2;omega)
 have ok:scrOk C s:=⟨g,by omega,by omega⟩
 simp only [go_sem,ewl,g3]
 obtain ⟨J,hJ⟩: ∃J,J=t.length+j:=⟨_,rfl⟩
 obtain ⟨W,hW⟩: ∃W,W=h.length+(t.length+1)+j:=⟨_,rfl⟩
 have hWJ:W=h.length+(J+1):=by omega
 have hj2:(t++(t2++ [(⟨[],1, .rw⟩:Blk)]))[J]? = some ⟨strsV (lns s),1, .rw⟩:=by
  rw [hJ,List.getElem?_append_right (by omega),Nat.add_sub_cancel_left,List.getElem?_append_left (List.getElem?_eq_some_iff.1 hj').1]
  exact hj'
 have gw: ∀(i:Nat) (hi:i<(lns s).length),(strsV (lns s))[i]? = some (.string (mkB (lns s)[i])):=fun i hi=>by
  rw [strsV,List.getElem?_map,List.getElem?_eq_getElem hi];rfl
 rw [←hW]
 refine vLoop.count mo (lns s).length (fun i e h'=> ∃(u:Heap) (q m:Nat) (xP xV:Value),Regs e [(2, .pointer (some ⟨h.length,0,none⟩)),(7, .slice (some ⟨h.length+(q+1),0,none⟩) i 0),(26, .slice (some ⟨W,0,none⟩) (lns s).length 0),(27, .int .i64 (lns s).length),(28, .int .i64 i)] ∧
  HeapIs h' (h++⟨[.int .i64 (conAt C (lns s) i).N,xP,xV, .int .i64 (conAt C (lns s) i).src, .string (conAt C (lns s) i).D, .string (conAt C (lns s) i).Q, .int .i64 (conAt C (lns s) i).cnt],7, .rw⟩::u) ∧
  u[J]? = some ⟨strsV (lns s),1, .rw⟩∧u[q]? = some ⟨(reps C (lns s) i).map Value.string,1, .rw⟩∧J≠q∧ConS m h' (conAt C (lns s) i) xP xV∧EszC h' 4 xV) ?_ ?_
 ·refine ⟨_,t.length+t2.length,n,wP,wV,⟨rfl,rfl,rfl,rfl,rfl,trivial⟩, .rfl,hj2, ?_, ?_,sc.mono (List.prefix_append _ _),es.mono (List.prefix_append _ _)⟩
  ·rw [←List.append_assoc,List.getElem?_append_right (by simp)];simp [reps]
  ·have:=(List.getElem?_eq_some_iff.1 hj').1
   omega
 ·clear hj hj' hj2
  rintro i e _ hi ⟨u,q,m,xP,xV,⟨e2,e7,e26,e27,e28,_⟩,rfl,hj,hq,hjq,kS,kE⟩
  have hG: ∀(b:Blk),hget (h++b::u) W=some ⟨strsV (lns s),1, .rw⟩:=fun b=>by
   rw [hWJ,hget_app];exact hj
  have hjl:=(List.getElem?_eq_some_iff.1 hj).1
  have hql:=(List.getElem?_eq_some_iff.1 hq).1
  have x0:oneC xP=true:=by obtain ⟨a,e,_⟩:=kS.p.1;rw [e];rfl
  have x1:oneC xV=true:=by obtain ⟨a,e,_⟩:=kS.v.1;rw [e];rfl
  have hlen:=reps_len (C:=C) (ws:=lns s) (i:=i)
  by_cases hlt:i<(lns s).length
  ·have wi:=wsucc hlt (by omega)
   have hz:(i:Int)<(lns s).length:=by omega
   have hsz:(mkB (lns s)[i]).size<=9223372036854775806:=Nat.le_trans (lns_le (List.getElem_mem _)) (by omega)
   simp only [go_sem,e2,e7,e26,e27,e28,hz,hG,gw i hlt]
   rw [←cv]
   refine ⟨by kernel_rfl,(c_ExecuteCommand (pw.mono (by simp)) (er.mono (by simp)) (conAt C (lns s) i) (mkB (lns s)[i]) xP xV kS kE (conAt_small hc _ i) hsz).use (fun _ m=>m) ?_⟩
   rintro _ _ ⟨⟨E,yP,yV,rfl,hE,q1⟩,⟨t3,rfl⟩⟩
   rw [←conAt_succ hlt] at hE
   subst hE
   simp only [go_sem,e2,e7,e26,e27,e28,conV,q1.one.1,q1.one.2,app_old hq,List.length_map,hlen]
   refine ⟨by omega,by omega,hlt,_,u.length+(t3.length+2),_,yP,yV,⟨e2,rfl,e26,e27,congrArg _ wi,trivial⟩, .rfl, ?_, ?_,by omega,(q1.scr hql).s,(q1.scr hql).esz.2⟩
   ·rw [List.getElem?_append_left (by simp;omega),List.getElem?_set_ne (by omega)];exact app_old hj _
   ·rw [reps_succ hlt,List.map_append]
    exact (List.getElem?_append_right (by simp)).trans (by simp)
  ·obtain rfl:i=(lns s).length:=by omega
   simp only [go_sem,e2,e7,e26,e27,e28,show ¬(((lns s).length:Nat):Int)<(lns s).length by omega]
   refine ⟨_,by rw [decide_eq_true ok], .inl ⟨_,by rw [scrR,if_pos ok,List.length_map,hlen],by omega,by omega, ?_,fun r hr => ?_⟩⟩
   ·rw [hget_app,List.getElem?_cons_succ,hq,scrR,if_pos ok]
    congr 2
    generalize reps C (lns s) (lns s).length=L
    induction L with
    | nil=>rfl
    | cons x r ih=>rw [List.map_cons,List.map_cons,List.flatten_cons, ←ih];rfl
   ·obtain ⟨x,_,rfl⟩:=List.mem_map.1 hr;rfl
end
open Go.HH Go.Proofs
section
variable {h : Heap} {M : Nat → Prop}
set_option maxRecDepth 4000 in
theorem c_sRunScript {n:Nat} (C:Con) (s:ByteArray) (wP wV:Value) (sc:ConS n h C wP wV) (hc:conSmall C) (hs:s.size<=1048576) :
  vCall [] Tryz.prog M 29 [conV C wP wV, .string s] h (fun r h'=>(∃x,r = .tuple #[x, .bool (decide (scrOk C s))]∧FQs h.length h'.length 1 h' x ((scrR C s).map sv1))∧h<+:h'):=by
 have cv: ∀(c:Con) (a b:Value),conV c a b = .agg #[.int .i64 c.N,a,b, .int .i64 c.src, .string c.D, .string c.Q, .int .i64 c.cnt]:=fun _ _ _=>rfl
 have o0:oneC wP=true:=by obtain ⟨a,e,_⟩:=sc.p.1;rw [e];rfl
 have o0v:oneC wV=true:=by obtain ⟨a,e,_⟩:=sc.v.1;rw [e];rfl
 have bad: ∀(a:Option Addr) (lo hi:Nat) (H:Heap),¬scrOk C s->∃x,Value.tuple #[.slice a 0 0, .bool false] = .tuple #[x, .bool (decide (scrOk C s))]∧FQs lo hi 1 H x ((scrR C s).map sv1):=fun a lo hi H hn=>
  ⟨_,by rw [decide_eq_false hn],by rw [scrR,if_neg hn];exact .inr ⟨rfl,a,rfl⟩⟩
 refine body_of mo Tryz.func29 rfl (by kernel_rfl) (Nat.le_of_ble_eq_true (by kernel_rfl)) rfl ?_
 simp only [go_sem,conV,o0,o0v]
 refine ⟨by kernel_rfl,(c_l1Split s 10 (by omega)).use (fun _ m=>m) ?_⟩
 rintro _ _ ⟨t2,j,rfl,rfl,hj⟩
 have hj':t2[j]? = some ⟨strsV (lns s),1, .rw⟩:=hj
 have ewl:(splitL (bl s) 10).length=(lns s).length:=rfl
 have hwl:=lns_len s
 simp only [go_sem,ewl]
 rw [←cv]
 refine ⟨by kernel_rfl,(c_l28Good C wP wV (sc.mono (by simp)) hc).use (fun _ m=>m) ?_⟩
 rintro _ _ ⟨rfl,⟨t,rfl⟩⟩
 by_cases g:conOk C
 case neg=>
  simp only [go_sem,conV,dect g]
  exact bad _ _ _ _ (fun hh=>g hh.1)
 by_cases g2:(4000:Int)<(s.size:Nat)
 ·simp only [go_sem,conV,decb g,g2]
  exact bad _ _ _ _ (fun hh=>by have:=hh.2.1;omega)
 by_cases g3:(30:Int)<((lns s).length:Nat)
 ·simp only [go_sem,conV,decb g,g2,ewl,g3]
  exact bad _ _ _ _ (fun hh=>by have:=hh.2.2;omega)
 have ok:scrOk C s:=⟨g,by omega,by omega⟩
 simp only [go_sem,conV,decb g,g2,ewl,g3]
 obtain ⟨J,hJ⟩: ∃J,J=j+1:=⟨_,rfl⟩
 obtain ⟨W,hW⟩: ∃W,W=h.length+2+j:=⟨_,rfl⟩
 have hWJ:W=h.length+(J+1):=by omega
 have hj2:((⟨[],1, .rw⟩:Blk)::(t2++t))[J]? = some ⟨strsV (lns s),1, .rw⟩:=by
  rw [hJ,List.getElem?_cons_succ,List.getElem?_append_left (List.getElem?_eq_some_iff.1 hj').1]
  exact hj'
 have gw: ∀(i:Nat) (hi:i<(lns s).length),(strsV (lns s))[i]? = some (.string (mkB (lns s)[i])):=fun i hi=>by
  rw [strsV,List.getElem?_map,List.getElem?_eq_getElem hi];rfl
 rw [←hW]
 refine vLoop.count mo (lns s).length (fun i e h'=> ∃(u:Heap) (q m:Nat) (xP xV:Value),Regs e [(2, .pointer (some ⟨h.length,0,none⟩)),(6, .slice (some ⟨h.length+(q+1),0,none⟩) i 0),(7, .slice (some ⟨W,0,none⟩) (lns s).length 0),(9, .int .i64 i)] ∧
  HeapIs h' (h++⟨[.int .i64 (conAt C (lns s) i).N,xP,xV, .int .i64 (conAt C (lns s) i).src, .string (conAt C (lns s) i).D, .string (conAt C (lns s) i).Q, .int .i64 (conAt C (lns s) i).cnt],7, .rw⟩::u) ∧
  u[J]? = some ⟨strsV (lns s),1, .rw⟩∧u[q]? = some ⟨(reps C (lns s) i).map Value.string,1, .rw⟩∧J≠q∧ConS m h' (conAt C (lns s) i) xP xV) ?_ ?_
 ·exact ⟨_,0,n,wP,wV,⟨rfl,rfl,rfl,rfl,trivial⟩, .rfl,hj2,rfl,by omega,sc.mono (List.prefix_append _ _)⟩
 ·clear hj hj' hj2
  rintro i e _ hi ⟨u,q,m,xP,xV,⟨e2,e6,e7,e9,_⟩,rfl,hj,hq,hjq,kS⟩
  have hG: ∀(b:Blk),hget (h++b::u) W=some ⟨strsV (lns s),1, .rw⟩:=fun b=>by
   rw [hWJ,hget_app];exact hj
  have hjl:=(List.getElem?_eq_some_iff.1 hj).1
  have hql:=(List.getElem?_eq_some_iff.1 hq).1
  have x0:oneC xP=true:=by obtain ⟨a,e,_⟩:=kS.p.1;rw [e];rfl
  have x1:oneC xV=true:=by obtain ⟨a,e,_⟩:=kS.v.1;rw [e];rfl
  have hlen:=reps_len (C:=C) (ws:=lns s) (i:=i)
  by_cases hlt:i<(lns s).length
  ·have wi:=wsucc hlt (by omega)
   have hz:(i:Int)<(lns s).length:=by omega
   have hsz:(mkB (lns s)[i]).size<=9223372036854775806:=Nat.le_trans (lns_le (List.getElem_mem _)) (by omega)
   simp only [go_sem,e2,e6,e7,e9,hz,hG,gw i hlt]
   rw [←cv]
   refine ⟨by kernel_rfl,(c_sExecuteCommand (conAt C (lns s) i) (mkB (lns s)[i]) xP xV kS (conAt_small hc _ i) hsz).use (fun _ m=>m) ?_⟩
   rintro _ _ ⟨⟨E,yP,yV,rfl,hE,q1⟩,⟨t3,rfl⟩⟩
   rw [←conAt_succ hlt] at hE
   subst hE
   simp only [go_sem,e2,e6,e7,e9,conV,q1.one.1,q1.one.2,app_old hq,List.length_map,hlen]
   refine ⟨by omega,by omega,hlt,_,u.length+(t3.length+1),_,yP,yV,⟨e2,rfl,e7,congrArg _ wi,trivial⟩, .rfl, ?_, ?_,by omega,(q1.scr hql).s⟩
   ·rw [List.getElem?_append_left (by simp;omega),List.getElem?_set_ne (by omega)];exact app_old hj _
   ·rw [reps_succ hlt,List.map_append]
    exact (List.getElem?_append_right (by simp)).trans (by simp)
  ·obtain rfl:i=(lns s).length:=by omega
   simp only [go_sem,e2,e6,e7,e9,show ¬(((lns s).length:Nat):Int)<(lns s).length by omega]
   refine ⟨_,by rw [decide_eq_true ok], .inl ⟨_,by rw [scrR,if_pos ok,List.length_map,hlen],by omega,by omega, ?_,fun r hr => ?_⟩⟩
   ·rw [hget_app,List.getElem?_cons_succ,hq,scrR,if_pos ok]
    congr 2
    generalize reps C (lns s) (lns s).length=L
    induction L with
    | nil=>rfl
    | cons x r ih=>rw [List.map_cons,List.map_cons,List.flatten_cons, ←ih];rfl
   ·obtain ⟨x,_,rfl⟩:=List.mem_map.1 hr;rfl
end
open Go.HH Go.Proofs
theorem wrapU8 {n:Int} (h:0<=n∧n<=255):IntKind.u8.wrap n=n:=
 IntWalk.u8_in n h
open Go.HH Go.Proofs
def mtxt (k:Nat):ByteArray:=⟨#[109]⟩++num k
theorem dec_split {n:Nat} (h: ¬n<10):Lib.decDigits n=Lib.decDigits (n/10)++ [UInt8.ofNat (48+n%10)]:=by
 rw [Lib.decDigits,dif_neg h]
def mrest (k m:Nat) (out:ByteArray):Prop:=(0<m->Lib.decDigits k=Lib.decDigits m++bl out)∧(m=0->Lib.decDigits k=bl out)
theorem mrest_step {k m:Nat} {out:ByteArray} (h:mrest k m out) (hm:0<m):mrest k (m/10) ((⟨#[UInt8.ofNat (48+m%10)]⟩:ByteArray)++out):=by
 have h1:=h.1 hm
 have e1:bl (⟨#[UInt8.ofNat (48+m%10)]⟩:ByteArray)= [UInt8.ofNat (48+m%10)]:=rfl
 constructor
 ·intro h2
  rw [h1,dec_split (by omega),bl_app,e1,List.append_assoc]
 ·intro h2
  have h3:m<10:=by omega
  rw [h1,Lib.decDigits_one h3,bl_app,e1,Nat.mod_eq_of_lt h3]
theorem pow_gt (i:Nat):i<10 ^ i:=Nat.lt_pow_self (by omega)
section
variable {G : List (Nat × Nat)} {h : Heap} {M : Nat → Prop}
theorem c_markText (k:Nat) (hk:0<k∧k<=1000000):vCall [] Tryz.prog M 78 [.int .i64 k] h (fun r h'=>r = .string (mtxt k)∧h<+:h'):=by
 refine body_of mo Tryz.func78 rfl (by kernel_rfl) (Nat.le_of_ble_eq_true (by kernel_rfl)) rfl ?_
 simp only [go_sem,show ¬((k:Int)<=0) by omega]
 refine vLoop.count mo k (fun i e h'=> ∃(out:ByteArray) (t:Heap),e 0 = .int .i64 (k/10 ^ i:Nat)∧e 3 = .string out∧mrest k (k/10 ^ i) out∧out.size<=i∧h'=h++t) ?_ ?_
 ·refine ⟨⟨#[]⟩,[],by simp [upd,env0],rfl, ?_,Nat.le_refl 0,by simp⟩
  rw [Nat.pow_zero,Nat.div_one]
  exact ⟨fun _=>by simp [bl],fun h0=>by omega⟩
 ·rintro i e _ hi ⟨out,t,e0,e3,hm,hsz,rfl⟩
  obtain ⟨m,hmm⟩: ∃m,m=k/10 ^ i:=⟨_,rfl⟩
  rw [←hmm] at e0 hm
  have hmk:m<=k:=by rw [hmm];exact Nat.div_le_self _ _
  by_cases h0:0<m
  ·have hik:i<k:=by
    have h1:10 ^ i<=k:=by
     rcases Nat.lt_or_ge k (10 ^ i) with h2|h2
     ·rw [hmm,Nat.div_eq_of_lt h2] at h0;omega
     ·exact h2
    have:=pow_gt i
    omega
   have q1:((m:Nat):Int).tmod 10=((m%10:Nat):Int):=by rw [Int.tmod_eq_emod_of_nonneg (by omega)];omega
   have w1:IntKind.i64.wrap (48+((m%10:Nat):Int))=((48+m%10:Nat):Int):=by rw [wrap64 (by omega)];omega
   have w2:IntKind.u8.wrap ((48+m%10:Nat):Int)=((48+m%10:Nat):Int):=wrapU8 (by omega)
   have st:strOfV [Value.int .u8 ((48+m%10:Nat):Int)]=some ⟨#[UInt8.ofNat (48+m%10)]⟩:=rfl
   have a1:hBin .add (.string ⟨#[UInt8.ofNat (48+m%10)]⟩) (.string out)=some (.string (⟨#[UInt8.ofNat (48+m%10)]⟩++out)):=adds (by
    have:(⟨#[UInt8.ofNat (48+m%10)]⟩:ByteArray).size=1:=rfl
    omega)
   have q2:((m:Nat):Int).tdiv 10=((m/10:Nat):Int):=by rw [Int.tdiv_eq_ediv_of_nonneg (by omega)];omega
   have w3:IntKind.i64.wrap ((m/10:Nat):Int)=((m/10:Nat):Int):=wrap64 (by omega)
   simp only [go_sem,e0,e3,show (0:Int)<(m:Nat) by omega,hBin_rem (show (10:Int)≠0 by omega),q1,w1,w2,onCv_more (Nat.one_pos),st,a1,hBin_quo (show (10:Int)≠0 by omega),q2,w3]
   have e10:k/10 ^ (i+1)=m/10:=by rw [hmm,Nat.pow_succ,Nat.div_div_eq_div_mul]
   rw [e10]
   exact ⟨hik,_,_,rfl,rfl,mrest_step hm h0,by rw [ByteArray.size_append];have:(⟨#[UInt8.ofNat (48+m%10)]⟩:ByteArray).size=1:=rfl;omega,rfl⟩
  ·have ho:out=num k:=bl_ext (by rw [bl_num];exact (hm.2 (by omega)).symm)
   have a1:hBin .add (.string ⟨#[109]⟩) (.string out)=some (.string (mtxt k)):=by rw [mtxt, ←ho];exact adds (by
    have:(⟨#[109]⟩:ByteArray).size=1:=rfl
    omega)
   simp only [go_sem,e0,e3,show ¬((0:Int)<(m:Nat)) by omega,a1]
   try all_goals first|exact rfl|exact ⟨rfl,rfl⟩|exact List.prefix_append _ _|exact ⟨rfl,List.prefix_append _ _⟩|assumption|exact ⟨rfl,by assumption⟩|exact List.prefix_rfl|exact ⟨rfl,List.prefix_rfl⟩|exact List.IsPrefix.trans (by assumption) (by assumption)|exact ⟨rfl,List.IsPrefix.trans (by assumption) (by assumption)⟩
end
open Go.HH Go.Proofs
theorem sv1_flat: ∀l:List ByteArray,(l.map sv1).flatten=l.map Value.string
 | []=>rfl
 | x::l=>by rw [List.map_cons,List.flatten_cons,sv1_flat l];rfl
theorem sv1_row {l:List ByteArray}: ∀r∈l.map sv1,r.length=1:=fun r hr=>by obtain ⟨x,_,rfl⟩:=List.mem_map.1 hr;rfl
noncomputable def mks1 (k n:Nat):List ByteArray:=(List.range n).map fun i=>mtxt (k+i)
theorem mks1_len {k n:Nat}:(mks1 k n).length=n:=by simp [mks1]
theorem mks1_succ {k n:Nat}:mks1 k (n+1)=mks1 k n++ [mtxt (k+n)]:=by simp [mks1,List.range_succ]
theorem mks1_at {k n i:Nat} (h:i<((mks1 k n).map sv1).length):((mks1 k n).map sv1)[i]=sv1 (mtxt (k+i)):=by simp [mks1]
theorem setOne {P Q:List Value} {x a:Value} {n:Nat} (hn:P.length=n):setRange (P++x::Q) n [a]=P++a::Q:=by
 subst hn
 rw [setRange,List.take_left' rfl,List.length_singleton, ←List.drop_drop,List.drop_left' rfl]
 simp
section
variable {h : Heap} {M : Nat → Prop}
theorem c_eqStringS (v w:Value) (l:List ByteArray) (s:Sl h 1 v (l.map sv1)) (s':Sl h 1 w (l.map sv1)) (hmax:l.length<=1048576):vCall [] Tryz.prog M 31 [v,w] h (fun r h'=>r = .bool true∧h<+:h'):=by
 obtain ⟨a,ea,_,_⟩:=id s
 obtain ⟨b,eb,_,_⟩:=id s'
 rw [List.length_map] at ea eb
 subst ea
 subst eb
 refine body_of mo Tryz.func31 rfl (by kernel_rfl) (Nat.le_of_ble_eq_true (by kernel_rfl)) rfl ?_
 simp only [go_sem,bne_self_eq_false]
 refine vLoop.count mo l.length (fun i e h'=>Regs e [(0, .slice a l.length 0),(1, .slice b l.length 0),(5, .int .i64 i)]∧HeapIs h' h) ?_ ?_
 ·exact ⟨⟨rfl,rfl,rfl,trivial⟩, .rfl⟩
 ·rintro i e _ hi ⟨⟨e0,e1,e5,_⟩,rfl⟩
  by_cases hlt:i<l.length
  ·have wi:=wsucc hlt (by omega)
   have hz:(i:Int)<l.length:=by omega
   obtain ⟨id,o,k,hv',_,hk,hd,hb,hrow,hat⟩:=s.at (i:=i) (by rw [List.length_map];exact hlt)
   obtain ⟨id2,o2,k2,hv2,_,hk2,hd2,hb2,hrow2,hat2⟩:=s'.at (i:=i) (by rw [List.length_map];exact hlt)
   rw [List.length_map] at hv' hv2
   obtain rfl:a=some ⟨id,o,none⟩:=by simpa using hv'
   obtain rfl:b=some ⟨id2,o2,none⟩:=by simpa using hv2
   have g0:=hat 0 (by omega)
   have g1:=hat2 0 (by omega)
   rw [List.getElem_map] at g0 g1
   simp only [sv1,List.getElem?_cons_zero,Nat.add_zero,Nat.mul_one] at g0 g1
   simp only [go_sem,e0,e1,e5,hz,hk,hd,g0,hk2,hd2,g1,bne_self_eq_false,eqs]
   exact ⟨hlt,⟨e0,e1,congrArg _ wi,trivial⟩, .rfl⟩
  ·obtain rfl:i=l.length:=by omega
   simp only [go_sem,e0,e1,e5,show ¬((l.length:Int)<l.length) by omega]
   try all_goals first|exact rfl|exact ⟨rfl,rfl⟩|exact List.prefix_append _ _|exact ⟨rfl,List.prefix_append _ _⟩|assumption|exact ⟨rfl,by assumption⟩|exact List.prefix_rfl|exact ⟨rfl,List.prefix_rfl⟩|exact List.IsPrefix.trans (by assumption) (by assumption)|exact ⟨rfl,List.IsPrefix.trans (by assumption) (by assumption)⟩
theorem c_markStringS {lo hi:Nat} (v:Value) (l:List ByteArray) (s:FQs lo hi 1 h v (l.map sv1)) (hM: ∀i,lo<=i->i<hi->M i) (k:Nat) (hk:0<k∧k<=1000) (hmax:l.length<=1000) :
  vCall [] Tryz.prog M 32 [v, .int .i64 k] h (fun r h'=>r = .int .i64 (k+l.length:Nat)∧FQs lo hi 1 h' v ((mks1 k l.length).map sv1)∧Agr lo hi h h'):=by
 rcases s with ⟨id,rfl,g1,g2,g3,hlen⟩|⟨r0,a,rfl⟩
 ·rw [List.length_map]
  have hown:own h.length M id:=Or.inr (hM id g1 g2)
  rw [sv1_flat] at g3
  refine body_of mo Tryz.func32 rfl (by kernel_rfl) (Nat.le_of_ble_eq_true (by kernel_rfl)) rfl ?_
  simp only [go_sem]
  refine vLoop.count mo l.length (fun i e h'=>e 0 = .slice (some ⟨id,0,none⟩) l.length 0∧e 1 = .int .i64 (k+i:Nat)∧e 5 = .int .i64 i ∧
   Agr lo hi h h'∧hget h' id=some ⟨(mks1 k i++l.drop i).map Value.string,1, .rw⟩) ?_ ?_
  ·exact ⟨rfl,by simp [upd,env0],rfl,Agr.refl,by simpa [mks1] using g3⟩
  ·rintro i e h' hil ⟨e0,e1,e5,hag,hg⟩
   have hidl:=hget_lt hg
   by_cases hlt:i<l.length
   ·have wi:=wsucc hlt (by omega)
    have hz:(i:Int)<l.length:=by omega
    have w1:IntKind.i64.wrap (((k+i:Nat):Int)+1)=((k+(i+1):Nat):Int):=by rw [wrap64 (by omega)];omega
    have hdrop:l.drop i=l[i]::l.drop (i+1):=List.drop_eq_getElem_cons hlt
    rw [hdrop,List.map_append,List.map_cons] at hg
    have hP:((mks1 k i).map Value.string).length=i:=by rw [List.length_map,mks1_len]
    have q0:i+1<=((mks1 k i).map Value.string++Value.string l[i]::(l.drop (i+1)).map Value.string).length:=by
     rw [List.length_append,hP];simp only [List.length_cons];omega
    simp only [go_sem,e0,e1,e5,hz]
    refine ⟨by kernel_rfl,(c_markText (k+i) (by omega)).use (fun _ m=>m) ?_⟩
    rintro _ _ ⟨rfl,⟨t,rfl⟩⟩
    simp only [go_sem,e0,e1,e5,hz,self_get hg t,hown,w1,wi,setOne hP]
    refine ⟨by simpa using q0,hlt,(hag.trans Agr.app).trans (Agr.set g1 g2), ?_⟩
    rw [hget_set_same (by simp;omega),mks1_succ]
    simp
   ·obtain rfl:i=l.length:=by omega
    simp only [go_sem,e0,e1,e5,show ¬((l.length:Int)<l.length) by omega]
    rw [List.drop_length,List.append_nil] at hg
    exact ⟨.inl ⟨id,by rw [List.length_map,mks1_len],g1,g2,by rw [sv1_flat];exact hg,sv1_row⟩,hag⟩
 ·obtain rfl:l= []:=List.map_eq_nil_iff.1 r0
  refine body_of mo Tryz.func32 rfl (by kernel_rfl) (Nat.le_of_ble_eq_true (by kernel_rfl)) rfl ?_
  simp only [go_sem]
  refine vLoop.count mo 0 (fun i e h'=>Regs e [(0, .slice a 0 0),(1, .int .i64 k),(5, .int .i64 i)]∧HeapIs h' h) ?_ ?_
  ·exact ⟨⟨rfl,rfl,rfl,trivial⟩, .rfl⟩
  ·rintro i e _ hi ⟨⟨e0,e1,e5,_⟩,rfl⟩
   obtain rfl:i=0:=by omega
   simp only [go_sem,e0,e1,e5]
   exact ⟨.inr ⟨rfl,a,rfl⟩,Agr.refl⟩
theorem c_heldStringS (v:Value) (n k:Nat) (hk:0<k∧k<=1000) (s:Sl h 1 v ((mks1 k n).map sv1)) (hmax:n<=1000) :
  vCall [] Tryz.prog M 33 [v, .int .i64 k] h (fun r h'=>r = .int .i64 (k+n:Nat)∧h<+:h'):=by
 obtain ⟨a,hv,_,_⟩:=id s
 rw [List.length_map,mks1_len] at hv
 subst hv
 refine body_of mo Tryz.func33 rfl (by kernel_rfl) (Nat.le_of_ble_eq_true (by kernel_rfl)) rfl ?_
 simp only [go_sem]
 refine vLoop.count mo n (fun i e h'=> ∃t,Regs e [(0, .slice a n 0),(1, .int .i64 (k+i:Nat)),(5, .int .i64 i)]∧HeapIs h' (h++t)) ?_ ?_
 ·exact ⟨[],⟨rfl,by simp [upd,env0],rfl,trivial⟩,by rw [List.append_nil];exact .rfl⟩
 ·rintro i e _ hi ⟨t,⟨e0,e1,e5,_⟩,rfl⟩
  by_cases hlt:i<n
  ·have wi:=wsucc hlt (by omega)
   have hz:(i:Int)<n:=by omega
   have hlt':i<((mks1 k n).map sv1).length:=by rw [List.length_map,mks1_len];exact hlt
   have w1:IntKind.i64.wrap (((k+i:Nat):Int)+1)=((k+(i+1):Nat):Int):=by rw [wrap64 (by omega)];omega
   obtain ⟨id,off,b,hv,hk2,_,hd,hb,hrow,hat⟩:=s.at hlt'
   rw [List.length_map,mks1_len] at hv
   obtain rfl:a=some ⟨id,off,none⟩:=by simpa using hv
   have g0:=hat 0 (by omega)
   rw [mks1_at hlt'] at g0
   simp only [sv1,List.getElem?_cons_zero,Nat.add_zero,Nat.mul_one] at g0
   simp only [go_sem,e0,e1,e5,hz,hk2,hd,g0]
   refine ⟨by kernel_rfl,(c_markText (k+i) (by omega)).use (fun _ m=>m) ?_⟩
   rintro _ _ ⟨rfl,⟨t2,rfl⟩⟩
   simp only [go_sem,e0,e1,e5,hz,hk2,hd,g0,eqs,w1,bne_self_eq_false]
   exact ⟨hlt,_,⟨e0,rfl,congrArg _ wi,trivial⟩, .rfl⟩
  ·obtain rfl:i=n:=by omega
   simp only [go_sem,e0,e1,e5,show ¬((i:Int)<i) by omega]
   try all_goals first|exact rfl|exact ⟨rfl,rfl⟩|exact List.prefix_append _ _|exact ⟨rfl,List.prefix_append _ _⟩|assumption|exact ⟨rfl,by assumption⟩|exact List.prefix_rfl|exact ⟨rfl,List.prefix_rfl⟩|exact List.IsPrefix.trans (by assumption) (by assumption)|exact ⟨rfl,List.IsPrefix.trans (by assumption) (by assumption)⟩
end
open Go Go.HH Go.Proofs
def globQ (L:List (Nat×List Value)) (N:Nat) (t0:Tgt):Phi:=fun i=>if i=N then some t0 else globP L N i
theorem glob_relE {L:List (Nat×List Value)} {N:Nat} {W:World} {t0:Tgt} (hN: ∀x∈L,x.1<N∧L.lookup x.1=some x.2) (h0: ∃c el fr,W.heap[t0.b]? = some (.cells c el fr)∧c.size=t0.n∧t0.d<=c.size) (hz:t0.esz=1)
  (hp: ∀i l,L.lookup i=some l->∃(l':List Value) (el:TypeId) (fr:Nat×Nat),W.heap[i]? = some (.cells l'.toArray el fr)∧l'.length=l.length∧∀(j:Nat) (v:Value),l[j]? = some v->∃v':Value,l'[j]? = some v'∧VRel (globQ L N t0) v v') :
  HRel (globG L) (globQ L N t0) (globH L N++ [⟨[],1, .ro⟩]) W∧allRo (globH L N++ [⟨[],1, .ro⟩]):=by
 have hlen:(globH L N).length=N:=by simp [globH]
 have at': ∀i t,globQ L N t0 i=some t->(i=N∧t=t0)∨(i<N∧∃l,L.lookup i=some l∧t=⟨i,0,1,l.length⟩):=by
  intro i t e
  unfold globQ at e
  split at e
  ·rename_i hi
   cases e
   exact .inl ⟨hi,rfl⟩
  ·unfold globP at e
   split at e
   ·rename_i hi
    cases hl:L.lookup i with
    | none=>rw [hl] at e;cases e
    | some l=>rw [hl] at e;cases e;exact .inr ⟨hi,l,rfl,rfl⟩
   ·cases e
 have get': ∀i k,(globH L N++ [(⟨[],1, .ro⟩:Blk)])[i]? = some k->(i=N∧k=⟨[],1, .ro⟩)∨(i<N∧k=⟨(L.lookup i).getD [],1, .ro⟩):=by
  intro i k e
  rcases Nat.lt_or_ge i N with h|h
  ·rw [List.getElem?_append_left (by rw [hlen];exact h)] at e
   exact .inr ⟨h,(globH_get e).1⟩
  ·rw [List.getElem?_append_right (by rw [hlen];exact h),hlen] at e
   have:i-N=0:=by
    have:=(List.getElem?_eq_some_iff.1 e).1
    simp at this;omega
   rw [this] at e
   cases e
   exact .inl ⟨by omega,rfl⟩
 obtain ⟨c0,el0,fr0,hc0,hc1,hc2⟩:=h0
 refine ⟨⟨?_, ?_, ?_, ?_, ?_⟩, ?_⟩
 ·rintro g hg
  obtain ⟨x,hx,rfl⟩:=List.mem_map.1 hg
  obtain ⟨h1,h2⟩:=hN x hx
  refine ⟨⟨x.1,0,1,x.2.length⟩, ?_,rfl,rfl,rfl⟩
  simp only [globQ,if_neg (Nat.ne_of_lt h1),globP,if_pos h1,h2,Option.map_some]
 ·intro i t e
  rcases at' i t e with ⟨rfl,rfl⟩|⟨h1,l,h2,rfl⟩
  ·exact ⟨by rw [List.length_append,hlen];simp,(Array.getElem?_eq_some_iff.1 hc0).1⟩
  ·obtain ⟨l',el,fr,h3,_⟩:=hp i l h2
   exact ⟨by rw [List.length_append,hlen];simp;omega,(Array.getElem?_eq_some_iff.1 h3).1⟩
 ·intro i t k _ e ek _
  rcases at' i t e with ⟨rfl,rfl⟩|⟨h1,l,h2,rfl⟩
  ·rcases get' _ k ek with ⟨_,rfl⟩|⟨hh,_⟩
   ·exact ⟨hz.symm,c0,el0,fr0,hc0,hc1,by simpa using hc2,fun j v ej=>by simp at ej,fun hh=>by cases hh⟩
   ·omega
  ·rcases get' _ k ek with ⟨hh,_⟩|⟨_,rfl⟩
   ·omega
   ·obtain ⟨l',el,fr,h3,h4,h5⟩:=hp i l h2
    rw [h2]
    refine ⟨rfl,l'.toArray,el,fr,h3,by simpa using h4,by simp [h4],fun j v ej => ?_,fun hh=>by cases hh⟩
    obtain ⟨v',e1,e2⟩:=h5 j v (by simpa using ej)
    exact ⟨v',by simpa using e1,e2⟩
 ·intro i t k e ek
  rcases at' i t e with ⟨rfl,rfl⟩|⟨h1,l,h2,rfl⟩
  ·rcases get' _ k ek with ⟨_,rfl⟩|⟨hh,_⟩
   ·exact hz.symm
   ·omega
  ·rcases get' _ k ek with ⟨hh,_⟩|⟨_,rfl⟩
   ·omega
   ·rfl
 ·intro i i' t t' k k' e e' ek ek' hrw
  rcases get' _ k ek with ⟨_,rfl⟩|⟨_,rfl⟩<;>cases hrw
 ·intro i k e
  rcases get' _ k e with ⟨_,rfl⟩|⟨_,rfl⟩<;>rfl
def glNE:Nat:=max 1 2+1
def glLE:List (Nat×List Value):= [(1,powV),(2,[.iface 266 (.pointer (some ⟨glNE,0,none⟩))])]
def glGE:List (Nat×Nat):= [(1,20),(2,1)]
def glHE:Heap:=globH glLE glNE++ [⟨[],1, .ro⟩]
theorem globGE:globG glLE=glGE:=by
 show [(1,powV.length),(2,1)]=_
 rw [powV_len];rfl
theorem glHE_at {h:Heap} (hp:glHE<+:h):PowAt glGE h∧ErrAt glGE h:=by
 refine ⟨PowAt.mono ⟨by simp [glGE], ?_⟩ hp,ErrAt.mono ⟨by simp [glGE],266,glNE, ?_⟩ hp⟩
 ·show (globH glLE glNE++_)[1]? = _
  rw [List.getElem?_append_left (by simp [globH,glNE])]
  simp [globH,glNE,glLE,List.lookup]
 ·show (globH glLE glNE++_)[2]? = _
  rw [List.getElem?_append_left (by simp [globH,glNE])]
  simp [globH,glNE,glLE,List.lookup]
theorem err_row (u : TypeId) (h : Tryz.prog.typeName? 3 u = some "*errors.errorString") : u = 266 :=
 typeName_ptr_named (nm := "errors.errorString") (by kernel_rfl) (by kernel_rfl) (by decide) u h
theorem glob_ex {W:World} (h:laidMetH Tryz.prog Rows.fnExactExecuteCommandRow.laid W): ∃t0:Tgt,HRel glGE (globQ glLE glNE t0) glHE W∧allRo glHE:=by
 rw [MakeChecks.laidMetH_plain _ _ _ (by kernel_rfl)] at h
 have h3:laidMet Tryz.prog ((_,Lib.tabData .u64 Lib.pow10Tab)::_) W:=laidMet.tail (laidMet.tail h)
 have t:=Lib.tabIs_of_head (g:=1) (t:=242) (e:=81) (n:=20) (by kernel_rfl) (by kernel_rfl) (by kernel_rfl) (by kernel_rfl) (by kernel_rfl) (by kernel_rfl) h3
 have h5:=laidMet.tail (laidMet.tail (laidMet.tail h3))
 obtain ⟨a,s,hv0,hc0,_,_⟩:=laid_sentinel (g:=2) (ti:=160) (tp:=266) (te:=268) (ts:=9) h5 (by kernel_rfl) (by kernel_rfl) Tryz.underlying160 err_row Tryz.underlying266 Tryz.underlying268 rfl rfl Tryz.underlying9 (by kernel_rfl) (by kernel_rfl)
 obtain ⟨b,off,spot⟩:=a
 unfold World.cell? at hc0
 simp only at hc0
 split at hc0
 ·rename_i c el fr hcl
  cases spot with
  | some _=>simp at hc0
  | none=>
   simp only [Option.isSome_none,if_false,Bool.false_eq_true] at hc0
   have hoff:off<c.size:=(Array.getElem?_eq_some_iff.1 hc0).1
   refine ⟨⟨b,off,1,c.size⟩, ?_⟩
   rw [←globGE]
   refine glob_relE ?_ ⟨c,el,fr,hcl,rfl,by simp only;omega⟩ rfl ?_
   ·intro x hx
    simp only [glLE,List.mem_cons,List.not_mem_nil,or_false] at hx
    rcases hx with rfl|rfl<;>exact ⟨Nat.le_of_ble_eq_true rfl,rfl⟩
   ·intro i l e
    unfold glLE at e
    rw [List.lookup_cons] at e
    split at e
    ·rename_i hi
     obtain rfl:i=1:=by simpa using hi
     cases e
     obtain ⟨el2,fr2,e2⟩:=var_cells (by kernel_rfl) t
     exact ⟨powV,el2,fr2,e2,rfl,fun j v ej=>⟨v,ej,(powV_plain v (List.mem_of_getElem? ej)).rel⟩⟩
    ·rw [List.lookup_cons] at e
     split at e
     ·rename_i hi
      obtain rfl:i=2:=by simpa using hi
      cases e
      obtain ⟨el2,fr2,e2⟩:=var_cells (by kernel_rfl) hv0
      refine ⟨[.iface 266 (.pointer (some ⟨b,off,none⟩))],el2,fr2,e2,rfl,fun j v ej => ?_⟩
      have hj:j=0:=by
       have:=(List.getElem?_eq_some_iff.1 ej).1
       simp at this;omega
      subst hj
      cases ej
      refine ⟨_,rfl, .iface ?_⟩
      have:=VRel.ptr (p:=globQ glLE glNE ⟨b,off,1,c.size⟩) (id:=glNE) (off:=0) (t:=⟨b,off,1,c.size⟩) (by simp [globQ])
      simpa using this
     ·cases e
 ·cases hc0
noncomputable def glT {W:World} (h:laidMetH Tryz.prog Rows.fnExactExecuteCommandRow.laid W):Tgt:=(glob_ex h).choose
theorem glob_metE {W:World} (h:laidMetH Tryz.prog Rows.fnExactExecuteCommandRow.laid W):HRel glGE (globQ glLE glNE (glT h)) glHE W∧allRo glHE:=(glob_ex h).choose_spec
open Go.HH Go.Proofs
theorem scrR_len {C:Con} {s:ByteArray}:(scrR C s).length<=30:=by
 unfold scrR
 split
 ·rename_i h
  rw [reps_len];exact h.2.2
 ·exact Nat.zero_le _
section
variable {G : List (Nat × Nat)} {h : Heap} {M : Nat → Prop}
set_option maxHeartbeats 4000000 in
theorem l_RunScript (pw:PowAt G h) (er:ErrAt G h) (c:Con) (s:ByteArray) (wP wV:Value) (sc:ConS h.length h c wP wV) (hb:ConB c):vCall G Tryz.prog M 6 [conV c wP wV, .string s] h (fun r _=>r = .bool true):=by
 refine body_of mo Tryz.func6 rfl (by kernel_rfl) (Nat.le_of_ble_eq_true (by kernel_rfl)) rfl ?_
 have cv:conV c wP wV = .agg #[.int .i64 c.N,wP,wV, .int .i64 c.src, .string c.D, .string c.Q, .int .i64 c.cnt]:=rfl
 simp only [go_sem,conV]
 by_cases h0:(1048576:Int)<(s.size:Nat)
 ·simp only [go_sem,h0]
 simp only [go_sem,h0]
 have hs:s.size<=1048576:=by omega
 rw [←cv]
 refine ⟨by kernel_rfl,((c_szConsole c wP wV (sc.mono (by simp)) hb _ rfl).addG).use (fun _ m=>m) ?_⟩
 rintro _ _ ⟨⟨z,rfl,hz⟩,⟨t,rfl⟩⟩
 by_cases h1:z<0
 ·simp only [go_sem,h1]
 have hc:=conSize_small (fun hh=>h1 (hz.2 hh))
 have hL:(scrR c s).length<=1000:=Nat.le_trans scrR_len (by decide)
 have hL2:(scrR c s).length<=1048576:=Nat.le_trans hL (by decide)
 simp only [go_sem,h1]
 rw [←cv]
 refine ⟨by kernel_rfl,((c_toConsole c wP wV (sc.mono (by simp)) hc).addG).use (fun _ m=>m) ?_⟩
 rintro _ _ ⟨⟨xP,xV,rfl,f1⟩,⟨t1,rfl⟩⟩
 try simp only [List.append_assoc,List.cons_append] at f1
 try simp only [go_sem]
 refine ⟨by kernel_rfl,((c_sRunScript c s xP xV f1.s hc hs).addG).use (fun _ m=>m) ?_⟩
 rintro _ _ ⟨⟨u0,rfl,q0⟩,⟨t2,rfl⟩⟩
 try simp only [List.append_assoc,List.cons_append] at q0
 simp only [go_sem]
 rw [←cv]
 refine ⟨by kernel_rfl,((c_toConsole c wP wV (sc.mono (by simp)) hc).addG).use (fun _ m=>m) ?_⟩
 rintro _ _ ⟨⟨yP,yV,rfl,f2⟩,⟨t3,rfl⟩⟩
 try simp only [List.append_assoc,List.cons_append] at f2
 simp only [go_sem,conV,frOne f2.p,frOne f2.v,Bool.and_self]
 have cy:conV c yP yV = .agg #[.int .i64 c.N,yP,yV, .int .i64 c.src, .string c.D, .string c.Q, .int .i64 c.cnt]:=rfl
 rw [←cy]
 refine ⟨by kernel_rfl,(c_RunScript (pw.mono (by simp)) (er.mono (by simp)) c s yP yV (f2.s.mono (by simp)) ((FR.eszC f2.v).mono (by simp)) hc hs).use (fun _ m=>m) ?_⟩
 rintro _ _ ⟨⟨g0,rfl,q1⟩,⟨t4,rfl⟩⟩
 try simp only [List.append_assoc,List.cons_append] at q1
 simp only [go_sem]
 refine ⟨by kernel_rfl,((c_eqStringS g0 u0 (scrR c s) (q1.sl.mono (by simp)) (q0.sl.mono (by simp)) hL2).addG).use (fun _ m=>m) ?_⟩
 rintro _ _ ⟨rfl,⟨t5,rfl⟩⟩
 simp only [go_sem,Tryz.underlying4,bne_self_eq_false]
 try rw [←cv]
 refine ⟨by kernel_rfl,((c_toConsole c wP wV (sc.mono (by simp)) hc).addG).use (fun _ m=>m) ?_⟩
 rintro _ _ ⟨⟨zP,zV,rfl,f3⟩,⟨t6,rfl⟩⟩
 try simp only [List.append_assoc,List.cons_append] at f3
 try simp only [go_sem]
 try rw [←cy]
 refine ⟨by kernel_rfl,((c_eqConsoleE c yP yV zP zV (f2.s.mono (by simp)) f3.s hc.1 hc.2.1).addG).use (fun _ m=>m) ?_⟩
 rintro _ _ ⟨rfl,⟨t7,rfl⟩⟩
 simp only [go_sem]
 obtain ⟨H,hH⟩: ∃H:Heap,H=h++⟨[.int .i64 c.N,wP,wV, .int .i64 c.src, .string c.D, .string c.Q, .int .i64 c.cnt],7, .rw⟩::(t++(t1++(t2++(t3++⟨[.int .i64 c.N,yP,yV, .int .i64 c.src, .string c.D, .string c.Q, .int .i64 c.cnt],7, .rw⟩::(t4++(t5++(t6++t7))))))):=⟨_,rfl⟩
 rw [←hH]
 obtain ⟨p6,hp6⟩: ∃p,p=h.length+(t.length+(t1.length+t2.length)+1):=⟨_,rfl⟩
 obtain ⟨p8,hp8⟩: ∃p,p=h.length+(t.length+(t1.length+(t2.length+t3.length))+1):=⟨_,rfl⟩
 obtain ⟨p9,hp9⟩: ∃p,p=h.length+(t.length+(t1.length+(t2.length+(t3.length+(t4.length+1))))+1):=⟨_,rfl⟩
 have lH:p9<=H.length:=by rw [hH,hp9];simp;try omega
 have hpre:h<+:H:=by rw [hH];exact List.prefix_append _ _
 have gB:hget H h.length=some ⟨[.int .i64 c.N,wP,wV, .int .i64 c.src, .string c.D, .string c.Q, .int .i64 c.cnt],7, .rw⟩:=by rw [hH,hget_app0];rfl
 have q0H:FQs (h.length+1) p6 1 H u0 ((scrR c s).map sv1):=by rw [hH];exact (q0.mono (by simp)).wide (by simp;try omega) (by simp [hp6];try omega)
 have q8H:ConQ p6 p8 H c yP yV:=by rw [hH];exact (f2.q.mono (by simp)).wide (by simp [hp6];try omega) (by simp [hp8];try omega)
 have q1H:FQs (p8+1) p9 1 H g0 ((scrR c s).map sv1):=by rw [hH];exact (q1.mono (by simp)).wide (by simp [hp8];try omega) (by simp [hp9];try omega)
 have o1:h.length+1<=p6:=by omega
 have o2:p6<=p8:=by omega
 have o3:p8+1<=p9:=by omega
 clear hH q0 q1 f1 f2 f3
 refine ⟨by kernel_rfl,((c_markConsole c yP yV q8H (by omega) (fun i a b=>Or.inl (by omega)) _ (by omega) hc.1 hc.2.1).addG).use (fun _ m=>m) ?_⟩
 rintro _ H1 ⟨rfl,_,ag1⟩
 have l1:=ag1.1
 have pre1:=Agr.keep ag1 hpre (by omega)
 have gB1:=(ag1.2 h.length (by omega) (by omega)).trans gB
 have q01:=q0H.agr ag1 (by omega)
 have q11:=q1H.agr ag1 (by omega)
 clear gB q0H q1H q8H ag1 hpre
 have m1: ¬(1+4*(c.P.length:Int)+4*(c.V.length:Int)<0):=by omega
 simp only [go_sem,m1]
 refine ⟨by kernel_rfl,((c_eqStringS g0 u0 (scrR c s) q11.sl q01.sl hL2).addG).use (fun _ m=>m) ?_⟩
 rintro _ _ ⟨rfl,⟨t8,rfl⟩⟩
 have gB2:hget (H1++t8) h.length=_:=(hget_prefix (List.prefix_append _ _) (by omega)).trans gB1
 have q02:=q01.mono (List.prefix_append _ t8)
 have q12:=q11.mono (List.prefix_append _ t8)
 have pre2:=pre1.trans (List.prefix_append _ t8)
 have l2:H1.length<=(H1++t8).length:=by simp
 generalize H1++t8=H2 at gB2 q02 q12 pre2 l2 ⊢
 clear gB1 q01 q11 pre1
 simp only [go_sem,m1,Tryz.underlying4,bne_self_eq_false]
 refine ⟨by kernel_rfl,((c_markStringS g0 (scrR c s) q12 (fun i a b=>Or.inl (by omega)) 1 (by omega) hL).addG).use (fun _ m=>m) ?_⟩
 rintro _ H3 ⟨rfl,k13,ag3⟩
 have l3:=ag3.1
 have pre3:=Agr.keep ag3 pre2 (by omega)
 have gB3:=(ag3.2 h.length (by omega) (by omega)).trans gB2
 have q03:=q02.agr ag3 (by omega)
 clear gB2 q02 q12 ag3 pre2
 try simp only [go_sem]
 refine ⟨by kernel_rfl,((c_heldStringS g0 (scrR c s).length 1 (by omega) k13.sl hL).addG).use (fun _ m=>m) ?_⟩
 rintro _ _ ⟨rfl,⟨t9,rfl⟩⟩
 have gB4:hget (H3++t9) h.length=_:=(hget_prefix (List.prefix_append _ _) (by omega)).trans gB3
 have q04:=q03.mono (List.prefix_append _ t9)
 have k14:=k13.mono (List.prefix_append _ t9)
 have pre4:=pre3.trans (List.prefix_append _ t9)
 have l4:H3.length<=(H3++t9).length:=by simp
 generalize H3++t9=H4 at gB4 q04 k14 pre4 l4 ⊢
 clear gB3 q03 k13 pre3
 have n1: ¬(((1+(scrR c s).length:Nat):Int)<0):=by omega
 simp only [go_sem,n1,bne_self_eq_false,gB4]
 try rw [←cv]
 refine ⟨by kernel_rfl,((c_toConsole c wP wV (sc.mono pre4) hc).addG).use (fun _ m=>m) ?_⟩
 rintro _ _ ⟨⟨vP,vV,rfl,f5⟩,⟨t10,rfl⟩⟩
 try simp only [go_sem]
 refine ⟨by kernel_rfl,(c_RunScript (pw.mono (pre4.trans (List.prefix_append _ _))) (er.mono (pre4.trans (List.prefix_append _ _))) c s vP vV f5.s (FR.eszC f5.v) hc hs).use (fun _ m=>m) ?_⟩
 rintro _ _ ⟨⟨j0,rfl,q5⟩,⟨t11,rfl⟩⟩
 try simp only [List.append_assoc,List.cons_append] at q5
 have hp:H4<+:H4++(t10++t11):=by simp
 simp only [go_sem]
 refine ⟨by kernel_rfl,((c_eqStringS j0 u0 (scrR c s) (by first|exact q5.sl|simpa using q5.sl) (q04.sl.mono (by simp)) hL2).addG).use (fun _ m=>m) ?_⟩
 rintro _ _ ⟨rfl,⟨t12,rfl⟩⟩
 simp only [go_sem,Tryz.underlying4,bne_self_eq_false]
 refine ⟨by kernel_rfl,((c_heldStringS g0 (scrR c s).length 1 (by omega) (k14.sl.mono (by simp)) hL).addG).use (fun _ m=>m) ?_⟩
 rintro _ _ ⟨rfl,⟨t13,rfl⟩⟩
 simp only [go_sem,n1,bne_self_eq_false]
end
theorem a_FnExactRunScript (h:Heap) (a:List Value) (hp:glHE<+:h) (ft:FitsAll h [.struct (.pair (.struct (.pair (.int .i64) (.pair (.slice (.struct (.pair (.int .i64) (.pair (.int .i64) (.pair (.int .i64) (.pair (.int .i64) .unit)))))) .unit))) (.pair (.slice (.struct (.pair (.int .i64) (.pair (.int .i64) (.pair (.int .i64) (.pair .bool .unit)))))) (.pair (.int .i64) (.pair (.struct (.pair .str (.pair .str (.pair (.int .i64) .unit)))) .unit)))), .str] a):vCall glGE Tryz.prog (fun _=>False) 6 a h (fun r _=>r = .bool true):=by
 obtain ⟨v,vs,rfl,f,g⟩:=ft.cons
 obtain ⟨v2,vs,rfl,f2,g⟩:=g.cons
 obtain rfl:=g.nil
 obtain ⟨c,wP,wV,rfl,s,hb⟩:=Fits.cons f
 obtain ⟨x,rfl,_⟩:=FitV.str f2
 exact l_RunScript (glHE_at hp).1 (glHE_at hp).2 c x wP wV s hb
end Go.Proofs.YtedidddimikjhaaGreatDoor
