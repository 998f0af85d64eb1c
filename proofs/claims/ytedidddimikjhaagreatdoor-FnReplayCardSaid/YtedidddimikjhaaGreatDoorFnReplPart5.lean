/- Texts of this claim, joined. No condition. -/
import Derived.Test.YtedidddimikjhaaGreatDoorFnReplPart4
open List (length_map prefix_append append_assoc length_append getElem?_eq_getElem getElem_map length_take getElem_mem getElem?_append_left getElem?_append_right length_cons getElem?_cons_zero mem_map getElem?_cons_succ length_nil mem_iff_getElem mem_cons map_cons append_nil length_pos_iff mem_append mem_of_getElem? flatten_cons getElem?_set_ne any_eq_true take_left' length_set flatten_append mem_singleton mem_append_left take_append_drop)
open Nat (le_refl le_trans add_zero zero_le lt_of_lt_of_le lt_succ_self min_eq_left zero_lt_of_lt add_sub_cancel_left)
set_option linter.unusedSimpArgs false
set_option linter.unusedVariables false
namespace Go.Proofs.YtedidddimikjhaaGreatDoor
open Go.HH
def ball(P:List Pip)(s:Int):Nat->Int->Bool
 | 0,v=>v==s
 | k+1,v=>ball P s k v||P.any fun p=>(ball P s k p.2.1&&p.2.2.1==v)||(ball P s k p.2.2.1&&p.2.1==v)
def adj(P:List Pip)(a b:Int):Prop:= ∃p∈P,(p.2.1=a∧p.2.2.1=b)∨(p.2.2.1=a∧p.2.1=b)
theorem adj.symm{P:List Pip}{a b:Int}(h:adj P a b):adj P b a:=by
 obtain⟨p,hp,h|h⟩:=h
 ·exact⟨p,hp, .inr ⟨h.2,h.1⟩⟩
 ·exact⟨p,hp, .inl ⟨h.2,h.1⟩⟩
theorem ball_zero{P:List Pip}{s v:Int}:ball P s 0 v=true↔v=s:=by simp[ball]
theorem ball_succ{P:List Pip}{s v:Int}{k:Nat}:ball P s (k+1) v=true↔ball P s k v=true∨∃a,ball P s k a=true∧adj P a v:=by
 simp only[ball,Bool.or_eq_true,any_eq_true,Bool.and_eq_true,beq_iff_eq]
 refine or_congr Iff.rfl ⟨?_, ?_⟩
 ·rintro⟨p,hp,⟨h1,h2⟩|⟨h1,h2⟩⟩
  ·exact⟨_,h1,p,hp, .inl ⟨rfl,h2⟩⟩
  ·exact⟨_,h1,p,hp, .inr ⟨rfl,h2⟩⟩
 ·rintro⟨a,h,p,hp,⟨rfl,h2⟩|⟨rfl,h2⟩⟩
  ·exact⟨p,hp, .inl ⟨h,h2⟩⟩
  ·exact⟨p,hp, .inr ⟨h,h2⟩⟩
theorem ball_mono{P:List Pip}{s v:Int}{j k:Nat}(h:j<=k)(hb:ball P s j v=true):ball P s k v=true:=by
 induction h with
 | refl=>exact hb
 | step _ ih=>exact ball_succ.2 (.inl ih)
theorem ball_pre{P:List Pip}{a b:Int}(hab:adj P a b): ∀ {k:Nat} {v:Int},ball P b k v=true->ball P a (k+1) v=true
 | 0,v,h=>by
  rw[ball_zero] at h
  subst h
  exact ball_succ.2 (.inr ⟨a,ball_zero.2 rfl,hab⟩)
 | k+1,v,h=>by
  rcases ball_succ.1 h with h|⟨c,h,hc⟩
  ·exact ball_mono (Nat.le_succ _) (ball_pre hab h)
  ·exact ball_succ.2 (.inr ⟨c,ball_pre hab h,hc⟩)
theorem ball_symm{P:List Pip}{s:Int}: ∀ {k:Nat} {v:Int},ball P s k v=true->ball P v k s=true
 | 0,v,h=>by rw[ball_zero] at h ⊢;exact h.symm
 | k+1,v,h=>by
  rcases ball_succ.1 h with h|⟨c,h,hc⟩
  ·exact ball_mono (Nat.le_succ _) (ball_symm h)
  ·exact ball_pre hc.symm (ball_symm h)
def ends(N:Int)(P:List Pip):Prop:= ∀p∈P,(1<=p.2.1∧p.2.1<=N)∧(1<=p.2.2.1∧p.2.2.1<=N)∧p.2.1≠p.2.2.1
theorem ends.adj{N:Int}{P:List Pip}(he:ends N P){a b:Int}(h:adj P a b):1<=b∧b<=N:=by
 obtain⟨p,hp,h|h⟩:=h
 ·have:=he p hp;omega
 ·have:=he p hp;omega
theorem ball_in{N:Int}{P:List Pip}(he:ends N P){s:Int}(hs:1<=s∧s<=N): ∀ {k:Nat} {v:Int},ball P s k v=true->1<=v∧v<=N
 | 0,v,h=>by rw[ball_zero] at h;omega
 | k+1,v,h=>by
  rcases ball_succ.1 h with h|⟨c,h,hc⟩
  ·exact ball_in he hs h
  ·exact he.adj hc
theorem countP_lt{α:Type}{p q:α->Bool}: ∀ {l:List α},(∀x∈l,p x=true->q x=true)->(∃x∈l,q x=true∧p x=false)->l.countP p<l.countP q
 | [],_,h=>by obtain⟨x,hx,_⟩:=h;simp at hx
 | y::l,hm,h=>by
  have hle:l.countP p<=l.countP q:=List.countP_mono_left fun x hx=>hm x (by simp[hx])
  have hy:=hm y (by simp)
  simp only[List.countP_cons]
  by_cases hex: ∃x∈l,q x=true∧p x=false
  ·have ih:=countP_lt (l:=l) (fun x hx=>hm x (by simp[hx])) hex
   cases hp:p y with
   | false=>cases hq:q y<;>simp<;>omega
   | true=>rw[hy hp];simp;omega
  ·obtain⟨x,hx,h1,h2⟩:=h
   rcases mem_cons.1 hx with rfl|hx
   ·rw[h1,h2];simp;omega
   ·exact absurd ⟨x,hx,h1,h2⟩ hex
theorem ball_stop{N:Nat}{P:List Pip}(he:ends N P){s:Int}(hs:1<=s∧s<=N){k:Nat}{v:Int}(h:ball P s k v=true):ball P s N v=true:=by
 have grow: ∀k,k+1<=(List.range N).countP (fun i:Nat=>ball P s k ((i:Int)+1))∨∃j,j<=k∧∀v,ball P s (j+1) v=true->ball P s j v=true:=by
  intro k
  induction k with
  | zero=>
   refine .inl ?_
   have:0<(List.range N).countP (fun i:Nat=>ball P s 0 ((i:Int)+1)):=by
    rw[List.countP_pos_iff]
    exact⟨(s-1).toNat,by simp;omega,by rw[ball_zero];omega⟩
   omega
  | succ k ih=>
   rcases ih with ih|⟨j,hj,hst⟩
   ·by_cases hstop: ∀v,ball P s (k+1) v=true->ball P s k v=true
    ·exact .inr ⟨k,by omega,hstop⟩
    ·simp only[Classical.not_forall] at hstop
     obtain⟨v,hv,hn⟩:=hstop
     have hr:=ball_in he hs hv
     refine .inl (Nat.lt_of_le_of_lt ih (countP_lt (fun x _ hx=>ball_mono (Nat.le_succ _) hx) ⟨(v-1).toNat,by simp;omega, ?_, ?_⟩))
     ·rw[show (((v-1).toNat:Nat):Int)+1=v by omega];exact hv
     ·rw[show (((v-1).toNat:Nat):Int)+1=v by omega];simpa using hn
   ·exact .inr ⟨j,by omega,hst⟩
 obtain⟨j,hj,hst⟩: ∃j,j<=N∧∀v,ball P s (j+1) v=true->ball P s j v=true:=by
  rcases grow N with h|h
  ·have:=List.countP_le_length (p:=fun i:Nat=>ball P s N ((i:Int)+1)) (l:=List.range N)
   rw[List.length_range] at this
   omega
  ·exact h
 have all: ∀m v,ball P s (j+m) v=true->ball P s j v=true:=by
  intro m
  induction m with
  | zero=>exact fun v hv=>hv
  | succ m ih=>
   intro v hv
   rcases ball_succ.1 (show ball P s (j+m+1) v=true from hv) with h1|⟨a,h1,h2⟩
   ·exact ih v h1
   ·exact hst v (ball_succ.2 (.inr ⟨a,ih a h1,h2⟩))
 rcases Nat.le_total k j with h1|h1
 ·exact ball_mono (le_trans h1 hj) h
 ·refine ball_mono hj (all (k-j) v ?_)
  rwa [show j+(k-j)=k by omega]
def dv(D:List Int)(v:Int):Int:=D.getD v.toNat (-1)
theorem dv_set{D:List Int}{v w x:Int}(hv:1<=v)(hw:1<=w)(hl:v.toNat<D.length):dv (D.set v.toNat x) w=if w=v then x else dv D w:=by
 unfold dv
 by_cases h:w=v
 ·subst h
  simp[List.getD,hl]
 ·rw[if_neg h]
  have:v.toNat≠w.toNat:=by omega
  simp[List.getD,getElem?_set_ne this]
structure Bfs(P:List Pip)(s:Int)(N:Nat)(D:List Int)(Q:List Int):Prop where
 len:D.length=N+1
 src:dv D s=0
 low: ∀v:Int,1<=v->v<=N -> -1<=dv D v
 snd: ∀v:Int,1<=v->v<=N->∀k:Nat,dv D v=k->ball P s k v=true
 qin: ∀q∈Q,(1<=q∧q<=N)∧0<=dv D q
 done: ∀v:Int,1<=v->v<=N->0<=dv D v->v∉Q->∀b,adj P v b->0<=dv D b∧dv D b<=dv D v+1
 sorted:Q.Pairwise fun a b=>dv D a<=dv D b
 top: ∀q∈Q,∀v:Int,1<=v->v<=N->dv D v<=dv D q+1
theorem Bfs.init{P:List Pip}{s:Int}{N:Nat}(hs:1<=s∧s<=N):Bfs P s N ((List.replicate (N+1) (-1:Int)).set s.toNat 0) [s]:=by
 have hd: ∀w:Int,1<=w->dv ((List.replicate (N+1) (-1:Int)).set s.toNat 0) w=if w=s then 0 else -1:=fun w hw=>by
  rw[dv_set hs.1 hw (by simp;omega)]
  have:dv (List.replicate (N+1) (-1:Int)) w = -1:=by
   unfold dv
   rw[List.getD_eq_getElem?_getD,List.getElem?_replicate]
   split<;>rfl
  rw[this]
 refine⟨by simp,by rw[hd s hs.1,if_pos rfl],fun v h1 h2=>by rw[hd v h1];split<;>omega,fun v h1 h2 k hk => ?_,fun q hq => ?_,fun v h1 h2 h3 h4 => ?_,by simp,fun q hq v h1 h2 => ?_⟩
 ·rw[hd v h1] at hk
  split at hk
  ·rename_i h;exact ball_mono (zero_le _) (ball_zero.2 h)
  ·omega
 ·obtain rfl:q=s:=by simpa using hq
  exact⟨hs,by rw[hd q hs.1,if_pos rfl];omega⟩
 ·rw[hd v h1] at h3
  split at h3
  ·rename_i h;exact absurd (by simp[h]) h4
  ·omega
 ·obtain rfl:q=s:=by simpa using hq
  rw[hd v h1,hd q hs.1,if_pos rfl]
  split<;>omega
theorem Bfs.push{P:List Pip}{s:Int}{N:Nat}{D R:List Int}{q to:Int}(hs:1<=s∧s<=N)(b:Bfs P s N D (q::R))(hto:1<=to∧to<=N)(hadj:adj P q to)(hneg:dv D to<0) :
  Bfs P s N (D.set to.toNat (dv D q+1)) (q::R++ [to]):=by
 obtain⟨hq1,hq2⟩:=b.qin q (by simp)
 have hd: ∀w:Int,1<=w->dv (D.set to.toNat (dv D q+1)) w=if w=to then dv D q+1 else dv D w:=fun w hw=>dv_set hto.1 hw (by rw[b.len];omega)
 have hqt:q≠to:=fun h=>by rw[h] at hq2;omega
 have hst:s≠to:=fun h=>by have:=b.src;rw[h] at this;omega
 have hmem: ∀r,r∈q::R->r≠to:=fun r hr h=>by have:=(b.qin r hr).2;rw[h] at this;omega
 have hqle: ∀r,r∈q::R->dv D q<=dv D r:=fun r hr=>by
  rcases mem_cons.1 hr with rfl|hr
  ·exact Int.le_refl _
  ·exact (List.pairwise_cons.1 b.sorted).1 r hr
 refine⟨by rw[length_set];exact b.len,by rw[hd s hs.1,if_neg hst];exact b.src,fun v h1 h2 => ?_,fun v h1 h2 k hk => ?_,fun r hr => ?_,fun v h1 h2 h3 h4 c hc => ?_, ?_,fun r hr v h1 h2 => ?_⟩
 ·rw[hd v h1]
  split
  ·omega
  ·exact b.low v h1 h2
 ·rw[hd v h1] at hk
  split at hk
  ·rename_i h
   subst h
   have:ball P s (dv D q).toNat q=true:=b.snd q hq1.1 hq1.2 _ (by omega)
   have h2:=ball_succ.2 (.inr ⟨q,this,hadj⟩)
   rwa [show (dv D q).toNat+1=k by omega] at h2
  ·exact b.snd v h1 h2 k hk
 ·rcases mem_append.1 hr with hr|hr
  ·obtain⟨h1,h2⟩:=b.qin r hr
   exact⟨h1,by rw[hd r h1.1,if_neg (hmem r hr)];exact h2⟩
  ·obtain rfl:r=to:=by simpa using hr
   exact⟨hto,by rw[hd r hto.1,if_pos rfl];omega⟩
 ·have hvt:v≠to:=fun h=>h4 (by simp[h])
  rw[hd v h1,if_neg hvt] at h3 ⊢
  obtain⟨g1,g2⟩:=b.done v h1 h2 h3 (fun h=>h4 (mem_append_left _ h)) c hc
  have hct:c≠to:=fun h=>by rw[h] at g1;omega
  have hc1:1<=c∨¬1<=c:=by omega
  rcases hc1 with hc1|hc1
  ·rw[hd c hc1,if_neg hct];exact⟨g1,g2⟩
  ·have:dv (D.set to.toNat (dv D q+1)) c=dv D c:=by
    unfold dv
    have:to.toNat≠c.toNat:=by omega
    simp[List.getD,getElem?_set_ne this]
   rw[this];exact⟨g1,g2⟩
 ·rw[List.pairwise_append]
  refine⟨b.sorted.imp_of_mem fun {x y} hx hy hxy => ?_,by simp,fun x hx y hy => ?_⟩
  ·rw[hd x (b.qin x hx).1.1,hd y (b.qin y hy).1.1,if_neg (hmem x hx),if_neg (hmem y hy)];exact hxy
  ·obtain rfl:y=to:=by simpa using hy
   rw[hd x (b.qin x hx).1.1,if_neg (hmem x hx),hd y hto.1,if_pos rfl]
   exact b.top q (by simp) x (b.qin x hx).1.1 (b.qin x hx).1.2
 ·rcases mem_append.1 hr with hr|hr
  ·have hq3:=hqle r hr
   rw[hd r (b.qin r hr).1.1,if_neg (hmem r hr),hd v h1]
   split
   ·omega
   ·exact b.top r hr v h1 h2
  ·obtain rfl:r=to:=by simpa using hr
   rw[hd r hto.1,if_pos rfl,hd v h1]
   have:=b.top q (by simp) v h1 h2
   split<;>omega
theorem Bfs.pop{P:List Pip}{s:Int}{N:Nat}{D R:List Int}{q:Int}(b:Bfs P s N D (q::R))(hdone: ∀c,adj P q c->0<=dv D c∧dv D c<=dv D q+1):Bfs P s N D R:=by
 refine⟨b.len,b.src,b.low,b.snd,fun r hr=>b.qin r (by simp[hr]),fun v h1 h2 h3 h4 c hc => ?_,(List.pairwise_cons.1 b.sorted).2,fun r hr=>b.top r (by simp[hr])⟩
 by_cases h:v=q
 ·subst h;exact hdone c hc
 ·exact b.done v h1 h2 h3 (by simp[h,h4]) c hc
theorem Bfs.fin{P:List Pip}{s:Int}{N:Nat}{D:List Int}(he:ends N P)(hs:1<=s∧s<=N)(b:Bfs P s N D []){v:Int}(h1:1<=v)(h2:v<=N)(m:Nat):(0<=dv D v∧dv D v<=m)↔ball P s m v=true:=by
 have comp: ∀k v,ball P s k v=true->0<=dv D v∧dv D v<=k:=by
  intro k
  induction k with
  | zero=>
   intro v hv
   rw[ball_zero] at hv
   rw[hv,b.src];simp
  | succ k ih=>
   intro v hv
   rcases ball_succ.1 hv with hv|⟨a,ha,hav⟩
   ·have:=ih v hv;omega
   ·have h3:=ih a ha
    have h4:=ball_in he hs ha
    have:=b.done a h4.1 h4.2 h3.1 (by simp) v hav
    omega
 refine⟨fun⟨h3,h4⟩ => ?_,fun h=>comp m v h⟩
 exact ball_mono (by omega) (b.snd v h1 h2 (dv D v).toNat (by omega))
open Go.HH
section
variable {h:Heap} {M:Nat->Prop}
theorem c_has(N:Int)(w:Value)(n:Int):vCall [] Tryz.prog M 65 [.agg #[.int .i64 N,w], .int .i64 n] h (fun r h'=>r = .bool (decide (1<=n∧n<=N))∧h<+:h'):=by
 refine bo Tryz.func65 rfl rfl ?_
 simp only[go_sem]
 refine (c_inside _ _ _).go ?_
 rintro _ _⟨rfl,rfl⟩
 simp only[go_sem]
 all_goals exact fin_
def pipOk(N:Int)(x:Pip):Prop:=(1<=x.1∧x.1<=99)∧(1<=x.2.1∧x.2.1<=N)∧(1<=x.2.2.1∧x.2.2.1<=N)∧x.2.1≠x.2.2.1∧1<=x.2.2.2∧x.2.2.2<=9
instance {N:Int} {x:Pip}:Decidable (pipOk N x):=by unfold pipOk;infer_instance
def pip0:Pip:=(0,0,0,0)
theorem getDp{l:List Pip}{i:Nat}(hi:i<l.length):l.getD i pip0=l[i]:=by simp[List.getD,hi]
def pipAt(N:Int)(l:List Pip)(i:Nat):Prop:=pipOk N (l.getD i pip0)∧(0<i->(l.getD (i-1) pip0).1<(l.getD i pip0).1)
instance {N:Int} {l:List Pip} {i:Nat}:Decidable (pipAt N l i):=by unfold pipAt;infer_instance
def netGood(N:Int)(l:List Pip):Prop:=(∀i,i<l.length->pipAt N l i)∧(1<=N∧N<=8)∧l.length<=10
instance {N:Int} {l:List Pip}:Decidable (netGood N l):=by unfold netGood;infer_instance
theorem netGood.ends{N:Int}{l:List Pip}(g:netGood N l):ends N l:=by
 intro p hp
 obtain⟨i,hi,rfl⟩:=mem_iff_getElem.1 hp
 have:=(g.1 i hi).1
 rw[getDp hi] at this
 exact⟨this.2.1,this.2.2.1,this.2.2.2.1⟩
theorem c_l2Pipe(N:Int)(x:Pip):vCall [] Tryz.prog M 167 [.int .i64 N, .agg #[.int .i64 x.1, .int .i64 x.2.1, .int .i64 x.2.2.1, .int .i64 x.2.2.2]] h (fun r h'=>r = .bool (decide (pipOk N x))∧h<+:h'):=by
 refine bo Tryz.func167 rfl rfl ?_
 simp only[go_sem]
 refine (c_l1In _ _ _).go ?_
 rintro _ _⟨rfl,rfl⟩
 simp only[go_sem]
 by_cases h1:1<=x.1∧x.1<=99
 ·simp only[go_sem,decb h1]
  refine (c_l1In _ _ _).go ?_
  rintro _ _⟨rfl,rfl⟩
  simp only[go_sem]
  by_cases h2:1<=x.2.1∧x.2.1<=N
  ·simp only[go_sem,decb h1,decb h2]
   refine (c_l1In _ _ _).go ?_
   rintro _ _⟨rfl,rfl⟩
   simp only[go_sem]
   by_cases h3:1<=x.2.2.1∧x.2.2.1<=N
   ·simp only[go_sem,decb h1,decb h2,decb h3]
    by_cases h4:x.2.1=x.2.2.1
    ·simp only[go_sem,show (x.2.1 != x.2.2.1)=false by simpa using h4,decb h1,decb h2,decb h3]
     exact congrArg Value.bool (decide_eq_false (fun hh:pipOk N x=>hh.2.2.2.1 h4)).symm
    ·simp only[go_sem,show (x.2.1 != x.2.2.1)=true by simpa using h4,decb h1,decb h2,decb h3]
     refine (c_l1In _ _ _).go ?_
     rintro _ _⟨rfl,rfl⟩
     simp only[go_sem,show (x.2.1 != x.2.2.1)=true by simpa using h4,decb h1,decb h2,decb h3]
     exact congrArg Value.bool (decide_eq_decide.2 ⟨fun hh=>⟨h1,h2,h3,h4,hh⟩,fun hh=>hh.2.2.2.2⟩)
   ·simp only[go_sem,decb h1,decb h2,dect h3]
    exact congrArg Value.bool (decide_eq_false (fun hh:pipOk N x=>h3 hh.2.2.1)).symm
  ·simp only[go_sem,decb h1,dect h2]
   exact congrArg Value.bool (decide_eq_false (fun hh:pipOk N x=>h2 hh.2.1)).symm
 ·simp only[go_sem,dect h1]
  exact congrArg Value.bool (decide_eq_false (fun hh:pipOk N x=>h1 hh.1)).symm
theorem c_l2Good{n:Nat}(v:Value)(N:Int)(P:List Pip)(s:NA n h v N P)(hmax:P.length<=1048576):vCall [] Tryz.prog M 129 [v] h (fun r h'=>r = .bool (decide (netGood N P))∧h<+:h'):=by
 obtain⟨w,rfl,s⟩:=s
 replace s:Sl h 4 w (P.map pip):=s.1
 obtain⟨a,rfl⟩:=Sl.len4 s
 refine bo Tryz.func129 rfl rfl ?_
 simp only[go_sem]
 refine vLoop.count mo P.length (fun i e h'=> ∃t:Heap,e 1 = .pointer (some ⟨h.length,0,none⟩)∧e 3 = .int .i64 i∧h'=h++⟨[.int .i64 N, .slice a P.length 0],2, .rw⟩::t∧i<=11∧∀j,j<i->pipAt N P j) ?_ ?_
 ·exact⟨[],rfl,rfl,rfl,by omega,fun j hj=>absurd hj (by omega)⟩
 ·rintro i e _ hi ⟨t,e1,e3,rfl,hi11,hj⟩
  simp only[go_sem,e1,e3]
  by_cases hlt:i<P.length
  ·have hlt':i<(P.map pip).length:=by simpa using hlt
   obtain⟨id,off,k,hv,hk,_,hd,hall⟩:=s.all (zero_lt_of_lt hlt')
   obtain rfl:a=some ⟨id,off,none⟩:=by simpa using hv
   have hz:(i:Int)<P.length:=by omega
   obtain⟨hb,hrow,hcell⟩:=hall i hlt'
   have g0:=hcell 0 (by omega)
   rw[getElem_map] at g0 hrow
   simp only[pip,getElem?_cons_zero,add_zero] at g0 hrow
   have gd:P.getD i pip0=P[i]:=getDp hlt
   by_cases h10:(i:Int)<=10
   ·simp only[go_sem,e1,e3,hz,h10,hk,hd,g0,hrow,hb]
    refine (c_l2Pipe _ _).go ?_
    rintro _ _⟨rfl,⟨t2,rfl⟩⟩
    simp only[go_sem,e1,e3]
    by_cases h2:pipOk N P[i]
    ·simp only[go_sem,e1,e3,decb h2]
     by_cases h4:0<i
     ·have hp:i-1<(P.map pip).length:=by omega
      have g2:=(hall (i-1) hp).2.2 0 (by omega)
      rw[getElem_map] at g2
      simp only[pip,getElem?_cons_zero,add_zero] at g2
      have gd2:P.getD (i-1) pip0=P[i-1]:=getDp (by omega)
      have q1:(0:Int)<i:=by omega
      have q2:IntKind.i64.wrap ((i:Int)-1)=((i-1:Nat):Int):=by rw[wrap64 (by omega)];omega
      have q3:((i-1:Nat):Int)<P.length:=by omega
      simp only[go_sem,e1,e3,hk,hz,hd,g0,g2,q1,q2,q3,hrow,decb h2]
      by_cases h5:P[i].1<=P[i-1].1
      ·simp only[go_sem,e1,e3,h5]
       try exact congrArg Value.bool (decide_eq_false (fun hh:netGood N P=>by have:=(hh.1 i hlt).2 h4;rw[gd,gd2] at this;omega)).symm
      ·simp only[go_sem,e1,e3,h5]
       refine⟨hlt,_,by rw[wrap64 (by omega)];rfl,rfl,by omega,fun j hji => ?_⟩
       by_cases hje:j=i
       ·subst hje;exact⟨by rw[gd];exact h2,fun _=>by rw[gd,gd2];omega⟩
       ·exact hj j (by omega)
     ·simp only[go_sem,e1,e3,hk,hz,hd,g0,hrow,decb h2,show ¬((0:Int)<i) by omega]
      refine⟨hlt,_,by rw[wrap64 (by omega)];rfl,rfl,by omega,fun j hji => ?_⟩
      by_cases hje:j=i
      ·subst hje;exact⟨by rw[gd];exact h2,fun h0=>absurd h0 h4⟩
      ·exact hj j (by omega)
    ·simp only[go_sem,e1,e3,dect h2]
     try exact congrArg Value.bool (decide_eq_false (fun hh:netGood N P=>h2 (by rw[←gd];exact (hh.1 i hlt).1))).symm
   ·simp only[go_sem,e1,e3,hz,h10]
    refine (c_l1In _ _ _).go ?_
    rintro _ _⟨rfl,rfl⟩
    have hn: ¬netGood N P:=fun hh=>by have:=hh.2.2;omega
    by_cases h6:1<=N∧N<=8
    ·simp only[go_sem,decb h6,show ¬(P.length:Int)<=10 by omega,e1,dect hn]
    ·simp only[go_sem,dect h6,e1,dect hn]
  ·obtain rfl:i=P.length:=by omega
   simp only[go_sem,e1,e3,show ¬((P.length:Int)<P.length) by omega]
   refine (c_l1In _ _ _).go ?_
   rintro _ _⟨rfl,rfl⟩
   by_cases h6:1<=N∧N<=8
   ·simp only[go_sem,decb h6,e1]
    exact congrArg Value.bool (decide_eq_decide.2 ⟨fun hh=>⟨hj,h6,by omega⟩,fun hh=>by have:=hh.2.2;omega⟩)
   ·simp only[go_sem,dect h6,e1]
    exact congrArg Value.bool (decide_eq_false (fun hh:netGood N P=>h6 hh.2.1)).symm
theorem c_IsValidNetwork {n : Nat} (v : Value) (N : Int) (P : List Pip) (s : NA n h v N P) (hmax : P.length ≤ 1048576) : vCall [] Tryz.prog M 117 [v] h (fun r h' => r = .bool (decide (netGood N P)) ∧ h <+: h') := by
  obtain ⟨w, rfl, s⟩ := s
  replace s : Sl h 4 w (P.map pip) := s.1
  obtain ⟨a, rfl⟩ := Sl.len4 s
  refine bo Tryz.func117 rfl rfl ?_
  simp only [go_sem]
  refine (c_inside _ _ _).go ?_
  rintro _ _ ⟨rfl, rfl⟩
  simp only [go_sem]
  by_cases h6 : 1 ≤ N ∧ N ≤ 8
  · simp only [go_sem, decb h6]
    by_cases h7 : (10 : Int) < P.length
    · simp only [go_sem, h7]
      exact congrArg Value.bool (decide_eq_false (fun hh : netGood N P => by have := hh.2.2; omega)).symm
    · simp only [go_sem, h7]
      refine vLoop.count mo P.length (fun i e h' => ∃ t : Heap, e 1 = .pointer (some ⟨h.length, 0, none⟩) ∧ e 16 = .slice a P.length 0 ∧ e 17 = .int .i64 P.length ∧ e 18 = .int .i64 i ∧ h' = h ++ ⟨[.int .i64 N, .slice a P.length 0], 2, .rw⟩ :: t ∧ ∀ j, j < i → pipAt N P j) ?_ ?_
      · exact ⟨[], rfl, rfl, rfl, rfl, rfl, fun j hj => absurd hj (by omega)⟩
      · rintro i e _ hi ⟨t, e1, e16, e17, e18, rfl, hj⟩
        simp only [go_sem, e1, e16, e17, e18]
        refine .intro (fun h1 => ?_) (fun h1 => ?_)
        · have hlt : i < P.length := by simpa using h1
          have hlt' : i < (P.map pip).length := by simpa using hlt
          obtain ⟨id, off, k, hv, hk, _, hd, hall⟩ := s.all (zero_lt_of_lt hlt')
          obtain rfl : a = some ⟨id, off, none⟩ := by simpa using hv
          have hz : (i : Int) < P.length := by omega
          obtain ⟨hb, hrow, hcell⟩ := hall i hlt'
          rw [getElem_map] at hrow
          simp only [pip] at hrow
          have gd : P.getD i pip0 = P[i] := getDp hlt
          have bad : ¬ pipAt N P i → Value.bool false = Value.bool (decide (netGood N P)) := fun hb => congrArg Value.bool (decide_eq_false (fun hh : netGood N P => hb (hh.1 i hlt))).symm
          simp only [go_sem, e1, e16, e17, e18, hz, hk, hd, hrow, hb]
          refine (c_inside _ _ _).go ?_
          rintro _ _ ⟨rfl, rfl⟩
          by_cases h2 : 1 ≤ P[i].1 ∧ P[i].1 ≤ 99
          · simp only [go_sem, decb h2, e1]
            refine (c_has _ _ _).go ?_
            rintro _ _ ⟨rfl, ⟨t2, rfl⟩⟩
            simp only [go_sem]
            by_cases h3 : 1 ≤ P[i].2.1 ∧ P[i].2.1 ≤ N
            · simp only [go_sem, decb h2, decb h3, e1]
              refine (c_has _ _ _).go ?_
              rintro _ _ ⟨rfl, ⟨t3, rfl⟩⟩
              simp only [go_sem]
              by_cases h4 : 1 ≤ P[i].2.2.1 ∧ P[i].2.2.1 ≤ N
              · simp only [go_sem, decb h2, decb h3, decb h4, e1]
                by_cases h5 : P[i].2.1 = P[i].2.2.1
                · simp only [go_sem, show (P[i].2.1 == P[i].2.2.1) = true by simpa using h5, decb h2, decb h3, decb h4, e1]
                  exact bad fun hh => hh.1.2.2.2.1 (by rw [gd]; exact h5)
                · simp only [go_sem, show (P[i].2.1 == P[i].2.2.1) = false by simpa using h5, decb h2, decb h3, decb h4, e1]
                  refine (c_inside _ _ _).go ?_
                  rintro _ _ ⟨rfl, rfl⟩
                  by_cases h8 : 1 ≤ P[i].2.2.2 ∧ P[i].2.2.2 ≤ 9
                  · have hok : pipOk N P[i] := ⟨h2, h3, h4, h5, h8⟩
                    simp only [go_sem, show (P[i].2.1 == P[i].2.2.1) = false by simpa using h5, decb h2, decb h3, decb h4, decb h8, e1]
                    by_cases h9 : 0 < i
                    · have hp : i - 1 < (P.map pip).length := by omega
                      have g2 := (hall (i - 1) hp).2.2 0 (by omega)
                      rw [getElem_map] at g2
                      simp only [pip, getElem?_cons_zero, add_zero] at g2
                      have gd2 : P.getD (i - 1) pip0 = P[i - 1] := getDp (by omega)
                      have q1 : (0 : Int) < i := by omega
                      have q2 : IntKind.i64.wrap ((i : Int) - 1) = ((i - 1 : Nat) : Int) := by rw [wrap64 (by omega)]; omega
                      have q3 : ((i - 1 : Nat) : Int) < P.length := by omega
                      simp only [go_sem, e1, hk, hz, hd, g2, q1, q2, q3]
                      by_cases h10 : P[i].1 ≤ P[i - 1].1
                      · simp only [go_sem, e1, h10, show (P[i].2.1 == P[i].2.2.1) = false by simpa using h5, decb h2, decb h3, decb h4, decb h8]
                        exact bad fun hh => by have := hh.2 h9; rw [gd, gd2] at this; omega
                      · simp only [go_sem, e1, e16, e17, e18, h10, show (P[i].2.1 == P[i].2.2.1) = false by simpa using h5, decb h2, decb h3, decb h4, decb h8]
                        refine ⟨hlt, _, by rw [wrap64 (by omega)]; rfl, rfl, fun j hji => ?_⟩
                        by_cases hje : j = i
                        · subst hje; exact ⟨by rw [gd]; exact hok, fun _ => by rw [gd, gd2]; omega⟩
                        · exact hj j (by omega)
                    · simp only [go_sem, e1, e16, e17, e18, show ¬ ((0 : Int) < i) by omega, show (P[i].2.1 == P[i].2.2.1) = false by simpa using h5, decb h2, decb h3, decb h4, decb h8]
                      refine ⟨hlt, _, by rw [wrap64 (by omega)]; rfl, rfl, fun j hji => ?_⟩
                      by_cases hje : j = i
                      · subst hje; exact ⟨by rw [gd]; exact hok, fun h0 => absurd h0 h9⟩
                      · exact hj j (by omega)
                  · simp only [go_sem, show (P[i].2.1 == P[i].2.2.1) = false by simpa using h5, decb h2, decb h3, decb h4, dect h8, e1]
                    exact bad fun hh => h8 (by rw [← gd]; exact hh.1.2.2.2.2)
              · simp only [go_sem, decb h2, decb h3, dect h4, e1]
                exact bad fun hh => h4 (by rw [← gd]; exact hh.1.2.2.1)
            · simp only [go_sem, decb h2, dect h3, e1]
              exact bad fun hh => h3 (by rw [← gd]; exact hh.1.2.1)
          · simp only [go_sem, dect h2, e1]
            exact bad fun hh => h2 (by rw [← gd]; exact hh.1.1)
        · simp only [go_sem, e1]
          obtain rfl : i = P.length := by have : ¬ i < P.length := by simpa using h1
                                          omega
          exact congrArg Value.bool (decide_eq_true (show netGood N P from ⟨hj, h6, by omega⟩)).symm
  · simp only [go_sem, dect h6]
    exact congrArg Value.bool (decide_eq_false (fun hh : netGood N P => h6 hh.2.1)).symm
end
open Go.HH
def flQ(l:List Pip):List Value:=(l.map pip).flatten
theorem flQ_snoc{l:List Pip}{p:Pip}:flQ (l++ [p])=flQ l++pip p:=by simp[flQ]
theorem flQ_len{l:List Pip}:(flQ l).length=l.length*4:=by
 induction l with
 | nil=>rfl
 | cons x l ih=>simp only[flQ,map_cons,flatten_cons,length_append,length_cons] at ih ⊢;rw[ih];simp[pip];omega
theorem snoc_lenP{l:List Pip}{x:Pip}:(l++ [x]).length=l.length+1:=by simp
open Go.HH
theorem FC.set{n m sz len j:Nat}{h:Heap}{v:Value}{cs:List Value}(s:FC n m sz len h v cs)(hj: ∀sid,v = .slice (some ⟨sid,0,none⟩) len 0->sid≠j)(b:Blk):FC n m sz len (h.set j b) v cs:=by
 rcases s with s|⟨id,e,e1,e2,e3,e4⟩
 ·exact .inl s
 ·exact .inr ⟨id,e,e1,e2,by rw[hget_set_ne (Ne.symm (hj id e))];exact e3,e4⟩
structure Bst2(h H:Heap)(id n:Nat)(a:Option Addr)(B b2 b3:Nat)(z2:Blk)(x v:Value)(sz len:Nat)(cs:List Value):Prop where
 st:St H id n a B
 out:Agr id (id+1) h H
 r:hget H b2=some z2
 b:hget H b3=some ⟨[x,v],2, .rw⟩
 s:FC (b2+1) H.length sz len H v cs
 ne: ∀sid,v = .slice (some ⟨sid,0,none⟩) len 0->sid≠b3
 low:h.length<=b2∧b2<b3∧id<h.length
section
variable {h H H':Heap} {id n B B' b2 b3 sz len:Nat} {a:Option Addr} {z2:Blk} {x v:Value} {cs:List Value}
theorem Bst2.step(s:Bst2 h H id n a B b2 b3 z2 x v sz len cs)(s':St H' id n a B')(g:Agr id (id+1) H H'):Bst2 h H' id n a B' b2 b3 z2 x v sz len cs:=by
 have h1:=s.low
 have h2:=g.1
 exact⟨s',s.out.trans g,agr_get g s.r (by omega),agr_get g s.b (by omega),(s.s.agr g (by omega)).wide (le_refl _) h2,s.ne,h1⟩
theorem Bst2.grow(s:Bst2 h H id n a B b2 b3 z2 x v sz len cs)(t:Heap):Bst2 h (H++t) id n a B b2 b3 z2 x v sz len cs:=s.step (s.st.app t) Agr.app
theorem Bst2.setx(s:Bst2 h H id n a B b2 b3 z2 x v sz len cs)(y:Value):Bst2 h (H.set b3 ⟨[y,v],2, .rw⟩) id n a B b2 b3 z2 y v sz len cs:=by
 have h1:=s.low
 have g:Agr b3 (b3+1) H (H.set b3 ⟨[y,v],2, .rw⟩):=Agr.set (le_refl _) (lt_succ_self _)
 have g':Agr id (id+1) h (H.set b3 ⟨[y,v],2, .rw⟩):=⟨by simpa using s.out.1,fun i h2 h3=>by rw[hget_set_ne (by omega)];exact s.out.2 i h2 h3⟩
 exact⟨s.st.set s.b rfl (by omega),g',agr_get g s.r (by omega),hget_set_same (hget_lt s.b),by simpa using FC.set s.s s.ne _,s.ne,h1⟩
theorem Bst2.done(s:Bst2 h H id n a B b2 b3 z2 x v sz len cs)(hz:z2.st = .rw)(c:Blk):St (H.set b2 c) id n a B∧Agr id (id+1) h (H.set b2 c)∧FC (b2+1) (H.set b2 c).length sz len (H.set b2 c) v cs∧hget (H.set b2 c) b2=some c:=by
 have h1:=s.low
 have g:Agr b2 (b2+1) H (H.set b2 c):=Agr.set (le_refl _) (lt_succ_self _)
 exact⟨s.st.set s.r hz (by omega),⟨by simpa using s.out.1,fun i h2 h3=>by rw[hget_set_ne (by omega)];exact s.out.2 i h2 h3⟩,by simpa using s.s.agr g (by omega),hget_set_same (hget_lt s.r)⟩
theorem Bst2.app0{new:List Value}(s:Bst2 h H id n a B b2 b3 z2 x (.slice none 0 0) sz len cs)(hn:new.length=sz) :
  Bst2 h ((H++ [(⟨new,sz, .rw⟩:Blk),(⟨new,sz, .rw⟩:Blk)]).set b3 ⟨[x, .slice (some ⟨H.length+1,0,none⟩) 1 0],2, .rw⟩) id n a B b2 b3 z2 x (.slice (some ⟨H.length+1,0,none⟩) 1 0) sz 1 new:=by
 have h1:=s.low
 have h2:=hget_lt s.b
 have h0:=s.out.1
 have s1:=s.grow [(⟨new,sz, .rw⟩:Blk),(⟨new,sz, .rw⟩:Blk)]
 refine⟨s1.st.set s1.b rfl (by omega),⟨by have:=s1.out.1;simpa using this,fun i e1 e2=>by rw[hget_set_ne (by omega)];exact s1.out.2 i e1 e2⟩,by rw[hget_set_ne (by omega)];exact s1.r,hget_set_same (hget_lt s1.b), .inr ⟨_,rfl,by omega,by simp, ?_,by omega⟩,fun sid e=>by simp at e;omega,h1⟩
 rw[hget_set_ne (by omega)]
 exact hget_lit1
theorem Bst2.app1{new:List Value}{sid:Nat}(s:Bst2 h H id n a B b2 b3 z2 x (.slice (some ⟨sid,0,none⟩) len 0) sz len cs)(hn:new.length=sz) :
  Bst2 h (((H++ [(⟨new,sz, .rw⟩:Blk)]).set sid (⟨cs,sz, .dead⟩:Blk)++ [(⟨cs++new,sz, .rw⟩:Blk)]).set b3 ⟨[x, .slice (some ⟨H.length+1,0,none⟩) (len+1) 0],2, .rw⟩) id n a B b2 b3 z2 x (.slice (some ⟨H.length+1,0,none⟩) (len+1) 0) sz (len+1) (cs++new):=by
 have h1:=s.low
 have h2:=hget_lt s.b
 have h0:=s.out.1
 rcases s.s with⟨e,_⟩|⟨sid',e,e1,e2,e3,e4⟩
 ·cases e
 obtain rfl:sid'=sid:=by simpa using e.symm
 have s1:=s.grow [(⟨new,sz, .rw⟩:Blk)]
 have s2:St ((H++ [(⟨new,sz, .rw⟩:Blk)]).set sid' (⟨cs,sz, .dead⟩:Blk)) id n a B:=s1.st.set (self_get e3 _) rfl (by omega)
 have s3:=s2.app [(⟨cs++new,sz, .rw⟩:Blk)]
 have key: ∀i b,hget H i=some b->i≠sid'->hget ((H++ [(⟨new,sz, .rw⟩:Blk)]).set sid' (⟨cs,sz, .dead⟩:Blk)++ [(⟨cs++new,sz, .rw⟩:Blk)]) i=some b:=fun i b hb hi=>self_get (by rw[hget_set_ne (by omega)];exact self_get hb _) _
 have nb:=s.ne sid' rfl
 have b0:=key _ _ s.b (Ne.symm nb)
 refine⟨s3.set b0 rfl (by omega),⟨by simp;omega,fun i e1 e2 => ?_⟩,by rw[hget_set_ne (by omega)];exact key _ _ s.r (by omega),hget_set_same (hget_lt b0), .inr ⟨_,rfl,by omega,by simp, ?_,by simp[e4,hn,Nat.add_mul]⟩,fun sid e=>by simp at e;omega,h1⟩
 ·rw[hget_set_ne (by omega)]
  have e5:=s.out.2 i e1 e2
  have e6:i<H.length:=by omega
  rw[←e5]
  have e7:hget H i=some H[i]:=by unfold hget;exact getElem?_eq_getElem e6
  rw[e7]
  exact key _ _ e7 (by omega)
 ·rw[hget_set_ne (by omega)]
  have e5:((H++ [(⟨new,sz, .rw⟩:Blk)]).set sid' (⟨cs,sz, .dead⟩:Blk)).length=H.length+1:=by simp
  rw[←e5]
  exact hget_new
end
section
theorem Bst2.other{h H:Heap}{id n B b2 b3 sz len:Nat}{a:Option Addr}{z2:Blk}{x v:Value}{cs:List Value}(s:Bst2 h H id n a B b2 b3 z2 x v sz len cs){j:Nat}{c:Blk}(hj:hget H j=some c)(hrw:c.st = .rw)
  (hne:h.length<=j∧j≠b2∧j≠b3) (hs: ∀sid,v = .slice (some ⟨sid,0,none⟩) len 0->sid≠j) (b:Blk):Bst2 h (H.set j b) id n a B b2 b3 z2 x v sz len cs:=by
 have h1:=s.low
 exact⟨s.st.set hj hrw (by omega),⟨by simpa using s.out.1,fun i e1 e2=>by rw[hget_set_ne (by omega)];exact s.out.2 i e1 e2⟩,by rw[hget_set_ne (by omega)];exact s.r,by rw[hget_set_ne (by omega)];exact s.b,by simpa using FC.set s.s hs b,s.ne,h1⟩
end
open Go.HH
def PB(l:List Pip):Prop:= ∀p∈l,(-1000<=p.1∧p.1<=1000)∧(-1000<=p.2.1∧p.2.1<=1000)∧(-1000<=p.2.2.1∧p.2.2.1<=1000)
theorem PB.nil:PB []:=fun p h=>by cases h
theorem PB.snoc{l:List Pip}{p:Pip}(h:PB l)(a:(-1000<=p.1∧p.1<=1000)∧(-1000<=p.2.1∧p.2.1<=1000)∧(-1000<=p.2.2.1∧p.2.2.1<=1000)):PB (l++ [p]):=fun q hq=>by
 rcases mem_append.1 hq with h1|h1
 ·exact h q h1
 ·rw[mem_singleton.1 h1];exact a
def NB(N:Int)(l:List Pip):Prop:=(-1000<=N∧N<=1000)∧PB l
section
variable {h:Heap} {M:Nat->Prop}
set_option maxRecDepth 8000 in
set_option maxHeartbeats 2000000 in
theorem e_network{id n B:Nat}{a:Option Addr}(s:St h id n a B)(hM:M id)(hB:B<=100000) :
  vCall [] Tryz.prog M 83 [.pointer (some ⟨id,0,none⟩)] h (fun r H'=>(∃(N:Int) (l:List Pip) (w:Value),r = .agg #[.int .i64 N,w]∧FC h.length H'.length 4 l.length H' w (flQ l)∧l.length<=20∧NB N l)∧St H' id n a (B+200)∧Agr id (id+1) h H'):=by
 have hid:=s.lt
 have hown:own h.length M id:=Or.inr hM
 refine boR ([(17,[1,6,10,1014,1016])]) Tryz.func83 rfl rfl ?_
 simp only[go_sem]
 refine (d_pick _ (s.app _) hown (by omega)).go ?_
 rintro _ H1 ⟨⟨m,rfl,m0,m1⟩,s1,g1⟩
 have L1:h.length<=H1.length:=by have:=g1.1;simp only[length_append] at this;omega
 have L2:h.length+1<=H1.length:=by have:=g1.1;simpa using this
 have e1:IntKind.i64.wrap (1+m)=1+m:=wrap64 (by omega)
 simp only[go_sem,own_base0 L1,e1]
 have bs:Bst h (H1++ [⟨[.int .i64 (1+m), .slice none 0 0],2, .rw⟩]) id n a (B+2) h.length H1.length ⟨[.int .i64 0, .slice none 0 0],2, .rw⟩ (.int .i64 (1+m)) (.slice none 0 0) 4 0 []:=
  ⟨s1.app _,(Agr.app.trans g1).trans Agr.app,self_get (agr_get g1 hget_new (by omega)) _,hget_new, .nil,by omega⟩
 refine vLoopR.count mo 8 (fun i e H=> ∃(v:Value) (l:List Pip) (q:Int),e 0 = .pointer (some ⟨id,0,none⟩)∧e 2 = .pointer (some ⟨h.length,0,none⟩)∧e 3 = .pointer (some ⟨H1.length,0,none⟩)∧e 4 = .int .i64 q∧e 5 = .int .i64 (2+i) ∧
  Bst h H id n a (B+4+10*i) h.length H1.length ⟨[.int .i64 0, .slice none 0 0],2, .rw⟩ (.int .i64 (1+m)) v 4 l.length (flQ l)∧l.length<=i∧(0<=q∧q<=4*(i:Int))∧PB l) ?_ ?_
 ·simp only[go_sem]
  exact⟨.slice none 0 0,[],0,rfl,bs.step (bs.st.more (by omega)) Agr.refl,by simp,by omega, .nil⟩
 ·rintro i e H hi ⟨v,l,q,e0,e2,e3,e4,e5,bs,hl,hq,hpb⟩
  try simp only[go_sem,e0,e2,e3,e4,e5,bs.b]
  refine .intro (fun h1 => ?_) (fun h1 => ?_)
  ·have hlt:2+(i:Int)<=1+m:=by simpa using h1
   try simp only[go_sem,e0,e2,e3,e4,e5,bs.b]
   refine (d_one _ bs.st hown (by omega)).go ?_
   rintro _ H3 ⟨⟨g,rfl⟩,s3,g3⟩
   have bs3:=bs.step s3 g3
   cases g with
   | true=>
    try simp only[go_sem,e0,e2,e3,e4,e5]
    exact⟨by omega,v,l,q,rfl,by rw[wrap64 (by omega)];congr 1,bs3.step (bs3.st.more (by omega)) Agr.refl,by omega,by omega,hpb⟩
   | false=>
    try simp only[go_sem,e0,e2,e3,e4,e5]
    refine (d_pick _ bs3.st hown (by omega)).go ?_
    rintro _ H4 ⟨⟨x,rfl,x0,x1⟩,s4,g4⟩
    have bs4:=bs3.step s4 g4
    try simp only[go_sem,e0,e2,e3,e4,e5]
    refine (d_pick _ bs4.st hown (by omega)).go ?_
    rintro _ H5 ⟨⟨y,rfl,y0,y1⟩,s5,g5⟩
    have bs5:=bs4.step s5 g5
    try simp only[go_sem,e0,e2,e3,e4,e5]
    refine (d_pick _ bs5.st hown (by omega)).go ?_
    rintro _ H6 ⟨⟨z,rfl,z0,z1⟩,s6,g6⟩
    have bs6:=bs5.step s6 g6
    have L6:h.length<=H6.length:=bs6.out.1
    have y2:y<=8:=by rw[wrap64 (by omega)] at y1;omega
    obtain⟨qb,hqb,hqr⟩: ∃w,IntKind.i64.wrap (1+y)=w ∧ -1000<=w∧w<=1000:=⟨_,rfl,by rw[wrap64 (by omega)];omega⟩
    obtain⟨qc,hqc⟩: ∃w,IntKind.i64.wrap (1+z)=w:=⟨_,rfl⟩
    have hwi:IntKind.i64.wrap (IntKind.i64.wrap (q+1)+x)=q+1+x:=by rw[show IntKind.i64.wrap (q+1)=q+1 from wrap64 (by omega),wrap64 (by omega)]
    try simp only[go_sem,e0,e2,e3,e4,e5,own_ge L6,hqb,hqc]
    refine (d_one _ (bs6.st.app _) hown (by omega)).go ?_
    rintro _ H7 ⟨⟨g,rfl⟩,s7,g7⟩
    have k7:=agr_get g7 hget_new (by have:=bs6.st.lt;omega)
    have g7':=(Agr.app (t:= [_])).trans g7
    cases g with
    | true=>
     have k8:=set_get k7 (⟨[.int .i64 (IntKind.i64.wrap (IntKind.i64.wrap (q+1)+x)), .int .i64 (2+(i:Int)), .int .i64 qb, .int .i64 qc],4, .rw⟩:Blk)
     have bs7:=bs6.step (s7.set (b:=⟨[.int .i64 (IntKind.i64.wrap (IntKind.i64.wrap (q+1)+x)), .int .i64 (2+(i:Int)), .int .i64 qb, .int .i64 qc],4, .rw⟩) k7 rfl (by omega)) (agr_set_out g7' (le_refl _))
     obtain⟨H8,hH8⟩: ∃X,List.set H7 (List.length H6) (⟨[.int .i64 (IntKind.i64.wrap (IntKind.i64.wrap (q+1)+x)), .int .i64 (2+(i:Int)), .int .i64 qb, .int .i64 qc],4, .rw⟩:Blk)=X:=⟨_,rfl⟩
     rw[hH8] at bs7 k8
     try simp only[go_sem,e0,e2,e3,e4,e5,k7,own_ge L6,hH8]
     have L8:h.length<=H8.length:=bs7.out.1
     rcases bs7.s with⟨rfl,n1,n2⟩|⟨sid,rfl,q1,q2,q3,q4⟩
     ·obtain rfl:l= []:=by simpa using n1
      have bz:=bs7.app0 (new:=pip (IntKind.i64.wrap (IntKind.i64.wrap (q+1)+x),2+(i:Int),qb,qc)) rfl
      try simp only[go_sem,e0,e2,e3,e4,e5,bs7.b,self_get bs7.b,own_base0 L1,k8,self_get k8,hH8]
      exact⟨by omega, .slice (some ⟨H8.length+1,0,none⟩) 1 0,[(IntKind.i64.wrap (IntKind.i64.wrap (q+1)+x),2+(i:Int),qb,qc)],_,rfl,by rw[wrap64 (by omega)];congr 1<;>omega,bz.step (bz.st.more (by omega)) Agr.refl,by simp,by rw[hwi];omega,PB.nil.snoc (by simp only[hwi];omega)⟩
     ·have o1:own h.length M sid=True:=own_ge (by omega)
      have bz:=bs7.app1 (new:=pip (IntKind.i64.wrap (IntKind.i64.wrap (q+1)+x),2+(i:Int),qb,qc)) rfl
      try simp only[go_sem,e0,e2,e3,e4,e5,bs7.b,self_get bs7.b,own_base0 L1,self_get q3,o1,kill_get bs7.b (show sid≠H1.length by omega),flQ_len,k8,self_get k8,hH8]
      refine⟨by omega,by omega,by omega, .slice (some ⟨H8.length+1,0,none⟩) (l.length+1) 0,l++ [(IntKind.i64.wrap (IntKind.i64.wrap (q+1)+x),2+(i:Int),qb,qc)],_,rfl,by rw[wrap64 (by omega)];congr 1<;>omega, ?_,by simp;omega,by rw[hwi];omega,hpb.snoc (by simp only[hwi];omega)⟩
      rw[snoc_lenP,flQ_snoc];exact bz.step (bz.st.more (by omega)) Agr.refl
    | false=>
     have bs7:=bs6.step s7 g7'
     have L8:h.length<=H7.length:=bs7.out.1
     try simp only[go_sem,e0,e2,e3,e4,e5,k7,own_ge L6]
     rcases bs7.s with⟨rfl,n1,n2⟩|⟨sid,rfl,q1,q2,q3,q4⟩
     ·obtain rfl:l= []:=by simpa using n1
      have bz:=bs7.app0 (new:=pip (IntKind.i64.wrap (IntKind.i64.wrap (q+1)+x),qb,2+(i:Int),qc)) rfl
      try simp only[go_sem,e0,e2,e3,e4,e5,bs7.b,self_get bs7.b,own_base0 L1,k7,self_get k7]
      exact⟨by omega, .slice (some ⟨H7.length+1,0,none⟩) 1 0,[(IntKind.i64.wrap (IntKind.i64.wrap (q+1)+x),qb,2+(i:Int),qc)],_,rfl,by rw[wrap64 (by omega)];congr 1<;>omega,bz.step (bz.st.more (by omega)) Agr.refl,by simp,by rw[hwi];omega,PB.nil.snoc (by simp only[hwi];omega)⟩
     ·have o1:own h.length M sid=True:=own_ge (by omega)
      have bz:=bs7.app1 (new:=pip (IntKind.i64.wrap (IntKind.i64.wrap (q+1)+x),qb,2+(i:Int),qc)) rfl
      try simp only[go_sem,e0,e2,e3,e4,e5,bs7.b,self_get bs7.b,own_base0 L1,self_get q3,o1,kill_get bs7.b (show sid≠H1.length by omega),flQ_len,k7,self_get k7]
      refine⟨by omega,by omega,by omega, .slice (some ⟨H7.length+1,0,none⟩) (l.length+1) 0,l++ [(IntKind.i64.wrap (IntKind.i64.wrap (q+1)+x),qb,2+(i:Int),qc)],_,rfl,by rw[wrap64 (by omega)];congr 1<;>omega, ?_,by simp;omega,by rw[hwi];omega,hpb.snoc (by simp only[hwi];omega)⟩
      rw[snoc_lenP,flQ_snoc];exact bz.step (bz.st.more (by omega)) Agr.refl
  ·try simp only[go_sem,e0,e2,e3,e4,e5,bs.b]
   refine (d_pick _ bs.st hown (by omega)).go ?_
   rintro _ H3 ⟨⟨c,rfl,c0,c1⟩,s3,g3⟩
   have bs3:=bs.step s3 g3
   have hi':i<=8:=hi
   clear bs
   try simp only[go_sem,e0,e2,e3,e4,e5]
   refine vLoopR.count mo c.toNat (fun i e H=> ∃(v:Value) (l:List Pip) (q:Int),e 0 = .pointer (some ⟨id,0,none⟩)∧e 2 = .pointer (some ⟨h.length,0,none⟩)∧e 3 = .pointer (some ⟨H1.length,0,none⟩)∧e 4 = .int .i64 q∧e 7 = .int .i64 (c-i) ∧
    Bst h H id n a (B+100+10*i) h.length H1.length ⟨[.int .i64 0, .slice none 0 0],2, .rw⟩ (.int .i64 (1+m)) v 4 l.length (flQ l)∧l.length<=8+i∧(0<=q∧q<=40+4*(i:Int))∧PB l) ?_ ?_
   ·try simp only[go_sem,e0,e2,e3,e4,e5]
    exact⟨v,l,q,rfl,by simp,bs3.step (bs3.st.more (by omega)) Agr.refl,by omega,by omega,hpb⟩
   ·rintro i e H hi ⟨v,l,q,e0,e2,e3,e4,e7,bs,hl,hq,hpb⟩
    obtain⟨av,rfl⟩:=bs.s.len
    obtain⟨d1,d2,d3,_⟩:=bs.done rfl ⟨[.int .i64 (1+m), .slice av l.length 0],2, .rw⟩
    have d4:=d1.more (show B+100+10*i<=B+200 by omega)
    have d5:=d3.wide (show h.length<=H1.length+1 by omega) (le_refl _)
    have hll:l.length<=20:=by omega
    by_cases h1:0<c-(i:Int)
    ·by_cases h2:(1:Int)<1+m
     ·by_cases h3:(l.length:Int)<10
      ·try simp only[go_sem,e0,e2,e3,e4,e7,bs.b,h1,h2,h3]
       refine (d_pick _ bs.st hown (by omega)).go ?_
       rintro _ H4 ⟨⟨x,rfl,x0,x1⟩,s4,g4⟩
       have bs4:=bs.step s4 g4
       try simp only[go_sem,e0,e2,e3,e4,e7,bs4.b]
       refine (d_pick _ bs4.st hown (by omega)).go ?_
       rintro _ H5 ⟨⟨y,rfl,y0,y1⟩,s5,g5⟩
       have bs5:=bs4.step s5 g5
       have w1:IntKind.i64.wrap (1+y)=1+y:=wrap64 (by omega)
       try simp only[go_sem,e0,e2,e3,e4,e7,bs5.b,w1,hBin_rem (show 1+m≠0 by omega)]
       refine (d_pick _ bs5.st hown (by omega)).go ?_
       rintro _ H6 ⟨⟨z,rfl,z0,z1⟩,s6,g6⟩
       have bs6:=bs5.step s6 g6
       have L6:H5.length<=H6.length:=g6.1
       have L7:h.length<=H6.length:=bs6.out.1
       obtain⟨qc,hqc⟩: ∃w,IntKind.i64.wrap (1+z)=w:=⟨_,rfl⟩
       have tm0:=Int.tmod_nonneg (1+m) (show 0<=1+y by omega)
       have tm1:=Int.tmod_lt_of_pos (1+y) (show 0<1+m by omega)
       obtain⟨w,hw,hwr⟩: ∃w,IntKind.i64.wrap (1+(1+y).tmod (1+m))=w ∧ -1000<=w∧w<=1000:=⟨_,rfl,by rw[wrap64 (by omega)];omega⟩
       have hwi:IntKind.i64.wrap (IntKind.i64.wrap (q+1)+x)=q+1+x:=by rw[show IntKind.i64.wrap (q+1)=q+1 from wrap64 (by omega),wrap64 (by omega)]
       rcases bs6.s with⟨ev,n1,n2⟩|⟨sid,ev,q1,q2,q3,q4⟩
       ·obtain rfl:l= []:=List.length_eq_zero_iff.1 n1
        obtain rfl:av=none:=by simpa using ev
        have bz:=bs6.app0 (new:=pip (IntKind.i64.wrap (IntKind.i64.wrap (q+1)+x),1+y,w,qc)) rfl
        try simp only[go_sem,e0,e2,e3,e4,e7,bs6.b,self_get bs6.b,own_base0 L1,L6,hqc,hw]
        exact⟨by omega, .slice (some ⟨H6.length+1,0,none⟩) 1 0,[(IntKind.i64.wrap (IntKind.i64.wrap (q+1)+x),1+y,w,qc)],_,rfl,by rw[wrap64 (by omega)];congr 1<;>omega,bz.step (bz.st.more (by omega)) Agr.refl,by simp;omega,by rw[hwi];omega,PB.nil.snoc (by simp only[hwi];omega)⟩
       ·obtain rfl:av=some ⟨sid,0,none⟩:=by simpa using ev
        have o1:own h.length M sid=True:=own_ge (by omega)
        have bz:=bs6.app1 (new:=pip (IntKind.i64.wrap (IntKind.i64.wrap (q+1)+x),1+y,w,qc)) rfl
        try simp only[go_sem,e0,e2,e3,e4,e7,bs6.b,self_get bs6.b,own_base0 L1,L6,hqc,hw,self_get q3,o1,kill_get bs6.b (show sid≠H1.length by omega),flQ_len]
        refine⟨by omega,by omega,by omega, .slice (some ⟨H6.length+1,0,none⟩) (l.length+1) 0,l++ [(IntKind.i64.wrap (IntKind.i64.wrap (q+1)+x),1+y,w,qc)],_,rfl,by rw[wrap64 (by omega)];congr 1<;>omega, ?_,by simp;omega,by rw[hwi];omega,hpb.snoc (by simp only[hwi];omega)⟩
        rw[snoc_lenP,flQ_snoc];exact bz.step (bz.st.more (by omega)) Agr.refl
      ·try simp only[go_sem,e0,e2,e3,e4,e7,bs.b,h1,h2,h3,bs.r,own_ge (le_refl h.length),set_get bs.r]
       exact⟨⟨_,l,_,rfl,d5,hll,by omega,hpb⟩,d4,d2⟩
     ·try simp only[go_sem,e0,e2,e3,e4,e7,bs.b,h1,h2,bs.r,own_ge (le_refl h.length),set_get bs.r]
      exact⟨⟨_,l,_,rfl,d5,hll,by omega,hpb⟩,d4,d2⟩
    ·try simp only[go_sem,e0,e2,e3,e4,e7,bs.b,h1,bs.r,own_ge (le_refl h.length),set_get bs.r]
     exact⟨⟨_,l,_,rfl,d5,hll,by omega,hpb⟩,d4,d2⟩
end
open Go.HH
section
variable {H:Heap} {M:Nat->Prop}
set_option maxRecDepth 4000 in
theorem e_among{id n B:Nat}{a:Option Addr}(j cnt:Nat)(b:Blk)(s:St H id n a B)(hM:M id)(hj:hget H j=some b)(hint:b.cells.all isI64=true)(hd:b.st = .rw)(hcnt:cnt<=b.cells.length)(hne:j≠id)(hl:0<cnt)(hmax:cnt<=1000)(hB:B<=1000000) :
  vCall [] Tryz.prog M 100 [.pointer (some ⟨id,0,none⟩), .slice (some ⟨j,0,none⟩) cnt 0] H (fun r H'=>(∃m,r = .int .i64 m ∧ .int .i64 m∈b.cells)∧St H' id n a (B+2)∧Agr id (id+1) H H'):=by
 have hown:own H.length M id:=Or.inr hM
 refine bo Tryz.func100 rfl rfl ?_
 simp only[go_sem]
 refine (d_pick _ s hown hB).go ?_
 rintro _ H1 ⟨⟨m,rfl,m0,m1⟩,s1,g1⟩
 have hi:m.toNat<cnt:=by omega
 have hz:m<(cnt:Int):=by omega
 obtain⟨x,hx⟩:=isI64_at hint (lt_of_lt_of_le hi hcnt)
 have hk:=agr_get g1 hj (by omega)
 simp only[go_sem,hk,m0,hz,hd,hx]
 exact⟨⟨x,rfl,mem_of_getElem? hx⟩,s1,g1⟩
theorem e_amongL{id n B:Nat}{a:Option Addr}(l:List Value)(cnt:Nat)(s:St H id n a B)(hM:M id)(hint:l.all isI64=true)(hcnt:cnt<=l.length)(hl:0<cnt)(hmax:cnt<=1000)(hB:B<=1000000) :
  vCall [] Tryz.prog M 100 [.pointer (some ⟨id,0,none⟩), .slice (some ⟨H.length,0,none⟩) cnt 0] (H++ [⟨l,1, .rw⟩]) (fun r H'=>(∃m,r = .int .i64 m ∧ .int .i64 m∈l)∧St H' id n a (B+2)∧Agr id (id+1) H H'∧H.length+1<=H'.length):=by
 have h1:=s.lt
 obtain⟨r,H',hr,hm,c,g⟩:=e_among (M:=M) H.length cnt ⟨l,1, .rw⟩ (s.app [⟨l,1, .rw⟩]) hM hget_new hint rfl hcnt (by omega) hl hmax hB
 exact⟨r,H',hr,hm,c,Agr.app.trans g,by have:=g.1;simpa using this⟩
end
section
variable {h:Heap} {M:Nat->Prop}
set_option maxRecDepth 8000 in
set_option maxHeartbeats 4000000 in
theorem e_anyNetwork{id n B:Nat}{a:Option Addr}(s:St h id n a B)(hM:M id)(hB:B<=100000) :
  vCall [] Tryz.prog M 92 [.pointer (some ⟨id,0,none⟩)] h (fun r H'=>(∃(N:Int) (l:List Pip) (w:Value),r = .agg #[.int .i64 N,w]∧FC h.length H'.length 4 l.length H' w (flQ l)∧l.length<=40∧NB N l)∧St H' id n a (B+400)∧Agr id (id+1) h H'):=by
 have hid:=s.lt
 have hown:own h.length M id:=Or.inr hM
 refine boR ([(17,[1,4])]) Tryz.func92 rfl rfl ?_
 simp only[go_sem]
 refine (e_network (s.app _) hown (by omega)).go ?_
 rintro _ H1 ⟨⟨N,l,w,rfl,fc,hl,hN,hpb⟩,s1,g1⟩
 obtain⟨aw,rfl⟩:=fc.len
 have L1:h.length<=H1.length:=by have:=g1.1;simp only[length_append] at this;omega
 have L2:h.length+1<=H1.length:=by have:=g1.1;simpa using this
 try simp only[go_sem,own_base0 L1,own_ge (show h.length<=H1.length+1 by omega)]
 have ne3: ∀sid,Value.slice aw l.length 0 = .slice (some ⟨sid,0,none⟩) l.length 0->sid<H1.length:=fun sid e=>by
  rcases fc with⟨e',_⟩|⟨sid',e',q1,q2,_⟩
  ·rw[e'] at e;cases e
  ·rw[e'] at e;simp at e;omega
 have bs:Bst2 h (H1++ [⟨[.int .i64 N, .slice aw l.length 0],2, .rw⟩,⟨[.int .i64 99, .int .i64 1, .int .i64 2, .int .i64 1],4, .rw⟩]) id n a (B+200) h.length H1.length ⟨[.int .i64 0, .slice none 0 0],2, .rw⟩ (.int .i64 N) (.slice aw l.length 0) 4 l.length (flQ l):=
  ⟨s1.app _,(Agr.app.trans g1).trans Agr.app,self_get (agr_get g1 hget_new (by omega)) _,hget_lit0,(fc.app _).wide (by simp) (by simp),fun sid e=>by have:=ne3 sid e;omega,by omega⟩
 refine (d_pick _ bs.st hown (by omega)).go ?_
 rintro _ H2 ⟨⟨c,rfl,c0,c1⟩,s2,g2⟩
 have bs2:=bs.step s2 g2
 have k4:=agr_get g2 hget_lit1 (by omega)
 have ne4: ∀sid,Value.slice aw l.length 0 = .slice (some ⟨sid,0,none⟩) l.length 0->sid≠H1.length+1:=fun sid e=>by have:=ne3 sid e;omega
 have fin: ∀(H':Heap) (N':Int) (l':List Pip) (w:Value),Bst2 h H' id n a (B+400) h.length H1.length ⟨[.int .i64 0, .slice none 0 0],2, .rw⟩ (.int .i64 N') w 4 l'.length (flQ l')->l'.length<=40->NB N' l' →
   (∃(N:Int) (l:List Pip) (w2:Value),Value.agg #[.int .i64 N',w] = .agg #[.int .i64 N,w2]∧FC h.length (H'.set h.length ⟨[.int .i64 N',w],2, .rw⟩).length 4 l.length (H'.set h.length ⟨[.int .i64 N',w],2, .rw⟩) w2 (flQ l)∧l.length<=40∧NB N l) ∧
    St (H'.set h.length ⟨[.int .i64 N',w],2, .rw⟩) id n a (B+400)∧Agr id (id+1) h (H'.set h.length ⟨[.int .i64 N',w],2, .rw⟩):=fun H' N' l' w bs hl hnb=>by
  obtain⟨d1,d2,d3,_⟩:=bs.done rfl ⟨[.int .i64 N',w],2, .rw⟩
  exact⟨⟨N',l',w,rfl,d3.wide (by omega) (le_refl _),hl,hnb⟩,d1,d2⟩
 try simp only[go_sem]
 by_cases hc0:c=0
 ·try simp only[go_sem,show (c==0)=true by simpa using hc0]
  refine (e_amongL _ _ bs2.st hown rfl (by simp) (by omega) (by omega) (by omega)).go ?_
  rintro _ H3 ⟨⟨x,rfl,hx⟩,s3,g3,l3⟩
  have hxb : -1000<=x∧x<=1000:=by simp at hx;omega
  have bs3:=bs2.step s3 g3
  have bs4:=bs3.setx (.int .i64 x)
  try simp only[go_sem,bs3.b,bs4.b,bs4.r,set_get bs4.r,own_base0 L1,own_ge (le_refl h.length)]
  exact fin _ _ _ _ (bs4.step (bs4.st.more (by omega)) Agr.refl) (by omega) ⟨hxb,hpb⟩
 ·by_cases hc1:c=1
  ·try simp only[go_sem,show (c==0)=false by simpa using hc0,show (c==1)=true by simpa using hc1]
   refine (e_amongL _ _ bs2.st hown rfl (by simp) (by omega) (by omega) (by omega)).go ?_
   rintro _ H3 ⟨⟨x,rfl,hx⟩,s3,g3,l3⟩
   have hxb : -1000<=x∧x<=1000:=by simp at hx;omega
   have bs3:=bs2.step s3 g3
   have k5:=agr_get g3 k4 (by omega)
   have k6:=set_get k5 (⟨[.int .i64 x, .int .i64 1, .int .i64 2, .int .i64 1],4, .rw⟩:Blk)
   have bs4:=bs3.other k5 rfl (by omega) ne4 ⟨[.int .i64 x, .int .i64 1, .int .i64 2, .int .i64 1],4, .rw⟩
   try simp only[go_sem,k5,own_ge (show h.length<=H1.length+1 by omega)]
   obtain⟨H4,hH⟩: ∃X,H3.set (H1.length+1) (⟨[.int .i64 x, .int .i64 1, .int .i64 2, .int .i64 1],4, .rw⟩:Blk)=X:=⟨_,rfl⟩
   rw[hH] at bs4 k6
   have L4:h.length<=H4.length:=bs4.out.1
   rcases bs4.s with⟨ev,n1,n2⟩|⟨sid,ev,q1,q2,q3,q4⟩
   ·obtain rfl:l= []:=List.length_eq_zero_iff.1 n1
    obtain rfl:aw=none:=by simpa using ev
    have bz:=bs4.app0 (new:= [.int .i64 x, .int .i64 1, .int .i64 2, .int .i64 1]) rfl
    try simp only[go_sem,hH,k6,self_get k6,bs4.b,self_get bs4.b,own_base0 L1,bz.b,bz.r,set_get bz.r,own_ge (le_refl h.length)]
    exact fin _ _ [(x,1,2,1)] _ (bz.step (bz.st.more (by omega)) Agr.refl) (by simp) ⟨hN,PB.nil.snoc (by simp only;omega)⟩
   ·obtain rfl:aw=some ⟨sid,0,none⟩:=by simpa using ev
    have o1:own h.length M sid=True:=own_ge (by omega)
    have bz:=bs4.app1 (new:= [.int .i64 x, .int .i64 1, .int .i64 2, .int .i64 1]) rfl
    try simp only[go_sem,hH,k6,self_get k6,bs4.b,self_get bs4.b,own_base0 L1,self_get q3,o1,kill_get bs4.b (bs4.ne sid rfl),flQ_len,bz.b,bz.r,set_get bz.r,own_ge (le_refl h.length)]
    refine⟨by omega,by omega, ?_⟩
    exact fin _ _ (l++ [(x,1,2,1)]) _ (by rw[snoc_lenP,flQ_snoc];exact bz.step (bz.st.more (by omega)) Agr.refl) (by simp;omega) ⟨hN,hpb.snoc (by simp only;omega)⟩
  ·by_cases hc2:c=2
   ·try simp only[go_sem,show (c==0)=false by simpa using hc0,show (c==1)=false by simpa using hc1,show (c==2)=true by simpa using hc2]
    refine (e_amongL _ _ bs2.st hown rfl (by simp) (by omega) (by omega) (by omega)).go ?_
    rintro _ H3 ⟨⟨x,rfl,hx⟩,s3,g3,l3⟩
    have hxb : -1000<=x∧x<=1000:=by simp at hx;omega
    have bs3:=bs2.step s3 g3
    have k5:=agr_get g3 k4 (by omega)
    have k6:=set_get k5 (⟨[.int .i64 99, .int .i64 1, .int .i64 2, .int .i64 x],4, .rw⟩:Blk)
    have bs4:=bs3.other k5 rfl (by omega) ne4 ⟨[.int .i64 99, .int .i64 1, .int .i64 2, .int .i64 x],4, .rw⟩
    try simp only[go_sem,k5,own_ge (show h.length<=H1.length+1 by omega)]
    obtain⟨H4,hH⟩: ∃X,H3.set (H1.length+1) (⟨[.int .i64 99, .int .i64 1, .int .i64 2, .int .i64 x],4, .rw⟩:Blk)=X:=⟨_,rfl⟩
    rw[hH] at bs4 k6
    have L4:h.length<=H4.length:=bs4.out.1
    rcases bs4.s with⟨ev,n1,n2⟩|⟨sid,ev,q1,q2,q3,q4⟩
    ·obtain rfl:l= []:=List.length_eq_zero_iff.1 n1
     obtain rfl:aw=none:=by simpa using ev
     have bz:=bs4.app0 (new:= [.int .i64 99, .int .i64 1, .int .i64 2, .int .i64 x]) rfl
     try simp only[go_sem,hH,k6,self_get k6,bs4.b,self_get bs4.b,own_base0 L1,bz.b,bz.r,set_get bz.r,own_ge (le_refl h.length)]
     exact fin _ _ [(99,1,2,x)] _ (bz.step (bz.st.more (by omega)) Agr.refl) (by simp) ⟨hN,PB.nil.snoc (by simp only;omega)⟩
    ·obtain rfl:aw=some ⟨sid,0,none⟩:=by simpa using ev
     have o1:own h.length M sid=True:=own_ge (by omega)
     have bz:=bs4.app1 (new:= [.int .i64 99, .int .i64 1, .int .i64 2, .int .i64 x]) rfl
     try simp only[go_sem,hH,k6,self_get k6,bs4.b,self_get bs4.b,own_base0 L1,self_get q3,o1,kill_get bs4.b (bs4.ne sid rfl),flQ_len,bz.b,bz.r,set_get bz.r,own_ge (le_refl h.length)]
     refine⟨by omega,by omega, ?_⟩
     exact fin _ _ (l++ [(99,1,2,x)]) _ (by rw[snoc_lenP,flQ_snoc];exact bz.step (bz.st.more (by omega)) Agr.refl) (by simp;omega) ⟨hN,hpb.snoc (by simp only;omega)⟩
   ·by_cases hc3:c=3
    ·try simp only[go_sem,show (c==0)=false by simpa using hc0,show (c==1)=false by simpa using hc1,show (c==2)=false by simpa using hc2,show (c==3)=true by simpa using hc3]
     refine (e_amongL _ _ bs2.st hown rfl (by simp) (by omega) (by omega) (by omega)).go ?_
     rintro _ H3 ⟨⟨x,rfl,hx⟩,s3,g3,l3⟩
     have hxb : -1000<=x∧x<=1000:=by simp at hx;omega
     have bs3:=bs2.step s3 g3
     have k5:=agr_get g3 k4 (by omega)
     have k6:=set_get k5 (⟨[.int .i64 99, .int .i64 1, .int .i64 x, .int .i64 1],4, .rw⟩:Blk)
     have bs4:=bs3.other k5 rfl (by omega) ne4 ⟨[.int .i64 99, .int .i64 1, .int .i64 x, .int .i64 1],4, .rw⟩
     try simp only[go_sem,k5,own_ge (show h.length<=H1.length+1 by omega)]
     obtain⟨H4,hH⟩: ∃X,H3.set (H1.length+1) (⟨[.int .i64 99, .int .i64 1, .int .i64 x, .int .i64 1],4, .rw⟩:Blk)=X:=⟨_,rfl⟩
     rw[hH] at bs4 k6
     have L4:h.length<=H4.length:=bs4.out.1
     rcases bs4.s with⟨ev,n1,n2⟩|⟨sid,ev,q1,q2,q3,q4⟩
     ·obtain rfl:l= []:=List.length_eq_zero_iff.1 n1
      obtain rfl:aw=none:=by simpa using ev
      have bz:=bs4.app0 (new:= [.int .i64 99, .int .i64 1, .int .i64 x, .int .i64 1]) rfl
      try simp only[go_sem,hH,k6,self_get k6,bs4.b,self_get bs4.b,own_base0 L1,bz.b,bz.r,set_get bz.r,own_ge (le_refl h.length)]
      exact fin _ _ [(99,1,x,1)] _ (bz.step (bz.st.more (by omega)) Agr.refl) (by simp) ⟨hN,PB.nil.snoc (by simp only;omega)⟩
     ·obtain rfl:aw=some ⟨sid,0,none⟩:=by simpa using ev
      have o1:own h.length M sid=True:=own_ge (by omega)
      have bz:=bs4.app1 (new:= [.int .i64 99, .int .i64 1, .int .i64 x, .int .i64 1]) rfl
      try simp only[go_sem,hH,k6,self_get k6,bs4.b,self_get bs4.b,own_base0 L1,self_get q3,o1,kill_get bs4.b (bs4.ne sid rfl),flQ_len,bz.b,bz.r,set_get bz.r,own_ge (le_refl h.length)]
      refine⟨by omega,by omega, ?_⟩
      exact fin _ _ (l++ [(99,1,x,1)]) _ (by rw[snoc_lenP,flQ_snoc];exact bz.step (bz.st.more (by omega)) Agr.refl) (by simp;omega) ⟨hN,hpb.snoc (by simp only;omega)⟩
    ·by_cases hc4:c=4
     ·try simp only[go_sem,show (c==0)=false by simpa using hc0,show (c==1)=false by simpa using hc1,show (c==2)=false by simpa using hc2,show (c==3)=false by simpa using hc3,show (c==4)=true by simpa using hc4]
      refine vLoopR.count mo 12 (fun i e H=> ∃(v:Value) (l:List Pip),e 0 = .pointer (some ⟨id,0,none⟩)∧e 2 = .pointer (some ⟨h.length,0,none⟩)∧e 3 = .pointer (some ⟨H1.length,0,none⟩)∧e 5 = .int .i64 i ∧
       Bst2 h H id n a (B+210+10*i) h.length H1.length ⟨[.int .i64 0, .slice none 0 0],2, .rw⟩ (.int .i64 N) v 4 l.length (flQ l)∧l.length<=20+i∧PB l) ?_ ?_
      ·try simp only[go_sem]
       exact⟨_,l,bs2.step (bs2.st.more (by omega)) Agr.refl,by omega,hpb⟩
      ·rintro i e H hi ⟨v,l,e0,e2,e3,e5,bs,hl,hpb⟩
       obtain⟨av,rfl⟩:=bs.s.len
       try simp only[go_sem,e0,e2,e3,e5,bs.b]
       refine (d_pick _ bs.st hown (by omega)).go ?_
       rintro _ H3 ⟨⟨y,rfl,y0,y1⟩,s3,g3⟩
       have bs3:=bs.step s3 g3
       have l3:=g3.1
       have w1:IntKind.i64.wrap (10+y)=10+y:=wrap64 (by omega)
       obtain⟨d1,d2,d3,_⟩:=bs3.done rfl ⟨[.int .i64 N, .slice av l.length 0],2, .rw⟩
       by_cases h1:(l.length:Int)<10+y
       ·by_cases h2:(i:Int)<12
        ·obtain⟨wa,hwa,hwb⟩: ∃w,IntKind.i64.wrap (60+(i:Int))=w∧0<=w∧w<=100:=⟨_,rfl,by rw[wrap64 (by omega)];omega⟩
         have w3:IntKind.i64.wrap ((i:Int)+1)=((i+1:Nat):Int):=by rw[wrap64 (by omega)];rfl
         try simp only[go_sem,e0,e2,e3,e5,bs.b,bs3.b,l3,w1,w3,h1,h2,hwa]
         refine (c_l1Most _ _).go ?_
         rintro _ _⟨rfl,rfl⟩
         obtain⟨ml,hml⟩: ∃w:Int,(if N<2 then 2 else N)=w:=⟨_,rfl⟩
         rcases bs3.s with⟨ev,n1,n2⟩|⟨sid,ev,q1,q2,q3,q4⟩
         ·obtain rfl:l= []:=List.length_eq_zero_iff.1 n1
          obtain rfl:av=none:=by simpa using ev
          have bz:=bs3.app0 (new:=pip (wa,1,(if N<2 then 2 else N),2)) rfl
          try simp only[go_sem,e0,e2,e3,e5,w3,bs3.b,self_get bs3.b,own_base0 L1]
          exact⟨by omega, .slice (some ⟨H3.length+1,0,none⟩) 1 0,[(wa,1,(if N<2 then 2 else N),2)],bz.step (bz.st.more (by omega)) Agr.refl,by simp;omega,PB.nil.snoc (by simp only;have:=hN;split<;>omega)⟩
         ·obtain rfl:av=some ⟨sid,0,none⟩:=by simpa using ev
          have o1:own h.length M sid=True:=own_ge (by omega)
          have bz:=bs3.app1 (new:=pip (wa,1,(if N<2 then 2 else N),2)) rfl
          try simp only[go_sem,e0,e2,e3,e5,w3,bs3.b,self_get bs3.b,own_base0 L1,self_get q3,o1,kill_get bs3.b (bs3.ne sid rfl),flQ_len]
          refine⟨by omega,by omega,by omega, .slice (some ⟨H3.length+1,0,none⟩) (l.length+1) 0,l++ [(wa,1,(if N<2 then 2 else N),2)], ?_,by simp;omega,hpb.snoc (by simp only;have:=hN;split<;>omega)⟩
          rw[snoc_lenP,flQ_snoc];exact bz.step (bz.st.more (by omega)) Agr.refl
        ·try simp only[go_sem,e0,e2,e3,e5,bs.b,bs3.b,l3,w1,h1,h2,bs3.r,set_get bs3.r,own_ge (le_refl h.length)]
         exact fin _ _ l _ (bs3.step (bs3.st.more (by omega)) Agr.refl) (by omega) ⟨hN,hpb⟩
       ·try simp only[go_sem,e0,e2,e3,e5,bs.b,bs3.b,l3,w1,h1,bs3.r,set_get bs3.r,own_ge (le_refl h.length)]
        exact fin _ _ l _ (bs3.step (bs3.st.more (by omega)) Agr.refl) (by omega) ⟨hN,hpb⟩
     ·try simp only[go_sem,show (c==0)=false by simpa using hc0,show (c==1)=false by simpa using hc1,show (c==2)=false by simpa using hc2,show (c==3)=false by simpa using hc3,show (c==4)=false by simpa using hc4,bs2.b,bs2.r,set_get bs2.r,own_ge (le_refl h.length)]
      exact fin _ _ _ _ (bs2.step (bs2.st.more (by omega)) Agr.refl) (by omega) ⟨hN,hpb⟩
end
open Go.HH
def FQs(lo hi sz:Nat)(h:Heap)(v:Value)(rows:List (List Value)):Prop:=FR lo hi sz h v rows∨(rows= []∧∃a,v = .slice a 0 0)
theorem FQs.mono{lo hi sz:Nat}{h h':Heap}{v:Value}{rows:List (List Value)}(s:FQs lo hi sz h v rows)(hp:h<+:h'):FQs lo hi sz h' v rows:=s.imp (fun s=>s.mono hp) id
theorem FQs.agr{lo hi a b sz:Nat}{h h':Heap}{v:Value}{rows:List (List Value)}(s:FQs lo hi sz h v rows)(g:Agr a b h h')(hn:hi<=a∨b<=lo):FQs lo hi sz h' v rows:=
 s.imp (fun⟨id,e,e1,e2,e3,e4⟩=>⟨id,e,e1,e2,by rw[g.2 id (hget_lt e3) (by omega)];exact e3,e4⟩) id
theorem FQs.sl{lo hi sz:Nat}{h:Heap}{v:Value}{rows:List (List Value)}(s:FQs lo hi sz h v rows):Sl h sz v rows:=by
 rcases s with s|⟨rfl,a,rfl⟩
 ·exact s.sl
 ·exact⟨a,rfl,fun r hr=>by simp at hr,fun h0=>absurd rfl h0⟩
theorem FQs.wide{lo hi lo' hi' sz:Nat}{h:Heap}{v:Value}{rows:List (List Value)}(s:FQs lo hi sz h v rows)(h1:lo'<=lo)(h2:hi<=hi'):FQs lo' hi' sz h v rows:=
 s.imp (fun⟨id,e,e1,e2,e3⟩=>⟨id,e,by omega,by omega,e3⟩) id
open Go.HH
abbrev Vlv:=Int×Int×Int×Bool
section
variable {h:Heap} {M:Nat->Prop}
def vlv(x:Vlv):List Value:= [.int .i64 x.1, .int .i64 x.2.1, .int .i64 x.2.2.1, .bool x.2.2.2]
end
open Go.HH Go.Proofs
structure Con where
 N:Int
 P:List Pip
 V:List Vlv
 src:Int
 D:ByteArray
 Q:ByteArray
 cnt:Int
def conV(c:Con)(wP wV:Value):Value := .agg #[.int .i64 c.N,wP,wV, .int .i64 c.src, .string c.D, .string c.Q, .int .i64 c.cnt]
structure ConS(n:Nat)(h:Heap)(c:Con)(wP wV:Value):Prop where
 p:SB n 4 h wP (c.P.map pip)
 v:SB n 4 h wV (c.V.map vlv)
theorem ConS.mono{n:Nat}{h h':Heap}{c:Con}{wP wV:Value}(s:ConS n h c wP wV)(hp:h<+:h'):ConS n h' c wP wV:=⟨s.p.mono hp,s.v.mono hp⟩
theorem ConS.net{n:Nat}{h:Heap}{c:Con}{wP wV:Value}(s:ConS n h c wP wV):NA n h (.agg #[.int .i64 c.N,wP]) c.N c.P:=⟨wP,rfl,s.p⟩
def conSmall(c:Con):Prop:=c.P.length<=1048576∧c.V.length<=1048576∧c.D.size+c.Q.size<=1048576
theorem hgMove{h x y t u:Heap}{id:Nat}{b:Blk}(g:hget (h++x++t) id=some b)(hl:h.length+x.length<=id)(e:y.length=x.length):hget (h++(y++(t++u))) id=some b:=by
 obtain⟨j,rfl⟩: ∃j,id=h.length+(x.length+j):=⟨id-h.length-x.length,by omega⟩
 rw[append_assoc,hget_app,getElem?_append_right (by omega),add_sub_cancel_left] at g
 rw[hget_app,getElem?_append_right (by omega),e,add_sub_cancel_left]
 have:=(List.getElem?_eq_some_iff.1 g).1
 rw[getElem?_append_left this]
 exact g
open Go.HH Go.Proofs
structure ConQ(lo hi:Nat)(h:Heap)(c:Con)(wP wV:Value):Prop where
 p: ∃a b x y,(lo<=a∧b<=hi∧lo<=x∧y<=hi∧(b<=x∨y<=a))∧FQs a b 4 h wP (c.P.map pip)∧FQs x y 4 h wV (c.V.map vlv)
theorem ConQ.mk2{lo hi:Nat}{h:Heap}{c:Con}{wP wV:Value}(mid:Nat)(h1:lo<=mid)(h2:mid<=hi)(p:FQs lo mid 4 h wP (c.P.map pip))(v:FQs mid hi 4 h wV (c.V.map vlv)):ConQ lo hi h c wP wV:=
 ⟨lo,mid,mid,hi,⟨le_refl _,h2,h1,le_refl _, .inl (le_refl _)⟩,p,v⟩
theorem oneP(P:List Pip):((P.map pip).flatten).all oneC=true:=rows_one fun r hr=>by
 obtain⟨x,_,rfl⟩:=mem_map.1 hr
 rfl
theorem oneVv(P:List Vlv):((P.map vlv).flatten).all oneC=true:=rows_one fun r hr=>by
 obtain⟨x,_,rfl⟩:=mem_map.1 hr
 rfl
theorem flP(P:List Pip):((P.map pip).flatten).length=P.length*4:=by
 rw[flatten_len (sz:=4) (fun r hr=>by obtain⟨x,_,rfl⟩:=mem_map.1 hr;rfl),length_map]
theorem flV(P:List Vlv):((P.map vlv).flatten).length=P.length*4:=by
 rw[flatten_len (sz:=4) (fun r hr=>by obtain⟨x,_,rfl⟩:=mem_map.1 hr;rfl),length_map]
theorem frP{h t:Heap}{j n lo hi:Nat}{P:List Pip}(hj:t[j]? = some ⟨(P.map pip).flatten,4, .rw⟩)(hn:n=P.length)(h1:lo<=h.length+j)(h2:h.length+j<hi):FQs lo hi 4 (h++t) (.slice (some ⟨h.length+j,0,none⟩) n 0) (P.map pip):=
 .inl ⟨h.length+j,by rw[length_map,hn],h1,h2,by rw[hget_app];exact hj,fun r hr=>by obtain⟨x,_,rfl⟩:=mem_map.1 hr;rfl⟩
theorem frV{h t:Heap}{j n lo hi:Nat}{P:List Vlv}(hj:t[j]? = some ⟨(P.map vlv).flatten,4, .rw⟩)(hn:n=P.length)(h1:lo<=h.length+j)(h2:h.length+j<hi):FQs lo hi 4 (h++t) (.slice (some ⟨h.length+j,0,none⟩) n 0) (P.map vlv):=
 .inl ⟨h.length+j,by rw[length_map,hn],h1,h2,by rw[hget_app];exact hj,fun r hr=>by obtain⟨x,_,rfl⟩:=mem_map.1 hr;rfl⟩
theorem fq0{α:Type}{h:Heap}{lo hi:Nat}{a:Option Addr}{f:α->List Value}:FQs lo hi 4 h (.slice a 0 0) (([]:List α).map f) := .inr ⟨rfl,a,rfl⟩
theorem FQs.one{lo hi sz:Nat}{h:Heap}{v:Value}{rows:List (List Value)}(s:FQs lo hi sz h v rows):oneC v=true:=by
 rcases s with⟨id,rfl,_⟩|⟨_,a,rfl⟩<;>rfl
theorem FQs.swapped{h x y t:Heap}{lo hi lo' hi':Nat}{v:Value}{rows:List (List Value)}(s:FQs lo hi 4 (h++x++t) v rows)(hl:h.length+x.length<=lo)(e:y.length=x.length)(h1:lo'<=lo)(h2:hi<=hi'):FQs lo' hi' 4 (h++(y++t)) v rows:=by
 rcases s with⟨id,ev,g1,g2,g3,g4⟩|s
 ·have:=hgMove (y:=y) (u:= []) g3 (by omega) e
  rw[append_nil] at this
  exact .inl ⟨id,ev,by omega,by omega,this,g4⟩
 ·exact .inr s
theorem ConQ.swapped{h x y t:Heap}{hi hi':Nat}{c:Con}{wP wV:Value}(s:ConQ (h++x).length hi (h++x++t) c wP wV)(e:y.length=x.length)(h2:hi<=hi'):ConQ h.length hi' (h++(y++t)) c wP wV:=by
 obtain⟨a,b,x',y',hh,p,v⟩:=s.p
 rw[length_append] at hh
 exact⟨a,b,x',y',by omega,p.swapped (by omega) e (le_refl _) (le_refl _),v.swapped (by omega) e (le_refl _) (le_refl _)⟩
theorem ConQ.one{lo hi:Nat}{h:Heap}{c:Con}{wP wV:Value}(s:ConQ lo hi h c wP wV):oneC wP=true∧oneC wV=true:=by
 obtain⟨_,_,_,_,_,p,v⟩:=s.p
 exact⟨p.one,v.one⟩
section
variable {h:Heap} {M:Nat->Prop}
theorem c_newConsole(c:Con)(wP wV:Value)(sP:Sl h 4 wP (c.P.map pip))(sV:Sl h 4 wV (c.V.map vlv))(hP:c.P.length<=1048576)(hV:c.V.length<=1048576) :
  vCall [] Tryz.prog M 54 [conV c wP wV] h (fun r h'=>(∃xP xV,r=conV c xP xV∧ConQ h.length h'.length h' c xP xV)∧h<+:h'):=by
 obtain⟨N,P,V,src,D,Q,cnt⟩:=c
 simp only at sP sV hP hV
 obtain⟨aa,ea,_,_⟩:=id sP
 obtain⟨bb,eb,_,_⟩:=id sV
 rw[length_map] at ea eb
 refine boQ ([(1,18)]) Tryz.func54 rfl rfl ?_
 by_cases p0:P= []
 ·subst p0
  simp only[length_nil] at ea
  subst ea
  by_cases v0:V= []
  ·subst v0
   simp only[length_nil] at eb
   subst eb
   simp only[go_sem,conV]
   refine fun X _ Y _=>⟨_,_,rfl,ConQ.mk2 h.length ?_ ?_ fq0 fq0⟩
   all_goals (clear sP sV;omega)
  ·have hv0:0<V.length:=length_pos_iff.2 v0
   obtain⟨id,off,k,ev,hk,hd,hbb,hfl⟩:=sV.copy (by simpa using v0)
   rw[length_map] at ev hbb hfl
   rw[eb] at ev
   obtain rfl:bb=some ⟨id,off,none⟩:=by simpa using ev
   subst eb
   simp only[go_sem,conV,onAppQ_more hv0,hk,hd,hbb,hfl,show V.length<=9223372036854775807 by omega,show V.length*32<=140737488355328 by omega]
   refine fun X _ Y _=>⟨by omega,_,_,rfl,ConQ.mk2 h.length ?_ ?_ fq0 (frV ?_ rfl ?_ ?_)⟩
   all_goals first|rfl|omega|skip
 ·have hp0:0<P.length:=length_pos_iff.2 p0
  obtain⟨id,off,k,ev,hk,hd,hbb,hfl⟩:=sP.copy (by simpa using p0)
  rw[length_map] at ev hbb hfl
  rw[ea] at ev
  obtain rfl:aa=some ⟨id,off,none⟩:=by simpa using ev
  subst ea
  by_cases v0:V= []
  ·subst v0
   simp only[length_nil] at eb
   subst eb
   simp only[go_sem,conV,onAppQ_more hp0,hk,hd,hbb,hfl,show P.length<=9223372036854775807 by omega,show P.length*32<=140737488355328 by omega]
   refine fun X _=>⟨by omega,fun Y _=>⟨_,_,rfl,ConQ.mk2 (h.length+3) ?_ ?_ (frP ?_ rfl ?_ ?_) fq0⟩⟩
   all_goals first|rfl|omega|skip
  ·have hv0:0<V.length:=length_pos_iff.2 v0
   obtain⟨id2,off2,k2,ev2,hk2,hd2,hbb2,hfl2⟩:=sV.copy (by simpa using v0)
   rw[length_map] at ev2 hbb2 hfl2
   rw[eb] at ev2
   obtain rfl:bb=some ⟨id2,off2,none⟩:=by simpa using ev2
   subst eb
   simp only[go_sem,conV,onAppQ_more hp0,onAppQ_more hv0,hk,hd,hbb,hfl,hk2,hd2,hbb2,hfl2,show P.length<=9223372036854775807 by omega,show P.length*32<=140737488355328 by omega,show V.length<=9223372036854775807 by omega,show V.length*32<=140737488355328 by omega]
   refine fun X _=>⟨by omega,fun Y _=>⟨by omega,_,_,rfl,ConQ.mk2 (h.length+3) ?_ ?_ (frP ?_ rfl ?_ ?_) (frV ?_ rfl ?_ ?_)⟩⟩
   all_goals first|rfl|omega|skip
theorem c_l28Own(c:Con)(wP wV:Value)(sP:Sl h 4 wP (c.P.map pip))(sV:Sl h 4 wV (c.V.map vlv))(hP:c.P.length<=1048576)(hV:c.V.length<=1048576) :
  vCall [] Tryz.prog M 58 [conV c wP wV] h (fun r h'=>(∃xP xV,r=conV c xP xV∧ConQ h.length h'.length h' c xP xV)∧h<+:h'):=by
 obtain⟨N,P,V,src,D,Q,cnt⟩:=c
 simp only at sP sV hP hV
 obtain⟨aa,ea,_,_⟩:=id sP
 obtain⟨bb,eb,_,_⟩:=id sV
 rw[length_map] at ea eb
 refine boQ ([(1,10),(2,10)]) Tryz.func58 rfl rfl ?_
 by_cases p0:P= []
 ·subst p0
  simp only[length_nil] at ea
  subst ea
  by_cases v0:V= []
  ·subst v0
   simp only[length_nil] at eb
   subst eb
   simp only[go_sem,conV]
   refine fun X _ Y _=>⟨_,_,rfl,ConQ.mk2 h.length ?_ ?_ fq0 fq0⟩
   all_goals (clear sP sV;omega)
  ·have hv0:0<V.length:=length_pos_iff.2 v0
   obtain⟨id,off,k,ev,hk,hd,hbb,hfl⟩:=sV.copy (by simpa using v0)
   rw[length_map] at ev hbb hfl
   rw[eb] at ev
   obtain rfl:bb=some ⟨id,off,none⟩:=by simpa using ev
   subst eb
   simp only[go_sem,conV,onAppQ_more hv0,hk,hd,hbb,hfl,show V.length<=9223372036854775807 by omega,show V.length*32<=140737488355328 by omega]
   refine fun X _ Y _=>⟨by omega,_,_,rfl,ConQ.mk2 h.length ?_ ?_ fq0 (frV ?_ rfl ?_ ?_)⟩
   all_goals first|rfl|omega|skip
 ·have hp0:0<P.length:=length_pos_iff.2 p0
  obtain⟨id,off,k,ev,hk,hd,hbb,hfl⟩:=sP.copy (by simpa using p0)
  rw[length_map] at ev hbb hfl
  rw[ea] at ev
  obtain rfl:aa=some ⟨id,off,none⟩:=by simpa using ev
  subst ea
  by_cases v0:V= []
  ·subst v0
   simp only[length_nil] at eb
   subst eb
   simp only[go_sem,conV,onAppQ_more hp0,hk,hd,hbb,hfl,show P.length<=9223372036854775807 by omega,show P.length*32<=140737488355328 by omega]
   refine fun X _=>⟨by omega,fun Y _=>⟨_,_,rfl,ConQ.mk2 (h.length+3) ?_ ?_ (frP ?_ rfl ?_ ?_) fq0⟩⟩
   all_goals first|rfl|omega|skip
  ·have hv0:0<V.length:=length_pos_iff.2 v0
   obtain⟨id2,off2,k2,ev2,hk2,hd2,hbb2,hfl2⟩:=sV.copy (by simpa using v0)
   rw[length_map] at ev2 hbb2 hfl2
   rw[eb] at ev2
   obtain rfl:bb=some ⟨id2,off2,none⟩:=by simpa using ev2
   subst eb
   simp only[go_sem,conV,onAppQ_more hp0,onAppQ_more hv0,hk,hd,hbb,hfl,hk2,hd2,hbb2,hfl2,show P.length<=9223372036854775807 by omega,show P.length*32<=140737488355328 by omega,show V.length<=9223372036854775807 by omega,show V.length*32<=140737488355328 by omega]
   refine fun X _=>⟨by omega,fun Y _=>⟨by omega,_,_,rfl,ConQ.mk2 (h.length+3) ?_ ?_ (frP ?_ rfl ?_ ?_) (frV ?_ rfl ?_ ?_)⟩⟩
   all_goals first|rfl|omega|skip
theorem c_l2NodeN{n:Nat}(v:Value)(N:Int)(P:List Pip)(x:Int)(hv:NA n h v N P)(hP:P.length<=1048576):vCall [] Tryz.prog M 87 [v, .int .i64 x] h (fun r h'=>r = .bool (decide (netGood N P∧1<=x∧x<=N))∧h<+:h'):=by
 obtain⟨w,rfl,sw⟩:=id hv
 refine bo Tryz.func87 rfl rfl ?_
 simp only[go_sem]
 refine (c_l2Good _ N P (hv.mono (by simp)) hP).go ?_
 rintro _ _⟨rfl,⟨t,rfl⟩⟩
 by_cases h1:netGood N P
 ·simp only[go_sem,decb h1]
  refine (c_l1In _ _ _).go ?_
  rintro _ _⟨rfl,rfl⟩
  simp only[go_sem,decb h1]
  simp[h1]
 ·simp only[go_sem,dect h1]
  simp[h1]
theorem c_hasNode{n:Nat}(v:Value)(N:Int)(P:List Pip)(x:Int)(hv:NA n h v N P)(hP:P.length<=1048576):vCall [] Tryz.prog M 86 [v, .int .i64 x] h (fun r h'=>r = .bool (decide (netGood N P∧1<=x∧x<=N))∧h<+:h'):=by
 obtain⟨w,rfl,sw⟩:=id hv
 refine bo Tryz.func86 rfl rfl ?_
 simp only[go_sem]
 refine (c_IsValidNetwork _ N P (hv.mono (by simp)) hP).go ?_
 rintro _ _⟨rfl,⟨t,rfl⟩⟩
 by_cases h1:netGood N P
 ·simp only[go_sem,decb h1]
  refine (c_has _ _ _).go ?_
  rintro _ _⟨rfl,⟨t2,rfl⟩⟩
  simp only[go_sem,decb h1]
  simp[h1]
 ·simp only[go_sem,dect h1]
  simp[h1]
def newC(N:Int)(P:List Pip)(x:Int):Con:=if netGood N P∧1<=x∧x<=N then ⟨N,P,[],x, .empty, .empty,0⟩ else ⟨0,[],[],0, .empty, .empty,0⟩
theorem c_NewConsole{n:Nat}(v:Value)(N:Int)(P:List Pip)(x:Int)(hv:NA n h v N P)(hP:P.length<=1048576):vCall [] Tryz.prog M 39 [v, .int .i64 x] h
  (fun r h'=>(∃xP xV,r = .tuple #[conV (newC N P x) xP xV, .bool (decide (netGood N P∧1<=x∧x<=N))]∧ConQ h.length h'.length h' (newC N P x) xP xV)∧h<+:h'):=by
 obtain⟨w,rfl,sw⟩:=id hv
 refine bo Tryz.func39 rfl rfl ?_
 simp only[go_sem]
 refine (c_hasNode _ N P x (hv.mono (by simp)) hP).go ?_
 rintro _ _⟨rfl,⟨t,rfl⟩⟩
 by_cases h1:netGood N P∧1<=x∧x<=N
 ·simp only[go_sem,decb h1]
  refine (c_newConsole ⟨N,P,[],x, .empty, .empty,0⟩ w (.slice none 0 0) ((sw.mono (by simp)).1) Sl.nil hP (by simp)).go ?_
  rintro _ _⟨⟨xP,xV,rfl,q⟩,⟨t2,rfl⟩⟩
  simp only[go_sem,decb h1,conV,q.one.1,q.one.2,Bool.and_self]
  have en:newC N P x=⟨N,P,[],x, .empty, .empty,0⟩:=by rw[newC,if_pos h1]
  rw[en]
  exact⟨_,_,rfl,q.swapped (y:=_::_::t) rfl (by simp)⟩
 ·simp only[go_sem,dect h1]
  have en:newC N P x=⟨0,[],[],0, .empty, .empty,0⟩:=by rw[newC,if_neg h1]
  rw[en]
  exact⟨_,_,rfl,ConQ.mk2 h.length (by omega) (by omega) fq0 fq0⟩
theorem c_sNewConsole{n:Nat}(v:Value)(N:Int)(P:List Pip)(x:Int)(hv:NA n h v N P)(hP:P.length<=1048576):vCall [] Tryz.prog M 40 [v, .int .i64 x] h
  (fun r h'=>(∃xP xV,r = .tuple #[conV (newC N P x) xP xV, .bool (decide (netGood N P∧1<=x∧x<=N))]∧ConQ h.length h'.length h' (newC N P x) xP xV)∧h<+:h'):=by
 obtain⟨w,rfl,sw⟩:=id hv
 refine bo Tryz.func40 rfl rfl ?_
 simp only[go_sem]
 refine (c_l2NodeN _ N P x (hv.mono (by simp)) hP).go ?_
 rintro _ _⟨rfl,⟨t,rfl⟩⟩
 by_cases h1:netGood N P∧1<=x∧x<=N
 ·simp only[go_sem,decb h1]
  refine (c_l28Own ⟨N,P,[],x, .empty, .empty,0⟩ w (.slice none 0 0) ((sw.mono (by simp)).1) Sl.nil hP (by simp)).go ?_
  rintro _ _⟨⟨xP,xV,rfl,q⟩,⟨t2,rfl⟩⟩
  simp only[go_sem,decb h1,conV,q.one.1,q.one.2,Bool.and_self]
  have en:newC N P x=⟨N,P,[],x, .empty, .empty,0⟩:=by rw[newC,if_pos h1]
  rw[en]
  exact⟨_,_,rfl,q.swapped (y:=_::_::t) rfl (by simp)⟩
 ·simp only[go_sem,dect h1]
  have en:newC N P x=⟨0,[],[],0, .empty, .empty,0⟩:=by rw[newC,if_neg h1]
  rw[en]
  exact⟨_,_,rfl,ConQ.mk2 h.length (by omega) (by omega) fq0 fq0⟩
end
open Go.HH
def idxI{α:Type}(p:α->Bool)(l:List α):Int:=if l.any p=true then (l.findIdx p:Int) else -1
theorem idxI_at{α:Type}{p:α->Bool}{l:List α}{k:Nat}(h:idxI p l=(k:Int)): ∃hk:k<l.length,p l[k]=true:=by
 unfold idxI at h
 split at h
 ·rename_i h1
  have hlt:=List.findIdx_lt_length.2 (any_eq_true.1 h1)
  have e:l.findIdx p=k:=by omega
  subst e
  exact⟨hlt,List.findIdx_getElem⟩
 ·omega
theorem idxI_is{α:Type}{p:α->Bool}{l:List α}{i:Nat}(hi:i<l.length)(hp:p l[i]=true)(hno: ∀(j:Nat) (hj:j<l.length),j<i->p l[j]=false):idxI p l=i:=by
 have h1:l.findIdx p=i:=(List.findIdx_eq hi).2 ⟨hp,fun j hj=>hno j (by omega) hj⟩
 rw[idxI,if_pos (any_eq_true.2 ⟨_,getElem_mem hi,hp⟩),h1]
theorem idxI_no{α:Type}{p:α->Bool}{l:List α}(hno: ∀(j:Nat) (hj:j<l.length),p l[j]=false):idxI p l = -1:=by
 rw[idxI,if_neg]
 rw[Bool.not_eq_true,List.any_eq_false]
 intro x hx
 obtain⟨j,hj,rfl⟩:=mem_iff_getElem.1 hx
 rw[hno j hj];simp
def pidx(P:List Pip)(id:Int):Int:=idxI (fun p=>decide (p.1=id)) P
def vidx(V:List Vlv)(id:Int):Int:=idxI (fun v=>decide (v.1=id)) V
def vlv0:Vlv:=(0,0,0,false)
theorem getDv{l:List Vlv}{i:Nat}(hi:i<l.length):l.getD i vlv0=l[i]:=by simp[List.getD,hi]
def isEnd(P:List Pip)(pid nd:Int):Prop:=0<=pidx P pid∧((P.getD (pidx P pid).toNat pip0).2.1=nd∨(P.getD (pidx P pid).toNat pip0).2.2.1=nd)
def vlvAt(P:List Pip)(V:List Vlv)(i:Nat):Prop:=((1<=(V.getD i vlv0).1∧(V.getD i vlv0).1<=99)∧(0<i->(V.getD (i-1) vlv0).1<(V.getD i vlv0).1)∧isEnd P (V.getD i vlv0).2.1 (V.getD i vlv0).2.2.1) ∧
 ∀m,m<i->¬((V.getD m vlv0).2.1=(V.getD i vlv0).2.1∧(V.getD m vlv0).2.2.1=(V.getD i vlv0).2.2.1)
def valOk(N:Int)(P:List Pip)(V:List Vlv):Prop:=netGood N P∧V.length<=10∧∀i,i<V.length->vlvAt P V i
open Classical in
noncomputable instance {N:Int} {P:List Pip} {V:List Vlv}:Decidable (valOk N P V):=propDecidable _
theorem val_bad{N:Int}{P:List Pip}{V:List Vlv}{i:Nat}(hi:i<V.length)(hb: ¬vlvAt P V i):Value.bool false=Value.bool (decide (valOk N P V)):=
 congrArg Value.bool (decide_eq_false (fun hh:valOk N P V=>hb (hh.2.2 i hi))).symm
def othE(p:Pip)(x:Int):Int:=if x=p.2.1 then p.2.2.1 else if x=p.2.2.1 then p.2.1 else 0
theorem othE_zero{N:Int}{P:List Pip}(g:netGood N P){k:Nat}(hk:k<P.length){nd:Int}:((¬nd<1)∧¬othE P[k] nd=0)↔(P[k].2.1=nd∨P[k].2.2.1=nd):=by
 have h1:=(g.1 k hk).1
 rw[getDp hk] at h1
 obtain⟨_,a,b,c,_⟩:=h1
 unfold othE
 constructor
 ·rintro⟨_,h3⟩
  by_cases q1:nd=P[k].2.1
  ·exact .inl q1.symm
  ·rw[if_neg q1] at h3
   by_cases q2:nd=P[k].2.2.1
   ·exact .inr q2.symm
   ·rw[if_neg q2] at h3;exact absurd rfl h3
 ·intro hh
  refine⟨by omega, ?_⟩
  by_cases q1:nd=P[k].2.1
  ·rw[if_pos q1];omega
  ·rw[if_neg q1]
   by_cases q2:nd=P[k].2.2.1
   ·rw[if_pos q2];omega
   ·rcases hh with h|h
    ·exact absurd h.symm q1
    ·exact absurd h.symm q2
def EszC(h:Heap)(sz:Nat)(v:Value):Prop:= ∀id o n,v = .slice (some ⟨id,o,none⟩) n 0->0<n->∃k,hget h id=some k∧k.esz=sz
theorem EszC.mono{h h':Heap}{sz:Nat}{v:Value}(s:EszC h sz v)(hp:h<+:h'):EszC h' sz v:=fun id o n e hn=>by
 obtain⟨k,a,b⟩:=s id o n e hn
 exact⟨k,by rw[hget_prefix hp (hget_lt a)];exact a,b⟩
theorem FR.eszC{lo hi sz:Nat}{h:Heap}{v:Value}{rows:List (List Value)}(s:FR lo hi sz h v rows):EszC h sz v:=fun id o n e hn=>by
 obtain⟨id2,rfl,_,_,hg,_⟩:=s
 simp only[Value.slice.injEq,Option.some.injEq,Addr.mk.injEq] at e
 obtain⟨⟨rfl,_,_⟩,_⟩:=e
 exact⟨_,hg,rfl⟩
section
variable {h:Heap} {M:Nat->Prop}
theorem c_pipIndex{fid:Nat}{cap:Array Value}(hf:callable Tryz.prog fid=true)(p:Pip->Bool)(v:Value)(l:List Pip)(s:Sl h 4 v (l.map pip))(hmax:l.length<=1048576)
  (hcb: ∀(M:Nat->Prop) (h':Heap) (x:Pip),h<+:h'->x∈l->vCall [] Tryz.prog M fid (.agg (pip x).toArray::cap.toList) h' (fun r h''=>r = .bool (p x)∧h'<+:h'')) :
  vCall [] Tryz.prog M 160 [v, .func (.func fid) #[] cap] h (fun r h'=>r = .int .i64 (idxI p l)∧h<+:h'):=by
 obtain⟨a,hv,_,_⟩:=id s
 rw[length_map] at hv
 subst hv
 refine bo Tryz.func160 rfl rfl ?_
 simp only[go_sem]
 refine vLoop.count mo l.length (fun i e h'=> ∃t:Heap,Regs e [(0, .slice a l.length 0),(1, .func (.func fid) #[] cap),(7, .int .i64 l.length),(8, .int .i64 i)]∧HeapIs h' (h++t)∧∀(j:Nat) (hj:j<l.length),j<i->p l[j]=false) ?_ ?_
 ·exact⟨[],⟨rfl,rfl,rfl,rfl,trivial⟩,by simp[HeapIs],fun j _ hj=>absurd hj (by omega)⟩
 ·rintro i e _ hi ⟨t,⟨e0,e1,e7,e8,_⟩,rfl,hno⟩
  simp only[go_sem,e0,e1,e7,e8]
  by_cases hlt:i<l.length
  ·have ws:=wsucc hlt (by omega)
   have hz:(i:Int)<l.length:=by omega
   have hlt':i<(l.map pip).length:=by simpa using hlt
   obtain⟨id,o,k,hv,hk,_,hd,hb,hrow,hat⟩:=s.at hlt'
   obtain rfl:a=some ⟨id,o,none⟩:=by simpa using hv
   rw[getElem_map] at hrow
   simp only[go_sem,e0,e1,e7,e8,hz,hk,hd,hb,hrow]
   refine⟨hf,(hcb _ _ l[i] (prefix_append _ _) (getElem_mem hlt)).use (fun _ m=>m) ?_⟩
   rintro _ _⟨rfl,⟨t2,rfl⟩⟩
   simp only[go_sem,e0,e1,e7,e8]
   cases hp:p l[i] with
   | true=>
    simp only[go_sem,e0,e1,e7,e8]
    refine congrArg (Value.int .i64) ?_
    have h1:l.findIdx p=i:=(List.findIdx_eq hlt).2 ⟨hp,fun j hj=>hno j (by omega) hj⟩
    have h2:l.any p=true:=any_eq_true.2 ⟨_,getElem_mem hlt,hp⟩
    rw[idxI,if_pos h2,h1]
   | false=>
    simp only[go_sem,e0,e1,e7,e8]
    refine⟨hlt,t++t2,⟨e0,e1,e7,congrArg _ ws,trivial⟩, .rfl,fun j hj hji => ?_⟩
    by_cases h3:j<i
    ·exact hno j hj h3
    ·obtain rfl:j=i:=by omega
     exact hp
  ·obtain rfl:i=l.length:=by omega
   simp only[go_sem,e0,e1,e7,e8,show ¬((l.length:Int)<l.length) by omega]
   rw[idxI,if_neg]
   rw[Bool.not_eq_true,List.any_eq_false]
   intro x hx
   obtain⟨j,hj,rfl⟩:=mem_iff_getElem.1 hx
   rw[hno j hj hj];simp
theorem c_vlvIndex{fid:Nat}{cap:Array Value}(hf:callable Tryz.prog fid=true)(p:Vlv->Bool)(v:Value)(l:List Vlv)(s:Sl h 4 v (l.map vlv))(hmax:l.length<=1048576)
  (hcb: ∀(M:Nat->Prop) (h':Heap) (x:Vlv),h<+:h'->x∈l->vCall [] Tryz.prog M fid (.agg (vlv x).toArray::cap.toList) h' (fun r h''=>r = .bool (p x)∧h'<+:h'')) :
  vCall [] Tryz.prog M 162 [v, .func (.func fid) #[] cap] h (fun r h'=>r = .int .i64 (idxI p l)∧h<+:h'):=by
 obtain⟨a,hv,_,_⟩:=id s
 rw[length_map] at hv
 subst hv
 refine bo Tryz.func162 rfl rfl ?_
 simp only[go_sem]
 refine vLoop.count mo l.length (fun i e h'=> ∃t:Heap,Regs e [(0, .slice a l.length 0),(1, .func (.func fid) #[] cap),(7, .int .i64 l.length),(8, .int .i64 i)]∧HeapIs h' (h++t)∧∀(j:Nat) (hj:j<l.length),j<i->p l[j]=false) ?_ ?_
 ·exact⟨[],⟨rfl,rfl,rfl,rfl,trivial⟩,by simp[HeapIs],fun j _ hj=>absurd hj (by omega)⟩
 ·rintro i e _ hi ⟨t,⟨e0,e1,e7,e8,_⟩,rfl,hno⟩
  simp only[go_sem,e0,e1,e7,e8]
  by_cases hlt:i<l.length
  ·have ws:=wsucc hlt (by omega)
   have hz:(i:Int)<l.length:=by omega
   have hlt':i<(l.map vlv).length:=by simpa using hlt
   obtain⟨id,o,k,hv,hk,_,hd,hb,hrow,hat⟩:=s.at hlt'
   obtain rfl:a=some ⟨id,o,none⟩:=by simpa using hv
   rw[getElem_map] at hrow
   simp only[go_sem,e0,e1,e7,e8,hz,hk,hd,hb,hrow]
   refine⟨hf,(hcb _ _ l[i] (prefix_append _ _) (getElem_mem hlt)).use (fun _ m=>m) ?_⟩
   rintro _ _⟨rfl,⟨t2,rfl⟩⟩
   simp only[go_sem,e0,e1,e7,e8]
   cases hp:p l[i] with
   | true=>
    simp only[go_sem,e0,e1,e7,e8]
    refine congrArg (Value.int .i64) ?_
    have h1:l.findIdx p=i:=(List.findIdx_eq hlt).2 ⟨hp,fun j hj=>hno j (by omega) hj⟩
    have h2:l.any p=true:=any_eq_true.2 ⟨_,getElem_mem hlt,hp⟩
    rw[idxI,if_pos h2,h1]
   | false=>
    simp only[go_sem,e0,e1,e7,e8]
    refine⟨hlt,t++t2,⟨e0,e1,e7,congrArg _ ws,trivial⟩, .rfl,fun j hj hji => ?_⟩
    by_cases h3:j<i
    ·exact hno j hj h3
    ·obtain rfl:j=i:=by omega
     exact hp
  ·obtain rfl:i=l.length:=by omega
   simp only[go_sem,e0,e1,e7,e8,show ¬((l.length:Int)<l.length) by omega]
   rw[idxI,if_neg]
   rw[Bool.not_eq_true,List.any_eq_false]
   intro x hx
   obtain⟨j,hj,rfl⟩:=mem_iff_getElem.1 hx
   rw[hno j hj hj];simp
theorem c_vlvContains{fid:Nat}{cap:Array Value}(hf:callable Tryz.prog fid=true)(p:Vlv->Bool)(v:Value)(l:List Vlv)(s:Sl h 4 v (l.map vlv))(hmax:l.length<=1048576)
  (hcb: ∀(M:Nat->Prop) (h':Heap) (x:Vlv),h<+:h'->x∈l->vCall [] Tryz.prog M fid (.agg (vlv x).toArray::cap.toList) h' (fun r h''=>r = .bool (p x)∧h'<+:h'')) :
  vCall [] Tryz.prog M 120 [v, .func (.func fid) #[] cap] h (fun r h'=>r = .bool (l.any p)∧h<+:h'):=by
 refine bo Tryz.func120 rfl rfl ?_
 simp only[go_sem]
 refine (c_vlvIndex hf p v l s hmax hcb).go ?_
 rintro _ _⟨rfl,⟨t,rfl⟩⟩
 simp only[go_sem]
 refine congrArg Value.bool ?_
 unfold idxI
 cases h1:l.any p<;>simp
theorem c_otherE(p:Pip)(x:Int):vCall [] Tryz.prog M 119 [.agg #[.int .i64 p.1, .int .i64 p.2.1, .int .i64 p.2.2.1, .int .i64 p.2.2.2], .int .i64 x] h (fun r h'=>r = .int .i64 (othE p x)∧h<+:h'):=by
 refine bo Tryz.func119 rfl rfl ?_
 simp only[go_sem]
 by_cases h1:x=p.2.1
 ·simp only[go_sem,show (x==p.2.1)=true by simpa using h1]
  rw[othE,if_pos h1]
 ·simp only[go_sem,show (x==p.2.1)=false by simpa using h1]
  by_cases h2:x=p.2.2.1
  ·simp only[go_sem,show (x==p.2.2.1)=true by simpa using h2]
   rw[othE,if_neg h1,if_pos h2]
  ·simp only[go_sem,show (x==p.2.2.1)=false by simpa using h2]
   rw[othE,if_neg h1,if_neg h2]
theorem c_pipeIndex1(x:Pip)(id:Nat)(n:Int)(hb:hget h id=some ⟨[.int .i64 n],1, .rw⟩) :
  vCall [] Tryz.prog M 161 [.agg #[.int .i64 x.1, .int .i64 x.2.1, .int .i64 x.2.2.1, .int .i64 x.2.2.2], .pointer (some ⟨id,0,none⟩)] h (fun r h'=>r = .bool (decide (x.1=n))∧h<+:h'):=by
 refine bo Tryz.func161 rfl rfl ?_
 have hb1:=self_get hb
 simp only[go_sem,hb1]
 by_cases q:x.1=n
 ·simp[q]
 ·simp[q]
theorem c_pipeIndex{n:Nat}(v:Value)(N:Int)(P:List Pip)(id:Int)(hv:NA n h v N P)(hmax:P.length<=1048576) :
  vCall [] Tryz.prog M 118 [v, .int .i64 id] h (fun r h'=>r = .int .i64 (pidx P id)∧h<+:h'):=by
 obtain⟨w,rfl,s⟩:=hv
 refine bo Tryz.func118 rfl rfl ?_
 simp only[go_sem]
 refine (c_pipIndex (by kernel_rfl) (fun p=>decide (p.1=id)) _ P (s.1.mono (by simp)) hmax (fun M h' x hp _=>c_pipeIndex1 x _ _ (by rw[hget_prefix hp (by simp)];simp only[go_sem]))).go ?_
 rintro _ _⟨rfl,⟨t,rfl⟩⟩
 simp only[go_sem]
 rfl
theorem c_l2Find{n:Nat}(v:Value)(N:Int)(P:List Pip)(id:Int)(hv:NA n h v N P)(hmax:P.length<=1048576) :
  vCall [] Tryz.prog M 99 [v, .int .i64 id] h (fun r h'=>r = .int .i64 (pidx P id)∧h<+:h'):=by
 obtain⟨w,rfl,s⟩:=hv
 obtain⟨a,rfl⟩:=Sl.len4 s.1
 refine bo Tryz.func99 rfl rfl ?_
 simp only[go_sem]
 refine vLoop.count mo P.length (fun i e h'=> ∃t:Heap,e 1 = .int .i64 id∧e 2 = .pointer (some ⟨h.length,0,none⟩)∧e 5 = .int .i64 i∧h'=h++⟨[.int .i64 N, .slice a P.length 0],2, .rw⟩::t∧∀(j:Nat) (hj:j<P.length),j<i->decide (P[j].1=id)=false) ?_ ?_
 ·exact⟨[],rfl,rfl,rfl,rfl,fun j _ hj=>absurd hj (by omega)⟩
 ·rintro i e _ hi ⟨t,e1,e2,e5,rfl,hno⟩
  simp only[go_sem,e1,e2,e5]
  by_cases hlt:i<P.length
  ·have ws:=wsucc hlt (by omega)
   have hlt':i<(P.map pip).length:=by simpa using hlt
   obtain⟨id2,o,K,hv,hK,_,hd,hb,hrow,hcell⟩:=s.1.at hlt'
   obtain rfl:a=some ⟨id2,o,none⟩:=by simpa using hv
   have hc0:=hcell 0 (by omega)
   rw[getElem_map] at hc0
   simp only[pip,getElem?_cons_zero,add_zero] at hc0
   by_cases q:P[i].1=id
   ·simp only[go_sem,e1,e2,e5,show (i:Int)<P.length by omega,hK,hd,hc0,show (P[i].1==id)=true by simpa using q]
    exact congrArg (Value.int .i64) (idxI_is hlt (decide_eq_true q) hno).symm
   ·simp only[go_sem,e1,e2,e5,show (i:Int)<P.length by omega,hK,hd,hc0,show (P[i].1==id)=false by simpa using q]
    refine⟨hlt,t,congrArg _ ws,rfl,fun j hj hji => ?_⟩
    by_cases e:j=i
    ·subst e;exact decide_eq_false q
    ·exact hno j hj (by omega)
  ·obtain rfl:i=P.length:=by omega
   simp only[go_sem,e1,e2,e5,show ¬((P.length:Int)<P.length) by omega]
   exact congrArg (Value.int .i64) (idxI_no fun j hj=>hno j hj hj).symm
theorem slTake{sz n:Nat}{a:Option Addr}{rows:List (List Value)}{i:Nat}(s:Sl h sz (.slice a n 0) rows)(hn:n=rows.length)(hi:i<=n):Sl h sz (.slice a i 0) (rows.take i):=by
 subst hn
 obtain⟨a',e,hl,f⟩:=s
 obtain rfl:a=a':=by simpa using e
 refine⟨a,by rw[length_take,min_eq_left hi],fun r hr=>hl r (List.mem_of_mem_take hr),fun h0 => ?_⟩
 have hr:rows≠ []:=fun h1=>h0 (by rw[h1];simp)
 obtain⟨id,off,k,e1,e2,e3,e4,e5⟩:=f hr
 have hlen:((rows.take i).flatten).length=i*sz:=by rw[flatten_len (fun r hr=>hl r (List.mem_of_mem_take hr)),length_take,min_eq_left hi]
 have hmul:i*sz<=rows.length*sz:=Nat.mul_le_mul_right _ hi
 refine⟨id,off,k,e1,e2,e3,by rw[length_take,min_eq_left hi];omega, ?_⟩
 rw[length_take,min_eq_left hi]
 have e6:(k.cells.drop off).take (i*sz)=((k.cells.drop off).take (rows.length*sz)).take (i*sz):=by rw[List.take_take,min_eq_left hmul]
 rw[e6,e5]
 conv=>lhs;rw[←take_append_drop i rows,flatten_append]
 rw[take_left' hlen]
theorem c_sameEnd(x y:Vlv)(id:Nat)(hb:hget h id=some ⟨vlv y,4, .rw⟩) :
  vCall [] Tryz.prog M 121 [.agg #[.int .i64 x.1, .int .i64 x.2.1, .int .i64 x.2.2.1, .bool x.2.2.2], .pointer (some ⟨id,0,none⟩)] h (fun r h'=>r = .bool (decide (x.2.1=y.2.1∧x.2.2.1=y.2.2.1))∧h<+:h'):=by
 refine bo Tryz.func121 rfl rfl ?_
 have hb1:=self_get hb
 simp only[go_sem,hb1,vlv]
 by_cases q:x.2.1=y.2.1
 ·simp only[go_sem,hb1,vlv,show (x.2.1==y.2.1)=true by simpa using q]
  by_cases q2:x.2.2.1=y.2.2.1
  ·simp[q,q2]
  ·simp[q,q2]
 ·simp only[go_sem,hb1,vlv,show (x.2.1==y.2.1)=false by simpa using q]
  simp[q]
set_option maxHeartbeats 4000000 in
theorem c_IsValidValves{n:Nat}(v vv:Value)(N:Int)(P:List Pip)(V:List Vlv)(hv:NA n h v N P)(s:Sl h 4 vv (V.map vlv))(hes:EszC h 4 vv)(hP:P.length<=1048576)(hV:V.length<=1048576) :
  vCall [] Tryz.prog M 64 [v,vv] h (fun r h'=>r = .bool (decide (valOk N P V))∧h<+:h'):=by
 obtain⟨w,rfl,sw⟩:=id hv
 obtain⟨pa,rfl⟩:=Sl.len4 sw.1
 obtain⟨a,ea,_,_⟩:=id s
 rw[length_map] at ea
 subst ea
 refine bo Tryz.func64 rfl rfl ?_
 simp only[go_sem]
 refine (c_IsValidNetwork _ N P (hv.mono (by simp)) hP).go ?_
 rintro _ _⟨rfl,⟨t,rfl⟩⟩
 by_cases g1:netGood N P
 ·simp only[go_sem,decb g1]
  by_cases g2:(10:Int)<V.length
  ·simp only[go_sem,g2]
   exact congrArg Value.bool (decide_eq_false (fun hh:valOk N P V=>by have:=hh.2.1;omega)).symm
  ·simp only[go_sem,g2]
   refine vLoop.count mo V.length (fun i e h'=> ∃t:Heap,e 1 = .slice a V.length 0∧e 2 = .pointer (some ⟨h.length,0,none⟩)∧e 16 = .slice a V.length 0∧e 17 = .int .i64 V.length∧e 18 = .int .i64 i∧h'=h++⟨[.int .i64 N, .slice pa P.length 0],2, .rw⟩::t∧∀j,j<i->vlvAt P V j) ?_ ?_
   ·exact⟨t,rfl,rfl,rfl,rfl,rfl,rfl,fun j hj=>absurd hj (by omega)⟩
   ·rintro i e _ hi ⟨t,e1,e2,e16,e17,e18,rfl,hok⟩
    simp only[go_sem,e1,e2,e16,e17,e18]
    by_cases hlt:i<V.length
    ·have ws:=wsucc hlt (by omega)
     have hlt':i<(V.map vlv).length:=by simpa using hlt
     obtain⟨id,o,K,hv2,hK,_,hd,hall⟩:=s.all (zero_lt_of_lt hlt')
     obtain rfl:a=some ⟨id,o,none⟩:=by simpa using hv2
     obtain⟨hb,hrow,_⟩:=hall i hlt'
     rw[getElem_map] at hrow
     simp only[vlv] at hrow
     have gd:V.getD i vlv0=V[i]:=getDv hlt
     have bad: ¬vlvAt P V i->Value.bool false=Value.bool (decide (valOk N P V)):=val_bad hlt
     simp only[go_sem,e1,e2,e16,e17,e18,show (i:Int)<V.length by omega,hK,hd,hb,hrow]
     refine (c_pipeIndex _ N P _ (hv.mono (by simp)) hP).go ?_
     rintro _ _⟨rfl,⟨t2,rfl⟩⟩
     simp only[go_sem,e1,e2,e16,e17,e18,append_assoc]
     refine (c_inside _ _ _).go ?_
     rintro _ _⟨rfl,rfl⟩
     have hV0:0<V.length:=by omega
     obtain⟨K4,hK4,hesz⟩:=hes _ _ _ rfl hV0
     obtain rfl:K=K4:=by
      have:=hK []
      rw[append_nil] at this
      exact Option.some.inj (this.symm.trans hK4)
     obtain⟨kx,hkx⟩: ∃kx,pidx P V[i].2.1=kx:=⟨_,rfl⟩
     by_cases q1:1<=V[i].1∧V[i].1<=99
     ·by_cases i0:0<i
      ·have w1:IntKind.i64.wrap ((i:Int)-1)=((i-1:Nat):Int):=by rw[wrap64 (by omega)];omega
       have hlt1:i-1<(V.map vlv).length:=by omega
       obtain⟨_,_,hcell1⟩:=hall (i-1) hlt1
       have hp0:=hcell1 0 (by omega)
       rw[getElem_map] at hp0
       simp only[vlv,getElem?_cons_zero,add_zero] at hp0
       have gd1:V.getD (i-1) vlv0=V[i-1]:=getDv (by omega)
       by_cases q2:V[i].1<=V[i-1].1
       ·simp only[go_sem,e1,e2,e16,e17,e18,decb q1,show (0:Int)<i by omega,w1,show ((i-1:Nat):Int)<V.length by omega,hK,hd,hp0,q2,ge_iff_le,append_assoc]
        exact bad (fun hh=>by have:=hh.1.2.1 i0;rw[gd,gd1] at this;omega)
       ·simp only[go_sem,e1,e2,e16,e17,e18,decb q1,show (0:Int)<i by omega,w1,show ((i-1:Nat):Int)<V.length by omega,hK,hd,hp0,q2,ge_iff_le,append_assoc,hkx]
        by_cases k0:kx<0
        ·simp only[go_sem,e1,e2,e16,e17,e18,decb q1,show (0:Int)<i by omega,w1,show ((i-1:Nat):Int)<V.length by omega,hK,hd,hp0,q2,ge_iff_le,k0,hkx,append_assoc]
         exact bad (fun hh=>by
          have:=hh.1.2.2.1
          rw[gd,hkx] at this
          omega)
        ·obtain⟨k,rfl⟩:=Int.eq_ofNat_of_zero_le (show 0<=kx by omega)
         obtain⟨hkl,hkp⟩:=idxI_at hkx
         have hkl':k<(P.map pip).length:=by simpa using hkl
         obtain⟨idp,op,KP,hvp,hKP,_,hdp,hbp,hrowp,hcp⟩:=sw.1.at hkl'
         obtain rfl:pa=some ⟨idp,op,none⟩:=by simpa using hvp
         rw[getElem_map] at hrowp
         simp only[pip] at hrowp
         have ends:isEnd P V[i].2.1 V[i].2.2.1↔(P[k].2.1=V[i].2.2.1∨P[k].2.2.1=V[i].2.2.1):=by
          rw[isEnd,hkx,Int.toNat_natCast,getDp hkl]
          exact⟨fun hh=>hh.2,fun hh=>⟨by omega,hh⟩⟩
         have hz:=othE_zero g1 hkl (nd:=V[i].2.2.1)
         by_cases n1:V[i].2.2.1<1
         ·simp only[go_sem,e1,e2,e16,e17,e18,decb q1,show (0:Int)<i by omega,w1,show ((i-1:Nat):Int)<V.length by omega,hK,hd,hp0,q2,ge_iff_le,k0,hkx,n1,append_assoc]
          exact bad (fun hh=>by
           have:=hh.1.2.2
           rw[gd] at this
           exact (hz.2 (ends.1 this)).1 n1)
         ·simp only[go_sem,e1,e2,e16,e17,e18,decb q1,show (0:Int)<i by omega,w1,show ((i-1:Nat):Int)<V.length by omega,hK,hd,hp0,q2,ge_iff_le,k0,hkx,n1,show (k:Int)<P.length by omega,hKP,hdp,hbp,hrowp,append_assoc]
          refine (c_otherE _ _).go ?_
          rintro _ _⟨rfl,⟨t3,rfl⟩⟩
          by_cases o1:othE P[k] V[i].2.2.1=0
          ·simp only[go_sem,e1,e2,e16,e17,e18,decb q1,show (0:Int)<i by omega,w1,show ((i-1:Nat):Int)<V.length by omega,hK,hd,hp0,q2,ge_iff_le,k0,hkx,n1,show (othE P[k] V[i].2.2.1==0)=true by simpa using o1,show (k:Int)<P.length by omega,hKP,hdp,hbp,hrowp,append_assoc]
           exact bad (fun hh=>by
            have:=hh.1.2.2
            rw[gd] at this
            exact (hz.2 (ends.1 this)).2 o1)
          ·have e0:isEnd P V[i].2.1 V[i].2.2.1:=ends.2 (hz.1 ⟨n1,o1⟩)
           simp only[go_sem,e1,e2,e16,e17,e18,decb q1,show (0:Int)<i by omega,w1,show ((i-1:Nat):Int)<V.length by omega,hK,hd,hp0,q2,ge_iff_le,k0,hkx,n1,show (othE P[k] V[i].2.2.1==0)=false by simpa using o1,show (k:Int)<P.length by omega,hKP,hdp,hbp,hrowp,append_assoc,onSl_more hV0,hK,hesz,show i<=V.length by omega]
           refine⟨zero_le _, ?_⟩
           refine (c_vlvContains (by kernel_rfl) (fun x=>decide (x.2.1=V[i].2.1∧x.2.2.1=V[i].2.2.1)) _ (V.take i) (by rw[List.map_take];exact slTake (s.mono (by simp)) (by simp) (by omega)) (by rw[length_take];omega) (fun M h' x hp _=>c_sameEnd x V[i] _ (by rw[hget_prefix hp (by simp)];simp only[go_sem,vlv]))).go ?_
           rintro _ _⟨rfl,⟨t4,rfl⟩⟩
           cases hany:(V.take i).any (fun x=>decide (x.2.1=V[i].2.1∧x.2.2.1=V[i].2.2.1)) with
           | true=>
            simp only[go_sem,e1,e2,e16,e17,e18,append_assoc]
            exact bad (fun hh=>by
             obtain⟨x,hx,hp⟩:=any_eq_true.1 hany
             obtain⟨m,hm,rfl⟩:=mem_iff_getElem.1 hx
             rw[length_take] at hm
             have:=hh.2 m (by omega)
             rw[gd,getDv (by omega)] at this
             rw[List.getElem_take] at hp
             exact this (of_decide_eq_true hp))
           | false=>
            simp only[go_sem,e1,e2,e16,e17,e18,append_assoc]
            refine⟨hlt,_,congrArg _ ws,rfl,fun j hj => ?_⟩
            by_cases ej:j=i
            ·subst ej
             refine⟨⟨by rw[gd];exact q1,fun _=>by rw[gd,gd1];omega,by rw[gd];exact e0⟩,fun m hm hh => ?_⟩
             rw[gd,getDv (by omega)] at hh
             have:=List.any_eq_false.1 hany V[m] (List.mem_take_iff_getElem.2 ⟨m,by omega,rfl⟩)
             exact this (decide_eq_true hh)
            ·exact hok j (by omega)
      ·simp only[go_sem,e1,e2,e16,e17,e18,decb q1,show ¬(0:Int)<i by omega,append_assoc,hkx]
       by_cases k0:kx<0
       ·simp only[go_sem,e1,e2,e16,e17,e18,decb q1,show ¬(0:Int)<i by omega,k0,hkx,append_assoc]
        exact bad (fun hh=>by
         have:=hh.1.2.2.1
         rw[gd,hkx] at this
         omega)
       ·obtain⟨k,rfl⟩:=Int.eq_ofNat_of_zero_le (show 0<=kx by omega)
        obtain⟨hkl,hkp⟩:=idxI_at hkx
        have hkl':k<(P.map pip).length:=by simpa using hkl
        obtain⟨idp,op,KP,hvp,hKP,_,hdp,hbp,hrowp,hcp⟩:=sw.1.at hkl'
        obtain rfl:pa=some ⟨idp,op,none⟩:=by simpa using hvp
        rw[getElem_map] at hrowp
        simp only[pip] at hrowp
        have ends:isEnd P V[i].2.1 V[i].2.2.1↔(P[k].2.1=V[i].2.2.1∨P[k].2.2.1=V[i].2.2.1):=by
         rw[isEnd,hkx,Int.toNat_natCast,getDp hkl]
         exact⟨fun hh=>hh.2,fun hh=>⟨by omega,hh⟩⟩
        have hz:=othE_zero g1 hkl (nd:=V[i].2.2.1)
        by_cases n1:V[i].2.2.1<1
        ·simp only[go_sem,e1,e2,e16,e17,e18,decb q1,show ¬(0:Int)<i by omega,k0,hkx,n1,append_assoc]
         exact bad (fun hh=>by
          have:=hh.1.2.2
          rw[gd] at this
          exact (hz.2 (ends.1 this)).1 n1)
        ·simp only[go_sem,e1,e2,e16,e17,e18,decb q1,show ¬(0:Int)<i by omega,k0,hkx,n1,show (k:Int)<P.length by omega,hKP,hdp,hbp,hrowp,append_assoc]
         refine (c_otherE _ _).go ?_
         rintro _ _⟨rfl,⟨t3,rfl⟩⟩
         by_cases o1:othE P[k] V[i].2.2.1=0
         ·simp only[go_sem,e1,e2,e16,e17,e18,decb q1,show ¬(0:Int)<i by omega,k0,hkx,n1,show (othE P[k] V[i].2.2.1==0)=true by simpa using o1,show (k:Int)<P.length by omega,hKP,hdp,hbp,hrowp,append_assoc]
          exact bad (fun hh=>by
           have:=hh.1.2.2
           rw[gd] at this
           exact (hz.2 (ends.1 this)).2 o1)
         ·have e0:isEnd P V[i].2.1 V[i].2.2.1:=ends.2 (hz.1 ⟨n1,o1⟩)
          simp only[go_sem,e1,e2,e16,e17,e18,decb q1,show ¬(0:Int)<i by omega,k0,hkx,n1,show (othE P[k] V[i].2.2.1==0)=false by simpa using o1,show (k:Int)<P.length by omega,hKP,hdp,hbp,hrowp,append_assoc,onSl_more hV0,hK,hesz,show i<=V.length by omega]
          refine⟨zero_le _, ?_⟩
          refine (c_vlvContains (by kernel_rfl) (fun x=>decide (x.2.1=V[i].2.1∧x.2.2.1=V[i].2.2.1)) _ (V.take i) (by rw[List.map_take];exact slTake (s.mono (by simp)) (by simp) (by omega)) (by rw[length_take];omega) (fun M h' x hp _=>c_sameEnd x V[i] _ (by rw[hget_prefix hp (by simp)];simp only[go_sem,vlv]))).go ?_
          rintro _ _⟨rfl,⟨t4,rfl⟩⟩
          cases hany:(V.take i).any (fun x=>decide (x.2.1=V[i].2.1∧x.2.2.1=V[i].2.2.1)) with
          | true=>
           simp only[go_sem,e1,e2,e16,e17,e18,append_assoc]
           exact bad (fun hh=>by
            obtain⟨x,hx,hp⟩:=any_eq_true.1 hany
            obtain⟨m,hm,rfl⟩:=mem_iff_getElem.1 hx
            rw[length_take] at hm
            have:=hh.2 m (by omega)
            rw[gd,getDv (by omega)] at this
            rw[List.getElem_take] at hp
            exact this (of_decide_eq_true hp))
          | false=>
           simp only[go_sem,e1,e2,e16,e17,e18,append_assoc]
           refine⟨hlt,_,congrArg _ ws,rfl,fun j hj => ?_⟩
           by_cases ej:j=i
           ·subst ej
            refine⟨⟨by rw[gd];exact q1,fun h0=>absurd h0 i0,by rw[gd];exact e0⟩,fun m hm hh => ?_⟩
            rw[gd,getDv (by omega)] at hh
            have:=List.any_eq_false.1 hany V[m] (List.mem_take_iff_getElem.2 ⟨m,by omega,rfl⟩)
            exact this (decide_eq_true hh)
           ·exact hok j (by omega)
     ·simp only[go_sem,e1,e2,e16,e17,e18,dect q1,append_assoc]
      exact bad (fun hh=>q1 (by rw[←gd];exact hh.1.1))
    ·obtain rfl:i=V.length:=by omega
     simp only[go_sem,e1,e2,e16,e17,e18,show ¬((V.length:Int)<V.length) by omega]
     exact congrArg Value.bool (decide_eq_true (p:=valOk N P V) ⟨g1,by omega,hok⟩).symm
 ·simp only[go_sem,dect g1]
  exact congrArg Value.bool (decide_eq_false (fun hh:valOk N P V=>g1 hh.1)).symm
set_option maxHeartbeats 4000000 in
theorem c_l4Good{n:Nat}(v vv:Value)(N:Int)(P:List Pip)(V:List Vlv)(hv:NA n h v N P)(s:Sl h 4 vv (V.map vlv))(hP:P.length<=1048576)(hV:V.length<=1048576) :
  vCall [] Tryz.prog M 110 [v,vv] h (fun r h'=>r = .bool (decide (valOk N P V))∧h<+:h'):=by
 obtain⟨w,rfl,sw⟩:=id hv
 obtain⟨pa,rfl⟩:=Sl.len4 sw.1
 obtain⟨a,ea,_,_⟩:=id s
 rw[length_map] at ea
 subst ea
 refine bo Tryz.func110 rfl rfl ?_
 simp only[go_sem]
 refine (c_l2Good _ N P (hv.mono (by simp)) hP).go ?_
 rintro _ _⟨rfl,⟨t,rfl⟩⟩
 by_cases g1:netGood N P
 ·simp only[go_sem,decb g1]
  by_cases g2:(10:Int)<V.length
  ·simp only[go_sem,g2]
   exact congrArg Value.bool (decide_eq_false (fun hh:valOk N P V=>by have:=hh.2.1;omega)).symm
  ·simp only[go_sem,g2]
   refine vLoop.count mo V.length (fun i e h'=> ∃t:Heap,e 1 = .slice a V.length 0∧e 2 = .pointer (some ⟨h.length,0,none⟩)∧e 5 = .int .i64 i∧h'=h++⟨[.int .i64 N, .slice pa P.length 0],2, .rw⟩::t∧∀j,j<i->vlvAt P V j) ?_ ?_
   ·exact⟨t,rfl,rfl,rfl,rfl,fun j hj=>absurd hj (by omega)⟩
   ·rintro i e _ hi ⟨t,e1,e2,e5,rfl,hok⟩
    simp only[go_sem,e1,e2,e5]
    by_cases hlt:i<V.length
    ·have ws:=wsucc hlt (by omega)
     have hlt':i<(V.map vlv).length:=by simpa using hlt
     obtain⟨id,o,K,hv2,hK,_,hd,hall⟩:=s.all (zero_lt_of_lt hlt')
     obtain rfl:a=some ⟨id,o,none⟩:=by simpa using hv2
     obtain⟨hb,hrow,_⟩:=hall i hlt'
     rw[getElem_map] at hrow
     simp only[vlv] at hrow
     have gd:V.getD i vlv0=V[i]:=getDv hlt
     have bad: ¬vlvAt P V i->Value.bool false=Value.bool (decide (valOk N P V)):=val_bad hlt
     simp only[go_sem,e1,e2,e5,show (i:Int)<V.length by omega,hK,hd,hb,hrow]
     refine (c_l2Find _ N P _ (hv.mono (by simp)) hP).go ?_
     rintro _ _⟨rfl,⟨t2,rfl⟩⟩
     simp only[go_sem,e1,e2,e5,append_assoc]
     refine (c_l1In _ _ _).go ?_
     rintro _ _⟨rfl,rfl⟩
     obtain⟨kx,hkx⟩: ∃kx,pidx P V[i].2.1=kx:=⟨_,rfl⟩
     by_cases q1:1<=V[i].1∧V[i].1<=99
     ·by_cases i0:0<i
      ·have w1:IntKind.i64.wrap ((i:Int)-1)=((i-1:Nat):Int):=by rw[wrap64 (by omega)];omega
       have hlt1:i-1<(V.map vlv).length:=by omega
       obtain⟨_,_,hcell1⟩:=hall (i-1) hlt1
       have hp0:=hcell1 0 (by omega)
       rw[getElem_map] at hp0
       simp only[vlv,getElem?_cons_zero,add_zero] at hp0
       have gd1:V.getD (i-1) vlv0=V[i-1]:=getDv (by omega)
       by_cases q2:V[i].1<=V[i-1].1
       ·simp only[go_sem,e1,e2,e5,decb q1,show (0:Int)<i by omega,w1,show ((i-1:Nat):Int)<V.length by omega,hK,hd,hp0,q2,ge_iff_le,append_assoc]
        exact bad (fun hh=>by have:=hh.1.2.1 i0;rw[gd,gd1] at this;omega)
       ·simp only[go_sem,e1,e2,e5,decb q1,show (0:Int)<i by omega,w1,show ((i-1:Nat):Int)<V.length by omega,hK,hd,hp0,q2,ge_iff_le,append_assoc,hkx]
        by_cases k0:kx<0
        ·simp only[go_sem,e1,e2,e5,decb q1,show (0:Int)<i by omega,w1,show ((i-1:Nat):Int)<V.length by omega,hK,hd,hp0,q2,ge_iff_le,k0,hkx,append_assoc]
         exact bad (fun hh=>by
          have:=hh.1.2.2.1
          rw[gd,hkx] at this
          omega)
        ·obtain⟨k,rfl⟩:=Int.eq_ofNat_of_zero_le (show 0<=kx by omega)
         obtain⟨hkl,hkp⟩:=idxI_at hkx
         have hkl':k<(P.map pip).length:=by simpa using hkl
         obtain⟨idp,op,KP,hvp,hKP,_,hdp,hbp,hrowp,hcp⟩:=sw.1.at hkl'
         obtain rfl:pa=some ⟨idp,op,none⟩:=by simpa using hvp
         have p1:=hcp 1 (by omega)
         have p2:=hcp 2 (by omega)
         rw[getElem_map] at p1 p2
         simp only[pip,getElem?_cons_zero,getElem?_cons_succ] at p1 p2
         have ends:isEnd P V[i].2.1 V[i].2.2.1↔(P[k].2.1=V[i].2.2.1∨P[k].2.2.1=V[i].2.2.1):=by
          rw[isEnd,hkx,Int.toNat_natCast,getDp hkl]
          exact⟨fun hh=>hh.2,fun hh=>⟨by omega,hh⟩⟩
         by_cases z1:P[k].2.1=V[i].2.2.1
         ·simp only[go_sem,e1,e2,e5,decb q1,show (0:Int)<i by omega,w1,show ((i-1:Nat):Int)<V.length by omega,hK,hd,hp0,q2,ge_iff_le,k0,hkx,show (k:Int)<P.length by omega,hKP,hdp,p1,p2,show (P[k].2.1 != V[i].2.2.1)=false by simpa using z1,append_assoc]
          have hend:P[k].2.1=V[i].2.2.1∨P[k].2.2.1=V[i].2.2.1 := .inl z1
          have e0:isEnd P V[i].2.1 V[i].2.2.1:=ends.2 hend
          refine vLoop.count mo i (fun m e h'=> ∃t:Heap,e 1 = .slice (some ⟨id,o,none⟩) V.length 0∧e 2 = .pointer (some ⟨h.length,0,none⟩)∧e 5 = .int .i64 i∧e 8 = .int .i64 m∧(∃j:Nat,e 6 = .pointer (some ⟨h.length+j,0,none⟩)∧(⟨[.int .i64 N, .slice (some ⟨idp,op,none⟩) P.length 0],2, .rw⟩::t)[j]? = some ⟨vlv V[i],4, .rw⟩) ∧
            h'=h++⟨[.int .i64 N, .slice (some ⟨idp,op,none⟩) P.length 0],2, .rw⟩::t∧∀q,q<m->¬((V.getD q vlv0).2.1=V[i].2.1∧(V.getD q vlv0).2.2.1=V[i].2.2.1)) ?_ ?_
          ·exact⟨_,by simp[upd,e1],by simp[upd,e2],by simp[upd,e5],by simp[upd],⟨t.length+1,by simp[upd],by simp[vlv]⟩,rfl,fun q hq=>absurd hq (by omega)⟩
          ·rintro m e _ hm ⟨t,e1,e2,e5,e8,⟨j6,e6,hj6⟩,rfl,hno⟩
           simp only[go_sem,e1,e2,e5,e6,e8]
           by_cases hmlt:m<i
           ·have wsm:=wsucc hmlt (by omega)
            have hm':m<(V.map vlv).length:=by omega
            obtain⟨_,_,hcm⟩:=hall m hm'
            have c1:=hcm 1 (by omega)
            have c2:=hcm 2 (by omega)
            rw[getElem_map] at c1 c2
            simp only[vlv,getElem?_cons_zero,getElem?_cons_succ] at c1 c2
            have gdm:V.getD m vlv0=V[m]:=getDv (by omega)
            by_cases z1:V[m].2.1=V[i].2.1
            ·by_cases z2:V[m].2.2.1=V[i].2.2.1
             ·simp only[go_sem,e1,e2,e5,e6,e8,show (m:Int)<i by omega,show (m:Int)<V.length by omega,hK,hd,c1,c2,hj6,vlv,show (V[m].2.1==V[i].2.1)=true by simpa using z1,show (V[m].2.2.1==V[i].2.2.1)=true by simpa using z2]
              exact bad (fun hh=>by
               have:=hh.2 m hmlt
               rw[gd,gdm] at this
               exact this ⟨z1,z2⟩)
             ·simp only[go_sem,e1,e2,e5,e6,e8,show (m:Int)<i by omega,show (m:Int)<V.length by omega,hK,hd,c1,c2,hj6,vlv,show (V[m].2.1==V[i].2.1)=true by simpa using z1,show (V[m].2.2.1==V[i].2.2.1)=false by simpa using z2]
              refine⟨hmlt,t,congrArg _ wsm,⟨j6,rfl,hj6⟩,rfl,fun q hq hh => ?_⟩
              by_cases eq:q=m
              ·subst eq;rw[gdm] at hh;exact z2 hh.2
              ·exact hno q (by omega) hh
            ·simp only[go_sem,e1,e2,e5,e6,e8,show (m:Int)<i by omega,show (m:Int)<V.length by omega,hK,hd,c1,c2,hj6,vlv,show (V[m].2.1==V[i].2.1)=false by simpa using z1]
             refine⟨hmlt,t,congrArg _ wsm,⟨j6,rfl,hj6⟩,rfl,fun q hq hh => ?_⟩
             by_cases eq:q=m
             ·subst eq;rw[gdm] at hh;exact z1 hh.1
             ·exact hno q (by omega) hh
           ·obtain rfl:m=i:=by omega
            simp only[go_sem,e1,e2,e5,e6,e8,show ¬((m:Int)<m) by omega]
            refine⟨hlt,t,congrArg _ ws,rfl,fun j hj => ?_⟩
            by_cases ej:j=m
            ·subst ej
             refine⟨⟨by rw[gd];exact q1,fun _=>by rw[gd,gd1];omega,by rw[gd];exact e0⟩,fun q hq hh => ?_⟩
             rw[gd] at hh
             exact hno q hq hh
            ·exact hok j (by omega)
         ·by_cases z2:P[k].2.2.1=V[i].2.2.1
          ·simp only[go_sem,e1,e2,e5,decb q1,show (0:Int)<i by omega,w1,show ((i-1:Nat):Int)<V.length by omega,hK,hd,hp0,q2,ge_iff_le,k0,hkx,show (k:Int)<P.length by omega,hKP,hdp,p1,p2,show (P[k].2.1 != V[i].2.2.1)=true by simpa using z1,show (P[k].2.2.1 != V[i].2.2.1)=false by simpa using z2,append_assoc]
           have hend:P[k].2.1=V[i].2.2.1∨P[k].2.2.1=V[i].2.2.1 := .inr z2
           have e0:isEnd P V[i].2.1 V[i].2.2.1:=ends.2 hend
           refine vLoop.count mo i (fun m e h'=> ∃t:Heap,e 1 = .slice (some ⟨id,o,none⟩) V.length 0∧e 2 = .pointer (some ⟨h.length,0,none⟩)∧e 5 = .int .i64 i∧e 8 = .int .i64 m∧(∃j:Nat,e 6 = .pointer (some ⟨h.length+j,0,none⟩)∧(⟨[.int .i64 N, .slice (some ⟨idp,op,none⟩) P.length 0],2, .rw⟩::t)[j]? = some ⟨vlv V[i],4, .rw⟩) ∧
             h'=h++⟨[.int .i64 N, .slice (some ⟨idp,op,none⟩) P.length 0],2, .rw⟩::t∧∀q,q<m->¬((V.getD q vlv0).2.1=V[i].2.1∧(V.getD q vlv0).2.2.1=V[i].2.2.1)) ?_ ?_
           ·exact⟨_,by simp[upd,e1],by simp[upd,e2],by simp[upd,e5],by simp[upd],⟨t.length+1,by simp[upd],by simp[vlv]⟩,rfl,fun q hq=>absurd hq (by omega)⟩
           ·rintro m e _ hm ⟨t,e1,e2,e5,e8,⟨j6,e6,hj6⟩,rfl,hno⟩
            simp only[go_sem,e1,e2,e5,e6,e8]
            by_cases hmlt:m<i
            ·have wsm:=wsucc hmlt (by omega)
             have hm':m<(V.map vlv).length:=by omega
             obtain⟨_,_,hcm⟩:=hall m hm'
             have c1:=hcm 1 (by omega)
             have c2:=hcm 2 (by omega)
             rw[getElem_map] at c1 c2
             simp only[vlv,getElem?_cons_zero,getElem?_cons_succ] at c1 c2
             have gdm:V.getD m vlv0=V[m]:=getDv (by omega)
             by_cases z1:V[m].2.1=V[i].2.1
             ·by_cases z2:V[m].2.2.1=V[i].2.2.1
              ·simp only[go_sem,e1,e2,e5,e6,e8,show (m:Int)<i by omega,show (m:Int)<V.length by omega,hK,hd,c1,c2,hj6,vlv,show (V[m].2.1==V[i].2.1)=true by simpa using z1,show (V[m].2.2.1==V[i].2.2.1)=true by simpa using z2]
               exact bad (fun hh=>by
                have:=hh.2 m hmlt
                rw[gd,gdm] at this
                exact this ⟨z1,z2⟩)
              ·simp only[go_sem,e1,e2,e5,e6,e8,show (m:Int)<i by omega,show (m:Int)<V.length by omega,hK,hd,c1,c2,hj6,vlv,show (V[m].2.1==V[i].2.1)=true by simpa using z1,show (V[m].2.2.1==V[i].2.2.1)=false by simpa using z2]
               refine⟨hmlt,t,congrArg _ wsm,⟨j6,rfl,hj6⟩,rfl,fun q hq hh => ?_⟩
               by_cases eq:q=m
               ·subst eq;rw[gdm] at hh;exact z2 hh.2
               ·exact hno q (by omega) hh
             ·simp only[go_sem,e1,e2,e5,e6,e8,show (m:Int)<i by omega,show (m:Int)<V.length by omega,hK,hd,c1,c2,hj6,vlv,show (V[m].2.1==V[i].2.1)=false by simpa using z1]
              refine⟨hmlt,t,congrArg _ wsm,⟨j6,rfl,hj6⟩,rfl,fun q hq hh => ?_⟩
              by_cases eq:q=m
              ·subst eq;rw[gdm] at hh;exact z1 hh.1
              ·exact hno q (by omega) hh
            ·obtain rfl:m=i:=by omega
             simp only[go_sem,e1,e2,e5,e6,e8,show ¬((m:Int)<m) by omega]
             refine⟨hlt,t,congrArg _ ws,rfl,fun j hj => ?_⟩
             by_cases ej:j=m
             ·subst ej
              refine⟨⟨by rw[gd];exact q1,fun _=>by rw[gd,gd1];omega,by rw[gd];exact e0⟩,fun q hq hh => ?_⟩
              rw[gd] at hh
              exact hno q hq hh
             ·exact hok j (by omega)
          ·simp only[go_sem,e1,e2,e5,decb q1,show (0:Int)<i by omega,w1,show ((i-1:Nat):Int)<V.length by omega,hK,hd,hp0,q2,ge_iff_le,k0,hkx,show (k:Int)<P.length by omega,hKP,hdp,p1,p2,show (P[k].2.1 != V[i].2.2.1)=true by simpa using z1,show (P[k].2.2.1 != V[i].2.2.1)=true by simpa using z2,append_assoc]
           exact bad (fun hh=>by
            have:=hh.1.2.2
            rw[gd] at this
            rcases ends.1 this with h1|h1
            ·exact z1 h1
            ·exact z2 h1)
      ·simp only[go_sem,e1,e2,e5,decb q1,show ¬(0:Int)<i by omega,append_assoc,hkx]
       by_cases k0:kx<0
       ·simp only[go_sem,e1,e2,e5,decb q1,show ¬(0:Int)<i by omega,k0,hkx,append_assoc]
        exact bad (fun hh=>by
         have:=hh.1.2.2.1
         rw[gd,hkx] at this
         omega)
       ·obtain⟨k,rfl⟩:=Int.eq_ofNat_of_zero_le (show 0<=kx by omega)
        obtain⟨hkl,hkp⟩:=idxI_at hkx
        have hkl':k<(P.map pip).length:=by simpa using hkl
        obtain⟨idp,op,KP,hvp,hKP,_,hdp,hbp,hrowp,hcp⟩:=sw.1.at hkl'
        obtain rfl:pa=some ⟨idp,op,none⟩:=by simpa using hvp
        have p1:=hcp 1 (by omega)
        have p2:=hcp 2 (by omega)
        rw[getElem_map] at p1 p2
        simp only[pip,getElem?_cons_zero,getElem?_cons_succ] at p1 p2
        have ends:isEnd P V[i].2.1 V[i].2.2.1↔(P[k].2.1=V[i].2.2.1∨P[k].2.2.1=V[i].2.2.1):=by
         rw[isEnd,hkx,Int.toNat_natCast,getDp hkl]
         exact⟨fun hh=>hh.2,fun hh=>⟨by omega,hh⟩⟩
        by_cases z1:P[k].2.1=V[i].2.2.1
        ·simp only[go_sem,e1,e2,e5,decb q1,show ¬(0:Int)<i by omega,k0,hkx,show (k:Int)<P.length by omega,hKP,hdp,p1,p2,show (P[k].2.1 != V[i].2.2.1)=false by simpa using z1,append_assoc]
         have hend:P[k].2.1=V[i].2.2.1∨P[k].2.2.1=V[i].2.2.1 := .inl z1
         have e0:isEnd P V[i].2.1 V[i].2.2.1:=ends.2 hend
         refine vLoop.count mo i (fun m e h'=> ∃t:Heap,e 1 = .slice (some ⟨id,o,none⟩) V.length 0∧e 2 = .pointer (some ⟨h.length,0,none⟩)∧e 5 = .int .i64 i∧e 8 = .int .i64 m∧(∃j:Nat,e 6 = .pointer (some ⟨h.length+j,0,none⟩)∧(⟨[.int .i64 N, .slice (some ⟨idp,op,none⟩) P.length 0],2, .rw⟩::t)[j]? = some ⟨vlv V[i],4, .rw⟩) ∧
           h'=h++⟨[.int .i64 N, .slice (some ⟨idp,op,none⟩) P.length 0],2, .rw⟩::t∧∀q,q<m->¬((V.getD q vlv0).2.1=V[i].2.1∧(V.getD q vlv0).2.2.1=V[i].2.2.1)) ?_ ?_
         ·exact⟨_,by simp[upd,e1],by simp[upd,e2],by simp[upd,e5],by simp[upd],⟨t.length+1,by simp[upd],by simp[vlv]⟩,rfl,fun q hq=>absurd hq (by omega)⟩
         ·rintro m e _ hm ⟨t,e1,e2,e5,e8,⟨j6,e6,hj6⟩,rfl,hno⟩
          simp only[go_sem,e1,e2,e5,e6,e8]
          by_cases hmlt:m<i
          ·have wsm:=wsucc hmlt (by omega)
           have hm':m<(V.map vlv).length:=by omega
           obtain⟨_,_,hcm⟩:=hall m hm'
           have c1:=hcm 1 (by omega)
           have c2:=hcm 2 (by omega)
           rw[getElem_map] at c1 c2
           simp only[vlv,getElem?_cons_zero,getElem?_cons_succ] at c1 c2
           have gdm:V.getD m vlv0=V[m]:=getDv (by omega)
           by_cases z1:V[m].2.1=V[i].2.1
           ·by_cases z2:V[m].2.2.1=V[i].2.2.1
            ·simp only[go_sem,e1,e2,e5,e6,e8,show (m:Int)<i by omega,show (m:Int)<V.length by omega,hK,hd,c1,c2,hj6,vlv,show (V[m].2.1==V[i].2.1)=true by simpa using z1,show (V[m].2.2.1==V[i].2.2.1)=true by simpa using z2]
             exact bad (fun hh=>by
              have:=hh.2 m hmlt
              rw[gd,gdm] at this
              exact this ⟨z1,z2⟩)
            ·simp only[go_sem,e1,e2,e5,e6,e8,show (m:Int)<i by omega,show (m:Int)<V.length by omega,hK,hd,c1,c2,hj6,vlv,show (V[m].2.1==V[i].2.1)=true by simpa using z1,show (V[m].2.2.1==V[i].2.2.1)=false by simpa using z2]
             refine⟨hmlt,t,congrArg _ wsm,⟨j6,rfl,hj6⟩,rfl,fun q hq hh => ?_⟩
             by_cases eq:q=m
             ·subst eq;rw[gdm] at hh;exact z2 hh.2
             ·exact hno q (by omega) hh
           ·simp only[go_sem,e1,e2,e5,e6,e8,show (m:Int)<i by omega,show (m:Int)<V.length by omega,hK,hd,c1,c2,hj6,vlv,show (V[m].2.1==V[i].2.1)=false by simpa using z1]
            refine⟨hmlt,t,congrArg _ wsm,⟨j6,rfl,hj6⟩,rfl,fun q hq hh => ?_⟩
            by_cases eq:q=m
            ·subst eq;rw[gdm] at hh;exact z1 hh.1
            ·exact hno q (by omega) hh
          ·obtain rfl:m=i:=by omega
           simp only[go_sem,e1,e2,e5,e6,e8,show ¬((m:Int)<m) by omega]
           refine⟨hlt,t,congrArg _ ws,rfl,fun j hj => ?_⟩
           by_cases ej:j=m
           ·subst ej
            refine⟨⟨by rw[gd];exact q1,fun h0=>absurd h0 i0,by rw[gd];exact e0⟩,fun q hq hh => ?_⟩
            rw[gd] at hh
            exact hno q hq hh
           ·exact hok j (by omega)
        ·by_cases z2:P[k].2.2.1=V[i].2.2.1
         ·simp only[go_sem,e1,e2,e5,decb q1,show ¬(0:Int)<i by omega,k0,hkx,show (k:Int)<P.length by omega,hKP,hdp,p1,p2,show (P[k].2.1 != V[i].2.2.1)=true by simpa using z1,show (P[k].2.2.1 != V[i].2.2.1)=false by simpa using z2,append_assoc]
          have hend:P[k].2.1=V[i].2.2.1∨P[k].2.2.1=V[i].2.2.1 := .inr z2
          have e0:isEnd P V[i].2.1 V[i].2.2.1:=ends.2 hend
          refine vLoop.count mo i (fun m e h'=> ∃t:Heap,e 1 = .slice (some ⟨id,o,none⟩) V.length 0∧e 2 = .pointer (some ⟨h.length,0,none⟩)∧e 5 = .int .i64 i∧e 8 = .int .i64 m∧(∃j:Nat,e 6 = .pointer (some ⟨h.length+j,0,none⟩)∧(⟨[.int .i64 N, .slice (some ⟨idp,op,none⟩) P.length 0],2, .rw⟩::t)[j]? = some ⟨vlv V[i],4, .rw⟩) ∧
            h'=h++⟨[.int .i64 N, .slice (some ⟨idp,op,none⟩) P.length 0],2, .rw⟩::t∧∀q,q<m->¬((V.getD q vlv0).2.1=V[i].2.1∧(V.getD q vlv0).2.2.1=V[i].2.2.1)) ?_ ?_
          ·exact⟨_,by simp[upd,e1],by simp[upd,e2],by simp[upd,e5],by simp[upd],⟨t.length+1,by simp[upd],by simp[vlv]⟩,rfl,fun q hq=>absurd hq (by omega)⟩
          ·rintro m e _ hm ⟨t,e1,e2,e5,e8,⟨j6,e6,hj6⟩,rfl,hno⟩
           simp only[go_sem,e1,e2,e5,e6,e8]
           by_cases hmlt:m<i
           ·have wsm:=wsucc hmlt (by omega)
            have hm':m<(V.map vlv).length:=by omega
            obtain⟨_,_,hcm⟩:=hall m hm'
            have c1:=hcm 1 (by omega)
            have c2:=hcm 2 (by omega)
            rw[getElem_map] at c1 c2
            simp only[vlv,getElem?_cons_zero,getElem?_cons_succ] at c1 c2
            have gdm:V.getD m vlv0=V[m]:=getDv (by omega)
            by_cases z1:V[m].2.1=V[i].2.1
            ·by_cases z2:V[m].2.2.1=V[i].2.2.1
             ·simp only[go_sem,e1,e2,e5,e6,e8,show (m:Int)<i by omega,show (m:Int)<V.length by omega,hK,hd,c1,c2,hj6,vlv,show (V[m].2.1==V[i].2.1)=true by simpa using z1,show (V[m].2.2.1==V[i].2.2.1)=true by simpa using z2]
              exact bad (fun hh=>by
               have:=hh.2 m hmlt
               rw[gd,gdm] at this
               exact this ⟨z1,z2⟩)
             ·simp only[go_sem,e1,e2,e5,e6,e8,show (m:Int)<i by omega,show (m:Int)<V.length by omega,hK,hd,c1,c2,hj6,vlv,show (V[m].2.1==V[i].2.1)=true by simpa using z1,show (V[m].2.2.1==V[i].2.2.1)=false by simpa using z2]
              refine⟨hmlt,t,congrArg _ wsm,⟨j6,rfl,hj6⟩,rfl,fun q hq hh => ?_⟩
              by_cases eq:q=m
              ·subst eq;rw[gdm] at hh;exact z2 hh.2
              ·exact hno q (by omega) hh
            ·simp only[go_sem,e1,e2,e5,e6,e8,show (m:Int)<i by omega,show (m:Int)<V.length by omega,hK,hd,c1,c2,hj6,vlv,show (V[m].2.1==V[i].2.1)=false by simpa using z1]
             refine⟨hmlt,t,congrArg _ wsm,⟨j6,rfl,hj6⟩,rfl,fun q hq hh => ?_⟩
             by_cases eq:q=m
             ·subst eq;rw[gdm] at hh;exact z1 hh.1
             ·exact hno q (by omega) hh
           ·obtain rfl:m=i:=by omega
            simp only[go_sem,e1,e2,e5,e6,e8,show ¬((m:Int)<m) by omega]
            refine⟨hlt,t,congrArg _ ws,rfl,fun j hj => ?_⟩
            by_cases ej:j=m
            ·subst ej
             refine⟨⟨by rw[gd];exact q1,fun h0=>absurd h0 i0,by rw[gd];exact e0⟩,fun q hq hh => ?_⟩
             rw[gd] at hh
             exact hno q hq hh
            ·exact hok j (by omega)
         ·simp only[go_sem,e1,e2,e5,decb q1,show ¬(0:Int)<i by omega,k0,hkx,show (k:Int)<P.length by omega,hKP,hdp,p1,p2,show (P[k].2.1 != V[i].2.2.1)=true by simpa using z1,show (P[k].2.2.1 != V[i].2.2.1)=true by simpa using z2,append_assoc]
          exact bad (fun hh=>by
           have:=hh.1.2.2
           rw[gd] at this
           rcases ends.1 this with h1|h1
           ·exact z1 h1
           ·exact z2 h1)
     ·simp only[go_sem,e1,e2,e5,dect q1,append_assoc]
      exact bad (fun hh=>q1 (by rw[←gd];exact hh.1.1))
    ·obtain rfl:i=V.length:=by omega
     simp only[go_sem,e1,e2,e5,show ¬((V.length:Int)<V.length) by omega]
     exact congrArg Value.bool (decide_eq_true (p:=valOk N P V) ⟨g1,by omega,hok⟩).symm
 ·simp only[go_sem,dect g1]
  exact congrArg Value.bool (decide_eq_false (fun hh:valOk N P V=>g1 hh.1)).symm
end
open Go.HH
theorem FC.fq{lo hi:Nat}{h:Heap}{v:Value}{l:List Pip}(s:FC lo hi 4 l.length h v (flQ l)):FQs lo hi 4 h v (l.map pip):=by
 rcases s with⟨rfl,n1,n2⟩|⟨id,rfl,q1,q2,q3,q4⟩
 ·obtain rfl:l= []:=List.length_eq_zero_iff.1 n1
  exact .inr ⟨rfl,none,rfl⟩
 ·exact .inl ⟨id,by rw[length_map],q1,q2,q3,fun r hr=>by obtain⟨x,_,rfl⟩:=mem_map.1 hr;rfl⟩
structure SL(lo hi:Nat)(h:Heap)(v:Value)(rows:List (List Value)):Prop where
 s:Sl h 4 v rows
 b: ∀id o k,v = .slice (some ⟨id,o,none⟩) k 0->rows≠ []->lo<=id∧id<hi∧∃b,hget h id=some b∧b.esz=4
theorem SL.agr{lo hi x y:Nat}{h h':Heap}{v:Value}{rows:List (List Value)}(s:SL lo hi h v rows)(g:Agr x y h h')(hn:hi<=x∨y<=lo):SL lo hi h' v rows:=by
 have key: ∀id o k,v = .slice (some ⟨id,o,none⟩) k 0->rows≠ []->hget h' id=hget h id:=fun id o k e h0=>by
  obtain⟨h1,h2,b,e1,_⟩:=s.b id o k e h0
  exact g.2 id (hget_lt e1) (by omega)
 refine⟨?_,fun id o k e h0 => ?_⟩
 ·obtain⟨p,e,hl,f⟩:=s.s
  refine⟨p,e,hl,fun h0 => ?_⟩
  obtain⟨id,off,k,rfl,e2,r⟩:=f h0
  exact⟨id,off,k,rfl,by rw[key _ _ _ e h0];exact e2,r⟩
 ·rw[key id o k e h0];exact s.b id o k e h0
theorem SL.mono{lo hi:Nat}{h h':Heap}{v:Value}{rows:List (List Value)}(s:SL lo hi h v rows)(hp:h<+:h'):SL lo hi h' v rows:=s.agr (x:=hi) (y:=hi) (Agr.pre hp) (.inl (le_refl _))
theorem SL.wide{lo hi lo' hi':Nat}{h:Heap}{v:Value}{rows:List (List Value)}(s:SL lo hi h v rows)(h1:lo'<=lo)(h2:hi<=hi'):SL lo' hi' h v rows:=
 ⟨s.s,fun id o k e h0=>by obtain⟨a,b,r⟩:=s.b id o k e h0;exact⟨by omega,by omega,r⟩⟩
theorem SL.sb{lo hi:Nat}{h:Heap}{v:Value}{rows:List (List Value)}(s:SL lo hi h v rows):SB hi 4 h v rows:=⟨s.s,fun id o k e h0=>(s.b id o k e h0).2.1⟩
theorem SL.one{lo hi:Nat}{h:Heap}{v:Value}{rows:List (List Value)}(s:SL lo hi h v rows):oneC v=true:=by
 obtain⟨a,e,_⟩:=s.s;rw[e];rfl
theorem SL.esz{lo hi:Nat}{h:Heap}{v:Value}{rows:List (List Value)}(s:SL lo hi h v rows):EszC h 4 v:=fun id o n e hn=>by
 obtain⟨a,ev,_⟩:=s.s
 have h0:rows≠ []:=fun h0=>by
  subst h0
  rw[ev] at e
  simp at e
  omega
 obtain⟨_,_,b,e1,e2⟩:=s.b id o n e h0
 exact⟨b,e1,e2⟩
theorem FQs.SL{lo hi:Nat}{h:Heap}{v:Value}{rows:List (List Value)}(s:FQs lo hi 4 h v rows):SL lo hi h v rows:=by
 refine⟨s.sl,fun id o k e h0 => ?_⟩
 rcases s with⟨id2,ev,h1,h2,h3,_⟩|⟨r0,_⟩
 ·rw[ev] at e
  simp at e
  obtain⟨⟨rfl,_⟩,_⟩:=e
  exact⟨h1,h2,_,h3,rfl⟩
 ·exact absurd r0 h0
section
variable {h:Heap} {M:Nat->Prop}
set_option maxRecDepth 4000 in
theorem e_nodeOf{id n B:Nat}{a:Option Addr}(N:Int)(w:Value)(hN : -1000<=N∧N<=1000)(ho:oneC w=true)(s:St h id n a B)(hM:M id)(hB:B<=100000) :
  vCall [] Tryz.prog M 84 [.pointer (some ⟨id,0,none⟩), .agg #[.int .i64 N,w]] h (fun r H'=>(∃m,r = .int .i64 m ∧ -1000<=m∧m<=1000)∧St H' id n a (B+4)∧Agr id (id+1) h H'):=by
 have hid:=s.lt
 have hown:own h.length M id:=Or.inr hM
 have A: ∀(H:Heap) (B' j:Nat),St H id n a B'->B'<=B+2->hget H j=some ⟨[.int .i64 0, .int .i64 9, .int .i64 1, .int .i64 (-1)],1, .rw⟩->j≠id->vCall [] Tryz.prog (own h.length M) 100 [.pointer (some ⟨id,0,none⟩), .slice (some ⟨j,0,none⟩) 4 0] H
   (fun r H'=>(∃m,r = .int .i64 m ∧ -1000<=m∧m<=1000)∧St H' id n a (B+4)∧Agr id (id+1) H H'):=fun H B' j s hb hj hn=>by
  obtain⟨r,H',hr,⟨m,rfl,hx⟩,s',g⟩:=e_among (M:=own h.length M) j 4 _ s hown hj rfl rfl (by simp) hn (by omega) (by omega) (by omega)
  exact⟨_,H',hr,⟨m,rfl,by simp at hx;omega⟩,s'.more (by omega),g⟩
 refine bo Tryz.func84 rfl rfl ?_
 simp only[go_sem,ho]
 by_cases h1:N<1
 ·simp only[go_sem,h1,ho]
  refine (A _ _ _ (s.app _) (by omega) hget_lit1 (by omega)).go ?_
  rintro _ H1 ⟨⟨m,rfl,hm⟩,s1,g1⟩
  try simp only[go_sem]
  exact⟨⟨m,rfl,hm⟩,s1,Agr.app.trans g1⟩
 ·simp only[go_sem,h1,ho]
  refine (d_one _ (s.app _) hown (by omega)).go ?_
  rintro _ H1 ⟨⟨gb,rfl⟩,s1,g1⟩
  have k1:=agr_get g1 hget_new (by omega)
  cases gb with
  | true=>
   simp only[go_sem,h1]
   refine (A _ _ _ (s1.app _) (by omega) hget_new (by have:=s1.lt;omega)).go ?_
   rintro _ H2 ⟨⟨m,rfl,hm⟩,s2,g2⟩
   try simp only[go_sem]
   exact⟨⟨m,rfl,hm⟩,s2,Agr.app.trans (g1.trans (Agr.app.trans g2))⟩
  | false=>
   simp only[go_sem,h1,k1]
   refine (d_pick _ s1 hown (by omega)).go ?_
   rintro _ H2 ⟨⟨m,rfl,m0,m1⟩,s2,g2⟩
   try simp only[go_sem]
   exact⟨⟨_,rfl,by rw[wrap64 (by omega)];omega⟩,s2.more (by omega),Agr.app.trans (g1.trans g2)⟩
set_option maxRecDepth 4000 in
theorem e_pipeOf{id n B lo hi:Nat}{a:Option Addr}(N:Int)(w:Value)(P:List Pip)(f:SL lo hi h w (P.map pip))(hlo:id<lo)(hP:PB P)(hl:P.length<=1000)(s:St h id n a B)(hM:M id)(hB:B<=100000) :
  vCall [] Tryz.prog M 97 [.pointer (some ⟨id,0,none⟩), .agg #[.int .i64 N,w]] h (fun r H'=>(∃m,r = .int .i64 m ∧ -1000<=m∧m<=1000)∧St H' id n a (B+4)∧Agr id (id+1) h H'):=by
 have hid:=s.lt
 have hown:own h.length M id:=Or.inr hM
 have ho:=f.one
 obtain⟨av,ev,_,_⟩:=f.s
 rw[length_map] at ev
 subst ev
 refine boR ([(3,[1,6])]) Tryz.func97 rfl rfl ?_
 simp only[go_sem]
 by_cases h0:P.length=0
 ·simp only[go_sem,h0,show ((0:Nat):Int)=0 from rfl,beq_self_eq_true]
  refine (d_pick _ (s.app _) hown (by omega)).go ?_
  rintro _ H1 ⟨⟨m,rfl,m0,m1⟩,s1,g1⟩
  try simp only[go_sem]
  exact⟨⟨m,rfl,by omega⟩,s1.more (by omega),Agr.app.trans g1⟩
 ·have hb:((P.length:Int)==0)=false:=by simpa using h0
  simp only[go_sem,hb]
  refine (d_one _ (s.app _) hown (by omega)).go ?_
  rintro _ H1 ⟨⟨gb,rfl⟩,s1,g1⟩
  have k1:=agr_get g1 hget_new (by omega)
  cases gb with
  | true=>
   simp only[go_sem,hb]
   refine (d_pick _ s1 hown (by omega)).go ?_
   rintro _ H2 ⟨⟨m,rfl,m0,m1⟩,s2,g2⟩
   try simp only[go_sem]
   exact⟨⟨m,rfl,by omega⟩,s2.more (by omega),Agr.app.trans (g1.trans g2)⟩
  | false=>
   simp only[go_sem,hb,k1]
   refine (d_pick _ s1 hown (by omega)).go ?_
   rintro _ H2 ⟨⟨m,rfl,m0,m1⟩,s2,g2⟩
   have hi:m.toNat<P.length:=by omega
   have hz:m<(P.length:Int):=by omega
   have f2:=(f.mono (prefix_append _ _)).agr (g1.trans g2) (.inr hlo)
   obtain⟨id2,off,b,hv,_,hk,hd,hbb,hrow,hat⟩:=f2.s.at (i:=m.toNat) (by rw[length_map];exact hi)
   obtain rfl:av=some ⟨id2,off,none⟩:=by simpa using hv
   have g0:=hat 0 (by omega)
   rw[getElem_map] at g0
   simp only[pip,getElem?_cons_zero,add_zero] at g0
   have lg:=g2.1
   simp only[go_sem,m0,hz,hk,hd,g0,lg]
   exact⟨agr_get g2 k1 (by omega),⟨_,rfl,(hP _ (getElem_mem hi)).1⟩,s2.more (by omega),Agr.app.trans (g1.trans g2)⟩
set_option maxRecDepth 4000 in
theorem e_valveOf{id n B lo hi:Nat}{a:Option Addr}(w:Value)(V:List Vlv)(f:SL lo hi h w (V.map vlv))(hlo:id<lo)(hV: ∀v∈V, -1000<=v.1∧v.1<=1000)(hl:V.length<=1000)(s:St h id n a B)(hM:M id)(hB:B<=100000) :
  vCall [] Tryz.prog M 98 [.pointer (some ⟨id,0,none⟩),w] h (fun r H'=>(∃m,r = .int .i64 m ∧ -1000<=m∧m<=1000)∧St H' id n a (B+4)∧Agr id (id+1) h H'):=by
 have hid:=s.lt
 have hown:own h.length M id:=Or.inr hM
 obtain⟨av,ev,_,_⟩:=f.s
 rw[length_map] at ev
 subst ev
 refine bo Tryz.func98 rfl rfl ?_
 simp only[go_sem]
 by_cases h0:V.length=0
 ·simp only[go_sem,h0,show ((0:Nat):Int)=0 from rfl,beq_self_eq_true]
  refine (d_pick _ s hown (by omega)).go ?_
  rintro _ H1 ⟨⟨m,rfl,m0,m1⟩,s1,g1⟩
  try simp only[go_sem]
  exact⟨⟨m,rfl,by omega⟩,s1.more (by omega),g1⟩
 ·have hb:((V.length:Int)==0)=false:=by simpa using h0
  simp only[go_sem,hb]
  refine (d_one _ s hown (by omega)).go ?_
  rintro _ H1 ⟨⟨gb,rfl⟩,s1,g1⟩
  cases gb with
  | true=>
   simp only[go_sem,hb]
   refine (d_pick _ s1 hown (by omega)).go ?_
   rintro _ H2 ⟨⟨m,rfl,m0,m1⟩,s2,g2⟩
   try simp only[go_sem]
   exact⟨⟨m,rfl,by omega⟩,s2.more (by omega),g1.trans g2⟩
  | false=>
   simp only[go_sem,hb]
   refine (d_pick _ s1 hown (by omega)).go ?_
   rintro _ H2 ⟨⟨m,rfl,m0,m1⟩,s2,g2⟩
   have hi:m.toNat<V.length:=by omega
   have hz:m<(V.length:Int):=by omega
   have f2:=f.agr (g1.trans g2) (.inr hlo)
   obtain⟨id2,off,b,hv,_,hk,hd,hbb,hrow,hat⟩:=f2.s.at (i:=m.toNat) (by rw[length_map];exact hi)
   obtain rfl:av=some ⟨id2,off,none⟩:=by simpa using hv
   have g0:=hat 0 (by omega)
   rw[getElem_map] at g0
   simp only[vlv,getElem?_cons_zero,add_zero] at g0
   simp only[go_sem,m0,hz,hk,hd,g0]
   exact⟨⟨_,rfl,hV _ (getElem_mem hi)⟩,s2.more (by omega),g1.trans g2⟩
end
open Go.HH
structure Sst(h H:Heap)(id n:Nat)(a:Option Addr)(B sid sz:Nat)(cs:List Value):Prop where
 st:St H id n a B
 out:Agr id (id+1) h H
 s:hget H sid=some ⟨cs,sz, .rw⟩
 low:h.length<=sid∧id<h.length
section
variable {h H H':Heap} {id n B B' sid sz:Nat} {a:Option Addr} {cs:List Value}
theorem Sst.step(s:Sst h H id n a B sid sz cs)(s':St H' id n a B')(g:Agr id (id+1) H H'):Sst h H' id n a B' sid sz cs:=by
 have h1:=s.low
 exact⟨s',s.out.trans g,agr_get g s.s (by omega),h1⟩
theorem Sst.more(s:Sst h H id n a B sid sz cs)(h1:B<=B'):Sst h H id n a B' sid sz cs:=⟨s.st.more h1,s.out,s.s,s.low⟩
theorem Sst.app{new:List Value}(s:Sst h H id n a B sid sz cs):Sst h ((H++ [(⟨new,sz, .rw⟩:Blk)]).set sid (⟨cs,sz, .dead⟩:Blk)++ [(⟨cs++new,sz, .rw⟩:Blk)]) id n a B (H.length+1) sz (cs++new):=by
 have h1:=s.low
 have h0:=s.out.1
 have h2:=hget_lt s.s
 have s2:St ((H++ [(⟨new,sz, .rw⟩:Blk)]).set sid (⟨cs,sz, .dead⟩:Blk)) id n a B:=(s.st.app _).set (self_get s.s _) rfl (by omega)
 have s3:=s2.app [(⟨cs++new,sz, .rw⟩:Blk)]
 refine⟨s3,⟨by simp;omega,fun i e1 e2 => ?_⟩, ?_,by omega⟩
 ·have e5:=s.out.2 i e1 e2
  have e6:i<H.length:=by omega
  rw[←e5]
  have e7:hget H i=some H[i]:=by unfold hget;exact getElem?_eq_getElem e6
  rw[e7]
  exact self_get (by rw[hget_set_ne (by omega)];exact self_get e7 _) _
 ·have e5:((H++ [(⟨new,sz, .rw⟩:Blk)]).set sid (⟨cs,sz, .dead⟩:Blk)).length=H.length+1:=by simp
  rw[←e5]
  exact hget_new
end
section
variable {h:Heap} {M:Nat->Prop}
set_option maxRecDepth 8000 in
set_option maxHeartbeats 4000000 in
end
end Go.Proofs.YtedidddimikjhaaGreatDoor
