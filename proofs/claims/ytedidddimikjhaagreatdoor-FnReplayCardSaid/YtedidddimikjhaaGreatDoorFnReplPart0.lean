/- Texts of this claim, joined. No condition. -/
import Derived.Orders
import Derived.Still
import Derived.StillTail
open List (prefix_append prefix_rfl getElem?_eq_getElem getElem?_append_left length_cons getElem?_cons_zero all_eq_true getElem?_cons_succ mem_iff_getElem mem_range getElem?_take mem_of_getElem? any_eq_true mem_append_left)
open Nat (le_refl le_trans add_zero lt_or_ge zero_add add_assoc lt_of_lt_of_le lt_succ_self)
set_option linter.unusedSimpArgs false
set_option linter.unusedVariables false
namespace Go.HH
theorem fin_{p:Prop}(h:p:=by first|exact rfl|exact⟨rfl,rfl⟩|exact prefix_append _ _|exact⟨rfl,prefix_append _ _⟩|assumption|exact⟨rfl,by assumption⟩|exact prefix_rfl|exact⟨rfl,prefix_rfl⟩|exact List.IsPrefix.trans (by assumption) (by assumption)|exact⟨rfl,List.IsPrefix.trans (by assumption) (by assumption)⟩):p:=h
structure Tgt where
 b:Nat
 d:Nat
 esz:Nat
 n:Nat
abbrev Phi:=Nat->Option Tgt
inductive St where
 | rw
 | ro
 | dead
 deriving DecidableEq
structure Blk where
 cells:List Value
 esz:Nat
 st:St
abbrev Heap:=List Blk
inductive VRel (p:Phi):Value->Value->Prop
 | bool (b:Bool):VRel p (.bool b) (.bool b)
 | int (k:IntKind) (n:Int):VRel p (.int k n) (.int k n)
 | string (s:ByteArray):VRel p (.string s) (.string s)
 | ptrNil:VRel p (.pointer none) (.pointer none)
 | ptr {id off:Nat} {t:Tgt}:p id=some t->VRel p (.pointer (some ⟨id,off,none⟩)) (.pointer (some ⟨t.b,off+t.d,none⟩))
 | sliceNil:VRel p (.slice none 0 0) (.slice none 0 0)
 | slice {id off:Nat} {t:Tgt} {len cap:Nat}:p id=some t->len<=cap->off+t.d+cap*t.esz<=t.n →
   VRel p (.slice (some ⟨id,off,none⟩) len 0) (.slice (some ⟨t.b,off+t.d,none⟩) len cap)
 | sliceEmpty {a a':Addr}:VRel p (.slice (some a) 0 0) (.slice (some a') 0 0)
 | func {fn:Fn} {f1 f2 c1 c2:Array Value}:f1.size=f2.size->c1.size=c2.size →
   (∀(i:Nat) (h:i<f1.size) (h':i<f2.size),VRel p f1[i] f2[i])->(∀(i:Nat) (h:i<c1.size) (h':i<c2.size),VRel p c1[i] c2[i]) →
   VRel p (.func fn f1 c1) (.func fn f2 c2)
 | nilFunc:VRel p .nilFunc .nilFunc
 | nilIface:VRel p .nilIface .nilIface
 | iface {t:TypeId} {v v':Value}:VRel p v v'->VRel p (.iface t v) (.iface t v')
 | agg {c1 c2:Array Value}:c1.size=c2.size->(∀(i:Nat) (h:i<c1.size) (h':i<c2.size),VRel p c1[i] c2[i])->VRel p (.agg c1) (.agg c2)
 | tuple {c1 c2:Array Value}:c1.size=c2.size->(∀(i:Nat) (h:i<c1.size) (h':i<c2.size),VRel p c1[i] c2[i])->VRel p (.tuple c1) (.tuple c2)
def ARel(p:Phi)(x y:Array Value):Prop:=x.size=y.size∧∀(i:Nat) (h:i<x.size) (h':i<y.size),VRel p x[i] y[i]
def Phi.le(p q:Phi):Prop:= ∀id t,p id=some t->q id=some t
theorem Phi.le_refl(p:Phi):p.le p:=fun _ _ h=>h
theorem Phi.le_trans{p q r:Phi}(h:p.le q)(k:q.le r):p.le r:=fun id t e=>k id t (h id t e)
theorem VRel.mono{p q:Phi}(h:p.le q){v v':Value}(r:VRel p v v'):VRel q v v':=by
 induction r with
 | bool b=>exact .bool b
 | int k n=>exact .int k n
 | string s=>exact .string s
 | ptrNil=>exact .ptrNil
 | ptr e=>exact .ptr (h _ _ e)
 | sliceNil=>exact .sliceNil
 | slice e l b=>exact .slice (h _ _ e) l b
 | sliceEmpty=>exact .sliceEmpty
 | func e1 e2 _ _ i1 i2=>exact .func e1 e2 i1 i2
 | nilFunc=>exact .nilFunc
 | nilIface=>exact .nilIface
 | iface _ i=>exact .iface i
 | agg e _ i=>exact .agg e i
 | tuple e _ i=>exact .tuple e i
theorem VRel.undef(p:Phi):VRel p undef undef := .tuple rfl (fun i h=>absurd h (by simp))
def oneC:Value->Bool
 | .agg _=>false
 | .tuple _=>false
 | _=>true
theorem VRel.oneCell{p:Phi}{v v':Value}(r:VRel p v v'):oneC v'=oneC v:=by cases r<;>rfl
theorem VRel.cells{p:Phi}{v v':Value}(r:VRel p v v'):ARel p v.cells v'.cells:=by
 cases r
 case agg e i=>exact⟨e,i⟩
 all_goals
  refine⟨rfl,fun i h h' => ?_⟩
  have hi:i=0:=by simp[Value.cells] at h;omega
  subst hi
  simp only[Value.cells,List.getElem_toArray,List.getElem_cons_zero]
  constructor<;>assumption
structure BRel(p:Phi)(k:Blk)(t:Tgt)(w:World):Prop where
 esz:k.esz=t.esz
 row: ∃c elem fr,w.heap[t.b]? = some (.cells c elem fr)∧c.size=t.n∧k.cells.length+t.d<=c.size ∧
  (∀(i:Nat) (v:Value),k.cells[i]? = some v->∃v',c[i+t.d]? = some v'∧VRel p v v') ∧
  (k.st = .rw->∀o,o<c.size+(k.esz-1)->¬(fr.1<=o∧o<fr.2))
structure HRelT(G:List (Nat×Nat))(T:Nat->Prop)(p:Phi)(h:Heap)(w:World):Prop where
 glob: ∀g∈G,∃t,p g.1=some t∧t.b=g.1∧t.d=0∧t.n=g.2
 dom: ∀id t,p id=some t->id<h.length∧t.b<w.heap.size
 blk: ∀id t k,T id->p id=some t->h[id]? = some k->k.st ≠ .dead->BRel p k t w
 esz: ∀id t k,p id=some t->h[id]? = some k->k.esz=t.esz
 inj: ∀id id' t t' k k',p id=some t->p id'=some t'->h[id]? = some k->h[id']? = some k'->k.st = .rw->k'.st ≠ .dead->t.b=t'.b->id=id'
def allT:Nat->Prop:=fun _=>True
abbrev HRel(G:List (Nat×Nat))(p:Phi)(h:Heap)(w:World):Prop:=HRelT G allT p h w
theorem HRelT.weaken{G:List (Nat×Nat)}{T T':Nat->Prop}{p:Phi}{h:Heap}{w:World}(r:HRelT G T p h w)(ht: ∀id t,p id=some t->T' id->T id):HRelT G T' p h w:=
 ⟨r.glob,r.dom,fun id t k a b=>r.blk id t k (ht id t b a) b,r.esz,r.inj⟩
structure Ext(M:Nat->Prop)(p q:Phi)(h h':Heap)(w w':World):Prop where
 le:p.le q
 new: ∀id t,q id=some t->p id=none->h.length<=id∧(w.heap.size<=t.b∨∃id0 t0,p id0=some t0∧t0.b=t.b∧M id0)
 len:h.length<=h'.length
 frame: ∀b,b<w.heap.size->(∀id t,p id=some t->M id->t.b≠b)->w'.heap[b]? = w.heap[b]?
 size:w.heap.size<=w'.heap.size
 os:w'.os=w.os
 tape:w'.tape=w.tape
 output:w'.output=w.output
theorem Ext.refl(M:Nat->Prop)(p:Phi)(h:Heap)(w:World):Ext M p p h h w w:=
 ⟨Phi.le_refl p,fun id t e e'=>(by rw[e] at e';cases e'),le_refl _,fun _ _ _=>rfl,le_refl _,rfl,rfl,rfl⟩
theorem Ext.trans{M:Nat->Prop}{p q r:Phi}{h h1 h2:Heap}{w w1 w2:World}
  (a:Ext M p q h h1 w w1) (b:Ext M q r h1 h2 w1 w2):Ext M p r h h2 w w2:=by
 refine⟨Phi.le_trans a.le b.le, ?_,le_trans a.len b.len, ?_,le_trans a.size b.size,b.os.trans a.os,b.tape.trans a.tape,b.output.trans a.output⟩
 ·intro id t e en
  cases hq:q id with
  | some t'=>
   have:t'=t:=Option.some.inj ((b.le id t' hq).symm.trans e)
   subst this
   exact a.new id t' hq en
  | none=>
   obtain⟨h1',h2'⟩:=b.new id t e hq
   refine⟨le_trans a.len h1', ?_⟩
   rcases h2' with h2'|⟨id0,t0,e0,eb,m0⟩
   ·exact .inl (le_trans a.size h2')
   ·cases hp:p id0 with
    | some t1=>
     have:t1=t0:=Option.some.inj ((a.le id0 t1 hp).symm.trans e0)
     subst this
     exact .inr ⟨id0,t1,hp,eb,m0⟩
    | none=>
     obtain⟨_,h3⟩:=a.new id0 t0 e0 hp
     rw[eb] at h3
     exact h3
 ·intro k hk hno
  have h1':=a.frame k hk hno
  refine (b.frame k (lt_of_lt_of_le hk a.size) ?_).trans h1'
  intro id t e m eb
  cases hp:p id with
  | some t1=>
   have:t1=t:=Option.some.inj ((a.le id t1 hp).symm.trans e)
   subst this
   exact hno id t1 hp m eb
  | none=>
   obtain⟨_,h3⟩:=a.new id t e hp
   rcases h3 with h3|⟨id0,t0,e0,eb0,m0⟩
   ·omega
   ·exact hno id0 t0 e0 m0 (eb0.trans eb)
theorem Ext.weaken{M N:Nat->Prop}{p q:Phi}{h h':Heap}{w w':World}(dom: ∀id t,p id=some t->id<h.length)
  (a:Ext M p q h h' w w') (hm: ∀id,id<h.length->M id->N id):Ext N p q h h' w w':=by
 refine⟨a.le, ?_,a.len, ?_,a.size,a.os,a.tape,a.output⟩
 ·intro id t e en
  obtain⟨h1,h2⟩:=a.new id t e en
  refine⟨h1,h2.imp_right ?_⟩
  rintro⟨id0,t0,e0,eb,m⟩
  exact⟨id0,t0,e0,eb,hm id0 (dom id0 t0 e0) m⟩
 ·intro b hb hno
  exact a.frame b hb fun id t e m=>hno id t e (hm id (dom id t e) m)
abbrev Env:=Nat->Value
def upd(e:Env)(i:Nat)(v:Value):Env:=fun j=>if j=i then v else e j
def put(e:Env)(d:Option Tmp)(v:Value):Env:=match d with|some i=>upd e i v|none=>e
def Opd.val(e:Env):Operand->Value
 | .tmp t=>e t
 | .const v=>v
 | .global g => .pointer (some ⟨g,0,none⟩)
 | .func f => .func (.func f) #[] #[]
structure ERel(p:Phi)(n:Nat)(e:Env)(a:Act):Prop where
 size:a.tmps.size=n
 defers:a.defers= []
 val: ∀t,VRel p (e t) (a.tmps.getD t undef)
theorem ERel.mono{p q:Phi}(h:p.le q){n:Nat}{e:Env}{a:Act}(r:ERel p n e a):ERel q n e a:=⟨r.size,r.defers,fun t=>(r.val t).mono h⟩
theorem ERel.put{p:Phi}{n:Nat}{e:Env}{a:Act}(r:ERel p n e a){d:Option Tmp}(hd: ∀i,d=some i->i<n){v v':Value}(hv:VRel p v v'):ERel p n (put e d v) (a.put d v'):=by
 cases d with
 | none=>exact r
 | some i=>
  have hi:=hd i rfl
  refine⟨by simp[Act.put,r.size],by simp[Act.put,r.defers],fun t => ?_⟩
  have hs:=r.size
  simp only[HH.put,upd,Act.put]
  by_cases ht:t=i
  ·subst ht
   rw[if_pos rfl]
   simpa[Array.getD,hs,hi] using hv
  ·rw[if_neg ht]
   have:=r.val t
   simpa[Array.getD_eq_getD_getElem?,Array.getElem?_setIfInBounds_ne (Ne.symm ht)] using this
def HExec(G:List (Nat×Nat))(P:Program)(n:Nat)(M:Nat->Prop)(c:Code)(e:Env)(h:Heap)(x:Exit)(e':Env)(h':Heap):Prop:=
 ∀p a w,HRel G p h w->ERel p n e a →
  c.wp P (fun x1 a' w'=>x1=x∧∃q,HRel G q h' w'∧ERel q n e' a'∧Ext M p q h h' w w') a w
def HWp(G:List (Nat×Nat))(P:Program)(n:Nat)(M:Nat->Prop)(c:Code)(Q:Exit->Env->Heap->Prop)(e:Env)(h:Heap):Prop:=
 ∃x e' h',HExec G P n M c e h x e' h'∧Q x e' h'
def HRuns(G:List (Nat×Nat))(P:Program)(f:FuncId)(args:List Value)(h:Heap)(M:Nat->Prop)(r:Value)(h':Heap):Prop:=
 ∀p w vs,HRel G p h w->ARel p args.toArray vs →
  Calls P f vs w fun en w'=> ∃v q,en = .returned v∧VRel q r v∧HRel G q h' w'∧Ext M p q h h' w w'
section
variable {G:List (Nat×Nat)} {P:Program} {n:Nat} {M:Nat->Prop} {Q:Exit->Env->Heap->Prop} {e:Env} {h:Heap}
theorem HExec.skip:HExec G P n M .skip e h .normal e h:=fun p _ _ hr er=>wp_skip ⟨rfl,p,hr,er,Ext.refl ..⟩
theorem HExec.label{l:Nat}:HExec G P n M (.label l) e h .normal e h:=fun p _ _ hr er=>wp_label ⟨rfl,p,hr,er,Ext.refl ..⟩
theorem HExec.exit{i:Nat}:HExec G P n M (.exit i) e h (.exit i) e h:=fun p _ _ hr er=>wp_exit ⟨rfl,p,hr,er,Ext.refl ..⟩
theorem HExec.ret:HExec G P n M .ret e h .ret e h:=fun p _ _ hr er=>wp_ret ⟨rfl,p,hr,er,Ext.refl ..⟩
theorem HExec.seq{x y:Code}{e1 e2:Env}{h1 h2:Heap}{z:Exit}(a1:HExec G P n M x e h .normal e1 h1)(a2:HExec G P n M y e1 h1 z e2 h2) :
  HExec G P n M (.seq x y) e h z e2 h2:=fun p a w hr er=>wp_seq<|wp_mono (a1 p a w hr er) fun z1 a' w' hq=>by
 obtain⟨rfl,q,hr',er',ex⟩:=hq
 show y.wp P _ a' w'
 exact wp_mono (a2 q a' w' hr' er') fun z2 a2 w2 hq2=>by
  obtain⟨rfl,q2,hr2,er2,ex2⟩:=hq2
  exact⟨rfl,q2,hr2,er2,ex.trans ex2⟩
theorem HExec.seq_out{x y:Code}{e1:Env}{h1:Heap}{z:Exit}(hz:z ≠ .normal)(a1:HExec G P n M x e h z e1 h1) :
  HExec G P n M (.seq x y) e h z e1 h1:=fun p a w hr er=>wp_seq<|wp_mono (a1 p a w hr er) fun z1 a' w' hq=>by
 obtain⟨rfl,q⟩:=hq
 cases z1<;>first|exact absurd rfl hz|exact⟨rfl,q⟩
theorem HWp.seq{x y:Code}(hh:HWp G P n M x (fun z e' h'=>(z = .normal∧HWp G P n M y Q e' h')∨(z ≠ .normal∧Q z e' h')) e h):HWp G P n M (.seq x y) Q e h:=by
 obtain⟨z,e1,h1,a1,hq⟩:=hh
 rcases hq with⟨rfl,z2,e2,h2,a2,q2⟩|⟨hz,q⟩
 ·exact⟨z2,e2,h2,a1.seq a2,q2⟩
 ·exact⟨z,e1,h1,a1.seq_out hz,q⟩
theorem HWp.mono{c:Code}{Q':Exit->Env->Heap->Prop}(hh:HWp G P n M c Q e h)(hq: ∀z e h,Q z e h->Q' z e h):HWp G P n M c Q' e h:=
 let ⟨z,e1,h1,a,q⟩:=hh
 ⟨z,e1,h1,a,hq _ _ _ q⟩
theorem HWp.cond{c:Operand}{x y:Code}{b:Bool}(hc:Opd.val e c = .bool b)(hn: ∀v,c ≠ .const v)
  (hh:HWp G P n M (if b then x else y) Q e h):HWp G P n M (.cond c x y) Q e h:=by
 obtain⟨z,e1,h1,a1,hq⟩:=hh
 refine⟨z,e1,h1,fun p a w hr er=>wp_cond (t:=b) ?_ (a1 p a w hr er),hq⟩
 cases c with
 | tmp t=>
  have:=er.val t
  simp only[Opd.val] at hc
  rw[hc] at this
  cases this':a.tmps.getD t undef<;>rw[this'] at this<;>cases this
  simpa[Act.eval] using this'
 | const v=>exact absurd rfl (hn v)
 | global g=>simp[Opd.val] at hc
 | func f=>simp[Opd.val] at hc
theorem HWp.condConst{x y:Code}{b:Bool}(hh:HWp G P n M (if b then x else y) Q e h):HWp G P n M (.cond (.const (.bool b)) x y) Q e h:=by
 obtain⟨z,e1,h1,a1,hq⟩:=hh
 exact⟨z,e1,h1,fun p a w hr er=>wp_cond (t:=b) (by simp[Act.eval]) (a1 p a w hr er),hq⟩
theorem HWp.block{i:Nat}{c:Code}(hh:HWp G P n M c (fun z e' h'=>Q (match z with | .exit j=>if j=i then .normal else .exit j|z=>z) e' h') e h):HWp G P n M (.block i c) Q e h:=by
 obtain⟨z,e1,h1,a1,hq⟩:=hh
 refine⟨_,e1,h1,fun p a w hr er=>wp_block<|wp_mono (a1 p a w hr er) fun z1 a' w' hz => ?_,hq⟩
 obtain⟨rfl,hx⟩:=hz
 cases z1 with
 | exit j=>
  simp only[Exit.inBlock]
  by_cases hj:j=i
  ·simp only[hj,if_true];exact⟨trivial,hx⟩
  ·simp only[hj,if_false];exact⟨trivial,hx⟩
 | _=>exact⟨rfl,hx⟩
theorem wp_loop_ix{P:Program}{Q:Exit->Act->World->Prop}{c:Code}(I:Nat->Act->World->Prop)
  (round: ∀m a w,I m a w->c.wp P (Exit.then (fun a' w'=> ∃m',m'<m∧I m' a' w') Q) a w) (m:Nat) (a:Act) (w:World) (h0:I m a w):(Code.loop c).wp P Q a w:=by
 intro b k cs
 have key: ∀m a w,I m a w->∃e a' w',Q e a' w'∧Arrives P (lone (b.at a (.code c :: .inLoop c::k)) cs w) b k cs e a' w':=by
  intro m
  induction m using Nat.strongRecOn with
  | _ m ih=>
   intro a w hI
   obtain⟨e,a1,w1,hq,harr⟩:=round m a w hI b (.inLoop c::k) cs
   cases e with
   | normal=>
    obtain⟨m',hlt,hI'⟩:=hq
    obtain⟨e2,a2,w2,hq2,harr2⟩:=ih m' hlt a1 w1 hI'
    exact⟨e2,a2,w2,hq2, .of_steps (Steps.trans harr (.one step_inLoop)) harr2⟩
   | exit id=>exact⟨_,a1,w1,hq, .pass (x := .inLoop c) rfl (fun _ _ => .inl (by simp)) harr⟩
   | goto l=>exact⟨_,a1,w1,hq, .pass (x := .inLoop c) rfl (fun _ _ => .inl (by simp)) harr⟩
   | ret=>exact⟨_,a1,w1,hq, .pass (x := .inLoop c) rfl (fun _ _ => .inl (by simp)) harr⟩
   | panic ch=>exact⟨_,a1,w1,hq, .pass (x := .inLoop c) rfl (fun _ _ => .inl (by simp)) harr⟩
   | outgrown=>exact⟨_,a1,w1,hq, .pass (x := .inLoop c) rfl (fun _ _ => .inl (by simp)) harr⟩
 obtain⟨e,a',w',hq,harr⟩:=key m a w h0
 exact⟨e,a',w',hq, .of_steps (.one step_loop) harr⟩
inductive LoopRun (G:List (Nat×Nat)) (P:Program) (n:Nat) (M:Nat->Prop) (c:Code):Nat->Env->Heap->Exit->Env->Heap->Prop
 | out {e h z e' h'}:HExec G P n M c e h z e' h'->z ≠ .normal->LoopRun G P n M c 0 e h z e' h'
 | step {m e h e1 h1 z e' h'}:HExec G P n M c e h .normal e1 h1->LoopRun G P n M c m e1 h1 z e' h'->LoopRun G P n M c (m+1) e h z e' h'
theorem HExec.loop{c:Code}{m:Nat}{e':Env}{h':Heap}{z:Exit}(t:LoopRun G P n M c m e h z e' h'):HExec G P n M (.loop c) e h z e' h':=by
 intro p a w hr er
 refine wp_loop_ix (fun m a1 w1=> ∃e1 h1 q,LoopRun G P n M c m e1 h1 z e' h'∧HRel G q h1 w1∧ERel q n e1 a1∧Ext M p q h h1 w w1) ?_ m a w ⟨e,h,p,t,hr,er,Ext.refl ..⟩
 rintro m a1 w1 ⟨e1,h1,q,t1,hr1,er1,ex1⟩
 cases t1 with
 | out hx hz=>
  refine wp_mono (hx q a1 w1 hr1 er1) ?_
  rintro z2 a2 w2 ⟨rfl,q2,hr2,er2,ex2⟩
  have:z2=z2∧∃q,HRel G q h' w2∧ERel q n e' a2∧Ext M p q h h' w w2:=⟨rfl,q2,hr2,er2,ex1.trans ex2⟩
  cases z2<;>first|exact absurd rfl hz|exact this
 | step hx ht=>
  refine wp_mono (hx q a1 w1 hr1 er1) ?_
  rintro z2 a2 w2 ⟨rfl,q2,hr2,er2,ex2⟩
  exact⟨_,lt_succ_self _,_,_,q2,ht,hr2,er2,ex1.trans ex2⟩
theorem HWp.loop{c:Code}(I:Env->Heap->Prop)(mu:Env->Heap->Nat)(h0:I e h)
  (round: ∀e h,I e h->HWp G P n M c (fun z e' h'=>(z = .normal∧I e' h'∧mu e' h'<mu e h)∨(z ≠ .normal∧Q z e' h')) e h):HWp G P n M (.loop c) Q e h:=by
 have key: ∀m e h,mu e h=m->I e h->∃k z e' h',LoopRun G P n M c k e h z e' h'∧Q z e' h':=by
  intro m
  induction m using Nat.strongRecOn with
  | _ m ih=>
   intro e h hm hI
   obtain⟨z,e1,h1,hx,hq⟩:=round e h hI
   rcases hq with⟨rfl,hI1,hlt⟩|⟨hz,hq⟩
   ·obtain⟨k,z2,e2,h2,t,q⟩:=ih _ (hm▸hlt) e1 h1 rfl hI1
    exact⟨k+1,z2,e2,h2, .step hx t,q⟩
   ·exact⟨0,z,e1,h1, .out hx hz,hq⟩
 obtain⟨k,z,e',h',t,q⟩:=key _ e h rfl h0
 exact⟨z,e',h',HExec.loop t,q⟩
end
def HStep(G:List (Nat×Nat))(P:Program)(o:Oper)(T M:Nat->Prop)(e:Env)(h:Heap)(v:Value)(h':Heap):Prop:=
 ∀p a w,HRelT G T p h w->(∀x∈o.op.operands,VRel p (Opd.val e x) (a.eval x)) →
  ∀(next:Act->World->Prop) (Q:Exit->Act->World->Prop),
   (∀q v' w',HRelT G (fun id=>T id∨h.length<=id) q h' w'->VRel q v v'->Ext M p q h h' w w'->next (a.put o.dst v') w')->o.wp P a w next Q
theorem HRelT.all{G:List (Nat×Nat)}{p:Phi}{h:Heap}{w:World}{m:Nat}(r:HRelT G (fun id=>allT id∨m<=id) p h w):HRel G p h w:=r.weaken fun _ _ _ _ => .inl trivial
inductive Plain:Value->Prop
 | bool (b:Bool):Plain (.bool b)
 | int (k:IntKind) (n:Int):Plain (.int k n)
 | string (s:ByteArray):Plain (.string s)
 | ptrNil:Plain (.pointer none)
 | sliceNil:Plain (.slice none 0 0)
 | func (fn:Fn):Plain (.func fn #[] #[])
 | nilFunc:Plain .nilFunc
 | nilIface:Plain .nilIface
 | agg {c:Array Value}:(∀(i:Nat) (h:i<c.size),Plain c[i])->Plain (.agg c)
 | tuple {c:Array Value}:(∀(i:Nat) (h:i<c.size),Plain c[i])->Plain (.tuple c)
theorem Plain.rel{p:Phi}{v:Value}(h:Plain v):VRel p v v:=by
 induction h with
 | bool b=>exact .bool b
 | int k n=>exact .int k n
 | string s=>exact .string s
 | ptrNil=>exact .ptrNil
 | sliceNil=>exact .sliceNil
 | func fn=>exact .func rfl rfl (fun i h=>absurd h (by simp)) (fun i h=>absurd h (by simp))
 | nilFunc=>exact .nilFunc
 | nilIface=>exact .nilIface
 | agg _ ih=>exact .agg rfl (fun i h _=>ih i h)
 | tuple _ ih=>exact .tuple rfl (fun i h _=>ih i h)
def plainB:Value->Bool
 | .bool _=>true
 | .int _ _=>true
 | .string _=>true
 | .pointer none=>true
 | .slice none 0 0=>true
 | .func _ f c=>f.isEmpty&&c.isEmpty
 | .nilFunc=>true
 | .nilIface=>true
 | .agg c=>c.all fun v=>match v with
  | .bool _=>true
  | .int _ _=>true
  | .string _=>true
  | .pointer none=>true
  | .slice none 0 0=>true
  | .nilFunc=>true
  | .nilIface=>true
  | _=>false
 | .tuple c=>c.isEmpty
 | _=>false
theorem plainB_spec{v:Value}(h:plainB v=true):Plain v:=by
 unfold plainB at h
 split at h
 ·exact .bool _
 ·exact .int _ _
 ·exact .string _
 ·exact .ptrNil
 ·exact .sliceNil
 ·simp only[Bool.and_eq_true,Array.isEmpty_iff] at h
  obtain⟨rfl,rfl⟩:=h
  exact .func _
 ·exact .nilFunc
 ·exact .nilIface
 ·refine .agg fun i hi => ?_
  have:=(Array.all_eq_true.1 h) i hi
  split at this
  ·rename_i e;rw[e];exact .bool _
  ·rename_i e;rw[e];exact .int _ _
  ·rename_i e;rw[e];exact .string _
  ·rename_i e;rw[e];exact .ptrNil
  ·rename_i e;rw[e];exact .sliceNil
  ·rename_i e;rw[e];exact .nilFunc
  ·rename_i e;rw[e];exact .nilIface
  ·cases this
 ·simp only[Array.isEmpty_iff] at h
  subst h
  exact .tuple (fun i hi=>absurd hi (by simp))
 ·cases h
def opdB(G:List (Nat×Nat)):Operand->Bool
 | .tmp _=>true
 | .const v=>plainB v
 | .global g=>G.any fun x=>x.1==g
 | .func _=>true
def operB(G:List (Nat×Nat))(n:Nat)(o:Oper):Bool:=o.op.operands.all (opdB G)&&(match o.dst with|some d=>decide (d<n)|none=>true)
theorem opd_rel{G:List (Nat×Nat)}{p:Phi}{h:Heap}{w:World}{e:Env}{a:Act}{x:Operand}(hr:HRel G p h w)
  (ht: ∀t,x = .tmp t->VRel p (e t) (a.tmps.getD t undef)) (hx:opdB G x=true):VRel p (Opd.val e x) (a.eval x):=by
 cases x with
 | tmp t=>exact ht t rfl
 | const v=>exact (plainB_spec hx).rel
 | global g=>
  obtain⟨x,hm,hx⟩:=any_eq_true.1 (show (G.any fun x=>x.1==g)=true from hx)
  obtain rfl:x.1=g:=by simpa using hx
  obtain⟨t,h1,h2,h3,_⟩:=hr.glob x hm
  have:=VRel.ptr (off:=0) h1
  rw[h2,h3] at this
  exact this
 | func f=>exact .func rfl rfl (fun i h=>absurd h (by simp)) (fun i h=>absurd h (by simp))
def wantedH(ops:Array Oper)(o:Oper)(e:Env):Bool:=
 match o.guard with
 | none=>true
 | some (g,want)=>match (ops[g]?).bind (·.dst) with
  | some t=>(match e t with | .bool b=>b==want|_=>false)
  | none=>false
theorem wanted_rel{ops:Array Oper}{o:Oper}{e:Env}{a:Act}
  (hg: ∀g want t,o.guard=some (g,want)->(ops[g]?).bind (·.dst)=some t->∃p,VRel p (e t) (a.tmps.getD t undef)) :
  Region.wanted o (yielded ops a.tmps)=wantedH ops o e:=by
 unfold Region.wanted wantedH
 cases hq:o.guard with
 | none=>rfl
 | some gw=>
  obtain⟨g,want⟩:=gw
  simp only
  unfold yielded
  cases ht:(ops[g]?).bind (·.dst) with
  | none=>simp
  | some t=>
   obtain⟨p,hv⟩:=hg g want t hq ht
   simp only[Option.bind_some]
   rw[Array.getD_eq_getD_getElem?] at hv
   cases hx:a.tmps[t]? with
   | none=>
    rw[hx] at hv
    simp only[Option.getD_none] at hv
    cases he:e t<;>rw[he] at hv<;>cases hv
    simp
   | some v=>
    rw[hx] at hv
    simp only[Option.getD_some] at hv
    generalize e t=u at hv
    cases hv<;>simp
def HOps(G:List (Nat×Nat))(P:Program)(n:Nat)(M:Nat->Prop)(ops:Array Oper):List Oper->Env->Heap->(Env->Heap->Prop)->Prop
 | [],e,h,K=>K e h
 | o::os,e,h,K=>if wantedH ops o e then ∃v h',HStep G P o allT M e h v h'∧HOps G P n M ops os (put e o.dst v) h' K
  else HOps G P n M ops os (put e o.dst undef) h K
section
variable {G:List (Nat×Nat)} {P:Program} {n:Nat} {M:Nat->Prop} {ops:Array Oper}
inductive OpsRun (G:List (Nat×Nat)) (P:Program) (n:Nat) (M:Nat->Prop) (ops:Array Oper):List Oper->Env->Heap->Env->Heap->Prop
 | nil {e h}:OpsRun G P n M ops [] e h e h
 | go {o os e h v h' e2 h2}:wantedH ops o e=true->HStep G P o allT M e h v h'->OpsRun G P n M ops os (put e o.dst v) h' e2 h2->OpsRun G P n M ops (o::os) e h e2 h2
 | no {o os e h e2 h2}:wantedH ops o e=false->OpsRun G P n M ops os (put e o.dst undef) h e2 h2->OpsRun G P n M ops (o::os) e h e2 h2
theorem OpsRun.of_hops: ∀(l:List Oper) (e:Env) (h:Heap) (K:Env->Heap->Prop),HOps G P n M ops l e h K->∃e2 h2,OpsRun G P n M ops l e h e2 h2∧K e2 h2
 | [],e,h,_,hk=>⟨e,h, .nil,hk⟩
 | o::os,e,h,K,hk=>by
  unfold HOps at hk
  split at hk
  ·rename_i hw
   obtain⟨v,h',hs,hk⟩:=hk
   obtain⟨e2,h2,r,k⟩:=OpsRun.of_hops os _ _ K hk
   exact⟨e2,h2, .go hw hs r,k⟩
  ·rename_i hw
   obtain⟨e2,h2,r,k⟩:=OpsRun.of_hops os _ _ K hk
   exact⟨e2,h2, .no (by simpa using hw) r,k⟩
theorem OpsRun.sound{Q:Exit->Act->World->Prop}: ∀(l:List Oper) (k:Nat) (e:Env) (h:Heap) (e2:Env) (h2:Heap),OpsRun G P n M ops l e h e2 h2 →
  (∀j,l[j]? = ops[k+j]?)->(l.all (operB G n)=true)->∀p a w,HRel G p h w->ERel p n e a →
  (∀q a' w',HRel G q h2 w'->ERel q n e2 a'->Ext M p q h h2 w w'->Q .normal a' w')->wpOps P ops Q (List.range' k l.length) a w
 | [],k,e,h,_,_, .nil,_,_,p,a,w,hr,er,hq=>hq p a w hr er (Ext.refl ..)
 | o::os,k,e,h,e2,h2,hrun,hl,hB,p,a,w,hr,er,hq=>by
  have h0:ops[k]? = some o:=by simpa using (hl 0).symm
  have hl': ∀j,os[j]? = ops[k+1+j]? := fun j=>by have:=hl (j+1);simpa[add_assoc,Nat.add_comm 1 j] using this
  simp only[List.all_cons,Bool.and_eq_true] at hB
  obtain⟨hB1,hB2⟩:=hB
  simp only[operB,Bool.and_eq_true,Array.all_eq_true_iff_forall_mem] at hB1
  have hd: ∀i,o.dst=some i->i<n:=fun i hi=>by have:=hB1.2;rw[hi] at this;simpa using this
  have hwt:Region.wanted o (yielded ops a.tmps)=wantedH ops o e:=wanted_rel fun g want t _ _=>⟨p,er.val t⟩
  rw[length_cons,List.range'_succ,wpOps]
  simp only[h0]
  rw[hwt]
  cases hrun with
  | go hw hs hr'=>
   rw[if_pos hw]
   refine .inl (hs p a w hr (fun x hx=>opd_rel hr (fun t _=>er.val t) (hB1.1 x hx)) _ _ ?_)
   intro q v' w' hrq hv ex
   replace hrq:=hrq.all
   exact OpsRun.sound os (k+1) _ _ _ _ hr' hl' hB2 q _ w' hrq ((er.mono ex.le).put hd hv) (fun q2 a2 w2 hr2 er2 ex2=>hq q2 a2 w2 hr2 er2 (ex.trans ex2))
  | no hw hr'=>
   rw[if_neg (by simp[hw])]
   exact OpsRun.sound os (k+1) _ _ _ _ hr' hl' hB2 p _ w hr (er.put hd (VRel.undef p)) hq
theorem HExec.region{id:Nat}{e e2:Env}{h h2:Heap}(hB:ops.toList.all (operB G n)=true)(r:OpsRun G P n M ops ops.toList e h e2 h2) :
  HExec G P n M (.region id ops false) e h .normal e2 h2:=fun p a w hr er=>by
 refine wp_region ?_
 have:=OpsRun.sound (Q:=fun x1 a' w'=>x1=Exit.normal∧∃q,HRel G q h2 w'∧ERel q n e2 a'∧Ext M p q h h2 w w') ops.toList 0 e h e2 h2 r (by simp) hB p a w hr er (fun q a' w' h1 h2 h3=>⟨rfl,q,h1,h2,h3⟩)
 simpa[List.range_eq_range'] using this
theorem HWp.region{id:Nat}{Q:Exit->Env->Heap->Prop}{e:Env}{h:Heap}(hB:ops.toList.all (operB G n)=true)
  (hh:HOps G P n M ops ops.toList e h (fun e' h'=>Q .normal e' h')):HWp G P n M (.region id ops false) Q e h:=by
 obtain⟨e2,h2,r,k⟩:=OpsRun.of_hops _ _ _ _ hh
 exact⟨.normal,e2,h2,HExec.region hB r,k⟩
end
def cut(p:Phi)(m:Nat):Phi:=fun id=>if id<m then p id else none
theorem cut_le(p:Phi)(m:Nat):(cut p m).le p:=fun id t h=>by
 unfold cut at h
 split at h
 ·exact h
 ·cases h
theorem cut_mono{p q:Phi}{m k:Nat}(hp:p.le q)(hm:m<=k):(cut p m).le (cut q k):=fun id t h=>by
 unfold cut at *
 split at h
 ·rw[if_pos (by omega)];exact hp _ _ h
 ·cases h
def lexOK(ops:Array Oper):Bool:=
 (List.range ops.size).all fun j=>match ops[j]? with
  | none=>true
  | some oj=>oj.after.all (fun e => !Region.binds .any e||decide (e.on<j))&&(List.range j).all fun i=>match ops[i]? with
   | none=>true
   | some oi=>oj.after.any (fun e=>Region.binds .any e&&e.on==i)||oi.apart ops oj
theorem lexOK_back{ops:Array Oper}(h:lexOK ops=true){j:Nat}{oj:Oper}(hj:ops[j]? = some oj){e:Edge}(he:e∈oj.after)(hb:Region.binds .any e=true):e.on<j:=by
 have hlt:=(Array.getElem?_eq_some_iff.1 hj).1
 have:=all_eq_true.1 h j (mem_range.2 hlt)
 simp only[hj,Bool.and_eq_true,Array.all_eq_true_iff_forall_mem] at this
 have:=this.1 e he
 simpa[hb] using this
theorem lexOK_pair{ops:Array Oper}(h:lexOK ops=true){i j:Nat}{oi oj:Oper}(hij:i<j)(hi:ops[i]? = some oi)(hj:ops[j]? = some oj) :
  (∃e∈oj.after,Region.binds .any e=true∧e.on=i)∨oi.apart ops oj=true:=by
 have hlt:=(Array.getElem?_eq_some_iff.1 hj).1
 have:=all_eq_true.1 h j (mem_range.2 hlt)
 simp only[hj,Bool.and_eq_true] at this
 have:=all_eq_true.1 this.2 i (mem_range.2 hij)
 simp only[hi,Bool.or_eq_true] at this
 rcases this with this|this
 ·simp only[Array.any_eq_true,Bool.and_eq_true,beq_iff_eq] at this
  obtain⟨x,hx,hb⟩:=this
  exact .inl ⟨_,Array.getElem_mem hx,hb.1,hb.2⟩
 ·exact .inr this
structure Trace (G : List (Nat × Nat)) (P : Program) (ops : Array Oper) (E : Nat → Env) (H : Nat → Heap) (V : Nat → Value) : Prop where
  step : ∀ i o, ops[i]? = some o → E (i + 1) = put (E i) o.dst (V i) ∧
    ((wantedH ops o (E i) = true ∧ HStep G P o allT (fun _ => False) (E i) (H i) (V i) (H (i + 1)) ∧ ∀ id, id < (H i).length → (H (i + 1))[id]? = (H i)[id]?) ∨
     (wantedH ops o (E i) = false ∧ V i = undef ∧ H (i + 1) = H i))
def holds(ops:Array Oper)(E:Nat->Env)(H:Nat->Heap)(V:Nat->Value)(l:Nat->Bool)(t:Nat):Nat->Value×Nat
 | 0=>(E 0 t,(H 0).length)
 | k+1=>if l k=true∧((ops[k]?).bind (·.dst))=some t then (V k,(H (k+1)).length) else holds ops E H V l t k
section
variable {G:List (Nat×Nat)} {P:Program} {ops:Array Oper} {E:Nat->Env} {H:Nat->Heap} {V:Nat->Value}
theorem Trace.grow (T : Trace G P ops E H V) {i k : Nat} (hik : i ≤ k) (hk : k ≤ ops.size) : ∀ id, id < (H i).length → (H k)[id]? = (H i)[id]? := by
  induction k with
  | zero => intro id _; have : i = 0 := by omega
            subst this; rfl
  | succ k ih =>
    intro id hid
    rcases lt_or_ge i (k + 1) with h | h
    · have hlt : k < ops.size := by omega
      have h1 := ih (by omega) (by omega) id hid
      have hid' : id < (H k).length := by
        rw [getElem?_eq_getElem hid] at h1
        exact (List.getElem?_eq_some_iff.1 h1).1
      obtain ⟨_, h2⟩ := T.step k ops[k] (Array.getElem?_eq_getElem hlt)
      rcases h2 with ⟨_, _, h2⟩ | ⟨_, _, h2⟩
      · rw [h2 id hid', h1]
      · rw [h2, h1]
    · have : i = k + 1 := by omega
      subst this; rfl
theorem Trace.len(T:Trace G P ops E H V){i k:Nat}(hik:i<=k)(hk:k<=ops.size):(H i).length<=(H k).length:=by
 rcases lt_or_ge (H k).length (H i).length with h|h
 ·have:=T.grow hik hk (H k).length h
  rw[getElem?_eq_getElem h] at this
  simp at this
 ·exact h
theorem holds_congr{l l':Nat->Bool}{t:Nat}: ∀k,(∀j,j<k->((ops[j]?).bind (·.dst))=some t->l j=l' j)->holds ops E H V l t k=holds ops E H V l' t k
 | 0,_=>rfl
 | k+1,h=>by
  unfold holds
  have ih:=holds_congr (l:=l) (l':=l') (t:=t) k (fun j hj=>h j (by omega))
  by_cases hd:((ops[k]?).bind (·.dst))=some t
  ·rw[h k (by omega) hd,ih]
  ·rw[if_neg (fun c=>hd c.2),if_neg (fun c=>hd c.2),ih]
theorem holds_text(T:Trace G P ops E H V){t:Nat}: ∀k i,i<=k->k<=ops.size->(holds ops E H V (fun j=>decide (j<i)) t k).1=E i t∧(holds ops E H V (fun j=>decide (j<i)) t k).2<=(H i).length
 | 0,i,hi,_=>by
  have:i=0:=by omega
  subst this
  exact⟨rfl,le_refl _⟩
 | k+1,i,hi,hk=>by
  unfold holds
  rcases lt_or_ge k i with h|h
  ·have:i=k+1:=by omega
   subst this
   have hlt:k<ops.size:=by omega
   obtain⟨h1,_⟩:=T.step k ops[k] (Array.getElem?_eq_getElem hlt)
   have hc:holds ops E H V (fun j=>decide (j<k+1)) t k=holds ops E H V (fun j=>decide (j<k)) t k:=holds_congr k (fun j hj _=>by simp;omega)
   have ih:=holds_text T (t:=t) k k (le_refl _) (by omega)
   simp only[h1,Array.getElem?_eq_getElem hlt,Option.bind_some]
   by_cases hd:ops[k].dst=some t
   ·simp[hd,put,upd]
   ·rw[if_neg (fun c=>hd c.2),hc]
    have hp:put (E k) ops[k].dst (V k) t=E k t:=by
     cases hx:ops[k].dst with
     | none=>rfl
     | some d=>simp only[put,upd];rw[if_neg (fun c=>hd (by rw[hx,c]))]
    rw[hp]
    exact⟨ih.1,le_trans ih.2 (T.len (by omega) (by omega))⟩
  ·rw[if_neg (by simp;omega)]
   exact holds_text T k i h (by omega)
structure DInv(G:List (Nat×Nat))(ops:Array Oper)(E:Nat->Env)(H:Nat->Heap)(V:Nat->Value)(n:Nat)(p0:Phi)(w0:World)
  (listed:Array Bool) (p:Phi) (a:Act) (w:World):Prop where
 lsize:listed.size=ops.size
 closed: ∀i o,ops[i]? = some o->listed.getD i false=true->∀e∈o.after,Region.binds .any e=true->listed.getD e.on false=true
 asize:a.tmps.size=n
 adef:a.defers= []
 tv: ∀t,VRel (cut p (holds ops E H V (fun i=>listed.getD i false) t ops.size).2) (holds ops E H V (fun i=>listed.getD i false) t ops.size).1 (a.tmps.getD t undef)
 hr: ∀k,k<=ops.size->HRel G (cut p (H k).length) (H k) w
 unborn: ∀i,i<ops.size->listed.getD i false=false->∀id,(H i).length<=id->id<(H (i+1)).length->p id=none
 dom: ∀id t,p id=some t->id<(H ops.size).length
 ext:Ext (fun _=>False) p0 p (H 0) (H ops.size) w0 w
theorem HRel.drew{p:Phi}{h:Heap}{w:World}(r:HRel G p h w):HRel G p h {w with drawn:=w.drawn+1}:=
 ⟨r.glob,r.dom,fun id t k tt a b c=>let x:=r.blk id t k tt a b c;⟨x.esz,x.row⟩,r.esz,r.inj⟩
theorem cut_self{p:Phi}{m:Nat}(h: ∀id t,p id=some t->id<m):cut p m=p:=funext fun id=>by
 unfold cut
 split
 ·rfl
 ·rename_i hn
  cases hp:p id with
  | none=>rfl
  | some t=>exact absurd (h id t hp) hn
theorem HRel.kept {p : Phi} {h : Heap} {w w' : World} (r : HRel G p h w) (hs : w.heap.size ≤ w'.heap.size) (hf : ∀ b, b < w.heap.size → w'.heap[b]? = w.heap[b]?) : HRel G p h w' :=
  ⟨r.glob, fun id t e => ⟨(r.dom id t e).1, lt_of_lt_of_le (r.dom id t e).2 hs⟩,
   fun id t k tt a b c => let x := r.blk id t k tt a b c; ⟨x.esz, by rw [hf t.b (r.dom id t a).2]; exact x.row⟩, r.esz, r.inj⟩
theorem DInv.step(T:Trace G P ops E H V)(hlex:lexOK ops=true){n:Nat}(hB:ops.toList.all (operB G n)=true){p0:Phi}{w0:World}{listed:Array Bool}{p:Phi}{a:Act}{w:World}
  (D:DInv G ops E H V n p0 w0 listed p a w) {i:Nat} (hi:i∈Region.ready .any ops listed) {Q:Exit->Act->World->Prop} {K:Act->World->Prop}
  (hK: ∀p' a' w',DInv G ops E H V n p0 w0 (listed.setIfInBounds i true) p' a' w'->K a' w'):wpOp P ops Q i K a w:=by
 obtain⟨hun,o,ho,hedge⟩:=mem_ready.1 hi
 have hlt:i<ops.size:=(Array.getElem?_eq_some_iff.1 ho).1
 have hll:i<listed.size:=by rw[D.lsize];exact hlt
 have getD_eq: ∀j,j<ops.size->listed.getD j true=listed.getD j false:=fun j hj=>by
  have:j<listed.size:=by rw[D.lsize];exact hj
  simp[Array.getD,this]
 have hun':listed.getD i false=false:=by rw[←getD_eq i hlt];exact hun
 -- the operations that write what i looks at are done just where the text has them before i
 have same: ∀t,t∈o.looksAt ops∨o.dst=some t->∀k,k<ops.size->k≠i->((ops[k]?).bind (·.dst))=some t->listed.getD k false=decide (k<i):=by
  intro t ht k hk hki hd
  have hok:ops[k]? = some ops[k]:=Array.getElem?_eq_getElem hk
  rw[hok,Option.bind_some] at hd
  rcases lt_or_ge k i with h|h
  ·rw[decide_eq_true h]
   rcases lexOK_pair hlex h hok ho with⟨e,he,hb,hon⟩|hap
   ·rw[←hon];exact hedge e he hb
   ·obtain⟨h1,h2,h3⟩:=Oper.apart_spec hap
    rcases ht with ht|ht
    ·exact absurd ht (h1 t hd)
    ·exact absurd ht (h2 t hd)
  ·have hik:i<k:=by omega
   rw[decide_eq_false (by omega)]
   rcases lexOK_pair hlex hik ho hok with⟨e,he,hb,hon⟩|hap
   ·cases hl:listed.getD k false with
    | false=>rfl
    | true=>
     have:=D.closed k _ hok hl e he hb
     rw[hon,hun'] at this
     cases this
   ·obtain⟨h1,h2,h3⟩:=Oper.apart_spec hap
    rcases ht with ht|ht
    ·exact absurd ht (h3 t hd)
    ·exact absurd hd (h2 t ht)
 have hval: ∀t,t∈o.looksAt ops->holds ops E H V (fun i=>listed.getD i false) t ops.size=holds ops E H V (fun j=>decide (j<i)) t ops.size:=fun t ht=>
  holds_congr _ fun k hk hd=>by
   by_cases hki:k=i
   ·subst hki;simp[hun']
   ·exact same t (.inl ht) k hk hki hd
 have hrd: ∀t,t∈o.looksAt ops->VRel (cut p (H i).length) (E i t) (a.tmps.getD t undef):=fun t ht=>by
  have h1:=D.tv t
  rw[hval t ht] at h1
  obtain⟨h2,h3⟩:=holds_text T (t:=t) ops.size i (by omega) (le_refl _)
  rw[h2] at h1
  exact h1.mono (cut_mono (Phi.le_refl p) h3)
 have hoB:=all_eq_true.1 hB o (by have:=Array.mem_of_getElem? ho;simpa using this)
 simp only[operB,Bool.and_eq_true,Array.all_eq_true_iff_forall_mem] at hoB
 have hdn: ∀d,o.dst=some d->d<n:=fun d hd=>by have:=hoB.2;rw[hd] at this;simpa using this
 have hopd: ∀x∈o.op.operands,VRel (cut p (H i).length) (Opd.val (E i) x) (a.eval x):=fun x hx=>
  opd_rel (D.hr i (by omega)) (fun t ht=>hrd t (mem_append_left _ (List.mem_filterMap.2 ⟨x,by simpa using hx,by rw[ht]⟩))) (hoB.1 x hx)
 have hwt:Region.wanted o (yielded ops a.tmps)=wantedH ops o (E i):=wanted_rel fun g want t hg ht=>
  ⟨_,hrd t (List.mem_append_right _ (by simp[hg,ht]))⟩
 -- what is listed next
 have getD_set: ∀j,(listed.setIfInBounds i true).getD j false=if j=i then true else listed.getD j false:=fun j=>by
  by_cases hj:j=i
  ·subst hj;simp[Array.getD,hll]
  ·simp[Array.getD_eq_getD_getElem?,Array.getElem?_setIfInBounds_ne (Ne.symm hj),hj]
 have closed': ∀j oj,ops[j]? = some oj->(listed.setIfInBounds i true).getD j false=true->∀e∈oj.after,Region.binds .any e=true->(listed.setIfInBounds i true).getD e.on false=true:=by
  intro j oj hoj hl e he hb
  rw[getD_set] at hl ⊢
  by_cases hj:j=i
  ·subst hj
   rw[ho] at hoj;cases hoj
   split
   ·rfl
   ·exact hedge e he hb
  ·rw[if_neg hj] at hl
   split
   ·rfl
   ·exact D.closed j oj hoj hl e he hb
 -- the slots behind the step
 have tv': ∀(q:Phi) (v':Value),(∀m,m<=ops.size->(cut p (H m).length).le (cut q (H m).length))->(cut p (H 0).length).le (cut q (H 0).length)->p.le q->VRel (cut q (H (i+1)).length) (V i) v' →
   ∀t,VRel (cut q (holds ops E H V (fun j=>(listed.setIfInBounds i true).getD j false) t ops.size).2) (holds ops E H V (fun j=>(listed.setIfInBounds i true).getD j false) t ops.size).1 ((a.put o.dst v').tmps.getD t undef):=by
  intro q v' _ _ hle hv t
  by_cases hd:o.dst=some t
  ·have e1:holds ops E H V (fun j=>(listed.setIfInBounds i true).getD j false) t ops.size=holds ops E H V (fun j=>decide (j<i+1)) t ops.size:=holds_congr _ fun k hk hdk=>by
    rw[getD_set]
    by_cases hki:k=i
    ·subst hki;simp
    ·rw[if_neg hki,same t (.inr hd) k hk hki hdk]
     simp only[decide_eq_decide];omega
   obtain⟨e2,e3⟩:=holds_text T (t:=t) ops.size (i+1) (by omega) (le_refl _)
   rw[e1,e2]
   have e4:E (i+1) t=V i:=by rw[(T.step i o ho).1,hd];simp[put,upd]
   have e5:(holds ops E H V (fun j=>decide (j<i+1)) t ops.size).2=(H (i+1)).length:=by
    have: ∀k,i+1<=k->k<=ops.size->(holds ops E H V (fun j=>decide (j<i+1)) t k).2=(H (i+1)).length:=by
     intro k
     induction k with
     | zero=>intro h;omega
     | succ k ih=>
      intro h1 h2
      unfold holds
      rcases lt_or_ge k (i+1) with h|h
      ·have:k=i:=by omega
       subst this
       rw[if_pos ⟨by simp,by rw[ho];exact hd⟩]
      ·rw[if_neg (by simp;omega)]
       exact ih (by omega) (by omega)
    exact this ops.size (by omega) (le_refl _)
   rw[e4,e5]
   have e6:(a.put o.dst v').tmps.getD t undef=v':=by
    have:=D.asize
    have hn:=hdn t hd
    rw[hd]
    simp[Act.put,Array.getD,this,hn]
   rw[e6]
   exact hv
  ·have e1:holds ops E H V (fun j=>(listed.setIfInBounds i true).getD j false) t ops.size=holds ops E H V (fun j=>listed.getD j false) t ops.size:=holds_congr _ fun k hk hdk=>by
    rw[getD_set]
    by_cases hki:k=i
    ·subst hki
     rw[ho] at hdk
     exact absurd hdk hd
    ·rw[if_neg hki]
   rw[e1]
   have e2:(a.put o.dst v').tmps.getD t undef=a.tmps.getD t undef:=by
    cases hx:o.dst with
    | none=>rfl
    | some d=>
     have hne:d≠t:=fun c=>hd (by rw[hx,c])
     simp[Act.put,Array.getD_eq_getD_getElem?,Array.getElem?_setIfInBounds_ne hne]
   rw[e2]
   exact (D.tv t).mono (cut_mono hle (le_refl _))
 have asz: ∀v',(a.put o.dst v').tmps.size=n:=fun v'=>by cases o.dst<;>simp[Act.put,D.asize]
 have adf: ∀v',(a.put o.dst v').defers= []:=fun v'=>by cases o.dst<;>simp[Act.put,D.adef]
 unfold wpOp
 simp only[ho]
 rw[hwt]
 obtain⟨_,hst⟩:=T.step i o ho
 rcases hst with⟨hw,hs,hgrow⟩|⟨hw,hv,hH⟩
 ·rw[if_pos hw]
  refine .inl (hs (cut p (H i).length) a w (D.hr i (by omega)) hopd _ _ ?_)
  intro q v' w' hrq hvq ex
  replace hrq:=hrq.all
  -- the new map
  let r:Phi:=fun id=>if (H i).length<=id∧id<(H (i+1)).length then q id else p id
  have hpn: ∀id,(H i).length<=id->id<(H (i+1)).length->p id=none:=D.unborn i hlt hun'
  have hle:p.le r:=fun id t e=>by
   show (if _ then _ else _)=_
   split
   ·rename_i hc;rw[hpn id hc.1 hc.2] at e;cases e
   ·exact e
  have hqlow: ∀id,id<(H i).length->q id=p id:=fun id hid=>by
   cases hp:p id with
   | some t=>exact ex.le id t (by simp[cut,hid,hp])
   | none=>
    cases hq:q id with
    | none=>rfl
    | some t=>
     have:=(ex.new id t hq (by simp[cut,hid,hp])).1
     omega
  have hqdom: ∀id t,q id=some t->id<(H (i+1)).length:=fun id t e=>(hrq.dom id t e).1
  have hrcut:cut r (H (i+1)).length=q:=funext fun id=>by
   show (if _ then (if _ then _ else _) else _)=_
   split
   ·rename_i h1
    split
    ·rfl
    ·rename_i h2
     exact (hqlow id (by omega)).symm
   ·rename_i h1
    cases hq:q id with
    | none=>rfl
    | some t=>exact absurd (hqdom id t hq) h1
  have hkeep: ∀b,b<w.heap.size->w'.heap[b]? = w.heap[b]? := fun b hb=>ex.frame b hb (fun _ _ _ f=>f.elim)
  have hrlow: ∀m,m<=(H i).length->cut r m=cut p m:=fun m hm=>funext fun id=>by
   show (if _ then (if _ then _ else _) else _)=(if _ then _ else _)
   split
   ·rw[if_neg (by omega)]
   ·rfl
  refine hK r _ w' ⟨by simp[D.lsize],closed',asz v',adf v',tv' r v' (fun m _=>cut_mono hle (le_refl _)) (cut_mono hle (le_refl _)) hle (by rw[hrcut];exact hvq), ?_, ?_, ?_, ?_⟩
  ·intro k hk
   rcases lt_or_ge i k with h|h
   ·-- behind the step
    have hlen1:=T.len (i:=i+1) (k:=k) (by omega) hk
    have hlen0:=T.len (i:=i) (k:=i+1) (by omega) (by omega)
    have hold:=(D.hr k hk).kept ex.size hkeep
    have hup:(cut p (H k).length).le (cut r (H k).length):=cut_mono hle (le_refl _)
    have hqup:q.le (cut r (H k).length):=by rw[←hrcut];exact cut_mono (Phi.le_refl r) hlen1
    -- each id of the new map is an old one or a new one
    have hor: ∀id t,cut r (H k).length id=some t->(cut p (H k).length id=some t∧t.b<w.heap.size)∨(q id=some t∧(H i).length<=id∧id<(H (i+1)).length∧w.heap.size<=t.b):=by
     intro id t e
     unfold cut at e
     split at e
     ·rename_i h1
      change (if _ then _ else _)=_ at e
      split at e
      ·rename_i h2
       refine .inr ⟨e,h2.1,h2.2, ?_⟩
       have:=(ex.new id t e (by simp[cut,hpn id h2.1 h2.2])).2
       rcases this with h3|⟨_,_,_,_,f⟩
       ·exact h3
       ·exact f.elim
      ·have e':cut p (H k).length id=some t:=by simp[cut,h1,e]
       exact .inl ⟨e',((D.hr k hk).dom id t e').2⟩
     ·cases e
    have hst: ∀id,id<(H (i+1)).length->(H k)[id]? = (H (i+1))[id]? := T.grow (by omega) hk
    refine⟨fun g hg => ?_,fun id t e => ?_,fun id t kb _ e hb hdd => ?_,fun id t kb e hb => ?_,fun id id' t t' kb kb' e e' hb hb' hrw hdd htb => ?_⟩
    ·obtain⟨t,h1,h2⟩:=hold.glob g hg
     exact⟨t,hup _ _ h1,h2⟩
    ·rcases hor id t e with⟨e1,_⟩|⟨e1,_,e3,_⟩
     ·exact hold.dom id t e1
     ·exact⟨by omega,(hrq.dom id t e1).2⟩
    ·rcases hor id t e with⟨e1,_⟩|⟨e1,_,e3,_⟩
     ·obtain⟨x1,c,el,fr,x2,x3,x4,x5,x6⟩:=hold.blk id t kb trivial e1 hb hdd
      exact⟨x1,c,el,fr,x2,x3,x4,fun j v hj=>let ⟨v',y1,y2⟩:=x5 j v hj;⟨v',y1,y2.mono hup⟩,x6⟩
     ·rw[hst id e3] at hb
      obtain⟨x1,c,el,fr,x2,x3,x4,x5,x6⟩:=hrq.blk id t kb trivial e1 hb hdd
      exact⟨x1,c,el,fr,x2,x3,x4,fun j v hj=>let ⟨v',y1,y2⟩:=x5 j v hj;⟨v',y1,y2.mono hqup⟩,x6⟩
    ·rcases hor id t e with⟨e1,_⟩|⟨e1,_,e3,_⟩
     ·exact hold.esz id t kb e1 hb
     ·rw[hst id e3] at hb
      exact hrq.esz id t kb e1 hb
    ·rcases hor id t e with⟨e1,l1⟩|⟨e1,_,e3,l1⟩<;>rcases hor id' t' e' with⟨e1',l1'⟩|⟨e1',_,e3',l1'⟩
     ·exact hold.inj id id' t t' kb kb' e1 e1' hb hb' hrw hdd htb
     ·omega
     ·omega
     ·rw[hst id e3] at hb
      rw[hst id' e3'] at hb'
      exact hrq.inj id id' t t' kb kb' e1 e1' hb hb' hrw hdd htb
   ·rw[hrlow _ (T.len h (by omega))]
    exact (D.hr k hk).kept ex.size hkeep
  ·intro j hj hl id h1 h2
   rw[getD_set] at hl
   by_cases hji:j=i
   ·rw[if_pos hji] at hl;cases hl
   ·rw[if_neg hji] at hl
    show (if _ then _ else _)=_
    rw[if_neg]
    ·exact D.unborn j hj hl id h1 h2
    ·rintro⟨c1,c2⟩
     rcases lt_or_ge j i with h|h
     ·have:=T.len (i:=j+1) (k:=i) (by omega) (by omega);omega
     ·have:=T.len (i:=i+1) (k:=j) (by omega) (by omega);omega
  ·intro id t e
   change (if _ then _ else _)=_ at e
   split at e
   ·rename_i h1
    have:=T.len (i:=i+1) (k:=ops.size) (by omega) (le_refl _)
    omega
   ·exact D.dom id t e
  ·have x:=D.ext
   refine⟨Phi.le_trans x.le hle, ?_,x.len,fun b hb hno => ?_,le_trans x.size ex.size,ex.os.trans x.os,ex.tape.trans x.tape,ex.output.trans x.output⟩
   ·intro id t e en
    change (if _ then _ else _)=_ at e
    split at e
    ·rename_i h1
     have h2:=(ex.new id t e (by simp[cut,hpn id h1.1 h1.2])).2
     have h3:=T.len (i:=0) (k:=i) (by omega) (by omega)
     have h4:=x.size
     refine⟨by omega, ?_⟩
     rcases h2 with h2|⟨_,_,_,_,f⟩
     ·exact .inl (by omega)
     ·exact f.elim
    ·exact x.new id t e en
   ·rw[hkeep b (lt_of_lt_of_le hb x.size)]
    exact x.frame b hb hno
 ·rw[if_neg (by simp[hw])]
  refine hK p _ w ⟨by simp[D.lsize],closed',asz _,adf _,tv' p undef (fun m _=>Phi.le_refl _) (Phi.le_refl _) (Phi.le_refl _) (by rw[hv];exact VRel.undef _),D.hr, ?_,D.dom,D.ext⟩
  intro j hj hl id h1 h2
  rw[getD_set] at hl
  by_cases hji:j=i
  ·rw[if_pos hji] at hl;cases hl
  ·rw[if_neg hji] at hl
   exact D.unborn j hj hl id h1 h2
end
section
variable {G:List (Nat×Nat)} {P:Program} {ops:Array Oper} {E:Nat->Env} {H:Nat->Heap} {V:Nat->Value} {n:Nat}
theorem wpAny_of_dinv(T:Trace G P ops E H V)(hlex:lexOK ops=true)(hB:ops.toList.all (operB G n)=true){p0:Phi}{w0:World}{Q:Exit->Act->World->Prop}
  (hQ: ∀p a w,HRel G p (H ops.size) w->ERel p n (E ops.size) a->Ext (fun _=>False) p0 p (H 0) (H ops.size) w0 w->Q .normal a w) :
  ∀(fuel:Nat) (listed:Array Bool) (p:Phi) (a:Act) (w:World),DInv G ops E H V n p0 w0 listed p a w →
   listed.toList.count false<=fuel->wpAny P .any ops Q fuel listed a w:=by
 -- when nothing is ready,all is done
 have hend: ∀(listed:Array Bool) (p:Phi) (a:Act) (w:World),DInv G ops E H V n p0 w0 listed p a w->(∀k,k<ops.size->listed.getD k false=true)->Q .normal a w:=by
  intro listed p a w D hall
  have hcut:cut p (H ops.size).length=p:=cut_self D.dom
  have h1:=D.hr ops.size (le_refl _)
  rw[hcut] at h1
  refine hQ p a w h1 ⟨D.asize,D.adef,fun t => ?_⟩ D.ext
  have h2:=D.tv t
  have h3:holds ops E H V (fun i=>listed.getD i false) t ops.size=holds ops E H V (fun j=>decide (j<ops.size)) t ops.size:=holds_congr _ fun k hk _=>by rw[hall k hk];simp[hk]
  rw[h3,(holds_text T (t:=t) ops.size ops.size (le_refl _) (le_refl _)).1] at h2
  exact h2.mono (cut_le _ _)
 have hready: ∀(listed:Array Bool) (p:Phi) (a:Act) (w:World),DInv G ops E H V n p0 w0 listed p a w->Region.ready .any ops listed= []->∀k,k<ops.size->listed.getD k false=true:=by
  intro listed p a w D hr k
  induction k using Nat.strongRecOn with
  | _ k ih=>
   intro hk
   cases hl:listed.getD k false with
   | true=>rfl
   | false=>
    exfalso
    have hks:k<listed.size:=by rw[D.lsize];exact hk
    have:k∈Region.ready .any ops listed:=by
     refine mem_ready.2 ⟨by simpa[Array.getD,hks] using hl,ops[k],Array.getElem?_eq_getElem hk,fun e he hb => ?_⟩
     have h1:=lexOK_back hlex (Array.getElem?_eq_getElem hk) he hb
     exact ih e.on h1 (by omega)
    rw[hr] at this
    cases this
 intro fuel
 induction fuel with
 | zero=>
  intro listed p a w D hc
  have hall: ∀k,k<ops.size->listed.getD k false=true:=by
   intro k hk
   have hks:k<listed.size:=by rw[D.lsize];exact hk
   cases hl:listed.getD k false with
   | true=>rfl
   | false=>
    exfalso
    have h0:listed.toList.count false=0:=by omega
    have:false∈listed.toList:=by
     have e:listed[k]=false:=by simpa[Array.getD,hks] using hl
     rw[←e]
     simp
    rw[List.count_eq_zero] at h0
    exact h0 this
  refine⟨?_,hend listed p a w D hall⟩
  cases hr:Region.ready .any ops listed with
  | nil=>rfl
  | cons i r=>
   exfalso
   have hi:i∈Region.ready .any ops listed:=by rw[hr];simp
   obtain⟨h1,o,h2,_⟩:=mem_ready.1 hi
   have hk:=(Array.getElem?_eq_some_iff.1 h2).1
   have hks:i<listed.size:=by rw[D.lsize];exact hk
   have:=hall i hk
   simp[Array.getD,hks] at this h1
   rw[h1] at this
   cases this
 | succ fuel ih=>
  intro listed p a w D hc
  refine⟨fun hr=>hend listed p a w D (hready listed p a w D hr),fun i hi=>D.step T hlex hB hi fun p' a' w' D' => ?_⟩
  obtain⟨h1,o,h2,_⟩:=mem_ready.1 hi
  have hk:=(Array.getElem?_eq_some_iff.1 h2).1
  have hks:i<listed.size:=by rw[D.lsize];exact hk
  have hcount:(listed.setIfInBounds i true).toList.count false<=fuel:=by
   have e:listed[i]=false:=by simpa[Array.getD,hks] using h1
   have:=List.count_set (a:=true) (b:=false) (l:=listed.toList) (i:=i) (by simpa using hks)
   simp only[Array.getElem_toList,e] at this
   have e2:(if (false==false)=true then 1 else 0)=1:=rfl
   have e3:(if (true==false)=true then 1 else 0)=0:=rfl
   rw[e2,e3] at this
   rw[Array.toList_setIfInBounds,this]
   omega
  exact ih _ p' a' w' D' hcount
end
def HOpsX(G:List (Nat×Nat))(P:Program)(ops:Array Oper):List Oper->Env->Heap->(Env->Heap->Prop)->Prop
 | [],e,h,K=>K e h
 | o::os,e,h,K=>if wantedH ops o e then ∃v h',HStep G P o allT (fun _=>False) e h v h'∧h<+:h'∧HOpsX G P ops os (put e o.dst v) h' K
  else HOpsX G P ops os (put e o.dst undef) h K
section
variable {G:List (Nat×Nat)} {P:Program} {n:Nat} {ops:Array Oper}
theorem HOpsX.trace : ∀ (l : List Oper) (k : Nat) (e : Env) (h : Heap) (K : Env → Heap → Prop), HOpsX G P ops l e h K →
    ∃ (E : Nat → Env) (H : Nat → Heap) (V : Nat → Value), E k = e ∧ H k = h ∧ K (E (k + l.length)) (H (k + l.length)) ∧
      ∀ i o, l[i]? = some o → E (k + i + 1) = put (E (k + i)) o.dst (V (k + i)) ∧
        ((wantedH ops o (E (k + i)) = true ∧ HStep G P o allT (fun _ => False) (E (k + i)) (H (k + i)) (V (k + i)) (H (k + i + 1)) ∧ H (k + i) <+: H (k + i + 1)) ∨
         (wantedH ops o (E (k + i)) = false ∧ V (k + i) = undef ∧ H (k + i + 1) = H (k + i)))
  | [], k, e, h, K, hk => ⟨fun _ => e, fun _ => h, fun _ => undef, rfl, rfl, hk, fun i o hi => by simp at hi⟩
  | o :: os, k, e, h, K, hk => by
    have build : ∀ (v : Value) (h' : Heap), HOpsX G P ops os (put e o.dst v) h' K →
        ((wantedH ops o e = true ∧ HStep G P o allT (fun _ => False) e h v h' ∧ h <+: h') ∨ (wantedH ops o e = false ∧ v = undef ∧ h' = h)) →
        ∃ (E : Nat → Env) (H : Nat → Heap) (V : Nat → Value), E k = e ∧ H k = h ∧ K (E (k + (os.length + 1))) (H (k + (os.length + 1))) ∧
          ∀ i o1, (o :: os)[i]? = some o1 → E (k + i + 1) = put (E (k + i)) o1.dst (V (k + i)) ∧
            ((wantedH ops o1 (E (k + i)) = true ∧ HStep G P o1 allT (fun _ => False) (E (k + i)) (H (k + i)) (V (k + i)) (H (k + i + 1)) ∧ H (k + i) <+: H (k + i + 1)) ∨
             (wantedH ops o1 (E (k + i)) = false ∧ V (k + i) = undef ∧ H (k + i + 1) = H (k + i))) := by
      intro v h' hk' hs
      obtain ⟨E, H, V, h1, h2, h3, h4⟩ := HOpsX.trace os (k + 1) _ _ K hk'
      refine ⟨fun i => if i = k then e else E i, fun i => if i = k then h else H i, fun i => if i = k then v else V i, by simp, by simp, ?_, ?_⟩
      · have : k + (os.length + 1) ≠ k := by omega
        simp only [this, if_false]
        rw [show k + (os.length + 1) = k + 1 + os.length from by omega]
        exact h3
      · intro i o1 hi
        cases i with
        | zero =>
          simp only [getElem?_cons_zero, Option.some.injEq] at hi
          subst hi
          have : k + 1 ≠ k := by omega
          simp only [add_zero, this, if_false, if_true, h1, h2]
          exact ⟨trivial, hs⟩
        | succ i =>
          simp only [getElem?_cons_succ] at hi
          have e1 : k + (i + 1) ≠ k := by omega
          have e2 : k + (i + 1) + 1 ≠ k := by omega
          have := h4 i o1 hi
          simp only [e1, e2, if_false]
          rw [show k + (i + 1) = k + 1 + i from by omega]
          exact this
    unfold HOpsX at hk
    split at hk
    · rename_i hw
      obtain ⟨v, h', hs, hp, hk⟩ := hk
      exact build v h' hk (.inl ⟨hw, hs, hp⟩)
    · rename_i hw
      exact build undef h hk (.inr ⟨by simpa using hw, rfl, rfl⟩)
theorem prefix_get{α:Type}{a b:List α}(h:a<+:b)(i:Nat)(hi:i<a.length):b[i]? = a[i]? := by
 obtain⟨t,rfl⟩:=h
 rw[getElem?_append_left hi]
theorem HWp.region_draw{id:Nat}{M:Nat->Prop}{Q:Exit->Env->Heap->Prop}{e:Env}{h:Heap}(hm:P.follows .mixedOrders=true)(hlex:lexOK ops=true)(hB:ops.toList.all (operB G n)=true)
  (hh:HOpsX G P ops ops.toList e h (fun e' h'=>Q .normal e' h')):HWp G P n M (.region id ops true) Q e h:=by
 obtain⟨E,H,V,h1,h2,h3,h4⟩:=HOpsX.trace ops.toList 0 e h _ hh
 have T:Trace G P ops E H V:=⟨fun i o hi=>by
  have:=h4 i o (by simpa using hi)
  simp only[zero_add] at this
  exact⟨this.1,this.2.imp (fun⟨a,b,c⟩=>⟨a,b,prefix_get c⟩) (fun x=>x)⟩⟩
 simp only[zero_add,Array.length_toList] at h3
 refine⟨.normal,E ops.size,H ops.size,fun p a w hr er => ?_,h3⟩
 refine wp_region_any hm (wpAny_of_dinv T hlex hB (p0:=p) (w0:=w) ?_ ops.size _ p a _ ⟨by simp, ?_,er.size,er.defers, ?_, ?_, ?_, ?_, ?_⟩ ?_)
 ·intro q a' w' hr' er' ex
  rw[h2] at ex
  exact⟨rfl,q,hr',er',ex.weaken (fun id t e=>(hr.dom id t e).1) (fun _ _ f=>f.elim)⟩
 ·intro i o _ hl
  simp[Array.getD_eq_getD_getElem?] at hl
  have:(Array.replicate ops.size false)[i]?.getD false=false:=by
   rw[Array.getElem?_replicate];split<;>rfl
  rw[this] at hl
  cases hl
 ·intro t
  have hz: ∀k,holds ops E H V (fun i=>(Array.replicate ops.size false).getD i false) t k=(E 0 t,(H 0).length):=by
   intro k
   induction k with
   | zero=>rfl
   | succ k ih=>
    unfold holds
    rw[if_neg,ih]
    rintro⟨hc,_⟩
    rw[Array.getD_eq_getD_getElem?,Array.getElem?_replicate] at hc
    split at hc<;>cases hc
  rw[hz]
  simp only[h1,h2]
  rw[cut_self (fun id t e=>(hr.dom id t e).1)]
  exact er.val t
 ·intro k hk
  have hl:=T.len (i:=0) (k:=k) (by omega) hk
  rw[h2] at hl
  rw[cut_self (fun id t e=>lt_of_lt_of_le (hr.dom id t e).1 hl)]
  have hg:=T.grow (i:=0) (k:=k) (by omega) hk
  rw[h2] at hg
  have hr2:=hr.drew
  refine⟨hr2.glob,fun id t e=>⟨lt_of_lt_of_le (hr2.dom id t e).1 hl,(hr2.dom id t e).2⟩,fun id t kb tt e hb => ?_,fun id t kb e hb => ?_,fun id id' t t' kb kb' e e' hb hb' => ?_⟩
  ·rw[hg id (hr.dom id t e).1] at hb
   exact hr2.blk id t kb tt e hb
  ·rw[hg id (hr.dom id t e).1] at hb
   exact hr2.esz id t kb e hb
  ·rw[hg id (hr.dom id t e).1] at hb
   rw[hg id' (hr.dom id' t' e').1] at hb'
   exact hr2.inj id id' t t' kb kb' e e' hb hb'
 ·intro i hi _ id h5 _
  have hl:=T.len (i:=0) (k:=i) (by omega) (by omega)
  rw[h2] at hl
  cases hp:p id with
  | none=>rfl
  | some t=>have:=(hr.dom id t hp).1;omega
 ·intro id t e
  have hl:=T.len (i:=0) (k:=ops.size) (by omega) (le_refl _)
  rw[h2] at hl
  exact lt_of_lt_of_le (hr.dom id t e).1 hl
 ·have hl:=T.len (i:=0) (k:=ops.size) (by omega) (le_refl _)
  rw[h2] at hl ⊢
  exact⟨Phi.le_refl p,fun id t e e'=>(by rw[e] at e';cases e'),hl,fun _ _ _=>rfl,le_refl _,rfl,rfl,rfl⟩
 ·simp
end
section
variable {G:List (Nat×Nat)} {P:Program} {ops:Array Oper} {E:Nat->Env} {H:Nat->Heap} {V:Nat->Value} {n:Nat}
theorem DInv.done(T:Trace G P ops E H V){p0:Phi}{w0:World}{listed:Array Bool}{p:Phi}{a:Act}{w:World}(D:DInv G ops E H V n p0 w0 listed p a w)(hall: ∀k,k<ops.size->listed.getD k false=true) :
  HRel G p (H ops.size) w∧ERel p n (E ops.size) a:=by
 have hcut:cut p (H ops.size).length=p:=cut_self D.dom
 have h1:=D.hr ops.size (le_refl _)
 rw[hcut] at h1
 refine⟨h1,⟨D.asize,D.adef,fun t => ?_⟩⟩
 have h2:=D.tv t
 have h3:holds ops E H V (fun i=>listed.getD i false) t ops.size=holds ops E H V (fun j=>decide (j<ops.size)) t ops.size:=holds_congr _ fun k hk _=>by rw[hall k hk];simp[hk]
 rw[h3,(holds_text T (t:=t) ops.size ops.size (le_refl _) (le_refl _)).1] at h2
 exact h2.mono (cut_le _ _)
theorem DInv.ready(hlex:lexOK ops=true){p0:Phi}{w0:World}{listed:Array Bool}{p:Phi}{a:Act}{w:World}(D:DInv G ops E H V n p0 w0 listed p a w)(hr:Region.ready .any ops listed= []): ∀k,k<ops.size->listed.getD k false=true:=by
 intro k
 induction k using Nat.strongRecOn with
 | _ k ih=>
  intro hk
  cases hl:listed.getD k false with
  | true=>rfl
  | false=>
   exfalso
   have hks:k<listed.size:=by rw[D.lsize];exact hk
   have:k∈Region.ready .any ops listed:=by
    refine mem_ready.2 ⟨by simpa[Array.getD,hks] using hl,ops[k],Array.getElem?_eq_getElem hk,fun e he hb => ?_⟩
    have h1:=lexOK_back hlex (Array.getElem?_eq_getElem hk) he hb
    exact ih e.on h1 (by omega)
   rw[hr] at this
   cases this
end
def head(ops:Array Oper)(n:Nat):Array Oper:=(ops.toList.take n).toArray
theorem head_get{ops:Array Oper}{n i:Nat}(hi:i<n):(head ops n)[i]? = ops[i]? := by
 simp[head,getElem?_take,hi]
theorem head_size{ops:Array Oper}{n:Nat}(hn:n<=ops.size):(head ops n).size=n:=by simp[head,hn]
def guardIn(n:Nat)(o:Oper):Bool:=match o.guard with
 | some (g,_)=>decide (g<n)
 | none=>true
theorem wanted_head{ops:Array Oper}{n:Nat}{o:Oper}(hg:guardIn n o=true)(tmps:Array Value):Region.wanted o (yielded (head ops n) tmps)=Region.wanted o (yielded ops tmps):=by
 unfold Region.wanted
 unfold guardIn at hg
 cases hq:o.guard with
 | none=>rfl
 | some gw=>
  obtain⟨g,want⟩:=gw
  rw[hq] at hg
  simp only at hg ⊢
  unfold yielded
  rw[head_get (by simpa using hg)]
theorem wantedH_head{ops:Array Oper}{n:Nat}{o:Oper}(hg:guardIn n o=true)(e:Env):wantedH (head ops n) o e=wantedH ops o e:=by
 unfold wantedH
 unfold guardIn at hg
 cases hq:o.guard with
 | none=>rfl
 | some gw=>
  obtain⟨g,want⟩:=gw
  rw[hq] at hg
  simp only at hg ⊢
  rw[head_get (by simpa using hg)]
theorem wpOp_head{P:Program}{ops:Array Oper}{n i:Nat}{o:Oper}(hi:i<n)(ho:ops[i]? = some o)(hg:guardIn n o=true){Q:Exit->Act->World->Prop}{K:Act->World->Prop}{a:Act}{w:World}
  (h:wpOp P (head ops n) Q i K a w):wpOp P ops Q i K a w:=by
 unfold wpOp at *
 rw[head_get hi,ho] at h
 rw[ho]
 simp only at h ⊢
 rw[wanted_head hg] at h
 exact h
def longer(listed:Array Bool)(g:Nat):Array Bool:=listed++Array.replicate g false
theorem longer_in{listed:Array Bool}{g j:Nat}{b:Bool}(hj:j<listed.size):(longer listed g).getD j b=listed.getD j b:=by
 simp[longer,Array.getD_eq_getD_getElem?,Array.getElem?_append,hj]
theorem longer_out{listed:Array Bool}{g j:Nat}(hj:listed.size<=j):(longer listed g).getD j false=false:=by
 rw[longer,Array.getD_eq_getD_getElem?,Array.getElem?_append_right hj,Array.getElem?_replicate]
 split<;>rfl
theorem longer_out2{listed:Array Bool}{g j:Nat}(hj:listed.size<=j)(hg:j<listed.size+g):(longer listed g).getD j true=false:=by
 rw[longer,Array.getD_eq_getD_getElem?,Array.getElem?_append_right hj,Array.getElem?_replicate,if_pos (by omega)]
 rfl
theorem longer_set{listed:Array Bool}{g i:Nat}{b:Bool}(hi:i<listed.size):(longer listed g).setIfInBounds i b=longer (listed.setIfInBounds i b) g:=by
 simp[longer,Array.setIfInBounds_append,hi]
def tailOK(ops:Array Oper)(n:Nat):Bool:=
 decide (n<ops.size)&&(lexOK (head ops n)&&(Region.sinkB .any ops n&&(Region.chainB .any ops n &&
  (Region.seqB .any ops (ops.size-n) n (longer (Array.replicate n true) (ops.size-n))&&(ops.toList.take n).all (guardIn n)))))
theorem wpAny_of_seqOps{P:Program}{ops:Array Oper}{Q:Exit->Act->World->Prop}: ∀(g k:Nat) (listed:Array Bool) (a:Act) (w:World),
  Region.seqB .any ops g k listed=true->wpOps P ops Q (List.range' k g) a w->wpAny P .any ops Q g listed a w
 | 0,_,_,_,_,hB,h=>⟨by simpa[Region.seqB] using hB,h⟩
 | g+1,k,listed,a,w,hB,h=>by
  simp only[Region.seqB,Bool.and_eq_true,decide_eq_true_eq] at hB
  refine⟨fun h1=>(by rw[hB.1] at h1;cases h1),fun i hi => ?_⟩
  rw[hB.1] at hi
  have hik:i=k:=by simpa using hi
  subst hik
  rw[List.range'_succ,wpOps_cons] at h
  exact wpOp_mono (fun a' w' h'=>wpAny_of_seqOps g (i+1) _ a' w' hB.2 h') h
section
variable {G:List (Nat×Nat)} {P:Program} {ops:Array Oper} {E:Nat->Env} {H:Nat->Heap} {V:Nat->Value} {nt:Nat}
theorem wpAny_of_head2{n g:Nat}(hsz:ops.size=n+g)(hg0:0<g)(T:Trace G P (head ops n) E H V)(hlex:lexOK (head ops n)=true)(hB:(head ops n).toList.all (operB G nt)=true)
  (hs:Region.sinkB .any ops n=true) (hc:Region.chainB .any ops n=true) (hgd:(ops.toList.take n).all (guardIn n)=true) {p0:Phi} {w0:World} {Q:Exit->Act->World->Prop}
  (hQ: ∀p a w,HRel G p (H n) w->ERel p nt (E n) a->Ext (fun _=>False) p0 p (H 0) (H n) w0 w->wpAny P .any ops Q g (longer (Array.replicate n true) g) a w) :
  ∀(fuel:Nat) (listed:Array Bool) (p:Phi) (a:Act) (w:World),DInv G (head ops n) E H V nt p0 w0 listed p a w →
   listed.toList.count false=fuel->wpAny P .any ops Q (fuel+g) (longer listed g) a w:=by
 have hhs:(head ops n).size=n:=head_size (by omega)
 have sub: ∀(listed:Array Bool),listed.size=n->∀i,i<n->i∈Region.ready .any (head ops n) listed->i∈Region.ready .any ops (longer listed g):=by
  intro listed hl i hi hr
  obtain⟨h1,o,h2,h3⟩:=mem_ready.1 hr
  refine mem_ready.2 ⟨by rw[longer_in (by omega)];exact h1,o,by rw[←head_get hi];exact h2,fun e he hb => ?_⟩
  have h4:=h3 e he hb
  rcases lt_or_ge e.on listed.size with h5|h5
  ·rw[longer_in h5];exact h4
  ·rw[Array.getD_eq_getD_getElem?,Array.getElem?_eq_none h5] at h4;cases h4
 have sup: ∀(listed:Array Bool),listed.size=n->∀i,i<n->i∈Region.ready .any ops (longer listed g)->i∈Region.ready .any (head ops n) listed:=by
  intro listed hl i hi hr
  obtain⟨h1,o,h2,h3⟩:=mem_ready.1 hr
  refine mem_ready.2 ⟨by rw[←longer_in (g:=g) (by omega)];exact h1,o,by rw[head_get hi];exact h2,fun e he hb => ?_⟩
  have h4:=h3 e he hb
  rcases lt_or_ge e.on listed.size with h5|h5
  ·rw[←longer_in (g:=g) h5];exact h4
  ·rw[longer_out h5] at h4;cases h4
 intro fuel
 induction fuel with
 | zero=>
  intro listed p a w D hcnt
  have hall: ∀k,k<(head ops n).size->listed.getD k false=true:=by
   intro k hk
   have hks:k<listed.size:=by rw[D.lsize];exact hk
   cases hl:listed.getD k false with
   | true=>rfl
   | false=>
    exfalso
    have:false∈listed.toList:=by
     have e:listed[k]=false:=by simpa[Array.getD,hks] using hl
     rw[←e]
     simp
    rw[List.count_eq_zero] at hcnt
    exact hcnt this
  obtain⟨h1,h2⟩:=D.done T hall
  have hle:listed=Array.replicate n true:=by
   refine Array.ext (by rw[D.lsize,hhs];simp) fun i hi1 hi2 => ?_
   have:=hall i (by rw[←D.lsize];exact hi1)
   simpa[Array.getD,hi1] using this
  have h3:=D.ext
  rw[hhs] at h1 h2 h3
  rw[hle,zero_add]
  exact hQ p a w h1 h2 h3
 | succ fuel ih=>
  intro listed p a w D hcnt
  have hls:listed.size=n:=by rw[D.lsize,hhs]
  obtain⟨i0,hi0,hu0⟩: ∃i0,i0<n∧listed.getD i0 true=false:=by
   have:false∈listed.toList:=by
    rw[←List.count_pos_iff];omega
   obtain⟨i0,hi0,e⟩:=mem_iff_getElem.1 this
   have hi0':i0<listed.size:=by simpa using hi0
   exact⟨i0,by omega,by simpa[Array.getD,hi0'] using e⟩
  have inv:HeadInv .any ops n (longer listed g):=by
   refine⟨by simp[longer,hls,hsz],fun j oj hj hl e he hb => ?_,fun t ht ht'=>longer_out2 (by omega) (by omega)⟩
   rcases lt_or_ge j listed.size with h5|h5
   ·rw[longer_in h5] at hl
    have:=D.closed j oj (by rw[head_get (by omega)];exact hj) hl e he hb
    rcases lt_or_ge e.on listed.size with h6|h6
    ·rw[longer_in h6];exact this
    ·rw[Array.getD_eq_getD_getElem?,Array.getElem?_eq_none h6] at this;cases this
   ·rw[longer_out h5] at hl;cases hl
  rw[show fuel+1+g=(fuel+g)+1 by omega]
  refine⟨fun hr => ?_,fun i hi => ?_⟩
  ·exfalso
   have hr2:Region.ready .any (head ops n) listed= []:=by
    cases hx:Region.ready .any (head ops n) listed with
    | nil=>rfl
    | cons i r=>
     exfalso
     have hi:i∈Region.ready .any (head ops n) listed:=by rw[hx];simp
     have hin:i<n:=by
      obtain⟨_,o,h2,_⟩:=mem_ready.1 hi
      have:=(Array.getElem?_eq_some_iff.1 h2).1
      omega
     have:=sub listed hls i hin hi
     rw[hr] at this
     cases this
   have:=D.ready hlex hr2 i0 (by omega)
   have hx:i0<listed.size:=by omega
   simp[Array.getD,hx] at this hu0
   rw[this] at hu0;cases hu0
  ·have hin:i<n:=by
    rcases lt_or_ge i n with h|h
    ·exact h
    ·exact absurd hi (tail_waits hs hc (by omega) inv _ i0 rfl hi0 (by rw[longer_in (by omega)];exact hu0) i h)
   have hiA:=sup listed hls i hin hi
   obtain⟨h1,o,h2,_⟩:=mem_ready.1 hi
   have hgo:guardIn n o=true:=by
    refine all_eq_true.1 hgd o ?_
    have:(ops.toList.take n)[i]? = some o:=by rw[List.getElem?_take_of_lt hin];simpa using h2
    exact mem_of_getElem? this
   refine wpOp_head hin h2 hgo (D.step T hlex hB hiA fun p' a' w' D' => ?_)
   rw[longer_set (by omega)]
   refine ih _ p' a' w' D' ?_
   have hks:i<listed.size:=by omega
   have e:listed[i]=false:=by
    rw[longer_in hks] at h1
    simpa[Array.getD,hks] using h1
   have:=List.count_set (a:=true) (b:=false) (l:=listed.toList) (i:=i) (by simpa using hks)
   simp only[Array.getElem_toList,e] at this
   have e2:(if (false==false)=true then 1 else 0)=1:=rfl
   have e3:(if (true==false)=true then 1 else 0)=0:=rfl
   rw[e2,e3] at this
   rw[Array.toList_setIfInBounds,this]
   omega
end
section
variable {G:List (Nat×Nat)} {P:Program} {n:Nat} {ops:Array Oper}
theorem HWp.region_tail{id:Nat}{M:Nat->Prop}{Q:Exit->Env->Heap->Prop}{e:Env}{h:Heap}{m:Nat}(hm:P.follows .mixedOrders=true)(ht:tailOK ops m=true)(hB:ops.toList.all (operB G n)=true)
  (hh:HOpsX G P ops (ops.toList.take m) e h (fun e1 h1=>HOps G P n M ops (ops.toList.drop m) e1 h1 (fun e' h'=>Q .normal e' h'))):HWp G P n M (.region id ops true) Q e h:=by
 simp only[tailOK,Bool.and_eq_true,decide_eq_true_eq] at ht
 obtain⟨hmlt,hlex,hs,hc,hseq,hgd⟩:=ht
 obtain⟨E,H,V,h1,h2,h3,h4⟩:=HOpsX.trace (ops.toList.take m) 0 e h _ hh
 have hhs:(head ops m).size=m:=head_size (by omega)
 have hlen:(ops.toList.take m).length=m:=by simp;omega
 simp only[zero_add,hlen] at h3
 obtain⟨e2,hp2,hrun,hfin⟩:=OpsRun.of_hops _ _ _ _ h3
 have hBt:(ops.toList.drop m).all (operB G n)=true:=all_eq_true.2 fun o ho=>all_eq_true.1 hB o (List.mem_of_mem_drop ho)
 have hBh:(head ops m).toList.all (operB G n)=true:=all_eq_true.2 fun o ho=>all_eq_true.1 hB o (by simp[head] at ho;exact Array.mem_toList_iff.2 (by simpa using List.mem_of_mem_take ho))
 have T:Trace G P (head ops m) E H V:=⟨fun i o hi=>by
  have him:i<m:=by
   have:=(Array.getElem?_eq_some_iff.1 hi).1
   omega
  rw[head_get him] at hi
  have hi2:(ops.toList.take m)[i]? = some o:=by rw[List.getElem?_take_of_lt him];simpa using hi
  have:=h4 i o hi2
  simp only[zero_add] at this
  have hgo:guardIn m o=true:=all_eq_true.1 hgd o (mem_of_getElem? hi2)
  rw[←wantedH_head hgo] at this
  exact⟨this.1,this.2.imp (fun⟨a,b,c⟩=>⟨a,b,prefix_get c⟩) (fun x=>x)⟩⟩
 refine⟨.normal,e2,hp2,fun p a w hr er => ?_,hfin⟩
 refine wp_region_any hm ?_
 have e0:Array.replicate ops.size false=longer (Array.replicate m false) (ops.size-m):=by
  rw[longer,Array.replicate_append_replicate];congr 1;omega
 rw[e0]
 have hsz:ops.size=m+(ops.size-m):=by omega
 have goal:=wpAny_of_head2 (Q:=fun x1 a' w'=>x1=Exit.normal∧∃q,HRel G q hp2 w'∧ERel q n e2 a'∧Ext M p q h hp2 w w') hsz (by omega) T hlex hBh hs hc hgd (p0:=p) (w0:=w) ?_ m (Array.replicate m false) p a {w with drawn:=w.drawn+1} ⟨by simp[hhs], ?_,er.size,er.defers, ?_, ?_, ?_, ?_, ?_⟩ ?_
 ·rw[←hsz] at goal;exact goal
 ·intro q a' w' hr' er' ex
  rw[h2] at ex
  refine wpAny_of_seqOps _ _ _ _ _ hseq ?_
  have hl:(ops.toList.drop m).length=ops.size-m:=by simp
  have:=OpsRun.sound (Q:=fun x1 a' w'=>x1=Exit.normal∧∃q,HRel G q hp2 w'∧ERel q n e2 a'∧Ext M p q h hp2 w w') (ops.toList.drop m) m (E m) (H m) e2 hp2 hrun (by intro j;simp) hBt q a' w' hr' er' (fun q2 a2 w2 hr2 er2 ex2=>⟨rfl,q2,hr2,er2,(ex.weaken (fun id t e=>(hr.dom id t e).1) (fun _ _ f=>f.elim)).trans ex2⟩)
  rw[hl] at this
  exact this
 ·intro i o _ hl
  simp[Array.getD_eq_getD_getElem?] at hl
  have:(Array.replicate m false)[i]?.getD false=false:=by
   rw[Array.getElem?_replicate];split<;>rfl
  rw[this] at hl
  cases hl
 ·intro t
  have hz: ∀k,holds (head ops m) E H V (fun i=>(Array.replicate m false).getD i false) t k=(E 0 t,(H 0).length):=by
   intro k
   induction k with
   | zero=>rfl
   | succ k ih=>
    unfold holds
    rw[if_neg,ih]
    rintro⟨hc,_⟩
    rw[Array.getD_eq_getD_getElem?,Array.getElem?_replicate] at hc
    split at hc<;>cases hc
  rw[hz]
  simp only[h1,h2]
  rw[cut_self (fun id t e=>(hr.dom id t e).1)]
  exact er.val t
 ·intro k hk
  have hl:=T.len (i:=0) (k:=k) (by omega) hk
  rw[h2] at hl
  rw[cut_self (fun id t e=>lt_of_lt_of_le (hr.dom id t e).1 hl)]
  have hg:=T.grow (i:=0) (k:=k) (by omega) hk
  rw[h2] at hg
  have hr2:=hr.drew
  refine⟨hr2.glob,fun id t e=>⟨lt_of_lt_of_le (hr2.dom id t e).1 hl,(hr2.dom id t e).2⟩,fun id t kb tt e hb => ?_,fun id t kb e hb => ?_,fun id id' t t' kb kb' e e' hb hb' => ?_⟩
  ·rw[hg id (hr.dom id t e).1] at hb
   exact hr2.blk id t kb tt e hb
  ·rw[hg id (hr.dom id t e).1] at hb
   exact hr2.esz id t kb e hb
  ·rw[hg id (hr.dom id t e).1] at hb
   rw[hg id' (hr.dom id' t' e').1] at hb'
   exact hr2.inj id id' t t' kb kb' e e' hb hb'
 ·intro i hi _ id h5 _
  have hl:=T.len (i:=0) (k:=i) (by omega) (by omega)
  rw[h2] at hl
  cases hp:p id with
  | none=>rfl
  | some t=>have:=(hr.dom id t hp).1;omega
 ·intro id t e
  have hl:=T.len (i:=0) (k:=(head ops m).size) (by omega) (le_refl _)
  rw[h2] at hl
  exact lt_of_lt_of_le (hr.dom id t e).1 hl
 ·have hl:=T.len (i:=0) (k:=(head ops m).size) (by omega) (le_refl _)
  rw[h2] at hl ⊢
  exact⟨Phi.le_refl p,fun id t e e'=>(by rw[e] at e';cases e'),hl,fun _ _ _=>rfl,le_refl _,rfl,rfl,rfl⟩
 ·simp
end
def Sub(h h':Heap):Prop:=h.length<=h'.length∧∀(id:Nat) (k:Blk),h[id]? = some k->∃k',h'[id]? = some k'∧(k'=k∨(k'.st = .dead∧k'.esz=k.esz))
theorem Sub.refl(h:Heap):Sub h h:=⟨le_refl _,fun _ k e=>⟨k,e, .inl rfl⟩⟩
theorem Sub.trans{h h1 h2:Heap}(a:Sub h h1)(b:Sub h1 h2):Sub h h2:=
 ⟨le_trans a.1 b.1,fun id k e=>by
  obtain⟨k1,e1,c1⟩:=a.2 id k e
  obtain⟨k2,e2,c2⟩:=b.2 id k1 e1
  refine⟨k2,e2, ?_⟩
  rcases c1 with rfl|⟨c1,d1⟩
  ·exact c2
  ·rcases c2 with rfl|⟨c2,d2⟩
   ·exact .inr ⟨c1,d1⟩
   ·exact .inr ⟨c2,d2.trans d1⟩⟩
theorem Sub.grow{h h':Heap}(hl:h.length<=h'.length)(hg: ∀id,id<h.length->h'[id]? = h[id]?):Sub h h':=
 ⟨hl,fun id k e=>⟨k,by rw[hg id (List.getElem?_eq_some_iff.1 e).1];exact e, .inl rfl⟩⟩
theorem Sub.pre{h h':Heap}(hp:h<+:h'):Sub h h':=by
 obtain⟨t,rfl⟩:=hp
 exact .grow (by simp) fun id hi=>getElem?_append_left hi
theorem Sub.alive{h h':Heap}(s:Sub h h'){id:Nat}{k:Blk}(hi:id<h.length)(hk:h'[id]? = some k)(hd:k.st ≠ .dead):h[id]? = some k:=by
 obtain⟨k',e,c⟩:=s.2 id h[id] (getElem?_eq_getElem hi)
 rw[hk] at e
 cases e
 rcases c with rfl|⟨c,_⟩
 ·exact getElem?_eq_getElem hi
 ·exact absurd c hd
theorem Sub.esz{h h':Heap}(s:Sub h h'){id:Nat}{k:Blk}(hi:id<h.length)(hk:h'[id]? = some k): ∃k0,h[id]? = some k0∧k.esz=k0.esz:=by
 obtain⟨k',e,c⟩:=s.2 id h[id] (getElem?_eq_getElem hi)
 rw[hk] at e
 cases e
 refine⟨_,getElem?_eq_getElem hi, ?_⟩
 rcases c with rfl|⟨_,c⟩
 ·rfl
 ·exact c
theorem Sub.kill{h t:Heap}{id:Nat}{k:Blk}(hk:h[id]? = some k):Sub h (h.set id ⟨k.cells,k.esz, .dead⟩++t):=by
 have hl:=(List.getElem?_eq_some_iff.1 hk).1
 refine⟨by simp,fun j kj ej => ?_⟩
 have hj:=(List.getElem?_eq_some_iff.1 ej).1
 rw[getElem?_append_left (by simpa using hj),List.getElem?_set]
 by_cases h1:id=j
 ·subst h1
  rw[hk] at ej;cases ej
  exact⟨⟨k.cells,k.esz, .dead⟩,by rw[if_pos rfl,if_pos hl], .inr ⟨rfl,rfl⟩⟩
 ·exact⟨kj,by rw[if_neg h1];exact ej, .inl rfl⟩
def killOp:Op->Bool
 | .call c=>match c.callee with
  | .builtin .append=>true
  | _=>false
 | _=>false
def kill(o:Oper):Bool:=killOp o.op
def waitsB(ops:Array Oper):Nat->Nat->Nat->Bool
 | 0,_,_=>false
 | f+1,i,j=>match ops[i]? with
  | none=>false
  | some o=>o.after.any (fun e=>Region.binds .any e&&e.on==j)||o.after.any (fun e=>Region.binds .any e&&waitsB ops f e.on j)
def killOK(ops:Array Oper):Bool:=lexOK ops&&(List.range ops.size).all fun i=>match ops[i]? with
 | none=>true
 | some o => !kill o||(List.range i).all fun j=>waitsB ops 8 i j
section
variable {ops:Array Oper} {listed:Array Bool}
theorem waits_listed(hc: ∀i o,ops[i]? = some o->listed.getD i false=true->∀e∈o.after,Region.binds .any e=true->listed.getD e.on false=true) :
  ∀(f i j:Nat) (o:Oper),ops[i]? = some o->(∀e∈o.after,Region.binds .any e=true->listed.getD e.on false=true)->waitsB ops f i j=true->listed.getD j false=true
 | 0,i,j,o,_,_,hw=>by simp[waitsB] at hw
 | f+1,i,j,o,ho,hr,hw=>by
  unfold waitsB at hw
  rw[ho] at hw
  simp only[Bool.or_eq_true] at hw
  rcases hw with hw|hw
  ·simp only[Array.any_eq_true,Bool.and_eq_true,beq_iff_eq] at hw
   obtain⟨x,hx,hb,hj⟩:=hw
   rw[←hj]
   exact hr _ (Array.getElem_mem hx) hb
  ·simp only[Array.any_eq_true,Bool.and_eq_true] at hw
   obtain⟨x,hx,hb,hj⟩:=hw
   have hl:=hr _ (Array.getElem_mem hx) hb
   cases ho2:ops[(o.after[x]).on]? with
   | none=>
    cases f with
    | zero=>simp[waitsB] at hj
    | succ f=>unfold waitsB at hj;rw[ho2] at hj;simp at hj
   | some o2=>exact waits_listed hc f _ j o2 ho2 (hc _ o2 ho2 hl) hj
end
theorem killOK_spec{ops:Array Oper}(h:killOK ops=true):lexOK ops=true∧∀i o,ops[i]? = some o->kill o=true->∀j,j<i->waitsB ops 8 i j=true:=by
 unfold killOK at h
 rw[Bool.and_eq_true] at h
 refine⟨h.1,fun i o ho hk j hj => ?_⟩
 have hlt:=(Array.getElem?_eq_some_iff.1 ho).1
 have:=all_eq_true.1 h.2 i (mem_range.2 hlt)
 rw[ho] at this
 simp only[hk,Bool.not_true,Bool.false_or] at this
 exact all_eq_true.1 this j (mem_range.2 hj)
structure TraceK (G : List (Nat × Nat)) (P : Program) (M : Nat → Prop) (ops : Array Oper) (E : Nat → Env) (H : Nat → Heap) (V : Nat → Value) : Prop where
  step : ∀ i o, ops[i]? = some o → E (i + 1) = put (E i) o.dst (V i) ∧
    ((wantedH ops o (E i) = true ∧ Sub (H i) (H (i + 1)) ∧ ((kill o = false ∧ HStep G P o allT (fun _ => False) (E i) (H i) (V i) (H (i + 1)) ∧ ∀ id, id < (H i).length → (H (i + 1))[id]? = (H i)[id]?) ∨
        (kill o = true ∧ HStep G P o allT M (E i) (H i) (V i) (H (i + 1))))) ∨
     (wantedH ops o (E i) = false ∧ V i = undef ∧ H (i + 1) = H i))
section
variable {G:List (Nat×Nat)} {P:Program} {M:Nat->Prop} {ops:Array Oper} {E:Nat->Env} {H:Nat->Heap} {V:Nat->Value}
theorem TraceK.sub (T : TraceK G P M ops E H V) {i k : Nat} (hik : i ≤ k) (hk : k ≤ ops.size) : Sub (H i) (H k) := by
  induction k with
  | zero => have : i = 0 := by omega
            subst this; exact Sub.refl _
  | succ k ih =>
    rcases lt_or_ge i (k + 1) with h | h
    · have hlt : k < ops.size := by omega
      refine (ih (by omega) (by omega)).trans ?_
      obtain ⟨_, h2⟩ := T.step k ops[k] (Array.getElem?_eq_getElem hlt)
      rcases h2 with ⟨_, h2, _⟩ | ⟨_, _, h2⟩
      · exact h2
      · rw [h2]; exact Sub.refl _
    · have : i = k + 1 := by omega
      subst this; exact Sub.refl _
theorem TraceK.len(T:TraceK G P M ops E H V){i k:Nat}(hik:i<=k)(hk:k<=ops.size):(H i).length<=(H k).length:=(T.sub hik hk).1
theorem holds_textK(T:TraceK G P M ops E H V){t:Nat}: ∀k i,i<=k->k<=ops.size->(holds ops E H V (fun j=>decide (j<i)) t k).1=E i t∧(holds ops E H V (fun j=>decide (j<i)) t k).2<=(H i).length
 | 0,i,hi,_=>by
  have:i=0:=by omega
  subst this
  exact⟨rfl,le_refl _⟩
 | k+1,i,hi,hk=>by
  unfold holds
  rcases lt_or_ge k i with h|h
  ·have:i=k+1:=by omega
   subst this
   have hlt:k<ops.size:=by omega
   obtain⟨h1,_⟩:=T.step k ops[k] (Array.getElem?_eq_getElem hlt)
   have hc:holds ops E H V (fun j=>decide (j<k+1)) t k=holds ops E H V (fun j=>decide (j<k)) t k:=holds_congr k (fun j hj _=>by simp;omega)
   have ih:=holds_textK T (t:=t) k k (le_refl _) (by omega)
   simp only[h1,Array.getElem?_eq_getElem hlt,Option.bind_some]
   by_cases hd:ops[k].dst=some t
   ·simp[hd,put,upd]
   ·rw[if_neg (fun c=>hd c.2),hc]
    have hp:put (E k) ops[k].dst (V k) t=E k t:=by
     cases hx:ops[k].dst with
     | none=>rfl
     | some d=>simp only[put,upd];rw[if_neg (fun c=>hd (by rw[hx,c]))]
    rw[hp]
    exact⟨ih.1,le_trans ih.2 (T.len (by omega) (by omega))⟩
  ·rw[if_neg (by simp;omega)]
   exact holds_textK T k i h (by omega)
structure DInvK(G:List (Nat×Nat))(M:Nat->Prop)(ops:Array Oper)(E:Nat->Env)(H:Nat->Heap)(V:Nat->Value)(n:Nat)(p0:Phi)(w0:World)
  (listed:Array Bool) (p:Phi) (a:Act) (w:World):Prop where
 lsize:listed.size=ops.size
 closed: ∀i o,ops[i]? = some o->listed.getD i false=true->∀e∈o.after,Region.binds .any e=true->listed.getD e.on false=true
 asize:a.tmps.size=n
 adef:a.defers= []
 tv: ∀t,VRel (cut p (holds ops E H V (fun i=>listed.getD i false) t ops.size).2) (holds ops E H V (fun i=>listed.getD i false) t ops.size).1 (a.tmps.getD t undef)
 hr: ∀k,k<=ops.size->(∀j oj,ops[j]? = some oj->kill oj=true->listed.getD j false=true->j<k)->HRel G (cut p (H k).length) (H k) w
 unborn: ∀i,i<ops.size->listed.getD i false=false->∀id,(H i).length<=id->id<(H (i+1)).length->p id=none
 dom: ∀id t,p id=some t->id<(H ops.size).length
 tdom: ∀id t,p id=some t->t.b<w.heap.size
 ext:Ext M p0 p (H 0) (H ops.size) w0 w
 fresh: ∀i o,ops[i]? = some o->kill o=true->listed.getD i false=false->∀id t id' t',p id=some t->(H i).length<=id->p id'=some t'->id'<(H i).length->t.b≠t'.b
theorem DInvK.step(T:TraceK G P M ops E H V)(hkok:killOK ops=true){n:Nat}(hB:ops.toList.all (operB G n)=true){p0:Phi}{w0:World}{listed:Array Bool}{p:Phi}{a:Act}{w:World}
  (D:DInvK G M ops E H V n p0 w0 listed p a w) {i:Nat} (hi:i∈Region.ready .any ops listed) {Q:Exit->Act->World->Prop} {K:Act->World->Prop}
  (hK: ∀p' a' w',DInvK G M ops E H V n p0 w0 (listed.setIfInBounds i true) p' a' w'->K a' w'):wpOp P ops Q i K a w:=by
 obtain⟨hlex,hkw⟩:=killOK_spec hkok
 obtain⟨hun,o,ho,hedge⟩:=mem_ready.1 hi
 have hlt:i<ops.size:=(Array.getElem?_eq_some_iff.1 ho).1
 have hll:i<listed.size:=by rw[D.lsize];exact hlt
 have getD_eq: ∀j,j<ops.size->listed.getD j true=listed.getD j false:=fun j hj=>by
  have:j<listed.size:=by rw[D.lsize];exact hj
  simp[Array.getD,this]
 have hun':listed.getD i false=false:=by rw[←getD_eq i hlt];exact hun
 -- the operations that write what i looks at are done just where the text has them before i
 have same: ∀t,t∈o.looksAt ops∨o.dst=some t->∀k,k<ops.size->k≠i->((ops[k]?).bind (·.dst))=some t->listed.getD k false=decide (k<i):=by
  intro t ht k hk hki hd
  have hok:ops[k]? = some ops[k]:=Array.getElem?_eq_getElem hk
  rw[hok,Option.bind_some] at hd
  rcases lt_or_ge k i with h|h
  ·rw[decide_eq_true h]
   rcases lexOK_pair hlex h hok ho with⟨e,he,hb,hon⟩|hap
   ·rw[←hon];exact hedge e he hb
   ·obtain⟨h1,h2,h3⟩:=Oper.apart_spec hap
    rcases ht with ht|ht
    ·exact absurd ht (h1 t hd)
    ·exact absurd ht (h2 t hd)
  ·have hik:i<k:=by omega
   rw[decide_eq_false (by omega)]
   rcases lexOK_pair hlex hik ho hok with⟨e,he,hb,hon⟩|hap
   ·cases hl:listed.getD k false with
    | false=>rfl
    | true=>
     have:=D.closed k _ hok hl e he hb
     rw[hon,hun'] at this
     cases this
   ·obtain⟨h1,h2,h3⟩:=Oper.apart_spec hap
    rcases ht with ht|ht
    ·exact absurd ht (h3 t hd)
    ·exact absurd hd (h2 t ht)
 have hval: ∀t,t∈o.looksAt ops->holds ops E H V (fun i=>listed.getD i false) t ops.size=holds ops E H V (fun j=>decide (j<i)) t ops.size:=fun t ht=>
  holds_congr _ fun k hk hd=>by
   by_cases hki:k=i
   ·subst hki;simp[hun']
   ·exact same t (.inl ht) k hk hki hd
 have hrd: ∀t,t∈o.looksAt ops->VRel (cut p (H i).length) (E i t) (a.tmps.getD t undef):=fun t ht=>by
  have h1:=D.tv t
  rw[hval t ht] at h1
  obtain⟨h2,h3⟩:=holds_textK T (t:=t) ops.size i (by omega) (le_refl _)
  rw[h2] at h1
  exact h1.mono (cut_mono (Phi.le_refl p) h3)
 -- no append that the text has behind i is done;a waiting append has all before it done
 have hwin: ∀j oj,ops[j]? = some oj->kill oj=true->listed.getD j false=true->j<i:=by
  intro j oj hoj hkj hl
  rcases lt_or_ge j i with h|h
  ·exact h
  ·rcases lt_or_ge i j with h1|h1
   ·have:=waits_listed D.closed 8 j i oj hoj (D.closed j oj hoj hl) (hkw j oj hoj hkj i h1)
    rw[hun'] at this;cases this
   ·have:i=j:=by omega
    subst this
    rw[hun'] at hl;cases hl
 have hri:HRel G (cut p (H i).length) (H i) w:=D.hr i (by omega) hwin
 have hoB:=all_eq_true.1 hB o (by have:=Array.mem_of_getElem? ho;simpa using this)
 simp only[operB,Bool.and_eq_true,Array.all_eq_true_iff_forall_mem] at hoB
 have hdn: ∀d,o.dst=some d->d<n:=fun d hd=>by have:=hoB.2;rw[hd] at this;simpa using this
 have hopd: ∀x∈o.op.operands,VRel (cut p (H i).length) (Opd.val (E i) x) (a.eval x):=fun x hx=>
  opd_rel hri (fun t ht=>hrd t (mem_append_left _ (List.mem_filterMap.2 ⟨x,by simpa using hx,by rw[ht]⟩))) (hoB.1 x hx)
 have hwt:Region.wanted o (yielded ops a.tmps)=wantedH ops o (E i):=wanted_rel fun g want t hg ht=>
  ⟨_,hrd t (List.mem_append_right _ (by simp[hg,ht]))⟩
 -- what is listed next
 have getD_set: ∀j,(listed.setIfInBounds i true).getD j false=if j=i then true else listed.getD j false:=fun j=>by
  by_cases hj:j=i
  ·subst hj;simp[Array.getD,hll]
  ·simp[Array.getD_eq_getD_getElem?,Array.getElem?_setIfInBounds_ne (Ne.symm hj),hj]
 have closed': ∀j oj,ops[j]? = some oj->(listed.setIfInBounds i true).getD j false=true->∀e∈oj.after,Region.binds .any e=true->(listed.setIfInBounds i true).getD e.on false=true:=by
  intro j oj hoj hl e he hb
  rw[getD_set] at hl ⊢
  by_cases hj:j=i
  ·subst hj
   rw[ho] at hoj;cases hoj
   split
   ·rfl
   ·exact hedge e he hb
  ·rw[if_neg hj] at hl
   split
   ·rfl
   ·exact D.closed j oj hoj hl e he hb
 -- the slots behind the step
 have tv': ∀(q:Phi) (v':Value),(∀m,m<=ops.size->(cut p (H m).length).le (cut q (H m).length))->(cut p (H 0).length).le (cut q (H 0).length)->p.le q->VRel (cut q (H (i+1)).length) (V i) v' →
   ∀t,VRel (cut q (holds ops E H V (fun j=>(listed.setIfInBounds i true).getD j false) t ops.size).2) (holds ops E H V (fun j=>(listed.setIfInBounds i true).getD j false) t ops.size).1 ((a.put o.dst v').tmps.getD t undef):=by
  intro q v' _ _ hle hv t
  by_cases hd:o.dst=some t
  ·have e1:holds ops E H V (fun j=>(listed.setIfInBounds i true).getD j false) t ops.size=holds ops E H V (fun j=>decide (j<i+1)) t ops.size:=holds_congr _ fun k hk hdk=>by
    rw[getD_set]
    by_cases hki:k=i
    ·subst hki;simp
    ·rw[if_neg hki,same t (.inr hd) k hk hki hdk]
     simp only[decide_eq_decide];omega
   obtain⟨e2,e3⟩:=holds_textK T (t:=t) ops.size (i+1) (by omega) (le_refl _)
   rw[e1,e2]
   have e4:E (i+1) t=V i:=by rw[(T.step i o ho).1,hd];simp[put,upd]
   have e5:(holds ops E H V (fun j=>decide (j<i+1)) t ops.size).2=(H (i+1)).length:=by
    have: ∀k,i+1<=k->k<=ops.size->(holds ops E H V (fun j=>decide (j<i+1)) t k).2=(H (i+1)).length:=by
     intro k
     induction k with
     | zero=>intro h;omega
     | succ k ih=>
      intro h1 h2
      unfold holds
      rcases lt_or_ge k (i+1) with h|h
      ·have:k=i:=by omega
       subst this
       rw[if_pos ⟨by simp,by rw[ho];exact hd⟩]
      ·rw[if_neg (by simp;omega)]
       exact ih (by omega) (by omega)
    exact this ops.size (by omega) (le_refl _)
   rw[e4,e5]
   have e6:(a.put o.dst v').tmps.getD t undef=v':=by
    have:=D.asize
    have hn:=hdn t hd
    rw[hd]
    simp[Act.put,Array.getD,this,hn]
   rw[e6]
   exact hv
  ·have e1:holds ops E H V (fun j=>(listed.setIfInBounds i true).getD j false) t ops.size=holds ops E H V (fun j=>listed.getD j false) t ops.size:=holds_congr _ fun k hk hdk=>by
    rw[getD_set]
    by_cases hki:k=i
    ·subst hki
     rw[ho] at hdk
     exact absurd hdk hd
    ·rw[if_neg hki]
   rw[e1]
   have e2:(a.put o.dst v').tmps.getD t undef=a.tmps.getD t undef:=by
    cases hx:o.dst with
    | none=>rfl
    | some d=>
     have hne:d≠t:=fun c=>hd (by rw[hx,c])
     simp[Act.put,Array.getD_eq_getD_getElem?,Array.getElem?_setIfInBounds_ne hne]
   rw[e2]
   exact (D.tv t).mono (cut_mono hle (le_refl _))
 have asz: ∀v',(a.put o.dst v').tmps.size=n:=fun v'=>by cases o.dst<;>simp[Act.put,D.asize]
 have adf: ∀v',(a.put o.dst v').defers= []:=fun v'=>by cases o.dst<;>simp[Act.put,D.adef]
 unfold wpOp
 simp only[ho]
 rw[hwt]
 obtain⟨_,hst⟩:=T.step i o ho
 rcases hst with⟨hw,hsub,hs⟩|⟨hw,hv,hH⟩
 ·rw[if_pos hw]
  -- a step that may change the blocks 'N'
  have main: ∀(N:Nat->Prop),HStep G P o allT N (E i) (H i) (V i) (H (i+1))->(∀id,N id->M id)->(kill o=false->∀id,N id->False)->o.wp P a w K (fun e a w=>Q e a w):=by
   intro N hs hNM hN0
   refine hs (cut p (H i).length) a w hri hopd _ _ ?_
   intro q v' w' hrq hvq ex
   replace hrq:=hrq.all
   -- the new map
   let r:Phi:=fun id=>if (H i).length<=id∧id<(H (i+1)).length then q id else p id
   have hpn: ∀id,(H i).length<=id->id<(H (i+1)).length->p id=none:=D.unborn i hlt hun'
   have hle:p.le r:=fun id t e=>by
    show (if _ then _ else _)=_
    split
    ·rename_i hc;rw[hpn id hc.1 hc.2] at e;cases e
    ·exact e
   have hqlow: ∀id,id<(H i).length->q id=p id:=fun id hid=>by
    cases hp:p id with
    | some t=>exact ex.le id t (by simp[cut,hid,hp])
    | none=>
     cases hq:q id with
     | none=>rfl
     | some t=>
      have:=(ex.new id t hq (by simp[cut,hid,hp])).1
      omega
   have hqdom: ∀id t,q id=some t->id<(H (i+1)).length:=fun id t e=>(hrq.dom id t e).1
   have hrcut:cut r (H (i+1)).length=q:=funext fun id=>by
    show (if _ then (if _ then _ else _) else _)=_
    split
    ·rename_i h1
     split
     ·rfl
     ·rename_i h2
      exact (hqlow id (by omega)).symm
    ·rename_i h1
     cases hq:q id with
     | none=>rfl
     | some t=>exact absurd (hqdom id t hq) h1
   have hrlow: ∀m,m<=(H i).length->cut r m=cut p m:=fun m hm=>funext fun id=>by
    show (if _ then (if _ then _ else _) else _)=(if _ then _ else _)
    split
    ·rw[if_neg (by omega)]
    ·rfl
   -- where the new blocks lie
   have hnew: ∀id t,q id=some t->(H i).length<=id->w.heap.size<=t.b∨∃id0 t0,p id0=some t0∧id0<(H i).length∧t0.b=t.b∧N id0:=by
    intro id t e h1
    rcases (ex.new id t e (by unfold cut;rw[if_neg (by omega)])).2 with h2|⟨id0,t0,e0,hb,hn⟩
    ·exact .inl h2
    ·unfold cut at e0
     split at e0
     ·exact .inr ⟨id0,t0,e0,by assumption,hb,hn⟩
     ·cases e0
   -- what is born behind i lies apart from what the step may change
   have sep: ∀id t,p id=some t->(H (i+1)).length<=id->∀id0 t0,p id0=some t0->id0<(H i).length->N id0->t.b≠t0.b:=by
    intro id t e h1 id0 t0 e0 h2 hn
    cases hk:kill o with
    | false=>exact (hN0 hk id0 hn).elim
    | true=>exact D.fresh i o ho hk hun' id t id0 t0 e (by have:=hsub.1;omega) e0 h2
   have hfr: ∀id t,p id=some t->(H (i+1)).length<=id->w'.heap[t.b]? = w.heap[t.b]? := fun id t e h1=>
    ex.frame t.b (D.tdom id t e) fun id0 t0 e0 hn hb=>by
     unfold cut at e0
     split at e0
     ·rename_i h2;exact sep id t e h1 id0 t0 e0 h2 hn hb.symm
     ·cases e0
   -- each id of the new map is an old one or a new one
   have hor: ∀id t,r id=some t->(p id=some t∧(id<(H i).length∨(H (i+1)).length<=id))∨(q id=some t∧(H i).length<=id∧id<(H (i+1)).length):=by
    intro id t e
    change (if _ then _ else _)=_ at e
    split at e
    ·rename_i h1;exact .inr ⟨e,h1.1,h1.2⟩
    ·rename_i h1;exact .inl ⟨e,by omega⟩
   have hrq': ∀id t,r id=some t->id<(H (i+1)).length->q id=some t:=fun id t e h1=>by
    rw[←hrcut];unfold cut;rw[if_pos h1];exact e
   have hrtd: ∀id t,r id=some t->t.b<w'.heap.size:=fun id t e=>by
    rcases hor id t e with⟨e1,_⟩|⟨e1,_⟩
    ·exact lt_of_lt_of_le (D.tdom id t e1) ex.size
    ·exact (hrq.dom id t e1).2
   refine hK r _ w' ⟨by simp[D.lsize],closed',asz v',adf v',tv' r v' (fun m _=>cut_mono hle (le_refl _)) (cut_mono hle (le_refl _)) hle (by rw[hrcut];exact hvq), ?_, ?_, ?_,hrtd, ?_, ?_⟩
   ·intro k hk hwk
    have hwk0: ∀j oj,ops[j]? = some oj->kill oj=true->listed.getD j false=true->j<k:=fun j oj hoj hkj hl=>hwk j oj hoj hkj (by rw[getD_set];split;rfl;exact hl)
    have hold:=D.hr k hk hwk0
    rcases lt_or_ge i k with h|h
    ·-- behind the step
     have hsk:=T.sub (i:=i+1) (k:=k) (by omega) hk
     have hlen1:=hsk.1
     have hlen0:=hsub.1
     have hup:(cut p (H k).length).le (cut r (H k).length):=cut_mono hle (le_refl _)
     have hqup:q.le (cut r (H k).length):=by rw[←hrcut];exact cut_mono (Phi.le_refl r) hlen1
     have hcr: ∀id t,cut r (H k).length id=some t->r id=some t∧id<(H k).length:=by
      intro id t e
      unfold cut at e
      split at e
      ·exact⟨e,by assumption⟩
      ·cases e
     have hcp: ∀id t,p id=some t->id<(H k).length->cut p (H k).length id=some t:=fun id t e h1=>by unfold cut;rw[if_pos h1];exact e
     have hhigh: ∀id t,r id=some t->(H (i+1)).length<=id->p id=some t:=fun id t e h1=>by
      rcases hor id t e with⟨e1,_⟩|⟨_,_,h2⟩
      ·exact e1
      ·omega
     -- a block of the front and one that is born behind
     have mixed: ∀id t id' t',r id=some t->id<(H (i+1)).length->r id'=some t'->(H (i+1)).length<=id'->t.b=t'.b->p id=some t:=by
      intro id t id' t' e h1 e' h1' hb
      rcases hor id t e with⟨e1,_⟩|⟨e1,h2,_⟩
      ·exact e1
      ·exfalso
       have e2:=hhigh id' t' e' h1'
       rcases hnew id t e1 h2 with h3|⟨id0,t0,e0,h4,hb0,hn⟩
       ·have:=D.tdom id' t' e2;omega
       ·exact sep id' t' e2 h1' id0 t0 e0 h4 hn (by omega)
     refine⟨fun g hg => ?_,fun id t e => ?_,fun id t kb _ e hb hdd => ?_,fun id t kb e hb => ?_,fun id id' t t' kb kb' e e' hb hb' hrw hdd htb => ?_⟩
     ·obtain⟨t,h1,h2⟩:=hold.glob g hg
      exact⟨t,hup _ _ h1,h2⟩
     ·obtain⟨e1,h1⟩:=hcr id t e
      exact⟨h1,hrtd id t e1⟩
     ·obtain⟨e1,h1⟩:=hcr id t e
      rcases lt_or_ge id (H (i+1)).length with h2|h2
      ·have hb2:=hsk.alive h2 hb hdd
       obtain⟨x1,c,el,fr,x2,x3,x4,x5,x6⟩:=hrq.blk id t kb trivial (hrq' id t e1 h2) hb2 hdd
       exact⟨x1,c,el,fr,x2,x3,x4,fun j v hj=>let ⟨v',y1,y2⟩:=x5 j v hj;⟨v',y1,y2.mono hqup⟩,x6⟩
      ·have e2:=hhigh id t e1 h2
       obtain⟨x1,c,el,fr,x2,x3,x4,x5,x6⟩:=hold.blk id t kb trivial (hcp id t e2 h1) hb hdd
       exact⟨x1,c,el,fr,by rw[hfr id t e2 h2];exact x2,x3,x4,fun j v hj=>let ⟨v',y1,y2⟩:=x5 j v hj;⟨v',y1,y2.mono hup⟩,x6⟩
     ·obtain⟨e1,h1⟩:=hcr id t e
      rcases lt_or_ge id (H (i+1)).length with h2|h2
      ·obtain⟨k0,hk0,he0⟩:=hsk.esz h2 hb
       rw[he0]
       exact hrq.esz id t k0 (hrq' id t e1 h2) hk0
      ·exact hold.esz id t kb (hcp id t (hhigh id t e1 h2) h1) hb
     ·obtain⟨e1,h1⟩:=hcr id t e
      obtain⟨e1',h1'⟩:=hcr id' t' e'
      have hd0:kb.st ≠ .dead:=by rw[hrw];decide
      rcases lt_or_ge id (H (i+1)).length with h2|h2<;>rcases lt_or_ge id' (H (i+1)).length with h2'|h2'
      ·exact hrq.inj id id' t t' kb kb' (hrq' id t e1 h2) (hrq' id' t' e1' h2') (hsk.alive h2 hb hd0) (hsk.alive h2' hb' hdd) hrw hdd htb
      ·exact hold.inj id id' t t' kb kb' (hcp id t (mixed id t id' t' e1 h2 e1' h2' htb) h1) (hcp id' t' (hhigh id' t' e1' h2') h1') hb hb' hrw hdd htb
      ·exact hold.inj id id' t t' kb kb' (hcp id t (hhigh id t e1 h2) h1) (hcp id' t' (mixed id' t' id t e1' h2' e1 h2 htb.symm) h1') hb hb' hrw hdd htb
      ·exact hold.inj id id' t t' kb kb' (hcp id t (hhigh id t e1 h2) h1) (hcp id' t' (hhigh id' t' e1' h2') h1') hb hb' hrw hdd htb
    ·-- before the step: it is no append
     have hk0:kill o=false:=by
      cases hkk:kill o with
      | false=>rfl
      | true=>
       have:=hwk i o ho hkk (by rw[getD_set,if_pos rfl])
       omega
     rw[hrlow _ (T.len h (by omega))]
     exact hold.kept ex.size fun b hb=>ex.frame b hb fun id0 t0 _ hn=>(hN0 hk0 id0 hn).elim
   ·intro j hj hl id h1 h2
    rw[getD_set] at hl
    by_cases hji:j=i
    ·rw[if_pos hji] at hl;cases hl
    ·rw[if_neg hji] at hl
     show (if _ then _ else _)=_
     rw[if_neg]
     ·exact D.unborn j hj hl id h1 h2
     ·rintro⟨c1,c2⟩
      rcases lt_or_ge j i with h|h
      ·have:=T.len (i:=j+1) (k:=i) (by omega) (by omega);omega
      ·have:=T.len (i:=i+1) (k:=j) (by omega) (by omega);omega
   ·intro id t e
    change (if _ then _ else _)=_ at e
    split at e
    ·rename_i h1
     have:=T.len (i:=i+1) (k:=ops.size) (by omega) (le_refl _)
     omega
    ·exact D.dom id t e
   ·have x:=D.ext
    have hw0: ∀id t,p id=some t->N id->∀b,b<w0.heap.size->(∀id t,p0 id=some t->M id->t.b≠b)->t.b≠b:=by
     intro id t e hn b hb hno
     cases hp0:p0 id with
     | some t0=>
      have:t0=t:=Option.some.inj ((x.le id t0 hp0).symm.trans e)
      subst this
      exact hno id t0 hp0 (hNM id hn)
     | none=>
      rcases (x.new id t e hp0).2 with h1|⟨id1,t1,e1,hb1,m1⟩
      ·omega
      ·rw[←hb1];exact hno id1 t1 e1 m1
    refine⟨Phi.le_trans x.le hle, ?_,x.len,fun b hb hno => ?_,le_trans x.size ex.size,ex.os.trans x.os,ex.tape.trans x.tape,ex.output.trans x.output⟩
    ·intro id t e en
     change (if _ then _ else _)=_ at e
     split at e
     ·rename_i h1
      have h3:=T.len (i:=0) (k:=i) (by omega) (by omega)
      have h4:=x.size
      refine⟨by omega, ?_⟩
      rcases hnew id t e h1.1 with h2|⟨id0,t0,e0,_,hb0,hn⟩
      ·exact .inl (by omega)
      ·cases hp0:p0 id0 with
       | some t1=>
        have:t1=t0:=Option.some.inj ((x.le id0 t1 hp0).symm.trans e0)
        subst this
        exact .inr ⟨id0,t1,hp0,hb0,hNM id0 hn⟩
       | none=>
        rcases (x.new id0 t0 e0 hp0).2 with h5|⟨id1,t1,e1,hb1,m1⟩
        ·exact .inl (by omega)
        ·exact .inr ⟨id1,t1,e1,by omega,m1⟩
     ·exact x.new id t e en
    ·rw[ex.frame b (lt_of_lt_of_le hb x.size) (fun id t e hn=>by
      unfold cut at e
      split at e
      ·exact hw0 id t e hn b hb hno
      ·cases e)]
     exact x.frame b hb hno
   ·intro j oj hoj hkj hl id t id' t' e h1 e' h1' hb
    rw[getD_set] at hl
    by_cases hji:j=i
    ·rw[if_pos hji] at hl;cases hl
    rw[if_neg hji] at hl
    have hjl:j<ops.size:=(Array.getElem?_eq_some_iff.1 hoj).1
    rcases hor id t e with⟨e1,_⟩|⟨e1,h2,h3⟩<;>rcases hor id' t' e' with⟨e1',_⟩|⟨e1',h2',h3'⟩
    ·exact D.fresh j oj hoj hkj hl id t id' t' e1 h1 e1' h1' hb
    ·rcases hnew id' t' e1' h2' with h4|⟨id0,t0,e0,h5,hb0,hn⟩
     ·have:=D.tdom id t e1;omega
     ·rcases lt_or_ge i j with h6|h6
      ·have:=T.len (i:=i+1) (k:=j) (by omega) (by omega)
       exact sep id t e1 (by omega) id0 t0 e0 h5 hn (by omega)
      ·have:=T.len (i:=j) (k:=i) h6 (by omega);omega
    ·rcases hnew id t e1 h2 with h4|⟨id0,t0,e0,h5,hb0,hn⟩
     ·have:=D.tdom id' t' e1';omega
     ·rcases lt_or_ge i j with h6|h6
      ·have:=T.len (i:=i+1) (k:=j) (by omega) (by omega);omega
      ·cases hkk:kill o with
       | false=>exact hN0 hkk id0 hn
       | true=>
        have:=waits_listed D.closed 8 i j o ho hedge (hkw i o ho hkk j (by omega))
        rw[this] at hl;cases hl
    ·rcases lt_or_ge i j with h6|h6
     ·have:=T.len (i:=i+1) (k:=j) (by omega) (by omega);omega
     ·have:=T.len (i:=j) (k:=i) h6 (by omega);omega
  rcases hs with⟨hk,hs,_⟩|⟨hk,hs⟩
  ·exact .inl (main _ hs (fun _ f=>f.elim) (fun _ _ f=>f))
  ·exact .inl (main _ hs (fun _ m=>m) (fun h=>by rw[hk] at h;cases h))
 ·rw[if_neg (by simp[hw])]
  refine hK p _ w ⟨by simp[D.lsize],closed',asz _,adf _,tv' p undef (fun m _=>Phi.le_refl _) (Phi.le_refl _) (Phi.le_refl _) (by rw[hv];exact VRel.undef _),fun k hk hwk=>D.hr k hk fun j oj hoj hkj hl=>hwk j oj hoj hkj (by rw[getD_set];split;rfl;exact hl), ?_,D.dom,D.tdom,D.ext, ?_⟩
  ·intro j hj hl id h1 h2
   rw[getD_set] at hl
   by_cases hji:j=i
   ·rw[if_pos hji] at hl;cases hl
   ·rw[if_neg hji] at hl
    exact D.unborn j hj hl id h1 h2
  ·intro j oj hoj hkj hl
   rw[getD_set] at hl
   by_cases hji:j=i
   ·rw[if_pos hji] at hl;cases hl
   ·rw[if_neg hji] at hl
    exact D.fresh j oj hoj hkj hl
theorem wpAny_of_dinvK{n:Nat}(T:TraceK G P M ops E H V)(hkok:killOK ops=true)(hB:ops.toList.all (operB G n)=true){p0:Phi}{w0:World}{Q:Exit->Act->World->Prop}
  (hQ: ∀p a w,HRel G p (H ops.size) w->ERel p n (E ops.size) a->Ext M p0 p (H 0) (H ops.size) w0 w->Q .normal a w) :
  ∀(fuel:Nat) (listed:Array Bool) (p:Phi) (a:Act) (w:World),DInvK G M ops E H V n p0 w0 listed p a w →
   listed.toList.count false<=fuel->wpAny P .any ops Q fuel listed a w:=by
 have hlex:=(killOK_spec hkok).1
 -- when nothing is ready,all is done
 have hend: ∀(listed:Array Bool) (p:Phi) (a:Act) (w:World),DInvK G M ops E H V n p0 w0 listed p a w->(∀k,k<ops.size->listed.getD k false=true)->Q .normal a w:=by
  intro listed p a w D hall
  have hcut:cut p (H ops.size).length=p:=cut_self D.dom
  have h1:=D.hr ops.size (le_refl _) (fun j oj hoj _ _=>(Array.getElem?_eq_some_iff.1 hoj).1)
  rw[hcut] at h1
  refine hQ p a w h1 ⟨D.asize,D.adef,fun t => ?_⟩ D.ext
  have h2:=D.tv t
  have h3:holds ops E H V (fun i=>listed.getD i false) t ops.size=holds ops E H V (fun j=>decide (j<ops.size)) t ops.size:=holds_congr _ fun k hk _=>by rw[hall k hk];simp[hk]
  rw[h3,(holds_textK T (t:=t) ops.size ops.size (le_refl _) (le_refl _)).1] at h2
  exact h2.mono (cut_le _ _)
 have hready: ∀(listed:Array Bool) (p:Phi) (a:Act) (w:World),DInvK G M ops E H V n p0 w0 listed p a w->Region.ready .any ops listed= []->∀k,k<ops.size->listed.getD k false=true:=by
  intro listed p a w D hr k
  induction k using Nat.strongRecOn with
  | _ k ih=>
   intro hk
   cases hl:listed.getD k false with
   | true=>rfl
   | false=>
    exfalso
    have hks:k<listed.size:=by rw[D.lsize];exact hk
    have:k∈Region.ready .any ops listed:=by
     refine mem_ready.2 ⟨by simpa[Array.getD,hks] using hl,ops[k],Array.getElem?_eq_getElem hk,fun e he hb => ?_⟩
     have h1:=lexOK_back hlex (Array.getElem?_eq_getElem hk) he hb
     exact ih e.on h1 (by omega)
    rw[hr] at this
    cases this
 intro fuel
 induction fuel with
 | zero=>
  intro listed p a w D hc
  have hall: ∀k,k<ops.size->listed.getD k false=true:=by
   intro k hk
   have hks:k<listed.size:=by rw[D.lsize];exact hk
   cases hl:listed.getD k false with
   | true=>rfl
   | false=>
    exfalso
    have h0:listed.toList.count false=0:=by omega
    have:false∈listed.toList:=by
     have e:listed[k]=false:=by simpa[Array.getD,hks] using hl
     rw[←e]
     simp
    rw[List.count_eq_zero] at h0
    exact h0 this
  refine⟨?_,hend listed p a w D hall⟩
  cases hr:Region.ready .any ops listed with
  | nil=>rfl
  | cons i r=>
   exfalso
   have hi:i∈Region.ready .any ops listed:=by rw[hr];simp
   obtain⟨h1,o,h2,_⟩:=mem_ready.1 hi
   have hk:=(Array.getElem?_eq_some_iff.1 h2).1
   have hks:i<listed.size:=by rw[D.lsize];exact hk
   have:=hall i hk
   simp[Array.getD,hks] at this h1
   rw[h1] at this
   cases this
 | succ fuel ih=>
  intro listed p a w D hc
  refine⟨fun hr=>hend listed p a w D (hready listed p a w D hr),fun i hi=>D.step T hkok hB hi fun p' a' w' D' => ?_⟩
  obtain⟨h1,o,h2,_⟩:=mem_ready.1 hi
  have hk:=(Array.getElem?_eq_some_iff.1 h2).1
  have hks:i<listed.size:=by rw[D.lsize];exact hk
  have hcount:(listed.setIfInBounds i true).toList.count false<=fuel:=by
   have e:listed[i]=false:=by simpa[Array.getD,hks] using h1
   have:=List.count_set (a:=true) (b:=false) (l:=listed.toList) (i:=i) (by simpa using hks)
   simp only[Array.getElem_toList,e] at this
   have e2:(if (false==false)=true then 1 else 0)=1:=rfl
   have e3:(if (true==false)=true then 1 else 0)=0:=rfl
   rw[e2,e3] at this
   rw[Array.toList_setIfInBounds,this]
   omega
  exact ih _ p' a' w' D' hcount
end
def HOpsK(G:List (Nat×Nat))(P:Program)(M:Nat->Prop)(ops:Array Oper):List Oper->Env->Heap->(Env->Heap->Prop)->Prop
 | [],e,h,K=>K e h
 | o::os,e,h,K=>if wantedH ops o e then ∃v h',Sub h h'∧((kill o=false∧HStep G P o allT (fun _=>False) e h v h'∧h<+:h')∨(kill o=true∧HStep G P o allT M e h v h'))∧HOpsK G P M ops os (put e o.dst v) h' K
  else HOpsK G P M ops os (put e o.dst undef) h K
section
variable {G:List (Nat×Nat)} {P:Program} {n:Nat} {M:Nat->Prop} {ops:Array Oper}
theorem HOpsK.trace : ∀ (l : List Oper) (k : Nat) (e : Env) (h : Heap) (K : Env → Heap → Prop), HOpsK G P M ops l e h K →
    ∃ (E : Nat → Env) (H : Nat → Heap) (V : Nat → Value), E k = e ∧ H k = h ∧ K (E (k + l.length)) (H (k + l.length)) ∧
      ∀ i o, l[i]? = some o → E (k + i + 1) = put (E (k + i)) o.dst (V (k + i)) ∧
        ((wantedH ops o (E (k + i)) = true ∧ Sub (H (k + i)) (H (k + i + 1)) ∧ ((kill o = false ∧ HStep G P o allT (fun _ => False) (E (k + i)) (H (k + i)) (V (k + i)) (H (k + i + 1)) ∧ H (k + i) <+: H (k + i + 1)) ∨ (kill o = true ∧ HStep G P o allT M (E (k + i)) (H (k + i)) (V (k + i)) (H (k + i + 1))))) ∨
         (wantedH ops o (E (k + i)) = false ∧ V (k + i) = undef ∧ H (k + i + 1) = H (k + i)))
  | [], k, e, h, K, hk => ⟨fun _ => e, fun _ => h, fun _ => undef, rfl, rfl, hk, fun i o hi => by simp at hi⟩
  | o :: os, k, e, h, K, hk => by
    have build : ∀ (v : Value) (h' : Heap), HOpsK G P M ops os (put e o.dst v) h' K →
        ((wantedH ops o e = true ∧ Sub h h' ∧ ((kill o = false ∧ HStep G P o allT (fun _ => False) e h v h' ∧ h <+: h') ∨ (kill o = true ∧ HStep G P o allT M e h v h'))) ∨ (wantedH ops o e = false ∧ v = undef ∧ h' = h)) →
        ∃ (E : Nat → Env) (H : Nat → Heap) (V : Nat → Value), E k = e ∧ H k = h ∧ K (E (k + (os.length + 1))) (H (k + (os.length + 1))) ∧
          ∀ i o1, (o :: os)[i]? = some o1 → E (k + i + 1) = put (E (k + i)) o1.dst (V (k + i)) ∧
            ((wantedH ops o1 (E (k + i)) = true ∧ Sub (H (k + i)) (H (k + i + 1)) ∧ ((kill o1 = false ∧ HStep G P o1 allT (fun _ => False) (E (k + i)) (H (k + i)) (V (k + i)) (H (k + i + 1)) ∧ H (k + i) <+: H (k + i + 1)) ∨ (kill o1 = true ∧ HStep G P o1 allT M (E (k + i)) (H (k + i)) (V (k + i)) (H (k + i + 1))))) ∨
             (wantedH ops o1 (E (k + i)) = false ∧ V (k + i) = undef ∧ H (k + i + 1) = H (k + i))) := by
      intro v h' hk' hs
      obtain ⟨E, H, V, h1, h2, h3, h4⟩ := HOpsK.trace os (k + 1) _ _ K hk'
      refine ⟨fun i => if i = k then e else E i, fun i => if i = k then h else H i, fun i => if i = k then v else V i, by simp, by simp, ?_, ?_⟩
      · have : k + (os.length + 1) ≠ k := by omega
        simp only [this, if_false]
        rw [show k + (os.length + 1) = k + 1 + os.length from by omega]
        exact h3
      · intro i o1 hi
        cases i with
        | zero =>
          simp only [getElem?_cons_zero, Option.some.injEq] at hi
          subst hi
          have : k + 1 ≠ k := by omega
          simp only [add_zero, this, if_false, if_true, h1, h2]
          exact ⟨trivial, hs⟩
        | succ i =>
          simp only [getElem?_cons_succ] at hi
          have e1 : k + (i + 1) ≠ k := by omega
          have e2 : k + (i + 1) + 1 ≠ k := by omega
          have := h4 i o1 hi
          simp only [e1, e2, if_false]
          rw [show k + (i + 1) = k + 1 + i from by omega]
          exact this
    unfold HOpsK at hk
    split at hk
    · rename_i hw
      obtain ⟨v, h', hs, hp, hk⟩ := hk
      exact build v h' hk (.inl ⟨hw, hs, hp⟩)
    · rename_i hw
      exact build undef h hk (.inr ⟨by simpa using hw, rfl, rfl⟩)
theorem HWp.region_kill{id:Nat}{Q:Exit->Env->Heap->Prop}{e:Env}{h:Heap}(hm:P.follows .mixedOrders=true)(hkok:killOK ops=true)(hB:ops.toList.all (operB G n)=true)
  (hh:HOpsK G P M ops ops.toList e h (fun e' h'=>Q .normal e' h')):HWp G P n M (.region id ops true) Q e h:=by
 obtain⟨E,H,V,h1,h2,h3,h4⟩:=HOpsK.trace ops.toList 0 e h _ hh
 have T:TraceK G P M ops E H V:=⟨fun i o hi=>by
  have:=h4 i o (by simpa using hi)
  simp only[zero_add] at this
  exact⟨this.1,this.2.imp (fun⟨a,b,c⟩=>⟨a,b,c.imp (fun⟨x,y,z⟩=>⟨x,y,prefix_get z⟩) (fun x=>x)⟩) (fun x=>x)⟩⟩
 simp only[zero_add,Array.length_toList] at h3
 refine⟨.normal,E ops.size,H ops.size,fun p a w hr er => ?_,h3⟩
 refine wp_region_any hm (wpAny_of_dinvK T hkok hB (p0:=p) (w0:=w) ?_ ops.size _ p a _ ⟨by simp, ?_,er.size,er.defers, ?_, ?_, ?_, ?_,fun id t e=>(hr.dom id t e).2, ?_, ?_⟩ ?_)
 ·intro q a' w' hr' er' ex
  rw[h2] at ex
  exact⟨rfl,q,hr',er',ex⟩
 ·intro i o _ hl
  simp[Array.getD_eq_getD_getElem?] at hl
  have:(Array.replicate ops.size false)[i]?.getD false=false:=by
   rw[Array.getElem?_replicate];split<;>rfl
  rw[this] at hl
  cases hl
 ·intro t
  have hz: ∀k,holds ops E H V (fun i=>(Array.replicate ops.size false).getD i false) t k=(E 0 t,(H 0).length):=by
   intro k
   induction k with
   | zero=>rfl
   | succ k ih=>
    unfold holds
    rw[if_neg,ih]
    rintro⟨hc,_⟩
    rw[Array.getD_eq_getD_getElem?,Array.getElem?_replicate] at hc
    split at hc<;>cases hc
  rw[hz]
  simp only[h1,h2]
  rw[cut_self (fun id t e=>(hr.dom id t e).1)]
  exact er.val t
 ·intro k hk _
  have hsub:=T.sub (i:=0) (k:=k) (by omega) hk
  have hl:=hsub.1
  rw[h2] at hl hsub
  rw[cut_self (fun id t e=>lt_of_lt_of_le (hr.dom id t e).1 hl)]
  have hr2:=hr.drew
  refine⟨hr2.glob,fun id t e=>⟨lt_of_lt_of_le (hr2.dom id t e).1 hl,(hr2.dom id t e).2⟩,fun id t kb tt e hb hd => ?_,fun id t kb e hb => ?_,fun id id' t t' kb kb' e e' hb hb' hrw hd => ?_⟩
  ·exact hr2.blk id t kb tt e (hsub.alive (hr.dom id t e).1 hb hd) hd
  ·obtain⟨k0,hk0,he⟩:=hsub.esz (hr.dom id t e).1 hb
   rw[he]
   exact hr2.esz id t k0 e hk0
  ·exact hr2.inj id id' t t' kb kb' e e' (hsub.alive (hr.dom id t e).1 hb (by rw[hrw];decide)) (hsub.alive (hr.dom id' t' e').1 hb' hd) hrw hd
 ·intro i hi _ id h5 _
  have hl:=T.len (i:=0) (k:=i) (by omega) (by omega)
  rw[h2] at hl
  cases hp:p id with
  | none=>rfl
  | some t=>have:=(hr.dom id t hp).1;omega
 ·intro id t e
  have hl:=T.len (i:=0) (k:=ops.size) (by omega) (le_refl _)
  rw[h2] at hl
  exact lt_of_lt_of_le (hr.dom id t e).1 hl
 ·have hl:=T.len (i:=0) (k:=ops.size) (by omega) (le_refl _)
  rw[h2] at hl ⊢
  exact⟨Phi.le_refl p,fun id t e e'=>(by rw[e] at e';cases e'),hl,fun _ _ _=>rfl,le_refl _,rfl,rfl,rfl⟩
 ·intro i o hi _ _ id t id' t' e h5 _ _
  have hil:=(Array.getElem?_eq_some_iff.1 hi).1
  have hl:=T.len (i:=0) (k:=i) (by omega) (by omega)
  rw[h2] at hl
  have:=(hr.dom id t e).1
  omega
 ·simp
end
end Go.HH
