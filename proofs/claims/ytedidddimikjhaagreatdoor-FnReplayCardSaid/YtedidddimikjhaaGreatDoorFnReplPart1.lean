/- Texts of this claim, joined. No condition. -/
import Derived.Test.YtedidddimikjhaaGreatDoorFnReplPart0
import Derived.Laws.Cells
import Derived.Lib.FrozenHead
import Derived.Laws.AppendOwn
import Derived.ChangeKeysEq
import Derived.ArgAppend
import Derived.IntWalk
open List (append_assoc length_append getElem?_eq_getElem getElem?_append_left getElem?_append_right length_cons getElem?_cons_zero all_eq_true getElem?_cons_succ length_nil mem_iff_getElem getElem?_drop take_of_length_le append_nil mem_range size_toArray getElem?_take getElem?_map mem_of_getElem? length_drop mem_append_left take_append_drop foldl_cons)
open Nat (le_refl le_trans add_zero lt_or_ge zero_le zero_add add_assoc sub_self lt_of_lt_of_le)
set_option linter.unusedSimpArgs false
set_option linter.unusedVariables false
namespace Go.HH
def lenC:Callee->Bool
 | .builtin .len=>true
 | _=>false
def regOp:Op->Bool
 | .move _=>true
 | .assign _=>true
 | .extract .. => true
 | .pick .. => true
 | .unOp .. => true
 | .binOp .. => true
 | .fieldAddr .. => true
 | .indexAddr .. => true
 | .nilCheck _=>true
 | .index .. => true
 | .convert .. => true
 | .makeFunc .. => true
 | .build .. => true
 | .call c=>lenC c.callee
 | _=>false
def reg(o:Oper):Bool:=regOp o.op
def hv(ops:Array Oper)(E:Nat->Env)(V:Nat->Value)(l:Nat->Bool)(t:Nat):Nat->Value
 | 0=>E 0 t
 | k+1=>if l k=true∧((ops[k]?).bind (·.dst))=some t then V k else hv ops E V l t k
section
variable {G:List (Nat×Nat)} {P:Program} {M:Nat->Prop} {ops:Array Oper} {E:Nat->Env} {H:Nat->Heap} {V:Nat->Value}
theorem hv_congr{l l':Nat->Bool}{t:Nat}: ∀k,(∀j,j<k->((ops[j]?).bind (·.dst))=some t->l j=l' j)->hv ops E V l t k=hv ops E V l' t k
 | 0,_=>rfl
 | k+1,h=>by
  unfold hv
  have ih:=hv_congr (l:=l) (l':=l') (t:=t) k (fun j hj=>h j (by omega))
  by_cases hd:((ops[k]?).bind (·.dst))=some t
  ·rw[h k (by omega) hd,ih]
  ·rw[if_neg (fun c=>hd c.2),if_neg (fun c=>hd c.2),ih]
theorem hv_text(hE: ∀i o,ops[i]? = some o->E (i+1)=put (E i) o.dst (V i)){t:Nat}: ∀k i,i<=k->k<=ops.size->hv ops E V (fun j=>decide (j<i)) t k=E i t
 | 0,i,hi,_=>by
  have:i=0:=by omega
  subst this;rfl
 | k+1,i,hi,hk=>by
  unfold hv
  rcases lt_or_ge k i with h|h
  ·have:i=k+1:=by omega
   subst this
   have hlt:k<ops.size:=by omega
   have h1:=hE k ops[k] (Array.getElem?_eq_getElem hlt)
   have hc:hv ops E V (fun j=>decide (j<k+1)) t k=hv ops E V (fun j=>decide (j<k)) t k:=hv_congr k (fun j hj _=>by simp;omega)
   have ih:=hv_text hE (t:=t) k k (le_refl _) (by omega)
   simp only[h1,Array.getElem?_eq_getElem hlt,Option.bind_some]
   by_cases hd:ops[k].dst=some t
   ·simp[hd,put,upd]
   ·rw[if_neg (fun c=>hd c.2),hc]
    have hp:put (E k) ops[k].dst (V k) t=E k t:=by
     cases hx:ops[k].dst with
     | none=>rfl
     | some d=>simp only[put,upd];rw[if_neg (fun c=>hd (by rw[hx,c]))]
    rw[hp]
    exact ih
  ·rw[if_neg (by simp;omega)]
   exact hv_text hE k i h (by omega)
theorem HStep.congr{o:Oper}{T N:Nat->Prop}{e e':Env}{h h':Heap}{v:Value}(hs:HStep G P o T N e h v h')(hx: ∀x∈o.op.operands,Opd.val e' x=Opd.val e x):HStep G P o T N e' h v h':=
 fun p a w hr hop next Q k=>hs p a w hr (fun x hx'=>by rw[←hx x hx'];exact hop x hx') next Q k
theorem wantedH_congr{o:Oper}{e e':Env}(hx: ∀t∈o.looksAt ops,e' t=e t):wantedH ops o e'=wantedH ops o e:=by
 unfold wantedH
 cases hg:o.guard with
 | none=>rfl
 | some gw=>
  obtain⟨g,want⟩:=gw
  simp only
  cases ht:(ops[g]?).bind (·.dst) with
  | none=>rfl
  | some t=>
   simp only
   rw[hx t (List.mem_append_right _ (by simp[hg,ht]))]
structure TraceM(G:List (Nat×Nat))(P:Program)(M:Nat->Prop)(ops:Array Oper)(n:Nat)(E:Nat->Env)(H:Nat->Heap)(V:Nat->Value):Prop where
 envs: ∀i o,ops[i]? = some o->E (i+1)=put (E i) o.dst (V i)
 tail: ∀i o,n<=i->ops[i]? = some o →
  (wantedH ops o (E i)=true∧((reg o=true∧H (i+1)=H i∧∀h2,HStep G P o allT M (E i) h2 (V i) h2)∨(reg o=false∧HStep G P o allT M (E i) (H i) (V i) (H (i+1))))) ∨
  (wantedH ops o (E i)=false∧V i=undef∧H (i+1)=H i)
def mixT(ops:Array Oper)(n:Nat):Bool:=(List.range ops.size).all fun t=>decide (t<n)||match ops[t]? with
 | none=>true
 | some ot=>ot.after.all (fun e => !Region.binds .any e||decide (e.on<t))&&((List.range n).all (fun j=>waitsB ops 8 t j)&&(List.range t).all (fun j=>decide (j<n)||match ops[j]? with
  | none=>true
  | some oj=>(ot.after.any (fun e=>Region.binds .any e&&e.on==j)||oj.apart ops ot)&&(reg oj||reg ot||waitsB ops 8 t j)))
theorem mixT_spec{n:Nat}(h:mixT ops n=true){t:Nat}{ot:Oper}(hn:n<=t)(ht:ops[t]? = some ot) :
  (∀e∈ot.after,Region.binds .any e=true->e.on<t)∧(∀j,j<n->waitsB ops 8 t j=true)∧∀j oj,n<=j->j<t->ops[j]? = some oj →
   ((∃e∈ot.after,Region.binds .any e=true∧e.on=j)∨oj.apart ops ot=true)∧(reg oj=false->reg ot=false->waitsB ops 8 t j=true):=by
 have hlt:=(Array.getElem?_eq_some_iff.1 ht).1
 have h1:=all_eq_true.1 h t (mem_range.2 hlt)
 rw[ht] at h1
 simp only[Bool.or_eq_true,decide_eq_true_eq,Bool.and_eq_true] at h1
 obtain⟨h2,h3,h4⟩:=h1.resolve_left (by omega)
 refine⟨fun e he hb => ?_,fun j hj=>all_eq_true.1 h3 j (mem_range.2 hj),fun j oj hj hjt hoj => ?_⟩
 ·have:=(Array.all_eq_true_iff_forall_mem.1 h2) e he
  simpa[hb] using this
 ·have h5:=all_eq_true.1 h4 j (mem_range.2 hjt)
  rw[hoj] at h5
  simp only[Bool.or_eq_true,decide_eq_true_eq,Bool.and_eq_true] at h5
  obtain⟨h6,h7⟩:=h5.resolve_left (by omega)
  refine⟨?_,fun r1 r2 => ?_⟩
  ·rcases h6 with h6|h6
   ·simp only[Array.any_eq_true,Bool.and_eq_true,beq_iff_eq] at h6
    obtain⟨x,hx,hb⟩:=h6
    exact .inl ⟨_,Array.getElem_mem hx,hb.1,hb.2⟩
   ·exact .inr h6
  ·rcases h7 with (h7|h7)|h7
   ·rw[r1] at h7;cases h7
   ·rw[r2] at h7;cases h7
   ·exact h7
structure MInv(ops:Array Oper)(n:Nat)(E:Nat->Env)(H:Nat->Heap)(V:Nat->Value)(listed:Array Bool)(e:Env)(h:Heap):Prop where
 lsize:listed.size=ops.size
 closed: ∀i o,ops[i]? = some o->listed.getD i false=true->∀e∈o.after,Region.binds .any e=true->listed.getD e.on false=true
 head: ∀j,j<n->j<ops.size->listed.getD j false=true
 env: ∀t,e t=hv ops E V (fun i=>listed.getD i false) t ops.size
 heap: ∃m,n<=m∧m<=ops.size∧h=H m∧∀j oj,n<=j->ops[j]? = some oj->reg oj=false->(listed.getD j false=true↔j<m)
theorem TraceM.flat {n : Nat} (T : TraceM G P M ops n E H V) {i m : Nat} (hni : n ≤ i) (him : i ≤ m) (hm : m ≤ ops.size) (hr : ∀ j oj, i ≤ j → j < m → ops[j]? = some oj → reg oj = true) : H m = H i := by
  induction m with
  | zero => have : i = 0 := by omega
            subst this; rfl
  | succ m ih =>
    rcases lt_or_ge i (m + 1) with h | h
    · have hlt : m < ops.size := by omega
      have e1 := ih (by omega) (by omega) (fun j oj h1 h2 => hr j oj h1 (by omega))
      have hreg := hr m ops[m] (by omega) (by omega) (Array.getElem?_eq_getElem hlt)
      rcases T.tail m ops[m] (by omega) (Array.getElem?_eq_getElem hlt) with ⟨_, ⟨_, h2, _⟩ | ⟨h2, _⟩⟩ | ⟨_, _, h2⟩
      · rw [h2, e1]
      · rw [hreg] at h2; cases h2
      · rw [h2, e1]
    · have : i = m + 1 := by omega
      subst this; rfl
theorem wpAny_mix{n nt:Nat}(T:TraceM G P M ops n E H V)(hmix:mixT ops n=true)(hB:ops.toList.all (operB G nt)=true){p0:Phi}{h0:Heap}{w0:World}{Q:Exit->Act->World->Prop}
  (hQ: ∀p a w,HRel G p (H ops.size) w->ERel p nt (E ops.size) a->Ext M p0 p h0 (H ops.size) w0 w->Q .normal a w) :
  ∀(fuel:Nat) (listed:Array Bool) (e:Env) (h:Heap) (p:Phi) (a:Act) (w:World),MInv ops n E H V listed e h->HRel G p h w->ERel p nt e a->Ext M p0 p h0 h w0 w →
   listed.toList.count false<=fuel->wpAny P .any ops Q fuel listed a w:=by
 have hend: ∀(listed:Array Bool) (e:Env) (h:Heap) (p:Phi) (a:Act) (w:World),MInv ops n E H V listed e h->HRel G p h w->ERel p nt e a->Ext M p0 p h0 h w0 w->(∀k,k<ops.size->listed.getD k false=true)->Q .normal a w:=by
  intro listed e h p a w D hr er ex hall
  obtain⟨m,hm1,hm2,rfl,hm3⟩:=D.heap
  have e1:H ops.size=H m:=T.flat hm1 hm2 (le_refl _) fun j oj h1 h2 hj=>by
   cases hreg:reg oj with
   | true=>rfl
   | false=>have:=(hm3 j oj (by omega) hj hreg).1 (hall j h2);omega
  have e2:e=E ops.size:=funext fun t=>by
   rw[D.env t, ←hv_text T.envs (t:=t) ops.size ops.size (le_refl _) (le_refl _)]
   exact hv_congr _ fun k hk _=>by rw[hall k hk];simp[hk]
  subst e2
  rw[←e1] at hr ex
  exact hQ p a w hr er ex
 have hready: ∀(listed:Array Bool) (e:Env) (h:Heap),MInv ops n E H V listed e h->Region.ready .any ops listed= []->∀k,k<ops.size->listed.getD k false=true:=by
  intro listed e h D hr k
  induction k using Nat.strongRecOn with
  | _ k ih=>
   intro hk
   cases hl:listed.getD k false with
   | true=>rfl
   | false=>
    exfalso
    have hks:k<listed.size:=by rw[D.lsize];exact hk
    have hkn:n<=k:=by
     rcases lt_or_ge k n with h1|h1
     ·have:=D.head k h1 hk;rw[this] at hl;cases hl
     ·exact h1
    have:k∈Region.ready .any ops listed:=by
     refine mem_ready.2 ⟨by simpa[Array.getD,hks] using hl,ops[k],Array.getElem?_eq_getElem hk,fun e he hb => ?_⟩
     have h1:=(mixT_spec hmix hkn (Array.getElem?_eq_getElem hk)).1 e he hb
     exact ih e.on h1 (by omega)
    rw[hr] at this
    cases this
 intro fuel
 induction fuel with
 | zero=>
  intro listed e h p a w D hr er ex hc
  have hall: ∀k,k<ops.size->listed.getD k false=true:=by
   intro k hk
   have hks:k<listed.size:=by rw[D.lsize];exact hk
   cases hl:listed.getD k false with
   | true=>rfl
   | false=>
    exfalso
    have h0:listed.toList.count false=0:=by omega
    have:false∈listed.toList:=by
     have e:listed[k]=false:=by simpa[Array.getD,hks] using hl
     rw[←e]
     simp
    rw[List.count_eq_zero] at h0
    exact h0 this
  refine⟨?_,hend listed e h p a w D hr er ex hall⟩
  cases hrd:Region.ready .any ops listed with
  | nil=>rfl
  | cons i r=>
   exfalso
   have hi:i∈Region.ready .any ops listed:=by rw[hrd];simp
   obtain⟨h1,o,h2,_⟩:=mem_ready.1 hi
   have hk:=(Array.getElem?_eq_some_iff.1 h2).1
   have hks:i<listed.size:=by rw[D.lsize];exact hk
   have:=hall i hk
   simp[Array.getD,hks] at this h1
   rw[h1] at this
   cases this
 | succ fuel ih=>
  intro listed e h p a w D hr er ex hc
  refine⟨fun hrd=>hend listed e h p a w D hr er ex (hready listed e h D hrd),fun i hi => ?_⟩
  obtain⟨hun,o,ho,hedge⟩:=mem_ready.1 hi
  have hlt:i<ops.size:=(Array.getElem?_eq_some_iff.1 ho).1
  have hll:i<listed.size:=by rw[D.lsize];exact hlt
  have hun':listed.getD i false=false:=by simpa[Array.getD,hll] using hun
  have hin:n<=i:=by
   rcases lt_or_ge i n with h1|h1
   ·have:=D.head i h1 hlt;rw[this] at hun';cases hun'
   ·exact h1
  obtain⟨_,_,hpair⟩:=mixT_spec hmix hin ho
  -- the operations that write what i looks at are done just where the text has them before i
  have same: ∀t,t∈o.looksAt ops∨o.dst=some t->∀k,k<ops.size->k≠i->((ops[k]?).bind (·.dst))=some t->listed.getD k false=decide (k<i):=by
   intro t ht k hk hki hd
   have hok:ops[k]? = some ops[k]:=Array.getElem?_eq_getElem hk
   rw[hok,Option.bind_some] at hd
   rcases lt_or_ge k n with hkn|hkn
   ·rw[D.head k hkn hk,decide_eq_true (by omega)]
   rcases lt_or_ge k i with h|h
   ·rw[decide_eq_true h]
    rcases (hpair k _ hkn h hok).1 with⟨e,he,hb,hon⟩|hap
    ·rw[←hon];exact hedge e he hb
    ·obtain⟨h1,h2,h3⟩:=Oper.apart_spec hap
     rcases ht with ht|ht
     ·exact absurd ht (h1 t hd)
     ·exact absurd ht (h2 t hd)
   ·have hik:i<k:=by omega
    rw[decide_eq_false (by omega)]
    rcases ((mixT_spec hmix hkn hok).2.2 i o hin hik ho).1 with⟨e,he,hb,hon⟩|hap
    ·cases hl:listed.getD k false with
     | false=>rfl
     | true=>
      have:=D.closed k _ hok hl e he hb
      rw[hon,hun'] at this
      cases this
    ·obtain⟨h1,h2,h3⟩:=Oper.apart_spec hap
     rcases ht with ht|ht
     ·exact absurd ht (h3 t hd)
     ·exact absurd hd (h2 t ht)
  have hval: ∀t,t∈o.looksAt ops->e t=E i t:=fun t ht=>by
   rw[D.env t, ←hv_text T.envs (t:=t) ops.size i (by omega) (le_refl _)]
   exact hv_congr _ fun k hk hd=>by
    by_cases hki:k=i
    ·subst hki;simp[hun']
    ·exact same t (.inl ht) k hk hki hd
  have hopv: ∀x∈o.op.operands,Opd.val e x=Opd.val (E i) x:=fun x hx=>by
   cases x with
   | tmp t=>exact hval t (mem_append_left _ (List.mem_filterMap.2 ⟨.tmp t,by simpa using hx,rfl⟩))
   | _=>rfl
  have hoB:=all_eq_true.1 hB o (by have:=Array.mem_of_getElem? ho;simpa using this)
  simp only[operB,Bool.and_eq_true,Array.all_eq_true_iff_forall_mem] at hoB
  have hdn: ∀d,o.dst=some d->d<nt:=fun d hd=>by have:=hoB.2;rw[hd] at this;simpa using this
  have hopd: ∀x∈o.op.operands,VRel p (Opd.val e x) (a.eval x):=fun x hx=>opd_rel hr (fun t _=>er.val t) (hoB.1 x hx)
  have hwt:Region.wanted o (yielded ops a.tmps)=wantedH ops o (E i):=by
   rw[←wantedH_congr (e:=E i) (e':=e) hval]
   exact wanted_rel fun g want t _ _=>⟨p,er.val t⟩
  have getD_set: ∀j,(listed.setIfInBounds i true).getD j false=if j=i then true else listed.getD j false:=fun j=>by
   by_cases hj:j=i
   ·subst hj;simp[Array.getD,hll]
   ·simp[Array.getD_eq_getD_getElem?,Array.getElem?_setIfInBounds_ne (Ne.symm hj),hj]
  have closed': ∀j oj,ops[j]? = some oj->(listed.setIfInBounds i true).getD j false=true->∀e∈oj.after,Region.binds .any e=true->(listed.setIfInBounds i true).getD e.on false=true:=by
   intro j oj hoj hl e he hb
   rw[getD_set] at hl ⊢
   by_cases hj:j=i
   ·subst hj
    rw[ho] at hoj;cases hoj
    split
    ·rfl
    ·exact hedge e he hb
   ·rw[if_neg hj] at hl
    split
    ·rfl
    ·exact D.closed j oj hoj hl e he hb
  have env': ∀t,put e o.dst (V i) t=hv ops E V (fun j=>(listed.setIfInBounds i true).getD j false) t ops.size:=by
   intro t
   by_cases hd:o.dst=some t
   ·have e1:hv ops E V (fun j=>(listed.setIfInBounds i true).getD j false) t ops.size=hv ops E V (fun j=>decide (j<i+1)) t ops.size:=hv_congr _ fun k hk hdk=>by
     rw[getD_set]
     by_cases hki:k=i
     ·subst hki;simp
     ·rw[if_neg hki,same t (.inr hd) k hk hki hdk]
      simp only[decide_eq_decide];omega
    rw[e1,hv_text T.envs (t:=t) ops.size (i+1) (by omega) (le_refl _),T.envs i o ho,hd]
    simp[put,upd]
   ·have e1:hv ops E V (fun j=>(listed.setIfInBounds i true).getD j false) t ops.size=hv ops E V (fun j=>listed.getD j false) t ops.size:=hv_congr _ fun k hk hdk=>by
     rw[getD_set]
     by_cases hki:k=i
     ·subst hki
      rw[ho] at hdk
      exact absurd hdk hd
     ·rw[if_neg hki]
    rw[e1, ←D.env t]
    cases hx:o.dst with
    | none=>rfl
    | some d=>simp only[put,upd];rw[if_neg (fun c=>hd (by rw[hx,c]))]
  have hcount:(listed.setIfInBounds i true).toList.count false<=fuel:=by
   have e:listed[i]=false:=by simpa[Array.getD,hll] using hun
   have:=List.count_set (a:=true) (b:=false) (l:=listed.toList) (i:=i) (by simpa using hll)
   simp only[Array.getElem_toList,e] at this
   have e2:(if (false==false)=true then 1 else 0)=1:=rfl
   have e3:(if (true==false)=true then 1 else 0)=0:=rfl
   rw[e2,e3] at this
   rw[Array.toList_setIfInBounds,this]
   omega
  obtain⟨m,hm1,hm2,hhm,hm3⟩:=D.heap
  have head': ∀j,j<n->j<ops.size->(listed.setIfInBounds i true).getD j false=true:=fun j h1 h2=>by
   rw[getD_set];split;rfl;exact D.head j h1 h2
  -- a step that keeps the heap
  have stay:reg o=true∨wantedH ops o (E i)=false->H (i+1)=H i->MInv ops n E H V (listed.setIfInBounds i true) (put e o.dst (V i)) h:=fun hro hHi=>by
   refine⟨by simp[D.lsize],closed',head',env', ?_⟩
   by_cases hreg:reg o=true
   ·refine⟨m,hm1,hm2,hhm,fun j oj h1 h2 h3 => ?_⟩
    rw[getD_set]
    by_cases hji:j=i
    ·subst hji;rw[ho] at h2;cases h2;rw[hreg] at h3;cases h3
    ·rw[if_neg hji];exact hm3 j oj h1 h2 h3
   ·have hreg:reg o=false:=by simpa using hreg
    have him:m<=i:=by
     rcases lt_or_ge i m with h1|h1
     ·have:=(hm3 i o hin ho hreg).2 h1;rw[hun'] at this;cases this
     ·exact h1
    have hb4: ∀j oj,n<=j->j<i->ops[j]? = some oj->reg oj=false->listed.getD j false=true:=fun j oj h1 h2 h3 h4=>
     waits_listed D.closed 8 i j o ho hedge ((hpair j oj h1 h2 h3).2 h4 hreg)
    have e1:H i=H m:=T.flat hm1 him (by omega) fun j oj h1 h2 h3=>by
     cases hrj:reg oj with
     | true=>rfl
     | false=>have:=(hm3 j oj (by omega) h3 hrj).1 (hb4 j oj (by omega) h2 h3 hrj);omega
    refine⟨i+1,by omega,by omega,by rw[hHi,e1];exact hhm,fun j oj h1 h2 h3 => ?_⟩
    rw[getD_set]
    by_cases hji:j=i
    ·rw[if_pos hji];simp;omega
    ·rw[if_neg hji]
     rcases lt_or_ge j i with h4|h4
     ·exact⟨fun _=>by omega,fun _=>hb4 j oj h1 h4 h2 h3⟩
     ·refine⟨fun hl => ?_,fun h5=>by omega⟩
      have:=waits_listed D.closed 8 j i oj h2 (D.closed j oj h2 hl) (((mixT_spec hmix h1 h2).2.2 i o hin (by omega) ho).2 hreg h3)
      rw[hun'] at this;cases this
  unfold wpOp
  simp only[ho]
  rw[hwt]
  rcases T.tail i o hin ho with⟨hw,⟨hreg,hHi,hs⟩|⟨hreg,hs⟩⟩|⟨hw,hv0,hHi⟩
  ·rw[if_pos hw]
   refine .inl ((hs h).congr hopv p a w hr hopd _ _ ?_)
   intro q v' w' hrq hvq exq
   replace hrq:=hrq.all
   exact ih _ _ _ q _ w' (stay (.inl hreg) hHi) hrq ((er.mono exq.le).put hdn hvq) (ex.trans exq) hcount
  ·rw[if_pos hw]
   have him:m<=i:=by
    rcases lt_or_ge i m with h1|h1
    ·have:=(hm3 i o hin ho hreg).2 h1;rw[hun'] at this;cases this
    ·exact h1
   have hb4: ∀j oj,n<=j->j<i->ops[j]? = some oj->reg oj=false->listed.getD j false=true:=fun j oj h1 h2 h3 h4=>
    waits_listed D.closed 8 i j o ho hedge ((hpair j oj h1 h2 h3).2 h4 hreg)
   have e1:H i=H m:=T.flat hm1 him (by omega) fun j oj h1 h2 h3=>by
    cases hrj:reg oj with
    | true=>rfl
    | false=>have:=(hm3 j oj (by omega) h3 hrj).1 (hb4 j oj (by omega) h2 h3 hrj);omega
   have hh:h=H i:=by rw[hhm,e1]
   subst hh
   refine .inl (hs.congr hopv p a w hr hopd _ _ ?_)
   intro q v' w' hrq hvq exq
   replace hrq:=hrq.all
   refine ih _ _ _ q _ w' ⟨by simp[D.lsize],closed',head',env',i+1,by omega,by omega,rfl,fun j oj h1 h2 h3 => ?_⟩ hrq ((er.mono exq.le).put hdn hvq) (ex.trans exq) hcount
   rw[getD_set]
   by_cases hji:j=i
   ·rw[if_pos hji];simp;omega
   ·rw[if_neg hji]
    rcases lt_or_ge j i with h4|h4
    ·exact⟨fun _=>by omega,fun _=>hb4 j oj h1 h4 h2 h3⟩
    ·refine⟨fun hl => ?_,fun h5=>by omega⟩
     have:=waits_listed D.closed 8 j i oj h2 (D.closed j oj h2 hl) (((mixT_spec hmix h1 h2).2.2 i o hin (by omega) ho).2 hreg h3)
     rw[hun'] at this;cases this
  ·rw[if_neg (by simp[hw])]
   have hst:=stay (.inr hw) hHi
   rw[hv0] at hst
   exact ih _ _ _ p _ w hst hr (er.put hdn (VRel.undef p)) ex hcount
end
section
variable {G:List (Nat×Nat)} {P:Program} {M:Nat->Prop} {ops:Array Oper} {E:Nat->Env} {H:Nat->Heap} {V:Nat->Value} {nt:Nat}
theorem wpAny_of_headK{n g:Nat}(hsz:ops.size=n+g)(T:TraceK G P M (head ops n) E H V)(hkok:killOK (head ops n)=true)(hB:(head ops n).toList.all (operB G nt)=true)
  (hmix:mixT ops n=true) (hgd:(ops.toList.take n).all (guardIn n)=true) {p0:Phi} {w0:World} {Q:Exit->Act->World->Prop}
  (hQ: ∀p a w,HRel G p (H n) w->ERel p nt (E n) a->Ext M p0 p (H 0) (H n) w0 w->wpAny P .any ops Q g (longer (Array.replicate n true) g) a w) :
  ∀(fuel:Nat) (listed:Array Bool) (p:Phi) (a:Act) (w:World),DInvK G M (head ops n) E H V nt p0 w0 listed p a w →
   listed.toList.count false=fuel->wpAny P .any ops Q (fuel+g) (longer listed g) a w:=by
 have hlex:=(killOK_spec hkok).1
 have hhs:(head ops n).size=n:=head_size (by omega)
 have sub: ∀(listed:Array Bool),listed.size=n->∀i,i<n->i∈Region.ready .any (head ops n) listed->i∈Region.ready .any ops (longer listed g):=by
  intro listed hl i hi hr
  obtain⟨h1,o,h2,h3⟩:=mem_ready.1 hr
  refine mem_ready.2 ⟨by rw[longer_in (by omega)];exact h1,o,by rw[←head_get hi];exact h2,fun e he hb => ?_⟩
  have h4:=h3 e he hb
  rcases lt_or_ge e.on listed.size with h5|h5
  ·rw[longer_in h5];exact h4
  ·rw[Array.getD_eq_getD_getElem?,Array.getElem?_eq_none h5] at h4;cases h4
 have sup: ∀(listed:Array Bool),listed.size=n->∀i,i<n->i∈Region.ready .any ops (longer listed g)->i∈Region.ready .any (head ops n) listed:=by
  intro listed hl i hi hr
  obtain⟨h1,o,h2,h3⟩:=mem_ready.1 hr
  refine mem_ready.2 ⟨by rw[←longer_in (g:=g) (by omega)];exact h1,o,by rw[head_get hi];exact h2,fun e he hb => ?_⟩
  have h4:=h3 e he hb
  rcases lt_or_ge e.on listed.size with h5|h5
  ·rw[longer_in h5] at h4;exact h4
  ·rw[longer_out h5] at h4;cases h4
 intro fuel
 induction fuel with
 | zero=>
  intro listed p a w D hcnt
  have hall: ∀k,k<(head ops n).size->listed.getD k false=true:=by
   intro k hk
   have hks:k<listed.size:=by rw[D.lsize];exact hk
   cases hl:listed.getD k false with
   | true=>rfl
   | false=>
    exfalso
    have:false∈listed.toList:=by
     have e:listed[k]=false:=by simpa[Array.getD,hks] using hl
     rw[←e]
     simp
    rw[List.count_eq_zero] at hcnt
    exact hcnt this
  have hle:listed=Array.replicate n true:=by
   refine Array.ext (by rw[D.lsize,hhs];simp) fun i hi1 hi2 => ?_
   have:=hall i (by rw[←D.lsize];exact hi1)
   simpa[Array.getD,hi1] using this
  have hcut:cut p (H (head ops n).size).length=p:=cut_self D.dom
  have h1:=D.hr (head ops n).size (le_refl _) (fun j oj hoj _ _=>(Array.getElem?_eq_some_iff.1 hoj).1)
  rw[hcut] at h1
  have h2:ERel p nt (E (head ops n).size) a:=⟨D.asize,D.adef,fun t=>by
   have h2:=D.tv t
   have h3:holds (head ops n) E H V (fun i=>listed.getD i false) t (head ops n).size=holds (head ops n) E H V (fun j=>decide (j<(head ops n).size)) t (head ops n).size:=holds_congr _ fun k hk _=>by rw[hall k hk];simp[hk]
   rw[h3,(holds_textK T (t:=t) (head ops n).size (head ops n).size (le_refl _) (le_refl _)).1] at h2
   exact h2.mono (cut_le _ _)⟩
  have h3:=D.ext
  rw[hhs] at h1 h2 h3
  rw[hle,zero_add]
  exact hQ p a w h1 h2 h3
 | succ fuel ih=>
  intro listed p a w D hcnt
  have hls:listed.size=n:=by rw[D.lsize,hhs]
  obtain⟨i0,hi0,hu0⟩: ∃i0,i0<n∧listed.getD i0 true=false:=by
   have:false∈listed.toList:=by
    rw[←List.count_pos_iff];omega
   obtain⟨i0,hi0,e⟩:=mem_iff_getElem.1 this
   have hi0':i0<listed.size:=by simpa using hi0
   exact⟨i0,by omega,by simpa[Array.getD,hi0'] using e⟩
  have hready:Region.ready .any (head ops n) listed= []->∀k,k<n->listed.getD k false=true:=by
   intro hr k
   induction k using Nat.strongRecOn with
   | _ k ihk=>
    intro hk
    cases hl:listed.getD k false with
    | true=>rfl
    | false=>
     exfalso
     have hks:k<listed.size:=by omega
     have hkh:k<(head ops n).size:=by omega
     have:k∈Region.ready .any (head ops n) listed:=by
      refine mem_ready.2 ⟨by simpa[Array.getD,hks] using hl,(head ops n)[k],Array.getElem?_eq_getElem hkh,fun e he hb => ?_⟩
      have h1:=lexOK_back hlex (Array.getElem?_eq_getElem hkh) he hb
      exact ihk e.on h1 (by omega)
     rw[hr] at this
     cases this
  have closedL: ∀j oj,ops[j]? = some oj->(longer listed g).getD j false=true->∀e∈oj.after,Region.binds .any e=true->(longer listed g).getD e.on false=true:=by
   intro j oj hj hl e he hb
   rcases lt_or_ge j listed.size with h5|h5
   ·rw[longer_in h5] at hl
    have:=D.closed j oj (by rw[head_get (by omega)];exact hj) hl e he hb
    rcases lt_or_ge e.on listed.size with h6|h6
    ·rw[longer_in h6];exact this
    ·rw[Array.getD_eq_getD_getElem?,Array.getElem?_eq_none h6] at this;cases this
   ·rw[longer_out h5] at hl;cases hl
  rw[show fuel+1+g=(fuel+g)+1 by omega]
  refine⟨fun hr => ?_,fun i hi => ?_⟩
  ·exfalso
   have hr2:Region.ready .any (head ops n) listed= []:=by
    cases hx:Region.ready .any (head ops n) listed with
    | nil=>rfl
    | cons i r=>
     exfalso
     have hi:i∈Region.ready .any (head ops n) listed:=by rw[hx];simp
     have hin:i<n:=by
      obtain⟨_,o,h2,_⟩:=mem_ready.1 hi
      have:=(Array.getElem?_eq_some_iff.1 h2).1
      omega
     have:=sub listed hls i hin hi
     rw[hr] at this
     cases this
   have:=hready hr2 i0 (by omega)
   have hx:i0<listed.size:=by omega
   simp[Array.getD,hx] at this hu0
   rw[this] at hu0;cases hu0
  ·have hin:i<n:=by
    rcases lt_or_ge i n with h|h
    ·exact h
    ·exfalso
     obtain⟨_,o,ho,hedge⟩:=mem_ready.1 hi
     have:=waits_listed closedL 8 i i0 o ho hedge ((mixT_spec hmix h ho).2.1 i0 hi0)
     have hx:i0<listed.size:=by omega
     rw[longer_in hx] at this
     simp[Array.getD,hx] at this hu0
     rw[this] at hu0;cases hu0
   have hiA:=sup listed hls i hin hi
   obtain⟨h1,o,h2,_⟩:=mem_ready.1 hi
   have hgo:guardIn n o=true:=by
    refine all_eq_true.1 hgd o ?_
    have:(ops.toList.take n)[i]? = some o:=by rw[List.getElem?_take_of_lt hin];simpa using h2
    exact mem_of_getElem? this
   refine wpOp_head hin h2 hgo (D.step T hkok hB hiA fun p' a' w' D' => ?_)
   rw[longer_set (by omega)]
   refine ih _ p' a' w' D' ?_
   have hks:i<listed.size:=by omega
   have e:listed[i]=false:=by
    rw[longer_in hks] at h1
    simpa[Array.getD,hks] using h1
   have:=List.count_set (a:=true) (b:=false) (l:=listed.toList) (i:=i) (by simpa using hks)
   simp only[Array.getElem_toList,e] at this
   have e2:(if (false==false)=true then 1 else 0)=1:=rfl
   have e3:(if (true==false)=true then 1 else 0)=0:=rfl
   rw[e2,e3] at this
   rw[Array.toList_setIfInBounds,this]
   omega
end
def HOpsP(R:Nat->Oper->Env->Heap->Value->Heap->Prop):Nat->List Oper->Env->Heap->(Env->Heap->Prop)->Prop
 | _,[],e,h,K=>K e h
 | k,o::os,e,h,K=> ∃v h',R k o e h v h'∧HOpsP R (k+1) os (put e o.dst v) h' K
theorem HOpsP.trace{R:Nat->Oper->Env->Heap->Value->Heap->Prop}: ∀(l:List Oper) (k:Nat) (e:Env) (h:Heap) (K:Env->Heap->Prop),HOpsP R k l e h K →
  ∃(E:Nat->Env) (H:Nat->Heap) (V:Nat->Value),E k=e∧H k=h∧K (E (k+l.length)) (H (k+l.length)) ∧
   ∀i o,l[i]? = some o->E (k+i+1)=put (E (k+i)) o.dst (V (k+i))∧R (k+i) o (E (k+i)) (H (k+i)) (V (k+i)) (H (k+i+1))
 | [],k,e,h,K,hk=>⟨fun _=>e,fun _=>h,fun _=>undef,rfl,rfl,hk,fun i o hi=>by simp at hi⟩
 | o::os,k,e,h,K,⟨v,h',hs,hk⟩=>by
  obtain⟨E,H,V,h1,h2,h3,h4⟩:=HOpsP.trace os (k+1) _ _ K hk
  refine⟨fun i=>if i=k then e else E i,fun i=>if i=k then h else H i,fun i=>if i=k then v else V i,by simp,by simp, ?_, ?_⟩
  ·have:k+(os.length+1)≠k:=by omega
   simp only[length_cons,this,if_false]
   rw[show k+(os.length+1)=k+1+os.length from by omega]
   exact h3
  ·intro i o1 hi
   cases i with
   | zero=>
    simp only[getElem?_cons_zero,Option.some.injEq] at hi
    subst hi
    have:k+1≠k:=by omega
    simp only[add_zero,this,if_false,if_true,h1,h2]
    exact⟨trivial,hs⟩
   | succ i=>
    simp only[getElem?_cons_succ] at hi
    have e1:k+(i+1)≠k:=by omega
    have e2:k+(i+1)+1≠k:=by omega
    have:=h4 i o1 hi
    simp only[e1,e2,if_false]
    rw[show k+(i+1)=k+1+i from by omega]
    exact this
def Rmix(G:List (Nat×Nat))(P:Program)(M:Nat->Prop)(ops:Array Oper)(m:Nat)(k:Nat)(o:Oper)(e:Env)(h:Heap)(v:Value)(h':Heap):Prop:=
 (k<m->(wantedH ops o e=true∧Sub h h'∧((kill o=false∧HStep G P o allT (fun _=>False) e h v h'∧h<+:h')∨(kill o=true∧HStep G P o allT M e h v h')))∨(wantedH ops o e=false∧v=undef∧h'=h)) ∧
 (m<=k->(wantedH ops o e=true∧((reg o=true∧h'=h∧∀h2,HStep G P o allT M e h2 v h2)∨(reg o=false∧HStep G P o allT M e h v h')))∨(wantedH ops o e=false∧v=undef∧h'=h))
def mixOK(ops:Array Oper)(m:Nat):Bool:=decide (m<ops.size)&&(killOK (head ops m)&&((ops.toList.take m).all (guardIn m)&&mixT ops m))
theorem HWp.region_mix{G:List (Nat×Nat)}{P:Program}{n:Nat}{M:Nat->Prop}{ops:Array Oper}{id m:Nat}{Q:Exit->Env->Heap->Prop}{e:Env}{h:Heap}(hm:P.follows .mixedOrders=true)(hok:mixOK ops m=true)(hB:ops.toList.all (operB G n)=true)
  (hh:HOpsP (Rmix G P M ops m) 0 ops.toList e h (fun e' h'=>Q .normal e' h')):HWp G P n M (.region id ops true) Q e h:=by
 simp only[mixOK,Bool.and_eq_true,decide_eq_true_eq] at hok
 obtain⟨hmlt,hkok,hgd,hmix⟩:=hok
 obtain⟨E,H,V,h1,h2,h3,h4⟩:=HOpsP.trace ops.toList 0 e h _ hh
 simp only[zero_add,Array.length_toList] at h3 h4
 have h4: ∀i o,ops[i]? = some o->E (i+1)=put (E i) o.dst (V i)∧Rmix G P M ops m i o (E i) (H i) (V i) (H (i+1)):=fun i o hi=>by
  have:=h4 i o (by simpa using hi)
  exact this
 have hhs:(head ops m).size=m:=head_size (by omega)
 have hBh:(head ops m).toList.all (operB G n)=true:=all_eq_true.2 fun o ho=>all_eq_true.1 hB o (by simp[head] at ho;exact Array.mem_toList_iff.2 (by simpa using List.mem_of_mem_take ho))
 have T:TraceK G P M (head ops m) E H V:=⟨fun i o hi=>by
  have him:i<m:=by
   have:=(Array.getElem?_eq_some_iff.1 hi).1
   omega
  rw[head_get him] at hi
  have hi2:(ops.toList.take m)[i]? = some o:=by rw[List.getElem?_take_of_lt him];simpa using hi
  obtain⟨hE,hR,_⟩:=h4 i o hi
  have hgo:guardIn m o=true:=all_eq_true.1 hgd o (mem_of_getElem? hi2)
  have hR:=hR him
  rw[←wantedH_head hgo] at hR
  exact⟨hE,hR.imp (fun⟨a,b,c⟩=>⟨a,b,c.imp (fun⟨x,y,z⟩=>⟨x,y,prefix_get z⟩) (fun x=>x)⟩) (fun x=>x)⟩⟩
 have TM:TraceM G P M ops m E H V:=⟨fun i o hi=>(h4 i o hi).1,fun i o hmi hi=>(h4 i o hi).2.2 hmi⟩
 refine⟨.normal,E ops.size,H ops.size,fun p a w hr er => ?_,h3⟩
 refine wp_region_any hm ?_
 have e0:Array.replicate ops.size false=longer (Array.replicate m false) (ops.size-m):=by
  rw[longer,Array.replicate_append_replicate];congr 1;omega
 rw[e0]
 have hsz:ops.size=m+(ops.size-m):=by omega
 have goal:=wpAny_of_headK (Q:=fun x1 a' w'=>x1=Exit.normal∧∃q,HRel G q (H ops.size) w'∧ERel q n (E ops.size) a'∧Ext M p q h (H ops.size) w w') hsz T hkok hBh hmix hgd (p0:=p) (w0:=w) ?_ m (Array.replicate m false) p a {w with drawn:=w.drawn+1} ⟨by simp[hhs], ?_,er.size,er.defers, ?_, ?_, ?_, ?_,fun id t e=>(hr.dom id t e).2, ?_, ?_⟩ ?_
 ·rw[←hsz] at goal;exact goal
 ·intro q a' w' hr' er' ex
  rw[h2] at ex
  refine wpAny_mix TM hmix hB (p0:=p) (h0:=h) (w0:=w) (fun q2 a2 w2 hr2 er2 ex2=>⟨rfl,q2,hr2,er2,ex2⟩) _ _ (E m) (H m) q a' w' ⟨by simp[longer];omega, ?_, ?_, ?_,m,le_refl _,by omega,rfl, ?_⟩ hr' er' ex ?_
  ·intro j oj hj hl e he hb
   rcases lt_or_ge j m with h5|h5
   ·have h6:e.on<j:=lexOK_back (killOK_spec hkok).1 (by rw[head_get h5];exact hj) he hb
    rw[longer_in (by simp;omega)]
    simp[Array.getD_eq_getD_getElem?,Array.getElem?_replicate,show e.on<m by omega]
   ·rw[longer_out (by simp;omega)] at hl;cases hl
  ·intro j hj _
   rw[longer_in (by simp;omega)]
   simp[Array.getD_eq_getD_getElem?,Array.getElem?_replicate,hj]
  ·intro t
   rw[←hv_text TM.envs (t:=t) ops.size m (by omega) (le_refl _)]
   refine hv_congr _ fun k hk _ => ?_
   rcases lt_or_ge k m with h5|h5
   ·rw[longer_in (by simp;omega)]
    simp[Array.getD_eq_getD_getElem?,Array.getElem?_replicate,h5]
   ·rw[longer_out (by simp;omega)]
    simp;omega
  ·intro j oj hj _ _
   rw[longer_out (by simp;omega)]
   simp;omega
  ·simp[longer,List.count_append,List.count_replicate]
 ·intro i o _ hl
  simp[Array.getD_eq_getD_getElem?] at hl
  have:(Array.replicate m false)[i]?.getD false=false:=by
   rw[Array.getElem?_replicate];split<;>rfl
  rw[this] at hl
  cases hl
 ·intro t
  have hz: ∀k,holds (head ops m) E H V (fun i=>(Array.replicate m false).getD i false) t k=(E 0 t,(H 0).length):=by
   intro k
   induction k with
   | zero=>rfl
   | succ k ih=>
    unfold holds
    rw[if_neg,ih]
    rintro⟨hc,_⟩
    rw[Array.getD_eq_getD_getElem?,Array.getElem?_replicate] at hc
    split at hc<;>cases hc
  rw[hz]
  simp only[h1,h2]
  rw[cut_self (fun id t e=>(hr.dom id t e).1)]
  exact er.val t
 ·intro k hk _
  have hsub:=T.sub (i:=0) (k:=k) (by omega) hk
  have hl:=hsub.1
  rw[h2] at hl hsub
  rw[cut_self (fun id t e=>lt_of_lt_of_le (hr.dom id t e).1 hl)]
  have hr2:=hr.drew
  refine⟨hr2.glob,fun id t e=>⟨lt_of_lt_of_le (hr2.dom id t e).1 hl,(hr2.dom id t e).2⟩,fun id t kb tt e hb hd => ?_,fun id t kb e hb => ?_,fun id id' t t' kb kb' e e' hb hb' hrw hd => ?_⟩
  ·exact hr2.blk id t kb tt e (hsub.alive (hr.dom id t e).1 hb hd) hd
  ·obtain⟨k0,hk0,he⟩:=hsub.esz (hr.dom id t e).1 hb
   rw[he]
   exact hr2.esz id t k0 e hk0
  ·exact hr2.inj id id' t t' kb kb' e e' (hsub.alive (hr.dom id t e).1 hb (by rw[hrw];decide)) (hsub.alive (hr.dom id' t' e').1 hb' hd) hrw hd
 ·intro i hi _ id h5 _
  have hl:=T.len (i:=0) (k:=i) (by omega) (by omega)
  rw[h2] at hl
  cases hp:p id with
  | none=>rfl
  | some t=>have:=(hr.dom id t hp).1;omega
 ·intro id t e
  have hl:=T.len (i:=0) (k:=(head ops m).size) (by omega) (le_refl _)
  rw[h2] at hl
  exact lt_of_lt_of_le (hr.dom id t e).1 hl
 ·have hl:=T.len (i:=0) (k:=(head ops m).size) (by omega) (le_refl _)
  rw[h2] at hl ⊢
  exact⟨Phi.le_refl p,fun id t e e'=>(by rw[e] at e';cases e'),hl,fun _ _ _=>rfl,le_refl _,rfl,rfl,rfl⟩
 ·intro i o hi _ _ id t id' t' e h5 _ _
  have hil:=(Array.getElem?_eq_some_iff.1 hi).1
  have hl:=T.len (i:=0) (k:=i) (by omega) (by omega)
  rw[h2] at hl
  have:=(hr.dom id t e).1
  omega
 ·simp
def LRel(p:Phi)(x y:List Value):Prop:=x.length=y.length∧∀(i:Nat) (v:Value),x[i]? = some v->∃v',y[i]? = some v'∧VRel p v v'
theorem ARel.list{p:Phi}{x y:Array Value}(r:ARel p x y):LRel p x.toList y.toList:=
 ⟨by simpa using r.1,fun i v hv=>by
  have hi:i<x.size:=by
   have:=(List.getElem?_eq_some_iff.1 hv).1;simpa using this
  have hi':i<y.size:=by rw[←r.1];exact hi
  have e:x[i]=v:=by simpa[hi] using hv
  exact⟨y[i],by simp[hi'],e▸r.2 i hi hi'⟩⟩
theorem LRel.array{p:Phi}{x y:List Value}(r:LRel p x y):ARel p x.toArray y.toArray:=
 ⟨by simpa using r.1,fun i h h'=>by
  have hi:i<x.length:=by simpa using h
  obtain⟨v',e,k⟩:=r.2 i x[i] (getElem?_eq_getElem hi)
  have hi':i<y.length:=by simpa using h'
  rw[getElem?_eq_getElem hi'] at e
  cases e
  simpa using k⟩
theorem LRel.nil(p:Phi):LRel p [] []:=⟨rfl,fun i v h=>by simp at h⟩
theorem LRel.append{p:Phi}{x y x' y':List Value}(r:LRel p x y)(r':LRel p x' y'):LRel p (x++x') (y++y'):=by
 refine⟨by simp[r.1,r'.1],fun i v hv => ?_⟩
 rcases lt_or_ge i x.length with h|h
 ·rw[getElem?_append_left h] at hv
  obtain⟨v',a,b⟩:=r.2 i v hv
  exact⟨v',by rw[getElem?_append_left (by rw[←r.1];exact h)];exact a,b⟩
 ·rw[getElem?_append_right h] at hv
  obtain⟨v',a,b⟩:=r'.2 _ v hv
  exact⟨v',by rw[getElem?_append_right (by rw[←r.1];exact h), ←r.1];exact a,b⟩
theorem LRel.take{p:Phi}{x y:List Value}(r:LRel p x y)(n:Nat):LRel p (x.take n) (y.take n):=by
 refine⟨by simp[r.1],fun i v hv => ?_⟩
 rw[getElem?_take] at hv
 split at hv
 ·rename_i h
  obtain⟨v',a,b⟩:=r.2 i v hv
  exact⟨v',by rw[getElem?_take,if_pos h];exact a,b⟩
 ·cases hv
theorem LRel.drop{p:Phi}{x y:List Value}(r:LRel p x y)(n:Nat):LRel p (x.drop n) (y.drop n):=by
 refine⟨by simp[r.1],fun i v hv => ?_⟩
 rw[getElem?_drop] at hv
 obtain⟨v',a,b⟩:=r.2 _ v hv
 exact⟨v',by rw[getElem?_drop];exact a,b⟩
theorem LRel.oneC{p:Phi}{x y:List Value}(r:LRel p x y)(h: ∀v∈x,HH.oneC v=true): ∀v∈y,HH.oneC v=true:=by
 intro v hv
 obtain⟨i,hi,rfl⟩:=List.getElem_of_mem hv
 have hi':i<x.length:=by rw[r.1];exact hi
 obtain⟨v',a,b⟩:=r.2 i x[i] (getElem?_eq_getElem hi')
 rw[getElem?_eq_getElem hi] at a
 cases a
 rw[b.oneCell]
 exact h _ (by simp)
section
variable {G:List (Nat×Nat)} {T M:Nat->Prop} {p:Phi} {h:Heap} {w:World}
def phiPush(p:Phi)(id:Nat)(t:Tgt):Phi:=fun j=>if j=id then some t else p j
theorem HRelT.push(r:HRelT G T p h w){cells:List Value}{c:Array Value}(esz:Nat)(elem:TypeId)(st:St)(fr:Nat×Nat)(hc:LRel p cells (c.toList.take cells.length))(hsz:cells.length<=c.size)(hfr: ∀o,o<c.size+(esz-1)->¬(fr.1<=o∧o<fr.2)) :
  HRelT G (fun id=>T id∨h.length<=id) (phiPush p h.length ⟨w.heap.size,0,esz,c.size⟩) (h++ [⟨cells,esz,st⟩]) {w with heap:=w.heap.push (.cells c elem fr)} ∧
  Ext M p (phiPush p h.length ⟨w.heap.size,0,esz,c.size⟩) h (h++ [⟨cells,esz,st⟩]) w {w with heap:=w.heap.push (.cells c elem fr)}:=by
 have hle:p.le (phiPush p h.length ⟨w.heap.size,0,esz,c.size⟩):=fun id t e=>by
  unfold phiPush
  rw[if_neg]
  ·exact e
  ·intro hid
   have:=(r.dom id t e).1
   omega
 have hkeep: ∀b,b<w.heap.size->(w.heap.push (Obj.cells c elem fr))[b]? = w.heap[b]? := fun b hb=>by
  rw[Array.getElem?_push,if_neg (by omega)]
 have split: ∀id t,phiPush p h.length ⟨w.heap.size,0,esz,c.size⟩ id=some t->(p id=some t∧id<h.length∧t.b<w.heap.size)∨(id=h.length∧t=⟨w.heap.size,0,esz,c.size⟩):=by
  intro id t e
  unfold phiPush at e
  split at e
  ·rename_i hid;exact .inr ⟨hid,(Option.some.inj e).symm⟩
  ·exact .inl ⟨e,r.dom id t e⟩
 refine⟨⟨fun g hg => ?_,fun id t e => ?_,fun id t k tt e hk hd => ?_,fun id t k e hk => ?_,fun id id' t t' k k' e e' hk hk' hrw hd hb => ?_⟩, ?_⟩
 ·obtain⟨t,a,b⟩:=r.glob g hg
  exact⟨t,hle _ _ a,b⟩
 ·rcases split id t e with⟨_,a,b⟩|⟨rfl,rfl⟩
  ·exact⟨by simp;omega,by simp;omega⟩
  ·exact⟨by simp,by simp⟩
 ·rcases split id t e with⟨a,b,b'⟩|⟨rfl,rfl⟩
  ·rw[getElem?_append_left b] at hk
   rcases tt with tt|tt
   ·obtain⟨x1,cc,el,f,x2,x3,x4,x5,x6⟩:=r.blk id t k tt a hk hd
    exact⟨x1,cc,el,f,by rw[hkeep _ b'];exact x2,x3,x4,fun i v hv=>let ⟨v',y1,y2⟩:=x5 i v hv;⟨v',y1,y2.mono hle⟩,x6⟩
   ·omega
  ·rw[getElem?_append_right (le_refl _),sub_self] at hk
   simp only[getElem?_cons_zero,Option.some.injEq] at hk
   subst hk
   refine⟨rfl,c,elem,fr, ?_,rfl,by simpa using hsz,fun i v hv => ?_,fun _=>hfr⟩
   ·show (w.heap.push _)[w.heap.size]? = _
    rw[Array.getElem?_push,if_pos rfl]
   ·obtain⟨v',a,b⟩:=hc.2 i v hv
    rw[getElem?_take] at a
    split at a
    ·exact⟨v',by simpa using a,b.mono hle⟩
    ·cases a
 ·rcases split id t e with⟨a,b,b'⟩|⟨rfl,rfl⟩
  ·rw[getElem?_append_left b] at hk
   exact r.esz id t k a hk
  ·rw[getElem?_append_right (le_refl _),sub_self] at hk
   simp only[getElem?_cons_zero,Option.some.injEq] at hk
   subst hk
   rfl
 ·rcases split id t e with⟨a,b,b'⟩|⟨rfl,rfl⟩<;>rcases split id' t' e' with⟨a',c',c''⟩|⟨rfl,rfl⟩
  ·rw[getElem?_append_left b] at hk
   rw[getElem?_append_left c'] at hk'
   exact r.inj id id' t t' k k' a a' hk hk' hrw hd hb
  ·simp at hb;omega
  ·simp at hb;omega
  ·rfl
 ·refine⟨hle,fun id t e en => ?_,by simp,fun b hb _=>hkeep b hb,by simp,rfl,rfl,rfl⟩
  rcases split id t e with⟨a,_⟩|⟨rfl,rfl⟩
  ·rw[a] at en;cases en
  ·exact⟨le_refl _, .inl (le_refl _)⟩
theorem HRelT.push'(r:HRelT G T p h w){cells:List Value}{c:Array Value}(esz:Nat)(elem:TypeId)(hc:LRel p cells c.toList) :
  HRelT G (fun id=>T id∨h.length<=id) (phiPush p h.length ⟨w.heap.size,0,esz,c.size⟩) (h++ [⟨cells,esz, .rw⟩]) {w with heap:=w.heap.push (.cells c elem (0,0))} ∧
  Ext M p (phiPush p h.length ⟨w.heap.size,0,esz,c.size⟩) h (h++ [⟨cells,esz, .rw⟩]) w {w with heap:=w.heap.push (.cells c elem (0,0))}:=by
 have hl:cells.length=c.size:=by simpa using hc.1
 refine r.push esz elem .rw (0,0) ?_ (by omega) (fun o _=>by omega)
 rw[hl]
 have:c.toList.take c.size=c.toList:=take_of_length_le (by simp)
 rw[this]
 exact hc
theorem phiPush_same{p:Phi}{id:Nat}{t:Tgt}:phiPush p id t id=some t:=by simp[phiPush]
theorem HRelT.cells(r:HRelT G T p h w){id off n:Nat}{t:Tgt}{k:Blk}(ht:T id)(hp:p id=some t)(hk:h[id]? = some k)(hd:k.st ≠ .dead)(hn:off+n<=k.cells.length) :
  ∃cs:List Value,LRel p ((k.cells.drop off).take n) cs∧cs.length=n∧∀j v,cs[j]? = some v->w.cell? (Addr.add ⟨t.b,off+t.d,none⟩ j)=some v:=by
 obtain⟨_,c,el,fr,h1,h2,h3,h4,_⟩:=r.blk id t k ht hp hk hd
 refine⟨(c.toList.drop (off+t.d)).take n,⟨by simp;omega,fun i v hv => ?_⟩,by simp;omega,fun j v hv => ?_⟩
 ·rw[getElem?_take] at hv ⊢
  split at hv
  ·rename_i hi
   rw[if_pos hi]
   rw[getElem?_drop] at hv
   obtain⟨v',a,b⟩:=h4 _ v hv
   refine⟨v', ?_,b⟩
   rw[getElem?_drop]
   simpa[Nat.add_comm,Nat.add_left_comm,add_assoc] using a
  ·cases hv
 ·rw[getElem?_take] at hv
  split at hv
  ·rw[getElem?_drop] at hv
   have e:Addr.add ⟨t.b,off+t.d,none⟩ j=⟨t.b,off+t.d+j,none⟩:=by
    unfold Addr.add
    split
    ·rename_i hj;simp[hj]
    ·rfl
   rw[e]
   simp[World.cell?,h1]
   simpa using hv
  ·cases hv
def setRange(cells:List Value)(off:Nat)(vs:List Value):List Value:=cells.take off++vs++cells.drop (off+vs.length)
theorem setRange_length{cells:List Value}{off:Nat}{vs:List Value}(hl:off+vs.length<=cells.length):(setRange cells off vs).length=cells.length:=by
 unfold setRange;simp;omega
theorem LRel.setRange{x y:List Value}{off:Nat}{vs us:List Value}(r:LRel p x y)(r':LRel p vs us):LRel p (HH.setRange x off vs) (HH.setRange y off us):=by
 unfold HH.setRange
 rw[←r'.1]
 exact ((r.take off).append r').append (r.drop _)
theorem HRelT.setRow(r:HRelT G T p h w){id off:Nat}{t:Tgt}{k:Blk}{vs us:List Value}(ht:T id)(hp:p id=some t)(hk:h[id]? = some k)(hd:k.st = .rw)
  (hv:LRel p vs us) (hn:off+vs.length<=k.cells.length) (hm:M id) :
  ∃(c:Array Value) (el:TypeId) (fr:Nat×Nat),w.heap[t.b]? = some (.cells c el fr)∧off+t.d+us.length<=c.size∧(∀o,o<c.size->¬(fr.1<=o∧o<fr.2)) ∧
   ∀w':World,w'.os=w.os->w'.tape=w.tape->w'.output=w.output->w'.heap.size=w.heap.size->(∀b,b≠t.b->w'.heap[b]? = w.heap[b]?) →
    w'.heap[t.b]? = some (.cells (HH.setRange c.toList (off+t.d) us).toArray el fr) →
    HRelT G T p (h.set id ⟨HH.setRange k.cells off vs,k.esz, .rw⟩) w'∧Ext M p p h (h.set id ⟨HH.setRange k.cells off vs,k.esz, .rw⟩) w w':=by
 obtain⟨x1,c,el,fr,x2,x3,x4,x5,x6⟩:=r.blk id t k ht hp hk (by rw[hd];decide)
 have hlen:vs.length=us.length:=hv.1
 refine⟨c,el,fr,x2,by omega,fun o ho=>x6 hd o (by omega),fun w' hos htape hout hsz hoth hrow => ?_⟩
 have hid:id<h.length:=(List.getElem?_eq_some_iff.1 hk).1
 have hget: ∀j,(h.set id ⟨HH.setRange k.cells off vs,k.esz, .rw⟩)[j]? = if id=j then some ⟨HH.setRange k.cells off vs,k.esz, .rw⟩ else h[j]? := fun j=>by
  rw[List.getElem?_set]
  split
  ·rename_i hj;subst hj;rfl
  ·rfl
 have hst: ∀(j:Nat) (kj:Blk),(h.set id ⟨HH.setRange k.cells off vs,k.esz, .rw⟩)[j]? = some kj->∃kj':Blk,h[j]? = some kj'∧kj'.st=kj.st:=fun j kj hj=>by
  rw[hget] at hj
  split at hj
  ·rename_i e;subst e;cases hj;exact⟨k,hk,hd⟩
  ·exact⟨kj,hj,rfl⟩
 refine⟨⟨r.glob,fun j tj e=>⟨by simpa using (r.dom j tj e).1,by rw[hsz];exact (r.dom j tj e).2⟩,fun j tj kj tt e hj hdj => ?_,fun j tj kj e hj => ?_,fun j j' tj tj' kj kj' e e' hj hj' hrw hdd hb => ?_⟩, ?_⟩
 ·rw[hget] at hj
  split at hj
  ·rename_i he
   subst he
   cases hj
   have:tj=t:=Option.some.inj (e.symm.trans hp)
   subst this
   have hsr:(HH.setRange c.toList (off+tj.d) us).length=c.size:=by rw[setRange_length (by simp;omega)];simp
   refine⟨x1,_,el,fr,hrow,by simpa[hsr] using x3, ?_,fun i v hi => ?_,fun _ o ho=>x6 hd o (by simpa[hsr] using ho)⟩
   ·simp only[size_toArray,hsr]
    rw[setRange_length hn]
    exact x4
   ·have hi':=(List.getElem?_eq_some_iff.1 hi).1
    rw[setRange_length hn] at hi'
    unfold HH.setRange at hi ⊢
    simp only[List.getElem?_toArray]
    rcases lt_or_ge i off with h1|h1
    ·rw[append_assoc,getElem?_append_left (by simp;omega),getElem?_take,if_pos h1] at hi
     obtain⟨v',a,b⟩:=x5 i v hi
     refine⟨v', ?_,b⟩
     rw[append_assoc,getElem?_append_left (by simp;omega),getElem?_take,if_pos (by omega)]
     simpa using a
    ·rcases lt_or_ge i (off+vs.length) with h2|h2
     ·rw[append_assoc,getElem?_append_right (by simp;omega),getElem?_append_left (by simp;omega)] at hi
      obtain⟨v',a,b⟩:=hv.2 _ v hi
      refine⟨v', ?_,b⟩
      rw[append_assoc,getElem?_append_right (by simp;omega),getElem?_append_left (by simp;omega)]
      rw[←a]
      congr 1
      simp
      omega
     ·rw[getElem?_append_right (by simp;omega),getElem?_drop] at hi
      obtain⟨v',a,b⟩:=x5 _ v hi
      refine⟨v', ?_,b⟩
      rw[getElem?_append_right (by simp;omega),getElem?_drop,Array.getElem?_toList]
      rw[←a]
      congr 1
      simp
      omega
  ·rename_i he
   obtain⟨y1,cc,el2,fr2,y2,y3,y4,y5,y6⟩:=r.blk j tj kj tt e hj hdj
   have hbne:tj.b≠t.b:=fun hb=>he (r.inj id j t tj k kj hp e hk hj hd hdj hb.symm)
   exact⟨y1,cc,el2,fr2,by rw[hoth _ hbne];exact y2,y3,y4,y5,y6⟩
 ·rw[hget] at hj
  split at hj
  ·rename_i he
   subst he
   cases hj
   exact r.esz id tj k e hk
  ·exact r.esz j tj kj e hj
 ·obtain⟨k1,a1,a2⟩:=hst j kj hj
  obtain⟨k2,b1,b2⟩:=hst j' kj' hj'
  exact r.inj j j' tj tj' k1 k2 e e' a1 b1 (a2.trans hrw) (by rw[b2];exact hdd) hb
 ·refine⟨Phi.le_refl p,fun j tj e en=>(by rw[e] at en;cases en),by simp,fun b hb hno=>hoth b (fun hbt=>hno id t hp hm hbt.symm),by omega,hos,htape,hout⟩
end
section
variable {G:List (Nat×Nat)} {P:Program} {T M:Nat->Prop} {e:Env} {h:Heap} {o:Oper}
theorem HStep.of_run{v:Value}{h':Heap}
  (hr: ∀(p:Phi) (a:Act) (w:World),HRelT G T p h w->(∀x∈o.op.operands,VRel p (Opd.val e x) (a.eval x)) →
   ∃q v' w',((execOp a.eval o).run P w = .ok (.value v') w'∨((execOp a.eval o).run P w = .ok .skip w'∧v'=undef)) ∧
    HRelT G (fun id=>T id∨h.length<=id) q h' w'∧VRel q v v'∧Ext M p q h h' w w'):HStep G P o T M e h v h':=by
 intro p a w r ho next Q hk
 obtain⟨q,v',w',h1,h2,h3,h4⟩:=hr p a w r ho
 unfold Oper.wp
 rcases h1 with h1|⟨h1,rfl⟩
 ·rw[h1];exact hk q v' w' h2 h3 h4
 ·rw[h1];exact hk q undef w' h2 h3 h4
theorem HStep.of_pure{v:Value}
  (hr: ∀p (a:Act),(∀x∈o.op.operands,VRel p (Opd.val e x) (a.eval x))->∃v',VRel p v v'∧∀w,(execOp a.eval o).run P w = .ok (.value v') w):HStep G P o T M e h v h:=
 .of_run fun p a w r ho=>by
  obtain⟨v',h1,h2⟩:=hr p a ho
  exact⟨p,v',w, .inl (h2 w),r.weaken (fun id t e ht=>ht.elim (fun x=>x) (fun hl=>absurd (r.dom id t e).1 (by omega))),h1,Ext.refl ..⟩
theorem Plain.eq{p:Phi}{v v':Value}(hp:Plain v)(r:VRel p v v'):v'=v:=by
 induction hp generalizing v' with
 | bool b=>cases r;rfl
 | int k n=>cases r;rfl
 | string s=>cases r;rfl
 | ptrNil=>cases r;rfl
 | sliceNil=>cases r;rfl
 | func fn=>
  cases r with
  | func e1 e2 _ _=>
   have h1:_= #[]:=Array.eq_empty_of_size_eq_zero e1.symm
   have h2:_= #[]:=Array.eq_empty_of_size_eq_zero e2.symm
   rw[h1,h2]
 | nilFunc=>cases r;rfl
 | nilIface=>cases r;rfl
 | agg _ ih=>
  cases r with
  | agg e1 i1=>
   congr 1
   exact Array.ext e1.symm fun i h1 h2=>ih i h2 (i1 i h2 h1)
 | tuple _ ih=>
  cases r with
  | tuple e1 i1=>
   congr 1
   exact Array.ext e1.symm fun i h1 h2=>ih i h2 (i1 i h2 h1)
theorem HStep.of_plain{v:Value}(hs: ∀cs b,o.op ≠ .select cs b)(hp: ∀x∈o.op.operands,Plain (Opd.val e x))(hv:Plain v)
  (hr: ∀w,(execOp (Opd.val e) o).run P w = .ok (.value v) w):HStep G P o T M e h v h:=
 .of_pure fun p a ho=>⟨v,hv.rel,fun w=>by
  have:execOp a.eval o=execOp (Opd.val e) o:=execOp_congr o hs fun x hx=>(hp x hx).eq (ho x hx)
  rw[this];exact hr w⟩
theorem HStep.move{x:Operand}(ho:o.op = .move x):HStep G P o T M e h (Opd.val e x) h:=
 .of_pure fun p a hr=>⟨a.eval x,hr x (by rw[ho];simp[Op.operands]),fun w=>by unfold execOp;rw[ho];rfl⟩
theorem HStep.assign{x:Operand}(ho:o.op = .assign x):HStep G P o T M e h (Opd.val e x) h:=
 .of_pure fun p a hr=>⟨a.eval x,hr x (by rw[ho];simp[Op.operands]),fun w=>by unfold execOp;rw[ho];rfl⟩
theorem HStep.pick{c x y:Operand}{b:Bool}(ho:o.op = .pick c x y)(hc:Opd.val e c = .bool b):HStep G P o T M e h (if b then Opd.val e x else Opd.val e y) h:=
 .of_pure fun p a hr=>by
  have h1:=hr c (by rw[ho];simp[Op.operands])
  have h2:=hr x (by rw[ho];simp[Op.operands])
  have h3:=hr y (by rw[ho];simp[Op.operands])
  rw[hc] at h1
  have h1':a.eval c = .bool b:=(Plain.bool b).eq h1
  refine⟨if b then a.eval x else a.eval y,by cases b<;>simpa,fun w => ?_⟩
  unfold execOp
  rw[ho]
  cases b<;>simp[h1',asBool]<;>rfl
def tzero(P:Program)(t:TypeId):Option (List Value):=((P.info? t).bind (·.zero)).map fun z=>z.cells.toList
theorem HStep.alloc{t:TypeId}{z:List Value}(ho:o.op = .alloc t)(hz:tzero P t=some z)(hp: ∀v∈z,plainB v=true) :
  HStep G P o T M e h (.pointer (some ⟨h.length,0,none⟩)) (h++ [⟨z,P.cellsOf t, .rw⟩]):=
 .of_run fun p a w r _=>by
  unfold tzero at hz
  cases hi:P.info? t with
  | none=>rw[hi] at hz;simp at hz
  | some i=>
   rw[hi] at hz
   simp only[Option.bind_some,Option.map_eq_some_iff] at hz
   obtain⟨zv,hz1,rfl⟩:=hz
   have hl:LRel p zv.cells.toList zv.cells.toList:=⟨rfl,fun j u hu=>⟨u,hu,(plainB_spec (hp u (mem_of_getElem? hu))).rel⟩⟩
   obtain⟨h1,h2⟩:=r.push' (M:=M) (P.cellsOf t) t hl
   refine⟨_, .pointer (some ⟨w.heap.size,0,none⟩),_, .inl ?_,h1, ?_,h2⟩
   ·unfold execOp
    rw[ho]
    simp[Instr.alloc,zeroValue,typeInfo,hi,hz1,newVar,newRow,newObj,Sem.run]
   ·exact VRel.ptr (t:=⟨w.heap.size,0,P.cellsOf t,zv.cells.size⟩) phiPush_same
theorem HStep.box{t:TypeId}{x:Operand}(ho:o.op = .box t x) :
  HStep G P o T M e h (.pointer (some ⟨h.length,0,none⟩)) (h++ [⟨(Opd.val e x).cells.toList,P.cellsOf t, .rw⟩]):=
 .of_run fun p a w r hr=>by
  have h0:=(hr x (by rw[ho];simp[Op.operands])).cells.list
  obtain⟨h1,h2⟩:=r.push' (M:=M) (P.cellsOf t) t h0
  refine⟨_, .pointer (some ⟨w.heap.size,0,none⟩),_, .inl ?_,h1, ?_,h2⟩
  ·unfold execOp
   rw[ho]
   simp[Instr.box,newVar,newRow,newObj,Sem.run]
  ·exact VRel.ptr (t:=⟨w.heap.size,0,P.cellsOf t,(a.eval x).cells.size⟩) phiPush_same
def tload(P:Program)(t:TypeId):Option (Option Nat):=
 match P.underlying t with
 | some (.struct _)=>(P.info? t).map fun i=>some i.size
 | some (.array _ _)=>(P.info? t).map fun i=>some i.size
 | some _=>some none
 | none=>none
theorem VRel.ptr_inv{p:Phi}{id off:Nat}{v':Value}(r:VRel p (.pointer (some ⟨id,off,none⟩)) v'): ∃t,p id=some t∧v' = .pointer (some ⟨t.b,off+t.d,none⟩):=by
 cases r with
 | ptr e=>exact⟨_,e,rfl⟩
theorem addr_add(b off j:Nat):Addr.add ⟨b,off,none⟩ j=⟨b,off+j,none⟩:=by
 unfold Addr.add
 split
 ·rename_i hj;simp[hj]
 ·rfl
theorem HStep.load1{t:TypeId}{x:Operand}{id off:Nat}{k:Blk}{v:Value}(ho:o.op = .load t x)(hx:Opd.val e x = .pointer (some ⟨id,off,none⟩))(ht:tload P t=some none)
  (hk:h[id]? = some k) (hd:k.st ≠ .dead) (hv:k.cells[off]? = some v) (hT:T id):HStep G P o T M e h v h:=
 .of_run fun p a w r hr=>by
  have h0:=hr x (by rw[ho];simp[Op.operands])
  rw[hx] at h0
  obtain⟨tg,h1,h2⟩:=h0.ptr_inv
  have hlt:=(List.getElem?_eq_some_iff.1 hv).1
  obtain⟨cs,l1,l2,l3⟩:=r.cells (off:=off) (n:=1) hT h1 hk hd (by omega)
  have l4:((k.cells.drop off).take 1)[0]? = some v:=by rw[getElem?_take,if_pos (by omega),getElem?_drop];simpa using hv
  obtain⟨v',l5,l6⟩:=l1.2 0 v l4
  have l7:=l3 0 v' l5
  rw[addr_add] at l7
  simp only[add_zero] at l7
  refine⟨p,v',w, .inl ?_,r.weaken (fun id t e ht=>ht.elim (fun x=>x) (fun hl=>absurd (r.dom id t e).1 (by omega))),l6,Ext.refl ..⟩
  have hagg:(isAgg t).run P w = .ok false w:=by
   unfold tload at ht
   cases hu:P.underlying t with
   | none=>rw[hu] at ht;cases ht
   | some d=>rw[hu] at ht;cases d<;>simp[isAgg,run_underlying hu] at ht ⊢ <;> cases hi:P.info? t<;>rw[hi] at ht<;>simp at ht
  unfold execOp
  rw[ho]
  simp[Instr.loadAt,Instr.sureAddr,h2,loadVar,hagg,load,Sem.run,l7]
theorem HStep.loadN{t:TypeId}{x:Operand}{id off n:Nat}{k:Blk}(ho:o.op = .load t x)(hx:Opd.val e x = .pointer (some ⟨id,off,none⟩))(ht:tload P t=some (some n))
  (hk:h[id]? = some k) (hd:k.st ≠ .dead) (hn:off+n<=k.cells.length) (hT:T id):HStep G P o T M e h (.agg ((k.cells.drop off).take n).toArray) h:=
 .of_run fun p a w r hr=>by
  have h0:=hr x (by rw[ho];simp[Op.operands])
  rw[hx] at h0
  obtain⟨tg,h1,h2⟩:=h0.ptr_inv
  obtain⟨cs,l1,l2,l3⟩:=r.cells (n:=n) hT h1 hk hd hn
  refine⟨p, .agg cs.toArray,w, .inl ?_,r.weaken (fun id t e ht=>ht.elim (fun x=>x) (fun hl=>absurd (r.dom id t e).1 (by omega))), ?_,Ext.refl ..⟩
  ·have hagg:(isAgg t).run P w = .ok true w∧∃i,P.info? t=some i∧i.size=n:=by
    unfold tload at ht
    cases hu:P.underlying t with
    | none=>rw[hu] at ht;cases ht
    | some d=>
     rw[hu] at ht
     cases d<;>simp at ht
     all_goals
      obtain⟨i,hi,hs⟩:=ht
      exact⟨by simp[isAgg,run_underlying hu],i,hi,hs⟩
   obtain⟨hagg,i,hi,hs⟩:=hagg
   have hload:=run_loadCells_list (P:=P) w ⟨tg.b,off+tg.d,none⟩ cs l3
   rw[l2] at hload
   unfold execOp
   rw[ho]
   simp[Instr.loadAt,Instr.sureAddr,h2,loadVar,hagg,sizeOf,typeInfo,hi,hs,hload]
  ·exact .agg l1.array.1 l1.array.2
theorem run_storeCells_free(P:Program)(g o:Nat)(t:TypeId)(fz:Nat×Nat): ∀(vs:List Value) (i:Nat) (cur:Array Value) (w:World),w.heap[g]? = some (.cells cur t fz)->(∀j,j<cur.size->¬(fz.1<=j∧j<fz.2)) →
  o+i+vs.length<=cur.size->(∀v∈vs,oneC v=true) →
  (storeCells ⟨g,o,none⟩ vs i).run P w = .ok () (w.setRow g (HH.setRange cur.toList (o+i) vs).toArray)
 | [],i,cur,w,hg,_,_,_=>by
  simp only[storeCells,HH.setRange,append_nil,length_nil,add_zero,take_append_drop,Array.toArray_toList]
  rw[setRow_self w g cur t fz hg]
  rfl
 | v::rest,i,cur,w,hg,hfz,hl,h1=>by
  have hi:o+i<cur.size:=by simp at hl;omega
  have hcell:w.cell? ⟨g,o+i,none⟩=some cur[o+i]:=by simp[World.cell?,hg,hi]
  have hfro:w.frozen? ⟨g,o+i,none⟩=false:=by
   have:=hfz (o+i) hi
   obtain⟨lo,hi'⟩:=fz
   simp only[World.frozen?,hg,Bool.and_eq_false_iff,decide_eq_false_iff_not]
   simp only at this
   omega
  have hv1:v.oneCell'=true:=by have:=h1 v (by simp);cases v<;>simp_all [oneC,Value.oneCell']
  have hst:(store ((⟨g,o,none⟩:Addr).add i) v).run P w = .ok () (w.setRow g (cur.setIfInBounds (o+i) v)):=by
   rw[addr_add,run_store P w _ v _ hv1,hcell]
   simp[hfro,setCell_eq_setRow w g (o+i) cur t fz v hg]
  have ih:=run_storeCells_free P g o t fz rest (i+1) (cur.setIfInBounds (o+i) v) (w.setRow g (cur.setIfInBounds (o+i) v)) (setRow_heap w g cur _ t _ hg) (by simpa using hfz) (by simp at hl ⊢;omega) (fun x hx=>h1 x (by simp[hx]))
  simp only[storeCells,Sem.run_bind,hst,Result.andThen_ok,ih,setRow_setRow]
  congr 3
  have e:=list_seg_step cur.toList (o+i) v rest (by simp at hl ⊢;omega)
  simpa[HH.setRange,Array.toList_setIfInBounds,add_assoc] using e
theorem HStep.store{t:TypeId}{x y:Operand}{id off:Nat}{k:Blk}(ho:o.op = .store t x y)(hx:Opd.val e x = .pointer (some ⟨id,off,none⟩))
  (hk:h[id]? = some k) (hd:k.st = .rw) (hs:(P.info? t).map (·.size)=some (Opd.val e y).cells.size) (hn:off+(Opd.val e y).cells.size<=k.cells.length)
  (h1c:(Opd.val e y).cells.toList.all oneC=true) (hT:T id) (hM:M id) :
  HStep G P o T M e h undef (h.set id ⟨HH.setRange k.cells off (Opd.val e y).cells.toList,k.esz, .rw⟩):=
 .of_run fun p a w r hr=>by
  have h0:=hr x (by rw[ho];simp[Op.operands])
  rw[hx] at h0
  obtain⟨tg,h1,h2⟩:=h0.ptr_inv
  have h3:=hr y (by rw[ho];simp[Op.operands])
  have h4:=h3.cells.list
  obtain⟨c,el,fr,c1,c2,c3,c4⟩:=r.setRow (M:=M) hT h1 hk hd h4 (by simpa using hn) hM
  have hst:=run_storeCells_free P tg.b (off+tg.d) el fr (a.eval y).cells.toList 0 c w c1 c3 (by simpa using c2) (h4.oneC (all_eq_true.1 h1c))
  simp only[add_zero] at hst
  have hheap:(w.setRow tg.b (HH.setRange c.toList (off+tg.d) (a.eval y).cells.toList).toArray).heap[tg.b]? = some (.cells (HH.setRange c.toList (off+tg.d) (a.eval y).cells.toList).toArray el fr):=setRow_heap w tg.b c _ el fr c1
  obtain⟨d1,d2⟩:=c4 (w.setRow tg.b (HH.setRange c.toList (off+tg.d) (a.eval y).cells.toList).toArray) rfl rfl rfl (by simp[World.setRow]) (fun b hb=>by simp[World.setRow,Array.getElem?_modify,Ne.symm hb]) hheap
  refine⟨p,undef,_, .inr ⟨?_,rfl⟩,d1.weaken (fun id t e ht=>ht.elim (fun x=>x) (fun hl=>absurd (r.dom id t e).1 (by omega))),VRel.undef p,d2⟩
  cases hi:P.info? t with
  | none=>rw[hi] at hs;simp at hs
  | some i=>
   rw[hi] at hs
   simp only[Option.map_some,Option.some.injEq] at hs
   have hsz:(a.eval y).cells.size=i.size:=by rw[hs];exact h3.cells.1.symm
   unfold execOp
   rw[ho]
   simp[Instr.storeAt,Instr.sureAddr,h2,storeVar,sizeOf,typeInfo,hi,hsz,hst]
end
end Go.HH
namespace Go.HH
section
variable {G:List (Nat×Nat)} {P:Program} {T M:Nat->Prop} {e:Env} {h:Heap} {o:Oper}
def tfield(P:Program)(s:TypeId)(f:Nat):Option (Nat×TypeId):=
 match P.underlying s with
 | some (.struct fs)=>match fs[f]? with
  | some fd=>match P.info? fd.type with
   | some i=>if i.size=0 then none else some (fd.offset,fd.type)
   | none=>none
  | none=>none
 | _=>none
theorem HStep.fieldAddr{s:TypeId}{x:Operand}{f id off d:Nat}{ft:TypeId}(ho:o.op = .fieldAddr s x f)(hx:Opd.val e x = .pointer (some ⟨id,off,none⟩))(hf:tfield P s f=some (d,ft)) :
  HStep G P o T M e h (.pointer (some ⟨id,off+d,none⟩)) h:=
 .of_pure fun p a hr=>by
  have h0:=hr x (by rw[ho];simp[Op.operands])
  rw[hx] at h0
  obtain⟨t,h1,h2⟩:=h0.ptr_inv
  refine⟨.pointer (some ⟨t.b,off+d+t.d,none⟩), .ptr h1,fun w => ?_⟩
  unfold tfield at hf
  split at hf
  ·rename_i fs hu
   split at hf
   ·rename_i fd hfd
    split at hf
    ·rename_i i hi
     split at hf
     ·cases hf
     ·rename_i hz
      simp only[Option.some.injEq,Prod.mk.injEq] at hf
      obtain⟨rfl,rfl⟩:=hf
      unfold execOp
      rw[ho]
      simp[Instr.fieldAt,run_underlying hu,hfd,Instr.sureAddr,h2,fieldPlace,sizeOf,typeInfo,hi,hz,addr_add]
      omega
    ·cases hf
   ·cases hf
  ·cases hf
def telem(P:Program)(t:TypeId):Option (Nat×TypeId):=
 match P.underlying t with
 | some (.slice el)=>(P.info? el).map fun i=>(i.size,el)
 | _=>none
theorem VRel.slice_inv{p:Phi}{id off len:Nat}{v':Value}(r:VRel p (.slice (some ⟨id,off,none⟩) len 0) v')(hl:0<len) :
  ∃t cap,p id=some t∧len<=cap∧off+t.d+cap*t.esz<=t.n∧v' = .slice (some ⟨t.b,off+t.d,none⟩) len cap:=by
 cases r with
 | slice e a b=>exact⟨_,_,e,a,b,rfl⟩
 | sliceEmpty=>omega
theorem HStep.indexAddr{t el:TypeId}{x y:Operand}{id off len sz:Nat}{n:Int}{k:IntKind}(ho:o.op = .indexAddr t x y)(hx:Opd.val e x = .slice (some ⟨id,off,none⟩) len 0)(hy:Opd.val e y = .int k n)
  (ht:telem P t=some (sz,el)) (h0:0<=n) (hn:n<len):HStep G P o T M e h (.pointer (some ⟨id,off+n.toNat*sz,none⟩)) h:=
 .of_pure fun p a hr=>by
  have h1:=hr x (by rw[ho];simp[Op.operands])
  have h2:=hr y (by rw[ho];simp[Op.operands])
  rw[hx] at h1
  rw[hy] at h2
  have h2':a.eval y = .int k n:=(Plain.int k n).eq h2
  obtain⟨tg,cap,g1,g2,g3,g4⟩:=h1.slice_inv (by omega)
  refine⟨.pointer (some ⟨tg.b,off+n.toNat*sz+tg.d,none⟩), .ptr g1,fun w => ?_⟩
  unfold telem at ht
  split at ht
  ·rename_i hu
   rw[Option.map_eq_some_iff] at ht
   obtain⟨i,hi,hs⟩:=ht
   simp only[Prod.mk.injEq] at hs
   obtain⟨rfl,rfl⟩:=hs
   unfold execOp
   rw[ho]
   simp[Instr.indexAt,h2',asIntOf,run_underlying hu,g4,sizeOf,typeInfo,hi,h0,hn,addr_add]
   omega
  ·cases ht
def tarr(P:Program)(t:TypeId):Option (Nat×Nat×TypeId):=
 match P.underlying t with
 | some (.array n el)=>(P.info? el).map fun i=>(n,i.size,el)
 | _=>none
theorem HStep.indexAddrArr{t el:TypeId}{x y:Operand}{id off len sz:Nat}{n:Int}{k:IntKind}(ho:o.op = .indexAddr t x y)(hx:Opd.val e x = .pointer (some ⟨id,off,none⟩))(hy:Opd.val e y = .int k n)
  (ht:tarr P t=some (len,sz,el)) (h0:0<=n) (hn:n<len):HStep G P o T M e h (.pointer (some ⟨id,off+n.toNat*sz,none⟩)) h:=
 .of_pure fun p a hr=>by
  have h1:=hr x (by rw[ho];simp[Op.operands])
  have h2:=hr y (by rw[ho];simp[Op.operands])
  rw[hx] at h1
  rw[hy] at h2
  have h2':a.eval y = .int k n:=(Plain.int k n).eq h2
  obtain⟨tg,g1,g2⟩:=h1.ptr_inv
  refine⟨.pointer (some ⟨tg.b,off+n.toNat*sz+tg.d,none⟩), .ptr g1,fun w => ?_⟩
  unfold tarr at ht
  split at ht
  ·rename_i hu
   rw[Option.map_eq_some_iff] at ht
   obtain⟨i,hi,hs⟩:=ht
   simp only[Prod.mk.injEq] at hs
   obtain⟨rfl,rfl,rfl⟩:=hs
   unfold execOp
   rw[ho]
   simp[Instr.indexAt,h2',asIntOf,run_underlying hu,g2,Instr.sureAddr,sizeOf,typeInfo,hi,h0,hn,addr_add]
   omega
  ·cases ht
theorem HStep.nilCheck{x:Operand}{a0:Addr}(ho:o.op = .nilCheck x)(hx:Opd.val e x = .pointer (some a0)):HStep G P o T M e h (.pointer (some a0)) h:=
 .of_pure fun p a hr=>by
  have h1:=hr x (by rw[ho];simp[Op.operands])
  rw[hx] at h1
  refine⟨a.eval x,h1,fun w => ?_⟩
  generalize hq:a.eval x=u at h1
  cases h1 with
  | ptr e=>unfold execOp;rw[ho];simp only[hq];rfl
def hBin(op:BinOp)(x y:Value):Option Value:=
 match x,y with
 | .int k a, .int k' b=>
  match op with
  | .shl=>if b<0 then none else some (.int k (k.wrap (a*2 ^ (min b.toNat k.bits))))
  | .shr=>if b<0 then none else some (.int k (a.fdiv (2 ^ (min b.toNat k.bits))))
  | .add=>if k=k' then some (.int k (k.wrap (a+b))) else none
  | .sub=>if k=k' then some (.int k (k.wrap (a-b))) else none
  | .mul=>if k=k' then some (.int k (k.wrap (a*b))) else none
  | .quo=>if k=k'∧b≠0 then some (.int k (k.wrap (a.tdiv b))) else none
  | .rem=>if k=k'∧b≠0 then some (.int k (a.tmod b)) else none
  | .and=>if k=k' then some (.int k (k.wrap (BitVec.ofInt k.bits a &&& BitVec.ofInt k.bits b).toNat)) else none
  | .eql=>if k=k' then some (.bool (a==b)) else none
  | .neq=>if k=k' then some (.bool (a != b)) else none
  | .lss=>if k=k' then some (.bool (a<b)) else none
  | .leq=>if k=k' then some (.bool (a<=b)) else none
  | .gtr=>if k=k' then some (.bool (a>b)) else none
  | .geq=>if k=k' then some (.bool (a≥b)) else none
  | _=>none
 | .string a, .string b=>
  match op with
  | .add=>if (a.size+b.size:Nat)<=9223372036854775807 then some (.string (a++b)) else none
  | .eql=>some (.bool (a.toList==b.toList))
  | .neq=>some (.bool (!(a.toList==b.toList)))
  | .lss=>some (.bool (Op.bytesLess a.toList b.toList))
  | _=>none
 | _,_=>none
theorem hBin_plain{op:BinOp}{x y v:Value}(hv:hBin op x y=some v):Plain x∧Plain y∧Plain v:=by
 unfold hBin at hv
 split at hv
 ·rename_i k a k' b
  refine⟨.int _ _, .int _ _, ?_⟩
  cases op<;>simp only at hv<;>(try split at hv)<;>simp only[Option.some.injEq,reduceCtorEq] at hv<;>subst hv<;>first|exact .int _ _|exact .bool _
 ·rename_i a b
  refine⟨.string _, .string _, ?_⟩
  cases op<;>simp only at hv<;>(try split at hv)<;>simp only[Option.some.injEq,reduceCtorEq] at hv<;>subst hv<;>first|exact .string _|exact .bool _
 ·cases hv
theorem HStep.bin{op:BinOp}{t t':TypeId}{x y:Operand}{v:Value}(ho:o.op = .binOp op t x y t')(hv:hBin op (Opd.val e x) (Opd.val e y)=some v):HStep G P o T M e h v h:=by
 obtain⟨hx,hy,hp⟩:=hBin_plain hv
 refine .of_plain (by rw[ho];intro cs b c;cases c) ?_ hp ?_
 ·intro z hz
  rw[ho] at hz
  simp[Op.operands] at hz
  rcases hz with rfl|rfl
  ·exact hx
  ·exact hy
 ·intro w
  unfold execOp
  rw[ho]
  unfold hBin at hv
  generalize hxe:Opd.val e x=u at *
  generalize hye:Opd.val e y=u' at *
  split at hv
  ·rename_i k a k' b
   cases op<;>simp only at hv<;>(try split at hv)<;>simp only[Option.some.injEq,reduceCtorEq] at hv<;>subst hv<;>rename_i hc <;>
    first
     | (obtain⟨rfl,hb⟩:=hc;simp[go_sem,hxe,hye,Op.intArith,Op.intDiv,Op.intBits,Op.shift,Sem.run,hb];done)
     | (subst hc;simp[go_sem,hxe,hye,Op.intArith,Op.intDiv,Op.intBits,Op.shift,Sem.run];done)
     | (simp[go_sem,hxe,hye,Op.intArith,Op.intDiv,Op.intBits,Op.shift,Sem.run,hc];done)
  ·rename_i a b
   cases op<;>simp only at hv<;>(try split at hv)<;>simp only[Option.some.injEq,reduceCtorEq] at hv<;>subst hv
   ·rename_i hc
    have: ¬(((a.size+b.size:Nat):Int)>IntKind.i64.max):=by simp[IntKind.max,IntKind.signed,IntKind.bits];omega
    simp only[execOp,hxe,hye,eqGuard_at_string,binOp,Op.stringOp,this,if_false]
    rfl
   all_goals simp[go_sem,hxe,hye,binOp,Op.stringOp,Sem.run]
  ·cases hv
theorem HStep.boolEq{t t':TypeId}{x y:Operand}{b c:Bool}(ho:o.op = .binOp .eql t x y t')(hx:Opd.val e x = .bool b)(hy:Opd.val e y = .bool c)(ht:P.underlying t=some .bool):HStep G P o T M e h (.bool (b==c)) h:=by
 refine .of_plain (by rw[ho];intro cs b c;cases c) ?_ (.bool _) ?_
 ·intro z hz
  rw[ho] at hz
  simp[Op.operands] at hz
  rcases hz with rfl|rfl
  ·rw[hx];exact .bool _
  ·rw[hy];exact .bool _
 ·intro w
  unfold execOp
  rw[ho]
  have hq:(Op.equal t (.bool b) (.bool c)).run P w = .ok (b==c) w:=by
   unfold Op.equal Op.maxDepth
   rw[Op.equalIn]
   simp[run_underlying ht]
  simp only[execOp,hx,hy,eqGuard_at_bool,binOp]
  simp[hq]
theorem HStep.boolNe{t t':TypeId}{x y:Operand}{b c:Bool}(ho:o.op = .binOp .neq t x y t')(hx:Opd.val e x = .bool b)(hy:Opd.val e y = .bool c)(ht:P.underlying t=some .bool):HStep G P o T M e h (.bool (b != c)) h:=by
 refine .of_plain (by rw[ho];intro cs b c;cases c) ?_ (.bool _) ?_
 ·intro z hz
  rw[ho] at hz
  simp[Op.operands] at hz
  rcases hz with rfl|rfl
  ·rw[hx];exact .bool _
  ·rw[hy];exact .bool _
 ·intro w
  unfold execOp
  rw[ho]
  have hq:(Op.equal t (.bool b) (.bool c)).run P w = .ok (b==c) w:=by
   unfold Op.equal Op.maxDepth
   rw[Op.equalIn]
   simp[run_underlying ht]
  simp only[execOp,hx,hy,eqGuard_at_bool,binOp]
  simp[hq,bne]
def hUn(op:UnOp)(x:Value):Option Value:=
 match op,x with
 | .not, .bool b=>some (.bool (!b))
 | .neg, .int k n=>some (.int k (k.wrap (0-n)))
 | _,_=>none
theorem HStep.un{op:UnOp}{t:TypeId}{x:Operand}{v:Value}(ho:o.op = .unOp op t x)(hv:hUn op (Opd.val e x)=some v):HStep G P o T M e h v h:=by
 have hp:Plain (Opd.val e x)∧Plain v:=by
  unfold hUn at hv
  split at hv
  ·rename_i e1;rw[e1];cases hv;exact⟨.bool _, .bool _⟩
  ·rename_i e1;rw[e1];cases hv;exact⟨.int _ _, .int _ _⟩
  ·cases hv
 refine .of_plain (by rw[ho];intro cs b c;cases c) ?_ hp.2 ?_
 ·intro z hz
  rw[ho] at hz
  simp[Op.operands] at hz
  subst hz
  exact hp.1
 ·intro w
  unfold execOp
  rw[ho]
  unfold hUn at hv
  split at hv
  ·rename_i e1;cases hv;simp[e1,Op.unary,Sem.run]
  ·rename_i e1;cases hv;simp[e1,Op.unary,Op.intArith,Sem.run]
  ·cases hv
theorem HStep.extract{x:Operand}{i:Nat}{vs:Array Value}{v:Value}(ho:o.op = .extract x i)(hx:Opd.val e x = .tuple vs)(hv:vs[i]? = some v):HStep G P o T M e h v h:=
 .of_pure fun p a hr=>by
  have h1:=hr x (by rw[ho];simp[Op.operands])
  rw[hx] at h1
  generalize hq:a.eval x=u at h1
  cases h1 with
  | @tuple _ c2 e1 i1=>
   have hi:=(Array.getElem?_eq_some_iff.1 hv)
   obtain⟨hi,rfl⟩:=hi
   have hi':i<c2.size:=by rw[←e1];exact hi
   refine⟨c2[i],i1 i hi hi',fun w => ?_⟩
   unfold execOp
   rw[ho]
   simp[hq,Instr.extract,hi',Sem.run]
end
end Go.HH
namespace Go.HH
def hFill(place:Nat->Option (Nat×Nat))(cells:List Value):List (Nat×Value)->Option (List Value)
 | []=>some cells
 | (i,v)::rest=>
  match place i with
  | none=>none
  | some (off,size)=>if v.cells.size≠size∨cells.length<off+v.cells.size then none else hFill place (setRange cells off v.cells.toList) rest
theorem foldl_set: ∀(l:List Value) (off j:Nat) (cells:Array Value),off+j+l.length<=cells.size →
  ((l.zipIdx j).foldl (fun (cs:Array Value) (x:Value×Nat)=>cs.setIfInBounds (off+x.2) x.1) cells).toList=setRange cells.toList (off+j) l
 | [],off,j,cells,_=>by simp[setRange]
 | v::l,off,j,cells,h=>by
  simp only[List.zipIdx_cons,foldl_cons]
  have ih:=foldl_set l off (j+1) (cells.setIfInBounds (off+j) v) (by simp at h ⊢;omega)
  rw[ih]
  have e:=list_seg_step cells.toList (off+j) v l (by simp at h ⊢;omega)
  simpa[setRange,Array.toList_setIfInBounds,add_assoc] using e
theorem fill_rel{p:Phi}(place:Nat->Option (Nat×Nat)): ∀(l l':List (Nat×Value)) (cells:List Value) (cells':Array Value) (out:List Value),LRel p cells cells'.toList →
  l.length=l'.length->(∀(i:Nat) (x:Nat×Value),l[i]? = some x->∃x',l'[i]? = some x'∧x'.1=x.1∧VRel p x.2 x'.2)->hFill place cells l=some out →
  ∃out':Array Value,Instr.fill place cells' l'=some out'∧LRel p out out'.toList
 | [],[],cells,cells',out,hr,_,_,ho=>by
  simp only[hFill,Option.some.injEq] at ho
  subst ho
  exact⟨cells',rfl,hr⟩
 | [],_::_,_,_,_,_,hl,_,_=>by simp at hl
 | _::_,[],_,_,_,_,hl,_,_=>by simp at hl
 | (i,v)::l,(i',v')::l',cells,cells',out,hr,hl,hx,ho=>by
  obtain⟨x',e1,e2,e3⟩:=hx 0 (i,v) rfl
  simp only[getElem?_cons_zero,Option.some.injEq] at e1
  subst e1
  simp only at e2 e3
  subst e2
  have hc:=e3.cells
  unfold hFill at ho
  unfold Instr.fill
  split at ho
  ·cases ho
  ·rename_i off size hp
   rw[hp]
   simp only
   split at ho
   ·cases ho
   ·rename_i hn
    simp only[not_or,ne_eq,Decidable.not_not,Nat.not_lt] at hn
    have hlen:cells.length=cells'.size:=by simpa using hr.1
    rw[if_neg (by rw[←hc.1];simp;omega)]
    have hf:=foldl_set v'.cells.toList off 0 cells' (by simp[←hc.1];omega)
    simp only[add_zero] at hf
    have hf':(v'.cells.zipIdx.foldl (fun cs (x:Value×Nat)=>cs.setIfInBounds (off+x.2) x.1) cells').toList=setRange cells'.toList off v'.cells.toList:=by
     rw[←hf, ←Array.foldl_toList,Array.toList_zipIdx]
    refine fill_rel place l l' _ _ out ?_ (by simpa using hl) (fun j x hj=>hx (j+1) x (by simpa using hj)) ho
    have:=hr.setRange (off:=off) hc.list
    rw[←hf'] at this
    exact this
section
variable {G:List (Nat×Nat)} {P:Program} {T M:Nat->Prop} {e:Env} {h:Heap} {o:Oper}
theorem parts_rel{p:Phi}{a:Act}(ps:Array (Nat×Operand))(hr: ∀x∈ps,VRel p (Opd.val e x.2) (a.eval x.2)) :
  (ps.map fun (i,x)=>(i,Opd.val e x)).toList.length=(ps.map fun (i,x)=>(i,a.eval x)).toList.length ∧
  ∀(i:Nat) (x:Nat×Value),(ps.map fun (i,x)=>(i,Opd.val e x)).toList[i]? = some x->∃x',(ps.map fun (i,x)=>(i,a.eval x)).toList[i]? = some x'∧x'.1=x.1∧VRel p x.2 x'.2:=by
 refine⟨by simp,fun i x hx => ?_⟩
 simp only[Array.toList_map,getElem?_map,Array.getElem?_toList,Option.map_eq_some_iff] at hx ⊢
 obtain⟨y,hy,rfl⟩:=hx
 exact⟨(y.1,a.eval y.2),⟨y,hy,rfl⟩,rfl,hr y (Array.mem_of_getElem? hy)⟩
def tplaces(P:Program)(t:TypeId):Option (List (Nat×Nat)):=
 match P.underlying t with
 | some (.struct fs)=>fs.toList.mapM fun f=>(P.info? f.type).map fun i=>(f.offset,i.size)
 | _=>none
theorem mapM_places{w:World}(fs:List Field): ∀(pl:List (Nat×Nat)),fs.mapM (fun f=>(P.info? f.type).map fun i=>(f.offset,i.size))=some pl →
  ((fs.mapM fun f=>do pure (f.offset, ←sizeOf f.type):Sem (List (Nat×Nat)))).run P w = .ok pl w:=by
 induction fs with
 | nil=>intro pl hp;simp at hp;subst hp;rfl
 | cons f fs ih=>
  intro pl hp
  simp only[List.mapM_cons,Option.bind_eq_bind,Option.bind_eq_some_iff,Option.map_eq_some_iff,Option.pure_def,Option.some.injEq] at hp
  obtain⟨x,⟨i,hi,rfl⟩,pl',hpl,rfl⟩:=hp
  simp[List.mapM_cons,sizeOf,typeInfo,hi]
  have:=ih pl' hpl
  simp[sizeOf,typeInfo] at this
  rw[this]
  simp
theorem HStep.build{t:TypeId}{ps:Array (Nat×Operand)}{pl:List (Nat×Nat)}{z out:List Value}(ho:o.op = .build t ps)(hpl:tplaces P t=some pl)(hz:tzero P t=some z)(hzp: ∀v∈z,plainB v=true)
  (hf:hFill (pl[·]?) z ((ps.map fun (i,x)=>(i,Opd.val e x)).toList)=some out):HStep G P o T M e h (.agg out.toArray) h:=
 .of_pure fun p a hr=>by
  have hr': ∀x∈ps,VRel p (Opd.val e x.2) (a.eval x.2):=fun x hx=>hr x.2 (by rw[ho];simp[Op.operands];exact⟨x.1,by simpa using hx⟩)
  obtain⟨p1,p2⟩:=parts_rel (e:=e) (a:=a) ps hr'
  unfold tzero at hz
  cases hi:P.info? t with
  | none=>rw[hi] at hz;simp at hz
  | some i=>
   rw[hi] at hz
   simp only[Option.bind_some,Option.map_eq_some_iff] at hz
   obtain⟨zv,hz1,rfl⟩:=hz
   obtain⟨out',f1,f2⟩:=fill_rel (p:=p) (pl[·]?) _ _ _ zv.cells out ⟨rfl,fun j u hu=>⟨u,hu,(plainB_spec (hzp u (mem_of_getElem? hu))).rel⟩⟩ p1 p2 hf
   refine⟨.agg out', ?_,fun w => ?_⟩
   ·have:=f2.array
    simp only[Array.toArray_toList] at this
    exact .agg this.1 this.2
   ·unfold tplaces at hpl
    split at hpl
    ·rename_i fs hu
     have hm:=mapM_places (P:=P) (w:=w) fs.toList pl hpl
     unfold execOp
     rw[ho]
     have hm':((fs.mapM fun f=>do pure (f.offset, ←sizeOf f.type):Sem (Array (Nat×Nat)))).run P w = .ok pl.toArray w:=by
      rw[Array.mapM_eq_mapM_toList]
      simp only[Sem.run_map]
      rw[hm]
      rfl
     simp only[Instr.build,zeroValue,typeInfo,Sem.run_bind,program,Sem.run,Result.andThen_ok,hi,hz1,run_underlying hu,hm',List.getElem?_toArray,f1,Sem.run_pure]
    ·cases hpl
theorem HStep.buildArr{t el:TypeId}{len sz:Nat}{ps:Array (Nat×Operand)}{z out:List Value}(ho:o.op = .build t ps)(hta:tarr P t=some (len,sz,el))(hz:tzero P t=some z)(hzp: ∀v∈z,plainB v=true)
  (hf:hFill (fun i=>some (i*sz,sz)) z ((ps.map fun (i,x)=>(i,Opd.val e x)).toList)=some out):HStep G P o T M e h (.agg out.toArray) h:=
 .of_pure fun p a hr=>by
  have hr': ∀x∈ps,VRel p (Opd.val e x.2) (a.eval x.2):=fun x hx=>hr x.2 (by rw[ho];simp[Op.operands];exact⟨x.1,by simpa using hx⟩)
  obtain⟨p1,p2⟩:=parts_rel (e:=e) (a:=a) ps hr'
  unfold tzero at hz
  cases hi:P.info? t with
  | none=>rw[hi] at hz;simp at hz
  | some i=>
   rw[hi] at hz
   simp only[Option.bind_some,Option.map_eq_some_iff] at hz
   obtain⟨zv,hz1,rfl⟩:=hz
   obtain⟨out',f1,f2⟩:=fill_rel (p:=p) (fun i=>some (i*sz,sz)) _ _ _ zv.cells out ⟨rfl,fun j u hu=>⟨u,hu,(plainB_spec (hzp u (mem_of_getElem? hu))).rel⟩⟩ p1 p2 hf
   refine⟨.agg out', ?_,fun w => ?_⟩
   ·have:=f2.array
    simp only[Array.toArray_toList] at this
    exact .agg this.1 this.2
   ·unfold tarr at hta
    split at hta
    ·rename_i hu
     rw[Option.map_eq_some_iff] at hta
     obtain⟨i2,hi2,hs⟩:=hta
     simp only[Prod.mk.injEq] at hs
     obtain⟨rfl,rfl,rfl⟩:=hs
     unfold execOp
     rw[ho]
     simp only[Instr.build,zeroValue,typeInfo,Sem.run_bind,program,Sem.run,Result.andThen_ok,hi,hz1,run_underlying hu,sizeOf,hi2,f1,Sem.run_pure]
    ·cases hta
theorem zeros_rel{p:Phi}{zv:Value}{n k:Nat}(hzp: ∀v∈zv.cells.toList,plainB v=true)(hk:zv.cells.size=k)(hn: ∀m,m<n->0<k) :
  LRel p ((List.range n).map fun i=>zv.cells.toList.getD (i%zv.cells.toList.length) undef) ((Array.range n).map (zv.cells[· % zv.cells.size]!)).toList:=by
 refine⟨by simp,fun j u hj => ?_⟩
 simp only[getElem?_map,Option.map_eq_some_iff,Array.toList_map,Array.toList_range,Array.length_toList] at hj ⊢
 obtain⟨m,hm,rfl⟩:=hj
 refine⟨zv.cells[m%zv.cells.size]!,⟨m,hm,rfl⟩, ?_⟩
 have hmlt:=mem_range.1 (mem_of_getElem? hm)
 have h0:=hn m hmlt
 rw[←hk] at h0
 have hlt:=Nat.mod_lt m h0
 rw[getElem!_def]
 simp only[List.getD_eq_getElem?_getD,Array.getElem?_toList]
 rw[Array.getElem?_eq_getElem hlt]
 exact (plainB_spec (hzp _ (by simp))).rel
theorem HStep.buildSlice{t el:TypeId}{len sz:Nat}{ps:Array (Nat×Operand)}{z out:List Value}(ho:o.op = .buildSlice t len ps)(ht:telem P t=some (sz,el))(hz:tzero P el=some z)(hzp: ∀v∈z,plainB v=true)
  (hzs:z.length=sz) (hlen:len*sz<=2 ^ 24) (hf:hFill (fun i=>some (i*sz,sz)) ((List.range (len*sz)).map fun i=>z.getD (i%z.length) undef) ((ps.map fun (i,x)=>(i,Opd.val e x)).toList)=some out) (hol:out.length=len*sz) :
  HStep G P o T M e h (.slice (some ⟨h.length,0,none⟩) len 0) (h++ [⟨out,sz, .rw⟩]):=
 .of_run fun p a w r hr=>by
  have hr': ∀x∈ps,VRel p (Opd.val e x.2) (a.eval x.2):=fun x hx=>hr x.2 (by rw[ho];simp[Op.operands];exact⟨x.1,by simpa using hx⟩)
  obtain⟨p1,p2⟩:=parts_rel (e:=e) (a:=a) ps hr'
  unfold telem at ht
  split at ht
  ·rename_i hu
   rw[Option.map_eq_some_iff] at ht
   obtain⟨i,hi,hs⟩:=ht
   simp only[Prod.mk.injEq] at hs
   obtain⟨rfl,rfl⟩:=hs
   unfold tzero at hz
   rw[hi] at hz
   simp only[Option.bind_some,Option.map_eq_some_iff] at hz
   obtain⟨zv,hz1,rfl⟩:=hz
   obtain⟨out',f1,f2⟩:=fill_rel (p:=p) (fun j=>some (j*i.size,i.size)) _ _ _ ((Array.range (len*i.size)).map (zv.cells[· % zv.cells.size]!)) out (zeros_rel (k:=i.size) hzp (by simpa using hzs) (fun m hm=>by rcases Nat.eq_zero_or_pos i.size with z|z;(rw[z] at hm;simp at hm);exact z)) p1 p2 hf
   obtain⟨h1,h2⟩:=r.push' (M:=M) i.size (by assumption) f2
   ·refine⟨_, .slice (some ⟨w.heap.size,0,none⟩) len len,_, .inl ?_,h1, ?_,h2⟩
    ·unfold execOp
     rw[ho]
     by_cases h0:len*i.size=0
     ·have e0:(Array.range (len*i.size)).map (zv.cells[· % zv.cells.size]!)= #[]:=by rw[h0];simp
      rw[e0] at f1
      simp only[Instr.buildSlice,Sem.run_bind,run_underlying hu,Result.andThen_ok,sizeOf,typeInfo,program,Sem.run,hi,Sem.run_pure,h0,gt_iff_lt]
      simp at f1
      simp[Array.range_zero',f1,newRow,newObj,Sem.run]
     ·have hn: ¬(2 ^ 24<len*i.size):=by omega
      simp only[Instr.buildSlice,Sem.run_bind,run_underlying hu,Result.andThen_ok,sizeOf,typeInfo,program,Sem.run,hi,Sem.run_pure,h0,gt_iff_lt,hn,if_false,zeroValue,hz1]
      simp at f1
      simp[f1,newRow,newObj,Sem.run]
    ·refine VRel.slice (t:=⟨w.heap.size,0,i.size,out'.size⟩) phiPush_same (le_refl _) ?_
     have:=f2.1
     simp only[Array.length_toList] at this
     simp
     omega
  ·cases ht
end
end Go.HH
namespace Go.HH
section
variable {G:List (Nat×Nat)} {P:Program} {T M:Nat->Prop} {e:Env} {h:Heap} {o:Oper}
theorem HStep.of_pureH{v:Value}
  (hr: ∀(p:Phi) (a:Act) (w:World),HRelT G T p h w->(∀x∈o.op.operands,VRel p (Opd.val e x) (a.eval x))->∃v',VRel p v v'∧∀w,(execOp a.eval o).run P w = .ok (.value v') w):HStep G P o T M e h v h:=
 .of_run fun p a w r ho=>by
  obtain⟨v',h1,h2⟩:=hr p a w r ho
  exact⟨p,v',w, .inl (h2 w),r.weaken (fun id t e ht=>ht.elim (fun x=>x) (fun hl=>absurd (r.dom id t e).1 (by omega))),h1,Ext.refl ..⟩
theorem VRel.slice_any{p:Phi}{a0:Option Addr}{len hc:Nat}{v':Value}(r:VRel p (.slice a0 len hc) v'): ∃a1 cap,v' = .slice a1 len cap∧(a0=none->a1=none∧cap=0)∧len<=cap∧(a1=none->a0=none):=by
 cases r with
 | sliceNil=>exact⟨none,0,rfl,fun _=>⟨rfl,rfl⟩,le_refl _,fun _=>rfl⟩
 | slice e a b=>exact⟨_,_,rfl,fun c=>(by cases c),a,fun c=>(by cases c)⟩
 | sliceEmpty=>exact⟨_,_,rfl,fun c=>(by cases c),le_refl _,fun c=>(by cases c)⟩
theorem HStep.lenSlice{t:TypeId}{x:Operand}{a0:Option Addr}{len hc:Nat}(ho:o.op = .call {callee := .builtin .len,args:= #[x],argTypes:= #[t]})(hx:Opd.val e x = .slice a0 len hc)(ht:(telem P t).isSome=true) :
  HStep G P o T M e h (.int .i64 len) h:=
 .of_pure fun p a hr=>by
  have h1:=hr x (by rw[ho];simp[Op.operands,Call.operands])
  rw[hx] at h1
  obtain⟨a1,cap,h2,_⟩:=h1.slice_any
  refine⟨.int .i64 len, .int _ _,fun w => ?_⟩
  unfold telem at ht
  split at ht
  ·rename_i hu
   unfold execOp
   rw[ho]
   simp[resolve,invoke,builtin,Builtin.len_,h2,run_underlying hu,goInt]
  ·cases ht
theorem HStep.lenString{t:TypeId}{x:Operand}{s:ByteArray}(ho:o.op = .call {callee := .builtin .len,args:= #[x],argTypes:= #[t]})(hx:Opd.val e x = .string s)(ht:P.underlying t=some .string) :
  HStep G P o T M e h (.int .i64 s.size) h:=
 .of_pure fun p a hr=>by
  have h1:=hr x (by rw[ho];simp[Op.operands,Call.operands])
  rw[hx] at h1
  have h2:=(Plain.string s).eq h1
  refine⟨.int .i64 s.size, .int _ _,fun w => ?_⟩
  unfold execOp
  rw[ho]
  simp[resolve,invoke,builtin,Builtin.len_,h2,run_underlying ht,goInt]
theorem HStep.max2{t:TypeId}{x y:Operand}{k:IntKind}{m n:Int}{ats:Array TypeId}(ho:o.op = .call {callee := .builtin .max,args:= #[x,y],argTypes:=ats})(hx:Opd.val e x = .int k m)(hy:Opd.val e y = .int k n)(_ht:t=t) :
  HStep G P o T M e h (.int k (if n>m then n else m)) h:=by
 refine .of_plain (by rw[ho];intro cs b c;cases c) ?_ (.int _ _) ?_
 ·intro z hz
  rw[ho] at hz
  simp[Op.operands,Call.operands] at hz
  rcases hz with rfl|rfl
  ·rw[hx];exact .int _ _
  ·rw[hy];exact .int _ _
 ·intro w
  unfold execOp
  rw[ho]
  simp[resolve,invoke,builtin,Builtin.max_,Builtin.max2,hx,hy]
theorem HStep.min2{t:TypeId}{x y:Operand}{k:IntKind}{m n:Int}{ats:Array TypeId}(ho:o.op = .call {callee := .builtin .min,args:= #[x,y],argTypes:=ats})(hx:Opd.val e x = .int k m)(hy:Opd.val e y = .int k n)(_ht:t=t) :
  HStep G P o T M e h (.int k (if n<m then n else m)) h:=by
 refine .of_plain (by rw[ho];intro cs b c;cases c) ?_ (.int _ _) ?_
 ·intro z hz
  rw[ho] at hz
  simp[Op.operands,Call.operands] at hz
  rcases hz with rfl|rfl
  ·rw[hx];exact .int _ _
  ·rw[hy];exact .int _ _
 ·intro w
  unfold execOp
  rw[ho]
  simp[resolve,invoke,builtin,Builtin.min_,Builtin.min2,hx,hy]
theorem HStep.max3{x y z:Operand}{k:IntKind}{m n c:Int}{ats:Array TypeId}(ho:o.op = .call {callee := .builtin .max,args:= #[x,y,z],argTypes:=ats})(hx:Opd.val e x = .int k m)(hy:Opd.val e y = .int k n)(hz:Opd.val e z = .int k c) :
  HStep G P o T M e h (.int k (if c>(if n>m then n else m) then c else (if n>m then n else m))) h:=by
 refine .of_plain (by rw[ho];intro cs b c;cases c) ?_ (.int _ _) ?_
 ·intro u hu
  rw[ho] at hu
  simp[Op.operands,Call.operands] at hu
  rcases hu with rfl|rfl|rfl
  ·rw[hx];exact .int _ _
  ·rw[hy];exact .int _ _
  ·rw[hz];exact .int _ _
 ·intro w
  unfold execOp
  rw[ho]
  simp[resolve,invoke,builtin,Builtin.max_,Builtin.max2,hx,hy,hz]
theorem VRel.agg_inv{p:Phi}{c:Array Value}{v':Value}(r:VRel p (.agg c) v'): ∃c',v' = .agg c'∧ARel p c c':=by
 cases r with
 | agg e i=>exact⟨_,rfl,e,i⟩
theorem HStep.indexArr{t el:TypeId}{x y:Operand}{cs:Array Value}{n:Int}{k:IntKind}{len:Nat}{v:Value}(ho:o.op = .index t x y)(hx:Opd.val e x = .agg cs)(hy:Opd.val e y = .int k n)
  (ht:tarr P t=some (len,1,el)) (hl:tload P el=some none) (h0:0<=n) (hn:n<len) (hv:cs[n.toNat]? = some v):HStep G P o T M e h v h:=
 .of_pure fun p a hr=>by
  have h1:=hr x (by rw[ho];simp[Op.operands])
  have h2:=hr y (by rw[ho];simp[Op.operands])
  rw[hx] at h1
  rw[hy] at h2
  have h2':a.eval y = .int k n:=(Plain.int k n).eq h2
  obtain⟨cs',h1',hsz,hel⟩:=h1.agg_inv
  have hlt:=(Array.getElem?_eq_some_iff.1 hv).1
  have hlt':n.toNat<cs'.size:=by omega
  have hv':cs[n.toNat]=v:=(Array.getElem?_eq_some_iff.1 hv).2
  refine⟨cs'[n.toNat],by rw[←hv'];exact hel _ hlt hlt',fun w => ?_⟩
  have hagg:(isAgg el).run P w = .ok false w:=by
   unfold tload at hl
   cases hu:P.underlying el with
   | none=>rw[hu] at hl;cases hl
   | some d=>rw[hu] at hl;cases d<;>simp[isAgg,run_underlying hu] at hl ⊢ <;> cases hi:P.info? el<;>rw[hi] at hl<;>simp at hl
  unfold tarr at ht
  split at ht
  ·rename_i hu
   rw[Option.map_eq_some_iff] at ht
   obtain⟨i,hi,hs⟩:=ht
   simp only[Prod.mk.injEq] at hs
   obtain⟨rfl,hs1,rfl⟩:=hs
   unfold execOp
   rw[ho]
   simp[Instr.index,h2',h1',asIntOf,run_underlying hu,sizeOf,typeInfo,hi,hs1,h0,hn,part,hagg,hlt']
  ·cases ht
theorem HStep.indexString{t:TypeId}{x y:Operand}{s:ByteArray}{n:Int}{k:IntKind}{b:UInt8}(ho:o.op = .index t x y)(hx:Opd.val e x = .string s)(hy:Opd.val e y = .int k n)(ht:P.underlying t=some .string)(h0:0<=n)(hb:s[n.toNat]? = some b) :
  HStep G P o T M e h (.int .u8 b.toNat) h:=by
 refine .of_plain (by rw[ho];intro cs b c;cases c) ?_ (.int _ _) ?_
 ·intro z hz
  rw[ho] at hz
  simp[Op.operands] at hz
  rcases hz with rfl|rfl
  ·rw[hx];exact .string _
  ·rw[hy];exact .int _ _
 ·intro w
  unfold execOp
  rw[ho]
  simp[Instr.index,hx,hy,asIntOf,run_underlying ht,h0,hb]
theorem HStep.convInt{s d:TypeId}{x:Operand}{k k':IntKind}{n:Int}(ho:o.op = .convert s d x)(hx:Opd.val e x = .int k n)(hs:(P.underlying s).isSome=true)(ht:P.underlying d=some (.int k')) :
  HStep G P o T M e h (.int k' (k'.wrap n)) h:=by
 refine .of_plain (by rw[ho];intro cs b c;cases c) ?_ (.int _ _) ?_
 ·intro z hz
  rw[ho] at hz
  simp[Op.operands] at hz
  subst hz
  rw[hx];exact .int _ _
 ·intro w
  obtain⟨ds,hds⟩:=Option.isSome_iff_exists.1 hs
  unfold execOp
  rw[ho]
  simp[convert,hx,run_underlying hds,run_underlying ht,Conv.intToInt]
def bnd(e:Env):Option Operand->Nat->Option Nat
 | none,d=>some d
 | some x,_=>match Opd.val e x with
  | .int _ n=>if 0<=n then some n.toNat else none
  | _=>none
theorem bnd_rel{p:Phi}{a:Act}{lo:Option Operand}{d m y:Nat}(hr: ∀x,lo=some x->VRel p (Opd.val e x) (a.eval x))(hb:bnd e lo d=some m)(hy:m<=y)(code:BoundsCode) :
  ∀w,(match (lo.map a.eval) with|some v=>Instr.sliceBound v y code|none=>(pure d:Sem Nat)).run P w = .ok m w:=by
 intro w
 cases lo with
 | none=>simp only[bnd,Option.some.injEq] at hb;subst hb;rfl
 | some x=>
  have h1:=hr x rfl
  simp only[bnd] at hb
  cases hn:Opd.val e x<;>rw[hn] at hb h1<;>simp only[reduceCtorEq] at hb
  rename_i k n
  have h2:=(Plain.int k n).eq h1
  split at hb
  ·rename_i h0
   simp only[Option.some.injEq] at hb
   subst hb
   have:n<=y:=by omega
   simp[h2,Instr.sliceBound,asIntOf,h0,this]
  ·cases hb
theorem HStep.sliceString{t:TypeId}{x:Operand}{lo hi:Option Operand}{s:ByteArray}{l m:Nat}(ho:o.op = .slice t x lo hi none)(hx:Opd.val e x = .string s)(ht:P.underlying t=some .string)
  (hh:bnd e hi s.size=some m) (hl:bnd e lo 0=some l) (hm:m<=s.size) (hlm:l<=m):HStep G P o T M e h (.string (s.extract l m)) h:=
 .of_pure fun p a hr=>by
  have h1:=hr x (by rw[ho];simp[Op.operands])
  rw[hx] at h1
  have h2:=(Plain.string s).eq h1
  have r1: ∀y,hi=some y->VRel p (Opd.val e y) (a.eval y):=fun y hy=>hr y (by rw[ho,hy];simp[Op.operands])
  have r2: ∀y,lo=some y->VRel p (Opd.val e y) (a.eval y):=fun y hy=>hr y (by rw[ho,hy];simp[Op.operands])
  refine⟨.string (s.extract l m), .string _,fun w => ?_⟩
  have b1:=bnd_rel (P:=P) r1 hh hm .sliceAlen w
  have b2:=bnd_rel (P:=P) r2 hl hlm .sliceB w
  have hsb:(Instr.sliceBounds false s.size s.size (lo.map a.eval) (hi.map a.eval) none).run P w = .ok (l,m,s.size) w:=by
   unfold Instr.sliceBounds
   cases hi with
   | none=>
    simp only[bnd,Option.some.injEq] at hh
    subst hh
    cases lo<;>simp at b2 ⊢ <;> simp[b2]
   | some y=>cases lo<;>simp at b1 b2 ⊢ <;> simp[b1,b2]
  unfold execOp
  rw[ho]
  simp[Instr.sliceAt,run_underlying ht,Instr.slice,h2,hsb]
theorem HStep.sliceSlice{t el:TypeId}{x:Operand}{lo hi:Option Operand}{id off len sz l m:Nat}{k:Blk}(ho:o.op = .slice t x lo hi none)(hx:Opd.val e x = .slice (some ⟨id,off,none⟩) len 0)(ht:telem P t=some (sz,el))(hk:h[id]? = some k)(hks:k.esz=sz)
  (hh:bnd e hi len=some m) (hl:bnd e lo 0=some l) (hm:m<=len) (hlm:l<=m):HStep G P o T M e h (.slice (some ⟨id,off+l*sz,none⟩) (m-l) 0) h:=
 .of_pureH fun p a _ hrel hr=>by
  have h1:=hr x (by rw[ho];simp[Op.operands])
  rw[hx] at h1
  have r1: ∀y,hi=some y->VRel p (Opd.val e y) (a.eval y):=fun y hy=>hr y (by rw[ho,hy];simp[Op.operands])
  have r2: ∀y,lo=some y->VRel p (Opd.val e y) (a.eval y):=fun y hy=>hr y (by rw[ho,hy];simp[Op.operands])
  unfold telem at ht
  split at ht
  ·rename_i hu
   rw[Option.map_eq_some_iff] at ht
   obtain⟨i,hi',hs⟩:=ht
   simp only[Prod.mk.injEq] at hs
   obtain⟨rfl,rfl⟩:=hs
   have run: ∀(a1:Addr) (cap:Nat),a.eval x = .slice (some a1) len cap->len<=cap->∀w,(execOp a.eval o).run P w = .ok (.value (.slice (if cap=l then some a1 else some (a1.add (l*i.size))) (m-l) (cap-l))) w:=by
    intro a1 cap hq hcap w
    have b1:=bnd_rel (P:=P) r1 hh (le_trans hm hcap) .sliceAcap w
    have b2:=bnd_rel (P:=P) r2 hl hlm .sliceB w
    have hsb:(Instr.sliceBounds true len cap (lo.map a.eval) (hi.map a.eval) none).run P w = .ok (l,m,cap) w:=by
     unfold Instr.sliceBounds
     cases hi with
     | none=>
      simp only[bnd,Option.some.injEq] at hh
      subst hh
      cases lo<;>simp at b2 ⊢ <;> simp[b2]
     | some y=>cases lo<;>simp at b1 b2 ⊢ <;> simp[b1,b2]
    unfold execOp
    rw[ho]
    simp[Instr.sliceAt,run_underlying hu,Instr.slice,hq,hsb,sizeOf,typeInfo,hi']
   generalize hq:a.eval x=u at h1
   cases h1 with
   | @slice _ _ tg _ cap e1 e2 e3=>
    by_cases hc:cap=l
    ·subst hc
     refine⟨_, ?_,fun w=>run _ _ hq e2 w⟩
     have:m-cap=0:=by omega
     rw[if_pos rfl,this,sub_self]
     exact .sliceEmpty
    ·refine⟨_, ?_,fun w=>run _ _ hq e2 w⟩
     rw[if_neg hc,addr_add]
     have:=VRel.slice (p:=p) (off:=off+l*i.size) (len:=m-l) (cap:=cap-l) e1 (by omega) ?_
     ·rw[show off+tg.d+l*i.size=off+l*i.size+tg.d from by omega]
      exact this
     ·have:=hrel.esz id tg k e1 hk
      have h3:tg.esz=i.size:=by omega
      rw[h3] at e3 ⊢
      have:cap*i.size=l*i.size+(cap-l)*i.size:=by rw[←Nat.add_mul];congr 1;omega
      omega
   | sliceEmpty=>
    have:l=0:=by omega
    subst this
    have hm0:m=0:=by omega
    subst hm0
    refine⟨_, ?_,fun w=>run _ _ hq (le_refl _) w⟩
    exact .sliceEmpty
  ·cases ht
theorem HStep.sliceNone{t el:TypeId}{x:Operand}{lo hi:Option Operand}{oa:Option Addr}{sz:Nat}(ho:o.op = .slice t x lo hi none)(hx:Opd.val e x = .slice oa 0 0)(ht:telem P t=some (sz,el))
  (hh:bnd e hi 0=some 0) (hl:bnd e lo 0=some 0):HStep G P o T M e h (.slice oa 0 0) h:=
 .of_pureH fun p a _ hrel hr=>by
  have h1:=hr x (by rw[ho];simp[Op.operands])
  rw[hx] at h1
  have r1: ∀y,hi=some y->VRel p (Opd.val e y) (a.eval y):=fun y hy=>hr y (by rw[ho,hy];simp[Op.operands])
  have r2: ∀y,lo=some y->VRel p (Opd.val e y) (a.eval y):=fun y hy=>hr y (by rw[ho,hy];simp[Op.operands])
  unfold telem at ht
  split at ht
  ·rename_i hu
   rw[Option.map_eq_some_iff] at ht
   obtain⟨i,hi',hs⟩:=ht
   simp only[Prod.mk.injEq] at hs
   obtain⟨rfl,rfl⟩:=hs
   have run: ∀(a1:Option Addr) (cap:Nat),a.eval x = .slice a1 0 cap->∀w,(execOp a.eval o).run P w = .ok (.value (.slice (if cap=0 then a1 else a1.map (·.add (0*i.size))) (0-0) (cap-0))) w:=by
    intro a1 cap hq w
    have b1:=bnd_rel (P:=P) r1 hh (zero_le cap) .sliceAcap w
    have b2:=bnd_rel (P:=P) r2 hl (le_refl 0) .sliceB w
    have hsb:(Instr.sliceBounds true 0 cap (lo.map a.eval) (hi.map a.eval) none).run P w = .ok (0,0,cap) w:=by
     unfold Instr.sliceBounds
     cases hi with
     | none=>cases lo<;>simp at b2 ⊢ <;> simp[b2]
     | some y=>cases lo<;>simp at b1 b2 ⊢ <;> simp[b1,b2]
    unfold execOp
    rw[ho]
    simp[Instr.sliceAt,run_underlying hu,Instr.slice,hq,hsb,sizeOf,typeInfo,hi']
   have same: ∀(a1:Option Addr) (cap:Nat),(if cap=0 then a1 else a1.map (·.add (0*i.size)))=a1:=by
    intro a1 cap
    split
    ·rfl
    ·cases a1 with
     | none=>rfl
     | some q=>simp[Addr.add]
   generalize hq:a.eval x=u at h1
   cases h1 with
   | sliceNil=>exact⟨_,by rw[same];exact .sliceNil,fun w=>run _ _ hq w⟩
   | @slice _ _ tg _ cap e1 e2 e3=>exact⟨_,by rw[same];exact .slice e1 (by omega) (by simpa using e3),fun w=>run _ _ hq w⟩
   | sliceEmpty=>exact⟨_,by rw[same];exact .sliceEmpty,fun w=>run _ _ hq w⟩
  ·cases ht
end
end Go.HH
namespace Go.HH
section
variable {G:List (Nat×Nat)} {P:Program} {T M:Nat->Prop} {e:Env} {h:Heap} {o:Oper}
def tapp(P:Program)(t:TypeId):Option (Nat×Nat):=
 match P.underlying t with
 | some (.slice el)=>match P.info? el with
  | some i=>match i.zero with
   | some z=>if z.cells.size=i.size∧0<i.size then some (i.size,i.bytes) else none
   | none=>none
  | none=>none
 | _=>none
theorem tapp_spec{t:TypeId}{sz by8:Nat}(ht:tapp P t=some (sz,by8)) :
  ∃el i z,P.underlying t=some (.slice el)∧P.info? el=some i∧i.zero=some z∧z.cells.size=i.size∧0<i.size∧i.size=sz∧i.bytes=by8:=by
 unfold tapp at ht
 split at ht
 ·rename_i el hu
  split at ht
  ·rename_i i hi
   split at ht
   ·rename_i z hz
    split at ht
    ·rename_i hc
     simp only[Option.some.injEq,Prod.mk.injEq] at ht
     exact⟨el,i,z,hu,hi,hz,hc.1,hc.2,ht.1,ht.2⟩
    ·cases ht
   ·cases ht
  ·cases ht
 ·cases ht
theorem HRelT.kill{p:Phi}{w:World}(r:HRelT G T p h w){id:Nat}{k:Blk}(hk:h[id]? = some k) :
  HRelT G T p (h.set id ⟨k.cells,k.esz, .dead⟩) w∧Ext M p p h (h.set id ⟨k.cells,k.esz, .dead⟩) w w:=by
 have hid:id<h.length:=(List.getElem?_eq_some_iff.1 hk).1
 have hget: ∀j,(h.set id ⟨k.cells,k.esz, .dead⟩)[j]? = if id=j then some ⟨k.cells,k.esz, .dead⟩ else h[j]? := fun j=>by
  rw[List.getElem?_set]
  split
  ·rename_i hj;subst hj;rfl
  ·rfl
 refine⟨⟨r.glob,fun j t e=>⟨by simpa using (r.dom j t e).1,(r.dom j t e).2⟩,fun j t kj tt e hj hd => ?_,fun j t kj e hj => ?_,fun j j' t t' kj kj' e e' hj hj' hrw hd hb => ?_⟩, ?_⟩
 ·rw[hget] at hj
  split at hj
  ·cases hj;exact absurd rfl hd
  ·exact r.blk j t kj tt e hj hd
 ·rw[hget] at hj
  split at hj
  ·rename_i he;subst he;cases hj;exact r.esz id t k e hk
  ·exact r.esz j t kj e hj
 ·rw[hget] at hj hj'
  split at hj
  ·cases hj;cases hrw
  ·split at hj'
   ·cases hj';exact absurd rfl hd
   ·exact r.inj j j' t t' kj kj' e e' hj hj' hrw hd hb
 ·exact⟨Phi.le_refl p,fun j t e en=>(by rw[e] at en;cases en),by simp,fun _ _ _=>rfl,le_refl _,rfl,rfl,rfl⟩
theorem HStep.append0{s x:Operand}{t t2:TypeId}{so a2:Option Addr}{len hc hc2:Nat}{sb:Nat×Nat}(ho:o.op = .call {callee := .builtin .append,args:= #[s,x],argTypes:= #[t,t2]})
  (hs:Opd.val e s = .slice so len hc) (hx:Opd.val e x = .slice a2 0 hc2) (ht:tapp P t=some sb) (ht2:(telem P t2).isSome=true):HStep G P o T M e h (.slice so len hc) h:=
 .of_pure fun p a hr=>by
  have h1:=hr s (by rw[ho];simp[Op.operands,Call.operands])
  have h2:=hr x (by rw[ho];simp[Op.operands,Call.operands])
  rw[hs] at h1
  rw[hx] at h2
  obtain⟨b1,cap,g1,_,g3,_⟩:=h1.slice_any
  obtain⟨b2,cap2,k1,_,k3,_⟩:=h2.slice_any
  refine⟨a.eval s,h1,fun w => ?_⟩
  obtain⟨el,i,z,e1,e2,e3,_⟩:=tapp_spec (sz:=sb.1) (by8:=sb.2) ht
  unfold telem at ht2
  split at ht2
  ·rename_i hu2
   have hfc: ∀w,(Builtin.firstCells i.size 0 (a.eval x)).run P w = .ok #[] w:=by
    intro w
    rw[k1]
    cases b2<;>simp[Builtin.firstCells,loadCells,loadCellsFrom]
   have hst: ∀(ad:Addr) (w:World),(storeCells ad [] 0).run P w = .ok () w:=fun _ _=>rfl
   unfold execOp
   rw[ho]
   rw[k1] at hfc
   cases b1<;>simp[resolve,invoke,builtin,Builtin.append_,g1,k1,run_underlying e1,run_underlying hu2,sizeOf,typeInfo,e2,Builtin.lenOf,g3,hfc,hst]
  ·cases ht2
theorem HRelT.grow{p:Phi}{w:World}(r:HRelT G T p h w)(esz:Nat)(elem:TypeId){cells:List Value}{c:Array Value}(hc:LRel p cells (c.toList.take cells.length))(hsz:cells.length<=c.size) :
  HRelT G (fun id=>T id∨h.length<=id) (phiPush p h.length ⟨w.heap.size,0,esz,c.size⟩) (h++ [⟨cells,esz, .rw⟩]) (w.drew.alloc (.cells c elem)) ∧
  Ext M p (phiPush p h.length ⟨w.heap.size,0,esz,c.size⟩) h (h++ [⟨cells,esz, .rw⟩]) w (w.drew.alloc (.cells c elem)):=by
 have r1:HRelT G T p h w.drew:=⟨r.glob,r.dom,fun id t k tt a b c=>let x:=r.blk id t k tt a b c;⟨x.esz,x.row⟩,r.esz,r.inj⟩
 obtain⟨h1,h2⟩:=r1.push (M:=M) esz elem .rw (0,0) hc hsz (fun o _=>by omega)
 exact⟨h1,⟨h2.le,h2.new,h2.len,h2.frame,h2.size,h2.os,h2.tape,h2.output⟩⟩
theorem source{p:Phi}{w:World}(r:HRelT G T p h w){id off n sz:Nat}{k:Blk}{v':Value}(hv:VRel p (.slice (some ⟨id,off,none⟩) n 0) v')(hn:0<n)(hT:T id)(hk:h[id]? = some k)(hd:k.st ≠ .dead)(hl:off+n*sz<=k.cells.length) :
  ∃ad cap news,v' = .slice (some ad) n cap∧LRel p ((k.cells.drop off).take (n*sz)) news∧news.length=n*sz∧∀j u,news[j]? = some u->w.cell? (ad.add j)=some u:=by
 obtain⟨t,cap,g1,g2,g3,rfl⟩:=hv.slice_inv hn
 obtain⟨cs,l1,l2,l3⟩:=r.cells hT g1 hk hd hl
 exact⟨_,cap,cs,rfl,l1,l2,l3⟩
theorem HStep.appendNil{s x:Operand}{t:TypeId}{id2 off2 n sz by8:Nat}{k2:Blk}(ho:o.op = .call {callee := .builtin .append,args:= #[s,x],argTypes:= #[t,t]})
  (hs:Opd.val e s = .slice none 0 0) (hx:Opd.val e x = .slice (some ⟨id2,off2,none⟩) n 0) (ht:tapp P t=some (sz,by8)) (hn:0<n) (hT:T id2) (hk:h[id2]? = some k2) (hd:k2.st ≠ .dead) (hl:off2+n*sz<=k2.cells.length)
  (hmax:n<=9223372036854775807) (hby:n*by8<=140737488355328) :
  HStep G P o T M e h (.slice (some ⟨h.length,0,none⟩) n 0) (h++ [⟨(k2.cells.drop off2).take (n*sz),sz, .rw⟩]):=
 .of_run fun p a w r hr=>by
  have h1:=hr s (by rw[ho];simp[Op.operands,Call.operands])
  have h2:=hr x (by rw[ho];simp[Op.operands,Call.operands])
  rw[hs] at h1
  rw[hx] at h2
  have h1':=Plain.sliceNil.eq h1
  obtain⟨ad,cap2,news,s1,s2,s3,s4⟩:=source r h2 hn hT hk hd hl
  obtain⟨el,i,z,e1,e2,e3,e4,e5,rfl,rfl⟩:=tapp_spec ht
  have hrun:=run_append_nil (P:=P) w t o.type el i z e1 e2 e3 ad n cap2 news s3 s4 hn (by omega) (by omega)
  have hge:=grownCap_ge w n 0 el
  have hz:(Builtin.zeroCells z.cells (grownCap w n 0 el-n)).size=(grownCap w n 0 el-n)*i.size:=by rw[size_zeroCells,e4]
  have hcs:(news.toArray++Builtin.zeroCells z.cells (grownCap w n 0 el-n)).size=grownCap w n 0 el*i.size:=by
   rw[Array.size_append,hz,size_toArray,s3, ←Nat.add_mul];congr 1;omega
  have hlen:((k2.cells.drop off2).take (n*i.size)).length=news.length:=s2.1
  obtain⟨d1,d2⟩:=r.grow (M:=M) i.size el (cells:=(k2.cells.drop off2).take (n*i.size)) (c:=news.toArray++Builtin.zeroCells z.cells (grownCap w n 0 el-n))
   (by rw[hlen];simpa using s2) (by rw[hlen];simp)
  refine⟨_, .slice (some ⟨w.heap.size,0,none⟩) n (grownCap w n 0 el),_, .inl ?_,d1, ?_,d2⟩
  ·unfold execOp
   rw[ho]
   simp[resolve,invoke,builtin,h1',s1,hrun]
  ·exact VRel.slice (t:=⟨w.heap.size,0,i.size,_⟩) phiPush_same hge (by simp only;rw[hcs];omega)
theorem HStep.append{s x:Operand}{t:TypeId}{id off len id2 off2 n sz by8:Nat}{k k2:Blk}(ho:o.op = .call {callee := .builtin .append,args:= #[s,x],argTypes:= #[t,t]})
  (hs:Opd.val e s = .slice (some ⟨id,off,none⟩) len 0) (hx:Opd.val e x = .slice (some ⟨id2,off2,none⟩) n 0) (ht:tapp P t=some (sz,by8)) (hn:0<n)
  (hT1:T id) (hM:M id) (hk1:h[id]? = some k) (hd1:k.st = .rw) (hf:off+len*sz=k.cells.length) (hks:k.esz=sz)
  (hT:T id2) (hk:h[id2]? = some k2) (hd:k2.st ≠ .dead) (hl:off2+n*sz<=k2.cells.length) (h1c:((k2.cells.drop off2).take (n*sz)).all oneC=true)
  (hmax:len+n<=9223372036854775807) (hby:(len+n)*by8<=140737488355328) :
  HStep G P o T M e h (.slice (some ⟨h.length,0,none⟩) (len+n) 0) (h.set id ⟨k.cells,k.esz, .dead⟩++ [⟨k.cells.drop off++(k2.cells.drop off2).take (n*sz),sz, .rw⟩]):=
 .of_run fun p a w r hr=>by
  have h1:=hr s (by rw[ho];simp[Op.operands,Call.operands])
  have h2:=hr x (by rw[ho];simp[Op.operands,Call.operands])
  rw[hs] at h1
  rw[hx] at h2
  obtain⟨ad,cap2,news,s1,s2,s3,s4⟩:=source r h2 hn hT hk hd hl
  obtain⟨el,i,z,e1,e2,e3,e4,e5,rfl,rfl⟩:=tapp_spec ht
  have hlen2:((k2.cells.drop off2).take (n*i.size)).length=news.length:=s2.1
  have hid:id<h.length:=(List.getElem?_eq_some_iff.1 hk1).1
  -- the new array
  have growth: ∀(b:Addr) (cap:Nat) (olds:List Value),a.eval s = .slice (some b) len cap->cap<len+n->LRel p (k.cells.drop off) olds->olds.length=len*i.size->(∀j u,olds[j]? = some u->w.cell? (b.add j)=some u) →
    ∃q v' w',(execOp a.eval o).run P w = .ok (.value v') w'∧HRelT G (fun id=>T id∨h.length<=id) q (h.set id ⟨k.cells,k.esz, .dead⟩++ [⟨k.cells.drop off++(k2.cells.drop off2).take (n*i.size),i.size, .rw⟩]) w' ∧
     VRel q (.slice (some ⟨h.length,0,none⟩) (len+n) 0) v'∧Ext M p q h (h.set id ⟨k.cells,k.esz, .dead⟩++ [⟨k.cells.drop off++(k2.cells.drop off2).take (n*i.size),i.size, .rw⟩]) w w':=by
   intro b cap olds hq hcap ho1 ho2 ho3
   have hrun:=run_append_grow (P:=P) w t o.type el i z e1 e2 e3 b len cap olds ho2 ho3 ad n cap2 news s3 s4 hcap (by omega) (growslice_fits hcap hby)
   have hge:=grownCap_ge w (len+n) cap el
   have hcs:(olds.toArray++news.toArray++Builtin.zeroCells z.cells (grownCap w (len+n) cap el-(len+n))).size=grownCap w (len+n) cap el*i.size:=by
    rw[Array.size_append,Array.size_append,size_zeroCells,e4,size_toArray,size_toArray,ho2,s3, ←Nat.add_mul, ←Nat.add_mul];congr 1;omega
   obtain⟨r1,x1⟩:=r.kill (M:=M) hk1
   have hl1:(k.cells.drop off++(k2.cells.drop off2).take (n*i.size)).length=(olds++news).length:=by rw[length_append,length_append,ho1.1,hlen2]
   obtain⟨d1,d2⟩:=r1.grow (M:=M) i.size el (cells:=k.cells.drop off++(k2.cells.drop off2).take (n*i.size)) (c:=olds.toArray++news.toArray++Builtin.zeroCells z.cells (grownCap w (len+n) cap el-(len+n)))
    (by
     have:(olds.toArray++news.toArray++Builtin.zeroCells z.cells (grownCap w (len+n) cap el-(len+n))).toList.take (olds++news).length=olds++news:=by
      simp only[Array.toList_append]
      rw[List.take_append_of_le_length (by simp)]
      exact take_of_length_le (by simp)
     rw[hl1,this]
     exact ho1.append s2) (by rw[hl1];simp)
   have hsl:(h.set id ⟨k.cells,k.esz, .dead⟩).length=h.length:=by simp
   rw[hsl] at d1 d2
   refine⟨_, .slice (some ⟨w.heap.size,0,none⟩) (len+n) (grownCap w (len+n) cap el),_, ?_,d1, ?_,x1.trans d2⟩
   ·unfold execOp
    rw[ho]
    simp[resolve,invoke,builtin,hq,s1,hrun]
   ·exact VRel.slice (t:=⟨w.heap.size,0,i.size,_⟩) phiPush_same hge (by simp only;rw[hcs];omega)
  generalize hq:a.eval s=u at h1
  cases h1 with
  | @slice _ _ tg _ cap f1 f2 f3=>
   have htg:tg.esz=i.size:=by have:=r.esz id tg k f1 hk1;omega
   by_cases hroom:len+n<=cap
   ·-- there is room
    obtain⟨x1,c,ele,fr,x2,x3,x4,x5,x6⟩:=r.blk id tg k hT1 f1 hk1 (by rw[hd1];decide)
    have hfit:off+tg.d+(len+n)*i.size<=c.size:=by
     rw[htg] at f3
     have:(len+n)*i.size<=cap*i.size:=Nat.mul_le_mul_right _ hroom
     omega
    rw[Nat.add_mul] at hfit
    have hst:=run_storeCells_free P tg.b (off+tg.d+len*i.size) ele fr news 0 c w x2 (fun o ho=>x6 hd1 o (by omega)) (by omega) (s2.oneC (all_eq_true.1 h1c))
    simp only[add_zero] at hst
    have hfc:=run_firstCells_some (P:=P) w i.size n ad n cap2 news s3 s4
    have hheap:(w.setRow tg.b (HH.setRange c.toList (off+tg.d+len*i.size) news).toArray).heap[tg.b]? = some (.cells (HH.setRange c.toList (off+tg.d+len*i.size) news).toArray ele fr):=setRow_heap w tg.b c _ ele fr x2
    have hoth: ∀b,b≠tg.b->(w.setRow tg.b (HH.setRange c.toList (off+tg.d+len*i.size) news).toArray).heap[b]? = w.heap[b]? := fun b hb=>by simp[World.setRow,Array.getElem?_modify,Ne.symm hb]
    have hsize:(w.setRow tg.b (HH.setRange c.toList (off+tg.d+len*i.size) news).toArray).heap.size=w.heap.size:=by simp[World.setRow]
    generalize hw':w.setRow tg.b (HH.setRange c.toList (off+tg.d+len*i.size) news).toArray=w' at *
    have hos:w'.os=w.os:=by rw[←hw'];rfl
    have htape:w'.tape=w.tape:=by rw[←hw'];rfl
    have hout:w'.output=w.output:=by rw[←hw'];rfl
    have hcl:(HH.setRange c.toList (off+tg.d+len*i.size) news).length=c.size:=by rw[setRange_length (by simp;omega)];simp
    have hle:p.le (phiPush p h.length ⟨tg.b,off+tg.d,i.size,tg.n⟩):=fun j t ej=>by
     unfold phiPush
     rw[if_neg]
     ·exact ej
     ·intro hj;have:=(r.dom j t ej).1;omega
    have split: ∀j t,phiPush p h.length ⟨tg.b,off+tg.d,i.size,tg.n⟩ j=some t->(p j=some t∧j<h.length∧t.b<w.heap.size)∨(j=h.length∧t=⟨tg.b,off+tg.d,i.size,tg.n⟩):=by
     intro j t ej
     unfold phiPush at ej
     split at ej
     ·rename_i hj;exact .inr ⟨hj,(Option.some.inj ej).symm⟩
     ·exact .inl ⟨ej,r.dom j t ej⟩
    have hget: ∀j,(h.set id ⟨k.cells,k.esz, .dead⟩++ [(⟨k.cells.drop off++(k2.cells.drop off2).take (n*i.size),i.size, .rw⟩:Blk)])[j]? = if j<h.length then (if id=j then some ⟨k.cells,k.esz, .dead⟩ else h[j]?) else if j=h.length then some ⟨k.cells.drop off++(k2.cells.drop off2).take (n*i.size),i.size, .rw⟩ else none:=by
     intro j
     split
     ·rename_i hj
      rw[getElem?_append_left (by simpa using hj),List.getElem?_set]
      split
      ·first|rfl|rw[if_pos (by assumption)]
      ·rfl
     ·rename_i hj
      rw[getElem?_append_right (by simp;omega)]
      split
      ·rename_i hj2;simp[hj2]
      ·simp;omega
    have hb0:tg.b<w.heap.size:=(r.dom id tg f1).2
    refine⟨phiPush p h.length ⟨tg.b,off+tg.d,i.size,tg.n⟩, .slice (some ⟨tg.b,off+tg.d,none⟩) (len+n) cap,w', .inl ?_,⟨fun g hg => ?_,fun j t ej => ?_,fun j t kj tt ej hj hdj => ?_,fun j t kj ej hj => ?_,fun j j' t t' kj kj' ej ej' hj hj' hrw hdd hb => ?_⟩, ?_,⟨hle,fun j t ej en => ?_,by simp,fun b hb hno=>hoth b (fun hbt=>hno id tg f1 hM hbt.symm),by omega,hos,htape,hout⟩⟩
    ·unfold execOp
     rw[ho]
     simp[resolve,invoke,builtin,Builtin.append_,hq,s1,run_underlying e1,sizeOf,typeInfo,e2,Builtin.lenOf,hroom,hfc,addr_add,hst]
    ·obtain⟨t,a1,a2⟩:=r.glob g hg
     exact⟨t,hle _ _ a1,a2⟩
    ·rcases split j t ej with⟨_,b1,b2⟩|⟨rfl,rfl⟩
     ·exact⟨by simp;omega,by omega⟩
     ·exact⟨by simp,by simp only;omega⟩
    ·rw[hget] at hj
     rcases split j t ej with⟨b0,b1,b2⟩|⟨rfl,rfl⟩
     ·rw[if_pos b1] at hj
      split at hj
      ·cases hj;exact absurd rfl hdj
      ·rename_i hne
       rcases tt with tt|tt
       ·obtain⟨y1,cc,el2,fr2,y2,y3,y4,y5,y6⟩:=r.blk j t kj tt b0 hj hdj
        have hbne:t.b≠tg.b:=fun hb=>hne (r.inj id j tg t k kj f1 b0 hk1 hj hd1 hdj hb.symm)
        exact⟨y1,cc,el2,fr2,by rw[hoth _ hbne];exact y2,y3,y4,fun m v hm=>let ⟨v',z1,z2⟩:=y5 m v hm;⟨v',z1,z2.mono hle⟩,y6⟩
       ·omega
     ·rw[if_neg (by omega),if_pos rfl] at hj
      cases hj
      refine⟨rfl,_,ele,fr,hheap,by simpa[hcl] using x3, ?_,fun m v hm => ?_,fun _ oo hoo=>x6 hd1 oo (by have h9:=hoo;simp[hcl] at h9;omega)⟩
      ·simp only[size_toArray,hcl,length_append,length_drop,hlen2,s3]
       omega
      ·simp only[List.getElem?_toArray]
       have hol:(k.cells.drop off).length=len*i.size:=by simp;omega
       rcases lt_or_ge m (len*i.size) with hm1|hm1
       ·rw[getElem?_append_left (by omega),getElem?_drop] at hm
        obtain⟨v',z1,z2⟩:=x5 _ v hm
        refine⟨v', ?_,z2.mono hle⟩
        unfold HH.setRange
        rw[append_assoc,getElem?_append_left (by simp;omega),getElem?_take,if_pos (by omega),Array.getElem?_toList, ←z1]
        congr 1
        omega
       ·rw[getElem?_append_right (by omega),hol] at hm
        have hmn:=(List.getElem?_eq_some_iff.1 hm).1
        rw[hlen2,s3] at hmn
        obtain⟨v',z1,z2⟩:=s2.2 _ v hm
        refine⟨v', ?_,z2.mono hle⟩
        unfold HH.setRange
        rw[append_assoc,getElem?_append_right (by simp;omega),getElem?_append_left (by simp;omega), ←z1]
        congr 1
        simp
        omega
    ·rw[hget] at hj
     rcases split j t ej with⟨b0,b1,b2⟩|⟨rfl,rfl⟩
     ·rw[if_pos b1] at hj
      split at hj
      ·rename_i he;subst he;cases hj;exact r.esz id t k b0 hk1
      ·exact r.esz j t kj b0 hj
     ·rw[if_neg (by omega),if_pos rfl] at hj
      cases hj;rfl
    ·rw[hget] at hj hj'
     rcases split j t ej with⟨b0,b1,b2⟩|⟨rfl,rfl⟩<;>rcases split j' t' ej' with⟨c0,c1,c2⟩|⟨rfl,rfl⟩
     ·rw[if_pos b1] at hj
      rw[if_pos c1] at hj'
      split at hj
      ·cases hj;cases hrw
      ·split at hj'
       ·cases hj';exact absurd rfl hdd
       ·exact r.inj j j' t t' kj kj' b0 c0 hj hj' hrw hdd hb
     ·rw[if_pos b1] at hj
      split at hj
      ·cases hj;cases hrw
      ·rename_i hne
       exact absurd (r.inj id j tg t k kj f1 b0 hk1 hj hd1 (by rw[hrw];decide) hb.symm) hne
     ·rw[if_pos c1] at hj'
      split at hj'
      ·cases hj';exact absurd rfl hdd
      ·rename_i hne
       exact absurd (r.inj id j' tg t' k kj' f1 c0 hk1 hj' hd1 hdd hb) hne
     ·rfl
    ·have:=VRel.slice (p:=phiPush p h.length ⟨tg.b,off+tg.d,i.size,tg.n⟩) (off:=0) (len:=len+n) (cap:=cap) phiPush_same hroom (by simp only;rw[htg] at f3;omega)
     simp only[zero_add] at this
     exact this
    ·rcases split j t ej with⟨b0,_⟩|⟨rfl,rfl⟩
     ·rw[b0] at en;cases en
     ·exact⟨le_refl _, .inr ⟨id,tg,f1,rfl,hM⟩⟩
   ·obtain⟨cs,l1,l2,l3⟩:=r.cells (off:=off) (n:=len*i.size) hT1 f1 hk1 (by rw[hd1];decide) (by omega)
    have:(k.cells.drop off).take (len*i.size)=k.cells.drop off:=take_of_length_le (by simp;omega)
    rw[this] at l1
    obtain⟨q,v',w',g1,g2⟩:=growth ⟨tg.b,off+tg.d,none⟩ cap cs hq (by omega) l1 l2 l3
    exact⟨q,v',w', .inl g1,g2⟩
  | @sliceEmpty _ a'=>
   have hol:k.cells.drop off= []:=by apply List.drop_of_length_le;omega
   obtain⟨q,v',w',g1,g2⟩:=growth a' 0 [] hq (by omega) (by rw[hol];exact LRel.nil p) (by simp) (by simp)
   exact⟨q,v',w', .inl g1,g2⟩
theorem HRelT.over{p:Phi}{w:World}(r:HRelT G allT p h w){id off:Nat}{k:Blk}{tg:Tgt}(f1:p id=some tg)(hk1:h[id]? = some k)(hd1:k.st = .rw)(hM:M id){w':World}{c C:Array Value}{ele:TypeId}{fr:Nat×Nat}
  (x2:w.heap[tg.b]? = some (.cells c ele fr)) (hC:w'.heap[tg.b]? = some (.cells C ele fr)) (hCs:C.size=c.size) (hoth: ∀b,b≠tg.b->w'.heap[b]? = w.heap[b]?) (hsize:w'.heap.size=w.heap.size) (hos:w'.os=w.os) (htape:w'.tape=w.tape) (hout:w'.output=w.output)
  {cells:List Value} (hc:LRel p cells ((C.toList.drop (off+tg.d)).take cells.length)) (hfit:off+tg.d+cells.length<=c.size) :
  HRelT G allT (phiPush p h.length ⟨tg.b,off+tg.d,k.esz,tg.n⟩) (h.set id ⟨k.cells,k.esz, .dead⟩++ [⟨cells,k.esz, .rw⟩]) w' ∧
  Ext M p (phiPush p h.length ⟨tg.b,off+tg.d,k.esz,tg.n⟩) h (h.set id ⟨k.cells,k.esz, .dead⟩++ [⟨cells,k.esz, .rw⟩]) w w':=by
 have hid:id<h.length:=(List.getElem?_eq_some_iff.1 hk1).1
 obtain⟨x1,c0,ele0,fr0,x2',x3,x4,x5,x6⟩:=r.blk id tg k trivial f1 hk1 (by rw[hd1];decide)
 rw[x2] at x2'
 cases x2'
 have hle:p.le (phiPush p h.length ⟨tg.b,off+tg.d,k.esz,tg.n⟩):=fun j t ej=>by
  unfold phiPush
  rw[if_neg]
  ·exact ej
  ·intro hj;have:=(r.dom j t ej).1;omega
 have split: ∀j t,phiPush p h.length ⟨tg.b,off+tg.d,k.esz,tg.n⟩ j=some t->(p j=some t∧j<h.length∧t.b<w.heap.size)∨(j=h.length∧t=⟨tg.b,off+tg.d,k.esz,tg.n⟩):=by
  intro j t ej
  unfold phiPush at ej
  split at ej
  ·rename_i hj;exact .inr ⟨hj,(Option.some.inj ej).symm⟩
  ·exact .inl ⟨ej,r.dom j t ej⟩
 have hget: ∀j,(h.set id ⟨k.cells,k.esz, .dead⟩++ [(⟨cells,k.esz, .rw⟩:Blk)])[j]? = if j<h.length then (if id=j then some ⟨k.cells,k.esz, .dead⟩ else h[j]?) else if j=h.length then some ⟨cells,k.esz, .rw⟩ else none:=by
  intro j
  split
  ·rename_i hj
   rw[getElem?_append_left (by simpa using hj),List.getElem?_set]
   split
   ·first|rfl|rw[if_pos (by assumption)]
   ·rfl
  ·rename_i hj
   rw[getElem?_append_right (by simp;omega)]
   split
   ·rename_i hj2;simp[hj2]
   ·simp;omega
 have hb0:tg.b<w.heap.size:=(r.dom id tg f1).2
 refine⟨⟨fun g hg => ?_,fun j t ej => ?_,fun j t kj tt ej hj hdj => ?_,fun j t kj ej hj => ?_,fun j j' t t' kj kj' ej ej' hj hj' hrw hdd hb => ?_⟩,⟨hle,fun j t ej en => ?_,by simp,fun b hb hno=>hoth b (fun hbt=>hno id tg f1 hM hbt.symm),by omega,hos,htape,hout⟩⟩
 ·obtain⟨t,a1,a2⟩:=r.glob g hg
  exact⟨t,hle _ _ a1,a2⟩
 ·rcases split j t ej with⟨_,b1,b2⟩|⟨rfl,rfl⟩
  ·exact⟨by simp;omega,by omega⟩
  ·exact⟨by simp,by simp only;omega⟩
 ·rw[hget] at hj
  rcases split j t ej with⟨b0,b1,b2⟩|⟨rfl,rfl⟩
  ·rw[if_pos b1] at hj
   split at hj
   ·cases hj;exact absurd rfl hdj
   ·rename_i hne
    obtain⟨y1,cc,el2,fr2,y2,y3,y4,y5,y6⟩:=r.blk j t kj trivial b0 hj hdj
    have hbne:t.b≠tg.b:=fun hb=>hne (r.inj id j tg t k kj f1 b0 hk1 hj hd1 hdj hb.symm)
    exact⟨y1,cc,el2,fr2,by rw[hoth _ hbne];exact y2,y3,y4,fun m v hm=>let ⟨v',z1,z2⟩:=y5 m v hm;⟨v',z1,z2.mono hle⟩,y6⟩
  ·rw[if_neg (by omega),if_pos rfl] at hj
   cases hj
   refine⟨rfl,C,ele,fr,hC,by simpa[hCs] using x3,by simp only;omega,fun m v hm => ?_,fun _ oo hoo=>x6 hd1 oo (by have h9:=hoo;simp[hCs] at h9;omega)⟩
   obtain⟨v',z1,z2⟩:=hc.2 m v hm
   refine⟨v', ?_,z2.mono hle⟩
   have hml:m<cells.length:=(List.getElem?_eq_some_iff.1 hm).1
   rw[getElem?_take,if_pos hml,getElem?_drop,Array.getElem?_toList] at z1
   rw[←z1]
   congr 1
   simp only
   omega
 ·rw[hget] at hj
  rcases split j t ej with⟨b0,b1,b2⟩|⟨rfl,rfl⟩
  ·rw[if_pos b1] at hj
   split at hj
   ·rename_i he;subst he;cases hj;exact r.esz id t k b0 hk1
   ·exact r.esz j t kj b0 hj
  ·rw[if_neg (by omega),if_pos rfl] at hj
   cases hj;rfl
 ·rw[hget] at hj hj'
  rcases split j t ej with⟨b0,b1,b2⟩|⟨rfl,rfl⟩<;>rcases split j' t' ej' with⟨c0,c1,c2⟩|⟨rfl,rfl⟩
  ·rw[if_pos b1] at hj
   rw[if_pos c1] at hj'
   split at hj
   ·cases hj;cases hrw
   ·split at hj'
    ·cases hj';exact absurd rfl hdd
    ·exact r.inj j j' t t' kj kj' b0 c0 hj hj' hrw hdd hb
  ·rw[if_pos b1] at hj
   split at hj
   ·cases hj;cases hrw
   ·rename_i hne
    exact absurd (r.inj id j tg t k kj f1 b0 hk1 hj hd1 (by rw[hrw];decide) hb.symm) hne
  ·rw[if_pos c1] at hj'
   split at hj'
   ·cases hj';exact absurd rfl hdd
   ·rename_i hne
    exact absurd (r.inj id j' tg t' k kj' f1 c0 hk1 hj' hd1 hdd hb) hne
  ·rfl
 ·rcases split j t ej with⟨b0,_⟩|⟨rfl,rfl⟩
  ·rw[b0] at en;cases en
  ·exact⟨le_refl _, .inr ⟨id,tg,f1,rfl,hM⟩⟩
theorem HRelT.sameHeap{p:Phi}{w w':World}(r:HRelT G T p h w)(hh:w'.heap=w.heap):HRelT G T p h w':=
 ⟨r.glob,fun id t e=>by rw[hh];exact r.dom id t e,fun id t k tt e hk hd=>by
  obtain⟨x1,c,el,fr,x2,x3⟩:=r.blk id t k tt e hk hd
  exact⟨x1,c,el,fr,by rw[hh];exact x2,x3⟩,r.esz,r.inj⟩
theorem HRelT.anew{p:Phi}{w:World}(r:HRelT G allT p h w){id:Nat}{k:Blk}(hk1:h[id]? = some k){w':World}{C:Array Value}{ele:TypeId}(hw:w'.heap=w.heap.push (.cells C ele (0,0)))(hos:w'.os=w.os)(htape:w'.tape=w.tape)(hout:w'.output=w.output)
  {cells:List Value} {esz:Nat} (hc:LRel p cells (C.toList.take cells.length)) (hfit:cells.length<=C.size) :
  HRelT G allT (phiPush p h.length ⟨w.heap.size,0,esz,C.size⟩) (h.set id ⟨k.cells,k.esz, .dead⟩++ [⟨cells,esz, .rw⟩]) w' ∧
  Ext M p (phiPush p h.length ⟨w.heap.size,0,esz,C.size⟩) h (h.set id ⟨k.cells,k.esz, .dead⟩++ [⟨cells,esz, .rw⟩]) w w':=by
 obtain⟨r1,x1⟩:=r.kill (M:=M) hk1
 obtain⟨d1,d2⟩:=r1.push (M:=M) esz ele .rw (0,0) hc hfit (fun o _=>by omega)
 have hsl:(h.set id ⟨k.cells,k.esz, .dead⟩).length=h.length:=by simp
 rw[hsl] at d1 d2
 refine⟨(d1.sameHeap hw).weaken fun _ _ _ _ => .inl trivial, ?_⟩
 have x2:=x1.trans d2
 exact⟨x2.le,x2.new,x2.len,fun b hb hm=>by rw[hw];exact x2.frame b hb hm,by rw[hw];exact x2.size,by rw[hos],by rw[htape],by rw[hout]⟩
end
end Go.HH
namespace Go.HH
section
variable {G:List (Nat×Nat)} {P:Program} {T M:Nat->Prop} {e:Env} {h:Heap} {o:Oper}
def callable(P:Program)(f:FuncId):Bool:=
 match P.funcs[f]? with
 | some fn => fn.body.isSome && !(fn.name == "runtime.NumGoroutine")
 | none=>false
theorem ARel.append{p:Phi}{x y x' y':Array Value}(r:ARel p x y)(r':ARel p x' y'):ARel p (x++x') (y++y'):=by
 have:=(r.list.append r'.list).array
 have e1:(x.toList++x'.toList).toArray=x++x':=by apply Array.ext';simp
 have e2:(y.toList++y'.toList).toArray=y++y':=by apply Array.ext';simp
 rw[e1,e2] at this
 exact this
theorem ARel.map_opd{p:Phi}{a:Act}{args:Array Operand}(hr: ∀x∈args,VRel p (Opd.val e x) (a.eval x)):ARel p (args.map (Opd.val e)) (args.map a.eval):=
 ⟨by simp,fun i h1 h2=>by
  have hi:i<args.size:=by simpa using h1
  simp only[Array.getElem_map]
  exact hr _ (Array.getElem_mem hi)⟩
theorem HStep.call{f:Operand}{fid:FuncId}{first captured:Array Value}{args:Array Operand}{ats:Array TypeId}{r:Value}{h':Heap}
  (ho:o.op = .call {callee := .value f,args:=args,argTypes:=ats}) (hf:Opd.val e f = .func (.func fid) first captured) (hc:callable P fid=true)
  (hr:HRuns G P fid (first.toList++(args.map (Opd.val e)).toList++captured.toList) h M r h'):HStep G P o allT M e h r h':=by
 intro p a w hrel hopd next Q hk
 unfold callable at hc
 split at hc
 ·rename_i fn hfn
  simp only[Bool.and_eq_true,Bool.not_eq_true'] at hc
  obtain⟨hb,hn⟩:=hc
  have h1:=hopd f (by rw[ho];simp[Op.operands,Call.operands])
  rw[hf] at h1
  have h2:ARel p (args.map (Opd.val e)) (args.map a.eval):=ARel.map_opd fun x hx=>hopd x (by rw[ho];simp[Op.operands,Call.operands];exact .inr hx)
  generalize hq:a.eval f=u at h1
  cases h1 with
  | @func _ _ f2 _ c2 e1 e2 i1 i2=>
   have h3:ARel p (first.toList++(args.map (Opd.val e)).toList++captured.toList).toArray (f2++args.map a.eval++c2):=by
    have:=ARel.append (ARel.append (⟨e1,i1⟩:ARel p first f2) h2) (⟨e2,i2⟩:ARel p captured c2)
    have e3:(first.toList++(args.map (Opd.val e)).toList++captured.toList).toArray=first++args.map (Opd.val e)++captured:=by apply Array.ext';simp
    rw[e3]
    exact this
   have hcall:=hr p w _ hrel h3
   have hbn:fn.body.isNone=false:=by cases hx:fn.body<;>simp_all
   have hrun:(execOp a.eval o).run P w = .ok (.enter fid (f2++args.map a.eval++c2)) w:=by
    unfold execOp
    rw[ho]
    simp only[resolve,Deferred.ofValue,hq,Sem.run_bind,Sem.run_pure,Result.andThen_ok,invoke,callFunc,program,Sem.run,hfn,hn,hbn,Bool.false_eq_true,if_false]
   unfold Oper.wp
   rw[hrun]
   refine Calls.mono hcall ?_
   rintro en w' ⟨v,q,rfl,hv,hrel',ex⟩
   exact hk q v w' (hrel'.weaken fun _ _ _ _=>trivial) hv ex
 ·cases hc
def resOne(P:Program)(e:Env)(h:Heap):ResultVar->Option Value
 | .tmp t=>some (e t)
 | .cell a t=>match e a with
  | .pointer (some ⟨id,off,none⟩)=>match h[id]? with
   | some k=>match k.st,tload P t with
    | .dead,_=>none
    | _,some none=>k.cells[off]?
    | _,some (some n)=>if off+n<=k.cells.length then some (.agg ((k.cells.drop off).take n).toArray) else none
    | _,none=>none
   | none=>none
  | _=>none
def resAll(P:Program)(e:Env)(h:Heap)(rs:List ResultVar):Option Value:=
 match rs.mapM (resOne P e h) with
 | some [v]=>some v
 | some vs=>some (.tuple vs.toArray)
 | none=>none
def env0(args:List Value):Env:=fun i=>args.getD i undef
theorem env0_rel{p:Phi}{args:List Value}{vs:Array Value}{n:Nat}(hr:ARel p args.toArray vs)(hn:args.length<=n):ERel p n (env0 args) {tmps:=vs++Array.replicate (n-vs.size) undef,defers:= []}:=by
 have hs:vs.size=args.length:=by rw[←hr.1];simp
 refine⟨by simp;omega,rfl,fun t => ?_⟩
 unfold env0
 rcases lt_or_ge t args.length with ht|ht
 ·have h1:t<vs.size:=by omega
  have:=hr.2 t (by simpa using ht) h1
  have e1:args.getD t undef=args.toArray[t]'(by simpa using ht):=by simp[List.getD,ht]
  have e2:(vs++Array.replicate (n-vs.size) undef).getD t undef=vs[t]:=by
   rw[Array.getD_eq_getD_getElem?,Array.getElem?_append_left h1,Array.getElem?_eq_getElem h1]
   rfl
  rw[e1,e2]
  exact this
 ·have e1:args.getD t undef=undef:=by simp[List.getD,List.getElem?_eq_none ht]
  have e2:(vs++Array.replicate (n-vs.size) undef).getD t undef=undef:=by
   rw[Array.getD_eq_getD_getElem?,Array.getElem?_append_right (by omega)]
   cases hx:(Array.replicate (n-vs.size) undef)[t-vs.size]? with
   | none=>rfl
   | some v=>
    rw[Array.getElem?_replicate] at hx
    split at hx
    ·cases hx;rfl
    ·cases hx
  rw[e1,e2]
  exact VRel.undef p
theorem tload_one{t:TypeId}(ht:tload P t=some none)(w:World):(isAgg t).run P w = .ok false w:=by
 unfold tload at ht
 cases hu:P.underlying t with
 | none=>rw[hu] at ht;cases ht
 | some d=>rw[hu] at ht;cases d<;>simp[isAgg,run_underlying hu] at ht ⊢ <;> cases hi:P.info? t<;>rw[hi] at ht<;>simp at ht
theorem tload_agg{t:TypeId}{n:Nat}(ht:tload P t=some (some n))(w:World):(isAgg t).run P w = .ok true w∧∃i,P.info? t=some i∧i.size=n:=by
 unfold tload at ht
 cases hu:P.underlying t with
 | none=>rw[hu] at ht;cases ht
 | some d=>
  rw[hu] at ht
  cases d<;>simp at ht
  all_goals
   obtain⟨i,hi,hs⟩:=ht
   exact⟨by simp[isAgg,run_underlying hu],i,hi,hs⟩
def resSem(tmps:Array Value):ResultVar->Sem Value
 | .tmp t=>pure (tmps.getD t undef)
 | .cell ad t=>do loadVar t (←asAddr (tmps.getD ad undef))
theorem resOne_rel{p:Phi}{w:World}{n:Nat}{a:Act}{rv:ResultVar}{v:Value}(r:HRel G p h w)(er:ERel p n e a)(hv:resOne P e h rv=some v) :
  ∃v',VRel p v v'∧(resSem a.tmps rv).run P w = .ok v' w:=by
 cases rv with
 | tmp t=>
  simp only[resOne,Option.some.injEq] at hv
  subst hv
  exact⟨_,er.val t,rfl⟩
 | cell ad t=>
  unfold resOne at hv
  simp only at hv
  split at hv
  ·rename_i id off he
   have h0:=er.val ad
   rw[he] at h0
   obtain⟨tg,h1,h2⟩:=h0.ptr_inv
   split at hv
   ·rename_i k hk
    split at hv
    ·cases hv
    ·rename_i ht hd
     have hlt:=(List.getElem?_eq_some_iff.1 hv).1
     obtain⟨cs,l1,l2,l3⟩:=r.cells (off:=off) (n:=1) trivial h1 hk (by intro c;exact hd c) (by omega)
     have l4:((k.cells.drop off).take 1)[0]? = some v:=by rw[getElem?_take,if_pos (by omega),getElem?_drop];simpa using hv
     obtain⟨v',l5,l6⟩:=l1.2 0 v l4
     have l7:=l3 0 v' l5
     rw[addr_add] at l7
     simp only[add_zero] at l7
     refine⟨v',l6, ?_⟩
     simp[resSem,h2,asAddr,loadVar,tload_one ht,load,Sem.run,l7]
    ·rename_i nn ht hd
     split at hv
     ·rename_i hn
      simp only[Option.some.injEq] at hv
      subst hv
      obtain⟨cs,l1,l2,l3⟩:=r.cells (n:=nn) trivial h1 hk (by intro c;exact hd c) hn
      refine⟨.agg cs.toArray, .agg l1.array.1 l1.array.2, ?_⟩
      obtain⟨hagg,i,hi,hs⟩:=tload_agg ht w
      have hload:=run_loadCells_list (P:=P) w ⟨tg.b,off+tg.d,none⟩ cs l3
      rw[l2] at hload
      simp[resSem,h2,asAddr,loadVar,hagg,sizeOf,typeInfo,hi,hs,hload]
     ·cases hv
    ·cases hv
   ·cases hv
  ·cases hv
theorem resMap_rel{p:Phi}{w:World}{n:Nat}{a:Act}(r:HRel G p h w)(er:ERel p n e a): ∀(rs:List ResultVar) (vs:List Value),rs.mapM (resOne P e h)=some vs →
  ∃vs',LRel p vs vs'∧(rs.mapM (resSem a.tmps)).run P w = .ok vs' w
 | [],vs,hv=>by simp at hv;subst hv;exact⟨[],LRel.nil p,rfl⟩
 | rv::rs,vs,hv=>by
  simp only[List.mapM_cons,Option.bind_eq_bind,Option.bind_eq_some_iff,Option.pure_def,Option.some.injEq] at hv
  obtain⟨v,hv1,vs1,hv2,rfl⟩:=hv
  obtain⟨v',h1,h2⟩:=resOne_rel r er hv1
  obtain⟨vs',h3,h4⟩:=resMap_rel r er rs vs1 hv2
  refine⟨v'::vs', ?_, ?_⟩
  ·have h0:LRel p [v] [v']:=⟨rfl,fun i u hu=>by
    cases i with
    | zero=>simp only[getElem?_cons_zero,Option.some.injEq] at hu;subst hu;exact⟨v',rfl,h1⟩
    | succ i=>simp at hu⟩
   have:=h0.append h3
   simpa using this
  ·rw[List.mapM_cons]
   simp only[Sem.run_bind,h2,Result.andThen_ok,h4,Sem.run_pure]
theorem resAll_rel{fn:Func}{p:Phi}{w:World}{n:Nat}{a:Act}{v:Value}(r:HRel G p h w)(er:ERel p n e a)(hv:resAll P e h fn.results.toList=some v) :
  ∃v',VRel p v v'∧(results fn a.tmps).run P w = .ok v' w:=by
 unfold resAll at hv
 cases hm:fn.results.toList.mapM (resOne P e h) with
 | none=>rw[hm] at hv;cases hv
 | some vs=>
  obtain⟨vs',h1,h2⟩:=resMap_rel r er _ _ hm
  have h3:(results fn a.tmps).run P w = .ok (if hx:vs'.toArray.size=1 then vs'.toArray[0] else .tuple vs'.toArray) w:=by
   unfold results
   have hfun:(fun x:ResultVar=>match x with | .tmp t=>pure (a.tmps.getD t undef) | .cell ad t=>do loadVar t (←asAddr (a.tmps.getD ad undef)):ResultVar->Sem Value)=resSem a.tmps:=by
    funext x;cases x<;>rfl
   rw[Array.mapM_eq_mapM_toList]
   simp only[Sem.run_bind,Sem.run_map]
   refine Eq.trans (congrArg (fun z=>Result.andThen (Result.andThen z _) _) h2) ?_
   rfl
  rw[h3]
  refine⟨_, ?_,rfl⟩
  rw[hm] at hv
  match vs,vs',h1,hv with
  | [u],[u'],h1,hv=>
   simp only[Option.some.injEq] at hv
   subst hv
   obtain⟨x,g1,g2⟩:=h1.2 0 u rfl
   simp only[getElem?_cons_zero,Option.some.injEq] at g1
   subst g1
   simpa using g2
  | [],[],h1,hv=>
   simp only[Option.some.injEq] at hv
   subst hv
   exact .tuple h1.array.1 h1.array.2
  | u::u2::us,u'::u2'::us',h1,hv=>
   simp only[Option.some.injEq] at hv
   subst hv
   rw[dif_neg (by simp)]
   exact .tuple h1.array.1 h1.array.2
  | [],_::_,h1,_=>exact absurd h1.1 (by simp)
  | _::_,[],h1,_=>exact absurd h1.1 (by simp)
  | [_],_::_::_,h1,_=>exact absurd h1.1 (by simp)
  | _::_::_,[_],h1,_=>exact absurd h1.1 (by simp)
def own(m:Nat)(M:Nat->Prop):Nat->Prop:=fun id=>m<=id∨M id
theorem HRuns.of_body{f:FuncId}{fn:Func}{c:Code}{args:List Value}{R:Value->Heap->Prop}(hf:P.funcs[f]? = some fn)(hb:fn.body=some c)(hn:args.length<=fn.ntmps)
  (hw:HWp G P fn.ntmps (own h.length M) c (fun x e' h'=>(x = .ret∨x = .normal)∧∃r,resAll P e' h' fn.results.toList=some r∧R r h') (env0 args) h) :
  ∃r h',HRuns G P f args h M r h'∧R r h':=by
 obtain⟨x,e',h',hx,hret,r,hres,hR⟩:=hw
 refine⟨r,h',fun p w vs hr ha => ?_,hR⟩
 refine calls_of_wp hf hb ?_
 refine wp_mono (hx p _ w hr (env0_rel ha hn)) ?_
 rintro x1 a' w' ⟨rfl,q,hr',er',ex⟩
 obtain⟨v',h1,h2⟩:=resAll_rel (fn:=fn) hr' er' hres
 have key:bodyPost P fn (fun en w'=> ∃v q,en = .returned v∧VRel q r v∧HRel G q h' w'∧Ext M p q h h' w w') .ret a' w':=
  ⟨er'.defers,v',h2,v',q,rfl,h1,hr',ex.weaken (fun id t e=>(hr.dom id t e).1) (fun id hid hm=>hm.elim (fun c=>absurd hid (by omega)) (fun m=>m))⟩
 rcases hret with rfl|rfl
 ·exact key
 ·exact key
theorem HStep.makeFunc{fn:Fn}{first captured:Array Operand}(ho:o.op = .makeFunc fn first captured):HStep G P o T M e h (.func fn (first.map (Opd.val e)) (captured.map (Opd.val e))) h:=
 .of_pure fun p a hr=>by
  have h1:=ARel.map_opd (e:=e) (a:=a) (p:=p) (args:=first) fun x hx=>hr x (by rw[ho];simp[Op.operands];exact .inl hx)
  have h2:=ARel.map_opd (e:=e) (a:=a) (p:=p) (args:=captured) fun x hx=>hr x (by rw[ho];simp[Op.operands];exact .inr hx)
  refine⟨.func fn (first.map a.eval) (captured.map a.eval), .func h1.1 h2.1 h1.2 h2.2,fun w => ?_⟩
  unfold execOp
  rw[ho]
  simp[Instr.makeFunc]
theorem HStep.makeSlice{t el:TypeId}{x:Operand}{n:Int}{k:IntKind}{sz:Nat}{z:List Value}{bt:Nat}(ho:o.op = .makeSlice t x x)(hx:Opd.val e x = .int k n)(ht:telem P t=some (sz,el))(hz:tzero P el=some z)(hzp: ∀v∈z,plainB v=true)
  (hzs:z.length=sz) (hs0:0<sz) (hbt:(P.info? el).map (·.bytes)=some bt) (h0:0<=n) (hmax:n<=9223372036854775807) (hby:bt*n<=281474976710656) :
  HStep G P o T M e h (.slice (some ⟨h.length,0,none⟩) n.toNat 0) (h++ [⟨(List.range (n.toNat*sz)).map fun i=>z.getD (i%z.length) undef,sz, .rw⟩]):=
 .of_run fun p a w r hr=>by
  have h1:=hr x (by rw[ho];simp[Op.operands])
  rw[hx] at h1
  have h1':=(Plain.int k n).eq h1
  unfold telem at ht
  split at ht
  ·rename_i el' hu
   rw[Option.map_eq_some_iff] at ht
   obtain⟨i,hi,hs⟩:=ht
   simp only[Prod.mk.injEq] at hs
   obtain⟨rfl,rfl⟩:=hs
   rw[hi] at hbt
   simp only[Option.map_some,Option.some.injEq] at hbt
   subst hbt
   unfold tzero at hz
   rw[hi] at hz
   simp only[Option.bind_some,Option.map_eq_some_iff] at hz
   obtain⟨zv,hz1,rfl⟩:=hz
   have hzr:=zeros_rel (p:=p) (zv:=zv) (n:=n.toNat*i.size) (k:=i.size) hzp (by simpa using hzs) (fun _ _=>hs0)
   obtain⟨g1,g2⟩:=r.push' (M:=M) i.size el' hzr
   refine⟨_, .slice (some ⟨w.heap.size,0,none⟩) n.toNat n.toNat,_, .inl ?_,g1, ?_,g2⟩
   ·have hw:IntKind.i64.wrap n=n:=IntWalk.i64_in _ (by omega)
    have c1: ¬(n<0):=by omega
    have c2: ¬(281474976710656<(i.bytes:Int)*n):=by omega
    unfold execOp
    rw[ho]
    have hask: ∀b w,(askRoom b).run P w = .ok () w:=by
     intro b w
     unfold askRoom
     split<;>simp[mark,Sem.run]
    by_cases hn0:n.toNat*i.size=0
    ·have hn1:n.toNat=0:=by rcases Nat.mul_eq_zero.1 hn0 with c|c;exact c;omega
     have hn2:n=0:=by omega
     subst hn2
     have e0:(Array.range 0).map (zv.cells[· % zv.cells.size]!)= #[]:=by simp
     simp[Instr.makeSlice,h1',asInt,asIntOf,run_underlying hu,typeInfo,hi,hw,hask,sizeOf,newRow,newObj,Sem.run,Array.range_zero']
    ·simp[Instr.makeSlice,h1',asInt,asIntOf,run_underlying hu,typeInfo,hi,hw,c1,c2,hask,sizeOf,hn0,zeroValue,hz1,newRow,newObj,Sem.run]
   ·refine VRel.slice (t:=⟨w.heap.size,0,i.size,_⟩) phiPush_same (le_refl _) ?_
    simp
  ·cases ht
end
end Go.HH
