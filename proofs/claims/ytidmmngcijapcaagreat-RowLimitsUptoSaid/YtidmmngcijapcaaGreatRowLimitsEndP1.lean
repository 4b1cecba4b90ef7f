/- Part 2 of the texts that prove RowLimitsEnd. -/
import Derived.Test.YtidmmngcijapcaaGreatRowLimitsEndP0
import Derived.ScopeJumps
import Derived.LoopN
namespace Go.Proofs.YtidmmngcijapcaaGreat.Lift
open Go.RowKit
set_option linter.unusedVariables false
set_option linter.unusedSimpArgs false
set_option linter.unnecessarySimpa false
set_option linter.unusedSectionVars false
set_option maxRecDepth 100000
section
def d7l(P:Program)(o:AOp)(env:Env)(h:A4)(av:AV):Prop:=aop P o env h fun av' h'=>av'=av/\h'=h
def vq(P:Program):List D5->Env->A4->(Env->Prop)->Prop
 |[],env,_,K=>K env
 |o::r,env,h,K=>c5s env o.guard (∃av,d7l P o.op env h av/\vq P r (b8h env o.dst av) h K) (vq P r (b82 env o.dst) h K)
def S5(t:Tmp)(l:List D5):Bool:=l.any fun o=>o.dst==some t
def D5.looks(o:D5):List Tmp:=(o.op.opds.filterMap fun|.t n=>some n|.c _=>none)++(match o.guard with|some (t,_)=>[t]|none=>[])
def okq:List D5->Bool
 |[]=>true
 |o::r=>(o.looks.all fun t=> !S5 t (o::r))&&(match o.dst with|some d=> !S5 d r|none=>true)&&okq r
def f9q(P:Program)(F:Env)(h:A4)(o:D5):Prop:=
 let does:=∃av,d7l P o.op F h av/\∀d,o.dst=some d->get F d=some av
 match o.guard with
 |none=>does
 |some (t,want)=>(∃b,get F t=some (.v (.bool b))/\(b=want->does)/\(b≠want->∀d,o.dst=some d->get F d=some (.tuple [])))\/(get F t=some (.tuple [])/\∀d,o.dst=some d->get F d=some (.tuple []))
theorem b1t(env:Env)(dst:Option Tmp)(av:AV)(t:Tmp):get (b8h env dst av) t=if dst=some t then some av else get env t:=by
 cases dst with
 |none=>simp[b8h]
 |some d=>simp[b8h,get]
theorem b3c(env:Env)(dst:Option Tmp)(t:Tmp):get (b82 env dst) t=if dst=some t then some (.tuple []) else get env t:=by
 cases dst with
 |none=>simp[b82]
 |some d=>simp[b82,get]
section
variable {P:Program}{σ:Sg}{h:A4}{env:Env}{N:Nat}{a:Act}
theorem e2k{K:Env->Prop}:∀(l:List D5) (env:Env),okq l=true->vq P l env h K->∃F,K F/\(∀t,S5 t l=false->get F t=get env t)/\∀o∈l,f9q P F h o
 |[],env,_,hv=>⟨env,hv,fun _ _=>rfl,fun o ho=>by cases ho⟩
 |o::r,env,hok,hv=>by
  simp only[okq,Bool.and_eq_true,List.all_eq_true]at hok;obtain⟨⟨hlook,hdst⟩,hokr⟩:=hok
  have hwr:∀t,S5 t (o::r)=false->o.dst≠some t/\S5 t r=false:=by
   intro t ht;simp only[S5,List.any_cons,Bool.or_eq_false_iff]at ht ⊢;exact⟨by simpa using ht.1,ht.2⟩
  have hd:∀d,o.dst=some d->S5 d r=false:=by
   intro d hd;rw[hd]at hdst;simpa using hdst
  have hl:∀(F:Env),(∀t,S5 t (o::r)=false->get F t=get env t)->∀t∈o.looks,get env t=get F t:=fun F hF t ht=>(hF t (by simpa using hlook t ht)).symm
  have hcong:∀(F:Env),(∀t,S5 t (o::r)=false->get F t=get env t)->∀av,d7l P o.op env h av->d7l P o.op F h av:=by
   intro F hF av hq;unfold d7l at hq ⊢;rw[<-c9k (e1:=env) (e2:=F)]
   ·exact hq
   ·intro x hx;cases x with
    |c a=>rfl
    |t n=>
     refine hl F hF n ?_;simp only[D5.looks,List.mem_append,List.mem_filterMap];exact .inl ⟨.t n,hx,rfl⟩
  have yes:(∃av,d7l P o.op env h av/\vq P r (b8h env o.dst av) h K)->∃F,K F/\(∀t,S5 t (o::r)=false->get F t=get env t)/\(∃av,d7l P o.op F h av/\∀d,o.dst=some d->get F d=some av)/\∀o'∈r,f9q P F h o':=by
   rintro⟨av,hq,hv⟩;obtain⟨F,k1,k2,k3⟩:=e2k r _ hokr hv
   have hF:∀t,S5 t (o::r)=false->get F t=get env t:=by
    intro t ht;obtain⟨h1,h2⟩:=hwr t ht;rw[k2 t h2,b1t,if_neg h1]
   refine⟨F,k1,hF,⟨av,hcong F hF av hq,fun d hd'=>?_⟩,k3⟩;rw[k2 d (hd d hd'),b1t,if_pos hd']
  have no:vq P r (b82 env o.dst) h K->∃F,K F/\(∀t,S5 t (o::r)=false->get F t=get env t)/\(∀d,o.dst=some d->get F d=some (.tuple []))/\∀o'∈r,f9q P F h o':=by
   intro hv;obtain⟨F,k1,k2,k3⟩:=e2k r _ hokr hv;refine⟨F,k1,fun t ht=>?_,fun d hd'=>?_,k3⟩
   ·obtain⟨h1,h2⟩:=hwr t ht;rw[k2 t h2,b3c,if_neg h1]
   ·rw[k2 d (hd d hd'),b3c,if_pos hd']
  simp only[vq,c5s]at hv;split at hv
  ·rename_i hg;obtain⟨F,k1,k2,k3,k4⟩:=yes hv;refine⟨F,k1,k2,fun o' ho'=>?_⟩;rcases List.mem_cons.1 ho' with rfl|ho'
   ·unfold f9q;rw[hg];exact k3
   ·exact k4 o' ho'
  ·rename_i t want hg;obtain⟨v,hget,hv⟩:=b64 hv;split at hv
   ·rename_i b
    have ht:∀F:Env,(∀t,S5 t (o::r)=false->get F t=get env t)->get F t=some (.v (.bool b)):=by
     intro F hF;rw[<-hl F hF t (by simp[D5.looks,hg])];exact hget
    by_cases hb:b=want
    ·obtain⟨F,k1,k2,k3,k4⟩:=yes (hv.1 hb);refine⟨F,k1,k2,fun o' ho'=>?_⟩;rcases List.mem_cons.1 ho' with rfl|ho'
     ·unfold f9q;rw[hg];exact .inl ⟨b,ht F k2,fun _=>k3,fun hn=>absurd hb hn⟩
     ·exact k4 o' ho'
    ·obtain⟨F,k1,k2,k3,k4⟩:=no (hv.2 (by cases b<;>cases want<;>simp_all));refine⟨F,k1,k2,fun o' ho'=>?_⟩;rcases List.mem_cons.1 ho' with rfl|ho'
     ·unfold f9q;rw[hg];exact .inl ⟨b,ht F k2,fun hy=>absurd hy hb,fun _=>k3⟩
     ·exact k4 o' ho'
   ·obtain⟨F,k1,k2,k3,k4⟩:=no hv;refine⟨F,k1,k2,fun o' ho'=>?_⟩;rcases List.mem_cons.1 ho' with rfl|ho'
    ·unfold f9q;rw[hg];exact .inr ⟨by rw[<-hl F k2 t (by simp[D5.looks,hg])];exact hget,k3⟩
    ·exact k4 o' ho'
   ·exact hv.elim
def c8j(ops:Array Oper)(i j:Nat):Bool:=match ops[i]? with
 |some o=>o.after.any fun e=>Region.binds .any e&&e.on==j
 |none=>false
def g7n(md:Region.Mode)(ops:Array Oper):Bool:=
 let L:=Region.linearise md ops 0
 (List.range ops.size).all (fun i=>L.contains i)&&(List.range L.length).all fun k=>match L[k]? with
  |some i=>match ops[i]? with
   |some o=>o.after.all fun e=> !Region.binds md e||(L.take k).contains e.on
   |none=>false
  |none=>false
def d9n(ops:Array Oper)(m:Nat)(al:List D5):Bool:=
 (g7n .any ops&&g7n .text ops&&g7n .gc ops)&&
 (List.range ops.size).all (fun i=>decide (i<m)||(List.range i).all fun j=>c8j ops i j)&&
 (List.range m).all (fun i=>match al[i]? with
  |some o=>o.looks.all fun t=>(List.range m).all fun k=> !((ops[k]?).bind (·.dst)==some t)||c8j ops i k
  |none=>false)
theorem b18{md:Region.Mode}{ops:Array Oper}{listed:Array Bool}{i:Nat}:i∈Region.ready md ops listed↔listed.getD i true=false/\∃o,ops[i]? =some o/\∀e∈o.after,Region.binds md e=true->listed.getD e.on false=true:=by
 unfold Region.ready;simp only[List.mem_filter,List.mem_range,Bool.and_eq_true,Bool.not_eq_true'];constructor
 ·rintro⟨_,h1,h2⟩;refine⟨h1,?_⟩;cases ho:ops[i]? with
  |none=>simp[ho]at h2
  |some o=>
   refine⟨o,rfl,fun e he hb=>?_⟩;simp only[ho,Option.map_some,Option.getD_some,Array.all_eq_true']at h2;have:=h2 e he;simpa[hb]using this
 ·rintro⟨h1,o,ho,h2⟩;refine⟨(Array.getElem?_eq_some_iff.1 ho).1,h1,?_⟩;simp only[ho,Option.map_some,Option.getD_some,Array.all_eq_true'];intro e he;cases hb:Region.binds md e with
  |false=>simp
  |true=>simp[h2 e he hb]
theorem a9m{listed:Array Bool}{i j:Nat}{d:Bool}(hi:i<listed.size):(listed.setIfInBounds i true).getD j d=if i=j then true else listed.getD j d:=by
 simp only[Array.getD_eq_getD_getElem?,Array.getElem?_setIfInBounds]
 by_cases hij:i=j
 ·subst hij;simp[hi]
 ·simp[hij]
theorem d5i{listed:Array Bool}{j:Nat}(hj:j<listed.size)(d e:Bool):listed.getD j d=listed.getD j e:=by
 simp[Array.getD_eq_getD_getElem?,hj]
theorem g1x{listed:Array Bool}{j:Nat}(h:listed.getD j true=false):j<listed.size:=by
 by_cases hj:j<listed.size
 ·exact hj
 ·simp[Array.getD_eq_getD_getElem?,Array.getElem?_eq_none (Nat.le_of_not_lt hj)]at h
theorem d8r{md:Region.Mode}{e:Edge}(h:Region.binds .any e=true):Region.binds md e=true:=by
 unfold Region.binds at h ⊢;split at h<;>simp_all
theorem d0u{md:Region.Mode}{ops:Array Oper}{listed:Array Bool}{i j:Nat}(ha:c8j ops i j=true)(hj:listed.getD j true=false):i ∉ Region.ready md ops listed:=by
 intro hr;obtain⟨_,o,ho,h2⟩:=b18.1 hr;unfold c8j at ha;rw[ho]at ha;simp only[Array.any_eq_true']at ha;obtain⟨e,he,hc⟩:=ha;simp only[Bool.and_eq_true,beq_iff_eq]at hc;have:=h2 e he (d8r hc.1);rw[hc.2,d5i (g1x hj) false true,hj]at this;cases this
structure f3x(ops:Array Oper)(m:Nat)(al:List D5):Prop where
 back:∀md,g7n md ops=true
 tail:∀i,i<ops.size->m<=i->∀j,j<i->c8j ops i j=true
 head:∀i o,i<m->al[i]? =some o->∀t∈o.looks,∀k,k<m->(ops[k]?).bind (·.dst)=some t->c8j ops i k=true
theorem f3v{ops:Array Oper}{m:Nat}{al:List D5}(h:d9n ops m al=true):f3x ops m al:=by
 simp only[d9n,Bool.and_eq_true,List.all_eq_true]at h;obtain⟨⟨h1,h2⟩,h3⟩:=h;refine⟨fun md=>by cases md<;>simp[h1],fun i hi hm j hj=>?_,fun i o hi ho t ht k hkm hk=>?_⟩
 ·have:=h2 i (List.mem_range.2 hi);simp only[Bool.or_eq_true,decide_eq_true_eq,List.all_eq_true]at this;rcases this with h|h
  ·omega
  ·exact h j (List.mem_range.2 hj)
 ·have:=h3 i (List.mem_range.2 hi);rw[ho]at this;simp only[List.all_eq_true]at this;have:=this t ht k (List.mem_range.2 hkm);simpa[hk]using this
theorem d1r{md:Region.Mode}{ops:Array Oper}{m:Nat}{al:List D5}(ho:f3x ops m al){listed:Array Bool}(hsz:listed.size=ops.size)(hne:∃i,i<ops.size/\listed.getD i true=false):∃i,i∈Region.ready md ops listed:=by
 have hg:=ho.back md;simp only[g7n,Bool.and_eq_true,List.all_eq_true]at hg;obtain⟨g1,g2⟩:=hg;generalize hL:Region.linearise md ops 0=L at g1 g2;obtain⟨i,hi,hf⟩:=hne;have hmem:i∈L:=by simpa using g1 i (List.mem_range.2 hi)
 obtain⟨k,hk⟩:=List.mem_iff_getElem?.1 hmem;obtain⟨k0,⟨i0,hk0,hf0⟩,hmin⟩:=exists_least (p:=fun k=>∃i,L[k]? =some i/\listed.getD i true=false) ⟨k,i,hk,hf⟩;have:=g2 k0 (List.mem_range.2 (List.getElem?_eq_some_iff.1 hk0).1);rw[hk0]at this;simp only at this;split at this
 ·rename_i o hoi;refine⟨i0,b18.2 ⟨hf0,o,hoi,fun e he hb=>?_⟩⟩;simp only[Array.all_eq_true']at this;have:=this e he;rw[hb]at this;simp only[Bool.not_true,Bool.false_or,List.contains_iff_mem]at this;obtain⟨q,hq⟩:=List.mem_iff_getElem?.1 this;rw[List.getElem?_take]at hq;split at hq
  ·rename_i hqk;cases hc:listed.getD e.on true with
   |true=>
    have hlt:e.on<listed.size:=by
     have hmem2:e.on∈L:=List.mem_of_getElem? hq;have:=g2 q (List.mem_range.2 (List.getElem?_eq_some_iff.1 hq).1);rw[hq]at this;simp only at this;split at this
     ·rename_i o2 ho2;rw[hsz];exact(Array.getElem?_eq_some_iff.1 ho2).1
     ·cases this
    rw[d5i hlt false true];exact hc
   |false=>have:=hmin q ⟨e.on,hq,hc⟩;omega
  ·cases hq
 ·cases this
theorem e2y{md:Region.Mode}{ops:Array Oper}{m:Nat}{al:List D5}(ho:f3x ops m al){Q:Exit->Act->World->Prop}:∀(f j:Nat) (listed:Array Bool) (a:Act) (w:World),m<=j->j<=ops.size->ops.size - j<=f->listed.size=ops.size->
  (∀i,i<ops.size->listed.getD i true=decide (i<j))->wpOps P ops Q (List.range' j (ops.size - j)) a w->wpAny P md ops Q f listed a w:=by
 intro f
 induction f with
 |zero=>
  intro j listed a w hm hj hf hsz hl hw;have:ops.size - j=0:=by omega
  rw[this]at hw;refine⟨?_,hw⟩;apply List.eq_nil_iff_forall_not_mem.2;intro i hi;obtain⟨h1,o,h2,_⟩:=b18.1 hi;have hlt:=(Array.getElem?_eq_some_iff.1 h2).1;rw[hl i hlt]at h1;simp at h1;omega
 |succ f ih=>
  intro j listed a w hm hj hf hsz hl hw
  have only:∀i∈Region.ready md ops listed,i=j:=by
   intro i hi;obtain⟨h1,o,h2,_⟩:=b18.1 hi;have hlt:=(Array.getElem?_eq_some_iff.1 h2).1;rw[hl i hlt]at h1;simp at h1
   by_cases hij:i=j
   ·exact hij
   ·refine absurd hi (d0u (ho.tail i hlt (by omega) j (by omega)) ?_);rw[hl j (by omega)];simp
  refine⟨fun hnil=>?_,fun i hi=>?_⟩
  ·by_cases hjn:j=ops.size
   ·subst hjn;rw[show ops.size - ops.size=0 by omega]at hw;exact hw
   ·exfalso;obtain⟨i,hi⟩:=d1r (md:=md) ho hsz ⟨j,by omega,by rw[hl j (by omega)];simp⟩;rw[hnil]at hi;cases hi
  ·have:=only i hi;subst this
   have hlt:i<ops.size:=by
    obtain⟨h1,o,h2,_⟩:=b18.1 hi;exact(Array.getElem?_eq_some_iff.1 h2).1
   rw[show ops.size - i=(ops.size - (i+1))+1 by omega,List.range'_succ,wpOps_cons]at hw;refine wpOp_mono (fun a' w' h'=>?_) hw;refine ih (i+1) _ a' w' (by omega) (by omega) (by omega) (by simp[hsz]) (fun k hk=>?_) h';rw[a9m (by omega),hl k hk]
   by_cases hik:i=k
   ·subst hik;simp
   ·rw[if_neg hik];simp;omega
def e3i(ops:Array Oper)(m:Nat)(listed:Array Bool)(t:Tmp):Prop:=∀k,k<m->(ops[k]?).bind (·.dst)=some t->listed.getD k true=true
open Classical in
noncomputable def d8y(p:Tmp->Prop):Env->Env
 |[]=>[]
 |(t,v)::e=>if p t then(t,v)::d8y p e else d8y p e
open Classical in
theorem b7f(p:Tmp->Prop)(e:Env)(t:Tmp):get (d8y p e) t=if p t then get e t else none:=by
 induction e with
 |nil=>simp[d8y,get]
 |cons q e ih=>
  obtain⟨k,v⟩:=q
  by_cases hk:p k
  ·simp only[d8y,if_pos hk,get]
   by_cases hkt:k=t
   ·subst hkt;simp[hk]
   ·simp only[hkt,if_false,ih]
  ·simp only[d8y,if_neg hk,get,ih]
   by_cases hkt:k=t
   ·subst hkt;simp[hk]
   ·simp only[hkt,if_false]
end
end
section
variable {P:Program}{σ:Sg}{h:A4}{env:Env}{N:Nat}{a:Act}
theorem c2h{ops:Array Oper}:∀{l:List Oper}{al:List D5},a9a P N ops l=some al->al.length=l.length/\∀(i:Nat) (o:Oper),l[i]? =some o->∃ao,al[i]? =some ao/\c3d P N ops o=some ao
 |[],al,h=>by simp[a9a]at h;subst h;exact⟨rfl,fun i o hi=>by simp at hi⟩
 |o::l,al,h=>by
  simp only[a9a,Option.bind_eq_some_iff,Option.map_eq_some_iff]at h;obtain⟨ao,h1,r,h2,rfl⟩:=h;obtain⟨g1,g2⟩:=c2h h2;refine⟨by simp[g1],fun i o' hi=>?_⟩;cases i with
  |zero=>simp at hi;subst hi;exact⟨ao,rfl,h1⟩
  |succ i=>exact g2 i o' (by simpa using hi)
theorem c39{ops:Array Oper}{o:Oper}{ao:D5}(h:c3d P N ops o=some ao):c69 P o=some ao.op/\(∀d,o.dst=some d->d<N)/\ao.dst=o.dst/\
  ((o.guard=none/\ao.guard=none)\/∃j b t,o.guard=some (j,b)/\ao.guard=some (t,b)/\(ops[j]?).bind (·.dst)=some t):=by
 simp only[c3d,Option.bind_eq_some_iff]at h;obtain⟨op,hop,h⟩:=h;split at h
 ·rename_i hd;split at h
  ·rename_i hg;cases h;exact⟨hop,d43 hd,rfl,.inl ⟨hg,rfl⟩⟩
  ·rename_i j b hg;simp only[Option.map_eq_some_iff]at h;obtain⟨t,ht,rfl⟩:=h;exact⟨hop,d43 hd,rfl,.inr ⟨j,b,t,hg,rfl,ht⟩⟩
 ·cases h
structure h7k(ops:Array Oper)(m:Nat)(F:Env)(h:A4)(N:Nat)(listed:Array Bool)(σ:Sg)(a:Act):Prop where
 inv:Inv h σ
 env:a34 σ (d8y (e3i ops m listed) F) a.tmps
 size:a.tmps.size=N
 defers:a.defers=[]
def f0t(ops:Array Oper)(al:List D5):Bool:=
 d9n ops al.length al&&okq al&&decide (al.length<=ops.size)&&
 (List.range al.length).all fun i=>(List.range i).all fun j=> !(((ops[i]?).bind (·.dst)).isSome&&(ops[i]?).bind (·.dst)==(ops[j]?).bind (·.dst))
end
def c8b(ops:Array Oper)(m:Nat):List (List Nat):=(List.range m).map fun i=>(List.range m).filter fun j=>c8j ops i j
theorem d09{ops:Array Oper}{m i k:Nat}(h:k∈(c8b ops m).getD i []):k<m/\c8j ops i k=true:=by
 unfold c8b at h;rw[List.getD_eq_getElem?_getD,List.getElem?_map]at h;cases hr:(List.range m)[i]? with
 |none=>rw[hr]at h;simp at h
 |some j=>
  have hi:i<m:=by
   have:=(List.getElem?_eq_some_iff.1 hr).1;simpa using this
  rw[List.getElem?_range hi]at hr;cases hr;rw[List.getElem?_range hi]at h;simp only[Option.map_some,Option.getD_some,List.mem_filter,List.mem_range]at h;exact h
def hA(h:A4)(az:List (Nat × List AV))(lst:Nat->Bool):A4:=⟨h.blks++az.map (fun p=>if lst p.1=true then some p.2 else none),h.bufs,h.globs⟩
def g8u(h:A4)(az:List (Nat × List AV))(hs:List A4)(lst:Nat->Bool):Nat->Option A4
 |0=>some (hA h az lst)
 |j+1=>hs[j+1]?
def e5s:List (List Nat)->List (List Nat)->List (List Nat)
 |acc,[]=>acc
 |acc,r::rs=>e5s (acc++[r++r.flatMap fun j=>acc.getD j []]) rs
def clo(ord:List (List Nat)):List (List Nat):=e5s [] ord
theorem c8z:∀(rs acc:List (List Nat)) (i:Nat),i<acc.length->(e5s acc rs).getD i []=acc.getD i []
 |[],_,_,_=>rfl
 |r::rs,acc,i,h=>by
  simp only[e5s];rw[c8z rs _ i (by simp;omega)];simp only[List.getD_eq_getElem?_getD,List.getElem?_append_left h]
theorem e1p:∀(rs acc:List (List Nat)),(e5s acc rs).length=acc.length+rs.length
 |[],_=>rfl
 |r::rs,acc=>by simp only[e5s];rw[e1p rs];simp;omega
theorem e3f:∀(rs acc:List (List Nat)) (i:Nat),i<rs.length->∀k∈(e5s acc rs).getD (acc.length+i) [],k∈rs.getD i []\/∃j,j∈rs.getD i []/\j<acc.length+i/\k∈(e5s acc rs).getD j []
 |[],_,i,h=>by simp at h
 |r::rs,acc,0,h=>by
  intro k hk;simp only[e5s]at hk ⊢;have h0:=c8z rs (acc++[r++r.flatMap fun j=>acc.getD j []]) (acc.length+0) (by simp);rw[h0]at hk;simp only[Nat.add_zero,List.getD_eq_getElem?_getD,List.getElem?_append_right (Nat.le_refl _),Nat.sub_self,List.getElem?_cons_zero,Option.getD_some,List.mem_append,List.mem_flatMap]at hk;rcases hk with hk|⟨j,hj,hk⟩
  ·exact .inl (by simpa using hk)
  ·have hlt:j<acc.length:=by
    by_cases hlt:j<acc.length
    ·exact hlt
    ·rw[List.getElem?_eq_none (by omega)]at hk;simp at hk
   refine .inr ⟨j,by simpa using hj,by omega,?_⟩;rw[c8z rs _ j (by simp;omega)];simpa[List.getD_eq_getElem?_getD,List.getElem?_append_left hlt]using hk
 |r::rs,acc,i+1,h=>by
  intro k hk;simp only[e5s]at hk ⊢;have:=e3f rs (acc++[r++r.flatMap fun j=>acc.getD j []]) i (by simpa using h) k (by simpa[Nat.add_assoc,Nat.add_comm 1 i]using hk);rcases this with h1|⟨j,h1,h2,h3⟩
  ·exact .inl (by simpa using h1)
  ·exact .inr ⟨j,by simpa using h1,by simp at h2;omega,h3⟩
theorem e8j{ord:List (List Nat)}{i k:Nat}(h:k∈(clo ord).getD i []):k∈ord.getD i []\/∃j,j∈ord.getD i []/\j<i/\k∈(clo ord).getD j []:=by
 by_cases hi:i<ord.length
 ·have:=e3f ord [] i hi k (by simpa[clo]using h);simpa[clo]using this
 ·have hl:=e1p ord [];rw[List.getD_eq_getElem?_getD,List.getElem?_eq_none (by unfold clo;simp at hl;omega)]at h;simp at h
theorem e1y:∀{ord:List (List Nat)}{i k:Nat},k∈ord.getD i []->k∈(clo ord).getD i []:=by
 have key:∀(rs acc:List (List Nat)) (i:Nat),i<rs.length->∀k∈rs.getD i [],k∈(e5s acc rs).getD (acc.length+i) []:=by
  intro rs
  induction rs with
  |nil=>intro acc i h;simp at h
  |cons r rs ih=>
   intro acc i h k hk;simp only[e5s];cases i with
   |zero=>
    rw[c8z rs _ _ (by simp)];simp only[Nat.add_zero,List.getD_eq_getElem?_getD,List.getElem?_append_right (Nat.le_refl _),Nat.sub_self,List.getElem?_cons_zero,Option.getD_some,List.mem_append];exact .inl (by simpa using hk)
   |succ i=>
    have:=ih (acc++[r++r.flatMap fun j=>acc.getD j []]) i (by simpa using h) k (by simpa using hk);simpa[Nat.add_assoc,Nat.add_comm 1 i]using this
 intro ord i k h
 by_cases hi:i<ord.length
 ·simpa[clo]using key ord [] i hi k h
 ·rw[List.getD_eq_getElem?_getD,List.getElem?_eq_none (by omega)]at h;simp at h
theorem c47{ops:Array Oper}{m:Nat}{L:Nat->Prop}(hc:∀k i,k<m->L k->i∈(c8b ops m).getD k []->L i):∀n k,k<n->k<m->L k->∀i∈(clo (c8b ops m)).getD k [],L i:=by
 intro n
 induction n with
 |zero=>intro k h;omega
 |succ n ih=>
  intro k hk hm hl i hi;rcases e8j hi with h1|⟨j,h1,h2,h3⟩
  ·exact hc k i hm hl h1
  ·exact ih j (by omega) (d09 h1).1 (hc k j hm hl h1) i h3
def d7s(P:Program)(F:Env)(h0:A4)(az:List (Nat × List AV))(hs:List A4)(ord:List (List Nat))(fl:List (Option Nat))(i:Nat)(o:D5):Option Nat->Prop
 |some n=>∃av h h',hs[n]? =some h/\hs[n+1]? =some h'/\aop P o.op F h (fun a b=>a=av/\b=h')/\∀d,o.dst=some d->get F d=some av
 |none=>∃av j0 j1,j0<hs.length/\(∀j lst h,j0<=j->j<=j1->g8u h0 az hs lst j=some h->d7l P o.op F h av)/\(∀k n:Nat,fl[k]? =some (some n)->n<j0->k∈ord.getD i [])/\(hs.length<=j1+1\/∃k:Nat,fl[k]? =some (some j1)/\i∈ord.getD k [])/\
  ∀d,o.dst=some d->get F d=some av
def e4d(P:Program)(F:Env)(h0:A4)(az:List (Nat × List AV))(hs:List A4)(ord:List (List Nat))(fl:List (Option Nat))(i:Nat)(o:D5)(n:Option Nat):Prop:=
 let skip:=n=none/\∀d,o.dst=some d->get F d=some (.tuple [])
 match o.guard with
 |none=>d7s P F h0 az hs ord fl i o n
 |some (t,want)=>(∃b,get F t=some (.v (.bool b))/\(b=want->d7s P F h0 az hs ord fl i o n)/\(b≠want->skip))\/(get F t=some (.tuple [])/\skip)
structure d6p(P:Program)(ord:List (List Nat))(al:List D5)(env F:Env)(h h':A4)(az:List (Nat × List AV))(hs:List A4)(fl:List (Option Nat)):Prop where
 len:fl.length=al.length
 chain:∀i k a b:Nat,i<k->fl[i]? =some (some a)->fl[k]? =some (some b)->a<b/\i∈ord.getD k []
 onto:∀j:Nat,j+1<hs.length->∃i:Nat,fl[i]? =some (some j)
 first:hs[0]? =some (hA h az fun _=>true)
 last:∃n,hs.length=n+1/\hs[n]? =some h'
 bound:∀i n:Nat,fl[i]? =some (some n)->n+1<hs.length
 keep:∀t,S5 t al=false->get F t=get env t
 new:∀(q:Nat) (p:Nat × List AV),az[q]? =some p->∃o,al[p.1]? =some o/\o.op=.alloc p.2/\o.guard=none/\fl[p.1]? =some none/\∀d,o.dst=some d->get F d=some (.ptr (h.blks.length+q) 0)
 inj:∀(q r:Nat) (p s:Nat × List AV),az[q]? =some p->az[r]? =some s->p.1=s.1->q=r
 afirst:∀(k n:Nat),fl[k]? =some (some n)->∀p∈az,p.1∈ord.getD k []
 fact:∀(i:Nat) (o:D5) (n:Option Nat),al[i]? =some o->fl[i]? =some n->(∃(q:Nat) (p:Nat × List AV),az[q]? =some p/\p.1=i)\/e4d P F h az hs ord fl i o n
theorem d7s.clo{P:Program}{F:Env}{h0:A4}{az:List (Nat × List AV)}{hs:List A4}{ord:List (List Nat)}{fl:List (Option Nat)}{i:Nat}{o:D5}{n:Option Nat}(hd:d7s P F h0 az hs ord fl i o n):d7s P F h0 az hs (clo ord) fl i o n:=by
 cases n with
 |some n=>exact hd
 |none=>
  obtain⟨av,j0,j1,h1,h2,h3,h4,h5⟩:=hd;refine⟨av,j0,j1,h1,h2,fun k n hk hn=>e1y (h3 k n hk hn),?_,h5⟩;rcases h4 with h4|⟨k,h4,h6⟩
  ·exact .inl h4
  ·exact .inr ⟨k,h4,e1y h6⟩
theorem d6p.clo{P:Program}{ord:List (List Nat)}{al:List D5}{env F:Env}{h h':A4}{az:List (Nat × List AV)}{hs:List A4}{fl:List (Option Nat)}(hn:d6p P ord al env F h h' az hs fl):d6p P (clo ord) al env F h h' az hs fl where
 len:=hn.len
 chain i k a b hik h1 h2:=⟨(hn.chain i k a b hik h1 h2).1,e1y (hn.chain i k a b hik h1 h2).2⟩
 onto:=hn.onto
 first:=hn.first
 last:=hn.last
 bound:=hn.bound
 keep:=hn.keep
 new:=hn.new
 inj:=hn.inj
 afirst k n hk p hp:=e1y (hn.afirst k n hk p hp)
 fact i o n hi hn':=by
  rcases hn.fact i o n hi hn' with h1|h1
  ·exact .inl h1
  ·refine .inr ?_;unfold e4d at h1 ⊢;split at h1
   ·exact h1.clo
   ·rcases h1 with⟨b,q1,q2,q3⟩|h1
    ·exact .inl ⟨b,q1,fun hb=>(q2 hb).clo,q3⟩
    ·exact .inr h1
section
variable {P:Program}{σ:Sg}{h:A4}{env:Env}{N:Nat}{a:Act}
theorem e4h(hi:Inv h σ)(n:Nat):Inv ⟨h.blks++List.replicate n none,h.bufs,h.globs⟩ σ:=by
 have hget:∀(k:Nat) (c:List AV),(h.blks++List.replicate n none)[k]? =some (some c)->h.blks[k]? =some (some c):=by
  intro k c hk
  by_cases hl:k<h.blks.length
  ·rwa [List.getElem?_append_left hl]at hk
  ·rw[List.getElem?_append_right (by omega),List.getElem?_replicate]at hk;split at hk<;>cases hk
 exact {
  blk:=fun k c hk=>hi.blk k c (hget k c hk)
  dom:=fun k c hk=>by
   obtain⟨x,hx⟩:=hi.dom k c hk;exact⟨x,by rw[List.getElem?_append_left (hi.name hk)];exact hx⟩
  inj:=fun k m c x y hx hy=>hi.inj k m c x y (hget k x hx) (hget m y hy)
  buf:=hi.buf
  bufdom:=hi.bufdom
  bufle:=hi.bufle
  bufat:=hi.bufat
  bufinj:=hi.bufinj
  bufblk:=hi.bufblk
  outer:=hi.outer
  glob:=hi.glob}
theorem f5r(hi:Inv h σ){n:Nat}(hn:h.blks[n]? =some none){cells:List AV}(obj:Obj)(hnew:∀σ',Le σ σ'->σ'.w.heap[σ.w.heap.size]? =some obj->b0x σ' σ.w.heap.size cells):
  ∃σ',σ'.w=σ.w.alloc obj/\Le σ σ'/\Inv ⟨h.blks.set n (some cells),h.bufs,h.globs⟩ σ'/\Rel σ' (.ptr n 0) (.pointer (some ⟨σ.w.heap.size,0,none⟩)):=by
 have hl:n<h.blks.length:=(List.getElem?_eq_some_iff.1 hn).1
 have hf:σ.blk n=none:=by
  cases hb:σ.blk n with
  |none=>rfl
  |some b=>obtain⟨c,hc⟩:=hi.dom n b hb;rw[hn]at hc;cases hc
 let σ':Sg:={σ with w:=σ.w.alloc obj,blk:=fun m=>if m=n then some σ.w.heap.size else σ.blk m}
 have hp:=c0u.alloc σ.w obj
 have hslt:∀id e b o,σ.buf id=some e->e.spare b o->b<σ.w.heap.size:=by
  intro id e b o he hs;obtain⟨v,hv⟩:=Option.isSome_iff_exists.1 (hi.bufat id e b o he hs).1;exact a4d hv
 have hne:∀m b,σ.blk m=some b->m≠n:=by rintro m b hm rfl;rw[hf]at hm;cases hm
 have hold:∀m b,σ.blk m=some b->σ'.blk m=some b:=by
  intro m b hm;show(if m=n then some σ.w.heap.size else σ.blk m)=some b;rw[if_neg (hne m b hm)];exact hm
 have hinv:∀m b,σ'.blk m=some b->(m=n/\b=σ.w.heap.size)\/(m≠n/\σ.blk m=some b):=by
  intro m b hm;simp only[σ']at hm;split at hm
  ·cases hm;exact .inl ⟨‹_›,rfl⟩
  ·exact .inr ⟨‹_›,hm⟩
 have hle:Le σ σ':={
  blk:=hold
  buf:=fun _ e h=>⟨e,h,Nat.le_refl _,rfl,fun _=>rfl⟩
  outer:=rfl
  cell:=fun b o hb _=>U8 (hp.old b hb) o
  ext:=(Le.world (σ:=σ) hp).ext
  whole:=fun b hb _=>hp.old b hb
  own:=fun b o hb ho=>by
   rcases ho with⟨m,hm⟩|hx
   ·rcases hinv m b hm with⟨_,rfl⟩|⟨_,hm⟩
    ·omega
    ·exact .inl ⟨m,hm⟩
   ·exact .inr hx
  size:=hp.size
  os:=hp.os
  tape:=hp.tape
  output:=hp.output}
 have hget:∀(m:Nat) (c:List AV),(h.blks.set n (some cells))[m]? =some (some c)->(m=n/\c=cells)\/(m≠n/\h.blks[m]? =some (some c)):=by
  intro m c hm
  by_cases hmn:m=n
  ·subst hmn;rw[List.getElem?_set_self hl]at hm;cases hm;exact .inl ⟨rfl,rfl⟩
  ·rw[List.getElem?_set_ne (Ne.symm hmn)]at hm;exact .inr ⟨hmn,hm⟩
 refine⟨σ',rfl,hle,?_,.ptr _ _ _ (if_pos rfl)⟩
 exact {
  blk:=fun m c hm=>by
   rcases hget m c hm with⟨rfl,rfl⟩|⟨hmn,hm⟩
   ·exact⟨σ.w.heap.size,if_pos rfl,hnew σ' hle (heap_alloc_new _ _)⟩
   ·obtain⟨b,h1,h2⟩:=hi.blk m c hm;exact⟨b,hold m b h1,h2.keep hle (hp.old b h2.lt)⟩
  dom:=fun m b hm=>by
   rcases hinv m b hm with⟨rfl,rfl⟩|⟨hmn,hm⟩
   ·exact⟨cells,List.getElem?_set_self hl⟩
   ·obtain⟨c,hc⟩:=hi.dom m b hm;exact⟨c,by rw[List.getElem?_set_ne (Ne.symm hmn)];exact hc⟩
  inj:=fun m k b x y hx hy hx0 hy0 hm hk=>by
   rcases hinv m b hm with⟨m0,m2⟩|⟨m1,hm2⟩<;>rcases hinv k b hk with⟨k0,k2⟩|⟨k1,hk2⟩
   ·omega
   ·have:=hi.lt hk2;omega
   ·have:=hi.lt hm2;omega
   ·rcases hget m x hx with⟨h,_⟩|⟨_,hx⟩
    ·exact absurd h m1
    ·rcases hget k y hy with⟨h,_⟩|⟨_,hy⟩
     ·exact absurd h k1
     ·exact hi.inj m k b x y hx hy hx0 hy0 hm2 hk2
  buf:=hi.buf
  bufdom:=hi.bufdom
  bufle:=hi.bufle
  bufat:=(hi.world hp).bufat
  bufinj:=hi.bufinj
  bufblk:=fun id e m b o he hs hm=>by
   rcases hinv m b hm with⟨_,rfl⟩|⟨_,hm⟩
   ·have:=hslt id e _ o he hs;omega
   ·exact hi.bufblk id e m b o he hs hm
  outer:=fun b o ho=>by
   obtain⟨h1,h2⟩:=hi.outer b o ho;exact⟨Nat.lt_of_lt_of_le h1 hp.size,fun hx=>h2 (hle.own b o h1 hx)⟩
  glob:=fun g cells hg=>(hi.glob g cells hg).mono hle}
theorem d7u{o:Oper}{cells:List AV}(hc:c69 P o=some (.alloc cells)):∃e,o.op=.alloc e:=by
 unfold c69 at hc;split at hc
 case h_4 e he=>exact⟨e,he⟩
 all_goals
  exfalso
  (try simp only[d5m]at hc)
  (repeat' (first|(cases hc;done)|(simp only[Option.bind_eq_some_iff,Option.map_eq_some_iff]at hc;done)|(obtain⟨_,_,hc⟩:=hc)|(split at hc)|(simp only[Option.bind_eq_some_iff,Option.map_eq_some_iff]at hc)))
theorem f5d{o:Oper}{cells:List AV}(hc:c69 P o=some (.alloc cells))(hs:St σ h env N a)(hd:∀d,o.dst=some d->d<N){n:Nat}(hn:h.blks[n]? =some none)(Q:Exit->Act->World->Prop):
  o.wp P a σ.w (fun a' w'=>∃σ',σ'.w=w'/\Le σ σ'/\St σ' ⟨h.blks.set n (some cells),h.bufs,h.globs⟩ (b8h env o.dst (.ptr n 0)) N a') Q:=by
 obtain⟨e,he⟩:=d7u hc;obtain⟨dst,op,type,pos,after,guard⟩:=o;simp only at he;subst he;simp only[c69,Option.bind_eq_some_iff,Option.map_eq_some_iff,AOp.alloc.injEq]at hc;obtain⟨z,hz,zs,hzs,rfl⟩:=hc;obtain⟨σ',g1,g2,g3,g4⟩:=f5r hs.inv hn (cells:=zs) (.cells z.cells e) fun σ' hle hb=>.cells _ z.cells.toList [] e (by simpa using hb) ((a6k (σ:=σ) hzs).mono hle)
 unfold Oper.wp
 have hrun:(execOp a.eval ⟨dst,.alloc e,type,pos,after,guard⟩).run P σ.w=.ok (.value (.pointer (some ⟨σ.w.heap.size,0,none⟩))) σ'.w:=by
  rw[g1];simp[execOp,Instr.alloc,b6d hz,newVar,newRow]
 rw[hrun];exact⟨σ',rfl,g2,hs.put g2 g3 hd g4⟩
structure g06(ops:Array Oper)(m:Nat)(F:Env)(h0:A4)(az:List (Nat × List AV))(hs:List A4)(fl:List (Option Nat))(j:Nat)(N:Nat)(listed:Array Bool)(σ:Sg)(a:Act):Prop where
 inv:∃h,g8u h0 az hs (fun k=>listed.getD k true) j=some h/\Inv h σ
 env:a34 σ (d8y (e3i ops m listed) F) a.tmps
 size:a.tmps.size=N
 defers:a.defers=[]
 nums:∀i n:Nat,fl[i]? =some (some n)->(listed.getD i true=true↔n<j)
 closed:∀k i:Nat,k<m->listed.getD k true=true->i∈(c8b ops m).getD k []->listed.getD i true=true
set_option maxHeartbeats 1000000 in
theorem f16{md:Region.Mode}{ops:Array Oper}{al:List D5}{env F:Env}{h h':A4}{az:List (Nat × List AV)}{hs:List A4}{fl:List (Option Nat)}(hq:a9a P N ops (ops.toList.take al.length)=some al)(hm:al.length<=ops.size)(ho:f3x ops al.length al)
  (hF:d6p P (clo (c8b ops al.length)) al env F h h' az hs fl)
  {Q:Exit->Act->World->Prop}{σ₀:Sg}(hend:∀σ a,Le σ₀ σ->St σ h' F N a->wpOps P ops Q (List.range' al.length (ops.size - al.length)) a σ.w):
  ∀(f:Nat) (listed:Array Bool) (a:Act) (σ:Sg) (j:Nat),listed.size=ops.size->(∀i,al.length<=i->i<ops.size->listed.getD i true=false)->Le σ₀ σ->g06 ops al.length F h az hs fl j N listed σ a->listed.toList.count false<=f->wpAny P md ops Q f listed a σ.w:=by
 obtain⟨hlen,hget⟩:=c2h hq;obtain⟨nl,hnl,hnl2⟩:=hF.last
 have hfin:∀(listed:Array Bool) (a:Act) (σ:Sg) (j:Nat),g06 ops al.length F h az hs fl j N listed σ a->(∀i,i<al.length->listed.getD i true=true)->St σ h' F N a:=by
  intro listed a σ j hh hall;obtain⟨hj,h1,h2⟩:=hh.inv
  have hjl:j<hs.length:=by
   cases j with
   |zero=>omega
   |succ j=>exact(List.getElem?_eq_some_iff.1 h1).1
  have hjn:j=nl:=by
   by_cases hlt:j+1<hs.length
   ·obtain⟨i,hi⟩:=hF.onto j hlt;have hil:i<al.length:=by rw[<-hF.len];exact(List.getElem?_eq_some_iff.1 hi).1
    have:=(hh.nums i j hi).1 (hall i hil);omega
   ·omega
  subst hjn
  have h1':hs[j]? =some hj:=by
   cases j with
   |succ j=>exact h1
   |zero=>
    rw[hF.first,<-h1];show some _=some _
    congr 1
    unfold hA
    congr 2
    apply List.map_congr_left;intro p hp;obtain⟨q,hq⟩:=List.mem_iff_getElem?.1 hp;obtain⟨o,ho1,_⟩:=hF.new q p hq;have hil:p.1<al.length:=(List.getElem?_eq_some_iff.1 ho1).1;simp only[hall p.1 hil]
  rw[hnl2]at h1';cases h1';exact⟨h2,fun t av hg=>hh.env t av (by rw[b7f,if_pos (show e3i ops al.length listed t from fun k hk _=>hall k hk)];exact hg),hh.size,hh.defers⟩
 intro f
 induction f with
 |zero=>
  intro listed a σ j hsz htail hle hh hc
  have hall:∀i,i<ops.size->listed.getD i true=true:=by
   intro i hi;cases hb:listed.getD i true with
   |true=>rfl
   |false=>
    exfalso
    have hmem:false∈listed.toList:=by
     rw[List.mem_iff_getElem?];refine⟨i,?_⟩;have:listed[i]? =some listed[i]:=Array.getElem?_eq_getElem (by omega);simp only[Array.getD_eq_getD_getElem?,this,Option.getD_some]at hb;simp only[Array.getElem?_toList,this,hb]
    have:=List.count_pos_iff.2 hmem;omega
  have hmn:al.length=ops.size:=by
   by_cases he:al.length=ops.size
   ·exact he
   ·have:=htail al.length (Nat.le_refl _) (by omega);rw[hall _ (by omega)]at this;cases this
  have:=hend σ a hle (hfin listed a σ j hh fun i hi=>hall i (by omega));refine e2y ho 0 al.length listed a σ.w (Nat.le_refl _) hm (by omega) hsz (fun i hi=>by rw[hall i hi];simp;omega) this
 |succ f ih=>
  intro listed a σ j hsz htail hle hh hc
  by_cases hall:∀i,i<al.length->listed.getD i true=true
  ·refine e2y ho (f+1) al.length listed a σ.w (Nat.le_refl _) hm ?_ hsz (fun i hi=>?_) (hend σ a hle (hfin listed a σ j hh hall))
   ·have hcnt:ops.size - al.length<=listed.toList.count false:=by
     have hsplit:listed.toList=listed.toList.take al.length++listed.toList.drop al.length:=(List.take_append_drop _ _).symm;rw[hsplit,List.count_append]
     have hd:listed.toList.drop al.length=List.replicate (ops.size - al.length) false:=by
      apply List.eq_replicate_iff.2;refine⟨by simp[hsz],fun b hb=>?_⟩;obtain⟨i,hi⟩:=List.mem_iff_getElem?.1 hb;rw[List.getElem?_drop]at hi;have hlt:=(List.getElem?_eq_some_iff.1 hi).1;have:=htail (al.length+i) (by omega) (by simpa[hsz]using hlt);simp only[Array.getElem?_toList]at hi;simp only[Array.getD_eq_getD_getElem?,hi,Option.getD_some]at this;exact this
     rw[hd,List.count_replicate];simp
    omega
   ·by_cases him:i<al.length
    ·rw[hall i him];simp[him]
    ·rw[htail i (by omega) hi];simp[him]
  ·obtain⟨i0,hi0,hn0⟩:∃i,i<al.length/\listed.getD i true=false:=by
    false_or_by_contra
    rename_i hcon
    exact hall fun i hi=>by
     cases hb:listed.getD i true with
     |true=>rfl
     |false=>exact absurd ⟨i,hi,hb⟩ hcon
   refine⟨fun hnil=>?_,fun i hi=>?_⟩
   ·obtain⟨i,hi⟩:=d1r (md:=md) ho hsz ⟨i0,by omega,hn0⟩;rw[hnil]at hi;cases hi
   ·obtain⟨hun,o,hoi,hdeps⟩:=b18.1 hi;have hin:=(Array.getElem?_eq_some_iff.1 hoi).1
    have him:i<al.length:=by
     by_cases h':i<al.length
     ·exact h'
     ·exact absurd hi (d0u (ho.tail i hin (by omega) i0 (by omega)) hn0)
    obtain⟨ao,hao,hco⟩:=hget i o (by rw[List.getElem?_take,if_pos him];simpa using hoi);obtain⟨hop,hd,hdst,hguard⟩:=c39 hco;obtain⟨fn,hfn⟩:∃fn,fl[i]? =some fn:=⟨_,List.getElem?_eq_getElem (by rw[hF.len];exact him)⟩
    have hfact:=hF.fact i ao fn hao hfn;obtain⟨hj,hjs,hinv⟩:=hh.inv
    have hjl:j<hs.length:=by
     cases j with
     |zero=>omega
     |succ j=>exact(List.getElem?_eq_some_iff.1 hjs).1
    -- behind the first that changes the heap all new boxes are there
    have hnew:0<j->∀p∈az,listed.getD p.1 true=true:=by
     intro hj0 p hp;obtain⟨k,hk⟩:=hF.onto 0 (by omega);have hkm:k<al.length:=by rw[<-hF.len];exact(List.getElem?_eq_some_iff.1 hk).1
     exact c47 (L:=fun k=>listed.getD k true=true) hh.closed (k+1) k (by omega) hkm ((hh.nums k 0 hk).2 hj0) _ (hF.afirst k 0 hk p hp)
    have hcur:∀i,(∀p∈az,p.1≠i)->g8u h az hs (fun k=>(listed.setIfInBounds i true).getD k true) j=g8u h az hs (fun k=>listed.getD k true) j:=by
     intro i hi;cases j with
     |succ j=>rfl
     |zero=>
      show some _=some _
      congr 1
      unfold hA
      congr 2
      apply List.map_congr_left;intro p hp
      by_cases hil:i<listed.size
      ·have:=a9m (listed:=listed) (i:=i) (j:=p.1) (d:=true) hil;rw[if_neg (fun e=>hi p hp e.symm)]at this;simp only[this]
      ·have:listed.setIfInBounds i true=listed:=by simp[Array.setIfInBounds,hil]
       simp only[this]
    -- what must stand c8j of it has been listed
    have hahead0:∀k,k∈(c8b ops al.length).getD i []->listed.getD k true=true:=by
     intro k hk;have ha:=(d09 hk).2;cases hb:listed.getD k true with
     |true=>rfl
     |false=>exact absurd hi (d0u ha hb)
    have hahead:∀k,k∈(clo (c8b ops al.length)).getD i []->listed.getD k true=true:=by
     intro k hk;rcases e8j hk with h1|⟨j,h1,h2,h3⟩
     ·exact hahead0 k h1
     ·exact c47 (L:=fun k=>listed.getD k true=true) hh.closed (j+1) j (by omega) (d09 h1).1 (hahead0 j h1) _ h3
    have hsee:∀t∈ao.looks,e3i ops al.length listed t:=by
     intro t ht k hk hkd;have ha:=ho.head i ao him hao t ht k hk hkd;unfold c8j at ha;rw[hoi]at ha;simp only[Array.any_eq_true']at ha;obtain⟨e,he,hb⟩:=ha;simp only[Bool.and_eq_true,beq_iff_eq]at hb;have:=hdeps e he (d8r hb.1);rw[hb.2,d5i (by omega) false true]at this;exact this
    have hlook:∀t∈ao.looks,get (d8y (e3i ops al.length listed) F) t=get F t:=fun t ht=>by rw[b7f,if_pos (hsee t ht)]
    have hst:St σ hj (d8y (e3i ops al.length listed) F) N a:=⟨hinv,hh.env,hh.size,hh.defers⟩
    have hcount:(listed.setIfInBounds i true).toList.count false<=f:=by
     have hget':listed.toList[i]'(by simp;omega)=false:=by
      have:listed[i]? =some listed[i]:=Array.getElem?_eq_getElem (by omega);simp only[Array.getD_eq_getD_getElem?,this,Option.getD_some]at hun;simpa using hun
     have:=List.count_set (a:=true) (b:=false) (l:=listed.toList) (i:=i) (by simp;omega);simp only[Array.toList_setIfInBounds];rw[this,hget'];have hp:0<listed.toList.count false:=List.count_pos_iff.2 (by rw[List.mem_iff_getElem];exact⟨i,by simp;omega,hget'⟩);show listed.toList.count false - 1+0<=f;omega
    have hnext:∀(a':Act) (σ':Sg) (j':Nat),Le σ σ'->g06 ops al.length F h az hs fl j' N (listed.setIfInBounds i true) σ' a'->wpAny P md ops Q f (listed.setIfInBounds i true) a' σ'.w:=by
     intro a' σ' j' hl' hh';refine ih _ a' σ' j' (by simp[hsz]) (fun k hk1 hk2=>?_) (hle.trans hl') hh' hcount;rw[a9m (by omega),if_neg (by omega)];exact htail k hk1 hk2
    have hseen':∀t,e3i ops al.length (listed.setIfInBounds i true) t->(ops[i]?).bind (·.dst)≠some t->e3i ops al.length listed t:=by
     intro t ht hne k hk hkd;have:=ht k hk hkd;rw[a9m (by omega)]at this
     by_cases hik:i=k
     ·subst hik;exact absurd hkd hne
     ·rwa [if_neg hik]at this
    have hbind:(ops[i]?).bind (·.dst)=o.dst:=by rw[hoi];rfl
    have hclosed:∀k l:Nat,k<al.length->(listed.setIfInBounds i true).getD k true=true->l∈(c8b ops al.length).getD k []->(listed.setIfInBounds i true).getD l true=true:=by
     intro k l hk hkl hl;rw[a9m (by omega)]
     by_cases hil:i=l
     ·rw[if_pos hil]
     ·rw[if_neg hil]
      by_cases hik:i=k
      ·subst hik;exact hahead0 l hl
      ·rw[a9m (by omega),if_neg hik]at hkl;exact hh.closed k l hk hkl hl
    have quietNums:fl[i]? =some none->∀k n:Nat,fl[k]? =some (some n)->((listed.setIfInBounds i true).getD k true=true↔n<j):=by
     intro hnone k n hk;have hik:i≠k:=by rintro rfl;rw[hnone]at hk;cases hk
     rw[a9m (by omega),if_neg hik];exact hh.nums k n hk
    have cong:∀K:AV->A4->Prop,aop P ao.op F hj K->aop P ao.op (d8y (e3i ops al.length listed) F) hj K:=by
     intro K hk;rw[c9k (e1:=d8y (e3i ops al.length listed) F) (e2:=F)]
     ·exact hk
     ·intro x hx;cases x with
      |c a=>rfl
      |t n=>
       refine hlook n ?_;simp only[D5.looks,List.mem_append,List.mem_filterMap];exact .inl ⟨.t n,hx,rfl⟩
    have envOK:∀(σ':Sg) (a':Act) (av:AV),a34 σ' (b8h (d8y (e3i ops al.length listed) F) o.dst av) a'.tmps->(∀d,ao.dst=some d->get F d=some av)->a34 σ' (d8y (e3i ops al.length (listed.setIfInBounds i true)) F) a'.tmps:=by
     intro σ' a' av he hfd t bv hg;rw[b7f]at hg;split at hg
     ·rename_i hs
      by_cases hdt:o.dst=some t
      ·have:=hfd t (by rw[hdst];exact hdt);rw[this]at hg;cases hg;exact he t av (by rw[b1t,if_pos hdt])
      ·exact he t bv (by rw[b1t,if_neg hdt,b7f,if_pos (hseen' t hs (by rw[hbind];exact hdt))];exact hg)
     ·cases hg
    by_cases hisA:∃(q:Nat) (p:Nat × List AV),az[q]? =some p/\p.1=i
    ·obtain⟨q,p,hqp,hpi⟩:=hisA;obtain⟨o',ho1,ho2,ho3,ho4,ho5⟩:=hF.new q p hqp;subst hpi;rw[hao]at ho1;cases ho1
     have hj0:j=0:=by
      by_cases hz:j=0
      ·exact hz
      ·have:=hnew (by omega) p (List.mem_of_getElem? hqp);rw[hun]at this;cases this
     subst hj0;have hjs':hj=hA h az fun k=>listed.getD k true:=(Option.some.inj hjs).symm
     have hslot:hj.blks[h.blks.length+q]? =some none:=by
      rw[hjs'];simp only[hA];rw[List.getElem?_append_right (by omega),Nat.add_sub_cancel_left,List.getElem?_map,hqp];simp only[Option.map_some,hun,Bool.false_eq_true,if_false]
     have heq:(⟨hj.blks.set (h.blks.length+q) (some p.2),hj.bufs,hj.globs⟩:A4)=hA h az fun k=>(listed.setIfInBounds p.1 true).getD k true:=by
      rw[hjs'];simp only[hA]
      congr 1
      rw[List.set_append_right _ _ (by omega),Nat.add_sub_cancel_left]
      congr 1
      apply List.ext_getElem?;intro r
      by_cases hrq:q=r
      ·subst hrq;have hl:q<az.length:=(List.getElem?_eq_some_iff.1 hqp).1;rw[List.getElem?_set_self (by simpa using hl),List.getElem?_map,hqp];simp only[Option.map_some];have:=a9m (listed:=listed) (i:=p.1) (j:=p.1) (d:=true) (by omega);rw[if_pos rfl]at this;simp only[this,if_true]
      ·rw[List.getElem?_set_ne hrq,List.getElem?_map,List.getElem?_map];cases hr:az[r]? with
       |none=>rfl
       |some s=>
        have:=a9m (listed:=listed) (i:=p.1) (j:=s.1) (d:=true) (by omega);rw[if_neg (fun e=>hrq (hF.inj q r p s hqp hr e))]at this;simp only[Option.map_some,this]
     unfold wpOp;rw[hoi];simp only
     have hw:Region.wanted o (yielded ops a.tmps)=true:=by
      rcases hguard with⟨hg1,_⟩|⟨_,_,_,_,hg2,_⟩
      ·simp[Region.wanted,hg1]
      ·rw[ho3]at hg2;cases hg2
     rw[if_pos hw];refine .inl (Oper.wp_mono (fun a' w' hb=>?_) (f5d (ho2▸hop) hst hd hslot Q));obtain⟨σ',rfl,l1,s1⟩:=hb;exact hnext a' σ' 0 l1 ⟨⟨_,rfl,by rw[<-heq];exact s1.inv⟩,envOK σ' a' _ s1.env ho5,s1.size,s1.defers,quietNums ho4,hclosed⟩
    have hni:∀p∈az,p.1≠i:=by
     intro p hp hpi;obtain⟨q,hq⟩:=List.mem_iff_getElem?.1 hp;exact hisA ⟨q,p,hq,hpi⟩
    have hfact:=hfact.resolve_left hisA
    have does:d7s P F h az hs (clo (c8b ops al.length)) fl i ao fn->Oper.wp P o a σ.w (wpAny P md ops Q f (listed.setIfInBounds i true)) Q:=by
     intro hdo;cases fn with
     |none=>
      obtain⟨av,j0,j1,hj0,hqa,hlo,hhi,hfd⟩:=hdo
      have h0:j0<=j:=by
       by_cases hlt:j0<=j
       ·exact hlt
       ·exfalso;have hb:j+1<hs.length:=by omega
        obtain⟨k,hk⟩:=hF.onto j hb;have:=hahead k (hlo k j hk (by omega));have:=(hh.nums k j hk).1 this;omega
      have h1:j<=j1:=by
       rcases hhi with hhi|⟨k,hk,hik⟩
       ·omega
       ·by_cases hlt:j<=j1
        ·exact hlt
        ·exfalso;have hkl:=(hh.nums k j1 hk).2 (by omega);have hkm:k<al.length:=by rw[<-hF.len];exact(List.getElem?_eq_some_iff.1 hk).1
         have:=c47 (L:=fun k=>listed.getD k true=true) hh.closed (k+1) k (by omega) hkm hkl _ hik;rw[hun]at this;cases this
      have hqa':=cong _ (hqa j _ hj h0 h1 hjs);refine Oper.wp_mono (fun a' w' hb=>?_) (f0o hop hst hd hqa' Q);obtain⟨σ',h',av',rfl,l1,s1,rfl,rfl⟩:=hb;exact hnext a' σ' j l1 ⟨⟨_,by rw[hcur i hni];exact hjs,s1.inv⟩,envOK σ' a' av' s1.env hfd,s1.size,s1.defers,quietNums hfn,hclosed⟩
     |some n=>
      obtain⟨av,h1,h2,e1,e2,hqa,hfd⟩:=hdo
      have hnj:¬n<j:=fun hlt=>by
       have:=(hh.nums i n hfn).2 hlt;rw[hun]at this;cases this
      have hnj2:n=j:=by
       by_cases he:n=j
       ·exact he
       ·exfalso;have hb:j+1<hs.length:=by have:=(List.getElem?_eq_some_iff.1 e2).1;omega
        obtain⟨k,hk⟩:=hF.onto j hb;have hki:k≠i:=by rintro rfl;rw[hfn]at hk;cases hk;exact he rfl
        rcases Nat.lt_or_ge k i with hlt|hge
        ·have:=hahead k (hF.chain k i j n hlt hk hfn).2;have:=(hh.nums k j hk).1 this;omega
        ·have:=(hF.chain i k n j (by omega) hfn hk).1;omega
      subst hnj2
      have hjs':hs[n]? =some hj:=by
       cases n with
       |succ n=>exact hjs
       |zero=>
        rw[hF.first,<-hjs];show some _=some _
        congr 1
        unfold hA
        congr 2
        apply List.map_congr_left;intro p hp;simp only[hahead p.1 (hF.afirst i 0 hfn p hp)]
      rw[hjs']at e1;cases e1;have hqa':=cong _ hqa;refine Oper.wp_mono (fun a' w' hb=>?_) (f0o hop hst hd hqa' Q);obtain⟨σ',h',av',rfl,l1,s1,rfl,rfl⟩:=hb;refine hnext a' σ' (n+1) l1 ⟨⟨_,e2,s1.inv⟩,envOK σ' a' av' s1.env hfd,s1.size,s1.defers,?_,hclosed⟩;intro k n' hk;rw[a9m (by omega)]
      by_cases hik:i=k
      ·subst hik;rw[hfn]at hk;cases hk;rw[if_pos rfl];simp
      ·rw[if_neg hik,hh.nums k n' hk]
       have hne:n'≠n:=by
        rintro rfl;rcases Nat.lt_or_ge i k with hlt|hge
        ·have:=(hF.chain i k n' n' hlt hfn hk).1;omega
        ·have:=(hF.chain k i n' n' (Nat.lt_of_le_of_ne hge (fun e=>hik e.symm)) hk hfn).1;exact absurd this (Nat.lt_irrefl _)
       omega
    unfold wpOp;rw[hoi];simp only
    have skip:(fn=none/\∀d,ao.dst=some d->get F d=some (.tuple []))->wpAny P md ops Q f (listed.setIfInBounds i true) (a.put o.dst undef) σ.w:=by
     rintro⟨rfl,hno⟩;have s1:=hst.skipped o.dst hd;refine hnext _ σ j (Le.refl σ) ⟨⟨_,by rw[hcur i hni];exact hjs,s1.inv⟩,?_,s1.size,s1.defers,quietNums hfn,hclosed⟩;intro u bv hg;rw[b7f]at hg;split at hg
     ·rename_i hs
      by_cases hdt:o.dst=some u
      ·have:=hno u (by rw[hdst];exact hdt);rw[this]at hg;cases hg;exact s1.env u _ (by rw[b3c,if_pos hdt])
      ·exact s1.env u bv (by rw[b3c,if_neg hdt,b7f,if_pos (hseen' u hs (by rw[hbind];exact hdt))];exact hg)
     ·cases hg
    unfold e4d at hfact;rcases hguard with⟨hg1,hg2⟩|⟨jg,b,t,hg1,hg2,hg3⟩
    ·have hw:Region.wanted o (yielded ops a.tmps)=true:=by simp[Region.wanted,hg1]
     rw[if_pos hw];rw[hg2]at hfact;exact .inl (does hfact)
    ·rw[hg2]at hfact;rcases hfact with⟨c,hgt,hyes,hno⟩|⟨hgt,hno⟩
     ·have hy:yielded ops a.tmps jg=some c:=d3u (env:=d8y (e3i ops al.length listed) F) hg3 hh.env (by rw[hlook t (by simp[D5.looks,hg2])];exact hgt)
      by_cases hcb:c=b
      ·have hw:Region.wanted o (yielded ops a.tmps)=true:=by simp[Region.wanted,hg1,hy,hcb]
       rw[if_pos hw];exact .inl (does (hyes hcb))
      ·have hw:Region.wanted o (yielded ops a.tmps)=false:=by simp[Region.wanted,hg1,hy,hcb]
       rw[hw];simp only[Bool.false_eq_true,if_false];exact skip (hno hcb)
     ·have hy:yielded ops a.tmps jg=none:=c7k (env:=d8y (e3i ops al.length listed) F) hg3 hh.env (by rw[hlook t (by simp[D5.looks,hg2])];exact hgt);have hw:Region.wanted o (yielded ops a.tmps)=false:=by simp[Region.wanted,hg1,hy]
      rw[hw];simp only[Bool.false_eq_true,if_false];exact skip hno
theorem d6r{id:Nat}{ops:Array Oper}{al tl:List D5}(hq:a9a P N ops (ops.toList.take al.length)=some al)(ht:a9a P N ops (ops.toList.drop al.length)=some tl)(hok:f0t ops al=true)
  {Q:Exit->Env->A4->Prop}(hs:St σ h env N a) {F:Env}{h':A4}{az:List (Nat × List AV)}{hl:List A4}{fl:List (Option Nat)}(hn:d6p P (clo (c8b ops al.length)) al env F h h' az hl fl) (hv:f2z P tl F h' fun env' h'=>Q .normal env' h'):(Code.region id ops true).wp P (c1b σ N Q) a σ.w:=by
 simp only[f0t,Bool.and_eq_true,decide_eq_true_eq]at hok;obtain⟨⟨⟨h1,h2⟩,h3⟩,h4⟩:=hok;have ho:=f3v h1;have hd:c0u σ.w {σ.w with drawn:=σ.w.drawn+1}:=⟨Nat.le_refl _,fun _ _=>rfl,rfl,rfl,rfl⟩
 let σ1:Sg:={σ with w:={σ.w with drawn:=σ.w.drawn+1}}
 have hle1:Le σ σ1:=Le.world hd;have hi1:Inv h σ1:=hs.inv.world hd;obtain⟨hlen,hget⟩:=c2h hq;have hrep:∀i,i<ops.size->(Array.replicate ops.size false).getD i true=false:=fun i hi=>by simp[Array.getD_eq_getD_getElem?,Array.getElem?_replicate,hi]
 have every:∀md:Region.Mode,wpAny P md ops (c1b σ N Q) ops.size (Array.replicate ops.size false) a {σ.w with drawn:=σ.w.drawn+1}:=by
  intro md;refine f16 (σ₀:=σ1) hq h3 ho hn ?_ ops.size _ a σ1 0 (by simp) (fun i _ hi=>hrep i hi) (Le.refl _) ?_ ?_
  ·intro σ2 a2 l2 s2;have hlen2:(ops.toList.drop al.length).length=ops.size - al.length:=by simp
   rw[<-hlen2];refine b5k (σ₀:=σ1) (K:=fun env' h'=>Q .normal env' h') (fun σ3 h3 env3 a3 l3 s3 q3=>⟨trivial,σ3,h3,env3,rfl,hle1.trans l3,s3,q3⟩) _ _ tl σ2 h' F a2 (fun j hj=>?_) ht l2 s2 hv;rw[List.getElem?_drop,Array.getElem?_toList]
  ·refine⟨⟨_,rfl,?_⟩,?_,hs.size,hs.defers,?_,?_⟩
   ·have:hA h az (fun k=>(Array.replicate ops.size false).getD k true)=⟨h.blks++List.replicate az.length none,h.bufs,h.globs⟩:=by
     unfold hA
     congr 2
     apply List.ext_getElem?;intro q;rw[List.getElem?_map,List.getElem?_replicate];cases hq:az[q]? with
     |none=>
      have:az.length<=q:=List.getElem?_eq_none_iff.1 hq;rw[if_neg (by omega)];rfl
     |some p=>
      have hql:q<az.length:=(List.getElem?_eq_some_iff.1 hq).1;obtain⟨o,ho1,_⟩:=hn.new q p hq;have hil:p.1<al.length:=(List.getElem?_eq_some_iff.1 ho1).1;rw[if_pos hql];simp only[Option.map_some,hrep p.1 (show p.1<ops.size by omega)];rfl
    rw[this];exact e4h hi1 az.length
   ·intro t av hg;rw[b7f]at hg;split at hg
    ·rename_i hsn
     have hw:S5 t al=false:=by
      cases hwb:S5 t al with
      |false=>rfl
      |true=>
       exfalso;unfold S5 at hwb;rw[List.any_eq_true]at hwb;obtain⟨o,hmem,hod⟩:=hwb;obtain⟨i,hi⟩:=List.mem_iff_getElem?.1 hmem;have hil:i<al.length:=(List.getElem?_eq_some_iff.1 hi).1;have hops:ops[i]? =some ops[i]:=Array.getElem?_eq_getElem (by omega);obtain⟨ao,hao,hco⟩:=hget i ops[i] (by rw[List.getElem?_take,if_pos hil];simpa using hops);rw[hi]at hao;cases hao;have:=(c39 hco).2.2.1;have hf:=hsn i hil (by rw[hops];simp only[Option.bind_some];rw[<-this];simpa using hod);rw[hrep i (by omega)]at hf;cases hf
     rw[hn.keep t hw]at hg;obtain⟨x,q1,q2⟩:=hs.env t av hg;exact⟨x,q1,q2.mono hle1⟩
    ·cases hg
   ·intro i n hi;have hil:i<al.length:=by rw[<-hn.len];exact(List.getElem?_eq_some_iff.1 hi).1
    rw[hrep i (by omega)];simp
   ·intro k i hil hkl;rw[hrep k (by omega)]at hkl;cases hkl
  ·simp
 refine wp_region_draw fun t=>?_
 unfold Region.schedule;split
 ·exact wpAny_sound ops.size t _ a _ (every .any)
 ·exact wpAny_sound ops.size (t / 2) _ a _ (every _)
end
def e0h(ops:Array Oper):Nat:=((List.range (ops.size+1)).find? fun m=>(List.range ops.size).all fun i=>decide (i<m)||(List.range i).all fun j=>c8j ops i j).getD ops.size
def D0(P:Program)(N:Nat):Code->Option W3
 |.skip=>some .skip
 |.region _ ops false=>(a9a P N ops ops.toList).map .region
 |.region _ ops true=>(a9a P N ops (ops.toList.take (e0h ops))).bind fun al=>(a9a P N ops (ops.toList.drop (e0h ops))).bind fun tl=>
  if f0t ops al=true/\al.length=e0h ops then some (.drawn (c8b ops al.length) al tl) else none
 |.seq a b=>(D0 P N a).bind fun a=>(D0 P N b).map fun b=>.seq a b
 |.cond c a b=>(b0z c).bind fun c=>(D0 P N a).bind fun a=>(D0 P N b).map fun b=>.cond c a b
 |.block id a=>(D0 P N a).map fun a=>.block id a
 |.loop a=>(D0 P N a).map fun a=>.loop a
 |.exit id=>some (.exit id)
 |.ret=>some .ret
 |.scope a=>(D0 P N a).map .scope
 |.label l=>some (.label l)
 |.goto l=>some (.goto l)
 |_=>none
def e0f(P:Program)(N:Nat)(ac:W3)(Q:Exit->Env->A4->Prop)(env:Env)(h:A4):Prop:=
 ∀c,D0 P N c=some ac->∀(σ:Sg) (a:Act),St σ h env N a->c.wp P (c1b σ N Q) a σ.w
def e7d(K:Env->A4->Prop)(Q:Exit->Env->A4->Prop):Exit->Env->A4->Prop
 |.normal,env,h=>K env h
 |e,env,h=>Q e env h
def d4m(id:Nat)(Q:Exit->Env->A4->Prop):Exit->Env->A4->Prop
 |.exit i,env,h=>if i=id then Q .normal env h else Q (.exit i) env h
 |e,env,h=>Q e env h
def e7b:Env->Env->Prop
 |[],_=>True
 |(t,av)::e,env=>get env t=some av/\e7b e env
theorem e7b.get{env:Env}:∀{e:Env},e7b e env->∀t av,Lift.get e t=some av->Lift.get env t=some av
 |[],_,t,av,h=>by simp[Lift.get]at h
 |(u,b)::e,h,t,av,hg=>by
  simp only[Lift.get]at hg;split at hg
  ·rename_i hu;subst hu;cases hg;exact h.1
  ·exact e7b.get h.2 t av hg
section
variable {P:Program}{N:Nat}{Q:Exit->Env->A4->Prop}{env:Env}{h:A4}
theorem c1b.up{σ σ':Sg}(hl:Le σ σ'){e:Exit}{a:Act}{w:World}(hh:c1b σ' N Q e a w):c1b σ N Q e a w:=by
 obtain⟨h1,σ2,h2,env2,q1,q2,q3,q4⟩:=hh;exact⟨h1,σ2,h2,env2,q1,hl.trans q2,q3,q4⟩
theorem e7k(hq:Q .normal env h):e0f P N .skip Q env h:=by
 intro c hc σ a hs;cases c<;>(try simp only[D0,Option.bind_eq_some_iff,Option.map_eq_some_iff]at hc)
 case skip=>exact wp_skip ⟨trivial,σ,h,env,rfl,Le.refl σ,hs,hq⟩
 case region id ops d=>
  cases d<;>simp only[D0,Option.bind_eq_some_iff,Option.map_eq_some_iff]at hc
  ·obtain⟨_,_,hx⟩:=hc;cases hx
  ·obtain⟨_,_,_,_,hx⟩:=hc;split at hx<;>cases hx
 all_goals first
  |(cases hc;done)
  |(obtain⟨_,_,hx⟩:=hc;cases hx;done)
  |(obtain⟨_,_,_,_,hx⟩:=hc;cases hx;done)
  |(obtain⟨_,_,_,_,_,_,hx⟩:=hc;cases hx;done)
theorem e6y{id:Nat}(hq:Q (.exit id) env h):e0f P N (.exit id) Q env h:=by
 intro c hc σ a hs;cases c<;>(try simp only[D0,Option.bind_eq_some_iff,Option.map_eq_some_iff]at hc)
 case exit=>cases hc;exact wp_exit ⟨trivial,σ,h,env,rfl,Le.refl σ,hs,hq⟩
 case region id ops d=>
  cases d<;>simp only[D0,Option.bind_eq_some_iff,Option.map_eq_some_iff]at hc
  ·obtain⟨_,_,hx⟩:=hc;cases hx
  ·obtain⟨_,_,_,_,hx⟩:=hc;split at hx<;>cases hx
 all_goals first
  |(cases hc;done)
  |(obtain⟨_,_,hx⟩:=hc;cases hx;done)
  |(obtain⟨_,_,_,_,hx⟩:=hc;cases hx;done)
  |(obtain⟨_,_,_,_,_,_,hx⟩:=hc;cases hx;done)
theorem f3e(hq:Q .ret env h):e0f P N .ret Q env h:=by
 intro c hc σ a hs;cases c<;>(try simp only[D0,Option.bind_eq_some_iff,Option.map_eq_some_iff]at hc)
 case ret=>exact wp_ret ⟨trivial,σ,h,env,rfl,Le.refl σ,hs,hq⟩
 case region id ops d=>
  cases d<;>simp only[D0,Option.bind_eq_some_iff,Option.map_eq_some_iff]at hc
  ·obtain⟨_,_,hx⟩:=hc;cases hx
  ·obtain⟨_,_,_,_,hx⟩:=hc;split at hx<;>cases hx
 all_goals first
  |(cases hc;done)
  |(obtain⟨_,_,hx⟩:=hc;cases hx;done)
  |(obtain⟨_,_,_,_,hx⟩:=hc;cases hx;done)
  |(obtain⟨_,_,_,_,_,_,hx⟩:=hc;cases hx;done)
theorem e0q{ops:List D5}(hv:f2z P ops env h (fun env' h'=>Q .normal env' h')):e0f P N (.region ops) Q env h:=by
 intro c hc σ a hs;cases c<;>(try simp only[D0,Option.bind_eq_some_iff,Option.map_eq_some_iff]at hc)
 case region id ops' d=>
  cases d<;>simp only[D0,Option.bind_eq_some_iff,Option.map_eq_some_iff]at hc
  ·obtain⟨al,hal,hx⟩:=hc;cases hx;refine wp_region ?_;have:=b5k (Q:=c1b σ N Q) (σ₀:=σ) (K:=fun env' h'=>Q .normal env' h') (fun σ3 h3 env3 a3 l3 s3 q3=>⟨trivial,σ3,h3,env3,rfl,l3,s3,q3⟩) ops'.toList 0 ops σ h env a (fun j hj=>by simp) hal (Le.refl σ) hs hv;rw[List.range_eq_range'];simpa using this
  ·obtain⟨_,_,_,_,hx⟩:=hc;split at hx<;>cases hx
 all_goals first
  |(cases hc;done)
  |(obtain⟨_,_,hx⟩:=hc;cases hx;done)
  |(obtain⟨_,_,_,_,hx⟩:=hc;cases hx;done)
  |(obtain⟨_,_,_,_,_,_,hx⟩:=hc;cases hx;done)
theorem d1h{ord:List (List Nat)}{al tl:List D5}{F:Env}{h':A4}{az:List (Nat × List AV)}{hl:List A4}{fl:List (Option Nat)}(hn:d6p P (clo ord) al env F h h' az hl fl)(hv:f2z P tl F h' fun env' h'=>Q .normal env' h'):e0f P N (.drawn ord al tl) Q env h:=by
 intro c hc σ a hs;cases c<;>(try simp only[D0,Option.bind_eq_some_iff,Option.map_eq_some_iff]at hc)
 case region id ops' d=>
  cases d<;>simp only[D0,Option.bind_eq_some_iff,Option.map_eq_some_iff]at hc
  ·obtain⟨_,_,hx⟩:=hc;cases hx
  ·obtain⟨al',hal,tl',htl,hx⟩:=hc;split at hx
   ·rename_i hcond;cases hx;obtain⟨c2,c3⟩:=hcond;rw[<-c3]at hal htl;exact d6r hal htl c2 hs hn hv
   ·cases hx
 all_goals first
  |(cases hc;done)
  |(obtain⟨_,_,hx⟩:=hc;cases hx;done)
  |(obtain⟨_,_,_,_,hx⟩:=hc;cases hx;done)
  |(obtain⟨_,_,_,_,_,_,hx⟩:=hc;cases hx;done)
theorem c4u{x:W3}{Q':Exit->Env->A4->Prop}(hx:e0f P N x Q env h)(hq:∀e env h,Q e env h->Q' e env h):e0f P N x Q' env h:=by
 intro c hc σ a hs;refine wp_mono (hx c hc σ a hs) ?_;rintro e a' w' ⟨h1,σ2,h2,env2,q1,q2,q3,q4⟩;exact⟨h1,σ2,h2,env2,q1,q2,q3,hq _ _ _ q4⟩
end
def b9j:W3->Nat->Option W3
 |.seq a b,l=>match b9j a l with
  |some rest=>some (.seq rest b)
  |none=>b9j b l
 |.label l',l=>if l'==l then some .skip else none
 |_,_=>none
theorem e3t{P:Program}{N:Nat}(l:Nat):∀{c:Code}{ac:W3},D0 P N c=some ac->
  (∀ar,b9j ac l=some ar->∃r,findLabel c l=some r/\D0 P N r=some ar)/\(b9j ac l=none->findLabel c l=none):=by
 intro c
 induction c with
 |seq x y ihx ihy=>
  intro ac hc;simp only[D0,Option.bind_eq_some_iff,Option.map_eq_some_iff]at hc;obtain⟨x',hx,y',hy,rfl⟩:=hc;obtain⟨f1,f2⟩:=ihx hx;obtain⟨g1,g2⟩:=ihy hy;simp only[b9j,findLabel];cases hax:b9j x' l with
  |some rx=>
   obtain⟨r,h1,h2⟩:=f1 rx hax;simp only[h1];refine⟨fun ar h=>?_,fun h=>by cases h⟩;cases h;exact⟨_,rfl,by simp[D0,h2,hy]⟩
  |none=>
   simp only[f2 hax];exact⟨g1,g2⟩
 |label l'=>
  intro ac hc;simp only[D0]at hc;cases hc;simp only[b9j,findLabel];split
  ·exact⟨fun ar h=>by cases h;exact⟨_,rfl,rfl⟩,fun h=>by cases h⟩
  ·exact⟨(fun ar h=>by cases h),fun _=>rfl⟩
 |region id ops d=>
  intro ac hc;cases d<;>simp only[D0,Option.bind_eq_some_iff,Option.map_eq_some_iff]at hc
  ·obtain⟨_,_,rfl⟩:=hc;exact⟨(fun ar h=>by simp[b9j]at h),fun _=>rfl⟩
  ·obtain⟨_,_,_,_,hx⟩:=hc;split at hx<;>cases hx
   exact⟨(fun ar h=>by simp[b9j]at h),fun _=>rfl⟩
 |_=>
  intro ac hc;simp only[D0,Option.bind_eq_some_iff,Option.map_eq_some_iff]at hc
  first
   |(cases hc;done)
   |(cases hc;exact⟨(fun ar h=>by simp[b9j]at h),fun _=>rfl⟩)
   |(obtain⟨_,_,rfl⟩:=hc;exact⟨(fun ar h=>by simp[b9j]at h),fun _=>rfl⟩)
   |(obtain⟨_,_,_,_,rfl⟩:=hc;exact⟨(fun ar h=>by simp[b9j]at h),fun _=>rfl⟩)
   |(obtain⟨_,_,_,_,_,_,rfl⟩:=hc;exact⟨(fun ar h=>by simp[b9j]at h),fun _=>rfl⟩)
def g0i(l:Nat)(J:Env->A4->Prop)(Q:Exit->Env->A4->Prop):Exit->Env->A4->Prop
 |.goto l',env,h=>l'=l/\J env h
 |e,env,h=>Q e env h
def f1v(Q:Exit->Env->A4->Prop):Exit->Env->A4->Prop
 |.goto _,_,_=>False
 |e,env,h=>Q e env h
section
variable {P:Program}{N:Nat}{Q:Exit->Env->A4->Prop}{env:Env}{h:A4}
theorem d76{c:Code}{x:W3}(hc:D0 P N c=some (.scope x)):∃c',c=.scope c'/\D0 P N c'=some x:=by
 cases c<;>(try simp only[D0,Option.bind_eq_some_iff,Option.map_eq_some_iff]at hc)
 case scope c'=>obtain⟨x',h1,h2⟩:=hc;cases h2;exact⟨c',rfl,h1⟩
 case region id ops d=>
  cases d<;>simp only[D0,Option.bind_eq_some_iff,Option.map_eq_some_iff]at hc
  ·obtain⟨_,_,hx⟩:=hc;cases hx
  ·obtain⟨_,_,_,_,hx⟩:=hc;split at hx<;>cases hx
 all_goals first
  |(cases hc;done)
  |(obtain⟨_,_,hx⟩:=hc;cases hx;done)
  |(obtain⟨_,_,_,_,hx⟩:=hc;cases hx;done)
  |(obtain⟨_,_,_,_,_,_,hx⟩:=hc;cases hx;done)
theorem e4t{l:Nat}(hq:Q .normal env h):e0f P N (.label l) Q env h:=by
 intro c hc σ a hs;cases c<;>(try simp only[D0,Option.bind_eq_some_iff,Option.map_eq_some_iff]at hc)
 case label=>exact wp_label ⟨trivial,σ,h,env,rfl,Le.refl σ,hs,hq⟩
 case region id ops d=>
  cases d<;>simp only[D0,Option.bind_eq_some_iff,Option.map_eq_some_iff]at hc
  ·obtain⟨_,_,hx⟩:=hc;cases hx
  ·obtain⟨_,_,_,_,hx⟩:=hc;split at hx<;>cases hx
 all_goals first
  |(cases hc;done)
  |(obtain⟨_,_,hx⟩:=hc;cases hx;done)
  |(obtain⟨_,_,_,_,hx⟩:=hc;cases hx;done)
  |(obtain⟨_,_,_,_,_,_,hx⟩:=hc;cases hx;done)
theorem e7g{l:Nat}(hq:Q (.goto l) env h):e0f P N (.goto l) Q env h:=by
 intro c hc σ a hs;cases c<;>(try simp only[D0,Option.bind_eq_some_iff,Option.map_eq_some_iff]at hc)
 case goto=>cases hc;exact wp_goto ⟨trivial,σ,h,env,rfl,Le.refl σ,hs,hq⟩
 case region id ops d=>
  cases d<;>simp only[D0,Option.bind_eq_some_iff,Option.map_eq_some_iff]at hc
  ·obtain⟨_,_,hx⟩:=hc;cases hx
  ·obtain⟨_,_,_,_,hx⟩:=hc;split at hx<;>cases hx
 all_goals first
  |(cases hc;done)
  |(obtain⟨_,_,hx⟩:=hc;cases hx;done)
  |(obtain⟨_,_,_,_,hx⟩:=hc;cases hx;done)
  |(obtain⟨_,_,_,_,_,_,hx⟩:=hc;cases hx;done)
end
mutual
def plain:AV->Bool
 |.v _=>true
 |.ptr _ _=>false
 |.elt cells _=>plainL cells
 |.nil=>true
 |.sl els tok=>(match tok with|.own _=>false|_=>true)&&plainLL els
 |.agg cells=>plainL cells
 |.tuple vs=>plainL vs
 |.iface _ x=>plain x
 |.clo _ first captured=>plainL first&&plainL captured
 |.glob _=>true
 |.row _ _ _ _ _=>false
 |.it _ _=>false
def plainL:List AV->Bool
 |[]=>true
 |a::r=>plain a&&plainL r
def plainLL:List (List AV)->Bool
 |[]=>true
 |a::r=>plainL a&&plainLL r
end
theorem U9:∀{l:List AV},plainL l=true->∀(i:Nat) (av:AV),l[i]? =some av->plain av=true
 |[],_,i,av,h=>by simp at h
 |a::r,hp,i,av,h=>by
  simp only[plainL,Bool.and_eq_true]at hp;cases i with
  |zero=>simp at h;subst h;exact hp.1
  |succ i=>exact U9 hp.2 i av (by simpa using h)
theorem a55:∀{l:List (List AV)},plainLL l=true->∀(i:Nat) (el:List AV),l[i]? =some el->plainL el=true
 |[],_,i,av,h=>by simp at h
 |a::r,hp,i,av,h=>by
  simp only[plainLL,Bool.and_eq_true]at hp;cases i with
  |zero=>simp at h;subst h;exact hp.1
  |succ i=>exact a55 hp.2 i av (by simpa using h)
theorem D4{α:Type}(f:α->List AV)(l:List α)(h:∀x∈l,plainL (f x)=true):plainLL (l.map f)=true:=by
 induction l with
 |nil=>rfl
 |cons x l ih=>simp only[List.map_cons,plainLL,Bool.and_eq_true];exact⟨h x (by simp),ih fun y hy=>h y (by simp[hy])⟩
def bare(w:World)(outer:Nat->Nat->Prop):Sg:=⟨w,fun _=>none,fun _=>none,outer⟩
theorem b68(w:World)(outer:Nat->Nat->Prop)(b o:Nat):¬(bare w outer).own b o:=by
 rintro (⟨n,h⟩|⟨id,e,h,_⟩)<;>cases h
theorem b86(w:World)(outer:Nat->Nat->Prop)(b o:Nat):(bare w outer).open_ b o↔outer b o:=⟨fun h=>h.elim id fun h=>(b68 w outer b o h).elim,.inl⟩
def e8b(w:World)(outer:Nat->Nat->Prop)(gl:List (Nat × List AV)):Prop:=∀g cells,(g,cells)∈gl->Rel (bare w outer) (.elt cells 0) (.pointer (some ⟨g,0,none⟩))
theorem d4e{w:World}{outer:Nat->Nat->Prop}{gl:List (Nat × List AV)}(h:∀b o,outer b o->b<w.heap.size)(hg:e8b w outer gl):Inv ⟨[],[],gl⟩ (bare w outer) where
 blk n cells hn:=by simp at hn
 dom n b hn:=by cases hn
 inj n m b c c' hc hc' _ _ hn:=by cases hn
 buf id c hc:=by simp at hc
 bufdom id e he:=by cases he
 bufle id e he:=by cases he
 bufat id e b o he:=by cases he
 bufinj i j e f b o he:=by cases he
 bufblk id e n b o he:=by cases he
 outer b o ho:=⟨h b o ho,b68 w outer b o⟩
 glob:=hg
theorem Rel.down{σ:Sg}{av:AV}{x:Value}(hr:Rel σ av x):plain av=true->∀{w:World}{outer:Nat->Nat->Prop},w=σ.w->(∀b o,outer b o->σ.open_ b o)->Rel (bare w outer) av x:=by
 intro hp w outer hw ho;subst hw
 induction hr with
 |v x hx=>exact .v x hx
 |ptr n off b hb=>simp[plain]at hp
 |elt cells off b o xs hc _ ih=>
  simp only[plain]at hp;exact .elt cells off b o xs (fun i av hi=>⟨(hc i av hi).1,fun h=>(hc i av hi).2.1 (ho _ _ ((b86 _ _ _ _).1 h)),(hc i av hi).2.2⟩) fun i av hi=>ih i av hi (U9 hp i av hi)
 |nil=>exact .nil
 |glob n=>exact .glob n
 |row n off size len capm b cap hb hc hm hx=>simp[plain]at hp
 |sl0 tok ht=>
  refine .sl0 tok ?_;cases tok with
  |no=>trivial
  |full=>exact ht
  |own id=>simp[plain]at hp
 |slx tok a cap ht hc=>
  refine .slx tok a cap ?_ hc;cases tok with
  |no=>trivial
  |full=>exact ht
  |own id=>simp[plain]at hp
 |sl els tok b o cap size xs hs hcap ht hz hc _ ih=>
  simp only[plain,Bool.and_eq_true]at hp;refine .sl els tok b o cap size xs hs hcap ?_ ?_ (fun i el hi j av hj=>⟨(hc i el hi j av hj).1,fun h=>(hc i el hi j av hj).2.1 (ho _ _ ((b86 _ _ _ _).1 h)),(hc i el hi j av hj).2.2⟩) fun i el hi j av hj=>ih i el hi j av hj (U9 (a55 hp.2 i el hi) j av hj)
  ·cases tok with
   |no=>trivial
   |full=>exact ht
   |own id=>simp at hp
  ·intro id e hid he;cases he
 |agg cells xs hn hc x hx _ ih=>simp only[plain]at hp;exact .agg cells xs hn hc x hx fun i av hi=>ih i av hi (U9 hp i av hi)
 |tuple vs xs hn x hx _ ih=>simp only[plain]at hp;exact .tuple vs xs hn x hx fun i av hi=>ih i av hi (U9 hp i av hi)
 |iface t av x _ ih=>simp only[plain]at hp;exact .iface t av x (ih hp)
 |clo fn first captured fs cs hn hm x y hx hy _ _ ih1 ih2=>
  simp only[plain,Bool.and_eq_true]at hp;exact .clo fn first captured fs cs hn hm x y hx hy (fun i av hi=>ih1 i av hi (U9 hp.1 i av hi)) fun i av hi=>ih2 i av hi (U9 hp.2 i av hi)
theorem Rel.up{σ σ₁:Sg}{av:AV}{x:Value}(hr:Rel σ₁ av x):(∀n,σ₁.blk n=none)->(∀n,σ₁.buf n=none)->σ₁.w=σ.w->(∀b o,σ.open_ b o->σ₁.open_ b o)->Rel σ av x:=by
 intro hb hbuf hw ho
 induction hr with
 |v x hx=>exact .v x hx
 |ptr n off b h=>rw[hb]at h;cases h
 |elt cells off b o xs hc _ ih=>exact .elt cells off b o xs (fun i av hi=>⟨by rw[<-hw];exact(hc i av hi).1,fun h=>(hc i av hi).2.1 (ho _ _ h),(hc i av hi).2.2⟩) ih
 |nil=>exact .nil
 |glob n=>exact .glob n
 |row n off size len capm b cap h hc hm hx=>rw[hb]at h;cases h
 |sl0 tok ht=>
  refine .sl0 tok ?_;cases tok with
  |no=>trivial
  |full=>exact ht
  |own id=>obtain⟨e,h,_⟩:=ht;rw[hbuf]at h;cases h
 |slx tok a cap ht hc=>
  refine .slx tok a cap ?_ hc;cases tok with
  |no=>trivial
  |full=>exact ht
  |own id=>obtain⟨e,h,_⟩:=ht;rw[hbuf]at h;cases h
 |sl els tok b o cap size xs hs hcap ht hz hc _ ih=>
  refine .sl els tok b o cap size xs hs hcap ?_ ?_ (fun i el hi j av hj=>⟨by rw[<-hw];exact(hc i el hi j av hj).1,fun h=>(hc i el hi j av hj).2.1 (ho _ _ h),(hc i el hi j av hj).2.2⟩) ih
  ·cases tok with
   |no=>trivial
   |full=>exact ht
   |own id=>obtain⟨e,h,_⟩:=ht;rw[hbuf]at h;cases h
  ·intro id e hid he;subst hid;obtain⟨e',h,_⟩:=ht;rw[hbuf]at h;cases h
 |agg cells xs hn hc x hx _ ih=>exact .agg cells xs hn hc x hx ih
 |tuple vs xs hn x hx _ ih=>exact .tuple vs xs hn x hx ih
 |iface t av x _ ih=>exact .iface t av x ih
 |clo fn first captured fs cs hn hm x y hx hy _ _ ih1 ih2=>exact .clo fn first captured fs cs hn hm x y hx hy ih1 ih2
def b36:Nat->A4->AV->AV
 |0,_,a=>a
 |k+1,h,a=>match a with
  |.row n off size len cap=>match d9f h n off size len with
   |some els=>.sl (els.map fun el=>el.map fun c=>b36 k h (wk1 c)) .no
   |none=>a
  |.sl els tok=>.sl (els.map fun el=>el.map fun c=>b36 k h (wk1 c)) tok
  |.agg cells=>.agg (cells.map fun c=>b36 k h (wk1 c))
  |.tuple vs=>.tuple (vs.map fun c=>b36 k h (wkA c))
  |a=>a
theorem e5m:∀(k:Nat) (h:A4) (a:AV),(b36 k h a).isCell=a.isCell
 |0,_,_=>rfl
 |k+1,h,a=>by
  cases a with
  |row n off size len cap=>
   simp only[b36];cases d9f h n off size len<;>rfl
  |_=>rfl
theorem a9p{f:AV->AV}{l:List AV}(h:plainL (l.map f)=true){i:Nat}{a:AV}(ha:l[i]? =some a):plain (f a)=true:=U9 h i _ (by rw[List.getElem?_map,ha];rfl)
theorem Rel.thaw{h:A4}{σ:Sg}(hi:Inv h σ):∀(k:Nat) (av:AV) (x:Value),Rel σ av x->plain (b36 k h av)=true->Rel (bare σ.w σ.outer) (b36 k h av) x:=by
 have hout:∀b o,σ.outer b o->σ.open_ b o:=fun b o ho=>.inl ho
 intro k
 induction k with
 |zero=>intro av x hr hp;exact hr.down hp rfl hout
 |succ k ih=>
  intro av x hr hp;have cell:∀(c:AV) (y:Value),Rel σ c y->plain (b36 k h (Lift.wk1 c))=true->Rel (bare σ.w σ.outer) (b36 k h (Lift.wk1 c)) y:=fun c y hc hpc=>ih _ _ hc.wk1 hpc
  have iscell:∀c,(b36 k h (Lift.wk1 c)).isCell=c.isCell:=fun c=>by rw[e5m,e1d]
  cases hr with
  |row n off size len capm b cap hb hc hm hx=>
   simp only[b36]at hp ⊢;cases hra:d9f h n off size len with
   |none=>rw[hra]at hp;simp[plain]at hp
   |some els=>
    rw[hra]at hp;simp only[plain,Bool.true_and]at hp
    by_cases hlen:len=0
    ·subst hlen;simp only[d9f,if_true,Option.some.injEq]at hra;subst hra;exact .slx _ _ _ trivial (.inl rfl)
    simp only[d9f,if_neg hlen]at hra;split at hra
    ·rename_i cells hcs;split at hra
     ·rename_i hcond;obtain⟨hno,hle⟩:=hcond;simp only[Option.some.injEq]at hra;obtain⟨b',hb',hbk⟩:=hi.blk n cells hcs;rw[hb]at hb';cases hb';obtain⟨cs,rest,elem,hheap,hcc⟩:=hbk.plain hno;have hsub:=hcc.sub off (len*size) hle;have hl:((cells.drop off).take (len*size)).length=len*size:=by simp;omega
      obtain⟨c1,c2,c3⟩:=c6m size len _ hl;rw[hra]at c1 c2 c3
      have hown:∀o,¬(bare σ.w σ.outer).open_ b o:=by
       intro o ho;exact(hi.outer b o ((b86 _ _ _ _).1 ho)).2 (.inl ⟨n,hb⟩)
      have key:∀(i:Nat) (el:List AV),els[i]? =some el->∀(j:Nat) (av:AV),el[j]? =some av->∃y,σ.w.cell? ⟨b,off+i*size+j,none⟩=some y/\Rel σ av y/\av.isCell=true:=by
       intro i el hiel j av hj;have hel:el.length=size:=c2 el (List.mem_of_getElem? hiel);have hjl:j<size:=by rw[<-hel];exact(List.getElem?_eq_some_iff.1 hj).1
       have hf:=b41 els c2 i j hjl;rw[hiel,Option.bind_some,hj,c1]at hf;obtain⟨hcell,y,hy,hrel⟩:=hsub.2 _ av hf;refine⟨y,?_,hrel,hcell⟩;rw[List.getElem?_take]at hy;split at hy
       ·rw[List.getElem?_drop]at hy;have hlt:=(List.getElem?_eq_some_iff.1 hy).1;rw[a2i hheap,<-Array.getElem?_toList,List.toList_toArray,Nat.add_assoc,List.getElem?_append_left hlt];exact hy
       ·cases hy
      have:=Rel.sl (σ:=bare σ.w σ.outer) (els.map fun el=>el.map fun c=>b36 k h (Lift.wk1 c)) .no b off cap size (fun i j=>(σ.w.cell? ⟨b,off+i*size+j,none⟩).getD undef)
       (fun i el hiel=>by
        simp only[List.getElem?_map,Option.map_eq_some_iff]at hiel;obtain⟨el',h1,rfl⟩:=hiel;rw[List.length_map];exact c2 el' (List.mem_of_getElem? h1))
       (by rw[List.length_map,c3];exact hc) trivial (fun id e hid=>by cases hid)
       (fun i el hiel j av hj=>by
        simp only[List.getElem?_map,Option.map_eq_some_iff]at hiel;obtain⟨el',h1,rfl⟩:=hiel;simp only[List.getElem?_map,Option.map_eq_some_iff]at hj;obtain⟨av',h2,rfl⟩:=hj;obtain⟨y,k1,k2,k3⟩:=key i el' h1 j av' h2;exact⟨by show σ.w.cell? _=_;rw[k1];rfl,hown _,by rw[iscell];exact k3⟩)
       (fun i el hiel j av hj=>by
        simp only[List.getElem?_map,Option.map_eq_some_iff]at hiel;obtain⟨el',h1,rfl⟩:=hiel;simp only[List.getElem?_map,Option.map_eq_some_iff]at hj;obtain⟨av',h2,rfl⟩:=hj;obtain⟨y,k1,k2,k3⟩:=key i el' h1 j av' h2;rw[k1];exact cell av' y k2 (a9p (f:=fun c=>b36 k h (Lift.wk1 c)) (a55 hp i _ (by rw[List.getElem?_map,h1];rfl)) h2))
      rw[List.length_map,c3]at this;exact this
     ·cases hra
    ·cases hra
  |sl0 tok ht=>
   simp only[b36,List.map_nil]at hp ⊢;exact(Rel.sl0 tok ht).down hp rfl hout
  |slx tok a cap ht hc=>
   simp only[b36,List.map_nil]at hp ⊢;exact(Rel.slx tok a cap ht hc).down hp rfl hout
  |sl els tok b o cap size xs hs hcap ht hz hc hr=>
   simp only[b36,plain,Bool.and_eq_true]at hp ⊢
   have:=Rel.sl (σ:=bare σ.w σ.outer) (els.map fun el=>el.map fun c=>b36 k h (Lift.wk1 c)) tok b o cap size xs
    (fun i el hiel=>by
     simp only[List.getElem?_map,Option.map_eq_some_iff]at hiel;obtain⟨el',h1,rfl⟩:=hiel;rw[List.length_map];exact hs i el' h1)
    (by rw[List.length_map];exact hcap)
    (by
     rw[List.length_map];cases tok with
     |no=>trivial
     |full=>exact ht
     |own id=>simp at hp)
    (fun id e hid he=>by cases he)
    (fun i el hiel j av hj=>by
     simp only[List.getElem?_map,Option.map_eq_some_iff]at hiel;obtain⟨el',h1,rfl⟩:=hiel;simp only[List.getElem?_map,Option.map_eq_some_iff]at hj;obtain⟨av',h2,rfl⟩:=hj;obtain⟨k1,k2,k3⟩:=hc i el' h1 j av' h2;exact⟨k1,fun h=>k2 (.inl ((b86 _ _ _ _).1 h)),by rw[iscell];exact k3⟩)
    (fun i el hiel j av hj=>by
     simp only[List.getElem?_map,Option.map_eq_some_iff]at hiel;obtain⟨el',h1,rfl⟩:=hiel;simp only[List.getElem?_map,Option.map_eq_some_iff]at hj;obtain⟨av',h2,rfl⟩:=hj;exact cell av' _ (hr i el' h1 j av' h2) (a9p (f:=fun c=>b36 k h (Lift.wk1 c)) (a55 hp.2 i _ (by rw[List.getElem?_map,h1];rfl)) h2))
   rw[List.length_map]at this;exact this
  |agg cells xs hn hc x hx hr=>
   simp only[b36,plain]at hp ⊢;refine .agg _ xs (by rw[List.length_map];exact hn) (fun i av hiv=>?_) x (fun i av hiv=>?_) (fun i av hiv=>?_)
   all_goals
    simp only[List.getElem?_map,Option.map_eq_some_iff]at hiv;obtain⟨av',h2,rfl⟩:=hiv
   ·rw[iscell];exact hc i av' h2
   ·exact hx i av' h2
   ·exact cell av' _ (hr i av' h2) (a9p hp h2)
  |tuple vs xs hn x hx hr=>
   simp only[b36,plain]at hp ⊢;refine .tuple _ xs (by rw[List.length_map];exact hn) x (fun i av hiv=>?_) (fun i av hiv=>?_)
   all_goals
    simp only[List.getElem?_map,Option.map_eq_some_iff]at hiv;obtain⟨av',h2,rfl⟩:=hiv
   ·exact hx i av' h2
   ·exact ih _ _ (hr i av' h2).wkA (a9p hp h2)
  |v x hx=>exact .v x hx
  |ptr n off b hb=>simp[b36,plain]at hp
  |elt cells off b o xs hc hr=>exact(Rel.elt cells off b o xs hc hr).down hp rfl hout
  |nil=>exact .nil
  |glob n=>exact .glob n
  |iface t av x hr=>exact(Rel.iface t av x hr).down hp rfl hout
  |clo fn first captured fs cs hn hm x y hx hy h1 h2=>exact(Rel.clo fn first captured fs cs hn hm x y hx hy h1 h2).down hp rfl hout
def g51(P:Program)(gl:List (Nat × List AV))(f:FuncId)(args:List AV)(R:AV->Prop):Prop:=
 d5x P f/\∀(w:World) (outer:Nat->Nat->Prop) (cargs:Array Value),(∀b o,outer b o->b<w.heap.size)->e8b w outer gl->d2c (bare w outer) args cargs.toList->
  Calls P f cargs w fun e w'=>∃av x,e=.returned x/\c0u w w'/\Rel (bare w' outer) av x/\R av
def X3(gl:List (Nat × List AV)):Bool:=gl.all fun p=>plainL p.2
inductive c06 where
 |tmp (t:Nat)
 |cell (t:Nat) (n:Option Nat)
def b8w(P:Program):List ResultVar->Option (List c06)
 |[]=>some []
 |.tmp t::r=>(b8w P r).map fun l=>.tmp t::l
 |.cell a t::r=>(a8x P t).bind fun n=>(b8w P r).map fun l=>.cell a n::l
def d5a(env:Env)(h:A4):List c06->(List AV->Prop)->Prop
 |[],K=>K []
 |.tmp t::r,K=>wv (get env t) fun av=>d5a env h r fun l=>K (av::l)
 |.cell t n::r,K=>wv (get env t) fun p=>b71 h n p fun av=>d5a env h r fun l=>K (av::l)
def d4x:List AV->AV
 |[a]=>a
 |l=>.tuple l
def b37(P:Program)(f:FuncId):Option (Nat × W3 × List c06):=
 (P.funcs[f]?).bind fun fn=>fn.body.bind fun c=>(D0 P fn.ntmps c).bind fun ac=>(b8w P fn.results.toList).bind fun rs=>if fn.name== "runtime.NumGoroutine" then none else some (fn.ntmps,ac,rs)
theorem d3h{P:Program}{f:FuncId}{N:Nat}{ac:W3}{rs:List c06}(h:b37 P f=some (N,ac,rs)):
  ∃fn c,P.funcs[f]? =some fn/\fn.body=some c/\fn.ntmps=N/\D0 P N c=some ac/\b8w P fn.results.toList=some rs/\(fn.name== "runtime.NumGoroutine")=false:=by
 simp only[b37,Option.bind_eq_some_iff]at h;obtain⟨fn,h1,c,h2,ac',h3,rs',h4,h5⟩:=h;split at h5
 ·cases h5
 ·rename_i hn;cases h5;exact⟨fn,c,h1,h2,rfl,h3,h4,by simpa using hn⟩
def c2u:Nat->List AV->Env
 |_,[]=>[]
 |k,a::r=>(k,a)::c2u (k+1) r
theorem d58:∀(l:List AV) (k t:Nat) (av:AV),get (c2u k l) t=some av->k<=t/\l[t - k]? =some av
 |[],k,t,av,h=>by simp[c2u,get]at h
 |a::r,k,t,av,h=>by
  simp only[c2u,get]at h;split at h
  ·rename_i hk;subst hk;cases h;simp
  ·rename_i hk;obtain⟨h1,h2⟩:=d58 r (k+1) t av h;refine⟨by omega,?_⟩;rw[show t - k=(t - (k+1))+1 by omega];simpa using h2
def e1u(rs:List c06)(K:AV->A4->Prop)(e:Exit)(env:Env)(h:A4):Prop:=
 match e with
 |.normal|.ret=>d5a env h rs fun l=>K (d4x l) h
 |_=>False
section
variable {P:Program}{σ:Sg}{h:A4}{env:Env}{N:Nat}{a:Act}
theorem e0g(hi:Inv h σ){tmps:Array Value}(he:a34 σ env tmps):∀{rl:List ResultVar}{rs:List c06},b8w P rl=some rs->∀{K:List AV->Prop},d5a env h rs K->
  ∃l xs,K l/\xs.length=l.length/\(∀(i:Nat) (av:AV),l[i]? =some av->∃x,xs[i]? =some x/\Rel σ av x)/\
   (rl.mapM fun(r:ResultVar)=>(match r with|.tmp t=>pure (tmps.getD t undef)|.cell a t=>do loadVar t (<-asAddr (tmps.getD a undef)):Sem Value)).run P σ.w=.ok xs σ.w
 |[],rs,hc,K,hk=>by simp[b8w]at hc;subst hc;exact⟨[],[],hk,rfl,fun i av h=>by simp at h,rfl⟩
 |.tmp t::r,rs,hc,K,hk=>by
  simp only[b8w,Option.map_eq_some_iff]at hc;obtain⟨rs',hr,rfl⟩:=hc;obtain⟨av,hg,hk⟩:=b64 hk;obtain⟨x,h1,h2⟩:=he t av hg;obtain⟨l,xs,q1,q2,q3,q4⟩:=e0g hi he hr hk;refine⟨av::l,x::xs,q1,by simp[q2],fun i b hb=>?_,?_⟩
  ·cases i with
   |zero=>simp at hb;subst hb;exact⟨x,rfl,h2⟩
   |succ i=>exact q3 i b (by simpa using hb)
  ·have:tmps.getD t undef=x:=by simp[h1]
   simp only[List.mapM_cons,Sem.run_bind,Sem.run_pure,Result.andThen_ok,this];rw[q4];rfl
 |.cell a t::r,rs,hc,K,hk=>by
  simp only[b8w,Option.bind_eq_some_iff,Option.map_eq_some_iff]at hc;obtain⟨n,hn,rs',hr,rfl⟩:=hc;obtain⟨p,hg,hk⟩:=b64 hk;obtain⟨px,h1,h2⟩:=he a p hg;obtain⟨av,y,hk,hrel,hload⟩:=f1r (P:=P) hi hn h2 hk;obtain⟨l,xs,q1,q2,q3,q4⟩:=e0g hi he hr hk;refine⟨av::l,y::xs,q1,by simp[q2],fun i b hb=>?_,?_⟩
  ·cases i with
   |zero=>simp at hb;subst hb;exact⟨y,rfl,hrel⟩
   |succ i=>exact q3 i b (by simpa using hb)
  ·have hpx:tmps.getD a undef=px:=by simp[h1]
   have hp:∃ad,px=.pointer (some ad):=by
    cases h2<;>first|exact⟨_,rfl⟩|(simp[b71,a8d]at hk)|skip
    all_goals (rename_i hk0;simp[b71,a8d]at hk0)
   obtain⟨ad,rfl⟩:=hp;have hl2:(loadVar t ad).run P σ.w=.ok y σ.w:=by simpa[Instr.loadAt,Instr.sureAddr]using hload
   have ha2:(asAddr (.pointer (some ad))).run P σ.w=.ok ad σ.w:=rfl;simp only[List.mapM_cons,Sem.run_bind,hpx,ha2,Sem.run_pure,Result.andThen_ok,hl2];rw[q4];rfl
theorem d4n{f:FuncId}{ac:W3}{rs:List c06}(hf:b37 P f=some (N,ac,rs)){args:List AV}{K:AV->A4->Prop}(hn:args.length<=N)
  (hbody:e0f P N ac (e1u rs K) (c2u 0 args) h):∀(σ:Sg) (cargs:Array Value),Inv h σ->d2c σ args cargs.toList->
  Calls P f cargs σ.w fun e w'=>∃σ' h' av x,e=.returned x/\σ'.w=w'/\Le σ σ'/\Inv h' σ'/\Rel σ' av x/\K av h':=by
 intro σ cargs hi hr;obtain⟨fn,c,h1,h2,h3,h4,h5,h6⟩:=d3h hf;have hsz:cargs.size=args.length:=by simpa using hr.1
 have hst:St σ h (c2u 0 args) N {tmps:=cargs++Array.replicate (fn.ntmps - cargs.size) undef,defers:=[]}:=by
  refine⟨hi,fun t av hg=>?_,by simp;omega,rfl⟩;obtain⟨_,g2⟩:=d58 args 0 t av hg;obtain⟨x,q1,q2⟩:=hr.2 _ av g2;refine⟨x,?_,q2⟩;simp only[Nat.sub_zero]at q1
  have hlt:t<cargs.size:=by
   have:=(List.getElem?_eq_some_iff.1 q1).1;simpa using this
  simp only[Array.getElem?_toList]at q1;simp[Array.getElem?_append_left hlt,q1]
 refine calls_of_wp h1 h2 (wp_mono (hbody c h4 σ _ hst) ?_);intro e a' w' hh;obtain⟨g1,σ2,h2',env2,rfl,q2,q3,q4⟩:=hh
 have fin:(d5a env2 h2' rs fun l=>K (d4x l) h2')->a'.defers=[]/\∃v,(results fn a'.tmps).run P σ2.w=.ok v σ2.w/\∃σ' h' av x,Ending.returned v=.returned x/\σ'.w=σ2.w/\Le σ σ'/\Inv h' σ'/\Rel σ' av x/\K av h':=by
  intro ho;obtain⟨l,xs,k1,k2,k3,k4⟩:=e0g (P:=P) q3.inv q3.env h5 ho
  have hrun:(fn.results.mapM fun(r:ResultVar)=>(match r with|.tmp t=>pure (a'.tmps.getD t undef)|.cell a t=>do loadVar t (<-asAddr (a'.tmps.getD a undef)):Sem Value)).run P σ2.w=.ok xs.toArray σ2.w:=by
   rw[Array.mapM_eq_mapM_toList];simp only[Sem.run_map,k4,Result.andThen_ok]
  have hres:(results fn a'.tmps).run P σ2.w=.ok (if hx:xs.toArray.size=1 then xs.toArray[0] else .tuple xs.toArray) σ2.w:=by
   unfold results;rw[Sem.run_bind];have:=hrun;refine Eq.trans (congrArg (fun r=>Result.andThen r _) this) ?_;simp only[Result.andThen_ok,Sem.run_pure]
  refine⟨q3.defers,_,hres,σ2,h2',d4x l,_,rfl,rfl,q2,q3.inv,?_,k1⟩
  match l,xs,k2,k3 with
  |[b],[y],_,k3=>
   obtain⟨x,e1,e2⟩:=k3 0 b rfl;simp at e1;subst e1;simpa[d4x]using e2
  |[],[],_,_=>exact Rel.tuple_mk rfl fun i av hi=>by simp at hi
  |b1::b2::l,y1::y2::xs,k2,k3=>
   rw[dif_neg (by simp)]
   exact Rel.tuple_mk (by simpa using k2) fun i av hi=>by
    obtain⟨x,e1,e2⟩:=k3 i av hi;exact⟨x,by simpa using e1,e2⟩
 cases e with
 |normal=>exact fin q4
 |ret=>exact fin q4
 |panic _=>exact g1.elim
 |outgrown=>exact g1.elim
 |exit _=>exact q4.elim
 |goto _=>exact q4.elim
theorem c2d{f:FuncId}{ac:W3}{rs:List c06}(hf:b37 P f=some (N,ac,rs)):d5x P f:=by
 obtain⟨fn,c,h1,h2,_,_,_,h6⟩:=d3h hf;exact⟨fn,h1,by rw[h2];rfl,h6⟩
theorem e9x{f:FuncId}{ac:W3}{rs:List c06}(hf:b37 P f=some (N,ac,rs)){args:List AV}{K:AV->A4->Prop}(hn:args.length<=N)
  (hbody:e0f P N ac (e1u rs K) (c2u 0 args) h):c4a P f args h K:=⟨c2d hf,d4n hf hn hbody⟩
theorem g0o{gl:List (Nat × List AV)}{f:FuncId}{ac:W3}{rs:List c06}(hf:b37 P f=some (N,ac,rs)){args:List AV}{R:AV->Prop}(hn:args.length<=N)
  (hbody:e0f P N ac (e1u rs fun av _=>plain (wk av)=true/\R (wk av)) (c2u 0 args) ⟨[],[],gl⟩):g51 P gl f args R:=by
 refine⟨c2d hf,fun w outer cargs ho hg hr=>?_⟩;refine(d4n hf hn hbody (bare w outer) cargs (d4e ho hg) hr).mono fun e w' hq=>?_
 obtain⟨σ',h',av,x,rfl,rfl,g2,g3,g4,g5,g6⟩:=hq;refine⟨wk av,x,rfl,⟨g2.size,fun b hb=>g2.whole b hb (fun o=>b68 w outer b o),g2.os,g2.tape,g2.output⟩,?_,g6⟩;refine g4.wk.down g5 rfl fun b o hbo=>.inl ?_
 rw[g2.outer];exact hbo
end
structure A(P:Program)(o:AOp)(env:Env)(h:A4)(K:AV->A4->Prop):Prop where
 out:aop P o env h K
structure V(P:Program)(l:List D5)(env:Env)(h:A4)(K:Env->A4->Prop):Prop where
 out:f2z P l env h K
structure C(P:Program)(N:Nat)(ac:W3)(Q:Exit->Env->A4->Prop)(env:Env)(h:A4):Prop where
 out:e0f P N ac Q env h
section
variable {P:Program}{h:A4}{env:Env}{N:Nat}{K:AV->A4->Prop}{x y z:K4}{a b c:AV}
theorem d7t{g:FuncId}{f:K4}{args:List K4}{l:List AV}(hf:f.ev env=some (.clo (.func g) [] []))(ha:evs env args=some l)(hk:c4a P g l h K):A P (.call f args) env h K:=⟨by
 simp only[aop,hf,ha,wv,d8u,List.nil_append,List.append_nil];exact hk⟩
theorem g0l{g:FuncId}{f:K4}{args:List K4}{l r s:List AV}(hf:f.ev env=some (.clo (.func g) r s))(ha:evs env args=some l)(hk:c4a P g (r++l++s) h K):A P (.call f args) env h K:=⟨by
 simp only[aop,hf,ha,wv,d8u];exact hk⟩
theorem c83{mx:Bool}{args:List K4}{l:List AV}{v:Value}(ha:evs env args=some l)(hv:mmx mx l=some v)(hk:K (.v v) h):A P (.minmax mx args) env h K:=⟨by simp only[aop,ha,hv,d8n];exact hk⟩
end
section
variable {P:Program}{h:A4}{env:Env}{N:Nat}
variable {Q:Exit->Env->A4->Prop}
theorem f35{ops:List D5}(hv:V P ops env h fun env' h'=>Q .normal env' h'):C P N (.region ops) Q env h:=⟨e0q hv.out⟩
theorem g3z(hq:Q .normal env h):C P N .skip Q env h:=⟨e7k hq⟩
theorem g4y{id:Nat}(hv:Q (.exit id) env h):C P N (.exit id) Q env h:=⟨e6y hv⟩
theorem g9t(hv:Q .ret env h):C P N .ret Q env h:=⟨f3e hv⟩
theorem g24{l:Nat}(hq:Q .normal env h):C P N (.label l) Q env h:=⟨e4t hq⟩
theorem g66{l:Nat}(hq:Q (.goto l) env h):C P N (.goto l) Q env h:=⟨e7g hq⟩
end
def h1p(op:BinOp)(x y:Value):Option Value:=
 match op,x,y with
 |.eql,.string a,.string b=>some (.bool (a.data.toList==b.data.toList))
 |.neq,.string a,.string b=>some (.bool (!(a.data.toList==b.data.toList)))
 |.lss,.string a,.string b=>some (.bool (Op.bytesLess a.data.toList b.data.toList))
 |.add,.string a,.string b=>if a.data.toList.length+b.data.toList.length<=9223372036854775807 then some (.string ⟨⟨a.data.toList++b.data.toList⟩⟩) else none
 |.quo,.int k a,.int k' b=>if k=k'/\b≠0 then some (.int k (k.wrap (a.tdiv b))) else none
 |.rem,.int k a,.int k' b=>if k=k'/\b≠0 then some (.int k (a.tmod b)) else none
 |.shl,.int k a,.int _ b=>if 0<=b then some (.int k (k.wrap (a*2 ^ min b.toNat k.bits))) else none
 |.shr,.int k a,.int _ b=>if 0<=b then some (.int k (a.fdiv (2 ^ min b.toNat k.bits))) else none
 |.add,.int k a,.int k' b=>if k=k' then some (.int k (k.wrap (a+b))) else none
 |.sub,.int k a,.int k' b=>if k=k' then some (.int k (k.wrap (a - b))) else none
 |.mul,.int k a,.int k' b=>if k=k' then some (.int k (k.wrap (a*b))) else none
 |.and,.int k a,.int k' b=>if k=k' then some (.int k (F0 .and k a b)) else none
 |.or,.int k a,.int k' b=>if k=k' then some (.int k (F0 .or k a b)) else none
 |.xor,.int k a,.int k' b=>if k=k' then some (.int k (F0 .xor k a b)) else none
 |.andNot,.int k a,.int k' b=>if k=k' then some (.int k (F0 .andNot k a b)) else none
 |.eql,.int k a,.int k' b=>if k=k' then some (.bool (a==b)) else none
 |.neq,.int k a,.int k' b=>if k=k' then some (.bool (a !=b)) else none
 |.lss,.int k a,.int k' b=>if k=k' then some (.bool (decide (a<b))) else none
 |.leq,.int k a,.int k' b=>if k=k' then some (.bool (decide (a<=b))) else none
 |.gtr,.int k a,.int k' b=>if k=k' then some (.bool (decide (b<a))) else none
 |.geq,.int k a,.int k' b=>if k=k' then some (.bool (decide (b<=a))) else none
 |_,_,_=>none
theorem f4o(a b:ByteArray):a++b=⟨⟨a.data.toList++b.data.toList⟩⟩:=by
 apply ByteArray.ext;apply Array.ext';rw[ByteArray.data_append,Array.toList_append]
theorem f8u{op:BinOp}{x y r:Value}(h:h1p op x y=some r):∃c:Prop,c/\d9u op x y=some (c,r):=by
  unfold h1p at h;split at h
  · cases h;exact⟨True,trivial,by simp only[d9u,ByteArray.toList_eq]⟩
  · cases h;exact⟨True,trivial,by simp only[d9u,ByteArray.toList_eq]⟩
  · cases h;exact⟨True,trivial,by simp only[d9u,ByteArray.toList_eq]⟩
  · split at h
    · rename_i a b hc
      cases h;refine⟨_,hc,?_⟩;simp only[d9u];rw[f4o];rfl
    · cases h
  · split at h
    · rename_i hc;cases h;exact⟨_,hc.2,by simp only[d9u];rw[if_pos hc.1]⟩
    · cases h
  · split at h
    · rename_i hc;cases h;exact⟨_,hc.2,by simp only[d9u];rw[if_pos hc.1]⟩
    · cases h
  · split at h
    · rename_i hc;cases h;exact⟨_,hc,by simp only[d9u]⟩
    · cases h
  · split at h
    · rename_i hc;cases h;exact⟨_,hc,by simp only[d9u]⟩
    · cases h
  all_goals first
    |(cases h;done)
    |(split at h
      · rename_i hc;cases h;exact⟨True,trivial,by simp only[d9u];rw[if_pos hc]⟩
      · cases h)
def c18(h:A4)(n:Option Nat)(p:AV):Option AV:=
 (a8d h p).bind fun q=>match n with
  |none=>q.1[q.2]?
  |some n=>if q.2+n<=q.1.length then some (.agg ((q.1.drop q.2).take n)) else none
theorem c52{h:A4}{n:Option Nat}{p a:AV}{K:AV->Prop}(he:c18 h n p=some a)(hk:K a):b71 h n p K:=by
 simp only[c18,Option.bind_eq_some_iff]at he;obtain⟨⟨cells,off⟩,h1,h2⟩:=he;simp only[b71,h1];cases n with
 |none=>simp only at h2 ⊢;simp only[h2];exact hk
 |some n=>
  simp only at h2 ⊢;split at h2
  ·rename_i hc;cases h2;exact⟨hc,hk⟩
  ·cases h2
def d9m(h:A4)(size:Nat)(p x:AV):Option A4:=
 match p with
 |.ptr n off=>match h.blks[n]? with
  |some (some cells)=>if a8s cells=true/\x.cells.length=size/\off+size<=cells.length/\x.isTuple=false then some ⟨h.blks.set n (some (splice cells off x.cells)),h.bufs,h.globs⟩ else none
  |_=>none
 |_=>none
theorem e5f{h h':A4}{n:Nat}{p x:AV}{K:A4->Prop}(he:d9m h n p x=some h')(hk:K h'):d3e h n p x K:=by
 unfold d9m at he;unfold d3e;split at he
 ·split at he
  ·rename_i hb;simp only[hb];split at he
   ·rename_i hc;cases he;exact⟨hc,hk⟩
   ·cases he
  ·cases he
 ·cases he
def e0e(op:BinOp)(x y:AV):Option AV:=
 match x,y with
 |.v a,.v b=>(h1p op a b).map .v
 |_,_=>none
theorem e5g{op:BinOp}{x y a:AV}{K:AV->Prop}(he:e0e op x y=some a)(hk:K a):d3p op x y K:=by
 unfold e0e at he;split at he
 ·simp only[Option.map_eq_some_iff]at he;obtain⟨r,h1,rfl⟩:=he;obtain⟨c,hc,hp⟩:=f8u h1;simp only[d3p,hp];exact⟨hc,hk⟩
 ·cases he
def eqF(c:EqK)(x y:AV):Option Bool:=
 match c,x,y with
 |.bool,.v (.bool a),.v (.bool b)=>some (a==b)
 |.slice,.nil,.nil=>some true
 |.slice,.sl (_::_) _,.nil=>some false
 |.slice,.nil,.sl (_::_) _=>some false
 |.slice,.row _ _ _ _ _,.nil=>some false
 |.slice,.nil,.row _ _ _ _ _=>some false
 |.func,.clo _ _ _,.v .nilFunc=>some false
 |.func,.v .nilFunc,.clo _ _ _=>some false
 |.func,.v .nilFunc,.v .nilFunc=>some true
 |.ptr,.ptr _ _,.v (.pointer none)=>some false
 |.ptr,.elt _ _,.v (.pointer none)=>some false
 |.ptr,.v (.pointer none),.v (.pointer none)=>some true
 |.iface,.iface _ _,.v .nilIface=>some false
 |.iface,.v .nilIface,.iface _ _=>some false
 |.iface,.v .nilIface,.v .nilIface=>some true
 |.flat ks,.agg xs,.agg ys=>b0m ks xs ys
 |_,_,_=>none
theorem g5b{c:EqK}{x y:AV}{b:Bool}{K:Bool->Prop}(he:eqF c x y=some b)(hk:K b):f21 c x y K:=by
 unfold eqF at he;split at he<;>first|(cases he;done)|(cases he;exact hk)|(cases he;exact .inl ⟨by simp,hk⟩)|(simp only[f21,he,e8o];exact hk)
def unF(op:UnOp)(x:AV):Option AV:=
 match op,x with
 |.not,.v (.bool b)=>some (.v (.bool (!b)))
 |.neg,.v (.int k n)=>some (.v (.int k (k.wrap (0 - n))))
 |.xor,.v (.int k n)=>some (.v (.int k (F0 .xor k (if k.signed then -1 else k.max) n)))
 |_,_=>none
theorem g6f{op:UnOp}{x a:AV}{K:AV->Prop}(he:unF op x=some a)(hk:K a):f3a op x K:=by
 unfold unF at he;split at he<;>first|(cases he;done)|(cases he;exact hk)
def c9c:List (List AV)->Option (List UInt8)
 |[]=>some []
 |[.v (.int .u8 n)]::r=>if 0<=n/\n<256 then(c9c r).map fun l=>UInt8.ofNat n.toNat::l else none
 |_=>none
theorem c9t:∀{els:List (List AV)}{l:List UInt8},c9c els=some l->els=Z6 l
 |[],l,h=>by cases h;rfl
 |el::r,l,h=>by
  unfold c9c at h;split at h
  ·rename_i heq;cases heq
  ·rename_i n r' heq;cases heq;split at h
   ·rename_i hn;simp only[Option.map_eq_some_iff]at h;obtain⟨l',h1,rfl⟩:=h;rw[c9t h1]
    have:((UInt8.ofNat n.toNat).toNat:Int)=n:=by
     rw[UInt8.toNat_ofNat'];omega
    simp only[Z6,List.map_cons,this]
   ·cases h
  ·cases h
def g09(c:CK)(x:AV):Option AV:=
 match c,x with
 |.num k,.v (.int _ n)=>some (.v (.int k (k.wrap n)))
 |.chr,.v (.int _ n)=>some (.v (.string (Utf8.encode n)))
 |.same,.v (.string s)=>some (.v (.string s))
 |.str,.nil=>some (.v (.string ⟨⟨[]⟩⟩))
 |.str,.sl els _=>(c9c els).map fun l=>.v (.string ⟨⟨l⟩⟩)
 |_,_=>none
theorem f4a{c:CK}{x a:AV}{K:AV->Prop}(he:g09 c x=some a)(hk:K a):d74 c x K:=by
 unfold g09 at he;split at he
 ·cases he;exact hk
 ·cases he;exact hk
 ·cases he;exact hk
 ·cases he;exact hk
 ·simp only[Option.map_eq_some_iff]at he;obtain⟨l,h1,rfl⟩:=he;exact⟨l,c9t h1,hk⟩
 ·cases he
def h3a(p:AV)(lo hi:Option AV):Option AV:=
 match p with
 |.v (.string s)=>(F6 0 lo).bind fun l=>(F6 s.data.toList.length hi).bind fun u=>
  if 0<=l/\l<=u/\u<=(s.data.toList.length:Int) then some (.v (.string ⟨⟨(s.data.toList.take u.toNat).drop l.toNat⟩⟩)) else none
 |_=>none
theorem d4k(s:ByteArray)(l u:Nat):s.extract l u=⟨⟨(s.data.toList.take u).drop l⟩⟩:=by
 apply ByteArray.ext;apply Array.ext';rw[ByteArray.data_extract];simp[List.extract,List.drop_take]
theorem g21{p a:AV}{lo hi:Option AV}{K:AV->Prop}(he:h3a p lo hi=some a)(hk:K a):c46 p lo hi K:=by
 unfold h3a at he;split at he
 ·rename_i s;simp only[Option.bind_eq_some_iff]at he;obtain⟨l,h1,u,h2,h3⟩:=he;split at h3
  ·rename_i hc;cases h3;have hs:s.data.toList.length=s.size:=Array.length_toList;rw[hs]at h2 hc;simp only[c46,h1,h2];rw[d4k];exact⟨hc,hk⟩
  ·cases h3
 ·cases he
def d2m(size:Nat):List (List AV)->Bool
 |[]=>true
 |el::r=>decide (el.length=size)&&d2m size r
theorem b4q{size:Nat}:∀{l:List (List AV)},d2m size l=true->∀el∈l,el.length=size
 |[],_,el,h=>by simp at h
 |a::r,hs,el,h=>by
  simp only[d2m,Bool.and_eq_true,decide_eq_true_eq]at hs;rcases List.mem_cons.1 h with rfl|h
  ·exact hs.1
  ·exact b4q hs.2 el h
def h0z(size:Nat)(p:AV)(lo hi mx:Option AV):Option AV:=
 match p,mx with
 |.nil,_=>(F6 0 lo).bind fun l=>(F6 0 hi).bind fun u=>(F6 0 mx).bind fun m=>if l=0/\u=0/\m=0 then some .nil else none
 |.sl els tok,none=>(F6 0 lo).bind fun l=>(F6 els.length hi).bind fun u=>
  if(0<=l/\l<=u/\u<=(els.length:Int))/\d2m size els=true then some (.sl ((els.take u.toNat).drop l.toNat) (match lo,hi with|none,none=>tok|_,_=>.no)) else none
 |.sl els tok,some (.v (.int _ m))=>(F6 0 lo).bind fun l=>(F6 els.length hi).bind fun u=>
  if(0<=l/\l<=u/\u<=(els.length:Int))/\d2m size els=true/\m=u/\hi.isSome=true then some (.sl ((els.take u.toNat).drop l.toNat) .full) else none
 |.row n off sz len cap,none=>(F6 0 lo).bind fun l=>(F6 len hi).bind fun u=>
  if(0<=l/\l<=u/\u<=(len:Int))/\sz=size then(if l<(len:Int) then some (.row n (off+l.toNat*size) size (u.toNat - l.toNat) (cap - l.toNat)) else some (.sl [] .no)) else none
 |.row n off sz len cap,some (.v (.int _ m))=>(F6 0 lo).bind fun l=>(F6 len hi).bind fun u=>
  if(0<=l/\l<=u/\u<=(len:Int))/\sz=size/\m=u/\hi.isSome=true then(if l<u then some (.row n (off+l.toNat*size) size (u.toNat - l.toNat) (u.toNat - l.toNat)) else some (.sl [] .full)) else none
 |_,_=>none
theorem g1z{size:Nat}{p a:AV}{lo hi mx:Option AV}{K:AV->Prop}(he:h0z size p lo hi mx=some a)(hk:K a):b2p size p lo hi mx K:=by
 unfold h0z at he;split at he
 ·simp only[Option.bind_eq_some_iff]at he;obtain⟨l,h1,u,h2,m,h3,h4⟩:=he;split at h4
  ·rename_i hc;cases h4;simp only[b2p,h1,h2,h3];exact⟨hc,hk⟩
  ·cases h4
 ·simp only[Option.bind_eq_some_iff]at he;obtain⟨l,h1,u,h2,h4⟩:=he;split at h4
  ·rename_i hc;cases h4;simp only[b2p,h1,h2];exact⟨hc.1,b4q hc.2,hk⟩
  ·cases h4
 ·simp only[Option.bind_eq_some_iff]at he;obtain⟨l,h1,u,h2,h4⟩:=he;split at h4
  ·rename_i hc;cases h4;simp only[b2p,h1,h2];refine⟨hc.1,b4q hc.2.1,hc.2.2.1,?_,hk⟩;intro hn;rw[hn]at hc;exact absurd hc.2.2.2 (by simp)
  ·cases h4
 ·simp only[Option.bind_eq_some_iff]at he;obtain⟨l,h1,u,h2,h4⟩:=he;split at h4
  ·rename_i hc;simp only[b2p,h1,h2];refine⟨hc.1,hc.2,?_⟩;split at h4
   ·rename_i hl;cases h4;rw[if_pos hl];exact hk
   ·rename_i hl;cases h4;rw[if_neg hl];exact hk
  ·cases h4
 ·simp only[Option.bind_eq_some_iff]at he;obtain⟨l,h1,u,h2,h4⟩:=he;split at h4
  ·rename_i hc;simp only[b2p,h1,h2];refine⟨hc.1,hc.2.1,⟨hc.2.2.1,fun hn=>by rw[hn]at hc;exact absurd hc.2.2.2 (by simp)⟩,?_⟩;split at h4
   ·rename_i hl;cases h4;rw[if_pos hl];exact hk
   ·rename_i hl;cases h4;rw[if_neg hl];exact hk
  ·cases h4
 ·cases he
def f5y(n:Nat)(p:AV):Option AV:=
 match p with
 |.ptr k off=>some (.ptr k (off+n))
 |.elt cells off=>some (.elt cells (off+n))
 |_=>none
theorem e11{n:Nat}{p a:AV}{K:AV->Prop}(he:f5y n p=some a)(hk:K a):e7f n p K:=by
 unfold f5y at he;split at he<;>first|(cases he;done)|(cases he;exact hk)
def f5n(n:Option Nat)(off:Nat)(x:AV):Option AV:=
 match x,n with
 |.agg cells,none=>cells[off]?
 |.agg cells,some n=>if off+n<=cells.length then some (.agg ((cells.drop off).take n)) else none
 |_,_=>none
theorem e1e{n:Option Nat}{off:Nat}{x a:AV}{K:AV->Prop}(he:f5n n off x=some a)(hk:K a):d3f n off x K:=by
 unfold f5n at he;split at he
 ·simp only[d3f,he];exact hk
 ·split at he
  ·rename_i hc;cases he;exact⟨hc,hk⟩
  ·cases he
 ·cases he
def f9x(p i:AV):Option AV:=
 match p,i with
 |.v (.string s),.v (.int _ n)=>if 0<=n/\n<(s.data.toList.length:Int) then some (.v (.int .u8 (F2 s n.toNat))) else none
 |_,_=>none
theorem f32{p i a:AV}{K:AV->Prop}(he:f9x p i=some a)(hk:K a):c4q p i K:=by
 unfold f9x at he;split at he
 ·rename_i s _ n;split at he
  ·rename_i hc;cases he;have hs:s.data.toList.length=s.size:=Array.length_toList;rw[hs]at hc;exact⟨hc,hk⟩
  ·cases he
 ·cases he
def g14(len size:Nat)(n:Option Nat)(p i:AV):Option AV:=
 match i with
 |.v (.int _ j)=>if 0<=j/\j<(len:Int) then f5n n (j.toNat*size) p else none
 |_=>none
theorem f5s{len size:Nat}{n:Option Nat}{p i a:AV}{K:AV->Prop}(he:g14 len size n p i=some a)(hk:K a):c84 len size n p i K:=by
 unfold g14 at he;split at he
 ·split at he
  ·rename_i hc;exact⟨hc,e1e he hk⟩
  ·cases he
 ·cases he
def h3g(size:Nat)(p i:AV):Option AV:=
 match p,i with
 |.sl els _,.v (.int _ n)=>if(0<=n/\n<(els.length:Int))/\(els.getD n.toNat []).length=size then some (.elt (els.getD n.toNat []) 0) else none
 |.row r off sz len _,.v (.int _ n)=>if(0<=n/\n<(len:Int))/\sz=size then some (.ptr r (off+n.toNat*size)) else none
 |_,_=>none
theorem f9y{size:Nat}{p i a:AV}{K:AV->Prop}(he:h3g size p i=some a)(hk:K a):c6c size p i K:=by
 unfold h3g at he;split at he
 ·split at he
  ·rename_i hc;cases he;exact⟨hc.1,hc.2,hk⟩
  ·cases he
 ·split at he
  ·rename_i hc;cases he;exact⟨hc.1,hc.2,hk⟩
  ·cases he
 ·cases he
def g03(len size:Nat)(p i:AV):Option AV:=
 match i with
 |.v (.int _ n)=>if 0<=n/\n<(len:Int) then f5y (n.toNat*size) p else none
 |_=>none
theorem f3g{len size:Nat}{p i a:AV}{K:AV->Prop}(he:g03 len size p i=some a)(hk:K a):c8t len size p i K:=by
 unfold g03 at he;split at he
 ·split at he
  ·rename_i hc;exact⟨hc,e11 he hk⟩
  ·cases he
 ·cases he
def e0u(t:TypeId)(ok:Bool)(zero x:AV):Option AV:=
 match x,ok with
 |.iface u y,true=>some (if u=t then .tuple [y,.v (.bool true)] else .tuple [zero,.v (.bool false)])
 |.iface u y,false=>if u=t then some y else none
 |.v .nilIface,true=>some (.tuple [zero,.v (.bool false)])
 |_,_=>none
theorem e4m{t:TypeId}{ok:Bool}{zero x a:AV}{K:AV->Prop}(he:e0u t ok zero x=some a)(hk:K a):a0h t ok zero x K:=by
 unfold e0u at he;split at he
 ·cases he;simp only[a0h];split
  ·rename_i hu;rw[if_pos hu]at hk;exact hk
  ·rename_i hu;rw[if_neg hu]at hk;exact⟨by simp,hk⟩
 ·split at he
  ·rename_i hu;cases he;simp only[a0h];rw[if_pos hu];exact hk
  ·cases he
 ·cases he;exact⟨rfl,hk⟩
 ·cases he
def d49(i:Nat)(x:AV):Option AV:=
 match x with
 |.tuple vs=>vs[i]?
 |_=>none
theorem e0a{i:Nat}{x a:AV}{K:AV->Prop}(he:d49 i x=some a)(hk:K a):b8u i x K:=by
 unfold d49 at he;split at he
 ·simp only[b8u,he];exact hk
 ·cases he
def h0n(str:Bool)(x:AV):Option AV:=
 match str,x with
 |true,.v (.string s)=>some (.v (.int .i64 s.data.toList.length))
 |false,.nil=>some (.v (.int .i64 0))
 |false,.sl els _=>some (.v (.int .i64 els.length))
 |false,.row _ _ _ len _=>some (.v (.int .i64 len))
 |_,_=>none
theorem f86{s:Bool}{x a:AV}{K:AV->Prop}(he:h0n s x=some a)(hk:K a):d3y s x K:=by
 unfold h0n at he;split at he
 ·cases he;rename_i s;have hs:s.data.toList.length=s.size:=Array.length_toList;rw[hs]at hk;exact hk
 ·cases he;exact hk
 ·cases he;exact hk
 ·cases he;exact hk
 ·cases he
def g8l(h:A4)(size bytes:Nat)(x y:AV):Option (AV × A4):=
 (c65 h size y).bind fun ys=>if d2m size ys=true then
  match x with
  |.nil=>if ys.length*bytes<=140737488355328 then some (.sl ys (.own h.bufs.length),⟨h.blks,h.bufs++[(ys.length,size)],h.globs⟩) else none
  |.sl els .full=>if d2m size els=true/\(els.length+ys.length)*bytes<=140737488355328 then some (.sl (els++ys) (.own h.bufs.length),⟨h.blks,h.bufs++[(els.length+ys.length,size)],h.globs⟩) else none
  |.sl els (.own id)=>if d2m size els=true/\h.bufs[id]? =some (els.length,size)/\(els.length+ys.length)*bytes<=140737488355328 then some (.sl (els++ys) (.own id),⟨h.blks,h.bufs.set id (els.length+ys.length,size),h.globs⟩) else none
  |.row n off sz len cap=>if sz=size/\(len+ys.length)*bytes<=140737488355328 then match h.blks[n]? with
   |some (some cells)=>if a8s cells=true/\off+len*size<=cells.length then
    if len+ys.length<=cap then some (.row n off size (len+ys.length) cap,⟨h.blks.set n (some (cells.take (off+len*size)++ys.flatten++cells.drop (off+len*size+ys.flatten.length))),h.bufs,h.globs⟩)
    else if off=0/\cells.length=len*size then some (.row h.blks.length 0 size (len+ys.length) (len+ys.length),⟨h.blks.set n (some [])++[some (cells++ys.flatten)],h.bufs,h.globs⟩) else none
    else none
   |_=>none
   else none
  |_=>none
 else none
theorem e9d{h h':A4}{size bytes:Nat}{x y a:AV}{K:AV->A4->Prop}(he:g8l h size bytes x y=some (a,h'))(hk:K a h'):b4n h size bytes x y K:=by
 simp only[g8l,Option.bind_eq_some_iff]at he;obtain⟨ys,h1,h2⟩:=he;simp only[b4n,h1];split at h2
 ·rename_i hs;refine⟨b4q hs,?_⟩;split at h2
  ·split at h2
   ·rename_i hc;cases h2;exact⟨hc,hk⟩
   ·cases h2
  ·split at h2
   ·rename_i hc;cases h2;exact⟨b4q hc.1,hc.2,hk⟩
   ·cases h2
  ·split at h2
   ·rename_i hc;cases h2;exact⟨b4q hc.1,hc.2.1,hc.2.2,hk⟩
   ·cases h2
  ·split at h2
   ·rename_i hc;refine⟨hc.1,hc.2,?_⟩;split at h2
    ·rename_i hb;simp only[hb];split at h2
     ·rename_i hin;refine⟨hin,?_⟩;split at h2
      ·rename_i hl;cases h2;rw[if_pos hl];exact hk
      ·rename_i hl;rw[if_neg hl];split at h2
       ·rename_i hw;cases h2;exact⟨hw,hk⟩
       ·cases h2
     ·cases h2
    ·cases h2
   ·cases h2
  ·cases h2
 ·cases h2
def g0x(h:A4)(size bytes:Nat)(x y:AV):Option (AV × A4):=
 (c65 h size y).bind fun ys=>if d2m size ys=true/\ys.length≠0 then
  match x with
  |.nil=>if ys.length*bytes<=140737488355328 then some (.row h.blks.length 0 size ys.length ys.length,⟨h.blks++[some ys.flatten],h.bufs,h.globs⟩) else none
  |.sl els .full=>if d2m size els=true/\(els.length+ys.length)*bytes<=140737488355328 then some (.row h.blks.length 0 size (els.length+ys.length) (els.length+ys.length),⟨h.blks++[some (els.flatten++ys.flatten)],h.bufs,h.globs⟩) else none
  |_=>none
 else none
theorem f45{h h':A4}{size bytes:Nat}{x y a:AV}{K:AV->A4->Prop}(he:g0x h size bytes x y=some (a,h'))(hk:K a h'):b58 h size bytes x y K:=by
 simp only[g0x,Option.bind_eq_some_iff]at he;obtain⟨ys,h1,h2⟩:=he;simp only[b58,h1];split at h2
 ·rename_i hs;refine⟨⟨b4q hs.1,fun hn=>hs.2 (by rw[hn];rfl)⟩,?_⟩;split at h2
  ·split at h2
   ·rename_i hc;cases h2;exact⟨hc,hk⟩
   ·cases h2
  ·split at h2
   ·rename_i hc;cases h2;exact⟨b4q hc.1,hc.2,hk⟩
   ·cases h2
  ·cases h2
 ·cases h2
abbrev d07:=FuncId->List AV->A4->Option (AV × A4)
def d3q(h:A4)(o:Option AV):Option (AV × A4):=o.map fun a=>(a,h)
def g1i(h:A4)(size bytes:Nat)(zero:List AV)(x y:AV):Option (AV × A4):=
 match x,y with
 |.v (.int _ l),.v (.int _ c)=>if 0<=l/\l<=c/\c*bytes<=140737488355328 then some (.row h.blks.length 0 size l.toNat c.toNat,⟨h.blks++[some (a5i size c.toNat zero)],h.bufs,h.globs⟩) else none
 |_,_=>none
theorem f4y{h h':A4}{size bytes:Nat}{zero:List AV}{x y a:AV}{K:AV->A4->Prop}(he:g1i h size bytes zero x y=some (a,h'))(hk:K a h'):g3m h size bytes zero x y K:=by
 unfold g1i at he;split at he
 ·split at he
  ·rename_i hc;cases he;exact⟨hc,hk⟩
  ·cases he
 ·cases he
def e8h(h:A4)(x:AV):Option (AV × A4):=
 match x with
 |.v (.string s)=>some (.ptr h.blks.length 0,⟨h.blks++[some [.it s 0]],h.bufs,h.globs⟩)
 |_=>none
theorem e9l{h h':A4}{x a:AV}{K:AV->A4->Prop}(he:e8h h x=some (a,h'))(hk:K a h'):f0d h x K:=by
 unfold e8h at he;split at he
 ·cases he;exact hk
 ·cases he
def g2z(h:A4)(x:AV):Option (AV × A4):=
 match x with
 |.ptr n 0=>match h.blks[n]? with
  |some (some [.it s p])=>if p<s.data.toList.length then some (.tuple [.v (.bool true),.v (.int .i64 p),.v (.int .i32 (Utf8.decode s p).1)],⟨h.blks.set n (some [.it s (p+(Utf8.decode s p).2)]),h.bufs,h.globs⟩) else some (.tuple [.v (.bool false)],h)
  |_=>none
 |_=>none
theorem f59{h h':A4}{x a:AV}{K:AV->A4->Prop}(he:g2z h x=some (a,h'))(hk:K a h'):c6y h x K:=by
 unfold g2z at he;unfold c6y;split at he
 ·split at he
  ·rename_i s p hb;have hs:s.data.toList.length=s.size:=Array.length_toList;rw[hs]at he;simp only[hb];split at he
   ·rename_i hp;cases he;exact⟨fun _=>hk,fun h=>absurd hp h⟩
   ·rename_i hp;cases he;exact⟨fun h=>absurd h hp,fun _=>hk⟩
  ·cases he
 ·cases he
def e5u(md:Bool)(call:d07)(o:AOp)(env:Env)(h:A4):Option (AV × A4):=
 match o with
 |.mv x=>d3q h (x.ev env)
 |.pick c a b=>(c.ev env).bind fun c=>match c with
  |.v (.bool true)=>d3q h (a.ev env)
  |.v (.bool false)=>d3q h (b.ev env)
  |_=>none
 |.alloc cells=>some (.ptr h.blks.length 0,⟨h.blks++[some cells],h.bufs,h.globs⟩)
 |.box x=>(x.ev env).bind fun a=>if a.isTuple=false then some (.ptr h.blks.length 0,⟨h.blks++[some a.cells],h.bufs,h.globs⟩) else none
 |.build zero parts=>(evp env parts).bind fun ps=>(d2v zero ps).map fun cells=>(.agg cells,h)
 |.sliceLit size len zeros parts=>(evp env parts).bind fun ps=>(d2v zeros ps).bind fun cells=>if cells.length=len*size then some (.sl (c7z size len (cells.map wk1)) .full,h) else none
 |.load n x=>(x.ev env).bind fun p=>d3q h (c18 h n p)
 |.store size p x=>(p.ev env).bind fun p=>(x.ev env).bind fun x=>(d9m h size p x).map fun h'=>(.tuple [],h')
 |.nilCheck x=>(x.ev env).bind fun a=>match a with
  |.ptr n o=>some (.ptr n o,h)
  |.elt l o=>some (.elt l o,h)
  |.clo (.func f) l r=>some (.clo (.func f) l r,h)
  |_=>none
 |.bin op x y=>(x.ev env).bind fun x=>(y.ev env).bind fun y=>d3q h (e0e op x y)
 |.eq c yes x y=>(x.ev env).bind fun x=>(y.ev env).bind fun y=>(eqF c x y).map fun b=>(.v (.bool (if yes then b else !b)),h)
 |.un op x=>(x.ev env).bind fun x=>d3q h (unF op x)
 |.conv c x=>(x.ev env).bind fun x=>d3q h (g09 c x)
 |.iface t x=>(x.ev env).map fun a=>(.iface t a,h)
 |.func fn first captured=>(evs env first).bind fun f=>(evs env captured).map fun c=>(.clo fn f c,h)
 |.sliceS x lo hi=>(x.ev env).bind fun x=>(evo env lo).bind fun lo=>(evo env hi).bind fun hi=>d3q h (h3a x lo hi)
 |.sliceV size x lo hi mx=>(x.ev env).bind fun x=>(evo env lo).bind fun lo=>(evo env hi).bind fun hi=>(evo env mx).bind fun mx=>d3q h (h0z size x lo hi mx)
 |.fieldAddr off x=>(x.ev env).bind fun x=>d3q h (f5y off x)
 |.field n off x=>(x.ev env).bind fun x=>d3q h (f5n n off x)
 |.idxS x i=>(x.ev env).bind fun x=>(i.ev env).bind fun i=>d3q h (f9x x i)
 |.idxV len size n x i=>(x.ev env).bind fun x=>(i.ev env).bind fun i=>d3q h (g14 len size n x i)
 |.idxSl size x i=>(x.ev env).bind fun x=>(i.ev env).bind fun i=>d3q h (h3g size x i)
 |.idxA len size x i=>(x.ev env).bind fun x=>(i.ev env).bind fun i=>d3q h (g03 len size x i)
 |.assertT t ok zero x=>(x.ev env).bind fun x=>d3q h (e0u t ok zero x)
 |.extract i x=>(x.ev env).bind fun x=>d3q h (d49 i x)
 |.len str x=>(x.ev env).bind fun x=>d3q h (h0n str x)
 |.append size bytes x y=>(x.ev env).bind fun x=>(y.ev env).bind fun y=>if md=true/\size≠1 then(match g0x h size bytes x y with|some r=>some r|none=>g8l h size bytes x y) else g8l h size bytes x y
 |.call f args=>(f.ev env).bind fun f=>(evs env args).bind fun l=>match f with
  |.clo (.func g) first captured=>call g (first++l++captured) h
  |_=>none
 |.bytes x=>(x.ev env).bind fun x=>match x with
  |.v (.string s)=>some (.sl (Z6 s.data.toList) (.own h.bufs.length),⟨h.blks,h.bufs++[(s.data.toList.length,1)],h.globs⟩)
  |_=>none
 |.minmax mx args=>(evs env args).bind fun l=>(mmx mx l).map fun v=>(.v v,h)
 |.make size bytes zero x y=>(x.ev env).bind fun x=>(y.ev env).bind fun y=>g1i h size bytes zero x y
 |.range x=>(x.ev env).bind fun x=>e8h h x
 |.next x=>(x.ev env).bind fun x=>g2z h x
def f7w(P:Program)(call:d07):Prop:=∀f args h a h',call f args h=some (a,h')->∀K:AV->A4->Prop,K a h'->c4a P f args h K
theorem E6{h h':A4}{o:Option AV}{a:AV}(he:d3q h o=some (a,h')):o=some a/\h'=h:=by
 unfold d3q at he;simp only[Option.map_eq_some_iff,Prod.mk.injEq]at he;obtain⟨b,h1,rfl,rfl⟩:=he;exact⟨h1,rfl⟩
theorem d9t{P:Program}{md:Bool}{call:d07}(hc:f7w P call){o:AOp}{env:Env}{h h':A4}{a:AV}{K:AV->A4->Prop}(he:e5u md call o env h=some (a,h'))(hk:K a h'):aop P o env h K:=by
 cases o<;>simp only[e5u,Option.bind_eq_some_iff,Option.map_eq_some_iff]at he<;>simp only[aop]
 case mv x=>obtain⟨h1,rfl⟩:=E6 he;simp only[h1,wv];exact hk
 case pick c x y=>
  obtain⟨cv,h1,h2⟩:=he;simp only[h1,wv];split at h2
  ·obtain⟨h3,rfl⟩:=E6 h2;simp only[c7h,h3];exact⟨fun _=>hk,fun h=>by cases h⟩
  ·obtain⟨h3,rfl⟩:=E6 h2;simp only[c7h,h3];exact⟨(fun h=>by cases h),fun _=>hk⟩
  ·cases h2
 case alloc cells=>cases he;exact hk
 case box x=>
  obtain⟨b,h1,h2⟩:=he;split at h2
  ·rename_i ht;cases h2;simp only[h1,wv];exact⟨ht,hk⟩
  ·cases h2
 case build z ps=>
  obtain⟨q,h1,cells,h2,h3⟩:=he;cases h3;simp only[h1,h2];exact hk
 case sliceLit s l z ps=>
  obtain⟨q,h1,cells,h2,h3⟩:=he;split at h3
  ·rename_i hl;cases h3;simp only[h1,h2];exact⟨hl,hk⟩
  ·cases h3
 case load n x=>obtain⟨p,h1,h2⟩:=he;obtain⟨h3,rfl⟩:=E6 h2;simp only[h1,wv];exact c52 h3 hk
 case store n p x=>obtain⟨p,h1,x,h2,h3,h4,h5⟩:=he;cases h5;simp only[h1,h2,wv];exact e5f h4 hk
 case nilCheck x=>
  obtain⟨b,h1,h2⟩:=he;simp only[h1,wv,g20];split at h2<;>first|(cases h2;exact hk)|(cases h2;done)
 case bin op x y=>obtain⟨x,h1,y,h2,h3⟩:=he;obtain⟨h4,rfl⟩:=E6 h3;simp only[h1,h2,wv];exact e5g h4 hk
 case eq c yes x y=>obtain⟨x,h1,y,h2,b,h3,h4⟩:=he;cases h4;simp only[h1,h2,wv];exact g5b h3 hk
 case un op x=>obtain⟨x,h1,h3⟩:=he;obtain⟨h4,rfl⟩:=E6 h3;simp only[h1,wv];exact g6f h4 hk
 case conv c x=>obtain⟨x,h1,h3⟩:=he;obtain⟨h4,rfl⟩:=E6 h3;simp only[h1,wv];exact f4a h4 hk
 case iface t x=>obtain⟨x,h1,h3⟩:=he;cases h3;simp only[h1,wv];exact hk
 case func fn f c=>obtain⟨x,h1,y,h2,h3⟩:=he;cases h3;simp only[h1,h2];exact hk
 case sliceS x lo hi=>obtain⟨x,h1,lo,h2,hi,h3,h4⟩:=he;obtain⟨h5,rfl⟩:=E6 h4;simp only[h1,h2,h3,wv];exact g21 h5 hk
 case sliceV s x lo hi mx=>obtain⟨x,h1,lo,h2,hi,h3,mx,h4,h5⟩:=he;obtain⟨h6,rfl⟩:=E6 h5;simp only[h1,h2,h3,h4,wv];exact g1z h6 hk
 case fieldAddr off x=>obtain⟨x,h1,h3⟩:=he;obtain⟨h4,rfl⟩:=E6 h3;simp only[h1,wv];exact e11 h4 hk
 case field n off x=>obtain⟨x,h1,h3⟩:=he;obtain⟨h4,rfl⟩:=E6 h3;simp only[h1,wv];exact e1e h4 hk
 case idxS x y=>obtain⟨x,h1,y,h2,h3⟩:=he;obtain⟨h4,rfl⟩:=E6 h3;simp only[h1,h2,wv];exact f32 h4 hk
 case idxV l s n x y=>obtain⟨x,h1,y,h2,h3⟩:=he;obtain⟨h4,rfl⟩:=E6 h3;simp only[h1,h2,wv];exact f5s h4 hk
 case idxSl s x y=>obtain⟨x,h1,y,h2,h3⟩:=he;obtain⟨h4,rfl⟩:=E6 h3;simp only[h1,h2,wv];exact f9y h4 hk
 case idxA l s x y=>obtain⟨x,h1,y,h2,h3⟩:=he;obtain⟨h4,rfl⟩:=E6 h3;simp only[h1,h2,wv];exact f3g h4 hk
 case assertT t ok z x=>obtain⟨x,h1,h3⟩:=he;obtain⟨h4,rfl⟩:=E6 h3;simp only[h1,wv];exact e4m h4 hk
 case extract i x=>obtain⟨x,h1,h3⟩:=he;obtain⟨h4,rfl⟩:=E6 h3;simp only[h1,wv];exact e0a h4 hk
 case len s x=>obtain⟨x,h1,h3⟩:=he;obtain⟨h4,rfl⟩:=E6 h3;simp only[h1,wv];exact f86 h4 hk
 case append s t x y=>
  obtain⟨x,h1,y,h2,h3⟩:=he;simp only[h1,h2,wv];split at h3
  ·split at h3
   ·rename_i r hr;cases h3;exact .inr (f45 hr hk)
   ·exact .inl (e9d h3 hk)
  ·exact .inl (e9d h3 hk)
 case call f args=>
  obtain⟨fv,h1,l,h2,h3⟩:=he;simp only[h1,h2,wv];split at h3
  ·exact hc _ _ _ _ _ h3 K hk
  ·cases h3
 case bytes x=>
  obtain⟨x,h1,h2⟩:=he;simp only[h1,wv];split at h2
  ·cases h2;exact hk
  ·cases h2
 case minmax mx l=>obtain⟨x,h1,v,h2,h3⟩:=he;cases h3;simp only[h1,h2,d8n];exact hk
 case make s t z x y=>obtain⟨x,h1,y,h2,h3⟩:=he;simp only[h1,h2,wv];exact f4y h3 hk
 case range x=>obtain⟨x,h1,h2⟩:=he;simp only[h1,wv];exact e9l h2 hk
 case next x=>obtain⟨x,h1,h2⟩:=he;simp only[h1,wv];exact f59 h2 hk
def W7(env:Env)(g:Option (Nat × Bool)):Option Bool:=
 match g with
 |none=>some true
 |some (t,want)=>(get env t).bind fun v=>match v with
  |.v (.bool b)=>some (b==want)
  |.tuple []=>some false
  |_=>none
theorem d0k{env:Env}{g:Option (Nat × Bool)}{b:Bool}{y n:Prop}(he:W7 env g=some b)(hk:if b=true then y else n):c5s env g y n:=by
 cases g with
 |none=>cases he;exact hk
 |some p=>
  obtain⟨t,want⟩:=p;simp only[W7,Option.bind_eq_some_iff]at he;obtain⟨v,h1,h2⟩:=he;simp only[c5s,h1,wv];split at h2
  ·rename_i c;cases h2;simp only;cases c<;>cases want
   ·exact⟨fun _=>hk,fun h=>by cases h⟩
   ·exact⟨(fun h=>by cases h),fun _=>hk⟩
   ·exact⟨(fun h=>by cases h),fun _=>hk⟩
   ·exact⟨fun _=>hk,fun h=>by cases h⟩
  ·cases h2;exact hk
  ·cases h2
def d8w(md:Bool)(call:d07):List D5->Env->A4->Option (Env × A4)
 |[],env,h=>some (env,h)
 |o::r,env,h=>(W7 env o.guard).bind fun b=>match b with
  |true=>(e5u md call o.op env h).bind fun p=>d8w md call r (b8h env o.dst p.1) p.2
  |false=>d8w md call r (b82 env o.dst) h
def a05:AOp->Bool
 |.alloc _|.box _|.store _ _ _|.append _ _ _ _|.bytes _|.make _ _ _ _ _|.range _|.next _=>false
 |_=>true
theorem e5c{md:Bool}{call:d07}(hq:∀f args h a h',call f args h=some (a,h')->h'=h){o:AOp}{env:Env}{h h':A4}{a:AV}(ho:a05 o=true)(he:e5u md call o env h=some (a,h')):h'=h:=by
 cases o<;>simp only[e5u,Option.bind_eq_some_iff,Option.map_eq_some_iff]at he<;>(try (cases ho;done))
 case mv x=>exact(E6 he).2
 case pick c x y=>obtain⟨cv,h1,h2⟩:=he;split at h2<;>first|exact(E6 h2).2|cases h2
 case build z ps=>obtain⟨q,h1,cells,h2,h3⟩:=he;cases h3;rfl
 case sliceLit s l z ps=>
  obtain⟨q,h1,cells,h2,h3⟩:=he;split at h3<;>cases h3;rfl
 case load n x=>obtain⟨p,h1,h2⟩:=he;exact(E6 h2).2
 case nilCheck x=>obtain⟨b,h1,h2⟩:=he;split at h2<;>cases h2<;>rfl
 case bin op x y=>obtain⟨x,h1,y,h2,h3⟩:=he;exact(E6 h3).2
 case eq c yes x y=>obtain⟨x,h1,y,h2,b,h3,h4⟩:=he;cases h4;rfl
 case un op x=>obtain⟨x,h1,h3⟩:=he;exact(E6 h3).2
 case conv c x=>obtain⟨x,h1,h3⟩:=he;exact(E6 h3).2
 case iface t x=>obtain⟨x,h1,h3⟩:=he;cases h3;rfl
 case func fn f c=>obtain⟨x,h1,y,h2,h3⟩:=he;cases h3;rfl
 case sliceS x lo hi=>obtain⟨x,h1,lo,h2,hi,h3,h4⟩:=he;exact(E6 h4).2
 case sliceV s x lo hi mx=>obtain⟨x,h1,lo,h2,hi,h3,mx,h4,h5⟩:=he;exact(E6 h5).2
 case fieldAddr off x=>obtain⟨x,h1,h3⟩:=he;exact(E6 h3).2
 case field n off x=>obtain⟨x,h1,h3⟩:=he;exact(E6 h3).2
 case idxS x y=>obtain⟨x,h1,y,h2,h3⟩:=he;exact(E6 h3).2
 case idxV l s n x y=>obtain⟨x,h1,y,h2,h3⟩:=he;exact(E6 h3).2
 case idxSl s x y=>obtain⟨x,h1,y,h2,h3⟩:=he;exact(E6 h3).2
 case idxA l s x y=>obtain⟨x,h1,y,h2,h3⟩:=he;exact(E6 h3).2
 case assertT t ok z x=>obtain⟨x,h1,h3⟩:=he;exact(E6 h3).2
 case extract i x=>obtain⟨x,h1,h3⟩:=he;exact(E6 h3).2
 case len s x=>obtain⟨x,h1,h3⟩:=he;exact(E6 h3).2
 case call f args=>
  obtain⟨fv,h1,l,h2,h3⟩:=he;split at h3
  ·exact hq _ _ _ _ _ h3
  ·cases h3
 case minmax mx l=>obtain⟨x,h1,v,h2,h3⟩:=he;cases h3;rfl
def d66:AOp->Bool
 |.alloc _|.box _|.store _ _ _|.append _ _ _ _|.bytes _|.make _ _ _ _ _|.range _|.next _|.load _ _|.call _ _=>false
 |_=>true
theorem e2c{P:Program}{o:AOp}(hp:d66 o=true){env:Env}{h h':A4}{K:AV->A4->Prop}:aop P o env h K=aop P o env h' fun a _=>K a h:=by
 cases o<;>first|rfl|(cases hp;done)
theorem d6h{P:Program}{o:AOp}(hp:d66 o=true){env:Env}{h h':A4}{av:AV}(hq:d7l P o env h av):d7l P o env h' av:=by
 unfold d7l at hq ⊢;rw[e2c (h':=h') hp]at hq;rw[e2c (h':=h') hp];have:(fun(a:AV) (_:A4)=>a=av/\h=h)=fun(a:AV) (_:A4)=>a=av/\h'=h':=by funext a b;simp
 rw[this]at hq;exact hq
def b7x(P:Program)(F:Env)(hs:List A4)(j c:Nat)(o:D5):Option Nat->Prop
 |some n=>∃av h h',hs[n - j]? =some h/\hs[n - j+1]? =some h'/\aop P o.op F h (fun a b=>a=av/\b=h')/\∀d,o.dst=some d->get F d=some av
 |none=>∃av h0,hs[c]? =some h0/\d7l P o.op F h0 av/\a05 o.op=true/\∀d,o.dst=some d->get F d=some av
def c9g(P:Program)(F:Env)(hs:List A4)(j c:Nat)(o:D5)(n:Option Nat):Prop:=
 let skip:=n=none/\∀d,o.dst=some d->get F d=some (.tuple [])
 match o.guard with
 |none=>b7x P F hs j c o n
 |some (t,want)=>(∃b,get F t=some (.v (.bool b))/\(b=want->b7x P F hs j c o n)/\(b≠want->skip))\/(get F t=some (.tuple [])/\skip)
theorem b7x.shift{P:Program}{F:Env}{hs:List A4}{j c:Nat}{o:D5}{n:Option Nat}{h:A4}(hb:∀m,n=some m->j+1<=m)(hd:b7x P F hs (j+1) c o n):b7x P F (h::hs) j (c+1) o n:=by
 cases n with
 |none=>
  obtain⟨av,h0,h1,h2⟩:=hd;exact⟨av,h0,by simpa using h1,h2⟩
 |some m=>
  obtain⟨av,h1,h2,e1,e2,h3⟩:=hd;have:=hb m rfl;refine⟨av,h1,h2,?_,?_,h3⟩
  ·rw[show m - j=(m - (j+1))+1 by omega];simpa using e1
  ·rw[show m - j=(m - (j+1))+1 by omega];simpa using e2
theorem c9g.shift{P:Program}{F:Env}{hs:List A4}{j c:Nat}{o:D5}{n:Option Nat}{h:A4}(hb:∀m,n=some m->j+1<=m)(hd:c9g P F hs (j+1) c o n):c9g P F (h::hs) j (c+1) o n:=by
 unfold c9g at hd ⊢;split at hd
 ·exact b7x.shift hb hd
 ·rcases hd with⟨b,h1,h2,h3⟩|hd
  ·exact .inl ⟨b,h1,fun hb'=>b7x.shift hb (h2 hb'),h3⟩
  ·exact .inr hd
def f9d:Env->Env
 |[]=>[]
 |(t,a)::e=>(t,a)::drop t (f9d e)
def c7t(env:Env)(h:A4):List c06->Option (List AV)
 |[]=>some []
 |.tmp t::r=>(get env t).bind fun a=>(c7t env h r).map fun l=>a::l
 |.cell t n::r=>(get env t).bind fun p=>(c18 h n p).bind fun a=>(c7t env h r).map fun l=>a::l
theorem c0k{env:Env}{h:A4}:∀{rs:List c06}{l:List AV}{K:List AV->Prop},c7t env h rs=some l->K l->d5a env h rs K
 |[],l,K,he,hk=>by cases he;exact hk
 |.tmp t::r,l,K,he,hk=>by
  simp only[c7t,Option.bind_eq_some_iff,Option.map_eq_some_iff]at he;obtain⟨a,h1,l',h2,rfl⟩:=he;simp only[d5a,h1,wv];exact c0k (K:=fun l=>K (a::l)) h2 hk
 |.cell t n::r,l,K,he,hk=>by
  simp only[c7t,Option.bind_eq_some_iff,Option.map_eq_some_iff]at he;obtain⟨p,h1,a,h2,l',h3,rfl⟩:=he;simp only[d5a,h1,wv];exact c52 (K:=fun a=>d5a env h r fun l=>K (a::l)) h2 (c0k (K:=fun l=>K (a::l)) h3 hk)
def c57(o:D5):Bool:=match o.op,o.guard with
 |.alloc _,none=>true
 |_,_=>false
def b97(o:D5):Bool:= !a05 o.op&& !c57 o
theorem g67{P:Program}{env:Env}{h:A4}{K:AV->A4->Prop}{x y:K4}{k k':IntKind}{a b:Int}(hx:x.ev env=some (.v (.int k a)))(hy:y.ev env=some (.v (.int k' b)))(hk:K (.v (.int k (if b<a then b else a))) h):A P (.minmax false [x,y]) env h K:=
 c83 (l:=[.v (.int k a),.v (.int k' b)]) (v:=.int k (if b<a then b else a)) (by simp[evs,hx,hy]) (by simp[mmx]) hk
theorem g6i{P:Program}{env:Env}{h:A4}{K:AV->A4->Prop}{x y:K4}{k k':IntKind}{a b:Int}(hx:x.ev env=some (.v (.int k a)))(hy:y.ev env=some (.v (.int k' b)))(hk:K (.v (.int k (if a<b then b else a))) h):A P (.minmax true [x,y]) env h K:=
 c83 (l:=[.v (.int k a),.v (.int k' b)]) (v:=.int k (if a<b then b else a)) (by simp[evs,hx,hy]) (by simp[mmx]) hk
def nz1:AV->AV
 |.nil=>.sl [] .no
 |.sl els _=>.sl els .no
 |x=>x
def nzA:AV->AV
 |.agg cs=>.agg (cs.map nz1)
 |x=>nz1 x
def nz:AV->AV
 |.tuple vs=>.tuple (vs.map nzA)
 |x=>nzA x
theorem e2w(av:AV):(nz1 av).isCell=av.isCell:=by cases av<;>rfl
theorem Rel.nz1{σ:Sg}{av:AV}{x:Value}(hr:Rel σ av x):Rel σ (nz1 av) x:=by
 cases av with
 |nil=>cases hr;exact .sl0 _ trivial
 |sl els tok=>
  show Rel σ (.sl els .no) x;cases hr with
  |sl0 _ _=>exact .sl0 _ trivial
  |slx _ a cap _ _=>exact .slx _ a cap trivial (.inl rfl)
  |sl _ _ b o cap size xs hs hcap ht hz hc hr=>exact .sl _ _ b o cap size xs hs hcap trivial (fun id e h=>by cases h) hc hr
 |_=>exact hr
theorem F3.nz{σ:Sg}{cells:List AV}{vs:List Value}(hc:F3 σ cells vs):F3 σ (cells.map nz1) vs:=by
 refine⟨by simp[hc.1],fun i av hi=>?_⟩;simp only[List.getElem?_map,Option.map_eq_some_iff]at hi;obtain⟨b,hb,rfl⟩:=hi;obtain⟨h1,x,h2,h3⟩:=hc.2 i b hb;exact⟨by rw[e2w];exact h1,x,h2,h3.nz1⟩
theorem Rel.nzA{σ:Sg}{av:AV}{x:Value}(hr:Rel σ av x):Rel σ (nzA av) x:=by
 unfold Lift.nzA;split
 ·obtain⟨xs,rfl,hc⟩:=hr.agg_inv;exact Rel.agg_mk' hc.nz
 ·exact hr.nz1
theorem Rel.nz{σ:Sg}{av:AV}{x:Value}(hr:Rel σ av x):Rel σ (nz av) x:=by
 unfold Lift.nz;split
 ·cases hr with
  |tuple vs xs hn y hx hr=>
   refine .tuple _ _ (by simp[hn]) y (fun i av hi=>?_) (fun i av hi=>?_)
   ·simp only[List.getElem?_map,Option.map_eq_some_iff]at hi;obtain⟨b,hb,rfl⟩:=hi;exact hx i b hb
   ·simp only[List.getElem?_map,Option.map_eq_some_iff]at hi;obtain⟨b,hb,rfl⟩:=hi;exact(hr i b hb).nzA
 ·exact hr.nzA
theorem f1e(a:AV)(h:plain (nz1 a)=true):plain (wk1 a)=true:=by
 cases a with
 |sl els tok=>cases tok<;>simpa[nz1,wk1,plain]using h
 |_=>first|rfl|exact h
theorem d69:∀(l:List AV),plainL (l.map nz1)=true->plainL (l.map wk1)=true
 |[],_=>rfl
 |a::r,h=>by
  simp only[List.map_cons,plainL,Bool.and_eq_true]at h ⊢;exact⟨f1e a h.1,d69 r h.2⟩
theorem c9i(a:AV)(h:plain (nzA a)=true):plain (wkA a)=true:=by
 cases a with
 |agg cs=>simp only[nzA,wkA,plain]at h ⊢;exact d69 cs h
 |sl els tok=>cases tok<;>simpa[nzA,wkA,nz1,wk1,plain]using h
 |_=>first|rfl|exact h
theorem d21:∀(l:List AV),plainL (l.map nzA)=true->plainL (l.map wkA)=true
 |[],_=>rfl
 |a::r,h=>by
  simp only[List.map_cons,plainL,Bool.and_eq_true]at h ⊢;exact⟨c9i a h.1,d21 r h.2⟩
theorem f52(a:AV)(h:plain (nz a)=true):plain (wk a)=true:=by
 cases a with
 |tuple vs=>simp only[nz,wk,plain]at h ⊢;exact d21 vs h
 |agg cs=>exact c9i (.agg cs) h
 |sl els tok=>exact c9i (.sl els tok) h
 |_=>first|rfl|exact h
theorem g7a(a:AV):nz1 (wk1 a)=nz1 a:=by
 cases a with
 |sl els tok=>cases tok<;>rfl
 |_=>rfl
theorem f7p(a:AV):nzA (wkA a)=nzA a:=by
 cases a with
 |agg cs=>simp only[wkA,nzA,List.map_map];congr 1;exact List.map_congr_left fun x _=>g7a x
 |sl els tok=>cases tok<;>rfl
 |_=>rfl
theorem h0i(a:AV):nz (wk a)=nz a:=by
 cases a with
 |tuple vs=>simp only[wk,nz,List.map_map];congr 1;exact List.map_congr_left fun x _=>f7p x
 |agg cs=>exact f7p (.agg cs)
 |sl els tok=>cases tok<;>rfl
 |_=>rfl
def B8(P:Program)(gl:List (Nat × List AV))(f:FuncId)(args:List AV)(r:AV):Prop:=g51 P gl f args fun a=>nz a=r
theorem c9p{P:Program}{f:FuncId}{args args':List AV}{r:AV}{h:A4}{K:AV->A4->Prop}(hf:B8 P h.globs f args r)(hgl:X3 h.globs=true)(ha:args'.map nz=args)(hp:plainL args=true)(hk:K r h):c4a P f args' h K:=by
 refine⟨hf.1,fun σ cargs hi hr=>?_⟩
 have hopen:∀b o,σ.open_ b o->b<σ.w.heap.size:=by
  rintro b o (ho|⟨n,hn⟩|⟨id,e,he,hs⟩)
  ·exact(hi.outer b o ho).1
  ·exact hi.lt hn
  ·obtain⟨v,hv⟩:=Option.isSome_iff_exists.1 (hi.bufat id e b o he hs).1;exact a4d hv
 have hrels:d2c (bare σ.w σ.open_) args cargs.toList:=by
  refine⟨by rw[hr.1,<-ha];simp,fun i av hav=>?_⟩;have hav':=hav;rw[<-ha]at hav;simp only[List.getElem?_map,Option.map_eq_some_iff]at hav;obtain⟨b,hb,rfl⟩:=hav;obtain⟨x,h1,h2⟩:=hr.2 i b hb;exact⟨x,h1,h2.nz.down (U9 hp i _ hav') rfl fun _ _ h=>h⟩
 have hglobs:e8b σ.w σ.open_ h.globs:=fun g cells hg=>(hi.glob g cells hg).down (by simp only[plain];exact List.all_eq_true.1 hgl _ hg) rfl fun _ _ h=>h
 refine(hf.2 σ.w σ.open_ cargs hopen hglobs hrels).mono fun e w' hq=>?_
 obtain⟨av,x,rfl,hpast,hrel,hR⟩:=hq;exact⟨{σ with w:=w'},h,nz av,x,rfl,rfl,Le.world hpast,hi.world hpast,(hrel.nz).up (fun _=>rfl) (fun _=>rfl) rfl (fun b o ho=>.inl ho),by rw[hR];exact hk⟩
def g3b(rs:List c06)(r:AV):Exit->Env->A4->Prop
 |.normal,env,h=>d5a env h rs fun l=>plain (wk (d4x l))=true/\nz (wk (d4x l))=r
 |.ret,env,h=>d5a env h rs fun l=>plain (wk (d4x l))=true/\nz (wk (d4x l))=r
 |_,_,_=>False
section
variable {P:Program}{h h':A4}{env env':Env}{N:Nat}{Q:Exit->Env->A4->Prop}{K:Env->A4->Prop}{L:List D5}{k:Nat}
theorem g08{gl:List (Nat × List AV)}{f:FuncId}{ac:W3}{rs:List c06}(hf:b37 P f=some (N,ac,rs)){args:List AV}{r:AV}{e₀:Env}(hn:args.length<=N)(he:c2u 0 args=e₀)
  (hbody:C P N ac (g3b rs r) e₀ ⟨[],[],gl⟩):B8 P gl f args r:=by
 subst he;refine g0o hf hn (c4u hbody.out fun e env h hq=>?_);cases e<;>first|exact hq|exact hq.elim
theorem g82{rs:List c06}{r:AV}{l:List AV}(hl:c7t env h rs=some l)(hr:nz (d4x l)=r)(hp:plain r=true):g3b rs r .ret env h:=by
 refine c0k hl ⟨f52 _ (by rw[hr];exact hp),by rw[h0i];exact hr⟩
def a2g(P:Program)(o:AOp)(env:Env)(h:A4)(av:AV)(h':A4):Prop:=∀K:AV->A4->Prop,K av h'->aop P o env h K
theorem a2g.q{P:Program}{o:AOp}{env:Env}{h:A4}{av:AV}(hd:a2g P o env h av h):d7l P o env h av:=hd _ ⟨rfl,rfl⟩
def c33(e env:Env):Prop:=∀t a,get e t=some a->get env t=some a
theorem c33.put{e env:Env}(he:c33 e env)(d:Option Nat)(av:AV):c33 (b8h e d av) (b8h env d av):=by
 intro t a h;rw[b1t]at h ⊢;split at h
 ·rename_i hd;rw[if_pos hd];exact h
 ·rename_i hd;rw[if_neg hd];exact he t a h
theorem c33.drop{e env:Env}(he:c33 e env)(d:Option Nat):c33 (b82 e d) (b82 env d):=by
 intro t a h;rw[b3c]at h ⊢;split at h
 ·rename_i hd;rw[if_pos hd];exact h
 ·rename_i hd;rw[if_neg hd];exact he t a h
theorem c33.ev{e env:Env}(he:c33 e env){x:K4}{a:AV}(h:x.ev e=some a):x.ev env=some a:=by
 cases x with
 |t n=>exact he n a h
 |c b=>exact h
theorem c33.wv{e env:Env}(he:c33 e env){x:K4}{J J':AV->Prop}(hj:wv (x.ev e) J)(h:∀a,J a->J' a):wv (x.ev env) J':=by
 obtain⟨a,h1,h2⟩:=b64 hj;rw[he.ev h1];exact h a h2
theorem c33.evs{e env:Env}(he:c33 e env):∀{l:List K4}{r:List AV},evs e l=some r->evs env l=some r
 |[],r,h=>h
 |x::l,r,h=>by
  simp only[Lift.evs]at h ⊢;split at h
  ·rename_i a l' h1 h2;rw[he.ev h1,he.evs h2];exact h
  ·cases h
theorem c33.evp{e env:Env}(he:c33 e env):∀{l:List ((Nat × Nat) × K4)}{r:List ((Nat × Nat) × AV)},evp e l=some r->evp env l=some r
 |[],r,h=>h
 |(k,x)::l,r,h=>by
  simp only[Lift.evp]at h ⊢;split at h
  ·rename_i a l' h1 h2;rw[he.ev h1,he.evp h2];exact h
  ·cases h
theorem c33.evo{e env:Env}(he:c33 e env){x:Option K4}{r:Option AV}(h:evo e x=some r):evo env x=some r:=by
 cases x with
 |none=>exact h
 |some x=>
  simp only[Lift.evo]at h ⊢;split at h
  ·rename_i a h1;rw[he.ev h1];exact h
  ·cases h
theorem d5r{P:Program}{o:AOp}{e env:Env}(he:c33 e env){h:A4}{K:AV->A4->Prop}(ha:aop P o e h K):aop P o env h K:=by
 cases o<;>simp only[aop]at ha ⊢
 case mv=>exact he.wv ha fun _ h=>h
 case pick=>
  refine he.wv ha fun c hc=>?_
  unfold c7h at hc ⊢;split at hc
  ·exact⟨fun ht=>he.wv (hc.1 ht) fun _ h=>h,fun ht=>he.wv (hc.2 ht) fun _ h=>h⟩
  ·exact hc.elim
 case alloc=>exact ha
 case box=>exact he.wv ha fun _ h=>h
 case build=>
  split at ha
  ·rename_i ps h1;rw[he.evp h1];exact ha
  ·exact ha.elim
 case sliceLit=>
  split at ha
  ·rename_i ps h1;rw[he.evp h1];exact ha
  ·exact ha.elim
 case load=>exact he.wv ha fun _ h=>h
 case store=>exact he.wv ha fun _ h=>he.wv h fun _ h=>h
 case nilCheck=>exact he.wv ha fun _ h=>h
 case bin=>exact he.wv ha fun _ h=>he.wv h fun _ h=>h
 case eq=>exact he.wv ha fun _ h=>he.wv h fun _ h=>h
 case un=>exact he.wv ha fun _ h=>h
 case conv=>exact he.wv ha fun _ h=>h
 case iface=>exact he.wv ha fun _ h=>h
 case func=>
  split at ha
  ·rename_i f c h1 h2;rw[he.evs h1,he.evs h2];exact ha
  ·exact ha.elim
 case sliceS=>
  refine he.wv ha fun x hx=>?_
  split at hx
  ·rename_i lo hi h1 h2;rw[he.evo h1,he.evo h2];exact hx
  ·exact hx.elim
 case sliceV=>
  refine he.wv ha fun x hx=>?_
  split at hx
  ·rename_i lo hi mx h1 h2 h3;rw[he.evo h1,he.evo h2,he.evo h3];exact hx
  ·exact hx.elim
 case fieldAddr=>exact he.wv ha fun _ h=>h
 case field=>exact he.wv ha fun _ h=>h
 case idxS=>exact he.wv ha fun _ h=>he.wv h fun _ h=>h
 case idxV=>exact he.wv ha fun _ h=>he.wv h fun _ h=>h
 case idxSl=>exact he.wv ha fun _ h=>he.wv h fun _ h=>h
 case idxA=>exact he.wv ha fun _ h=>he.wv h fun _ h=>h
 case assertT=>exact he.wv ha fun _ h=>h
 case extract=>exact he.wv ha fun _ h=>h
 case len=>exact he.wv ha fun _ h=>h
 case append=>exact he.wv ha fun _ h=>he.wv h fun _ h=>h
 case call f args=>
  refine he.wv ha fun f hf=>?_
  unfold d8u at hf ⊢;split at hf
  ·rename_i g first captured l h1;rw[he.evs h1];exact hf
  ·exact hf.elim
 case bytes=>exact he.wv ha fun _ h=>h
 case minmax=>
  split at ha
  ·rename_i l h1;rw[he.evs h1];exact ha
  ·exact ha.elim
 case make=>exact he.wv ha fun _ h=>he.wv h fun _ h=>h
 case range=>exact he.wv ha fun _ h=>h
 case next=>exact he.wv ha fun _ h=>h
theorem a2g.less{P:Program}{o:AOp}{e env:Env}{h h':A4}{av:AV}(hd:a2g P o e h av h')(he:c33 e env):a2g P o env h av h':=fun K hk=>d5r he (hd K hk)
theorem c33.guard{e env:Env}(he:c33 e env){g:Option (Nat × Bool)}{b:Bool}(h:W7 e g=some b):W7 env g=some b:=by
 cases g with
 |none=>exact h
 |some p=>
  obtain⟨t,want⟩:=p;simp only[W7,Option.bind_eq_some_iff]at h ⊢;obtain⟨v,h1,h2⟩:=h;exact⟨v,he t v h1,h2⟩
def vd(P:Program):List D5->Env->A4->(Env->A4->Prop)->Prop
 |[],env,h,K=>K env h
 |o::r,env,h,K=>(W7 env o.guard=some false/\vd P r (b82 env o.dst) h K)\/(W7 env o.guard=some true/\∃av h',a2g P o.op env h av h'/\vd P r (b8h env o.dst av) h' K)\/
  (W7 env o.guard=some true/\∃S:AV->Prop,(∀K':AV->A4->Prop,(∀av,S av->K' av h)->aop P o.op env h K')/\∀av,S av->vd P r (b8h env o.dst av) h K)
theorem c6w{P:Program}:∀{l:List D5}{env:Env}{h:A4}{K:Env->A4->Prop},vd P l env h K->f2z P l env h K
 |[],env,h,K,hv=>hv
 |o::r,env,h,K,hv=>by
  rcases hv with⟨hg,hv⟩|⟨hg,av,h',hd,hv⟩|⟨hg,S,hd,hv⟩
  ·exact d0k (b:=false) hg (by simpa using c6w hv)
  ·refine d0k (b:=true) hg ?_;simp only[if_true];exact hd _ (c6w hv)
  ·refine d0k (b:=true) hg ?_;simp only[if_true];exact hd _ fun av hav=>c6w (hv av hav)
def c51(K:Env->A4->Prop):Prop:=∀e env h,c33 e env->K e h->K env h
theorem c1u{P:Program}{K:Env->A4->Prop}(hK:c51 K):∀{l:List D5}{e env:Env}{h:A4},c33 e env->vd P l e h K->vd P l env h K
 |[],e,env,h,he,hv=>hK e env h he hv
 |o::r,e,env,h,he,hv=>by
  rcases hv with⟨hg,hv⟩|⟨hg,av,h',hd,hv⟩|⟨hg,S,hd,hv⟩
  ·exact .inl ⟨he.guard hg,c1u hK (he.drop _) hv⟩
  ·exact .inr (.inl ⟨he.guard hg,av,h',hd.less he,c1u hK (he.put _ _) hv⟩)
  ·exact .inr (.inr ⟨he.guard hg,S,fun K' hK'=>d5r he (hd K' hK'),fun av hav=>c1u hK (he.put _ _) (hv av hav)⟩)
def Vp(P:Program)(L:List D5)(k:Nat)(env:Env)(h:A4)(K:Env->A4->Prop):Prop:=vd P (L.drop k) env h K
def noC:d07:=fun _ _ _=>none
theorem e8r{P:Program}:f7w P noC:=fun f args h a h' he=>by cases he
theorem d1a{b:List D5}:∀{a:List D5}{env:Env}{h:A4}{r:Env × A4}{K:Env->A4->Prop},d8w false noC a env h=some r->vd P b r.1 r.2 K->vd P (a++b) env h K
 |[],env,h,r,K,he,hk=>by cases he;exact hk
 |o::l,env,h,r,K,he,hk=>by
  simp only[d8w,Option.bind_eq_some_iff]at he;obtain⟨g,h1,h2⟩:=he;cases g with
  |true=>
   simp only[Option.bind_eq_some_iff]at h2;obtain⟨⟨a,h'⟩,h3,h4⟩:=h2;exact .inr (.inl ⟨h1,a,h',fun K hk=>d9t e8r h3 hk,d1a h4 hk⟩)
  |false=>exact .inl ⟨h1,d1a h2 hk⟩
theorem f4n(hk:Vp P L 0 env h K):V P L env h K:=⟨c6w hk⟩
theorem f4f(m:Nat)(env':Env)(h':A4)(he:d8w false noC ((L.drop k).take m) env h=some (env',h')){k':Nat}(hk':k+m=k')(hk:Vp P L k' env' h' K):Vp P L k env h K:=by
 subst hk';show vd P (L.drop k) env h K;rw[<-List.take_append_drop m (L.drop k),List.drop_drop];exact d1a he hk
theorem f2g{o:D5}(hl:L[k]? =some o)(hg:W7 env o.guard=some true){av:AV}{env1:Env}(ha:a2g P o.op env h av h'){k':Nat}(hk':k+1=k')(he:b8h env o.dst av=env1)(hk:Vp P L k' env1 h' K):Vp P L k env h K:=by
 subst hk' he;obtain⟨hlt,rfl⟩:=List.getElem?_eq_some_iff.1 hl;show vd P (L.drop k) env h K;rw[List.drop_eq_getElem_cons hlt];exact .inr (.inl ⟨hg,av,h',ha,hk⟩)
theorem g5m{o:D5}(hl:L[k]? =some o)(hg:W7 env o.guard=some true)(S:AV->Prop)(ha:∀K':AV->A4->Prop,(∀av,S av->K' av h)->aop P o.op env h K')(hk:∀av,S av->Vp P L (k+1) (b8h env o.dst av) h K):Vp P L k env h K:=by
 obtain⟨hlt,rfl⟩:=List.getElem?_eq_some_iff.1 hl;show vd P (L.drop k) env h K;rw[List.drop_eq_getElem_cons hlt];exact .inr (.inr ⟨hg,S,ha,hk⟩)
theorem g7m(hl:L.drop k=[])(hk:K env h):Vp P L k env h K:=by
 show vd P (L.drop k) env h K;rw[hl];exact hk
theorem d84{l:List D5}(hK:c51 K):c51 fun F h'=>vd P l F h' K:=fun e env h he hv=>c1u hK he hv
theorem g0h{g:FuncId}{f:K4}{args:List K4}{l l':List AV}{r:AV}(hf:f.ev env=some (.clo (.func g) [] []))(ha:evs env args=some l)(hl:l.map nz=l')(hgl:X3 h.globs=true)(hp:plainL l'=true)(hc:B8 P h.globs g l' r):a2g P (.call f args) env h r h:=
 fun K hk=>(d7t hf ha (c9p hc hgl hl hp hk)).out
theorem f9c{g:FuncId}{f:K4}{args:List K4}{l l' first captured:List AV}{r:AV}(hf:f.ev env=some (.clo (.func g) first captured))(ha:evs env args=some l)(hl:(first++l++captured).map nz=l')(hgl:X3 h.globs=true)(hp:plainL l'=true)(hc:B8 P h.globs g l' r):a2g P (.call f args) env h r h:=
 fun K hk=>(g0l hf ha (c9p hc hgl hl hp hk)).out
theorem d6k:∀(e:Env),e.map (fun p=>get env p.1)=e.map (fun p=>some p.2)->e7b e env
 |[],_=>trivial
 |(t,a)::e,h=>by
  simp only[List.map_cons,List.cons.injEq]at h;exact⟨h.1,d6k e h.2⟩
end
def d80(P:Program)(c:Code)(Q:Exit->Act->World->Prop)(a:Act)(w:World):Prop:=∀b k cs,∃e a' w',Q e a' w'/\Arrives P (lone (b.at a (.code c::.inLoop c::k)) cs w) b k cs e a' w'
theorem d62{P:Program}{Q:Exit->Act->World->Prop}{a:Act}{w:World}{c:Code}(hx:c.wp P (Exit.then (d80 P c Q) Q) a w):d80 P c Q a w:=by
 intro b k cs;obtain⟨e,a₁,w₁,hq,harr⟩:=hx b (.inLoop c::k) cs;cases e with
 |normal=>
  obtain⟨e₂,a₂,w₂,hq₂,harr₂⟩:=hq b k cs;exact⟨e₂,a₂,w₂,hq₂,.of_steps (Steps.trans harr (.one step_inLoop)) harr₂⟩
 |exit id=>exact⟨_,a₁,w₁,hq,.pass (x:=.inLoop c) rfl (fun _ _=>.inl (by simp)) harr⟩
 |goto l=>exact⟨_,a₁,w₁,hq,.pass (x:=.inLoop c) rfl (fun _ _=>.inl (by simp)) harr⟩
 |ret=>exact⟨_,a₁,w₁,hq,.pass (x:=.inLoop c) rfl (fun _ _=>.inl (by simp)) harr⟩
 |panic ch=>exact⟨_,a₁,w₁,hq,.pass (x:=.inLoop c) rfl (fun _ _=>.inl (by simp)) harr⟩
 |outgrown=>exact⟨_,a₁,w₁,hq,.pass (x:=.inLoop c) rfl (fun _ _=>.inl (by simp)) harr⟩
theorem f3w{P:Program}{Q:Exit->Act->World->Prop}{a:Act}{w:World}{c:Code}(hx:d80 P c Q a w):(Code.loop c).wp P Q a w:=by
 intro b k cs;obtain⟨e,a',w',hq,harr⟩:=hx b k cs;exact⟨e,a',w',hq,.of_steps (.one step_loop) harr⟩
theorem d80.mono{P:Program}{Q Q':Exit->Act->World->Prop}{a:Act}{w:World}{c:Code}(hq:∀e a w,Q e a w->Q' e a w)(hx:d80 P c Q a w):d80 P c Q' a w:=by
 intro b k cs;obtain⟨e,a',w',h1,harr⟩:=hx b k cs;exact⟨e,a',w',hq _ _ _ h1,harr⟩
section
variable {P:Program}{h h':A4}{env env':Env}{N:Nat}{Q:Exit->Env->A4->Prop}{x:W3}
end
section
variable {P:Program}{h:A4}{env:Env}{α:Type}
def bI(s:ByteArray):List Int:=s.data.toList.map fun b=>(b.toNat:Int)
theorem g35{x:K4}{s:ByteArray}(hx:x.ev env=some (.v (.string s))):a2g P (.len true x) env h (.v (.int .i64 s.size)) h:=fun K hk=>by
 simp only[aop,hx,wv,d3y];exact hk
theorem h3u{x:K4}{l:List α}{e:α->List AV}{tok:Tok}(hx:x.ev env=some (.sl (List.map e l) tok)):a2g P (.len false x) env h (.v (.int .i64 l.length)) h:=fun K hk=>by
 simp only[aop,hx,wv,d3y,List.length_map];exact hk
theorem g0f{size:Nat}{x i:K4}{l:List α}{e' e:α->List AV}{tok:Tok}{k:IntKind}{n:Int}{y:α}(hx:x.ev env=some (.sl (List.map e' l) tok))(hi:i.ev env=some (.v (.int k n)))(h0:0<=n)(hy:l[n.toNat]? =some y)(he:e' y=e y)(hs:(e y).length=size):a2g P (.idxSl size x i) env h (.elt (e y) 0) h:=fun K hk=>by
 simp only[aop,hx,hi,wv,c6c];obtain⟨hlt,rfl⟩:=List.getElem?_eq_some_iff.1 hy
 have hg:(List.map e' l).getD n.toNat []=e l[n.toNat]:=by
  rw[List.getD_eq_getElem?_getD,List.getElem?_map,hy];simpa using he
 rw[hg,List.length_map];exact⟨⟨h0,by omega⟩,hs,hk⟩
theorem g40{x i:K4}{s:ByteArray}{k:IntKind}{n:Int}(hx:x.ev env=some (.v (.string s)))(hi:i.ev env=some (.v (.int k n)))(h0:0<=n/\n<(s.size:Int)):a2g P (.idxS x i) env h (.v (.int .u8 (F2 s n.toNat))) h:=fun K hk=>by
 simp only[aop,hx,hi,wv,c4q];exact⟨h0,hk⟩
theorem f3m{x:K4}{lo hi:Option K4}{s:ByteArray}{lv hv:Option AV}{l u:Int}(hx:x.ev env=some (.v (.string s)))(h1:evo env lo=some lv)(h2:evo env hi=some hv)(h3:F6 0 lv=some l)(h4:F6 s.size hv=some u)(h0:0<=l/\l<=u/\u<=(s.size:Int)):a2g P (.sliceS x lo hi) env h (.v (.string (s.extract l.toNat u.toNat))) h:=fun K hk=>by
 simp only[aop,hx,h1,h2,wv,c46,h3,h4];exact⟨h0,hk⟩
theorem d8e{e':α->List AV}{l:List α}{hv:Option AV}:F6 (List.map e' l).length hv=F6 l.length hv:=by rw[List.length_map]
theorem f3j{size:Nat}{x:K4}{lo hi:Option K4}{l:List α}{e':α->List AV}{tok:Tok}{lv hv:Option AV}{a u:Int}(hx:x.ev env=some (.sl (List.map e' l) tok))(h1:evo env lo=some lv)(h2:evo env hi=some hv)(h3:F6 0 lv=some a)(h4:F6 l.length hv=some u)(h0:0<=a/\a<=u/\u<=(l.length:Int))(hs:∀y,(e' y).length=size):a2g P (.sliceV size x lo hi none) env h (.sl (List.map e' ((l.take u.toNat).drop a.toNat)) (match lv,hv with|none,none=>tok|_,_=>.no)) h:=fun K hk=>by
 have h5:evo env none=some none:=rfl;simp only[aop,hx,h1,h2,h5,wv,b2p,h3,d8e,h4,List.length_map];refine⟨h0,fun el hel=>?_,?_⟩
 ·obtain⟨y,_,rfl⟩:=List.mem_map.1 hel;exact hs y
 ·rw[<-List.map_take,<-List.map_drop];cases lv<;>cases hv<;>exact hk
theorem f1t{size:Nat}{x m:K4}{lo hi:Option K4}{l:List α}{e':α->List AV}{tok:Tok}{lv hv:Option AV}{k:IntKind}{a u:Int}(hx:x.ev env=some (.sl (List.map e' l) tok))(h1:evo env lo=some lv)(h2:evo env hi=some hv)(h3:F6 0 lv=some a)(h4:F6 l.length hv=some u)(h5:m.ev env=some (.v (.int k u)))(h6:hv.isSome=true)(h0:0<=a/\a<=u/\u<=(l.length:Int))(hs:∀y,(e' y).length=size):a2g P (.sliceV size x lo hi (some m)) env h (.sl (List.map e' ((l.take u.toNat).drop a.toNat)) .full) h:=fun K hk=>by
 have h7:evo env (some m)=some (some (.v (.int k u))):=by simp only[evo,h5]
 simp only[aop,hx,h1,h2,h7,wv,b2p,h3,d8e,h4,List.length_map];refine⟨h0,fun el hel=>?_,trivial,fun hn=>(by rw[hn]at h6;cases h6),?_⟩
 ·obtain⟨y,_,rfl⟩:=List.mem_map.1 hel;exact hs y
 ·rw[<-List.map_take,<-List.map_drop];exact hk
theorem d8d{op:BinOp}{x y:K4}{a b r:Value}{c:Prop}(hx:x.ev env=some (.v a))(hy:y.ev env=some (.v b))(hp:d9u op a b=some (c,r))(hc:c):a2g P (.bin op x y) env h (.v r) h:=fun K hk=>by
 simp only[aop,hx,hy,wv,d3p,hp];exact⟨hc,hk⟩
theorem g3j{x y:K4}{a b:ByteArray}(hx:x.ev env=some (.v (.string a)))(hy:y.ev env=some (.v (.string b)))(h0:((a.size+b.size:Nat):Int)<=9223372036854775807):a2g P (.bin .add x y) env h (.v (.string (a++b))) h:=d8d hx hy rfl (by omega)
theorem e08{a b:ByteArray}:(a.toList==b.toList)=decide (a=b):=by
 rw[ByteArray.toList_eq,ByteArray.toList_eq]
 by_cases h:a=b
 ·subst h;simp
 ·rw[decide_eq_false h,beq_eq_false_iff_ne];intro he;exact h (ByteArray.ext (Array.ext' he))
theorem h0q{x y:K4}{a b:ByteArray}(hx:x.ev env=some (.v (.string a)))(hy:y.ev env=some (.v (.string b))):a2g P (.bin .eql x y) env h (.v (.bool (decide (a=b)))) h:=by rw[<-e08];exact d8d hx hy (c:=True) rfl trivial
theorem g86{x y:K4}{a b:ByteArray}(hx:x.ev env=some (.v (.string a)))(hy:y.ev env=some (.v (.string b))):a2g P (.bin .neq x y) env h (.v (.bool (!decide (a=b)))) h:=by rw[<-e08];exact d8d hx hy (c:=True) rfl trivial
theorem g1a{c x y:K4}{t a b:Bool}(hc:c.ev env=some (.v (.bool t)))(hx:x.ev env=some (.v (.bool a)))(hy:y.ev env=some (.v (.bool b))):a2g P (.pick c x y) env h (.v (.bool (bif t then a else b))) h:=fun K hk=>by
 simp only[aop,hc,hx,hy,wv,c7h];cases t<;>simp_all
theorem g1w{c x y:K4}{t:Bool}{k:IntKind}{a b:Int}(hc:c.ev env=some (.v (.bool t)))(hx:x.ev env=some (.v (.int k a)))(hy:y.ev env=some (.v (.int k b))):a2g P (.pick c x y) env h (.v (.int k (bif t then a else b))) h:=fun K hk=>by
 simp only[aop,hc,hx,hy,wv,c7h];cases t<;>simp_all
theorem g17{c x y:K4}{t:Bool}{a b:ByteArray}(hc:c.ev env=some (.v (.bool t)))(hx:x.ev env=some (.v (.string a)))(hy:y.ev env=some (.v (.string b))):a2g P (.pick c x y) env h (.v (.string (bif t then a else b))) h:=fun K hk=>by
 simp only[aop,hc,hx,hy,wv,c7h];cases t<;>simp_all
theorem g5e{x y:K4}{k k':IntKind}{a b:Int}(hx:x.ev env=some (.v (.int k a)))(hy:y.ev env=some (.v (.int k' b))):a2g P (.minmax false [x,y]) env h (.v (.int k (min a b))) h:=fun K hk=>
 (g67 hx hy (by rw[show(if b<a then b else a)=min a b by omega];exact hk)).out
theorem g6n{x y:K4}{k k':IntKind}{a b:Int}(hx:x.ev env=some (.v (.int k a)))(hy:y.ev env=some (.v (.int k' b))):a2g P (.minmax true [x,y]) env h (.v (.int k (max a b))) h:=fun K hk=>
 (g6i hx hy (by rw[show(if a<b then b else a)=max a b by omega];exact hk)).out
theorem f9j(s:ByteArray)(size:Nat){h:A4}:c65 h size (.v (.string s))=some (List.map (fun n=>[AV.v (.int .u8 n)]) (bI s)):=by
 simp only[c65,Z6,bI,List.map_map];rfl
theorem d7b{size byt:Nat}{x y:K4}{Y:AV}{e':α->List AV}{m:List α}(hx:x.ev env=some .nil)(hy:y.ev env=some Y)(hm:c65 h size Y=some (List.map e' m))(hs:∀y,(e' y).length=size)(h0:m.length*byt<=140737488355328):a2g P (.append size byt x y) env h (.sl (List.map e' m) (.own h.bufs.length)) ⟨h.blks,h.bufs++[(m.length,size)],h.globs⟩:=fun K hk=>by
 simp only[aop,hx,hy,wv];refine .inl ?_;simp only[b4n,hm,List.length_map];exact⟨fun el hel=>by obtain⟨y,_,rfl⟩:=List.mem_map.1 hel;exact hs y,h0,hk⟩
theorem d7i{size byt id:Nat}{x y:K4}{Y:AV}{e':α->List AV}{l m:List α}(hx:x.ev env=some (.sl (List.map e' l) (.own id)))(hy:y.ev env=some Y)(hm:c65 h size Y=some (List.map e' m))(hb:h.bufs[id]? =some (l.length,size))(hs:∀y,(e' y).length=size)(h0:(l.length+m.length)*byt<=140737488355328):a2g P (.append size byt x y) env h (.sl (List.map e' (l++m)) (.own id)) ⟨h.blks,h.bufs.set id ((l++m).length,size),h.globs⟩:=fun K hk=>by
 simp only[aop,hx,hy,wv];refine .inl ?_;simp only[b4n,hm,List.length_map];refine⟨fun el hel=>by obtain⟨y,_,rfl⟩:=List.mem_map.1 hel;exact hs y,fun el hel=>by obtain⟨y,_,rfl⟩:=List.mem_map.1 hel;exact hs y,hb,h0,?_⟩;rw[<-List.map_append,<-List.length_append];exact hk
theorem d5u{size byt:Nat}{x y:K4}{X Y:AV}{e':α->List AV}{l m:List α}{els:List (List AV)}(hx:x.ev env=some (.sl els .full))(hy:y.ev env=some Y)(hX:els=List.map e' l)(hm:c65 h size Y=some (List.map e' m))(hs:∀y,(e' y).length=size)(h0:(l.length+m.length)*byt<=140737488355328):a2g P (.append size byt x y) env h (.sl (List.map e' (l++m)) (.own h.bufs.length)) ⟨h.blks,h.bufs++[((l++m).length,size)],h.globs⟩:=fun K hk=>by
 subst hX;simp only[aop,hx,hy,wv];refine .inl ?_;simp only[b4n,hm,List.length_map];refine⟨fun el hel=>by obtain⟨y,_,rfl⟩:=List.mem_map.1 hel;exact hs y,fun el hel=>by obtain⟨y,_,rfl⟩:=List.mem_map.1 hel;exact hs y,h0,?_⟩;rw[<-List.map_append,<-List.length_append];exact hk
theorem g1h{x:K4}{s:ByteArray}(hx:x.ev env=some (.v (.string s))):a2g P (.bytes x) env h (.sl (List.map (fun n=>[AV.v (.int .u8 n)]) (bI s)) (.own h.bufs.length)) ⟨h.blks,h.bufs++[((bI s).length,1)],h.globs⟩:=fun K hk=>by
 simp only[aop,hx,wv,d9i];have e:Z6 s.data.toList=List.map (fun n=>[AV.v (.int .u8 n)]) (bI s):=by simp only[Z6,bI,List.map_map];rfl
 have e2:s.data.toList.length=(bI s).length:=by simp only[bI,List.length_map]
 rw[e,e2];exact hk
theorem h18{x:K4}{l:List Int}{t:ByteArray}{tok:Tok}(hx:x.ev env=some (.sl (List.map (fun n=>[AV.v (.int .u8 n)]) l) tok))(hl:l=bI t):a2g P (.conv .str x) env h (.v (.string t)) h:=fun K hk=>by
 subst hl;simp only[aop,hx,wv,d74];refine⟨t.data.toList,by simp only[Z6,bI,List.map_map];rfl,?_⟩
 have:(⟨t.data.toList.toArray⟩:ByteArray)=t:=by
  apply ByteArray.ext;apply Array.ext';simp
 rw[this];exact hk
end
def vs(P:Program)(I:A4->Prop):Bool->List D5->Env->A4->(Env->A4->Prop)->Prop
 |_,[],env,h,K=>K env h
 |b,o::r,env,h,K=>
  (W7 env o.guard=some false/\vs P I b r (b82 env o.dst) h K)\/
  (W7 env o.guard=some true/\a05 o.op=true/\∃av,(∀h2,I h2->d7l P o.op env h2 av)/\vs P I b r (b8h env o.dst av) h K)\/
  (W7 env o.guard=some true/\a05 o.op=false/\c57 o=false/\∃av h',a2g P o.op env h av h'/\I h'/\vs P I false r (b8h env o.dst av) h' K)\/
  (b=true/\∃cells,o.op=.alloc cells/\o.guard=none/\vs P I b r (b8h env o.dst (.ptr h.blks.length 0)) ⟨h.blks++[some cells],h.bufs,h.globs⟩ K)
def f2i(P:Program)(I:A4->Prop)(F:Env)(hs:List A4)(j:Nat)(o:D5):Option Nat->Prop
 |some n=>∃av h1 h2,hs[n - j]? =some h1/\hs[n - j+1]? =some h2/\aop P o.op F h1 (fun a b=>a=av/\b=h2)/\∀d,o.dst=some d->get F d=some av
 |none=>∃av,(∀h2,I h2->d7l P o.op F h2 av)/\∀d,o.dst=some d->get F d=some av
def GF(F:Env)(D S:Prop):Option (Nat × Bool)->Prop
 |none=>D
 |some (t,want)=>(∃b,get F t=some (.v (.bool b))/\(b=want->D)/\(b≠want->S))\/(get F t=some (.tuple [])/\S)
def e7c(P:Program)(I:A4->Prop)(F:Env)(hs:List A4)(j:Nat)(o:D5)(n:Option Nat):Prop:=
 GF F (f2i P I F hs j o n) (n=none/\∀d,o.dst=some d->get F d=some (.tuple [])) o.guard
structure f8w(P:Program)(I:A4->Prop)(l:List D5)(env F:Env)(cur h':A4)(i0:Nat)(az:List (Nat × List AV))(hs:List A4)(fl:List (Option Nat))(j:Nat):Prop where
 len:fl.length=l.length
 first:hs[0]? =some ⟨cur.blks++az.map (fun p=>some p.2),cur.bufs,cur.globs⟩
 last:∃n,hs.length=n+1/\hs[n]? =some h'
 bound:∀i n:Nat,fl[i]? =some (some n)->j<=n/\n+1<j+hs.length
 mono:∀i k a b:Nat,i<k->fl[i]? =some (some a)->fl[k]? =some (some b)->a<b
 onto:∀n:Nat,j<=n->n+1<j+hs.length->∃i:Nat,fl[i]? =some (some n)
 keep:∀t,S5 t l=false->get F t=get env t
 pos:∀(q:Nat) (p:Nat × List AV),az[q]? =some p->∃i o,p.1=i0+i/\l[i]? =some o/\o.op=.alloc p.2/\o.guard=none/\fl[i]? =some none/\∀d,o.dst=some d->get F d=some (.ptr (cur.blks.length+q) 0)
 incr:∀(q r:Nat) (p s:Nat × List AV),q<r->az[q]? =some p->az[r]? =some s->p.1<s.1
 inv:∀(m:Nat) hm,0<m->hs[m]? =some hm->I hm
 chg:∀(i n:Nat) (o:D5),fl[i]? =some (some n)->l[i]? =some o->a05 o.op=false/\c57 o=false
 fact:∀(i:Nat) (o:D5) (n:Option Nat),l[i]? =some o->fl[i]? =some n->(∃(q:Nat) (p:Nat × List AV),az[q]? =some p/\p.1=i0+i)\/e7c P I F hs j o n
theorem d27{F env:Env}{g:Option (Nat × Bool)}{D S:Prop}(hg:W7 env g=some true)(hl:∀t w,g=some (t,w)->get F t=get env t)(hD:D):GF F D S g:=by
 cases g with
 |none=>exact hD
 |some p=>
  obtain⟨t,want⟩:=p;simp only[W7,Option.bind_eq_some_iff]at hg;obtain⟨v,h1,h2⟩:=hg;split at h2
  ·rename_i b;simp only[Option.some.injEq,beq_iff_eq]at h2;exact .inl ⟨b,by rw[hl t want rfl];exact h1,fun _=>hD,fun hn=>absurd h2 hn⟩
  ·cases h2
  ·cases h2
theorem e3v{F env:Env}{g:Option (Nat × Bool)}{D S:Prop}(hg:W7 env g=some false)(hl:∀t w,g=some (t,w)->get F t=get env t)(hS:S):GF F D S g:=by
 cases g with
 |none=>simp[W7]at hg
 |some p=>
  obtain⟨t,want⟩:=p;simp only[W7,Option.bind_eq_some_iff]at hg;obtain⟨v,h1,h2⟩:=hg;split at h2
  ·rename_i b;simp only[Option.some.injEq,beq_eq_false_iff_ne]at h2;exact .inl ⟨b,by rw[hl t want rfl];exact h1,fun h=>absurd h h2,fun _=>hS⟩
  ·exact .inr ⟨by rw[hl t want rfl];exact h1,hS⟩
  ·cases h2
theorem c6a{P:Program}{I:A4->Prop}:∀{l:List D5}{b:Bool}{env:Env}{cur:A4}{i0 j:Nat}{K:Env->A4->Prop},okq l=true->vs P I b l env cur K->∃F az hs fl h',f8w P I l env F cur h' i0 az hs fl j/\K F h'/\(b=false->az=[])
 |[],b,env,cur,i0,j,K,_,hk=>⟨env,[],[cur],[],cur,⟨rfl,by simp,⟨0,rfl,rfl⟩,fun i n hi=>by simp at hi,fun i k a b _ hi=>by simp at hi,fun n h1 h2=>by simp at h2;omega,fun _ _=>rfl,fun q p hq=>by simp at hq,fun q r p s _ hq=>by simp at hq,fun m hm h0 h1=>by cases m<;>simp at h0 h1,fun i n o hi=>by simp at hi,fun i o n hi=>by simp at hi⟩,hk,fun _=>rfl⟩
 |o::r,b,env,cur,i0,j,K,hok,hv=>by
  have hok0:=hok;simp only[okq,Bool.and_eq_true,List.all_eq_true]at hok;obtain⟨⟨hlook,hdst⟩,hokr⟩:=hok
  have hwr:∀t,S5 t (o::r)=false->o.dst≠some t/\S5 t r=false:=by
   intro t ht;simp only[S5,List.any_cons,Bool.or_eq_false_iff]at ht ⊢;exact⟨by simpa using ht.1,ht.2⟩
  have hd:∀d,o.dst=some d->S5 d r=false:=by
   intro d hd;rw[hd]at hdst;simpa using hdst
  have hl:∀(F:Env),(∀t,S5 t (o::r)=false->get F t=get env t)->∀t∈o.looks,get F t=get env t:=fun F hF t ht=>hF t (by simpa using hlook t ht)
  have hcong:∀(F:Env),(∀t,S5 t (o::r)=false->get F t=get env t)->∀(h:A4) (K:AV->A4->Prop),aop P o.op env h K->aop P o.op F h K:=by
   intro F hF h K hq;rw[<-c9k (e1:=env) (e2:=F)]
   ·exact hq
   ·intro x hx;cases x with
    |c a=>rfl
    |t n=>
     refine(hl F hF n ?_).symm;simp only[D5.looks,List.mem_append,List.mem_filterMap];exact .inl ⟨.t n,hx,rfl⟩
  have hgl:∀(F:Env),(∀t,S5 t (o::r)=false->get F t=get env t)->∀t w,o.guard=some (t,w)->get F t=get env t:=fun F hF t w hg=>hl F hF t (by simp[D5.looks,hg])
  -- an operation that leaves the heap
  have still:∀(env' F:Env) (az:List (Nat × List AV)) (hs:List A4) (fl:List (Option Nat)) (h':A4),f8w P I r env' F cur h' (i0+1) az hs fl j->(∀t,o.dst≠some t->get env' t=get env t)->((∀t,S5 t (o::r)=false->get F t=get env t)->e7c P I F hs j o none)->f8w P I (o::r) env F cur h' i0 az hs (none::fl) j:=by
   intro env' F az hs fl h' hp henv hf
   have hF:∀t,S5 t (o::r)=false->get F t=get env t:=fun t ht=>by
    obtain⟨h1,h2⟩:=hwr t ht;rw[hp.keep t h2,henv t h1]
   refine⟨by simp[hp.len],hp.first,hp.last,fun i n hi=>?_,fun i k a b hik hi hk=>?_,fun n h1 h2=>?_,hF,fun q p hqp=>?_,hp.incr,hp.inv,fun i n o' hi ho=>?_,fun i o' n hi hn=>?_⟩
   ·cases i with
    |zero=>simp at hi
    |succ i=>exact hp.bound i n (by simpa using hi)
   ·cases i with
    |zero=>simp at hi
    |succ i=>cases k with
     |zero=>omega
     |succ k=>exact hp.mono i k a b (by omega) (by simpa using hi) (by simpa using hk)
   ·obtain⟨i,hi⟩:=hp.onto n h1 h2;exact⟨i+1,by simpa using hi⟩
   ·obtain⟨i,o',e1,e2,e3⟩:=hp.pos q p hqp;exact⟨i+1,o',by omega,by simpa using e2,by simpa using e3⟩
   ·cases i with
    |zero=>simp at hi
    |succ i=>exact hp.chg i n o' (by simpa using hi) (by simpa using ho)
   ·cases i with
    |zero=>simp at hi hn;subst hi hn;exact .inr (hf hF)
    |succ i=>
     rcases hp.fact i o' n (by simpa using hi) (by simpa using hn) with⟨q,p,e1,e2⟩|h
     ·exact .inl ⟨q,p,e1,by omega⟩
     ·exact .inr h
  have hputF:∀(av:AV) (F:Env),(∀t,S5 t r=false->get F t=get (b8h env o.dst av) t)->∀d,o.dst=some d->get F d=some av:=fun av F hF d hd'=>by rw[hF d (hd d hd'),b1t,if_pos hd']
  rcases hv with⟨hg,hv⟩|⟨hg,hq,av,ha,hv⟩|⟨hg,hq,hnew,av,h1,ha,hI,hv⟩|⟨hb,cells,hop,hgd,hv⟩
  ·obtain⟨F,az,hs,fl,h',hp,hk,has⟩:=c6a (i0:=i0+1) (j:=j) hokr hv;refine⟨F,az,hs,none::fl,h',still _ F az hs fl h' hp (fun t ht=>by rw[b3c,if_neg ht]) fun hF=>?_,hk,has⟩;exact e3v hg (hgl F hF) ⟨rfl,fun d hd'=>by rw[hp.keep d (hd d hd'),b3c,if_pos hd']⟩
  ·obtain⟨F,az,hs,fl,h',hp,hk,has⟩:=c6a (i0:=i0+1) (j:=j) hokr hv;refine⟨F,az,hs,none::fl,h',still _ F az hs fl h' hp (fun t ht=>by rw[b1t,if_neg ht]) fun hF=>?_,hk,has⟩;exact d27 hg (hgl F hF) ⟨av,fun h2 hi=>hcong F hF h2 _ (ha h2 hi),hputF av F hp.keep⟩
  ·obtain⟨F,az,hs,fl,h',hp,hk,has⟩:=c6a (i0:=i0+1) (j:=j+1) hokr hv;have has0:=has rfl;subst has0
   have hF:∀t,S5 t (o::r)=false->get F t=get env t:=fun t ht=>by
    obtain⟨g1,g2⟩:=hwr t ht;rw[hp.keep t g2,b1t,if_neg g1]
   have hfirst:hs[0]? =some h1:=by rw[hp.first];simp
   obtain⟨nl,hnl,hlast⟩:=hp.last;refine⟨F,[],cur::hs,some j::fl,h',⟨by simp[hp.len],by simp,⟨nl+1,by simp[hnl],by simpa using hlast⟩,fun i n hi=>?_,fun i k a b hik hi hk=>?_,fun n h1 h2=>?_,hF,fun q p hqp=>by simp at hqp,fun q r p s _ hqp=>by simp at hqp,fun m hm h0 hmm=>?_,fun i n o' hi ho=>?_,fun i o' n hi hn=>?_⟩,hk,fun _=>rfl⟩
   ·cases i with
    |zero=>simp at hi;subst hi;exact⟨Nat.le_refl _,by simp;omega⟩
    |succ i=>have:=hp.bound i n (by simpa using hi);simp;omega
   ·cases i with
    |zero=>
     simp at hi;cases k with
     |zero=>omega
     |succ k=>have:=(hp.bound k b (by simpa using hk)).1;omega
    |succ i=>cases k with
     |zero=>omega
     |succ k=>exact hp.mono i k a b (by omega) (by simpa using hi) (by simpa using hk)
   ·by_cases hnj:n=j
    ·subst hnj;exact⟨0,rfl⟩
    ·obtain⟨i,hi⟩:=hp.onto n (by omega) (by simp at h2;omega);exact⟨i+1,by simpa using hi⟩
   ·cases m with
    |zero=>omega
    |succ m=>
     cases m with
     |zero=>simp only[Nat.zero_add,List.getElem?_cons_succ]at hmm;rw[hfirst]at hmm;cases hmm;exact hI
     |succ m=>exact hp.inv (m+1) hm (by omega) (by simpa using hmm)
   ·cases i with
    |zero=>simp at hi ho;subst ho;exact⟨hq,hnew⟩
    |succ i=>exact hp.chg i n o' (by simpa using hi) (by simpa using ho)
   ·cases i with
    |zero=>
     simp at hi hn;subst hi hn;refine .inr (d27 hg (hgl F hF) ⟨av,cur,h1,by simp,by simpa using hfirst,hcong F hF _ _ (ha _ ⟨rfl,rfl⟩),hputF av F hp.keep⟩)
    |succ i=>
     rcases hp.fact i o' n (by simpa using hi) (by simpa using hn) with⟨q,p,e1,e2⟩|h
     ·simp at e1
     ·refine .inr ?_
      have up:f2i P I F hs (j+1) o' n->f2i P I F (cur::hs) j o' n:=by
       intro hdo;cases n with
       |none=>exact hdo
       |some n=>
        have hb:=(hp.bound i n (by simpa using hn)).1;obtain⟨av',g1,g2,e1,e2,e3⟩:=hdo;have q1:n - j=(n - (j+1))+1:=by omega
        exact⟨av',g1,g2,by rw[q1];simpa using e1,by rw[q1];simpa using e2,e3⟩
      unfold e7c at h ⊢;cases hgd:o'.guard with
      |none=>rw[hgd]at h;exact up h
      |some g=>
       rw[hgd]at h;rcases h with⟨b',q1,q2,q3⟩|h
       ·exact .inl ⟨b',q1,fun hb'=>up (q2 hb'),q3⟩
       ·exact .inr h
  ·obtain⟨F,az,hs,fl,h',hp,hk,has⟩:=c6a (i0:=i0+1) (j:=j) hokr hv
   have hF:∀t,S5 t (o::r)=false->get F t=get env t:=fun t ht=>by
    obtain⟨g1,g2⟩:=hwr t ht;rw[hp.keep t g2,b1t,if_neg g1]
   refine⟨F,(i0,cells)::az,hs,none::fl,h',⟨by simp[hp.len],by rw[hp.first];simp,hp.last,fun i n hi=>?_,fun i k a b hik hi hk=>?_,fun n h1 h2=>?_,hF,fun q p hqp=>?_,fun q s p t hqs hqp hst=>?_,hp.inv,fun i n o' hi ho=>?_,fun i o' n hi hn=>?_⟩,hk,fun h=>by rw[hb]at h;cases h⟩
   ·cases i with
    |zero=>simp at hi
    |succ i=>exact hp.bound i n (by simpa using hi)
   ·cases i with
    |zero=>simp at hi
    |succ i=>cases k with
     |zero=>omega
     |succ k=>exact hp.mono i k a b (by omega) (by simpa using hi) (by simpa using hk)
   ·obtain⟨i,hi⟩:=hp.onto n h1 h2;exact⟨i+1,by simpa using hi⟩
   ·cases q with
    |zero=>
     simp at hqp;subst hqp;refine⟨0,o,rfl,rfl,hop,hgd,rfl,fun d hd'=>?_⟩;rw[hputF _ F hp.keep d hd'];simp
    |succ q=>
     obtain⟨i,o',e1,e2,e3,e4,e5,e6⟩:=hp.pos q p (by simpa using hqp);refine⟨i+1,o',by omega,by simpa using e2,e3,e4,by simpa using e5,fun d hd'=>?_⟩;rw[e6 d hd'];simp;omega
   ·cases s with
    |zero=>omega
    |succ s=>
     obtain⟨i,o',e1,_⟩:=hp.pos s t (by simpa using hst);cases q with
     |zero=>simp at hqp;subst hqp;simp;omega
     |succ q=>exact hp.incr q s p t (by omega) (by simpa using hqp) (by simpa using hst)
   ·cases i with
    |zero=>simp at hi
    |succ i=>exact hp.chg i n o' (by simpa using hi) (by simpa using ho)
   ·cases i with
    |zero=>simp at hi;subst hi;exact .inl ⟨0,_,rfl,by simp⟩
    |succ i=>
     rcases hp.fact i o' n (by simpa using hi) (by simpa using hn) with⟨q,p,e1,e2⟩|h
     ·exact .inl ⟨q+1,p,by simpa using e1,by omega⟩
     ·exact .inr h
def e0r(ord:List (List Nat))(al:List D5):Bool:=
 (List.range al.length).all fun k=>match al[k]? with
  |some o=> !b97 o||(List.range al.length).all fun i=>match al[i]? with
   |some p=>(!(b97 p&&decide (i<k))||(ord.getD k []).contains i)&&(!c57 p||(ord.getD k []).contains i)
   |none=>true
  |none=>true
theorem d7r{ord:List (List Nat)}{al:List D5}(h:e0r ord al=true){k i:Nat}{o p:D5}(hk:al[k]? =some o)(hi:al[i]? =some p)(hc:b97 o=true):
  (b97 p=true->i<k->i∈ord.getD k [])/\(c57 p=true->i∈ord.getD k []):=by
 simp only[e0r,List.all_eq_true,List.mem_range]at h;have h1:=h k (List.getElem?_eq_some_iff.1 hk).1;rw[hk]at h1;simp only[hc,Bool.not_true,Bool.false_or,List.all_eq_true,List.mem_range]at h1;have h2:=h1 i (List.getElem?_eq_some_iff.1 hi).1;rw[hi]at h2;simp only[Bool.and_eq_true,Bool.or_eq_true,Bool.not_eq_true',Bool.and_eq_false_iff,decide_eq_false_iff_not,List.contains_iff_mem]at h2;refine⟨fun a b=>?_,fun a=>?_⟩
 ·rcases h2.1 with(h3|h3)|h3
  ·rw[a]at h3;cases h3
  ·exact absurd b h3
  ·exact h3
 ·rcases h2.2 with h3|h3
  ·rw[a]at h3;cases h3
  ·exact h3
theorem g26{P:Program}{I:A4->Prop}{ord:List (List Nat)}{al:List D5}{env:Env}{h:A4}{K:Env->A4->Prop}(hok:okq al=true)(hst:e0r ord al=true)(hI:∀h2:A4,(∃ext,h2.blks=h.blks++ext)->h2.bufs=h.bufs->h2.globs=h.globs->I h2)(hv:vs P I true al env h K):
  ∃F h' az hs fl,d6p P ord al env F h h' az hs fl/\K F h':=by
 obtain⟨F,az,hs,fl,h',ps,hk,_⟩:=c6a (i0:=0) (j:=0) hok hv;refine⟨F,h',az,hs,fl,?_,hk⟩;obtain⟨nl,hnl,hlast⟩:=ps.last
 have hget:∀k n:Nat,fl[k]? =some (some n)->∃o,al[k]? =some o/\b97 o=true:=by
  intro k n hkn;have hkl:k<al.length:=by rw[<-ps.len];exact(List.getElem?_eq_some_iff.1 hkn).1
  have ho:al[k]? =some al[k]:=List.getElem?_eq_getElem hkl;obtain⟨h1,h2⟩:=ps.chg k n _ hkn ho;exact⟨_,ho,by unfold b97;rw[h1,h2];rfl⟩
 have hpos:∀(q:Nat) (p:Nat × List AV),az[q]? =some p->∃o,al[p.1]? =some o/\c57 o=true/\o.op=.alloc p.2/\o.guard=none/\fl[p.1]? =some none/\∀d,o.dst=some d->get F d=some (.ptr (h.blks.length+q) 0):=by
  intro q p hqp;obtain⟨i,o,e1,e2,e3,e4,e5,e6⟩:=ps.pos q p hqp;have:p.1=i:=by omega
  rw[this];exact⟨o,e2,by unfold c57;rw[e3,e4],e3,e4,e5,e6⟩
 refine⟨ps.len,fun i k a b hik hi hk=>⟨ps.mono i k a b hik hi hk,?_⟩,fun j hj=>ps.onto j (by omega) (by omega),?_,ps.last,fun i n hi=>by have:=ps.bound i n hi;omega,ps.keep,fun q p hqp=>?_,fun q r p s hqp hrs hps=>?_,fun k n hk p hp=>?_,fun i o n hi hn=>?_⟩
 ·obtain⟨o1,h1,h2⟩:=hget i a hi;obtain⟨o2,h3,h4⟩:=hget k b hk;exact(d7r hst h3 h1 h4).1 h2 hik
 ·rw[ps.first];simp[hA]
 ·obtain⟨o,e1,_,e2⟩:=hpos q p hqp;exact⟨o,e1,e2⟩
 ·rcases Nat.lt_trichotomy q r with hlt|heq|hgt
  ·have:=ps.incr q r p s hlt hqp hrs;omega
  ·exact heq
  ·have:=ps.incr r q s p hgt hrs hqp;omega
 ·obtain⟨o2,h3,h4⟩:=hget k n hk;obtain⟨q,hq⟩:=List.mem_iff_getElem?.1 hp;obtain⟨o,e1,e2,_⟩:=hpos q p hq;exact(d7r hst h3 e1 h4).2 e2
 ·rcases ps.fact i o n hi hn with⟨q,p,e1,e2⟩|hf
  ·exact .inl ⟨q,p,e1,by omega⟩
  right
  have conv:f2i P I F hs 0 o n->d7s P F h az hs ord fl i o n:=by
   intro hd;cases n with
   |some n=>obtain⟨av,h1,h2,e1,e2,e3⟩:=hd;exact⟨av,h1,h2,by simpa using e1,by simpa using e2,e3⟩
   |none=>
    obtain⟨av,hqa,hfd⟩:=hd;refine⟨av,0,hs.length - 1,by omega,fun j lst hj _ _ h3=>hqa hj ?_,fun k n _ h=>by omega,.inl (by omega),hfd⟩;cases j with
    |zero=>
     have:hA h az lst=hj:=Option.some.inj h3;subst this;exact hI _ ⟨_,rfl⟩ rfl rfl
    |succ j=>exact ps.inv (j+1) hj (by omega) h3
  unfold e4d;unfold e7c at hf;cases hgd:o.guard with
  |none=>rw[hgd]at hf;simp only[hgd];exact conv hf
  |some g=>
   obtain⟨t,want⟩:=g;rw[hgd]at hf;simp only[hgd];rcases hf with⟨b,h1,h2,h3⟩|hf
   ·exact .inl ⟨b,h1,fun hb=>conv (h2 hb),h3⟩
   ·exact .inr hf
def InS(S:List (Nat × List AV))(gl:List (Nat × List AV))(h:A4):Prop:=(∀b c,(b,c)∈S->h.blks[b]? =some (some c))/\h.globs=gl
def inS(S:List (Nat × List AV))(h:A4):List (Option (Option (List AV))):=S.map fun p=>h.blks[p.1]?
theorem e28{S gl:List (Nat × List AV)}{h:A4}(h1:inS S h=S.map fun p=>some (some p.2))(h2:h.globs=gl):InS S gl h:=by
 refine⟨fun b c hbc=>?_,h2⟩;obtain⟨i,hi⟩:=List.mem_iff_getElem?.1 hbc;have:=congrArg (fun l=>l[i]?) h1;simpa[inS,List.getElem?_map,hi]using this
def Sp(P:Program)(S gl:List (Nat × List AV))(b:Bool)(L:List D5)(k:Nat)(env:Env)(h:A4)(K:Env->A4->Prop):Prop:=vs P (InS S gl) b (L.drop k) env h K
def d96:Nat->List (Nat × List AV)->List (Option (List AV))
 |0,_=>[]
 |n+1,S=>d96 n S++[(S.find? fun p=>p.1==n).map (·.2)]
theorem c8x:∀(n:Nat) (S:List (Nat × List AV)),(d96 n S).length=n
 |0,_=>rfl
 |n+1,S=>by simp[d96,c8x n S]
theorem e3b:∀(n:Nat) (S:List (Nat × List AV)) (k:Nat) (c:List AV),(d96 n S)[k]? =some (some c)->(k,c)∈S
 |0,_,k,c,h=>by simp[d96]at h
 |n+1,S,k,c,h=>by
  by_cases hk:k<n
  ·refine e3b n S k c ?_;rw[d96,List.getElem?_append_left (by rw[c8x];exact hk)]at h;exact h
  ·rw[d96,List.getElem?_append_right (by rw[c8x];omega),c8x]at h
   by_cases he:k=n
   ·subst he;simp only[Nat.sub_self,List.getElem?_cons_zero,Option.some.injEq,Option.map_eq_some_iff]at h;obtain⟨p,h1,rfl⟩:=h;have h2:=List.find?_some h1;have h3:=List.mem_of_find?_eq_some h1;have:p.1=k:=by simpa using h2
    subst this;exact h3
   ·rw[List.getElem?_eq_none (by simp;omega)]at h;cases h
theorem d9d{S gl:List (Nat × List AV)}{n:Nat}{h:A4}(hi:InS S gl h){m:Option Nat}{p a:AV}(hl:c18 ⟨d96 n S,[],gl⟩ m p=some a):c18 h m p=some a:=by
 have hp:∀q,a8d ⟨d96 n S,[],gl⟩ p=some q->a8d h p=some q:=by
  intro q hq;cases p with
  |ptr k off=>
   simp only[a8d]at hq ⊢;split at hq
   ·rename_i cells hc;rw[hi.1 k cells (e3b n S k cells hc)];exact hq
   ·cases hq
  |glob k=>simp only[a8d]at hq ⊢;rw[hi.2];exact hq
  |elt c o=>exact hq
  |_=>simp[a8d]at hq
 unfold c18 at hl ⊢;cases hq:a8d ⟨d96 n S,[],gl⟩ p with
 |none=>rw[hq]at hl;cases hl
 |some q=>rw[hq]at hl;rw[hp q hq];exact hl
def vsC(n:Nat)(S gl:List (Nat × List AV))(b:Bool):List D5->Env->A4->Option (Env × A4)
 |[],env,h=>some (env,h)
 |o::r,env,h=>(W7 env o.guard).bind fun g=>match g with
  |false=>vsC n S gl b r (b82 env o.dst) h
  |true=>match o.op,o.guard with
   |.alloc cells,none=>if b=true then vsC n S gl b r (b8h env o.dst (.ptr h.blks.length 0)) ⟨h.blks++[some cells],h.bufs,h.globs⟩ else none
   |_,_=>if a05 o.op=true then(e5u false noC o.op env ⟨d96 n S,[],gl⟩).bind fun p=>vsC n S gl b r (b8h env o.dst p.1) h else none
theorem d7e{P:Program}{n:Nat}{S gl:List (Nat × List AV)}{o:AOp}{env:Env}{a:AV}{h1:A4}(hq:a05 o=true)(he:e5u false noC o env ⟨d96 n S,[],gl⟩=some (a,h1)):∀h2,InS S gl h2->d7l P o env h2 a:=by
 intro h2 hi;have hsame:h1=⟨d96 n S,[],gl⟩:=e5c (fun f args h a h' he=>by cases he) hq he;subst hsame
 by_cases hp:d66 o=true
 ·exact d6h hp (d9t (K:=fun x y=>x=a/\y=_) e8r he ⟨rfl,rfl⟩)
 ·cases o<;>first|(exact absurd rfl hp)|(cases hq;done)|skip
  case load m x=>
   simp only[e5u,Option.bind_eq_some_iff]at he;obtain⟨p,h1,h3⟩:=he;obtain⟨h4,_⟩:=E6 h3;show wv (x.ev env) _;rw[h1];exact c52 (K:=fun x=>x=a/\h2=h2) (d9d hi h4) ⟨rfl,rfl⟩
  case call f args=>
   simp only[e5u,Option.bind_eq_some_iff]at he;obtain⟨fv,h1,l,h3,h4⟩:=he;split at h4<;>cases h4
theorem e0x{P:Program}{n:Nat}{S gl:List (Nat × List AV)}{b:Bool}{t:List D5}{K:Env->A4->Prop}:∀{a:List D5}{env:Env}{h:A4}{r:Env × A4},vsC n S gl b a env h=some r->vs P (InS S gl) b t r.1 r.2 K->vs P (InS S gl) b (a++t) env h K
 |[],env,h,r,he,hk=>by cases he;exact hk
 |o::a,env,h,r,he,hk=>by
  simp only[vsC,Option.bind_eq_some_iff]at he;obtain⟨g,h1,h2⟩:=he;cases g with
  |false=>exact .inl ⟨h1,e0x h2 hk⟩
  |true=>
   simp only at h2;split at h2
   ·rename_i cells ho hgd;split at h2
    ·rename_i hb;exact .inr (.inr (.inr ⟨hb,cells,ho,hgd,e0x h2 hk⟩))
    ·cases h2
   ·split at h2
    ·rename_i hq;simp only[Option.bind_eq_some_iff]at h2;obtain⟨⟨av,hx⟩,h3,h4⟩:=h2;exact .inr (.inl ⟨h1,hq,av,d7e hq h3,e0x h4 hk⟩)
    ·cases h2
section
variable {P:Program}{h h':A4}{env:Env}{N:Nat}{Q:Exit->Env->A4->Prop}{K:Env->A4->Prop}{L:List D5}{k:Nat}{S gl:List (Nat × List AV)}{b:Bool}
theorem e2i(n m:Nat)(env':Env)(h':A4)(he:vsC n S gl b ((L.drop k).take m) env h=some (env',h')){k':Nat}(hk':k+m=k')(hk:Sp P S gl b L k' env' h' K):Sp P S gl b L k env h K:=by
 subst hk';show vs P _ b (L.drop k) env h K;rw[<-List.take_append_drop m (L.drop k),List.drop_drop];exact e0x he hk
theorem h6q{o:D5}(hl:L[k]? =some o)(hg:W7 env o.guard=some true)(hq:a05 o.op=true){av:AV}{env1:Env}(ha:∀h2,InS S gl h2->a2g P o.op env h2 av h2){k':Nat}(hk':k+1=k')(he:b8h env o.dst av=env1)(hk:Sp P S gl b L k' env1 h K):Sp P S gl b L k env h K:=by
 subst hk' he;obtain⟨hlt,rfl⟩:=List.getElem?_eq_some_iff.1 hl;show vs P _ b (L.drop k) env h K;rw[List.drop_eq_getElem_cons hlt];exact .inr (.inl ⟨hg,hq,av,fun h2 hi=>(ha h2 hi).q,hk⟩)
theorem g4e{o:D5}(hl:L[k]? =some o)(hg:W7 env o.guard=some true)(hq:a05 o.op=false)(hn:c57 o=false){av:AV}{env1:Env}(ha:a2g P o.op env h av h')(hi:inS S h'=S.map fun p=>some (some p.2))(hgl:h'.globs=gl){k':Nat}(hk':k+1=k')(he:b8h env o.dst av=env1)(hk:Sp P S gl false L k' env1 h' K):Sp P S gl b L k env h K:=by
 subst hk' he;obtain⟨hlt,rfl⟩:=List.getElem?_eq_some_iff.1 hl;show vs P _ b (L.drop k) env h K;rw[List.drop_eq_getElem_cons hlt];exact .inr (.inr (.inl ⟨hg,hq,hn,av,h',ha,e28 hi hgl,hk⟩))
theorem c6g{I:A4->Prop}{K:Env->A4->Prop}(hK:c51 K):∀{l:List D5}{b:Bool}{e env:Env}{h:A4},c33 e env->vs P I b l e h K->vs P I b l env h K
 |[],b,e,env,h,he,hv=>hK e env h he hv
 |o::r,b,e,env,h,he,hv=>by
  rcases hv with⟨hg,hv⟩|⟨hg,hq,av,ha,hv⟩|⟨hg,hq,hn,av,h',ha,hi,hv⟩|⟨hb,cells,ho,hg,hv⟩
  ·exact .inl ⟨he.guard hg,c6g hK (he.drop _) hv⟩
  ·exact .inr (.inl ⟨he.guard hg,hq,av,fun h2 hi=>d5r he (ha h2 hi),c6g hK (he.put _ _) hv⟩)
  ·exact .inr (.inr (.inl ⟨he.guard hg,hq,hn,av,h',ha.less he,hi,c6g hK (he.put _ _) hv⟩))
  ·exact .inr (.inr (.inr ⟨hb,cells,ho,hg,c6g hK (he.put _ _) hv⟩))
theorem f39(S:List (Nat × List AV)){ord:List (List Nat)}{al tl:List D5}(hok:okq al=true)(hst:e0r (clo ord) al=true)(hS:inS S h=S.map fun p=>some (some p.2))(hv:Sp P S h.globs true al 0 env h fun F h'=>vd P tl F h' fun env' h'=>Q .normal env' h'):C P N (.drawn ord al tl) Q env h:=by
 have hv':vs P (InS S h.globs) true al env h fun F h'=>vd P tl F h' fun env' h'=>Q .normal env' h':=hv
 obtain⟨F,h',az,hs,fl,hn,hk⟩:=g26 hok hst (fun h2 ⟨ext,he⟩ _ hgl=>⟨fun b c hbc=>by
  have:=(e28 hS rfl:InS S h.globs h).1 b c hbc;rw[he,List.getElem?_append_left (List.getElem?_eq_some_iff.1 this).1];exact this,hgl⟩) hv'
 exact⟨d1h hn (c6w hk)⟩
end
mutual
def low(m:List Bool)(n:Nat):AV->Bool
 |.v _=>true
 |.ptr k _=>m.getD k false
 |.elt cells _=>lowL m n cells
 |.nil=>true
 |.sl els tok=>(match tok with|.own id=>decide (id<n)|_=>true)&&lowLL m n els
 |.agg cells=>lowL m n cells
 |.tuple vs=>lowL m n vs
 |.iface _ x=>low m n x
 |.clo _ first captured=>lowL m n first&&lowL m n captured
 |.glob _=>true
 |.row k _ _ _ _=>m.getD k false
 |.it _ _=>true
def lowL(m:List Bool)(n:Nat):List AV->Bool
 |[]=>true
 |a::r=>low m n a&&lowL m n r
def lowLL(m:List Bool)(n:Nat):List (List AV)->Bool
 |[]=>true
 |a::r=>lowL m n a&&lowLL m n r
end
mutual
theorem d7q(m:List Bool)(n:Nat):∀a,plain a=true->low m n a=true
 |.v _,_=>rfl
 |.ptr _ _,h=>by cases h
 |.elt cells _,h=>by simp only[plain,low]at h ⊢;exact lowL_plain m n cells h
 |.nil,_=>rfl
 |.sl els tok,h=>by
  simp only[plain,low,Bool.and_eq_true]at h ⊢;refine⟨?_,lowLL_plain m n els h.2⟩;cases tok<;>first|rfl|(simp at h)
 |.agg cells,h=>by simp only[plain,low]at h ⊢;exact lowL_plain m n cells h
 |.tuple cells,h=>by simp only[plain,low]at h ⊢;exact lowL_plain m n cells h
 |.iface _ x,h=>by simp only[plain,low]at h ⊢;exact d7q m n x h
 |.clo _ a b,h=>by simp only[plain,low,Bool.and_eq_true]at h ⊢;exact⟨lowL_plain m n a h.1,lowL_plain m n b h.2⟩
 |.glob _,_=>rfl
 |.row _ _ _ _ _,h=>by cases h
 |.it _ _,h=>by cases h
theorem lowL_plain(m:List Bool)(n:Nat):∀l,plainL l=true->lowL m n l=true
 |[],_=>rfl
 |a::r,h=>by simp only[plainL,lowL,Bool.and_eq_true]at h ⊢;exact⟨d7q m n a h.1,lowL_plain m n r h.2⟩
theorem lowLL_plain(m:List Bool)(n:Nat):∀l,plainLL l=true->lowLL m n l=true
 |[],_=>rfl
 |a::r,h=>by simp only[plainLL,lowLL,Bool.and_eq_true]at h ⊢;exact⟨lowL_plain m n a h.1,lowLL_plain m n r h.2⟩
end
theorem a5e{m:List Bool}{n:Nat}:∀{l:List AV},lowL m n l=true->∀(i:Nat) (av:AV),l[i]? =some av->low m n av=true
 |[],_,i,av,h=>by simp at h
 |a::r,hp,i,av,h=>by
  simp only[lowL,Bool.and_eq_true]at hp;cases i with
  |zero=>simp at h;subst h;exact hp.1
  |succ i=>exact a5e hp.2 i av (by simpa using h)
theorem c4o{m:List Bool}{n:Nat}:∀{l:List (List AV)},lowLL m n l=true->∀(i:Nat) (el:List AV),l[i]? =some el->lowL m n el=true
 |[],_,i,av,h=>by simp at h
 |a::r,hp,i,av,h=>by
  simp only[lowLL,Bool.and_eq_true]at hp;cases i with
  |zero=>simp at h;subst h;exact hp.1
  |succ i=>exact c4o hp.2 i av (by simpa using h)
def Sg.cut(σ:Sg)(m:List Bool)(n:Nat):Sg:={σ with blk:=fun k=>if m.getD k false=true then σ.blk k else none,buf:=fun id=>if id<n then σ.buf id else none}
theorem d4t{σ:Sg}{m:List Bool}{n b o:Nat}(h:(σ.cut m n).own b o):σ.own b o:=by
 rcases h with⟨k,hk⟩|⟨id,e,he,hs⟩
 ·simp only[Sg.cut]at hk;split at hk
  ·exact .inl ⟨k,hk⟩
  ·cases hk
 ·simp only[Sg.cut]at he;split at he
  ·exact .inr ⟨id,e,he,hs⟩
  ·cases he
theorem d4v{σ:Sg}{m:List Bool}{n b o:Nat}(h:(σ.cut m n).open_ b o):σ.open_ b o:=h.elim .inl fun h=>.inr (d4t h)
theorem Rel.cut{σ:Sg}{m:List Bool}{n:Nat}{av:AV}{x:Value}(hr:Rel σ av x):low m n av=true->Rel (σ.cut m n) av x:=by
 induction hr with
 |v x h=>intro _;exact .v x h
 |ptr k off b h=>intro hl;exact .ptr k off b (by simp only[Sg.cut];rw[if_pos (by simpa[low]using hl)];exact h)
 |elt cells off b o xs hc hr ih=>
  intro hl;exact .elt cells off b o xs (fun i av hi=>⟨(hc i av hi).1,fun h=>(hc i av hi).2.1 (d4v h),(hc i av hi).2.2⟩) fun i av hi=>ih i av hi (a5e (by simpa[low]using hl) i av hi)
 |nil=>intro _;exact .nil
 |glob k=>intro _;exact .glob k
 |row k off size len capm b cap h hc hm hx=>intro hl;exact .row k off size len capm b cap (by simp only[Sg.cut];rw[if_pos (by simpa[low]using hl)];exact h) hc hm hx
 |sl0 tok ht=>
  intro hl;refine .sl0 tok ?_;cases tok with
  |own id=>
   obtain⟨e,h1,h2⟩:=ht;refine⟨e,?_,h2⟩;simp only[low,Bool.and_eq_true,decide_eq_true_eq]at hl;simp only[Sg.cut];rw[if_pos hl.1];exact h1
  |_=>exact ht
 |slx tok a cap ht hc=>
  intro hl;refine .slx tok a cap ?_ hc;cases tok with
  |own id=>
   obtain⟨e,h1,h2⟩:=ht;refine⟨e,?_,h2⟩;simp only[low,Bool.and_eq_true,decide_eq_true_eq]at hl;simp only[Sg.cut];rw[if_pos hl.1];exact h1
  |_=>exact ht
 |sl els tok b o cap size xs hs hcap ht hz hc hr ih=>
  intro hl;simp only[low,Bool.and_eq_true]at hl;refine .sl els tok b o cap size xs hs hcap ?_ (fun id e h1 h2=>?_) (fun i el hi j av hj=>⟨(hc i el hi j av hj).1,fun h=>(hc i el hi j av hj).2.1 (d4v h),(hc i el hi j av hj).2.2⟩) fun i el hi j av hj=>ih i el hi j av hj (a5e (c4o hl.2 i el hi) j av hj)
  ·cases tok with
   |own id=>
    obtain⟨e,h1,h2⟩:=ht;refine⟨e,?_,h2⟩;simp only[Sg.cut];rw[if_pos (by simpa using hl.1)];exact h1
   |_=>exact ht
  ·simp only[Sg.cut]at h2;split at h2
   ·exact hz id e h1 h2
   ·cases h2
 |agg cells xs hn hc x hx hr ih=>intro hl;exact .agg cells xs hn hc x hx fun i av hi=>ih i av hi (a5e (by simpa[low]using hl) i av hi)
 |tuple vs xs hn x hx hr ih=>intro hl;exact .tuple vs xs hn x hx fun i av hi=>ih i av hi (a5e (by simpa[low]using hl) i av hi)
 |iface t av x h ih=>intro hl;exact .iface t av x (ih (by simpa[low]using hl))
 |clo fn first captured fs cs hn hm x y hx hy hr hq ih1 ih2=>
  intro hl;simp only[low,Bool.and_eq_true]at hl;exact .clo fn first captured fs cs hn hm x y hx hy (fun i av hi=>ih1 i av hi (a5e hl.1 i av hi)) fun i av hi=>ih2 i av hi (a5e hl.2 i av hi)
theorem F3.cut{σ:Sg}{m:List Bool}{n:Nat}{cells:List AV}{vs:List Value}(hc:F3 σ cells vs)(hl:lowL m n cells=true):F3 (σ.cut m n) cells vs:=by
 refine⟨hc.1,fun i av hi=>?_⟩;obtain⟨h1,x,h2,h3⟩:=hc.2 i av hi;exact⟨h1,x,h2,h3.cut (a5e hl i av hi)⟩
def a77(m:List Bool)(n:Nat):Env->Bool
 |[]=>true
 |(_,a)::e=>low m n a&&a77 m n e
def a5d(m:List Bool)(n:Nat):List (Option (List AV))->Bool
 |[]=>true
 |some c::r=>lowL m n c&&a5d m n r
 |none::r=>a5d m n r
theorem c38{m:List Bool}{n:Nat}:∀{e:Env}{t:Nat}{a:AV},a77 m n e=true->get e t=some a->low m n a=true
 |[],_,_,_,h=>by cases h
 |(u,b)::e,t,a,hl,h=>by
  simp only[a77,Bool.and_eq_true]at hl;simp only[get]at h;split at h
  ·cases h;exact hl.1
  ·exact c38 hl.2 h
theorem d4f{m:List Bool}{n:Nat}:∀{l:List (Option (List AV))}{i:Nat}{c:List AV},a5d m n l=true->l[i]? =some (some c)->lowL m n c=true
 |[],_,_,_,h=>by simp at h
 |o::r,i,c,hl,h=>by
  cases i with
  |zero=>simp at h;subst h;simp only[a5d,Bool.and_eq_true]at hl;exact hl.1
  |succ i=>
   refine d4f (l:=r) (i:=i) ?_ (by simpa using h);cases o with
   |none=>exact hl
   |some c'=>simp only[a5d,Bool.and_eq_true]at hl;exact hl.2
def Z7:List Bool->List (Option (List AV))->List (Option (List AV))
 |b::m,x::l=>(if b=true then x else none)::Z7 m l
 |_,_=>[]
theorem b29:∀{m:List Bool}{l:List (Option (List AV))}{k:Nat}{c:List AV},(Z7 m l)[k]? =some (some c)->m.getD k false=true/\l[k]? =some (some c)
 |[],l,k,c,h=>by simp[Z7]at h
 |b::m,[],k,c,h=>by simp[Z7]at h
 |b::m,x::l,k,c,h=>by
  cases k with
  |zero=>
   simp only[Z7,List.getElem?_cons_zero,Option.some.injEq]at h;split at h
   ·rename_i hb;subst h;exact⟨hb,rfl⟩
   ·cases h
  |succ k=>exact b29 (m:=m) (l:=l) (k:=k) (by simpa[Z7]using h)
theorem d4h:∀{m:List Bool}{l:List (Option (List AV))}{k:Nat}{c:List AV},m.getD k false=true->l[k]? =some (some c)->(Z7 m l)[k]? =some (some c)
 |[],l,k,c,h,_=>by simp at h
 |b::m,[],k,c,_,h=>by simp at h
 |b::m,x::l,k,c,h1,h2=>by
  cases k with
  |zero=>
   have h1':b=true:=h1;simp only[List.getElem?_cons_zero,Option.some.injEq]at h2;simp[Z7,h1',h2]
  |succ k=>simpa[Z7]using d4h (m:=m) (l:=l) (k:=k) (by simpa using h1) (by simpa using h2)
theorem Inv.cut{σ:Sg}{h:A4}(hi:Inv h σ)(m:List Bool)(n:Nat)(hb:a5d m n (Z7 m h.blks)=true)(hg:X3 h.globs=true):Inv ⟨Z7 m h.blks,h.bufs.take n,h.globs⟩ (σ.cut m n):=by
 have hblk:∀{k b:Nat},(σ.cut m n).blk k=some b->m.getD k false=true/\σ.blk k=some b:=by
  intro k b hk;simp only[Sg.cut]at hk;split at hk
  ·rename_i h1;exact⟨h1,hk⟩
  ·cases hk
 have hbuf:∀{k:Nat}{e:Buf},(σ.cut m n).buf k=some e->k<n/\σ.buf k=some e:=by
  intro k b hk;simp only[Sg.cut]at hk;split at hk
  ·rename_i h1;exact⟨h1,hk⟩
  ·cases hk
 refine⟨fun k cells hk=>?_,fun k b hk=>?_,fun k l b c c' hk hl hc hc' h1 h2=>?_,fun id c hc=>?_,fun id e he=>?_,fun id e he=>hi.bufle id e (hbuf he).2,fun id e b o he hs=>hi.bufat id e b o (hbuf he).2 hs,fun i j e f b o he hf h1 h2=>hi.bufinj i j e f b o (hbuf he).2 (hbuf hf).2 h1 h2,fun id e k b o he hs hk=>hi.bufblk id e k b o (hbuf he).2 hs (hblk hk).2,fun b o ho=>⟨(hi.outer b o ho).1,fun h=>(hi.outer b o ho).2 (d4t h)⟩,fun g cells hgl=>?_⟩
 ·obtain⟨h1,h2⟩:=b29 hk;obtain⟨b,h3,h4⟩:=hi.blk k cells h2;refine⟨b,by simp only[Sg.cut];rw[if_pos h1];exact h3,?_⟩;have hlow:=d4f hb hk;cases h4 with
  |cells _ cs rest elem h5 h6=>exact .cells cells cs rest elem h5 (h6.cut hlow)
  |it s p h5=>exact .it s p h5
 ·obtain⟨h1,h2⟩:=hblk hk;obtain⟨c,h3⟩:=hi.dom k b h2;exact⟨c,d4h h1 h3⟩
 ·exact hi.inj k l b c c' (b29 hk).2 (b29 hl).2 hc hc' (hblk h1).2 (hblk h2).2
 ·rw[List.getElem?_take]at hc;split at hc
  ·rename_i h1;obtain⟨e,h2,h3⟩:=hi.buf id c hc;exact⟨e,by simp only[Sg.cut];rw[if_pos h1];exact h2,h3⟩
  ·cases hc
 ·obtain⟨h1,h2⟩:=hbuf he;rw[List.getElem?_take,if_pos h1];exact hi.bufdom id e h2
 ·exact(hi.glob g cells hgl).cut (by simp only[low];exact lowL_plain m n cells (List.all_eq_true.1 hg _ hgl))
def Low(σ:Sg)(kb kf:Nat):Prop:=(∀k b,σ.blk k=some b->k<kb)/\∀id e,σ.buf id=some e->id<kf
theorem Le.cut{σ0 σ:Sg}{kb kf n:Nat}{m:List Bool}(hle:Le σ0 σ)(hl:Low σ0 kb kf)(hm:∀k,k<kb->m.getD k false=true)(hn:kf<=n):Le σ0 (σ.cut m n) where
 blk k b hk:=by
  simp only[Sg.cut];rw[if_pos (hm k (hl.1 k b hk))];exact hle.blk k b hk
 buf id e he:=by
  obtain⟨e',h1,h2⟩:=hle.buf id e he;exact⟨e',by simp only[Sg.cut];rw[if_pos (by have:=hl.2 id e he;omega)];exact h1,h2⟩
 outer:=hle.outer
 cell:=hle.cell
 ext:=hle.ext
 whole:=hle.whole
 own b o hb ho:=hle.own b o hb (d4t ho)
 size:=hle.size
 os:=hle.os
 tape:=hle.tape
 output:=hle.output
structure D(P:Program)(N kb kf:Nat)(x:W3)(Q:Exit->Env->A4->Prop)(env:Env)(h:A4):Prop where
 out:∀c,D0 P N c=some x->∀(σ0 σ:Sg) (a:Act),St σ h env N a->Le σ0 σ->Low σ0 kb kf->c.wp P (c1b σ0 N Q) a σ.w
structure DL(P:Program)(N kb kf:Nat)(x:W3)(Q:Exit->Env->A4->Prop)(env:Env)(h:A4):Prop where
 out:∀c,D0 P N c=some x->∀(σ0 σ:Sg) (a:Act),St σ h env N a->Le σ0 σ->Low σ0 kb kf->d80 P c (c1b σ0 N Q) a σ.w
def h6z(P:Program)(c rest:Code)(Q:Exit->Act->World->Prop)(a:Act)(w:World):Prop:=∀b k cs,∃e a' w',Q e a' w'/\Arrives P (lone (b.at a (.code rest::.inScope c::k)) cs w) b k cs e a' w'
structure DG(P:Program)(N kb kf:Nat)(x:W3)(l:Nat)(Q:Exit->Env->A4->Prop)(env:Env)(h:A4):Prop where
 out:∀c rest,D0 P N c=some x->findLabel c l=some rest->∀(σ0 σ:Sg) (a:Act),St σ h env N a->Le σ0 σ->Low σ0 kb kf->h6z P c rest (c1b σ0 N Q) a σ.w
section
variable {P:Program}{h h':A4}{env env':Env}{N kb kf:Nat}{Q:Exit->Env->A4->Prop}{x y:W3}
theorem c60(hx:C P N x Q env h):D P N kb kf x Q env h:=⟨fun c hc σ0 σ a hs hle hl=>Code.wp_mono (fun e a' w hh=>hh.up hle) (hx.out c hc σ a hs)⟩
theorem Inv.low{σ:Sg}(hi:Inv h σ)(h1:h.blks.length<=kb)(h2:h.bufs.length<=kf):Low σ kb kf:=by
 refine⟨fun k b hk=>?_,fun id e he=>?_⟩
 ·have:=hi.name hk;omega
 ·have:=(List.getElem?_eq_some_iff.1 (hi.bufdom id e he)).1;omega
theorem c25(h1:h.blks.length<=kb)(h2:h.bufs.length<=kf)(hx:D P N kb kf x Q env h):e0f P N x Q env h:=fun c hc σ a hs=>hx.out c hc σ σ a hs (Le.refl σ) (hs.inv.low h1 h2)
theorem g0n{gl:List (Nat × List AV)}{f:FuncId}{ac:W3}{rs:List c06}(hf:b37 P f=some (N,ac,rs)){args:List AV}{r:AV}{e₀:Env}(hn:args.length<=N)(he:c2u 0 args=e₀)
  (hbody:D P N 0 0 ac (g3b rs r) e₀ ⟨[],[],gl⟩):B8 P gl f args r:=g08 hf hn he ⟨c25 (Nat.le_refl _) (Nat.le_refl _) hbody⟩
theorem f51{ops:List D5}(hv:V P ops env h fun env' h'=>Q .normal env' h'):D P N kb kf (.region ops) Q env h:=c60 (f35 hv)
theorem f40(S:List (Nat × List AV)){ord:List (List Nat)}{al tl:List D5}(hok:okq al=true)(hst:e0r (clo ord) al=true)(hS:inS S h=S.map fun p=>some (some p.2))(hv:Sp P S h.globs true al 0 env h fun F h'=>vd P tl F h' fun env' h'=>Q .normal env' h'):D P N kb kf (.drawn ord al tl) Q env h:=c60 (f39 S hok hst hS hv)
theorem f2h(hq:Q .normal env h):D P N kb kf .skip Q env h:=c60 (g3z hq)
theorem g7k{id:Nat}(hq:Q (.exit id) env h):D P N kb kf (.exit id) Q env h:=c60 (g4y hq)
theorem f3f(hq:Q .ret env h):D P N kb kf .ret Q env h:=c60 (g9t hq)
theorem f9l{l:Nat}(hq:Q .normal env h):D P N kb kf (.label l) Q env h:=c60 (g24 hq)
theorem g3e{l:Nat}(hq:Q (.goto l) env h):D P N kb kf (.goto l) Q env h:=c60 (g66 hq)
theorem d9j(hg:∀(σ:Sg) (a:Act),St σ h env N a->∃σ' h' env',σ'.w=σ.w/\Le σ σ'/\St σ' h' env' N a/\D P N kb kf x Q env' h'):D P N kb kf x Q env h:=⟨by
 intro c hc σ0 σ a hs hle hl;obtain⟨σ',h',env',hw,l1,s1,hx⟩:=hg σ a hs;rw[<-hw];exact hx.out c hc σ0 σ' a s1 (hle.trans l1) hl⟩
theorem e1f(hg:∀(σ:Sg) (a:Act),St σ h env N a->∃σ' h' env',σ'.w=σ.w/\Le σ σ'/\St σ' h' env' N a/\DL P N kb kf x Q env' h'):DL P N kb kf x Q env h:=⟨by
 intro c hc σ0 σ a hs hle hl;obtain⟨σ',h',env',hw,l1,s1,hx⟩:=hg σ a hs;rw[<-hw];exact hx.out c hc σ0 σ' a s1 (hle.trans l1) hl⟩
theorem e2b{l:Nat}(hg:∀(σ:Sg) (a:Act),St σ h env N a->∃σ' h' env',σ'.w=σ.w/\Le σ σ'/\St σ' h' env' N a/\DG P N kb kf x l Q env' h'):DG P N kb kf x l Q env h:=⟨by
 intro c rest hc hr σ0 σ a hs hle hl;obtain⟨σ',h',env',hw,l1,s1,hx⟩:=hg σ a hs;rw[<-hw];exact hx.out c rest hc hr σ0 σ' a s1 (hle.trans l1) hl⟩
theorem f9p(e:Env)(he:e.map (fun p=>get env p.1)=e.map fun p=>some p.2){σ:Sg}{a:Act}(hs:St σ h env N a):St σ h e N a:=⟨hs.inv,fun t av hg=>hs.env t av ((d6k e he).get t av hg),hs.size,hs.defers⟩
theorem f8r{l:Nat}(e:Env)(he:e.map (fun p=>get env p.1)=e.map fun p=>some p.2)(hx:DG P N kb kf x l Q e h):DG P N kb kf x l Q env h:=e2b fun σ a hs=>⟨σ,h,e,rfl,Le.refl σ,f9p e he hs,hx⟩
theorem f65{t:Nat}(size:Nat)(hg:get env t=some .nil){σ:Sg}{a:Act}(hs:St σ h env N a):∃σ',σ'.w=σ.w/\Le σ σ'/\St σ' ⟨h.blks,h.bufs++[(0,size)],h.globs⟩ ((t,.sl [] (.own h.bufs.length))::env) N a:=by
 obtain⟨σ1,w1,l1,i1,b1⟩:=c8s hs.inv ⟨0,size,none,0⟩ rfl (fun _=>rfl);refine⟨σ1,w1,l1,i1,?_,hs.size,hs.defers⟩;intro u av hu;simp only[get]at hu;split at hu
 ·rename_i htu;subst htu;cases hu;obtain⟨y,h1,h2⟩:=hs.env t _ hg;cases h2;exact⟨_,h1,.sl0 _ ⟨_,b1,Nat.le_refl _,fun _=>⟨rfl,rfl⟩⟩⟩
 ·exact(hs.env.mono l1) u av hu
theorem h2b{t:Nat}(size:Nat)(hg:get env t=some .nil)(hx:D P N kb kf x Q ((t,.sl [] (.own h.bufs.length))::env) ⟨h.blks,h.bufs++[(0,size)],h.globs⟩):D P N kb kf x Q env h:=d9j fun σ a hs=>by
 obtain⟨σ',h1,h2,h3⟩:=f65 size hg hs;exact⟨σ',_,_,h1,h2,h3,hx⟩
theorem f03{k j:Nat}(size:Nat){cells:List AV}(hk:h.blks[k]? =some (some cells))(hj:cells[j]? =some .nil){σ:Sg}{a:Act}(hs:St σ h env N a):∃σ',σ'.w=σ.w/\Le σ σ'/\St σ' ⟨h.blks.set k (some (cells.set j (.sl [] (.own h.bufs.length)))),h.bufs++[(0,size)],h.globs⟩ env N a:=by
 obtain⟨σ1,w1,l1,i1,b1⟩:=c8s hs.inv ⟨0,size,none,0⟩ rfl (fun _=>rfl);refine⟨σ1,w1,l1,?_,hs.env.mono l1,hs.size,hs.defers⟩;obtain⟨b,hb,hat⟩:=i1.blk k cells hk;have hkl:k<h.blks.length:=(List.getElem?_eq_some_iff.1 hk).1;have hjl:j<cells.length:=(List.getElem?_eq_some_iff.1 hj).1
 have hat':b0x σ1 b (cells.set j (.sl [] (.own h.bufs.length))):=by
  cases hat with
  |cells _ cs rest elem h5 h6=>
   refine .cells _ cs rest elem h5 ⟨by rw[h6.1];simp,fun i av hi=>?_⟩;rw[List.getElem?_set]at hi;split at hi
   ·rename_i hij;subst hij;cases hi;obtain⟨_,y,h7,h8⟩:=h6.2 j _ hj;cases h8;exact⟨rfl,_,h7,.sl0 _ ⟨_,b1,Nat.le_refl _,fun _=>⟨rfl,rfl⟩⟩⟩
   ·exact h6.2 i av hi
  |it s p h5=>
   cases j with
   |zero=>simp at hj
   |succ j=>simp at hj
 have hne:∀c,(cells.set j (.sl [] (.own h.bufs.length))=c)->c≠[]:=by
  rintro c rfl he;have:=congrArg List.length he;simp at this;subst this;simp at hjl
 refine⟨fun n c hn=>?_,fun n b' hn=>?_,fun n m b' c c' hn hm hc hc' h1 h2=>?_,i1.buf,i1.bufdom,i1.bufle,i1.bufat,i1.bufinj,i1.bufblk,i1.outer,i1.glob⟩
 ·rw[List.getElem?_set]at hn;split at hn
  ·rename_i hkn;subst hkn;cases hn;exact⟨b,hb,hat'⟩
  ·exact i1.blk n c hn
 ·obtain⟨c,hc⟩:=i1.dom n b' hn;rw[List.getElem?_set];split
  ·rename_i hkn;exact⟨_,rfl⟩
  ·exact⟨c,hc⟩
 ·have old:∀{n:Nat}{c:List AV},(h.blks.set k (some (cells.set j (.sl [] (.own h.bufs.length)))))[n]? =some (some c)->c≠[]->∃d,h.blks[n]? =some (some d)/\d≠[]:=by
   intro n c hn hc;rw[List.getElem?_set]at hn;split at hn
   ·rename_i hkn;subst hkn;exact⟨cells,hk,by rintro rfl;simp at hj⟩
   ·exact⟨c,hn,hc⟩
  obtain⟨d,hd,hd0⟩:=old hn hc;obtain⟨d',hd',hd0'⟩:=old hm hc';exact i1.inj n m b' d d' hd hd' hd0 hd0' h1 h2
theorem g5n{k j:Nat}{cells:List AV}{av b:AV}(hk:h.blks[k]? =some (some cells))(hj:cells[j]? =some av)(hav:nz1 av=b)(hit:a8s cells=true)(hit2:a8s (cells.set j b)=true){σ:Sg}{a:Act}(hs:St σ h env N a):St σ ⟨h.blks.set k (some (cells.set j b)),h.bufs,h.globs⟩ env N a:=by
 subst hav;have i1:=hs.inv;refine⟨?_,hs.env,hs.size,hs.defers⟩;obtain⟨b,hb,hat⟩:=i1.blk k cells hk;have hjl:j<cells.length:=(List.getElem?_eq_some_iff.1 hj).1;have hkl:k<h.blks.length:=(List.getElem?_eq_some_iff.1 hk).1
 have hat':b0x σ b (cells.set j (nz1 av)):=by
  cases hat with
  |cells _ cs rest elem h5 h6=>
   refine .cells _ cs rest elem h5 ⟨by rw[h6.1];simp,fun i av' hi=>?_⟩;rw[List.getElem?_set]at hi;split at hi
   ·rename_i hij;subst hij;cases hi;obtain⟨h1,y,h7,h8⟩:=h6.2 j _ hj;exact⟨by rw[e2w];exact h1,y,h7,h8.nz1⟩
   ·exact h6.2 i av' hi
  |it s p h5=>cases hit
 refine⟨fun n c hn=>?_,fun n b' hn=>?_,fun n m b' c c' hn hm hc hc' h1 h2=>?_,i1.buf,i1.bufdom,i1.bufle,i1.bufat,i1.bufinj,i1.bufblk,i1.outer,i1.glob⟩
 ·rw[List.getElem?_set]at hn;split at hn
  ·rename_i hkn;subst hkn;cases hn;exact⟨b,hb,hat'⟩
  ·exact i1.blk n c hn
 ·obtain⟨c,hc⟩:=i1.dom n b' hn;rw[List.getElem?_set];split
  ·rename_i hkn;subst hkn;exact⟨_,rfl⟩
  ·exact⟨c,hc⟩
 ·have old:∀{n:Nat}{c:List AV},(h.blks.set k (some (cells.set j (nz1 av))))[n]? =some (some c)->c≠[]->∃d,h.blks[n]? =some (some d)/\d≠[]:=by
   intro n c hn hc;rw[List.getElem?_set]at hn;split at hn
   ·rename_i hkn;subst hkn;exact⟨cells,hk,by rintro rfl;simp at hj⟩
   ·exact⟨c,hn,hc⟩
  obtain⟨d,hd,hd0⟩:=old hn hc;obtain⟨d',hd',hd0'⟩:=old hm hc';exact i1.inj n m b' d d' hd hd' hd0 hd0' h1 h2
theorem d9y(m:List Bool)(n:Nat){σ0 σ:Sg}{a:Act}(hs:St σ h env N a)(hle:Le σ0 σ)(hl:Low σ0 kb kf)(hm:∀k,k<kb->m.getD k false=true)(hn:kf<=n)(he:a77 m n env=true)(hb:a5d m n (Z7 m h.blks)=true)(hg:X3 h.globs=true):
  St (σ.cut m n) ⟨Z7 m h.blks,h.bufs.take n,h.globs⟩ env N a/\Le σ0 (σ.cut m n):=
 ⟨⟨hs.inv.cut m n hb hg,fun t av ht=>by obtain⟨y,h1,h2⟩:=hs.env t av ht;exact⟨y,h1,h2.cut (c38 he ht)⟩,hs.size,hs.defers⟩,hle.cut hl hm hn⟩
theorem g2b(m:List Bool)(n:Nat)(hm:∀k,k<kb->m.getD k false=true)(hn:kf<=n)(he:a77 m n env=true)(hb:a5d m n (Z7 m h.blks)=true)(hg:X3 h.globs=true)(hx:DL P N kb kf x Q env ⟨Z7 m h.blks,h.bufs.take n,h.globs⟩):DL P N kb kf x Q env h:=⟨by
 intro c hc σ0 σ a hs hle hl;obtain⟨h1,h2⟩:=d9y m n hs hle hl hm hn he hb hg;exact hx.out c hc σ0 (σ.cut m n) a h1 h2 hl⟩
theorem f2b{l:Nat}(m:List Bool)(n:Nat)(hm:∀k,k<kb->m.getD k false=true)(hn:kf<=n)(he:a77 m n env=true)(hb:a5d m n (Z7 m h.blks)=true)(hg:X3 h.globs=true)(hx:DG P N kb kf x l Q env ⟨Z7 m h.blks,h.bufs.take n,h.globs⟩):DG P N kb kf x l Q env h:=⟨by
 intro c rest hc hr σ0 σ a hs hle hl;obtain⟨h1,h2⟩:=d9y m n hs hle hl hm hn he hb hg;exact hx.out c rest hc hr σ0 (σ.cut m n) a h1 h2 hl⟩
theorem g6s(m:List Bool)(n:Nat)(hm:∀k,k<kb->m.getD k false=true)(hn:kf<=n)(he:a77 m n env=true)(hb:a5d m n (Z7 m h.blks)=true)(hg:X3 h.globs=true)(hx:D P N kb kf x Q env ⟨Z7 m h.blks,h.bufs.take n,h.globs⟩):D P N kb kf x Q env h:=⟨by
 intro c hc σ0 σ a hs hle hl;obtain⟨h1,h2⟩:=d9y m n hs hle hl hm hn he hb hg;exact hx.out c hc σ0 (σ.cut m n) a h1 h2 hl⟩
theorem g2d{c:Code}(hc:D0 P N c=some (.seq x y)):∃cx cy,c=.seq cx cy/\D0 P N cx=some x/\D0 P N cy=some y:=by
 cases c<;>(try simp only[D0,Option.bind_eq_some_iff,Option.map_eq_some_iff]at hc)
 case seq cx cy=>obtain⟨x',hx',y',hy',he⟩:=hc;cases he;exact⟨cx,cy,rfl,hx',hy'⟩
 case region id ops d=>
  cases d<;>simp only[D0,Option.bind_eq_some_iff,Option.map_eq_some_iff]at hc
  ·obtain⟨_,_,hx⟩:=hc;cases hx
  ·obtain⟨_,_,_,_,hx⟩:=hc;split at hx<;>cases hx
 all_goals first
  |(cases hc;done)
  |(obtain⟨_,_,hx⟩:=hc;cases hx;done)
  |(obtain⟨_,_,_,_,hx⟩:=hc;cases hx;done)
  |(obtain⟨_,_,_,_,_,_,hx⟩:=hc;cases hx;done)
theorem e7n{c:Code}{id:Nat}(hc:D0 P N c=some (.block id x)):∃cx,c=.block id cx/\D0 P N cx=some x:=by
 cases c<;>(try simp only[D0,Option.bind_eq_some_iff,Option.map_eq_some_iff]at hc)
 case block i cx=>obtain⟨x',hx',he⟩:=hc;cases he;exact⟨cx,rfl,hx'⟩
 case region id ops d=>
  cases d<;>simp only[D0,Option.bind_eq_some_iff,Option.map_eq_some_iff]at hc
  ·obtain⟨_,_,hx⟩:=hc;cases hx
  ·obtain⟨_,_,_,_,hx⟩:=hc;split at hx<;>cases hx
 all_goals first
  |(cases hc;done)
  |(obtain⟨_,_,hx⟩:=hc;cases hx;done)
  |(obtain⟨_,_,_,_,hx⟩:=hc;cases hx;done)
  |(obtain⟨_,_,_,_,_,_,hx⟩:=hc;cases hx;done)
theorem f3t{c:Code}(hc:D0 P N c=some (.loop x)):∃cx,c=.loop cx/\D0 P N cx=some x:=by
 cases c<;>(try simp only[D0,Option.bind_eq_some_iff,Option.map_eq_some_iff]at hc)
 case loop cx=>obtain⟨x',hx',he⟩:=hc;cases he;exact⟨cx,rfl,hx'⟩
 case region id ops d=>
  cases d<;>simp only[D0,Option.bind_eq_some_iff,Option.map_eq_some_iff]at hc
  ·obtain⟨_,_,hx⟩:=hc;cases hx
  ·obtain⟨_,_,_,_,hx⟩:=hc;split at hx<;>cases hx
 all_goals first
  |(cases hc;done)
  |(obtain⟨_,_,hx⟩:=hc;cases hx;done)
  |(obtain⟨_,_,_,_,hx⟩:=hc;cases hx;done)
  |(obtain⟨_,_,_,_,_,_,hx⟩:=hc;cases hx;done)
theorem e2g(hx:D P N kb kf x (e7d (fun e h=>D P N kb kf y Q e h) Q) env h):D P N kb kf (.seq x y) Q env h:=⟨by
 intro c hc σ0 σ a hs hle hl;obtain⟨cx,cy,rfl,hcx,hcy⟩:=g2d hc;refine wp_seq (Code.wp_mono (fun e a' w' hh=>?_) (hx.out cx hcx σ0 σ a hs hle hl));obtain⟨h1,σ2,h2,env2,rfl,q2,q3,q4⟩:=hh;cases e with
 |normal=>exact q4.out cy hcy σ0 σ2 a' q3 q2 hl
 |panic _=>exact h1.elim
 |outgrown=>exact h1.elim
 |exit _=>exact⟨trivial,σ2,h2,env2,rfl,q2,q3,q4⟩
 |goto _=>exact⟨trivial,σ2,h2,env2,rfl,q2,q3,q4⟩
 |ret=>exact⟨trivial,σ2,h2,env2,rfl,q2,q3,q4⟩⟩
theorem f5f{id:Nat}(hx:D P N kb kf x (d4m id Q) env h):D P N kb kf (.block id x) Q env h:=⟨by
 intro c hc σ0 σ a hs hle hl;obtain⟨cx,rfl,hcx⟩:=e7n hc;refine wp_block (Code.wp_mono (fun e a' w' hh=>?_) (hx.out cx hcx σ0 σ a hs hle hl));obtain⟨h1,σ2,h2,env2,rfl,q2,q3,q4⟩:=hh;cases e with
 |panic _=>exact h1.elim
 |outgrown=>exact h1.elim
 |normal=>exact⟨trivial,σ2,h2,env2,rfl,q2,q3,q4⟩
 |goto _=>exact⟨trivial,σ2,h2,env2,rfl,q2,q3,q4⟩
 |ret=>exact⟨trivial,σ2,h2,env2,rfl,q2,q3,q4⟩
 |exit i=>
  simp only[d4m]at q4;simp only[Exit.inBlock];split
  ·rename_i hi;rw[if_pos hi]at q4;exact⟨trivial,σ2,h2,env2,rfl,q2,q3,q4⟩
  ·rename_i hi;rw[if_neg hi]at q4;exact⟨trivial,σ2,h2,env2,rfl,q2,q3,q4⟩⟩
theorem g01(hx:DL P N kb kf x Q env h):D P N kb kf (.loop x) Q env h:=⟨by
 intro c hc σ0 σ a hs hle hl;obtain⟨cx,rfl,hcx⟩:=f3t hc;exact f3w (hx.out cx hcx σ0 σ a hs hle hl)⟩
theorem e7j(hx:D P N kb kf x (e7d (fun e h=>DL P N kb kf x Q e h) Q) env h):DL P N kb kf x Q env h:=⟨by
 intro c hc σ0 σ a hs hle hl;refine d62 (Code.wp_mono (fun e a' w' hh=>?_) (hx.out c hc σ0 σ a hs hle hl));obtain⟨h1,σ2,h2,env2,q1,q2,q3,q4⟩:=hh;cases e with
 |panic _=>exact h1.elim
 |outgrown=>exact h1.elim
 |normal=>subst q1;exact q4.out c hc σ0 σ2 a' q3 q2 hl
 |goto _=>exact⟨trivial,σ2,h2,env2,q1,q2,q3,q4⟩
 |ret=>exact⟨trivial,σ2,h2,env2,q1,q2,q3,q4⟩
 |exit i=>exact⟨trivial,σ2,h2,env2,q1,q2,q3,q4⟩⟩
theorem e2x{c:K4}{b:Bool}(hc:c.ev env=some (.v (.bool b)))(h1:b=true->D P N kb kf x Q env h)(h2:b=false->D P N kb kf y Q env h):D P N kb kf (.cond c x y) Q env h:=⟨by
 intro cc hcc σ0 σ a hs hle hl;cases cc<;>(try simp only[D0,Option.bind_eq_some_iff,Option.map_eq_some_iff]at hcc)
 case cond co cx cy=>
  obtain⟨c',hc',x',hx',y',hy',he⟩:=hcc;cases he;obtain⟨av,hr,hk⟩:=opd (K:=fun v=>v=.v (.bool b)) hs.env hc' (by rw[hc];rfl);subst hk;generalize hce:a.eval co=ce at hr;cases hr with
  |v _ _=>
  cases b with
  |true=>exact wp_cond_true hce ((h1 rfl).out cx hx' σ0 σ a hs hle hl)
  |false=>exact wp_cond_false hce ((h2 rfl).out cy hy' σ0 σ a hs hle hl)
 case region id ops d=>
  cases d<;>simp only[D0,Option.bind_eq_some_iff,Option.map_eq_some_iff]at hcc
  ·obtain⟨_,_,hx⟩:=hcc;cases hx
  ·obtain⟨_,_,_,_,hx⟩:=hcc;split at hx<;>cases hx
 all_goals first
  |(cases hcc;done)
  |(obtain⟨_,_,hx⟩:=hcc;cases hx;done)
  |(obtain⟨_,_,_,_,hx⟩:=hcc;cases hx;done)
  |(obtain⟨_,_,_,_,_,_,hx⟩:=hcc;cases hx;done)⟩
theorem e3k{c:K4}{b:Bool}(hc:c.ev env=some (.v (.bool b)))(hb:b=true)(h1:D P N kb kf x Q env h):D P N kb kf (.cond c x y) Q env h:=e2x hc (fun _=>h1) (fun h=>by rw[hb]at h;cases h)
theorem e16{c:K4}{b:Bool}(hc:c.ev env=some (.v (.bool b)))(hb:b=false)(h1:D P N kb kf y Q env h):D P N kb kf (.cond c x y) Q env h:=e2x hc (fun h=>by rw[hb]at h;cases h) (fun _=>h1)
theorem f43{l:Nat}{rest:W3}(hf:b9j x l=some rest)(hx:D P N kb kf x (g0i l (fun e h=>DG P N kb kf x l Q e h) Q) env h):D P N kb kf (.scope x) Q env h:=⟨by
 intro c hc σ0 σ a hs hle hl;obtain⟨c',rfl,hc'⟩:=d76 hc;obtain⟨r,hr,hrc⟩:=(e3t l hc').1 rest hf;intro b k cs;have hg:gotoIn l (.inScope c'::k)=some (.code r::.inScope c'::k):=by simp[gotoIn,hr]
 obtain⟨e,a₁,w₁,hq,harr⟩:=hx.out c' hc' σ0 σ a hs hle hl b (.inScope c'::k) cs;obtain⟨h1,σ2,h2,env2,rfl,q2,q3,q4⟩:=hq;cases e with
 |normal=>exact⟨.normal,a₁,_,⟨trivial,σ2,h2,env2,rfl,q2,q3,q4⟩,.head step_scope (Steps.trans harr (.one step_inScope))⟩
 |exit id=>exact⟨.exit id,a₁,_,⟨trivial,σ2,h2,env2,rfl,q2,q3,q4⟩,fun k' hk=>.head step_scope (harr k' (by simp[exitTo,hk]))⟩
 |goto l'=>
  obtain⟨rfl,hJ⟩:=q4;obtain⟨e₂,a₂,w₂,hq₂,harr₂⟩:=hJ.out c' r hc' hr σ0 σ2 a₁ q3 q2 hl b k cs;exact⟨e₂,a₂,w₂,hq₂,.of_steps (.head step_scope (harr _ hg)) harr₂⟩
 |ret=>exact⟨_,a₁,_,⟨trivial,σ2,h2,env2,rfl,q2,q3,q4⟩,.of_steps (.one step_scope) harr⟩
 |panic ch=>exact h1.elim
 |outgrown=>exact h1.elim⟩
theorem e6d{l:Nat}{rest:W3}(hf:b9j x l=some rest)(hx:D P N kb kf rest (g0i l (fun e h=>DG P N kb kf x l Q e h) Q) env h):DG P N kb kf x l Q env h:=⟨by
 intro c' r0 hc' hr0 σ0 σ a hs hle hl;obtain⟨r,hr,hrc⟩:=(e3t l hc').1 rest hf;obtain rfl:r=r0:=by rw[hr]at hr0;exact Option.some.inj hr0
 intro b k cs;have hg:gotoIn l (.inScope c'::k)=some (.code r::.inScope c'::k):=by simp[gotoIn,hr]
 obtain⟨e,a₁,w₁,hq,harr⟩:=hx.out r hrc σ0 σ a hs hle hl b (.inScope c'::k) cs;obtain⟨h1,σ2,h2,env2,rfl,q2,q3,q4⟩:=hq;cases e with
 |normal=>exact⟨.normal,a₁,_,⟨trivial,σ2,h2,env2,rfl,q2,q3,q4⟩,Steps.trans harr (.one step_inScope)⟩
 |exit id=>exact⟨.exit id,a₁,_,⟨trivial,σ2,h2,env2,rfl,q2,q3,q4⟩,fun k' hk=>harr k' (by simp[exitTo,hk])⟩
 |goto l'=>
  obtain⟨rfl,hJ⟩:=q4;obtain⟨e₂,a₂,w₂,hq₂,harr₂⟩:=hJ.out c' r hc' hr σ0 σ2 a₁ q3 q2 hl b k cs;exact⟨e₂,a₂,w₂,hq₂,.of_steps (harr _ hg) harr₂⟩
 |ret=>exact⟨_,a₁,_,⟨trivial,σ2,h2,env2,rfl,q2,q3,q4⟩,harr⟩
 |panic ch=>exact h1.elim
 |outgrown=>exact h1.elim⟩
theorem f31(hx:D P N kb kf x (f1v Q) env h):D P N kb kf (.scope x) Q env h:=⟨by
 intro c hc σ0 σ a hs hle hl;obtain⟨c',rfl,hc'⟩:=d76 hc;refine wp_scope_straight (Code.wp_mono (fun e a' w' hh=>?_) (hx.out c' hc' σ0 σ a hs hle hl));obtain⟨h1,σ2,h2,env2,rfl,q2,q3,q4⟩:=hh;cases e with
 |panic _=>exact h1.elim
 |outgrown=>exact h1.elim
 |goto _=>exact q4.elim
 |normal=>exact⟨trivial,σ2,h2,env2,rfl,q2,q3,q4⟩
 |ret=>exact⟨trivial,σ2,h2,env2,rfl,q2,q3,q4⟩
 |exit i=>exact⟨trivial,σ2,h2,env2,rfl,q2,q3,q4⟩⟩
end
theorem f7h{P:Program}{o:AOp}{env:Env}{h h':A4}{av:AV}(he:e5u false noC o env h=some (av,h')):a2g P o env h av h':=fun K hk=>d9t e8r he hk
def fz(n:Nat)(cells:List AV):AV->AV
 |.ptr k off=>if k=n then .elt cells off else .ptr k off
 |a=>a
def fzE(n:Nat)(cells:List AV):Env->Env
 |[]=>[]
 |(t,a)::e=>(t,fz n cells a)::fzE n cells e
theorem e8l{n:Nat}{cells:List AV}:∀{e:Env}{t:Nat}{b:AV},get (fzE n cells e) t=some b->∃a,get e t=some a/\b=fz n cells a
 |[],_,_,h=>by cases h
 |(u,a)::e,t,b,h=>by
  simp only[fzE,get]at h ⊢;split at h
  ·rename_i hu;rw[if_pos hu];cases h;exact⟨a,rfl,rfl⟩
  ·rename_i hu;rw[if_neg hu];exact e8l h
def c48:List Bool->List (Option (List AV))->Bool
 |b::m,x::l=>(match b,x with|true,some []=>false|_,_=>true)&&c48 m l
 |_,_=>true
theorem c3g:∀{m:List Bool}{l:List (Option (List AV))}{k:Nat}{c:List AV},c48 m l=true->m.getD k false=true->l[k]? =some (some c)->c≠[]
 |[],_,_,_,_,h,_=>by simp at h
 |b::m,[],_,_,_,_,h=>by simp at h
 |b::m,x::l,0,c,h,h1,h2=>by
  have h1':b=true:=h1;simp only[List.getElem?_cons_zero,Option.some.injEq]at h2;subst h1' h2;rintro rfl;simp[c48]at h
 |b::m,x::l,k+1,c,h,h1,h2=>by
  simp only[c48,Bool.and_eq_true]at h;exact c3g h.2 (by simpa using h1) (by simpa using h2)
theorem f5a{P:Program}{h:A4}{env:Env}{N kb kf:Nat}{Q:Exit->Env->A4->Prop}{x:W3}(n:Nat)(m:List Bool)(k:Nat)(cells:List AV)(hb:h.blks[n]? =some (some cells))(hit:a8s cells=true)(hmn:m.getD n false=false)(hal:c48 m h.blks=true)(hm:∀k,k<kb->m.getD k false=true)(hn:kf<=k)
  {e:Env}(hE:fzE n cells env=e) (he:a77 m k e=true) (hB:a5d m k (Z7 m h.blks)=true) (hg:X3 h.globs=true) (hx:D P N kb kf x Q e ⟨Z7 m h.blks,h.bufs.take k,h.globs⟩):D P N kb kf x Q env h:=⟨by
 subst hE;intro c hc σ0 σ a hs hle hl;refine hx.out c hc σ0 (σ.cut m k) a ⟨hs.inv.cut m k hB hg,fun t av ht=>?_,hs.size,hs.defers⟩ (hle.cut hl hm hn) hl;have hlow:=c38 he ht;obtain⟨a0,h1,rfl⟩:=e8l ht;obtain⟨y,h2,h3⟩:=hs.env t a0 h1;refine⟨y,h2,?_⟩;cases a0 with
 |ptr j off=>
  simp only[fz]at hlow ⊢;split at hlow
  ·rename_i hj;subst hj;rw[if_pos rfl];cases h3 with
   |ptr _ _ b hblk=>
   obtain⟨b',h4,h5⟩:=hs.inv.blk j cells hb;rw[hblk]at h4;cases h4;cases h5 with
   |it s p h6=>cases hit
   |cells _ cs rest elem h6 h7=>
   have hlc:lowL m k cells=true:=by simpa[low]using hlow
   have key:∀(i:Nat) (av:AV),cells[i]? =some av->∃xv,σ.w.cell? ⟨b,i,none⟩=some xv/\Rel σ av xv/\av.isCell=true:=by
    intro i av hi;obtain⟨q1,xv,q2,q3⟩:=h7.2 i av hi;refine⟨xv,?_,q3,q1⟩;have hlt:i<cs.length:=(List.getElem?_eq_some_iff.1 q2).1;simp[World.cell?,h6,List.getElem?_append_left hlt,q2]
   have hne:cells≠[]:=by rintro rfl;cases hit
   have:=Rel.elt (σ:=σ.cut m k) cells off b 0 (fun i=>(σ.w.cell? ⟨b,i,none⟩).getD undef) (fun i av hi=>by
    obtain⟨xv,q1,q2,q3⟩:=key i av hi;refine⟨by show σ.w.cell? _=_;rw[Nat.zero_add,q1];rfl,?_,q3⟩;rintro (ho|⟨j',hj'⟩|⟨id,eb,he1,he2⟩)
    ·exact(hs.inv.outer _ _ ho).2 (.inl ⟨j,hblk⟩)
    ·simp only[Sg.cut]at hj';split at hj'
     ·rename_i hmj;obtain⟨c',hc'⟩:=hs.inv.dom j' b hj';have:=hs.inv.inj j' j b c' cells hc' hb (c3g hal hmj hc') hne hj' hblk;subst this;rw[hmn]at hmj;cases hmj
     ·cases hj'
    ·simp only[Sg.cut]at he1;split at he1
     ·exact hs.inv.bufblk id eb j b _ he1 he2 hblk
     ·cases he1) (fun i av hi=>by
    obtain⟨xv,q1,q2,q3⟩:=key i av hi;rw[q1];exact q2.cut (a5e hlc i av hi))
   simpa using this
  ·rename_i hj;rw[if_neg hj];exact h3.cut hlow
 |_=>exact h3.cut hlow⟩
theorem f9u(a:AV):nz1 (nz1 a)=nz1 a:=by cases a<;>rfl
theorem f1o(a:AV):nzA (nzA a)=nzA a:=by
 cases a with
 |agg cs=>simp only[nzA,List.map_map];congr 1;exact List.map_congr_left fun x _=>f9u x
 |_=>rfl
theorem g4t(a:AV):nz (nz a)=nz a:=by
 cases a with
 |tuple vs=>simp only[nz,List.map_map];congr 1;exact List.map_congr_left fun x _=>f1o x
 |agg cs=>exact f1o (.agg cs)
 |_=>rfl
def a6z(P:Program)(gl:List (Nat × List AV))(f:AV)(args:List AV)(r:AV):Prop:=∃g a b,f=.clo (.func g) a b/\plainL ((a++args++b).map nz)=true/\B8 P gl g ((a++args++b).map nz) r
theorem g2t{P:Program}{h:A4}{env:Env}{f:K4}{args:List K4}{F:AV}{l l':List AV}{r:AV}(hf:f.ev env=some F)(ha:evs env args=some l)(hl:l.map nz=l')(hgl:X3 h.globs=true)(hc:a6z P h.globs F l' r):a2g P (.call f args) env h r h:=by
 obtain⟨g,a,b,rfl,hp,hn⟩:=hc;refine f9c hf ha ?_ hgl hp hn;subst hl;simp only[List.map_append,List.map_map]
 congr 2
 exact List.map_congr_left fun x _=>(g4t x).symm
theorem g77{P:Program}{h:A4}{env:Env}{x y z:K4}{k k' k'':IntKind}{a b c:Int}(hx:x.ev env=some (.v (.int k a)))(hy:y.ev env=some (.v (.int k' b)))(hz:z.ev env=some (.v (.int k'' c))):a2g P (.minmax true [x,y,z]) env h (.v (.int k (max (max a b) c))) h:=fun K hk=>
 (c83 (l:=[.v (.int k a),.v (.int k' b),.v (.int k'' c)]) (v:=.int k (max (max a b) c)) (by simp[evs,hx,hy,hz]) (by simp only[mmx,if_true];congr 2;(repeat' split)<;>omega) hk).out
theorem g74{P:Program}{h:A4}{env:Env}{x y z:K4}{k k' k'':IntKind}{a b c:Int}(hx:x.ev env=some (.v (.int k a)))(hy:y.ev env=some (.v (.int k' b)))(hz:z.ev env=some (.v (.int k'' c))):a2g P (.minmax false [x,y,z]) env h (.v (.int k (min (min a b) c))) h:=fun K hk=>
 (c83 (l:=[.v (.int k a),.v (.int k' b),.v (.int k'' c)]) (v:=.int k (min (min a b) c)) (by simp[evs,hx,hy,hz]) (by simp only[mmx,Bool.false_eq_true,if_false];congr 2;(repeat' split)<;>omega) hk).out
theorem A7{a:AV}{r:List AV}(h1:plain a=true)(h2:plainL r=true):plainL (a::r)=true:=by simp only[plainL,h1,h2];rfl
theorem psl{els:List (List AV)}(h:plainLL els=true):plain (.sl els .no)=true:=by simp only[plain,h];rfl
theorem c8h{l:List AV}(h:plainL l=true):plain (.tuple l)=true:=h
theorem f0g{h:A4}{e env:Env}{N:Nat}(he:c33 e env){σ:Sg}{a:Act}(hs:St σ h env N a):St σ h e N a:=⟨hs.inv,fun t av hg=>hs.env t av (he t av hg),hs.size,hs.defers⟩
theorem g27{P:Program}{N kb kf:Nat}{x:W3}{Q:Exit->Env->A4->Prop}:c51 fun e h=>D P N kb kf x Q e h:=fun e env h he hx=>d9j fun σ a hs=>⟨σ,h,e,rfl,Le.refl σ,f0g he hs,hx⟩
theorem e5k{P:Program}{N kb kf:Nat}{x:W3}{Q:Exit->Env->A4->Prop}:c51 fun e h=>DL P N kb kf x Q e h:=fun e env h he hx=>e1f fun σ a hs=>⟨σ,h,e,rfl,Le.refl σ,f0g he hs,hx⟩
theorem b81{e env:Env}(he:c33 e env){h:A4}:∀{rs:List c06}{K:List AV->Prop},d5a e h rs K->d5a env h rs K
 |[],_,hk=>hk
 |.tmp t::r,K,hk=>he.wv (x:=.t t) hk fun a ha=>b81 he ha
 |.cell t n::r,K,hk=>by
  obtain⟨p,h1,h2⟩:=b64 hk;show wv (get env t) _;rw[he t p h1];simp only[wv,b71]at h2 ⊢;split at h2
  ·split at h2
   ·split at h2
    ·exact b81 he h2
    ·exact h2.elim
   ·exact⟨h2.1,b81 he h2.2⟩
  ·exact h2.elim
theorem d7o{rs:List c06}{r:AV}:c51 fun e h=>g3b rs r .normal e h:=fun e env h he hx=>b81 he hx
end Go.Proofs.YtidmmngcijapcaaGreat.Lift
