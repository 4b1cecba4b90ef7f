/- Part 2 of the texts that prove RowCanonicalEnd. -/
import Derived.Test.YtidmmngcijapcaaGreatRowCanonicalEndP0
import Derived.ScopeJumps
import Derived.LoopN
namespace Go.Proofs.YtidmmngcijapcaaGreat.Lift
open Go.RowKit
set_option linter.unusedVariables false
set_option linter.unusedSimpArgs false
set_option linter.unnecessarySimpa false
set_option linter.unusedSectionVars false
set_option maxRecDepth 100000
section
def d86(P:Program)(o:AOp)(env:Env)(h:A7)(av:AV):Prop:=aop P o env h fun av' h'=>av'=av/\h'=h
def vq(P:Program):List E8->Env->A7->(Env->Prop)->Prop
 |[],env,_,K=>K env
 |o::r,env,h,K=>c5e env o.guard (∃av,d86 P o.op env h av/\vq P r (c1g env o.dst av) h K) (vq P r (c0r env o.dst) h K)
def R0(t:Tmp)(l:List E8):Bool:=l.any fun o=>o.dst==some t
def E8.looks(o:E8):List Tmp:=(o.op.opds.filterMap fun|.t n=>some n|.c _=>none)++(match o.guard with|some (t,_)=>[t]|none=>[])
def okq:List E8->Bool
 |[]=>true
 |o::r=>(o.looks.all fun t=> !R0 t (o::r))&&(match o.dst with|some d=> !R0 d r|none=>true)&&okq r
def g0k(P:Program)(F:Env)(h:A7)(o:E8):Prop:=
 let does:=∃av,d86 P o.op F h av/\∀d,o.dst=some d->get F d=some av
 match o.guard with
 |none=>does
 |some (t,want)=>(∃b,get F t=some (.v (.bool b))/\(b=want->does)/\(b≠want->∀d,o.dst=some d->get F d=some (.tuple [])))\/(get F t=some (.tuple [])/\∀d,o.dst=some d->get F d=some (.tuple []))
theorem b1z(env:Env)(dst:Option Tmp)(av:AV)(t:Tmp):get (c1g env dst av) t=if dst=some t then some av else get env t:=by
 cases dst with
 |none=>simp[c1g]
 |some d=>simp[c1g,get]
theorem b3b(env:Env)(dst:Option Tmp)(t:Tmp):get (c0r env dst) t=if dst=some t then some (.tuple []) else get env t:=by
 cases dst with
 |none=>simp[c0r]
 |some d=>simp[c0r,get]
section
variable {P:Program}{σ:Sg}{h:A7}{env:Env}{N:Nat}{a:Act}
theorem e2f{K:Env->Prop}:∀(l:List E8) (env:Env),okq l=true->vq P l env h K->∃F,K F/\(∀t,R0 t l=false->get F t=get env t)/\∀o∈l,g0k P F h o
 |[],env,_,hv=>⟨env,hv,fun _ _=>rfl,fun o ho=>by cases ho⟩
 |o::r,env,hok,hv=>by
  simp only[okq,Bool.and_eq_true,List.all_eq_true]at hok;obtain⟨⟨hlook,hdst⟩,hokr⟩:=hok
  have hwr:∀t,R0 t (o::r)=false->o.dst≠some t/\R0 t r=false:=by
   intro t ht;simp only[R0,List.any_cons,Bool.or_eq_false_iff]at ht ⊢;exact⟨by simpa using ht.1,ht.2⟩
  have hd:∀d,o.dst=some d->R0 d r=false:=by
   intro d hd;rw[hd]at hdst;simpa using hdst
  have hl:∀(F:Env),(∀t,R0 t (o::r)=false->get F t=get env t)->∀t∈o.looks,get env t=get F t:=fun F hF t ht=>(hF t (by simpa using hlook t ht)).symm
  have hcong:∀(F:Env),(∀t,R0 t (o::r)=false->get F t=get env t)->∀av,d86 P o.op env h av->d86 P o.op F h av:=by
   intro F hF av hq;unfold d86 at hq ⊢;rw[<-d1a (e1:=env) (e2:=F)]
   ·exact hq
   ·intro x hx;cases x with
    |c a=>rfl
    |t n=>
     refine hl F hF n ?_;simp only[E8.looks,List.mem_append,List.mem_filterMap];exact .inl ⟨.t n,hx,rfl⟩
  have yes:(∃av,d86 P o.op env h av/\vq P r (c1g env o.dst av) h K)->∃F,K F/\(∀t,R0 t (o::r)=false->get F t=get env t)/\(∃av,d86 P o.op F h av/\∀d,o.dst=some d->get F d=some av)/\∀o'∈r,g0k P F h o':=by
   rintro⟨av,hq,hv⟩;obtain⟨F,k1,k2,k3⟩:=e2f r _ hokr hv
   have hF:∀t,R0 t (o::r)=false->get F t=get env t:=by
    intro t ht;obtain⟨h1,h2⟩:=hwr t ht;rw[k2 t h2,b1z,if_neg h1]
   refine⟨F,k1,hF,⟨av,hcong F hF av hq,fun d hd'=>?_⟩,k3⟩;rw[k2 d (hd d hd'),b1z,if_pos hd']
  have no:vq P r (c0r env o.dst) h K->∃F,K F/\(∀t,R0 t (o::r)=false->get F t=get env t)/\(∀d,o.dst=some d->get F d=some (.tuple []))/\∀o'∈r,g0k P F h o':=by
   intro hv;obtain⟨F,k1,k2,k3⟩:=e2f r _ hokr hv;refine⟨F,k1,fun t ht=>?_,fun d hd'=>?_,k3⟩
   ·obtain⟨h1,h2⟩:=hwr t ht;rw[k2 t h2,b3b,if_neg h1]
   ·rw[k2 d (hd d hd'),b3b,if_pos hd']
  simp only[vq,c5e]at hv;split at hv
  ·rename_i hg;obtain⟨F,k1,k2,k3,k4⟩:=yes hv;refine⟨F,k1,k2,fun o' ho'=>?_⟩;rcases List.mem_cons.1 ho' with rfl|ho'
   ·unfold g0k;rw[hg];exact k3
   ·exact k4 o' ho'
  ·rename_i t want hg;obtain⟨v,hget,hv⟩:=b7v hv;split at hv
   ·rename_i b
    have ht:∀F:Env,(∀t,R0 t (o::r)=false->get F t=get env t)->get F t=some (.v (.bool b)):=by
     intro F hF;rw[<-hl F hF t (by simp[E8.looks,hg])];exact hget
    by_cases hb:b=want
    ·obtain⟨F,k1,k2,k3,k4⟩:=yes (hv.1 hb);refine⟨F,k1,k2,fun o' ho'=>?_⟩;rcases List.mem_cons.1 ho' with rfl|ho'
     ·unfold g0k;rw[hg];exact .inl ⟨b,ht F k2,fun _=>k3,fun hn=>absurd hb hn⟩
     ·exact k4 o' ho'
    ·obtain⟨F,k1,k2,k3,k4⟩:=no (hv.2 (by cases b<;>cases want<;>simp_all));refine⟨F,k1,k2,fun o' ho'=>?_⟩;rcases List.mem_cons.1 ho' with rfl|ho'
     ·unfold g0k;rw[hg];exact .inl ⟨b,ht F k2,fun hy=>absurd hy hb,fun _=>k3⟩
     ·exact k4 o' ho'
   ·obtain⟨F,k1,k2,k3,k4⟩:=no hv;refine⟨F,k1,k2,fun o' ho'=>?_⟩;rcases List.mem_cons.1 ho' with rfl|ho'
    ·unfold g0k;rw[hg];exact .inr ⟨by rw[<-hl F k2 t (by simp[E8.looks,hg])];exact hget,k3⟩
    ·exact k4 o' ho'
   ·exact hv.elim
def c8s(ops:Array Oper)(i j:Nat):Bool:=match ops[i]? with
 |some o=>o.after.any fun e=>Region.binds .any e&&e.on==j
 |none=>false
def g7s(md:Region.Mode)(ops:Array Oper):Bool:=
 let L:=Region.linearise md ops 0
 (List.range ops.size).all (fun i=>L.contains i)&&(List.range L.length).all fun k=>match L[k]? with
  |some i=>match ops[i]? with
   |some o=>o.after.all fun e=> !Region.binds md e||(L.take k).contains e.on
   |none=>false
  |none=>false
def d9p(ops:Array Oper)(m:Nat)(al:List E8):Bool:=
 (g7s .any ops&&g7s .text ops&&g7s .gc ops)&&
 (List.range ops.size).all (fun i=>decide (i<m)||(List.range i).all fun j=>c8s ops i j)&&
 (List.range m).all (fun i=>match al[i]? with
  |some o=>o.looks.all fun t=>(List.range m).all fun k=> !((ops[k]?).bind (·.dst)==some t)||c8s ops i k
  |none=>false)
theorem b2h{md:Region.Mode}{ops:Array Oper}{listed:Array Bool}{i:Nat}:i∈Region.ready md ops listed↔listed.getD i true=false/\∃o,ops[i]? =some o/\∀e∈o.after,Region.binds md e=true->listed.getD e.on false=true:=by
 unfold Region.ready;simp only[List.mem_filter,List.mem_range,Bool.and_eq_true,Bool.not_eq_true'];constructor
 ·rintro⟨_,h1,h2⟩;refine⟨h1,?_⟩;cases ho:ops[i]? with
  |none=>simp[ho]at h2
  |some o=>
   refine⟨o,rfl,fun e he hb=>?_⟩;simp only[ho,Option.map_some,Option.getD_some,Array.all_eq_true']at h2;have:=h2 e he;simpa[hb]using this
 ·rintro⟨h1,o,ho,h2⟩;refine⟨(Array.getElem?_eq_some_iff.1 ho).1,h1,?_⟩;simp only[ho,Option.map_some,Option.getD_some,Array.all_eq_true'];intro e he;cases hb:Region.binds md e with
  |false=>simp
  |true=>simp[h2 e he hb]
theorem a9s{listed:Array Bool}{i j:Nat}{d:Bool}(hi:i<listed.size):(listed.setIfInBounds i true).getD j d=if i=j then true else listed.getD j d:=by
 simp only[Array.getD_eq_getD_getElem?,Array.getElem?_setIfInBounds]
 by_cases hij:i=j
 ·subst hij;simp[hi]
 ·simp[hij]
theorem d5b{listed:Array Bool}{j:Nat}(hj:j<listed.size)(d e:Bool):listed.getD j d=listed.getD j e:=by
 simp[Array.getD_eq_getD_getElem?,hj]
theorem g2w{listed:Array Bool}{j:Nat}(h:listed.getD j true=false):j<listed.size:=by
 by_cases hj:j<listed.size
 ·exact hj
 ·simp[Array.getD_eq_getD_getElem?,Array.getElem?_eq_none (Nat.le_of_not_lt hj)]at h
theorem d6n{md:Region.Mode}{e:Edge}(h:Region.binds .any e=true):Region.binds md e=true:=by
 unfold Region.binds at h ⊢;split at h<;>simp_all
theorem d1z{md:Region.Mode}{ops:Array Oper}{listed:Array Bool}{i j:Nat}(ha:c8s ops i j=true)(hj:listed.getD j true=false):i ∉ Region.ready md ops listed:=by
 intro hr;obtain⟨_,o,ho,h2⟩:=b2h.1 hr;unfold c8s at ha;rw[ho]at ha;simp only[Array.any_eq_true']at ha;obtain⟨e,he,hc⟩:=ha;simp only[Bool.and_eq_true,beq_iff_eq]at hc;have:=h2 e he (d6n hc.1);rw[hc.2,d5b (g2w hj) false true,hj]at this;cases this
structure f3r(ops:Array Oper)(m:Nat)(al:List E8):Prop where
 back:∀md,g7s md ops=true
 tail:∀i,i<ops.size->m<=i->∀j,j<i->c8s ops i j=true
 head:∀i o,i<m->al[i]? =some o->∀t∈o.looks,∀k,k<m->(ops[k]?).bind (·.dst)=some t->c8s ops i k=true
theorem f3c{ops:Array Oper}{m:Nat}{al:List E8}(h:d9p ops m al=true):f3r ops m al:=by
 simp only[d9p,Bool.and_eq_true,List.all_eq_true]at h;obtain⟨⟨h1,h2⟩,h3⟩:=h;refine⟨fun md=>by cases md<;>simp[h1],fun i hi hm j hj=>?_,fun i o hi ho t ht k hkm hk=>?_⟩
 ·have:=h2 i (List.mem_range.2 hi);simp only[Bool.or_eq_true,decide_eq_true_eq,List.all_eq_true]at this;rcases this with h|h
  ·omega
  ·exact h j (List.mem_range.2 hj)
 ·have:=h3 i (List.mem_range.2 hi);rw[ho]at this;simp only[List.all_eq_true]at this;have:=this t ht k (List.mem_range.2 hkm);simpa[hk]using this
theorem c94{md:Region.Mode}{ops:Array Oper}{m:Nat}{al:List E8}(ho:f3r ops m al){listed:Array Bool}(hsz:listed.size=ops.size)(hne:∃i,i<ops.size/\listed.getD i true=false):∃i,i∈Region.ready md ops listed:=by
 have hg:=ho.back md;simp only[g7s,Bool.and_eq_true,List.all_eq_true]at hg;obtain⟨g1,g2⟩:=hg;generalize hL:Region.linearise md ops 0=L at g1 g2;obtain⟨i,hi,hf⟩:=hne;have hmem:i∈L:=by simpa using g1 i (List.mem_range.2 hi)
 obtain⟨k,hk⟩:=List.mem_iff_getElem?.1 hmem;obtain⟨k0,⟨i0,hk0,hf0⟩,hmin⟩:=exists_least (p:=fun k=>∃i,L[k]? =some i/\listed.getD i true=false) ⟨k,i,hk,hf⟩;have:=g2 k0 (List.mem_range.2 (List.getElem?_eq_some_iff.1 hk0).1);rw[hk0]at this;simp only at this;split at this
 ·rename_i o hoi;refine⟨i0,b2h.2 ⟨hf0,o,hoi,fun e he hb=>?_⟩⟩;simp only[Array.all_eq_true']at this;have:=this e he;rw[hb]at this;simp only[Bool.not_true,Bool.false_or,List.contains_iff_mem]at this;obtain⟨q,hq⟩:=List.mem_iff_getElem?.1 this;rw[List.getElem?_take]at hq;split at hq
  ·rename_i hqk;cases hc:listed.getD e.on true with
   |true=>
    have hlt:e.on<listed.size:=by
     have hmem2:e.on∈L:=List.mem_of_getElem? hq;have:=g2 q (List.mem_range.2 (List.getElem?_eq_some_iff.1 hq).1);rw[hq]at this;simp only at this;split at this
     ·rename_i o2 ho2;rw[hsz];exact(Array.getElem?_eq_some_iff.1 ho2).1
     ·cases this
    rw[d5b hlt false true];exact hc
   |false=>have:=hmin q ⟨e.on,hq,hc⟩;omega
  ·cases hq
 ·cases this
theorem e17{md:Region.Mode}{ops:Array Oper}{m:Nat}{al:List E8}(ho:f3r ops m al){Q:Exit->Act->World->Prop}:∀(f j:Nat) (listed:Array Bool) (a:Act) (w:World),m<=j->j<=ops.size->ops.size - j<=f->listed.size=ops.size->
  (∀i,i<ops.size->listed.getD i true=decide (i<j))->wpOps P ops Q (List.range' j (ops.size - j)) a w->wpAny P md ops Q f listed a w:=by
 intro f
 induction f with
 |zero=>
  intro j listed a w hm hj hf hsz hl hw;have:ops.size - j=0:=by omega
  rw[this]at hw;refine⟨?_,hw⟩;apply List.eq_nil_iff_forall_not_mem.2;intro i hi;obtain⟨h1,o,h2,_⟩:=b2h.1 hi;have hlt:=(Array.getElem?_eq_some_iff.1 h2).1;rw[hl i hlt]at h1;simp at h1;omega
 |succ f ih=>
  intro j listed a w hm hj hf hsz hl hw
  have only:∀i∈Region.ready md ops listed,i=j:=by
   intro i hi;obtain⟨h1,o,h2,_⟩:=b2h.1 hi;have hlt:=(Array.getElem?_eq_some_iff.1 h2).1;rw[hl i hlt]at h1;simp at h1
   by_cases hij:i=j
   ·exact hij
   ·refine absurd hi (d1z (ho.tail i hlt (by omega) j (by omega)) ?_);rw[hl j (by omega)];simp
  refine⟨fun hnil=>?_,fun i hi=>?_⟩
  ·by_cases hjn:j=ops.size
   ·subst hjn;rw[show ops.size - ops.size=0 by omega]at hw;exact hw
   ·exfalso;obtain⟨i,hi⟩:=c94 (md:=md) ho hsz ⟨j,by omega,by rw[hl j (by omega)];simp⟩;rw[hnil]at hi;cases hi
  ·have:=only i hi;subst this
   have hlt:i<ops.size:=by
    obtain⟨h1,o,h2,_⟩:=b2h.1 hi;exact(Array.getElem?_eq_some_iff.1 h2).1
   rw[show ops.size - i=(ops.size - (i+1))+1 by omega,List.range'_succ,wpOps_cons]at hw;refine wpOp_mono (fun a' w' h'=>?_) hw;refine ih (i+1) _ a' w' (by omega) (by omega) (by omega) (by simp[hsz]) (fun k hk=>?_) h';rw[a9s (by omega),hl k hk]
   by_cases hik:i=k
   ·subst hik;simp
   ·rw[if_neg hik];simp;omega
def e2b(ops:Array Oper)(m:Nat)(listed:Array Bool)(t:Tmp):Prop:=∀k,k<m->(ops[k]?).bind (·.dst)=some t->listed.getD k true=true
open Classical in
noncomputable def d85(p:Tmp->Prop):Env->Env
 |[]=>[]
 |(t,v)::e=>if p t then(t,v)::d85 p e else d85 p e
open Classical in
theorem b7x(p:Tmp->Prop)(e:Env)(t:Tmp):get (d85 p e) t=if p t then get e t else none:=by
 induction e with
 |nil=>simp[d85,get]
 |cons q e ih=>
  obtain⟨k,v⟩:=q
  by_cases hk:p k
  ·simp only[d85,if_pos hk,get]
   by_cases hkt:k=t
   ·subst hkt;simp[hk]
   ·simp only[hkt,if_false,ih]
  ·simp only[d85,if_neg hk,get,ih]
   by_cases hkt:k=t
   ·subst hkt;simp[hk]
   ·simp only[hkt,if_false]
end
end
section
variable {P:Program}{σ:Sg}{h:A7}{env:Env}{N:Nat}{a:Act}
theorem c2a{ops:Array Oper}:∀{l:List Oper}{al:List E8},a86 P N ops l=some al->al.length=l.length/\∀(i:Nat) (o:Oper),l[i]? =some o->∃ao,al[i]? =some ao/\c3j P N ops o=some ao
 |[],al,h=>by simp[a86]at h;subst h;exact⟨rfl,fun i o hi=>by simp at hi⟩
 |o::l,al,h=>by
  simp only[a86,Option.bind_eq_some_iff,Option.map_eq_some_iff]at h;obtain⟨ao,h1,r,h2,rfl⟩:=h;obtain⟨g1,g2⟩:=c2a h2;refine⟨by simp[g1],fun i o' hi=>?_⟩;cases i with
  |zero=>simp at hi;subst hi;exact⟨ao,rfl,h1⟩
  |succ i=>exact g2 i o' (by simpa using hi)
theorem c3v{ops:Array Oper}{o:Oper}{ao:E8}(h:c3j P N ops o=some ao):c7p P o=some ao.op/\(∀d,o.dst=some d->d<N)/\ao.dst=o.dst/\
  ((o.guard=none/\ao.guard=none)\/∃j b t,o.guard=some (j,b)/\ao.guard=some (t,b)/\(ops[j]?).bind (·.dst)=some t):=by
 simp only[c3j,Option.bind_eq_some_iff]at h;obtain⟨op,hop,h⟩:=h;split at h
 ·rename_i hd;split at h
  ·rename_i hg;cases h;exact⟨hop,d44 hd,rfl,.inl ⟨hg,rfl⟩⟩
  ·rename_i j b hg;simp only[Option.map_eq_some_iff]at h;obtain⟨t,ht,rfl⟩:=h;exact⟨hop,d44 hd,rfl,.inr ⟨j,b,t,hg,rfl,ht⟩⟩
 ·cases h
structure h8i(ops:Array Oper)(m:Nat)(F:Env)(h:A7)(N:Nat)(listed:Array Bool)(σ:Sg)(a:Act):Prop where
 inv:Inv h σ
 env:a35 σ (d85 (e2b ops m listed) F) a.tmps
 size:a.tmps.size=N
 defers:a.defers=[]
def f2y(ops:Array Oper)(al:List E8):Bool:=
 d9p ops al.length al&&okq al&&decide (al.length<=ops.size)&&
 (List.range al.length).all fun i=>(List.range i).all fun j=> !(((ops[i]?).bind (·.dst)).isSome&&(ops[i]?).bind (·.dst)==(ops[j]?).bind (·.dst))
end
def c8t(ops:Array Oper)(m:Nat):List (List Nat):=(List.range m).map fun i=>(List.range m).filter fun j=>c8s ops i j
theorem d0z{ops:Array Oper}{m i k:Nat}(h:k∈(c8t ops m).getD i []):k<m/\c8s ops i k=true:=by
 unfold c8t at h;rw[List.getD_eq_getElem?_getD,List.getElem?_map]at h;cases hr:(List.range m)[i]? with
 |none=>rw[hr]at h;simp at h
 |some j=>
  have hi:i<m:=by
   have:=(List.getElem?_eq_some_iff.1 hr).1;simpa using this
  rw[List.getElem?_range hi]at hr;cases hr;rw[List.getElem?_range hi]at h;simp only[Option.map_some,Option.getD_some,List.mem_filter,List.mem_range]at h;exact h
def hA(h:A7)(az:List (Nat × List AV))(lst:Nat->Bool):A7:=⟨h.blks++az.map (fun p=>if lst p.1=true then some p.2 else none),h.bufs,h.globs⟩
def g9l(h:A7)(az:List (Nat × List AV))(hs:List A7)(lst:Nat->Bool):Nat->Option A7
 |0=>some (hA h az lst)
 |j+1=>hs[j+1]?
def f28:List (List Nat)->List (List Nat)->List (List Nat)
 |acc,[]=>acc
 |acc,r::rs=>f28 (acc++[r++r.flatMap fun j=>acc.getD j []]) rs
def clo(ord:List (List Nat)):List (List Nat):=f28 [] ord
theorem d4q:∀(rs acc:List (List Nat)) (i:Nat),i<acc.length->(f28 acc rs).getD i []=acc.getD i []
 |[],_,_,_=>rfl
 |r::rs,acc,i,h=>by
  simp only[f28];rw[d4q rs _ i (by simp;omega)];simp only[List.getD_eq_getElem?_getD,List.getElem?_append_left h]
theorem e1u:∀(rs acc:List (List Nat)),(f28 acc rs).length=acc.length+rs.length
 |[],_=>rfl
 |r::rs,acc=>by simp only[f28];rw[e1u rs];simp;omega
theorem e3r:∀(rs acc:List (List Nat)) (i:Nat),i<rs.length->∀k∈(f28 acc rs).getD (acc.length+i) [],k∈rs.getD i []\/∃j,j∈rs.getD i []/\j<acc.length+i/\k∈(f28 acc rs).getD j []
 |[],_,i,h=>by simp at h
 |r::rs,acc,0,h=>by
  intro k hk;simp only[f28]at hk ⊢;have h0:=d4q rs (acc++[r++r.flatMap fun j=>acc.getD j []]) (acc.length+0) (by simp);rw[h0]at hk;simp only[Nat.add_zero,List.getD_eq_getElem?_getD,List.getElem?_append_right (Nat.le_refl _),Nat.sub_self,List.getElem?_cons_zero,Option.getD_some,List.mem_append,List.mem_flatMap]at hk;rcases hk with hk|⟨j,hj,hk⟩
  ·exact .inl (by simpa using hk)
  ·have hlt:j<acc.length:=by
    by_cases hlt:j<acc.length
    ·exact hlt
    ·rw[List.getElem?_eq_none (by omega)]at hk;simp at hk
   refine .inr ⟨j,by simpa using hj,by omega,?_⟩;rw[d4q rs _ j (by simp;omega)];simpa[List.getD_eq_getElem?_getD,List.getElem?_append_left hlt]using hk
 |r::rs,acc,i+1,h=>by
  intro k hk;simp only[f28]at hk ⊢;have:=e3r rs (acc++[r++r.flatMap fun j=>acc.getD j []]) i (by simpa using h) k (by simpa[Nat.add_assoc,Nat.add_comm 1 i]using hk);rcases this with h1|⟨j,h1,h2,h3⟩
  ·exact .inl (by simpa using h1)
  ·exact .inr ⟨j,by simpa using h1,by simp at h2;omega,h3⟩
theorem e6q{ord:List (List Nat)}{i k:Nat}(h:k∈(clo ord).getD i []):k∈ord.getD i []\/∃j,j∈ord.getD i []/\j<i/\k∈(clo ord).getD j []:=by
 by_cases hi:i<ord.length
 ·have:=e3r ord [] i hi k (by simpa[clo]using h);simpa[clo]using this
 ·have hl:=e1u ord [];rw[List.getD_eq_getElem?_getD,List.getElem?_eq_none (by unfold clo;simp at hl;omega)]at h;simp at h
theorem c57{ops:Array Oper}{m:Nat}{L:Nat->Prop}(hc:∀k i,k<m->L k->i∈(c8t ops m).getD k []->L i):∀n k,k<n->k<m->L k->∀i∈(clo (c8t ops m)).getD k [],L i:=by
 intro n
 induction n with
 |zero=>intro k h;omega
 |succ n ih=>
  intro k hk hm hl i hi;rcases e6q hi with h1|⟨j,h1,h2,h3⟩
  ·exact hc k i hm hl h1
  ·exact ih j (by omega) (d0z h1).1 (hc k j hm hl h1) i h3
def e6b(P:Program)(F:Env)(h0:A7)(az:List (Nat × List AV))(hs:List A7)(ord:List (List Nat))(fl:List (Option Nat))(i:Nat)(o:E8):Option Nat->Prop
 |some n=>∃av h h',hs[n]? =some h/\hs[n+1]? =some h'/\aop P o.op F h (fun a b=>a=av/\b=h')/\∀d,o.dst=some d->get F d=some av
 |none=>∃av j0 j1,j0<hs.length/\(∀j lst h,j0<=j->j<=j1->g9l h0 az hs lst j=some h->d86 P o.op F h av)/\(∀k n:Nat,fl[k]? =some (some n)->n<j0->k∈ord.getD i [])/\(hs.length<=j1+1\/∃k:Nat,fl[k]? =some (some j1)/\i∈ord.getD k [])/\
  ∀d,o.dst=some d->get F d=some av
def e6l(P:Program)(F:Env)(h0:A7)(az:List (Nat × List AV))(hs:List A7)(ord:List (List Nat))(fl:List (Option Nat))(i:Nat)(o:E8)(n:Option Nat):Prop:=
 let skip:=n=none/\∀d,o.dst=some d->get F d=some (.tuple [])
 match o.guard with
 |none=>e6b P F h0 az hs ord fl i o n
 |some (t,want)=>(∃b,get F t=some (.v (.bool b))/\(b=want->e6b P F h0 az hs ord fl i o n)/\(b≠want->skip))\/(get F t=some (.tuple [])/\skip)
structure f0a(P:Program)(ord:List (List Nat))(al:List E8)(env F:Env)(h h':A7)(az:List (Nat × List AV))(hs:List A7)(fl:List (Option Nat)):Prop where
 len:fl.length=al.length
 chain:∀i k a b:Nat,i<k->fl[i]? =some (some a)->fl[k]? =some (some b)->a<b/\i∈ord.getD k []
 onto:∀j:Nat,j+1<hs.length->∃i:Nat,fl[i]? =some (some j)
 first:hs[0]? =some (hA h az fun _=>true)
 last:∃n,hs.length=n+1/\hs[n]? =some h'
 bound:∀i n:Nat,fl[i]? =some (some n)->n+1<hs.length
 keep:∀t,R0 t al=false->get F t=get env t
 new:∀(q:Nat) (p:Nat × List AV),az[q]? =some p->∃o,al[p.1]? =some o/\o.op=.alloc p.2/\o.guard=none/\fl[p.1]? =some none/\∀d,o.dst=some d->get F d=some (.ptr (h.blks.length+q) 0)
 inj:∀(q r:Nat) (p s:Nat × List AV),az[q]? =some p->az[r]? =some s->p.1=s.1->q=r
 afirst:∀(k n:Nat),fl[k]? =some (some n)->∀p∈az,p.1∈ord.getD k []
 fact:∀(i:Nat) (o:E8) (n:Option Nat),al[i]? =some o->fl[i]? =some n->(∃(q:Nat) (p:Nat × List AV),az[q]? =some p/\p.1=i)\/e6l P F h az hs ord fl i o n
section
variable {P:Program}{σ:Sg}{h:A7}{env:Env}{N:Nat}{a:Act}
theorem e5b(hi:Inv h σ)(n:Nat):Inv ⟨h.blks++List.replicate n none,h.bufs,h.globs⟩ σ:=by
 have hget:∀(k:Nat) (c:List AV),(h.blks++List.replicate n none)[k]? =some (some c)->h.blks[k]? =some (some c):=by
  intro k c hk
  by_cases hl:k<h.blks.length
  ·rwa [List.getElem?_append_left hl]at hk
  ·rw[List.getElem?_append_right (by omega),List.getElem?_replicate]at hk;split at hk<;>cases hk
 exact {
  blk:=fun k c hk=>hi.blk k c (hget k c hk)
  dom:=fun k c hk=>by
   obtain⟨x,hx⟩:=hi.dom k c hk;exact⟨x,by rw[List.getElem?_append_left (hi.name hk)];exact hx⟩
  inj:=fun k m c x y hx hy=>hi.inj k m c x y (hget k x hx) (hget m y hy)
  buf:=hi.buf
  bufdom:=hi.bufdom
  bufle:=hi.bufle
  bufat:=hi.bufat
  bufinj:=hi.bufinj
  bufblk:=hi.bufblk
  outer:=hi.outer
  glob:=hi.glob}
theorem f4r(hi:Inv h σ){n:Nat}(hn:h.blks[n]? =some none){cells:List AV}(obj:Obj)(hnew:∀σ',Le σ σ'->σ'.w.heap[σ.w.heap.size]? =some obj->b04 σ' σ.w.heap.size cells):
  ∃σ',σ'.w=σ.w.alloc obj/\Le σ σ'/\Inv ⟨h.blks.set n (some cells),h.bufs,h.globs⟩ σ'/\Rel σ' (.ptr n 0) (.pointer (some ⟨σ.w.heap.size,0,none⟩)):=by
 have hl:n<h.blks.length:=(List.getElem?_eq_some_iff.1 hn).1
 have hf:σ.blk n=none:=by
  cases hb:σ.blk n with
  |none=>rfl
  |some b=>obtain⟨c,hc⟩:=hi.dom n b hb;rw[hn]at hc;cases hc
 let σ':Sg:={σ with w:=σ.w.alloc obj,blk:=fun m=>if m=n then some σ.w.heap.size else σ.blk m}
 have hp:=c0y.alloc σ.w obj
 have hslt:∀id e b o,σ.buf id=some e->e.spare b o->b<σ.w.heap.size:=by
  intro id e b o he hs;obtain⟨v,hv⟩:=Option.isSome_iff_exists.1 (hi.bufat id e b o he hs).1;exact a4h hv
 have hne:∀m b,σ.blk m=some b->m≠n:=by rintro m b hm rfl;rw[hf]at hm;cases hm
 have hold:∀m b,σ.blk m=some b->σ'.blk m=some b:=by
  intro m b hm;show(if m=n then some σ.w.heap.size else σ.blk m)=some b;rw[if_neg (hne m b hm)];exact hm
 have hinv:∀m b,σ'.blk m=some b->(m=n/\b=σ.w.heap.size)\/(m≠n/\σ.blk m=some b):=by
  intro m b hm;simp only[σ']at hm;split at hm
  ·cases hm;exact .inl ⟨‹_›,rfl⟩
  ·exact .inr ⟨‹_›,hm⟩
 have hle:Le σ σ':={
  blk:=hold
  buf:=fun _ e h=>⟨e,h,Nat.le_refl _,rfl,fun _=>rfl⟩
  outer:=rfl
  cell:=fun b o hb _=>U6 (hp.old b hb) o
  ext:=(Le.world (σ:=σ) hp).ext
  whole:=fun b hb _=>hp.old b hb
  own:=fun b o hb ho=>by
   rcases ho with⟨m,hm⟩|hx
   ·rcases hinv m b hm with⟨_,rfl⟩|⟨_,hm⟩
    ·omega
    ·exact .inl ⟨m,hm⟩
   ·exact .inr hx
  size:=hp.size
  os:=hp.os
  tape:=hp.tape
  output:=hp.output}
 have hget:∀(m:Nat) (c:List AV),(h.blks.set n (some cells))[m]? =some (some c)->(m=n/\c=cells)\/(m≠n/\h.blks[m]? =some (some c)):=by
  intro m c hm
  by_cases hmn:m=n
  ·subst hmn;rw[List.getElem?_set_self hl]at hm;cases hm;exact .inl ⟨rfl,rfl⟩
  ·rw[List.getElem?_set_ne (Ne.symm hmn)]at hm;exact .inr ⟨hmn,hm⟩
 refine⟨σ',rfl,hle,?_,.ptr _ _ _ (if_pos rfl)⟩
 exact {
  blk:=fun m c hm=>by
   rcases hget m c hm with⟨rfl,rfl⟩|⟨hmn,hm⟩
   ·exact⟨σ.w.heap.size,if_pos rfl,hnew σ' hle (heap_alloc_new _ _)⟩
   ·obtain⟨b,h1,h2⟩:=hi.blk m c hm;exact⟨b,hold m b h1,h2.keep hle (hp.old b h2.lt)⟩
  dom:=fun m b hm=>by
   rcases hinv m b hm with⟨rfl,rfl⟩|⟨hmn,hm⟩
   ·exact⟨cells,List.getElem?_set_self hl⟩
   ·obtain⟨c,hc⟩:=hi.dom m b hm;exact⟨c,by rw[List.getElem?_set_ne (Ne.symm hmn)];exact hc⟩
  inj:=fun m k b x y hx hy hx0 hy0 hm hk=>by
   rcases hinv m b hm with⟨m0,m2⟩|⟨m1,hm2⟩<;>rcases hinv k b hk with⟨k0,k2⟩|⟨k1,hk2⟩
   ·omega
   ·have:=hi.lt hk2;omega
   ·have:=hi.lt hm2;omega
   ·rcases hget m x hx with⟨h,_⟩|⟨_,hx⟩
    ·exact absurd h m1
    ·rcases hget k y hy with⟨h,_⟩|⟨_,hy⟩
     ·exact absurd h k1
     ·exact hi.inj m k b x y hx hy hx0 hy0 hm2 hk2
  buf:=hi.buf
  bufdom:=hi.bufdom
  bufle:=hi.bufle
  bufat:=(hi.world hp).bufat
  bufinj:=hi.bufinj
  bufblk:=fun id e m b o he hs hm=>by
   rcases hinv m b hm with⟨_,rfl⟩|⟨_,hm⟩
   ·have:=hslt id e _ o he hs;omega
   ·exact hi.bufblk id e m b o he hs hm
  outer:=fun b o ho=>by
   obtain⟨h1,h2⟩:=hi.outer b o ho;exact⟨Nat.lt_of_lt_of_le h1 hp.size,fun hx=>h2 (hle.own b o h1 hx)⟩
  glob:=fun g cells hg=>(hi.glob g cells hg).mono hle}
theorem d6q{o:Oper}{cells:List AV}(hc:c7p P o=some (.alloc cells)):∃e,o.op=.alloc e:=by
 unfold c7p at hc;split at hc
 case h_4 e he=>exact⟨e,he⟩
 all_goals
  exfalso
  (try simp only[d53]at hc)
  (repeat' (first|(cases hc;done)|(simp only[Option.bind_eq_some_iff,Option.map_eq_some_iff]at hc;done)|(obtain⟨_,_,hc⟩:=hc)|(split at hc)|(simp only[Option.bind_eq_some_iff,Option.map_eq_some_iff]at hc)))
theorem f6n{o:Oper}{cells:List AV}(hc:c7p P o=some (.alloc cells))(hs:St σ h env N a)(hd:∀d,o.dst=some d->d<N){n:Nat}(hn:h.blks[n]? =some none)(Q:Exit->Act->World->Prop):
  o.wp P a σ.w (fun a' w'=>∃σ',σ'.w=w'/\Le σ σ'/\St σ' ⟨h.blks.set n (some cells),h.bufs,h.globs⟩ (c1g env o.dst (.ptr n 0)) N a') Q:=by
 obtain⟨e,he⟩:=d6q hc;obtain⟨dst,op,type,pos,after,guard⟩:=o;simp only at he;subst he;simp only[c7p,Option.bind_eq_some_iff,Option.map_eq_some_iff,AOp.alloc.injEq]at hc;obtain⟨z,hz,zs,hzs,rfl⟩:=hc;obtain⟨σ',g1,g2,g3,g4⟩:=f4r hs.inv hn (cells:=zs) (.cells z.cells e) fun σ' hle hb=>.cells _ z.cells.toList [] e (by simpa using hb) ((a6o (σ:=σ) hzs).mono hle)
 unfold Oper.wp
 have hrun:(execOp a.eval ⟨dst,.alloc e,type,pos,after,guard⟩).run P σ.w=.ok (.value (.pointer (some ⟨σ.w.heap.size,0,none⟩))) σ'.w:=by
  rw[g1];simp[execOp,Instr.alloc,b51 hz,newVar,newRow]
 rw[hrun];exact⟨σ',rfl,g2,hs.put g2 g3 hd g4⟩
structure f93(ops:Array Oper)(m:Nat)(F:Env)(h0:A7)(az:List (Nat × List AV))(hs:List A7)(fl:List (Option Nat))(j:Nat)(N:Nat)(listed:Array Bool)(σ:Sg)(a:Act):Prop where
 inv:∃h,g9l h0 az hs (fun k=>listed.getD k true) j=some h/\Inv h σ
 env:a35 σ (d85 (e2b ops m listed) F) a.tmps
 size:a.tmps.size=N
 defers:a.defers=[]
 nums:∀i n:Nat,fl[i]? =some (some n)->(listed.getD i true=true↔n<j)
 closed:∀k i:Nat,k<m->listed.getD k true=true->i∈(c8t ops m).getD k []->listed.getD i true=true
set_option maxHeartbeats 1000000 in
theorem f2m{md:Region.Mode}{ops:Array Oper}{al:List E8}{env F:Env}{h h':A7}{az:List (Nat × List AV)}{hs:List A7}{fl:List (Option Nat)}(hq:a86 P N ops (ops.toList.take al.length)=some al)(hm:al.length<=ops.size)(ho:f3r ops al.length al)
  (hF:f0a P (clo (c8t ops al.length)) al env F h h' az hs fl)
  {Q:Exit->Act->World->Prop}{σ₀:Sg}(hend:∀σ a,Le σ₀ σ->St σ h' F N a->wpOps P ops Q (List.range' al.length (ops.size - al.length)) a σ.w):
  ∀(f:Nat) (listed:Array Bool) (a:Act) (σ:Sg) (j:Nat),listed.size=ops.size->(∀i,al.length<=i->i<ops.size->listed.getD i true=false)->Le σ₀ σ->f93 ops al.length F h az hs fl j N listed σ a->listed.toList.count false<=f->wpAny P md ops Q f listed a σ.w:=by
 obtain⟨hlen,hget⟩:=c2a hq;obtain⟨nl,hnl,hnl2⟩:=hF.last
 have hfin:∀(listed:Array Bool) (a:Act) (σ:Sg) (j:Nat),f93 ops al.length F h az hs fl j N listed σ a->(∀i,i<al.length->listed.getD i true=true)->St σ h' F N a:=by
  intro listed a σ j hh hall;obtain⟨hj,h1,h2⟩:=hh.inv
  have hjl:j<hs.length:=by
   cases j with
   |zero=>omega
   |succ j=>exact(List.getElem?_eq_some_iff.1 h1).1
  have hjn:j=nl:=by
   by_cases hlt:j+1<hs.length
   ·obtain⟨i,hi⟩:=hF.onto j hlt;have hil:i<al.length:=by rw[<-hF.len];exact(List.getElem?_eq_some_iff.1 hi).1
    have:=(hh.nums i j hi).1 (hall i hil);omega
   ·omega
  subst hjn
  have h1':hs[j]? =some hj:=by
   cases j with
   |succ j=>exact h1
   |zero=>
    rw[hF.first,<-h1];show some _=some _
    congr 1
    unfold hA
    congr 2
    apply List.map_congr_left;intro p hp;obtain⟨q,hq⟩:=List.mem_iff_getElem?.1 hp;obtain⟨o,ho1,_⟩:=hF.new q p hq;have hil:p.1<al.length:=(List.getElem?_eq_some_iff.1 ho1).1;simp only[hall p.1 hil]
  rw[hnl2]at h1';cases h1';exact⟨h2,fun t av hg=>hh.env t av (by rw[b7x,if_pos (show e2b ops al.length listed t from fun k hk _=>hall k hk)];exact hg),hh.size,hh.defers⟩
 intro f
 induction f with
 |zero=>
  intro listed a σ j hsz htail hle hh hc
  have hall:∀i,i<ops.size->listed.getD i true=true:=by
   intro i hi;cases hb:listed.getD i true with
   |true=>rfl
   |false=>
    exfalso
    have hmem:false∈listed.toList:=by
     rw[List.mem_iff_getElem?];refine⟨i,?_⟩;have:listed[i]? =some listed[i]:=Array.getElem?_eq_getElem (by omega);simp only[Array.getD_eq_getD_getElem?,this,Option.getD_some]at hb;simp only[Array.getElem?_toList,this,hb]
    have:=List.count_pos_iff.2 hmem;omega
  have hmn:al.length=ops.size:=by
   by_cases he:al.length=ops.size
   ·exact he
   ·have:=htail al.length (Nat.le_refl _) (by omega);rw[hall _ (by omega)]at this;cases this
  have:=hend σ a hle (hfin listed a σ j hh fun i hi=>hall i (by omega));refine e17 ho 0 al.length listed a σ.w (Nat.le_refl _) hm (by omega) hsz (fun i hi=>by rw[hall i hi];simp;omega) this
 |succ f ih=>
  intro listed a σ j hsz htail hle hh hc
  by_cases hall:∀i,i<al.length->listed.getD i true=true
  ·refine e17 ho (f+1) al.length listed a σ.w (Nat.le_refl _) hm ?_ hsz (fun i hi=>?_) (hend σ a hle (hfin listed a σ j hh hall))
   ·have hcnt:ops.size - al.length<=listed.toList.count false:=by
     have hsplit:listed.toList=listed.toList.take al.length++listed.toList.drop al.length:=(List.take_append_drop _ _).symm;rw[hsplit,List.count_append]
     have hd:listed.toList.drop al.length=List.replicate (ops.size - al.length) false:=by
      apply List.eq_replicate_iff.2;refine⟨by simp[hsz],fun b hb=>?_⟩;obtain⟨i,hi⟩:=List.mem_iff_getElem?.1 hb;rw[List.getElem?_drop]at hi;have hlt:=(List.getElem?_eq_some_iff.1 hi).1;have:=htail (al.length+i) (by omega) (by simpa[hsz]using hlt);simp only[Array.getElem?_toList]at hi;simp only[Array.getD_eq_getD_getElem?,hi,Option.getD_some]at this;exact this
     rw[hd,List.count_replicate];simp
    omega
   ·by_cases him:i<al.length
    ·rw[hall i him];simp[him]
    ·rw[htail i (by omega) hi];simp[him]
  ·obtain⟨i0,hi0,hn0⟩:∃i,i<al.length/\listed.getD i true=false:=by
    false_or_by_contra
    rename_i hcon
    exact hall fun i hi=>by
     cases hb:listed.getD i true with
     |true=>rfl
     |false=>exact absurd ⟨i,hi,hb⟩ hcon
   refine⟨fun hnil=>?_,fun i hi=>?_⟩
   ·obtain⟨i,hi⟩:=c94 (md:=md) ho hsz ⟨i0,by omega,hn0⟩;rw[hnil]at hi;cases hi
   ·obtain⟨hun,o,hoi,hdeps⟩:=b2h.1 hi;have hin:=(Array.getElem?_eq_some_iff.1 hoi).1
    have him:i<al.length:=by
     by_cases h':i<al.length
     ·exact h'
     ·exact absurd hi (d1z (ho.tail i hin (by omega) i0 (by omega)) hn0)
    obtain⟨ao,hao,hco⟩:=hget i o (by rw[List.getElem?_take,if_pos him];simpa using hoi);obtain⟨hop,hd,hdst,hguard⟩:=c3v hco;obtain⟨fn,hfn⟩:∃fn,fl[i]? =some fn:=⟨_,List.getElem?_eq_getElem (by rw[hF.len];exact him)⟩
    have hfact:=hF.fact i ao fn hao hfn;obtain⟨hj,hjs,hinv⟩:=hh.inv
    have hjl:j<hs.length:=by
     cases j with
     |zero=>omega
     |succ j=>exact(List.getElem?_eq_some_iff.1 hjs).1
    -- behind the first that changes the heap all new boxes are there
    have hnew:0<j->∀p∈az,listed.getD p.1 true=true:=by
     intro hj0 p hp;obtain⟨k,hk⟩:=hF.onto 0 (by omega);have hkm:k<al.length:=by rw[<-hF.len];exact(List.getElem?_eq_some_iff.1 hk).1
     exact c57 (L:=fun k=>listed.getD k true=true) hh.closed (k+1) k (by omega) hkm ((hh.nums k 0 hk).2 hj0) _ (hF.afirst k 0 hk p hp)
    have hcur:∀i,(∀p∈az,p.1≠i)->g9l h az hs (fun k=>(listed.setIfInBounds i true).getD k true) j=g9l h az hs (fun k=>listed.getD k true) j:=by
     intro i hi;cases j with
     |succ j=>rfl
     |zero=>
      show some _=some _
      congr 1
      unfold hA
      congr 2
      apply List.map_congr_left;intro p hp
      by_cases hil:i<listed.size
      ·have:=a9s (listed:=listed) (i:=i) (j:=p.1) (d:=true) hil;rw[if_neg (fun e=>hi p hp e.symm)]at this;simp only[this]
      ·have:listed.setIfInBounds i true=listed:=by simp[Array.setIfInBounds,hil]
       simp only[this]
    -- what must stand c8s of it has been listed
    have hahead0:∀k,k∈(c8t ops al.length).getD i []->listed.getD k true=true:=by
     intro k hk;have ha:=(d0z hk).2;cases hb:listed.getD k true with
     |true=>rfl
     |false=>exact absurd hi (d1z ha hb)
    have hahead:∀k,k∈(clo (c8t ops al.length)).getD i []->listed.getD k true=true:=by
     intro k hk;rcases e6q hk with h1|⟨j,h1,h2,h3⟩
     ·exact hahead0 k h1
     ·exact c57 (L:=fun k=>listed.getD k true=true) hh.closed (j+1) j (by omega) (d0z h1).1 (hahead0 j h1) _ h3
    have hsee:∀t∈ao.looks,e2b ops al.length listed t:=by
     intro t ht k hk hkd;have ha:=ho.head i ao him hao t ht k hk hkd;unfold c8s at ha;rw[hoi]at ha;simp only[Array.any_eq_true']at ha;obtain⟨e,he,hb⟩:=ha;simp only[Bool.and_eq_true,beq_iff_eq]at hb;have:=hdeps e he (d6n hb.1);rw[hb.2,d5b (by omega) false true]at this;exact this
    have hlook:∀t∈ao.looks,get (d85 (e2b ops al.length listed) F) t=get F t:=fun t ht=>by rw[b7x,if_pos (hsee t ht)]
    have hst:St σ hj (d85 (e2b ops al.length listed) F) N a:=⟨hinv,hh.env,hh.size,hh.defers⟩
    have hcount:(listed.setIfInBounds i true).toList.count false<=f:=by
     have hget':listed.toList[i]'(by simp;omega)=false:=by
      have:listed[i]? =some listed[i]:=Array.getElem?_eq_getElem (by omega);simp only[Array.getD_eq_getD_getElem?,this,Option.getD_some]at hun;simpa using hun
     have:=List.count_set (a:=true) (b:=false) (l:=listed.toList) (i:=i) (by simp;omega);simp only[Array.toList_setIfInBounds];rw[this,hget'];have hp:0<listed.toList.count false:=List.count_pos_iff.2 (by rw[List.mem_iff_getElem];exact⟨i,by simp;omega,hget'⟩);show listed.toList.count false - 1+0<=f;omega
    have hnext:∀(a':Act) (σ':Sg) (j':Nat),Le σ σ'->f93 ops al.length F h az hs fl j' N (listed.setIfInBounds i true) σ' a'->wpAny P md ops Q f (listed.setIfInBounds i true) a' σ'.w:=by
     intro a' σ' j' hl' hh';refine ih _ a' σ' j' (by simp[hsz]) (fun k hk1 hk2=>?_) (hle.trans hl') hh' hcount;rw[a9s (by omega),if_neg (by omega)];exact htail k hk1 hk2
    have hseen':∀t,e2b ops al.length (listed.setIfInBounds i true) t->(ops[i]?).bind (·.dst)≠some t->e2b ops al.length listed t:=by
     intro t ht hne k hk hkd;have:=ht k hk hkd;rw[a9s (by omega)]at this
     by_cases hik:i=k
     ·subst hik;exact absurd hkd hne
     ·rwa [if_neg hik]at this
    have hbind:(ops[i]?).bind (·.dst)=o.dst:=by rw[hoi];rfl
    have hclosed:∀k l:Nat,k<al.length->(listed.setIfInBounds i true).getD k true=true->l∈(c8t ops al.length).getD k []->(listed.setIfInBounds i true).getD l true=true:=by
     intro k l hk hkl hl;rw[a9s (by omega)]
     by_cases hil:i=l
     ·rw[if_pos hil]
     ·rw[if_neg hil]
      by_cases hik:i=k
      ·subst hik;exact hahead0 l hl
      ·rw[a9s (by omega),if_neg hik]at hkl;exact hh.closed k l hk hkl hl
    have quietNums:fl[i]? =some none->∀k n:Nat,fl[k]? =some (some n)->((listed.setIfInBounds i true).getD k true=true↔n<j):=by
     intro hnone k n hk;have hik:i≠k:=by rintro rfl;rw[hnone]at hk;cases hk
     rw[a9s (by omega),if_neg hik];exact hh.nums k n hk
    have cong:∀K:AV->A7->Prop,aop P ao.op F hj K->aop P ao.op (d85 (e2b ops al.length listed) F) hj K:=by
     intro K hk;rw[d1a (e1:=d85 (e2b ops al.length listed) F) (e2:=F)]
     ·exact hk
     ·intro x hx;cases x with
      |c a=>rfl
      |t n=>
       refine hlook n ?_;simp only[E8.looks,List.mem_append,List.mem_filterMap];exact .inl ⟨.t n,hx,rfl⟩
    have envOK:∀(σ':Sg) (a':Act) (av:AV),a35 σ' (c1g (d85 (e2b ops al.length listed) F) o.dst av) a'.tmps->(∀d,ao.dst=some d->get F d=some av)->a35 σ' (d85 (e2b ops al.length (listed.setIfInBounds i true)) F) a'.tmps:=by
     intro σ' a' av he hfd t bv hg;rw[b7x]at hg;split at hg
     ·rename_i hs
      by_cases hdt:o.dst=some t
      ·have:=hfd t (by rw[hdst];exact hdt);rw[this]at hg;cases hg;exact he t av (by rw[b1z,if_pos hdt])
      ·exact he t bv (by rw[b1z,if_neg hdt,b7x,if_pos (hseen' t hs (by rw[hbind];exact hdt))];exact hg)
     ·cases hg
    by_cases hisA:∃(q:Nat) (p:Nat × List AV),az[q]? =some p/\p.1=i
    ·obtain⟨q,p,hqp,hpi⟩:=hisA;obtain⟨o',ho1,ho2,ho3,ho4,ho5⟩:=hF.new q p hqp;subst hpi;rw[hao]at ho1;cases ho1
     have hj0:j=0:=by
      by_cases hz:j=0
      ·exact hz
      ·have:=hnew (by omega) p (List.mem_of_getElem? hqp);rw[hun]at this;cases this
     subst hj0;have hjs':hj=hA h az fun k=>listed.getD k true:=(Option.some.inj hjs).symm
     have hslot:hj.blks[h.blks.length+q]? =some none:=by
      rw[hjs'];simp only[hA];rw[List.getElem?_append_right (by omega),Nat.add_sub_cancel_left,List.getElem?_map,hqp];simp only[Option.map_some,hun,Bool.false_eq_true,if_false]
     have heq:(⟨hj.blks.set (h.blks.length+q) (some p.2),hj.bufs,hj.globs⟩:A7)=hA h az fun k=>(listed.setIfInBounds p.1 true).getD k true:=by
      rw[hjs'];simp only[hA]
      congr 1
      rw[List.set_append_right _ _ (by omega),Nat.add_sub_cancel_left]
      congr 1
      apply List.ext_getElem?;intro r
      by_cases hrq:q=r
      ·subst hrq;have hl:q<az.length:=(List.getElem?_eq_some_iff.1 hqp).1;rw[List.getElem?_set_self (by simpa using hl),List.getElem?_map,hqp];simp only[Option.map_some];have:=a9s (listed:=listed) (i:=p.1) (j:=p.1) (d:=true) (by omega);rw[if_pos rfl]at this;simp only[this,if_true]
      ·rw[List.getElem?_set_ne hrq,List.getElem?_map,List.getElem?_map];cases hr:az[r]? with
       |none=>rfl
       |some s=>
        have:=a9s (listed:=listed) (i:=p.1) (j:=s.1) (d:=true) (by omega);rw[if_neg (fun e=>hrq (hF.inj q r p s hqp hr e))]at this;simp only[Option.map_some,this]
     unfold wpOp;rw[hoi];simp only
     have hw:Region.wanted o (yielded ops a.tmps)=true:=by
      rcases hguard with⟨hg1,_⟩|⟨_,_,_,_,hg2,_⟩
      ·simp[Region.wanted,hg1]
      ·rw[ho3]at hg2;cases hg2
     rw[if_pos hw];refine .inl (Oper.wp_mono (fun a' w' hb=>?_) (f6n (ho2▸hop) hst hd hslot Q));obtain⟨σ',rfl,l1,s1⟩:=hb;exact hnext a' σ' 0 l1 ⟨⟨_,rfl,by rw[<-heq];exact s1.inv⟩,envOK σ' a' _ s1.env ho5,s1.size,s1.defers,quietNums ho4,hclosed⟩
    have hni:∀p∈az,p.1≠i:=by
     intro p hp hpi;obtain⟨q,hq⟩:=List.mem_iff_getElem?.1 hp;exact hisA ⟨q,p,hq,hpi⟩
    have hfact:=hfact.resolve_left hisA
    have does:e6b P F h az hs (clo (c8t ops al.length)) fl i ao fn->Oper.wp P o a σ.w (wpAny P md ops Q f (listed.setIfInBounds i true)) Q:=by
     intro hdo;cases fn with
     |none=>
      obtain⟨av,j0,j1,hj0,hqa,hlo,hhi,hfd⟩:=hdo
      have h0:j0<=j:=by
       by_cases hlt:j0<=j
       ·exact hlt
       ·exfalso;have hb:j+1<hs.length:=by omega
        obtain⟨k,hk⟩:=hF.onto j hb;have:=hahead k (hlo k j hk (by omega));have:=(hh.nums k j hk).1 this;omega
      have h1:j<=j1:=by
       rcases hhi with hhi|⟨k,hk,hik⟩
       ·omega
       ·by_cases hlt:j<=j1
        ·exact hlt
        ·exfalso;have hkl:=(hh.nums k j1 hk).2 (by omega);have hkm:k<al.length:=by rw[<-hF.len];exact(List.getElem?_eq_some_iff.1 hk).1
         have:=c57 (L:=fun k=>listed.getD k true=true) hh.closed (k+1) k (by omega) hkm hkl _ hik;rw[hun]at this;cases this
      have hqa':=cong _ (hqa j _ hj h0 h1 hjs);refine Oper.wp_mono (fun a' w' hb=>?_) (e7f hop hst hd hqa' Q);obtain⟨σ',h',av',rfl,l1,s1,rfl,rfl⟩:=hb;exact hnext a' σ' j l1 ⟨⟨_,by rw[hcur i hni];exact hjs,s1.inv⟩,envOK σ' a' av' s1.env hfd,s1.size,s1.defers,quietNums hfn,hclosed⟩
     |some n=>
      obtain⟨av,h1,h2,e1,e2,hqa,hfd⟩:=hdo
      have hnj:¬n<j:=fun hlt=>by
       have:=(hh.nums i n hfn).2 hlt;rw[hun]at this;cases this
      have hnj2:n=j:=by
       by_cases he:n=j
       ·exact he
       ·exfalso;have hb:j+1<hs.length:=by have:=(List.getElem?_eq_some_iff.1 e2).1;omega
        obtain⟨k,hk⟩:=hF.onto j hb;have hki:k≠i:=by rintro rfl;rw[hfn]at hk;cases hk;exact he rfl
        rcases Nat.lt_or_ge k i with hlt|hge
        ·have:=hahead k (hF.chain k i j n hlt hk hfn).2;have:=(hh.nums k j hk).1 this;omega
        ·have:=(hF.chain i k n j (by omega) hfn hk).1;omega
      subst hnj2
      have hjs':hs[n]? =some hj:=by
       cases n with
       |succ n=>exact hjs
       |zero=>
        rw[hF.first,<-hjs];show some _=some _
        congr 1
        unfold hA
        congr 2
        apply List.map_congr_left;intro p hp;simp only[hahead p.1 (hF.afirst i 0 hfn p hp)]
      rw[hjs']at e1;cases e1;have hqa':=cong _ hqa;refine Oper.wp_mono (fun a' w' hb=>?_) (e7f hop hst hd hqa' Q);obtain⟨σ',h',av',rfl,l1,s1,rfl,rfl⟩:=hb;refine hnext a' σ' (n+1) l1 ⟨⟨_,e2,s1.inv⟩,envOK σ' a' av' s1.env hfd,s1.size,s1.defers,?_,hclosed⟩;intro k n' hk;rw[a9s (by omega)]
      by_cases hik:i=k
      ·subst hik;rw[hfn]at hk;cases hk;rw[if_pos rfl];simp
      ·rw[if_neg hik,hh.nums k n' hk]
       have hne:n'≠n:=by
        rintro rfl;rcases Nat.lt_or_ge i k with hlt|hge
        ·have:=(hF.chain i k n' n' hlt hfn hk).1;omega
        ·have:=(hF.chain k i n' n' (Nat.lt_of_le_of_ne hge (fun e=>hik e.symm)) hk hfn).1;exact absurd this (Nat.lt_irrefl _)
       omega
    unfold wpOp;rw[hoi];simp only
    have skip:(fn=none/\∀d,ao.dst=some d->get F d=some (.tuple []))->wpAny P md ops Q f (listed.setIfInBounds i true) (a.put o.dst undef) σ.w:=by
     rintro⟨rfl,hno⟩;have s1:=hst.skipped o.dst hd;refine hnext _ σ j (Le.refl σ) ⟨⟨_,by rw[hcur i hni];exact hjs,s1.inv⟩,?_,s1.size,s1.defers,quietNums hfn,hclosed⟩;intro u bv hg;rw[b7x]at hg;split at hg
     ·rename_i hs
      by_cases hdt:o.dst=some u
      ·have:=hno u (by rw[hdst];exact hdt);rw[this]at hg;cases hg;exact s1.env u _ (by rw[b3b,if_pos hdt])
      ·exact s1.env u bv (by rw[b3b,if_neg hdt,b7x,if_pos (hseen' u hs (by rw[hbind];exact hdt))];exact hg)
     ·cases hg
    unfold e6l at hfact;rcases hguard with⟨hg1,hg2⟩|⟨jg,b,t,hg1,hg2,hg3⟩
    ·have hw:Region.wanted o (yielded ops a.tmps)=true:=by simp[Region.wanted,hg1]
     rw[if_pos hw];rw[hg2]at hfact;exact .inl (does hfact)
    ·rw[hg2]at hfact;rcases hfact with⟨c,hgt,hyes,hno⟩|⟨hgt,hno⟩
     ·have hy:yielded ops a.tmps jg=some c:=d3u (env:=d85 (e2b ops al.length listed) F) hg3 hh.env (by rw[hlook t (by simp[E8.looks,hg2])];exact hgt)
      by_cases hcb:c=b
      ·have hw:Region.wanted o (yielded ops a.tmps)=true:=by simp[Region.wanted,hg1,hy,hcb]
       rw[if_pos hw];exact .inl (does (hyes hcb))
      ·have hw:Region.wanted o (yielded ops a.tmps)=false:=by simp[Region.wanted,hg1,hy,hcb]
       rw[hw];simp only[Bool.false_eq_true,if_false];exact skip (hno hcb)
     ·have hy:yielded ops a.tmps jg=none:=c7c (env:=d85 (e2b ops al.length listed) F) hg3 hh.env (by rw[hlook t (by simp[E8.looks,hg2])];exact hgt);have hw:Region.wanted o (yielded ops a.tmps)=false:=by simp[Region.wanted,hg1,hy]
      rw[hw];simp only[Bool.false_eq_true,if_false];exact skip hno
theorem d6r{id:Nat}{ops:Array Oper}{al tl:List E8}(hq:a86 P N ops (ops.toList.take al.length)=some al)(ht:a86 P N ops (ops.toList.drop al.length)=some tl)(hok:f2y ops al=true)
  {Q:Exit->Env->A7->Prop}(hs:St σ h env N a) {F:Env}{h':A7}{az:List (Nat × List AV)}{hl:List A7}{fl:List (Option Nat)}(hn:f0a P (clo (c8t ops al.length)) al env F h h' az hl fl) (hv:f27 P tl F h' fun env' h'=>Q .normal env' h'):(Code.region id ops true).wp P (c08 σ N Q) a σ.w:=by
 simp only[f2y,Bool.and_eq_true,decide_eq_true_eq]at hok;obtain⟨⟨⟨h1,h2⟩,h3⟩,h4⟩:=hok;have ho:=f3c h1;have hd:c0y σ.w {σ.w with drawn:=σ.w.drawn+1}:=⟨Nat.le_refl _,fun _ _=>rfl,rfl,rfl,rfl⟩
 let σ1:Sg:={σ with w:={σ.w with drawn:=σ.w.drawn+1}}
 have hle1:Le σ σ1:=Le.world hd;have hi1:Inv h σ1:=hs.inv.world hd;obtain⟨hlen,hget⟩:=c2a hq;have hrep:∀i,i<ops.size->(Array.replicate ops.size false).getD i true=false:=fun i hi=>by simp[Array.getD_eq_getD_getElem?,Array.getElem?_replicate,hi]
 have every:∀md:Region.Mode,wpAny P md ops (c08 σ N Q) ops.size (Array.replicate ops.size false) a {σ.w with drawn:=σ.w.drawn+1}:=by
  intro md;refine f2m (σ₀:=σ1) hq h3 ho hn ?_ ops.size _ a σ1 0 (by simp) (fun i _ hi=>hrep i hi) (Le.refl _) ?_ ?_
  ·intro σ2 a2 l2 s2;have hlen2:(ops.toList.drop al.length).length=ops.size - al.length:=by simp
   rw[<-hlen2];refine b53 (σ₀:=σ1) (K:=fun env' h'=>Q .normal env' h') (fun σ3 h3 env3 a3 l3 s3 q3=>⟨trivial,σ3,h3,env3,rfl,hle1.trans l3,s3,q3⟩) _ _ tl σ2 h' F a2 (fun j hj=>?_) ht l2 s2 hv;rw[List.getElem?_drop,Array.getElem?_toList]
  ·refine⟨⟨_,rfl,?_⟩,?_,hs.size,hs.defers,?_,?_⟩
   ·have:hA h az (fun k=>(Array.replicate ops.size false).getD k true)=⟨h.blks++List.replicate az.length none,h.bufs,h.globs⟩:=by
     unfold hA
     congr 2
     apply List.ext_getElem?;intro q;rw[List.getElem?_map,List.getElem?_replicate];cases hq:az[q]? with
     |none=>
      have:az.length<=q:=List.getElem?_eq_none_iff.1 hq;rw[if_neg (by omega)];rfl
     |some p=>
      have hql:q<az.length:=(List.getElem?_eq_some_iff.1 hq).1;obtain⟨o,ho1,_⟩:=hn.new q p hq;have hil:p.1<al.length:=(List.getElem?_eq_some_iff.1 ho1).1;rw[if_pos hql];simp only[Option.map_some,hrep p.1 (show p.1<ops.size by omega)];rfl
    rw[this];exact e5b hi1 az.length
   ·intro t av hg;rw[b7x]at hg;split at hg
    ·rename_i hsn
     have hw:R0 t al=false:=by
      cases hwb:R0 t al with
      |false=>rfl
      |true=>
       exfalso;unfold R0 at hwb;rw[List.any_eq_true]at hwb;obtain⟨o,hmem,hod⟩:=hwb;obtain⟨i,hi⟩:=List.mem_iff_getElem?.1 hmem;have hil:i<al.length:=(List.getElem?_eq_some_iff.1 hi).1;have hops:ops[i]? =some ops[i]:=Array.getElem?_eq_getElem (by omega);obtain⟨ao,hao,hco⟩:=hget i ops[i] (by rw[List.getElem?_take,if_pos hil];simpa using hops);rw[hi]at hao;cases hao;have:=(c3v hco).2.2.1;have hf:=hsn i hil (by rw[hops];simp only[Option.bind_some];rw[<-this];simpa using hod);rw[hrep i (by omega)]at hf;cases hf
     rw[hn.keep t hw]at hg;obtain⟨x,q1,q2⟩:=hs.env t av hg;exact⟨x,q1,q2.mono hle1⟩
    ·cases hg
   ·intro i n hi;have hil:i<al.length:=by rw[<-hn.len];exact(List.getElem?_eq_some_iff.1 hi).1
    rw[hrep i (by omega)];simp
   ·intro k i hil hkl;rw[hrep k (by omega)]at hkl;cases hkl
  ·simp
 refine wp_region_draw fun t=>?_
 unfold Region.schedule;split
 ·exact wpAny_sound ops.size t _ a _ (every .any)
 ·exact wpAny_sound ops.size (t / 2) _ a _ (every _)
end
def d88(ops:Array Oper):Nat:=((List.range (ops.size+1)).find? fun m=>(List.range ops.size).all fun i=>decide (i<m)||(List.range i).all fun j=>c8s ops i j).getD ops.size
def D0(P:Program)(N:Nat):Code->Option W2
 |.skip=>some .skip
 |.region _ ops false=>(a86 P N ops ops.toList).map .region
 |.region _ ops true=>(a86 P N ops (ops.toList.take (d88 ops))).bind fun al=>(a86 P N ops (ops.toList.drop (d88 ops))).bind fun tl=>
  if f2y ops al=true/\al.length=d88 ops then some (.drawn (c8t ops al.length) al tl) else none
 |.seq a b=>(D0 P N a).bind fun a=>(D0 P N b).map fun b=>.seq a b
 |.cond c a b=>(b0z c).bind fun c=>(D0 P N a).bind fun a=>(D0 P N b).map fun b=>.cond c a b
 |.block id a=>(D0 P N a).map fun a=>.block id a
 |.loop a=>(D0 P N a).map fun a=>.loop a
 |.exit id=>some (.exit id)
 |.ret=>some .ret
 |.scope a=>(D0 P N a).map .scope
 |.label l=>some (.label l)
 |.goto l=>some (.goto l)
 |_=>none
def d9j(P:Program)(N:Nat)(ac:W2)(Q:Exit->Env->A7->Prop)(env:Env)(h:A7):Prop:=
 ∀c,D0 P N c=some ac->∀(σ:Sg) (a:Act),St σ h env N a->c.wp P (c08 σ N Q) a σ.w
def e9e(K:Env->A7->Prop)(Q:Exit->Env->A7->Prop):Exit->Env->A7->Prop
 |.normal,env,h=>K env h
 |e,env,h=>Q e env h
def d57(id:Nat)(Q:Exit->Env->A7->Prop):Exit->Env->A7->Prop
 |.exit i,env,h=>if i=id then Q .normal env h else Q (.exit i) env h
 |e,env,h=>Q e env h
def f3k:Env->Env->Prop
 |[],_=>True
 |(t,av)::e,env=>get env t=some av/\f3k e env
theorem f3k.get{env:Env}:∀{e:Env},f3k e env->∀t av,Lift.get e t=some av->Lift.get env t=some av
 |[],_,t,av,h=>by simp[Lift.get]at h
 |(u,b)::e,h,t,av,hg=>by
  simp only[Lift.get]at hg;split at hg
  ·rename_i hu;subst hu;cases hg;exact h.1
  ·exact f3k.get h.2 t av hg
section
variable {P:Program}{N:Nat}{Q:Exit->Env->A7->Prop}{env:Env}{h:A7}
theorem c08.up{σ σ':Sg}(hl:Le σ σ'){e:Exit}{a:Act}{w:World}(hh:c08 σ' N Q e a w):c08 σ N Q e a w:=by
 obtain⟨h1,σ2,h2,env2,q1,q2,q3,q4⟩:=hh;exact⟨h1,σ2,h2,env2,q1,hl.trans q2,q3,q4⟩
theorem f0p(hq:Q .normal env h):d9j P N .skip Q env h:=by
 intro c hc σ a hs;cases c<;>(try simp only[D0,Option.bind_eq_some_iff,Option.map_eq_some_iff]at hc)
 case skip=>exact wp_skip ⟨trivial,σ,h,env,rfl,Le.refl σ,hs,hq⟩
 case region id ops d=>
  cases d<;>simp only[D0,Option.bind_eq_some_iff,Option.map_eq_some_iff]at hc
  ·obtain⟨_,_,hx⟩:=hc;cases hx
  ·obtain⟨_,_,_,_,hx⟩:=hc;split at hx<;>cases hx
 all_goals first
  |(cases hc;done)
  |(obtain⟨_,_,hx⟩:=hc;cases hx;done)
  |(obtain⟨_,_,_,_,hx⟩:=hc;cases hx;done)
  |(obtain⟨_,_,_,_,_,_,hx⟩:=hc;cases hx;done)
theorem f2z{id:Nat}(hq:Q (.exit id) env h):d9j P N (.exit id) Q env h:=by
 intro c hc σ a hs;cases c<;>(try simp only[D0,Option.bind_eq_some_iff,Option.map_eq_some_iff]at hc)
 case exit=>cases hc;exact wp_exit ⟨trivial,σ,h,env,rfl,Le.refl σ,hs,hq⟩
 case region id ops d=>
  cases d<;>simp only[D0,Option.bind_eq_some_iff,Option.map_eq_some_iff]at hc
  ·obtain⟨_,_,hx⟩:=hc;cases hx
  ·obtain⟨_,_,_,_,hx⟩:=hc;split at hx<;>cases hx
 all_goals first
  |(cases hc;done)
  |(obtain⟨_,_,hx⟩:=hc;cases hx;done)
  |(obtain⟨_,_,_,_,hx⟩:=hc;cases hx;done)
  |(obtain⟨_,_,_,_,_,_,hx⟩:=hc;cases hx;done)
theorem f3g(hq:Q .ret env h):d9j P N .ret Q env h:=by
 intro c hc σ a hs;cases c<;>(try simp only[D0,Option.bind_eq_some_iff,Option.map_eq_some_iff]at hc)
 case ret=>exact wp_ret ⟨trivial,σ,h,env,rfl,Le.refl σ,hs,hq⟩
 case region id ops d=>
  cases d<;>simp only[D0,Option.bind_eq_some_iff,Option.map_eq_some_iff]at hc
  ·obtain⟨_,_,hx⟩:=hc;cases hx
  ·obtain⟨_,_,_,_,hx⟩:=hc;split at hx<;>cases hx
 all_goals first
  |(cases hc;done)
  |(obtain⟨_,_,hx⟩:=hc;cases hx;done)
  |(obtain⟨_,_,_,_,hx⟩:=hc;cases hx;done)
  |(obtain⟨_,_,_,_,_,_,hx⟩:=hc;cases hx;done)
theorem e01{ops:List E8}(hv:f27 P ops env h (fun env' h'=>Q .normal env' h')):d9j P N (.region ops) Q env h:=by
 intro c hc σ a hs;cases c<;>(try simp only[D0,Option.bind_eq_some_iff,Option.map_eq_some_iff]at hc)
 case region id ops' d=>
  cases d<;>simp only[D0,Option.bind_eq_some_iff,Option.map_eq_some_iff]at hc
  ·obtain⟨al,hal,hx⟩:=hc;cases hx;refine wp_region ?_;have:=b53 (Q:=c08 σ N Q) (σ₀:=σ) (K:=fun env' h'=>Q .normal env' h') (fun σ3 h3 env3 a3 l3 s3 q3=>⟨trivial,σ3,h3,env3,rfl,l3,s3,q3⟩) ops'.toList 0 ops σ h env a (fun j hj=>by simp) hal (Le.refl σ) hs hv;rw[List.range_eq_range'];simpa using this
  ·obtain⟨_,_,_,_,hx⟩:=hc;split at hx<;>cases hx
 all_goals first
  |(cases hc;done)
  |(obtain⟨_,_,hx⟩:=hc;cases hx;done)
  |(obtain⟨_,_,_,_,hx⟩:=hc;cases hx;done)
  |(obtain⟨_,_,_,_,_,_,hx⟩:=hc;cases hx;done)
theorem d02{ord:List (List Nat)}{al tl:List E8}{F:Env}{h':A7}{az:List (Nat × List AV)}{hl:List A7}{fl:List (Option Nat)}(hn:f0a P (clo ord) al env F h h' az hl fl)(hv:f27 P tl F h' fun env' h'=>Q .normal env' h'):d9j P N (.drawn ord al tl) Q env h:=by
 intro c hc σ a hs;cases c<;>(try simp only[D0,Option.bind_eq_some_iff,Option.map_eq_some_iff]at hc)
 case region id ops' d=>
  cases d<;>simp only[D0,Option.bind_eq_some_iff,Option.map_eq_some_iff]at hc
  ·obtain⟨_,_,hx⟩:=hc;cases hx
  ·obtain⟨al',hal,tl',htl,hx⟩:=hc;split at hx
   ·rename_i hcond;cases hx;obtain⟨c2,c3⟩:=hcond;rw[<-c3]at hal htl;exact d6r hal htl c2 hs hn hv
   ·cases hx
 all_goals first
  |(cases hc;done)
  |(obtain⟨_,_,hx⟩:=hc;cases hx;done)
  |(obtain⟨_,_,_,_,hx⟩:=hc;cases hx;done)
  |(obtain⟨_,_,_,_,_,_,hx⟩:=hc;cases hx;done)
theorem c4o{x:W2}{Q':Exit->Env->A7->Prop}(hx:d9j P N x Q env h)(hq:∀e env h,Q e env h->Q' e env h):d9j P N x Q' env h:=by
 intro c hc σ a hs;refine wp_mono (hx c hc σ a hs) ?_;rintro e a' w' ⟨h1,σ2,h2,env2,q1,q2,q3,q4⟩;exact⟨h1,σ2,h2,env2,q1,q2,q3,hq _ _ _ q4⟩
end
def b9s:W2->Nat->Option W2
 |.seq a b,l=>match b9s a l with
  |some rest=>some (.seq rest b)
  |none=>b9s b l
 |.label l',l=>if l'==l then some .skip else none
 |_,_=>none
theorem e3t{P:Program}{N:Nat}(l:Nat):∀{c:Code}{ac:W2},D0 P N c=some ac->
  (∀ar,b9s ac l=some ar->∃r,findLabel c l=some r/\D0 P N r=some ar)/\(b9s ac l=none->findLabel c l=none):=by
 intro c
 induction c with
 |seq x y ihx ihy=>
  intro ac hc;simp only[D0,Option.bind_eq_some_iff,Option.map_eq_some_iff]at hc;obtain⟨x',hx,y',hy,rfl⟩:=hc;obtain⟨f1,f2⟩:=ihx hx;obtain⟨g1,g2⟩:=ihy hy;simp only[b9s,findLabel];cases hax:b9s x' l with
  |some rx=>
   obtain⟨r,h1,h2⟩:=f1 rx hax;simp only[h1];refine⟨fun ar h=>?_,fun h=>by cases h⟩;cases h;exact⟨_,rfl,by simp[D0,h2,hy]⟩
  |none=>
   simp only[f2 hax];exact⟨g1,g2⟩
 |label l'=>
  intro ac hc;simp only[D0]at hc;cases hc;simp only[b9s,findLabel];split
  ·exact⟨fun ar h=>by cases h;exact⟨_,rfl,rfl⟩,fun h=>by cases h⟩
  ·exact⟨(fun ar h=>by cases h),fun _=>rfl⟩
 |region id ops d=>
  intro ac hc;cases d<;>simp only[D0,Option.bind_eq_some_iff,Option.map_eq_some_iff]at hc
  ·obtain⟨_,_,rfl⟩:=hc;exact⟨(fun ar h=>by simp[b9s]at h),fun _=>rfl⟩
  ·obtain⟨_,_,_,_,hx⟩:=hc;split at hx<;>cases hx
   exact⟨(fun ar h=>by simp[b9s]at h),fun _=>rfl⟩
 |_=>
  intro ac hc;simp only[D0,Option.bind_eq_some_iff,Option.map_eq_some_iff]at hc
  first
   |(cases hc;done)
   |(cases hc;exact⟨(fun ar h=>by simp[b9s]at h),fun _=>rfl⟩)
   |(obtain⟨_,_,rfl⟩:=hc;exact⟨(fun ar h=>by simp[b9s]at h),fun _=>rfl⟩)
   |(obtain⟨_,_,_,_,rfl⟩:=hc;exact⟨(fun ar h=>by simp[b9s]at h),fun _=>rfl⟩)
   |(obtain⟨_,_,_,_,_,_,rfl⟩:=hc;exact⟨(fun ar h=>by simp[b9s]at h),fun _=>rfl⟩)
def g2e(l:Nat)(J:Env->A7->Prop)(Q:Exit->Env->A7->Prop):Exit->Env->A7->Prop
 |.goto l',env,h=>l'=l/\J env h
 |e,env,h=>Q e env h
def f0z(Q:Exit->Env->A7->Prop):Exit->Env->A7->Prop
 |.goto _,_,_=>False
 |e,env,h=>Q e env h
section
variable {P:Program}{N:Nat}{Q:Exit->Env->A7->Prop}{env:Env}{h:A7}
theorem d7c{c:Code}{x:W2}(hc:D0 P N c=some (.scope x)):∃c',c=.scope c'/\D0 P N c'=some x:=by
 cases c<;>(try simp only[D0,Option.bind_eq_some_iff,Option.map_eq_some_iff]at hc)
 case scope c'=>obtain⟨x',h1,h2⟩:=hc;cases h2;exact⟨c',rfl,h1⟩
 case region id ops d=>
  cases d<;>simp only[D0,Option.bind_eq_some_iff,Option.map_eq_some_iff]at hc
  ·obtain⟨_,_,hx⟩:=hc;cases hx
  ·obtain⟨_,_,_,_,hx⟩:=hc;split at hx<;>cases hx
 all_goals first
  |(cases hc;done)
  |(obtain⟨_,_,hx⟩:=hc;cases hx;done)
  |(obtain⟨_,_,_,_,hx⟩:=hc;cases hx;done)
  |(obtain⟨_,_,_,_,_,_,hx⟩:=hc;cases hx;done)
theorem e5p{l:Nat}(hq:Q .normal env h):d9j P N (.label l) Q env h:=by
 intro c hc σ a hs;cases c<;>(try simp only[D0,Option.bind_eq_some_iff,Option.map_eq_some_iff]at hc)
 case label=>exact wp_label ⟨trivial,σ,h,env,rfl,Le.refl σ,hs,hq⟩
 case region id ops d=>
  cases d<;>simp only[D0,Option.bind_eq_some_iff,Option.map_eq_some_iff]at hc
  ·obtain⟨_,_,hx⟩:=hc;cases hx
  ·obtain⟨_,_,_,_,hx⟩:=hc;split at hx<;>cases hx
 all_goals first
  |(cases hc;done)
  |(obtain⟨_,_,hx⟩:=hc;cases hx;done)
  |(obtain⟨_,_,_,_,hx⟩:=hc;cases hx;done)
  |(obtain⟨_,_,_,_,_,_,hx⟩:=hc;cases hx;done)
theorem e9u{l:Nat}(hq:Q (.goto l) env h):d9j P N (.goto l) Q env h:=by
 intro c hc σ a hs;cases c<;>(try simp only[D0,Option.bind_eq_some_iff,Option.map_eq_some_iff]at hc)
 case goto=>cases hc;exact wp_goto ⟨trivial,σ,h,env,rfl,Le.refl σ,hs,hq⟩
 case region id ops d=>
  cases d<;>simp only[D0,Option.bind_eq_some_iff,Option.map_eq_some_iff]at hc
  ·obtain⟨_,_,hx⟩:=hc;cases hx
  ·obtain⟨_,_,_,_,hx⟩:=hc;split at hx<;>cases hx
 all_goals first
  |(cases hc;done)
  |(obtain⟨_,_,hx⟩:=hc;cases hx;done)
  |(obtain⟨_,_,_,_,hx⟩:=hc;cases hx;done)
  |(obtain⟨_,_,_,_,_,_,hx⟩:=hc;cases hx;done)
end
mutual
def plain:AV->Bool
 |.v _=>true
 |.ptr _ _=>false
 |.elt cells _=>plainL cells
 |.nil=>true
 |.sl els tok=>(match tok with|.own _=>false|_=>true)&&plainLL els
 |.agg cells=>plainL cells
 |.tuple vs=>plainL vs
 |.iface _ x=>plain x
 |.clo _ first captured=>plainL first&&plainL captured
 |.glob _=>true
 |.row _ _ _ _ _=>false
 |.it _ _=>false
def plainL:List AV->Bool
 |[]=>true
 |a::r=>plain a&&plainL r
def plainLL:List (List AV)->Bool
 |[]=>true
 |a::r=>plainL a&&plainLL r
end
theorem U9:∀{l:List AV},plainL l=true->∀(i:Nat) (av:AV),l[i]? =some av->plain av=true
 |[],_,i,av,h=>by simp at h
 |a::r,hp,i,av,h=>by
  simp only[plainL,Bool.and_eq_true]at hp;cases i with
  |zero=>simp at h;subst h;exact hp.1
  |succ i=>exact U9 hp.2 i av (by simpa using h)
theorem a5s:∀{l:List (List AV)},plainLL l=true->∀(i:Nat) (el:List AV),l[i]? =some el->plainL el=true
 |[],_,i,av,h=>by simp at h
 |a::r,hp,i,av,h=>by
  simp only[plainLL,Bool.and_eq_true]at hp;cases i with
  |zero=>simp at h;subst h;exact hp.1
  |succ i=>exact a5s hp.2 i av (by simpa using h)
theorem D6{α:Type}(f:α->List AV)(l:List α)(h:∀x∈l,plainL (f x)=true):plainLL (l.map f)=true:=by
 induction l with
 |nil=>rfl
 |cons x l ih=>simp only[List.map_cons,plainLL,Bool.and_eq_true];exact⟨h x (by simp),ih fun y hy=>h y (by simp[hy])⟩
def bare(w:World)(outer:Nat->Nat->Prop):Sg:=⟨w,fun _=>none,fun _=>none,outer⟩
theorem b7e(w:World)(outer:Nat->Nat->Prop)(b o:Nat):¬(bare w outer).own b o:=by
 rintro (⟨n,h⟩|⟨id,e,h,_⟩)<;>cases h
theorem b8r(w:World)(outer:Nat->Nat->Prop)(b o:Nat):(bare w outer).open_ b o↔outer b o:=⟨fun h=>h.elim id fun h=>(b7e w outer b o h).elim,.inl⟩
def e8l(w:World)(outer:Nat->Nat->Prop)(gl:List (Nat × List AV)):Prop:=∀g cells,(g,cells)∈gl->Rel (bare w outer) (.elt cells 0) (.pointer (some ⟨g,0,none⟩))
theorem d4m{w:World}{outer:Nat->Nat->Prop}{gl:List (Nat × List AV)}(h:∀b o,outer b o->b<w.heap.size)(hg:e8l w outer gl):Inv ⟨[],[],gl⟩ (bare w outer) where
 blk n cells hn:=by simp at hn
 dom n b hn:=by cases hn
 inj n m b c c' hc hc' _ _ hn:=by cases hn
 buf id c hc:=by simp at hc
 bufdom id e he:=by cases he
 bufle id e he:=by cases he
 bufat id e b o he:=by cases he
 bufinj i j e f b o he:=by cases he
 bufblk id e n b o he:=by cases he
 outer b o ho:=⟨h b o ho,b7e w outer b o⟩
 glob:=hg
theorem Rel.down{σ:Sg}{av:AV}{x:Value}(hr:Rel σ av x):plain av=true->∀{w:World}{outer:Nat->Nat->Prop},w=σ.w->(∀b o,outer b o->σ.open_ b o)->Rel (bare w outer) av x:=by
 intro hp w outer hw ho;subst hw
 induction hr with
 |v x hx=>exact .v x hx
 |ptr n off b hb=>simp[plain]at hp
 |elt cells off b o xs hc _ ih=>
  simp only[plain]at hp;exact .elt cells off b o xs (fun i av hi=>⟨(hc i av hi).1,fun h=>(hc i av hi).2.1 (ho _ _ ((b8r _ _ _ _).1 h)),(hc i av hi).2.2⟩) fun i av hi=>ih i av hi (U9 hp i av hi)
 |nil=>exact .nil
 |glob n=>exact .glob n
 |row n off size len capm b cap hb hc hm hx=>simp[plain]at hp
 |sl0 tok ht=>
  refine .sl0 tok ?_;cases tok with
  |no=>trivial
  |full=>exact ht
  |own id=>simp[plain]at hp
 |slx tok a cap ht hc=>
  refine .slx tok a cap ?_ hc;cases tok with
  |no=>trivial
  |full=>exact ht
  |own id=>simp[plain]at hp
 |sl els tok b o cap size xs hs hcap ht hz hc _ ih=>
  simp only[plain,Bool.and_eq_true]at hp;refine .sl els tok b o cap size xs hs hcap ?_ ?_ (fun i el hi j av hj=>⟨(hc i el hi j av hj).1,fun h=>(hc i el hi j av hj).2.1 (ho _ _ ((b8r _ _ _ _).1 h)),(hc i el hi j av hj).2.2⟩) fun i el hi j av hj=>ih i el hi j av hj (U9 (a5s hp.2 i el hi) j av hj)
  ·cases tok with
   |no=>trivial
   |full=>exact ht
   |own id=>simp at hp
  ·intro id e hid he;cases he
 |agg cells xs hn hc x hx _ ih=>simp only[plain]at hp;exact .agg cells xs hn hc x hx fun i av hi=>ih i av hi (U9 hp i av hi)
 |tuple vs xs hn x hx _ ih=>simp only[plain]at hp;exact .tuple vs xs hn x hx fun i av hi=>ih i av hi (U9 hp i av hi)
 |iface t av x _ ih=>simp only[plain]at hp;exact .iface t av x (ih hp)
 |clo fn first captured fs cs hn hm x y hx hy _ _ ih1 ih2=>
  simp only[plain,Bool.and_eq_true]at hp;exact .clo fn first captured fs cs hn hm x y hx hy (fun i av hi=>ih1 i av hi (U9 hp.1 i av hi)) fun i av hi=>ih2 i av hi (U9 hp.2 i av hi)
theorem Rel.up{σ σ₁:Sg}{av:AV}{x:Value}(hr:Rel σ₁ av x):(∀n,σ₁.blk n=none)->(∀n,σ₁.buf n=none)->σ₁.w=σ.w->(∀b o,σ.open_ b o->σ₁.open_ b o)->Rel σ av x:=by
 intro hb hbuf hw ho
 induction hr with
 |v x hx=>exact .v x hx
 |ptr n off b h=>rw[hb]at h;cases h
 |elt cells off b o xs hc _ ih=>exact .elt cells off b o xs (fun i av hi=>⟨by rw[<-hw];exact(hc i av hi).1,fun h=>(hc i av hi).2.1 (ho _ _ h),(hc i av hi).2.2⟩) ih
 |nil=>exact .nil
 |glob n=>exact .glob n
 |row n off size len capm b cap h hc hm hx=>rw[hb]at h;cases h
 |sl0 tok ht=>
  refine .sl0 tok ?_;cases tok with
  |no=>trivial
  |full=>exact ht
  |own id=>obtain⟨e,h,_⟩:=ht;rw[hbuf]at h;cases h
 |slx tok a cap ht hc=>
  refine .slx tok a cap ?_ hc;cases tok with
  |no=>trivial
  |full=>exact ht
  |own id=>obtain⟨e,h,_⟩:=ht;rw[hbuf]at h;cases h
 |sl els tok b o cap size xs hs hcap ht hz hc _ ih=>
  refine .sl els tok b o cap size xs hs hcap ?_ ?_ (fun i el hi j av hj=>⟨by rw[<-hw];exact(hc i el hi j av hj).1,fun h=>(hc i el hi j av hj).2.1 (ho _ _ h),(hc i el hi j av hj).2.2⟩) ih
  ·cases tok with
   |no=>trivial
   |full=>exact ht
   |own id=>obtain⟨e,h,_⟩:=ht;rw[hbuf]at h;cases h
  ·intro id e hid he;subst hid;obtain⟨e',h,_⟩:=ht;rw[hbuf]at h;cases h
 |agg cells xs hn hc x hx _ ih=>exact .agg cells xs hn hc x hx ih
 |tuple vs xs hn x hx _ ih=>exact .tuple vs xs hn x hx ih
 |iface t av x _ ih=>exact .iface t av x ih
 |clo fn first captured fs cs hn hm x y hx hy _ _ ih1 ih2=>exact .clo fn first captured fs cs hn hm x y hx hy ih1 ih2
def b4l:Nat->A7->AV->AV
 |0,_,a=>a
 |k+1,h,a=>match a with
  |.row n off size len cap=>match e0v h n off size len with
   |some els=>.sl (els.map fun el=>el.map fun c=>b4l k h (wk1 c)) .no
   |none=>a
  |.sl els tok=>.sl (els.map fun el=>el.map fun c=>b4l k h (wk1 c)) tok
  |.agg cells=>.agg (cells.map fun c=>b4l k h (wk1 c))
  |.tuple vs=>.tuple (vs.map fun c=>b4l k h (wkA c))
  |a=>a
theorem e5t:∀(k:Nat) (h:A7) (a:AV),(b4l k h a).isCell=a.isCell
 |0,_,_=>rfl
 |k+1,h,a=>by
  cases a with
  |row n off size len cap=>
   simp only[b4l];cases e0v h n off size len<;>rfl
  |_=>rfl
theorem a9j{f:AV->AV}{l:List AV}(h:plainL (l.map f)=true){i:Nat}{a:AV}(ha:l[i]? =some a):plain (f a)=true:=U9 h i _ (by rw[List.getElem?_map,ha];rfl)
theorem Rel.thaw{h:A7}{σ:Sg}(hi:Inv h σ):∀(k:Nat) (av:AV) (x:Value),Rel σ av x->plain (b4l k h av)=true->Rel (bare σ.w σ.outer) (b4l k h av) x:=by
 have hout:∀b o,σ.outer b o->σ.open_ b o:=fun b o ho=>.inl ho
 intro k
 induction k with
 |zero=>intro av x hr hp;exact hr.down hp rfl hout
 |succ k ih=>
  intro av x hr hp;have cell:∀(c:AV) (y:Value),Rel σ c y->plain (b4l k h (Lift.wk1 c))=true->Rel (bare σ.w σ.outer) (b4l k h (Lift.wk1 c)) y:=fun c y hc hpc=>ih _ _ hc.wk1 hpc
  have iscell:∀c,(b4l k h (Lift.wk1 c)).isCell=c.isCell:=fun c=>by rw[e5t,e2v]
  cases hr with
  |row n off size len capm b cap hb hc hm hx=>
   simp only[b4l]at hp ⊢;cases hra:e0v h n off size len with
   |none=>rw[hra]at hp;simp[plain]at hp
   |some els=>
    rw[hra]at hp;simp only[plain,Bool.true_and]at hp
    by_cases hlen:len=0
    ·subst hlen;simp only[e0v,if_true,Option.some.injEq]at hra;subst hra;exact .slx _ _ _ trivial (.inl rfl)
    simp only[e0v,if_neg hlen]at hra;split at hra
    ·rename_i cells hcs;split at hra
     ·rename_i hcond;obtain⟨hno,hle⟩:=hcond;simp only[Option.some.injEq]at hra;obtain⟨b',hb',hbk⟩:=hi.blk n cells hcs;rw[hb]at hb';cases hb';obtain⟨cs,rest,elem,hheap,hcc⟩:=hbk.plain hno;have hsub:=hcc.sub off (len*size) hle;have hl:((cells.drop off).take (len*size)).length=len*size:=by simp;omega
      obtain⟨c1,c2,c3⟩:=c52 size len _ hl;rw[hra]at c1 c2 c3
      have hown:∀o,¬(bare σ.w σ.outer).open_ b o:=by
       intro o ho;exact(hi.outer b o ((b8r _ _ _ _).1 ho)).2 (.inl ⟨n,hb⟩)
      have key:∀(i:Nat) (el:List AV),els[i]? =some el->∀(j:Nat) (av:AV),el[j]? =some av->∃y,σ.w.cell? ⟨b,off+i*size+j,none⟩=some y/\Rel σ av y/\av.isCell=true:=by
       intro i el hiel j av hj;have hel:el.length=size:=c2 el (List.mem_of_getElem? hiel);have hjl:j<size:=by rw[<-hel];exact(List.getElem?_eq_some_iff.1 hj).1
       have hf:=b45 els c2 i j hjl;rw[hiel,Option.bind_some,hj,c1]at hf;obtain⟨hcell,y,hy,hrel⟩:=hsub.2 _ av hf;refine⟨y,?_,hrel,hcell⟩;rw[List.getElem?_take]at hy;split at hy
       ·rw[List.getElem?_drop]at hy;have hlt:=(List.getElem?_eq_some_iff.1 hy).1;rw[a2e hheap,<-Array.getElem?_toList,List.toList_toArray,Nat.add_assoc,List.getElem?_append_left hlt];exact hy
       ·cases hy
      have:=Rel.sl (σ:=bare σ.w σ.outer) (els.map fun el=>el.map fun c=>b4l k h (Lift.wk1 c)) .no b off cap size (fun i j=>(σ.w.cell? ⟨b,off+i*size+j,none⟩).getD undef)
       (fun i el hiel=>by
        simp only[List.getElem?_map,Option.map_eq_some_iff]at hiel;obtain⟨el',h1,rfl⟩:=hiel;rw[List.length_map];exact c2 el' (List.mem_of_getElem? h1))
       (by rw[List.length_map,c3];exact hc) trivial (fun id e hid=>by cases hid)
       (fun i el hiel j av hj=>by
        simp only[List.getElem?_map,Option.map_eq_some_iff]at hiel;obtain⟨el',h1,rfl⟩:=hiel;simp only[List.getElem?_map,Option.map_eq_some_iff]at hj;obtain⟨av',h2,rfl⟩:=hj;obtain⟨y,k1,k2,k3⟩:=key i el' h1 j av' h2;exact⟨by show σ.w.cell? _=_;rw[k1];rfl,hown _,by rw[iscell];exact k3⟩)
       (fun i el hiel j av hj=>by
        simp only[List.getElem?_map,Option.map_eq_some_iff]at hiel;obtain⟨el',h1,rfl⟩:=hiel;simp only[List.getElem?_map,Option.map_eq_some_iff]at hj;obtain⟨av',h2,rfl⟩:=hj;obtain⟨y,k1,k2,k3⟩:=key i el' h1 j av' h2;rw[k1];exact cell av' y k2 (a9j (f:=fun c=>b4l k h (Lift.wk1 c)) (a5s hp i _ (by rw[List.getElem?_map,h1];rfl)) h2))
      rw[List.length_map,c3]at this;exact this
     ·cases hra
    ·cases hra
  |sl0 tok ht=>
   simp only[b4l,List.map_nil]at hp ⊢;exact(Rel.sl0 tok ht).down hp rfl hout
  |slx tok a cap ht hc=>
   simp only[b4l,List.map_nil]at hp ⊢;exact(Rel.slx tok a cap ht hc).down hp rfl hout
  |sl els tok b o cap size xs hs hcap ht hz hc hr=>
   simp only[b4l,plain,Bool.and_eq_true]at hp ⊢
   have:=Rel.sl (σ:=bare σ.w σ.outer) (els.map fun el=>el.map fun c=>b4l k h (Lift.wk1 c)) tok b o cap size xs
    (fun i el hiel=>by
     simp only[List.getElem?_map,Option.map_eq_some_iff]at hiel;obtain⟨el',h1,rfl⟩:=hiel;rw[List.length_map];exact hs i el' h1)
    (by rw[List.length_map];exact hcap)
    (by
     rw[List.length_map];cases tok with
     |no=>trivial
     |full=>exact ht
     |own id=>simp at hp)
    (fun id e hid he=>by cases he)
    (fun i el hiel j av hj=>by
     simp only[List.getElem?_map,Option.map_eq_some_iff]at hiel;obtain⟨el',h1,rfl⟩:=hiel;simp only[List.getElem?_map,Option.map_eq_some_iff]at hj;obtain⟨av',h2,rfl⟩:=hj;obtain⟨k1,k2,k3⟩:=hc i el' h1 j av' h2;exact⟨k1,fun h=>k2 (.inl ((b8r _ _ _ _).1 h)),by rw[iscell];exact k3⟩)
    (fun i el hiel j av hj=>by
     simp only[List.getElem?_map,Option.map_eq_some_iff]at hiel;obtain⟨el',h1,rfl⟩:=hiel;simp only[List.getElem?_map,Option.map_eq_some_iff]at hj;obtain⟨av',h2,rfl⟩:=hj;exact cell av' _ (hr i el' h1 j av' h2) (a9j (f:=fun c=>b4l k h (Lift.wk1 c)) (a5s hp.2 i _ (by rw[List.getElem?_map,h1];rfl)) h2))
   rw[List.length_map]at this;exact this
  |agg cells xs hn hc x hx hr=>
   simp only[b4l,plain]at hp ⊢;refine .agg _ xs (by rw[List.length_map];exact hn) (fun i av hiv=>?_) x (fun i av hiv=>?_) (fun i av hiv=>?_)
   all_goals
    simp only[List.getElem?_map,Option.map_eq_some_iff]at hiv;obtain⟨av',h2,rfl⟩:=hiv
   ·rw[iscell];exact hc i av' h2
   ·exact hx i av' h2
   ·exact cell av' _ (hr i av' h2) (a9j hp h2)
  |tuple vs xs hn x hx hr=>
   simp only[b4l,plain]at hp ⊢;refine .tuple _ xs (by rw[List.length_map];exact hn) x (fun i av hiv=>?_) (fun i av hiv=>?_)
   all_goals
    simp only[List.getElem?_map,Option.map_eq_some_iff]at hiv;obtain⟨av',h2,rfl⟩:=hiv
   ·exact hx i av' h2
   ·exact ih _ _ (hr i av' h2).wkA (a9j hp h2)
  |v x hx=>exact .v x hx
  |ptr n off b hb=>simp[b4l,plain]at hp
  |elt cells off b o xs hc hr=>exact(Rel.elt cells off b o xs hc hr).down hp rfl hout
  |nil=>exact .nil
  |glob n=>exact .glob n
  |iface t av x hr=>exact(Rel.iface t av x hr).down hp rfl hout
  |clo fn first captured fs cs hn hm x y hx hy h1 h2=>exact(Rel.clo fn first captured fs cs hn hm x y hx hy h1 h2).down hp rfl hout
def g5h(P:Program)(gl:List (Nat × List AV))(f:FuncId)(args:List AV)(R:AV->Prop):Prop:=
 d5a P f/\∀(w:World) (outer:Nat->Nat->Prop) (cargs:Array Value),(∀b o,outer b o->b<w.heap.size)->e8l w outer gl->d2m (bare w outer) args cargs.toList->
  Calls P f cargs w fun e w'=>∃av x,e=.returned x/\c0y w w'/\Rel (bare w' outer) av x/\R av
def X1(gl:List (Nat × List AV)):Bool:=gl.all fun p=>plainL p.2
inductive c09 where
 |tmp (t:Nat)
 |cell (t:Nat) (n:Option Nat)
def b9f(P:Program):List ResultVar->Option (List c09)
 |[]=>some []
 |.tmp t::r=>(b9f P r).map fun l=>.tmp t::l
 |.cell a t::r=>(a87 P t).bind fun n=>(b9f P r).map fun l=>.cell a n::l
def d5g(env:Env)(h:A7):List c09->(List AV->Prop)->Prop
 |[],K=>K []
 |.tmp t::r,K=>wv (get env t) fun av=>d5g env h r fun l=>K (av::l)
 |.cell t n::r,K=>wv (get env t) fun p=>b8c h n p fun av=>d5g env h r fun l=>K (av::l)
def d5i:List AV->AV
 |[a]=>a
 |l=>.tuple l
def b4o(P:Program)(f:FuncId):Option (Nat × W2 × List c09):=
 (P.funcs[f]?).bind fun fn=>fn.body.bind fun c=>(D0 P fn.ntmps c).bind fun ac=>(b9f P fn.results.toList).bind fun rs=>if fn.name== "runtime.NumGoroutine" then none else some (fn.ntmps,ac,rs)
theorem d3b{P:Program}{f:FuncId}{N:Nat}{ac:W2}{rs:List c09}(h:b4o P f=some (N,ac,rs)):
  ∃fn c,P.funcs[f]? =some fn/\fn.body=some c/\fn.ntmps=N/\D0 P N c=some ac/\b9f P fn.results.toList=some rs/\(fn.name== "runtime.NumGoroutine")=false:=by
 simp only[b4o,Option.bind_eq_some_iff]at h;obtain⟨fn,h1,c,h2,ac',h3,rs',h4,h5⟩:=h;split at h5
 ·cases h5
 ·rename_i hn;cases h5;exact⟨fn,c,h1,h2,rfl,h3,h4,by simpa using hn⟩
def c17:Nat->List AV->Env
 |_,[]=>[]
 |k,a::r=>(k,a)::c17 (k+1) r
theorem d7l:∀(l:List AV) (k t:Nat) (av:AV),get (c17 k l) t=some av->k<=t/\l[t - k]? =some av
 |[],k,t,av,h=>by simp[c17,get]at h
 |a::r,k,t,av,h=>by
  simp only[c17,get]at h;split at h
  ·rename_i hk;subst hk;cases h;simp
  ·rename_i hk;obtain⟨h1,h2⟩:=d7l r (k+1) t av h;refine⟨by omega,?_⟩;rw[show t - k=(t - (k+1))+1 by omega];simpa using h2
def e3g(rs:List c09)(K:AV->A7->Prop)(e:Exit)(env:Env)(h:A7):Prop:=
 match e with
 |.normal|.ret=>d5g env h rs fun l=>K (d5i l) h
 |_=>False
section
variable {P:Program}{σ:Sg}{h:A7}{env:Env}{N:Nat}{a:Act}
theorem d9i(hi:Inv h σ){tmps:Array Value}(he:a35 σ env tmps):∀{rl:List ResultVar}{rs:List c09},b9f P rl=some rs->∀{K:List AV->Prop},d5g env h rs K->
  ∃l xs,K l/\xs.length=l.length/\(∀(i:Nat) (av:AV),l[i]? =some av->∃x,xs[i]? =some x/\Rel σ av x)/\
   (rl.mapM fun(r:ResultVar)=>(match r with|.tmp t=>pure (tmps.getD t undef)|.cell a t=>do loadVar t (<-asAddr (tmps.getD a undef)):Sem Value)).run P σ.w=.ok xs σ.w
 |[],rs,hc,K,hk=>by simp[b9f]at hc;subst hc;exact⟨[],[],hk,rfl,fun i av h=>by simp at h,rfl⟩
 |.tmp t::r,rs,hc,K,hk=>by
  simp only[b9f,Option.map_eq_some_iff]at hc;obtain⟨rs',hr,rfl⟩:=hc;obtain⟨av,hg,hk⟩:=b7v hk;obtain⟨x,h1,h2⟩:=he t av hg;obtain⟨l,xs,q1,q2,q3,q4⟩:=d9i hi he hr hk;refine⟨av::l,x::xs,q1,by simp[q2],fun i b hb=>?_,?_⟩
  ·cases i with
   |zero=>simp at hb;subst hb;exact⟨x,rfl,h2⟩
   |succ i=>exact q3 i b (by simpa using hb)
  ·have:tmps.getD t undef=x:=by simp[h1]
   simp only[List.mapM_cons,Sem.run_bind,Sem.run_pure,Result.andThen_ok,this];rw[q4];rfl
 |.cell a t::r,rs,hc,K,hk=>by
  simp only[b9f,Option.bind_eq_some_iff,Option.map_eq_some_iff]at hc;obtain⟨n,hn,rs',hr,rfl⟩:=hc;obtain⟨p,hg,hk⟩:=b7v hk;obtain⟨px,h1,h2⟩:=he a p hg;obtain⟨av,y,hk,hrel,hload⟩:=e8i (P:=P) hi hn h2 hk;obtain⟨l,xs,q1,q2,q3,q4⟩:=d9i hi he hr hk;refine⟨av::l,y::xs,q1,by simp[q2],fun i b hb=>?_,?_⟩
  ·cases i with
   |zero=>simp at hb;subst hb;exact⟨y,rfl,hrel⟩
   |succ i=>exact q3 i b (by simpa using hb)
  ·have hpx:tmps.getD a undef=px:=by simp[h1]
   have hp:∃ad,px=.pointer (some ad):=by
    cases h2<;>first|exact⟨_,rfl⟩|(simp[b8c,a76]at hk)|skip
    all_goals (rename_i hk0;simp[b8c,a76]at hk0)
   obtain⟨ad,rfl⟩:=hp;have hl2:(loadVar t ad).run P σ.w=.ok y σ.w:=by simpa[Instr.loadAt,Instr.sureAddr]using hload
   have ha2:(asAddr (.pointer (some ad))).run P σ.w=.ok ad σ.w:=rfl;simp only[List.mapM_cons,Sem.run_bind,hpx,ha2,Sem.run_pure,Result.andThen_ok,hl2];rw[q4];rfl
theorem d59{f:FuncId}{ac:W2}{rs:List c09}(hf:b4o P f=some (N,ac,rs)){args:List AV}{K:AV->A7->Prop}(hn:args.length<=N)
  (hbody:d9j P N ac (e3g rs K) (c17 0 args) h):∀(σ:Sg) (cargs:Array Value),Inv h σ->d2m σ args cargs.toList->
  Calls P f cargs σ.w fun e w'=>∃σ' h' av x,e=.returned x/\σ'.w=w'/\Le σ σ'/\Inv h' σ'/\Rel σ' av x/\K av h':=by
 intro σ cargs hi hr;obtain⟨fn,c,h1,h2,h3,h4,h5,h6⟩:=d3b hf;have hsz:cargs.size=args.length:=by simpa using hr.1
 have hst:St σ h (c17 0 args) N {tmps:=cargs++Array.replicate (fn.ntmps - cargs.size) undef,defers:=[]}:=by
  refine⟨hi,fun t av hg=>?_,by simp;omega,rfl⟩;obtain⟨_,g2⟩:=d7l args 0 t av hg;obtain⟨x,q1,q2⟩:=hr.2 _ av g2;refine⟨x,?_,q2⟩;simp only[Nat.sub_zero]at q1
  have hlt:t<cargs.size:=by
   have:=(List.getElem?_eq_some_iff.1 q1).1;simpa using this
  simp only[Array.getElem?_toList]at q1;simp[Array.getElem?_append_left hlt,q1]
 refine calls_of_wp h1 h2 (wp_mono (hbody c h4 σ _ hst) ?_);intro e a' w' hh;obtain⟨g1,σ2,h2',env2,rfl,q2,q3,q4⟩:=hh
 have fin:(d5g env2 h2' rs fun l=>K (d5i l) h2')->a'.defers=[]/\∃v,(results fn a'.tmps).run P σ2.w=.ok v σ2.w/\∃σ' h' av x,Ending.returned v=.returned x/\σ'.w=σ2.w/\Le σ σ'/\Inv h' σ'/\Rel σ' av x/\K av h':=by
  intro ho;obtain⟨l,xs,k1,k2,k3,k4⟩:=d9i (P:=P) q3.inv q3.env h5 ho
  have hrun:(fn.results.mapM fun(r:ResultVar)=>(match r with|.tmp t=>pure (a'.tmps.getD t undef)|.cell a t=>do loadVar t (<-asAddr (a'.tmps.getD a undef)):Sem Value)).run P σ2.w=.ok xs.toArray σ2.w:=by
   rw[Array.mapM_eq_mapM_toList];simp only[Sem.run_map,k4,Result.andThen_ok]
  have hres:(results fn a'.tmps).run P σ2.w=.ok (if hx:xs.toArray.size=1 then xs.toArray[0] else .tuple xs.toArray) σ2.w:=by
   unfold results;rw[Sem.run_bind];have:=hrun;refine Eq.trans (congrArg (fun r=>Result.andThen r _) this) ?_;simp only[Result.andThen_ok,Sem.run_pure]
  refine⟨q3.defers,_,hres,σ2,h2',d5i l,_,rfl,rfl,q2,q3.inv,?_,k1⟩
  match l,xs,k2,k3 with
  |[b],[y],_,k3=>
   obtain⟨x,e1,e2⟩:=k3 0 b rfl;simp at e1;subst e1;simpa[d5i]using e2
  |[],[],_,_=>exact Rel.tuple_mk rfl fun i av hi=>by simp at hi
  |b1::b2::l,y1::y2::xs,k2,k3=>
   rw[dif_neg (by simp)]
   exact Rel.tuple_mk (by simpa using k2) fun i av hi=>by
    obtain⟨x,e1,e2⟩:=k3 i av hi;exact⟨x,by simpa using e1,e2⟩
 cases e with
 |normal=>exact fin q4
 |ret=>exact fin q4
 |panic _=>exact g1.elim
 |outgrown=>exact g1.elim
 |exit _=>exact q4.elim
 |goto _=>exact q4.elim
theorem c2l{f:FuncId}{ac:W2}{rs:List c09}(hf:b4o P f=some (N,ac,rs)):d5a P f:=by
 obtain⟨fn,c,h1,h2,_,_,_,h6⟩:=d3b hf;exact⟨fn,h1,by rw[h2];rfl,h6⟩
theorem f05{f:FuncId}{ac:W2}{rs:List c09}(hf:b4o P f=some (N,ac,rs)){args:List AV}{K:AV->A7->Prop}(hn:args.length<=N)
  (hbody:d9j P N ac (e3g rs K) (c17 0 args) h):c37 P f args h K:=⟨c2l hf,d59 hf hn hbody⟩
theorem g21{gl:List (Nat × List AV)}{f:FuncId}{ac:W2}{rs:List c09}(hf:b4o P f=some (N,ac,rs)){args:List AV}{R:AV->Prop}(hn:args.length<=N)
  (hbody:d9j P N ac (e3g rs fun av _=>plain (wk av)=true/\R (wk av)) (c17 0 args) ⟨[],[],gl⟩):g5h P gl f args R:=by
 refine⟨c2l hf,fun w outer cargs ho hg hr=>?_⟩;refine(d59 hf hn hbody (bare w outer) cargs (d4m ho hg) hr).mono fun e w' hq=>?_
 obtain⟨σ',h',av,x,rfl,rfl,g2,g3,g4,g5,g6⟩:=hq;refine⟨wk av,x,rfl,⟨g2.size,fun b hb=>g2.whole b hb (fun o=>b7e w outer b o),g2.os,g2.tape,g2.output⟩,?_,g6⟩;refine g4.wk.down g5 rfl fun b o hbo=>.inl ?_
 rw[g2.outer];exact hbo
end
structure A(P:Program)(o:AOp)(env:Env)(h:A7)(K:AV->A7->Prop):Prop where
 out:aop P o env h K
structure V(P:Program)(l:List E8)(env:Env)(h:A7)(K:Env->A7->Prop):Prop where
 out:f27 P l env h K
structure C(P:Program)(N:Nat)(ac:W2)(Q:Exit->Env->A7->Prop)(env:Env)(h:A7):Prop where
 out:d9j P N ac Q env h
section
variable {P:Program}{h:A7}{env:Env}{N:Nat}{K:AV->A7->Prop}{x y z:L5}{a b c:AV}
theorem d67{g:FuncId}{f:L5}{args:List L5}{l:List AV}(hf:f.ev env=some (.clo (.func g) [] []))(ha:evs env args=some l)(hk:c37 P g l h K):A P (.call f args) env h K:=⟨by
 simp only[aop,hf,ha,wv,d8i,List.nil_append,List.append_nil];exact hk⟩
theorem g24{g:FuncId}{f:L5}{args:List L5}{l r s:List AV}(hf:f.ev env=some (.clo (.func g) r s))(ha:evs env args=some l)(hk:c37 P g (r++l++s) h K):A P (.call f args) env h K:=⟨by
 simp only[aop,hf,ha,wv,d8i];exact hk⟩
theorem c9e{mx:Bool}{args:List L5}{l:List AV}{v:Value}(ha:evs env args=some l)(hv:mmx mx l=some v)(hk:K (.v v) h):A P (.minmax mx args) env h K:=⟨by simp only[aop,ha,hv,d75];exact hk⟩
end
section
variable {P:Program}{h:A7}{env:Env}{N:Nat}
variable {Q:Exit->Env->A7->Prop}
theorem f5v{ops:List E8}(hv:V P ops env h fun env' h'=>Q .normal env' h'):C P N (.region ops) Q env h:=⟨e01 hv.out⟩
theorem g32(hq:Q .normal env h):C P N .skip Q env h:=⟨f0p hq⟩
theorem g4f{id:Nat}(hv:Q (.exit id) env h):C P N (.exit id) Q env h:=⟨f2z hv⟩
theorem g94(hv:Q .ret env h):C P N .ret Q env h:=⟨f3g hv⟩
theorem g3h{l:Nat}(hq:Q .normal env h):C P N (.label l) Q env h:=⟨e5p hq⟩
theorem g7w{l:Nat}(hq:Q (.goto l) env h):C P N (.goto l) Q env h:=⟨e9u hq⟩
end
def h2q(op:BinOp)(x y:Value):Option Value:=
 match op,x,y with
 |.eql,.string a,.string b=>some (.bool (a.data.toList==b.data.toList))
 |.neq,.string a,.string b=>some (.bool (!(a.data.toList==b.data.toList)))
 |.lss,.string a,.string b=>some (.bool (Op.bytesLess a.data.toList b.data.toList))
 |.add,.string a,.string b=>if a.data.toList.length+b.data.toList.length<=9223372036854775807 then some (.string ⟨⟨a.data.toList++b.data.toList⟩⟩) else none
 |.quo,.int k a,.int k' b=>if k=k'/\b≠0 then some (.int k (k.wrap (a.tdiv b))) else none
 |.rem,.int k a,.int k' b=>if k=k'/\b≠0 then some (.int k (a.tmod b)) else none
 |.shl,.int k a,.int _ b=>if 0<=b then some (.int k (k.wrap (a*2 ^ min b.toNat k.bits))) else none
 |.shr,.int k a,.int _ b=>if 0<=b then some (.int k (a.fdiv (2 ^ min b.toNat k.bits))) else none
 |.add,.int k a,.int k' b=>if k=k' then some (.int k (k.wrap (a+b))) else none
 |.sub,.int k a,.int k' b=>if k=k' then some (.int k (k.wrap (a - b))) else none
 |.mul,.int k a,.int k' b=>if k=k' then some (.int k (k.wrap (a*b))) else none
 |.and,.int k a,.int k' b=>if k=k' then some (.int k (F1 .and k a b)) else none
 |.or,.int k a,.int k' b=>if k=k' then some (.int k (F1 .or k a b)) else none
 |.xor,.int k a,.int k' b=>if k=k' then some (.int k (F1 .xor k a b)) else none
 |.andNot,.int k a,.int k' b=>if k=k' then some (.int k (F1 .andNot k a b)) else none
 |.eql,.int k a,.int k' b=>if k=k' then some (.bool (a==b)) else none
 |.neq,.int k a,.int k' b=>if k=k' then some (.bool (a !=b)) else none
 |.lss,.int k a,.int k' b=>if k=k' then some (.bool (decide (a<b))) else none
 |.leq,.int k a,.int k' b=>if k=k' then some (.bool (decide (a<=b))) else none
 |.gtr,.int k a,.int k' b=>if k=k' then some (.bool (decide (b<a))) else none
 |.geq,.int k a,.int k' b=>if k=k' then some (.bool (decide (b<=a))) else none
 |_,_,_=>none
theorem f45(a b:ByteArray):a++b=⟨⟨a.data.toList++b.data.toList⟩⟩:=by
 apply ByteArray.ext;apply Array.ext';rw[ByteArray.data_append,Array.toList_append]
theorem g1p{op:BinOp}{x y r:Value}(h:h2q op x y=some r):∃c:Prop,c/\d9u op x y=some (c,r):=by
  unfold h2q at h;split at h
  · cases h;exact⟨True,trivial,by simp only[d9u,ByteArray.toList_eq]⟩
  · cases h;exact⟨True,trivial,by simp only[d9u,ByteArray.toList_eq]⟩
  · cases h;exact⟨True,trivial,by simp only[d9u,ByteArray.toList_eq]⟩
  · split at h
    · rename_i a b hc
      cases h;refine⟨_,hc,?_⟩;simp only[d9u];rw[f45];rfl
    · cases h
  · split at h
    · rename_i hc;cases h;exact⟨_,hc.2,by simp only[d9u];rw[if_pos hc.1]⟩
    · cases h
  · split at h
    · rename_i hc;cases h;exact⟨_,hc.2,by simp only[d9u];rw[if_pos hc.1]⟩
    · cases h
  · split at h
    · rename_i hc;cases h;exact⟨_,hc,by simp only[d9u]⟩
    · cases h
  · split at h
    · rename_i hc;cases h;exact⟨_,hc,by simp only[d9u]⟩
    · cases h
  all_goals first
    |(cases h;done)
    |(split at h
      · rename_i hc;cases h;exact⟨True,trivial,by simp only[d9u];rw[if_pos hc]⟩
      · cases h)
def c12(h:A7)(n:Option Nat)(p:AV):Option AV:=
 (a76 h p).bind fun q=>match n with
  |none=>q.1[q.2]?
  |some n=>if q.2+n<=q.1.length then some (.agg ((q.1.drop q.2).take n)) else none
theorem c6l{h:A7}{n:Option Nat}{p a:AV}{K:AV->Prop}(he:c12 h n p=some a)(hk:K a):b8c h n p K:=by
 simp only[c12,Option.bind_eq_some_iff]at he;obtain⟨⟨cells,off⟩,h1,h2⟩:=he;simp only[b8c,h1];cases n with
 |none=>simp only at h2 ⊢;simp only[h2];exact hk
 |some n=>
  simp only at h2 ⊢;split at h2
  ·rename_i hc;cases h2;exact⟨hc,hk⟩
  ·cases h2
def e0r(h:A7)(size:Nat)(p x:AV):Option A7:=
 match p with
 |.ptr n off=>match h.blks[n]? with
  |some (some cells)=>if a8n cells=true/\x.cells.length=size/\off+size<=cells.length/\x.isTuple=false then some ⟨h.blks.set n (some (splice cells off x.cells)),h.bufs,h.globs⟩ else none
  |_=>none
 |_=>none
theorem e4j{h h':A7}{n:Nat}{p x:AV}{K:A7->Prop}(he:e0r h n p x=some h')(hk:K h'):d3v h n p x K:=by
 unfold e0r at he;unfold d3v;split at he
 ·split at he
  ·rename_i hb;simp only[hb];split at he
   ·rename_i hc;cases he;exact⟨hc,hk⟩
   ·cases he
  ·cases he
 ·cases he
def d9q(op:BinOp)(x y:AV):Option AV:=
 match x,y with
 |.v a,.v b=>(h2q op a b).map .v
 |_,_=>none
theorem e4n{op:BinOp}{x y a:AV}{K:AV->Prop}(he:d9q op x y=some a)(hk:K a):d30 op x y K:=by
 unfold d9q at he;split at he
 ·simp only[Option.map_eq_some_iff]at he;obtain⟨r,h1,rfl⟩:=he;obtain⟨c,hc,hp⟩:=g1p h1;simp only[d30,hp];exact⟨hc,hk⟩
 ·cases he
def eqF(c:EqK)(x y:AV):Option Bool:=
 match c,x,y with
 |.bool,.v (.bool a),.v (.bool b)=>some (a==b)
 |.slice,.nil,.nil=>some true
 |.slice,.sl (_::_) _,.nil=>some false
 |.slice,.nil,.sl (_::_) _=>some false
 |.slice,.row _ _ _ _ _,.nil=>some false
 |.slice,.nil,.row _ _ _ _ _=>some false
 |.func,.clo _ _ _,.v .nilFunc=>some false
 |.func,.v .nilFunc,.clo _ _ _=>some false
 |.func,.v .nilFunc,.v .nilFunc=>some true
 |.ptr,.ptr _ _,.v (.pointer none)=>some false
 |.ptr,.elt _ _,.v (.pointer none)=>some false
 |.ptr,.v (.pointer none),.v (.pointer none)=>some true
 |.iface,.iface _ _,.v .nilIface=>some false
 |.iface,.v .nilIface,.iface _ _=>some false
 |.iface,.v .nilIface,.v .nilIface=>some true
 |.flat ks,.agg xs,.agg ys=>a97 ks xs ys
 |_,_,_=>none
theorem g7c{c:EqK}{x y:AV}{b:Bool}{K:Bool->Prop}(he:eqF c x y=some b)(hk:K b):f26 c x y K:=by
 unfold eqF at he;split at he<;>first|(cases he;done)|(cases he;exact hk)|(cases he;exact .inl ⟨by simp,hk⟩)|(simp only[f26,he,e7y];exact hk)
def unF(op:UnOp)(x:AV):Option AV:=
 match op,x with
 |.not,.v (.bool b)=>some (.v (.bool (!b)))
 |.neg,.v (.int k n)=>some (.v (.int k (k.wrap (0 - n))))
 |.xor,.v (.int k n)=>some (.v (.int k (F1 .xor k (if k.signed then -1 else k.max) n)))
 |_,_=>none
theorem g3z{op:UnOp}{x a:AV}{K:AV->Prop}(he:unF op x=some a)(hk:K a):f33 op x K:=by
 unfold unF at he;split at he<;>first|(cases he;done)|(cases he;exact hk)
def c9h:List (List AV)->Option (List UInt8)
 |[]=>some []
 |[.v (.int .u8 n)]::r=>if 0<=n/\n<256 then(c9h r).map fun l=>UInt8.ofNat n.toNat::l else none
 |_=>none
theorem d1r:∀{els:List (List AV)}{l:List UInt8},c9h els=some l->els=Z4 l
 |[],l,h=>by cases h;rfl
 |el::r,l,h=>by
  unfold c9h at h;split at h
  ·rename_i heq;cases heq
  ·rename_i n r' heq;cases heq;split at h
   ·rename_i hn;simp only[Option.map_eq_some_iff]at h;obtain⟨l',h1,rfl⟩:=h;rw[d1r h1]
    have:((UInt8.ofNat n.toNat).toNat:Int)=n:=by
     rw[UInt8.toNat_ofNat'];omega
    simp only[Z4,List.map_cons,this]
   ·cases h
  ·cases h
def f95(c:CK)(x:AV):Option AV:=
 match c,x with
 |.num k,.v (.int _ n)=>some (.v (.int k (k.wrap n)))
 |.chr,.v (.int _ n)=>some (.v (.string (Utf8.encode n)))
 |.same,.v (.string s)=>some (.v (.string s))
 |.str,.nil=>some (.v (.string ⟨⟨[]⟩⟩))
 |.str,.sl els _=>(c9h els).map fun l=>.v (.string ⟨⟨l⟩⟩)
 |_,_=>none
theorem f6l{c:CK}{x a:AV}{K:AV->Prop}(he:f95 c x=some a)(hk:K a):d6w c x K:=by
 unfold f95 at he;split at he
 ·cases he;exact hk
 ·cases he;exact hk
 ·cases he;exact hk
 ·cases he;exact hk
 ·simp only[Option.map_eq_some_iff]at he;obtain⟨l,h1,rfl⟩:=he;exact⟨l,d1r h1,hk⟩
 ·cases he
def h0g(p:AV)(lo hi:Option AV):Option AV:=
 match p with
 |.v (.string s)=>(F8 0 lo).bind fun l=>(F8 s.data.toList.length hi).bind fun u=>
  if 0<=l/\l<=u/\u<=(s.data.toList.length:Int) then some (.v (.string ⟨⟨(s.data.toList.take u.toNat).drop l.toNat⟩⟩)) else none
 |_=>none
theorem d43(s:ByteArray)(l u:Nat):s.extract l u=⟨⟨(s.data.toList.take u).drop l⟩⟩:=by
 apply ByteArray.ext;apply Array.ext';rw[ByteArray.data_extract];simp[List.extract,List.drop_take]
theorem g20{p a:AV}{lo hi:Option AV}{K:AV->Prop}(he:h0g p lo hi=some a)(hk:K a):c50 p lo hi K:=by
 unfold h0g at he;split at he
 ·rename_i s;simp only[Option.bind_eq_some_iff]at he;obtain⟨l,h1,u,h2,h3⟩:=he;split at h3
  ·rename_i hc;cases h3;have hs:s.data.toList.length=s.size:=Array.length_toList;rw[hs]at h2 hc;simp only[c50,h1,h2];rw[d43];exact⟨hc,hk⟩
  ·cases h3
 ·cases he
def d2w(size:Nat):List (List AV)->Bool
 |[]=>true
 |el::r=>decide (el.length=size)&&d2w size r
theorem b41{size:Nat}:∀{l:List (List AV)},d2w size l=true->∀el∈l,el.length=size
 |[],_,el,h=>by simp at h
 |a::r,hs,el,h=>by
  simp only[d2w,Bool.and_eq_true,decide_eq_true_eq]at hs;rcases List.mem_cons.1 h with rfl|h
  ·exact hs.1
  ·exact b41 hs.2 el h
def h1r(size:Nat)(p:AV)(lo hi mx:Option AV):Option AV:=
 match p,mx with
 |.nil,_=>(F8 0 lo).bind fun l=>(F8 0 hi).bind fun u=>(F8 0 mx).bind fun m=>if l=0/\u=0/\m=0 then some .nil else none
 |.sl els tok,none=>(F8 0 lo).bind fun l=>(F8 els.length hi).bind fun u=>
  if(0<=l/\l<=u/\u<=(els.length:Int))/\d2w size els=true then some (.sl ((els.take u.toNat).drop l.toNat) (match lo,hi with|none,none=>tok|_,_=>.no)) else none
 |.sl els tok,some (.v (.int _ m))=>(F8 0 lo).bind fun l=>(F8 els.length hi).bind fun u=>
  if(0<=l/\l<=u/\u<=(els.length:Int))/\d2w size els=true/\m=u/\hi.isSome=true then some (.sl ((els.take u.toNat).drop l.toNat) .full) else none
 |.row n off sz len cap,none=>(F8 0 lo).bind fun l=>(F8 len hi).bind fun u=>
  if(0<=l/\l<=u/\u<=(len:Int))/\sz=size then(if l<(len:Int) then some (.row n (off+l.toNat*size) size (u.toNat - l.toNat) (cap - l.toNat)) else some (.sl [] .no)) else none
 |.row n off sz len cap,some (.v (.int _ m))=>(F8 0 lo).bind fun l=>(F8 len hi).bind fun u=>
  if(0<=l/\l<=u/\u<=(len:Int))/\sz=size/\m=u/\hi.isSome=true then(if l<u then some (.row n (off+l.toNat*size) size (u.toNat - l.toNat) (u.toNat - l.toNat)) else some (.sl [] .full)) else none
 |_,_=>none
theorem g3m{size:Nat}{p a:AV}{lo hi mx:Option AV}{K:AV->Prop}(he:h1r size p lo hi mx=some a)(hk:K a):b3n size p lo hi mx K:=by
 unfold h1r at he;split at he
 ·simp only[Option.bind_eq_some_iff]at he;obtain⟨l,h1,u,h2,m,h3,h4⟩:=he;split at h4
  ·rename_i hc;cases h4;simp only[b3n,h1,h2,h3];exact⟨hc,hk⟩
  ·cases h4
 ·simp only[Option.bind_eq_some_iff]at he;obtain⟨l,h1,u,h2,h4⟩:=he;split at h4
  ·rename_i hc;cases h4;simp only[b3n,h1,h2];exact⟨hc.1,b41 hc.2,hk⟩
  ·cases h4
 ·simp only[Option.bind_eq_some_iff]at he;obtain⟨l,h1,u,h2,h4⟩:=he;split at h4
  ·rename_i hc;cases h4;simp only[b3n,h1,h2];refine⟨hc.1,b41 hc.2.1,hc.2.2.1,?_,hk⟩;intro hn;rw[hn]at hc;exact absurd hc.2.2.2 (by simp)
  ·cases h4
 ·simp only[Option.bind_eq_some_iff]at he;obtain⟨l,h1,u,h2,h4⟩:=he;split at h4
  ·rename_i hc;simp only[b3n,h1,h2];refine⟨hc.1,hc.2,?_⟩;split at h4
   ·rename_i hl;cases h4;rw[if_pos hl];exact hk
   ·rename_i hl;cases h4;rw[if_neg hl];exact hk
  ·cases h4
 ·simp only[Option.bind_eq_some_iff]at he;obtain⟨l,h1,u,h2,h4⟩:=he;split at h4
  ·rename_i hc;simp only[b3n,h1,h2];refine⟨hc.1,hc.2.1,⟨hc.2.2.1,fun hn=>by rw[hn]at hc;exact absurd hc.2.2.2 (by simp)⟩,?_⟩;split at h4
   ·rename_i hl;cases h4;rw[if_pos hl];exact hk
   ·rename_i hl;cases h4;rw[if_neg hl];exact hk
  ·cases h4
 ·cases he
def f6g(n:Nat)(p:AV):Option AV:=
 match p with
 |.ptr k off=>some (.ptr k (off+n))
 |.elt cells off=>some (.elt cells (off+n))
 |_=>none
theorem e1q{n:Nat}{p a:AV}{K:AV->Prop}(he:f6g n p=some a)(hk:K a):e9n n p K:=by
 unfold f6g at he;split at he<;>first|(cases he;done)|(cases he;exact hk)
def f6c(n:Option Nat)(off:Nat)(x:AV):Option AV:=
 match x,n with
 |.agg cells,none=>cells[off]?
 |.agg cells,some n=>if off+n<=cells.length then some (.agg ((cells.drop off).take n)) else none
 |_,_=>none
theorem e1w{n:Option Nat}{off:Nat}{x a:AV}{K:AV->Prop}(he:f6c n off x=some a)(hk:K a):d38 n off x K:=by
 unfold f6c at he;split at he
 ·simp only[d38,he];exact hk
 ·split at he
  ·rename_i hc;cases he;exact⟨hc,hk⟩
  ·cases he
 ·cases he
def g00(p i:AV):Option AV:=
 match p,i with
 |.v (.string s),.v (.int _ n)=>if 0<=n/\n<(s.data.toList.length:Int) then some (.v (.int .u8 (E9 s n.toNat))) else none
 |_,_=>none
theorem f3s{p i a:AV}{K:AV->Prop}(he:g00 p i=some a)(hk:K a):c3m p i K:=by
 unfold g00 at he;split at he
 ·rename_i s _ n;split at he
  ·rename_i hc;cases he;have hs:s.data.toList.length=s.size:=Array.length_toList;rw[hs]at hc;exact⟨hc,hk⟩
  ·cases he
 ·cases he
def g1k(len size:Nat)(n:Option Nat)(p i:AV):Option AV:=
 match i with
 |.v (.int _ j)=>if 0<=j/\j<(len:Int) then f6c n (j.toNat*size) p else none
 |_=>none
theorem f6b{len size:Nat}{n:Option Nat}{p i a:AV}{K:AV->Prop}(he:g1k len size n p i=some a)(hk:K a):c9f len size n p i K:=by
 unfold g1k at he;split at he
 ·split at he
  ·rename_i hc;exact⟨hc,e1w he hk⟩
  ·cases he
 ·cases he
def h37(size:Nat)(p i:AV):Option AV:=
 match p,i with
 |.sl els _,.v (.int _ n)=>if(0<=n/\n<(els.length:Int))/\(els.getD n.toNat []).length=size then some (.elt (els.getD n.toNat []) 0) else none
 |.row r off sz len _,.v (.int _ n)=>if(0<=n/\n<(len:Int))/\sz=size then some (.ptr r (off+n.toNat*size)) else none
 |_,_=>none
theorem f9l{size:Nat}{p i a:AV}{K:AV->Prop}(he:h37 size p i=some a)(hk:K a):c5s size p i K:=by
 unfold h37 at he;split at he
 ·split at he
  ·rename_i hc;cases he;exact⟨hc.1,hc.2,hk⟩
  ·cases he
 ·split at he
  ·rename_i hc;cases he;exact⟨hc.1,hc.2,hk⟩
  ·cases he
 ·cases he
def g2s(len size:Nat)(p i:AV):Option AV:=
 match i with
 |.v (.int _ n)=>if 0<=n/\n<(len:Int) then f6g (n.toNat*size) p else none
 |_=>none
theorem f5t{len size:Nat}{p i a:AV}{K:AV->Prop}(he:g2s len size p i=some a)(hk:K a):c9q len size p i K:=by
 unfold g2s at he;split at he
 ·split at he
  ·rename_i hc;exact⟨hc,e1q he hk⟩
  ·cases he
 ·cases he
def e0e(t:TypeId)(ok:Bool)(zero x:AV):Option AV:=
 match x,ok with
 |.iface u y,true=>some (if u=t then .tuple [y,.v (.bool true)] else .tuple [zero,.v (.bool false)])
 |.iface u y,false=>if u=t then some y else none
 |.v .nilIface,true=>some (.tuple [zero,.v (.bool false)])
 |_,_=>none
theorem e4x{t:TypeId}{ok:Bool}{zero x a:AV}{K:AV->Prop}(he:e0e t ok zero x=some a)(hk:K a):a0j t ok zero x K:=by
 unfold e0e at he;split at he
 ·cases he;simp only[a0j];split
  ·rename_i hu;rw[if_pos hu]at hk;exact hk
  ·rename_i hu;rw[if_neg hu]at hk;exact⟨by simp,hk⟩
 ·split at he
  ·rename_i hu;cases he;simp only[a0j];rw[if_pos hu];exact hk
  ·cases he
 ·cases he;exact⟨rfl,hk⟩
 ·cases he
def d5y(i:Nat)(x:AV):Option AV:=
 match x with
 |.tuple vs=>vs[i]?
 |_=>none
theorem e0i{i:Nat}{x a:AV}{K:AV->Prop}(he:d5y i x=some a)(hk:K a):b9i i x K:=by
 unfold d5y at he;split at he
 ·simp only[b9i,he];exact hk
 ·cases he
def h0n(str:Bool)(x:AV):Option AV:=
 match str,x with
 |true,.v (.string s)=>some (.v (.int .i64 s.data.toList.length))
 |false,.nil=>some (.v (.int .i64 0))
 |false,.sl els _=>some (.v (.int .i64 els.length))
 |false,.row _ _ _ len _=>some (.v (.int .i64 len))
 |_,_=>none
theorem f9k{s:Bool}{x a:AV}{K:AV->Prop}(he:h0n s x=some a)(hk:K a):d34 s x K:=by
 unfold h0n at he;split at he
 ·cases he;rename_i s;have hs:s.data.toList.length=s.size:=Array.length_toList;rw[hs]at hk;exact hk
 ·cases he;exact hk
 ·cases he;exact hk
 ·cases he;exact hk
 ·cases he
def g9b(h:A7)(size bytes:Nat)(x y:AV):Option (AV × A7):=
 (c7j h size y).bind fun ys=>if d2w size ys=true then
  match x with
  |.nil=>if ys.length*bytes<=140737488355328 then some (.sl ys (.own h.bufs.length),⟨h.blks,h.bufs++[(ys.length,size)],h.globs⟩) else none
  |.sl els .full=>if d2w size els=true/\(els.length+ys.length)*bytes<=140737488355328 then some (.sl (els++ys) (.own h.bufs.length),⟨h.blks,h.bufs++[(els.length+ys.length,size)],h.globs⟩) else none
  |.sl els (.own id)=>if d2w size els=true/\h.bufs[id]? =some (els.length,size)/\(els.length+ys.length)*bytes<=140737488355328 then some (.sl (els++ys) (.own id),⟨h.blks,h.bufs.set id (els.length+ys.length,size),h.globs⟩) else none
  |.row n off sz len cap=>if sz=size/\(len+ys.length)*bytes<=140737488355328 then match h.blks[n]? with
   |some (some cells)=>if a8n cells=true/\off+len*size<=cells.length then
    if len+ys.length<=cap then some (.row n off size (len+ys.length) cap,⟨h.blks.set n (some (cells.take (off+len*size)++ys.flatten++cells.drop (off+len*size+ys.flatten.length))),h.bufs,h.globs⟩)
    else if off=0/\cells.length=len*size then some (.row h.blks.length 0 size (len+ys.length) (len+ys.length),⟨h.blks.set n (some [])++[some (cells++ys.flatten)],h.bufs,h.globs⟩) else none
    else none
   |_=>none
   else none
  |_=>none
 else none
theorem f2q{h h':A7}{size bytes:Nat}{x y a:AV}{K:AV->A7->Prop}(he:g9b h size bytes x y=some (a,h'))(hk:K a h'):b48 h size bytes x y K:=by
 simp only[g9b,Option.bind_eq_some_iff]at he;obtain⟨ys,h1,h2⟩:=he;simp only[b48,h1];split at h2
 ·rename_i hs;refine⟨b41 hs,?_⟩;split at h2
  ·split at h2
   ·rename_i hc;cases h2;exact⟨hc,hk⟩
   ·cases h2
  ·split at h2
   ·rename_i hc;cases h2;exact⟨b41 hc.1,hc.2,hk⟩
   ·cases h2
  ·split at h2
   ·rename_i hc;cases h2;exact⟨b41 hc.1,hc.2.1,hc.2.2,hk⟩
   ·cases h2
  ·split at h2
   ·rename_i hc;refine⟨hc.1,hc.2,?_⟩;split at h2
    ·rename_i hb;simp only[hb];split at h2
     ·rename_i hin;refine⟨hin,?_⟩;split at h2
      ·rename_i hl;cases h2;rw[if_pos hl];exact hk
      ·rename_i hl;rw[if_neg hl];split at h2
       ·rename_i hw;cases h2;exact⟨hw,hk⟩
       ·cases h2
     ·cases h2
    ·cases h2
   ·cases h2
  ·cases h2
 ·cases h2
def g3g(h:A7)(size bytes:Nat)(x y:AV):Option (AV × A7):=
 (c7j h size y).bind fun ys=>if d2w size ys=true/\ys.length≠0 then
  match x with
  |.nil=>if ys.length*bytes<=140737488355328 then some (.row h.blks.length 0 size ys.length ys.length,⟨h.blks++[some ys.flatten],h.bufs,h.globs⟩) else none
  |.sl els .full=>if d2w size els=true/\(els.length+ys.length)*bytes<=140737488355328 then some (.row h.blks.length 0 size (els.length+ys.length) (els.length+ys.length),⟨h.blks++[some (els.flatten++ys.flatten)],h.bufs,h.globs⟩) else none
  |_=>none
 else none
theorem f4e{h h':A7}{size bytes:Nat}{x y a:AV}{K:AV->A7->Prop}(he:g3g h size bytes x y=some (a,h'))(hk:K a h'):b6o h size bytes x y K:=by
 simp only[g3g,Option.bind_eq_some_iff]at he;obtain⟨ys,h1,h2⟩:=he;simp only[b6o,h1];split at h2
 ·rename_i hs;refine⟨⟨b41 hs.1,fun hn=>hs.2 (by rw[hn];rfl)⟩,?_⟩;split at h2
  ·split at h2
   ·rename_i hc;cases h2;exact⟨hc,hk⟩
   ·cases h2
  ·split at h2
   ·rename_i hc;cases h2;exact⟨b41 hc.1,hc.2,hk⟩
   ·cases h2
  ·cases h2
 ·cases h2
abbrev d1f:=FuncId->List AV->A7->Option (AV × A7)
def d4a(h:A7)(o:Option AV):Option (AV × A7):=o.map fun a=>(a,h)
def g03(h:A7)(size bytes:Nat)(zero:List AV)(x y:AV):Option (AV × A7):=
 match x,y with
 |.v (.int _ l),.v (.int _ c)=>if 0<=l/\l<=c/\c*bytes<=140737488355328 then some (.row h.blks.length 0 size l.toNat c.toNat,⟨h.blks++[some (a5h size c.toNat zero)],h.bufs,h.globs⟩) else none
 |_,_=>none
theorem f6m{h h':A7}{size bytes:Nat}{zero:List AV}{x y a:AV}{K:AV->A7->Prop}(he:g03 h size bytes zero x y=some (a,h'))(hk:K a h'):g6b h size bytes zero x y K:=by
 unfold g03 at he;split at he
 ·split at he
  ·rename_i hc;cases he;exact⟨hc,hk⟩
  ·cases he
 ·cases he
def e7i(h:A7)(x:AV):Option (AV × A7):=
 match x with
 |.v (.string s)=>some (.ptr h.blks.length 0,⟨h.blks++[some [.it s 0]],h.bufs,h.globs⟩)
 |_=>none
theorem e9c{h h':A7}{x a:AV}{K:AV->A7->Prop}(he:e7i h x=some (a,h'))(hk:K a h'):f0e h x K:=by
 unfold e7i at he;split at he
 ·cases he;exact hk
 ·cases he
def f9c(h:A7)(x:AV):Option (AV × A7):=
 match x with
 |.ptr n 0=>match h.blks[n]? with
  |some (some [.it s p])=>if p<s.data.toList.length then some (.tuple [.v (.bool true),.v (.int .i64 p),.v (.int .i32 (Utf8.decode s p).1)],⟨h.blks.set n (some [.it s (p+(Utf8.decode s p).2)]),h.bufs,h.globs⟩) else some (.tuple [.v (.bool false)],h)
  |_=>none
 |_=>none
theorem f37{h h':A7}{x a:AV}{K:AV->A7->Prop}(he:f9c h x=some (a,h'))(hk:K a h'):d3r h x K:=by
 unfold f9c at he;unfold d3r;split at he
 ·split at he
  ·rename_i s p hb;have hs:s.data.toList.length=s.size:=Array.length_toList;rw[hs]at he;simp only[hb];split at he
   ·rename_i hp;cases he;exact⟨fun _=>hk,fun h=>absurd hp h⟩
   ·rename_i hp;cases he;exact⟨fun h=>absurd h hp,fun _=>hk⟩
  ·cases he
 ·cases he
def e8b(md:Bool)(call:d1f)(o:AOp)(env:Env)(h:A7):Option (AV × A7):=
 match o with
 |.mv x=>d4a h (x.ev env)
 |.pick c a b=>(c.ev env).bind fun c=>match c with
  |.v (.bool true)=>d4a h (a.ev env)
  |.v (.bool false)=>d4a h (b.ev env)
  |_=>none
 |.alloc cells=>some (.ptr h.blks.length 0,⟨h.blks++[some cells],h.bufs,h.globs⟩)
 |.box x=>(x.ev env).bind fun a=>if a.isTuple=false then some (.ptr h.blks.length 0,⟨h.blks++[some a.cells],h.bufs,h.globs⟩) else none
 |.build zero parts=>(evp env parts).bind fun ps=>(d2z zero ps).map fun cells=>(.agg cells,h)
 |.sliceLit size len zeros parts=>(evp env parts).bind fun ps=>(d2z zeros ps).bind fun cells=>if cells.length=len*size then some (.sl (c74 size len (cells.map wk1)) .full,h) else none
 |.load n x=>(x.ev env).bind fun p=>d4a h (c12 h n p)
 |.store size p x=>(p.ev env).bind fun p=>(x.ev env).bind fun x=>(e0r h size p x).map fun h'=>(.tuple [],h')
 |.nilCheck x=>(x.ev env).bind fun a=>match a with
  |.ptr n o=>some (.ptr n o,h)
  |.elt l o=>some (.elt l o,h)
  |.clo (.func f) l r=>some (.clo (.func f) l r,h)
  |_=>none
 |.bin op x y=>(x.ev env).bind fun x=>(y.ev env).bind fun y=>d4a h (d9q op x y)
 |.eq c yes x y=>(x.ev env).bind fun x=>(y.ev env).bind fun y=>(eqF c x y).map fun b=>(.v (.bool (if yes then b else !b)),h)
 |.un op x=>(x.ev env).bind fun x=>d4a h (unF op x)
 |.conv c x=>(x.ev env).bind fun x=>d4a h (f95 c x)
 |.iface t x=>(x.ev env).map fun a=>(.iface t a,h)
 |.func fn first captured=>(evs env first).bind fun f=>(evs env captured).map fun c=>(.clo fn f c,h)
 |.sliceS x lo hi=>(x.ev env).bind fun x=>(evo env lo).bind fun lo=>(evo env hi).bind fun hi=>d4a h (h0g x lo hi)
 |.sliceV size x lo hi mx=>(x.ev env).bind fun x=>(evo env lo).bind fun lo=>(evo env hi).bind fun hi=>(evo env mx).bind fun mx=>d4a h (h1r size x lo hi mx)
 |.fieldAddr off x=>(x.ev env).bind fun x=>d4a h (f6g off x)
 |.field n off x=>(x.ev env).bind fun x=>d4a h (f6c n off x)
 |.idxS x i=>(x.ev env).bind fun x=>(i.ev env).bind fun i=>d4a h (g00 x i)
 |.idxV len size n x i=>(x.ev env).bind fun x=>(i.ev env).bind fun i=>d4a h (g1k len size n x i)
 |.idxSl size x i=>(x.ev env).bind fun x=>(i.ev env).bind fun i=>d4a h (h37 size x i)
 |.idxA len size x i=>(x.ev env).bind fun x=>(i.ev env).bind fun i=>d4a h (g2s len size x i)
 |.assertT t ok zero x=>(x.ev env).bind fun x=>d4a h (e0e t ok zero x)
 |.extract i x=>(x.ev env).bind fun x=>d4a h (d5y i x)
 |.len str x=>(x.ev env).bind fun x=>d4a h (h0n str x)
 |.append size bytes x y=>(x.ev env).bind fun x=>(y.ev env).bind fun y=>if md=true/\size≠1 then(match g3g h size bytes x y with|some r=>some r|none=>g9b h size bytes x y) else g9b h size bytes x y
 |.call f args=>(f.ev env).bind fun f=>(evs env args).bind fun l=>match f with
  |.clo (.func g) first captured=>call g (first++l++captured) h
  |_=>none
 |.bytes x=>(x.ev env).bind fun x=>match x with
  |.v (.string s)=>some (.sl (Z4 s.data.toList) (.own h.bufs.length),⟨h.blks,h.bufs++[(s.data.toList.length,1)],h.globs⟩)
  |_=>none
 |.minmax mx args=>(evs env args).bind fun l=>(mmx mx l).map fun v=>(.v v,h)
 |.make size bytes zero x y=>(x.ev env).bind fun x=>(y.ev env).bind fun y=>g03 h size bytes zero x y
 |.range x=>(x.ev env).bind fun x=>e7i h x
 |.next x=>(x.ev env).bind fun x=>f9c h x
def f74(P:Program)(call:d1f):Prop:=∀f args h a h',call f args h=some (a,h')->∀K:AV->A7->Prop,K a h'->c37 P f args h K
theorem E6{h h':A7}{o:Option AV}{a:AV}(he:d4a h o=some (a,h')):o=some a/\h'=h:=by
 unfold d4a at he;simp only[Option.map_eq_some_iff,Prod.mk.injEq]at he;obtain⟨b,h1,rfl,rfl⟩:=he;exact⟨h1,rfl⟩
theorem e0k{P:Program}{md:Bool}{call:d1f}(hc:f74 P call){o:AOp}{env:Env}{h h':A7}{a:AV}{K:AV->A7->Prop}(he:e8b md call o env h=some (a,h'))(hk:K a h'):aop P o env h K:=by
 cases o<;>simp only[e8b,Option.bind_eq_some_iff,Option.map_eq_some_iff]at he<;>simp only[aop]
 case mv x=>obtain⟨h1,rfl⟩:=E6 he;simp only[h1,wv];exact hk
 case pick c x y=>
  obtain⟨cv,h1,h2⟩:=he;simp only[h1,wv];split at h2
  ·obtain⟨h3,rfl⟩:=E6 h2;simp only[c69,h3];exact⟨fun _=>hk,fun h=>by cases h⟩
  ·obtain⟨h3,rfl⟩:=E6 h2;simp only[c69,h3];exact⟨(fun h=>by cases h),fun _=>hk⟩
  ·cases h2
 case alloc cells=>cases he;exact hk
 case box x=>
  obtain⟨b,h1,h2⟩:=he;split at h2
  ·rename_i ht;cases h2;simp only[h1,wv];exact⟨ht,hk⟩
  ·cases h2
 case build z ps=>
  obtain⟨q,h1,cells,h2,h3⟩:=he;cases h3;simp only[h1,h2];exact hk
 case sliceLit s l z ps=>
  obtain⟨q,h1,cells,h2,h3⟩:=he;split at h3
  ·rename_i hl;cases h3;simp only[h1,h2];exact⟨hl,hk⟩
  ·cases h3
 case load n x=>obtain⟨p,h1,h2⟩:=he;obtain⟨h3,rfl⟩:=E6 h2;simp only[h1,wv];exact c6l h3 hk
 case store n p x=>obtain⟨p,h1,x,h2,h3,h4,h5⟩:=he;cases h5;simp only[h1,h2,wv];exact e4j h4 hk
 case nilCheck x=>
  obtain⟨b,h1,h2⟩:=he;simp only[h1,wv,g2x];split at h2<;>first|(cases h2;exact hk)|(cases h2;done)
 case bin op x y=>obtain⟨x,h1,y,h2,h3⟩:=he;obtain⟨h4,rfl⟩:=E6 h3;simp only[h1,h2,wv];exact e4n h4 hk
 case eq c yes x y=>obtain⟨x,h1,y,h2,b,h3,h4⟩:=he;cases h4;simp only[h1,h2,wv];exact g7c h3 hk
 case un op x=>obtain⟨x,h1,h3⟩:=he;obtain⟨h4,rfl⟩:=E6 h3;simp only[h1,wv];exact g3z h4 hk
 case conv c x=>obtain⟨x,h1,h3⟩:=he;obtain⟨h4,rfl⟩:=E6 h3;simp only[h1,wv];exact f6l h4 hk
 case iface t x=>obtain⟨x,h1,h3⟩:=he;cases h3;simp only[h1,wv];exact hk
 case func fn f c=>obtain⟨x,h1,y,h2,h3⟩:=he;cases h3;simp only[h1,h2];exact hk
 case sliceS x lo hi=>obtain⟨x,h1,lo,h2,hi,h3,h4⟩:=he;obtain⟨h5,rfl⟩:=E6 h4;simp only[h1,h2,h3,wv];exact g20 h5 hk
 case sliceV s x lo hi mx=>obtain⟨x,h1,lo,h2,hi,h3,mx,h4,h5⟩:=he;obtain⟨h6,rfl⟩:=E6 h5;simp only[h1,h2,h3,h4,wv];exact g3m h6 hk
 case fieldAddr off x=>obtain⟨x,h1,h3⟩:=he;obtain⟨h4,rfl⟩:=E6 h3;simp only[h1,wv];exact e1q h4 hk
 case field n off x=>obtain⟨x,h1,h3⟩:=he;obtain⟨h4,rfl⟩:=E6 h3;simp only[h1,wv];exact e1w h4 hk
 case idxS x y=>obtain⟨x,h1,y,h2,h3⟩:=he;obtain⟨h4,rfl⟩:=E6 h3;simp only[h1,h2,wv];exact f3s h4 hk
 case idxV l s n x y=>obtain⟨x,h1,y,h2,h3⟩:=he;obtain⟨h4,rfl⟩:=E6 h3;simp only[h1,h2,wv];exact f6b h4 hk
 case idxSl s x y=>obtain⟨x,h1,y,h2,h3⟩:=he;obtain⟨h4,rfl⟩:=E6 h3;simp only[h1,h2,wv];exact f9l h4 hk
 case idxA l s x y=>obtain⟨x,h1,y,h2,h3⟩:=he;obtain⟨h4,rfl⟩:=E6 h3;simp only[h1,h2,wv];exact f5t h4 hk
 case assertT t ok z x=>obtain⟨x,h1,h3⟩:=he;obtain⟨h4,rfl⟩:=E6 h3;simp only[h1,wv];exact e4x h4 hk
 case extract i x=>obtain⟨x,h1,h3⟩:=he;obtain⟨h4,rfl⟩:=E6 h3;simp only[h1,wv];exact e0i h4 hk
 case len s x=>obtain⟨x,h1,h3⟩:=he;obtain⟨h4,rfl⟩:=E6 h3;simp only[h1,wv];exact f9k h4 hk
 case append s t x y=>
  obtain⟨x,h1,y,h2,h3⟩:=he;simp only[h1,h2,wv];split at h3
  ·split at h3
   ·rename_i r hr;cases h3;exact .inr (f4e hr hk)
   ·exact .inl (f2q h3 hk)
  ·exact .inl (f2q h3 hk)
 case call f args=>
  obtain⟨fv,h1,l,h2,h3⟩:=he;simp only[h1,h2,wv];split at h3
  ·exact hc _ _ _ _ _ h3 K hk
  ·cases h3
 case bytes x=>
  obtain⟨x,h1,h2⟩:=he;simp only[h1,wv];split at h2
  ·cases h2;exact hk
  ·cases h2
 case minmax mx l=>obtain⟨x,h1,v,h2,h3⟩:=he;cases h3;simp only[h1,h2,d75];exact hk
 case make s t z x y=>obtain⟨x,h1,y,h2,h3⟩:=he;simp only[h1,h2,wv];exact f6m h3 hk
 case range x=>obtain⟨x,h1,h2⟩:=he;simp only[h1,wv];exact e9c h2 hk
 case next x=>obtain⟨x,h1,h2⟩:=he;simp only[h1,wv];exact f37 h2 hk
def a0i(env:Env)(g:Option (Nat × Bool)):Option Bool:=
 match g with
 |none=>some true
 |some (t,want)=>(get env t).bind fun v=>match v with
  |.v (.bool b)=>some (b==want)
  |.tuple []=>some false
  |_=>none
theorem d1u{env:Env}{g:Option (Nat × Bool)}{b:Bool}{y n:Prop}(he:a0i env g=some b)(hk:if b=true then y else n):c5e env g y n:=by
 cases g with
 |none=>cases he;exact hk
 |some p=>
  obtain⟨t,want⟩:=p;simp only[a0i,Option.bind_eq_some_iff]at he;obtain⟨v,h1,h2⟩:=he;simp only[c5e,h1,wv];split at h2
  ·rename_i c;cases h2;simp only;cases c<;>cases want
   ·exact⟨fun _=>hk,fun h=>by cases h⟩
   ·exact⟨(fun h=>by cases h),fun _=>hk⟩
   ·exact⟨(fun h=>by cases h),fun _=>hk⟩
   ·exact⟨fun _=>hk,fun h=>by cases h⟩
  ·cases h2;exact hk
  ·cases h2
def d82(md:Bool)(call:d1f):List E8->Env->A7->Option (Env × A7)
 |[],env,h=>some (env,h)
 |o::r,env,h=>(a0i env o.guard).bind fun b=>match b with
  |true=>(e8b md call o.op env h).bind fun p=>d82 md call r (c1g env o.dst p.1) p.2
  |false=>d82 md call r (c0r env o.dst) h
def a68:AOp->Bool
 |.alloc _|.box _|.store _ _ _|.append _ _ _ _|.bytes _|.make _ _ _ _ _|.range _|.next _=>false
 |_=>true
theorem e3x{md:Bool}{call:d1f}(hq:∀f args h a h',call f args h=some (a,h')->h'=h){o:AOp}{env:Env}{h h':A7}{a:AV}(ho:a68 o=true)(he:e8b md call o env h=some (a,h')):h'=h:=by
 cases o<;>simp only[e8b,Option.bind_eq_some_iff,Option.map_eq_some_iff]at he<;>(try (cases ho;done))
 case mv x=>exact(E6 he).2
 case pick c x y=>obtain⟨cv,h1,h2⟩:=he;split at h2<;>first|exact(E6 h2).2|cases h2
 case build z ps=>obtain⟨q,h1,cells,h2,h3⟩:=he;cases h3;rfl
 case sliceLit s l z ps=>
  obtain⟨q,h1,cells,h2,h3⟩:=he;split at h3<;>cases h3;rfl
 case load n x=>obtain⟨p,h1,h2⟩:=he;exact(E6 h2).2
 case nilCheck x=>obtain⟨b,h1,h2⟩:=he;split at h2<;>cases h2<;>rfl
 case bin op x y=>obtain⟨x,h1,y,h2,h3⟩:=he;exact(E6 h3).2
 case eq c yes x y=>obtain⟨x,h1,y,h2,b,h3,h4⟩:=he;cases h4;rfl
 case un op x=>obtain⟨x,h1,h3⟩:=he;exact(E6 h3).2
 case conv c x=>obtain⟨x,h1,h3⟩:=he;exact(E6 h3).2
 case iface t x=>obtain⟨x,h1,h3⟩:=he;cases h3;rfl
 case func fn f c=>obtain⟨x,h1,y,h2,h3⟩:=he;cases h3;rfl
 case sliceS x lo hi=>obtain⟨x,h1,lo,h2,hi,h3,h4⟩:=he;exact(E6 h4).2
 case sliceV s x lo hi mx=>obtain⟨x,h1,lo,h2,hi,h3,mx,h4,h5⟩:=he;exact(E6 h5).2
 case fieldAddr off x=>obtain⟨x,h1,h3⟩:=he;exact(E6 h3).2
 case field n off x=>obtain⟨x,h1,h3⟩:=he;exact(E6 h3).2
 case idxS x y=>obtain⟨x,h1,y,h2,h3⟩:=he;exact(E6 h3).2
 case idxV l s n x y=>obtain⟨x,h1,y,h2,h3⟩:=he;exact(E6 h3).2
 case idxSl s x y=>obtain⟨x,h1,y,h2,h3⟩:=he;exact(E6 h3).2
 case idxA l s x y=>obtain⟨x,h1,y,h2,h3⟩:=he;exact(E6 h3).2
 case assertT t ok z x=>obtain⟨x,h1,h3⟩:=he;exact(E6 h3).2
 case extract i x=>obtain⟨x,h1,h3⟩:=he;exact(E6 h3).2
 case len s x=>obtain⟨x,h1,h3⟩:=he;exact(E6 h3).2
 case call f args=>
  obtain⟨fv,h1,l,h2,h3⟩:=he;split at h3
  ·exact hq _ _ _ _ _ h3
  ·cases h3
 case minmax mx l=>obtain⟨x,h1,v,h2,h3⟩:=he;cases h3;rfl
def d7r:AOp->Bool
 |.alloc _|.box _|.store _ _ _|.append _ _ _ _|.bytes _|.make _ _ _ _ _|.range _|.next _|.load _ _|.call _ _=>false
 |_=>true
theorem e1i{P:Program}{o:AOp}(hp:d7r o=true){env:Env}{h h':A7}{K:AV->A7->Prop}:aop P o env h K=aop P o env h' fun a _=>K a h:=by
 cases o<;>first|rfl|(cases hp;done)
theorem d83{P:Program}{o:AOp}(hp:d7r o=true){env:Env}{h h':A7}{av:AV}(hq:d86 P o env h av):d86 P o env h' av:=by
 unfold d86 at hq ⊢;rw[e1i (h':=h') hp]at hq;rw[e1i (h':=h') hp];have:(fun(a:AV) (_:A7)=>a=av/\h=h)=fun(a:AV) (_:A7)=>a=av/\h'=h':=by funext a b;simp
 rw[this]at hq;exact hq
def g2u:Env->Env
 |[]=>[]
 |(t,a)::e=>(t,a)::drop t (g2u e)
def c8u(env:Env)(h:A7):List c09->Option (List AV)
 |[]=>some []
 |.tmp t::r=>(get env t).bind fun a=>(c8u env h r).map fun l=>a::l
 |.cell t n::r=>(get env t).bind fun p=>(c12 h n p).bind fun a=>(c8u env h r).map fun l=>a::l
theorem c0a{env:Env}{h:A7}:∀{rs:List c09}{l:List AV}{K:List AV->Prop},c8u env h rs=some l->K l->d5g env h rs K
 |[],l,K,he,hk=>by cases he;exact hk
 |.tmp t::r,l,K,he,hk=>by
  simp only[c8u,Option.bind_eq_some_iff,Option.map_eq_some_iff]at he;obtain⟨a,h1,l',h2,rfl⟩:=he;simp only[d5g,h1,wv];exact c0a (K:=fun l=>K (a::l)) h2 hk
 |.cell t n::r,l,K,he,hk=>by
  simp only[c8u,Option.bind_eq_some_iff,Option.map_eq_some_iff]at he;obtain⟨p,h1,a,h2,l',h3,rfl⟩:=he;simp only[d5g,h1,wv];exact c6l (K:=fun a=>d5g env h r fun l=>K (a::l)) h2 (c0a (K:=fun l=>K (a::l)) h3 hk)
def d12(o:E8):Bool:=match o.op,o.guard with
 |.alloc _,none=>true
 |_,_=>false
def c0k(o:E8):Bool:= !a68 o.op&& !d12 o
theorem g43{P:Program}{env:Env}{h:A7}{K:AV->A7->Prop}{x y:L5}{k k':IntKind}{a b:Int}(hx:x.ev env=some (.v (.int k a)))(hy:y.ev env=some (.v (.int k' b)))(hk:K (.v (.int k (if b<a then b else a))) h):A P (.minmax false [x,y]) env h K:=
 c9e (l:=[.v (.int k a),.v (.int k' b)]) (v:=.int k (if b<a then b else a)) (by simp[evs,hx,hy]) (by simp[mmx]) hk
theorem g54{P:Program}{env:Env}{h:A7}{K:AV->A7->Prop}{x y:L5}{k k':IntKind}{a b:Int}(hx:x.ev env=some (.v (.int k a)))(hy:y.ev env=some (.v (.int k' b)))(hk:K (.v (.int k (if a<b then b else a))) h):A P (.minmax true [x,y]) env h K:=
 c9e (l:=[.v (.int k a),.v (.int k' b)]) (v:=.int k (if a<b then b else a)) (by simp[evs,hx,hy]) (by simp[mmx]) hk
def nz1:AV->AV
 |.nil=>.sl [] .no
 |.sl els _=>.sl els .no
 |x=>x
def nzA:AV->AV
 |.agg cs=>.agg (cs.map nz1)
 |x=>nz1 x
def nz:AV->AV
 |.tuple vs=>.tuple (vs.map nzA)
 |x=>nzA x
theorem e3s(av:AV):(nz1 av).isCell=av.isCell:=by cases av<;>rfl
theorem Rel.nz1{σ:Sg}{av:AV}{x:Value}(hr:Rel σ av x):Rel σ (nz1 av) x:=by
 cases av with
 |nil=>cases hr;exact .sl0 _ trivial
 |sl els tok=>
  show Rel σ (.sl els .no) x;cases hr with
  |sl0 _ _=>exact .sl0 _ trivial
  |slx _ a cap _ _=>exact .slx _ a cap trivial (.inl rfl)
  |sl _ _ b o cap size xs hs hcap ht hz hc hr=>exact .sl _ _ b o cap size xs hs hcap trivial (fun id e h=>by cases h) hc hr
 |_=>exact hr
theorem F3.nz{σ:Sg}{cells:List AV}{vs:List Value}(hc:F3 σ cells vs):F3 σ (cells.map nz1) vs:=by
 refine⟨by simp[hc.1],fun i av hi=>?_⟩;simp only[List.getElem?_map,Option.map_eq_some_iff]at hi;obtain⟨b,hb,rfl⟩:=hi;obtain⟨h1,x,h2,h3⟩:=hc.2 i b hb;exact⟨by rw[e3s];exact h1,x,h2,h3.nz1⟩
theorem Rel.nzA{σ:Sg}{av:AV}{x:Value}(hr:Rel σ av x):Rel σ (nzA av) x:=by
 unfold Lift.nzA;split
 ·obtain⟨xs,rfl,hc⟩:=hr.agg_inv;exact Rel.agg_mk' hc.nz
 ·exact hr.nz1
theorem Rel.nz{σ:Sg}{av:AV}{x:Value}(hr:Rel σ av x):Rel σ (nz av) x:=by
 unfold Lift.nz;split
 ·cases hr with
  |tuple vs xs hn y hx hr=>
   refine .tuple _ _ (by simp[hn]) y (fun i av hi=>?_) (fun i av hi=>?_)
   ·simp only[List.getElem?_map,Option.map_eq_some_iff]at hi;obtain⟨b,hb,rfl⟩:=hi;exact hx i b hb
   ·simp only[List.getElem?_map,Option.map_eq_some_iff]at hi;obtain⟨b,hb,rfl⟩:=hi;exact(hr i b hb).nzA
 ·exact hr.nzA
theorem e9t(a:AV)(h:plain (nz1 a)=true):plain (wk1 a)=true:=by
 cases a with
 |sl els tok=>cases tok<;>simpa[nz1,wk1,plain]using h
 |_=>first|rfl|exact h
theorem d6v:∀(l:List AV),plainL (l.map nz1)=true->plainL (l.map wk1)=true
 |[],_=>rfl
 |a::r,h=>by
  simp only[List.map_cons,plainL,Bool.and_eq_true]at h ⊢;exact⟨e9t a h.1,d6v r h.2⟩
theorem d1w(a:AV)(h:plain (nzA a)=true):plain (wkA a)=true:=by
 cases a with
 |agg cs=>simp only[nzA,wkA,plain]at h ⊢;exact d6v cs h
 |sl els tok=>cases tok<;>simpa[nzA,wkA,nz1,wk1,plain]using h
 |_=>first|rfl|exact h
theorem d36:∀(l:List AV),plainL (l.map nzA)=true->plainL (l.map wkA)=true
 |[],_=>rfl
 |a::r,h=>by
  simp only[List.map_cons,plainL,Bool.and_eq_true]at h ⊢;exact⟨d1w a h.1,d36 r h.2⟩
theorem f53(a:AV)(h:plain (nz a)=true):plain (wk a)=true:=by
 cases a with
 |tuple vs=>simp only[nz,wk,plain]at h ⊢;exact d36 vs h
 |agg cs=>exact d1w (.agg cs) h
 |sl els tok=>exact d1w (.sl els tok) h
 |_=>first|rfl|exact h
theorem g8w(a:AV):nz1 (wk1 a)=nz1 a:=by
 cases a with
 |sl els tok=>cases tok<;>rfl
 |_=>rfl
theorem f8x(a:AV):nzA (wkA a)=nzA a:=by
 cases a with
 |agg cs=>simp only[wkA,nzA,List.map_map];congr 1;exact List.map_congr_left fun x _=>g8w x
 |sl els tok=>cases tok<;>rfl
 |_=>rfl
theorem h2p(a:AV):nz (wk a)=nz a:=by
 cases a with
 |tuple vs=>simp only[wk,nz,List.map_map];congr 1;exact List.map_congr_left fun x _=>f8x x
 |agg cs=>exact f8x (.agg cs)
 |sl els tok=>cases tok<;>rfl
 |_=>rfl
def B8(P:Program)(gl:List (Nat × List AV))(f:FuncId)(args:List AV)(r:AV):Prop:=g5h P gl f args fun a=>nz a=r
theorem d1i{P:Program}{f:FuncId}{args args':List AV}{r:AV}{h:A7}{K:AV->A7->Prop}(hf:B8 P h.globs f args r)(hgl:X1 h.globs=true)(ha:args'.map nz=args)(hp:plainL args=true)(hk:K r h):c37 P f args' h K:=by
 refine⟨hf.1,fun σ cargs hi hr=>?_⟩
 have hopen:∀b o,σ.open_ b o->b<σ.w.heap.size:=by
  rintro b o (ho|⟨n,hn⟩|⟨id,e,he,hs⟩)
  ·exact(hi.outer b o ho).1
  ·exact hi.lt hn
  ·obtain⟨v,hv⟩:=Option.isSome_iff_exists.1 (hi.bufat id e b o he hs).1;exact a4h hv
 have hrels:d2m (bare σ.w σ.open_) args cargs.toList:=by
  refine⟨by rw[hr.1,<-ha];simp,fun i av hav=>?_⟩;have hav':=hav;rw[<-ha]at hav;simp only[List.getElem?_map,Option.map_eq_some_iff]at hav;obtain⟨b,hb,rfl⟩:=hav;obtain⟨x,h1,h2⟩:=hr.2 i b hb;exact⟨x,h1,h2.nz.down (U9 hp i _ hav') rfl fun _ _ h=>h⟩
 have hglobs:e8l σ.w σ.open_ h.globs:=fun g cells hg=>(hi.glob g cells hg).down (by simp only[plain];exact List.all_eq_true.1 hgl _ hg) rfl fun _ _ h=>h
 refine(hf.2 σ.w σ.open_ cargs hopen hglobs hrels).mono fun e w' hq=>?_
 obtain⟨av,x,rfl,hpast,hrel,hR⟩:=hq;exact⟨{σ with w:=w'},h,nz av,x,rfl,rfl,Le.world hpast,hi.world hpast,(hrel.nz).up (fun _=>rfl) (fun _=>rfl) rfl (fun b o ho=>.inl ho),by rw[hR];exact hk⟩
def g3t(rs:List c09)(r:AV):Exit->Env->A7->Prop
 |.normal,env,h=>d5g env h rs fun l=>plain (wk (d5i l))=true/\nz (wk (d5i l))=r
 |.ret,env,h=>d5g env h rs fun l=>plain (wk (d5i l))=true/\nz (wk (d5i l))=r
 |_,_,_=>False
section
variable {P:Program}{h h':A7}{env env':Env}{N:Nat}{Q:Exit->Env->A7->Prop}{K:Env->A7->Prop}{L:List E8}{k:Nat}
theorem g1e{gl:List (Nat × List AV)}{f:FuncId}{ac:W2}{rs:List c09}(hf:b4o P f=some (N,ac,rs)){args:List AV}{r:AV}{e₀:Env}(hn:args.length<=N)(he:c17 0 args=e₀)
  (hbody:C P N ac (g3t rs r) e₀ ⟨[],[],gl⟩):B8 P gl f args r:=by
 subst he;refine g21 hf hn (c4o hbody.out fun e env h hq=>?_);cases e<;>first|exact hq|exact hq.elim
theorem h4j{rs:List c09}{r:AV}{l:List AV}(hl:c8u env h rs=some l)(hr:nz (d5i l)=r)(hp:plain r=true):g3t rs r .ret env h:=by
 refine c0a hl ⟨f53 _ (by rw[hr];exact hp),by rw[h2p];exact hr⟩
def a22(P:Program)(o:AOp)(env:Env)(h:A7)(av:AV)(h':A7):Prop:=∀K:AV->A7->Prop,K av h'->aop P o env h K
theorem a22.q{P:Program}{o:AOp}{env:Env}{h:A7}{av:AV}(hd:a22 P o env h av h):d86 P o env h av:=hd _ ⟨rfl,rfl⟩
def c4s(e env:Env):Prop:=∀t a,get e t=some a->get env t=some a
theorem c4s.put{e env:Env}(he:c4s e env)(d:Option Nat)(av:AV):c4s (c1g e d av) (c1g env d av):=by
 intro t a h;rw[b1z]at h ⊢;split at h
 ·rename_i hd;rw[if_pos hd];exact h
 ·rename_i hd;rw[if_neg hd];exact he t a h
theorem c4s.drop{e env:Env}(he:c4s e env)(d:Option Nat):c4s (c0r e d) (c0r env d):=by
 intro t a h;rw[b3b]at h ⊢;split at h
 ·rename_i hd;rw[if_pos hd];exact h
 ·rename_i hd;rw[if_neg hd];exact he t a h
theorem c4s.ev{e env:Env}(he:c4s e env){x:L5}{a:AV}(h:x.ev e=some a):x.ev env=some a:=by
 cases x with
 |t n=>exact he n a h
 |c b=>exact h
theorem c4s.wv{e env:Env}(he:c4s e env){x:L5}{J J':AV->Prop}(hj:wv (x.ev e) J)(h:∀a,J a->J' a):wv (x.ev env) J':=by
 obtain⟨a,h1,h2⟩:=b7v hj;rw[he.ev h1];exact h a h2
theorem c4s.evs{e env:Env}(he:c4s e env):∀{l:List L5}{r:List AV},evs e l=some r->evs env l=some r
 |[],r,h=>h
 |x::l,r,h=>by
  simp only[Lift.evs]at h ⊢;split at h
  ·rename_i a l' h1 h2;rw[he.ev h1,he.evs h2];exact h
  ·cases h
theorem c4s.evp{e env:Env}(he:c4s e env):∀{l:List ((Nat × Nat) × L5)}{r:List ((Nat × Nat) × AV)},evp e l=some r->evp env l=some r
 |[],r,h=>h
 |(k,x)::l,r,h=>by
  simp only[Lift.evp]at h ⊢;split at h
  ·rename_i a l' h1 h2;rw[he.ev h1,he.evp h2];exact h
  ·cases h
theorem c4s.evo{e env:Env}(he:c4s e env){x:Option L5}{r:Option AV}(h:evo e x=some r):evo env x=some r:=by
 cases x with
 |none=>exact h
 |some x=>
  simp only[Lift.evo]at h ⊢;split at h
  ·rename_i a h1;rw[he.ev h1];exact h
  ·cases h
theorem d4u{P:Program}{o:AOp}{e env:Env}(he:c4s e env){h:A7}{K:AV->A7->Prop}(ha:aop P o e h K):aop P o env h K:=by
 cases o<;>simp only[aop]at ha ⊢
 case mv=>exact he.wv ha fun _ h=>h
 case pick=>
  refine he.wv ha fun c hc=>?_
  unfold c69 at hc ⊢;split at hc
  ·exact⟨fun ht=>he.wv (hc.1 ht) fun _ h=>h,fun ht=>he.wv (hc.2 ht) fun _ h=>h⟩
  ·exact hc.elim
 case alloc=>exact ha
 case box=>exact he.wv ha fun _ h=>h
 case build=>
  split at ha
  ·rename_i ps h1;rw[he.evp h1];exact ha
  ·exact ha.elim
 case sliceLit=>
  split at ha
  ·rename_i ps h1;rw[he.evp h1];exact ha
  ·exact ha.elim
 case load=>exact he.wv ha fun _ h=>h
 case store=>exact he.wv ha fun _ h=>he.wv h fun _ h=>h
 case nilCheck=>exact he.wv ha fun _ h=>h
 case bin=>exact he.wv ha fun _ h=>he.wv h fun _ h=>h
 case eq=>exact he.wv ha fun _ h=>he.wv h fun _ h=>h
 case un=>exact he.wv ha fun _ h=>h
 case conv=>exact he.wv ha fun _ h=>h
 case iface=>exact he.wv ha fun _ h=>h
 case func=>
  split at ha
  ·rename_i f c h1 h2;rw[he.evs h1,he.evs h2];exact ha
  ·exact ha.elim
 case sliceS=>
  refine he.wv ha fun x hx=>?_
  split at hx
  ·rename_i lo hi h1 h2;rw[he.evo h1,he.evo h2];exact hx
  ·exact hx.elim
 case sliceV=>
  refine he.wv ha fun x hx=>?_
  split at hx
  ·rename_i lo hi mx h1 h2 h3;rw[he.evo h1,he.evo h2,he.evo h3];exact hx
  ·exact hx.elim
 case fieldAddr=>exact he.wv ha fun _ h=>h
 case field=>exact he.wv ha fun _ h=>h
 case idxS=>exact he.wv ha fun _ h=>he.wv h fun _ h=>h
 case idxV=>exact he.wv ha fun _ h=>he.wv h fun _ h=>h
 case idxSl=>exact he.wv ha fun _ h=>he.wv h fun _ h=>h
 case idxA=>exact he.wv ha fun _ h=>he.wv h fun _ h=>h
 case assertT=>exact he.wv ha fun _ h=>h
 case extract=>exact he.wv ha fun _ h=>h
 case len=>exact he.wv ha fun _ h=>h
 case append=>exact he.wv ha fun _ h=>he.wv h fun _ h=>h
 case call f args=>
  refine he.wv ha fun f hf=>?_
  unfold d8i at hf ⊢;split at hf
  ·rename_i g first captured l h1;rw[he.evs h1];exact hf
  ·exact hf.elim
 case bytes=>exact he.wv ha fun _ h=>h
 case minmax=>
  split at ha
  ·rename_i l h1;rw[he.evs h1];exact ha
  ·exact ha.elim
 case make=>exact he.wv ha fun _ h=>he.wv h fun _ h=>h
 case range=>exact he.wv ha fun _ h=>h
 case next=>exact he.wv ha fun _ h=>h
theorem a22.less{P:Program}{o:AOp}{e env:Env}{h h':A7}{av:AV}(hd:a22 P o e h av h')(he:c4s e env):a22 P o env h av h':=fun K hk=>d4u he (hd K hk)
theorem c4s.guard{e env:Env}(he:c4s e env){g:Option (Nat × Bool)}{b:Bool}(h:a0i e g=some b):a0i env g=some b:=by
 cases g with
 |none=>exact h
 |some p=>
  obtain⟨t,want⟩:=p;simp only[a0i,Option.bind_eq_some_iff]at h ⊢;obtain⟨v,h1,h2⟩:=h;exact⟨v,he t v h1,h2⟩
def vd(P:Program):List E8->Env->A7->(Env->A7->Prop)->Prop
 |[],env,h,K=>K env h
 |o::r,env,h,K=>(a0i env o.guard=some false/\vd P r (c0r env o.dst) h K)\/(a0i env o.guard=some true/\∃av h',a22 P o.op env h av h'/\vd P r (c1g env o.dst av) h' K)\/
  (a0i env o.guard=some true/\∃S:AV->Prop,(∀K':AV->A7->Prop,(∀av,S av->K' av h)->aop P o.op env h K')/\∀av,S av->vd P r (c1g env o.dst av) h K)
theorem c6f{P:Program}:∀{l:List E8}{env:Env}{h:A7}{K:Env->A7->Prop},vd P l env h K->f27 P l env h K
 |[],env,h,K,hv=>hv
 |o::r,env,h,K,hv=>by
  rcases hv with⟨hg,hv⟩|⟨hg,av,h',hd,hv⟩|⟨hg,S,hd,hv⟩
  ·exact d1u (b:=false) hg (by simpa using c6f hv)
  ·refine d1u (b:=true) hg ?_;simp only[if_true];exact hd _ (c6f hv)
  ·refine d1u (b:=true) hg ?_;simp only[if_true];exact hd _ fun av hav=>c6f (hv av hav)
def c78(K:Env->A7->Prop):Prop:=∀e env h,c4s e env->K e h->K env h
theorem c1p{P:Program}{K:Env->A7->Prop}(hK:c78 K):∀{l:List E8}{e env:Env}{h:A7},c4s e env->vd P l e h K->vd P l env h K
 |[],e,env,h,he,hv=>hK e env h he hv
 |o::r,e,env,h,he,hv=>by
  rcases hv with⟨hg,hv⟩|⟨hg,av,h',hd,hv⟩|⟨hg,S,hd,hv⟩
  ·exact .inl ⟨he.guard hg,c1p hK (he.drop _) hv⟩
  ·exact .inr (.inl ⟨he.guard hg,av,h',hd.less he,c1p hK (he.put _ _) hv⟩)
  ·exact .inr (.inr ⟨he.guard hg,S,fun K' hK'=>d4u he (hd K' hK'),fun av hav=>c1p hK (he.put _ _) (hv av hav)⟩)
def Vp(P:Program)(L:List E8)(k:Nat)(env:Env)(h:A7)(K:Env->A7->Prop):Prop:=vd P (L.drop k) env h K
def noC:d1f:=fun _ _ _=>none
theorem e8a{P:Program}:f74 P noC:=fun f args h a h' he=>by cases he
theorem c91{b:List E8}:∀{a:List E8}{env:Env}{h:A7}{r:Env × A7}{K:Env->A7->Prop},d82 false noC a env h=some r->vd P b r.1 r.2 K->vd P (a++b) env h K
 |[],env,h,r,K,he,hk=>by cases he;exact hk
 |o::l,env,h,r,K,he,hk=>by
  simp only[d82,Option.bind_eq_some_iff]at he;obtain⟨g,h1,h2⟩:=he;cases g with
  |true=>
   simp only[Option.bind_eq_some_iff]at h2;obtain⟨⟨a,h'⟩,h3,h4⟩:=h2;exact .inr (.inl ⟨h1,a,h',fun K hk=>e0k e8a h3 hk,c91 h4 hk⟩)
  |false=>exact .inl ⟨h1,c91 h2 hk⟩
theorem f30(hk:Vp P L 0 env h K):V P L env h K:=⟨c6f hk⟩
theorem f3v(m:Nat)(env':Env)(h':A7)(he:d82 false noC ((L.drop k).take m) env h=some (env',h')){k':Nat}(hk':k+m=k')(hk:Vp P L k' env' h' K):Vp P L k env h K:=by
 subst hk';show vd P (L.drop k) env h K;rw[<-List.take_append_drop m (L.drop k),List.drop_drop];exact c91 he hk
theorem g8e{o:E8}(hl:L[k]? =some o)(hg:a0i env o.guard=some true){av:AV}{env1:Env}(ha:a22 P o.op env h av h'){k':Nat}(hk':k+1=k')(he:c1g env o.dst av=env1)(hk:Vp P L k' env1 h' K):Vp P L k env h K:=by
 subst hk' he;obtain⟨hlt,rfl⟩:=List.getElem?_eq_some_iff.1 hl;show vd P (L.drop k) env h K;rw[List.drop_eq_getElem_cons hlt];exact .inr (.inl ⟨hg,av,h',ha,hk⟩)
theorem g77{o:E8}(hl:L[k]? =some o)(hg:a0i env o.guard=some true)(S:AV->Prop)(ha:∀K':AV->A7->Prop,(∀av,S av->K' av h)->aop P o.op env h K')(hk:∀av,S av->Vp P L (k+1) (c1g env o.dst av) h K):Vp P L k env h K:=by
 obtain⟨hlt,rfl⟩:=List.getElem?_eq_some_iff.1 hl;show vd P (L.drop k) env h K;rw[List.drop_eq_getElem_cons hlt];exact .inr (.inr ⟨hg,S,ha,hk⟩)
theorem g5p(hl:L.drop k=[])(hk:K env h):Vp P L k env h K:=by
 show vd P (L.drop k) env h K;rw[hl];exact hk
theorem f58{l:List E8}(hK:c78 K):c78 fun F h'=>vd P l F h' K:=fun e env h he hv=>c1p hK he hv
theorem g1t{g:FuncId}{f:L5}{args:List L5}{l l':List AV}{r:AV}(hf:f.ev env=some (.clo (.func g) [] []))(ha:evs env args=some l)(hl:l.map nz=l')(hgl:X1 h.globs=true)(hp:plainL l'=true)(hc:B8 P h.globs g l' r):a22 P (.call f args) env h r h:=
 fun K hk=>(d67 hf ha (d1i hc hgl hl hp hk)).out
theorem g2a{g:FuncId}{f:L5}{args:List L5}{l l' first captured:List AV}{r:AV}(hf:f.ev env=some (.clo (.func g) first captured))(ha:evs env args=some l)(hl:(first++l++captured).map nz=l')(hgl:X1 h.globs=true)(hp:plainL l'=true)(hc:B8 P h.globs g l' r):a22 P (.call f args) env h r h:=
 fun K hk=>(g24 hf ha (d1i hc hgl hl hp hk)).out
end
def e0b(P:Program)(c:Code)(Q:Exit->Act->World->Prop)(a:Act)(w:World):Prop:=∀b k cs,∃e a' w',Q e a' w'/\Arrives P (lone (b.at a (.code c::.inLoop c::k)) cs w) b k cs e a' w'
theorem d8r{P:Program}{Q:Exit->Act->World->Prop}{a:Act}{w:World}{c:Code}(hx:c.wp P (Exit.then (e0b P c Q) Q) a w):e0b P c Q a w:=by
 intro b k cs;obtain⟨e,a₁,w₁,hq,harr⟩:=hx b (.inLoop c::k) cs;cases e with
 |normal=>
  obtain⟨e₂,a₂,w₂,hq₂,harr₂⟩:=hq b k cs;exact⟨e₂,a₂,w₂,hq₂,.of_steps (Steps.trans harr (.one step_inLoop)) harr₂⟩
 |exit id=>exact⟨_,a₁,w₁,hq,.pass (x:=.inLoop c) rfl (fun _ _=>.inl (by simp)) harr⟩
 |goto l=>exact⟨_,a₁,w₁,hq,.pass (x:=.inLoop c) rfl (fun _ _=>.inl (by simp)) harr⟩
 |ret=>exact⟨_,a₁,w₁,hq,.pass (x:=.inLoop c) rfl (fun _ _=>.inl (by simp)) harr⟩
 |panic ch=>exact⟨_,a₁,w₁,hq,.pass (x:=.inLoop c) rfl (fun _ _=>.inl (by simp)) harr⟩
 |outgrown=>exact⟨_,a₁,w₁,hq,.pass (x:=.inLoop c) rfl (fun _ _=>.inl (by simp)) harr⟩
theorem f5s{P:Program}{Q:Exit->Act->World->Prop}{a:Act}{w:World}{c:Code}(hx:e0b P c Q a w):(Code.loop c).wp P Q a w:=by
 intro b k cs;obtain⟨e,a',w',hq,harr⟩:=hx b k cs;exact⟨e,a',w',hq,.of_steps (.one step_loop) harr⟩
theorem e0b.mono{P:Program}{Q Q':Exit->Act->World->Prop}{a:Act}{w:World}{c:Code}(hq:∀e a w,Q e a w->Q' e a w)(hx:e0b P c Q a w):e0b P c Q' a w:=by
 intro b k cs;obtain⟨e,a',w',h1,harr⟩:=hx b k cs;exact⟨e,a',w',hq _ _ _ h1,harr⟩
section
variable {P:Program}{h h':A7}{env env':Env}{N:Nat}{Q:Exit->Env->A7->Prop}{x:W2}
end
section
variable {P:Program}{h:A7}{env:Env}{α:Type}
def bI(s:ByteArray):List Int:=s.data.toList.map fun b=>(b.toNat:Int)
theorem g57{x:L5}{s:ByteArray}(hx:x.ev env=some (.v (.string s))):a22 P (.len true x) env h (.v (.int .i64 s.size)) h:=fun K hk=>by
 simp only[aop,hx,wv,d34];exact hk
theorem h01{x:L5}{l:List α}{e:α->List AV}{tok:Tok}(hx:x.ev env=some (.sl (List.map e l) tok)):a22 P (.len false x) env h (.v (.int .i64 l.length)) h:=fun K hk=>by
 simp only[aop,hx,wv,d34,List.length_map];exact hk
theorem g0h{size:Nat}{x i:L5}{l:List α}{e' e:α->List AV}{tok:Tok}{k:IntKind}{n:Int}{y:α}(hx:x.ev env=some (.sl (List.map e' l) tok))(hi:i.ev env=some (.v (.int k n)))(h0:0<=n)(hy:l[n.toNat]? =some y)(he:e' y=e y)(hs:(e y).length=size):a22 P (.idxSl size x i) env h (.elt (e y) 0) h:=fun K hk=>by
 simp only[aop,hx,hi,wv,c5s];obtain⟨hlt,rfl⟩:=List.getElem?_eq_some_iff.1 hy
 have hg:(List.map e' l).getD n.toNat []=e l[n.toNat]:=by
  rw[List.getD_eq_getElem?_getD,List.getElem?_map,hy];simpa using he
 rw[hg,List.length_map];exact⟨⟨h0,by omega⟩,hs,hk⟩
theorem g4n{x i:L5}{s:ByteArray}{k:IntKind}{n:Int}(hx:x.ev env=some (.v (.string s)))(hi:i.ev env=some (.v (.int k n)))(h0:0<=n/\n<(s.size:Int)):a22 P (.idxS x i) env h (.v (.int .u8 (E9 s n.toNat))) h:=fun K hk=>by
 simp only[aop,hx,hi,wv,c3m];exact⟨h0,hk⟩
theorem f4u{x:L5}{lo hi:Option L5}{s:ByteArray}{lv hv:Option AV}{l u:Int}(hx:x.ev env=some (.v (.string s)))(h1:evo env lo=some lv)(h2:evo env hi=some hv)(h3:F8 0 lv=some l)(h4:F8 s.size hv=some u)(h0:0<=l/\l<=u/\u<=(s.size:Int)):a22 P (.sliceS x lo hi) env h (.v (.string (s.extract l.toNat u.toNat))) h:=fun K hk=>by
 simp only[aop,hx,h1,h2,wv,c50,h3,h4];exact⟨h0,hk⟩
theorem d73{e':α->List AV}{l:List α}{hv:Option AV}:F8 (List.map e' l).length hv=F8 l.length hv:=by rw[List.length_map]
theorem f3z{size:Nat}{x:L5}{lo hi:Option L5}{l:List α}{e':α->List AV}{tok:Tok}{lv hv:Option AV}{a u:Int}(hx:x.ev env=some (.sl (List.map e' l) tok))(h1:evo env lo=some lv)(h2:evo env hi=some hv)(h3:F8 0 lv=some a)(h4:F8 l.length hv=some u)(h0:0<=a/\a<=u/\u<=(l.length:Int))(hs:∀y,(e' y).length=size):a22 P (.sliceV size x lo hi none) env h (.sl (List.map e' ((l.take u.toNat).drop a.toNat)) (match lv,hv with|none,none=>tok|_,_=>.no)) h:=fun K hk=>by
 have h5:evo env none=some none:=rfl;simp only[aop,hx,h1,h2,h5,wv,b3n,h3,d73,h4,List.length_map];refine⟨h0,fun el hel=>?_,?_⟩
 ·obtain⟨y,_,rfl⟩:=List.mem_map.1 hel;exact hs y
 ·rw[<-List.map_take,<-List.map_drop];cases lv<;>cases hv<;>exact hk
theorem e8y{size:Nat}{x m:L5}{lo hi:Option L5}{l:List α}{e':α->List AV}{tok:Tok}{lv hv:Option AV}{k:IntKind}{a u:Int}(hx:x.ev env=some (.sl (List.map e' l) tok))(h1:evo env lo=some lv)(h2:evo env hi=some hv)(h3:F8 0 lv=some a)(h4:F8 l.length hv=some u)(h5:m.ev env=some (.v (.int k u)))(h6:hv.isSome=true)(h0:0<=a/\a<=u/\u<=(l.length:Int))(hs:∀y,(e' y).length=size):a22 P (.sliceV size x lo hi (some m)) env h (.sl (List.map e' ((l.take u.toNat).drop a.toNat)) .full) h:=fun K hk=>by
 have h7:evo env (some m)=some (some (.v (.int k u))):=by simp only[evo,h5]
 simp only[aop,hx,h1,h2,h7,wv,b3n,h3,d73,h4,List.length_map];refine⟨h0,fun el hel=>?_,trivial,fun hn=>(by rw[hn]at h6;cases h6),?_⟩
 ·obtain⟨y,_,rfl⟩:=List.mem_map.1 hel;exact hs y
 ·rw[<-List.map_take,<-List.map_drop];exact hk
theorem d7a{op:BinOp}{x y:L5}{a b r:Value}{c:Prop}(hx:x.ev env=some (.v a))(hy:y.ev env=some (.v b))(hp:d9u op a b=some (c,r))(hc:c):a22 P (.bin op x y) env h (.v r) h:=fun K hk=>by
 simp only[aop,hx,hy,wv,d30,hp];exact⟨hc,hk⟩
theorem g66{x y:L5}{a b:ByteArray}(hx:x.ev env=some (.v (.string a)))(hy:y.ev env=some (.v (.string b)))(h0:((a.size+b.size:Nat):Int)<=9223372036854775807):a22 P (.bin .add x y) env h (.v (.string (a++b))) h:=d7a hx hy rfl (by omega)
theorem e3v{a b:ByteArray}:(a.toList==b.toList)=decide (a=b):=by
 rw[ByteArray.toList_eq,ByteArray.toList_eq]
 by_cases h:a=b
 ·subst h;simp
 ·rw[decide_eq_false h,beq_eq_false_iff_ne];intro he;exact h (ByteArray.ext (Array.ext' he))
theorem h1x{x y:L5}{a b:ByteArray}(hx:x.ev env=some (.v (.string a)))(hy:y.ev env=some (.v (.string b))):a22 P (.bin .eql x y) env h (.v (.bool (decide (a=b)))) h:=by rw[<-e3v];exact d7a hx hy (c:=True) rfl trivial
theorem h0k{x y:L5}{a b:ByteArray}(hx:x.ev env=some (.v (.string a)))(hy:y.ev env=some (.v (.string b))):a22 P (.bin .neq x y) env h (.v (.bool (!decide (a=b)))) h:=by rw[<-e3v];exact d7a hx hy (c:=True) rfl trivial
theorem f9q{c x y:L5}{t a b:Bool}(hc:c.ev env=some (.v (.bool t)))(hx:x.ev env=some (.v (.bool a)))(hy:y.ev env=some (.v (.bool b))):a22 P (.pick c x y) env h (.v (.bool (bif t then a else b))) h:=fun K hk=>by
 simp only[aop,hc,hx,hy,wv,c69];cases t<;>simp_all
theorem f9x{c x y:L5}{t:Bool}{k:IntKind}{a b:Int}(hc:c.ev env=some (.v (.bool t)))(hx:x.ev env=some (.v (.int k a)))(hy:y.ev env=some (.v (.int k b))):a22 P (.pick c x y) env h (.v (.int k (bif t then a else b))) h:=fun K hk=>by
 simp only[aop,hc,hx,hy,wv,c69];cases t<;>simp_all
theorem g3n{c x y:L5}{t:Bool}{a b:ByteArray}(hc:c.ev env=some (.v (.bool t)))(hx:x.ev env=some (.v (.string a)))(hy:y.ev env=some (.v (.string b))):a22 P (.pick c x y) env h (.v (.string (bif t then a else b))) h:=fun K hk=>by
 simp only[aop,hc,hx,hy,wv,c69];cases t<;>simp_all
theorem g6x{x y:L5}{k k':IntKind}{a b:Int}(hx:x.ev env=some (.v (.int k a)))(hy:y.ev env=some (.v (.int k' b))):a22 P (.minmax false [x,y]) env h (.v (.int k (min a b))) h:=fun K hk=>
 (g43 hx hy (by rw[show(if b<a then b else a)=min a b by omega];exact hk)).out
theorem g61{x y:L5}{k k':IntKind}{a b:Int}(hx:x.ev env=some (.v (.int k a)))(hy:y.ev env=some (.v (.int k' b))):a22 P (.minmax true [x,y]) env h (.v (.int k (max a b))) h:=fun K hk=>
 (g54 hx hy (by rw[show(if a<b then b else a)=max a b by omega];exact hk)).out
theorem g0l(s:ByteArray)(size:Nat){h:A7}:c7j h size (.v (.string s))=some (List.map (fun n=>[AV.v (.int .u8 n)]) (bI s)):=by
 simp only[c7j,Z4,bI,List.map_map];rfl
theorem d63{size byt:Nat}{x y:L5}{Y:AV}{e':α->List AV}{m:List α}(hx:x.ev env=some .nil)(hy:y.ev env=some Y)(hm:c7j h size Y=some (List.map e' m))(hs:∀y,(e' y).length=size)(h0:m.length*byt<=140737488355328):a22 P (.append size byt x y) env h (.sl (List.map e' m) (.own h.bufs.length)) ⟨h.blks,h.bufs++[(m.length,size)],h.globs⟩:=fun K hk=>by
 simp only[aop,hx,hy,wv];refine .inl ?_;simp only[b48,hm,List.length_map];exact⟨fun el hel=>by obtain⟨y,_,rfl⟩:=List.mem_map.1 hel;exact hs y,h0,hk⟩
theorem d7p{size byt id:Nat}{x y:L5}{Y:AV}{e':α->List AV}{l m:List α}(hx:x.ev env=some (.sl (List.map e' l) (.own id)))(hy:y.ev env=some Y)(hm:c7j h size Y=some (List.map e' m))(hb:h.bufs[id]? =some (l.length,size))(hs:∀y,(e' y).length=size)(h0:(l.length+m.length)*byt<=140737488355328):a22 P (.append size byt x y) env h (.sl (List.map e' (l++m)) (.own id)) ⟨h.blks,h.bufs.set id ((l++m).length,size),h.globs⟩:=fun K hk=>by
 simp only[aop,hx,hy,wv];refine .inl ?_;simp only[b48,hm,List.length_map];refine⟨fun el hel=>by obtain⟨y,_,rfl⟩:=List.mem_map.1 hel;exact hs y,fun el hel=>by obtain⟨y,_,rfl⟩:=List.mem_map.1 hel;exact hs y,hb,h0,?_⟩;rw[<-List.map_append,<-List.length_append];exact hk
theorem d4r{size byt:Nat}{x y:L5}{X Y:AV}{e':α->List AV}{l m:List α}{els:List (List AV)}(hx:x.ev env=some (.sl els .full))(hy:y.ev env=some Y)(hX:els=List.map e' l)(hm:c7j h size Y=some (List.map e' m))(hs:∀y,(e' y).length=size)(h0:(l.length+m.length)*byt<=140737488355328):a22 P (.append size byt x y) env h (.sl (List.map e' (l++m)) (.own h.bufs.length)) ⟨h.blks,h.bufs++[((l++m).length,size)],h.globs⟩:=fun K hk=>by
 subst hX;simp only[aop,hx,hy,wv];refine .inl ?_;simp only[b48,hm,List.length_map];refine⟨fun el hel=>by obtain⟨y,_,rfl⟩:=List.mem_map.1 hel;exact hs y,fun el hel=>by obtain⟨y,_,rfl⟩:=List.mem_map.1 hel;exact hs y,h0,?_⟩;rw[<-List.map_append,<-List.length_append];exact hk
theorem g27{x:L5}{s:ByteArray}(hx:x.ev env=some (.v (.string s))):a22 P (.bytes x) env h (.sl (List.map (fun n=>[AV.v (.int .u8 n)]) (bI s)) (.own h.bufs.length)) ⟨h.blks,h.bufs++[((bI s).length,1)],h.globs⟩:=fun K hk=>by
 simp only[aop,hx,wv,e05];have e:Z4 s.data.toList=List.map (fun n=>[AV.v (.int .u8 n)]) (bI s):=by simp only[Z4,bI,List.map_map];rfl
 have e2:s.data.toList.length=(bI s).length:=by simp only[bI,List.length_map]
 rw[e,e2];exact hk
theorem h21{x:L5}{l:List Int}{t:ByteArray}{tok:Tok}(hx:x.ev env=some (.sl (List.map (fun n=>[AV.v (.int .u8 n)]) l) tok))(hl:l=bI t):a22 P (.conv .str x) env h (.v (.string t)) h:=fun K hk=>by
 subst hl;simp only[aop,hx,wv,d6w];refine⟨t.data.toList,by simp only[Z4,bI,List.map_map];rfl,?_⟩
 have:(⟨t.data.toList.toArray⟩:ByteArray)=t:=by
  apply ByteArray.ext;apply Array.ext';simp
 rw[this];exact hk
end
def vs(P:Program)(I:A7->Prop):Bool->List E8->Env->A7->(Env->A7->Prop)->Prop
 |_,[],env,h,K=>K env h
 |b,o::r,env,h,K=>
  (a0i env o.guard=some false/\vs P I b r (c0r env o.dst) h K)\/
  (a0i env o.guard=some true/\a68 o.op=true/\∃av,(∀h2,I h2->d86 P o.op env h2 av)/\vs P I b r (c1g env o.dst av) h K)\/
  (a0i env o.guard=some true/\a68 o.op=false/\d12 o=false/\∃av h',a22 P o.op env h av h'/\I h'/\vs P I false r (c1g env o.dst av) h' K)\/
  (b=true/\∃cells,o.op=.alloc cells/\o.guard=none/\vs P I b r (c1g env o.dst (.ptr h.blks.length 0)) ⟨h.blks++[some cells],h.bufs,h.globs⟩ K)
def e6y(P:Program)(I:A7->Prop)(F:Env)(hs:List A7)(j:Nat)(o:E8):Option Nat->Prop
 |some n=>∃av h1 h2,hs[n - j]? =some h1/\hs[n - j+1]? =some h2/\aop P o.op F h1 (fun a b=>a=av/\b=h2)/\∀d,o.dst=some d->get F d=some av
 |none=>∃av,(∀h2,I h2->d86 P o.op F h2 av)/\∀d,o.dst=some d->get F d=some av
def GF(F:Env)(D S:Prop):Option (Nat × Bool)->Prop
 |none=>D
 |some (t,want)=>(∃b,get F t=some (.v (.bool b))/\(b=want->D)/\(b≠want->S))\/(get F t=some (.tuple [])/\S)
def e7h(P:Program)(I:A7->Prop)(F:Env)(hs:List A7)(j:Nat)(o:E8)(n:Option Nat):Prop:=
 GF F (e6y P I F hs j o n) (n=none/\∀d,o.dst=some d->get F d=some (.tuple [])) o.guard
structure g02(P:Program)(I:A7->Prop)(l:List E8)(env F:Env)(cur h':A7)(i0:Nat)(az:List (Nat × List AV))(hs:List A7)(fl:List (Option Nat))(j:Nat):Prop where
 len:fl.length=l.length
 first:hs[0]? =some ⟨cur.blks++az.map (fun p=>some p.2),cur.bufs,cur.globs⟩
 last:∃n,hs.length=n+1/\hs[n]? =some h'
 bound:∀i n:Nat,fl[i]? =some (some n)->j<=n/\n+1<j+hs.length
 mono:∀i k a b:Nat,i<k->fl[i]? =some (some a)->fl[k]? =some (some b)->a<b
 onto:∀n:Nat,j<=n->n+1<j+hs.length->∃i:Nat,fl[i]? =some (some n)
 keep:∀t,R0 t l=false->get F t=get env t
 pos:∀(q:Nat) (p:Nat × List AV),az[q]? =some p->∃i o,p.1=i0+i/\l[i]? =some o/\o.op=.alloc p.2/\o.guard=none/\fl[i]? =some none/\∀d,o.dst=some d->get F d=some (.ptr (cur.blks.length+q) 0)
 incr:∀(q r:Nat) (p s:Nat × List AV),q<r->az[q]? =some p->az[r]? =some s->p.1<s.1
 inv:∀(m:Nat) hm,0<m->hs[m]? =some hm->I hm
 chg:∀(i n:Nat) (o:E8),fl[i]? =some (some n)->l[i]? =some o->a68 o.op=false/\d12 o=false
 fact:∀(i:Nat) (o:E8) (n:Option Nat),l[i]? =some o->fl[i]? =some n->(∃(q:Nat) (p:Nat × List AV),az[q]? =some p/\p.1=i0+i)\/e7h P I F hs j o n
theorem d3h{F env:Env}{g:Option (Nat × Bool)}{D S:Prop}(hg:a0i env g=some true)(hl:∀t w,g=some (t,w)->get F t=get env t)(hD:D):GF F D S g:=by
 cases g with
 |none=>exact hD
 |some p=>
  obtain⟨t,want⟩:=p;simp only[a0i,Option.bind_eq_some_iff]at hg;obtain⟨v,h1,h2⟩:=hg;split at h2
  ·rename_i b;simp only[Option.some.injEq,beq_iff_eq]at h2;exact .inl ⟨b,by rw[hl t want rfl];exact h1,fun _=>hD,fun hn=>absurd h2 hn⟩
  ·cases h2
  ·cases h2
theorem e4y{F env:Env}{g:Option (Nat × Bool)}{D S:Prop}(hg:a0i env g=some false)(hl:∀t w,g=some (t,w)->get F t=get env t)(hS:S):GF F D S g:=by
 cases g with
 |none=>simp[a0i]at hg
 |some p=>
  obtain⟨t,want⟩:=p;simp only[a0i,Option.bind_eq_some_iff]at hg;obtain⟨v,h1,h2⟩:=hg;split at h2
  ·rename_i b;simp only[Option.some.injEq,beq_eq_false_iff_ne]at h2;exact .inl ⟨b,by rw[hl t want rfl];exact h1,fun h=>absurd h h2,fun _=>hS⟩
  ·exact .inr ⟨by rw[hl t want rfl];exact h1,hS⟩
  ·cases h2
theorem c6w{P:Program}{I:A7->Prop}:∀{l:List E8}{b:Bool}{env:Env}{cur:A7}{i0 j:Nat}{K:Env->A7->Prop},okq l=true->vs P I b l env cur K->∃F az hs fl h',g02 P I l env F cur h' i0 az hs fl j/\K F h'/\(b=false->az=[])
 |[],b,env,cur,i0,j,K,_,hk=>⟨env,[],[cur],[],cur,⟨rfl,by simp,⟨0,rfl,rfl⟩,fun i n hi=>by simp at hi,fun i k a b _ hi=>by simp at hi,fun n h1 h2=>by simp at h2;omega,fun _ _=>rfl,fun q p hq=>by simp at hq,fun q r p s _ hq=>by simp at hq,fun m hm h0 h1=>by cases m<;>simp at h0 h1,fun i n o hi=>by simp at hi,fun i o n hi=>by simp at hi⟩,hk,fun _=>rfl⟩
 |o::r,b,env,cur,i0,j,K,hok,hv=>by
  have hok0:=hok;simp only[okq,Bool.and_eq_true,List.all_eq_true]at hok;obtain⟨⟨hlook,hdst⟩,hokr⟩:=hok
  have hwr:∀t,R0 t (o::r)=false->o.dst≠some t/\R0 t r=false:=by
   intro t ht;simp only[R0,List.any_cons,Bool.or_eq_false_iff]at ht ⊢;exact⟨by simpa using ht.1,ht.2⟩
  have hd:∀d,o.dst=some d->R0 d r=false:=by
   intro d hd;rw[hd]at hdst;simpa using hdst
  have hl:∀(F:Env),(∀t,R0 t (o::r)=false->get F t=get env t)->∀t∈o.looks,get F t=get env t:=fun F hF t ht=>hF t (by simpa using hlook t ht)
  have hcong:∀(F:Env),(∀t,R0 t (o::r)=false->get F t=get env t)->∀(h:A7) (K:AV->A7->Prop),aop P o.op env h K->aop P o.op F h K:=by
   intro F hF h K hq;rw[<-d1a (e1:=env) (e2:=F)]
   ·exact hq
   ·intro x hx;cases x with
    |c a=>rfl
    |t n=>
     refine(hl F hF n ?_).symm;simp only[E8.looks,List.mem_append,List.mem_filterMap];exact .inl ⟨.t n,hx,rfl⟩
  have hgl:∀(F:Env),(∀t,R0 t (o::r)=false->get F t=get env t)->∀t w,o.guard=some (t,w)->get F t=get env t:=fun F hF t w hg=>hl F hF t (by simp[E8.looks,hg])
  -- an operation that leaves the heap
  have still:∀(env' F:Env) (az:List (Nat × List AV)) (hs:List A7) (fl:List (Option Nat)) (h':A7),g02 P I r env' F cur h' (i0+1) az hs fl j->(∀t,o.dst≠some t->get env' t=get env t)->((∀t,R0 t (o::r)=false->get F t=get env t)->e7h P I F hs j o none)->g02 P I (o::r) env F cur h' i0 az hs (none::fl) j:=by
   intro env' F az hs fl h' hp henv hf
   have hF:∀t,R0 t (o::r)=false->get F t=get env t:=fun t ht=>by
    obtain⟨h1,h2⟩:=hwr t ht;rw[hp.keep t h2,henv t h1]
   refine⟨by simp[hp.len],hp.first,hp.last,fun i n hi=>?_,fun i k a b hik hi hk=>?_,fun n h1 h2=>?_,hF,fun q p hqp=>?_,hp.incr,hp.inv,fun i n o' hi ho=>?_,fun i o' n hi hn=>?_⟩
   ·cases i with
    |zero=>simp at hi
    |succ i=>exact hp.bound i n (by simpa using hi)
   ·cases i with
    |zero=>simp at hi
    |succ i=>cases k with
     |zero=>omega
     |succ k=>exact hp.mono i k a b (by omega) (by simpa using hi) (by simpa using hk)
   ·obtain⟨i,hi⟩:=hp.onto n h1 h2;exact⟨i+1,by simpa using hi⟩
   ·obtain⟨i,o',e1,e2,e3⟩:=hp.pos q p hqp;exact⟨i+1,o',by omega,by simpa using e2,by simpa using e3⟩
   ·cases i with
    |zero=>simp at hi
    |succ i=>exact hp.chg i n o' (by simpa using hi) (by simpa using ho)
   ·cases i with
    |zero=>simp at hi hn;subst hi hn;exact .inr (hf hF)
    |succ i=>
     rcases hp.fact i o' n (by simpa using hi) (by simpa using hn) with⟨q,p,e1,e2⟩|h
     ·exact .inl ⟨q,p,e1,by omega⟩
     ·exact .inr h
  have hputF:∀(av:AV) (F:Env),(∀t,R0 t r=false->get F t=get (c1g env o.dst av) t)->∀d,o.dst=some d->get F d=some av:=fun av F hF d hd'=>by rw[hF d (hd d hd'),b1z,if_pos hd']
  rcases hv with⟨hg,hv⟩|⟨hg,hq,av,ha,hv⟩|⟨hg,hq,hnew,av,h1,ha,hI,hv⟩|⟨hb,cells,hop,hgd,hv⟩
  ·obtain⟨F,az,hs,fl,h',hp,hk,has⟩:=c6w (i0:=i0+1) (j:=j) hokr hv;refine⟨F,az,hs,none::fl,h',still _ F az hs fl h' hp (fun t ht=>by rw[b3b,if_neg ht]) fun hF=>?_,hk,has⟩;exact e4y hg (hgl F hF) ⟨rfl,fun d hd'=>by rw[hp.keep d (hd d hd'),b3b,if_pos hd']⟩
  ·obtain⟨F,az,hs,fl,h',hp,hk,has⟩:=c6w (i0:=i0+1) (j:=j) hokr hv;refine⟨F,az,hs,none::fl,h',still _ F az hs fl h' hp (fun t ht=>by rw[b1z,if_neg ht]) fun hF=>?_,hk,has⟩;exact d3h hg (hgl F hF) ⟨av,fun h2 hi=>hcong F hF h2 _ (ha h2 hi),hputF av F hp.keep⟩
  ·obtain⟨F,az,hs,fl,h',hp,hk,has⟩:=c6w (i0:=i0+1) (j:=j+1) hokr hv;have has0:=has rfl;subst has0
   have hF:∀t,R0 t (o::r)=false->get F t=get env t:=fun t ht=>by
    obtain⟨g1,g2⟩:=hwr t ht;rw[hp.keep t g2,b1z,if_neg g1]
   have hfirst:hs[0]? =some h1:=by rw[hp.first];simp
   obtain⟨nl,hnl,hlast⟩:=hp.last;refine⟨F,[],cur::hs,some j::fl,h',⟨by simp[hp.len],by simp,⟨nl+1,by simp[hnl],by simpa using hlast⟩,fun i n hi=>?_,fun i k a b hik hi hk=>?_,fun n h1 h2=>?_,hF,fun q p hqp=>by simp at hqp,fun q r p s _ hqp=>by simp at hqp,fun m hm h0 hmm=>?_,fun i n o' hi ho=>?_,fun i o' n hi hn=>?_⟩,hk,fun _=>rfl⟩
   ·cases i with
    |zero=>simp at hi;subst hi;exact⟨Nat.le_refl _,by simp;omega⟩
    |succ i=>have:=hp.bound i n (by simpa using hi);simp;omega
   ·cases i with
    |zero=>
     simp at hi;cases k with
     |zero=>omega
     |succ k=>have:=(hp.bound k b (by simpa using hk)).1;omega
    |succ i=>cases k with
     |zero=>omega
     |succ k=>exact hp.mono i k a b (by omega) (by simpa using hi) (by simpa using hk)
   ·by_cases hnj:n=j
    ·subst hnj;exact⟨0,rfl⟩
    ·obtain⟨i,hi⟩:=hp.onto n (by omega) (by simp at h2;omega);exact⟨i+1,by simpa using hi⟩
   ·cases m with
    |zero=>omega
    |succ m=>
     cases m with
     |zero=>simp only[Nat.zero_add,List.getElem?_cons_succ]at hmm;rw[hfirst]at hmm;cases hmm;exact hI
     |succ m=>exact hp.inv (m+1) hm (by omega) (by simpa using hmm)
   ·cases i with
    |zero=>simp at hi ho;subst ho;exact⟨hq,hnew⟩
    |succ i=>exact hp.chg i n o' (by simpa using hi) (by simpa using ho)
   ·cases i with
    |zero=>
     simp at hi hn;subst hi hn;refine .inr (d3h hg (hgl F hF) ⟨av,cur,h1,by simp,by simpa using hfirst,hcong F hF _ _ (ha _ ⟨rfl,rfl⟩),hputF av F hp.keep⟩)
    |succ i=>
     rcases hp.fact i o' n (by simpa using hi) (by simpa using hn) with⟨q,p,e1,e2⟩|h
     ·simp at e1
     ·refine .inr ?_
      have up:e6y P I F hs (j+1) o' n->e6y P I F (cur::hs) j o' n:=by
       intro hdo;cases n with
       |none=>exact hdo
       |some n=>
        have hb:=(hp.bound i n (by simpa using hn)).1;obtain⟨av',g1,g2,e1,e2,e3⟩:=hdo;have q1:n - j=(n - (j+1))+1:=by omega
        exact⟨av',g1,g2,by rw[q1];simpa using e1,by rw[q1];simpa using e2,e3⟩
      unfold e7h at h ⊢;cases hgd:o'.guard with
      |none=>rw[hgd]at h;exact up h
      |some g=>
       rw[hgd]at h;rcases h with⟨b',q1,q2,q3⟩|h
       ·exact .inl ⟨b',q1,fun hb'=>up (q2 hb'),q3⟩
       ·exact .inr h
  ·obtain⟨F,az,hs,fl,h',hp,hk,has⟩:=c6w (i0:=i0+1) (j:=j) hokr hv
   have hF:∀t,R0 t (o::r)=false->get F t=get env t:=fun t ht=>by
    obtain⟨g1,g2⟩:=hwr t ht;rw[hp.keep t g2,b1z,if_neg g1]
   refine⟨F,(i0,cells)::az,hs,none::fl,h',⟨by simp[hp.len],by rw[hp.first];simp,hp.last,fun i n hi=>?_,fun i k a b hik hi hk=>?_,fun n h1 h2=>?_,hF,fun q p hqp=>?_,fun q s p t hqs hqp hst=>?_,hp.inv,fun i n o' hi ho=>?_,fun i o' n hi hn=>?_⟩,hk,fun h=>by rw[hb]at h;cases h⟩
   ·cases i with
    |zero=>simp at hi
    |succ i=>exact hp.bound i n (by simpa using hi)
   ·cases i with
    |zero=>simp at hi
    |succ i=>cases k with
     |zero=>omega
     |succ k=>exact hp.mono i k a b (by omega) (by simpa using hi) (by simpa using hk)
   ·obtain⟨i,hi⟩:=hp.onto n h1 h2;exact⟨i+1,by simpa using hi⟩
   ·cases q with
    |zero=>
     simp at hqp;subst hqp;refine⟨0,o,rfl,rfl,hop,hgd,rfl,fun d hd'=>?_⟩;rw[hputF _ F hp.keep d hd'];simp
    |succ q=>
     obtain⟨i,o',e1,e2,e3,e4,e5,e6⟩:=hp.pos q p (by simpa using hqp);refine⟨i+1,o',by omega,by simpa using e2,e3,e4,by simpa using e5,fun d hd'=>?_⟩;rw[e6 d hd'];simp;omega
   ·cases s with
    |zero=>omega
    |succ s=>
     obtain⟨i,o',e1,_⟩:=hp.pos s t (by simpa using hst);cases q with
     |zero=>simp at hqp;subst hqp;simp;omega
     |succ q=>exact hp.incr q s p t (by omega) (by simpa using hqp) (by simpa using hst)
   ·cases i with
    |zero=>simp at hi
    |succ i=>exact hp.chg i n o' (by simpa using hi) (by simpa using ho)
   ·cases i with
    |zero=>simp at hi;subst hi;exact .inl ⟨0,_,rfl,by simp⟩
    |succ i=>
     rcases hp.fact i o' n (by simpa using hi) (by simpa using hn) with⟨q,p,e1,e2⟩|h
     ·exact .inl ⟨q+1,p,by simpa using e1,by omega⟩
     ·exact .inr h
def d9v(ord:List (List Nat))(al:List E8):Bool:=
 (List.range al.length).all fun k=>match al[k]? with
  |some o=> !c0k o||(List.range al.length).all fun i=>match al[i]? with
   |some p=>(!(c0k p&&decide (i<k))||(ord.getD k []).contains i)&&(!d12 p||(ord.getD k []).contains i)
   |none=>true
  |none=>true
theorem d68{ord:List (List Nat)}{al:List E8}(h:d9v ord al=true){k i:Nat}{o p:E8}(hk:al[k]? =some o)(hi:al[i]? =some p)(hc:c0k o=true):
  (c0k p=true->i<k->i∈ord.getD k [])/\(d12 p=true->i∈ord.getD k []):=by
 simp only[d9v,List.all_eq_true,List.mem_range]at h;have h1:=h k (List.getElem?_eq_some_iff.1 hk).1;rw[hk]at h1;simp only[hc,Bool.not_true,Bool.false_or,List.all_eq_true,List.mem_range]at h1;have h2:=h1 i (List.getElem?_eq_some_iff.1 hi).1;rw[hi]at h2;simp only[Bool.and_eq_true,Bool.or_eq_true,Bool.not_eq_true',Bool.and_eq_false_iff,decide_eq_false_iff_not,List.contains_iff_mem]at h2;refine⟨fun a b=>?_,fun a=>?_⟩
 ·rcases h2.1 with(h3|h3)|h3
  ·rw[a]at h3;cases h3
  ·exact absurd b h3
  ·exact h3
 ·rcases h2.2 with h3|h3
  ·rw[a]at h3;cases h3
  ·exact h3
theorem g1f{P:Program}{I:A7->Prop}{ord:List (List Nat)}{al:List E8}{env:Env}{h:A7}{K:Env->A7->Prop}(hok:okq al=true)(hst:d9v ord al=true)(hI:∀h2:A7,(∃ext,h2.blks=h.blks++ext)->h2.bufs=h.bufs->h2.globs=h.globs->I h2)(hv:vs P I true al env h K):
  ∃F h' az hs fl,f0a P ord al env F h h' az hs fl/\K F h':=by
 obtain⟨F,az,hs,fl,h',ps,hk,_⟩:=c6w (i0:=0) (j:=0) hok hv;refine⟨F,h',az,hs,fl,?_,hk⟩;obtain⟨nl,hnl,hlast⟩:=ps.last
 have hget:∀k n:Nat,fl[k]? =some (some n)->∃o,al[k]? =some o/\c0k o=true:=by
  intro k n hkn;have hkl:k<al.length:=by rw[<-ps.len];exact(List.getElem?_eq_some_iff.1 hkn).1
  have ho:al[k]? =some al[k]:=List.getElem?_eq_getElem hkl;obtain⟨h1,h2⟩:=ps.chg k n _ hkn ho;exact⟨_,ho,by unfold c0k;rw[h1,h2];rfl⟩
 have hpos:∀(q:Nat) (p:Nat × List AV),az[q]? =some p->∃o,al[p.1]? =some o/\d12 o=true/\o.op=.alloc p.2/\o.guard=none/\fl[p.1]? =some none/\∀d,o.dst=some d->get F d=some (.ptr (h.blks.length+q) 0):=by
  intro q p hqp;obtain⟨i,o,e1,e2,e3,e4,e5,e6⟩:=ps.pos q p hqp;have:p.1=i:=by omega
  rw[this];exact⟨o,e2,by unfold d12;rw[e3,e4],e3,e4,e5,e6⟩
 refine⟨ps.len,fun i k a b hik hi hk=>⟨ps.mono i k a b hik hi hk,?_⟩,fun j hj=>ps.onto j (by omega) (by omega),?_,ps.last,fun i n hi=>by have:=ps.bound i n hi;omega,ps.keep,fun q p hqp=>?_,fun q r p s hqp hrs hps=>?_,fun k n hk p hp=>?_,fun i o n hi hn=>?_⟩
 ·obtain⟨o1,h1,h2⟩:=hget i a hi;obtain⟨o2,h3,h4⟩:=hget k b hk;exact(d68 hst h3 h1 h4).1 h2 hik
 ·rw[ps.first];simp[hA]
 ·obtain⟨o,e1,_,e2⟩:=hpos q p hqp;exact⟨o,e1,e2⟩
 ·rcases Nat.lt_trichotomy q r with hlt|heq|hgt
  ·have:=ps.incr q r p s hlt hqp hrs;omega
  ·exact heq
  ·have:=ps.incr r q s p hgt hrs hqp;omega
 ·obtain⟨o2,h3,h4⟩:=hget k n hk;obtain⟨q,hq⟩:=List.mem_iff_getElem?.1 hp;obtain⟨o,e1,e2,_⟩:=hpos q p hq;exact(d68 hst h3 e1 h4).2 e2
 ·rcases ps.fact i o n hi hn with⟨q,p,e1,e2⟩|hf
  ·exact .inl ⟨q,p,e1,by omega⟩
  right
  have conv:e6y P I F hs 0 o n->e6b P F h az hs ord fl i o n:=by
   intro hd;cases n with
   |some n=>obtain⟨av,h1,h2,e1,e2,e3⟩:=hd;exact⟨av,h1,h2,by simpa using e1,by simpa using e2,e3⟩
   |none=>
    obtain⟨av,hqa,hfd⟩:=hd;refine⟨av,0,hs.length - 1,by omega,fun j lst hj _ _ h3=>hqa hj ?_,fun k n _ h=>by omega,.inl (by omega),hfd⟩;cases j with
    |zero=>
     have:hA h az lst=hj:=Option.some.inj h3;subst this;exact hI _ ⟨_,rfl⟩ rfl rfl
    |succ j=>exact ps.inv (j+1) hj (by omega) h3
  unfold e6l;unfold e7h at hf;cases hgd:o.guard with
  |none=>rw[hgd]at hf;simp only[hgd];exact conv hf
  |some g=>
   obtain⟨t,want⟩:=g;rw[hgd]at hf;simp only[hgd];rcases hf with⟨b,h1,h2,h3⟩|hf
   ·exact .inl ⟨b,h1,fun hb=>conv (h2 hb),h3⟩
   ·exact .inr hf
def InS(S:List (Nat × List AV))(gl:List (Nat × List AV))(h:A7):Prop:=(∀b c,(b,c)∈S->h.blks[b]? =some (some c))/\h.globs=gl
def inS(S:List (Nat × List AV))(h:A7):List (Option (Option (List AV))):=S.map fun p=>h.blks[p.1]?
theorem f1s{S gl:List (Nat × List AV)}{h:A7}(h1:inS S h=S.map fun p=>some (some p.2))(h2:h.globs=gl):InS S gl h:=by
 refine⟨fun b c hbc=>?_,h2⟩;obtain⟨i,hi⟩:=List.mem_iff_getElem?.1 hbc;have:=congrArg (fun l=>l[i]?) h1;simpa[inS,List.getElem?_map,hi]using this
def Sp(P:Program)(S gl:List (Nat × List AV))(b:Bool)(L:List E8)(k:Nat)(env:Env)(h:A7)(K:Env->A7->Prop):Prop:=vs P (InS S gl) b (L.drop k) env h K
def e3p:Nat->List (Nat × List AV)->List (Option (List AV))
 |0,_=>[]
 |n+1,S=>e3p n S++[(S.find? fun p=>p.1==n).map (·.2)]
theorem c9m:∀(n:Nat) (S:List (Nat × List AV)),(e3p n S).length=n
 |0,_=>rfl
 |n+1,S=>by simp[e3p,c9m n S]
theorem e3l:∀(n:Nat) (S:List (Nat × List AV)) (k:Nat) (c:List AV),(e3p n S)[k]? =some (some c)->(k,c)∈S
 |0,_,k,c,h=>by simp[e3p]at h
 |n+1,S,k,c,h=>by
  by_cases hk:k<n
  ·refine e3l n S k c ?_;rw[e3p,List.getElem?_append_left (by rw[c9m];exact hk)]at h;exact h
  ·rw[e3p,List.getElem?_append_right (by rw[c9m];omega),c9m]at h
   by_cases he:k=n
   ·subst he;simp only[Nat.sub_self,List.getElem?_cons_zero,Option.some.injEq,Option.map_eq_some_iff]at h;obtain⟨p,h1,rfl⟩:=h;have h2:=List.find?_some h1;have h3:=List.mem_of_find?_eq_some h1;have:p.1=k:=by simpa using h2
    subst this;exact h3
   ·rw[List.getElem?_eq_none (by simp;omega)]at h;cases h
theorem d9n{S gl:List (Nat × List AV)}{n:Nat}{h:A7}(hi:InS S gl h){m:Option Nat}{p a:AV}(hl:c12 ⟨e3p n S,[],gl⟩ m p=some a):c12 h m p=some a:=by
 have hp:∀q,a76 ⟨e3p n S,[],gl⟩ p=some q->a76 h p=some q:=by
  intro q hq;cases p with
  |ptr k off=>
   simp only[a76]at hq ⊢;split at hq
   ·rename_i cells hc;rw[hi.1 k cells (e3l n S k cells hc)];exact hq
   ·cases hq
  |glob k=>simp only[a76]at hq ⊢;rw[hi.2];exact hq
  |elt c o=>exact hq
  |_=>simp[a76]at hq
 unfold c12 at hl ⊢;cases hq:a76 ⟨e3p n S,[],gl⟩ p with
 |none=>rw[hq]at hl;cases hl
 |some q=>rw[hq]at hl;rw[hp q hq];exact hl
theorem f2r{P:Program}{n:Nat}{S gl:List (Nat × List AV)}{o:AOp}{env:Env}{a:AV}{h1:A7}(hq:a68 o=true)(he:e8b false noC o env ⟨e3p n S,[],gl⟩=some (a,h1)):∀h2,InS S gl h2->d86 P o env h2 a:=by
 intro h2 hi;have hsame:h1=⟨e3p n S,[],gl⟩:=e3x (fun f args h a h' he=>by cases he) hq he;subst hsame
 by_cases hp:d7r o=true
 ·exact d83 hp (e0k (K:=fun x y=>x=a/\y=_) e8a he ⟨rfl,rfl⟩)
 ·cases o<;>first|(exact absurd rfl hp)|(cases hq;done)|skip
  case load m x=>
   simp only[e8b,Option.bind_eq_some_iff]at he;obtain⟨p,h1,h3⟩:=he;obtain⟨h4,_⟩:=E6 h3;show wv (x.ev env) _;rw[h1];exact c6l (K:=fun x=>x=a/\h2=h2) (d9n hi h4) ⟨rfl,rfl⟩
  case call f args=>
   simp only[e8b,Option.bind_eq_some_iff]at he;obtain⟨fv,h1,l,h3,h4⟩:=he;split at h4<;>cases h4
section
variable {P:Program}{h h':A7}{env:Env}{N:Nat}{Q:Exit->Env->A7->Prop}{K:Env->A7->Prop}{L:List E8}{k:Nat}{S gl:List (Nat × List AV)}{b:Bool}
theorem d2f{I:A7->Prop}{K:Env->A7->Prop}(hK:c78 K):∀{l:List E8}{b:Bool}{e env:Env}{h:A7},c4s e env->vs P I b l e h K->vs P I b l env h K
 |[],b,e,env,h,he,hv=>hK e env h he hv
 |o::r,b,e,env,h,he,hv=>by
  rcases hv with⟨hg,hv⟩|⟨hg,hq,av,ha,hv⟩|⟨hg,hq,hn,av,h',ha,hi,hv⟩|⟨hb,cells,ho,hg,hv⟩
  ·exact .inl ⟨he.guard hg,d2f hK (he.drop _) hv⟩
  ·exact .inr (.inl ⟨he.guard hg,hq,av,fun h2 hi=>d4u he (ha h2 hi),d2f hK (he.put _ _) hv⟩)
  ·exact .inr (.inr (.inl ⟨he.guard hg,hq,hn,av,h',ha.less he,hi,d2f hK (he.put _ _) hv⟩))
  ·exact .inr (.inr (.inr ⟨hb,cells,ho,hg,d2f hK (he.put _ _) hv⟩))
theorem f3x(S:List (Nat × List AV)){ord:List (List Nat)}{al tl:List E8}(hok:okq al=true)(hst:d9v (clo ord) al=true)(hS:inS S h=S.map fun p=>some (some p.2))(hv:Sp P S h.globs true al 0 env h fun F h'=>vd P tl F h' fun env' h'=>Q .normal env' h'):C P N (.drawn ord al tl) Q env h:=by
 have hv':vs P (InS S h.globs) true al env h fun F h'=>vd P tl F h' fun env' h'=>Q .normal env' h':=hv
 obtain⟨F,h',az,hs,fl,hn,hk⟩:=g1f hok hst (fun h2 ⟨ext,he⟩ _ hgl=>⟨fun b c hbc=>by
  have:=(f1s hS rfl:InS S h.globs h).1 b c hbc;rw[he,List.getElem?_append_left (List.getElem?_eq_some_iff.1 this).1];exact this,hgl⟩) hv'
 exact⟨d02 hn (c6f hk)⟩
end
mutual
def low(m:List Bool)(n:Nat):AV->Bool
 |.v _=>true
 |.ptr k _=>m.getD k false
 |.elt cells _=>lowL m n cells
 |.nil=>true
 |.sl els tok=>(match tok with|.own id=>decide (id<n)|_=>true)&&lowLL m n els
 |.agg cells=>lowL m n cells
 |.tuple vs=>lowL m n vs
 |.iface _ x=>low m n x
 |.clo _ first captured=>lowL m n first&&lowL m n captured
 |.glob _=>true
 |.row k _ _ _ _=>m.getD k false
 |.it _ _=>true
def lowL(m:List Bool)(n:Nat):List AV->Bool
 |[]=>true
 |a::r=>low m n a&&lowL m n r
def lowLL(m:List Bool)(n:Nat):List (List AV)->Bool
 |[]=>true
 |a::r=>lowL m n a&&lowLL m n r
end
mutual
theorem d8n(m:List Bool)(n:Nat):∀a,plain a=true->low m n a=true
 |.v _,_=>rfl
 |.ptr _ _,h=>by cases h
 |.elt cells _,h=>by simp only[plain,low]at h ⊢;exact lowL_plain m n cells h
 |.nil,_=>rfl
 |.sl els tok,h=>by
  simp only[plain,low,Bool.and_eq_true]at h ⊢;refine⟨?_,lowLL_plain m n els h.2⟩;cases tok<;>first|rfl|(simp at h)
 |.agg cells,h=>by simp only[plain,low]at h ⊢;exact lowL_plain m n cells h
 |.tuple cells,h=>by simp only[plain,low]at h ⊢;exact lowL_plain m n cells h
 |.iface _ x,h=>by simp only[plain,low]at h ⊢;exact d8n m n x h
 |.clo _ a b,h=>by simp only[plain,low,Bool.and_eq_true]at h ⊢;exact⟨lowL_plain m n a h.1,lowL_plain m n b h.2⟩
 |.glob _,_=>rfl
 |.row _ _ _ _ _,h=>by cases h
 |.it _ _,h=>by cases h
theorem lowL_plain(m:List Bool)(n:Nat):∀l,plainL l=true->lowL m n l=true
 |[],_=>rfl
 |a::r,h=>by simp only[plainL,lowL,Bool.and_eq_true]at h ⊢;exact⟨d8n m n a h.1,lowL_plain m n r h.2⟩
theorem lowLL_plain(m:List Bool)(n:Nat):∀l,plainLL l=true->lowLL m n l=true
 |[],_=>rfl
 |a::r,h=>by simp only[plainLL,lowLL,Bool.and_eq_true]at h ⊢;exact⟨lowL_plain m n a h.1,lowLL_plain m n r h.2⟩
end
theorem a5d{m:List Bool}{n:Nat}:∀{l:List AV},lowL m n l=true->∀(i:Nat) (av:AV),l[i]? =some av->low m n av=true
 |[],_,i,av,h=>by simp at h
 |a::r,hp,i,av,h=>by
  simp only[lowL,Bool.and_eq_true]at hp;cases i with
  |zero=>simp at h;subst h;exact hp.1
  |succ i=>exact a5d hp.2 i av (by simpa using h)
theorem c3f{m:List Bool}{n:Nat}:∀{l:List (List AV)},lowLL m n l=true->∀(i:Nat) (el:List AV),l[i]? =some el->lowL m n el=true
 |[],_,i,av,h=>by simp at h
 |a::r,hp,i,av,h=>by
  simp only[lowLL,Bool.and_eq_true]at hp;cases i with
  |zero=>simp at h;subst h;exact hp.1
  |succ i=>exact c3f hp.2 i av (by simpa using h)
def Sg.cut(σ:Sg)(m:List Bool)(n:Nat):Sg:={σ with blk:=fun k=>if m.getD k false=true then σ.blk k else none,buf:=fun id=>if id<n then σ.buf id else none}
theorem d4t{σ:Sg}{m:List Bool}{n b o:Nat}(h:(σ.cut m n).own b o):σ.own b o:=by
 rcases h with⟨k,hk⟩|⟨id,e,he,hs⟩
 ·simp only[Sg.cut]at hk;split at hk
  ·exact .inl ⟨k,hk⟩
  ·cases hk
 ·simp only[Sg.cut]at he;split at he
  ·exact .inr ⟨id,e,he,hs⟩
  ·cases he
theorem d5e{σ:Sg}{m:List Bool}{n b o:Nat}(h:(σ.cut m n).open_ b o):σ.open_ b o:=h.elim .inl fun h=>.inr (d4t h)
theorem Rel.cut{σ:Sg}{m:List Bool}{n:Nat}{av:AV}{x:Value}(hr:Rel σ av x):low m n av=true->Rel (σ.cut m n) av x:=by
 induction hr with
 |v x h=>intro _;exact .v x h
 |ptr k off b h=>intro hl;exact .ptr k off b (by simp only[Sg.cut];rw[if_pos (by simpa[low]using hl)];exact h)
 |elt cells off b o xs hc hr ih=>
  intro hl;exact .elt cells off b o xs (fun i av hi=>⟨(hc i av hi).1,fun h=>(hc i av hi).2.1 (d5e h),(hc i av hi).2.2⟩) fun i av hi=>ih i av hi (a5d (by simpa[low]using hl) i av hi)
 |nil=>intro _;exact .nil
 |glob k=>intro _;exact .glob k
 |row k off size len capm b cap h hc hm hx=>intro hl;exact .row k off size len capm b cap (by simp only[Sg.cut];rw[if_pos (by simpa[low]using hl)];exact h) hc hm hx
 |sl0 tok ht=>
  intro hl;refine .sl0 tok ?_;cases tok with
  |own id=>
   obtain⟨e,h1,h2⟩:=ht;refine⟨e,?_,h2⟩;simp only[low,Bool.and_eq_true,decide_eq_true_eq]at hl;simp only[Sg.cut];rw[if_pos hl.1];exact h1
  |_=>exact ht
 |slx tok a cap ht hc=>
  intro hl;refine .slx tok a cap ?_ hc;cases tok with
  |own id=>
   obtain⟨e,h1,h2⟩:=ht;refine⟨e,?_,h2⟩;simp only[low,Bool.and_eq_true,decide_eq_true_eq]at hl;simp only[Sg.cut];rw[if_pos hl.1];exact h1
  |_=>exact ht
 |sl els tok b o cap size xs hs hcap ht hz hc hr ih=>
  intro hl;simp only[low,Bool.and_eq_true]at hl;refine .sl els tok b o cap size xs hs hcap ?_ (fun id e h1 h2=>?_) (fun i el hi j av hj=>⟨(hc i el hi j av hj).1,fun h=>(hc i el hi j av hj).2.1 (d5e h),(hc i el hi j av hj).2.2⟩) fun i el hi j av hj=>ih i el hi j av hj (a5d (c3f hl.2 i el hi) j av hj)
  ·cases tok with
   |own id=>
    obtain⟨e,h1,h2⟩:=ht;refine⟨e,?_,h2⟩;simp only[Sg.cut];rw[if_pos (by simpa using hl.1)];exact h1
   |_=>exact ht
  ·simp only[Sg.cut]at h2;split at h2
   ·exact hz id e h1 h2
   ·cases h2
 |agg cells xs hn hc x hx hr ih=>intro hl;exact .agg cells xs hn hc x hx fun i av hi=>ih i av hi (a5d (by simpa[low]using hl) i av hi)
 |tuple vs xs hn x hx hr ih=>intro hl;exact .tuple vs xs hn x hx fun i av hi=>ih i av hi (a5d (by simpa[low]using hl) i av hi)
 |iface t av x h ih=>intro hl;exact .iface t av x (ih (by simpa[low]using hl))
 |clo fn first captured fs cs hn hm x y hx hy hr hq ih1 ih2=>
  intro hl;simp only[low,Bool.and_eq_true]at hl;exact .clo fn first captured fs cs hn hm x y hx hy (fun i av hi=>ih1 i av hi (a5d hl.1 i av hi)) fun i av hi=>ih2 i av hi (a5d hl.2 i av hi)
theorem F3.cut{σ:Sg}{m:List Bool}{n:Nat}{cells:List AV}{vs:List Value}(hc:F3 σ cells vs)(hl:lowL m n cells=true):F3 (σ.cut m n) cells vs:=by
 refine⟨hc.1,fun i av hi=>?_⟩;obtain⟨h1,x,h2,h3⟩:=hc.2 i av hi;exact⟨h1,x,h2,h3.cut (a5d hl i av hi)⟩
def a7y(m:List Bool)(n:Nat):Env->Bool
 |[]=>true
 |(_,a)::e=>low m n a&&a7y m n e
def a4l(m:List Bool)(n:Nat):List (Option (List AV))->Bool
 |[]=>true
 |some c::r=>lowL m n c&&a4l m n r
 |none::r=>a4l m n r
theorem c30{m:List Bool}{n:Nat}:∀{e:Env}{t:Nat}{a:AV},a7y m n e=true->get e t=some a->low m n a=true
 |[],_,_,_,h=>by cases h
 |(u,b)::e,t,a,hl,h=>by
  simp only[a7y,Bool.and_eq_true]at hl;simp only[get]at h;split at h
  ·cases h;exact hl.1
  ·exact c30 hl.2 h
theorem d51{m:List Bool}{n:Nat}:∀{l:List (Option (List AV))}{i:Nat}{c:List AV},a4l m n l=true->l[i]? =some (some c)->lowL m n c=true
 |[],_,_,_,h=>by simp at h
 |o::r,i,c,hl,h=>by
  cases i with
  |zero=>simp at h;subst h;simp only[a4l,Bool.and_eq_true]at hl;exact hl.1
  |succ i=>
   refine d51 (l:=r) (i:=i) ?_ (by simpa using h);cases o with
   |none=>exact hl
   |some c'=>simp only[a4l,Bool.and_eq_true]at hl;exact hl.2
def a0e:List Bool->List (Option (List AV))->List (Option (List AV))
 |b::m,x::l=>(if b=true then x else none)::a0e m l
 |_,_=>[]
theorem b20:∀{m:List Bool}{l:List (Option (List AV))}{k:Nat}{c:List AV},(a0e m l)[k]? =some (some c)->m.getD k false=true/\l[k]? =some (some c)
 |[],l,k,c,h=>by simp[a0e]at h
 |b::m,[],k,c,h=>by simp[a0e]at h
 |b::m,x::l,k,c,h=>by
  cases k with
  |zero=>
   simp only[a0e,List.getElem?_cons_zero,Option.some.injEq]at h;split at h
   ·rename_i hb;subst h;exact⟨hb,rfl⟩
   ·cases h
  |succ k=>exact b20 (m:=m) (l:=l) (k:=k) (by simpa[a0e]using h)
theorem d58:∀{m:List Bool}{l:List (Option (List AV))}{k:Nat}{c:List AV},m.getD k false=true->l[k]? =some (some c)->(a0e m l)[k]? =some (some c)
 |[],l,k,c,h,_=>by simp at h
 |b::m,[],k,c,_,h=>by simp at h
 |b::m,x::l,k,c,h1,h2=>by
  cases k with
  |zero=>
   have h1':b=true:=h1;simp only[List.getElem?_cons_zero,Option.some.injEq]at h2;simp[a0e,h1',h2]
  |succ k=>simpa[a0e]using d58 (m:=m) (l:=l) (k:=k) (by simpa using h1) (by simpa using h2)
theorem Inv.cut{σ:Sg}{h:A7}(hi:Inv h σ)(m:List Bool)(n:Nat)(hb:a4l m n (a0e m h.blks)=true)(hg:X1 h.globs=true):Inv ⟨a0e m h.blks,h.bufs.take n,h.globs⟩ (σ.cut m n):=by
 have hblk:∀{k b:Nat},(σ.cut m n).blk k=some b->m.getD k false=true/\σ.blk k=some b:=by
  intro k b hk;simp only[Sg.cut]at hk;split at hk
  ·rename_i h1;exact⟨h1,hk⟩
  ·cases hk
 have hbuf:∀{k:Nat}{e:Buf},(σ.cut m n).buf k=some e->k<n/\σ.buf k=some e:=by
  intro k b hk;simp only[Sg.cut]at hk;split at hk
  ·rename_i h1;exact⟨h1,hk⟩
  ·cases hk
 refine⟨fun k cells hk=>?_,fun k b hk=>?_,fun k l b c c' hk hl hc hc' h1 h2=>?_,fun id c hc=>?_,fun id e he=>?_,fun id e he=>hi.bufle id e (hbuf he).2,fun id e b o he hs=>hi.bufat id e b o (hbuf he).2 hs,fun i j e f b o he hf h1 h2=>hi.bufinj i j e f b o (hbuf he).2 (hbuf hf).2 h1 h2,fun id e k b o he hs hk=>hi.bufblk id e k b o (hbuf he).2 hs (hblk hk).2,fun b o ho=>⟨(hi.outer b o ho).1,fun h=>(hi.outer b o ho).2 (d4t h)⟩,fun g cells hgl=>?_⟩
 ·obtain⟨h1,h2⟩:=b20 hk;obtain⟨b,h3,h4⟩:=hi.blk k cells h2;refine⟨b,by simp only[Sg.cut];rw[if_pos h1];exact h3,?_⟩;have hlow:=d51 hb hk;cases h4 with
  |cells _ cs rest elem h5 h6=>exact .cells cells cs rest elem h5 (h6.cut hlow)
  |it s p h5=>exact .it s p h5
 ·obtain⟨h1,h2⟩:=hblk hk;obtain⟨c,h3⟩:=hi.dom k b h2;exact⟨c,d58 h1 h3⟩
 ·exact hi.inj k l b c c' (b20 hk).2 (b20 hl).2 hc hc' (hblk h1).2 (hblk h2).2
 ·rw[List.getElem?_take]at hc;split at hc
  ·rename_i h1;obtain⟨e,h2,h3⟩:=hi.buf id c hc;exact⟨e,by simp only[Sg.cut];rw[if_pos h1];exact h2,h3⟩
  ·cases hc
 ·obtain⟨h1,h2⟩:=hbuf he;rw[List.getElem?_take,if_pos h1];exact hi.bufdom id e h2
 ·exact(hi.glob g cells hgl).cut (by simp only[low];exact lowL_plain m n cells (List.all_eq_true.1 hg _ hgl))
def Low(σ:Sg)(kb kf:Nat):Prop:=(∀k b,σ.blk k=some b->k<kb)/\∀id e,σ.buf id=some e->id<kf
theorem Le.cut{σ0 σ:Sg}{kb kf n:Nat}{m:List Bool}(hle:Le σ0 σ)(hl:Low σ0 kb kf)(hm:∀k,k<kb->m.getD k false=true)(hn:kf<=n):Le σ0 (σ.cut m n) where
 blk k b hk:=by
  simp only[Sg.cut];rw[if_pos (hm k (hl.1 k b hk))];exact hle.blk k b hk
 buf id e he:=by
  obtain⟨e',h1,h2⟩:=hle.buf id e he;exact⟨e',by simp only[Sg.cut];rw[if_pos (by have:=hl.2 id e he;omega)];exact h1,h2⟩
 outer:=hle.outer
 cell:=hle.cell
 ext:=hle.ext
 whole:=hle.whole
 own b o hb ho:=hle.own b o hb (d4t ho)
 size:=hle.size
 os:=hle.os
 tape:=hle.tape
 output:=hle.output
structure D(P:Program)(N kb kf:Nat)(x:W2)(Q:Exit->Env->A7->Prop)(env:Env)(h:A7):Prop where
 out:∀c,D0 P N c=some x->∀(σ0 σ:Sg) (a:Act),St σ h env N a->Le σ0 σ->Low σ0 kb kf->c.wp P (c08 σ0 N Q) a σ.w
structure DL(P:Program)(N kb kf:Nat)(x:W2)(Q:Exit->Env->A7->Prop)(env:Env)(h:A7):Prop where
 out:∀c,D0 P N c=some x->∀(σ0 σ:Sg) (a:Act),St σ h env N a->Le σ0 σ->Low σ0 kb kf->e0b P c (c08 σ0 N Q) a σ.w
def h8a(P:Program)(c rest:Code)(Q:Exit->Act->World->Prop)(a:Act)(w:World):Prop:=∀b k cs,∃e a' w',Q e a' w'/\Arrives P (lone (b.at a (.code rest::.inScope c::k)) cs w) b k cs e a' w'
structure DG(P:Program)(N kb kf:Nat)(x:W2)(l:Nat)(Q:Exit->Env->A7->Prop)(env:Env)(h:A7):Prop where
 out:∀c rest,D0 P N c=some x->findLabel c l=some rest->∀(σ0 σ:Sg) (a:Act),St σ h env N a->Le σ0 σ->Low σ0 kb kf->h8a P c rest (c08 σ0 N Q) a σ.w
section
variable {P:Program}{h h':A7}{env env':Env}{N kb kf:Nat}{Q:Exit->Env->A7->Prop}{x y:W2}
theorem c7e(hx:C P N x Q env h):D P N kb kf x Q env h:=⟨fun c hc σ0 σ a hs hle hl=>Code.wp_mono (fun e a' w hh=>hh.up hle) (hx.out c hc σ a hs)⟩
theorem Inv.low{σ:Sg}(hi:Inv h σ)(h1:h.blks.length<=kb)(h2:h.bufs.length<=kf):Low σ kb kf:=by
 refine⟨fun k b hk=>?_,fun id e he=>?_⟩
 ·have:=hi.name hk;omega
 ·have:=(List.getElem?_eq_some_iff.1 (hi.bufdom id e he)).1;omega
theorem c4q(h1:h.blks.length<=kb)(h2:h.bufs.length<=kf)(hx:D P N kb kf x Q env h):d9j P N x Q env h:=fun c hc σ a hs=>hx.out c hc σ σ a hs (Le.refl σ) (hs.inv.low h1 h2)
theorem g3k{gl:List (Nat × List AV)}{f:FuncId}{ac:W2}{rs:List c09}(hf:b4o P f=some (N,ac,rs)){args:List AV}{r:AV}{e₀:Env}(hn:args.length<=N)(he:c17 0 args=e₀)
  (hbody:D P N 0 0 ac (g3t rs r) e₀ ⟨[],[],gl⟩):B8 P gl f args r:=g1e hf hn he ⟨c4q (Nat.le_refl _) (Nat.le_refl _) hbody⟩
theorem f4w{ops:List E8}(hv:V P ops env h fun env' h'=>Q .normal env' h'):D P N kb kf (.region ops) Q env h:=c7e (f5v hv)
theorem f4d(S:List (Nat × List AV)){ord:List (List Nat)}{al tl:List E8}(hok:okq al=true)(hst:d9v (clo ord) al=true)(hS:inS S h=S.map fun p=>some (some p.2))(hv:Sp P S h.globs true al 0 env h fun F h'=>vd P tl F h' fun env' h'=>Q .normal env' h'):D P N kb kf (.drawn ord al tl) Q env h:=c7e (f3x S hok hst hS hv)
theorem e8v(hq:Q .normal env h):D P N kb kf .skip Q env h:=c7e (g32 hq)
theorem g7g{id:Nat}(hq:Q (.exit id) env h):D P N kb kf (.exit id) Q env h:=c7e (g4f hq)
theorem f4f(hq:Q .ret env h):D P N kb kf .ret Q env h:=c7e (g94 hq)
theorem f90{l:Nat}(hq:Q .normal env h):D P N kb kf (.label l) Q env h:=c7e (g3h hq)
theorem g8h{l:Nat}(hq:Q (.goto l) env h):D P N kb kf (.goto l) Q env h:=c7e (g7w hq)
theorem d97(hg:∀(σ:Sg) (a:Act),St σ h env N a->∃σ' h' env',σ'.w=σ.w/\Le σ σ'/\St σ' h' env' N a/\D P N kb kf x Q env' h'):D P N kb kf x Q env h:=⟨by
 intro c hc σ0 σ a hs hle hl;obtain⟨σ',h',env',hw,l1,s1,hx⟩:=hg σ a hs;rw[<-hw];exact hx.out c hc σ0 σ' a s1 (hle.trans l1) hl⟩
theorem e3o(hg:∀(σ:Sg) (a:Act),St σ h env N a->∃σ' h' env',σ'.w=σ.w/\Le σ σ'/\St σ' h' env' N a/\DL P N kb kf x Q env' h'):DL P N kb kf x Q env h:=⟨by
 intro c hc σ0 σ a hs hle hl;obtain⟨σ',h',env',hw,l1,s1,hx⟩:=hg σ a hs;rw[<-hw];exact hx.out c hc σ0 σ' a s1 (hle.trans l1) hl⟩
theorem f4h{l:Nat}(hg:∀(σ:Sg) (a:Act),St σ h env N a->∃σ' h' env',σ'.w=σ.w/\Le σ σ'/\St σ' h' env' N a/\DG P N kb kf x l Q env' h'):DG P N kb kf x l Q env h:=⟨by
 intro c rest hc hr σ0 σ a hs hle hl;obtain⟨σ',h',env',hw,l1,s1,hx⟩:=hg σ a hs;rw[<-hw];exact hx.out c rest hc hr σ0 σ' a s1 (hle.trans l1) hl⟩
theorem f88{t:Nat}(size:Nat)(hg:get env t=some .nil){σ:Sg}{a:Act}(hs:St σ h env N a):∃σ',σ'.w=σ.w/\Le σ σ'/\St σ' ⟨h.blks,h.bufs++[(0,size)],h.globs⟩ ((t,.sl [] (.own h.bufs.length))::env) N a:=by
 obtain⟨σ1,w1,l1,i1,b1⟩:=c9i hs.inv ⟨0,size,none,0⟩ rfl (fun _=>rfl);refine⟨σ1,w1,l1,i1,?_,hs.size,hs.defers⟩;intro u av hu;simp only[get]at hu;split at hu
 ·rename_i htu;subst htu;cases hu;obtain⟨y,h1,h2⟩:=hs.env t _ hg;cases h2;exact⟨_,h1,.sl0 _ ⟨_,b1,Nat.le_refl _,fun _=>⟨rfl,rfl⟩⟩⟩
 ·exact(hs.env.mono l1) u av hu
theorem h27{t:Nat}(size:Nat)(hg:get env t=some .nil)(hx:D P N kb kf x Q ((t,.sl [] (.own h.bufs.length))::env) ⟨h.blks,h.bufs++[(0,size)],h.globs⟩):D P N kb kf x Q env h:=d97 fun σ a hs=>by
 obtain⟨σ',h1,h2,h3⟩:=f88 size hg hs;exact⟨σ',_,_,h1,h2,h3,hx⟩
theorem f17{k j:Nat}(size:Nat){cells:List AV}(hk:h.blks[k]? =some (some cells))(hj:cells[j]? =some .nil){σ:Sg}{a:Act}(hs:St σ h env N a):∃σ',σ'.w=σ.w/\Le σ σ'/\St σ' ⟨h.blks.set k (some (cells.set j (.sl [] (.own h.bufs.length)))),h.bufs++[(0,size)],h.globs⟩ env N a:=by
 obtain⟨σ1,w1,l1,i1,b1⟩:=c9i hs.inv ⟨0,size,none,0⟩ rfl (fun _=>rfl);refine⟨σ1,w1,l1,?_,hs.env.mono l1,hs.size,hs.defers⟩;obtain⟨b,hb,hat⟩:=i1.blk k cells hk;have hkl:k<h.blks.length:=(List.getElem?_eq_some_iff.1 hk).1;have hjl:j<cells.length:=(List.getElem?_eq_some_iff.1 hj).1
 have hat':b04 σ1 b (cells.set j (.sl [] (.own h.bufs.length))):=by
  cases hat with
  |cells _ cs rest elem h5 h6=>
   refine .cells _ cs rest elem h5 ⟨by rw[h6.1];simp,fun i av hi=>?_⟩;rw[List.getElem?_set]at hi;split at hi
   ·rename_i hij;subst hij;cases hi;obtain⟨_,y,h7,h8⟩:=h6.2 j _ hj;cases h8;exact⟨rfl,_,h7,.sl0 _ ⟨_,b1,Nat.le_refl _,fun _=>⟨rfl,rfl⟩⟩⟩
   ·exact h6.2 i av hi
  |it s p h5=>
   cases j with
   |zero=>simp at hj
   |succ j=>simp at hj
 have hne:∀c,(cells.set j (.sl [] (.own h.bufs.length))=c)->c≠[]:=by
  rintro c rfl he;have:=congrArg List.length he;simp at this;subst this;simp at hjl
 refine⟨fun n c hn=>?_,fun n b' hn=>?_,fun n m b' c c' hn hm hc hc' h1 h2=>?_,i1.buf,i1.bufdom,i1.bufle,i1.bufat,i1.bufinj,i1.bufblk,i1.outer,i1.glob⟩
 ·rw[List.getElem?_set]at hn;split at hn
  ·rename_i hkn;subst hkn;cases hn;exact⟨b,hb,hat'⟩
  ·exact i1.blk n c hn
 ·obtain⟨c,hc⟩:=i1.dom n b' hn;rw[List.getElem?_set];split
  ·rename_i hkn;exact⟨_,rfl⟩
  ·exact⟨c,hc⟩
 ·have old:∀{n:Nat}{c:List AV},(h.blks.set k (some (cells.set j (.sl [] (.own h.bufs.length)))))[n]? =some (some c)->c≠[]->∃d,h.blks[n]? =some (some d)/\d≠[]:=by
   intro n c hn hc;rw[List.getElem?_set]at hn;split at hn
   ·rename_i hkn;subst hkn;exact⟨cells,hk,by rintro rfl;simp at hj⟩
   ·exact⟨c,hn,hc⟩
  obtain⟨d,hd,hd0⟩:=old hn hc;obtain⟨d',hd',hd0'⟩:=old hm hc';exact i1.inj n m b' d d' hd hd' hd0 hd0' h1 h2
theorem g6z{k j:Nat}{cells:List AV}{av b:AV}(hk:h.blks[k]? =some (some cells))(hj:cells[j]? =some av)(hav:nz1 av=b)(hit:a8n cells=true)(hit2:a8n (cells.set j b)=true){σ:Sg}{a:Act}(hs:St σ h env N a):St σ ⟨h.blks.set k (some (cells.set j b)),h.bufs,h.globs⟩ env N a:=by
 subst hav;have i1:=hs.inv;refine⟨?_,hs.env,hs.size,hs.defers⟩;obtain⟨b,hb,hat⟩:=i1.blk k cells hk;have hjl:j<cells.length:=(List.getElem?_eq_some_iff.1 hj).1;have hkl:k<h.blks.length:=(List.getElem?_eq_some_iff.1 hk).1
 have hat':b04 σ b (cells.set j (nz1 av)):=by
  cases hat with
  |cells _ cs rest elem h5 h6=>
   refine .cells _ cs rest elem h5 ⟨by rw[h6.1];simp,fun i av' hi=>?_⟩;rw[List.getElem?_set]at hi;split at hi
   ·rename_i hij;subst hij;cases hi;obtain⟨h1,y,h7,h8⟩:=h6.2 j _ hj;exact⟨by rw[e3s];exact h1,y,h7,h8.nz1⟩
   ·exact h6.2 i av' hi
  |it s p h5=>cases hit
 refine⟨fun n c hn=>?_,fun n b' hn=>?_,fun n m b' c c' hn hm hc hc' h1 h2=>?_,i1.buf,i1.bufdom,i1.bufle,i1.bufat,i1.bufinj,i1.bufblk,i1.outer,i1.glob⟩
 ·rw[List.getElem?_set]at hn;split at hn
  ·rename_i hkn;subst hkn;cases hn;exact⟨b,hb,hat'⟩
  ·exact i1.blk n c hn
 ·obtain⟨c,hc⟩:=i1.dom n b' hn;rw[List.getElem?_set];split
  ·rename_i hkn;subst hkn;exact⟨_,rfl⟩
  ·exact⟨c,hc⟩
 ·have old:∀{n:Nat}{c:List AV},(h.blks.set k (some (cells.set j (nz1 av))))[n]? =some (some c)->c≠[]->∃d,h.blks[n]? =some (some d)/\d≠[]:=by
   intro n c hn hc;rw[List.getElem?_set]at hn;split at hn
   ·rename_i hkn;subst hkn;exact⟨cells,hk,by rintro rfl;simp at hj⟩
   ·exact⟨c,hn,hc⟩
  obtain⟨d,hd,hd0⟩:=old hn hc;obtain⟨d',hd',hd0'⟩:=old hm hc';exact i1.inj n m b' d d' hd hd' hd0 hd0' h1 h2
theorem d9k(m:List Bool)(n:Nat){σ0 σ:Sg}{a:Act}(hs:St σ h env N a)(hle:Le σ0 σ)(hl:Low σ0 kb kf)(hm:∀k,k<kb->m.getD k false=true)(hn:kf<=n)(he:a7y m n env=true)(hb:a4l m n (a0e m h.blks)=true)(hg:X1 h.globs=true):
  St (σ.cut m n) ⟨a0e m h.blks,h.bufs.take n,h.globs⟩ env N a/\Le σ0 (σ.cut m n):=
 ⟨⟨hs.inv.cut m n hb hg,fun t av ht=>by obtain⟨y,h1,h2⟩:=hs.env t av ht;exact⟨y,h1,h2.cut (c30 he ht)⟩,hs.size,hs.defers⟩,hle.cut hl hm hn⟩
theorem g2k(m:List Bool)(n:Nat)(hm:∀k,k<kb->m.getD k false=true)(hn:kf<=n)(he:a7y m n env=true)(hb:a4l m n (a0e m h.blks)=true)(hg:X1 h.globs=true)(hx:DL P N kb kf x Q env ⟨a0e m h.blks,h.bufs.take n,h.globs⟩):DL P N kb kf x Q env h:=⟨by
 intro c hc σ0 σ a hs hle hl;obtain⟨h1,h2⟩:=d9k m n hs hle hl hm hn he hb hg;exact hx.out c hc σ0 (σ.cut m n) a h1 h2 hl⟩
theorem g3e{l:Nat}(m:List Bool)(n:Nat)(hm:∀k,k<kb->m.getD k false=true)(hn:kf<=n)(he:a7y m n env=true)(hb:a4l m n (a0e m h.blks)=true)(hg:X1 h.globs=true)(hx:DG P N kb kf x l Q env ⟨a0e m h.blks,h.bufs.take n,h.globs⟩):DG P N kb kf x l Q env h:=⟨by
 intro c rest hc hr σ0 σ a hs hle hl;obtain⟨h1,h2⟩:=d9k m n hs hle hl hm hn he hb hg;exact hx.out c rest hc hr σ0 (σ.cut m n) a h1 h2 hl⟩
theorem g7e(m:List Bool)(n:Nat)(hm:∀k,k<kb->m.getD k false=true)(hn:kf<=n)(he:a7y m n env=true)(hb:a4l m n (a0e m h.blks)=true)(hg:X1 h.globs=true)(hx:D P N kb kf x Q env ⟨a0e m h.blks,h.bufs.take n,h.globs⟩):D P N kb kf x Q env h:=⟨by
 intro c hc σ0 σ a hs hle hl;obtain⟨h1,h2⟩:=d9k m n hs hle hl hm hn he hb hg;exact hx.out c hc σ0 (σ.cut m n) a h1 h2 hl⟩
theorem g17{c:Code}(hc:D0 P N c=some (.seq x y)):∃cx cy,c=.seq cx cy/\D0 P N cx=some x/\D0 P N cy=some y:=by
 cases c<;>(try simp only[D0,Option.bind_eq_some_iff,Option.map_eq_some_iff]at hc)
 case seq cx cy=>obtain⟨x',hx',y',hy',he⟩:=hc;cases he;exact⟨cx,cy,rfl,hx',hy'⟩
 case region id ops d=>
  cases d<;>simp only[D0,Option.bind_eq_some_iff,Option.map_eq_some_iff]at hc
  ·obtain⟨_,_,hx⟩:=hc;cases hx
  ·obtain⟨_,_,_,_,hx⟩:=hc;split at hx<;>cases hx
 all_goals first
  |(cases hc;done)
  |(obtain⟨_,_,hx⟩:=hc;cases hx;done)
  |(obtain⟨_,_,_,_,hx⟩:=hc;cases hx;done)
  |(obtain⟨_,_,_,_,_,_,hx⟩:=hc;cases hx;done)
theorem f1k{c:Code}{id:Nat}(hc:D0 P N c=some (.block id x)):∃cx,c=.block id cx/\D0 P N cx=some x:=by
 cases c<;>(try simp only[D0,Option.bind_eq_some_iff,Option.map_eq_some_iff]at hc)
 case block i cx=>obtain⟨x',hx',he⟩:=hc;cases he;exact⟨cx,rfl,hx'⟩
 case region id ops d=>
  cases d<;>simp only[D0,Option.bind_eq_some_iff,Option.map_eq_some_iff]at hc
  ·obtain⟨_,_,hx⟩:=hc;cases hx
  ·obtain⟨_,_,_,_,hx⟩:=hc;split at hx<;>cases hx
 all_goals first
  |(cases hc;done)
  |(obtain⟨_,_,hx⟩:=hc;cases hx;done)
  |(obtain⟨_,_,_,_,hx⟩:=hc;cases hx;done)
  |(obtain⟨_,_,_,_,_,_,hx⟩:=hc;cases hx;done)
theorem f40{c:Code}(hc:D0 P N c=some (.loop x)):∃cx,c=.loop cx/\D0 P N cx=some x:=by
 cases c<;>(try simp only[D0,Option.bind_eq_some_iff,Option.map_eq_some_iff]at hc)
 case loop cx=>obtain⟨x',hx',he⟩:=hc;cases he;exact⟨cx,rfl,hx'⟩
 case region id ops d=>
  cases d<;>simp only[D0,Option.bind_eq_some_iff,Option.map_eq_some_iff]at hc
  ·obtain⟨_,_,hx⟩:=hc;cases hx
  ·obtain⟨_,_,_,_,hx⟩:=hc;split at hx<;>cases hx
 all_goals first
  |(cases hc;done)
  |(obtain⟨_,_,hx⟩:=hc;cases hx;done)
  |(obtain⟨_,_,_,_,hx⟩:=hc;cases hx;done)
  |(obtain⟨_,_,_,_,_,_,hx⟩:=hc;cases hx;done)
theorem e1b(hx:D P N kb kf x (e9e (fun e h=>D P N kb kf y Q e h) Q) env h):D P N kb kf (.seq x y) Q env h:=⟨by
 intro c hc σ0 σ a hs hle hl;obtain⟨cx,cy,rfl,hcx,hcy⟩:=g17 hc;refine wp_seq (Code.wp_mono (fun e a' w' hh=>?_) (hx.out cx hcx σ0 σ a hs hle hl));obtain⟨h1,σ2,h2,env2,rfl,q2,q3,q4⟩:=hh;cases e with
 |normal=>exact q4.out cy hcy σ0 σ2 a' q3 q2 hl
 |panic _=>exact h1.elim
 |outgrown=>exact h1.elim
 |exit _=>exact⟨trivial,σ2,h2,env2,rfl,q2,q3,q4⟩
 |goto _=>exact⟨trivial,σ2,h2,env2,rfl,q2,q3,q4⟩
 |ret=>exact⟨trivial,σ2,h2,env2,rfl,q2,q3,q4⟩⟩
theorem f55{id:Nat}(hx:D P N kb kf x (d57 id Q) env h):D P N kb kf (.block id x) Q env h:=⟨by
 intro c hc σ0 σ a hs hle hl;obtain⟨cx,rfl,hcx⟩:=f1k hc;refine wp_block (Code.wp_mono (fun e a' w' hh=>?_) (hx.out cx hcx σ0 σ a hs hle hl));obtain⟨h1,σ2,h2,env2,rfl,q2,q3,q4⟩:=hh;cases e with
 |panic _=>exact h1.elim
 |outgrown=>exact h1.elim
 |normal=>exact⟨trivial,σ2,h2,env2,rfl,q2,q3,q4⟩
 |goto _=>exact⟨trivial,σ2,h2,env2,rfl,q2,q3,q4⟩
 |ret=>exact⟨trivial,σ2,h2,env2,rfl,q2,q3,q4⟩
 |exit i=>
  simp only[d57]at q4;simp only[Exit.inBlock];split
  ·rename_i hi;rw[if_pos hi]at q4;exact⟨trivial,σ2,h2,env2,rfl,q2,q3,q4⟩
  ·rename_i hi;rw[if_neg hi]at q4;exact⟨trivial,σ2,h2,env2,rfl,q2,q3,q4⟩⟩
theorem g3o(hx:DL P N kb kf x Q env h):D P N kb kf (.loop x) Q env h:=⟨by
 intro c hc σ0 σ a hs hle hl;obtain⟨cx,rfl,hcx⟩:=f40 hc;exact f5s (hx.out cx hcx σ0 σ a hs hle hl)⟩
theorem f0g(hx:D P N kb kf x (e9e (fun e h=>DL P N kb kf x Q e h) Q) env h):DL P N kb kf x Q env h:=⟨by
 intro c hc σ0 σ a hs hle hl;refine d8r (Code.wp_mono (fun e a' w' hh=>?_) (hx.out c hc σ0 σ a hs hle hl));obtain⟨h1,σ2,h2,env2,q1,q2,q3,q4⟩:=hh;cases e with
 |panic _=>exact h1.elim
 |outgrown=>exact h1.elim
 |normal=>subst q1;exact q4.out c hc σ0 σ2 a' q3 q2 hl
 |goto _=>exact⟨trivial,σ2,h2,env2,q1,q2,q3,q4⟩
 |ret=>exact⟨trivial,σ2,h2,env2,q1,q2,q3,q4⟩
 |exit i=>exact⟨trivial,σ2,h2,env2,q1,q2,q3,q4⟩⟩
theorem e1f{c:L5}{b:Bool}(hc:c.ev env=some (.v (.bool b)))(h1:b=true->D P N kb kf x Q env h)(h2:b=false->D P N kb kf y Q env h):D P N kb kf (.cond c x y) Q env h:=⟨by
 intro cc hcc σ0 σ a hs hle hl;cases cc<;>(try simp only[D0,Option.bind_eq_some_iff,Option.map_eq_some_iff]at hcc)
 case cond co cx cy=>
  obtain⟨c',hc',x',hx',y',hy',he⟩:=hcc;cases he;obtain⟨av,hr,hk⟩:=opd (K:=fun v=>v=.v (.bool b)) hs.env hc' (by rw[hc];rfl);subst hk;generalize hce:a.eval co=ce at hr;cases hr with
  |v _ _=>
  cases b with
  |true=>exact wp_cond_true hce ((h1 rfl).out cx hx' σ0 σ a hs hle hl)
  |false=>exact wp_cond_false hce ((h2 rfl).out cy hy' σ0 σ a hs hle hl)
 case region id ops d=>
  cases d<;>simp only[D0,Option.bind_eq_some_iff,Option.map_eq_some_iff]at hcc
  ·obtain⟨_,_,hx⟩:=hcc;cases hx
  ·obtain⟨_,_,_,_,hx⟩:=hcc;split at hx<;>cases hx
 all_goals first
  |(cases hcc;done)
  |(obtain⟨_,_,hx⟩:=hcc;cases hx;done)
  |(obtain⟨_,_,_,_,hx⟩:=hcc;cases hx;done)
  |(obtain⟨_,_,_,_,_,_,hx⟩:=hcc;cases hx;done)⟩
theorem f3f{c:L5}{b:Bool}(hc:c.ev env=some (.v (.bool b)))(hb:b=true)(h1:D P N kb kf x Q env h):D P N kb kf (.cond c x y) Q env h:=e1f hc (fun _=>h1) (fun h=>by rw[hb]at h;cases h)
theorem e26{c:L5}{b:Bool}(hc:c.ev env=some (.v (.bool b)))(hb:b=false)(h1:D P N kb kf y Q env h):D P N kb kf (.cond c x y) Q env h:=e1f hc (fun h=>by rw[hb]at h;cases h) (fun _=>h1)
theorem f4s{l:Nat}{rest:W2}(hf:b9s x l=some rest)(hx:D P N kb kf x (g2e l (fun e h=>DG P N kb kf x l Q e h) Q) env h):D P N kb kf (.scope x) Q env h:=⟨by
 intro c hc σ0 σ a hs hle hl;obtain⟨c',rfl,hc'⟩:=d7c hc;obtain⟨r,hr,hrc⟩:=(e3t l hc').1 rest hf;intro b k cs;have hg:gotoIn l (.inScope c'::k)=some (.code r::.inScope c'::k):=by simp[gotoIn,hr]
 obtain⟨e,a₁,w₁,hq,harr⟩:=hx.out c' hc' σ0 σ a hs hle hl b (.inScope c'::k) cs;obtain⟨h1,σ2,h2,env2,rfl,q2,q3,q4⟩:=hq;cases e with
 |normal=>exact⟨.normal,a₁,_,⟨trivial,σ2,h2,env2,rfl,q2,q3,q4⟩,.head step_scope (Steps.trans harr (.one step_inScope))⟩
 |exit id=>exact⟨.exit id,a₁,_,⟨trivial,σ2,h2,env2,rfl,q2,q3,q4⟩,fun k' hk=>.head step_scope (harr k' (by simp[exitTo,hk]))⟩
 |goto l'=>
  obtain⟨rfl,hJ⟩:=q4;obtain⟨e₂,a₂,w₂,hq₂,harr₂⟩:=hJ.out c' r hc' hr σ0 σ2 a₁ q3 q2 hl b k cs;exact⟨e₂,a₂,w₂,hq₂,.of_steps (.head step_scope (harr _ hg)) harr₂⟩
 |ret=>exact⟨_,a₁,_,⟨trivial,σ2,h2,env2,rfl,q2,q3,q4⟩,.of_steps (.one step_scope) harr⟩
 |panic ch=>exact h1.elim
 |outgrown=>exact h1.elim⟩
theorem e7z{l:Nat}{rest:W2}(hf:b9s x l=some rest)(hx:D P N kb kf rest (g2e l (fun e h=>DG P N kb kf x l Q e h) Q) env h):DG P N kb kf x l Q env h:=⟨by
 intro c' r0 hc' hr0 σ0 σ a hs hle hl;obtain⟨r,hr,hrc⟩:=(e3t l hc').1 rest hf;obtain rfl:r=r0:=by rw[hr]at hr0;exact Option.some.inj hr0
 intro b k cs;have hg:gotoIn l (.inScope c'::k)=some (.code r::.inScope c'::k):=by simp[gotoIn,hr]
 obtain⟨e,a₁,w₁,hq,harr⟩:=hx.out r hrc σ0 σ a hs hle hl b (.inScope c'::k) cs;obtain⟨h1,σ2,h2,env2,rfl,q2,q3,q4⟩:=hq;cases e with
 |normal=>exact⟨.normal,a₁,_,⟨trivial,σ2,h2,env2,rfl,q2,q3,q4⟩,Steps.trans harr (.one step_inScope)⟩
 |exit id=>exact⟨.exit id,a₁,_,⟨trivial,σ2,h2,env2,rfl,q2,q3,q4⟩,fun k' hk=>harr k' (by simp[exitTo,hk])⟩
 |goto l'=>
  obtain⟨rfl,hJ⟩:=q4;obtain⟨e₂,a₂,w₂,hq₂,harr₂⟩:=hJ.out c' r hc' hr σ0 σ2 a₁ q3 q2 hl b k cs;exact⟨e₂,a₂,w₂,hq₂,.of_steps (harr _ hg) harr₂⟩
 |ret=>exact⟨_,a₁,_,⟨trivial,σ2,h2,env2,rfl,q2,q3,q4⟩,harr⟩
 |panic ch=>exact h1.elim
 |outgrown=>exact h1.elim⟩
theorem f3i(hx:D P N kb kf x (f0z Q) env h):D P N kb kf (.scope x) Q env h:=⟨by
 intro c hc σ0 σ a hs hle hl;obtain⟨c',rfl,hc'⟩:=d7c hc;refine wp_scope_straight (Code.wp_mono (fun e a' w' hh=>?_) (hx.out c' hc' σ0 σ a hs hle hl));obtain⟨h1,σ2,h2,env2,rfl,q2,q3,q4⟩:=hh;cases e with
 |panic _=>exact h1.elim
 |outgrown=>exact h1.elim
 |goto _=>exact q4.elim
 |normal=>exact⟨trivial,σ2,h2,env2,rfl,q2,q3,q4⟩
 |ret=>exact⟨trivial,σ2,h2,env2,rfl,q2,q3,q4⟩
 |exit i=>exact⟨trivial,σ2,h2,env2,rfl,q2,q3,q4⟩⟩
end
theorem f8t{P:Program}{o:AOp}{env:Env}{h h':A7}{av:AV}(he:e8b false noC o env h=some (av,h')):a22 P o env h av h':=fun K hk=>e0k e8a he hk
def fz(n:Nat)(cells:List AV):AV->AV
 |.ptr k off=>if k=n then .elt cells off else .ptr k off
 |a=>a
def fzE(n:Nat)(cells:List AV):Env->Env
 |[]=>[]
 |(t,a)::e=>(t,fz n cells a)::fzE n cells e
theorem f18{n:Nat}{cells:List AV}:∀{e:Env}{t:Nat}{b:AV},get (fzE n cells e) t=some b->∃a,get e t=some a/\b=fz n cells a
 |[],_,_,h=>by cases h
 |(u,a)::e,t,b,h=>by
  simp only[fzE,get]at h ⊢;split at h
  ·rename_i hu;rw[if_pos hu];cases h;exact⟨a,rfl,rfl⟩
  ·rename_i hu;rw[if_neg hu];exact f18 h
def c67:List Bool->List (Option (List AV))->Bool
 |b::m,x::l=>(match b,x with|true,some []=>false|_,_=>true)&&c67 m l
 |_,_=>true
theorem c31:∀{m:List Bool}{l:List (Option (List AV))}{k:Nat}{c:List AV},c67 m l=true->m.getD k false=true->l[k]? =some (some c)->c≠[]
 |[],_,_,_,_,h,_=>by simp at h
 |b::m,[],_,_,_,_,h=>by simp at h
 |b::m,x::l,0,c,h,h1,h2=>by
  have h1':b=true:=h1;simp only[List.getElem?_cons_zero,Option.some.injEq]at h2;subst h1' h2;rintro rfl;simp[c67]at h
 |b::m,x::l,k+1,c,h,h1,h2=>by
  simp only[c67,Bool.and_eq_true]at h;exact c31 h.2 (by simpa using h1) (by simpa using h2)
theorem f31{P:Program}{h:A7}{env:Env}{N kb kf:Nat}{Q:Exit->Env->A7->Prop}{x:W2}(n:Nat)(m:List Bool)(k:Nat)(cells:List AV)(hb:h.blks[n]? =some (some cells))(hit:a8n cells=true)(hmn:m.getD n false=false)(hal:c67 m h.blks=true)(hm:∀k,k<kb->m.getD k false=true)(hn:kf<=k)
  {e:Env}(hE:fzE n cells env=e) (he:a7y m k e=true) (hB:a4l m k (a0e m h.blks)=true) (hg:X1 h.globs=true) (hx:D P N kb kf x Q e ⟨a0e m h.blks,h.bufs.take k,h.globs⟩):D P N kb kf x Q env h:=⟨by
 subst hE;intro c hc σ0 σ a hs hle hl;refine hx.out c hc σ0 (σ.cut m k) a ⟨hs.inv.cut m k hB hg,fun t av ht=>?_,hs.size,hs.defers⟩ (hle.cut hl hm hn) hl;have hlow:=c30 he ht;obtain⟨a0,h1,rfl⟩:=f18 ht;obtain⟨y,h2,h3⟩:=hs.env t a0 h1;refine⟨y,h2,?_⟩;cases a0 with
 |ptr j off=>
  simp only[fz]at hlow ⊢;split at hlow
  ·rename_i hj;subst hj;rw[if_pos rfl];cases h3 with
   |ptr _ _ b hblk=>
   obtain⟨b',h4,h5⟩:=hs.inv.blk j cells hb;rw[hblk]at h4;cases h4;cases h5 with
   |it s p h6=>cases hit
   |cells _ cs rest elem h6 h7=>
   have hlc:lowL m k cells=true:=by simpa[low]using hlow
   have key:∀(i:Nat) (av:AV),cells[i]? =some av->∃xv,σ.w.cell? ⟨b,i,none⟩=some xv/\Rel σ av xv/\av.isCell=true:=by
    intro i av hi;obtain⟨q1,xv,q2,q3⟩:=h7.2 i av hi;refine⟨xv,?_,q3,q1⟩;have hlt:i<cs.length:=(List.getElem?_eq_some_iff.1 q2).1;simp[World.cell?,h6,List.getElem?_append_left hlt,q2]
   have hne:cells≠[]:=by rintro rfl;cases hit
   have:=Rel.elt (σ:=σ.cut m k) cells off b 0 (fun i=>(σ.w.cell? ⟨b,i,none⟩).getD undef) (fun i av hi=>by
    obtain⟨xv,q1,q2,q3⟩:=key i av hi;refine⟨by show σ.w.cell? _=_;rw[Nat.zero_add,q1];rfl,?_,q3⟩;rintro (ho|⟨j',hj'⟩|⟨id,eb,he1,he2⟩)
    ·exact(hs.inv.outer _ _ ho).2 (.inl ⟨j,hblk⟩)
    ·simp only[Sg.cut]at hj';split at hj'
     ·rename_i hmj;obtain⟨c',hc'⟩:=hs.inv.dom j' b hj';have:=hs.inv.inj j' j b c' cells hc' hb (c31 hal hmj hc') hne hj' hblk;subst this;rw[hmn]at hmj;cases hmj
     ·cases hj'
    ·simp only[Sg.cut]at he1;split at he1
     ·exact hs.inv.bufblk id eb j b _ he1 he2 hblk
     ·cases he1) (fun i av hi=>by
    obtain⟨xv,q1,q2,q3⟩:=key i av hi;rw[q1];exact q2.cut (a5d hlc i av hi))
   simpa using this
  ·rename_i hj;rw[if_neg hj];exact h3.cut hlow
 |_=>exact h3.cut hlow⟩
theorem g28(a:AV):nz1 (nz1 a)=nz1 a:=by cases a<;>rfl
theorem e9g(a:AV):nzA (nzA a)=nzA a:=by
 cases a with
 |agg cs=>simp only[nzA,List.map_map];congr 1;exact List.map_congr_left fun x _=>g28 x
 |_=>rfl
theorem g4w(a:AV):nz (nz a)=nz a:=by
 cases a with
 |tuple vs=>simp only[nz,List.map_map];congr 1;exact List.map_congr_left fun x _=>e9g x
 |agg cs=>exact e9g (.agg cs)
 |_=>rfl
def a6z(P:Program)(gl:List (Nat × List AV))(f:AV)(args:List AV)(r:AV):Prop:=∃g a b,f=.clo (.func g) a b/\plainL ((a++args++b).map nz)=true/\B8 P gl g ((a++args++b).map nz) r
theorem g3i{P:Program}{h:A7}{env:Env}{f:L5}{args:List L5}{F:AV}{l l':List AV}{r:AV}(hf:f.ev env=some F)(ha:evs env args=some l)(hl:l.map nz=l')(hgl:X1 h.globs=true)(hc:a6z P h.globs F l' r):a22 P (.call f args) env h r h:=by
 obtain⟨g,a,b,rfl,hp,hn⟩:=hc;refine g2a hf ha ?_ hgl hp hn;subst hl;simp only[List.map_append,List.map_map]
 congr 2
 exact List.map_congr_left fun x _=>(g4w x).symm
theorem g8s{P:Program}{h:A7}{env:Env}{x y z:L5}{k k' k'':IntKind}{a b c:Int}(hx:x.ev env=some (.v (.int k a)))(hy:y.ev env=some (.v (.int k' b)))(hz:z.ev env=some (.v (.int k'' c))):a22 P (.minmax true [x,y,z]) env h (.v (.int k (max (max a b) c))) h:=fun K hk=>
 (c9e (l:=[.v (.int k a),.v (.int k' b),.v (.int k'' c)]) (v:=.int k (max (max a b) c)) (by simp[evs,hx,hy,hz]) (by simp only[mmx,if_true];congr 2;(repeat' split)<;>omega) hk).out
theorem g5n{P:Program}{h:A7}{env:Env}{x y z:L5}{k k' k'':IntKind}{a b c:Int}(hx:x.ev env=some (.v (.int k a)))(hy:y.ev env=some (.v (.int k' b)))(hz:z.ev env=some (.v (.int k'' c))):a22 P (.minmax false [x,y,z]) env h (.v (.int k (min (min a b) c))) h:=fun K hk=>
 (c9e (l:=[.v (.int k a),.v (.int k' b),.v (.int k'' c)]) (v:=.int k (min (min a b) c)) (by simp[evs,hx,hy,hz]) (by simp only[mmx,Bool.false_eq_true,if_false];congr 2;(repeat' split)<;>omega) hk).out
theorem A4{a:AV}{r:List AV}(h1:plain a=true)(h2:plainL r=true):plainL (a::r)=true:=by simp only[plainL,h1,h2];rfl
theorem psl{els:List (List AV)}(h:plainLL els=true):plain (.sl els .no)=true:=by simp only[plain,h];rfl
theorem c7q{l:List AV}(h:plainL l=true):plain (.tuple l)=true:=h
theorem f12{h:A7}{e env:Env}{N:Nat}(he:c4s e env){σ:Sg}{a:Act}(hs:St σ h env N a):St σ h e N a:=⟨hs.inv,fun t av hg=>hs.env t av (he t av hg),hs.size,hs.defers⟩
theorem g83{P:Program}{N kb kf:Nat}{x:W2}{Q:Exit->Env->A7->Prop}:c78 fun e h=>D P N kb kf x Q e h:=fun e env h he hx=>d97 fun σ a hs=>⟨σ,h,e,rfl,Le.refl σ,f12 he hs,hx⟩
theorem f6d{P:Program}{N kb kf:Nat}{x:W2}{Q:Exit->Env->A7->Prop}:c78 fun e h=>DL P N kb kf x Q e h:=fun e env h he hx=>e3o fun σ a hs=>⟨σ,h,e,rfl,Le.refl σ,f12 he hs,hx⟩
theorem b8s{e env:Env}(he:c4s e env){h:A7}:∀{rs:List c09}{K:List AV->Prop},d5g e h rs K->d5g env h rs K
 |[],_,hk=>hk
 |.tmp t::r,K,hk=>he.wv (x:=.t t) hk fun a ha=>b8s he ha
 |.cell t n::r,K,hk=>by
  obtain⟨p,h1,h2⟩:=b7v hk;show wv (get env t) _;rw[he t p h1];simp only[wv,b8c]at h2 ⊢;split at h2
  ·split at h2
   ·split at h2
    ·exact b8s he h2
    ·exact h2.elim
   ·exact⟨h2.1,b8s he h2.2⟩
  ·exact h2.elim
theorem e8r{rs:List c09}{r:AV}:c78 fun e h=>g3t rs r .normal e h:=fun e env h he hx=>b8s he hx
end Go.Proofs.YtidmmngcijapcaaGreat.Lift
