/- Part 4 of the texts that prove VerifyDepthEnd. -/
import Derived.Test.YtlcmiciojnnlnaaGreatDoorVerifyDepthEndP2
namespace Go.Proofs.YtlcmiciojnnlnaaGreatDoor.Lift
open Go.RowKit
set_option linter.unusedVariables false
set_option linter.unusedSimpArgs false
set_option linter.unnecessarySimpa false
set_option linter.unusedSectionVars false
set_option maxRecDepth 100000
abbrev T(n:Nat):B9:=.t n
abbrev cb(b:b5n):B9:=.c (.v (.bool b))
abbrev o(d:Nat)(x:I7):C2:=⟨some d,x,none⟩
abbrev og(d:Nat)(x:I7)(t:Nat)(b:b5n):C2:=⟨some d,x,some (t,b)⟩
abbrev on(x:I7):C2:=⟨none,x,none⟩
abbrev mv(n:Nat):I7:=.mv (.t n)
abbrev ln(n t:Nat):I7:=.load (some n) (.t t)
abbrev st(n p x:Nat):I7:=.store n (.t p) (.t x)
abbrev bx(t:Nat):I7:=.box (.t t)
abbrev wI(n:Int):Int:=IntKind.i64.wrap n
abbrev wU(n:Int):Int:=IntKind.u64.wrap n
theorem Wm{env:Env}{t:Nat}{B b:b5n}(hB:B=b)(hg:get env t=some (.v (.bool B))):P9 ((t,.v (.bool b))::env) env:=by
 subst hB;intro u a h;simp only[get]at h;split at h
 ·rename_i hu;subst hu;cases h;exact hg
 ·exact h
def Ah:b5m AV->b5m (b5l (b5l AV))
 |some (.sl els _)=>some els
 |_=>none
theorem FU{x:b5m AV}{els:b5l (b5l AV)}(h:Ah x=some els):∃tok,x=some (.sl els tok):=by
 unfold Ah at h;split at h
 ·cases h;exact⟨_,rfl⟩
 ·cases h
structure B5 where
 fn:FuncId
 fi:List AV
 cap:List AV
 hp:(C3 fi&&C3 cap)=true
theorem V3(g:B5):C3 g.fi:=(b47 _ _▸g.hp).1
theorem V6(g:B5):C3 g.cap:=(b47 _ _▸g.hp).2
theorem Ih(m:b5l b5n)(n:Nat)(g:B5):E0 m n g.fi:=H5 _ _ _ (V3 g)
theorem IL(m:b5l b5n)(n:Nat)(g:B5):E0 m n g.cap:=H5 _ _ _ (V6 g)
theorem Ag(g:B5):plain (.clo (.func g.fn) g.fi g.cap):=g.hp
def Ft(g:B5):b5l AV:=[.clo (.func g.fn) g.fi g.cap]
theorem rE(g:B5):C3 (Ft g):=by simp only[Ft,C3,plain,V3,V6];rfl
theorem X1(l:b5l B5):H9 (l.map Ft):=T1 _ _ λx _=>rE x
section
variable {P:Program}{h h':A3}{env e:Env}{N kb kf:Nat}{Q:Exit->Env->A3->Prop}{K:Env->A3->Prop}{L:b5l C2}{k:Nat}{S gl:b5l (Nat × b5l AV)}{b:b5n}{x y:F7}
theorem vo{o:C2}{av:AV}{d:Nat}(hl:L[k]? =some o)(ha:F3 P o.op env h av h')(hd:o.dst=some d)(hk:Vp P L (k+1) ((d,av)::env) h' K)(hg:M4 env o.guard=some true:=by kernel_rfl):Vp P L k env h K:=wO hl hg ha rfl (by rw[hd];rfl) hk
theorem vn{d:Nat}{x y:B9}{yes:b5n}{α:Type}(hl:L[k]? =some ⟨some d,.eq .slice yes x y,none⟩)(l:b5l α)(f:α->b5l AV)(hk:∀b:b5n,(l≠[]->b= !yes)->Vp P L (k+1) ((d,.v (.bool b))::env) h K)(hx:Ah (x.ev env)=some (List.map f l):=by kernel_rfl)(hy:y.ev env=some .nil:=by kernel_rfl):Vp P L k env h K:=by
 obtain⟨tok,hx⟩:=FU hx;refine a3j hl rfl (λav=>∃b:b5n,av=.v (.bool b)/\(l≠[]->b= !yes)) (λK' hK'=>?_) λav hav=>?_
 ·simp only[E9,hx,hy,wv,Ee];rcases Classical.em (l=[]) with h0|h0
  ·right;subst h0;exact⟨rfl,hK' _ ⟨_,rfl,λhn=>absurd rfl hn⟩,hK' _ ⟨_,rfl,λhn=>absurd rfl hn⟩⟩
  ·left;refine⟨by simpa using h0,hK' _ ⟨_,rfl,λ_=>?_⟩⟩;cases yes<;>rfl
 ·obtain⟨b,rfl,hb⟩:=hav;exact hk b hb
theorem b01(hk:K env h)(hl:L.drop k=[]:=by kernel_rfl):Vp P L k env h K:=a9i hl hk
def Ym(nl env:Env)(ops:b5l C2):b5n:=ops.all λo=>match o.dst with
 |some t=>(get nl t).isSome||(get env t).isNone
 |none=>true
theorem VQ:∀{e:Env}{t:Nat}{a:AV},get e t=some a->(t,a)∈e
 |[],_,_,h=>by cases h
 |(u,b)::e,t,a,h=>by
  simp only[get]at h;split at h
  ·rename_i hu;subst hu;cases h;exact List.mem_cons_self
  ·exact List.mem_cons_of_mem _ (VQ h)
theorem cq:∀{e f:Env}{t:Nat},get (e++f) t=match get e t with|some a=>some a|none=>get f t
 |[],_,_=>rfl
 |(u,b)::e,f,t=>by
  simp only[List.cons_append,get];split
  ·rfl
  ·exact cq
theorem ji{env:Env}{d:b5m Tmp}{t:Nat}{a:AV}(h:d≠some t):get (M9 env d a) t=get env t:=by
 cases d with
 |none=>rfl
 |some d=>
  simp only[M9,get];rw[if_neg];intro e;exact h (by rw[e])
theorem b1w{env:Env}{d:b5m Tmp}{t:Nat}(h:d≠some t):get (Ae env d) t=get env t:=by
 cases d with
 |none=>rfl
 |some d=>
  simp only[Ae]
  first
   |exact ji (d:=some d) h
   |(simp only[get];rw[if_neg (λe=>h (by rw[e]))])
theorem eS{md:b5n}{call:P4}:∀{l:b5l C2}{env:Env}{h:A3}{r:Env × A3}{t:Nat},Bs md call l env h=some r->(∀o∈l,o.dst≠some t)->get r.1 t=get env t
 |[],env,h,r,t,he,_=>by cases he;rfl
 |o::l,env,h,r,t,he,hn=>by
  simp only[Bs,b44]at he;obtain⟨b,h1,h2⟩:=he;have ho:=hn o List.mem_cons_self;have hl:=λo' h'=>hn o' (List.mem_cons_of_mem _ h')
  cases b with
  |true=>
   simp only[b44]at h2;obtain⟨p,h3,h4⟩:=h2;exact(eS h4 hl).trans (ji ho)
  |false=>exact(eS h2 hl).trans (b1w ho)
theorem zj{nl env e:Env}{ops:b5l C2}(h1:nl.map (λq=>get e q.1)=nl.map λq=>some q.2)(h2:Ym nl env ops)(h3:∀t,(∀o∈ops,o.dst≠some t)->get e t=get env t):P9 (nl++env) e:=by
 intro t a h;rw[cq]at h;cases hn:get nl t with
 |some b=>
  rw[hn]at h;cases h;have hm:=VQ hn;obtain⟨i,hi⟩:=List.mem_iff_getElem?.1 hm;have:=congrArg (λl=>l[i]?) h1;simpa[b5b,hi]using this
 |none=>
  rw[hn]at h;rw[h3 t λo ho hd=>?_]
  ·exact h
  ·have:=List.all_eq_true.1 h2 o ho;rw[hd]at this;simp[hn,h]at this
def chk(nl env:Env)(ops:b5l C2)(p:Env × A3):b5l (b5m AV) × A3 × b5n:=(nl.map (λq=>get p.1 q.1),p.2,Ym nl env ops)
theorem yY{nl env:Env}{ops:b5l C2}{x:b5m (Env × A3)}{h':A3}(h:x.map (chk nl env ops)=some (nl.map (λq=>some q.2),h',true)):∃e,x=some (e,h')/\nl.map (λq=>get e q.1)=nl.map (λq=>some q.2)/\Ym nl env ops:=by
 cases x with
 |none=>cases h
 |some p=>
  simp only[Option.map_some,chk,b5j,Prod.mk.injEq]at h;exact⟨p.1,by rw[<-h.2.1],h.1,h.2.2⟩
theorem va(m:Nat)(nl:Env)(hk:Vp P L (k+m) (nl++env) h K)(hK:Cz K:=by first|exact Wg|exact Vk Wg|exact Sf|exact cg|exact Vk Sf|exact Vk cg)(he:(Bs false Kw ((L.drop k).take m) env h).map (chk nl env ((L.drop k).take m))=some (nl.map (λq=>some q.2),h,true):=by kernel_rfl):Vp P L k env h K:=by
 obtain⟨e,h1,h2,h3⟩:=yY he;exact b22 m _ _ h1 rfl (Jq hK (zj h2 h3 λt ht=>eS h1 ht) hk)
abbrev aI(n:Int):AV:=.v (.int .i64 n)
abbrev aU(n:Int):AV:=.v (.int .u64 n)
abbrev aB(b:b5n):AV:=.v (.bool b)
abbrev aS(s:b5k):AV:=.v (.string s)
abbrev aE:AV:=.v (.string ⟨#[]⟩)
abbrev zV:b5l AV:=[aI 0,aU 0,aE,.nil,.nil,.nil,.nil]
theorem dr{ops:b5l C2}(hv:Vp P ops 0 env h λenv' h'=>Q .normal env' h'):D P N kb kf (.region ops) Q env h:=a7p (tD hv)
theorem dS(S:b5l (Nat × b5l AV)){ord:b5l (b5l Nat)}{al tl:b5l C2}(hv:Sp P S h.B0 true al 0 env h λF h'=>vd P tl F h' λenv' h'=>Q .normal env' h')(hok:AK al:=by kernel_rfl)(hst:Hr (clo ord) al:=by kernel_rfl)(hS:DQ S h=S.map (λp=>some (some p.2)):=by kernel_rfl):D P N kb kf (.drawn ord al tl) Q env h:=tp S hok hst hS hv
theorem dc{c:B9}(B:b5n)(h1:B=true->D P N kb kf x Q env h)(h2:B=false->D P N kb kf y Q env h)(hc:c.ev env=some (.v (.bool B)):=by kernel_rfl):D P N kb kf (.cond c x y) Q env h:=WZ hc h1 h2
theorem dw{c:B9}{B:b5n}{p q:Prop}(hw:(B=true->p)/\(B=false->q))(h1:B=true->p->D P N kb kf x Q env h)(h2:B=false->q->D P N kb kf y Q env h)(hc:c.ev env=some (.v (.bool B)):=by kernel_rfl):D P N kb kf (.cond c x y) Q env h:=dc B (λz=>h1 z (hw.1 z)) (λz=>h2 z (hw.2 z)) hc
theorem dkf{c:B9}{B:b5n}(hB:B=false)(h1:D P N kb kf y Q env h)(hc:c.ev env=some (.v (.bool B)):=by kernel_rfl):D P N kb kf (.cond c x y) Q env h:=Zv hc hB h1
theorem df{c:B9}(h1:D P N kb kf y Q env h)(hc:c.ev env=some (.v (.bool false)):=by kernel_rfl):D P N kb kf (.cond c x y) Q env h:=Zv hc rfl h1
theorem rx{rs:b5l M5}{R:Type}{f:R->AV}{r r0:R}(hw:r=r0)(hp:plain (f r0))(he:(BF env h rs).map (λl=>nz (S7 l))=some (f r0):=by kernel_rfl):Lz rs (f r) .ret env h:=by
 subst hw;simp only[b43]at he;obtain⟨l,h1,h2⟩:=he;exact r8 h1 h2 hp
abbrev tl(P:Program)(N:Nat)(y:F7)(Q:Exit->Env->A3->Prop):Exit->Env->A3->Prop:=Im (λe h=>DL P N 0 0 y Q e h) Q
theorem ds{P:Program}{N kb kf:Nat}{ops:b5l C2}{y:F7}{Q:Exit->Env->A3->Prop}{env:Env}{h:A3}(hv:Vp P ops 0 env h λenv' h'=>D P N kb kf y Q env' h'):D P N kb kf (.seq (.region ops) y) Q env h:=Ra (dr hv)
theorem ve{P:Program}{L:b5l C2}{k:Nat}{env:Env}{h:A3}{K:Env->A3->Prop}(hk:K env h)(hl:L.drop k=[]:=by kernel_rfl):Vp P L k env h K:=b01 hk hl
def Bw:b5m AV->b5m Int
 |some (.v (.int _ n))=>some n
 |_=>none
theorem LH{x:b5m AV}{n:Int}(h:Bw x=some n):∃k,x=some (.v (.int k n)):=by
 unfold Bw at h;split at h
 ·cases h;exact⟨_,rfl⟩
 ·cases h
variable {α:Type}
theorem a8r{x:B9}(l:b5l α)(e:α->b5l AV)(hx:Ah (x.ev env)=some (List.map e l):=by kernel_rfl):F3 P (.len false x) env h (.v (.int .i64 l.length)) h:=by
 obtain⟨tok,hx⟩:=FU hx;exact a7g hx
theorem a8w{size:Nat}{x i:B9}{l:b5l α}{e' e:α->b5l AV}{n:Int}{y:α}(h0:0<=n)(hy:l[n.toNat]? =some y)(he:e' y=e y)(hx:Ah (x.ev env)=some (List.map e' l):=by kernel_rfl)(hi:Bw (i.ev env)=some n:=by kernel_rfl)(hs:(e y).length=size:=by kernel_rfl):F3 P (.Bg size x i) env h (.G6 (e y) 0) h:=by
 obtain⟨tok,hx⟩:=FU hx;obtain⟨k,hi⟩:=LH hi;exact b3c hx hi h0 hy he hs
theorem a95{x i:B9}{s:b5k}{n:Int}(h0:0<=n/\n<(s.size:Int))(hx:x.ev env=some (.v (.string s)):=by kernel_rfl)(hi:Bw (i.ev env)=some n:=by kernel_rfl):F3 P (.Ck x i) env h (.v (.int .u8 (I9 s n.toNat))) h:=by
 obtain⟨k,hi⟩:=LH hi;exact tG hx hi h0
theorem wg{x:B9}{lo hi:b5m B9}{s:b5k}{l u:Int}(h0:0<=l/\l<=u/\u<=(s.size:Int))(hx:x.ev env=some (.v (.string s)):=by kernel_rfl)(h3:(J2 env lo).bind (K3 0)=some l:=by kernel_rfl)(h4:(J2 env hi).bind (K3 s.size)=some u:=by kernel_rfl):F3 P (.Bz x lo hi) env h (.v (.string (s.extract l.toNat u.toNat))) h:=by
 obtain⟨lv,h1,h3⟩:=Option.bind_eq_some_iff.1 h3;obtain⟨hv,h2,h4⟩:=Option.bind_eq_some_iff.1 h4;exact xO hx h1 h2 h3 h4 h0
def af:b5m AV->b5m Tok
 |some (.sl _ t)=>some t
 |_=>none
theorem a1r{size:Nat}{x:B9}{lo hi:b5m B9}{l:b5l α}{e':α->b5l AV}{a u:Int}(h0:0<=a/\a<=u/\u<=(l.length:Int))(hs:∀y,(e' y).length=size)(hx:Ah (x.ev env)=some (List.map e' l):=by kernel_rfl)(h3:(J2 env lo).bind (K3 0)=some a:=by kernel_rfl)(h4:(J2 env hi).bind (K3 l.length)=some u:=by kernel_rfl)(hc:(lo.isSome||hi.isSome):=by kernel_rfl):F3 P (.Ao size x lo hi none) env h (.sl (List.map e' ((l.take u.toNat).drop a.toNat)) .no) h:=by
 obtain⟨tok,hx⟩:=FU hx;obtain⟨lv,h1,h3⟩:=Option.bind_eq_some_iff.1 h3;obtain⟨hv,h2,h4⟩:=Option.bind_eq_some_iff.1 h4;have:=xU (P:=P) (h:=h) hx h1 h2 h3 h4 h0 hs;cases lo with
 |none=>
  cases hi with
  |none=>cases hc
  |some hi=>
   have e2:∃z,hv=some z:=by
    simp only[J2]at h2;split at h2
    ·cases h2;exact⟨_,rfl⟩
    ·cases h2
   obtain⟨z,rfl⟩:=e2;cases h1;exact this
 |some lo=>
  have e1:∃z,lv=some z:=by
   simp only[J2]at h1;split at h1
   ·cases h1;exact⟨_,rfl⟩
   ·cases h1
  obtain⟨z,rfl⟩:=e1;exact this
theorem wM{size:Nat}{x m:B9}{lo hi:b5m B9}{l:b5l α}{e':α->b5l AV}{a u:Int}(h0:0<=a/\a<=u/\u<=(l.length:Int))(hs:∀y,(e' y).length=size)(hx:Ah (x.ev env)=some (List.map e' l):=by kernel_rfl)(h3:(J2 env lo).bind (K3 0)=some a:=by kernel_rfl)(h4:(J2 env hi).bind (K3 l.length)=some u:=by kernel_rfl)(h5:Bw (m.ev env)=some u:=by kernel_rfl)(hc:hi.isSome=true:=by kernel_rfl):F3 P (.Ao size x lo hi (some m)) env h (.sl (List.map e' ((l.take u.toNat).drop a.toNat)) .full) h:=by
 obtain⟨tok,hx⟩:=FU hx;obtain⟨k,h5⟩:=LH h5;obtain⟨lv,h1,h3⟩:=Option.bind_eq_some_iff.1 h3;obtain⟨hv,h2,h4⟩:=Option.bind_eq_some_iff.1 h4;refine a8y hx h1 h2 h3 h4 h5 ?_ h0 hs;cases hi with
 |none=>cases hc
 |some hi=>
  simp only[J2]at h2;split at h2
  ·cases h2;rfl
  ·cases h2
def SU(op:BinOp)(x y:b5m AV):b5m (Prop × Value):=
 match x,y with
 |some (.v a),some (.v b)=>Ad op a b
 |_,_=>none
theorem a3s{op:BinOp}{x y:B9}{c:Prop}(r:Value)(hc:c)(hp:SU op (x.ev env) (y.ev env)=some (c,r):=by kernel_rfl):F3 P (.bin op x y) env h (.v r) h:=by
 unfold SU at hp;split at hp
 ·rename_i a b h1 h2;exact Gw h1 h2 hp hc
 ·cases hp
theorem a7m{x y:B9}{a b:b5k}(h0:((a.size+b.size:Nat):Int)<=9223372036854775807)(hx:x.ev env=some (.v (.string a)):=by kernel_rfl)(hy:y.ev env=some (.v (.string b)):=by kernel_rfl):F3 P (.bin .add x y) env h (.v (.string (a++b))) h:=b00 hx hy h0
theorem uj{g:FuncId}{args:b5l B9}{l':b5l AV}{r:AV}(hc:B4 P h.B0 g l' r)(hp:C3 l'=true)(ha:(evs env args).map (List.map nz)=some l':=by kernel_rfl)(hgl:M6 h.B0:=by kernel_rfl):F3 P (.call (.c (.clo (.func g) [] [])) args) env h r h:=by
 obtain⟨l,h1,h2⟩:=Option.map_eq_some_iff.1 ha;exact wA rfl h1 h2 hgl hp hc
theorem a5v{f:B9}{args:b5l B9}{F:AV}{l':b5l AV}{r:AV}(hc:Q4 P h.B0 F l' r)(hf:f.ev env=some F:=by kernel_rfl)(ha:(evs env args).map (List.map nz)=some l':=by kernel_rfl)(hgl:M6 h.B0:=by kernel_rfl):F3 P (.call f args) env h r h:=by
 obtain⟨l,h1,h2⟩:=Option.map_eq_some_iff.1 ha;exact a4q hf h1 h2 hgl hc
theorem b17{e0:TypeId}{size byt:Nat}{x y:B9}(id:Nat)(e':α->b5l AV)(l m:b5l α)(h0:(l.length+m.length)*byt<=140737488355328)(hs:∀y,(e' y).length=size)(hm:(y.ev env).bind (S0 h size)=some (List.map e' m))(hx:x.ev env=some (.sl (List.map e' l) (.own id)):=by kernel_rfl)(hb:h.A9[id]? =some (l.length,size):=by kernel_rfl):F3 P (.append e0 size byt x y) env h (.sl (List.map e' (l++m)) (.own id)) ⟨h.A5,h.A9.set id ((l++m).length,size),h.B0⟩:=by
 obtain⟨Y,h1,h2⟩:=Option.bind_eq_some_iff.1 hm;exact v7 hx h1 h2 hb hs h0
theorem jP{e0:TypeId}{size byt:Nat}{x y:B9}(e':α->b5l AV)(l m:b5l α)(h0:(l.length+m.length)*byt<=140737488355328)(hs:∀y,(e' y).length=size)(hm0:m≠[])(hm:(y.ev env).bind (S0 h size)=some (List.map e' m))(hX:Ah (x.ev env)=some (List.map e' l))(hx:af (x.ev env)=some .full:=by kernel_rfl):F3 P (.append e0 size byt x y) env h (.sl (List.map e' (l++m)) (.own h.A9.length)) ⟨h.A5,h.A9++[((l++m).length,size)],h.B0⟩:=by
 obtain⟨Y,h1,h2⟩:=Option.bind_eq_some_iff.1 hm;obtain⟨tok,h3⟩:=FU hX;rw[h3]at hx;cases hx;exact rJ (X:=.nil) h3 h1 rfl h2 hs h0 hm0
theorem rt{x:B9}(s:b5k)(hx:x.ev env=some (.v (.string s)):=by kernel_rfl):F3 P (.bytes x) env h (.sl (List.map (λn=>[AV.v (.int .u8 n)]) (bI s)) .no) h:=uQ hx
theorem a54{x:B9}{l:b5l Int}{t:b5k}(hl:l=bI t)(hx:Ah (x.ev env)=some (List.map (λn=>[AV.v (.int .u8 n)]) l):=by kernel_rfl):F3 P (.conv .str x) env h (.v (.string t)) h:=by
 obtain⟨tok,hx⟩:=FU hx;exact wY hx hl
end
def K4(n:Nat)(β:b5m Nat):AV->AV
 |.nil=>.sl [] .no
 |.sl els (.own id)=>if β=some id then .sl els (.own 0) else .sl els .no
 |.sl els .no=>.sl els .no
 |.sl els .full=>.sl els .no
 |.ptr k off=>if k=n then .ptr 0 off else .it ⟨#[]⟩ 0
 |.row k off size len cap=>if k=n then .row 0 off size len cap else .it ⟨#[]⟩ 0
 |.ps k t=>if k=n then .ps 0 t else .it ⟨#[]⟩ 0
 |.bb (.own id) els u=>if β=some id then .bb (.own 0) els u else .it ⟨#[]⟩ 0
 |x=>x
def BQ(n:Nat)(β:b5m Nat):AV->AV
 |.agg cs=>.agg (cs.map (K4 n β))
 |x=>K4 n β x
def ok1:AV->b5n
 |.ptr 0 _=>true
 |.row 0 _ _ _ _=>true
 |.sl els (.own 0)=>H9 els
 |.ps 0 _=>true
 |.bb (.own 0) els _=>H9 els
 |x=>plain x
def okA:AV->b5n
 |.agg cs=>cs.all ok1
 |x=>ok1 x
def Aj(n:Nat)(β:b5m Nat):AV->AV
 |.ptr _ off=>.ptr n off
 |.row _ off size len cap=>.row n off size len cap
 |.sl els (.own _)=>match β with
  |some id=>.sl els (.own id)
  |none=>.sl els .no
 |.ps _ t=>.ps n t
 |.bb (.own _) els u=>match β with
  |some id=>.bb (.own id) els u
  |none=>.sl els .no
 |x=>x
theorem ZS(n:Nat)(β:b5m Nat)(a:AV)(h:ok1 (K4 n β a)):(K4 n β a).isCell=a.isCell:=by
 cases a with
 |sl els tok=>cases tok<;>simp only[K4]<;>(try split)<;>rfl
 |ptr k off=>simp only[K4]at h ⊢;split at h<;>simp_all [ok1,plain,AV.isCell]
 |row k off size len cap=>simp only[K4]at h ⊢;split at h<;>simp_all [ok1,plain,AV.isCell]
 |ps k t=>simp only[K4]at h ⊢;split at h<;>simp_all [ok1,plain,AV.isCell]
 |bb k els u=>cases k<;>simp only[K4]at h ⊢<;>(try split at h)<;>simp_all [ok1,plain,AV.isCell]
 |_=>rfl
theorem yF(n:Nat)(β:b5m Nat)(a:AV):(Aj n β a).isCell=a.isCell:=by
 cases a with
 |sl els tok=>cases tok<;>simp only[Aj]<;>(try split)<;>rfl
 |bb k els u=>cases k<;>simp only[Aj]<;>(try split)<;>rfl
 |_=>rfl
def Sg.mine(σ:Sg)(b0:Nat)(β:b5m Nat):Sg:=⟨σ.w,λi=>if i=0 then some b0 else none,λj=>if j=0 then β.bind σ.buf else none,λ_ _=>False⟩
def Sg.small(σ:Sg)(b0:Nat)(β:b5m Nat):Sg:={σ.mine b0 β with outer:=λb o=>σ.open_ b o/\¬(σ.mine b0 β).own b o}
theorem MA{σ:Sg}{b0:Nat}{β:b5m Nat}{b o:Nat}:(σ.mine b0 β).own b o↔b=b0\/∃id e,β=some id/\σ.buf id=some e/\e.tail b o:=by
 constructor
 ·rintro (⟨k,hk⟩|⟨j,e,he,hs⟩)
  ·simp only[Sg.mine]at hk;split at hk
   ·cases hk;exact .inl rfl
   ·cases hk
  ·simp only[Sg.mine]at he;split at he
   ·obtain⟨id,h1,h2⟩:=Option.bind_eq_some_iff.1 he;exact .inr ⟨id,e,h1,h2,hs⟩
   ·cases he
 ·rintro (rfl|⟨id,e,h1,h2,hs⟩)
  ·exact .inl ⟨0,rfl⟩
  ·exact .inr ⟨0,e,by simp[Sg.mine,h1,h2],hs⟩
theorem LY{σ:Sg}{b0:Nat}{β:b5m Nat}{b o:Nat}:(σ.small b0 β).own b o↔(σ.mine b0 β).own b o:=Iff.rfl
theorem gM{σ:Sg}{b0 n:Nat}{β:b5m Nat}(hn:σ.blk n=some b0){b o:Nat}(h:(σ.small b0 β).own b o):σ.own b o:=by
 rcases MA.1 (LY.1 h) with rfl|⟨id,e,h1,h2,hs⟩
 ·exact .inl ⟨n,hn⟩
 ·exact .inr ⟨id,e,h2,hs⟩
theorem YE{σ:Sg}{b0 n:Nat}{β:b5m Nat}(hn:σ.blk n=some b0){b o:Nat}:(σ.small b0 β).open_ b o↔σ.open_ b o:=by
 constructor
 ·rintro (h|h)
  ·exact h.1
  ·exact .inr (gM hn h)
 ·intro h;rcases Classical.em ((σ.mine b0 β).own b o) with hm|hm
  ·exact .inr hm
  ·exact .inl ⟨h,hm⟩
theorem Rel.move{σ σ':Sg}{a:AV}{x:Value}(hr:Rel σ a x)(hp:plain a)(hw:σ'.w=σ.w)(ho:∀b o,σ'.open_ b o->σ.open_ b o):Rel σ' a x:=
 (hr.down (w:=σ.w) (outer:=σ.open_) hp rfl λ_ _ h=>h).up (λ_=>rfl) (λ_=>rfl) hw.symm λb o h=>.inl (ho b o h)
theorem oh{σ:Sg}{b0 n id:Nat}{β:b5m Nat}(hn:σ.blk n=some b0)(hb:β=some id){els:b5l (b5l AV)}{x:Value}(hr:Rel σ (.sl els (.own id)) x)(hok:H9 els):Rel (σ.small b0 β) (.sl els (.own 0)) x:=by
 have hop:∀b o,(σ.small b0 β).open_ b o->σ.open_ b o:=λb o h=>(YE hn).1 h
 have hbuf:(σ.small b0 β).buf 0=σ.buf id:=by simp[Sg.small,Sg.mine,hb]
 have tk:∀{len:Nat}{a:b5m Addr}{cap:Nat},BM σ (.own id) len a cap->BM (σ.small b0 β) (.own 0) len a cap:=by
  rintro len a cap ⟨e,h1,h2⟩;exact⟨e,by rw[hbuf];exact h1,h2⟩
 cases hr with
 |sl0 _ ht=>exact .sl0 _ (tk ht)
 |L3 _ a cap ht hc=>exact .L3 _ a cap (tk ht) (hc.elim (λh=>by cases h) .inr)
 |sl _ _ b o cap size xs hs hcap ht hz hc hr=>
  refine .sl _ _ b o cap size xs hs hcap (tk ht) (λj e hj he=>?_) (λi el hi j av hj=>?_) λi el hi j av hj=>?_
  ·cases hj;rw[hbuf]at he;exact hz id e rfl he
  ·obtain⟨h1,h2,h3⟩:=hc i el hi j av hj;exact⟨h1,λh=>h2 (hop _ _ h),h3⟩
  ·exact(hr i el hi j av hj).move (Ax (JV hok i el hi) j av hj) rfl hop
theorem Fm{σ:Sg}{b0 n:Nat}{β:b5m Nat}(hn:σ.blk n=some b0){a:AV}{x:Value}(hr:Rel σ a x)(hok:ok1 (K4 n β a)):Rel (σ.small b0 β) (K4 n β a) x:=by
 have hop:∀b o,(σ.small b0 β).open_ b o->σ.open_ b o:=λb o h=>(YE hn).1 h
 have pl:∀{a:AV},Rel σ a x->plain a->Rel (σ.small b0 β) a x:=λh hp=>h.move hp rfl hop
 cases a with
 |nil=>exact pl hr.L8 rfl
 |sl els tok=>
  cases tok with
  |no=>exact pl hr.L8 hok
  |full=>exact pl hr.L8 hok
  |own id=>
   simp only[K4]at hok ⊢;split at hok
   ·rename_i hb;rw[if_pos hb];exact oh hn hb hr (by simpa only[ok1]using hok)
   ·rename_i hb;rw[if_neg hb];exact pl hr.L8 hok
 |ptr k off=>
  simp only[K4]at hok ⊢;split at hok
  ·rename_i hk;subst hk;rw[if_pos rfl];cases hr with
   |ptr _ _ b h=>rw[hn]at h;cases h;exact .ptr 0 off b0 rfl
  ·simp[ok1,plain]at hok
 |row k off size len cap=>
  simp only[K4]at hok ⊢;split at hok
  ·rename_i hk;subst hk;rw[if_pos rfl];cases hr with
   |row _ _ _ _ _ b cap' h hc hm hx=>rw[hn]at h;cases h;exact .row 0 off size len cap b0 cap' rfl hc hm hx
  ·simp[ok1,plain]at hok
 |ps k t=>
  simp only[K4]at hok ⊢;split at hok
  ·rename_i hk;subst hk;rw[if_pos rfl];cases hr with
   |ps _ _ b p h hs hp=>rw[hn]at h;cases h;exact .ps 0 t b0 p rfl hs hp
  ·simp[ok1,plain]at hok
 |bb k els u=>
  cases k with
  |own id=>
   simp only[K4]at hok ⊢;split at hok
   ·rename_i hb;rw[if_pos hb];simp only[ok1]at hok;cases hr with
    |Ab _ _ _ a m cap h hu=>
     exact .Ab 0 els u a m cap (oh hn hb h hok) hu
   ·simp[ok1,plain]at hok
  |nil=>simp[K4,ok1,plain]at hok
  |data id=>simp[K4,ok1,plain]at hok
  |raw id m=>simp[K4,ok1,plain]at hok
 |_=>exact pl hr (by simpa[K4,ok1]using hok)
theorem a1j{σ:Sg}{b0 n:Nat}{β:b5m Nat}(hn:σ.blk n=some b0){a:AV}{x:Value}(hr:Rel σ a x)(hok:okA (BQ n β a)):Rel (σ.small b0 β) (BQ n β a) x:=by
 cases a with
 |agg cs=>
  simp only[BQ,okA]at hok ⊢;obtain⟨xs,rfl,hc⟩:=hr.agg_inv;refine Rel.agg_mk' ⟨by simp[hc.1],λi av hi=>?_⟩;have hok1:=List.all_eq_true.1 hok av (b5g hi);simp only[b5b,b43]at hi;obtain⟨b,hb,rfl⟩:=hi;obtain⟨h1,x,h2,h3⟩:=hc.2 i b hb;exact⟨by rw[ZS n β b hok1];exact h1,x,h2,Fm hn h3 hok1⟩
 |sl els tok=>cases tok with
  |own id=>
   refine Fm hn hr ?_;simp only[BQ,K4]at hok ⊢;split at hok<;>rename_i hb<;>simp only[hb,if_true,if_false]<;>exact hok
  |_=>exact Fm hn hr hok
 |ptr k off=>
  refine Fm hn hr ?_;simp only[BQ,K4]at hok ⊢;split at hok<;>rename_i hb<;>simp only[hb,if_true,if_false]<;>exact hok
 |row k off size len cap=>
  refine Fm hn hr ?_;simp only[BQ,K4]at hok ⊢;split at hok<;>rename_i hb<;>simp only[hb,if_true,if_false]<;>exact hok
 |ps k t=>
  refine Fm hn hr ?_;simp only[BQ,K4]at hok ⊢;split at hok<;>rename_i hb<;>simp only[hb,if_true,if_false]<;>exact hok
 |bb k els u=>
  refine Fm hn hr ?_;cases k with
  |own id=>
   simp only[BQ,K4]at hok ⊢;split at hok<;>rename_i hb<;>simp only[hb,if_true,if_false]<;>exact hok
  |_=>exact hok
 |_=>exact Fm hn hr hok
def Sg.big(σ σ1:Sg)(β:b5m Nat):Sg:=⟨σ1.w,σ.blk,λid=>if β=some id then σ1.buf 0 else σ.buf id,σ.outer⟩
theorem mo{σ σ1:Sg}{id:Nat}(ho:∀b o,(σ.big σ1 (some id)).open_ b o->σ1.open_ b o){els:b5l (b5l AV)}{x:Value}(hr:Rel σ1 (.sl els (.own 0)) x)(hok:H9 els):Rel (σ.big σ1 (some id)) (.sl els (.own id)) x:=by
 have hbuf:(σ.big σ1 (some id)).buf id=σ1.buf 0:=by simp[Sg.big]
 have tk:∀{len:Nat}{a:b5m Addr}{cap:Nat},BM σ1 (.own 0) len a cap->BM (σ.big σ1 (some id)) (.own id) len a cap:=by
  rintro len a cap ⟨e,h1,h2⟩;exact⟨e,by rw[hbuf];exact h1,h2⟩
 cases hr with
 |sl0 _ ht=>exact .sl0 _ (tk ht)
 |L3 _ a cap ht hc=>exact .L3 _ a cap (tk ht) (hc.elim (λh=>by cases h) .inr)
 |sl _ _ b o cap size xs hs hcap ht hz hc hr=>
  refine .sl _ _ b o cap size xs hs hcap (tk ht) (λj e hj he=>?_) (λi el hi j av hj=>?_) λi el hi j av hj=>?_
  ·cases hj;rw[hbuf]at he;exact hz 0 e rfl he
  ·obtain⟨g1,g2,g3⟩:=hc i el hi j av hj;exact⟨g1,λh=>g2 (ho _ _ h),g3⟩
  ·exact(hr i el hi j av hj).move (Ax (JV hok i el hi) j av hj) rfl ho
theorem uc{σ σ1:Sg}{b0 n:Nat}{β:b5m Nat}(hn:σ.blk n=some b0)(h1:σ1.blk 0=some b0)(ho:∀b o,(σ.big σ1 β).open_ b o->σ1.open_ b o){a:AV}{x:Value}(hr:Rel σ1 a x)(hok:ok1 a):Rel (σ.big σ1 β) (Aj n β a) x:=by
 have pl:∀{a:AV},Rel σ1 a x->plain a->Rel (σ.big σ1 β) a x:=λh hp=>h.move hp rfl ho
 cases a with
 |sl els tok=>
  cases tok with
  |no=>exact pl hr hok
  |full=>exact pl hr hok
  |own j=>
   cases j with
   |succ j=>simp[ok1,plain]at hok
   |zero=>
    simp only[ok1]at hok;cases β with
    |none=>exact(show Rel σ1 (.sl els .no) x from hr.L8).move (by simpa[plain]using hok) rfl ho
    |some id=>
     simp only[Aj];exact mo ho hr hok
 |ptr k off=>
  cases k with
  |succ k=>simp[ok1,plain]at hok
  |zero=>cases hr with
   |ptr _ _ b h=>rw[h1]at h;cases h;exact .ptr n off b0 hn
 |row k off size len cap=>
  cases k with
  |succ k=>simp[ok1,plain]at hok
  |zero=>cases hr with
   |row _ _ _ _ _ b cap' h hc hm hx=>rw[h1]at h;cases h;exact .row n off size len cap b0 cap' hn hc hm hx
 |ps k t=>
  cases k with
  |succ k=>simp[ok1,plain]at hok
  |zero=>cases hr with
   |ps _ _ b p h hs hp=>rw[h1]at h;cases h;exact .ps n t b0 p hn hs hp
 |bb k els u=>
  cases k with
  |own j=>
   cases j with
   |succ j=>simp[ok1,plain]at hok
   |zero=>
    simp only[ok1]at hok;cases hr with
    |Ab _ _ _ a m cap h hu=>
     cases β with
     |none=>exact(show Rel σ1 (.sl els .no) _ from h.L8).move (by simpa[plain]using hok) rfl ho
     |some id=>exact .Ab id els u a m cap (mo ho h hok) hu
  |nil=>simp[ok1,plain]at hok
  |data id=>simp[ok1,plain]at hok
  |raw id m=>simp[ok1,plain]at hok
 |_=>have h:=pl hr (by simpa[ok1]using hok);exact h
def AC(P:Program)(gl:b5l (Nat × b5l AV))(f:FuncId)(args c:b5l AV)(bf:b5l (Nat × Nat))(r:AV)(c':b5l AV)(bf':b5l (Nat × Nat)):Prop:=
 AF P f args ⟨[some c],bf,gl⟩ λav h=>nz av=r/\h=⟨[some c'],bf',gl⟩
theorem u9{f:AV->AV}(hf:∀a,(f a).isIt=a.isIt):∀{l:b5l AV},I4 l->I4 (l.map f)=true
 |[],h=>h
 |a::_,h=>by simpa[I4,hf]using h
theorem zp(n:Nat)(β:b5m Nat)(a:AV):(Aj n β a).isIt=a.isIt:=by
 cases a with
 |sl els tok=>cases tok<;>simp only[Aj]<;>(try split)<;>rfl
 |bb k els u=>cases k<;>simp only[Aj]<;>(try split)<;>rfl
 |_=>rfl
theorem j7{h:A3}{σ:Sg}(hi:Inv h σ){n b0:Nat}{β:b5m Nat}{cb c:b5l AV}{bf:b5l (Nat × Nat)}(hn:h.A5[n]? =some (some cb))(hb0:σ.blk n=some b0)(hit:I4 cb)(hc:cb.map (K4 n β)=c)(hok:c.all ok1)(hbf:(β=none/\bf=[])\/∃id x,β=some id/\bf=[x]/\h.A9[id]? =some x)(hgl:M6 h.B0):Inv ⟨[some c],bf,h.B0⟩ (σ.small b0 β):=by
 have hblk:∀{k b:Nat},(σ.small b0 β).blk k=some b->k=0/\b=b0:=by
  intro k b hk;simp only[Sg.small,Sg.mine]at hk;split at hk
  ·rename_i h0;cases hk;exact⟨h0,rfl⟩
  ·cases hk
 have hbuf:∀{j:Nat}{e:Buf},(σ.small b0 β).buf j=some e->j=0/\∃id,β=some id/\σ.buf id=some e:=by
  intro j e he;simp only[Sg.small,Sg.mine]at he;split at he
  ·rename_i h0;obtain⟨id,h1,h2⟩:=Option.bind_eq_some_iff.1 he;exact⟨h0,id,h1,h2⟩
  ·cases he
 have hopen:∀b o,σ.open_ b o->b<σ.w.heap.size:=by
  rintro b o (ho|⟨n,hn⟩|⟨id,e,he,hs⟩)
  ·exact(hi.outer b o ho).1
  ·exact hi.lt hn
  ·exact hi.H4 id e b o he hs
 refine⟨λk cells hk=>?_,λk b hk=>?_,λk m b c1 c2 hk hm _ _ _ _=>?_,λj x hj=>?_,λj e he=>?_,λj e he=>?_,λj e b o he hs=>?_,λj e b o he hs=>?_,λj e b o he hs=>?_,λi j e f b o he hf _ _=>?_,λj e k b o he hs hk=>?_,λb o ho=>?_,λg cells hg=>?_⟩
 ·cases k with
  |succ k=>simp at hk
  |zero=>
   simp only[List.getElem?_cons_zero,b5j]at hk;subst hk;refine⟨b0,rfl,?_⟩;obtain⟨b',h1,h2⟩:=hi.blk n cb hn;rw[hb0]at h1;cases h1;obtain⟨cs,rest,elem,g1,g2⟩:=h2.plain hit;refine .cells _ cs rest elem g1 ⟨by rw[g2.1,<-hc];simp,λi av hav=>?_⟩;have hok1:=List.all_eq_true.1 hok av (b5g hav);rw[<-hc]at hav;simp only[b5b,b43]at hav;obtain⟨a,ha,rfl⟩:=hav;obtain⟨k1,x,k2,k3⟩:=g2.2 i a ha;exact⟨by rw[ZS n β a hok1];exact k1,x,k2,Fm hb0 k3 hok1⟩
 ·obtain⟨rfl,_⟩:=hblk hk;exact⟨c,rfl⟩
 ·have h1:=(List.getElem?_eq_some_iff.1 hk).1;have h2:=(List.getElem?_eq_some_iff.1 hm).1;simp at h1 h2;omega
 ·rcases hbf with⟨_,rfl⟩|⟨id,y,rfl,rfl,hy⟩
  ·simp at hj
  ·cases j with
   |succ j=>simp at hj
   |zero=>
    simp at hj;subst hj;obtain⟨e,h1,h2⟩:=hi.buf id y hy;exact⟨e,by simp[Sg.small,Sg.mine,h1],h2⟩
 ·obtain⟨rfl,id,hβ,h1⟩:=hbuf he;rcases hbf with⟨h0,_⟩|⟨id',y,h0,rfl,hy⟩
  ·rw[h0]at hβ;cases hβ
  ·rw[h0]at hβ;cases hβ;have:=hi.K5 id e h1;rw[hy]at this;simpa using this
 ·obtain⟨_,id,hβ,h1⟩:=hbuf he;exact hi.K8 id e h1
 ·obtain⟨_,id,hβ,h1⟩:=hbuf he;exact hi.M0 id e b o h1 hs
 ·obtain⟨_,id,hβ,h1⟩:=hbuf he;exact hi.L5 id e b o h1 hs
 ·obtain⟨_,id,hβ,h1⟩:=hbuf he;exact hi.H4 id e b o h1 hs
 ·exact(hbuf he).1.trans (hbuf hf).1.symm
 ·obtain⟨_,id,hβ,h1⟩:=hbuf he;obtain⟨_,rfl⟩:=hblk hk;exact hi.I6 id e n _ o h1 hs hb0
 ·exact⟨hopen b o ho.1,λh=>ho.2 h⟩
 ·exact(hi.F5 g cells hg).move (by simp only[plain];exact List.all_eq_true.1 hgl _ hg) rfl λb o h=>(YE hb0).1 h
theorem a76{P:Program}{f:FuncId}{args args' c cb c':b5l AV}{bf bf' bs:b5l (Nat × Nat)}{r:AV}{h:A3}{n:Nat}{β:b5m Nat}{K:AV->A3->Prop}(hf:AC P h.B0 f args c bf r c' bf')(hgl:M6 h.B0)(hn:h.A5[n]? =some (some cb))(hit:I4 cb)(hc:cb.map (K4 n β)=c)(hok:c.all ok1)(hit':I4 c'=true)(hok':c'.all ok1)(hargs:args'.map (BQ n β)=args)(hoka:args.all okA)(hr:plain r)(hbf:(β=none/\bf=[]/\bf'=[]/\bs=h.A9)\/∃x x',β=some 0/\bf=[x]/\bf'=[x']/\h.A9=[x]/\bs=[x'])(hk:K r ⟨h.A5.set n (some (c'.map (Aj n β))),bs,h.B0⟩):AF P f args' h K:=by
 refine⟨hf.1,λσ cargs hi hrel=>?_⟩;obtain⟨b0,hb0,hat⟩:=hi.blk n cb hn
 have hinv:=j7 hi hn hb0 hit hc hok (bf:=bf) (by
  rcases hbf with⟨h1,h2,_⟩|⟨x,x',h1,h2,_,h4,_⟩
  ·exact .inl ⟨h1,h2⟩
  ·exact .inr ⟨0,x,h1,h2,by rw[h4];rfl⟩) hgl
 have hrels:U3 (σ.small b0 β) args cargs.toList:=by
  refine⟨by rw[hrel.1,<-hargs];simp,λi av hav=>?_⟩;have hoka1:=List.all_eq_true.1 hoka av (b5g hav);rw[<-hargs]at hav;simp only[b5b,b43]at hav;obtain⟨a,ha,rfl⟩:=hav;obtain⟨x,h1,h2⟩:=hrel.2 i a ha;exact⟨x,h1,a1j hb0 h2 hoka1⟩
 refine(hf.2 (σ.small b0 β) cargs hinv hrels).mono λe w' hq=>?_
 obtain⟨σ1,h1,av,x,rfl,rfl,hle,hi1,hrx,hav,rfl⟩:=hq;have hb1:σ1.blk 0=some b0:=hle.blk 0 b0 rfl;have hsub:∀b o,(σ.small b0 β).own b o->σ.own b o:=λb o h=>gM hb0 h
 have hbuf1:∀{id:Nat}{e:Buf},(σ.big σ1 β).buf id=some e->(β=some id/\σ1.buf 0=some e)\/(β≠some id/\σ.buf id=some e):=by
  intro id e he;simp only[Sg.big]at he;split at he
  ·rename_i h0;exact .inl ⟨h0,he⟩
  ·rename_i h0;exact .inr ⟨h0,he⟩
 have hbufs:∀id e,β≠some id->σ.buf id=some e->β=none:=by
  intro id e h0 he;rcases hbf with⟨h1,_⟩|⟨x,x',h1,_,_,h4,_⟩
  ·exact h1
  ·have:=hi.K5 id e he;rw[h4]at this;have hlt:=(List.getElem?_eq_some_iff.1 this).1;simp at hlt;subst hlt;exact(h0 h1).elim
 have hown:∀b o,b<σ.w.heap.size->(σ.big σ1 β).own b o->σ.own b o:=by
  rintro b o hb (⟨k,hk⟩|⟨id,e,he,hs⟩)
  ·exact .inl ⟨k,hk⟩
  ·rcases hbuf1 he with⟨_,h2⟩|⟨_,h2⟩
   ·exact hsub b o (hle.own b o hb (.inr ⟨0,e,h2,hs⟩))
   ·exact .inr ⟨id,e,h2,hs⟩
 have hsize:=hle.size
 have hopen:∀b o,(σ.big σ1 β).open_ b o->σ1.open_ b o:=by
  have side:∀b o,σ.open_ b o->¬(σ.small b0 β).own b o->σ1.open_ b o:=λb o h1 h2=>.inl (by rw[hle.outer];exact⟨h1,h2⟩)
  rintro b o (ho|⟨k,hk⟩|⟨id,e,he,hs⟩)
  ·exact side b o (.inl ho) λh=>(hi.outer b o ho).2 (hsub b o h)
  ·rcases Classical.em (b=b0) with rfl|hne
   ·exact .inr (.inl ⟨0,hb1⟩)
   ·refine side b o (.inr (.inl ⟨k,hk⟩)) λh=>?_
    rcases MA.1 (LY.1 h) with h|⟨id,e,_,he,hs⟩
    ·exact hne h
    ·exact hi.I6 id e k b o he hs hk
  ·rcases hbuf1 he with⟨_,h2⟩|⟨h1,h2⟩
   ·exact .inr (.inr ⟨0,e,h2,hs⟩)
   ·refine side b o (.inr (.inr ⟨id,e,h2,hs⟩)) λh=>?_
    rcases MA.1 (LY.1 h) with rfl|⟨id',e',h1',he',hs'⟩
    ·exact hi.I6 id e n _ o h2 hs hb0
    ·have:=hi.L6 id id' e e' b o h2 he' hs hs';subst this;exact h1 h1'
 have hLe:Le σ (σ.big σ1 β):=by
  refine⟨λk b hk=>hk,λid e he=>?_,rfl,λb o hb ho=>hle.cell b o hb λh=>ho (hsub b o h),hle.ext,λb hb ho=>hle.whole b hb λo h=>ho o (hsub b o h),λb x hx=>hle.shape b x hx,hown,hsize,hle.os,hle.tape,hle.output⟩;simp only[Sg.big];split
  ·rename_i h0;exact hle.buf 0 e (by simp[Sg.small,Sg.mine,h0,he])
  ·exact⟨e,he,Nat.le_refl _,rfl,λ_=>rfl⟩
 have hcb:cb≠[]:=Ek hit;have hnlt:n<h.A5.length:=(List.getElem?_eq_some_iff.1 hn).1
 have hnew:S3 (σ.big σ1 β) b0 (c'.map (Aj n β)):=by
  obtain⟨b',g1,g2⟩:=hi1.blk 0 c' rfl;rw[hb1]at g1;cases g1;obtain⟨cs,rest,elem,g3,g4⟩:=g2.plain hit';refine .cells _ cs rest elem g3 ⟨by rw[g4.1];simp,λi a hi=>?_⟩;simp only[b5b,b43]at hi;obtain⟨a',ha,rfl⟩:=hi;obtain⟨k1,y,k2,k3⟩:=g4.2 i a' ha;exact⟨by rw[yF];exact k1,y,k2,uc hb0 hb1 hopen k3 (List.all_eq_true.1 hok' a' (b5g ha))⟩
 have hitn:I4 (c'.map (Aj n β)):=u9 (zp n β) hit'
 have hold:∀{k:Nat}{cells:b5l AV},(h.A5.set n (some (c'.map (Aj n β))))[k]? =some (some cells)->(k=n/\cells=c'.map (Aj n β))\/(k≠n/\h.A5[k]? =some (some cells)):=by
  intro k cells hk;rcases Classical.em (n=k) with h0|h0
  ·subst h0;rw[List.getElem?_set_self hnlt]at hk;simp only[b5j]at hk;exact .inl ⟨rfl,hk.symm⟩
  ·rw[List.getElem?_set_ne h0]at hk;exact .inr ⟨λh=>h0 h.symm,hk⟩
 have hinv':Inv ⟨h.A5.set n (some (c'.map (Aj n β))),bs,h.B0⟩ (σ.big σ1 β):=by
  refine⟨λk cells hk=>?_,λk b hk=>?_,λk m b c1 c2 hk hm hc1 hc2 hbk hbm=>?_,λid y hy=>?_,λid e he=>?_,λid e he=>?_,λid e b o he hs=>?_,λid e b o he hs=>?_,λid e b o he hs=>?_,λi j e f b o he hf hs hs'=>?_,λid e k b o he hs hk=>?_,λb o ho=>?_,λg cells hg=>?_⟩
  ·rcases hold hk with⟨rfl,rfl⟩|⟨hne,hk'⟩
   ·exact⟨b0,hb0,hnew⟩
   ·obtain⟨b,g1,g2⟩:=hi.blk k cells hk';refine⟨b,g1,?_⟩;rcases Classical.em (b=b0) with rfl|hb
    ·rcases Classical.em (cells=[]) with rfl|hce
     ·exact hnew.nil hitn
     ·exact(hne (hi.inj k n _ cells cb hk' hn hce hcb g1 hb0)).elim
    ·refine g2.keep hLe (hle.whole b (hi.lt g1) λo h=>?_);rcases MA.1 (LY.1 h) with h|⟨id,e,_,he,hs⟩
     ·exact hb h
     ·exact hi.I6 id e k b o he hs g1
  ·obtain⟨cc,g1⟩:=hi.dom k b hk;show ∃c,(h.A5.set n _)[k]? =some (some c)
   rcases Classical.em (n=k) with h0|h0
   ·subst h0;rw[List.getElem?_set_self hnlt];exact⟨_,rfl⟩
   ·rw[List.getElem?_set_ne h0];exact⟨cc,g1⟩
  ·rcases hold hk with⟨rfl,rfl⟩|⟨hne,hk'⟩<;>rcases hold hm with⟨rfl,rfl⟩|⟨hne2,hm'⟩
   ·rfl
   ·exact hi.inj _ _ b cb c2 hn hm' hcb hc2 hbk hbm
   ·exact hi.inj _ _ b c1 cb hk' hn hc1 hcb hbk hbm
   ·exact hi.inj _ _ b c1 c2 hk' hm' hc1 hc2 hbk hbm
  ·rcases hbf with⟨h1,h2,h3,rfl⟩|⟨z,z',h1,h2,h3,h4,rfl⟩
   ·obtain⟨e,g1,g2⟩:=hi.buf id y hy;exact⟨e,by simp only[Sg.big];rw[if_neg (by rw[h1];exact λh=>by cases h)];exact g1,g2⟩
   ·cases id with
    |succ id=>simp at hy
    |zero=>
     simp at hy;subst hy;obtain⟨e,g1,g2⟩:=hi1.buf 0 z' (by rw[h3];rfl);exact⟨e,by simp only[Sg.big];rw[if_pos h1];exact g1,g2⟩
  ·rcases hbuf1 he with⟨g1,g2⟩|⟨g1,g2⟩
   ·have:=hi1.K5 0 e g2;rcases hbf with⟨h1,_⟩|⟨z,z',h1,h2,h3,h4,rfl⟩
    ·rw[h1]at g1;cases g1
    ·rw[h1]at g1;cases g1;subst h3;exact this
   ·have hb:=hbufs id e g1 g2;rcases hbf with⟨h1,h2,h3,rfl⟩|⟨z,z',h1,_⟩
    ·exact hi.K5 id e g2
    ·rw[h1]at hb;cases hb
  ·rcases hbuf1 he with⟨g1,g2⟩|⟨g1,g2⟩
   ·exact hi1.K8 0 e g2
   ·exact hi.K8 id e g2
  ·rcases hbuf1 he with⟨g1,g2⟩|⟨g1,g2⟩
   ·exact hi1.M0 0 e b o g2 hs
   ·exact hle.ext b o (hi.M0 id e b o g2 hs)
  ·rcases hbuf1 he with⟨g1,g2⟩|⟨g1,g2⟩
   ·exact hi1.L5 0 e b o g2 hs
   ·have g4:=hi.L5 id e b o g2 hs;have hbn:=hbufs id e g1 g2
    have hw:=hle.whole b (hi.H4 id e b o g2 hs) λo' h=>by
     rcases MA.1 (LY.1 h) with rfl|⟨id',e',h1',_⟩
     ·exact hi.I6 id e n _ o g2 hs hb0
     ·rw[hbn]at h1';cases h1'
    show Y6 σ1.w b o=true;rw[Mt (show σ1.w.heap[b]? =σ.w.heap[b]? from hw)];exact g4
  ·rcases hbuf1 he with⟨g1,g2⟩|⟨g1,g2⟩
   ·exact hi1.H4 0 e b o g2 hs
   ·exact Nat.lt_of_lt_of_le (hi.H4 id e b o g2 hs) hsize
  ·rcases hbuf1 he with⟨g1,g2⟩|⟨g1,g2⟩<;>rcases hbuf1 hf with⟨k1,k2⟩|⟨k1,k2⟩
   ·rw[g1]at k1;cases k1;rfl
   ·have:=hbufs j f k1 k2;rw[this]at g1;cases g1
   ·have:=hbufs i e g1 g2;rw[this]at k1;cases k1
   ·exact hi.L6 i j e f b o g2 k2 hs hs'
  ·have hk':σ.blk k=some b:=hk;rcases hbuf1 he with⟨g1,g2⟩|⟨g1,g2⟩
   ·rcases Classical.em (b=b0) with rfl|hne
    ·exact hi1.I6 0 e 0 _ o g2 hs hb1
    ·rcases MA.1 (LY.1 (hle.own b o (hi.lt hk') (.inr ⟨0,e,g2,hs⟩))) with h|⟨id',e',_,he',hs'⟩
     ·exact hne h
     ·exact hi.I6 id' e' k b o he' hs' hk'
   ·exact hi.I6 id e k b o g2 hs hk'
  ·have hb:=(hi.outer b o ho).1;exact⟨Nat.lt_of_lt_of_le hb hsize,λh=>(hi.outer b o ho).2 (hown b o hb h)⟩
  ·exact(hi.F5 g cells hg).mono hLe
 refine⟨σ.big σ1 β,_,nz av,x,rfl,rfl,hLe,hinv',?_,by rw[hav];exact hk⟩;exact hrx.nz.move (by rw[hav];exact hr) rfl hopen
theorem a3y{σ:Sg}{a:AV}{x:Value}(hr:Rel σ a x)(hok:ok1 (K4 0 (some 0) a)):Rel σ (K4 0 (some 0) a) x:=by
 cases a with
 |nil=>exact hr.L8
 |sl els tok=>
  cases tok with
  |no=>exact hr.L8
  |full=>exact hr.L8
  |own id=>
   simp only[K4];split
   ·rename_i hb;cases hb;exact hr
   ·exact hr.L8
 |ptr k off=>
  simp only[K4]at hok ⊢;split at hok
  ·rename_i hk;subst hk;rw[if_pos rfl];exact hr
  ·simp[ok1,plain]at hok
 |row k off size len cap=>
  simp only[K4]at hok ⊢;split at hok
  ·rename_i hk;subst hk;rw[if_pos rfl];exact hr
  ·simp[ok1,plain]at hok
 |ps k t=>
  simp only[K4]at hok ⊢;split at hok
  ·rename_i hk;subst hk;rw[if_pos rfl];exact hr
  ·simp[ok1,plain]at hok
 |bb k els u=>
  cases k with
  |own id=>
   simp only[K4]at hok ⊢;split at hok
   ·rename_i hb;rw[if_pos hb];cases hb;exact hr
   ·simp[ok1,plain]at hok
  |_=>exact hr
 |_=>exact hr
theorem wN{h:A3}{σ:Sg}(hi:Inv h σ){k:Nat}{c0 c':b5l AV}(hk:h.A5[0]? =some (some c0))(hit:I4 c0)(hc:c0.map (K4 0 (some 0))=c')(hok:c'.all ok1)(hlow:E0 [true] k c'=true)(hgl:M6 h.B0):Inv ⟨[some c'],h.A9.take k,h.B0⟩ (σ.cut [true] k):=by
 have h1:=hi.reset hk (Ek hit) (c':=c') λb hb=>by
  obtain⟨cs,rest,elem,g1,g2⟩:=hb.plain hit;refine .cells _ cs rest elem g1 ⟨by rw[g2.1,<-hc];simp,λi av hav=>?_⟩;have hok1:=List.all_eq_true.1 hok av (b5g hav);rw[<-hc]at hav;simp only[b5b,b43]at hav;obtain⟨a,ha,rfl⟩:=hav;obtain⟨k1,x,k2,k3⟩:=g2.2 i a ha;exact⟨by rw[ZS 0 _ a hok1];exact k1,x,k2,a3y k3 hok1⟩
 have hkeep:K2 [true] (h.A5.set 0 (some c'))=[some c']:=by
  cases hb:h.A5 with
  |nil=>rw[hb]at hk;cases hk
  |cons x l=>rfl
 have h2:=h1.cut [true] k (by rw[hkeep];simpa[S9]using hlow) hgl;simp only[hkeep]at h2;exact h2
def Qj(gl:b5l (Nat × b5l AV))(k:Nat)(rs:b5l M5)(r:AV)(c':b5l AV)(bf':b5l (Nat × Nat)):Exit->Env->A3->Prop
 |.normal,env,h=>Z2 env h rs (λl=>nz (S7 l)=r)/\plain r/\∃c0,h.A5[0]? =some (some c0)/\I4 c0/\c0.map (K4 0 (some 0))=c'/\c'.all ok1/\E0 [true] k c'=true/\h.A9.take k=bf'/\h.B0=gl
 |.ret,env,h=>Z2 env h rs (λl=>nz (S7 l)=r)/\plain r/\∃c0,h.A5[0]? =some (some c0)/\I4 c0/\c0.map (K4 0 (some 0))=c'/\c'.all ok1/\E0 [true] k c'=true/\h.A9.take k=bf'/\h.B0=gl
 |_,_,_=>False
theorem gS{env:Env}{h:A3}:∀{rs:b5l M5}{K K':b5l AV->Prop},(∀l,K l->K' l)->Z2 env h rs K->Z2 env h rs K':=by
 intro rs
 induction rs with
 |nil=>intro K K' hm hk;exact hm _ hk
 |cons x r ih=>
  intro K K' hm hk;cases x with
  |tmp t=>
   obtain⟨a,h1,h2⟩:=Fe hk;show wv (get env t) _;rw[h1];exact ih (λl=>hm _) h2
  |cell t n=>
   obtain⟨p,h1,h2⟩:=Fe hk;show wv (get env t) _;rw[h1];simp only[wv,Cy]at h2 ⊢;split at h2
   ·split at h2
    ·split at h2
     ·exact ih (λl=>hm _) h2
     ·exact h2.elim
    ·exact⟨h2.1,ih (λl=>hm _) h2.2⟩
   ·exact h2.elim
theorem a0p{env:Env}{h:A3}{p:Prop}(hp:p){rs:b5l M5}{K:b5l AV->Prop}(hk:Z2 env h rs K):Z2 env h rs λl=>K l/\p:=gS (λl h=>⟨h,hp⟩) hk
theorem sg{P:Program}{gl:b5l (Nat × b5l AV)}{N:Nat}{f:FuncId}{ac:F7}{rs:b5l M5}(hf:P0 P f=some (N,ac,rs)){args c:b5l AV}{bf:b5l (Nat × Nat)}{r:AV}{c':b5l AV}{bf':b5l (Nat × Nat)}{e₀:Env}(k:Nat)(hk:bf.length=k)(hn:args.length<=N)(he:AG 0 args=e₀)(hbody:D P N 1 k ac (Qj gl k rs r c' bf') e₀ ⟨[some c],bf,gl⟩)(hpg:M6 gl:=by rfl):AC P gl f args c bf r c' bf':=by
 subst he hk;refine⟨OX hf,λσ cargs hi hr=>?_⟩;have hlow:Low σ 1 bf.length:=hi.low (Nat.le_refl _) (Nat.le_refl _)
 have hb:L4 P N ac (Gh rs λav h=>nz av=r/\plain r/\∃c0,h.A5[0]? =some (some c0)/\I4 c0/\c0.map (K4 0 (some 0))=c'/\c'.all ok1/\E0 [true] bf.length c'=true/\h.A9.take bf.length=bf'/\h.B0=gl) (AG 0 args) ⟨[some c],bf,gl⟩:=by
  refine Ob (OI (Nat.le_refl _) (Nat.le_refl _) hbody) λe env h hq=>?_
  cases e<;>first|exact hq.elim|exact a0p hq.2 hq.1
 refine(Nl hf hn hb σ cargs hi hr).mono λe w' hq=>?_
 obtain⟨σ',h',av,x,rfl,rfl,g2,g3,g4,g5,g6,c0,g7,g8,g9,g10,g11,g12,g13⟩:=hq;refine⟨σ'.cut [true] bf.length,⟨[some c'],bf',gl⟩,nz av,x,rfl,rfl,g2.cut hlow (λk hk=>?_) (Nat.le_refl _),?_,?_,by rw[mt];exact g5,rfl⟩
 ·cases k with
  |zero=>rfl
  |succ k=>omega
 ·have:=wN g3 (k:=bf.length) g7 g8 g9 g10 g11 (by rw[g13];exact hpg);rw[g12,g13]at this;exact this
 ·exact g4.nz.move (by rw[g5];exact g6) rfl λb o h=>dm h
theorem qt{gl:b5l (Nat × b5l AV)}{rs:b5l M5}{k:Nat}{R:Type}{f:R->AV}{fc:R->b5l AV}{fb:R->b5l (Nat × Nat)}{r r0:R}{env:Env}{h:A3}(hw:r=r0)(hp:plain (f r0)/\(fc r0).all ok1/\E0 [true] k (fc r0))(c0:b5l AV)(he:(BF env h rs).map (λl=>nz (S7 l))=some (f r0):=by kernel_rfl)(hb:h.A5[0]? =some (some c0):=by kernel_rfl)(hit:I4 c0:=by kernel_rfl)(hc:c0.map (K4 0 (some 0))=fc r0:=by kernel_rfl)(hf:h.A9.take k=fb r0:=by kernel_rfl)(hg:h.B0=gl:=by kernel_rfl):Qj gl k rs (f r) (fc r) (fb r) .ret env h:=by
 subst hw;obtain⟨l,h1,h2⟩:=Option.map_eq_some_iff.1 he;exact⟨Ey h1 h2,hp.1,c0,hb,hit,hc,hp.2.1,hp.2.2,hf,hg⟩
theorem a8g{gl:b5l (Nat × b5l AV)}{k:Nat}{rs:b5l M5}{r:AV}{c':b5l AV}{bf':b5l (Nat × Nat)}:Cz λe h=>Qj gl k rs r c' bf' .normal e h:=λe env h he hx=>⟨LU he hx.1,hx.2⟩
theorem oI{P:Program}{g:FuncId}{env:Env}{args:b5l B9}{h:A3}{small c c':b5l AV}{bf bf' bs:b5l (Nat × Nat)}{r:AV}(n:Nat)(β:b5m Nat)(args' cb cn:b5l AV)(hf:AC P h.B0 g small c bf r c' bf')(hp:c.all ok1/\c'.all ok1/\small.all okA/\plain r)(hbf:(β=none/\bf=[]/\bf'=[]/\bs=h.A9)\/∃x x',β=some 0/\bf=[x]/\bf'=[x']/\h.A9=[x]/\bs=[x'])(ha:evs env args=some args':=by kernel_rfl)(hn:h.A5[n]? =some (some cb):=by kernel_rfl)(hit:I4 cb:=by kernel_rfl)(hit':I4 c'=true:=by kernel_rfl)(hc:cb.map (K4 n β)=c:=by kernel_rfl)(hargs:args'.map (BQ n β)=small:=by kernel_rfl)(hcn:c'.map (Aj n β)=cn:=by kernel_rfl)(hgl:M6 h.B0:=by kernel_rfl):
  F3 P (.call (.c (.clo (.func g) [] [])) args) env h r ⟨h.A5.set n (some cn),bs,h.B0⟩:=by
 subst hcn;exact λK hk=>(Or rfl ha (a76 hf hgl hn hit hc hp.1 hit' hp.2.1 hargs hp.2.2.1 hp.2.2.2 hbf hk)).out
theorem E8{a:AV}(h:plain a):okA a:=by
 have one:∀{a:AV},plain a->ok1 a:=by
  intro a h;cases a with
  |sl els tok=>cases tok with
   |own id=>simp[plain]at h
   |_=>exact h
  |ptr k off=>cases h
  |row k off size len cap=>cases h
  |ps k t=>cases h
  |bb k els u=>cases h
  |_=>exact h
 cases a with
 |agg cs=>
  simp only[plain]at h
  exact List.all_eq_true.2 λx hx=>by
   obtain⟨i,hi⟩:=List.mem_iff_getElem?.1 hx;exact one (Ax h i x hi)
 |sl els tok=>exact one h
 |ptr k off=>cases h
 |row k off size len cap=>cases h
 |v x=>exact one h
 |G6 c o=>exact one h
 |nil=>exact one h
 |tuple vs=>exact one h
 |iface t x=>exact one h
 |clo f a b=>exact one h
 |F5 n=>exact one h
 |it s p=>exact one h
 |mp n=>exact one h
 |ps k t=>cases h
 |bb k els u=>cases h
theorem E1{a:AV}{l:b5l AV}(h1:okA a)(h2:l.all okA):(a::l).all okA:=by simp only[List.all_cons,h1,h2];rfl
section
variable {P:Program}{h h':A3}{env e:Env}{N kf:Nat}{Q:Exit->Env->A3->Prop}{x:F7}
theorem gH{m:b5l b5n}(hm:m.getD 0 false):∀k,k<1->m.getD k false:=λk hk=>by
 cases k with
 |zero=>exact hm
 |succ k=>omega
end
theorem a4h{a b:b5l AV}:C3 (a++b)=(C3 a&&C3 b):=by
 induction a with
 |nil=>rfl
 |cons x r ih=>simp only[List.cons_append,C3,ih,Bool.and_assoc]
def cellsOf{α:Type}(e:α->b5l AV)(l:b5l α):b5l AV:=(l.map e).flatten
section
variable {α:Type}{e:α->b5l AV}{sz:Nat}
theorem VF(hs:∀y,(e y).length=sz){l:b5l α}:∀r∈l.map e,r.length=sz:=by
 intro r hr;obtain⟨y,_,rfl⟩:=List.mem_map.1 hr;exact hs y
theorem a0w(hs:∀y,(e y).length=sz){l:b5l α}{i k:Nat}{y:α}(hy:l[i]? =some y)(hk:k<sz):(cellsOf e l)[i*sz+k]? =(e y)[k]? :=by
 rw[cellsOf,GM _ (VF hs) i k hk,b5b,hy];rfl
theorem YA(hs:∀y,(e y).length=sz):∀(l:b5l α),(cellsOf e l).length=l.length*sz
 |[]=>by simp[cellsOf]
 |y::l=>by
  have:=YA hs l;simp only[cellsOf,List.map_cons,List.flatten_cons,b5i,List.length_cons,Nat.add_mul]at this ⊢;rw[hs,this];omega
theorem GW(hn:∀y,I4 (e y)):∀{l:b5l α},l≠[]->I4 (cellsOf e l)=true
 |[],h=>(h rfl).elim
 |y::l,_=>by
  have:=hn y;cases hy:e y with
  |nil=>rw[hy]at this;cases this
  |cons a r=>rw[hy]at this;simp only[cellsOf,List.map_cons,List.flatten_cons,hy,List.cons_append,I4]at this ⊢;exact this
theorem S8(e:α->b5l AV){l:b5l α}(h:H9 (l.map e)):C3 (cellsOf e l):=by
 unfold cellsOf;revert h;generalize l.map e=x;intro h
 induction x with
 |nil=>rfl
 |cons a r ih=>simp only[H9,b47]at h;rw[List.flatten_cons,a4h,h.1,ih h.2];rfl
theorem fg{l:b5l α}{i:Nat}{y:α}(hy:l[i]? =some y):l≠[]:=by rintro rfl;simp at hy
theorem fQ(hs:∀y,(e y).length=sz):∀{l:b5l α}{i:Nat}{y:α},l[i]? =some y->((cellsOf e l).drop (i*sz)).take sz=e y
 |[],i,y,h=>by simp at h
 |z::l,0,y,h=>by
  simp at h;subst h;simp only[cellsOf,List.map_cons,List.flatten_cons,Nat.zero_mul,List.drop_zero];rw[List.take_append_of_le_length (by rw[hs];exact Nat.le_refl _),List.take_of_length_le (by rw[hs];exact Nat.le_refl _)]
 |z::l,i+1,y,h=>by
  have:=fQ hs (l:=l) (i:=i) (y:=y) (by simpa using h);simp only[cellsOf,List.map_cons,List.flatten_cons]at this ⊢
  have h2:(e z++(List.map e l).flatten).drop ((i+1)*sz)=((List.map e l).flatten).drop (i*sz):=by
   have h3:=hs z;rw[List.drop_append,h3,List.drop_of_length_le (by rw[h3,Nat.add_mul];omega),List.nil_append]
   congr 1
   rw[Nat.add_mul];omega
  rw[h2];exact this
theorem gf(hs:∀y,(e y).length=sz):∀{l:b5l α}{i:Nat}{z:α},i<l.length->splice (cellsOf e l) (i*sz) (e z)=cellsOf e (l.set i z)
 |[],i,z,h=>by simp at h
 |y::l,0,z,h=>by
  simp only[splice,cellsOf,List.map_cons,List.flatten_cons,Nat.zero_mul,List.take_zero,List.nil_append,Nat.zero_add,List.set_cons_zero];rw[hs,List.drop_append_of_le_length (by rw[hs];exact Nat.le_refl _),List.drop_of_length_le (by rw[hs];exact Nat.le_refl _),List.nil_append]
 |y::l,i+1,z,h=>by
  have:=gf hs (l:=l) (i:=i) (z:=z) (by simpa using h);simp only[splice,cellsOf,List.map_cons,List.flatten_cons,List.set_cons_succ]at this ⊢;rw[<-this,Nat.add_mul,Nat.one_mul,Nat.add_comm (i*sz) sz]
  have h1:(e y++(List.map e l).flatten).take (sz+i*sz)=e y++((List.map e l).flatten).take (i*sz):=by
   have:=hs y;rw[List.take_append,this,List.take_of_length_le (by omega)];congr 2;omega
  have h2:(e y++(List.map e l).flatten).drop (sz+i*sz+(e z).length)=((List.map e l).flatten).drop (i*sz+(e z).length):=by
   have:=hs y;rw[List.drop_append,this,List.drop_of_length_le (by omega),List.nil_append];congr 1;omega
  rw[h1,h2];simp[List.append_assoc]
theorem uF(z:α)(hs:(e z).length=sz)(n:Nat):W8 sz n (e z)=cellsOf e (List.replicate n z):=by
 have hl:(W8 sz n (e z)).length=n*sz:=by simp[W8]
 have hl2:(cellsOf e (List.replicate n z)).length=n*sz:=by
  simp only[cellsOf,List.map_replicate,List.length_flatten,List.map_replicate,List.sum_replicate_nat,hs]
 refine List.ext_getElem? λi=>?_
 rcases Nat.lt_or_ge i (n*sz) with hi|hi
 ·have h0:0<sz:=by
   rcases Nat.eq_zero_or_pos sz with h|h
   ·subst h;simp at hi
   ·exact h
  have hm:i % sz<sz:=Nat.mod_lt _ h0;have hd:i / sz<n:=(Nat.div_lt_iff_lt_mul h0).2 hi
  have e1:(W8 sz n (e z))[i]? =some ((e z).getD (i % sz) .nil):=by
   simp[W8,List.getElem?_range,hi]
  have e2:(cellsOf e (List.replicate n z))[i]? =(e z)[i % sz]? :=by
   have hh:=GM (List.map e (List.replicate n z)) (size:=sz) (by
    intro r hr;simp only[List.map_replicate,List.mem_replicate]at hr;rw[hr.2,hs]) (i / sz) (i % sz) hm
   rw[Nat.mul_comm,Nat.div_add_mod]at hh;rw[cellsOf,hh];simp[List.getElem?_replicate,hd]
  rw[e1,e2,List.getD_eq_getElem?_getD];rw[b48 (by rw[hs];exact hm)];rfl
 ·rw[List.getElem?_eq_none (by omega),List.getElem?_eq_none (by omega)]
end
section
variable {P:Program}{h h':A3}{env:Env}{α:Type}{e:α->b5l AV}{sz:Nat}
theorem sZ{x y:B9}{bytes:Nat}{zero:b5l AV}(e:α->b5l AV)(z:α)(L C:Int)(h0:0<=L/\L<=C/\C*bytes<=140737488355328)(hx:Bw (x.ev env)=some L:=by kernel_rfl)(hy:Bw (y.ev env)=some C:=by kernel_rfl)(hz:zero=e z:=by kernel_rfl)(hs:(e z).length=sz:=by kernel_rfl):F3 P (.make sz bytes zero x y) env h (.row h.A5.length 0 sz L.toNat C.toNat) ⟨h.A5++[some (cellsOf e (List.replicate C.toNat z))],h.A9,h.B0⟩:=by
 obtain⟨k1,hx⟩:=LH hx;obtain⟨k2,hy⟩:=LH hy;subst hz;intro K hk;simp only[E9,hx,hy,wv,MV];rw[uF z hs];exact .inl ⟨h0,hk⟩
theorem a0r{x i:B9}(r len cap:Nat){n:Int}(h0:0<=n/\n<(len:Int))(hx:x.ev env=some (.row r 0 sz len cap):=by kernel_rfl)(hi:Bw (i.ev env)=some n:=by kernel_rfl):F3 P (.Bg sz x i) env h (.ptr r (0+n.toNat*sz)) h:=by
 obtain⟨k,hi⟩:=LH hi;intro K hk;simp only[E9,hx,hi,wv,MF];exact⟨h0,trivial,hk⟩
theorem iU{r off:Nat}{l:b5l α}(hn:∀y,I4 (e y))(hb:h.A5[r]? =some (some (cellsOf e l)))(hl:l≠[]):S4 h (.ptr r off)=some (cellsOf e l,off):=by
 simp only[S4,hb,GW hn hl,if_true]
theorem b07{x:B9}{r off i k:Nat}{l:b5l α}{y:α}{av:AV}(hs:∀y,(e y).length=sz)(hn:∀y,I4 (e y))(hy:l[i]? =some y)(hk:k<sz)(hav:(e y)[k]? =some av)(hoff:off=i*sz+k)(hx:x.ev env=some (.ptr r off):=by kernel_rfl)(hb:h.A5[r]? =some (some (cellsOf e l)):=by kernel_rfl):F3 P (.load none x) env h av h:=by
 intro K hK;simp only[E9,hx,wv,Cy,iU hn hb (fg hy)];rw[hoff,a0w hs hy hk,hav];exact hK
theorem a7t{x:B9}{r off i:Nat}{l:b5l α}{y:α}{cs:b5l AV}(hs:∀y,(e y).length=sz)(hn:∀y,I4 (e y))(hy:l[i]? =some y)(hcs:e y=cs)(hoff:off=i*sz)(hx:x.ev env=some (.ptr r off):=by kernel_rfl)(hb:h.A5[r]? =some (some (cellsOf e l)):=by kernel_rfl):F3 P (.load (some sz) x) env h (.agg cs) h:=by
 intro K hK;subst hcs;simp only[E9,hx,wv,Cy,iU hn hb (fg hy)];rw[hoff,fQ hs hy];refine⟨?_,hK⟩;rw[YA hs,<-Nat.succ_mul];exact Nat.mul_le_mul_right sz (List.getElem?_eq_some_iff.1 hy).1
theorem b19{p x:B9}{r off i:Nat}{l:b5l α}{av:AV}(z:α)(hs:∀y,(e y).length=sz)(hn:∀y,I4 (e y))(hi:i<l.length)(hav:e z=av.cells)(hoff:off=i*sz)(hp:p.ev env=some (.ptr r off):=by kernel_rfl)(hx:x.ev env=some av:=by kernel_rfl)(ht:av.isTuple=false:=by kernel_rfl)(hb:h.A5[r]? =some (some (cellsOf e l)):=by kernel_rfl):F3 P (.store sz p x) env h (.tuple []) ⟨h.A5.set r (some (cellsOf e (l.set i z))),h.A9,h.B0⟩:=by
 intro K hK;have hne:l≠[]:=by rintro rfl;simp at hi
 simp only[E9,hp,hx,wv,Da,hb,GW hn hne];rw[<-gf hs hi,hav,<-hoff]at hK;refine .inl ⟨⟨trivial,by rw[<-hav];exact hs z,?_,ht⟩,hK⟩;rw[hoff,YA hs,<-Nat.succ_mul];exact Nat.mul_le_mul_right sz hi
end
section
variable {P:Program}{h:A3}{env:Env}{K:Env->A3->Prop}{L:b5l C2}{k:Nat}
end
def Cj(n:Nat)(els:b5l (b5l AV)):AV->AV
 |.row k off size len cap=>if k=n then .sl els .no else .row k off size len cap
 |a=>a
def GQ(n:Nat)(els:b5l (b5l AV)):Env->Env
 |[]=>[]
 |(t,a)::e=>(t,Cj n els a)::GQ n els e
theorem dn{n:Nat}{els:b5l (b5l AV)}:∀{e:Env}{t:Nat}{b:AV},get (GQ n els e) t=some b->∃a,get e t=some a/\b=Cj n els a
 |[],_,_,h=>by cases h
 |(u,a)::e,t,b,h=>by
  simp only[GQ,get]at h ⊢;split at h
  ·rename_i hu;rw[if_pos hu];cases h;exact⟨a,rfl,rfl⟩
  ·rename_i hu;rw[if_neg hu];exact dn h
def Db(n:Nat):Env->b5l (Nat × Nat × Nat)
 |[]=>[]
 |(_,.row k off size len _)::e=>if k=n then(off,size,len)::Db n e else Db n e
 |_::e=>Db n e
theorem ay{n:Nat}:∀{e:Env}{t off size len cap:Nat},get e t=some (.row n off size len cap)->(off,size,len)∈Db n e
 |[],_,_,_,_,_,h=>by cases h
 |(u,a)::e,t,off,size,len,cap,h=>by
  simp only[get]at h;split at h
  ·cases h;simp[Db]
  ·have:=ay h;unfold Db;split
   ·rename_i heq;cases heq
   ·rename_i heq;cases heq;split
    ·exact List.mem_cons_of_mem _ this
    ·exact this
   ·rename_i heq;cases heq;exact this
theorem vz{P:Program}{h:A3}{env:Env}{N kb kf:Nat}{Q:Exit->Env->A3->Prop}{x:F7}(n:Nat)(m:b5l b5n)(k:Nat)(cells:b5l AV)(els:b5l (b5l AV))(sz len c:Nat)(hb:h.A5[n]? =some (some cells))(hce:els.flatten=cells)(hsz:∀el∈els,el.length=sz)(hlen:els.length=len)(hpos:0<sz)(hit:els≠[]->I4 cells)(hrow:Db n env=List.replicate c (0,sz,len))(hmn:m.getD n false=false)(hal:CP m h.A5)(hm:∀k,k<kb->m.getD k false)(hn:kf<=k){e:Env}(hE:GQ n els env=e)(he:Y4 m k e)(hB:S9 m k (K2 m h.A5))(hg:M6 h.B0)(hx:D P N kb kf x Q e ⟨K2 m h.A5,h.A9.take k,h.B0⟩):D P N kb kf x Q env h:=⟨by
 subst hE;intro co hc σ0 σ a hs hle hl;refine hx.out co hc σ0 (σ.cut m k) a ⟨hs.inv.cut m k hB hg,λt av ht=>?_,hs.size,hs.defers⟩ (hle.cut hl hm hn) hl;have hlow:=QU he ht;obtain⟨a0,h1,rfl⟩:=dn ht;obtain⟨y,h2,h3⟩:=hs.env t a0 h1;refine⟨y,h2,?_⟩;cases a0 with
 |row j off size len' cap=>
  simp only[Cj]at hlow ⊢;split at hlow
  ·rename_i hj;subst hj;rw[if_pos rfl];have hrr:=ay h1;rw[hrow]at hrr;obtain⟨rfl,rfl,rfl⟩:off=0/\size=sz/\len'=len:=by simpa using (List.mem_replicate.1 hrr).2
   cases h3 with
   |row _ _ _ _ _ b cap' hblk hcap _ _=>
   obtain⟨b',h4,h5⟩:=hs.inv.blk j cells hb;rw[hblk]at h4;cases h4;subst hlen;rcases Classical.em (els=[]) with h0|h0
   ·subst h0;exact .L3 _ ⟨b,0,none⟩ cap' trivial (.inl rfl)
   have hni:=hit h0;obtain⟨cs,rest,elem,h6,h7⟩:=h5.plain hni;have hlc:K7 m k els:=by simpa[low]using hlow
   have key:∀(i:Nat) (el:b5l AV),els[i]? =some el->∀(q:Nat) (av:AV),el[q]? =some av->∃xv,σ.w.cell? ⟨b,0+i*size+q,none⟩=some xv/\Rel σ av xv/\av.isCell=true:=by
    intro i el hi q av hq;have hql:q<size:=by rw[<-hsz el (b5g hi)];exact(List.getElem?_eq_some_iff.1 hq).1
    have hf:=GM els hsz i q hql;rw[hi,Option.bind_some,hq,hce]at hf;obtain⟨q1,xv,q2,q3⟩:=h7.2 _ av hf;refine⟨xv,?_,q3,q1⟩;have hlt:=(List.getElem?_eq_some_iff.1 q2).1;rw[Nat.zero_add];simp[World.cell?,h6,b49 hlt,q2]
   have hne:cells≠[]:=Ek hni;refine Rel.sl (σ:=σ.cut m k) els .no b 0 cap' size (λi q=>(σ.w.cell? ⟨b,0+i*size+q,none⟩).getD undef) (λi el hi=>hsz el (b5g hi)) hcap trivial (λid e hid=>by cases hid) (λi el hi q av hq=>?_) λi el hi q av hq=>?_
   ·obtain⟨xv,q1,q2,q3⟩:=key i el hi q av hq;refine⟨by show σ.w.cell? _=_;rw[q1];rfl,?_,q3⟩;rintro (ho|⟨j',hj'⟩|⟨id,eb,he1,he2⟩)
    ·exact(hs.inv.outer _ _ ho).2 (.inl ⟨j,hblk⟩)
    ·simp only[Sg.cut]at hj';split at hj'
     ·rename_i hmj;obtain⟨c',hc'⟩:=hs.inv.dom j' b hj';have:=hs.inv.inj j' j b c' cells hc' hb (Us hal hmj hc') hne hj' hblk;subst this;rw[hmn]at hmj;cases hmj
     ·cases hj'
    ·simp only[Sg.cut]at he1;split at he1
     ·exact hs.inv.I6 id eb j b _ he1 he2 hblk
     ·cases he1
   ·obtain⟨xv,q1,q2,q3⟩:=key i el hi q av hq;rw[q1];exact q2.cut (Cr (UF hlc i el hi) q av hq)
  ·rename_i hj;rw[if_neg hj];exact h3.cut hlow
 |_=>exact h3.cut hlow⟩
theorem drf{P:Program}{h:A3}{env:Env}{N kb kf:Nat}{Q:Exit->Env->A3->Prop}{x:F7}{α:Type}{f:α->b5l AV}{sz:Nat}(n:Nat)(m:b5l b5n)(k c:Nat)(l:b5l α)(len:Nat)(e:Env)(bs:b5l (b5m (b5l AV)))(hs:∀y,(f y).length=sz)(hni:∀y,I4 (f y))(hlen:l.length=len)(hw:Y4 m k e/\S9 m k bs)(hx:D P N kb kf x Q e ⟨bs,h.A9.take k,h.B0⟩)(hb:h.A5[n]? =some (some (cellsOf f l)):=by kernel_rfl)(hpos:Nat.ble 1 sz:=by kernel_rfl)(hrow:Db n env=List.replicate c (0,sz,len):=by kernel_rfl)(hmn:m.getD n false=false:=by kernel_rfl)(hal:CP m h.A5:=by kernel_rfl)(hm:∀k,k<kb->m.getD k false:=by intro k hk;first|exact absurd hk (Nat.not_lt_zero _)|exact gH rfl k hk)(hkf:Nat.ble kf k:=by kernel_rfl)(hE:GQ n (List.map f l) env=e:=by kernel_rfl)(hbs:K2 m h.A5=bs:=by kernel_rfl)(hg:M6 h.B0:=by kernel_rfl):D P N kb kf x Q env h:=by
 subst hbs;exact vz n m k _ (List.map f l) sz len c hb rfl (VF hs) (by rw[List.length_map];exact hlen) (b5h hpos) (λh0=>GW hni (λh=>h0 (by rw[h];rfl))) hrow hmn hal hm (b5h hkf) hE hw.1 hw.2 hg hx
def Oo(ord:b5l (b5l Nat))(al:b5l C2)(n:Nat):b5n:=
 (List.range n).all λi=>match al[i]? with
  |some o=>AH o.op&& !Bc o&&(Dy o.op||(ord.getD n []).contains i)
  |none=>false
theorem lq{ord:b5l (b5l Nat)}{al:b5l C2}{n i:Nat}{o:C2}(h:Oo ord al n)(hi:i<n)(ho:al[i]? =some o):AH o.op/\Bc o=false/\(Dy o.op=true\/i∈ord.getD n []):=by
 simp only[Oo,b5e,List.mem_range]at h;have:=h i hi;rw[ho]at this;simpa[b47,Bool.or_eq_true,and_assoc]using this
theorem gz{a b:b5l C2}(h:AK (a++b)):AK a:=by
 induction a with
 |nil=>rfl
 |cons o a ih=>
  simp only[List.cons_append,AK,b47,b5e]at h ⊢
  have sub:∀t,I2 t (o::a)->I2 t (o::(a++b)):=by
   intro t ht;simp only[I2,List.any_cons,List.any_append,Bool.or_eq_true]at ht ⊢;rcases ht with h1|h1
   ·exact .inl h1
   ·exact .inr (.inl h1)
  have sub2:∀t,I2 t a->I2 t (a++b):=by
   intro t ht;simp only[I2,List.any_append,Bool.or_eq_true]at ht ⊢;exact .inl ht
  refine⟨⟨λt ht=>?_,?_⟩,ih h.2⟩
  ·have:=h.1.1 t ht;cases hw:I2 t (o::a) with
   |true=>rw[sub t hw]at this;exact this
   |false=>rfl
  ·cases hd:o.dst with
   |none=>rfl
   |some d=>
    have h2:=h.1.2;rw[hd]at h2;simp only at h2 ⊢;cases hw:I2 d a with
    |true=>rw[sub2 d hw]at h2;exact h2
    |false=>rfl
theorem fY(h:A3)(lst:Nat->b5n):hA h [] lst=h:=by simp[hA]
theorem b15{P:Program}{I:A3->Prop}{ord:b5l (b5l Nat)}{al:b5l C2}{w:C2}{n:Nat}{env:Env}{h:A3}{K:Env->A3->Prop}(hn:al.length=n+1)(hw:al[n]? =some w)(hg:w.guard=none)(hd:w.dst=none)(hok:AK al)(hst:Oo ord al n)(hI:I h)(hv:vs P I false (al.take n) env h λF h0=>∃av h',F3 P w.op F h0 av h'/\K F h'):∃F h' fl,Md P ord al env F h h' [] [h,h'] fl/\K F h':=by
 have hal:al=al.take n++[w]:=by
  have h1:=List.take_append_drop n al
  have h2:al.drop n=[w]:=by
   have:n<al.length:=by omega
   rw[b5c this];have h3:=b48 this;rw[hw]at h3;cases h3;rw[b5d (by omega)]
  rw[h2]at h1;exact h1.symm
 have hlen:(al.take n).length=n:=by simp;omega
 obtain⟨F,az,hs,fl,h0,ps,⟨av,h',hdoes,hk⟩,hnil⟩:=IZ (i0:=0) (j:=0) (gz (b:=[w]) (by rw[<-hal];exact hok)) hv;have has:az=[]:=hnil rfl;subst has;have hget:∀i,i<n->∃o,al[i]? =some o/\(al.take n)[i]? =some o:=λi hi=>⟨al[i],b48 (by omega),by rw[List.getElem?_take,if_pos hi];exact b48 (by omega)⟩
 have hflen:fl.length=n:=by rw[ps.len,hlen]
 have hnone:∀i,i<n->fl[i]? =some none:=by
  intro i hi;have e:fl[i]? =some fl[i]:=b48 (by omega);cases hf:fl[i]with
  |none=>rw[e,hf]
  |some m=>
   rw[hf]at e;obtain⟨o,h1,h2⟩:=hget i hi;have h3:=(ps.DW i m o e h2).1;have h4:=(lq hst hi h1).1;rw[h3]at h4;cases h4
 obtain⟨m,hm1,hm2⟩:=ps.last
 have hone:m=0:=by
  rcases Nat.eq_zero_or_pos m with h1|h1
  ·exact h1
  ·obtain⟨i,hi⟩:=ps.onto 0 (Nat.zero_le _) (by omega);have hlt:i<n:=by rw[<-hflen];exact(List.getElem?_eq_some_iff.1 hi).1
   rw[hnone i hlt]at hi;cases hi
 subst hone;have hf0:=ps.first;rw[hm2]at hf0
 have h00:h0=h:=by
  have:=Option.some.inj hf0;rw[this];simp
 subst h00;refine⟨F,h',fl++[some 0],?_,hk⟩
 have hfl:∀i x,(fl++[some 0])[i]? =some x->(i<n/\x=none)\/(i=n/\x=some 0):=by
  intro i x hx;rcases Nat.lt_trichotomy i n with h1|h1|h1
  ·rw[b49 (by omega),hnone i h1]at hx;cases hx;exact .inl ⟨h1,rfl⟩
  ·subst h1;rw[b5a (by omega),hflen,Nat.sub_self]at hx;cases hx;exact .inr ⟨rfl,rfl⟩
  ·rw[List.getElem?_eq_none (by simp;omega)]at hx;cases hx
 have hlast:(fl++[some 0])[n]? =some (some 0):=by rw[b5a (by omega),hflen,Nat.sub_self];rfl
 refine⟨by simp[hflen,hn],λi k a b hik hi hk=>?_,λj hj=>?_,?_,⟨1,rfl,rfl⟩,λi x hi=>?_,λt ht=>?_,λq p hq=>(by simp at hq),λq r p s hq=>(by simp at hq),λk x hk p hp=>(by cases hp),λi o x hi hx=>?_⟩
 ·rcases hfl i _ hi with⟨_,h1⟩|⟨h1,_⟩
  ·cases h1
  ·rcases hfl k _ hk with⟨_,h2⟩|⟨h2,_⟩
   ·cases h2
   ·omega
 ·obtain rfl:j=0:=by
   have:j+1<2:=hj;omega
  exact⟨n,hlast⟩
 ·rw[fY];rfl
 ·rcases hfl i _ hi with⟨_,h1⟩|⟨_,h1⟩
  ·cases h1
  ·cases h1;simp
 ·refine ps.keep t ?_;rw[hal]at ht;simp only[I2,List.any_append,Bool.or_eq_false_iff]at ht ⊢;exact ht.1
 ·right;rcases hfl i _ hx with⟨h1,rfl⟩|⟨rfl,rfl⟩
  ·obtain⟨o',e1,e2⟩:=hget i h1;rw[hi]at e1;cases e1;obtain⟨hq,hnew,hp⟩:=lq hst h1 hi;rcases ps.fact i o none e2 (hnone i h1) with⟨q,p,e3,_⟩|hf
   ·simp at e3
   have conv:Lq P I F hs 0 o none->Mm P F h0 [] [h0,h'] ord (fl++[some 0]) i o none:=by
    rintro⟨a,hqa,hfd⟩;rcases hp with hp|hp
    ·exact⟨a,0,1,by simp,λj lst hj _ _ _=>Wc hp (hqa h0 hI),λk x _ hx=>by omega,.inl (by simp),hfd⟩
    ·refine⟨a,0,0,by simp,λj lst hj h3 h4 h5=>?_,λk x _ hx=>by omega,.inr ⟨n,hlast,hp⟩,hfd⟩;have:j=0:=by omega
     subst this;have h6:hA h0 [] lst=hj:=Option.some.inj h5;rw[fY]at h6;rw[<-h6];exact hqa h0 hI
   unfold Gk;unfold Mi at hf;cases hgd:o.guard with
   |none=>rw[hgd]at hf;exact conv hf
   |some g=>
    obtain⟨t,want⟩:=g;rw[hgd]at hf;rcases hf with⟨b,k1,k2,k3⟩|hf
    ·exact .inl ⟨b,k1,λhb=>conv (k2 hb),k3⟩
    ·exact .inr hf
  ·rw[hw]at hi;cases hi;unfold Gk;rw[hg];simp only;exact⟨av,h0,h',rfl,rfl,hdoes _ ⟨rfl,rfl⟩,λd hd'=>by rw[hd]at hd';cases hd'⟩
theorem dL{P:Program}{N kb kf:Nat}{Q:Exit->Env->A3->Prop}{env:Env}{h:A3}(n:Nat)(S:b5l (Nat × b5l AV)){ord:b5l (b5l Nat)}{al tl:b5l C2}{w:C2}(hw:al[n]? =some w)(hv:Sp P S h.B0 false (al.take n) 0 env h λF h0=>∃av h',F3 P w.op F h0 av h'/\Vp P tl 0 F h' λenv' h''=>Q .normal env' h'')(hn:al.length=n+1:=by kernel_rfl)(hg:w.guard=none:=by kernel_rfl)(hd:w.dst=none:=by kernel_rfl)(hok:AK al:=by kernel_rfl)(hst:Oo (clo ord) al n:=by kernel_rfl)(hS:DQ S h=S.map (λp=>some (some p.2)):=by kernel_rfl):D P N kb kf (.drawn ord al tl) Q env h:=by
 obtain⟨F,h',fl,hn',hk⟩:=b15 (I:=DT S h.B0) (K:=λF h'=>vd P tl F h' λenv' h''=>Q .normal env' h'') hn hw hg hd hok hst (TX hS rfl) hv;exact Ff ⟨ZR hn' (It hk)⟩
structure Q8{α:Type}(e:α->List AV)(sz:Nat):Prop where
 hs:∀y,(e y).length=sz
 hn:∀y,I4 (e y)=true
 hp:∀y,C3 (e y)=true
 hz:∀y,(e y).map L8=e y
section
variable {α:Type}{e:α->b5l AV}{sz:Nat}
theorem nO:∀{l:b5l AV},C3 l->∀a∈l,plain a=true
 |[],_,a,h=>by cases h
 |b::l,hp,a,h=>by
  simp only[C3,b47]at hp;rcases List.mem_cons.1 h with h|h
  ·rw[h];exact hp.1
  ·exact nO hp.2 a h
theorem b2x{n:Nat}{β:b5m Nat}{a:AV}(hp:plain a)(hz:L8 a=a):K4 n β a=a:=by
 cases a with
 |nil=>simp[L8]at hz
 |sl els tok=>cases tok<;>simp_all [L8,K4]
 |ptr _ _=>simp[plain]at hp
 |row _ _ _ _ _=>simp[plain]at hp
 |ps _ _=>simp[plain]at hp
 |bb _ _ _=>simp[plain]at hp
 |_=>rfl
theorem b1p{n:Nat}{β:b5m Nat}{a:AV}(hp:plain a):Aj n β a=a:=by
 cases a with
 |sl els tok=>cases tok<;>first|rfl|simp_all [plain]
 |ptr _ _=>simp[plain]at hp
 |row _ _ _ _ _=>simp[plain]at hp
 |ps _ _=>simp[plain]at hp
 |bb _ _ _=>simp[plain]at hp
 |_=>rfl
theorem sF{a:AV}(hp:plain a):ok1 a:=by
 cases a with
 |sl els tok=>cases tok<;>first|exact hp|simp_all [plain,ok1]
 |ptr _ _=>simp[plain]at hp
 |row _ _ _ _ _=>simp[plain]at hp
 |ps _ _=>simp[plain]at hp
 |bb _ _ _=>simp[plain]at hp
 |_=>exact hp
theorem Q8.mem(he:Q8 e sz){l:b5l α}{a:AV}(h:a∈cellsOf e l):plain a/\L8 a=a:=by
 unfold cellsOf at h;obtain⟨c,hc,ha⟩:=List.mem_flatten.1 h;obtain⟨y,_,rfl⟩:=List.mem_map.1 hc;refine⟨nO (he.hp y) a ha,?_⟩;obtain⟨i,hi⟩:=List.mem_iff_getElem?.1 ha;have:=congrArg (λl=>l[i]?) (he.hz y);simpa[b5b,hi]using this
theorem lU{f:AV->AV}{l:b5l AV}(h:∀a∈l,f a=a):l.map f=l:=by
 induction l with
 |nil=>rfl
 |cons a l ih=>rw[List.map_cons,h a List.mem_cons_self,ih λb hb=>h b (List.mem_cons_of_mem _ hb)]
theorem Q8.BQ(he:Q8 e sz)(n:Nat)(β:b5m Nat)(l:b5l α):(cellsOf e l).map (K4 n β)=cellsOf e l:=lU λa ha=>b2x (he.mem ha).1 (he.mem ha).2
theorem Q8.big(he:Q8 e sz)(n:Nat)(β:b5m Nat)(l:b5l α):(cellsOf e l).map (Aj n β)=cellsOf e l:=lU λa ha=>b1p (he.mem ha).1
theorem Q8.ok(he:Q8 e sz)(l:b5l α):(cellsOf e l).all ok1:=List.all_eq_true.2 λa ha=>sF (he.mem ha).1
theorem b0s(m:b5l b5n)(n:Nat):∀{l:b5l AV},C3 l->E0 m n l:=λh=>H5 m n _ h
theorem a4g{l:b5l AV}(h:∀a∈l,plain a):C3 l:=by
 induction l with
 |nil=>rfl
 |cons a l ih=>simp only[C3,b47];exact⟨h a List.mem_cons_self,ih λb hb=>h b (List.mem_cons_of_mem _ hb)⟩
theorem Q8.plain(he:Q8 e sz)(l:b5l α):C3 (cellsOf e l):=a4g λa ha=>(he.mem ha).1
def Y8(P:Program)(e:α->b5l AV)(sz:Nat)(f:FuncId)(len:Nat)(args:b5l AV)(l r:b5l α):Prop:=AC P [] f (.row 0 0 sz len len::args) (cellsOf e l) [] (.tuple []) (cellsOf e r) []
theorem b2b{l r:b5l α}{env:Env}{h:A3}(he:Q8 e sz)(hw:l≠[]/\r=l)(hb:h.A5[0]? =some (some (cellsOf e l)):=by kernel_rfl)(hf:h.A9.take 0=[]:=by kernel_rfl)(hg:h.B0=[]:=by kernel_rfl):Qj [] 0 [] (.tuple []) (cellsOf e r) [] .ret env h:=by
 obtain⟨h1,rfl⟩:=hw;exact qt (f:=λ_=>.tuple []) (fc:=λr=>cellsOf e r) (fb:=λ_=>[]) (r:=r) rfl ⟨rfl,he.ok r,b0s _ _ (he.plain r)⟩ (cellsOf e r) rfl hb (GW he.hn h1) (he.BQ _ _ _) hf hg
theorem b3m{P:Program}{g:FuncId}{env:Env}{args:b5l B9}{h:A3}{len:Nat}{small:b5l AV}{l r:b5l α}(n:Nat)(args':b5l AV)(he:Q8 e sz)(hf:Y8 P e sz g len small l r)(h0:l≠[]/\r≠[])(hok:small.all okA)(ha:evs env args=some args':=by kernel_rfl)(hn:h.A5[n]? =some (some (cellsOf e l)):=by kernel_rfl)(hargs:args'.map (BQ n none)=.row 0 0 sz len len::small:=by kernel_rfl)(hgl:h.B0=[]:=by kernel_rfl):
  F3 P (.call (.c (.clo (.func g) [] [])) args) env h (.tuple []) ⟨h.A5.set n (some (cellsOf e r)),h.A9,h.B0⟩:=by
 have hf':AC P h.B0 g (.row 0 0 sz len len::small) (cellsOf e l) [] (.tuple []) (cellsOf e r) []:=by rw[hgl];exact hf
 exact oI n none args' (cellsOf e l) (cellsOf e r) hf' ⟨he.ok l,he.ok r,E1 rfl hok,rfl⟩ (.inl ⟨rfl,rfl,rfl,rfl⟩) ha hn (GW he.hn h0.1) (GW he.hn h0.2) (he.BQ _ _ _) hargs (he.big _ _ _) (by rw[hgl];rfl)
end
theorem b3o(c:Nat)(h:c<256):I3 .and .u8 (c:Int) 127=((c % 128:Nat):Int):=by
 have:∀c:Fin 256,I3 .and .u8 ((c.val:Nat):Int) 127=((c.val % 128:Nat):Int):=by decide+kernel
 exact this ⟨c,h⟩
theorem aZ(a b:Nat)(ha:a<18446744073709551616)(hb:b<18446744073709551616):I3 .or .u64 (a:Int) (b:Int)=((a|||b:Nat):Int):=by
 have h:=Nat.or_lt_two_pow (n:=64) (x:=a) (y:=b) (by simpa using ha) (by simpa using hb);have e1:((a:Int) % (2 ^ 64:Nat)).toNat=a:=by omega
 have e2:((b:Int) % (2 ^ 64:Nat)).toNat=b:=by omega
 have e3:I3 .or .u64 (a:Int) (b:Int)=IntKind.u64.wrap (((BitVec.ofInt 64 (a:Int)|||BitVec.ofInt 64 (b:Int)).toNat:Nat):Int):=rfl;rw[e3,BitVec.toNat_or,BitVec.toNat_ofInt,BitVec.toNat_ofInt,e1,e2];simp only[IntKind.wrap,IntKind.signed,IntKind.bits,Bool.false_and,Bool.false_eq_true,if_false];omega
theorem UT(u x k:Nat)(hu:u<2 ^ k):u|||x*2 ^ k=u+x*2 ^ k:=by
 have:=Nat.two_pow_add_eq_or_of_lt (i:=k) (b:=u) hu x;rw[Nat.or_comm,Nat.add_comm,Nat.mul_comm];exact this.symm
theorem C7{n:Int}(h: -9223372036854775808<=n/\n<=9223372036854775807):IntKind.i64.wrap n=n:=by simp[IntKind.wrap,IntKind.signed,IntKind.bits];omega
def AY(data:b5k)(at_ end_:Int):b5n:=decide (0<=at_/\at_<=end_/\end_<=(data.size:Int))
def H7(data:b5k)(at_ end_:Int):Int:=if AY data at_ end_=true then end_ - at_ else 0
theorem Ei{data:b5k}{at_ end_:Int}(h:0<H7 data at_ end_):0<=at_/\at_<end_/\end_<=(data.size:Int)/\H7 data at_ end_=end_ - at_:=by
 unfold H7 at h ⊢;split at h
 ·rename_i hs;rw[if_pos hs];simp only[AY,b45]at hs;omega
 ·omega
def G5(s:b5k)(i:Nat):Nat:=(I9 s i).toNat
theorem Cp(s:b5k)(i:Nat):I9 s i=(G5 s i:Int)/\G5 s i<256:=by
 have h:0<=I9 s i/\I9 s i<256:=by
  unfold I9;have:=(s.data.toList.getD i 0).toNat_lt;omega
 unfold G5;omega
def N5(s:b5k)(i u:Nat):Nat × Nat × Nat:=
 if 10<=i then(0,0,6) else if s.size<=i then(0,0,4) else if i=9/\1<G5 s i then(0,0,6) else if G5 s i<128 then(u+G5 s i*128 ^ i,i+1,0) else N5 s (i+1) (u+G5 s i % 128*128 ^ i)
 termination_by 10 - i
theorem Y2{n:Int}(h:0<=n/\n<=18446744073709551615):IntKind.u64.wrap n=n:=by simp[IntKind.wrap,IntKind.signed,IntKind.bits];omega
theorem Xk{i:Nat}(h:i<=9):128 ^ i<=9223372036854775808/\1<=128 ^ i/\(i<=8->128 ^ (i+1)<=9223372036854775808):=by
 have:i=0\/i=1\/i=2\/i=3\/i=4\/i=5\/i=6\/i=7\/i=8\/i=9:=by omega
 rcases this with rfl|rfl|rfl|rfl|rfl|rfl|rfl|rfl|rfl|rfl<;>decide
theorem IY(s:b5k){l u i:Nat}(h:l+i<u):G5 (s.extract l u) i=G5 s (l+i):=by
 unfold G5 I9;rw[Mw];simp only[List.getD_eq_getElem?_getD,List.getElem?_drop,List.getElem?_take,if_pos h]
theorem EB(s:b5k){l u:Nat}(h:u<=s.size):(s.extract l u).size=u - l:=by
 rw[ByteArray.size_extract];omega
theorem Jb(s:b5k)(l:Nat):s.extract l l=⟨#[]⟩:=by
 rw[Mw]
 congr 2
 apply b5d;simp;omega
theorem sx(s t:b5k)(h1:∀i,i<10->(s.size<=i↔t.size<=i))(h2:∀i,i<10->i<s.size->G5 s i=G5 t i)(n:Nat):∀i u,10 - i=n->N5 s i u=N5 t i u:=by
 induction n with
 |zero=>
  intro i u h;rw[N5.eq_def,N5.eq_def t,if_pos (show 10<=i by omega),if_pos (show 10<=i by omega)]
 |succ n ih=>
  intro i u h;have a1:=h1 i (by omega);rw[N5.eq_def,N5.eq_def t,if_neg (show ¬10<=i by omega),if_neg (show ¬10<=i by omega)]
  by_cases hs:s.size<=i
  ·rw[if_pos hs,if_pos (a1.1 hs)]
  ·have a2:=h2 i (by omega) (by omega);rw[if_neg hs,if_neg (λh=>hs (a1.2 h)),a2];split
   ·rfl
   split
   ·rfl
   exact ih _ _ (by omega)
theorem fw(s:b5k)(n:Nat):∀i u,10 - i=n->(N5 s i u).2.1<=s.size/\((N5 s i u).2.2≠0->(N5 s i u).1=0/\(N5 s i u).2.1=0)/\((N5 s i u).2.2=0->0<(N5 s i u).2.1):=by
 induction n with
 |zero=>
  intro i u h;rw[N5.eq_def,if_pos (by omega)];simp
 |succ n ih=>
  intro i u h;rw[N5.eq_def,if_neg (by omega)];split
  ·simp
  split
  ·simp
  split
  ·simp;omega
  exact ih _ _ (by omega)
def BE(s:b5k):Nat->Nat
 |0=>0
 |i+1=>BE s i+G5 s i*256 ^ i
theorem gi{i:Nat}(h:i<=7):256 ^ i<=72057594037927936/\1<=256 ^ i/\256 ^ i=2 ^ (8*i):=by
 have:i=0\/i=1\/i=2\/i=3\/i=4\/i=5\/i=6\/i=7:=by omega
 rcases this with rfl|rfl|rfl|rfl|rfl|rfl|rfl|rfl<;>decide
theorem dA(s:b5k):∀i,BE s i<256 ^ i
 |0=>by simp[BE]
 |i+1=>by
  have h1:=dA s i;have h2:=(Cp s i).2;have h3:(G5 s i+1)*256 ^ i<=256*256 ^ i:=Nat.mul_le_mul_right _ (by omega);rw[Nat.add_mul]at h3;rw[Nat.pow_succ];simp only[BE];omega
theorem iR(s t:b5k):∀n,(∀i,i<n->G5 s i=G5 t i)->BE s n=BE t n
 |0,_=>rfl
 |n+1,h=>by simp only[BE];rw[iR s t n (λi hi=>h i (by omega)),h n (by omega)]
def GL(s:b5k):Nat × Nat:=if s.size<8 then(0,4) else(BE s 8,0)
theorem ui(a:Nat):a&&&9218868437227405312=a % 9223372036854775808 / 4503599627370496*4503599627370496:=by
 apply Nat.eq_of_testBit_eq;intro i;have e:(9223372036854775808:Nat)=2 ^ 63:=by decide
 have e2:(4503599627370496:Nat)=2 ^ 52:=by decide
 have e3:(9218868437227405312:Nat)=(2^11 - 1)*2 ^ 52:=by decide
 rw[e3,e,e2,Nat.testBit_and,Nat.testBit_mul_two_pow,Nat.testBit_mul_two_pow,Nat.testBit_two_pow_sub_one,Nat.testBit_div_two_pow,Nat.testBit_mod_two_pow]
 by_cases h2:52<=i
 ·rw[show i - 52+52=i by omega]
  by_cases h3:i<63
  ·have:i - 52<11:=by omega
   simp[h2,h3,this]
  ·have:¬i - 52<11:=by omega
   simp[h3,this]
 ·simp[h2]
theorem Sd(a b:Nat)(ha:a<18446744073709551616)(hb:b<18446744073709551616):I3 .and .u64 (a:Int) (b:Int)=((a&&&b:Nat):Int):=by
 have h:a&&&b<=a:=Nat.and_le_left;have e1:((a:Int) % (2 ^ 64:Nat)).toNat=a:=by omega
 have e2:((b:Int) % (2 ^ 64:Nat)).toNat=b:=by omega
 have e3:I3 .and .u64 (a:Int) (b:Int)=IntKind.u64.wrap (((BitVec.ofInt 64 (a:Int)&&&BitVec.ofInt 64 (b:Int)).toNat:Nat):Int):=rfl;rw[e3,BitVec.toNat_and,BitVec.toNat_ofInt,BitVec.toNat_ofInt,e1,e2];simp only[IntKind.wrap,IntKind.signed,IntKind.bits,Bool.false_and,Bool.false_eq_true,if_false];omega
def GT(z:Nat):Nat:=if 9218868437227405312<z % 9223372036854775808 then 0 else if z % 9223372036854775808=9218868437227405312 then 1 else if z % 9223372036854775808=0 then 2 else if z % 9223372036854775808<4503599627370496 then 3 else 4
theorem z4(a:Nat)(h:a<18446744073709551616):I3 .xor .u64 (a:Int) 18446744073709551615=((18446744073709551615 - a:Nat):Int):=by
 have e3:I3 .xor .u64 (a:Int) 18446744073709551615=IntKind.u64.wrap (((BitVec.ofInt 64 (a:Int) ^^^ BitVec.allOnes 64).toNat:Nat):Int):=rfl;have e1:((a:Int) % (2 ^ 64:Nat)).toNat=a:=by omega
 rw[e3,BitVec.xor_allOnes,BitVec.toNat_not,BitVec.toNat_ofInt,e1,Y2 (by omega)]
theorem a92(a:Nat)(h:a<9223372036854775808):I3 .xor .i64 (a:Int) 0=a:=by
 have e3:I3 .xor .i64 (a:Int) 0=IntKind.i64.wrap (((BitVec.ofInt 64 (a:Int) ^^^ 0#64).toNat:Nat):Int):=rfl;have e1:((a:Int) % (2 ^ 64:Nat)).toNat=a:=by omega
 rw[e3,BitVec.xor_zero,BitVec.toNat_ofInt,e1,C7 (by omega)]
theorem yK(a:Nat)(h:a<9223372036854775808):I3 .xor .i64 (a:Int) (-1)= -(a:Int) - 1:=by
 have e3:I3 .xor .i64 (a:Int) (-1)=IntKind.i64.wrap (((BitVec.ofInt 64 (a:Int) ^^^ BitVec.allOnes 64).toNat:Nat):Int):=rfl;have e1:((a:Int) % (2 ^ 64:Nat)).toNat=a:=by omega
 rw[e3,BitVec.xor_allOnes,BitVec.toNat_not,BitVec.toNat_ofInt,e1];simp[IntKind.wrap,IntKind.signed,IntKind.bits];omega
abbrev hI(x y:Int):Int:=wI ((wU (wI (x+y))).fdiv (2 ^ min (1:Int).toNat IntKind.u64.bits))
structure EW(α:Type)(C:α->α->Int->Prop) where
 Kn:Int->Nat->Int->Int->Int->List α->List α->Prop
 sw:Nat->List α->Int->Int->Int->List α->Prop
 HK:Int->Int->Nat->Int->List α->List α->Prop
 ro:Nat->List α->Int->Int->Int->List α->Prop
 Kg:Int->Int->Nat->Int->Int->List α->List α->Prop
 HD:Int->Nat->Int->Int->List α->List α->Prop
 ins:Nat->List α->Int->Int->List α->Prop
 Km:Int->Int->Nat->List α->List α->Prop
 HF:Int->Int->Nat->Int->List α->List α->Prop
 Kv:Int->Int->Nat->List α->List α->Prop
 Gy:Int->Int->Nat->Int->List α->List α->Prop
 HJ:Int->Int->Int->Int->Nat->List α->List α->Prop
 HA:Int->Int->Int->Int->Nat->List α->List α->Prop
 Fx:Int->Int->Int->Int->Int->Nat->List α->List α->Prop
 NF:Int->Int->Int->Int->Int->Nat->List α->List α->Prop
 sy:Nat->List α->Int->Int->Int->List α->Prop
 Kr:Int->Int->Int->Nat->Int->List α->List α->Prop
 Eo:Int->Nat->Int->List α->List α->Prop
 Kq:Int->Int->Nat->Int->List α->List α->Prop
 st:Nat->List α->Int->List α->Prop
 so:Nat->List α->List α->Prop
 RB:∀i (n0:Nat) a b n l r,((decide (i<n))=true->(0<=(wI (b+i))/\(wI (b+i))<(n0:Int))/\(∃y3,l[(wI (b+i)).toNat]? =some y3/\((0<=(wI (a+i))/\(wI (a+i))<(n0:Int))/\(∃y4,l[(wI (a+i)).toNat]? =some y4/\((0<=(wI (a+i))/\(wI (a+i))<(n0:Int))/\((wI (a+i)).toNat<l.length/\((0<=(wI (b+i))/\(wI (b+i))<(n0:Int))/\((wI (b+i)).toNat<(l.set (wI (a+i)).toNat y3).length/\(Kn (wI (i+1)) n0 a b n ((l.set (wI (a+i)).toNat y3).set (wI (b+i)).toNat y4) r)))))))))/\((decide (i<n))=false->l≠[]/\r=l)->Kn i n0 a b n l r
 Wv:∀(n0:Nat) data a b n r,Kn 0 n0 a b n data r->sw n0 data a b n r
 NI:∀j i (n0:Nat) m l r,((i !=j)=true->((decide (j<i))=true->∃y5,sw n0 l (wI (m - i)) m j y5/\(l≠[]/\y5≠[])/\(HK j (wI (i - j)) n0 m y5 r))/\((decide (j<i))=false->∃y6,sw n0 l (wI (m - i)) (wI ((wI (m+j)) - i)) i y6/\(l≠[]/\y6≠[])/\(HK (wI (j - i)) i n0 m y6 r)))/\((i !=j)=false->∃y4,sw n0 l (wI (m - i)) m i y4/\(l≠[]/\y4≠[])/\(y4≠[]/\r=y4))->HK j i n0 m l r
 Wz:∀(n0:Nat) data a m b r,HK (wI (b - m)) (wI (m - a)) n0 m data r->ro n0 data a m b r
 NK:∀j i (n0:Nat) a b l r,(∃R8:Bool->Prop,(∀z:Bool,R8 z->((z=true->(0<=(wI (j - 1))/\(wI (j - 1))<(n0:Int))/\(∃y19,l[(wI (j - 1)).toNat]? =some y19/\((0<=j/\j<(n0:Int))/\(∃y20,l[j.toNat]? =some y20/\((0<=j/\j<(n0:Int))/\(j.toNat<l.length/\((0<=(wI (j - 1))/\(wI (j - 1))<(n0:Int))/\((wI (j - 1)).toNat<(l.set j.toNat y19).length/\(Kg (wI (j - 1)) i n0 a b ((l.set j.toNat y19).set (wI (j - 1)).toNat y20) r)))))))))/\(z=false->HD (wI (i+1)) n0 a b l r)))/\(((decide (a<j))=true->(0<=j/\j<(n0:Int))/\(∃y16,l[j.toNat]? =some y16/\((0<=(wI (j - 1))/\(wI (j - 1))<(n0:Int))/\(∃y17,l[(wI (j - 1)).toNat]? =some y17/\(∃y18,C y16 y17 y18/\(R8 (decide (y18<0))))))))/\((decide (a<j))=false->R8 false)))->Kg j i n0 a b l r
 NE:∀i (n0:Nat) a b l r,((decide (i<b))=true->Kg i i n0 a b l r)/\((decide (i<b))=false->l≠[]/\r=l)->HD i n0 a b l r
 Qm:∀(n0:Nat) data a b r,HD (wI (a+1)) n0 a b data r->ins n0 data a b r
 RA:∀k i (n0:Nat) l r,((decide (k<(wI (i - 1))))=true->(0<=(wI (k+1))/\(wI (k+1))<(n0:Int))/\(∃y10,l[(wI (k+1)).toNat]? =some y10/\((0<=k/\k<(n0:Int))/\(∃y11,l[k.toNat]? =some y11/\((0<=k/\k<(n0:Int))/\(k.toNat<l.length/\((0<=(wI (k+1))/\(wI (k+1))<(n0:Int))/\((wI (k+1)).toNat<(l.set k.toNat y10).length/\(Km (wI (k+1)) i n0 ((l.set k.toNat y10).set (wI (k+1)).toNat y11) r)))))))))/\((decide (k<(wI (i - 1))))=false->l≠[]/\r=l)->Km k i n0 l r
 NJ:∀j i (n0:Nat) a data r,((decide (i<j))=true->(0<=(hI i j)/\(hI i j)<(n0:Int))/\(∃y12,data[(hI i j).toNat]? =some y12/\((0<=a/\a<(n0:Int))/\(∃y13,data[a.toNat]? =some y13/\(∃y14,C y12 y13 y14/\(((decide (y14<0))=true->HF j (wI ((hI i j)+1)) n0 a data r)/\((decide (y14<0))=false->HF (hI i j) i n0 a data r)))))))/\((decide (i<j))=false->Km a i n0 data r)->HF j i n0 a data r
 Qo:∀k i (n0:Nat) l r,((decide (i<k))=true->(0<=(wI (k - 1))/\(wI (k - 1))<(n0:Int))/\(∃y24,l[(wI (k - 1)).toNat]? =some y24/\((0<=k/\k<(n0:Int))/\(∃y25,l[k.toNat]? =some y25/\((0<=k/\k<(n0:Int))/\(k.toNat<l.length/\((0<=(wI (k - 1))/\(wI (k - 1))<(n0:Int))/\((wI (k - 1)).toNat<(l.set k.toNat y24).length/\(Kv (wI (k - 1)) i n0 ((l.set k.toNat y24).set (wI (k - 1)).toNat y25) r)))))))))/\((decide (i<k))=false->l≠[]/\r=l)->Kv k i n0 l r
 NG:∀j i (n0:Nat) m data r,((decide (i<j))=true->(0<=m/\m<(n0:Int))/\(∃y26,data[m.toNat]? =some y26/\((0<=(hI i j)/\(hI i j)<(n0:Int))/\(∃y27,data[(hI i j).toNat]? =some y27/\(∃y28,C y26 y27 y28/\(((!(decide (y28<0)))=true->Gy j (wI ((hI i j)+1)) n0 m data r)/\((!(decide (y28<0)))=false->Gy (hI i j) i n0 m data r)))))))/\((decide (i<j))=false->Kv m i n0 data r)->Gy j i n0 m data r
 Qn:∀a b m s (n0:Nat) l r,(((decide ((hI a b)<(wI ((wI ((hI a b)+m)) - s))))&&(decide ((wI ((wI ((hI a b)+m)) - s))<b)))=true->∃y65,sy n0 l (hI a b) (wI ((wI ((hI a b)+m)) - s)) b y65/\(l≠[]/\y65≠[])/\(y65≠[]/\r=y65))/\(((decide ((hI a b)<(wI ((wI ((hI a b)+m)) - s))))&&(decide ((wI ((wI ((hI a b)+m)) - s))<b)))=false->l≠[]/\r=l)->HJ a b m s n0 l r
 Qp:∀a b m s (n0:Nat) l r,(((decide (a<s))&&(decide (s<(hI a b))))=true->∃y63,sy n0 l a s (hI a b) y63/\(l≠[]/\y63≠[])/\(HJ a b m s n0 y63 r))/\(((decide (a<s))&&(decide (s<(hI a b))))=false->HJ a b m s n0 l r)->HA a b m s n0 l r
 NH:∀a b m t s (n0:Nat) data r,((decide (s<t))=true->(0<=(wI ((wI ((wI ((hI a b)+m)) - 1)) - (hI s t)))/\(wI ((wI ((wI ((hI a b)+m)) - 1)) - (hI s t)))<(n0:Int))/\(∃y66,data[(wI ((wI ((wI ((hI a b)+m)) - 1)) - (hI s t))).toNat]? =some y66/\((0<=(hI s t)/\(hI s t)<(n0:Int))/\(∃y67,data[(hI s t).toNat]? =some y67/\(∃y68,C y66 y67 y68/\(((!(decide (y68<0)))=true->Fx a b m t (wI ((hI s t)+1)) n0 data r)/\((!(decide (y68<0)))=false->Fx a b m (hI s t) s n0 data r)))))))/\((decide (s<t))=false->(((decide (s<m))&&(decide (m<(wI ((wI ((hI a b)+m)) - s)))))=true->∃y59,ro n0 data s m (wI ((wI ((hI a b)+m)) - s)) y59/\(data≠[]/\y59≠[])/\(HA a b m s n0 y59 r))/\(((decide (s<m))&&(decide (m<(wI ((wI ((hI a b)+m)) - s)))))=false->HA a b m s n0 data r))->Fx a b m t s n0 data r
 Qu:∀t s a b m (n0:Nat) data r,Fx a b m t s n0 data r->NF t s a b m n0 data r
 Kk:∀(n0:Nat) data a m b r,(((wI (m - a))==1)=true->HF b m n0 a data r)/\(((wI (m - a))==1)=false->(((wI (b - m))==1)=true->Gy m a n0 m data r)/\(((wI (b - m))==1)=false->((decide ((hI a b)<m))=true->NF (hI a b) (wI ((wI ((hI a b)+m)) - b)) a b m n0 data r)/\((decide ((hI a b)<m))=false->NF m a a b m n0 data r)))->sy n0 data a m b r
 Ks:∀e a k (n0:Nat) n l r,((decide (e<=n))=true->∃y19,sy n0 l a (wI (a+k)) e y19/\(l≠[]/\y19≠[])/\(Kr (wI (e+(wI (2*k)))) e k n0 n y19 r))/\((decide (e<=n))=false->((decide ((wI (a+k))<n))=true->∃y18,sy n0 l a (wI (a+k)) n y18/\(l≠[]/\y18≠[])/\(Eo (wI (k*2)) n0 n y18 r))/\((decide ((wI (a+k))<n))=false->Eo (wI (k*2)) n0 n l r))->Kr e a k n0 n l r
 NM:∀k (n0:Nat) n l r,((decide (k<n))=true->Kr (wI (2*k)) 0 k n0 n l r)/\((decide (k<n))=false->l≠[]/\r=l)->Eo k n0 n l r
 NL:∀e a (n0:Nat) n l r,((decide (e<=n))=true->∃y20,ins n0 l a e y20/\(l≠[]/\y20≠[])/\(Kq (wI (e+20)) e n0 n y20 r))/\((decide (e<=n))=false->∃y11,ins n0 l a n y11/\(l≠[]/\y11≠[])/\(Eo 20 n0 n y11 r))->Kq e a n0 n l r
 XI:∀(n0:Nat) data n r,Kq 20 0 n0 n data r->st n0 data n r
 XJ:∀(n0:Nat) x r,(∃y1,st n0 x (n0:Int) y1/\(x≠[]/\y1≠[])/\(y1≠[]/\r=y1))->so n0 x r
section
variable {α:Type}{C:α->α->Int->Prop}
theorem RQ(A B D:b5l α)(p q:α){i j:Nat}(hi:i=A.length)(hj:j=A.length+1+B.length):(A++p::(B++q::D))[i]? =some p/\(A++p::(B++q::D))[j]? =some q/\((A++p::(B++q::D)).set i q).set j p=A++q::(B++p::D)/\((A++p::(B++q::D)).set j p).set i q=A++q::(B++p::D):=by
 subst hi hj;have e1:(A++p::(B++q::D))[A.length]? =some p:=by simp
 have e2:∀x:α,(A++x::(B++q::D))[A.length+1+B.length]? =some q:=by
  intro x;rw[b5a (by omega),show A.length+1+B.length - A.length=B.length+1 by omega,List.getElem?_cons_succ];simp
 have s1:∀(x y:α) (Z:b5l α),(A++x::Z).set A.length y=A++y::Z:=by
  intro x y Z;rw[List.set_append_right _ _ (Nat.le_refl _),Nat.sub_self];rfl
 have s2:∀(x y z:α),(A++x::(B++y::D)).set (A.length+1+B.length) z=A++x::(B++z::D):=by
  intro x y z;rw[List.set_append_right _ _ (by omega),show A.length+1+B.length - A.length=B.length+1 by omega,List.set_cons_succ,List.set_append_right _ _ (Nat.le_refl _),Nat.sub_self];rfl
 exact⟨e1,e2 p,by rw[s1,s2],by rw[s2,s1]⟩
variable (F:EW α C)
theorem jt(n0:Nat)(hn:n0<=1125899906842624)(X M Y:b5l α)(a b n:Nat)(ha:a=X.length):∀(P2 Q2 P1 Q1:b5l α),P2.length=Q2.length->P1.length=Q1.length->n=P1.length+P2.length->b=a+n+M.length->n0=b+n+Y.length->0<n0->
  F.Kn (P1.length:Nat) n0 a b n (X++Q1++P2++M++P1++Q2++Y) (X++Q1++Q2++M++P1++P2++Y)
 |[],Q2,P1,Q1,h1,h2,h3,h4,h5,h6=>by
  have:Q2=[]:=List.eq_nil_of_length_eq_zero (by simpa using h1.symm);subst this;have h7:([]:b5l α).length=0:=rfl;rw[h7]at h3;refine F.RB _ _ _ _ _ _ _ ⟨λh=>?_,λ_=>⟨?_,by simp⟩⟩
  ·have:=of_decide_eq_true h;omega
  ·intro h0;have:=congrArg List.length h0;simp only[b5i,h7]at this h2;omega
 |p::P2,Q2,P1,Q1,h1,h2,h3,h4,h5,h6=>by
  obtain⟨q,Q2,rfl⟩:∃q Q,Q2=q::Q:=by
   cases Q2 with
   |nil=>simp at h1
   |cons q Q=>exact⟨q,Q,rfl⟩
  simp only[List.length_cons]at h1 h3;have e1:wI ((a:Int)+(P1.length:Nat))=((a+P1.length:Nat):Int):=by rw[wI,C7 (by omega)];omega
  have e2:wI ((b:Int)+(P1.length:Nat))=((b+P1.length:Nat):Int):=by rw[wI,C7 (by omega)];omega
  have e3:wI (((P1.length:Nat):Int)+1)=(((P1++[p]).length:Nat):Int):=by rw[wI,C7 (by omega)];simp
  have hl:X++Q1++(p::P2)++M++P1++(q::Q2)++Y=(X++Q1)++p::((P2++M++P1)++q::(Q2++Y)):=by simp
  obtain⟨s1,s2,s3,_⟩:=RQ (X++Q1) (P2++M++P1) (Q2++Y) p q (i:=a+P1.length) (j:=b+P1.length) (by simp;omega) (by simp;omega);have ih:=jt n0 hn X M Y a b n ha P2 Q2 (P1++[p]) (Q1++[q]) (by omega) (by simp;omega) (by simp;omega) h4 h5 h6;have hlen:(X++Q1++(p::P2)++M++P1++(q::Q2)++Y).length=n0:=by simp;omega
  refine F.RB _ _ _ _ _ _ _ ⟨λ_=>?_,λh=>by simp at h;omega⟩;rw[e1,e2,e3,Int.toNat_natCast,Int.toNat_natCast];refine⟨by omega,q,by rw[hl];exact s2,by omega,p,by rw[hl];exact s1,by omega,by rw[hlen];omega,by omega,by rw[List.length_set,hlen];omega,?_⟩;rw[hl,s3];have g1:(X++Q1)++q::((P2++M++P1)++p::(Q2++Y))=X++(Q1++[q])++P2++M++(P1++[p])++Q2++Y:=by simp
  have g2:X++Q1++(q::Q2)++M++P1++(p::P2)++Y=X++(Q1++[q])++Q2++M++(P1++[p])++P2++Y:=by simp
  rw[g1,g2];exact ih
theorem bR{n0:Nat}(hn:n0<=1125899906842624)(X P M Q Y:b5l α){a b n:Nat}(ha:a=X.length)(hp:n=P.length)(hq:n=Q.length)(hb:b=a+n+M.length)(h0:n0=b+n+Y.length)(h1:0<n0):F.sw n0 (X++P++M++Q++Y) a b n (X++Q++M++P++Y):=by
 have:=jt F n0 hn X M Y a b n ha P Q [] [] (by omega) rfl (by simp;omega) hb h0 h1;exact F.Wv _ _ _ _ _ _ (by simpa using this)
theorem b3g(n0:Nat)(hn:n0<=1125899906842624):∀(k:Nat) (X A B Y:b5l α) (m:Nat),A.length+B.length<=k->A≠[]->B≠[]->m=X.length+A.length->n0=m+B.length+Y.length->F.HK (B.length:Nat) (A.length:Nat) n0 m (X++A++B++Y) (X++B++A++Y):=by
 intro k
 induction k with
 |zero=>
  intro X A B Y m h hA;exact absurd (List.eq_nil_of_length_eq_zero (by omega)) hA
 |succ k ih=>
  intro X A B Y m hk hA hB hm h0;have a0:=List.length_pos_iff.2 hA;have b0:=List.length_pos_iff.2 hB;have ne:∀{l:b5l α},l.length=n0->l≠[]:=λh h'=>by rw[h']at h;simp at h;omega
  have e1:wI ((m:Int) - (A.length:Nat))=((X.length:Nat):Int):=by rw[wI,C7 (by omega)];omega
  rcases Nat.lt_trichotomy A.length B.length with hlt|heq|hgt
  ·
   have hB2:B=B.take (B.length - A.length)++B.drop (B.length - A.length):=(List.take_append_drop _ _).symm;generalize hb1:B.take (B.length - A.length)=B1 at hB2;generalize hb2:B.drop (B.length - A.length)=B2 at hB2;have l1:B1.length=B.length - A.length:=by rw[<-hb1];simp
   have l2:B2.length=A.length:=by rw[<-hb2];simp;omega
   have e2:wI (wI ((m:Int)+(B.length:Nat)) - (A.length:Nat))=((m+B1.length:Nat):Int):=by
    have:wI ((m:Int)+(B.length:Nat))=(m:Int)+(B.length:Nat):=by rw[wI,C7 (by omega)]
    rw[this,wI,C7 (by omega)];omega
   have e3:wI (((B.length:Nat):Int) - (A.length:Nat))=((B1.length:Nat):Int):=by rw[wI,C7 (by omega)];omega
   have hs:=bR F hn X A B1 B2 Y (a:=X.length) (b:=m+B1.length) (n:=A.length) rfl rfl l2.symm (by omega) (by omega) (by omega);have ih':=ih X B2 B1 (A++Y) m (by omega) (λh=>by rw[h]at l2;simp at l2;omega) (λh=>by rw[h]at l1;simp at l1;omega) (by omega) (by simp;omega);refine F.NI _ _ _ _ _ _ ⟨λ_=>⟨λh=>by simp at h;omega,λ_=>?_⟩,λh=>by simp at h;omega⟩;rw[e1,e2,e3];refine⟨X++B2++B1++A++Y,by rw[hB2];simpa using hs,⟨ne (by simp;omega),ne (by simp;omega)⟩,?_⟩;rw[l2]at ih';have g1:X++B2++B1++A++Y=X++B2++B1++(A++Y):=by simp
   have g2:X++B++A++Y=X++B1++B2++(A++Y):=by rw[hB2];simp
   rw[g1,g2];exact ih'
  ·have hs:=bR F hn X A [] B Y (a:=X.length) (b:=m) (n:=A.length) rfl rfl heq (by simp;omega) (by omega) (by omega);refine F.NI _ _ _ _ _ _ ⟨λh=>by simp at h;omega,λ_=>⟨X++B++A++Y,?_,⟨ne (by simp;omega),ne (by simp;omega)⟩,ne (by simp;omega),rfl⟩⟩;rw[e1];simpa using hs
  ·have hA2:A=A.take B.length++A.drop B.length:=(List.take_append_drop _ _).symm;generalize ha1:A.take B.length=A1 at hA2;generalize ha2:A.drop B.length=A2 at hA2;have l1:A1.length=B.length:=by rw[<-ha1];simp;omega
   have l2:A2.length=A.length - B.length:=by rw[<-ha2];simp
   have e3:wI (((A.length:Nat):Int) - (B.length:Nat))=((A2.length:Nat):Int):=by rw[wI,C7 (by omega)];omega
   have hs:=bR F hn X A1 A2 B Y (a:=X.length) (b:=m) (n:=B.length) rfl l1.symm rfl (by omega) (by omega) (by omega);have ih':=ih (X++B) A2 A1 Y m (by omega) (λh=>by rw[h]at l2;simp at l2;omega) (λh=>by rw[h]at l1;simp at l1;omega) (by simp;omega) (by omega);refine F.NI _ _ _ _ _ _ ⟨λ_=>⟨λ_=>?_,λh=>by simp at h;omega⟩,λh=>by simp at h;omega⟩;rw[e1,e3];refine⟨X++B++A2++A1++Y,by rw[hA2];simpa using hs,⟨ne (by simp;omega),ne (by simp;omega)⟩,?_⟩;rw[l1]at ih';have g2:X++B++A++Y=X++B++A1++A2++Y:=by rw[hA2];simp
   rw[g2];exact ih'
theorem a3p{n0:Nat}(hn:n0<=1125899906842624)(X A B Y:b5l α){a m b:Nat}(ha:a=X.length)(hm:m=a+A.length)(hb:b=m+B.length)(h0:n0=b+Y.length)(hA:A≠[])(hB:B≠[]):F.ro n0 (X++A++B++Y) a m b (X++B++A++Y):=by
 have e1:wI ((b:Int) - m)=((B.length:Nat):Int):=by rw[wI,C7 (by omega)];omega
 have e2:wI ((m:Int) - a)=((A.length:Nat):Int):=by rw[wI,C7 (by omega)];omega
 refine F.Wz _ _ _ _ _ _ ?_;rw[e1,e2];exact b3g F n0 hn _ X A B Y m (Nat.le_refl _) hA hB (by omega) (by omega)
end
structure Pre{α:Type}(cm:α->α->Int)(Dm:α->Prop):Prop where
 sym:∀x y,Dm x->Dm y->(cm x y<0↔0<cm y x)
 trans:∀x y z,Dm x->Dm y->Dm z->cm x y<=0->cm y z<=0->cm x z<=0
def Rt{α:Type}(cm:α->α->Int)(x y:α × Nat):Prop:=cm x.1 y.1<0\/(cm x.1 y.1=0/\x.2<y.2)
section
variable {α:Type}{C:α->α->Int->Prop}{cm:α->α->Int}{Dm:α->Prop}
theorem Pre.zero(hp:Pre cm Dm){x y:α}(hx:Dm x)(hy:Dm y):cm x y=0↔cm y x=0:=by
 have h1:=hp.sym x y hx hy;have h2:=hp.sym y x hy hx;omega
theorem Pre.lt(hp:Pre cm Dm){x y z:α}(hx:Dm x)(hy:Dm y)(hz:Dm z)(h1:cm x y<=0)(h2:cm y z<=0)(h3:cm x y<0\/cm y z<0):cm x z<0:=by
 have h4:=hp.trans x y z hx hy hz h1 h2;rcases Int.lt_or_le (cm x z) 0 with h5|h5
 ·exact h5
 have h6:cm x z=0:=by omega
 have h7:=(hp.zero hx hz).1 h6;rcases h3 with h3|h3
 ·have h8:=hp.trans y z x hy hz hx h2 (by omega);have:=(hp.sym x y hx hy).1 h3;omega
 ·have h8:=hp.trans z x y hz hx hy (by omega) h1;have:=(hp.sym y z hy hz).1 h3;omega
theorem Rt.trans(hp:Pre cm Dm){x y z:α × Nat}(hx:Dm x.1)(hy:Dm y.1)(hz:Dm z.1)(h1:Rt cm x y)(h2:Rt cm y z):Rt cm x z:=by
 unfold Rt at*;rcases h1 with h1|⟨h1,h1'⟩
 ·rcases h2 with h2|⟨h2,_⟩
  ·exact .inl (hp.lt hx hy hz (by omega) (by omega) (.inl h1))
  ·exact .inl (hp.lt hx hy hz (by omega) (by omega) (.inl h1))
 ·rcases h2 with h2|⟨h2,h2'⟩
  ·exact .inl (hp.lt hx hy hz (by omega) (by omega) (.inr h2))
  ·right;have h3:=hp.trans _ _ _ hx hy hz (by omega:cm x.1 y.1<=0) (by omega:cm y.1 z.1<=0);have h4:=hp.trans _ _ _ hz hy hx (by have:=(hp.zero hy hz).1 h2;omega) (by have:=(hp.zero hx hy).1 h1;omega);have h5:=hp.sym z.1 x.1 hz hx;have h6:=hp.sym x.1 z.1 hx hz;omega
theorem Rt.of_not(hp:Pre cm Dm){x y:α × Nat}(hx:Dm x.1)(hy:Dm y.1)(h:¬cm x.1 y.1<0)(ht:y.2<x.2):Rt cm y x:=by
 have h1:=hp.sym y.1 x.1 hy hx;have h2:=hp.zero hx hy;unfold Rt;omega
abbrev J8(cm:α->α->Int)(l:b5l (α × Nat)):Prop:=l.Pairwise (Rt cm)
abbrev fs(l:b5l (α × Nat)):b5l α:=l.map Prod.fst
variable (F:EW α C) (hp:Pre cm Dm) (hC:∀x y,Dm x->Dm y->C x y (cm x y))
 include hp hC
theorem a59{n0:Nat}(hn:n0<=1125899906842624)(X:b5l (α × Nat))(s:α × Nat)(i:Int)(b:Nat):∀(k:Nat) (U V T:b5l (α × Nat)),U.length=k->n0=X.length+U.length+1+V.length+T.length->(∀x∈U++s::V,Dm x.1)->J8 cm (U++V)->(∀v∈V,Rt cm s v)->(∀u∈U,u.2<s.2)->
  ∃S,J8 cm S/\S.Perm (U++s::V)/\∀r,F.HD (wI (i+1)) n0 X.length b (fs (X++S++T)) r->F.Kg ((X.length+U.length:Nat):Int) i n0 X.length b (fs (X++U++s::V++T)) r:=by
 intro k
 induction k with
 |zero=>
  intro U V T hU h0 hD hs hv ht;have:U=[]:=List.eq_nil_of_length_eq_zero hU;subst this;refine⟨s::V,List.pairwise_cons.2 ⟨hv,by simpa using hs⟩,by simp,λr hr=>?_⟩;refine F.NK _ _ _ _ _ _ _ ⟨λz=>z=false,λz hz=>⟨λh=>(by rw[hz]at h;cases h),λ_=>by simpa using hr⟩,λh=>?_,λ_=>rfl⟩;simp at h
 |succ k ih=>
  intro U V T hU h0 hD hs hv ht
  obtain⟨U',u,rfl⟩:∃U' u,U=U'++[u]:=by
   rcases List.eq_nil_or_concat U with h|⟨U',u,h⟩
   ·rw[h]at hU;simp at hU
   ·exact⟨U',u,by simpa using h⟩
  have hl':U'.length=k:=by simpa using hU
  have hDs:Dm s.1:=hD s (by simp);have hDu:Dm u.1:=hD u (by simp);have hj:X.length+(U'++[u]).length=X.length+U'.length+1:=by simp;omega
  have e1:wI (((X.length+U'.length+1:Nat):Int) - 1)=((X.length+U'.length:Nat):Int):=by
   simp only[b5i,List.length_cons,List.length_nil]at h0;rw[wI,C7 (by omega)];omega
  have hlist:fs (X++(U'++[u])++s::V++T)=fs (X++U')++u.1::(fs ([]:b5l (α × Nat))++s.1::fs (V++T)):=by simp[fs]
  obtain⟨s1,s2,_,s4⟩:=RQ (fs (X++U')) (fs ([]:b5l (α × Nat))) (fs (V++T)) u.1 s.1 (i:=X.length+U'.length) (j:=X.length+U'.length+1) (by simp[fs]) (by simp[fs]);have hlen:(fs (X++(U'++[u])++s::V++T)).length=n0:=by simp[fs]at h0 ⊢;omega
  simp only[b5i,List.length_cons,List.length_nil]at h0;have W0:C s.1 u.1 (cm s.1 u.1):=hC _ _ hDs hDu
  by_cases hlt:cm s.1 u.1<0
  ·obtain⟨S,q1,q2,q3⟩:=ih U' (u::V) T hl' (by simp;omega) (λx hx=>hD x (by simp at hx ⊢;grind)) (by simpa using hs) (λv hv'=>by
    rcases List.mem_cons.1 hv' with h|h
    ·rw[h];exact .inl hlt
    ·exact hv v h) (λx hx=>ht x (by simp[hx]))
   refine⟨S,q1,q2.trans (by simp;exact List.Perm.swap _ _ _|>.append_left U'),λr hr=>?_⟩;refine F.NK _ _ _ _ _ _ _ ⟨λz=>z=true,λz hz=>⟨λ_=>?_,λh=>by rw[hz]at h;cases h⟩,λ_=>?_,λh=>?_⟩
   ·simp only[hj,e1,Int.toNat_natCast];refine⟨by omega,u.1,by rw[hlist];exact s1,by simp;omega,s.1,by rw[hlist];exact s2,by simp;omega,by rw[hlen];omega,by omega,by rw[List.length_set,hlen];omega,?_⟩;have g:((fs (X++(U'++[u])++s::V++T)).set (X.length+U'.length+1) u.1).set (X.length+U'.length) s.1=fs (X++U'++s::(u::V)++T):=by rw[hlist,s4];simp[fs]
    rw[g];exact q3 r hr
   ·simp only[hj,e1,Int.toNat_natCast];exact⟨by simp;omega,s.1,by rw[hlist];exact s2,by omega,u.1,by rw[hlist];exact s1,_,W0,decide_eq_true hlt⟩
   ·simp at h;omega
  ·have hus:Rt cm u s:=Rt.of_not hp hDs hDu hlt (ht u (by simp))
   have hall:∀x∈U'++[u],Rt cm x s:=by
    intro x hx;rcases List.mem_append.1 hx with h|h
    ·have hxu:Rt cm x u:=by
      have h2:J8 cm (U'++[u]):=(List.pairwise_append.1 hs).1;exact(List.pairwise_append.1 h2).2.2 x h u (by simp)
     exact Rt.trans hp (hD x (by simp[h])) hDu hDs hxu hus
    ·simp at h;rw[h];exact hus
   refine⟨U'++[u]++s::V,?_,.refl _,λr hr=>?_⟩
   ·obtain⟨h1,h2,h3⟩:=List.pairwise_append.1 hs;refine List.pairwise_append.2 ⟨h1,List.pairwise_cons.2 ⟨hv,h2⟩,λx hx y hy=>?_⟩;rcases List.mem_cons.1 hy with h|h
    ·rw[h];exact hall x hx
    ·exact h3 x hx y h
   ·refine F.NK _ _ _ _ _ _ _ ⟨λz=>z=false,λz hz=>⟨λh=>(by rw[hz]at h;cases h),λ_=>?_⟩,λ_=>?_,λh=>?_⟩
    ·have g:X++(U'++[u])++s::V++T=X++(U'++[u]++s::V)++T:=by simp
     rw[g];exact hr
    ·simp only[hj,e1,Int.toNat_natCast];exact⟨by simp;omega,s.1,by rw[hlist];exact s2,by omega,u.1,by rw[hlist];exact s1,_,W0,decide_eq_false hlt⟩
    ·rfl
theorem mK{n0:Nat}(hn:n0<=1125899906842624)(X Y:b5l (α × Nat))(b:Nat):∀(S2 S1:b5l (α × Nat)),b=X.length+S1.length+S2.length->n0=b+Y.length->0<n0->(∀x∈S1++S2,Dm x.1)->J8 cm S1->(∀x∈S1,∀y∈S2,x.2<y.2)->S2.Pairwise (λx y=>x.2<y.2)->
  ∃S,J8 cm S/\S.Perm (S1++S2)/\F.HD ((X.length+S1.length:Nat):Int) n0 X.length b (fs (X++S1++S2++Y)) (fs (X++S++Y))
 |[],S1,hb,h0,hpos,hD,hs,ht,hp2=>by
  refine⟨S1,hs,by simp,F.NE _ _ _ _ _ _ ⟨λh=>?_,λ_=>⟨λh=>?_,by simp⟩⟩⟩
  ·simp at h hb;omega
  ·have:=congrArg List.length h;simp only[fs,List.length_map,b5i,List.length_nil]at this hb;omega
 |s::S2,S1,hb,h0,hpos,hD,hs,ht,hp2=>by
  simp only[List.length_cons]at hb;obtain⟨S',q1,q2,q3⟩:=a59 F hp hC hn X s ((X.length+S1.length:Nat):Int) b S1.length S1 [] (S2++Y) rfl (by simp;omega) (λx hx=>hD x (by simp at hx ⊢;grind)) (by simpa using hs) (λv hv=>by cases hv) (λu hu=>ht u hu s (by simp));have hl:S'.length=S1.length+1:=by rw[q2.length_eq];simp
  have mem:∀x,x∈S'↔x∈S1\/x=s:=λx=>by rw[q2.mem_iff];simp
  obtain⟨S,p1,p2,p3⟩:=mK hn X Y b S2 S' (by omega) h0 hpos (λx hx=>hD x (by
    rcases List.mem_append.1 hx with h|h
    ·rcases (mem x).1 h with h|h<;>simp[h]
    ·simp[h])) q1 (λx hx y hy=>by
    rcases (mem x).1 hx with h|h
    ·exact ht x h y (by simp[hy])
    ·rw[h];exact(List.pairwise_cons.1 hp2).1 y hy) (List.pairwise_cons.1 hp2).2
  refine⟨S,p1,p2.trans ?_,F.NE _ _ _ _ _ _ ⟨λ_=>?_,λh=>by simp at h;omega⟩⟩
  ·exact(q2.append_right S2).trans (by simp)
  ·have e:wI (((X.length+S1.length:Nat):Int)+1)=((X.length+S'.length:Nat):Int):=by rw[wI,C7 (by omega)];omega
   have:=q3 _ (by rw[e];simpa using p3);simpa using this
theorem Yn{n0:Nat}(hn:n0<=1125899906842624)(X S Y:b5l (α × Nat)){a b:Nat}(ha:a=X.length)(hb:b=a+S.length)(h0:n0=b+Y.length)(hpos:0<n0)(hD:∀x∈S,Dm x.1)(ht:S.Pairwise (λx y=>x.2<y.2)):
  ∃S',J8 cm S'/\S'.Perm S/\F.ins n0 (fs (X++S++Y)) a b (fs (X++S'++Y)):=by
 subst ha;have e:wI ((X.length:Int)+1)=((X.length+1:Nat):Int):=by rw[wI,C7 (by omega)];omega
 cases S with
 |nil=>
  refine⟨[],.nil,.refl _,F.Qm _ _ _ _ _ ?_⟩;rw[e];refine F.NE _ _ _ _ _ _ ⟨λh=>?_,λ_=>⟨λh=>?_,rfl⟩⟩
  ·simp at h hb;omega
  ·have:=congrArg List.length h;simp only[fs,List.length_map,b5i,List.length_nil]at this hb;omega
 |cons s S2=>
  obtain⟨S,q1,q2,q3⟩:=mK F hp hC hn X Y b S2 [s] (by simp at hb ⊢;omega) h0 hpos (by simpa using hD) (by simp) (λx hx y hy=>by simp at hx;rw[hx];exact(List.pairwise_cons.1 ht).1 y hy) (List.pairwise_cons.1 ht).2;refine⟨S,q1,by simpa using q2,F.Qm _ _ _ _ _ ?_⟩;rw[e];simpa using q3
end
theorem Ic{a b:Nat}(ha:a<=1125899906842624)(hb:b<=1125899906842624):hI (a:Int) (b:Int)=(((a+b) / 2:Nat):Int):=by
 have e1:wI ((a:Int)+b)=((a+b:Nat):Int):=by rw[wI,C7 (by omega)];omega
 have e2:wU ((a+b:Nat):Int)=((a+b:Nat):Int):=Y2 (by omega);have e3:(2:Int) ^ min (1:Int).toNat IntKind.u64.bits=2:=by decide+kernel
 unfold hI;rw[e1,e2,e3,Int.fdiv_eq_ediv_of_nonneg _ (by omega),wI,C7 (by omega)];omega
section
variable {α:Type}{C:α->α->Int->Prop}{cm:α->α->Int}{Dm:α->Prop}
theorem SZ(X L R:b5l α){i:Nat}(h:i<L.length):(X++L++R)[X.length+i]? =L[i]? :=by
 rw[List.append_assoc,b5a (by omega),show X.length+i - X.length=i by omega,b49 h]
variable (F:EW α C)
theorem oy{n0:Nat}(hn:n0<=1125899906842624)(X R:b5l α)(x:α)(i:Nat):∀(B2 B1:b5l α),i=X.length+B1.length+B2.length+1->n0=i+R.length->F.Km ((X.length+B1.length:Nat):Int) i n0 (X++B1++x::B2++R) (X++B1++B2++x::R)
 |[],B1,hi,h0=>by
  have e:wI ((i:Int) - 1)=((X.length+B1.length:Nat):Int):=by simp at hi;rw[wI,C7 (by omega)];omega
  refine F.RA _ _ _ _ _ ⟨λh=>?_,λ_=>⟨by simp,by simp⟩⟩;rw[e]at h;simp at h
 |y::B2,B1,hi,h0=>by
  simp only[List.length_cons]at hi;have e:wI ((i:Int) - 1)=((X.length+B1.length+B2.length+1:Nat):Int):=by rw[wI,C7 (by omega)];omega
  have e2:wI (((X.length+B1.length:Nat):Int)+1)=((X.length+(B1++[y]).length:Nat):Int):=by rw[wI,C7 (by omega)];simp;omega
  have e3:((X.length+(B1++[y]).length:Nat):Int).toNat=X.length+B1.length+1:=by simp;omega
  have hl:X++B1++x::(y::B2)++R=(X++B1)++x::(([]:b5l α)++y::(B2++R)):=by simp
  obtain⟨s1,s2,s3,s4⟩:=RQ (X++B1) [] (B2++R) x y (i:=X.length+B1.length) (j:=X.length+B1.length+1) (by simp) (by simp);have ih:=oy hn X R x i B2 (B1++[y]) (by simp;omega) h0;have hlen:(X++B1++x::(y::B2)++R).length=n0:=by simp;omega
  refine F.RA _ _ _ _ _ ⟨λ_=>?_,λh=>by rw[e]at h;simp at h;omega⟩;rw[e2,e3,Int.toNat_natCast];refine⟨by simp;omega,y,by rw[hl];exact s2,by omega,x,by rw[hl];exact s1,by omega,by rw[hlen];omega,by simp;omega,by rw[List.length_set,hlen];omega,?_⟩;rw[hl,s3];have g1:(X++B1)++y::(([]:b5l α)++x::(B2++R))=X++(B1++[y])++x::B2++R:=by simp
  have g2:X++B1++(y::B2)++x::R=X++(B1++[y])++B2++x::R:=by simp
  rw[g1,g2];exact ih
theorem uL{n0:Nat}(hn:n0<=1125899906842624)(X R:b5l α)(y:α)(i:Nat)(hi:i=X.length):∀(k:Nat) (A1 A2:b5l α),A1.length=k->n0=X.length+A1.length+1+A2.length+R.length->F.Kv ((X.length+A1.length:Nat):Int) i n0 (X++A1++y::A2++R) (X++y::A1++A2++R):=by
 intro k
 induction k with
 |zero=>
  intro A1 A2 h1 h0;have:A1=[]:=List.eq_nil_of_length_eq_zero h1;subst this;refine F.Qo _ _ _ _ _ ⟨λh=>?_,λ_=>⟨by simp,by simp⟩⟩;simp at h;omega
 |succ k ih=>
  intro A1 A2 h1 h0
  obtain⟨A1',z,rfl⟩:∃U' u,A1=U'++[u]:=by
   rcases List.eq_nil_or_concat A1 with h|⟨U',u,h⟩
   ·rw[h]at h1;simp at h1
   ·exact⟨U',u,by simpa using h⟩
  have hl':A1'.length=k:=by simpa using h1
  have hlen:(X++(A1'++[z])++y::A2++R).length=n0:=by simp at h0 ⊢;omega
  simp only[b5i,List.length_cons,List.length_nil]at h0
  have e2:wI (((X.length+(A1'++[z]).length:Nat):Int) - 1)=((X.length+A1'.length:Nat):Int):=by
   simp only[b5i,List.length_cons,List.length_nil];rw[wI,C7 (by omega)];omega
  have e3:((X.length+(A1'++[z]).length:Nat):Int).toNat=X.length+A1'.length+1:=by simp;omega
  have hl:X++(A1'++[z])++y::A2++R=(X++A1')++z::(([]:b5l α)++y::(A2++R)):=by simp
  obtain⟨s1,s2,s3,s4⟩:=RQ (X++A1') [] (A2++R) z y (i:=X.length+A1'.length) (j:=X.length+A1'.length+1) (by simp) (by simp);have ih':=ih A1' (z::A2) hl' (by simp;omega);refine F.Qo _ _ _ _ _ ⟨λ_=>?_,λh=>by simp at h;omega⟩;rw[e2,e3,Int.toNat_natCast];refine⟨by omega,z,by rw[hl];exact s1,by simp;omega,y,by rw[hl];exact s2,by simp;omega,by rw[hlen];omega,by omega,by rw[List.length_set,hlen];omega,?_⟩;rw[hl,s4];have g1:(X++A1')++y::(([]:b5l α)++z::(A2++R))=X++A1'++y::(z::A2)++R:=by simp
  have g2:X++y::(A1'++[z])++A2++R=X++y::A1'++(z::A2)++R:=by simp
  rw[g1,g2];exact ih'
variable (hp:Pre cm Dm) (hC:∀x y,Dm x->Dm y->C x y (cm x y))
 include hp hC
theorem a8b{n0:Nat}(hn:n0<=1125899906842624)(X B Y:b5l (α × Nat))(x:α × Nat)(hx:Dm x.1)(hB:∀y∈B,Dm y.1)(hs:J8 cm B)(ht:∀y∈B,x.2<y.2)(h0:n0=X.length+1+B.length+Y.length):∀(k p q:Nat),q - p<=k->p<=q->q<=B.length->(∀y∈B.take p,Rt cm y x)->(∀y∈B.drop q,Rt cm x y)->
  ∃S,J8 cm S/\S.Perm (x::B)/\F.HF ((X.length+1+q:Nat):Int) ((X.length+1+p:Nat):Int) n0 X.length (fs (X++x::B++Y)) (fs (X++S++Y)):=by
 intro k
 induction k with
 |zero=>
  intro p q h1 h2 h3 hP hQ;obtain rfl:p=q:=by omega
  refine⟨B.take p++x::B.drop p,?_,?_,?_⟩
  ·refine List.pairwise_append.2 ⟨hs.sublist (List.take_sublist _ _),List.pairwise_cons.2 ⟨hQ,hs.sublist (List.drop_sublist _ _)⟩,λa ha b hb=>?_⟩;rcases List.mem_cons.1 hb with h|h
   ·rw[h];exact hP a ha
   ·exact Rt.trans hp (hB a (List.mem_of_mem_take ha)) hx (hB b (List.mem_of_mem_drop h)) (hP a ha) (hQ b h)
  ·exact List.perm_middle.trans (by rw[List.take_append_drop])
  ·refine F.NJ _ _ _ _ _ _ ⟨λh=>by simp at h,λ_=>?_⟩;have hlt:(B.take p).length=p:=by simp;omega
   have:=oy F hn (fs X) (fs (B.drop p++Y)) x.1 (X.length+1+p) (fs (B.take p)) [] (by simp[fs];omega) (by simp[fs];omega)
   have g1:fs X++[]++x.1::fs (B.take p)++fs (B.drop p++Y)=fs (X++x::B++Y):=by
    have e:B.take p++(B.drop p++Y)=B++Y:=by rw[<-List.append_assoc,List.take_append_drop]
    have e2:fs (X++x::B++Y)=fs X++x.1::fs (B++Y):=by simp[fs]
    rw[e2,<-e];simp only[fs,List.map_append,List.append_nil,List.cons_append,List.append_assoc]
   have g2:fs X++[]++fs (B.take p)++x.1::fs (B.drop p++Y)=fs (X++(B.take p++x::B.drop p)++Y):=by simp[fs]
   rw[g1,g2]at this;simpa[fs]using this
 |succ k ih=>
  intro p q h1 h2 h3 hP hQ
  by_cases hpq:p=q
  ·exact ih p q (by omega) h2 h3 hP hQ
  ·have hh:hI ((X.length+1+p:Nat):Int) ((X.length+1+q:Nat):Int)=((X.length+1+(X.length+1+p+(X.length+1+q)) / 2 - (X.length+1):Nat):Int):=by
    rw[Ic (by omega) (by omega)];congr 1;omega
   generalize hm:(X.length+1+p+(X.length+1+q)) / 2 - (X.length+1)=m at hh;have hm1:p<=m/\m<q:=by omega
   have hh':hI ((X.length+1+p:Nat):Int) ((X.length+1+q:Nat):Int)=((X.length+1+m:Nat):Int):=by rw[hh];congr 1;omega
   have hy:B[m]? =some B[m]:=b48 (by omega);generalize B[m]=y at hy;have hyB:y∈B:=b5g hy;have gx:(fs (X++x::B++Y))[X.length]? =some x.1:=by simp[fs]
   have gy:(fs (X++x::B++Y))[X.length+1+m]? =some y.1:=by
    have:fs (X++x::B++Y)=fs (X++[x])++fs B++fs Y:=by simp[fs]
    rw[this,show X.length+1+m=(fs (X++[x])).length+m by simp[fs],SZ _ _ _ (by simp[fs];omega)];simp[fs,hy]
   have e1:wI (((X.length+1+m:Nat):Int)+1)=((X.length+1+(m+1):Nat):Int):=by rw[wI,C7 (by omega)];omega
   have W0:C y.1 x.1 (cm y.1 x.1):=hC _ _ (hB y hyB) hx
   by_cases hlt:cm y.1 x.1<0
   ·obtain⟨S,q1,q2,q3⟩:=ih (m+1) q (by omega) (by omega) h3 (λz hz=>by
     obtain⟨t,ht1⟩:=List.mem_iff_getElem?.1 hz;rw[List.getElem?_take]at ht1;split at ht1
     ·rename_i htm
      by_cases e:t=m
      ·subst e;rw[hy]at ht1;cases ht1;exact .inl hlt
      ·have hzy:Rt cm z y:=by
        obtain⟨l1,g1⟩:=List.getElem?_eq_some_iff.1 ht1;obtain⟨l2,g2⟩:=List.getElem?_eq_some_iff.1 hy;rw[<-g1,<-g2];exact List.pairwise_iff_getElem.1 hs t m l1 l2 (by omega)
       exact Rt.trans hp (hB z (b5g ht1)) (hB y hyB) hx hzy (.inl hlt)
     ·cases ht1) hQ
    refine⟨S,q1,q2,F.NJ _ _ _ _ _ _ ⟨λ_=>?_,λh=>by simp at h;omega⟩⟩;rw[hh',e1];exact⟨by omega,y.1,by rw[Int.toNat_natCast];exact gy,by omega,x.1,by rw[Int.toNat_natCast];exact gx,_,W0,λ_=>q3,λh=>by simp at h;omega⟩
   ·obtain⟨S,q1,q2,q3⟩:=ih p m (by omega) (by omega) (by omega) hP (λz hz=>by
     have hxy:Rt cm x y:=Rt.of_not hp (hB y hyB) hx hlt (ht y hyB);obtain⟨t,ht1⟩:=List.mem_iff_getElem?.1 hz;rw[List.getElem?_drop]at ht1
     by_cases e:t=0
     ·subst e;rw[Nat.add_zero,hy]at ht1;cases ht1;exact hxy
     ·have hyz:Rt cm y z:=by
       obtain⟨l1,g1⟩:=List.getElem?_eq_some_iff.1 ht1;obtain⟨l2,g2⟩:=List.getElem?_eq_some_iff.1 hy;rw[<-g1,<-g2];exact List.pairwise_iff_getElem.1 hs m (m+t) l2 l1 (by omega)
      exact Rt.trans hp hx (hB y hyB) (hB z (b5g ht1)) hxy hyz)
    refine⟨S,q1,q2,F.NJ _ _ _ _ _ _ ⟨λ_=>?_,λh=>by simp at h;omega⟩⟩;rw[hh'];exact⟨by omega,y.1,by rw[Int.toNat_natCast];exact gy,by omega,x.1,by rw[Int.toNat_natCast];exact gx,_,W0,λh=>absurd (of_decide_eq_true h) hlt,λ_=>q3⟩
theorem yM{n0:Nat}(hn:n0<=1125899906842624)(X A Y:b5l (α × Nat))(y:α × Nat)(hy':Dm y.1)(hA:∀x∈A,Dm x.1)(hs:J8 cm A)(ht:∀x∈A,x.2<y.2)(h0:n0=X.length+A.length+1+Y.length):∀(k p q:Nat),q - p<=k->p<=q->q<=A.length->(∀x∈A.take p,Rt cm x y)->(∀x∈A.drop q,Rt cm y x)->
  ∃S,J8 cm S/\S.Perm (A++[y])/\F.Gy ((X.length+q:Nat):Int) ((X.length+p:Nat):Int) n0 ((X.length+A.length:Nat):Int) (fs (X++A++y::Y)) (fs (X++S++Y)):=by
 intro k
 induction k with
 |zero=>
  intro p q h1 h2 h3 hP hQ;obtain rfl:p=q:=by omega
  refine⟨A.take p++y::A.drop p,?_,?_,?_⟩
  ·refine List.pairwise_append.2 ⟨hs.sublist (List.take_sublist _ _),List.pairwise_cons.2 ⟨hQ,hs.sublist (List.drop_sublist _ _)⟩,λa ha b hb=>?_⟩;rcases List.mem_cons.1 hb with h|h
   ·rw[h];exact hP a ha
   ·exact Rt.trans hp (hA a (List.mem_of_mem_take ha)) hy' (hA b (List.mem_of_mem_drop h)) (hP a ha) (hQ b h)
  ·exact List.perm_middle.trans (by rw[List.take_append_drop];exact(List.perm_append_singleton y A).symm)
  ·refine F.NG _ _ _ _ _ _ ⟨λh=>by simp at h,λ_=>?_⟩;have hlt:(A.take p).length=p:=by simp;omega
   have hld:(A.drop p).length=A.length - p:=by simp
   have:=uL F hn (fs (X++A.take p)) (fs Y) y.1 (X.length+p) (by simp[fs];omega) _ (fs (A.drop p)) [] rfl (by simp[fs];omega);have g0:(fs (X++A.take p)).length+(fs (A.drop p)).length=X.length+A.length:=by simp[fs];omega
   have g1:fs (X++A.take p)++fs (A.drop p)++y.1::[]++fs Y=fs (X++A++y::Y):=by
    conv=>rhs;rw[<-List.take_append_drop p A]
    simp[fs]
   have g2:fs (X++A.take p)++y.1::fs (A.drop p)++[]++fs Y=fs (X++(A.take p++y::A.drop p)++Y):=by simp[fs]
   rw[g0,g1,g2]at this;exact this
 |succ k ih=>
  intro p q h1 h2 h3 hP hQ
  by_cases hpq:p=q
  ·exact ih p q (by omega) h2 h3 hP hQ
  ·have hh:hI ((X.length+p:Nat):Int) ((X.length+q:Nat):Int)=(((X.length+p+(X.length+q)) / 2:Nat):Int):=Ic (by omega) (by omega);generalize hm:(X.length+p+(X.length+q)) / 2 - X.length=m;have hm1:p<=m/\m<q:=by omega
   have hh':hI ((X.length+p:Nat):Int) ((X.length+q:Nat):Int)=((X.length+m:Nat):Int):=by rw[hh];congr 1;omega
   have hx:A[m]? =some A[m]:=b48 (by omega);generalize A[m]=x at hx;have hxA:x∈A:=b5g hx
   have gy:(fs (X++A++y::Y))[X.length+A.length]? =some y.1:=by
    have:fs (X++A++y::Y)=fs (X++A)++y.1::fs Y:=by simp[fs]
    rw[this,show X.length+A.length=(fs (X++A)).length by simp[fs]];simp
   have gx:(fs (X++A++y::Y))[X.length+m]? =some x.1:=by
    have:fs (X++A++y::Y)=fs X++fs A++fs (y::Y):=by simp[fs]
    rw[this,show X.length+m=(fs X).length+m by simp[fs],SZ _ _ _ (by simp[fs];omega)];simp[fs,hx]
   have e1:wI (((X.length+m:Nat):Int)+1)=((X.length+(m+1):Nat):Int):=by rw[wI,C7 (by omega)];omega
   have W0:C y.1 x.1 (cm y.1 x.1):=hC _ _ hy' (hA x hxA)
   by_cases hlt:cm y.1 x.1<0
   ·obtain⟨S,q1,q2,q3⟩:=ih p m (by omega) (by omega) (by omega) hP (λz hz=>by
     obtain⟨t,ht1⟩:=List.mem_iff_getElem?.1 hz;rw[List.getElem?_drop]at ht1
     by_cases e:t=0
     ·subst e;rw[Nat.add_zero,hx]at ht1;cases ht1;exact .inl hlt
     ·have hxz:Rt cm x z:=by
       obtain⟨l1,g1⟩:=List.getElem?_eq_some_iff.1 ht1;obtain⟨l2,g2⟩:=List.getElem?_eq_some_iff.1 hx;rw[<-g1,<-g2];exact List.pairwise_iff_getElem.1 hs m (m+t) l2 l1 (by omega)
      exact Rt.trans hp hy' (hA x hxA) (hA z (b5g ht1)) (.inl hlt) hxz)
    refine⟨S,q1,q2,F.NG _ _ _ _ _ _ ⟨λ_=>?_,λh=>by simp at h;omega⟩⟩;rw[hh'];exact⟨by omega,y.1,by rw[Int.toNat_natCast];exact gy,by omega,x.1,by rw[Int.toNat_natCast];exact gx,_,W0,λh=>by simp at h;omega,λ_=>q3⟩
   ·obtain⟨S,q1,q2,q3⟩:=ih (m+1) q (by omega) (by omega) h3 (λz hz=>by
     have hxy:Rt cm x y:=Rt.of_not hp hy' (hA x hxA) hlt (ht x hxA);obtain⟨t,ht1⟩:=List.mem_iff_getElem?.1 hz;rw[List.getElem?_take]at ht1;split at ht1
     ·rename_i htm
      by_cases e:t=m
      ·subst e;rw[hx]at ht1;cases ht1;exact hxy
      ·have hzx:Rt cm z x:=by
        obtain⟨l1,g1⟩:=List.getElem?_eq_some_iff.1 ht1;obtain⟨l2,g2⟩:=List.getElem?_eq_some_iff.1 hx;rw[<-g1,<-g2];exact List.pairwise_iff_getElem.1 hs t m l1 l2 (by omega)
       exact Rt.trans hp (hA z (b5g ht1)) (hA x hxA) hy' hzx hxy
     ·cases ht1) hQ
    refine⟨S,q1,q2,F.NG _ _ _ _ _ _ ⟨λ_=>?_,λh=>by simp at h;omega⟩⟩;rw[hh',e1];exact⟨by omega,y.1,by rw[Int.toNat_natCast];exact gy,by omega,x.1,by rw[Int.toNat_natCast];exact gx,_,W0,λ_=>q3,λh=>by simp at h;omega⟩
end
section
variable {α:Type}{C:α->α->Int->Prop}{cm:α->α->Int}{Dm:α->Prop}
theorem f9(hp:Pre cm Dm){A1 A2 B1 B2:b5l (α × Nat)}(hD:∀x∈(A1++A2)++(B1++B2),Dm x.1)(hA:J8 cm (A1++A2))(hB:J8 cm (B1++B2))(f1:A1=[]\/B2=[]\/∃U x y V,A1=U++[x]/\B2=y::V/\Rt cm x y)(f2:B1=[]\/A2=[]\/∃U x y V,B1=U++[x]/\A2=y::V/\Rt cm x y):∀x∈A1++B1,∀y∈A2++B2,Rt cm x y:=by
 have key:∀{P Q:b5l (α × Nat)},(∀x∈P,Dm x.1)->(∀x∈Q,Dm x.1)->J8 cm P->J8 cm Q->(P=[]\/Q=[]\/∃U x y V,P=U++[x]/\Q=y::V/\Rt cm x y)->∀x∈P,∀y∈Q,Rt cm x y:=by
  intro P Q dP dQ hP hQ f x hx y hy;rcases f with f|f|⟨U,u,v,V,rfl,rfl,huv⟩
  ·rw[f]at hx;cases hx
  ·rw[f]at hy;cases hy
  ·have h1:x=u\/Rt cm x u:=by
    rcases List.mem_append.1 hx with h|h
    ·exact .inr ((List.pairwise_append.1 hP).2.2 x h u (by simp))
    ·simp at h;exact .inl h
   have h2:y=v\/Rt cm v y:=by
    rcases List.mem_cons.1 hy with h|h
    ·exact .inl h
    ·exact .inr ((List.pairwise_cons.1 hQ).1 y h)
   have du:=dP u (by simp);have dv:=dQ v (by simp)
   have h3:Rt cm x v:=by
    rcases h1 with h|h
    ·rw[h];exact huv
    ·exact Rt.trans hp (dP x hx) du dv h huv
   rcases h2 with h|h
   ·rw[h];exact h3
   ·exact Rt.trans hp (dP x hx) dv (dQ y hy) h3 h
 obtain⟨a1,a2,a3⟩:=List.pairwise_append.1 hA;obtain⟨b1,b2,b3⟩:=List.pairwise_append.1 hB;intro x hx y hy;rcases List.mem_append.1 hx with hx|hx<;>rcases List.mem_append.1 hy with hy|hy
 ·exact a3 x hx y hy
 ·exact key (λz hz=>hD z (by simp[hz])) (λz hz=>hD z (by simp[hz])) a1 b2 f1 x hx y hy
 ·exact key (λz hz=>hD z (by simp[hz])) (λz hz=>hD z (by simp[hz])) b1 a2 f2 x hx y hy
 ·exact b3 x hx y hy
theorem W6{n0:Nat}{l:b5l (α × Nat)}(h:l.length=n0)(h0:0<n0):fs l≠[]:=by
 intro h';have:=congrArg List.length h';simp only[fs,List.length_map,List.length_nil]at this;omega
variable (F:EW α C) (hp:Pre cm Dm) (hC:∀x y,Dm x->Dm y->C x y (cm x y))
 include hp hC
def VD(F:EW α C)(cm:α->α->Int)(Dm:α->Prop)(n0 k:Nat):Prop:=∀(X A B Y:b5l (α × Nat)),A.length+B.length<=k->A≠[]->B≠[]->n0=X.length+A.length+B.length+Y.length->(∀x∈A++B,Dm x.1)->J8 cm A->J8 cm B->(∀x∈A,∀y∈B,x.2<y.2)->
 ∃S,J8 cm S/\S.Perm (A++B)/\F.sy n0 (fs (X++A++B++Y)) (X.length:Nat) ((X.length+A.length:Nat):Int) ((X.length+A.length+B.length:Nat):Int) (fs (X++S++Y))
theorem v6{n0:Nat}(hn:n0<=1125899906842624)(k:Nat)(ih:VD F cm Dm n0 k)(X A1 A2 B1 B2 Y:b5l (α × Nat))(a b m mid s:Nat)(ha:a=X.length)(hm:m=a+A1.length+A2.length)(hb:b=m+B1.length+B2.length)(hmid:mid=(a+b) / 2)(hs:s=a+A1.length)(hcut:A1.length+B1.length=mid - a)(h0:n0=b+Y.length)(hpos:a<mid/\mid<b)(hk:b - a<=k+1)(hD:∀x∈(A1++A2)++(B1++B2),Dm x.1)(hA:J8 cm (A1++A2))(hB:J8 cm (B1++B2))(ht:∀x∈A1++A2,∀y∈B1++B2,x.2<y.2)(hall:∀x∈A1++B1,∀y∈A2++B2,Rt cm x y):
  ∃S,J8 cm S/\S.Perm ((A1++A2)++(B1++B2))/\F.HA a b m s n0 (fs (X++A1++B1++A2++B2++Y)) (fs (X++S++Y)):=by
 have hmI:hI (a:Int) (b:Int)=(mid:Int):=by rw[Ic (by omega) (by omega),hmid]
 have e1:wI (wI ((mid:Int)+m) - s)=((mid+A2.length:Nat):Int):=by
  have:wI ((mid:Int)+m)=(mid:Int)+m:=by rw[wI,C7 (by omega)]
  rw[this,wI,C7 (by omega)];omega
 obtain⟨a1,a2,a3⟩:=List.pairwise_append.1 hA;obtain⟨b1,b2,b3⟩:=List.pairwise_append.1 hB
 have first:∃S1,J8 cm S1/\S1.Perm (A1++B1)/\∀r,F.HJ a b m s n0 (fs (X++S1++A2++B2++Y)) r->F.HA a b m s n0 (fs (X++A1++B1++A2++B2++Y)) r:=by
  by_cases hc:A1≠[]/\B1≠[]
  ·have c1:=List.length_pos_iff.2 hc.1;have c2:=List.length_pos_iff.2 hc.2;obtain⟨S1,q1,q2,q3⟩:=ih X A1 B1 (A2++B2++Y) (by omega) hc.1 hc.2 (by simp;omega) (λx hx=>hD x (by simp at hx ⊢;grind)) a1 b1 (λx hx y hy=>ht x (by simp[hx]) y (by simp[hy]));have hl:S1.length=A1.length+B1.length:=by rw[q2.length_eq];simp
   refine⟨S1,q1,q2,λr hr=>F.Qp _ _ _ _ _ _ _ ⟨λ_=>?_,λh=>?_⟩⟩
   ·rw[hmI];refine⟨fs (X++S1++A2++B2++Y),?_,⟨W6 (n0:=n0) (by simp;omega) (by omega),W6 (n0:=n0) (by simp;omega) (by omega)⟩,hr⟩;have g1:((X.length+A1.length:Nat):Int)=(s:Int):=by omega
    have g2:((X.length+A1.length+B1.length:Nat):Int)=(mid:Int):=by omega
    rw[g1,g2,<-ha]at q3;simpa using q3
   ·rw[hmI]at h;simp only[Bool.and_eq_false_iff,b46]at h;omega
  ·refine⟨A1++B1,?_,.refl _,λr hr=>F.Qp _ _ _ _ _ _ _ ⟨λh=>?_,λ_=>by simpa using hr⟩⟩
   ·rcases Classical.em (A1=[]) with h|h
    ·rw[h];simpa using b1
    ·have:B1=[]:=Classical.byContradiction λh2=>hc ⟨h,h2⟩
     rw[this];simpa using a1
   ·rw[hmI]at h;simp only[b47,b45]at h;exact absurd ⟨λh1=>by rw[h1]at hs;simp at hs;omega,λh1=>by rw[h1]at hcut;simp at hcut;omega⟩ hc
 obtain⟨S1,p1,p2,p3⟩:=first;have hl1:S1.length=A1.length+B1.length:=by rw[p2.length_eq];simp
 have second:∃S2,J8 cm S2/\S2.Perm (A2++B2)/\F.HJ a b m s n0 (fs (X++S1++A2++B2++Y)) (fs (X++S1++S2++Y)):=by
  by_cases hc:A2≠[]/\B2≠[]
  ·have c1:=List.length_pos_iff.2 hc.1;have c2:=List.length_pos_iff.2 hc.2;obtain⟨S2,q1,q2,q3⟩:=ih (X++S1) A2 B2 Y (by omega) hc.1 hc.2 (by simp;omega) (λx hx=>hD x (by simp at hx ⊢;grind)) a2 b2 (λx hx y hy=>ht x (by simp[hx]) y (by simp[hy]));have hl:S2.length=A2.length+B2.length:=by rw[q2.length_eq];simp
   refine⟨S2,q1,q2,F.Qn _ _ _ _ _ _ _ ⟨λ_=>?_,λh=>?_⟩⟩
   ·rw[hmI,e1];refine⟨fs (X++S1++S2++Y),?_,⟨W6 (n0:=n0) (by simp;omega) (by omega),W6 (n0:=n0) (by simp;omega) (by omega)⟩,W6 (n0:=n0) (by simp;omega) (by omega),rfl⟩;have g0:(((X++S1).length:Nat):Int)=(mid:Int):=by simp;omega
    have g1:(((X++S1).length+A2.length:Nat):Int)=((mid+A2.length:Nat):Int):=by simp;omega
    have g2:(((X++S1).length+A2.length+B2.length:Nat):Int)=(b:Int):=by simp;omega
    rw[g0,g1,g2]at q3;simpa using q3
   ·rw[hmI,e1]at h;simp only[Bool.and_eq_false_iff,b46]at h;omega
  ·refine⟨A2++B2,?_,.refl _,F.Qn _ _ _ _ _ _ _ ⟨λh=>?_,λ_=>⟨W6 (n0:=n0) (by simp;omega) (by omega),by simp⟩⟩⟩
   ·rcases Classical.em (A2=[]) with h|h
    ·rw[h];simpa using b2
    ·have:B2=[]:=Classical.byContradiction λh2=>hc ⟨h,h2⟩
     rw[this];simpa using a2
   ·rw[hmI,e1]at h;simp only[b47,b45]at h;exact absurd ⟨λh1=>by rw[h1]at h;simp at h,λh1=>by rw[h1]at hb;simp at hb;omega⟩ hc
 obtain⟨S2,r1,r2,r3⟩:=second;refine⟨S1++S2,List.pairwise_append.2 ⟨p1,r1,λx hx y hy=>hall x (p2.mem_iff.1 hx) y (r2.mem_iff.1 hy)⟩,?_,?_⟩
 ·refine(p2.append r2).trans ?_
  have:(A1++B1++(A2++B2)).Perm (A1++A2++(B1++B2)):=by
   simp only[List.append_assoc];refine List.Perm.append_left A1 ?_;rw[<-List.append_assoc,<-List.append_assoc];exact List.Perm.append_right B2 List.perm_append_comm
  exact this
 ·have:=p3 _ r3;simpa using this
end
section
variable {α:Type}{C:α->α->Int->Prop}{cm:α->α->Int}{Dm:α->Prop}
theorem Lm{l:b5l α}{k:Nat}(h:k<l.length):∃x,l[k]? =some x/\l.take (k+1)=l.take k++[x]/\l.drop k=x::l.drop (k+1):=by
 refine⟨l[k],b48 h,?_,b5c h⟩;rw[List.take_add_one,b48 h];rfl
theorem a2k(hp:Pre cm Dm)(X A B Y:b5l (α × Nat))(a b m mid lo hi:Nat)(ha:a=X.length)(hm:m=a+A.length)(hb:b=m+B.length)(hmid:mid=(a+b) / 2)(hlh:(m<=mid/\lo=a/\hi=m)\/(mid<m/\lo=mid+m - b/\hi=mid))(hD:∀x∈A++B,Dm x.1)(hA:J8 cm A)(hB:J8 cm B)(s:Nat)(h2:lo<=s)(h4:s<=hi)(h5:s=lo\/∀x y,A[s - 1 - a]? =some x->B[mid - s]? =some y->Rt cm x y)(h6:s=hi\/∀x y,A[s - a]? =some x->B[mid - 1 - s]? =some y->Rt cm y x):
  ∀x∈A.take (s - a)++B.take (mid - s),∀y∈A.drop (s - a)++B.drop (mid - s),Rt cm x y:=by
 have hAs:A.take (s - a)++A.drop (s - a)=A:=List.take_append_drop _ _;have hBs:B.take (mid - s)++B.drop (mid - s)=B:=List.take_append_drop _ _;have l1:(A.take (s - a)).length=s - a:=by simp;omega
 have l2:(A.drop (s - a)).length=m - s:=by simp;omega
 have l3:(B.take (mid - s)).length=mid - s:=by simp;omega
 have l4:(B.drop (mid - s)).length=b - m - (mid - s):=by simp;omega
 have f1:A.take (s - a)=[]\/B.drop (mid - s)=[]\/∃U x y V,A.take (s - a)=U++[x]/\B.drop (mid - s)=y::V/\Rt cm x y:=by
  rcases h5 with h5|h5
  ·rcases hlh with⟨g1,g2,g3⟩|⟨g1,g2,g3⟩
   ·left;rw[h5,g2,Nat.sub_self];rfl
   ·right;left;exact b5d (by omega)
  ·by_cases hs:s=a
   ·left;rw[hs,Nat.sub_self];rfl
   by_cases hb2:mid - s<B.length
   ·obtain⟨x,q1,q2,_⟩:=Lm (l:=A) (k:=s - 1 - a) (by omega);obtain⟨y,r1,_,r3⟩:=Lm (l:=B) (k:=mid - s) hb2;right;right;exact⟨_,x,y,_,by rw[<-q2];congr 1;omega,r3,h5 x y q1 r1⟩
   ·right;left;exact b5d (by omega)
 have f2:B.take (mid - s)=[]\/A.drop (s - a)=[]\/∃U x y V,B.take (mid - s)=U++[x]/\A.drop (s - a)=y::V/\Rt cm x y:=by
  rcases h6 with h6|h6
  ·rcases hlh with⟨g1,g2,g3⟩|⟨g1,g2,g3⟩
   ·right;left;exact b5d (by omega)
   ·left;rw[h6,g3,Nat.sub_self];rfl
  ·by_cases hs:mid=s
   ·left;rw[hs,Nat.sub_self];rfl
   by_cases ha2:s - a<A.length
   ·obtain⟨x,q1,_,q3⟩:=Lm (l:=A) (k:=s - a) ha2;obtain⟨y,r1,r2,_⟩:=Lm (l:=B) (k:=mid - 1 - s) (by omega);right;right;exact⟨_,y,x,_,by rw[<-r2];congr 1;omega,q3,h6 x y q1 r1⟩
   ·right;left;exact b5d (by omega)
 exact f9 hp (A1:=A.take (s - a)) (A2:=A.drop (s - a)) (B1:=B.take (mid - s)) (B2:=B.drop (mid - s)) (by rw[hAs,hBs];exact hD) (by rw[hAs];exact hA) (by rw[hBs];exact hB) f1 f2
variable (F:EW α C) (hp:Pre cm Dm) (hC:∀x y,Dm x->Dm y->C x y (cm x y))
 include hp hC
theorem a14{n0:Nat}(hn:n0<=1125899906842624)(k:Nat)(ih:VD F cm Dm n0 k)(X A B Y:b5l (α × Nat))(a b m mid lo hi:Nat)(ha:a=X.length)(hm:m=a+A.length)(hb:b=m+B.length)(hmid:mid=(a+b) / 2)(hlh:(m<=mid/\lo=a/\hi=m)\/(mid<m/\lo=mid+m - b/\hi=mid))(hD:∀x∈A++B,Dm x.1)(hA:J8 cm A)(hB:J8 cm B)(h0:n0=b+Y.length)(hA0:A≠[])(hB0:B≠[])(hk:b - a<=k+1)(ht:∀x∈A,∀y∈B,x.2<y.2)(s:Nat)(h2:lo<=s)(h4:s<=hi)(h5:s=lo\/∀x y,A[s - 1 - a]? =some x->B[mid - s]? =some y->Rt cm x y)(h6:s=hi\/∀x y,A[s - a]? =some x->B[mid - 1 - s]? =some y->Rt cm y x):
  ∃S,J8 cm S/\S.Perm (A++B)/\F.Fx a b m s s n0 (fs (X++A++B++Y)) (fs (X++S++Y)):=by
 have al:=List.length_pos_iff.2 hA0;have bl:=List.length_pos_iff.2 hB0;have bnd:a<=s/\s<=m/\s<=mid/\mid+m<=b+s/\a<mid/\mid<b:=by omega
 have hmI:hI (a:Int) (b:Int)=(mid:Int):=by rw[Ic (by omega) (by omega),hmid]
 have emm:wI ((mid:Int)+m)=((mid+m:Nat):Int):=by rw[wI,C7 (by omega)];omega
 have hall:=a2k hp X A B Y a b m mid lo hi ha hm hb hmid hlh hD hA hB s h2 h4 h5 h6;clear h5 h6 h2 h4 hlh;have hAs:A.take (s - a)++A.drop (s - a)=A:=List.take_append_drop _ _;have hBs:B.take (mid - s)++B.drop (mid - s)=B:=List.take_append_drop _ _;have l1:(A.take (s - a)).length=s - a:=by simp;omega
 have l2:(A.drop (s - a)).length=m - s:=by simp;omega
 have l3:(B.take (mid - s)).length=mid - s:=by simp;omega
 have l4:(B.drop (mid - s)).length=b - m - (mid - s):=by simp;omega
 obtain⟨S,p1,p2,p3⟩:=v6 F hp hC hn k ih X (A.take (s - a)) (A.drop (s - a)) (B.take (mid - s)) (B.drop (mid - s)) Y a b m mid s ha (by omega) (by omega) hmid (by omega) (by omega) h0 (by omega) hk (by rw[hAs,hBs];exact hD) (by rw[hAs];exact hA) (by rw[hBs];exact hB) (by rw[hAs,hBs];exact ht) hall;rw[hAs,hBs]at p2;have e1:wI (((mid+m:Nat):Int) - s)=((mid+m - s:Nat):Int):=by rw[wI,C7 (by omega)];omega
 refine⟨S,p1,p2,F.NH _ _ _ _ _ _ _ _ ⟨λh=>by simp at h,λ_=>?_⟩⟩;rw[hmI,emm,e1]
 have hin:fs (X++A++B++Y)=fs (X++A.take (s - a))++fs (A.drop (s - a))++fs (B.take (mid - s))++fs (B.drop (mid - s)++Y):=by
  have:X++A++B++Y=X++(A.take (s - a)++A.drop (s - a))++(B.take (mid - s)++B.drop (mid - s))++Y:=by rw[hAs,hBs]
  rw[this];simp only[fs,List.map_append,List.append_assoc]
 have hout:fs (X++A.take (s - a))++fs (B.take (mid - s))++fs (A.drop (s - a))++fs (B.drop (mid - s)++Y)=fs (X++A.take (s - a)++B.take (mid - s)++A.drop (s - a)++B.drop (mid - s)++Y):=by simp only[fs,List.map_append,List.append_assoc]
 refine⟨λh=>?_,λh=>?_⟩
 ·simp only[b47,b45]at h;have hr:=a3p F hn (fs (X++A.take (s - a))) (fs (A.drop (s - a))) (fs (B.take (mid - s))) (fs (B.drop (mid - s)++Y)) (a:=s) (m:=m) (b:=mid+m - s) (by simp only[fs,List.length_map,b5i];omega) (by simp only[fs,List.length_map];omega) (by simp only[fs,List.length_map];omega) (by simp only[fs,List.length_map,b5i];omega) (λh'=>by have:=congrArg List.length h';simp only[fs,List.length_map,List.length_nil]at this;omega) (λh'=>by have:=congrArg List.length h';simp only[fs,List.length_map,List.length_nil]at this;omega);rw[<-hin,hout]at hr;exact⟨_,hr,⟨W6 (n0:=n0) (by simp only[b5i];omega) (by omega),W6 (n0:=n0) (by simp only[b5i];omega) (by omega)⟩,p3⟩
 ·simp only[Bool.and_eq_false_iff,b46]at h
  have heq:fs (X++A++B++Y)=fs (X++A.take (s - a)++B.take (mid - s)++A.drop (s - a)++B.drop (mid - s)++Y):=by
   rw[hin,<-hout]
   have:A.drop (s - a)=[]\/B.take (mid - s)=[]:=by
    rcases h with h|h
    ·left;exact b5d (by omega)
    ·right;exact List.eq_nil_of_length_eq_zero (by omega)
   rcases this with e|e<;>rw[e]<;>simp[fs]
  rw[heq];exact p3
theorem ms{n0:Nat}(hn:n0<=1125899906842624)(k:Nat)(ih:VD F cm Dm n0 k)(X A B Y:b5l (α × Nat))(a b m mid lo hi:Nat)(ha:a=X.length)(hm:m=a+A.length)(hb:b=m+B.length)(hmid:mid=(a+b) / 2)(h0:n0=b+Y.length)(hA0:A≠[])(hB0:B≠[])(hk:b - a<=k+1)(hlh:(m<=mid/\lo=a/\hi=m)\/(mid<m/\lo=mid+m - b/\hi=mid))(hD:∀x∈A++B,Dm x.1)(hA:J8 cm A)(hB:J8 cm B)(ht:∀x∈A,∀y∈B,x.2<y.2):∀(d s t:Nat),t - s<=d->lo<=s->s<=t->t<=hi->
  (s=lo\/∀x y,A[s - 1 - a]? =some x->B[mid - s]? =some y->Rt cm x y)->(t=hi\/∀x y,A[t - a]? =some x->B[mid - 1 - t]? =some y->Rt cm y x)->
  ∃S,J8 cm S/\S.Perm (A++B)/\F.Fx a b m t s n0 (fs (X++A++B++Y)) (fs (X++S++Y)):=by
 have al:=List.length_pos_iff.2 hA0;have bl:=List.length_pos_iff.2 hB0;have hmI:hI (a:Int) (b:Int)=(mid:Int):=by rw[Ic (by omega) (by omega),hmid]
 have emm:wI ((mid:Int)+m)=((mid+m:Nat):Int):=by rw[wI,C7 (by omega)];omega
 intro d
 induction d with
 |zero=>
  intro s t h1 h2 h3 h4 h5 h6;obtain rfl:s=t:=by omega
  exact a14 F hp hC hn k ih X A B Y a b m mid lo hi ha hm hb hmid hlh hD hA hB h0 hA0 hB0 hk ht s h2 h4 h5 h6
 |succ d ihd=>
  intro s t h1 h2 h3 h4 h5 h6
  by_cases hst:s=t
  ·exact ihd s t (by omega) h2 h3 h4 h5 h6
  have hcI:hI (s:Int) (t:Int)=(((s+t) / 2:Nat):Int):=Ic (by omega) (by omega);generalize hcd:(s+t) / 2=c at hcI;have hc:s<=c/\c<t:=by omega
  have hcA:c - a<A.length/\a<=c:=by omega
  have hcB:mid - 1 - c<B.length/\c<mid:=by omega
  obtain⟨x,hx,_,_⟩:=Lm hcA.1;obtain⟨y,hy,_,_⟩:=Lm hcB.1;have hxA:=b5g hx;have hyB:=b5g hy
  have gx:(fs (X++A++B++Y))[c]? =some x.1:=by
   have:fs (X++A++B++Y)=fs X++fs A++fs (B++Y):=by simp[fs]
   rw[this,show c=(fs X).length+(c - a) by simp[fs];omega,SZ _ _ _ (by simp[fs];omega)];simp[fs,hx]
  have gy:(fs (X++A++B++Y))[mid+m - 1 - c]? =some y.1:=by
   have:fs (X++A++B++Y)=fs (X++A)++fs B++fs Y:=by simp[fs]
   rw[this,show mid+m - 1 - c=(fs (X++A)).length+(mid - 1 - c) by simp[fs];omega,SZ _ _ _ (by simp[fs];omega)];simp[fs,hy]
  have e1:wI (((mid+m:Nat):Int) - 1)=((mid+m - 1:Nat):Int):=by rw[wI,C7 (by omega)];omega
  have e2:wI (((mid+m - 1:Nat):Int) - (c:Int))=((mid+m - 1 - c:Nat):Int):=by rw[wI,C7 (by omega)];omega
  have e3:wI ((c:Int)+1)=((c+1:Nat):Int):=by rw[wI,C7 (by omega)];omega
  have W0:C y.1 x.1 (cm y.1 x.1):=hC _ _ (hD y (by simp[hyB])) (hD x (by simp[hxA]))
  by_cases hlt:cm y.1 x.1<0
  ·obtain⟨S,q1,q2,q3⟩:=ihd s c (by omega) h2 (by omega) (by omega) h5 (.inr λx' y' hx' hy'=>by
    rw[hx]at hx';cases hx';rw[hy]at hy';cases hy';exact .inl hlt)
   refine⟨S,q1,q2,F.NH _ _ _ _ _ _ _ _ ⟨λ_=>?_,λh=>by simp at h;omega⟩⟩;rw[hmI,emm,e1,hcI,e2];exact⟨by omega,y.1,by rw[Int.toNat_natCast];exact gy,by omega,x.1,by rw[Int.toNat_natCast];exact gx,_,W0,λh=>by simp at h;omega,λ_=>q3⟩
  ·obtain⟨S,q1,q2,q3⟩:=ihd (c+1) t (by omega) (by omega) (by omega) h4 (.inr λx' y' hx' hy'=>by
    rw[show c+1 - 1 - a=c - a by omega,hx]at hx';cases hx';rw[show mid - (c+1)=mid - 1 - c by omega,hy]at hy';cases hy';exact Rt.of_not hp (hD y (by simp[hyB])) (hD x (by simp[hxA])) hlt (ht x hxA y hyB)) h6
   refine⟨S,q1,q2,F.NH _ _ _ _ _ _ _ _ ⟨λ_=>?_,λh=>by simp at h;omega⟩⟩;rw[hmI,emm,e1,hcI,e2,e3];exact⟨by omega,y.1,by rw[Int.toNat_natCast];exact gy,by omega,x.1,by rw[Int.toNat_natCast];exact gx,_,W0,λ_=>q3,λh=>by simp at h;omega⟩
theorem lw{n0:Nat}(hn:n0<=1125899906842624):∀k,VD F cm Dm n0 k:=by
 intro k
 induction k with
 |zero=>
  intro X A B Y hk hA;exact absurd (List.eq_nil_of_length_eq_zero (by omega)) hA
 |succ k ih=>
  intro X A B Y hk hA0 hB0 h0 hD hA hB ht;have al:=List.length_pos_iff.2 hA0;have bl:=List.length_pos_iff.2 hB0;have e1:wI (((X.length+A.length:Nat):Int) - (X.length:Nat))=(A.length:Int):=by rw[wI,C7 (by omega)];omega
  have e2:wI (((X.length+A.length+B.length:Nat):Int) - ((X.length+A.length:Nat):Int))=(B.length:Int):=by rw[wI,C7 (by omega)];omega
  by_cases c1:A.length=1
  ·obtain⟨x,rfl⟩:=List.length_eq_one_iff.1 c1;obtain⟨S,q1,q2,q3⟩:=a8b F hp hC hn X B Y x (hD x (by simp)) (λy hy=>hD y (by simp[hy])) hB (λy hy=>ht x (by simp) y hy) (by simp at h0;omega) B.length 0 B.length (by omega) (by omega) (by omega) (λy hy=>by simp at hy) (λy hy=>by simp at hy);refine⟨S,q1,by simpa using q2,F.Kk _ _ _ _ _ _ ⟨λ_=>?_,λh=>by rw[e1]at h;simp at h⟩⟩;simpa using q3
  by_cases c2:B.length=1
  ·obtain⟨y,rfl⟩:=List.length_eq_one_iff.1 c2;obtain⟨S,q1,q2,q3⟩:=yM F hp hC hn X A Y y (hD y (by simp)) (λx hx=>hD x (by simp[hx])) hA (λx hx=>ht x hx y (by simp)) (by simp at h0;omega) A.length 0 A.length (by omega) (by omega) (by omega) (λy hy=>by simp at hy) (λy hy=>by simp at hy);refine⟨S,q1,q2,F.Kk _ _ _ _ _ _ ⟨λh=>by rw[e1]at h;simp at h;omega,λ_=>⟨λ_=>?_,λh=>by rw[e2]at h;simp at h⟩⟩⟩;simpa using q3
  ·have hmI:hI ((X.length:Nat):Int) ((X.length+A.length+B.length:Nat):Int)=(((X.length+(X.length+A.length+B.length)) / 2:Nat):Int):=Ic (by omega) (by omega);generalize hmid:(X.length+(X.length+A.length+B.length)) / 2=mid at hmI;rcases Nat.lt_or_ge mid (X.length+A.length) with hlt|hge
   ·have em:wI (wI ((mid:Int)+((X.length+A.length:Nat):Int)) - ((X.length+A.length+B.length:Nat):Int))=((mid+(X.length+A.length) - (X.length+A.length+B.length):Nat):Int):=by
     have:wI ((mid:Int)+((X.length+A.length:Nat):Int))=(mid:Int)+((X.length+A.length:Nat):Int):=by rw[wI,C7 (by omega)]
     rw[this,wI,C7 (by omega)];omega
    obtain⟨S,q1,q2,q3⟩:=ms F hp hC hn k ih X A B Y X.length (X.length+A.length+B.length) (X.length+A.length) mid (mid+(X.length+A.length) - (X.length+A.length+B.length)) mid rfl rfl rfl hmid.symm (by omega) hA0 hB0 (by omega) (.inr ⟨hlt,rfl,rfl⟩) hD hA hB ht mid (mid+(X.length+A.length) - (X.length+A.length+B.length)) mid (by omega) (Nat.le_refl _) (by omega) (Nat.le_refl _) (.inl rfl) (.inl rfl);refine⟨S,q1,q2,F.Kk _ _ _ _ _ _ ⟨λh=>by rw[e1]at h;simp at h;omega,λ_=>⟨λh=>by rw[e2]at h;simp at h;omega,λ_=>⟨λ_=>F.Qu _ _ _ _ _ _ _ _ ?_,λh=>by rw[hmI]at h;simp at h;omega⟩⟩⟩⟩;rw[hmI,em];exact q3
   ·obtain⟨S,q1,q2,q3⟩:=ms F hp hC hn k ih X A B Y X.length (X.length+A.length+B.length) (X.length+A.length) mid X.length (X.length+A.length) rfl rfl rfl hmid.symm (by omega) hA0 hB0 (by omega) (.inl ⟨hge,rfl,rfl⟩) hD hA hB ht (X.length+A.length) X.length (X.length+A.length) (by omega) (Nat.le_refl _) (by omega) (Nat.le_refl _) (.inl rfl) (.inl rfl);refine⟨S,q1,q2,F.Kk _ _ _ _ _ _ ⟨λh=>by rw[e1]at h;simp at h;omega,λ_=>⟨λh=>by rw[e2]at h;simp at h;omega,λ_=>⟨λh=>by rw[hmI]at h;simp at h;omega,λ_=>F.Qu _ _ _ _ _ _ _ _ q3⟩⟩⟩⟩
end
section
variable {α:Type}{C:α->α->Int->Prop}{cm:α->α->Int}{Dm:α->Prop}
inductive Cw(cm:α->α->Int)(k:Nat):List (α × Nat)->Prop
 |last (S:List (α × Nat)) (h:J8 cm S) (hl:S.length<=k):Cw cm k S
 |cons (S L:List (α × Nat)) (h:J8 cm S) (hl:S.length=k) (hr:Cw cm k L) (ht:∀x∈S,∀y∈L,x.2<y.2):Cw cm k (S++L)
theorem Cw.sorted{k:Nat}(hk:0<k){L:b5l (α × Nat)}(h:Cw cm k L)(hl:L.length<=k):J8 cm L:=by
 cases h with
 |last _ h _=>exact h
 |cons S L h hl' hr ht=>
  have:L=[]:=List.eq_nil_of_length_eq_zero (by simp at hl;omega);rw[this];simpa using h
theorem Cw.first{k:Nat}{L:b5l (α × Nat)}(h:Cw cm k L)(hl:k<=L.length):∃S M,L=S++M/\J8 cm S/\S.length=k/\Cw cm k M/\∀x∈S,∀y∈M,x.2<y.2:=by
 cases h with
 |last _ h hl'=>exact⟨L,[],by simp,h,by omega,.last [] .nil (Nat.zero_le _),λx _ y hy=>by cases hy⟩
 |cons S M h hl' hr ht=>exact⟨S,M,rfl,h,hl',hr,ht⟩
variable (F:EW α C) (hp:Pre cm Dm) (hC:∀x y,Dm x->Dm y->C x y (cm x y))
 include hp hC
theorem vP{n0:Nat}(hn:n0<=1125899906842624)(k n:Nat)(hk:0<k/\k<n)(hnn:n=n0):∀(d:Nat) (M L:b5l (α × Nat)),L.length<=d->n=M.length+L.length->(∀x∈L,Dm x.1)->Cw cm k L->
  ∃L',Cw cm (2*k) L'/\L'.Perm L/\∀r,F.Eo ((2*k:Nat):Int) n0 n (fs (M++L')) r->F.Kr ((M.length+2*k:Nat):Int) (M.length:Nat) k n0 n (fs (M++L)) r:=by
 have e2:wI ((k:Int)*2)=((2*k:Nat):Int):=by rw[wI,C7 (by omega)];omega
 have e3:wI (2*(k:Int))=((2*k:Nat):Int):=by rw[wI,C7 (by omega)];omega
 intro d
 induction d with
 |zero=>
  intro M L hd hl hD hr;have:L=[]:=List.eq_nil_of_length_eq_zero (by omega);subst this;simp only[List.length_nil]at hl;have e1:wI ((M.length:Int)+k)=((M.length+k:Nat):Int):=by rw[wI,C7 (by omega)];omega
  refine⟨[],.last [] .nil (Nat.zero_le _),.refl _,λr hr'=>F.Ks _ _ _ _ _ _ _ ⟨λh=>by simp at h;omega,λ_=>⟨λh=>by rw[e1]at h;simp at h;omega,λ_=>by rw[e2];exact hr'⟩⟩⟩
 |succ d ih=>
  intro M L hd hl hD hr;have e1:wI ((M.length:Int)+k)=((M.length+k:Nat):Int):=by rw[wI,C7 (by omega)];omega
  have e4:wI (((M.length+2*k:Nat):Int)+((2*k:Nat):Int))=((M.length+2*k+2*k:Nat):Int):=by rw[wI,C7 (by omega)];omega
  rcases Nat.lt_or_ge L.length (2*k) with hlt|hge
  ·rcases Nat.lt_or_ge k L.length with hk2|hk2
   ·obtain⟨S1,S2,rfl,h1,h2,h3,h4⟩:=hr.first (by omega);have hl2:(S1++S2).length=S1.length+S2.length:=by simp
    have h5:J8 cm S2:=h3.sorted hk.1 (by omega);obtain⟨T,q1,q2,q3⟩:=lw F hp hC hn _ M S1 S2 [] (Nat.le_refl _) (λh=>by rw[h]at h2;simp at h2;omega) (λh=>by subst h;simp at hk2;omega) (by simp;omega) hD h1 h5 h4;have ql:T.length=S1.length+S2.length:=by rw[q2.length_eq];simp
    refine⟨T,.last T q1 (by omega),q2,λr hr'=>F.Ks _ _ _ _ _ _ _ ⟨λh=>by simp at h;omega,λ_=>⟨λ_=>?_,λh=>by rw[e1]at h;simp at h;omega⟩⟩⟩;rw[e1,e2];refine⟨fs (M++T),?_,⟨W6 (n0:=n0) (by simp;omega) (by omega),W6 (n0:=n0) (by simp;omega) (by omega)⟩,hr'⟩;rw[show M.length+k=M.length+S1.length by omega,show(n:Int)=((M.length+S1.length+S2.length:Nat):Int) by omega];simpa using q3
   ·refine⟨L,.last L (hr.sorted hk.1 hk2) (by omega),.refl _,λr hr'=>F.Ks _ _ _ _ _ _ _ ⟨λh=>by simp at h;omega,λ_=>⟨λh=>by rw[e1]at h;simp at h;omega,λ_=>by rw[e2];exact hr'⟩⟩⟩
  ·obtain⟨S1,L1,rfl,h1,h2,h3,h4⟩:=hr.first (by omega);have hl1:(S1++L1).length=S1.length+L1.length:=by simp
   obtain⟨S2,L2,rfl,g1,g2,g3,g4⟩:=h3.first (by omega);have hl2:(S2++L2).length=S2.length+L2.length:=by simp
   obtain⟨T,q1,q2,q3⟩:=lw F hp hC hn _ M S1 S2 L2 (Nat.le_refl _) (λh=>by rw[h]at h2;simp at h2;omega) (λh=>by rw[h]at g2;simp at g2;omega) (by omega) (λx hx=>hD x (by simp at hx ⊢;grind)) h1 g1 (λx hx y hy=>h4 x hx y (by simp[hy]));have ql:T.length=S1.length+S2.length:=by rw[q2.length_eq];simp
   obtain⟨L',p1,p2,p3⟩:=ih (M++T) L2 (by omega) (by simp;omega) (λx hx=>hD x (by simp[hx])) g3;refine⟨T++L',.cons T L' q1 (by omega) p1 (λx hx y hy=>?_),?_,λr hr'=>F.Ks _ _ _ _ _ _ _ ⟨λ_=>?_,λh=>by simp at h;omega⟩⟩
   ·have hy2:=p2.mem_iff.1 hy;rcases List.mem_append.1 (q2.mem_iff.1 hx) with h|h
    ·exact h4 x h y (by simp[hy2])
    ·exact g4 x h y hy2
   ·have:=q2.append p2;simpa[List.append_assoc]using this
   ·rw[e1,e3,e4];refine⟨fs (M++T++L2),?_,⟨W6 (n0:=n0) (by simp;omega) (by omega),W6 (n0:=n0) (by simp;omega) (by omega)⟩,?_⟩
    ·rw[show M.length+k=M.length+S1.length by omega,show M.length+2*k=M.length+S1.length+S2.length by omega];simpa using q3
    ·have:=p3 r (by simpa using hr');have gl:(M++T).length=M.length+2*k:=by simp;omega
     rw[gl]at this;exact this
theorem a81{n0:Nat}(hn:n0<=1125899906842624)(hpos:0<n0):∀(d k:Nat) (L:b5l (α × Nat)),n0 - k<=d->0<k->k<=2*n0+20->L.length=n0->(∀x∈L,Dm x.1)->Cw cm k L->∃S,J8 cm S/\S.Perm L/\F.Eo k n0 (n0:Nat) (fs L) (fs S):=by
 intro d
 induction d with
 |zero=>
  intro k L hd hk hk2 hl hD hr;exact⟨L,hr.sorted hk (by omega),.refl _,F.NM _ _ _ _ _ ⟨λh=>by simp at h;omega,λ_=>⟨W6 hl hpos,rfl⟩⟩⟩
 |succ d ih=>
  intro k L hd hk hk2 hl hD hr;rcases Nat.lt_or_ge k n0 with hlt|hge
  ·obtain⟨L',q1,q2,q3⟩:=vP F hp hC hn k n0 ⟨hk,hlt⟩ rfl L.length [] L (Nat.le_refl _) (by simp;omega) hD hr;obtain⟨S,p1,p2,p3⟩:=ih (2*k) L' (by omega) (by omega) (by omega) (by rw[q2.length_eq];exact hl) (λx hx=>hD x (q2.mem_iff.1 hx)) q1;have e3:wI (2*(k:Int))=((2*k:Nat):Int):=by rw[wI,C7 (by omega)];omega
   refine⟨S,p1,p2.trans q2,F.NM _ _ _ _ _ ⟨λ_=>?_,λh=>by simp at h;omega⟩⟩;have:=q3 _ (by simpa using p3);rw[e3];simpa using this
  ·exact⟨L,hr.sorted hk (by omega),.refl _,F.NM _ _ _ _ _ ⟨λh=>by simp at h;omega,λ_=>⟨W6 hl hpos,rfl⟩⟩⟩
theorem a4y{n0:Nat}(hn:n0<=1125899906842624)(hpos:0<n0):∀(d:Nat) (M L:b5l (α × Nat)),L.length<=d->n0=M.length+L.length->(∀x∈L,Dm x.1)->L.Pairwise (λx y=>x.2<y.2)->
  ∃L',Cw cm 20 L'/\L'.Perm L/\∀r,F.Eo 20 n0 (n0:Nat) (fs (M++L')) r->F.Kq ((M.length+20:Nat):Int) (M.length:Nat) n0 (n0:Nat) (fs (M++L)) r:=by
 intro d
 induction d with
 |zero=>
  intro M L hd hl hD ht;have:L=[]:=List.eq_nil_of_length_eq_zero (by omega);subst this;simp only[List.length_nil]at hl;obtain⟨S,q1,q2,q3⟩:=Yn F hp hC hn M [] [] (a:=M.length) (b:=n0) rfl (by simp;omega) (by simp) hpos hD .nil;have qe:S=[]:=List.Perm.eq_nil q2;subst qe;refine⟨[],.last [] .nil (Nat.zero_le _),.refl _,λr hr=>F.NL _ _ _ _ _ _ ⟨λh=>by simp at h;omega,λ_=>⟨fs (M++[]),by simpa using q3,⟨W6 (n0:=n0) (by simp;omega) hpos,W6 (n0:=n0) (by simp;omega) hpos⟩,hr⟩⟩⟩
 |succ d ih=>
  intro M L hd hl hD ht;rcases Nat.lt_or_ge L.length 20 with hlt|hge
  ·obtain⟨S,q1,q2,q3⟩:=Yn F hp hC hn M L [] (a:=M.length) (b:=n0) rfl (by omega) (by simp) hpos hD ht;have ql:=q2.length_eq;refine⟨S,.last S q1 (by omega),q2,λr hr=>F.NL _ _ _ _ _ _ ⟨λh=>by simp at h;omega,λ_=>⟨fs (M++S),by simpa using q3,⟨W6 (n0:=n0) (by simp;omega) hpos,W6 (n0:=n0) (by simp;omega) hpos⟩,hr⟩⟩⟩
  ·have hsplit:L=L.take 20++L.drop 20:=(List.take_append_drop _ _).symm;have l1:(L.take 20).length=20:=by simp;omega
   generalize ha:L.take 20=A at hsplit l1;generalize hb:L.drop 20=B at hsplit;subst hsplit;have hl2:(A++B).length=A.length+B.length:=by simp
   obtain⟨t1,t2,t3⟩:=List.pairwise_append.1 ht;obtain⟨S,q1,q2,q3⟩:=Yn F hp hC hn M A B (a:=M.length) (b:=M.length+20) rfl (by omega) (by omega) hpos (λx hx=>hD x (by simp[hx])) t1;have ql:=q2.length_eq;obtain⟨L',p1,p2,p3⟩:=ih (M++S) B (by omega) (by simp;omega) (λx hx=>hD x (by simp[hx])) t2;have e1:wI (((M.length+20:Nat):Int)+20)=((M.length+20+20:Nat):Int):=by rw[wI,C7 (by omega)];omega
   refine⟨S++L',.cons S L' q1 (by omega) p1 (λx hx y hy=>t3 x (q2.mem_iff.1 hx) y (p2.mem_iff.1 hy)),q2.append p2,λr hr=>F.NL _ _ _ _ _ _ ⟨λ_=>?_,λh=>by simp at h;omega⟩⟩;rw[e1];refine⟨fs (M++S++B),by simpa using q3,⟨W6 (n0:=n0) (by simp;omega) hpos,W6 (n0:=n0) (by simp;omega) hpos⟩,?_⟩;have:=p3 r (by simpa using hr);have gl:(M++S).length=M.length+20:=by simp;omega
   rw[gl]at this;exact this
theorem Yl{n0:Nat}(hn:n0<=1125899906842624)(hpos:0<n0)(L:b5l (α × Nat))(hl:L.length=n0)(hD:∀x∈L,Dm x.1)(ht:L.Pairwise (λx y=>x.2<y.2)):∃S,J8 cm S/\S.Perm L/\F.so n0 (fs L) (fs S):=by
 obtain⟨L',q1,q2,q3⟩:=a4y F hp hC hn hpos L.length [] L (Nat.le_refl _) (by simp;omega) hD ht;obtain⟨S,p1,p2,p3⟩:=a81 F hp hC hn hpos n0 20 L' (by omega) (by omega) (by omega) (by rw[q2.length_eq];exact hl) (λx hx=>hD x (q2.mem_iff.1 hx)) q1;have hs:S.length=n0:=by rw[p2.length_eq,q2.length_eq];exact hl
 refine⟨S,p1,p2.trans q2,F.XJ _ _ _ ⟨fs S,F.XI _ _ _ _ ?_,⟨W6 hl hpos,W6 hs hpos⟩,W6 hs hpos,rfl⟩⟩;have:=q3 _ (by simpa using p3);simpa using this
end
section
variable {α:Type}{cm:α->α->Int}{Dm:α->Prop}
theorem Rt.irrefl{x y:α × Nat}(hp:Pre cm Dm)(hx:Dm x.1)(hy:Dm y.1)(h1:Rt cm x y)(h2:Rt cm y x):False:=by
 have a:=hp.sym x.1 y.1 hx hy;have b:=hp.sym y.1 x.1 hy hx;unfold Rt at h1 h2;omega
theorem oS(hp:Pre cm Dm):∀(S T:b5l (α × Nat)),S.Perm T->(∀x∈S,Dm x.1)->J8 cm S->J8 cm T->S=T
 |[],T,h,_,_,_=>(List.Perm.nil_eq h)
 |x::S,[],h,_,_,_=>by have:=h.length_eq;simp at this
 |x::S,y::T,h,hD,hS,hT=>by
  have hxy:x=y:=by
   have hx:x∈y::T:=h.mem_iff.1 List.mem_cons_self;have hy:y∈x::S:=h.mem_iff.2 List.mem_cons_self;rcases List.mem_cons.1 hx with e|e
   ·exact e
   ·rcases List.mem_cons.1 hy with e2|e2
    ·exact e2.symm
    ·exact(Rt.irrefl hp (hD x List.mem_cons_self) (hD y hy) ((List.pairwise_cons.1 hS).1 y e2) ((List.pairwise_cons.1 hT).1 x e)).elim
  subst hxy;rw[oS hp S T ((List.perm_cons x).1 h) (λz hz=>hD z (List.mem_cons_of_mem _ hz)) (List.pairwise_cons.1 hS).2 (List.pairwise_cons.1 hT).2]
def P5(l:b5l α):b5l (α × Nat):=l.zipIdx
theorem NU(l:b5l α):fs (P5 l)=l:=by simp[P5,fs]
theorem Yr(l:b5l α):(P5 l).Pairwise (λx y=>x.2<y.2):=by
 rw[List.pairwise_iff_getElem];intro i j hi hj h;simp[P5];omega
def Ez(cm:α->α->Int)(l r:b5l α):Prop:=∃S,J8 cm S/\S.Perm (P5 l)/\r=fs S
theorem Ez.one(hp:Pre cm Dm){l r t:b5l α}(hD:∀x∈l,Dm x)(h1:Ez cm l r)(h2:Ez cm l t):r=t:=by
 obtain⟨S,a1,a2,rfl⟩:=h1;obtain⟨T,b1,b2,rfl⟩:=h2;have hm:∀x∈S,Dm x.1:=λx hx=>hD _ (by rw[<-NU l];exact List.mem_map_of_mem (a2.mem_iff.1 hx))
 rw[oS hp S T (a2.trans b2.symm) hm a1 b1]
end
def Gp{α:Type}(P:Program)(e:α->b5l AV)(sz:Nat)(f:FuncId)(l:b5l α):Prop:=
 AF P f [.sl (l.map e) .no] ⟨[],[],[]⟩ λa h=>a=.row 0 0 sz l.length l.length/\h=⟨[some (cellsOf e l)],[],[]⟩
section
variable {α:Type}{e:α->b5l AV}{sz:Nat}
theorem j2{P:Program}{f:FuncId}{l:b5l α}{args':b5l AV}{h:A3}{K:AV->A3->Prop}(hf:Gp P e sz f l)(he:Q8 e sz)(h0:l≠[])(ha:args'.map nz=[.sl (l.map e) .no])(hk:K (.row h.A5.length 0 sz l.length l.length) ⟨h.A5++[some (cellsOf e l)],h.A9,h.B0⟩):AF P f args' h K:=by
 refine⟨hf.1,λσ cargs hi hr=>?_⟩
 have hopen:∀b o,σ.open_ b o->b<σ.w.heap.size:=by
  rintro b o (ho|⟨n,hn⟩|⟨id,e,he,hs⟩)
  ·exact(hi.outer b o ho).1
  ·exact hi.lt hn
  ·exact hi.H4 id e b o he hs
 have hp:C3 [AV.sl (l.map e) .no]:=by
  simp only[C3,plain,Bool.and_true,Bool.true_and];exact T1 e l λy _=>he.hp y
 have hrels:U3 (bare σ.w σ.open_) [.sl (l.map e) .no] cargs.toList:=by
  refine⟨by rw[hr.1,<-ha];simp,λi av hav=>?_⟩;have hav':=hav;rw[<-ha]at hav;simp only[b5b,b43]at hav;obtain⟨b,hb,rfl⟩:=hav;obtain⟨x,h1,h2⟩:=hr.2 i b hb;exact⟨x,h1,h2.nz.down (Ax hp i _ hav') rfl λ_ _ h=>h⟩
 have hglobs:JT σ.w σ.open_ []:=λg cells hg=>by cases hg
 refine(hf.2 (bare σ.w σ.open_) cargs (Ug hopen hglobs) hrels).mono λe1 w' hq=>?_
 obtain⟨σ1,h1,av,x,rfl,rfl,hle,hi1,hrx,rfl,rfl⟩:=hq;have hpast:K9 σ.w σ1.w:=⟨hle.size,λb hb=>hle.whole b hb λo=>Gu σ.w σ.open_ b o,hle.os,hle.tape,hle.output⟩;obtain⟨b0,hb0,hat⟩:=hi1.blk 0 _ rfl
 have hge:σ.w.heap.size<=b0:=by
  rcases Nat.lt_or_ge b0 σ.w.heap.size with hlt|hge
  ·exact(Gu σ.w σ.open_ b0 0 (hle.own b0 0 hlt (.inl ⟨0,hb0⟩))).elim
  ·exact hge
 let σ2:Sg:=⟨σ1.w,λn=>if n=h.A5.length then some b0 else σ.blk n,σ.buf,σ.outer⟩
 have hdom:∀n b,σ.blk n=some b->n<h.A5.length:=λn b hn=>hi.name hn
 have hblt:∀n b,σ.blk n=some b->b<σ.w.heap.size:=λn b hn=>hi.lt hn
 have hslt:∀id e b o,σ.buf id=some e->e.tail b o->b<σ.w.heap.size:=by
  intro id e b o he hs;exact hi.H4 id e b o he hs
 have hle2:Le σ σ2:={
  blk:=λn b hn=>by
   show(if n=h.A5.length then some b0 else σ.blk n)=some b;rw[if_neg (by have:=hdom n b hn;omega)];exact hn
  buf:=λ_ e h=>⟨e,h,Nat.le_refl _,rfl,λ_=>rfl⟩
  outer:=rfl
  cell:=λb o hb _=>BZ (hpast.old b hb) o
  ext:=(Le.world (σ:=σ) hpast).ext
  shape:=(Le.world (σ:=σ) hpast).shape
  whole:=λb hb _=>hpast.old b hb
  own:=λb o hb ho=>by
   rcases ho with⟨n,hn⟩|hx
   ·simp only[σ2]at hn;split at hn
    ·cases hn;omega
    ·exact .inl ⟨n,hn⟩
   ·exact .inr hx
  size:=hpast.size
  os:=hpast.os
  tape:=hpast.tape
  output:=hpast.output}
 have hop:∀b o,σ2.open_ b o->σ1.open_ b o:=by
  have side:∀b o,σ.open_ b o->σ1.open_ b o:=λb o h=>.inl (by rw[hle.outer];exact h)
  rintro b o (ho|⟨n,hn⟩|ho)
  ·exact side b o (.inl ho)
  ·simp only[σ2]at hn;split at hn
   ·cases hn;exact .inr (.inl ⟨0,hb0⟩)
   ·exact side b o (.inr (.inl ⟨n,hn⟩))
  ·exact side b o (.inr (.inr ho))
 have hni:I4 (cellsOf e l):=GW he.hn h0
 have hat2:S3 σ2 b0 (cellsOf e l):=by
  obtain⟨cs,rest,elem,g1,g2⟩:=hat.plain hni;refine .cells _ cs rest elem g1 ⟨g2.1,λi a hia=>?_⟩;obtain⟨k1,y,k2,k3⟩:=g2.2 i a hia;exact⟨k1,y,k2,k3.move (he.mem (b5g hia)).1 rfl hop⟩
 refine⟨σ2,_,_,x,rfl,rfl,hle2,?_,?_,hk⟩
 ·exact {
   blk:=λn cs hn=>by
    by_cases hl:n<h.A5.length
    ·rw[b49 hl]at hn;obtain⟨b,h1,h2⟩:=hi.blk n cs hn;exact⟨b,hle2.blk n b h1,h2.keep hle2 (hpast.old b h2.lt)⟩
    ·rw[b5a (by omega)]at hn
     have hz:n=h.A5.length:=by
      by_cases hz:n - h.A5.length=0
      ·omega
      ·rw[List.getElem?_eq_none (by simp;omega)]at hn;cases hn
     subst hz;simp at hn;subst hn;exact⟨b0,if_pos rfl,hat2⟩
   dom:=λn b hn=>by
    simp only[σ2]at hn;split at hn
    ·rename_i hz;subst hz;exact⟨cellsOf e l,by simp⟩
    ·obtain⟨cs,hcs⟩:=hi.dom n b hn;exact⟨cs,by rw[b49 (hdom n b hn)];exact hcs⟩
   inj:=λn m b c c' hc hc' hz hz' hn hm=>by
    simp only[σ2]at hn hm;split at hn<;>split at hm
    ·omega
    ·cases hn;have:=hblt m _ hm;omega
    ·cases hm;have:=hblt n _ hn;omega
    ·rw[b49 (hdom n b hn)]at hc;rw[b49 (hdom m b hm)]at hc';exact hi.inj n m b c c' hc hc' hz hz' hn hm
   buf:=hi.buf
   K5:=hi.K5
   K8:=hi.K8
   M0:=(hi.world hpast).M0
   L5:=(hi.world hpast).L5
   H4:=(hi.world hpast).H4
   L6:=hi.L6
   I6:=λid e n b o he hs hn=>by
    simp only[σ2]at hn;split at hn
    ·cases hn;have:=hslt id e _ o he hs;omega
    ·exact hi.I6 id e n b o he hs hn
   outer:=λb o ho=>by
    obtain⟨h1,h2⟩:=hi.outer b o ho;exact⟨Nat.lt_of_lt_of_le h1 hpast.size,λhx=>h2 (hle2.own b o h1 hx)⟩
   F5:=λg cells hg=>(hi.F5 g cells hg).mono hle2}
 ·cases hrx with
  |row _ _ _ _ _ b cap hb hc hm hx=>
   rw[hb0]at hb;cases hb;exact .row _ _ _ _ _ b0 cap (if_pos rfl) hc hm hx
theorem wK{P:Program}{g:FuncId}{env:Env}{args:b5l B9}{h:A3}{l:b5l α}(hf:Gp P e sz g l)(he:Q8 e sz)(h0:l≠[])(ha:(evs env args).map (List.map nz)=some [.sl (l.map e) .no]:=by kernel_rfl):
  F3 P (.call (.c (.clo (.func g) [] [])) args) env h (.row h.A5.length 0 sz l.length l.length) ⟨h.A5++[some (cellsOf e l)],h.A9,h.B0⟩:=by
 obtain⟨l',h1,h2⟩:=Option.map_eq_some_iff.1 ha;exact λK hk=>(Or rfl h1 (j2 hf he h0 h2 hk)).out
def pA(e:α->b5l AV)(sz:Nat)(rs:b5l M5)(l:b5l α):Exit->Env->A3->Prop
 |.ret,env,h=>Z2 env h rs λl'=>S7 l'=.row 0 0 sz l.length l.length/\h=⟨[some (cellsOf e l)],[],[]⟩
 |_,_,_=>False
theorem zi{P:Program}{N:Nat}{f:FuncId}{ac:F7}{rs:b5l M5}(hf:P0 P f=some (N,ac,rs)){l:b5l α}{e₀:Env}(hn:Nat.ble 1 N)(he:AG 0 [.sl (l.map e) .no]=e₀)(hbody:D P N 0 0 ac (pA e sz rs l) e₀ ⟨[],[],[]⟩):Gp P e sz f l:=by
 subst he;refine Zp hf (b5h hn) (Ob (OI (Nat.le_refl _) (Nat.le_refl _) hbody) λx env h hq=>?_);cases x<;>first|exact hq|exact hq.elim
theorem zx{rs:b5l M5}{l:b5l α}{env:Env}{h:A3}{c:b5l AV}(hc:c=cellsOf e l)(hh:h=⟨[some c],[],[]⟩:=by kernel_rfl)(ho:(BF env h rs).map S7=some (.row 0 0 sz l.length l.length):=by kernel_rfl):pA e sz rs l .ret env h:=by
 subst hc;obtain⟨l',h1,h2⟩:=Option.map_eq_some_iff.1 ho;exact Ey h1 ⟨h2,hh⟩
theorem zY{P:Program}{env:Env}{h:A3}{e0:TypeId}{size byt:Nat}{x y:B9}(e:α->b5l AV)(l:b5l α)(h0:l≠[])(hb:l.length*byt<=140737488355328)(hs:∀y,(e y).length=size)(hm:(y.ev env).bind (S0 h size)=some (List.map e l))(hx:x.ev env=some (.sl [] .full):=by kernel_rfl):F3 P (.append e0 size byt x y) env h (.row h.A5.length 0 size l.length l.length) ⟨h.A5++[some (cellsOf e l)],h.A9,h.B0⟩:=by
 obtain⟨Y,h1,h2⟩:=Option.bind_eq_some_iff.1 hm;intro K hk;simp only[E9,hx,h1,wv];refine .inr (.inl ?_);simp only[Mz,h2];refine⟨⟨VF hs,λhn=>h0 (List.map_eq_nil_iff.1 hn)⟩,?_,?_,?_⟩
 ·intro el hel;simp at hel
 ·simpa using hb
 ·simpa[cellsOf]using hk
end
def Gi(n:Nat):b5l AV->b5l (Nat × Nat × Nat)
 |[]=>[]
 |.row k off size len _::r=>if k=n then(off,size,len)::Gi n r else Gi n r
 |_::r=>Gi n r
theorem qE{n:Nat}:∀{l:b5l AV}{off size len cap:Nat},.row n off size len cap∈l->(off,size,len)∈Gi n l
 |[],_,_,_,_,h=>by cases h
 |a::r,off,size,len,cap,h=>by
  rcases List.mem_cons.1 h with h|h
  ·subst h;simp[Gi]
  ·have:=qE h;unfold Gi;split
   ·rename_i heq;cases heq
   ·rename_i heq;cases heq;split
    ·exact List.mem_cons_of_mem _ this
    ·exact this
   ·rename_i heq;cases heq;exact this
def Ot(n:Nat):b5l (b5m (b5l AV))->b5l (Nat × Nat × Nat)
 |[]=>[]
 |some c::r=>Gi n c++Ot n r
 |none::r=>Ot n r
theorem kz{n:Nat}:∀{l:b5l (b5m (b5l AV))}{i:Nat}{c:b5l AV}{x:Nat × Nat × Nat},l[i]? =some (some c)->x∈Gi n c->x∈Ot n l
 |[],i,c,x,h,_=>by simp at h
 |o::r,i,c,x,h,hx=>by
  cases i with
  |zero=>simp at h;subst h;exact List.mem_append_left _ hx
  |succ i=>
   have:=kz (l:=r) (i:=i) (by simpa using h) hx;cases o with
   |none=>exact this
   |some c'=>exact List.mem_append_right _ this
def Jd(n:Nat)(els:b5l (b5l AV))(bs:b5l (b5m (b5l AV))):b5l (b5m (b5l AV)):=bs.map (Option.map (List.map (Cj n els)))
theorem w9(n:Nat)(els:b5l (b5l AV))(a:AV):(Cj n els a).isCell=a.isCell:=by
 cases a with
 |row k off size len cap=>simp only[Cj];split<;>rfl
 |_=>rfl
section
variable {σ:Sg}{h:A3}{n:Nat}{m:b5l b5n}{k:Nat}{cells:b5l AV}{els:b5l (b5l AV)}{sz len:Nat}
theorem pD(hi:Inv h σ)(hb:h.A5[n]? =some (some cells))(hce:els.flatten=cells)(hsz:∀el∈els,el.length=sz)(hlen:els.length=len)(hit:els≠[]->I4 cells)(hmn:m.getD n false=false)(hal:CP m h.A5){a0:AV}{y:Value}(h3:Rel σ a0 y)(hrow:∀off size len' cap,a0=.row n off size len' cap->off=0/\size=sz/\len'=len)(hlow:low m k (Cj n els a0)):Rel (σ.cut m k) (Cj n els a0) y:=by
 cases a0 with
 |row j off size len' cap=>
  simp only[Cj]at hlow ⊢;split at hlow
  ·rename_i hj;subst hj;rw[if_pos rfl];obtain⟨rfl,rfl,rfl⟩:=hrow _ _ _ _ rfl;cases h3 with
   |row _ _ _ _ _ b cap' hblk hcap _ _=>
   obtain⟨b',h4,h5⟩:=hi.blk j cells hb;rw[hblk]at h4;cases h4;subst hlen;rcases Classical.em (els=[]) with h0|h0
   ·subst h0;exact .L3 _ ⟨b,0,none⟩ cap' trivial (.inl rfl)
   have hni:=hit h0;obtain⟨cs,rest,elem,h6,h7⟩:=h5.plain hni;have hlc:K7 m k els:=by simpa[low]using hlow
   have key:∀(i:Nat) (el:b5l AV),els[i]? =some el->∀(q:Nat) (av:AV),el[q]? =some av->∃xv,σ.w.cell? ⟨b,0+i*size+q,none⟩=some xv/\Rel σ av xv/\av.isCell=true:=by
    intro i el hie q av hq;have hql:q<size:=by rw[<-hsz el (b5g hie)];exact(List.getElem?_eq_some_iff.1 hq).1
    have hf:=GM els hsz i q hql;rw[hie,Option.bind_some,hq,hce]at hf;obtain⟨q1,xv,q2,q3⟩:=h7.2 _ av hf;refine⟨xv,?_,q3,q1⟩;have hlt:=(List.getElem?_eq_some_iff.1 q2).1;rw[Nat.zero_add];simp[World.cell?,h6,b49 hlt,q2]
   have hne:cells≠[]:=Ek hni;refine Rel.sl (σ:=σ.cut m k) els .no b 0 cap' size (λi q=>(σ.w.cell? ⟨b,0+i*size+q,none⟩).getD undef) (λi el hie=>hsz el (b5g hie)) hcap trivial (λid e hid=>by cases hid) (λi el hie q av hq=>?_) λi el hie q av hq=>?_
   ·obtain⟨xv,q1,q2,q3⟩:=key i el hie q av hq;refine⟨by show σ.w.cell? _=_;rw[q1];rfl,?_,q3⟩;rintro (ho|⟨j',hj'⟩|⟨id,eb,he1,he2⟩)
    ·exact(hi.outer _ _ ho).2 (.inl ⟨j,hblk⟩)
    ·simp only[Sg.cut]at hj';split at hj'
     ·rename_i hmj;obtain⟨c',hc'⟩:=hi.dom j' b hj';have:=hi.inj j' j b c' cells hc' hb (Us hal hmj hc') hne hj' hblk;subst this;rw[hmn]at hmj;cases hmj
     ·cases hj'
    ·simp only[Sg.cut]at he1;split at he1
     ·exact hi.I6 id eb j b _ he1 he2 hblk
     ·cases he1
   ·obtain⟨xv,q1,q2,q3⟩:=key i el hie q av hq;rw[q1];exact q2.cut (Cr (UF hlc i el hie) q av hq)
  ·rename_i hj;rw[if_neg hj];exact h3.cut hlow
 |_=>exact h3.cut hlow
theorem Inv.cutR(hi:Inv h σ)(hb:h.A5[n]? =some (some cells))(hce:els.flatten=cells)(hsz:∀el∈els,el.length=sz)(hlen:els.length=len)(hit:els≠[]->I4 cells)(hmn:m.getD n false=false)(hal:CP m h.A5)(hrow:∀(i:Nat) (c:b5l AV),(K2 m h.A5)[i]? =some (some c)->∀off size len' cap,AV.row n off size len' cap∈c->off=0/\size=sz/\len'=len)(hB:S9 m k (Jd n els (K2 m h.A5)))(hg:M6 h.B0):Inv ⟨Jd n els (K2 m h.A5),h.A9.take k,h.B0⟩ (σ.cut m k):=by
 have hblk:∀{j b:Nat},(σ.cut m k).blk j=some b->m.getD j false/\σ.blk j=some b:=by
  intro k b hk;simp only[Sg.cut]at hk;split at hk
  ·rename_i h1;exact⟨h1,hk⟩
  ·cases hk
 have hbuf:∀{j:Nat}{e:Buf},(σ.cut m k).buf j=some e->j<k/\σ.buf j=some e:=by
  intro k b hk;simp only[Sg.cut]at hk;split at hk
  ·rename_i h1;exact⟨h1,hk⟩
  ·cases hk
 have hget:∀{j:Nat}{c:b5l AV},(Jd n els (K2 m h.A5))[j]? =some (some c)->∃c0,(K2 m h.A5)[j]? =some (some c0)/\c=c0.map (Cj n els):=by
  intro j c hj;simp only[Jd,b5b,b43]at hj;obtain⟨o,h1,h2⟩:=hj;obtain⟨c0,rfl,h3⟩:=h2;exact⟨c0,h1,h3.symm⟩
 have hne:∀{c0:b5l AV},c0.map (Cj n els)≠[]->c0≠[]:=by rintro _ h rfl;exact h rfl
 refine⟨λj cs' hj=>?_,λj b hj=>?_,λj l b c c' hj hl hc hc' h1 h2=>?_,λid c hc=>?_,λid e he=>?_,λid e he=>hi.K8 id e (hbuf he).2,λid e b o he hs=>hi.M0 id e b o (hbuf he).2 hs,λid e b o he hs=>hi.L5 id e b o (hbuf he).2 hs,λid e b o he hs=>hi.H4 id e b o (hbuf he).2 hs,λi j e f b o he hf h1 h2=>hi.L6 i j e f b o (hbuf he).2 (hbuf hf).2 h1 h2,λid e k b o he hs hk=>hi.I6 id e k b o (hbuf he).2 hs (hblk hk).2,λb o ho=>⟨(hi.outer b o ho).1,λh=>(hi.outer b o ho).2 (VB h)⟩,λg cells hgl=>?_⟩
 ·obtain⟨c0,h0,rfl⟩:=hget hj;obtain⟨h1,h2⟩:=In h0;obtain⟨b,h3,h4⟩:=hi.blk j c0 h2;refine⟨b,by simp only[Sg.cut];rw[if_pos h1];exact h3,?_⟩;have hlow:=Yj hB hj;cases h4 with
  |cells _ cs rest elem h5 h6=>
   refine .cells _ cs rest elem h5 ⟨by rw[h6.1];simp,λi a hia=>?_⟩;have hla:=Cr hlow i a hia;simp only[b5b,b43]at hia;obtain⟨a0,q1,rfl⟩:=hia;obtain⟨q2,x,q3,q4⟩:=h6.2 i a0 q1;refine⟨by rw[w9];exact q2,x,q3,pD hi hb hce hsz hlen hit hmn hal q4 (λoff size len' cap he=>?_) hla⟩;subst he;exact hrow j c0 h0 _ _ _ _ (b5g q1)
  |it s p h5=>exact .it s p h5
  |map es clock l h5 h6=>
   have hll:E0 m k l:=by simpa[E0,Lift.low,Cj]using hlow
   exact .map es clock l h5 (h6.cut hll)
 ·obtain⟨h1,h2⟩:=hblk hj;obtain⟨c,h3⟩:=hi.dom j b h2;exact⟨c.map (Cj n els),by simp only[Jd,b5b,cK h1 h3];rfl⟩
 ·obtain⟨c0,k0,rfl⟩:=hget hj;obtain⟨c1,k1,rfl⟩:=hget hl;exact hi.inj j l b c0 c1 (In k0).2 (In k1).2 (hne hc) (hne hc') (hblk h1).2 (hblk h2).2
 ·rw[List.getElem?_take]at hc;split at hc
  ·rename_i h1;obtain⟨e,h2,h3⟩:=hi.buf id c hc;exact⟨e,by simp only[Sg.cut];rw[if_pos h1];exact h2,h3⟩
  ·cases hc
 ·obtain⟨h1,h2⟩:=hbuf he;rw[List.getElem?_take,if_pos h1];exact hi.K5 id e h2
 ·have hl0:Lift.low m k (.G6 cells 0):=by simp only[Lift.low];exact H5 m k cells (List.all_eq_true.1 hg _ hgl)
  exact(hi.F5 g cells hgl).cut hl0
end
theorem uw{P:Program}{h:A3}{env:Env}{N kb kf:Nat}{Q:Exit->Env->A3->Prop}{x:F7}{α:Type}{f:α->b5l AV}{sz:Nat}(n:Nat)(m:b5l b5n)(k c c':Nat)(l:b5l α)(len:Nat)(e:Env)(bs:b5l (b5m (b5l AV)))(hs:∀y,(f y).length=sz)(hni:∀y,I4 (f y))(hlen:l.length=len)(hw:Y4 m k e/\S9 m k bs)(hx:D P N kb kf x Q e ⟨bs,h.A9.take k,h.B0⟩)(hb:h.A5[n]? =some (some (cellsOf f l)):=by kernel_rfl)(hrow:Db n env=List.replicate c (0,sz,len):=by kernel_rfl)(hrowB:Ot n (K2 m h.A5)=List.replicate c' (0,sz,len):=by kernel_rfl)(hmn:m.getD n false=false:=by kernel_rfl)(hal:CP m h.A5:=by kernel_rfl)(hm:∀k,k<kb->m.getD k false:=by intro k hk;first|exact absurd hk (Nat.not_lt_zero _)|exact gH rfl k hk)(hkf:Nat.ble kf k:=by kernel_rfl)(hE:GQ n (List.map f l) env=e:=by kernel_rfl)(hbs:Jd n (List.map f l) (K2 m h.A5)=bs:=by kernel_rfl)(hg:M6 h.B0:=by kernel_rfl):D P N kb kf x Q env h:=⟨by
 subst hbs hE;intro co hc σ0 σ a hst hle hl;have h1:(List.map f l).flatten=cellsOf f l:=rfl;have h2:∀el∈List.map f l,el.length=sz:=VF hs
 have h3:(List.map f l).length=len:=by rw[List.length_map];exact hlen
 have h4:List.map f l≠[]->I4 (cellsOf f l):=λh0=>GW hni (λh=>h0 (by rw[h];rfl))
 have inr:∀{c:Nat}{q:Nat × Nat × Nat},q∈List.replicate c (0,sz,len)->q.1=0/\q.2.1=sz/\q.2.2=len:=by
  intro c q hq;rw[(List.mem_replicate.1 hq).2];exact⟨rfl,rfl,rfl⟩
 refine hx.out co hc σ0 (σ.cut m k) a ⟨hst.inv.cutR hb h1 h2 h3 h4 hmn hal (λi c hc off size len' cap ha=>?_) hw.2 hg,λt av ht=>?_,hst.size,hst.defers⟩ (hle.cut hl hm (b5h hkf)) hl
 ·have:=kz hc (qE ha);rw[hrowB]at this;exact inr this
 ·have hlow:=QU hw.1 ht;obtain⟨a0,k1,rfl⟩:=dn ht;obtain⟨y,k2,k3⟩:=hst.env t a0 k1;refine⟨y,k2,pD hst.inv hb h1 h2 h3 h4 hmn hal k3 (λoff size len' cap he=>?_) hlow⟩;subst he;have:=ay k1;rw[hrow]at this;exact inr this⟩
def MW{α:Type}(P:Program)(e:α->b5l AV)(sz:Nat)(f:FuncId)(l:b5l α):Prop:=
 AF P f [.sl (l.map e) .no] ⟨[],[],[]⟩ λa h=>a=.sl (l.map e) (.own 0)/\h=⟨[],[(l.length,sz)],[]⟩
section
variable {α:Type}{e:α->b5l AV}{sz:Nat}
theorem a0b{P:Program}{f:FuncId}{l:b5l α}{args':b5l AV}{h:A3}{K:AV->A3->Prop}(hf:MW P e sz f l)(hpl:∀y,C3 (e y))(ha:args'.map nz=[.sl (l.map e) .no])(hk:K (.sl (l.map e) (.own h.A9.length)) ⟨h.A5,h.A9++[(l.length,sz)],h.B0⟩):AF P f args' h K:=by
 refine⟨hf.1,λσ cargs hi hr=>?_⟩
 have hopen:∀b o,σ.open_ b o->b<σ.w.heap.size:=by
  rintro b o (ho|⟨n,hn⟩|⟨id,e,he,hs⟩)
  ·exact(hi.outer b o ho).1
  ·exact hi.lt hn
  ·exact hi.H4 id e b o he hs
 have hpp:H9 (l.map e):=T1 e l λy _=>hpl y
 have hp:C3 [AV.sl (l.map e) .no]:=by
  simp only[C3,plain,Bool.and_true,Bool.true_and];exact hpp
 have hrels:U3 (bare σ.w σ.open_) [.sl (l.map e) .no] cargs.toList:=by
  refine⟨by rw[hr.1,<-ha];simp,λi av hav=>?_⟩;have hav':=hav;rw[<-ha]at hav;simp only[b5b,b43]at hav;obtain⟨b,hb,rfl⟩:=hav;obtain⟨x,h1,h2⟩:=hr.2 i b hb;exact⟨x,h1,h2.nz.down (Ax hp i _ hav') rfl λ_ _ h=>h⟩
 have hglobs:JT σ.w σ.open_ []:=λg cells hg=>by cases hg
 refine(hf.2 (bare σ.w σ.open_) cargs (Ug hopen hglobs) hrels).mono λe1 w' hq=>?_
 obtain⟨σ1,h1,av,x,rfl,rfl,hle,hi1,hrx,rfl,rfl⟩:=hq;have hpast:K9 σ.w σ1.w:=⟨hle.size,λb hb=>hle.whole b hb λo=>Gu σ.w σ.open_ b o,hle.os,hle.tape,hle.output⟩;obtain⟨eb,heb,hec⟩:=hi1.buf 0 _ rfl
 have hsp:∀b o,eb.tail b o->σ.w.heap.size<=b:=by
  intro b o hs;rcases Nat.lt_or_ge b σ.w.heap.size with hlt|hge
  ·exact(Gu σ.w σ.open_ b o (hle.own b o hlt (.inr ⟨0,eb,heb,hs⟩))).elim
  ·exact hge
 let σ2:Sg:=⟨σ1.w,σ.blk,λid=>if id=h.A9.length then some eb else σ.buf id,σ.outer⟩
 have hbn:∀id e,σ.buf id=some e->id<h.A9.length:=λid e he=>(List.getElem?_eq_some_iff.1 (hi.K5 id e he)).1
 have hblt:∀n b,σ.blk n=some b->b<σ.w.heap.size:=λn b hn=>hi.lt hn
 have hslt:∀id e b o,σ.buf id=some e->e.tail b o->b<σ.w.heap.size:=by
  intro id e b o he hs;exact hi.H4 id e b o he hs
 have hb2:∀{id:Nat}{f:Buf},σ2.buf id=some f->(id=h.A9.length/\f=eb)\/(id≠h.A9.length/\σ.buf id=some f):=by
  intro id f hf;simp only[σ2]at hf;split at hf
  ·rename_i h0;cases hf;exact .inl ⟨h0,rfl⟩
  ·rename_i h0;exact .inr ⟨h0,hf⟩
 have hle2:Le σ σ2:={
  blk:=λn b hn=>hn
  buf:=λid f hf=>⟨f,by show(if id=h.A9.length then some eb else σ.buf id)=some f;rw[if_neg (by have:=hbn id f hf;omega)];exact hf,Nat.le_refl _,rfl,λ_=>rfl⟩
  outer:=rfl
  cell:=λb o hb _=>BZ (hpast.old b hb) o
  ext:=(Le.world (σ:=σ) hpast).ext
  shape:=(Le.world (σ:=σ) hpast).shape
  whole:=λb hb _=>hpast.old b hb
  own:=λb o hb ho=>by
   rcases ho with⟨n,hn⟩|⟨id,f,hf,hs⟩
   ·exact .inl ⟨n,hn⟩
   ·rcases hb2 hf with⟨_,rfl⟩|⟨_,hf'⟩
    ·have:=hsp b o hs;omega
    ·exact .inr ⟨id,f,hf',hs⟩
  size:=hpast.size
  os:=hpast.os
  tape:=hpast.tape
  output:=hpast.output}
 have hop:∀b o,σ2.open_ b o->σ1.open_ b o:=by
  have side:∀b o,σ.open_ b o->σ1.open_ b o:=λb o h=>.inl (by rw[hle.outer];exact h)
  rintro b o (ho|⟨n,hn⟩|⟨id,f,hf,hs⟩)
  ·exact side b o (.inl ho)
  ·exact side b o (.inr (.inl ⟨n,hn⟩))
  ·rcases hb2 hf with⟨_,rfl⟩|⟨_,hf'⟩
   ·exact .inr (.inr ⟨0,f,heb,hs⟩)
   ·exact side b o (.inr (.inr ⟨id,f,hf',hs⟩))
 have hbuf2:σ2.buf h.A9.length=some eb:=if_pos rfl;refine⟨σ2,_,_,x,rfl,rfl,hle2,?_,?_,hk⟩
 ·exact {
   blk:=λn cs hn=>by
    obtain⟨b,h1,h2⟩:=hi.blk n cs hn;exact⟨b,h1,h2.keep hle2 (hpast.old b h2.lt)⟩
   dom:=hi.dom
   inj:=hi.inj
   buf:=λid c hc=>by
    by_cases hl:id<h.A9.length
    ·rw[b49 hl]at hc;obtain⟨f,h1,h2⟩:=hi.buf id c hc;exact⟨f,by show(if id=h.A9.length then some eb else σ.buf id)=some f;rw[if_neg (by omega)];exact h1,h2⟩
    ·rw[b5a (by omega)]at hc
     have hz:id=h.A9.length:=by
      by_cases hz:id - h.A9.length=0
      ·omega
      ·rw[List.getElem?_eq_none (by simp;omega)]at hc;cases hc
     subst hz;simp at hc;exact⟨eb,hbuf2,by rw[hec,<-hc]⟩
   K5:=λid f hf=>by
    rcases hb2 hf with⟨rfl,rfl⟩|⟨h0,hf'⟩
    ·rw[b5a (Nat.le_refl _),Nat.sub_self,hec];rfl
    ·rw[b49 (hbn id f hf')];exact hi.K5 id f hf'
   K8:=λid f hf=>by
    rcases hb2 hf with⟨_,rfl⟩|⟨_,hf'⟩
    ·exact hi1.K8 0 f heb
    ·exact hi.K8 id f hf'
   M0:=λid f b o hf hs=>by
    rcases hb2 hf with⟨_,rfl⟩|⟨_,hf'⟩
    ·exact hi1.M0 0 f b o heb hs
    ·exact(hi.world hpast).M0 id f b o hf' hs
   L5:=λid f b o hf hs=>by
    rcases hb2 hf with⟨_,rfl⟩|⟨_,hf'⟩
    ·exact hi1.L5 0 f b o heb hs
    ·exact(hi.world hpast).L5 id f b o hf' hs
   H4:=λid f b o hf hs=>by
    rcases hb2 hf with⟨_,rfl⟩|⟨_,hf'⟩
    ·exact hi1.H4 0 f b o heb hs
    ·exact(hi.world hpast).H4 id f b o hf' hs
   L6:=λi j f g b o hf hg h1 h2=>by
    rcases hb2 hf with⟨rfl,rfl⟩|⟨_,hf'⟩<;>rcases hb2 hg with⟨rfl,rfl⟩|⟨_,hg'⟩
    ·rfl
    ·have:=hsp b o h1;have:=hslt j g b o hg' h2;omega
    ·have:=hsp b o h2;have:=hslt i f b o hf' h1;omega
    ·exact hi.L6 i j f g b o hf' hg' h1 h2
   I6:=λid f n b o hf hs hn=>by
    rcases hb2 hf with⟨_,rfl⟩|⟨_,hf'⟩
    ·have:=hsp b o hs;have:=hblt n b hn;omega
    ·exact hi.I6 id f n b o hf' hs hn
   outer:=λb o ho=>by
    obtain⟨h1,h2⟩:=hi.outer b o ho;exact⟨Nat.lt_of_lt_of_le h1 hpast.size,λhx=>h2 (hle2.own b o h1 hx)⟩
   F5:=λg cells hg=>(hi.F5 g cells hg).mono hle2}
 ·have tk:∀{len:Nat}{a:b5m Addr}{cap:Nat},BM σ1 (.own 0) len a cap->BM σ2 (.own h.A9.length) len a cap:=by
   rintro len a cap ⟨f,h1,h2⟩;rw[heb]at h1;cases h1;exact⟨eb,hbuf2,h2⟩
  generalize hels:l.map e=els at hrx hpp ⊢;cases hrx with
  |sl0 _ ht=>exact .sl0 _ (tk ht)
  |L3 _ a cap ht hc=>exact .L3 _ a cap (tk ht) (hc.elim (λh=>by cases h) .inr)
  |sl _ _ b o cap size xs hs hcap ht hz hc hr=>
   refine .sl _ _ b o cap size xs hs hcap (tk ht) (λj f hj hf=>?_) (λi el hi j av hj=>?_) λi el hi j av hj=>?_
   ·cases hj;rw[hbuf2]at hf;cases hf;exact hz 0 eb rfl heb
   ·obtain⟨h1,h2,h3⟩:=hc i el hi j av hj;exact⟨h1,λh=>h2 (hop _ _ h),h3⟩
   ·exact(hr i el hi j av hj).move (Ax (JV hpp i el hi) j av hj) rfl hop
theorem vR{P:Program}{g:FuncId}{env:Env}{args:b5l B9}{h:A3}{l:b5l α}(hf:MW P e sz g l)(hpl:∀y,C3 (e y))(ha:(evs env args).map (List.map nz)=some [.sl (l.map e) .no]:=by kernel_rfl):
  F3 P (.call (.c (.clo (.func g) [] [])) args) env h (.sl (l.map e) (.own h.A9.length)) ⟨h.A5,h.A9++[(l.length,sz)],h.B0⟩:=by
 obtain⟨l',h1,h2⟩:=Option.map_eq_some_iff.1 ha;exact λK hk=>(Or rfl h1 (a0b hf hpl h2 hk)).out
def kJ(e:α->b5l AV)(sz:Nat)(rs:b5l M5)(l:b5l α):Exit->Env->A3->Prop
 |.ret,env,h=>Z2 env h rs λl'=>S7 l'=.sl (l.map e) (.own 0)/\h=⟨[],[(l.length,sz)],[]⟩
 |_,_,_=>False
theorem yd{P:Program}{N:Nat}{f:FuncId}{ac:F7}{rs:b5l M5}(hf:P0 P f=some (N,ac,rs)){l:b5l α}{e₀:Env}(hn:Nat.ble 1 N)(he:AG 0 [.sl (l.map e) .no]=e₀)(hbody:D P N 0 0 ac (kJ e sz rs l) e₀ ⟨[],[],[]⟩):MW P e sz f l:=by
 subst he;refine Zp hf (b5h hn) (Ob (OI (Nat.le_refl _) (Nat.le_refl _) hbody) λx env h hq=>?_);cases x<;>first|exact hq|exact hq.elim
theorem dy{rs:b5l M5}{l l2:b5l α}{env:Env}{h:A3}(hl:l=l2)(hh:h=⟨[],[(l2.length,sz)],[]⟩:=by kernel_rfl)(ho:(BF env h rs).map S7=some (.sl (l2.map e) (.own 0)):=by kernel_rfl):kJ e sz rs l .ret env h:=by
 subst hl;obtain⟨l',h1,h2⟩:=Option.map_eq_some_iff.1 ho;exact Ey h1 ⟨h2,hh⟩
end
def BA(P:Program)(f:Nat):Nat:=((P0 P f).map λx=>x.1).getD 0
def BB(P:Program)(f:Nat):F7:=((P0 P f).map λx=>x.2.1).getD .skip
def DO(P:Program)(f:Nat):b5l M5:=((P0 P f).map λx=>x.2.2).getD []
def bU(o:I7)(env:Env):b5m AV:=
 match o with
 |.len true x=>match x.ev env with
  |some (.v (.string s))=>some (.v (.int .i64 s.size))
  |_=>none
 |.bin .eql x y=>match x.ev env,y.ev env with
  |some (.v (.string a)),some (.v (.string b))=>some (.v (.bool (decide (a=b))))
  |_,_=>none
 |.bin .neq x y=>match x.ev env,y.ev env with
  |some (.v (.string a)),some (.v (.string b))=>some (.v (.bool (!decide (a=b))))
  |_,_=>none
 |.bin .lss x y=>match x.ev env,y.ev env with
  |some (.v (.string a)),some (.v (.string b))=>some (.v (.bool (Op.bytesLess a.toList b.toList)))
  |_,_=>none
 |.bin .leq x y=>match x.ev env,y.ev env with
  |some (.v (.string a)),some (.v (.string b))=>some (.v (.bool (Op.bytesLess a.toList b.toList||a.toList==b.toList)))
  |_,_=>none
 |.bin .gtr x y=>match x.ev env,y.ev env with
  |some (.v (.string a)),some (.v (.string b))=>some (.v (.bool (!(Op.bytesLess a.toList b.toList||a.toList==b.toList))))
  |_,_=>none
 |.bin .geq x y=>match x.ev env,y.ev env with
  |some (.v (.string a)),some (.v (.string b))=>some (.v (.bool (!(Op.bytesLess a.toList b.toList))))
  |_,_=>none
 |.pick c x y=>match c.ev env,x.ev env,y.ev env with
  |some (.v (.bool t)),some (.v (.bool a)),some (.v (.bool b))=>some (.v (.bool (bif t then a else b)))
  |some (.v (.bool t)),some (.v (.int k a)),some (.v (.int k2 b))=>if k=k2 then some (.v (.int k (bif t then a else b))) else none
  |some (.v (.bool t)),some (.v (.string a)),some (.v (.string b))=>some (.v (.string (bif t then a else b)))
  |_,_,_=>none
 |.AN true [x,y]=>match x.ev env,y.ev env with
  |some (.v (.int k a)),some (.v (.int _ b))=>some (.v (.int k (max a b)))
  |_,_=>none
 |.AN false [x,y]=>match x.ev env,y.ev env with
  |some (.v (.int k a)),some (.v (.int _ b))=>some (.v (.int k (min a b)))
  |_,_=>none
 |.AN true [x,y,z]=>match x.ev env,y.ev env,z.ev env with
  |some (.v (.int k a)),some (.v (.int _ b)),some (.v (.int _ c))=>some (.v (.int k (max (max a b) c)))
  |_,_,_=>none
 |.AN false [x,y,z]=>match x.ev env,y.ev env,z.ev env with
  |some (.v (.int k a)),some (.v (.int _ b)),some (.v (.int _ c))=>some (.v (.int k (min (min a b) c)))
  |_,_,_=>none
 |_=>none
theorem lb{P:Program}{o:I7}{env:Env}{av:AV}(he:bU o env=some av)(h:A3):F3 P o env h av h:=by
 unfold bU at he;split at he
 case h_1=>
  split at he
  ·rename_i hx;cases he;exact u3 hx
  ·cases he
 case h_2=>
  split at he
  ·rename_i hx hy;cases he;exact ya hx hy
  ·cases he
 case h_3=>
  split at he
  ·rename_i hx hy;cases he;exact tv hx hy
  ·cases he
 case h_4=>
  split at he
  ·rename_i hx hy;cases he;exact Gw hx hy (c:=True) rfl trivial
  ·cases he
 case h_5=>
  split at he
  ·rename_i hx hy;cases he;exact Gw hx hy (c:=True) rfl trivial
  ·cases he
 case h_6=>
  split at he
  ·rename_i hx hy;cases he;exact Gw hx hy (c:=True) rfl trivial
  ·cases he
 case h_7=>
  split at he
  ·rename_i hx hy;cases he;exact Gw hx hy (c:=True) rfl trivial
  ·cases he
 case h_8=>
  split at he
  ·rename_i hc hx hy;cases he;exact b05 hc hx hy
  ·rename_i hc hx hy;split at he
   ·rename_i hk;subst hk;cases he;exact a3b hc hx hy
   ·cases he
  ·rename_i hc hx hy;cases he;exact p8 hc hx hy
  ·cases he
 case h_9=>
  split at he
  ·rename_i hx hy;cases he;exact q9 hx hy
  ·cases he
 case h_10=>
  split at he
  ·rename_i hx hy;cases he;exact xx hx hy
  ·cases he
 case h_11=>
  split at he
  ·rename_i hx hy hz;cases he;exact i3 hx hy hz
  ·cases he
 case h_12=>
  split at he
  ·rename_i hx hy hz;cases he;exact b3b hx hy hz
  ·cases he
 case h_13=>cases he
inductive Fr where
 |sq (y:F7)
 |bk (i:Nat)
 |lp (x:F7)
 |sc (l:Nat) (x:F7)
 |sn
inductive Pc where
 |c (x:F7)
 |v (L:List C2)
 |s (b:Bool) (L:List C2) (S gl:List (Nat × List AV)) (w:Option C2) (tl:List C2)
 |n (e:Exit)
 |l (x:F7)
 |g (l:Nat) (x:F7)
structure Mc where
 pc:Pc
 k:List Fr
 env:Env
 h:A3
inductive Rm where
 |ret (r:AV)
 |io (gl:List (Nat × List AV)) (k:Nat) (r:AV) (c:List AV) (b:List (Nat × Nat))
 |inl (kb kf:Nat) (K:AV->A3->Prop)
def Rm.kb:Rm->Nat
 |.ret _=>0
 |.io _ _ _ _ _=>1
 |.inl b _ _=>b
def Rm.kf:Rm->Nat
 |.ret _=>0
 |.io _ k _ _ _=>k
 |.inl _ k _=>k
def Rm.Q(rs:b5l M5):Rm->Exit->Env->A3->Prop
 |.ret r=>Lz rs r
 |.io gl k r c b=>Qj gl k rs r c b
 |.inl _ _ K=>Gh rs K
section
variable (P:Program) (f:Nat) (R:Rm)
def Qs:b5l Fr->Exit->Env->A3->Prop
 |[]=>R.Q (DO P f)
 |.sq y::k=>Im (λe h=>D P (BA P f) R.kb R.kf y (Qs k) e h) (Qs k)
 |.bk i::k=>Om i (Qs k)
 |.lp x::k=>Im (λe h=>DL P (BA P f) R.kb R.kf x (Qs k) e h) (Qs k)
 |.sc l x::k=>Qe l (λe h=>DG P (BA P f) R.kb R.kf x l (Qs k) e h) (Qs k)
 |.sn::k=>dh (Qs k)
def KK(w:b5m C2)(tl:b5l C2)(K:Env->A3->Prop):Env->A3->Prop:=match w with
 |none=>λe h=>vd P tl e h K
 |some w=>λe h=>∃av h',F3 P w.op e h av h'/\vd P tl e h' K
def Ok(s:Mc):Prop:=match s.pc with
 |.c x=>D P (BA P f) R.kb R.kf x (Qs P f R s.k) s.env s.h
 |.v L=>vd P L s.env s.h (λe h=>Qs P f R s.k .normal e h)
 |.s b L S gl w tl=>vs P (DT S gl) b L s.env s.h (KK P w tl λe h=>Qs P f R s.k .normal e h)
 |.n e=>Qs P f R s.k e s.env s.h
 |.l x=>DL P (BA P f) R.kb R.kf x (Qs P f R s.k) s.env s.h
 |.g l x=>DG P (BA P f) R.kb R.kf x l (Qs P f R s.k) s.env s.h
end
def Wk(P:Program)(f:Nat)(R:Rm)(s:Mc)(W:Prop):Prop:=W->Ok P f R s
abbrev IF(c:b5n)(p q:Prop):Prop:=(c=true->p)/\(c=false->q)
abbrev ID(c:Prop)[Decidable c](p q:Prop):Prop:=IF (decide c) p q
abbrev IX{α:Type}(l:b5l α)(n:Int)(W:α->Prop):Prop:=∃y,l[n.toNat]? =some y/\0<=n/\W y
abbrev JN{T:Type}(W:T->Prop)(q:(T->Prop)->Prop):Prop:=∃R:T->Prop,(∀z,R z->W z)/\q R
abbrev SI(t:b5k)(n:Int)(p:Prop):Prop:=(0<=n/\n<(t.size:Int))/\p
abbrev SS(t:b5k)(a u:Int)(p:Prop):Prop:=(0<=a/\a<=u/\u<=(t.size:Int))/\p
abbrev CT(a b:b5k)(p:Prop):Prop:=((a.size+b.size:Nat):Int)<=9223372036854775807/\p
def FS:F7->b5m Nat
 |.goto l=>some l
 |.seq a b=>match FS a with
  |some l=>some l
  |none=>FS b
 |.cond _ a b=>match FS a with
  |some l=>some l
  |none=>FS b
 |.block _ a=>FS a
 |.loop a=>FS a
 |.scope a=>FS a
 |_=>none
def pop:Exit->b5l Fr->b5m (Pc × b5l Fr)
 |_,[]=>none
 |e,.sq y::k=>match e with
  |.normal=>some (.c y,k)
  |e=>some (.n e,k)
 |e,.lp x::k=>match e with
  |.normal=>some (.l x,k)
  |e=>some (.n e,k)
 |e,.bk j::k=>match e with
  |.exit i=>some (.n (if i=j then .normal else .exit i),k)
  |e=>some (.n e,k)
 |e,.sc l x::k=>match e with
  |.goto i=>if i=l then some (.g l x,k) else none
  |e=>some (.n e,k)
 |e,.sn::k=>match e with
  |.goto _=>none
  |e=>some (.n e,k)
def bnd(S:b5l (Nat × b5l AV)):Nat:=S.foldl (λn p=>max n (p.1+1)) 0
def opn(o:C2)(env:Env)(h:A3):b5m (AV × A3):=match bU o.op env with
 |some a=>some (a,h)
 |none=>Z6 false Kw o.op env h
def step(s:Mc):Mc:=match s.pc with
 |.c x=>match x with
  |.skip=>⟨.n .normal,s.k,s.env,s.h⟩
  |.region L=>⟨.v L,s.k,s.env,s.h⟩
  |.seq a b=>⟨.c a,.sq b::s.k,s.env,s.h⟩
  |.block i a=>⟨.c a,.bk i::s.k,s.env,s.h⟩
  |.cond c a b=>match c.ev s.env with
   |some (.v (.bool true))=>⟨.c a,s.k,s.env,s.h⟩
   |some (.v (.bool false))=>⟨.c b,s.k,s.env,s.h⟩
   |_=>s
  |.loop a=>⟨.l a,s.k,s.env,s.h⟩
  |.exit i=>⟨.n (.exit i),s.k,s.env,s.h⟩
  |.ret=>⟨.n .ret,s.k,s.env,s.h⟩
  |.scope a=>match FS a with
   |none=>⟨.c a,.sn::s.k,s.env,s.h⟩
   |some l=>match AD a l with
    |some _=>⟨.c a,.sc l a::s.k,s.env,s.h⟩
    |none=>s
  |.label _=>⟨.n .normal,s.k,s.env,s.h⟩
  |.goto l=>⟨.n (.goto l),s.k,s.env,s.h⟩
  |_=>s
 |.v []=>⟨.n .normal,s.k,s.env,s.h⟩
 |.v (o::L)=>match M4 s.env o.guard with
  |some false=>⟨.v L,s.k,Ae s.env o.dst,s.h⟩
  |some true=>match opn o s.env s.h with
   |some p=>⟨.v L,s.k,M9 s.env o.dst p.1,p.2⟩
   |none=>s
  |none=>s
 |.s _ [] _ _ none tl=>⟨.v tl,s.k,s.env,s.h⟩
 |.s _ [] _ _ (some _) _=>s
 |.s b (o::L) S gl w tl=>match M4 s.env o.guard with
  |some false=>⟨.s b L S gl w tl,s.k,Ae s.env o.dst,s.h⟩
  |some true=>match o.op,o.guard,b with
   |.alloc cells,none,true=>⟨.s b L S gl w tl,s.k,M9 s.env o.dst (.ptr s.h.A5.length 0),⟨s.h.A5++[some cells],s.h.A9,s.h.B0⟩⟩
   |_,_,_=>if AH o.op=true then match opn o s.env ⟨BT (bnd S) S,[],gl⟩ with
    |some p=>⟨.s b L S gl w tl,s.k,M9 s.env o.dst p.1,s.h⟩
    |none=>s
    else s
  |none=>s
 |.n e=>match pop e s.k with
  |some p=>⟨p.1,p.2,s.env,s.h⟩
  |none=>s
 |.l x=>⟨.c x,.lp x::s.k,s.env,s.h⟩
 |.g l x=>match AD x l with
  |some y=>⟨.c y,.sc l x::s.k,s.env,s.h⟩
  |none=>s
def run:Nat->Mc->Mc
 |0,s=>s
 |n+1,s=>run n (step s)
section
variable {P:Program}{f:Nat}{R:Rm}{s:Mc}
theorem Pk:∀k,Cz λe h=>Qs P f R k .normal e h
 |[]=>by cases R<;>first|exact cg|exact a8g|exact λe env h he hx=>LU he hx
 |.sq y::k=>Wg
 |.bk i::k=>Pk k
 |.lp x::k=>Sf
 |.sc l x::k=>Pk k
 |.sn::k=>Pk k
theorem zR{w:b5m C2}{tl:b5l C2}{K:Env->A3->Prop}(hK:Cz K):Cz (KK P w tl K):=by
 cases w with
 |none=>exact Vk hK
 |some w=>exact λe env h he ⟨av,h',hd,hv⟩=>⟨av,h',hd.less he,Jq hK he hv⟩
theorem i9{n:Nat}{S gl:b5l (Nat × b5l AV)}{o:C2}{env:Env}{p:AV × A3}(hq:AH o.op)(he:opn o env ⟨BT n S,[],gl⟩=some p):∀h2,DT S gl h2->Ai P o.op env h2 p.1:=by
 unfold opn at he;split at he
 ·rename_i a ha;cases he;exact λh2 _=>(lb ha h2).q
 ·exact m9 hq he
theorem nZ{o:C2}{env:Env}{h:A3}{p:AV × A3}(he:opn o env h=some p):F3 P o.op env h p.1 p.2:=by
 unfold opn at he;split at he
 ·rename_i a ha;cases he;exact lb ha h
 ·exact gZ he
theorem b2z{e:Exit}{k:b5l Fr}{p:Pc × b5l Fr}{env:Env}{h:A3}(hp:pop e k=some p)(hk:Ok P f R ⟨p.1,p.2,env,h⟩):Qs P f R k e env h:=by
 cases k with
 |nil=>cases hp
 |cons fr k=>
  cases fr with
  |sq y=>cases e<;>(cases hp;exact hk)
  |lp x=>cases e<;>(cases hp;exact hk)
  |bk j=>
   cases e with
   |exit i=>
    cases hp;show(if i=j then Qs P f R k .normal env h else Qs P f R k (.exit i) env h);split
    ·rename_i hij;rw[if_pos hij]at hk;exact hk
    ·rename_i hij;rw[if_neg hij]at hk;exact hk
   |_=>cases hp;exact hk
  |sc l x=>
   cases e
   case goto i=>
    simp only[pop]at hp;split at hp
    ·rename_i hil;cases hp;exact⟨hil,hk⟩
    ·cases hp
   all_goals (cases hp;exact hk)
  |sn=>cases e<;>(cases hp;try exact hk)
theorem a01(hk:Ok P f R (step s)):Ok P f R s:=by
 obtain⟨pc,k,env,h⟩:=s;cases pc with
 |c x=>
  cases x with
  |skip=>exact UW hk
  |region L=>exact dr hk
  |seq a b=>exact Ra hk
  |block i a=>exact a2p hk
  |loop a=>exact a2c hk
  |exit i=>exact b25 hk
  |ret=>exact No hk
  |label _=>exact z8 hk
  |goto l=>exact a0f hk
  |cond c a b=>
   simp only[step]at hk;split at hk
   ·rename_i hc;exact zT hc rfl hk
   ·rename_i hc;exact Zv hc rfl hk
   ·exact hk
  |scope a=>
   simp only[step]at hk;split at hk
   ·exact a5n hk
   ·split at hk
    ·rename_i hf;exact a39 hf hk
    ·exact hk
  |_=>exact hk
 |v L=>
  cases L with
  |nil=>exact hk
  |cons o L=>
   simp only[step]at hk;split at hk
   ·rename_i hg;exact .inl ⟨hg,hk⟩
   ·rename_i hg;split at hk
    ·rename_i p hp;exact .inr (.inl ⟨hg,p.1,p.2,nZ hp,hk⟩)
    ·exact hk
   ·exact hk
 |s b L S gl w tl=>
  cases L with
  |nil=>cases w<;>exact hk
  |cons o L=>
   simp only[step]at hk;split at hk
   ·rename_i hg;exact .inl ⟨hg,hk⟩
   ·rename_i hg;split at hk
    ·rename_i cells h1 h2;exact .inr (.inr (.inr ⟨rfl,cells,h1,h2,hk⟩))
    ·split at hk
     ·rename_i hq;split at hk
      ·rename_i p hp;exact .inr (.inl ⟨hg,hq,p.1,i9 hq hp,hk⟩)
      ·exact hk
     ·exact hk
   ·exact hk
 |n e=>
  simp only[step]at hk;split at hk
  ·rename_i p hp;exact b2z hp hk
  ·exact hk
 |l x=>exact u4 hk
 |g l x=>
  simp only[step]at hk;split at hk
  ·rename_i hf;exact ru hf hk
  ·exact hk
theorem J5:∀(n:Nat) {s:Mc},Ok P f R (run n s)->Ok P f R s
 |0,_,hk=>hk
 |n+1,_,hk=>a01 (J5 n hk)
theorem PK{e:Env}(he:P9 e s.env)(hc:(match s.pc with|.n _=>false|.g _ _=>false|_=>true))(hk:Ok P f R ⟨s.pc,s.k,e,s.h⟩):Ok P f R s:=by
 obtain⟨pc,k,env,h⟩:=s;cases pc with
 |c x=>exact Wg e env h he hk
 |v L=>exact Jq (Pk k) he hk
 |s b L S gl w tl=>exact NW (zR (Pk k)) he hk
 |l x=>exact Sf e env h he hk
 |_=>cases hc
end
structure En(α:Type) where
 e:α->List AV
 f:α->List AV
 sz:Nat
 eq:∀y,f y=e y
 len:∀y,(e y).length=sz
 ro:Q8 f sz
def oX:I7->B9
 |.Bg _ x _=>x
 |.Ck x _=>x
 |.len _ x=>x
 |.bin _ x _=>x
 |.Bz x _ _=>x
 |.Ao _ x _ _ _=>x
 |.append _ _ _ x _=>x
 |.conv _ x=>x
 |.bytes x=>x
 |.load _ x=>x
 |.store _ p _=>p
 |.make _ _ _ x _=>x
 |.call f _=>f
 |.eq _ _ x _=>x
 |.next x=>x
 |.BC _ _ _ x=>x
 |_=>.t 0
def oY:I7->B9
 |.Bg _ _ i=>i
 |.Ck _ i=>i
 |.bin _ _ y=>y
 |.append _ _ _ _ y=>y
 |.store _ _ x=>x
 |.make _ _ _ _ y=>y
 |.eq _ _ _ y=>y
 |_=>.t 0
def oE:I7->TypeId
 |.append e _ _ _ _=>e
 |_=>0
def oA:I7->b5l B9
 |.call _ l=>l
 |_=>[]
def Kf:I7->b5m B9
 |.Bz _ l _=>l
 |.Ao _ _ l _ _=>l
 |_=>none
def HL:I7->b5m B9
 |.Bz _ _ l=>l
 |.Ao _ _ _ l _=>l
 |_=>none
def qq:I7->B9
 |.Ao _ _ _ _ (some m)=>m
 |_=>.t 0
def oZ:I7->AV
 |.BC _ _ z _=>z
 |_=>.nil
def oB:I7->BinOp
 |.bin b _ _=>b
 |_=>.add
def XF(s:Mc):C2:=match s.pc with
 |.v (o::_)=>o
 |.s _ (o::_) _ _ _ _=>o
 |.s _ [] _ _ (some w) _=>w
 |_=>⟨none,.alloc [],none⟩
def op(s:Mc):I7:=(XF s).op
def put(s:Mc)(av:AV):Mc:=match s.pc with
 |.v (o::L)=>⟨.v L,s.k,M9 s.env o.dst av,s.h⟩
 |.s b (o::L) S gl w tl=>⟨.s b L S gl w tl,s.k,M9 s.env o.dst av,s.h⟩
 |_=>s
def W1(s:Mc)(av:AV)(h:A3):Mc:=match s.pc with
 |.v (o::L)=>⟨.v L,s.k,M9 s.env o.dst av,h⟩
 |.s _ (o::L) S gl w tl=>⟨.s false L S gl w tl,s.k,M9 s.env o.dst av,h⟩
 |.s _ [] _ _ (some _) tl=>⟨.v tl,s.k,s.env,h⟩
 |_=>s
def okS(s:Mc):b5n:=match s.pc with
 |.v (o::_)=>M4 s.env o.guard==some true
 |.s _ (o::_) _ _ _ _=>M4 s.env o.guard==some true&&AH o.op
 |_=>false
def Bi(s:Mc):b5n:=match s.pc with
 |.v (o::_)=>M4 s.env o.guard==some true
 |.s _ (o::_) _ _ _ _=>M4 s.env o.guard==some true&& !AH o.op&& !Bc o
 |.s _ [] _ _ (some _) _=>true
 |_=>false
def EL(s:Mc)(h:A3):b5m (b5l (b5m (b5m (b5l AV))) × b5l (Nat × b5l AV)):=match s.pc with
 |.s _ (_::_) S _ _ _=>some (DQ S h,h.B0)
 |_=>none
def BR(s:Mc):b5m (b5l (b5m (b5m (b5l AV))) × b5l (Nat × b5l AV)):=match s.pc with
 |.s _ (_::_) S gl _ _=>some (S.map (λp=>some (some p.2)),gl)
 |_=>none
def Ov(s:Mc)(h:A3):Prop:=match s.pc with
 |.s _ _ S gl _ _=>DT S gl h
 |_=>h=s.h
def Lb(s:Mc):b5l (Nat × b5l AV):=match s.pc with
 |.s _ _ _ gl _ _=>gl
 |_=>s.h.B0
def Vc(s:Mc)(r:Nat):b5m (b5l AV):=match s.pc with
 |.s _ _ S _ _ _=>(S.find? λp=>p.1==r).map (·.2)
 |_=>(s.h.A5[r]?).bind id
def xv(s:Mc):b5m AV:=(oX (op s)).ev s.env
def yv(s:Mc):b5m AV:=(oY (op s)).ev s.env
def Zr(s:Mc):Value:=((SU (oB (op s)) (xv s) (yv s)).map (·.2)).getD (.bool true)
def kZ(x:b5m AV):b5k:=match x with
 |some (.v (.string t))=>t
 |_=>⟨#[]⟩
def Oq(x:b5m AV):Nat:=match x with
 |some (.sl _ (.own i))=>i
 |_=>0
def Cc(x:b5m AV):Nat:=match x with
 |some (.row r _ _ _ _)=>r
 |some (.ptr r _)=>r
 |_=>0
def y0(x:b5m AV):Nat:=match x with
 |some (.row _ _ _ _ c)=>c
 |_=>0
section
variable {P:Program}{f:Nat}{R:Rm}{s:Mc}
theorem lK{h:A3}(hs:Ov s h):h.B0=Lb s:=by
 unfold Ov at hs;unfold Lb;split at hs
 ·exact hs.2
 ·subst hs;rfl
theorem ij{h:A3}{r:Nat}{c:b5l AV}(hs:Ov s h)(hr:Vc s r=some c):h.A5[r]? =some (some c):=by
 unfold Ov at hs;unfold Vc at hr;split at hs
 ·rename_i hp;rw[hp]at hr;simp only[b43]at hr;obtain⟨p,h1,rfl⟩:=hr;have h2:=List.find?_some h1;have h3:p.1=r:=by simpa using h2
  subst h3;exact hs.1 _ _ (List.mem_of_find?_eq_some h1)
 ·rename_i hp;subst hs;split at hr
  ·rename_i hq;exact absurd hq (hp _ _ _ _ _ _)
  ·obtain⟨x,h1,h2⟩:=Option.bind_eq_some_iff.1 hr;rw[h1];exact congrArg some h2
theorem Ps{av:AV}(hd:∀h,Ov s h->F3 P (op s) s.env h av h)(hk:Ok P f R (put s av))(hc:okS s):Ok P f R s:=by
 obtain⟨pc,k,env,h⟩:=s;cases pc with
 |v L=>
  cases L with
  |nil=>cases hc
  |cons o L=>exact .inr (.inl ⟨by simpa[okS]using hc,av,h,hd h rfl,hk⟩)
 |s b L S gl w tl=>
  cases L with
  |nil=>cases hc
  |cons o L=>
   have hc':M4 env o.guard=some true/\AH o.op:=by simpa[okS]using hc
   exact .inr (.inl ⟨hc'.1,hc'.2,av,λh2 hi=>(hd h2 hi).q,hk⟩)
 |_=>cases hc
theorem Cb{av:AV}{h':A3}(hd:F3 P (op s) s.env s.h av h')(hk:Ok P f R (W1 s av h'))(hc:Bi s)(hs:EL s h'=BR s):Ok P f R s:=by
 obtain⟨pc,k,env,h⟩:=s;cases pc with
 |v L=>
  cases L with
  |nil=>cases hc
  |cons o L=>exact .inr (.inl ⟨by simpa[Bi]using hc,av,h',hd,hk⟩)
 |s b L S gl w tl=>
  cases L with
  |nil=>
   cases w with
   |none=>cases hc
   |some w=>exact⟨av,h',hd,hk⟩
  |cons o L=>
   have hc':(M4 env o.guard=some true/\AH o.op=false)/\Bc o=false:=by simpa[Bi]using hc
   have hs':DQ S h'=S.map (λp=>some (some p.2))/\h'.B0=gl:=by simpa[EL,BR]using hs
   exact .inr (.inr (.inl ⟨hc'.1.1,hc'.1.2,hc'.2,av,h',hd,TX hs'.1 hs'.2,hk⟩))
 |_=>cases hc
theorem ev0(m:Nat){av:AV}(hd:∀h,F3 P (op (run m s)) (run m s).env h av h)(hk:Ok P f R (put (run m s) av))(hc:okS (run m s)):Ok P f R s:=J5 m (Ps (λh _=>hd h) hk hc)
variable {α:Type}{W:α->Prop}{p q:Prop}
theorem KI(m:Nat)(E:En α){l:b5l α}{n:Int}(hk:∀{y},Wk P f R (put (run m s) (.G6 (E.e y) 0)) (W y))(hc:okS (run m s):=by kernel_rfl)(ho:op (run m s)=.Bg E.sz (oX (op (run m s))) (oY (op (run m s))):=by kernel_rfl)(hx:Ah (xv (run m s))=some (List.map E.f l):=by kernel_rfl)(hi:Bw (yv (run m s))=some n:=by kernel_rfl):Wk P f R s (IX l n W):=λhw=>by
 obtain⟨y,h1,h0,hw⟩:=hw;exact ev0 m (λh=>by rw[ho];exact a8w h0 h1 (E.eq y) hx hi (E.len y)) (hk hw) hc
theorem KL{V:Prop}(m:Nat)(E:En α)(l:b5l α)(hk:Wk P f R (put (run m s) (.v (.int .i64 l.length))) V)(hc:okS (run m s):=by kernel_rfl)(ho:op (run m s)=.len false (oX (op (run m s))):=by kernel_rfl)(hx:Ah (xv (run m s))=some (List.map E.f l):=by kernel_rfl):Wk P f R s V:=λhw=>ev0 m (λh=>by rw[ho];exact a8r l E.f hx) (hk hw) hc
theorem KCg(m:Nat){g:FuncId}{gl:b5l (Nat × b5l AV)}{args:b5l AV}{e:α->AV}(hk:∀{y},Wk P f R (put (run m s) (e y)) (W y))(hc:okS (run m s):=by kernel_rfl)(ho:op (run m s)=.call (.c (.clo (.func g) [] [])) (oA (op (run m s))):=by kernel_rfl)(ha:(evs (run m s).env (oA (op (run m s)))).map (List.map nz)=some args:=by kernel_rfl)(hg:Lb (run m s)=gl:=by kernel_rfl)(hgl:M6 gl:=by kernel_rfl)(hp:C3 args:=by first|rfl|simp):Wk P f R s (∃y,B4 P gl g args (e y)/\W y):=λhw=>by
 obtain⟨y,h1,hw⟩:=hw;subst hg;refine J5 m (Ps (λh hs=>?_) (hk hw) hc);rw[ho];rw[<-lK hs]at h1 hgl;exact uj h1 hp ha hgl
theorem pgA{P:Program}{gl:b5l (Nat × b5l AV)}{f:FuncId}{a:b5l AV}{r:AV}(h:B4 P [] f a r):B4 P gl f a r:=⟨h.1,λw outer cargs ho _ hr=>h.2 w outer cargs ho (λg cells hg=>by cases hg) hr⟩
theorem KC(m:Nat){g:FuncId}{args:b5l AV}{e:α->AV}(hk:∀{y},Wk P f R (put (run m s) (e y)) (W y))(hc:okS (run m s):=by kernel_rfl)(ho:op (run m s)=.call (.c (.clo (.func g) [] [])) (oA (op (run m s))):=by kernel_rfl)(ha:(evs (run m s).env (oA (op (run m s)))).map (List.map nz)=some args:=by kernel_rfl)(hgl:M6 (Lb (run m s)):=by kernel_rfl)(hp:C3 args:=by first|rfl|simp):Wk P f R s (∃y,B4 P [] g args (e y)/\W y):=λhw=>by
 obtain⟨y,h1,hw⟩:=hw;exact KCg m hk hc ho ha rfl hgl hp ⟨y,pgA h1,hw⟩
theorem KF(m:Nat){gl:b5l (Nat × b5l AV)}{args:b5l AV}{F:AV}{e:α->AV}(hk:∀{y},Wk P f R (put (run m s) (e y)) (W y))(hc:okS (run m s):=by kernel_rfl)(ho:op (run m s)=.call (oX (op (run m s))) (oA (op (run m s))):=by kernel_rfl)(hf:xv (run m s)=some F:=by kernel_rfl)(ha:(evs (run m s).env (oA (op (run m s)))).map (List.map nz)=some args:=by kernel_rfl)(hg:Lb (run m s)=gl:=by kernel_rfl)(hgl:M6 gl:=by kernel_rfl):Wk P f R s (∃y,Q4 P gl F args (e y)/\W y):=λhw=>by
 obtain⟨y,h1,hw⟩:=hw;subst hg;refine J5 m (Ps (λh hs=>?_) (hk hw) hc);rw[ho];rw[<-lK hs]at h1 hgl;exact a5v h1 hf ha hgl
theorem Aq(m:Nat){t:b5k}{n:Int}(hk:Wk P f R (put (run m s) (.v (.int .u8 (I9 t n.toNat)))) p)(hc:okS (run m s):=by kernel_rfl)(ho:op (run m s)=.Ck (oX (op (run m s))) (oY (op (run m s))):=by kernel_rfl)(hx:xv (run m s)=some (.v (.string t)):=by kernel_rfl)(hi:Bw (yv (run m s))=some n:=by kernel_rfl):Wk P f R s (SI t n p):=λhw=>ev0 m (λh=>by rw[ho];exact a95 hw.1 hx hi) (hk hw.2) hc
theorem EK(m:Nat){t:b5k}{a u:Int}(hk:Wk P f R (put (run m s) (.v (.string (t.extract a.toNat u.toNat)))) p)(hc:okS (run m s):=by kernel_rfl)(ho:op (run m s)=.Bz (oX (op (run m s))) (Kf (op (run m s))) (HL (op (run m s))):=by kernel_rfl)(hx:xv (run m s)=some (.v (.string t)):=by kernel_rfl)(h3:(J2 (run m s).env (Kf (op (run m s)))).bind (K3 0)=some a:=by kernel_rfl)(h4:(J2 (run m s).env (HL (op (run m s)))).bind (K3 t.size)=some u:=by kernel_rfl):Wk P f R s (SS t a u p):=λhw=>ev0 m (λh=>by rw[ho];exact wg hw.1 hx h3 h4) (hk hw.2) hc
theorem DM(m:Nat)(E:En α){l:b5l α}{a u:Int}(hk:Wk P f R (put (run m s) (.sl (List.map E.f ((l.take u.toNat).drop a.toNat)) .no)) p)(hc:okS (run m s):=by kernel_rfl)(ho:op (run m s)=.Ao E.sz (oX (op (run m s))) (Kf (op (run m s))) (HL (op (run m s))) none:=by kernel_rfl)(hx:Ah (xv (run m s))=some (List.map E.f l):=by kernel_rfl)(h3:(J2 (run m s).env (Kf (op (run m s)))).bind (K3 0)=some a:=by kernel_rfl)(h4:(J2 (run m s).env (HL (op (run m s)))).bind (K3 l.length)=some u:=by kernel_rfl)(h5:((Kf (op (run m s))).isSome||(HL (op (run m s))).isSome):=by kernel_rfl):Wk P f R s ((0<=a/\a<=u/\u<=(l.length:Int))/\p):=λhw=>ev0 m (λh=>by rw[ho];exact a1r hw.1 E.ro.hs hx h3 h4 h5) (hk hw.2) hc
theorem Ww(m:Nat)(E:En α){l:b5l α}{a u:Int}(hk:Wk P f R (put (run m s) (.sl (List.map E.f ((l.take u.toNat).drop a.toNat)) .full)) p)(hc:okS (run m s):=by kernel_rfl)(ho:op (run m s)=.Ao E.sz (oX (op (run m s))) (Kf (op (run m s))) (HL (op (run m s))) (some (qq (op (run m s)))):=by kernel_rfl)(hx:Ah (xv (run m s))=some (List.map E.f l):=by kernel_rfl)(h3:(J2 (run m s).env (Kf (op (run m s)))).bind (K3 0)=some a:=by kernel_rfl)(h4:(J2 (run m s).env (HL (op (run m s)))).bind (K3 l.length)=some u:=by kernel_rfl)(h5:Bw ((qq (op (run m s))).ev (run m s).env)=some u:=by kernel_rfl)(h6:(HL (op (run m s))).isSome:=by kernel_rfl):Wk P f R s ((0<=a/\a<=u/\u<=(l.length:Int))/\p):=λhw=>ev0 m (λh=>by rw[ho];exact wM hw.1 E.ro.hs hx h3 h4 h5 h6) (hk hw.2) hc
theorem KB(m:Nat){c:Prop}(hk:Wk P f R (put (run m s) (.v (Zr (run m s)))) p)(hc:okS (run m s):=by kernel_rfl)(ho:op (run m s)=.bin (oB (op (run m s))) (oX (op (run m s))) (oY (op (run m s))):=by kernel_rfl)(hx:(SU (oB (op (run m s))) (xv (run m s)) (yv (run m s))).map (·.1)=some c:=by kernel_rfl):Wk P f R s (c/\p):=λhw=>by
 obtain⟨⟨c',r⟩,h1,h2⟩:=Option.map_eq_some_iff.1 hx;have h3:Zr (run m s)=r:=by unfold Zr;rw[h1];rfl
 have h4:c'=c:=h2;subst h4;rw[h3]at hk;exact ev0 m (λh=>by rw[ho];exact a3s r hw.1 h1) (hk hw.2) hc
theorem tI(m:Nat){a b:b5k}(hk:Wk P f R (put (run m s) (.v (.string (a++b)))) p)(hc:okS (run m s):=by kernel_rfl)(ho:op (run m s)=.bin .add (oX (op (run m s))) (oY (op (run m s))):=by kernel_rfl)(hx:xv (run m s)=some (.v (.string a)):=by kernel_rfl)(hy:yv (run m s)=some (.v (.string b)):=by kernel_rfl):Wk P f R s (CT a b p):=λhw=>ev0 m (λh=>by rw[ho];exact a7m hw.1 hx hy) (hk hw.2) hc
def HM(h:A3)(y:b5m AV)(E:En α)(m:b5l α):Prop:=y.bind (S0 h E.sz)=some (List.map E.f m)
theorem mF{h:A3}{y:b5m AV}{E:En α}{l:b5l α}(hm:y.bind (S0 h E.sz)=some (List.map E.f l):=by kernel_rfl):HM h y E l:=hm
theorem mE{h:A3}{y:b5m AV}{E:En α}{l:b5l α}(hm:y.bind (S0 h E.sz)=some (List.map E.e l):=by kernel_rfl):HM h y E l:=by
 have:=funext E.eq;unfold HM;rw[this];exact hm
def HX(x:b5m AV)(E:En α)(l:b5l α):Prop:=Ah x=some (List.map E.f l)
theorem xF{x:b5m AV}{E:En α}{l:b5l α}(h:Ah x=some (List.map E.f l):=by kernel_rfl):HX x E l:=h
theorem xE{x:b5m AV}{E:En α}{l:b5l α}(h:Ah x=some (List.map E.e l):=by kernel_rfl):HX x E l:=by
 have:=funext E.eq;unfold HX;rw[this];exact h
theorem KA(m:Nat)(E:En α){l l2:b5l α}{b:Nat}(hm:HM (run m s).h (yv (run m s)) E l2)(hk:Wk P f R (W1 (run m s) (.sl (List.map E.f (l++l2)) (.own (Oq (xv (run m s))))) ⟨(run m s).h.A5,(run m s).h.A9.set (Oq (xv (run m s))) ((l++l2).length,E.sz),(run m s).h.B0⟩) p)(hc:Bi (run m s):=by kernel_rfl)(hs:EL (run m s) ⟨(run m s).h.A5,(run m s).h.A9.set (Oq (xv (run m s))) ((l++l2).length,E.sz),(run m s).h.B0⟩=BR (run m s):=by kernel_rfl)(ho:op (run m s)=.append (oE (op (run m s))) E.sz b (oX (op (run m s))) (oY (op (run m s))):=by kernel_rfl)(hx:xv (run m s)=some (.sl (List.map E.f l) (.own (Oq (xv (run m s))))):=by kernel_rfl)(hb:(run m s).h.A9[Oq (xv (run m s))]? =some (l.length,E.sz):=by kernel_rfl):Wk P f R s ((l.length+l2.length)*b<=140737488355328/\p):=λhw=>J5 m (Cb (by rw[ho];exact b17 _ E.f l l2 hw.1 E.ro.hs hm hx hb) (hk hw.2) hc hs)
theorem Q0(m:Nat)(E:En α){l l2:b5l α}{b:Nat}(hm:HM (run m s).h (yv (run m s)) E l2)(hX:HX (xv (run m s)) E l)(hk:Wk P f R (W1 (run m s) (.sl (List.map E.f (l++l2)) (.own (run m s).h.A9.length)) ⟨(run m s).h.A5,(run m s).h.A9++[((l++l2).length,E.sz)],(run m s).h.B0⟩) p)(hc:Bi (run m s):=by kernel_rfl)(hs:EL (run m s) ⟨(run m s).h.A5,(run m s).h.A9++[((l++l2).length,E.sz)],(run m s).h.B0⟩=BR (run m s):=by kernel_rfl)(ho:op (run m s)=.append (oE (op (run m s))) E.sz b (oX (op (run m s))) (oY (op (run m s))):=by kernel_rfl)(hx:af (xv (run m s))=some .full:=by kernel_rfl):Wk P f R s ((l.length+l2.length)*b<=140737488355328/\l2≠[]/\p):=λhw=>J5 m (Cb (by rw[ho];exact jP E.f l l2 hw.1 E.ro.hs hw.2.1 hm hX hx) (hk hw.2.2) hc hs)
theorem KY{V:Prop}(m:Nat)(hk:Wk P f R (put (run m s) (.sl (List.map (λn=>[AV.v (.int .u8 n)]) (bI (kZ (xv (run m s))))) .no)) V)(hc:okS (run m s):=by kernel_rfl)(ho:op (run m s)=.bytes (oX (op (run m s))):=by kernel_rfl)(hx:xv (run m s)=some (.v (.string (kZ (xv (run m s))))):=by kernel_rfl):Wk P f R s V:=λhw=>ev0 m (λh=>by rw[ho];exact rt _ hx) (hk hw) hc
theorem KS(m:Nat){l:b5l Int}{W:b5k->Prop}(hk:∀{t},Wk P f R (put (run m s) (.v (.string t))) (W t))(hc:okS (run m s):=by kernel_rfl)(ho:op (run m s)=.conv .str (oX (op (run m s))):=by kernel_rfl)(hx:Ah (xv (run m s))=some (List.map (λn=>[AV.v (.int .u8 n)]) l):=by kernel_rfl):Wk P f R s (∃t,l=bI t/\W t):=λhw=>by
 obtain⟨t,h1,hw⟩:=hw;exact ev0 m (λh=>by rw[ho];exact a54 h1 hx) (hk hw) hc
theorem F0(m:Nat){len:Nat}{n:Int}(sz:Nat)(hk:Wk P f R (put (run m s) (.ptr (Cc (xv (run m s))) (0+n.toNat*sz))) p)(hc:okS (run m s):=by kernel_rfl)(ho:op (run m s)=.Bg sz (oX (op (run m s))) (oY (op (run m s))):=by kernel_rfl)(hx:xv (run m s)=some (.row (Cc (xv (run m s))) 0 sz len (y0 (xv (run m s)))):=by kernel_rfl)(hi:Bw (yv (run m s))=some n:=by kernel_rfl):Wk P f R s ((0<=n/\n<(len:Int))/\p):=λhw=>ev0 m (λh=>by rw[ho];exact a0r _ len _ hw.1 hx hi) (hk hw.2) hc
theorem J3(m:Nat)(E:En α){l:b5l α}{i:Nat}(hk:∀{y},Wk P f R (put (run m s) (.agg (E.e y))) (W y))(hc:okS (run m s):=by kernel_rfl)(ho:op (run m s)=.load (some E.sz) (oX (op (run m s))):=by kernel_rfl)(hx:xv (run m s)=some (.ptr (Cc (xv (run m s))) (0+i*E.sz)):=by kernel_rfl)(hr:Vc (run m s) (Cc (xv (run m s)))=some (cellsOf E.f l):=by kernel_rfl):Wk P f R s (∃y,l[i]? =some y/\W y):=λhw=>by
 obtain⟨y,h1,hw⟩:=hw;exact J5 m (Ps (λh hs=>by rw[ho];exact a7t E.ro.hs E.ro.hn h1 (E.eq y) (Nat.zero_add _) hx (ij hs hr)) (hk hw) hc)
def NO(l:b5l AV)(k:Nat):AV:=l[k]?.getD .nil
theorem qm(m:Nat)(E:En α)(k:Nat){l:b5l α}{i:Nat}(hk:∀{y},Wk P f R (put (run m s) (NO (E.e y) k)) (W y))(hc:okS (run m s):=by kernel_rfl)(ho:op (run m s)=.load none (oX (op (run m s))):=by kernel_rfl)(hx:xv (run m s)=some (.ptr (Cc (xv (run m s))) (0+i*E.sz+k)):=by kernel_rfl)(hr:Vc (run m s) (Cc (xv (run m s)))=some (cellsOf E.f l):=by kernel_rfl)(hb:Nat.ble (k+1) E.sz:=by kernel_rfl):Wk P f R s (∃y,l[i]? =some y/\W y):=λhw=>by
 obtain⟨y,h1,hw⟩:=hw;have hlt:k<E.sz:=b5h hb
 have hg:(E.f y)[k]? =some (NO (E.e y) k):=by
  rw[E.eq y];have:k<(E.e y).length:=by rw[E.len y];exact hlt
  simp[NO,this]
 exact J5 m (Ps (λh hs=>by rw[ho];exact b07 E.ro.hs E.ro.hn h1 hlt hg (by omega) hx (ij hs hr)) (hk hw) hc)
theorem T8(m:Nat)(E:En α)(z:α){l:b5l α}{i:Nat}(hk:Wk P f R (W1 (run m s) (.tuple []) ⟨(run m s).h.A5.set (Cc (xv (run m s))) (some (cellsOf E.f (l.set i z))),(run m s).h.A9,(run m s).h.B0⟩) p)(hc:Bi (run m s):=by kernel_rfl)(hs:EL (run m s) ⟨(run m s).h.A5.set (Cc (xv (run m s))) (some (cellsOf E.f (l.set i z))),(run m s).h.A9,(run m s).h.B0⟩=BR (run m s):=by kernel_rfl)(ho:op (run m s)=.store E.sz (oX (op (run m s))) (oY (op (run m s))):=by kernel_rfl)(hx:xv (run m s)=some (.ptr (Cc (xv (run m s))) (0+i*E.sz)):=by kernel_rfl)(hy:(yv (run m s)).map (λa=>(a.isTuple,a.cells))=some (false,E.e z):=by kernel_rfl)(hr:(run m s).h.A5[Cc (xv (run m s))]? =some (some (cellsOf E.f l)):=by kernel_rfl):Wk P f R s (i<l.length/\p):=λhw=>by
 obtain⟨a,h1,h2⟩:=Option.map_eq_some_iff.1 hy;have h3:=congrArg Prod.fst h2;have h4:=congrArg Prod.snd h2;exact J5 m (Cb (by rw[ho];exact b19 z E.ro.hs E.ro.hn hw.1 ((E.eq z).trans h4.symm) (Nat.zero_add _) hx h1 h3 hr) (hk hw.2) hc hs)
theorem KM(m:Nat)(E:En α)(z:α){L C:Int}{b:Nat}(hk:Wk P f R (W1 (run m s) (.row (run m s).h.A5.length 0 E.sz L.toNat C.toNat) ⟨(run m s).h.A5++[some (cellsOf E.f (List.replicate C.toNat z))],(run m s).h.A9,(run m s).h.B0⟩) p)(hc:Bi (run m s):=by kernel_rfl)(hs:EL (run m s) ⟨(run m s).h.A5++[some (cellsOf E.f (List.replicate C.toNat z))],(run m s).h.A9,(run m s).h.B0⟩=BR (run m s):=by kernel_rfl)(ho:op (run m s)=.make E.sz b (E.e z) (oX (op (run m s))) (oY (op (run m s))):=by kernel_rfl)(hx:Bw (xv (run m s))=some L:=by kernel_rfl)(hy:Bw (yv (run m s))=some C:=by kernel_rfl):Wk P f R s ((0<=L/\L<=C/\C*b<=140737488355328)/\p):=λhw=>J5 m (Cb (by rw[ho];exact sZ E.f z L C hw.1 hx hy (E.eq z).symm (E.ro.hs z)) (hk hw.2) hc hs)
end
end Go.Proofs.YtlcmiciojnnlnaaGreatDoor.Lift
