/- Part 3 of the texts that prove RowCanonicalEnd. -/
import Derived.Test.YtidmmngcijapcaaGreatRowCanonicalEndP1
namespace Go.Proofs.YtidmmngcijapcaaGreat.Lift
open Go.RowKit
set_option linter.unusedVariables false
set_option linter.unusedSimpArgs false
set_option linter.unnecessarySimpa false
set_option linter.unusedSectionVars false
set_option maxRecDepth 100000
abbrev T(n:Nat):L5:=.t n
abbrev cb(b:Bool):L5:=.c (.v (.bool b))
abbrev o(d:Nat)(x:AOp):E8:=⟨some d,x,none⟩
abbrev og(d:Nat)(x:AOp)(t:Nat)(b:Bool):E8:=⟨some d,x,some (t,b)⟩
abbrev on(x:AOp):E8:=⟨none,x,none⟩
abbrev mv(n:Nat):AOp:=.mv (.t n)
abbrev ln(n t:Nat):AOp:=.load (some n) (.t t)
abbrev st(n p x:Nat):AOp:=.store n (.t p) (.t x)
abbrev wI(n:Int):Int:=IntKind.i64.wrap n
abbrev wU(n:Int):Int:=IntKind.u64.wrap n
theorem c1l{t u:Nat}(hne:u≠t):∀{e:Env}{a:AV},get e t=some a->get (drop u e) t=some a
 |[],_,h=>by cases h
 |(k,b)::e,a,h=>by
  simp only[get]at h;simp only[drop];split at h
  ·rename_i hk;subst hk;rw[if_neg (fun h=>hne h.symm)];simp only[get,if_true];exact h
  ·rename_i hk;split
   ·exact c1l hne h
   ·simp only[get];rw[if_neg hk];exact c1l hne h
theorem e6m:∀{e:Env}{t:Nat}{a:AV},get e t=some a->get (g2u e) t=some a
 |[],_,_,h=>by cases h
 |(u,b)::e,t,a,h=>by
  simp only[get]at h;simp only[g2u,get];split at h
  ·rename_i hu;rw[if_pos hu];exact h
  ·rename_i hu;rw[if_neg hu];exact c1l hu (e6m h)
theorem c4g{env:Env}{t:Nat}{B b:Bool}(hB:B=b)(hg:get env t=some (.v (.bool B))):c4s ((t,.v (.bool b))::env) env:=by
 subst hB;intro u a h;simp only[get]at h;split at h
 ·rename_i hu;subst hu;cases h;exact hg
 ·exact h
def b9g:Option AV->Option (List (List AV))
 |some (.sl els _)=>some els
 |_=>none
theorem a6l{x:Option AV}{els:List (List AV)}(h:b9g x=some els):∃tok,x=some (.sl els tok):=by
 unfold b9g at h;split at h
 ·cases h;exact⟨_,rfl⟩
 ·cases h
structure GFn where
 fn:FuncId
 fi:List AV
 cap:List AV
 hp:(plainL fi&&plainL cap)=true
theorem a0s(g:GFn):plainL g.fi=true:=(Bool.and_eq_true _ _▸g.hp).1
theorem T0(g:GFn):plainL g.cap=true:=(Bool.and_eq_true _ _▸g.hp).2
theorem c1y(m:List Bool)(n:Nat)(g:GFn):lowL m n g.fi=true:=lowL_plain _ _ _ (a0s g)
theorem b6w(m:List Bool)(n:Nat)(g:GFn):lowL m n g.cap=true:=lowL_plain _ _ _ (T0 g)
theorem a07(g:GFn):plain (.clo (.func g.fn) g.fi g.cap)=true:=g.hp
def eFn(g:GFn):List AV:=[.clo (.func g.fn) g.fi g.cap]
theorem h0a(g:GFn):plainL (eFn g)=true:=by simp only[eFn,plainL,plain,a0s,T0];rfl
theorem a1a(l:List GFn):plainLL (l.map eFn)=true:=D6 _ _ fun x _=>h0a x
section
variable {P:Program}{h h':A7}{env e:Env}{N kb kf:Nat}{Q:Exit->Env->A7->Prop}{K:Env->A7->Prop}{L:List E8}{k:Nat}{S gl:List (Nat × List AV)}{b:Bool}{x y:W2}
theorem vo{o:E8}{av:AV}{d:Nat}(hl:L[k]? =some o)(ha:a22 P o.op env h av h')(hd:o.dst=some d)(hk:Vp P L (k+1) ((d,av)::env) h' K)(hg:a0i env o.guard=some true:=by kernel_rfl):Vp P L k env h K:=g8e hl hg ha rfl (by rw[hd];rfl) hk
theorem vn{d:Nat}{x y:L5}{yes:Bool}{α:Type}(hl:L[k]? =some ⟨some d,.eq .slice yes x y,none⟩)(l:List α)(f:α->List AV)(hk:∀b:Bool,(l≠[]->b= !yes)->Vp P L (k+1) ((d,.v (.bool b))::env) h K)(hx:b9g (x.ev env)=some (List.map f l):=by kernel_rfl)(hy:y.ev env=some .nil:=by kernel_rfl):Vp P L k env h K:=by
 obtain⟨tok,hx⟩:=a6l hx;refine g77 hl rfl (fun av=>∃b:Bool,av=.v (.bool b)/\(l≠[]->b= !yes)) (fun K' hK'=>?_) fun av hav=>?_
 ·simp only[aop,hx,hy,wv,f26];rcases Classical.em (l=[]) with h0|h0
  ·right;subst h0;exact⟨rfl,hK' _ ⟨_,rfl,fun hn=>absurd rfl hn⟩,hK' _ ⟨_,rfl,fun hn=>absurd rfl hn⟩⟩
  ·left;refine⟨by simpa using h0,hK' _ ⟨_,rfl,fun _=>?_⟩⟩;cases yes<;>rfl
 ·obtain⟨b,rfl,hb⟩:=hav;exact hk b hb
theorem h7q(hk:K env h)(hl:L.drop k=[]:=by kernel_rfl):Vp P L k env h K:=g5p hl hk
def e6p(nl env:Env)(ops:List E8):Bool:=ops.all fun o=>match o.dst with
 |some t=>(get nl t).isSome||(get env t).isNone
 |none=>true
theorem d55:∀{e:Env}{t:Nat}{a:AV},get e t=some a->(t,a)∈e
 |[],_,_,h=>by cases h
 |(u,b)::e,t,a,h=>by
  simp only[get]at h;split at h
  ·rename_i hu;subst hu;cases h;exact List.mem_cons_self
  ·exact List.mem_cons_of_mem _ (d55 h)
theorem d9m:∀{e f:Env}{t:Nat},get (e++f) t=match get e t with|some a=>some a|none=>get f t
 |[],_,_=>rfl
 |(u,b)::e,f,t=>by
  simp only[List.cons_append,get];split
  ·rfl
  ·exact d9m
theorem d39{env:Env}{d:Option Tmp}{t:Nat}{a:AV}(h:d≠some t):get (c1g env d a) t=get env t:=by
 cases d with
 |none=>rfl
 |some d=>
  simp only[c1g,get];rw[if_neg];intro e;exact h (by rw[e])
theorem d6z{env:Env}{d:Option Tmp}{t:Nat}(h:d≠some t):get (c0r env d) t=get env t:=by
 cases d with
 |none=>rfl
 |some d=>
  simp only[c0r]
  first
   |exact d39 (d:=some d) h
   |(simp only[get];rw[if_neg (fun e=>h (by rw[e]))])
theorem c9w{md:Bool}{call:d1f}:∀{l:List E8}{env:Env}{h:A7}{r:Env × A7}{t:Nat},d82 md call l env h=some r->(∀o∈l,o.dst≠some t)->get r.1 t=get env t
 |[],env,h,r,t,he,_=>by cases he;rfl
 |o::l,env,h,r,t,he,hn=>by
  simp only[d82,Option.bind_eq_some_iff]at he;obtain⟨b,h1,h2⟩:=he;have ho:=hn o List.mem_cons_self;have hl:=fun o' h'=>hn o' (List.mem_cons_of_mem _ h')
  cases b with
  |true=>
   simp only[Option.bind_eq_some_iff]at h2;obtain⟨p,h3,h4⟩:=h2;exact(c9w h4 hl).trans (d39 ho)
  |false=>exact(c9w h2 hl).trans (d6z ho)
theorem e9p{nl env e:Env}{ops:List E8}(h1:nl.map (fun q=>get e q.1)=nl.map fun q=>some q.2)(h2:e6p nl env ops=true)(h3:∀t,(∀o∈ops,o.dst≠some t)->get e t=get env t):c4s (nl++env) e:=by
 intro t a h;rw[d9m]at h;cases hn:get nl t with
 |some b=>
  rw[hn]at h;cases h;have hm:=d55 hn;obtain⟨i,hi⟩:=List.mem_iff_getElem?.1 hm;have:=congrArg (fun l=>l[i]?) h1;simpa[List.getElem?_map,hi]using this
 |none=>
  rw[hn]at h;rw[h3 t fun o ho hd=>?_]
  ·exact h
  ·have:=List.all_eq_true.1 h2 o ho;rw[hd]at this;simp[hn,h]at this
def chk(nl env:Env)(ops:List E8)(p:Env × A7):List (Option AV) × A7 × Bool:=(nl.map (fun q=>get p.1 q.1),p.2,e6p nl env ops)
theorem f5m{nl env:Env}{ops:List E8}{x:Option (Env × A7)}{h':A7}(h:x.map (chk nl env ops)=some (nl.map (fun q=>some q.2),h',true)):∃e,x=some (e,h')/\nl.map (fun q=>get e q.1)=nl.map (fun q=>some q.2)/\e6p nl env ops=true:=by
 cases x with
 |none=>cases h
 |some p=>
  simp only[Option.map_some,chk,Option.some.injEq,Prod.mk.injEq]at h;exact⟨p.1,by rw[<-h.2.1],h.1,h.2.2⟩
theorem va(m:Nat)(nl:Env)(hk:Vp P L (k+m) (nl++env) h K)(hK:c78 K:=by first|exact g83|exact f58 g83|exact f6d|exact e8r|exact f58 f6d|exact f58 e8r)(he:(d82 false noC ((L.drop k).take m) env h).map (chk nl env ((L.drop k).take m))=some (nl.map (fun q=>some q.2),h,true):=by kernel_rfl):Vp P L k env h K:=by
 obtain⟨e,h1,h2,h3⟩:=f5m he;exact f3v m _ _ h1 rfl (c1p hK (e9p h2 h3 fun t ht=>c9w h1 ht) hk)
abbrev aI(n:Int):AV:=.v (.int .i64 n)
abbrev aU(n:Int):AV:=.v (.int .u64 n)
abbrev aB(b:Bool):AV:=.v (.bool b)
abbrev aS(s:ByteArray):AV:=.v (.string s)
abbrev aE:AV:=.v (.string ⟨#[]⟩)
abbrev zV:List AV:=[aI 0,aU 0,aE,.nil,.nil,.nil,.nil]
theorem dr{ops:List E8}(hv:Vp P ops 0 env h fun env' h'=>Q .normal env' h'):D P N kb kf (.region ops) Q env h:=f4w (f30 hv)
theorem dS(S:List (Nat × List AV)){ord:List (List Nat)}{al tl:List E8}(hv:Sp P S h.globs true al 0 env h fun F h'=>vd P tl F h' fun env' h'=>Q .normal env' h')(hok:okq al=true:=by kernel_rfl)(hst:d9v (clo ord) al=true:=by kernel_rfl)(hS:inS S h=S.map (fun p=>some (some p.2)):=by kernel_rfl):D P N kb kf (.drawn ord al tl) Q env h:=f4d S hok hst hS hv
theorem dc{c:L5}(B:Bool)(h1:B=true->D P N kb kf x Q env h)(h2:B=false->D P N kb kf y Q env h)(hc:c.ev env=some (.v (.bool B)):=by kernel_rfl):D P N kb kf (.cond c x y) Q env h:=e1f hc h1 h2
theorem dw{c:L5}{B:Bool}{p q:Prop}(hw:(B=true->p)/\(B=false->q))(h1:B=true->p->D P N kb kf x Q env h)(h2:B=false->q->D P N kb kf y Q env h)(hc:c.ev env=some (.v (.bool B)):=by kernel_rfl):D P N kb kf (.cond c x y) Q env h:=dc B (fun z=>h1 z (hw.1 z)) (fun z=>h2 z (hw.2 z)) hc
theorem dkf{c:L5}{B:Bool}(hB:B=false)(h1:D P N kb kf y Q env h)(hc:c.ev env=some (.v (.bool B)):=by kernel_rfl):D P N kb kf (.cond c x y) Q env h:=e26 hc hB h1
theorem rx{rs:List c09}{R:Type}{f:R->AV}{r r0:R}(hw:r=r0)(hp:plain (f r0)=true)(he:(c8u env h rs).map (fun l=>nz (d5i l))=some (f r0):=by kernel_rfl):g3t rs (f r) .ret env h:=by
 subst hw;simp only[Option.map_eq_some_iff]at he;obtain⟨l,h1,h2⟩:=he;exact h4j h1 h2 hp
abbrev tl(P:Program)(N:Nat)(y:W2)(Q:Exit->Env->A7->Prop):Exit->Env->A7->Prop:=e9e (fun e h=>DL P N 0 0 y Q e h) Q
theorem ds{P:Program}{N kb kf:Nat}{ops:List E8}{y:W2}{Q:Exit->Env->A7->Prop}{env:Env}{h:A7}(hv:Vp P ops 0 env h fun env' h'=>D P N kb kf y Q env' h'):D P N kb kf (.seq (.region ops) y) Q env h:=e1b (dr hv)
theorem ve{P:Program}{L:List E8}{k:Nat}{env:Env}{h:A7}{K:Env->A7->Prop}(hk:K env h)(hl:L.drop k=[]:=by kernel_rfl):Vp P L k env h K:=h7q hk hl
def c42:Option AV->Option Int
 |some (.v (.int _ n))=>some n
 |_=>none
theorem b2g{x:Option AV}{n:Int}(h:c42 x=some n):∃k,x=some (.v (.int k n)):=by
 unfold c42 at h;split at h
 ·cases h;exact⟨_,rfl⟩
 ·cases h
variable {α:Type}
theorem h3b{x:L5}(l:List α)(e:α->List AV)(hx:b9g (x.ev env)=some (List.map e l):=by kernel_rfl):a22 P (.len false x) env h (.v (.int .i64 l.length)) h:=by
 obtain⟨tok,hx⟩:=a6l hx;exact h01 hx
theorem h2e{size:Nat}{x i:L5}{l:List α}{e' e:α->List AV}{n:Int}{y:α}(h0:0<=n)(hy:l[n.toNat]? =some y)(he:e' y=e y)(hx:b9g (x.ev env)=some (List.map e' l):=by kernel_rfl)(hi:c42 (i.ev env)=some n:=by kernel_rfl)(hs:(e y).length=size:=by kernel_rfl):a22 P (.idxSl size x i) env h (.elt (e y) 0) h:=by
 obtain⟨tok,hx⟩:=a6l hx;obtain⟨k,hi⟩:=b2g hi;exact g0h hx hi h0 hy he hs
theorem g4e{x i:L5}{s:ByteArray}{n:Int}(h0:0<=n/\n<(s.size:Int))(hx:x.ev env=some (.v (.string s)):=by kernel_rfl)(hi:c42 (i.ev env)=some n:=by kernel_rfl):a22 P (.idxS x i) env h (.v (.int .u8 (E9 s n.toNat))) h:=by
 obtain⟨k,hi⟩:=b2g hi;exact g4n hx hi h0
theorem f5d{x:L5}{lo hi:Option L5}{s:ByteArray}{l u:Int}(h0:0<=l/\l<=u/\u<=(s.size:Int))(hx:x.ev env=some (.v (.string s)):=by kernel_rfl)(h3:(evo env lo).bind (F8 0)=some l:=by kernel_rfl)(h4:(evo env hi).bind (F8 s.size)=some u:=by kernel_rfl):a22 P (.sliceS x lo hi) env h (.v (.string (s.extract l.toNat u.toNat))) h:=by
 obtain⟨lv,h1,h3⟩:=Option.bind_eq_some_iff.1 h3;obtain⟨hv,h2,h4⟩:=Option.bind_eq_some_iff.1 h4;exact f4u hx h1 h2 h3 h4 h0
def g6c:Option AV->Option Tok
 |some (.sl _ t)=>some t
 |_=>none
theorem f9u{size:Nat}{x:L5}{lo hi:Option L5}{l:List α}{e':α->List AV}{a u:Int}(h0:0<=a/\a<=u/\u<=(l.length:Int))(hs:∀y,(e' y).length=size)(hx:b9g (x.ev env)=some (List.map e' l):=by kernel_rfl)(h3:(evo env lo).bind (F8 0)=some a:=by kernel_rfl)(h4:(evo env hi).bind (F8 l.length)=some u:=by kernel_rfl)(hc:(lo.isSome||hi.isSome)=true:=by kernel_rfl):a22 P (.sliceV size x lo hi none) env h (.sl (List.map e' ((l.take u.toNat).drop a.toNat)) .no) h:=by
 obtain⟨tok,hx⟩:=a6l hx;obtain⟨lv,h1,h3⟩:=Option.bind_eq_some_iff.1 h3;obtain⟨hv,h2,h4⟩:=Option.bind_eq_some_iff.1 h4;have:=f3z (P:=P) (h:=h) hx h1 h2 h3 h4 h0 hs;cases lo with
 |none=>
  cases hi with
  |none=>cases hc
  |some hi=>
   have e2:∃z,hv=some z:=by
    simp only[evo]at h2;split at h2
    ·cases h2;exact⟨_,rfl⟩
    ·cases h2
   obtain⟨z,rfl⟩:=e2;cases h1;exact this
 |some lo=>
  have e1:∃z,lv=some z:=by
   simp only[evo]at h1;split at h1
   ·cases h1;exact⟨_,rfl⟩
   ·cases h1
  obtain⟨z,rfl⟩:=e1;exact this
theorem f4o{size:Nat}{x m:L5}{lo hi:Option L5}{l:List α}{e':α->List AV}{a u:Int}(h0:0<=a/\a<=u/\u<=(l.length:Int))(hs:∀y,(e' y).length=size)(hx:b9g (x.ev env)=some (List.map e' l):=by kernel_rfl)(h3:(evo env lo).bind (F8 0)=some a:=by kernel_rfl)(h4:(evo env hi).bind (F8 l.length)=some u:=by kernel_rfl)(h5:c42 (m.ev env)=some u:=by kernel_rfl)(hc:hi.isSome=true:=by kernel_rfl):a22 P (.sliceV size x lo hi (some m)) env h (.sl (List.map e' ((l.take u.toNat).drop a.toNat)) .full) h:=by
 obtain⟨tok,hx⟩:=a6l hx;obtain⟨k,h5⟩:=b2g h5;obtain⟨lv,h1,h3⟩:=Option.bind_eq_some_iff.1 h3;obtain⟨hv,h2,h4⟩:=Option.bind_eq_some_iff.1 h4;refine e8y hx h1 h2 h3 h4 h5 ?_ h0 hs;cases hi with
 |none=>cases hc
 |some hi=>
  simp only[evo]at h2;split at h2
  ·cases h2;rfl
  ·cases h2
def g9f(op:BinOp)(x y:Option AV):Option (Prop × Value):=
 match x,y with
 |some (.v a),some (.v b)=>d9u op a b
 |_,_=>none
theorem h04{op:BinOp}{x y:L5}{c:Prop}(r:Value)(hc:c)(hp:g9f op (x.ev env) (y.ev env)=some (c,r):=by kernel_rfl):a22 P (.bin op x y) env h (.v r) h:=by
 unfold g9f at hp;split at hp
 ·rename_i a b h1 h2;exact d7a h1 h2 hp hc
 ·cases hp
theorem h0d{x y:L5}{a b:ByteArray}(h0:((a.size+b.size:Nat):Int)<=9223372036854775807)(hx:x.ev env=some (.v (.string a)):=by kernel_rfl)(hy:y.ev env=some (.v (.string b)):=by kernel_rfl):a22 P (.bin .add x y) env h (.v (.string (a++b))) h:=g66 hx hy h0
theorem g4a{g:FuncId}{args:List L5}{l':List AV}{r:AV}(hc:B8 P h.globs g l' r)(hp:plainL l'=true)(ha:(evs env args).map (List.map nz)=some l':=by kernel_rfl)(hgl:X1 h.globs=true:=by kernel_rfl):a22 P (.call (.c (.clo (.func g) [] [])) args) env h r h:=by
 obtain⟨l,h1,h2⟩:=Option.map_eq_some_iff.1 ha;exact g1t rfl h1 h2 hgl hp hc
theorem f9i{f:L5}{args:List L5}{F:AV}{l':List AV}{r:AV}(hc:a6z P h.globs F l' r)(hf:f.ev env=some F:=by kernel_rfl)(ha:(evs env args).map (List.map nz)=some l':=by kernel_rfl)(hgl:X1 h.globs=true:=by kernel_rfl):a22 P (.call f args) env h r h:=by
 obtain⟨l,h1,h2⟩:=Option.map_eq_some_iff.1 ha;exact g3i hf h1 h2 hgl hc
theorem g7a{size byt:Nat}{x y:L5}(e':α->List AV)(m:List α)(h0:m.length*byt<=140737488355328)(hs:∀y,(e' y).length=size)(hm:(y.ev env).bind (c7j h size)=some (List.map e' m))(hx:x.ev env=some .nil:=by kernel_rfl):a22 P (.append size byt x y) env h (.sl (List.map e' m) (.own h.bufs.length)) ⟨h.blks,h.bufs++[(m.length,size)],h.globs⟩:=by
 obtain⟨Y,h1,h2⟩:=Option.bind_eq_some_iff.1 hm;exact d63 hx h1 h2 hs h0
theorem h0o{size byt:Nat}{x y:L5}(id:Nat)(e':α->List AV)(l m:List α)(h0:(l.length+m.length)*byt<=140737488355328)(hs:∀y,(e' y).length=size)(hm:(y.ev env).bind (c7j h size)=some (List.map e' m))(hx:x.ev env=some (.sl (List.map e' l) (.own id)):=by kernel_rfl)(hb:h.bufs[id]? =some (l.length,size):=by kernel_rfl):a22 P (.append size byt x y) env h (.sl (List.map e' (l++m)) (.own id)) ⟨h.blks,h.bufs.set id ((l++m).length,size),h.globs⟩:=by
 obtain⟨Y,h1,h2⟩:=Option.bind_eq_some_iff.1 hm;exact d7p hx h1 h2 hb hs h0
theorem f6q{size byt:Nat}{x y:L5}(e':α->List AV)(l m:List α)(h0:(l.length+m.length)*byt<=140737488355328)(hs:∀y,(e' y).length=size)(hm:(y.ev env).bind (c7j h size)=some (List.map e' m))(hX:b9g (x.ev env)=some (List.map e' l))(hx:g6c (x.ev env)=some .full:=by kernel_rfl):a22 P (.append size byt x y) env h (.sl (List.map e' (l++m)) (.own h.bufs.length)) ⟨h.blks,h.bufs++[((l++m).length,size)],h.globs⟩:=by
 obtain⟨Y,h1,h2⟩:=Option.bind_eq_some_iff.1 hm;obtain⟨tok,h3⟩:=a6l hX;rw[h3]at hx;cases hx;exact d4r (X:=.nil) h3 h1 rfl h2 hs h0
theorem f9h{x:L5}(s:ByteArray)(hx:x.ev env=some (.v (.string s)):=by kernel_rfl):a22 P (.bytes x) env h (.sl (List.map (fun n=>[AV.v (.int .u8 n)]) (bI s)) (.own h.bufs.length)) ⟨h.blks,h.bufs++[((bI s).length,1)],h.globs⟩:=g27 hx
theorem h3s{x:L5}{l:List Int}{t:ByteArray}(hl:l=bI t)(hx:b9g (x.ev env)=some (List.map (fun n=>[AV.v (.int .u8 n)]) l):=by kernel_rfl):a22 P (.conv .str x) env h (.v (.string t)) h:=by
 obtain⟨tok,hx⟩:=a6l hx;exact h21 hx hl
theorem g5j{Y:Option AV}{s:ByteArray}{size:Nat}(hy:Y=some (.v (.string s))):Y.bind (c7j h size)=some (List.map (fun n=>[AV.v (.int .u8 n)]) (bI s)):=by
 subst hy;exact g0l s size (h:=h)
end
def a2c(n:Nat)(β:Option Nat):AV->AV
 |.nil=>.sl [] .no
 |.sl els (.own id)=>if β=some id then .sl els (.own 0) else .sl els .no
 |.sl els .no=>.sl els .no
 |.sl els .full=>.sl els .no
 |.ptr k off=>if k=n then .ptr 0 off else .it ⟨#[]⟩ 0
 |.row k off size len cap=>if k=n then .row 0 off size len cap else .it ⟨#[]⟩ 0
 |x=>x
def smol(n:Nat)(β:Option Nat):AV->AV
 |.agg cs=>.agg (cs.map (a2c n β))
 |x=>a2c n β x
def ok1:AV->Bool
 |.ptr 0 _=>true
 |.row 0 _ _ _ _=>true
 |.sl els (.own 0)=>plainLL els
 |x=>plain x
def okA:AV->Bool
 |.agg cs=>cs.all ok1
 |x=>ok1 x
def d47(n:Nat)(β:Option Nat):AV->AV
 |.ptr _ off=>.ptr n off
 |.row _ off size len cap=>.row n off size len cap
 |.sl els (.own _)=>match β with
  |some id=>.sl els (.own id)
  |none=>.sl els .no
 |x=>x
theorem c51(n:Nat)(β:Option Nat)(a:AV)(h:ok1 (a2c n β a)=true):(a2c n β a).isCell=a.isCell:=by
 cases a with
 |sl els tok=>cases tok<;>simp only[a2c]<;>(try split)<;>rfl
 |ptr k off=>simp only[a2c]at h ⊢;split at h<;>simp_all [ok1,plain,AV.isCell]
 |row k off size len cap=>simp only[a2c]at h ⊢;split at h<;>simp_all [ok1,plain,AV.isCell]
 |_=>rfl
theorem f2p(n:Nat)(β:Option Nat)(a:AV):(d47 n β a).isCell=a.isCell:=by
 cases a with
 |sl els tok=>cases tok<;>simp only[d47]<;>(try split)<;>rfl
 |_=>rfl
def Sg.mine(σ:Sg)(b0:Nat)(β:Option Nat):Sg:=⟨σ.w,fun i=>if i=0 then some b0 else none,fun j=>if j=0 then β.bind σ.buf else none,fun _ _=>False⟩
def Sg.small(σ:Sg)(b0:Nat)(β:Option Nat):Sg:={σ.mine b0 β with outer:=fun b o=>σ.open_ b o/\¬(σ.mine b0 β).own b o}
theorem b91{σ:Sg}{b0:Nat}{β:Option Nat}{b o:Nat}:(σ.mine b0 β).own b o↔b=b0\/∃id e,β=some id/\σ.buf id=some e/\e.spare b o:=by
 constructor
 ·rintro (⟨k,hk⟩|⟨j,e,he,hs⟩)
  ·simp only[Sg.mine]at hk;split at hk
   ·cases hk;exact .inl rfl
   ·cases hk
  ·simp only[Sg.mine]at he;split at he
   ·obtain⟨id,h1,h2⟩:=Option.bind_eq_some_iff.1 he;exact .inr ⟨id,e,h1,h2,hs⟩
   ·cases he
 ·rintro (rfl|⟨id,e,h1,h2,hs⟩)
  ·exact .inl ⟨0,rfl⟩
  ·exact .inr ⟨0,e,by simp[Sg.mine,h1,h2],hs⟩
theorem b50{σ:Sg}{b0:Nat}{β:Option Nat}{b o:Nat}:(σ.small b0 β).own b o↔(σ.mine b0 β).own b o:=Iff.rfl
theorem d8w{σ:Sg}{b0 n:Nat}{β:Option Nat}(hn:σ.blk n=some b0){b o:Nat}(h:(σ.small b0 β).own b o):σ.own b o:=by
 rcases b91.1 (b50.1 h) with rfl|⟨id,e,h1,h2,hs⟩
 ·exact .inl ⟨n,hn⟩
 ·exact .inr ⟨id,e,h2,hs⟩
theorem d4b{σ:Sg}{b0 n:Nat}{β:Option Nat}(hn:σ.blk n=some b0){b o:Nat}:(σ.small b0 β).open_ b o↔σ.open_ b o:=by
 constructor
 ·rintro (h|h)
  ·exact h.1
  ·exact .inr (d8w hn h)
 ·intro h;rcases Classical.em ((σ.mine b0 β).own b o) with hm|hm
  ·exact .inr hm
  ·exact .inl ⟨h,hm⟩
theorem Rel.move{σ σ':Sg}{a:AV}{x:Value}(hr:Rel σ a x)(hp:plain a=true)(hw:σ'.w=σ.w)(ho:∀b o,σ'.open_ b o->σ.open_ b o):Rel σ' a x:=
 (hr.down (w:=σ.w) (outer:=σ.open_) hp rfl fun _ _ h=>h).up (fun _=>rfl) (fun _=>rfl) hw.symm fun b o h=>.inl (ho b o h)
theorem b3d{σ:Sg}{b0 n:Nat}{β:Option Nat}(hn:σ.blk n=some b0){a:AV}{x:Value}(hr:Rel σ a x)(hok:ok1 (a2c n β a)=true):Rel (σ.small b0 β) (a2c n β a) x:=by
 have hop:∀b o,(σ.small b0 β).open_ b o->σ.open_ b o:=fun b o h=>(d4b hn).1 h
 have pl:∀{a:AV},Rel σ a x->plain a=true->Rel (σ.small b0 β) a x:=fun h hp=>h.move hp rfl hop
 cases a with
 |nil=>exact pl hr.nz1 rfl
 |sl els tok=>
  cases tok with
  |no=>exact pl hr.nz1 hok
  |full=>exact pl hr.nz1 hok
  |own id=>
   simp only[a2c]at hok ⊢;split at hok
   ·rename_i hb;rw[if_pos hb];have hbuf:(σ.small b0 β).buf 0=σ.buf id:=by simp[Sg.small,Sg.mine,hb]
    simp only[ok1]at hok
    have tk:∀{len:Nat}{a:Option Addr}{cap:Nat},c3n σ (.own id) len a cap->c3n (σ.small b0 β) (.own 0) len a cap:=by
     rintro len a cap ⟨e,h1,h2⟩;exact⟨e,by rw[hbuf];exact h1,h2⟩
    cases hr with
    |sl0 _ ht=>exact .sl0 _ (tk ht)
    |slx _ a cap ht hc=>exact .slx _ a cap (tk ht) (hc.elim (fun h=>by cases h) .inr)
    |sl _ _ b o cap size xs hs hcap ht hz hc hr=>
     refine .sl _ _ b o cap size xs hs hcap (tk ht) (fun j e hj he=>?_) (fun i el hi j av hj=>?_) fun i el hi j av hj=>?_
     ·cases hj;rw[hbuf]at he;exact hz id e rfl he
     ·obtain⟨h1,h2,h3⟩:=hc i el hi j av hj;exact⟨h1,fun h=>h2 (hop _ _ h),h3⟩
     ·exact(hr i el hi j av hj).move (U9 (a5s hok i el hi) j av hj) rfl hop
   ·rename_i hb;rw[if_neg hb];exact pl hr.nz1 hok
 |ptr k off=>
  simp only[a2c]at hok ⊢;split at hok
  ·rename_i hk;subst hk;rw[if_pos rfl];cases hr with
   |ptr _ _ b h=>rw[hn]at h;cases h;exact .ptr 0 off b0 rfl
  ·simp[ok1,plain]at hok
 |row k off size len cap=>
  simp only[a2c]at hok ⊢;split at hok
  ·rename_i hk;subst hk;rw[if_pos rfl];cases hr with
   |row _ _ _ _ _ b cap' h hc hm hx=>rw[hn]at h;cases h;exact .row 0 off size len cap b0 cap' rfl hc hm hx
  ·simp[ok1,plain]at hok
 |_=>exact pl hr (by simpa[a2c,ok1]using hok)
theorem e5r{σ:Sg}{b0 n:Nat}{β:Option Nat}(hn:σ.blk n=some b0){a:AV}{x:Value}(hr:Rel σ a x)(hok:okA (smol n β a)=true):Rel (σ.small b0 β) (smol n β a) x:=by
 cases a with
 |agg cs=>
  simp only[smol,okA]at hok ⊢;obtain⟨xs,rfl,hc⟩:=hr.agg_inv;refine Rel.agg_mk' ⟨by simp[hc.1],fun i av hi=>?_⟩;have hok1:=List.all_eq_true.1 hok av (List.mem_of_getElem? hi);simp only[List.getElem?_map,Option.map_eq_some_iff]at hi;obtain⟨b,hb,rfl⟩:=hi;obtain⟨h1,x,h2,h3⟩:=hc.2 i b hb;exact⟨by rw[c51 n β b hok1];exact h1,x,h2,b3d hn h3 hok1⟩
 |sl els tok=>cases tok with
  |own id=>
   refine b3d hn hr ?_;simp only[smol,a2c]at hok ⊢;split at hok<;>rename_i hb<;>simp only[hb,if_true,if_false]<;>exact hok
  |_=>exact b3d hn hr hok
 |ptr k off=>
  refine b3d hn hr ?_;simp only[smol,a2c]at hok ⊢;split at hok<;>rename_i hb<;>simp only[hb,if_true,if_false]<;>exact hok
 |row k off size len cap=>
  refine b3d hn hr ?_;simp only[smol,a2c]at hok ⊢;split at hok<;>rename_i hb<;>simp only[hb,if_true,if_false]<;>exact hok
 |_=>exact b3d hn hr hok
def Sg.big(σ σ1:Sg)(β:Option Nat):Sg:=⟨σ1.w,σ.blk,fun id=>if β=some id then σ1.buf 0 else σ.buf id,σ.outer⟩
theorem g2j{σ σ1:Sg}{b0 n:Nat}{β:Option Nat}(hn:σ.blk n=some b0)(h1:σ1.blk 0=some b0)(ho:∀b o,(σ.big σ1 β).open_ b o->σ1.open_ b o){a:AV}{x:Value}(hr:Rel σ1 a x)(hok:ok1 a=true):Rel (σ.big σ1 β) (d47 n β a) x:=by
 have pl:∀{a:AV},Rel σ1 a x->plain a=true->Rel (σ.big σ1 β) a x:=fun h hp=>h.move hp rfl ho
 cases a with
 |sl els tok=>
  cases tok with
  |no=>exact pl hr hok
  |full=>exact pl hr hok
  |own j=>
   cases j with
   |succ j=>simp[ok1,plain]at hok
   |zero=>
    simp only[ok1]at hok;cases β with
    |none=>exact(show Rel σ1 (.sl els .no) x from hr.nz1).move (by simpa[plain]using hok) rfl ho
    |some id=>
     have hbuf:(σ.big σ1 (some id)).buf id=σ1.buf 0:=by simp[Sg.big]
     have tk:∀{len:Nat}{a:Option Addr}{cap:Nat},c3n σ1 (.own 0) len a cap->c3n (σ.big σ1 (some id)) (.own id) len a cap:=by
      rintro len a cap ⟨e,h1,h2⟩;exact⟨e,by rw[hbuf];exact h1,h2⟩
     simp only[d47];cases hr with
     |sl0 _ ht=>exact .sl0 _ (tk ht)
     |slx _ a cap ht hc=>exact .slx _ a cap (tk ht) (hc.elim (fun h=>by cases h) .inr)
     |sl _ _ b o cap size xs hs hcap ht hz hc hr=>
      refine .sl _ _ b o cap size xs hs hcap (tk ht) (fun j e hj he=>?_) (fun i el hi j av hj=>?_) fun i el hi j av hj=>?_
      ·cases hj;rw[hbuf]at he;exact hz 0 e rfl he
      ·obtain⟨g1,g2,g3⟩:=hc i el hi j av hj;exact⟨g1,fun h=>g2 (ho _ _ h),g3⟩
      ·exact(hr i el hi j av hj).move (U9 (a5s hok i el hi) j av hj) rfl ho
 |ptr k off=>
  cases k with
  |succ k=>simp[ok1,plain]at hok
  |zero=>cases hr with
   |ptr _ _ b h=>rw[h1]at h;cases h;exact .ptr n off b0 hn
 |row k off size len cap=>
  cases k with
  |succ k=>simp[ok1,plain]at hok
  |zero=>cases hr with
   |row _ _ _ _ _ b cap' h hc hm hx=>rw[h1]at h;cases h;exact .row n off size len cap b0 cap' hn hc hm hx
 |_=>have h:=pl hr (by simpa[ok1]using hok);exact h
def b6h(P:Program)(gl:List (Nat × List AV))(f:FuncId)(args c:List AV)(bf:List (Nat × Nat))(r:AV)(c':List AV)(bf':List (Nat × Nat)):Prop:=
 c37 P f args ⟨[some c],bf,gl⟩ fun av h=>nz av=r/\h=⟨[some c'],bf',gl⟩
theorem f3b{f:AV->AV}(hf:∀a,(f a).isIt=a.isIt):∀{l:List AV},a8n l=true->a8n (l.map f)=true
 |[],h=>h
 |a::_,h=>by simpa[a8n,hf]using h
theorem g3c(n:Nat)(β:Option Nat)(a:AV):(d47 n β a).isIt=a.isIt:=by
 cases a with
 |sl els tok=>cases tok<;>simp only[d47]<;>(try split)<;>rfl
 |_=>rfl
theorem e8o{h:A7}{σ:Sg}(hi:Inv h σ){n b0:Nat}{β:Option Nat}{cb c:List AV}{bf:List (Nat × Nat)}(hn:h.blks[n]? =some (some cb))(hb0:σ.blk n=some b0)(hit:a8n cb=true)(hc:cb.map (a2c n β)=c)(hok:c.all ok1=true)
  (hbf:(β=none/\bf=[])\/∃id x,β=some id/\bf=[x]/\h.bufs[id]? =some x) (hgl:X1 h.globs=true):Inv ⟨[some c],bf,h.globs⟩ (σ.small b0 β):=by
 have hblk:∀{k b:Nat},(σ.small b0 β).blk k=some b->k=0/\b=b0:=by
  intro k b hk;simp only[Sg.small,Sg.mine]at hk;split at hk
  ·rename_i h0;cases hk;exact⟨h0,rfl⟩
  ·cases hk
 have hbuf:∀{j:Nat}{e:Buf},(σ.small b0 β).buf j=some e->j=0/\∃id,β=some id/\σ.buf id=some e:=by
  intro j e he;simp only[Sg.small,Sg.mine]at he;split at he
  ·rename_i h0;obtain⟨id,h1,h2⟩:=Option.bind_eq_some_iff.1 he;exact⟨h0,id,h1,h2⟩
  ·cases he
 have hopen:∀b o,σ.open_ b o->b<σ.w.heap.size:=by
  rintro b o (ho|⟨n,hn⟩|⟨id,e,he,hs⟩)
  ·exact(hi.outer b o ho).1
  ·exact hi.lt hn
  ·obtain⟨v,hv⟩:=Option.isSome_iff_exists.1 (hi.bufat id e b o he hs).1;exact a4h hv
 refine⟨fun k cells hk=>?_,fun k b hk=>?_,fun k m b c1 c2 hk hm _ _ _ _=>?_,fun j x hj=>?_,fun j e he=>?_,fun j e he=>?_,fun j e b o he hs=>?_,fun i j e f b o he hf _ _=>?_,fun j e k b o he hs hk=>?_,fun b o ho=>?_,fun g cells hg=>?_⟩
 ·cases k with
  |succ k=>simp at hk
  |zero=>
   simp only[List.getElem?_cons_zero,Option.some.injEq]at hk;subst hk;refine⟨b0,rfl,?_⟩;obtain⟨b',h1,h2⟩:=hi.blk n cb hn;rw[hb0]at h1;cases h1;obtain⟨cs,rest,elem,g1,g2⟩:=h2.plain hit;refine .cells _ cs rest elem g1 ⟨by rw[g2.1,<-hc];simp,fun i av hav=>?_⟩;have hok1:=List.all_eq_true.1 hok av (List.mem_of_getElem? hav);rw[<-hc]at hav;simp only[List.getElem?_map,Option.map_eq_some_iff]at hav;obtain⟨a,ha,rfl⟩:=hav;obtain⟨k1,x,k2,k3⟩:=g2.2 i a ha;exact⟨by rw[c51 n β a hok1];exact k1,x,k2,b3d hb0 k3 hok1⟩
 ·obtain⟨rfl,_⟩:=hblk hk;exact⟨c,rfl⟩
 ·have h1:=(List.getElem?_eq_some_iff.1 hk).1;have h2:=(List.getElem?_eq_some_iff.1 hm).1;simp at h1 h2;omega
 ·rcases hbf with⟨_,rfl⟩|⟨id,y,rfl,rfl,hy⟩
  ·simp at hj
  ·cases j with
   |succ j=>simp at hj
   |zero=>
    simp at hj;subst hj;obtain⟨e,h1,h2⟩:=hi.buf id y hy;exact⟨e,by simp[Sg.small,Sg.mine,h1],h2⟩
 ·obtain⟨rfl,id,hβ,h1⟩:=hbuf he;rcases hbf with⟨h0,_⟩|⟨id',y,h0,rfl,hy⟩
  ·rw[h0]at hβ;cases hβ
  ·rw[h0]at hβ;cases hβ;have:=hi.bufdom id e h1;rw[hy]at this;simpa using this
 ·obtain⟨_,id,hβ,h1⟩:=hbuf he;exact hi.bufle id e h1
 ·obtain⟨_,id,hβ,h1⟩:=hbuf he;exact hi.bufat id e b o h1 hs
 ·exact(hbuf he).1.trans (hbuf hf).1.symm
 ·obtain⟨_,id,hβ,h1⟩:=hbuf he;obtain⟨_,rfl⟩:=hblk hk;exact hi.bufblk id e n _ o h1 hs hb0
 ·exact⟨hopen b o ho.1,fun h=>ho.2 h⟩
 ·exact(hi.glob g cells hg).move (by simp only[plain];exact List.all_eq_true.1 hgl _ hg) rfl fun b o h=>(d4b hb0).1 h
theorem f0k{P:Program}{f:FuncId}{args args' c cb c':List AV}{bf bf' bs:List (Nat × Nat)}{r:AV}{h:A7}{n:Nat}{β:Option Nat}{K:AV->A7->Prop}(hf:b6h P h.globs f args c bf r c' bf')(hgl:X1 h.globs=true)
  (hn:h.blks[n]? =some (some cb)) (hit:a8n cb=true) (hc:cb.map (a2c n β)=c) (hok:c.all ok1=true) (hit':a8n c'=true) (hok':c'.all ok1=true) (hargs:args'.map (smol n β)=args) (hoka:args.all okA=true) (hr:plain r=true)
  (hbf:(β=none/\bf=[]/\bf'=[]/\bs=h.bufs)\/∃x x',β=some 0/\bf=[x]/\bf'=[x']/\h.bufs=[x]/\bs=[x']) (hk:K r ⟨h.blks.set n (some (c'.map (d47 n β))),bs,h.globs⟩):c37 P f args' h K:=by
 refine⟨hf.1,fun σ cargs hi hrel=>?_⟩;obtain⟨b0,hb0,hat⟩:=hi.blk n cb hn
 have hinv:=e8o hi hn hb0 hit hc hok (bf:=bf) (by
  rcases hbf with⟨h1,h2,_⟩|⟨x,x',h1,h2,_,h4,_⟩
  ·exact .inl ⟨h1,h2⟩
  ·exact .inr ⟨0,x,h1,h2,by rw[h4];rfl⟩) hgl
 have hrels:d2m (σ.small b0 β) args cargs.toList:=by
  refine⟨by rw[hrel.1,<-hargs];simp,fun i av hav=>?_⟩;have hoka1:=List.all_eq_true.1 hoka av (List.mem_of_getElem? hav);rw[<-hargs]at hav;simp only[List.getElem?_map,Option.map_eq_some_iff]at hav;obtain⟨a,ha,rfl⟩:=hav;obtain⟨x,h1,h2⟩:=hrel.2 i a ha;exact⟨x,h1,e5r hb0 h2 hoka1⟩
 refine(hf.2 (σ.small b0 β) cargs hinv hrels).mono fun e w' hq=>?_
 obtain⟨σ1,h1,av,x,rfl,rfl,hle,hi1,hrx,hav,rfl⟩:=hq;have hb1:σ1.blk 0=some b0:=hle.blk 0 b0 rfl;have hsub:∀b o,(σ.small b0 β).own b o->σ.own b o:=fun b o h=>d8w hb0 h
 -- the growing row,of both
 have hbuf1:∀{id:Nat}{e:Buf},(σ.big σ1 β).buf id=some e->(β=some id/\σ1.buf 0=some e)\/(β≠some id/\σ.buf id=some e):=by
  intro id e he;simp only[Sg.big]at he;split at he
  ·rename_i h0;exact .inl ⟨h0,he⟩
  ·rename_i h0;exact .inr ⟨h0,he⟩
 have hbufs:∀id e,β≠some id->σ.buf id=some e->β=none:=by
  intro id e h0 he;rcases hbf with⟨h1,_⟩|⟨x,x',h1,_,_,h4,_⟩
  ·exact h1
  ·have:=hi.bufdom id e he;rw[h4]at this;have hlt:=(List.getElem?_eq_some_iff.1 this).1;simp at hlt;subst hlt;exact(h0 h1).elim
 have hown:∀b o,b<σ.w.heap.size->(σ.big σ1 β).own b o->σ.own b o:=by
  rintro b o hb (⟨k,hk⟩|⟨id,e,he,hs⟩)
  ·exact .inl ⟨k,hk⟩
  ·rcases hbuf1 he with⟨_,h2⟩|⟨_,h2⟩
   ·exact hsub b o (hle.own b o hb (.inr ⟨0,e,h2,hs⟩))
   ·exact .inr ⟨id,e,h2,hs⟩
 have hsize:=hle.size
 have hopen:∀b o,(σ.big σ1 β).open_ b o->σ1.open_ b o:=by
  have side:∀b o,σ.open_ b o->¬(σ.small b0 β).own b o->σ1.open_ b o:=fun b o h1 h2=>.inl (by rw[hle.outer];exact⟨h1,h2⟩)
  rintro b o (ho|⟨k,hk⟩|⟨id,e,he,hs⟩)
  ·exact side b o (.inl ho) fun h=>(hi.outer b o ho).2 (hsub b o h)
  ·rcases Classical.em (b=b0) with rfl|hne
   ·exact .inr (.inl ⟨0,hb1⟩)
   ·refine side b o (.inr (.inl ⟨k,hk⟩)) fun h=>?_
    rcases b91.1 (b50.1 h) with h|⟨id,e,_,he,hs⟩
    ·exact hne h
    ·exact hi.bufblk id e k b o he hs hk
  ·rcases hbuf1 he with⟨_,h2⟩|⟨h1,h2⟩
   ·exact .inr (.inr ⟨0,e,h2,hs⟩)
   ·refine side b o (.inr (.inr ⟨id,e,h2,hs⟩)) fun h=>?_
    rcases b91.1 (b50.1 h) with rfl|⟨id',e',h1',he',hs'⟩
    ·exact hi.bufblk id e n _ o h2 hs hb0
    ·have:=hi.bufinj id id' e e' b o h2 he' hs hs';subst this;exact h1 h1'
 have hLe:Le σ (σ.big σ1 β):=by
  refine⟨fun k b hk=>hk,fun id e he=>?_,rfl,fun b o hb ho=>hle.cell b o hb fun h=>ho (hsub b o h),hle.ext,fun b hb ho=>hle.whole b hb fun o h=>ho o (hsub b o h),hown,hsize,hle.os,hle.tape,hle.output⟩;simp only[Sg.big];split
  ·rename_i h0;exact hle.buf 0 e (by simp[Sg.small,Sg.mine,h0,he])
  ·exact⟨e,he,Nat.le_refl _,rfl,fun _=>rfl⟩
 have hcb:cb≠[]:=b5l hit;have hnlt:n<h.blks.length:=(List.getElem?_eq_some_iff.1 hn).1
 have hnew:b04 (σ.big σ1 β) b0 (c'.map (d47 n β)):=by
  obtain⟨b',g1,g2⟩:=hi1.blk 0 c' rfl;rw[hb1]at g1;cases g1;obtain⟨cs,rest,elem,g3,g4⟩:=g2.plain hit';refine .cells _ cs rest elem g3 ⟨by rw[g4.1];simp,fun i a hi=>?_⟩;simp only[List.getElem?_map,Option.map_eq_some_iff]at hi;obtain⟨a',ha,rfl⟩:=hi;obtain⟨k1,y,k2,k3⟩:=g4.2 i a' ha;exact⟨by rw[f2p];exact k1,y,k2,g2j hb0 hb1 hopen k3 (List.all_eq_true.1 hok' a' (List.mem_of_getElem? ha))⟩
 have hitn:a8n (c'.map (d47 n β))=true:=f3b (g3c n β) hit'
 -- a box of the new heap,in the old one
 have hold:∀{k:Nat}{cells:List AV},(h.blks.set n (some (c'.map (d47 n β))))[k]? =some (some cells)->(k=n/\cells=c'.map (d47 n β))\/(k≠n/\h.blks[k]? =some (some cells)):=by
  intro k cells hk;rcases Classical.em (n=k) with h0|h0
  ·subst h0;rw[List.getElem?_set_self hnlt]at hk;simp only[Option.some.injEq]at hk;exact .inl ⟨rfl,hk.symm⟩
  ·rw[List.getElem?_set_ne h0]at hk;exact .inr ⟨fun h=>h0 h.symm,hk⟩
 have hinv':Inv ⟨h.blks.set n (some (c'.map (d47 n β))),bs,h.globs⟩ (σ.big σ1 β):=by
  refine⟨fun k cells hk=>?_,fun k b hk=>?_,fun k m b c1 c2 hk hm hc1 hc2 hbk hbm=>?_,fun id y hy=>?_,fun id e he=>?_,fun id e he=>?_,fun id e b o he hs=>?_,fun i j e f b o he hf hs hs'=>?_,fun id e k b o he hs hk=>?_,fun b o ho=>?_,fun g cells hg=>?_⟩
  ·rcases hold hk with⟨rfl,rfl⟩|⟨hne,hk'⟩
   ·exact⟨b0,hb0,hnew⟩
   ·obtain⟨b,g1,g2⟩:=hi.blk k cells hk';refine⟨b,g1,?_⟩;rcases Classical.em (b=b0) with rfl|hb
    ·rcases Classical.em (cells=[]) with rfl|hce
     ·exact hnew.nil hitn
     ·exact(hne (hi.inj k n _ cells cb hk' hn hce hcb g1 hb0)).elim
    ·refine g2.keep hLe (hle.whole b (hi.lt g1) fun o h=>?_);rcases b91.1 (b50.1 h) with h|⟨id,e,_,he,hs⟩
     ·exact hb h
     ·exact hi.bufblk id e k b o he hs g1
  ·obtain⟨cc,g1⟩:=hi.dom k b hk;show ∃c,(h.blks.set n _)[k]? =some (some c)
   rcases Classical.em (n=k) with h0|h0
   ·subst h0;rw[List.getElem?_set_self hnlt];exact⟨_,rfl⟩
   ·rw[List.getElem?_set_ne h0];exact⟨cc,g1⟩
  ·rcases hold hk with⟨rfl,rfl⟩|⟨hne,hk'⟩<;>rcases hold hm with⟨rfl,rfl⟩|⟨hne2,hm'⟩
   ·rfl
   ·exact hi.inj _ _ b cb c2 hn hm' hcb hc2 hbk hbm
   ·exact hi.inj _ _ b c1 cb hk' hn hc1 hcb hbk hbm
   ·exact hi.inj _ _ b c1 c2 hk' hm' hc1 hc2 hbk hbm
  ·rcases hbf with⟨h1,h2,h3,rfl⟩|⟨z,z',h1,h2,h3,h4,rfl⟩
   ·obtain⟨e,g1,g2⟩:=hi.buf id y hy;exact⟨e,by simp only[Sg.big];rw[if_neg (by rw[h1];exact fun h=>by cases h)];exact g1,g2⟩
   ·cases id with
    |succ id=>simp at hy
    |zero=>
     simp at hy;subst hy;obtain⟨e,g1,g2⟩:=hi1.buf 0 z' (by rw[h3];rfl);exact⟨e,by simp only[Sg.big];rw[if_pos h1];exact g1,g2⟩
  ·rcases hbuf1 he with⟨g1,g2⟩|⟨g1,g2⟩
   ·have:=hi1.bufdom 0 e g2;rcases hbf with⟨h1,_⟩|⟨z,z',h1,h2,h3,h4,rfl⟩
    ·rw[h1]at g1;cases g1
    ·rw[h1]at g1;cases g1;subst h3;exact this
   ·have hb:=hbufs id e g1 g2;rcases hbf with⟨h1,h2,h3,rfl⟩|⟨z,z',h1,_⟩
    ·exact hi.bufdom id e g2
    ·rw[h1]at hb;cases hb
  ·rcases hbuf1 he with⟨g1,g2⟩|⟨g1,g2⟩
   ·exact hi1.bufle 0 e g2
   ·exact hi.bufle id e g2
  ·rcases hbuf1 he with⟨g1,g2⟩|⟨g1,g2⟩
   ·exact hi1.bufat 0 e b o g2 hs
   ·obtain⟨g3,g4⟩:=hi.bufat id e b o g2 hs;have hbn:=hbufs id e g1 g2;obtain⟨v,hv⟩:=Option.isSome_iff_exists.1 g3
    have hw:=hle.whole b (a4h hv) fun o' h=>by
     rcases b91.1 (b50.1 h) with rfl|⟨id',e',h1',_⟩
     ·exact hi.bufblk id e n _ o g2 hs hb0
     ·rw[hbn]at h1';cases h1'
    refine⟨hle.ext b o g3,?_⟩;have hw':σ1.w.heap[b]? =σ.w.heap[b]? :=hw;show σ1.w.frozen? ⟨b,o,none⟩=false;unfold World.frozen? at g4 ⊢;simp only at g4 ⊢;rw[hw'];exact g4
  ·rcases hbuf1 he with⟨g1,g2⟩|⟨g1,g2⟩<;>rcases hbuf1 hf with⟨k1,k2⟩|⟨k1,k2⟩
   ·rw[g1]at k1;cases k1;rfl
   ·have:=hbufs j f k1 k2;rw[this]at g1;cases g1
   ·have:=hbufs i e g1 g2;rw[this]at k1;cases k1
   ·exact hi.bufinj i j e f b o g2 k2 hs hs'
  ·have hk':σ.blk k=some b:=hk;rcases hbuf1 he with⟨g1,g2⟩|⟨g1,g2⟩
   ·rcases Classical.em (b=b0) with rfl|hne
    ·exact hi1.bufblk 0 e 0 _ o g2 hs hb1
    ·rcases b91.1 (b50.1 (hle.own b o (hi.lt hk') (.inr ⟨0,e,g2,hs⟩))) with h|⟨id',e',_,he',hs'⟩
     ·exact hne h
     ·exact hi.bufblk id' e' k b o he' hs' hk'
   ·exact hi.bufblk id e k b o g2 hs hk'
  ·have hb:=(hi.outer b o ho).1;exact⟨Nat.lt_of_lt_of_le hb hsize,fun h=>(hi.outer b o ho).2 (hown b o hb h)⟩
  ·exact(hi.glob g cells hg).mono hLe
 refine⟨σ.big σ1 β,_,nz av,x,rfl,rfl,hLe,hinv',?_,by rw[hav];exact hk⟩;exact hrx.nz.move (by rw[hav];exact hr) rfl hopen
theorem Inv.reset{h:A7}{σ:Sg}(i1:Inv h σ){k:Nat}{c c':List AV}(hk:h.blks[k]? =some (some c))(hne:c≠[])(hat:∀b,b04 σ b c->b04 σ b c'):Inv ⟨h.blks.set k (some c'),h.bufs,h.globs⟩ σ:=by
 have hkl:k<h.blks.length:=(List.getElem?_eq_some_iff.1 hk).1
 have hold:∀{j:Nat}{x:List AV},(h.blks.set k (some c'))[j]? =some (some x)->(j=k/\x=c')\/(j≠k/\h.blks[j]? =some (some x)):=by
  intro j x hj;rcases Classical.em (k=j) with h0|h0
  ·subst h0;rw[List.getElem?_set_self hkl]at hj;simp only[Option.some.injEq]at hj;exact .inl ⟨rfl,hj.symm⟩
  ·rw[List.getElem?_set_ne h0]at hj;exact .inr ⟨fun h=>h0 h.symm,hj⟩
 refine⟨fun n x hn=>?_,fun n b' hn=>?_,fun n m b' x y hn hm hx hy h1 h2=>?_,i1.buf,i1.bufdom,i1.bufle,i1.bufat,i1.bufinj,i1.bufblk,i1.outer,i1.glob⟩
 ·rcases hold hn with⟨rfl,rfl⟩|⟨_,hn'⟩
  ·obtain⟨b,h1,h2⟩:=i1.blk _ c hk;exact⟨b,h1,hat b h2⟩
  ·exact i1.blk n x hn'
 ·obtain⟨x,hx⟩:=i1.dom n b' hn;show ∃y,(h.blks.set k _)[n]? =some (some y)
  rcases Classical.em (k=n) with h0|h0
  ·subst h0;rw[List.getElem?_set_self hkl];exact⟨_,rfl⟩
  ·rw[List.getElem?_set_ne h0];exact⟨x,hx⟩
 ·rcases hold hn with⟨rfl,rfl⟩|⟨_,hn'⟩<;>rcases hold hm with⟨rfl,rfl⟩|⟨_,hm'⟩
  ·rfl
  ·exact i1.inj _ _ b' c y hk hm' hne hy h1 h2
  ·exact i1.inj _ _ b' x c hn' hk hx hne h1 h2
  ·exact i1.inj _ _ b' x y hn' hm' hx hy h1 h2
theorem g0y{σ:Sg}{a:AV}{x:Value}(hr:Rel σ a x)(hok:ok1 (a2c 0 (some 0) a)=true):Rel σ (a2c 0 (some 0) a) x:=by
 cases a with
 |nil=>exact hr.nz1
 |sl els tok=>
  cases tok with
  |no=>exact hr.nz1
  |full=>exact hr.nz1
  |own id=>
   simp only[a2c];split
   ·rename_i hb;cases hb;exact hr
   ·exact hr.nz1
 |ptr k off=>
  simp only[a2c]at hok ⊢;split at hok
  ·rename_i hk;subst hk;rw[if_pos rfl];exact hr
  ·simp[ok1,plain]at hok
 |row k off size len cap=>
  simp only[a2c]at hok ⊢;split at hok
  ·rename_i hk;subst hk;rw[if_pos rfl];exact hr
  ·simp[ok1,plain]at hok
 |_=>exact hr
theorem g1m{h:A7}{σ:Sg}(hi:Inv h σ){k:Nat}{c0 c':List AV}(hk:h.blks[0]? =some (some c0))(hit:a8n c0=true)(hc:c0.map (a2c 0 (some 0))=c')(hok:c'.all ok1=true)(hlow:lowL [true] k c'=true)(hgl:X1 h.globs=true):Inv ⟨[some c'],h.bufs.take k,h.globs⟩ (σ.cut [true] k):=by
 have h1:=hi.reset hk (b5l hit) (c':=c') fun b hb=>by
  obtain⟨cs,rest,elem,g1,g2⟩:=hb.plain hit;refine .cells _ cs rest elem g1 ⟨by rw[g2.1,<-hc];simp,fun i av hav=>?_⟩;have hok1:=List.all_eq_true.1 hok av (List.mem_of_getElem? hav);rw[<-hc]at hav;simp only[List.getElem?_map,Option.map_eq_some_iff]at hav;obtain⟨a,ha,rfl⟩:=hav;obtain⟨k1,x,k2,k3⟩:=g2.2 i a ha;exact⟨by rw[c51 0 _ a hok1];exact k1,x,k2,g0y k3 hok1⟩
 have hkeep:a0e [true] (h.blks.set 0 (some c'))=[some c']:=by
  cases hb:h.blks with
  |nil=>rw[hb]at hk;cases hk
  |cons x l=>rfl
 have h2:=h1.cut [true] k (by rw[hkeep];simpa[a4l]using hlow) hgl;simp only[hkeep]at h2;exact h2
def qio(k:Nat)(rs:List c09)(r:AV)(c':List AV)(bf':List (Nat × Nat)):Exit->Env->A7->Prop
 |.normal,env,h=>d5g env h rs (fun l=>nz (d5i l)=r)/\plain r=true/\∃c0,h.blks[0]? =some (some c0)/\a8n c0=true/\c0.map (a2c 0 (some 0))=c'/\c'.all ok1=true/\lowL [true] k c'=true/\h.bufs.take k=bf'/\h.globs=[]
 |.ret,env,h=>d5g env h rs (fun l=>nz (d5i l)=r)/\plain r=true/\∃c0,h.blks[0]? =some (some c0)/\a8n c0=true/\c0.map (a2c 0 (some 0))=c'/\c'.all ok1=true/\lowL [true] k c'=true/\h.bufs.take k=bf'/\h.globs=[]
 |_,_,_=>False
theorem f43{env:Env}{h:A7}{p:Prop}(hp:p):∀{rs:List c09}{K:List AV->Prop},d5g env h rs K->d5g env h rs fun l=>K l/\p:=by
 intro rs
 induction rs with
 |nil=>intro K hk;exact⟨hk,hp⟩
 |cons x r ih=>
  intro K hk;cases x with
  |tmp t=>
   obtain⟨a,h1,h2⟩:=b7v hk;show wv (get env t) _;rw[h1];exact ih h2
  |cell t n=>
   obtain⟨p,h1,h2⟩:=b7v hk;show wv (get env t) _;rw[h1];simp only[wv,b8c]at h2 ⊢;split at h2
   ·split at h2
    ·split at h2
     ·exact ih h2
     ·exact h2.elim
    ·exact⟨h2.1,ih h2.2⟩
   ·exact h2.elim
theorem h7o{P:Program}{N:Nat}{f:FuncId}{ac:W2}{rs:List c09}(hf:b4o P f=some (N,ac,rs)){args c:List AV}{bf:List (Nat × Nat)}{r:AV}{c':List AV}{bf':List (Nat × Nat)}{e₀:Env}(k:Nat)(hk:bf.length=k)(hn:args.length<=N)(he:c17 0 args=e₀)
  (hbody:D P N 1 k ac (qio k rs r c' bf') e₀ ⟨[some c],bf,[]⟩):b6h P [] f args c bf r c' bf':=by
 subst he hk;refine⟨c2l hf,fun σ cargs hi hr=>?_⟩;have hlow:Low σ 1 bf.length:=hi.low (Nat.le_refl _) (Nat.le_refl _)
 have hb:d9j P N ac (e3g rs fun av h=>nz av=r/\plain r=true/\∃c0,h.blks[0]? =some (some c0)/\a8n c0=true/\c0.map (a2c 0 (some 0))=c'/\c'.all ok1=true/\lowL [true] bf.length c'=true/\h.bufs.take bf.length=bf'/\h.globs=[]) (c17 0 args) ⟨[some c],bf,[]⟩:=by
  refine c4o (c4q (Nat.le_refl _) (Nat.le_refl _) hbody) fun e env h hq=>?_
  cases e<;>first|exact hq.elim|exact f43 hq.2 hq.1
 refine(d59 hf hn hb σ cargs hi hr).mono fun e w' hq=>?_
 obtain⟨σ',h',av,x,rfl,rfl,g2,g3,g4,g5,g6,c0,g7,g8,g9,g10,g11,g12,g13⟩:=hq;refine⟨σ'.cut [true] bf.length,⟨[some c'],bf',[]⟩,nz av,x,rfl,rfl,g2.cut hlow (fun k hk=>?_) (Nat.le_refl _),?_,?_,by rw[g4w];exact g5,rfl⟩
 ·cases k with
  |zero=>rfl
  |succ k=>omega
 ·have:=g1m g3 (k:=bf.length) g7 g8 g9 g10 g11 (by rw[g13];rfl);rw[g12,g13]at this;exact this
 ·exact g4.nz.move (by rw[g5];exact g6) rfl fun b o h=>d5e h
theorem rio{rs:List c09}{k:Nat}{R:Type}{f:R->AV}{fc:R->List AV}{fb:R->List (Nat × Nat)}{r r0:R}{env:Env}{h:A7}(hw:r=r0)(hp:plain (f r0)=true/\(fc r0).all ok1=true/\lowL [true] k (fc r0)=true)(c0:List AV)(he:(c8u env h rs).map (fun l=>nz (d5i l))=some (f r0):=by kernel_rfl)(hb:h.blks[0]? =some (some c0):=by kernel_rfl)(hit:a8n c0=true:=by kernel_rfl)(hc:c0.map (a2c 0 (some 0))=fc r0:=by kernel_rfl)(hf:h.bufs.take k=fb r0:=by kernel_rfl)(hg:h.globs=[]:=by kernel_rfl):qio k rs (f r) (fc r) (fb r) .ret env h:=by
 subst hw;obtain⟨l,h1,h2⟩:=Option.map_eq_some_iff.1 he;exact⟨c0a h1 h2,hp.1,c0,hb,hit,hc,hp.2.1,hp.2.2,hf,hg⟩
theorem h4c{k:Nat}{rs:List c09}{r:AV}{c':List AV}{bf':List (Nat × Nat)}:c78 fun e h=>qio k rs r c' bf' .normal e h:=fun e env h he hx=>⟨b8s he hx.1,hx.2⟩
theorem h1g{P:Program}{g:FuncId}{env:Env}{args:List L5}{h:A7}{small c c':List AV}{bf bf' bs:List (Nat × Nat)}{r:AV}(n:Nat)(β:Option Nat)(args' cb cn:List AV)(hf:b6h P h.globs g small c bf r c' bf')(hp:c.all ok1=true/\c'.all ok1=true/\small.all okA=true/\plain r=true)
  (hbf:(β=none/\bf=[]/\bf'=[]/\bs=h.bufs)\/∃x x',β=some 0/\bf=[x]/\bf'=[x']/\h.bufs=[x]/\bs=[x'])
  (ha:evs env args=some args':=by kernel_rfl) (hn:h.blks[n]? =some (some cb):=by kernel_rfl) (hit:a8n cb=true:=by kernel_rfl) (hit':a8n c'=true:=by kernel_rfl) (hc:cb.map (a2c n β)=c:=by kernel_rfl) (hargs:args'.map (smol n β)=small:=by kernel_rfl) (hcn:c'.map (d47 n β)=cn:=by kernel_rfl) (hgl:X1 h.globs=true:=by kernel_rfl):
  a22 P (.call (.c (.clo (.func g) [] [])) args) env h r ⟨h.blks.set n (some cn),bs,h.globs⟩:=by
 subst hcn;exact fun K hk=>(d67 rfl ha (f0k hf hgl hn hit hc hp.1 hit' hp.2.1 hargs hp.2.2.1 hp.2.2.2 hbf hk)).out
theorem C4{a:AV}(h:plain a=true):okA a=true:=by
 have one:∀{a:AV},plain a=true->ok1 a=true:=by
  intro a h;cases a with
  |sl els tok=>cases tok with
   |own id=>simp[plain]at h
   |_=>exact h
  |ptr k off=>cases h
  |row k off size len cap=>cases h
  |_=>exact h
 cases a with
 |agg cs=>
  simp only[plain]at h
  exact List.all_eq_true.2 fun x hx=>by
   obtain⟨i,hi⟩:=List.mem_iff_getElem?.1 hx;exact one (U9 h i x hi)
 |sl els tok=>exact one h
 |ptr k off=>cases h
 |row k off size len cap=>cases h
 |v x=>exact one h
 |elt c o=>exact one h
 |nil=>exact one h
 |tuple vs=>exact one h
 |iface t x=>exact one h
 |clo f a b=>exact one h
 |glob n=>exact one h
 |it s p=>exact one h
theorem F9{a:AV}{l:List AV}(h1:okA a=true)(h2:l.all okA=true):(a::l).all okA=true:=by simp only[List.all_cons,h1,h2];rfl
theorem g7k{P:Program}{f:FuncId}{args:List AV}{h:A7}{K:AV->A7->Prop}{k j:Nat}{cells:List AV}(size:Nat)(hk:h.blks[k]? =some (some cells))(hj:cells[j]? =some .nil)
  (hc:c37 P f args ⟨h.blks.set k (some (cells.set j (.sl [] (.own h.bufs.length)))),h.bufs++[(0,size)],h.globs⟩ K):c37 P f args h K:=by
 refine⟨hc.1,fun σ cargs hi hr=>?_⟩;obtain⟨σ1,w1,l1,s1⟩:=f17 (env:=[]) (N:=0) size hk hj (a:={tmps:=#[],defers:=[]}) ⟨hi,fun t av hg=>(by cases hg),rfl,rfl⟩;have:=hc.2 σ1 cargs s1.inv ⟨hr.1,fun i av hi=>let ⟨x,g1,g2⟩:=hr.2 i av hi;⟨x,g1,g2.mono l1⟩⟩;rw[w1]at this;refine this.mono fun e w' hq=>?_
 obtain⟨σ',h',av,x,g1,g2,g3,g4⟩:=hq;exact⟨σ',h',av,x,g1,g2,l1.trans g3,g4⟩
theorem h1c{P:Program}{g:FuncId}{env:Env}{args:List L5}{h:A7}{small c c':List AV}{bf bf':List (Nat × Nat)}{x':Nat × Nat}{r:AV}(n j size:Nat)(args' cb cn:List AV)(hf:b6h P h.globs g small c bf r c' bf')(hp:c.all ok1=true/\c'.all ok1=true/\small.all okA=true/\plain r=true)
  (hbf:bf=[(0,size)]/\bf'=[x'])
  (ha:evs env args=some args':=by kernel_rfl) (hn:h.blks[n]? =some (some cb):=by kernel_rfl) (hj:cb[j]? =some .nil:=by kernel_rfl) (hb:h.bufs=[]:=by kernel_rfl) (hit:a8n (cb.set j (.sl [] (.own 0)))=true:=by kernel_rfl) (hit':a8n c'=true:=by kernel_rfl) (hc:(cb.set j (.sl [] (.own 0))).map (a2c n (some 0))=c:=by kernel_rfl) (hargs:args'.map (smol n (some 0))=small:=by kernel_rfl) (hcn:c'.map (d47 n (some 0))=cn:=by kernel_rfl) (hgl:X1 h.globs=true:=by kernel_rfl):
  a22 P (.call (.c (.clo (.func g) [] [])) args) env h r ⟨h.blks.set n (some cn),[x'],h.globs⟩:=by
 subst hcn;have hnl:n<h.blks.length:=(List.getElem?_eq_some_iff.1 hn).1;intro K hk;refine(d67 rfl ha (g7k size hn hj ?_)).out;have:=f0k (h:=⟨h.blks.set n (some (cb.set j (.sl [] (.own 0)))),[(0,size)],h.globs⟩) (n:=n) (β:=some 0) (bs:=[x']) (K:=K) hf hgl (List.getElem?_set_self hnl) hit hc hp.1 hit' hp.2.1 hargs hp.2.2.1 hp.2.2.2 (.inr ⟨_,_,rfl,hbf.1,hbf.2,rfl,rfl⟩) (by rw[List.set_set];exact hk);rw[hb];exact this
section
variable {P:Program}{h h':A7}{env e:Env}{N kf:Nat}{Q:Exit->Env->A7->Prop}{x:W2}
theorem g45{m:List Bool}(hm:m.getD 0 false=true):∀k,k<1->m.getD k false=true:=fun k hk=>by
 cases k with
 |zero=>exact hm
 |succ k=>omega
end
theorem d27{a b:List AV}:plainL (a++b)=(plainL a&&plainL b):=by
 induction a with
 |nil=>rfl
 |cons x r ih=>simp only[List.cons_append,plainL,ih,Bool.and_assoc]
def cellsOf{α:Type}(e:α->List AV)(l:List α):List AV:=(l.map e).flatten
section
variable {α:Type}{e:α->List AV}{sz:Nat}
theorem b94(hs:∀y,(e y).length=sz){l:List α}:∀r∈l.map e,r.length=sz:=by
 intro r hr;obtain⟨y,_,rfl⟩:=List.mem_map.1 hr;exact hs y
theorem d9g(hs:∀y,(e y).length=sz){l:List α}{i k:Nat}{y:α}(hy:l[i]? =some y)(hk:k<sz):(cellsOf e l)[i*sz+k]? =(e y)[k]? :=by
 rw[cellsOf,b45 _ (b94 hs) i k hk,List.getElem?_map,hy];rfl
theorem c2w(hs:∀y,(e y).length=sz):∀(l:List α),(cellsOf e l).length=l.length*sz
 |[]=>by simp[cellsOf]
 |y::l=>by
  have:=c2w hs l;simp only[cellsOf,List.map_cons,List.flatten_cons,List.length_append,List.length_cons,Nat.add_mul]at this ⊢;rw[hs,this];omega
theorem a6m(hn:∀y,a8n (e y)=true):∀{l:List α},l≠[]->a8n (cellsOf e l)=true
 |[],h=>(h rfl).elim
 |y::l,_=>by
  have:=hn y;cases hy:e y with
  |nil=>rw[hy]at this;cases this
  |cons a r=>rw[hy]at this;simp only[cellsOf,List.map_cons,List.flatten_cons,hy,List.cons_append,a8n]at this ⊢;exact this
theorem C2(e:α->List AV){l:List α}(h:plainLL (l.map e)=true):plainL (cellsOf e l)=true:=by
 unfold cellsOf;revert h;generalize l.map e=x;intro h
 induction x with
 |nil=>rfl
 |cons a r ih=>simp only[plainLL,Bool.and_eq_true]at h;rw[List.flatten_cons,d27,h.1,ih h.2];rfl
theorem f0b{l:List α}{i:Nat}{y:α}(hy:l[i]? =some y):l≠[]:=by rintro rfl;simp at hy
theorem c7g(hs:∀y,(e y).length=sz):∀{l:List α}{i:Nat}{y:α},l[i]? =some y->((cellsOf e l).drop (i*sz)).take sz=e y
 |[],i,y,h=>by simp at h
 |z::l,0,y,h=>by
  simp at h;subst h;simp only[cellsOf,List.map_cons,List.flatten_cons,Nat.zero_mul,List.drop_zero];rw[List.take_append_of_le_length (by rw[hs];exact Nat.le_refl _),List.take_of_length_le (by rw[hs];exact Nat.le_refl _)]
 |z::l,i+1,y,h=>by
  have:=c7g hs (l:=l) (i:=i) (y:=y) (by simpa using h);simp only[cellsOf,List.map_cons,List.flatten_cons]at this ⊢
  have h2:(e z++(List.map e l).flatten).drop ((i+1)*sz)=((List.map e l).flatten).drop (i*sz):=by
   have h3:=hs z;rw[List.drop_append,h3,List.drop_of_length_le (by rw[h3,Nat.add_mul];omega),List.nil_append]
   congr 1
   rw[Nat.add_mul];omega
  rw[h2];exact this
theorem d1e(hs:∀y,(e y).length=sz):∀{l:List α}{i:Nat}{z:α},i<l.length->splice (cellsOf e l) (i*sz) (e z)=cellsOf e (l.set i z)
 |[],i,z,h=>by simp at h
 |y::l,0,z,h=>by
  simp only[splice,cellsOf,List.map_cons,List.flatten_cons,Nat.zero_mul,List.take_zero,List.nil_append,Nat.zero_add,List.set_cons_zero];rw[hs,List.drop_append_of_le_length (by rw[hs];exact Nat.le_refl _),List.drop_of_length_le (by rw[hs];exact Nat.le_refl _),List.nil_append]
 |y::l,i+1,z,h=>by
  have:=d1e hs (l:=l) (i:=i) (z:=z) (by simpa using h);simp only[splice,cellsOf,List.map_cons,List.flatten_cons,List.set_cons_succ]at this ⊢;rw[<-this,Nat.add_mul,Nat.one_mul,Nat.add_comm (i*sz) sz]
  have h1:(e y++(List.map e l).flatten).take (sz+i*sz)=e y++((List.map e l).flatten).take (i*sz):=by
   have:=hs y;rw[List.take_append,this,List.take_of_length_le (by omega)];congr 2;omega
  have h2:(e y++(List.map e l).flatten).drop (sz+i*sz+(e z).length)=((List.map e l).flatten).drop (i*sz+(e z).length):=by
   have:=hs y;rw[List.drop_append,this,List.drop_of_length_le (by omega),List.nil_append];congr 1;omega
  rw[h1,h2];simp[List.append_assoc]
theorem e43(z:α)(hs:(e z).length=sz)(n:Nat):a5h sz n (e z)=cellsOf e (List.replicate n z):=by
 have hl:(a5h sz n (e z)).length=n*sz:=by simp[a5h]
 have hl2:(cellsOf e (List.replicate n z)).length=n*sz:=by
  simp only[cellsOf,List.map_replicate,List.length_flatten,List.map_replicate,List.sum_replicate_nat,hs]
 refine List.ext_getElem? fun i=>?_
 rcases Nat.lt_or_ge i (n*sz) with hi|hi
 ·have h0:0<sz:=by
   rcases Nat.eq_zero_or_pos sz with h|h
   ·subst h;simp at hi
   ·exact h
  have hm:i % sz<sz:=Nat.mod_lt _ h0;have hd:i / sz<n:=(Nat.div_lt_iff_lt_mul h0).2 hi
  have e1:(a5h sz n (e z))[i]? =some ((e z).getD (i % sz) .nil):=by
   simp[a5h,List.getElem?_range,hi]
  have e2:(cellsOf e (List.replicate n z))[i]? =(e z)[i % sz]? :=by
   have hh:=b45 (List.map e (List.replicate n z)) (size:=sz) (by
    intro r hr;simp only[List.map_replicate,List.mem_replicate]at hr;rw[hr.2,hs]) (i / sz) (i % sz) hm
   rw[Nat.mul_comm,Nat.div_add_mod]at hh;rw[cellsOf,hh];simp[List.getElem?_replicate,hd]
  rw[e1,e2,List.getD_eq_getElem?_getD];rw[List.getElem?_eq_getElem (by rw[hs];exact hm)];rfl
 ·rw[List.getElem?_eq_none (by omega),List.getElem?_eq_none (by omega)]
end
section
variable {P:Program}{h h':A7}{env:Env}{α:Type}{e:α->List AV}{sz:Nat}
theorem g8j{x y:L5}{bytes:Nat}{zero:List AV}(e:α->List AV)(z:α)(L C:Int)(h0:0<=L/\L<=C/\C*bytes<=140737488355328)(hx:c42 (x.ev env)=some L:=by kernel_rfl)(hy:c42 (y.ev env)=some C:=by kernel_rfl)(hz:zero=e z:=by kernel_rfl)(hs:(e z).length=sz:=by kernel_rfl):a22 P (.make sz bytes zero x y) env h (.row h.blks.length 0 sz L.toNat C.toNat) ⟨h.blks++[some (cellsOf e (List.replicate C.toNat z))],h.bufs,h.globs⟩:=by
 obtain⟨k1,hx⟩:=b2g hx;obtain⟨k2,hy⟩:=b2g hy;subst hz;intro K hk;simp only[aop,hx,hy,wv,g6b];rw[e43 z hs];exact⟨h0,hk⟩
theorem g6y{x i:L5}(r len cap:Nat){n:Int}(h0:0<=n/\n<(len:Int))(hx:x.ev env=some (.row r 0 sz len cap):=by kernel_rfl)(hi:c42 (i.ev env)=some n:=by kernel_rfl):a22 P (.idxSl sz x i) env h (.ptr r (0+n.toNat*sz)) h:=by
 obtain⟨k,hi⟩:=b2g hi;intro K hk;simp only[aop,hx,hi,wv,c5s];exact⟨h0,trivial,hk⟩
theorem d7d{r off:Nat}{l:List α}(hn:∀y,a8n (e y)=true)(hb:h.blks[r]? =some (some (cellsOf e l)))(hl:l≠[]):a76 h (.ptr r off)=some (cellsOf e l,off):=by
 simp only[a76,hb,a6m hn hl,if_true]
theorem g50{x:L5}{r off i k:Nat}{l:List α}{y:α}{av:AV}(hs:∀y,(e y).length=sz)(hn:∀y,a8n (e y)=true)(hy:l[i]? =some y)(hk:k<sz)(hav:(e y)[k]? =some av)(hoff:off=i*sz+k)(hx:x.ev env=some (.ptr r off):=by kernel_rfl)(hb:h.blks[r]? =some (some (cellsOf e l)):=by kernel_rfl):a22 P (.load none x) env h av h:=by
 intro K hK;simp only[aop,hx,wv,b8c,d7d hn hb (f0b hy)];rw[hoff,d9g hs hy hk,hav];exact hK
theorem g6h{x:L5}{r off i:Nat}{l:List α}{y:α}{cs:List AV}(hs:∀y,(e y).length=sz)(hn:∀y,a8n (e y)=true)(hy:l[i]? =some y)(hcs:e y=cs)(hoff:off=i*sz)(hx:x.ev env=some (.ptr r off):=by kernel_rfl)(hb:h.blks[r]? =some (some (cellsOf e l)):=by kernel_rfl):a22 P (.load (some sz) x) env h (.agg cs) h:=by
 intro K hK;subst hcs;simp only[aop,hx,wv,b8c,d7d hn hb (f0b hy)];rw[hoff,c7g hs hy];refine⟨?_,hK⟩;rw[c2w hs,<-Nat.succ_mul];exact Nat.mul_le_mul_right sz (List.getElem?_eq_some_iff.1 hy).1
theorem g93{p x:L5}{r off i:Nat}{l:List α}{av:AV}(z:α)(hs:∀y,(e y).length=sz)(hn:∀y,a8n (e y)=true)(hi:i<l.length)(hav:e z=av.cells)(hoff:off=i*sz)(hp:p.ev env=some (.ptr r off):=by kernel_rfl)(hx:x.ev env=some av:=by kernel_rfl)(ht:av.isTuple=false:=by kernel_rfl)(hb:h.blks[r]? =some (some (cellsOf e l)):=by kernel_rfl):a22 P (.store sz p x) env h (.tuple []) ⟨h.blks.set r (some (cellsOf e (l.set i z))),h.bufs,h.globs⟩:=by
 intro K hK;have hne:l≠[]:=by rintro rfl;simp at hi
 simp only[aop,hp,hx,wv,d3v,hb,a6m hn hne];rw[<-d1e hs hi,hav,<-hoff]at hK;refine⟨⟨trivial,by rw[<-hav];exact hs z,?_,ht⟩,hK⟩;rw[hoff,c2w hs,<-Nat.succ_mul];exact Nat.mul_le_mul_right sz hi
end
section
variable {P:Program}{h:A7}{env:Env}{K:Env->A7->Prop}{L:List E8}{k:Nat}
end
def rfz(n:Nat)(els:List (List AV)):AV->AV
 |.row k off size len cap=>if k=n then .sl els .no else .row k off size len cap
 |a=>a
def f8i(n:Nat)(els:List (List AV)):Env->Env
 |[]=>[]
 |(t,a)::e=>(t,rfz n els a)::f8i n els e
theorem d5p{n:Nat}{els:List (List AV)}:∀{e:Env}{t:Nat}{b:AV},get (f8i n els e) t=some b->∃a,get e t=some a/\b=rfz n els a
 |[],_,_,h=>by cases h
 |(u,a)::e,t,b,h=>by
  simp only[f8i,get]at h ⊢;split at h
  ·rename_i hu;rw[if_pos hu];cases h;exact⟨a,rfl,rfl⟩
  ·rename_i hu;rw[if_neg hu];exact d5p h
def b87(n:Nat):Env->List (Nat × Nat × Nat)
 |[]=>[]
 |(_,.row k off size len _)::e=>if k=n then(off,size,len)::b87 n e else b87 n e
 |_::e=>b87 n e
theorem c5b{n:Nat}:∀{e:Env}{t off size len cap:Nat},get e t=some (.row n off size len cap)->(off,size,len)∈b87 n e
 |[],_,_,_,_,_,h=>by cases h
 |(u,a)::e,t,off,size,len,cap,h=>by
  simp only[get]at h;split at h
  ·cases h;simp[b87]
  ·have:=c5b h;unfold b87;split
   ·rename_i heq;cases heq
   ·rename_i heq;cases heq;split
    ·exact List.mem_cons_of_mem _ this
    ·exact this
   ·rename_i heq;cases heq;exact this
theorem e6e{P:Program}{h:A7}{env:Env}{N kb kf:Nat}{Q:Exit->Env->A7->Prop}{x:W2}(n:Nat)(m:List Bool)(k:Nat)(cells:List AV)(els:List (List AV))(sz len c:Nat)(hb:h.blks[n]? =some (some cells))(hce:els.flatten=cells)(hsz:∀el∈els,el.length=sz)(hlen:els.length=len)(hpos:0<sz)(hit:els≠[]->a8n cells=true)(hrow:b87 n env=List.replicate c (0,sz,len))(hmn:m.getD n false=false)(hal:c67 m h.blks=true)(hm:∀k,k<kb->m.getD k false=true)(hn:kf<=k)
  {e:Env}(hE:f8i n els env=e) (he:a7y m k e=true) (hB:a4l m k (a0e m h.blks)=true) (hg:X1 h.globs=true) (hx:D P N kb kf x Q e ⟨a0e m h.blks,h.bufs.take k,h.globs⟩):D P N kb kf x Q env h:=⟨by
 subst hE;intro co hc σ0 σ a hs hle hl;refine hx.out co hc σ0 (σ.cut m k) a ⟨hs.inv.cut m k hB hg,fun t av ht=>?_,hs.size,hs.defers⟩ (hle.cut hl hm hn) hl;have hlow:=c30 he ht;obtain⟨a0,h1,rfl⟩:=d5p ht;obtain⟨y,h2,h3⟩:=hs.env t a0 h1;refine⟨y,h2,?_⟩;cases a0 with
 |row j off size len' cap=>
  simp only[rfz]at hlow ⊢;split at hlow
  ·rename_i hj;subst hj;rw[if_pos rfl];have hrr:=c5b h1;rw[hrow]at hrr;obtain⟨rfl,rfl,rfl⟩:off=0/\size=sz/\len'=len:=by simpa using (List.mem_replicate.1 hrr).2
   cases h3 with
   |row _ _ _ _ _ b cap' hblk hcap _ _=>
   obtain⟨b',h4,h5⟩:=hs.inv.blk j cells hb;rw[hblk]at h4;cases h4;subst hlen;rcases Classical.em (els=[]) with h0|h0
   ·subst h0;exact .slx _ ⟨b,0,none⟩ cap' trivial (.inl rfl)
   have hni:=hit h0;obtain⟨cs,rest,elem,h6,h7⟩:=h5.plain hni;have hlc:lowLL m k els=true:=by simpa[low]using hlow
   have key:∀(i:Nat) (el:List AV),els[i]? =some el->∀(q:Nat) (av:AV),el[q]? =some av->∃xv,σ.w.cell? ⟨b,0+i*size+q,none⟩=some xv/\Rel σ av xv/\av.isCell=true:=by
    intro i el hi q av hq;have hql:q<size:=by rw[<-hsz el (List.mem_of_getElem? hi)];exact(List.getElem?_eq_some_iff.1 hq).1
    have hf:=b45 els hsz i q hql;rw[hi,Option.bind_some,hq,hce]at hf;obtain⟨q1,xv,q2,q3⟩:=h7.2 _ av hf;refine⟨xv,?_,q3,q1⟩;have hlt:=(List.getElem?_eq_some_iff.1 q2).1;rw[Nat.zero_add];simp[World.cell?,h6,List.getElem?_append_left hlt,q2]
   have hne:cells≠[]:=b5l hni;refine Rel.sl (σ:=σ.cut m k) els .no b 0 cap' size (fun i q=>(σ.w.cell? ⟨b,0+i*size+q,none⟩).getD undef) (fun i el hi=>hsz el (List.mem_of_getElem? hi)) hcap trivial (fun id e hid=>by cases hid) (fun i el hi q av hq=>?_) fun i el hi q av hq=>?_
   ·obtain⟨xv,q1,q2,q3⟩:=key i el hi q av hq;refine⟨by show σ.w.cell? _=_;rw[q1];rfl,?_,q3⟩;rintro (ho|⟨j',hj'⟩|⟨id,eb,he1,he2⟩)
    ·exact(hs.inv.outer _ _ ho).2 (.inl ⟨j,hblk⟩)
    ·simp only[Sg.cut]at hj';split at hj'
     ·rename_i hmj;obtain⟨c',hc'⟩:=hs.inv.dom j' b hj';have:=hs.inv.inj j' j b c' cells hc' hb (c31 hal hmj hc') hne hj' hblk;subst this;rw[hmn]at hmj;cases hmj
     ·cases hj'
    ·simp only[Sg.cut]at he1;split at he1
     ·exact hs.inv.bufblk id eb j b _ he1 he2 hblk
     ·cases he1
   ·obtain⟨xv,q1,q2,q3⟩:=key i el hi q av hq;rw[q1];exact q2.cut (a5d (c3f hlc i el hi) q av hq)
  ·rename_i hj;rw[if_neg hj];exact h3.cut hlow
 |_=>exact h3.cut hlow⟩
theorem drf{P:Program}{h:A7}{env:Env}{N kb kf:Nat}{Q:Exit->Env->A7->Prop}{x:W2}{α:Type}{f:α->List AV}{sz:Nat}(n:Nat)(m:List Bool)(k c:Nat)(l:List α)(len:Nat)(e:Env)(bs:List (Option (List AV)))(hs:∀y,(f y).length=sz)(hni:∀y,a8n (f y)=true)(hlen:l.length=len)(hw:a7y m k e=true/\a4l m k bs=true)(hx:D P N kb kf x Q e ⟨bs,h.bufs.take k,h.globs⟩)(hb:h.blks[n]? =some (some (cellsOf f l)):=by kernel_rfl)(hpos:Nat.ble 1 sz=true:=by kernel_rfl)(hrow:b87 n env=List.replicate c (0,sz,len):=by kernel_rfl)(hmn:m.getD n false=false:=by kernel_rfl)(hal:c67 m h.blks=true:=by kernel_rfl)(hm:∀k,k<kb->m.getD k false=true:=by intro k hk;first|exact absurd hk (Nat.not_lt_zero _)|exact g45 rfl k hk)(hkf:Nat.ble kf k=true:=by kernel_rfl)(hE:f8i n (List.map f l) env=e:=by kernel_rfl)(hbs:a0e m h.blks=bs:=by kernel_rfl)(hg:X1 h.globs=true:=by kernel_rfl):D P N kb kf x Q env h:=by
 subst hbs;exact e6e n m k _ (List.map f l) sz len c hb rfl (b94 hs) (by rw[List.length_map];exact hlen) (Nat.le_of_ble_eq_true hpos) (fun h0=>a6m hni (fun h=>h0 (by rw[h];rfl))) hrow hmn hal hm (Nat.le_of_ble_eq_true hkf) hE hw.1 hw.2 hg hx
def f2v(ord:List (List Nat))(al:List E8)(n:Nat):Bool:=
 (List.range n).all fun i=>match al[i]? with
  |some o=>a68 o.op&& !d12 o&&(d7r o.op||(ord.getD n []).contains i)
  |none=>false
theorem d8s{ord:List (List Nat)}{al:List E8}{n i:Nat}{o:E8}(h:f2v ord al n=true)(hi:i<n)(ho:al[i]? =some o):a68 o.op=true/\d12 o=false/\(d7r o.op=true\/i∈ord.getD n []):=by
 simp only[f2v,List.all_eq_true,List.mem_range]at h;have:=h i hi;rw[ho]at this;simpa[Bool.and_eq_true,Bool.or_eq_true,and_assoc]using this
theorem f42{a b:List E8}(h:okq (a++b)=true):okq a=true:=by
 induction a with
 |nil=>rfl
 |cons o a ih=>
  simp only[List.cons_append,okq,Bool.and_eq_true,List.all_eq_true]at h ⊢
  have sub:∀t,R0 t (o::a)=true->R0 t (o::(a++b))=true:=by
   intro t ht;simp only[R0,List.any_cons,List.any_append,Bool.or_eq_true]at ht ⊢;rcases ht with h1|h1
   ·exact .inl h1
   ·exact .inr (.inl h1)
  have sub2:∀t,R0 t a=true->R0 t (a++b)=true:=by
   intro t ht;simp only[R0,List.any_append,Bool.or_eq_true]at ht ⊢;exact .inl ht
  refine⟨⟨fun t ht=>?_,?_⟩,ih h.2⟩
  ·have:=h.1.1 t ht;cases hw:R0 t (o::a) with
   |true=>rw[sub t hw]at this;exact this
   |false=>rfl
  ·cases hd:o.dst with
   |none=>rfl
   |some d=>
    have h2:=h.1.2;rw[hd]at h2;simp only at h2 ⊢;cases hw:R0 d a with
    |true=>rw[sub2 d hw]at h2;exact h2
    |false=>rfl
theorem f6o(h:A7)(lst:Nat->Bool):hA h [] lst=h:=by simp[hA]
theorem g1z{P:Program}{I:A7->Prop}{ord:List (List Nat)}{al:List E8}{w:E8}{n:Nat}{env:Env}{h:A7}{K:Env->A7->Prop}(hn:al.length=n+1)(hw:al[n]? =some w)(hg:w.guard=none)(hd:w.dst=none)(hok:okq al=true)(hst:f2v ord al n=true)(hI:I h)
  (hv:vs P I false (al.take n) env h fun F h0=>∃av h',a22 P w.op F h0 av h'/\K F h'):∃F h' fl,f0a P ord al env F h h' [] [h,h'] fl/\K F h':=by
 have hal:al=al.take n++[w]:=by
  have h1:=List.take_append_drop n al
  have h2:al.drop n=[w]:=by
   have:n<al.length:=by omega
   rw[List.drop_eq_getElem_cons this];have h3:=List.getElem?_eq_getElem this;rw[hw]at h3;cases h3;rw[List.drop_eq_nil_of_le (by omega)]
  rw[h2]at h1;exact h1.symm
 have hlen:(al.take n).length=n:=by simp;omega
 obtain⟨F,az,hs,fl,h0,ps,⟨av,h',hdoes,hk⟩,hnil⟩:=c6w (i0:=0) (j:=0) (f42 (b:=[w]) (by rw[<-hal];exact hok)) hv;have has:az=[]:=hnil rfl;subst has;have hget:∀i,i<n->∃o,al[i]? =some o/\(al.take n)[i]? =some o:=fun i hi=>⟨al[i],List.getElem?_eq_getElem (by omega),by rw[List.getElem?_take,if_pos hi];exact List.getElem?_eq_getElem (by omega)⟩
 have hflen:fl.length=n:=by rw[ps.len,hlen]
 have hnone:∀i,i<n->fl[i]? =some none:=by
  intro i hi;have e:fl[i]? =some fl[i]:=List.getElem?_eq_getElem (by omega);cases hf:fl[i]with
  |none=>rw[e,hf]
  |some m=>
   rw[hf]at e;obtain⟨o,h1,h2⟩:=hget i hi;have h3:=(ps.chg i m o e h2).1;have h4:=(d8s hst hi h1).1;rw[h3]at h4;cases h4
 obtain⟨m,hm1,hm2⟩:=ps.last
 have hone:m=0:=by
  rcases Nat.eq_zero_or_pos m with h1|h1
  ·exact h1
  ·obtain⟨i,hi⟩:=ps.onto 0 (Nat.zero_le _) (by omega);have hlt:i<n:=by rw[<-hflen];exact(List.getElem?_eq_some_iff.1 hi).1
   rw[hnone i hlt]at hi;cases hi
 subst hone;have hf0:=ps.first;rw[hm2]at hf0
 have h00:h0=h:=by
  have:=Option.some.inj hf0;rw[this];simp
 subst h00;refine⟨F,h',fl++[some 0],?_,hk⟩
 have hfl:∀i x,(fl++[some 0])[i]? =some x->(i<n/\x=none)\/(i=n/\x=some 0):=by
  intro i x hx;rcases Nat.lt_trichotomy i n with h1|h1|h1
  ·rw[List.getElem?_append_left (by omega),hnone i h1]at hx;cases hx;exact .inl ⟨h1,rfl⟩
  ·subst h1;rw[List.getElem?_append_right (by omega),hflen,Nat.sub_self]at hx;cases hx;exact .inr ⟨rfl,rfl⟩
  ·rw[List.getElem?_eq_none (by simp;omega)]at hx;cases hx
 have hlast:(fl++[some 0])[n]? =some (some 0):=by rw[List.getElem?_append_right (by omega),hflen,Nat.sub_self];rfl
 refine⟨by simp[hflen,hn],fun i k a b hik hi hk=>?_,fun j hj=>?_,?_,⟨1,rfl,rfl⟩,fun i x hi=>?_,fun t ht=>?_,fun q p hq=>(by simp at hq),fun q r p s hq=>(by simp at hq),fun k x hk p hp=>(by cases hp),fun i o x hi hx=>?_⟩
 ·rcases hfl i _ hi with⟨_,h1⟩|⟨h1,_⟩
  ·cases h1
  ·rcases hfl k _ hk with⟨_,h2⟩|⟨h2,_⟩
   ·cases h2
   ·omega
 ·obtain rfl:j=0:=by
   have:j+1<2:=hj;omega
  exact⟨n,hlast⟩
 ·rw[f6o];rfl
 ·rcases hfl i _ hi with⟨_,h1⟩|⟨_,h1⟩
  ·cases h1
  ·cases h1;simp
 ·refine ps.keep t ?_;rw[hal]at ht;simp only[R0,List.any_append,Bool.or_eq_false_iff]at ht ⊢;exact ht.1
 ·right;rcases hfl i _ hx with⟨h1,rfl⟩|⟨rfl,rfl⟩
  ·obtain⟨o',e1,e2⟩:=hget i h1;rw[hi]at e1;cases e1;obtain⟨hq,hnew,hp⟩:=d8s hst h1 hi;rcases ps.fact i o none e2 (hnone i h1) with⟨q,p,e3,_⟩|hf
   ·simp at e3
   have conv:e6y P I F hs 0 o none->e6b P F h0 [] [h0,h'] ord (fl++[some 0]) i o none:=by
    rintro⟨a,hqa,hfd⟩;rcases hp with hp|hp
    ·exact⟨a,0,1,by simp,fun j lst hj _ _ _=>d83 hp (hqa h0 hI),fun k x _ hx=>by omega,.inl (by simp),hfd⟩
    ·refine⟨a,0,0,by simp,fun j lst hj h3 h4 h5=>?_,fun k x _ hx=>by omega,.inr ⟨n,hlast,hp⟩,hfd⟩;have:j=0:=by omega
     subst this;have h6:hA h0 [] lst=hj:=Option.some.inj h5;rw[f6o]at h6;rw[<-h6];exact hqa h0 hI
   unfold e6l;unfold e7h at hf;cases hgd:o.guard with
   |none=>rw[hgd]at hf;exact conv hf
   |some g=>
    obtain⟨t,want⟩:=g;rw[hgd]at hf;rcases hf with⟨b,k1,k2,k3⟩|hf
    ·exact .inl ⟨b,k1,fun hb=>conv (k2 hb),k3⟩
    ·exact .inr hf
  ·rw[hw]at hi;cases hi;unfold e6l;rw[hg];simp only;exact⟨av,h0,h',rfl,rfl,hdoes _ ⟨rfl,rfl⟩,fun d hd'=>by rw[hd]at hd';cases hd'⟩
theorem dL{P:Program}{N kb kf:Nat}{Q:Exit->Env->A7->Prop}{env:Env}{h:A7}(n:Nat)(S:List (Nat × List AV)){ord:List (List Nat)}{al tl:List E8}{w:E8}(hw:al[n]? =some w)
  (hv:Sp P S h.globs false (al.take n) 0 env h fun F h0=>∃av h',a22 P w.op F h0 av h'/\Vp P tl 0 F h' fun env' h''=>Q .normal env' h'')
  (hn:al.length=n+1:=by kernel_rfl) (hg:w.guard=none:=by kernel_rfl) (hd:w.dst=none:=by kernel_rfl) (hok:okq al=true:=by kernel_rfl) (hst:f2v (clo ord) al n=true:=by kernel_rfl) (hS:inS S h=S.map (fun p=>some (some p.2)):=by kernel_rfl):D P N kb kf (.drawn ord al tl) Q env h:=by
 obtain⟨F,h',fl,hn',hk⟩:=g1z (I:=InS S h.globs) (K:=fun F h'=>vd P tl F h' fun env' h''=>Q .normal env' h'') hn hw hg hd hok hst (f1s hS rfl) hv;exact c7e ⟨d02 hn' (c6f hk)⟩
structure c47{α:Type}(e:α->List AV)(sz:Nat):Prop where
 hs:∀y,(e y).length=sz
 hn:∀y,a8n (e y)=true
 hp:∀y,plainL (e y)=true
 hz:∀y,(e y).map nz1=e y
section
variable {α:Type}{e:α->List AV}{sz:Nat}
theorem d4f:∀{l:List AV},plainL l=true->∀a∈l,plain a=true
 |[],_,a,h=>by cases h
 |b::l,hp,a,h=>by
  simp only[plainL,Bool.and_eq_true]at hp;rcases List.mem_cons.1 h with h|h
  ·rw[h];exact hp.1
  ·exact d4f hp.2 a h
theorem e4v{n:Nat}{β:Option Nat}{a:AV}(hp:plain a=true)(hz:nz1 a=a):a2c n β a=a:=by
 cases a with
 |nil=>simp[nz1]at hz
 |sl els tok=>cases tok<;>simp_all [nz1,a2c]
 |ptr _ _=>simp[plain]at hp
 |row _ _ _ _ _=>simp[plain]at hp
 |_=>rfl
theorem e9r{n:Nat}{β:Option Nat}{a:AV}(hp:plain a=true):d47 n β a=a:=by
 cases a with
 |sl els tok=>cases tok<;>first|rfl|simp_all [plain]
 |ptr _ _=>simp[plain]at hp
 |row _ _ _ _ _=>simp[plain]at hp
 |_=>rfl
theorem e9b{a:AV}(hp:plain a=true):ok1 a=true:=by
 cases a with
 |sl els tok=>cases tok<;>first|exact hp|simp_all [plain,ok1]
 |ptr _ _=>simp[plain]at hp
 |row _ _ _ _ _=>simp[plain]at hp
 |_=>exact hp
theorem c47.mem(he:c47 e sz){l:List α}{a:AV}(h:a∈cellsOf e l):plain a=true/\nz1 a=a:=by
 unfold cellsOf at h;obtain⟨c,hc,ha⟩:=List.mem_flatten.1 h;obtain⟨y,_,rfl⟩:=List.mem_map.1 hc;refine⟨d4f (he.hp y) a ha,?_⟩;obtain⟨i,hi⟩:=List.mem_iff_getElem?.1 ha;have:=congrArg (fun l=>l[i]?) (he.hz y);simpa[List.getElem?_map,hi]using this
theorem e2r{f:AV->AV}{l:List AV}(h:∀a∈l,f a=a):l.map f=l:=by
 induction l with
 |nil=>rfl
 |cons a l ih=>rw[List.map_cons,h a List.mem_cons_self,ih fun b hb=>h b (List.mem_cons_of_mem _ hb)]
theorem c47.smol(he:c47 e sz)(n:Nat)(β:Option Nat)(l:List α):(cellsOf e l).map (a2c n β)=cellsOf e l:=e2r fun a ha=>e4v (he.mem ha).1 (he.mem ha).2
theorem c47.big(he:c47 e sz)(n:Nat)(β:Option Nat)(l:List α):(cellsOf e l).map (d47 n β)=cellsOf e l:=e2r fun a ha=>e9r (he.mem ha).1
theorem c47.ok(he:c47 e sz)(l:List α):(cellsOf e l).all ok1=true:=List.all_eq_true.2 fun a ha=>e9b (he.mem ha).1
theorem d6f(m:List Bool)(n:Nat):∀{l:List AV},plainL l=true->lowL m n l=true:=fun h=>lowL_plain m n _ h
theorem e7n{l:List AV}(h:∀a∈l,plain a=true):plainL l=true:=by
 induction l with
 |nil=>rfl
 |cons a l ih=>simp only[plainL,Bool.and_eq_true];exact⟨h a List.mem_cons_self,ih fun b hb=>h b (List.mem_cons_of_mem _ hb)⟩
theorem c47.plain(he:c47 e sz)(l:List α):plainL (cellsOf e l)=true:=e7n fun a ha=>(he.mem ha).1
def c18(P:Program)(e:α->List AV)(sz:Nat)(f:FuncId)(len:Nat)(args:List AV)(l r:List α):Prop:=b6h P [] f (.row 0 0 sz len len::args) (cellsOf e l) [] (.tuple []) (cellsOf e r) []
theorem h7y{l r:List α}{env:Env}{h:A7}(he:c47 e sz)(hw:l≠[]/\r=l)(hb:h.blks[0]? =some (some (cellsOf e l)):=by kernel_rfl)(hf:h.bufs.take 0=[]:=by kernel_rfl)(hg:h.globs=[]:=by kernel_rfl):qio 0 [] (.tuple []) (cellsOf e r) [] .ret env h:=by
 obtain⟨h1,rfl⟩:=hw;exact rio (f:=fun _=>.tuple []) (fc:=fun r=>cellsOf e r) (fb:=fun _=>[]) (r:=r) rfl ⟨rfl,he.ok r,d6f _ _ (he.plain r)⟩ (cellsOf e r) rfl hb (a6m he.hn h1) (he.smol _ _ _) hf hg
theorem h1t{P:Program}{g:FuncId}{env:Env}{args:List L5}{h:A7}{len:Nat}{small:List AV}{l r:List α}(n:Nat)(args':List AV)(he:c47 e sz)(hf:c18 P e sz g len small l r)(h0:l≠[]/\r≠[])(hok:small.all okA=true)
  (ha:evs env args=some args':=by kernel_rfl) (hn:h.blks[n]? =some (some (cellsOf e l)):=by kernel_rfl) (hargs:args'.map (smol n none)=.row 0 0 sz len len::small:=by kernel_rfl) (hgl:h.globs=[]:=by kernel_rfl):
  a22 P (.call (.c (.clo (.func g) [] [])) args) env h (.tuple []) ⟨h.blks.set n (some (cellsOf e r)),h.bufs,h.globs⟩:=by
 have hf':b6h P h.globs g (.row 0 0 sz len len::small) (cellsOf e l) [] (.tuple []) (cellsOf e r) []:=by rw[hgl];exact hf
 exact h1g n none args' (cellsOf e l) (cellsOf e r) hf' ⟨he.ok l,he.ok r,F9 rfl hok,rfl⟩ (.inl ⟨rfl,rfl,rfl,rfl⟩) ha hn (a6m he.hn h0.1) (a6m he.hn h0.2) (he.smol _ _ _) hargs (he.big _ _ _) (by rw[hgl];rfl)
end
theorem g5k(c:Nat)(h:c<256):F1 .and .u8 (c:Int) 127=((c % 128:Nat):Int):=by
 have:∀c:Fin 256,F1 .and .u8 ((c.val:Nat):Int) 127=((c.val % 128:Nat):Int):=by decide+kernel
 exact this ⟨c,h⟩
theorem c2i(a b:Nat)(ha:a<18446744073709551616)(hb:b<18446744073709551616):F1 .or .u64 (a:Int) (b:Int)=((a|||b:Nat):Int):=by
 have h:=Nat.or_lt_two_pow (n:=64) (x:=a) (y:=b) (by simpa using ha) (by simpa using hb);have e1:((a:Int) % (2 ^ 64:Nat)).toNat=a:=by omega
 have e2:((b:Int) % (2 ^ 64:Nat)).toNat=b:=by omega
 have e3:F1 .or .u64 (a:Int) (b:Int)=IntKind.u64.wrap (((BitVec.ofInt 64 (a:Int)|||BitVec.ofInt 64 (b:Int)).toNat:Nat):Int):=rfl;rw[e3,BitVec.toNat_or,BitVec.toNat_ofInt,BitVec.toNat_ofInt,e1,e2];simp only[IntKind.wrap,IntKind.signed,IntKind.bits,Bool.false_and,Bool.false_eq_true,if_false];omega
theorem e2t(u x k:Nat)(hu:u<2 ^ k):u|||x*2 ^ k=u+x*2 ^ k:=by
 have:=Nat.two_pow_add_eq_or_of_lt (i:=k) (b:=u) hu x;rw[Nat.or_comm,Nat.add_comm,Nat.mul_comm];exact this.symm
theorem C7{n:Int}(h: -9223372036854775808<=n/\n<=9223372036854775807):IntKind.i64.wrap n=n:=by simp[IntKind.wrap,IntKind.signed,IntKind.bits];omega
def b4p(data:ByteArray)(at_ end_:Int):Bool:=decide (0<=at_/\at_<=end_/\end_<=(data.size:Int))
def a2b(data:ByteArray)(at_ end_:Int):Int:=if b4p data at_ end_=true then end_ - at_ else 0
theorem b6a{data:ByteArray}{at_ end_:Int}(h:0<a2b data at_ end_):0<=at_/\at_<end_/\end_<=(data.size:Int)/\a2b data at_ end_=end_ - at_:=by
 unfold a2b at h ⊢;split at h
 ·rename_i hs;rw[if_pos hs];simp only[b4p,decide_eq_true_eq]at hs;omega
 ·omega
def F6(s:ByteArray)(i:Nat):Nat:=(E9 s i).toNat
theorem a49(s:ByteArray)(i:Nat):E9 s i=(F6 s i:Int)/\F6 s i<256:=by
 have h:0<=E9 s i/\E9 s i<256:=by
  unfold E9;have:=(s.data.toList.getD i 0).toNat_lt;omega
 unfold F6;omega
def U5(s:ByteArray)(i u:Nat):Nat × Nat × Nat:=
 if 10<=i then(0,0,6) else if s.size<=i then(0,0,4) else if i=9/\1<F6 s i then(0,0,6) else if F6 s i<128 then(u+F6 s i*128 ^ i,i+1,0) else U5 s (i+1) (u+F6 s i % 128*128 ^ i)
 termination_by 10 - i
theorem b4j{n:Int}(h:0<=n/\n<=18446744073709551615):IntKind.u64.wrap n=n:=by simp[IntKind.wrap,IntKind.signed,IntKind.bits];omega
theorem f11{i:Nat}(h:i<=9):128 ^ i<=9223372036854775808/\1<=128 ^ i/\(i<=8->128 ^ (i+1)<=9223372036854775808):=by
 have:i=0\/i=1\/i=2\/i=3\/i=4\/i=5\/i=6\/i=7\/i=8\/i=9:=by omega
 rcases this with rfl|rfl|rfl|rfl|rfl|rfl|rfl|rfl|rfl|rfl<;>decide
theorem U0(s:ByteArray){l u i:Nat}(h:l+i<u):F6 (s.extract l u) i=F6 s (l+i):=by
 unfold F6 E9;rw[d43];simp only[List.getD_eq_getElem?_getD,List.getElem?_drop,List.getElem?_take,if_pos h]
theorem W4(s:ByteArray){l u:Nat}(h:u<=s.size):(s.extract l u).size=u - l:=by
 rw[ByteArray.size_extract];omega
theorem c83(s:ByteArray)(l:Nat):s.extract l l=⟨#[]⟩:=by
 rw[d43]
 congr 2
 apply List.drop_eq_nil_of_le;simp;omega
theorem d9e(s t:ByteArray)(h1:∀i,i<10->(s.size<=i↔t.size<=i))(h2:∀i,i<10->i<s.size->F6 s i=F6 t i)(n:Nat):∀i u,10 - i=n->U5 s i u=U5 t i u:=by
 induction n with
 |zero=>
  intro i u h;rw[U5.eq_def,U5.eq_def t,if_pos (show 10<=i by omega),if_pos (show 10<=i by omega)]
 |succ n ih=>
  intro i u h;have a1:=h1 i (by omega);rw[U5.eq_def,U5.eq_def t,if_neg (show ¬10<=i by omega),if_neg (show ¬10<=i by omega)]
  by_cases hs:s.size<=i
  ·rw[if_pos hs,if_pos (a1.1 hs)]
  ·have a2:=h2 i (by omega) (by omega);rw[if_neg hs,if_neg (fun h=>hs (a1.2 h)),a2];split
   ·rfl
   split
   ·rfl
   exact ih _ _ (by omega)
theorem c5u(s:ByteArray)(n:Nat):∀i u,10 - i=n->(U5 s i u).2.1<=s.size/\((U5 s i u).2.2≠0->(U5 s i u).1=0/\(U5 s i u).2.1=0)/\((U5 s i u).2.2=0->0<(U5 s i u).2.1):=by
 induction n with
 |zero=>
  intro i u h;rw[U5.eq_def,if_pos (by omega)];simp
 |succ n ih=>
  intro i u h;rw[U5.eq_def,if_neg (by omega)];split
  ·simp
  split
  ·simp
  split
  ·simp;omega
  exact ih _ _ (by omega)
def leS(s:ByteArray):Nat->Nat
 |0=>0
 |i+1=>leS s i+F6 s i*256 ^ i
theorem g5c{i:Nat}(h:i<=7):256 ^ i<=72057594037927936/\1<=256 ^ i/\256 ^ i=2 ^ (8*i):=by
 have:i=0\/i=1\/i=2\/i=3\/i=4\/i=5\/i=6\/i=7:=by omega
 rcases this with rfl|rfl|rfl|rfl|rfl|rfl|rfl|rfl<;>decide
theorem e8s(s:ByteArray):∀i,leS s i<256 ^ i
 |0=>by simp[leS]
 |i+1=>by
  have h1:=e8s s i;have h2:=(a49 s i).2;have h3:(F6 s i+1)*256 ^ i<=256*256 ^ i:=Nat.mul_le_mul_right _ (by omega);rw[Nat.add_mul]at h3;rw[Nat.pow_succ];simp only[leS];omega
theorem d0a(s t:ByteArray):∀n,(∀i,i<n->F6 s i=F6 t i)->leS s n=leS t n
 |0,_=>rfl
 |n+1,h=>by simp only[leS];rw[d0a s t n (fun i hi=>h i (by omega)),h n (by omega)]
def f7y(s:ByteArray):Nat × Nat:=if s.size<8 then(0,4) else(leS s 8,0)
theorem g1l(a:Nat):a&&&9218868437227405312=a % 9223372036854775808 / 4503599627370496*4503599627370496:=by
 apply Nat.eq_of_testBit_eq;intro i;have e:(9223372036854775808:Nat)=2 ^ 63:=by decide
 have e2:(4503599627370496:Nat)=2 ^ 52:=by decide
 have e3:(9218868437227405312:Nat)=(2^11 - 1)*2 ^ 52:=by decide
 rw[e3,e,e2,Nat.testBit_and,Nat.testBit_mul_two_pow,Nat.testBit_mul_two_pow,Nat.testBit_two_pow_sub_one,Nat.testBit_div_two_pow,Nat.testBit_mod_two_pow]
 by_cases h2:52<=i
 ·rw[show i - 52+52=i by omega]
  by_cases h3:i<63
  ·have:i - 52<11:=by omega
   simp[h2,h3,this]
  ·have:¬i - 52<11:=by omega
   simp[h3,this]
 ·simp[h2]
theorem b4y(a b:Nat)(ha:a<18446744073709551616)(hb:b<18446744073709551616):F1 .and .u64 (a:Int) (b:Int)=((a&&&b:Nat):Int):=by
 have h:a&&&b<=a:=Nat.and_le_left;have e1:((a:Int) % (2 ^ 64:Nat)).toNat=a:=by omega
 have e2:((b:Int) % (2 ^ 64:Nat)).toNat=b:=by omega
 have e3:F1 .and .u64 (a:Int) (b:Int)=IntKind.u64.wrap (((BitVec.ofInt 64 (a:Int)&&&BitVec.ofInt 64 (b:Int)).toNat:Nat):Int):=rfl;rw[e3,BitVec.toNat_and,BitVec.toNat_ofInt,BitVec.toNat_ofInt,e1,e2];simp only[IntKind.wrap,IntKind.signed,IntKind.bits,Bool.false_and,Bool.false_eq_true,if_false];omega
def f7x(z:Nat):Nat:=if 9218868437227405312<z % 9223372036854775808 then 0 else if z % 9223372036854775808=9218868437227405312 then 1 else if z % 9223372036854775808=0 then 2 else if z % 9223372036854775808<4503599627370496 then 3 else 4
theorem d6m(a:Nat)(h:a<18446744073709551616):F1 .xor .u64 (a:Int) 0=a:=by
 have e3:F1 .xor .u64 (a:Int) 0=IntKind.u64.wrap (((BitVec.ofInt 64 (a:Int) ^^^ 0#64).toNat:Nat):Int):=rfl;have e1:((a:Int) % (2 ^ 64:Nat)).toNat=a:=by omega
 rw[e3,BitVec.xor_zero,BitVec.toNat_ofInt,e1,b4j (by omega)]
theorem c7h(a:Nat)(h:a<18446744073709551616):F1 .xor .u64 (a:Int) 18446744073709551615=((18446744073709551615 - a:Nat):Int):=by
 have e3:F1 .xor .u64 (a:Int) 18446744073709551615=IntKind.u64.wrap (((BitVec.ofInt 64 (a:Int) ^^^ BitVec.allOnes 64).toNat:Nat):Int):=rfl;have e1:((a:Int) % (2 ^ 64:Nat)).toNat=a:=by omega
 rw[e3,BitVec.xor_allOnes,BitVec.toNat_not,BitVec.toNat_ofInt,e1,b4j (by omega)]
theorem d6j(a:Nat)(h:a<9223372036854775808):F1 .xor .i64 (a:Int) 0=a:=by
 have e3:F1 .xor .i64 (a:Int) 0=IntKind.i64.wrap (((BitVec.ofInt 64 (a:Int) ^^^ 0#64).toNat:Nat):Int):=rfl;have e1:((a:Int) % (2 ^ 64:Nat)).toNat=a:=by omega
 rw[e3,BitVec.xor_zero,BitVec.toNat_ofInt,e1,C7 (by omega)]
theorem d64(a:Nat)(h:a<9223372036854775808):F1 .xor .i64 (a:Int) (-1)= -(a:Int) - 1:=by
 have e3:F1 .xor .i64 (a:Int) (-1)=IntKind.i64.wrap (((BitVec.ofInt 64 (a:Int) ^^^ BitVec.allOnes 64).toNat:Nat):Int):=rfl;have e1:((a:Int) % (2 ^ 64:Nat)).toNat=a:=by omega
 rw[e3,BitVec.xor_allOnes,BitVec.toNat_not,BitVec.toNat_ofInt,e1];simp[IntKind.wrap,IntKind.signed,IntKind.bits];omega
abbrev hI(x y:Int):Int:=wI ((wU (wI (x+y))).fdiv (2 ^ min (1:Int).toNat IntKind.u64.bits))
structure d5k(α:Type)(C:α->α->Int->Prop) where
 swj:Int->Nat->Int->Int->Int->List α->List α->Prop
 sw:Nat->List α->Int->Int->Int->List α->Prop
 roj:Int->Int->Nat->Int->List α->List α->Prop
 ro:Nat->List α->Int->Int->Int->List α->Prop
 in6:Int->Int->Nat->Int->Int->List α->List α->Prop
 in4:Int->Nat->Int->Int->List α->List α->Prop
 ins:Nat->List α->Int->Int->List α->Prop
 sy6:Int->Int->Nat->List α->List α->Prop
 sy4:Int->Int->Nat->Int->List α->List α->Prop
 sy12:Int->Int->Nat->List α->List α->Prop
 sy10:Int->Int->Nat->Int->List α->List α->Prop
 sy42:Int->Int->Int->Int->Nat->List α->List α->Prop
 sy40:Int->Int->Int->Int->Nat->List α->List α->Prop
 sy36:Int->Int->Int->Int->Int->Nat->List α->List α->Prop
 sy28:Int->Int->Int->Int->Int->Nat->List α->List α->Prop
 sy:Nat->List α->Int->Int->Int->List α->Prop
 st14:Int->Int->Int->Nat->Int->List α->List α->Prop
 st12:Int->Nat->Int->List α->List α->Prop
 st8:Int->Int->Nat->Int->List α->List α->Prop
 st:Nat->List α->Int->List α->Prop
 so:Nat->List α->List α->Prop
 h_swj:∀i (n0:Nat) a b n l r,((decide (i<n))=true->(0<=(wI (b+i))/\(wI (b+i))<(n0:Int))/\(∃y3,l[(wI (b+i)).toNat]? =some y3/\((0<=(wI (a+i))/\(wI (a+i))<(n0:Int))/\(∃y4,l[(wI (a+i)).toNat]? =some y4/\((0<=(wI (a+i))/\(wI (a+i))<(n0:Int))/\((wI (a+i)).toNat<l.length/\((0<=(wI (b+i))/\(wI (b+i))<(n0:Int))/\((wI (b+i)).toNat<(l.set (wI (a+i)).toNat y3).length/\(swj (wI (i+1)) n0 a b n ((l.set (wI (a+i)).toNat y3).set (wI (b+i)).toNat y4) r)))))))))/\((decide (i<n))=false->l≠[]/\r=l)->swj i n0 a b n l r
 h_sw:∀(n0:Nat) data a b n r,swj 0 n0 a b n data r->sw n0 data a b n r
 h_roj:∀j i (n0:Nat) m l r,((i !=j)=true->((decide (j<i))=true->∃y5,sw n0 l (wI (m - i)) m j y5/\(l≠[]/\y5≠[])/\(roj j (wI (i - j)) n0 m y5 r))/\((decide (j<i))=false->∃y6,sw n0 l (wI (m - i)) (wI ((wI (m+j)) - i)) i y6/\(l≠[]/\y6≠[])/\(roj (wI (j - i)) i n0 m y6 r)))/\((i !=j)=false->∃y4,sw n0 l (wI (m - i)) m i y4/\(l≠[]/\y4≠[])/\(y4≠[]/\r=y4))->roj j i n0 m l r
 h_ro:∀(n0:Nat) data a m b r,roj (wI (b - m)) (wI (m - a)) n0 m data r->ro n0 data a m b r
 h_in6:∀j i (n0:Nat) a b l r,(∃R8:Bool->Prop,(∀z:Bool,R8 z->((z=true->(0<=(wI (j - 1))/\(wI (j - 1))<(n0:Int))/\(∃y19,l[(wI (j - 1)).toNat]? =some y19/\((0<=j/\j<(n0:Int))/\(∃y20,l[j.toNat]? =some y20/\((0<=j/\j<(n0:Int))/\(j.toNat<l.length/\((0<=(wI (j - 1))/\(wI (j - 1))<(n0:Int))/\((wI (j - 1)).toNat<(l.set j.toNat y19).length/\(in6 (wI (j - 1)) i n0 a b ((l.set j.toNat y19).set (wI (j - 1)).toNat y20) r)))))))))/\(z=false->in4 (wI (i+1)) n0 a b l r)))/\(((decide (a<j))=true->(0<=j/\j<(n0:Int))/\(∃y16,l[j.toNat]? =some y16/\((0<=(wI (j - 1))/\(wI (j - 1))<(n0:Int))/\(∃y17,l[(wI (j - 1)).toNat]? =some y17/\(∃y18,C y16 y17 y18/\(R8 (decide (y18<0))))))))/\((decide (a<j))=false->R8 false)))->in6 j i n0 a b l r
 h_in4:∀i (n0:Nat) a b l r,((decide (i<b))=true->in6 i i n0 a b l r)/\((decide (i<b))=false->l≠[]/\r=l)->in4 i n0 a b l r
 h_ins:∀(n0:Nat) data a b r,in4 (wI (a+1)) n0 a b data r->ins n0 data a b r
 h_sy6:∀k i (n0:Nat) l r,((decide (k<(wI (i - 1))))=true->(0<=(wI (k+1))/\(wI (k+1))<(n0:Int))/\(∃y10,l[(wI (k+1)).toNat]? =some y10/\((0<=k/\k<(n0:Int))/\(∃y11,l[k.toNat]? =some y11/\((0<=k/\k<(n0:Int))/\(k.toNat<l.length/\((0<=(wI (k+1))/\(wI (k+1))<(n0:Int))/\((wI (k+1)).toNat<(l.set k.toNat y10).length/\(sy6 (wI (k+1)) i n0 ((l.set k.toNat y10).set (wI (k+1)).toNat y11) r)))))))))/\((decide (k<(wI (i - 1))))=false->l≠[]/\r=l)->sy6 k i n0 l r
 h_sy4:∀j i (n0:Nat) a data r,((decide (i<j))=true->(0<=(hI i j)/\(hI i j)<(n0:Int))/\(∃y12,data[(hI i j).toNat]? =some y12/\((0<=a/\a<(n0:Int))/\(∃y13,data[a.toNat]? =some y13/\(∃y14,C y12 y13 y14/\(((decide (y14<0))=true->sy4 j (wI ((hI i j)+1)) n0 a data r)/\((decide (y14<0))=false->sy4 (hI i j) i n0 a data r)))))))/\((decide (i<j))=false->sy6 a i n0 data r)->sy4 j i n0 a data r
 h_sy12:∀k i (n0:Nat) l r,((decide (i<k))=true->(0<=(wI (k - 1))/\(wI (k - 1))<(n0:Int))/\(∃y24,l[(wI (k - 1)).toNat]? =some y24/\((0<=k/\k<(n0:Int))/\(∃y25,l[k.toNat]? =some y25/\((0<=k/\k<(n0:Int))/\(k.toNat<l.length/\((0<=(wI (k - 1))/\(wI (k - 1))<(n0:Int))/\((wI (k - 1)).toNat<(l.set k.toNat y24).length/\(sy12 (wI (k - 1)) i n0 ((l.set k.toNat y24).set (wI (k - 1)).toNat y25) r)))))))))/\((decide (i<k))=false->l≠[]/\r=l)->sy12 k i n0 l r
 h_sy10:∀j i (n0:Nat) m data r,((decide (i<j))=true->(0<=m/\m<(n0:Int))/\(∃y26,data[m.toNat]? =some y26/\((0<=(hI i j)/\(hI i j)<(n0:Int))/\(∃y27,data[(hI i j).toNat]? =some y27/\(∃y28,C y26 y27 y28/\(((!(decide (y28<0)))=true->sy10 j (wI ((hI i j)+1)) n0 m data r)/\((!(decide (y28<0)))=false->sy10 (hI i j) i n0 m data r)))))))/\((decide (i<j))=false->sy12 m i n0 data r)->sy10 j i n0 m data r
 h_sy42:∀a b m s (n0:Nat) l r,(((decide ((hI a b)<(wI ((wI ((hI a b)+m)) - s))))&&(decide ((wI ((wI ((hI a b)+m)) - s))<b)))=true->∃y65,sy n0 l (hI a b) (wI ((wI ((hI a b)+m)) - s)) b y65/\(l≠[]/\y65≠[])/\(y65≠[]/\r=y65))/\(((decide ((hI a b)<(wI ((wI ((hI a b)+m)) - s))))&&(decide ((wI ((wI ((hI a b)+m)) - s))<b)))=false->l≠[]/\r=l)->sy42 a b m s n0 l r
 h_sy40:∀a b m s (n0:Nat) l r,(((decide (a<s))&&(decide (s<(hI a b))))=true->∃y63,sy n0 l a s (hI a b) y63/\(l≠[]/\y63≠[])/\(sy42 a b m s n0 y63 r))/\(((decide (a<s))&&(decide (s<(hI a b))))=false->sy42 a b m s n0 l r)->sy40 a b m s n0 l r
 h_sy36:∀a b m t s (n0:Nat) data r,((decide (s<t))=true->(0<=(wI ((wI ((wI ((hI a b)+m)) - 1)) - (hI s t)))/\(wI ((wI ((wI ((hI a b)+m)) - 1)) - (hI s t)))<(n0:Int))/\(∃y66,data[(wI ((wI ((wI ((hI a b)+m)) - 1)) - (hI s t))).toNat]? =some y66/\((0<=(hI s t)/\(hI s t)<(n0:Int))/\(∃y67,data[(hI s t).toNat]? =some y67/\(∃y68,C y66 y67 y68/\(((!(decide (y68<0)))=true->sy36 a b m t (wI ((hI s t)+1)) n0 data r)/\((!(decide (y68<0)))=false->sy36 a b m (hI s t) s n0 data r)))))))/\((decide (s<t))=false->(((decide (s<m))&&(decide (m<(wI ((wI ((hI a b)+m)) - s)))))=true->∃y59,ro n0 data s m (wI ((wI ((hI a b)+m)) - s)) y59/\(data≠[]/\y59≠[])/\(sy40 a b m s n0 y59 r))/\(((decide (s<m))&&(decide (m<(wI ((wI ((hI a b)+m)) - s)))))=false->sy40 a b m s n0 data r))->sy36 a b m t s n0 data r
 h_sy28:∀t s a b m (n0:Nat) data r,sy36 a b m t s n0 data r->sy28 t s a b m n0 data r
 h_sy:∀(n0:Nat) data a m b r,(((wI (m - a))==1)=true->sy4 b m n0 a data r)/\(((wI (m - a))==1)=false->(((wI (b - m))==1)=true->sy10 m a n0 m data r)/\(((wI (b - m))==1)=false->((decide ((hI a b)<m))=true->sy28 (hI a b) (wI ((wI ((hI a b)+m)) - b)) a b m n0 data r)/\((decide ((hI a b)<m))=false->sy28 m a a b m n0 data r)))->sy n0 data a m b r
 h_st14:∀e a k (n0:Nat) n l r,((decide (e<=n))=true->∃y19,sy n0 l a (wI (a+k)) e y19/\(l≠[]/\y19≠[])/\(st14 (wI (e+(wI (2*k)))) e k n0 n y19 r))/\((decide (e<=n))=false->((decide ((wI (a+k))<n))=true->∃y18,sy n0 l a (wI (a+k)) n y18/\(l≠[]/\y18≠[])/\(st12 (wI (k*2)) n0 n y18 r))/\((decide ((wI (a+k))<n))=false->st12 (wI (k*2)) n0 n l r))->st14 e a k n0 n l r
 h_st12:∀k (n0:Nat) n l r,((decide (k<n))=true->st14 (wI (2*k)) 0 k n0 n l r)/\((decide (k<n))=false->l≠[]/\r=l)->st12 k n0 n l r
 h_st8:∀e a (n0:Nat) n l r,((decide (e<=n))=true->∃y20,ins n0 l a e y20/\(l≠[]/\y20≠[])/\(st8 (wI (e+20)) e n0 n y20 r))/\((decide (e<=n))=false->∃y11,ins n0 l a n y11/\(l≠[]/\y11≠[])/\(st12 20 n0 n y11 r))->st8 e a n0 n l r
 h_st:∀(n0:Nat) data n r,st8 20 0 n0 n data r->st n0 data n r
 h_so:∀(n0:Nat) x r,(∃y1,st n0 x (n0:Int) y1/\(x≠[]/\y1≠[])/\(y1≠[]/\r=y1))->so n0 x r
section
variable {α:Type}{C:α->α->Int->Prop}
theorem d41(A B D:List α)(p q:α){i j:Nat}(hi:i=A.length)(hj:j=A.length+1+B.length):(A++p::(B++q::D))[i]? =some p/\(A++p::(B++q::D))[j]? =some q/\((A++p::(B++q::D)).set i q).set j p=A++q::(B++p::D)/\((A++p::(B++q::D)).set j p).set i q=A++q::(B++p::D):=by
 subst hi hj;have e1:(A++p::(B++q::D))[A.length]? =some p:=by simp
 have e2:∀x:α,(A++x::(B++q::D))[A.length+1+B.length]? =some q:=by
  intro x;rw[List.getElem?_append_right (by omega),show A.length+1+B.length - A.length=B.length+1 by omega,List.getElem?_cons_succ];simp
 have s1:∀(x y:α) (Z:List α),(A++x::Z).set A.length y=A++y::Z:=by
  intro x y Z;rw[List.set_append_right _ _ (Nat.le_refl _),Nat.sub_self];rfl
 have s2:∀(x y z:α),(A++x::(B++y::D)).set (A.length+1+B.length) z=A++x::(B++z::D):=by
  intro x y z;rw[List.set_append_right _ _ (by omega),show A.length+1+B.length - A.length=B.length+1 by omega,List.set_cons_succ,List.set_append_right _ _ (Nat.le_refl _),Nat.sub_self];rfl
 exact⟨e1,e2 p,by rw[s1,s2],by rw[s2,s1]⟩
variable (F:d5k α C)
theorem f2j(n0:Nat)(hn:n0<=1125899906842624)(X M Y:List α)(a b n:Nat)(ha:a=X.length):∀(P2 Q2 P1 Q1:List α),P2.length=Q2.length->P1.length=Q1.length->n=P1.length+P2.length->b=a+n+M.length->n0=b+n+Y.length->0<n0->
  F.swj (P1.length:Nat) n0 a b n (X++Q1++P2++M++P1++Q2++Y) (X++Q1++Q2++M++P1++P2++Y)
 |[],Q2,P1,Q1,h1,h2,h3,h4,h5,h6=>by
  have:Q2=[]:=List.eq_nil_of_length_eq_zero (by simpa using h1.symm);subst this;have h7:([]:List α).length=0:=rfl;rw[h7]at h3;refine F.h_swj _ _ _ _ _ _ _ ⟨fun h=>?_,fun _=>⟨?_,by simp⟩⟩
  ·have:=of_decide_eq_true h;omega
  ·intro h0;have:=congrArg List.length h0;simp only[List.length_append,h7]at this h2;omega
 |p::P2,Q2,P1,Q1,h1,h2,h3,h4,h5,h6=>by
  obtain⟨q,Q2,rfl⟩:∃q Q,Q2=q::Q:=by
   cases Q2 with
   |nil=>simp at h1
   |cons q Q=>exact⟨q,Q,rfl⟩
  simp only[List.length_cons]at h1 h3;have e1:wI ((a:Int)+(P1.length:Nat))=((a+P1.length:Nat):Int):=by rw[wI,C7 (by omega)];omega
  have e2:wI ((b:Int)+(P1.length:Nat))=((b+P1.length:Nat):Int):=by rw[wI,C7 (by omega)];omega
  have e3:wI (((P1.length:Nat):Int)+1)=(((P1++[p]).length:Nat):Int):=by rw[wI,C7 (by omega)];simp
  have hl:X++Q1++(p::P2)++M++P1++(q::Q2)++Y=(X++Q1)++p::((P2++M++P1)++q::(Q2++Y)):=by simp
  obtain⟨s1,s2,s3,_⟩:=d41 (X++Q1) (P2++M++P1) (Q2++Y) p q (i:=a+P1.length) (j:=b+P1.length) (by simp;omega) (by simp;omega);have ih:=f2j n0 hn X M Y a b n ha P2 Q2 (P1++[p]) (Q1++[q]) (by omega) (by simp;omega) (by simp;omega) h4 h5 h6;have hlen:(X++Q1++(p::P2)++M++P1++(q::Q2)++Y).length=n0:=by simp;omega
  refine F.h_swj _ _ _ _ _ _ _ ⟨fun _=>?_,fun h=>by simp at h;omega⟩;rw[e1,e2,e3,Int.toNat_natCast,Int.toNat_natCast];refine⟨by omega,q,by rw[hl];exact s2,by omega,p,by rw[hl];exact s1,by omega,by rw[hlen];omega,by omega,by rw[List.length_set,hlen];omega,?_⟩;rw[hl,s3];have g1:(X++Q1)++q::((P2++M++P1)++p::(Q2++Y))=X++(Q1++[q])++P2++M++(P1++[p])++Q2++Y:=by simp
  have g2:X++Q1++(q::Q2)++M++P1++(p::P2)++Y=X++(Q1++[q])++Q2++M++(P1++[p])++P2++Y:=by simp
  rw[g1,g2];exact ih
theorem e7l{n0:Nat}(hn:n0<=1125899906842624)(X P M Q Y:List α){a b n:Nat}(ha:a=X.length)(hp:n=P.length)(hq:n=Q.length)(hb:b=a+n+M.length)(h0:n0=b+n+Y.length)(h1:0<n0):F.sw n0 (X++P++M++Q++Y) a b n (X++Q++M++P++Y):=by
 have:=f2j F n0 hn X M Y a b n ha P Q [] [] (by omega) rfl (by simp;omega) hb h0 h1;exact F.h_sw _ _ _ _ _ _ (by simpa using this)
theorem g04(n0:Nat)(hn:n0<=1125899906842624):∀(k:Nat) (X A B Y:List α) (m:Nat),A.length+B.length<=k->A≠[]->B≠[]->m=X.length+A.length->n0=m+B.length+Y.length->F.roj (B.length:Nat) (A.length:Nat) n0 m (X++A++B++Y) (X++B++A++Y):=by
 intro k
 induction k with
 |zero=>
  intro X A B Y m h hA;exact absurd (List.eq_nil_of_length_eq_zero (by omega)) hA
 |succ k ih=>
  intro X A B Y m hk hA hB hm h0;have a0:=List.length_pos_iff.2 hA;have b0:=List.length_pos_iff.2 hB;have ne:∀{l:List α},l.length=n0->l≠[]:=fun h h'=>by rw[h']at h;simp at h;omega
  have e1:wI ((m:Int) - (A.length:Nat))=((X.length:Nat):Int):=by rw[wI,C7 (by omega)];omega
  rcases Nat.lt_trichotomy A.length B.length with hlt|heq|hgt
  ·
   have hB2:B=B.take (B.length - A.length)++B.drop (B.length - A.length):=(List.take_append_drop _ _).symm;generalize hb1:B.take (B.length - A.length)=B1 at hB2;generalize hb2:B.drop (B.length - A.length)=B2 at hB2;have l1:B1.length=B.length - A.length:=by rw[<-hb1];simp
   have l2:B2.length=A.length:=by rw[<-hb2];simp;omega
   have e2:wI (wI ((m:Int)+(B.length:Nat)) - (A.length:Nat))=((m+B1.length:Nat):Int):=by
    have:wI ((m:Int)+(B.length:Nat))=(m:Int)+(B.length:Nat):=by rw[wI,C7 (by omega)]
    rw[this,wI,C7 (by omega)];omega
   have e3:wI (((B.length:Nat):Int) - (A.length:Nat))=((B1.length:Nat):Int):=by rw[wI,C7 (by omega)];omega
   have hs:=e7l F hn X A B1 B2 Y (a:=X.length) (b:=m+B1.length) (n:=A.length) rfl rfl l2.symm (by omega) (by omega) (by omega);have ih':=ih X B2 B1 (A++Y) m (by omega) (fun h=>by rw[h]at l2;simp at l2;omega) (fun h=>by rw[h]at l1;simp at l1;omega) (by omega) (by simp;omega);refine F.h_roj _ _ _ _ _ _ ⟨fun _=>⟨fun h=>by simp at h;omega,fun _=>?_⟩,fun h=>by simp at h;omega⟩;rw[e1,e2,e3];refine⟨X++B2++B1++A++Y,by rw[hB2];simpa using hs,⟨ne (by simp;omega),ne (by simp;omega)⟩,?_⟩;rw[l2]at ih';have g1:X++B2++B1++A++Y=X++B2++B1++(A++Y):=by simp
   have g2:X++B++A++Y=X++B1++B2++(A++Y):=by rw[hB2];simp
   rw[g1,g2];exact ih'
  ·have hs:=e7l F hn X A [] B Y (a:=X.length) (b:=m) (n:=A.length) rfl rfl heq (by simp;omega) (by omega) (by omega);refine F.h_roj _ _ _ _ _ _ ⟨fun h=>by simp at h;omega,fun _=>⟨X++B++A++Y,?_,⟨ne (by simp;omega),ne (by simp;omega)⟩,ne (by simp;omega),rfl⟩⟩;rw[e1];simpa using hs
  ·have hA2:A=A.take B.length++A.drop B.length:=(List.take_append_drop _ _).symm;generalize ha1:A.take B.length=A1 at hA2;generalize ha2:A.drop B.length=A2 at hA2;have l1:A1.length=B.length:=by rw[<-ha1];simp;omega
   have l2:A2.length=A.length - B.length:=by rw[<-ha2];simp
   have e3:wI (((A.length:Nat):Int) - (B.length:Nat))=((A2.length:Nat):Int):=by rw[wI,C7 (by omega)];omega
   have hs:=e7l F hn X A1 A2 B Y (a:=X.length) (b:=m) (n:=B.length) rfl l1.symm rfl (by omega) (by omega) (by omega);have ih':=ih (X++B) A2 A1 Y m (by omega) (fun h=>by rw[h]at l2;simp at l2;omega) (fun h=>by rw[h]at l1;simp at l1;omega) (by simp;omega) (by omega);refine F.h_roj _ _ _ _ _ _ ⟨fun _=>⟨fun _=>?_,fun h=>by simp at h;omega⟩,fun h=>by simp at h;omega⟩;rw[e1,e3];refine⟨X++B++A2++A1++Y,by rw[hA2];simpa using hs,⟨ne (by simp;omega),ne (by simp;omega)⟩,?_⟩;rw[l1]at ih';have g2:X++B++A++Y=X++B++A1++A2++Y:=by rw[hA2];simp
   rw[g2];exact ih'
theorem g8t{n0:Nat}(hn:n0<=1125899906842624)(X A B Y:List α){a m b:Nat}(ha:a=X.length)(hm:m=a+A.length)(hb:b=m+B.length)(h0:n0=b+Y.length)(hA:A≠[])(hB:B≠[]):F.ro n0 (X++A++B++Y) a m b (X++B++A++Y):=by
 have e1:wI ((b:Int) - m)=((B.length:Nat):Int):=by rw[wI,C7 (by omega)];omega
 have e2:wI ((m:Int) - a)=((A.length:Nat):Int):=by rw[wI,C7 (by omega)];omega
 refine F.h_ro _ _ _ _ _ _ ?_;rw[e1,e2];exact g04 F n0 hn _ X A B Y m (Nat.le_refl _) hA hB (by omega) (by omega)
end
structure Pre{α:Type}(cm:α->α->Int)(Dm:α->Prop):Prop where
 sym:∀x y,Dm x->Dm y->(cm x y<0↔0<cm y x)
 trans:∀x y z,Dm x->Dm y->Dm z->cm x y<=0->cm y z<=0->cm x z<=0
def Rt{α:Type}(cm:α->α->Int)(x y:α × Nat):Prop:=cm x.1 y.1<0\/(cm x.1 y.1=0/\x.2<y.2)
section
variable {α:Type}{C:α->α->Int->Prop}{cm:α->α->Int}{Dm:α->Prop}
theorem Pre.zero(hp:Pre cm Dm){x y:α}(hx:Dm x)(hy:Dm y):cm x y=0↔cm y x=0:=by
 have h1:=hp.sym x y hx hy;have h2:=hp.sym y x hy hx;omega
theorem Pre.lt(hp:Pre cm Dm){x y z:α}(hx:Dm x)(hy:Dm y)(hz:Dm z)(h1:cm x y<=0)(h2:cm y z<=0)(h3:cm x y<0\/cm y z<0):cm x z<0:=by
 have h4:=hp.trans x y z hx hy hz h1 h2;rcases Int.lt_or_le (cm x z) 0 with h5|h5
 ·exact h5
 have h6:cm x z=0:=by omega
 have h7:=(hp.zero hx hz).1 h6;rcases h3 with h3|h3
 ·have h8:=hp.trans y z x hy hz hx h2 (by omega);have:=(hp.sym x y hx hy).1 h3;omega
 ·have h8:=hp.trans z x y hz hx hy (by omega) h1;have:=(hp.sym y z hy hz).1 h3;omega
theorem Rt.trans(hp:Pre cm Dm){x y z:α × Nat}(hx:Dm x.1)(hy:Dm y.1)(hz:Dm z.1)(h1:Rt cm x y)(h2:Rt cm y z):Rt cm x z:=by
 unfold Rt at*;rcases h1 with h1|⟨h1,h1'⟩
 ·rcases h2 with h2|⟨h2,_⟩
  ·exact .inl (hp.lt hx hy hz (by omega) (by omega) (.inl h1))
  ·exact .inl (hp.lt hx hy hz (by omega) (by omega) (.inl h1))
 ·rcases h2 with h2|⟨h2,h2'⟩
  ·exact .inl (hp.lt hx hy hz (by omega) (by omega) (.inr h2))
  ·right;have h3:=hp.trans _ _ _ hx hy hz (by omega:cm x.1 y.1<=0) (by omega:cm y.1 z.1<=0);have h4:=hp.trans _ _ _ hz hy hx (by have:=(hp.zero hy hz).1 h2;omega) (by have:=(hp.zero hx hy).1 h1;omega);have h5:=hp.sym z.1 x.1 hz hx;have h6:=hp.sym x.1 z.1 hx hz;omega
theorem Rt.of_not(hp:Pre cm Dm){x y:α × Nat}(hx:Dm x.1)(hy:Dm y.1)(h:¬cm x.1 y.1<0)(ht:y.2<x.2):Rt cm y x:=by
 have h1:=hp.sym y.1 x.1 hy hx;have h2:=hp.zero hx hy;unfold Rt;omega
abbrev Srt(cm:α->α->Int)(l:List (α × Nat)):Prop:=l.Pairwise (Rt cm)
abbrev fs(l:List (α × Nat)):List α:=l.map Prod.fst
variable (F:d5k α C) (hp:Pre cm Dm) (hC:∀x y,Dm x->Dm y->C x y (cm x y))
 include hp hC
theorem g1v{n0:Nat}(hn:n0<=1125899906842624)(X:List (α × Nat))(s:α × Nat)(i:Int)(b:Nat):∀(k:Nat) (U V T:List (α × Nat)),U.length=k->n0=X.length+U.length+1+V.length+T.length->(∀x∈U++s::V,Dm x.1)->Srt cm (U++V)->(∀v∈V,Rt cm s v)->(∀u∈U,u.2<s.2)->
  ∃S,Srt cm S/\S.Perm (U++s::V)/\∀r,F.in4 (wI (i+1)) n0 X.length b (fs (X++S++T)) r->F.in6 ((X.length+U.length:Nat):Int) i n0 X.length b (fs (X++U++s::V++T)) r:=by
 intro k
 induction k with
 |zero=>
  intro U V T hU h0 hD hs hv ht;have:U=[]:=List.eq_nil_of_length_eq_zero hU;subst this;refine⟨s::V,List.pairwise_cons.2 ⟨hv,by simpa using hs⟩,by simp,fun r hr=>?_⟩;refine F.h_in6 _ _ _ _ _ _ _ ⟨fun z=>z=false,fun z hz=>⟨fun h=>(by rw[hz]at h;cases h),fun _=>by simpa using hr⟩,fun h=>?_,fun _=>rfl⟩;simp at h
 |succ k ih=>
  intro U V T hU h0 hD hs hv ht
  obtain⟨U',u,rfl⟩:∃U' u,U=U'++[u]:=by
   rcases List.eq_nil_or_concat U with h|⟨U',u,h⟩
   ·rw[h]at hU;simp at hU
   ·exact⟨U',u,by simpa using h⟩
  have hl':U'.length=k:=by simpa using hU
  have hDs:Dm s.1:=hD s (by simp);have hDu:Dm u.1:=hD u (by simp);have hj:X.length+(U'++[u]).length=X.length+U'.length+1:=by simp;omega
  have e1:wI (((X.length+U'.length+1:Nat):Int) - 1)=((X.length+U'.length:Nat):Int):=by
   simp only[List.length_append,List.length_cons,List.length_nil]at h0;rw[wI,C7 (by omega)];omega
  have hlist:fs (X++(U'++[u])++s::V++T)=fs (X++U')++u.1::(fs ([]:List (α × Nat))++s.1::fs (V++T)):=by simp[fs]
  obtain⟨s1,s2,_,s4⟩:=d41 (fs (X++U')) (fs ([]:List (α × Nat))) (fs (V++T)) u.1 s.1 (i:=X.length+U'.length) (j:=X.length+U'.length+1) (by simp[fs]) (by simp[fs]);have hlen:(fs (X++(U'++[u])++s::V++T)).length=n0:=by simp[fs]at h0 ⊢;omega
  simp only[List.length_append,List.length_cons,List.length_nil]at h0;have cmpS:C s.1 u.1 (cm s.1 u.1):=hC _ _ hDs hDu
  by_cases hlt:cm s.1 u.1<0
  ·obtain⟨S,q1,q2,q3⟩:=ih U' (u::V) T hl' (by simp;omega) (fun x hx=>hD x (by simp at hx ⊢;grind)) (by simpa using hs) (fun v hv'=>by
    rcases List.mem_cons.1 hv' with h|h
    ·rw[h];exact .inl hlt
    ·exact hv v h) (fun x hx=>ht x (by simp[hx]))
   refine⟨S,q1,q2.trans (by simp;exact List.Perm.swap _ _ _|>.append_left U'),fun r hr=>?_⟩;refine F.h_in6 _ _ _ _ _ _ _ ⟨fun z=>z=true,fun z hz=>⟨fun _=>?_,fun h=>by rw[hz]at h;cases h⟩,fun _=>?_,fun h=>?_⟩
   ·simp only[hj,e1,Int.toNat_natCast];refine⟨by omega,u.1,by rw[hlist];exact s1,by simp;omega,s.1,by rw[hlist];exact s2,by simp;omega,by rw[hlen];omega,by omega,by rw[List.length_set,hlen];omega,?_⟩;have g:((fs (X++(U'++[u])++s::V++T)).set (X.length+U'.length+1) u.1).set (X.length+U'.length) s.1=fs (X++U'++s::(u::V)++T):=by rw[hlist,s4];simp[fs]
    rw[g];exact q3 r hr
   ·simp only[hj,e1,Int.toNat_natCast];exact⟨by simp;omega,s.1,by rw[hlist];exact s2,by omega,u.1,by rw[hlist];exact s1,_,cmpS,decide_eq_true hlt⟩
   ·simp at h;omega
  ·have hus:Rt cm u s:=Rt.of_not hp hDs hDu hlt (ht u (by simp))
   have hall:∀x∈U'++[u],Rt cm x s:=by
    intro x hx;rcases List.mem_append.1 hx with h|h
    ·have hxu:Rt cm x u:=by
      have h2:Srt cm (U'++[u]):=(List.pairwise_append.1 hs).1;exact(List.pairwise_append.1 h2).2.2 x h u (by simp)
     exact Rt.trans hp (hD x (by simp[h])) hDu hDs hxu hus
    ·simp at h;rw[h];exact hus
   refine⟨U'++[u]++s::V,?_,.refl _,fun r hr=>?_⟩
   ·obtain⟨h1,h2,h3⟩:=List.pairwise_append.1 hs;refine List.pairwise_append.2 ⟨h1,List.pairwise_cons.2 ⟨hv,h2⟩,fun x hx y hy=>?_⟩;rcases List.mem_cons.1 hy with h|h
    ·rw[h];exact hall x hx
    ·exact h3 x hx y h
   ·refine F.h_in6 _ _ _ _ _ _ _ ⟨fun z=>z=false,fun z hz=>⟨fun h=>(by rw[hz]at h;cases h),fun _=>?_⟩,fun _=>?_,fun h=>?_⟩
    ·have g:X++(U'++[u])++s::V++T=X++(U'++[u]++s::V)++T:=by simp
     rw[g];exact hr
    ·simp only[hj,e1,Int.toNat_natCast];exact⟨by simp;omega,s.1,by rw[hlist];exact s2,by omega,u.1,by rw[hlist];exact s1,_,cmpS,decide_eq_false hlt⟩
    ·rfl
theorem f0u{n0:Nat}(hn:n0<=1125899906842624)(X Y:List (α × Nat))(b:Nat):∀(S2 S1:List (α × Nat)),b=X.length+S1.length+S2.length->n0=b+Y.length->0<n0->(∀x∈S1++S2,Dm x.1)->Srt cm S1->(∀x∈S1,∀y∈S2,x.2<y.2)->S2.Pairwise (fun x y=>x.2<y.2)->
  ∃S,Srt cm S/\S.Perm (S1++S2)/\F.in4 ((X.length+S1.length:Nat):Int) n0 X.length b (fs (X++S1++S2++Y)) (fs (X++S++Y))
 |[],S1,hb,h0,hpos,hD,hs,ht,hp2=>by
  refine⟨S1,hs,by simp,F.h_in4 _ _ _ _ _ _ ⟨fun h=>?_,fun _=>⟨fun h=>?_,by simp⟩⟩⟩
  ·simp at h hb;omega
  ·have:=congrArg List.length h;simp only[fs,List.length_map,List.length_append,List.length_nil]at this hb;omega
 |s::S2,S1,hb,h0,hpos,hD,hs,ht,hp2=>by
  simp only[List.length_cons]at hb;obtain⟨S',q1,q2,q3⟩:=g1v F hp hC hn X s ((X.length+S1.length:Nat):Int) b S1.length S1 [] (S2++Y) rfl (by simp;omega) (fun x hx=>hD x (by simp at hx ⊢;grind)) (by simpa using hs) (fun v hv=>by cases hv) (fun u hu=>ht u hu s (by simp));have hl:S'.length=S1.length+1:=by rw[q2.length_eq];simp
  have mem:∀x,x∈S'↔x∈S1\/x=s:=fun x=>by rw[q2.mem_iff];simp
  obtain⟨S,p1,p2,p3⟩:=f0u hn X Y b S2 S' (by omega) h0 hpos (fun x hx=>hD x (by
    rcases List.mem_append.1 hx with h|h
    ·rcases (mem x).1 h with h|h<;>simp[h]
    ·simp[h])) q1 (fun x hx y hy=>by
    rcases (mem x).1 hx with h|h
    ·exact ht x h y (by simp[hy])
    ·rw[h];exact(List.pairwise_cons.1 hp2).1 y hy) (List.pairwise_cons.1 hp2).2
  refine⟨S,p1,p2.trans ?_,F.h_in4 _ _ _ _ _ _ ⟨fun _=>?_,fun h=>by simp at h;omega⟩⟩
  ·exact(q2.append_right S2).trans (by simp)
  ·have e:wI (((X.length+S1.length:Nat):Int)+1)=((X.length+S'.length:Nat):Int):=by rw[wI,C7 (by omega)];omega
   have:=q3 _ (by rw[e];simpa using p3);simpa using this
theorem d89{n0:Nat}(hn:n0<=1125899906842624)(X S Y:List (α × Nat)){a b:Nat}(ha:a=X.length)(hb:b=a+S.length)(h0:n0=b+Y.length)(hpos:0<n0)(hD:∀x∈S,Dm x.1)(ht:S.Pairwise (fun x y=>x.2<y.2)):
  ∃S',Srt cm S'/\S'.Perm S/\F.ins n0 (fs (X++S++Y)) a b (fs (X++S'++Y)):=by
 subst ha;have e:wI ((X.length:Int)+1)=((X.length+1:Nat):Int):=by rw[wI,C7 (by omega)];omega
 cases S with
 |nil=>
  refine⟨[],.nil,.refl _,F.h_ins _ _ _ _ _ ?_⟩;rw[e];refine F.h_in4 _ _ _ _ _ _ ⟨fun h=>?_,fun _=>⟨fun h=>?_,rfl⟩⟩
  ·simp at h hb;omega
  ·have:=congrArg List.length h;simp only[fs,List.length_map,List.length_append,List.length_nil]at this hb;omega
 |cons s S2=>
  obtain⟨S,q1,q2,q3⟩:=f0u F hp hC hn X Y b S2 [s] (by simp at hb ⊢;omega) h0 hpos (by simpa using hD) (by simp) (fun x hx y hy=>by simp at hx;rw[hx];exact(List.pairwise_cons.1 ht).1 y hy) (List.pairwise_cons.1 ht).2;refine⟨S,q1,by simpa using q2,F.h_ins _ _ _ _ _ ?_⟩;rw[e];simpa using q3
end
theorem c9z{a b:Nat}(ha:a<=1125899906842624)(hb:b<=1125899906842624):hI (a:Int) (b:Int)=(((a+b) / 2:Nat):Int):=by
 have e1:wI ((a:Int)+b)=((a+b:Nat):Int):=by rw[wI,C7 (by omega)];omega
 have e2:wU ((a+b:Nat):Int)=((a+b:Nat):Int):=b4j (by omega);have e3:(2:Int) ^ min (1:Int).toNat IntKind.u64.bits=2:=by decide+kernel
 unfold hI;rw[e1,e2,e3,Int.fdiv_eq_ediv_of_nonneg _ (by omega),wI,C7 (by omega)];omega
section
variable {α:Type}{C:α->α->Int->Prop}{cm:α->α->Int}{Dm:α->Prop}
theorem g82(X:List α)(L R:List α){i:Nat}(h:i<L.length):(X++L++R)[X.length+i]? =L[i]? :=by
 rw[List.append_assoc,List.getElem?_append_right (by omega),show X.length+i - X.length=i by omega,List.getElem?_append_left h]
variable (F:d5k α C)
theorem f09{n0:Nat}(hn:n0<=1125899906842624)(X R:List α)(x:α)(i:Nat):∀(B2 B1:List α),i=X.length+B1.length+B2.length+1->n0=i+R.length->F.sy6 ((X.length+B1.length:Nat):Int) i n0 (X++B1++x::B2++R) (X++B1++B2++x::R)
 |[],B1,hi,h0=>by
  have e:wI ((i:Int) - 1)=((X.length+B1.length:Nat):Int):=by simp at hi;rw[wI,C7 (by omega)];omega
  refine F.h_sy6 _ _ _ _ _ ⟨fun h=>?_,fun _=>⟨by simp,by simp⟩⟩;rw[e]at h;simp at h
 |y::B2,B1,hi,h0=>by
  simp only[List.length_cons]at hi;have e:wI ((i:Int) - 1)=((X.length+B1.length+B2.length+1:Nat):Int):=by rw[wI,C7 (by omega)];omega
  have e2:wI (((X.length+B1.length:Nat):Int)+1)=((X.length+(B1++[y]).length:Nat):Int):=by rw[wI,C7 (by omega)];simp;omega
  have e3:((X.length+(B1++[y]).length:Nat):Int).toNat=X.length+B1.length+1:=by simp;omega
  have hl:X++B1++x::(y::B2)++R=(X++B1)++x::(([]:List α)++y::(B2++R)):=by simp
  obtain⟨s1,s2,s3,s4⟩:=d41 (X++B1) [] (B2++R) x y (i:=X.length+B1.length) (j:=X.length+B1.length+1) (by simp) (by simp);have ih:=f09 hn X R x i B2 (B1++[y]) (by simp;omega) h0;have hlen:(X++B1++x::(y::B2)++R).length=n0:=by simp;omega
  refine F.h_sy6 _ _ _ _ _ ⟨fun _=>?_,fun h=>by rw[e]at h;simp at h;omega⟩;rw[e2,e3,Int.toNat_natCast];refine⟨by simp;omega,y,by rw[hl];exact s2,by omega,x,by rw[hl];exact s1,by omega,by rw[hlen];omega,by simp;omega,by rw[List.length_set,hlen];omega,?_⟩;rw[hl,s3];have g1:(X++B1)++y::(([]:List α)++x::(B2++R))=X++(B1++[y])++x::B2++R:=by simp
  have g2:X++B1++(y::B2)++x::R=X++(B1++[y])++B2++x::R:=by simp
  rw[g1,g2];exact ih
theorem f3d{n0:Nat}(hn:n0<=1125899906842624)(X R:List α)(y:α)(i:Nat)(hi:i=X.length):∀(k:Nat) (A1 A2:List α),A1.length=k->n0=X.length+A1.length+1+A2.length+R.length->F.sy12 ((X.length+A1.length:Nat):Int) i n0 (X++A1++y::A2++R) (X++y::A1++A2++R):=by
 intro k
 induction k with
 |zero=>
  intro A1 A2 h1 h0;have:A1=[]:=List.eq_nil_of_length_eq_zero h1;subst this;refine F.h_sy12 _ _ _ _ _ ⟨fun h=>?_,fun _=>⟨by simp,by simp⟩⟩;simp at h;omega
 |succ k ih=>
  intro A1 A2 h1 h0
  obtain⟨A1',z,rfl⟩:∃U' u,A1=U'++[u]:=by
   rcases List.eq_nil_or_concat A1 with h|⟨U',u,h⟩
   ·rw[h]at h1;simp at h1
   ·exact⟨U',u,by simpa using h⟩
  have hl':A1'.length=k:=by simpa using h1
  have hlen:(X++(A1'++[z])++y::A2++R).length=n0:=by simp at h0 ⊢;omega
  simp only[List.length_append,List.length_cons,List.length_nil]at h0
  have e2:wI (((X.length+(A1'++[z]).length:Nat):Int) - 1)=((X.length+A1'.length:Nat):Int):=by
   simp only[List.length_append,List.length_cons,List.length_nil];rw[wI,C7 (by omega)];omega
  have e3:((X.length+(A1'++[z]).length:Nat):Int).toNat=X.length+A1'.length+1:=by simp;omega
  have hl:X++(A1'++[z])++y::A2++R=(X++A1')++z::(([]:List α)++y::(A2++R)):=by simp
  obtain⟨s1,s2,s3,s4⟩:=d41 (X++A1') [] (A2++R) z y (i:=X.length+A1'.length) (j:=X.length+A1'.length+1) (by simp) (by simp);have ih':=ih A1' (z::A2) hl' (by simp;omega);refine F.h_sy12 _ _ _ _ _ ⟨fun _=>?_,fun h=>by simp at h;omega⟩;rw[e2,e3,Int.toNat_natCast];refine⟨by omega,z,by rw[hl];exact s1,by simp;omega,y,by rw[hl];exact s2,by simp;omega,by rw[hlen];omega,by omega,by rw[List.length_set,hlen];omega,?_⟩;rw[hl,s4];have g1:(X++A1')++y::(([]:List α)++z::(A2++R))=X++A1'++y::(z::A2)++R:=by simp
  have g2:X++y::(A1'++[z])++A2++R=X++y::A1'++(z::A2)++R:=by simp
  rw[g1,g2];exact ih'
variable (hp:Pre cm Dm) (hC:∀x y,Dm x->Dm y->C x y (cm x y))
 include hp hC
theorem g1d{n0:Nat}(hn:n0<=1125899906842624)(X B Y:List (α × Nat))(x:α × Nat)(hx:Dm x.1)(hB:∀y∈B,Dm y.1)(hs:Srt cm B)(ht:∀y∈B,x.2<y.2)(h0:n0=X.length+1+B.length+Y.length):∀(k p q:Nat),q - p<=k->p<=q->q<=B.length->(∀y∈B.take p,Rt cm y x)->(∀y∈B.drop q,Rt cm x y)->
  ∃S,Srt cm S/\S.Perm (x::B)/\F.sy4 ((X.length+1+q:Nat):Int) ((X.length+1+p:Nat):Int) n0 X.length (fs (X++x::B++Y)) (fs (X++S++Y)):=by
 intro k
 induction k with
 |zero=>
  intro p q h1 h2 h3 hP hQ;obtain rfl:p=q:=by omega
  refine⟨B.take p++x::B.drop p,?_,?_,?_⟩
  ·refine List.pairwise_append.2 ⟨hs.sublist (List.take_sublist _ _),List.pairwise_cons.2 ⟨hQ,hs.sublist (List.drop_sublist _ _)⟩,fun a ha b hb=>?_⟩;rcases List.mem_cons.1 hb with h|h
   ·rw[h];exact hP a ha
   ·exact Rt.trans hp (hB a (List.mem_of_mem_take ha)) hx (hB b (List.mem_of_mem_drop h)) (hP a ha) (hQ b h)
  ·exact List.perm_middle.trans (by rw[List.take_append_drop])
  ·refine F.h_sy4 _ _ _ _ _ _ ⟨fun h=>by simp at h,fun _=>?_⟩;have hlt:(B.take p).length=p:=by simp;omega
   have:=f09 F hn (fs X) (fs (B.drop p++Y)) x.1 (X.length+1+p) (fs (B.take p)) [] (by simp[fs];omega) (by simp[fs];omega)
   have g1:fs X++[]++x.1::fs (B.take p)++fs (B.drop p++Y)=fs (X++x::B++Y):=by
    have e:B.take p++(B.drop p++Y)=B++Y:=by rw[<-List.append_assoc,List.take_append_drop]
    have e2:fs (X++x::B++Y)=fs X++x.1::fs (B++Y):=by simp[fs]
    rw[e2,<-e];simp only[fs,List.map_append,List.append_nil,List.cons_append,List.append_assoc]
   have g2:fs X++[]++fs (B.take p)++x.1::fs (B.drop p++Y)=fs (X++(B.take p++x::B.drop p)++Y):=by simp[fs]
   rw[g1,g2]at this;simpa[fs]using this
 |succ k ih=>
  intro p q h1 h2 h3 hP hQ
  by_cases hpq:p=q
  ·exact ih p q (by omega) h2 h3 hP hQ
  ·have hh:hI ((X.length+1+p:Nat):Int) ((X.length+1+q:Nat):Int)=((X.length+1+(X.length+1+p+(X.length+1+q)) / 2 - (X.length+1):Nat):Int):=by
    rw[c9z (by omega) (by omega)];congr 1;omega
   generalize hm:(X.length+1+p+(X.length+1+q)) / 2 - (X.length+1)=m at hh;have hm1:p<=m/\m<q:=by omega
   have hh':hI ((X.length+1+p:Nat):Int) ((X.length+1+q:Nat):Int)=((X.length+1+m:Nat):Int):=by rw[hh];congr 1;omega
   have hy:B[m]? =some B[m]:=List.getElem?_eq_getElem (by omega);generalize B[m]=y at hy;have hyB:y∈B:=List.mem_of_getElem? hy;have gx:(fs (X++x::B++Y))[X.length]? =some x.1:=by simp[fs]
   have gy:(fs (X++x::B++Y))[X.length+1+m]? =some y.1:=by
    have:fs (X++x::B++Y)=fs (X++[x])++fs B++fs Y:=by simp[fs]
    rw[this,show X.length+1+m=(fs (X++[x])).length+m by simp[fs],g82 _ _ _ (by simp[fs];omega)];simp[fs,hy]
   have e1:wI (((X.length+1+m:Nat):Int)+1)=((X.length+1+(m+1):Nat):Int):=by rw[wI,C7 (by omega)];omega
   have cmpS:C y.1 x.1 (cm y.1 x.1):=hC _ _ (hB y hyB) hx
   by_cases hlt:cm y.1 x.1<0
   ·obtain⟨S,q1,q2,q3⟩:=ih (m+1) q (by omega) (by omega) h3 (fun z hz=>by
     obtain⟨t,ht1⟩:=List.mem_iff_getElem?.1 hz;rw[List.getElem?_take]at ht1;split at ht1
     ·rename_i htm
      by_cases e:t=m
      ·subst e;rw[hy]at ht1;cases ht1;exact .inl hlt
      ·have hzy:Rt cm z y:=by
        obtain⟨l1,g1⟩:=List.getElem?_eq_some_iff.1 ht1;obtain⟨l2,g2⟩:=List.getElem?_eq_some_iff.1 hy;rw[<-g1,<-g2];exact List.pairwise_iff_getElem.1 hs t m l1 l2 (by omega)
       exact Rt.trans hp (hB z (List.mem_of_getElem? ht1)) (hB y hyB) hx hzy (.inl hlt)
     ·cases ht1) hQ
    refine⟨S,q1,q2,F.h_sy4 _ _ _ _ _ _ ⟨fun _=>?_,fun h=>by simp at h;omega⟩⟩;rw[hh',e1];exact⟨by omega,y.1,by rw[Int.toNat_natCast];exact gy,by omega,x.1,by rw[Int.toNat_natCast];exact gx,_,cmpS,fun _=>q3,fun h=>by simp at h;omega⟩
   ·obtain⟨S,q1,q2,q3⟩:=ih p m (by omega) (by omega) (by omega) hP (fun z hz=>by
     have hxy:Rt cm x y:=Rt.of_not hp (hB y hyB) hx hlt (ht y hyB);obtain⟨t,ht1⟩:=List.mem_iff_getElem?.1 hz;rw[List.getElem?_drop]at ht1
     by_cases e:t=0
     ·subst e;rw[Nat.add_zero,hy]at ht1;cases ht1;exact hxy
     ·have hyz:Rt cm y z:=by
       obtain⟨l1,g1⟩:=List.getElem?_eq_some_iff.1 ht1;obtain⟨l2,g2⟩:=List.getElem?_eq_some_iff.1 hy;rw[<-g1,<-g2];exact List.pairwise_iff_getElem.1 hs m (m+t) l2 l1 (by omega)
      exact Rt.trans hp hx (hB y hyB) (hB z (List.mem_of_getElem? ht1)) hxy hyz)
    refine⟨S,q1,q2,F.h_sy4 _ _ _ _ _ _ ⟨fun _=>?_,fun h=>by simp at h;omega⟩⟩;rw[hh'];exact⟨by omega,y.1,by rw[Int.toNat_natCast];exact gy,by omega,x.1,by rw[Int.toNat_natCast];exact gx,_,cmpS,fun h=>absurd (of_decide_eq_true h) hlt,fun _=>q3⟩
theorem f4q{n0:Nat}(hn:n0<=1125899906842624)(X A Y:List (α × Nat))(y:α × Nat)(hy':Dm y.1)(hA:∀x∈A,Dm x.1)(hs:Srt cm A)(ht:∀x∈A,x.2<y.2)(h0:n0=X.length+A.length+1+Y.length):∀(k p q:Nat),q - p<=k->p<=q->q<=A.length->(∀x∈A.take p,Rt cm x y)->(∀x∈A.drop q,Rt cm y x)->
  ∃S,Srt cm S/\S.Perm (A++[y])/\F.sy10 ((X.length+q:Nat):Int) ((X.length+p:Nat):Int) n0 ((X.length+A.length:Nat):Int) (fs (X++A++y::Y)) (fs (X++S++Y)):=by
 intro k
 induction k with
 |zero=>
  intro p q h1 h2 h3 hP hQ;obtain rfl:p=q:=by omega
  refine⟨A.take p++y::A.drop p,?_,?_,?_⟩
  ·refine List.pairwise_append.2 ⟨hs.sublist (List.take_sublist _ _),List.pairwise_cons.2 ⟨hQ,hs.sublist (List.drop_sublist _ _)⟩,fun a ha b hb=>?_⟩;rcases List.mem_cons.1 hb with h|h
   ·rw[h];exact hP a ha
   ·exact Rt.trans hp (hA a (List.mem_of_mem_take ha)) hy' (hA b (List.mem_of_mem_drop h)) (hP a ha) (hQ b h)
  ·exact List.perm_middle.trans (by rw[List.take_append_drop];exact(List.perm_append_singleton y A).symm)
  ·refine F.h_sy10 _ _ _ _ _ _ ⟨fun h=>by simp at h,fun _=>?_⟩;have hlt:(A.take p).length=p:=by simp;omega
   have hld:(A.drop p).length=A.length - p:=by simp
   have:=f3d F hn (fs (X++A.take p)) (fs Y) y.1 (X.length+p) (by simp[fs];omega) _ (fs (A.drop p)) [] rfl (by simp[fs];omega);have g0:(fs (X++A.take p)).length+(fs (A.drop p)).length=X.length+A.length:=by simp[fs];omega
   have g1:fs (X++A.take p)++fs (A.drop p)++y.1::[]++fs Y=fs (X++A++y::Y):=by
    conv=>rhs;rw[<-List.take_append_drop p A]
    simp[fs]
   have g2:fs (X++A.take p)++y.1::fs (A.drop p)++[]++fs Y=fs (X++(A.take p++y::A.drop p)++Y):=by simp[fs]
   rw[g0,g1,g2]at this;exact this
 |succ k ih=>
  intro p q h1 h2 h3 hP hQ
  by_cases hpq:p=q
  ·exact ih p q (by omega) h2 h3 hP hQ
  ·have hh:hI ((X.length+p:Nat):Int) ((X.length+q:Nat):Int)=(((X.length+p+(X.length+q)) / 2:Nat):Int):=c9z (by omega) (by omega);generalize hm:(X.length+p+(X.length+q)) / 2 - X.length=m;have hm1:p<=m/\m<q:=by omega
   have hh':hI ((X.length+p:Nat):Int) ((X.length+q:Nat):Int)=((X.length+m:Nat):Int):=by rw[hh];congr 1;omega
   have hx:A[m]? =some A[m]:=List.getElem?_eq_getElem (by omega);generalize A[m]=x at hx;have hxA:x∈A:=List.mem_of_getElem? hx
   have gy:(fs (X++A++y::Y))[X.length+A.length]? =some y.1:=by
    have:fs (X++A++y::Y)=fs (X++A)++y.1::fs Y:=by simp[fs]
    rw[this,show X.length+A.length=(fs (X++A)).length by simp[fs]];simp
   have gx:(fs (X++A++y::Y))[X.length+m]? =some x.1:=by
    have:fs (X++A++y::Y)=fs X++fs A++fs (y::Y):=by simp[fs]
    rw[this,show X.length+m=(fs X).length+m by simp[fs],g82 _ _ _ (by simp[fs];omega)];simp[fs,hx]
   have e1:wI (((X.length+m:Nat):Int)+1)=((X.length+(m+1):Nat):Int):=by rw[wI,C7 (by omega)];omega
   have cmpS:C y.1 x.1 (cm y.1 x.1):=hC _ _ hy' (hA x hxA)
   by_cases hlt:cm y.1 x.1<0
   ·obtain⟨S,q1,q2,q3⟩:=ih p m (by omega) (by omega) (by omega) hP (fun z hz=>by
     obtain⟨t,ht1⟩:=List.mem_iff_getElem?.1 hz;rw[List.getElem?_drop]at ht1
     by_cases e:t=0
     ·subst e;rw[Nat.add_zero,hx]at ht1;cases ht1;exact .inl hlt
     ·have hxz:Rt cm x z:=by
       obtain⟨l1,g1⟩:=List.getElem?_eq_some_iff.1 ht1;obtain⟨l2,g2⟩:=List.getElem?_eq_some_iff.1 hx;rw[<-g1,<-g2];exact List.pairwise_iff_getElem.1 hs m (m+t) l2 l1 (by omega)
      exact Rt.trans hp hy' (hA x hxA) (hA z (List.mem_of_getElem? ht1)) (.inl hlt) hxz)
    refine⟨S,q1,q2,F.h_sy10 _ _ _ _ _ _ ⟨fun _=>?_,fun h=>by simp at h;omega⟩⟩;rw[hh'];exact⟨by omega,y.1,by rw[Int.toNat_natCast];exact gy,by omega,x.1,by rw[Int.toNat_natCast];exact gx,_,cmpS,fun h=>by simp at h;omega,fun _=>q3⟩
   ·obtain⟨S,q1,q2,q3⟩:=ih (m+1) q (by omega) (by omega) h3 (fun z hz=>by
     have hxy:Rt cm x y:=Rt.of_not hp hy' (hA x hxA) hlt (ht x hxA);obtain⟨t,ht1⟩:=List.mem_iff_getElem?.1 hz;rw[List.getElem?_take]at ht1;split at ht1
     ·rename_i htm
      by_cases e:t=m
      ·subst e;rw[hx]at ht1;cases ht1;exact hxy
      ·have hzx:Rt cm z x:=by
        obtain⟨l1,g1⟩:=List.getElem?_eq_some_iff.1 ht1;obtain⟨l2,g2⟩:=List.getElem?_eq_some_iff.1 hx;rw[<-g1,<-g2];exact List.pairwise_iff_getElem.1 hs t m l1 l2 (by omega)
       exact Rt.trans hp (hA z (List.mem_of_getElem? ht1)) (hA x hxA) hy' hzx hxy
     ·cases ht1) hQ
    refine⟨S,q1,q2,F.h_sy10 _ _ _ _ _ _ ⟨fun _=>?_,fun h=>by simp at h;omega⟩⟩;rw[hh',e1];exact⟨by omega,y.1,by rw[Int.toNat_natCast];exact gy,by omega,x.1,by rw[Int.toNat_natCast];exact gx,_,cmpS,fun _=>q3,fun h=>by simp at h;omega⟩
end
section
variable {α:Type}{C:α->α->Int->Prop}{cm:α->α->Int}{Dm:α->Prop}
theorem f9t(hp:Pre cm Dm){A1 A2 B1 B2:List (α × Nat)}(hD:∀x∈(A1++A2)++(B1++B2),Dm x.1)(hA:Srt cm (A1++A2))(hB:Srt cm (B1++B2))
  (f1:A1=[]\/B2=[]\/∃U x y V,A1=U++[x]/\B2=y::V/\Rt cm x y) (f2:B1=[]\/A2=[]\/∃U x y V,B1=U++[x]/\A2=y::V/\Rt cm x y):∀x∈A1++B1,∀y∈A2++B2,Rt cm x y:=by
 have key:∀{P Q:List (α × Nat)},(∀x∈P,Dm x.1)->(∀x∈Q,Dm x.1)->Srt cm P->Srt cm Q->(P=[]\/Q=[]\/∃U x y V,P=U++[x]/\Q=y::V/\Rt cm x y)->∀x∈P,∀y∈Q,Rt cm x y:=by
  intro P Q dP dQ hP hQ f x hx y hy;rcases f with f|f|⟨U,u,v,V,rfl,rfl,huv⟩
  ·rw[f]at hx;cases hx
  ·rw[f]at hy;cases hy
  ·have h1:x=u\/Rt cm x u:=by
    rcases List.mem_append.1 hx with h|h
    ·exact .inr ((List.pairwise_append.1 hP).2.2 x h u (by simp))
    ·simp at h;exact .inl h
   have h2:y=v\/Rt cm v y:=by
    rcases List.mem_cons.1 hy with h|h
    ·exact .inl h
    ·exact .inr ((List.pairwise_cons.1 hQ).1 y h)
   have du:=dP u (by simp);have dv:=dQ v (by simp)
   have h3:Rt cm x v:=by
    rcases h1 with h|h
    ·rw[h];exact huv
    ·exact Rt.trans hp (dP x hx) du dv h huv
   rcases h2 with h|h
   ·rw[h];exact h3
   ·exact Rt.trans hp (dP x hx) dv (dQ y hy) h3 h
 obtain⟨a1,a2,a3⟩:=List.pairwise_append.1 hA;obtain⟨b1,b2,b3⟩:=List.pairwise_append.1 hB;intro x hx y hy;rcases List.mem_append.1 hx with hx|hx<;>rcases List.mem_append.1 hy with hy|hy
 ·exact a3 x hx y hy
 ·exact key (fun z hz=>hD z (by simp[hz])) (fun z hz=>hD z (by simp[hz])) a1 b2 f1 x hx y hy
 ·exact key (fun z hz=>hD z (by simp[hz])) (fun z hz=>hD z (by simp[hz])) b1 a2 f2 x hx y hy
 ·exact b3 x hx y hy
theorem b3f{n0:Nat}{l:List (α × Nat)}(h:l.length=n0)(h0:0<n0):fs l≠[]:=by
 intro h';have:=congrArg List.length h';simp only[fs,List.length_map,List.length_nil]at this;omega
variable (F:d5k α C) (hp:Pre cm Dm) (hC:∀x y,Dm x->Dm y->C x y (cm x y))
 include hp hC
def d4o(F:d5k α C)(cm:α->α->Int)(Dm:α->Prop)(n0 k:Nat):Prop:=∀(X A B Y:List (α × Nat)),A.length+B.length<=k->A≠[]->B≠[]->n0=X.length+A.length+B.length+Y.length->(∀x∈A++B,Dm x.1)->Srt cm A->Srt cm B->(∀x∈A,∀y∈B,x.2<y.2)->
 ∃S,Srt cm S/\S.Perm (A++B)/\F.sy n0 (fs (X++A++B++Y)) (X.length:Nat) ((X.length+A.length:Nat):Int) ((X.length+A.length+B.length:Nat):Int) (fs (X++S++Y))
theorem f5b{n0:Nat}(hn:n0<=1125899906842624)(k:Nat)(ih:d4o F cm Dm n0 k)(X A1 A2 B1 B2 Y:List (α × Nat))(a b m mid s:Nat)(ha:a=X.length)(hm:m=a+A1.length+A2.length)(hb:b=m+B1.length+B2.length)(hmid:mid=(a+b) / 2)(hs:s=a+A1.length)(hcut:A1.length+B1.length=mid - a)(h0:n0=b+Y.length)(hpos:a<mid/\mid<b)
  (hk:b - a<=k+1) (hD:∀x∈(A1++A2)++(B1++B2),Dm x.1) (hA:Srt cm (A1++A2)) (hB:Srt cm (B1++B2)) (ht:∀x∈A1++A2,∀y∈B1++B2,x.2<y.2) (hall:∀x∈A1++B1,∀y∈A2++B2,Rt cm x y):
  ∃S,Srt cm S/\S.Perm ((A1++A2)++(B1++B2))/\F.sy40 a b m s n0 (fs (X++A1++B1++A2++B2++Y)) (fs (X++S++Y)):=by
 have hmI:hI (a:Int) (b:Int)=(mid:Int):=by rw[c9z (by omega) (by omega),hmid]
 have e1:wI (wI ((mid:Int)+m) - s)=((mid+A2.length:Nat):Int):=by
  have:wI ((mid:Int)+m)=(mid:Int)+m:=by rw[wI,C7 (by omega)]
  rw[this,wI,C7 (by omega)];omega
 obtain⟨a1,a2,a3⟩:=List.pairwise_append.1 hA;obtain⟨b1,b2,b3⟩:=List.pairwise_append.1 hB
 -- the part c8s
 have first:∃S1,Srt cm S1/\S1.Perm (A1++B1)/\∀r,F.sy42 a b m s n0 (fs (X++S1++A2++B2++Y)) r->F.sy40 a b m s n0 (fs (X++A1++B1++A2++B2++Y)) r:=by
  by_cases hc:A1≠[]/\B1≠[]
  ·have c1:=List.length_pos_iff.2 hc.1;have c2:=List.length_pos_iff.2 hc.2;obtain⟨S1,q1,q2,q3⟩:=ih X A1 B1 (A2++B2++Y) (by omega) hc.1 hc.2 (by simp;omega) (fun x hx=>hD x (by simp at hx ⊢;grind)) a1 b1 (fun x hx y hy=>ht x (by simp[hx]) y (by simp[hy]));have hl:S1.length=A1.length+B1.length:=by rw[q2.length_eq];simp
   refine⟨S1,q1,q2,fun r hr=>F.h_sy40 _ _ _ _ _ _ _ ⟨fun _=>?_,fun h=>?_⟩⟩
   ·rw[hmI];refine⟨fs (X++S1++A2++B2++Y),?_,⟨b3f (n0:=n0) (by simp;omega) (by omega),b3f (n0:=n0) (by simp;omega) (by omega)⟩,hr⟩;have g1:((X.length+A1.length:Nat):Int)=(s:Int):=by omega
    have g2:((X.length+A1.length+B1.length:Nat):Int)=(mid:Int):=by omega
    rw[g1,g2,<-ha]at q3;simpa using q3
   ·rw[hmI]at h;simp only[Bool.and_eq_false_iff,decide_eq_false_iff_not]at h;omega
  ·refine⟨A1++B1,?_,.refl _,fun r hr=>F.h_sy40 _ _ _ _ _ _ _ ⟨fun h=>?_,fun _=>by simpa using hr⟩⟩
   ·rcases Classical.em (A1=[]) with h|h
    ·rw[h];simpa using b1
    ·have:B1=[]:=Classical.byContradiction fun h2=>hc ⟨h,h2⟩
     rw[this];simpa using a1
   ·rw[hmI]at h;simp only[Bool.and_eq_true,decide_eq_true_eq]at h;exact absurd ⟨fun h1=>by rw[h1]at hs;simp at hs;omega,fun h1=>by rw[h1]at hcut;simp at hcut;omega⟩ hc
 obtain⟨S1,p1,p2,p3⟩:=first;have hl1:S1.length=A1.length+B1.length:=by rw[p2.length_eq];simp
 have second:∃S2,Srt cm S2/\S2.Perm (A2++B2)/\F.sy42 a b m s n0 (fs (X++S1++A2++B2++Y)) (fs (X++S1++S2++Y)):=by
  by_cases hc:A2≠[]/\B2≠[]
  ·have c1:=List.length_pos_iff.2 hc.1;have c2:=List.length_pos_iff.2 hc.2;obtain⟨S2,q1,q2,q3⟩:=ih (X++S1) A2 B2 Y (by omega) hc.1 hc.2 (by simp;omega) (fun x hx=>hD x (by simp at hx ⊢;grind)) a2 b2 (fun x hx y hy=>ht x (by simp[hx]) y (by simp[hy]));have hl:S2.length=A2.length+B2.length:=by rw[q2.length_eq];simp
   refine⟨S2,q1,q2,F.h_sy42 _ _ _ _ _ _ _ ⟨fun _=>?_,fun h=>?_⟩⟩
   ·rw[hmI,e1];refine⟨fs (X++S1++S2++Y),?_,⟨b3f (n0:=n0) (by simp;omega) (by omega),b3f (n0:=n0) (by simp;omega) (by omega)⟩,b3f (n0:=n0) (by simp;omega) (by omega),rfl⟩;have g0:(((X++S1).length:Nat):Int)=(mid:Int):=by simp;omega
    have g1:(((X++S1).length+A2.length:Nat):Int)=((mid+A2.length:Nat):Int):=by simp;omega
    have g2:(((X++S1).length+A2.length+B2.length:Nat):Int)=(b:Int):=by simp;omega
    rw[g0,g1,g2]at q3;simpa using q3
   ·rw[hmI,e1]at h;simp only[Bool.and_eq_false_iff,decide_eq_false_iff_not]at h;omega
  ·refine⟨A2++B2,?_,.refl _,F.h_sy42 _ _ _ _ _ _ _ ⟨fun h=>?_,fun _=>⟨b3f (n0:=n0) (by simp;omega) (by omega),by simp⟩⟩⟩
   ·rcases Classical.em (A2=[]) with h|h
    ·rw[h];simpa using b2
    ·have:B2=[]:=Classical.byContradiction fun h2=>hc ⟨h,h2⟩
     rw[this];simpa using a2
   ·rw[hmI,e1]at h;simp only[Bool.and_eq_true,decide_eq_true_eq]at h;exact absurd ⟨fun h1=>by rw[h1]at h;simp at h,fun h1=>by rw[h1]at hb;simp at hb;omega⟩ hc
 obtain⟨S2,r1,r2,r3⟩:=second;refine⟨S1++S2,List.pairwise_append.2 ⟨p1,r1,fun x hx y hy=>hall x (p2.mem_iff.1 hx) y (r2.mem_iff.1 hy)⟩,?_,?_⟩
 ·refine(p2.append r2).trans ?_
  have:(A1++B1++(A2++B2)).Perm (A1++A2++(B1++B2)):=by
   simp only[List.append_assoc];refine List.Perm.append_left A1 ?_;rw[<-List.append_assoc,<-List.append_assoc];exact List.Perm.append_right B2 List.perm_append_comm
  exact this
 ·have:=p3 _ r3;simpa using this
end
section
variable {α:Type}{C:α->α->Int->Prop}{cm:α->α->Int}{Dm:α->Prop}
theorem b2d{l:List α}{k:Nat}(h:k<l.length):∃x,l[k]? =some x/\l.take (k+1)=l.take k++[x]/\l.drop k=x::l.drop (k+1):=by
 refine⟨l[k],List.getElem?_eq_getElem h,?_,List.drop_eq_getElem_cons h⟩;rw[List.take_add_one,List.getElem?_eq_getElem h];rfl
theorem g5i(hp:Pre cm Dm)(X A B Y:List (α × Nat))(a b m mid lo hi:Nat)(ha:a=X.length)(hm:m=a+A.length)(hb:b=m+B.length)(hmid:mid=(a+b) / 2)(hlh:(m<=mid/\lo=a/\hi=m)\/(mid<m/\lo=mid+m - b/\hi=mid))
  (hD:∀x∈A++B,Dm x.1) (hA:Srt cm A) (hB:Srt cm B) (s:Nat) (h2:lo<=s) (h4:s<=hi) (h5:s=lo\/∀x y,A[s - 1 - a]? =some x->B[mid - s]? =some y->Rt cm x y) (h6:s=hi\/∀x y,A[s - a]? =some x->B[mid - 1 - s]? =some y->Rt cm y x):
  ∀x∈A.take (s - a)++B.take (mid - s),∀y∈A.drop (s - a)++B.drop (mid - s),Rt cm x y:=by
 have hAs:A.take (s - a)++A.drop (s - a)=A:=List.take_append_drop _ _;have hBs:B.take (mid - s)++B.drop (mid - s)=B:=List.take_append_drop _ _;have l1:(A.take (s - a)).length=s - a:=by simp;omega
 have l2:(A.drop (s - a)).length=m - s:=by simp;omega
 have l3:(B.take (mid - s)).length=mid - s:=by simp;omega
 have l4:(B.drop (mid - s)).length=b - m - (mid - s):=by simp;omega
 have f1:A.take (s - a)=[]\/B.drop (mid - s)=[]\/∃U x y V,A.take (s - a)=U++[x]/\B.drop (mid - s)=y::V/\Rt cm x y:=by
  rcases h5 with h5|h5
  ·rcases hlh with⟨g1,g2,g3⟩|⟨g1,g2,g3⟩
   ·left;rw[h5,g2,Nat.sub_self];rfl
   ·right;left;exact List.drop_eq_nil_of_le (by omega)
  ·by_cases hs:s=a
   ·left;rw[hs,Nat.sub_self];rfl
   by_cases hb2:mid - s<B.length
   ·obtain⟨x,q1,q2,_⟩:=b2d (l:=A) (k:=s - 1 - a) (by omega);obtain⟨y,r1,_,r3⟩:=b2d (l:=B) (k:=mid - s) hb2;right;right;exact⟨_,x,y,_,by rw[<-q2];congr 1;omega,r3,h5 x y q1 r1⟩
   ·right;left;exact List.drop_eq_nil_of_le (by omega)
 have f2:B.take (mid - s)=[]\/A.drop (s - a)=[]\/∃U x y V,B.take (mid - s)=U++[x]/\A.drop (s - a)=y::V/\Rt cm x y:=by
  rcases h6 with h6|h6
  ·rcases hlh with⟨g1,g2,g3⟩|⟨g1,g2,g3⟩
   ·right;left;exact List.drop_eq_nil_of_le (by omega)
   ·left;rw[h6,g3,Nat.sub_self];rfl
  ·by_cases hs:mid=s
   ·left;rw[hs,Nat.sub_self];rfl
   by_cases ha2:s - a<A.length
   ·obtain⟨x,q1,_,q3⟩:=b2d (l:=A) (k:=s - a) ha2;obtain⟨y,r1,r2,_⟩:=b2d (l:=B) (k:=mid - 1 - s) (by omega);right;right;exact⟨_,y,x,_,by rw[<-r2];congr 1;omega,q3,h6 x y q1 r1⟩
   ·right;left;exact List.drop_eq_nil_of_le (by omega)
 exact f9t hp (A1:=A.take (s - a)) (A2:=A.drop (s - a)) (B1:=B.take (mid - s)) (B2:=B.drop (mid - s)) (by rw[hAs,hBs];exact hD) (by rw[hAs];exact hA) (by rw[hBs];exact hB) f1 f2
variable (F:d5k α C) (hp:Pre cm Dm) (hC:∀x y,Dm x->Dm y->C x y (cm x y))
 include hp hC
theorem f29{n0:Nat}(hn:n0<=1125899906842624)(k:Nat)(ih:d4o F cm Dm n0 k)(X A B Y:List (α × Nat))(a b m mid lo hi:Nat)(ha:a=X.length)(hm:m=a+A.length)(hb:b=m+B.length)(hmid:mid=(a+b) / 2)(hlh:(m<=mid/\lo=a/\hi=m)\/(mid<m/\lo=mid+m - b/\hi=mid))
  (hD:∀x∈A++B,Dm x.1) (hA:Srt cm A) (hB:Srt cm B) (h0:n0=b+Y.length) (hA0:A≠[]) (hB0:B≠[]) (hk:b - a<=k+1) (ht:∀x∈A,∀y∈B,x.2<y.2) (s:Nat) (h2:lo<=s) (h4:s<=hi) (h5:s=lo\/∀x y,A[s - 1 - a]? =some x->B[mid - s]? =some y->Rt cm x y) (h6:s=hi\/∀x y,A[s - a]? =some x->B[mid - 1 - s]? =some y->Rt cm y x):
  ∃S,Srt cm S/\S.Perm (A++B)/\F.sy36 a b m s s n0 (fs (X++A++B++Y)) (fs (X++S++Y)):=by
 have al:=List.length_pos_iff.2 hA0;have bl:=List.length_pos_iff.2 hB0;have bnd:a<=s/\s<=m/\s<=mid/\mid+m<=b+s/\a<mid/\mid<b:=by omega
 have hmI:hI (a:Int) (b:Int)=(mid:Int):=by rw[c9z (by omega) (by omega),hmid]
 have emm:wI ((mid:Int)+m)=((mid+m:Nat):Int):=by rw[wI,C7 (by omega)];omega
 have hall:=g5i hp X A B Y a b m mid lo hi ha hm hb hmid hlh hD hA hB s h2 h4 h5 h6;clear h5 h6 h2 h4 hlh;have hAs:A.take (s - a)++A.drop (s - a)=A:=List.take_append_drop _ _;have hBs:B.take (mid - s)++B.drop (mid - s)=B:=List.take_append_drop _ _;have l1:(A.take (s - a)).length=s - a:=by simp;omega
 have l2:(A.drop (s - a)).length=m - s:=by simp;omega
 have l3:(B.take (mid - s)).length=mid - s:=by simp;omega
 have l4:(B.drop (mid - s)).length=b - m - (mid - s):=by simp;omega
 obtain⟨S,p1,p2,p3⟩:=f5b F hp hC hn k ih X (A.take (s - a)) (A.drop (s - a)) (B.take (mid - s)) (B.drop (mid - s)) Y a b m mid s ha (by omega) (by omega) hmid (by omega) (by omega) h0 (by omega) hk (by rw[hAs,hBs];exact hD) (by rw[hAs];exact hA) (by rw[hBs];exact hB) (by rw[hAs,hBs];exact ht) hall;rw[hAs,hBs]at p2;have e1:wI (((mid+m:Nat):Int) - s)=((mid+m - s:Nat):Int):=by rw[wI,C7 (by omega)];omega
 refine⟨S,p1,p2,F.h_sy36 _ _ _ _ _ _ _ _ ⟨fun h=>by simp at h,fun _=>?_⟩⟩;rw[hmI,emm,e1]
 have hin:fs (X++A++B++Y)=fs (X++A.take (s - a))++fs (A.drop (s - a))++fs (B.take (mid - s))++fs (B.drop (mid - s)++Y):=by
  have:X++A++B++Y=X++(A.take (s - a)++A.drop (s - a))++(B.take (mid - s)++B.drop (mid - s))++Y:=by rw[hAs,hBs]
  rw[this];simp only[fs,List.map_append,List.append_assoc]
 have hout:fs (X++A.take (s - a))++fs (B.take (mid - s))++fs (A.drop (s - a))++fs (B.drop (mid - s)++Y)=fs (X++A.take (s - a)++B.take (mid - s)++A.drop (s - a)++B.drop (mid - s)++Y):=by simp only[fs,List.map_append,List.append_assoc]
 refine⟨fun h=>?_,fun h=>?_⟩
 ·simp only[Bool.and_eq_true,decide_eq_true_eq]at h;have hr:=g8t F hn (fs (X++A.take (s - a))) (fs (A.drop (s - a))) (fs (B.take (mid - s))) (fs (B.drop (mid - s)++Y)) (a:=s) (m:=m) (b:=mid+m - s) (by simp only[fs,List.length_map,List.length_append];omega) (by simp only[fs,List.length_map];omega) (by simp only[fs,List.length_map];omega) (by simp only[fs,List.length_map,List.length_append];omega) (fun h'=>by have:=congrArg List.length h';simp only[fs,List.length_map,List.length_nil]at this;omega) (fun h'=>by have:=congrArg List.length h';simp only[fs,List.length_map,List.length_nil]at this;omega);rw[<-hin,hout]at hr;exact⟨_,hr,⟨b3f (n0:=n0) (by simp only[List.length_append];omega) (by omega),b3f (n0:=n0) (by simp only[List.length_append];omega) (by omega)⟩,p3⟩
 ·simp only[Bool.and_eq_false_iff,decide_eq_false_iff_not]at h
  have heq:fs (X++A++B++Y)=fs (X++A.take (s - a)++B.take (mid - s)++A.drop (s - a)++B.drop (mid - s)++Y):=by
   rw[hin,<-hout]
   have:A.drop (s - a)=[]\/B.take (mid - s)=[]:=by
    rcases h with h|h
    ·left;exact List.drop_eq_nil_of_le (by omega)
    ·right;exact List.eq_nil_of_length_eq_zero (by omega)
   rcases this with e|e<;>rw[e]<;>simp[fs]
  rw[heq];exact p3
theorem e1p{n0:Nat}(hn:n0<=1125899906842624)(k:Nat)(ih:d4o F cm Dm n0 k)(X A B Y:List (α × Nat))(a b m mid lo hi:Nat)(ha:a=X.length)(hm:m=a+A.length)(hb:b=m+B.length)(hmid:mid=(a+b) / 2)(h0:n0=b+Y.length)(hA0:A≠[])(hB0:B≠[])(hk:b - a<=k+1)(hlh:(m<=mid/\lo=a/\hi=m)\/(mid<m/\lo=mid+m - b/\hi=mid))
  (hD:∀x∈A++B,Dm x.1) (hA:Srt cm A) (hB:Srt cm B) (ht:∀x∈A,∀y∈B,x.2<y.2):∀(d s t:Nat),t - s<=d->lo<=s->s<=t->t<=hi->
  (s=lo\/∀x y,A[s - 1 - a]? =some x->B[mid - s]? =some y->Rt cm x y)->(t=hi\/∀x y,A[t - a]? =some x->B[mid - 1 - t]? =some y->Rt cm y x)->
  ∃S,Srt cm S/\S.Perm (A++B)/\F.sy36 a b m t s n0 (fs (X++A++B++Y)) (fs (X++S++Y)):=by
 have al:=List.length_pos_iff.2 hA0;have bl:=List.length_pos_iff.2 hB0;have hmI:hI (a:Int) (b:Int)=(mid:Int):=by rw[c9z (by omega) (by omega),hmid]
 have emm:wI ((mid:Int)+m)=((mid+m:Nat):Int):=by rw[wI,C7 (by omega)];omega
 intro d
 induction d with
 |zero=>
  intro s t h1 h2 h3 h4 h5 h6;obtain rfl:s=t:=by omega
  exact f29 F hp hC hn k ih X A B Y a b m mid lo hi ha hm hb hmid hlh hD hA hB h0 hA0 hB0 hk ht s h2 h4 h5 h6
 |succ d ihd=>
  intro s t h1 h2 h3 h4 h5 h6
  by_cases hst:s=t
  ·exact ihd s t (by omega) h2 h3 h4 h5 h6
  have hcI:hI (s:Int) (t:Int)=(((s+t) / 2:Nat):Int):=c9z (by omega) (by omega);generalize hcd:(s+t) / 2=c at hcI;have hc:s<=c/\c<t:=by omega
  have hcA:c - a<A.length/\a<=c:=by omega
  have hcB:mid - 1 - c<B.length/\c<mid:=by omega
  obtain⟨x,hx,_,_⟩:=b2d hcA.1;obtain⟨y,hy,_,_⟩:=b2d hcB.1;have hxA:=List.mem_of_getElem? hx;have hyB:=List.mem_of_getElem? hy
  have gx:(fs (X++A++B++Y))[c]? =some x.1:=by
   have:fs (X++A++B++Y)=fs X++fs A++fs (B++Y):=by simp[fs]
   rw[this,show c=(fs X).length+(c - a) by simp[fs];omega,g82 _ _ _ (by simp[fs];omega)];simp[fs,hx]
  have gy:(fs (X++A++B++Y))[mid+m - 1 - c]? =some y.1:=by
   have:fs (X++A++B++Y)=fs (X++A)++fs B++fs Y:=by simp[fs]
   rw[this,show mid+m - 1 - c=(fs (X++A)).length+(mid - 1 - c) by simp[fs];omega,g82 _ _ _ (by simp[fs];omega)];simp[fs,hy]
  have e1:wI (((mid+m:Nat):Int) - 1)=((mid+m - 1:Nat):Int):=by rw[wI,C7 (by omega)];omega
  have e2:wI (((mid+m - 1:Nat):Int) - (c:Int))=((mid+m - 1 - c:Nat):Int):=by rw[wI,C7 (by omega)];omega
  have e3:wI ((c:Int)+1)=((c+1:Nat):Int):=by rw[wI,C7 (by omega)];omega
  have cmpS:C y.1 x.1 (cm y.1 x.1):=hC _ _ (hD y (by simp[hyB])) (hD x (by simp[hxA]))
  by_cases hlt:cm y.1 x.1<0
  ·obtain⟨S,q1,q2,q3⟩:=ihd s c (by omega) h2 (by omega) (by omega) h5 (.inr fun x' y' hx' hy'=>by
    rw[hx]at hx';cases hx';rw[hy]at hy';cases hy';exact .inl hlt)
   refine⟨S,q1,q2,F.h_sy36 _ _ _ _ _ _ _ _ ⟨fun _=>?_,fun h=>by simp at h;omega⟩⟩;rw[hmI,emm,e1,hcI,e2];exact⟨by omega,y.1,by rw[Int.toNat_natCast];exact gy,by omega,x.1,by rw[Int.toNat_natCast];exact gx,_,cmpS,fun h=>by simp at h;omega,fun _=>q3⟩
  ·obtain⟨S,q1,q2,q3⟩:=ihd (c+1) t (by omega) (by omega) (by omega) h4 (.inr fun x' y' hx' hy'=>by
    rw[show c+1 - 1 - a=c - a by omega,hx]at hx';cases hx';rw[show mid - (c+1)=mid - 1 - c by omega,hy]at hy';cases hy';exact Rt.of_not hp (hD y (by simp[hyB])) (hD x (by simp[hxA])) hlt (ht x hxA y hyB)) h6
   refine⟨S,q1,q2,F.h_sy36 _ _ _ _ _ _ _ _ ⟨fun _=>?_,fun h=>by simp at h;omega⟩⟩;rw[hmI,emm,e1,hcI,e2,e3];exact⟨by omega,y.1,by rw[Int.toNat_natCast];exact gy,by omega,x.1,by rw[Int.toNat_natCast];exact gx,_,cmpS,fun _=>q3,fun h=>by simp at h;omega⟩
theorem f8l{n0:Nat}(hn:n0<=1125899906842624):∀k,d4o F cm Dm n0 k:=by
 intro k
 induction k with
 |zero=>
  intro X A B Y hk hA;exact absurd (List.eq_nil_of_length_eq_zero (by omega)) hA
 |succ k ih=>
  intro X A B Y hk hA0 hB0 h0 hD hA hB ht;have al:=List.length_pos_iff.2 hA0;have bl:=List.length_pos_iff.2 hB0;have e1:wI (((X.length+A.length:Nat):Int) - (X.length:Nat))=(A.length:Int):=by rw[wI,C7 (by omega)];omega
  have e2:wI (((X.length+A.length+B.length:Nat):Int) - ((X.length+A.length:Nat):Int))=(B.length:Int):=by rw[wI,C7 (by omega)];omega
  by_cases c1:A.length=1
  ·obtain⟨x,rfl⟩:=List.length_eq_one_iff.1 c1;obtain⟨S,q1,q2,q3⟩:=g1d F hp hC hn X B Y x (hD x (by simp)) (fun y hy=>hD y (by simp[hy])) hB (fun y hy=>ht x (by simp) y hy) (by simp at h0;omega) B.length 0 B.length (by omega) (by omega) (by omega) (fun y hy=>by simp at hy) (fun y hy=>by simp at hy);refine⟨S,q1,by simpa using q2,F.h_sy _ _ _ _ _ _ ⟨fun _=>?_,fun h=>by rw[e1]at h;simp at h⟩⟩;simpa using q3
  by_cases c2:B.length=1
  ·obtain⟨y,rfl⟩:=List.length_eq_one_iff.1 c2;obtain⟨S,q1,q2,q3⟩:=f4q F hp hC hn X A Y y (hD y (by simp)) (fun x hx=>hD x (by simp[hx])) hA (fun x hx=>ht x hx y (by simp)) (by simp at h0;omega) A.length 0 A.length (by omega) (by omega) (by omega) (fun y hy=>by simp at hy) (fun y hy=>by simp at hy);refine⟨S,q1,q2,F.h_sy _ _ _ _ _ _ ⟨fun h=>by rw[e1]at h;simp at h;omega,fun _=>⟨fun _=>?_,fun h=>by rw[e2]at h;simp at h⟩⟩⟩;simpa using q3
  ·have hmI:hI ((X.length:Nat):Int) ((X.length+A.length+B.length:Nat):Int)=(((X.length+(X.length+A.length+B.length)) / 2:Nat):Int):=c9z (by omega) (by omega);generalize hmid:(X.length+(X.length+A.length+B.length)) / 2=mid at hmI;rcases Nat.lt_or_ge mid (X.length+A.length) with hlt|hge
   ·have em:wI (wI ((mid:Int)+((X.length+A.length:Nat):Int)) - ((X.length+A.length+B.length:Nat):Int))=((mid+(X.length+A.length) - (X.length+A.length+B.length):Nat):Int):=by
     have:wI ((mid:Int)+((X.length+A.length:Nat):Int))=(mid:Int)+((X.length+A.length:Nat):Int):=by rw[wI,C7 (by omega)]
     rw[this,wI,C7 (by omega)];omega
    obtain⟨S,q1,q2,q3⟩:=e1p F hp hC hn k ih X A B Y X.length (X.length+A.length+B.length) (X.length+A.length) mid (mid+(X.length+A.length) - (X.length+A.length+B.length)) mid rfl rfl rfl hmid.symm (by omega) hA0 hB0 (by omega) (.inr ⟨hlt,rfl,rfl⟩) hD hA hB ht mid (mid+(X.length+A.length) - (X.length+A.length+B.length)) mid (by omega) (Nat.le_refl _) (by omega) (Nat.le_refl _) (.inl rfl) (.inl rfl);refine⟨S,q1,q2,F.h_sy _ _ _ _ _ _ ⟨fun h=>by rw[e1]at h;simp at h;omega,fun _=>⟨fun h=>by rw[e2]at h;simp at h;omega,fun _=>⟨fun _=>F.h_sy28 _ _ _ _ _ _ _ _ ?_,fun h=>by rw[hmI]at h;simp at h;omega⟩⟩⟩⟩;rw[hmI,em];exact q3
   ·obtain⟨S,q1,q2,q3⟩:=e1p F hp hC hn k ih X A B Y X.length (X.length+A.length+B.length) (X.length+A.length) mid X.length (X.length+A.length) rfl rfl rfl hmid.symm (by omega) hA0 hB0 (by omega) (.inl ⟨hge,rfl,rfl⟩) hD hA hB ht (X.length+A.length) X.length (X.length+A.length) (by omega) (Nat.le_refl _) (by omega) (Nat.le_refl _) (.inl rfl) (.inl rfl);refine⟨S,q1,q2,F.h_sy _ _ _ _ _ _ ⟨fun h=>by rw[e1]at h;simp at h;omega,fun _=>⟨fun h=>by rw[e2]at h;simp at h;omega,fun _=>⟨fun h=>by rw[hmI]at h;simp at h;omega,fun _=>F.h_sy28 _ _ _ _ _ _ _ _ q3⟩⟩⟩⟩
end
section
variable {α:Type}{C:α->α->Int->Prop}{cm:α->α->Int}{Dm:α->Prop}
inductive e5x(cm:α->α->Int)(k:Nat):List (α × Nat)->Prop
 |last (S:List (α × Nat)) (h:Srt cm S) (hl:S.length<=k):e5x cm k S
 |cons (S L:List (α × Nat)) (h:Srt cm S) (hl:S.length=k) (hr:e5x cm k L) (ht:∀x∈S,∀y∈L,x.2<y.2):e5x cm k (S++L)
theorem e5x.sorted{k:Nat}(hk:0<k){L:List (α × Nat)}(h:e5x cm k L)(hl:L.length<=k):Srt cm L:=by
 cases h with
 |last _ h _=>exact h
 |cons S L h hl' hr ht=>
  have:L=[]:=List.eq_nil_of_length_eq_zero (by simp at hl;omega);rw[this];simpa using h
theorem e5x.first{k:Nat}{L:List (α × Nat)}(h:e5x cm k L)(hl:k<=L.length):∃S M,L=S++M/\Srt cm S/\S.length=k/\e5x cm k M/\∀x∈S,∀y∈M,x.2<y.2:=by
 cases h with
 |last _ h hl'=>exact⟨L,[],by simp,h,by omega,.last [] .nil (Nat.zero_le _),fun x _ y hy=>by cases hy⟩
 |cons S M h hl' hr ht=>exact⟨S,M,rfl,h,hl',hr,ht⟩
variable (F:d5k α C) (hp:Pre cm Dm) (hC:∀x y,Dm x->Dm y->C x y (cm x y))
 include hp hC
theorem f5j{n0:Nat}(hn:n0<=1125899906842624)(k n:Nat)(hk:0<k/\k<n)(hnn:n=n0):∀(d:Nat) (M L:List (α × Nat)),L.length<=d->n=M.length+L.length->(∀x∈L,Dm x.1)->e5x cm k L->
  ∃L',e5x cm (2*k) L'/\L'.Perm L/\∀r,F.st12 ((2*k:Nat):Int) n0 n (fs (M++L')) r->F.st14 ((M.length+2*k:Nat):Int) (M.length:Nat) k n0 n (fs (M++L)) r:=by
 have e2:wI ((k:Int)*2)=((2*k:Nat):Int):=by rw[wI,C7 (by omega)];omega
 have e3:wI (2*(k:Int))=((2*k:Nat):Int):=by rw[wI,C7 (by omega)];omega
 intro d
 induction d with
 |zero=>
  intro M L hd hl hD hr;have:L=[]:=List.eq_nil_of_length_eq_zero (by omega);subst this;simp only[List.length_nil]at hl;have e1:wI ((M.length:Int)+k)=((M.length+k:Nat):Int):=by rw[wI,C7 (by omega)];omega
  refine⟨[],.last [] .nil (Nat.zero_le _),.refl _,fun r hr'=>F.h_st14 _ _ _ _ _ _ _ ⟨fun h=>by simp at h;omega,fun _=>⟨fun h=>by rw[e1]at h;simp at h;omega,fun _=>by rw[e2];exact hr'⟩⟩⟩
 |succ d ih=>
  intro M L hd hl hD hr;have e1:wI ((M.length:Int)+k)=((M.length+k:Nat):Int):=by rw[wI,C7 (by omega)];omega
  have e4:wI (((M.length+2*k:Nat):Int)+((2*k:Nat):Int))=((M.length+2*k+2*k:Nat):Int):=by rw[wI,C7 (by omega)];omega
  rcases Nat.lt_or_ge L.length (2*k) with hlt|hge
  ·rcases Nat.lt_or_ge k L.length with hk2|hk2
   ·obtain⟨S1,S2,rfl,h1,h2,h3,h4⟩:=hr.first (by omega);have hl2:(S1++S2).length=S1.length+S2.length:=by simp
    have h5:Srt cm S2:=h3.sorted hk.1 (by omega);obtain⟨T,q1,q2,q3⟩:=f8l F hp hC hn _ M S1 S2 [] (Nat.le_refl _) (fun h=>by rw[h]at h2;simp at h2;omega) (fun h=>by subst h;simp at hk2;omega) (by simp;omega) hD h1 h5 h4;have ql:T.length=S1.length+S2.length:=by rw[q2.length_eq];simp
    refine⟨T,.last T q1 (by omega),q2,fun r hr'=>F.h_st14 _ _ _ _ _ _ _ ⟨fun h=>by simp at h;omega,fun _=>⟨fun _=>?_,fun h=>by rw[e1]at h;simp at h;omega⟩⟩⟩;rw[e1,e2];refine⟨fs (M++T),?_,⟨b3f (n0:=n0) (by simp;omega) (by omega),b3f (n0:=n0) (by simp;omega) (by omega)⟩,hr'⟩;rw[show M.length+k=M.length+S1.length by omega,show(n:Int)=((M.length+S1.length+S2.length:Nat):Int) by omega];simpa using q3
   ·refine⟨L,.last L (hr.sorted hk.1 hk2) (by omega),.refl _,fun r hr'=>F.h_st14 _ _ _ _ _ _ _ ⟨fun h=>by simp at h;omega,fun _=>⟨fun h=>by rw[e1]at h;simp at h;omega,fun _=>by rw[e2];exact hr'⟩⟩⟩
  ·obtain⟨S1,L1,rfl,h1,h2,h3,h4⟩:=hr.first (by omega);have hl1:(S1++L1).length=S1.length+L1.length:=by simp
   obtain⟨S2,L2,rfl,g1,g2,g3,g4⟩:=h3.first (by omega);have hl2:(S2++L2).length=S2.length+L2.length:=by simp
   obtain⟨T,q1,q2,q3⟩:=f8l F hp hC hn _ M S1 S2 L2 (Nat.le_refl _) (fun h=>by rw[h]at h2;simp at h2;omega) (fun h=>by rw[h]at g2;simp at g2;omega) (by omega) (fun x hx=>hD x (by simp at hx ⊢;grind)) h1 g1 (fun x hx y hy=>h4 x hx y (by simp[hy]));have ql:T.length=S1.length+S2.length:=by rw[q2.length_eq];simp
   obtain⟨L',p1,p2,p3⟩:=ih (M++T) L2 (by omega) (by simp;omega) (fun x hx=>hD x (by simp[hx])) g3;refine⟨T++L',.cons T L' q1 (by omega) p1 (fun x hx y hy=>?_),?_,fun r hr'=>F.h_st14 _ _ _ _ _ _ _ ⟨fun _=>?_,fun h=>by simp at h;omega⟩⟩
   ·have hy2:=p2.mem_iff.1 hy;rcases List.mem_append.1 (q2.mem_iff.1 hx) with h|h
    ·exact h4 x h y (by simp[hy2])
    ·exact g4 x h y hy2
   ·have:=q2.append p2;simpa[List.append_assoc]using this
   ·rw[e1,e3,e4];refine⟨fs (M++T++L2),?_,⟨b3f (n0:=n0) (by simp;omega) (by omega),b3f (n0:=n0) (by simp;omega) (by omega)⟩,?_⟩
    ·rw[show M.length+k=M.length+S1.length by omega,show M.length+2*k=M.length+S1.length+S2.length by omega];simpa using q3
    ·have:=p3 r (by simpa using hr');have gl:(M++T).length=M.length+2*k:=by simp;omega
     rw[gl]at this;exact this
theorem f3u{n0:Nat}(hn:n0<=1125899906842624)(hpos:0<n0):∀(d k:Nat) (L:List (α × Nat)),n0 - k<=d->0<k->k<=2*n0+20->L.length=n0->(∀x∈L,Dm x.1)->e5x cm k L->∃S,Srt cm S/\S.Perm L/\F.st12 k n0 (n0:Nat) (fs L) (fs S):=by
 intro d
 induction d with
 |zero=>
  intro k L hd hk hk2 hl hD hr;exact⟨L,hr.sorted hk (by omega),.refl _,F.h_st12 _ _ _ _ _ ⟨fun h=>by simp at h;omega,fun _=>⟨b3f hl hpos,rfl⟩⟩⟩
 |succ d ih=>
  intro k L hd hk hk2 hl hD hr;rcases Nat.lt_or_ge k n0 with hlt|hge
  ·obtain⟨L',q1,q2,q3⟩:=f5j F hp hC hn k n0 ⟨hk,hlt⟩ rfl L.length [] L (Nat.le_refl _) (by simp;omega) hD hr;obtain⟨S,p1,p2,p3⟩:=ih (2*k) L' (by omega) (by omega) (by omega) (by rw[q2.length_eq];exact hl) (fun x hx=>hD x (q2.mem_iff.1 hx)) q1;have e3:wI (2*(k:Int))=((2*k:Nat):Int):=by rw[wI,C7 (by omega)];omega
   refine⟨S,p1,p2.trans q2,F.h_st12 _ _ _ _ _ ⟨fun _=>?_,fun h=>by simp at h;omega⟩⟩;have:=q3 _ (by simpa using p3);rw[e3];simpa using this
  ·exact⟨L,hr.sorted hk (by omega),.refl _,F.h_st12 _ _ _ _ _ ⟨fun h=>by simp at h;omega,fun _=>⟨b3f hl hpos,rfl⟩⟩⟩
theorem g0r{n0:Nat}(hn:n0<=1125899906842624)(hpos:0<n0):∀(d:Nat) (M L:List (α × Nat)),L.length<=d->n0=M.length+L.length->(∀x∈L,Dm x.1)->L.Pairwise (fun x y=>x.2<y.2)->
  ∃L',e5x cm 20 L'/\L'.Perm L/\∀r,F.st12 20 n0 (n0:Nat) (fs (M++L')) r->F.st8 ((M.length+20:Nat):Int) (M.length:Nat) n0 (n0:Nat) (fs (M++L)) r:=by
 intro d
 induction d with
 |zero=>
  intro M L hd hl hD ht;have:L=[]:=List.eq_nil_of_length_eq_zero (by omega);subst this;simp only[List.length_nil]at hl;obtain⟨S,q1,q2,q3⟩:=d89 F hp hC hn M [] [] (a:=M.length) (b:=n0) rfl (by simp;omega) (by simp) hpos hD .nil;have qe:S=[]:=List.Perm.eq_nil q2;subst qe;refine⟨[],.last [] .nil (Nat.zero_le _),.refl _,fun r hr=>F.h_st8 _ _ _ _ _ _ ⟨fun h=>by simp at h;omega,fun _=>⟨fs (M++[]),by simpa using q3,⟨b3f (n0:=n0) (by simp;omega) hpos,b3f (n0:=n0) (by simp;omega) hpos⟩,hr⟩⟩⟩
 |succ d ih=>
  intro M L hd hl hD ht;rcases Nat.lt_or_ge L.length 20 with hlt|hge
  ·obtain⟨S,q1,q2,q3⟩:=d89 F hp hC hn M L [] (a:=M.length) (b:=n0) rfl (by omega) (by simp) hpos hD ht;have ql:=q2.length_eq;refine⟨S,.last S q1 (by omega),q2,fun r hr=>F.h_st8 _ _ _ _ _ _ ⟨fun h=>by simp at h;omega,fun _=>⟨fs (M++S),by simpa using q3,⟨b3f (n0:=n0) (by simp;omega) hpos,b3f (n0:=n0) (by simp;omega) hpos⟩,hr⟩⟩⟩
  ·have hsplit:L=L.take 20++L.drop 20:=(List.take_append_drop _ _).symm;have l1:(L.take 20).length=20:=by simp;omega
   generalize ha:L.take 20=A at hsplit l1;generalize hb:L.drop 20=B at hsplit;subst hsplit;have hl2:(A++B).length=A.length+B.length:=by simp
   obtain⟨t1,t2,t3⟩:=List.pairwise_append.1 ht;obtain⟨S,q1,q2,q3⟩:=d89 F hp hC hn M A B (a:=M.length) (b:=M.length+20) rfl (by omega) (by omega) hpos (fun x hx=>hD x (by simp[hx])) t1;have ql:=q2.length_eq;obtain⟨L',p1,p2,p3⟩:=ih (M++S) B (by omega) (by simp;omega) (fun x hx=>hD x (by simp[hx])) t2;have e1:wI (((M.length+20:Nat):Int)+20)=((M.length+20+20:Nat):Int):=by rw[wI,C7 (by omega)];omega
   refine⟨S++L',.cons S L' q1 (by omega) p1 (fun x hx y hy=>t3 x (q2.mem_iff.1 hx) y (p2.mem_iff.1 hy)),q2.append p2,fun r hr=>F.h_st8 _ _ _ _ _ _ ⟨fun _=>?_,fun h=>by simp at h;omega⟩⟩;rw[e1];refine⟨fs (M++S++B),by simpa using q3,⟨b3f (n0:=n0) (by simp;omega) hpos,b3f (n0:=n0) (by simp;omega) hpos⟩,?_⟩;have:=p3 r (by simpa using hr);have gl:(M++S).length=M.length+20:=by simp;omega
   rw[gl]at this;exact this
theorem f6w{n0:Nat}(hn:n0<=1125899906842624)(hpos:0<n0)(L:List (α × Nat))(hl:L.length=n0)(hD:∀x∈L,Dm x.1)(ht:L.Pairwise (fun x y=>x.2<y.2)):∃S,Srt cm S/\S.Perm L/\F.so n0 (fs L) (fs S):=by
 obtain⟨L',q1,q2,q3⟩:=g0r F hp hC hn hpos L.length [] L (Nat.le_refl _) (by simp;omega) hD ht;obtain⟨S,p1,p2,p3⟩:=f3u F hp hC hn hpos n0 20 L' (by omega) (by omega) (by omega) (by rw[q2.length_eq];exact hl) (fun x hx=>hD x (q2.mem_iff.1 hx)) q1;have hs:S.length=n0:=by rw[p2.length_eq,q2.length_eq];exact hl
 refine⟨S,p1,p2.trans q2,F.h_so _ _ _ ⟨fs S,F.h_st _ _ _ _ ?_,⟨b3f hl hpos,b3f hs hpos⟩,b3f hs hpos,rfl⟩⟩;have:=q3 _ (by simpa using p3);simpa using this
end
section
variable {α:Type}{cm:α->α->Int}{Dm:α->Prop}
theorem Rt.irrefl{x y:α × Nat}(hp:Pre cm Dm)(hx:Dm x.1)(hy:Dm y.1)(h1:Rt cm x y)(h2:Rt cm y x):False:=by
 have a:=hp.sym x.1 y.1 hx hy;have b:=hp.sym y.1 x.1 hy hx;unfold Rt at h1 h2;omega
theorem e9v(hp:Pre cm Dm):∀(S T:List (α × Nat)),S.Perm T->(∀x∈S,Dm x.1)->Srt cm S->Srt cm T->S=T
 |[],T,h,_,_,_=>(List.Perm.nil_eq h)
 |x::S,[],h,_,_,_=>by have:=h.length_eq;simp at this
 |x::S,y::T,h,hD,hS,hT=>by
  have hxy:x=y:=by
   have hx:x∈y::T:=h.mem_iff.1 List.mem_cons_self;have hy:y∈x::S:=h.mem_iff.2 List.mem_cons_self;rcases List.mem_cons.1 hx with e|e
   ·exact e
   ·rcases List.mem_cons.1 hy with e2|e2
    ·exact e2.symm
    ·exact(Rt.irrefl hp (hD x List.mem_cons_self) (hD y hy) ((List.pairwise_cons.1 hS).1 y e2) ((List.pairwise_cons.1 hT).1 x e)).elim
  subst hxy;rw[e9v hp S T ((List.perm_cons x).1 h) (fun z hz=>hD z (List.mem_cons_of_mem _ hz)) (List.pairwise_cons.1 hS).2 (List.pairwise_cons.1 hT).2]
def a32(l:List α):List (α × Nat):=l.zipIdx
theorem c40(l:List α):fs (a32 l)=l:=by simp[a32,fs]
theorem d4h(l:List α):(a32 l).Pairwise (fun x y=>x.2<y.2):=by
 rw[List.pairwise_iff_getElem];intro i j hi hj h;simp[a32];omega
def d04(cm:α->α->Int)(l r:List α):Prop:=∃S,Srt cm S/\S.Perm (a32 l)/\r=fs S
theorem d04.one(hp:Pre cm Dm){l r t:List α}(hD:∀x∈l,Dm x)(h1:d04 cm l r)(h2:d04 cm l t):r=t:=by
 obtain⟨S,a1,a2,rfl⟩:=h1;obtain⟨T,b1,b2,rfl⟩:=h2;have hm:∀x∈S,Dm x.1:=fun x hx=>hD _ (by rw[<-c40 l];exact List.mem_map_of_mem (a2.mem_iff.1 hx))
 rw[e9v hp S T (a2.trans b2.symm) hm a1 b1]
end
def f84{α:Type}(P:Program)(e:α->List AV)(sz:Nat)(f:FuncId)(l:List α):Prop:=
 c37 P f [.sl (l.map e) .no] ⟨[],[],[]⟩ fun a h=>a=.row 0 0 sz l.length l.length/\h=⟨[some (cellsOf e l)],[],[]⟩
section
variable {α:Type}{e:α->List AV}{sz:Nat}
theorem f4v{P:Program}{f:FuncId}{l:List α}{args':List AV}{h:A7}{K:AV->A7->Prop}(hf:f84 P e sz f l)(he:c47 e sz)(h0:l≠[])(ha:args'.map nz=[.sl (l.map e) .no])
  (hk:K (.row h.blks.length 0 sz l.length l.length) ⟨h.blks++[some (cellsOf e l)],h.bufs,h.globs⟩):c37 P f args' h K:=by
 refine⟨hf.1,fun σ cargs hi hr=>?_⟩
 have hopen:∀b o,σ.open_ b o->b<σ.w.heap.size:=by
  rintro b o (ho|⟨n,hn⟩|⟨id,e,he,hs⟩)
  ·exact(hi.outer b o ho).1
  ·exact hi.lt hn
  ·obtain⟨v,hv⟩:=Option.isSome_iff_exists.1 (hi.bufat id e b o he hs).1;exact a4h hv
 have hp:plainL [AV.sl (l.map e) .no]=true:=by
  simp only[plainL,plain,Bool.and_true,Bool.true_and];exact D6 e l fun y _=>he.hp y
 have hrels:d2m (bare σ.w σ.open_) [.sl (l.map e) .no] cargs.toList:=by
  refine⟨by rw[hr.1,<-ha];simp,fun i av hav=>?_⟩;have hav':=hav;rw[<-ha]at hav;simp only[List.getElem?_map,Option.map_eq_some_iff]at hav;obtain⟨b,hb,rfl⟩:=hav;obtain⟨x,h1,h2⟩:=hr.2 i b hb;exact⟨x,h1,h2.nz.down (U9 hp i _ hav') rfl fun _ _ h=>h⟩
 have hglobs:e8l σ.w σ.open_ []:=fun g cells hg=>by cases hg
 refine(hf.2 (bare σ.w σ.open_) cargs (d4m hopen hglobs) hrels).mono fun e1 w' hq=>?_
 obtain⟨σ1,h1,av,x,rfl,rfl,hle,hi1,hrx,rfl,rfl⟩:=hq;have hpast:c0y σ.w σ1.w:=⟨hle.size,fun b hb=>hle.whole b hb fun o=>b7e σ.w σ.open_ b o,hle.os,hle.tape,hle.output⟩;obtain⟨b0,hb0,hat⟩:=hi1.blk 0 _ rfl
 have hge:σ.w.heap.size<=b0:=by
  rcases Nat.lt_or_ge b0 σ.w.heap.size with hlt|hge
  ·exact(b7e σ.w σ.open_ b0 0 (hle.own b0 0 hlt (.inl ⟨0,hb0⟩))).elim
  ·exact hge
 let σ2:Sg:=⟨σ1.w,fun n=>if n=h.blks.length then some b0 else σ.blk n,σ.buf,σ.outer⟩
 have hdom:∀n b,σ.blk n=some b->n<h.blks.length:=fun n b hn=>hi.name hn
 have hblt:∀n b,σ.blk n=some b->b<σ.w.heap.size:=fun n b hn=>hi.lt hn
 have hslt:∀id e b o,σ.buf id=some e->e.spare b o->b<σ.w.heap.size:=by
  intro id e b o he hs;obtain⟨v,hv⟩:=Option.isSome_iff_exists.1 (hi.bufat id e b o he hs).1;exact a4h hv
 have hle2:Le σ σ2:={
  blk:=fun n b hn=>by
   show(if n=h.blks.length then some b0 else σ.blk n)=some b;rw[if_neg (by have:=hdom n b hn;omega)];exact hn
  buf:=fun _ e h=>⟨e,h,Nat.le_refl _,rfl,fun _=>rfl⟩
  outer:=rfl
  cell:=fun b o hb _=>U6 (hpast.old b hb) o
  ext:=(Le.world (σ:=σ) hpast).ext
  whole:=fun b hb _=>hpast.old b hb
  own:=fun b o hb ho=>by
   rcases ho with⟨n,hn⟩|hx
   ·simp only[σ2]at hn;split at hn
    ·cases hn;omega
    ·exact .inl ⟨n,hn⟩
   ·exact .inr hx
  size:=hpast.size
  os:=hpast.os
  tape:=hpast.tape
  output:=hpast.output}
 have hop:∀b o,σ2.open_ b o->σ1.open_ b o:=by
  have side:∀b o,σ.open_ b o->σ1.open_ b o:=fun b o h=>.inl (by rw[hle.outer];exact h)
  rintro b o (ho|⟨n,hn⟩|ho)
  ·exact side b o (.inl ho)
  ·simp only[σ2]at hn;split at hn
   ·cases hn;exact .inr (.inl ⟨0,hb0⟩)
   ·exact side b o (.inr (.inl ⟨n,hn⟩))
  ·exact side b o (.inr (.inr ho))
 have hni:a8n (cellsOf e l)=true:=a6m he.hn h0
 have hat2:b04 σ2 b0 (cellsOf e l):=by
  obtain⟨cs,rest,elem,g1,g2⟩:=hat.plain hni;refine .cells _ cs rest elem g1 ⟨g2.1,fun i a hia=>?_⟩;obtain⟨k1,y,k2,k3⟩:=g2.2 i a hia;exact⟨k1,y,k2,k3.move (he.mem (List.mem_of_getElem? hia)).1 rfl hop⟩
 refine⟨σ2,_,_,x,rfl,rfl,hle2,?_,?_,hk⟩
 ·exact {
   blk:=fun n cs hn=>by
    by_cases hl:n<h.blks.length
    ·rw[List.getElem?_append_left hl]at hn;obtain⟨b,h1,h2⟩:=hi.blk n cs hn;exact⟨b,hle2.blk n b h1,h2.keep hle2 (hpast.old b h2.lt)⟩
    ·rw[List.getElem?_append_right (by omega)]at hn
     have hz:n=h.blks.length:=by
      by_cases hz:n - h.blks.length=0
      ·omega
      ·rw[List.getElem?_eq_none (by simp;omega)]at hn;cases hn
     subst hz;simp at hn;subst hn;exact⟨b0,if_pos rfl,hat2⟩
   dom:=fun n b hn=>by
    simp only[σ2]at hn;split at hn
    ·rename_i hz;subst hz;exact⟨cellsOf e l,by simp⟩
    ·obtain⟨cs,hcs⟩:=hi.dom n b hn;exact⟨cs,by rw[List.getElem?_append_left (hdom n b hn)];exact hcs⟩
   inj:=fun n m b c c' hc hc' hz hz' hn hm=>by
    simp only[σ2]at hn hm;split at hn<;>split at hm
    ·omega
    ·cases hn;have:=hblt m _ hm;omega
    ·cases hm;have:=hblt n _ hn;omega
    ·rw[List.getElem?_append_left (hdom n b hn)]at hc;rw[List.getElem?_append_left (hdom m b hm)]at hc';exact hi.inj n m b c c' hc hc' hz hz' hn hm
   buf:=hi.buf
   bufdom:=hi.bufdom
   bufle:=hi.bufle
   bufat:=(hi.world hpast).bufat
   bufinj:=hi.bufinj
   bufblk:=fun id e n b o he hs hn=>by
    simp only[σ2]at hn;split at hn
    ·cases hn;have:=hslt id e _ o he hs;omega
    ·exact hi.bufblk id e n b o he hs hn
   outer:=fun b o ho=>by
    obtain⟨h1,h2⟩:=hi.outer b o ho;exact⟨Nat.lt_of_lt_of_le h1 hpast.size,fun hx=>h2 (hle2.own b o h1 hx)⟩
   glob:=fun g cells hg=>(hi.glob g cells hg).mono hle2}
 ·cases hrx with
  |row _ _ _ _ _ b cap hb hc hm hx=>
   rw[hb0]at hb;cases hb;exact .row _ _ _ _ _ b0 cap (if_pos rfl) hc hm hx
theorem h2v{P:Program}{g:FuncId}{env:Env}{args:List L5}{h:A7}{l:List α}(hf:f84 P e sz g l)(he:c47 e sz)(h0:l≠[])(ha:(evs env args).map (List.map nz)=some [.sl (l.map e) .no]:=by kernel_rfl):
  a22 P (.call (.c (.clo (.func g) [] [])) args) env h (.row h.blks.length 0 sz l.length l.length) ⟨h.blks++[some (cellsOf e l)],h.bufs,h.globs⟩:=by
 obtain⟨l',h1,h2⟩:=Option.map_eq_some_iff.1 ha;exact fun K hk=>(d67 rfl h1 (f4v hf he h0 h2 hk)).out
def h46(e:α->List AV)(sz:Nat)(rs:List c09)(l:List α):Exit->Env->A7->Prop
 |.ret,env,h=>d5g env h rs fun l'=>d5i l'=.row 0 0 sz l.length l.length/\h=⟨[some (cellsOf e l)],[],[]⟩
 |_,_,_=>False
theorem g9s{P:Program}{N:Nat}{f:FuncId}{ac:W2}{rs:List c09}(hf:b4o P f=some (N,ac,rs)){l:List α}{e₀:Env}(hn:Nat.ble 1 N=true)(he:c17 0 [.sl (l.map e) .no]=e₀)
  (hbody:D P N 0 0 ac (h46 e sz rs l) e₀ ⟨[],[],[]⟩):f84 P e sz f l:=by
 subst he;refine f05 hf (Nat.le_of_ble_eq_true hn) (c4o (c4q (Nat.le_refl _) (Nat.le_refl _) hbody) fun x env h hq=>?_);cases x<;>first|exact hq|exact hq.elim
theorem h7u{rs:List c09}{l:List α}{env:Env}{h:A7}{c:List AV}(hc:c=cellsOf e l)(hh:h=⟨[some c],[],[]⟩:=by kernel_rfl)(ho:(c8u env h rs).map d5i=some (.row 0 0 sz l.length l.length):=by kernel_rfl):h46 e sz rs l .ret env h:=by
 subst hc;obtain⟨l',h1,h2⟩:=Option.map_eq_some_iff.1 ho;exact c0a h1 ⟨h2,hh⟩
theorem g51{P:Program}{env:Env}{h:A7}{size byt:Nat}{x y:L5}(e:α->List AV)(l:List α)(h0:l≠[])(hb:l.length*byt<=140737488355328)(hs:∀y,(e y).length=size)(hm:(y.ev env).bind (c7j h size)=some (List.map e l))(hx:x.ev env=some (.sl [] .full):=by kernel_rfl):a22 P (.append size byt x y) env h (.row h.blks.length 0 size l.length l.length) ⟨h.blks++[some (cellsOf e l)],h.bufs,h.globs⟩:=by
 obtain⟨Y,h1,h2⟩:=Option.bind_eq_some_iff.1 hm;intro K hk;simp only[aop,hx,h1,wv];refine .inr ?_;simp only[b6o,h2];refine⟨⟨b94 hs,fun hn=>h0 (List.map_eq_nil_iff.1 hn)⟩,?_,?_,?_⟩
 ·intro el hel;simp at hel
 ·simpa using hb
 ·simpa[cellsOf]using hk
theorem g9r{X:Prop}(l:List α)(h1:l=[]->X)(h2:l≠[]->X):X:=by
 rcases Classical.em (l=[]) with h|h
 ·exact h1 h
 ·exact h2 h
end
def d65(n:Nat):List AV->List (Nat × Nat × Nat)
 |[]=>[]
 |.row k off size len _::r=>if k=n then(off,size,len)::d65 n r else d65 n r
 |_::r=>d65 n r
theorem d8a{n:Nat}:∀{l:List AV}{off size len cap:Nat},.row n off size len cap∈l->(off,size,len)∈d65 n l
 |[],_,_,_,_,h=>by cases h
 |a::r,off,size,len,cap,h=>by
  rcases List.mem_cons.1 h with h|h
  ·subst h;simp[d65]
  ·have:=d8a h;unfold d65;split
   ·rename_i heq;cases heq
   ·rename_i heq;cases heq;split
    ·exact List.mem_cons_of_mem _ this
    ·exact this
   ·rename_i heq;cases heq;exact this
def f2f(n:Nat):List (Option (List AV))->List (Nat × Nat × Nat)
 |[]=>[]
 |some c::r=>d65 n c++f2f n r
 |none::r=>f2f n r
theorem d8j{n:Nat}:∀{l:List (Option (List AV))}{i:Nat}{c:List AV}{x:Nat × Nat × Nat},l[i]? =some (some c)->x∈d65 n c->x∈f2f n l
 |[],i,c,x,h,_=>by simp at h
 |o::r,i,c,x,h,hx=>by
  cases i with
  |zero=>simp at h;subst h;exact List.mem_append_left _ hx
  |succ i=>
   have:=d8j (l:=r) (i:=i) (by simpa using h) hx;cases o with
   |none=>exact this
   |some c'=>exact List.mem_append_right _ this
def g0m(n:Nat)(els:List (List AV))(bs:List (Option (List AV))):List (Option (List AV)):=bs.map (Option.map (List.map (rfz n els)))
theorem f50(n:Nat)(els:List (List AV))(a:AV):(rfz n els a).isCell=a.isCell:=by
 cases a with
 |row k off size len cap=>simp only[rfz];split<;>rfl
 |_=>rfl
section
variable {σ:Sg}{h:A7}{n:Nat}{m:List Bool}{k:Nat}{cells:List AV}{els:List (List AV)}{sz len:Nat}
theorem f0y(hi:Inv h σ)(hb:h.blks[n]? =some (some cells))(hce:els.flatten=cells)(hsz:∀el∈els,el.length=sz)(hlen:els.length=len)(hit:els≠[]->a8n cells=true)(hmn:m.getD n false=false)(hal:c67 m h.blks=true)
  {a0:AV}{y:Value}(h3:Rel σ a0 y) (hrow:∀off size len' cap,a0=.row n off size len' cap->off=0/\size=sz/\len'=len) (hlow:low m k (rfz n els a0)=true):Rel (σ.cut m k) (rfz n els a0) y:=by
 cases a0 with
 |row j off size len' cap=>
  simp only[rfz]at hlow ⊢;split at hlow
  ·rename_i hj;subst hj;rw[if_pos rfl];obtain⟨rfl,rfl,rfl⟩:=hrow _ _ _ _ rfl;cases h3 with
   |row _ _ _ _ _ b cap' hblk hcap _ _=>
   obtain⟨b',h4,h5⟩:=hi.blk j cells hb;rw[hblk]at h4;cases h4;subst hlen;rcases Classical.em (els=[]) with h0|h0
   ·subst h0;exact .slx _ ⟨b,0,none⟩ cap' trivial (.inl rfl)
   have hni:=hit h0;obtain⟨cs,rest,elem,h6,h7⟩:=h5.plain hni;have hlc:lowLL m k els=true:=by simpa[low]using hlow
   have key:∀(i:Nat) (el:List AV),els[i]? =some el->∀(q:Nat) (av:AV),el[q]? =some av->∃xv,σ.w.cell? ⟨b,0+i*size+q,none⟩=some xv/\Rel σ av xv/\av.isCell=true:=by
    intro i el hie q av hq;have hql:q<size:=by rw[<-hsz el (List.mem_of_getElem? hie)];exact(List.getElem?_eq_some_iff.1 hq).1
    have hf:=b45 els hsz i q hql;rw[hie,Option.bind_some,hq,hce]at hf;obtain⟨q1,xv,q2,q3⟩:=h7.2 _ av hf;refine⟨xv,?_,q3,q1⟩;have hlt:=(List.getElem?_eq_some_iff.1 q2).1;rw[Nat.zero_add];simp[World.cell?,h6,List.getElem?_append_left hlt,q2]
   have hne:cells≠[]:=b5l hni;refine Rel.sl (σ:=σ.cut m k) els .no b 0 cap' size (fun i q=>(σ.w.cell? ⟨b,0+i*size+q,none⟩).getD undef) (fun i el hie=>hsz el (List.mem_of_getElem? hie)) hcap trivial (fun id e hid=>by cases hid) (fun i el hie q av hq=>?_) fun i el hie q av hq=>?_
   ·obtain⟨xv,q1,q2,q3⟩:=key i el hie q av hq;refine⟨by show σ.w.cell? _=_;rw[q1];rfl,?_,q3⟩;rintro (ho|⟨j',hj'⟩|⟨id,eb,he1,he2⟩)
    ·exact(hi.outer _ _ ho).2 (.inl ⟨j,hblk⟩)
    ·simp only[Sg.cut]at hj';split at hj'
     ·rename_i hmj;obtain⟨c',hc'⟩:=hi.dom j' b hj';have:=hi.inj j' j b c' cells hc' hb (c31 hal hmj hc') hne hj' hblk;subst this;rw[hmn]at hmj;cases hmj
     ·cases hj'
    ·simp only[Sg.cut]at he1;split at he1
     ·exact hi.bufblk id eb j b _ he1 he2 hblk
     ·cases he1
   ·obtain⟨xv,q1,q2,q3⟩:=key i el hie q av hq;rw[q1];exact q2.cut (a5d (c3f hlc i el hie) q av hq)
  ·rename_i hj;rw[if_neg hj];exact h3.cut hlow
 |_=>exact h3.cut hlow
theorem Inv.cutR(hi:Inv h σ)(hb:h.blks[n]? =some (some cells))(hce:els.flatten=cells)(hsz:∀el∈els,el.length=sz)(hlen:els.length=len)(hit:els≠[]->a8n cells=true)(hmn:m.getD n false=false)(hal:c67 m h.blks=true)
  (hrow:∀(i:Nat) (c:List AV),(a0e m h.blks)[i]? =some (some c)->∀off size len' cap,AV.row n off size len' cap∈c->off=0/\size=sz/\len'=len) (hB:a4l m k (g0m n els (a0e m h.blks))=true) (hg:X1 h.globs=true):Inv ⟨g0m n els (a0e m h.blks),h.bufs.take k,h.globs⟩ (σ.cut m k):=by
 have hblk:∀{j b:Nat},(σ.cut m k).blk j=some b->m.getD j false=true/\σ.blk j=some b:=by
  intro k b hk;simp only[Sg.cut]at hk;split at hk
  ·rename_i h1;exact⟨h1,hk⟩
  ·cases hk
 have hbuf:∀{j:Nat}{e:Buf},(σ.cut m k).buf j=some e->j<k/\σ.buf j=some e:=by
  intro k b hk;simp only[Sg.cut]at hk;split at hk
  ·rename_i h1;exact⟨h1,hk⟩
  ·cases hk
 have hget:∀{j:Nat}{c:List AV},(g0m n els (a0e m h.blks))[j]? =some (some c)->∃c0,(a0e m h.blks)[j]? =some (some c0)/\c=c0.map (rfz n els):=by
  intro j c hj;simp only[g0m,List.getElem?_map,Option.map_eq_some_iff]at hj;obtain⟨o,h1,h2⟩:=hj;obtain⟨c0,rfl,h3⟩:=h2;exact⟨c0,h1,h3.symm⟩
 have hne:∀{c0:List AV},c0.map (rfz n els)≠[]->c0≠[]:=by rintro _ h rfl;exact h rfl
 refine⟨fun j cs' hj=>?_,fun j b hj=>?_,fun j l b c c' hj hl hc hc' h1 h2=>?_,fun id c hc=>?_,fun id e he=>?_,fun id e he=>hi.bufle id e (hbuf he).2,fun id e b o he hs=>hi.bufat id e b o (hbuf he).2 hs,fun i j e f b o he hf h1 h2=>hi.bufinj i j e f b o (hbuf he).2 (hbuf hf).2 h1 h2,fun id e k b o he hs hk=>hi.bufblk id e k b o (hbuf he).2 hs (hblk hk).2,fun b o ho=>⟨(hi.outer b o ho).1,fun h=>(hi.outer b o ho).2 (d4t h)⟩,fun g cells hgl=>?_⟩
 ·obtain⟨c0,h0,rfl⟩:=hget hj;obtain⟨h1,h2⟩:=b20 h0;obtain⟨b,h3,h4⟩:=hi.blk j c0 h2;refine⟨b,by simp only[Sg.cut];rw[if_pos h1];exact h3,?_⟩;have hlow:=d51 hB hj;cases h4 with
  |cells _ cs rest elem h5 h6=>
   refine .cells _ cs rest elem h5 ⟨by rw[h6.1];simp,fun i a hia=>?_⟩;have hla:=a5d hlow i a hia;simp only[List.getElem?_map,Option.map_eq_some_iff]at hia;obtain⟨a0,q1,rfl⟩:=hia;obtain⟨q2,x,q3,q4⟩:=h6.2 i a0 q1;refine⟨by rw[f50];exact q2,x,q3,f0y hi hb hce hsz hlen hit hmn hal q4 (fun off size len' cap he=>?_) hla⟩;subst he;exact hrow j c0 h0 _ _ _ _ (List.mem_of_getElem? q1)
  |it s p h5=>exact .it s p h5
 ·obtain⟨h1,h2⟩:=hblk hj;obtain⟨c,h3⟩:=hi.dom j b h2;exact⟨c.map (rfz n els),by simp only[g0m,List.getElem?_map,d58 h1 h3];rfl⟩
 ·obtain⟨c0,k0,rfl⟩:=hget hj;obtain⟨c1,k1,rfl⟩:=hget hl;exact hi.inj j l b c0 c1 (b20 k0).2 (b20 k1).2 (hne hc) (hne hc') (hblk h1).2 (hblk h2).2
 ·rw[List.getElem?_take]at hc;split at hc
  ·rename_i h1;obtain⟨e,h2,h3⟩:=hi.buf id c hc;exact⟨e,by simp only[Sg.cut];rw[if_pos h1];exact h2,h3⟩
  ·cases hc
 ·obtain⟨h1,h2⟩:=hbuf he;rw[List.getElem?_take,if_pos h1];exact hi.bufdom id e h2
 ·have hl0:Lift.low m k (.elt cells 0)=true:=by simp only[Lift.low];exact lowL_plain m k cells (List.all_eq_true.1 hg _ hgl)
  exact(hi.glob g cells hgl).cut hl0
end
theorem h7f{P:Program}{h:A7}{env:Env}{N kb kf:Nat}{Q:Exit->Env->A7->Prop}{x:W2}{α:Type}{f:α->List AV}{sz:Nat}(n:Nat)(m:List Bool)(k c c':Nat)(l:List α)(len:Nat)(e:Env)(bs:List (Option (List AV)))(hs:∀y,(f y).length=sz)(hni:∀y,a8n (f y)=true)(hlen:l.length=len)(hw:a7y m k e=true/\a4l m k bs=true)(hx:D P N kb kf x Q e ⟨bs,h.bufs.take k,h.globs⟩)(hb:h.blks[n]? =some (some (cellsOf f l)):=by kernel_rfl)(hrow:b87 n env=List.replicate c (0,sz,len):=by kernel_rfl)(hrowB:f2f n (a0e m h.blks)=List.replicate c' (0,sz,len):=by kernel_rfl)(hmn:m.getD n false=false:=by kernel_rfl)(hal:c67 m h.blks=true:=by kernel_rfl)(hm:∀k,k<kb->m.getD k false=true:=by intro k hk;first|exact absurd hk (Nat.not_lt_zero _)|exact g45 rfl k hk)(hkf:Nat.ble kf k=true:=by kernel_rfl)(hE:f8i n (List.map f l) env=e:=by kernel_rfl)(hbs:g0m n (List.map f l) (a0e m h.blks)=bs:=by kernel_rfl)(hg:X1 h.globs=true:=by kernel_rfl):D P N kb kf x Q env h:=⟨by
 subst hbs hE;intro co hc σ0 σ a hst hle hl;have h1:(List.map f l).flatten=cellsOf f l:=rfl;have h2:∀el∈List.map f l,el.length=sz:=b94 hs
 have h3:(List.map f l).length=len:=by rw[List.length_map];exact hlen
 have h4:List.map f l≠[]->a8n (cellsOf f l)=true:=fun h0=>a6m hni (fun h=>h0 (by rw[h];rfl))
 have inr:∀{c:Nat}{q:Nat × Nat × Nat},q∈List.replicate c (0,sz,len)->q.1=0/\q.2.1=sz/\q.2.2=len:=by
  intro c q hq;rw[(List.mem_replicate.1 hq).2];exact⟨rfl,rfl,rfl⟩
 refine hx.out co hc σ0 (σ.cut m k) a ⟨hst.inv.cutR hb h1 h2 h3 h4 hmn hal (fun i c hc off size len' cap ha=>?_) hw.2 hg,fun t av ht=>?_,hst.size,hst.defers⟩ (hle.cut hl hm (Nat.le_of_ble_eq_true hkf)) hl
 ·have:=d8j hc (d8a ha);rw[hrowB]at this;exact inr this
 ·have hlow:=c30 hw.1 ht;obtain⟨a0,k1,rfl⟩:=d5p ht;obtain⟨y,k2,k3⟩:=hst.env t a0 k1;refine⟨y,k2,f0y hst.inv hb h1 h2 h3 h4 hmn hal k3 (fun off size len' cap he=>?_) hlow⟩;subst he;have:=c5b k1;rw[hrow]at this;exact inr this⟩
def g3u{α:Type}(P:Program)(e:α->List AV)(sz:Nat)(f:FuncId)(l:List α):Prop:=
 c37 P f [.sl (l.map e) .no] ⟨[],[],[]⟩ fun a h=>a=.sl (l.map e) (.own 0)/\h=⟨[],[(l.length,sz)],[]⟩
section
variable {α:Type}{e:α->List AV}{sz:Nat}
theorem f03{P:Program}{f:FuncId}{l:List α}{args':List AV}{h:A7}{K:AV->A7->Prop}(hf:g3u P e sz f l)(hpl:∀y,plainL (e y)=true)(ha:args'.map nz=[.sl (l.map e) .no])
  (hk:K (.sl (l.map e) (.own h.bufs.length)) ⟨h.blks,h.bufs++[(l.length,sz)],h.globs⟩):c37 P f args' h K:=by
 refine⟨hf.1,fun σ cargs hi hr=>?_⟩
 have hopen:∀b o,σ.open_ b o->b<σ.w.heap.size:=by
  rintro b o (ho|⟨n,hn⟩|⟨id,e,he,hs⟩)
  ·exact(hi.outer b o ho).1
  ·exact hi.lt hn
  ·obtain⟨v,hv⟩:=Option.isSome_iff_exists.1 (hi.bufat id e b o he hs).1;exact a4h hv
 have hpp:plainLL (l.map e)=true:=D6 e l fun y _=>hpl y
 have hp:plainL [AV.sl (l.map e) .no]=true:=by
  simp only[plainL,plain,Bool.and_true,Bool.true_and];exact hpp
 have hrels:d2m (bare σ.w σ.open_) [.sl (l.map e) .no] cargs.toList:=by
  refine⟨by rw[hr.1,<-ha];simp,fun i av hav=>?_⟩;have hav':=hav;rw[<-ha]at hav;simp only[List.getElem?_map,Option.map_eq_some_iff]at hav;obtain⟨b,hb,rfl⟩:=hav;obtain⟨x,h1,h2⟩:=hr.2 i b hb;exact⟨x,h1,h2.nz.down (U9 hp i _ hav') rfl fun _ _ h=>h⟩
 have hglobs:e8l σ.w σ.open_ []:=fun g cells hg=>by cases hg
 refine(hf.2 (bare σ.w σ.open_) cargs (d4m hopen hglobs) hrels).mono fun e1 w' hq=>?_
 obtain⟨σ1,h1,av,x,rfl,rfl,hle,hi1,hrx,rfl,rfl⟩:=hq;have hpast:c0y σ.w σ1.w:=⟨hle.size,fun b hb=>hle.whole b hb fun o=>b7e σ.w σ.open_ b o,hle.os,hle.tape,hle.output⟩;obtain⟨eb,heb,hec⟩:=hi1.buf 0 _ rfl
 have hsp:∀b o,eb.spare b o->σ.w.heap.size<=b:=by
  intro b o hs;rcases Nat.lt_or_ge b σ.w.heap.size with hlt|hge
  ·exact(b7e σ.w σ.open_ b o (hle.own b o hlt (.inr ⟨0,eb,heb,hs⟩))).elim
  ·exact hge
 let σ2:Sg:=⟨σ1.w,σ.blk,fun id=>if id=h.bufs.length then some eb else σ.buf id,σ.outer⟩
 have hbn:∀id e,σ.buf id=some e->id<h.bufs.length:=fun id e he=>(List.getElem?_eq_some_iff.1 (hi.bufdom id e he)).1
 have hblt:∀n b,σ.blk n=some b->b<σ.w.heap.size:=fun n b hn=>hi.lt hn
 have hslt:∀id e b o,σ.buf id=some e->e.spare b o->b<σ.w.heap.size:=by
  intro id e b o he hs;obtain⟨v,hv⟩:=Option.isSome_iff_exists.1 (hi.bufat id e b o he hs).1;exact a4h hv
 have hb2:∀{id:Nat}{f:Buf},σ2.buf id=some f->(id=h.bufs.length/\f=eb)\/(id≠h.bufs.length/\σ.buf id=some f):=by
  intro id f hf;simp only[σ2]at hf;split at hf
  ·rename_i h0;cases hf;exact .inl ⟨h0,rfl⟩
  ·rename_i h0;exact .inr ⟨h0,hf⟩
 have hle2:Le σ σ2:={
  blk:=fun n b hn=>hn
  buf:=fun id f hf=>⟨f,by show(if id=h.bufs.length then some eb else σ.buf id)=some f;rw[if_neg (by have:=hbn id f hf;omega)];exact hf,Nat.le_refl _,rfl,fun _=>rfl⟩
  outer:=rfl
  cell:=fun b o hb _=>U6 (hpast.old b hb) o
  ext:=(Le.world (σ:=σ) hpast).ext
  whole:=fun b hb _=>hpast.old b hb
  own:=fun b o hb ho=>by
   rcases ho with⟨n,hn⟩|⟨id,f,hf,hs⟩
   ·exact .inl ⟨n,hn⟩
   ·rcases hb2 hf with⟨_,rfl⟩|⟨_,hf'⟩
    ·have:=hsp b o hs;omega
    ·exact .inr ⟨id,f,hf',hs⟩
  size:=hpast.size
  os:=hpast.os
  tape:=hpast.tape
  output:=hpast.output}
 have hop:∀b o,σ2.open_ b o->σ1.open_ b o:=by
  have side:∀b o,σ.open_ b o->σ1.open_ b o:=fun b o h=>.inl (by rw[hle.outer];exact h)
  rintro b o (ho|⟨n,hn⟩|⟨id,f,hf,hs⟩)
  ·exact side b o (.inl ho)
  ·exact side b o (.inr (.inl ⟨n,hn⟩))
  ·rcases hb2 hf with⟨_,rfl⟩|⟨_,hf'⟩
   ·exact .inr (.inr ⟨0,f,heb,hs⟩)
   ·exact side b o (.inr (.inr ⟨id,f,hf',hs⟩))
 have hbuf2:σ2.buf h.bufs.length=some eb:=if_pos rfl;refine⟨σ2,_,_,x,rfl,rfl,hle2,?_,?_,hk⟩
 ·exact {
   blk:=fun n cs hn=>by
    obtain⟨b,h1,h2⟩:=hi.blk n cs hn;exact⟨b,h1,h2.keep hle2 (hpast.old b h2.lt)⟩
   dom:=hi.dom
   inj:=hi.inj
   buf:=fun id c hc=>by
    by_cases hl:id<h.bufs.length
    ·rw[List.getElem?_append_left hl]at hc;obtain⟨f,h1,h2⟩:=hi.buf id c hc;exact⟨f,by show(if id=h.bufs.length then some eb else σ.buf id)=some f;rw[if_neg (by omega)];exact h1,h2⟩
    ·rw[List.getElem?_append_right (by omega)]at hc
     have hz:id=h.bufs.length:=by
      by_cases hz:id - h.bufs.length=0
      ·omega
      ·rw[List.getElem?_eq_none (by simp;omega)]at hc;cases hc
     subst hz;simp at hc;exact⟨eb,hbuf2,by rw[hec,<-hc]⟩
   bufdom:=fun id f hf=>by
    rcases hb2 hf with⟨rfl,rfl⟩|⟨h0,hf'⟩
    ·rw[List.getElem?_append_right (Nat.le_refl _),Nat.sub_self,hec];rfl
    ·rw[List.getElem?_append_left (hbn id f hf')];exact hi.bufdom id f hf'
   bufle:=fun id f hf=>by
    rcases hb2 hf with⟨_,rfl⟩|⟨_,hf'⟩
    ·exact hi1.bufle 0 f heb
    ·exact hi.bufle id f hf'
   bufat:=fun id f b o hf hs=>by
    rcases hb2 hf with⟨_,rfl⟩|⟨_,hf'⟩
    ·exact hi1.bufat 0 f b o heb hs
    ·exact(hi.world hpast).bufat id f b o hf' hs
   bufinj:=fun i j f g b o hf hg h1 h2=>by
    rcases hb2 hf with⟨rfl,rfl⟩|⟨_,hf'⟩<;>rcases hb2 hg with⟨rfl,rfl⟩|⟨_,hg'⟩
    ·rfl
    ·have:=hsp b o h1;have:=hslt j g b o hg' h2;omega
    ·have:=hsp b o h2;have:=hslt i f b o hf' h1;omega
    ·exact hi.bufinj i j f g b o hf' hg' h1 h2
   bufblk:=fun id f n b o hf hs hn=>by
    rcases hb2 hf with⟨_,rfl⟩|⟨_,hf'⟩
    ·have:=hsp b o hs;have:=hblt n b hn;omega
    ·exact hi.bufblk id f n b o hf' hs hn
   outer:=fun b o ho=>by
    obtain⟨h1,h2⟩:=hi.outer b o ho;exact⟨Nat.lt_of_lt_of_le h1 hpast.size,fun hx=>h2 (hle2.own b o h1 hx)⟩
   glob:=fun g cells hg=>(hi.glob g cells hg).mono hle2}
 ·have tk:∀{len:Nat}{a:Option Addr}{cap:Nat},c3n σ1 (.own 0) len a cap->c3n σ2 (.own h.bufs.length) len a cap:=by
   rintro len a cap ⟨f,h1,h2⟩;rw[heb]at h1;cases h1;exact⟨eb,hbuf2,h2⟩
  generalize hels:l.map e=els at hrx hpp ⊢;cases hrx with
  |sl0 _ ht=>exact .sl0 _ (tk ht)
  |slx _ a cap ht hc=>exact .slx _ a cap (tk ht) (hc.elim (fun h=>by cases h) .inr)
  |sl _ _ b o cap size xs hs hcap ht hz hc hr=>
   refine .sl _ _ b o cap size xs hs hcap (tk ht) (fun j f hj hf=>?_) (fun i el hi j av hj=>?_) fun i el hi j av hj=>?_
   ·cases hj;rw[hbuf2]at hf;cases hf;exact hz 0 eb rfl heb
   ·obtain⟨h1,h2,h3⟩:=hc i el hi j av hj;exact⟨h1,fun h=>h2 (hop _ _ h),h3⟩
   ·exact(hr i el hi j av hj).move (U9 (a5s hpp i el hi) j av hj) rfl hop
theorem g8f{P:Program}{g:FuncId}{env:Env}{args:List L5}{h:A7}{l:List α}(hf:g3u P e sz g l)(hpl:∀y,plainL (e y)=true)(ha:(evs env args).map (List.map nz)=some [.sl (l.map e) .no]:=by kernel_rfl):
  a22 P (.call (.c (.clo (.func g) [] [])) args) env h (.sl (l.map e) (.own h.bufs.length)) ⟨h.blks,h.bufs++[(l.length,sz)],h.globs⟩:=by
 obtain⟨l',h1,h2⟩:=Option.map_eq_some_iff.1 ha;exact fun K hk=>(d67 rfl h1 (f03 hf hpl h2 hk)).out
def g49(e:α->List AV)(sz:Nat)(rs:List c09)(l:List α):Exit->Env->A7->Prop
 |.ret,env,h=>d5g env h rs fun l'=>d5i l'=.sl (l.map e) (.own 0)/\h=⟨[],[(l.length,sz)],[]⟩
 |_,_,_=>False
theorem g48{P:Program}{N:Nat}{f:FuncId}{ac:W2}{rs:List c09}(hf:b4o P f=some (N,ac,rs)){l:List α}{e₀:Env}(hn:Nat.ble 1 N=true)(he:c17 0 [.sl (l.map e) .no]=e₀)
  (hbody:D P N 0 0 ac (g49 e sz rs l) e₀ ⟨[],[],[]⟩):g3u P e sz f l:=by
 subst he;refine f05 hf (Nat.le_of_ble_eq_true hn) (c4o (c4q (Nat.le_refl _) (Nat.le_refl _) hbody) fun x env h hq=>?_);cases x<;>first|exact hq|exact hq.elim
theorem g4c{rs:List c09}{l l2:List α}{env:Env}{h:A7}(hl:l=l2)(hh:h=⟨[],[(l2.length,sz)],[]⟩:=by kernel_rfl)(ho:(c8u env h rs).map d5i=some (.sl (l2.map e) (.own 0)):=by kernel_rfl):g49 e sz rs l .ret env h:=by
 subst hl;obtain⟨l',h1,h2⟩:=Option.map_eq_some_iff.1 ho;exact c0a h1 ⟨h2,hh⟩
end
def cdN(P:Program)(f:Nat):Nat:=((b4o P f).map fun x=>x.1).getD 0
def cdC(P:Program)(f:Nat):W2:=((b4o P f).map fun x=>x.2.1).getD .skip
def cdR(P:Program)(f:Nat):List c09:=((b4o P f).map fun x=>x.2.2).getD []
def h0p(o:AOp)(env:Env):Option AV:=
 match o with
 |.len true x=>match x.ev env with
  |some (.v (.string s))=>some (.v (.int .i64 s.size))
  |_=>none
 |.bin .eql x y=>match x.ev env,y.ev env with
  |some (.v (.string a)),some (.v (.string b))=>some (.v (.bool (decide (a=b))))
  |_,_=>none
 |.bin .neq x y=>match x.ev env,y.ev env with
  |some (.v (.string a)),some (.v (.string b))=>some (.v (.bool (!decide (a=b))))
  |_,_=>none
 |.bin .lss x y=>match x.ev env,y.ev env with
  |some (.v (.string a)),some (.v (.string b))=>some (.v (.bool (Op.bytesLess a.toList b.toList)))
  |_,_=>none
 |.bin .leq x y=>match x.ev env,y.ev env with
  |some (.v (.string a)),some (.v (.string b))=>some (.v (.bool (Op.bytesLess a.toList b.toList||a.toList==b.toList)))
  |_,_=>none
 |.bin .gtr x y=>match x.ev env,y.ev env with
  |some (.v (.string a)),some (.v (.string b))=>some (.v (.bool (!(Op.bytesLess a.toList b.toList||a.toList==b.toList))))
  |_,_=>none
 |.bin .geq x y=>match x.ev env,y.ev env with
  |some (.v (.string a)),some (.v (.string b))=>some (.v (.bool (!(Op.bytesLess a.toList b.toList))))
  |_,_=>none
 |.pick c x y=>match c.ev env,x.ev env,y.ev env with
  |some (.v (.bool t)),some (.v (.bool a)),some (.v (.bool b))=>some (.v (.bool (bif t then a else b)))
  |some (.v (.bool t)),some (.v (.int k a)),some (.v (.int k2 b))=>if k=k2 then some (.v (.int k (bif t then a else b))) else none
  |some (.v (.bool t)),some (.v (.string a)),some (.v (.string b))=>some (.v (.string (bif t then a else b)))
  |_,_,_=>none
 |.minmax true [x,y]=>match x.ev env,y.ev env with
  |some (.v (.int k a)),some (.v (.int _ b))=>some (.v (.int k (max a b)))
  |_,_=>none
 |.minmax false [x,y]=>match x.ev env,y.ev env with
  |some (.v (.int k a)),some (.v (.int _ b))=>some (.v (.int k (min a b)))
  |_,_=>none
 |.minmax true [x,y,z]=>match x.ev env,y.ev env,z.ev env with
  |some (.v (.int k a)),some (.v (.int _ b)),some (.v (.int _ c))=>some (.v (.int k (max (max a b) c)))
  |_,_,_=>none
 |.minmax false [x,y,z]=>match x.ev env,y.ev env,z.ev env with
  |some (.v (.int k a)),some (.v (.int _ b)),some (.v (.int _ c))=>some (.v (.int k (min (min a b) c)))
  |_,_,_=>none
 |_=>none
theorem e07{P:Program}{o:AOp}{env:Env}{av:AV}(he:h0p o env=some av)(h:A7):a22 P o env h av h:=by
 unfold h0p at he;split at he
 case h_1=>
  split at he
  ·rename_i hx;cases he;exact g57 hx
  ·cases he
 case h_2=>
  split at he
  ·rename_i hx hy;cases he;exact h1x hx hy
  ·cases he
 case h_3=>
  split at he
  ·rename_i hx hy;cases he;exact h0k hx hy
  ·cases he
 case h_4=>
  split at he
  ·rename_i hx hy;cases he;exact d7a hx hy (c:=True) rfl trivial
  ·cases he
 case h_5=>
  split at he
  ·rename_i hx hy;cases he;exact d7a hx hy (c:=True) rfl trivial
  ·cases he
 case h_6=>
  split at he
  ·rename_i hx hy;cases he;exact d7a hx hy (c:=True) rfl trivial
  ·cases he
 case h_7=>
  split at he
  ·rename_i hx hy;cases he;exact d7a hx hy (c:=True) rfl trivial
  ·cases he
 case h_8=>
  split at he
  ·rename_i hc hx hy;cases he;exact f9q hc hx hy
  ·rename_i hc hx hy;split at he
   ·rename_i hk;subst hk;cases he;exact f9x hc hx hy
   ·cases he
  ·rename_i hc hx hy;cases he;exact g3n hc hx hy
  ·cases he
 case h_9=>
  split at he
  ·rename_i hx hy;cases he;exact g61 hx hy
  ·cases he
 case h_10=>
  split at he
  ·rename_i hx hy;cases he;exact g6x hx hy
  ·cases he
 case h_11=>
  split at he
  ·rename_i hx hy hz;cases he;exact g8s hx hy hz
  ·cases he
 case h_12=>
  split at he
  ·rename_i hx hy hz;cases he;exact g5n hx hy hz
  ·cases he
 case h_13=>cases he
inductive Fr where
 |sq (y:W2)
 |bk (i:Nat)
 |lp (x:W2)
 |sc (l:Nat) (x:W2)
 |sn
inductive Pc where
 |c (x:W2)
 |v (L:List E8)
 |s (b:Bool) (L:List E8) (S gl:List (Nat × List AV)) (w:Option E8) (tl:List E8)
 |n (e:Exit)
 |l (x:W2)
 |g (l:Nat) (x:W2)
structure Mc where
 pc:Pc
 k:List Fr
 env:Env
 h:A7
inductive Rm where
 |ret (r:AV)
 |io (k:Nat) (r:AV) (c:List AV) (b:List (Nat × Nat))
def Rm.kb:Rm->Nat
 |.ret _=>0
 |_=>1
def Rm.kf:Rm->Nat
 |.ret _=>0
 |.io k _ _ _=>k
def Rm.Q(rs:List c09):Rm->Exit->Env->A7->Prop
 |.ret r=>g3t rs r
 |.io k r c b=>qio k rs r c b
section
variable (P:Program) (f:Nat) (R:Rm)
def Qs:List Fr->Exit->Env->A7->Prop
 |[]=>R.Q (cdR P f)
 |.sq y::k=>e9e (fun e h=>D P (cdN P f) R.kb R.kf y (Qs k) e h) (Qs k)
 |.bk i::k=>d57 i (Qs k)
 |.lp x::k=>e9e (fun e h=>DL P (cdN P f) R.kb R.kf x (Qs k) e h) (Qs k)
 |.sc l x::k=>g2e l (fun e h=>DG P (cdN P f) R.kb R.kf x l (Qs k) e h) (Qs k)
 |.sn::k=>f0z (Qs k)
def KK(w:Option E8)(tl:List E8)(K:Env->A7->Prop):Env->A7->Prop:=match w with
 |none=>fun e h=>vd P tl e h K
 |some w=>fun e h=>∃av h',a22 P w.op e h av h'/\vd P tl e h' K
def Ok(s:Mc):Prop:=match s.pc with
 |.c x=>D P (cdN P f) R.kb R.kf x (Qs P f R s.k) s.env s.h
 |.v L=>vd P L s.env s.h (fun e h=>Qs P f R s.k .normal e h)
 |.s b L S gl w tl=>vs P (InS S gl) b L s.env s.h (KK P w tl fun e h=>Qs P f R s.k .normal e h)
 |.n e=>Qs P f R s.k e s.env s.h
 |.l x=>DL P (cdN P f) R.kb R.kf x (Qs P f R s.k) s.env s.h
 |.g l x=>DG P (cdN P f) R.kb R.kf x l (Qs P f R s.k) s.env s.h
end
def c45:W2->Option Nat
 |.goto l=>some l
 |.seq a b=>match c45 a with
  |some l=>some l
  |none=>c45 b
 |.cond _ a b=>match c45 a with
  |some l=>some l
  |none=>c45 b
 |.block _ a=>c45 a
 |.loop a=>c45 a
 |.scope a=>c45 a
 |_=>none
def pop:Exit->List Fr->Option (Pc × List Fr)
 |_,[]=>none
 |e,.sq y::k=>match e with
  |.normal=>some (.c y,k)
  |e=>some (.n e,k)
 |e,.lp x::k=>match e with
  |.normal=>some (.l x,k)
  |e=>some (.n e,k)
 |e,.bk j::k=>match e with
  |.exit i=>some (.n (if i=j then .normal else .exit i),k)
  |e=>some (.n e,k)
 |e,.sc l x::k=>match e with
  |.goto i=>if i=l then some (.g l x,k) else none
  |e=>some (.n e,k)
 |e,.sn::k=>match e with
  |.goto _=>none
  |e=>some (.n e,k)
def bnd(S:List (Nat × List AV)):Nat:=S.foldl (fun n p=>max n (p.1+1)) 0
def opn(o:E8)(env:Env)(h:A7):Option (AV × A7):=match h0p o.op env with
 |some a=>some (a,h)
 |none=>e8b false noC o.op env h
def b9u(s:Mc):Mc:=match s.pc with
 |.c x=>match x with
  |.skip=>⟨.n .normal,s.k,s.env,s.h⟩
  |.region L=>⟨.v L,s.k,s.env,s.h⟩
  |.seq a b=>⟨.c a,.sq b::s.k,s.env,s.h⟩
  |.block i a=>⟨.c a,.bk i::s.k,s.env,s.h⟩
  |.cond c a b=>match c.ev s.env with
   |some (.v (.bool true))=>⟨.c a,s.k,s.env,s.h⟩
   |some (.v (.bool false))=>⟨.c b,s.k,s.env,s.h⟩
   |_=>s
  |.loop a=>⟨.l a,s.k,s.env,s.h⟩
  |.exit i=>⟨.n (.exit i),s.k,s.env,s.h⟩
  |.ret=>⟨.n .ret,s.k,s.env,s.h⟩
  |.scope a=>match c45 a with
   |none=>⟨.c a,.sn::s.k,s.env,s.h⟩
   |some l=>match b9s a l with
    |some _=>⟨.c a,.sc l a::s.k,s.env,s.h⟩
    |none=>s
  |.label _=>⟨.n .normal,s.k,s.env,s.h⟩
  |.goto l=>⟨.n (.goto l),s.k,s.env,s.h⟩
  |_=>s
 |.v []=>⟨.n .normal,s.k,s.env,s.h⟩
 |.v (o::L)=>match a0i s.env o.guard with
  |some false=>⟨.v L,s.k,c0r s.env o.dst,s.h⟩
  |some true=>match opn o s.env s.h with
   |some p=>⟨.v L,s.k,c1g s.env o.dst p.1,p.2⟩
   |none=>s
  |none=>s
 |.s _ [] _ _ none tl=>⟨.v tl,s.k,s.env,s.h⟩
 |.s _ [] _ _ (some _) _=>s
 |.s b (o::L) S gl w tl=>match a0i s.env o.guard with
  |some false=>⟨.s b L S gl w tl,s.k,c0r s.env o.dst,s.h⟩
  |some true=>match o.op,o.guard,b with
   |.alloc cells,none,true=>⟨.s b L S gl w tl,s.k,c1g s.env o.dst (.ptr s.h.blks.length 0),⟨s.h.blks++[some cells],s.h.bufs,s.h.globs⟩⟩
   |_,_,_=>if a68 o.op=true then match opn o s.env ⟨e3p (bnd S) S,[],gl⟩ with
    |some p=>⟨.s b L S gl w tl,s.k,c1g s.env o.dst p.1,s.h⟩
    |none=>s
    else s
  |none=>s
 |.n e=>match pop e s.k with
  |some p=>⟨p.1,p.2,s.env,s.h⟩
  |none=>s
 |.l x=>⟨.c x,.lp x::s.k,s.env,s.h⟩
 |.g l x=>match b9s x l with
  |some y=>⟨.c y,.sc l x::s.k,s.env,s.h⟩
  |none=>s
def run:Nat->Mc->Mc
 |0,s=>s
 |n+1,s=>run n (b9u s)
section
variable {P:Program}{f:Nat}{R:Rm}{s:Mc}
theorem f1o:∀k,c78 fun e h=>Qs P f R k .normal e h
 |[]=>by cases R<;>first|exact e8r|exact h4c
 |.sq y::k=>g83
 |.bk i::k=>f1o k
 |.lp x::k=>f6d
 |.sc l x::k=>f1o k
 |.sn::k=>f1o k
theorem h1b{w:Option E8}{tl:List E8}{K:Env->A7->Prop}(hK:c78 K):c78 (KK P w tl K):=by
 cases w with
 |none=>exact f58 hK
 |some w=>exact fun e env h he ⟨av,h',hd,hv⟩=>⟨av,h',hd.less he,c1p hK he hv⟩
theorem f07{n:Nat}{S gl:List (Nat × List AV)}{o:E8}{env:Env}{p:AV × A7}(hq:a68 o.op=true)(he:opn o env ⟨e3p n S,[],gl⟩=some p):∀h2,InS S gl h2->d86 P o.op env h2 p.1:=by
 unfold opn at he;split at he
 ·rename_i a ha;cases he;exact fun h2 _=>(e07 ha h2).q
 ·exact f2r hq he
theorem e3d{o:E8}{env:Env}{h:A7}{p:AV × A7}(he:opn o env h=some p):a22 P o.op env h p.1 p.2:=by
 unfold opn at he;split at he
 ·rename_i a ha;cases he;exact e07 ha h
 ·exact f8t he
theorem g6l{e:Exit}{k:List Fr}{p:Pc × List Fr}{env:Env}{h:A7}(hp:pop e k=some p)(hk:Ok P f R ⟨p.1,p.2,env,h⟩):Qs P f R k e env h:=by
 cases k with
 |nil=>cases hp
 |cons fr k=>
  cases fr with
  |sq y=>cases e<;>(cases hp;exact hk)
  |lp x=>cases e<;>(cases hp;exact hk)
  |bk j=>
   cases e with
   |exit i=>
    cases hp;show(if i=j then Qs P f R k .normal env h else Qs P f R k (.exit i) env h);split
    ·rename_i hij;rw[if_pos hij]at hk;exact hk
    ·rename_i hij;rw[if_neg hij]at hk;exact hk
   |_=>cases hp;exact hk
  |sc l x=>
   cases e
   case goto i=>
    simp only[pop]at hp;split at hp
    ·rename_i hil;cases hp;exact⟨hil,hk⟩
    ·cases hp
   all_goals (cases hp;exact hk)
  |sn=>cases e<;>(cases hp;try exact hk)
theorem g08(hk:Ok P f R (b9u s)):Ok P f R s:=by
 obtain⟨pc,k,env,h⟩:=s;cases pc with
 |c x=>
  cases x with
  |skip=>exact e8v hk
  |region L=>exact dr hk
  |seq a b=>exact e1b hk
  |block i a=>exact f55 hk
  |loop a=>exact g3o hk
  |exit i=>exact g7g hk
  |ret=>exact f4f hk
  |label _=>exact f90 hk
  |goto l=>exact g8h hk
  |cond c a b=>
   simp only[b9u]at hk;split at hk
   ·rename_i hc;exact f3f hc rfl hk
   ·rename_i hc;exact e26 hc rfl hk
   ·exact hk
  |scope a=>
   simp only[b9u]at hk;split at hk
   ·exact f3i hk
   ·split at hk
    ·rename_i hf;exact f4s hf hk
    ·exact hk
  |_=>exact hk
 |v L=>
  cases L with
  |nil=>exact hk
  |cons o L=>
   simp only[b9u]at hk;split at hk
   ·rename_i hg;exact .inl ⟨hg,hk⟩
   ·rename_i hg;split at hk
    ·rename_i p hp;exact .inr (.inl ⟨hg,p.1,p.2,e3d hp,hk⟩)
    ·exact hk
   ·exact hk
 |s b L S gl w tl=>
  cases L with
  |nil=>cases w<;>exact hk
  |cons o L=>
   simp only[b9u]at hk;split at hk
   ·rename_i hg;exact .inl ⟨hg,hk⟩
   ·rename_i hg;split at hk
    ·rename_i cells h1 h2;exact .inr (.inr (.inr ⟨rfl,cells,h1,h2,hk⟩))
    ·split at hk
     ·rename_i hq;split at hk
      ·rename_i p hp;exact .inr (.inl ⟨hg,hq,p.1,f07 hq hp,hk⟩)
      ·exact hk
     ·exact hk
   ·exact hk
 |n e=>
  simp only[b9u]at hk;split at hk
  ·rename_i p hp;exact g6l hp hk
  ·exact hk
 |l x=>exact f0g hk
 |g l x=>
  simp only[b9u]at hk;split at hk
  ·rename_i hf;exact e7z hf hk
  ·exact hk
theorem N5:∀(n:Nat) {s:Mc},Ok P f R (run n s)->Ok P f R s
 |0,_,hk=>hk
 |n+1,_,hk=>g08 (N5 n hk)
theorem d0d{e:Env}(he:c4s e s.env)(hc:(match s.pc with|.n _=>false|.g _ _=>false|_=>true)=true)(hk:Ok P f R ⟨s.pc,s.k,e,s.h⟩):Ok P f R s:=by
 obtain⟨pc,k,env,h⟩:=s;cases pc with
 |c x=>exact g83 e env h he hk
 |v L=>exact c1p (f1o k) he hk
 |s b L S gl w tl=>exact d2f (h1b (f1o k)) he hk
 |l x=>exact f6d e env h he hk
 |_=>cases hc
end
structure En(α:Type) where
 e:α->List AV
 f:α->List AV
 sz:Nat
 eq:∀y,f y=e y
 len:∀y,(e y).length=sz
 ro:c47 f sz
def oX:AOp->L5
 |.idxSl _ x _=>x
 |.idxS x _=>x
 |.len _ x=>x
 |.bin _ x _=>x
 |.sliceS x _ _=>x
 |.sliceV _ x _ _ _=>x
 |.append _ _ x _=>x
 |.conv _ x=>x
 |.bytes x=>x
 |.load _ x=>x
 |.store _ p _=>p
 |.make _ _ _ x _=>x
 |.call f _=>f
 |.eq _ _ x _=>x
 |.next x=>x
 |.assertT _ _ _ x=>x
 |_=>.t 0
def oY:AOp->L5
 |.idxSl _ _ i=>i
 |.idxS _ i=>i
 |.bin _ _ y=>y
 |.append _ _ _ y=>y
 |.store _ _ x=>x
 |.make _ _ _ _ y=>y
 |.eq _ _ _ y=>y
 |_=>.t 0
def oA:AOp->List L5
 |.call _ l=>l
 |_=>[]
def oLo:AOp->Option L5
 |.sliceS _ l _=>l
 |.sliceV _ _ l _ _=>l
 |_=>none
def oHi:AOp->Option L5
 |.sliceS _ _ l=>l
 |.sliceV _ _ _ l _=>l
 |_=>none
def oMx:AOp->L5
 |.sliceV _ _ _ _ (some m)=>m
 |_=>.t 0
def oZ:AOp->AV
 |.assertT _ _ z _=>z
 |_=>.nil
def oB:AOp->BinOp
 |.bin b _ _=>b
 |_=>.add
def opS(s:Mc):E8:=match s.pc with
 |.v (o::_)=>o
 |.s _ (o::_) _ _ _ _=>o
 |.s _ [] _ _ (some w) _=>w
 |_=>⟨none,.alloc [],none⟩
def op(s:Mc):AOp:=(opS s).op
def put(s:Mc)(av:AV):Mc:=match s.pc with
 |.v (o::L)=>⟨.v L,s.k,c1g s.env o.dst av,s.h⟩
 |.s b (o::L) S gl w tl=>⟨.s b L S gl w tl,s.k,c1g s.env o.dst av,s.h⟩
 |_=>s
def d2l(s:Mc)(av:AV)(h:A7):Mc:=match s.pc with
 |.v (o::L)=>⟨.v L,s.k,c1g s.env o.dst av,h⟩
 |.s _ (o::L) S gl w tl=>⟨.s false L S gl w tl,s.k,c1g s.env o.dst av,h⟩
 |.s _ [] _ _ (some _) tl=>⟨.v tl,s.k,s.env,h⟩
 |_=>s
def okS(s:Mc):Bool:=match s.pc with
 |.v (o::_)=>a0i s.env o.guard==some true
 |.s _ (o::_) _ _ _ _=>a0i s.env o.guard==some true&&a68 o.op
 |_=>false
def okH(s:Mc):Bool:=match s.pc with
 |.v (o::_)=>a0i s.env o.guard==some true
 |.s _ (o::_) _ _ _ _=>a0i s.env o.guard==some true&& !a68 o.op&& !d12 o
 |.s _ [] _ _ (some _) _=>true
 |_=>false
def seS(s:Mc)(h:A7):Option (List (Option (Option (List AV))) × List (Nat × List AV)):=match s.pc with
 |.s _ (_::_) S _ _ _=>some (inS S h,h.globs)
 |_=>none
def seE(s:Mc):Option (List (Option (Option (List AV))) × List (Nat × List AV)):=match s.pc with
 |.s _ (_::_) S gl _ _=>some (S.map (fun p=>some (some p.2)),gl)
 |_=>none
def g5v(s:Mc)(h:A7):Prop:=match s.pc with
 |.s _ _ S gl _ _=>InS S gl h
 |_=>h=s.h
def f0j(s:Mc):List (Nat × List AV):=match s.pc with
 |.s _ _ _ gl _ _=>gl
 |_=>s.h.globs
def g9h(s:Mc)(r:Nat):Option (List AV):=match s.pc with
 |.s _ _ S _ _ _=>(S.find? fun p=>p.1==r).map (·.2)
 |_=>(s.h.blks[r]?).bind id
def xv(s:Mc):Option AV:=(oX (op s)).ev s.env
def yv(s:Mc):Option AV:=(oY (op s)).ev s.env
def h4k(s:Mc):Value:=((g9f (oB (op s)) (xv s) (yv s)).map (·.2)).getD (.bool true)
def g81(x:Option AV):ByteArray:=match x with
 |some (.v (.string t))=>t
 |_=>⟨#[]⟩
def g8u(x:Option AV):Nat:=match x with
 |some (.sl _ (.own i))=>i
 |_=>0
def e5l(x:Option AV):Nat:=match x with
 |some (.row r _ _ _ _)=>r
 |some (.ptr r _)=>r
 |_=>0
def h76(x:Option AV):Nat:=match x with
 |some (.row _ _ _ _ c)=>c
 |_=>0
section
variable {P:Program}{f:Nat}{R:Rm}{s:Mc}
theorem d66{h:A7}(hs:g5v s h):h.globs=f0j s:=by
 unfold g5v at hs;unfold f0j;split at hs
 ·exact hs.2
 ·subst hs;rfl
theorem e1h{h:A7}{r:Nat}{c:List AV}(hs:g5v s h)(hr:g9h s r=some c):h.blks[r]? =some (some c):=by
 unfold g5v at hs;unfold g9h at hr;split at hs
 ·rename_i hp;rw[hp]at hr;simp only[Option.map_eq_some_iff]at hr;obtain⟨p,h1,rfl⟩:=hr;have h2:=List.find?_some h1;have h3:p.1=r:=by simpa using h2
  subst h3;exact hs.1 _ _ (List.mem_of_find?_eq_some h1)
 ·rename_i hp;subst hs;split at hr
  ·rename_i hq;exact absurd hq (hp _ _ _ _ _ _)
  ·obtain⟨x,h1,h2⟩:=Option.bind_eq_some_iff.1 hr;rw[h1];exact congrArg some h2
theorem d8b{av:AV}(hd:∀h,g5v s h->a22 P (op s) s.env h av h)(hk:Ok P f R (put s av))(hc:okS s=true):Ok P f R s:=by
 obtain⟨pc,k,env,h⟩:=s;cases pc with
 |v L=>
  cases L with
  |nil=>cases hc
  |cons o L=>exact .inr (.inl ⟨by simpa[okS]using hc,av,h,hd h rfl,hk⟩)
 |s b L S gl w tl=>
  cases L with
  |nil=>cases hc
  |cons o L=>
   have hc':a0i env o.guard=some true/\a68 o.op=true:=by simpa[okS]using hc
   exact .inr (.inl ⟨hc'.1,hc'.2,av,fun h2 hi=>(hd h2 hi).q,hk⟩)
 |_=>cases hc
theorem a6a{av:AV}{h':A7}(hd:a22 P (op s) s.env s.h av h')(hk:Ok P f R (d2l s av h'))(hc:okH s=true)(hs:seS s h'=seE s):Ok P f R s:=by
 obtain⟨pc,k,env,h⟩:=s;cases pc with
 |v L=>
  cases L with
  |nil=>cases hc
  |cons o L=>exact .inr (.inl ⟨by simpa[okH]using hc,av,h',hd,hk⟩)
 |s b L S gl w tl=>
  cases L with
  |nil=>
   cases w with
   |none=>cases hc
   |some w=>exact⟨av,h',hd,hk⟩
  |cons o L=>
   have hc':(a0i env o.guard=some true/\a68 o.op=false)/\d12 o=false:=by simpa[okH]using hc
   have hs':inS S h'=S.map (fun p=>some (some p.2))/\h'.globs=gl:=by simpa[seS,seE]using hs
   exact .inr (.inr (.inl ⟨hc'.1.1,hc'.1.2,hc'.2,av,h',hd,f1s hs'.1 hs'.2,hk⟩))
 |_=>cases hc
theorem ev0(m:Nat){av:AV}(hd:∀h,a22 P (op (run m s)) (run m s).env h av h)(hk:Ok P f R (put (run m s) av))(hc:okS (run m s)=true):Ok P f R s:=N5 m (d8b (fun h _=>hd h) hk hc)
variable {α:Type}{W:α->Prop}{p q:Prop}
theorem KI(m:Nat)(E:En α){l:List α}{n:Int}(hw:∃y,l[n.toNat]? =some y/\0<=n/\W y)(hk:∀y,W y->Ok P f R (put (run m s) (.elt (E.e y) 0)))(hc:okS (run m s)=true:=by kernel_rfl)(ho:op (run m s)=.idxSl E.sz (oX (op (run m s))) (oY (op (run m s))):=by kernel_rfl)(hx:b9g (xv (run m s))=some (List.map E.f l):=by kernel_rfl)(hi:c42 (yv (run m s))=some n:=by kernel_rfl):Ok P f R s:=by
 obtain⟨y,h1,h0,hw⟩:=hw;exact ev0 m (fun h=>by rw[ho];exact h2e h0 h1 (E.eq y) hx hi (E.len y)) (hk y hw) hc
theorem KL(m:Nat)(E:En α)(l:List α)(hk:Ok P f R (put (run m s) (.v (.int .i64 l.length))))(hc:okS (run m s)=true:=by kernel_rfl)(ho:op (run m s)=.len false (oX (op (run m s))):=by kernel_rfl)(hx:b9g (xv (run m s))=some (List.map E.f l):=by kernel_rfl):Ok P f R s:=ev0 m (fun h=>by rw[ho];exact h3b l E.f hx) hk hc
theorem KC(m:Nat){g:FuncId}{gl:List (Nat × List AV)}{args:List AV}{e:α->AV}(hw:∃y,B8 P gl g args (e y)/\W y)(hp:plainL args=true)(hk:∀y,W y->Ok P f R (put (run m s) (e y)))(hc:okS (run m s)=true:=by kernel_rfl)(ho:op (run m s)=.call (.c (.clo (.func g) [] [])) (oA (op (run m s))):=by kernel_rfl)(ha:(evs (run m s).env (oA (op (run m s)))).map (List.map nz)=some args:=by kernel_rfl)(hg:f0j (run m s)=gl:=by kernel_rfl)(hgl:X1 gl=true:=by kernel_rfl):Ok P f R s:=by
 obtain⟨y,h1,hw⟩:=hw;subst hg;refine N5 m (d8b (fun h hs=>?_) (hk y hw) hc);rw[ho];rw[<-d66 hs]at h1 hgl;exact g4a h1 hp ha hgl
theorem KF(m:Nat){gl:List (Nat × List AV)}{args:List AV}{F:AV}{e:α->AV}(hw:∃y,a6z P gl F args (e y)/\W y)(hk:∀y,W y->Ok P f R (put (run m s) (e y)))(hc:okS (run m s)=true:=by kernel_rfl)(ho:op (run m s)=.call (oX (op (run m s))) (oA (op (run m s))):=by kernel_rfl)(hf:xv (run m s)=some F:=by kernel_rfl)(ha:(evs (run m s).env (oA (op (run m s)))).map (List.map nz)=some args:=by kernel_rfl)(hg:f0j (run m s)=gl:=by kernel_rfl)(hgl:X1 gl=true:=by kernel_rfl):Ok P f R s:=by
 obtain⟨y,h1,hw⟩:=hw;subst hg;refine N5 m (d8b (fun h hs=>?_) (hk y hw) hc);rw[ho];rw[<-d66 hs]at h1 hgl;exact f9i h1 hf ha hgl
theorem KIS(m:Nat){t:ByteArray}{n:Int}(hw:(0<=n/\n<(t.size:Int))/\p)(hk:p->Ok P f R (put (run m s) (.v (.int .u8 (E9 t n.toNat)))))(hc:okS (run m s)=true:=by kernel_rfl)(ho:op (run m s)=.idxS (oX (op (run m s))) (oY (op (run m s))):=by kernel_rfl)(hx:xv (run m s)=some (.v (.string t)):=by kernel_rfl)(hi:c42 (yv (run m s))=some n:=by kernel_rfl):Ok P f R s:=ev0 m (fun h=>by rw[ho];exact g4e hw.1 hx hi) (hk hw.2) hc
theorem KSS(m:Nat){t:ByteArray}{a u:Int}(hw:(0<=a/\a<=u/\u<=(t.size:Int))/\p)(hk:p->Ok P f R (put (run m s) (.v (.string (t.extract a.toNat u.toNat)))))(hc:okS (run m s)=true:=by kernel_rfl)(ho:op (run m s)=.sliceS (oX (op (run m s))) (oLo (op (run m s))) (oHi (op (run m s))):=by kernel_rfl)(hx:xv (run m s)=some (.v (.string t)):=by kernel_rfl)(h3:(evo (run m s).env (oLo (op (run m s)))).bind (F8 0)=some a:=by kernel_rfl)(h4:(evo (run m s).env (oHi (op (run m s)))).bind (F8 t.size)=some u:=by kernel_rfl):Ok P f R s:=ev0 m (fun h=>by rw[ho];exact f5d hw.1 hx h3 h4) (hk hw.2) hc
theorem KSV(m:Nat)(E:En α){l:List α}{a u:Int}(hw:(0<=a/\a<=u/\u<=(l.length:Int))/\p)(hk:p->Ok P f R (put (run m s) (.sl (List.map E.f ((l.take u.toNat).drop a.toNat)) .no)))(hc:okS (run m s)=true:=by kernel_rfl)(ho:op (run m s)=.sliceV E.sz (oX (op (run m s))) (oLo (op (run m s))) (oHi (op (run m s))) none:=by kernel_rfl)(hx:b9g (xv (run m s))=some (List.map E.f l):=by kernel_rfl)(h3:(evo (run m s).env (oLo (op (run m s)))).bind (F8 0)=some a:=by kernel_rfl)(h4:(evo (run m s).env (oHi (op (run m s)))).bind (F8 l.length)=some u:=by kernel_rfl)(h5:((oLo (op (run m s))).isSome||(oHi (op (run m s))).isSome)=true:=by kernel_rfl):Ok P f R s:=ev0 m (fun h=>by rw[ho];exact f9u hw.1 E.ro.hs hx h3 h4 h5) (hk hw.2) hc
theorem KSF(m:Nat)(E:En α){l:List α}{a u:Int}(hw:(0<=a/\a<=u/\u<=(l.length:Int))/\p)(hk:p->Ok P f R (put (run m s) (.sl (List.map E.f ((l.take u.toNat).drop a.toNat)) .full)))(hc:okS (run m s)=true:=by kernel_rfl)(ho:op (run m s)=.sliceV E.sz (oX (op (run m s))) (oLo (op (run m s))) (oHi (op (run m s))) (some (oMx (op (run m s)))):=by kernel_rfl)(hx:b9g (xv (run m s))=some (List.map E.f l):=by kernel_rfl)(h3:(evo (run m s).env (oLo (op (run m s)))).bind (F8 0)=some a:=by kernel_rfl)(h4:(evo (run m s).env (oHi (op (run m s)))).bind (F8 l.length)=some u:=by kernel_rfl)(h5:c42 ((oMx (op (run m s))).ev (run m s).env)=some u:=by kernel_rfl)(h6:(oHi (op (run m s))).isSome=true:=by kernel_rfl):Ok P f R s:=ev0 m (fun h=>by rw[ho];exact f4o hw.1 E.ro.hs hx h3 h4 h5 h6) (hk hw.2) hc
theorem KB(m:Nat){c:Prop}(hw:c/\p)(hk:p->Ok P f R (put (run m s) (.v (h4k (run m s)))))(hc:okS (run m s)=true:=by kernel_rfl)(ho:op (run m s)=.bin (oB (op (run m s))) (oX (op (run m s))) (oY (op (run m s))):=by kernel_rfl)(hx:(g9f (oB (op (run m s))) (xv (run m s)) (yv (run m s))).map (·.1)=some c:=by kernel_rfl):Ok P f R s:=by
 obtain⟨⟨c',r⟩,h1,h2⟩:=Option.map_eq_some_iff.1 hx;have h3:h4k (run m s)=r:=by unfold h4k;rw[h1];rfl
 have h4:c'=c:=h2;subst h4;rw[h3]at hk;exact ev0 m (fun h=>by rw[ho];exact h04 r hw.1 h1) (hk hw.2) hc
theorem h25(m:Nat){a b:ByteArray}(hw:((a.size+b.size:Nat):Int)<=9223372036854775807/\p)(hk:p->Ok P f R (put (run m s) (.v (.string (a++b)))))(hc:okS (run m s)=true:=by kernel_rfl)(ho:op (run m s)=.bin .add (oX (op (run m s))) (oY (op (run m s))):=by kernel_rfl)(hx:xv (run m s)=some (.v (.string a)):=by kernel_rfl)(hy:yv (run m s)=some (.v (.string b)):=by kernel_rfl):Ok P f R s:=ev0 m (fun h=>by rw[ho];exact h0d hw.1 hx hy) (hk hw.2) hc
def HM(h:A7)(y:Option AV)(E:En α)(m:List α):Prop:=y.bind (c7j h E.sz)=some (List.map E.f m)
theorem mF{h:A7}{y:Option AV}{E:En α}{l:List α}(hm:y.bind (c7j h E.sz)=some (List.map E.f l):=by kernel_rfl):HM h y E l:=hm
theorem mE{h:A7}{y:Option AV}{E:En α}{l:List α}(hm:y.bind (c7j h E.sz)=some (List.map E.e l):=by kernel_rfl):HM h y E l:=by
 have:=funext E.eq;unfold HM;rw[this];exact hm
def HX(x:Option AV)(E:En α)(l:List α):Prop:=b9g x=some (List.map E.f l)
theorem xE{x:Option AV}{E:En α}{l:List α}(h:b9g x=some (List.map E.e l):=by kernel_rfl):HX x E l:=by
 have:=funext E.eq;unfold HX;rw[this];exact h
theorem KA0(m:Nat)(E:En α){l:List α}{b:Nat}(hw:l.length*b<=140737488355328/\p)(hm:HM (run m s).h (yv (run m s)) E l)(hk:p->Ok P f R (d2l (run m s) (.sl (List.map E.f l) (.own (run m s).h.bufs.length)) ⟨(run m s).h.blks,(run m s).h.bufs++[(l.length,E.sz)],(run m s).h.globs⟩))(hc:okH (run m s)=true:=by kernel_rfl)(hs:seS (run m s) ⟨(run m s).h.blks,(run m s).h.bufs++[(l.length,E.sz)],(run m s).h.globs⟩=seE (run m s):=by kernel_rfl)(ho:op (run m s)=.append E.sz b (oX (op (run m s))) (oY (op (run m s))):=by kernel_rfl)(hx:xv (run m s)=some .nil:=by kernel_rfl):Ok P f R s:=N5 m (a6a (by rw[ho];exact g7a E.f l hw.1 E.ro.hs hm hx) (hk hw.2) hc hs)
theorem KA(m:Nat)(E:En α){l l2:List α}{b:Nat}(hw:(l.length+l2.length)*b<=140737488355328/\p)(hm:HM (run m s).h (yv (run m s)) E l2)(hk:p->Ok P f R (d2l (run m s) (.sl (List.map E.f (l++l2)) (.own (g8u (xv (run m s))))) ⟨(run m s).h.blks,(run m s).h.bufs.set (g8u (xv (run m s))) ((l++l2).length,E.sz),(run m s).h.globs⟩))(hc:okH (run m s)=true:=by kernel_rfl)(hs:seS (run m s) ⟨(run m s).h.blks,(run m s).h.bufs.set (g8u (xv (run m s))) ((l++l2).length,E.sz),(run m s).h.globs⟩=seE (run m s):=by kernel_rfl)(ho:op (run m s)=.append E.sz b (oX (op (run m s))) (oY (op (run m s))):=by kernel_rfl)(hx:xv (run m s)=some (.sl (List.map E.f l) (.own (g8u (xv (run m s))))):=by kernel_rfl)(hb:(run m s).h.bufs[g8u (xv (run m s))]? =some (l.length,E.sz):=by kernel_rfl):Ok P f R s:=N5 m (a6a (by rw[ho];exact h0o _ E.f l l2 hw.1 E.ro.hs hm hx hb) (hk hw.2) hc hs)
theorem KAf(m:Nat)(E:En α){l l2:List α}{b:Nat}(hw:(l.length+l2.length)*b<=140737488355328/\p)(hm:HM (run m s).h (yv (run m s)) E l2)(hX:HX (xv (run m s)) E l)(hk:p->Ok P f R (d2l (run m s) (.sl (List.map E.f (l++l2)) (.own (run m s).h.bufs.length)) ⟨(run m s).h.blks,(run m s).h.bufs++[((l++l2).length,E.sz)],(run m s).h.globs⟩))(hc:okH (run m s)=true:=by kernel_rfl)(hs:seS (run m s) ⟨(run m s).h.blks,(run m s).h.bufs++[((l++l2).length,E.sz)],(run m s).h.globs⟩=seE (run m s):=by kernel_rfl)(ho:op (run m s)=.append E.sz b (oX (op (run m s))) (oY (op (run m s))):=by kernel_rfl)(hx:g6c (xv (run m s))=some .full:=by kernel_rfl):Ok P f R s:=N5 m (a6a (by rw[ho];exact f6q E.f l l2 hw.1 E.ro.hs hm hX hx) (hk hw.2) hc hs)
theorem KY(m:Nat)(hk:Ok P f R (d2l (run m s) (.sl (List.map (fun n=>[AV.v (.int .u8 n)]) (bI (g81 (xv (run m s))))) (.own (run m s).h.bufs.length)) ⟨(run m s).h.blks,(run m s).h.bufs++[((bI (g81 (xv (run m s)))).length,1)],(run m s).h.globs⟩))(hc:okH (run m s)=true:=by kernel_rfl)(hs:seS (run m s) ⟨(run m s).h.blks,(run m s).h.bufs++[((bI (g81 (xv (run m s)))).length,1)],(run m s).h.globs⟩=seE (run m s):=by kernel_rfl)(ho:op (run m s)=.bytes (oX (op (run m s))):=by kernel_rfl)(hx:xv (run m s)=some (.v (.string (g81 (xv (run m s))))):=by kernel_rfl):Ok P f R s:=N5 m (a6a (by rw[ho];exact f9h _ hx) hk hc hs)
theorem KS(m:Nat){l:List Int}{W:ByteArray->Prop}(hw:∃t,l=bI t/\W t)(hk:∀t,W t->Ok P f R (put (run m s) (.v (.string t))))(hc:okS (run m s)=true:=by kernel_rfl)(ho:op (run m s)=.conv .str (oX (op (run m s))):=by kernel_rfl)(hx:b9g (xv (run m s))=some (List.map (fun n=>[AV.v (.int .u8 n)]) l):=by kernel_rfl):Ok P f R s:=by
 obtain⟨t,h1,hw⟩:=hw;exact ev0 m (fun h=>by rw[ho];exact h3s h1 hx) (hk t hw) hc
theorem KRI(m:Nat){len:Nat}{n:Int}(sz:Nat)(hw:(0<=n/\n<(len:Int))/\p)(hk:p->Ok P f R (put (run m s) (.ptr (e5l (xv (run m s))) (0+n.toNat*sz))))(hc:okS (run m s)=true:=by kernel_rfl)(ho:op (run m s)=.idxSl sz (oX (op (run m s))) (oY (op (run m s))):=by kernel_rfl)(hx:xv (run m s)=some (.row (e5l (xv (run m s))) 0 sz len (h76 (xv (run m s)))):=by kernel_rfl)(hi:c42 (yv (run m s))=some n:=by kernel_rfl):Ok P f R s:=ev0 m (fun h=>by rw[ho];exact g6y _ len _ hw.1 hx hi) (hk hw.2) hc
theorem KRn(m:Nat)(E:En α){l:List α}{i:Nat}(hw:∃y,l[i]? =some y/\W y)(hk:∀y,W y->Ok P f R (put (run m s) (.agg (E.e y))))(hc:okS (run m s)=true:=by kernel_rfl)(ho:op (run m s)=.load (some E.sz) (oX (op (run m s))):=by kernel_rfl)(hx:xv (run m s)=some (.ptr (e5l (xv (run m s))) (0+i*E.sz)):=by kernel_rfl)(hr:g9h (run m s) (e5l (xv (run m s)))=some (cellsOf E.f l):=by kernel_rfl):Ok P f R s:=by
 obtain⟨y,h1,hw⟩:=hw;exact N5 m (d8b (fun h hs=>by rw[ho];exact g6h E.ro.hs E.ro.hn h1 (E.eq y) (Nat.zero_add _) hx (e1h hs hr)) (hk y hw) hc)
def atE(l:List AV)(k:Nat):AV:=l[k]?.getD .nil
theorem KR1(m:Nat)(E:En α)(k:Nat){l:List α}{i:Nat}(hw:∃y,l[i]? =some y/\W y)(hk:∀y,W y->Ok P f R (put (run m s) (atE (E.e y) k)))(hc:okS (run m s)=true:=by kernel_rfl)(ho:op (run m s)=.load none (oX (op (run m s))):=by kernel_rfl)(hx:xv (run m s)=some (.ptr (e5l (xv (run m s))) (0+i*E.sz+k)):=by kernel_rfl)(hr:g9h (run m s) (e5l (xv (run m s)))=some (cellsOf E.f l):=by kernel_rfl)(hb:Nat.ble (k+1) E.sz=true:=by kernel_rfl):Ok P f R s:=by
 obtain⟨y,h1,hw⟩:=hw;have hlt:k<E.sz:=Nat.le_of_ble_eq_true hb
 have hg:(E.f y)[k]? =some (atE (E.e y) k):=by
  rw[E.eq y];have:k<(E.e y).length:=by rw[E.len y];exact hlt
  simp[atE,this]
 exact N5 m (d8b (fun h hs=>by rw[ho];exact g50 E.ro.hs E.ro.hn h1 hlt hg (by omega) hx (e1h hs hr)) (hk y hw) hc)
theorem KRS(m:Nat)(E:En α)(z:α){l:List α}{i:Nat}(hw:i<l.length/\p)(hk:p->Ok P f R (d2l (run m s) (.tuple []) ⟨(run m s).h.blks.set (e5l (xv (run m s))) (some (cellsOf E.f (l.set i z))),(run m s).h.bufs,(run m s).h.globs⟩))(hc:okH (run m s)=true:=by kernel_rfl)(hs:seS (run m s) ⟨(run m s).h.blks.set (e5l (xv (run m s))) (some (cellsOf E.f (l.set i z))),(run m s).h.bufs,(run m s).h.globs⟩=seE (run m s):=by kernel_rfl)(ho:op (run m s)=.store E.sz (oX (op (run m s))) (oY (op (run m s))):=by kernel_rfl)(hx:xv (run m s)=some (.ptr (e5l (xv (run m s))) (0+i*E.sz)):=by kernel_rfl)(hy:(yv (run m s)).map (fun a=>(a.isTuple,a.cells))=some (false,E.e z):=by kernel_rfl)(hr:(run m s).h.blks[e5l (xv (run m s))]? =some (some (cellsOf E.f l)):=by kernel_rfl):Ok P f R s:=by
 obtain⟨a,h1,h2⟩:=Option.map_eq_some_iff.1 hy;have h3:=congrArg Prod.fst h2;have h4:=congrArg Prod.snd h2;exact N5 m (a6a (by rw[ho];exact g93 z E.ro.hs E.ro.hn hw.1 ((E.eq z).trans h4.symm) (Nat.zero_add _) hx h1 h3 hr) (hk hw.2) hc hs)
theorem KM(m:Nat)(E:En α)(z:α){L C:Int}{b:Nat}(hw:(0<=L/\L<=C/\C*b<=140737488355328)/\p)(hk:p->Ok P f R (d2l (run m s) (.row (run m s).h.blks.length 0 E.sz L.toNat C.toNat) ⟨(run m s).h.blks++[some (cellsOf E.f (List.replicate C.toNat z))],(run m s).h.bufs,(run m s).h.globs⟩))(hc:okH (run m s)=true:=by kernel_rfl)(hs:seS (run m s) ⟨(run m s).h.blks++[some (cellsOf E.f (List.replicate C.toNat z))],(run m s).h.bufs,(run m s).h.globs⟩=seE (run m s):=by kernel_rfl)(ho:op (run m s)=.make E.sz b (E.e z) (oX (op (run m s))) (oY (op (run m s))):=by kernel_rfl)(hx:c42 (xv (run m s))=some L:=by kernel_rfl)(hy:c42 (yv (run m s))=some C:=by kernel_rfl):Ok P f R s:=N5 m (a6a (by rw[ho];exact g8j E.f z L C hw.1 hx hy (E.eq z).symm (E.ro.hs z)) (hk hw.2) hc hs)
end
end Go.Proofs.YtidmmngcijapcaaGreat.Lift
