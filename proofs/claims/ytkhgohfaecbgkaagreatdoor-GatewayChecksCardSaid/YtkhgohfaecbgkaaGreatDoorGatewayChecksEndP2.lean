/- Part 3 of the texts that prove GatewayChecksEnd. -/
import Derived.Test.YtkhgohfaecbgkaaGreatDoorGatewayChecksEndP1
import Derived.LoopN
namespace Go.Proofs.YtkhgohfaecbgkaaGreatDoor.Lift
open Go.RowKit
set_option linter.unusedVariables false
set_option linter.unusedSimpArgs false
set_option linter.unnecessarySimpa false
set_option linter.unusedSectionVars false
set_option maxRecDepth 100000
abbrev W6:=FuncId->List AV->A3->Option (AV × A3)
def b51(h:A3)(o:Option AV):Option (AV × A3):=o.map fun a=>(a,h)
def f96(h:A3)(size bytes:Nat)(zero:List AV)(x y:AV):Option (AV × A3):=
 match x,y with
 |.v (.int _ l),.v (.int _ c)=>if 0<=l/\l<=c/\c*bytes<=140737488355328 then some (.row h.blks.length 0 size l.toNat c.toNat,⟨h.blks++[some (Z6 size c.toNat zero)],h.bufs,h.globs⟩) else none
 |_,_=>none
theorem d8c{h h':A3}{size bytes:Nat}{zero:List AV}{x y a:AV}{K:AV->A3->Prop}(he:f96 h size bytes zero x y=some (a,h'))(hk:K a h'):k93 h size bytes zero x y K:=by
 unfold f96 at he;split at he
 ·split at he
  ·rename_i hc;cases he;exact⟨hc,hk⟩
  ·cases he
 ·cases he
def d3p(h:A3)(x:AV):Option (AV × A3):=
 match x with
 |.v (.string s)=>some (.ptr h.blks.length 0,⟨h.blks++[some [.it s 0]],h.bufs,h.globs⟩)
 |_=>none
theorem d2f{h h':A3}{x a:AV}{K:AV->A3->Prop}(he:d3p h x=some (a,h'))(hk:K a h'):d49 h x K:=by
 unfold d3p at he;split at he
 ·cases he;exact hk
 ·cases he
def h31(h:A3)(x:AV):Option (AV × A3):=
 match x with
 |.ptr n 0=>match h.blks[n]? with
  |some (some [.it s p])=>if p<s.data.toList.length then some (.tuple [.v (.bool true),.v (.int .i64 p),.v (.int .i32 (Utf8.decode s p).1)],⟨h.blks.set n (some [.it s (p+(Utf8.decode s p).2)]),h.bufs,h.globs⟩) else some (.tuple [.v (.bool false)],h)
  |_=>none
 |_=>none
theorem e0e{h h':A3}{x a:AV}{K:AV->A3->Prop}(he:h31 h x=some (a,h'))(hk:K a h'):c1w h x K:=by
 unfold h31 at he;unfold c1w;split at he
 ·split at he
  ·rename_i s p hb;have hs:s.data.toList.length=s.size:=Array.length_toList;rw[hs]at he;simp only[hb];split at he
   ·rename_i hp;cases he;exact⟨fun _=>hk,fun h=>absurd hp h⟩
   ·rename_i hp;cases he;exact⟨fun h=>absurd h hp,fun _=>hk⟩
  ·cases he
 ·cases he
theorem d1y(s t:ByteArray):(s==t)=(s.data.toList==t.data.toList):=by
 rw[Bool.eq_iff_iff];constructor
 ·intro h;rw[j0a h];simp
 ·intro h;have h1:s.data.toList=t.data.toList:=by simpa using h
  have h2:s=t:=by
   obtain⟨⟨a⟩⟩:=s;obtain⟨⟨b⟩⟩:=t;have h3:a=b:=h1;rw[h3]
  rw[h2];exact d44 t
def c8k(s:List UInt8):List AV->Option (Option AV)
 |[]=>some none
 |p::r=>match p with
  |.tuple [.v (.string t),v]=>if(s==t.data.toList)=true then some (some v) else c8k s r
  |_=>none
def d89(s:ByteArray)(v:AV):List AV->Option (List AV)
 |[]=>some [.tuple [.v (.string s),v]]
 |p::r=>match p with
  |.tuple [.v (.string t),w]=>if(s.data.toList==t.data.toList)=true then some (.tuple [.v (.string s),v]::r) else(d89 s v r).map fun l=>.tuple [.v (.string t),w]::l
  |_=>none
theorem c42(s:ByteArray):∀l,c8k s.data.toList l=c7o s l
 |[]=>rfl
 |p::r=>by
  simp only[c8k,c7o,d1y,c42 s r];rfl
theorem c9s(s:ByteArray)(v:AV):∀l,d89 s v l=g17 s v l
 |[]=>rfl
 |p::r=>by
  simp only[d89,g17,d1y,c9s s v r];rfl
def d0y(h:A3)(ok:Bool)(zero x k:AV):Option AV:=
 match k with
 |.v (.string s)=>match x with
  |.mp n=>match h.blks[n]? with
   |some (some [.tuple l])=>(c8k s.data.toList l).map fun r=>c3c ok zero r
   |_=>none
  |.v (.map none)=>some (c3c ok zero none)
  |_=>none
 |_=>none
theorem c2w{h:A3}{ok:Bool}{zero x k a:AV}{K:AV->Prop}(he:d0y h ok zero x k=some a)(hk:K a):c49 h ok zero x k K:=by
 unfold d0y at he;unfold c49;split at he
 ·split at he
  ·split at he
   ·rename_i hb;simp only[Option.map_eq_some_iff]at he;obtain⟨r,hr,rfl⟩:=he;rw[c42]at hr;simp only[hb,hr];exact hk
   ·cases he
  ·cases he;exact hk
  ·cases he
 ·cases he
def m3a(h:A3)(m k v:AV):Option A3:=
 match k with
 |.v (.string s)=>match m with
  |.mp n=>match h.blks[n]? with
   |some (some [.tuple l])=>(d89 s v l).map fun l'=>⟨h.blks.set n (some [.tuple l']),h.bufs,h.globs⟩
   |_=>none
  |_=>none
 |_=>none
theorem g7x{h h':A3}{m k v:AV}{K:A3->Prop}(he:m3a h m k v=some h')(hk:K h'):b71 h m k v K:=by
 unfold m3a at he;unfold b71;split at he
 ·split at he
  ·split at he
   ·rename_i hb;simp only[Option.map_eq_some_iff]at he;obtain⟨r,hr,rfl⟩:=he;rw[c9s]at hr;simp only[hb,hr];exact hk
   ·cases he
  ·cases he
 ·cases he
def f10(h:A3)(e:TypeId)(size bytes:Nat)(x y:AV):Option (AV × A3):=
 match x with
 |.bb .nil [] u=>(b7t h 1 y).bind fun ys=>if size=1/\b45 1 ys=true/\u=e/\ys.length*bytes<=140737488355328 then some (.bb (.own h.bufs.length) ys u,⟨h.blks,h.bufs++[(ys.length,1)],h.globs⟩) else none
 |.bb (.own id) els u=>(b7t h 1 y).bind fun ys=>if size=1/\b45 1 ys=true/\u=e/\b45 1 els=true/\h.bufs[id]? =some (els.length,1)/\(els.length+ys.length)*bytes<=140737488355328 then some (.bb (.own id) (els++ys) u,⟨h.blks,h.bufs.set id (els.length+ys.length,1),h.globs⟩) else none
 |_=>none
theorem d8q{h h':A3}{e:TypeId}{size bytes:Nat}{x y a:AV}{K:AV->A3->Prop}(he:f10 h e size bytes x y=some (a,h'))(hk:K a h'):a9e h e size bytes x y K:=by
 unfold f10 at he;unfold a9e;split at he
 ·simp only[Option.bind_eq_some_iff]at he;obtain⟨ys,h1,h2⟩:=he;split at h2
  ·rename_i hc;cases h2;simp only[h1];exact⟨⟨hc.1,a1c hc.2.1⟩,hc.2.2.1,hc.2.2.2,hk⟩
  ·cases h2
 ·simp only[Option.bind_eq_some_iff]at he;obtain⟨ys,h1,h2⟩:=he;split at h2
  ·rename_i hc;cases h2;simp only[h1];exact⟨⟨hc.1,a1c hc.2.1⟩,hc.2.2.1,a1c hc.2.2.2.1,hc.2.2.2.2.1,hc.2.2.2.2.2,hk⟩
  ·cases h2
 ·cases he
def d2j(x:AV):Option AV:=
 match x with
 |.bb .nil [] _=>some (.v (.pointer none))
 |.bb (.own id) els u=>some (.bb (.data id) els u)
 |_=>none
theorem d33{x a:AV}{K:AV->Prop}(he:d2j x=some a)(hk:K a):c28 x K:=by
 unfold d2j at he;split at he<;>first|(cases he;exact hk)|cases he
def g1i(h:A3)(u:TypeId)(p n:AV):Option AV:=
 match p,n with
 |.v (.pointer none),.v (.int .i64 m)=>if m=0 then some (.v (.string ⟨⟨[]⟩⟩)) else none
 |.bb (.data id) els t,.v (.int .i64 m)=>(b3r els).bind fun l=>if t=u/\h.bufs[id]? =some (els.length,1)/\m=(l.length:Int)/\l.length<=140737488355328 then some (.v (.string ⟨⟨l⟩⟩)) else none
 |_,_=>none
theorem d6q{h:A3}{u:TypeId}{p n a:AV}{K:AV->Prop}(he:g1i h u p n=some a)(hk:K a):c9y h u p n K:=by
 unfold g1i at he;split at he
 ·split at he
  ·rename_i hm;cases he;exact⟨hm,hk⟩
  ·cases he
 ·simp only[Option.bind_eq_some_iff]at he;obtain⟨l,h1,h2⟩:=he;split at h2
  ·rename_i hc;cases h2;exact⟨hc.1,hc.2.1,l,b1h h1,hc.2.2.1,hc.2.2.2,hk⟩
  ·cases h2
 ·cases he
def g4s(cnt:Bool)(s c:AV):Option AV:=
 match s,c with
 |.v (.string s),.v (.int .u8 c)=>some (.v (.int .i64 ((if cnt then l9p else e0g) s c)))
 |_,_=>none
theorem d6z{cnt:Bool}{s c a:AV}{K:AV->Prop}(he:g4s cnt s c=some a)(hk:K a):b5q (if cnt then l9p else e0g) s c K:=by
 unfold g4s at he;split at he
 ·cases he;exact hk
 ·cases he
def e8r(h:A3)(u:TypeId)(n:AV):Option (AV × A3):=
 match n with
 |.v (.int .i64 m)=>if 0<m/\m<=140737488355328 then some (.bb (.raw h.bufs.length m.toNat) [] u,⟨h.blks,h.bufs++[(0,1)],h.globs⟩) else none
 |_=>none
theorem d9s{h h':A3}{u:TypeId}{n a:AV}{K:AV->A3->Prop}(he:e8r h u n=some (a,h'))(hk:K a h'):c9d h u n K:=by
 unfold e8r at he;split at he
 ·split at he
  ·rename_i hc;cases he;exact⟨hc.1,hc.2,hk⟩
  ·cases he
 ·cases he
def h3x(x:AV):Option AV:=
 match x with
 |.bb .nil [] _=>some (.v (.int .i64 0))
 |.nil=>some (.v (.int .i64 0))
 |_=>none
theorem d6n{x a:AV}{K:AV->Prop}(he:h3x x=some a)(hk:K a):c89 x K:=by
 unfold h3x at he;split at he<;>first|(cases he;exact hk)|cases he
def d57(x y:AV):Option AV:=
 match x,y with
 |.bb (.own _) [] _,.bb .nil [] _=>some (.v (.int .i64 0))
 |_,_=>none
theorem d14{x y a:AV}{K:AV->Prop}(he:d57 x y=some a)(hk:K a):c2z x y K:=by
 unfold d57 at he;split at he<;>first|(cases he;exact hk)|cases he
def d2l(h:A3)(size:Nat)(zero:List AV)(x:AV):Option A3:=
 match x with
 |.row n off sz len _=>if sz=size then match h.blks[n]? with
  |some (some cells)=>if a4j cells=true/\off+len*size<=cells.length then some ⟨h.blks.set n (some (cells.take off++(List.replicate len zero).flatten++cells.drop (off+((List.replicate len zero).flatten).length))),h.bufs,h.globs⟩ else none
  |_=>none
  else none
 |.sl [] _=>some h
 |.nil=>some h
 |_=>none
theorem d5i{h h':A3}{size:Nat}{zero:List AV}{x:AV}{K:A3->Prop}(he:d2l h size zero x=some h')(hk:K h'):b7w h size zero x K:=by
 unfold d2l at he;unfold b7w;split at he
 ·split at he
  ·rename_i hs;split at he
   ·rename_i hb;split at he
    ·rename_i hc;cases he;simp only[hb];exact⟨hs,hc.1,hc.2,hk⟩
    ·cases he
   ·cases he
  ·cases he
 ·cases he;exact hk
 ·cases he;exact hk
 ·cases he
def b8k(md:Bool)(call:W6)(o:AOp)(env:Env)(h:A3):Option (AV × A3):=
 match o with
 |.mv x=>b51 h (x.ev env)
 |.pick c a b=>(c.ev env).bind fun c=>match c with
  |.v (.bool true)=>b51 h (a.ev env)
  |.v (.bool false)=>b51 h (b.ev env)
  |_=>none
 |.alloc cells=>some (.ptr h.blks.length 0,⟨h.blks++[some cells],h.bufs,h.globs⟩)
 |.box x=>(x.ev env).bind fun a=>if a.isTuple=false then some (.ptr h.blks.length 0,⟨h.blks++[some a.cells],h.bufs,h.globs⟩) else none
 |.build zero parts=>(evp env parts).bind fun ps=>(c3a zero ps).map fun cells=>(.agg cells,h)
 |.sliceLit size len zeros parts=>(evp env parts).bind fun ps=>(c3a zeros ps).bind fun cells=>if cells.length=len*size then some (.sl (b6r size len (cells.map wk1)) .full,h) else none
 |.load n x=>(x.ev env).bind fun p=>b51 h (a52 h n p)
 |.store size p x=>(p.ev env).bind fun p=>(x.ev env).bind fun x=>(c7q h size p x).map fun h'=>(.tuple [],h')
 |.nilCheck x=>(x.ev env).bind fun a=>match a with
  |.ptr n o=>some (.ptr n o,h)
  |.elt l o=>some (.elt l o,h)
  |.clo (.func f) l r=>some (.clo (.func f) l r,h)
  |_=>none
 |.bin op x y=>(x.ev env).bind fun x=>(y.ev env).bind fun y=>b51 h (c7i op x y)
 |.eq c yes x y=>(x.ev env).bind fun x=>(y.ev env).bind fun y=>(eqF c x y).map fun b=>(.v (.bool (if yes then b else !b)),h)
 |.un op x=>(x.ev env).bind fun x=>b51 h (unF op x)
 |.conv c x=>(x.ev env).bind fun x=>b51 h (f7c c x)
 |.iface t x=>(x.ev env).map fun a=>(.iface t a,h)
 |.func fn first captured=>(evs env first).bind fun f=>(evs env captured).map fun c=>(.clo fn f c,h)
 |.sliceS x lo hi=>(x.ev env).bind fun x=>(evo env lo).bind fun lo=>(evo env hi).bind fun hi=>b51 h (n99 x lo hi)
 |.sliceV size x lo hi mx=>(x.ev env).bind fun x=>(evo env lo).bind fun lo=>(evo env hi).bind fun hi=>(evo env mx).bind fun mx=>b51 h (n89 size x lo hi mx)
 |.fieldAddr off x=>(x.ev env).bind fun x=>b51 h (d7t off x)
 |.field n off x=>(x.ev env).bind fun x=>b51 h (d8r n off x)
 |.idxS x i=>(x.ev env).bind fun x=>(i.ev env).bind fun i=>b51 h (h3y x i)
 |.idxV len size n x i=>(x.ev env).bind fun x=>(i.ev env).bind fun i=>b51 h (g2v len size n x i)
 |.idxSl size x i=>(x.ev env).bind fun x=>(i.ev env).bind fun i=>b51 h (m93 size x i)
 |.idxA len size x i=>(x.ev env).bind fun x=>(i.ev env).bind fun i=>b51 h (f2s len size (b85 h x) i)
 |.assertT t ok zero x=>(x.ev env).bind fun x=>b51 h (c7w t ok zero x)
 |.extract i x=>(x.ev env).bind fun x=>b51 h (c26 i x)
 |.len str x=>(x.ev env).bind fun x=>b51 h (n69 str x)
 |.append e size bytes x y=>(x.ev env).bind fun x=>(y.ev env).bind fun y=>match f10 h e size bytes x y with|some r=>some r|none=>if md=true/\size≠1 then(match f89 h size bytes x y with|some r=>some r|none=>l9s h size bytes x y) else l9s h size bytes x y
 |.call f args=>(f.ev env).bind fun f=>(evs env args).bind fun l=>match f with
  |.clo (.func g) first captured=>call g (first++l++captured) h
  |_=>none
 |.bytes x=>(x.ev env).bind fun x=>match x with
  |.v (.string s)=>some (.sl (J2 s.data.toList) .no,h)
  |_=>none
 |.minmax mx args=>(evs env args).bind fun l=>(mmx mx l).map fun v=>(.v v,h)
 |.make size bytes zero x y=>(x.ev env).bind fun x=>(y.ev env).bind fun y=>f96 h size bytes zero x y
 |.range x=>(x.ev env).bind fun x=>d3p h x
 |.next x=>(x.ev env).bind fun x=>h31 h x
 |.bad=>none
 |.mkmap=>some (.mp h.blks.length,⟨h.blks++[some [.tuple []]],h.bufs,h.globs⟩)
 |.lookup ok zero x k=>(x.ev env).bind fun x=>(k.ev env).bind fun k=>b51 h (d0y h ok zero x k)
 |.mapset m k v=>(m.ev env).bind fun m=>(k.ev env).bind fun k=>(v.ev env).bind fun v=>(m3a h m k v).map fun h'=>(.tuple [],h')
 |.allocB e u=>some (.ptr h.blks.length 0,⟨h.blks++[some [.ps h.blks.length e,.bb .nil [] u]],h.bufs,h.globs⟩)
 |.udata x=>(x.ev env).bind fun x=>b51 h (d2j x)
 |.ustr u p n=>(p.ev env).bind fun p=>(n.ev env).bind fun n=>b51 h (g1i h u p n)
 |.seek cnt s c=>(s.ev env).bind fun s=>(c.ev env).bind fun c=>b51 h (g4s cnt s c)
 |.mknz u n=>(n.ev env).bind fun n=>e8r h u n
 |.cap0 x=>(x.ev env).bind fun x=>b51 h (h3x x)
 |.copy0 x y=>(x.ev env).bind fun x=>(y.ev env).bind fun y=>b51 h (d57 x y)
 |.clear size zero x=>(x.ev env).bind fun x=>(d2l h size zero x).map fun h'=>(.tuple [],h')
def a47(P:Program)(call:W6):Prop:=∀f args h a h',call f args h=some (a,h')->∀K:AV->A3->Prop,K a h'->b0d P f args h K
theorem C1{h h':A3}{o:Option AV}{a:AV}(he:b51 h o=some (a,h')):o=some a/\h'=h:=by
 unfold b51 at he;simp only[Option.map_eq_some_iff,Prod.mk.injEq]at he;obtain⟨b,h1,rfl,rfl⟩:=he;exact⟨h1,rfl⟩
theorem a7b{P:Program}{md:Bool}{call:W6}(hc:a47 P call){o:AOp}{env:Env}{h h':A3}{a:AV}{K:AV->A3->Prop}(he:b8k md call o env h=some (a,h'))(hk:K a h'):aop P o env h K:=by
 cases o<;>simp only[b8k,Option.bind_eq_some_iff,Option.map_eq_some_iff]at he<;>simp only[aop]
 case mv x=>obtain⟨h1,rfl⟩:=C1 he;simp only[h1,wv];exact hk
 case pick c x y=>
  obtain⟨cv,h1,h2⟩:=he;simp only[h1,wv];split at h2
  ·obtain⟨h3,rfl⟩:=C1 h2;simp only[b5z,h3];exact⟨fun _=>hk,fun h=>by cases h⟩
  ·obtain⟨h3,rfl⟩:=C1 h2;simp only[b5z,h3];exact⟨(fun h=>by cases h),fun _=>hk⟩
  ·cases h2
 case alloc cells=>cases he;exact hk
 case box x=>
  obtain⟨b,h1,h2⟩:=he;split at h2
  ·rename_i ht;cases h2;simp only[h1,wv];exact⟨ht,hk⟩
  ·cases h2
 case build z ps=>
  obtain⟨q,h1,cells,h2,h3⟩:=he;cases h3;simp only[h1,h2];exact hk
 case sliceLit s l z ps=>
  obtain⟨q,h1,cells,h2,h3⟩:=he;split at h3
  ·rename_i hl;cases h3;simp only[h1,h2];exact⟨hl,hk⟩
  ·cases h3
 case load n x=>obtain⟨p,h1,h2⟩:=he;obtain⟨h3,rfl⟩:=C1 h2;simp only[h1,wv];exact a9n h3 hk
 case store n p x=>obtain⟨p,h1,x,h2,h3,h4,h5⟩:=he;cases h5;simp only[h1,h2,wv];exact c96 h4 hk
 case nilCheck x=>
  obtain⟨b,h1,h2⟩:=he;simp only[h1,wv,g0b];split at h2<;>first|(cases h2;exact hk)|(cases h2;done)
 case bin op x y=>obtain⟨x,h1,y,h2,h3⟩:=he;obtain⟨h4,rfl⟩:=C1 h3;simp only[h1,h2,wv];exact d0u h4 hk
 case eq c yes x y=>obtain⟨x,h1,y,h2,b,h3,h4⟩:=he;cases h4;simp only[h1,h2,wv];exact k58 h3 hk
 case un op x=>obtain⟨x,h1,h3⟩:=he;obtain⟨h4,rfl⟩:=C1 h3;simp only[h1,wv];exact l06 h4 hk
 case conv c x=>obtain⟨x,h1,h3⟩:=he;obtain⟨h4,rfl⟩:=C1 h3;simp only[h1,wv];exact d85 h4 hk
 case iface t x=>obtain⟨x,h1,h3⟩:=he;cases h3;simp only[h1,wv];exact hk
 case func fn f c=>obtain⟨x,h1,y,h2,h3⟩:=he;cases h3;simp only[h1,h2];exact hk
 case sliceS x lo hi=>obtain⟨x,h1,lo,h2,hi,h3,h4⟩:=he;obtain⟨h5,rfl⟩:=C1 h4;simp only[h1,h2,h3,wv];exact e8y h5 hk
 case sliceV s x lo hi mx=>obtain⟨x,h1,lo,h2,hi,h3,mx,h4,h5⟩:=he;obtain⟨h6,rfl⟩:=C1 h5;simp only[h1,h2,h3,h4,wv];exact g1x h6 hk
 case fieldAddr off x=>obtain⟨x,h1,h3⟩:=he;obtain⟨h4,rfl⟩:=C1 h3;simp only[h1,wv];exact c92 h4 hk
 case field n off x=>obtain⟨x,h1,h3⟩:=he;obtain⟨h4,rfl⟩:=C1 h3;simp only[h1,wv];exact c8n h4 hk
 case idxS x y=>obtain⟨x,h1,y,h2,h3⟩:=he;obtain⟨h4,rfl⟩:=C1 h3;simp only[h1,h2,wv];exact d9o h4 hk
 case idxV l s n x y=>obtain⟨x,h1,y,h2,h3⟩:=he;obtain⟨h4,rfl⟩:=C1 h3;simp only[h1,h2,wv];exact d6j h4 hk
 case idxSl s x y=>obtain⟨x,h1,y,h2,h3⟩:=he;obtain⟨h4,rfl⟩:=C1 h3;simp only[h1,h2,wv];exact f83 h4 hk
 case idxA l s x y=>obtain⟨x,h1,y,h2,h3⟩:=he;obtain⟨h4,rfl⟩:=C1 h3;simp only[h1,h2,wv];exact c3s h4 hk
 case assertT t ok z x=>obtain⟨x,h1,h3⟩:=he;obtain⟨h4,rfl⟩:=C1 h3;simp only[h1,wv];exact d0d h4 hk
 case extract i x=>obtain⟨x,h1,h3⟩:=he;obtain⟨h4,rfl⟩:=C1 h3;simp only[h1,wv];exact c60 h4 hk
 case len s x=>obtain⟨x,h1,h3⟩:=he;obtain⟨h4,rfl⟩:=C1 h3;simp only[h1,wv];exact g1h h4 hk
 case append e s t x y=>
  obtain⟨x,h1,y,h2,h3⟩:=he;simp only[h1,h2,wv];split at h3
  ·rename_i r hr;cases h3;exact .inr (.inr (d8q hr hk))
  split at h3
  ·split at h3
   ·rename_i r hr;cases h3;exact .inr (.inl (e0m hr hk))
   ·exact .inl (d11 h3 hk)
  ·exact .inl (d11 h3 hk)
 case call f args=>
  obtain⟨fv,h1,l,h2,h3⟩:=he;simp only[h1,h2,wv];split at h3
  ·exact hc _ _ _ _ _ h3 K hk
  ·cases h3
 case bytes x=>
  obtain⟨x,h1,h2⟩:=he;simp only[h1,wv];split at h2
  ·cases h2;exact hk
  ·cases h2
 case minmax mx l=>obtain⟨x,h1,v,h2,h3⟩:=he;cases h3;simp only[h1,h2,c5o];exact hk
 case make s t z x y=>obtain⟨x,h1,y,h2,h3⟩:=he;simp only[h1,h2,wv];exact d8c h3 hk
 case range x=>obtain⟨x,h1,h2⟩:=he;simp only[h1,wv];exact d2f h2 hk
 case next x=>obtain⟨x,h1,h2⟩:=he;simp only[h1,wv];exact e0e h2 hk
 case bad=>cases he
 case mkmap=>cases he;exact hk
 case lookup ok z x k=>obtain⟨x,h1,k,h2,h3⟩:=he;obtain⟨h4,rfl⟩:=C1 h3;simp only[h1,h2,wv];exact c2w h4 hk
 case mapset m k v=>obtain⟨m,h1,k,h2,v,h3,h4,h5,h6⟩:=he;cases h6;simp only[h1,h2,h3,wv];exact g7x h5 hk
 case allocB e u=>cases he;exact hk
 case udata x=>obtain⟨x,h1,h3⟩:=he;obtain⟨h4,rfl⟩:=C1 h3;simp only[h1,wv];exact d33 h4 hk
 case ustr u p n=>obtain⟨x,h1,k,h2,h3⟩:=he;obtain⟨h4,rfl⟩:=C1 h3;simp only[h1,h2,wv];exact d6q h4 hk
 case seek c p n=>obtain⟨x,h1,k,h2,h3⟩:=he;obtain⟨h4,rfl⟩:=C1 h3;simp only[h1,h2,wv];exact d6z h4 hk
 case mknz u n=>obtain⟨x,h1,h3⟩:=he;simp only[h1,wv];exact d9s h3 hk
 case cap0 x=>obtain⟨x,h1,h3⟩:=he;obtain⟨h4,rfl⟩:=C1 h3;simp only[h1,wv];exact d6n h4 hk
 case copy0 p n=>obtain⟨x,h1,k,h2,h3⟩:=he;obtain⟨h4,rfl⟩:=C1 h3;simp only[h1,h2,wv];exact d14 h4 hk
 case clear s z x=>obtain⟨m,h1,h4,h5,h6⟩:=he;cases h6;simp only[h1,wv];exact d5i h5 hk
def H6(env:Env)(g:Option (Nat × Bool)):Option Bool:=
 match g with
 |none=>some true
 |some (t,want)=>(get env t).bind fun v=>match v with
  |.v (.bool b)=>some (b==want)
  |.tuple []=>some false
  |_=>none
theorem a8r{env:Env}{g:Option (Nat × Bool)}{b:Bool}{y n:Prop}(he:H6 env g=some b)(hk:if b=true then y else n):b33 env g y n:=by
 cases g with
 |none=>cases he;exact hk
 |some p=>
  obtain⟨t,want⟩:=p;simp only[H6,Option.bind_eq_some_iff]at he;obtain⟨v,h1,h2⟩:=he;simp only[b33,h1,wv];split at h2
  ·rename_i c;cases h2;simp only;cases c<;>cases want
   ·exact⟨fun _=>hk,fun h=>by cases h⟩
   ·exact⟨(fun h=>by cases h),fun _=>hk⟩
   ·exact⟨(fun h=>by cases h),fun _=>hk⟩
   ·exact⟨fun _=>hk,fun h=>by cases h⟩
  ·cases h2;exact hk
  ·cases h2
def c6n(md:Bool)(call:W6):List C9->Env->A3->Option (Env × A3)
 |[],env,h=>some (env,h)
 |o::r,env,h=>(H6 env o.guard).bind fun b=>match b with
  |true=>(b8k md call o.op env h).bind fun p=>c6n md call r (a79 env o.dst p.1) p.2
  |false=>c6n md call r (a9b env o.dst) h
theorem b3s{P:Program}{md:Bool}{call:W6}(hc:a47 P call):∀{l:List C9}{env:Env}{h:A3}{r:Env × A3}{K:Env->A3->Prop},c6n md call l env h=some r->K r.1 r.2->c9u P l env h K
 |[],env,h,r,K,he,hk=>by cases he;exact hk
 |o::l,env,h,r,K,he,hk=>by
  simp only[c6n,Option.bind_eq_some_iff]at he;obtain⟨b,h1,h2⟩:=he;refine a8r h1 ?_;cases b with
  |true=>
   simp only[Option.bind_eq_some_iff]at h2;obtain⟨⟨a,h'⟩,h3,h4⟩:=h2;exact a7b (K:=fun av h'=>c9u P l (a79 env o.dst av) h' K) hc h3 (b3s hc h4 hk)
  |false=>exact b3s hc h2 hk
def Q2:AOp->Bool
 |.alloc _|.box _|.store _ _ _|.append _ _ _ _ _|.make _ _ _ _ _|.range _|.next _|.bad|.mkmap|.mapset _ _ _|.allocB _ _|.ustr _ _ _|.mknz _ _|.clear _ _ _=>false
 |_=>true
def vqF(md:Bool)(call:W6):List C9->Env->A3->Option Env
 |[],env,h=>some env
 |o::r,env,h=>(H6 env o.guard).bind fun b=>match b with
  |true=>if Q2 o.op=true then(b8k md call o.op env h).bind fun p=>vqF md call r (a79 env o.dst p.1) h else none
  |false=>vqF md call r (a9b env o.dst) h
theorem a6i{md:Bool}{call:W6}(hq:∀f args h a h',call f args h=some (a,h')->h'=h){o:AOp}{env:Env}{h h':A3}{a:AV}(ho:Q2 o=true)(he:b8k md call o env h=some (a,h')):h'=h:=by
 cases o<;>simp only[b8k,Option.bind_eq_some_iff,Option.map_eq_some_iff]at he<;>(try (cases ho;done))
 case mv x=>exact(C1 he).2
 case pick c x y=>obtain⟨cv,h1,h2⟩:=he;split at h2<;>first|exact(C1 h2).2|cases h2
 case build z ps=>obtain⟨q,h1,cells,h2,h3⟩:=he;cases h3;rfl
 case sliceLit s l z ps=>
  obtain⟨q,h1,cells,h2,h3⟩:=he;split at h3<;>cases h3;rfl
 case load n x=>obtain⟨p,h1,h2⟩:=he;exact(C1 h2).2
 case nilCheck x=>obtain⟨b,h1,h2⟩:=he;split at h2<;>cases h2<;>rfl
 case bin op x y=>obtain⟨x,h1,y,h2,h3⟩:=he;exact(C1 h3).2
 case eq c yes x y=>obtain⟨x,h1,y,h2,b,h3,h4⟩:=he;cases h4;rfl
 case un op x=>obtain⟨x,h1,h3⟩:=he;exact(C1 h3).2
 case conv c x=>obtain⟨x,h1,h3⟩:=he;exact(C1 h3).2
 case iface t x=>obtain⟨x,h1,h3⟩:=he;cases h3;rfl
 case func fn f c=>obtain⟨x,h1,y,h2,h3⟩:=he;cases h3;rfl
 case sliceS x lo hi=>obtain⟨x,h1,lo,h2,hi,h3,h4⟩:=he;exact(C1 h4).2
 case sliceV s x lo hi mx=>obtain⟨x,h1,lo,h2,hi,h3,mx,h4,h5⟩:=he;exact(C1 h5).2
 case fieldAddr off x=>obtain⟨x,h1,h3⟩:=he;exact(C1 h3).2
 case field n off x=>obtain⟨x,h1,h3⟩:=he;exact(C1 h3).2
 case idxS x y=>obtain⟨x,h1,y,h2,h3⟩:=he;exact(C1 h3).2
 case idxV l s n x y=>obtain⟨x,h1,y,h2,h3⟩:=he;exact(C1 h3).2
 case idxSl s x y=>obtain⟨x,h1,y,h2,h3⟩:=he;exact(C1 h3).2
 case idxA l s x y=>obtain⟨x,h1,y,h2,h3⟩:=he;exact(C1 h3).2
 case assertT t ok z x=>obtain⟨x,h1,h3⟩:=he;exact(C1 h3).2
 case extract i x=>obtain⟨x,h1,h3⟩:=he;exact(C1 h3).2
 case len s x=>obtain⟨x,h1,h3⟩:=he;exact(C1 h3).2
 case call f args=>
  obtain⟨fv,h1,l,h2,h3⟩:=he;split at h3
  ·exact hq _ _ _ _ _ h3
  ·cases h3
 case minmax mx l=>obtain⟨x,h1,v,h2,h3⟩:=he;cases h3;rfl
 case lookup ok z x k=>obtain⟨x,h1,k,h2,h3⟩:=he;exact(C1 h3).2
 case bytes x=>obtain⟨x,h1,h2⟩:=he;split at h2<;>cases h2;rfl
 case udata x=>obtain⟨x,h1,h3⟩:=he;exact(C1 h3).2
 case seek c x y=>obtain⟨x,h1,y,h2,h3⟩:=he;exact(C1 h3).2
 case cap0 x=>obtain⟨x,h1,h3⟩:=he;exact(C1 h3).2
 case copy0 x y=>obtain⟨x,h1,y,h2,h3⟩:=he;exact(C1 h3).2
theorem d1m{P:Program}{md:Bool}{call:W6}(hc:a47 P call)(hq:∀f args h a h',call f args h=some (a,h')->h'=h):∀{l:List C9}{env r:Env}{h:A3}{K:Env->Prop},vqF md call l env h=some r->K r->vq P l env h K
 |[],env,r,h,K,he,hk=>by cases he;exact hk
 |o::l,env,r,h,K,he,hk=>by
  simp only[vqF,Option.bind_eq_some_iff]at he;obtain⟨b,h1,h2⟩:=he;refine a8r h1 ?_;cases b with
  |true=>
   simp only at h2;split at h2
   ·rename_i ho;simp only[Option.bind_eq_some_iff]at h2;obtain⟨⟨a,h'⟩,h3,h4⟩:=h2;have:=a6i hq ho h3;subst this;exact⟨a,a7b hc h3 ⟨rfl,rfl⟩,d1m hc hq h4 hk⟩
   ·cases h2
  |false=>exact d1m hc hq h2 hk
def o16:Value->Value->Bool
 |.bool a,.bool b=>a==b
 |.int k a,.int l b=>decide (k=l)&&decide (a=b)
 |.string a,.string b=>a.data.toList==b.data.toList
 |.pointer none,.pointer none=>true
 |.nilFunc,.nilFunc=>true
 |.nilIface,.nilIface=>true
 |_,_=>false
theorem g1z{x y:Value}(h:o16 x y=true):x=y:=by
 unfold o16 at h;split at h<;>(try (cases h;done))<;>(try rfl)
 ·simp at h;rw[h]
 ·simp at h;rw[h.1,h.2]
 ·rename_i a b;have:=eq_of_beq h
  congr 1
  apply ByteArray.ext;exact Array.ext' this
mutual
def c0m:AV->AV->Bool
 |.v x,.v y=>o16 x y
 |.ptr a b,.ptr c d=>a==c&&b==d
 |.elt l o,.elt m p=>beqL l m&&o==p
 |.nil,.nil=>true
 |.sl e t,.sl f u=>beqLL e f&&decide (t=u)
 |.agg l,.agg m=>beqL l m
 |.tuple l,.tuple m=>beqL l m
 |.iface t x,.iface u y=>t==u&&c0m x y
 |.clo (.func f) a b,.clo (.func g) c d=>f==g&&beqL a c&&beqL b d
 |.glob a,.glob b=>a==b
 |.row a b c d e,.row a' b' c' d' e'=>a==a'&&b==b'&&c==c'&&d==d'&&e==e'
 |.bb k e u,.bb l f v=>decide (k=l)&&beqLL e f&&u==v
 |.ps n t,.ps m u=>n==m&&t==u
 |_,_=>false
def beqL:List AV->List AV->Bool
 |[],[]=>true
 |a::l,b::m=>c0m a b&&beqL l m
 |_,_=>false
def beqLL:List (List AV)->List (List AV)->Bool
 |[],[]=>true
 |a::l,b::m=>beqL a b&&beqLL l m
 |_,_=>false
end
mutual
theorem c74:∀(a b:AV),c0m a b=true->a=b
 |.v x,b,h=>by cases b<;>simp only[c0m,Bool.false_eq_true]at h;rw[g1z h]
 |.ptr n o,b,h=>by cases b<;>simp only[c0m,Bool.false_eq_true,Bool.and_eq_true,beq_iff_eq]at h;rw[h.1,h.2]
 |.elt l o,b,h=>by cases b<;>simp only[c0m,Bool.false_eq_true,Bool.and_eq_true,beq_iff_eq]at h;rw[beqL_eq _ _ h.1,h.2]
 |.nil,b,h=>by cases b<;>simp only[c0m,Bool.false_eq_true]at h;rfl
 |.sl e t,b,h=>by cases b<;>simp only[c0m,Bool.false_eq_true,Bool.and_eq_true,decide_eq_true_eq]at h;rw[beqLL_eq _ _ h.1,h.2]
 |.agg l,b,h=>by cases b<;>simp only[c0m,Bool.false_eq_true]at h;rw[beqL_eq _ _ h]
 |.tuple l,b,h=>by cases b<;>simp only[c0m,Bool.false_eq_true]at h;rw[beqL_eq _ _ h]
 |.iface t x,b,h=>by cases b<;>simp only[c0m,Bool.false_eq_true,Bool.and_eq_true,beq_iff_eq]at h;rw[h.1,c74 _ _ h.2]
 |.clo f l r,b,h=>by
  cases b with
  |clo g l' r'=>
   cases f with
   |func f=>
    cases g with
    |func g=>
     simp only[c0m,Bool.and_eq_true,beq_iff_eq]at h;rw[h.1.1,beqL_eq _ _ h.1.2,beqL_eq _ _ h.2]
    |_=>simp[c0m]at h
   |_=>simp[c0m]at h
  |_=>simp[c0m]at h
 |.glob n,b,h=>by cases b<;>simp only[c0m,Bool.false_eq_true,beq_iff_eq]at h;rw[h]
 |.row a1 a2 a3 a4 a5,b,h=>by
  cases b<;>simp only[c0m,Bool.false_eq_true,Bool.and_eq_true,beq_iff_eq]at h
  rw[h.1.1.1.1,h.1.1.1.2,h.1.1.2,h.1.2,h.2]
 |.it s p,b,h=>by cases b<;>simp only[c0m,Bool.false_eq_true]at h
 |.mp n,b,h=>by cases b<;>simp only[c0m,Bool.false_eq_true]at h
 |.bb k e u,b,h=>by
  cases b<;>simp only[c0m,Bool.false_eq_true,Bool.and_eq_true,decide_eq_true_eq,beq_iff_eq]at h
  rw[h.1.1,beqLL_eq _ _ h.1.2,h.2]
 |.ps n t,b,h=>by cases b<;>simp only[c0m,Bool.false_eq_true,Bool.and_eq_true,beq_iff_eq]at h;rw[h.1,h.2]
theorem beqL_eq:∀(a b:List AV),beqL a b=true->a=b
 |[],b,h=>by cases b<;>simp only[beqL,Bool.false_eq_true]at h;rfl
 |a::l,b,h=>by
  cases b<;>simp only[beqL,Bool.false_eq_true,Bool.and_eq_true]at h
  rw[c74 _ _ h.1,beqL_eq _ _ h.2]
theorem beqLL_eq:∀(a b:List (List AV)),beqLL a b=true->a=b
 |[],b,h=>by cases b<;>simp only[beqLL,Bool.false_eq_true]at h;rfl
 |a::l,b,h=>by
  cases b<;>simp only[beqLL,Bool.false_eq_true,Bool.and_eq_true]at h
  rw[beqL_eq _ _ h.1,beqLL_eq _ _ h.2]
end
def c1g:AOp->Bool
 |.alloc _|.box _|.store _ _ _|.append _ _ _ _ _|.make _ _ _ _ _|.range _|.next _|.load _ _|.call _ _|.bad|.mkmap|.mapset _ _ _|.lookup _ _ _ _|.idxA _ _ _ _|.allocB _ _|.ustr _ _ _|.mknz _ _|.clear _ _ _=>false
 |_=>true
theorem c8z{P:Program}{o:AOp}(hp:c1g o=true){env:Env}{h h':A3}{K:AV->A3->Prop}:aop P o env h K=aop P o env h' fun a _=>K a h:=by
 cases o<;>first|rfl|(cases hp;done)
theorem b3t{P:Program}{o:AOp}(hp:c1g o=true){env:Env}{h h':A3}{av:AV}(hq:c0n P o env h av):c0n P o env h' av:=by
 unfold c0n at hq ⊢;rw[c8z (h':=h') hp]at hq;rw[c8z (h':=h') hp];have:(fun(a:AV) (_:A3)=>a=av/\h=h)=fun(a:AV) (_:A3)=>a=av/\h'=h':=by funext a b;simp
 rw[this]at hq;exact hq
def vhF(md:Bool)(callP callG:W6):List C9->Env->A3->Nat->Option (Env × List A3 × List (Option Nat))
 |[],env,h,_=>some (env,[h],[])
 |o::r,env,h,j=>(H6 env o.guard).bind fun b=>match b with
  |false=>(vhF md callP callG r (a9b env o.dst) h j).map fun x=>(x.1,x.2.1,none::x.2.2)
  |true=>match (if Q2 o.op=true then b8k md callP o.op env h else none) with
   |some p=>(vhF md callP callG r (a79 env o.dst p.1) h j).map fun x=>(x.1,x.2.1,none::x.2.2)
   |none=>(b8k md callG o.op env h).bind fun p=>(vhF md callP callG r (a79 env o.dst p.1) p.2 (j+1)).map fun x=>(x.1,h::x.2.1,some j::x.2.2)
def b2j(l:List (Option Nat)):Nat:=l.countP (·.isSome)
def a45(P:Program)(F:Env)(hs:List A3)(j c:Nat)(o:C9):Option Nat->Prop
 |some n=>∃av h h',hs[n - j]? =some h/\hs[n - j+1]? =some h'/\aop P o.op F h (fun a b=>a=av/\b=h')/\∀d,o.dst=some d->get F d=some av
 |none=>∃av h0,hs[c]? =some h0/\c0n P o.op F h0 av/\Q2 o.op=true/\∀d,o.dst=some d->get F d=some av
def a49(P:Program)(F:Env)(hs:List A3)(j c:Nat)(o:C9)(n:Option Nat):Prop:=
 let skip:=n=none/\∀d,o.dst=some d->get F d=some (.tuple [])
 match o.guard with
 |none=>a45 P F hs j c o n
 |some (t,want)=>(∃b,get F t=some (.v (.bool b))/\(b=want->a45 P F hs j c o n)/\(b≠want->skip))\/(get F t=some (.tuple [])/\skip)
structure n2u(P:Program)(l:List C9)(env F:Env)(h h':A3)(hs:List A3)(fl:List (Option Nat))(j:Nat):Prop where
 len:fl.length=l.length
 first:hs[0]? =some h
 last:∃n,hs.length=n+1/\hs[n]? =some h'
 bound:∀i n:Nat,fl[i]? =some (some n)->j<=n/\n+1<j+hs.length
 mono:∀i k a b:Nat,i<k->fl[i]? =some (some a)->fl[k]? =some (some b)->a<b
 onto:∀n:Nat,j<=n->n+1<j+hs.length->∃i:Nat,fl[i]? =some (some n)
 keep:∀t,E5 t l=false->get F t=get env t
 fact:∀(i:Nat) (o:C9) (n:Option Nat),l[i]? =some o->fl[i]? =some n->a49 P F hs j (b2j (fl.take i)) o n
theorem a45.shift{P:Program}{F:Env}{hs:List A3}{j c:Nat}{o:C9}{n:Option Nat}{h:A3}(hb:∀m,n=some m->j+1<=m)(hd:a45 P F hs (j+1) c o n):a45 P F (h::hs) j (c+1) o n:=by
 cases n with
 |none=>
  obtain⟨av,h0,h1,h2⟩:=hd;exact⟨av,h0,by simpa using h1,h2⟩
 |some m=>
  obtain⟨av,h1,h2,e1,e2,h3⟩:=hd;have:=hb m rfl;refine⟨av,h1,h2,?_,?_,h3⟩
  ·rw[show m - j=(m - (j+1))+1 by omega];simpa using e1
  ·rw[show m - j=(m - (j+1))+1 by omega];simpa using e2
theorem a49.shift{P:Program}{F:Env}{hs:List A3}{j c:Nat}{o:C9}{n:Option Nat}{h:A3}(hb:∀m,n=some m->j+1<=m)(hd:a49 P F hs (j+1) c o n):a49 P F (h::hs) j (c+1) o n:=by
 unfold a49 at hd ⊢;split at hd
 ·exact a45.shift hb hd
 ·rcases hd with⟨b,h1,h2,h3⟩|hd
  ·exact .inl ⟨b,h1,fun hb'=>a45.shift hb (h2 hb'),h3⟩
  ·exact .inr hd
theorem c8i{P:Program}{md:Bool}{callP callG:W6}(hcP:a47 P callP)(hcG:a47 P callG)(hq:∀f args h a h',callP f args h=some (a,h')->h'=h):∀{l:List C9}{env F:Env}{h:A3}{j:Nat}{hs:List A3}{fl:List (Option Nat)},okq l=true->vhF md callP callG l env h j=some (F,hs,fl)->∃h',n2u P l env F h h' hs fl j
 |[],env,F,h,j,hs,fl,_,he=>by
  simp only[vhF,Option.some.injEq,Prod.mk.injEq]at he;obtain⟨rfl,rfl,rfl⟩:=he;exact⟨h,rfl,rfl,⟨0,rfl,rfl⟩,fun i n hi=>by simp at hi,fun i k a b _ hi=>by simp at hi,fun n h1 h2=>by simp at h2;omega,fun _ _=>rfl,fun i o n hi=>by simp at hi⟩
 |o::r,env,F,h,j,hs,fl,hok,he=>by
  simp only[okq,Bool.and_eq_true,List.all_eq_true]at hok;obtain⟨⟨hlook,hdst⟩,hokr⟩:=hok
  have hwr:∀t,E5 t (o::r)=false->o.dst≠some t/\E5 t r=false:=by
   intro t ht;simp only[E5,List.any_cons,Bool.or_eq_false_iff]at ht ⊢;exact⟨by simpa using ht.1,ht.2⟩
  have hd:∀d,o.dst=some d->E5 d r=false:=by
   intro d hd;rw[hd]at hdst;simpa using hdst
  have hl:∀(F:Env),(∀t,E5 t (o::r)=false->get F t=get env t)->∀t∈o.looks,get env t=get F t:=fun F hF t ht=>(hF t (by simpa using hlook t ht)).symm
  have hcong:∀(F:Env),(∀t,E5 t (o::r)=false->get F t=get env t)->∀(h:A3) (K:AV->A3->Prop),aop P o.op env h K->aop P o.op F h K:=by
   intro F hF h K hq;rw[<-a6d (e1:=env) (e2:=F)]
   ·exact hq
   ·intro x hx;cases x with
    |c a=>rfl
    |t n=>
     refine hl F hF n ?_;simp only[C9.looks,List.mem_append,List.mem_filterMap];exact .inl ⟨.t n,hx,rfl⟩
  have guardT:∀(F:Env) (D S:Prop),(∀t,E5 t (o::r)=false->get F t=get env t)->H6 env o.guard=some true->D->(match o.guard with|none=>D|some (t,want)=>(∃b,get F t=some (.v (.bool b))/\(b=want->D)/\(b≠want->S))\/(get F t=some (.tuple [])/\S)):=by
   intro F D S hF hg hD;split
   ·exact hD
   ·rename_i t want hgd;rw[hgd]at hg;simp only[H6,Option.bind_eq_some_iff]at hg;obtain⟨v,h1,h2⟩:=hg;split at h2
    ·rename_i b;simp only[Option.some.injEq,beq_iff_eq]at h2;exact .inl ⟨b,by rw[<-hl F hF t (by simp[C9.looks,hgd])];exact h1,fun _=>hD,fun hn=>absurd h2 hn⟩
    ·cases h2
    ·cases h2
  have guardN:∀(F:Env) (D S:Prop),(∀t,E5 t (o::r)=false->get F t=get env t)->H6 env o.guard=some false->S->(match o.guard with|none=>D|some (t,want)=>(∃b,get F t=some (.v (.bool b))/\(b=want->D)/\(b≠want->S))\/(get F t=some (.tuple [])/\S)):=by
   intro F D S hF hg hS;split
   ·rename_i hgd;rw[hgd]at hg;simp[H6]at hg
   ·rename_i t want hgd;rw[hgd]at hg;simp only[H6,Option.bind_eq_some_iff]at hg;obtain⟨v,h1,h2⟩:=hg;split at h2
    ·rename_i b;simp only[Option.some.injEq,beq_eq_false_iff_ne]at h2;exact .inl ⟨b,by rw[<-hl F hF t (by simp[C9.looks,hgd])];exact h1,fun h=>absurd h h2,fun _=>hS⟩
    ·exact .inr ⟨by rw[<-hl F hF t (by simp[C9.looks,hgd])];exact h1,hS⟩
    ·cases h2
  have still:∀(env':Env) (fl':List (Option Nat)) (h':A3),n2u P r env' F h h' hs fl' j->(∀t,o.dst≠some t->get env' t=get env t)->(a49 P F hs j 0 o none)->n2u P (o::r) env F h h' hs (none::fl') j:=by
   intro env' fl' h' hp henv hf;refine⟨by simp[hp.len],hp.first,hp.last,fun i n hi=>?_,fun i k a b hik hi hk=>?_,fun n h1 h2=>?_,fun t ht=>?_,fun i o' n hi hn=>?_⟩
   ·cases i with
    |zero=>simp at hi
    |succ i=>exact hp.bound i n (by simpa using hi)
   ·cases i with
    |zero=>simp at hi
    |succ i=>cases k with
     |zero=>omega
     |succ k=>exact hp.mono i k a b (by omega) (by simpa using hi) (by simpa using hk)
   ·obtain⟨i,hi⟩:=hp.onto n h1 h2;exact⟨i+1,by simpa using hi⟩
   ·obtain⟨h1,h2⟩:=hwr t ht;rw[hp.keep t h2,henv t h1]
   ·cases i with
    |zero=>simp at hi hn;subst hi hn;simpa[b2j]using hf
    |succ i=>
     have:=hp.fact i o' n (by simpa using hi) (by simpa using hn);simpa[b2j]using this
  simp only[vhF,Option.bind_eq_some_iff]at he;obtain⟨b,hb,he⟩:=he;cases b with
  |false=>
   simp only[Option.map_eq_some_iff,Prod.mk.injEq]at he;obtain⟨⟨F',hs',fl'⟩,h1,rfl,rfl,rfl⟩:=he;obtain⟨h',hp⟩:=c8i hcP hcG hq hokr h1
   have hF:∀t,E5 t (o::r)=false->get F' t=get env t:=by
    intro t ht;obtain⟨g1,g2⟩:=hwr t ht;rw[hp.keep t g2,M0,if_neg g1]
   refine⟨h',still _ fl' h' hp (fun t ht=>by rw[M0,if_neg ht]) ?_⟩;exact guardN F' _ _ hF hb ⟨rfl,fun d hd'=>by rw[hp.keep d (hd d hd'),M0,if_pos hd']⟩
  |true=>
   simp only at he;split at he
   ·rename_i p hp0;split at hp0
    ·rename_i hquiet;obtain⟨av,hav⟩:=p;have hsame:=a6i hq hquiet hp0;subst hsame;simp only[Option.map_eq_some_iff,Prod.mk.injEq]at he;obtain⟨⟨F',hs',fl'⟩,h1,rfl,rfl,rfl⟩:=he;obtain⟨h',hp⟩:=c8i hcP hcG hq hokr h1
     have hF:∀t,E5 t (o::r)=false->get F' t=get env t:=by
      intro t ht;obtain⟨g1,g2⟩:=hwr t ht;rw[hp.keep t g2,I2,if_neg g1]
     refine⟨h',still _ fl' h' hp (fun t ht=>by rw[I2,if_neg ht]) ?_⟩;exact guardT F' _ _ hF hb ⟨av,hav,hp.first,hcong F' hF hav _ (a7b (K:=fun a b=>a=av/\b=hav) hcP hp0 ⟨rfl,rfl⟩),hquiet,fun d hd'=>by rw[hp.keep d (hd d hd'),I2,if_pos hd']⟩
    ·cases hp0
   ·simp only[Option.bind_eq_some_iff,Option.map_eq_some_iff,Prod.mk.injEq]at he;obtain⟨⟨av,h2⟩,hp0,⟨F',hs',fl'⟩,h1,rfl,rfl,rfl⟩:=he;obtain⟨h',hp⟩:=c8i hcP hcG hq hokr h1
    have hF:∀t,E5 t (o::r)=false->get F' t=get env t:=by
     intro t ht;obtain⟨g1,g2⟩:=hwr t ht;rw[hp.keep t g2,I2,if_neg g1]
    have hpos:0<hs'.length:=by obtain⟨n,hn,_⟩:=hp.last;omega
    refine⟨h',by simp[hp.len],rfl,?_,fun i n hi=>?_,fun i k a b hik hi hk=>?_,fun n g1 g2=>?_,hF,fun i o' n hi hn=>?_⟩
    ·obtain⟨n,hn,hl'⟩:=hp.last;exact⟨n+1,by simp[hn],by simpa using hl'⟩
    ·cases i with
     |zero=>simp at hi;subst hi;simp;omega
     |succ i=>
      have:=hp.bound i n (by simpa using hi);simp;omega
    ·cases k with
     |zero=>omega
     |succ k=>
      cases i with
      |zero=>
       simp at hi;subst hi;have:=(hp.bound k b (by simpa using hk)).1;omega
      |succ i=>exact hp.mono i k a b (by omega) (by simpa using hi) (by simpa using hk)
    ·by_cases hnj:n=j
     ·subst hnj;exact⟨0,rfl⟩
     ·obtain⟨i,hi⟩:=hp.onto n (by omega) (by simp at g2;omega);exact⟨i+1,by simpa using hi⟩
    ·cases i with
     |zero=>
      simp at hi hn;subst hi hn;exact guardT F' _ _ hF hb ⟨av,h,h2,by simp,by simpa using hp.first,hcong F' hF h _ (a7b (K:=fun a b=>a=av/\b=h2) hcG hp0 ⟨rfl,rfl⟩),fun d hd'=>by rw[hp.keep d (hd d hd'),I2,if_pos hd']⟩
     |succ i=>
      have hn':fl'[i]? =some n:=by simpa using hn
      have:=a49.shift (h:=h) (fun m hm=>by subst hm;exact(hp.bound i m hn').1) (hp.fact i o' n (by simpa using hi) hn');have e:b2j ((some j::fl').take (i+1))=b2j (fl'.take i)+1:=by simp[b2j]
      rw[e];exact this
def e2v(P:Program)(F:Env)(hb:A3)(o:AOp)(av:AV):Prop:=∀h2:A3,(∃ext,h2.blks=hb.blks++ext)->h2.globs=hb.globs->c0n P o F h2 av
def c3x(P:Program)(call:W6):Prop:=∀f args h a h',call f args h=some (a,h')->h'=h/\∀h2:A3,h2.globs=h.globs->∀K:AV->A3->Prop,K a h2->b0d P f args h2 K
theorem d0t{h h2:A3}{n:Option Nat}{p a:AV}(he:∃ext,h2.blks=h.blks++ext)(hg:h2.globs=h.globs)(hl:a52 h n p=some a):a52 h2 n p=some a:=by
 have hp:∀q,V4 h p=some q->V4 h2 p=some q:=by
  intro q hq;cases p with
  |ptr m off=>
   simp only[V4]at hq ⊢;split at hq
   ·rename_i cells hc;obtain⟨ext,he⟩:=he;rw[he,List.getElem?_append_left (List.getElem?_eq_some_iff.1 hc).1,hc];exact hq
   ·cases hq
  |glob m=>simp only[V4]at hq ⊢;rw[hg];exact hq
  |elt c o=>exact hq
  |_=>simp[V4]at hq
 unfold a52 at hl ⊢;cases hq:V4 h p with
 |none=>rw[hq]at hl;cases hl
 |some q=>rw[hq]at hl;rw[hp q hq];exact hl
theorem b5u{h h2:A3}(hg:h2.globs=h.globs)(x:AV):b85 h2 x=b85 h x:=by
 unfold b85;rw[hg]
theorem c84{h h2:A3}{ok:Bool}{zero x k a:AV}(he:∀(n:Nat) (c:List AV),h.blks[n]? =some (some c)->h2.blks[n]? =some (some c))(hl:d0y h ok zero x k=some a):d0y h2 ok zero x k=some a:=by
 unfold d0y at hl ⊢;split at hl
 ·split at hl
  ·split at hl
   ·rename_i hb;simp only[he _ _ hb];exact hl
   ·cases hl
  ·exact hl
  ·cases hl
 ·cases hl
theorem d3v{P:Program}{md:Bool}{call:W6}(hc:c3x P call){o:AOp}{env:Env}{h h':A3}{a:AV}(ho:Q2 o=true)(he:b8k md call o env h=some (a,h')):e2v P env h o a:=by
 have hcok:a47 P call:=fun f args h a h' he K hk=>by
  obtain⟨e1,e2⟩:=hc f args h a h' he;subst e1;exact e2 _ rfl K hk
 have hsame:h'=h:=a6i (fun f args h a h' he=>(hc f args h a h' he).1) ho he;subst hsame;intro h2 hext hg
 by_cases hp:c1g o=true
 ·exact b3t hp (a7b (K:=fun x y=>x=a/\y=h') hcok he ⟨rfl,rfl⟩)
 ·cases o<;>first|(exact absurd rfl hp)|(cases ho;done)|skip
  case load n x=>
   simp only[b8k,Option.bind_eq_some_iff]at he;obtain⟨p,h1,h3⟩:=he;obtain⟨h4,_⟩:=C1 h3;show wv (x.ev env) _;rw[h1];exact a9n (K:=fun x=>x=a/\h2=h2) (d0t hext hg h4) ⟨rfl,rfl⟩
  case call f args=>
   simp only[b8k,Option.bind_eq_some_iff]at he;obtain⟨fv,h1,l,h3,h4⟩:=he;show wv (f.ev env) _;rw[h1];split at h4
   ·rename_i g first captured;show c1y P _ (evs env args) h2 _;rw[h3];exact(hc _ _ _ _ _ h4).2 h2 hg _ ⟨rfl,rfl⟩
   ·cases h4
  case idxA l s x i=>
   simp only[b8k,Option.bind_eq_some_iff]at he;obtain⟨x',h1,i',h3,h4⟩:=he;obtain⟨h5,_⟩:=C1 h4;show wv (x.ev env) _;rw[h1];show wv (i.ev env) _;rw[h3];exact c3s (K:=fun x=>x=a/\h2=h2) (by rw[b5u hg];exact h5) ⟨rfl,rfl⟩
  case lookup ok z x k=>
   simp only[b8k,Option.bind_eq_some_iff]at he;obtain⟨x',h1,i',h3,h4⟩:=he;obtain⟨h5,_⟩:=C1 h4;show wv (x.ev env) _;rw[h1];show wv (k.ev env) _;rw[h3];exact c2w (K:=fun x=>x=a/\h2=h2) (c84 (fun n c hc=>by obtain⟨ext,hext⟩:=hext;rw[hext,List.getElem?_append_left (List.getElem?_eq_some_iff.1 hc).1,hc]) h5) ⟨rfl,rfl⟩
def vaF(md:Bool)(callX callP callG:W6)(hb:A3):List C9->Env->A3->Nat->Option (Env × List (Nat × List AV) × List A3 × List (Option Nat))
 |[],env,cur,_=>some (env,[],[cur],[])
 |o::r,env,cur,i=>(H6 env o.guard).bind fun b=>match b with
  |false=>(vaF md callX callP callG hb r (a9b env o.dst) cur (i+1)).map fun x=>(x.1,x.2.1,x.2.2.1,none::x.2.2.2)
  |true=>match o.op,o.guard with
   |.alloc cells,none=>(vaF md callX callP callG hb r (a79 env o.dst (.ptr cur.blks.length 0)) ⟨cur.blks++[some cells],cur.bufs,cur.globs⟩ (i+1)).map fun x=>(x.1,(i,cells)::x.2.1,x.2.2.1,none::x.2.2.2)
   |_,_=>match (if Q2 o.op=true then b8k md callX o.op env hb else none) with
    |some p=>(vaF md callX callP callG hb r (a79 env o.dst p.1) cur (i+1)).map fun x=>(x.1,x.2.1,x.2.2.1,none::x.2.2.2)
    |none=>(b8k md callG o.op env cur).bind fun p=>(vhF md callP callG r (a79 env o.dst p.1) p.2 1).map fun x=>(x.1,[],cur::x.2.1,some 0::x.2.2)
def b2m(P:Program)(F:Env)(hb:A3)(hs:List A3)(c:Nat)(o:C9):Option Nat->Prop
 |some n=>∃av h h',hs[n]? =some h/\hs[n+1]? =some h'/\aop P o.op F h (fun a b=>a=av/\b=h')/\∀d,o.dst=some d->get F d=some av
 |none=>∃av,((c=0/\e2v P F hb o.op av)\/(0<c/\∃h0,hs[c]? =some h0/\c0n P o.op F h0 av))/\Q2 o.op=true/\∀d,o.dst=some d->get F d=some av
def b25(P:Program)(F:Env)(hb:A3)(hs:List A3)(c:Nat)(o:C9)(n:Option Nat):Prop:=
 let skip:=n=none/\∀d,o.dst=some d->get F d=some (.tuple [])
 match o.guard with
 |none=>b2m P F hb hs c o n
 |some (t,want)=>(∃b,get F t=some (.v (.bool b))/\(b=want->b2m P F hb hs c o n)/\(b≠want->skip))\/(get F t=some (.tuple [])/\skip)
structure g8u(P:Program)(l:List C9)(env F:Env)(hb cur h':A3)(i0:Nat)(az:List (Nat × List AV))(hs:List A3)(fl:List (Option Nat)):Prop where
 len:fl.length=l.length
 first:hs[0]? =some ⟨cur.blks++az.map (fun p=>some p.2),cur.bufs,cur.globs⟩
 last:∃n,hs.length=n+1/\hs[n]? =some h'
 bound:∀i n:Nat,fl[i]? =some (some n)->n+1<hs.length
 mono:∀i k a b:Nat,i<k->fl[i]? =some (some a)->fl[k]? =some (some b)->a<b
 onto:∀n:Nat,n+1<hs.length->∃i:Nat,fl[i]? =some (some n)
 keep:∀t,E5 t l=false->get F t=get env t
 pos:∀(q:Nat) (p:Nat × List AV),az[q]? =some p->∃i o,p.1=i0+i/\l[i]? =some o/\o.op=.alloc p.2/\o.guard=none/\fl[i]? =some none/\∀d,o.dst=some d->get F d=some (.ptr (cur.blks.length+q) 0)
 incr:∀(q r:Nat) (p s:Nat × List AV),q<r->az[q]? =some p->az[r]? =some s->p.1<s.1
 fact:∀(i:Nat) (o:C9) (n:Option Nat),l[i]? =some o->fl[i]? =some n->(∃(q:Nat) (p:Nat × List AV),az[q]? =some p/\p.1=i0+i)\/b25 P F hb hs (b2j (fl.take i)) o n
theorem c9a{P:Program}{md:Bool}{callX callP callG:W6}(hcX:c3x P callX)(hcP:a47 P callP)(hcG:a47 P callG)(hq:∀f args h a h',callP f args h=some (a,h')->h'=h){hb:A3}:∀{l:List C9}{env F:Env}{cur:A3}{i0:Nat}{az:List (Nat × List AV)}{hs:List A3}{fl:List (Option Nat)},okq l=true->vaF md callX callP callG hb l env cur i0=some (F,az,hs,fl)->∃h',g8u P l env F hb cur h' i0 az hs fl
 |[],env,F,cur,i0,az,hs,fl,_,he=>by
  simp only[vaF,Option.some.injEq,Prod.mk.injEq]at he;obtain⟨rfl,rfl,rfl,rfl⟩:=he;exact⟨cur,rfl,by simp,⟨0,rfl,rfl⟩,fun i n hi=>by simp at hi,fun i k a b _ hi=>by simp at hi,fun n h1=>by simp at h1,fun _ _=>rfl,fun q p hq=>by simp at hq,fun q r p s _ hq=>by simp at hq,fun i o n hi=>by simp at hi⟩
 |o::r,env,F,cur,i0,az,hs,fl,hok,he=>by
  have hok0:=hok;simp only[okq,Bool.and_eq_true,List.all_eq_true]at hok;obtain⟨⟨hlook,hdst⟩,hokr⟩:=hok
  have hwr:∀t,E5 t (o::r)=false->o.dst≠some t/\E5 t r=false:=by
   intro t ht;simp only[E5,List.any_cons,Bool.or_eq_false_iff]at ht ⊢;exact⟨by simpa using ht.1,ht.2⟩
  have hd:∀d,o.dst=some d->E5 d r=false:=by
   intro d hd;rw[hd]at hdst;simpa using hdst
  have hl:∀(F:Env),(∀t,E5 t (o::r)=false->get F t=get env t)->∀t∈o.looks,get env t=get F t:=fun F hF t ht=>(hF t (by simpa using hlook t ht)).symm
  have hcong:∀(F:Env),(∀t,E5 t (o::r)=false->get F t=get env t)->∀(h:A3) (K:AV->A3->Prop),aop P o.op env h K->aop P o.op F h K:=by
   intro F hF h K hq;rw[<-a6d (e1:=env) (e2:=F)]
   ·exact hq
   ·intro x hx;cases x with
    |c a=>rfl
    |t n=>
     refine hl F hF n ?_;simp only[C9.looks,List.mem_append,List.mem_filterMap];exact .inl ⟨.t n,hx,rfl⟩
  have guardT:∀(F:Env) (D S:Prop),(∀t,E5 t (o::r)=false->get F t=get env t)->H6 env o.guard=some true->D->(match o.guard with|none=>D|some (t,want)=>(∃b,get F t=some (.v (.bool b))/\(b=want->D)/\(b≠want->S))\/(get F t=some (.tuple [])/\S)):=by
   intro F D S hF hg hD;split
   ·exact hD
   ·rename_i t want hgd;rw[hgd]at hg;simp only[H6,Option.bind_eq_some_iff]at hg;obtain⟨v,h1,h2⟩:=hg;split at h2
    ·rename_i b;simp only[Option.some.injEq,beq_iff_eq]at h2;exact .inl ⟨b,by rw[<-hl F hF t (by simp[C9.looks,hgd])];exact h1,fun _=>hD,fun hn=>absurd h2 hn⟩
    ·cases h2
    ·cases h2
  have guardN:∀(F:Env) (D S:Prop),(∀t,E5 t (o::r)=false->get F t=get env t)->H6 env o.guard=some false->S->(match o.guard with|none=>D|some (t,want)=>(∃b,get F t=some (.v (.bool b))/\(b=want->D)/\(b≠want->S))\/(get F t=some (.tuple [])/\S)):=by
   intro F D S hF hg hS;split
   ·rename_i hgd;rw[hgd]at hg;simp[H6]at hg
   ·rename_i t want hgd;rw[hgd]at hg;simp only[H6,Option.bind_eq_some_iff]at hg;obtain⟨v,h1,h2⟩:=hg;split at h2
    ·rename_i b;simp only[Option.some.injEq,beq_eq_false_iff_ne]at h2;exact .inl ⟨b,by rw[<-hl F hF t (by simp[C9.looks,hgd])];exact h1,fun h=>absurd h h2,fun _=>hS⟩
    ·exact .inr ⟨by rw[<-hl F hF t (by simp[C9.looks,hgd])];exact h1,hS⟩
    ·cases h2
  have still:∀(env':Env) (fl':List (Option Nat)) (as':List (Nat × List AV)) (h':A3),g8u P r env' F hb cur h' (i0+1) as' hs fl'->(∀t,o.dst≠some t->get env' t=get env t)->(b25 P F hb hs 0 o none)->g8u P (o::r) env F hb cur h' i0 as' hs (none::fl'):=by
   intro env' fl' as' h' hp henv hf;refine⟨by simp[hp.len],hp.first,hp.last,fun i n hi=>?_,fun i k a b hik hi hk=>?_,fun n h1=>?_,fun t ht=>?_,fun q p hqp=>?_,hp.incr,fun i o' n hi hn=>?_⟩
   ·cases i with
    |zero=>simp at hi
    |succ i=>exact hp.bound i n (by simpa using hi)
   ·cases i with
    |zero=>simp at hi
    |succ i=>cases k with
     |zero=>omega
     |succ k=>exact hp.mono i k a b (by omega) (by simpa using hi) (by simpa using hk)
   ·obtain⟨i,hi⟩:=hp.onto n h1;exact⟨i+1,by simpa using hi⟩
   ·obtain⟨h1,h2⟩:=hwr t ht;rw[hp.keep t h2,henv t h1]
   ·obtain⟨i,o',e1,e2,e3⟩:=hp.pos q p hqp;exact⟨i+1,o',by omega,by simpa using e2,by simpa using e3⟩
   ·cases i with
    |zero=>simp at hi hn;subst hi hn;exact .inr (by simpa[b2j]using hf)
    |succ i=>
     rcases hp.fact i o' n (by simpa using hi) (by simpa using hn) with⟨q,p,e1,e2⟩|h
     ·exact .inl ⟨q,p,e1,by omega⟩
     ·exact .inr (by simpa[b2j]using h)
  simp only[vaF,Option.bind_eq_some_iff]at he;obtain⟨b,hb',he⟩:=he;cases b with
  |false=>
   simp only[Option.map_eq_some_iff,Prod.mk.injEq]at he;obtain⟨⟨F',as',hs',fl'⟩,h1,rfl,rfl,rfl,rfl⟩:=he;obtain⟨h',hp⟩:=c9a hcX hcP hcG hq hokr h1
   have hF:∀t,E5 t (o::r)=false->get F' t=get env t:=by
    intro t ht;obtain⟨g1,g2⟩:=hwr t ht;rw[hp.keep t g2,M0,if_neg g1]
   refine⟨h',still _ fl' as' h' hp (fun t ht=>by rw[M0,if_neg ht]) ?_⟩;exact guardN F' _ _ hF hb' ⟨rfl,fun d hd'=>by rw[hp.keep d (hd d hd'),M0,if_pos hd']⟩
  |true=>
   simp only at he;split at he
   ·rename_i cells hop hgd;simp only[Option.map_eq_some_iff,Prod.mk.injEq]at he;obtain⟨⟨F',as',hs',fl'⟩,h1,rfl,rfl,rfl,rfl⟩:=he;obtain⟨h',hp⟩:=c9a hcX hcP hcG hq hokr h1;refine⟨h',by simp[hp.len],?_,hp.last,fun i n hi=>?_,fun i k a b hik hi hk=>?_,fun n h1=>?_,fun t ht=>?_,fun q p hqp=>?_,fun q r' p s hqr hqp hrs=>?_,fun i o' n hi hn=>?_⟩
    ·rw[hp.first];simp
    ·cases i with
     |zero=>simp at hi
     |succ i=>exact hp.bound i n (by simpa using hi)
    ·cases i with
     |zero=>simp at hi
     |succ i=>cases k with
      |zero=>omega
      |succ k=>exact hp.mono i k a b (by omega) (by simpa using hi) (by simpa using hk)
    ·obtain⟨i,hi⟩:=hp.onto n h1;exact⟨i+1,by simpa using hi⟩
    ·obtain⟨h1,h2⟩:=hwr t ht;rw[hp.keep t h2,I2,if_neg h1]
    ·cases q with
     |zero=>
      simp at hqp;subst hqp;exact⟨0,o,by simp,rfl,hop,hgd,rfl,fun d hd'=>by rw[hp.keep d (hd d hd'),I2,if_pos hd'];simp⟩
     |succ q=>
      obtain⟨i,o',e1,e2,e3,e4,e5,e6⟩:=hp.pos q p (by simpa using hqp);refine⟨i+1,o',by omega,by simpa using e2,e3,e4,by simpa using e5,fun d hd'=>?_⟩;rw[e6 d hd'];simp only[List.length_append,List.length_cons,List.length_nil]
      congr 2;omega
    ·cases r' with
     |zero=>omega
     |succ r'=>
      cases q with
      |zero=>
       simp at hqp;subst hqp;obtain⟨i,_,e1,_⟩:=hp.pos r' s (by simpa using hrs);simp only;omega
      |succ q=>exact hp.incr q r' p s (by omega) (by simpa using hqp) (by simpa using hrs)
    ·cases i with
     |zero=>exact .inl ⟨0,(i0,cells),rfl,by simp⟩
     |succ i=>
      rcases hp.fact i o' n (by simpa using hi) (by simpa using hn) with⟨q,p,e1,e2⟩|h
      ·exact .inl ⟨q+1,p,by simpa using e1,by omega⟩
      ·exact .inr (by simpa[b2j]using h)
   ·split at he
    ·rename_i p hp0;split at hp0
     ·rename_i hquiet;obtain⟨av,hav⟩:=p;have hst:=d3v hcX hquiet hp0;simp only[Option.map_eq_some_iff,Prod.mk.injEq]at he;obtain⟨⟨F',as',hs',fl'⟩,h1,rfl,rfl,rfl,rfl⟩:=he;obtain⟨h',hp⟩:=c9a hcX hcP hcG hq hokr h1
      have hF:∀t,E5 t (o::r)=false->get F' t=get env t:=by
       intro t ht;obtain⟨g1,g2⟩:=hwr t ht;rw[hp.keep t g2,I2,if_neg g1]
      refine⟨h',still _ fl' as' h' hp (fun t ht=>by rw[I2,if_neg ht]) ?_⟩;exact guardT F' _ _ hF hb' ⟨av,.inl ⟨rfl,fun h2 e1 e2=>hcong F' hF h2 _ (hst h2 e1 e2)⟩,hquiet,fun d hd'=>by rw[hp.keep d (hd d hd'),I2,if_pos hd']⟩
     ·cases hp0
    ·simp only[Option.bind_eq_some_iff,Option.map_eq_some_iff,Prod.mk.injEq]at he;obtain⟨⟨av,h2⟩,hp0,⟨F',hs',fl'⟩,h1,rfl,rfl,rfl,rfl⟩:=he;obtain⟨h',hp⟩:=c8i hcP hcG hq hokr h1
     have hF:∀t,E5 t (o::r)=false->get F' t=get env t:=by
      intro t ht;obtain⟨g1,g2⟩:=hwr t ht;rw[hp.keep t g2,I2,if_neg g1]
     refine⟨h',by simp[hp.len],by simp,?_,fun i n hi=>?_,fun i k a b hik hi hk=>?_,fun n g2=>?_,hF,fun q p hqp=>by simp at hqp,fun q r p s _ hqp=>by simp at hqp,fun i o' n hi hn=>.inr ?_⟩
     ·obtain⟨n,hn,hl'⟩:=hp.last;exact⟨n+1,by simp[hn],by simpa using hl'⟩
     ·cases i with
      |zero=>
       simp at hi;subst hi;obtain⟨n,hn,_⟩:=hp.last;simp;omega
      |succ i=>
       have:=hp.bound i n (by simpa using hi);simp;omega
     ·cases k with
      |zero=>omega
      |succ k=>
       cases i with
       |zero=>
        simp at hi;subst hi;have:=(hp.bound k b (by simpa using hk)).1;omega
       |succ i=>exact hp.mono i k a b (by omega) (by simpa using hi) (by simpa using hk)
     ·by_cases hnj:n=0
      ·subst hnj;exact⟨0,rfl⟩
      ·obtain⟨i,hi⟩:=hp.onto n (by omega) (by simp at g2;omega);exact⟨i+1,by simpa using hi⟩
     ·cases i with
      |zero=>
       simp at hi hn;subst hi hn;exact guardT F' _ _ hF hb' ⟨av,cur,h2,by simp,by simpa using hp.first,hcong F' hF cur _ (a7b (K:=fun a b=>a=av/\b=h2) hcG hp0 ⟨rfl,rfl⟩),fun d hd'=>by rw[hp.keep d (hd d hd'),I2,if_pos hd']⟩
      |succ i=>
       have hn':fl'[i]? =some n:=by simpa using hn
       have hf:=hp.fact i o' n (by simpa using hi) hn';have e:b2j ((some 0::fl').take (i+1))=b2j (fl'.take i)+1:=by simp[b2j]
       rw[e]
       have conv:a45 P F' hs' 1 (b2j (fl'.take i)) o' n->b2m P F' hb (cur::hs') (b2j (fl'.take i)+1) o' n:=by
        intro hd;cases n with
        |none=>
         obtain⟨av,h0,g1,g2,g3,g4⟩:=hd;exact⟨av,.inr ⟨by omega,h0,by simpa using g1,g2⟩,g3,g4⟩
        |some m=>
         obtain⟨av,h1,h2,g1,g2,g3⟩:=hd;have:=(hp.bound i m hn').1;refine⟨av,h1,h2,?_,?_,g3⟩
         ·rw[show m=(m - 1)+1 by omega];simpa using g1
         ·rw[show m+1=(m - 1+1)+1 by omega];simpa using g2
       unfold b25;unfold a49 at hf;cases hgd:o'.guard with
       |none=>simp only[hgd]at hf ⊢;exact conv hf
       |some g=>
        obtain⟨t,want⟩:=g;simp only[hgd]at hf ⊢;rcases hf with⟨b,h1,h2,h3⟩|hf
        ·exact .inl ⟨b,h1,fun hb=>conv (h2 hb),h3⟩
        ·exact .inr hf
def l9m(ord:List (List Nat))(fl:List (Option Nat))(i j0 last:Nat):Nat:=
 match (List.range fl.length).find? fun k=>match fl[k]? with
  |some (some n)=>decide (j0<=n)&&(ord.getD k []).contains i
  |_=>false with
 |some k=>match fl[k]? with
  |some (some n)=>n
  |_=>last
 |none=>last
def j71(md:Bool)(callP:W6)(F:Env)(o:C9)(h:A3):Bool:=
 match b8k md callP o.op F h,o.dst with
 |some (a,_),some d=>match get F d with
  |some b=>c0m a b
  |none=>false
 |_,_=>false
def f7j(md:Bool)(callP:W6)(F:Env)(az:List (Nat × List AV))(hs:List A3)(fl:List (Option Nat))(ord:List (List Nat))(al:List C9):Bool:=
 (List.range al.length).all fun i=>match al[i]?,fl[i]? with
  |some o,some none=>match H6 F o.guard with
   |some true=>az.any (fun p=>p.1==i)||c1g o.op||(az.isEmpty&&hs.all (j71 md callP F o))||((List.range fl.length).all (fun k=>match fl[k]? with
      |some (some n)=>decide (b2j (fl.take i)<=n)||(ord.getD i []).contains k
      |_=>true)&&((hs.drop (b2j (fl.take i)+1)).take (l9m ord fl i (b2j (fl.take i)) (hs.length - 1) - b2j (fl.take i))).all (j71 md callP F o))
   |some false=>true
   |none=>false
  |some o,some (some n)=>(List.range i).all (fun k=>match fl[k]? with
   |some (some _)=>(ord.getD i []).contains k
   |_=>true)&&az.all fun p=>(ord.getD i []).contains p.1
  |_,_=>false
theorem d87{P:Program}{md:Bool}{callX callP callG:W6}(hcX:c3x P callX)(hcP:a47 P callP)(hcG:a47 P callG)(hq:∀f args h a h',callP f args h=some (a,h')->h'=h){l:List C9}{env F:Env}{h:A3}{az:List (Nat × List AV)}{hs:List A3}{fl:List (Option Nat)}{ord:List (List Nat)}(hok:okq l=true)(he:vaF md callX callP callG h l env h 0=some (F,az,hs,fl))(hp:f7j md callP F az hs fl ord l=true):
  ∃h',hs.getLast? =some h'/\d3t P ord l env F h h' az hs fl:=by
 obtain⟨h',ps⟩:=c9a hcX hcP hcG hq hok he;simp only[f7j,List.all_eq_true,List.mem_range]at hp;obtain⟨nl,hnl,hlast⟩:=ps.last
 have hnoisy:∀k n:Nat,fl[k]? =some (some n)->(∀i,i<k->∀m:Nat,fl[i]? =some (some m)->i∈ord.getD k [])/\∀p∈az,p.1∈ord.getD k []:=by
  intro k n hk;have hkl:k<l.length:=by rw[<-ps.len];exact(List.getElem?_eq_some_iff.1 hk).1
  have:=hp k hkl;rw[List.getElem?_eq_getElem hkl,hk]at this;simp only[Bool.and_eq_true,List.all_eq_true,List.mem_range]at this;refine⟨fun i hik m hi=>?_,fun p hp=>by simpa using this.2 p hp⟩;have:=this.1 i hik;rw[hi]at this;simpa using this
 refine⟨h',by rw[List.getLast?_eq_getElem?,hnl];simpa using hlast,ps.len,fun i k a b hik hi hk=>⟨ps.mono i k a b hik hi hk,(hnoisy k b hk).1 i hik a hi⟩,fun j hj=>ps.onto j hj,?_,ps.last,ps.bound,ps.keep,fun q p hqp=>?_,fun q r p s hqp hrs hps=>?_,fun k n hk=>(hnoisy k n hk).2,fun i o n hi hn=>?_⟩
 ·rw[ps.first];simp[hA]
 ·obtain⟨i,o,e1,e2,e3,e4,e5,e6⟩:=ps.pos q p hqp;have:p.1=i:=by omega
  rw[this];exact⟨o,e2,e3,e4,e5,e6⟩
 ·rcases Nat.lt_trichotomy q r with hlt|heq|hgt
  ·have:=ps.incr q r p s hlt hqp hrs;omega
  ·exact heq
  ·have:=ps.incr r q s p hgt hrs hqp;omega
 ·rcases ps.fact i o n hi hn with⟨q,p,e1,e2⟩|hf
  ·exact .inl ⟨q,p,e1,by omega⟩
  by_cases hisA:∃(q:Nat) (p:Nat × List AV),az[q]? =some p/\p.1=i
  ·exact .inl hisA
  right;have hil:i<l.length:=(List.getElem?_eq_some_iff.1 hi).1;have hpi:=hp i hil;rw[hi,hn]at hpi;have hpos:0<hs.length:=by omega
  have conv:H6 F o.guard=some true->b2m P F h hs (b2j (fl.take i)) o n->d3c P F h az hs ord fl i o n:=by
   intro hg hd;cases n with
   |some n=>exact hd
   |none=>
    obtain⟨av,hqa,hquiet,hfd⟩:=hd;simp only[hg]at hpi
    have hnotA:(az.any fun p=>p.1==i)=false:=by
     rw[List.any_eq_false];intro p hp hpe;obtain⟨q,hq⟩:=List.mem_iff_getElem?.1 hp;exact hisA ⟨q,p,hq,by simpa using hpe⟩
    rw[hnotA,Bool.false_or]at hpi
    by_cases hpure:c1g o.op=true
    ·have hany:∀h2,c0n P o.op F h2 av:=by
      intro h2;rcases hqa with⟨_,hst⟩|⟨_,h0,_,hqa⟩
      ·exact b3t hpure (hst h ⟨[],by simp⟩ rfl)
      ·exact b3t hpure hqa
     exact⟨av,0,hs.length - 1,hpos,fun j lst h2 _ _ _=>hany h2,fun k n _ h=>by omega,.inl (by omega),hfd⟩
    ·have re:∀hj,j71 md callP F o hj=true->c0n P o.op F hj av:=by
      intro hj this;unfold j71 at this;split at this
      ·rename_i a' h4 d ha hd;split at this
       ·rename_i b hb;have hab:=c74 _ _ this;have h5:=a6i hq hquiet ha;have h6:=hfd d hd;rw[hb]at h6;have hav:a'=av:=hab.trans (Option.some.inj h6);rw[hav,h5]at ha;exact a7b (K:=fun x y=>x=av/\y=hj) hcP ha ⟨rfl,rfl⟩
       ·cases this
      ·cases this
     by_cases hall:(az.isEmpty&&hs.all (j71 md callP F o))=true
     ·simp only[Bool.and_eq_true,List.isEmpty_iff,List.all_eq_true]at hall;obtain⟨has,hall⟩:=hall;subst has;refine⟨av,0,hs.length - 1,hpos,fun j lst h2 _ _ h3=>re h2 (hall h2 ?_),fun k n _ h=>by omega,.inl (by omega),hfd⟩;cases j with
      |zero=>
       have:h2=hA h [] lst:=(Option.some.inj h3).symm;subst this;refine List.mem_of_getElem? (i:=0) ?_;rw[ps.first];simp[hA]
      |succ j=>exact List.mem_of_getElem? (show hs[j+1]? =some h2 from h3)
     rw[Bool.eq_false_iff.2 hall]at hpi;simp only[hpure,Bool.false_or,Bool.and_eq_true,List.all_eq_true,List.mem_range]at hpi;obtain⟨hlo,hre⟩:=hpi
     have hc0:b2j (fl.take i)<hs.length:=by
      rcases hqa with⟨h0,_⟩|⟨_,h0,e0,_⟩
      ·omega
      ·exact(List.getElem?_eq_some_iff.1 e0).1
     refine⟨av,b2j (fl.take i),l9m ord fl i (b2j (fl.take i)) (hs.length - 1),hc0,?_,?_,?_,hfd⟩
     ·intro j lst hj h1 h2 h3
      by_cases hjj:j=b2j (fl.take i)
      ·rcases hqa with⟨h0,hst⟩|⟨h0,hh,e0,hqa⟩
       ·have hj0:j=0:=by omega
        subst hj0;have:hj=hA h az lst:=(Option.some.inj h3).symm;subst this;exact hst _ ⟨_,rfl⟩ rfl
       ·cases j with
        |zero=>omega
        |succ j=>
         have h3':hs[j+1]? =some hj:=h3;rw[hjj,e0]at h3';cases h3';exact hqa
      ·have h3':hs[j]? =some hj:=by
        cases j with
        |zero=>omega
        |succ j=>exact h3
       have hmem:hj∈(hs.drop (b2j (fl.take i)+1)).take (l9m ord fl i (b2j (fl.take i)) (hs.length - 1) - b2j (fl.take i)):=by
        refine List.mem_of_getElem? (i:=j - (b2j (fl.take i)+1)) ?_;rw[List.getElem?_take,if_pos (by omega),List.getElem?_drop,show b2j (fl.take i)+1+(j - (b2j (fl.take i)+1))=j by omega];exact h3'
       exact re hj (hre hj hmem)
     ·intro k n hk hn';have hkl:k<fl.length:=(List.getElem?_eq_some_iff.1 hk).1;have:=hlo k hkl;rw[hk]at this;simp only[Bool.or_eq_true,decide_eq_true_eq,List.contains_iff_mem]at this;rcases this with h|h
      ·omega
      ·exact h
     ·unfold l9m;split
      ·rename_i k hk;have h1:=List.find?_some hk;split at h1
       ·rename_i n hkn;simp only[Bool.and_eq_true,decide_eq_true_eq,List.contains_iff_mem]at h1;rw[hkn];exact .inr ⟨k,hkn,h1.2⟩
       ·cases h1
      ·exact .inl (by omega)
  unfold d6m;unfold b25 at hf;cases hgd:o.guard with
  |none=>
   simp only[hgd]at hf ⊢;exact conv (by rw[hgd];rfl) hf
  |some g=>
   obtain⟨t,want⟩:=g;simp only[hgd]at hf ⊢;rcases hf with⟨b,h1,h2,h3⟩|hf
   ·refine .inl ⟨b,h1,fun hb=>conv ?_ (h2 hb),h3⟩;rw[hgd];simp[H6,h1,hb]
   ·exact .inr hf
abbrev Tbl:=List (Nat × (Nat × A0 × List b0j))
def m8n:A0->Bool
 |.from_ .skip 0=>true
 |_=>false
def n2s(P:Program)(f:FuncId)(t:TypeId):Prop:=∀(h:A3) (n:Nat) (r:List AV),h.blks[n]? =some (some (.ps n t::r))->∀K:AV->A3->Prop,K (.tuple []) h->b0d P f [.ptr n 0] h K
def ccF(t:Nat)(args:List AV)(h:A3):Option (AV × A3):=
 match args with
 |[.ptr n 0]=>match h.blks[n]? with
  |some (some (.ps m u::_))=>if m=n/\u=t then some (.tuple [],h) else none
  |_=>none
 |_=>none
theorem j4q{P:Program}{f:FuncId}{t:Nat}(hc:n2s P f t){args:List AV}{h h':A3}{a:AV}(he:ccF t args h=some (a,h')):h.blks≠[]/\∀K:AV->A3->Prop,K a h'->b0d P f args h K:=by
 unfold ccF at he;split at he
 ·split at he
  ·rename_i hb;split at he
   ·rename_i hm;cases he;obtain⟨rfl,rfl⟩:=hm;exact⟨by rintro hn;rw[hn]at hb;simp at hb,fun K hk=>hc h _ _ hb K hk⟩
   ·cases he
  ·cases he
 ·cases he
def knC(l:List AV):A0:=.from_ (.cond (.c (.tuple l)) .skip .skip) 1
def j66:A0->Option (List AV)
 |.from_ (.cond (.c (.tuple l)) .skip .skip) 1=>some l
 |_=>none
def c34(P:Program)(f:FuncId):List AV->Prop
 |[]=>False
 |r::l=>plain r=true/\b6h P [] f l fun b=>b=r
def d8k(P:Program)(g:FuncId)(x:Nat × A0 × List b0j):Prop:=match j66 x.2.1 with
 |some l=>c34 P g l
 |none=>if m8n x.2.1=true then n2s P g x.1 else B0 P g=some x
def W1(P:Program)(T:Tbl):Prop:=∀g x,(g,x)∈T->d8k P g x
def c6r:Tbl->Nat->List AV->Option AV
 |[],_,_=>none
 |(g,x)::T,f,args=>match j66 x.2.1 with
  |none=>none
  |some l=>if g=f then(match l with
   |r::l=>if beqL l args=true then some r else c6r T f args
   |[]=>c6r T f args) else c6r T f args
theorem b26{P:Program}:∀{T:Tbl}{f:Nat}{args:List AV}{r:AV},W1 P T->c6r T f args=some r->c34 P f (r::args)
 |[],f,args,r,hT,h=>by cases h
 |(g,x)::T,f,args,r,hT,h=>by
  have hr:W1 P T:=fun g x hm=>hT g x (by simp[hm])
  have h0:=hT g x (by simp);unfold c6r at h;unfold d8k at h0;split at h
  ·cases h
  ·rename_i l hl;rw[hl]at h0;split at h
   ·rename_i hg;subst hg;split at h
    ·split at h
     ·rename_i hb;cases h;rw[beqL_eq _ _ hb]at h0;exact h0
     ·exact b26 hr h
    ·exact b26 hr h
   ·exact b26 hr h
theorem b6h.any{P:Program}{gl:List (Nat × List AV)}{f:FuncId}{l:List AV}{R:AV->Prop}(h:b6h P [] f l R):b6h P gl f l R:=⟨h.1,fun w outer cargs ho _ hr=>h.2 w outer cargs ho (fun g cells hg=>by cases hg) hr⟩
def i72:Tbl->Nat->Option (Nat × A0 × List b0j)
 |[],_=>none
 |(g,x)::r,f=>if g=f then(match j66 x.2.1 with|none=>some x|some _=>i72 r f) else i72 r f
theorem a9w:∀{T:Tbl}{f:Nat}{x:Nat × A0 × List b0j},i72 T f=some x->(f,x)∈T/\j66 x.2.1=none
 |[],f,x,h=>by cases h
 |(g,y)::r,f,x,h=>by
  unfold i72 at h;split at h
  ·rename_i hg;subst hg;split at h
   ·rename_i hn;cases h;exact⟨by simp,hn⟩
   ·exact⟨by simp[(a9w h).1],(a9w h).2⟩
  ·exact⟨by simp[(a9w h).1],(a9w h).2⟩
def b4z:Env->Env
 |[]=>[]
 |(t,a)::e=>(t,a)::drop t (b4z e)
theorem c3m:∀{e:Env}{t u:Nat}{b:AV},(u,b)∈drop t e->u≠t/\(u,b)∈e
 |[],t,u,b,h=>by simp[drop]at h
 |(k,a)::e,t,u,b,h=>by
  simp only[drop]at h;split at h
  ·obtain⟨h1,h2⟩:=c3m h;exact⟨h1,by simp[h2]⟩
  ·rename_i hk;rcases List.mem_cons.1 h with h|h
   ·cases h;exact⟨hk,by simp⟩
   ·obtain⟨h1,h2⟩:=c3m h;exact⟨h1,by simp[h2]⟩
theorem c48:∀{e:Env}{u:Nat}{b:AV},(u,b)∈b4z e->get e u=some b
 |[],u,b,h=>by simp[b4z]at h
 |(t,a)::e,u,b,h=>by
  simp only[b4z,List.mem_cons]at h;rcases h with h|h
  ·cases h;simp[get]
  ·obtain⟨h1,h2⟩:=c3m h;simp only[get];rw[if_neg (fun x=>h1 x.symm)];exact c48 h2
theorem c8f:∀{e env:Env},(∀u b,(u,b)∈e->get env u=some b)->c0v e env
 |[],_,_=>trivial
 |(t,a)::e,env,h=>⟨h t a (by simp),c8f fun u b hu=>h u b (by simp[hu])⟩
theorem b67(e:Env):c0v (b4z e) e:=c8f fun _ _ h=>c48 h
def b8o(env:Env)(h:A3):List b0j->Option (List AV)
 |[]=>some []
 |.tmp t::r=>(get env t).bind fun a=>(b8o env h r).map fun l=>a::l
 |.cell t n::r=>(get env t).bind fun p=>(a52 h n p).bind fun a=>(b8o env h r).map fun l=>a::l
theorem a9t{env:Env}{h:A3}:∀{rs:List b0j}{l:List AV}{K:List AV->Prop},b8o env h rs=some l->K l->c4w env h rs K
 |[],l,K,he,hk=>by cases he;exact hk
 |.tmp t::r,l,K,he,hk=>by
  simp only[b8o,Option.bind_eq_some_iff,Option.map_eq_some_iff]at he;obtain⟨a,h1,l',h2,rfl⟩:=he;simp only[c4w,h1,wv];exact a9t (K:=fun l=>K (a::l)) h2 hk
 |.cell t n::r,l,K,he,hk=>by
  simp only[b8o,Option.bind_eq_some_iff,Option.map_eq_some_iff]at he;obtain⟨p,h1,a,h2,l',h3,rfl⟩:=he;simp only[c4w,h1,wv];exact a9n (K:=fun a=>c4w env h r fun l=>K (a::l)) h2 (a9t (K:=fun l=>K (a::l)) h3 hk)
abbrev a4e:=Bool->A0->Env->A3->Option (Exit × Env × A3)
def i0e:Exit->Bool
 |.normal|.ret=>true
 |_=>false
def b50(T:Tbl)(M:Nat->Bool->Bool)(md:Bool)(ih:a4e):W6:=fun f args h=>(i72 T f).bind fun x=>
 if m8n x.2.1=true then ccF x.1 args h else
 if args.length<=x.1 then(ih (M f md) x.2.1 (b0a 0 args) h).bind fun r=>if i0e r.1=true then(b8o r.2.1 r.2.2 x.2.2).map fun l=>(c36 l,r.2.2) else none else none
def b5c(h:A3)(a:AV):AV:=if plain (wk a)=true then wk a else N0 8 h (wk a)
def l39(h:A3)(l:List AV):List AV:=l.map fun a=>N0 8 h (wk a)
def fnP(T:Tbl)(M:Nat->Bool->Bool)(md:Bool)(ih:a4e):W6:=fun f args h=>
 if(J8 h.globs&& !(M f md&& !M f false))=true then
  if plainL (args.map wk)=true then match c6r T f (args.map wk) with
   |some r=>some (r,h)
   |none=>(b50 T M md ih f (args.map wk) ⟨[],[],h.globs⟩).bind fun r=>if plain (b5c r.2 r.1)=true then some (b5c r.2 r.1,h) else none
  else if plainL (l39 h args)=true then(b50 T M md ih f (l39 h args) ⟨[],[],h.globs⟩).bind fun r=>if plain (b5c r.2 r.1)=true/\e0r (b5c r.2 r.1)=true then some (b5c r.2 r.1,h) else none
  else none
 else none
def fnX(T:Tbl)(M:Nat->Bool->Bool)(md:Bool)(ih:a4e):W6:=fun f args h=>
 if(J8 h.globs&& !(M f md&& !M f false))=true/\plainL (args.map wk)=true then match c6r T f (args.map wk) with
  |some r=>some (r,h)
  |none=>(b50 T M md ih f (args.map wk) ⟨[],[],h.globs⟩).bind fun r=>if plain (b5c r.2 r.1)=true then some (b5c r.2 r.1,h) else none
 else none
def fnG(T:Tbl)(M:Nat->Bool->Bool)(md:Bool)(ih:a4e):W6:=fun f args h=>if plainL args=true then(match fnP T M md ih f args h with|some r=>some r|none=>b50 T M md ih f args h) else b50 T M md ih f args h
def b29(T:Tbl)(M:Nat->Bool->Bool)(ih:a4e):a4e:=fun md ac env h=>
 match ac with
 |.skip=>some (.normal,env,h)
 |.region ops=>(c6n md (fnG T M md ih) ops env h).map fun r=>(.normal,r.1,r.2)
 |.drawn ord al tl=>match (if(al.all fun o=>Q2 o.op)=true then vqF md (fnP T M md ih) al env h else none) with
  |some F=>(c6n md (fnG T M md ih) tl F h).map fun r=>(.normal,r.1,r.2)
  |none=>(vaF md (fnX T M md ih) (fnP T M md ih) (fnG T M md ih) h al env h 0).bind fun x=>if okq al=true/\f7j md (fnP T M md ih) x.1 x.2.1 x.2.2.1 x.2.2.2 (Lift.clo ord) al=true then x.2.2.1.getLast?.bind fun h'=>(c6n md (fnG T M md ih) tl x.1 h').map fun r=>(.normal,r.1,r.2) else none
 |.seq a b=>(ih md a env h).bind fun r=>match r.1 with
  |.normal=>ih md b r.2.1 r.2.2
  |_=>some r
 |.cond c a b=>(c.ev env).bind fun v=>match v with
  |.v (.bool true)=>ih md a env h
  |.v (.bool false)=>ih md b env h
  |_=>none
 |.block id a=>(ih md a env h).map fun r=>match r.1 with
  |.exit i=>(if i=id then .normal else .exit i,r.2)
  |_=>r
 |.loop a=>(ih md a (b4z env) h).bind fun r=>match r.1 with
  |.normal=>ih md (.loop a) r.2.1 r.2.2
  |_=>some r
 |.exit id=>some (.exit id,env,h)
 |.ret=>some (.ret,env,h)
 |.label _=>some (.normal,env,h)
 |.goto l=>some (.goto l,env,h)
 |.scope a=>(ih md a env h).bind fun r=>match r.1 with
  |.goto l=>ih md (.from_ a l) r.2.1 r.2.2
  |_=>some r
 |.from_ a l=>(a6v a l).bind fun rest=>(ih md rest (b4z env) h).bind fun r=>match r.1 with
  |.goto l'=>if l'=l then ih md (.from_ a l) r.2.1 r.2.2 else none
  |_=>some r
noncomputable def evC(T:Tbl)(M:Nat->Bool->Bool)(n:Nat):a4e:=Nat.rec (fun _ _ _ _=>none) (fun _ ih=>b29 T M ih) n
def c6u(P:Program)(ih:a4e):Prop:=∀md ac env h r,ih md ac env h=some r->∀(N:Nat) (Q:Exit->Env->A3->Prop),Q r.1 r.2.1 r.2.2->a7w P N ac Q env h
theorem c4v{P:Program}{T:Tbl}{M:Nat->Bool->Bool}{md:Bool}(hT:W1 P T){ih:a4e}(hi:c6u P ih){f:FuncId}{args:List AV}{h h':A3}{a:AV}(he:b50 T M md ih f args h=some (a,h')):
  (h.blks≠[]/\∀K:AV->A3->Prop,K a h'->b0d P f args h K)\/∃N ac rs,B0 P f=some (N,ac,rs)/\args.length<=N/\∀K:AV->A3->Prop,K a h'->a7w P N ac (c1a rs K) (b0a 0 args) h:=by
 simp only[b50,Option.bind_eq_some_iff]at he;obtain⟨⟨N,ac,rs⟩,h1,h2⟩:=he;simp only at h2;have hok:=hT _ _ (a9w h1).1;unfold d8k at hok;rw[(a9w h1).2]at hok;split at h2
 ·rename_i hcc;rw[if_pos hcc]at hok;exact .inl (j4q hok h2)
 rename_i hcc;rw[if_neg hcc]at hok;refine .inr ?_;split at h2
 ·rename_i hn;simp only[Option.bind_eq_some_iff]at h2;obtain⟨⟨e,env,h2'⟩,h3,h4⟩:=h2;simp only at h4;split at h4
  ·rename_i hend;simp only[Option.map_eq_some_iff,Prod.mk.injEq]at h4;obtain⟨l,h5,rfl,rfl⟩:=h4;refine⟨N,ac,rs,hok,hn,fun K hk=>hi _ _ _ _ _ h3 N _ ?_⟩;cases e<;>simp[i0e]at hend
   ·exact a9t (K:=fun l=>K (c36 l) h2') h5 hk
   ·exact a9t (K:=fun l=>K (c36 l) h2') h5 hk
  ·cases h4
 ·cases h2
theorem d5a{P:Program}{T:Tbl}{M:Nat->Bool->Bool}{md:Bool}(hT:W1 P T){ih:a4e}(hi:c6u P ih):a47 P (b50 T M md ih):=by
 intro f args h a h' he K hk;rcases c4v hT hi he with h0|⟨N,ac,rs,h1,h2,h3⟩
 ·exact h0.2 K hk
 exact f0l h1 h2 (h3 K hk)
theorem b7c{P:Program}{T:Tbl}{M:Nat->Bool->Bool}{md:Bool}(hT:W1 P T){ih:a4e}(hi:c6u P ih){f:FuncId}{args:List AV}{gl:List (Nat × List AV)}{a:AV}{h':A3}(he:b50 T M md ih f args ⟨[],[],gl⟩=some (a,h'))(hp:plain (b5c h' a)=true):
  b6h P gl f args fun b=>b=b5c h' a:=by
 rcases c4v hT hi he with h0|⟨N,ac,rs,h1,h2,h3⟩
 ·exact absurd rfl h0.1
 unfold b5c at hp ⊢;split at hp
 ·rename_i hpl;rw[if_pos hpl];exact d5n h1 h2 (h3 _ ⟨hp,rfl⟩)
 ·rename_i hpl;rw[if_neg hpl];exact c5i 8 h1 h2 (h3 _ ⟨hp,rfl⟩)
theorem d47{P:Program}{T:Tbl}{M:Nat->Bool->Bool}{md:Bool}(hT:W1 P T){ih:a4e}(hi:c6u P ih):a47 P (fnP T M md ih):=by
 intro f args h a h' he K hk;simp only[fnP]at he;split at he
 ·rename_i hg0;have hg:J8 h.globs=true:=by simp only[Bool.and_eq_true]at hg0;exact hg0.1
  split at he
  ·rename_i hc;split at he
   ·rename_i r hr;cases he;exact b2o (b26 hT hr).2.any hg rfl hc fun av hav=>by subst hav;exact hk
   simp only[Option.bind_eq_some_iff]at he;obtain⟨⟨b,h2⟩,h3,h4⟩:=he;simp only at h4;split at h4
   ·rename_i hp;cases h4;exact b2o (b7c hT hi h3 hp) hg rfl hc fun av hav=>by subst hav;exact hk
   ·cases h4
  ·split at he
   ·rename_i hc;simp only[Option.bind_eq_some_iff]at he;obtain⟨⟨b,h2⟩,h3,h4⟩:=he;simp only at h4;split at h4
    ·rename_i hp;cases h4;exact b9f 8 (b7c hT hi h3 hp.1) hg rfl hc (fun av hav=>by subst hav;exact hp.2) fun av hav=>by subst hav;exact hk
    ·cases h4
   ·cases he
 ·cases he
theorem c8l{T:Tbl}{M:Nat->Bool->Bool}{md:Bool}{ih:a4e}:∀f args h a h',fnP T M md ih f args h=some (a,h')->h'=h:=by
 intro f args h a h' he;simp only[fnP]at he;split at he
 ·split at he
  ·split at he
   ·cases he;rfl
   simp only[Option.bind_eq_some_iff]at he;obtain⟨r,h3,h4⟩:=he;split at h4<;>cases h4
   rfl
  ·split at he
   ·simp only[Option.bind_eq_some_iff]at he;obtain⟨r,h3,h4⟩:=he;split at h4<;>cases h4
    rfl
   ·cases he
 ·cases he
theorem k27{P:Program}{T:Tbl}{M:Nat->Bool->Bool}{md:Bool}(hT:W1 P T){ih:a4e}(hi:c6u P ih):c3x P (fnX T M md ih):=by
 intro f args h a h' he;simp only[fnX]at he;split at he
 ·rename_i hc0;have hc:J8 h.globs=true/\plainL (args.map wk)=true:=by simp only[Bool.and_eq_true]at hc0;exact⟨hc0.1.1,hc0.2⟩
  split at he
  ·rename_i r hr;cases he;refine⟨rfl,fun h2 hg K hk=>b2o (b26 hT hr).2.any (by rw[hg];exact hc.1) rfl hc.2 fun av hav=>by subst hav;exact hk⟩
  simp only[Option.bind_eq_some_iff]at he;obtain⟨⟨b,h2⟩,h3,h4⟩:=he;simp only at h4;split at h4
  ·rename_i hp;cases h4;refine⟨rfl,fun h2 hg K hk=>?_⟩;have:=b7c hT hi h3 hp;rw[<-hg]at this;exact b2o this (by rw[hg];exact hc.1) rfl hc.2 fun av hav=>by subst hav;exact hk
  ·cases h4
 ·cases he
theorem c9w{P:Program}{T:Tbl}{M:Nat->Bool->Bool}{md:Bool}(hT:W1 P T){ih:a4e}(hi:c6u P ih):a47 P (fnG T M md ih):=by
 intro f args h a h' he K hk;simp only[fnG]at he;split at he
 ·split at he
  ·rename_i r hr;cases he;exact d47 hT hi _ _ _ _ _ hr K hk
  ·exact d5a hT hi _ _ _ _ _ he K hk
 ·exact d5a hT hi _ _ _ _ _ he K hk
theorem g24{P:Program}{N:Nat}{Q:Exit->Env->A3->Prop}{env:Env}{h:A3}{a:A0}{l:Nat}:a7w P N (.from_ a l) Q env h:=by
 intro c hc;exfalso;cases c<;>(try simp only[B8,Option.bind_eq_some_iff,Option.map_eq_some_iff]at hc)
 case region id ops d=>
  cases d<;>simp only[B8,Option.bind_eq_some_iff,Option.map_eq_some_iff]at hc
  ·obtain⟨_,_,hx⟩:=hc;cases hx
  ·obtain⟨_,_,_,_,hx⟩:=hc;split at hx<;>cases hx
 all_goals first
  |(cases hc;done)
  |(obtain⟨_,_,hx⟩:=hc;cases hx;done)
  |(obtain⟨_,_,_,_,hx⟩:=hc;cases hx;done)
  |(obtain⟨_,_,_,_,_,_,hx⟩:=hc;cases hx;done)
theorem i9o{P:Program}{T:Tbl}{M:Nat->Bool->Bool}(hT:W1 P T)(n:Nat):c6u P (evC T M n):=by
 induction n using Nat.strongRecOn with
 |_ n IH=>
 cases n with
 |zero=>intro md ac env h r he;cases he
 |succ n=>
  have hi:=IH n (by omega);intro md ac env h r he N Q hq;have he':b29 T M (evC T M n) md ac env h=some r:=he;cases ac with
  |skip=>cases he';exact c5h hq
  |exit id=>cases he';exact c5x hq
  |ret=>cases he';exact c9o hq
  |label l=>cases he';exact c1h hq
  |goto l=>cases he';exact c5e hq
  |from_ a l=>exact g24
  |scope a=>
   simp only[b29,Option.bind_eq_some_iff]at he';obtain⟨⟨x,env1,h1⟩,h2,h3⟩:=he';cases x<;>simp only at h3
   case goto l=>
    cases hf:a6v a l with
    |none=>
     exfalso;cases n with
     |zero=>cases h3
     |succ n=>
      have h3':b29 T M (evC T M n) md (.from_ a l) env1 h1=some r:=h3;simp only[b29,hf,Option.bind_none]at h3';cases h3'
    |some rest=>
     refine d0x l hf (fun m e h=>m<=n/\∃e',e=b4z e'/\evC T M m md (.from_ a l) e' h=some r) (hi _ _ _ _ _ h2 N _ ⟨rfl,n,b4z env1,b67 env1,Nat.le_refl _,env1,rfl,h3⟩) ?_;rintro m e h ⟨hm,e',rfl,hr⟩;cases m with
     |zero=>cases hr
     |succ m=>
      have hr':b29 T M (evC T M m) md (.from_ a l) e' h=some r:=hr;simp only[b29,hf,Option.bind_some,Option.bind_eq_some_iff]at hr';obtain⟨⟨y,env2,h4⟩,h5,h6⟩:=hr';refine IH m (by omega) _ _ _ _ _ h5 N _ ?_;cases y<;>simp only at h6
      case goto l'=>
       split at h6
       ·rename_i hl;exact⟨hl,m,b4z env2,by omega,b67 env2,by omega,env2,rfl,h6⟩
       ·cases h6
      all_goals (cases h6;first|exact hq|exact hq)
   all_goals (cases h3;exact d05 (hi _ _ _ _ _ h2 N _ hq))
  |region ops=>
   simp only[b29,Option.map_eq_some_iff]at he';obtain⟨r1,h1,rfl⟩:=he';exact b9q (b3s (c9w hT hi) h1 hq)
  |drawn ord al tl=>
   simp only[b29]at he';split at he'
   ·rename_i F hF;split at hF
    ·simp only[Option.map_eq_some_iff]at he';obtain⟨r1,h2,rfl⟩:=he';exact c95 (d1m (d47 hT hi) c8l hF (b3s (c9w hT hi) h2 hq))
    ·cases hF
   ·simp only[Option.bind_eq_some_iff]at he';obtain⟨⟨F,az,hs,fl⟩,h1,h2⟩:=he';split at h2
    ·rename_i hc;simp only[Option.bind_eq_some_iff,Option.map_eq_some_iff]at h2;obtain⟨h',h3,r1,h4,rfl⟩:=h2;obtain⟨h'',h5,h6⟩:=d87 (k27 hT hi) (d47 hT hi) (c9w hT hi) c8l hc.1 h1 hc.2;have h3':hs.getLast? =some h':=h3;rw[h5]at h3';cases h3';exact b7v h6 (b3s (c9w hT hi) h4 hq)
    ·cases h2
  |seq a b=>
   simp only[b29,Option.bind_eq_some_iff]at he';obtain⟨⟨e,env1,h1⟩,h2,h3⟩:=he';refine d9m (hi _ _ _ _ _ h2 N _ ?_);cases e<;>simp only at h3
   case normal=>exact hi _ _ _ _ _ h3 N Q hq
   all_goals (cases h3;exact hq)
  |cond c a b=>
   simp only[b29,Option.bind_eq_some_iff]at he';obtain⟨v,h1,h2⟩:=he';split at h2
   ·exact b8s h1 (fun _=>hi _ _ _ _ _ h2 N Q hq) (fun h=>by cases h)
   ·exact b8s h1 (fun h=>by cases h) (fun _=>hi _ _ _ _ _ h2 N Q hq)
   ·cases h2
  |block id a=>
   simp only[b29,Option.map_eq_some_iff]at he';obtain⟨⟨e,env1,h1⟩,h2,h3⟩:=he';refine d0s (hi _ _ _ _ _ h2 N _ ?_);cases e<;>simp only at h3
   case exit i=>
    subst h3;show(if i=id then Q .normal env1 h1 else Q (.exit i) env1 h1);split
    ·rename_i hid;simp only[hid,if_true]at hq;exact hq
    ·rename_i hid;simp only[hid,if_false]at hq;exact hq
   all_goals (subst h3;exact hq)
  |loop a=>
   refine d43 (fun m e h=>m<=n+1/\∃e',e=b4z e'/\evC T M m md (.loop a) e' h=some r) (n+1) (b4z env) ⟨b67 env,Nat.le_refl _,env,rfl,he⟩ ?_;rintro m e h ⟨hm,e',rfl,hr⟩;cases m with
   |zero=>cases hr
   |succ m=>
    have hr':b29 T M (evC T M m) md (.loop a) e' h=some r:=hr;simp only[b29,Option.bind_eq_some_iff]at hr';obtain⟨⟨x,env1,h1⟩,h2,h3⟩:=hr';refine IH m (by omega) _ _ _ _ _ h2 N _ ?_;cases x<;>simp only at h3
    case normal=>exact⟨m,b4z env1,by omega,b67 env1,by omega,env1,rfl,h3⟩
    all_goals (cases h3;exact hq)
theorem I3{P:Program}{T:Tbl}{M:Nat->Bool->Bool}{md:Bool}(hT:W1 P T)(n:Nat){f:FuncId}{args:List AV}{gl:List (Nat × List AV)}{a:AV}(he:(b50 T M md (evC T M n) f args ⟨[],[],gl⟩).map (fun r=>b5c r.2 r.1)=some a)(hp:plain a=true):
  b6h P gl f args fun b=>b=a:=by
 simp only[Option.map_eq_some_iff]at he;obtain⟨⟨b,h'⟩,h1,rfl⟩:=he;exact b7c hT (i9o hT n) h1 hp
def c31(o:C9):Bool:=match o.op,o.guard with
 |.alloc _,none=>true
 |_,_=>false
def a9r(o:C9):Bool:= !Q2 o.op&& !c31 o
theorem k08{P:Program}{env:Env}{h:A3}{K:AV->A3->Prop}{x y:G2}{k k':IntKind}{a b:Int}(hx:x.ev env=some (.v (.int k a)))(hy:y.ev env=some (.v (.int k' b)))(hk:K (.v (.int k (if b<a then b else a))) h):A P (.minmax false [x,y]) env h K:=
 b65 (l:=[.v (.int k a),.v (.int k' b)]) (v:=.int k (if b<a then b else a)) (by simp[evs,hx,hy]) (by simp[mmx]) hk
theorem l1x{P:Program}{env:Env}{h:A3}{K:AV->A3->Prop}{x y:G2}{k k':IntKind}{a b:Int}(hx:x.ev env=some (.v (.int k a)))(hy:y.ev env=some (.v (.int k' b)))(hk:K (.v (.int k (if a<b then b else a))) h):A P (.minmax true [x,y]) env h K:=
 b65 (l:=[.v (.int k a),.v (.int k' b)]) (v:=.int k (if a<b then b else a)) (by simp[evs,hx,hy]) (by simp[mmx]) hk
def nz1:AV->AV
 |.nil=>.sl [] .no
 |.sl els _=>.sl els .no
 |x=>x
def nzA:AV->AV
 |.agg cs=>.agg (cs.map nz1)
 |x=>nz1 x
def nz:AV->AV
 |.tuple vs=>.tuple (vs.map nzA)
 |x=>nzA x
theorem d78(av:AV):(nz1 av).isCell=av.isCell:=by cases av<;>rfl
theorem Rel.nz1{σ:Sg}{av:AV}{x:Value}(hr:Rel σ av x):Rel σ (nz1 av) x:=by
 cases av with
 |nil=>cases hr;exact .sl0 _ trivial
 |sl els tok=>
  show Rel σ (.sl els .no) x;cases hr with
  |sl0 _ _=>exact .sl0 _ trivial
  |slx _ a cap _ _=>exact .slx _ a cap trivial (.inl rfl)
  |sl _ _ b o cap size xs hs hcap ht hz hc hr=>exact .sl _ _ b o cap size xs hs hcap trivial (fun id e h=>by cases h) hc hr
 |_=>exact hr
theorem D4.nz{σ:Sg}{cells:List AV}{vs:List Value}(hc:D4 σ cells vs):D4 σ (cells.map nz1) vs:=by
 refine⟨by simp[hc.1],fun i av hi=>?_⟩;simp only[List.getElem?_map,Option.map_eq_some_iff]at hi;obtain⟨b,hb,rfl⟩:=hi;obtain⟨h1,x,h2,h3⟩:=hc.2 i b hb;exact⟨by rw[d78];exact h1,x,h2,h3.nz1⟩
theorem Rel.nzA{σ:Sg}{av:AV}{x:Value}(hr:Rel σ av x):Rel σ (nzA av) x:=by
 unfold Lift.nzA;split
 ·obtain⟨xs,rfl,hc⟩:=hr.agg_inv;exact Rel.agg_mk' hc.nz
 ·exact hr.nz1
theorem Rel.nz{σ:Sg}{av:AV}{x:Value}(hr:Rel σ av x):Rel σ (nz av) x:=by
 unfold Lift.nz;split
 ·cases hr with
  |tuple vs xs hn y hx hr=>
   refine .tuple _ _ (by simp[hn]) y (fun i av hi=>?_) (fun i av hi=>?_)
   ·simp only[List.getElem?_map,Option.map_eq_some_iff]at hi;obtain⟨b,hb,rfl⟩:=hi;exact hx i b hb
   ·simp only[List.getElem?_map,Option.map_eq_some_iff]at hi;obtain⟨b,hb,rfl⟩:=hi;exact(hr i b hb).nzA
 ·exact hr.nzA
theorem d13(a:AV)(h:plain (nz1 a)=true):plain (wk1 a)=true:=by
 cases a with
 |sl els tok=>cases tok<;>simpa[nz1,wk1,plain]using h
 |_=>first|rfl|exact h
theorem c4a:∀(l:List AV),plainL (l.map nz1)=true->plainL (l.map wk1)=true
 |[],_=>rfl
 |a::r,h=>by
  simp only[List.map_cons,plainL,Bool.and_eq_true]at h ⊢;exact⟨d13 a h.1,c4a r h.2⟩
theorem b8w(a:AV)(h:plain (nzA a)=true):plain (wkA a)=true:=by
 cases a with
 |agg cs=>simp only[nzA,wkA,plain]at h ⊢;exact c4a cs h
 |sl els tok=>cases tok<;>simpa[nzA,wkA,nz1,wk1,plain]using h
 |_=>first|rfl|exact h
theorem c14:∀(l:List AV),plainL (l.map nzA)=true->plainL (l.map wkA)=true
 |[],_=>rfl
 |a::r,h=>by
  simp only[List.map_cons,plainL,Bool.and_eq_true]at h ⊢;exact⟨b8w a h.1,c14 r h.2⟩
theorem d7d(a:AV)(h:plain (nz a)=true):plain (wk a)=true:=by
 cases a with
 |tuple vs=>simp only[nz,wk,plain]at h ⊢;exact c14 vs h
 |agg cs=>exact b8w (.agg cs) h
 |sl els tok=>exact b8w (.sl els tok) h
 |_=>first|rfl|exact h
theorem i7t(a:AV):nz1 (wk1 a)=nz1 a:=by
 cases a with
 |sl els tok=>cases tok<;>rfl
 |_=>rfl
theorem e1z(a:AV):nzA (wkA a)=nzA a:=by
 cases a with
 |agg cs=>simp only[wkA,nzA,List.map_map];congr 1;exact List.map_congr_left fun x _=>i7t x
 |sl els tok=>cases tok<;>rfl
 |_=>rfl
theorem m83(a:AV):nz (wk a)=nz a:=by
 cases a with
 |tuple vs=>simp only[wk,nz,List.map_map];congr 1;exact List.map_congr_left fun x _=>e1z x
 |agg cs=>exact e1z (.agg cs)
 |sl els tok=>cases tok<;>rfl
 |_=>rfl
def C5(P:Program)(gl:List (Nat × List AV))(f:FuncId)(args:List AV)(r:AV):Prop:=b6h P gl f args fun a=>nz a=r
theorem b9l{P:Program}{f:FuncId}{args args':List AV}{r:AV}{h:A3}{K:AV->A3->Prop}(hf:C5 P h.globs f args r)(hgl:J8 h.globs=true)(ha:args'.map nz=args)(hp:plainL args=true)(hk:K r h):b0d P f args' h K:=by
 refine⟨hf.1,fun σ cargs hi hr=>?_⟩
 have hopen:∀b o,σ.open_ b o->b<σ.w.heap.size:=by
  rintro b o (ho|⟨n,hn⟩|⟨id,e,he,hs⟩)
  ·exact(hi.outer b o ho).1
  ·exact hi.lt hn
  ·exact hi.buflt id e b o he hs
 have hrels:b7b (bare σ.w σ.open_) args cargs.toList:=by
  refine⟨by rw[hr.1,<-ha];simp,fun i av hav=>?_⟩;have hav':=hav;rw[<-ha]at hav;simp only[List.getElem?_map,Option.map_eq_some_iff]at hav;obtain⟨b,hb,rfl⟩:=hav;obtain⟨x,h1,h2⟩:=hr.2 i b hb;exact⟨x,h1,h2.nz.down (J9 hp i _ hav') rfl fun _ _ h=>h⟩
 have hglobs:c0x σ.w σ.open_ h.globs:=fun g cells hg=>(hi.glob g cells hg).down (by simp only[plain];exact List.all_eq_true.1 hgl _ hg) rfl fun _ _ h=>h
 refine(hf.2 σ.w σ.open_ cargs hopen hglobs hrels).mono fun e w' hq=>?_
 obtain⟨av,x,rfl,hpast,hrel,hR⟩:=hq;exact⟨{σ with w:=w'},h,nz av,x,rfl,rfl,Le.world hpast,hi.world hpast,(hrel.nz).up (fun _=>rfl) (fun _=>rfl) rfl (fun b o ho=>.inl ho),by rw[hR];exact hk⟩
def h4b(rs:List b0j)(r:AV):Exit->Env->A3->Prop
 |.normal,env,h=>c4w env h rs fun l=>plain (wk (c36 l))=true/\nz (wk (c36 l))=r
 |.ret,env,h=>c4w env h rs fun l=>plain (wk (c36 l))=true/\nz (wk (c36 l))=r
 |_,_,_=>False
section
variable {P:Program}{h h':A3}{env env':Env}{N:Nat}{Q:Exit->Env->A3->Prop}{K:Env->A3->Prop}{L:List C9}{k:Nat}
theorem h0q{gl:List (Nat × List AV)}{f:FuncId}{ac:A0}{rs:List b0j}(hf:B0 P f=some (N,ac,rs)){args:List AV}{r:AV}{e₀:Env}(hn:args.length<=N)(he:b0a 0 args=e₀)
  (hbody:C P N ac (h4b rs r) e₀ ⟨[],[],gl⟩):C5 P gl f args r:=by
 subst he;refine d5n hf hn (c5s hbody.out fun e env h hq=>?_);cases e<;>first|exact hq|exact hq.elim
theorem n9d{rs:List b0j}{r:AV}{l:List AV}(hl:b8o env h rs=some l)(hr:nz (c36 l)=r)(hp:plain r=true):h4b rs r .ret env h:=by
 refine a9t hl ⟨d7d _ (by rw[hr];exact hp),by rw[m83];exact hr⟩
def a1i(P:Program)(o:AOp)(env:Env)(h:A3)(av:AV)(h':A3):Prop:=∀K:AV->A3->Prop,K av h'->aop P o env h K
theorem a1i.q{P:Program}{o:AOp}{env:Env}{h:A3}{av:AV}(hd:a1i P o env h av h):c0n P o env h av:=hd _ ⟨rfl,rfl⟩
def b32(e env:Env):Prop:=∀t a,get e t=some a->get env t=some a
theorem b32.put{e env:Env}(he:b32 e env)(d:Option Nat)(av:AV):b32 (a79 e d av) (a79 env d av):=by
 intro t a h;rw[I2]at h ⊢;split at h
 ·rename_i hd;rw[if_pos hd];exact h
 ·rename_i hd;rw[if_neg hd];exact he t a h
theorem b32.drop{e env:Env}(he:b32 e env)(d:Option Nat):b32 (a9b e d) (a9b env d):=by
 intro t a h;rw[M0]at h ⊢;split at h
 ·rename_i hd;rw[if_pos hd];exact h
 ·rename_i hd;rw[if_neg hd];exact he t a h
theorem b32.ev{e env:Env}(he:b32 e env){x:G2}{a:AV}(h:x.ev e=some a):x.ev env=some a:=by
 cases x with
 |t n=>exact he n a h
 |c b=>exact h
theorem b32.wv{e env:Env}(he:b32 e env){x:G2}{J J':AV->Prop}(hj:wv (x.ev e) J)(h:∀a,J a->J' a):wv (x.ev env) J':=by
 obtain⟨a,h1,h2⟩:=a7i hj;rw[he.ev h1];exact h a h2
theorem b32.evs{e env:Env}(he:b32 e env):∀{l:List G2}{r:List AV},evs e l=some r->evs env l=some r
 |[],r,h=>h
 |x::l,r,h=>by
  simp only[Lift.evs]at h ⊢;split at h
  ·rename_i a l' h1 h2;rw[he.ev h1,he.evs h2];exact h
  ·cases h
theorem b32.evp{e env:Env}(he:b32 e env):∀{l:List ((Nat × Nat) × G2)}{r:List ((Nat × Nat) × AV)},evp e l=some r->evp env l=some r
 |[],r,h=>h
 |(k,x)::l,r,h=>by
  simp only[Lift.evp]at h ⊢;split at h
  ·rename_i a l' h1 h2;rw[he.ev h1,he.evp h2];exact h
  ·cases h
theorem b32.evo{e env:Env}(he:b32 e env){x:Option G2}{r:Option AV}(h:evo e x=some r):evo env x=some r:=by
 cases x with
 |none=>exact h
 |some x=>
  simp only[Lift.evo]at h ⊢;split at h
  ·rename_i a h1;rw[he.ev h1];exact h
  ·cases h
theorem c3q{P:Program}{o:AOp}{e env:Env}(he:b32 e env){h:A3}{K:AV->A3->Prop}(ha:aop P o e h K):aop P o env h K:=by
 cases o<;>simp only[aop]at ha ⊢
 case mv=>exact he.wv ha fun _ h=>h
 case pick=>
  refine he.wv ha fun c hc=>?_
  unfold b5z at hc ⊢;split at hc
  ·exact⟨fun ht=>he.wv (hc.1 ht) fun _ h=>h,fun ht=>he.wv (hc.2 ht) fun _ h=>h⟩
  ·exact hc.elim
 case alloc=>exact ha
 case box=>exact he.wv ha fun _ h=>h
 case build=>
  split at ha
  ·rename_i ps h1;rw[he.evp h1];exact ha
  ·exact ha.elim
 case sliceLit=>
  split at ha
  ·rename_i ps h1;rw[he.evp h1];exact ha
  ·exact ha.elim
 case load=>exact he.wv ha fun _ h=>h
 case store=>exact he.wv ha fun _ h=>he.wv h fun _ h=>h
 case nilCheck=>exact he.wv ha fun _ h=>h
 case bin=>exact he.wv ha fun _ h=>he.wv h fun _ h=>h
 case eq=>exact he.wv ha fun _ h=>he.wv h fun _ h=>h
 case un=>exact he.wv ha fun _ h=>h
 case conv=>exact he.wv ha fun _ h=>h
 case iface=>exact he.wv ha fun _ h=>h
 case func=>
  split at ha
  ·rename_i f c h1 h2;rw[he.evs h1,he.evs h2];exact ha
  ·exact ha.elim
 case sliceS=>
  refine he.wv ha fun x hx=>?_
  split at hx
  ·rename_i lo hi h1 h2;rw[he.evo h1,he.evo h2];exact hx
  ·exact hx.elim
 case sliceV=>
  refine he.wv ha fun x hx=>?_
  split at hx
  ·rename_i lo hi mx h1 h2 h3;rw[he.evo h1,he.evo h2,he.evo h3];exact hx
  ·exact hx.elim
 case fieldAddr=>exact he.wv ha fun _ h=>h
 case field=>exact he.wv ha fun _ h=>h
 case idxS=>exact he.wv ha fun _ h=>he.wv h fun _ h=>h
 case idxV=>exact he.wv ha fun _ h=>he.wv h fun _ h=>h
 case idxSl=>exact he.wv ha fun _ h=>he.wv h fun _ h=>h
 case idxA=>exact he.wv ha fun _ h=>he.wv h fun _ h=>h
 case assertT=>exact he.wv ha fun _ h=>h
 case extract=>exact he.wv ha fun _ h=>h
 case len=>exact he.wv ha fun _ h=>h
 case append=>exact he.wv ha fun _ h=>he.wv h fun _ h=>h
 case mkmap=>exact ha
 case lookup=>exact he.wv ha fun _ h=>he.wv h fun _ h=>h
 case mapset=>exact he.wv ha fun _ h=>he.wv h fun _ h=>he.wv h fun _ h=>h
 case allocB=>exact ha
 case udata=>exact he.wv ha fun _ h=>h
 case ustr=>exact he.wv ha fun _ h=>he.wv h fun _ h=>h
 case seek=>exact he.wv ha fun _ h=>he.wv h fun _ h=>h
 case mknz=>exact he.wv ha fun _ h=>h
 case cap0=>exact he.wv ha fun _ h=>h
 case copy0=>exact he.wv ha fun _ h=>he.wv h fun _ h=>h
 case clear=>exact he.wv ha fun _ h=>h
 case call f args=>
  refine he.wv ha fun f hf=>?_
  unfold c1y at hf ⊢;split at hf
  ·rename_i g first captured l h1;rw[he.evs h1];exact hf
  ·exact hf.elim
 case bytes=>exact he.wv ha fun _ h=>h
 case minmax=>
  split at ha
  ·rename_i l h1;rw[he.evs h1];exact ha
  ·exact ha.elim
 case make=>exact he.wv ha fun _ h=>he.wv h fun _ h=>h
 case range=>exact he.wv ha fun _ h=>h
 case next=>exact he.wv ha fun _ h=>h
theorem a1i.less{P:Program}{o:AOp}{e env:Env}{h h':A3}{av:AV}(hd:a1i P o e h av h')(he:b32 e env):a1i P o env h av h':=fun K hk=>c3q he (hd K hk)
theorem b32.guard{e env:Env}(he:b32 e env){g:Option (Nat × Bool)}{b:Bool}(h:H6 e g=some b):H6 env g=some b:=by
 cases g with
 |none=>exact h
 |some p=>
  obtain⟨t,want⟩:=p;simp only[H6,Option.bind_eq_some_iff]at h ⊢;obtain⟨v,h1,h2⟩:=h;exact⟨v,he t v h1,h2⟩
def vd(P:Program):List C9->Env->A3->(Env->A3->Prop)->Prop
 |[],env,h,K=>K env h
 |o::r,env,h,K=>(H6 env o.guard=some false/\vd P r (a9b env o.dst) h K)\/(H6 env o.guard=some true/\∃av h',a1i P o.op env h av h'/\vd P r (a79 env o.dst av) h' K)\/
  (H6 env o.guard=some true/\∃S:AV->Prop,(∀K':AV->A3->Prop,(∀av,S av->K' av h)->aop P o.op env h K')/\∀av,S av->vd P r (a79 env o.dst av) h K)
theorem b7r{P:Program}:∀{l:List C9}{env:Env}{h:A3}{K:Env->A3->Prop},vd P l env h K->c9u P l env h K
 |[],env,h,K,hv=>hv
 |o::r,env,h,K,hv=>by
  rcases hv with⟨hg,hv⟩|⟨hg,av,h',hd,hv⟩|⟨hg,S,hd,hv⟩
  ·exact a8r (b:=false) hg (by simpa using b7r hv)
  ·refine a8r (b:=true) hg ?_;simp only[if_true];exact hd _ (b7r hv)
  ·refine a8r (b:=true) hg ?_;simp only[if_true];exact hd _ fun av hav=>b7r (hv av hav)
def b83(K:Env->A3->Prop):Prop:=∀e env h,b32 e env->K e h->K env h
theorem b4y{P:Program}{K:Env->A3->Prop}(hK:b83 K):∀{l:List C9}{e env:Env}{h:A3},b32 e env->vd P l e h K->vd P l env h K
 |[],e,env,h,he,hv=>hK e env h he hv
 |o::r,e,env,h,he,hv=>by
  rcases hv with⟨hg,hv⟩|⟨hg,av,h',hd,hv⟩|⟨hg,S,hd,hv⟩
  ·exact .inl ⟨he.guard hg,b4y hK (he.drop _) hv⟩
  ·exact .inr (.inl ⟨he.guard hg,av,h',hd.less he,b4y hK (he.put _ _) hv⟩)
  ·exact .inr (.inr ⟨he.guard hg,S,fun K' hK'=>c3q he (hd K' hK'),fun av hav=>b4y hK (he.put _ _) (hv av hav)⟩)
def Vp(P:Program)(L:List C9)(k:Nat)(env:Env)(h:A3)(K:Env->A3->Prop):Prop:=vd P (L.drop k) env h K
def noC:W6:=fun _ _ _=>none
theorem e4u{P:Program}:a47 P noC:=fun f args h a h' he=>by cases he
theorem d66(hk:Vp P L 0 env h K):V P L env h K:=⟨b7r hk⟩
theorem k09{o:C9}(hl:L[k]? =some o)(hg:H6 env o.guard=some true){av:AV}{env1:Env}(ha:a1i P o.op env h av h'){k':Nat}(hk':k+1=k')(he:a79 env o.dst av=env1)(hk:Vp P L k' env1 h' K):Vp P L k env h K:=by
 subst hk' he;obtain⟨hlt,rfl⟩:=List.getElem?_eq_some_iff.1 hl;show vd P (L.drop k) env h K;rw[List.drop_eq_getElem_cons hlt];exact .inr (.inl ⟨hg,av,h',ha,hk⟩)
theorem n0b{l:List C9}(hK:b83 K):b83 fun F h'=>vd P l F h' K:=fun e env h he hv=>b4y hK he hv
theorem f1u{g:FuncId}{f:G2}{args:List G2}{l l':List AV}{r:AV}(hf:f.ev env=some (.clo (.func g) [] []))(ha:evs env args=some l)(hl:l.map nz=l')(hgl:J8 h.globs=true)(hp:plainL l'=true)(hc:C5 P h.globs g l' r):a1i P (.call f args) env h r h:=
 fun K hk=>(c8w hf ha (b9l hc hgl hl hp hk)).out
theorem g2b{g:FuncId}{f:G2}{args:List G2}{l l' first captured:List AV}{r:AV}(hf:f.ev env=some (.clo (.func g) first captured))(ha:evs env args=some l)(hl:(first++l++captured).map nz=l')(hgl:J8 h.globs=true)(hp:plainL l'=true)(hc:C5 P h.globs g l' r):a1i P (.call f args) env h r h:=
 fun K hk=>(h0s hf ha (b9l hc hgl hl hp hk)).out
end
def c7b(P:Program)(c:Code)(Q:Exit->Act->World->Prop)(a:Act)(w:World):Prop:=∀b k cs,∃e a' w',Q e a' w'/\Arrives P (lone (b.at a (.code c::.inLoop c::k)) cs w) b k cs e a' w'
theorem c5u{P:Program}{Q:Exit->Act->World->Prop}{a:Act}{w:World}{c:Code}(hx:c.wp P (Exit.then (c7b P c Q) Q) a w):c7b P c Q a w:=by
 intro b k cs;obtain⟨e,a₁,w₁,hq,harr⟩:=hx b (.inLoop c::k) cs;cases e with
 |normal=>
  obtain⟨e₂,a₂,w₂,hq₂,harr₂⟩:=hq b k cs;exact⟨e₂,a₂,w₂,hq₂,.of_steps (Steps.trans harr (.one step_inLoop)) harr₂⟩
 |exit id=>exact⟨_,a₁,w₁,hq,.pass (x:=.inLoop c) rfl (fun _ _=>.inl (by simp)) harr⟩
 |goto l=>exact⟨_,a₁,w₁,hq,.pass (x:=.inLoop c) rfl (fun _ _=>.inl (by simp)) harr⟩
 |ret=>exact⟨_,a₁,w₁,hq,.pass (x:=.inLoop c) rfl (fun _ _=>.inl (by simp)) harr⟩
 |panic ch=>exact⟨_,a₁,w₁,hq,.pass (x:=.inLoop c) rfl (fun _ _=>.inl (by simp)) harr⟩
 |outgrown=>exact⟨_,a₁,w₁,hq,.pass (x:=.inLoop c) rfl (fun _ _=>.inl (by simp)) harr⟩
theorem d8w{P:Program}{Q:Exit->Act->World->Prop}{a:Act}{w:World}{c:Code}(hx:c7b P c Q a w):(Code.loop c).wp P Q a w:=by
 intro b k cs;obtain⟨e,a',w',hq,harr⟩:=hx b k cs;exact⟨e,a',w',hq,.of_steps (.one step_loop) harr⟩
theorem c7b.mono{P:Program}{Q Q':Exit->Act->World->Prop}{a:Act}{w:World}{c:Code}(hq:∀e a w,Q e a w->Q' e a w)(hx:c7b P c Q a w):c7b P c Q' a w:=by
 intro b k cs;obtain⟨e,a',w',h1,harr⟩:=hx b k cs;exact⟨e,a',w',hq _ _ _ h1,harr⟩
section
variable {P:Program}{h h':A3}{env env':Env}{N:Nat}{Q:Exit->Env->A3->Prop}{x:A0}
end
section
variable {P:Program}{h:A3}{env:Env}{α:Type}
def bI(s:ByteArray):List Int:=s.data.toList.map fun b=>(b.toNat:Int)
theorem j7l{x:G2}{s:ByteArray}(hx:x.ev env=some (.v (.string s))):a1i P (.len true x) env h (.v (.int .i64 s.size)) h:=fun K hk=>by
 simp only[aop,hx,wv,c16];exact hk
theorem n7c{x:G2}{l:List α}{e:α->List AV}{tok:Tok}(hx:x.ev env=some (.sl (List.map e l) tok)):a1i P (.len false x) env h (.v (.int .i64 l.length)) h:=fun K hk=>by
 simp only[aop,hx,wv,c16,List.length_map];exact hk
theorem g9l{size:Nat}{x i:G2}{l:List α}{e' e:α->List AV}{tok:Tok}{k:IntKind}{n:Int}{y:α}(hx:x.ev env=some (.sl (List.map e' l) tok))(hi:i.ev env=some (.v (.int k n)))(h0:0<=n)(hy:l[n.toNat]? =some y)(he:e' y=e y)(hs:(e y).length=size):a1i P (.idxSl size x i) env h (.elt (e y) 0) h:=fun K hk=>by
 simp only[aop,hx,hi,wv,b4n];obtain⟨hlt,rfl⟩:=List.getElem?_eq_some_iff.1 hy
 have hg:(List.map e' l).getD n.toNat []=e l[n.toNat]:=by
  rw[List.getD_eq_getElem?_getD,List.getElem?_map,hy];simpa using he
 rw[hg,List.length_map];exact⟨⟨h0,by omega⟩,hs,hk⟩
theorem i3k{x i:G2}{s:ByteArray}{k:IntKind}{n:Int}(hx:x.ev env=some (.v (.string s)))(hi:i.ev env=some (.v (.int k n)))(h0:0<=n/\n<(s.size:Int)):a1i P (.idxS x i) env h (.v (.int .u8 (C7 s n.toNat))) h:=fun K hk=>by
 simp only[aop,hx,hi,wv,b2l];exact⟨h0,hk⟩
theorem d7v{x:G2}{lo hi:Option G2}{s:ByteArray}{lv hv:Option AV}{l u:Int}(hx:x.ev env=some (.v (.string s)))(h1:evo env lo=some lv)(h2:evo env hi=some hv)(h3:E2 0 lv=some l)(h4:E2 s.size hv=some u)(h0:0<=l/\l<=u/\u<=(s.size:Int)):a1i P (.sliceS x lo hi) env h (.v (.string (s.extract l.toNat u.toNat))) h:=fun K hk=>by
 simp only[aop,hx,h1,h2,wv,b5a,h3,h4];exact⟨h0,hk⟩
theorem c4y{e':α->List AV}{l:List α}{hv:Option AV}:E2 (List.map e' l).length hv=E2 l.length hv:=by rw[List.length_map]
theorem d9a{size:Nat}{x:G2}{lo hi:Option G2}{l:List α}{e':α->List AV}{tok:Tok}{lv hv:Option AV}{a u:Int}(hx:x.ev env=some (.sl (List.map e' l) tok))(h1:evo env lo=some lv)(h2:evo env hi=some hv)(h3:E2 0 lv=some a)(h4:E2 l.length hv=some u)(h0:0<=a/\a<=u/\u<=(l.length:Int))(hs:∀y,(e' y).length=size):a1i P (.sliceV size x lo hi none) env h (.sl (List.map e' ((l.take u.toNat).drop a.toNat)) (match lv,hv with|none,none=>tok|_,_=>.no)) h:=fun K hk=>by
 have h5:evo env none=some none:=rfl;simp only[aop,hx,h1,h2,h5,wv,a1x,h3,c4y,h4,List.length_map];refine⟨h0,fun el hel=>?_,?_⟩
 ·obtain⟨y,_,rfl⟩:=List.mem_map.1 hel;exact hs y
 ·rw[<-List.map_take,<-List.map_drop];cases lv<;>cases hv<;>exact hk
theorem d46{size:Nat}{x m:G2}{lo hi:Option G2}{l:List α}{e':α->List AV}{tok:Tok}{lv hv:Option AV}{k:IntKind}{a u:Int}(hx:x.ev env=some (.sl (List.map e' l) tok))(h1:evo env lo=some lv)(h2:evo env hi=some hv)(h3:E2 0 lv=some a)(h4:E2 l.length hv=some u)(h5:m.ev env=some (.v (.int k u)))(h6:hv.isSome=true)(h0:0<=a/\a<=u/\u<=(l.length:Int))(hs:∀y,(e' y).length=size):a1i P (.sliceV size x lo hi (some m)) env h (.sl (List.map e' ((l.take u.toNat).drop a.toNat)) .full) h:=fun K hk=>by
 have h7:evo env (some m)=some (some (.v (.int k u))):=by simp only[evo,h5]
 simp only[aop,hx,h1,h2,h7,wv,a1x,h3,c4y,h4,List.length_map];refine⟨h0,fun el hel=>?_,trivial,fun hn=>(by rw[hn]at h6;cases h6),?_⟩
 ·obtain⟨y,_,rfl⟩:=List.mem_map.1 hel;exact hs y
 ·rw[<-List.map_take,<-List.map_drop];exact hk
theorem c6y{op:BinOp}{x y:G2}{a b r:Value}{c:Prop}(hx:x.ev env=some (.v a))(hy:y.ev env=some (.v b))(hp:c8u op a b=some (c,r))(hc:c):a1i P (.bin op x y) env h (.v r) h:=fun K hk=>by
 simp only[aop,hx,hy,wv,c1f,hp];exact⟨hc,hk⟩
theorem l34{x y:G2}{a b:ByteArray}(hx:x.ev env=some (.v (.string a)))(hy:y.ev env=some (.v (.string b)))(h0:((a.size+b.size:Nat):Int)<=9223372036854775807):a1i P (.bin .add x y) env h (.v (.string (a++b))) h:=c6y hx hy rfl (by omega)
theorem c91{a b:ByteArray}:(a.toList==b.toList)=decide (a=b):=by
 rw[ByteArray.toList_eq,ByteArray.toList_eq]
 by_cases h:a=b
 ·subst h;simp
 ·rw[decide_eq_false h,beq_eq_false_iff_ne];intro he;exact h (ByteArray.ext (Array.ext' he))
theorem m92{x y:G2}{a b:ByteArray}(hx:x.ev env=some (.v (.string a)))(hy:y.ev env=some (.v (.string b))):a1i P (.bin .eql x y) env h (.v (.bool (decide (a=b)))) h:=by rw[<-c91];exact c6y hx hy (c:=True) rfl trivial
theorem n6w{x y:G2}{a b:ByteArray}(hx:x.ev env=some (.v (.string a)))(hy:y.ev env=some (.v (.string b))):a1i P (.bin .neq x y) env h (.v (.bool (!decide (a=b)))) h:=by rw[<-c91];exact c6y hx hy (c:=True) rfl trivial
theorem g6w{c x y:G2}{t a b:Bool}(hc:c.ev env=some (.v (.bool t)))(hx:x.ev env=some (.v (.bool a)))(hy:y.ev env=some (.v (.bool b))):a1i P (.pick c x y) env h (.v (.bool (bif t then a else b))) h:=fun K hk=>by
 simp only[aop,hc,hx,hy,wv,b5z];cases t<;>simp_all
theorem f9w{c x y:G2}{t:Bool}{k:IntKind}{a b:Int}(hc:c.ev env=some (.v (.bool t)))(hx:x.ev env=some (.v (.int k a)))(hy:y.ev env=some (.v (.int k b))):a1i P (.pick c x y) env h (.v (.int k (bif t then a else b))) h:=fun K hk=>by
 simp only[aop,hc,hx,hy,wv,b5z];cases t<;>simp_all
theorem g51{c x y:G2}{t:Bool}{a b:ByteArray}(hc:c.ev env=some (.v (.bool t)))(hx:x.ev env=some (.v (.string a)))(hy:y.ev env=some (.v (.string b))):a1i P (.pick c x y) env h (.v (.string (bif t then a else b))) h:=fun K hk=>by
 simp only[aop,hc,hx,hy,wv,b5z];cases t<;>simp_all
theorem h4z{x y:G2}{k k':IntKind}{a b:Int}(hx:x.ev env=some (.v (.int k a)))(hy:y.ev env=some (.v (.int k' b))):a1i P (.minmax false [x,y]) env h (.v (.int k (min a b))) h:=fun K hk=>
 (k08 hx hy (by rw[show(if b<a then b else a)=min a b by omega];exact hk)).out
theorem h68{x y:G2}{k k':IntKind}{a b:Int}(hx:x.ev env=some (.v (.int k a)))(hy:y.ev env=some (.v (.int k' b))):a1i P (.minmax true [x,y]) env h (.v (.int k (max a b))) h:=fun K hk=>
 (l1x hx hy (by rw[show(if a<b then b else a)=max a b by omega];exact hk)).out
theorem c4l{e0:TypeId}{size byt id:Nat}{x y:G2}{Y:AV}{e':α->List AV}{l m:List α}(hx:x.ev env=some (.sl (List.map e' l) (.own id)))(hy:y.ev env=some Y)(hm:b7t h size Y=some (List.map e' m))(hb:h.bufs[id]? =some (l.length,size))(hs:∀y,(e' y).length=size)(h0:(l.length+m.length)*byt<=140737488355328):a1i P (.append e0 size byt x y) env h (.sl (List.map e' (l++m)) (.own id)) ⟨h.blks,h.bufs.set id ((l++m).length,size),h.globs⟩:=fun K hk=>by
 simp only[aop,hx,hy,wv];refine .inl ?_;simp only[a9z,hm,List.length_map];refine⟨fun el hel=>by obtain⟨y,_,rfl⟩:=List.mem_map.1 hel;exact hs y,fun el hel=>by obtain⟨y,_,rfl⟩:=List.mem_map.1 hel;exact hs y,hb,h0,?_⟩;rw[<-List.map_append,<-List.length_append];exact hk
theorem g9s{x:G2}{s:ByteArray}(hx:x.ev env=some (.v (.string s))):a1i P (.bytes x) env h (.sl (List.map (fun n=>[AV.v (.int .u8 n)]) (bI s)) .no) h:=fun K hk=>by
 simp only[aop,hx,wv,c7n];have e:J2 s.data.toList=List.map (fun n=>[AV.v (.int .u8 n)]) (bI s):=by simp only[J2,bI,List.map_map];rfl
 rw[e];exact hk
theorem m1t{x:G2}{l:List Int}{t:ByteArray}{tok:Tok}(hx:x.ev env=some (.sl (List.map (fun n=>[AV.v (.int .u8 n)]) l) tok))(hl:l=bI t):a1i P (.conv .str x) env h (.v (.string t)) h:=fun K hk=>by
 subst hl;simp only[aop,hx,wv,c5k];refine⟨t.data.toList,by simp only[J2,bI,List.map_map];rfl,?_⟩
 have:(⟨t.data.toList.toArray⟩:ByteArray)=t:=by
  apply ByteArray.ext;apply Array.ext';simp
 rw[this];exact hk
end
def vs(P:Program)(I:A3->Prop):Bool->List C9->Env->A3->(Env->A3->Prop)->Prop
 |_,[],env,h,K=>K env h
 |b,o::r,env,h,K=>
  (H6 env o.guard=some false/\vs P I b r (a9b env o.dst) h K)\/
  (H6 env o.guard=some true/\Q2 o.op=true/\∃av,(∀h2,I h2->c0n P o.op env h2 av)/\vs P I b r (a79 env o.dst av) h K)\/
  (H6 env o.guard=some true/\Q2 o.op=false/\c31 o=false/\∃av h',a1i P o.op env h av h'/\I h'/\vs P I false r (a79 env o.dst av) h' K)\/
  (b=true/\∃cells,o.op=.alloc cells/\o.guard=none/\vs P I b r (a79 env o.dst (.ptr h.blks.length 0)) ⟨h.blks++[some cells],h.bufs,h.globs⟩ K)
def d8x(P:Program)(I:A3->Prop)(F:Env)(hs:List A3)(j:Nat)(o:C9):Option Nat->Prop
 |some n=>∃av h1 h2,hs[n - j]? =some h1/\hs[n - j+1]? =some h2/\aop P o.op F h1 (fun a b=>a=av/\b=h2)/\∀d,o.dst=some d->get F d=some av
 |none=>∃av,(∀h2,I h2->c0n P o.op F h2 av)/\∀d,o.dst=some d->get F d=some av
def GF(F:Env)(D S:Prop):Option (Nat × Bool)->Prop
 |none=>D
 |some (t,want)=>(∃b,get F t=some (.v (.bool b))/\(b=want->D)/\(b≠want->S))\/(get F t=some (.tuple [])/\S)
def d94(P:Program)(I:A3->Prop)(F:Env)(hs:List A3)(j:Nat)(o:C9)(n:Option Nat):Prop:=
 GF F (d8x P I F hs j o n) (n=none/\∀d,o.dst=some d->get F d=some (.tuple [])) o.guard
structure g3f(P:Program)(I:A3->Prop)(l:List C9)(env F:Env)(cur h':A3)(i0:Nat)(az:List (Nat × List AV))(hs:List A3)(fl:List (Option Nat))(j:Nat):Prop where
 len:fl.length=l.length
 first:hs[0]? =some ⟨cur.blks++az.map (fun p=>some p.2),cur.bufs,cur.globs⟩
 last:∃n,hs.length=n+1/\hs[n]? =some h'
 bound:∀i n:Nat,fl[i]? =some (some n)->j<=n/\n+1<j+hs.length
 mono:∀i k a b:Nat,i<k->fl[i]? =some (some a)->fl[k]? =some (some b)->a<b
 onto:∀n:Nat,j<=n->n+1<j+hs.length->∃i:Nat,fl[i]? =some (some n)
 keep:∀t,E5 t l=false->get F t=get env t
 pos:∀(q:Nat) (p:Nat × List AV),az[q]? =some p->∃i o,p.1=i0+i/\l[i]? =some o/\o.op=.alloc p.2/\o.guard=none/\fl[i]? =some none/\∀d,o.dst=some d->get F d=some (.ptr (cur.blks.length+q) 0)
 incr:∀(q r:Nat) (p s:Nat × List AV),q<r->az[q]? =some p->az[r]? =some s->p.1<s.1
 inv:∀(m:Nat) hm,0<m->hs[m]? =some hm->I hm
 chg:∀(i n:Nat) (o:C9),fl[i]? =some (some n)->l[i]? =some o->Q2 o.op=false/\c31 o=false
 fact:∀(i:Nat) (o:C9) (n:Option Nat),l[i]? =some o->fl[i]? =some n->(∃(q:Nat) (p:Nat × List AV),az[q]? =some p/\p.1=i0+i)\/d94 P I F hs j o n
theorem c1e{F env:Env}{g:Option (Nat × Bool)}{D S:Prop}(hg:H6 env g=some true)(hl:∀t w,g=some (t,w)->get F t=get env t)(hD:D):GF F D S g:=by
 cases g with
 |none=>exact hD
 |some p=>
  obtain⟨t,want⟩:=p;simp only[H6,Option.bind_eq_some_iff]at hg;obtain⟨v,h1,h2⟩:=hg;split at h2
  ·rename_i b;simp only[Option.some.injEq,beq_iff_eq]at h2;exact .inl ⟨b,by rw[hl t want rfl];exact h1,fun _=>hD,fun hn=>absurd h2 hn⟩
  ·cases h2
  ·cases h2
theorem d0c{F env:Env}{g:Option (Nat × Bool)}{D S:Prop}(hg:H6 env g=some false)(hl:∀t w,g=some (t,w)->get F t=get env t)(hS:S):GF F D S g:=by
 cases g with
 |none=>simp[H6]at hg
 |some p=>
  obtain⟨t,want⟩:=p;simp only[H6,Option.bind_eq_some_iff]at hg;obtain⟨v,h1,h2⟩:=hg;split at h2
  ·rename_i b;simp only[Option.some.injEq,beq_eq_false_iff_ne]at h2;exact .inl ⟨b,by rw[hl t want rfl];exact h1,fun h=>absurd h h2,fun _=>hS⟩
  ·exact .inr ⟨by rw[hl t want rfl];exact h1,hS⟩
  ·cases h2
theorem b92{P:Program}{I:A3->Prop}:∀{l:List C9}{b:Bool}{env:Env}{cur:A3}{i0 j:Nat}{K:Env->A3->Prop},okq l=true->vs P I b l env cur K->∃F az hs fl h',g3f P I l env F cur h' i0 az hs fl j/\K F h'/\(b=false->az=[])
 |[],b,env,cur,i0,j,K,_,hk=>⟨env,[],[cur],[],cur,⟨rfl,by simp,⟨0,rfl,rfl⟩,fun i n hi=>by simp at hi,fun i k a b _ hi=>by simp at hi,fun n h1 h2=>by simp at h2;omega,fun _ _=>rfl,fun q p hq=>by simp at hq,fun q r p s _ hq=>by simp at hq,fun m hm h0 h1=>by cases m<;>simp at h0 h1,fun i n o hi=>by simp at hi,fun i o n hi=>by simp at hi⟩,hk,fun _=>rfl⟩
 |o::r,b,env,cur,i0,j,K,hok,hv=>by
  have hok0:=hok;simp only[okq,Bool.and_eq_true,List.all_eq_true]at hok;obtain⟨⟨hlook,hdst⟩,hokr⟩:=hok
  have hwr:∀t,E5 t (o::r)=false->o.dst≠some t/\E5 t r=false:=by
   intro t ht;simp only[E5,List.any_cons,Bool.or_eq_false_iff]at ht ⊢;exact⟨by simpa using ht.1,ht.2⟩
  have hd:∀d,o.dst=some d->E5 d r=false:=by
   intro d hd;rw[hd]at hdst;simpa using hdst
  have hl:∀(F:Env),(∀t,E5 t (o::r)=false->get F t=get env t)->∀t∈o.looks,get F t=get env t:=fun F hF t ht=>hF t (by simpa using hlook t ht)
  have hcong:∀(F:Env),(∀t,E5 t (o::r)=false->get F t=get env t)->∀(h:A3) (K:AV->A3->Prop),aop P o.op env h K->aop P o.op F h K:=by
   intro F hF h K hq;rw[<-a6d (e1:=env) (e2:=F)]
   ·exact hq
   ·intro x hx;cases x with
    |c a=>rfl
    |t n=>
     refine(hl F hF n ?_).symm;simp only[C9.looks,List.mem_append,List.mem_filterMap];exact .inl ⟨.t n,hx,rfl⟩
  have hgl:∀(F:Env),(∀t,E5 t (o::r)=false->get F t=get env t)->∀t w,o.guard=some (t,w)->get F t=get env t:=fun F hF t w hg=>hl F hF t (by simp[C9.looks,hg])
  have still:∀(env' F:Env) (az:List (Nat × List AV)) (hs:List A3) (fl:List (Option Nat)) (h':A3),g3f P I r env' F cur h' (i0+1) az hs fl j->(∀t,o.dst≠some t->get env' t=get env t)->((∀t,E5 t (o::r)=false->get F t=get env t)->d94 P I F hs j o none)->g3f P I (o::r) env F cur h' i0 az hs (none::fl) j:=by
   intro env' F az hs fl h' hp henv hf
   have hF:∀t,E5 t (o::r)=false->get F t=get env t:=fun t ht=>by
    obtain⟨h1,h2⟩:=hwr t ht;rw[hp.keep t h2,henv t h1]
   refine⟨by simp[hp.len],hp.first,hp.last,fun i n hi=>?_,fun i k a b hik hi hk=>?_,fun n h1 h2=>?_,hF,fun q p hqp=>?_,hp.incr,hp.inv,fun i n o' hi ho=>?_,fun i o' n hi hn=>?_⟩
   ·cases i with
    |zero=>simp at hi
    |succ i=>exact hp.bound i n (by simpa using hi)
   ·cases i with
    |zero=>simp at hi
    |succ i=>cases k with
     |zero=>omega
     |succ k=>exact hp.mono i k a b (by omega) (by simpa using hi) (by simpa using hk)
   ·obtain⟨i,hi⟩:=hp.onto n h1 h2;exact⟨i+1,by simpa using hi⟩
   ·obtain⟨i,o',e1,e2,e3⟩:=hp.pos q p hqp;exact⟨i+1,o',by omega,by simpa using e2,by simpa using e3⟩
   ·cases i with
    |zero=>simp at hi
    |succ i=>exact hp.chg i n o' (by simpa using hi) (by simpa using ho)
   ·cases i with
    |zero=>simp at hi hn;subst hi hn;exact .inr (hf hF)
    |succ i=>
     rcases hp.fact i o' n (by simpa using hi) (by simpa using hn) with⟨q,p,e1,e2⟩|h
     ·exact .inl ⟨q,p,e1,by omega⟩
     ·exact .inr h
  have hputF:∀(av:AV) (F:Env),(∀t,E5 t r=false->get F t=get (a79 env o.dst av) t)->∀d,o.dst=some d->get F d=some av:=fun av F hF d hd'=>by rw[hF d (hd d hd'),I2,if_pos hd']
  rcases hv with⟨hg,hv⟩|⟨hg,hq,av,ha,hv⟩|⟨hg,hq,hnew,av,h1,ha,hI,hv⟩|⟨hb,cells,hop,hgd,hv⟩
  ·obtain⟨F,az,hs,fl,h',hp,hk,has⟩:=b92 (i0:=i0+1) (j:=j) hokr hv;refine⟨F,az,hs,none::fl,h',still _ F az hs fl h' hp (fun t ht=>by rw[M0,if_neg ht]) fun hF=>?_,hk,has⟩;exact d0c hg (hgl F hF) ⟨rfl,fun d hd'=>by rw[hp.keep d (hd d hd'),M0,if_pos hd']⟩
  ·obtain⟨F,az,hs,fl,h',hp,hk,has⟩:=b92 (i0:=i0+1) (j:=j) hokr hv;refine⟨F,az,hs,none::fl,h',still _ F az hs fl h' hp (fun t ht=>by rw[I2,if_neg ht]) fun hF=>?_,hk,has⟩;exact c1e hg (hgl F hF) ⟨av,fun h2 hi=>hcong F hF h2 _ (ha h2 hi),hputF av F hp.keep⟩
  ·obtain⟨F,az,hs,fl,h',hp,hk,has⟩:=b92 (i0:=i0+1) (j:=j+1) hokr hv;have has0:=has rfl;subst has0
   have hF:∀t,E5 t (o::r)=false->get F t=get env t:=fun t ht=>by
    obtain⟨g1,g2⟩:=hwr t ht;rw[hp.keep t g2,I2,if_neg g1]
   have hfirst:hs[0]? =some h1:=by rw[hp.first];simp
   obtain⟨nl,hnl,hlast⟩:=hp.last;refine⟨F,[],cur::hs,some j::fl,h',⟨by simp[hp.len],by simp,⟨nl+1,by simp[hnl],by simpa using hlast⟩,fun i n hi=>?_,fun i k a b hik hi hk=>?_,fun n h1 h2=>?_,hF,fun q p hqp=>by simp at hqp,fun q r p s _ hqp=>by simp at hqp,fun m hm h0 hmm=>?_,fun i n o' hi ho=>?_,fun i o' n hi hn=>?_⟩,hk,fun _=>rfl⟩
   ·cases i with
    |zero=>simp at hi;subst hi;exact⟨Nat.le_refl _,by simp;omega⟩
    |succ i=>have:=hp.bound i n (by simpa using hi);simp;omega
   ·cases i with
    |zero=>
     simp at hi;cases k with
     |zero=>omega
     |succ k=>have:=(hp.bound k b (by simpa using hk)).1;omega
    |succ i=>cases k with
     |zero=>omega
     |succ k=>exact hp.mono i k a b (by omega) (by simpa using hi) (by simpa using hk)
   ·by_cases hnj:n=j
    ·subst hnj;exact⟨0,rfl⟩
    ·obtain⟨i,hi⟩:=hp.onto n (by omega) (by simp at h2;omega);exact⟨i+1,by simpa using hi⟩
   ·cases m with
    |zero=>omega
    |succ m=>
     cases m with
     |zero=>simp only[Nat.zero_add,List.getElem?_cons_succ]at hmm;rw[hfirst]at hmm;cases hmm;exact hI
     |succ m=>exact hp.inv (m+1) hm (by omega) (by simpa using hmm)
   ·cases i with
    |zero=>simp at hi ho;subst ho;exact⟨hq,hnew⟩
    |succ i=>exact hp.chg i n o' (by simpa using hi) (by simpa using ho)
   ·cases i with
    |zero=>
     simp at hi hn;subst hi hn;refine .inr (c1e hg (hgl F hF) ⟨av,cur,h1,by simp,by simpa using hfirst,hcong F hF _ _ (ha _ ⟨rfl,rfl⟩),hputF av F hp.keep⟩)
    |succ i=>
     rcases hp.fact i o' n (by simpa using hi) (by simpa using hn) with⟨q,p,e1,e2⟩|h
     ·simp at e1
     ·refine .inr ?_
      have up:d8x P I F hs (j+1) o' n->d8x P I F (cur::hs) j o' n:=by
       intro hdo;cases n with
       |none=>exact hdo
       |some n=>
        have hb:=(hp.bound i n (by simpa using hn)).1;obtain⟨av',g1,g2,e1,e2,e3⟩:=hdo;have q1:n - j=(n - (j+1))+1:=by omega
        exact⟨av',g1,g2,by rw[q1];simpa using e1,by rw[q1];simpa using e2,e3⟩
      unfold d94 at h ⊢;cases hgd:o'.guard with
      |none=>rw[hgd]at h;exact up h
      |some g=>
       rw[hgd]at h;rcases h with⟨b',q1,q2,q3⟩|h
       ·exact .inl ⟨b',q1,fun hb'=>up (q2 hb'),q3⟩
       ·exact .inr h
  ·obtain⟨F,az,hs,fl,h',hp,hk,has⟩:=b92 (i0:=i0+1) (j:=j) hokr hv
   have hF:∀t,E5 t (o::r)=false->get F t=get env t:=fun t ht=>by
    obtain⟨g1,g2⟩:=hwr t ht;rw[hp.keep t g2,I2,if_neg g1]
   refine⟨F,(i0,cells)::az,hs,none::fl,h',⟨by simp[hp.len],by rw[hp.first];simp,hp.last,fun i n hi=>?_,fun i k a b hik hi hk=>?_,fun n h1 h2=>?_,hF,fun q p hqp=>?_,fun q s p t hqs hqp hst=>?_,hp.inv,fun i n o' hi ho=>?_,fun i o' n hi hn=>?_⟩,hk,fun h=>by rw[hb]at h;cases h⟩
   ·cases i with
    |zero=>simp at hi
    |succ i=>exact hp.bound i n (by simpa using hi)
   ·cases i with
    |zero=>simp at hi
    |succ i=>cases k with
     |zero=>omega
     |succ k=>exact hp.mono i k a b (by omega) (by simpa using hi) (by simpa using hk)
   ·obtain⟨i,hi⟩:=hp.onto n h1 h2;exact⟨i+1,by simpa using hi⟩
   ·cases q with
    |zero=>
     simp at hqp;subst hqp;refine⟨0,o,rfl,rfl,hop,hgd,rfl,fun d hd'=>?_⟩;rw[hputF _ F hp.keep d hd'];simp
    |succ q=>
     obtain⟨i,o',e1,e2,e3,e4,e5,e6⟩:=hp.pos q p (by simpa using hqp);refine⟨i+1,o',by omega,by simpa using e2,e3,e4,by simpa using e5,fun d hd'=>?_⟩;rw[e6 d hd'];simp;omega
   ·cases s with
    |zero=>omega
    |succ s=>
     obtain⟨i,o',e1,_⟩:=hp.pos s t (by simpa using hst);cases q with
     |zero=>simp at hqp;subst hqp;simp;omega
     |succ q=>exact hp.incr q s p t (by omega) (by simpa using hqp) (by simpa using hst)
   ·cases i with
    |zero=>simp at hi
    |succ i=>exact hp.chg i n o' (by simpa using hi) (by simpa using ho)
   ·cases i with
    |zero=>simp at hi;subst hi;exact .inl ⟨0,_,rfl,by simp⟩
    |succ i=>
     rcases hp.fact i o' n (by simpa using hi) (by simpa using hn) with⟨q,p,e1,e2⟩|h
     ·exact .inl ⟨q+1,p,by simpa using e1,by omega⟩
     ·exact .inr h
def c67(ord:List (List Nat))(al:List C9):Bool:=
 (List.range al.length).all fun k=>match al[k]? with
  |some o=> !a9r o||(List.range al.length).all fun i=>match al[i]? with
   |some p=>(!(a9r p&&decide (i<k))||(ord.getD k []).contains i)&&(!c31 p||(ord.getD k []).contains i)
   |none=>true
  |none=>true
theorem c4j{ord:List (List Nat)}{al:List C9}(h:c67 ord al=true){k i:Nat}{o p:C9}(hk:al[k]? =some o)(hi:al[i]? =some p)(hc:a9r o=true):
  (a9r p=true->i<k->i∈ord.getD k [])/\(c31 p=true->i∈ord.getD k []):=by
 simp only[c67,List.all_eq_true,List.mem_range]at h;have h1:=h k (List.getElem?_eq_some_iff.1 hk).1;rw[hk]at h1;simp only[hc,Bool.not_true,Bool.false_or,List.all_eq_true,List.mem_range]at h1;have h2:=h1 i (List.getElem?_eq_some_iff.1 hi).1;rw[hi]at h2;simp only[Bool.and_eq_true,Bool.or_eq_true,Bool.not_eq_true',Bool.and_eq_false_iff,decide_eq_false_iff_not,List.contains_iff_mem]at h2;refine⟨fun a b=>?_,fun a=>?_⟩
 ·rcases h2.1 with(h3|h3)|h3
  ·rw[a]at h3;cases h3
  ·exact absurd b h3
  ·exact h3
 ·rcases h2.2 with h3|h3
  ·rw[a]at h3;cases h3
  ·exact h3
theorem h08{P:Program}{I:A3->Prop}{ord:List (List Nat)}{al:List C9}{env:Env}{h:A3}{K:Env->A3->Prop}(hok:okq al=true)(hst:c67 ord al=true)(hI:∀h2:A3,(∃ext,h2.blks=h.blks++ext)->h2.bufs=h.bufs->h2.globs=h.globs->I h2)(hv:vs P I true al env h K):
  ∃F h' az hs fl,d3t P ord al env F h h' az hs fl/\K F h':=by
 obtain⟨F,az,hs,fl,h',ps,hk,_⟩:=b92 (i0:=0) (j:=0) hok hv;refine⟨F,h',az,hs,fl,?_,hk⟩;obtain⟨nl,hnl,hlast⟩:=ps.last
 have hget:∀k n:Nat,fl[k]? =some (some n)->∃o,al[k]? =some o/\a9r o=true:=by
  intro k n hkn;have hkl:k<al.length:=by rw[<-ps.len];exact(List.getElem?_eq_some_iff.1 hkn).1
  have ho:al[k]? =some al[k]:=List.getElem?_eq_getElem hkl;obtain⟨h1,h2⟩:=ps.chg k n _ hkn ho;exact⟨_,ho,by unfold a9r;rw[h1,h2];rfl⟩
 have hpos:∀(q:Nat) (p:Nat × List AV),az[q]? =some p->∃o,al[p.1]? =some o/\c31 o=true/\o.op=.alloc p.2/\o.guard=none/\fl[p.1]? =some none/\∀d,o.dst=some d->get F d=some (.ptr (h.blks.length+q) 0):=by
  intro q p hqp;obtain⟨i,o,e1,e2,e3,e4,e5,e6⟩:=ps.pos q p hqp;have:p.1=i:=by omega
  rw[this];exact⟨o,e2,by unfold c31;rw[e3,e4],e3,e4,e5,e6⟩
 refine⟨ps.len,fun i k a b hik hi hk=>⟨ps.mono i k a b hik hi hk,?_⟩,fun j hj=>ps.onto j (by omega) (by omega),?_,ps.last,fun i n hi=>by have:=ps.bound i n hi;omega,ps.keep,fun q p hqp=>?_,fun q r p s hqp hrs hps=>?_,fun k n hk p hp=>?_,fun i o n hi hn=>?_⟩
 ·obtain⟨o1,h1,h2⟩:=hget i a hi;obtain⟨o2,h3,h4⟩:=hget k b hk;exact(c4j hst h3 h1 h4).1 h2 hik
 ·rw[ps.first];simp[hA]
 ·obtain⟨o,e1,_,e2⟩:=hpos q p hqp;exact⟨o,e1,e2⟩
 ·rcases Nat.lt_trichotomy q r with hlt|heq|hgt
  ·have:=ps.incr q r p s hlt hqp hrs;omega
  ·exact heq
  ·have:=ps.incr r q s p hgt hrs hqp;omega
 ·obtain⟨o2,h3,h4⟩:=hget k n hk;obtain⟨q,hq⟩:=List.mem_iff_getElem?.1 hp;obtain⟨o,e1,e2,_⟩:=hpos q p hq;exact(c4j hst h3 e1 h4).2 e2
 ·rcases ps.fact i o n hi hn with⟨q,p,e1,e2⟩|hf
  ·exact .inl ⟨q,p,e1,by omega⟩
  right
  have conv:d8x P I F hs 0 o n->d3c P F h az hs ord fl i o n:=by
   intro hd;cases n with
   |some n=>obtain⟨av,h1,h2,e1,e2,e3⟩:=hd;exact⟨av,h1,h2,by simpa using e1,by simpa using e2,e3⟩
   |none=>
    obtain⟨av,hqa,hfd⟩:=hd;refine⟨av,0,hs.length - 1,by omega,fun j lst hj _ _ h3=>hqa hj ?_,fun k n _ h=>by omega,.inl (by omega),hfd⟩;cases j with
    |zero=>
     have:hA h az lst=hj:=Option.some.inj h3;subst this;exact hI _ ⟨_,rfl⟩ rfl rfl
    |succ j=>exact ps.inv (j+1) hj (by omega) h3
  unfold d6m;unfold d94 at hf;cases hgd:o.guard with
  |none=>rw[hgd]at hf;simp only[hgd];exact conv hf
  |some g=>
   obtain⟨t,want⟩:=g;rw[hgd]at hf;simp only[hgd];rcases hf with⟨b,h1,h2,h3⟩|hf
   ·exact .inl ⟨b,h1,fun hb=>conv (h2 hb),h3⟩
   ·exact .inr hf
def InS(S:List (Nat × List AV))(gl:List (Nat × List AV))(h:A3):Prop:=(∀b c,(b,c)∈S->h.blks[b]? =some (some c))/\h.globs=gl
def inS(S:List (Nat × List AV))(h:A3):List (Option (Option (List AV))):=S.map fun p=>h.blks[p.1]?
theorem e2t{S gl:List (Nat × List AV)}{h:A3}(h1:inS S h=S.map fun p=>some (some p.2))(h2:h.globs=gl):InS S gl h:=by
 refine⟨fun b c hbc=>?_,h2⟩;obtain⟨i,hi⟩:=List.mem_iff_getElem?.1 hbc;have:=congrArg (fun l=>l[i]?) h1;simpa[inS,List.getElem?_map,hi]using this
def Sp(P:Program)(S gl:List (Nat × List AV))(b:Bool)(L:List C9)(k:Nat)(env:Env)(h:A3)(K:Env->A3->Prop):Prop:=vs P (InS S gl) b (L.drop k) env h K
def c77:Nat->List (Nat × List AV)->List (Option (List AV))
 |0,_=>[]
 |n+1,S=>c77 n S++[(S.find? fun p=>p.1==n).map (·.2)]
theorem b7f:∀(n:Nat) (S:List (Nat × List AV)),(c77 n S).length=n
 |0,_=>rfl
 |n+1,S=>by simp[c77,b7f n S]
theorem c2j:∀(n:Nat) (S:List (Nat × List AV)) (k:Nat) (c:List AV),(c77 n S)[k]? =some (some c)->(k,c)∈S
 |0,_,k,c,h=>by simp[c77]at h
 |n+1,S,k,c,h=>by
  by_cases hk:k<n
  ·refine c2j n S k c ?_;rw[c77,List.getElem?_append_left (by rw[b7f];exact hk)]at h;exact h
  ·rw[c77,List.getElem?_append_right (by rw[b7f];omega),b7f]at h
   by_cases he:k=n
   ·subst he;simp only[Nat.sub_self,List.getElem?_cons_zero,Option.some.injEq,Option.map_eq_some_iff]at h;obtain⟨p,h1,rfl⟩:=h;have h2:=List.find?_some h1;have h3:=List.mem_of_find?_eq_some h1;have:p.1=k:=by simpa using h2
    subst this;exact h3
   ·rw[List.getElem?_eq_none (by simp;omega)]at h;cases h
theorem c6p{S gl:List (Nat × List AV)}{n:Nat}{h:A3}(hi:InS S gl h){m:Option Nat}{p a:AV}(hl:a52 ⟨c77 n S,[],gl⟩ m p=some a):a52 h m p=some a:=by
 have hp:∀q,V4 ⟨c77 n S,[],gl⟩ p=some q->V4 h p=some q:=by
  intro q hq;cases p with
  |ptr k off=>
   simp only[V4]at hq ⊢;split at hq
   ·rename_i cells hc;rw[hi.1 k cells (c2j n S k cells hc)];exact hq
   ·cases hq
  |glob k=>simp only[V4]at hq ⊢;rw[hi.2];exact hq
  |elt c o=>exact hq
  |_=>simp[V4]at hq
 unfold a52 at hl ⊢;cases hq:V4 ⟨c77 n S,[],gl⟩ p with
 |none=>rw[hq]at hl;cases hl
 |some q=>rw[hq]at hl;rw[hp q hq];exact hl
theorem d3g{P:Program}{n:Nat}{S gl:List (Nat × List AV)}{o:AOp}{env:Env}{a:AV}{h1:A3}(hq:Q2 o=true)(he:b8k false noC o env ⟨c77 n S,[],gl⟩=some (a,h1)):∀h2,InS S gl h2->c0n P o env h2 a:=by
 intro h2 hi;have hsame:h1=⟨c77 n S,[],gl⟩:=a6i (fun f args h a h' he=>by cases he) hq he;subst hsame
 by_cases hp:c1g o=true
 ·exact b3t hp (a7b (K:=fun x y=>x=a/\y=_) e4u he ⟨rfl,rfl⟩)
 ·cases o<;>first|(exact absurd rfl hp)|(cases hq;done)|skip
  case load m x=>
   simp only[b8k,Option.bind_eq_some_iff]at he;obtain⟨p,h1,h3⟩:=he;obtain⟨h4,_⟩:=C1 h3;show wv (x.ev env) _;rw[h1];exact a9n (K:=fun x=>x=a/\h2=h2) (c6p hi h4) ⟨rfl,rfl⟩
  case call f args=>
   simp only[b8k,Option.bind_eq_some_iff]at he;obtain⟨fv,h1,l,h3,h4⟩:=he;split at h4<;>cases h4
  case idxA l s x i=>
   simp only[b8k,Option.bind_eq_some_iff]at he;obtain⟨x',h1,i',h3,h4⟩:=he;obtain⟨h5,_⟩:=C1 h4;show wv (x.ev env) _;rw[h1];show wv (i.ev env) _;rw[h3];exact c3s (K:=fun x=>x=a/\h2=h2) (by rw[b5u (h:=⟨c77 n S,[],gl⟩) hi.2];exact h5) ⟨rfl,rfl⟩
  case lookup ok z x k=>
   simp only[b8k,Option.bind_eq_some_iff]at he;obtain⟨x',h1,i',h3,h4⟩:=he;obtain⟨h5,_⟩:=C1 h4;show wv (x.ev env) _;rw[h1];show wv (k.ev env) _;rw[h3];exact c2w (K:=fun x=>x=a/\h2=h2) (c84 (fun k c hc=>hi.1 k c (c2j n S k c hc)) h5) ⟨rfl,rfl⟩
section
variable {P:Program}{h h':A3}{env:Env}{N:Nat}{Q:Exit->Env->A3->Prop}{K:Env->A3->Prop}{L:List C9}{k:Nat}{S gl:List (Nat × List AV)}{b:Bool}
theorem b9z{I:A3->Prop}{K:Env->A3->Prop}(hK:b83 K):∀{l:List C9}{b:Bool}{e env:Env}{h:A3},b32 e env->vs P I b l e h K->vs P I b l env h K
 |[],b,e,env,h,he,hv=>hK e env h he hv
 |o::r,b,e,env,h,he,hv=>by
  rcases hv with⟨hg,hv⟩|⟨hg,hq,av,ha,hv⟩|⟨hg,hq,hn,av,h',ha,hi,hv⟩|⟨hb,cells,ho,hg,hv⟩
  ·exact .inl ⟨he.guard hg,b9z hK (he.drop _) hv⟩
  ·exact .inr (.inl ⟨he.guard hg,hq,av,fun h2 hi=>c3q he (ha h2 hi),b9z hK (he.put _ _) hv⟩)
  ·exact .inr (.inr (.inl ⟨he.guard hg,hq,hn,av,h',ha.less he,hi,b9z hK (he.put _ _) hv⟩))
  ·exact .inr (.inr (.inr ⟨hb,cells,ho,hg,b9z hK (he.put _ _) hv⟩))
theorem d8t(S:List (Nat × List AV)){ord:List (List Nat)}{al tl:List C9}(hok:okq al=true)(hst:c67 (clo ord) al=true)(hS:inS S h=S.map fun p=>some (some p.2))(hv:Sp P S h.globs true al 0 env h fun F h'=>vd P tl F h' fun env' h'=>Q .normal env' h'):C P N (.drawn ord al tl) Q env h:=by
 have hv':vs P (InS S h.globs) true al env h fun F h'=>vd P tl F h' fun env' h'=>Q .normal env' h':=hv
 obtain⟨F,h',az,hs,fl,hn,hk⟩:=h08 hok hst (fun h2 ⟨ext,he⟩ _ hgl=>⟨fun b c hbc=>by
  have:=(e2t hS rfl:InS S h.globs h).1 b c hbc;rw[he,List.getElem?_append_left (List.getElem?_eq_some_iff.1 this).1];exact this,hgl⟩) hv'
 exact⟨b7v hn (b7r hk)⟩
end
mutual
def low(m:List Bool)(n:Nat):AV->Bool
 |.v _=>true
 |.ptr k _=>m.getD k false
 |.elt cells _=>lowL m n cells
 |.nil=>true
 |.sl els tok=>(match tok with|.own id=>decide (id<n)|_=>true)&&lowLL m n els
 |.agg cells=>lowL m n cells
 |.tuple vs=>lowL m n vs
 |.iface _ x=>low m n x
 |.clo _ first captured=>lowL m n first&&lowL m n captured
 |.glob _=>true
 |.row k _ _ _ _=>m.getD k false
 |.it _ _=>true
 |.mp k=>m.getD k false
 |.bb k els _=>(match k with|.nil=>true|.own id|.data id|.raw id _=>decide (id<n))&&lowLL m n els
 |.ps k _=>m.getD k false
def lowL(m:List Bool)(n:Nat):List AV->Bool
 |[]=>true
 |a::r=>low m n a&&lowL m n r
def lowLL(m:List Bool)(n:Nat):List (List AV)->Bool
 |[]=>true
 |a::r=>lowL m n a&&lowLL m n r
end
mutual
theorem c4h(m:List Bool)(n:Nat):∀a,plain a=true->low m n a=true
 |.v _,_=>rfl
 |.ptr _ _,h=>by cases h
 |.elt cells _,h=>by simp only[plain,low]at h ⊢;exact lowL_plain m n cells h
 |.nil,_=>rfl
 |.sl els tok,h=>by
  simp only[plain,low,Bool.and_eq_true]at h ⊢;refine⟨?_,lowLL_plain m n els h.2⟩;cases tok<;>first|rfl|(simp at h)
 |.agg cells,h=>by simp only[plain,low]at h ⊢;exact lowL_plain m n cells h
 |.tuple cells,h=>by simp only[plain,low]at h ⊢;exact lowL_plain m n cells h
 |.iface _ x,h=>by simp only[plain,low]at h ⊢;exact c4h m n x h
 |.clo _ a b,h=>by simp only[plain,low,Bool.and_eq_true]at h ⊢;exact⟨lowL_plain m n a h.1,lowL_plain m n b h.2⟩
 |.glob _,_=>rfl
 |.row _ _ _ _ _,h=>by cases h
 |.it _ _,h=>by cases h
theorem lowL_plain(m:List Bool)(n:Nat):∀l,plainL l=true->lowL m n l=true
 |[],_=>rfl
 |a::r,h=>by simp only[plainL,lowL,Bool.and_eq_true]at h ⊢;exact⟨c4h m n a h.1,lowL_plain m n r h.2⟩
theorem lowLL_plain(m:List Bool)(n:Nat):∀l,plainLL l=true->lowLL m n l=true
 |[],_=>rfl
 |a::r,h=>by simp only[plainLL,lowLL,Bool.and_eq_true]at h ⊢;exact⟨lowL_plain m n a h.1,lowLL_plain m n r h.2⟩
end
theorem a2b{m:List Bool}{n:Nat}:∀{l:List AV},lowL m n l=true->∀(i:Nat) (av:AV),l[i]? =some av->low m n av=true
 |[],_,i,av,h=>by simp at h
 |a::r,hp,i,av,h=>by
  simp only[lowL,Bool.and_eq_true]at hp;cases i with
  |zero=>simp at h;subst h;exact hp.1
  |succ i=>exact a2b hp.2 i av (by simpa using h)
theorem b8m{m:List Bool}{n:Nat}:∀{l:List (List AV)},lowLL m n l=true->∀(i:Nat) (el:List AV),l[i]? =some el->lowL m n el=true
 |[],_,i,av,h=>by simp at h
 |a::r,hp,i,av,h=>by
  simp only[lowLL,Bool.and_eq_true]at hp;cases i with
  |zero=>simp at h;subst h;exact hp.1
  |succ i=>exact b8m hp.2 i av (by simpa using h)
def Sg.cut(σ:Sg)(m:List Bool)(n:Nat):Sg:={σ with blk:=fun k=>if m.getD k false=true then σ.blk k else none,buf:=fun id=>if id<n then σ.buf id else none}
theorem c7k{σ:Sg}{m:List Bool}{n b o:Nat}(h:(σ.cut m n).own b o):σ.own b o:=by
 rcases h with⟨k,hk⟩|⟨id,e,he,hs⟩
 ·simp only[Sg.cut]at hk;split at hk
  ·exact .inl ⟨k,hk⟩
  ·cases hk
 ·simp only[Sg.cut]at he;split at he
  ·exact .inr ⟨id,e,he,hs⟩
  ·cases he
theorem c2v{σ:Sg}{m:List Bool}{n b o:Nat}(h:(σ.cut m n).open_ b o):σ.open_ b o:=h.elim .inl fun h=>.inr (c7k h)
theorem Rel.cut{σ:Sg}{m:List Bool}{n:Nat}{av:AV}{x:Value}(hr:Rel σ av x):low m n av=true->Rel (σ.cut m n) av x:=by
 induction hr with
 |v x h=>intro _;exact .v x h
 |ptr k off b h=>intro hl;exact .ptr k off b (by simp only[Sg.cut];rw[if_pos (by simpa[low]using hl)];exact h)
 |elt cells off b o xs hc hr ih=>
  intro hl;exact .elt cells off b o xs (fun i av hi=>⟨(hc i av hi).1,fun h=>(hc i av hi).2.1 (c2v h),(hc i av hi).2.2⟩) fun i av hi=>ih i av hi (a2b (by simpa[low]using hl) i av hi)
 |nil=>intro _;exact .nil
 |glob k=>intro _;exact .glob k
 |mp k b h=>intro hl;exact .mp k b (by simp only[Sg.cut];rw[if_pos (by simpa[low]using hl)];exact h)
 |ps k t b p h hs hp=>intro hl;exact .ps k t b p (by simp only[Sg.cut];rw[if_pos (by simpa[low]using hl)];exact h) hs hp
 |bbn u=>intro _;exact .bbn u
 |bbo id els u a c cap _ hu ih=>intro hl;exact .bbo id els u a c cap (ih (by simpa[low]using hl)) hu
 |bbd id els u a p c cap _ hu hp ih=>intro hl;exact .bbd id els u a p c cap (ih (by simpa[low]using hl)) hu hp
 |bbr id c u b cap hn he hu=>
  intro hl;obtain⟨e,h1,h2⟩:=he;exact .bbr id c u b cap hn ⟨e,by simp only[Sg.cut];rw[if_pos (by simpa[low,lowLL]using hl)];exact h1,h2⟩ hu
 |row k off size len capm b cap h hc hm hx=>intro hl;exact .row k off size len capm b cap (by simp only[Sg.cut];rw[if_pos (by simpa[low]using hl)];exact h) hc hm hx
 |sl0 tok ht=>
  intro hl;refine .sl0 tok ?_;cases tok with
  |own id=>
   obtain⟨e,h1,h2⟩:=ht;refine⟨e,?_,h2⟩;simp only[low,Bool.and_eq_true,decide_eq_true_eq]at hl;simp only[Sg.cut];rw[if_pos hl.1];exact h1
  |_=>exact ht
 |slx tok a cap ht hc=>
  intro hl;refine .slx tok a cap ?_ hc;cases tok with
  |own id=>
   obtain⟨e,h1,h2⟩:=ht;refine⟨e,?_,h2⟩;simp only[low,Bool.and_eq_true,decide_eq_true_eq]at hl;simp only[Sg.cut];rw[if_pos hl.1];exact h1
  |_=>exact ht
 |sl els tok b o cap size xs hs hcap ht hz hc hr ih=>
  intro hl;simp only[low,Bool.and_eq_true]at hl;refine .sl els tok b o cap size xs hs hcap ?_ (fun id e h1 h2=>?_) (fun i el hi j av hj=>⟨(hc i el hi j av hj).1,fun h=>(hc i el hi j av hj).2.1 (c2v h),(hc i el hi j av hj).2.2⟩) fun i el hi j av hj=>ih i el hi j av hj (a2b (b8m hl.2 i el hi) j av hj)
  ·cases tok with
   |own id=>
    obtain⟨e,h1,h2⟩:=ht;refine⟨e,?_,h2⟩;simp only[Sg.cut];rw[if_pos (by simpa using hl.1)];exact h1
   |_=>exact ht
  ·simp only[Sg.cut]at h2;split at h2
   ·exact hz id e h1 h2
   ·cases h2
 |agg cells xs hn hc x hx hr ih=>intro hl;exact .agg cells xs hn hc x hx fun i av hi=>ih i av hi (a2b (by simpa[low]using hl) i av hi)
 |tuple vs xs hn x hx hr ih=>intro hl;exact .tuple vs xs hn x hx fun i av hi=>ih i av hi (a2b (by simpa[low]using hl) i av hi)
 |iface t av x h ih=>intro hl;exact .iface t av x (ih (by simpa[low]using hl))
 |clo fn first captured fs cs hn hm x y hx hy hr hq ih1 ih2=>
  intro hl;simp only[low,Bool.and_eq_true]at hl;exact .clo fn first captured fs cs hn hm x y hx hy (fun i av hi=>ih1 i av hi (a2b hl.1 i av hi)) fun i av hi=>ih2 i av hi (a2b hl.2 i av hi)
theorem D4.cut{σ:Sg}{m:List Bool}{n:Nat}{cells:List AV}{vs:List Value}(hc:D4 σ cells vs)(hl:lowL m n cells=true):D4 (σ.cut m n) cells vs:=by
 refine⟨hc.1,fun i av hi=>?_⟩;obtain⟨h1,x,h2,h3⟩:=hc.2 i av hi;exact⟨h1,x,h2,h3.cut (a2b hl i av hi)⟩
def a55(m:List Bool)(n:Nat):Env->Bool
 |[]=>true
 |(_,a)::e=>low m n a&&a55 m n e
def a37(m:List Bool)(n:Nat):List (Option (List AV))->Bool
 |[]=>true
 |some c::r=>lowL m n c&&a37 m n r
 |none::r=>a37 m n r
theorem b61{m:List Bool}{n:Nat}:∀{e:Env}{t:Nat}{a:AV},a55 m n e=true->get e t=some a->low m n a=true
 |[],_,_,_,h=>by cases h
 |(u,b)::e,t,a,hl,h=>by
  simp only[a55,Bool.and_eq_true]at hl;simp only[get]at h;split at h
  ·cases h;exact hl.1
  ·exact b61 hl.2 h
theorem c8c{m:List Bool}{n:Nat}:∀{l:List (Option (List AV))}{i:Nat}{c:List AV},a37 m n l=true->l[i]? =some (some c)->lowL m n c=true
 |[],_,_,_,h=>by simp at h
 |o::r,i,c,hl,h=>by
  cases i with
  |zero=>simp at h;subst h;simp only[a37,Bool.and_eq_true]at hl;exact hl.1
  |succ i=>
   refine c8c (l:=r) (i:=i) ?_ (by simpa using h);cases o with
   |none=>exact hl
   |some c'=>simp only[a37,Bool.and_eq_true]at hl;exact hl.2
def X5:List Bool->List (Option (List AV))->List (Option (List AV))
 |b::m,x::l=>(if b=true then x else none)::X5 m l
 |_,_=>[]
theorem b3e:∀{m:List Bool}{l:List (Option (List AV))}{k:Nat}{c:List AV},(X5 m l)[k]? =some (some c)->m.getD k false=true/\l[k]? =some (some c)
 |[],l,k,c,h=>by simp[X5]at h
 |b::m,[],k,c,h=>by simp[X5]at h
 |b::m,x::l,k,c,h=>by
  cases k with
  |zero=>
   simp only[X5,List.getElem?_cons_zero,Option.some.injEq]at h;split at h
   ·rename_i hb;subst h;exact⟨hb,rfl⟩
   ·cases h
  |succ k=>exact b3e (m:=m) (l:=l) (k:=k) (by simpa[X5]using h)
theorem c8a:∀{m:List Bool}{l:List (Option (List AV))}{k:Nat}{c:List AV},m.getD k false=true->l[k]? =some (some c)->(X5 m l)[k]? =some (some c)
 |[],l,k,c,h,_=>by simp at h
 |b::m,[],k,c,_,h=>by simp at h
 |b::m,x::l,k,c,h1,h2=>by
  cases k with
  |zero=>
   have h1':b=true:=h1;simp only[List.getElem?_cons_zero,Option.some.injEq]at h2;simp[X5,h1',h2]
  |succ k=>simpa[X5]using c8a (m:=m) (l:=l) (k:=k) (by simpa using h1) (by simpa using h2)
theorem c8r.cut{σ:Sg}{m:List Bool}{n:Nat}:∀{es:List MapEntry}{l:List AV},c8r σ es l->lowL m n l=true->c8r (σ.cut m n) es l
 |[],[],_,_=>trivial
 |[],_::_,hc,_=>hc.elim
 |_::_,[],hc,_=>hc.elim
 |_::_,_::_,⟨⟨k,v,h1,h2,h3⟩,hc⟩,hl=>by
  subst h1;simp only[lowL,low,Bool.and_eq_true,Bool.and_true]at hl;exact⟨⟨k,v,rfl,h2.cut hl.1.1,h3.cut hl.1.2⟩,hc.cut hl.2⟩
theorem Inv.cut{σ:Sg}{h:A3}(hi:Inv h σ)(m:List Bool)(n:Nat)(hb:a37 m n (X5 m h.blks)=true)(hg:J8 h.globs=true):Inv ⟨X5 m h.blks,h.bufs.take n,h.globs⟩ (σ.cut m n):=by
 have hblk:∀{k b:Nat},(σ.cut m n).blk k=some b->m.getD k false=true/\σ.blk k=some b:=by
  intro k b hk;simp only[Sg.cut]at hk;split at hk
  ·rename_i h1;exact⟨h1,hk⟩
  ·cases hk
 have hbuf:∀{k:Nat}{e:Buf},(σ.cut m n).buf k=some e->k<n/\σ.buf k=some e:=by
  intro k b hk;simp only[Sg.cut]at hk;split at hk
  ·rename_i h1;exact⟨h1,hk⟩
  ·cases hk
 refine⟨fun k cells hk=>?_,fun k b hk=>?_,fun k l b c c' hk hl hc hc' h1 h2=>?_,fun id c hc=>?_,fun id e he=>?_,fun id e he=>hi.bufle id e (hbuf he).2,fun id e b o he hs=>hi.bufat id e b o (hbuf he).2 hs,fun id e b o he hs=>hi.bufun id e b o (hbuf he).2 hs,fun id e b o he hs=>hi.buflt id e b o (hbuf he).2 hs,fun i j e f b o he hf h1 h2=>hi.bufinj i j e f b o (hbuf he).2 (hbuf hf).2 h1 h2,fun id e k b o he hs hk=>hi.bufblk id e k b o (hbuf he).2 hs (hblk hk).2,fun b o ho=>⟨(hi.outer b o ho).1,fun h=>(hi.outer b o ho).2 (c7k h)⟩,fun g cells hgl=>?_⟩
 ·obtain⟨h1,h2⟩:=b3e hk;obtain⟨b,h3,h4⟩:=hi.blk k cells h2;refine⟨b,by simp only[Sg.cut];rw[if_pos h1];exact h3,?_⟩;have hlow:=c8c hb hk;cases h4 with
  |cells _ cs rest elem h5 h6=>exact .cells cells cs rest elem h5 (h6.cut hlow)
  |it s p h5=>exact .it s p h5
  |map es clock l h5 h6=>exact .map es clock l h5 (h6.cut (by simpa[lowL,low]using hlow))
 ·obtain⟨h1,h2⟩:=hblk hk;obtain⟨c,h3⟩:=hi.dom k b h2;exact⟨c,c8a h1 h3⟩
 ·exact hi.inj k l b c c' (b3e hk).2 (b3e hl).2 hc hc' (hblk h1).2 (hblk h2).2
 ·rw[List.getElem?_take]at hc;split at hc
  ·rename_i h1;obtain⟨e,h2,h3⟩:=hi.buf id c hc;exact⟨e,by simp only[Sg.cut];rw[if_pos h1];exact h2,h3⟩
  ·cases hc
 ·obtain⟨h1,h2⟩:=hbuf he;rw[List.getElem?_take,if_pos h1];exact hi.bufdom id e h2
 ·exact(hi.glob g cells hgl).cut (by simp only[low];exact lowL_plain m n cells (List.all_eq_true.1 hg _ hgl))
def Low(σ:Sg)(kb kf:Nat):Prop:=(∀k b,σ.blk k=some b->k<kb)/\∀id e,σ.buf id=some e->id<kf
theorem Le.cut{σ0 σ:Sg}{kb kf n:Nat}{m:List Bool}(hle:Le σ0 σ)(hl:Low σ0 kb kf)(hm:∀k,k<kb->m.getD k false=true)(hn:kf<=n):Le σ0 (σ.cut m n) where
 blk k b hk:=by
  simp only[Sg.cut];rw[if_pos (hm k (hl.1 k b hk))];exact hle.blk k b hk
 buf id e he:=by
  obtain⟨e',h1,h2⟩:=hle.buf id e he;exact⟨e',by simp only[Sg.cut];rw[if_pos (by have:=hl.2 id e he;omega)];exact h1,h2⟩
 outer:=hle.outer
 cell:=hle.cell
 ext:=hle.ext
 shape:=hle.shape
 whole:=hle.whole
 own b o hb ho:=hle.own b o hb (c7k ho)
 size:=hle.size
 os:=hle.os
 tape:=hle.tape
 output:=hle.output
structure D(P:Program)(N kb kf:Nat)(x:A0)(Q:Exit->Env->A3->Prop)(env:Env)(h:A3):Prop where
 out:∀c,B8 P N c=some x->∀(σ0 σ:Sg) (a:Act),St σ h env N a->Le σ0 σ->Low σ0 kb kf->c.wp P (a7p σ0 N Q) a σ.w
structure DL(P:Program)(N kb kf:Nat)(x:A0)(Q:Exit->Env->A3->Prop)(env:Env)(h:A3):Prop where
 out:∀c,B8 P N c=some x->∀(σ0 σ:Sg) (a:Act),St σ h env N a->Le σ0 σ->Low σ0 kb kf->c7b P c (a7p σ0 N Q) a σ.w
def o6g(P:Program)(c rest:Code)(Q:Exit->Act->World->Prop)(a:Act)(w:World):Prop:=∀b k cs,∃e a' w',Q e a' w'/\Arrives P (lone (b.at a (.code rest::.inScope c::k)) cs w) b k cs e a' w'
structure DG(P:Program)(N kb kf:Nat)(x:A0)(l:Nat)(Q:Exit->Env->A3->Prop)(env:Env)(h:A3):Prop where
 out:∀c rest,B8 P N c=some x->findLabel c l=some rest->∀(σ0 σ:Sg) (a:Act),St σ h env N a->Le σ0 σ->Low σ0 kb kf->o6g P c rest (a7p σ0 N Q) a σ.w
section
variable {P:Program}{h h':A3}{env env':Env}{N kb kf:Nat}{Q:Exit->Env->A3->Prop}{x y:A0}
theorem b8x(hx:C P N x Q env h):D P N kb kf x Q env h:=⟨fun c hc σ0 σ a hs hle hl=>Code.wp_mono (fun e a' w hh=>hh.up hle) (hx.out c hc σ a hs)⟩
theorem Inv.low{σ:Sg}(hi:Inv h σ)(h1:h.blks.length<=kb)(h2:h.bufs.length<=kf):Low σ kb kf:=by
 refine⟨fun k b hk=>?_,fun id e he=>?_⟩
 ·have:=hi.name hk;omega
 ·have:=(List.getElem?_eq_some_iff.1 (hi.bufdom id e he)).1;omega
theorem c5p(h1:h.blks.length<=kb)(h2:h.bufs.length<=kf)(hx:D P N kb kf x Q env h):a7w P N x Q env h:=fun c hc σ a hs=>hx.out c hc σ σ a hs (Le.refl σ) (hs.inv.low h1 h2)
theorem g3t{gl:List (Nat × List AV)}{f:FuncId}{ac:A0}{rs:List b0j}(hf:B0 P f=some (N,ac,rs)){args:List AV}{r:AV}{e₀:Env}(hn:args.length<=N)(he:b0a 0 args=e₀)
  (hbody:D P N 0 0 ac (h4b rs r) e₀ ⟨[],[],gl⟩):C5 P gl f args r:=h0q hf hn he ⟨c5p (Nat.le_refl _) (Nat.le_refl _) hbody⟩
theorem d7w{ops:List C9}(hv:V P ops env h fun env' h'=>Q .normal env' h'):D P N kb kf (.region ops) Q env h:=b8x (d70 hv)
theorem e0a(S:List (Nat × List AV)){ord:List (List Nat)}{al tl:List C9}(hok:okq al=true)(hst:c67 (clo ord) al=true)(hS:inS S h=S.map fun p=>some (some p.2))(hv:Sp P S h.globs true al 0 env h fun F h'=>vd P tl F h' fun env' h'=>Q .normal env' h'):D P N kb kf (.drawn ord al tl) Q env h:=b8x (d8t S hok hst hS hv)
theorem k2b(hq:Q .normal env h):D P N kb kf .skip Q env h:=b8x (j7r hq)
theorem i52{id:Nat}(hq:Q (.exit id) env h):D P N kb kf (.exit id) Q env h:=b8x (l6v hq)
theorem n7f(hq:Q .ret env h):D P N kb kf .ret Q env h:=b8x (n7b hq)
theorem h0i{l:Nat}(hq:Q .normal env h):D P N kb kf (.label l) Q env h:=b8x (g2t hq)
theorem l30{l:Nat}(hq:Q (.goto l) env h):D P N kb kf (.goto l) Q env h:=b8x (h4r hq)
theorem d31(hg:∀(σ:Sg) (a:Act),St σ h env N a->∃σ' h' env',σ'.w=σ.w/\Le σ σ'/\St σ' h' env' N a/\D P N kb kf x Q env' h'):D P N kb kf x Q env h:=⟨by
 intro c hc σ0 σ a hs hle hl;obtain⟨σ',h',env',hw,l1,s1,hx⟩:=hg σ a hs;rw[<-hw];exact hx.out c hc σ0 σ' a s1 (hle.trans l1) hl⟩
theorem c78(hg:∀(σ:Sg) (a:Act),St σ h env N a->∃σ' h' env',σ'.w=σ.w/\Le σ σ'/\St σ' h' env' N a/\DL P N kb kf x Q env' h'):DL P N kb kf x Q env h:=⟨by
 intro c hc σ0 σ a hs hle hl;obtain⟨σ',h',env',hw,l1,s1,hx⟩:=hg σ a hs;rw[<-hw];exact hx.out c hc σ0 σ' a s1 (hle.trans l1) hl⟩
theorem d9b{l:Nat}(hg:∀(σ:Sg) (a:Act),St σ h env N a->∃σ' h' env',σ'.w=σ.w/\Le σ σ'/\St σ' h' env' N a/\DG P N kb kf x l Q env' h'):DG P N kb kf x l Q env h:=⟨by
 intro c rest hc hr σ0 σ a hs hle hl;obtain⟨σ',h',env',hw,l1,s1,hx⟩:=hg σ a hs;rw[<-hw];exact hx.out c rest hc hr σ0 σ' a s1 (hle.trans l1) hl⟩
theorem i5f{t:Nat}(size:Nat)(hg:get env t=some .nil){σ:Sg}{a:Act}(hs:St σ h env N a):∃σ',σ'.w=σ.w/\Le σ σ'/\St σ' ⟨h.blks,h.bufs++[(0,size)],h.globs⟩ ((t,.sl [] (.own h.bufs.length))::env) N a:=by
 obtain⟨σ1,w1,l1,i1,b1⟩:=b23 hs.inv ⟨0,size,none,0⟩ rfl (fun _=>rfl);refine⟨σ1,w1,l1,i1,?_,hs.size,hs.defers⟩;intro u av hu;simp only[get]at hu;split at hu
 ·rename_i htu;subst htu;cases hu;obtain⟨y,h1,h2⟩:=hs.env t _ hg;cases h2;exact⟨_,h1,.sl0 _ ⟨_,b1,Nat.le_refl _,fun _=>⟨rfl,rfl⟩⟩⟩
 ·exact(hs.env.mono l1) u av hu
theorem d4y{k j:Nat}(size:Nat){cells:List AV}(hk:h.blks[k]? =some (some cells))(hj:cells[j]? =some .nil){σ:Sg}{a:Act}(hs:St σ h env N a):∃σ',σ'.w=σ.w/\Le σ σ'/\St σ' ⟨h.blks.set k (some (cells.set j (.sl [] (.own h.bufs.length)))),h.bufs++[(0,size)],h.globs⟩ env N a:=by
 obtain⟨σ1,w1,l1,i1,b1⟩:=b23 hs.inv ⟨0,size,none,0⟩ rfl (fun _=>rfl);refine⟨σ1,w1,l1,?_,hs.env.mono l1,hs.size,hs.defers⟩;obtain⟨b,hb,hat⟩:=i1.blk k cells hk;have hkl:k<h.blks.length:=(List.getElem?_eq_some_iff.1 hk).1;have hjl:j<cells.length:=(List.getElem?_eq_some_iff.1 hj).1
 have hat':a2g σ1 b (cells.set j (.sl [] (.own h.bufs.length))):=by
  cases hat with
  |cells _ cs rest elem h5 h6=>
   refine .cells _ cs rest elem h5 ⟨by rw[h6.1];simp,fun i av hi=>?_⟩;rw[List.getElem?_set]at hi;split at hi
   ·rename_i hij;subst hij;cases hi;obtain⟨_,y,h7,h8⟩:=h6.2 j _ hj;cases h8;exact⟨rfl,_,h7,.sl0 _ ⟨_,b1,Nat.le_refl _,fun _=>⟨rfl,rfl⟩⟩⟩
   ·exact h6.2 i av hi
  |it s p h5=>
   cases j with
   |zero=>simp at hj
   |succ j=>simp at hj
  |map es clock l h5 h6=>cases j<;>simp at hj
 have hne:∀c,(cells.set j (.sl [] (.own h.bufs.length))=c)->c≠[]:=by
  rintro c rfl he;have:=congrArg List.length he;simp at this;subst this;simp at hjl
 refine⟨fun n c hn=>?_,fun n b' hn=>?_,fun n m b' c c' hn hm hc hc' h1 h2=>?_,i1.buf,i1.bufdom,i1.bufle,i1.bufat,i1.bufun,i1.buflt,i1.bufinj,i1.bufblk,i1.outer,i1.glob⟩
 ·rw[List.getElem?_set]at hn;split at hn
  ·rename_i hkn;subst hkn;cases hn;exact⟨b,hb,hat'⟩
  ·exact i1.blk n c hn
 ·obtain⟨c,hc⟩:=i1.dom n b' hn;rw[List.getElem?_set];split
  ·rename_i hkn;exact⟨_,rfl⟩
  ·exact⟨c,hc⟩
 ·have old:∀{n:Nat}{c:List AV},(h.blks.set k (some (cells.set j (.sl [] (.own h.bufs.length)))))[n]? =some (some c)->c≠[]->∃d,h.blks[n]? =some (some d)/\d≠[]:=by
   intro n c hn hc;rw[List.getElem?_set]at hn;split at hn
   ·rename_i hkn;subst hkn;exact⟨cells,hk,by rintro rfl;simp at hj⟩
   ·exact⟨c,hn,hc⟩
  obtain⟨d,hd,hd0⟩:=old hn hc;obtain⟨d',hd',hd0'⟩:=old hm hc';exact i1.inj n m b' d d' hd hd' hd0 hd0' h1 h2
theorem c6i(m:List Bool)(n:Nat){σ0 σ:Sg}{a:Act}(hs:St σ h env N a)(hle:Le σ0 σ)(hl:Low σ0 kb kf)(hm:∀k,k<kb->m.getD k false=true)(hn:kf<=n)(he:a55 m n env=true)(hb:a37 m n (X5 m h.blks)=true)(hg:J8 h.globs=true):
  St (σ.cut m n) ⟨X5 m h.blks,h.bufs.take n,h.globs⟩ env N a/\Le σ0 (σ.cut m n):=
 ⟨⟨hs.inv.cut m n hb hg,fun t av ht=>by obtain⟨y,h1,h2⟩:=hs.env t av ht;exact⟨y,h1,h2.cut (b61 he ht)⟩,hs.size,hs.defers⟩,hle.cut hl hm hn⟩
theorem f9f(m:List Bool)(n:Nat)(hm:∀k,k<kb->m.getD k false=true)(hn:kf<=n)(he:a55 m n env=true)(hb:a37 m n (X5 m h.blks)=true)(hg:J8 h.globs=true)(hx:DL P N kb kf x Q env ⟨X5 m h.blks,h.bufs.take n,h.globs⟩):DL P N kb kf x Q env h:=⟨by
 intro c hc σ0 σ a hs hle hl;obtain⟨h1,h2⟩:=c6i m n hs hle hl hm hn he hb hg;exact hx.out c hc σ0 (σ.cut m n) a h1 h2 hl⟩
theorem f09{l:Nat}(m:List Bool)(n:Nat)(hm:∀k,k<kb->m.getD k false=true)(hn:kf<=n)(he:a55 m n env=true)(hb:a37 m n (X5 m h.blks)=true)(hg:J8 h.globs=true)(hx:DG P N kb kf x l Q env ⟨X5 m h.blks,h.bufs.take n,h.globs⟩):DG P N kb kf x l Q env h:=⟨by
 intro c rest hc hr σ0 σ a hs hle hl;obtain⟨h1,h2⟩:=c6i m n hs hle hl hm hn he hb hg;exact hx.out c rest hc hr σ0 (σ.cut m n) a h1 h2 hl⟩
theorem k8k(m:List Bool)(n:Nat)(hm:∀k,k<kb->m.getD k false=true)(hn:kf<=n)(he:a55 m n env=true)(hb:a37 m n (X5 m h.blks)=true)(hg:J8 h.globs=true)(hx:D P N kb kf x Q env ⟨X5 m h.blks,h.bufs.take n,h.globs⟩):D P N kb kf x Q env h:=⟨by
 intro c hc σ0 σ a hs hle hl;obtain⟨h1,h2⟩:=c6i m n hs hle hl hm hn he hb hg;exact hx.out c hc σ0 (σ.cut m n) a h1 h2 hl⟩
theorem f7f{c:Code}(hc:B8 P N c=some (.seq x y)):∃cx cy,c=.seq cx cy/\B8 P N cx=some x/\B8 P N cy=some y:=by
 cases c<;>(try simp only[B8,Option.bind_eq_some_iff,Option.map_eq_some_iff]at hc)
 case seq cx cy=>obtain⟨x',hx',y',hy',he⟩:=hc;cases he;exact⟨cx,cy,rfl,hx',hy'⟩
 case region id ops d=>
  cases d<;>simp only[B8,Option.bind_eq_some_iff,Option.map_eq_some_iff]at hc
  ·obtain⟨_,_,hx⟩:=hc;cases hx
  ·obtain⟨_,_,_,_,hx⟩:=hc;split at hx<;>cases hx
 all_goals first
  |(cases hc;done)
  |(obtain⟨_,_,hx⟩:=hc;cases hx;done)
  |(obtain⟨_,_,_,_,hx⟩:=hc;cases hx;done)
  |(obtain⟨_,_,_,_,_,_,hx⟩:=hc;cases hx;done)
theorem d3j{c:Code}{id:Nat}(hc:B8 P N c=some (.block id x)):∃cx,c=.block id cx/\B8 P N cx=some x:=by
 cases c<;>(try simp only[B8,Option.bind_eq_some_iff,Option.map_eq_some_iff]at hc)
 case block i cx=>obtain⟨x',hx',he⟩:=hc;cases he;exact⟨cx,rfl,hx'⟩
 case region id ops d=>
  cases d<;>simp only[B8,Option.bind_eq_some_iff,Option.map_eq_some_iff]at hc
  ·obtain⟨_,_,hx⟩:=hc;cases hx
  ·obtain⟨_,_,_,_,hx⟩:=hc;split at hx<;>cases hx
 all_goals first
  |(cases hc;done)
  |(obtain⟨_,_,hx⟩:=hc;cases hx;done)
  |(obtain⟨_,_,_,_,hx⟩:=hc;cases hx;done)
  |(obtain⟨_,_,_,_,_,_,hx⟩:=hc;cases hx;done)
theorem d99{c:Code}(hc:B8 P N c=some (.loop x)):∃cx,c=.loop cx/\B8 P N cx=some x:=by
 cases c<;>(try simp only[B8,Option.bind_eq_some_iff,Option.map_eq_some_iff]at hc)
 case loop cx=>obtain⟨x',hx',he⟩:=hc;cases he;exact⟨cx,rfl,hx'⟩
 case region id ops d=>
  cases d<;>simp only[B8,Option.bind_eq_some_iff,Option.map_eq_some_iff]at hc
  ·obtain⟨_,_,hx⟩:=hc;cases hx
  ·obtain⟨_,_,_,_,hx⟩:=hc;split at hx<;>cases hx
 all_goals first
  |(cases hc;done)
  |(obtain⟨_,_,hx⟩:=hc;cases hx;done)
  |(obtain⟨_,_,_,_,hx⟩:=hc;cases hx;done)
  |(obtain⟨_,_,_,_,_,_,hx⟩:=hc;cases hx;done)
theorem e2g(hx:D P N kb kf x (c6l (fun e h=>D P N kb kf y Q e h) Q) env h):D P N kb kf (.seq x y) Q env h:=⟨by
 intro c hc σ0 σ a hs hle hl;obtain⟨cx,cy,rfl,hcx,hcy⟩:=f7f hc;refine wp_seq (Code.wp_mono (fun e a' w' hh=>?_) (hx.out cx hcx σ0 σ a hs hle hl));obtain⟨h1,σ2,h2,env2,rfl,q2,q3,q4⟩:=hh;cases e with
 |normal=>exact q4.out cy hcy σ0 σ2 a' q3 q2 hl
 |panic _=>exact h1.elim
 |outgrown=>exact h1.elim
 |exit _=>exact⟨trivial,σ2,h2,env2,rfl,q2,q3,q4⟩
 |goto _=>exact⟨trivial,σ2,h2,env2,rfl,q2,q3,q4⟩
 |ret=>exact⟨trivial,σ2,h2,env2,rfl,q2,q3,q4⟩⟩
theorem d6c{id:Nat}(hx:D P N kb kf x (b28 id Q) env h):D P N kb kf (.block id x) Q env h:=⟨by
 intro c hc σ0 σ a hs hle hl;obtain⟨cx,rfl,hcx⟩:=d3j hc;refine wp_block (Code.wp_mono (fun e a' w' hh=>?_) (hx.out cx hcx σ0 σ a hs hle hl));obtain⟨h1,σ2,h2,env2,rfl,q2,q3,q4⟩:=hh;cases e with
 |panic _=>exact h1.elim
 |outgrown=>exact h1.elim
 |normal=>exact⟨trivial,σ2,h2,env2,rfl,q2,q3,q4⟩
 |goto _=>exact⟨trivial,σ2,h2,env2,rfl,q2,q3,q4⟩
 |ret=>exact⟨trivial,σ2,h2,env2,rfl,q2,q3,q4⟩
 |exit i=>
  simp only[b28]at q4;simp only[Exit.inBlock];split
  ·rename_i hi;rw[if_pos hi]at q4;exact⟨trivial,σ2,h2,env2,rfl,q2,q3,q4⟩
  ·rename_i hi;rw[if_neg hi]at q4;exact⟨trivial,σ2,h2,env2,rfl,q2,q3,q4⟩⟩
theorem f8j(hx:DL P N kb kf x Q env h):D P N kb kf (.loop x) Q env h:=⟨by
 intro c hc σ0 σ a hs hle hl;obtain⟨cx,rfl,hcx⟩:=d99 hc;exact d8w (hx.out cx hcx σ0 σ a hs hle hl)⟩
theorem d2c(hx:D P N kb kf x (c6l (fun e h=>DL P N kb kf x Q e h) Q) env h):DL P N kb kf x Q env h:=⟨by
 intro c hc σ0 σ a hs hle hl;refine c5u (Code.wp_mono (fun e a' w' hh=>?_) (hx.out c hc σ0 σ a hs hle hl));obtain⟨h1,σ2,h2,env2,q1,q2,q3,q4⟩:=hh;cases e with
 |panic _=>exact h1.elim
 |outgrown=>exact h1.elim
 |normal=>subst q1;exact q4.out c hc σ0 σ2 a' q3 q2 hl
 |goto _=>exact⟨trivial,σ2,h2,env2,q1,q2,q3,q4⟩
 |ret=>exact⟨trivial,σ2,h2,env2,q1,q2,q3,q4⟩
 |exit i=>exact⟨trivial,σ2,h2,env2,q1,q2,q3,q4⟩⟩
theorem d4l{c:G2}{b:Bool}(hc:c.ev env=some (.v (.bool b)))(h1:b=true->D P N kb kf x Q env h)(h2:b=false->D P N kb kf y Q env h):D P N kb kf (.cond c x y) Q env h:=⟨by
 intro cc hcc σ0 σ a hs hle hl;cases cc<;>(try simp only[B8,Option.bind_eq_some_iff,Option.map_eq_some_iff]at hcc)
 case cond co cx cy=>
  obtain⟨c',hc',x',hx',y',hy',he⟩:=hcc;cases he;obtain⟨av,hr,hk⟩:=opd (K:=fun v=>v=.v (.bool b)) hs.env hc' (by rw[hc];rfl);subst hk;generalize hce:a.eval co=ce at hr;cases hr with
  |v _ _=>
  cases b with
  |true=>exact wp_cond_true hce ((h1 rfl).out cx hx' σ0 σ a hs hle hl)
  |false=>exact wp_cond_false hce ((h2 rfl).out cy hy' σ0 σ a hs hle hl)
 case region id ops d=>
  cases d<;>simp only[B8,Option.bind_eq_some_iff,Option.map_eq_some_iff]at hcc
  ·obtain⟨_,_,hx⟩:=hcc;cases hx
  ·obtain⟨_,_,_,_,hx⟩:=hcc;split at hx<;>cases hx
 all_goals first
  |(cases hcc;done)
  |(obtain⟨_,_,hx⟩:=hcc;cases hx;done)
  |(obtain⟨_,_,_,_,hx⟩:=hcc;cases hx;done)
  |(obtain⟨_,_,_,_,_,_,hx⟩:=hcc;cases hx;done)⟩
theorem d7i{c:G2}{b:Bool}(hc:c.ev env=some (.v (.bool b)))(hb:b=true)(h1:D P N kb kf x Q env h):D P N kb kf (.cond c x y) Q env h:=d4l hc (fun _=>h1) (fun h=>by rw[hb]at h;cases h)
theorem e0p{c:G2}{b:Bool}(hc:c.ev env=some (.v (.bool b)))(hb:b=false)(h1:D P N kb kf y Q env h):D P N kb kf (.cond c x y) Q env h:=d4l hc (fun h=>by rw[hb]at h;cases h) (fun _=>h1)
theorem d9k{l:Nat}{rest:A0}(hf:a6v x l=some rest)(hx:D P N kb kf x (d1p l (fun e h=>DG P N kb kf x l Q e h) Q) env h):D P N kb kf (.scope x) Q env h:=⟨by
 intro c hc σ0 σ a hs hle hl;obtain⟨c',rfl,hc'⟩:=b27 hc;obtain⟨r,hr,hrc⟩:=(c20 l hc').1 rest hf;intro b k cs;have hg:gotoIn l (.inScope c'::k)=some (.code r::.inScope c'::k):=by simp[gotoIn,hr]
 obtain⟨e,a₁,w₁,hq,harr⟩:=hx.out c' hc' σ0 σ a hs hle hl b (.inScope c'::k) cs;obtain⟨h1,σ2,h2,env2,rfl,q2,q3,q4⟩:=hq;cases e with
 |normal=>exact⟨.normal,a₁,_,⟨trivial,σ2,h2,env2,rfl,q2,q3,q4⟩,.head step_scope (Steps.trans harr (.one step_inScope))⟩
 |exit id=>exact⟨.exit id,a₁,_,⟨trivial,σ2,h2,env2,rfl,q2,q3,q4⟩,fun k' hk=>.head step_scope (harr k' (by simp[exitTo,hk]))⟩
 |goto l'=>
  obtain⟨rfl,hJ⟩:=q4;obtain⟨e₂,a₂,w₂,hq₂,harr₂⟩:=hJ.out c' r hc' hr σ0 σ2 a₁ q3 q2 hl b k cs;exact⟨e₂,a₂,w₂,hq₂,.of_steps (.head step_scope (harr _ hg)) harr₂⟩
 |ret=>exact⟨_,a₁,_,⟨trivial,σ2,h2,env2,rfl,q2,q3,q4⟩,.of_steps (.one step_scope) harr⟩
 |panic ch=>exact h1.elim
 |outgrown=>exact h1.elim⟩
theorem d1l{l:Nat}{rest:A0}(hf:a6v x l=some rest)(hx:D P N kb kf rest (d1p l (fun e h=>DG P N kb kf x l Q e h) Q) env h):DG P N kb kf x l Q env h:=⟨by
 intro c' r0 hc' hr0 σ0 σ a hs hle hl;obtain⟨r,hr,hrc⟩:=(c20 l hc').1 rest hf;obtain rfl:r=r0:=by rw[hr]at hr0;exact Option.some.inj hr0
 intro b k cs;have hg:gotoIn l (.inScope c'::k)=some (.code r::.inScope c'::k):=by simp[gotoIn,hr]
 obtain⟨e,a₁,w₁,hq,harr⟩:=hx.out r hrc σ0 σ a hs hle hl b (.inScope c'::k) cs;obtain⟨h1,σ2,h2,env2,rfl,q2,q3,q4⟩:=hq;cases e with
 |normal=>exact⟨.normal,a₁,_,⟨trivial,σ2,h2,env2,rfl,q2,q3,q4⟩,Steps.trans harr (.one step_inScope)⟩
 |exit id=>exact⟨.exit id,a₁,_,⟨trivial,σ2,h2,env2,rfl,q2,q3,q4⟩,fun k' hk=>harr k' (by simp[exitTo,hk])⟩
 |goto l'=>
  obtain⟨rfl,hJ⟩:=q4;obtain⟨e₂,a₂,w₂,hq₂,harr₂⟩:=hJ.out c' r hc' hr σ0 σ2 a₁ q3 q2 hl b k cs;exact⟨e₂,a₂,w₂,hq₂,.of_steps (harr _ hg) harr₂⟩
 |ret=>exact⟨_,a₁,_,⟨trivial,σ2,h2,env2,rfl,q2,q3,q4⟩,harr⟩
 |panic ch=>exact h1.elim
 |outgrown=>exact h1.elim⟩
theorem d9h(hx:D P N kb kf x (c7v Q) env h):D P N kb kf (.scope x) Q env h:=⟨by
 intro c hc σ0 σ a hs hle hl;obtain⟨c',rfl,hc'⟩:=b27 hc;refine wp_scope_straight (Code.wp_mono (fun e a' w' hh=>?_) (hx.out c' hc' σ0 σ a hs hle hl));obtain⟨h1,σ2,h2,env2,rfl,q2,q3,q4⟩:=hh;cases e with
 |panic _=>exact h1.elim
 |outgrown=>exact h1.elim
 |goto _=>exact q4.elim
 |normal=>exact⟨trivial,σ2,h2,env2,rfl,q2,q3,q4⟩
 |ret=>exact⟨trivial,σ2,h2,env2,rfl,q2,q3,q4⟩
 |exit i=>exact⟨trivial,σ2,h2,env2,rfl,q2,q3,q4⟩⟩
end
theorem l9b{P:Program}{o:AOp}{env:Env}{h h':A3}{av:AV}(he:b8k false noC o env h=some (av,h')):a1i P o env h av h':=fun K hk=>a7b e4u he hk
def fz(n:Nat)(cells:List AV):AV->AV
 |.ptr k off=>if k=n then .elt cells off else .ptr k off
 |a=>a
def fzE(n:Nat)(cells:List AV):Env->Env
 |[]=>[]
 |(t,a)::e=>(t,fz n cells a)::fzE n cells e
theorem d4c{n:Nat}{cells:List AV}:∀{e:Env}{t:Nat}{b:AV},get (fzE n cells e) t=some b->∃a,get e t=some a/\b=fz n cells a
 |[],_,_,h=>by cases h
 |(u,a)::e,t,b,h=>by
  simp only[fzE,get]at h ⊢;split at h
  ·rename_i hu;rw[if_pos hu];cases h;exact⟨a,rfl,rfl⟩
  ·rename_i hu;rw[if_neg hu];exact d4c h
def c3b:List Bool->List (Option (List AV))->Bool
 |b::m,x::l=>(match b,x with|true,some []=>false|_,_=>true)&&c3b m l
 |_,_=>true
theorem b9v:∀{m:List Bool}{l:List (Option (List AV))}{k:Nat}{c:List AV},c3b m l=true->m.getD k false=true->l[k]? =some (some c)->c≠[]
 |[],_,_,_,_,h,_=>by simp at h
 |b::m,[],_,_,_,_,h=>by simp at h
 |b::m,x::l,0,c,h,h1,h2=>by
  have h1':b=true:=h1;simp only[List.getElem?_cons_zero,Option.some.injEq]at h2;subst h1' h2;rintro rfl;simp[c3b]at h
 |b::m,x::l,k+1,c,h,h1,h2=>by
  simp only[c3b,Bool.and_eq_true]at h;exact b9v h.2 (by simpa using h1) (by simpa using h2)
theorem e0h{P:Program}{h:A3}{env:Env}{N kb kf:Nat}{Q:Exit->Env->A3->Prop}{x:A0}(n:Nat)(m:List Bool)(k:Nat)(cells:List AV)(hb:h.blks[n]? =some (some cells))(hit:a4j cells=true)(hmn:m.getD n false=false)(hal:c3b m h.blks=true)(hm:∀k,k<kb->m.getD k false=true)(hn:kf<=k)
  {e:Env}(hE:fzE n cells env=e) (he:a55 m k e=true) (hB:a37 m k (X5 m h.blks)=true) (hg:J8 h.globs=true) (hx:D P N kb kf x Q e ⟨X5 m h.blks,h.bufs.take k,h.globs⟩):D P N kb kf x Q env h:=⟨by
 subst hE;intro c hc σ0 σ a hs hle hl;refine hx.out c hc σ0 (σ.cut m k) a ⟨hs.inv.cut m k hB hg,fun t av ht=>?_,hs.size,hs.defers⟩ (hle.cut hl hm hn) hl;have hlow:=b61 he ht;obtain⟨a0,h1,rfl⟩:=d4c ht;obtain⟨y,h2,h3⟩:=hs.env t a0 h1;refine⟨y,h2,?_⟩;cases a0 with
 |ptr j off=>
  simp only[fz]at hlow ⊢;split at hlow
  ·rename_i hj;subst hj;rw[if_pos rfl];cases h3 with
   |ptr _ _ b hblk=>
   obtain⟨b',h4,h5⟩:=hs.inv.blk j cells hb;rw[hblk]at h4;cases h4;cases h5 with
   |it s p h6=>cases hit
   |map es clock l h5 h6=>cases hit
   |cells _ cs rest elem h6 h7=>
   have hlc:lowL m k cells=true:=by simpa[low]using hlow
   have key:∀(i:Nat) (av:AV),cells[i]? =some av->∃xv,σ.w.cell? ⟨b,i,none⟩=some xv/\Rel σ av xv/\av.isCell=true:=by
    intro i av hi;obtain⟨q1,xv,q2,q3⟩:=h7.2 i av hi;refine⟨xv,?_,q3,q1⟩;have hlt:i<cs.length:=(List.getElem?_eq_some_iff.1 q2).1;simp[World.cell?,h6,List.getElem?_append_left hlt,q2]
   have hne:cells≠[]:=by rintro rfl;cases hit
   have:=Rel.elt (σ:=σ.cut m k) cells off b 0 (fun i=>(σ.w.cell? ⟨b,i,none⟩).getD undef) (fun i av hi=>by
    obtain⟨xv,q1,q2,q3⟩:=key i av hi;refine⟨by show σ.w.cell? _=_;rw[Nat.zero_add,q1];rfl,?_,q3⟩;rintro (ho|⟨j',hj'⟩|⟨id,eb,he1,he2⟩)
    ·exact(hs.inv.outer _ _ ho).2 (.inl ⟨j,hblk⟩)
    ·simp only[Sg.cut]at hj';split at hj'
     ·rename_i hmj;obtain⟨c',hc'⟩:=hs.inv.dom j' b hj';have:=hs.inv.inj j' j b c' cells hc' hb (b9v hal hmj hc') hne hj' hblk;subst this;rw[hmn]at hmj;cases hmj
     ·cases hj'
    ·simp only[Sg.cut]at he1;split at he1
     ·exact hs.inv.bufblk id eb j b _ he1 he2 hblk
     ·cases he1) (fun i av hi=>by
    obtain⟨xv,q1,q2,q3⟩:=key i av hi;rw[q1];exact q2.cut (a2b hlc i av hi))
   simpa using this
  ·rename_i hj;rw[if_neg hj];exact h3.cut hlow
 |_=>exact h3.cut hlow⟩
theorem h13(a:AV):nz1 (nz1 a)=nz1 a:=by cases a<;>rfl
theorem d2s(a:AV):nzA (nzA a)=nzA a:=by
 cases a with
 |agg cs=>simp only[nzA,List.map_map];congr 1;exact List.map_congr_left fun x _=>h13 x
 |_=>rfl
theorem k00(a:AV):nz (nz a)=nz a:=by
 cases a with
 |tuple vs=>simp only[nz,List.map_map];congr 1;exact List.map_congr_left fun x _=>d2s x
 |agg cs=>exact d2s (.agg cs)
 |_=>rfl
def a7k(P:Program)(gl:List (Nat × List AV))(f:AV)(args:List AV)(r:AV):Prop:=∃g a b,f=.clo (.func g) a b/\plainL ((a++args++b).map nz)=true/\C5 P gl g ((a++args++b).map nz) r
theorem h0c{P:Program}{h:A3}{env:Env}{f:G2}{args:List G2}{F:AV}{l l':List AV}{r:AV}(hf:f.ev env=some F)(ha:evs env args=some l)(hl:l.map nz=l')(hgl:J8 h.globs=true)(hc:a7k P h.globs F l' r):a1i P (.call f args) env h r h:=by
 obtain⟨g,a,b,rfl,hp,hn⟩:=hc;refine g2b hf ha ?_ hgl hp hn;subst hl;simp only[List.map_append,List.map_map]
 congr 2
 exact List.map_congr_left fun x _=>(k00 x).symm
theorem h8o{P:Program}{h:A3}{env:Env}{x y z:G2}{k k' k'':IntKind}{a b c:Int}(hx:x.ev env=some (.v (.int k a)))(hy:y.ev env=some (.v (.int k' b)))(hz:z.ev env=some (.v (.int k'' c))):a1i P (.minmax true [x,y,z]) env h (.v (.int k (max (max a b) c))) h:=fun K hk=>
 (b65 (l:=[.v (.int k a),.v (.int k' b),.v (.int k'' c)]) (v:=.int k (max (max a b) c)) (by simp[evs,hx,hy,hz]) (by simp only[mmx,if_true];congr 2;(repeat' split)<;>omega) hk).out
theorem k4t{P:Program}{h:A3}{env:Env}{x y z:G2}{k k' k'':IntKind}{a b c:Int}(hx:x.ev env=some (.v (.int k a)))(hy:y.ev env=some (.v (.int k' b)))(hz:z.ev env=some (.v (.int k'' c))):a1i P (.minmax false [x,y,z]) env h (.v (.int k (min (min a b) c))) h:=fun K hk=>
 (b65 (l:=[.v (.int k a),.v (.int k' b),.v (.int k'' c)]) (v:=.int k (min (min a b) c)) (by simp[evs,hx,hy,hz]) (by simp only[mmx,Bool.false_eq_true,if_false];congr 2;(repeat' split)<;>omega) hk).out
theorem A7{a:AV}{r:List AV}(h1:plain a=true)(h2:plainL r=true):plainL (a::r)=true:=by simp only[plainL,h1,h2];rfl
theorem psl{els:List (List AV)}(h:plainLL els=true):plain (.sl els .no)=true:=by simp only[plain,h];rfl
theorem b39{l:List AV}(h:plainL l=true):plain (.tuple l)=true:=h
theorem d56{h:A3}{e env:Env}{N:Nat}(he:b32 e env){σ:Sg}{a:Act}(hs:St σ h env N a):St σ h e N a:=⟨hs.inv,fun t av hg=>hs.env t av (he t av hg),hs.size,hs.defers⟩
theorem o28{P:Program}{N kb kf:Nat}{x:A0}{Q:Exit->Env->A3->Prop}:b83 fun e h=>D P N kb kf x Q e h:=fun e env h he hx=>d31 fun σ a hs=>⟨σ,h,e,rfl,Le.refl σ,d56 he hs,hx⟩
theorem i4a{P:Program}{N kb kf:Nat}{x:A0}{Q:Exit->Env->A3->Prop}:b83 fun e h=>DL P N kb kf x Q e h:=fun e env h he hx=>c78 fun σ a hs=>⟨σ,h,e,rfl,Le.refl σ,d56 he hs,hx⟩
theorem a9f{e env:Env}(he:b32 e env){h:A3}:∀{rs:List b0j}{K:List AV->Prop},c4w e h rs K->c4w env h rs K
 |[],_,hk=>hk
 |.tmp t::r,K,hk=>he.wv (x:=.t t) hk fun a ha=>a9f he ha
 |.cell t n::r,K,hk=>by
  obtain⟨p,h1,h2⟩:=a7i hk;show wv (get env t) _;rw[he t p h1];simp only[wv,a8g]at h2 ⊢;split at h2
  ·split at h2
   ·split at h2
    ·exact a9f he h2
    ·exact h2.elim
   ·exact⟨h2.1,a9f he h2.2⟩
  ·exact h2.elim
theorem k2m{rs:List b0j}{r:AV}:b83 fun e h=>h4b rs r .normal e h:=fun e env h he hx=>a9f he hx
abbrev T(n:Nat):G2:=.t n
abbrev ci(n:Int):G2:=.c (.v (.int .i64 n))
abbrev cb(b:Bool):G2:=.c (.v (.bool b))
abbrev cf(g:Nat):G2:=.c (.clo (.func g) [] [])
abbrev o(d:Nat)(x:AOp):C9:=⟨some d,x,none⟩
abbrev og(d:Nat)(x:AOp)(t:Nat)(b:Bool):C9:=⟨some d,x,some (t,b)⟩
abbrev on(x:AOp):C9:=⟨none,x,none⟩
abbrev mv(n:Nat):AOp:=.mv (.t n)
abbrev mi(n:Int):AOp:=.mv (.c (.v (.int .i64 n)))
abbrev mb(b:Bool):AOp:=.mv (.c (.v (.bool b)))
abbrev fa(n t:Nat):AOp:=.fieldAddr n (.t t)
abbrev ld(t:Nat):AOp:=.load none (.t t)
abbrev ln(n t:Nat):AOp:=.load (some n) (.t t)
abbrev st(n p x:Nat):AOp:=.store n (.t p) (.t x)
abbrev bx(t:Nat):AOp:=.box (.t t)
abbrev wI(n:Int):Int:=IntKind.i64.wrap n
abbrev wU(n:Int):Int:=IntKind.u64.wrap n
theorem b3c{env:Env}{t:Nat}{B b:Bool}(hB:B=b)(hg:get env t=some (.v (.bool B))):b32 ((t,.v (.bool b))::env) env:=by
 subst hB;intro u a h;simp only[get]at h;split at h
 ·rename_i hu;subst hu;cases h;exact hg
 ·exact h
def b6d:Option AV->Option (List (List AV))
 |some (.sl els _)=>some els
 |_=>none
theorem a6e{x:Option AV}{els:List (List AV)}(h:b6d x=some els):∃tok,x=some (.sl els tok):=by
 unfold b6d at h;split at h
 ·cases h;exact⟨_,rfl⟩
 ·cases h
structure GFn where
 fn:FuncId
 fi:List AV
 cap:List AV
 hp:(plainL fi&&plainL cap)=true
theorem W4(g:GFn):plainL g.fi=true:=(Bool.and_eq_true _ _▸g.hp).1
theorem M3(g:GFn):plainL g.cap=true:=(Bool.and_eq_true _ _▸g.hp).2
theorem c7m(m:List Bool)(n:Nat)(g:GFn):lowL m n g.fi=true:=lowL_plain _ _ _ (W4 g)
theorem c3k(m:List Bool)(n:Nat)(g:GFn):lowL m n g.cap=true:=lowL_plain _ _ _ (M3 g)
theorem b31(g:GFn):plain (.clo (.func g.fn) g.fi g.cap)=true:=g.hp
def eFn(g:GFn):List AV:=[.clo (.func g.fn) g.fi g.cap]
theorem o1m(g:GFn):plainL (eFn g)=true:=by simp only[eFn,plainL,plain,W4,M3];rfl
theorem a0e(l:List GFn):plainLL (l.map eFn)=true:=D1 _ _ fun x _=>o1m x
section
variable {P:Program}{h h':A3}{env e:Env}{N kb kf:Nat}{Q:Exit->Env->A3->Prop}{K:Env->A3->Prop}{L:List C9}{k:Nat}{S gl:List (Nat × List AV)}{b:Bool}{x y:A0}
theorem vo{o:C9}{av:AV}{d:Nat}(hl:L[k]? =some o)(ha:a1i P o.op env h av h')(hd:o.dst=some d)(hk:Vp P L (k+1) ((d,av)::env) h' K)(hg:H6 env o.guard=some true:=by kernel_rfl):Vp P L k env h K:=k09 hl hg ha rfl (by rw[hd];rfl) hk
theorem c6j:∀{e:Env}{t:Nat}{a:AV},get e t=some a->(t,a)∈e
 |[],_,_,h=>by cases h
 |(u,b)::e,t,a,h=>by
  simp only[get]at h;split at h
  ·rename_i hu;subst hu;cases h;exact List.mem_cons_self
  ·exact List.mem_cons_of_mem _ (c6j h)
theorem d5c:∀{e f:Env}{t:Nat},get (e++f) t=match get e t with|some a=>some a|none=>get f t
 |[],_,_=>rfl
 |(u,b)::e,f,t=>by
  simp only[List.cons_append,get];split
  ·rfl
  ·exact d5c
abbrev LO:=List C9
abbrev aI(n:Int):AV:=.v (.int .i64 n)
abbrev aU(n:Int):AV:=.v (.int .u64 n)
abbrev aC(n:Int):AV:=.v (.int .u8 n)
abbrev aB(b:Bool):AV:=.v (.bool b)
abbrev aS(s:ByteArray):AV:=.v (.string s)
abbrev aE:AV:=.v (.string ⟨#[]⟩)
abbrev zV:List AV:=[aI 0,aU 0,aE,.nil,.nil,.nil,.nil]
abbrev LN:=List (List Nat)
theorem dr{ops:List C9}(hv:Vp P ops 0 env h fun env' h'=>Q .normal env' h'):D P N kb kf (.region ops) Q env h:=d7w (d66 hv)
theorem dS(S:List (Nat × List AV)){ord:List (List Nat)}{al tl:List C9}(hv:Sp P S h.globs true al 0 env h fun F h'=>vd P tl F h' fun env' h'=>Q .normal env' h')(hok:okq al=true:=by kernel_rfl)(hst:c67 (clo ord) al=true:=by kernel_rfl)(hS:inS S h=S.map (fun p=>some (some p.2)):=by kernel_rfl):D P N kb kf (.drawn ord al tl) Q env h:=e0a S hok hst hS hv
theorem rx{rs:List b0j}{R:Type}{f:R->AV}{r r0:R}(hw:r=r0)(hp:plain (f r0)=true)(he:(b8o env h rs).map (fun l=>nz (c36 l))=some (f r0):=by kernel_rfl):h4b rs (f r) .ret env h:=by
 subst hw;simp only[Option.map_eq_some_iff]at he;obtain⟨l,h1,h2⟩:=he;exact n9d h1 h2 hp
abbrev tl(P:Program)(N:Nat)(y:A0)(Q:Exit->Env->A3->Prop):Exit->Env->A3->Prop:=c6l (fun e h=>DL P N 0 0 y Q e h) Q
theorem ds{P:Program}{N kb kf:Nat}{ops:List C9}{y:A0}{Q:Exit->Env->A3->Prop}{env:Env}{h:A3}(hv:Vp P ops 0 env h fun env' h'=>D P N kb kf y Q env' h'):D P N kb kf (.seq (.region ops) y) Q env h:=e2g (dr hv)
def b3p:Option AV->Option Int
 |some (.v (.int _ n))=>some n
 |_=>none
theorem a35{x:Option AV}{n:Int}(h:b3p x=some n):∃k,x=some (.v (.int k n)):=by
 unfold b3p at h;split at h
 ·cases h;exact⟨_,rfl⟩
 ·cases h
variable {α:Type}
theorem m05{x:G2}(l:List α)(e:α->List AV)(hx:b6d (x.ev env)=some (List.map e l):=by kernel_rfl):a1i P (.len false x) env h (.v (.int .i64 l.length)) h:=by
 obtain⟨tok,hx⟩:=a6e hx;exact n7c hx
theorem m0n{size:Nat}{x i:G2}{l:List α}{e' e:α->List AV}{n:Int}{y:α}(h0:0<=n)(hy:l[n.toNat]? =some y)(he:e' y=e y)(hx:b6d (x.ev env)=some (List.map e' l):=by kernel_rfl)(hi:b3p (i.ev env)=some n:=by kernel_rfl)(hs:(e y).length=size:=by kernel_rfl):a1i P (.idxSl size x i) env h (.elt (e y) 0) h:=by
 obtain⟨tok,hx⟩:=a6e hx;obtain⟨k,hi⟩:=a35 hi;exact g9l hx hi h0 hy he hs
theorem l89{x i:G2}{s:ByteArray}{n:Int}(h0:0<=n/\n<(s.size:Int))(hx:x.ev env=some (.v (.string s)):=by kernel_rfl)(hi:b3p (i.ev env)=some n:=by kernel_rfl):a1i P (.idxS x i) env h (.v (.int .u8 (C7 s n.toNat))) h:=by
 obtain⟨k,hi⟩:=a35 hi;exact i3k hx hi h0
theorem d7a{x:G2}{lo hi:Option G2}{s:ByteArray}{l u:Int}(h0:0<=l/\l<=u/\u<=(s.size:Int))(hx:x.ev env=some (.v (.string s)):=by kernel_rfl)(h3:(evo env lo).bind (E2 0)=some l:=by kernel_rfl)(h4:(evo env hi).bind (E2 s.size)=some u:=by kernel_rfl):a1i P (.sliceS x lo hi) env h (.v (.string (s.extract l.toNat u.toNat))) h:=by
 obtain⟨lv,h1,h3⟩:=Option.bind_eq_some_iff.1 h3;obtain⟨hv,h2,h4⟩:=Option.bind_eq_some_iff.1 h4;exact d7v hx h1 h2 h3 h4 h0
theorem g3e{size:Nat}{x:G2}{lo hi:Option G2}{l:List α}{e':α->List AV}{a u:Int}(h0:0<=a/\a<=u/\u<=(l.length:Int))(hs:∀y,(e' y).length=size)(hx:b6d (x.ev env)=some (List.map e' l):=by kernel_rfl)(h3:(evo env lo).bind (E2 0)=some a:=by kernel_rfl)(h4:(evo env hi).bind (E2 l.length)=some u:=by kernel_rfl)(hc:(lo.isSome||hi.isSome)=true:=by kernel_rfl):a1i P (.sliceV size x lo hi none) env h (.sl (List.map e' ((l.take u.toNat).drop a.toNat)) .no) h:=by
 obtain⟨tok,hx⟩:=a6e hx;obtain⟨lv,h1,h3⟩:=Option.bind_eq_some_iff.1 h3;obtain⟨hv,h2,h4⟩:=Option.bind_eq_some_iff.1 h4;have:=d9a (P:=P) (h:=h) hx h1 h2 h3 h4 h0 hs;cases lo with
 |none=>
  cases hi with
  |none=>cases hc
  |some hi=>
   have e2:∃z,hv=some z:=by
    simp only[evo]at h2;split at h2
    ·cases h2;exact⟨_,rfl⟩
    ·cases h2
   obtain⟨z,rfl⟩:=e2;cases h1;exact this
 |some lo=>
  have e1:∃z,lv=some z:=by
   simp only[evo]at h1;split at h1
   ·cases h1;exact⟨_,rfl⟩
   ·cases h1
  obtain⟨z,rfl⟩:=e1;exact this
theorem d6g{size:Nat}{x m:G2}{lo hi:Option G2}{l:List α}{e':α->List AV}{a u:Int}(h0:0<=a/\a<=u/\u<=(l.length:Int))(hs:∀y,(e' y).length=size)(hx:b6d (x.ev env)=some (List.map e' l):=by kernel_rfl)(h3:(evo env lo).bind (E2 0)=some a:=by kernel_rfl)(h4:(evo env hi).bind (E2 l.length)=some u:=by kernel_rfl)(h5:b3p (m.ev env)=some u:=by kernel_rfl)(hc:hi.isSome=true:=by kernel_rfl):a1i P (.sliceV size x lo hi (some m)) env h (.sl (List.map e' ((l.take u.toNat).drop a.toNat)) .full) h:=by
 obtain⟨tok,hx⟩:=a6e hx;obtain⟨k,h5⟩:=a35 h5;obtain⟨lv,h1,h3⟩:=Option.bind_eq_some_iff.1 h3;obtain⟨hv,h2,h4⟩:=Option.bind_eq_some_iff.1 h4;refine d46 hx h1 h2 h3 h4 h5 ?_ h0 hs;cases hi with
 |none=>cases hc
 |some hi=>
  simp only[evo]at h2;split at h2
  ·cases h2;rfl
  ·cases h2
theorem n0n{x y:G2}{a b:ByteArray}(h0:((a.size+b.size:Nat):Int)<=9223372036854775807)(hx:x.ev env=some (.v (.string a)):=by kernel_rfl)(hy:y.ev env=some (.v (.string b)):=by kernel_rfl):a1i P (.bin .add x y) env h (.v (.string (a++b))) h:=l34 hx hy h0
theorem i7a{g:FuncId}{args:List G2}{l':List AV}{r:AV}(hc:C5 P h.globs g l' r)(hp:plainL l'=true)(ha:(evs env args).map (List.map nz)=some l':=by kernel_rfl)(hgl:J8 h.globs=true:=by kernel_rfl):a1i P (.call (.c (.clo (.func g) [] [])) args) env h r h:=by
 obtain⟨l,h1,h2⟩:=Option.map_eq_some_iff.1 ha;exact f1u rfl h1 h2 hgl hp hc
theorem f7l{f:G2}{args:List G2}{F:AV}{l':List AV}{r:AV}(hc:a7k P h.globs F l' r)(hf:f.ev env=some F:=by kernel_rfl)(ha:(evs env args).map (List.map nz)=some l':=by kernel_rfl)(hgl:J8 h.globs=true:=by kernel_rfl):a1i P (.call f args) env h r h:=by
 obtain⟨l,h1,h2⟩:=Option.map_eq_some_iff.1 ha;exact h0c hf h1 h2 hgl hc
theorem n0q{e0:TypeId}{size byt:Nat}{x y:G2}(id:Nat)(e':α->List AV)(l m:List α)(h0:(l.length+m.length)*byt<=140737488355328)(hs:∀y,(e' y).length=size)(hm:(y.ev env).bind (b7t h size)=some (List.map e' m))(hx:x.ev env=some (.sl (List.map e' l) (.own id)):=by kernel_rfl)(hb:h.bufs[id]? =some (l.length,size):=by kernel_rfl):a1i P (.append e0 size byt x y) env h (.sl (List.map e' (l++m)) (.own id)) ⟨h.blks,h.bufs.set id ((l++m).length,size),h.globs⟩:=by
 obtain⟨Y,h1,h2⟩:=Option.bind_eq_some_iff.1 hm;exact c4l hx h1 h2 hb hs h0
theorem f0y{x:G2}(s:ByteArray)(hx:x.ev env=some (.v (.string s)):=by kernel_rfl):a1i P (.bytes x) env h (.sl (List.map (fun n=>[AV.v (.int .u8 n)]) (bI s)) .no) h:=g9s hx
theorem m0y{x:G2}{l:List Int}{t:ByteArray}(hl:l=bI t)(hx:b6d (x.ev env)=some (List.map (fun n=>[AV.v (.int .u8 n)]) l):=by kernel_rfl):a1i P (.conv .str x) env h (.v (.string t)) h:=by
 obtain⟨tok,hx⟩:=a6e hx;exact m1t hx hl
end
def M1(n:Nat)(β:Option Nat):AV->AV
 |.nil=>.sl [] .no
 |.sl els (.own id)=>if β=some id then .sl els (.own 0) else .sl els .no
 |.sl els .no=>.sl els .no
 |.sl els .full=>.sl els .no
 |.ptr k off=>if k=n then .ptr 0 off else .it ⟨#[]⟩ 0
 |.row k off size len cap=>if k=n then .row 0 off size len cap else .it ⟨#[]⟩ 0
 |.ps k t=>if k=n then .ps 0 t else .it ⟨#[]⟩ 0
 |.bb (.own id) els u=>if β=some id then .bb (.own 0) els u else .it ⟨#[]⟩ 0
 |x=>x
def smol(n:Nat)(β:Option Nat):AV->AV
 |.agg cs=>.agg (cs.map (M1 n β))
 |x=>M1 n β x
def ok1:AV->Bool
 |.ptr 0 _=>true
 |.row 0 _ _ _ _=>true
 |.sl els (.own 0)=>plainLL els
 |.ps 0 _=>true
 |.bb (.own 0) els _=>plainLL els
 |x=>plain x
def okA:AV->Bool
 |.agg cs=>cs.all ok1
 |x=>ok1 x
def c1l(n:Nat)(β:Option Nat):AV->AV
 |.ptr _ off=>.ptr n off
 |.row _ off size len cap=>.row n off size len cap
 |.sl els (.own _)=>match β with
  |some id=>.sl els (.own id)
  |none=>.sl els .no
 |.ps _ t=>.ps n t
 |.bb (.own _) els u=>match β with
  |some id=>.bb (.own id) els u
  |none=>.sl els .no
 |x=>x
theorem b44(n:Nat)(β:Option Nat)(a:AV)(h:ok1 (M1 n β a)=true):(M1 n β a).isCell=a.isCell:=by
 cases a with
 |sl els tok=>cases tok<;>simp only[M1]<;>(try split)<;>rfl
 |ptr k off=>simp only[M1]at h ⊢;split at h<;>simp_all [ok1,plain,AV.isCell]
 |row k off size len cap=>simp only[M1]at h ⊢;split at h<;>simp_all [ok1,plain,AV.isCell]
 |ps k t=>simp only[M1]at h ⊢;split at h<;>simp_all [ok1,plain,AV.isCell]
 |bb k els u=>cases k<;>simp only[M1]at h ⊢<;>(try split at h)<;>simp_all [ok1,plain,AV.isCell]
 |_=>rfl
theorem d4s(n:Nat)(β:Option Nat)(a:AV):(c1l n β a).isCell=a.isCell:=by
 cases a with
 |sl els tok=>cases tok<;>simp only[c1l]<;>(try split)<;>rfl
 |bb k els u=>cases k<;>simp only[c1l]<;>(try split)<;>rfl
 |_=>rfl
def Sg.mine(σ:Sg)(b0:Nat)(β:Option Nat):Sg:=⟨σ.w,fun i=>if i=0 then some b0 else none,fun j=>if j=0 then β.bind σ.buf else none,fun _ _=>False⟩
def Sg.small(σ:Sg)(b0:Nat)(β:Option Nat):Sg:={σ.mine b0 β with outer:=fun b o=>σ.open_ b o/\¬(σ.mine b0 β).own b o}
theorem a9x{σ:Sg}{b0:Nat}{β:Option Nat}{b o:Nat}:(σ.mine b0 β).own b o↔b=b0\/∃id e,β=some id/\σ.buf id=some e/\e.tail b o:=by
 constructor
 ·rintro (⟨k,hk⟩|⟨j,e,he,hs⟩)
  ·simp only[Sg.mine]at hk;split at hk
   ·cases hk;exact .inl rfl
   ·cases hk
  ·simp only[Sg.mine]at he;split at he
   ·obtain⟨id,h1,h2⟩:=Option.bind_eq_some_iff.1 he;exact .inr ⟨id,e,h1,h2,hs⟩
   ·cases he
 ·rintro (rfl|⟨id,e,h1,h2,hs⟩)
  ·exact .inl ⟨0,rfl⟩
  ·exact .inr ⟨0,e,by simp[Sg.mine,h1,h2],hs⟩
theorem a6q{σ:Sg}{b0:Nat}{β:Option Nat}{b o:Nat}:(σ.small b0 β).own b o↔(σ.mine b0 β).own b o:=Iff.rfl
theorem c46{σ:Sg}{b0 n:Nat}{β:Option Nat}(hn:σ.blk n=some b0){b o:Nat}(h:(σ.small b0 β).own b o):σ.own b o:=by
 rcases a9x.1 (a6q.1 h) with rfl|⟨id,e,h1,h2,hs⟩
 ·exact .inl ⟨n,hn⟩
 ·exact .inr ⟨id,e,h2,hs⟩
theorem b5s{σ:Sg}{b0 n:Nat}{β:Option Nat}(hn:σ.blk n=some b0){b o:Nat}:(σ.small b0 β).open_ b o↔σ.open_ b o:=by
 constructor
 ·rintro (h|h)
  ·exact h.1
  ·exact .inr (c46 hn h)
 ·intro h;rcases Classical.em ((σ.mine b0 β).own b o) with hm|hm
  ·exact .inr hm
  ·exact .inl ⟨h,hm⟩
theorem Rel.move{σ σ':Sg}{a:AV}{x:Value}(hr:Rel σ a x)(hp:plain a=true)(hw:σ'.w=σ.w)(ho:∀b o,σ'.open_ b o->σ.open_ b o):Rel σ' a x:=
 (hr.down (w:=σ.w) (outer:=σ.open_) hp rfl fun _ _ h=>h).up (fun _=>rfl) (fun _=>rfl) hw.symm fun b o h=>.inl (ho b o h)
theorem c2a{σ:Sg}{b0 n id:Nat}{β:Option Nat}(hn:σ.blk n=some b0)(hb:β=some id){els:List (List AV)}{x:Value}(hr:Rel σ (.sl els (.own id)) x)(hok:plainLL els=true):Rel (σ.small b0 β) (.sl els (.own 0)) x:=by
 have hop:∀b o,(σ.small b0 β).open_ b o->σ.open_ b o:=fun b o h=>(b5s hn).1 h
 have hbuf:(σ.small b0 β).buf 0=σ.buf id:=by simp[Sg.small,Sg.mine,hb]
 have tk:∀{len:Nat}{a:Option Addr}{cap:Nat},b4c σ (.own id) len a cap->b4c (σ.small b0 β) (.own 0) len a cap:=by
  rintro len a cap ⟨e,h1,h2⟩;exact⟨e,by rw[hbuf];exact h1,h2⟩
 cases hr with
 |sl0 _ ht=>exact .sl0 _ (tk ht)
 |slx _ a cap ht hc=>exact .slx _ a cap (tk ht) (hc.elim (fun h=>by cases h) .inr)
 |sl _ _ b o cap size xs hs hcap ht hz hc hr=>
  refine .sl _ _ b o cap size xs hs hcap (tk ht) (fun j e hj he=>?_) (fun i el hi j av hj=>?_) fun i el hi j av hj=>?_
  ·cases hj;rw[hbuf]at he;exact hz id e rfl he
  ·obtain⟨h1,h2,h3⟩:=hc i el hi j av hj;exact⟨h1,fun h=>h2 (hop _ _ h),h3⟩
  ·exact(hr i el hi j av hj).move (J9 (a1s hok i el hi) j av hj) rfl hop
theorem a1h{σ:Sg}{b0 n:Nat}{β:Option Nat}(hn:σ.blk n=some b0){a:AV}{x:Value}(hr:Rel σ a x)(hok:ok1 (M1 n β a)=true):Rel (σ.small b0 β) (M1 n β a) x:=by
 have hop:∀b o,(σ.small b0 β).open_ b o->σ.open_ b o:=fun b o h=>(b5s hn).1 h
 have pl:∀{a:AV},Rel σ a x->plain a=true->Rel (σ.small b0 β) a x:=fun h hp=>h.move hp rfl hop
 cases a with
 |nil=>exact pl hr.nz1 rfl
 |sl els tok=>
  cases tok with
  |no=>exact pl hr.nz1 hok
  |full=>exact pl hr.nz1 hok
  |own id=>
   simp only[M1]at hok ⊢;split at hok
   ·rename_i hb;rw[if_pos hb];exact c2a hn hb hr (by simpa only[ok1]using hok)
   ·rename_i hb;rw[if_neg hb];exact pl hr.nz1 hok
 |ptr k off=>
  simp only[M1]at hok ⊢;split at hok
  ·rename_i hk;subst hk;rw[if_pos rfl];cases hr with
   |ptr _ _ b h=>rw[hn]at h;cases h;exact .ptr 0 off b0 rfl
  ·simp[ok1,plain]at hok
 |row k off size len cap=>
  simp only[M1]at hok ⊢;split at hok
  ·rename_i hk;subst hk;rw[if_pos rfl];cases hr with
   |row _ _ _ _ _ b cap' h hc hm hx=>rw[hn]at h;cases h;exact .row 0 off size len cap b0 cap' rfl hc hm hx
  ·simp[ok1,plain]at hok
 |ps k t=>
  simp only[M1]at hok ⊢;split at hok
  ·rename_i hk;subst hk;rw[if_pos rfl];cases hr with
   |ps _ _ b p h hs hp=>rw[hn]at h;cases h;exact .ps 0 t b0 p rfl hs hp
  ·simp[ok1,plain]at hok
 |bb k els u=>
  cases k with
  |own id=>
   simp only[M1]at hok ⊢;split at hok
   ·rename_i hb;rw[if_pos hb];simp only[ok1]at hok;cases hr with
    |bbo _ _ _ a m cap h hu=>
     exact .bbo 0 els u a m cap (c2a hn hb h hok) hu
   ·simp[ok1,plain]at hok
  |nil=>simp[M1,ok1,plain]at hok
  |data id=>simp[M1,ok1,plain]at hok
  |raw id m=>simp[M1,ok1,plain]at hok
 |_=>exact pl hr (by simpa[M1,ok1]using hok)
theorem d0b{σ:Sg}{b0 n:Nat}{β:Option Nat}(hn:σ.blk n=some b0){a:AV}{x:Value}(hr:Rel σ a x)(hok:okA (smol n β a)=true):Rel (σ.small b0 β) (smol n β a) x:=by
 cases a with
 |agg cs=>
  simp only[smol,okA]at hok ⊢;obtain⟨xs,rfl,hc⟩:=hr.agg_inv;refine Rel.agg_mk' ⟨by simp[hc.1],fun i av hi=>?_⟩;have hok1:=List.all_eq_true.1 hok av (List.mem_of_getElem? hi);simp only[List.getElem?_map,Option.map_eq_some_iff]at hi;obtain⟨b,hb,rfl⟩:=hi;obtain⟨h1,x,h2,h3⟩:=hc.2 i b hb;exact⟨by rw[b44 n β b hok1];exact h1,x,h2,a1h hn h3 hok1⟩
 |sl els tok=>cases tok with
  |own id=>
   refine a1h hn hr ?_;simp only[smol,M1]at hok ⊢;split at hok<;>rename_i hb<;>simp only[hb,if_true,if_false]<;>exact hok
  |_=>exact a1h hn hr hok
 |ptr k off=>
  refine a1h hn hr ?_;simp only[smol,M1]at hok ⊢;split at hok<;>rename_i hb<;>simp only[hb,if_true,if_false]<;>exact hok
 |row k off size len cap=>
  refine a1h hn hr ?_;simp only[smol,M1]at hok ⊢;split at hok<;>rename_i hb<;>simp only[hb,if_true,if_false]<;>exact hok
 |ps k t=>
  refine a1h hn hr ?_;simp only[smol,M1]at hok ⊢;split at hok<;>rename_i hb<;>simp only[hb,if_true,if_false]<;>exact hok
 |bb k els u=>
  refine a1h hn hr ?_;cases k with
  |own id=>
   simp only[smol,M1]at hok ⊢;split at hok<;>rename_i hb<;>simp only[hb,if_true,if_false]<;>exact hok
  |_=>exact hok
 |_=>exact a1h hn hr hok
def Sg.big(σ σ1:Sg)(β:Option Nat):Sg:=⟨σ1.w,σ.blk,fun id=>if β=some id then σ1.buf 0 else σ.buf id,σ.outer⟩
theorem c9m{σ σ1:Sg}{id:Nat}(ho:∀b o,(σ.big σ1 (some id)).open_ b o->σ1.open_ b o){els:List (List AV)}{x:Value}(hr:Rel σ1 (.sl els (.own 0)) x)(hok:plainLL els=true):Rel (σ.big σ1 (some id)) (.sl els (.own id)) x:=by
 have hbuf:(σ.big σ1 (some id)).buf id=σ1.buf 0:=by simp[Sg.big]
 have tk:∀{len:Nat}{a:Option Addr}{cap:Nat},b4c σ1 (.own 0) len a cap->b4c (σ.big σ1 (some id)) (.own id) len a cap:=by
  rintro len a cap ⟨e,h1,h2⟩;exact⟨e,by rw[hbuf];exact h1,h2⟩
 cases hr with
 |sl0 _ ht=>exact .sl0 _ (tk ht)
 |slx _ a cap ht hc=>exact .slx _ a cap (tk ht) (hc.elim (fun h=>by cases h) .inr)
 |sl _ _ b o cap size xs hs hcap ht hz hc hr=>
  refine .sl _ _ b o cap size xs hs hcap (tk ht) (fun j e hj he=>?_) (fun i el hi j av hj=>?_) fun i el hi j av hj=>?_
  ·cases hj;rw[hbuf]at he;exact hz 0 e rfl he
  ·obtain⟨g1,g2,g3⟩:=hc i el hi j av hj;exact⟨g1,fun h=>g2 (ho _ _ h),g3⟩
  ·exact(hr i el hi j av hj).move (J9 (a1s hok i el hi) j av hj) rfl ho
theorem g93{σ σ1:Sg}{b0 n:Nat}{β:Option Nat}(hn:σ.blk n=some b0)(h1:σ1.blk 0=some b0)(ho:∀b o,(σ.big σ1 β).open_ b o->σ1.open_ b o){a:AV}{x:Value}(hr:Rel σ1 a x)(hok:ok1 a=true):Rel (σ.big σ1 β) (c1l n β a) x:=by
 have pl:∀{a:AV},Rel σ1 a x->plain a=true->Rel (σ.big σ1 β) a x:=fun h hp=>h.move hp rfl ho
 cases a with
 |sl els tok=>
  cases tok with
  |no=>exact pl hr hok
  |full=>exact pl hr hok
  |own j=>
   cases j with
   |succ j=>simp[ok1,plain]at hok
   |zero=>
    simp only[ok1]at hok;cases β with
    |none=>exact(show Rel σ1 (.sl els .no) x from hr.nz1).move (by simpa[plain]using hok) rfl ho
    |some id=>
     simp only[c1l];exact c9m ho hr hok
 |ptr k off=>
  cases k with
  |succ k=>simp[ok1,plain]at hok
  |zero=>cases hr with
   |ptr _ _ b h=>rw[h1]at h;cases h;exact .ptr n off b0 hn
 |row k off size len cap=>
  cases k with
  |succ k=>simp[ok1,plain]at hok
  |zero=>cases hr with
   |row _ _ _ _ _ b cap' h hc hm hx=>rw[h1]at h;cases h;exact .row n off size len cap b0 cap' hn hc hm hx
 |ps k t=>
  cases k with
  |succ k=>simp[ok1,plain]at hok
  |zero=>cases hr with
   |ps _ _ b p h hs hp=>rw[h1]at h;cases h;exact .ps n t b0 p hn hs hp
 |bb k els u=>
  cases k with
  |own j=>
   cases j with
   |succ j=>simp[ok1,plain]at hok
   |zero=>
    simp only[ok1]at hok;cases hr with
    |bbo _ _ _ a m cap h hu=>
     cases β with
     |none=>exact(show Rel σ1 (.sl els .no) _ from h.nz1).move (by simpa[plain]using hok) rfl ho
     |some id=>exact .bbo id els u a m cap (c9m ho h hok) hu
  |nil=>simp[ok1,plain]at hok
  |data id=>simp[ok1,plain]at hok
  |raw id m=>simp[ok1,plain]at hok
 |_=>have h:=pl hr (by simpa[ok1]using hok);exact h
def c01(P:Program)(gl:List (Nat × List AV))(f:FuncId)(args c:List AV)(bf:List (Nat × Nat))(r:AV)(c':List AV)(bf':List (Nat × Nat)):Prop:=
 b0d P f args ⟨[some c],bf,gl⟩ fun av h=>nz av=r/\h=⟨[some c'],bf',gl⟩
theorem d9y{f:AV->AV}(hf:∀a,(f a).isIt=a.isIt):∀{l:List AV},a4j l=true->a4j (l.map f)=true
 |[],h=>h
 |a::_,h=>by simpa[a4j,hf]using h
theorem f74(n:Nat)(β:Option Nat)(a:AV):(c1l n β a).isIt=a.isIt:=by
 cases a with
 |sl els tok=>cases tok<;>simp only[c1l]<;>(try split)<;>rfl
 |bb k els u=>cases k<;>simp only[c1l]<;>(try split)<;>rfl
 |_=>rfl
theorem d3d{h:A3}{σ:Sg}(hi:Inv h σ){n b0:Nat}{β:Option Nat}{cb c:List AV}{bf:List (Nat × Nat)}(hn:h.blks[n]? =some (some cb))(hb0:σ.blk n=some b0)(hit:a4j cb=true)(hc:cb.map (M1 n β)=c)(hok:c.all ok1=true)
  (hbf:(β=none/\bf=[])\/∃id x,β=some id/\bf=[x]/\h.bufs[id]? =some x) (hgl:J8 h.globs=true):Inv ⟨[some c],bf,h.globs⟩ (σ.small b0 β):=by
 have hblk:∀{k b:Nat},(σ.small b0 β).blk k=some b->k=0/\b=b0:=by
  intro k b hk;simp only[Sg.small,Sg.mine]at hk;split at hk
  ·rename_i h0;cases hk;exact⟨h0,rfl⟩
  ·cases hk
 have hbuf:∀{j:Nat}{e:Buf},(σ.small b0 β).buf j=some e->j=0/\∃id,β=some id/\σ.buf id=some e:=by
  intro j e he;simp only[Sg.small,Sg.mine]at he;split at he
  ·rename_i h0;obtain⟨id,h1,h2⟩:=Option.bind_eq_some_iff.1 he;exact⟨h0,id,h1,h2⟩
  ·cases he
 have hopen:∀b o,σ.open_ b o->b<σ.w.heap.size:=by
  rintro b o (ho|⟨n,hn⟩|⟨id,e,he,hs⟩)
  ·exact(hi.outer b o ho).1
  ·exact hi.lt hn
  ·exact hi.buflt id e b o he hs
 refine⟨fun k cells hk=>?_,fun k b hk=>?_,fun k m b c1 c2 hk hm _ _ _ _=>?_,fun j x hj=>?_,fun j e he=>?_,fun j e he=>?_,fun j e b o he hs=>?_,fun j e b o he hs=>?_,fun j e b o he hs=>?_,fun i j e f b o he hf _ _=>?_,fun j e k b o he hs hk=>?_,fun b o ho=>?_,fun g cells hg=>?_⟩
 ·cases k with
  |succ k=>simp at hk
  |zero=>
   simp only[List.getElem?_cons_zero,Option.some.injEq]at hk;subst hk;refine⟨b0,rfl,?_⟩;obtain⟨b',h1,h2⟩:=hi.blk n cb hn;rw[hb0]at h1;cases h1;obtain⟨cs,rest,elem,g1,g2⟩:=h2.plain hit;refine .cells _ cs rest elem g1 ⟨by rw[g2.1,<-hc];simp,fun i av hav=>?_⟩;have hok1:=List.all_eq_true.1 hok av (List.mem_of_getElem? hav);rw[<-hc]at hav;simp only[List.getElem?_map,Option.map_eq_some_iff]at hav;obtain⟨a,ha,rfl⟩:=hav;obtain⟨k1,x,k2,k3⟩:=g2.2 i a ha;exact⟨by rw[b44 n β a hok1];exact k1,x,k2,a1h hb0 k3 hok1⟩
 ·obtain⟨rfl,_⟩:=hblk hk;exact⟨c,rfl⟩
 ·have h1:=(List.getElem?_eq_some_iff.1 hk).1;have h2:=(List.getElem?_eq_some_iff.1 hm).1;simp at h1 h2;omega
 ·rcases hbf with⟨_,rfl⟩|⟨id,y,rfl,rfl,hy⟩
  ·simp at hj
  ·cases j with
   |succ j=>simp at hj
   |zero=>
    simp at hj;subst hj;obtain⟨e,h1,h2⟩:=hi.buf id y hy;exact⟨e,by simp[Sg.small,Sg.mine,h1],h2⟩
 ·obtain⟨rfl,id,hβ,h1⟩:=hbuf he;rcases hbf with⟨h0,_⟩|⟨id',y,h0,rfl,hy⟩
  ·rw[h0]at hβ;cases hβ
  ·rw[h0]at hβ;cases hβ;have:=hi.bufdom id e h1;rw[hy]at this;simpa using this
 ·obtain⟨_,id,hβ,h1⟩:=hbuf he;exact hi.bufle id e h1
 ·obtain⟨_,id,hβ,h1⟩:=hbuf he;exact hi.bufat id e b o h1 hs
 ·obtain⟨_,id,hβ,h1⟩:=hbuf he;exact hi.bufun id e b o h1 hs
 ·obtain⟨_,id,hβ,h1⟩:=hbuf he;exact hi.buflt id e b o h1 hs
 ·exact(hbuf he).1.trans (hbuf hf).1.symm
 ·obtain⟨_,id,hβ,h1⟩:=hbuf he;obtain⟨_,rfl⟩:=hblk hk;exact hi.bufblk id e n _ o h1 hs hb0
 ·exact⟨hopen b o ho.1,fun h=>ho.2 h⟩
 ·exact(hi.glob g cells hg).move (by simp only[plain];exact List.all_eq_true.1 hgl _ hg) rfl fun b o h=>(b5s hb0).1 h
theorem d29{P:Program}{f:FuncId}{args args' c cb c':List AV}{bf bf' bs:List (Nat × Nat)}{r:AV}{h:A3}{n:Nat}{β:Option Nat}{K:AV->A3->Prop}(hf:c01 P h.globs f args c bf r c' bf')(hgl:J8 h.globs=true)
  (hn:h.blks[n]? =some (some cb)) (hit:a4j cb=true) (hc:cb.map (M1 n β)=c) (hok:c.all ok1=true) (hit':a4j c'=true) (hok':c'.all ok1=true) (hargs:args'.map (smol n β)=args) (hoka:args.all okA=true) (hr:plain r=true)
  (hbf:(β=none/\bf=[]/\bf'=[]/\bs=h.bufs)\/∃x x',β=some 0/\bf=[x]/\bf'=[x']/\h.bufs=[x]/\bs=[x']) (hk:K r ⟨h.blks.set n (some (c'.map (c1l n β))),bs,h.globs⟩):b0d P f args' h K:=by
 refine⟨hf.1,fun σ cargs hi hrel=>?_⟩;obtain⟨b0,hb0,hat⟩:=hi.blk n cb hn
 have hinv:=d3d hi hn hb0 hit hc hok (bf:=bf) (by
  rcases hbf with⟨h1,h2,_⟩|⟨x,x',h1,h2,_,h4,_⟩
  ·exact .inl ⟨h1,h2⟩
  ·exact .inr ⟨0,x,h1,h2,by rw[h4];rfl⟩) hgl
 have hrels:b7b (σ.small b0 β) args cargs.toList:=by
  refine⟨by rw[hrel.1,<-hargs];simp,fun i av hav=>?_⟩;have hoka1:=List.all_eq_true.1 hoka av (List.mem_of_getElem? hav);rw[<-hargs]at hav;simp only[List.getElem?_map,Option.map_eq_some_iff]at hav;obtain⟨a,ha,rfl⟩:=hav;obtain⟨x,h1,h2⟩:=hrel.2 i a ha;exact⟨x,h1,d0b hb0 h2 hoka1⟩
 refine(hf.2 (σ.small b0 β) cargs hinv hrels).mono fun e w' hq=>?_
 obtain⟨σ1,h1,av,x,rfl,rfl,hle,hi1,hrx,hav,rfl⟩:=hq;have hb1:σ1.blk 0=some b0:=hle.blk 0 b0 rfl;have hsub:∀b o,(σ.small b0 β).own b o->σ.own b o:=fun b o h=>c46 hb0 h
 have hbuf1:∀{id:Nat}{e:Buf},(σ.big σ1 β).buf id=some e->(β=some id/\σ1.buf 0=some e)\/(β≠some id/\σ.buf id=some e):=by
  intro id e he;simp only[Sg.big]at he;split at he
  ·rename_i h0;exact .inl ⟨h0,he⟩
  ·rename_i h0;exact .inr ⟨h0,he⟩
 have hbufs:∀id e,β≠some id->σ.buf id=some e->β=none:=by
  intro id e h0 he;rcases hbf with⟨h1,_⟩|⟨x,x',h1,_,_,h4,_⟩
  ·exact h1
  ·have:=hi.bufdom id e he;rw[h4]at this;have hlt:=(List.getElem?_eq_some_iff.1 this).1;simp at hlt;subst hlt;exact(h0 h1).elim
 have hown:∀b o,b<σ.w.heap.size->(σ.big σ1 β).own b o->σ.own b o:=by
  rintro b o hb (⟨k,hk⟩|⟨id,e,he,hs⟩)
  ·exact .inl ⟨k,hk⟩
  ·rcases hbuf1 he with⟨_,h2⟩|⟨_,h2⟩
   ·exact hsub b o (hle.own b o hb (.inr ⟨0,e,h2,hs⟩))
   ·exact .inr ⟨id,e,h2,hs⟩
 have hsize:=hle.size
 have hopen:∀b o,(σ.big σ1 β).open_ b o->σ1.open_ b o:=by
  have side:∀b o,σ.open_ b o->¬(σ.small b0 β).own b o->σ1.open_ b o:=fun b o h1 h2=>.inl (by rw[hle.outer];exact⟨h1,h2⟩)
  rintro b o (ho|⟨k,hk⟩|⟨id,e,he,hs⟩)
  ·exact side b o (.inl ho) fun h=>(hi.outer b o ho).2 (hsub b o h)
  ·rcases Classical.em (b=b0) with rfl|hne
   ·exact .inr (.inl ⟨0,hb1⟩)
   ·refine side b o (.inr (.inl ⟨k,hk⟩)) fun h=>?_
    rcases a9x.1 (a6q.1 h) with h|⟨id,e,_,he,hs⟩
    ·exact hne h
    ·exact hi.bufblk id e k b o he hs hk
  ·rcases hbuf1 he with⟨_,h2⟩|⟨h1,h2⟩
   ·exact .inr (.inr ⟨0,e,h2,hs⟩)
   ·refine side b o (.inr (.inr ⟨id,e,h2,hs⟩)) fun h=>?_
    rcases a9x.1 (a6q.1 h) with rfl|⟨id',e',h1',he',hs'⟩
    ·exact hi.bufblk id e n _ o h2 hs hb0
    ·have:=hi.bufinj id id' e e' b o h2 he' hs hs';subst this;exact h1 h1'
 have hLe:Le σ (σ.big σ1 β):=by
  refine⟨fun k b hk=>hk,fun id e he=>?_,rfl,fun b o hb ho=>hle.cell b o hb fun h=>ho (hsub b o h),hle.ext,fun b hb ho=>hle.whole b hb fun o h=>ho o (hsub b o h),fun b x hx=>hle.shape b x hx,hown,hsize,hle.os,hle.tape,hle.output⟩;simp only[Sg.big];split
  ·rename_i h0;exact hle.buf 0 e (by simp[Sg.small,Sg.mine,h0,he])
  ·exact⟨e,he,Nat.le_refl _,rfl,fun _=>rfl⟩
 have hcb:cb≠[]:=a7n hit;have hnlt:n<h.blks.length:=(List.getElem?_eq_some_iff.1 hn).1
 have hnew:a2g (σ.big σ1 β) b0 (c'.map (c1l n β)):=by
  obtain⟨b',g1,g2⟩:=hi1.blk 0 c' rfl;rw[hb1]at g1;cases g1;obtain⟨cs,rest,elem,g3,g4⟩:=g2.plain hit';refine .cells _ cs rest elem g3 ⟨by rw[g4.1];simp,fun i a hi=>?_⟩;simp only[List.getElem?_map,Option.map_eq_some_iff]at hi;obtain⟨a',ha,rfl⟩:=hi;obtain⟨k1,y,k2,k3⟩:=g4.2 i a' ha;exact⟨by rw[d4s];exact k1,y,k2,g93 hb0 hb1 hopen k3 (List.all_eq_true.1 hok' a' (List.mem_of_getElem? ha))⟩
 have hitn:a4j (c'.map (c1l n β))=true:=d9y (f74 n β) hit'
 have hold:∀{k:Nat}{cells:List AV},(h.blks.set n (some (c'.map (c1l n β))))[k]? =some (some cells)->(k=n/\cells=c'.map (c1l n β))\/(k≠n/\h.blks[k]? =some (some cells)):=by
  intro k cells hk;rcases Classical.em (n=k) with h0|h0
  ·subst h0;rw[List.getElem?_set_self hnlt]at hk;simp only[Option.some.injEq]at hk;exact .inl ⟨rfl,hk.symm⟩
  ·rw[List.getElem?_set_ne h0]at hk;exact .inr ⟨fun h=>h0 h.symm,hk⟩
 have hinv':Inv ⟨h.blks.set n (some (c'.map (c1l n β))),bs,h.globs⟩ (σ.big σ1 β):=by
  refine⟨fun k cells hk=>?_,fun k b hk=>?_,fun k m b c1 c2 hk hm hc1 hc2 hbk hbm=>?_,fun id y hy=>?_,fun id e he=>?_,fun id e he=>?_,fun id e b o he hs=>?_,fun id e b o he hs=>?_,fun id e b o he hs=>?_,fun i j e f b o he hf hs hs'=>?_,fun id e k b o he hs hk=>?_,fun b o ho=>?_,fun g cells hg=>?_⟩
  ·rcases hold hk with⟨rfl,rfl⟩|⟨hne,hk'⟩
   ·exact⟨b0,hb0,hnew⟩
   ·obtain⟨b,g1,g2⟩:=hi.blk k cells hk';refine⟨b,g1,?_⟩;rcases Classical.em (b=b0) with rfl|hb
    ·rcases Classical.em (cells=[]) with rfl|hce
     ·exact hnew.nil hitn
     ·exact(hne (hi.inj k n _ cells cb hk' hn hce hcb g1 hb0)).elim
    ·refine g2.keep hLe (hle.whole b (hi.lt g1) fun o h=>?_);rcases a9x.1 (a6q.1 h) with h|⟨id,e,_,he,hs⟩
     ·exact hb h
     ·exact hi.bufblk id e k b o he hs g1
  ·obtain⟨cc,g1⟩:=hi.dom k b hk;show ∃c,(h.blks.set n _)[k]? =some (some c)
   rcases Classical.em (n=k) with h0|h0
   ·subst h0;rw[List.getElem?_set_self hnlt];exact⟨_,rfl⟩
   ·rw[List.getElem?_set_ne h0];exact⟨cc,g1⟩
  ·rcases hold hk with⟨rfl,rfl⟩|⟨hne,hk'⟩<;>rcases hold hm with⟨rfl,rfl⟩|⟨hne2,hm'⟩
   ·rfl
   ·exact hi.inj _ _ b cb c2 hn hm' hcb hc2 hbk hbm
   ·exact hi.inj _ _ b c1 cb hk' hn hc1 hcb hbk hbm
   ·exact hi.inj _ _ b c1 c2 hk' hm' hc1 hc2 hbk hbm
  ·rcases hbf with⟨h1,h2,h3,rfl⟩|⟨z,z',h1,h2,h3,h4,rfl⟩
   ·obtain⟨e,g1,g2⟩:=hi.buf id y hy;exact⟨e,by simp only[Sg.big];rw[if_neg (by rw[h1];exact fun h=>by cases h)];exact g1,g2⟩
   ·cases id with
    |succ id=>simp at hy
    |zero=>
     simp at hy;subst hy;obtain⟨e,g1,g2⟩:=hi1.buf 0 z' (by rw[h3];rfl);exact⟨e,by simp only[Sg.big];rw[if_pos h1];exact g1,g2⟩
  ·rcases hbuf1 he with⟨g1,g2⟩|⟨g1,g2⟩
   ·have:=hi1.bufdom 0 e g2;rcases hbf with⟨h1,_⟩|⟨z,z',h1,h2,h3,h4,rfl⟩
    ·rw[h1]at g1;cases g1
    ·rw[h1]at g1;cases g1;subst h3;exact this
   ·have hb:=hbufs id e g1 g2;rcases hbf with⟨h1,h2,h3,rfl⟩|⟨z,z',h1,_⟩
    ·exact hi.bufdom id e g2
    ·rw[h1]at hb;cases hb
  ·rcases hbuf1 he with⟨g1,g2⟩|⟨g1,g2⟩
   ·exact hi1.bufle 0 e g2
   ·exact hi.bufle id e g2
  ·rcases hbuf1 he with⟨g1,g2⟩|⟨g1,g2⟩
   ·exact hi1.bufat 0 e b o g2 hs
   ·exact hle.ext b o (hi.bufat id e b o g2 hs)
  ·rcases hbuf1 he with⟨g1,g2⟩|⟨g1,g2⟩
   ·exact hi1.bufun 0 e b o g2 hs
   ·have g4:=hi.bufun id e b o g2 hs;have hbn:=hbufs id e g1 g2
    have hw:=hle.whole b (hi.buflt id e b o g2 hs) fun o' h=>by
     rcases a9x.1 (a6q.1 h) with rfl|⟨id',e',h1',_⟩
     ·exact hi.bufblk id e n _ o g2 hs hb0
     ·rw[hbn]at h1';cases h1'
    show c0w σ1.w b o=true;rw[a32 (show σ1.w.heap[b]? =σ.w.heap[b]? from hw)];exact g4
  ·rcases hbuf1 he with⟨g1,g2⟩|⟨g1,g2⟩
   ·exact hi1.buflt 0 e b o g2 hs
   ·exact Nat.lt_of_lt_of_le (hi.buflt id e b o g2 hs) hsize
  ·rcases hbuf1 he with⟨g1,g2⟩|⟨g1,g2⟩<;>rcases hbuf1 hf with⟨k1,k2⟩|⟨k1,k2⟩
   ·rw[g1]at k1;cases k1;rfl
   ·have:=hbufs j f k1 k2;rw[this]at g1;cases g1
   ·have:=hbufs i e g1 g2;rw[this]at k1;cases k1
   ·exact hi.bufinj i j e f b o g2 k2 hs hs'
  ·have hk':σ.blk k=some b:=hk;rcases hbuf1 he with⟨g1,g2⟩|⟨g1,g2⟩
   ·rcases Classical.em (b=b0) with rfl|hne
    ·exact hi1.bufblk 0 e 0 _ o g2 hs hb1
    ·rcases a9x.1 (a6q.1 (hle.own b o (hi.lt hk') (.inr ⟨0,e,g2,hs⟩))) with h|⟨id',e',_,he',hs'⟩
     ·exact hne h
     ·exact hi.bufblk id' e' k b o he' hs' hk'
   ·exact hi.bufblk id e k b o g2 hs hk'
  ·have hb:=(hi.outer b o ho).1;exact⟨Nat.lt_of_lt_of_le hb hsize,fun h=>(hi.outer b o ho).2 (hown b o hb h)⟩
  ·exact(hi.glob g cells hg).mono hLe
 refine⟨σ.big σ1 β,_,nz av,x,rfl,rfl,hLe,hinv',?_,by rw[hav];exact hk⟩;exact hrx.nz.move (by rw[hav];exact hr) rfl hopen
theorem g04{σ:Sg}{a:AV}{x:Value}(hr:Rel σ a x)(hok:ok1 (M1 0 (some 0) a)=true):Rel σ (M1 0 (some 0) a) x:=by
 cases a with
 |nil=>exact hr.nz1
 |sl els tok=>
  cases tok with
  |no=>exact hr.nz1
  |full=>exact hr.nz1
  |own id=>
   simp only[M1];split
   ·rename_i hb;cases hb;exact hr
   ·exact hr.nz1
 |ptr k off=>
  simp only[M1]at hok ⊢;split at hok
  ·rename_i hk;subst hk;rw[if_pos rfl];exact hr
  ·simp[ok1,plain]at hok
 |row k off size len cap=>
  simp only[M1]at hok ⊢;split at hok
  ·rename_i hk;subst hk;rw[if_pos rfl];exact hr
  ·simp[ok1,plain]at hok
 |ps k t=>
  simp only[M1]at hok ⊢;split at hok
  ·rename_i hk;subst hk;rw[if_pos rfl];exact hr
  ·simp[ok1,plain]at hok
 |bb k els u=>
  cases k with
  |own id=>
   simp only[M1]at hok ⊢;split at hok
   ·rename_i hb;rw[if_pos hb];cases hb;exact hr
   ·simp[ok1,plain]at hok
  |_=>exact hr
 |_=>exact hr
theorem g1o{h:A3}{σ:Sg}(hi:Inv h σ){k:Nat}{c0 c':List AV}(hk:h.blks[0]? =some (some c0))(hit:a4j c0=true)(hc:c0.map (M1 0 (some 0))=c')(hok:c'.all ok1=true)(hlow:lowL [true] k c'=true)(hgl:J8 h.globs=true):Inv ⟨[some c'],h.bufs.take k,h.globs⟩ (σ.cut [true] k):=by
 have h1:=hi.reset hk (a7n hit) (c':=c') fun b hb=>by
  obtain⟨cs,rest,elem,g1,g2⟩:=hb.plain hit;refine .cells _ cs rest elem g1 ⟨by rw[g2.1,<-hc];simp,fun i av hav=>?_⟩;have hok1:=List.all_eq_true.1 hok av (List.mem_of_getElem? hav);rw[<-hc]at hav;simp only[List.getElem?_map,Option.map_eq_some_iff]at hav;obtain⟨a,ha,rfl⟩:=hav;obtain⟨k1,x,k2,k3⟩:=g2.2 i a ha;exact⟨by rw[b44 0 _ a hok1];exact k1,x,k2,g04 k3 hok1⟩
 have hkeep:X5 [true] (h.blks.set 0 (some c'))=[some c']:=by
  cases hb:h.blks with
  |nil=>rw[hb]at hk;cases hk
  |cons x l=>rfl
 have h2:=h1.cut [true] k (by rw[hkeep];simpa[a37]using hlow) hgl;simp only[hkeep]at h2;exact h2
def qio(k:Nat)(rs:List b0j)(r:AV)(c':List AV)(bf':List (Nat × Nat)):Exit->Env->A3->Prop
 |.normal,env,h=>c4w env h rs (fun l=>nz (c36 l)=r)/\plain r=true/\∃c0,h.blks[0]? =some (some c0)/\a4j c0=true/\c0.map (M1 0 (some 0))=c'/\c'.all ok1=true/\lowL [true] k c'=true/\h.bufs.take k=bf'/\h.globs=[]
 |.ret,env,h=>c4w env h rs (fun l=>nz (c36 l)=r)/\plain r=true/\∃c0,h.blks[0]? =some (some c0)/\a4j c0=true/\c0.map (M1 0 (some 0))=c'/\c'.all ok1=true/\lowL [true] k c'=true/\h.bufs.take k=bf'/\h.globs=[]
 |_,_,_=>False
theorem d61{env:Env}{h:A3}{p:Prop}(hp:p):∀{rs:List b0j}{K:List AV->Prop},c4w env h rs K->c4w env h rs fun l=>K l/\p:=by
 intro rs
 induction rs with
 |nil=>intro K hk;exact⟨hk,hp⟩
 |cons x r ih=>
  intro K hk;cases x with
  |tmp t=>
   obtain⟨a,h1,h2⟩:=a7i hk;show wv (get env t) _;rw[h1];exact ih h2
  |cell t n=>
   obtain⟨p,h1,h2⟩:=a7i hk;show wv (get env t) _;rw[h1];simp only[wv,a8g]at h2 ⊢;split at h2
   ·split at h2
    ·split at h2
     ·exact ih h2
     ·exact h2.elim
    ·exact⟨h2.1,ih h2.2⟩
   ·exact h2.elim
theorem o5l{P:Program}{N:Nat}{f:FuncId}{ac:A0}{rs:List b0j}(hf:B0 P f=some (N,ac,rs)){args c:List AV}{bf:List (Nat × Nat)}{r:AV}{c':List AV}{bf':List (Nat × Nat)}{e₀:Env}(k:Nat)(hk:bf.length=k)(hn:args.length<=N)(he:b0a 0 args=e₀)
  (hbody:D P N 1 k ac (qio k rs r c' bf') e₀ ⟨[some c],bf,[]⟩):c01 P [] f args c bf r c' bf':=by
 subst he hk;refine⟨a66 hf,fun σ cargs hi hr=>?_⟩;have hlow:Low σ 1 bf.length:=hi.low (Nat.le_refl _) (Nat.le_refl _)
 have hb:a7w P N ac (c1a rs fun av h=>nz av=r/\plain r=true/\∃c0,h.blks[0]? =some (some c0)/\a4j c0=true/\c0.map (M1 0 (some 0))=c'/\c'.all ok1=true/\lowL [true] bf.length c'=true/\h.bufs.take bf.length=bf'/\h.globs=[]) (b0a 0 args) ⟨[some c],bf,[]⟩:=by
  refine c5s (c5p (Nat.le_refl _) (Nat.le_refl _) hbody) fun e env h hq=>?_
  cases e<;>first|exact hq.elim|exact d61 hq.2 hq.1
 refine(b7j hf hn hb σ cargs hi hr).mono fun e w' hq=>?_
 obtain⟨σ',h',av,x,rfl,rfl,g2,g3,g4,g5,g6,c0,g7,g8,g9,g10,g11,g12,g13⟩:=hq;refine⟨σ'.cut [true] bf.length,⟨[some c'],bf',[]⟩,nz av,x,rfl,rfl,g2.cut hlow (fun k hk=>?_) (Nat.le_refl _),?_,?_,by rw[k00];exact g5,rfl⟩
 ·cases k with
  |zero=>rfl
  |succ k=>omega
 ·have:=g1o g3 (k:=bf.length) g7 g8 g9 g10 g11 (by rw[g13];rfl);rw[g12,g13]at this;exact this
 ·exact g4.nz.move (by rw[g5];exact g6) rfl fun b o h=>c2v h
theorem rio{rs:List b0j}{k:Nat}{R:Type}{f:R->AV}{fc:R->List AV}{fb:R->List (Nat × Nat)}{r r0:R}{env:Env}{h:A3}(hw:r=r0)(hp:plain (f r0)=true/\(fc r0).all ok1=true/\lowL [true] k (fc r0)=true)(c0:List AV)(he:(b8o env h rs).map (fun l=>nz (c36 l))=some (f r0):=by kernel_rfl)(hb:h.blks[0]? =some (some c0):=by kernel_rfl)(hit:a4j c0=true:=by kernel_rfl)(hc:c0.map (M1 0 (some 0))=fc r0:=by kernel_rfl)(hf:h.bufs.take k=fb r0:=by kernel_rfl)(hg:h.globs=[]:=by kernel_rfl):qio k rs (f r) (fc r) (fb r) .ret env h:=by
 subst hw;obtain⟨l,h1,h2⟩:=Option.map_eq_some_iff.1 he;exact⟨a9t h1 h2,hp.1,c0,hb,hit,hc,hp.2.1,hp.2.2,hf,hg⟩
theorem n8v{k:Nat}{rs:List b0j}{r:AV}{c':List AV}{bf':List (Nat × Nat)}:b83 fun e h=>qio k rs r c' bf' .normal e h:=fun e env h he hx=>⟨a9f he hx.1,hx.2⟩
theorem o60{P:Program}{g:FuncId}{env:Env}{args:List G2}{h:A3}{small c c':List AV}{bf bf' bs:List (Nat × Nat)}{r:AV}(n:Nat)(β:Option Nat)(args' cb cn:List AV)(hf:c01 P h.globs g small c bf r c' bf')(hp:c.all ok1=true/\c'.all ok1=true/\small.all okA=true/\plain r=true)
  (hbf:(β=none/\bf=[]/\bf'=[]/\bs=h.bufs)\/∃x x',β=some 0/\bf=[x]/\bf'=[x']/\h.bufs=[x]/\bs=[x'])
  (ha:evs env args=some args':=by kernel_rfl) (hn:h.blks[n]? =some (some cb):=by kernel_rfl) (hit:a4j cb=true:=by kernel_rfl) (hit':a4j c'=true:=by kernel_rfl) (hc:cb.map (M1 n β)=c:=by kernel_rfl) (hargs:args'.map (smol n β)=small:=by kernel_rfl) (hcn:c'.map (c1l n β)=cn:=by kernel_rfl) (hgl:J8 h.globs=true:=by kernel_rfl):
  a1i P (.call (.c (.clo (.func g) [] [])) args) env h r ⟨h.blks.set n (some cn),bs,h.globs⟩:=by
 subst hcn;exact fun K hk=>(c8w rfl ha (d29 hf hgl hn hit hc hp.1 hit' hp.2.1 hargs hp.2.2.1 hp.2.2.2 hbf hk)).out
theorem a0n{a:AV}(h:plain a=true):okA a=true:=by
 have one:∀{a:AV},plain a=true->ok1 a=true:=by
  intro a h;cases a with
  |sl els tok=>cases tok with
   |own id=>simp[plain]at h
   |_=>exact h
  |ptr k off=>cases h
  |row k off size len cap=>cases h
  |ps k t=>cases h
  |bb k els u=>cases h
  |_=>exact h
 cases a with
 |agg cs=>
  simp only[plain]at h
  exact List.all_eq_true.2 fun x hx=>by
   obtain⟨i,hi⟩:=List.mem_iff_getElem?.1 hx;exact one (J9 h i x hi)
 |sl els tok=>exact one h
 |ptr k off=>cases h
 |row k off size len cap=>cases h
 |v x=>exact one h
 |elt c o=>exact one h
 |nil=>exact one h
 |tuple vs=>exact one h
 |iface t x=>exact one h
 |clo f a b=>exact one h
 |glob n=>exact one h
 |it s p=>exact one h
 |mp n=>exact one h
 |ps k t=>cases h
 |bb k els u=>cases h
theorem a7q{a:AV}{l:List AV}(h1:okA a=true)(h2:l.all okA=true):(a::l).all okA=true:=by simp only[List.all_cons,h1,h2];rfl
theorem l6t{P:Program}{f:FuncId}{args:List AV}{h:A3}{K:AV->A3->Prop}{k j:Nat}{cells:List AV}(size:Nat)(hk:h.blks[k]? =some (some cells))(hj:cells[j]? =some .nil)
  (hc:b0d P f args ⟨h.blks.set k (some (cells.set j (.sl [] (.own h.bufs.length)))),h.bufs++[(0,size)],h.globs⟩ K):b0d P f args h K:=by
 refine⟨hc.1,fun σ cargs hi hr=>?_⟩;obtain⟨σ1,w1,l1,s1⟩:=d4y (env:=[]) (N:=0) size hk hj (a:={tmps:=#[],defers:=[]}) ⟨hi,fun t av hg=>(by cases hg),rfl,rfl⟩;have:=hc.2 σ1 cargs s1.inv ⟨hr.1,fun i av hi=>let ⟨x,g1,g2⟩:=hr.2 i av hi;⟨x,g1,g2.mono l1⟩⟩;rw[w1]at this;refine this.mono fun e w' hq=>?_
 obtain⟨σ',h',av,x,g1,g2,g3,g4⟩:=hq;exact⟨σ',h',av,x,g1,g2,l1.trans g3,g4⟩
theorem m7p{P:Program}{g:FuncId}{env:Env}{args:List G2}{h:A3}{small c c':List AV}{bf bf':List (Nat × Nat)}{x':Nat × Nat}{r:AV}(n j size:Nat)(args' cb cn:List AV)(hf:c01 P h.globs g small c bf r c' bf')(hp:c.all ok1=true/\c'.all ok1=true/\small.all okA=true/\plain r=true)
  (hbf:bf=[(0,size)]/\bf'=[x'])
  (ha:evs env args=some args':=by kernel_rfl) (hn:h.blks[n]? =some (some cb):=by kernel_rfl) (hj:cb[j]? =some .nil:=by kernel_rfl) (hb:h.bufs=[]:=by kernel_rfl) (hit:a4j (cb.set j (.sl [] (.own 0)))=true:=by kernel_rfl) (hit':a4j c'=true:=by kernel_rfl) (hc:(cb.set j (.sl [] (.own 0))).map (M1 n (some 0))=c:=by kernel_rfl) (hargs:args'.map (smol n (some 0))=small:=by kernel_rfl) (hcn:c'.map (c1l n (some 0))=cn:=by kernel_rfl) (hgl:J8 h.globs=true:=by kernel_rfl):
  a1i P (.call (.c (.clo (.func g) [] [])) args) env h r ⟨h.blks.set n (some cn),[x'],h.globs⟩:=by
 subst hcn;have hnl:n<h.blks.length:=(List.getElem?_eq_some_iff.1 hn).1;intro K hk;refine(c8w rfl ha (l6t size hn hj ?_)).out;have:=d29 (h:=⟨h.blks.set n (some (cb.set j (.sl [] (.own 0)))),[(0,size)],h.globs⟩) (n:=n) (β:=some 0) (bs:=[x']) (K:=K) hf hgl (List.getElem?_set_self hnl) hit hc hp.1 hit' hp.2.1 hargs hp.2.2.1 hp.2.2.2 (.inr ⟨_,_,rfl,hbf.1,hbf.2,rfl,rfl⟩) (by rw[List.set_set];exact hk);rw[hb];exact this
section
variable {P:Program}{h h':A3}{env e:Env}{N kf:Nat}{Q:Exit->Env->A3->Prop}{x:A0}
theorem m4u{m:List Bool}(hm:m.getD 0 false=true):∀k,k<1->m.getD k false=true:=fun k hk=>by
 cases k with
 |zero=>exact hm
 |succ k=>omega
end
end Go.Proofs.YtkhgohfaecbgkaaGreatDoor.Lift
