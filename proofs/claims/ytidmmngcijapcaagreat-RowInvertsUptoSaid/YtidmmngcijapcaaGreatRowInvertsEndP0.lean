/- Part 1 of the texts that prove RowInvertsEnd. -/
import Derived.Calls
import Derived.Below
import Derived.Room.Entries
import Derived.Deep.LoopGhost
import Derived.WalkKit
import Derived.WalkLawsBesides
import Derived.Laws.IdiomStrings
import Derived.Laws.IdiomCopy
import Derived.Laws.Append
import Derived.Lib.ConvBytes
import Derived.Orders
namespace Go.Proofs.YtidmmngcijapcaaGreat.Lift
open Go.RowKit
set_option linter.unusedVariables false
set_option linter.unusedSimpArgs false
set_option linter.unnecessarySimpa false
set_option linter.unusedSectionVars false
set_option maxRecDepth 100000
inductive Tok where
 |no|full|own (id:Nat)
 deriving DecidableEq
inductive AV where
 |v (x:Value)
 |ptr (n off:Nat)
 |elt (cells:List AV) (off:Nat)
 |nil
 |sl (els:List (List AV)) (tok:Tok)
 |agg (cells:List AV)
 |tuple (vs:List AV)
 |iface (t:TypeId) (x:AV)
 |clo (fn:Fn) (first captured:List AV)
 |glob (n:Nat)
 |row (n off size len cap:Nat)
 |it (s:ByteArray) (pos:Nat)
def AV.isCell:AV->Bool
 |.agg _|.tuple _|.it _ _=>false
 |_=>true
def f9a:Value->Bool
 |.bool _|.int _ _|.float _ _|.complex _ _ _|.string _|.pointer none|.map none|.chan none|.nilFunc|.nilIface=>true
 |_=>false
structure Buf where
 cur:Nat
 size:Nat
 at_:Option Addr
 cap:Nat
structure Sg where
 w:World
 blk:Nat->Option Nat
 buf:Nat->Option Buf
 outer:Nat->Nat->Prop
def Buf.spare(e:Buf)(b o:Nat):Prop:=∃a,e.at_=some a/\a.block=b/\a.off+e.cur*e.size<=o/\o<a.off+e.cap*e.size
def Sg.own(σ:Sg)(b o:Nat):Prop:=(∃n,σ.blk n=some b)\/∃id e,σ.buf id=some e/\e.spare b o
def Sg.open_(σ:Sg)(b o:Nat):Prop:=σ.outer b o\/σ.own b o
def c2r(σ:Sg)(tok:Tok)(len:Nat)(a:Option Addr)(cap:Nat):Prop:=
 match tok with
 |.no=>True
 |.full=>cap=len
 |.own id=>∃e,σ.buf id=some e/\len<=e.cur/\(e.cur=len->e.at_=a/\e.cap=cap)
inductive Rel(σ:Sg):AV->Value->Prop
 |v (x:Value) (h:f9a x=true):Rel σ (.v x) x
 |ptr (n off b:Nat) (h:σ.blk n=some b):Rel σ (.ptr n off) (.pointer (some ⟨b,off,none⟩))
 |elt (cells:List AV) (off b o:Nat) (xs:Nat->Value)
  (hc:∀(i:Nat) (av:AV),cells[i]? =some av->σ.w.cell? ⟨b,o+i,none⟩=some (xs i)/\¬σ.open_ b (o+i)/\av.isCell=true)
  (hr:∀(i:Nat) (av:AV),cells[i]? =some av->Rel σ av (xs i)):Rel σ (.elt cells off) (.pointer (some ⟨b,o+off,none⟩))
 |nil:Rel σ .nil (.slice none 0 0)
 |glob (n:Nat):Rel σ (.glob n) (.pointer (some ⟨n,0,none⟩))
 |row (n off size len capm b cap:Nat) (h:σ.blk n=some b) (hc:len<=cap) (hm:capm<=cap) (hx:∀o,o<off+cap*size->(σ.w.cell? ⟨b,o,none⟩).isSome=true):Rel σ (.row n off size len capm) (.slice (some ⟨b,off,none⟩) len cap)
 |sl0 (tok:Tok) (ht:c2r σ tok 0 none 0):Rel σ (.sl [] tok) (.slice none 0 0)
 |slx (tok:Tok) (a:Addr) (cap:Nat) (ht:c2r σ tok 0 (some a) cap) (hc:tok=.no\/cap=0):Rel σ (.sl [] tok) (.slice (some a) 0 cap)
 |sl (els:List (List AV)) (tok:Tok) (b o cap size:Nat) (xs:Nat->Nat->Value)
  (hs:∀(i:Nat) (el:List AV),els[i]? =some el->el.length=size)
  (hcap:els.length<=cap)
  (ht:c2r σ tok els.length (some ⟨b,o,none⟩) cap)
  (hz:∀id e,tok=.own id->σ.buf id=some e->e.size=size)
  (hc:∀(i:Nat) (el:List AV),els[i]? =some el->∀(j:Nat) (av:AV),el[j]? =some av->σ.w.cell? ⟨b,o+i*size+j,none⟩=some (xs i j)/\¬σ.open_ b (o+i*size+j)/\av.isCell=true)
  (hr:∀(i:Nat) (el:List AV),els[i]? =some el->∀(j:Nat) (av:AV),el[j]? =some av->Rel σ av (xs i j)):Rel σ (.sl els tok) (.slice (some ⟨b,o,none⟩) els.length cap)
 |agg (cells:List AV) (xs:Array Value) (hn:xs.size=cells.length) (hc:∀(i:Nat) (av:AV),cells[i]? =some av->av.isCell=true)
  (x:Nat->Value) (hx:∀(i:Nat) (av:AV),cells[i]? =some av->xs[i]? =some (x i)) (hr:∀(i:Nat) (av:AV),cells[i]? =some av->Rel σ av (x i)):Rel σ (.agg cells) (.agg xs)
 |tuple (vs:List AV) (xs:Array Value) (hn:xs.size=vs.length)
  (x:Nat->Value) (hx:∀(i:Nat) (av:AV),vs[i]? =some av->xs[i]? =some (x i)) (hr:∀(i:Nat) (av:AV),vs[i]? =some av->Rel σ av (x i)):Rel σ (.tuple vs) (.tuple xs)
 |iface (t:TypeId) (av:AV) (x:Value) (h:Rel σ av x):Rel σ (.iface t av) (.iface t x)
 |clo (fn:Fn) (first captured:List AV) (fs cs:Array Value) (hn:fs.size=first.length) (hm:cs.size=captured.length)
  (x y:Nat->Value) (hx:∀(i:Nat) (av:AV),first[i]? =some av->fs[i]? =some (x i)) (hy:∀(i:Nat) (av:AV),captured[i]? =some av->cs[i]? =some (y i))
  (hr:∀(i:Nat) (av:AV),first[i]? =some av->Rel σ av (x i)) (hq:∀(i:Nat) (av:AV),captured[i]? =some av->Rel σ av (y i)):Rel σ (.clo fn first captured) (.func fn fs cs)
structure Le(σ σ':Sg):Prop where
 blk:∀n b,σ.blk n=some b->σ'.blk n=some b
 buf:∀id e,σ.buf id=some e->∃e',σ'.buf id=some e'/\e.cur<=e'.cur/\e'.size=e.size/\(e'.cur=e.cur->e'=e)
 outer:σ'.outer=σ.outer
 cell:∀b o,b<σ.w.heap.size->¬σ.own b o->σ'.w.cell? ⟨b,o,none⟩=σ.w.cell? ⟨b,o,none⟩
 ext:∀b o,(σ.w.cell? ⟨b,o,none⟩).isSome=true->(σ'.w.cell? ⟨b,o,none⟩).isSome=true
 whole:∀b,b<σ.w.heap.size->(∀o,¬σ.own b o)->σ'.w.heap[b]? =σ.w.heap[b]?
 own:∀b o,b<σ.w.heap.size->σ'.own b o->σ.own b o
 size:σ.w.heap.size<=σ'.w.heap.size
 os:σ'.w.os=σ.w.os
 tape:σ'.w.tape=σ.w.tape
 output:σ'.w.output=σ.w.output
theorem Le.refl(σ:Sg):Le σ σ:=⟨fun _ _ h=>h,fun _ e h=>⟨e,h,Nat.le_refl _,rfl,fun _=>rfl⟩,rfl,fun _ _ _ _=>rfl,fun _ _ h=>h,fun _ _ _=>rfl,fun _ _ _ h=>h,Nat.le_refl _,rfl,rfl,rfl⟩
theorem Le.trans{a b c:Sg}(h:Le a b)(k:Le b c):Le a c where
 blk n x hx:=k.blk n x (h.blk n x hx)
 buf id e he:=by
  obtain⟨e1,h1,h2,h3,h4⟩:=h.buf id e he;obtain⟨e2,k1,k2,k3,k4⟩:=k.buf id e1 h1;refine⟨e2,k1,Nat.le_trans h2 k2,k3.trans h3,fun hc=>?_⟩;have h5:=h4 (by omega);subst h5;exact k4 hc
 outer:=k.outer.trans h.outer
 cell x o hx ho:=(k.cell x o (Nat.lt_of_lt_of_le hx h.size) (fun hc=>ho (h.own x o hx hc))).trans (h.cell x o hx ho)
 ext x o hx:=k.ext x o (h.ext x o hx)
 whole x hx ho:=(k.whole x (Nat.lt_of_lt_of_le hx h.size) (fun o hc=>ho o (h.own x o hx hc))).trans (h.whole x hx ho)
 own x o hx hc:=h.own x o hx (k.own x o (Nat.lt_of_lt_of_le hx h.size) hc)
 size:=Nat.le_trans h.size k.size
 os:=k.os.trans h.os
 tape:=k.tape.trans h.tape
 output:=k.output.trans h.output
theorem a29{w:World}{b o:Nat}{v:Value}(h:w.cell? ⟨b,o,none⟩=some v):b<w.heap.size:=by
 by_cases hb:b<w.heap.size
 ·exact hb
 ·simp[World.cell?,Array.getElem?_eq_none (Nat.le_of_not_lt hb)]at h
theorem Le.keeps{σ σ':Sg}(h:Le σ σ'){b o:Nat}{v:Value}(hc:σ.w.cell? ⟨b,o,none⟩=some v)(ho:¬σ.open_ b o):σ'.w.cell? ⟨b,o,none⟩=some v/\¬σ'.open_ b o:=by
 have hb:=a29 hc;have hno:¬σ.own b o:=fun h=>ho (.inr h)
 refine⟨(h.cell b o hb hno).trans hc,?_⟩;rintro (hx|hx)
 ·rw[h.outer]at hx;exact ho (.inl hx)
 ·exact hno (h.own b o hb hx)
theorem c2r.mono{σ σ':Sg}(h:Le σ σ'){tok:Tok}{len:Nat}{a:Option Addr}{cap:Nat}(ht:c2r σ tok len a cap):c2r σ' tok len a cap:=by
 cases tok with
 |no=>trivial
 |full=>exact ht
 |own id=>
  obtain⟨e,h1,h2,h3⟩:=ht;obtain⟨e',k1,k2,k3,k4⟩:=h.buf id e h1;refine⟨e',k1,by omega,fun hc=>?_⟩;have:=k4 (by omega);subst this;exact h3 hc
theorem Rel.mono{σ σ':Sg}(h:Le σ σ'){av:AV}{x:Value}(hr:Rel σ av x):Rel σ' av x:=by
 induction hr with
 |v x hx=>exact .v x hx
 |ptr n off b hb=>exact .ptr n off b (h.blk n b hb)
 |elt cells off b o xs hc _ ih=>exact .elt cells off b o xs (fun i av hi=>let ⟨a,c,d⟩:=hc i av hi;let ⟨a',c'⟩:=h.keeps a c;⟨a',c',d⟩) ih
 |nil=>exact .nil
 |glob n=>exact .glob n
 |row n off size len capm b cap hb hc hm hx=>exact .row n off size len capm b cap (h.blk n b hb) hc hm (fun o ho=>h.ext b o (hx o ho))
 |sl0 tok ht=>exact .sl0 tok (ht.mono h)
 |slx tok a cap ht hc=>exact .slx tok a cap (ht.mono h) hc
 |sl els tok b o cap size xs hs hcap ht hz hc _ ih=>
  refine .sl els tok b o cap size xs hs hcap (ht.mono h) ?_ (fun i el hi j av hj=>let ⟨a,c,d⟩:=hc i el hi j av hj;let ⟨a',c'⟩:=h.keeps a c;⟨a',c',d⟩) ih;intro id e' htk he';subst htk;obtain⟨e,h1,_⟩:=ht;obtain⟨e2,k1,_,k3,_⟩:=h.buf id e h1;rw[he']at k1;cases k1;exact k3.trans (hz id e rfl h1)
 |agg cells xs hn hc x hx _ ih=>exact .agg cells xs hn hc x hx ih
 |tuple vs xs hn x hx _ ih=>exact .tuple vs xs hn x hx ih
 |iface t av x _ ih=>exact .iface t av x ih
 |clo fn first captured fs cs hn hm x y hx hy _ _ ih1 ih2=>exact .clo fn first captured fs cs hn hm x y hx hy ih1 ih2
theorem Rel.notAgg{σ:Sg}{av:AV}{x:Value}(h:Rel σ av x)(hc:av.isCell=true):x.cells=#[x]/\(∀cs,x≠.agg cs)/\(∀cs,x≠.tuple cs):=by
 cases h<;>first|(simp[AV.isCell]at hc;done)|(refine⟨rfl,fun _=>by simp,fun _=>by simp⟩)|skip
 case v hx=>cases x<;>simp[f9a]at hx<;>exact⟨rfl,fun _=>by simp,fun _=>by simp⟩
structure A4 where
 blks:List (Option (List AV))
 bufs:List (Nat × Nat)
 globs:List (Nat × List AV)
def F4(σ:Sg)(cells:List AV)(vs:List Value):Prop:=
 vs.length=cells.length/\∀(i:Nat) (av:AV),cells[i]? =some av->av.isCell=true/\∃x,vs[i]? =some x/\Rel σ av x
theorem F4.mono{σ σ':Sg}(h:Le σ σ'){cells:List AV}{vs:List Value}(hc:F4 σ cells vs):F4 σ' cells vs:=
 ⟨hc.1,fun i av hi=>let ⟨a,x,b,c⟩:=hc.2 i av hi;⟨a,x,b,c.mono h⟩⟩
def AV.isIt:AV->Bool
 |.it _ _=>true
 |.v _|.ptr _ _|.elt _ _|.nil|.sl _ _|.agg _|.tuple _|.iface _ _|.clo _ _ _|.glob _|.row _ _ _ _ _=>false
def a7v:List AV->Bool
 |[]=>false
 |a::_=> !a.isIt
inductive a99(σ:Sg)(b:Nat):List AV->Prop
 |cells (cells:List AV) (cs rest:List Value) (elem:TypeId) (h:σ.w.heap[b]? =some (.cells (cs++rest).toArray elem (0,0))) (hc:F4 σ cells cs):a99 σ b cells
 |it (s:ByteArray) (p:Nat) (h:σ.w.heap[b]? =some (.stringIter s p)):a99 σ b [.it s p]
theorem a99.keep{σ σ':Sg}(hle:Le σ σ'){b:Nat}{cells:List AV}(h:a99 σ b cells)(hb:σ'.w.heap[b]? =σ.w.heap[b]?):a99 σ' b cells:=by
 cases h with
 |cells _ cs rest elem h hc=>exact .cells _ cs rest elem (hb.trans h) (hc.mono hle)
 |it s p h=>exact .it s p (hb.trans h)
theorem a99.lt{σ:Sg}{b:Nat}{cells:List AV}(h:a99 σ b cells):b<σ.w.heap.size:=by
 by_cases hb:b<σ.w.heap.size
 ·exact hb
 ·cases h with
  |cells _ cs rest elem h hc=>rw[Array.getElem?_eq_none (by omega)]at h;cases h
  |it s p h=>rw[Array.getElem?_eq_none (by omega)]at h;cases h
theorem a99.plain{σ:Sg}{b:Nat}{cells:List AV}(h:a99 σ b cells)(hn:a7v cells=true):∃cs rest elem,σ.w.heap[b]? =some (.cells (cs++rest).toArray elem (0,0))/\F4 σ cells cs:=by
 cases h with
 |cells _ cs rest elem h hc=>exact⟨cs,rest,elem,h,hc⟩
 |it s p h=>cases hn
theorem a99.iter{σ:Sg}{b:Nat}{s:ByteArray}{p:Nat}(h:a99 σ b [.it s p]):σ.w.heap[b]? =some (.stringIter s p):=by
 cases h with
 |cells _ cs rest elem h hc=>have:=(hc.2 0 _ rfl).1;simp[AV.isCell]at this
 |it s p h=>exact h
structure Inv(h:A4)(σ:Sg):Prop where
 blk:∀n cells,h.blks[n]? =some (some cells)->∃b,σ.blk n=some b/\a99 σ b cells
 dom:∀n b,σ.blk n=some b->∃c,h.blks[n]? =some (some c)
 inj:∀n m b c c',h.blks[n]? =some (some c)->h.blks[m]? =some (some c')->c≠[]->c'≠[]->σ.blk n=some b->σ.blk m=some b->n=m
 buf:∀(id:Nat) (c:Nat × Nat),h.bufs[id]? =some c->∃e,σ.buf id=some e/\(e.cur,e.size)=c
 bufdom:∀id e,σ.buf id=some e->h.bufs[id]? =some (e.cur,e.size)
 bufle:∀id e,σ.buf id=some e->e.cur<=e.cap/\(e.at_=none->e.cap=0)
 bufat:∀id e b o,σ.buf id=some e->e.spare b o->(σ.w.cell? ⟨b,o,none⟩).isSome=true/\σ.w.frozen? ⟨b,o,none⟩=false
 bufinj:∀i j e f b o,σ.buf i=some e->σ.buf j=some f->e.spare b o->f.spare b o->i=j
 bufblk:∀id e n b o,σ.buf id=some e->e.spare b o->σ.blk n≠some b
 outer:∀b o,σ.outer b o->b<σ.w.heap.size/\¬σ.own b o
 glob:∀g cells,(g,cells)∈h.globs->Rel σ (.elt cells 0) (.pointer (some ⟨g,0,none⟩))
theorem Inv.lt{h:A4}{σ:Sg}(hi:Inv h σ){n b:Nat}(hn:σ.blk n=some b):b<σ.w.heap.size:=by
 obtain⟨c,hc⟩:=hi.dom n b hn;obtain⟨b',h1,h2⟩:=hi.blk n c hc;rw[hn]at h1;cases h1;exact h2.lt
theorem Inv.name{h:A4}{σ:Sg}(hi:Inv h σ){n b:Nat}(hn:σ.blk n=some b):n<h.blks.length:=by
 obtain⟨c,hc⟩:=hi.dom n b hn;exact(List.getElem?_eq_some_iff.1 hc).1
theorem b3w{c:List AV}(h:a7v c=true):c≠[]:=by rintro rfl;cases h
theorem a99.nil{σ:Sg}{b:Nat}{c:List AV}(h:a99 σ b c)(hn:a7v c=true):a99 σ b []:=by
 obtain⟨cs,rest,elem,h1,_⟩:=h.plain hn;exact .cells [] [] (cs++rest) elem h1 ⟨rfl,fun i av hi=>by simp at hi⟩
abbrev Env:=List (Nat × AV)
def get:Env->Nat->Option AV
 |[],_=>none
 |(t,a)::e,u=>if t=u then some a else get e u
def a3y(σ:Sg)(env:Env)(tmps:Array Value):Prop:=∀t av,get env t=some av->∃x,tmps[t]? =some x/\Rel σ av x
theorem a3y.mono{σ σ':Sg}(h:Le σ σ'){env:Env}{tmps:Array Value}(he:a3y σ env tmps):a3y σ' env tmps:=fun t av hg=>let ⟨x,h1,h2⟩:=he t av hg;⟨x,h1,h2.mono h⟩
theorem a3y.put{σ:Sg}{env:Env}{tmps:Array Value}(he:a3y σ env tmps){t:Nat}(ht:t<tmps.size){av:AV}{x:Value}(hr:Rel σ av x):a3y σ ((t,av)::env) (tmps.setIfInBounds t x):=by
 intro u av' hg;simp only[get]at hg;split at hg
 ·rename_i h;subst h;cases hg;exact⟨x,by simp[ht],hr⟩
 ·rename_i h;obtain⟨y,h1,h2⟩:=he u av' hg;exact⟨y,by rw[Array.getElem?_setIfInBounds_ne h];exact h1,h2⟩
def drop(t:Nat):Env->Env
 |[]=>[]
 |(u,a)::e=>if u=t then drop t e else(u,a)::drop t e
theorem f3r(t u:Nat)(e:Env)(av:AV)(h:get (drop t e) u=some av):u≠t/\get e u=some av:=by
 induction e with
 |nil=>simp[drop,get]at h
 |cons p e ih=>
  obtain⟨k,a⟩:=p;simp only[drop]at h
  by_cases hk:k=t
  ·rw[if_pos hk]at h;obtain⟨h1,h2⟩:=ih h;exact⟨h1,by simp only[get];rw[if_neg (by omega)];exact h2⟩
  ·rw[if_neg hk]at h;simp only[get]at h ⊢
   by_cases hu:k=u
   ·rw[if_pos hu]at h ⊢;exact⟨by omega,h⟩
   ·rw[if_neg hu]at h ⊢;exact ih h
structure St(σ:Sg)(h:A4)(env:Env)(N:Nat)(a:Act):Prop where
 inv:Inv h σ
 env:a3y σ env a.tmps
 size:a.tmps.size=N
 defers:a.defers=[]
theorem Rel.agg_inv{σ:Sg}{cells:List AV}{x:Value}(h:Rel σ (.agg cells) x):∃xs,x=.agg xs/\F4 σ cells xs.toList:=by
 cases h with
 |agg _ xs hn hc y hx hr=>
  refine⟨xs,rfl,by simpa using hn,fun i av hi=>⟨hc i av hi,y i,?_,hr i av hi⟩⟩;have:=hx i av hi;simpa[<-Array.getElem?_toList]using this
theorem Rel.agg_mk{σ:Sg}{cells:List AV}{vs:List Value}(h:F4 σ cells vs):Rel σ (.agg cells) (.agg vs.toArray):=by
 refine .agg cells vs.toArray (by simpa using h.1) (fun i av hi=>(h.2 i av hi).1) (fun i=>vs.getD i undef) (fun i av hi=>?_) (fun i av hi=>?_)
 ·obtain⟨_,x,hx,_⟩:=h.2 i av hi;simp[List.getD,hx]
 ·obtain⟨_,x,hx,hr⟩:=h.2 i av hi;simpa[List.getD,hx]using hr
theorem Rel.agg_mk'{σ:Sg}{cells:List AV}{xs:Array Value}(h:F4 σ cells xs.toList):Rel σ (.agg cells) (.agg xs):=by
 have:=Rel.agg_mk h;simpa using this
theorem Rel.tuple_mk{σ:Sg}{vs:List AV}{xs:Array Value}(hn:xs.size=vs.length)(h:∀(i:Nat) (av:AV),vs[i]? =some av->∃x,xs[i]? =some x/\Rel σ av x):Rel σ (.tuple vs) (.tuple xs):=by
 refine .tuple vs xs hn (fun i=>xs.getD i undef) (fun i av hi=>?_) (fun i av hi=>?_)
 ·obtain⟨x,hx,_⟩:=h i av hi;simp only[Array.getD_eq_getD_getElem?,hx,Option.getD_some]
 ·obtain⟨x,hx,hr⟩:=h i av hi;simpa only[Array.getD_eq_getD_getElem?,hx,Option.getD_some]using hr
theorem Rel.tuple_inv{σ:Sg}{vs:List AV}{x:Value}(h:Rel σ (.tuple vs) x):∃xs,x=.tuple xs/\xs.size=vs.length/\∀(i:Nat) (av:AV),vs[i]? =some av->∃x,xs[i]? =some x/\Rel σ av x:=by
 cases h with
 |tuple _ xs hn y hx hr=>exact⟨xs,rfl,hn,fun i av hi=>⟨y i,hx i av hi,hr i av hi⟩⟩
theorem Rel.clo_mk{σ:Sg}{fn:Fn}{first captured:List AV}{fs cs:Array Value}(hn:fs.size=first.length)(hm:cs.size=captured.length)
  (h:∀(i:Nat) (av:AV),first[i]? =some av->∃x,fs[i]? =some x/\Rel σ av x) (k:∀(i:Nat) (av:AV),captured[i]? =some av->∃x,cs[i]? =some x/\Rel σ av x):Rel σ (.clo fn first captured) (.func fn fs cs):=by
 refine .clo fn first captured fs cs hn hm (fun i=>fs.getD i undef) (fun i=>cs.getD i undef) (fun i av hi=>?_) (fun i av hi=>?_) (fun i av hi=>?_) (fun i av hi=>?_)
 ·obtain⟨x,hx,_⟩:=h i av hi;simp only[Array.getD_eq_getD_getElem?,hx,Option.getD_some]
 ·obtain⟨x,hx,_⟩:=k i av hi;simp only[Array.getD_eq_getD_getElem?,hx,Option.getD_some]
 ·obtain⟨x,hx,hr⟩:=h i av hi;simpa only[Array.getD_eq_getD_getElem?,hx,Option.getD_some]using hr
 ·obtain⟨x,hx,hr⟩:=k i av hi;simpa only[Array.getD_eq_getD_getElem?,hx,Option.getD_some]using hr
theorem Rel.clo_inv{σ:Sg}{fn:Fn}{first captured:List AV}{x:Value}(h:Rel σ (.clo fn first captured) x):∃fs cs,x=.func fn fs cs/\fs.size=first.length/\cs.size=captured.length/\
  (∀(i:Nat) (av:AV),first[i]? =some av->∃x,fs[i]? =some x/\Rel σ av x)/\(∀(i:Nat) (av:AV),captured[i]? =some av->∃x,cs[i]? =some x/\Rel σ av x):=by
 cases h with
 |clo _ _ _ fs cs hn hm x y hx hy hr hq=>exact⟨fs,cs,rfl,hn,hm,fun i av hi=>⟨x i,hx i av hi,hr i av hi⟩,fun i av hi=>⟨y i,hy i av hi,hq i av hi⟩⟩
theorem F4.sub{σ:Sg}{cells:List AV}{vs:List Value}(h:F4 σ cells vs)(off n:Nat)(hl:off+n<=cells.length):F4 σ ((cells.drop off).take n) ((vs.drop off).take n):=by
 obtain⟨h1,h2⟩:=h;refine⟨by simp;omega,fun i av hi=>?_⟩;rw[List.getElem?_take]at hi;split at hi
 ·rename_i hin;rw[List.getElem?_drop]at hi;obtain⟨a,x,hx,hr⟩:=h2 _ _ hi;exact⟨a,x,by rw[List.getElem?_take,if_pos hin,List.getElem?_drop];exact hx,hr⟩
 ·cases hi
theorem F4.append{σ:Sg}{c1 c2:List AV}{v1 v2:List Value}(h:F4 σ c1 v1)(k:F4 σ c2 v2):F4 σ (c1++c2) (v1++v2):=by
 refine⟨by simp[h.1,k.1],fun i av hi=>?_⟩
 by_cases hl:i<c1.length
 ·rw[List.getElem?_append_left hl]at hi;rw[List.getElem?_append_left (by rw[h.1];exact hl)];exact h.2 i av hi
 ·rw[List.getElem?_append_right (by omega)]at hi;rw[List.getElem?_append_right (by rw[h.1];omega),h.1];exact k.2 _ av hi
theorem F4.take{σ:Sg}{c:List AV}{v:List Value}(h:F4 σ c v)(n:Nat):F4 σ (c.take n) (v.take n):=by
 refine⟨by simp[h.1],fun i av hi=>?_⟩;rw[List.getElem?_take]at hi;split at hi
 ·rename_i hin;obtain⟨a,x,hx,hr⟩:=h.2 i av hi;exact⟨a,x,by rw[List.getElem?_take,if_pos hin];exact hx,hr⟩
 ·cases hi
theorem F4.drop{σ:Sg}{c:List AV}{v:List Value}(h:F4 σ c v)(n:Nat):F4 σ (c.drop n) (v.drop n):=by
 refine⟨by simp[h.1],fun i av hi=>?_⟩;rw[List.getElem?_drop]at hi;obtain⟨a,x,hx,hr⟩:=h.2 _ av hi;exact⟨a,x,by rw[List.getElem?_drop];exact hx,hr⟩
theorem F4.one{σ:Sg}{av:AV}{x:Value}(h:Rel σ av x)(hc:av.isCell=true):F4 σ [av] [x]:=by
 refine⟨rfl,fun i a hi=>?_⟩;cases i with
 |zero=>simp at hi;subst hi;exact⟨hc,x,rfl,h⟩
 |succ i=>simp at hi
theorem F4.nil(σ:Sg):F4 σ [] []:=⟨rfl,fun i a hi=>by simp at hi⟩
theorem F4.oneCell{σ:Sg}{c:List AV}{vs:List Value}(h:F4 σ c vs):∀v∈vs,v.oneCell'=true:=by
 intro v hv;obtain⟨i,hi⟩:=List.mem_iff_getElem?.1 hv
 have hlt:i<c.length:=by
  rw[<-h.1]
  by_cases hl:i<vs.length
  ·exact hl
  ·rw[List.getElem?_eq_none (by omega)]at hi;cases hi
 obtain⟨hc,x,hx,hr⟩:=h.2 i _ (List.getElem?_eq_getElem hlt);rw[hi]at hx;cases hx;obtain⟨_,h1,h2⟩:=hr.notAgg hc;cases v<;>first|rfl|exact absurd rfl (h1 _)|exact absurd rfl (h2 _)
def AV.cells:AV->List AV
 |.agg cs=>cs
 |x=>[x]
theorem Rel.cells{σ:Sg}{av:AV}{x:Value}(h:Rel σ av x)(hn:∀vs,av≠.tuple vs):F4 σ av.cells x.cells.toList:=by
 cases av with
 |agg cs=>obtain⟨xs,rfl,hc⟩:=h.agg_inv;exact hc
 |tuple vs=>exact absurd rfl (hn vs)
 |it s p=>cases h
 |_=>
  have hc:=h.notAgg rfl;rw[hc.1];exact F4.one h rfl
def a3p(h:A4):AV->Option (List AV × Nat)
 |.ptr n off=>match h.blks[n]? with
  |some (some cells)=>if a7v cells then some (cells,off) else none
  |_=>none
 |.elt cells off=>some (cells,off)
 |.glob n=>match h.globs.find? (fun p=>p.1==n) with
  |some p=>some (p.2,0)
  |none=>none
 |_=>none
theorem a16{w:World}{g:Nat}{cs:Array Value}{t:TypeId}{fr:Nat × Nat}(h:w.heap[g]? =some (.cells cs t fr))(i:Nat):w.cell? ⟨g,i,none⟩=cs[i]? :=by simp[World.cell?,h]
theorem c9w{h:A4}{σ:Sg}(hi:Inv h σ){p:AV}(hng:∀n,p≠.glob n){x:Value}(hr:Rel σ p x){cells:List AV}{off:Nat}(hp:a3p h p=some (cells,off)):
  ∃b o,x=.pointer (some ⟨b,o+off,none⟩)/\∀n,off+n<=cells.length->∃vs:List Value,vs.length=n/\(∀j v,vs[j]? =some v->σ.w.cell? ⟨b,o+off+j,none⟩=some v)/\F4 σ ((cells.drop off).take n) vs:=by
 cases hr with
 |ptr n f b hb=>
  simp only[a3p]at hp;split at hp
  ·rename_i cs0 hcs;split at hp
   case isFalse=>cases hp
   rename_i hno;simp only[Option.some.injEq,Prod.mk.injEq]at hp;obtain⟨rfl,rfl⟩:=hp;obtain⟨b',hb',hbk⟩:=hi.blk _ _ hcs;obtain⟨cs,rest,elem,hheap,hc⟩:=hbk.plain hno;rw[hb]at hb';cases hb';refine⟨b,0,by simp,fun n hn=>⟨(cs.drop f).take n,by have:=hc.1;simp at this ⊢;omega,fun j v hv=>?_,hc.sub f n hn⟩⟩;rw[List.getElem?_take]at hv;split at hv
   ·rw[List.getElem?_drop]at hv;rw[a16 hheap,Nat.zero_add,<-Array.getElem?_toList];have hlt:=(List.getElem?_eq_some_iff.1 hv).1;rw[List.toList_toArray,List.getElem?_append_left hlt];exact hv
   ·cases hv
  ·cases hp
 |elt cs f b o xs hc hr=>
  simp only[a3p,Option.some.injEq,Prod.mk.injEq]at hp;obtain⟨rfl,rfl⟩:=hp;refine⟨b,o,rfl,fun n hn=>⟨((List.range n).map fun j=>xs (f+j)),by simp,fun j v hv=>?_,?_,fun i av hi=>?_⟩⟩
  ·simp only[List.getElem?_map,Option.map_eq_some_iff]at hv;obtain⟨j',hj',rfl⟩:=hv
   have hjn:j<n:=by
    by_cases hl:j<n
    ·exact hl
    ·rw[List.getElem?_eq_none (by simp;omega)]at hj';cases hj'
   rw[List.getElem?_range hjn]at hj';cases hj';have:=(hc (f+j) cs[f+j] (List.getElem?_eq_getElem (by omega))).1;rw[<-Nat.add_assoc]at this;exact this
  ·simp;omega
  ·rw[List.getElem?_take]at hi;split at hi
   ·rename_i hin;rw[List.getElem?_drop]at hi;exact⟨(hc _ _ hi).2.2,xs (f+i),by simp[hin],hr _ _ hi⟩
   ·cases hi
 |glob n=>exact absurd rfl (hng n)
 |_=>simp[a3p]at hp
theorem e38{h:A4}{σ:Sg}(hi:Inv h σ){p:AV}{x:Value}(hr:Rel σ p x){cells:List AV}{off:Nat}(hp:a3p h p=some (cells,off)):
  ∃b o,x=.pointer (some ⟨b,o+off,none⟩)/\∀n,off+n<=cells.length->∃vs:List Value,vs.length=n/\(∀j v,vs[j]? =some v->σ.w.cell? ⟨b,o+off+j,none⟩=some v)/\F4 σ ((cells.drop off).take n) vs:=by
 by_cases hg:∃n,p=.glob n
 ·obtain⟨n,rfl⟩:=hg;simp only[a3p]at hp;split at hp
  ·rename_i q hq;simp only[Option.some.injEq,Prod.mk.injEq]at hp;obtain⟨rfl,rfl⟩:=hp;have hmem:=List.mem_of_find?_eq_some hq;have hn:=List.find?_some hq;simp only[beq_iff_eq]at hn;have:=hi.glob q.1 q.2 hmem;cases hr;rw[hn]at this;exact c9w hi (fun n=>by simp) this rfl
  ·cases hp
 ·exact c9w hi (fun n h=>hg ⟨n,h⟩) hr hp
section
variable {P:Program}{σ:Sg}{h:A4}
theorem Z7(b o n:Nat):(⟨b,o,none⟩:Addr).add n=⟨b,o+n,none⟩:=by unfold Addr.add;split<;>simp_all
def d2r:TypeDesc->Bool
 |.struct _|.array _ _=>true
 |_=>false
theorem c3h{t:TypeId}{d:TypeDesc}(hd:P.underlying t=some d)(w:World):(isAgg t).run P w=.ok (d2r d) w:=by
 cases d<;>simp[isAgg,run_underlying hd,d2r]
def a8j(P:Program)(t:TypeId):Option (Option Nat):=
 match P.underlying t,P.info? t with
 |some d,some i=>some (if d2r d then some i.size else none)
 |_,_=>none
theorem b8n{t:TypeId}{n:Option Nat}(h:a8j P t=some n):∃d i,P.underlying t=some d/\P.info? t=some i/\((d2r d=true/\n=some i.size)\/(d2r d=false/\n=none)):=by
 unfold a8j at h;split at h
 ·rename_i d i h1 h2;refine⟨d,i,h1,h2,?_⟩;cases hd:d2r d<;>simp[hd]at h<;>simp[h]
 ·cases h
theorem c8l{t:TypeId}{n:Option Nat}(ht:a8j P t=some n)(cs:Array Value)(off:Nat)(w:World):
  (part t cs off).run P w=match n with
   |some n=>.ok (.agg (cs.extract off (off+n))) w
   |none=>match cs[off]? with
    |some v=>.ok v w
    |none=>.halt (.stuck "part: no such cell") w:=by
 obtain⟨d,i,hu,hi,(⟨hd,rfl⟩|⟨hd,rfl⟩)⟩:=b8n ht
 ·simp[part,c3h hu,hd,sizeOf,typeInfo,hi]
 ·simp only[part,Sem.run_bind,c3h hu,hd,Result.andThen_ok,Bool.false_eq_true,if_false];cases cs[off]? <;>rfl
theorem d6y{t:TypeId}{n:Nat}(ht:a8j P t=some (some n))(w:World)(b o:Nat)(vs:List Value)(hl:vs.length=n)(hv:∀j v,vs[j]? =some v->w.cell? ⟨b,o+j,none⟩=some v):
  (Instr.loadAt t (.pointer (some ⟨b,o,none⟩))).run P w=.ok (.agg vs.toArray) w:=by
 have hlc:(loadCells ⟨b,o,none⟩ n).run P w=.ok vs.toArray w:=by
  rw[<-hl];exact run_loadCells_list w ⟨b,o,none⟩ vs (fun j v hj=>by rw[Z7];exact hv j v hj)
 obtain⟨d,i,hu,hi,(⟨hd,hn⟩|⟨hd,hn⟩)⟩:=b8n ht<;>cases hn
 simp[Instr.loadAt,Instr.sureAddr,loadVar,c3h hu,hd,sizeOf,typeInfo,hi,hlc]
theorem d6b{t:TypeId}(ht:a8j P t=some none)(w:World)(b o:Nat)(v:Value)(hv:w.cell? ⟨b,o,none⟩=some v):
  (Instr.loadAt t (.pointer (some ⟨b,o,none⟩))).run P w=.ok v w:=by
 obtain⟨d,i,hu,hi,(⟨hd,hn⟩|⟨hd,hn⟩)⟩:=b8n ht<;>cases hn
 simp only[Instr.loadAt,Instr.sureAddr,loadVar,Sem.run_bind,Sem.run_pure,Result.andThen_ok,c3h hu,hd,Bool.false_eq_true,if_false,run_load,hv]
def b7a(h:A4)(n:Option Nat)(p:AV)(K:AV->Prop):Prop:=
 match a3p h p with
 |some (cells,off)=>match n with
  |none=>match cells[off]? with
   |some av=>K av
   |none=>False
  |some n=>off+n<=cells.length/\K (.agg ((cells.drop off).take n))
 |none=>False
theorem e5t(hi:Inv h σ){t:TypeId}{n:Option Nat}(ht:a8j P t=some n){p:AV}{x:Value}(hp:Rel σ p x){K:AV->Prop}(hk:b7a h n p K):
  ∃av y,K av/\Rel σ av y/\(Instr.loadAt t x).run P σ.w=.ok y σ.w:=by
 unfold b7a at hk;split at hk
 ·rename_i cells off hpl;obtain⟨b,o,rfl,hrd⟩:=e38 hi hp hpl;split at hk
  ·split at hk
   ·rename_i av hav
    have hlt:off<cells.length:=by
     by_cases hl:off<cells.length
     ·exact hl
     ·rw[List.getElem?_eq_none (by omega)]at hav;cases hav
    obtain⟨vs,hl,hv,hc⟩:=hrd 1 (by omega)
    match vs,hl with
    |[v],_=>
     obtain⟨_,y,hy,hr⟩:=hc.2 0 av (by rw[List.getElem?_take,if_pos (by omega),List.getElem?_drop];simpa using hav);simp at hy;subst hy;refine⟨av,v,hk,hr,d6b ht _ _ _ _ ?_⟩;have:=hv 0 v rfl;simpa using this
   ·exact hk.elim
  ·rename_i n;obtain⟨hn,hk⟩:=hk;obtain⟨vs,hl,hv,hc⟩:=hrd n hn;exact⟨_,_,hk,Rel.agg_mk hc,d6y ht _ _ _ vs hl hv⟩
 ·exact hk.elim
def e8s(n:Nat)(p:AV)(K:AV->Prop):Prop:=
 match p with
 |.ptr k off=>K (.ptr k (off+n))
 |.elt cells off=>K (.elt cells (off+n))
 |_=>False
theorem e1h{n:Nat}{p:AV}{x:Value}(hp:Rel σ p x){K:AV->Prop}(hk:e8s n p K):
  ∃av a,K av/\x=.pointer (some a)/\Rel σ av (.pointer (some (a.add n))):=by
 cases hp with
 |ptr k off b hb=>exact⟨_,_,hk,rfl,by rw[Z7];exact .ptr k (off+n) b hb⟩
 |elt cells off b o xs hc hr=>exact⟨_,_,hk,rfl,by rw[Z7,Nat.add_assoc];exact .elt cells (off+n) b o xs hc hr⟩
 |_=>exact hk.elim
theorem d7s{s:TypeId}{fs:Array Field}{f:Nat}{fd:Field}{i:TypeInfo}(hs:P.underlying s=some (.struct fs))(hf:fs[f]? =some fd)(hi:P.info? fd.type=some i)(hz:i.size≠0)
  {p:AV}{x:Value}(hp:Rel σ p x) {K:AV->Prop}(hk:e8s fd.offset p K):
  ∃av y,K av/\Rel σ av y/\(Instr.fieldAt s x f).run P σ.w=.ok y σ.w:=by
 obtain⟨av,a,h1,rfl,h2⟩:=e1h hp hk;refine⟨av,_,h1,h2,?_⟩;simp[Instr.fieldAt,run_underlying hs,hf,Instr.sureAddr,fieldPlace,sizeOf,typeInfo,hi,hz]
def d29(n:Option Nat)(off:Nat)(x:AV)(K:AV->Prop):Prop:=
 match x with
 |.agg cells=>match n with
  |none=>match cells[off]? with
   |some av=>K av
   |none=>False
  |some n=>off+n<=cells.length/\K (.agg ((cells.drop off).take n))
 |_=>False
theorem e7w{t:TypeId}{n:Option Nat}(ht:a8j P t=some n){off:Nat}{p:AV}{x:Value}(hp:Rel σ p x){K:AV->Prop}(hk:d29 n off p K)(w:World):
  ∃av y xs,x=.agg xs/\K av/\Rel σ av y/\(part t xs off).run P w=.ok y w:=by
 unfold d29 at hk;split at hk
 ·rename_i cells;obtain⟨xs,rfl,hc⟩:=hp.agg_inv;split at hk
  ·split at hk
   ·rename_i av hav;obtain⟨_,y,hy,hr⟩:=hc.2 off av hav;refine⟨av,y,xs,rfl,hk,hr,?_⟩;rw[c8l ht];simp only[Array.getElem?_toList]at hy;simp[hy]
   ·exact hk.elim
  ·rename_i n;obtain⟨hn,hk⟩:=hk;refine⟨_,_,xs,rfl,hk,Rel.agg_mk' (xs:=xs.extract off (off+n)) ?_,by rw[c8l ht]⟩;have:=hc.sub off n hn;simpa[List.take_drop,Nat.add_comm,List.extract_eq_take_drop]using this
 ·exact hk.elim
end
section
variable {P:Program}{σ:Sg}{h:A4}
def c5p(size:Nat)(p i:AV)(K:AV->Prop):Prop:=
 match p,i with
 |.sl els _,.v (.int _ n)=>(0<=n/\n<els.length)/\(els.getD n.toNat []).length=size/\K (.elt (els.getD n.toNat []) 0)
 |.row r off sz len _,.v (.int _ n)=>(0<=n/\n<len)/\sz=size/\K (.ptr r (off+n.toNat*size))
 |_,_=>False
theorem e3x{t elem:TypeId}{ie:TypeInfo}(ht:P.underlying t=some (.slice elem))(hi:P.info? elem=some ie){p i:AV}{x y:Value}(hp:Rel σ p x)(hj:Rel σ i y){K:AV->Prop}(hk:c5p ie.size p i K):
  ∃av z,K av/\Rel σ av z/\(Instr.indexAt t x y).run P σ.w=.ok z σ.w:=by
 unfold c5p at hk;split at hk
 ·rename_i els tok k n;obtain⟨⟨h0,h1⟩,h2,h3⟩:=hk;cases hj with
  |v _ _=>
  cases hp with
  |sl0 _ _=>simp at h1;omega
  |slx _ _ _ _ _=>simp at h1;omega
  |sl _ _ b o cap size xs hs hcap htk hz hc hr=>
   have hlt:n.toNat<els.length:=by omega
   have hel:els[n.toNat]? =some (els.getD n.toNat []):=by rw[List.getD_eq_getElem?_getD];simp[List.getElem?_eq_getElem hlt]
   have hsz:=hs _ _ hel;rw[h2]at hsz;refine⟨_,_,h3,.elt _ 0 b (o+n.toNat*size) (fun j=>xs n.toNat j) (fun j av hj=>hc _ _ hel j av hj) (fun j av hj=>hr _ _ hel j av hj),?_⟩;simp[Instr.indexAt,asIntOf,run_underlying ht,h0,h1,sizeOf,typeInfo,hi,Z7,hsz]
 ·rename_i r off sz len capm k n;obtain⟨⟨h0,h1⟩,rfl,h3⟩:=hk;cases hj with
  |v _ _=>
  cases hp with
  |row _ _ _ _ _ b cap hb hcap hm hx=>
   refine⟨_,_,h3,.ptr r _ b hb,?_⟩;simp[Instr.indexAt,asIntOf,run_underlying ht,h0,h1,sizeOf,typeInfo,hi,Z7]
 ·exact hk.elim
def c8p(len size:Nat)(p i:AV)(K:AV->Prop):Prop:=
 match i with
 |.v (.int _ n)=>(0<=n/\n<len)/\e8s (n.toNat*size) p K
 |_=>False
theorem d9y{t elem:TypeId}{len:Nat}{ie:TypeInfo}(ht:P.underlying t=some (.array len elem))(hi:P.info? elem=some ie){p i:AV}{x y:Value}(hp:Rel σ p x)(hj:Rel σ i y){K:AV->Prop}(hk:c8p len ie.size p i K):
  ∃av z,K av/\Rel σ av z/\(Instr.indexAt t x y).run P σ.w=.ok z σ.w:=by
 unfold c8p at hk;split at hk
 ·rename_i k n;obtain⟨⟨h0,h1⟩,hk⟩:=hk;cases hj with
  |v _ _=>
  obtain⟨av,a,h3,rfl,h4⟩:=e1h hp hk;refine⟨av,_,h3,h4,?_⟩;simp[Instr.indexAt,asIntOf,run_underlying ht,Instr.sureAddr,h0,h1,sizeOf,typeInfo,hi]
 ·exact hk.elim
def c8m(len size:Nat)(n:Option Nat)(p i:AV)(K:AV->Prop):Prop:=
 match i with
 |.v (.int _ j)=>(0<=j/\j<len)/\d29 n (j.toNat*size) p K
 |_=>False
theorem d8m{t elem:TypeId}{len:Nat}{ie:TypeInfo}{n:Option Nat}(ht:P.underlying t=some (.array len elem))(hi:P.info? elem=some ie)(hn:a8j P elem=some n){p i:AV}{x y:Value}(hp:Rel σ p x)(hj:Rel σ i y){K:AV->Prop}(hk:c8m len ie.size n p i K):
  ∃av z,K av/\Rel σ av z/\(Instr.index t x y).run P σ.w=.ok z σ.w:=by
 unfold c8m at hk;split at hk
 ·rename_i k j;obtain⟨⟨h0,h1⟩,hk⟩:=hk;cases hj with
  |v _ _=>
  obtain⟨av,z,xs,rfl,h3,h4,h5⟩:=e7w (P:=P) hn hp hk σ.w;refine⟨av,_,h3,h4,?_⟩;simp[Instr.index,asIntOf,run_underlying ht,h0,h1,sizeOf,typeInfo,hi,h5]
 ·exact hk.elim
def F3(s:ByteArray)(n:Nat):Int:=((s.data.toList.getD n 0).toNat:Int)
def c3l(p i:AV)(K:AV->Prop):Prop:=
 match p,i with
 |.v (.string s),.v (.int _ n)=>(0<=n/\n<s.size)/\K (.v (.int .u8 (F3 s n.toNat)))
 |_,_=>False
theorem d8o{t:TypeId}(ht:P.underlying t=some .string){p i:AV}{x y:Value}(hp:Rel σ p x)(hj:Rel σ i y){K:AV->Prop}(hk:c3l p i K):
  ∃av z,K av/\Rel σ av z/\(Instr.index t x y).run P σ.w=.ok z σ.w:=by
 unfold c3l at hk;split at hk
 ·rename_i s k n;obtain⟨⟨h0,h1⟩,hk⟩:=hk;cases hp with
  |v _ _=>
  cases hj with
  |v _ _=>
  refine⟨_,_,hk,.v _ rfl,?_⟩;have hlt:n.toNat<s.size:=by omega
  have e:s[n.toNat]? =some s[n.toNat]:=getElem?_pos s n.toNat hlt
  have e2:F3 s n.toNat=(s[n.toNat].toNat:Int):=by
   unfold F3;rw[List.getD_eq_getElem?_getD,List.getElem?_eq_getElem (by simpa using hlt)];rfl
  simp only[Instr.index,asIntOf,Sem.run_bind,Sem.run_pure,Result.andThen_ok,run_underlying ht,h0,if_true,e,e2]
 ·exact hk.elim
def F5(d:Nat):Option AV->Option Int
 |none=>some d
 |some (.v (.int _ n))=>some n
 |some _=>none
def c6g(p:AV)(lo hi:Option AV)(K:AV->Prop):Prop:=
 match p with
 |.v (.string s)=>match F5 0 lo,F5 s.size hi with
  |some l,some u=>(0<=l/\l<=u/\u<=s.size)/\K (.v (.string (s.extract l.toNat u.toNat)))
  |_,_=>False
 |_=>False
inductive f2z(σ:Sg):Option AV->Option Value->Prop
 |none:f2z σ none none
 |some {a:AV}{x:Value}(h:Rel σ a x):f2z σ (some a) (some x)
theorem K7{o:Option AV}{v:Option Value}(hr:f2z σ o v){d:Nat}{n:Int}(hb:F5 d o=some n):(v=none/\n=d)\/∃k,v=some (.int k n):=by
 cases hr with
 |none=>simp[F5]at hb;exact .inl ⟨rfl,hb.symm⟩
 |some h=>
  rename_i a x;right;unfold F5 at hb;split at hb
  ·rename_i heq;cases heq
  ·rename_i k m heq;cases heq;cases h with
   |v _ _=>cases hb;exact⟨k,rfl⟩
  ·cases hb
theorem e3p{t:TypeId}(ht:P.underlying t=some .string){p:AV}{lo hi:Option AV}{x:Value}{l u:Option Value}(hp:Rel σ p x)(hl:f2z σ lo l)(hu:f2z σ hi u){K:AV->Prop}(hk:c6g p lo hi K):
  ∃av z,K av/\Rel σ av z/\(Instr.sliceAt t x l u none).run P σ.w=.ok z σ.w:=by
 unfold c6g at hk;split at hk
 ·rename_i s;split at hk
  ·rename_i ln un hbl hbu;obtain⟨⟨h0,h1,h2⟩,hk⟩:=hk;cases hp with
   |v _ _=>
   refine⟨_,_,hk,.v _ rfl,?_⟩;obtain⟨L,rfl⟩:∃L:Nat,ln=L:=⟨ln.toNat,by omega⟩
   obtain⟨U,rfl⟩:∃U:Nat,un=U:=⟨un.toNat,by omega⟩
   have h3:L<=U:=by omega
   have h4:U<=s.size:=by omega
   have h5:L<=s.size:=by omega
   rcases K7 hl hbl with⟨rfl,h6⟩|⟨k1,rfl⟩<;>rcases K7 hu hbu with⟨rfl,h7⟩|⟨k2,rfl⟩<;>
    (try (have h8:L=0:=by omega))<;>(try (have h9:U=s.size:=by omega))<;>(try subst h8)<;>(try subst h9)<;>
    simp[Instr.sliceAt,Instr.slice,run_underlying ht,Instr.sliceBounds,Instr.sliceBound,asIntOf,h3,h4,h5]
  ·exact hk.elim
 ·exact hk.elim
def b18(size:Nat)(p:AV)(lo hi mx:Option AV)(K:AV->Prop):Prop:=
 match p with
 |.nil=>match F5 0 lo,F5 0 hi,F5 0 mx with
  |some l,some u,some m=>(l=0/\u=0/\m=0)/\K .nil
  |_,_,_=>False
 |.sl els tok=>match F5 0 lo,F5 els.length hi with
  |some l,some u=>(0<=l/\l<=u/\u<=els.length)/\(∀el∈els,el.length=size)/\
   match mx with
   |none=>K (.sl ((els.take u.toNat).drop l.toNat) (match lo,hi with|none,none=>tok|_,_=>.no))
   |some (.v (.int _ m))=>m=u/\hi≠none/\K (.sl ((els.take u.toNat).drop l.toNat) .full)
   |some _=>False
  |_,_=>False
 |.row n off sz len cap=>match F5 0 lo,F5 len hi with
  |some l,some u=>(0<=l/\l<=u/\u<=len)/\sz=size/\
   match mx with
   |none=>if l<len then K (.row n (off+l.toNat*size) size (u.toNat - l.toNat) (cap - l.toNat)) else K (.sl [] .no)
   |some (.v (.int _ m))=>(m=u/\hi≠none)/\if l<u then K (.row n (off+l.toNat*size) size (u.toNat - l.toNat) (u.toNat - l.toNat)) else K (.sl [] .full)
   |some _=>False
  |_,_=>False
 |_=>False
theorem Rel.sl_sub{els:List (List AV)}{b o size:Nat}{xs:Nat->Nat->Value}(hs:∀(i:Nat) (el:List AV),els[i]? =some el->el.length=size)
  (hc:∀(i:Nat) (el:List AV),els[i]? =some el->∀(j:Nat) (av:AV),el[j]? =some av->σ.w.cell? ⟨b,o+i*size+j,none⟩=some (xs i j)/\¬σ.open_ b (o+i*size+j)/\av.isCell=true)
  (hr:∀(i:Nat) (el:List AV),els[i]? =some el->∀(j:Nat) (av:AV),el[j]? =some av->Rel σ av (xs i j)) (l u c o':Nat) (hlu:l<=u) (hu:u<=els.length) (hc':u - l<=c) (ho:u=l\/o'=o+l*size) (tok':Tok)
  (ht:c2r σ tok' (u - l) (some ⟨b,o',none⟩) c) (hz:∀id e,tok'=.own id->σ.buf id=some e->e.size=size):Rel σ (.sl ((els.take u).drop l) tok') (.slice (some ⟨b,o',none⟩) (u - l) c):=by
 have hlen:((els.take u).drop l).length=u - l:=by simp;omega
 have key:∀(i:Nat) (el:List AV),((els.take u).drop l)[i]? =some el->els[l+i]? =some el/\o'=o+l*size:=by
  intro i el hi;rw[List.getElem?_drop,List.getElem?_take]at hi;split at hi
  ·refine⟨hi,?_⟩;rcases ho with h|h
   ·omega
   ·exact h
  ·cases hi
 have:=Rel.sl (σ:=σ) ((els.take u).drop l) tok' b o' c size (fun i j=>xs (l+i) j) (fun i el hi=>hs _ _ (key i el hi).1) (by omega) (by rw[hlen];exact ht) hz
  (fun i el hi j av hj=>by
   obtain⟨h1,rfl⟩:=key i el hi;have:=hc _ _ h1 j av hj;rw[show o+l*size+i*size+j=o+(l+i)*size+j by rw[Nat.add_mul];omega];exact this)
  (fun i el hi j av hj=>hr _ _ (key i el hi).1 j av hj)
 rw[hlen]at this;exact this
theorem e4t{t elem:TypeId}{ie:TypeInfo}(ht:P.underlying t=some (.slice elem))(hie:P.info? elem=some ie){p:AV}{lo hi mx:Option AV}{x:Value}{l u m:Option Value}(hp:Rel σ p x)(hl:f2z σ lo l)(hu:f2z σ hi u)(hm:f2z σ mx m){K:AV->Prop}(hk:b18 ie.size p lo hi mx K)(hmx:mx≠none->hi≠none):
  ∃av z,K av/\Rel σ av z/\(Instr.sliceAt t x l u m).run P σ.w=.ok z σ.w:=by
 unfold b18 at hk;split at hk
 ·cases hp with
  |nil=>
  split at hk
  ·rename_i a b c h1 h2 h3;obtain⟨⟨rfl,rfl,rfl⟩,hk⟩:=hk;refine⟨_,_,hk,.nil,?_⟩
   have hum:m≠none->u≠none:=by
    intro h;have:mx≠none:=by rintro rfl;cases hm;exact h rfl
    have:=hmx this;intro hn;subst hn;cases hu;exact this rfl
   rcases K7 hl h1 with⟨rfl,_⟩|⟨k1,rfl⟩<;>rcases K7 hu h2 with⟨rfl,_⟩|⟨k2,rfl⟩<;>rcases K7 hm h3 with⟨rfl,_⟩|⟨k3,rfl⟩<;>
    first
     |(simp[Instr.sliceAt,Instr.slice,run_underlying ht,Instr.sliceBounds,Instr.sliceBound,asIntOf,sizeOf,typeInfo,hie];done)
     |exact absurd rfl (hum (by simp))
  ·exact hk.elim
 ·rename_i els tok;split at hk
  ·rename_i ln un hbl hbu;obtain⟨⟨h0,h1,h2⟩,hsz,hk⟩:=hk;obtain⟨L,rfl⟩:∃L:Nat,ln=L:=⟨ln.toNat,by omega⟩
   obtain⟨U,rfl⟩:∃U:Nat,un=U:=⟨un.toNat,by omega⟩
   have h4:L<=U:=by omega
   have h5:U<=els.length:=by omega
   cases hp with
   |sl0 _ htk=>
    simp only[List.length_nil,Nat.le_zero_eq]at h5;subst h5;simp only[Nat.le_zero_eq]at h4;subst h4;cases hm with
    |none=>
     refine⟨_,.slice none 0 0,hk,?_,?_⟩
     ·refine .sl0 _ ?_;split
      ·exact htk
      ·trivial
     ·rcases K7 hl hbl with⟨rfl,_⟩|⟨k1,rfl⟩<;>rcases K7 hu hbu with⟨rfl,_⟩|⟨k2,rfl⟩<;>
       simp[Instr.sliceAt,Instr.slice,run_underlying ht,Instr.sliceBounds,Instr.sliceBound,asIntOf,sizeOf,typeInfo,hie]
    |some hmv=>
     try dsimp only at hk
     split at hk
     ·rename_i heq;cases heq
     ·rename_i k mm heq;cases heq;obtain⟨rfl,hne,hk⟩:=hk;cases hmv with
      |v _ _=>
      refine⟨_,.slice none 0 0,hk,.sl0 _ rfl,?_⟩
      rcases K7 hl hbl with⟨rfl,_⟩|⟨k1,rfl⟩<;>rcases K7 hu hbu with⟨rfl,_⟩|⟨k2,rfl⟩<;>
       first
        |(cases hu;exact absurd rfl hne)
        |simp[Instr.sliceAt,Instr.slice,run_underlying ht,Instr.sliceBounds,Instr.sliceBound,asIntOf,sizeOf,typeInfo,hie]
     ·exact hk.elim
   |slx _ sa scap hst hsc=>
    simp only[List.length_nil,Nat.le_zero_eq]at h5;subst h5;simp only[Nat.le_zero_eq]at h4;subst h4;cases hm with
    |none=>
     refine⟨_,.slice (some sa) 0 scap,hk,?_,?_⟩
     ·split
      ·exact .slx _ sa scap hst hsc
      ·exact .slx _ sa scap trivial (.inl rfl)
     ·rcases K7 hl hbl with⟨rfl,_⟩|⟨k1,rfl⟩<;>rcases K7 hu hbu with⟨rfl,_⟩|⟨k2,rfl⟩<;>
       simp[Instr.sliceAt,Instr.slice,run_underlying ht,Instr.sliceBounds,Instr.sliceBound,asIntOf,sizeOf,typeInfo,hie,Addr.add]
    |some hmv=>
     try dsimp only at hk
     split at hk
     ·rename_i heq;cases heq
     ·rename_i k mm heq;cases heq;obtain⟨rfl,hne,hk⟩:=hk;cases hmv with
      |v _ _=>
      refine⟨_,.slice (some sa) 0 0,hk,?_,?_⟩
      ·exact .slx _ sa 0 rfl (.inr rfl)
      rcases K7 hl hbl with⟨rfl,_⟩|⟨k1,rfl⟩<;>rcases K7 hu hbu with⟨rfl,_⟩|⟨k2,rfl⟩<;>
       first
        |(cases hu;exact absurd rfl hne)
        |simp[Instr.sliceAt,Instr.slice,run_underlying ht,Instr.sliceBounds,Instr.sliceBound,asIntOf,sizeOf,typeInfo,hie]
     ·exact hk.elim
   |sl _ _ b o cap size xs hs hcap htk hz hc hr=>
    have hsize:0<els.length->size=ie.size:=by
     intro h;have:=hs 0 els[0] (List.getElem?_eq_getElem h);rw[<-this];exact hsz _ (List.getElem_mem h)
    have hU:U<=cap:=by omega
    cases hm with
    |none=>
     refine⟨_,_,hk,Rel.sl_sub hs hc hr L U (cap - L) (if cap=L then o else o+L*ie.size) h4 h5 (by omega) ?_ _ ?_ ?_,?_⟩
     ·by_cases hUL:U=L
      ·exact .inl hUL
      ·right;rw[if_neg (by omega),hsize (by omega)]
     ·split
      ·rcases K7 hl hbl with⟨_,h6⟩|⟨k1,h6⟩
       ·rcases K7 hu hbu with⟨_,h7⟩|⟨k2,h7⟩
        ·obtain rfl:L=0:=by omega
         obtain rfl:U=els.length:=by omega
         simpa using htk
        ·subst h7;cases hu
       ·subst h6;cases hl
      ·trivial
     ·intro id e hid he;split at hid
      ·exact hz id e hid he
      ·cases hid
     ·rcases K7 hl hbl with⟨rfl,h6⟩|⟨k1,rfl⟩<;>rcases K7 hu hbu with⟨rfl,h7⟩|⟨k2,rfl⟩<;>
       (try (have h8:L=0:=by omega))<;>(try (have h9:U=els.length:=by omega))<;>(try subst h8)<;>(try subst h9)<;>
       simp[Instr.sliceAt,Instr.slice,run_underlying ht,Instr.sliceBounds,Instr.sliceBound,asIntOf,sizeOf,typeInfo,hie,hU,h4,hcap,Z7]<;>
       (try (split<;>rfl))
    |some hmv=>
     try dsimp only at hk
     split at hk
     ·rename_i heq;cases heq
     ·rename_i k mm heq;cases heq;obtain⟨rfl,hne,hk⟩:=hk;cases hmv with
      |v _ _=>
      refine⟨_,_,hk,Rel.sl_sub hs hc hr L U (U - L) (if U=L then o else o+L*ie.size) h4 h5 (Nat.le_refl _) ?_ _ rfl (fun id e hid=>by cases hid),?_⟩
      ·by_cases hUL:U=L
       ·exact .inl hUL
       ·right;rw[if_neg hUL,hsize (by omega)]
      ·rcases K7 hl hbl with⟨rfl,h6⟩|⟨k1,rfl⟩<;>rcases K7 hu hbu with⟨rfl,h7⟩|⟨k2,rfl⟩<;>
        first
         |(cases hu;exact absurd rfl hne)
         |((try (have h8:L=0:=by omega));(try subst h8);simp[Instr.sliceAt,Instr.slice,run_underlying ht,Instr.sliceBounds,Instr.sliceBound,asIntOf,sizeOf,typeInfo,hie,hU,h4,hcap,Z7]<;>(try (split<;>rfl)))
     ·exact hk.elim
  ·exact hk.elim
 ·rename_i n off sz len capm;split at hk
  ·rename_i ln un hbl hbu;obtain⟨⟨h0,h1,h2⟩,rfl,hk⟩:=hk;obtain⟨L,rfl⟩:∃L:Nat,ln=L:=⟨ln.toNat,by omega⟩
   obtain⟨U,rfl⟩:∃U:Nat,un=U:=⟨un.toNat,by omega⟩
   have h4:L<=U:=by omega
   have h5:U<=len:=by omega
   cases hp with
   |row _ _ _ _ _ b cap hb hcap hcm hx=>
   have hU:U<=cap:=by omega
   have hxs:L<cap->∀c,c<=cap - L->∀o,o<off+L*ie.size+c*ie.size->(σ.w.cell? ⟨b,o,none⟩).isSome=true:=by
    intro hl c hc o ho;refine hx o (Nat.lt_of_lt_of_le ho ?_);rw[Nat.add_assoc,<-Nat.add_mul];exact Nat.add_le_add_left (Nat.mul_le_mul_right _ (by omega)) _
   cases hm with
   |none=>
    have hrun:(Instr.sliceAt t (.slice (some ⟨b,off,none⟩) len cap) l u none).run P σ.w=.ok (.slice (some ⟨b,if cap=L then off else off+L*ie.size,none⟩) (U - L) (cap - L)) σ.w:=by
     rcases K7 hl hbl with⟨rfl,h6⟩|⟨k1,rfl⟩<;>rcases K7 hu hbu with⟨rfl,h7⟩|⟨k2,rfl⟩<;>
      (try (have h8:L=0:=by omega))<;>(try (have h9:U=len:=by omega))<;>(try subst h8)<;>(try subst h9)<;>
      simp[Instr.sliceAt,Instr.slice,run_underlying ht,Instr.sliceBounds,Instr.sliceBound,asIntOf,sizeOf,typeInfo,hie,hU,h4,hcap,Z7]<;>
      (try (split<;>rfl))
    try dsimp only at hk
    split at hk
    ·rename_i hlt;have hlt':L<len:=by omega
     rw[if_neg (by omega)]at hrun;exact⟨_,_,hk,.row n _ _ _ _ b (cap - L) hb (by simp;omega) (by simp;omega) (by simpa using hxs (by omega) (cap - L) (Nat.le_refl _)),by simpa using hrun⟩
    ·obtain rfl:U=L:=by omega
     exact⟨_,_,hk,by rw[Nat.sub_self];exact .slx _ _ _ trivial (.inl rfl),hrun⟩
   |some hmv=>
    try dsimp only at hk
    split at hk
    ·rename_i heq;cases heq
    ·rename_i k mm heq;cases heq;obtain⟨⟨rfl,hne⟩,hk⟩:=hk;cases hmv with
     |v _ _=>
     have hrun:(Instr.sliceAt t (.slice (some ⟨b,off,none⟩) len cap) l u (some (.int k U))).run P σ.w=.ok (.slice (some ⟨b,if U=L then off else off+L*ie.size,none⟩) (U - L) (U - L)) σ.w:=by
      rcases K7 hl hbl with⟨rfl,h6⟩|⟨k1,rfl⟩<;>rcases K7 hu hbu with⟨rfl,h7⟩|⟨k2,rfl⟩<;>
       first
        |(cases hu;exact absurd rfl hne)
        |((try (have h8:L=0:=by omega));(try subst h8);simp[Instr.sliceAt,Instr.slice,run_underlying ht,Instr.sliceBounds,Instr.sliceBound,asIntOf,sizeOf,typeInfo,hie,hU,h4,hcap,Z7]<;>(try (split<;>rfl)))
     split at hk
     ·rename_i hlt;have hlt':L<U:=by omega
      rw[if_neg (by omega)]at hrun;exact⟨_,_,hk,.row n _ _ _ _ b (U - L) hb (by simp) (by simp) (by simpa using hxs (by omega) (U - L) (by omega)),by simpa using hrun⟩
     ·obtain rfl:U=L:=by omega
      rw[Nat.sub_self]at hrun;exact⟨_,_,hk,.slx _ _ _ rfl (.inr rfl),hrun⟩
    ·exact hk.elim
  ·exact hk.elim
 ·exact hk.elim
end
def F0(op:BinOp)(k:IntKind)(a b:Int):Int:=
 k.wrap ((match op with
  |.and=>BitVec.ofInt k.bits a&&&BitVec.ofInt k.bits b
  |.or=>BitVec.ofInt k.bits a|||BitVec.ofInt k.bits b
  |.xor=>BitVec.ofInt k.bits a ^^^ BitVec.ofInt k.bits b
  |_=>BitVec.ofInt k.bits a&&&~~~ (BitVec.ofInt k.bits b)).toNat:Int)
def d9s(op:BinOp)(x y:Value):Option (Prop × Value):=
 match op,x,y with
 |.shl,.int k a,.int _ b=>some (0<=b,.int k (k.wrap (a*2 ^ min b.toNat k.bits)))
 |.shr,.int k a,.int _ b=>some (0<=b,.int k (a.fdiv (2 ^ min b.toNat k.bits)))
 |.add,.int k a,.int k' b=>if k=k' then some (True,.int k (k.wrap (a+b))) else none
 |.sub,.int k a,.int k' b=>if k=k' then some (True,.int k (k.wrap (a - b))) else none
 |.mul,.int k a,.int k' b=>if k=k' then some (True,.int k (k.wrap (a*b))) else none
 |.quo,.int k a,.int k' b=>if k=k' then some (b≠0,.int k (k.wrap (a.tdiv b))) else none
 |.rem,.int k a,.int k' b=>if k=k' then some (b≠0,.int k (a.tmod b)) else none
 |.and,.int k a,.int k' b=>if k=k' then some (True,.int k (F0 .and k a b)) else none
 |.or,.int k a,.int k' b=>if k=k' then some (True,.int k (F0 .or k a b)) else none
 |.xor,.int k a,.int k' b=>if k=k' then some (True,.int k (F0 .xor k a b)) else none
 |.andNot,.int k a,.int k' b=>if k=k' then some (True,.int k (F0 .andNot k a b)) else none
 |.eql,.int k a,.int k' b=>if k=k' then some (True,.bool (a==b)) else none
 |.neq,.int k a,.int k' b=>if k=k' then some (True,.bool (a !=b)) else none
 |.lss,.int k a,.int k' b=>if k=k' then some (True,.bool (decide (a<b))) else none
 |.leq,.int k a,.int k' b=>if k=k' then some (True,.bool (decide (a<=b))) else none
 |.gtr,.int k a,.int k' b=>if k=k' then some (True,.bool (decide (b<a))) else none
 |.geq,.int k a,.int k' b=>if k=k' then some (True,.bool (decide (b<=a))) else none
 |.add,.string a,.string b=>some ((a.size+b.size:Nat)<=9223372036854775807,.string (a++b))
 |.eql,.string a,.string b=>some (True,.bool (a.toList==b.toList))
 |.neq,.string a,.string b=>some (True,.bool (!(a.toList==b.toList)))
 |.lss,.string a,.string b=>some (True,.bool (Op.bytesLess a.toList b.toList))
 |.leq,.string a,.string b=>some (True,.bool (Op.bytesLess a.toList b.toList||a.toList==b.toList))
 |.gtr,.string a,.string b=>some (True,.bool (!(Op.bytesLess a.toList b.toList||a.toList==b.toList)))
 |.geq,.string a,.string b=>some (True,.bool (!(Op.bytesLess a.toList b.toList)))
 |_,_,_=>none
section
variable {P:Program}{σ:Sg}{h:A4}
def d2w(op:BinOp)(x y:AV)(K:AV->Prop):Prop:=
 match x,y with
 |.v a,.v b=>match d9s op a b with
  |some (c,r)=>c/\K (.v r)
  |none=>False
 |_,_=>False
theorem g03{op:BinOp}{a b:Value}{c:Prop}{r:Value}(hp:d9s op a b=some (c,r))(hc:c)(t:TypeId)(x y:Operand)(w:World):
    f9a r=true/\(do eqGuard op t x y a b;binOp op t a b:Sem Value).run P w=.ok r w:=by
  unfold d9s at hp
  split at hp<;>(try split at hp)<;>first
    |(cases hp;done)
    |(simp only[Option.some.injEq,Prod.mk.injEq]at hp;obtain⟨rfl,rfl⟩:=hp;(try subst_vars);refine⟨rfl,?_⟩
      first
       |(simp[eqGuard,Go.binOp,Op.intArith,Op.intBits,Op.intCmp,Op.stringOp,F0];done)
       |(have hz:=hc;simp only[ne_eq]at hz;simp[eqGuard,Go.binOp,Op.intDiv,hz];done)
       |(have hz:¬(_<(0:Int)):=Int.not_lt.2 hc;simp[eqGuard,Go.binOp,Op.shift,hz];done)
       |(rename_i a b
         have hz:¬(9223372036854775807<((a.size:Int)+(b.size:Int))):=by omega
         simp[eqGuard,Go.binOp,Op.stringOp,hz];done)
       |skip)
theorem f14{op:BinOp}{p q:AV}{x y:Value}(hp:Rel σ p x)(hq:Rel σ q y){K:AV->Prop}(hk:d2w op p q K)(t:TypeId)(u v:Operand):
  ∃av z,K av/\Rel σ av z/\(do eqGuard op t u v x y;binOp op t x y:Sem Value).run P σ.w=.ok z σ.w:=by
 unfold d2w at hk;split at hk
 ·rename_i a b;cases hp with
  |v _ _=>
  cases hq with
  |v _ _=>
  split at hk
  ·rename_i c r hpb;obtain⟨h1,h2⟩:=g03 (P:=P) hpb hk.1 t u v σ.w;exact⟨_,_,hk.2,.v _ h1,h2⟩
  ·exact hk.elim
 ·exact hk.elim
inductive EqK where
 |bool|slice|func|ptr|iface|flat (ks:List Nat)
 deriving DecidableEq
def a93:List Nat->List AV->List AV->Option Bool
 |[],[],[]=>some true
 |0::ks,.v (.int k a)::xs,.v (.int k' b)::ys=>if k=k' then(a93 ks xs ys).map fun r=>a==b&&r else none
 |1::ks,.v (.bool a)::xs,.v (.bool b)::ys=>(a93 ks xs ys).map fun r=>a==b&&r
 |2::ks,.v (.string a)::xs,.v (.string b)::ys=>(a93 ks xs ys).map fun r=>a==b&&r
 |_,_,_=>none
def e8c(o:Option Bool)(K:Bool->Prop):Prop:=
 match o with
 |some b=>K b
 |none=>False
def f2a(c:EqK)(x y:AV)(K:Bool->Prop):Prop:=
 match c,x,y with
 |.bool,.v (.bool a),.v (.bool b)=>K (a==b)
 |.slice,.nil,.nil=>K true
 |.slice,.sl els _,.nil=>(els≠[]/\K false)\/(els=[]/\K true/\K false)
 |.slice,.nil,.sl els _=>(els≠[]/\K false)\/(els=[]/\K true/\K false)
 |.slice,.row _ _ _ _ _,.nil=>K false
 |.slice,.nil,.row _ _ _ _ _=>K false
 |.func,.clo _ _ _,.v .nilFunc=>K false
 |.func,.v .nilFunc,.clo _ _ _=>K false
 |.func,.v .nilFunc,.v .nilFunc=>K true
 |.ptr,.ptr _ _,.v (.pointer none)=>K false
 |.ptr,.elt _ _,.v (.pointer none)=>K false
 |.ptr,.v (.pointer none),.v (.pointer none)=>K true
 |.iface,.iface _ _,.v .nilIface=>K false
 |.iface,.v .nilIface,.iface _ _=>K false
 |.iface,.v .nilIface,.v .nilIface=>K true
 |.flat ks,.agg xs,.agg ys=>e8c (a93 ks xs ys) K
 |_,_,_=>False
def d8x(P:Program):List Field->Nat->Option (List Nat)
 |[],_=>some []
 |f::r,i=>if f.offset=i/\¬f.name= "_"/\a8j P f.type=some none then(match P.underlying f.type with
  |some (.int _)=>(d8x P r (i+1)).map fun ks=>0::ks
  |some .bool=>(d8x P r (i+1)).map fun ks=>1::ks
  |some .string=>(d8x P r (i+1)).map fun ks=>2::ks
  |_=>none) else none
def g6b(P:Program)(t:TypeId):Option (List Nat):=
 match P.underlying t with
 |some (.struct fs)=>if(!P.stoodInHeld t&& !P.eqGuardType P.depth t)=true then d8x P fs.toList 0 else none
 |_=>none
def f47:TypeDesc->Option EqK
 |.bool=>some .bool
 |.slice _=>some .slice
 |.func _ _ _=>some .func
 |.pointer _=>some .ptr
 |.interface _=>some .iface
 |_=>none
def eqK(P:Program)(t:TypeId):Option EqK:=match g6b P t with
 |some ks=>some (.flat ks)
 |none=>(P.underlying t).bind f47
def c08:Operand->Bool
 |.const _=>true
 |_=>false
set_option maxHeartbeats 4000000 in
theorem f1s{t:TypeId}{d:TypeDesc}(ht:P.underlying t=some d){c:EqK}(hd:f47 d=some c){p q:AV}{x y:Value}(hp:Rel σ p x)(hq:Rel σ q y){K:Bool->Prop}(hk:f2a c p q K)(u v:Operand)(hc:c=.iface->c08 u=true\/c08 v=true)(op:BinOp)(hop:op=.eql\/op=.neq):
  ∃b,K b/\(do eqGuard op t u v x y;binOp op t x y:Sem Value).run P σ.w=.ok (.bool (if op=.eql then b else !b)) σ.w:=by
 obtain⟨n,eql⟩:∃n:Nat,∀a b:Value,Op.equal t a b=Op.equalIn (n+1) t a b:=⟨9999,fun _ _=>rfl⟩
 have hfl:∀ks,c≠.flat ks:=by rintro ks rfl;cases d<;>simp[f47]at hd
 unfold f2a at hk;split at hk<;>first|exact hk.elim|exact absurd rfl (hfl _)|skip
 all_goals
  cases d<;>first|(simp[f47]at hd;done)|skip
  cases hp<;>cases hq<;>
  rcases hop with rfl|rfl
 all_goals first
  |(refine⟨_,hk,?_⟩;simp[eqGuard,Go.binOp,eql,Op.equalIn,run_underlying ht];done)
  |(refine⟨_,hk.2,?_⟩;simp[eqGuard,Go.binOp,eql,Op.equalIn,run_underlying ht];done)
  |(rcases hk with⟨h0,hk⟩|⟨h0,hk1,hk2⟩<;>first|(exact absurd rfl h0)|(refine⟨_,hk1,?_⟩;simp[eqGuard,Go.binOp,eql,Op.equalIn,run_underlying ht];done)|(refine⟨_,hk2,?_⟩;simp[eqGuard,Go.binOp,eql,Op.equalIn,run_underlying ht];done)|(refine⟨_,hk,?_⟩;simp[eqGuard,Go.binOp,eql,Op.equalIn,run_underlying ht];done)|(subst h0;simp at*;done))
  |(refine⟨_,hk,?_⟩;rcases hc rfl with h|h<;>(cases u<;>cases v<;>first|(simp[c08]at h;done)|(simp[eqGuard,Go.binOp,eql,Op.equalIn,run_underlying ht];done)))
  |skip
theorem g1o{ks:List Nat}{xs ys:List AV}{b:Bool}(h:a93 (0::ks) xs ys=some b):∃k a b' xs' ys' c,xs=.v (.int k a)::xs'/\ys=.v (.int k b')::ys'/\a93 ks xs' ys'=some c/\b=(a==b'&&c):=by
 unfold a93 at h;split at h
 ·rename_i h1;cases h1
 ·rename_i ks2 k a xs' k' b' ys' h1;cases h1;split at h
  ·rename_i hk;subst hk;obtain⟨c,hc,rfl⟩:=Option.map_eq_some_iff.1 h;exact⟨k,a,b',xs',ys',c,rfl,rfl,hc,rfl⟩
  ·cases h
 ·rename_i h1;cases h1
 ·rename_i h1;cases h1
 ·cases h
theorem g0a{ks:List Nat}{xs ys:List AV}{b:Bool}(h:a93 (1::ks) xs ys=some b):∃a b' xs' ys' c,xs=.v (.bool a)::xs'/\ys=.v (.bool b')::ys'/\a93 ks xs' ys'=some c/\b=(a==b'&&c):=by
 unfold a93 at h;split at h
 ·rename_i h1;cases h1
 ·rename_i h1;cases h1
 ·rename_i ks2 a xs' b' ys' h1;cases h1;obtain⟨c,hc,rfl⟩:=Option.map_eq_some_iff.1 h;exact⟨a,b',xs',ys',c,rfl,rfl,hc,rfl⟩
 ·rename_i h1;cases h1
 ·cases h
theorem g14{ks:List Nat}{xs ys:List AV}{b:Bool}(h:a93 (2::ks) xs ys=some b):∃a b' xs' ys' c,xs=.v (.string a)::xs'/\ys=.v (.string b')::ys'/\a93 ks xs' ys'=some c/\b=(a==b'&&c):=by
 unfold a93 at h;split at h
 ·rename_i h1;cases h1
 ·rename_i h1;cases h1
 ·rename_i h1;cases h1
 ·rename_i ks2 a xs' b' ys' h1;cases h1;obtain⟨c,hc,rfl⟩:=Option.map_eq_some_iff.1 h;exact⟨a,b',xs',ys',c,rfl,rfl,hc,rfl⟩
 ·cases h
theorem d6l{n:Nat}(vx vy:Array Value)(w:World):∀(l:List Field) (i:Nat) (ks:List Nat) (xs ys:List AV) (b:Bool),d8x P l i=some ks->(∀(j:Nat) av,xs[j]? =some av->∃v,vx[i+j]? =some v/\Rel σ av v)->(∀(j:Nat) av,ys[j]? =some av->∃v,vy[i+j]? =some v/\Rel σ av v)->a93 ks xs ys=some b->
  (forIn l (none,()) fun f (__s:Option Bool × Unit)=>(if f.name= "_" then pure (ForInStep.yield (none,())) else do
   let a <-part f.type vx f.offset
   let c <-part f.type vy f.offset
   let r <-Op.equalIn (n+1) f.type a c
   if r=false then pure (ForInStep.done (some false,())) else pure (ForInStep.yield (none,())):Sem (ForInStep (Option Bool × Unit)))).run P w=.ok (if b=true then(none,()) else(some false,())) w
 |[],i,ks,xs,ys,b,hk,_,_,he=>by
  cases hk;unfold a93 at he;split at he<;>simp_all
 |f::r,i,ks,xs,ys,b,hk,hx,hy,he=>by
  unfold d8x at hk;split at hk
  ·rename_i hf;obtain⟨ho,hnm,hag⟩:=hf;have key:∀(x y:AV) (xs' ys':List AV) (vx0 vy0:Value) (ks':List Nat) (r0 c:Bool),xs=x::xs'->ys=y::ys'->vx[i]? =some vx0->vy[i]? =some vy0->d8x P r (i+1)=some ks'->a93 ks' xs' ys'=some c->b=(r0&&c)->(Op.equalIn (n+1) f.type vx0 vy0).run P w=.ok r0 w->(forIn (f::r) (none,()) fun f (__s:Option Bool × Unit)=>(if f.name= "_" then pure (ForInStep.yield (none,())) else do
   let a <-part f.type vx f.offset
   let c <-part f.type vy f.offset
   let r <-Op.equalIn (n+1) f.type a c
   if r=false then pure (ForInStep.done (some false,())) else pure (ForInStep.yield (none,())):Sem (ForInStep (Option Bool × Unit)))).run P w=.ok (if b=true then(none,()) else(some false,())) w:=by
    intro x y xs' ys' vx0 vy0 ks' r0 c ex ey hx0 hy0 hks' hc hb he0;subst ex ey;have px:=c8l (P:=P) hag vx f.offset w;have py:=c8l (P:=P) hag vy f.offset w;rw[ho]at px py;simp only[hx0]at px;simp only[hy0]at py
    have ih:=d6l (n:=n) vx vy w r (i+1) ks' xs' ys' c hks' (fun j av hj=>by
     have:=hx (j+1) av (by simpa using hj)
     rwa [show i+(j+1)=i+1+j by omega]at this) (fun j av hj=>by
     have:=hy (j+1) av (by simpa using hj)
     rwa [show i+(j+1)=i+1+j by omega]at this) hc
    cases r0 with
    |true=>
     simp only[Bool.true_and]at hb;subst hb;simpa[List.forIn_cons,hnm,ho,px,py,he0]using ih
    |false=>
     simp only[Bool.false_and]at hb;subst hb;simp[List.forIn_cons,hnm,ho,px,py,he0]
   have first:∀(x y:AV) (xs' ys':List AV),xs=x::xs'->ys=y::ys'->∃vx0 vy0,vx[i]? =some vx0/\vy[i]? =some vy0/\Rel σ x vx0/\Rel σ y vy0:=by
    intro x y xs' ys' ex ey;subst ex ey;obtain⟨v1,h1,h2⟩:=hx 0 x rfl;obtain⟨v2,h3,h4⟩:=hy 0 y rfl;exact⟨v1,v2,by simpa using h1,by simpa using h3,h2,h4⟩
   split at hk
   ·rename_i ik hu;obtain⟨ks',hks',rfl⟩:=Option.map_eq_some_iff.1 hk;obtain⟨k,a,b',xs',ys',c,e1,e2,hc,rfl⟩:=g1o he;obtain⟨v1,v2,q1,q2,r1,r2⟩:=first _ _ _ _ e1 e2;cases r1 with
    |v _ _=>
    cases r2 with
    |v _ _=>exact key _ _ _ _ _ _ _ _ c e1 e2 q1 q2 hks' hc rfl (by simp[Op.equalIn,run_underlying hu])
   ·rename_i hu;obtain⟨ks',hks',rfl⟩:=Option.map_eq_some_iff.1 hk;obtain⟨a,b',xs',ys',c,e1,e2,hc,rfl⟩:=g0a he;obtain⟨v1,v2,q1,q2,r1,r2⟩:=first _ _ _ _ e1 e2;cases r1 with
    |v _ _=>
    cases r2 with
    |v _ _=>exact key _ _ _ _ _ _ _ _ c e1 e2 q1 q2 hks' hc rfl (by simp[Op.equalIn,run_underlying hu])
   ·rename_i hu;obtain⟨ks',hks',rfl⟩:=Option.map_eq_some_iff.1 hk;obtain⟨a,b',xs',ys',c,e1,e2,hc,rfl⟩:=g14 he;obtain⟨v1,v2,q1,q2,r1,r2⟩:=first _ _ _ _ e1 e2;cases r1 with
    |v _ _=>
    cases r2 with
    |v _ _=>exact key _ _ _ _ _ _ _ _ c e1 e2 q1 q2 hks' hc rfl (by simp[Op.equalIn,run_underlying hu])
   ·cases hk
  ·cases hk
theorem f3s{t:TypeId}{c:EqK}(hd:eqK P t=some c){p q:AV}{x y:Value}(hp:Rel σ p x)(hq:Rel σ q y){K:Bool->Prop}(hk:f2a c p q K)(u v:Operand)(hc:c=.iface->c08 u=true\/c08 v=true)(op:BinOp)(hop:op=.eql\/op=.neq):
  ∃b,K b/\(do eqGuard op t u v x y;binOp op t x y:Sem Value).run P σ.w=.ok (.bool (if op=.eql then b else !b)) σ.w:=by
 unfold eqK at hd;split at hd
 ·rename_i ks hks;cases hd;unfold g6b at hks;split at hks
  ·rename_i fs hu;split at hks
   ·rename_i hcond;simp only[Bool.and_eq_true,Bool.not_eq_true']at hcond;cases p<;>simp only[f2a]at hk<;>try (exact hk.elim)
    cases q<;>simp only[f2a]at hk<;>try (exact hk.elim)
    rename_i xs ys;unfold e8c at hk;split at hk
    ·rename_i b hb;refine⟨b,hk,?_⟩;cases hp with
     |agg _ vx hn _ xv hx hr=>
     cases hq with
     |agg _ vy hn' _ yv hy hr'=>
     have hgen:∀n,(Op.equalIn (n+1+1) t (.agg vx) (.agg vy)).run P σ.w=.ok b σ.w:=by
      intro n;have hloop:=d6l (P:=P) (σ:=σ) (n:=n) vx vy σ.w fs.toList 0 ks xs ys b hks (fun j av hj=>⟨_,by simpa using hx j av hj,hr j av hj⟩) (fun j av hj=>⟨_,by simpa using hy j av hj,hr' j av hj⟩) hb;rw[Op.equalIn];simp[run_underlying hu,hcond.1];rw[<-Array.forIn_toList,hloop];cases b<;>simp
     have heq:(Op.equal t (.agg vx) (.agg vy)).run P σ.w=.ok b σ.w:=hgen 9998
     have hguard:(eqGuard op t u v (.agg vx) (.agg vy)).run P σ.w=.ok () σ.w:=by
      rcases hop with rfl|rfl<;>simp[eqGuard,hcond.2]
     rw[Sem.run_bind,hguard];rcases hop with rfl|rfl<;>simp[Go.binOp,heq]
    ·exact hk.elim
   ·cases hks
  ·cases hks
 ·obtain⟨d,h1,h2⟩:=Option.bind_eq_some_iff.1 hd;exact f1s h1 h2 hp hq hk u v hc op hop
def f3k(op:UnOp)(x:AV)(K:AV->Prop):Prop:=
 match op,x with
 |.not,.v (.bool b)=>K (.v (.bool (!b)))
 |.neg,.v (.int k n)=>K (.v (.int k (k.wrap (0 - n))))
 |.xor,.v (.int k n)=>K (.v (.int k (F0 .xor k (if k.signed then -1 else k.max) n)))
 |_,_=>False
theorem f2t{op:UnOp}{p:AV}{x:Value}(hp:Rel σ p x){K:AV->Prop}(hk:f3k op p K):∃av z,K av/\Rel σ av z/\(Op.unary op x).run P σ.w=.ok z σ.w:=by
 unfold f3k at hk;split at hk
 ·cases hp;exact⟨_,_,hk,.v _ rfl,by simp[Op.unary]⟩
 ·cases hp;exact⟨_,_,hk,.v _ rfl,by simp[Op.unary,Op.intArith]⟩
 ·cases hp;exact⟨_,_,hk,.v _ rfl,by simp[Op.unary,Op.intBits,F0]⟩
 ·exact hk.elim
inductive CK where
 |num (k:IntKind)
 |chr
 |same
 |str
 deriving DecidableEq
def Y4(l:List UInt8):List (List AV):=l.map fun b=>[.v (.int .u8 b.toNat)]
def d6k(c:CK)(x:AV)(K:AV->Prop):Prop:=
 match c,x with
 |.num k,.v (.int _ n)=>K (.v (.int k (k.wrap n)))
 |.chr,.v (.int _ n)=>K (.v (.string (Utf8.encode n)))
 |.same,.v (.string s)=>K (.v (.string s))
 |.str,.nil=>K (.v (.string .empty))
 |.str,.sl els _=>∃l,els=Y4 l/\K (.v (.string ⟨l.toArray⟩))
 |_,_=>False
def c0j(P:Program)(src dst:TypeId):Option CK:=
 match P.underlying src,P.underlying dst with
 |some (.int _),some (.int k)=>some (.num k)
 |some (.int _),some .string=>some .chr
 |some .string,some .string=>some .same
 |some (.slice e),some .string=>match P.underlying e with
  |some (.int .u8)=>some .str
  |_=>none
 |_,_=>none
theorem e3o{src dst:TypeId}{k:IntKind}(h:c0j P src dst=some (.num k)):∃j,P.underlying src=some (.int j)/\P.underlying dst=some (.int k):=by
 unfold c0j at h;split at h<;>(try (split at h))<;>simp_all
theorem e4m{src dst:TypeId}(h:c0j P src dst=some .chr):∃j,P.underlying src=some (.int j)/\P.underlying dst=some .string:=by
 unfold c0j at h;split at h<;>(try (split at h))<;>simp_all
theorem e0e{src dst:TypeId}(h:c0j P src dst=some .same):P.underlying src=some .string/\P.underlying dst=some .string:=by
 unfold c0j at h;split at h<;>(try (split at h))<;>simp_all
theorem d3d{src dst:TypeId}(h:c0j P src dst=some .str):∃e,P.underlying src=some (.slice e)/\P.underlying e=some (.int .u8)/\P.underlying dst=some .string:=by
 unfold c0j at h;split at h<;>(try (split at h))<;>simp_all
theorem e93{src dst:TypeId}{c:CK}(hc:c0j P src dst=some c){p:AV}{x:Value}(hp:Rel σ p x){K:AV->Prop}(hk:d6k c p K):∃av z,K av/\Rel σ av z/\(convert src dst x).run P σ.w=.ok z σ.w:=by
 unfold d6k at hk;split at hk
 ·cases hp;obtain⟨j,hs,hd⟩:=e3o hc;exact⟨_,_,hk,.v _ rfl,by simp[convert,run_underlying hs,run_underlying hd,Conv.intToInt]⟩
 ·cases hp;obtain⟨j,hs,hd⟩:=e4m hc;exact⟨_,_,hk,.v _ rfl,by simp[convert,run_underlying hs,run_underlying hd,Conv.intToString]⟩
 ·cases hp;obtain⟨hs,hd⟩:=e0e hc;exact⟨_,_,hk,.v _ rfl,by simp[convert,run_underlying hs,run_underlying hd]⟩
 ·cases hp;obtain⟨e,hs,he,hd⟩:=d3d hc;exact⟨_,_,hk,.v _ rfl,by simp[convert,run_underlying hs,run_underlying hd,run_underlying he,Conv.bytesToString]⟩
 ·rename_i els tok;obtain⟨l,hl,hk⟩:=hk;obtain⟨e,hs,he,hd⟩:=d3d hc;cases hp with
  |sl0 _ _=>
   have:l=[]:=by simpa[Y4]using hl
   subst this;exact⟨_,_,hk,.v _ rfl,by simp[convert,run_underlying hs,run_underlying hd,run_underlying he,Conv.bytesToString];rfl⟩
  |slx _ sa scap _ _=>
   have:l=[]:=by simpa[Y4]using hl
   subst this;exact⟨_,_,hk,.v _ rfl,by simp[convert,run_underlying hs,run_underlying hd,run_underlying he,Conv.bytesToString,loadCells,loadCellsFrom];rfl⟩
  |sl _ _ b o cap size xs hs' hcap htk hz hcc hr=>
   have hlen:els.length=l.length:=by rw[hl];simp[Y4]
   have hel:∀j (hj:j<l.length),els[j]? =some [.v (.int .u8 l[j].toNat)]:=by intro j hj;rw[hl];simp[Y4,hj]
   refine⟨_,_,hk,.v _ rfl,?_⟩;rw[hlen];refine run_convert_bytes_back σ.w src dst e _ cap l hs he hd fun j hj=>?_
   have h1:=hs' _ _ (hel j hj);simp at h1;subst h1;obtain⟨h2,_⟩:=hcc _ _ (hel j hj) 0 _ rfl;have h3:=hr _ _ (hel j hj) 0 _ rfl;have h4:xs j 0=.int .u8 l[j].toNat:=by generalize xs j 0=y at h3;cases h3;rfl
   rw[Z7];rw[h4]at h2;simpa using h2
 ·exact hk.elim
def d25(str:Bool)(x:AV)(K:AV->Prop):Prop:=
 match str,x with
 |true,.v (.string s)=>K (.v (.int .i64 s.size))
 |false,.nil=>K (.v (.int .i64 0))
 |false,.sl els _=>K (.v (.int .i64 els.length))
 |false,.row _ _ _ len _=>K (.v (.int .i64 len))
 |_,_=>False
def lenOf(P:Program)(t:TypeId):Option Bool:=
 match P.underlying t with
 |some .string=>some true
 |some (.slice _)=>some false
 |_=>none
theorem e3m{t:TypeId}(h:lenOf P t=some true):P.underlying t=some .string:=by
 unfold lenOf at h;split at h<;>simp_all
theorem c0x{t:TypeId}(h:lenOf P t=some false):∃e,P.underlying t=some (.slice e):=by
 unfold lenOf at h;split at h<;>simp_all
theorem f0s{t ty:TypeId}{str:Bool}(ht:lenOf P t=some str){p:AV}{x:Value}(hp:Rel σ p x){K:AV->Prop}(hk:d25 str p K):
  ∃av z,K av/\Rel σ av z/\(Builtin.len_ #[t] ty #[x]).run P σ.w=.ok z σ.w:=by
 unfold d25 at hk;split at hk
 ·cases hp;exact⟨_,_,hk,.v _ rfl,by simp[Builtin.len_,run_underlying (e3m ht),goInt]⟩
 ·cases hp;obtain⟨e,he⟩:=c0x ht;exact⟨_,_,hk,.v _ rfl,by simp[Builtin.len_,run_underlying he,goInt]⟩
 ·rename_i els tok;obtain⟨e,he⟩:=c0x ht;cases hp with
  |sl0 _ _=>exact⟨_,_,hk,.v _ rfl,by simp[Builtin.len_,run_underlying he,goInt]⟩
  |slx _ sa scap _ _=>exact⟨_,_,hk,.v _ rfl,by simp[Builtin.len_,run_underlying he,goInt]⟩
  |sl _ _ b o cap size xs hs' hcap htk hz hcc hr=>exact⟨_,_,hk,.v _ rfl,by simp[Builtin.len_,run_underlying he,goInt]⟩
 ·obtain⟨e,he⟩:=c0x ht;cases hp with
  |row=>exact⟨_,_,hk,.v _ rfl,by simp[Builtin.len_,run_underlying he,goInt]⟩
 ·exact hk.elim
def Z3(t:TypeId)(ok:Bool)(zero x:AV)(K:AV->Prop):Prop:=
 match x with
 |.iface u y=>if u=t then K (if ok then .tuple [y,.v (.bool true)] else y) else ok=true/\K (.tuple [zero,.v (.bool false)])
 |.v .nilIface=>ok=true/\K (.tuple [zero,.v (.bool false)])
 |_=>False
theorem Rel.pair{a b:AV}{x y:Value}(h:Rel σ a x)(k:Rel σ b y):Rel σ (.tuple [a,b]) (.tuple #[x,y]):=by
 refine Rel.tuple_mk rfl fun i av hi=>?_
 match i with
 |0=>simp at hi;subst hi;exact⟨x,rfl,h⟩
 |1=>simp at hi;subst hi;exact⟨y,rfl,k⟩
 |i+2=>simp at hi
theorem d8r{t xt:TypeId}{d:TypeDesc}(ht:P.underlying t=some d)(hd:∀m,d≠.interface m){ok:Bool}{zero:AV}{z:Value}(hzv:(zeroValue t).run P σ.w=.ok z σ.w)(hz:Rel σ zero z){p:AV}{x:Value}(hp:Rel σ p x){K:AV->Prop}(hk:Z3 t ok zero p K):
  ∃av y,K av/\Rel σ av y/\(Instr.typeAssert x xt t ok).run P σ.w=.ok y σ.w:=by
 unfold Z3 at hk;split at hk
 ·rename_i u y;cases hp with
  |iface _ _ x' hx'=>
  split at hk
  ·rename_i hu;subst hu;cases ok with
   |true=>exact⟨_,_,hk,Rel.pair hx' (.v _ rfl),by cases d<;>first|exact absurd rfl (hd _)|simp[Instr.typeAssert,run_underlying ht]⟩
   |false=>exact⟨_,_,hk,hx',by cases d<;>first|exact absurd rfl (hd _)|simp[Instr.typeAssert,run_underlying ht]⟩
  ·rename_i hu;obtain⟨rfl,hk⟩:=hk;exact⟨_,_,hk,Rel.pair hz (.v _ rfl),by cases d<;>first|exact absurd rfl (hd _)|simp[Instr.typeAssert,run_underlying ht,hu,hzv]⟩
 ·cases hp;obtain⟨rfl,hk⟩:=hk;exact⟨_,_,hk,Rel.pair hz (.v _ rfl),by cases d<;>first|exact absurd rfl (hd _)|simp[Instr.typeAssert,run_underlying ht,hzv]⟩
 ·exact hk.elim
def b84(i:Nat)(x:AV)(K:AV->Prop):Prop:=
 match x with
 |.tuple vs=>match vs[i]? with
  |some av=>K av
  |none=>False
 |_=>False
theorem d5s{i:Nat}{p:AV}{x:Value}(hp:Rel σ p x){K:AV->Prop}(hk:b84 i p K):∃av y,K av/\Rel σ av y/\(Instr.extract x i).run P σ.w=.ok y σ.w:=by
 unfold b84 at hk;split at hk
 ·split at hk
  ·rename_i vs _ av hav;obtain⟨xs,rfl,_,hx⟩:=hp.tuple_inv;obtain⟨y,hy,hr⟩:=hx i av hav;exact⟨av,y,hk,hr,by simp[Instr.extract,hy]⟩
  ·exact hk.elim
 ·exact hk.elim
end
section
variable {P:Program}{σ:Sg}{h:A4}
theorem U4{w w':World}{b:Nat}(h:w'.heap[b]? =w.heap[b]?)(o:Nat):w'.cell? ⟨b,o,none⟩=w.cell? ⟨b,o,none⟩:=by simp[World.cell?,h]
theorem b3m{w w':World}{b:Nat}(h:w'.heap[b]? =w.heap[b]?)(o:Nat):w'.frozen? ⟨b,o,none⟩=w.frozen? ⟨b,o,none⟩:=by simp[World.frozen?,h]
structure b89(w w':World):Prop where
 size:w.heap.size<=w'.heap.size
 old:∀b,b<w.heap.size->w'.heap[b]? =w.heap[b]?
 os:w'.os=w.os
 tape:w'.tape=w.tape
 output:w'.output=w.output
theorem b89.of_below{w w':World}(h:Below w.heap.size w w'):b89 w w':=⟨h.size,h.block,h.os,h.tape,h.output⟩
theorem b89.below{w w':World}(h:b89 w w'):Below w.heap.size w w':=⟨h.os,h.tape,h.output,h.size,h.old⟩
theorem b89.refl(w:World):b89 w w:=⟨Nat.le_refl _,fun _ _=>rfl,rfl,rfl,rfl⟩
theorem b89.trans{a b c:World}(h:b89 a b)(k:b89 b c):b89 a c:=
 ⟨Nat.le_trans h.size k.size,fun x hx=>(k.old x (Nat.lt_of_lt_of_le hx h.size)).trans (h.old x hx),k.os.trans h.os,k.tape.trans h.tape,k.output.trans h.output⟩
theorem b89.alloc(w:World)(o:Obj):b89 w (w.alloc o):=b89.of_below ((Below.refl _ _).alloc (Nat.le_refl _) o)
theorem b89.drew(w:World):b89 w w.drew:=b89.of_below (Below.refl _ _).drew
theorem Le.world{w':World}(hw:b89 σ.w w'):Le σ {σ with w:=w'} where
 blk _ _ h:=h
 buf _ e h:=⟨e,h,Nat.le_refl _,rfl,fun _=>rfl⟩
 outer:=rfl
 cell b o hb _:=U4 (hw.old b hb) o
 ext b o hb:=by
  obtain⟨v,hv⟩:=Option.isSome_iff_exists.1 hb;rw[U4 (hw.old b (a29 hv))];exact hb
 whole b hb _:=hw.old b hb
 own _ _ _ h:=h
 size:=hw.size
 os:=hw.os
 tape:=hw.tape
 output:=hw.output
theorem g01{w:World}{b:Nat}{o:Obj}(h:w.heap[b]? =some o):b<w.heap.size:=by
 by_cases hb:b<w.heap.size
 ·exact hb
 ·rw[Array.getElem?_eq_none (by omega)]at h;cases h
theorem Inv.world{w':World}(hi:Inv h σ)(hw:b89 σ.w w'):Inv h {σ with w:=w'} where
 blk n cells hn:=by
  obtain⟨b,h1,h2⟩:=hi.blk n cells hn;exact⟨b,h1,h2.keep (Le.world hw) (hw.old b h2.lt)⟩
 dom:=hi.dom
 inj:=hi.inj
 buf:=hi.buf
 bufdom:=hi.bufdom
 bufle:=hi.bufle
 bufat id e b o he hs:=by
  obtain⟨h1,h2⟩:=hi.bufat id e b o he hs;obtain⟨v,hv⟩:=Option.isSome_iff_exists.1 h1;have hb:=a29 hv;exact⟨by rw[U4 (hw.old b hb)];exact h1,by rw[b3m (hw.old b hb)];exact h2⟩
 bufinj:=hi.bufinj
 bufblk:=hi.bufblk
 outer b o ho:=⟨Nat.lt_of_lt_of_le (hi.outer b o ho).1 hw.size,(hi.outer b o ho).2⟩
 glob g cells hg:=(hi.glob g cells hg).mono (Le.world hw)
theorem c28(hi:Inv h σ){cells:List AV}(obj:Obj)(hnew:∀σ',Le σ σ'->σ'.w.heap[σ.w.heap.size]? =some obj->a99 σ' σ.w.heap.size cells):
  ∃σ',σ'.w=σ.w.alloc obj/\Le σ σ'/\Inv ⟨h.blks++[some cells],h.bufs,h.globs⟩ σ'/\Rel σ' (.ptr h.blks.length 0) (.pointer (some ⟨σ.w.heap.size,0,none⟩)):=by
 let σ':Sg:={σ with w:=σ.w.alloc obj,blk:=fun n=>if n=h.blks.length then some σ.w.heap.size else σ.blk n}
 have hp:=b89.alloc σ.w obj;have hdom:∀n b,σ.blk n=some b->n<h.blks.length:=fun n b hn=>hi.name hn
 have hblt:∀n b,σ.blk n=some b->b<σ.w.heap.size:=fun n b hn=>hi.lt hn
 have hslt:∀id e b o,σ.buf id=some e->e.spare b o->b<σ.w.heap.size:=by
  intro id e b o he hs;obtain⟨v,hv⟩:=Option.isSome_iff_exists.1 (hi.bufat id e b o he hs).1;exact a29 hv
 have hle:Le σ σ':={
  blk:=fun n b hn=>by
   show(if n=h.blks.length then some σ.w.heap.size else σ.blk n)=some b;rw[if_neg (by have:=hdom n b hn;omega)];exact hn
  buf:=fun _ e h=>⟨e,h,Nat.le_refl _,rfl,fun _=>rfl⟩
  outer:=rfl
  cell:=fun b o hb _=>U4 (hp.old b hb) o
  ext:=(Le.world (σ:=σ) hp).ext
  whole:=fun b hb _=>hp.old b hb
  own:=fun b o hb ho=>by
   rcases ho with⟨n,hn⟩|hx
   ·simp only[σ']at hn;split at hn
    ·cases hn;omega
    ·exact .inl ⟨n,hn⟩
   ·exact .inr hx
  size:=hp.size
  os:=hp.os
  tape:=hp.tape
  output:=hp.output}
 refine⟨σ',rfl,hle,?_,?_⟩
 ·exact {
   blk:=fun n cs hn=>by
    by_cases hl:n<h.blks.length
    ·rw[List.getElem?_append_left hl]at hn;obtain⟨b,h1,h2⟩:=hi.blk n cs hn;exact⟨b,hle.blk n b h1,h2.keep hle (hp.old b h2.lt)⟩
    ·rw[List.getElem?_append_right (by omega)]at hn
     have hz:n=h.blks.length:=by
      by_cases hz:n - h.blks.length=0
      ·omega
      ·rw[List.getElem?_eq_none (by simp;omega)]at hn;cases hn
     subst hz;simp at hn;subst hn;exact⟨σ.w.heap.size,if_pos rfl,hnew σ' hle (heap_alloc_new _ _)⟩
   dom:=fun n b hn=>by
    simp only[σ']at hn;split at hn
    ·rename_i hz;subst hz;exact⟨cells,by simp⟩
    ·obtain⟨cs,hcs⟩:=hi.dom n b hn;exact⟨cs,by rw[List.getElem?_append_left (hdom n b hn)];exact hcs⟩
   inj:=fun n m b c c' hc hc' hz hz' hn hm=>by
    simp only[σ']at hn hm;split at hn<;>split at hm
    ·omega
    ·cases hn;have:=hblt m _ hm;omega
    ·cases hm;have:=hblt n _ hn;omega
    ·rw[List.getElem?_append_left (hdom n b hn)]at hc;rw[List.getElem?_append_left (hdom m b hm)]at hc';exact hi.inj n m b c c' hc hc' hz hz' hn hm
   buf:=hi.buf
   bufdom:=hi.bufdom
   bufle:=hi.bufle
   bufat:=(hi.world hp).bufat
   bufinj:=hi.bufinj
   bufblk:=fun id e n b o he hs hn=>by
    simp only[σ']at hn;split at hn
    ·cases hn;have:=hslt id e _ o he hs;omega
    ·exact hi.bufblk id e n b o he hs hn
   outer:=fun b o ho=>by
    obtain⟨h1,h2⟩:=hi.outer b o ho;refine⟨Nat.lt_of_lt_of_le h1 hp.size,fun hx=>?_⟩;exact h2 (hle.own b o h1 hx)
   glob:=fun g cells hg=>(hi.glob g cells hg).mono hle}
 ·exact .ptr _ _ _ (if_pos rfl)
theorem d4j(hi:Inv h σ){cells:List AV}{vs:List Value}(hc:F4 σ cells vs)(T:TypeId):
  ∃σ',σ'.w=σ.w.alloc (.cells vs.toArray T)/\Le σ σ'/\Inv ⟨h.blks++[some cells],h.bufs,h.globs⟩ σ'/\Rel σ' (.ptr h.blks.length 0) (.pointer (some ⟨σ.w.heap.size,0,none⟩)):=
 c28 hi _ fun σ' hle hb=>.cells _ vs [] T (by simpa using hb) (hc.mono hle)
theorem f0z(hi:Inv h σ){n b:Nat}(hb:σ.blk n=some b){cells0:List AV}(hcs:h.blks[n]? =some (some cells0))(hz0:cells0≠[]){cells':List AV}{w':World}(q1:w'.heap.size=σ.w.heap.size)(q2:∀i,i≠b->w'.heap[i]? =σ.w.heap[i]?)(q3:w'.os=σ.w.os)(q4:w'.tape=σ.w.tape)(q5:w'.output=σ.w.output)(q6:∀o,(σ.w.cell? ⟨b,o,none⟩).isSome=true->(w'.cell? ⟨b,o,none⟩).isSome=true)
  (hnew:Le σ {σ with w:=w'}->a99 {σ with w:=w'} b cells') (hz1:a99 σ b []->∃cs e,w'.heap[b]? =some (.cells cs e (0,0))) (hz2:cells'≠[]):Le σ {σ with w:=w'}/\Inv ⟨h.blks.set n (some cells'),h.bufs,h.globs⟩ {σ with w:=w'}:=by
 have hlt:n<h.blks.length:=hi.name hb;have hne:∀c o,¬σ.own c o->c≠b:=by rintro c o ho rfl;exact ho (.inl ⟨n,hb⟩)
 have hle:Le σ {σ with w:=w'}:={
  blk:=fun _ _ h=>h
  buf:=fun _ e h=>⟨e,h,Nat.le_refl _,rfl,fun _=>rfl⟩
  outer:=rfl
  cell:=fun c o _ ho=>U4 (q2 c (hne c o ho)) o
  ext:=fun c o hc=>by
   by_cases hcb:c=b
   ·subst hcb;exact q6 o hc
   ·rw[show({σ with w:=w'}:Sg).w.cell? ⟨c,o,none⟩=σ.w.cell? ⟨c,o,none⟩ from U4 (q2 c hcb) o];exact hc
  whole:=fun c _ ho=>q2 c (hne c 0 (ho 0))
  own:=fun _ _ _ h=>h
  size:=Nat.le_of_eq q1.symm
  os:=q3
  tape:=q4
  output:=q5}
 refine⟨hle,?_⟩
 exact {
  blk:=fun m cells' hm=>by
   by_cases hmn:m=n
   ·subst hmn;rw[List.getElem?_set_self hlt]at hm;cases hm;exact⟨b,hb,hnew hle⟩
   ·rw[List.getElem?_set_ne (Ne.symm hmn)]at hm;obtain⟨b2,k1,k2⟩:=hi.blk m cells' hm
    by_cases hb2:b2=b
    ·subst hb2
     by_cases hc0:cells'=[]
     ·subst hc0;obtain⟨cs,e,he⟩:=hz1 k2;exact⟨b2,k1,.cells [] [] cs.toList e (by simpa using he) ⟨rfl,fun i av hi=>by simp at hi⟩⟩
     ·exact absurd (hi.inj m n b2 _ _ hm hcs hc0 hz0 k1 hb) hmn
    ·exact⟨b2,k1,k2.keep hle (q2 b2 hb2)⟩
  dom:=fun m c hm=>by
   by_cases hmn:m=n
   ·subst hmn;exact⟨_,List.getElem?_set_self hlt⟩
   ·obtain⟨cells',hc'⟩:=hi.dom m c hm;exact⟨cells',by rw[List.getElem?_set_ne (Ne.symm hmn)];exact hc'⟩
  inj:=fun m k c x y hx hy hx0 hy0 hm hk=>by
   have get:∀(m:Nat) (x:List AV),(h.blks.set n (some cells'))[m]? =some (some x)->x≠[]->∃x:List AV,h.blks[m]? =some (some x)/\x≠[]:=by
    intro m x hx hx0
    by_cases hmn:m=n
    ·subst hmn;exact⟨_,hcs,hz0⟩
    ·rw[List.getElem?_set_ne (Ne.symm hmn)]at hx;exact⟨x,hx,hx0⟩
   obtain⟨x',hx',hx0'⟩:=get m x hx hx0;obtain⟨y',hy',hy0'⟩:=get k y hy hy0;exact hi.inj m k c x' y' hx' hy' hx0' hy0' hm hk
  buf:=hi.buf
  bufdom:=hi.bufdom
  bufle:=hi.bufle
  bufat:=fun id e c o he hs=>by
   have hcb:c≠b:=fun e2=>hi.bufblk id e n c o he hs (e2▸hb)
   obtain⟨k1,k2⟩:=hi.bufat id e c o he hs;exact⟨by rw[U4 (q2 c hcb)];exact k1,by rw[b3m (q2 c hcb)];exact k2⟩
  bufinj:=hi.bufinj
  bufblk:=hi.bufblk
  outer:=fun c o ho=>⟨by rw[q1];exact(hi.outer c o ho).1,(hi.outer c o ho).2⟩
  glob:=fun g cells hg=>(hi.glob g cells hg).mono hle}
theorem b02(b:Nat):∀(vs:List Value) (o:Nat) (w:World) (a:Addr),(w.cell? a).isSome=true->((w.setCells b o vs).cell? a).isSome=true
 |[],_,w,a,h=>h
 |v::r,o,w,a,h=>by
  refine b02 b r (o+1) (w.setCell ⟨b,o,none⟩ v) a ?_;obtain⟨x,hx⟩:=Option.isSome_iff_exists.1 h;have hs:a.spot=none:=World.cell?_spot hx;obtain⟨ab,ao,sp⟩:=a;simp only at hs;subst hs
  by_cases hb:ab=b
  ·subst hb;have hlt:=a29 hx;cases hh:w.heap[ab]? with
   |none=>simp[World.cell?,hh]at hx
   |some obj=>
    cases obj<;>simp[World.cell?,hh]at hx
    simp only[World.cell?,World.setCell,Array.getElem?_modify,hh,if_true,Option.map_some];simp only[Option.isSome_none,Bool.false_eq_true,if_false];have:=(Array.getElem?_eq_some_iff.1 hx).1;simpa using this
  ·have:(w.setCell ⟨b,o,none⟩ v).heap[ab]? =w.heap[ab]? :=Below.heap_setCell w ⟨b,o,none⟩ v ab hb;rw[U4 this];exact h
theorem b0y(b:Nat):∀(vs:List Value) (o:Nat) (w:World),(w.setCells b o vs).heap.size=w.heap.size/\(∀i,i≠b->(w.setCells b o vs).heap[i]? =w.heap[i]?)/\(w.setCells b o vs).os=w.os/\(w.setCells b o vs).tape=w.tape/\(w.setCells b o vs).output=w.output
 |[],_,w=>⟨rfl,fun _ _=>rfl,rfl,rfl,rfl⟩
 |v::r,o,w=>by
  obtain⟨h1,h2,h3,h4,h5⟩:=b0y b r (o+1) (w.setCell ⟨b,o,none⟩ v);refine⟨h1.trans (by simp[World.setCell]),fun i hi=>(h2 i hi).trans (Below.heap_setCell w ⟨b,o,none⟩ v i hi),h3,h4,h5⟩
theorem b57(b:Nat)(T:TypeId)(fr:Nat × Nat):∀(vs:List Value) (o:Nat) (w:World) (cs:List Value),w.heap[b]? =some (.cells cs.toArray T fr)->o+vs.length<=cs.length->
  (w.setCells b o vs).heap[b]? =some (.cells (cs.take o++vs++cs.drop (o+vs.length)).toArray T fr)
 |[],o,w,cs,hw,_=>by simpa[World.setCells]using hw
 |v::r,o,w,cs,hw,hl=>by
  simp only[List.length_cons]at hl
  have hset:(w.setCell ⟨b,o,none⟩ v).heap[b]? =some (.cells (cs.take o++v::cs.drop (o+1)).toArray T fr):=by
   have hlt:=g01 hw;simp only[World.setCell,Array.getElem?_modify,hw];simp only[if_true,Option.map_some,Option.isSome_none,Bool.false_eq_true,if_false]
   congr 2
   apply Array.ext';simp only[Array.toList_setIfInBounds];rw[List.set_eq_take_append_cons_drop,if_pos (by omega)]
  have:=b57 b T fr r (o+1) _ _ hset (by simp;omega);simp only[World.setCells,this]
  congr 2
  have e1:(cs.take o++v::cs.drop (o+1)).take (o+1)=cs.take o++[v]:=by
   rw[List.take_append,List.length_take,Nat.min_eq_left (by omega)];simp[List.take_take,show o+1 - o=1 by omega]
  have e2:(cs.take o++v::cs.drop (o+1)).drop (o+1+r.length)=cs.drop (o+(r.length+1)):=by
   rw[List.drop_append,List.length_take,Nat.min_eq_left (by omega),List.drop_of_length_le (by simp;omega)];rw[show o+1+r.length - o=r.length+1 by omega];simp only[List.nil_append,List.drop_succ_cons,List.drop_drop]
   congr 1;omega
  rw[e1,e2];simp
def splice(l:List AV)(off:Nat)(xs:List AV):List AV:=l.take off++xs++l.drop (off+xs.length)
def AV.isTuple:AV->Bool
 |.tuple _=>true
 |_=>false
def d3h(h:A4)(size:Nat)(p x:AV)(K:A4->Prop):Prop:=
 match p with
 |.ptr n off=>match h.blks[n]? with
  |some (some cells)=>(a7v cells=true/\x.cells.length=size/\off+size<=cells.length/\x.isTuple=false)/\K ⟨h.blks.set n (some (splice cells off x.cells)),h.bufs,h.globs⟩
  |_=>False
 |_=>False
theorem F4.splice{c:List AV}{v:List Value}(hc:F4 σ c v){c':List AV}{v':List Value}(hc':F4 σ c' v')(off:Nat):F4 σ (splice c off c') (v.take off++v'++v.drop (off+v'.length)):=by
 unfold Lift.splice;have h1:=hc'.1;rw[h1];exact((hc.take off).append hc').append (hc.drop _)
theorem f1d(hi:Inv h σ){t:TypeId}{size:Nat}(ht:(P.info? t).map (·.size)=some size){p q:AV}{x y:Value}(hp:Rel σ p x)(hq:Rel σ q y){K:A4->Prop}(hk:d3h h size p q K):
  ∃σ' h',(Instr.storeAt t x y).run P σ.w=.ok () σ'.w/\Le σ σ'/\Inv h' σ'/\K h':=by
 unfold d3h at hk;split at hk
 ·rename_i n off;split at hk
  ·rename_i cells hcs;obtain⟨⟨h0,h1,h2,h3⟩,hk⟩:=hk;cases hp with
   |ptr _ _ b hb=>
   obtain⟨b',hb',hbk⟩:=hi.blk n cells hcs;obtain⟨cs,rest,elem,hheap,hc⟩:=hbk.plain h0;rw[hb]at hb';cases hb';have hv:=hq.cells (fun vs h=>by subst h;simp[AV.isTuple]at h3);have hvl:y.cells.toList.length=size:=by rw[hv.1,h1]
   have hcl:=hc.1;obtain⟨q1,q2,q3,q4,q5⟩:=b0y b y.cells.toList off σ.w;have q6:=b57 b elem (0,0) y.cells.toList off σ.w (cs++rest) hheap (by rw[List.length_append];omega)
   have q7:(cs++rest).take off++y.cells.toList++(cs++rest).drop (off+y.cells.toList.length)=(cs.take off++y.cells.toList++cs.drop (off+y.cells.toList.length))++rest:=by
    rw[List.take_append_of_le_length (by omega),List.drop_append_of_le_length (by omega)];simp only[List.append_assoc]
   let σ':Sg:={σ with w:=σ.w.setCells b off y.cells.toList}
   obtain⟨hle,hinv⟩:=f0z hi hb hcs (b3w h0) q1 q2 q3 q4 q5 (fun o ho=>b02 b y.cells.toList off σ.w _ ho) (fun hle=>.cells (splice cells off q.cells) _ rest elem (by rw[<-q7];exact q6) ((hc.splice hv off).mono hle)) (fun _=>⟨_,_,q6⟩) (by
    intro hz;have h5:(splice cells off q.cells).length=0:=by rw[hz];rfl
    have h6:0<cells.length:=List.length_pos_iff.2 (b3w h0);simp only[splice,List.length_append,List.length_take,List.length_drop]at h5;omega)
   refine⟨σ',_,?_,hle,hinv,hk⟩
   have hst:=run_storeCells_cells (P:=P) b off y.cells.toList 0 σ.w (fun j hj=>by
     rw[a16 hheap];have:off+0+j<(cs++rest).length:=by rw[List.length_append];omega
     simp only[Nat.add_zero]at this;simpa using this) (fun j hj=>by simp[World.frozen?,hheap]) hv.oneCell
   cases hinfo:P.info? t with
   |none=>simp[hinfo]at ht
   |some i=>
    have hi':i.size=size:=by simpa[hinfo]using ht
    have hsz:y.cells.size=i.size:=by rw[hi'];simpa using hvl
    simp only[Nat.add_zero]at hst;simp[Instr.storeAt,Instr.sureAddr,storeVar,sizeOf,typeInfo,hinfo,hsz,hst,σ']
  ·exact hk.elim
 ·exact hk.elim
def d1x(zero:List AV):List ((Nat × Nat) × AV)->Option (List AV)
 |[]=>some zero
 |((off,size),av)::r=>if(av.cells.length=size/\off+size<=zero.length)/\av.isTuple=false then d1x (splice zero off av.cells) r else none
theorem e8m(off:Nat):∀(vs:List Value) (cs:Array Value),off+vs.length<=cs.size->
  (vs.toArray.zipIdx.foldl (fun cs (p:Value × Nat)=>cs.setIfInBounds (off+p.2) p.1) cs).toList=cs.toList.take off++vs++cs.toList.drop (off+vs.length):=by
 intro vs cs hl
 have key:∀(vs:List Value) (k:Nat) (cs:Array Value),off+k+vs.length<=cs.size->
   ((vs.zipIdx k).foldl (fun(cs:Array Value) (p:Value × Nat)=>cs.setIfInBounds (off+p.2) p.1) cs).toList=cs.toList.take (off+k)++vs++cs.toList.drop (off+k+vs.length):=by
  intro vs
  induction vs with
  |nil=>intro k cs _;simp
  |cons v r ih=>
   intro k cs hk;simp only[List.length_cons]at hk;simp only[List.zipIdx_cons,List.foldl_cons];rw[ih (k+1) _ (by simp;omega)];simp only[Array.toList_setIfInBounds,List.length_cons];rw[List.set_eq_take_append_cons_drop,if_pos (by simp;omega)];have hlen:(cs.toList.take (off+k)).length=off+k:=by simp;omega
   have e1:(cs.toList.take (off+k)++v::cs.toList.drop (off+k+1)).take (off+(k+1))=cs.toList.take (off+k)++[v]:=by
    rw[List.take_append,hlen,List.take_take];simp[show off+(k+1) - (off+k)=1 by omega,Nat.min_eq_right (show off+k<=off+(k+1) by omega)]
   have e2:(cs.toList.take (off+k)++v::cs.toList.drop (off+k+1)).drop (off+(k+1)+r.length)=cs.toList.drop (off+k+(r.length+1)):=by
    rw[List.drop_append,hlen,List.drop_of_length_le (by rw[hlen];omega),show off+(k+1)+r.length - (off+k)=r.length+1 by omega];simp only[List.nil_append,List.drop_succ_cons,List.drop_drop]
    congr 1;omega
   rw[e1,e2];simp
 have:=key vs 0 cs (by simpa using hl);simp only[Nat.add_zero]at this;rw[<-this,<-Array.foldl_toList];simp
theorem c8b(a3p:Nat->Option (Nat × Nat)):∀(parts:List (Nat × Value)) (aps:List ((Nat × Nat) × AV)) (zero:List AV) (zs:Array Value) (cells:List AV),F4 σ zero zs.toList->parts.length=aps.length->
  (∀(i:Nat) (a:(Nat × Nat) × AV),aps[i]? =some a->∃(k:Nat) (x:Value),parts[i]? =some (k,x)/\a3p k=some a.1/\Rel σ a.2 x)->d1x zero aps=some cells->
  ∃cs,Instr.fill a3p zs parts=some cs/\F4 σ cells cs.toList
 |[],[],zero,zs,cells,hz,_,_,hf=>by simp[d1x]at hf;subst hf;exact⟨zs,rfl,hz⟩
 |[],_::_,_,_,_,_,hl,_,_=>by simp at hl
 |_::_,[],_,_,_,_,hl,_,_=>by simp at hl
 |(k,x)::parts,((off,size),av)::aps,zero,zs,cells,hz,hl,hp,hf=>by
  obtain⟨k',x',h1,h2,h3⟩:=hp 0 _ rfl;simp at h1;obtain⟨rfl,rfl⟩:=h1;simp only[d1x]at hf;split at hf
  ·rename_i hc;obtain⟨⟨c1,c2⟩,c3⟩:=hc;have hv:=h3.cells (fun vs h=>by simp only at h;subst h;simp[AV.isTuple]at c3);have hvl:=hv.1;simp at hvl c1 c2;have hzl:=hz.1;simp at hzl;have hstep:=e8m off x.cells.toList zs (by simp;omega)
   obtain⟨cs,g1,g2⟩:=c8b a3p parts aps (splice zero off av.cells) _ cells (by rw[hstep];exact hz.splice hv off) (by simpa using hl) (fun i a ha=>by
    obtain⟨k2,x2,e1,e2,e3⟩:=hp (i+1) a (by simpa using ha);exact⟨k2,x2,by simpa using e1,e2,e3⟩) hf
   refine⟨cs,?_,g2⟩;simp only[Instr.fill,h2];rw[if_neg (by simp;omega)];simpa using g1
  ·cases hf
end
theorem b3o{α:Type}{size:Nat}:∀(rows:List (List α)),(∀r∈rows,r.length=size)->∀i j,j<size->rows.flatten[i*size+j]? =(rows[i]?).bind (·[j]?)
 |[],_,i,j,_=>by simp
 |r::rows,h,i,j,hj=>by
  have hr:=h r (by simp);cases i with
  |zero=>rw[List.flatten_cons,Nat.zero_mul,Nat.zero_add,List.getElem?_append_left (by omega)];rfl
  |succ i=>
   rw[List.flatten_cons,List.getElem?_append_right (by rw[hr,Nat.add_mul];omega),hr];rw[show(i+1)*size+j - size=i*size+j by rw[Nat.add_mul];omega];rw[b3o rows (fun r hr=>h r (by simp[hr])) i j hj];rfl
theorem a2u{α:Type}{size:Nat}:∀(rows:List (List α)),(∀r∈rows,r.length=size)->rows.flatten.length=rows.length*size
 |[],_=>by simp
 |r::rows,h=>by
  rw[List.flatten_cons,List.length_append,h r (by simp),a2u rows (fun r hr=>h r (by simp[hr])),List.length_cons,Nat.add_mul];omega
section
variable {P:Program}{σ:Sg}{h:A4}
def e8z(σ:Sg)(b o:Nat)(vs:List Value):Prop:=∀(k:Nat) (v:Value),vs[k]? =some v->σ.w.cell? ⟨b,o+k,none⟩=some v/\¬σ.open_ b (o+k)
theorem d5c{els:List (List AV)}{tok:Tok}{b o n cap size:Nat}(hr:Rel σ (.sl els tok) (.slice (some ⟨b,o,none⟩) n cap))(hs:∀el∈els,el.length=size):
  ∃vs,F4 σ els.flatten vs/\e8z σ b o vs:=by
 cases hr with
 |slx _ _ _ _ _=>exact⟨[],F4.nil σ,fun k v hv=>by simp at hv⟩
 |sl _ _ _ _ _ sz xs hsz hcap htk hz hc hr=>
 by_cases hn:els=[]
 ·subst hn;exact⟨[],F4.nil σ,fun k v hv=>by simp at hv⟩
 have hsz':sz=size:=by
  obtain⟨e,l,rfl⟩:=List.exists_cons_of_ne_nil hn;rw[<-hsz 0 e rfl];exact hs e (by simp)
 subst hsz';have hfl:=a2u els hs
 by_cases h0:sz=0
 ·have:els.flatten=[]:=List.eq_nil_of_length_eq_zero (by rw[hfl,h0];omega);rw[this];exact⟨[],F4.nil σ,fun k v hv=>by simp at hv⟩
 have key:∀k,k<els.flatten.length->∃el av,els[k / sz]? =some el/\el[k % sz]? =some av/\els.flatten[k]? =some av:=by
  intro k hk;rw[hfl]at hk;have h1:k / sz<els.length:=Nat.div_lt_of_lt_mul (by rw[Nat.mul_comm];exact hk);have h2:k % sz<sz:=Nat.mod_lt _ (by omega);have h3:els[k / sz]? =some els[k / sz]:=List.getElem?_eq_getElem h1;have h4:els[k / sz].length=sz:=hsz _ _ h3;have h5:(els[k / sz])[k % sz]? =some (els[k / sz])[k % sz]:=List.getElem?_eq_getElem (by omega);refine⟨_,_,h3,h5,?_⟩;have:=b3o els hs (k / sz) (k % sz) h2;rw[show k / sz*sz+k % sz=k by rw[Nat.mul_comm];exact Nat.div_add_mod k sz]at this;rw[this,h3];exact h5
 refine⟨(List.range els.flatten.length).map fun k=>xs (k / sz) (k % sz),⟨by simp,fun k av hk=>?_⟩,fun k v hv=>?_⟩
 ·have hlt:k<els.flatten.length:=by
   by_cases hl:k<els.flatten.length
   ·exact hl
   ·rw[List.getElem?_eq_none (by omega)]at hk;cases hk
  obtain⟨el,av',h1,h2,h3⟩:=key k hlt;rw[h3]at hk;cases hk;exact⟨(hc _ _ h1 _ _ h2).2.2,xs (k / sz) (k % sz),by simp only[List.getElem?_map,List.getElem?_range hlt,Option.map_some],hr _ _ h1 _ _ h2⟩
 ·have hlt:k<els.flatten.length:=by
   by_cases hl:k<els.flatten.length
   ·exact hl
   ·rw[List.getElem?_eq_none (by simp only[List.length_map,List.length_range];omega)]at hv;cases hv
  obtain⟨el,av',h1,h2,h3⟩:=key k hlt;simp only[List.getElem?_map,List.getElem?_range hlt,Option.map_some,Option.some.injEq]at hv;subst hv;obtain⟨q1,q2,_⟩:=hc _ _ h1 _ _ h2;rw[show o+k / sz*sz+k % sz=o+k by rw[Nat.add_assoc,Nat.mul_comm,Nat.div_add_mod]]at q1 q2;exact⟨q1,q2⟩
theorem f1z{els:List (List AV)}{tok:Tok}{b o cap size:Nat}{vs:List Value}(hs:∀el∈els,el.length=size)(hc:F4 σ els.flatten vs)(hl:e8z σ b o vs)(hcap:els.length<=cap)
  (ht:c2r σ tok els.length (some ⟨b,o,none⟩) cap) (hz:∀id e,tok=.own id->σ.buf id=some e->e.size=size):Rel σ (.sl els tok) (.slice (some ⟨b,o,none⟩) els.length cap):=by
 have key:∀(i:Nat) (el:List AV),els[i]? =some el->∀(j:Nat) (av:AV),el[j]? =some av->av.isCell=true/\∃x,vs[i*size+j]? =some x/\Rel σ av x:=by
  intro i el hi j av hj
  have hjs:j<size:=by
   rw[<-hs el (List.mem_of_getElem? hi)];exact(List.getElem?_eq_some_iff.1 hj).1
  exact hc.2 _ _ (by rw[b3o els hs i j hjs,hi];exact hj)
 refine .sl els tok b o cap size (fun i j=>vs.getD (i*size+j) undef) (fun i el hi=>hs el (List.mem_of_getElem? hi)) hcap ht hz ?_ ?_
 ·intro i el hi j av hj;obtain⟨h1,x,h2,h3⟩:=key i el hi j av hj;obtain⟨q1,q2⟩:=hl _ _ h2;rw[<-Nat.add_assoc]at q1 q2;exact⟨by rw[q1];simp[List.getD,h2],q2,h1⟩
 ·intro i el hi j av hj;obtain⟨h1,x,h2,h3⟩:=key i el hi j av hj;simpa[List.getD,h2]using h3
theorem e8z.mono{σ':Sg}(hle:Le σ σ'){b o:Nat}{vs:List Value}(hl:e8z σ b o vs):e8z σ' b o vs:=fun k v hv=>hle.keeps (hl k v hv).1 (hl k v hv).2
def wk1:AV->AV
 |.sl els (.own _)=>.sl els .no
 |x=>x
def wkA:AV->AV
 |.agg cs=>.agg (cs.map wk1)
 |x=>wk1 x
def wk:AV->AV
 |.tuple vs=>.tuple (vs.map wkA)
 |x=>wkA x
theorem e0l(av:AV):(wk1 av).isCell=av.isCell:=by
 unfold wk1;split<;>rfl
theorem Rel.wk1{av:AV}{x:Value}(hr:Rel σ av x):Rel σ (wk1 av) x:=by
 unfold Lift.wk1;split
 ·cases hr with
  |sl0 _ _=>exact .sl0 _ trivial
  |slx _ a cap _ _=>exact .slx _ a cap trivial (.inl rfl)
  |sl _ _ b o cap size xs hs hcap ht hz hc hr=>exact .sl _ _ b o cap size xs hs hcap trivial (fun id e h=>by cases h) hc hr
 ·exact hr
theorem F4.wk{cells:List AV}{vs:List Value}(hc:F4 σ cells vs):F4 σ (cells.map wk1) vs:=by
 refine⟨by simp[hc.1],fun i av hi=>?_⟩;simp only[List.getElem?_map,Option.map_eq_some_iff]at hi;obtain⟨b,hb,rfl⟩:=hi;obtain⟨h1,x,h2,h3⟩:=hc.2 i b hb;exact⟨by rw[e0l];exact h1,x,h2,h3.wk1⟩
theorem Rel.wkA{av:AV}{x:Value}(hr:Rel σ av x):Rel σ (wkA av) x:=by
 unfold Lift.wkA;split
 ·obtain⟨xs,rfl,hc⟩:=hr.agg_inv;exact Rel.agg_mk' hc.wk
 ·exact hr.wk1
theorem Rel.wk{av:AV}{x:Value}(hr:Rel σ av x):Rel σ (wk av) x:=by
 unfold Lift.wk;split
 ·obtain⟨xs,rfl,hn,hx⟩:=hr.tuple_inv;refine Rel.tuple_mk (by simpa using hn) fun i av hi=>?_
  simp only[List.getElem?_map,Option.map_eq_some_iff]at hi;obtain⟨b,hb,rfl⟩:=hi;obtain⟨y,h1,h2⟩:=hx i b hb;exact⟨y,h1,h2.wkA⟩
 ·exact hr.wkA
theorem a39(l:List UInt8):(Y4 l).length=l.length:=by simp[Y4]
theorem d7n(l:List UInt8):∀el∈Y4 l,el.length=1:=by
 intro el h;obtain⟨b,_,rfl⟩:=List.mem_map.1 h;rfl
theorem c2v(σ:Sg)(l:List UInt8):F4 σ (Y4 l).flatten (l.map fun b=>Value.int .u8 b.toNat):=by
 have e:(Y4 l).flatten=l.map fun b=>AV.v (.int .u8 b.toNat):=by
  unfold Y4
  induction l with
  |nil=>rfl
  |cons b l ih=>simp[ih]
 rw[e];refine⟨by simp,fun i av hi=>?_⟩;simp only[List.getElem?_map,Option.map_eq_some_iff]at hi;obtain⟨b,hb,rfl⟩:=hi;exact⟨rfl,_,by simp[hb],.v _ rfl⟩
def AV.els:AV->Option (List (List AV))
 |.nil=>some []
 |.sl els _=>some els
 |.v (.string s)=>some (Y4 s.data.toList)
 |_=>none
theorem c4a{w:World}{size n:Nat}{b o l c:Nat}{vs:List Value}(hl:vs.length=n*size)(hv:∀k v,vs[k]? =some v->w.cell? ⟨b,o+k,none⟩=some v):
  (Builtin.firstCells size n (.slice (some ⟨b,o,none⟩) l c)).run P w=.ok vs.toArray w:=by
 have:=run_loadCells_list (P:=P) w ⟨b,o,none⟩ vs (fun j v hj=>by rw[Z7];exact hv j v hj);rw[hl]at this;simpa[Builtin.firstCells]using this
theorem f5y{y:AV}{x:Value}(hr:Rel σ y x){ys:List (List AV)}(hy:y.els=some ys){size:Nat}(hs:∀el∈ys,el.length=size):
  ∃vs,F4 σ ys.flatten vs/\(∀w:World,(Builtin.lenOf x).run P w=.ok ys.length w)/\∀w:World,(∀(b o:Nat) (v:Value),σ.w.cell? ⟨b,o,none⟩=some v->w.cell? ⟨b,o,none⟩=some v)->(Builtin.firstCells size ys.length x).run P w=.ok vs.toArray w:=by
 cases hr with
 |nil=>
  simp only[AV.els,Option.some.injEq]at hy;subst hy;exact⟨[],F4.nil σ,fun w=>rfl,fun w _=>rfl⟩
 |sl0 tok ht=>
  simp only[AV.els,Option.some.injEq]at hy;subst hy;exact⟨[],F4.nil σ,fun w=>rfl,fun w _=>rfl⟩
 |slx tok a cap ht hc=>
  simp only[AV.els,Option.some.injEq]at hy;subst hy;exact⟨[],F4.nil σ,fun w=>rfl,fun w _=>by simp[Builtin.firstCells,loadCells,loadCellsFrom]⟩
 |sl els tok b o cap sz xs hsz hcap htk hz hc hr=>
  simp only[AV.els,Option.some.injEq]at hy;subst hy;obtain⟨vs,h1,h2⟩:=d5c (.sl els tok b o cap sz xs hsz hcap htk hz hc hr) hs;refine⟨vs,h1,fun w=>rfl,fun w hw=>c4a (by rw[h1.1,a2u els hs]) fun k v hv=>hw _ _ _ (h2 k v hv).1⟩
 |v x hx=>
  cases x<;>simp only[AV.els]at hy<;>cases hy
  rename_i s;refine⟨_,c2v σ s.data.toList,fun w=>by simp[Builtin.lenOf,a39],fun w _=>?_⟩;rw[a39];simp only[Builtin.firstCells,Sem.run_pure]
  congr 1
  apply Array.ext';simp only[Array.toList_map]
  congr 2
  have:s.extract 0 s.data.toList.length=s:=by
   apply ByteArray.ext;rw[ByteArray.data_extract];simp
  rw[this]
 |_=>simp[AV.els]at hy
theorem c75(hi:Inv h σ)(e:Buf)(he:e.cur=e.cap)(h0:e.at_=none->e.cap=0):
  ∃σ',σ'.w=σ.w/\Le σ σ'/\Inv ⟨h.blks,h.bufs++[(e.cur,e.size)],h.globs⟩ σ'/\σ'.buf h.bufs.length=some e:=by
 let σ':Sg:={σ with buf:=fun i=>if i=h.bufs.length then some e else σ.buf i}
 have hlt:∀i f,σ.buf i=some f->i<h.bufs.length:=by
  intro i f hf;have:=hi.bufdom i f hf
  by_cases hl:i<h.bufs.length
  ·exact hl
  ·rw[List.getElem?_eq_none (by omega)]at this;cases this
 have hne:∀b o,¬e.spare b o:=by
  rintro b o ⟨a,_,_,h1,h2⟩;rw[he]at h1;omega
 have hbuf:∀i f,σ'.buf i=some f->(i=h.bufs.length/\f=e)\/σ.buf i=some f:=by
  intro i f hf;simp only[σ']at hf;split at hf
  ·cases hf;exact .inl ⟨‹_›,rfl⟩
  ·exact .inr hf
 have hown:∀b o,σ'.own b o->σ.own b o:=by
  rintro b o (⟨n,hn⟩|⟨i,f,hf,hsp⟩)
  ·exact .inl ⟨n,hn⟩
  ·rcases hbuf i f hf with⟨_,rfl⟩|hf
   ·exact absurd hsp (hne b o)
   ·exact .inr ⟨i,f,hf,hsp⟩
 have hle:Le σ σ':={
  blk:=fun _ _ h=>h
  buf:=fun i f hf=>⟨f,by show(if i=h.bufs.length then some e else σ.buf i)=some f;rw[if_neg (by have:=hlt i f hf;omega)];exact hf,Nat.le_refl _,rfl,fun _=>rfl⟩
  outer:=rfl
  cell:=fun _ _ _ _=>rfl
  ext:=fun _ _ h=>h
  whole:=fun _ _ _=>rfl
  own:=fun b o _ ho=>hown b o ho
  size:=Nat.le_refl _
  os:=rfl
  tape:=rfl
  output:=rfl}
 refine⟨σ',rfl,hle,?_,if_pos rfl⟩
 exact {
  blk:=fun n cells hn=>by
   obtain⟨b,k1,k2⟩:=hi.blk n cells hn;exact⟨b,k1,k2.keep hle rfl⟩
  dom:=hi.dom
  inj:=hi.inj
  buf:=fun i c hc=>by
   by_cases hl:i<h.bufs.length
   ·rw[List.getElem?_append_left hl]at hc;obtain⟨f,k1,k2⟩:=hi.buf i c hc;exact⟨f,by show(if i=h.bufs.length then some e else σ.buf i)=some f;rw[if_neg (by omega)];exact k1,k2⟩
   ·rw[List.getElem?_append_right (by omega)]at hc
    have hz:i=h.bufs.length:=by
     by_cases hz:i - h.bufs.length=0
     ·omega
     ·rw[List.getElem?_eq_none (by simp;omega)]at hc;cases hc
    subst hz;simp at hc;exact⟨e,if_pos rfl,hc⟩
  bufdom:=fun i f hf=>by
   rcases hbuf i f hf with⟨rfl,rfl⟩|hf
   ·simp
   ·rw[List.getElem?_append_left (hlt i f hf)];exact hi.bufdom i f hf
  bufle:=fun i f hf=>by
   rcases hbuf i f hf with⟨rfl,rfl⟩|hf
   ·exact⟨Nat.le_of_eq he,h0⟩
   ·exact hi.bufle i f hf
  bufat:=fun i f b o hf hsp=>by
   rcases hbuf i f hf with⟨rfl,rfl⟩|hf
   ·exact absurd hsp (hne b o)
   ·exact hi.bufat i f b o hf hsp
  bufinj:=fun i j f g b o hf hg h1 h2=>by
   rcases hbuf i f hf with⟨rfl,rfl⟩|hf
   ·exact absurd h1 (hne b o)
   rcases hbuf j g hg with⟨rfl,rfl⟩|hg
   ·exact absurd h2 (hne b o)
   exact hi.bufinj i j f g b o hf hg h1 h2
  bufblk:=fun i f n b o hf hsp=>by
   rcases hbuf i f hf with⟨rfl,rfl⟩|hf
   ·exact absurd hsp (hne b o)
   ·exact hi.bufblk i f n b o hf hsp
  outer:=fun b o ho=>⟨(hi.outer b o ho).1,fun hx=>(hi.outer b o ho).2 (hown b o hx)⟩
  glob:=fun g cells hg=>(hi.glob g cells hg).mono hle}
end
section
variable {P:Program}{σ:Sg}{h:A4}
theorem d47(b o:Nat)(vs:List Value)(w:World)(hc:∀j,j<vs.length->(w.cell? ⟨b,o+j,none⟩).isSome=true)(k:Nat)(v:Value)(hk:vs[k]? =some v):(w.setCells b o vs).cell? ⟨b,o+k,none⟩=some v:=by
 have hlt:k<vs.length:=(List.getElem?_eq_some_iff.1 hk).1;have:=World.cell?_setCells_in b vs o w hc k hlt;rw[this]
 first|exact congrArg some (List.getElem?_eq_some_iff.1 hk).2|(rw[<-hk];simp[hlt])
theorem d63(b o:Nat)(vs:List Value)(w:World)(c k:Nat)(h:c≠b\/k<o\/o+vs.length<=k):(w.setCells b o vs).cell? ⟨c,k,none⟩=w.cell? ⟨c,k,none⟩:=by
 refine World.cell?_setCells_out b vs o w ⟨c,k,none⟩ fun hb _=>?_
 rcases h with h|h
 ·exact absurd hb h
 ·exact h
theorem e4d{w:World}{b:Nat}{cs:Array Value}{T:TypeId}(h:w.heap[b]? =some (.cells cs T (0,0)))(o:Nat):w.frozen? ⟨b,o,none⟩=false:=by simp[World.frozen?,h]
theorem e7t(hi:Inv h σ){id:Nat}{e:Buf}(he:σ.buf id=some e){a:Addr}(ha:e.at_=some a){n:Nat}(hn:e.cur+n<=e.cap){cs:List AV}{vs:List Value}(hc:F4 σ cs vs)(hl:vs.length=n*e.size):
  ∃σ',σ'.w=σ.w.setCells a.block (a.off+e.cur*e.size) vs/\Le σ σ'/\Inv ⟨h.blks,h.bufs.set id (e.cur+n,e.size),h.globs⟩ σ'/\σ'.buf id=some {e with cur:=e.cur+n}/\
   e8z σ' a.block (a.off+e.cur*e.size) vs/\(storeCells ⟨a.block,a.off+e.cur*e.size,none⟩ vs).run P σ.w=.ok () σ'.w:=by
 let e':Buf:={e with cur:=e.cur+n}
 let σ':Sg:={σ with w:=σ.w.setCells a.block (a.off+e.cur*e.size) vs,buf:=fun i=>if i=id then some e' else σ.buf i}
 have hlt:id<h.bufs.length:=by
  have:=hi.bufdom id e he
  by_cases hl:id<h.bufs.length
  ·exact hl
  ·rw[List.getElem?_eq_none (by omega)]at this;cases this
 have hmul:(e.cur+n)*e.size=e.cur*e.size+n*e.size:=Nat.add_mul _ _ _;have hcapm:e.cur*e.size+n*e.size<=e.cap*e.size:=by rw[<-hmul];exact Nat.mul_le_mul_right _ hn
 have hsp:∀j,j<vs.length->e.spare a.block (a.off+e.cur*e.size+j):=fun j hj=>⟨a,ha,rfl,by omega,by omega⟩
 have hsub:∀b o,e'.spare b o->e.spare b o/\(b=a.block/\a.off+e.cur*e.size+vs.length<=o):=by
  rintro b o ⟨a',h1,h2,h3,h4⟩;have:e.at_=some a':=h1;rw[ha]at this;cases this;have h3':a.off+(e.cur+n)*e.size<=o:=h3;have h4':o<a.off+e.cap*e.size:=h4;rw[hmul]at h3';exact⟨⟨a,ha,h2,by omega,h4'⟩,h2.symm,by omega⟩
 have hbuf:∀i f,σ'.buf i=some f->(i=id/\f=e')\/(i≠id/\σ.buf i=some f):=by
  intro i f hf;simp only[σ']at hf;split at hf
  ·cases hf;exact .inl ⟨‹_›,rfl⟩
  ·exact .inr ⟨‹_›,hf⟩
 have hown:∀b o,σ'.own b o->σ.own b o:=by
  rintro b o (⟨m,hm⟩|⟨i,f,hf,hs⟩)
  ·exact .inl ⟨m,hm⟩
  ·rcases hbuf i f hf with⟨rfl,rfl⟩|⟨_,hf⟩
   ·exact .inr ⟨i,e,he,(hsub b o hs).1⟩
   ·exact .inr ⟨i,f,hf,hs⟩
 obtain⟨q1,q2,q3,q4,q5⟩:=b0y a.block vs (a.off+e.cur*e.size) σ.w;have hsome:∀j,j<vs.length->(σ.w.cell? ⟨a.block,a.off+e.cur*e.size+j,none⟩).isSome=true:=fun j hj=>(hi.bufat id e _ _ he (hsp j hj)).1
 have hout:∀b o,(b≠a.block\/o<a.off+e.cur*e.size\/a.off+e.cur*e.size+vs.length<=o)->σ'.w.cell? ⟨b,o,none⟩=σ.w.cell? ⟨b,o,none⟩:=fun b o ho=>d63 _ _ _ _ _ _ ho
 have hnot:∀b o,¬σ.own b o->(b≠a.block\/o<a.off+e.cur*e.size\/a.off+e.cur*e.size+vs.length<=o):=by
  intro b o ho
  by_cases hb:b=a.block
  ·subst hb;right
   by_cases h1:o<a.off+e.cur*e.size
   ·exact .inl h1
   ·right
    by_cases h2:a.off+e.cur*e.size+vs.length<=o
    ·exact h2
    ·refine absurd (.inr ⟨id,e,he,?_⟩) ho;have:=hsp (o - (a.off+e.cur*e.size)) (by omega)
     rwa [show a.off+e.cur*e.size+(o - (a.off+e.cur*e.size))=o by omega]at this
  ·exact .inl hb
 have hle:Le σ σ':={
  blk:=fun _ _ h=>h
  buf:=fun i f hf=>by
   by_cases hid:i=id
   ·subst hid;rw[he]at hf;cases hf
    exact⟨e',if_pos rfl,Nat.le_add_right _ _,rfl,fun hc=>by
     have:e.cur+n=e.cur:=hc;have:n=0:=by omega
     subst this;rfl⟩
   ·exact⟨f,by show(if i=id then some e' else σ.buf i)=some f;rw[if_neg hid];exact hf,Nat.le_refl _,rfl,fun _=>rfl⟩
  outer:=rfl
  cell:=fun b o _ ho=>hout b o (hnot b o ho)
  ext:=fun b o ho=>b02 _ _ _ _ _ ho
  whole:=fun b hb ho=>by
   by_cases hba:b=a.block
   ·subst hba
    have hz:vs=[]:=by
     cases vs with
     |nil=>rfl
     |cons v r=>exact absurd (.inr ⟨id,e,he,hsp 0 (by simp)⟩) (ho _)
    subst hz;rfl
   ·exact q2 b hba
  own:=fun b o _ ho=>hown b o ho
  size:=Nat.le_of_eq q1.symm
  os:=q3
  tape:=q4
  output:=q5}
 have hblkne:∀m b,σ.blk m=some b->vs≠[]->b≠a.block:=by
  rintro m b hm hv rfl;cases vs with
  |nil=>exact hv rfl
  |cons v r=>exact hi.bufblk id e m _ _ he (hsp 0 (by simp)) hm
 refine⟨σ',rfl,hle,?_,if_pos rfl,?_,?_⟩
 ·exact {
   blk:=fun m cells hm=>by
    obtain⟨b,k1,k2⟩:=hi.blk m cells hm;refine⟨b,k1,k2.keep hle ?_⟩
    by_cases hv:vs=[]
    ·subst hv;rfl
    ·exact q2 b (hblkne m b k1 hv)
   dom:=hi.dom
   inj:=hi.inj
   buf:=fun i c hc=>by
    by_cases hid:i=id
    ·subst hid;rw[List.getElem?_set_self hlt]at hc;cases hc;exact⟨e',if_pos rfl,rfl⟩
    ·rw[List.getElem?_set_ne (Ne.symm hid)]at hc;obtain⟨f,k1,k2⟩:=hi.buf i c hc;exact⟨f,by show(if i=id then some e' else σ.buf i)=some f;rw[if_neg hid];exact k1,k2⟩
   bufdom:=fun i f hf=>by
    rcases hbuf i f hf with⟨rfl,rfl⟩|⟨hid,hf⟩
    ·exact List.getElem?_set_self hlt
    ·rw[List.getElem?_set_ne (Ne.symm hid)];exact hi.bufdom i f hf
   bufle:=fun i f hf=>by
    rcases hbuf i f hf with⟨rfl,rfl⟩|⟨hid,hf⟩
    ·exact⟨hn,(hi.bufle i e he).2⟩
    ·exact hi.bufle i f hf
   bufat:=fun i f b o hf hs=>by
    rcases hbuf i f hf with⟨rfl,rfl⟩|⟨hid,hf⟩
    ·obtain⟨s1,s2,s3⟩:=hsub b o hs;obtain⟨k1,k2⟩:=hi.bufat i e b o he s1;refine⟨by rw[hout b o (.inr (.inr s3))];exact k1,?_⟩;show(σ.w.setCells _ _ _).frozen? _=false;rw[World.frozen?_setCells];exact k2
    ·obtain⟨k1,k2⟩:=hi.bufat i f b o hf hs;refine⟨?_,?_⟩
     ·rw[hout b o ?_];exact k1
      by_cases hb:b=a.block
      ·subst hb;right
       by_cases h1:o<a.off+e.cur*e.size
       ·exact .inl h1
       ·right
        by_cases h2:a.off+e.cur*e.size+vs.length<=o
        ·exact h2
        ·refine absurd (hi.bufinj i id f e _ o hf he hs ?_) hid;have:=hsp (o - (a.off+e.cur*e.size)) (by omega)
         rwa [show a.off+e.cur*e.size+(o - (a.off+e.cur*e.size))=o by omega]at this
      ·exact .inl hb
     ·show(σ.w.setCells _ _ _).frozen? _=false;rw[World.frozen?_setCells];exact k2
   bufinj:=fun i j f g b o hf hg h1 h2=>by
    rcases hbuf i f hf with⟨rfl,rfl⟩|⟨hid,hf2⟩<;>rcases hbuf j g hg with⟨rfl,rfl⟩|⟨hjd,hg2⟩
    ·rfl
    ·exact hi.bufinj _ _ _ _ b o he hg2 (hsub b o h1).1 h2
    ·exact hi.bufinj _ _ _ _ b o hf2 he h1 (hsub b o h2).1
    ·exact hi.bufinj i j f g b o hf2 hg2 h1 h2
   bufblk:=fun i f m b o hf hs=>by
    rcases hbuf i f hf with⟨rfl,rfl⟩|⟨hid,hf⟩
    ·exact hi.bufblk _ _ m b o he (hsub b o hs).1
    ·exact hi.bufblk i f m b o hf hs
   outer:=fun b o ho=>⟨by show b<(σ.w.setCells _ _ _).heap.size;rw[q1];exact(hi.outer b o ho).1,fun hx=>(hi.outer b o ho).2 (hown b o hx)⟩
   glob:=fun g cells hg=>(hi.glob g cells hg).mono hle}
 ·intro k v hk;have hlt':k<vs.length:=(List.getElem?_eq_some_iff.1 hk).1;refine⟨d47 _ _ _ _ hsome k v hk,?_⟩;rintro (hx|hx)
  ·exact(hi.outer _ _ hx).2 (.inr ⟨id,e,he,hsp k hlt'⟩)
  ·rcases hx with⟨m,hm⟩|⟨i,f,hf,hs⟩
   ·exact hi.bufblk id e m _ _ he (hsp k hlt') hm
   ·rcases hbuf i f hf with⟨rfl,rfl⟩|⟨hid,hf⟩
    ·have:=(hsub _ _ hs).2.2;omega
    ·exact hid (hi.bufinj i id f e _ _ hf he hs (hsp k hlt'))
 ·have:=run_storeCells_cells (P:=P) a.block (a.off+e.cur*e.size) vs 0 σ.w (by simpa using hsome) (fun j hj=>by simpa using (hi.bufat id e _ _ he (hsp j hj)).2) hc.oneCell;simpa using this
theorem f4k(hi:Inv h σ){id:Nat}{e:Buf}(he:σ.buf id=some e){n c:Nat}(hn:e.cap<e.cur+n)(hc:e.cur+n<=c){cs:List AV}{vs:List Value}(hv:F4 σ cs vs)(hl:vs.length=(e.cur+n)*e.size)(rest:List Value)(hr:rest.length=(c - (e.cur+n))*e.size)(T:TypeId):
  ∃σ',σ'.w=σ.w.drew.alloc (.cells (vs++rest).toArray T)/\Le σ σ'/\Inv ⟨h.blks,h.bufs.set id (e.cur+n,e.size),h.globs⟩ σ'/\σ'.buf id=some ⟨e.cur+n,e.size,some ⟨σ.w.heap.size,0,none⟩,c⟩/\
   e8z σ' σ.w.heap.size 0 vs:=by
 let e':Buf:=⟨e.cur+n,e.size,some ⟨σ.w.heap.size,0,none⟩,c⟩
 let σ':Sg:={σ with w:=σ.w.drew.alloc (.cells (vs++rest).toArray T),buf:=fun i=>if i=id then some e' else σ.buf i}
 have hlt:id<h.bufs.length:=by
  have:=hi.bufdom id e he
  by_cases hl:id<h.bufs.length
  ·exact hl
  ·rw[List.getElem?_eq_none (by omega)]at this;cases this
 have hp:b89 σ.w (σ.w.drew.alloc (.cells (vs++rest).toArray T)):=(b89.drew _).trans (b89.alloc _ _);have hnew:(σ.w.drew.alloc (.cells (vs++rest).toArray T)).heap[σ.w.heap.size]? =some (.cells (vs++rest).toArray T (0,0)):=heap_alloc_new σ.w.drew _
 have hspn:∀b o,e'.spare b o->b=σ.w.heap.size/\vs.length<=o/\o<vs.length+rest.length:=by
  rintro b o ⟨a,h1,h2,h3,h4⟩;cases h1;have h3':0+(e.cur+n)*e.size<=o:=h3;have h4':o<0+c*e.size:=h4;have:c*e.size=(e.cur+n)*e.size+(c - (e.cur+n))*e.size:=by rw[<-Nat.add_mul];congr 1;omega
  exact⟨h2.symm,by omega,by omega⟩
 have hslt:∀i f b o,σ.buf i=some f->f.spare b o->b<σ.w.heap.size:=by
  intro i f b o hf hs;obtain⟨v,hv⟩:=Option.isSome_iff_exists.1 (hi.bufat i f b o hf hs).1;exact a29 hv
 have hbuf:∀i f,σ'.buf i=some f->(i=id/\f=e')\/(i≠id/\σ.buf i=some f):=by
  intro i f hf;simp only[σ']at hf;split at hf
  ·cases hf;exact .inl ⟨‹_›,rfl⟩
  ·exact .inr ⟨‹_›,hf⟩
 have hown:∀b o,b<σ.w.heap.size->σ'.own b o->σ.own b o:=by
  rintro b o hb (⟨m,hm⟩|⟨i,f,hf,hs⟩)
  ·exact .inl ⟨m,hm⟩
  ·rcases hbuf i f hf with⟨rfl,rfl⟩|⟨_,hf⟩
   ·have:=(hspn b o hs).1;omega
   ·exact .inr ⟨i,f,hf,hs⟩
 have hn0:n≠0:=by have:=(hi.bufle id e he).1;omega
 have hle:Le σ σ':={
  blk:=fun _ _ h=>h
  buf:=fun i f hf=>by
   by_cases hid:i=id
   ·subst hid;rw[he]at hf;cases hf
    exact⟨e',if_pos rfl,Nat.le_add_right _ _,rfl,fun hc=>by
     have:e.cur+n=e.cur:=hc;omega⟩
   ·exact⟨f,by show(if i=id then some e' else σ.buf i)=some f;rw[if_neg hid];exact hf,Nat.le_refl _,rfl,fun _=>rfl⟩
  outer:=rfl
  cell:=fun b o hb _=>U4 (hp.old b hb) o
  ext:=(Le.world (σ:=σ) hp).ext
  whole:=fun b hb _=>hp.old b hb
  own:=hown
  size:=hp.size
  os:=hp.os
  tape:=hp.tape
  output:=hp.output}
 have hblt:∀m b,σ.blk m=some b->b<σ.w.heap.size:=by
  intro m b hm;exact hi.lt hm
 refine⟨σ',rfl,hle,?_,if_pos rfl,?_⟩
 ·exact {
   blk:=fun m cells hm=>by
    obtain⟨b,k1,k2⟩:=hi.blk m cells hm;exact⟨b,k1,k2.keep hle (hp.old b k2.lt)⟩
   dom:=hi.dom
   inj:=hi.inj
   buf:=fun i c hc=>by
    by_cases hid:i=id
    ·subst hid;rw[List.getElem?_set_self hlt]at hc;cases hc;exact⟨e',if_pos rfl,rfl⟩
    ·rw[List.getElem?_set_ne (Ne.symm hid)]at hc;obtain⟨f,k1,k2⟩:=hi.buf i c hc;exact⟨f,by show(if i=id then some e' else σ.buf i)=some f;rw[if_neg hid];exact k1,k2⟩
   bufdom:=fun i f hf=>by
    rcases hbuf i f hf with⟨rfl,rfl⟩|⟨hid,hf⟩
    ·exact List.getElem?_set_self hlt
    ·rw[List.getElem?_set_ne (Ne.symm hid)];exact hi.bufdom i f hf
   bufle:=fun i f hf=>by
    rcases hbuf i f hf with⟨rfl,rfl⟩|⟨hid,hf⟩
    ·exact⟨hc,fun h=>by cases h⟩
    ·exact hi.bufle i f hf
   bufat:=fun i f b o hf hs=>by
    rcases hbuf i f hf with⟨rfl,rfl⟩|⟨hid,hf⟩
    ·obtain⟨rfl,s2,s3⟩:=hspn b o hs;refine⟨?_,?_⟩
     ·show((σ.w.drew.alloc _).cell? _).isSome=true;rw[a16 hnew];simp;omega
     ·show(σ.w.drew.alloc _).frozen? _=false;exact e4d hnew o
    ·have hb:=hslt i f b o hf hs;obtain⟨k1,k2⟩:=hi.bufat i f b o hf hs;exact⟨by rw[U4 (hp.old b hb)];exact k1,by rw[b3m (hp.old b hb)];exact k2⟩
   bufinj:=fun i j f g b o hf hg h1 h2=>by
    rcases hbuf i f hf with⟨rfl,rfl⟩|⟨hid,hf2⟩<;>rcases hbuf j g hg with⟨rfl,rfl⟩|⟨hjd,hg2⟩
    ·rfl
    ·have:=(hspn b o h1).1;have:=hslt j g b o hg2 h2;omega
    ·have:=(hspn b o h2).1;have:=hslt i f b o hf2 h1;omega
    ·exact hi.bufinj i j f g b o hf2 hg2 h1 h2
   bufblk:=fun i f m b o hf hs hm=>by
    rcases hbuf i f hf with⟨rfl,rfl⟩|⟨hid,hf⟩
    ·have:=(hspn b o hs).1;have:=hblt m b hm;omega
    ·exact hi.bufblk i f m b o hf hs hm
   outer:=fun b o ho=>⟨Nat.lt_of_lt_of_le (hi.outer b o ho).1 hp.size,fun hx=>(hi.outer b o ho).2 (hown b o (hi.outer b o ho).1 hx)⟩
   glob:=fun g cells hg=>(hi.glob g cells hg).mono hle}
 ·intro k v hk;have hlt':k<vs.length:=(List.getElem?_eq_some_iff.1 hk).1;refine⟨?_,?_⟩
  ·show(σ.w.drew.alloc _).cell? _=some v;rw[a16 hnew];simp[List.getElem?_append_left hlt',hk]
  ·rintro (hx|hx)
   ·have:=(hi.outer _ _ hx).1;omega
   ·rcases hx with⟨m,hm⟩|⟨i,f,hf,hs⟩
    ·have:=hblt m _ hm;omega
    ·rcases hbuf i f hf with⟨rfl,rfl⟩|⟨hid,hf⟩
     ·have:=(hspn _ _ hs).2.1;omega
     ·have:=hslt i f _ _ hf hs;omega
end
def c7i(size len:Nat)(cells:List AV):List (List AV):=(List.range len).map fun i=>(cells.drop (i*size)).take size
theorem c6j(size:Nat):∀(len:Nat) (cells:List AV),cells.length=len*size->(c7i size len cells).flatten=cells/\(∀el∈c7i size len cells,el.length=size)/\(c7i size len cells).length=len:=by
 intro len
 induction len with
 |zero=>intro cells h;simp at h;subst h;simp[c7i]
 |succ n ih=>
  intro cells h;rw[Nat.add_mul]at h;obtain⟨h1,h2,h3⟩:=ih (cells.drop size) (by simp;omega)
  have e:c7i size (n+1) cells=cells.take size::c7i size n (cells.drop size):=by
   simp only[c7i,List.range_succ_eq_map,List.map_cons,List.map_map,Nat.zero_mul,List.drop_zero]
   congr 1
   apply List.map_congr_left;intro i _;simp only[Function.comp_apply,List.drop_drop,Nat.succ_eq_add_one,Nat.add_mul]
   congr 2;omega
  rw[e];refine⟨by rw[List.flatten_cons,h1,List.take_append_drop],?_,by simp[h3]⟩;intro el hel;rcases List.mem_cons.1 hel with rfl|hel
  ·simp;omega
  ·exact h2 el hel
def d90(h:A4)(n off size len:Nat):Option (List (List AV)):=
 if len=0 then some [] else
 match h.blks[n]? with
 |some (some cells)=>if a7v cells=true/\off+len*size<=cells.length then some (c7i size len ((cells.drop off).take (len*size))) else none
 |_=>none
def c6t(h:A4)(size:Nat):AV->Option (List (List AV))
 |.nil=>some []
 |.sl els _=>some els
 |.v (.string s)=>some (Y4 s.data.toList)
 |.row n off sz len _=>if sz=size then d90 h n off size len else none
 |_=>none
theorem d7k(blks:List (Option (List AV)))(b c:List (Nat × Nat))(g:List (Nat × List AV))(size:Nat){y:AV}:c6t ⟨blks,b,g⟩ size y=c6t ⟨blks,c,g⟩ size y:=by
 cases y<;>rfl
section
variable {P:Program}{σ:Sg}{h:A4}
theorem b0a(zero:Array Value)(n:Nat):(Builtin.zeroCells zero n).toList.length=n*zero.size:=by simp[Builtin.zeroCells]
theorem d8z(hi:Inv h σ){y:AV}{x:Value}(hr:Rel σ y x){size:Nat}{ys:List (List AV)}(hy:c6t h size y=some ys)(hs:∀el∈ys,el.length=size):
  ∃vs,F4 σ ys.flatten vs/\(∀w:World,(Builtin.lenOf x).run P w=.ok ys.length w)/\∀w:World,(∀(b o:Nat) (v:Value),σ.w.cell? ⟨b,o,none⟩=some v->w.cell? ⟨b,o,none⟩=some v)->(Builtin.firstCells size ys.length x).run P w=.ok vs.toArray w:=by
 by_cases hrow:∃n off sz len capm,y=.row n off sz len capm
 ·obtain⟨n,off,sz,len,capm,rfl⟩:=hrow;cases hr with
  |row _ _ _ _ _ b cap hb hc hm hx=>
  simp only[c6t]at hy;split at hy
  ·rename_i hsz;subst hsz;unfold d90 at hy;split at hy
   ·rename_i hl0;subst hl0;cases hy;exact⟨[],F4.nil σ,fun w=>rfl,fun w _=>by simp[Builtin.firstCells,loadCells,loadCellsFrom]⟩
   split at hy
   ·rename_i cells hcs;split at hy
    ·rename_i hcond;obtain⟨hno,hle⟩:=hcond;cases hy;obtain⟨b',hb',hbk⟩:=hi.blk n cells hcs;rw[hb]at hb';cases hb';obtain⟨cs,rest,elem,hheap,hcc⟩:=hbk.plain hno;have hsub:=hcc.sub off (len*sz) hle;have hl:((cells.drop off).take (len*sz)).length=len*sz:=by simp;omega
     obtain⟨c1,c2,c3⟩:=c6j sz len _ hl;rw[c1,c3];refine⟨_,hsub,fun w=>rfl,fun w hw=>c4a (by rw[hsub.1,hl]) fun k v hv=>hw _ _ _ ?_⟩;rw[a16 hheap,<-Array.getElem?_toList,List.toList_toArray];rw[List.getElem?_take]at hv;split at hv
     ·rw[List.getElem?_drop]at hv;have hlt:=(List.getElem?_eq_some_iff.1 hv).1;rw[List.getElem?_append_left hlt];exact hv
     ·cases hv
    ·cases hy
   ·cases hy
  ·cases hy
 ·refine f5y hr ?_ hs;cases y with
  |row n off sz len capm=>exact absurd ⟨_,_,_,_,_,rfl⟩ hrow
  |v x=>cases x<;>simp_all [c6t,AV.els]
  |_=>simp_all [c6t,AV.els]
theorem c0k{t u ty elem:TypeId}{ie:TypeInfo}{z:Value}(ht:P.underlying t=some (.slice elem))(hie:P.info? elem=some ie)(hz:ie.zero=some z)(hb:ie.bytes≠0)
  {du:TypeDesc}(hu:P.underlying u=some du) (hdu:(∃e,du=.slice e)\/du=.string) {w:World}{a:Option Addr}{len cap m:Nat}{y:Value}{vo vs:List Value}
  (hl0:(Builtin.lenOf y).run P w=.ok m w) (hf0:(Builtin.firstCells ie.size m y).run P w.drew=.ok vs.toArray w.drew) (ho0:(Builtin.firstCells ie.size len (.slice a len cap)).run P w.drew=.ok vo.toArray w.drew)
  (hgt:cap<len+m) (hroom:(len+m)*ie.bytes<=140737488355328):
  ∃c,len+m<=c/\(Builtin.append_ #[t,u] ty #[.slice a len cap,y]).run P w=.ok (.slice (some ⟨w.heap.size,0,none⟩) (len+m) c) (w.drew.alloc (.cells ((vo++vs)++(Builtin.zeroCells z.cells (c - (len+m))).toList).toArray elem)):=by
 have hcut:∀t',((Question.appendCap (len+m) cap elem).cut t') ≥ len+m:=fun t'=>by simp[Question.cut]
 obtain⟨c,hcdef⟩:∃c,c=(Question.appendCap (len+m) cap elem).cut (w.tape w.drawn (.appendCap (len+m) cap elem)):=⟨_,rfl⟩
 refine⟨c,by rw[hcdef];exact hcut _,?_⟩;have h48:=growslice_fits (old:=cap) (bytes:=ie.bytes) hgt hroom;have h48':¬(281474976710656<Builtin.nextslicecap (len+m) cap*ie.bytes):=by omega
 have hnf:¬(len+m<=cap):=by omega
 rcases hdu with⟨_,rfl⟩|rfl<;>simp[Builtin.append_,run_underlying ht,run_underlying hu,sizeOf,zeroValue,typeInfo,hie,hz,hl0,hf0,ho0,hnf,h48',hb,Question.forced,newRow,<-hcdef]<;>(congr 2;apply Array.ext';simp)
theorem c2o{w:World}{b o:Nat}{v:Value}(h:w.cell? ⟨b,o,none⟩=some v):w.drew.cell? ⟨b,o,none⟩=some v:=by simpa using h
theorem d21(hi:Inv h σ){t u ty elem:TypeId}{ie:TypeInfo}{z:Value}(ht:P.underlying t=some (.slice elem))(hie:P.info? elem=some ie)(hz:ie.zero=some z)(hzs:z.cells.size=ie.size)(hb:ie.bytes≠0)
  {du:TypeDesc}(hu:P.underlying u=some du) (hdu:(∃e,du=.slice e)\/du=.string) {els ys:List (List AV)}{a:Option Addr}{cap:Nat}{y:Value}{q:AV}(hq:Rel σ q y) (hqe:c6t h ie.size q=some ys) (hys:∀el∈ys,el.length=ie.size)
  (hes:∀el∈els,el.length=ie.size) {vo:List Value}(hvo:F4 σ els.flatten vo) (hfo:∀w:World,(∀(b o:Nat) (v:Value),σ.w.cell? ⟨b,o,none⟩=some v->w.cell? ⟨b,o,none⟩=some v)->(Builtin.firstCells ie.size els.length (.slice a els.length cap)).run P w=.ok vo.toArray w)
  (hpos:cap<els.length+ys.length) (hroom:(els.length+ys.length)*ie.bytes<=140737488355328):
  ∃σ' z,(Builtin.append_ #[t,u] ty #[.slice a els.length cap,y]).run P σ.w=.ok z σ'.w/\Le σ σ'/\Inv ⟨h.blks++[some (els.flatten++ys.flatten)],h.bufs,h.globs⟩ σ'/\Rel σ' (.row h.blks.length 0 ie.size (els.length+ys.length) (els.length+ys.length)) z:=by
 obtain⟨vs,hv,hlen,hfirst⟩:=d8z (P:=P) hi hq hqe hys;obtain⟨c,hc,hrun⟩:=c0k (P:=P) (ty:=ty) ht hie hz hb hu hdu (hlen σ.w) (hfirst σ.w.drew fun b o v h=>c2o h) (hfo σ.w.drew fun b o v h=>c2o h) hpos hroom;have hpd:b89 σ.w σ.w.drew:=b89.drew _
 obtain⟨σ',g1,g2,g3,g4⟩:=c28 (σ:={σ with w:=σ.w.drew}) (hi.world hpd) (cells:=els.flatten++ys.flatten) (.cells ((vo++vs)++(Builtin.zeroCells z.cells (c - (els.length+ys.length))).toList).toArray elem)
  fun σ' hle hnew=>.cells _ (vo++vs) _ elem hnew ((hvo.append hv).mono ((Le.world hpd).trans hle))
 refine⟨σ',_,by rw[g1];exact hrun,(Le.world hpd).trans g2,g3,?_⟩;cases g4 with
 |ptr _ _ _ hb'=>
 refine .row _ _ _ _ _ _ _ hb' hc hc fun o ho=>?_
 rw[g1];have hnew:(σ.w.drew.alloc (.cells ((vo++vs)++(Builtin.zeroCells z.cells (c - (els.length+ys.length))).toList).toArray elem)).heap[σ.w.heap.size]? =some _:=heap_alloc_new σ.w.drew _;show((σ.w.drew.alloc _).cell? _).isSome=true;rw[a16 hnew];have hl1:vo.length=els.length*ie.size:=by rw[hvo.1,a2u els hes]
 have hl2:vs.length=ys.length*ie.size:=by rw[hv.1,a2u ys hys]
 have hl3:=b0a z.cells (c - (els.length+ys.length));rw[hzs]at hl3;have hsum:els.length*ie.size+ys.length*ie.size+(c - (els.length+ys.length))*ie.size=c*ie.size:=by rw[<-Nat.add_mul,<-Nat.add_mul];congr 1;omega
 have:o<(vo++vs++(Builtin.zeroCells z.cells (c - (els.length+ys.length))).toList).length:=by
  rw[List.length_append,List.length_append];omega
 rw[<-Array.getElem?_toList,List.toList_toArray,List.getElem?_eq_getElem this];rfl
theorem d74(hi:Inv h σ){n b:Nat}{cells:List AV}(hb:σ.blk n=some b)(hcs:h.blks[n]? =some (some cells))(hno:a7v cells=true):
  ∃σ',σ'.w=σ.w/\Le σ σ'/\Inv ⟨h.blks.set n (some [])++[some cells],h.bufs,h.globs⟩ σ'/\σ'.blk h.blks.length=some b:=by
 let σ':Sg:={σ with blk:=fun k=>if k=h.blks.length then some b else σ.blk k}
 have hdom:∀k c,σ.blk k=some c->k<h.blks.length:=fun k c hk=>hi.name hk
 have hold:∀k c,σ.blk k=some c->σ'.blk k=some c:=by
  intro k c hk;show(if k=h.blks.length then some b else σ.blk k)=some c;rw[if_neg (by have:=hdom k c hk;omega)];exact hk
 have hnew:∀k c,σ'.blk k=some c->(k=h.blks.length/\c=b)\/(k≠h.blks.length/\σ.blk k=some c):=by
  intro k c hk;simp only[σ']at hk;split at hk
  ·cases hk;exact .inl ⟨‹_›,rfl⟩
  ·exact .inr ⟨‹_›,hk⟩
 have hown:∀c o,σ'.own c o->σ.own c o:=by
  rintro c o (⟨k,hk⟩|hx)
  ·rcases hnew k c hk with⟨_,rfl⟩|⟨_,hk⟩
   ·exact .inl ⟨n,hb⟩
   ·exact .inl ⟨k,hk⟩
  ·exact .inr hx
 have hle:Le σ σ':={
  blk:=hold
  buf:=fun _ e h=>⟨e,h,Nat.le_refl _,rfl,fun _=>rfl⟩
  outer:=rfl
  cell:=fun _ _ _ _=>rfl
  ext:=fun _ _ h=>h
  whole:=fun _ _ _=>rfl
  own:=fun c o _ ho=>hown c o ho
  size:=Nat.le_refl _
  os:=rfl
  tape:=rfl
  output:=rfl}
 have hget:∀(k:Nat) (c:List AV),(h.blks.set n (some [])++[some cells])[k]? =some (some c)->(k=h.blks.length/\c=cells)\/(k=n/\c=[])\/(k≠h.blks.length/\k≠n/\h.blks[k]? =some (some c)):=by
  intro k c hk
  by_cases hl:k<h.blks.length
  ·rw[List.getElem?_append_left (by simpa using hl)]at hk
   by_cases hkn:k=n
   ·subst hkn;rw[List.getElem?_set_self hl]at hk;cases hk;exact .inr (.inl ⟨rfl,rfl⟩)
   ·rw[List.getElem?_set_ne (Ne.symm hkn)]at hk;exact .inr (.inr ⟨by omega,hkn,hk⟩)
  ·rw[List.getElem?_append_right (by simp;omega)]at hk
   have hz:k=h.blks.length:=by
    by_cases hz:k - (h.blks.set n (some [])).length=0
    ·simp at hz;omega
    ·rw[List.getElem?_eq_none (by simp at hz ⊢;omega)]at hk;cases hk
   subst hz;simp at hk;exact .inl ⟨rfl,hk.symm⟩
 refine⟨σ',rfl,hle,?_,if_pos rfl⟩
 exact {
  blk:=fun k c hk=>by
   obtain⟨b',h1,h2⟩:=hi.blk n _ hcs;rw[hb]at h1;cases h1;rcases hget k c hk with⟨rfl,rfl⟩|⟨rfl,rfl⟩|⟨_,_,hk⟩
   ·exact⟨b,if_pos rfl,h2.keep hle rfl⟩
   ·exact⟨b,hold _ b hb,(h2.nil hno).keep hle rfl⟩
   ·obtain⟨b',h1,h2⟩:=hi.blk k c hk;exact⟨b',hold k b' h1,h2.keep hle rfl⟩
  dom:=fun k c hk=>by
   rcases hnew k c hk with⟨rfl,rfl⟩|⟨hkl,hk⟩
   ·exact⟨cells,by rw[List.getElem?_append_right (by simp)];simp⟩
   ·obtain⟨x,hx⟩:=hi.dom k c hk;have hl:=hdom k c hk
    by_cases hkn:k=n
    ·subst hkn;exact⟨[],by rw[List.getElem?_append_left (by simpa using hl),List.getElem?_set_self hl]⟩
    ·exact⟨x,by rw[List.getElem?_append_left (by simpa using hl),List.getElem?_set_ne (Ne.symm hkn)];exact hx⟩
  inj:=fun k m c x y hx hy hx0 hy0 hk hm=>by
   rcases hget k x hx with⟨k1,k2⟩|⟨_,k2⟩|⟨k1,k2,k3⟩
   ·rcases hget m y hy with⟨m1,m2⟩|⟨_,m2⟩|⟨m1,m2,m3⟩
    ·omega
    ·exact absurd m2 hy0
    ·rcases hnew k c hk with⟨_,hc⟩|⟨hx,_⟩
     ·rcases hnew m c hm with⟨hx,_⟩|⟨_,hm'⟩
      ·exact absurd hx m1
      ·subst hc;exact absurd (hi.inj m n c _ _ m3 hcs hy0 (b3w hno) hm' hb) m2
     ·exact absurd k1 hx
   ·exact absurd k2 hx0
   ·rcases hget m y hy with⟨m1,m2⟩|⟨_,m2⟩|⟨m1,m2,m3⟩
    ·rcases hnew m c hm with⟨_,hc⟩|⟨hx,_⟩
     ·rcases hnew k c hk with⟨hx,_⟩|⟨_,hk'⟩
      ·exact absurd hx k1
      ·subst hc;exact absurd (hi.inj k n c _ _ k3 hcs hx0 (b3w hno) hk' hb) k2
     ·exact absurd m1 hx
    ·exact absurd m2 hy0
    ·rcases hnew k c hk with⟨hx,_⟩|⟨_,hk'⟩
     ·exact absurd hx k1
     ·rcases hnew m c hm with⟨hx,_⟩|⟨_,hm'⟩
      ·exact absurd hx m1
      ·exact hi.inj k m c x y k3 m3 hx0 hy0 hk' hm'
  buf:=hi.buf
  bufdom:=hi.bufdom
  bufle:=hi.bufle
  bufat:=hi.bufat
  bufinj:=hi.bufinj
  bufblk:=fun id e k c o he hs hk=>by
   rcases hnew k c hk with⟨_,rfl⟩|⟨_,hk⟩
   ·exact hi.bufblk id e n c o he hs hb
   ·exact hi.bufblk id e k c o he hs hk
  outer:=fun c o ho=>⟨(hi.outer c o ho).1,fun hx=>(hi.outer c o ho).2 (hown c o hx)⟩
  glob:=fun g cells hg=>(hi.glob g cells hg).mono hle}
theorem e7s(hi:Inv h σ){n b o:Nat}{cells cs1:List AV}{vs:List Value}(hb:σ.blk n=some b)(hcs:h.blks[n]? =some (some cells))(hno:a7v cells=true)(hin:o<=cells.length)(hv:F4 σ cs1 vs)(hx:∀k,k<o+vs.length->(σ.w.cell? ⟨b,k,none⟩).isSome=true):
  ∃σ',σ'.w=σ.w.setCells b o vs/\Le σ σ'/\Inv ⟨h.blks.set n (some (cells.take o++cs1++cells.drop (o+cs1.length))),h.bufs,h.globs⟩ σ'/\σ'.blk=σ.blk/\(storeCells ⟨b,o,none⟩ vs).run P σ.w=.ok () σ'.w:=by
 obtain⟨b',hb',hbk⟩:=hi.blk n cells hcs;rw[hb]at hb';cases hb';obtain⟨cs,rest,elem,hheap,hc⟩:=hbk.plain hno
 have hlen:vs=[]\/o+vs.length<=(cs++rest).length:=by
  cases vs with
  |nil=>exact .inl rfl
  |cons v r=>
   right;have:=hx (o+r.length) (by simp);rw[a16 hheap]at this;have:=this
   by_cases hl:o+r.length<(cs++rest).length
   ·simp only[List.length_cons];omega
   ·rw[Array.getElem?_eq_none (by simpa using Nat.le_of_not_lt hl)]at this;cases this
 have hcl:=hc.1;have hvl:=hv.1
 have hfit:o+vs.length<=(cs++rest).length:=by
  rcases hlen with rfl|h
  ·simp at hcl ⊢;omega
  ·exact h
 obtain⟨q1,q2,q3,q4,q5⟩:=b0y b vs o σ.w;have q6:=b57 b elem (0,0) vs o σ.w (cs++rest) hheap hfit
 have q7:(cs++rest).take o++vs++(cs++rest).drop (o+vs.length)=(cs.take o++vs++cs.drop (o+vs.length))++rest.drop (o+vs.length - cs.length):=by
  rw[List.take_append_of_le_length (by omega),List.drop_append];simp only[List.append_assoc]
 obtain⟨hle,hinv⟩:=f0z (w':=σ.w.setCells b o vs) (cells':=cells.take o++cs1++cells.drop (o+cs1.length)) hi hb hcs (b3w hno) q1 q2 q3 q4 q5 (fun k hk=>b02 b vs o σ.w _ hk) (fun hle=>.cells _ _ _ elem (by rw[<-q7];exact q6) (by
  have:=(hc.splice hv o).mono hle;rw[hvl]at this ⊢;exact this)) (fun _=>⟨_,_,q6⟩) (by
  intro hz;have h5:(cells.take o++cs1++cells.drop (o+cs1.length)).length=0:=by rw[hz];rfl
  have h6:0<cells.length:=List.length_pos_iff.2 (b3w hno);simp only[List.length_append,List.length_take,List.length_drop]at h5;omega)
 refine⟨_,rfl,hle,hinv,rfl,?_⟩;have:=run_storeCells_cells (P:=P) b o vs 0 σ.w (fun j hj=>by simpa using hx (o+j) (by omega)) (fun j hj=>by simp[World.frozen?,hheap]) hv.oneCell;simpa using this
theorem e8v{blks:List (Option (List AV))}{bufs:List (Nat × Nat)}{globs:List (Nat × List AV)}{x:Option (List AV)}(hi:Inv ⟨blks++[x],bufs,globs⟩ σ)(n:Nat){c0:List AV}(hn:blks[n]? =some (some c0))(hno:a7v c0=true):Inv ⟨blks.set n (some [])++[x],bufs,globs⟩ σ:=by
 have hlt:n<blks.length:=(List.getElem?_eq_some_iff.1 hn).1;have e:blks.set n (some [])++[x]=(blks++[x]).set n (some []):=by rw[List.set_append_left _ _ hlt]
 have hget:∀(k:Nat) (c:List AV),(blks.set n (some [])++[x])[k]? =some (some c)->(k=n/\c=[])\/(k≠n/\(blks++[x])[k]? =some (some c)):=by
  intro k c hk;rw[e]at hk
  by_cases hkn:n=k
  ·subst hkn;rw[List.getElem?_set_self (by simp;omega)]at hk;cases hk;exact .inl ⟨rfl,rfl⟩
  ·rw[List.getElem?_set_ne hkn]at hk;exact .inr ⟨Ne.symm hkn,hk⟩
 have hn':(blks++[x])[n]? =some (some c0):=by rw[List.getElem?_append_left hlt];exact hn
 exact {
  blk:=fun k c hk=>by
   rcases hget k c hk with⟨rfl,rfl⟩|⟨_,hk⟩
   ·obtain⟨b,h1,h2⟩:=hi.blk k c0 hn';exact⟨b,h1,h2.nil hno⟩
   ·exact hi.blk k c hk
  dom:=fun k c hk=>by
   obtain⟨y,hy⟩:=hi.dom k c hk;rw[e]
   by_cases hkn:n=k
   ·subst hkn;exact⟨[],List.getElem?_set_self (by simp;omega)⟩
   ·exact⟨y,by rw[List.getElem?_set_ne hkn];exact hy⟩
  inj:=fun k m c y z hy hz hy0 hz0=>by
   rcases hget k y hy with⟨_,h⟩|⟨_,hy⟩
   ·exact absurd h hy0
   ·rcases hget m z hz with⟨_,h⟩|⟨_,hz⟩
    ·exact absurd h hz0
    ·exact hi.inj k m c y z hy hz hy0 hz0
  buf:=hi.buf
  bufdom:=hi.bufdom
  bufle:=hi.bufle
  bufat:=hi.bufat
  bufinj:=hi.bufinj
  bufblk:=hi.bufblk
  outer:=hi.outer
  glob:=hi.glob}
def e03(h:A4)(size bytes n off sz len cap:Nat)(ys:List (List AV))(K:AV->A4->Prop):Prop:=
 sz=size/\(len+ys.length)*bytes<=140737488355328/\match h.blks[n]? with
  |some (some cells)=>(a7v cells=true/\off+len*size<=cells.length)/\
   if len+ys.length<=cap then K (.row n off size (len+ys.length) cap) ⟨h.blks.set n (some (cells.take (off+len*size)++ys.flatten++cells.drop (off+len*size+ys.flatten.length))),h.bufs,h.globs⟩
   else(off=0/\cells.length=len*size)/\K (.row h.blks.length 0 size (len+ys.length) (len+ys.length)) ⟨h.blks.set n (some [])++[some (cells++ys.flatten)],h.bufs,h.globs⟩
  |_=>False
theorem d8n(hi:Inv h σ){t u ty elem:TypeId}{ie:TypeInfo}{z:Value}(ht:P.underlying t=some (.slice elem))(hie:P.info? elem=some ie)(hz:ie.zero=some z)(hzs:z.cells.size=ie.size)(hb:ie.bytes≠0)
  {du:TypeDesc}(hu:P.underlying u=some du) (hdu:(∃e,du=.slice e)\/du=.string) {n off sz len capm:Nat}{ys:List (List AV)}{x y:Value}(hx:Rel σ (.row n off sz len capm) x) {q:AV}(hq:Rel σ q y) (hqe:c6t h ie.size q=some ys) (hys:∀el∈ys,el.length=ie.size)
  {K:AV->A4->Prop}(hk:e03 h ie.size ie.bytes n off sz len capm ys K):
  ∃σ' h' av z,(Builtin.append_ #[t,u] ty #[x,y]).run P σ.w=.ok z σ'.w/\Le σ σ'/\Inv h' σ'/\Rel σ' av z/\K av h':=by
 obtain⟨rfl,hroom,hk⟩:=hk;split at hk
 ·rename_i cells hcs;obtain⟨⟨hno,hin⟩,hk⟩:=hk;cases hx with
  |row _ _ _ _ _ b cap hbn hc hm hxx=>
  obtain⟨vs,hv,hlen,hfirst⟩:=d8z (P:=P) hi hq hqe hys;have hvl:vs.length=ys.length*ie.size:=by rw[hv.1,a2u ys hys]
  have hl0:=hlen σ.w;have hf0:=hfirst σ.w (fun _ _ _ h=>h)
  have inplace:∀(h1:A4) (σ1:Sg) (m:Nat),Le σ σ1->Inv h1 σ1->σ1.w=σ.w->σ1.blk m=some b->h1.blks[m]? =some (some cells)->len+ys.length<=cap->
    ∃σ',(Builtin.append_ #[t,u] ty #[.slice (some ⟨b,off,none⟩) len cap,y]).run P σ.w=.ok (.slice (some ⟨b,off,none⟩) (len+ys.length) cap) σ'.w/\Le σ σ'/\Inv ⟨h1.blks.set m (some (cells.take (off+len*ie.size)++ys.flatten++cells.drop (off+len*ie.size+ys.flatten.length))),h1.bufs,h1.globs⟩ σ'/\
     ∀cm,cm<=cap->Rel σ' (.row m off ie.size (len+ys.length) cm) (.slice (some ⟨b,off,none⟩) (len+ys.length) cap):=by
   intro h1 σ1 m hle1 hi1 hw1 hbm hcm hfit;have hmul:(len+ys.length)*ie.size<=cap*ie.size:=Nat.mul_le_mul_right _ hfit;rw[Nat.add_mul]at hmul;obtain⟨σ',g1,g2,g3,g4,g5⟩:=e7s (P:=P) hi1 hbm hcm hno hin (hv.mono hle1) (fun k hk=>by rw[hw1];exact hxx k (by omega));rw[hw1]at g1 g5;refine⟨σ',?_,hle1.trans g2,g3,fun cm hcm=>.row _ _ _ _ _ _ _ (by rw[g4];exact hbm) hfit hcm (fun o ho=>(hle1.trans g2).ext b o (hxx o ho))⟩;rcases hdu with⟨_,rfl⟩|rfl<;>simp[Builtin.append_,run_underlying ht,run_underlying hu,sizeOf,typeInfo,hie,hl0,hf0,hfit,Z7,g5]
  split at hk
  ·rename_i hfit;obtain⟨σ',g1,g2,g3,g4⟩:=inplace h σ n (Le.refl σ) hi rfl hbn hcs (by omega);exact⟨σ',_,_,_,g1,g2,g3,g4 capm hm,hk⟩
  ·rename_i hfit;obtain⟨⟨rfl,hwhole⟩,hk⟩:=hk
   by_cases hfit2:len+ys.length<=cap
   ·obtain⟨σ1,w1,l1,i1,b1⟩:=d74 hi hbn hcs hno;obtain⟨σ',g1,g2,g3,g4⟩:=inplace _ σ1 h.blks.length l1 i1 w1 b1 (by rw[List.getElem?_append_right (by simp)];simp) hfit2;refine⟨σ',_,_,_,g1,g2,?_,g4 (len+ys.length) hfit2,hk⟩
    have e1:cells.take (0+len*ie.size)++ys.flatten++cells.drop (0+len*ie.size+ys.flatten.length)=cells++ys.flatten:=by
     rw[List.take_of_length_le (by omega),List.drop_of_length_le (by omega),List.append_nil]
    rw[e1]at g3
    have e2:(h.blks.set n (some [])++[some cells]).set h.blks.length (some (cells++ys.flatten))=h.blks.set n (some [])++[some (cells++ys.flatten)]:=by
     rw[List.set_append_right _ _ (by simp)];simp
    simp only[e2]at g3;exact g3
   ·obtain⟨b',hb',hbk⟩:=hi.blk n cells hcs;rw[hbn]at hb';cases hb';obtain⟨cs,rest,elem',hheap,hcc⟩:=hbk.plain hno;have hcl:=hcc.1
    have ho0:(Builtin.firstCells ie.size len (.slice (some ⟨b,0,none⟩) len cap)).run P σ.w.drew=.ok cs.toArray σ.w.drew:=c4a (by omega) fun k v hk=>by
     refine c2o ?_;rw[a16 hheap,Nat.zero_add,<-Array.getElem?_toList,List.toList_toArray,List.getElem?_append_left (List.getElem?_eq_some_iff.1 hk).1];exact hk
    obtain⟨c,hc',hrun⟩:=c0k (P:=P) (ty:=ty) ht hie hz hb hu hdu (hlen σ.w) (hfirst σ.w.drew fun b o v h=>c2o h) ho0 (by omega) hroom;have hpd:b89 σ.w σ.w.drew:=b89.drew _;obtain⟨σ1,w1,l1,i1,b1⟩:=d74 hi hbn hcs hno
    -- the old box keeps a name that nothing speaks of
    obtain⟨σ',g1,g2,g3,g4⟩:=c28 (σ:={σ with w:=σ.w.drew}) (hi.world hpd) (cells:=cells++ys.flatten) (.cells ((cs++vs)++(Builtin.zeroCells z.cells (c - (len+ys.length))).toList).toArray elem)
     fun σ' hle hnew=>.cells _ (cs++vs) _ elem hnew ((hcc.append hv).mono ((Le.world hpd).trans hle))
    refine⟨σ',_,_,_,by rw[g1];exact hrun,(Le.world hpd).trans g2,e8v g3 n hcs hno,?_,hk⟩
    ·cases g4 with
     |ptr _ _ _ hb''=>
     refine .row _ _ _ _ _ _ _ hb'' hc' hc' fun o ho=>?_
     rw[g1];have hnew:(σ.w.drew.alloc (.cells ((cs++vs)++(Builtin.zeroCells z.cells (c - (len+ys.length))).toList).toArray elem)).heap[σ.w.heap.size]? =some _:=heap_alloc_new σ.w.drew _;show((σ.w.drew.alloc _).cell? _).isSome=true;rw[a16 hnew];have hl3:=b0a z.cells (c - (len+ys.length));rw[hzs]at hl3;have hsum:len*ie.size+ys.length*ie.size+(c - (len+ys.length))*ie.size=c*ie.size:=by rw[<-Nat.add_mul,<-Nat.add_mul];congr 1;omega
     have:o<(cs++vs++(Builtin.zeroCells z.cells (c - (len+ys.length))).toList).length:=by
      rw[List.length_append,List.length_append];omega
     rw[<-Array.getElem?_toList,List.toList_toArray,List.getElem?_eq_getElem this];rfl
 ·exact hk.elim
end
def b3d(h:A4)(size bytes:Nat)(x y:AV)(K:AV->A4->Prop):Prop:=
 match c6t h size y with
 |none=>False
 |some ys=>(∀el∈ys,el.length=size)/\
  match x with
  |.nil=>ys.length*bytes<=140737488355328/\K (.sl ys (.own h.bufs.length)) ⟨h.blks,h.bufs++[(ys.length,size)],h.globs⟩
  |.sl els .full=>(∀el∈els,el.length=size)/\(els.length+ys.length)*bytes<=140737488355328/\K (.sl (els++ys) (.own h.bufs.length)) ⟨h.blks,h.bufs++[(els.length+ys.length,size)],h.globs⟩
  |.sl els (.own id)=>(∀el∈els,el.length=size)/\h.bufs[id]? =some (els.length,size)/\(els.length+ys.length)*bytes<=140737488355328/\K (.sl (els++ys) (.own id)) ⟨h.blks,h.bufs.set id (els.length+ys.length,size),h.globs⟩
  |.row n off sz len cap=>e03 h size bytes n off sz len cap ys K
  |_=>False
section
variable {P:Program}{σ:Sg}{h:A4}
set_option maxHeartbeats 1000000 in
theorem c5z(hi:Inv h σ){t u ty elem:TypeId}{ie:TypeInfo}{z:Value}(ht:P.underlying t=some (.slice elem))(hie:P.info? elem=some ie)(hz:ie.zero=some z)(hzs:z.cells.size=ie.size)(hb:ie.bytes≠0)
  {du:TypeDesc}(hu:P.underlying u=some du) (hdu:(∃e,du=.slice e)\/du=.string)
  {els ys:List (List AV)}{id:Nat}{x y:Value}(hx:Rel σ (.sl els (.own id)) x) {q:AV}(hq:Rel σ q y) (hqe:c6t h ie.size q=some ys) (hes:∀el∈els,el.length=ie.size) (hys:∀el∈ys,el.length=ie.size) (hbuf:h.bufs[id]? =some (els.length,ie.size))
  (hroom:(els.length+ys.length)*ie.bytes<=140737488355328):
  ∃σ' z,(Builtin.append_ #[t,u] ty #[x,y]).run P σ.w=.ok z σ'.w/\Le σ σ'/\Inv ⟨h.blks,h.bufs.set id (els.length+ys.length,ie.size),h.globs⟩ σ'/\Rel σ' (.sl (els++ys) (.own id)) z:=by
 obtain⟨e,he,hce⟩:=hi.buf id _ hbuf;simp only[Prod.mk.injEq]at hce;obtain⟨hcur,hsize⟩:=hce;obtain⟨vs,hv,hlen,hfirst⟩:=d8z (P:=P) hi hq hqe hys;have hvl:vs.length=ys.length*e.size:=by rw[hv.1,a2u ys hys,hsize]
 have hroom':els.length+ys.length<=140737488355328:=Nat.le_trans (Nat.le_mul_of_pos_right _ (by omega)) hroom;obtain⟨ecur,esize,eat,ecap⟩:=e;simp only at hcur hsize hvl;subst hcur hsize
 have hrows:∀el∈els++ys,el.length=ie.size:=by
  intro el hel;rcases List.mem_append.1 hel with h|h
  ·exact hes el h
  ·exact hys el h
 -- what the first operand is
 have hx2:∃(a:Option Addr) (vo:List Value),x=.slice a els.length ecap/\eat=a/\F4 σ els.flatten vo/\(∀a',a=some a'->(a'.spot=none/\e8z σ a'.block a'.off vo)\/(els=[]/\ecap=0))/\els.length<=ecap:=by
  obtain⟨hle,h0⟩:=hi.bufle id _ he;simp only at hle h0;cases hx with
  |sl0 _ htk=>
   obtain⟨e2,k1,k2,k3⟩:=htk;rw[he]at k1;cases k1;obtain⟨k4,k5⟩:=k3 rfl;simp only at k4 k5;subst k4 k5;exact⟨none,[],rfl,rfl,F4.nil σ,(fun a' h=>by cases h),hle⟩
  |slx _ sa scap htk hsc=>
   obtain⟨e2,k1,k2,k3⟩:=htk;rw[he]at k1;cases k1;obtain⟨k4,k5⟩:=k3 rfl;simp only at k4 k5;subst k4 k5;have hz0:ecap=0:=hsc.elim (fun h=>by cases h) (fun h=>h);exact⟨some sa,[],rfl,rfl,F4.nil σ,(fun a' h=>.inr ⟨rfl,hz0⟩),hle⟩
  |sl _ _ b o cap sz xs hsz hcap htk hz' hc hr=>
   obtain⟨e2,k1,k2,k3⟩:=htk;rw[he]at k1;cases k1;obtain⟨k4,k5⟩:=k3 rfl;simp only at k4 k5;subst k4 k5;obtain⟨vo,h1,h2⟩:=d5c (σ:=σ) (els:=els) (tok:=.own id) (b:=b) (o:=o) (n:=els.length) (cap:=ecap) (.sl els (.own id) b o ecap sz xs hsz hcap ⟨_,he,k2,fun _=>⟨rfl,rfl⟩⟩ hz' hc hr) hes;exact⟨some ⟨b,o,none⟩,vo,rfl,rfl,h1,(fun a' h=>by cases h;exact .inl ⟨rfl,h2⟩),hcap⟩
 obtain⟨a,vo,rfl,rfl,hvo,hlies,hcap⟩:=hx2;have hvol:vo.length=els.length*ie.size:=by rw[hvo.1,a2u els hes]
 by_cases hfit:els.length+ys.length<=ecap
 ·
  cases eat with
  |none=>
   have h0:=(hi.bufle id _ he).2 rfl;simp only at h0;subst h0;have hy0:ys=[]:=List.eq_nil_of_length_eq_zero (by omega);have he0:els=[]:=List.eq_nil_of_length_eq_zero (by omega);subst hy0 he0;refine⟨σ,.slice none 0 0,?_,Le.refl σ,?_,.sl0 _ ⟨_,he,Nat.le_refl _,fun _=>⟨rfl,rfl⟩⟩⟩
   ·have hl0:=hlen σ.w;have hf0:=hfirst σ.w (fun _ _ _ h=>h);simp only[List.length_nil]at hl0 hf0 hvl;have hvn:vs=[]:=List.eq_nil_of_length_eq_zero (by omega);subst hvn;rcases hdu with⟨_,rfl⟩|rfl<;>simp[Builtin.append_,run_underlying ht,run_underlying hu,sizeOf,typeInfo,hie,hl0,hf0]
   ·have:h.bufs.set id (([]:List (List AV)).length+([]:List (List AV)).length,ie.size)=h.bufs:=by
     apply List.ext_getElem?;intro i
     by_cases hid:id=i
     ·subst hid;have hlt:id<h.bufs.length:=(List.getElem?_eq_some_iff.1 hbuf).1;rw[List.getElem?_set_self hlt,hbuf];rfl
     ·rw[List.getElem?_set_ne hid]
    rw[this];exact hi
  |some a=>
   rcases hlies a rfl with⟨hspot,hl⟩|⟨he0,hc0⟩
   rotate_left
   ·subst he0 hc0;have hy0:ys=[]:=List.eq_nil_of_length_eq_zero (by simp at hfit;simpa using hfit);subst hy0;refine⟨σ,.slice (some a) 0 0,?_,Le.refl σ,?_,.slx _ a 0 ⟨_,he,Nat.le_refl _,fun _=>⟨rfl,rfl⟩⟩ (.inr rfl)⟩
    ·have hl0:=hlen σ.w;have hf0:=hfirst σ.w (fun _ _ _ h=>h);simp only[List.length_nil]at hl0 hf0 hvl;have hvn:vs=[]:=List.eq_nil_of_length_eq_zero (by omega);subst hvn;rcases hdu with⟨_,rfl⟩|rfl<;>simp[Builtin.append_,run_underlying ht,run_underlying hu,sizeOf,typeInfo,hie,hl0,hf0,storeCells]
    ·have:h.bufs.set id (([]:List (List AV)).length+([]:List (List AV)).length,ie.size)=h.bufs:=by
      apply List.ext_getElem?;intro i
      by_cases hid:id=i
      ·subst hid;have hlt:id<h.bufs.length:=(List.getElem?_eq_some_iff.1 hbuf).1;rw[List.getElem?_set_self hlt,hbuf];rfl
      ·rw[List.getElem?_set_ne hid]
     rw[this];exact hi
   obtain⟨ab,ao,asp⟩:=a;simp only at hspot hl;subst hspot;obtain⟨σ',g1,g2,g3,g4,g5,g6⟩:=e7t (P:=P) hi he rfl (n:=ys.length) hfit hv hvl;simp only at g1 g2 g3 g4 g5 g6;refine⟨σ',.slice (some ⟨ab,ao,none⟩) (els.length+ys.length) ecap,?_,g2,g3,?_⟩
   ·have hl0:=hlen σ.w;have hf0:=hfirst σ.w (fun _ _ _ h=>h);rcases hdu with⟨_,rfl⟩|rfl<;>simp[Builtin.append_,run_underlying ht,run_underlying hu,sizeOf,typeInfo,hie,hl0,hf0,hfit,Z7,g6]
   ·have hcells:F4 σ' (els++ys).flatten (vo++vs):=by rw[List.flatten_append];exact(hvo.mono g2).append (hv.mono g2)
    have hlie:e8z σ' ab ao (vo++vs):=by
     intro k v hk
     by_cases hkl:k<vo.length
     ·rw[List.getElem?_append_left hkl]at hk;exact hl.mono g2 k v hk
     ·rw[List.getElem?_append_right (by omega)]at hk;have:=g5 _ v hk
      rwa [show ao+els.length*ie.size+(k - vo.length)=ao+k by omega]at this
    have:=f1z (σ:=σ') (tok:=.own id) (cap:=ecap) hrows hcells hlie (by simpa using hfit) ⟨_,g4,by simp,fun _=>⟨rfl,rfl⟩⟩ (fun i e hid he'=>by cases hid;rw[g4]at he';cases he';rfl);simpa using this
 ·
  have hgt:ecap<els.length+ys.length:=by omega
  have hcut:∀t',((Question.appendCap (els.length+ys.length) ecap elem).cut t') ≥ els.length+ys.length:=fun t'=>by simp[Question.cut]
  obtain⟨c,hcdef⟩:∃c,c=(Question.appendCap (els.length+ys.length) ecap elem).cut (σ.w.tape σ.w.drawn (.appendCap (els.length+ys.length) ecap elem)):=⟨_,rfl⟩
  have hcge:els.length+ys.length<=c:=by rw[hcdef];exact hcut _
  have hrl:(Builtin.zeroCells z.cells (c - (els.length+ys.length))).toList.length=(c - (els.length+ys.length))*ie.size:=by rw[b0a,hzs]
  obtain⟨σ',g1,g2,g3,g4,g5⟩:=f4k hi he (n:=ys.length) (c:=c) hgt hcge (hvo.append hv) (by simp only[List.length_append,hvol,hvl];rw[<-Nat.add_mul]) _ hrl elem;simp only at g1 g2 g3 g4 g5;refine⟨σ',.slice (some ⟨σ.w.heap.size,0,none⟩) (els.length+ys.length) c,?_,g2,g3,?_⟩
  ·have hl0:=hlen σ.w;have hf0:=hfirst σ.w.drew (fun b o v h=>by simpa using h)
   have ho0:(Builtin.firstCells ie.size els.length (.slice eat els.length ecap)).run P σ.w.drew=.ok vo.toArray σ.w.drew:=by
    cases eat with
    |none=>
     have h0:=(hi.bufle id _ he).2 rfl;simp only at h0;have:els.length=0:=by omega
     have hvn:vo=[]:=List.eq_nil_of_length_eq_zero (by rw[hvol,this];omega);subst hvn;rfl
    |some a=>
     rcases hlies a rfl with⟨hspot,hl⟩|⟨he0,hc0⟩
     rotate_left
     ·subst he0;have hvn:vo=[]:=List.eq_nil_of_length_eq_zero (by rw[hvol];simp);subst hvn;simp[Builtin.firstCells,loadCells,loadCellsFrom]
     obtain⟨ab,ao,asp⟩:=a;simp only at hspot hl;subst hspot;exact c4a hvol fun k v hk=>by simpa using (hl k v hk).1
   have h48:=growslice_fits (old:=ecap) (bytes:=ie.bytes) hgt hroom;have h48':¬(281474976710656<Builtin.nextslicecap (els.length+ys.length) ecap*ie.bytes):=by omega
   have hnf:¬(els.length+ys.length<=ecap):=by omega
   have hz1:(zeroValue elem).run P σ.w.drew=.ok z σ.w.drew:=by simp[zeroValue,typeInfo,hie,hz]
   rw[g1];rcases hdu with⟨_,rfl⟩|rfl<;>simp[Builtin.append_,run_underlying ht,run_underlying hu,sizeOf,zeroValue,typeInfo,hie,hz,hl0,hf0,ho0,hnf,h48',hb,Question.forced,newRow,<-hcdef]<;>(congr 2;apply Array.ext';simp)
  ·have hcells:F4 σ' (els++ys).flatten (vo++vs):=by rw[List.flatten_append];exact(hvo.append hv).mono g2
   have:=f1z (σ:=σ') (tok:=.own id) (cap:=c) hrows hcells g5 (by simpa using hcge) ⟨_,g4,by simp,fun _=>⟨rfl,rfl⟩⟩ (fun i e hid he'=>by cases hid;rw[g4]at he';cases he';rfl);simpa using this
theorem d8q(hi:Inv h σ){t u ty elem:TypeId}{ie:TypeInfo}{z:Value}(ht:P.underlying t=some (.slice elem))(hie:P.info? elem=some ie)(hz:ie.zero=some z)(hzs:z.cells.size=ie.size)(hb:ie.bytes≠0)
  {du:TypeDesc}(hu:P.underlying u=some du) (hdu:(∃e,du=.slice e)\/du=.string) {p q:AV}{x y:Value}(hp:Rel σ p x) (hq:Rel σ q y) {K:AV->A4->Prop}(hk:b3d h ie.size ie.bytes p q K):
  ∃σ' h' av z,(Builtin.append_ #[t,u] ty #[x,y]).run P σ.w=.ok z σ'.w/\Le σ σ'/\Inv h' σ'/\Rel σ' av z/\K av h':=by
 unfold b3d at hk;split at hk
 ·exact hk.elim
 ·rename_i ys hqe;obtain⟨hys,hk⟩:=hk;split at hk
  ·obtain⟨hroom,hk⟩:=hk;cases hp with
   |nil=>
   obtain⟨σ1,w1,l1,i1,b1⟩:=c75 hi ⟨0,ie.size,none,0⟩ rfl (fun _=>rfl);obtain⟨σ2,z2,r2,l2,i2,q2⟩:=c5z (P:=P) (ty:=ty) i1 ht hie hz hzs hb hu hdu (els:=[]) (ys:=ys) (id:=h.bufs.length) (.sl0 _ ⟨_,b1,Nat.le_refl _,fun _=>⟨rfl,rfl⟩⟩) (hq.mono l1) (by rw[<-hqe];exact d7k _ _ _ _ _) (by simp) hys (by simp) (by simpa using hroom);rw[w1]at r2;refine⟨σ2,_,_,z2,r2,l1.trans l2,?_,q2,hk⟩;simpa using i2
  ·rename_i els;obtain⟨hes,hroom,hk⟩:=hk
   have key:∀(a:Option Addr),(a=none->els.length=0)->(∀σ1:Sg,Le σ σ1->σ1.buf h.bufs.length=some ⟨els.length,ie.size,a,els.length⟩->Rel σ1 (.sl els (.own h.bufs.length)) x)->
     ∃σ' h' av z,(Builtin.append_ #[t,u] ty #[x,y]).run P σ.w=.ok z σ'.w/\Le σ σ'/\Inv h' σ'/\Rel σ' av z/\K av h':=by
    intro a h0 hx;obtain⟨σ1,w1,l1,i1,b1⟩:=c75 hi ⟨els.length,ie.size,a,els.length⟩ rfl h0;obtain⟨σ2,z2,r2,l2,i2,q2⟩:=c5z (P:=P) (ty:=ty) i1 ht hie hz hzs hb hu hdu (els:=els) (ys:=ys) (id:=h.bufs.length) (hx σ1 l1 b1) (hq.mono l1) (by rw[<-hqe];exact d7k _ _ _ _ _) hes hys (by simp) hroom;rw[w1]at r2;refine⟨σ2,_,_,z2,r2,l1.trans l2,?_,q2,hk⟩;simpa using i2
   cases hp with
   |slx _ sa scap htk hsc=>
    have:scap=0:=htk;subst this;exact key (some sa) (fun h=>by cases h) fun σ1 l1 b1=>.slx _ sa 0 ⟨_,b1,Nat.le_refl _,fun _=>⟨rfl,rfl⟩⟩ (.inr rfl)
   |sl0 _ htk=>exact key none (fun _=>rfl) fun σ1 l1 b1=>.sl0 _ ⟨_,b1,Nat.le_refl _,fun _=>⟨rfl,rfl⟩⟩
   |sl _ _ b o cap sz xs hsz hcap htk hz' hc hr=>
    have hcl:cap=els.length:=htk;subst hcl;refine key (some ⟨b,o,none⟩) (fun h=>by cases h) fun σ1 l1 b1=>?_
    obtain⟨vo,h1,h2⟩:=d5c (σ:=σ) (.sl els .full b o els.length sz xs hsz hcap htk hz' hc hr) hes;exact f1z hes (h1.mono l1) (h2.mono l1) (Nat.le_refl _) ⟨_,b1,Nat.le_refl _,fun _=>⟨rfl,rfl⟩⟩ (fun i e hid he'=>by cases hid;rw[b1]at he';cases he';rfl)
  ·rename_i els id;obtain⟨hes,hbuf,hroom,hk⟩:=hk;obtain⟨σ2,z2,r2,l2,i2,q2⟩:=c5z (P:=P) (ty:=ty) hi ht hie hz hzs hb hu hdu hp hq hqe hes hys hbuf hroom;exact⟨σ2,_,_,z2,r2,l2,i2,q2,hk⟩
  ·exact d8n hi ht hie hz hzs hb hu hdu hp hq hqe hys hk
  ·exact hk.elim
def b49(h:A4)(size bytes:Nat)(x y:AV)(K:AV->A4->Prop):Prop:=
 match c6t h size y with
 |none=>False
 |some ys=>((∀el∈ys,el.length=size)/\ys≠[])/\
  match x with
  |.nil=>ys.length*bytes<=140737488355328/\K (.row h.blks.length 0 size ys.length ys.length) ⟨h.blks++[some ys.flatten],h.bufs,h.globs⟩
  |.sl els .full=>(∀el∈els,el.length=size)/\(els.length+ys.length)*bytes<=140737488355328/\K (.row h.blks.length 0 size (els.length+ys.length) (els.length+ys.length)) ⟨h.blks++[some (els.flatten++ys.flatten)],h.bufs,h.globs⟩
  |_=>False
theorem d6f(hi:Inv h σ){t u ty elem:TypeId}{ie:TypeInfo}{z:Value}(ht:P.underlying t=some (.slice elem))(hie:P.info? elem=some ie)(hz:ie.zero=some z)(hzs:z.cells.size=ie.size)(hb:ie.bytes≠0)
  {du:TypeDesc}(hu:P.underlying u=some du) (hdu:(∃e,du=.slice e)\/du=.string) {p q:AV}{x y:Value}(hp:Rel σ p x) (hq:Rel σ q y) {K:AV->A4->Prop}(hk:b49 h ie.size ie.bytes p q K):
  ∃σ' h' av z,(Builtin.append_ #[t,u] ty #[x,y]).run P σ.w=.ok z σ'.w/\Le σ σ'/\Inv h' σ'/\Rel σ' av z/\K av h':=by
 unfold b49 at hk;split at hk
 ·exact hk.elim
 ·rename_i ys hqe;obtain⟨⟨hys,hne⟩,hk⟩:=hk;have hpos:0<ys.length:=List.length_pos_iff.2 hne;split at hk
  ·obtain⟨hroom,hk⟩:=hk;cases hp with
   |nil=>
   obtain⟨σ',z',g1,g2,g3,g4⟩:=d21 (P:=P) (ty:=ty) (a:=none) (els:=[]) (cap:=0) hi ht hie hz hzs hb hu hdu hq hqe hys (by simp) (F4.nil σ) (fun w _=>rfl) (by simpa using hpos) (by simpa using hroom);exact⟨σ',_,_,z',g1,g2,by simpa using g3,by simpa using g4,hk⟩
  ·rename_i els;obtain⟨hes,hroom,hk⟩:=hk
   have key:∀a,x=.slice a els.length els.length->(∃vo,F4 σ els.flatten vo/\∀w:World,(∀(b o:Nat) (v:Value),σ.w.cell? ⟨b,o,none⟩=some v->w.cell? ⟨b,o,none⟩=some v)->(Builtin.firstCells ie.size els.length (.slice a els.length els.length)).run P w=.ok vo.toArray w)->
     ∃σ' h' av z,(Builtin.append_ #[t,u] ty #[x,y]).run P σ.w=.ok z σ'.w/\Le σ σ'/\Inv h' σ'/\Rel σ' av z/\K av h':=by
    rintro a rfl ⟨vo,h1,h2⟩;obtain⟨σ',z',g1,g2,g3,g4⟩:=d21 (P:=P) (ty:=ty) hi ht hie hz hzs hb hu hdu hq hqe hys hes h1 h2 (by omega) hroom;exact⟨σ',_,_,z',g1,g2,g3,g4,hk⟩
   have hfirst:=f5y (P:=P) (y:=.sl els .full) hp rfl hes;obtain⟨vs,f1,_,f3⟩:=hfirst;cases hp with
   |slx _ sa scap htk hsc=>
    have:scap=0:=htk;subst this;exact key (some sa) rfl ⟨vs,f1,f3⟩
   |sl0 _ htk=>exact key none rfl ⟨vs,f1,f3⟩
   |sl _ _ b o cap sz xs hsz hcap htk hz' hc hr=>
    have hcl:cap=els.length:=htk;subst hcl;exact key (some ⟨b,o,none⟩) rfl ⟨vs,f1,f3⟩
  ·exact hk.elim
theorem d8v(hi:Inv h σ){t elem:TypeId}{ie:TypeInfo}{z:Value}{len:Nat}(ht:P.underlying t=some (.slice elem))(hie:P.info? elem=some ie)(hz:ie.zero=some z)(hsz:len*ie.size<=2 ^ 24)
  {zeros:List AV}(hzc:F4 σ zeros ((Array.range (len*ie.size)).map ((if len*ie.size=0 then #[] else z.cells)[· % (if len*ie.size=0 then #[] else z.cells).size]!)).toList)
  {parts:List (Nat × Value)}{aps:List ((Nat × Nat) × AV)}(hl:parts.length=aps.length)
  (hp:∀(i:Nat) (a:(Nat × Nat) × AV),aps[i]? =some a->∃(k:Nat) (x:Value),parts[i]? =some (k,x)/\(k*ie.size,ie.size)=a.1/\Rel σ a.2 x) {cells:List AV}(hf:d1x zeros aps=some cells) (hlen:cells.length=len*ie.size):
  ∃σ' z,(Instr.buildSlice t len parts.toArray).run P σ.w=.ok z σ'.w/\Le σ σ'/\Inv h σ'/\Rel σ' (.sl (c7i ie.size len (cells.map wk1)) .full) z:=by
 obtain⟨cs,g1,g2⟩:=c8b (fun i=>some (i*ie.size,ie.size)) parts aps zeros _ cells hzc hl (fun i a ha=>by
  obtain⟨k,x,e1,e2,e3⟩:=hp i a ha;exact⟨k,x,e1,by rw[e2],e3⟩) hf
 have g2:=g2.wk;obtain⟨c1,c2,c3⟩:=c6j ie.size len (cells.map wk1) (by simpa using hlen);have hpa:=b89.alloc σ.w (.cells cs elem);refine⟨{σ with w:=σ.w.alloc (.cells cs elem)},.slice (some ⟨σ.w.heap.size,0,none⟩) len len,?_,Le.world hpa,hi.world hpa,?_⟩
 ·have hgt:¬(2 ^ 24<len*ie.size):=by omega
  by_cases h0:len*ie.size=0
  ·rw[if_pos h0]at g1;simp only[Instr.buildSlice,Sem.run_bind,run_underlying ht,Result.andThen_ok,sizeOf,typeInfo,run_program,hie,Sem.run_pure,Sem.run_ite,if_neg hgt,if_pos h0,newRow,run_newObj,World.alloc,List.toList_toArray];simp only[gt_iff_lt,hgt,if_false,g1,Result.andThen_ok,Sem.run_bind,Sem.run_pure,run_newObj]
  ·rw[if_neg h0]at g1;simp only[Instr.buildSlice,Sem.run_bind,run_underlying ht,Result.andThen_ok,sizeOf,typeInfo,run_program,hie,Sem.run_pure,Sem.run_ite,if_neg hgt,if_neg h0,newRow,run_newObj,World.alloc,zeroValue,hz,List.toList_toArray];simp only[gt_iff_lt,hgt,if_false,g1,Result.andThen_ok,Sem.run_bind,Sem.run_pure,run_newObj]
 ·have hnew:(σ.w.alloc (.cells cs elem)).heap[σ.w.heap.size]? =some (.cells cs elem (0,0)):=heap_alloc_new σ.w _
  have hlies:e8z {σ with w:=σ.w.alloc (.cells cs elem)} σ.w.heap.size 0 cs.toList:=by
   intro k v hk;refine⟨?_,?_⟩
   ·show(σ.w.alloc _).cell? _=some v;rw[a16 hnew,Nat.zero_add,<-Array.getElem?_toList];exact hk
   ·rintro (hx|hx)
    ·have:=(hi.outer _ _ hx).1;omega
    ·rcases hx with⟨m,hm⟩|⟨i,f,hf,hs⟩
     ·have:=hi.lt hm;have:σ.w.heap.size<σ.w.heap.size:=hi.lt hm;omega
     ·obtain⟨v,hv⟩:=Option.isSome_iff_exists.1 (hi.bufat i f _ _ hf hs).1;have:=a29 hv;omega
  have:=f1z (σ:={σ with w:=σ.w.alloc (.cells cs elem)}) (tok:=.full) (cap:=len) c2 (by rw[c1];exact g2.mono (Le.world hpa)) hlies (by omega) (by show len=_;exact c3.symm) (fun i e hid=>by cases hid);rw[c3]at this;exact this
end
inductive K0 where
 |t (n:Nat)
 |c (a:AV)
def K0.ev(env:Env):K0->Option AV
 |.t n=>get env n
 |.c a=>some a
def g8b:Value->Option AV
 |.slice none 0 0=>some .nil
 |.func fn a b=>if a.size=0/\b.size=0 then some (.clo fn [] []) else none
 |x=>if f9a x then some (.v x) else none
def f2e:List Value->Option (List AV)
 |[]=>some []
 |v::l=>(g8b v).bind fun a=>(f2e l).map fun r=>a::r
def ofV:Value->Option AV
 |.agg cs=>(f2e cs.toList).map .agg
 |x=>g8b x
inductive AOp where
 |mv (x:K0)
 |pick (c a b:K0)
 |alloc (cells:List AV)
 |box (x:K0)
 |build (zero:List AV) (parts:List ((Nat × Nat) × K0))
 |sliceLit (size len:Nat) (zeros:List AV) (parts:List ((Nat × Nat) × K0))
 |load (n:Option Nat) (x:K0)
 |store (size:Nat) (p x:K0)
 |nilCheck (x:K0)
 |bin (op:BinOp) (x y:K0)
 |eq (c:EqK) (yes:Bool) (x y:K0)
 |un (op:UnOp) (x:K0)
 |conv (c:CK) (x:K0)
 |iface (t:TypeId) (x:K0)
 |func (fn:Fn) (first captured:List K0)
 |sliceS (x:K0) (lo hi:Option K0)
 |sliceV (size:Nat) (x:K0) (lo hi mx:Option K0)
 |fieldAddr (off:Nat) (x:K0)
 |field (n:Option Nat) (off:Nat) (x:K0)
 |idxS (x i:K0)
 |idxV (len size:Nat) (n:Option Nat) (x i:K0)
 |idxSl (size:Nat) (x i:K0)
 |idxA (len size:Nat) (x i:K0)
 |assertT (t:TypeId) (ok:Bool) (zero:AV) (x:K0)
 |extract (i:Nat) (x:K0)
 |len (str:Bool) (x:K0)
 |append (size bytes:Nat) (x y:K0)
 |call (f:K0) (args:List K0)
 |bytes (x:K0)
 |minmax (mx:Bool) (args:List K0)
 |make (size bytes:Nat) (zero:List AV) (len cap:K0)
 |range (x:K0)
 |next (x:K0)
def d9r(h:A4)(x:AV)(K:AV->A4->Prop):Prop:=
 match x with
 |.v (.string s)=>K (.sl (Y4 s.data.toList) (.own h.bufs.length)) ⟨h.blks,h.bufs++[(s.data.toList.length,1)],h.globs⟩
 |_=>False
def a5i(size len:Nat)(zero:List AV):List AV:=(List.range (len*size)).map fun i=>zero.getD (i % size) .nil
def g5i(h:A4)(size bytes:Nat)(zero:List AV)(x y:AV)(K:AV->A4->Prop):Prop:=
 match x,y with
 |.v (.int _ l),.v (.int _ c)=>(0<=l/\l<=c/\c*bytes<=140737488355328)/\K (.row h.blks.length 0 size l.toNat c.toNat) ⟨h.blks++[some (a5i size c.toNat zero)],h.bufs,h.globs⟩
 |_,_=>False
def e5s(h:A4)(x:AV)(K:AV->A4->Prop):Prop:=
 match x with
 |.v (.string s)=>K (.ptr h.blks.length 0) ⟨h.blks++[some [.it s 0]],h.bufs,h.globs⟩
 |_=>False
def c6u(h:A4)(x:AV)(K:AV->A4->Prop):Prop:=
 match x with
 |.ptr n 0=>match h.blks[n]? with
  |some (some [.it s p])=>(p<s.size->K (.tuple [.v (.bool true),.v (.int .i64 p),.v (.int .i32 (Utf8.decode s p).1)]) ⟨h.blks.set n (some [.it s (p+(Utf8.decode s p).2)]),h.bufs,h.globs⟩)/\(¬p<s.size->K (.tuple [.v (.bool false)]) h)
  |_=>False
 |_=>False
def d8c(o:Option Value)(K:Value->Prop):Prop:=
 match o with
 |some v=>K v
 |none=>False
def mmx(mx:Bool):List AV->Option Value
 |[.v (.int k x)]=>some (.int k x)
 |.v (.int k x)::.v (.int _ y)::r=>mmx mx (.v (.int k (if mx then(if y>x then y else x) else(if y<x then y else x)))::r)
 |_=>none
 termination_by l=>l.length
def wv(o:Option AV)(K:AV->Prop):Prop:=
 match o with
 |some a=>K a
 |none=>False
def evs(env:Env):List K0->Option (List AV)
 |[]=>some []
 |x::r=>match x.ev env,evs env r with
  |some a,some l=>some (a::l)
  |_,_=>none
def evo(env:Env):Option K0->Option (Option AV)
 |none=>some none
 |some x=>match x.ev env with
  |some a=>some (some a)
  |none=>none
def evp(env:Env):List ((Nat × Nat) × K0)->Option (List ((Nat × Nat) × AV))
 |[]=>some []
 |(k,x)::r=>match x.ev env,evp env r with
  |some a,some l=>some ((k,a)::l)
  |_,_=>none
def c79(σ:Sg)(l:List AV)(xs:List Value):Prop:=xs.length=l.length/\∀(i:Nat) (av:AV),l[i]? =some av->∃x,xs[i]? =some x/\Rel σ av x
def d4x(P:Program)(f:FuncId):Prop:=∃fn,P.funcs[f]? =some fn/\fn.body.isNone=false/\(fn.name== "runtime.NumGoroutine")=false
def b8f(P:Program)(f:FuncId)(args:List AV)(h:A4)(K:AV->A4->Prop):Prop:=
 d4x P f/\∀(σ:Sg) (cargs:Array Value),Inv h σ->c79 σ args cargs.toList->
  Calls P f cargs σ.w fun e w'=>∃σ' h' av x,e=.returned x/\σ'.w=w'/\Le σ σ'/\Inv h' σ'/\Rel σ' av x/\K av h'
def c6n(c:AV)(a b:Prop):Prop:=
 match c with
 |.v (.bool t)=>(t=true->a)/\(t=false->b)
 |_=>False
def f81(a:AV)(K:Prop):Prop:=
 match a with
 |.ptr _ _=>K
 |.elt _ _=>K
 |.clo (.func _) _ _=>K
 |_=>False
def d2k(P:Program)(f:AV)(l:Option (List AV))(h:A4)(K:AV->A4->Prop):Prop:=
 match f,l with
 |.clo (.func g) first captured,some l=>b8f P g (first++l++captured) h K
 |_,_=>False
def aop(P:Program)(o:AOp)(env:Env)(h:A4)(K:AV->A4->Prop):Prop:=
 match o with
 |.mv x=>wv (x.ev env) fun a=>K a h
 |.pick c a b=>wv (c.ev env) fun c=>c6n c (wv (a.ev env) fun a=>K a h) (wv (b.ev env) fun b=>K b h)
 |.alloc cells=>K (.ptr h.blks.length 0) ⟨h.blks++[some cells],h.bufs,h.globs⟩
 |.box x=>wv (x.ev env) fun a=>a.isTuple=false/\K (.ptr h.blks.length 0) ⟨h.blks++[some a.cells],h.bufs,h.globs⟩
 |.build zero parts=>match evp env parts with
  |some ps=>match d1x zero ps with
   |some cells=>K (.agg cells) h
   |none=>False
  |none=>False
 |.sliceLit size len zeros parts=>match evp env parts with
  |some ps=>match d1x zeros ps with
   |some cells=>cells.length=len*size/\K (.sl (c7i size len (cells.map wk1)) .full) h
   |none=>False
  |none=>False
 |.load n x=>wv (x.ev env) fun p=>b7a h n p fun a=>K a h
 |.store size p x=>wv (p.ev env) fun p=>wv (x.ev env) fun x=>d3h h size p x fun h'=>K (.tuple []) h'
 |.nilCheck x=>wv (x.ev env) fun a=>f81 a (K a h)
 |.bin op x y=>wv (x.ev env) fun x=>wv (y.ev env) fun y=>d2w op x y fun a=>K a h
 |.eq c yes x y=>wv (x.ev env) fun x=>wv (y.ev env) fun y=>f2a c x y fun b=>K (.v (.bool (if yes then b else !b))) h
 |.un op x=>wv (x.ev env) fun x=>f3k op x fun a=>K a h
 |.conv c x=>wv (x.ev env) fun x=>d6k c x fun a=>K a h
 |.iface t x=>wv (x.ev env) fun a=>K (.iface t a) h
 |.func fn first captured=>match evs env first,evs env captured with
  |some f,some c=>K (.clo fn f c) h
  |_,_=>False
 |.sliceS x lo hi=>wv (x.ev env) fun x=>match evo env lo,evo env hi with
  |some lo,some hi=>c6g x lo hi fun a=>K a h
  |_,_=>False
 |.sliceV size x lo hi mx=>wv (x.ev env) fun x=>match evo env lo,evo env hi,evo env mx with
  |some lo,some hi,some mx=>b18 size x lo hi mx fun a=>K a h
  |_,_,_=>False
 |.fieldAddr off x=>wv (x.ev env) fun x=>e8s off x fun a=>K a h
 |.field n off x=>wv (x.ev env) fun x=>d29 n off x fun a=>K a h
 |.idxS x i=>wv (x.ev env) fun x=>wv (i.ev env) fun i=>c3l x i fun a=>K a h
 |.idxV len size n x i=>wv (x.ev env) fun x=>wv (i.ev env) fun i=>c8m len size n x i fun a=>K a h
 |.idxSl size x i=>wv (x.ev env) fun x=>wv (i.ev env) fun i=>c5p size x i fun a=>K a h
 |.idxA len size x i=>wv (x.ev env) fun x=>wv (i.ev env) fun i=>c8p len size x i fun a=>K a h
 |.assertT t ok zero x=>wv (x.ev env) fun x=>Z3 t ok zero x fun a=>K a h
 |.extract i x=>wv (x.ev env) fun x=>b84 i x fun a=>K a h
 |.len str x=>wv (x.ev env) fun x=>d25 str x fun a=>K a h
 |.append size bytes x y=>wv (x.ev env) fun x=>wv (y.ev env) fun y=>b3d h size bytes x y K\/b49 h size bytes x y K
 |.call f args=>wv (f.ev env) fun f=>d2k P f (evs env args) h K
 |.bytes x=>wv (x.ev env) fun x=>d9r h x K
 |.minmax mx args=>match evs env args with
  |some l=>d8c (mmx mx l) fun v=>K (.v v) h
  |none=>False
 |.make size bytes zero x y=>wv (x.ev env) fun x=>wv (y.ev env) fun y=>g5i h size bytes zero x y K
 |.range x=>wv (x.ev env) fun x=>e5s h x K
 |.next x=>wv (x.ev env) fun x=>c6u h x K
section
variable (P:Program)
def b0f:Operand->Option K0
 |.tmp t=>some (.t t)
 |.const v=>(ofV v).map .c
 |.func f=>some (.c (.clo (.func f) [] []))
 |.global g=>some (.c (.glob g))
def d3u:List Operand->Option (List K0)
 |[]=>some []
 |x::r=>(b0f x).bind fun a=>(d3u r).map fun l=>a::l
def d6j:Option Operand->Option (Option K0)
 |none=>some none
 |some x=>(b0f x).map some
def f15(fs:Array Field)(i:Nat):Option (Nat × Nat):=(fs[i]?).bind fun f=>(P.info? f.type).map fun fi=>(f.offset,fi.size)
def c9m(a3p:Nat->Option (Nat × Nat)):List (Nat × Operand)->Option (List ((Nat × Nat) × K0))
 |[]=>some []
 |(i,x)::r=>(a3p i).bind fun k=>(b0f x).bind fun a=>(c9m a3p r).map fun l=>(k,a)::l
def b69(t:TypeId):Option Value:=(P.info? t).bind (·.zero)
def d8j(s d:TypeId):Bool:=
 match P.underlying s,P.underlying d with
 |some .string,some (.slice e)=>match P.underlying e with
  |some (.int .u8)=>true
  |_=>false
 |_,_=>false
def d5h(c:Call):Option AOp:=
 match c.callee with
 |.builtin .len=>match c.args.toList,c.argTypes.toList with
  |[x],[t]=>(lenOf P t).bind fun s=>(b0f x).map fun x=>.len s x
  |_,_=>none
 |.builtin .append=>match c.args.toList,c.argTypes.toList with
  |[x,y],[t,u]=>match P.underlying t,P.underlying u with
   |some (.slice e),some (.slice _)|some (.slice e),some .string=>(P.info? e).bind fun ie=>(b69 P e).bind fun z=>if z.cells.size=ie.size/\ie.bytes≠0 then(b0f x).bind fun x=>(b0f y).map fun y=>.append ie.size ie.bytes x y else none
   |_,_=>none
  |_,_=>none
 |.builtin .min=>(d3u c.args.toList).map fun l=>.minmax false l
 |.builtin .max=>(d3u c.args.toList).map fun l=>.minmax true l
 |.value f=>(b0f f).bind fun f=>(d3u c.args.toList).map fun l=>.call f l
 |_=>none
def c63(o:Oper):Option AOp:=
 match o.op with
 |.move x|.assign x=>(b0f x).map .mv
 |.pick c a b=>(b0f c).bind fun c=>(b0f a).bind fun a=>(b0f b).map fun b=>.pick c a b
 |.alloc e=>(b69 P e).bind fun z=>(f2e z.cells.toList).map .alloc
 |.box _ x=>(b0f x).map .box
 |.build t parts=>match P.underlying t with
  |some (.struct fs)=>if fs.toList.all (fun f=>(P.info? f.type).isSome) then(b69 P t).bind fun z=>(f2e z.cells.toList).bind fun zs=>(c9m (f15 P fs) parts.toList).map fun ps=>.build zs ps else none
  |some (.array _ e)=>(P.info? e).bind fun ie=>(b69 P t).bind fun z=>(f2e z.cells.toList).bind fun zs=>(c9m (fun i=>some (i*ie.size,ie.size)) parts.toList).map fun ps=>.build zs ps
  |_=>none
 |.buildSlice t len parts=>match P.underlying t with
  |some (.slice e)=>(P.info? e).bind fun ie=>(b69 P e).bind fun z=>(f2e z.cells.toList).bind fun zs=>(c9m (fun i=>some (i*ie.size,ie.size)) parts.toList).bind fun ps=>
   if len*ie.size<=2 ^ 24/\z.cells.size=ie.size/\ie.size≠0 then some (.sliceLit ie.size len (a5i ie.size len zs) ps) else none
  |_=>none
 |.load t x=>(a8j P t).bind fun n=>(b0f x).map fun x=>.load n x
 |.store t p x=>if o.dst=none then((P.info? t).map (·.size)).bind fun n=>(b0f p).bind fun p=>(b0f x).map fun x=>.store n p x else none
 |.nilCheck x=>(b0f x).map .nilCheck
 |.binOp op t x y _=>match eqK P t with
  |some c=>if(op=.eql\/op=.neq)/\(c=.iface->c08 x=true\/c08 y=true) then(b0f x).bind fun x=>(b0f y).map fun y=>.eq c (decide (op=.eql)) x y else none
  |none=>(b0f x).bind fun x=>(b0f y).map fun y=>.bin op x y
 |.unOp op _ x=>(b0f x).map fun x=>.un op x
 |.convert s d x=>if d8j P s d then(b0f x).map .bytes else(c0j P s d).bind fun c=>(b0f x).map fun x=>.conv c x
 |.makeInterface t x=>match P.underlying t with
  |some (.interface _)=>none
  |some _=>(b0f x).map fun x=>.iface t x
  |none=>none
 |.makeFunc fn first captured=>(d3u first.toList).bind fun f=>(d3u captured.toList).map fun c=>.func fn f c
 |.slice t x lo hi mx=>match P.underlying t with
  |some .string=>if mx.isNone then(b0f x).bind fun x=>(d6j lo).bind fun lo=>(d6j hi).map fun hi=>.sliceS x lo hi else none
  |some (.slice e)=>if mx.isSome->hi.isSome then(P.info? e).bind fun ie=>(b0f x).bind fun x=>(d6j lo).bind fun lo=>(d6j hi).bind fun hi=>(d6j mx).map fun mx=>.sliceV ie.size x lo hi mx else none
  |_=>none
 |.fieldAddr t x f=>match P.underlying t with
  |some (.struct fs)=>(fs[f]?).bind fun fd=>(P.info? fd.type).bind fun i=>if i.size≠0 then(b0f x).map fun x=>.fieldAddr fd.offset x else none
  |_=>none
 |.field t x f=>match P.underlying t with
  |some (.struct fs)=>(fs[f]?).bind fun fd=>(a8j P fd.type).bind fun n=>(b0f x).map fun x=>.field n fd.offset x
  |_=>none
 |.indexAddr t x i=>match P.underlying t with
  |some (.slice e)=>(P.info? e).bind fun ie=>(b0f x).bind fun x=>(b0f i).map fun i=>.idxSl ie.size x i
  |some (.array len e)=>(P.info? e).bind fun ie=>(b0f x).bind fun x=>(b0f i).map fun i=>.idxA len ie.size x i
  |_=>none
 |.index t x i=>match P.underlying t with
  |some .string=>(b0f x).bind fun x=>(b0f i).map fun i=>.idxS x i
  |some (.array len e)=>(P.info? e).bind fun ie=>(a8j P e).bind fun n=>(b0f x).bind fun x=>(b0f i).map fun i=>.idxV len ie.size n x i
  |_=>none
 |.typeAssert x _ t ok=>match P.underlying t with
  |some (.interface _)=>none
  |some _=>(b69 P t).bind fun z=>(ofV z).bind fun za=>(b0f x).map fun x=>.assertT t ok za x
  |none=>none
 |.extract x i=>(b0f x).map fun x=>.extract i x
 |.makeSlice t x y=>match P.underlying t with
  |some (.slice e)=>(P.info? e).bind fun ie=>(b69 P e).bind fun z=>(f2e z.cells.toList).bind fun zs=>
   if z.cells.size=ie.size/\ie.size≠0/\ie.bytes≠0 then(b0f x).bind fun x=>(b0f y).map fun y=>.make ie.size ie.bytes zs x y else none
  |_=>none
 |.range t x=>match P.underlying t with
  |some .string=>(b0f x).map fun x=>.range x
  |_=>none
 |.next x s=>if s=true then(b0f x).map fun x=>.next x else none
 |.call c=>d5h P c
 |_=>none
end
section
variable {P:Program}{σ:Sg}{h:A4}{env:Env}{N:Nat}{a:Act}
theorem e1x{v:Value}{av:AV}(h:g8b v=some av):Rel σ av v/\av.isCell=true:=by
 unfold g8b at h;split at h
 ·cases h;exact⟨.nil,rfl⟩
 ·split at h
  ·rename_i hz;cases h;exact⟨Rel.clo_mk hz.1 hz.2 (fun i av hi=>by simp at hi) (fun i av hi=>by simp at hi),rfl⟩
  ·cases h
 ·split at h
  ·rename_i ha;cases h;exact⟨.v _ ha,rfl⟩
  ·cases h
theorem a5z:∀{l:List Value}{r:List AV},f2e l=some r->F4 σ r l
 |[],r,h=>by simp[f2e]at h;subst h;exact F4.nil σ
 |v::l,r,h=>by
  simp only[f2e,Option.bind_eq_some_iff,Option.map_eq_some_iff]at h;obtain⟨av,hv,r',hr,rfl⟩:=h;obtain⟨h1,h2⟩:=e1x (σ:=σ) hv;exact(F4.one h1 h2).append (a5z hr)
theorem e7j{v:Value}{av:AV}(h:ofV v=some av):Rel σ av v:=by
 unfold ofV at h;split at h
 ·simp only[Option.map_eq_some_iff]at h;obtain⟨r,hr,rfl⟩:=h;exact Rel.agg_mk' (a5z hr)
 ·exact(e1x h).1
theorem c76(he:a3y σ env a.tmps){x:Operand}{y:K0}(hx:b0f x=some y){av:AV}(hy:y.ev env=some av):Rel σ av (a.eval x):=by
 cases x with
 |tmp t=>
  simp only[b0f,Option.some.injEq]at hx;subst hx;obtain⟨v,h1,h2⟩:=he t av hy;have:a.eval (.tmp t)=v:=by simp[Act.eval,h1]
  rw[this];exact h2
 |const v=>
  simp only[b0f,Option.map_eq_some_iff]at hx;obtain⟨b,hb,rfl⟩:=hx;cases hy;exact e7j hb
 |func f=>
  simp only[b0f,Option.some.injEq]at hx;subst hx;cases hy;exact Rel.clo_mk rfl rfl (fun i av hi=>by simp at hi) (fun i av hi=>by simp at hi)
 |global g=>
  simp only[b0f,Option.some.injEq]at hx;subst hx;cases hy;exact .glob g
theorem b6d{o:Option AV}{K:AV->Prop}(h:wv o K):∃av,o=some av/\K av:=by
 cases o with
 |none=>exact h.elim
 |some av=>exact⟨av,rfl,h⟩
theorem opd(he:a3y σ env a.tmps){x:Operand}{y:K0}(hx:b0f x=some y){K:AV->Prop}(h:wv (y.ev env) K):∃av,Rel σ av (a.eval x)/\K av:=by
 obtain⟨av,h1,h2⟩:=b6d h;exact⟨av,c76 he hx h1,h2⟩
theorem opds(he:a3y σ env a.tmps):∀{l:List Operand}{l':List K0}{r:List AV},d3u l=some l'->evs env l'=some r->c79 σ r (l.map a.eval)
 |[],l',r,h1,h2=>by simp[d3u]at h1;subst h1;simp[evs]at h2;subst h2;exact⟨rfl,fun i av hi=>by simp at hi⟩
 |x::l,l',r,h1,h2=>by
  simp only[d3u,Option.bind_eq_some_iff,Option.map_eq_some_iff]at h1;obtain⟨y,hy,l2,hl,rfl⟩:=h1;simp only[evs]at h2;split at h2
  ·rename_i av r' hav hr;cases h2;obtain⟨g1,g2⟩:=opds he hl hr;refine⟨by simp[g1],fun i b hi=>?_⟩;cases i with
   |zero=>simp at hi;subst hi;exact⟨_,rfl,c76 he hy hav⟩
   |succ i=>exact g2 i b (by simpa using hi)
  ·cases h2
theorem g0t(he:a3y σ env a.tmps){x:Option Operand}{y:Option K0}(hx:d6j x=some y){r:Option AV}(hr:evo env y=some r):f2z σ r (x.map a.eval)/\(x.isSome=r.isSome):=by
 cases x with
 |none=>simp[d6j]at hx;subst hx;simp[evo]at hr;subst hr;exact⟨.none,rfl⟩
 |some x=>
  simp only[d6j,Option.map_eq_some_iff]at hx;obtain⟨z,hz,rfl⟩:=hx;simp only[evo]at hr;split at hr
  ·rename_i av hav;cases hr;exact⟨.some (c76 he hz hav),rfl⟩
  ·cases hr
theorem c8d(he:a3y σ env a.tmps){a3p:Nat->Option (Nat × Nat)}:∀{l:List (Nat × Operand)}{l':List ((Nat × Nat) × K0)}{r:List ((Nat × Nat) × AV)},c9m a3p l=some l'->evp env l'=some r->
  (l.map fun(i,x)=>(i,a.eval x)).length=r.length/\∀(i:Nat) (b:(Nat × Nat) × AV),r[i]? =some b->∃(k:Nat) (x:Value),(l.map fun(i,x)=>(i,a.eval x))[i]? =some (k,x)/\a3p k=some b.1/\Rel σ b.2 x
 |[],l',r,h1,h2=>by simp[c9m]at h1;subst h1;simp[evp]at h2;subst h2;exact⟨rfl,fun i av hi=>by simp at hi⟩
 |(k,x)::l,l',r,h1,h2=>by
  simp only[c9m,Option.bind_eq_some_iff,Option.map_eq_some_iff]at h1;obtain⟨pl,hpl,y,hy,l2,hl,rfl⟩:=h1;simp only[evp]at h2;split at h2
  ·rename_i av r' hav hr;cases h2;obtain⟨g1,g2⟩:=c8d he hl hr;refine⟨by simpa using g1,fun i b hi=>?_⟩;cases i with
   |zero=>simp at hi;subst hi;exact⟨k,_,rfl,hpl,c76 he hy hav⟩
   |succ i=>exact g2 i b (by simpa using hi)
  ·cases h2
def b37(env:Env)(dst:Option Tmp)(av:AV):Env:=
 match dst with
 |some d=>(d,av)::env
 |none=>env
def e26(σ:Sg)(N:Nat)(env:Env)(dst:Option Tmp)(K:AV->A4->Prop)(a':Act)(w':World):Prop:=
 ∃σ' h' av,σ'.w=w'/\Le σ σ'/\St σ' h' (b37 env dst av) N a'/\K av h'
theorem St.put(hs:St σ h env N a){σ':Sg}{h':A4}(hl:Le σ σ')(hi:Inv h' σ'){dst:Option Tmp}(hd:∀d,dst=some d->d<N){av:AV}{z:Value}(hr:Rel σ' av z):St σ' h' (b37 env dst av) N (a.put dst z):=by
 cases dst with
 |none=>exact⟨hi,hs.env.mono hl,hs.size,hs.defers⟩
 |some d=>
  refine⟨hi,(hs.env.mono hl).put (by rw[hs.size];exact hd d rfl) hr,?_,hs.defers⟩;show(a.tmps.setIfInBounds d z).size=N;simp[hs.size]
theorem Q0{o:Oper}(hs:St σ h env N a)(hd:∀d,o.dst=some d->d<N){K:AV->A4->Prop}{σ':Sg}{h':A4}{av:AV}{z:Value}(hrun:(execOp a.eval o).run P σ.w=.ok (.value z) σ'.w)(hl:Le σ σ')(hi:Inv h' σ')(hr:Rel σ' av z)(hk:K av h')(Q:Exit->Act->World->Prop):
  o.wp P a σ.w (e26 σ N env o.dst K) Q:=by
 unfold Oper.wp;rw[hrun];exact⟨σ',h',av,rfl,hl,hs.put hl hi hd hr,hk⟩
theorem b4r{t:TypeId}{z:Value}(h:b69 P t=some z)(w:World):(zeroValue t).run P w=.ok z w:=by
 unfold b69 at h;simp only[Option.bind_eq_some_iff]at h;obtain⟨i,hi,hz⟩:=h;simp[zeroValue,typeInfo,hi,hz]
theorem b6n{t:TypeId}{z:Value}(h:b69 P t=some z){i:TypeInfo}(hi:P.info? t=some i):i.zero=some z:=by
 unfold b69 at h;simp only[hi,Option.bind_some]at h;exact h
theorem e3v(fs:List Field)(hf:∀f∈fs,(P.info? f.type).isSome=true)(w:World):
  (fs.mapM fun f=>(do pure (f.offset,<-sizeOf f.type):Sem (Nat × Nat))).run P w=.ok (fs.map fun f=>(f.offset,((P.info? f.type).map (·.size)).getD 0)) w:=by
 induction fs with
 |nil=>rfl
 |cons f fs ih=>
  obtain⟨i,hi⟩:=Option.isSome_iff_exists.1 (hf f (by simp));have:=ih (fun g hg=>hf g (by simp[hg]));simp only[List.mapM_cons,Sem.run_bind,sizeOf,typeInfo,run_program,Result.andThen_ok,hi,Sem.run_pure]at this ⊢;rw[this];simp[hi]
end
section
variable {P:Program}{σ:Sg}{h:A4}{env:Env}{N:Nat}{a:Act}
theorem a1d{o:Oper}(hs:St σ h env N a)(hd:∀d,o.dst=some d->d<N){K:AV->A4->Prop}{s:Sem Value}(he:execOp a.eval o=(do pure (.value (<-s)):Sem Next))(hk:∃av z,K av h/\Rel σ av z/\s.run P σ.w=.ok z σ.w)(Q:Exit->Act->World->Prop):
  o.wp P a σ.w (e26 σ N env o.dst K) Q:=by
 obtain⟨av,z,k1,k2,k3⟩:=hk;exact Q0 (σ':=σ) hs hd (by rw[he];simp[k3]) (Le.refl σ) hs.inv k2 k1 Q
theorem c79.append{l1 l2:List AV}{x1 x2:List Value}(h1:c79 σ l1 x1)(h2:c79 σ l2 x2):c79 σ (l1++l2) (x1++x2):=by
 refine⟨by simp[h1.1,h2.1],fun i av hi=>?_⟩
 by_cases hl:i<l1.length
 ·rw[List.getElem?_append_left hl]at hi;rw[List.getElem?_append_left (by rw[h1.1];exact hl)];exact h1.2 i av hi
 ·rw[List.getElem?_append_right (by omega)]at hi;rw[List.getElem?_append_right (by rw[h1.1];omega),h1.1];exact h2.2 _ av hi
theorem b6o{size len:Nat}{z:Value}{zs:List AV}(hz:F4 σ zs z.cells.toList)(hzs:z.cells.size=size)(h0:size≠0):
  F4 σ (a5i size len zs) ((Array.range (len*size)).map ((if len*size=0 then #[] else z.cells)[· % (if len*size=0 then #[] else z.cells).size]!)).toList:=by
 by_cases hn:len*size=0
 ·simp[a5i,hn];exact F4.nil σ
 ·rw[if_neg hn];refine⟨by simp[a5i],fun i av hi=>?_⟩
  have hlt:i<len*size:=by
   have:=(List.getElem?_eq_some_iff.1 hi).1;simpa[a5i]using this
  simp only[a5i,List.getElem?_map,List.getElem?_range hlt,Option.map_some,Option.some.injEq]at hi;have hm:i % size<zs.length:=by rw[<-hz.1];simp[hzs];exact Nat.mod_lt _ (by omega)
  obtain⟨c1,x,hx,hr⟩:=hz.2 (i % size) av (by rw[<-hi,List.getD_eq_getElem?_getD,List.getElem?_eq_getElem hm];rfl);refine⟨c1,x,?_,hr⟩;simp only[Array.getElem?_toList]at hx;have hlt2:i % z.cells.size<z.cells.size:=by rw[hzs];exact Nat.mod_lt _ (by omega)
  simp only[Array.toList_map,List.getElem?_map,Array.toList_range,List.getElem?_range hlt,Option.map_some];rw[hzs]at hlt2 ⊢;simp[getElem!_def,hx]
theorem g0k{t e:TypeId}{ie:TypeInfo}(hi:Inv h σ)(hu:P.underlying t=some (.slice e))(hie:P.info? e=some ie){z:Value}{zs:List AV}(hz:ie.zero=some z)(hzc:F4 σ zs z.cells.toList)(hzs:z.cells.size=ie.size)(hsz:ie.size≠0)(hb:ie.bytes≠0)
  {p q:AV}{x y:Value}(hp:Rel σ p x) (hq:Rel σ q y) {K:AV->A4->Prop}(hk:g5i h ie.size ie.bytes zs p q K):
  ∃σ' av h' v,(Instr.makeSlice t x y).run P σ.w=.ok v σ'.w/\Le σ σ'/\Inv h' σ'/\Rel σ' av v/\K av h':=by
 unfold g5i at hk;split at hk
 ·rename_i k l k' c;obtain⟨⟨h0,h1,h2⟩,hk⟩:=hk;cases hp with
  |v _ _=>
  cases hq with
  |v _ _=>
  have hb1:(1:Int)<=(ie.bytes:Int):=by omega
  have hc0:c<=140737488355328:=by
   have:c*1<=c*(ie.bytes:Int):=Int.mul_le_mul_of_nonneg_left hb1 (by omega);omega
  have wl:IntKind.i64.wrap l=l:=by simp[IntKind.wrap,IntKind.signed,IntKind.bits];omega
  have wc:IntKind.i64.wrap c=c:=by simp[IntKind.wrap,IntKind.signed,IntKind.bits];omega
  obtain⟨σ',g1,g2,g3,g4⟩:=d4j hi (b6o (size:=ie.size) (len:=c.toNat) hzc hzs hsz) e;have n1:¬(281474976710656<(ie.bytes:Int)*c):=by rw[Int.mul_comm];omega
  have n2:¬c<0:=by omega
  have n3:¬l<0:=by omega
  have n4:¬c<l:=by omega
  refine⟨σ',_,_,.slice (some ⟨σ.w.heap.size,0,none⟩) l.toNat c.toNat,?_,g2,g3,?_,hk⟩
  ·rw[g1];have a1:(asIntOf (.int k l)).run P σ.w=.ok (k,l) σ.w:=rfl;have a2:(asIntOf (.int k' c)).run P σ.w=.ok (k',c) σ.w:=rfl;simp only[Instr.makeSlice,Sem.run_bind,run_underlying hu,Result.andThen_ok,asInt,Sem.run_map,a1,a2,Sem.run_pure,typeInfo,run_program,hie,wl,wc]
   by_cases hn:c.toNat*ie.size=0
   ·simp[n1,n2,n3,n4,run_askRoom,sizeOf,typeInfo,hie,newRow,run_newObj,hn]
    congr 2
    apply Array.ext';simp
   ·simp[n1,n2,n3,n4,run_askRoom,sizeOf,typeInfo,hie,zeroValue,hz,newRow,run_newObj,hn]
    congr 2
    apply Array.ext';simp
  ·cases g4 with
   |ptr _ _ _ hb=>
    refine .row _ _ _ _ _ _ _ hb (by omega) (Nat.le_refl _) fun o ho=>?_
    rw[g1];rw[a16 (heap_alloc_new σ.w _)];have hlen:(a5i ie.size c.toNat zs).length=c.toNat*ie.size:=by simp[a5i]
    have hc2:=(b6o (σ:=σ) (size:=ie.size) (len:=c.toNat) hzc hzs hsz).1;have:o<c.toNat*ie.size:=by omega
    simp at hc2 ⊢;omega
 ·exact hk.elim
theorem d0j(mx:Bool):∀(n:Nat) (l:List AV) (x:Value) (rest:List Value) (v:Value),l.length=n->mmx mx l=some v->c79 σ l (x::rest)->∀(w:World),f9a v=true/\
  (rest.foldlM (if mx then Builtin.max2 else Builtin.min2) x).run P w=.ok v w:=by
 intro n
 induction n using Nat.strongRecOn with
 |_ n ih=>
  intro l x rest v hn hm hr w;unfold mmx at hm;split at hm
  ·rename_i k y;cases hm
   match rest,hr.1 with
   |[],_=>
    obtain⟨z,h1,h2⟩:=hr.2 0 _ rfl;simp at h1;subst h1;cases h2;exact⟨rfl,rfl⟩
  ·rename_i k a k' b r
   match rest,hr.1 with
   |y1::rest,hl=>
    obtain⟨z,h1,h2⟩:=hr.2 0 _ rfl;simp at h1;subst h1;obtain⟨z2,h3,h4⟩:=hr.2 1 _ rfl;simp at h3;subst h3;cases h2;cases h4
    have:=ih (r.length+1) (by rw[<-hn];simp) _ (.int k (if mx then(if b>a then b else a) else(if b<a then b else a))) rest v (by simp) hm ⟨by simpa using hl,fun i av hi=>by
     cases i with
     |zero=>simp at hi;subst hi;exact⟨_,rfl,.v _ rfl⟩
     |succ i=>
      obtain⟨q,q1,q2⟩:=hr.2 (i+2) av (by simpa using hi);exact⟨q,by simpa using q1,q2⟩⟩ w
    refine⟨this.1,?_⟩;have h2:=this.2;cases mx
    ·simp only[List.foldlM_cons,Bool.false_eq_true,if_false,Builtin.min2,Sem.run_bind,Sem.run_pure,Result.andThen_ok]at h2 ⊢;exact h2
    ·simp only[List.foldlM_cons,if_true,Builtin.max2,Sem.run_bind,Sem.run_pure,Result.andThen_ok]at h2 ⊢;exact h2
  ·cases hm
theorem g4v{l:List AV}{v:Value}(hm:mmx false l=some v){xs:Array Value}(hr:c79 σ l xs.toList)(ats:Array TypeId)(ty:TypeId)(w:World):f9a v=true/\(Builtin.min_ ats ty xs).run P w=.ok v w:=by
 unfold Builtin.min_;cases hx:xs.toList with
 |nil=>
  rw[hx]at hr;have:l=[]:=List.eq_nil_of_length_eq_zero (by simpa using hr.1.symm);subst this;simp[mmx]at hm
 |cons x rest=>rw[hx]at hr;simpa using d0j (P:=P) false _ l x rest v rfl hm hr w
theorem g58{l:List AV}{v:Value}(hm:mmx true l=some v){xs:Array Value}(hr:c79 σ l xs.toList)(ats:Array TypeId)(ty:TypeId)(w:World):f9a v=true/\(Builtin.max_ ats ty xs).run P w=.ok v w:=by
 unfold Builtin.max_;cases hx:xs.toList with
 |nil=>
  rw[hx]at hr;have:l=[]:=List.eq_nil_of_length_eq_zero (by simpa using hr.1.symm);subst this;simp[mmx]at hm
 |cons x rest=>rw[hx]at hr;simpa using d0j (P:=P) true _ l x rest v rfl hm hr w
theorem f5i(hi:Inv h σ){s d:TypeId}(hb:d8j P s d=true)(str:ByteArray):∃σ' z,(convert s d (.string str)).run P σ.w=.ok z σ'.w/\Le σ σ'/\Inv ⟨h.blks,h.bufs++[(str.data.toList.length,1)],h.globs⟩ σ'/\Rel σ' (.sl (Y4 str.data.toList) (.own h.bufs.length)) z:=by
 unfold d8j at hb;split at hb
 ·rename_i e hs hd;split at hb
  ·rename_i he;have hrun:=Lib.run_convert_string_bytes (P:=P) σ.w s d e str hs hd he;obtain⟨c,hcdef⟩:∃c,c=grownCap σ.w str.size 0 e:=⟨_,rfl⟩
   have hcge:str.size<=c:=by rw[hcdef];simp[grownCap,Question.cut]
   rw[<-hcdef]at hrun;have hp:b89 σ.w (Lib.bytesWorld σ.w e str):=⟨by rw[Lib.bytesWorld_size];omega,fun b hb=>Lib.bytesWorld_at_old σ.w e str b hb,rfl,rfl,rfl⟩;have hnew:=Lib.bytesWorld_at_new σ.w e str
   have hsz:(Lib.bytesCells σ.w e str).size=c:=by
    rw[hcdef];simp[Lib.bytesCells];rw[<-hcdef];have:str.data.size=str.size:=rfl;omega
   have hlt:∀i f,σ.buf i=some f->i<h.bufs.length:=by
    intro i f hf;have:=hi.bufdom i f hf
    by_cases hl:i<h.bufs.length
    ·exact hl
    ·rw[List.getElem?_eq_none (by omega)]at this;cases this
   have hslt:∀i f b o,σ.buf i=some f->f.spare b o->b<σ.w.heap.size:=by
    intro i f b o hf hs;obtain⟨v,hv⟩:=Option.isSome_iff_exists.1 (hi.bufat i f b o hf hs).1;exact a29 hv
   have hblt:∀m b,σ.blk m=some b->b<σ.w.heap.size:=by
    intro m b hm;exact hi.lt hm
   have hll:str.data.toList.length=str.size:=by simp
   let f:Buf:=⟨str.data.toList.length,1,some ⟨σ.w.heap.size,0,none⟩,c⟩
   have hspn:∀b o,f.spare b o->b=σ.w.heap.size/\str.size<=o/\o<c:=by
    rintro b o ⟨a,h1,h2,h3,h4⟩;cases h1;simp only[f,hll]at h3 h4;exact⟨h2.symm,by omega,by omega⟩
   let σ':Sg:={σ with w:=Lib.bytesWorld σ.w e str,buf:=fun i=>if i=h.bufs.length then some f else σ.buf i}
   have hbuf:∀i g,σ'.buf i=some g->(i=h.bufs.length/\g=f)\/σ.buf i=some g:=by
    intro i g hg;simp only[σ']at hg;split at hg
    ·cases hg;exact .inl ⟨‹_›,rfl⟩
    ·exact .inr hg
   have hown:∀b o,b<σ.w.heap.size->σ'.own b o->σ.own b o:=by
    rintro b o hb (⟨m,hm⟩|⟨i,g,hg,hs⟩)
    ·exact .inl ⟨m,hm⟩
    ·rcases hbuf i g hg with⟨rfl,rfl⟩|hg
     ·have:=(hspn b o hs).1;omega
     ·exact .inr ⟨i,g,hg,hs⟩
   have hle:Le σ σ':={
    blk:=fun _ _ h=>h
    buf:=fun i g hg=>⟨g,by show(if i=h.bufs.length then some f else σ.buf i)=some g;rw[if_neg (by have:=hlt i g hg;omega)];exact hg,Nat.le_refl _,rfl,fun _=>rfl⟩
    outer:=rfl
    cell:=fun b o hb _=>U4 (hp.old b hb) o
    ext:=(Le.world (σ:=σ) hp).ext
    whole:=fun b hb _=>hp.old b hb
    own:=hown
    size:=hp.size
    os:=hp.os
    tape:=hp.tape
    output:=hp.output}
   refine⟨σ',_,hrun,hle,?_,?_⟩
   ·exact {
     blk:=fun m cells hm=>by
      obtain⟨b,k1,k2⟩:=hi.blk m cells hm;exact⟨b,k1,k2.keep hle (hp.old b k2.lt)⟩
     dom:=hi.dom
     inj:=hi.inj
     buf:=fun i q hq=>by
      by_cases hl:i<h.bufs.length
      ·rw[List.getElem?_append_left hl]at hq;obtain⟨g,k1,k2⟩:=hi.buf i q hq;exact⟨g,by show(if i=h.bufs.length then some f else σ.buf i)=some g;rw[if_neg (by omega)];exact k1,k2⟩
      ·rw[List.getElem?_append_right (by omega)]at hq
       have hz:i=h.bufs.length:=by
        by_cases hz:i - h.bufs.length=0
        ·omega
        ·rw[List.getElem?_eq_none (by simp;omega)]at hq;cases hq
       subst hz;simp only[Nat.sub_self,List.getElem?_cons_zero,Option.some.injEq]at hq;exact⟨f,if_pos rfl,hq⟩
     bufdom:=fun i g hg=>by
      rcases hbuf i g hg with⟨rfl,rfl⟩|hg
      ·rw[List.getElem?_append_right (Nat.le_refl _)];simp[f]
      ·rw[List.getElem?_append_left (hlt i g hg)];exact hi.bufdom i g hg
     bufle:=fun i g hg=>by
      rcases hbuf i g hg with⟨rfl,rfl⟩|hg
      ·exact⟨by show str.data.toList.length<=c;omega,fun h=>by cases h⟩
      ·exact hi.bufle i g hg
     bufat:=fun i g b o hg hs=>by
      rcases hbuf i g hg with⟨rfl,rfl⟩|hg
      ·obtain⟨rfl,s2,s3⟩:=hspn b o hs;refine⟨?_,?_⟩
       ·show((Lib.bytesWorld σ.w e str).cell? _).isSome=true;rw[a16 hnew];simp[hsz,s3]
       ·show(Lib.bytesWorld σ.w e str).frozen? _=false;simp only[World.frozen?,hnew,hsz];simp;omega
      ·have hb:=hslt i g b o hg hs;obtain⟨k1,k2⟩:=hi.bufat i g b o hg hs;exact⟨by rw[U4 (hp.old b hb)];exact k1,by rw[b3m (hp.old b hb)];exact k2⟩
     bufinj:=fun i j g g' b o hg hg' h1 h2=>by
      rcases hbuf i g hg with⟨rfl,rfl⟩|hg2<;>rcases hbuf j g' hg' with⟨rfl,rfl⟩|hg3
      ·rfl
      ·have:=(hspn b o h1).1;have:=hslt j g' b o hg3 h2;omega
      ·have:=(hspn b o h2).1;have:=hslt i g b o hg2 h1;omega
      ·exact hi.bufinj i j g g' b o hg2 hg3 h1 h2
     bufblk:=fun i g m b o hg hs hm=>by
      rcases hbuf i g hg with⟨rfl,rfl⟩|hg
      ·have:=(hspn b o hs).1;have:=hblt m b hm;omega
      ·exact hi.bufblk i g m b o hg hs hm
     outer:=fun b o ho=>⟨Nat.lt_of_lt_of_le (hi.outer b o ho).1 hp.size,fun hx=>(hi.outer b o ho).2 (hown b o (hi.outer b o ho).1 hx)⟩
     glob:=fun g cells hg=>(hi.glob g cells hg).mono hle}
   ·have hlies:e8z σ' σ.w.heap.size 0 (str.data.toList.map fun b=>Value.int .u8 b.toNat):=by
     intro k v hk
     have hlt':k<str.size:=by
      have:=(List.getElem?_eq_some_iff.1 hk).1;simpa using this
     refine⟨?_,?_⟩
     ·show(Lib.bytesWorld σ.w e str).cell? _=some v;rw[a16 hnew,Nat.zero_add];unfold Lib.bytesCells;rw[Array.getElem?_append_left (by simpa using hlt')];simpa[<-Array.getElem?_toList]using hk
     ·rintro (hx|hx)
      ·have:=(hi.outer _ _ hx).1;omega
      ·rcases hx with⟨m,hm⟩|⟨i,g,hg,hs⟩
       ·have:=hblt m _ hm;omega
       ·rcases hbuf i g hg with⟨rfl,rfl⟩|hg
        ·have:=(hspn _ _ hs).2.1;omega
        ·have:=hslt i g _ _ hg hs;omega
    have:=f1z (σ:=σ') (tok:=.own h.bufs.length) (cap:=c) (d7n str.data.toList) (c2v σ' str.data.toList) hlies (by rw[a39];omega) ⟨f,if_pos rfl,by rw[a39];exact Nat.le_refl _,fun _=>⟨rfl,rfl⟩⟩ (fun i g hid hg=>by
     cases hid;have:σ'.buf h.bufs.length=some f:=if_pos rfl;rw[this]at hg;cases hg;rfl)
    rw[a39,hll]at this;exact this
  ·cases hb
 ·cases hb
set_option maxHeartbeats 4000000 in
theorem e2y{o:Oper}{ao:AOp}(hc:c63 P o=some ao)(hs:St σ h env N a)(hd:∀d,o.dst=some d->d<N){K:AV->A4->Prop}(hk:aop P ao env h K)(Q:Exit->Act->World->Prop):
  o.wp P a σ.w (e26 σ N env o.dst K) Q:=by
 obtain⟨dst,op,type,pos,after,guard⟩:=o;have he:=hs.env;cases op<;>simp only[c63]at hc<;>(try (cases hc;done))
 case move x=>
  simp only[Option.map_eq_some_iff]at hc;obtain⟨y,hy,rfl⟩:=hc;obtain⟨av,hr,hk⟩:=opd he hy hk;exact Q0 (σ':=σ) hs hd (by simp[execOp]) (Le.refl σ) hs.inv hr hk Q
 case assign x=>
  simp only[Option.map_eq_some_iff]at hc;obtain⟨y,hy,rfl⟩:=hc;obtain⟨av,hr,hk⟩:=opd he hy hk;exact Q0 (σ':=σ) hs hd (by simp[execOp]) (Le.refl σ) hs.inv hr hk Q
 case pick c x y=>
  simp only[Option.bind_eq_some_iff,Option.map_eq_some_iff]at hc;obtain⟨c',hc',x',hx,y',hy,rfl⟩:=hc;obtain⟨cv,hr,hk⟩:=opd he hc' hk;unfold c6n at hk;split at hk
  ·rename_i t;generalize hce:a.eval c=ce at hr;cases hr with
   |v _ _=>
   cases t with
   |true=>
    obtain⟨av,hr,hk⟩:=opd he hx (hk.1 rfl);exact Q0 (σ':=σ) hs hd (by simp[execOp,hce,asBool]) (Le.refl σ) hs.inv hr hk Q
   |false=>
    obtain⟨av,hr,hk⟩:=opd he hy (hk.2 rfl);exact Q0 (σ':=σ) hs hd (by simp[execOp,hce,asBool]) (Le.refl σ) hs.inv hr hk Q
  ·exact hk.elim
 case alloc e=>
  simp only[Option.bind_eq_some_iff,Option.map_eq_some_iff]at hc;obtain⟨z,hz,zs,hzs,rfl⟩:=hc;obtain⟨σ',g1,g2,g3,g4⟩:=d4j hs.inv (a5z (σ:=σ) hzs) e;refine Q0 (σ':=σ') hs hd ?_ g2 g3 g4 hk Q;rw[g1];simp[execOp,Instr.alloc,b4r hz,newVar,newRow]
 case box e x=>
  simp only[Option.map_eq_some_iff]at hc;obtain⟨y,hy,rfl⟩:=hc;obtain⟨av,hr,ht,hk⟩:=opd he hy hk;obtain⟨σ',g1,g2,g3,g4⟩:=d4j hs.inv (hr.cells (fun vs h=>by subst h;simp[AV.isTuple]at ht)) e;refine Q0 (σ':=σ') hs hd ?_ g2 g3 g4 hk Q;rw[g1];simp[execOp,Instr.box,newVar,newRow]
 case build t parts=>
  split at hc
  ·rename_i fs hu;split at hc
   ·rename_i hall;simp only[Option.bind_eq_some_iff,Option.map_eq_some_iff]at hc;obtain⟨z,hz,zs,hzs,ps,hps,rfl⟩:=hc;simp only[aop]at hk;split at hk
    ·rename_i pv hpv;split at hk
     ·rename_i cells hf;obtain⟨q1,q2⟩:=c8d he hps hpv;have hpl:=e3v (P:=P) fs.toList (fun f hf=>by simpa using (List.all_eq_true.1 hall) f hf) σ.w
      obtain⟨cs,g1,g2⟩:=c8b (σ:=σ) (fun i=>(fs.toList.map fun f=>(f.offset,((P.info? f.type).map (·.size)).getD 0)).toArray[i]?) (parts.toList.map fun(i,x)=>(i,a.eval x)) pv zs z.cells cells (a5z hzs) q1 (fun i b hb=>by
       obtain⟨k,x,e1,e2,e3⟩:=q2 i b hb;refine⟨k,x,e1,?_,e3⟩;simp only[f15,Option.bind_eq_some_iff,Option.map_eq_some_iff]at e2;obtain⟨f,hf,fi,hfi,e4⟩:=e2;rw[<-e4];simp[hf,hfi]) hf
      refine Q0 (σ':=σ) hs hd ?_ (Le.refl σ) hs.inv (Rel.agg_mk' g2) hk Q;simp only[execOp,Instr.build,Sem.run_bind,b4r hz,Result.andThen_ok,run_underlying hu]
      have:(fs.mapM fun f=>(do pure (f.offset,<-sizeOf f.type):Sem (Nat × Nat))).run P σ.w=.ok (fs.toList.map fun f=>(f.offset,((P.info? f.type).map (·.size)).getD 0)).toArray σ.w:=by
       rw[Array.mapM_eq_mapM_toList];simp only[Sem.run_map,hpl,Result.andThen_ok]
      rw[this];simp only[Result.andThen_ok,Array.toList_map];rw[g1];simp
     ·exact hk.elim
    ·exact hk.elim
   ·cases hc
  ·rename_i n e hu;simp only[Option.bind_eq_some_iff,Option.map_eq_some_iff]at hc;obtain⟨ie,hie,z,hz,zs,hzs,ps,hps,rfl⟩:=hc;simp only[aop]at hk;split at hk
   ·rename_i pv hpv;split at hk
    ·rename_i cells hf;obtain⟨q1,q2⟩:=c8d he hps hpv;obtain⟨cs,g1,g2⟩:=c8b (σ:=σ) (fun i=>some (i*ie.size,ie.size)) (parts.toList.map fun(i,x)=>(i,a.eval x)) pv zs z.cells cells (a5z hzs) q1 q2 hf;refine Q0 (σ':=σ) hs hd ?_ (Le.refl σ) hs.inv (Rel.agg_mk' g2) hk Q;simp[execOp,Instr.build,b4r hz,run_underlying hu,sizeOf,typeInfo,hie,g1]
    ·exact hk.elim
   ·exact hk.elim
  ·cases hc
 case buildSlice t len parts=>
  split at hc
  ·rename_i e hu;simp only[Option.bind_eq_some_iff]at hc;obtain⟨ie,hie,z,hz,zs,hzs,ps,hps,hc⟩:=hc;split at hc
   ·rename_i hcond;obtain⟨c1,c2,c3⟩:=hcond;cases hc;simp only[aop]at hk;split at hk
    ·rename_i pv hpv;split at hk
     ·rename_i cells hf;obtain⟨hlen,hk⟩:=hk;obtain⟨q1,q2⟩:=c8d he hps hpv
      obtain⟨σ',z',g1,g2,g3,g4⟩:=d8v (P:=P) (t:=t) hs.inv hu hie (b6n hz hie) c1 (b6o (a5z (σ:=σ) hzs) c2 c3) q1 (fun i b hb=>by
       obtain⟨k,x,e1,e2,e3⟩:=q2 i b hb;exact⟨k,x,e1,by simpa using e2,e3⟩) hf hlen
      refine Q0 (σ':=σ') hs hd ?_ g2 g3 g4 hk Q;have:(parts.map fun(i,x)=>(i,a.eval x))=(parts.toList.map fun(i,x)=>(i,a.eval x)).toArray:=by apply Array.ext';simp
      simp only[execOp,this,Sem.run_bind,g1,Result.andThen_ok,Sem.run_pure]
     ·exact hk.elim
    ·exact hk.elim
   ·cases hc
  ·cases hc
 case range t x=>
  split at hc
  ·rename_i hu;simp only[Option.map_eq_some_iff]at hc;obtain⟨y,hy,rfl⟩:=hc;obtain⟨av,hr,hk⟩:=opd he hy hk;unfold e5s at hk;split at hk
   ·rename_i s;generalize hxe:a.eval x=xe at hr;cases hr with
    |v _ _=>
    obtain⟨σ',g1,g2,g3,g4⟩:=c28 hs.inv (cells:=[.it s 0]) (.stringIter s 0) fun σ' _ hb=>.it s 0 hb
    refine Q0 (σ':=σ') hs hd ?_ g2 g3 g4 hk Q;rw[g1];simp[execOp,hxe,Instr.range,run_underlying hu,run_newObj]
   ·exact hk.elim
  ·cases hc
 case next x st=>
  split at hc
  ·rename_i hst;subst hst;simp only[Option.map_eq_some_iff]at hc;obtain⟨y,hy,rfl⟩:=hc;obtain⟨av,hr,hk⟩:=opd he hy hk;unfold c6u at hk;split at hk
   ·rename_i n;split at hk
    ·rename_i s p hcs;generalize hxe:a.eval x=xe at hr;cases hr with
     |ptr _ _ b hb=>
     obtain⟨b',hb',hbk⟩:=hs.inv.blk n _ hcs;rw[hb]at hb';cases hb';have hit:=hbk.iter
     by_cases hp:p<s.size
     ·have hlt:=hbk.lt;obtain⟨hle,hinv⟩:=f0z (cells':=[.it s (p+(Utf8.decode s p).2)]) (w':={σ.w with heap:=σ.w.heap.setIfInBounds b (.stringIter s (p+(Utf8.decode s p).2))}) hs.inv hb hcs (by simp) (by simp) (fun i hi=>by simp[Array.getElem?_setIfInBounds_ne (Ne.symm hi)]) rfl rfl rfl (fun o ho=>by simp[World.cell?,hit]at ho) (fun _=>.it _ _ (by simp[hlt])) (fun hz=>by cases hz with|cells _ cs rest elem hh _=>rw[hit]at hh;cases hh) (by simp);refine Q0 (σ':={σ with w:={σ.w with heap:=σ.w.heap.setIfInBounds b (.stringIter s (p+(Utf8.decode s p).2))}}) hs hd ?_ hle hinv (Rel.tuple_mk (xs:=#[.bool true,goInt p,.int .i32 (Utf8.decode s p).1]) (by simp) ?_) (hk.1 hp) Q
      ·have hrun:(Instr.next (.pointer (some ⟨b,0,none⟩)) true type).run P σ.w=.ok (.tuple #[.bool true,goInt p,.int .i32 (Utf8.decode s p).1]) {σ.w with heap:=σ.w.heap.setIfInBounds b (.stringIter s (p+(Utf8.decode s p).2))}:=by
        simp only[Instr.next,getObj,setObj,Sem.run_bind,Sem.run,hit,Result.andThen,hp,if_true];simp[hlt]
       simp only[execOp,hxe,Sem.run_bind,hrun,Result.andThen_ok,Sem.run_pure]
      ·intro i av hi
       match i with
       |0=>simp at hi;subst hi;exact⟨_,rfl,.v _ rfl⟩
       |1=>simp at hi;subst hi;exact⟨_,rfl,.v _ rfl⟩
       |2=>simp at hi;subst hi;exact⟨_,rfl,.v _ rfl⟩
       |k+3=>simp at hi
     ·refine Q0 (σ':=σ) hs hd ?_ (Le.refl σ) hs.inv (Rel.tuple_mk (xs:=#[.bool false]) (by simp) ?_) (hk.2 hp) Q
      ·have hrun:(Instr.next (.pointer (some ⟨b,0,none⟩)) true type).run P σ.w=.ok (.tuple #[.bool false]) σ.w:=by
        simp only[Instr.next,getObj,setObj,Sem.run_bind,Sem.run,hit,Result.andThen,hp,if_false]
        try rfl
       simp only[execOp,hxe,Sem.run_bind,hrun,Result.andThen_ok,Sem.run_pure]
      ·intro i av hi
       match i with
       |0=>simp at hi;subst hi;exact⟨_,rfl,.v _ rfl⟩
       |k+1=>simp at hi
    ·exact hk.elim
   ·exact hk.elim
  ·cases hc
 case makeSlice t x y=>
  split at hc
  ·rename_i e hu;simp only[Option.bind_eq_some_iff]at hc;obtain⟨ie,hie,z,hz,zs,hzs,hc⟩:=hc;split at hc
   ·rename_i hcond;obtain⟨c2,c3,c4⟩:=hcond;simp only[Option.bind_eq_some_iff,Option.map_eq_some_iff]at hc;obtain⟨x',hx,y',hy,rfl⟩:=hc;obtain⟨xv,hxr,hk⟩:=opd he hx hk;obtain⟨yv,hyr,hk⟩:=opd he hy hk;obtain⟨σ',av,h',z',g1,g2,g3,g4,g5⟩:=g0k (P:=P) (t:=t) hs.inv hu hie (b6n hz hie) (a5z (σ:=σ) hzs) c2 c3 c4 hxr hyr hk;refine Q0 (σ':=σ') hs hd ?_ g2 g3 g4 g5 Q;simp only[execOp,Sem.run_bind,g1,Result.andThen_ok,Sem.run_pure]
   ·cases hc
  ·cases hc
 case load t x=>
  simp only[Option.bind_eq_some_iff,Option.map_eq_some_iff]at hc;obtain⟨n,hn,y,hy,rfl⟩:=hc;obtain⟨av,hr,hk⟩:=opd he hy hk;exact a1d hs hd rfl (e5t (P:=P) hs.inv hn hr hk) Q
 case store t p x=>
  split at hc
  ·rename_i hdn;have hdn':dst=none:=hdn;subst hdn';simp only[Option.bind_eq_some_iff,Option.map_eq_some_iff]at hc;obtain⟨n,⟨ti,hti,rfl⟩,p',hp,x',hx,rfl⟩:=hc;obtain⟨pv,hpr,hk⟩:=opd he hp hk;obtain⟨xv,hxr,hk⟩:=opd he hx hk;obtain⟨σ',h',g1,g2,g3,g4⟩:=f1d (P:=P) (t:=t) hs.inv (by rw[hti];rfl) hpr hxr hk;unfold Oper.wp;rw[show(execOp a.eval ⟨none,.store t p x,type,pos,after,guard⟩).run P σ.w=.ok .skip σ'.w by simp[execOp,g1]];exact⟨σ',h',_,rfl,g2,⟨g3,hs.env.mono g2,hs.size,hs.defers⟩,g4⟩
  ·cases hc
 case nilCheck x=>
  simp only[Option.map_eq_some_iff]at hc;obtain⟨y,hy,rfl⟩:=hc;obtain⟨av,hr,hk⟩:=opd he hy hk;generalize hxe:a.eval x=xe at hr;unfold f81 at hk;split at hk
  ·have hr0:=hr;cases hr with
   |ptr _ _ b hb=>exact Q0 (σ':=σ) hs hd (by simp[execOp,hxe]) (Le.refl σ) hs.inv hr0 hk Q
  ·have hr0:=hr;cases hr with
   |elt _ _ b o xs q1 q2=>exact Q0 (σ':=σ) hs hd (by simp[execOp,hxe]) (Le.refl σ) hs.inv hr0 hk Q
  ·have hr0:=hr;cases hr with
   |clo _ _ _ fs cs q1 q2 x y q3 q4 q5 q6=>exact Q0 (σ':=σ) hs hd (by simp[execOp,hxe]) (Le.refl σ) hs.inv hr0 hk Q
  ·exact hk.elim
 case binOp op t x y u=>
  split at hc
  ·rename_i c hcu;split at hc
   ·rename_i hcond;obtain⟨hop,hif⟩:=hcond;simp only[Option.bind_eq_some_iff,Option.map_eq_some_iff]at hc;obtain⟨x',hx,y',hy,rfl⟩:=hc;obtain⟨xv,hxr,hk⟩:=opd he hx hk;obtain⟨yv,hyr,hk⟩:=opd he hy hk;obtain⟨b,k1,k2⟩:=f3s (P:=P) hcu hxr hyr hk x y hif op hop;refine Q0 (σ':=σ) (z:=.bool (if op=.eql then b else !b)) hs hd ?_ (Le.refl σ) hs.inv (.v _ rfl) ?_ Q
    ·simp only[execOp];rw[Sem.run_bind,k2];rfl
    ·by_cases hop2:op=.eql
     ·simpa[hop2]using k1
     ·simpa[hop2]using k1
   ·cases hc
  ·simp only[Option.bind_eq_some_iff,Option.map_eq_some_iff]at hc;obtain⟨x',hx,y',hy,rfl⟩:=hc;obtain⟨xv,hxr,hk⟩:=opd he hx hk;obtain⟨yv,hyr,hk⟩:=opd he hy hk;exact a1d hs hd rfl (f14 (P:=P) hxr hyr hk t x y) Q
 case unOp op t x=>
  simp only[Option.map_eq_some_iff]at hc;obtain⟨y,hy,rfl⟩:=hc;obtain⟨av,hr,hk⟩:=opd he hy hk;exact a1d hs hd rfl (f2t (P:=P) hr hk) Q
 case convert s d x=>
  split at hc
  ·rename_i hb;simp only[Option.map_eq_some_iff]at hc;obtain⟨y,hy,rfl⟩:=hc;obtain⟨av,hr,hk⟩:=opd he hy hk;unfold d9r at hk;split at hk
   ·rename_i str;cases hxe:a.eval x<;>rw[hxe]at hr<;>(try (cases hr;done))
    cases hr;obtain⟨σ',z,g1,g2,g3,g4⟩:=f5i (P:=P) hs.inv hb str;exact Q0 (σ':=σ') hs hd (by simp[execOp,hxe,g1]) g2 g3 g4 hk Q
   ·exact hk.elim
  simp only[Option.bind_eq_some_iff,Option.map_eq_some_iff]at hc;obtain⟨c,hcc,y,hy,rfl⟩:=hc;obtain⟨av,hr,hk⟩:=opd he hy hk;exact a1d hs hd rfl (e93 (P:=P) hcc hr hk) Q
 case makeInterface t x=>
  split at hc
  ·cases hc
  ·rename_i d hu hni;simp only[Option.map_eq_some_iff]at hc;obtain⟨y,hy,rfl⟩:=hc;obtain⟨av,hr,hk⟩:=opd he hy hk;refine Q0 (σ':=σ) (z:=.iface t (a.eval x)) hs hd ?_ (Le.refl σ) hs.inv (.iface t av _ hr) hk Q
   have:(Instr.makeInterface t (a.eval x)).run P σ.w=.ok (.iface t (a.eval x)) σ.w:=by
    simp only[Instr.makeInterface,Sem.run_bind,run_underlying hni,Result.andThen_ok];cases d<;>first|rfl|exact absurd hni (hu _)
   simp[execOp,this]
  ·cases hc
 case makeFunc fn first captured=>
  simp only[Option.bind_eq_some_iff,Option.map_eq_some_iff]at hc;obtain⟨f,hf,c,hcc,rfl⟩:=hc;simp only[aop]at hk;split at hk
  ·rename_i fv cv hfv hcv;obtain⟨q1,q2⟩:=opds he hf hfv;obtain⟨q3,q4⟩:=opds he hcc hcv;refine Q0 (σ':=σ) (z:=.func fn (first.map a.eval) (captured.map a.eval)) hs hd (by simp[execOp,Instr.makeFunc]) (Le.refl σ) hs.inv (Rel.clo_mk (by simpa using q1) (by simpa using q3) (fun i av hi=>?_) (fun i av hi=>?_)) hk Q
   ·obtain⟨x,hx,hr⟩:=q2 i av hi;exact⟨x,by simpa using hx,hr⟩
   ·obtain⟨x,hx,hr⟩:=q4 i av hi;exact⟨x,by simpa using hx,hr⟩
  ·exact hk.elim
 case slice t x lo hi mx=>
  split at hc
  ·rename_i hu;split at hc
   ·rename_i hmx;simp only[Option.bind_eq_some_iff,Option.map_eq_some_iff]at hc;obtain⟨x',hx,lo',hlo,hi',hhi,rfl⟩:=hc;obtain⟨xv,hxr,hk⟩:=opd he hx hk;split at hk
    ·rename_i lv hv hlv hhv;have hm0:mx=none:=by simpa using hmx
     subst hm0;exact a1d hs hd rfl (e3p (P:=P) hu hxr (g0t he hlo hlv).1 (g0t he hhi hhv).1 hk) Q
    ·exact hk.elim
   ·cases hc
  ·rename_i e hu;split at hc
   ·rename_i hmx;simp only[Option.bind_eq_some_iff,Option.map_eq_some_iff]at hc;obtain⟨ie,hie,x',hx,lo',hlo,hi',hhi,mx',hmx',rfl⟩:=hc;obtain⟨xv,hxr,hk⟩:=opd he hx hk;split at hk
    ·rename_i lv hv mv hlv hhv hmv;refine a1d hs hd rfl (e4t (P:=P) hu hie hxr (g0t he hlo hlv).1 (g0t he hhi hhv).1 (g0t he hmx' hmv).1 hk ?_) Q;intro h1;have h2:=(g0t he hmx' hmv).2;have h3:=(g0t he hhi hhv).2;have h4:mv.isSome=true:=by cases mv<;>simp_all
     rw[h4]at h2;have:=hmx h2;rw[h3]at this;intro h5;rw[h5]at this;cases this
    ·exact hk.elim
   ·cases hc
  ·cases hc
 case fieldAddr t x f=>
  split at hc
  ·rename_i fs hu;simp only[Option.bind_eq_some_iff]at hc;obtain⟨fd,hfd,i,hi,hc⟩:=hc;split at hc
   ·rename_i hz;simp only[Option.map_eq_some_iff]at hc;obtain⟨y,hy,rfl⟩:=hc;obtain⟨av,hr,hk⟩:=opd he hy hk;exact a1d hs hd rfl (d7s (P:=P) hu hfd hi hz hr hk) Q
   ·cases hc
  ·cases hc
 case field t x f=>
  split at hc
  ·rename_i fs hu;simp only[Option.bind_eq_some_iff,Option.map_eq_some_iff]at hc;obtain⟨fd,hfd,n,hn,y,hy,rfl⟩:=hc;obtain⟨av,hr,hk⟩:=opd he hy hk;obtain⟨bv,z,xs,k1,k2,k3,k4⟩:=e7w (P:=P) hn hr hk σ.w;exact a1d hs hd rfl ⟨bv,z,k2,k3,by simp[Instr.field,run_underlying hu,hfd,k1,asAgg,k4]⟩ Q
  ·cases hc
 case indexAddr t x i=>
  split at hc
  ·rename_i e hu;simp only[Option.bind_eq_some_iff,Option.map_eq_some_iff]at hc;obtain⟨ie,hie,x',hx,i',hi,rfl⟩:=hc;obtain⟨xv,hxr,hk⟩:=opd he hx hk;obtain⟨iv,hir,hk⟩:=opd he hi hk;exact a1d hs hd rfl (e3x (P:=P) hu hie hxr hir hk) Q
  ·rename_i len e hu;simp only[Option.bind_eq_some_iff,Option.map_eq_some_iff]at hc;obtain⟨ie,hie,x',hx,i',hi,rfl⟩:=hc;obtain⟨xv,hxr,hk⟩:=opd he hx hk;obtain⟨iv,hir,hk⟩:=opd he hi hk;exact a1d hs hd rfl (d9y (P:=P) hu hie hxr hir hk) Q
  ·cases hc
 case index t x i=>
  split at hc
  ·rename_i hu;simp only[Option.bind_eq_some_iff,Option.map_eq_some_iff]at hc;obtain⟨x',hx,i',hi,rfl⟩:=hc;obtain⟨xv,hxr,hk⟩:=opd he hx hk;obtain⟨iv,hir,hk⟩:=opd he hi hk;exact a1d hs hd rfl (d8o (P:=P) hu hxr hir hk) Q
  ·rename_i len e hu;simp only[Option.bind_eq_some_iff,Option.map_eq_some_iff]at hc;obtain⟨ie,hie,n,hn,x',hx,i',hi,rfl⟩:=hc;obtain⟨xv,hxr,hk⟩:=opd he hx hk;obtain⟨iv,hir,hk⟩:=opd he hi hk;exact a1d hs hd rfl (d8m (P:=P) hu hie hn hxr hir hk) Q
  ·cases hc
 case typeAssert x xt t ok=>
  split at hc
  ·cases hc
  ·rename_i d hni hu;simp only[Option.bind_eq_some_iff,Option.map_eq_some_iff]at hc;obtain⟨z,hz,za,hza,y,hy,rfl⟩:=hc;obtain⟨av,hr,hk⟩:=opd he hy hk;exact a1d hs hd rfl (d8r (P:=P) hu (fun m hm=>hni m hm) (b4r hz σ.w) (e7j hza) hr hk) Q
  ·cases hc
 case extract x i=>
  simp only[Option.map_eq_some_iff]at hc;obtain⟨y,hy,rfl⟩:=hc;obtain⟨av,hr,hk⟩:=opd he hy hk;exact a1d hs hd rfl (d5s (P:=P) hr hk) Q
 case call c=>
  obtain⟨callee,args,argTypes⟩:=c;unfold d5h at hc;split at hc
  ·rename_i heq;have heq':callee=.builtin .len:=heq;subst heq';split at hc
   ·rename_i x t hxl htl;simp only[Option.bind_eq_some_iff,Option.map_eq_some_iff]at hc;obtain⟨s,hs1,y,hy,rfl⟩:=hc;obtain⟨av,hr,hk⟩:=opd he hy hk;have ha:args=#[x]:=by apply Array.ext';exact hxl
    have hb:argTypes=#[t]:=by apply Array.ext';exact htl
    subst ha hb;refine a1d hs hd ?_ (f0s (P:=P) (ty:=type) hs1 hr hk) Q;simp[execOp,resolve,invoke,builtin]
   ·cases hc
  ·rename_i heq;have heq':callee=.builtin .append:=heq;subst heq';split at hc
   ·rename_i x y t u hxl htl;have ha:args=#[x,y]:=by apply Array.ext';exact hxl
    have hb:argTypes=#[t,u]:=by apply Array.ext';exact htl
    subst ha hb
    have key:∀(e:TypeId) (du:TypeDesc),P.underlying t=some (.slice e)->P.underlying u=some du->((∃e,du=.slice e)\/du=.string)->
      (((P.info? e).bind fun ie=>(b69 P e).bind fun z=>if z.cells.size=ie.size/\ie.bytes≠0 then(b0f x).bind fun x=>(b0f y).map fun y=>AOp.append ie.size ie.bytes x y else none)=some ao)->
      Oper.wp P ⟨dst,.call ⟨.builtin .append,#[x,y],#[t,u]⟩,type,pos,after,guard⟩ a σ.w (e26 σ N env dst K) Q:=by
     intro e du hu1 hu2 hdu hc;simp only[Option.bind_eq_some_iff]at hc;obtain⟨ie,hie,z,hz,hc⟩:=hc;split at hc
     ·rename_i hcond;simp only[Option.bind_eq_some_iff,Option.map_eq_some_iff]at hc;obtain⟨x',hx,y',hy,rfl⟩:=hc;obtain⟨xv,hxr,hk⟩:=opd he hx hk;obtain⟨yv,hyr,hk⟩:=opd he hy hk;obtain⟨σ',h',av,z',g1,g2,g3,g4,g5⟩:=hk.elim (d8q (P:=P) (ty:=type) hs.inv hu1 hie (b6n hz hie) hcond.1 hcond.2 hu2 hdu hxr hyr) (d6f (P:=P) (ty:=type) hs.inv hu1 hie (b6n hz hie) hcond.1 hcond.2 hu2 hdu hxr hyr);exact Q0 (σ':=σ') hs hd (by simp[execOp,resolve,invoke,builtin,g1]) g2 g3 g4 g5 Q
     ·cases hc
    split at hc
    ·rename_i e e2 hu1 hu2;exact key e _ hu1 hu2 (.inl ⟨_,rfl⟩) hc
    ·rename_i e hu1 hu2;exact key e _ hu1 hu2 (.inr rfl) hc
    ·cases hc
   ·cases hc
  ·rename_i heq;have heq':callee=.builtin .min:=heq;subst heq';simp only[Option.map_eq_some_iff]at hc;obtain⟨l',hl,rfl⟩:=hc;simp only[aop]at hk;split at hk
   ·rename_i l hlv;unfold d8c at hk;split at hk
    ·rename_i v hv;obtain⟨q1,q2⟩:=g4v (P:=P) (xs:=args.map a.eval) hv (by simpa using opds he hl hlv) argTypes type σ.w;exact Q0 (σ':=σ) hs hd (by simp[execOp,resolve,invoke,builtin,q2]) (Le.refl σ) hs.inv (.v _ q1) hk Q
    ·exact hk.elim
   ·exact hk.elim
  ·rename_i heq;have heq':callee=.builtin .max:=heq;subst heq';simp only[Option.map_eq_some_iff]at hc;obtain⟨l',hl,rfl⟩:=hc;simp only[aop]at hk;split at hk
   ·rename_i l hlv;unfold d8c at hk;split at hk
    ·rename_i v hv;obtain⟨q1,q2⟩:=g58 (P:=P) (xs:=args.map a.eval) hv (by simpa using opds he hl hlv) argTypes type σ.w;exact Q0 (σ':=σ) hs hd (by simp[execOp,resolve,invoke,builtin,q2]) (Le.refl σ) hs.inv (.v _ q1) hk Q
    ·exact hk.elim
   ·exact hk.elim
  ·rename_i f heq;have heq':callee=.value f:=heq;subst heq';simp only[Option.bind_eq_some_iff,Option.map_eq_some_iff]at hc;obtain⟨f',hf,l',hl,rfl⟩:=hc;obtain⟨fv,hfr,hk⟩:=opd he hf hk;generalize hfe:a.eval f=fe at hfr;unfold d2k at hk;split at hk
   ·rename_i _ _ g first captured l hlv;obtain⟨fs,cs,rfl,q1,q2,q3,q4⟩:=hfr.clo_inv;obtain⟨⟨fn,hfn,hbody,hname⟩,hcall⟩:=hk
    have hrels:c79 σ (first++l++captured) ((fs++args.map a.eval)++cs).toList:=by
     simp only[Array.toList_append,Array.toList_map];refine c79.append (c79.append ⟨by simpa using q1,fun i av hi=>?_⟩ (opds he hl hlv)) ⟨by simpa using q2,fun i av hi=>?_⟩
     ·obtain⟨x,hx,hr⟩:=q3 i av hi;exact⟨x,by simpa using hx,hr⟩
     ·obtain⟨x,hx,hr⟩:=q4 i av hi;exact⟨x,by simpa using hx,hr⟩
    have hrun:(execOp a.eval ⟨dst,.call ⟨.value f,args,argTypes⟩,type,pos,after,guard⟩).run P σ.w=.ok (.enter g ((fs++args.map a.eval)++cs)) σ.w:=by
     have hname':fn.name≠ "runtime.NumGoroutine":=by simpa using hname
     have hbody':fn.body≠none:=by intro hb;rw[hb]at hbody;cases hbody
     simp[execOp,resolve,hfe,Deferred.ofValue,invoke,callFunc,hfn,hbody',hname']
    unfold Oper.wp;rw[hrun,Oper.upon_enter];refine(hcall σ _ hs.inv hrels).mono fun e w' hq=>?_
    obtain⟨σ',h',av,x,rfl,rfl,g2,g3,g4,g5⟩:=hq;exact⟨σ',h',av,rfl,g2,hs.put g2 g3 hd g4,g5⟩
   ·exact hk.elim
  ·cases hc
end
structure C4 where
 dst:Option Nat
 op:AOp
 guard:Option (Nat × Bool)
def b5x(env:Env):Option Tmp->Env
 |some d=>(d,.tuple [])::env
 |none=>env
def c5a(env:Env)(g:Option (Tmp × Bool))(yes no:Prop):Prop:=
 match g with
 |none=>yes
 |some (t,want)=>wv (get env t) fun v=>match v with
  |.v (.bool b)=>(b=want->yes)/\(b= !want->no)
  |.tuple []=>no
  |_=>False
def d8i(P:Program):List C4->Env->A4->(Env->A4->Prop)->Prop
 |[],env,h,K=>K env h
 |o::r,env,h,K=>c5a env o.guard (aop P o.op env h fun av h'=>d8i P r (b37 env o.dst av) h' K) (d8i P r (b5x env o.dst) h K)
inductive O6 where
 |skip
 |region (ops:List C4)
 |drawn (ord:List (List Nat)) (quiet tail:List C4)
 |seq (a b:O6)
 |cond (c:K0) (a b:O6)
 |block (id:Nat) (a:O6)
 |loop (a:O6)
 |exit (id:Nat)
 |ret
 |scope (a:O6)
 |label (l:Nat)
 |goto (l:Nat)
 |from_ (a:O6) (l:Nat)
def g2f(N:Nat):Option Tmp->Bool
 |some d=>decide (d<N)
 |none=>true
theorem d49{N:Nat}{o:Option Tmp}(h:g2f N o=true):∀d,o=some d->d<N:=by
 rintro d rfl;simpa[g2f]using h
def c2q(P:Program)(N:Nat)(ops:Array Oper)(o:Oper):Option C4:=
 (c63 P o).bind fun ao=>
 if g2f N o.dst then
  match o.guard with
  |none=>some ⟨o.dst,ao,none⟩
  |some (j,b)=>((ops[j]?).bind (·.dst)).map fun t=>⟨o.dst,ao,some (t,b)⟩
 else none
def a33(P:Program)(N:Nat)(ops:Array Oper):List Oper->Option (List C4)
 |[]=>some []
 |o::r=>(c2q P N ops o).bind fun a=>(a33 P N ops r).map fun l=>a::l
section
variable {P:Program}{σ:Sg}{h:A4}{env:Env}{N:Nat}{a:Act}
theorem a3y.drop{tmps:Array Value}(he:a3y σ env tmps)(d:Nat)(x:Value):a3y σ (Lift.drop d env) (tmps.setIfInBounds d x):=by
 intro t av hg;obtain⟨h1,h2⟩:=f3r d t env av hg;obtain⟨y,h3,h4⟩:=he t av h2;exact⟨y,by rw[Array.getElem?_setIfInBounds_ne (Ne.symm h1)];exact h3,h4⟩
theorem e7q:Rel σ (.tuple []) undef:=Rel.tuple_mk rfl fun i av hi=>by simp at hi
theorem St.skipped(hs:St σ h env N a)(dst:Option Tmp)(hd:∀d,dst=some d->d<N):St σ h (b5x env dst) N (a.put dst undef):=by
 cases dst with
 |none=>exact hs
 |some d=>exact⟨hs.inv,hs.env.put (by rw[hs.size];exact hd d rfl) e7q,by show(a.tmps.setIfInBounds d undef).size=N;simp[hs.size],hs.defers⟩
theorem b82{ops:Array Oper}{j:Nat}{t:Tmp}(hj:(ops[j]?).bind (·.dst)=some t)(he:a3y σ env a.tmps)(hg:get env t=some (.tuple [])):yielded ops a.tmps j=none:=by
 obtain⟨x,h1,h2⟩:=he t _ hg;obtain⟨xs,rfl,_⟩:=h2.tuple_inv;simp[yielded,hj,h1]
theorem c53{ops:Array Oper}{j:Nat}{t:Tmp}(hj:(ops[j]?).bind (·.dst)=some t){b:Bool}(he:a3y σ env a.tmps)(hg:get env t=some (.v (.bool b))):yielded ops a.tmps j=some b:=by
 obtain⟨x,h1,h2⟩:=he t _ hg;cases h2;simp[yielded,hj,h1]
def b7e(σ:Sg)(N:Nat)(Q:Exit->Env->A4->Prop)(e:Exit)(a':Act)(w':World):Prop:=
 (match e with|.panic _|.outgrown=>False|_=>True)/\∃σ' h' env',σ'.w=w'/\Le σ σ'/\St σ' h' env' N a'/\Q e env' h'
theorem b1l{ops:Array Oper}{Q:Exit->Act->World->Prop}{σ₀:Sg}{K:Env->A4->Prop}(hQ:∀σ h env a,Le σ₀ σ->St σ h env N a->K env h->Q .normal a σ.w):
  ∀(l:List Oper) (k:Nat) (al:List C4) (σ:Sg) (h:A4) (env:Env) (a:Act),(∀j,j<l.length->l[j]? =ops[k+j]?)->a33 P N ops l=some al->Le σ₀ σ->St σ h env N a->d8i P al env h K->
   wpOps P ops Q ((List.range' k l.length)) a σ.w
 |[],k,al,σ,h,env,a,_,hc,hle,hs,hv=>by
  simp only[a33,Option.some.injEq]at hc;subst hc;exact hQ σ h env a hle hs hv
 |o::l,k,al,σ,h,env,a,hl,hc,hle,hs,hv=>by
  simp only[a33,Option.bind_eq_some_iff,Option.map_eq_some_iff]at hc;obtain⟨ao,hao,al',hal,rfl⟩:=hc;have h0:=hl 0 (by simp);simp only[List.getElem?_cons_zero,Nat.add_zero]at h0
  have hrest:∀j,j<l.length->l[j]? =ops[k+1+j]? :=by
   intro j hj;have:=hl (j+1) (by simp;omega);simp only[List.getElem?_cons_succ]at this;rw[this];congr 1;omega
  simp only[List.length_cons,List.range'_succ];rw[wpOps_cons];unfold wpOp;rw[<-h0];simp only;simp only[c2q,Option.bind_eq_some_iff]at hao;obtain⟨op',hop,hao⟩:=hao;split at hao
  ·rename_i hdst;have hd:=d49 hdst
   have run:∀(ao:C4),ao.dst=o.dst->ao.op=op'->aop P ao.op env h (fun av h'=>d8i P al' (b37 env ao.dst av) h' K)->o.wp P a σ.w (wpOps P ops Q (List.range' (k+1) l.length)) Q:=by
    intro ao h1 h2 h3;refine Oper.wp_mono (fun a' w' hb=>?_) (e2y hop hs hd (h2▸h3) Q);obtain⟨σ',h',av,rfl,q1,q2,q3⟩:=hb;rw[h1]at q3;exact b1l hQ l (k+1) al' σ' h' _ a' hrest hal (hle.trans q1) q2 q3
   split at hao
   ·rename_i hg;cases hao;have hw:Region.wanted o (yielded ops a.tmps)=true:=by simp[Region.wanted,hg]
    rw[if_pos hw];exact .inl (run _ rfl rfl hv)
   ·rename_i j b hg;simp only[Option.map_eq_some_iff]at hao;obtain⟨t,ht,rfl⟩:=hao;simp only[d8i,c5a]at hv;obtain⟨v,hget,hv⟩:=b6d hv;split at hv
    ·rename_i c;have hy:=c53 ht hs.env hget
     by_cases hcb:c=b
     ·have hw:Region.wanted o (yielded ops a.tmps)=true:=by simp[Region.wanted,hg,hy,hcb]
      rw[if_pos hw];exact .inl (run ⟨o.dst,op',some (t,b)⟩ rfl rfl (hv.1 hcb))
     ·have hw:Region.wanted o (yielded ops a.tmps)=false:=by simp[Region.wanted,hg,hy,hcb]
      rw[hw];simp only[Bool.false_eq_true,if_false];exact b1l hQ l (k+1) al' σ h _ _ hrest hal hle (hs.skipped o.dst hd) (hv.2 (by cases c<;>cases b<;>simp_all))
    ·have hy:=b82 ht hs.env hget;have hw:Region.wanted o (yielded ops a.tmps)=false:=by simp[Region.wanted,hg,hy]
     rw[hw];simp only[Bool.false_eq_true,if_false];exact b1l hQ l (k+1) al' σ h _ _ hrest hal hle (hs.skipped o.dst hd) hv
    ·exact hv.elim
  ·cases hao
def AOp.opds:AOp->List K0
 |.mv x|.box x|.load _ x|.nilCheck x|.un _ x|.conv _ x|.iface _ x|.fieldAddr _ x|.field _ _ x|.assertT _ _ _ x|.extract _ x|.len _ x=>[x]
 |.pick c a b=>[c,a,b]
 |.alloc _=>[]
 |.build _ ps|.sliceLit _ _ _ ps=>ps.map (·.2)
 |.store _ x y|.bin _ x y|.eq _ _ x y|.idxS x y|.idxV _ _ _ x y|.idxSl _ x y|.idxA _ _ x y|.append _ _ x y=>[x,y]
 |.func _ f c=>f++c
 |.sliceS x lo hi=>x::(lo.toList++hi.toList)
 |.sliceV _ x lo hi mx=>x::(lo.toList++hi.toList++mx.toList)
 |.call f l=>f::l
 |.bytes x=>[x]
 |.make _ _ _ x y=>[x,y]
 |.minmax _ l=>l
 |.range x|.next x=>[x]
theorem b88{e1 e2:Env}:∀{l:List K0},(∀x∈l,x.ev e1=x.ev e2)->evs e1 l=evs e2 l
 |[],_=>rfl
 |x::l,h=>by simp only[evs];rw[h x (by simp),b88 (fun y hy=>h y (by simp[hy]))]
theorem c9f{e1 e2:Env}:∀{l:List ((Nat × Nat) × K0)},(∀x∈l.map (·.2),x.ev e1=x.ev e2)->evp e1 l=evp e2 l
 |[],_=>rfl
 |(k,x)::l,h=>by simp only[evp];rw[h x (by simp),c9f (fun y hy=>h y (by simp at hy ⊢;exact .inr hy))]
theorem b7y{e1 e2:Env}{x:Option K0}(h:∀y∈x.toList,y.ev e1=y.ev e2):evo e1 x=evo e2 x:=by
 cases x with
 |none=>rfl
 |some x=>simp only[evo];rw[h x (by simp)]
theorem b5z{o:AOp}{e1 e2:Env}(h':∀x∈o.opds,x.ev e1=x.ev e2){K:AV->A4->Prop}:aop P o e1 h K=aop P o e2 h K:=by
 cases o<;>simp only[AOp.opds,List.mem_cons,List.not_mem_nil,or_false,forall_eq_or_imp,forall_eq,List.mem_append]at h'<;>simp only[aop]
 case mv=>rw[h']
 case box=>rw[h']
 case load=>rw[h']
 case nilCheck=>rw[h']
 case un=>rw[h']
 case conv=>rw[h']
 case iface=>rw[h']
 case fieldAddr=>rw[h']
 case field=>rw[h']
 case assertT=>rw[h']
 case extract=>rw[h']
 case len=>rw[h']
 case pick=>rw[h'.1,h'.2.1,h'.2.2]
 case build=>rw[c9f h']
 case sliceLit=>rw[c9f h']
 case store=>rw[h'.1,h'.2]
 case bin=>rw[h'.1,h'.2]
 case eq=>rw[h'.1,h'.2]
 case idxS=>rw[h'.1,h'.2]
 case idxV=>rw[h'.1,h'.2]
 case idxSl=>rw[h'.1,h'.2]
 case idxA=>rw[h'.1,h'.2]
 case append=>rw[h'.1,h'.2]
 case make=>rw[h'.1,h'.2]
 case func=>rw[b88 (fun x hx=>h' x (.inl hx)),b88 (fun x hx=>h' x (.inr hx))]
 case sliceS=>rw[h'.1,b7y (fun x hx=>h'.2 x (.inl hx)),b7y (fun x hx=>h'.2 x (.inr hx))]
 case sliceV=>rw[h'.1,b7y (fun x hx=>h'.2 x (.inl (.inl hx))),b7y (fun x hx=>h'.2 x (.inl (.inr hx))),b7y (fun x hx=>h'.2 x (.inr hx))]
 case call=>rw[h'.1,b88 h'.2]
 case bytes=>rw[h']
 case minmax=>rw[b88 h']
 case range=>rw[h']
 case next=>rw[h']
end
end Go.Proofs.YtidmmngcijapcaaGreat.Lift
