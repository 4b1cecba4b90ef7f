/- Part 1 of the texts that prove VerifyDepthEnd. -/
import Derived.Calls
import Derived.Below
import Derived.Room.Entries
import Derived.Deep.LoopGhost
import Derived.WalkKit
import Derived.WalkLawsBesides
import Derived.Laws.IdiomStrings
import Derived.Laws.IdiomCopy
import Derived.Laws.Append
import Derived.Lib.ConvBytes
import Derived.Lib.UnsafeStr
import Derived.Lib.MakeNoZero
import Derived.Laws.Externs
namespace Go.Proofs.YtlcmiciojnnlnaaGreatDoor.Lift
open Go.RowKit
set_option linter.unusedVariables false
set_option linter.unusedSimpArgs false
set_option linter.unnecessarySimpa false
set_option linter.unusedSectionVars false
set_option maxRecDepth 100000
theorem b43 {α β} {f : α → β} {o : Option α} {b : β} : Option.map f o = some b ↔ ∃ a, o = some a ∧ f a = b := Option.map_eq_some_iff
theorem b44 {α β} {o : Option α} {f : α → Option β} {b : β} : o.bind f = some b ↔ ∃ a, o = some a ∧ f a = some b := Option.bind_eq_some_iff
theorem b45 {p : Prop} [Decidable p] : (decide p = true) = p := decide_eq_true_eq
theorem b46 {p : Prop} [Decidable p] : decide p = false ↔ ¬ p := decide_eq_false_iff_not
theorem b47 (a b : Bool) : ((a && b) = true) = (a = true ∧ b = true) := Bool.and_eq_true a b
theorem b48 {α} {l : List α} {i : Nat} (h : i < l.length) : l[i]? = some l[i] := List.getElem?_eq_getElem h
theorem b49 {α} {l₁ l₂ : List α} {i : Nat} (h : i < l₁.length) : (l₁ ++ l₂)[i]? = l₁[i]? := List.getElem?_append_left h
theorem b5a {α} {l₁ l₂ : List α} {i : Nat} (h : l₁.length ≤ i) : (l₁ ++ l₂)[i]? = l₂[i - l₁.length]? := List.getElem?_append_right h
theorem b5b {α β} {f : α → β} {l : List α} {i : Nat} : (List.map f l)[i]? = Option.map f l[i]? := List.getElem?_map
theorem b5c {α} {i : Nat} {l : List α} (h : i < l.length) : l.drop i = l[i] :: l.drop (i + 1) := List.drop_eq_getElem_cons h
theorem b5d {α} {l : List α} {i : Nat} (h : l.length ≤ i) : l.drop i = [] := List.drop_eq_nil_of_le h
theorem b5e {α} {p : α → Bool} {l : List α} : l.all p = true ↔ ∀ x, x ∈ l → p x = true := List.all_eq_true
theorem b5f (b : Bool) : ((!b) = true) = (b = false) := Bool.not_eq_true' b
theorem b5g {α} {l : List α} {i : Nat} {a : α} (h : l[i]? = some a) : a ∈ l := List.mem_of_getElem? h
theorem b5h {n m : Nat} (h : Nat.ble n m = true) : n ≤ m := Nat.le_of_ble_eq_true h
theorem b5i {α} {a b : List α} : (a ++ b).length = a.length + b.length := List.length_append
theorem b5j {α} (a b : α) : (some a = some b) = (a = b) := Option.some.injEq a b
abbrev b5k := ByteArray
abbrev b5l (α : Type _) := List α
abbrev b5m (α : Type _) := Option α
abbrev b5n := Bool
inductive Tok where
 |no|full|own (id:Nat)
 deriving DecidableEq
inductive BK where
 |nil|own (id:Nat)|data (id:Nat)|raw (id n:Nat)
 deriving DecidableEq
inductive AV where
 |v (x:Value)
 |ptr (n off:Nat)
 |G6 (cells:List AV) (off:Nat)
 |nil
 |sl (els:List (List AV)) (tok:Tok)
 |agg (cells:List AV)
 |tuple (vs:List AV)
 |iface (t:TypeId) (x:AV)
 |clo (fn:Fn) (first captured:List AV)
 |F5 (n:Nat)
 |row (n off size len cap:Nat)
 |it (s:ByteArray) (pos:Nat)
 |mp (n:Nat)
 |bb (k:BK) (els:List (List AV)) (u:TypeId)
 |ps (n:Nat) (t:TypeId)
def AV.isCell:AV->b5n
 |.agg _|.tuple _|.it _ _=>false
 |_=>true
def Fh:Value->b5n
 |.bool _|.int _ _|.float _ _|.complex _ _ _|.string _|.pointer none|.map none|.chan none|.nilFunc|.nilIface=>true
 |_=>false
structure Buf where
 cur:Nat
 size:Nat
 at_:Option Addr
 cap:Nat
structure Sg where
 w:World
 blk:Nat->Option Nat
 buf:Nat->Option Buf
 outer:Nat->Nat->Prop
def Buf.spare(e:Buf)(b o:Nat):Prop:=∃a,e.at_=some a/\a.block=b/\a.off+e.cur*e.size<=o/\o<a.off+e.cap*e.size
def Buf.tail(e:Buf)(b o:Nat):Prop:=∃a,e.at_=some a/\a.block=b/\a.off+e.cur*e.size<=o/\e.cap≠0
theorem Buf.spare.tail{e:Buf}{b o:Nat}(h:e.spare b o):e.tail b o:=let ⟨a,h1,h2,h3,h4⟩:=h;⟨a,h1,h2,h3,λh0=>by rw[h0]at h4;omega⟩
def Sg.own(σ:Sg)(b o:Nat):Prop:=(∃n,σ.blk n=some b)\/∃id e,σ.buf id=some e/\e.tail b o
def Sg.open_(σ:Sg)(b o:Nat):Prop:=σ.outer b o\/σ.own b o
def BM(σ:Sg)(tok:Tok)(len:Nat)(a:b5m Addr)(cap:Nat):Prop:=
 match tok with
 |.no=>True
 |.full=>cap=len
 |.own id=>∃e,σ.buf id=some e/\len<=e.cur/\(e.cur=len->e.at_=a/\e.cap=cap)
def Gc(w:World)(u:TypeId)(a:b5m Addr)(cap:Nat):Prop:=∀ad,a=some ad->ad.off=0/\ad.spot=none/\cap≠0/\∃m,w.shape? ad.block=some (u,m)
inductive Rel(σ:Sg):AV->Value->Prop
 |v (x:Value) (h:Fh x):Rel σ (.v x) x
 |ptr (n off b:Nat) (h:σ.blk n=some b):Rel σ (.ptr n off) (.pointer (some ⟨b,off,none⟩))
 |G6 (cells:List AV) (off b o:Nat) (xs:Nat->Value)
  (hc:∀(i:Nat) (av:AV),cells[i]? =some av->σ.w.cell? ⟨b,o+i,none⟩=some (xs i)/\¬σ.open_ b (o+i)/\av.isCell=true)
  (hr:∀(i:Nat) (av:AV),cells[i]? =some av->Rel σ av (xs i)):Rel σ (.G6 cells off) (.pointer (some ⟨b,o+off,none⟩))
 |nil:Rel σ .nil (.slice none 0 0)
 |F5 (n:Nat):Rel σ (.F5 n) (.pointer (some ⟨n,0,none⟩))
 |mp (n b:Nat) (h:σ.blk n=some b):Rel σ (.mp n) (.map (some b))
 |CC (u:TypeId):Rel σ (.bb .nil [] u) (.slice none 0 0)
 |Ab (id:Nat) (els:List (List AV)) (u:TypeId) (a:Option Addr) (n cap:Nat) (h:Rel σ (.sl els (.own id)) (.slice a n cap)) (hu:Gc σ.w u a cap):Rel σ (.bb (.own id) els u) (.slice a n cap)
 |Em (id:Nat) (els:List (List AV)) (u:TypeId) (a p:Option Addr) (n cap:Nat) (h:Rel σ (.sl els (.own id)) (.slice a n cap)) (hu:Gc σ.w u a cap) (hp:els≠[]->p=a):Rel σ (.bb (.data id) els u) (.pointer p)
 |Fu (id n:Nat) (u:TypeId) (b cap:Nat) (hn:n<=cap) (h:∃e,σ.buf id=some e/\e.size=1/\(e.cur=0->e.at_=some ⟨b,0,none⟩/\e.cap=cap)) (hu:Gc σ.w u (some ⟨b,0,none⟩) cap):Rel σ (.bb (.raw id n) [] u) (.slice (some ⟨b,0,none⟩) n cap)
 |ps (n:Nat) (t:TypeId) (b:Nat) (p:Option Addr) (hb:σ.blk n=some b) (hs:σ.w.shape? b=some (t,2)) (hp:p=none\/p=some ⟨b,0,none⟩):Rel σ (.ps n t) (.pointer p)
 |row (n off size len capm b cap:Nat) (h:σ.blk n=some b) (hc:len<=cap) (hm:capm<=cap) (hx:∀o,o<off+cap*size->(σ.w.cell? ⟨b,o,none⟩).isSome):Rel σ (.row n off size len capm) (.slice (some ⟨b,off,none⟩) len cap)
 |sl0 (tok:Tok) (ht:BM σ tok 0 none 0):Rel σ (.sl [] tok) (.slice none 0 0)
 |L3 (tok:Tok) (a:Addr) (cap:Nat) (ht:BM σ tok 0 (some a) cap) (hc:tok=.no\/cap=0):Rel σ (.sl [] tok) (.slice (some a) 0 cap)
 |sl (els:List (List AV)) (tok:Tok) (b o cap size:Nat) (xs:Nat->Nat->Value)
  (hs:∀(i:Nat) (el:List AV),els[i]? =some el->el.length=size)
  (hcap:els.length<=cap)
  (ht:BM σ tok els.length (some ⟨b,o,none⟩) cap)
  (hz:∀id e,tok=.own id->σ.buf id=some e->e.size=size)
  (hc:∀(i:Nat) (el:List AV),els[i]? =some el->∀(j:Nat) (av:AV),el[j]? =some av->σ.w.cell? ⟨b,o+i*size+j,none⟩=some (xs i j)/\¬σ.open_ b (o+i*size+j)/\av.isCell=true)
  (hr:∀(i:Nat) (el:List AV),els[i]? =some el->∀(j:Nat) (av:AV),el[j]? =some av->Rel σ av (xs i j)):Rel σ (.sl els tok) (.slice (some ⟨b,o,none⟩) els.length cap)
 |agg (cells:List AV) (xs:Array Value) (hn:xs.size=cells.length) (hc:∀(i:Nat) (av:AV),cells[i]? =some av->av.isCell=true)
  (x:Nat->Value) (hx:∀(i:Nat) (av:AV),cells[i]? =some av->xs[i]? =some (x i)) (hr:∀(i:Nat) (av:AV),cells[i]? =some av->Rel σ av (x i)):Rel σ (.agg cells) (.agg xs)
 |tuple (vs:List AV) (xs:Array Value) (hn:xs.size=vs.length)
  (x:Nat->Value) (hx:∀(i:Nat) (av:AV),vs[i]? =some av->xs[i]? =some (x i)) (hr:∀(i:Nat) (av:AV),vs[i]? =some av->Rel σ av (x i)):Rel σ (.tuple vs) (.tuple xs)
 |iface (t:TypeId) (av:AV) (x:Value) (h:Rel σ av x):Rel σ (.iface t av) (.iface t x)
 |clo (fn:Fn) (first captured:List AV) (fs cs:Array Value) (hn:fs.size=first.length) (hm:cs.size=captured.length)
  (x y:Nat->Value) (hx:∀(i:Nat) (av:AV),first[i]? =some av->fs[i]? =some (x i)) (hy:∀(i:Nat) (av:AV),captured[i]? =some av->cs[i]? =some (y i))
  (hr:∀(i:Nat) (av:AV),first[i]? =some av->Rel σ av (x i)) (hq:∀(i:Nat) (av:AV),captured[i]? =some av->Rel σ av (y i)):Rel σ (.clo fn first captured) (.func fn fs cs)
structure Le(σ σ':Sg):Prop where
 blk:∀n b,σ.blk n=some b->σ'.blk n=some b
 buf:∀id e,σ.buf id=some e->∃e',σ'.buf id=some e'/\e.cur<=e'.cur/\e'.size=e.size/\(e'.cur=e.cur->e'=e)
 outer:σ'.outer=σ.outer
 cell:∀b o,b<σ.w.heap.size->¬σ.own b o->σ'.w.cell? ⟨b,o,none⟩=σ.w.cell? ⟨b,o,none⟩
 ext:∀b o,(σ.w.cell? ⟨b,o,none⟩).isSome->(σ'.w.cell? ⟨b,o,none⟩).isSome=true
 whole:∀b,b<σ.w.heap.size->(∀o,¬σ.own b o)->σ'.w.heap[b]? =σ.w.heap[b]?
 shape:∀b x,σ.w.shape? b=some x->σ'.w.shape? b=some x
 own:∀b o,b<σ.w.heap.size->σ'.own b o->σ.own b o
 size:σ.w.heap.size<=σ'.w.heap.size
 os:σ'.w.os=σ.w.os
 tape:σ'.w.tape=σ.w.tape
 output:σ'.w.output=σ.w.output
theorem Gc.mono{σ σ':Sg}{u:TypeId}{a:b5m Addr}{cap:Nat}(ht:Gc σ.w u a cap)(h:Le σ σ'):Gc σ'.w u a cap:=λad ha=>let ⟨h1,h2,h3,m,h4⟩:=ht ad ha;⟨h1,h2,h3,m,h.shape _ _ h4⟩
theorem Le.refl(σ:Sg):Le σ σ:=⟨λ_ _ h=>h,λ_ e h=>⟨e,h,Nat.le_refl _,rfl,λ_=>rfl⟩,rfl,λ_ _ _ _=>rfl,λ_ _ h=>h,λ_ _ _=>rfl,λ_ _ h=>h,λ_ _ _ h=>h,Nat.le_refl _,rfl,rfl,rfl⟩
theorem Le.trans{a b c:Sg}(h:Le a b)(k:Le b c):Le a c where
 blk n x hx:=k.blk n x (h.blk n x hx)
 buf id e he:=by
  obtain⟨e1,h1,h2,h3,h4⟩:=h.buf id e he;obtain⟨e2,k1,k2,k3,k4⟩:=k.buf id e1 h1;refine⟨e2,k1,Nat.le_trans h2 k2,k3.trans h3,λhc=>?_⟩;have h5:=h4 (by omega);subst h5;exact k4 hc
 outer:=k.outer.trans h.outer
 cell x o hx ho:=(k.cell x o (Nat.lt_of_lt_of_le hx h.size) (λhc=>ho (h.own x o hx hc))).trans (h.cell x o hx ho)
 ext x o hx:=k.ext x o (h.ext x o hx)
 whole x hx ho:=(k.whole x (Nat.lt_of_lt_of_le hx h.size) (λo hc=>ho o (h.own x o hx hc))).trans (h.whole x hx ho)
 shape b x hx:=k.shape b x (h.shape b x hx)
 own x o hx hc:=h.own x o hx (k.own x o (Nat.lt_of_lt_of_le hx h.size) hc)
 size:=Nat.le_trans h.size k.size
 os:=k.os.trans h.os
 tape:=k.tape.trans h.tape
 output:=k.output.trans h.output
theorem aO{w:World}{b o:Nat}{v:Value}(h:w.cell? ⟨b,o,none⟩=some v):b<w.heap.size:=by
 by_cases hb:b<w.heap.size
 ·exact hb
 ·simp[World.cell?,Array.getElem?_eq_none (Nat.le_of_not_lt hb)]at h
theorem Le.keeps{σ σ':Sg}(h:Le σ σ'){b o:Nat}{v:Value}(hc:σ.w.cell? ⟨b,o,none⟩=some v)(ho:¬σ.open_ b o):σ'.w.cell? ⟨b,o,none⟩=some v/\¬σ'.open_ b o:=by
 have hb:=aO hc;have hno:¬σ.own b o:=λh=>ho (.inr h)
 refine⟨(h.cell b o hb hno).trans hc,?_⟩;rintro (hx|hx)
 ·rw[h.outer]at hx;exact ho (.inl hx)
 ·exact hno (h.own b o hb hx)
theorem BM.mono{σ σ':Sg}(h:Le σ σ'){tok:Tok}{len:Nat}{a:b5m Addr}{cap:Nat}(ht:BM σ tok len a cap):BM σ' tok len a cap:=by
 cases tok with
 |no=>trivial
 |full=>exact ht
 |own id=>
  obtain⟨e,h1,h2,h3⟩:=ht;obtain⟨e',k1,k2,k3,k4⟩:=h.buf id e h1;refine⟨e',k1,by omega,λhc=>?_⟩;have:=k4 (by omega);subst this;exact h3 hc
theorem Rel.mono{σ σ':Sg}(h:Le σ σ'){av:AV}{x:Value}(hr:Rel σ av x):Rel σ' av x:=by
 induction hr with
 |v x hx=>exact .v x hx
 |ptr n off b hb=>exact .ptr n off b (h.blk n b hb)
 |G6 cells off b o xs hc _ ih=>exact .G6 cells off b o xs (λi av hi=>let ⟨a,c,d⟩:=hc i av hi;let ⟨a',c'⟩:=h.keeps a c;⟨a',c',d⟩) ih
 |nil=>exact .nil
 |F5 n=>exact .F5 n
 |mp n b hb=>exact .mp n b (h.blk n b hb)
 |CC u=>exact .CC u
 |Ab id els u a n cap _ hu ih=>exact .Ab id els u a n cap ih (hu.mono h)
 |Em id els u a p n cap _ hu hp ih=>exact .Em id els u a p n cap ih (hu.mono h) hp
 |ps n t b p hb hs hp=>exact .ps n t b p (h.blk n b hb) (h.shape b _ hs) hp
 |Fu id n u b cap hn he hu=>
  obtain⟨e,h1,h2,h3⟩:=he;obtain⟨e',k1,k2,k3,k4⟩:=h.buf id e h1;refine .Fu id n u b cap hn ⟨e',k1,k3.trans h2,λhc=>?_⟩ (hu.mono h);have:=k4 (by omega);subst this;exact h3 hc
 |row n off size len capm b cap hb hc hm hx=>exact .row n off size len capm b cap (h.blk n b hb) hc hm (λo ho=>h.ext b o (hx o ho))
 |sl0 tok ht=>exact .sl0 tok (ht.mono h)
 |L3 tok a cap ht hc=>exact .L3 tok a cap (ht.mono h) hc
 |sl els tok b o cap size xs hs hcap ht hz hc _ ih=>
  refine .sl els tok b o cap size xs hs hcap (ht.mono h) ?_ (λi el hi j av hj=>let ⟨a,c,d⟩:=hc i el hi j av hj;let ⟨a',c'⟩:=h.keeps a c;⟨a',c',d⟩) ih;intro id e' htk he';subst htk;obtain⟨e,h1,_⟩:=ht;obtain⟨e2,k1,_,k3,_⟩:=h.buf id e h1;rw[he']at k1;cases k1;exact k3.trans (hz id e rfl h1)
 |agg cells xs hn hc x hx _ ih=>exact .agg cells xs hn hc x hx ih
 |tuple vs xs hn x hx _ ih=>exact .tuple vs xs hn x hx ih
 |iface t av x _ ih=>exact .iface t av x ih
 |clo fn first captured fs cs hn hm x y hx hy _ _ ih1 ih2=>exact .clo fn first captured fs cs hn hm x y hx hy ih1 ih2
theorem Rel.notAgg{σ:Sg}{av:AV}{x:Value}(h:Rel σ av x)(hc:av.isCell=true):x.cells=#[x]/\(∀cs,x≠.agg cs)/\(∀cs,x≠.tuple cs):=by
 cases h<;>first|(simp[AV.isCell]at hc;done)|(refine⟨rfl,λ_=>by simp,λ_=>by simp⟩)|skip
 case v hx=>cases x<;>simp[Fh]at hx<;>exact⟨rfl,λ_=>by simp,λ_=>by simp⟩
structure A3 where
 A5:List (Option (List AV))
 A9:List (Nat × Nat)
 B0:List (Nat × List AV)
def D3(σ:Sg)(cells:b5l AV)(vs:b5l Value):Prop:=
 vs.length=cells.length/\∀(i:Nat) (av:AV),cells[i]? =some av->av.isCell=true/\∃x,vs[i]? =some x/\Rel σ av x
theorem D3.mono{σ σ':Sg}(h:Le σ σ'){cells:b5l AV}{vs:b5l Value}(hc:D3 σ cells vs):D3 σ' cells vs:=
 ⟨hc.1,λi av hi=>let ⟨a,x,b,c⟩:=hc.2 i av hi;⟨a,x,b,c.mono h⟩⟩
def AV.isIt:AV->b5n
 |.it _ _|.tuple _=>true
 |.v _|.ptr _ _|.G6 _ _|.nil|.sl _ _|.agg _|.iface _ _|.clo _ _ _|.F5 _|.row _ _ _ _ _|.mp _|.bb _ _ _|.ps _ _=>false
def I4:b5l AV->b5n
 |[]=>false
 |a::_=> !a.isIt
def Bo(σ:Sg):b5l MapEntry->b5l AV->Prop
 |[],[]=>True
 |e::es,p::l=>(∃k v,p=.tuple [k,v]/\Rel σ k e.key/\Rel σ v e.val)/\Bo σ es l
 |_,_=>False
theorem Bo.mono{σ σ':Sg}(h:Le σ σ'):∀{es:b5l MapEntry}{l:b5l AV},Bo σ es l->Bo σ' es l
 |[],[],_=>trivial
 |[],_::_,hc=>hc.elim
 |_::_,[],hc=>hc.elim
 |_::_,_::_,⟨⟨k,v,h1,h2,h3⟩,hc⟩=>⟨⟨k,v,h1,h2.mono h,h3.mono h⟩,hc.mono h⟩
inductive S3(σ:Sg)(b:Nat):List AV->Prop
 |cells (cells:List AV) (cs rest:List Value) (elem:TypeId) (h:σ.w.heap[b]? =some (.cells (cs++rest).toArray elem (0,0))) (hc:D3 σ cells cs):S3 σ b cells
 |it (s:ByteArray) (p:Nat) (h:σ.w.heap[b]? =some (.stringIter s p)):S3 σ b [.it s p]
 |map (es:Array MapEntry) (clock:Nat) (l:List AV) (h:σ.w.heap[b]? =some (.map es clock)) (he:Bo σ es.toList l):S3 σ b [.tuple l]
theorem S3.keep{σ σ':Sg}(hle:Le σ σ'){b:Nat}{cells:b5l AV}(h:S3 σ b cells)(hb:σ'.w.heap[b]? =σ.w.heap[b]?):S3 σ' b cells:=by
 cases h with
 |cells _ cs rest elem h hc=>exact .cells _ cs rest elem (hb.trans h) (hc.mono hle)
 |it s p h=>exact .it s p (hb.trans h)
 |map es clock l h he=>exact .map es clock l (hb.trans h) (he.mono hle)
theorem S3.lt{σ:Sg}{b:Nat}{cells:b5l AV}(h:S3 σ b cells):b<σ.w.heap.size:=by
 by_cases hb:b<σ.w.heap.size
 ·exact hb
 ·cases h with
  |cells _ cs rest elem h hc=>rw[Array.getElem?_eq_none (by omega)]at h;cases h
  |it s p h=>rw[Array.getElem?_eq_none (by omega)]at h;cases h
  |map es clock l h he=>rw[Array.getElem?_eq_none (by omega)]at h;cases h
theorem S3.plain{σ:Sg}{b:Nat}{cells:b5l AV}(h:S3 σ b cells)(hn:I4 cells):∃cs rest elem,σ.w.heap[b]? =some (.cells (cs++rest).toArray elem (0,0))/\D3 σ cells cs:=by
 cases h with
 |cells _ cs rest elem h hc=>exact⟨cs,rest,elem,h,hc⟩
 |it s p h=>cases hn
 |map es clock l h he=>cases hn
theorem S3.entries{σ:Sg}{b:Nat}{l:b5l AV}(h:S3 σ b [.tuple l]):∃es clock,σ.w.heap[b]? =some (.map es clock)/\Bo σ es.toList l:=by
 cases h with
 |cells _ cs rest elem h hc=>have:=(hc.2 0 _ rfl).1;simp[AV.isCell]at this
 |map es clock l h he=>exact⟨es,clock,h,he⟩
theorem S3.iter{σ:Sg}{b:Nat}{s:b5k}{p:Nat}(h:S3 σ b [.it s p]):σ.w.heap[b]? =some (.stringIter s p):=by
 cases h with
 |cells _ cs rest elem h hc=>have:=(hc.2 0 _ rfl).1;simp[AV.isCell]at this
 |it s p h=>exact h
def Y6(w:World)(b o:Nat):b5n:=
 match w.heap[b]? with
 |some (.cells _ _ f)=>decide (f.1<=f.2)&& !(decide (f.1<=o)&&decide (o<f.2))
 |_=>true
theorem a82{w:World}{b o:Nat}(h:Y6 w b o):w.frozen? ⟨b,o,none⟩=false:=by
 unfold Y6 at h;unfold World.frozen?;split at h
 ·rename_i c t f hb;obtain⟨lo,hi⟩:=f;simp only[hb];simp at h;simp;omega
 ·rename_i hn;split
  ·rename_i c t lo hi hb;exact absurd hb (hn _ _ _)
  ·rfl
theorem Mt{w w':World}{b:Nat}(h:w'.heap[b]? =w.heap[b]?)(o:Nat):Y6 w' b o=Y6 w b o:=by simp[Y6,h]
structure Inv(h:A3)(σ:Sg):Prop where
 blk:∀n cells,h.A5[n]? =some (some cells)->∃b,σ.blk n=some b/\S3 σ b cells
 dom:∀n b,σ.blk n=some b->∃c,h.A5[n]? =some (some c)
 inj:∀n m b c c',h.A5[n]? =some (some c)->h.A5[m]? =some (some c')->c≠[]->c'≠[]->σ.blk n=some b->σ.blk m=some b->n=m
 buf:∀(id:Nat) (c:Nat × Nat),h.A9[id]? =some c->∃e,σ.buf id=some e/\(e.cur,e.size)=c
 K5:∀id e,σ.buf id=some e->h.A9[id]? =some (e.cur,e.size)
 K8:∀id e,σ.buf id=some e->e.cur<=e.cap/\(e.at_=none->e.cap=0)
 M0:∀id e b o,σ.buf id=some e->e.spare b o->(σ.w.cell? ⟨b,o,none⟩).isSome=true
 L5:∀id e b o,σ.buf id=some e->e.tail b o->Y6 σ.w b o=true
 H4:∀id e b o,σ.buf id=some e->e.tail b o->b<σ.w.heap.size
 L6:∀i j e f b o,σ.buf i=some e->σ.buf j=some f->e.tail b o->f.tail b o->i=j
 I6:∀id e n b o,σ.buf id=some e->e.tail b o->σ.blk n≠some b
 outer:∀b o,σ.outer b o->b<σ.w.heap.size/\¬σ.own b o
 F5:∀g cells,(g,cells)∈h.B0->Rel σ (.G6 cells 0) (.pointer (some ⟨g,0,none⟩))
theorem Inv.lt{h:A3}{σ:Sg}(hi:Inv h σ){n b:Nat}(hn:σ.blk n=some b):b<σ.w.heap.size:=by
 obtain⟨c,hc⟩:=hi.dom n b hn;obtain⟨b',h1,h2⟩:=hi.blk n c hc;rw[hn]at h1;cases h1;exact h2.lt
theorem Inv.name{h:A3}{σ:Sg}(hi:Inv h σ){n b:Nat}(hn:σ.blk n=some b):n<h.A5.length:=by
 obtain⟨c,hc⟩:=hi.dom n b hn;exact(List.getElem?_eq_some_iff.1 hc).1
theorem Ek{c:b5l AV}(h:I4 c):c≠[]:=by rintro rfl;cases h
theorem S3.nil{σ:Sg}{b:Nat}{c:b5l AV}(h:S3 σ b c)(hn:I4 c):S3 σ b []:=by
 obtain⟨cs,rest,elem,h1,_⟩:=h.plain hn;exact .cells [] [] (cs++rest) elem h1 ⟨rfl,λi av hi=>by simp at hi⟩
abbrev Env:=b5l (Nat × AV)
def get:Env->Nat->b5m AV
 |[],_=>none
 |(t,a)::e,u=>if t=u then some a else get e u
def P7(σ:Sg)(env:Env)(tmps:Array Value):Prop:=∀t av,get env t=some av->∃x,tmps[t]? =some x/\Rel σ av x
theorem P7.mono{σ σ':Sg}(h:Le σ σ'){env:Env}{tmps:Array Value}(he:P7 σ env tmps):P7 σ' env tmps:=λt av hg=>let ⟨x,h1,h2⟩:=he t av hg;⟨x,h1,h2.mono h⟩
theorem P7.put{σ:Sg}{env:Env}{tmps:Array Value}(he:P7 σ env tmps){t:Nat}(ht:t<tmps.size){av:AV}{x:Value}(hr:Rel σ av x):P7 σ ((t,av)::env) (tmps.setIfInBounds t x):=by
 intro u av' hg;simp only[get]at hg;split at hg
 ·rename_i h;subst h;cases hg;exact⟨x,by simp[ht],hr⟩
 ·rename_i h;obtain⟨y,h1,h2⟩:=he u av' hg;exact⟨y,by rw[Array.getElem?_setIfInBounds_ne h];exact h1,h2⟩
def drop(t:Nat):Env->Env
 |[]=>[]
 |(u,a)::e=>if u=t then drop t e else(u,a)::drop t e
theorem a2y(t u:Nat)(e:Env)(av:AV)(h:get (drop t e) u=some av):u≠t/\get e u=some av:=by
 induction e with
 |nil=>simp[drop,get]at h
 |cons p e ih=>
  obtain⟨k,a⟩:=p;simp only[drop]at h
  by_cases hk:k=t
  ·rw[if_pos hk]at h;obtain⟨h1,h2⟩:=ih h;exact⟨h1,by simp only[get];rw[if_neg (by omega)];exact h2⟩
  ·rw[if_neg hk]at h;simp only[get]at h ⊢
   by_cases hu:k=u
   ·rw[if_pos hu]at h ⊢;exact⟨by omega,h⟩
   ·rw[if_neg hu]at h ⊢;exact ih h
structure St(σ:Sg)(h:A3)(env:Env)(N:Nat)(a:Act):Prop where
 inv:Inv h σ
 env:P7 σ env a.tmps
 size:a.tmps.size=N
 defers:a.defers=[]
theorem Rel.agg_inv{σ:Sg}{cells:b5l AV}{x:Value}(h:Rel σ (.agg cells) x):∃xs,x=.agg xs/\D3 σ cells xs.toList:=by
 cases h with
 |agg _ xs hn hc y hx hr=>
  refine⟨xs,rfl,by simpa using hn,λi av hi=>⟨hc i av hi,y i,?_,hr i av hi⟩⟩;have:=hx i av hi;simpa[<-Array.getElem?_toList]using this
theorem Rel.agg_mk{σ:Sg}{cells:b5l AV}{vs:b5l Value}(h:D3 σ cells vs):Rel σ (.agg cells) (.agg vs.toArray):=by
 refine .agg cells vs.toArray (by simpa using h.1) (λi av hi=>(h.2 i av hi).1) (λi=>vs.getD i undef) (λi av hi=>?_) (λi av hi=>?_)
 ·obtain⟨_,x,hx,_⟩:=h.2 i av hi;simp[List.getD,hx]
 ·obtain⟨_,x,hx,hr⟩:=h.2 i av hi;simpa[List.getD,hx]using hr
theorem Rel.agg_mk'{σ:Sg}{cells:b5l AV}{xs:Array Value}(h:D3 σ cells xs.toList):Rel σ (.agg cells) (.agg xs):=by
 have:=Rel.agg_mk h;simpa using this
theorem Rel.tuple_mk{σ:Sg}{vs:b5l AV}{xs:Array Value}(hn:xs.size=vs.length)(h:∀(i:Nat) (av:AV),vs[i]? =some av->∃x,xs[i]? =some x/\Rel σ av x):Rel σ (.tuple vs) (.tuple xs):=by
 refine .tuple vs xs hn (λi=>xs.getD i undef) (λi av hi=>?_) (λi av hi=>?_)
 ·obtain⟨x,hx,_⟩:=h i av hi;simp only[Array.getD_eq_getD_getElem?,hx,Option.getD_some]
 ·obtain⟨x,hx,hr⟩:=h i av hi;simpa only[Array.getD_eq_getD_getElem?,hx,Option.getD_some]using hr
theorem Rel.tuple_inv{σ:Sg}{vs:b5l AV}{x:Value}(h:Rel σ (.tuple vs) x):∃xs,x=.tuple xs/\xs.size=vs.length/\∀(i:Nat) (av:AV),vs[i]? =some av->∃x,xs[i]? =some x/\Rel σ av x:=by
 cases h with
 |tuple _ xs hn y hx hr=>exact⟨xs,rfl,hn,λi av hi=>⟨y i,hx i av hi,hr i av hi⟩⟩
theorem Rel.clo_mk{σ:Sg}{fn:Fn}{first captured:b5l AV}{fs cs:Array Value}(hn:fs.size=first.length)(hm:cs.size=captured.length)(h:∀(i:Nat) (av:AV),first[i]? =some av->∃x,fs[i]? =some x/\Rel σ av x)(k:∀(i:Nat) (av:AV),captured[i]? =some av->∃x,cs[i]? =some x/\Rel σ av x):Rel σ (.clo fn first captured) (.func fn fs cs):=by
 refine .clo fn first captured fs cs hn hm (λi=>fs.getD i undef) (λi=>cs.getD i undef) (λi av hi=>?_) (λi av hi=>?_) (λi av hi=>?_) (λi av hi=>?_)
 ·obtain⟨x,hx,_⟩:=h i av hi;simp only[Array.getD_eq_getD_getElem?,hx,Option.getD_some]
 ·obtain⟨x,hx,_⟩:=k i av hi;simp only[Array.getD_eq_getD_getElem?,hx,Option.getD_some]
 ·obtain⟨x,hx,hr⟩:=h i av hi;simpa only[Array.getD_eq_getD_getElem?,hx,Option.getD_some]using hr
 ·obtain⟨x,hx,hr⟩:=k i av hi;simpa only[Array.getD_eq_getD_getElem?,hx,Option.getD_some]using hr
theorem Rel.clo_inv{σ:Sg}{fn:Fn}{first captured:b5l AV}{x:Value}(h:Rel σ (.clo fn first captured) x):∃fs cs,x=.func fn fs cs/\fs.size=first.length/\cs.size=captured.length/\
  (∀(i:Nat) (av:AV),first[i]? =some av->∃x,fs[i]? =some x/\Rel σ av x)/\(∀(i:Nat) (av:AV),captured[i]? =some av->∃x,cs[i]? =some x/\Rel σ av x):=by
 cases h with
 |clo _ _ _ fs cs hn hm x y hx hy hr hq=>exact⟨fs,cs,rfl,hn,hm,λi av hi=>⟨x i,hx i av hi,hr i av hi⟩,λi av hi=>⟨y i,hy i av hi,hq i av hi⟩⟩
theorem D3.sub{σ:Sg}{cells:b5l AV}{vs:b5l Value}(h:D3 σ cells vs)(off n:Nat)(hl:off+n<=cells.length):D3 σ ((cells.drop off).take n) ((vs.drop off).take n):=by
 obtain⟨h1,h2⟩:=h;refine⟨by simp;omega,λi av hi=>?_⟩;rw[List.getElem?_take]at hi;split at hi
 ·rename_i hin;rw[List.getElem?_drop]at hi;obtain⟨a,x,hx,hr⟩:=h2 _ _ hi;exact⟨a,x,by rw[List.getElem?_take,if_pos hin,List.getElem?_drop];exact hx,hr⟩
 ·cases hi
theorem D3.append{σ:Sg}{c1 c2:b5l AV}{v1 v2:b5l Value}(h:D3 σ c1 v1)(k:D3 σ c2 v2):D3 σ (c1++c2) (v1++v2):=by
 refine⟨by simp[h.1,k.1],λi av hi=>?_⟩
 by_cases hl:i<c1.length
 ·rw[b49 hl]at hi;rw[b49 (by rw[h.1];exact hl)];exact h.2 i av hi
 ·rw[b5a (by omega)]at hi;rw[b5a (by rw[h.1];omega),h.1];exact k.2 _ av hi
theorem D3.take{σ:Sg}{c:b5l AV}{v:b5l Value}(h:D3 σ c v)(n:Nat):D3 σ (c.take n) (v.take n):=by
 refine⟨by simp[h.1],λi av hi=>?_⟩;rw[List.getElem?_take]at hi;split at hi
 ·rename_i hin;obtain⟨a,x,hx,hr⟩:=h.2 i av hi;exact⟨a,x,by rw[List.getElem?_take,if_pos hin];exact hx,hr⟩
 ·cases hi
theorem D3.drop{σ:Sg}{c:b5l AV}{v:b5l Value}(h:D3 σ c v)(n:Nat):D3 σ (c.drop n) (v.drop n):=by
 refine⟨by simp[h.1],λi av hi=>?_⟩;rw[List.getElem?_drop]at hi;obtain⟨a,x,hx,hr⟩:=h.2 _ av hi;exact⟨a,x,by rw[List.getElem?_drop];exact hx,hr⟩
theorem D3.one{σ:Sg}{av:AV}{x:Value}(h:Rel σ av x)(hc:av.isCell=true):D3 σ [av] [x]:=by
 refine⟨rfl,λi a hi=>?_⟩;cases i with
 |zero=>simp at hi;subst hi;exact⟨hc,x,rfl,h⟩
 |succ i=>simp at hi
theorem D3.nil(σ:Sg):D3 σ [] []:=⟨rfl,λi a hi=>by simp at hi⟩
theorem D3.oneCell{σ:Sg}{c:b5l AV}{vs:b5l Value}(h:D3 σ c vs):∀v∈vs,v.oneCell'=true:=by
 intro v hv;obtain⟨i,hi⟩:=List.mem_iff_getElem?.1 hv
 have hlt:i<c.length:=by
  rw[<-h.1]
  by_cases hl:i<vs.length
  ·exact hl
  ·rw[List.getElem?_eq_none (by omega)]at hi;cases hi
 obtain⟨hc,x,hx,hr⟩:=h.2 i _ (b48 hlt);rw[hi]at hx;cases hx;obtain⟨_,h1,h2⟩:=hr.notAgg hc;cases v<;>first|rfl|exact absurd rfl (h1 _)|exact absurd rfl (h2 _)
def AV.cells:AV->b5l AV
 |.agg cs=>cs
 |x=>[x]
theorem Rel.cells{σ:Sg}{av:AV}{x:Value}(h:Rel σ av x)(hn:∀vs,av≠.tuple vs):D3 σ av.cells x.cells.toList:=by
 cases av with
 |agg cs=>obtain⟨xs,rfl,hc⟩:=h.agg_inv;exact hc
 |tuple vs=>exact absurd rfl (hn vs)
 |it s p=>cases h
 |_=>
  have hc:=h.notAgg rfl;rw[hc.1];exact D3.one h rfl
def S4(h:A3):AV->b5m (b5l AV × Nat)
 |.ptr n off=>match h.A5[n]? with
  |some (some cells)=>if I4 cells then some (cells,off) else none
  |_=>none
 |.G6 cells off=>some (cells,off)
 |.F5 n=>match h.B0.find? (λp=>p.1==n) with
  |some p=>some (p.2,0)
  |none=>none
 |_=>none
theorem BH{w:World}{g:Nat}{cs:Array Value}{t:TypeId}{fr:Nat × Nat}(h:w.heap[g]? =some (.cells cs t fr))(i:Nat):w.cell? ⟨g,i,none⟩=cs[i]? :=by simp[World.cell?,h]
theorem mn{h:A3}{σ:Sg}(hi:Inv h σ){p:AV}(hng:∀n,p≠.F5 n){x:Value}(hr:Rel σ p x){cells:b5l AV}{off:Nat}(hp:S4 h p=some (cells,off)):
  ∃b o,x=.pointer (some ⟨b,o+off,none⟩)/\∀n,off+n<=cells.length->∃vs:b5l Value,vs.length=n/\(∀j v,vs[j]? =some v->σ.w.cell? ⟨b,o+off+j,none⟩=some v)/\D3 σ ((cells.drop off).take n) vs:=by
 cases hr with
 |ptr n f b hb=>
  simp only[S4]at hp;split at hp
  ·rename_i cs0 hcs;split at hp
   case isFalse=>cases hp
   rename_i hno;simp only[b5j,Prod.mk.injEq]at hp;obtain⟨rfl,rfl⟩:=hp;obtain⟨b',hb',hbk⟩:=hi.blk _ _ hcs;obtain⟨cs,rest,elem,hheap,hc⟩:=hbk.plain hno;rw[hb]at hb';cases hb';refine⟨b,0,by simp,λn hn=>⟨(cs.drop f).take n,by have:=hc.1;simp at this ⊢;omega,λj v hv=>?_,hc.sub f n hn⟩⟩;rw[List.getElem?_take]at hv;split at hv
   ·rw[List.getElem?_drop]at hv;rw[BH hheap,Nat.zero_add,<-Array.getElem?_toList];have hlt:=(List.getElem?_eq_some_iff.1 hv).1;rw[List.toList_toArray,b49 hlt];exact hv
   ·cases hv
  ·cases hp
 |G6 cs f b o xs hc hr=>
  simp only[S4,b5j,Prod.mk.injEq]at hp;obtain⟨rfl,rfl⟩:=hp;refine⟨b,o,rfl,λn hn=>⟨((List.range n).map λj=>xs (f+j)),by simp,λj v hv=>?_,?_,λi av hi=>?_⟩⟩
  ·simp only[b5b,b43]at hv;obtain⟨j',hj',rfl⟩:=hv
   have hjn:j<n:=by
    by_cases hl:j<n
    ·exact hl
    ·rw[List.getElem?_eq_none (by simp;omega)]at hj';cases hj'
   rw[List.getElem?_range hjn]at hj';cases hj';have:=(hc (f+j) cs[f+j] (b48 (by omega))).1;rw[<-Nat.add_assoc]at this;exact this
  ·simp;omega
  ·rw[List.getElem?_take]at hi;split at hi
   ·rename_i hin;rw[List.getElem?_drop]at hi;exact⟨(hc _ _ hi).2.2,xs (f+i),by simp[hin],hr _ _ hi⟩
   ·cases hi
 |F5 n=>exact absurd rfl (hng n)
 |_=>simp[S4]at hp
theorem o3{h:A3}{σ:Sg}(hi:Inv h σ){p:AV}{x:Value}(hr:Rel σ p x){cells:b5l AV}{off:Nat}(hp:S4 h p=some (cells,off)):
  ∃b o,x=.pointer (some ⟨b,o+off,none⟩)/\∀n,off+n<=cells.length->∃vs:b5l Value,vs.length=n/\(∀j v,vs[j]? =some v->σ.w.cell? ⟨b,o+off+j,none⟩=some v)/\D3 σ ((cells.drop off).take n) vs:=by
 by_cases hg:∃n,p=.F5 n
 ·obtain⟨n,rfl⟩:=hg;simp only[S4]at hp;split at hp
  ·rename_i q hq;simp only[b5j,Prod.mk.injEq]at hp;obtain⟨rfl,rfl⟩:=hp;have hmem:=List.mem_of_find?_eq_some hq;have hn:=List.find?_some hq;simp only[beq_iff_eq]at hn;have:=hi.F5 q.1 q.2 hmem;cases hr;rw[hn]at this;exact mn hi (λn=>by simp) this rfl
  ·cases hp
 ·exact mn hi (λn h=>hg ⟨n,h⟩) hr hp
section
variable {P:Program}{σ:Sg}{h:A3}
theorem AS(b o n:Nat):(⟨b,o,none⟩:Addr).add n=⟨b,o+n,none⟩:=by unfold Addr.add;split<;>simp_all
def MM:TypeDesc->b5n
 |.struct _|.array _ _=>true
 |_=>false
theorem UH{t:TypeId}{d:TypeDesc}(hd:P.underlying t=some d)(w:World):(isAgg t).run P w=.ok (MM d) w:=by
 cases d<;>simp[isAgg,run_underlying hd,MM]
def CU(P:Program)(t:TypeId):b5m (b5m Nat):=
 match P.underlying t,P.info? t with
 |some d,some i=>some (if MM d then some i.size else none)
 |_,_=>none
theorem ZQ{t:TypeId}{n:b5m Nat}(h:CU P t=some n):∃d i,P.underlying t=some d/\P.info? t=some i/\((MM d=true/\n=some i.size)\/(MM d=false/\n=none)):=by
 unfold CU at h;split at h
 ·rename_i d i h1 h2;refine⟨d,i,h1,h2,?_⟩;cases hd:MM d<;>simp[hd]at h<;>simp[h]
 ·cases h
theorem Sc{t:TypeId}{n:b5m Nat}(ht:CU P t=some n)(cs:Array Value)(off:Nat)(w:World):
  (part t cs off).run P w=match n with
   |some n=>.ok (.agg (cs.extract off (off+n))) w
   |none=>match cs[off]? with
    |some v=>.ok v w
    |none=>.halt (.stuck "part: no such cell") w:=by
 obtain⟨d,i,hu,hi,(⟨hd,rfl⟩|⟨hd,rfl⟩)⟩:=ZQ ht
 ·simp[part,UH hu,hd,sizeOf,typeInfo,hi]
 ·simp only[part,Sem.run_bind,UH hu,hd,Result.andThen_ok,Bool.false_eq_true,if_false];cases cs[off]? <;>rfl
theorem b02{t:TypeId}{n:Nat}(ht:CU P t=some (some n))(w:World)(b o:Nat)(vs:b5l Value)(hl:vs.length=n)(hv:∀j v,vs[j]? =some v->w.cell? ⟨b,o+j,none⟩=some v):
  (Instr.loadAt t (.pointer (some ⟨b,o,none⟩))).run P w=.ok (.agg vs.toArray) w:=by
 have hlc:(loadCells ⟨b,o,none⟩ n).run P w=.ok vs.toArray w:=by
  rw[<-hl];exact run_loadCells_list w ⟨b,o,none⟩ vs (λj v hj=>by rw[AS];exact hv j v hj)
 obtain⟨d,i,hu,hi,(⟨hd,hn⟩|⟨hd,hn⟩)⟩:=ZQ ht<;>cases hn
 simp[Instr.loadAt,Instr.sureAddr,loadVar,UH hu,hd,sizeOf,typeInfo,hi,hlc]
theorem a45{t:TypeId}(ht:CU P t=some none)(w:World)(b o:Nat)(v:Value)(hv:w.cell? ⟨b,o,none⟩=some v):
  (Instr.loadAt t (.pointer (some ⟨b,o,none⟩))).run P w=.ok v w:=by
 obtain⟨d,i,hu,hi,(⟨hd,hn⟩|⟨hd,hn⟩)⟩:=ZQ ht<;>cases hn
 simp only[Instr.loadAt,Instr.sureAddr,loadVar,Sem.run_bind,Sem.run_pure,Result.andThen_ok,UH hu,hd,Bool.false_eq_true,if_false,run_load,hv]
def Cy(h:A3)(n:b5m Nat)(p:AV)(K:AV->Prop):Prop:=
 match S4 h p with
 |some (cells,off)=>match n with
  |none=>match cells[off]? with
   |some av=>K av
   |none=>False
  |some n=>off+n<=cells.length/\K (.agg ((cells.drop off).take n))
 |none=>False
theorem od(hi:Inv h σ){t:TypeId}{n:b5m Nat}(ht:CU P t=some n){p:AV}{x:Value}(hp:Rel σ p x){K:AV->Prop}(hk:Cy h n p K):
  ∃av y,K av/\Rel σ av y/\(Instr.loadAt t x).run P σ.w=.ok y σ.w:=by
 unfold Cy at hk;split at hk
 ·rename_i cells off hpl;obtain⟨b,o,rfl,hrd⟩:=o3 hi hp hpl;split at hk
  ·split at hk
   ·rename_i av hav
    have hlt:off<cells.length:=by
     by_cases hl:off<cells.length
     ·exact hl
     ·rw[List.getElem?_eq_none (by omega)]at hav;cases hav
    obtain⟨vs,hl,hv,hc⟩:=hrd 1 (by omega)
    match vs,hl with
    |[v],_=>
     obtain⟨_,y,hy,hr⟩:=hc.2 0 av (by rw[List.getElem?_take,if_pos (by omega),List.getElem?_drop];simpa using hav);simp at hy;subst hy;refine⟨av,v,hk,hr,a45 ht _ _ _ _ ?_⟩;have:=hv 0 v rfl;simpa using this
   ·exact hk.elim
  ·rename_i n;obtain⟨hn,hk⟩:=hk;obtain⟨vs,hl,hv,hc⟩:=hrd n hn;exact⟨_,_,hk,Rel.agg_mk hc,b02 ht _ _ _ vs hl hv⟩
 ·exact hk.elim
def Na(n:Nat)(p:AV)(K:AV->Prop):Prop:=
 match p with
 |.ptr k off=>K (.ptr k (off+n))
 |.G6 cells off=>K (.G6 cells (off+n))
 |_=>False
theorem oR{n:Nat}{p:AV}{x:Value}(hp:Rel σ p x){K:AV->Prop}(hk:Na n p K):
  ∃av a,K av/\x=.pointer (some a)/\Rel σ av (.pointer (some (a.add n))):=by
 cases hp with
 |ptr k off b hb=>exact⟨_,_,hk,rfl,by rw[AS];exact .ptr k (off+n) b hb⟩
 |G6 cells off b o xs hc hr=>exact⟨_,_,hk,rfl,by rw[AS,Nat.add_assoc];exact .G6 cells (off+n) b o xs hc hr⟩
 |_=>exact hk.elim
theorem b0r{s:TypeId}{fs:Array Field}{f:Nat}{fd:Field}{i:TypeInfo}(hs:P.underlying s=some (.struct fs))(hf:fs[f]? =some fd)(hi:P.info? fd.type=some i)(hz:i.size≠0){p:AV}{x:Value}(hp:Rel σ p x){K:AV->Prop}(hk:Na fd.offset p K):
  ∃av y,K av/\Rel σ av y/\(Instr.fieldAt s x f).run P σ.w=.ok y σ.w:=by
 obtain⟨av,a,h1,rfl,h2⟩:=oR hp hk;refine⟨av,_,h1,h2,?_⟩;simp[Instr.fieldAt,run_underlying hs,hf,Instr.sureAddr,fieldPlace,sizeOf,typeInfo,hi,hz]
def NA(n:b5m Nat)(off:Nat)(x:AV)(K:AV->Prop):Prop:=
 match x with
 |.agg cells=>match n with
  |none=>match cells[off]? with
   |some av=>K av
   |none=>False
  |some n=>off+n<=cells.length/\K (.agg ((cells.drop off).take n))
 |_=>False
theorem nA{t:TypeId}{n:b5m Nat}(ht:CU P t=some n){off:Nat}{p:AV}{x:Value}(hp:Rel σ p x){K:AV->Prop}(hk:NA n off p K)(w:World):
  ∃av y xs,x=.agg xs/\K av/\Rel σ av y/\(part t xs off).run P w=.ok y w:=by
 unfold NA at hk;split at hk
 ·rename_i cells;obtain⟨xs,rfl,hc⟩:=hp.agg_inv;split at hk
  ·split at hk
   ·rename_i av hav;obtain⟨_,y,hy,hr⟩:=hc.2 off av hav;refine⟨av,y,xs,rfl,hk,hr,?_⟩;rw[Sc ht];simp only[Array.getElem?_toList]at hy;simp[hy]
   ·exact hk.elim
  ·rename_i n;obtain⟨hn,hk⟩:=hk;refine⟨_,_,xs,rfl,hk,Rel.agg_mk' (xs:=xs.extract off (off+n)) ?_,by rw[Sc ht]⟩;have:=hc.sub off n hn;simpa[List.take_drop,Nat.add_comm,List.extract_eq_take_drop]using this
 ·exact hk.elim
end
section
variable {P:Program}{σ:Sg}{h:A3}
def MF(size:Nat)(p i:AV)(K:AV->Prop):Prop:=
 match p,i with
 |.sl els _,.v (.int _ n)=>(0<=n/\n<els.length)/\(els.getD n.toNat []).length=size/\K (.G6 (els.getD n.toNat []) 0)
 |.row r off sz len _,.v (.int _ n)=>(0<=n/\n<len)/\sz=size/\K (.ptr r (off+n.toNat*size))
 |_,_=>False
theorem sN{t elem:TypeId}{ie:TypeInfo}(ht:P.underlying t=some (.slice elem))(hi:P.info? elem=some ie){p i:AV}{x y:Value}(hp:Rel σ p x)(hj:Rel σ i y){K:AV->Prop}(hk:MF ie.size p i K):
  ∃av z,K av/\Rel σ av z/\(Instr.indexAt t x y).run P σ.w=.ok z σ.w:=by
 unfold MF at hk;split at hk
 ·rename_i els tok k n;obtain⟨⟨h0,h1⟩,h2,h3⟩:=hk;cases hj with
  |v _ _=>
  cases hp with
  |sl0 _ _=>simp at h1;omega
  |L3 _ _ _ _ _=>simp at h1;omega
  |sl _ _ b o cap size xs hs hcap htk hz hc hr=>
   have hlt:n.toNat<els.length:=by omega
   have hel:els[n.toNat]? =some (els.getD n.toNat []):=by rw[List.getD_eq_getElem?_getD];simp[b48 hlt]
   have hsz:=hs _ _ hel;rw[h2]at hsz;refine⟨_,_,h3,.G6 _ 0 b (o+n.toNat*size) (λj=>xs n.toNat j) (λj av hj=>hc _ _ hel j av hj) (λj av hj=>hr _ _ hel j av hj),?_⟩;simp[Instr.indexAt,asIntOf,run_underlying ht,h0,h1,sizeOf,typeInfo,hi,AS,hsz]
 ·rename_i r off sz len capm k n;obtain⟨⟨h0,h1⟩,rfl,h3⟩:=hk;cases hj with
  |v _ _=>
  cases hp with
  |row _ _ _ _ _ b cap hb hcap hm hx=>
   refine⟨_,_,h3,.ptr r _ b hb,?_⟩;simp[Instr.indexAt,asIntOf,run_underlying ht,h0,h1,sizeOf,typeInfo,hi,AS]
 ·exact hk.elim
def Uu(len size:Nat)(p i:AV)(K:AV->Prop):Prop:=
 match i with
 |.v (.int _ n)=>(0<=n/\n<len)/\Na (n.toNat*size) p K
 |_=>False
theorem b13{t elem:TypeId}{len:Nat}{ie:TypeInfo}(ht:P.underlying t=some (.array len elem))(hi:P.info? elem=some ie){p i:AV}{x y:Value}(hp:Rel σ p x)(hj:Rel σ i y){K:AV->Prop}(hk:Uu len ie.size p i K):
  ∃av z,K av/\Rel σ av z/\(Instr.indexAt t x y).run P σ.w=.ok z σ.w:=by
 unfold Uu at hk;split at hk
 ·rename_i k n;obtain⟨⟨h0,h1⟩,hk⟩:=hk;cases hj with
  |v _ _=>
  obtain⟨av,a,h3,rfl,h4⟩:=oR hp hk;refine⟨av,_,h3,h4,?_⟩;simp[Instr.indexAt,asIntOf,run_underlying ht,Instr.sureAddr,h0,h1,sizeOf,typeInfo,hi]
 ·exact hk.elim
def RL(len size:Nat)(n:b5m Nat)(p i:AV)(K:AV->Prop):Prop:=
 match i with
 |.v (.int _ j)=>(0<=j/\j<len)/\NA n (j.toNat*size) p K
 |_=>False
theorem a00{t elem:TypeId}{len:Nat}{ie:TypeInfo}{n:b5m Nat}(ht:P.underlying t=some (.array len elem))(hi:P.info? elem=some ie)(hn:CU P elem=some n){p i:AV}{x y:Value}(hp:Rel σ p x)(hj:Rel σ i y){K:AV->Prop}(hk:RL len ie.size n p i K):
  ∃av z,K av/\Rel σ av z/\(Instr.index t x y).run P σ.w=.ok z σ.w:=by
 unfold RL at hk;split at hk
 ·rename_i k j;obtain⟨⟨h0,h1⟩,hk⟩:=hk;cases hj with
  |v _ _=>
  obtain⟨av,z,xs,rfl,h3,h4,h5⟩:=nA (P:=P) hn hp hk σ.w;refine⟨av,_,h3,h4,?_⟩;simp[Instr.index,asIntOf,run_underlying ht,h0,h1,sizeOf,typeInfo,hi,h5]
 ·exact hk.elim
def I9(s:b5k)(n:Nat):Int:=((s.data.toList.getD n 0).toNat:Int)
def NQ(p i:AV)(K:AV->Prop):Prop:=
 match p,i with
 |.v (.string s),.v (.int _ n)=>(0<=n/\n<s.size)/\K (.v (.int .u8 (I9 s n.toNat)))
 |_,_=>False
theorem vw{t:TypeId}(ht:P.underlying t=some .string){p i:AV}{x y:Value}(hp:Rel σ p x)(hj:Rel σ i y){K:AV->Prop}(hk:NQ p i K):
  ∃av z,K av/\Rel σ av z/\(Instr.index t x y).run P σ.w=.ok z σ.w:=by
 unfold NQ at hk;split at hk
 ·rename_i s k n;obtain⟨⟨h0,h1⟩,hk⟩:=hk;cases hp with
  |v _ _=>
  cases hj with
  |v _ _=>
  refine⟨_,_,hk,.v _ rfl,?_⟩;have hlt:n.toNat<s.size:=by omega
  have e:s[n.toNat]? =some s[n.toNat]:=getElem?_pos s n.toNat hlt
  have e2:I9 s n.toNat=(s[n.toNat].toNat:Int):=by
   unfold I9;rw[List.getD_eq_getElem?_getD,b48 (by simpa using hlt)];rfl
  simp only[Instr.index,asIntOf,Sem.run_bind,Sem.run_pure,Result.andThen_ok,run_underlying ht,h0,if_true,e,e2]
 ·exact hk.elim
def K3(d:Nat):b5m AV->b5m Int
 |none=>some d
 |some (.v (.int _ n))=>some n
 |some _=>none
def Mb(p:AV)(lo hi:b5m AV)(K:AV->Prop):Prop:=
 match p with
 |.v (.string s)=>match K3 0 lo,K3 s.size hi with
  |some l,some u=>(0<=l/\l<=u/\u<=s.size)/\K (.v (.string (s.extract l.toNat u.toNat)))
  |_,_=>False
 |_=>False
inductive Fi(σ:Sg):Option AV->Option Value->Prop
 |none:Fi σ none none
 |some {a:AV}{x:Value}(h:Rel σ a x):Fi σ (some a) (some x)
theorem T3{o:b5m AV}{v:b5m Value}(hr:Fi σ o v){d:Nat}{n:Int}(hb:K3 d o=some n):(v=none/\n=d)\/∃k,v=some (.int k n):=by
 cases hr with
 |none=>simp[K3]at hb;exact .inl ⟨rfl,hb.symm⟩
 |some h=>
  rename_i a x;right;unfold K3 at hb;split at hb
  ·rename_i heq;cases heq
  ·rename_i k m heq;cases heq;cases h with
   |v _ _=>cases hb;exact⟨k,rfl⟩
  ·cases hb
theorem rQ{t:TypeId}(ht:P.underlying t=some .string){p:AV}{lo hi:b5m AV}{x:Value}{l u:b5m Value}(hp:Rel σ p x)(hl:Fi σ lo l)(hu:Fi σ hi u){K:AV->Prop}(hk:Mb p lo hi K):
  ∃av z,K av/\Rel σ av z/\(Instr.sliceAt t x l u none).run P σ.w=.ok z σ.w:=by
 unfold Mb at hk;split at hk
 ·rename_i s;split at hk
  ·rename_i ln un hbl hbu;obtain⟨⟨h0,h1,h2⟩,hk⟩:=hk;cases hp with
   |v _ _=>
   refine⟨_,_,hk,.v _ rfl,?_⟩;obtain⟨L,rfl⟩:∃L:Nat,ln=L:=⟨ln.toNat,by omega⟩
   obtain⟨U,rfl⟩:∃U:Nat,un=U:=⟨un.toNat,by omega⟩
   have h3:L<=U:=by omega
   have h4:U<=s.size:=by omega
   have h5:L<=s.size:=by omega
   rcases T3 hl hbl with⟨rfl,h6⟩|⟨k1,rfl⟩<;>rcases T3 hu hbu with⟨rfl,h7⟩|⟨k2,rfl⟩<;>
    (try (have h8:L=0:=by omega))<;>(try (have h9:U=s.size:=by omega))<;>(try subst h8)<;>(try subst h9)<;>
    simp[Instr.sliceAt,Instr.slice,run_underlying ht,Instr.sliceBounds,Instr.sliceBound,asIntOf,h3,h4,h5]
  ·exact hk.elim
 ·exact hk.elim
def Ca(size:Nat)(p:AV)(lo hi mx:b5m AV)(K:AV->Prop):Prop:=
 match p with
 |.nil=>match K3 0 lo,K3 0 hi,K3 0 mx with
  |some l,some u,some m=>(l=0/\u=0/\m=0)/\K .nil
  |_,_,_=>False
 |.sl els tok=>match K3 0 lo,K3 els.length hi with
  |some l,some u=>(0<=l/\l<=u/\u<=els.length)/\(∀el∈els,el.length=size)/\
   match mx with
   |none=>K (.sl ((els.take u.toNat).drop l.toNat) (match lo,hi with|none,none=>tok|_,_=>.no))
   |some (.v (.int _ m))=>m=u/\hi≠none/\K (.sl ((els.take u.toNat).drop l.toNat) .full)
   |some _=>False
  |_,_=>False
 |.row n off sz len cap=>match K3 0 lo,K3 len hi with
  |some l,some u=>((0<=l/\l<=u/\u<=len)/\sz=size/\
   (match mx with
   |none=>if l<len then K (.row n (off+l.toNat*size) size (u.toNat - l.toNat) (cap - l.toNat)) else K (.sl [] .no)
   |some (.v (.int _ m))=>((m=u/\hi≠none)/\if l<u then K (.row n (off+l.toNat*size) size (u.toNat - l.toNat) (u.toNat - l.toNat)) else K (.sl [] .full))\/((u<m/\m<=len/\hi≠none)/\K (.row n (off+l.toNat*size) size (u.toNat - l.toNat) (m.toNat - l.toNat)))
   |some _=>False)
   \/((0<=l/\l<u/\u<=cap/\mx=none/\hi≠none)/\sz=size/\K (.row n (off+l.toNat*size) size (u.toNat - l.toNat) (cap - l.toNat))))
  |_,_=>False
 |.bb (.raw id n) [] u=>size=1/\lo=none/\hi=some (.v (.int .i64 0))/\mx=none/\K (.bb (.own id) [] u)
 |_=>False
theorem Rel.sl_sub{els:b5l (b5l AV)}{b o size:Nat}{xs:Nat->Nat->Value}(hs:∀(i:Nat) (el:b5l AV),els[i]? =some el->el.length=size)(hc:∀(i:Nat) (el:b5l AV),els[i]? =some el->∀(j:Nat) (av:AV),el[j]? =some av->σ.w.cell? ⟨b,o+i*size+j,none⟩=some (xs i j)/\¬σ.open_ b (o+i*size+j)/\av.isCell=true)(hr:∀(i:Nat) (el:b5l AV),els[i]? =some el->∀(j:Nat) (av:AV),el[j]? =some av->Rel σ av (xs i j))(l u c o':Nat)(hlu:l<=u)(hu:u<=els.length)(hc':u - l<=c)(ho:u=l\/o'=o+l*size)(tok':Tok)(ht:BM σ tok' (u - l) (some ⟨b,o',none⟩) c)(hz:∀id e,tok'=.own id->σ.buf id=some e->e.size=size):Rel σ (.sl ((els.take u).drop l) tok') (.slice (some ⟨b,o',none⟩) (u - l) c):=by
 have hlen:((els.take u).drop l).length=u - l:=by simp;omega
 have key:∀(i:Nat) (el:b5l AV),((els.take u).drop l)[i]? =some el->els[l+i]? =some el/\o'=o+l*size:=by
  intro i el hi;rw[List.getElem?_drop,List.getElem?_take]at hi;split at hi
  ·refine⟨hi,?_⟩;rcases ho with h|h
   ·omega
   ·exact h
  ·cases hi
 have:=Rel.sl (σ:=σ) ((els.take u).drop l) tok' b o' c size (λi j=>xs (l+i) j) (λi el hi=>hs _ _ (key i el hi).1) (by omega) (by rw[hlen];exact ht) hz
  (λi el hi j av hj=>by
   obtain⟨h1,rfl⟩:=key i el hi;have:=hc _ _ h1 j av hj;rw[show o+l*size+i*size+j=o+(l+i)*size+j by rw[Nat.add_mul];omega];exact this)
  (λi el hi j av hj=>hr _ _ (key i el hi).1 j av hj)
 rw[hlen]at this;exact this
theorem xu{t elem:TypeId}{ie:TypeInfo}(ht:P.underlying t=some (.slice elem))(hie:P.info? elem=some ie){p:AV}{lo hi mx:b5m AV}{x:Value}{l u m:b5m Value}(hp:Rel σ p x)(hl:Fi σ lo l)(hu:Fi σ hi u)(hm:Fi σ mx m){K:AV->Prop}(hk:Ca ie.size p lo hi mx K)(hmx:mx≠none->hi≠none):
  ∃av z,K av/\Rel σ av z/\(Instr.sliceAt t x l u m).run P σ.w=.ok z σ.w:=by
 unfold Ca at hk;split at hk
 ·cases hp with
  |nil=>
  split at hk
  ·rename_i a b c h1 h2 h3;obtain⟨⟨rfl,rfl,rfl⟩,hk⟩:=hk;refine⟨_,_,hk,.nil,?_⟩
   have hum:m≠none->u≠none:=by
    intro h;have:mx≠none:=by rintro rfl;cases hm;exact h rfl
    have:=hmx this;intro hn;subst hn;cases hu;exact this rfl
   rcases T3 hl h1 with⟨rfl,_⟩|⟨k1,rfl⟩<;>rcases T3 hu h2 with⟨rfl,_⟩|⟨k2,rfl⟩<;>rcases T3 hm h3 with⟨rfl,_⟩|⟨k3,rfl⟩<;>
    first
     |(simp[Instr.sliceAt,Instr.slice,run_underlying ht,Instr.sliceBounds,Instr.sliceBound,asIntOf,sizeOf,typeInfo,hie];done)
     |exact absurd rfl (hum (by simp))
  ·exact hk.elim
 ·rename_i els tok;split at hk
  ·rename_i ln un hbl hbu;obtain⟨⟨h0,h1,h2⟩,hsz,hk⟩:=hk;obtain⟨L,rfl⟩:∃L:Nat,ln=L:=⟨ln.toNat,by omega⟩
   obtain⟨U,rfl⟩:∃U:Nat,un=U:=⟨un.toNat,by omega⟩
   have h4:L<=U:=by omega
   have h5:U<=els.length:=by omega
   cases hp with
   |sl0 _ htk=>
    simp only[List.length_nil,Nat.le_zero_eq]at h5;subst h5;simp only[Nat.le_zero_eq]at h4;subst h4;cases hm with
    |none=>
     refine⟨_,.slice none 0 0,hk,?_,?_⟩
     ·refine .sl0 _ ?_;split
      ·exact htk
      ·trivial
     ·rcases T3 hl hbl with⟨rfl,_⟩|⟨k1,rfl⟩<;>rcases T3 hu hbu with⟨rfl,_⟩|⟨k2,rfl⟩<;>
       simp[Instr.sliceAt,Instr.slice,run_underlying ht,Instr.sliceBounds,Instr.sliceBound,asIntOf,sizeOf,typeInfo,hie]
    |some hmv=>
     try dsimp only at hk
     split at hk
     ·rename_i heq;cases heq
     ·rename_i k mm heq;cases heq;obtain⟨rfl,hne,hk⟩:=hk;cases hmv with
      |v _ _=>
      refine⟨_,.slice none 0 0,hk,.sl0 _ rfl,?_⟩
      rcases T3 hl hbl with⟨rfl,_⟩|⟨k1,rfl⟩<;>rcases T3 hu hbu with⟨rfl,_⟩|⟨k2,rfl⟩<;>
       first
        |(cases hu;exact absurd rfl hne)
        |simp[Instr.sliceAt,Instr.slice,run_underlying ht,Instr.sliceBounds,Instr.sliceBound,asIntOf,sizeOf,typeInfo,hie]
     ·exact hk.elim
   |L3 _ sa scap hst hsc=>
    simp only[List.length_nil,Nat.le_zero_eq]at h5;subst h5;simp only[Nat.le_zero_eq]at h4;subst h4;cases hm with
    |none=>
     refine⟨_,.slice (some sa) 0 scap,hk,?_,?_⟩
     ·split
      ·exact .L3 _ sa scap hst hsc
      ·exact .L3 _ sa scap trivial (.inl rfl)
     ·rcases T3 hl hbl with⟨rfl,_⟩|⟨k1,rfl⟩<;>rcases T3 hu hbu with⟨rfl,_⟩|⟨k2,rfl⟩<;>
       simp[Instr.sliceAt,Instr.slice,run_underlying ht,Instr.sliceBounds,Instr.sliceBound,asIntOf,sizeOf,typeInfo,hie,Addr.add]
    |some hmv=>
     try dsimp only at hk
     split at hk
     ·rename_i heq;cases heq
     ·rename_i k mm heq;cases heq;obtain⟨rfl,hne,hk⟩:=hk;cases hmv with
      |v _ _=>
      refine⟨_,.slice (some sa) 0 0,hk,?_,?_⟩
      ·exact .L3 _ sa 0 rfl (.inr rfl)
      rcases T3 hl hbl with⟨rfl,_⟩|⟨k1,rfl⟩<;>rcases T3 hu hbu with⟨rfl,_⟩|⟨k2,rfl⟩<;>
       first
        |(cases hu;exact absurd rfl hne)
        |simp[Instr.sliceAt,Instr.slice,run_underlying ht,Instr.sliceBounds,Instr.sliceBound,asIntOf,sizeOf,typeInfo,hie]
     ·exact hk.elim
   |sl _ _ b o cap size xs hs hcap htk hz hc hr=>
    have hsize:0<els.length->size=ie.size:=by
     intro h;have:=hs 0 els[0] (b48 h);rw[<-this];exact hsz _ (List.getElem_mem h)
    have hU:U<=cap:=by omega
    cases hm with
    |none=>
     refine⟨_,_,hk,Rel.sl_sub hs hc hr L U (cap - L) (if cap=L then o else o+L*ie.size) h4 h5 (by omega) ?_ _ ?_ ?_,?_⟩
     ·by_cases hUL:U=L
      ·exact .inl hUL
      ·right;rw[if_neg (by omega),hsize (by omega)]
     ·split
      ·rcases T3 hl hbl with⟨_,h6⟩|⟨k1,h6⟩
       ·rcases T3 hu hbu with⟨_,h7⟩|⟨k2,h7⟩
        ·obtain rfl:L=0:=by omega
         obtain rfl:U=els.length:=by omega
         simpa using htk
        ·subst h7;cases hu
       ·subst h6;cases hl
      ·trivial
     ·intro id e hid he;split at hid
      ·exact hz id e hid he
      ·cases hid
     ·rcases T3 hl hbl with⟨rfl,h6⟩|⟨k1,rfl⟩<;>rcases T3 hu hbu with⟨rfl,h7⟩|⟨k2,rfl⟩<;>
       (try (have h8:L=0:=by omega))<;>(try (have h9:U=els.length:=by omega))<;>(try subst h8)<;>(try subst h9)<;>
       simp[Instr.sliceAt,Instr.slice,run_underlying ht,Instr.sliceBounds,Instr.sliceBound,asIntOf,sizeOf,typeInfo,hie,hU,h4,hcap,AS]<;>
       (try (split<;>rfl))
    |some hmv=>
     try dsimp only at hk
     split at hk
     ·rename_i heq;cases heq
     ·rename_i k mm heq;cases heq;obtain⟨rfl,hne,hk⟩:=hk;cases hmv with
      |v _ _=>
      refine⟨_,_,hk,Rel.sl_sub hs hc hr L U (U - L) (if U=L then o else o+L*ie.size) h4 h5 (Nat.le_refl _) ?_ _ rfl (λid e hid=>by cases hid),?_⟩
      ·by_cases hUL:U=L
       ·exact .inl hUL
       ·right;rw[if_neg hUL,hsize (by omega)]
      ·rcases T3 hl hbl with⟨rfl,h6⟩|⟨k1,rfl⟩<;>rcases T3 hu hbu with⟨rfl,h7⟩|⟨k2,rfl⟩<;>
        first
         |(cases hu;exact absurd rfl hne)
         |((try (have h8:L=0:=by omega));(try subst h8);simp[Instr.sliceAt,Instr.slice,run_underlying ht,Instr.sliceBounds,Instr.sliceBound,asIntOf,sizeOf,typeInfo,hie,hU,h4,hcap,AS]<;>(try (split<;>rfl)))
     ·exact hk.elim
  ·exact hk.elim
 ·rename_i n off sz len capm;split at hk
  ·rename_i ln un hbl hbu;rcases hk with hk|⟨⟨h0,h1,h2,rfl,hne⟩,rfl,hk⟩
   rotate_left
   ·obtain⟨L,rfl⟩:∃L:Nat,ln=L:=⟨ln.toNat,by omega⟩
    obtain⟨U,rfl⟩:∃U:Nat,un=U:=⟨un.toNat,by omega⟩
    have h4:L<=U:=by omega
    cases hp with
    |row _ _ _ _ _ b cap hb hcap hcm hx=>
    have hU:U<=cap:=by omega
    have hxs:∀o,o<off+L*ie.size+(cap - L)*ie.size->(σ.w.cell? ⟨b,o,none⟩).isSome:=by
     intro o ho;refine hx o (Nat.lt_of_lt_of_le ho ?_);rw[Nat.add_assoc,<-Nat.add_mul];exact Nat.add_le_add_left (Nat.mul_le_mul_right _ (by omega)) _
    cases hm
    have hrun:(Instr.sliceAt t (.slice (some ⟨b,off,none⟩) len cap) l u none).run P σ.w=.ok (.slice (some ⟨b,if cap=L then off else off+L*ie.size,none⟩) (U - L) (cap - L)) σ.w:=by
     rcases T3 hl hbl with⟨rfl,h6⟩|⟨k1,rfl⟩<;>rcases T3 hu hbu with⟨rfl,h7⟩|⟨k2,rfl⟩<;>
      first
       |(cases hu;exact absurd rfl hne)
       |((try (have h8:L=0:=by omega));(try subst h8);simp[Instr.sliceAt,Instr.slice,run_underlying ht,Instr.sliceBounds,Instr.sliceBound,asIntOf,sizeOf,typeInfo,hie,hU,h4,hcap,AS]<;>(try (split<;>rfl)))
    rw[if_neg (by omega)]at hrun;exact⟨_,_,hk,.row n _ _ _ _ b (cap - L) hb (by simp;omega) (by simp;omega) (by simpa using hxs),by simpa using hrun⟩
   obtain⟨⟨h0,h1,h2⟩,rfl,hk⟩:=hk;obtain⟨L,rfl⟩:∃L:Nat,ln=L:=⟨ln.toNat,by omega⟩
   obtain⟨U,rfl⟩:∃U:Nat,un=U:=⟨un.toNat,by omega⟩
   have h4:L<=U:=by omega
   have h5:U<=len:=by omega
   cases hp with
   |row _ _ _ _ _ b cap hb hcap hcm hx=>
   have hU:U<=cap:=by omega
   have hxs:L<cap->∀c,c<=cap - L->∀o,o<off+L*ie.size+c*ie.size->(σ.w.cell? ⟨b,o,none⟩).isSome:=by
    intro hl c hc o ho;refine hx o (Nat.lt_of_lt_of_le ho ?_);rw[Nat.add_assoc,<-Nat.add_mul];exact Nat.add_le_add_left (Nat.mul_le_mul_right _ (by omega)) _
   cases hm with
   |none=>
    have hrun:(Instr.sliceAt t (.slice (some ⟨b,off,none⟩) len cap) l u none).run P σ.w=.ok (.slice (some ⟨b,if cap=L then off else off+L*ie.size,none⟩) (U - L) (cap - L)) σ.w:=by
     rcases T3 hl hbl with⟨rfl,h6⟩|⟨k1,rfl⟩<;>rcases T3 hu hbu with⟨rfl,h7⟩|⟨k2,rfl⟩<;>
      (try (have h8:L=0:=by omega))<;>(try (have h9:U=len:=by omega))<;>(try subst h8)<;>(try subst h9)<;>
      simp[Instr.sliceAt,Instr.slice,run_underlying ht,Instr.sliceBounds,Instr.sliceBound,asIntOf,sizeOf,typeInfo,hie,hU,h4,hcap,AS]<;>
      (try (split<;>rfl))
    try dsimp only at hk
    split at hk
    ·rename_i hlt;have hlt':L<len:=by omega
     rw[if_neg (by omega)]at hrun;exact⟨_,_,hk,.row n _ _ _ _ b (cap - L) hb (by simp;omega) (by simp;omega) (by simpa using hxs (by omega) (cap - L) (Nat.le_refl _)),by simpa using hrun⟩
    ·obtain rfl:U=L:=by omega
     exact⟨_,_,hk,by rw[Nat.sub_self];exact .L3 _ _ _ trivial (.inl rfl),hrun⟩
   |some hmv=>
    try dsimp only at hk
    split at hk
    ·rename_i heq;cases heq
    ·rename_i k mm heq;cases heq;rcases hk with hk|⟨⟨hum,hml,hne⟩,hk⟩
     rotate_left
     ·obtain⟨M,rfl⟩:∃M:Nat,mm=M:=⟨mm.toNat,by omega⟩
      cases hmv with
      |v _ _=>
      have hUM:U<=M:=by omega
      have hMc:M<=cap:=by omega
      have hrun:(Instr.sliceAt t (.slice (some ⟨b,off,none⟩) len cap) l u (some (.int k M))).run P σ.w=.ok (.slice (some ⟨b,if M=L then off else off+L*ie.size,none⟩) (U - L) (M - L)) σ.w:=by
       rcases T3 hl hbl with⟨rfl,h6⟩|⟨k1,rfl⟩<;>rcases T3 hu hbu with⟨rfl,h7⟩|⟨k2,rfl⟩<;>
        first
         |(cases hu;exact absurd rfl hne)
         |((try (have h8:L=0:=by omega));(try subst h8);simp[Instr.sliceAt,Instr.slice,run_underlying ht,Instr.sliceBounds,Instr.sliceBound,asIntOf,sizeOf,typeInfo,hie,hUM,hMc,h4,hcap,AS]<;>(try (split<;>rfl)))
      rw[if_neg (by omega)]at hrun;exact⟨_,_,hk,.row n _ _ _ _ b (M - L) hb (by simp;omega) (by simp) (by simpa using hxs (by omega) (M - L) (by omega)),by simpa using hrun⟩
     obtain⟨⟨rfl,hne⟩,hk⟩:=hk;cases hmv with
     |v _ _=>
     have hrun:(Instr.sliceAt t (.slice (some ⟨b,off,none⟩) len cap) l u (some (.int k U))).run P σ.w=.ok (.slice (some ⟨b,if U=L then off else off+L*ie.size,none⟩) (U - L) (U - L)) σ.w:=by
      rcases T3 hl hbl with⟨rfl,h6⟩|⟨k1,rfl⟩<;>rcases T3 hu hbu with⟨rfl,h7⟩|⟨k2,rfl⟩<;>
       first
        |(cases hu;exact absurd rfl hne)
        |((try (have h8:L=0:=by omega));(try subst h8);simp[Instr.sliceAt,Instr.slice,run_underlying ht,Instr.sliceBounds,Instr.sliceBound,asIntOf,sizeOf,typeInfo,hie,hU,h4,hcap,AS]<;>(try (split<;>rfl)))
     split at hk
     ·rename_i hlt;have hlt':L<U:=by omega
      rw[if_neg (by omega)]at hrun;exact⟨_,_,hk,.row n _ _ _ _ b (U - L) hb (by simp) (by simp) (by simpa using hxs (by omega) (U - L) (by omega)),by simpa using hrun⟩
     ·obtain rfl:U=L:=by omega
      rw[Nat.sub_self]at hrun;exact⟨_,_,hk,.L3 _ _ _ rfl (.inr rfl),hrun⟩
    ·exact hk.elim
  ·exact hk.elim
 ·rename_i id n u0;obtain⟨hs1,rfl,rfl,rfl,hk⟩:=hk;cases hp with
  |Fu _ _ _ b cap hn he hty=>
  cases hl;cases hm;cases hu with
  |some hv=>
  cases hv with
  |v _ _=>
  obtain⟨e,h1,h2,h3⟩:=he;refine⟨_,.slice (some ⟨b,0,none⟩) 0 cap,hk,.Ab id [] _ _ 0 cap (.sl [] (.own id) b 0 cap 1 (λ_ _=>.nilIface) (λi el hi=>by simp at hi) (Nat.zero_le _) ⟨e,h1,Nat.zero_le _,λhc=>⟨(h3 hc).1,(h3 hc).2⟩⟩ (λj f hj hf=>by cases hj;rw[h1]at hf;cases hf;exact h2) (λi el hi=>by simp at hi) (λi el hi=>by simp at hi)) hty,?_⟩;simp[Instr.sliceAt,Instr.slice,run_underlying ht,Instr.sliceBounds,Instr.sliceBound,asIntOf,sizeOf,typeInfo,hie,hs1,Addr.add]
 ·exact hk.elim
end
def I3(op:BinOp)(k:IntKind)(a b:Int):Int:=
 k.wrap ((match op with
  |.and=>BitVec.ofInt k.bits a&&&BitVec.ofInt k.bits b
  |.or=>BitVec.ofInt k.bits a|||BitVec.ofInt k.bits b
  |.xor=>BitVec.ofInt k.bits a ^^^ BitVec.ofInt k.bits b
  |_=>BitVec.ofInt k.bits a&&&~~~ (BitVec.ofInt k.bits b)).toNat:Int)
def Ad(op:BinOp)(x y:Value):b5m (Prop × Value):=
 match op,x,y with
 |.shl,.int k a,.int _ b=>some (0<=b,.int k (k.wrap (a*2 ^ min b.toNat k.bits)))
 |.shr,.int k a,.int _ b=>some (0<=b,.int k (a.fdiv (2 ^ min b.toNat k.bits)))
 |.add,.int k a,.int k' b=>if k=k' then some (True,.int k (k.wrap (a+b))) else none
 |.sub,.int k a,.int k' b=>if k=k' then some (True,.int k (k.wrap (a - b))) else none
 |.mul,.int k a,.int k' b=>if k=k' then some (True,.int k (k.wrap (a*b))) else none
 |.quo,.int k a,.int k' b=>if k=k' then some (b≠0,.int k (k.wrap (a.tdiv b))) else none
 |.rem,.int k a,.int k' b=>if k=k' then some (b≠0,.int k (a.tmod b)) else none
 |.and,.int k a,.int k' b=>if k=k' then some (True,.int k (I3 .and k a b)) else none
 |.or,.int k a,.int k' b=>if k=k' then some (True,.int k (I3 .or k a b)) else none
 |.xor,.int k a,.int k' b=>if k=k' then some (True,.int k (I3 .xor k a b)) else none
 |.andNot,.int k a,.int k' b=>if k=k' then some (True,.int k (I3 .andNot k a b)) else none
 |.eql,.int k a,.int k' b=>if k=k' then some (True,.bool (a==b)) else none
 |.neq,.int k a,.int k' b=>if k=k' then some (True,.bool (a !=b)) else none
 |.lss,.int k a,.int k' b=>if k=k' then some (True,.bool (decide (a<b))) else none
 |.leq,.int k a,.int k' b=>if k=k' then some (True,.bool (decide (a<=b))) else none
 |.gtr,.int k a,.int k' b=>if k=k' then some (True,.bool (decide (b<a))) else none
 |.geq,.int k a,.int k' b=>if k=k' then some (True,.bool (decide (b<=a))) else none
 |.add,.string a,.string b=>some ((a.size+b.size:Nat)<=9223372036854775807,.string (a++b))
 |.eql,.string a,.string b=>some (True,.bool (a.toList==b.toList))
 |.neq,.string a,.string b=>some (True,.bool (!(a.toList==b.toList)))
 |.lss,.string a,.string b=>some (True,.bool (Op.bytesLess a.toList b.toList))
 |.leq,.string a,.string b=>some (True,.bool (Op.bytesLess a.toList b.toList||a.toList==b.toList))
 |.gtr,.string a,.string b=>some (True,.bool (!(Op.bytesLess a.toList b.toList||a.toList==b.toList)))
 |.geq,.string a,.string b=>some (True,.bool (!(Op.bytesLess a.toList b.toList)))
 |_,_,_=>none
section
variable {P:Program}{σ:Sg}{h:A3}
def MC(op:BinOp)(x y:AV)(K:AV->Prop):Prop:=
 match x,y with
 |.v a,.v b=>match Ad op a b with
  |some (c,r)=>c/\K (.v r)
  |none=>False
 |_,_=>False
theorem ut{op:BinOp}{a b:Value}{c:Prop}{r:Value}(hp:Ad op a b=some (c,r))(hc:c)(t:TypeId)(x y:Operand)(w:World):
    Fh r=true/\(do eqGuard op t x y a b;binOp op t a b:Sem Value).run P w=.ok r w:=by
  unfold Ad at hp
  split at hp<;>(try split at hp)<;>first
    |(cases hp;done)
    |(simp only[b5j,Prod.mk.injEq]at hp;obtain⟨rfl,rfl⟩:=hp;(try subst_vars);refine⟨rfl,?_⟩
      first
       |(simp[eqGuard,Go.binOp,Op.intArith,Op.intBits,Op.intCmp,Op.stringOp,I3];done)
       |(have hz:=hc;simp only[ne_eq]at hz;simp[eqGuard,Go.binOp,Op.intDiv,hz];done)
       |(have hz:¬(_<(0:Int)):=Int.not_lt.2 hc;simp[eqGuard,Go.binOp,Op.shift,hz];done)
       |(rename_i a b
         have hz:¬(9223372036854775807<((a.size:Int)+(b.size:Int))):=by omega
         simp[eqGuard,Go.binOp,Op.stringOp,hz];done)
       |skip)
theorem o5{op:BinOp}{p q:AV}{x y:Value}(hp:Rel σ p x)(hq:Rel σ q y){K:AV->Prop}(hk:MC op p q K)(t:TypeId)(u v:Operand):
  ∃av z,K av/\Rel σ av z/\(do eqGuard op t u v x y;binOp op t x y:Sem Value).run P σ.w=.ok z σ.w:=by
 unfold MC at hk;split at hk
 ·rename_i a b;cases hp with
  |v _ _=>
  cases hq with
  |v _ _=>
  split at hk
  ·rename_i c r hpb;obtain⟨h1,h2⟩:=ut (P:=P) hpb hk.1 t u v σ.w;exact⟨_,_,hk.2,.v _ h1,h2⟩
  ·exact hk.elim
 ·exact hk.elim
inductive HB where
 |bool|slice|func|ptr|iface|flat (ks:List Nat)
 deriving DecidableEq
def As:b5l Nat->b5l AV->b5l AV->b5m b5n
 |[],[],[]=>some true
 |0::ks,.v (.int k a)::xs,.v (.int k' b)::ys=>if k=k' then(As ks xs ys).map λr=>a==b&&r else none
 |1::ks,.v (.bool a)::xs,.v (.bool b)::ys=>(As ks xs ys).map λr=>a==b&&r
 |2::ks,.v (.string a)::xs,.v (.string b)::ys=>(As ks xs ys).map λr=>a==b&&r
 |_,_,_=>none
def Zy(o:b5m b5n)(K:b5n->Prop):Prop:=
 match o with
 |some b=>K b
 |none=>False
def Ee(c:HB)(x y:AV)(K:b5n->Prop):Prop:=
 match c,x,y with
 |.bool,.v (.bool a),.v (.bool b)=>K (a==b)
 |.slice,.nil,.nil=>K true
 |.slice,.sl els _,.nil=>(els≠[]/\K false)\/(els=[]/\K true/\K false)
 |.slice,.nil,.sl els _=>(els≠[]/\K false)\/(els=[]/\K true/\K false)
 |.slice,.row _ _ _ _ _,.nil=>K false
 |.slice,.nil,.row _ _ _ _ _=>K false
 |.func,.clo _ _ _,.v .nilFunc=>K false
 |.func,.v .nilFunc,.clo _ _ _=>K false
 |.func,.v .nilFunc,.v .nilFunc=>K true
 |.ptr,.ptr _ _,.v (.pointer none)=>K false
 |.ptr,.G6 _ _,.v (.pointer none)=>K false
 |.ptr,.v (.pointer none),.v (.pointer none)=>K true
 |.iface,.iface _ _,.v .nilIface=>K false
 |.iface,.v .nilIface,.iface _ _=>K false
 |.iface,.v .nilIface,.v .nilIface=>K true
 |.flat ks,.agg xs,.agg ys=>Zy (As ks xs ys) K
 |_,_,_=>False
def Ib(P:Program):b5l Field->Nat->b5m (b5l Nat)
 |[],_=>some []
 |f::r,i=>if f.offset=i/\¬f.name= "_"/\CU P f.type=some none then(match P.underlying f.type with
  |some (.int _)=>(Ib P r (i+1)).map λks=>0::ks
  |some .bool=>(Ib P r (i+1)).map λks=>1::ks
  |some .string=>(Ib P r (i+1)).map λks=>2::ks
  |_=>none) else none
def oQ(P:Program)(t:TypeId):b5m (b5l Nat):=
 match P.underlying t with
 |some (.struct fs)=>if(!P.stoodInHeld t&& !P.eqGuardType P.depth t)=true then Ib P fs.toList 0 else none
 |_=>none
def Wq:TypeDesc->b5m HB
 |.bool=>some .bool
 |.slice _=>some .slice
 |.func _ _ _=>some .func
 |.pointer _=>some .ptr
 |.interface _=>some .iface
 |_=>none
def eqK(P:Program)(t:TypeId):b5m HB:=match oQ P t with
 |some ks=>some (.flat ks)
 |none=>(P.underlying t).bind Wq
def KZ:Operand->b5n
 |.const _=>true
 |_=>false
set_option maxHeartbeats 4000000 in
theorem sO{t:TypeId}{d:TypeDesc}(ht:P.underlying t=some d){c:HB}(hd:Wq d=some c){p q:AV}{x y:Value}(hp:Rel σ p x)(hq:Rel σ q y){K:b5n->Prop}(hk:Ee c p q K)(u v:Operand)(hc:c=.iface->KZ u\/KZ v)(op:BinOp)(hop:op=.eql\/op=.neq):
  ∃b,K b/\(do eqGuard op t u v x y;binOp op t x y:Sem Value).run P σ.w=.ok (.bool (if op=.eql then b else !b)) σ.w:=by
 obtain⟨n,eql⟩:∃n:Nat,∀a b:Value,Op.equal t a b=Op.equalIn (n+1) t a b:=⟨9999,λ_ _=>rfl⟩
 have hfl:∀ks,c≠.flat ks:=by rintro ks rfl;cases d<;>simp[Wq]at hd
 unfold Ee at hk;split at hk<;>first|exact hk.elim|exact absurd rfl (hfl _)|skip
 all_goals
  cases d<;>first|(simp[Wq]at hd;done)|skip
  cases hp<;>cases hq<;>
  rcases hop with rfl|rfl
 all_goals first
  |(refine⟨_,hk,?_⟩;simp[eqGuard,Go.binOp,eql,Op.equalIn,run_underlying ht];done)
  |(refine⟨_,hk.2,?_⟩;simp[eqGuard,Go.binOp,eql,Op.equalIn,run_underlying ht];done)
  |(rcases hk with⟨h0,hk⟩|⟨h0,hk1,hk2⟩<;>first|(exact absurd rfl h0)|(refine⟨_,hk1,?_⟩;simp[eqGuard,Go.binOp,eql,Op.equalIn,run_underlying ht];done)|(refine⟨_,hk2,?_⟩;simp[eqGuard,Go.binOp,eql,Op.equalIn,run_underlying ht];done)|(refine⟨_,hk,?_⟩;simp[eqGuard,Go.binOp,eql,Op.equalIn,run_underlying ht];done)|(subst h0;simp at*;done))
  |(refine⟨_,hk,?_⟩;rcases hc rfl with h|h<;>(cases u<;>cases v<;>first|(simp[KZ]at h;done)|(simp[eqGuard,Go.binOp,eql,Op.equalIn,run_underlying ht];done)))
  |skip
theorem vN{ks:b5l Nat}{xs ys:b5l AV}{b:b5n}(h:As (0::ks) xs ys=some b):∃k a b' xs' ys' c,xs=.v (.int k a)::xs'/\ys=.v (.int k b')::ys'/\As ks xs' ys'=some c/\b=(a==b'&&c):=by
 unfold As at h;split at h
 ·rename_i h1;cases h1
 ·rename_i ks2 k a xs' k' b' ys' h1;cases h1;split at h
  ·rename_i hk;subst hk;obtain⟨c,hc,rfl⟩:=Option.map_eq_some_iff.1 h;exact⟨k,a,b',xs',ys',c,rfl,rfl,hc,rfl⟩
  ·cases h
 ·rename_i h1;cases h1
 ·rename_i h1;cases h1
 ·cases h
theorem zJ{ks:b5l Nat}{xs ys:b5l AV}{b:b5n}(h:As (1::ks) xs ys=some b):∃a b' xs' ys' c,xs=.v (.bool a)::xs'/\ys=.v (.bool b')::ys'/\As ks xs' ys'=some c/\b=(a==b'&&c):=by
 unfold As at h;split at h
 ·rename_i h1;cases h1
 ·rename_i h1;cases h1
 ·rename_i ks2 a xs' b' ys' h1;cases h1;obtain⟨c,hc,rfl⟩:=Option.map_eq_some_iff.1 h;exact⟨a,b',xs',ys',c,rfl,rfl,hc,rfl⟩
 ·rename_i h1;cases h1
 ·cases h
theorem a6s{ks:b5l Nat}{xs ys:b5l AV}{b:b5n}(h:As (2::ks) xs ys=some b):∃a b' xs' ys' c,xs=.v (.string a)::xs'/\ys=.v (.string b')::ys'/\As ks xs' ys'=some c/\b=(a==b'&&c):=by
 unfold As at h;split at h
 ·rename_i h1;cases h1
 ·rename_i h1;cases h1
 ·rename_i h1;cases h1
 ·rename_i ks2 a xs' b' ys' h1;cases h1;obtain⟨c,hc,rfl⟩:=Option.map_eq_some_iff.1 h;exact⟨a,b',xs',ys',c,rfl,rfl,hc,rfl⟩
 ·cases h
theorem iF{n:Nat}(vx vy:Array Value)(w:World):∀(l:b5l Field) (i:Nat) (ks:b5l Nat) (xs ys:b5l AV) (b:b5n),Ib P l i=some ks->(∀(j:Nat) av,xs[j]? =some av->∃v,vx[i+j]? =some v/\Rel σ av v)->(∀(j:Nat) av,ys[j]? =some av->∃v,vy[i+j]? =some v/\Rel σ av v)->As ks xs ys=some b->
  (forIn l (none,()) λf (__s:b5m b5n × Unit)=>(if f.name= "_" then pure (ForInStep.yield (none,())) else do
   let a <-part f.type vx f.offset
   let c <-part f.type vy f.offset
   let r <-Op.equalIn (n+1) f.type a c
   if r=false then pure (ForInStep.done (some false,())) else pure (ForInStep.yield (none,())):Sem (ForInStep (b5m b5n × Unit)))).run P w=.ok (if b=true then(none,()) else(some false,())) w
 |[],i,ks,xs,ys,b,hk,_,_,he=>by
  cases hk;unfold As at he;split at he<;>simp_all
 |f::r,i,ks,xs,ys,b,hk,hx,hy,he=>by
  unfold Ib at hk;split at hk
  ·rename_i hf;obtain⟨ho,hnm,hag⟩:=hf;have key:∀(x y:AV) (xs' ys':b5l AV) (vx0 vy0:Value) (ks':b5l Nat) (r0 c:b5n),xs=x::xs'->ys=y::ys'->vx[i]? =some vx0->vy[i]? =some vy0->Ib P r (i+1)=some ks'->As ks' xs' ys'=some c->b=(r0&&c)->(Op.equalIn (n+1) f.type vx0 vy0).run P w=.ok r0 w->(forIn (f::r) (none,()) λf (__s:b5m b5n × Unit)=>(if f.name= "_" then pure (ForInStep.yield (none,())) else do
   let a <-part f.type vx f.offset
   let c <-part f.type vy f.offset
   let r <-Op.equalIn (n+1) f.type a c
   if r=false then pure (ForInStep.done (some false,())) else pure (ForInStep.yield (none,())):Sem (ForInStep (b5m b5n × Unit)))).run P w=.ok (if b=true then(none,()) else(some false,())) w:=by
    intro x y xs' ys' vx0 vy0 ks' r0 c ex ey hx0 hy0 hks' hc hb he0;subst ex ey;have px:=Sc (P:=P) hag vx f.offset w;have py:=Sc (P:=P) hag vy f.offset w;rw[ho]at px py;simp only[hx0]at px;simp only[hy0]at py
    have ih:=iF (n:=n) vx vy w r (i+1) ks' xs' ys' c hks' (λj av hj=>by
     have:=hx (j+1) av (by simpa using hj)
     rwa [show i+(j+1)=i+1+j by omega]at this) (λj av hj=>by
     have:=hy (j+1) av (by simpa using hj)
     rwa [show i+(j+1)=i+1+j by omega]at this) hc
    cases r0 with
    |true=>
     simp only[Bool.true_and]at hb;subst hb;simpa[List.forIn_cons,hnm,ho,px,py,he0]using ih
    |false=>
     simp only[Bool.false_and]at hb;subst hb;simp[List.forIn_cons,hnm,ho,px,py,he0]
   have first:∀(x y:AV) (xs' ys':b5l AV),xs=x::xs'->ys=y::ys'->∃vx0 vy0,vx[i]? =some vx0/\vy[i]? =some vy0/\Rel σ x vx0/\Rel σ y vy0:=by
    intro x y xs' ys' ex ey;subst ex ey;obtain⟨v1,h1,h2⟩:=hx 0 x rfl;obtain⟨v2,h3,h4⟩:=hy 0 y rfl;exact⟨v1,v2,by simpa using h1,by simpa using h3,h2,h4⟩
   split at hk
   ·rename_i ik hu;obtain⟨ks',hks',rfl⟩:=Option.map_eq_some_iff.1 hk;obtain⟨k,a,b',xs',ys',c,e1,e2,hc,rfl⟩:=vN he;obtain⟨v1,v2,q1,q2,r1,r2⟩:=first _ _ _ _ e1 e2;cases r1 with
    |v _ _=>
    cases r2 with
    |v _ _=>exact key _ _ _ _ _ _ _ _ c e1 e2 q1 q2 hks' hc rfl (by simp[Op.equalIn,run_underlying hu])
   ·rename_i hu;obtain⟨ks',hks',rfl⟩:=Option.map_eq_some_iff.1 hk;obtain⟨a,b',xs',ys',c,e1,e2,hc,rfl⟩:=zJ he;obtain⟨v1,v2,q1,q2,r1,r2⟩:=first _ _ _ _ e1 e2;cases r1 with
    |v _ _=>
    cases r2 with
    |v _ _=>exact key _ _ _ _ _ _ _ _ c e1 e2 q1 q2 hks' hc rfl (by simp[Op.equalIn,run_underlying hu])
   ·rename_i hu;obtain⟨ks',hks',rfl⟩:=Option.map_eq_some_iff.1 hk;obtain⟨a,b',xs',ys',c,e1,e2,hc,rfl⟩:=a6s he;obtain⟨v1,v2,q1,q2,r1,r2⟩:=first _ _ _ _ e1 e2;cases r1 with
    |v _ _=>
    cases r2 with
    |v _ _=>exact key _ _ _ _ _ _ _ _ c e1 e2 q1 q2 hks' hc rfl (by simp[Op.equalIn,run_underlying hu])
   ·cases hk
  ·cases hk
theorem zW{t:TypeId}{c:HB}(hd:eqK P t=some c){p q:AV}{x y:Value}(hp:Rel σ p x)(hq:Rel σ q y){K:b5n->Prop}(hk:Ee c p q K)(u v:Operand)(hc:c=.iface->KZ u\/KZ v)(op:BinOp)(hop:op=.eql\/op=.neq):
  ∃b,K b/\(do eqGuard op t u v x y;binOp op t x y:Sem Value).run P σ.w=.ok (.bool (if op=.eql then b else !b)) σ.w:=by
 unfold eqK at hd;split at hd
 ·rename_i ks hks;cases hd;unfold oQ at hks;split at hks
  ·rename_i fs hu;split at hks
   ·rename_i hcond;simp only[b47,b5f]at hcond;cases p<;>simp only[Ee]at hk<;>try (exact hk.elim)
    cases q<;>simp only[Ee]at hk<;>try (exact hk.elim)
    rename_i xs ys;unfold Zy at hk;split at hk
    ·rename_i b hb;refine⟨b,hk,?_⟩;cases hp with
     |agg _ vx hn _ xv hx hr=>
     cases hq with
     |agg _ vy hn' _ yv hy hr'=>
     have hgen:∀n,(Op.equalIn (n+1+1) t (.agg vx) (.agg vy)).run P σ.w=.ok b σ.w:=by
      intro n;have hloop:=iF (P:=P) (σ:=σ) (n:=n) vx vy σ.w fs.toList 0 ks xs ys b hks (λj av hj=>⟨_,by simpa using hx j av hj,hr j av hj⟩) (λj av hj=>⟨_,by simpa using hy j av hj,hr' j av hj⟩) hb;rw[Op.equalIn];simp[run_underlying hu,hcond.1];rw[<-Array.forIn_toList,hloop];cases b<;>simp
     have heq:(Op.equal t (.agg vx) (.agg vy)).run P σ.w=.ok b σ.w:=hgen 9998
     have hguard:(eqGuard op t u v (.agg vx) (.agg vy)).run P σ.w=.ok () σ.w:=by
      rcases hop with rfl|rfl<;>simp[eqGuard,hcond.2]
     rw[Sem.run_bind,hguard];rcases hop with rfl|rfl<;>simp[Go.binOp,heq]
    ·exact hk.elim
   ·cases hks
  ·cases hks
 ·obtain⟨d,h1,h2⟩:=Option.bind_eq_some_iff.1 hd;exact sO h1 h2 hp hq hk u v hc op hop
def VT(op:UnOp)(x:AV)(K:AV->Prop):Prop:=
 match op,x with
 |.not,.v (.bool b)=>K (.v (.bool (!b)))
 |.neg,.v (.int k n)=>K (.v (.int k (k.wrap (0 - n))))
 |.xor,.v (.int k n)=>K (.v (.int k (I3 .xor k (if k.signed then -1 else k.max) n)))
 |_,_=>False
theorem o6{op:UnOp}{p:AV}{x:Value}(hp:Rel σ p x){K:AV->Prop}(hk:VT op p K):∃av z,K av/\Rel σ av z/\(Op.unary op x).run P σ.w=.ok z σ.w:=by
 unfold VT at hk;split at hk
 ·cases hp;exact⟨_,_,hk,.v _ rfl,by simp[Op.unary]⟩
 ·cases hp;exact⟨_,_,hk,.v _ rfl,by simp[Op.unary,Op.intArith]⟩
 ·cases hp;exact⟨_,_,hk,.v _ rfl,by simp[Op.unary,Op.intBits,I3]⟩
 ·exact hk.elim
inductive CK where
 |num (k:IntKind)
 |XH
 |same
 |str
 deriving DecidableEq
def S5(l:b5l UInt8):b5l (b5l AV):=l.map λb=>[.v (.int .u8 b.toNat)]
def Nw(c:CK)(x:AV)(K:AV->Prop):Prop:=
 match c,x with
 |.num k,.v (.int _ n)=>K (.v (.int k (k.wrap n)))
 |.XH,.v (.int _ n)=>K (.v (.string (Utf8.encode n)))
 |.same,.v (.string s)=>K (.v (.string s))
 |.str,.nil=>K (.v (.string .empty))
 |.str,.sl els _=>∃l,els=S5 l/\K (.v (.string ⟨l.toArray⟩))
 |_,_=>False
def Ec(P:Program)(src dst:TypeId):b5m CK:=
 match P.underlying src,P.underlying dst with
 |some (.int _),some (.int k)=>some (.num k)
 |some (.int _),some .string=>some .XH
 |some .string,some .string=>some .same
 |some (.slice e),some .string=>match P.underlying e with
  |some (.int .u8)=>some .str
  |_=>none
 |_,_=>none
theorem a03{src dst:TypeId}{k:IntKind}(h:Ec P src dst=some (.num k)):∃j,P.underlying src=some (.int j)/\P.underlying dst=some (.int k):=by
 unfold Ec at h;split at h<;>(try (split at h))<;>simp_all
theorem yC{src dst:TypeId}(h:Ec P src dst=some .XH):∃j,P.underlying src=some (.int j)/\P.underlying dst=some .string:=by
 unfold Ec at h;split at h<;>(try (split at h))<;>simp_all
theorem a1a{src dst:TypeId}(h:Ec P src dst=some .same):P.underlying src=some .string/\P.underlying dst=some .string:=by
 unfold Ec at h;split at h<;>(try (split at h))<;>simp_all
theorem iq{src dst:TypeId}(h:Ec P src dst=some .str):∃e,P.underlying src=some (.slice e)/\P.underlying e=some (.int .u8)/\P.underlying dst=some .string:=by
 unfold Ec at h;split at h<;>(try (split at h))<;>simp_all
theorem rn{src dst:TypeId}{c:CK}(hc:Ec P src dst=some c){p:AV}{x:Value}(hp:Rel σ p x){K:AV->Prop}(hk:Nw c p K):∃av z,K av/\Rel σ av z/\(convert src dst x).run P σ.w=.ok z σ.w:=by
 unfold Nw at hk;split at hk
 ·cases hp;obtain⟨j,hs,hd⟩:=a03 hc;exact⟨_,_,hk,.v _ rfl,by simp[convert,run_underlying hs,run_underlying hd,Conv.intToInt]⟩
 ·cases hp;obtain⟨j,hs,hd⟩:=yC hc;exact⟨_,_,hk,.v _ rfl,by simp[convert,run_underlying hs,run_underlying hd,Conv.intToString]⟩
 ·cases hp;obtain⟨hs,hd⟩:=a1a hc;exact⟨_,_,hk,.v _ rfl,by simp[convert,run_underlying hs,run_underlying hd]⟩
 ·cases hp;obtain⟨e,hs,he,hd⟩:=iq hc;exact⟨_,_,hk,.v _ rfl,by simp[convert,run_underlying hs,run_underlying hd,run_underlying he,Conv.bytesToString]⟩
 ·rename_i els tok;obtain⟨l,hl,hk⟩:=hk;obtain⟨e,hs,he,hd⟩:=iq hc;cases hp with
  |sl0 _ _=>
   have:l=[]:=by simpa[S5]using hl
   subst this;exact⟨_,_,hk,.v _ rfl,by simp[convert,run_underlying hs,run_underlying hd,run_underlying he,Conv.bytesToString];rfl⟩
  |L3 _ sa scap _ _=>
   have:l=[]:=by simpa[S5]using hl
   subst this;exact⟨_,_,hk,.v _ rfl,by simp[convert,run_underlying hs,run_underlying hd,run_underlying he,Conv.bytesToString,loadCells,loadCellsFrom];rfl⟩
  |sl _ _ b o cap size xs hs' hcap htk hz hcc hr=>
   have hlen:els.length=l.length:=by rw[hl];simp[S5]
   have hel:∀j (hj:j<l.length),els[j]? =some [.v (.int .u8 l[j].toNat)]:=by intro j hj;rw[hl];simp[S5,hj]
   refine⟨_,_,hk,.v _ rfl,?_⟩;rw[hlen];refine run_convert_bytes_back σ.w src dst e _ cap l hs he hd λj hj=>?_
   have h1:=hs' _ _ (hel j hj);simp at h1;subst h1;obtain⟨h2,_⟩:=hcc _ _ (hel j hj) 0 _ rfl;have h3:=hr _ _ (hel j hj) 0 _ rfl;have h4:xs j 0=.int .u8 l[j].toNat:=by generalize xs j 0=y at h3;cases h3;rfl
   rw[AS];rw[h4]at h2;simpa using h2
 ·exact hk.elim
def LI(str:b5n)(x:AV)(K:AV->Prop):Prop:=
 match str,x with
 |true,.v (.string s)=>K (.v (.int .i64 s.size))
 |false,.nil=>K (.v (.int .i64 0))
 |false,.sl els _=>K (.v (.int .i64 els.length))
 |false,.row _ _ _ len _=>K (.v (.int .i64 len))
 |false,.bb .nil [] _=>K (.v (.int .i64 0))
 |false,.bb (.own _) els _=>K (.v (.int .i64 els.length))
 |_,_=>False
def lenOf(P:Program)(t:TypeId):b5m b5n:=
 match P.underlying t with
 |some .string=>some true
 |some (.slice _)=>some false
 |_=>none
theorem tP{t:TypeId}(h:lenOf P t=some true):P.underlying t=some .string:=by
 unfold lenOf at h;split at h<;>simp_all
theorem OE{t:TypeId}(h:lenOf P t=some false):∃e,P.underlying t=some (.slice e):=by
 unfold lenOf at h;split at h<;>simp_all
theorem Yp{els:b5l (b5l AV)}{tok:Tok}{a:b5m Addr}{n cap:Nat}(h:Rel σ (.sl els tok) (.slice a n cap)):n=els.length:=by
 cases h<;>rfl
theorem b3x{t ty:TypeId}{str:b5n}(ht:lenOf P t=some str){p:AV}{x:Value}(hp:Rel σ p x){K:AV->Prop}(hk:LI str p K):
  ∃av z,K av/\Rel σ av z/\(Builtin.len_ #[t] ty #[x]).run P σ.w=.ok z σ.w:=by
 unfold LI at hk;split at hk
 ·cases hp;exact⟨_,_,hk,.v _ rfl,by simp[Builtin.len_,run_underlying (tP ht),goInt]⟩
 ·cases hp;obtain⟨e,he⟩:=OE ht;exact⟨_,_,hk,.v _ rfl,by simp[Builtin.len_,run_underlying he,goInt]⟩
 ·rename_i els tok;obtain⟨e,he⟩:=OE ht;cases hp with
  |sl0 _ _=>exact⟨_,_,hk,.v _ rfl,by simp[Builtin.len_,run_underlying he,goInt]⟩
  |L3 _ sa scap _ _=>exact⟨_,_,hk,.v _ rfl,by simp[Builtin.len_,run_underlying he,goInt]⟩
  |sl _ _ b o cap size xs hs' hcap htk hz hcc hr=>exact⟨_,_,hk,.v _ rfl,by simp[Builtin.len_,run_underlying he,goInt]⟩
 ·obtain⟨e,he⟩:=OE ht;cases hp with
  |row=>exact⟨_,_,hk,.v _ rfl,by simp[Builtin.len_,run_underlying he,goInt]⟩
 ·obtain⟨e,he⟩:=OE ht;cases hp with
  |CC=>exact⟨_,_,hk,.v _ rfl,by simp[Builtin.len_,run_underlying he,goInt]⟩
 ·obtain⟨e,he⟩:=OE ht;cases hp with
  |Ab id els u a n cap h hu=>
   have:=Yp h;subst this;exact⟨_,_,hk,.v _ rfl,by simp[Builtin.len_,run_underlying he,goInt]⟩
 ·exact hk.elim
def Ay(t:TypeId)(ok:b5n)(zero x:AV)(K:AV->Prop):Prop:=
 match x with
 |.iface u y=>if u=t then K (if ok then .tuple [y,.v (.bool true)] else y) else ok/\K (.tuple [zero,.v (.bool false)])
 |.v .nilIface=>ok=true/\K (.tuple [zero,.v (.bool false)])
 |_=>False
theorem Rel.pair{a b:AV}{x y:Value}(h:Rel σ a x)(k:Rel σ b y):Rel σ (.tuple [a,b]) (.tuple #[x,y]):=by
 refine Rel.tuple_mk rfl λi av hi=>?_
 match i with
 |0=>simp at hi;subst hi;exact⟨x,rfl,h⟩
 |1=>simp at hi;subst hi;exact⟨y,rfl,k⟩
 |i+2=>simp at hi
theorem tL{t xt:TypeId}{d:TypeDesc}(ht:P.underlying t=some d)(hd:∀m,d≠.interface m){ok:b5n}{zero:AV}{z:Value}(hzv:(zeroValue t).run P σ.w=.ok z σ.w)(hz:Rel σ zero z){p:AV}{x:Value}(hp:Rel σ p x){K:AV->Prop}(hk:Ay t ok zero p K):
  ∃av y,K av/\Rel σ av y/\(Instr.typeAssert x xt t ok).run P σ.w=.ok y σ.w:=by
 unfold Ay at hk;split at hk
 ·rename_i u y;cases hp with
  |iface _ _ x' hx'=>
  split at hk
  ·rename_i hu;subst hu;cases ok with
   |true=>exact⟨_,_,hk,Rel.pair hx' (.v _ rfl),by cases d<;>first|exact absurd rfl (hd _)|simp[Instr.typeAssert,run_underlying ht]⟩
   |false=>exact⟨_,_,hk,hx',by cases d<;>first|exact absurd rfl (hd _)|simp[Instr.typeAssert,run_underlying ht]⟩
  ·rename_i hu;obtain⟨rfl,hk⟩:=hk;exact⟨_,_,hk,Rel.pair hz (.v _ rfl),by cases d<;>first|exact absurd rfl (hd _)|simp[Instr.typeAssert,run_underlying ht,hu,hzv]⟩
 ·cases hp;obtain⟨rfl,hk⟩:=hk;exact⟨_,_,hk,Rel.pair hz (.v _ rfl),by cases d<;>first|exact absurd rfl (hd _)|simp[Instr.typeAssert,run_underlying ht,hzv]⟩
 ·exact hk.elim
def QY(i:Nat)(x:AV)(K:AV->Prop):Prop:=
 match x with
 |.tuple vs=>match vs[i]? with
  |some av=>K av
  |none=>False
 |_=>False
theorem a7l{i:Nat}{p:AV}{x:Value}(hp:Rel σ p x){K:AV->Prop}(hk:QY i p K):∃av y,K av/\Rel σ av y/\(Instr.extract x i).run P σ.w=.ok y σ.w:=by
 unfold QY at hk;split at hk
 ·split at hk
  ·rename_i vs _ av hav;obtain⟨xs,rfl,_,hx⟩:=hp.tuple_inv;obtain⟨y,hy,hr⟩:=hx i av hav;exact⟨av,y,hk,hr,by simp[Instr.extract,hy]⟩
  ·exact hk.elim
 ·exact hk.elim
end
section
variable {P:Program}{σ:Sg}{h:A3}
theorem BZ{w w':World}{b:Nat}(h:w'.heap[b]? =w.heap[b]?)(o:Nat):w'.cell? ⟨b,o,none⟩=w.cell? ⟨b,o,none⟩:=by simp[World.cell?,h]
theorem oT{w w':World}{b:Nat}(h:w'.heap[b]? =w.heap[b]?):w'.shape? b=w.shape? b:=by simp[World.shape?,h]
theorem uA{w:World}{b:Nat}{x:TypeId × Nat}(h:w.shape? b=some x):b<w.heap.size:=by
 by_cases hb:b<w.heap.size
 ·exact hb
 ·unfold World.shape? at h;rw[Array.getElem?_eq_none (by omega)]at h;cases h
theorem wB(w:World)(a:Addr)(v:Value)(b:Nat):(w.setCell a v).shape? b=w.shape? b:=by
 unfold World.shape? World.setCell;simp only[Array.getElem?_modify]
 by_cases hb:a.block=b
 ·rw[if_pos hb];cases hh:w.heap[b]? with
  |none=>rfl
  |some o=>
   cases o<;>simp only[Option.map_some]
   split<;>simp
 ·rw[if_neg hb]
theorem a0u(w:World)(a:Addr)(v:Value)(b o:Nat):Y6 (w.setCell a v) b o=Y6 w b o:=by
 unfold Y6 World.setCell;simp only[Array.getElem?_modify]
 by_cases hb:a.block=b
 ·rw[if_pos hb];cases hh:w.heap[b]? with
  |none=>rfl
  |some x=>cases x<;>rfl
 ·rw[if_neg hb]
theorem qU(b:Nat):∀(vs:b5l Value) (o:Nat) (w:World) (c k:Nat),Y6 (w.setCells b o vs) c k=Y6 w c k
 |[],o,w,c,k=>rfl
 |v::vs,o,w,c,k=>by
  simp only[World.setCells];rw[qU b vs (o+1) _ c k,a0u]
theorem LW(b:Nat):∀(vs:b5l Value) (o:Nat) (w:World) (c:Nat) {x:TypeId × Nat},w.shape? c=some x->(w.setCells b o vs).shape? c=some x
 |[],o,w,c,x,h=>h
 |v::vs,o,w,c,x,h=>by
  simp only[World.setCells];exact LW b vs (o+1) _ c (by rw[wB];exact h)
structure K9(w w':World):Prop where
 size:w.heap.size<=w'.heap.size
 old:∀b,b<w.heap.size->w'.heap[b]? =w.heap[b]?
 os:w'.os=w.os
 tape:w'.tape=w.tape
 output:w'.output=w.output
theorem K9.of_below{w w':World}(h:Below w.heap.size w w'):K9 w w':=⟨h.size,h.block,h.os,h.tape,h.output⟩
theorem K9.below{w w':World}(h:K9 w w'):Below w.heap.size w w':=⟨h.os,h.tape,h.output,h.size,h.old⟩
theorem K9.refl(w:World):K9 w w:=⟨Nat.le_refl _,λ_ _=>rfl,rfl,rfl,rfl⟩
theorem K9.trans{a b c:World}(h:K9 a b)(k:K9 b c):K9 a c:=
 ⟨Nat.le_trans h.size k.size,λx hx=>(k.old x (Nat.lt_of_lt_of_le hx h.size)).trans (h.old x hx),k.os.trans h.os,k.tape.trans h.tape,k.output.trans h.output⟩
theorem K9.alloc(w:World)(o:Obj):K9 w (w.alloc o):=K9.of_below ((Below.refl _ _).alloc (Nat.le_refl _) o)
theorem K9.drew(w:World):K9 w w.drew:=K9.of_below (Below.refl _ _).drew
theorem Le.world{w':World}(hw:K9 σ.w w'):Le σ {σ with w:=w'} where
 blk _ _ h:=h
 buf _ e h:=⟨e,h,Nat.le_refl _,rfl,λ_=>rfl⟩
 outer:=rfl
 cell b o hb _:=BZ (hw.old b hb) o
 ext b o hb:=by
  obtain⟨v,hv⟩:=Option.isSome_iff_exists.1 hb;rw[BZ (hw.old b (aO hv))];exact hb
 whole b hb _:=hw.old b hb
 shape b x hx:=by
  have hb:b<σ.w.heap.size:=uA hx;exact(oT (hw.old b hb)).trans hx
 own _ _ _ h:=h
 size:=hw.size
 os:=hw.os
 tape:=hw.tape
 output:=hw.output
theorem Rd{w:World}{b:Nat}{o:Obj}(h:w.heap[b]? =some o):b<w.heap.size:=by
 by_cases hb:b<w.heap.size
 ·exact hb
 ·rw[Array.getElem?_eq_none (by omega)]at h;cases h
theorem Inv.world{w':World}(hi:Inv h σ)(hw:K9 σ.w w'):Inv h {σ with w:=w'} where
 blk n cells hn:=by
  obtain⟨b,h1,h2⟩:=hi.blk n cells hn;exact⟨b,h1,h2.keep (Le.world hw) (hw.old b h2.lt)⟩
 dom:=hi.dom
 inj:=hi.inj
 buf:=hi.buf
 K5:=hi.K5
 K8:=hi.K8
 M0 id e b o he hs:=by rw[BZ (hw.old b (hi.H4 id e b o he hs.tail))];exact hi.M0 id e b o he hs
 L5 id e b o he hs:=by rw[Mt (hw.old b (hi.H4 id e b o he hs))];exact hi.L5 id e b o he hs
 H4 id e b o he hs:=Nat.lt_of_lt_of_le (hi.H4 id e b o he hs) hw.size
 L6:=hi.L6
 I6:=hi.I6
 outer b o ho:=⟨Nat.lt_of_lt_of_le (hi.outer b o ho).1 hw.size,(hi.outer b o ho).2⟩
 F5 g cells hg:=(hi.F5 g cells hg).mono (Le.world hw)
theorem QN(hi:Inv h σ){cells:b5l AV}(obj:Obj)(hnew:∀σ',Le σ σ'->σ'.w.heap[σ.w.heap.size]? =some obj->S3 σ' σ.w.heap.size cells):
  ∃σ',σ'.w=σ.w.alloc obj/\Le σ σ'/\Inv ⟨h.A5++[some cells],h.A9,h.B0⟩ σ'/\Rel σ' (.ptr h.A5.length 0) (.pointer (some ⟨σ.w.heap.size,0,none⟩)):=by
 let σ':Sg:={σ with w:=σ.w.alloc obj,blk:=λn=>if n=h.A5.length then some σ.w.heap.size else σ.blk n}
 have hp:=K9.alloc σ.w obj;have hdom:∀n b,σ.blk n=some b->n<h.A5.length:=λn b hn=>hi.name hn
 have hblt:∀n b,σ.blk n=some b->b<σ.w.heap.size:=λn b hn=>hi.lt hn
 have hslt:=hi.H4
 have hle:Le σ σ':={
  blk:=λn b hn=>by
   show(if n=h.A5.length then some σ.w.heap.size else σ.blk n)=some b;rw[if_neg (by have:=hdom n b hn;omega)];exact hn
  buf:=λ_ e h=>⟨e,h,Nat.le_refl _,rfl,λ_=>rfl⟩
  outer:=rfl
  cell:=λb o hb _=>BZ (hp.old b hb) o
  ext:=(Le.world (σ:=σ) hp).ext
  whole:=λb hb _=>hp.old b hb
  shape:=(Le.world (σ:=σ) hp).shape
  own:=λb o hb ho=>by
   rcases ho with⟨n,hn⟩|hx
   ·simp only[σ']at hn;split at hn
    ·cases hn;omega
    ·exact .inl ⟨n,hn⟩
   ·exact .inr hx
  size:=hp.size
  os:=hp.os
  tape:=hp.tape
  output:=hp.output}
 refine⟨σ',rfl,hle,?_,?_⟩
 ·exact {
   blk:=λn cs hn=>by
    by_cases hl:n<h.A5.length
    ·rw[b49 hl]at hn;obtain⟨b,h1,h2⟩:=hi.blk n cs hn;exact⟨b,hle.blk n b h1,h2.keep hle (hp.old b h2.lt)⟩
    ·rw[b5a (by omega)]at hn
     have hz:n=h.A5.length:=by
      by_cases hz:n - h.A5.length=0
      ·omega
      ·rw[List.getElem?_eq_none (by simp;omega)]at hn;cases hn
     subst hz;simp at hn;subst hn;exact⟨σ.w.heap.size,if_pos rfl,hnew σ' hle (heap_alloc_new _ _)⟩
   dom:=λn b hn=>by
    simp only[σ']at hn;split at hn
    ·rename_i hz;subst hz;exact⟨cells,by simp⟩
    ·obtain⟨cs,hcs⟩:=hi.dom n b hn;exact⟨cs,by rw[b49 (hdom n b hn)];exact hcs⟩
   inj:=λn m b c c' hc hc' hz hz' hn hm=>by
    simp only[σ']at hn hm;split at hn<;>split at hm
    ·omega
    ·cases hn;have:=hblt m _ hm;omega
    ·cases hm;have:=hblt n _ hn;omega
    ·rw[b49 (hdom n b hn)]at hc;rw[b49 (hdom m b hm)]at hc';exact hi.inj n m b c c' hc hc' hz hz' hn hm
   buf:=hi.buf
   K5:=hi.K5
   K8:=hi.K8
   M0:=(hi.world hp).M0
   L5:=(hi.world hp).L5
   H4:=(hi.world hp).H4
   L6:=hi.L6
   I6:=λid e n b o he hs hn=>by
    simp only[σ']at hn;split at hn
    ·cases hn;have:=hslt id e _ o he hs;omega
    ·exact hi.I6 id e n b o he hs hn
   outer:=λb o ho=>by
    obtain⟨h1,h2⟩:=hi.outer b o ho;refine⟨Nat.lt_of_lt_of_le h1 hp.size,λhx=>?_⟩;exact h2 (hle.own b o h1 hx)
   F5:=λg cells hg=>(hi.F5 g cells hg).mono hle}
 ·exact .ptr _ _ _ (if_pos rfl)
theorem PT(hi:Inv h σ){cells:b5l AV}{vs:b5l Value}(hc:D3 σ cells vs)(T:TypeId):
  ∃σ',σ'.w=σ.w.alloc (.cells vs.toArray T)/\Le σ σ'/\Inv ⟨h.A5++[some cells],h.A9,h.B0⟩ σ'/\Rel σ' (.ptr h.A5.length 0) (.pointer (some ⟨σ.w.heap.size,0,none⟩)):=
 QN hi _ λσ' hle hb=>.cells _ vs [] T (by simpa using hb) (hc.mono hle)
theorem OR(hi:Inv h σ){n b:Nat}(hb:σ.blk n=some b){cells0:b5l AV}(hcs:h.A5[n]? =some (some cells0))(hz0:cells0≠[]){cells':b5l AV}{w':World}(q1:w'.heap.size=σ.w.heap.size)(q2:∀i,i≠b->w'.heap[i]? =σ.w.heap[i]?)(q3:w'.os=σ.w.os)(q4:w'.tape=σ.w.tape)(q5:w'.output=σ.w.output)(q6:∀o,(σ.w.cell? ⟨b,o,none⟩).isSome->(w'.cell? ⟨b,o,none⟩).isSome)(hnew:Le σ {σ with w:=w'}->S3 {σ with w:=w'} b cells')(hz1:S3 σ b []->∃cs e,w'.heap[b]? =some (.cells cs e (0,0)))(hz2:cells'≠[])(q7:∀x,σ.w.shape? b=some x->w'.shape? b=some x):Le σ {σ with w:=w'}/\Inv ⟨h.A5.set n (some cells'),h.A9,h.B0⟩ {σ with w:=w'}:=by
 have hlt:n<h.A5.length:=hi.name hb;have hne:∀c o,¬σ.own c o->c≠b:=by rintro c o ho rfl;exact ho (.inl ⟨n,hb⟩)
 have hle:Le σ {σ with w:=w'}:={
  blk:=λ_ _ h=>h
  buf:=λ_ e h=>⟨e,h,Nat.le_refl _,rfl,λ_=>rfl⟩
  outer:=rfl
  cell:=λc o _ ho=>BZ (q2 c (hne c o ho)) o
  ext:=λc o hc=>by
   by_cases hcb:c=b
   ·subst hcb;exact q6 o hc
   ·rw[show({σ with w:=w'}:Sg).w.cell? ⟨c,o,none⟩=σ.w.cell? ⟨c,o,none⟩ from BZ (q2 c hcb) o];exact hc
  whole:=λc _ ho=>q2 c (hne c 0 (ho 0))
  shape:=λc x hx=>by
   by_cases hcb:c=b
   ·subst hcb;exact q7 x hx
   ·rw[show({σ with w:=w'}:Sg).w.shape? c=σ.w.shape? c from oT (q2 c hcb)];exact hx
  own:=λ_ _ _ h=>h
  size:=Nat.le_of_eq q1.symm
  os:=q3
  tape:=q4
  output:=q5}
 refine⟨hle,?_⟩
 exact {
  blk:=λm cells' hm=>by
   by_cases hmn:m=n
   ·subst hmn;rw[List.getElem?_set_self hlt]at hm;cases hm;exact⟨b,hb,hnew hle⟩
   ·rw[List.getElem?_set_ne (Ne.symm hmn)]at hm;obtain⟨b2,k1,k2⟩:=hi.blk m cells' hm
    by_cases hb2:b2=b
    ·subst hb2
     by_cases hc0:cells'=[]
     ·subst hc0;obtain⟨cs,e,he⟩:=hz1 k2;exact⟨b2,k1,.cells [] [] cs.toList e (by simpa using he) ⟨rfl,λi av hi=>by simp at hi⟩⟩
     ·exact absurd (hi.inj m n b2 _ _ hm hcs hc0 hz0 k1 hb) hmn
    ·exact⟨b2,k1,k2.keep hle (q2 b2 hb2)⟩
  dom:=λm c hm=>by
   by_cases hmn:m=n
   ·subst hmn;exact⟨_,List.getElem?_set_self hlt⟩
   ·obtain⟨cells',hc'⟩:=hi.dom m c hm;exact⟨cells',by rw[List.getElem?_set_ne (Ne.symm hmn)];exact hc'⟩
  inj:=λm k c x y hx hy hx0 hy0 hm hk=>by
   have get:∀(m:Nat) (x:b5l AV),(h.A5.set n (some cells'))[m]? =some (some x)->x≠[]->∃x:b5l AV,h.A5[m]? =some (some x)/\x≠[]:=by
    intro m x hx hx0
    by_cases hmn:m=n
    ·subst hmn;exact⟨_,hcs,hz0⟩
    ·rw[List.getElem?_set_ne (Ne.symm hmn)]at hx;exact⟨x,hx,hx0⟩
   obtain⟨x',hx',hx0'⟩:=get m x hx hx0;obtain⟨y',hy',hy0'⟩:=get k y hy hy0;exact hi.inj m k c x' y' hx' hy' hx0' hy0' hm hk
  buf:=hi.buf
  K5:=hi.K5
  K8:=hi.K8
  M0:=λid e c o he hs=>by
   have hcb:c≠b:=λe2=>hi.I6 id e n c o he hs.tail (e2▸hb)
   rw[BZ (q2 c hcb)];exact hi.M0 id e c o he hs
  L5:=λid e c o he hs=>by
   have hcb:c≠b:=λe2=>hi.I6 id e n c o he hs (e2▸hb)
   rw[Mt (q2 c hcb)];exact hi.L5 id e c o he hs
  H4:=λid e c o he hs=>by rw[q1];exact hi.H4 id e c o he hs
  L6:=hi.L6
  I6:=hi.I6
  outer:=λc o ho=>⟨by rw[q1];exact(hi.outer c o ho).1,(hi.outer c o ho).2⟩
  F5:=λg cells hg=>(hi.F5 g cells hg).mono hle}
theorem OM(b:Nat):∀(vs:b5l Value) (o:Nat) (w:World) (a:Addr),(w.cell? a).isSome->((w.setCells b o vs).cell? a).isSome=true
 |[],_,w,a,h=>h
 |v::r,o,w,a,h=>by
  refine OM b r (o+1) (w.setCell ⟨b,o,none⟩ v) a ?_;obtain⟨x,hx⟩:=Option.isSome_iff_exists.1 h;have hs:a.spot=none:=World.cell?_spot hx;obtain⟨ab,ao,sp⟩:=a;simp only at hs;subst hs
  by_cases hb:ab=b
  ·subst hb;have hlt:=aO hx;cases hh:w.heap[ab]? with
   |none=>simp[World.cell?,hh]at hx
   |some obj=>
    cases obj<;>simp[World.cell?,hh]at hx
    simp only[World.cell?,World.setCell,Array.getElem?_modify,hh,if_true,Option.map_some];simp only[Option.isSome_none,Bool.false_eq_true,if_false];have:=(Array.getElem?_eq_some_iff.1 hx).1;simpa using this
  ·have:(w.setCell ⟨b,o,none⟩ v).heap[ab]? =w.heap[ab]? :=Below.heap_setCell w ⟨b,o,none⟩ v ab hb;rw[BZ this];exact h
theorem NR(b:Nat):∀(vs:b5l Value) (o:Nat) (w:World),(w.setCells b o vs).heap.size=w.heap.size/\(∀i,i≠b->(w.setCells b o vs).heap[i]? =w.heap[i]?)/\(w.setCells b o vs).os=w.os/\(w.setCells b o vs).tape=w.tape/\(w.setCells b o vs).output=w.output
 |[],_,w=>⟨rfl,λ_ _=>rfl,rfl,rfl,rfl⟩
 |v::r,o,w=>by
  obtain⟨h1,h2,h3,h4,h5⟩:=NR b r (o+1) (w.setCell ⟨b,o,none⟩ v);refine⟨h1.trans (by simp[World.setCell]),λi hi=>(h2 i hi).trans (Below.heap_setCell w ⟨b,o,none⟩ v i hi),h3,h4,h5⟩
theorem Rx(b:Nat)(T:TypeId)(fr:Nat × Nat):∀(vs:b5l Value) (o:Nat) (w:World) (cs:b5l Value),w.heap[b]? =some (.cells cs.toArray T fr)->o+vs.length<=cs.length->
  (w.setCells b o vs).heap[b]? =some (.cells (cs.take o++vs++cs.drop (o+vs.length)).toArray T fr)
 |[],o,w,cs,hw,_=>by simpa[World.setCells]using hw
 |v::r,o,w,cs,hw,hl=>by
  simp only[List.length_cons]at hl
  have hset:(w.setCell ⟨b,o,none⟩ v).heap[b]? =some (.cells (cs.take o++v::cs.drop (o+1)).toArray T fr):=by
   have hlt:=Rd hw;simp only[World.setCell,Array.getElem?_modify,hw];simp only[if_true,Option.map_some,Option.isSome_none,Bool.false_eq_true,if_false]
   congr 2
   apply Array.ext';simp only[Array.toList_setIfInBounds];rw[List.set_eq_take_append_cons_drop,if_pos (by omega)]
  have:=Rx b T fr r (o+1) _ _ hset (by simp;omega);simp only[World.setCells,this]
  congr 2
  have e1:(cs.take o++v::cs.drop (o+1)).take (o+1)=cs.take o++[v]:=by
   rw[List.take_append,List.length_take,Nat.min_eq_left (by omega)];simp[List.take_take,show o+1 - o=1 by omega]
  have e2:(cs.take o++v::cs.drop (o+1)).drop (o+1+r.length)=cs.drop (o+(r.length+1)):=by
   rw[List.drop_append,List.length_take,Nat.min_eq_left (by omega),List.drop_of_length_le (by simp;omega)];rw[show o+1+r.length - o=r.length+1 by omega];simp only[List.nil_append,List.drop_succ_cons,List.drop_drop]
   congr 1;omega
  rw[e1,e2];simp
def splice(l:b5l AV)(off:Nat)(xs:b5l AV):b5l AV:=l.take off++xs++l.drop (off+xs.length)
def AV.isTuple:AV->b5n
 |.tuple _=>true
 |_=>false
def Da(h:A3)(size:Nat)(p x:AV)(K:A3->Prop):Prop:=
 match p with
 |.ptr n off=>match h.A5[n]? with
  |some (some cells)=>((I4 cells=true/\x.cells.length=size/\off+size<=cells.length/\x.isTuple=false)/\K ⟨h.A5.set n (some (splice cells off x.cells)),h.A9,h.B0⟩)\/((size=0/\x.cells=[]/\x.isTuple=false)/\K h)
  |_=>False
 |_=>False
theorem D3.splice{c:b5l AV}{v:b5l Value}(hc:D3 σ c v){c':b5l AV}{v':b5l Value}(hc':D3 σ c' v')(off:Nat):D3 σ (splice c off c') (v.take off++v'++v.drop (off+v'.length)):=by
 unfold Lift.splice;have h1:=hc'.1;rw[h1];exact((hc.take off).append hc').append (hc.drop _)
theorem a5a(hi:Inv h σ){t:TypeId}{size:Nat}(ht:(P.info? t).map (·.size)=some size){p q:AV}{x y:Value}(hp:Rel σ p x)(hq:Rel σ q y){K:A3->Prop}(hk:Da h size p q K):
  ∃σ' h',(Instr.storeAt t x y).run P σ.w=.ok () σ'.w/\Le σ σ'/\Inv h' σ'/\K h':=by
 unfold Da at hk;split at hk
 ·rename_i n off;split at hk
  ·rename_i cells hcs;rcases hk with⟨⟨h0,h1,h2,h3⟩,hk⟩|⟨⟨h0,h1,h3⟩,hk⟩
   rotate_left
   ·cases hp with
    |ptr _ _ b hb=>
    have hv:=hq.cells (λvs h=>by subst h;simp[AV.isTuple]at h3)
    have hvl:y.cells=#[]:=by
     apply Array.ext';exact List.eq_nil_of_length_eq_zero (by rw[hv.1,h1];rfl)
    refine⟨σ,h,?_,Le.refl σ,hi,hk⟩;cases hinfo:P.info? t with
    |none=>simp[hinfo]at ht
    |some i=>
     have hi':i.size=0:=by rw[<-h0];simpa[hinfo]using ht
     simp[Instr.storeAt,Instr.sureAddr,storeVar,sizeOf,typeInfo,hinfo,hvl,hi',storeCells]
   cases hp with
   |ptr _ _ b hb=>
   obtain⟨b',hb',hbk⟩:=hi.blk n cells hcs;obtain⟨cs,rest,elem,hheap,hc⟩:=hbk.plain h0;rw[hb]at hb';cases hb';have hv:=hq.cells (λvs h=>by subst h;simp[AV.isTuple]at h3);have hvl:y.cells.toList.length=size:=by rw[hv.1,h1]
   have hcl:=hc.1;obtain⟨q1,q2,q3,q4,q5⟩:=NR b y.cells.toList off σ.w;have q6:=Rx b elem (0,0) y.cells.toList off σ.w (cs++rest) hheap (by rw[b5i];omega)
   have q7:(cs++rest).take off++y.cells.toList++(cs++rest).drop (off+y.cells.toList.length)=(cs.take off++y.cells.toList++cs.drop (off+y.cells.toList.length))++rest:=by
    rw[List.take_append_of_le_length (by omega),List.drop_append_of_le_length (by omega)];simp only[List.append_assoc]
   let σ':Sg:={σ with w:=σ.w.setCells b off y.cells.toList}
   obtain⟨hle,hinv⟩:=OR hi hb hcs (Ek h0) q1 q2 q3 q4 q5 (λo ho=>OM b y.cells.toList off σ.w _ ho) (λhle=>.cells (splice cells off q.cells) _ rest elem (by rw[<-q7];exact q6) ((hc.splice hv off).mono hle)) (λ_=>⟨_,_,q6⟩) (by
    intro hz;have h5:(splice cells off q.cells).length=0:=by rw[hz];rfl
    have h6:0<cells.length:=List.length_pos_iff.2 (Ek h0);simp only[splice,b5i,List.length_take,List.length_drop]at h5;omega) (λx hx=>LW b _ off _ b hx)
   refine⟨σ',_,?_,hle,hinv,hk⟩
   have hst:=run_storeCells_cells (P:=P) b off y.cells.toList 0 σ.w (λj hj=>by
     rw[BH hheap];have:off+0+j<(cs++rest).length:=by rw[b5i];omega
     simp only[Nat.add_zero]at this;simpa using this) (λj hj=>by simp[World.frozen?,hheap]) hv.oneCell
   cases hinfo:P.info? t with
   |none=>simp[hinfo]at ht
   |some i=>
    have hi':i.size=size:=by simpa[hinfo]using ht
    have hsz:y.cells.size=i.size:=by rw[hi'];simpa using hvl
    simp only[Nat.add_zero]at hst;simp[Instr.storeAt,Instr.sureAddr,storeVar,sizeOf,typeInfo,hinfo,hsz,hst,σ']
  ·exact hk.elim
 ·exact hk.elim
def Bf(zero:b5l AV):b5l ((Nat × Nat) × AV)->b5m (b5l AV)
 |[]=>some zero
 |((off,size),av)::r=>if(av.cells.length=size/\off+size<=zero.length)/\av.isTuple=false then Bf (splice zero off av.cells) r else none
theorem wJ(off:Nat):∀(vs:b5l Value) (cs:Array Value),off+vs.length<=cs.size->
  (vs.toArray.zipIdx.foldl (λcs (p:Value × Nat)=>cs.setIfInBounds (off+p.2) p.1) cs).toList=cs.toList.take off++vs++cs.toList.drop (off+vs.length):=by
 intro vs cs hl
 have key:∀(vs:b5l Value) (k:Nat) (cs:Array Value),off+k+vs.length<=cs.size->
   ((vs.zipIdx k).foldl (λ(cs:Array Value) (p:Value × Nat)=>cs.setIfInBounds (off+p.2) p.1) cs).toList=cs.toList.take (off+k)++vs++cs.toList.drop (off+k+vs.length):=by
  intro vs
  induction vs with
  |nil=>intro k cs _;simp
  |cons v r ih=>
   intro k cs hk;simp only[List.length_cons]at hk;simp only[List.zipIdx_cons,List.foldl_cons];rw[ih (k+1) _ (by simp;omega)];simp only[Array.toList_setIfInBounds,List.length_cons];rw[List.set_eq_take_append_cons_drop,if_pos (by simp;omega)];have hlen:(cs.toList.take (off+k)).length=off+k:=by simp;omega
   have e1:(cs.toList.take (off+k)++v::cs.toList.drop (off+k+1)).take (off+(k+1))=cs.toList.take (off+k)++[v]:=by
    rw[List.take_append,hlen,List.take_take];simp[show off+(k+1) - (off+k)=1 by omega,Nat.min_eq_right (show off+k<=off+(k+1) by omega)]
   have e2:(cs.toList.take (off+k)++v::cs.toList.drop (off+k+1)).drop (off+(k+1)+r.length)=cs.toList.drop (off+k+(r.length+1)):=by
    rw[List.drop_append,hlen,List.drop_of_length_le (by rw[hlen];omega),show off+(k+1)+r.length - (off+k)=r.length+1 by omega];simp only[List.nil_append,List.drop_succ_cons,List.drop_drop]
    congr 1;omega
   rw[e1,e2];simp
 have:=key vs 0 cs (by simpa using hl);simp only[Nat.add_zero]at this;rw[<-this,<-Array.foldl_toList];simp
theorem QP(S4:Nat->b5m (Nat × Nat)):∀(parts:b5l (Nat × Value)) (aps:b5l ((Nat × Nat) × AV)) (zero:b5l AV) (zs:Array Value) (cells:b5l AV),D3 σ zero zs.toList->parts.length=aps.length->
  (∀(i:Nat) (a:(Nat × Nat) × AV),aps[i]? =some a->∃(k:Nat) (x:Value),parts[i]? =some (k,x)/\S4 k=some a.1/\Rel σ a.2 x)->Bf zero aps=some cells->
  ∃cs,Instr.fill S4 zs parts=some cs/\D3 σ cells cs.toList
 |[],[],zero,zs,cells,hz,_,_,hf=>by simp[Bf]at hf;subst hf;exact⟨zs,rfl,hz⟩
 |[],_::_,_,_,_,_,hl,_,_=>by simp at hl
 |_::_,[],_,_,_,_,hl,_,_=>by simp at hl
 |(k,x)::parts,((off,size),av)::aps,zero,zs,cells,hz,hl,hp,hf=>by
  obtain⟨k',x',h1,h2,h3⟩:=hp 0 _ rfl;simp at h1;obtain⟨rfl,rfl⟩:=h1;simp only[Bf]at hf;split at hf
  ·rename_i hc;obtain⟨⟨c1,c2⟩,c3⟩:=hc;have hv:=h3.cells (λvs h=>by simp only at h;subst h;simp[AV.isTuple]at c3);have hvl:=hv.1;simp at hvl c1 c2;have hzl:=hz.1;simp at hzl;have hstep:=wJ off x.cells.toList zs (by simp;omega)
   obtain⟨cs,g1,g2⟩:=QP S4 parts aps (splice zero off av.cells) _ cells (by rw[hstep];exact hz.splice hv off) (by simpa using hl) (λi a ha=>by
    obtain⟨k2,x2,e1,e2,e3⟩:=hp (i+1) a (by simpa using ha);exact⟨k2,x2,by simpa using e1,e2,e3⟩) hf
   refine⟨cs,?_,g2⟩;simp only[Instr.fill,h2];rw[if_neg (by simp;omega)];simpa using g1
  ·cases hf
end
theorem GM{α:Type}{size:Nat}:∀(rows:b5l (b5l α)),(∀r∈rows,r.length=size)->∀i j,j<size->rows.flatten[i*size+j]? =(rows[i]?).bind (·[j]?)
 |[],_,i,j,_=>by simp
 |r::rows,h,i,j,hj=>by
  have hr:=h r (by simp);cases i with
  |zero=>rw[List.flatten_cons,Nat.zero_mul,Nat.zero_add,b49 (by omega)];rfl
  |succ i=>
   rw[List.flatten_cons,b5a (by rw[hr,Nat.add_mul];omega),hr];rw[show(i+1)*size+j - size=i*size+j by rw[Nat.add_mul];omega];rw[GM rows (λr hr=>h r (by simp[hr])) i j hj];rfl
theorem EU{α:Type}{size:Nat}:∀(rows:b5l (b5l α)),(∀r∈rows,r.length=size)->rows.flatten.length=rows.length*size
 |[],_=>by simp
 |r::rows,h=>by
  rw[List.flatten_cons,b5i,h r (by simp),EU rows (λr hr=>h r (by simp[hr])),List.length_cons,Nat.add_mul];omega
section
variable {P:Program}{σ:Sg}{h:A3}
def Dq(σ:Sg)(b o:Nat)(vs:b5l Value):Prop:=∀(k:Nat) (v:Value),vs[k]? =some v->σ.w.cell? ⟨b,o+k,none⟩=some v/\¬σ.open_ b (o+k)
theorem nV{els:b5l (b5l AV)}{tok:Tok}{b o n cap size:Nat}(hr:Rel σ (.sl els tok) (.slice (some ⟨b,o,none⟩) n cap))(hs:∀el∈els,el.length=size):
  ∃vs,D3 σ els.flatten vs/\Dq σ b o vs:=by
 cases hr with
 |L3 _ _ _ _ _=>exact⟨[],D3.nil σ,λk v hv=>by simp at hv⟩
 |sl _ _ _ _ _ sz xs hsz hcap htk hz hc hr=>
 by_cases hn:els=[]
 ·subst hn;exact⟨[],D3.nil σ,λk v hv=>by simp at hv⟩
 have hsz':sz=size:=by
  obtain⟨e,l,rfl⟩:=List.exists_cons_of_ne_nil hn;rw[<-hsz 0 e rfl];exact hs e (by simp)
 subst hsz';have hfl:=EU els hs
 by_cases h0:sz=0
 ·have:els.flatten=[]:=List.eq_nil_of_length_eq_zero (by rw[hfl,h0];omega);rw[this];exact⟨[],D3.nil σ,λk v hv=>by simp at hv⟩
 have key:∀k,k<els.flatten.length->∃el av,els[k / sz]? =some el/\el[k % sz]? =some av/\els.flatten[k]? =some av:=by
  intro k hk;rw[hfl]at hk;have h1:k / sz<els.length:=Nat.div_lt_of_lt_mul (by rw[Nat.mul_comm];exact hk);have h2:k % sz<sz:=Nat.mod_lt _ (by omega);have h3:els[k / sz]? =some els[k / sz]:=b48 h1;have h4:els[k / sz].length=sz:=hsz _ _ h3;have h5:(els[k / sz])[k % sz]? =some (els[k / sz])[k % sz]:=b48 (by omega);refine⟨_,_,h3,h5,?_⟩;have:=GM els hs (k / sz) (k % sz) h2;rw[show k / sz*sz+k % sz=k by rw[Nat.mul_comm];exact Nat.div_add_mod k sz]at this;rw[this,h3];exact h5
 refine⟨(List.range els.flatten.length).map λk=>xs (k / sz) (k % sz),⟨by simp,λk av hk=>?_⟩,λk v hv=>?_⟩
 ·have hlt:k<els.flatten.length:=by
   by_cases hl:k<els.flatten.length
   ·exact hl
   ·rw[List.getElem?_eq_none (by omega)]at hk;cases hk
  obtain⟨el,av',h1,h2,h3⟩:=key k hlt;rw[h3]at hk;cases hk;exact⟨(hc _ _ h1 _ _ h2).2.2,xs (k / sz) (k % sz),by simp only[b5b,List.getElem?_range hlt,Option.map_some],hr _ _ h1 _ _ h2⟩
 ·have hlt:k<els.flatten.length:=by
   by_cases hl:k<els.flatten.length
   ·exact hl
   ·rw[List.getElem?_eq_none (by simp only[List.length_map,List.length_range];omega)]at hv;cases hv
  obtain⟨el,av',h1,h2,h3⟩:=key k hlt;simp only[b5b,List.getElem?_range hlt,Option.map_some,b5j]at hv;subst hv;obtain⟨q1,q2,_⟩:=hc _ _ h1 _ _ h2;rw[show o+k / sz*sz+k % sz=o+k by rw[Nat.add_assoc,Nat.mul_comm,Nat.div_add_mod]]at q1 q2;exact⟨q1,q2⟩
theorem QX{els:b5l (b5l AV)}{tok:Tok}{b o cap size:Nat}{vs:b5l Value}(hs:∀el∈els,el.length=size)(hc:D3 σ els.flatten vs)(hl:Dq σ b o vs)(hcap:els.length<=cap)(ht:BM σ tok els.length (some ⟨b,o,none⟩) cap)(hz:∀id e,tok=.own id->σ.buf id=some e->e.size=size):Rel σ (.sl els tok) (.slice (some ⟨b,o,none⟩) els.length cap):=by
 have key:∀(i:Nat) (el:b5l AV),els[i]? =some el->∀(j:Nat) (av:AV),el[j]? =some av->av.isCell=true/\∃x,vs[i*size+j]? =some x/\Rel σ av x:=by
  intro i el hi j av hj
  have hjs:j<size:=by
   rw[<-hs el (b5g hi)];exact(List.getElem?_eq_some_iff.1 hj).1
  exact hc.2 _ _ (by rw[GM els hs i j hjs,hi];exact hj)
 refine .sl els tok b o cap size (λi j=>vs.getD (i*size+j) undef) (λi el hi=>hs el (b5g hi)) hcap ht hz ?_ ?_
 ·intro i el hi j av hj;obtain⟨h1,x,h2,h3⟩:=key i el hi j av hj;obtain⟨q1,q2⟩:=hl _ _ h2;rw[<-Nat.add_assoc]at q1 q2;exact⟨by rw[q1];simp[List.getD,h2],q2,h1⟩
 ·intro i el hi j av hj;obtain⟨h1,x,h2,h3⟩:=key i el hi j av hj;simpa[List.getD,h2]using h3
theorem Dq.mono{σ':Sg}(hle:Le σ σ'){b o:Nat}{vs:b5l Value}(hl:Dq σ b o vs):Dq σ' b o vs:=λk v hv=>hle.keeps (hl k v hv).1 (hl k v hv).2
def P6:AV->AV
 |.sl els (.own _)=>.sl els .no
 |x=>x
def Bj:AV->AV
 |.agg cs=>.agg (cs.map P6)
 |x=>P6 x
def wk:AV->AV
 |.tuple vs=>.tuple (vs.map Bj)
 |x=>Bj x
theorem qT(av:AV):(P6 av).isCell=av.isCell:=by
 unfold P6;split<;>rfl
theorem Rel.P6{av:AV}{x:Value}(hr:Rel σ av x):Rel σ (P6 av) x:=by
 unfold Lift.P6;split
 ·cases hr with
  |sl0 _ _=>exact .sl0 _ trivial
  |L3 _ a cap _ _=>exact .L3 _ a cap trivial (.inl rfl)
  |sl _ _ b o cap size xs hs hcap ht hz hc hr=>exact .sl _ _ b o cap size xs hs hcap trivial (λid e h=>by cases h) hc hr
 ·exact hr
theorem D3.wk{cells:b5l AV}{vs:b5l Value}(hc:D3 σ cells vs):D3 σ (cells.map P6) vs:=by
 refine⟨by simp[hc.1],λi av hi=>?_⟩;simp only[b5b,b43]at hi;obtain⟨b,hb,rfl⟩:=hi;obtain⟨h1,x,h2,h3⟩:=hc.2 i b hb;exact⟨by rw[qT];exact h1,x,h2,h3.P6⟩
theorem Rel.Bj{av:AV}{x:Value}(hr:Rel σ av x):Rel σ (Bj av) x:=by
 unfold Lift.Bj;split
 ·obtain⟨xs,rfl,hc⟩:=hr.agg_inv;exact Rel.agg_mk' hc.wk
 ·exact hr.P6
theorem Rel.wk{av:AV}{x:Value}(hr:Rel σ av x):Rel σ (wk av) x:=by
 unfold Lift.wk;split
 ·obtain⟨xs,rfl,hn,hx⟩:=hr.tuple_inv;refine Rel.tuple_mk (by simpa using hn) λi av hi=>?_
  simp only[b5b,b43]at hi;obtain⟨b,hb,rfl⟩:=hi;obtain⟨y,h1,h2⟩:=hx i b hb;exact⟨y,h1,h2.Bj⟩
 ·exact hr.Bj
theorem Vb(l:b5l UInt8):(S5 l).length=l.length:=by simp[S5]
theorem uS(l:b5l UInt8):∀el∈S5 l,el.length=1:=by
 intro el h;obtain⟨b,_,rfl⟩:=List.mem_map.1 h;rfl
theorem lR(σ:Sg)(l:b5l UInt8):D3 σ (S5 l).flatten (l.map λb=>Value.int .u8 b.toNat):=by
 have e:(S5 l).flatten=l.map λb=>AV.v (.int .u8 b.toNat):=by
  unfold S5
  induction l with
  |nil=>rfl
  |cons b l ih=>simp[ih]
 rw[e];refine⟨by simp,λi av hi=>?_⟩;simp only[b5b,b43]at hi;obtain⟨b,hb,rfl⟩:=hi;exact⟨rfl,_,by simp[hb],.v _ rfl⟩
def AV.els:AV->b5m (b5l (b5l AV))
 |.nil=>some []
 |.sl els _=>some els
 |.v (.string s)=>some (S5 s.data.toList)
 |_=>none
theorem SO{w:World}{size n b o l c:Nat}{vs:b5l Value}(hl:vs.length=n*size)(hv:∀k v,vs[k]? =some v->w.cell? ⟨b,o+k,none⟩=some v):
  (Builtin.firstCells size n (.slice (some ⟨b,o,none⟩) l c)).run P w=.ok vs.toArray w:=by
 have:=run_loadCells_list (P:=P) w ⟨b,o,none⟩ vs (λj v hj=>by rw[AS];exact hv j v hj);rw[hl]at this;simpa[Builtin.firstCells]using this
theorem aF{y:AV}{x:Value}(hr:Rel σ y x){ys:b5l (b5l AV)}(hy:y.els=some ys){size:Nat}(hs:∀el∈ys,el.length=size):
  ∃vs,D3 σ ys.flatten vs/\(∀w:World,(Builtin.lenOf x).run P w=.ok ys.length w)/\∀w:World,(∀(b o:Nat) (v:Value),σ.w.cell? ⟨b,o,none⟩=some v->w.cell? ⟨b,o,none⟩=some v)->(Builtin.firstCells size ys.length x).run P w=.ok vs.toArray w:=by
 cases hr with
 |nil=>
  simp only[AV.els,b5j]at hy;subst hy;exact⟨[],D3.nil σ,λw=>rfl,λw _=>rfl⟩
 |sl0 tok ht=>
  simp only[AV.els,b5j]at hy;subst hy;exact⟨[],D3.nil σ,λw=>rfl,λw _=>rfl⟩
 |L3 tok a cap ht hc=>
  simp only[AV.els,b5j]at hy;subst hy;exact⟨[],D3.nil σ,λw=>rfl,λw _=>by simp[Builtin.firstCells,loadCells,loadCellsFrom]⟩
 |sl els tok b o cap sz xs hsz hcap htk hz hc hr=>
  simp only[AV.els,b5j]at hy;subst hy;obtain⟨vs,h1,h2⟩:=nV (.sl els tok b o cap sz xs hsz hcap htk hz hc hr) hs;refine⟨vs,h1,λw=>rfl,λw hw=>SO (by rw[h1.1,EU els hs]) λk v hv=>hw _ _ _ (h2 k v hv).1⟩
 |v x hx=>
  cases x<;>simp only[AV.els]at hy<;>cases hy
  rename_i s;refine⟨_,lR σ s.data.toList,λw=>by simp[Builtin.lenOf,Vb],λw _=>?_⟩;rw[Vb];simp only[Builtin.firstCells,Sem.run_pure]
  congr 1
  apply Array.ext';simp only[Array.toList_map]
  congr 2
  have:s.extract 0 s.data.toList.length=s:=by
   apply ByteArray.ext;rw[ByteArray.data_extract];simp
  rw[this]
 |_=>simp[AV.els]at hy
theorem LQ(hi:Inv h σ)(e:Buf)(he:e.cur=e.cap)(h0:e.at_=none->e.cap=0)(hnone:e.cap=0:=by rfl):
  ∃σ',σ'.w=σ.w/\Le σ σ'/\Inv ⟨h.A5,h.A9++[(e.cur,e.size)],h.B0⟩ σ'/\σ'.buf h.A9.length=some e:=by
 let σ':Sg:={σ with buf:=λi=>if i=h.A9.length then some e else σ.buf i}
 have hlt:∀i f,σ.buf i=some f->i<h.A9.length:=by
  intro i f hf;have:=hi.K5 i f hf
  by_cases hl:i<h.A9.length
  ·exact hl
  ·rw[List.getElem?_eq_none (by omega)]at this;cases this
 have hne:∀b o,¬e.tail b o:=by
  rintro b o ⟨a,h1,h2,h3,h4⟩;exact h4 hnone
 have hbuf:∀i f,σ'.buf i=some f->(i=h.A9.length/\f=e)\/σ.buf i=some f:=by
  intro i f hf;simp only[σ']at hf;split at hf
  ·cases hf;exact .inl ⟨‹_›,rfl⟩
  ·exact .inr hf
 have hown:∀b o,σ'.own b o->σ.own b o:=by
  rintro b o (⟨n,hn⟩|⟨i,f,hf,hsp⟩)
  ·exact .inl ⟨n,hn⟩
  ·rcases hbuf i f hf with⟨_,rfl⟩|hf
   ·exact absurd hsp (hne b o)
   ·exact .inr ⟨i,f,hf,hsp⟩
 have hle:Le σ σ':={
  blk:=λ_ _ h=>h
  buf:=λi f hf=>⟨f,by show(if i=h.A9.length then some e else σ.buf i)=some f;rw[if_neg (by have:=hlt i f hf;omega)];exact hf,Nat.le_refl _,rfl,λ_=>rfl⟩
  outer:=rfl
  cell:=λ_ _ _ _=>rfl
  ext:=λ_ _ h=>h
  whole:=λ_ _ _=>rfl
  shape:=λ_ _ h=>h
  own:=λb o _ ho=>hown b o ho
  size:=Nat.le_refl _
  os:=rfl
  tape:=rfl
  output:=rfl}
 refine⟨σ',rfl,hle,?_,if_pos rfl⟩
 exact {
  blk:=λn cells hn=>by
   obtain⟨b,k1,k2⟩:=hi.blk n cells hn;exact⟨b,k1,k2.keep hle rfl⟩
  dom:=hi.dom
  inj:=hi.inj
  buf:=λi c hc=>by
   by_cases hl:i<h.A9.length
   ·rw[b49 hl]at hc;obtain⟨f,k1,k2⟩:=hi.buf i c hc;exact⟨f,by show(if i=h.A9.length then some e else σ.buf i)=some f;rw[if_neg (by omega)];exact k1,k2⟩
   ·rw[b5a (by omega)]at hc
    have hz:i=h.A9.length:=by
     by_cases hz:i - h.A9.length=0
     ·omega
     ·rw[List.getElem?_eq_none (by simp;omega)]at hc;cases hc
    subst hz;simp at hc;exact⟨e,if_pos rfl,hc⟩
  K5:=λi f hf=>by
   rcases hbuf i f hf with⟨rfl,rfl⟩|hf
   ·simp
   ·rw[b49 (hlt i f hf)];exact hi.K5 i f hf
  K8:=λi f hf=>by
   rcases hbuf i f hf with⟨rfl,rfl⟩|hf
   ·exact⟨Nat.le_of_eq he,h0⟩
   ·exact hi.K8 i f hf
  M0:=λi f b o hf hsp=>by
   rcases hbuf i f hf with⟨rfl,rfl⟩|hf
   ·exact absurd hsp.tail (hne b o)
   ·exact hi.M0 i f b o hf hsp
  L5:=λi f b o hf hsp=>by
   rcases hbuf i f hf with⟨rfl,rfl⟩|hf
   ·exact absurd hsp (hne b o)
   ·exact hi.L5 i f b o hf hsp
  H4:=λi f b o hf hsp=>by
   rcases hbuf i f hf with⟨rfl,rfl⟩|hf
   ·exact absurd hsp (hne b o)
   ·exact hi.H4 i f b o hf hsp
  L6:=λi j f g b o hf hg h1 h2=>by
   rcases hbuf i f hf with⟨rfl,rfl⟩|hf
   ·exact absurd h1 (hne b o)
   rcases hbuf j g hg with⟨rfl,rfl⟩|hg
   ·exact absurd h2 (hne b o)
   exact hi.L6 i j f g b o hf hg h1 h2
  I6:=λi f n b o hf hsp=>by
   rcases hbuf i f hf with⟨rfl,rfl⟩|hf
   ·exact absurd hsp (hne b o)
   ·exact hi.I6 i f n b o hf hsp
  outer:=λb o ho=>⟨(hi.outer b o ho).1,λhx=>(hi.outer b o ho).2 (hown b o hx)⟩
  F5:=λg cells hg=>(hi.F5 g cells hg).mono hle}
end
theorem Inv.reset{h:A3}{σ:Sg}(i1:Inv h σ){k:Nat}{c c':b5l AV}(hk:h.A5[k]? =some (some c))(hne:c≠[])(hat:∀b,S3 σ b c->S3 σ b c'):Inv ⟨h.A5.set k (some c'),h.A9,h.B0⟩ σ:=by
 have hkl:k<h.A5.length:=(List.getElem?_eq_some_iff.1 hk).1
 have hold:∀{j:Nat}{x:b5l AV},(h.A5.set k (some c'))[j]? =some (some x)->(j=k/\x=c')\/(j≠k/\h.A5[j]? =some (some x)):=by
  intro j x hj;rcases Classical.em (k=j) with h0|h0
  ·subst h0;rw[List.getElem?_set_self hkl]at hj;simp only[b5j]at hj;exact .inl ⟨rfl,hj.symm⟩
  ·rw[List.getElem?_set_ne h0]at hj;exact .inr ⟨λh=>h0 h.symm,hj⟩
 refine⟨λn x hn=>?_,λn b' hn=>?_,λn m b' x y hn hm hx hy h1 h2=>?_,i1.buf,i1.K5,i1.K8,i1.M0,i1.L5,i1.H4,i1.L6,i1.I6,i1.outer,i1.F5⟩
 ·rcases hold hn with⟨rfl,rfl⟩|⟨_,hn'⟩
  ·obtain⟨b,h1,h2⟩:=i1.blk _ c hk;exact⟨b,h1,hat b h2⟩
  ·exact i1.blk n x hn'
 ·obtain⟨x,hx⟩:=i1.dom n b' hn;show ∃y,(h.A5.set k _)[n]? =some (some y)
  rcases Classical.em (k=n) with h0|h0
  ·subst h0;rw[List.getElem?_set_self hkl];exact⟨_,rfl⟩
  ·rw[List.getElem?_set_ne h0];exact⟨x,hx⟩
 ·rcases hold hn with⟨rfl,rfl⟩|⟨_,hn'⟩<;>rcases hold hm with⟨rfl,rfl⟩|⟨_,hm'⟩
  ·rfl
  ·exact i1.inj _ _ b' c y hk hm' hne hy h1 h2
  ·exact i1.inj _ _ b' x c hn' hk hx hne h1 h2
  ·exact i1.inj _ _ b' x y hn' hm' hx hy h1 h2
section
variable {P:Program}{σ:Sg}{h:A3}
theorem c9(b o:Nat)(vs:b5l Value)(w:World)(hc:∀j,j<vs.length->(w.cell? ⟨b,o+j,none⟩).isSome)(k:Nat)(v:Value)(hk:vs[k]? =some v):(w.setCells b o vs).cell? ⟨b,o+k,none⟩=some v:=by
 have hlt:k<vs.length:=(List.getElem?_eq_some_iff.1 hk).1;have:=World.cell?_setCells_in b vs o w hc k hlt;rw[this]
 first|exact congrArg some (List.getElem?_eq_some_iff.1 hk).2|(rw[<-hk];simp[hlt])
theorem a4l(b o:Nat)(vs:b5l Value)(w:World)(c k:Nat)(h:c≠b\/k<o\/o+vs.length<=k):(w.setCells b o vs).cell? ⟨c,k,none⟩=w.cell? ⟨c,k,none⟩:=by
 refine World.cell?_setCells_out b vs o w ⟨c,k,none⟩ λhb _=>?_
 rcases h with h|h
 ·exact absurd hb h
 ·exact h
theorem aT(w:World)(cs:Array Value)(T:TypeId):(w.alloc (.cells cs T)).shape? w.heap.size=some (T,cs.size):=by
 have:=heap_alloc_new w (.cells cs T);unfold World.shape?;rw[this]
theorem ip{w:World}{b:Nat}{cs:Array Value}{T:TypeId}(h:w.heap[b]? =some (.cells cs T (0,0)))(o:Nat):Y6 w b o:=by simp[Y6,h]
theorem a80{w:World}{b:Nat}{cs:Array Value}{T:TypeId}(h:w.heap[b]? =some (.cells cs T (0,0)))(o:Nat):w.frozen? ⟨b,o,none⟩=false:=by simp[World.frozen?,h]
theorem ze(hi:Inv h σ){id:Nat}{e:Buf}(he:σ.buf id=some e){a:Addr}(ha:e.at_=some a){n:Nat}(hn:e.cur+n<=e.cap){cs:b5l AV}{vs:b5l Value}(hc:D3 σ cs vs)(hl:vs.length=n*e.size):
  ∃σ',σ'.w=σ.w.setCells a.block (a.off+e.cur*e.size) vs/\Le σ σ'/\Inv ⟨h.A5,h.A9.set id (e.cur+n,e.size),h.B0⟩ σ'/\σ'.buf id=some {e with cur:=e.cur+n}/\
   Dq σ' a.block (a.off+e.cur*e.size) vs/\(storeCells ⟨a.block,a.off+e.cur*e.size,none⟩ vs).run P σ.w=.ok () σ'.w:=by
 let e':Buf:={e with cur:=e.cur+n}
 let σ':Sg:={σ with w:=σ.w.setCells a.block (a.off+e.cur*e.size) vs,buf:=λi=>if i=id then some e' else σ.buf i}
 have hlt:id<h.A9.length:=by
  have:=hi.K5 id e he
  by_cases hl:id<h.A9.length
  ·exact hl
  ·rw[List.getElem?_eq_none (by omega)]at this;cases this
 have hmul:(e.cur+n)*e.size=e.cur*e.size+n*e.size:=Nat.add_mul _ _ _;have hcapm:e.cur*e.size+n*e.size<=e.cap*e.size:=by rw[<-hmul];exact Nat.mul_le_mul_right _ hn
 have hsp:∀j,j<vs.length->e.spare a.block (a.off+e.cur*e.size+j):=λj hj=>⟨a,ha,rfl,by omega,by omega⟩
 have hsub:∀b o,e'.spare b o->e.spare b o/\(b=a.block/\a.off+e.cur*e.size+vs.length<=o):=by
  rintro b o ⟨a',h1,h2,h3,h4⟩;have:e.at_=some a':=h1;rw[ha]at this;cases this;have h3':a.off+(e.cur+n)*e.size<=o:=h3;have h4':o<a.off+e.cap*e.size:=h4;rw[hmul]at h3';exact⟨⟨a,ha,h2,by omega,h4'⟩,h2.symm,by omega⟩
 have hsubT:∀b o,e'.tail b o->e.tail b o/\(b=a.block/\a.off+e.cur*e.size+vs.length<=o):=by
  rintro b o ⟨a',h1,h2,h3⟩;have:e.at_=some a':=h1;rw[ha]at this;cases this;have h3':a.off+(e.cur+n)*e.size<=o:=h3.1;rw[hmul]at h3';exact⟨⟨a,ha,h2,by omega,h3.2⟩,h2.symm,by omega⟩
 have hbuf:∀i f,σ'.buf i=some f->(i=id/\f=e')\/(i≠id/\σ.buf i=some f):=by
  intro i f hf;simp only[σ']at hf;split at hf
  ·cases hf;exact .inl ⟨‹_›,rfl⟩
  ·exact .inr ⟨‹_›,hf⟩
 have hown:∀b o,σ'.own b o->σ.own b o:=by
  rintro b o (⟨m,hm⟩|⟨i,f,hf,hs⟩)
  ·exact .inl ⟨m,hm⟩
  ·rcases hbuf i f hf with⟨rfl,rfl⟩|⟨_,hf⟩
   ·exact .inr ⟨i,e,he,(hsubT b o hs).1⟩
   ·exact .inr ⟨i,f,hf,hs⟩
 obtain⟨q1,q2,q3,q4,q5⟩:=NR a.block vs (a.off+e.cur*e.size) σ.w;have hsome:∀j,j<vs.length->(σ.w.cell? ⟨a.block,a.off+e.cur*e.size+j,none⟩).isSome:=λj hj=>hi.M0 id e _ _ he (hsp j hj)
 have hout:∀b o,(b≠a.block\/o<a.off+e.cur*e.size\/a.off+e.cur*e.size+vs.length<=o)->σ'.w.cell? ⟨b,o,none⟩=σ.w.cell? ⟨b,o,none⟩:=λb o ho=>a4l _ _ _ _ _ _ ho
 have hnot:∀b o,¬σ.own b o->(b≠a.block\/o<a.off+e.cur*e.size\/a.off+e.cur*e.size+vs.length<=o):=by
  intro b o ho
  by_cases hb:b=a.block
  ·subst hb;right
   by_cases h1:o<a.off+e.cur*e.size
   ·exact .inl h1
   ·right
    by_cases h2:a.off+e.cur*e.size+vs.length<=o
    ·exact h2
    ·refine absurd (.inr ⟨id,e,he,?_⟩) ho;have:=(hsp (o - (a.off+e.cur*e.size)) (by omega)).tail
     rwa [show a.off+e.cur*e.size+(o - (a.off+e.cur*e.size))=o by omega]at this
  ·exact .inl hb
 have hle:Le σ σ':={
  blk:=λ_ _ h=>h
  buf:=λi f hf=>by
   by_cases hid:i=id
   ·subst hid;rw[he]at hf;cases hf
    exact⟨e',if_pos rfl,Nat.le_add_right _ _,rfl,λhc=>by
     have:e.cur+n=e.cur:=hc;have:n=0:=by omega
     subst this;rfl⟩
   ·exact⟨f,by show(if i=id then some e' else σ.buf i)=some f;rw[if_neg hid];exact hf,Nat.le_refl _,rfl,λ_=>rfl⟩
  outer:=rfl
  cell:=λb o _ ho=>hout b o (hnot b o ho)
  ext:=λb o ho=>OM _ _ _ _ _ ho
  whole:=λb hb ho=>by
   by_cases hba:b=a.block
   ·subst hba
    have hz:vs=[]:=by
     cases vs with
     |nil=>rfl
     |cons v r=>exact absurd (.inr ⟨id,e,he,(hsp 0 (by simp)).tail⟩) (ho _)
    subst hz;rfl
   ·exact q2 b hba
  shape:=λb x hx=>LW _ _ _ _ _ hx
  own:=λb o _ ho=>hown b o ho
  size:=Nat.le_of_eq q1.symm
  os:=q3
  tape:=q4
  output:=q5}
 have hblkne:∀m b,σ.blk m=some b->vs≠[]->b≠a.block:=by
  rintro m b hm hv rfl;cases vs with
  |nil=>exact hv rfl
  |cons v r=>exact hi.I6 id e m _ _ he (hsp 0 (by simp)).tail hm
 refine⟨σ',rfl,hle,?_,if_pos rfl,?_,?_⟩
 ·exact {
   blk:=λm cells hm=>by
    obtain⟨b,k1,k2⟩:=hi.blk m cells hm;refine⟨b,k1,k2.keep hle ?_⟩
    by_cases hv:vs=[]
    ·subst hv;rfl
    ·exact q2 b (hblkne m b k1 hv)
   dom:=hi.dom
   inj:=hi.inj
   buf:=λi c hc=>by
    by_cases hid:i=id
    ·subst hid;rw[List.getElem?_set_self hlt]at hc;cases hc;exact⟨e',if_pos rfl,rfl⟩
    ·rw[List.getElem?_set_ne (Ne.symm hid)]at hc;obtain⟨f,k1,k2⟩:=hi.buf i c hc;exact⟨f,by show(if i=id then some e' else σ.buf i)=some f;rw[if_neg hid];exact k1,k2⟩
   K5:=λi f hf=>by
    rcases hbuf i f hf with⟨rfl,rfl⟩|⟨hid,hf⟩
    ·exact List.getElem?_set_self hlt
    ·rw[List.getElem?_set_ne (Ne.symm hid)];exact hi.K5 i f hf
   K8:=λi f hf=>by
    rcases hbuf i f hf with⟨rfl,rfl⟩|⟨hid,hf⟩
    ·exact⟨hn,(hi.K8 i e he).2⟩
    ·exact hi.K8 i f hf
   M0:=λi f b o hf hs=>by
    rcases hbuf i f hf with⟨rfl,rfl⟩|⟨hid,hf⟩
    ·obtain⟨s1,s2,s3⟩:=hsub b o hs;rw[hout b o (.inr (.inr s3))];exact hi.M0 i e b o he s1
    ·rw[hout b o ?_];exact hi.M0 i f b o hf hs
     by_cases hb:b=a.block
     ·subst hb;right
      by_cases h1:o<a.off+e.cur*e.size
      ·exact .inl h1
      ·right
       by_cases h2:a.off+e.cur*e.size+vs.length<=o
       ·exact h2
       ·refine absurd (hi.L6 i id f e _ o hf he hs.tail ?_) hid;have:=(hsp (o - (a.off+e.cur*e.size)) (by omega)).tail
        rwa [show a.off+e.cur*e.size+(o - (a.off+e.cur*e.size))=o by omega]at this
     ·exact .inl hb
   L5:=λi f b o hf hs=>by
    show Y6 (σ.w.setCells _ _ _) _ _=true;rw[qU];rcases hbuf i f hf with⟨rfl,rfl⟩|⟨hid,hf⟩
    ·exact hi.L5 i e b o he (hsubT b o hs).1
    ·exact hi.L5 i f b o hf hs
   H4:=λi f b o hf hs=>by
    show b<(σ.w.setCells _ _ _).heap.size;rw[q1];rcases hbuf i f hf with⟨rfl,rfl⟩|⟨hid,hf⟩
    ·exact hi.H4 i e b o he (hsubT b o hs).1
    ·exact hi.H4 i f b o hf hs
   L6:=λi j f g b o hf hg h1 h2=>by
    rcases hbuf i f hf with⟨rfl,rfl⟩|⟨hid,hf2⟩<;>rcases hbuf j g hg with⟨rfl,rfl⟩|⟨hjd,hg2⟩
    ·rfl
    ·exact hi.L6 _ _ _ _ b o he hg2 (hsubT b o h1).1 h2
    ·exact hi.L6 _ _ _ _ b o hf2 he h1 (hsubT b o h2).1
    ·exact hi.L6 i j f g b o hf2 hg2 h1 h2
   I6:=λi f m b o hf hs=>by
    rcases hbuf i f hf with⟨rfl,rfl⟩|⟨hid,hf⟩
    ·exact hi.I6 _ _ m b o he (hsubT b o hs).1
    ·exact hi.I6 i f m b o hf hs
   outer:=λb o ho=>⟨by show b<(σ.w.setCells _ _ _).heap.size;rw[q1];exact(hi.outer b o ho).1,λhx=>(hi.outer b o ho).2 (hown b o hx)⟩
   F5:=λg cells hg=>(hi.F5 g cells hg).mono hle}
 ·intro k v hk;have hlt':k<vs.length:=(List.getElem?_eq_some_iff.1 hk).1;refine⟨c9 _ _ _ _ hsome k v hk,?_⟩;rintro (hx|hx)
  ·exact(hi.outer _ _ hx).2 (.inr ⟨id,e,he,(hsp k hlt').tail⟩)
  ·rcases hx with⟨m,hm⟩|⟨i,f,hf,hs⟩
   ·exact hi.I6 id e m _ _ he (hsp k hlt').tail hm
   ·rcases hbuf i f hf with⟨rfl,rfl⟩|⟨hid,hf⟩
    ·have:=(hsubT _ _ hs).2.2;omega
    ·exact hid (hi.L6 i id f e _ _ hf he hs (hsp k hlt').tail)
 ·have:=run_storeCells_cells (P:=P) a.block (a.off+e.cur*e.size) vs 0 σ.w (by simpa using hsome) (λj hj=>by simpa using a82 (hi.L5 id e _ _ he (hsp j hj).tail)) hc.oneCell;simpa using this
theorem qN(hi:Inv h σ){id:Nat}{e:Buf}(he:σ.buf id=some e){n c:Nat}(hn:e.cap<e.cur+n)(hc:e.cur+n<=c){cs:b5l AV}{vs:b5l Value}(hv:D3 σ cs vs)(hl:vs.length=(e.cur+n)*e.size)(rest:b5l Value)(hr:rest.length=(c - (e.cur+n))*e.size)(T:TypeId):
  ∃σ',σ'.w=σ.w.drew.alloc (.cells (vs++rest).toArray T)/\Le σ σ'/\Inv ⟨h.A5,h.A9.set id (e.cur+n,e.size),h.B0⟩ σ'/\σ'.buf id=some ⟨e.cur+n,e.size,some ⟨σ.w.heap.size,0,none⟩,c⟩/\
   Dq σ' σ.w.heap.size 0 vs:=by
 let e':Buf:=⟨e.cur+n,e.size,some ⟨σ.w.heap.size,0,none⟩,c⟩
 let σ':Sg:={σ with w:=σ.w.drew.alloc (.cells (vs++rest).toArray T),buf:=λi=>if i=id then some e' else σ.buf i}
 have hlt:id<h.A9.length:=by
  have:=hi.K5 id e he
  by_cases hl:id<h.A9.length
  ·exact hl
  ·rw[List.getElem?_eq_none (by omega)]at this;cases this
 have hp:K9 σ.w (σ.w.drew.alloc (.cells (vs++rest).toArray T)):=(K9.drew _).trans (K9.alloc _ _);have hnew:(σ.w.drew.alloc (.cells (vs++rest).toArray T)).heap[σ.w.heap.size]? =some (.cells (vs++rest).toArray T (0,0)):=heap_alloc_new σ.w.drew _
 have hspn:∀b o,e'.spare b o->b=σ.w.heap.size/\vs.length<=o/\o<vs.length+rest.length:=by
  rintro b o ⟨a,h1,h2,h3,h4⟩;cases h1;have h3':0+(e.cur+n)*e.size<=o:=h3;have h4':o<0+c*e.size:=h4;have:c*e.size=(e.cur+n)*e.size+(c - (e.cur+n))*e.size:=by rw[<-Nat.add_mul];congr 1;omega
  exact⟨h2.symm,by omega,by omega⟩
 have hspT:∀b o,e'.tail b o->b=σ.w.heap.size/\vs.length<=o:=by
  rintro b o ⟨a,h1,h2,h3⟩;cases h1;have h3':0+(e.cur+n)*e.size<=o:=h3.1;exact⟨h2.symm,by omega⟩
 have hslt:=hi.H4
 have hbuf:∀i f,σ'.buf i=some f->(i=id/\f=e')\/(i≠id/\σ.buf i=some f):=by
  intro i f hf;simp only[σ']at hf;split at hf
  ·cases hf;exact .inl ⟨‹_›,rfl⟩
  ·exact .inr ⟨‹_›,hf⟩
 have hown:∀b o,b<σ.w.heap.size->σ'.own b o->σ.own b o:=by
  rintro b o hb (⟨m,hm⟩|⟨i,f,hf,hs⟩)
  ·exact .inl ⟨m,hm⟩
  ·rcases hbuf i f hf with⟨rfl,rfl⟩|⟨_,hf⟩
   ·have:=(hspT b o hs).1;omega
   ·exact .inr ⟨i,f,hf,hs⟩
 have hn0:n≠0:=by have:=(hi.K8 id e he).1;omega
 have hle:Le σ σ':={
  blk:=λ_ _ h=>h
  buf:=λi f hf=>by
   by_cases hid:i=id
   ·subst hid;rw[he]at hf;cases hf
    exact⟨e',if_pos rfl,Nat.le_add_right _ _,rfl,λhc=>by
     have:e.cur+n=e.cur:=hc;omega⟩
   ·exact⟨f,by show(if i=id then some e' else σ.buf i)=some f;rw[if_neg hid];exact hf,Nat.le_refl _,rfl,λ_=>rfl⟩
  outer:=rfl
  cell:=λb o hb _=>BZ (hp.old b hb) o
  ext:=(Le.world (σ:=σ) hp).ext
  whole:=λb hb _=>hp.old b hb
  shape:=(Le.world (σ:=σ) hp).shape
  own:=hown
  size:=hp.size
  os:=hp.os
  tape:=hp.tape
  output:=hp.output}
 have hblt:∀m b,σ.blk m=some b->b<σ.w.heap.size:=by
  intro m b hm;exact hi.lt hm
 refine⟨σ',rfl,hle,?_,if_pos rfl,?_⟩
 ·exact {
   blk:=λm cells hm=>by
    obtain⟨b,k1,k2⟩:=hi.blk m cells hm;exact⟨b,k1,k2.keep hle (hp.old b k2.lt)⟩
   dom:=hi.dom
   inj:=hi.inj
   buf:=λi c hc=>by
    by_cases hid:i=id
    ·subst hid;rw[List.getElem?_set_self hlt]at hc;cases hc;exact⟨e',if_pos rfl,rfl⟩
    ·rw[List.getElem?_set_ne (Ne.symm hid)]at hc;obtain⟨f,k1,k2⟩:=hi.buf i c hc;exact⟨f,by show(if i=id then some e' else σ.buf i)=some f;rw[if_neg hid];exact k1,k2⟩
   K5:=λi f hf=>by
    rcases hbuf i f hf with⟨rfl,rfl⟩|⟨hid,hf⟩
    ·exact List.getElem?_set_self hlt
    ·rw[List.getElem?_set_ne (Ne.symm hid)];exact hi.K5 i f hf
   K8:=λi f hf=>by
    rcases hbuf i f hf with⟨rfl,rfl⟩|⟨hid,hf⟩
    ·exact⟨hc,λh=>by cases h⟩
    ·exact hi.K8 i f hf
   M0:=λi f b o hf hs=>by
    rcases hbuf i f hf with⟨rfl,rfl⟩|⟨hid,hf⟩
    ·obtain⟨rfl,s2,s3⟩:=hspn b o hs;show((σ.w.drew.alloc _).cell? _).isSome=true;rw[BH hnew];simp;omega
    ·rw[BZ (hp.old b (hslt i f b o hf hs.tail))];exact hi.M0 i f b o hf hs
   L5:=λi f b o hf hs=>by
    rcases hbuf i f hf with⟨rfl,rfl⟩|⟨hid,hf⟩
    ·obtain⟨rfl,s2⟩:=hspT b o hs;show Y6 (σ.w.drew.alloc _) _ _=true;exact ip hnew o
    ·rw[Mt (hp.old b (hslt i f b o hf hs))];exact hi.L5 i f b o hf hs
   H4:=λi f b o hf hs=>by
    rcases hbuf i f hf with⟨rfl,rfl⟩|⟨hid,hf⟩
    ·obtain⟨rfl,s2⟩:=hspT b o hs;exact Rd hnew
    ·exact Nat.lt_of_lt_of_le (hslt i f b o hf hs) hp.size
   L6:=λi j f g b o hf hg h1 h2=>by
    rcases hbuf i f hf with⟨rfl,rfl⟩|⟨hid,hf2⟩<;>rcases hbuf j g hg with⟨rfl,rfl⟩|⟨hjd,hg2⟩
    ·rfl
    ·have:=(hspT b o h1).1;have:=hslt j g b o hg2 h2;omega
    ·have:=(hspT b o h2).1;have:=hslt i f b o hf2 h1;omega
    ·exact hi.L6 i j f g b o hf2 hg2 h1 h2
   I6:=λi f m b o hf hs hm=>by
    rcases hbuf i f hf with⟨rfl,rfl⟩|⟨hid,hf⟩
    ·have:=(hspT b o hs).1;have:=hblt m b hm;omega
    ·exact hi.I6 i f m b o hf hs hm
   outer:=λb o ho=>⟨Nat.lt_of_lt_of_le (hi.outer b o ho).1 hp.size,λhx=>(hi.outer b o ho).2 (hown b o (hi.outer b o ho).1 hx)⟩
   F5:=λg cells hg=>(hi.F5 g cells hg).mono hle}
 ·intro k v hk;have hlt':k<vs.length:=(List.getElem?_eq_some_iff.1 hk).1;refine⟨?_,?_⟩
  ·show(σ.w.drew.alloc _).cell? _=some v;rw[BH hnew];simp[b49 hlt',hk]
  ·rintro (hx|hx)
   ·have:=(hi.outer _ _ hx).1;omega
   ·rcases hx with⟨m,hm⟩|⟨i,f,hf,hs⟩
    ·have:=hblt m _ hm;omega
    ·rcases hbuf i f hf with⟨rfl,rfl⟩|⟨hid,hf⟩
     ·have:=(hspT _ _ hs).2;omega
     ·have:=hslt i f _ _ hf hs;omega
end
def DJ(size len:Nat)(cells:b5l AV):b5l (b5l AV):=(List.range len).map λi=>(cells.drop (i*size)).take size
theorem ZD(size:Nat):∀(len:Nat) (cells:b5l AV),cells.length=len*size->(DJ size len cells).flatten=cells/\(∀el∈DJ size len cells,el.length=size)/\(DJ size len cells).length=len:=by
 intro len
 induction len with
 |zero=>intro cells h;simp at h;subst h;simp[DJ]
 |succ n ih=>
  intro cells h;rw[Nat.add_mul]at h;obtain⟨h1,h2,h3⟩:=ih (cells.drop size) (by simp;omega)
  have e:DJ size (n+1) cells=cells.take size::DJ size n (cells.drop size):=by
   simp only[DJ,List.range_succ_eq_map,List.map_cons,List.map_map,Nat.zero_mul,List.drop_zero]
   congr 1
   apply List.map_congr_left;intro i _;simp only[Function.comp_apply,List.drop_drop,Nat.succ_eq_add_one,Nat.add_mul]
   congr 2;omega
  rw[e];refine⟨by rw[List.flatten_cons,h1,List.take_append_drop],?_,by simp[h3]⟩;intro el hel;rcases List.mem_cons.1 hel with rfl|hel
  ·simp;omega
  ·exact h2 el hel
def Ia(h:A3)(n off size len:Nat):b5m (b5l (b5l AV)):=
 if len=0 then some [] else
 match h.A5[n]? with
 |some (some cells)=>if I4 cells/\off+len*size<=cells.length then some (DJ size len ((cells.drop off).take (len*size))) else none
 |_=>none
def S0(h:A3)(size:Nat):AV->b5m (b5l (b5l AV))
 |.nil=>some []
 |.sl els _=>some els
 |.v (.string s)=>some (S5 s.data.toList)
 |.row n off sz len _=>if sz=size then Ia h n off size len else none
 |_=>none
theorem pp(A5:b5l (b5m (b5l AV)))(b c:b5l (Nat × Nat))(g:b5l (Nat × b5l AV))(size:Nat){y:AV}:S0 ⟨A5,b,g⟩ size y=S0 ⟨A5,c,g⟩ size y:=by
 cases y<;>rfl
section
variable {P:Program}{σ:Sg}{h:A3}
theorem Pi(zero:Array Value)(n:Nat):(Builtin.zeroCells zero n).toList.length=n*zero.size:=by simp[Builtin.zeroCells]
theorem QJ(hi:Inv h σ){y:AV}{x:Value}(hr:Rel σ y x){size:Nat}{ys:b5l (b5l AV)}(hy:S0 h size y=some ys)(hs:∀el∈ys,el.length=size):
  ∃vs,D3 σ ys.flatten vs/\(∀w:World,(Builtin.lenOf x).run P w=.ok ys.length w)/\∀w:World,(∀(b o:Nat) (v:Value),σ.w.cell? ⟨b,o,none⟩=some v->w.cell? ⟨b,o,none⟩=some v)->(Builtin.firstCells size ys.length x).run P w=.ok vs.toArray w:=by
 by_cases hrow:∃n off sz len capm,y=.row n off sz len capm
 ·obtain⟨n,off,sz,len,capm,rfl⟩:=hrow;cases hr with
  |row _ _ _ _ _ b cap hb hc hm hx=>
  simp only[S0]at hy;split at hy
  ·rename_i hsz;subst hsz;unfold Ia at hy;split at hy
   ·rename_i hl0;subst hl0;cases hy;exact⟨[],D3.nil σ,λw=>rfl,λw _=>by simp[Builtin.firstCells,loadCells,loadCellsFrom]⟩
   split at hy
   ·rename_i cells hcs;split at hy
    ·rename_i hcond;obtain⟨hno,hle⟩:=hcond;cases hy;obtain⟨b',hb',hbk⟩:=hi.blk n cells hcs;rw[hb]at hb';cases hb';obtain⟨cs,rest,elem,hheap,hcc⟩:=hbk.plain hno;have hsub:=hcc.sub off (len*sz) hle;have hl:((cells.drop off).take (len*sz)).length=len*sz:=by simp;omega
     obtain⟨c1,c2,c3⟩:=ZD sz len _ hl;rw[c1,c3];refine⟨_,hsub,λw=>rfl,λw hw=>SO (by rw[hsub.1,hl]) λk v hv=>hw _ _ _ ?_⟩;rw[BH hheap,<-Array.getElem?_toList,List.toList_toArray];rw[List.getElem?_take]at hv;split at hv
     ·rw[List.getElem?_drop]at hv;have hlt:=(List.getElem?_eq_some_iff.1 hv).1;rw[b49 hlt];exact hv
     ·cases hv
    ·cases hy
   ·cases hy
  ·cases hy
 ·refine aF hr ?_ hs;cases y with
  |row n off sz len capm=>exact absurd ⟨_,_,_,_,_,rfl⟩ hrow
  |v x=>cases x<;>simp_all [S0,AV.els]
  |_=>simp_all [S0,AV.els]
theorem gI{t u ty elem:TypeId}{ie:TypeInfo}{z:Value}(ht:P.underlying t=some (.slice elem))(hie:P.info? elem=some ie)(hz:ie.zero=some z)(hb:ie.bytes≠0){du:TypeDesc}(hu:P.underlying u=some du)(hdu:(∃e,du=.slice e)\/du=.string){w:World}{a:b5m Addr}{len cap m:Nat}{y:Value}{vo vs:b5l Value}(hl0:(Builtin.lenOf y).run P w=.ok m w)(hf0:(Builtin.firstCells ie.size m y).run P w.drew=.ok vs.toArray w.drew)(ho0:(Builtin.firstCells ie.size len (.slice a len cap)).run P w.drew=.ok vo.toArray w.drew)(hgt:cap<len+m)(hroom:(len+m)*ie.bytes<=140737488355328):
  ∃c,len+m<=c/\(Builtin.append_ #[t,u] ty #[.slice a len cap,y]).run P w=.ok (.slice (some ⟨w.heap.size,0,none⟩) (len+m) c) (w.drew.alloc (.cells ((vo++vs)++(Builtin.zeroCells z.cells (c - (len+m))).toList).toArray elem)):=by
 have hcut:∀t',((Question.appendCap (len+m) cap elem).cut t') ≥ len+m:=λt'=>by simp[Question.cut]
 obtain⟨c,hcdef⟩:∃c,c=(Question.appendCap (len+m) cap elem).cut (w.tape w.drawn (.appendCap (len+m) cap elem)):=⟨_,rfl⟩
 refine⟨c,by rw[hcdef];exact hcut _,?_⟩;have h48:=growslice_fits (old:=cap) (bytes:=ie.bytes) hgt hroom;have h48':¬(281474976710656<Builtin.nextslicecap (len+m) cap*ie.bytes):=by omega
 have hnf:¬(len+m<=cap):=by omega
 rcases hdu with⟨_,rfl⟩|rfl<;>simp[Builtin.append_,run_underlying ht,run_underlying hu,sizeOf,zeroValue,typeInfo,hie,hz,hl0,hf0,ho0,hnf,h48',hb,Question.forced,newRow,<-hcdef]<;>(congr 2;apply Array.ext';simp)
theorem SB{w:World}{b o:Nat}{v:Value}(h:w.cell? ⟨b,o,none⟩=some v):w.drew.cell? ⟨b,o,none⟩=some v:=by simpa using h
theorem oJ(hi:Inv h σ){t u ty elem:TypeId}{ie:TypeInfo}{z:Value}(ht:P.underlying t=some (.slice elem))(hie:P.info? elem=some ie)(hz:ie.zero=some z)(hzs:z.cells.size=ie.size)(hb:ie.bytes≠0){du:TypeDesc}(hu:P.underlying u=some du)(hdu:(∃e,du=.slice e)\/du=.string){els ys:b5l (b5l AV)}{a:b5m Addr}{cap:Nat}{y:Value}{q:AV}(hq:Rel σ q y)(hqe:S0 h ie.size q=some ys)(hys:∀el∈ys,el.length=ie.size)(hes:∀el∈els,el.length=ie.size){vo:b5l Value}(hvo:D3 σ els.flatten vo)(hfo:∀w:World,(∀(b o:Nat) (v:Value),σ.w.cell? ⟨b,o,none⟩=some v->w.cell? ⟨b,o,none⟩=some v)->(Builtin.firstCells ie.size els.length (.slice a els.length cap)).run P w=.ok vo.toArray w)(hpos:cap<els.length+ys.length)(hroom:(els.length+ys.length)*ie.bytes<=140737488355328):
  ∃σ' z,(Builtin.append_ #[t,u] ty #[.slice a els.length cap,y]).run P σ.w=.ok z σ'.w/\Le σ σ'/\Inv ⟨h.A5++[some (els.flatten++ys.flatten)],h.A9,h.B0⟩ σ'/\Rel σ' (.row h.A5.length 0 ie.size (els.length+ys.length) (els.length+ys.length)) z:=by
 obtain⟨vs,hv,hlen,hfirst⟩:=QJ (P:=P) hi hq hqe hys;obtain⟨c,hc,hrun⟩:=gI (P:=P) (ty:=ty) ht hie hz hb hu hdu (hlen σ.w) (hfirst σ.w.drew λb o v h=>SB h) (hfo σ.w.drew λb o v h=>SB h) hpos hroom;have hpd:K9 σ.w σ.w.drew:=K9.drew _
 obtain⟨σ',g1,g2,g3,g4⟩:=QN (σ:={σ with w:=σ.w.drew}) (hi.world hpd) (cells:=els.flatten++ys.flatten) (.cells ((vo++vs)++(Builtin.zeroCells z.cells (c - (els.length+ys.length))).toList).toArray elem)
  λσ' hle hnew=>.cells _ (vo++vs) _ elem hnew ((hvo.append hv).mono ((Le.world hpd).trans hle))
 refine⟨σ',_,by rw[g1];exact hrun,(Le.world hpd).trans g2,g3,?_⟩;cases g4 with
 |ptr _ _ _ hb'=>
 refine .row _ _ _ _ _ _ _ hb' hc hc λo ho=>?_
 rw[g1];have hnew:(σ.w.drew.alloc (.cells ((vo++vs)++(Builtin.zeroCells z.cells (c - (els.length+ys.length))).toList).toArray elem)).heap[σ.w.heap.size]? =some _:=heap_alloc_new σ.w.drew _;show((σ.w.drew.alloc _).cell? _).isSome=true;rw[BH hnew];have hl1:vo.length=els.length*ie.size:=by rw[hvo.1,EU els hes]
 have hl2:vs.length=ys.length*ie.size:=by rw[hv.1,EU ys hys]
 have hl3:=Pi z.cells (c - (els.length+ys.length));rw[hzs]at hl3;have hsum:els.length*ie.size+ys.length*ie.size+(c - (els.length+ys.length))*ie.size=c*ie.size:=by rw[<-Nat.add_mul,<-Nat.add_mul];congr 1;omega
 have:o<(vo++vs++(Builtin.zeroCells z.cells (c - (els.length+ys.length))).toList).length:=by
  rw[b5i,b5i];omega
 rw[<-Array.getElem?_toList,List.toList_toArray,b48 this];rfl
theorem qL(hi:Inv h σ){n b:Nat}{cells:b5l AV}(hb:σ.blk n=some b)(hcs:h.A5[n]? =some (some cells))(hno:I4 cells):
  ∃σ',σ'.w=σ.w/\Le σ σ'/\Inv ⟨h.A5.set n (some [])++[some cells],h.A9,h.B0⟩ σ'/\σ'.blk h.A5.length=some b:=by
 let σ':Sg:={σ with blk:=λk=>if k=h.A5.length then some b else σ.blk k}
 have hdom:∀k c,σ.blk k=some c->k<h.A5.length:=λk c hk=>hi.name hk
 have hold:∀k c,σ.blk k=some c->σ'.blk k=some c:=by
  intro k c hk;show(if k=h.A5.length then some b else σ.blk k)=some c;rw[if_neg (by have:=hdom k c hk;omega)];exact hk
 have hnew:∀k c,σ'.blk k=some c->(k=h.A5.length/\c=b)\/(k≠h.A5.length/\σ.blk k=some c):=by
  intro k c hk;simp only[σ']at hk;split at hk
  ·cases hk;exact .inl ⟨‹_›,rfl⟩
  ·exact .inr ⟨‹_›,hk⟩
 have hown:∀c o,σ'.own c o->σ.own c o:=by
  rintro c o (⟨k,hk⟩|hx)
  ·rcases hnew k c hk with⟨_,rfl⟩|⟨_,hk⟩
   ·exact .inl ⟨n,hb⟩
   ·exact .inl ⟨k,hk⟩
  ·exact .inr hx
 have hle:Le σ σ':={
  blk:=hold
  buf:=λ_ e h=>⟨e,h,Nat.le_refl _,rfl,λ_=>rfl⟩
  outer:=rfl
  cell:=λ_ _ _ _=>rfl
  ext:=λ_ _ h=>h
  whole:=λ_ _ _=>rfl
  shape:=λ_ _ h=>h
  own:=λc o _ ho=>hown c o ho
  size:=Nat.le_refl _
  os:=rfl
  tape:=rfl
  output:=rfl}
 have hget:∀(k:Nat) (c:b5l AV),(h.A5.set n (some [])++[some cells])[k]? =some (some c)->(k=h.A5.length/\c=cells)\/(k=n/\c=[])\/(k≠h.A5.length/\k≠n/\h.A5[k]? =some (some c)):=by
  intro k c hk
  by_cases hl:k<h.A5.length
  ·rw[b49 (by simpa using hl)]at hk
   by_cases hkn:k=n
   ·subst hkn;rw[List.getElem?_set_self hl]at hk;cases hk;exact .inr (.inl ⟨rfl,rfl⟩)
   ·rw[List.getElem?_set_ne (Ne.symm hkn)]at hk;exact .inr (.inr ⟨by omega,hkn,hk⟩)
  ·rw[b5a (by simp;omega)]at hk
   have hz:k=h.A5.length:=by
    by_cases hz:k - (h.A5.set n (some [])).length=0
    ·simp at hz;omega
    ·rw[List.getElem?_eq_none (by simp at hz ⊢;omega)]at hk;cases hk
   subst hz;simp at hk;exact .inl ⟨rfl,hk.symm⟩
 refine⟨σ',rfl,hle,?_,if_pos rfl⟩
 exact {
  blk:=λk c hk=>by
   obtain⟨b',h1,h2⟩:=hi.blk n _ hcs;rw[hb]at h1;cases h1;rcases hget k c hk with⟨rfl,rfl⟩|⟨rfl,rfl⟩|⟨_,_,hk⟩
   ·exact⟨b,if_pos rfl,h2.keep hle rfl⟩
   ·exact⟨b,hold _ b hb,(h2.nil hno).keep hle rfl⟩
   ·obtain⟨b',h1,h2⟩:=hi.blk k c hk;exact⟨b',hold k b' h1,h2.keep hle rfl⟩
  dom:=λk c hk=>by
   rcases hnew k c hk with⟨rfl,rfl⟩|⟨hkl,hk⟩
   ·exact⟨cells,by rw[b5a (by simp)];simp⟩
   ·obtain⟨x,hx⟩:=hi.dom k c hk;have hl:=hdom k c hk
    by_cases hkn:k=n
    ·subst hkn;exact⟨[],by rw[b49 (by simpa using hl),List.getElem?_set_self hl]⟩
    ·exact⟨x,by rw[b49 (by simpa using hl),List.getElem?_set_ne (Ne.symm hkn)];exact hx⟩
  inj:=λk m c x y hx hy hx0 hy0 hk hm=>by
   rcases hget k x hx with⟨k1,k2⟩|⟨_,k2⟩|⟨k1,k2,k3⟩
   ·rcases hget m y hy with⟨m1,m2⟩|⟨_,m2⟩|⟨m1,m2,m3⟩
    ·omega
    ·exact absurd m2 hy0
    ·rcases hnew k c hk with⟨_,hc⟩|⟨hx,_⟩
     ·rcases hnew m c hm with⟨hx,_⟩|⟨_,hm'⟩
      ·exact absurd hx m1
      ·subst hc;exact absurd (hi.inj m n c _ _ m3 hcs hy0 (Ek hno) hm' hb) m2
     ·exact absurd k1 hx
   ·exact absurd k2 hx0
   ·rcases hget m y hy with⟨m1,m2⟩|⟨_,m2⟩|⟨m1,m2,m3⟩
    ·rcases hnew m c hm with⟨_,hc⟩|⟨hx,_⟩
     ·rcases hnew k c hk with⟨hx,_⟩|⟨_,hk'⟩
      ·exact absurd hx k1
      ·subst hc;exact absurd (hi.inj k n c _ _ k3 hcs hx0 (Ek hno) hk' hb) k2
     ·exact absurd m1 hx
    ·exact absurd m2 hy0
    ·rcases hnew k c hk with⟨hx,_⟩|⟨_,hk'⟩
     ·exact absurd hx k1
     ·rcases hnew m c hm with⟨hx,_⟩|⟨_,hm'⟩
      ·exact absurd hx m1
      ·exact hi.inj k m c x y k3 m3 hx0 hy0 hk' hm'
  buf:=hi.buf
  K5:=hi.K5
  K8:=hi.K8
  M0:=hi.M0
  L5:=hi.L5
  H4:=hi.H4
  L6:=hi.L6
  I6:=λid e k c o he hs hk=>by
   rcases hnew k c hk with⟨_,rfl⟩|⟨_,hk⟩
   ·exact hi.I6 id e n c o he hs hb
   ·exact hi.I6 id e k c o he hs hk
  outer:=λc o ho=>⟨(hi.outer c o ho).1,λhx=>(hi.outer c o ho).2 (hown c o hx)⟩
  F5:=λg cells hg=>(hi.F5 g cells hg).mono hle}
theorem oi(hi:Inv h σ){n b o:Nat}{cells cs1:b5l AV}{vs:b5l Value}(hb:σ.blk n=some b)(hcs:h.A5[n]? =some (some cells))(hno:I4 cells)(hin:o<=cells.length)(hv:D3 σ cs1 vs)(hx:∀k,k<o+vs.length->(σ.w.cell? ⟨b,k,none⟩).isSome):
  ∃σ',σ'.w=σ.w.setCells b o vs/\Le σ σ'/\Inv ⟨h.A5.set n (some (cells.take o++cs1++cells.drop (o+cs1.length))),h.A9,h.B0⟩ σ'/\σ'.blk=σ.blk/\(storeCells ⟨b,o,none⟩ vs).run P σ.w=.ok () σ'.w:=by
 obtain⟨b',hb',hbk⟩:=hi.blk n cells hcs;rw[hb]at hb';cases hb';obtain⟨cs,rest,elem,hheap,hc⟩:=hbk.plain hno
 have hlen:vs=[]\/o+vs.length<=(cs++rest).length:=by
  cases vs with
  |nil=>exact .inl rfl
  |cons v r=>
   right;have:=hx (o+r.length) (by simp);rw[BH hheap]at this;have:=this
   by_cases hl:o+r.length<(cs++rest).length
   ·simp only[List.length_cons];omega
   ·rw[Array.getElem?_eq_none (by simpa using Nat.le_of_not_lt hl)]at this;cases this
 have hcl:=hc.1;have hvl:=hv.1
 have hfit:o+vs.length<=(cs++rest).length:=by
  rcases hlen with rfl|h
  ·simp at hcl ⊢;omega
  ·exact h
 obtain⟨q1,q2,q3,q4,q5⟩:=NR b vs o σ.w;have q6:=Rx b elem (0,0) vs o σ.w (cs++rest) hheap hfit
 have q7:(cs++rest).take o++vs++(cs++rest).drop (o+vs.length)=(cs.take o++vs++cs.drop (o+vs.length))++rest.drop (o+vs.length - cs.length):=by
  rw[List.take_append_of_le_length (by omega),List.drop_append];simp only[List.append_assoc]
 obtain⟨hle,hinv⟩:=OR (w':=σ.w.setCells b o vs) (cells':=cells.take o++cs1++cells.drop (o+cs1.length)) hi hb hcs (Ek hno) q1 q2 q3 q4 q5 (λk hk=>OM b vs o σ.w _ hk) (λhle=>.cells _ _ _ elem (by rw[<-q7];exact q6) (by
  have:=(hc.splice hv o).mono hle;rw[hvl]at this ⊢;exact this)) (λ_=>⟨_,_,q6⟩) (by
  intro hz;have h5:(cells.take o++cs1++cells.drop (o+cs1.length)).length=0:=by rw[hz];rfl
  have h6:0<cells.length:=List.length_pos_iff.2 (Ek hno);simp only[b5i,List.length_take,List.length_drop]at h5;omega) (λx hx=>LW b _ o _ b hx)
 refine⟨_,rfl,hle,hinv,rfl,?_⟩;have:=run_storeCells_cells (P:=P) b o vs 0 σ.w (λj hj=>by simpa using hx (o+j) (by omega)) (λj hj=>by simp[World.frozen?,hheap]) hv.oneCell;simpa using this
theorem a8c{A5:b5l (b5m (b5l AV))}{A9:b5l (Nat × Nat)}{B0:b5l (Nat × b5l AV)}{x:b5m (b5l AV)}(hi:Inv ⟨A5++[x],A9,B0⟩ σ)(n:Nat){c0:b5l AV}(hn:A5[n]? =some (some c0))(hno:I4 c0):Inv ⟨A5.set n (some [])++[x],A9,B0⟩ σ:=by
 have hlt:n<A5.length:=(List.getElem?_eq_some_iff.1 hn).1;have e:A5.set n (some [])++[x]=(A5++[x]).set n (some []):=by rw[List.set_append_left _ _ hlt]
 have hget:∀(k:Nat) (c:b5l AV),(A5.set n (some [])++[x])[k]? =some (some c)->(k=n/\c=[])\/(k≠n/\(A5++[x])[k]? =some (some c)):=by
  intro k c hk;rw[e]at hk
  by_cases hkn:n=k
  ·subst hkn;rw[List.getElem?_set_self (by simp;omega)]at hk;cases hk;exact .inl ⟨rfl,rfl⟩
  ·rw[List.getElem?_set_ne hkn]at hk;exact .inr ⟨Ne.symm hkn,hk⟩
 have hn':(A5++[x])[n]? =some (some c0):=by rw[b49 hlt];exact hn
 exact {
  blk:=λk c hk=>by
   rcases hget k c hk with⟨rfl,rfl⟩|⟨_,hk⟩
   ·obtain⟨b,h1,h2⟩:=hi.blk k c0 hn';exact⟨b,h1,h2.nil hno⟩
   ·exact hi.blk k c hk
  dom:=λk c hk=>by
   obtain⟨y,hy⟩:=hi.dom k c hk;rw[e]
   by_cases hkn:n=k
   ·subst hkn;exact⟨[],List.getElem?_set_self (by simp;omega)⟩
   ·exact⟨y,by rw[List.getElem?_set_ne hkn];exact hy⟩
  inj:=λk m c y z hy hz hy0 hz0=>by
   rcases hget k y hy with⟨_,h⟩|⟨_,hy⟩
   ·exact absurd h hy0
   ·rcases hget m z hz with⟨_,h⟩|⟨_,hz⟩
    ·exact absurd h hz0
    ·exact hi.inj k m c y z hy hz hy0 hz0
  buf:=hi.buf
  K5:=hi.K5
  K8:=hi.K8
  M0:=hi.M0
  L5:=hi.L5
  H4:=hi.H4
  L6:=hi.L6
  I6:=hi.I6
  outer:=hi.outer
  F5:=hi.F5}
def lF(h:A3)(size bytes n off sz len cap:Nat)(ys:b5l (b5l AV))(K:AV->A3->Prop):Prop:=
 sz=size/\(len+ys.length)*bytes<=140737488355328/\match h.A5[n]? with
  |some (some cells)=>(I4 cells=true/\off+len*size<=cells.length)/\
   if len+ys.length<=cap then K (.row n off size (len+ys.length) cap) ⟨h.A5.set n (some (cells.take (off+len*size)++ys.flatten++cells.drop (off+len*size+ys.flatten.length))),h.A9,h.B0⟩
   else(off=0/\cells.length=len*size)/\K (.row h.A5.length 0 size (len+ys.length) (len+ys.length)) ⟨h.A5.set n (some [])++[some (cells++ys.flatten)],h.A9,h.B0⟩
  |_=>False
theorem yO(hi:Inv h σ){t u ty elem:TypeId}{ie:TypeInfo}{z:Value}(ht:P.underlying t=some (.slice elem))(hie:P.info? elem=some ie)(hz:ie.zero=some z)(hzs:z.cells.size=ie.size)(hb:ie.bytes≠0){du:TypeDesc}(hu:P.underlying u=some du)(hdu:(∃e,du=.slice e)\/du=.string){n off sz len capm:Nat}{ys:b5l (b5l AV)}{x y:Value}(hx:Rel σ (.row n off sz len capm) x){q:AV}(hq:Rel σ q y)(hqe:S0 h ie.size q=some ys)(hys:∀el∈ys,el.length=ie.size){K:AV->A3->Prop}(hk:lF h ie.size ie.bytes n off sz len capm ys K):
  ∃σ' h' av z,(Builtin.append_ #[t,u] ty #[x,y]).run P σ.w=.ok z σ'.w/\Le σ σ'/\Inv h' σ'/\Rel σ' av z/\K av h':=by
 obtain⟨rfl,hroom,hk⟩:=hk;split at hk
 ·rename_i cells hcs;obtain⟨⟨hno,hin⟩,hk⟩:=hk;cases hx with
  |row _ _ _ _ _ b cap hbn hc hm hxx=>
  obtain⟨vs,hv,hlen,hfirst⟩:=QJ (P:=P) hi hq hqe hys;have hvl:vs.length=ys.length*ie.size:=by rw[hv.1,EU ys hys]
  have hl0:=hlen σ.w;have hf0:=hfirst σ.w (λ_ _ _ h=>h)
  have inplace:∀(h1:A3) (σ1:Sg) (m:Nat),Le σ σ1->Inv h1 σ1->σ1.w=σ.w->σ1.blk m=some b->h1.A5[m]? =some (some cells)->len+ys.length<=cap->
    ∃σ',(Builtin.append_ #[t,u] ty #[.slice (some ⟨b,off,none⟩) len cap,y]).run P σ.w=.ok (.slice (some ⟨b,off,none⟩) (len+ys.length) cap) σ'.w/\Le σ σ'/\Inv ⟨h1.A5.set m (some (cells.take (off+len*ie.size)++ys.flatten++cells.drop (off+len*ie.size+ys.flatten.length))),h1.A9,h1.B0⟩ σ'/\
     ∀cm,cm<=cap->Rel σ' (.row m off ie.size (len+ys.length) cm) (.slice (some ⟨b,off,none⟩) (len+ys.length) cap):=by
   intro h1 σ1 m hle1 hi1 hw1 hbm hcm hfit;have hmul:(len+ys.length)*ie.size<=cap*ie.size:=Nat.mul_le_mul_right _ hfit;rw[Nat.add_mul]at hmul;obtain⟨σ',g1,g2,g3,g4,g5⟩:=oi (P:=P) hi1 hbm hcm hno hin (hv.mono hle1) (λk hk=>by rw[hw1];exact hxx k (by omega));rw[hw1]at g1 g5;refine⟨σ',?_,hle1.trans g2,g3,λcm hcm=>.row _ _ _ _ _ _ _ (by rw[g4];exact hbm) hfit hcm (λo ho=>(hle1.trans g2).ext b o (hxx o ho))⟩;rcases hdu with⟨_,rfl⟩|rfl<;>simp[Builtin.append_,run_underlying ht,run_underlying hu,sizeOf,typeInfo,hie,hl0,hf0,hfit,AS,g5]
  split at hk
  ·rename_i hfit;obtain⟨σ',g1,g2,g3,g4⟩:=inplace h σ n (Le.refl σ) hi rfl hbn hcs (by omega);exact⟨σ',_,_,_,g1,g2,g3,g4 capm hm,hk⟩
  ·rename_i hfit;obtain⟨⟨rfl,hwhole⟩,hk⟩:=hk
   by_cases hfit2:len+ys.length<=cap
   ·obtain⟨σ1,w1,l1,i1,b1⟩:=qL hi hbn hcs hno;obtain⟨σ',g1,g2,g3,g4⟩:=inplace _ σ1 h.A5.length l1 i1 w1 b1 (by rw[b5a (by simp)];simp) hfit2;refine⟨σ',_,_,_,g1,g2,?_,g4 (len+ys.length) hfit2,hk⟩
    have e1:cells.take (0+len*ie.size)++ys.flatten++cells.drop (0+len*ie.size+ys.flatten.length)=cells++ys.flatten:=by
     rw[List.take_of_length_le (by omega),List.drop_of_length_le (by omega),List.append_nil]
    rw[e1]at g3
    have e2:(h.A5.set n (some [])++[some cells]).set h.A5.length (some (cells++ys.flatten))=h.A5.set n (some [])++[some (cells++ys.flatten)]:=by
     rw[List.set_append_right _ _ (by simp)];simp
    simp only[e2]at g3;exact g3
   ·obtain⟨b',hb',hbk⟩:=hi.blk n cells hcs;rw[hbn]at hb';cases hb';obtain⟨cs,rest,elem',hheap,hcc⟩:=hbk.plain hno;have hcl:=hcc.1
    have ho0:(Builtin.firstCells ie.size len (.slice (some ⟨b,0,none⟩) len cap)).run P σ.w.drew=.ok cs.toArray σ.w.drew:=SO (by omega) λk v hk=>by
     refine SB ?_;rw[BH hheap,Nat.zero_add,<-Array.getElem?_toList,List.toList_toArray,b49 (List.getElem?_eq_some_iff.1 hk).1];exact hk
    obtain⟨c,hc',hrun⟩:=gI (P:=P) (ty:=ty) ht hie hz hb hu hdu (hlen σ.w) (hfirst σ.w.drew λb o v h=>SB h) ho0 (by omega) hroom;have hpd:K9 σ.w σ.w.drew:=K9.drew _;obtain⟨σ1,w1,l1,i1,b1⟩:=qL hi hbn hcs hno
    obtain⟨σ',g1,g2,g3,g4⟩:=QN (σ:={σ with w:=σ.w.drew}) (hi.world hpd) (cells:=cells++ys.flatten) (.cells ((cs++vs)++(Builtin.zeroCells z.cells (c - (len+ys.length))).toList).toArray elem)
     λσ' hle hnew=>.cells _ (cs++vs) _ elem hnew ((hcc.append hv).mono ((Le.world hpd).trans hle))
    refine⟨σ',_,_,_,by rw[g1];exact hrun,(Le.world hpd).trans g2,a8c g3 n hcs hno,?_,hk⟩
    ·cases g4 with
     |ptr _ _ _ hb''=>
     refine .row _ _ _ _ _ _ _ hb'' hc' hc' λo ho=>?_
     rw[g1];have hnew:(σ.w.drew.alloc (.cells ((cs++vs)++(Builtin.zeroCells z.cells (c - (len+ys.length))).toList).toArray elem)).heap[σ.w.heap.size]? =some _:=heap_alloc_new σ.w.drew _;show((σ.w.drew.alloc _).cell? _).isSome=true;rw[BH hnew];have hl3:=Pi z.cells (c - (len+ys.length));rw[hzs]at hl3;have hsum:len*ie.size+ys.length*ie.size+(c - (len+ys.length))*ie.size=c*ie.size:=by rw[<-Nat.add_mul,<-Nat.add_mul];congr 1;omega
     have:o<(cs++vs++(Builtin.zeroCells z.cells (c - (len+ys.length))).toList).length:=by
      rw[b5i,b5i];omega
     rw[<-Array.getElem?_toList,List.toList_toArray,b48 this];rfl
 ·exact hk.elim
end
def EV(h:A3)(size bytes:Nat)(x y:AV)(K:AV->A3->Prop):Prop:=
 match S0 h size y with
 |none=>False
 |some ys=>(∀el∈ys,el.length=size)/\
  match x with
  |.nil=>ys.length*bytes<=140737488355328/\K (.sl ys (.own h.A9.length)) ⟨h.A5,h.A9++[(ys.length,size)],h.B0⟩
  |.sl els .full=>(∀el∈els,el.length=size)/\(els.length+ys.length)*bytes<=140737488355328/\(ys=[]->K (.sl els .full) h)/\(ys≠[]->K (.sl (els++ys) (.own h.A9.length)) ⟨h.A5,h.A9++[(els.length+ys.length,size)],h.B0⟩)
  |.sl els (.own id)=>(∀el∈els,el.length=size)/\h.A9[id]? =some (els.length,size)/\(els.length+ys.length)*bytes<=140737488355328/\K (.sl (els++ys) (.own id)) ⟨h.A5,h.A9.set id (els.length+ys.length,size),h.B0⟩
  |.row n off sz len cap=>lF h size bytes n off sz len cap ys K
  |_=>False
section
variable {P:Program}{σ:Sg}{h:A3}
set_option maxHeartbeats 1000000 in
theorem TQ(hi:Inv h σ){t u ty elem:TypeId}{ie:TypeInfo}{z:Value}(ht:P.underlying t=some (.slice elem))(hie:P.info? elem=some ie)(hz:ie.zero=some z)(hzs:z.cells.size=ie.size)(hb:ie.bytes≠0){du:TypeDesc}(hu:P.underlying u=some du)(hdu:(∃e,du=.slice e)\/du=.string){els ys:b5l (b5l AV)}{id:Nat}{x y:Value}(hx:Rel σ (.sl els (.own id)) x){q:AV}(hq:Rel σ q y)(hqe:S0 h ie.size q=some ys)(hes:∀el∈els,el.length=ie.size)(hys:∀el∈ys,el.length=ie.size)(hbuf:h.A9[id]? =some (els.length,ie.size))(hroom:(els.length+ys.length)*ie.bytes<=140737488355328):
  ∃σ' z,(Builtin.append_ #[t,u] ty #[x,y]).run P σ.w=.ok z σ'.w/\Le σ σ'/\Inv ⟨h.A5,h.A9.set id (els.length+ys.length,ie.size),h.B0⟩ σ'/\Rel σ' (.sl (els++ys) (.own id)) z/\((∃a c,x=.slice a els.length c/\z=.slice a (els.length+ys.length) c)\/∃c,c≠0/\z=.slice (some ⟨σ.w.heap.size,0,none⟩) (els.length+ys.length) c/\∃m,σ'.w.shape? σ.w.heap.size=some (elem,m)):=by
 obtain⟨e,he,hce⟩:=hi.buf id _ hbuf;simp only[Prod.mk.injEq]at hce;obtain⟨hcur,hsize⟩:=hce;obtain⟨vs,hv,hlen,hfirst⟩:=QJ (P:=P) hi hq hqe hys;have hvl:vs.length=ys.length*e.size:=by rw[hv.1,EU ys hys,hsize]
 have hroom':els.length+ys.length<=140737488355328:=Nat.le_trans (Nat.le_mul_of_pos_right _ (by omega)) hroom;obtain⟨ecur,esize,eat,ecap⟩:=e;simp only at hcur hsize hvl;subst hcur hsize
 have hrows:∀el∈els++ys,el.length=ie.size:=by
  intro el hel;rcases List.mem_append.1 hel with h|h
  ·exact hes el h
  ·exact hys el h
 have hx2:∃(a:b5m Addr) (vo:b5l Value),x=.slice a els.length ecap/\eat=a/\D3 σ els.flatten vo/\(∀a',a=some a'->(a'.spot=none/\Dq σ a'.block a'.off vo)\/(els=[]/\ecap=0))/\els.length<=ecap:=by
  obtain⟨hle,h0⟩:=hi.K8 id _ he;simp only at hle h0;cases hx with
  |sl0 _ htk=>
   obtain⟨e2,k1,k2,k3⟩:=htk;rw[he]at k1;cases k1;obtain⟨k4,k5⟩:=k3 rfl;simp only at k4 k5;subst k4 k5;exact⟨none,[],rfl,rfl,D3.nil σ,(λa' h=>by cases h),hle⟩
  |L3 _ sa scap htk hsc=>
   obtain⟨e2,k1,k2,k3⟩:=htk;rw[he]at k1;cases k1;obtain⟨k4,k5⟩:=k3 rfl;simp only at k4 k5;subst k4 k5;have hz0:ecap=0:=hsc.elim (λh=>by cases h) (λh=>h);exact⟨some sa,[],rfl,rfl,D3.nil σ,(λa' h=>.inr ⟨rfl,hz0⟩),hle⟩
  |sl _ _ b o cap sz xs hsz hcap htk hz' hc hr=>
   obtain⟨e2,k1,k2,k3⟩:=htk;rw[he]at k1;cases k1;obtain⟨k4,k5⟩:=k3 rfl;simp only at k4 k5;subst k4 k5;obtain⟨vo,h1,h2⟩:=nV (σ:=σ) (els:=els) (tok:=.own id) (b:=b) (o:=o) (n:=els.length) (cap:=ecap) (.sl els (.own id) b o ecap sz xs hsz hcap ⟨_,he,k2,λ_=>⟨rfl,rfl⟩⟩ hz' hc hr) hes;exact⟨some ⟨b,o,none⟩,vo,rfl,rfl,h1,(λa' h=>by cases h;exact .inl ⟨rfl,h2⟩),hcap⟩
 obtain⟨a,vo,rfl,rfl,hvo,hlies,hcap⟩:=hx2;have hvol:vo.length=els.length*ie.size:=by rw[hvo.1,EU els hes]
 by_cases hfit:els.length+ys.length<=ecap
 ·
  cases eat with
  |none=>
   have h0:=(hi.K8 id _ he).2 rfl;simp only at h0;subst h0;have hy0:ys=[]:=List.eq_nil_of_length_eq_zero (by omega);have he0:els=[]:=List.eq_nil_of_length_eq_zero (by omega);subst hy0 he0;refine⟨σ,.slice none 0 0,?_,Le.refl σ,?_,.sl0 _ ⟨_,he,Nat.le_refl _,λ_=>⟨rfl,rfl⟩⟩,.inl ⟨_,_,rfl,rfl⟩⟩
   ·have hl0:=hlen σ.w;have hf0:=hfirst σ.w (λ_ _ _ h=>h);simp only[List.length_nil]at hl0 hf0 hvl;have hvn:vs=[]:=List.eq_nil_of_length_eq_zero (by omega);subst hvn;rcases hdu with⟨_,rfl⟩|rfl<;>simp[Builtin.append_,run_underlying ht,run_underlying hu,sizeOf,typeInfo,hie,hl0,hf0]
   ·have:h.A9.set id (([]:b5l (b5l AV)).length+([]:b5l (b5l AV)).length,ie.size)=h.A9:=by
     apply List.ext_getElem?;intro i
     by_cases hid:id=i
     ·subst hid;have hlt:id<h.A9.length:=(List.getElem?_eq_some_iff.1 hbuf).1;rw[List.getElem?_set_self hlt,hbuf];rfl
     ·rw[List.getElem?_set_ne hid]
    rw[this];exact hi
  |some a=>
   rcases hlies a rfl with⟨hspot,hl⟩|⟨he0,hc0⟩
   rotate_left
   ·subst he0 hc0;have hy0:ys=[]:=List.eq_nil_of_length_eq_zero (by simp at hfit;simpa using hfit);subst hy0;refine⟨σ,.slice (some a) 0 0,?_,Le.refl σ,?_,.L3 _ a 0 ⟨_,he,Nat.le_refl _,λ_=>⟨rfl,rfl⟩⟩ (.inr rfl),.inl ⟨_,_,rfl,rfl⟩⟩
    ·have hl0:=hlen σ.w;have hf0:=hfirst σ.w (λ_ _ _ h=>h);simp only[List.length_nil]at hl0 hf0 hvl;have hvn:vs=[]:=List.eq_nil_of_length_eq_zero (by omega);subst hvn;rcases hdu with⟨_,rfl⟩|rfl<;>simp[Builtin.append_,run_underlying ht,run_underlying hu,sizeOf,typeInfo,hie,hl0,hf0,storeCells]
    ·have:h.A9.set id (([]:b5l (b5l AV)).length+([]:b5l (b5l AV)).length,ie.size)=h.A9:=by
      apply List.ext_getElem?;intro i
      by_cases hid:id=i
      ·subst hid;have hlt:id<h.A9.length:=(List.getElem?_eq_some_iff.1 hbuf).1;rw[List.getElem?_set_self hlt,hbuf];rfl
      ·rw[List.getElem?_set_ne hid]
     rw[this];exact hi
   obtain⟨ab,ao,asp⟩:=a;simp only at hspot hl;subst hspot;obtain⟨σ',g1,g2,g3,g4,g5,g6⟩:=ze (P:=P) hi he rfl (n:=ys.length) hfit hv hvl;simp only at g1 g2 g3 g4 g5 g6;refine⟨σ',.slice (some ⟨ab,ao,none⟩) (els.length+ys.length) ecap,?_,g2,g3,?_,.inl ⟨_,_,rfl,rfl⟩⟩
   ·have hl0:=hlen σ.w;have hf0:=hfirst σ.w (λ_ _ _ h=>h);rcases hdu with⟨_,rfl⟩|rfl<;>simp[Builtin.append_,run_underlying ht,run_underlying hu,sizeOf,typeInfo,hie,hl0,hf0,hfit,AS,g6]
   ·have hcells:D3 σ' (els++ys).flatten (vo++vs):=by rw[List.flatten_append];exact(hvo.mono g2).append (hv.mono g2)
    have hlie:Dq σ' ab ao (vo++vs):=by
     intro k v hk
     by_cases hkl:k<vo.length
     ·rw[b49 hkl]at hk;exact hl.mono g2 k v hk
     ·rw[b5a (by omega)]at hk;have:=g5 _ v hk
      rwa [show ao+els.length*ie.size+(k - vo.length)=ao+k by omega]at this
    have:=QX (σ:=σ') (tok:=.own id) (cap:=ecap) hrows hcells hlie (by simpa using hfit) ⟨_,g4,by simp,λ_=>⟨rfl,rfl⟩⟩ (λi e hid he'=>by cases hid;rw[g4]at he';cases he';rfl);simpa using this
 ·
  have hgt:ecap<els.length+ys.length:=by omega
  have hcut:∀t',((Question.appendCap (els.length+ys.length) ecap elem).cut t') ≥ els.length+ys.length:=λt'=>by simp[Question.cut]
  obtain⟨c,hcdef⟩:∃c,c=(Question.appendCap (els.length+ys.length) ecap elem).cut (σ.w.tape σ.w.drawn (.appendCap (els.length+ys.length) ecap elem)):=⟨_,rfl⟩
  have hcge:els.length+ys.length<=c:=by rw[hcdef];exact hcut _
  have hrl:(Builtin.zeroCells z.cells (c - (els.length+ys.length))).toList.length=(c - (els.length+ys.length))*ie.size:=by rw[Pi,hzs]
  obtain⟨σ',g1,g2,g3,g4,g5⟩:=qN hi he (n:=ys.length) (c:=c) hgt hcge (hvo.append hv) (by simp only[b5i,hvol,hvl];rw[<-Nat.add_mul]) _ hrl elem;simp only at g1 g2 g3 g4 g5;refine⟨σ',.slice (some ⟨σ.w.heap.size,0,none⟩) (els.length+ys.length) c,?_,g2,g3,?_,.inr ⟨c,by omega,rfl,_,by rw[g1];exact aT σ.w.drew _ _⟩⟩
  ·have hl0:=hlen σ.w;have hf0:=hfirst σ.w.drew (λb o v h=>by simpa using h)
   have ho0:(Builtin.firstCells ie.size els.length (.slice eat els.length ecap)).run P σ.w.drew=.ok vo.toArray σ.w.drew:=by
    cases eat with
    |none=>
     have h0:=(hi.K8 id _ he).2 rfl;simp only at h0;have:els.length=0:=by omega
     have hvn:vo=[]:=List.eq_nil_of_length_eq_zero (by rw[hvol,this];omega);subst hvn;rfl
    |some a=>
     rcases hlies a rfl with⟨hspot,hl⟩|⟨he0,hc0⟩
     rotate_left
     ·subst he0;have hvn:vo=[]:=List.eq_nil_of_length_eq_zero (by rw[hvol];simp);subst hvn;simp[Builtin.firstCells,loadCells,loadCellsFrom]
     obtain⟨ab,ao,asp⟩:=a;simp only at hspot hl;subst hspot;exact SO hvol λk v hk=>by simpa using (hl k v hk).1
   have h48:=growslice_fits (old:=ecap) (bytes:=ie.bytes) hgt hroom;have h48':¬(281474976710656<Builtin.nextslicecap (els.length+ys.length) ecap*ie.bytes):=by omega
   have hnf:¬(els.length+ys.length<=ecap):=by omega
   have hz1:(zeroValue elem).run P σ.w.drew=.ok z σ.w.drew:=by simp[zeroValue,typeInfo,hie,hz]
   rw[g1];rcases hdu with⟨_,rfl⟩|rfl<;>simp[Builtin.append_,run_underlying ht,run_underlying hu,sizeOf,zeroValue,typeInfo,hie,hz,hl0,hf0,ho0,hnf,h48',hb,Question.forced,newRow,<-hcdef]<;>(congr 2;apply Array.ext';simp)
  ·have hcells:D3 σ' (els++ys).flatten (vo++vs):=by rw[List.flatten_append];exact(hvo.append hv).mono g2
   have:=QX (σ:=σ') (tok:=.own id) (cap:=c) hrows hcells g5 (by simpa using hcge) ⟨_,g4,by simp,λ_=>⟨rfl,rfl⟩⟩ (λi e hid he'=>by cases hid;rw[g4]at he';cases he';rfl);simpa using this
set_option maxHeartbeats 1000000 in
theorem a6k(hi:Inv h σ){t u ty elem:TypeId}{ie:TypeInfo}{z:Value}(ht:P.underlying t=some (.slice elem))(hie:P.info? elem=some ie)(hz:ie.zero=some z)(hzs:z.cells.size=ie.size)(hb:ie.bytes≠0){du:TypeDesc}(hu:P.underlying u=some du)(hdu:(∃e,du=.slice e)\/du=.string){els ys:b5l (b5l AV)}{y:Value}{q:AV}(hq:Rel σ q y)(hqe:S0 h ie.size q=some ys)(hes:∀el∈els,el.length=ie.size)(hys:∀el∈ys,el.length=ie.size)(hne:ys≠[]){a:b5m Addr}{vo:b5l Value}(hvo:D3 σ els.flatten vo)(ho0:∀w:World,(∀(b o:Nat) (v:Value),σ.w.cell? ⟨b,o,none⟩=some v->w.cell? ⟨b,o,none⟩=some v)->(Builtin.firstCells ie.size els.length (.slice a els.length els.length)).run P w=.ok vo.toArray w)(hroom:(els.length+ys.length)*ie.bytes<=140737488355328):
  ∃σ' z,(Builtin.append_ #[t,u] ty #[.slice a els.length els.length,y]).run P σ.w=.ok z σ'.w/\Le σ σ'/\Inv ⟨h.A5,h.A9++[(els.length+ys.length,ie.size)],h.B0⟩ σ'/\Rel σ' (.sl (els++ys) (.own h.A9.length)) z:=by
 have hpos:0<ys.length:=List.length_pos_iff.2 hne;obtain⟨vs,hv,hlen,hfirst⟩:=QJ (P:=P) hi hq hqe hys;have hvl:vs.length=ys.length*ie.size:=by rw[hv.1,EU ys hys]
 have hvol:vo.length=els.length*ie.size:=by rw[hvo.1,EU els hes]
 have hrows:∀el∈els++ys,el.length=ie.size:=by
  intro el hel;rcases List.mem_append.1 hel with h|h
  ·exact hes el h
  ·exact hys el h
 obtain⟨σ1,w1,l1,i1,b1⟩:=LQ hi ⟨0,ie.size,none,0⟩ rfl (λ_=>rfl);have hgt:els.length<els.length+ys.length:=by omega
 have hcut:∀t',((Question.appendCap (els.length+ys.length) els.length elem).cut t') ≥ els.length+ys.length:=λt'=>by simp[Question.cut]
 obtain⟨c,hcdef⟩:∃c,c=(Question.appendCap (els.length+ys.length) els.length elem).cut (σ.w.tape σ.w.drawn (.appendCap (els.length+ys.length) els.length elem)):=⟨_,rfl⟩
 have hcge:els.length+ys.length<=c:=by rw[hcdef];exact hcut _
 have hrl:(Builtin.zeroCells z.cells (c - (els.length+ys.length))).toList.length=(c - (els.length+ys.length))*ie.size:=by rw[Pi,hzs]
 obtain⟨σ',g1,g2,g3,g4,g5⟩:=qN i1 b1 (n:=els.length+ys.length) (c:=c) (by show 0<0+_;omega) (by show 0+_<=c;omega) ((hvo.mono l1).append (hv.mono l1)) (by simp only[b5i,hvol,hvl,Nat.zero_add];rw[<-Nat.add_mul]) _ (by simpa only[Nat.zero_add]using hrl) elem;simp only[Nat.zero_add]at g1 g2 g3 g4 g5;rw[w1]at g1 g4 g5;refine⟨σ',.slice (some ⟨σ.w.heap.size,0,none⟩) (els.length+ys.length) c,?_,l1.trans g2,by simpa using g3,?_⟩
 ·have hl0:=hlen σ.w;have hf0:=hfirst σ.w.drew (λb o v h=>by simpa using h);have ho1:=ho0 σ.w.drew (λb o v h=>by simpa using h);have h48:=growslice_fits (old:=els.length) (bytes:=ie.bytes) hgt hroom;have h48':¬(281474976710656<Builtin.nextslicecap (els.length+ys.length) els.length*ie.bytes):=by omega
  have hnf:¬(els.length+ys.length<=els.length):=by omega
  rw[g1];rcases hdu with⟨_,rfl⟩|rfl<;>simp[Builtin.append_,run_underlying ht,run_underlying hu,sizeOf,zeroValue,typeInfo,hie,hz,hl0,hf0,ho1,hnf,h48',hb,Question.forced,newRow,<-hcdef]<;>(congr 2;apply Array.ext';simp)
 ·have hcells:D3 σ' (els++ys).flatten (vo++vs):=by rw[List.flatten_append];exact((hvo.mono l1).append (hv.mono l1)).mono g2
  have:=QX (σ:=σ') (tok:=.own h.A9.length) (cap:=c) hrows hcells g5 (by simpa using hcge) ⟨_,g4,by simp,λ_=>⟨rfl,rfl⟩⟩ (λi e hid he'=>by cases hid;rw[g4]at he';cases he';rfl);simpa using this
theorem ue(hi:Inv h σ){t u ty elem:TypeId}{ie:TypeInfo}(ht:P.underlying t=some (.slice elem))(hie:P.info? elem=some ie){du:TypeDesc}(hu:P.underlying u=some du)(hdu:(∃e,du=.slice e)\/du=.string){y:Value}{q:AV}(hq:Rel σ q y)(hqe:S0 h ie.size q=some [])(a:b5m Addr)(n:Nat):
  (Builtin.append_ #[t,u] ty #[.slice a n n,y]).run P σ.w=.ok (.slice a n n) σ.w:=by
 obtain⟨vs,hv,hlen,hfirst⟩:=QJ (P:=P) hi hq hqe (by simp);have hvn:vs=[]:=List.eq_nil_of_length_eq_zero (by rw[hv.1];rfl);subst hvn;have hl0:=hlen σ.w;have hf0:=hfirst σ.w (λ_ _ _ h=>h);simp only[List.length_nil]at hl0 hf0;cases a<;>rcases hdu with⟨_,rfl⟩|rfl<;>simp[Builtin.append_,run_underlying ht,run_underlying hu,sizeOf,typeInfo,hie,hl0,hf0,storeCells]
theorem uP(hi:Inv h σ){t u ty elem:TypeId}{ie:TypeInfo}{z:Value}(ht:P.underlying t=some (.slice elem))(hie:P.info? elem=some ie)(hz:ie.zero=some z)(hzs:z.cells.size=ie.size)(hb:ie.bytes≠0){du:TypeDesc}(hu:P.underlying u=some du)(hdu:(∃e,du=.slice e)\/du=.string){p q:AV}{x y:Value}(hp:Rel σ p x)(hq:Rel σ q y){K:AV->A3->Prop}(hk:EV h ie.size ie.bytes p q K):
  ∃σ' h' av z,(Builtin.append_ #[t,u] ty #[x,y]).run P σ.w=.ok z σ'.w/\Le σ σ'/\Inv h' σ'/\Rel σ' av z/\K av h':=by
 unfold EV at hk;split at hk
 ·exact hk.elim
 ·rename_i ys hqe;obtain⟨hys,hk⟩:=hk;split at hk
  ·obtain⟨hroom,hk⟩:=hk;cases hp with
   |nil=>
   obtain⟨σ1,w1,l1,i1,b1⟩:=LQ hi ⟨0,ie.size,none,0⟩ rfl (λ_=>rfl);obtain⟨σ2,z2,r2,l2,i2,q2,_⟩:=TQ (P:=P) (ty:=ty) i1 ht hie hz hzs hb hu hdu (els:=[]) (ys:=ys) (id:=h.A9.length) (.sl0 _ ⟨_,b1,Nat.le_refl _,λ_=>⟨rfl,rfl⟩⟩) (hq.mono l1) (by rw[<-hqe];exact pp _ _ _ _ _) (by simp) hys (by simp) (by simpa using hroom);rw[w1]at r2;refine⟨σ2,_,_,z2,r2,l1.trans l2,?_,q2,hk⟩;simpa using i2
  ·rename_i els;obtain⟨hes,hroom,hk0,hk⟩:=hk
   have key:∀a,x=.slice a els.length els.length->(∃vo,D3 σ els.flatten vo/\∀w:World,(∀(b o:Nat) (v:Value),σ.w.cell? ⟨b,o,none⟩=some v->w.cell? ⟨b,o,none⟩=some v)->(Builtin.firstCells ie.size els.length (.slice a els.length els.length)).run P w=.ok vo.toArray w)->
     ∃σ' h' av z,(Builtin.append_ #[t,u] ty #[x,y]).run P σ.w=.ok z σ'.w/\Le σ σ'/\Inv h' σ'/\Rel σ' av z/\K av h':=by
    rintro a rfl ⟨vo,h1,h2⟩
    by_cases hne:ys=[]
    ·subst hne;exact⟨σ,h,_,_,ue hi ht hie hu hdu hq hqe a _,Le.refl σ,hi,hp,hk0 rfl⟩
    ·obtain⟨σ',z',g1,g2,g3,g4⟩:=a6k (P:=P) (ty:=ty) hi ht hie hz hzs hb hu hdu hq hqe hes hys hne h1 h2 hroom;exact⟨σ',_,_,z',g1,g2,g3,g4,hk hne⟩
   have hfirst:=aF (P:=P) (y:=.sl els .full) hp rfl hes;obtain⟨vs,f1,_,f3⟩:=hfirst;cases hp with
   |L3 _ sa scap htk hsc=>
    have:scap=0:=htk;subst this;exact key (some sa) rfl ⟨vs,f1,f3⟩
   |sl0 _ htk=>exact key none rfl ⟨vs,f1,f3⟩
   |sl _ _ b o cap sz xs hsz hcap htk hz' hc hr=>
    have hcl:cap=els.length:=htk;subst hcl;exact key (some ⟨b,o,none⟩) rfl ⟨vs,f1,f3⟩
  ·rename_i els id;obtain⟨hes,hbuf,hroom,hk⟩:=hk;obtain⟨σ2,z2,r2,l2,i2,q2,_⟩:=TQ (P:=P) (ty:=ty) hi ht hie hz hzs hb hu hdu hp hq hqe hes hys hbuf hroom;exact⟨σ2,_,_,z2,r2,l2,i2,q2,hk⟩
  ·exact yO hi ht hie hz hzs hb hu hdu hp hq hqe hys hk
  ·exact hk.elim
def Mz(h:A3)(size bytes:Nat)(x y:AV)(K:AV->A3->Prop):Prop:=
 match S0 h size y with
 |none=>False
 |some ys=>((∀el∈ys,el.length=size)/\ys≠[])/\
  match x with
  |.nil=>ys.length*bytes<=140737488355328/\K (.row h.A5.length 0 size ys.length ys.length) ⟨h.A5++[some ys.flatten],h.A9,h.B0⟩
  |.sl els .full=>(∀el∈els,el.length=size)/\(els.length+ys.length)*bytes<=140737488355328/\K (.row h.A5.length 0 size (els.length+ys.length) (els.length+ys.length)) ⟨h.A5++[some (els.flatten++ys.flatten)],h.A9,h.B0⟩
  |_=>False
theorem rO(hi:Inv h σ){t u ty elem:TypeId}{ie:TypeInfo}{z:Value}(ht:P.underlying t=some (.slice elem))(hie:P.info? elem=some ie)(hz:ie.zero=some z)(hzs:z.cells.size=ie.size)(hb:ie.bytes≠0){du:TypeDesc}(hu:P.underlying u=some du)(hdu:(∃e,du=.slice e)\/du=.string){p q:AV}{x y:Value}(hp:Rel σ p x)(hq:Rel σ q y){K:AV->A3->Prop}(hk:Mz h ie.size ie.bytes p q K):
  ∃σ' h' av z,(Builtin.append_ #[t,u] ty #[x,y]).run P σ.w=.ok z σ'.w/\Le σ σ'/\Inv h' σ'/\Rel σ' av z/\K av h':=by
 unfold Mz at hk;split at hk
 ·exact hk.elim
 ·rename_i ys hqe;obtain⟨⟨hys,hne⟩,hk⟩:=hk;have hpos:0<ys.length:=List.length_pos_iff.2 hne;split at hk
  ·obtain⟨hroom,hk⟩:=hk;cases hp with
   |nil=>
   obtain⟨σ',z',g1,g2,g3,g4⟩:=oJ (P:=P) (ty:=ty) (a:=none) (els:=[]) (cap:=0) hi ht hie hz hzs hb hu hdu hq hqe hys (by simp) (D3.nil σ) (λw _=>rfl) (by simpa using hpos) (by simpa using hroom);exact⟨σ',_,_,z',g1,g2,by simpa using g3,by simpa using g4,hk⟩
  ·rename_i els;obtain⟨hes,hroom,hk⟩:=hk
   have key:∀a,x=.slice a els.length els.length->(∃vo,D3 σ els.flatten vo/\∀w:World,(∀(b o:Nat) (v:Value),σ.w.cell? ⟨b,o,none⟩=some v->w.cell? ⟨b,o,none⟩=some v)->(Builtin.firstCells ie.size els.length (.slice a els.length els.length)).run P w=.ok vo.toArray w)->
     ∃σ' h' av z,(Builtin.append_ #[t,u] ty #[x,y]).run P σ.w=.ok z σ'.w/\Le σ σ'/\Inv h' σ'/\Rel σ' av z/\K av h':=by
    rintro a rfl ⟨vo,h1,h2⟩;obtain⟨σ',z',g1,g2,g3,g4⟩:=oJ (P:=P) (ty:=ty) hi ht hie hz hzs hb hu hdu hq hqe hys hes h1 h2 (by omega) hroom;exact⟨σ',_,_,z',g1,g2,g3,g4,hk⟩
   have hfirst:=aF (P:=P) (y:=.sl els .full) hp rfl hes;obtain⟨vs,f1,_,f3⟩:=hfirst;cases hp with
   |L3 _ sa scap htk hsc=>
    have:scap=0:=htk;subst this;exact key (some sa) rfl ⟨vs,f1,f3⟩
   |sl0 _ htk=>exact key none rfl ⟨vs,f1,f3⟩
   |sl _ _ b o cap sz xs hsz hcap htk hz' hc hr=>
    have hcl:cap=els.length:=htk;subst hcl;exact key (some ⟨b,o,none⟩) rfl ⟨vs,f1,f3⟩
  ·exact hk.elim
theorem a3e(hi:Inv h σ){t elem:TypeId}{ie:TypeInfo}{z:Value}{len:Nat}(ht:P.underlying t=some (.slice elem))(hie:P.info? elem=some ie)(hz:ie.zero=some z)(hsz:len*ie.size<=2 ^ 24){zeros:b5l AV}(hzc:D3 σ zeros ((Array.range (len*ie.size)).map ((if len*ie.size=0 then #[] else z.cells)[· % (if len*ie.size=0 then #[] else z.cells).size]!)).toList){parts:b5l (Nat × Value)}{aps:b5l ((Nat × Nat) × AV)}(hl:parts.length=aps.length)(hp:∀(i:Nat) (a:(Nat × Nat) × AV),aps[i]? =some a->∃(k:Nat) (x:Value),parts[i]? =some (k,x)/\(k*ie.size,ie.size)=a.1/\Rel σ a.2 x){cells:b5l AV}(hf:Bf zeros aps=some cells)(hlen:cells.length=len*ie.size):
  ∃σ' z,(Instr.buildSlice t len parts.toArray).run P σ.w=.ok z σ'.w/\Le σ σ'/\Inv h σ'/\Rel σ' (.sl (DJ ie.size len (cells.map P6)) .full) z:=by
 obtain⟨cs,g1,g2⟩:=QP (λi=>some (i*ie.size,ie.size)) parts aps zeros _ cells hzc hl (λi a ha=>by
  obtain⟨k,x,e1,e2,e3⟩:=hp i a ha;exact⟨k,x,e1,by rw[e2],e3⟩) hf
 have g2:=g2.wk;obtain⟨c1,c2,c3⟩:=ZD ie.size len (cells.map P6) (by simpa using hlen);have hpa:=K9.alloc σ.w (.cells cs elem);refine⟨{σ with w:=σ.w.alloc (.cells cs elem)},.slice (some ⟨σ.w.heap.size,0,none⟩) len len,?_,Le.world hpa,hi.world hpa,?_⟩
 ·have hgt:¬(2 ^ 24<len*ie.size):=by omega
  by_cases h0:len*ie.size=0
  ·rw[if_pos h0]at g1;simp only[Instr.buildSlice,Sem.run_bind,run_underlying ht,Result.andThen_ok,sizeOf,typeInfo,run_program,hie,Sem.run_pure,Sem.run_ite,if_neg hgt,if_pos h0,newRow,run_newObj,World.alloc,List.toList_toArray];simp only[gt_iff_lt,hgt,if_false,g1,Result.andThen_ok,Sem.run_bind,Sem.run_pure,run_newObj]
  ·rw[if_neg h0]at g1;simp only[Instr.buildSlice,Sem.run_bind,run_underlying ht,Result.andThen_ok,sizeOf,typeInfo,run_program,hie,Sem.run_pure,Sem.run_ite,if_neg hgt,if_neg h0,newRow,run_newObj,World.alloc,zeroValue,hz,List.toList_toArray];simp only[gt_iff_lt,hgt,if_false,g1,Result.andThen_ok,Sem.run_bind,Sem.run_pure,run_newObj]
 ·have hnew:(σ.w.alloc (.cells cs elem)).heap[σ.w.heap.size]? =some (.cells cs elem (0,0)):=heap_alloc_new σ.w _
  have hlies:Dq {σ with w:=σ.w.alloc (.cells cs elem)} σ.w.heap.size 0 cs.toList:=by
   intro k v hk;refine⟨?_,?_⟩
   ·show(σ.w.alloc _).cell? _=some v;rw[BH hnew,Nat.zero_add,<-Array.getElem?_toList];exact hk
   ·rintro (hx|hx)
    ·have:=(hi.outer _ _ hx).1;omega
    ·rcases hx with⟨m,hm⟩|⟨i,f,hf,hs⟩
     ·have:=hi.lt hm;have:σ.w.heap.size<σ.w.heap.size:=hi.lt hm;omega
     ·have:=hi.H4 i f _ _ hf hs;omega
  have:=QX (σ:={σ with w:=σ.w.alloc (.cells cs elem)}) (tok:=.full) (cap:=len) c2 (by rw[c1];exact g2.mono (Le.world hpa)) hlies (by omega) (by show len=_;exact c3.symm) (λi e hid=>by cases hid);rw[c3]at this;exact this
end
section
variable {P:Program}{σ:Sg}{h:A3}
def OG(h:A3)(e:TypeId)(size bytes:Nat)(x y:AV)(K:AV->A3->Prop):Prop:=
 match S0 h 1 y with
 |none=>False
 |some ys=>(size=1/\∀el∈ys,el.length=1)/\
  match x with
  |.bb .nil [] u=>u=e/\ys.length*bytes<=140737488355328/\K (.bb (.own h.A9.length) ys u) ⟨h.A5,h.A9++[(ys.length,1)],h.B0⟩
  |.bb (.own id) els u=>u=e/\(∀el∈els,el.length=1)/\h.A9[id]? =some (els.length,1)/\(els.length+ys.length)*bytes<=140737488355328/\K (.bb (.own id) (els++ys) u) ⟨h.A5,h.A9.set id (els.length+ys.length,1),h.B0⟩
  |_=>False
theorem xb(hi:Inv h σ){t u ty elem:TypeId}{ie:TypeInfo}{z:Value}(ht:P.underlying t=some (.slice elem))(hie:P.info? elem=some ie)(hz:ie.zero=some z)(hzs:z.cells.size=ie.size)(hb:ie.bytes≠0){du:TypeDesc}(hu:P.underlying u=some du)(hdu:(∃e,du=.slice e)\/du=.string){p q:AV}{x y:Value}(hp:Rel σ p x)(hq:Rel σ q y){K:AV->A3->Prop}(hk:OG h elem ie.size ie.bytes p q K):
  ∃σ' h' av z,(Builtin.append_ #[t,u] ty #[x,y]).run P σ.w=.ok z σ'.w/\Le σ σ'/\Inv h' σ'/\Rel σ' av z/\K av h':=by
 unfold OG at hk;split at hk
 ·exact hk.elim
 ·rename_i ys hqe;obtain⟨⟨hs1,hys⟩,hk⟩:=hk;rw[<-hs1]at hys hqe
  have typed:∀{σ':Sg}{n:Nat}{z:Value}{a0:b5m Addr}{c0:Nat},Le σ σ'->Gc σ.w elem a0 c0->((∃a c,(Value.slice a0 n c0)=.slice a n c/\z=.slice a (n+ys.length) c)\/∃c,c≠0/\z=.slice (some ⟨σ.w.heap.size,0,none⟩) (n+ys.length) c/\∃m,σ'.w.shape? σ.w.heap.size=some (elem,m))->
    ∃a c,z=.slice a (n+ys.length) c/\Gc σ'.w elem a c:=by
   rintro σ' n z a0 c0 hle hty (⟨a,c,he,rfl⟩|⟨c,hc,rfl,m,hm⟩)
   ·cases he;exact⟨_,_,rfl,hty.mono hle⟩
   ·exact⟨_,_,rfl,λad had=>by cases had;exact⟨rfl,rfl,hc,m,hm⟩⟩
  split at hk
  ·obtain⟨rfl,hroom,hk⟩:=hk;cases hp with
   |CC=>
   obtain⟨σ1,w1,l1,i1,b1⟩:=LQ hi ⟨0,ie.size,none,0⟩ rfl (λ_=>rfl);obtain⟨σ2,z2,r2,l2,i2,q2,q3⟩:=TQ (P:=P) (ty:=ty) i1 ht hie hz hzs hb hu hdu (els:=[]) (ys:=ys) (id:=h.A9.length) (.sl0 _ ⟨_,b1,Nat.le_refl _,λ_=>⟨rfl,rfl⟩⟩) (hq.mono l1) (by rw[<-hqe];exact pp _ _ _ _ _) (by simp) hys (by simp) (by simpa using hroom);rw[w1]at r2 q3;obtain⟨a,c,rfl,hty⟩:=typed (a0:=none) (c0:=0) (n:=0) (l1.trans l2) (λad had=>by cases had) q3;refine⟨σ2,_,_,_,r2,l1.trans l2,?_,.Ab _ _ _ _ _ _ q2 hty,hk⟩;simpa[hs1]using i2
  ·obtain⟨rfl,hes,hbuf,hroom,hk⟩:=hk;cases hp with
   |Ab id els _ a n cap hsl hty0=>
   have hn:=Yp hsl;subst hn;obtain⟨σ2,z2,r2,l2,i2,q2,q3⟩:=TQ (P:=P) (ty:=ty) hi ht hie hz hzs hb hu hdu hsl hq hqe (by rw[<-hs1]at hes;exact hes) hys (by rw[hs1];exact hbuf) hroom;obtain⟨a2,c,rfl,hty⟩:=typed l2 hty0 q3;refine⟨σ2,_,_,_,r2,l2,?_,.Ab _ _ _ _ _ _ q2 hty,hk⟩;simpa[hs1]using i2
  ·exact hk.elim
def WM(x:AV)(K:AV->Prop):Prop:=
 match x with
 |.bb .nil [] _=>K (.v (.pointer none))
 |.bb (.own id) els u=>K (.bb (.data id) els u)
 |_=>False
theorem wt{p:AV}{x:Value}(hp:Rel σ p x){K:AV->Prop}(hk:WM p K)(ts:Array TypeId)(ty:TypeId):∃av z,K av/\Rel σ av z/\(Builtin.unsafeSliceData_ ts ty #[x]).run P σ.w=.ok z σ.w:=by
 unfold WM at hk;split at hk
 ·cases hp with
  |CC=>exact⟨_,.pointer none,hk,.v _ rfl,rfl⟩
 ·cases hp with
  |Ab id els u a n cap hsl hty=>
  refine⟨_,.pointer a,hk,.Em _ _ _ _ _ _ _ hsl hty (λ_=>rfl),?_⟩;cases a with
  |none=>rfl
  |some ad=>exact Lib.run_unsafeSliceData_row σ.w ts ty ad n cap (hty ad rfl).2.2.1
 ·exact hk.elim
theorem dK(w:World)(a:Addr)(n:Nat)(x:Addr):(w.freeze a n).cell? x=w.cell? x:=by
 unfold World.freeze;split
 ·rfl
 ·unfold World.cell?;simp only[Array.getElem?_modify]
  by_cases hb:a.block=x.block
  ·rw[if_pos hb];cases hh:w.heap[x.block]? with
   |none=>rfl
   |some o=>cases o<;>rfl
  ·rw[if_neg hb]
theorem uq(w:World)(a:Addr)(n b:Nat):(w.freeze a n).shape? b=w.shape? b:=by
 unfold World.freeze;split
 ·rfl
 ·unfold World.shape?;simp only[Array.getElem?_modify]
  by_cases hb:a.block=b
  ·rw[if_pos hb];cases hh:w.heap[b]? with
   |none=>rfl
   |some o=>cases o<;>rfl
  ·rw[if_neg hb]
theorem an(w:World)(a:Addr)(n b:Nat)(h:b≠a.block):(w.freeze a n).heap[b]? =w.heap[b]? :=by
 unfold World.freeze;split
 ·rfl
 ·simp only[Array.getElem?_modify];rw[if_neg (λh'=>h h'.symm)]
theorem Zq(w:World)(a:Addr)(n:Nat):(w.freeze a n).heap.size=w.heap.size:=by
 unfold World.freeze;split
 ·rfl
 ·simp
theorem zk{w:World}{b n:Nat}(hall:∀o,n<=o->Y6 w b o){o:Nat}(ho:n<=o):Y6 (w.freeze ⟨b,0,none⟩ n) b o:=by
 have h1:=hall o ho;unfold World.freeze;split
 ·exact h1
 ·unfold Y6;simp only[Array.getElem?_modify,if_pos];cases hh:w.heap[b]? with
  |none=>rfl
  |some x=>
   cases x with
   |cells c t f=>
    obtain⟨lo,hi⟩:=f
    have key:∀k,n<=k->lo<=hi/\¬(lo<=k/\k<hi):=by
     intro k hk;have:=hall k hk;unfold Y6 at this;rw[hh]at this;simp at this;exact⟨this.1,λhx=>by omega⟩
    obtain⟨k1,_⟩:=key n (Nat.le_refl _)
    by_cases he:lo=hi
    ·subst he;simp;omega
    ·have h3:hi<=n:=by
      by_cases hx:hi<=n
      ·exact hx
      ·have:=(key (max n lo) (by omega)).2;omega
     simp[he];omega
   |_=>rfl
theorem a93(hi:Inv h σ){id b n:Nat}{e:Buf}(he:σ.buf id=some e)(ha:e.at_=some ⟨b,0,none⟩)(hc:e.cur*e.size=n)(hcap:e.cap≠0):Le σ {σ with w:=σ.w.freeze ⟨b,0,none⟩ n}/\Inv h {σ with w:=σ.w.freeze ⟨b,0,none⟩ n}:=by
 have htail:∀o,n<=o->e.tail b o:=λo ho=>⟨⟨b,0,none⟩,ha,rfl,by rw[hc];simpa using ho,hcap⟩
 have hown:σ.own b n:=.inr ⟨id,e,he,htail n (Nat.le_refl _)⟩
 have hle:Le σ {σ with w:=σ.w.freeze ⟨b,0,none⟩ n}:={
  blk:=λ_ _ h=>h
  buf:=λ_ e h=>⟨e,h,Nat.le_refl _,rfl,λ_=>rfl⟩
  outer:=rfl
  cell:=λc o _ _=>dK _ _ _ _
  ext:=λc o hc=>by
   show((σ.w.freeze _ _).cell? _).isSome=true;rw[dK];exact hc
  whole:=λc _ ho=>an _ _ _ _ (by rintro rfl;exact ho n hown)
  shape:=λc x hx=>(uq _ _ _ _).trans hx
  own:=λ_ _ _ h=>h
  size:=Nat.le_of_eq (Zq _ _ _).symm
  os:=by show(σ.w.freeze _ _).os=_;unfold World.freeze;split<;>rfl
  tape:=by show(σ.w.freeze _ _).tape=_;unfold World.freeze;split<;>rfl
  output:=by show(σ.w.freeze _ _).output=_;unfold World.freeze;split<;>rfl}
 refine⟨hle,?_⟩
 exact {
  blk:=λm cells hm=>by
   obtain⟨c,h1,h2⟩:=hi.blk m cells hm;refine⟨c,h1,h2.keep hle (an _ _ _ _ ?_)⟩;rintro rfl;exact hi.I6 id e m _ _ he (htail n (Nat.le_refl _)) h1
  dom:=hi.dom
  inj:=hi.inj
  buf:=hi.buf
  K5:=hi.K5
  K8:=hi.K8
  M0:=λi f c o hf hs=>by
   show((σ.w.freeze _ _).cell? _).isSome=true;rw[dK];exact hi.M0 i f c o hf hs
  L5:=λi f c o hf hs=>by
   show Y6 (σ.w.freeze _ _) c o=true
   by_cases hcb:c=b
   ·subst hcb
    have hfo:n<=o:=by
     obtain⟨a,g1,g2,g3⟩:=hs;have hs2:f.tail c (max o n):=⟨a,g1,g2,by omega,g3.2⟩;have:=hi.L6 i id f e c (max o n) hf he hs2 (htail _ (by omega));subst this;rw[he]at hf;cases hf;rw[ha]at g1;cases g1;rw[hc]at g3;simpa using g3.1
    refine zk (λk hk=>hi.L5 id e c k he (htail k hk)) hfo
   ·rw[Mt (an _ _ _ _ hcb)];exact hi.L5 i f c o hf hs
  H4:=λi f c o hf hs=>by
   show c<(σ.w.freeze _ _).heap.size;rw[Zq];exact hi.H4 i f c o hf hs
  L6:=hi.L6
  I6:=hi.I6
  outer:=λc o ho=>⟨by show c<(σ.w.freeze _ _).heap.size;rw[Zq];exact(hi.outer c o ho).1,(hi.outer c o ho).2⟩
  F5:=λg cells hg=>(hi.F5 g cells hg).mono hle}
theorem p5{els:b5l (b5l AV)}{tok:Tok}{a:b5m Addr}{n cap:Nat}(h:Rel σ (.sl els tok) (.slice a n cap))(hne:els≠[]):∃(b o sz:Nat) (xs:Nat->Nat->Value),a=some ⟨b,o,none⟩/\(∀(i:Nat) (el:b5l AV),els[i]? =some el->el.length=sz)/\BM σ tok els.length (some ⟨b,o,none⟩) cap/\
  (∀(i:Nat) (el:b5l AV),els[i]? =some el->∀(j:Nat) (av:AV),el[j]? =some av->σ.w.cell? ⟨b,o+i*sz+j,none⟩=some (xs i j)/\¬σ.open_ b (o+i*sz+j)/\av.isCell=true)/\∀(i:Nat) (el:b5l AV),els[i]? =some el->∀(j:Nat) (av:AV),el[j]? =some av->Rel σ av (xs i j):=by
 cases h with
 |sl0=>exact absurd rfl hne
 |L3=>exact absurd rfl hne
 |sl _ _ b o _ sz xs hs hcap ht hz hc hr=>exact⟨b,o,sz,xs,rfl,hs,ht,hc,hr⟩
def SN(h:A3)(u:TypeId)(p n:AV)(K:AV->Prop):Prop:=
 match p,n with
 |.v (.pointer none),.v (.int .i64 m)=>m=0/\K (.v (.string ⟨#[]⟩))
 |.bb (.data id) els t,.v (.int .i64 m)=>t=u/\h.A9[id]? =some (els.length,1)/\∃l:b5l UInt8,els=S5 l/\m=l.length/\l.length<=140737488355328/\K (.v (.string ⟨l.toArray⟩))
 |_,_=>False
theorem tw(hi:Inv h σ){pt it ty u:TypeId}(hpt:P.underlying pt=some (.pointer u))(hcu:P.cellsOf u=1){p n:AV}{x y:Value}(hp:Rel σ p x)(hn:Rel σ n y){K:AV->Prop}(hk:SN h u p n K):
  ∃σ' av z,(Builtin.unsafeString_ #[pt,it] ty #[x,y]).run P σ.w=.ok z σ'.w/\Le σ σ'/\Inv h σ'/\Rel σ' av z/\K av:=by
 unfold SN at hk;split at hk
 ·obtain⟨rfl,hk⟩:=hk;cases hp with
  |v _ _=>
  cases hn with
  |v _ _=>
  exact⟨σ,_,_,Lib.run_unsafeString_none σ.w pt it ty none,Le.refl σ,hi,.v _ rfl,hk⟩
 ·rename_i id els t m;obtain⟨rfl,hbuf,l,rfl,rfl,hroom,hk⟩:=hk;cases hn with
  |v _ _=>
  cases hp with
  |Em _ _ _ a p0 n0 cap hsl hty hpa=>
  by_cases hl0:l=[]
  ·subst hl0;exact⟨σ,_,_,Lib.run_unsafeString_none σ.w pt it ty p0,Le.refl σ,hi,.v _ rfl,hk⟩
  ·have hne:S5 l≠[]:=by intro hb;exact hl0 (List.map_eq_nil_iff.1 hb)
   obtain rfl:=hpa hne;obtain⟨e,he,hce⟩:=hi.buf id _ hbuf;simp only[Prod.mk.injEq]at hce;obtain⟨hcur,hsize⟩:=hce;have hlen:(S5 l).length=l.length:=by simp[S5]
   obtain⟨b,o,sz,xs,rfl,hsz,htk,hc,hr⟩:=p5 hsl hne;obtain⟨e2,k1,k2,k3⟩:=htk;rw[he]at k1;cases k1;obtain⟨k4,k5⟩:=k3 hcur;obtain⟨ho,_,hcz,m,hm⟩:=hty _ rfl;simp only at ho hm;subst ho
   have hcells:∀j x,l[j]? =some x->σ.w.cell? ⟨b,j,none⟩=some (.int .u8 x.toNat):=by
    intro j x hx;have h1:(S5 l)[j]? =some [.v (.int .u8 x.toNat)]:=by simp[S5,hx]
    have h2:=hsz j _ h1;obtain⟨h3,_,_⟩:=hc j _ h1 0 _ rfl;have h4:=hr j _ h1 0 _ rfl;simp only[List.length_cons,List.length_nil]at h2;rw[<-h2]at h3;simp only[Nat.zero_add,Nat.mul_one,Nat.add_zero]at h3;rw[h3];generalize xs j 0=y at h4;cases h4;rfl
   have hlm:l.length<=m:=by
    have hl:0<l.length:=List.length_pos_iff.2 hl0;have h1:=hcells (l.length - 1) l[l.length - 1] (b48 (by omega));unfold World.shape? at hm;unfold World.cell? at h1;split at hm
    ·rename_i c el fz hb;cases hm;simp only[hb]at h1;have:=(Array.getElem?_eq_some_iff.1 (show c[l.length - 1]? =some _ from by simpa using h1)).1;omega
    ·cases hm
   have hrun:=Lib.run_unsafeString_row σ.w pt it ty t hpt hcu b m hm l hl0 hlm (by omega) (λj x hx=>by
    have:=hcells j x hx;rw[<-this];unfold Addr.add
    by_cases hj:j=0
    ·subst hj;simp
    ·simp[hj])
   obtain⟨f1,f2⟩:=a93 hi he k4 (n:=l.length) (by rw[hcur,hsize,hlen];omega) (by rw[k5];exact hcz);exact⟨_,_,_,hrun,f1,f2,.v _ rfl,hk⟩
 ·exact hk.elim
theorem ky(hi:Inv h σ)(cs:b5l Value)(T:TypeId){w:World}(hw:K9 σ.w w)(hsz:w.heap.size=σ.w.heap.size):
  ∃σ',σ'.w=w.alloc (.cells cs.toArray T)/\Le σ σ'/\Inv ⟨h.A5,h.A9++[(0,1)],h.B0⟩ σ'/\σ'.buf h.A9.length=some ⟨0,1,some ⟨σ.w.heap.size,0,none⟩,cs.length⟩:=by
 let e:Buf:=⟨0,1,some ⟨σ.w.heap.size,0,none⟩,cs.length⟩
 let σ':Sg:={σ with w:=w.alloc (.cells cs.toArray T),buf:=λi=>if i=h.A9.length then some e else σ.buf i}
 have hp:K9 σ.w (w.alloc (.cells cs.toArray T)):=hw.trans (K9.alloc _ _);have hnew:(w.alloc (.cells cs.toArray T)).heap[σ.w.heap.size]? =some (.cells cs.toArray T (0,0)):=by rw[<-hsz];exact heap_alloc_new w _
 have hlt:∀i f,σ.buf i=some f->i<h.A9.length:=by
  intro i f hf;exact(List.getElem?_eq_some_iff.1 (hi.K5 i f hf)).1
 have hsp:∀b o,e.spare b o->b=σ.w.heap.size/\o<cs.length:=by
  rintro b o ⟨a,h1,h2,h3,h4⟩;cases h1;have h4':o<0+cs.length*1:=h4;exact⟨h2.symm,by omega⟩
 have hspT:∀b o,e.tail b o->b=σ.w.heap.size:=by
  rintro b o ⟨a,h1,h2,h3⟩;cases h1;exact h2.symm
 have hbuf:∀i f,σ'.buf i=some f->(i=h.A9.length/\f=e)\/(i≠h.A9.length/\σ.buf i=some f):=by
  intro i f hf;simp only[σ']at hf;split at hf
  ·cases hf;exact .inl ⟨‹_›,rfl⟩
  ·exact .inr ⟨‹_›,hf⟩
 have hown:∀b o,b<σ.w.heap.size->σ'.own b o->σ.own b o:=by
  rintro b o hb (⟨m,hm⟩|⟨i,f,hf,hs⟩)
  ·exact .inl ⟨m,hm⟩
  ·rcases hbuf i f hf with⟨rfl,rfl⟩|⟨_,hf⟩
   ·have:=hspT b o hs;omega
   ·exact .inr ⟨i,f,hf,hs⟩
 have hle:Le σ σ':={
  blk:=λ_ _ h=>h
  buf:=λi f hf=>⟨f,by show(if i=h.A9.length then some e else σ.buf i)=some f;rw[if_neg (by have:=hlt i f hf;omega)];exact hf,Nat.le_refl _,rfl,λ_=>rfl⟩
  outer:=rfl
  cell:=λb o hb _=>BZ (hp.old b hb) o
  ext:=(Le.world (σ:=σ) hp).ext
  whole:=λb hb _=>hp.old b hb
  shape:=(Le.world (σ:=σ) hp).shape
  own:=hown
  size:=hp.size
  os:=hp.os
  tape:=hp.tape
  output:=hp.output}
 refine⟨σ',rfl,hle,?_,if_pos rfl⟩
 exact {
  blk:=λm cells hm=>by
   obtain⟨b,k1,k2⟩:=hi.blk m cells hm;exact⟨b,k1,k2.keep hle (hp.old b k2.lt)⟩
  dom:=hi.dom
  inj:=hi.inj
  buf:=λi c hc=>by
   by_cases hl:i<h.A9.length
   ·rw[b49 hl]at hc;obtain⟨f,k1,k2⟩:=hi.buf i c hc;exact⟨f,by show(if i=h.A9.length then some e else σ.buf i)=some f;rw[if_neg (by omega)];exact k1,k2⟩
   ·rw[b5a (by omega)]at hc
    have hz:i=h.A9.length:=by
     by_cases hz:i - h.A9.length=0
     ·omega
     ·rw[List.getElem?_eq_none (by simp;omega)]at hc;cases hc
    subst hz;simp at hc;exact⟨e,if_pos rfl,hc⟩
  K5:=λi f hf=>by
   rcases hbuf i f hf with⟨rfl,rfl⟩|⟨_,hf⟩
   ·simp[e]
   ·rw[b49 (hlt i f hf)];exact hi.K5 i f hf
  K8:=λi f hf=>by
   rcases hbuf i f hf with⟨rfl,rfl⟩|⟨_,hf⟩
   ·exact⟨Nat.zero_le _,λh=>by cases h⟩
   ·exact hi.K8 i f hf
  M0:=λi f b o hf hs=>by
   rcases hbuf i f hf with⟨rfl,rfl⟩|⟨_,hf⟩
   ·obtain⟨rfl,s2⟩:=hsp b o hs;show((w.alloc _).cell? _).isSome=true;rw[BH hnew];simp;omega
   ·rw[BZ (hp.old b (hi.H4 i f b o hf hs.tail))];exact hi.M0 i f b o hf hs
  L5:=λi f b o hf hs=>by
   rcases hbuf i f hf with⟨rfl,rfl⟩|⟨_,hf⟩
   ·obtain rfl:=hspT b o hs;exact ip hnew o
   ·rw[Mt (hp.old b (hi.H4 i f b o hf hs))];exact hi.L5 i f b o hf hs
  H4:=λi f b o hf hs=>by
   rcases hbuf i f hf with⟨rfl,rfl⟩|⟨_,hf⟩
   ·obtain rfl:=hspT b o hs;exact Rd hnew
   ·exact Nat.lt_of_lt_of_le (hi.H4 i f b o hf hs) hp.size
  L6:=λi j f g b o hf hg h1 h2=>by
   rcases hbuf i f hf with⟨rfl,rfl⟩|⟨_,hf2⟩<;>rcases hbuf j g hg with⟨rfl,rfl⟩|⟨_,hg2⟩
   ·rfl
   ·have:=hspT b o h1;have:=hi.H4 j g b o hg2 h2;omega
   ·have:=hspT b o h2;have:=hi.H4 i f b o hf2 h1;omega
   ·exact hi.L6 i j f g b o hf2 hg2 h1 h2
  I6:=λi f m b o hf hs hm=>by
   rcases hbuf i f hf with⟨rfl,rfl⟩|⟨_,hf⟩
   ·have:=hspT b o hs;have:=hi.lt hm;omega
   ·exact hi.I6 i f m b o hf hs hm
  outer:=λb o ho=>⟨Nat.lt_of_lt_of_le (hi.outer b o ho).1 hp.size,λhx=>(hi.outer b o ho).2 (hown b o (hi.outer b o ho).1 hx)⟩
  F5:=λg cells hg=>(hi.F5 g cells hg).mono hle}
def Rf(h:A3)(u:TypeId)(n:AV)(K:AV->A3->Prop):Prop:=
 match n with
 |.v (.int .i64 m)=>0<m/\m<=140737488355328/\K (.bb (.raw h.A9.length m.toNat) [] u) ⟨h.A5,h.A9++[(0,1)],h.B0⟩
 |_=>False
theorem a1g(hi:Inv h σ){ps:Array TypeId}{t u:TypeId}(ht:P.underlying t=some (.slice u)){n:AV}{x:Value}(hn:Rel σ n x){K:AV->A3->Prop}(hk:Rf h u n K):
  ∃σ' h' av z,(Extern.BytealgMakeNoZero.makeNoZero ps #[t] #[x]).run P σ.w=.ok z σ'.w/\Le σ σ'/\Inv h' σ'/\Rel σ' av z/\K av h':=by
 unfold Rf at hk;split at hk
 ·rename_i m;obtain⟨h0,h1,hk⟩:=hk;cases hn with
  |v _ _=>
  obtain⟨k,rfl⟩:∃k:Nat,m=k:=⟨m.toNat,by omega⟩
  obtain⟨cs,r1,r2,_⟩:=Lib.run_makeNoZero (P:=P) σ.w ps t u ht k (by omega);have hp:K9 σ.w σ.w.drew.drew:=(K9.drew _).trans (K9.drew _);obtain⟨σ',g1,g2,g3,g4⟩:=ky hi cs.toList u hp rfl;refine⟨σ',_,_,_,by rw[g1];simpa using r1,g2,g3,?_,hk⟩;have hsh:σ'.w.shape? σ.w.heap.size=some (u,cs.size):=by rw[g1];simpa using aT σ.w.drew.drew cs u
  exact .Fu _ _ _ σ.w.heap.size cs.size (by simpa using r2) ⟨_,g4,rfl,λ_=>⟨rfl,by simp⟩⟩ λad had=>by cases had;exact⟨rfl,rfl,by omega,_,hsh⟩
 ·exact hk.elim
def SX(s:b5k)(c:Int):Int:=firstIdx s c.toNat.toUInt8
def Ui(s:b5k)(c:Int):Int:=s.foldl (λn x=>if x==c.toNat.toUInt8 then n+1 else n) (((0:Nat):Int))
def MZ(f:b5k->Int->Int)(s c:AV)(K:AV->Prop):Prop:=
 match s,c with
 |.v (.string s),.v (.int .u8 c)=>K (.v (.int .i64 (f s c)))
 |_,_=>False
theorem b33{p q:AV}{x y:Value}(hp:Rel σ p x)(hq:Rel σ q y){K:AV->Prop}(hk:MZ SX p q K):∃av z,K av/\Rel σ av z/\(Extern.BytealgIndexByte.indexByte #[x,y]).run P σ.w=.ok z σ.w:=by
 unfold MZ at hk;split at hk
 ·cases hp with
  |v _ _=>
  cases hq with
  |v _ _=>
  exact⟨_,_,hk,.v _ rfl,run_indexByte_string _ _ _⟩
 ·exact hk.elim
theorem a8e{p q:AV}{x y:Value}(hp:Rel σ p x)(hq:Rel σ q y){K:AV->Prop}(hk:MZ Ui p q K):∃av z,K av/\Rel σ av z/\(Extern.BytealgCount.count #[x,y]).run P σ.w=.ok z σ.w:=by
 unfold MZ at hk;split at hk
 ·cases hp with
  |v _ _=>
  cases hq with
  |v _ _=>
  refine⟨_,_,hk,.v _ rfl,?_⟩;rfl
 ·exact hk.elim
def WO(x:AV)(K:AV->Prop):Prop:=
 match x with
 |.bb .nil [] _=>K (.v (.int .i64 0))
 |.nil=>K (.v (.int .i64 0))
 |_=>False
theorem xr{t ty e:TypeId}(ht:P.underlying t=some (.slice e)){p:AV}{x:Value}(hp:Rel σ p x){K:AV->Prop}(hk:WO p K):∃av z,K av/\Rel σ av z/\(Builtin.cap_ #[t] ty #[x]).run P σ.w=.ok z σ.w:=by
 unfold WO at hk;split at hk
 ·cases hp with
  |CC=>exact⟨_,_,hk,.v _ rfl,by simp[Builtin.cap_,run_underlying ht,goInt]⟩
 ·cases hp with
  |nil=>exact⟨_,_,hk,.v _ rfl,by simp[Builtin.cap_,run_underlying ht,goInt]⟩
 ·exact hk.elim
def Wr(x y:AV)(K:AV->Prop):Prop:=
 match x,y with
 |.bb (.own _) [] _,.bb .nil [] _=>K (.v (.int .i64 0))
 |_,_=>False
theorem j5{t u ty e:TypeId}{ie:TypeInfo}(ht:P.underlying t=some (.slice e))(hie:P.info? e=some ie){p q:AV}{x y:Value}(hp:Rel σ p x)(hq:Rel σ q y){K:AV->Prop}(hk:Wr p q K):∃av z,K av/\Rel σ av z/\(Builtin.copy_ #[t,u] ty #[x,y]).run P σ.w=.ok z σ.w:=by
 unfold Wr at hk;split at hk
 ·cases hq with
  |CC=>
  cases hp with
  |Ab _ _ _ a n cap hsl hty=>
  have hn:=Yp hsl;subst hn;refine⟨_,_,hk,.v _ rfl,?_⟩;cases a<;>simp[Builtin.copy_,run_underlying ht,Builtin.lenOf,Builtin.firstCells,sizeOf,typeInfo,hie,storeCells,goInt]
 ·exact hk.elim
def Ns(h:A3)(size:Nat)(zero:b5l AV)(x:AV)(K:A3->Prop):Prop:=
 match x with
 |.row n off sz len _=>sz=size/\match h.A5[n]? with
  |some (some cells)=>I4 cells/\off+len*size<=cells.length/\K ⟨h.A5.set n (some (cells.take off++(List.replicate len zero).flatten++cells.drop (off+((List.replicate len zero).flatten).length))),h.A9,h.B0⟩
  |_=>False
 |.sl [] _=>K h
 |.nil=>K h
 |_=>False
theorem z3{zero:b5l AV}{zs:Array Value}(hz:D3 σ zero zs.toList):∀n,D3 σ (List.replicate n zero).flatten (Builtin.zeroCells zs n).toList:=by
 intro n
 have key:∀n,(Builtin.zeroCells zs n).toList=(List.replicate n zs.toList).flatten:=by
  intro n
  by_cases h0:zs.size=0
  ·have:zs=#[]:=by simpa using h0
   subst this;simp[Builtin.zeroCells]
  ·induction n with
   |zero=>simp[Builtin.zeroCells]
   |succ n ih=>
    have e1:(Builtin.zeroCells zs (n+1)).toList=zs.toList++(Builtin.zeroCells zs n).toList:=by
     apply List.ext_getElem?;intro i;simp only[Builtin.zeroCells,Array.toList_map,Array.toList_range,b5b]
     by_cases hi:i<zs.size
     ·rw[b49 (by simpa using hi),List.getElem?_range (by rw[Nat.add_mul];omega)];simp[Nat.mod_eq_of_lt hi,hi]
     ·rw[b5a (by simpa using Nat.le_of_not_lt hi)];simp only[Array.length_toList,b5b]
      by_cases h2:i<(n+1)*zs.size
      ·rw[List.getElem?_range h2,List.getElem?_range (by rw[Nat.add_mul]at h2;omega)]
       have:i % zs.size=(i - zs.size) % zs.size:=by
        have h3:i=(i - zs.size)+zs.size:=by omega
        rw[h3,Nat.add_mod_right];simp
       simp[this]
      ·rw[List.getElem?_eq_none (by simpa using Nat.le_of_not_lt h2),List.getElem?_eq_none (by rw[Nat.add_mul]at h2;simp;omega)]
    rw[e1,ih,List.replicate_succ,List.flatten_cons]
 rw[key]
 induction n with
 |zero=>exact D3.nil σ
 |succ n ih=>simp only[List.replicate_succ,List.flatten_cons];exact hz.append ih
theorem xy(hi:Inv h σ){t ty e:TypeId}{ie:TypeInfo}{z:Value}(ht:P.underlying t=some (.slice e))(hie:P.info? e=some ie)(hz:ie.zero=some z)(hzs:z.cells.size=ie.size){zero:b5l AV}(hzc:D3 σ zero z.cells.toList){p:AV}{x:Value}(hp:Rel σ p x){K:A3->Prop}(hk:Ns h ie.size zero p K):
  ∃σ' h',(Builtin.clear_ #[t] ty #[x]).run P σ.w=.ok (.tuple #[]) σ'.w/\Le σ σ'/\Inv h' σ'/\K h':=by
 have hz1:∀w:World,(zeroValue e).run P w=.ok z w:=λw=>by simp[zeroValue,typeInfo,hie,hz]
 unfold Ns at hk;split at hk
 ·obtain⟨rfl,hk⟩:=hk;rename_i n off len capm;split at hk
  ·rename_i cells hcs;obtain⟨hno,hin,hk⟩:=hk;cases hp with
   |row _ _ _ _ _ b cap hb hcap hcm hx=>
   have hv:=z3 hzc len;have hvl:(Builtin.zeroCells z.cells len).toList.length=len*ie.size:=by rw[Pi,hzs]
   have hmul:len*ie.size<=cap*ie.size:=Nat.mul_le_mul_right _ hcap;obtain⟨σ',g1,g2,g3,g4,g5⟩:=oi (P:=P) hi hb hcs hno (Nat.le_trans (Nat.le_add_right _ _) hin) hv (λk hk=>hx k (by rw[hvl]at hk;omega));refine⟨σ',_,?_,g2,g3,hk⟩;cases len with
   |zero=>
    have:Builtin.zeroCells z.cells 0=#[]:=by simp[Builtin.zeroCells]
    rw[this]at g1;have h9:σ'.w=σ.w:=g1;rw[h9];simp[Builtin.clear_,run_underlying ht]
   |succ k=>simp[Builtin.clear_,run_underlying ht,hz1,g5]
  ·exact hk.elim
 ·refine⟨σ,h,?_,Le.refl σ,hi,hk⟩;cases hp<;>simp[Builtin.clear_,run_underlying ht]
 ·refine⟨σ,h,?_,Le.refl σ,hi,hk⟩;cases hp<;>simp[Builtin.clear_,run_underlying ht]
 ·exact hk.elim
theorem b0q(hi:Inv h σ)(e u:TypeId):
  ∃σ',σ'.w=σ.w.alloc (.cells #[.pointer none,.slice none 0 0] e)/\Le σ σ'/\Inv ⟨h.A5++[some [.ps h.A5.length e,.bb .nil [] u]],h.A9,h.B0⟩ σ'/\Rel σ' (.ptr h.A5.length 0) (.pointer (some ⟨σ.w.heap.size,0,none⟩)):=by
 have hc0:D3 σ [.v (.pointer none),.bb .nil [] u] [.pointer none,.slice none 0 0]:=by
  refine⟨rfl,λi av hi=>?_⟩
  match i with
  |0=>simp at hi;subst hi;exact⟨rfl,_,rfl,.v _ rfl⟩
  |1=>simp at hi;subst hi;exact⟨rfl,_,rfl,.CC u⟩
  |k+2=>simp at hi
 obtain⟨σ',g1,g2,g3,g4⟩:=PT hi hc0 e;refine⟨σ',g1,g2,?_,g4⟩;cases g4 with
 |ptr _ _ _ hb=>
 have hsh:σ'.w.shape? σ.w.heap.size=some (e,2):=by rw[g1];exact aT σ.w _ e
 have hk:(h.A5++[some [AV.v (.pointer none),.bb .nil [] u]])[h.A5.length]? =some (some [.v (.pointer none),.bb .nil [] u]):=by rw[b5a (Nat.le_refl _)];simp
 have:=g3.reset hk (by simp) (c':=[.ps h.A5.length e,.bb .nil [] u]) (λb hbk=>by
  obtain⟨cs,rest,elem,q3,q4⟩:=hbk.plain rfl;refine .cells _ cs rest elem q3 ⟨q4.1,λi av hi=>?_⟩
  match i with
  |0=>
   simp at hi;subst hi;obtain⟨_,x,q5,q6⟩:=q4.2 0 _ rfl;cases q6;exact⟨rfl,_,q5,.ps _ _ _ _ hb hsh (.inl rfl)⟩
  |1=>simp at hi;subst hi;exact q4.2 1 _ rfl
  |k+2=>simp at hi)
 have e2:(h.A5++[some [AV.v (.pointer none),.bb .nil [] u]]).set h.A5.length (some [.ps h.A5.length e,.bb .nil [] u])=h.A5++[some [.ps h.A5.length e,.bb .nil [] u]]:=by
  rw[List.set_append_right _ _ (Nat.le_refl _)];simp
 simp only[e2]at this;exact this
end
end Go.Proofs.YtlcmiciojnnlnaaGreatDoor.Lift
