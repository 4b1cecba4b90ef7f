/- Part 3 of the texts that prove TextformPrintsEnd. -/
import Derived.Test.YtdpomombdeccpaaGreatDoorTextformPrintsEndP1
import Derived.LoopN
namespace Go.Proofs.YtdpomombdeccpaaGreatDoor.Lift
open Go.RowKit
set_option linter.unusedVariables false
set_option linter.unusedSimpArgs false
set_option linter.unnecessarySimpa false
set_option linter.unusedSectionVars false
set_option maxRecDepth 100000
def aX(op:BinOp)(x y:Value):b4d Value:=
 match op,x,y with
 |.eql,.string a,.string b=>some (.bool (a.data.toList==b.data.toList))
 |.neq,.string a,.string b=>some (.bool (!(a.data.toList==b.data.toList)))
 |.lss,.string a,.string b=>some (.bool (Op.bytesLess a.data.toList b.data.toList))
 |.leq,.string a,.string b=>some (.bool (Op.bytesLess a.data.toList b.data.toList||a.data.toList==b.data.toList))
 |.gtr,.string a,.string b=>some (.bool (!(Op.bytesLess a.data.toList b.data.toList||a.data.toList==b.data.toList)))
 |.geq,.string a,.string b=>some (.bool (!(Op.bytesLess a.data.toList b.data.toList)))
 |.add,.string a,.string b=>if a.data.toList.length+b.data.toList.length<=9223372036854775807 then some (.string ⟨⟨a.data.toList++b.data.toList⟩⟩) else none
 |.quo,.int k a,.int k' b=>if k=k'/\b≠0 then some (.int k (k.wrap (a.tdiv b))) else none
 |.rem,.int k a,.int k' b=>if k=k'/\b≠0 then some (.int k (a.tmod b)) else none
 |.shl,.int k a,.int _ b=>if 0<=b then some (.int k (k.wrap (a*2 ^ min b.toNat k.bits))) else none
 |.shr,.int k a,.int _ b=>if 0<=b then some (.int k (a.fdiv (2 ^ min b.toNat k.bits))) else none
 |.add,.int k a,.int k' b=>if k=k' then some (.int k (k.wrap (a+b))) else none
 |.sub,.int k a,.int k' b=>if k=k' then some (.int k (k.wrap (a - b))) else none
 |.mul,.int k a,.int k' b=>if k=k' then some (.int k (k.wrap (a*b))) else none
 |.and,.int k a,.int k' b=>if k=k' then some (.int k (G5 .and k a b)) else none
 |.or,.int k a,.int k' b=>if k=k' then some (.int k (G5 .or k a b)) else none
 |.xor,.int k a,.int k' b=>if k=k' then some (.int k (G5 .xor k a b)) else none
 |.andNot,.int k a,.int k' b=>if k=k' then some (.int k (G5 .andNot k a b)) else none
 |.eql,.int k a,.int k' b=>if k=k' then some (.bool (a==b)) else none
 |.neq,.int k a,.int k' b=>if k=k' then some (.bool (a !=b)) else none
 |.lss,.int k a,.int k' b=>if k=k' then some (.bool (decide (a<b))) else none
 |.leq,.int k a,.int k' b=>if k=k' then some (.bool (decide (a<=b))) else none
 |.gtr,.int k a,.int k' b=>if k=k' then some (.bool (decide (b<a))) else none
 |.geq,.int k a,.int k' b=>if k=k' then some (.bool (decide (b<=a))) else none
 |_,_,_=>none
theorem a1r(a b:b4b):a++b=⟨⟨a.data.toList++b.data.toList⟩⟩:=by
 apply ByteArray.ext;apply Array.ext';rw[ByteArray.data_append,Array.toList_append]
theorem a9b{op:BinOp}{x y r:Value}(h:aX op x y=some r):∃c:Prop,c/\Ac op x y=some (c,r):=by
  unfold aX at h;split at h
  · cases h;exact⟨True,trivial,by simp only[Ac,ByteArray.toList_eq]⟩
  · cases h;exact⟨True,trivial,by simp only[Ac,ByteArray.toList_eq]⟩
  · cases h;exact⟨True,trivial,by simp only[Ac,ByteArray.toList_eq]⟩
  · cases h;exact⟨True,trivial,by simp only[Ac,ByteArray.toList_eq]⟩
  · cases h;exact⟨True,trivial,by simp only[Ac,ByteArray.toList_eq]⟩
  · cases h;exact⟨True,trivial,by simp only[Ac,ByteArray.toList_eq]⟩
  · split at h
    · rename_i a b hc
      cases h;refine⟨_,hc,?_⟩;simp only[Ac];rw[a1r];rfl
    · cases h
  · split at h
    · rename_i hc;cases h;exact⟨_,hc.2,by simp only[Ac];rw[if_pos hc.1]⟩
    · cases h
  · split at h
    · rename_i hc;cases h;exact⟨_,hc.2,by simp only[Ac];rw[if_pos hc.1]⟩
    · cases h
  · split at h
    · rename_i hc;cases h;exact⟨_,hc,by simp only[Ac]⟩
    · cases h
  · split at h
    · rename_i hc;cases h;exact⟨_,hc,by simp only[Ac]⟩
    · cases h
  all_goals first
    |(cases h;done)
    |(split at h
      · rename_i hc;cases h;exact⟨True,trivial,by simp only[Ac];rw[if_pos hc]⟩
      · cases h)
def Jo(h:A3)(n:b4d Nat)(p:AV):b4d AV:=
 (S3 h p).bind λq=>match n with
  |none=>q.1[q.2]?
  |some n=>if q.2+n<=q.1.length then some (.agg ((q.1.drop q.2).take n)) else none
theorem ax{h:A3}{n:b4d Nat}{p a:AV}{K:AV->Prop}(he:Jo h n p=some a)(hk:K a):DR h n p K:=by
 simp only[Jo,b3u]at he;obtain⟨⟨cells,off⟩,h1,h2⟩:=he;simp only[DR,h1];cases n with
 |none=>simp only at h2 ⊢;simp only[h2];exact hk
 |some n=>
  simp only at h2 ⊢;split at h2
  ·rename_i hc;cases h2;exact⟨hc,hk⟩
  ·cases h2
def YS(h:A3)(size:Nat)(p x:AV):b4d A3:=
 match p with
 |.ptr n off=>match h.A4[n]? with
  |some (some cells)=>if G4 cells/\x.cells.length=size/\off+size<=cells.length/\x.isTuple=false then some ⟨h.A4.set n (some (splice cells off x.cells)),h.A6,h.A8⟩ else if size=0/\x.cells=[]/\x.isTuple=false then some h else none
  |_=>none
 |_=>none
theorem a7o{h h':A3}{n:Nat}{p x:AV}{K:A3->Prop}(he:YS h n p x=some h')(hk:K h'):LW h n p x K:=by
 unfold YS at he;unfold LW;split at he
 ·split at he
  ·rename_i hb;simp only[hb];split at he
   ·rename_i hc;cases he;exact .inl ⟨hc,hk⟩
   ·split at he
    ·rename_i hc;cases he;exact .inr ⟨hc,hk⟩
    ·cases he
  ·cases he
 ·cases he
def Zw(op:BinOp)(x y:AV):b4d AV:=
 match x,y with
 |.v a,.v b=>(aX op a b).map .v
 |_,_=>none
theorem xS{op:BinOp}{x y a:AV}{K:AV->Prop}(he:Zw op x y=some a)(hk:K a):Lh op x y K:=by
 unfold Zw at he;split at he
 ·simp only[b3t]at he;obtain⟨r,h1,rfl⟩:=he;obtain⟨c,hc,hp⟩:=a9b h1;simp only[Lh,hp];exact⟨hc,hk⟩
 ·cases he
def eqF(c:Im)(x y:AV):b4d b4e:=
 match c,x,y with
 |.bool,.v (.bool a),.v (.bool b)=>some (a==b)
 |.slice,.nil,.nil=>some true
 |.slice,.sl (_::_) _,.nil=>some false
 |.slice,.nil,.sl (_::_) _=>some false
 |.slice,.row _ _ _ _ _,.nil=>some false
 |.slice,.nil,.row _ _ _ _ _=>some false
 |.func,.clo _ _ _,.v .nilFunc=>some false
 |.func,.v .nilFunc,.clo _ _ _=>some false
 |.func,.v .nilFunc,.v .nilFunc=>some true
 |.ptr,.ptr _ _,.v (.pointer none)=>some false
 |.ptr,.D3 _ _,.v (.pointer none)=>some false
 |.ptr,.v (.pointer none),.v (.pointer none)=>some true
 |.iface,.iface _ _,.v .nilIface=>some false
 |.iface,.v .nilIface,.iface _ _=>some false
 |.iface,.v .nilIface,.v .nilIface=>some true
 |.flat ks,.agg xs,.agg ys=>Ax ks xs ys
 |_,_,_=>none
theorem a8c{c:Im}{x y:AV}{b:b4e}{K:b4e->Prop}(he:eqF c x y=some b)(hk:K b):EG c x y K:=by
 unfold eqF at he;split at he<;>first|(cases he;done)|(cases he;exact hk)|(cases he;exact .inl ⟨by simp,hk⟩)|(simp only[EG,he,cF];exact hk)
def eC(op:UnOp)(x:AV):b4d AV:=
 match op,x with
 |.not,.v (.bool b)=>some (.v (.bool (!b)))
 |.neg,.v (.int k n)=>some (.v (.int k (k.wrap (0 - n))))
 |.xor,.v (.int k n)=>some (.v (.int k (G5 .xor k (if k.signed then -1 else k.max) n)))
 |_,_=>none
theorem vN{op:UnOp}{x a:AV}{K:AV->Prop}(he:eC op x=some a)(hk:K a):Sn op x K:=by
 unfold eC at he;split at he<;>first|(cases he;done)|(cases he;exact hk)
def OL:b4c (b4c AV)->b4d (b4c UInt8)
 |[]=>some []
 |[.v (.int .u8 n)]::r=>if 0<=n/\n<256 then(OL r).map λl=>UInt8.ofNat n.toNat::l else none
 |_=>none
theorem dJ:∀{els:b4c (b4c AV)}{l:b4c UInt8},OL els=some l->els=P0 l
 |[],l,h=>by cases h;rfl
 |el::r,l,h=>by
  unfold OL at h;split at h
  ·rename_i heq;cases heq
  ·rename_i n r' heq;cases heq;split at h
   ·rename_i hn;simp only[b3t]at h;obtain⟨l',h1,rfl⟩:=h;rw[dJ h1]
    have:((UInt8.ofNat n.toNat).toNat:Int)=n:=by
     rw[UInt8.toNat_ofNat'];omega
    simp only[P0,List.map_cons,this]
   ·cases h
  ·cases h
def dE(c:CK)(x:AV):b4d AV:=
 match c,x with
 |.num k,.v (.int _ n)=>some (.v (.int k (k.wrap n)))
 |.WC,.v (.int _ n)=>some (.v (.string (Utf8.encode n)))
 |.same,.v (.string s)=>some (.v (.string s))
 |.str,.nil=>some (.v (.string ⟨⟨[]⟩⟩))
 |.str,.sl els _=>(OL els).map λl=>.v (.string ⟨⟨l⟩⟩)
 |_,_=>none
theorem sJ{c:CK}{x a:AV}{K:AV->Prop}(he:dE c x=some a)(hk:K a):QD c x K:=by
 unfold dE at he;split at he
 ·cases he;exact hk
 ·cases he;exact hk
 ·cases he;exact hk
 ·cases he;exact hk
 ·simp only[b3t]at he;obtain⟨l,h1,rfl⟩:=he;exact⟨l,dJ h1,hk⟩
 ·cases he
def Wx(p:AV)(lo hi:b4d AV):b4d AV:=
 match p with
 |.v (.string s)=>(K2 0 lo).bind λl=>(K2 s.data.toList.length hi).bind λu=>
  if 0<=l/\l<=u/\u<=(s.data.toList.length:Int) then some (.v (.string ⟨⟨(s.data.toList.take u.toNat).drop l.toNat⟩⟩)) else none
 |_=>none
theorem RF(s:b4b)(l u:Nat):s.extract l u=⟨⟨(s.data.toList.take u).drop l⟩⟩:=by
 apply ByteArray.ext;apply Array.ext';rw[ByteArray.data_extract];simp[List.extract,List.drop_take]
theorem a8g{p a:AV}{lo hi:b4d AV}{K:AV->Prop}(he:Wx p lo hi=some a)(hk:K a):MB p lo hi K:=by
 unfold Wx at he;split at he
 ·rename_i s;simp only[b3u]at he;obtain⟨l,h1,u,h2,h3⟩:=he;split at h3
  ·rename_i hc;cases h3;have hs:s.data.toList.length=s.size:=Array.length_toList;rw[hs]at h2 hc;simp only[MB,h1,h2];rw[RF];exact⟨hc,hk⟩
  ·cases h3
 ·cases he
def CP(size:Nat):b4c (b4c AV)->b4e
 |[]=>true
 |el::r=>decide (el.length=size)&&CP size r
theorem Di{size:Nat}:∀{l:b4c (b4c AV)},CP size l->∀el∈l,el.length=size
 |[],_,el,h=>by simp at h
 |a::r,hs,el,h=>by
  simp only[CP,b3x,b3v]at hs;rcases List.mem_cons.1 h with rfl|h
  ·exact hs.1
  ·exact Di hs.2 el h
def cj(size:Nat)(p:AV)(lo hi mx:b4d AV):b4d AV:=
 match p,mx with
 |.nil,_=>(K2 0 lo).bind λl=>(K2 0 hi).bind λu=>(K2 0 mx).bind λm=>if l=0/\u=0/\m=0 then some .nil else none
 |.sl els tok,none=>(K2 0 lo).bind λl=>(K2 els.length hi).bind λu=>
  if(0<=l/\l<=u/\u<=(els.length:Int))/\CP size els=true then some (.sl ((els.take u.toNat).drop l.toNat) (match lo,hi with|none,none=>tok|_,_=>.no)) else none
 |.sl els tok,some (.v (.int _ m))=>(K2 0 lo).bind λl=>(K2 els.length hi).bind λu=>
  if(0<=l/\l<=u/\u<=(els.length:Int))/\CP size els/\m=u/\hi.isSome=true then some (.sl ((els.take u.toNat).drop l.toNat) .full) else none
 |.row n off sz len cap,none=>(K2 0 lo).bind λl=>(K2 len hi).bind λu=>
  if(0<=l/\l<=u/\u<=(len:Int))/\sz=size then(if l<(len:Int) then some (.row n (off+l.toNat*size) size (u.toNat - l.toNat) (cap - l.toNat)) else some (.sl [] .no))
  else if(0<=l/\l<u/\u<=(cap:Int)/\hi.isSome=true)/\sz=size then some (.row n (off+l.toNat*size) size (u.toNat - l.toNat) (cap - l.toNat)) else none
 |.row n off sz len cap,some (.v (.int _ m))=>(K2 0 lo).bind λl=>(K2 len hi).bind λu=>
  if(0<=l/\l<=u/\u<=(len:Int))/\sz=size/\m=u/\hi.isSome=true then(if l<u then some (.row n (off+l.toNat*size) size (u.toNat - l.toNat) (u.toNat - l.toNat)) else some (.sl [] .full))
  else if(0<=l/\l<=u/\u<=(len:Int))/\sz=size/\u<m/\m<=(len:Int)/\hi.isSome=true then some (.row n (off+l.toNat*size) size (u.toNat - l.toNat) (m.toNat - l.toNat)) else none
 |.bb (.raw id n) [] u,none=>match lo,hi with
  |none,some (.v (.int .i64 0))=>if size=1 then some (.bb (.own id) [] u) else none
  |_,_=>none
 |_,_=>none
theorem vC{size:Nat}{p a:AV}{lo hi mx:b4d AV}{K:AV->Prop}(he:cj size p lo hi mx=some a)(hk:K a):DC size p lo hi mx K:=by
 unfold cj at he;split at he
 ·simp only[b3u]at he;obtain⟨l,h1,u,h2,m,h3,h4⟩:=he;split at h4
  ·rename_i hc;cases h4;simp only[DC,h1,h2,h3];exact⟨hc,hk⟩
  ·cases h4
 ·simp only[b3u]at he;obtain⟨l,h1,u,h2,h4⟩:=he;split at h4
  ·rename_i hc;cases h4;simp only[DC,h1,h2];exact⟨hc.1,Di hc.2,hk⟩
  ·cases h4
 ·simp only[b3u]at he;obtain⟨l,h1,u,h2,h4⟩:=he;split at h4
  ·rename_i hc;cases h4;simp only[DC,h1,h2];refine⟨hc.1,Di hc.2.1,hc.2.2.1,?_,hk⟩;intro hn;rw[hn]at hc;exact absurd hc.2.2.2 (by simp)
  ·cases h4
 ·simp only[b3u]at he;obtain⟨l,h1,u,h2,h4⟩:=he;split at h4
  ·rename_i hc;simp only[DC,h1,h2];refine .inl ⟨hc.1,hc.2,?_⟩;split at h4
   ·rename_i hl;cases h4;rw[if_pos hl];exact hk
   ·rename_i hl;cases h4;rw[if_neg hl];exact hk
  ·split at h4
   ·rename_i hc;cases h4;simp only[DC,h1,h2];exact .inr ⟨⟨hc.1.1,hc.1.2.1,hc.1.2.2.1,by trivial,λhn=>by rw[hn]at hc;exact absurd hc.1.2.2.2 (by simp)⟩,hc.2,hk⟩
   ·cases h4
 ·simp only[b3u]at he;obtain⟨l,h1,u,h2,h4⟩:=he;split at h4
  ·rename_i hc;simp only[DC,h1,h2];refine .inl ⟨hc.1,hc.2.1,.inl ⟨⟨hc.2.2.1,λhn=>by rw[hn]at hc;exact absurd hc.2.2.2 (by simp)⟩,?_⟩⟩;split at h4
   ·rename_i hl;cases h4;rw[if_pos hl];exact hk
   ·rename_i hl;cases h4;rw[if_neg hl];exact hk
  ·split at h4
   ·rename_i hc;cases h4;simp only[DC,h1,h2];exact .inl ⟨hc.1,hc.2.1,.inr ⟨⟨hc.2.2.1,hc.2.2.2.1,λhn=>by rw[hn]at hc;exact absurd hc.2.2.2.2 (by simp)⟩,hk⟩⟩
   ·cases h4
 ·split at he
  ·split at he
   ·rename_i hs;cases he;exact⟨hs,rfl,rfl,rfl,hk⟩
   ·cases he
  ·cases he
 ·cases he
def Qa(n:Nat)(p:AV):b4d AV:=
 match p with
 |.ptr k off=>some (.ptr k (off+n))
 |.D3 cells off=>some (.D3 cells (off+n))
 |_=>none
theorem lN{n:Nat}{p a:AV}{K:AV->Prop}(he:Qa n p=some a)(hk:K a):NI n p K:=by
 unfold Qa at he;split at he<;>first|(cases he;done)|(cases he;exact hk)
def Qo(n:b4d Nat)(off:Nat)(x:AV):b4d AV:=
 match x,n with
 |.agg cells,none=>cells[off]?
 |.agg cells,some n=>if off+n<=cells.length then some (.agg ((cells.drop off).take n)) else none
 |_,_=>none
theorem fj{n:b4d Nat}{off:Nat}{x a:AV}{K:AV->Prop}(he:Qo n off x=some a)(hk:K a):Lw n off x K:=by
 unfold Qo at he;split at he
 ·simp only[Lw,he];exact hk
 ·split at he
  ·rename_i hc;cases he;exact⟨hc,hk⟩
  ·cases he
 ·cases he
def cd(p i:AV):b4d AV:=
 match p,i with
 |.v (.string s),.v (.int _ n)=>if 0<=n/\n<(s.data.toList.length:Int) then some (.v (.int .u8 (E2 s n.toNat))) else none
 |_,_=>none
theorem yQ{p i a:AV}{K:AV->Prop}(he:cd p i=some a)(hk:K a):No p i K:=by
 unfold cd at he;split at he
 ·rename_i s _ n;split at he
  ·rename_i hc;cases he;have hs:s.data.toList.length=s.size:=Array.length_toList;rw[hs]at hc;exact⟨hc,hk⟩
  ·cases he
 ·cases he
def bV(len size:Nat)(n:b4d Nat)(p i:AV):b4d AV:=
 match i with
 |.v (.int _ j)=>if 0<=j/\j<(len:Int) then Qo n (j.toNat*size) p else none
 |_=>none
theorem a3q{len size:Nat}{n:b4d Nat}{p i a:AV}{K:AV->Prop}(he:bV len size n p i=some a)(hk:K a):Qc len size n p i K:=by
 unfold bV at he;split at he
 ·split at he
  ·rename_i hc;exact⟨hc,fj he hk⟩
  ·cases he
 ·cases he
def aK(size:Nat)(p i:AV):b4d AV:=
 match p,i with
 |.sl els _,.v (.int _ n)=>if(0<=n/\n<(els.length:Int))/\(els.getD n.toNat []).length=size then some (.D3 (els.getD n.toNat []) 0) else none
 |.row r off sz len _,.v (.int _ n)=>if(0<=n/\n<(len:Int))/\sz=size then some (.ptr r (off+n.toNat*size)) else none
 |_,_=>none
theorem xz{size:Nat}{p i a:AV}{K:AV->Prop}(he:aK size p i=some a)(hk:K a):Ky size p i K:=by
 unfold aK at he;split at he
 ·split at he
  ·rename_i hc;cases he;exact⟨hc.1,hc.2,hk⟩
  ·cases he
 ·split at he
  ·rename_i hc;cases he;exact⟨hc.1,hc.2,hk⟩
  ·cases he
 ·cases he
def aj(len size:Nat)(p i:AV):b4d AV:=
 match i with
 |.v (.int _ n)=>if 0<=n/\n<(len:Int) then Qa (n.toNat*size) p else none
 |_=>none
theorem iM{len size:Nat}{p i a:AV}{K:AV->Prop}(he:aj len size p i=some a)(hk:K a):Qp len size p i K:=by
 unfold aj at he;split at he
 ·split at he
  ·rename_i hc;exact⟨hc,lN he hk⟩
  ·cases he
 ·cases he
def Yf(t:TypeId)(ok:b4e)(zero x:AV):b4d AV:=
 match x,ok with
 |.iface u y,true=>some (if u=t then .tuple [y,.v (.bool true)] else .tuple [zero,.v (.bool false)])
 |.iface u y,false=>if u=t then some y else none
 |.v .nilIface,true=>some (.tuple [zero,.v (.bool false)])
 |_,_=>none
theorem b2n{t:TypeId}{ok:b4e}{zero x a:AV}{K:AV->Prop}(he:Yf t ok zero x=some a)(hk:K a):W2 t ok zero x K:=by
 unfold Yf at he;split at he
 ·cases he;simp only[W2];split
  ·rename_i hu;rw[if_pos hu]at hk;exact hk
  ·rename_i hu;rw[if_neg hu]at hk;exact⟨by simp,hk⟩
 ·split at he
  ·rename_i hu;cases he;simp only[W2];rw[if_pos hu];exact hk
  ·cases he
 ·cases he;exact⟨rfl,hk⟩
 ·cases he
def bY(i:Nat)(x:AV):b4d AV:=
 match x with
 |.tuple vs=>vs[i]?
 |_=>none
theorem a50{i:Nat}{x a:AV}{K:AV->Prop}(he:bY i x=some a)(hk:K a):PC i x K:=by
 unfold bY at he;split at he
 ·simp only[PC,he];exact hk
 ·cases he
def XP(str:b4e)(x:AV):b4d AV:=
 match str,x with
 |true,.v (.string s)=>some (.v (.int .i64 s.data.toList.length))
 |false,.nil=>some (.v (.int .i64 0))
 |false,.sl els _=>some (.v (.int .i64 els.length))
 |false,.row _ _ _ len _=>some (.v (.int .i64 len))
 |false,.bb .nil [] _=>some (.v (.int .i64 0))
 |false,.bb (.own _) els _=>some (.v (.int .i64 els.length))
 |_,_=>none
theorem a7g{s:b4e}{x a:AV}{K:AV->Prop}(he:XP s x=some a)(hk:K a):LQ s x K:=by
 unfold XP at he;split at he
 ·cases he;rename_i s;have hs:s.data.toList.length=s.size:=Array.length_toList;rw[hs]at hk;exact hk
 ·cases he;exact hk
 ·cases he;exact hk
 ·cases he;exact hk
 ·cases he;exact hk
 ·cases he;exact hk
 ·cases he
def TY(h:A3)(size bytes:Nat)(x y:AV):b4d (AV × A3):=
 (Q6 h size y).bind λys=>if CP size ys=true then
  match x with
  |.nil=>if ys.length*bytes<=140737488355328 then some (.sl ys (.own h.A6.length),⟨h.A4,h.A6++[(ys.length,size)],h.A8⟩) else none
  |.sl els .full=>if CP size els/\(els.length+ys.length)*bytes<=140737488355328 then(match ys with
   |[]=>some (.sl els .full,h)
   |_::_=>some (.sl (els++ys) (.own h.A6.length),⟨h.A4,h.A6++[(els.length+ys.length,size)],h.A8⟩)) else none
  |.sl els (.own id)=>if CP size els/\h.A6[id]? =some (els.length,size)/\(els.length+ys.length)*bytes<=140737488355328 then some (.sl (els++ys) (.own id),⟨h.A4,h.A6.set id (els.length+ys.length,size),h.A8⟩) else none
  |.row n off sz len cap=>if sz=size/\(len+ys.length)*bytes<=140737488355328 then match h.A4[n]? with
   |some (some cells)=>if G4 cells/\off+len*size<=cells.length then
    if len+ys.length<=cap then some (.row n off size (len+ys.length) cap,⟨h.A4.set n (some (cells.take (off+len*size)++ys.flatten++cells.drop (off+len*size+ys.flatten.length))),h.A6,h.A8⟩)
    else if off=0/\cells.length=len*size then some (.row h.A4.length 0 size (len+ys.length) (len+ys.length),⟨h.A4.set n (some [])++[some (cells++ys.flatten)],h.A6,h.A8⟩) else none
    else none
   |_=>none
   else none
  |_=>none
 else none
theorem pK{h h':A3}{size bytes:Nat}{x y a:AV}{K:AV->A3->Prop}(he:TY h size bytes x y=some (a,h'))(hk:K a h'):EW h size bytes x y K:=by
 simp only[TY,b3u]at he;obtain⟨ys,h1,h2⟩:=he;simp only[EW,h1];split at h2
 ·rename_i hs;refine⟨Di hs,?_⟩;split at h2
  ·split at h2
   ·rename_i hc;cases h2;exact⟨hc,hk⟩
   ·cases h2
  ·split at h2
   ·rename_i hc;refine⟨Di hc.1,hc.2,?_⟩;split at h2
    ·cases h2;exact⟨λ_=>hk,λh=>absurd rfl h⟩
    ·cases h2;exact⟨λh=>by simp at h,λ_=>hk⟩
   ·cases h2
  ·split at h2
   ·rename_i hc;cases h2;exact⟨Di hc.1,hc.2.1,hc.2.2,hk⟩
   ·cases h2
  ·split at h2
   ·rename_i hc;refine⟨hc.1,hc.2,?_⟩;split at h2
    ·rename_i hb;simp only[hb];split at h2
     ·rename_i hin;refine⟨hin,?_⟩;split at h2
      ·rename_i hl;cases h2;rw[if_pos hl];exact hk
      ·rename_i hl;rw[if_neg hl];split at h2
       ·rename_i hw;cases h2;exact⟨hw,hk⟩
       ·cases h2
     ·cases h2
    ·cases h2
   ·cases h2
  ·cases h2
 ·cases h2
def YE(h:A3)(size bytes:Nat)(x y:AV):b4d (AV × A3):=
 (Q6 h size y).bind λys=>if CP size ys/\ys.length≠0 then
  match x with
  |.nil=>if ys.length*bytes<=140737488355328 then some (.row h.A4.length 0 size ys.length ys.length,⟨h.A4++[some ys.flatten],h.A6,h.A8⟩) else none
  |.sl els .full=>if CP size els/\(els.length+ys.length)*bytes<=140737488355328 then some (.row h.A4.length 0 size (els.length+ys.length) (els.length+ys.length),⟨h.A4++[some (els.flatten++ys.flatten)],h.A6,h.A8⟩) else none
  |_=>none
 else none
theorem i7{h h':A3}{size bytes:Nat}{x y a:AV}{K:AV->A3->Prop}(he:YE h size bytes x y=some (a,h'))(hk:K a h'):LX h size bytes x y K:=by
 simp only[YE,b3u]at he;obtain⟨ys,h1,h2⟩:=he;simp only[LX,h1];split at h2
 ·rename_i hs;refine⟨⟨Di hs.1,λhn=>hs.2 (by rw[hn];rfl)⟩,?_⟩;split at h2
  ·split at h2
   ·rename_i hc;cases h2;exact⟨hc,hk⟩
   ·cases h2
  ·split at h2
   ·rename_i hc;cases h2;exact⟨Di hc.1,hc.2,hk⟩
   ·cases h2
  ·cases h2
 ·cases h2
def Og(P:Program)(F G:Env)(h:A3)(H':b4d A3)(o:B9):Prop:=
 ∃av h2,H'=some h2/\((∃cells n,o.op=.alloc cells/\h.A4[n]? =some none/\av=.ptr n 0/\h2=⟨h.A4.set n (some cells),h.A6,h.A8⟩)\/E0 P o.op G h (λa b=>a=av/\b=h2))/\∀d,o.dst=some d->get F d=some av
def RT(P:Program)(F G:Env)(h:A3)(H':b4d A3)(o:B9):Prop:=
 let skip:=H'=some h/\∀d,o.dst=some d->get F d=some (.tuple [])
 match o.guard with
 |none=>Og P F G h H' o
 |some (t,want)=>(∃b,get G t=some (.v (.bool b))/\(b=want->Og P F G h H' o)/\(b≠want->skip))\/(get G t=some (.tuple [])/\skip)
def Ue(L:Nat->b4e)(i:Nat):Nat->b4e:=λk=>if k=i then true else L k
structure Kh(P:Program)(ord:List (List Nat))(al:List B9)(env F:Env)(G:Nat->Env)(h h':A3)(n:Nat)(H:(Nat->Bool)->Option A3):Prop where
 Fw:∀L L',(∀i,i<al.length->L i=L' i)->H L=H L'
 first:H (λ_=>false)=some ⟨h.A4++List.replicate n none,h.A6,h.A8⟩
 last:∀hL,H (λ_=>true)=some hL->hL=h'
 keep:∀t,H0 t al=false->get F t=get env t
 step:∀(L:Nat->Bool) (i:Nat) (o:B9) (hL:A3),al[i]? =some o->L i=false->(∀k j,k<al.length->L k->j∈ord.getD k []->L j)->(∀k∈ord.getD i [],L k=true)->H L=some hL->RT P F (G i) hL (H (Ue L i)) o
section
variable {P:Program}{σ:Sg}{h:A3}{env:Env}{N:Nat}{a:Act}
def JD(ops:Array Oper)(m:Nat)(listed:Array b4e)(t:Tmp):Prop:=∀k,k<m->(ops[k]?).bind (·.dst)=some t->listed.getD k true=false
theorem VJ(A B:Env)(t:Nat):get (A++B) t=(get A t).or (get B t):=by
 induction A with
 |nil=>simp[get]
 |cons q A ih=>
  obtain⟨k,v⟩:=q;simp only[List.cons_append,get];split
  ·simp
  ·exact ih
structure bH(ops:Array Oper)(m:Nat)(e0 F:Env)(H:(Nat->Bool)->Option A3)(N:Nat)(listed:Array Bool)(σ:Sg)(a:Act):Prop where
 inv:∃h,H (λk=>listed.getD k true)=some h/\Inv h σ
 env:P4 σ (Q3 (L5 ops m listed) F) a.tmps
 old:P4 σ (Q3 (JD ops m listed) e0) a.tmps
 size:a.tmps.size=N
 defers:a.defers=[]
 closed:∀k i:Nat,k<m->listed.getD k true->i∈(S9 ops m).getD k []->listed.getD i true=true
set_option maxHeartbeats 1000000 in
theorem uF{md:Region.Mode}{ops:Array Oper}{al:b4c B9}{env F:Env}{G:Nat->Env}{h h':A3}{n:Nat}{H:(Nat->b4e)->b4d A3}(hq:W4 P N ops (ops.toList.take al.length)=some al)(hm:al.length<=ops.size)(ho:OrderB ops al.length)(hG:∀i o,al[i]? =some o->∀t∈o.looks,((∀k,k<al.length->(ops[k]?).bind (·.dst)=some t->T2 ops i k)/\get (G i) t=get F t)\/((∀k,k<al.length->(ops[k]?).bind (·.dst)=some t->k=i\/T2 ops k i)/\get (G i) t=get env t))(hF:Kh P (clo (S9 ops al.length)) al env F G h h' n H){Q:Exit->Act->World->Prop}{σ₀:Sg}(hend:∀σ a,Le σ₀ σ->St σ h' F N a->wpOps P ops Q (List.range' al.length (ops.size - al.length)) a σ.w):
  ∀(f:Nat) (listed:Array b4e) (a:Act) (σ:Sg),listed.size=ops.size->(∀i,al.length<=i->i<ops.size->listed.getD i true=false)->Le σ₀ σ->bH ops al.length env F H N listed σ a->listed.toList.count false<=f->wpAny P md ops Q f listed a σ.w:=by
 obtain⟨hlen,hget⟩:=IB hq
 have hfin:∀(listed:Array b4e) (a:Act) (σ:Sg),bH ops al.length env F H N listed σ a->(∀i,i<al.length->listed.getD i true)->St σ h' F N a:=by
  intro listed a σ hh hall;obtain⟨hj,h1,h2⟩:=hh.inv;rw[hF.Fw _ (λ_=>true) hall]at h1;have:=hF.last hj h1;subst this;exact⟨h2,λt av hg=>hh.env t av (by rw[U4,if_pos (show L5 ops al.length listed t from λk hk _=>hall k hk)];exact hg),hh.size,hh.defers⟩
 intro f
 induction f with
 |zero=>
  intro listed a σ hsz htail hle hh hc
  have hall:∀i,i<ops.size->listed.getD i true:=by
   intro i hi;cases hb:listed.getD i true with
   |true=>rfl
   |false=>
    exfalso
    have hmem:false∈listed.toList:=by
     rw[List.mem_iff_getElem?];refine⟨i,?_⟩;have:listed[i]? =some listed[i]:=Array.getElem?_eq_getElem (by omega);simp only[Array.getD_eq_getD_getElem?,this,Option.getD_some]at hb;simp only[Array.getElem?_toList,this,hb]
    have:=List.count_pos_iff.2 hmem;omega
  have hmn:al.length=ops.size:=by
   by_cases he:al.length=ops.size
   ·exact he
   ·have:=htail al.length (Nat.le_refl _) (by omega);rw[hall _ (by omega)]at this;cases this
  have:=hend σ a hle (hfin listed a σ hh λi hi=>hall i (by omega));refine Lz ho 0 al.length listed a σ.w (Nat.le_refl _) hm (by omega) hsz (λi hi=>by rw[hall i hi];simp;omega) this
 |succ f ih=>
  intro listed a σ hsz htail hle hh hc
  by_cases hall:∀i,i<al.length->listed.getD i true=true
  ·refine Lz ho (f+1) al.length listed a σ.w (Nat.le_refl _) hm ?_ hsz (λi hi=>?_) (hend σ a hle (hfin listed a σ hh hall))
   ·have hcnt:ops.size - al.length<=listed.toList.count false:=by
     have hsplit:listed.toList=listed.toList.take al.length++listed.toList.drop al.length:=(List.take_append_drop _ _).symm;rw[hsplit,List.count_append]
     have hd:listed.toList.drop al.length=List.replicate (ops.size - al.length) false:=by
      apply List.eq_replicate_iff.2;refine⟨by simp[hsz],λb hb=>?_⟩;obtain⟨i,hi⟩:=List.mem_iff_getElem?.1 hb;rw[List.getElem?_drop]at hi;have hlt:=(List.getElem?_eq_some_iff.1 hi).1;have:=htail (al.length+i) (by omega) (by simpa[hsz]using hlt);simp only[Array.getElem?_toList]at hi;simp only[Array.getD_eq_getD_getElem?,hi,Option.getD_some]at this;exact this
     rw[hd,List.count_replicate];simp
    omega
   ·by_cases him:i<al.length
    ·rw[hall i him];simp[him]
    ·rw[htail i (by omega) hi];simp[him]
  ·obtain⟨i0,hi0,hn0⟩:∃i,i<al.length/\listed.getD i true=false:=by
    false_or_by_contra
    rename_i hcon
    exact hall λi hi=>by
     cases hb:listed.getD i true with
     |true=>rfl
     |false=>exact absurd ⟨i,hi,hb⟩ hcon
   refine⟨λhnil=>?_,λi hi=>?_⟩
   ·obtain⟨i,hi⟩:=SO (md:=md) ho hsz ⟨i0,by omega,hn0⟩;rw[hnil]at hi;cases hi
   ·obtain⟨hun,o,hoi,hdeps⟩:=HO.1 hi;have hin:=(Array.getElem?_eq_some_iff.1 hoi).1
    have him:i<al.length:=by
     by_cases h':i<al.length
     ·exact h'
     ·rcases ho.tail i hin (by omega) with h|⟨hmi,h⟩|⟨hmi,h⟩
      ·exact absurd hi (CW (h i0 (by omega)) hn0)
      ·exact absurd hi (CW h (htail (i - 1) (by omega) (by omega)))
      ·subst hmi;exact absurd hi (Yv h hi0 hn0 λk j hk hj hl hah=>hh.closed k j hk hl (Vt hk hj hah))
    obtain⟨ao,hao,hco⟩:=hget i o (by rw[List.getElem?_take,if_pos him];simpa using hoi);obtain⟨hop,hd,hdst,hguard⟩:=HY hco;obtain⟨hj,hjs,hinv⟩:=hh.inv
    have hahead0:∀k,k∈(S9 ops al.length).getD i []->listed.getD k true:=by
     intro k hk;have ha:=(JZ hk).2;cases hb:listed.getD k true with
     |true=>rfl
     |false=>exact absurd hi (CW ha hb)
    have hahead:∀k,k∈(clo (S9 ops al.length)).getD i []->listed.getD k true:=by
     intro k hk;rcases cD hk with h1|⟨j,h1,h2,h3⟩
     ·exact hahead0 k h1
     ·exact LC (L:=λk=>listed.getD k true) hh.closed (j+1) j (by omega) (JZ h1).1 (hahead0 j h1) _ h3
    have hsee:∀t,(∀k,k<al.length->(ops[k]?).bind (·.dst)=some t->T2 ops i k)->L5 ops al.length listed t:=by
     intro t ht k hk hkd;have ha:=ht k hk hkd;unfold T2 at ha;rw[hoi]at ha;simp only[Array.any_eq_true']at ha;obtain⟨e,he,hb⟩:=ha;simp only[b3x,beq_iff_eq]at hb;have:=hdeps e he (RX hb.1);rw[hb.2,Mv (by omega) false true]at this;exact this
    have hboth:∀t,L5 ops al.length listed t->JD ops al.length listed t->get F t=get env t:=by
     intro t h1 h2;refine hF.keep t ?_;cases hwb:H0 t al with
     |false=>rfl
     |true=>
      exfalso;unfold H0 at hwb;rw[List.any_eq_true]at hwb;obtain⟨w,hmem,hod⟩:=hwb;obtain⟨k,hk⟩:=List.mem_iff_getElem?.1 hmem;have hkl:k<al.length:=(List.getElem?_eq_some_iff.1 hk).1;have hops:ops[k]? =some ops[k]:=Array.getElem?_eq_getElem (by omega);obtain⟨wo,hwo,hwc⟩:=hget k ops[k] (by rw[List.getElem?_take,if_pos hkl];simpa using hops);rw[hk]at hwo;cases hwo;have hwd:=(HY hwc).2.2.1;have hkd:(ops[k]?).bind (·.dst)=some t:=by rw[hops];simp only[Option.bind_some];rw[<-hwd];simpa using hod
      have e1:=h1 k hkl hkd;rw[h2 k hkl hkd]at e1;cases e1
    generalize hE:Q3 (L5 ops al.length listed) F++Q3 (JD ops al.length listed) env=E
    have hEs:∀t,L5 ops al.length listed t->get E t=get F t:=by
     intro t ht;rw[<-hE,VJ,U4,if_pos ht,U4];split
     ·rename_i hf;rw[hboth t ht hf];simp
     ·simp
    have hEf:∀t,JD ops al.length listed t->get E t=get env t:=by
     intro t ht
     by_cases hs:L5 ops al.length listed t
     ·rw[hEs t hs,hboth t hs ht]
     ·rw[<-hE,VJ,U4,if_neg hs,U4,if_pos ht];simp
    have henvE:P4 σ E a.tmps:=by
     intro t av hg;rw[<-hE,VJ,Option.or_eq_some_iff]at hg;rcases hg with hg|⟨_,hg⟩
     ·exact hh.env t av hg
     ·exact hh.old t av hg
    have hlook:∀t∈ao.looks,get E t=get (G i) t:=by
     intro t ht;rcases hG i ao hao t ht with⟨h1,h2⟩|⟨h1,h2⟩
     ·rw[h2];exact hEs t (hsee t h1)
     ·rw[h2];refine hEf t λk hk hkd=>?_
      rcases h1 k hk hkd with rfl|h1
      ·exact hun
      ·cases hb:listed.getD k true with
       |false=>rfl
       |true=>
        have:=hh.closed k i hk hb (Vt hk him h1);rw[hun]at this;cases this
    have hst:St σ hj E N a:=⟨hinv,henvE,hh.size,hh.defers⟩
    have hcount:(listed.setIfInBounds i true).toList.count false<=f:=by
     have hget':listed.toList[i]'(by simp;omega)=false:=by
      have:listed[i]? =some listed[i]:=Array.getElem?_eq_getElem (by omega);simp only[Array.getD_eq_getD_getElem?,this,Option.getD_some]at hun;simpa using hun
     have:=List.count_set (a:=true) (b:=false) (l:=listed.toList) (i:=i) (by simp;omega);simp only[Array.toList_setIfInBounds];rw[this,hget'];have hp:0<listed.toList.count false:=List.count_pos_iff.2 (by rw[List.mem_iff_getElem];exact⟨i,by simp;omega,hget'⟩);show listed.toList.count false - 1+0<=f;omega
    have hnext:∀(a':Act) (σ':Sg),Le σ σ'->bH ops al.length env F H N (listed.setIfInBounds i true) σ' a'->wpAny P md ops Q f (listed.setIfInBounds i true) a' σ'.w:=by
     intro a' σ' hl' hh';refine ih _ a' σ' (by simp[hsz]) (λk hk1 hk2=>?_) (hle.trans hl') hh' hcount;rw[Z6 (by omega),if_neg (by omega)];exact htail k hk1 hk2
    have hseen':∀t,L5 ops al.length (listed.setIfInBounds i true) t->(ops[i]?).bind (·.dst)≠some t->L5 ops al.length listed t:=by
     intro t ht hne k hk hkd;have:=ht k hk hkd;rw[Z6 (by omega)]at this
     by_cases hik:i=k
     ·subst hik;exact absurd hkd hne
     ·rwa [if_neg hik]at this
    have hbind:(ops[i]?).bind (·.dst)=o.dst:=by rw[hoi];rfl
    have hclosed:∀k l:Nat,k<al.length->(listed.setIfInBounds i true).getD k true->l∈(S9 ops al.length).getD k []->(listed.setIfInBounds i true).getD l true:=by
     intro k l hk hkl hl;rw[Z6 (by omega)]
     by_cases hil:i=l
     ·rw[if_pos hil]
     ·rw[if_neg hil]
      by_cases hik:i=k
      ·subst hik;exact hahead0 l hl
      ·rw[Z6 (by omega),if_neg hik]at hkl;exact hh.closed k l hk hkl hl
    have Fw:∀K:AV->A3->Prop,E0 P ao.op (G i) hj K->E0 P ao.op E hj K:=by
     intro K hk;rw[OZ (e1:=E) (e2:=G i)]
     ·exact hk
     ·intro x hx;cases x with
      |c a=>rfl
      |t n=>
       refine hlook n ?_;simp only[B9.looks,List.mem_append,List.mem_filterMap];exact .inl ⟨.t n,hx,rfl⟩
    have hunwr':∀t,JD ops al.length (listed.setIfInBounds i true) t->o.dst≠some t/\JD ops al.length listed t:=by
     intro t ht;refine⟨λhd=>?_,λk hk hkd=>?_⟩
     ·have:=ht i him (by rw[hbind];exact hd);rw[Z6 (by omega),if_pos rfl]at this;cases this
     ·have:=ht k hk hkd;rw[Z6 (by omega)]at this;split at this
      ·cases this
      ·exact this
    have envOK:∀(σ':Sg) (a':Act) (av:AV),P4 σ' (L3 E o.dst av) a'.tmps->(∀d,ao.dst=some d->get F d=some av)->P4 σ' (Q3 (L5 ops al.length (listed.setIfInBounds i true)) F) a'.tmps:=by
     intro σ' a' av he hfd t bv hg;rw[U4]at hg;split at hg
     ·rename_i hs
      by_cases hdt:o.dst=some t
      ·have:=hfd t (by rw[hdst];exact hdt);rw[this]at hg;cases hg;exact he t av (by rw[BY,if_pos hdt])
      ·exact he t bv (by rw[BY,if_neg hdt,hEs t (hseen' t hs (by rw[hbind];exact hdt))];exact hg)
     ·cases hg
    have oldOK:∀(σ':Sg) (a':Act) (av:AV),P4 σ' (L3 E o.dst av) a'.tmps->P4 σ' (Q3 (JD ops al.length (listed.setIfInBounds i true)) env) a'.tmps:=by
     intro σ' a' av he t bv hg;rw[U4]at hg;split at hg
     ·rename_i hs;obtain⟨h1,h2⟩:=hunwr' t hs;exact he t bv (by rw[BY,if_neg h1,hEf t h2];exact hg)
     ·cases hg
    have hfact:=hF.step (λk=>listed.getD k true) i ao hj hao hun (λk j hk hkl hj=>LC (L:=λk=>listed.getD k true) hh.closed (k+1) k (by omega) hk hkl _ hj) hahead hjs
    have hup:H (Ue (λk=>listed.getD k true) i)=H (λk=>(listed.setIfInBounds i true).getD k true):=by
     refine hF.Fw _ _ λk hk=>?_
     show(if k=i then true else listed.getD k true)=_;rw[Z6 (by omega)]
     by_cases hki:k=i
     ·subst hki;simp
     ·rw[if_neg hki,if_neg (Ne.symm hki)]
    rw[hup]at hfact
    have does:Og P F (G i) hj (H λk=>(listed.setIfInBounds i true).getD k true) ao->Oper.wp P o a σ.w (wpAny P md ops Q f (listed.setIfInBounds i true)) Q:=by
     rintro⟨av,h2,hH,hdo,hfd⟩;rcases hdo with⟨cells,nm,ha,hn,rfl,rfl⟩|hdo
     ·refine Oper.wp_mono (λa' w' hb=>?_) (mq (lw (ha▸hop) (by simp)) hst hd hn Q);obtain⟨σ',rfl,l1,s1⟩:=hb;exact hnext a' σ' l1 ⟨⟨_,hH,s1.inv⟩,envOK σ' a' _ s1.env hfd,oldOK σ' a' _ s1.env,s1.size,s1.defers,hclosed⟩
     ·refine Oper.wp_mono (λa' w' hb=>?_) (PN hop hst hd (Fw _ hdo) Q);obtain⟨σ',h',av',rfl,l1,s1,rfl,rfl⟩:=hb;exact hnext a' σ' l1 ⟨⟨_,hH,s1.inv⟩,envOK σ' a' _ s1.env hfd,oldOK σ' a' _ s1.env,s1.size,s1.defers,hclosed⟩
    unfold wpOp;rw[hoi];simp only
    have skip:((H λk=>(listed.setIfInBounds i true).getD k true)=some hj/\∀d,ao.dst=some d->get F d=some (.tuple []))->wpAny P md ops Q f (listed.setIfInBounds i true) (a.put o.dst undef) σ.w:=by
     rintro⟨hH,hno⟩;have s1:=hst.skipped o.dst hd;refine hnext _ σ (Le.refl σ) ⟨⟨_,hH,s1.inv⟩,?_,?_,s1.size,s1.defers,hclosed⟩
     ·intro u bv hg;rw[U4]at hg;split at hg
      ·rename_i hs
       by_cases hdt:o.dst=some u
       ·have:=hno u (by rw[hdst];exact hdt);rw[this]at hg;cases hg;exact s1.env u _ (by rw[CO,if_pos hdt])
       ·exact s1.env u bv (by rw[CO,if_neg hdt,hEs u (hseen' u hs (by rw[hbind];exact hdt))];exact hg)
      ·cases hg
     ·intro u bv hg;rw[U4]at hg;split at hg
      ·rename_i hs;obtain⟨h1,h2⟩:=hunwr' u hs;exact s1.env u bv (by rw[CO,if_neg h1,hEf u h2];exact hg)
      ·cases hg
    unfold RT at hfact;rcases hguard with⟨hg1,hg2⟩|⟨jg,b,t,hg1,hg2,hg3⟩
    ·have hw:Region.wanted o (yielded ops a.tmps):=by simp[Region.wanted,hg1]
     rw[if_pos hw];rw[hg2]at hfact;exact .inl (does hfact)
    ·rw[hg2]at hfact;rcases hfact with⟨c,hgt,hyes,hno⟩|⟨hgt,hno⟩
     ·have hy:yielded ops a.tmps jg=some c:=VO (env:=E) hg3 henvE (by rw[hlook t (by simp[B9.looks,hg2])];exact hgt)
      by_cases hcb:c=b
      ·have hw:Region.wanted o (yielded ops a.tmps):=by simp[Region.wanted,hg1,hy,hcb]
       rw[if_pos hw];exact .inl (does (hyes hcb))
      ·have hw:Region.wanted o (yielded ops a.tmps)=false:=by simp[Region.wanted,hg1,hy,hcb]
       rw[hw];simp only[Bool.false_eq_true,if_false];exact skip (hno hcb)
     ·have hy:yielded ops a.tmps jg=none:=Vy (env:=E) hg3 henvE (by rw[hlook t (by simp[B9.looks,hg2])];exact hgt);have hw:Region.wanted o (yielded ops a.tmps)=false:=by simp[Region.wanted,hg1,hy]
      rw[hw];simp only[Bool.false_eq_true,if_false];exact skip hno
theorem qA{id:Nat}{ops:Array Oper}{al tl:b4c B9}(hq:W4 P N ops (ops.toList.take al.length)=some al)(ht:W4 P N ops (ops.toList.drop al.length)=some tl)(ho:OrderB ops al.length)(h3:al.length<=ops.size){Q:Exit->Env->A3->Prop}(hs:St σ h env N a){F:Env}{G:Nat->Env}{h':A3}{n:Nat}{H:(Nat->b4e)->b4d A3}(hn:Kh P (clo (S9 ops al.length)) al env F G h h' n H)(hG:∀i o,al[i]? =some o->∀t∈o.looks,((∀k,k<al.length->(ops[k]?).bind (·.dst)=some t->T2 ops i k)/\get (G i) t=get F t)\/((∀k,k<al.length->(ops[k]?).bind (·.dst)=some t->k=i\/T2 ops k i)/\get (G i) t=get env t))(hv:AP P tl F h' λenv' h'=>Q .normal env' h'):(Code.region id ops true).wp P (BM σ N Q) a σ.w:=by
 have hd:I1 σ.w {σ.w with drawn:=σ.w.drawn+1}:=⟨Nat.le_refl _,λ_ _=>rfl,rfl,rfl,rfl⟩
 let σ1:Sg:={σ with w:={σ.w with drawn:=σ.w.drawn+1}}
 have hle1:Le σ σ1:=Le.world hd;have hi1:Inv h σ1:=hs.inv.world hd;obtain⟨hlen,hget⟩:=IB hq;have hrep:∀i,i<ops.size->(Array.replicate ops.size false).getD i true=false:=λi hi=>by simp[Array.getD_eq_getD_getElem?,Array.getElem?_replicate,hi]
 have every:∀md:Region.Mode,wpAny P md ops (BM σ N Q) ops.size (Array.replicate ops.size false) a {σ.w with drawn:=σ.w.drawn+1}:=by
  intro md;refine uF (σ₀:=σ1) hq h3 ho hG hn ?_ ops.size _ a σ1 (by simp) (λi _ hi=>hrep i hi) (Le.refl _) ?_ ?_
  ·intro σ2 a2 l2 s2;have hlen2:(ops.toList.drop al.length).length=ops.size - al.length:=by simp
   rw[<-hlen2];refine JW (σ₀:=σ1) (K:=λenv' h'=>Q .normal env' h') (λσ3 h3 env3 a3 l3 s3 q3=>⟨trivial,σ3,h3,env3,rfl,hle1.trans l3,s3,q3⟩) _ _ tl σ2 h' F a2 (λj hj=>?_) ht l2 s2 hv;rw[List.getElem?_drop,Array.getElem?_toList]
  ·refine⟨⟨⟨h.A4++List.replicate n none,h.A6,h.A8⟩,?_,jE hi1 n⟩,?_,?_,hs.size,hs.defers,?_⟩
   ·rw[<-hn.first];exact hn.Fw _ _ λi hi=>hrep i (by omega)
   ·intro t av hg;rw[U4]at hg;split at hg
    ·rename_i hsn
     have hw:H0 t al=false:=by
      cases hwb:H0 t al with
      |false=>rfl
      |true=>
       exfalso;unfold H0 at hwb;rw[List.any_eq_true]at hwb;obtain⟨o,hmem,hod⟩:=hwb;obtain⟨i,hi⟩:=List.mem_iff_getElem?.1 hmem;have hil:i<al.length:=(List.getElem?_eq_some_iff.1 hi).1;have hops:ops[i]? =some ops[i]:=Array.getElem?_eq_getElem (by omega);obtain⟨ao,hao,hco⟩:=hget i ops[i] (by rw[List.getElem?_take,if_pos hil];simpa using hops);rw[hi]at hao;cases hao;have:=(HY hco).2.2.1;have hf:=hsn i hil (by rw[hops];simp only[Option.bind_some];rw[<-this];simpa using hod);rw[hrep i (by omega)]at hf;cases hf
     rw[hn.keep t hw]at hg;obtain⟨x,q1,q2⟩:=hs.env t av hg;exact⟨x,q1,q2.mono hle1⟩
    ·cases hg
   ·intro t av hg;rw[U4]at hg;split at hg
    ·obtain⟨x,q1,q2⟩:=hs.env t av hg;exact⟨x,q1,q2.mono hle1⟩
    ·cases hg
   ·intro k i hil hkl;rw[hrep k (by omega)]at hkl;cases hkl
  ·simp
 refine wp_region_draw λt=>?_
 unfold Region.schedule;split
 ·exact wpAny_sound ops.size t _ a _ (every .any)
 ·exact wpAny_sound ops.size (t / 2) _ a _ (every _)
theorem a14{id:Nat}{ops:Array Oper}{al tl:b4c B9}(hq:W4 P N ops (ops.toList.take al.length)=some al)(ht:W4 P N ops (ops.toList.drop al.length)=some tl)(hok:JJ ops al){Q:Exit->Env->A3->Prop}(hs:St σ h env N a){F:Env}{h':A3}{n:Nat}{H:(Nat->b4e)->b4d A3}(hn:Kh P (clo (S9 ops al.length)) al env F (λ_=>F) h h' n H)(hv:AP P tl F h' λenv' h'=>Q .normal env' h'):(Code.region id ops true).wp P (BM σ N Q) a σ.w:=by
 simp only[JJ,b3x,b3v]at hok;obtain⟨⟨⟨h1,h2⟩,h3⟩,h4⟩:=hok;have ho:=Xp h1;exact qA hq ht ho.toOrderB h3 hs hn (λi o hi t ht=>.inl ⟨λk hk hkd=>ho.head i o (List.getElem?_eq_some_iff.1 hi).1 hi t ht k hk hkd,rfl⟩) hv
def OD(ord:b4c (b4c Nat))(al:b4c B9)(i t:Nat):b4e:=(List.range al.length).any λk=>((al[k]?).bind (·.dst)==some t)&& !(ord.getD i []).contains k
def pick(p:Nat->b4e):Env->Env
 |[]=>[]
 |(t,v)::e=>if p t=true then(t,v)::pick p e else pick p e
theorem VM(p:Nat->b4e):∀(e:Env) (t:Nat),get (pick p e) t=if p t=true then get e t else none
 |[],t=>by simp[pick,get]
 |(k,v)::e,t=>by
  by_cases hk:p k=true
  ·simp only[pick,if_pos hk,get]
   by_cases hkt:k=t
   ·subst hkt;simp[hk]
   ·rw[if_neg hkt,if_neg hkt];exact VM p e t
  ·simp only[pick,if_neg hk,get];rw[VM p e t]
   by_cases hkt:k=t
   ·subst hkt;simp[hk]
   ·rw[if_neg hkt]
def OY(ord:b4c (b4c Nat))(al:b4c B9)(env F:Env)(i:Nat):Env:=pick (λt=> !OD ord al i t) F++pick (OD ord al i) env
theorem s9(ord:b4c (b4c Nat))(al:b4c B9)(env F:Env)(i t:Nat):get (OY ord al env F i) t=if OD ord al i t=true then get env t else get F t:=by
 unfold OY;rw[VJ,VM,VM];cases OD ord al i t<;>simp
theorem a81{id:Nat}{ops:Array Oper}{al tl:b4c B9}(hq:W4 P N ops (ops.toList.take al.length)=some al)(ht:W4 P N ops (ops.toList.drop al.length)=some tl)(hok:Xu ops al){Q:Exit->Env->A3->Prop}(hs:St σ h env N a){F:Env}{h':A3}{n:Nat}{H:(Nat->b4e)->b4d A3}(hn:Kh P (clo (S9 ops al.length)) al env F (OY (S9 ops al.length) al env F) h h' n H)(hv:AP P tl F h' λenv' h'=>Q .normal env' h'):(Code.region id ops true).wp P (BM σ N Q) a σ.w:=by
 simp only[Xu,b3x,b3v]at hok;obtain⟨⟨⟨h1,h2⟩,h3⟩,h4⟩:=hok
 have ho:OrderB ops al.length:=by
  refine⟨λmd=>by cases md<;>simp[h1],λi hi hm=>?_⟩;have:=List.all_eq_true.1 h2 i (List.mem_range.2 hi);simp only[Bool.or_eq_true,b3x,b3v,b34]at this;rcases this with((h|h)|h)|h
  ·omega
  ·exact .inl λj hj=>h j (List.mem_range.2 hj)
  ·exact .inr (.inl h)
  ·exact .inr (.inr h)
 obtain⟨hlen,hget⟩:=IB hq
 have hdst:∀k,k<al.length->(al[k]?).bind (·.dst)=(ops[k]?).bind (·.dst):=by
  intro k hk;have hops:ops[k]? =some ops[k]:=Array.getElem?_eq_getElem (by omega);obtain⟨wo,hwo,hwc⟩:=hget k ops[k] (by rw[List.getElem?_take,if_pos hk];simpa using hops);rw[hwo,hops];exact(HY hwc).2.2.1
 refine qA hq ht ho h3 hs hn (λi o hi t htl=>?_) hv;have him:=(List.getElem?_eq_some_iff.1 hi).1;have hlk:=List.all_eq_true.1 h4 i (List.mem_range.2 him);rw[hi]at hlk;simp only[b34]at hlk;have:=hlk t htl;simp only[Bool.or_eq_true,b34,List.mem_range,b35,beq_eq_false_iff_ne,beq_iff_eq]at this;rw[s9];cases hl:OD (S9 ops al.length) al i t with
 |false=>
  refine .inl ⟨λk hk hkd=>?_,by simp⟩;have:=List.any_eq_false.1 hl k (List.mem_range.2 hk);simp only[hdst k hk,hkd,beq_self_eq_true,Bool.true_and,b35,Bool.not_eq_false,List.contains_iff_mem]at this;exact(JZ this).2
 |true=>
  refine .inr ⟨λk hk hkd=>?_,by simp⟩;rcases this with h|h
  ·exfalso;obtain⟨j,hj,hb⟩:=List.any_eq_true.1 hl;simp only[b3x,beq_iff_eq,b35]at hb;have hjl:=List.mem_range.1 hj;rw[hdst j hjl]at hb;rcases h j hjl with h|h
   ·exact h hb.1
   ·have:=List.contains_iff_mem.2 (Vt him hjl h);rw[this]at hb;cases hb.2
  ·rcases h k hk with(h|h)|h
   ·exact absurd hkd h
   ·exact .inl h
   ·exact .inr h
end
section
variable {P:Program}{N:Nat}{Q:Exit->Env->A3->Prop}{env:Env}{h:A3}
end
abbrev O0:=FuncId->b4c AV->A3->b4d (AV × A3)
def U6(h:A3)(o:b4d AV):b4d (AV × A3):=o.map λa=>(a,h)
def Wd(h:A3)(size bytes:Nat)(zero:b4c AV)(x y:AV):b4d (AV × A3):=
 match x,y with
 |.v (.int _ l),.v (.int _ c)=>if 0<=l/\l<=c/\c*bytes<=140737488355328 then some (.row h.A4.length 0 size l.toNat c.toNat,⟨h.A4++[some (Be size c.toNat zero)],h.A6,h.A8⟩) else none
 |_,_=>none
theorem a7a{h h':A3}{size bytes:Nat}{zero:b4c AV}{x y a:AV}{K:AV->A3->Prop}(he:Wd h size bytes zero x y=some (a,h'))(hk:K a h'):Mr h size bytes zero x y K:=by
 unfold Wd at he;split at he
 ·split at he
  ·rename_i hc;cases he;exact⟨hc,hk⟩
  ·cases he
 ·cases he
def Yb(h:A3)(x:AV):b4d (AV × A3):=
 match x with
 |.v (.string s)=>some (.ptr h.A4.length 0,⟨h.A4++[some [.it s 0]],h.A6,h.A8⟩)
 |_=>none
theorem uM{h h':A3}{x a:AV}{K:AV->A3->Prop}(he:Yb h x=some (a,h'))(hk:K a h'):ZT h x K:=by
 unfold Yb at he;split at he
 ·cases he;exact hk
 ·cases he
def Wi(h:A3)(x:AV):b4d (AV × A3):=
 match x with
 |.ptr n 0=>match h.A4[n]? with
  |some (some [.it s p])=>if p<s.data.toList.length then some (.tuple [.v (.bool true),.v (.int .i64 p),.v (.int .i32 (Utf8.decode s p).1)],⟨h.A4.set n (some [.it s (p+(Utf8.decode s p).2)]),h.A6,h.A8⟩) else some (.tuple [.v (.bool false)],h)
  |_=>none
 |_=>none
theorem b08{h h':A3}{x a:AV}{K:AV->A3->Prop}(he:Wi h x=some (a,h'))(hk:K a h'):Lv h x K:=by
 unfold Wi at he;unfold Lv;split at he
 ·split at he
  ·rename_i s p hb;have hs:s.data.toList.length=s.size:=Array.length_toList;rw[hs]at he;simp only[hb];split at he
   ·rename_i hp;cases he;exact⟨λ_=>hk,λh=>absurd hp h⟩
   ·rename_i hp;cases he;exact⟨λh=>absurd h hp,λ_=>hk⟩
  ·cases he
 ·cases he
theorem oe(s t:b4b):(s==t)=(s.data.toList==t.data.toList):=by
 rw[Bool.eq_iff_iff];constructor
 ·intro h;rw[pN h];simp
 ·intro h;have h1:s.data.toList=t.data.toList:=by simpa using h
  have h2:s=t:=by
   obtain⟨⟨a⟩⟩:=s;obtain⟨⟨b⟩⟩:=t;have h3:a=b:=h1;rw[h3]
  rw[h2];exact lJ t
def RD(s:b4c UInt8):b4c AV->b4d (b4d AV)
 |[]=>some none
 |p::r=>match p with
  |.tuple [.v (.string t),v]=>if(s==t.data.toList)=true then some (some v) else RD s r
  |_=>none
def RI(s:b4b)(v:AV):b4c AV->b4d (b4c AV)
 |[]=>some [.tuple [.v (.string s),v]]
 |p::r=>match p with
  |.tuple [.v (.string t),w]=>if(s.data.toList==t.data.toList)=true then some (.tuple [.v (.string s),v]::r) else(RI s v r).map λl=>.tuple [.v (.string t),w]::l
  |_=>none
theorem jz(s:b4b):∀l,RD s.data.toList l=Ja s l
 |[]=>rfl
 |p::r=>by
  simp only[RD,Ja,oe,jz s r];rfl
theorem lS(s:b4b)(v:AV):∀l,RI s v l=JM s v l
 |[]=>rfl
 |p::r=>by
  simp only[RI,JM,oe,lS s v r];rfl
def MK(h:A3)(ok:b4e)(zero x k:AV):b4d AV:=
 match k with
 |.v (.string s)=>match x with
  |.mp n=>match h.A4[n]? with
   |some (some [.tuple l])=>(RD s.data.toList l).map λr=>US ok zero r
   |_=>none
  |.v (.map none)=>some (US ok zero none)
  |_=>none
 |_=>none
theorem pH{h:A3}{ok:b4e}{zero x k a:AV}{K:AV->Prop}(he:MK h ok zero x k=some a)(hk:K a):NC h ok zero x k K:=by
 unfold MK at he;unfold NC;split at he
 ·split at he
  ·split at he
   ·rename_i hb;simp only[b3t]at he;obtain⟨r,hr,rfl⟩:=he;rw[jz]at hr;simp only[hb,hr];exact hk
   ·cases he
  ·cases he;exact hk
  ·cases he
 ·cases he
def Yq(h:A3)(m k v:AV):b4d A3:=
 match k with
 |.v (.string s)=>match m with
  |.mp n=>match h.A4[n]? with
   |some (some [.tuple l])=>(RI s v l).map λl'=>⟨h.A4.set n (some [.tuple l']),h.A6,h.A8⟩
   |_=>none
  |_=>none
 |_=>none
theorem a0r{h h':A3}{m k v:AV}{K:A3->Prop}(he:Yq h m k v=some h')(hk:K h'):Nv h m k v K:=by
 unfold Yq at he;unfold Nv;split at he
 ·split at he
  ·split at he
   ·rename_i hb;simp only[b3t]at he;obtain⟨r,hr,rfl⟩:=he;rw[lS]at hr;simp only[hb,hr];exact hk
   ·cases he
  ·cases he
 ·cases he
def aT(h:A3)(e:TypeId)(size bytes:Nat)(x y:AV):b4d (AV × A3):=
 match x with
 |.bb .nil [] u=>(Q6 h 1 y).bind λys=>if size=1/\CP 1 ys/\u=e/\ys.length*bytes<=140737488355328 then some (.bb (.own h.A6.length) ys u,⟨h.A4,h.A6++[(ys.length,1)],h.A8⟩) else none
 |.bb (.own id) els u=>(Q6 h 1 y).bind λys=>if size=1/\CP 1 ys/\u=e/\CP 1 els/\h.A6[id]? =some (els.length,1)/\(els.length+ys.length)*bytes<=140737488355328 then some (.bb (.own id) (els++ys) u,⟨h.A4,h.A6.set id (els.length+ys.length,1),h.A8⟩) else none
 |_=>none
theorem yS{h h':A3}{e:TypeId}{size bytes:Nat}{x y a:AV}{K:AV->A3->Prop}(he:aT h e size bytes x y=some (a,h'))(hk:K a h'):Ku h e size bytes x y K:=by
 unfold aT at he;unfold Ku;split at he
 ·simp only[b3u]at he;obtain⟨ys,h1,h2⟩:=he;split at h2
  ·rename_i hc;cases h2;simp only[h1];exact⟨⟨hc.1,Di hc.2.1⟩,hc.2.2.1,hc.2.2.2,hk⟩
  ·cases h2
 ·simp only[b3u]at he;obtain⟨ys,h1,h2⟩:=he;split at h2
  ·rename_i hc;cases h2;simp only[h1];exact⟨⟨hc.1,Di hc.2.1⟩,hc.2.2.1,Di hc.2.2.2.1,hc.2.2.2.2.1,hc.2.2.2.2.2,hk⟩
  ·cases h2
 ·cases he
def Zx(x:AV):b4d AV:=
 match x with
 |.bb .nil [] _=>some (.v (.pointer none))
 |.bb (.own id) els u=>some (.bb (.data id) els u)
 |_=>none
theorem rp{x a:AV}{K:AV->Prop}(he:Zx x=some a)(hk:K a):Sb x K:=by
 unfold Zx at he;split at he<;>first|(cases he;exact hk)|cases he
def aJ(h:A3)(u:TypeId)(p n:AV):b4d AV:=
 match p,n with
 |.v (.pointer none),.v (.int .i64 m)=>if m=0 then some (.v (.string ⟨⟨[]⟩⟩)) else none
 |.bb (.data id) els t,.v (.int .i64 m)=>(OL els).bind λl=>if t=u/\h.A6[id]? =some (els.length,1)/\m=(l.length:Int)/\l.length<=140737488355328 then some (.v (.string ⟨⟨l⟩⟩)) else none
 |_,_=>none
theorem a9f{h:A3}{u:TypeId}{p n a:AV}{K:AV->Prop}(he:aJ h u p n=some a)(hk:K a):VV h u p n K:=by
 unfold aJ at he;split at he
 ·split at he
  ·rename_i hm;cases he;exact⟨hm,hk⟩
  ·cases he
 ·simp only[b3u]at he;obtain⟨l,h1,h2⟩:=he;split at h2
  ·rename_i hc;cases h2;exact⟨hc.1,hc.2.1,l,dJ h1,hc.2.2.1,hc.2.2.2,hk⟩
  ·cases h2
 ·cases he
def an(cnt:b4e)(s c:AV):b4d AV:=
 match s,c with
 |.v (.string s),.v (.int .u8 c)=>some (.v (.int .i64 ((if cnt then UU else TZ) s c)))
 |_,_=>none
theorem vH{cnt:b4e}{s c a:AV}{K:AV->Prop}(he:an cnt s c=some a)(hk:K a):Lu (if cnt then UU else TZ) s c K:=by
 unfold an at he;split at he
 ·cases he;exact hk
 ·cases he
def Wh(h:A3)(u:TypeId)(n:AV):b4d (AV × A3):=
 match n with
 |.v (.int .i64 m)=>if 0<m/\m<=140737488355328 then some (.bb (.raw h.A6.length m.toNat) [] u,⟨h.A4,h.A6++[(0,1)],h.A8⟩) else none
 |_=>none
theorem a68{h h':A3}{u:TypeId}{n a:AV}{K:AV->A3->Prop}(he:Wh h u n=some (a,h'))(hk:K a h'):VA h u n K:=by
 unfold Wh at he;split at he
 ·split at he
  ·rename_i hc;cases he;exact⟨hc.1,hc.2,hk⟩
  ·cases he
 ·cases he
def Xd(x:AV):b4d AV:=
 match x with
 |.bb .nil [] _=>some (.v (.int .i64 0))
 |.nil=>some (.v (.int .i64 0))
 |_=>none
theorem ul{x a:AV}{K:AV->Prop}(he:Xd x=some a)(hk:K a):Sc x K:=by
 unfold Xd at he;split at he<;>first|(cases he;exact hk)|cases he
def YQ(x y:AV):b4d AV:=
 match x,y with
 |.bb (.own _) [] _,.bb .nil [] _=>some (.v (.int .i64 0))
 |_,_=>none
theorem a8j{x y a:AV}{K:AV->Prop}(he:YQ x y=some a)(hk:K a):Sa x y K:=by
 unfold YQ at he;split at he<;>first|(cases he;exact hk)|cases he
def XW(h:A3)(size:Nat)(zero:b4c AV)(x:AV):b4d A3:=
 match x with
 |.row n off sz len _=>if sz=size then match h.A4[n]? with
  |some (some cells)=>if G4 cells/\off+len*size<=cells.length then some ⟨h.A4.set n (some (cells.take off++(List.replicate len zero).flatten++cells.drop (off+((List.replicate len zero).flatten).length))),h.A6,h.A8⟩ else none
  |_=>none
  else none
 |.sl [] _=>some h
 |.nil=>some h
 |_=>none
theorem a1x{h h':A3}{size:Nat}{zero:b4c AV}{x:AV}{K:A3->Prop}(he:XW h size zero x=some h')(hk:K h'):QC h size zero x K:=by
 unfold XW at he;unfold QC;split at he
 ·split at he
  ·rename_i hs;split at he
   ·rename_i hb;split at he
    ·rename_i hc;cases he;simp only[hb];exact⟨hs,hc.1,hc.2,hk⟩
    ·cases he
   ·cases he
  ·cases he
 ·cases he;exact hk
 ·cases he;exact hk
 ·cases he
def aD(call:O0)(tab l:b4c AV)(h:A3):b4d (AV × A3):=match l with
 |.iface t x::r=>(JR tab t).bind λg=>call g (x::r) h
 |_=>none
theorem Uq{call:O0}{tab l:b4c AV}{h h':A3}{a:AV}(he:aD call tab l h=some (a,h')):∃t x r g,l=.iface t x::r/\JR tab t=some g/\call g (x::r) h=some (a,h'):=by
 unfold aD at he;split at he
 ·rename_i t x r;simp only[b3u]at he;obtain⟨g,h1,h2⟩:=he;exact⟨t,x,r,g,rfl,h1,h2⟩
 ·cases he
def Z7(md:b4e)(call:O0)(o:G7)(env:Env)(h:A3):b4d (AV × A3):=
 match o with
 |.mv x=>U6 h (x.ev env)
 |.pick c a b=>(c.ev env).bind λc=>match c with
  |.v (.bool true)=>U6 h (a.ev env)
  |.v (.bool false)=>U6 h (b.ev env)
  |_=>none
 |.alloc cells=>some (.ptr h.A4.length 0,⟨h.A4++[some cells],h.A6,h.A8⟩)
 |.box x=>(x.ev env).bind λa=>if a.isTuple=false then some (.ptr h.A4.length 0,⟨h.A4++[some a.cells],h.A6,h.A8⟩) else none
 |.build zero parts=>(AY env parts).bind λps=>(Ea zero ps).map λcells=>(.agg cells,h)
 |.Et size len zeros parts=>(AY env parts).bind λps=>(Ea zeros ps).bind λcells=>if cells.length=len*size then some (.sl (DM size len (cells.map O7)) .full,h) else none
 |.load n x=>(x.ev env).bind λp=>U6 h (Jo h n p)
 |.store size p x=>(p.ev env).bind λp=>(x.ev env).bind λx=>(YS h size p x).map λh'=>(.tuple [],h')
 |.nilCheck x=>(x.ev env).bind λa=>match a with
  |.ptr n o=>some (.ptr n o,h)
  |.D3 l o=>some (.D3 l o,h)
  |.clo (.func f) l r=>some (.clo (.func f) l r,h)
  |_=>none
 |.bin op x y=>(x.ev env).bind λx=>(y.ev env).bind λy=>U6 h (Zw op x y)
 |.eq c yes x y=>(x.ev env).bind λx=>(y.ev env).bind λy=>(eqF c x y).map λb=>(.v (.bool (if yes then b else !b)),h)
 |.un op x=>(x.ev env).bind λx=>U6 h (eC op x)
 |.conv c x=>(x.ev env).bind λx=>U6 h (dE c x)
 |.iface t x=>(x.ev env).map λa=>(.iface t a,h)
 |.func fn first captured=>(evs env first).bind λf=>(evs env captured).map λc=>(.clo fn f c,h)
 |.CM x lo hi=>(x.ev env).bind λx=>(J9 env lo).bind λlo=>(J9 env hi).bind λhi=>U6 h (Wx x lo hi)
 |.CL size x lo hi mx=>(x.ev env).bind λx=>(J9 env lo).bind λlo=>(J9 env hi).bind λhi=>(J9 env mx).bind λmx=>U6 h (cj size x lo hi mx)
 |.fieldAddr off x=>(x.ev env).bind λx=>U6 h (Qa off x)
 |.field n off x=>(x.ev env).bind λx=>U6 h (Qo n off x)
 |.Cl x i=>(x.ev env).bind λx=>(i.ev env).bind λi=>U6 h (cd x i)
 |.Ir len size n x i=>(x.ev env).bind λx=>(i.ev env).bind λi=>U6 h (bV len size n x i)
 |.Bn size x i=>(x.ev env).bind λx=>(i.ev env).bind λi=>U6 h (aK size x i)
 |.Er len size x i=>(x.ev env).bind λx=>(i.ev env).bind λi=>U6 h (aj len size (Jz h x) i)
 |.AL t ok zero x=>(x.ev env).bind λx=>U6 h (Yf t ok zero x)
 |.extract i x=>(x.ev env).bind λx=>U6 h (bY i x)
 |.len str x=>(x.ev env).bind λx=>U6 h (XP str x)
 |.append e size bytes x y=>(x.ev env).bind λx=>(y.ev env).bind λy=>match aT h e size bytes x y with|some r=>some r|none=>if md/\size≠1 then(match YE h size bytes x y with|some r=>some r|none=>TY h size bytes x y) else TY h size bytes x y
 |.call f args=>(f.ev env).bind λf=>(evs env args).bind λl=>match f with
  |.clo (.func g) first captured=>call g (first++l++captured) h
  |.agg [.tuple tab]=>aD call tab l h
  |_=>none
 |.bytes x=>(x.ev env).bind λx=>match x with
  |.v (.string s)=>some (.sl (P0 s.data.toList) .no,h)
  |_=>none
 |.AJ mx args=>(evs env args).bind λl=>(CI mx l).map λv=>(.v v,h)
 |.make size bytes zero x y=>(x.ev env).bind λx=>(y.ev env).bind λy=>Wd h size bytes zero x y
 |.range x=>(x.ev env).bind λx=>Yb h x
 |.next x=>(x.ev env).bind λx=>Wi h x
 |.bad=>none
 |.In=>some (.mp h.A4.length,⟨h.A4++[some [.tuple []]],h.A6,h.A8⟩)
 |.lookup ok zero x k=>(x.ev env).bind λx=>(k.ev env).bind λk=>U6 h (MK h ok zero x k)
 |.mapset m k v=>(m.ev env).bind λm=>(k.ev env).bind λk=>(v.ev env).bind λv=>(Yq h m k v).map λh'=>(.tuple [],h')
 |.Iz e u=>some (.ptr h.A4.length 0,⟨h.A4++[some [.ps h.A4.length e,.bb .nil [] u]],h.A6,h.A8⟩)
 |.Iw x=>(x.ev env).bind λx=>U6 h (Zx x)
 |.Co u p n=>(p.ev env).bind λp=>(n.ev env).bind λn=>U6 h (aJ h u p n)
 |.Fu cnt s c=>(s.ev env).bind λs=>(c.ev env).bind λc=>U6 h (an cnt s c)
 |.DW u n=>(n.ev env).bind λn=>Wh h u n
 |.cap0 x=>(x.ev env).bind λx=>U6 h (Xd x)
 |.Iy x y=>(x.ev env).bind λx=>(y.ev env).bind λy=>U6 h (YQ x y)
 |.clear size zero x=>(x.ev env).bind λx=>(XW h size zero x).map λh'=>(.tuple [],h')
def Dg(P:Program)(call:O0):Prop:=∀f args h a h',call f args h=some (a,h')->∀K:AV->A3->Prop,K a h'->W9 P f args h K
theorem H4{h h':A3}{o:b4d AV}{a:AV}(he:U6 h o=some (a,h')):o=some a/\h'=h:=by
 unfold U6 at he;simp only[b3t,Prod.mk.injEq]at he;obtain⟨b,h1,rfl,rfl⟩:=he;exact⟨h1,rfl⟩
theorem FR{P:Program}{md:b4e}{call:O0}(hc:Dg P call){o:G7}{env:Env}{h h':A3}{a:AV}{K:AV->A3->Prop}(he:Z7 md call o env h=some (a,h'))(hk:K a h'):E0 P o env h K:=by
 cases o<;>simp only[Z7,b3u,b3t]at he<;>simp only[E0]
 case mv x=>obtain⟨h1,rfl⟩:=H4 he;simp only[h1,wv];exact hk
 case pick c x y=>
  obtain⟨cv,h1,h2⟩:=he;simp only[h1,wv];split at h2
  ·obtain⟨h3,rfl⟩:=H4 h2;simp only[GI,h3];exact⟨λ_=>hk,λh=>by cases h⟩
  ·obtain⟨h3,rfl⟩:=H4 h2;simp only[GI,h3];exact⟨(λh=>by cases h),λ_=>hk⟩
  ·cases h2
 case alloc cells=>cases he;exact hk
 case box x=>
  obtain⟨b,h1,h2⟩:=he;split at h2
  ·rename_i ht;cases h2;simp only[h1,wv];exact⟨ht,hk⟩
  ·cases h2
 case build z ps=>
  obtain⟨q,h1,cells,h2,h3⟩:=he;cases h3;simp only[h1,h2];exact hk
 case Et s l z ps=>
  obtain⟨q,h1,cells,h2,h3⟩:=he;split at h3
  ·rename_i hl;cases h3;simp only[h1,h2];exact⟨hl,hk⟩
  ·cases h3
 case load n x=>obtain⟨p,h1,h2⟩:=he;obtain⟨h3,rfl⟩:=H4 h2;simp only[h1,wv];exact ax h3 hk
 case store n p x=>obtain⟨p,h1,x,h2,h3,h4,h5⟩:=he;cases h5;simp only[h1,h2,wv];exact a7o h4 hk
 case nilCheck x=>
  obtain⟨b,h1,h2⟩:=he;simp only[h1,wv,Yk];split at h2<;>first|(cases h2;exact hk)|(cases h2;done)
 case bin op x y=>obtain⟨x,h1,y,h2,h3⟩:=he;obtain⟨h4,rfl⟩:=H4 h3;simp only[h1,h2,wv];exact xS h4 hk
 case eq c yes x y=>obtain⟨x,h1,y,h2,b,h3,h4⟩:=he;cases h4;simp only[h1,h2,wv];exact a8c h3 hk
 case un op x=>obtain⟨x,h1,h3⟩:=he;obtain⟨h4,rfl⟩:=H4 h3;simp only[h1,wv];exact vN h4 hk
 case conv c x=>obtain⟨x,h1,h3⟩:=he;obtain⟨h4,rfl⟩:=H4 h3;simp only[h1,wv];exact sJ h4 hk
 case iface t x=>obtain⟨x,h1,h3⟩:=he;cases h3;simp only[h1,wv];exact hk
 case func fn f c=>obtain⟨x,h1,y,h2,h3⟩:=he;cases h3;simp only[h1,h2];exact hk
 case CM x lo hi=>obtain⟨x,h1,lo,h2,hi,h3,h4⟩:=he;obtain⟨h5,rfl⟩:=H4 h4;simp only[h1,h2,h3,wv];exact a8g h5 hk
 case CL s x lo hi mx=>obtain⟨x,h1,lo,h2,hi,h3,mx,h4,h5⟩:=he;obtain⟨h6,rfl⟩:=H4 h5;simp only[h1,h2,h3,h4,wv];exact vC h6 hk
 case fieldAddr off x=>obtain⟨x,h1,h3⟩:=he;obtain⟨h4,rfl⟩:=H4 h3;simp only[h1,wv];exact lN h4 hk
 case field n off x=>obtain⟨x,h1,h3⟩:=he;obtain⟨h4,rfl⟩:=H4 h3;simp only[h1,wv];exact fj h4 hk
 case Cl x y=>obtain⟨x,h1,y,h2,h3⟩:=he;obtain⟨h4,rfl⟩:=H4 h3;simp only[h1,h2,wv];exact yQ h4 hk
 case Ir l s n x y=>obtain⟨x,h1,y,h2,h3⟩:=he;obtain⟨h4,rfl⟩:=H4 h3;simp only[h1,h2,wv];exact a3q h4 hk
 case Bn s x y=>obtain⟨x,h1,y,h2,h3⟩:=he;obtain⟨h4,rfl⟩:=H4 h3;simp only[h1,h2,wv];exact xz h4 hk
 case Er l s x y=>obtain⟨x,h1,y,h2,h3⟩:=he;obtain⟨h4,rfl⟩:=H4 h3;simp only[h1,h2,wv];exact iM h4 hk
 case AL t ok z x=>obtain⟨x,h1,h3⟩:=he;obtain⟨h4,rfl⟩:=H4 h3;simp only[h1,wv];exact b2n h4 hk
 case extract i x=>obtain⟨x,h1,h3⟩:=he;obtain⟨h4,rfl⟩:=H4 h3;simp only[h1,wv];exact a50 h4 hk
 case len s x=>obtain⟨x,h1,h3⟩:=he;obtain⟨h4,rfl⟩:=H4 h3;simp only[h1,wv];exact a7g h4 hk
 case append e s t x y=>
  obtain⟨x,h1,y,h2,h3⟩:=he;simp only[h1,h2,wv];split at h3
  ·rename_i r hr;cases h3;exact .inr (.inr (yS hr hk))
  split at h3
  ·split at h3
   ·rename_i r hr;cases h3;exact .inr (.inl (i7 hr hk))
   ·exact .inl (pK h3 hk)
  ·exact .inl (pK h3 hk)
 case call f args=>
  obtain⟨fv,h1,l,h2,h3⟩:=he;simp only[h1,h2,wv];split at h3
  ·exact hc _ _ _ _ _ h3 K hk
  ·obtain⟨t,x,r,g,rfl,h5,h6⟩:=Uq h3;unfold Dt;simp only[h5];exact hc _ _ _ _ _ h6 K hk
  ·cases h3
 case bytes x=>
  obtain⟨x,h1,h2⟩:=he;simp only[h1,wv];split at h2
  ·cases h2;exact hk
  ·cases h2
 case AJ mx l=>obtain⟨x,h1,v,h2,h3⟩:=he;cases h3;simp only[h1,h2,Nt];exact hk
 case make s t z x y=>obtain⟨x,h1,y,h2,h3⟩:=he;simp only[h1,h2,wv];exact .inl (a7a h3 hk)
 case range x=>obtain⟨x,h1,h2⟩:=he;simp only[h1,wv];exact uM h2 hk
 case next x=>obtain⟨x,h1,h2⟩:=he;simp only[h1,wv];exact b08 h2 hk
 case bad=>cases he
 case In=>cases he;exact hk
 case lookup ok z x k=>obtain⟨x,h1,k,h2,h3⟩:=he;obtain⟨h4,rfl⟩:=H4 h3;simp only[h1,h2,wv];exact pH h4 hk
 case mapset m k v=>obtain⟨m,h1,k,h2,v,h3,h4,h5,h6⟩:=he;cases h6;simp only[h1,h2,h3,wv];exact a0r h5 hk
 case Iz e u=>cases he;exact hk
 case Iw x=>obtain⟨x,h1,h3⟩:=he;obtain⟨h4,rfl⟩:=H4 h3;simp only[h1,wv];exact rp h4 hk
 case Co u p n=>obtain⟨x,h1,k,h2,h3⟩:=he;obtain⟨h4,rfl⟩:=H4 h3;simp only[h1,h2,wv];exact a9f h4 hk
 case Fu c p n=>obtain⟨x,h1,k,h2,h3⟩:=he;obtain⟨h4,rfl⟩:=H4 h3;simp only[h1,h2,wv];exact vH h4 hk
 case DW u n=>obtain⟨x,h1,h3⟩:=he;simp only[h1,wv];exact a68 h3 hk
 case cap0 x=>obtain⟨x,h1,h3⟩:=he;obtain⟨h4,rfl⟩:=H4 h3;simp only[h1,wv];exact ul h4 hk
 case Iy p n=>obtain⟨x,h1,k,h2,h3⟩:=he;obtain⟨h4,rfl⟩:=H4 h3;simp only[h1,h2,wv];exact a8j h4 hk
 case clear s z x=>obtain⟨m,h1,h4,h5,h6⟩:=he;cases h6;simp only[h1,wv];exact a1x h5 hk
def K7(env:Env)(g:b4d (Nat × b4e)):b4d b4e:=
 match g with
 |none=>some true
 |some (t,want)=>(get env t).bind λv=>match v with
  |.v (.bool b)=>some (b==want)
  |.tuple []=>some false
  |_=>none
theorem NL{env:Env}{g:b4d (Nat × b4e)}{b:b4e}{y n:Prop}(he:K7 env g=some b)(hk:if b=true then y else n):Lp env g y n:=by
 cases g with
 |none=>cases he;exact hk
 |some p=>
  obtain⟨t,want⟩:=p;simp only[K7,b3u]at he;obtain⟨v,h1,h2⟩:=he;simp only[Lp,h1,wv];split at h2
  ·rename_i c;cases h2;simp only;cases c<;>cases want
   ·exact⟨λ_=>hk,λh=>by cases h⟩
   ·exact⟨(λh=>by cases h),λ_=>hk⟩
   ·exact⟨(λh=>by cases h),λ_=>hk⟩
   ·exact⟨λ_=>hk,λh=>by cases h⟩
  ·cases h2;exact hk
  ·cases h2
def CD(md:b4e)(call:O0):b4c B9->Env->A3->b4d (Env × A3)
 |[],env,h=>some (env,h)
 |o::r,env,h=>(K7 env o.guard).bind λb=>match b with
  |true=>(Z7 md call o.op env h).bind λp=>CD md call r (L3 env o.dst p.1) p.2
  |false=>CD md call r (Af env o.dst) h
theorem MJ{P:Program}{md:b4e}{call:O0}(hc:Dg P call):∀{l:b4c B9}{env:Env}{h:A3}{r:Env × A3}{K:Env->A3->Prop},CD md call l env h=some r->K r.1 r.2->AP P l env h K
 |[],env,h,r,K,he,hk=>by cases he;exact hk
 |o::l,env,h,r,K,he,hk=>by
  simp only[CD,b3u]at he;obtain⟨b,h1,h2⟩:=he;refine NL h1 ?_;cases b with
  |true=>
   simp only[b3u]at h2;obtain⟨⟨a,h'⟩,h3,h4⟩:=h2;exact FR (K:=λav h'=>AP P l (L3 env o.dst av) h' K) hc h3 (MJ hc h4 hk)
  |false=>exact MJ hc h2 hk
def AG:G7->b4e
 |.alloc _|.box _|.store _ _ _|.append _ _ _ _ _|.make _ _ _ _ _|.range _|.next _|.bad|.In|.mapset _ _ _|.Iz _ _|.Co _ _ _|.DW _ _|.clear _ _ _=>false
 |_=>true
def QV(md:b4e)(call:O0):b4c B9->Env->A3->b4d Env
 |[],env,h=>some env
 |o::r,env,h=>(K7 env o.guard).bind λb=>match b with
  |true=>if AG o.op=true then(Z7 md call o.op env h).bind λp=>QV md call r (L3 env o.dst p.1) h else none
  |false=>QV md call r (Af env o.dst) h
theorem Tl{md:b4e}{call:O0}(hq:∀f args h a h',call f args h=some (a,h')->h'=h){o:G7}{env:Env}{h h':A3}{a:AV}(ho:AG o)(he:Z7 md call o env h=some (a,h')):h'=h:=by
 cases o<;>simp only[Z7,b3u,b3t]at he<;>(try (cases ho;done))
 case mv x=>exact(H4 he).2
 case pick c x y=>obtain⟨cv,h1,h2⟩:=he;split at h2<;>first|exact(H4 h2).2|cases h2
 case build z ps=>obtain⟨q,h1,cells,h2,h3⟩:=he;cases h3;rfl
 case Et s l z ps=>
  obtain⟨q,h1,cells,h2,h3⟩:=he;split at h3<;>cases h3;rfl
 case load n x=>obtain⟨p,h1,h2⟩:=he;exact(H4 h2).2
 case nilCheck x=>obtain⟨b,h1,h2⟩:=he;split at h2<;>cases h2<;>rfl
 case bin op x y=>obtain⟨x,h1,y,h2,h3⟩:=he;exact(H4 h3).2
 case eq c yes x y=>obtain⟨x,h1,y,h2,b,h3,h4⟩:=he;cases h4;rfl
 case un op x=>obtain⟨x,h1,h3⟩:=he;exact(H4 h3).2
 case conv c x=>obtain⟨x,h1,h3⟩:=he;exact(H4 h3).2
 case iface t x=>obtain⟨x,h1,h3⟩:=he;cases h3;rfl
 case func fn f c=>obtain⟨x,h1,y,h2,h3⟩:=he;cases h3;rfl
 case CM x lo hi=>obtain⟨x,h1,lo,h2,hi,h3,h4⟩:=he;exact(H4 h4).2
 case CL s x lo hi mx=>obtain⟨x,h1,lo,h2,hi,h3,mx,h4,h5⟩:=he;exact(H4 h5).2
 case fieldAddr off x=>obtain⟨x,h1,h3⟩:=he;exact(H4 h3).2
 case field n off x=>obtain⟨x,h1,h3⟩:=he;exact(H4 h3).2
 case Cl x y=>obtain⟨x,h1,y,h2,h3⟩:=he;exact(H4 h3).2
 case Ir l s n x y=>obtain⟨x,h1,y,h2,h3⟩:=he;exact(H4 h3).2
 case Bn s x y=>obtain⟨x,h1,y,h2,h3⟩:=he;exact(H4 h3).2
 case Er l s x y=>obtain⟨x,h1,y,h2,h3⟩:=he;exact(H4 h3).2
 case AL t ok z x=>obtain⟨x,h1,h3⟩:=he;exact(H4 h3).2
 case extract i x=>obtain⟨x,h1,h3⟩:=he;exact(H4 h3).2
 case len s x=>obtain⟨x,h1,h3⟩:=he;exact(H4 h3).2
 case call f args=>
  obtain⟨fv,h1,l,h2,h3⟩:=he;split at h3
  ·exact hq _ _ _ _ _ h3
  ·obtain⟨t,x,r,g,_,_,h4⟩:=Uq h3;exact hq _ _ _ _ _ h4
  ·cases h3
 case AJ mx l=>obtain⟨x,h1,v,h2,h3⟩:=he;cases h3;rfl
 case lookup ok z x k=>obtain⟨x,h1,k,h2,h3⟩:=he;exact(H4 h3).2
 case bytes x=>obtain⟨x,h1,h2⟩:=he;split at h2<;>cases h2;rfl
 case Iw x=>obtain⟨x,h1,h3⟩:=he;exact(H4 h3).2
 case Fu c x y=>obtain⟨x,h1,y,h2,h3⟩:=he;exact(H4 h3).2
 case cap0 x=>obtain⟨x,h1,h3⟩:=he;exact(H4 h3).2
 case Iy x y=>obtain⟨x,h1,y,h2,h3⟩:=he;exact(H4 h3).2
theorem cK{P:Program}{md:b4e}{call:O0}(hc:Dg P call)(hq:∀f args h a h',call f args h=some (a,h')->h'=h):∀{l:b4c B9}{env r:Env}{h:A3}{K:Env->Prop},QV md call l env h=some r->K r->vq P l env h K
 |[],env,r,h,K,he,hk=>by cases he;exact hk
 |o::l,env,r,h,K,he,hk=>by
  simp only[QV,b3u]at he;obtain⟨b,h1,h2⟩:=he;refine NL h1 ?_;cases b with
  |true=>
   simp only at h2;split at h2
   ·rename_i ho;simp only[b3u]at h2;obtain⟨⟨a,h'⟩,h3,h4⟩:=h2;have:=Tl hq ho h3;subst this;exact⟨a,FR hc h3 ⟨rfl,rfl⟩,cK hc hq h4 hk⟩
   ·cases h2
  |false=>exact cK hc hq h2 hk
def XI:Value->Value->b4e
 |.bool a,.bool b=>a==b
 |.int k a,.int l b=>decide (k=l)&&decide (a=b)
 |.string a,.string b=>a.data.toList==b.data.toList
 |.pointer none,.pointer none=>true
 |.nilFunc,.nilFunc=>true
 |.nilIface,.nilIface=>true
 |_,_=>false
theorem a28{x y:Value}(h:XI x y):x=y:=by
 unfold XI at h;split at h<;>(try (cases h;done))<;>(try rfl)
 ·simp at h;rw[h]
 ·simp at h;rw[h.1,h.2]
 ·rename_i a b;have:=eq_of_beq h
  congr 1
  apply ByteArray.ext;exact Array.ext' this
mutual
def X5:AV->AV->Bool
 |.v x,.v y=>XI x y
 |.ptr a b,.ptr c d=>a==c&&b==d
 |.D3 l o,.D3 m p=>CR l m&&o==p
 |.nil,.nil=>true
 |.sl e t,.sl f u=>Lc e f&&decide (t=u)
 |.agg l,.agg m=>CR l m
 |.tuple l,.tuple m=>CR l m
 |.iface t x,.iface u y=>t==u&&X5 x y
 |.clo (.func f) a b,.clo (.func g) c d=>f==g&&CR a c&&CR b d
 |.E6 a,.E6 b=>a==b
 |.row a b c d e,.row a' b' c' d' e'=>a==a'&&b==b'&&c==c'&&d==d'&&e==e'
 |.bb k e u,.bb l f v=>decide (k=l)&&Lc e f&&u==v
 |.ps n t,.ps m u=>n==m&&t==u
 |.it s p,.it t q=>s.data.toList==t.data.toList&&p==q
 |.mp n,.mp m=>n==m
 |_,_=>false
def CR:List AV->List AV->Bool
 |[],[]=>true
 |a::l,b::m=>X5 a b&&CR l m
 |_,_=>false
def Lc:List (List AV)->List (List AV)->Bool
 |[],[]=>true
 |a::l,b::m=>CR a b&&Lc l m
 |_,_=>false
end
mutual
theorem Wo:∀(a b:AV),X5 a b->a=b
 |.v x,b,h=>by cases b<;>simp only[X5,Bool.false_eq_true]at h;rw[a28 h]
 |.ptr n o,b,h=>by cases b<;>simp only[X5,Bool.false_eq_true,b3x,beq_iff_eq]at h;rw[h.1,h.2]
 |.D3 l o,b,h=>by cases b<;>simp only[X5,Bool.false_eq_true,b3x,beq_iff_eq]at h;rw[ER _ _ h.1,h.2]
 |.nil,b,h=>by cases b<;>simp only[X5,Bool.false_eq_true]at h;rfl
 |.sl e t,b,h=>by cases b<;>simp only[X5,Bool.false_eq_true,b3x,b3v]at h;rw[aV _ _ h.1,h.2]
 |.agg l,b,h=>by cases b<;>simp only[X5,Bool.false_eq_true]at h;rw[ER _ _ h]
 |.tuple l,b,h=>by cases b<;>simp only[X5,Bool.false_eq_true]at h;rw[ER _ _ h]
 |.iface t x,b,h=>by cases b<;>simp only[X5,Bool.false_eq_true,b3x,beq_iff_eq]at h;rw[h.1,Wo _ _ h.2]
 |.clo f l r,b,h=>by
  cases b with
  |clo g l' r'=>
   cases f with
   |func f=>
    cases g with
    |func g=>
     simp only[X5,b3x,beq_iff_eq]at h;rw[h.1.1,ER _ _ h.1.2,ER _ _ h.2]
    |_=>simp[X5]at h
   |_=>simp[X5]at h
  |_=>simp[X5]at h
 |.E6 n,b,h=>by cases b<;>simp only[X5,Bool.false_eq_true,beq_iff_eq]at h;rw[h]
 |.row a1 a2 a3 a4 a5,b,h=>by
  cases b<;>simp only[X5,Bool.false_eq_true,b3x,beq_iff_eq]at h
  rw[h.1.1.1.1,h.1.1.1.2,h.1.1.2,h.1.2,h.2]
 |.it s p,b,h=>by
  cases b<;>simp only[X5,Bool.false_eq_true,b3x,beq_iff_eq]at h
  rw[ByteArray.ext (Array.ext' h.1),h.2]
 |.mp n,b,h=>by cases b<;>simp only[X5,Bool.false_eq_true,beq_iff_eq]at h;rw[h]
 |.bb k e u,b,h=>by
  cases b<;>simp only[X5,Bool.false_eq_true,b3x,b3v,beq_iff_eq]at h
  rw[h.1.1,aV _ _ h.1.2,h.2]
 |.ps n t,b,h=>by cases b<;>simp only[X5,Bool.false_eq_true,b3x,beq_iff_eq]at h;rw[h.1,h.2]
theorem ER:∀(a b:List AV),CR a b->a=b
 |[],b,h=>by cases b<;>simp only[CR,Bool.false_eq_true]at h;rfl
 |a::l,b,h=>by
  cases b<;>simp only[CR,Bool.false_eq_true,b3x]at h
  rw[Wo _ _ h.1,ER _ _ h.2]
theorem aV:∀(a b:List (List AV)),Lc a b->a=b
 |[],b,h=>by cases b<;>simp only[Lc,Bool.false_eq_true]at h;rfl
 |a::l,b,h=>by
  cases b<;>simp only[Lc,Bool.false_eq_true,b3x]at h
  rw[ER _ _ h.1,aV _ _ h.2]
end
def FH:G7->b4e
 |.alloc _|.box _|.store _ _ _|.append _ _ _ _ _|.make _ _ _ _ _|.range _|.next _|.load _ _|.call _ _|.bad|.In|.mapset _ _ _|.lookup _ _ _ _|.Er _ _ _ _|.Iz _ _|.Co _ _ _|.DW _ _|.clear _ _ _=>false
 |_=>true
theorem lE{P:Program}{o:G7}(hp:FH o){env:Env}{h h':A3}{K:AV->A3->Prop}:E0 P o env h K=E0 P o env h' λa _=>K a h:=by
 cases o<;>first|rfl|(cases hp;done)
theorem cI{P:Program}{o:G7}(hp:FH o){env:Env}{h h':A3}{av:AV}(hq:Ad P o env h av):Ad P o env h' av:=by
 unfold Ad at hq ⊢;rw[lE (h':=h') hp]at hq;rw[lE (h':=h') hp];have:(λ(a:AV) (_:A3)=>a=av/\h=h)=λ(a:AV) (_:A3)=>a=av/\h'=h':=by funext a b;simp
 rw[this]at hq;exact hq
def We(P:Program)(call:O0):Prop:=∀f args h a h',call f args h=some (a,h')->h'=h/\∀h2:A3,h2.A8=h.A8->∀K:AV->A3->Prop,K a h2->W9 P f args h2 K
theorem a9c{F:Env}{t:Nat}{want b:b4e}(h:K7 F (some (t,want))=some b):(∃c,get F t=some (.v (.bool c))/\b=(c==want))\/(get F t=some (.tuple [])/\b=false):=by
 simp only[K7,b3u]at h;obtain⟨v,h1,h2⟩:=h;split at h2
 ·rename_i c;cases h2;exact .inl ⟨c,h1,rfl⟩
 ·cases h2;exact .inr ⟨h1,rfl⟩
 ·cases h2
theorem rL{h h2:A3}(hg:h2.A8=h.A8)(x:AV):Jz h2 x=Jz h x:=by
 unfold Jz;rw[hg]
theorem a5c{h h2:A3}{ok:b4e}{zero x k a:AV}(he:∀(n:Nat) (c:b4c AV),h.A4[n]? =some (some c)->h2.A4[n]? =some (some c))(hl:MK h ok zero x k=some a):MK h2 ok zero x k=some a:=by
 unfold MK at hl ⊢;split at hl
 ·split at hl
  ·split at hl
   ·rename_i hb;simp only[he _ _ hb];exact hl
   ·cases hl
  ·exact hl
  ·cases hl
 ·cases hl
def Pz:G7->b4e
 |.call _ _=>true
 |_=>false
theorem b2g{P:Program}{md:b4e}{call:O0}(hc:We P call){o:G7}{env:Env}{h h':A3}{a:AV}(ho:AG o)(hp:(FH o||Pz o))(he:Z7 md call o env h=some (a,h')){h2:A3}(hg:h2.A8=h.A8):Ad P o env h2 a:=by
 have hcok:Dg P call:=λf args h a h' he K hk=>by
  obtain⟨e1,e2⟩:=hc f args h a h' he;subst e1;exact e2 _ rfl K hk
 have hsame:h'=h:=Tl (λf args h a h' he=>(hc f args h a h' he).1) ho he;subst hsame
 by_cases hp':FH o=true
 ·exact cI hp' (FR (K:=λx y=>x=a/\y=h') hcok he ⟨rfl,rfl⟩)
 ·cases o<;>first|(exact absurd rfl hp')|(cases ho;done)|(simp[FH,Pz]at hp;done)|skip
  case call f args=>
   simp only[Z7,b3u]at he;obtain⟨fv,h1,l,h3,h4⟩:=he;show wv (f.ev env) _;rw[h1];split at h4
   ·rename_i g first captured;show Dt P _ (evs env args) h2 _;rw[h3];exact(hc _ _ _ _ _ h4).2 h2 hg _ ⟨rfl,rfl⟩
   ·obtain⟨t,x,r,g,rfl,h5,h6⟩:=Uq h4;show Dt P _ (evs env args) h2 _;rw[h3];unfold Dt;simp only[h5];exact(hc _ _ _ _ _ h6).2 h2 hg _ ⟨rfl,rfl⟩
   ·cases h4
def FU:b4c (b4d (b4c AV))->b4c (b4d (b4c AV))->b4e
 |[],[]=>true
 |none::l,none::m=>FU l m
 |some a::l,some b::m=>CR a b&&FU l m
 |_,_=>false
theorem Zp:∀{a b:b4c (b4d (b4c AV))},FU a b->a=b
 |[],b,h=>by cases b<;>simp only[FU,Bool.false_eq_true]at h;rfl
 |none::l,b,h=>by
  cases b with
  |nil=>simp[FU]at h
  |cons x m=>cases x<;>simp only[FU,Bool.false_eq_true]at h;rw[Zp h]
 |some c::l,b,h=>by
  cases b with
  |nil=>simp[FU]at h
  |cons x m=>cases x<;>simp only[FU,Bool.false_eq_true,b3x]at h;rw[ER _ _ h.1,Zp h.2]
def Jl:b4c (Nat × b4c AV)->b4c (Nat × b4c AV)->b4e
 |[],[]=>true
 |(i,a)::l,(j,b)::m=>i==j&&CR a b&&Jl l m
 |_,_=>false
theorem bw:∀{a b:b4c (Nat × b4c AV)},Jl a b->a=b
 |[],b,h=>by cases b<;>simp only[Jl,Bool.false_eq_true]at h;rfl
 |(i,c)::l,b,h=>by
  cases b with
  |nil=>simp[Jl]at h
  |cons x m=>
   obtain⟨j,d⟩:=x;simp only[Jl,b3x,beq_iff_eq]at h;rw[h.1.1,ER _ _ h.1.2,bw h.2]
def ON(h k:A3):b4e:=FU h.A4 k.A4&&decide (h.A6=k.A6)&&Jl h.A8 k.A8
theorem gY{h k:A3}(he:ON h k):h=k:=by
 simp only[ON,b3x,b3v]at he;obtain⟨⟨h1,h2⟩,h3⟩:=he;cases h;cases k;simp only at h1 h2 h3;rw[Zp h1,h2,bw h3]
def Gx(F:Env)(d:b4d Nat)(a:AV):b4e:=match d with
 |none=>true
 |some d=>match get F d with
  |some b=>X5 b a
  |none=>false
theorem OH{F:Env}{o:b4d Nat}{a:AV}(h:Gx F o a):∀d,o=some d->get F d=some a:=by
 rintro d rfl;simp only[Gx]at h;split at h
 ·rename_i b hb;rw[hb,Wo _ _ h]
 ·cases h
def QF:Nat->b4c B9->b4c (b4d Nat)
 |_,[]=>[]
 |b,o::r=>match o.op,o.guard with
  |.alloc _,none=>some b::QF (b+1) r
  |_,_=>none::QF b r
def Of(md:b4e)(call:O0)(nm:b4d Nat)(o:B9)(F:Env)(h:A3):b4d (AV × A3):=
 match nm,o.op with
 |some n,.alloc cells=>match h.A4[n]? with
  |some none=>some (.ptr n 0,⟨h.A4.set n (some cells),h.A6,h.A8⟩)
  |_=>none
 |_,_=>Z7 md call o.op F h
def Mb(md:b4e)(call:O0):b4c B9->b4c (b4d Nat)->Nat->Env->A3->b4d (Env × b4c Nat)
 |[],_,_,env,_=>some (env,[])
 |o::r,nms,i,env,h=>(K7 env o.guard).bind λb=>match b with
  |false=>Mb md call r nms.tail (i+1) (Af env o.dst) h
  |true=>(Of md call (nms.headD none) o env h).bind λp=>(Mb md call r nms.tail (i+1) (L3 env o.dst p.1) p.2).map λx=>(x.1,if(if AG o.op=true then(!Pz o.op||ON h p.2) else false)=true then x.2 else i::x.2)
abbrev CV:=b4c (b4c Nat × A3)
def Bq(T:CV)(S:b4c Nat):b4d A3:=(T.find? λp=>p.1==S).map (·.2)
def Gh(E:b4c Nat)(i:Nat)(S:b4c Nat):b4c Nat:=E.filter λk=>k==i||S.contains k
def PF(ord:b4c (b4c Nat))(E S:b4c Nat)(i:Nat):b4e:= !S.contains i&&((ord.getD i []).all λk=> !E.contains k||S.contains k)&&(E.contains i|| !S.any λw=>(ord.getD w []).contains i)
def tH(md:b4e)(call:O0)(ord:b4c (b4c Nat))(nms:b4c (b4d Nat))(al:b4c B9)(G:Nat->Env)(E:b4c Nat)(p:b4c Nat × A3):CV:=
 E.filterMap λi=>if PF ord E p.1 i=true then match al[i]? with
  |some o=>(Of md call (nms.getD i none) o (G i) p.2).map λr=>(Gh E i p.1,r.2)
  |none=>none else none
def ZL:CV->CV->CV
 |acc,[]=>acc
 |acc,p::r=>if acc.any (λq=>q.1==p.1)=true then ZL acc r else ZL (acc++[p]) r
def Px(nx:b4c Nat × A3->CV):Nat->CV->CV
 |0,fr=>fr
 |n+1,fr=>fr++Px nx n (ZL [] (fr.flatMap nx))
def kl(md:b4e)(callX:O0)(F G:Env)(hb:A3)(o:B9):b4e:=
 (FH o.op||Pz o.op)&&AG o.op&&match Z7 md callX o.op G hb with
  |some r=>Gx F o.dst r.1
  |none=>false
def xB(md:b4e)(callG:O0)(ord:b4c (b4c Nat))(nms:b4c (b4d Nat))(F G:Env)(E:b4c Nat)(T:CV)(i:Nat)(o:B9):b4e:=
 T.all λp=> !PF ord E p.1 i||match Of md callG (nms.getD i none) o G p.2,Bq T (Gh E i p.1) with
  |some r,some h2=>ON r.2 h2&&Gx F o.dst r.1
  |_,_=>false
def s7(md:b4e)(callP callG:O0)(ord:b4c (b4c Nat))(F G:Env)(E:b4c Nat)(T:CV)(i:Nat)(o:B9):b4e:=
 T.all λp=> !PF ord E p.1 i||(if Pz o.op=true then match Z7 md callG o.op G p.2 with
   |some r=>ON r.2 p.2&&Gx F o.dst r.1
   |none=>false
  else AG o.op&&match Z7 md callP o.op G p.2 with
   |some r=>Gx F o.dst r.1
   |none=>false)
def kZ(md:b4e)(callX callP callG:O0)(ord:b4c (b4c Nat))(nms:b4c (b4d Nat))(al:b4c B9)(F:Env)(G:Nat->Env)(E:b4c Nat)(T:CV)(hb:A3):b4e:=
 (E.all λi=>decide (i<al.length))&&(T.all λp=>Jl p.2.A8 hb.A8)&&(List.range al.length).all λi=>match al[i]? with
  |none=>true
  |some o=>match K7 (G i) o.guard with
   |none=>false
   |some false=> !E.contains i&&Gx F o.dst (.tuple [])
   |some true=>if E.contains i=true then xB md callG ord nms F (G i) E T i o else kl md callX F (G i) hb o||s7 md callP callG ord F (G i) E T i o
def fg(md:b4e)(callX callP callG:O0)(ord:b4c (b4c Nat))(nms:b4c (b4d Nat))(al:b4c B9)(F:Env)(G:Nat->Env)(E:b4c Nat)(hb:A3)(T:CV):b4d (Env × A3):=
 if kZ md callX callP callG ord nms al F G E T hb=true then(Bq T E).map λh'=>(F,h') else none
def Tf(md:b4e)(callX callP callG:O0)(ord:b4c (b4c Nat))(GE:Env->Nat->Env)(al:b4c B9)(env:Env)(h:A3):b4d (Env × A3):=
 let nms:=QF h.A4.length al
 let hb:A3:=⟨h.A4++List.replicate (nms.countP (·.isSome)) none,h.A6,h.A8⟩
 (Mb md callG al nms 0 env hb).bind λx=>fg md callX callP callG ord nms al x.1 (GE x.1) x.2 hb (Px (tH md callG ord nms al (GE x.1) x.2) x.2.length [([],hb)])
theorem tO{P:Program}{N:Nat}{Q:Exit->Env->A3->Prop}{env:Env}{h:A3}{ord:b4c (b4c Nat)}{al tl:b4c B9}{F:Env}{h':A3}{n:Nat}{H:(Nat->b4e)->b4d A3}(hn:Kh P (clo ord) al env F (λ_=>F) h h' n H)(hv:AP P tl F h' λenv' h'=>Q .normal env' h'):J4 P N (.drawn ord al tl) Q env h:=by
 intro c hc σ a hs;cases c<;>(try simp only[F0,b3u,b3t]at hc)
 case region id ops' d=>
  cases d<;>simp only[F0,b3u,b3t]at hc
  ·obtain⟨_,_,hx⟩:=hc;cases hx
  ·obtain⟨al',hal,tl',htl,hx⟩:=hc;split at hx
   ·rename_i hcond;cases hx;obtain⟨c2,c3⟩:=hcond;rw[<-c3]at hal htl;exact a14 hal htl c2 hs hn hv
   ·split at hx<;>cases hx
 all_goals first
  |(cases hc;done)
  |(obtain⟨_,_,hx⟩:=hc;cases hx;done)
  |(obtain⟨_,_,_,_,hx⟩:=hc;cases hx;done)
  |(obtain⟨_,_,_,_,_,_,hx⟩:=hc;cases hx;done)
theorem r8{P:Program}{N:Nat}{Q:Exit->Env->A3->Prop}{env:Env}{h:A3}{ord:b4c (b4c Nat)}{al tl:b4c B9}{F:Env}{h':A3}{n:Nat}{H:(Nat->b4e)->b4d A3}(hn:Kh P (clo ord) al env F (OY ord al env F) h h' n H)(hv:AP P tl F h' λenv' h'=>Q .normal env' h'):J4 P N (.late ord al tl) Q env h:=by
 intro c hc σ a hs;cases c<;>(try simp only[F0,b3u,b3t]at hc)
 case region id ops' d=>
  cases d<;>simp only[F0,b3u,b3t]at hc
  ·obtain⟨_,_,hx⟩:=hc;cases hx
  ·obtain⟨al',hal,tl',htl,hx⟩:=hc;split at hx
   ·cases hx
   ·split at hx
    ·rename_i hcond;cases hx;obtain⟨c2,c3⟩:=hcond;rw[<-c3]at hal htl;exact a81 hal htl c2 hs hn hv
    ·cases hx
 all_goals first
  |(cases hc;done)
  |(obtain⟨_,_,hx⟩:=hc;cases hx;done)
  |(obtain⟨_,_,_,_,hx⟩:=hc;cases hx;done)
  |(obtain⟨_,_,_,_,_,_,hx⟩:=hc;cases hx;done)
theorem ca{md:b4e}{call:O0}:∀{l:b4c B9}{nms:b4c (b4d Nat)}{i:Nat}{env:Env}{h:A3}{x:Env × b4c Nat},Mb md call l nms i env h=some x->∀t,H0 t l=false->get x.1 t=get env t
 |[],nms,i,env,h,x,he,t,ht=>by simp[Mb]at he;subst he;rfl
 |o::r,nms,i,env,h,x,he,t,ht=>by
  have hw:H0 t r=false/\o.dst≠some t:=by
   simp only[H0,List.any_cons,Bool.or_eq_false_iff]at ht;exact⟨ht.2,by simpa using ht.1⟩
  simp only[Mb,b3u]at he;obtain⟨b,h1,h2⟩:=he;cases b with
  |false=>
   simp only at h2;rw[ca h2 t hw.1,CO,if_neg hw.2]
  |true=>
   simp only[b3u,b3t]at h2;obtain⟨p,h3,y,h4,rfl⟩:=h2;show get y.1 t=_;rw[ca h4 t hw.1,BY,if_neg hw.2]
theorem w8{P:Program}{md:b4e}{call:O0}(hc:Dg P call){nm:b4d Nat}{o:B9}{F G:Env}{h h2:A3}{a:AV}(he:Of md call nm o G h=some (a,h2))(hd:Gx F o.dst a):Og P F G h (some h2) o:=by
 refine⟨a,h2,rfl,?_,OH hd⟩;unfold Of at he;split at he
 ·rename_i n cells ho;split at he
  ·rename_i hn;cases he;exact .inl ⟨cells,n,ho,hn,rfl,rfl⟩
  ·cases he
 ·exact .inr (FR (K:=λx y=>x=a/\y=h2) hc he ⟨rfl,rfl⟩)
theorem vT(nx:b4c Nat × A3->CV)(n:Nat)(hb:A3):Bq (Px nx n [([],hb)]) []=some hb:=by
 cases n<;>simp[Px,Bq]
theorem eu{P:Program}{md:b4e}{callX callP callG:O0}(hcX:We P callX)(hcP:Dg P callP)(hcG:Dg P callG)(hq:∀f args h a h',callP f args h=some (a,h')->h'=h){ord:b4c (b4c Nat)}{GE:Env->Nat->Env}{al:b4c B9}{env:Env}{h:A3}{x:Env × A3}(he:Tf md callX callP callG ord GE al env h=some x):
  ∃n H,Kh P ord al env x.1 (GE x.1) h x.2 n H:=by
 unfold Tf at he;simp only[b3u]at he;obtain⟨⟨F,E⟩,h1,h2⟩:=he;generalize hT:Px _ _ _=T at h2;have hT0:Bq T []=some ⟨h.A4++List.replicate ((QF h.A4.length al).countP (·.isSome)) none,h.A6,h.A8⟩:=by rw[<-hT];exact vT _ _ _
 clear hT;unfold fg at h2;split at h2
 ·rename_i hok;simp only[b3t]at h2;obtain⟨h',h3,rfl⟩:=h2;simp only[kZ,b3x,b34,b3v,List.mem_range]at hok;obtain⟨⟨hE,hG⟩,hok⟩:=hok;refine⟨(QF h.A4.length al).countP (·.isSome),λL=>Bq T (E.filter L),?_⟩
  have hin:∀(L:Nat->b4e) k,k∈E->(E.filter L).contains k=L k:=by
   intro L k hk;cases hl:L k with
   |true=>simpa[List.contains_iff_mem,List.mem_filter]using ⟨hk,hl⟩
   |false=>
    cases hb:(E.filter L).contains k with
    |false=>rfl
    |true=>
     have:=List.mem_filter.1 (List.contains_iff_mem.1 hb);rw[hl]at this;cases this.2
  exact {
   Fw:=λL L' hl=>by
    show Bq T (E.filter L)=Bq T (E.filter L');rw[List.filter_congr λi hi=>hl i (hE i hi)]
   first:=by
    show Bq T (E.filter λ_=>false)=_;rw[show E.filter (λ_=>false)=[] from List.filter_eq_nil_iff.2 (by simp)];exact hT0
   last:=λhL hh=>by
    have hh':Bq T (E.filter λ_=>true)=some hL:=hh;rw[show E.filter (λ_=>true)=E from List.filter_eq_self.2 (by simp),h3]at hh';exact(Option.some.inj hh').symm
   keep:=λt ht=>ca h1 t ht
   step:=λL i o hL hi hun hcl hah hH=>by
    have him:=(List.getElem?_eq_some_iff.1 hi).1;have hck:=hok i him;rw[hi]at hck;simp only at hck;have hH':(T.find? λp=>p.1==E.filter L).map (·.2)=some hL:=hH;simp only[b3t]at hH';obtain⟨⟨S,hS⟩,hf,rfl⟩:=hH';have hmem:=List.mem_of_find?_eq_some hf;have hSe:S=E.filter L:=by simpa using List.find?_some hf
    subst hSe
    have hfree:PF ord E (E.filter L) i:=by
     simp only[PF,b3x,b35,b34,Bool.or_eq_true];refine⟨⟨?_,?_⟩,?_⟩
     ·cases hb:(E.filter L).contains i with
      |false=>rfl
      |true=>
       have:=List.mem_filter.1 (List.contains_iff_mem.1 hb);rw[hun]at this;cases this.2
     ·intro k hk;cases hb:E.contains k with
      |false=>exact .inl rfl
      |true=>right;rw[hin L k (List.contains_iff_mem.1 hb)];exact hah k hk
     ·right;cases hb:(E.filter L).any λw=>(ord.getD w []).contains i with
      |false=>rfl
      |true=>
       obtain⟨w,hw,hwi⟩:=List.any_eq_true.1 hb;obtain⟨hw1,hw2⟩:=List.mem_filter.1 hw;have:=hcl w i (hE w hw1) hw2 (List.contains_iff_mem.1 hwi);rw[hun]at this;cases this
    have hup:E.filter (Ue L i)=Gh E i (E.filter L):=by
     unfold Gh;apply List.filter_congr;intro k hk;rw[hin L k hk];show(if k=i then true else L k)=_
     by_cases hki:k=i
     ·simp[hki]
     ·rw[if_neg hki];simp[hki]
    have hsame:E.contains i=false->Gh E i (E.filter L)=E.filter L:=by
     intro hni;unfold Gh;apply List.filter_congr;intro k hk
     have hki:k≠i:=by
      rintro rfl;rw[List.contains_iff_mem.2 hk]at hni;cases hni
     rw[hin L k hk];simp[hki]
    show RT P F (GE F i) hS (Bq T (E.filter (Ue L i))) o;rw[hup];have hcur:Bq T (E.filter L)=some hS:=hH
    have does:K7 (GE F i) o.guard=some true->Og P F (GE F i) hS (Bq T (Gh E i (E.filter L))) o:=by
     intro hg;rw[hg]at hck;simp only at hck;split at hck
     ·have:=List.all_eq_true.1 hck _ hmem;simp only[hfree,Bool.not_true,Bool.false_or]at this;split at this
      ·rename_i r h2 e1 e2;simp only[b3x]at this;rw[e2];have heq:=gY this.1;exact w8 hcG (a:=r.1) (by rw[e1,<-heq]) this.2
      ·cases this
     ·rename_i hni;have hni':E.contains i=false:=by simpa using hni
      rw[hsame hni',hcur];simp only[Bool.or_eq_true]at hck;rcases hck with hck|hck
      ·simp only[kl,b3x]at hck;obtain⟨⟨c1,c2⟩,c3⟩:=hck;split at c3
       ·rename_i r e1;exact⟨r.1,hS,rfl,.inr (b2g hcX (h':=r.2) c2 c1 e1 (bw (hG _ hmem))),OH c3⟩
       ·cases c3
      ·have:=List.all_eq_true.1 hck _ hmem;simp only[hfree,Bool.not_true,Bool.false_or]at this;split at this
       ·split at this
        ·rename_i r e1;simp only[b3x]at this;have heq:=gY this.1;exact⟨r.1,hS,rfl,.inr (FR (K:=λx y=>x=r.1/\y=hS) hcG (h':=r.2) e1 ⟨rfl,heq⟩),OH this.2⟩
        ·cases this
       ·simp only[b3x]at this;obtain⟨c1,c2⟩:=this;split at c2
        ·rename_i r e1;have heq:r.2=hS:=Tl (a:=r.1) hq c1 e1;exact⟨r.1,hS,rfl,.inr (FR (K:=λx y=>x=r.1/\y=hS) hcP (h':=r.2) e1 ⟨rfl,heq⟩),OH c2⟩
        ·cases c2
    have skips:K7 (GE F i) o.guard=some false->Bq T (Gh E i (E.filter L))=some hS/\∀d,o.dst=some d->get F d=some (.tuple []):=by
     intro hg;rw[hg]at hck;simp only[b3x,b35]at hck;exact⟨by rw[hsame hck.1];exact hcur,OH hck.2⟩
    unfold RT;cases hgd:o.guard with
    |none=>exact does (by rw[hgd];rfl)
    |some g=>
     obtain⟨t,want⟩:=g;simp only
     have hgs:∃b,K7 (GE F i) (some (t,want))=some b:=by
      rw[hgd]at hck;cases hb:K7 (GE F i) (some (t,want)) with
      |none=>rw[hb]at hck;cases hck
      |some b=>exact⟨b,rfl⟩
     obtain⟨b,hb⟩:=hgs;have:=a9c hb;rcases this with⟨c,hc,hbe⟩|⟨hc,rfl⟩
     ·refine .inl ⟨c,hc,λhw=>does ?_,λhw=>skips ?_⟩
      ·rw[hgd,hb,hbe,hw];simp
      ·rw[hgd,hb,hbe]
       congr 1
       simpa using hw
     ·exact .inr ⟨hc,skips (by rw[hgd,hb])⟩}
 ·cases h2
abbrev X9:=b4c (Nat × (Nat × E8 × b4c K5))
def ZZ:E8->b4e
 |.from_ .skip 0=>true
 |_=>false
def Sl(P:Program)(f:FuncId)(t:TypeId):Prop:=∀(h:A3) (n:Nat) (r:b4c AV),h.A4[n]? =some (some (.ps n t::r))->∀K:AV->A3->Prop,K (.tuple []) h->W9 P f [.ptr n 0] h K
def dg(t:Nat)(args:b4c AV)(h:A3):b4d (AV × A3):=
 match args with
 |[.ptr n 0]=>match h.A4[n]? with
  |some (some (.ps m u::_))=>if m=n/\u=t then some (.tuple [],h) else none
  |_=>none
 |_=>none
theorem ug{P:Program}{f:FuncId}{t:Nat}(hc:Sl P f t){args:b4c AV}{h h':A3}{a:AV}(he:dg t args h=some (a,h')):h.A4≠[]/\∀K:AV->A3->Prop,K a h'->W9 P f args h K:=by
 unfold dg at he;split at he
 ·split at he
  ·rename_i hb;split at he
   ·rename_i hm;cases he;obtain⟨rfl,rfl⟩:=hm;exact⟨by rintro hn;rw[hn]at hb;simp at hb,λK hk=>hc h _ _ hb K hk⟩
   ·cases he
  ·cases he
 ·cases he
def NP:E8->b4d (b4c AV)
 |.from_ (.cond (.c (.tuple l)) .skip .skip) 1=>some l
 |_=>none
def ko(P:Program)(f:FuncId):b4c AV->Prop
 |[]=>False
 |r::l=>plain r/\DJ P [] f l λb=>b=r
def Rb(P:Program)(g:FuncId)(x:Nat × E8 × b4c K5):Prop:=match NP x.2.1 with
 |some l=>ko P g l
 |none=>if ZZ x.2.1=true then Sl P g x.1 else T3 P g=some x
def Cr(P:Program)(T:X9):Prop:=∀g x,(g,x)∈T->Rb P g x
def known:X9->Nat->b4c AV->b4d AV
 |[],_,_=>none
 |(g,x)::T,f,args=>match NP x.2.1 with
  |none=>none
  |some l=>if g=f then(match l with
   |r::l=>if CR l args=true then some r else known T f args
   |[]=>known T f args) else known T f args
theorem OT{P:Program}:∀{T:X9}{f:Nat}{args:b4c AV}{r:AV},Cr P T->known T f args=some r->ko P f (r::args)
 |[],f,args,r,hT,h=>by cases h
 |(g,x)::T,f,args,r,hT,h=>by
  have hr:Cr P T:=λg x hm=>hT g x (by simp[hm])
  have h0:=hT g x (by simp);unfold known at h;unfold Rb at h0;split at h
  ·cases h
  ·rename_i l hl;rw[hl]at h0;split at h
   ·rename_i hg;subst hg;split at h
    ·split at h
     ·rename_i hb;cases h;rw[ER _ _ hb]at h0;exact h0
     ·exact OT hr h
    ·exact OT hr h
   ·exact OT hr h
theorem DJ.any{P:Program}{gl:b4c (Nat × b4c AV)}{f:FuncId}{l:b4c AV}{R:AV->Prop}(h:DJ P [] f l R):DJ P gl f l R:=⟨h.1,λw outer cargs ho _ hr=>h.2 w outer cargs ho (λg cells hg=>by cases hg) hr⟩
def PI:X9->Nat->b4d (Nat × E8 × b4c K5)
 |[],_=>none
 |(g,x)::r,f=>if g=f then(match NP x.2.1 with|none=>some x|some _=>PI r f) else PI r f
theorem LV:∀{T:X9}{f:Nat}{x:Nat × E8 × b4c K5},PI T f=some x->(f,x)∈T/\NP x.2.1=none
 |[],f,x,h=>by cases h
 |(g,y)::r,f,x,h=>by
  unfold PI at h;split at h
  ·rename_i hg;subst hg;split at h
   ·rename_i hn;cases h;exact⟨by simp,hn⟩
   ·exact⟨by simp[(LV h).1],(LV h).2⟩
  ·exact⟨by simp[(LV h).1],(LV h).2⟩
def Cc:Env->Env
 |[]=>[]
 |(t,a)::e=>(t,a)::drop t (Cc e)
theorem cA:∀{e:Env}{t u:Nat}{b:AV},(u,b)∈drop t e->u≠t/\(u,b)∈e
 |[],t,u,b,h=>by simp[drop]at h
 |(k,a)::e,t,u,b,h=>by
  simp only[drop]at h;split at h
  ·obtain⟨h1,h2⟩:=cA h;exact⟨h1,by simp[h2]⟩
  ·rename_i hk;rcases List.mem_cons.1 h with h|h
   ·cases h;exact⟨hk,by simp⟩
   ·obtain⟨h1,h2⟩:=cA h;exact⟨h1,by simp[h2]⟩
theorem ly:∀{e:Env}{u:Nat}{b:AV},(u,b)∈Cc e->get e u=some b
 |[],u,b,h=>by simp[Cc]at h
 |(t,a)::e,u,b,h=>by
  simp only[Cc,b38]at h;rcases h with h|h
  ·cases h;simp[get]
  ·obtain⟨h1,h2⟩:=cA h;simp only[get];rw[if_neg (λx=>h1 x.symm)];exact ly h2
theorem jc:∀{e env:Env},(∀u b,(u,b)∈e->get env u=some b)->EL e env
 |[],_,_=>trivial
 |(t,a)::e,env,h=>⟨h t a (by simp),jc λu b hu=>h u b (by simp[hu])⟩
theorem Ve(e:Env):EL (Cc e) e:=jc λ_ _ h=>ly h
def Bb(env:Env)(h:A3):b4c K5->b4d (b4c AV)
 |[]=>some []
 |.tmp t::r=>(get env t).bind λa=>(Bb env h r).map λl=>a::l
 |.cell t n::r=>(get env t).bind λp=>(Jo h n p).bind λa=>(Bb env h r).map λl=>a::l
theorem FE{env:Env}{h:A3}:∀{rs:b4c K5}{l:b4c AV}{K:b4c AV->Prop},Bb env h rs=some l->K l->Z0 env h rs K
 |[],l,K,he,hk=>by cases he;exact hk
 |.tmp t::r,l,K,he,hk=>by
  simp only[Bb,b3u,b3t]at he;obtain⟨a,h1,l',h2,rfl⟩:=he;simp only[Z0,h1,wv];exact FE (K:=λl=>K (a::l)) h2 hk
 |.cell t n::r,l,K,he,hk=>by
  simp only[Bb,b3u,b3t]at he;obtain⟨p,h1,a,h2,l',h3,rfl⟩:=he;simp only[Z0,h1,wv];exact ax (K:=λa=>Z0 env h r λl=>K (a::l)) h2 (FE (K:=λl=>K (a::l)) h3 hk)
abbrev Bf:=b4e->E8->Env->A3->b4d (Exit × Env × A3)
def fL:Exit->b4e
 |.normal|.ret=>true
 |_=>false
def Bo(T:X9)(M:Nat->b4e->b4e)(md:b4e)(ih:Bf):O0:=λf args h=>(PI T f).bind λx=>
 if ZZ x.2.1=true then dg x.1 args h else
 if args.length<=x.1 then(ih (M f md) x.2.1 (AC 0 args) h).bind λr=>if fL r.1=true then(Bb r.2.1 r.2.2 x.2.2).map λl=>(U0 l,r.2.2) else none else none
def Bh(h:A3)(a:AV):AV:=if plain (wk a)=true then wk a else M3 8 h (wk a)
def fx(h:A3)(l:b4c AV):b4c AV:=l.map λa=>M3 8 h (wk a)
def Io(T:X9)(M:Nat->b4e->b4e)(md:b4e)(ih:Bf):O0:=λf args h=>
 if(J3 h.A8&& !(M f md&& !M f false))=true then
  if B7 (args.map wk)=true then match known T f (args.map wk) with
   |some r=>some (r,h)
   |none=>(Bo T M md ih f (args.map wk) ⟨[],[],h.A8⟩).bind λr=>if plain (Bh r.2 r.1)=true then some (Bh r.2 r.1,h) else none
  else if B7 (fx h args)=true then(Bo T M md ih f (fx h args) ⟨[],[],h.A8⟩).bind λr=>if plain (Bh r.2 r.1)/\Ri (Bh r.2 r.1)=true then some (Bh r.2 r.1,h) else none
  else none
 else none
def WJ(T:X9)(M:Nat->b4e->b4e)(md:b4e)(ih:Bf):O0:=λf args h=>
 if(J3 h.A8&& !(M f md&& !M f false))=true/\B7 (args.map wk)=true then match known T f (args.map wk) with
  |some r=>some (r,h)
  |none=>(Bo T M md ih f (args.map wk) ⟨[],[],h.A8⟩).bind λr=>if plain (Bh r.2 r.1)=true then some (Bh r.2 r.1,h) else none
 else none
def Il(T:X9)(M:Nat->b4e->b4e)(md:b4e)(ih:Bf):O0:=λf args h=>if B7 args=true then(match Io T M md ih f args h with|some r=>some r|none=>Bo T M md ih f args h) else Bo T M md ih f args h
def Bk(T:X9)(M:Nat->b4e->b4e)(ih:Bf):Bf:=λmd ac env h=>
 match ac with
 |.skip=>some (.normal,env,h)
 |.region ops=>(CD md (Il T M md ih) ops env h).map λr=>(.normal,r.1,r.2)
 |.drawn ord al tl=>match (if(al.all λo=>AG o.op)=true then QV md (Io T M md ih) al env h else none) with
  |some F=>(CD md (Il T M md ih) tl F h).map λr=>(.normal,r.1,r.2)
  |none=>(Tf md (WJ T M md ih) (Io T M md ih) (Il T M md ih) (Lift.clo ord) (λF _=>F) al env h).bind λx=>(CD md (Il T M md ih) tl x.1 x.2).map λr=>(.normal,r.1,r.2)
 |.late ord al tl=>(Tf md (WJ T M md ih) (Io T M md ih) (Il T M md ih) (Lift.clo ord) (OY ord al env) al env h).bind λx=>(CD md (Il T M md ih) tl x.1 x.2).map λr=>(.normal,r.1,r.2)
 |.seq a b=>(ih md a env h).bind λr=>match r.1 with
  |.normal=>ih md b r.2.1 r.2.2
  |_=>some r
 |.cond c a b=>(c.ev env).bind λv=>match v with
  |.v (.bool true)=>ih md a env h
  |.v (.bool false)=>ih md b env h
  |_=>none
 |.block id a=>(ih md a env h).map λr=>match r.1 with
  |.exit i=>(if i=id then .normal else .exit i,r.2)
  |_=>r
 |.loop a=>(ih md a (Cc env) h).bind λr=>match r.1 with
  |.normal=>ih md (.loop a) r.2.1 r.2.2
  |_=>some r
 |.exit id=>some (.exit id,env,h)
 |.ret=>some (.ret,env,h)
 |.label _=>some (.normal,env,h)
 |.goto l=>some (.goto l,env,h)
 |.scope a=>(ih md a env h).bind λr=>match r.1 with
  |.goto l=>ih md (.from_ a l) r.2.1 r.2.2
  |_=>some r
 |.from_ a l=>(AA a l).bind λrest=>(ih md rest (Cc env) h).bind λr=>match r.1 with
  |.goto l'=>if l'=l then ih md (.from_ a l) r.2.1 r.2.2 else none
  |_=>some r
noncomputable def DT(T:X9)(M:Nat->b4e->b4e)(n:Nat):Bf:=Nat.rec (λ_ _ _ _=>none) (λ_ ih=>Bk T M ih) n
def Jb(P:Program)(ih:Bf):Prop:=∀md ac env h r,ih md ac env h=some r->∀(N:Nat) (Q:Exit->Env->A3->Prop),Q r.1 r.2.1 r.2.2->J4 P N ac Q env h
theorem fy{P:Program}{T:X9}{M:Nat->b4e->b4e}{md:b4e}(hT:Cr P T){ih:Bf}(hi:Jb P ih){f:FuncId}{args:b4c AV}{h h':A3}{a:AV}(he:Bo T M md ih f args h=some (a,h')):
  (h.A4≠[]/\∀K:AV->A3->Prop,K a h'->W9 P f args h K)\/∃N ac rs,T3 P f=some (N,ac,rs)/\args.length<=N/\∀K:AV->A3->Prop,K a h'->J4 P N ac (Gp rs K) (AC 0 args) h:=by
 simp only[Bo,b3u]at he;obtain⟨⟨N,ac,rs⟩,h1,h2⟩:=he;simp only at h2;have hok:=hT _ _ (LV h1).1;unfold Rb at hok;rw[(LV h1).2]at hok;split at h2
 ·rename_i hcc;rw[if_pos hcc]at hok;exact .inl (ug hok h2)
 rename_i hcc;rw[if_neg hcc]at hok;refine .inr ?_;split at h2
 ·rename_i hn;simp only[b3u]at h2;obtain⟨⟨e,env,h2'⟩,h3,h4⟩:=h2;simp only at h4;split at h4
  ·rename_i hend;simp only[b3t,Prod.mk.injEq]at h4;obtain⟨l,h5,rfl,rfl⟩:=h4;refine⟨N,ac,rs,hok,hn,λK hk=>hi _ _ _ _ _ h3 N _ ?_⟩;cases e<;>simp[fL]at hend
   ·exact FE (K:=λl=>K (U0 l) h2') h5 hk
   ·exact FE (K:=λl=>K (U0 l) h2') h5 hk
  ·cases h4
 ·cases h2
theorem jI{P:Program}{T:X9}{M:Nat->b4e->b4e}{md:b4e}(hT:Cr P T){ih:Bf}(hi:Jb P ih):Dg P (Bo T M md ih):=by
 intro f args h a h' he K hk;rcases fy hT hi he with h0|⟨N,ac,rs,h1,h2,h3⟩
 ·exact h0.2 K hk
 exact bM h1 h2 (h3 K hk)
theorem VH{P:Program}{T:X9}{M:Nat->b4e->b4e}{md:b4e}(hT:Cr P T){ih:Bf}(hi:Jb P ih){f:FuncId}{args:b4c AV}{gl:b4c (Nat × b4c AV)}{a:AV}{h':A3}(he:Bo T M md ih f args ⟨[],[],gl⟩=some (a,h'))(hp:plain (Bh h' a)):
  DJ P gl f args λb=>b=Bh h' a:=by
 rcases fy hT hi he with h0|⟨N,ac,rs,h1,h2,h3⟩
 ·exact absurd rfl h0.1
 unfold Bh at hp ⊢;split at hp
 ·rename_i hpl;rw[if_pos hpl];exact pq h1 h2 (h3 _ ⟨hp,rfl⟩)
 ·rename_i hpl;rw[if_neg hpl];exact tP 8 h1 h2 (h3 _ ⟨hp,rfl⟩)
theorem VW{P:Program}{T:X9}{M:Nat->b4e->b4e}{md:b4e}(hT:Cr P T){ih:Bf}(hi:Jb P ih):Dg P (Io T M md ih):=by
 intro f args h a h' he K hk;simp only[Io]at he;split at he
 ·rename_i hg0;have hg:J3 h.A8:=by simp only[b3x]at hg0;exact hg0.1
  split at he
  ·rename_i hc;split at he
   ·rename_i r hr;cases he;exact UH (OT hT hr).2.any hg rfl hc λav hav=>by subst hav;exact hk
   simp only[b3u]at he;obtain⟨⟨b,h2⟩,h3,h4⟩:=he;simp only at h4;split at h4
   ·rename_i hp;cases h4;exact UH (VH hT hi h3 hp) hg rfl hc λav hav=>by subst hav;exact hk
   ·cases h4
  ·split at he
   ·rename_i hc;simp only[b3u]at he;obtain⟨⟨b,h2⟩,h3,h4⟩:=he;simp only at h4;split at h4
    ·rename_i hp;cases h4;exact r9 8 (VH hT hi h3 hp.1) hg rfl hc (λav hav=>by subst hav;exact hp.2) λav hav=>by subst hav;exact hk
    ·cases h4
   ·cases he
 ·cases he
theorem XE{T:X9}{M:Nat->b4e->b4e}{md:b4e}{ih:Bf}:∀f args h a h',Io T M md ih f args h=some (a,h')->h'=h:=by
 intro f args h a h' he;simp only[Io]at he;split at he
 ·split at he
  ·split at he
   ·cases he;rfl
   simp only[b3u]at he;obtain⟨r,h3,h4⟩:=he;split at h4<;>cases h4
   rfl
  ·split at he
   ·simp only[b3u]at he;obtain⟨r,h3,h4⟩:=he;split at h4<;>cases h4
    rfl
   ·cases he
 ·cases he
theorem qZ{P:Program}{T:X9}{M:Nat->b4e->b4e}{md:b4e}(hT:Cr P T){ih:Bf}(hi:Jb P ih):We P (WJ T M md ih):=by
 intro f args h a h' he;simp only[WJ]at he;split at he
 ·rename_i hc0;have hc:J3 h.A8/\B7 (args.map wk):=by simp only[b3x]at hc0;exact⟨hc0.1.1,hc0.2⟩
  split at he
  ·rename_i r hr;cases he;refine⟨rfl,λh2 hg K hk=>UH (OT hT hr).2.any (by rw[hg];exact hc.1) rfl hc.2 λav hav=>by subst hav;exact hk⟩
  simp only[b3u]at he;obtain⟨⟨b,h2⟩,h3,h4⟩:=he;simp only at h4;split at h4
  ·rename_i hp;cases h4;refine⟨rfl,λh2 hg K hk=>?_⟩;have:=VH hT hi h3 hp;rw[<-hg]at this;exact UH this (by rw[hg];exact hc.1) rfl hc.2 λav hav=>by subst hav;exact hk
  ·cases h4
 ·cases he
theorem LJ{P:Program}{T:X9}{M:Nat->b4e->b4e}{md:b4e}(hT:Cr P T){ih:Bf}(hi:Jb P ih):Dg P (Il T M md ih):=by
 intro f args h a h' he K hk;simp only[Il]at he;split at he
 ·split at he
  ·rename_i r hr;cases he;exact VW hT hi _ _ _ _ _ hr K hk
  ·exact jI hT hi _ _ _ _ _ he K hk
 ·exact jI hT hi _ _ _ _ _ he K hk
theorem q9{P:Program}{N:Nat}{Q:Exit->Env->A3->Prop}{env:Env}{h:A3}{a:E8}{l:Nat}:J4 P N (.from_ a l) Q env h:=by
 intro c hc;exfalso;cases c<;>(try simp only[F0,b3u,b3t]at hc)
 case region id ops d=>
  cases d<;>simp only[F0,b3u,b3t]at hc
  ·obtain⟨_,_,hx⟩:=hc;cases hx
  ·obtain⟨_,_,_,_,hx⟩:=hc;(repeat' split at hx)<;>cases hx
 all_goals first
  |(cases hc;done)
  |(obtain⟨_,_,hx⟩:=hc;cases hx;done)
  |(obtain⟨_,_,_,_,hx⟩:=hc;cases hx;done)
  |(obtain⟨_,_,_,_,_,_,hx⟩:=hc;cases hx;done)
theorem wN{P:Program}{T:X9}{M:Nat->b4e->b4e}(hT:Cr P T)(n:Nat):Jb P (DT T M n):=by
 induction n using Nat.strongRecOn with
 |_ n IH=>
 cases n with
 |zero=>intro md ac env h r he;cases he
 |succ n=>
  have hi:=IH n (by omega);intro md ac env h r he N Q hq;have he':Bk T M (DT T M n) md ac env h=some r:=he;cases ac with
  |skip=>cases he';exact lm hq
  |exit id=>cases he';exact pr hq
  |ret=>cases he';exact lO hq
  |label l=>cases he';exact iy hq
  |goto l=>cases he';exact nN hq
  |from_ a l=>exact q9
  |scope a=>
   simp only[Bk,b3u]at he';obtain⟨⟨x,env1,h1⟩,h2,h3⟩:=he';cases x<;>simp only at h3
   case goto l=>
    cases hf:AA a l with
    |none=>
     exfalso;cases n with
     |zero=>cases h3
     |succ n=>
      have h3':Bk T M (DT T M n) md (.from_ a l) env1 h1=some r:=h3;simp only[Bk,hf,Option.bind_none]at h3';cases h3'
    |some rest=>
     refine a6j l hf (λm e h=>m<=n/\∃e',e=Cc e'/\DT T M m md (.from_ a l) e' h=some r) (hi _ _ _ _ _ h2 N _ ⟨rfl,n,Cc env1,Ve env1,Nat.le_refl _,env1,rfl,h3⟩) ?_;rintro m e h ⟨hm,e',rfl,hr⟩;cases m with
     |zero=>cases hr
     |succ m=>
      have hr':Bk T M (DT T M m) md (.from_ a l) e' h=some r:=hr;simp only[Bk,hf,Option.bind_some,b3u]at hr';obtain⟨⟨y,env2,h4⟩,h5,h6⟩:=hr';refine IH m (by omega) _ _ _ _ _ h5 N _ ?_;cases y<;>simp only at h6
      case goto l'=>
       split at h6
       ·rename_i hl;exact⟨hl,m,Cc env2,by omega,Ve env2,by omega,env2,rfl,h6⟩
       ·cases h6
      all_goals (cases h6;first|exact hq|exact hq)
   all_goals (cases h3;exact th (hi _ _ _ _ _ h2 N _ hq))
  |region ops=>
   simp only[Bk,b3t]at he';obtain⟨r1,h1,rfl⟩:=he';exact jh (MJ (LJ hT hi) h1 hq)
  |drawn ord al tl=>
   simp only[Bk]at he';split at he'
   ·rename_i F hF;split at hF
    ·simp only[b3t]at he';obtain⟨r1,h2,rfl⟩:=he';exact b0p (cK (VW hT hi) XE hF (MJ (LJ hT hi) h2 hq))
    ·cases hF
   ·simp only[b3u,b3t]at he';obtain⟨x,h1,r1,h2,rfl⟩:=he';obtain⟨n',H,hw⟩:=eu (qZ hT hi) (VW hT hi) (LJ hT hi) XE h1;exact tO hw (MJ (LJ hT hi) h2 hq)
  |late ord al tl=>
   simp only[Bk,b3u,b3t]at he';obtain⟨x,h1,r1,h2,rfl⟩:=he';obtain⟨n',H,hw⟩:=eu (qZ hT hi) (VW hT hi) (LJ hT hi) XE h1;exact r8 hw (MJ (LJ hT hi) h2 hq)
  |seq a b=>
   simp only[Bk,b3u]at he';obtain⟨⟨e,env1,h1⟩,h2,h3⟩:=he';refine wX (hi _ _ _ _ _ h2 N _ ?_);cases e<;>simp only at h3
   case normal=>exact hi _ _ _ _ _ h3 N Q hq
   all_goals (cases h3;exact hq)
  |cond c a b=>
   simp only[Bk,b3u]at he';obtain⟨v,h1,h2⟩:=he';split at h2
   ·exact oV h1 (λ_=>hi _ _ _ _ _ h2 N Q hq) (λh=>by cases h)
   ·exact oV h1 (λh=>by cases h) (λ_=>hi _ _ _ _ _ h2 N Q hq)
   ·cases h2
  |block id a=>
   simp only[Bk,b3t]at he';obtain⟨⟨e,env1,h1⟩,h2,h3⟩:=he';refine r7 (hi _ _ _ _ _ h2 N _ ?_);cases e<;>simp only at h3
   case exit i=>
    subst h3;show(if i=id then Q .normal env1 h1 else Q (.exit i) env1 h1);split
    ·rename_i hid;simp only[hid,if_true]at hq;exact hq
    ·rename_i hid;simp only[hid,if_false]at hq;exact hq
   all_goals (subst h3;exact hq)
  |loop a=>
   refine rI (λm e h=>m<=n+1/\∃e',e=Cc e'/\DT T M m md (.loop a) e' h=some r) (n+1) (Cc env) ⟨Ve env,Nat.le_refl _,env,rfl,he⟩ ?_;rintro m e h ⟨hm,e',rfl,hr⟩;cases m with
   |zero=>cases hr
   |succ m=>
    have hr':Bk T M (DT T M m) md (.loop a) e' h=some r:=hr;simp only[Bk,b3u]at hr';obtain⟨⟨x,env1,h1⟩,h2,h3⟩:=hr';refine IH m (by omega) _ _ _ _ _ h2 N _ ?_;cases x<;>simp only at h3
    case normal=>exact⟨m,Cc env1,by omega,Ve env1,by omega,env1,rfl,h3⟩
    all_goals (cases h3;exact hq)
theorem Tj{P:Program}{T:X9}{M:Nat->b4e->b4e}{md:b4e}(hT:Cr P T)(n:Nat){f:FuncId}{args:b4c AV}{gl:b4c (Nat × b4c AV)}{a:AV}(he:(Bo T M md (DT T M n) f args ⟨[],[],gl⟩).map (λr=>Bh r.2 r.1)=some a)(hp:plain a):
  DJ P gl f args λb=>b=a:=by
 simp only[b3t]at he;obtain⟨⟨b,h'⟩,h1,rfl⟩:=he;exact VH hT (wN hT n) h1 hp
def Dl(o:B9):b4e:=match o.op,o.guard with
 |.alloc _,none=>true
 |_,_=>false
def LU(o:B9):b4e:= !AG o.op&& !Dl o
theorem wK{P:Program}{env:Env}{h:A3}{K:AV->A3->Prop}{x y:B6}{k k':IntKind}{a b:Int}(hx:x.ev env=some (.v (.int k a)))(hy:y.ev env=some (.v (.int k' b)))(hk:K (.v (.int k (if b<a then b else a))) h):A P (.AJ false [x,y]) env h K:=
 TX (l:=[.v (.int k a),.v (.int k' b)]) (v:=.int k (if b<a then b else a)) (by simp[evs,hx,hy]) (by simp[CI]) hk
theorem wD{P:Program}{env:Env}{h:A3}{K:AV->A3->Prop}{x y:B6}{k k':IntKind}{a b:Int}(hx:x.ev env=some (.v (.int k a)))(hy:y.ev env=some (.v (.int k' b)))(hk:K (.v (.int k (if a<b then b else a))) h):A P (.AJ true [x,y]) env h K:=
 TX (l:=[.v (.int k a),.v (.int k' b)]) (v:=.int k (if a<b then b else a)) (by simp[evs,hx,hy]) (by simp[CI]) hk
def K1:AV->AV
 |.nil=>.sl [] .no
 |.sl els _=>.sl els .no
 |x=>x
def AI:AV->AV
 |.agg cs=>.agg (cs.map K1)
 |x=>K1 x
def nz:AV->AV
 |.tuple vs=>.tuple (vs.map AI)
 |x=>AI x
theorem pg(av:AV):(K1 av).isCell=av.isCell:=by cases av<;>rfl
theorem Rel.K1{σ:Sg}{av:AV}{x:Value}(hr:Rel σ av x):Rel σ (K1 av) x:=by
 cases av with
 |nil=>cases hr;exact .sl0 _ trivial
 |sl els tok=>
  show Rel σ (.sl els .no) x;cases hr with
  |sl0 _ _=>exact .sl0 _ trivial
  |I5 _ a cap _ _=>exact .I5 _ a cap trivial (.inl rfl)
  |sl _ _ b o cap size xs hs hcap ht hz hc hr=>exact .sl _ _ b o cap size xs hs hcap trivial (λid e h=>by cases h) hc hr
 |_=>exact hr
theorem D0.nz{σ:Sg}{cells:b4c AV}{vs:b4c Value}(hc:D0 σ cells vs):D0 σ (cells.map K1) vs:=by
 refine⟨by simp[hc.1],λi av hi=>?_⟩;simp only[b31,b3t]at hi;obtain⟨b,hb,rfl⟩:=hi;obtain⟨h1,x,h2,h3⟩:=hc.2 i b hb;exact⟨by rw[pg];exact h1,x,h2,h3.K1⟩
theorem Rel.AI{σ:Sg}{av:AV}{x:Value}(hr:Rel σ av x):Rel σ (AI av) x:=by
 unfold Lift.AI;split
 ·obtain⟨xs,rfl,hc⟩:=hr.agg_inv;exact Rel.agg_mk' hc.nz
 ·exact hr.K1
theorem Rel.nz{σ:Sg}{av:AV}{x:Value}(hr:Rel σ av x):Rel σ (nz av) x:=by
 unfold Lift.nz;split
 ·cases hr with
  |tuple vs xs hn y hx hr=>
   refine .tuple _ _ (by simp[hn]) y (λi av hi=>?_) (λi av hi=>?_)
   ·simp only[b31,b3t]at hi;obtain⟨b,hb,rfl⟩:=hi;exact hx i b hb
   ·simp only[b31,b3t]at hi;obtain⟨b,hb,rfl⟩:=hi;exact(hr i b hb).AI
 ·exact hr.AI
theorem a56(a:AV)(h:plain (K1 a)):plain (O7 a):=by
 cases a with
 |sl els tok=>cases tok<;>simpa[K1,O7,plain]using h
 |_=>first|rfl|exact h
theorem jO:∀(l:b4c AV),B7 (l.map K1)->B7 (l.map O7)=true
 |[],_=>rfl
 |a::r,h=>by
  simp only[List.map_cons,B7,b3x]at h ⊢;exact⟨a56 a h.1,jO r h.2⟩
theorem Zf(a:AV)(h:plain (AI a)):plain (Bm a):=by
 cases a with
 |agg cs=>simp only[AI,Bm,plain]at h ⊢;exact jO cs h
 |sl els tok=>cases tok<;>simpa[AI,Bm,K1,O7,plain]using h
 |_=>first|rfl|exact h
theorem gQ:∀(l:b4c AV),B7 (l.map AI)->B7 (l.map Bm)=true
 |[],_=>rfl
 |a::r,h=>by
  simp only[List.map_cons,B7,b3x]at h ⊢;exact⟨Zf a h.1,gQ r h.2⟩
theorem yX(a:AV)(h:plain (nz a)):plain (wk a):=by
 cases a with
 |tuple vs=>simp only[nz,wk,plain]at h ⊢;exact gQ vs h
 |agg cs=>exact Zf (.agg cs) h
 |sl els tok=>exact Zf (.sl els tok) h
 |_=>first|rfl|exact h
theorem a36(a:AV):K1 (O7 a)=K1 a:=by
 cases a with
 |sl els tok=>cases tok<;>rfl
 |_=>rfl
theorem iG(a:AV):AI (Bm a)=AI a:=by
 cases a with
 |agg cs=>simp only[Bm,AI,List.map_map];congr 1;exact List.map_congr_left λx _=>a36 x
 |sl els tok=>cases tok<;>rfl
 |_=>rfl
theorem sK(a:AV):nz (wk a)=nz a:=by
 cases a with
 |tuple vs=>simp only[wk,nz,List.map_map];congr 1;exact List.map_congr_left λx _=>iG x
 |agg cs=>exact iG (.agg cs)
 |sl els tok=>cases tok<;>rfl
 |_=>rfl
def A9(P:Program)(gl:b4c (Nat × b4c AV))(f:FuncId)(args:b4c AV)(r:AV):Prop:=DJ P gl f args λa=>nz a=r
theorem jH{P:Program}{f:FuncId}{args args':b4c AV}{r:AV}{h:A3}{K:AV->A3->Prop}(hf:A9 P h.A8 f args r)(hgl:J3 h.A8)(ha:args'.map nz=args)(hp:B7 args)(hk:K r h):W9 P f args' h K:=by
 refine⟨hf.1,λσ cargs hi hr=>?_⟩
 have hopen:∀b o,σ.open_ b o->b<σ.w.heap.size:=by
  rintro b o (ho|⟨n,hn⟩|⟨id,e,he,hs⟩)
  ·exact(hi.outer b o ho).1
  ·exact hi.lt hn
  ·exact hi.G2 id e b o he hs
 have hrels:P7 (bare σ.w σ.open_) args cargs.toList:=by
  refine⟨by rw[hr.1,<-ha];simp,λi av hav=>?_⟩;have hav':=hav;rw[<-ha]at hav;simp only[b31,b3t]at hav;obtain⟨b,hb,rfl⟩:=hav;obtain⟨x,h1,h2⟩:=hr.2 i b hb;exact⟨x,h1,h2.nz.down (Aw hp i _ hav') rfl λ_ _ h=>h⟩
 have hglobs:DI σ.w σ.open_ h.A8:=λg cells hg=>(hi.E6 g cells hg).down (by simp only[plain];exact List.all_eq_true.1 hgl _ hg) rfl λ_ _ h=>h
 refine(hf.2 σ.w σ.open_ cargs hopen hglobs hrels).mono λe w' hq=>?_
 obtain⟨av,x,rfl,hpast,hrel,hR⟩:=hq;exact⟨{σ with w:=w'},h,nz av,x,rfl,rfl,Le.world hpast,hi.world hpast,(hrel.nz).up (λ_=>rfl) (λ_=>rfl) rfl (λb o ho=>.inl ho),by rw[hR];exact hk⟩
def LE(rs:b4c K5)(r:AV):Exit->Env->A3->Prop
 |.normal,env,h=>Z0 env h rs λl=>plain (wk (U0 l))/\nz (wk (U0 l))=r
 |.ret,env,h=>Z0 env h rs λl=>plain (wk (U0 l))/\nz (wk (U0 l))=r
 |_,_,_=>False
section
variable {P:Program}{h h':A3}{env env':Env}{N:Nat}{Q:Exit->Env->A3->Prop}{K:Env->A3->Prop}{L:b4c B9}{k:Nat}
theorem x9{gl:b4c (Nat × b4c AV)}{f:FuncId}{ac:E8}{rs:b4c K5}(hf:T3 P f=some (N,ac,rs)){args:b4c AV}{r:AV}{e₀:Env}(hn:args.length<=N)(he:AC 0 args=e₀)(hbody:C P N ac (LE rs r) e₀ ⟨[],[],gl⟩):A9 P gl f args r:=by
 subst he;refine pq hf hn (Od hbody.out λe env h hq=>?_);cases e<;>first|exact hq|exact hq.elim
theorem zS{rs:b4c K5}{r:AV}{l:b4c AV}(hl:Bb env h rs=some l)(hr:nz (U0 l)=r)(hp:plain r):LE rs r .ret env h:=by
 refine FE hl ⟨yX _ (by rw[hr];exact hp),by rw[sK];exact hr⟩
def F1(P:Program)(o:G7)(env:Env)(h:A3)(av:AV)(h':A3):Prop:=∀K:AV->A3->Prop,K av h'->E0 P o env h K
theorem F1.q{P:Program}{o:G7}{env:Env}{h:A3}{av:AV}(hd:F1 P o env h av h):Ad P o env h av:=hd _ ⟨rfl,rfl⟩
def O9(e env:Env):Prop:=∀t a,get e t=some a->get env t=some a
theorem O9.put{e env:Env}(he:O9 e env)(d:b4d Nat)(av:AV):O9 (L3 e d av) (L3 env d av):=by
 intro t a h;rw[BY]at h ⊢;split at h
 ·rename_i hd;rw[if_pos hd];exact h
 ·rename_i hd;rw[if_neg hd];exact he t a h
theorem O9.drop{e env:Env}(he:O9 e env)(d:b4d Nat):O9 (Af e d) (Af env d):=by
 intro t a h;rw[CO]at h ⊢;split at h
 ·rename_i hd;rw[if_pos hd];exact h
 ·rename_i hd;rw[if_neg hd];exact he t a h
theorem O9.ev{e env:Env}(he:O9 e env){x:B6}{a:AV}(h:x.ev e=some a):x.ev env=some a:=by
 cases x with
 |t n=>exact he n a h
 |c b=>exact h
theorem O9.wv{e env:Env}(he:O9 e env){x:B6}{J J':AV->Prop}(hj:wv (x.ev e) J)(h:∀a,J a->J' a):wv (x.ev env) J':=by
 obtain⟨a,h1,h2⟩:=Fj hj;rw[he.ev h1];exact h a h2
theorem O9.evs{e env:Env}(he:O9 e env):∀{l:b4c B6}{r:b4c AV},evs e l=some r->evs env l=some r
 |[],r,h=>h
 |x::l,r,h=>by
  simp only[Lift.evs]at h ⊢;split at h
  ·rename_i a l' h1 h2;rw[he.ev h1,he.evs h2];exact h
  ·cases h
theorem O9.AY{e env:Env}(he:O9 e env):∀{l:b4c ((Nat × Nat) × B6)}{r:b4c ((Nat × Nat) × AV)},AY e l=some r->AY env l=some r
 |[],r,h=>h
 |(k,x)::l,r,h=>by
  simp only[Lift.AY]at h ⊢;split at h
  ·rename_i a l' h1 h2;rw[he.ev h1,he.AY h2];exact h
  ·cases h
theorem O9.J9{e env:Env}(he:O9 e env){x:b4d B6}{r:b4d AV}(h:J9 e x=some r):J9 env x=some r:=by
 cases x with
 |none=>exact h
 |some x=>
  simp only[Lift.J9]at h ⊢;split at h
  ·rename_i a h1;rw[he.ev h1];exact h
  ·cases h
theorem WT{P:Program}{o:G7}{e env:Env}(he:O9 e env){h:A3}{K:AV->A3->Prop}(ha:E0 P o e h K):E0 P o env h K:=by
 cases o<;>simp only[E0]at ha ⊢
 case mv=>exact he.wv ha λ_ h=>h
 case pick=>
  refine he.wv ha λc hc=>?_
  unfold GI at hc ⊢;split at hc
  ·exact⟨λht=>he.wv (hc.1 ht) λ_ h=>h,λht=>he.wv (hc.2 ht) λ_ h=>h⟩
  ·exact hc.elim
 case alloc=>exact ha
 case box=>exact he.wv ha λ_ h=>h
 case build=>
  split at ha
  ·rename_i ps h1;rw[he.AY h1];exact ha
  ·exact ha.elim
 case Et=>
  split at ha
  ·rename_i ps h1;rw[he.AY h1];exact ha
  ·exact ha.elim
 case load=>exact he.wv ha λ_ h=>h
 case store=>exact he.wv ha λ_ h=>he.wv h λ_ h=>h
 case nilCheck=>exact he.wv ha λ_ h=>h
 case bin=>exact he.wv ha λ_ h=>he.wv h λ_ h=>h
 case eq=>exact he.wv ha λ_ h=>he.wv h λ_ h=>h
 case un=>exact he.wv ha λ_ h=>h
 case conv=>exact he.wv ha λ_ h=>h
 case iface=>exact he.wv ha λ_ h=>h
 case func=>
  split at ha
  ·rename_i f c h1 h2;rw[he.evs h1,he.evs h2];exact ha
  ·exact ha.elim
 case CM=>
  refine he.wv ha λx hx=>?_
  split at hx
  ·rename_i lo hi h1 h2;rw[he.J9 h1,he.J9 h2];exact hx
  ·exact hx.elim
 case CL=>
  refine he.wv ha λx hx=>?_
  split at hx
  ·rename_i lo hi mx h1 h2 h3;rw[he.J9 h1,he.J9 h2,he.J9 h3];exact hx
  ·exact hx.elim
 case fieldAddr=>exact he.wv ha λ_ h=>h
 case field=>exact he.wv ha λ_ h=>h
 case Cl=>exact he.wv ha λ_ h=>he.wv h λ_ h=>h
 case Ir=>exact he.wv ha λ_ h=>he.wv h λ_ h=>h
 case Bn=>exact he.wv ha λ_ h=>he.wv h λ_ h=>h
 case Er=>exact he.wv ha λ_ h=>he.wv h λ_ h=>h
 case AL=>exact he.wv ha λ_ h=>h
 case extract=>exact he.wv ha λ_ h=>h
 case len=>exact he.wv ha λ_ h=>h
 case append=>exact he.wv ha λ_ h=>he.wv h λ_ h=>h
 case In=>exact ha
 case lookup=>exact he.wv ha λ_ h=>he.wv h λ_ h=>h
 case mapset=>exact he.wv ha λ_ h=>he.wv h λ_ h=>he.wv h λ_ h=>h
 case Iz=>exact ha
 case Iw=>exact he.wv ha λ_ h=>h
 case Co=>exact he.wv ha λ_ h=>he.wv h λ_ h=>h
 case Fu=>exact he.wv ha λ_ h=>he.wv h λ_ h=>h
 case DW=>exact he.wv ha λ_ h=>h
 case cap0=>exact he.wv ha λ_ h=>h
 case Iy=>exact he.wv ha λ_ h=>he.wv h λ_ h=>h
 case clear=>exact he.wv ha λ_ h=>h
 case call f args=>
  refine he.wv ha λf hf=>?_
  unfold Dt at hf ⊢;split at hf
  ·rename_i g first captured l h1;rw[he.evs h1];exact hf
  ·rename_i tab t x l h1;rw[he.evs h1];exact hf
  ·exact hf.elim
 case bytes=>exact he.wv ha λ_ h=>h
 case AJ=>
  split at ha
  ·rename_i l h1;rw[he.evs h1];exact ha
  ·exact ha.elim
 case make=>exact he.wv ha λ_ h=>he.wv h λ_ h=>h
 case range=>exact he.wv ha λ_ h=>h
 case next=>exact he.wv ha λ_ h=>h
theorem F1.less{P:Program}{o:G7}{e env:Env}{h h':A3}{av:AV}(hd:F1 P o e h av h')(he:O9 e env):F1 P o env h av h':=λK hk=>WT he (hd K hk)
theorem O9.guard{e env:Env}(he:O9 e env){g:b4d (Nat × b4e)}{b:b4e}(h:K7 e g=some b):K7 env g=some b:=by
 cases g with
 |none=>exact h
 |some p=>
  obtain⟨t,want⟩:=p;simp only[K7,b3u]at h ⊢;obtain⟨v,h1,h2⟩:=h;exact⟨v,he t v h1,h2⟩
def vd(P:Program):b4c B9->Env->A3->(Env->A3->Prop)->Prop
 |[],env,h,K=>K env h
 |o::r,env,h,K=>(K7 env o.guard=some false/\vd P r (Af env o.dst) h K)\/(K7 env o.guard=some true/\∃av h',F1 P o.op env h av h'/\vd P r (L3 env o.dst av) h' K)\/
  (K7 env o.guard=some true/\∃S:AV->A3->Prop,(∀K':AV->A3->Prop,(∀av h',S av h'->K' av h')->E0 P o.op env h K')/\∀av h',S av h'->vd P r (L3 env o.dst av) h' K)
theorem MO{P:Program}:∀{l:b4c B9}{env:Env}{h:A3}{K:Env->A3->Prop},vd P l env h K->AP P l env h K
 |[],env,h,K,hv=>hv
 |o::r,env,h,K,hv=>by
  rcases hv with⟨hg,hv⟩|⟨hg,av,h',hd,hv⟩|⟨hg,S,hd,hv⟩
  ·exact NL (b:=false) hg (by simpa using MO hv)
  ·refine NL (b:=true) hg ?_;simp only[if_true];exact hd _ (MO hv)
  ·refine NL (b:=true) hg ?_;simp only[if_true];exact hd _ λav h' hav=>MO (hv av h' hav)
def DF(K:Env->A3->Prop):Prop:=∀e env h,O9 e env->K e h->K env h
theorem Jr{P:Program}{K:Env->A3->Prop}(hK:DF K):∀{l:b4c B9}{e env:Env}{h:A3},O9 e env->vd P l e h K->vd P l env h K
 |[],e,env,h,he,hv=>hK e env h he hv
 |o::r,e,env,h,he,hv=>by
  rcases hv with⟨hg,hv⟩|⟨hg,av,h',hd,hv⟩|⟨hg,S,hd,hv⟩
  ·exact .inl ⟨he.guard hg,Jr hK (he.drop _) hv⟩
  ·exact .inr (.inl ⟨he.guard hg,av,h',hd.less he,Jr hK (he.put _ _) hv⟩)
  ·exact .inr (.inr ⟨he.guard hg,S,λK' hK'=>WT he (hd K' hK'),λav h' hav=>Jr hK (he.put _ _) (hv av h' hav)⟩)
def Vp(P:Program)(L:b4c B9)(k:Nat)(env:Env)(h:A3)(K:Env->A3->Prop):Prop:=vd P (L.drop k) env h K
def Kj:O0:=λ_ _ _=>none
theorem ZR{P:Program}:Dg P Kj:=λf args h a h' he=>by cases he
theorem YO{b:b4c B9}:∀{a:b4c B9}{env:Env}{h:A3}{r:Env × A3}{K:Env->A3->Prop},CD false Kj a env h=some r->vd P b r.1 r.2 K->vd P (a++b) env h K
 |[],env,h,r,K,he,hk=>by cases he;exact hk
 |o::l,env,h,r,K,he,hk=>by
  simp only[CD,b3u]at he;obtain⟨g,h1,h2⟩:=he;cases g with
  |true=>
   simp only[b3u]at h2;obtain⟨⟨a,h'⟩,h3,h4⟩:=h2;exact .inr (.inl ⟨h1,a,h',λK hk=>FR ZR h3 hk,YO h4 hk⟩)
  |false=>exact .inl ⟨h1,YO h2 hk⟩
theorem a7m(hk:Vp P L 0 env h K):V P L env h K:=⟨MO hk⟩
theorem a8y(m:Nat)(env':Env)(h':A3)(he:CD false Kj ((L.drop k).take m) env h=some (env',h')){k':Nat}(hk':k+m=k')(hk:Vp P L k' env' h' K):Vp P L k env h K:=by
 subst hk';show vd P (L.drop k) env h K;rw[<-List.take_append_drop m (L.drop k),List.drop_drop];exact YO he hk
theorem m7{o:B9}(hl:L[k]? =some o)(hg:K7 env o.guard=some true){av:AV}{env1:Env}(ha:F1 P o.op env h av h'){k':Nat}(hk':k+1=k')(he:L3 env o.dst av=env1)(hk:Vp P L k' env1 h' K):Vp P L k env h K:=by
 subst hk' he;obtain⟨hlt,rfl⟩:=List.getElem?_eq_some_iff.1 hl;show vd P (L.drop k) env h K;rw[b32 hlt];exact .inr (.inl ⟨hg,av,h',ha,hk⟩)
theorem xP{o:B9}(hl:L[k]? =some o)(hg:K7 env o.guard=some true)(S:AV->Prop)(ha:∀K':AV->A3->Prop,(∀av,S av->K' av h)->E0 P o.op env h K')(hk:∀av,S av->Vp P L (k+1) (L3 env o.dst av) h K):Vp P L k env h K:=by
 obtain⟨hlt,rfl⟩:=List.getElem?_eq_some_iff.1 hl;show vd P (L.drop k) env h K;rw[b32 hlt];exact .inr (.inr ⟨hg,λav h'=>S av/\h'=h,λK' hK'=>ha K' λav hav=>hK' av h ⟨hav,rfl⟩,λav h' hav=>by obtain⟨h1,h2⟩:=hav;rw[h2];exact hk av h1⟩)
theorem b0b(hl:L.drop k=[])(hk:K env h):Vp P L k env h K:=by
 show vd P (L.drop k) env h K;rw[hl];exact hk
theorem Ru{l:b4c B9}(hK:DF K):DF λF h'=>vd P l F h' K:=λe env h he hv=>Jr hK he hv
theorem tK{g:FuncId}{f:B6}{args:b4c B6}{l l':b4c AV}{r:AV}(hf:f.ev env=some (.clo (.func g) [] []))(ha:evs env args=some l)(hl:l.map nz=l')(hgl:J3 h.A8)(hp:B7 l'=true)(hc:A9 P h.A8 g l' r):F1 P (.call f args) env h r h:=
 λK hk=>(Jk hf ha (jH hc hgl hl hp hk)).out
theorem sO{g:FuncId}{f:B6}{args:b4c B6}{l l' first captured:b4c AV}{r:AV}(hf:f.ev env=some (.clo (.func g) first captured))(ha:evs env args=some l)(hl:(first++l++captured).map nz=l')(hgl:J3 h.A8)(hp:B7 l'=true)(hc:A9 P h.A8 g l' r):F1 P (.call f args) env h r h:=
 λK hk=>(a69 hf ha (jH hc hgl hl hp hk)).out
end
def JE(P:Program)(c:Code)(Q:Exit->Act->World->Prop)(a:Act)(w:World):Prop:=∀b k cs,∃e a' w',Q e a' w'/\Arrives P (lone (b.at a (.code c::.inLoop c::k)) cs w) b k cs e a' w'
theorem a9j{P:Program}{Q:Exit->Act->World->Prop}{a:Act}{w:World}{c:Code}(hx:c.wp P (Exit.then (JE P c Q) Q) a w):JE P c Q a w:=by
 intro b k cs;obtain⟨e,a₁,w₁,hq,harr⟩:=hx b (.inLoop c::k) cs;cases e with
 |normal=>
  obtain⟨e₂,a₂,w₂,hq₂,harr₂⟩:=hq b k cs;exact⟨e₂,a₂,w₂,hq₂,.of_steps (Steps.trans harr (.one step_inLoop)) harr₂⟩
 |exit id=>exact⟨_,a₁,w₁,hq,.pass (x:=.inLoop c) rfl (λ_ _=>.inl (by simp)) harr⟩
 |goto l=>exact⟨_,a₁,w₁,hq,.pass (x:=.inLoop c) rfl (λ_ _=>.inl (by simp)) harr⟩
 |ret=>exact⟨_,a₁,w₁,hq,.pass (x:=.inLoop c) rfl (λ_ _=>.inl (by simp)) harr⟩
 |panic ch=>exact⟨_,a₁,w₁,hq,.pass (x:=.inLoop c) rfl (λ_ _=>.inl (by simp)) harr⟩
 |outgrown=>exact⟨_,a₁,w₁,hq,.pass (x:=.inLoop c) rfl (λ_ _=>.inl (by simp)) harr⟩
theorem a5i{P:Program}{Q:Exit->Act->World->Prop}{a:Act}{w:World}{c:Code}(hx:JE P c Q a w):(Code.loop c).wp P Q a w:=by
 intro b k cs;obtain⟨e,a',w',hq,harr⟩:=hx b k cs;exact⟨e,a',w',hq,.of_steps (.one step_loop) harr⟩
theorem JE.mono{P:Program}{Q Q':Exit->Act->World->Prop}{a:Act}{w:World}{c:Code}(hq:∀e a w,Q e a w->Q' e a w)(hx:JE P c Q a w):JE P c Q' a w:=by
 intro b k cs;obtain⟨e,a',w',h1,harr⟩:=hx b k cs;exact⟨e,a',w',hq _ _ _ h1,harr⟩
section
variable {P:Program}{h h':A3}{env env':Env}{N:Nat}{Q:Exit->Env->A3->Prop}{x:E8}
end
section
variable {P:Program}{h:A3}{env:Env}{α:Type}
def bI(s:b4b):b4c Int:=s.data.toList.map λb=>(b.toNat:Int)
theorem xX{x:B6}{s:b4b}(hx:x.ev env=some (.v (.string s))):F1 P (.len true x) env h (.v (.int .i64 s.size)) h:=λK hk=>by
 simp only[E0,hx,wv,LQ];exact hk
theorem uL{x:B6}{l:b4c α}{e:α->b4c AV}{tok:Tok}(hx:x.ev env=some (.sl (List.map e l) tok)):F1 P (.len false x) env h (.v (.int .i64 l.length)) h:=λK hk=>by
 simp only[E0,hx,wv,LQ,List.length_map];exact hk
theorem a5l{size:Nat}{x i:B6}{l:b4c α}{e' e:α->b4c AV}{tok:Tok}{k:IntKind}{n:Int}{y:α}(hx:x.ev env=some (.sl (List.map e' l) tok))(hi:i.ev env=some (.v (.int k n)))(h0:0<=n)(hy:l[n.toNat]? =some y)(he:e' y=e y)(hs:(e y).length=size):F1 P (.Bn size x i) env h (.D3 (e y) 0) h:=λK hk=>by
 simp only[E0,hx,hi,wv,Ky];obtain⟨hlt,rfl⟩:=List.getElem?_eq_some_iff.1 hy
 have hg:(List.map e' l).getD n.toNat []=e l[n.toNat]:=by
  rw[List.getD_eq_getElem?_getD,b31,hy];simpa using he
 rw[hg,List.length_map];exact⟨⟨h0,by omega⟩,hs,hk⟩
theorem uC{x i:B6}{s:b4b}{k:IntKind}{n:Int}(hx:x.ev env=some (.v (.string s)))(hi:i.ev env=some (.v (.int k n)))(h0:0<=n/\n<(s.size:Int)):F1 P (.Cl x i) env h (.v (.int .u8 (E2 s n.toNat))) h:=λK hk=>by
 simp only[E0,hx,hi,wv,No];exact⟨h0,hk⟩
theorem sZ{x:B6}{lo hi:b4d B6}{s:b4b}{lv hv:b4d AV}{l u:Int}(hx:x.ev env=some (.v (.string s)))(h1:J9 env lo=some lv)(h2:J9 env hi=some hv)(h3:K2 0 lv=some l)(h4:K2 s.size hv=some u)(h0:0<=l/\l<=u/\u<=(s.size:Int)):F1 P (.CM x lo hi) env h (.v (.string (s.extract l.toNat u.toNat))) h:=λK hk=>by
 simp only[E0,hx,h1,h2,wv,MB,h3,h4];exact⟨h0,hk⟩
theorem rz{e':α->b4c AV}{l:b4c α}{hv:b4d AV}:K2 (List.map e' l).length hv=K2 l.length hv:=by rw[List.length_map]
theorem uD{size:Nat}{x:B6}{lo hi:b4d B6}{l:b4c α}{e':α->b4c AV}{tok:Tok}{lv hv:b4d AV}{a u:Int}(hx:x.ev env=some (.sl (List.map e' l) tok))(h1:J9 env lo=some lv)(h2:J9 env hi=some hv)(h3:K2 0 lv=some a)(h4:K2 l.length hv=some u)(h0:0<=a/\a<=u/\u<=(l.length:Int))(hs:∀y,(e' y).length=size):F1 P (.CL size x lo hi none) env h (.sl (List.map e' ((l.take u.toNat).drop a.toNat)) (match lv,hv with|none,none=>tok|_,_=>.no)) h:=λK hk=>by
 have h5:J9 env none=some none:=rfl;simp only[E0,hx,h1,h2,h5,wv,DC,h3,rz,h4,List.length_map];refine⟨h0,λel hel=>?_,?_⟩
 ·obtain⟨y,_,rfl⟩:=List.mem_map.1 hel;exact hs y
 ·rw[<-List.map_take,<-List.map_drop];cases lv<;>cases hv<;>exact hk
theorem II{op:BinOp}{x y:B6}{a b r:Value}{c:Prop}(hx:x.ev env=some (.v a))(hy:y.ev env=some (.v b))(hp:Ac op a b=some (c,r))(hc:c):F1 P (.bin op x y) env h (.v r) h:=λK hk=>by
 simp only[E0,hx,hy,wv,Lh,hp];exact⟨hc,hk⟩
theorem b1o{x y:B6}{a b:b4b}(hx:x.ev env=some (.v (.string a)))(hy:y.ev env=some (.v (.string b)))(h0:((a.size+b.size:Nat):Int)<=9223372036854775807):F1 P (.bin .add x y) env h (.v (.string (a++b))) h:=II hx hy rfl (by omega)
theorem kT{a b:b4b}:(a.toList==b.toList)=decide (a=b):=by
 rw[ByteArray.toList_eq,ByteArray.toList_eq]
 by_cases h:a=b
 ·subst h;simp
 ·rw[decide_eq_false h,beq_eq_false_iff_ne];intro he;exact h (ByteArray.ext (Array.ext' he))
theorem tm{x y:B6}{a b:b4b}(hx:x.ev env=some (.v (.string a)))(hy:y.ev env=some (.v (.string b))):F1 P (.bin .eql x y) env h (.v (.bool (decide (a=b)))) h:=by rw[<-kT];exact II hx hy (c:=True) rfl trivial
theorem a2d{x y:B6}{a b:b4b}(hx:x.ev env=some (.v (.string a)))(hy:y.ev env=some (.v (.string b))):F1 P (.bin .neq x y) env h (.v (.bool (!decide (a=b)))) h:=by rw[<-kT];exact II hx hy (c:=True) rfl trivial
theorem a62{c x y:B6}{t a b:b4e}(hc:c.ev env=some (.v (.bool t)))(hx:x.ev env=some (.v (.bool a)))(hy:y.ev env=some (.v (.bool b))):F1 P (.pick c x y) env h (.v (.bool (bif t then a else b))) h:=λK hk=>by
 simp only[E0,hc,hx,hy,wv,GI];cases t<;>simp_all
theorem a1y{c x y:B6}{t:b4e}{k:IntKind}{a b:Int}(hc:c.ev env=some (.v (.bool t)))(hx:x.ev env=some (.v (.int k a)))(hy:y.ev env=some (.v (.int k b))):F1 P (.pick c x y) env h (.v (.int k (bif t then a else b))) h:=λK hk=>by
 simp only[E0,hc,hx,hy,wv,GI];cases t<;>simp_all
theorem wC{c x y:B6}{t:b4e}{a b:b4b}(hc:c.ev env=some (.v (.bool t)))(hx:x.ev env=some (.v (.string a)))(hy:y.ev env=some (.v (.string b))):F1 P (.pick c x y) env h (.v (.string (bif t then a else b))) h:=λK hk=>by
 simp only[E0,hc,hx,hy,wv,GI];cases t<;>simp_all
theorem a3b{x y:B6}{k k':IntKind}{a b:Int}(hx:x.ev env=some (.v (.int k a)))(hy:y.ev env=some (.v (.int k' b))):F1 P (.AJ false [x,y]) env h (.v (.int k (min a b))) h:=λK hk=>
 (wK hx hy (by rw[show(if b<a then b else a)=min a b by omega];exact hk)).out
theorem zJ{x y:B6}{k k':IntKind}{a b:Int}(hx:x.ev env=some (.v (.int k a)))(hy:y.ev env=some (.v (.int k' b))):F1 P (.AJ true [x,y]) env h (.v (.int k (max a b))) h:=λK hk=>
 (wD hx hy (by rw[show(if a<b then b else a)=max a b by omega];exact hk)).out
theorem d9{e0:TypeId}{size byt id:Nat}{x y:B6}{Y:AV}{e':α->b4c AV}{l m:b4c α}(hx:x.ev env=some (.sl (List.map e' l) (.own id)))(hy:y.ev env=some Y)(hm:Q6 h size Y=some (List.map e' m))(hb:h.A6[id]? =some (l.length,size))(hs:∀y,(e' y).length=size)(h0:(l.length+m.length)*byt<=140737488355328):F1 P (.append e0 size byt x y) env h (.sl (List.map e' (l++m)) (.own id)) ⟨h.A4,h.A6.set id ((l++m).length,size),h.A8⟩:=λK hk=>by
 simp only[E0,hx,hy,wv];refine .inl ?_;simp only[EW,hm,List.length_map];refine⟨λel hel=>by obtain⟨y,_,rfl⟩:=List.mem_map.1 hel;exact hs y,λel hel=>by obtain⟨y,_,rfl⟩:=List.mem_map.1 hel;exact hs y,hb,h0,?_⟩;rw[<-List.map_append,<-b39];exact hk
theorem b0o{e0:TypeId}{size byt:Nat}{x y:B6}{X Y:AV}{e':α->b4c AV}{l m:b4c α}{els:b4c (b4c AV)}(hx:x.ev env=some (.sl els .full))(hy:y.ev env=some Y)(hX:els=List.map e' l)(hm:Q6 h size Y=some (List.map e' m))(hs:∀y,(e' y).length=size)(h0:(l.length+m.length)*byt<=140737488355328)(hm0:m≠[]):F1 P (.append e0 size byt x y) env h (.sl (List.map e' (l++m)) (.own h.A6.length)) ⟨h.A4,h.A6++[((l++m).length,size)],h.A8⟩:=λK hk=>by
 subst hX;simp only[E0,hx,hy,wv];refine .inl ?_;simp only[EW,hm,List.length_map];refine⟨λel hel=>by obtain⟨y,_,rfl⟩:=List.mem_map.1 hel;exact hs y,λel hel=>by obtain⟨y,_,rfl⟩:=List.mem_map.1 hel;exact hs y,h0,λh=>absurd (List.map_eq_nil_iff.1 h) hm0,λ_=>?_⟩;rw[<-List.map_append,<-b39];exact hk
theorem a3h{x:B6}{l:b4c Int}{t:b4b}{tok:Tok}(hx:x.ev env=some (.sl (List.map (λn=>[AV.v (.int .u8 n)]) l) tok))(hl:l=bI t):F1 P (.conv .str x) env h (.v (.string t)) h:=λK hk=>by
 subst hl;simp only[E0,hx,wv,QD];refine⟨t.data.toList,by simp only[P0,bI,List.map_map];rfl,?_⟩
 have:(⟨t.data.toList.toArray⟩:b4b)=t:=by
  apply ByteArray.ext;apply Array.ext';simp
 rw[this];exact hk
end
def vs(P:Program)(I:A3->Prop):b4e->b4c B9->Env->A3->(Env->A3->Prop)->Prop
 |_,[],env,h,K=>K env h
 |b,o::r,env,h,K=>
  (K7 env o.guard=some false/\vs P I b r (Af env o.dst) h K)\/
  (K7 env o.guard=some true/\AG o.op/\∃av,(∀h2,I h2->Ad P o.op env h2 av)/\vs P I b r (L3 env o.dst av) h K)\/
  (K7 env o.guard=some true/\AG o.op=false/\Dl o=false/\∃av h',F1 P o.op env h av h'/\I h'/\vs P I false r (L3 env o.dst av) h' K)\/
  (b=true/\∃cells,o.op=.alloc cells/\o.guard=none/\vs P I b r (L3 env o.dst (.ptr h.A4.length 0)) ⟨h.A4++[some cells],h.A6,h.A8⟩ K)
def Pa(P:Program)(I:A3->Prop)(F:Env)(hs:b4c A3)(j:Nat)(o:B9):b4d Nat->Prop
 |some n=>∃av h1 h2,hs[n - j]? =some h1/\hs[n - j+1]? =some h2/\E0 P o.op F h1 (λa b=>a=av/\b=h2)/\∀d,o.dst=some d->get F d=some av
 |none=>∃av,(∀h2,I h2->Ad P o.op F h2 av)/\∀d,o.dst=some d->get F d=some av
def GF(F:Env)(D S:Prop):b4d (Nat × b4e)->Prop
 |none=>D
 |some (t,want)=>(∃b,get F t=some (.v (.bool b))/\(b=want->D)/\(b≠want->S))\/(get F t=some (.tuple [])/\S)
def Nx(P:Program)(I:A3->Prop)(F:Env)(hs:b4c A3)(j:Nat)(o:B9)(n:b4d Nat):Prop:=
 GF F (Pa P I F hs j o n) (n=none/\∀d,o.dst=some d->get F d=some (.tuple [])) o.guard
structure bG(P:Program)(I:A3->Prop)(l:List B9)(env F:Env)(cur h':A3)(i0:Nat)(az:List (Nat × List AV))(hs:List A3)(fl:List (Option Nat))(j:Nat):Prop where
 len:fl.length=l.length
 first:hs[0]? =some ⟨cur.A4++az.map (λp=>some p.2),cur.A6,cur.A8⟩
 last:∃n,hs.length=n+1/\hs[n]? =some h'
 bound:∀i n:Nat,fl[i]? =some (some n)->j<=n/\n+1<j+hs.length
 mono:∀i k a b:Nat,i<k->fl[i]? =some (some a)->fl[k]? =some (some b)->a<b
 onto:∀n:Nat,j<=n->n+1<j+hs.length->∃i:Nat,fl[i]? =some (some n)
 keep:∀t,H0 t l=false->get F t=get env t
 pos:∀(q:Nat) (p:Nat × List AV),az[q]? =some p->∃i o,p.1=i0+i/\l[i]? =some o/\o.op=.alloc p.2/\o.guard=none/\fl[i]? =some none/\∀d,o.dst=some d->get F d=some (.ptr (cur.A4.length+q) 0)
 WM:∀(q r:Nat) (p s:Nat × List AV),q<r->az[q]? =some p->az[r]? =some s->p.1<s.1
 inv:∀(m:Nat) hm,0<m->hs[m]? =some hm->I hm
 EB:∀(i n:Nat) (o:B9),fl[i]? =some (some n)->l[i]? =some o->AG o.op=false/\Dl o=false
 fact:∀(i:Nat) (o:B9) (n:Option Nat),l[i]? =some o->fl[i]? =some n->(∃(q:Nat) (p:Nat × List AV),az[q]? =some p/\p.1=i0+i)\/Nx P I F hs j o n
theorem qW{F env:Env}{g:b4d (Nat × b4e)}{D S:Prop}(hg:K7 env g=some true)(hl:∀t w,g=some (t,w)->get F t=get env t)(hD:D):GF F D S g:=by
 cases g with
 |none=>exact hD
 |some p=>
  obtain⟨t,want⟩:=p;simp only[K7,b3u]at hg;obtain⟨v,h1,h2⟩:=hg;split at h2
  ·rename_i b;simp only[b4a,beq_iff_eq]at h2;exact .inl ⟨b,by rw[hl t want rfl];exact h1,λ_=>hD,λhn=>absurd h2 hn⟩
  ·cases h2
  ·cases h2
theorem b0n{F env:Env}{g:b4d (Nat × b4e)}{D S:Prop}(hg:K7 env g=some false)(hl:∀t w,g=some (t,w)->get F t=get env t)(hS:S):GF F D S g:=by
 cases g with
 |none=>simp[K7]at hg
 |some p=>
  obtain⟨t,want⟩:=p;simp only[K7,b3u]at hg;obtain⟨v,h1,h2⟩:=hg;split at h2
  ·rename_i b;simp only[b4a,beq_eq_false_iff_ne]at h2;exact .inl ⟨b,by rw[hl t want rfl];exact h1,λh=>absurd h h2,λ_=>hS⟩
  ·exact .inr ⟨by rw[hl t want rfl];exact h1,hS⟩
  ·cases h2
theorem MY{P:Program}{I:A3->Prop}:∀{l:b4c B9}{b:b4e}{env:Env}{cur:A3}{i0 j:Nat}{K:Env->A3->Prop},BB l->vs P I b l env cur K->∃F az hs fl h',bG P I l env F cur h' i0 az hs fl j/\K F h'/\(b=false->az=[])
 |[],b,env,cur,i0,j,K,_,hk=>⟨env,[],[cur],[],cur,⟨rfl,by simp,⟨0,rfl,rfl⟩,λi n hi=>by simp at hi,λi k a b _ hi=>by simp at hi,λn h1 h2=>by simp at h2;omega,λ_ _=>rfl,λq p hq=>by simp at hq,λq r p s _ hq=>by simp at hq,λm hm h0 h1=>by cases m<;>simp at h0 h1,λi n o hi=>by simp at hi,λi o n hi=>by simp at hi⟩,hk,λ_=>rfl⟩
 |o::r,b,env,cur,i0,j,K,hok,hv=>by
  have hok0:=hok;simp only[BB,b3x,b34]at hok;obtain⟨⟨hlook,hdst⟩,hokr⟩:=hok
  have hwr:∀t,H0 t (o::r)=false->o.dst≠some t/\H0 t r=false:=by
   intro t ht;simp only[H0,List.any_cons,Bool.or_eq_false_iff]at ht ⊢;exact⟨by simpa using ht.1,ht.2⟩
  have hd:∀d,o.dst=some d->H0 d r=false:=by
   intro d hd;rw[hd]at hdst;simpa using hdst
  have hl:∀(F:Env),(∀t,H0 t (o::r)=false->get F t=get env t)->∀t∈o.looks,get F t=get env t:=λF hF t ht=>hF t (by simpa using hlook t ht)
  have hcong:∀(F:Env),(∀t,H0 t (o::r)=false->get F t=get env t)->∀(h:A3) (K:AV->A3->Prop),E0 P o.op env h K->E0 P o.op F h K:=by
   intro F hF h K hq;rw[<-OZ (e1:=env) (e2:=F)]
   ·exact hq
   ·intro x hx;cases x with
    |c a=>rfl
    |t n=>
     refine(hl F hF n ?_).symm;simp only[B9.looks,List.mem_append,List.mem_filterMap];exact .inl ⟨.t n,hx,rfl⟩
  have hgl:∀(F:Env),(∀t,H0 t (o::r)=false->get F t=get env t)->∀t w,o.guard=some (t,w)->get F t=get env t:=λF hF t w hg=>hl F hF t (by simp[B9.looks,hg])
  have still:∀(env' F:Env) (az:b4c (Nat × b4c AV)) (hs:b4c A3) (fl:b4c (b4d Nat)) (h':A3),bG P I r env' F cur h' (i0+1) az hs fl j->(∀t,o.dst≠some t->get env' t=get env t)->((∀t,H0 t (o::r)=false->get F t=get env t)->Nx P I F hs j o none)->bG P I (o::r) env F cur h' i0 az hs (none::fl) j:=by
   intro env' F az hs fl h' hp henv hf
   have hF:∀t,H0 t (o::r)=false->get F t=get env t:=λt ht=>by
    obtain⟨h1,h2⟩:=hwr t ht;rw[hp.keep t h2,henv t h1]
   refine⟨by simp[hp.len],hp.first,hp.last,λi n hi=>?_,λi k a b hik hi hk=>?_,λn h1 h2=>?_,hF,λq p hqp=>?_,hp.WM,hp.inv,λi n o' hi ho=>?_,λi o' n hi hn=>?_⟩
   ·cases i with
    |zero=>simp at hi
    |succ i=>exact hp.bound i n (by simpa using hi)
   ·cases i with
    |zero=>simp at hi
    |succ i=>cases k with
     |zero=>omega
     |succ k=>exact hp.mono i k a b (by omega) (by simpa using hi) (by simpa using hk)
   ·obtain⟨i,hi⟩:=hp.onto n h1 h2;exact⟨i+1,by simpa using hi⟩
   ·obtain⟨i,o',e1,e2,e3⟩:=hp.pos q p hqp;exact⟨i+1,o',by omega,by simpa using e2,by simpa using e3⟩
   ·cases i with
    |zero=>simp at hi
    |succ i=>exact hp.EB i n o' (by simpa using hi) (by simpa using ho)
   ·cases i with
    |zero=>simp at hi hn;subst hi hn;exact .inr (hf hF)
    |succ i=>
     rcases hp.fact i o' n (by simpa using hi) (by simpa using hn) with⟨q,p,e1,e2⟩|h
     ·exact .inl ⟨q,p,e1,by omega⟩
     ·exact .inr h
  have hputF:∀(av:AV) (F:Env),(∀t,H0 t r=false->get F t=get (L3 env o.dst av) t)->∀d,o.dst=some d->get F d=some av:=λav F hF d hd'=>by rw[hF d (hd d hd'),BY,if_pos hd']
  rcases hv with⟨hg,hv⟩|⟨hg,hq,av,ha,hv⟩|⟨hg,hq,hnew,av,h1,ha,hI,hv⟩|⟨hb,cells,hop,hgd,hv⟩
  ·obtain⟨F,az,hs,fl,h',hp,hk,has⟩:=MY (i0:=i0+1) (j:=j) hokr hv;refine⟨F,az,hs,none::fl,h',still _ F az hs fl h' hp (λt ht=>by rw[CO,if_neg ht]) λhF=>?_,hk,has⟩;exact b0n hg (hgl F hF) ⟨rfl,λd hd'=>by rw[hp.keep d (hd d hd'),CO,if_pos hd']⟩
  ·obtain⟨F,az,hs,fl,h',hp,hk,has⟩:=MY (i0:=i0+1) (j:=j) hokr hv;refine⟨F,az,hs,none::fl,h',still _ F az hs fl h' hp (λt ht=>by rw[BY,if_neg ht]) λhF=>?_,hk,has⟩;exact qW hg (hgl F hF) ⟨av,λh2 hi=>hcong F hF h2 _ (ha h2 hi),hputF av F hp.keep⟩
  ·obtain⟨F,az,hs,fl,h',hp,hk,has⟩:=MY (i0:=i0+1) (j:=j+1) hokr hv;have has0:=has rfl;subst has0
   have hF:∀t,H0 t (o::r)=false->get F t=get env t:=λt ht=>by
    obtain⟨g1,g2⟩:=hwr t ht;rw[hp.keep t g2,BY,if_neg g1]
   have hfirst:hs[0]? =some h1:=by rw[hp.first];simp
   obtain⟨nl,hnl,hlast⟩:=hp.last;refine⟨F,[],cur::hs,some j::fl,h',⟨by simp[hp.len],by simp,⟨nl+1,by simp[hnl],by simpa using hlast⟩,λi n hi=>?_,λi k a b hik hi hk=>?_,λn h1 h2=>?_,hF,λq p hqp=>by simp at hqp,λq r p s _ hqp=>by simp at hqp,λm hm h0 hmm=>?_,λi n o' hi ho=>?_,λi o' n hi hn=>?_⟩,hk,λ_=>rfl⟩
   ·cases i with
    |zero=>simp at hi;subst hi;exact⟨Nat.le_refl _,by simp;omega⟩
    |succ i=>have:=hp.bound i n (by simpa using hi);simp;omega
   ·cases i with
    |zero=>
     simp at hi;cases k with
     |zero=>omega
     |succ k=>have:=(hp.bound k b (by simpa using hk)).1;omega
    |succ i=>cases k with
     |zero=>omega
     |succ k=>exact hp.mono i k a b (by omega) (by simpa using hi) (by simpa using hk)
   ·by_cases hnj:n=j
    ·subst hnj;exact⟨0,rfl⟩
    ·obtain⟨i,hi⟩:=hp.onto n (by omega) (by simp at h2;omega);exact⟨i+1,by simpa using hi⟩
   ·cases m with
    |zero=>omega
    |succ m=>
     cases m with
     |zero=>simp only[Nat.zero_add,List.getElem?_cons_succ]at hmm;rw[hfirst]at hmm;cases hmm;exact hI
     |succ m=>exact hp.inv (m+1) hm (by omega) (by simpa using hmm)
   ·cases i with
    |zero=>simp at hi ho;subst ho;exact⟨hq,hnew⟩
    |succ i=>exact hp.EB i n o' (by simpa using hi) (by simpa using ho)
   ·cases i with
    |zero=>
     simp at hi hn;subst hi hn;refine .inr (qW hg (hgl F hF) ⟨av,cur,h1,by simp,by simpa using hfirst,hcong F hF _ _ (ha _ ⟨rfl,rfl⟩),hputF av F hp.keep⟩)
    |succ i=>
     rcases hp.fact i o' n (by simpa using hi) (by simpa using hn) with⟨q,p,e1,e2⟩|h
     ·simp at e1
     ·refine .inr ?_
      have up:Pa P I F hs (j+1) o' n->Pa P I F (cur::hs) j o' n:=by
       intro hdo;cases n with
       |none=>exact hdo
       |some n=>
        have hb:=(hp.bound i n (by simpa using hn)).1;obtain⟨av',g1,g2,e1,e2,e3⟩:=hdo;have q1:n - j=(n - (j+1))+1:=by omega
        exact⟨av',g1,g2,by rw[q1];simpa using e1,by rw[q1];simpa using e2,e3⟩
      unfold Nx at h ⊢;cases hgd:o'.guard with
      |none=>rw[hgd]at h;exact up h
      |some g=>
       rw[hgd]at h;rcases h with⟨b',q1,q2,q3⟩|h
       ·exact .inl ⟨b',q1,λhb'=>up (q2 hb'),q3⟩
       ·exact .inr h
  ·obtain⟨F,az,hs,fl,h',hp,hk,has⟩:=MY (i0:=i0+1) (j:=j) hokr hv
   have hF:∀t,H0 t (o::r)=false->get F t=get env t:=λt ht=>by
    obtain⟨g1,g2⟩:=hwr t ht;rw[hp.keep t g2,BY,if_neg g1]
   refine⟨F,(i0,cells)::az,hs,none::fl,h',⟨by simp[hp.len],by rw[hp.first];simp,hp.last,λi n hi=>?_,λi k a b hik hi hk=>?_,λn h1 h2=>?_,hF,λq p hqp=>?_,λq s p t hqs hqp hst=>?_,hp.inv,λi n o' hi ho=>?_,λi o' n hi hn=>?_⟩,hk,λh=>by rw[hb]at h;cases h⟩
   ·cases i with
    |zero=>simp at hi
    |succ i=>exact hp.bound i n (by simpa using hi)
   ·cases i with
    |zero=>simp at hi
    |succ i=>cases k with
     |zero=>omega
     |succ k=>exact hp.mono i k a b (by omega) (by simpa using hi) (by simpa using hk)
   ·obtain⟨i,hi⟩:=hp.onto n h1 h2;exact⟨i+1,by simpa using hi⟩
   ·cases q with
    |zero=>
     simp at hqp;subst hqp;refine⟨0,o,rfl,rfl,hop,hgd,rfl,λd hd'=>?_⟩;rw[hputF _ F hp.keep d hd'];simp
    |succ q=>
     obtain⟨i,o',e1,e2,e3,e4,e5,e6⟩:=hp.pos q p (by simpa using hqp);refine⟨i+1,o',by omega,by simpa using e2,e3,e4,by simpa using e5,λd hd'=>?_⟩;rw[e6 d hd'];simp;omega
   ·cases s with
    |zero=>omega
    |succ s=>
     obtain⟨i,o',e1,_⟩:=hp.pos s t (by simpa using hst);cases q with
     |zero=>simp at hqp;subst hqp;simp;omega
     |succ q=>exact hp.WM q s p t (by omega) (by simpa using hqp) (by simpa using hst)
   ·cases i with
    |zero=>simp at hi
    |succ i=>exact hp.EB i n o' (by simpa using hi) (by simpa using ho)
   ·cases i with
    |zero=>simp at hi;subst hi;exact .inl ⟨0,_,rfl,by simp⟩
    |succ i=>
     rcases hp.fact i o' n (by simpa using hi) (by simpa using hn) with⟨q,p,e1,e2⟩|h
     ·exact .inl ⟨q+1,p,by simpa using e1,by omega⟩
     ·exact .inr h
def Jg(ord:b4c (b4c Nat))(al:b4c B9):b4e:=
 (List.range al.length).all λk=>match al[k]? with
  |some o=> !LU o||(List.range al.length).all λi=>match al[i]? with
   |some p=>(!(LU p&&decide (i<k))||(ord.getD k []).contains i)&&(!Dl p||(ord.getD k []).contains i)
   |none=>true
  |none=>true
theorem mJ{ord:b4c (b4c Nat)}{al:b4c B9}(h:Jg ord al){k i:Nat}{o p:B9}(hk:al[k]? =some o)(hi:al[i]? =some p)(hc:LU o):
  (LU p=true->i<k->i∈ord.getD k [])/\(Dl p=true->i∈ord.getD k []):=by
 simp only[Jg,b34,List.mem_range]at h;have h1:=h k (List.getElem?_eq_some_iff.1 hk).1;rw[hk]at h1;simp only[hc,Bool.not_true,Bool.false_or,b34,List.mem_range]at h1;have h2:=h1 i (List.getElem?_eq_some_iff.1 hi).1;rw[hi]at h2;simp only[b3x,Bool.or_eq_true,b35,Bool.and_eq_false_iff,b3w,List.contains_iff_mem]at h2;refine⟨λa b=>?_,λa=>?_⟩
 ·rcases h2.1 with(h3|h3)|h3
  ·rw[a]at h3;cases h3
  ·exact absurd b h3
  ·exact h3
 ·rcases h2.2 with h3|h3
  ·rw[a]at h3;cases h3
  ·exact h3
theorem a3p{P:Program}{I:A3->Prop}{ord:b4c (b4c Nat)}{al:b4c B9}{env:Env}{h:A3}{K:Env->A3->Prop}(hok:BB al)(hst:Jg ord al)(hI:∀h2:A3,(∃ext,h2.A4=h.A4++ext)->h2.A6=h.A6->h2.A8=h.A8->I h2)(hv:vs P I true al env h K):
  ∃F h' az hs fl,Nq P ord al env F h h' az hs fl/\K F h':=by
 obtain⟨F,az,hs,fl,h',ps,hk,_⟩:=MY (i0:=0) (j:=0) hok hv;refine⟨F,h',az,hs,fl,?_,hk⟩;obtain⟨nl,hnl,hlast⟩:=ps.last
 have hget:∀k n:Nat,fl[k]? =some (some n)->∃o,al[k]? =some o/\LU o:=by
  intro k n hkn;have hkl:k<al.length:=by rw[<-ps.len];exact(List.getElem?_eq_some_iff.1 hkn).1
  have ho:al[k]? =some al[k]:=b3y hkl;obtain⟨h1,h2⟩:=ps.EB k n _ hkn ho;exact⟨_,ho,by unfold LU;rw[h1,h2];rfl⟩
 have hpos:∀(q:Nat) (p:Nat × b4c AV),az[q]? =some p->∃o,al[p.1]? =some o/\Dl o/\o.op=.alloc p.2/\o.guard=none/\fl[p.1]? =some none/\∀d,o.dst=some d->get F d=some (.ptr (h.A4.length+q) 0):=by
  intro q p hqp;obtain⟨i,o,e1,e2,e3,e4,e5,e6⟩:=ps.pos q p hqp;have:p.1=i:=by omega
  rw[this];exact⟨o,e2,by unfold Dl;rw[e3,e4],e3,e4,e5,e6⟩
 refine⟨ps.len,λi k a b hik hi hk=>⟨ps.mono i k a b hik hi hk,?_⟩,λj hj=>ps.onto j (by omega) (by omega),?_,ps.last,λi n hi=>by have:=ps.bound i n hi;omega,ps.keep,λq p hqp=>?_,λq r p s hqp hrs hps=>?_,λk n hk p hp=>?_,λi o n hi hn=>?_⟩
 ·obtain⟨o1,h1,h2⟩:=hget i a hi;obtain⟨o2,h3,h4⟩:=hget k b hk;exact(mJ hst h3 h1 h4).1 h2 hik
 ·rw[ps.first];simp[hA]
 ·obtain⟨o,e1,_,e2⟩:=hpos q p hqp;exact⟨o,e1,e2⟩
 ·rcases Nat.lt_trichotomy q r with hlt|heq|hgt
  ·have:=ps.WM q r p s hlt hqp hrs;omega
  ·exact heq
  ·have:=ps.WM r q s p hgt hrs hqp;omega
 ·obtain⟨o2,h3,h4⟩:=hget k n hk;obtain⟨q,hq⟩:=List.mem_iff_getElem?.1 hp;obtain⟨o,e1,e2,_⟩:=hpos q p hq;exact(mJ hst h3 e1 h4).2 e2
 ·rcases ps.fact i o n hi hn with⟨q,p,e1,e2⟩|hf
  ·exact .inl ⟨q,p,e1,by omega⟩
  right
  have conv:Pa P I F hs 0 o n->NX P F h az hs ord fl i o n:=by
   intro hd;cases n with
   |some n=>obtain⟨av,h1,h2,e1,e2,e3⟩:=hd;exact⟨av,h1,h2,by simpa using e1,by simpa using e2,e3⟩
   |none=>
    obtain⟨av,hqa,hfd⟩:=hd;refine⟨av,0,hs.length - 1,by omega,λj lst hj _ _ h3=>hqa hj ?_,λk n _ h=>by omega,.inl (by omega),hfd⟩;cases j with
    |zero=>
     have:hA h az lst=hj:=Option.some.inj h3;subst this;exact hI _ ⟨_,rfl⟩ rfl rfl
    |succ j=>exact ps.inv (j+1) hj (by omega) h3
  unfold NW;unfold Nx at hf;cases hgd:o.guard with
  |none=>rw[hgd]at hf;simp only[hgd];exact conv hf
  |some g=>
   obtain⟨t,want⟩:=g;rw[hgd]at hf;simp only[hgd];rcases hf with⟨b,h1,h2,h3⟩|hf
   ·exact .inl ⟨b,h1,λhb=>conv (h2 hb),h3⟩
   ·exact .inr hf
def Ey(S gl:b4c (Nat × b4c AV))(h:A3):Prop:=(∀b c,(b,c)∈S->h.A4[b]? =some (some c))/\h.A8=gl
def Ew(S:b4c (Nat × b4c AV))(h:A3):b4c (b4d (b4d (b4c AV))):=S.map λp=>h.A4[p.1]?
theorem aL{S gl:b4c (Nat × b4c AV)}{h:A3}(h1:Ew S h=S.map λp=>some (some p.2))(h2:h.A8=gl):Ey S gl h:=by
 refine⟨λb c hbc=>?_,h2⟩;obtain⟨i,hi⟩:=List.mem_iff_getElem?.1 hbc;have:=congrArg (λl=>l[i]?) h1;simpa[Ew,b31,hi]using this
def Sp(P:Program)(S gl:b4c (Nat × b4c AV))(b:b4e)(L:b4c B9)(k:Nat)(env:Env)(h:A3)(K:Env->A3->Prop):Prop:=vs P (Ey S gl) b (L.drop k) env h K
def BX:Nat->b4c (Nat × b4c AV)->b4c (b4d (b4c AV))
 |0,_=>[]
 |n+1,S=>BX n S++[(S.find? λp=>p.1==n).map (·.2)]
theorem Uh:∀(n:Nat) (S:b4c (Nat × b4c AV)),(BX n S).length=n
 |0,_=>rfl
 |n+1,S=>by simp[BX,Uh n S]
theorem dM:∀(n:Nat) (S:b4c (Nat × b4c AV)) (k:Nat) (c:b4c AV),(BX n S)[k]? =some (some c)->(k,c)∈S
 |0,_,k,c,h=>by simp[BX]at h
 |n+1,S,k,c,h=>by
  by_cases hk:k<n
  ·refine dM n S k c ?_;rw[BX,b3z (by rw[Uh];exact hk)]at h;exact h
  ·rw[BX,b30 (by rw[Uh];omega),Uh]at h
   by_cases he:k=n
   ·subst he;simp only[Nat.sub_self,List.getElem?_cons_zero,b4a,b3t]at h;obtain⟨p,h1,rfl⟩:=h;have h2:=List.find?_some h1;have h3:=List.mem_of_find?_eq_some h1;have:p.1=k:=by simpa using h2
    subst this;exact h3
   ·rw[List.getElem?_eq_none (by simp;omega)]at h;cases h
theorem a6f{S gl:b4c (Nat × b4c AV)}{n:Nat}{h:A3}(hi:Ey S gl h){m:b4d Nat}{p a:AV}(hl:Jo ⟨BX n S,[],gl⟩ m p=some a):Jo h m p=some a:=by
 have hp:∀q,S3 ⟨BX n S,[],gl⟩ p=some q->S3 h p=some q:=by
  intro q hq;cases p with
  |ptr k off=>
   simp only[S3]at hq ⊢;split at hq
   ·rename_i cells hc;rw[hi.1 k cells (dM n S k cells hc)];exact hq
   ·cases hq
  |E6 k=>simp only[S3]at hq ⊢;rw[hi.2];exact hq
  |D3 c o=>exact hq
  |_=>simp[S3]at hq
 unfold Jo at hl ⊢;cases hq:S3 ⟨BX n S,[],gl⟩ p with
 |none=>rw[hq]at hl;cases hl
 |some q=>rw[hq]at hl;rw[hp q hq];exact hl
theorem a1b{P:Program}{n:Nat}{S gl:b4c (Nat × b4c AV)}{o:G7}{env:Env}{a:AV}{h1:A3}(hq:AG o)(he:Z7 false Kj o env ⟨BX n S,[],gl⟩=some (a,h1)):∀h2,Ey S gl h2->Ad P o env h2 a:=by
 intro h2 hi;have hsame:h1=⟨BX n S,[],gl⟩:=Tl (λf args h a h' he=>by cases he) hq he;subst hsame
 by_cases hp:FH o=true
 ·exact cI hp (FR (K:=λx y=>x=a/\y=_) ZR he ⟨rfl,rfl⟩)
 ·cases o<;>first|(exact absurd rfl hp)|(cases hq;done)|skip
  case load m x=>
   simp only[Z7,b3u]at he;obtain⟨p,h1,h3⟩:=he;obtain⟨h4,_⟩:=H4 h3;show wv (x.ev env) _;rw[h1];exact ax (K:=λx=>x=a/\h2=h2) (a6f hi h4) ⟨rfl,rfl⟩
  case call f args=>
   simp only[Z7,b3u]at he;obtain⟨fv,h1,l,h3,h4⟩:=he;split at h4
   ·cases h4
   ·obtain⟨t,x,r,g,_,_,h5⟩:=Uq h4;cases h5
   ·cases h4
  case Er l s x i=>
   simp only[Z7,b3u]at he;obtain⟨x',h1,i',h3,h4⟩:=he;obtain⟨h5,_⟩:=H4 h4;show wv (x.ev env) _;rw[h1];show wv (i.ev env) _;rw[h3];exact iM (K:=λx=>x=a/\h2=h2) (by rw[rL (h:=⟨BX n S,[],gl⟩) hi.2];exact h5) ⟨rfl,rfl⟩
  case lookup ok z x k=>
   simp only[Z7,b3u]at he;obtain⟨x',h1,i',h3,h4⟩:=he;obtain⟨h5,_⟩:=H4 h4;show wv (x.ev env) _;rw[h1];show wv (k.ev env) _;rw[h3];exact pH (K:=λx=>x=a/\h2=h2) (a5c (λk c hc=>hi.1 k c (dM n S k c hc)) h5) ⟨rfl,rfl⟩
section
variable {P:Program}{h h':A3}{env:Env}{N:Nat}{Q:Exit->Env->A3->Prop}{K:Env->A3->Prop}{L:b4c B9}{k:Nat}{S gl:b4c (Nat × b4c AV)}{b:b4e}
theorem PU{I:A3->Prop}{K:Env->A3->Prop}(hK:DF K):∀{l:b4c B9}{b:b4e}{e env:Env}{h:A3},O9 e env->vs P I b l e h K->vs P I b l env h K
 |[],b,e,env,h,he,hv=>hK e env h he hv
 |o::r,b,e,env,h,he,hv=>by
  rcases hv with⟨hg,hv⟩|⟨hg,hq,av,ha,hv⟩|⟨hg,hq,hn,av,h',ha,hi,hv⟩|⟨hb,cells,ho,hg,hv⟩
  ·exact .inl ⟨he.guard hg,PU hK (he.drop _) hv⟩
  ·exact .inr (.inl ⟨he.guard hg,hq,av,λh2 hi=>WT he (ha h2 hi),PU hK (he.put _ _) hv⟩)
  ·exact .inr (.inr (.inl ⟨he.guard hg,hq,hn,av,h',ha.less he,hi,PU hK (he.put _ _) hv⟩))
  ·exact .inr (.inr (.inr ⟨hb,cells,ho,hg,PU hK (he.put _ _) hv⟩))
theorem v7(S:b4c (Nat × b4c AV)){ord:b4c (b4c Nat)}{al tl:b4c B9}(hok:BB al)(hst:Jg (clo ord) al)(hS:Ew S h=S.map λp=>some (some p.2))(hv:Sp P S h.A8 true al 0 env h λF h'=>vd P tl F h' λenv' h'=>Q .normal env' h'):C P N (.drawn ord al tl) Q env h:=by
 have hv':vs P (Ey S h.A8) true al env h λF h'=>vd P tl F h' λenv' h'=>Q .normal env' h':=hv
 obtain⟨F,h',az,hs,fl,hn,hk⟩:=a3p hok hst (λh2 ⟨ext,he⟩ _ hgl=>⟨λb c hbc=>by
  have:=(aL hS rfl:Ey S h.A8 h).1 b c hbc;rw[he,b3z (List.getElem?_eq_some_iff.1 this).1];exact this,hgl⟩) hv'
 exact⟨ir hn (MO hk)⟩
end
mutual
def low(m:List Bool)(n:Nat):AV->Bool
 |.v _=>true
 |.ptr k _=>m.getD k false
 |.D3 cells _=>D4 m n cells
 |.nil=>true
 |.sl els tok=>(match tok with|.own id=>decide (id<n)|_=>true)&&H7 m n els
 |.agg cells=>D4 m n cells
 |.tuple vs=>D4 m n vs
 |.iface _ x=>low m n x
 |.clo _ first captured=>D4 m n first&&D4 m n captured
 |.E6 _=>true
 |.row k _ _ _ _=>m.getD k false
 |.it _ _=>true
 |.mp k=>m.getD k false
 |.bb k els _=>(match k with|.nil=>true|.own id|.data id|.raw id _=>decide (id<n))&&H7 m n els
 |.ps k _=>m.getD k false
def D4(m:List Bool)(n:Nat):List AV->Bool
 |[]=>true
 |a::r=>low m n a&&D4 m n r
def H7(m:List Bool)(n:Nat):List (List AV)->Bool
 |[]=>true
 |a::r=>D4 m n a&&H7 m n r
end
mutual
theorem lc(m:List Bool)(n:Nat):∀a,plain a->low m n a=true
 |.v _,_=>rfl
 |.ptr _ _,h=>by cases h
 |.D3 cells _,h=>by simp only[plain,low]at h ⊢;exact F7 m n cells h
 |.nil,_=>rfl
 |.sl els tok,h=>by
  simp only[plain,low,b3x]at h ⊢;refine⟨?_,M8 m n els h.2⟩;cases tok<;>first|rfl|(simp at h)
 |.agg cells,h=>by simp only[plain,low]at h ⊢;exact F7 m n cells h
 |.tuple cells,h=>by simp only[plain,low]at h ⊢;exact F7 m n cells h
 |.iface _ x,h=>by simp only[plain,low]at h ⊢;exact lc m n x h
 |.clo _ a b,h=>by simp only[plain,low,b3x]at h ⊢;exact⟨F7 m n a h.1,F7 m n b h.2⟩
 |.E6 _,_=>rfl
 |.row _ _ _ _ _,h=>by cases h
 |.it _ _,h=>by cases h
theorem F7(m:List Bool)(n:Nat):∀l,B7 l->D4 m n l=true
 |[],_=>rfl
 |a::r,h=>by simp only[B7,D4,b3x]at h ⊢;exact⟨lc m n a h.1,F7 m n r h.2⟩
theorem M8(m:List Bool)(n:Nat):∀l,F9 l->H7 m n l=true
 |[],_=>rfl
 |a::r,h=>by simp only[F9,H7,b3x]at h ⊢;exact⟨F7 m n a h.1,M8 m n r h.2⟩
end
theorem Cp{m:b4c b4e}{n:Nat}:∀{l:b4c AV},D4 m n l->∀(i:Nat) (av:AV),l[i]? =some av->low m n av=true
 |[],_,i,av,h=>by simp at h
 |a::r,hp,i,av,h=>by
  simp only[D4,b3x]at hp;cases i with
  |zero=>simp at h;subst h;exact hp.1
  |succ i=>exact Cp hp.2 i av (by simpa using h)
theorem Us{m:b4c b4e}{n:Nat}:∀{l:b4c (b4c AV)},H7 m n l->∀(i:Nat) (el:b4c AV),l[i]? =some el->D4 m n el=true
 |[],_,i,av,h=>by simp at h
 |a::r,hp,i,av,h=>by
  simp only[H7,b3x]at hp;cases i with
  |zero=>simp at h;subst h;exact hp.1
  |succ i=>exact Us hp.2 i av (by simpa using h)
def Sg.cut(σ:Sg)(m:b4c b4e)(n:Nat):Sg:={σ with blk:=λk=>if m.getD k false=true then σ.blk k else none,buf:=λid=>if id<n then σ.buf id else none}
theorem Tm{σ:Sg}{m:b4c b4e}{n b o:Nat}(h:(σ.cut m n).own b o):σ.own b o:=by
 rcases h with⟨k,hk⟩|⟨id,e,he,hs⟩
 ·simp only[Sg.cut]at hk;split at hk
  ·exact .inl ⟨k,hk⟩
  ·cases hk
 ·simp only[Sg.cut]at he;split at he
  ·exact .inr ⟨id,e,he,hs⟩
  ·cases he
theorem cN{σ:Sg}{m:b4c b4e}{n b o:Nat}(h:(σ.cut m n).open_ b o):σ.open_ b o:=h.elim .inl λh=>.inr (Tm h)
theorem Rel.cut{σ:Sg}{m:b4c b4e}{n:Nat}{av:AV}{x:Value}(hr:Rel σ av x):low m n av->Rel (σ.cut m n) av x:=by
 induction hr with
 |v x h=>intro _;exact .v x h
 |ptr k off b h=>intro hl;exact .ptr k off b (by simp only[Sg.cut];rw[if_pos (by simpa[low]using hl)];exact h)
 |D3 cells off b o xs hc hr ih=>
  intro hl;exact .D3 cells off b o xs (λi av hi=>⟨(hc i av hi).1,λh=>(hc i av hi).2.1 (cN h),(hc i av hi).2.2⟩) λi av hi=>ih i av hi (Cp (by simpa[low]using hl) i av hi)
 |nil=>intro _;exact .nil
 |E6 k=>intro _;exact .E6 k
 |mp k b h=>intro hl;exact .mp k b (by simp only[Sg.cut];rw[if_pos (by simpa[low]using hl)];exact h)
 |ps k t b p h hs hp=>intro hl;exact .ps k t b p (by simp only[Sg.cut];rw[if_pos (by simpa[low]using hl)];exact h) hs hp
 |CN u=>intro _;exact .CN u
 |AK id els u a c cap _ hu ih=>intro hl;exact .AK id els u a c cap (ih (by simpa[low]using hl)) hu
 |FA id els u a p c cap _ hu hp ih=>intro hl;exact .FA id els u a p c cap (ih (by simpa[low]using hl)) hu hp
 |GB id c u b cap hn he hu=>
  intro hl;obtain⟨e,h1,h2⟩:=he;exact .GB id c u b cap hn ⟨e,by simp only[Sg.cut];rw[if_pos (by simpa[low,H7]using hl)];exact h1,h2⟩ hu
 |row k off size len capm b cap h hc hm hx=>intro hl;exact .row k off size len capm b cap (by simp only[Sg.cut];rw[if_pos (by simpa[low]using hl)];exact h) hc hm hx
 |sl0 tok ht=>
  intro hl;refine .sl0 tok ?_;cases tok with
  |own id=>
   obtain⟨e,h1,h2⟩:=ht;refine⟨e,?_,h2⟩;simp only[low,b3x,b3v]at hl;simp only[Sg.cut];rw[if_pos hl.1];exact h1
  |_=>exact ht
 |I5 tok a cap ht hc=>
  intro hl;refine .I5 tok a cap ?_ hc;cases tok with
  |own id=>
   obtain⟨e,h1,h2⟩:=ht;refine⟨e,?_,h2⟩;simp only[low,b3x,b3v]at hl;simp only[Sg.cut];rw[if_pos hl.1];exact h1
  |_=>exact ht
 |sl els tok b o cap size xs hs hcap ht hz hc hr ih=>
  intro hl;simp only[low,b3x]at hl;refine .sl els tok b o cap size xs hs hcap ?_ (λid e h1 h2=>?_) (λi el hi j av hj=>⟨(hc i el hi j av hj).1,λh=>(hc i el hi j av hj).2.1 (cN h),(hc i el hi j av hj).2.2⟩) λi el hi j av hj=>ih i el hi j av hj (Cp (Us hl.2 i el hi) j av hj)
  ·cases tok with
   |own id=>
    obtain⟨e,h1,h2⟩:=ht;refine⟨e,?_,h2⟩;simp only[Sg.cut];rw[if_pos (by simpa using hl.1)];exact h1
   |_=>exact ht
  ·simp only[Sg.cut]at h2;split at h2
   ·exact hz id e h1 h2
   ·cases h2
 |agg cells xs hn hc x hx hr ih=>intro hl;exact .agg cells xs hn hc x hx λi av hi=>ih i av hi (Cp (by simpa[low]using hl) i av hi)
 |tuple vs xs hn x hx hr ih=>intro hl;exact .tuple vs xs hn x hx λi av hi=>ih i av hi (Cp (by simpa[low]using hl) i av hi)
 |iface t av x h ih=>intro hl;exact .iface t av x (ih (by simpa[low]using hl))
 |clo fn first captured fs cs hn hm x y hx hy hr hq ih1 ih2=>
  intro hl;simp only[low,b3x]at hl;exact .clo fn first captured fs cs hn hm x y hx hy (λi av hi=>ih1 i av hi (Cp hl.1 i av hi)) λi av hi=>ih2 i av hi (Cp hl.2 i av hi)
theorem D0.cut{σ:Sg}{m:b4c b4e}{n:Nat}{cells:b4c AV}{vs:b4c Value}(hc:D0 σ cells vs)(hl:D4 m n cells):D0 (σ.cut m n) cells vs:=by
 refine⟨hc.1,λi av hi=>?_⟩;obtain⟨h1,x,h2,h3⟩:=hc.2 i av hi;exact⟨h1,x,h2,h3.cut (Cp hl i av hi)⟩
def X3(m:b4c b4e)(n:Nat):Env->b4e
 |[]=>true
 |(_,a)::e=>low m n a&&X3 m n e
def Q5(m:b4c b4e)(n:Nat):b4c (b4d (b4c AV))->b4e
 |[]=>true
 |some c::r=>D4 m n c&&Q5 m n r
 |none::r=>Q5 m n r
theorem NM{m:b4c b4e}{n:Nat}:∀{e:Env}{t:Nat}{a:AV},X3 m n e->get e t=some a->low m n a=true
 |[],_,_,_,h=>by cases h
 |(u,b)::e,t,a,hl,h=>by
  simp only[X3,b3x]at hl;simp only[get]at h;split at h
  ·cases h;exact hl.1
  ·exact NM hl.2 h
theorem XJ{m:b4c b4e}{n:Nat}:∀{l:b4c (b4d (b4c AV))}{i:Nat}{c:b4c AV},Q5 m n l->l[i]? =some (some c)->D4 m n c=true
 |[],_,_,_,h=>by simp at h
 |o::r,i,c,hl,h=>by
  cases i with
  |zero=>simp at h;subst h;simp only[Q5,b3x]at hl;exact hl.1
  |succ i=>
   refine XJ (l:=r) (i:=i) ?_ (by simpa using h);cases o with
   |none=>exact hl
   |some c'=>simp only[Q5,b3x]at hl;exact hl.2
def I0:b4c b4e->b4c (b4d (b4c AV))->b4c (b4d (b4c AV))
 |b::m,x::l=>(if b=true then x else none)::I0 m l
 |_,_=>[]
theorem KY:∀{m:b4c b4e}{l:b4c (b4d (b4c AV))}{k:Nat}{c:b4c AV},(I0 m l)[k]? =some (some c)->m.getD k false/\l[k]? =some (some c)
 |[],l,k,c,h=>by simp[I0]at h
 |b::m,[],k,c,h=>by simp[I0]at h
 |b::m,x::l,k,c,h=>by
  cases k with
  |zero=>
   simp only[I0,List.getElem?_cons_zero,b4a]at h;split at h
   ·rename_i hb;subst h;exact⟨hb,rfl⟩
   ·cases h
  |succ k=>exact KY (m:=m) (l:=l) (k:=k) (by simpa[I0]using h)
theorem Yn:∀{m:b4c b4e}{l:b4c (b4d (b4c AV))}{k:Nat}{c:b4c AV},m.getD k false->l[k]? =some (some c)->(I0 m l)[k]? =some (some c)
 |[],l,k,c,h,_=>by simp at h
 |b::m,[],k,c,_,h=>by simp at h
 |b::m,x::l,k,c,h1,h2=>by
  cases k with
  |zero=>
   have h1':b=true:=h1;simp only[List.getElem?_cons_zero,b4a]at h2;simp[I0,h1',h2]
  |succ k=>simpa[I0]using Yn (m:=m) (l:=l) (k:=k) (by simpa using h1) (by simpa using h2)
theorem Bt.cut{σ:Sg}{m:b4c b4e}{n:Nat}:∀{es:b4c MapEntry}{l:b4c AV},Bt σ es l->D4 m n l->Bt (σ.cut m n) es l
 |[],[],_,_=>trivial
 |[],_::_,hc,_=>hc.elim
 |_::_,[],hc,_=>hc.elim
 |_::_,_::_,⟨⟨k,v,h1,h2,h3⟩,hc⟩,hl=>by
  subst h1;simp only[D4,low,b3x,Bool.and_true]at hl;exact⟨⟨k,v,rfl,h2.cut hl.1.1,h3.cut hl.1.2⟩,hc.cut hl.2⟩
theorem Inv.cut{σ:Sg}{h:A3}(hi:Inv h σ)(m:b4c b4e)(n:Nat)(hb:Q5 m n (I0 m h.A4))(hg:J3 h.A8):Inv ⟨I0 m h.A4,h.A6.take n,h.A8⟩ (σ.cut m n):=by
 have hblk:∀{k b:Nat},(σ.cut m n).blk k=some b->m.getD k false/\σ.blk k=some b:=by
  intro k b hk;simp only[Sg.cut]at hk;split at hk
  ·rename_i h1;exact⟨h1,hk⟩
  ·cases hk
 have hbuf:∀{k:Nat}{e:Buf},(σ.cut m n).buf k=some e->k<n/\σ.buf k=some e:=by
  intro k b hk;simp only[Sg.cut]at hk;split at hk
  ·rename_i h1;exact⟨h1,hk⟩
  ·cases hk
 refine⟨λk cells hk=>?_,λk b hk=>?_,λk l b c c' hk hl hc hc' h1 h2=>?_,λid c hc=>?_,λid e he=>?_,λid e he=>hi.I9 id e (hbuf he).2,λid e b o he hs=>hi.K0 id e b o (hbuf he).2 hs,λid e b o he hs=>hi.J7 id e b o (hbuf he).2 hs,λid e b o he hs=>hi.G2 id e b o (hbuf he).2 hs,λi j e f b o he hf h1 h2=>hi.J5 i j e f b o (hbuf he).2 (hbuf hf).2 h1 h2,λid e k b o he hs hk=>hi.G9 id e k b o (hbuf he).2 hs (hblk hk).2,λb o ho=>⟨(hi.outer b o ho).1,λh=>(hi.outer b o ho).2 (Tm h)⟩,λg cells hgl=>?_⟩
 ·obtain⟨h1,h2⟩:=KY hk;obtain⟨b,h3,h4⟩:=hi.blk k cells h2;refine⟨b,by simp only[Sg.cut];rw[if_pos h1];exact h3,?_⟩;have hlow:=XJ hb hk;cases h4 with
  |cells _ cs rest elem h5 h6=>exact .cells cells cs rest elem h5 (h6.cut hlow)
  |it s p h5=>exact .it s p h5
  |map es clock l h5 h6=>exact .map es clock l h5 (h6.cut (by simpa[D4,low]using hlow))
 ·obtain⟨h1,h2⟩:=hblk hk;obtain⟨c,h3⟩:=hi.dom k b h2;exact⟨c,Yn h1 h3⟩
 ·exact hi.inj k l b c c' (KY hk).2 (KY hl).2 hc hc' (hblk h1).2 (hblk h2).2
 ·rw[List.getElem?_take]at hc;split at hc
  ·rename_i h1;obtain⟨e,h2,h3⟩:=hi.buf id c hc;exact⟨e,by simp only[Sg.cut];rw[if_pos h1];exact h2,h3⟩
  ·cases hc
 ·obtain⟨h1,h2⟩:=hbuf he;rw[List.getElem?_take,if_pos h1];exact hi.I6 id e h2
 ·exact(hi.E6 g cells hgl).cut (by simp only[low];exact F7 m n cells (List.all_eq_true.1 hg _ hgl))
def Low(σ:Sg)(kb kf:Nat):Prop:=(∀k b,σ.blk k=some b->k<kb)/\∀id e,σ.buf id=some e->id<kf
theorem Le.cut{σ0 σ:Sg}{kb kf n:Nat}{m:b4c b4e}(hle:Le σ0 σ)(hl:Low σ0 kb kf)(hm:∀k,k<kb->m.getD k false)(hn:kf<=n):Le σ0 (σ.cut m n) where
 blk k b hk:=by
  simp only[Sg.cut];rw[if_pos (hm k (hl.1 k b hk))];exact hle.blk k b hk
 buf id e he:=by
  obtain⟨e',h1,h2⟩:=hle.buf id e he;exact⟨e',by simp only[Sg.cut];rw[if_pos (by have:=hl.2 id e he;omega)];exact h1,h2⟩
 outer:=hle.outer
 cell:=hle.cell
 ext:=hle.ext
 shape:=hle.shape
 whole:=hle.whole
 own b o hb ho:=hle.own b o hb (Tm ho)
 size:=hle.size
 os:=hle.os
 tape:=hle.tape
 output:=hle.output
structure D(P:Program)(N kb kf:Nat)(x:E8)(Q:Exit->Env->A3->Prop)(env:Env)(h:A3):Prop where
 out:∀c,F0 P N c=some x->∀(σ0 σ:Sg) (a:Act),St σ h env N a->Le σ0 σ->Low σ0 kb kf->c.wp P (BM σ0 N Q) a σ.w
structure DL(P:Program)(N kb kf:Nat)(x:E8)(Q:Exit->Env->A3->Prop)(env:Env)(h:A3):Prop where
 out:∀c,F0 P N c=some x->∀(σ0 σ:Sg) (a:Act),St σ h env N a->Le σ0 σ->Low σ0 kb kf->JE P c (BM σ0 N Q) a σ.w
def b1l(P:Program)(c rest:Code)(Q:Exit->Act->World->Prop)(a:Act)(w:World):Prop:=∀b k cs,∃e a' w',Q e a' w'/\Arrives P (lone (b.at a (.code rest::.inScope c::k)) cs w) b k cs e a' w'
structure DG(P:Program)(N kb kf:Nat)(x:E8)(l:Nat)(Q:Exit->Env->A3->Prop)(env:Env)(h:A3):Prop where
 out:∀c rest,F0 P N c=some x->findLabel c l=some rest->∀(σ0 σ:Sg) (a:Act),St σ h env N a->Le σ0 σ->Low σ0 kb kf->b1l P c rest (BM σ0 N Q) a σ.w
section
variable {P:Program}{h h':A3}{env env':Env}{N kb kf:Nat}{Q:Exit->Env->A3->Prop}{x y:E8}
theorem Ii(hx:C P N x Q env h):D P N kb kf x Q env h:=⟨λc hc σ0 σ a hs hle hl=>Code.wp_mono (λe a' w hh=>hh.up hle) (hx.out c hc σ a hs)⟩
theorem Inv.low{σ:Sg}(hi:Inv h σ)(h1:h.A4.length<=kb)(h2:h.A6.length<=kf):Low σ kb kf:=by
 refine⟨λk b hk=>?_,λid e he=>?_⟩
 ·have:=hi.name hk;omega
 ·have:=(List.getElem?_eq_some_iff.1 (hi.I6 id e he)).1;omega
theorem PJ(h1:h.A4.length<=kb)(h2:h.A6.length<=kf)(hx:D P N kb kf x Q env h):J4 P N x Q env h:=λc hc σ a hs=>hx.out c hc σ σ a hs (Le.refl σ) (hs.inv.low h1 h2)
theorem a7e{gl:b4c (Nat × b4c AV)}{f:FuncId}{ac:E8}{rs:b4c K5}(hf:T3 P f=some (N,ac,rs)){args:b4c AV}{r:AV}{e₀:Env}(hn:args.length<=N)(he:AC 0 args=e₀)(hbody:D P N 0 0 ac (LE rs r) e₀ ⟨[],[],gl⟩):A9 P gl f args r:=x9 hf hn he ⟨PJ (Nat.le_refl _) (Nat.le_refl _) hbody⟩
theorem uo{ops:b4c B9}(hv:V P ops env h λenv' h'=>Q .normal env' h'):D P N kb kf (.region ops) Q env h:=Ii (zX hv)
theorem b09(S:b4c (Nat × b4c AV)){ord:b4c (b4c Nat)}{al tl:b4c B9}(hok:BB al)(hst:Jg (clo ord) al)(hS:Ew S h=S.map λp=>some (some p.2))(hv:Sp P S h.A8 true al 0 env h λF h'=>vd P tl F h' λenv' h'=>Q .normal env' h'):D P N kb kf (.drawn ord al tl) Q env h:=Ii (v7 S hok hst hS hv)
theorem Vj(hq:Q .normal env h):D P N kb kf .skip Q env h:=Ii (a9z hq)
theorem b1k{id:Nat}(hq:Q (.exit id) env h):D P N kb kf (.exit id) Q env h:=Ii (sB hq)
theorem Np(hq:Q .ret env h):D P N kb kf .ret Q env h:=Ii (wP hq)
theorem wq{l:Nat}(hq:Q .normal env h):D P N kb kf (.label l) Q env h:=Ii (m6 hq)
theorem zP{l:Nat}(hq:Q (.goto l) env h):D P N kb kf (.goto l) Q env h:=Ii (a4z hq)
theorem Ur(hg:∀(σ:Sg) (a:Act),St σ h env N a->∃σ' h' env',σ'.w=σ.w/\Le σ σ'/\St σ' h' env' N a/\D P N kb kf x Q env' h'):D P N kb kf x Q env h:=⟨by
 intro c hc σ0 σ a hs hle hl;obtain⟨σ',h',env',hw,l1,s1,hx⟩:=hg σ a hs;rw[<-hw];exact hx.out c hc σ0 σ' a s1 (hle.trans l1) hl⟩
theorem pk(hg:∀(σ:Sg) (a:Act),St σ h env N a->∃σ' h' env',σ'.w=σ.w/\Le σ σ'/\St σ' h' env' N a/\DL P N kb kf x Q env' h'):DL P N kb kf x Q env h:=⟨by
 intro c hc σ0 σ a hs hle hl;obtain⟨σ',h',env',hw,l1,s1,hx⟩:=hg σ a hs;rw[<-hw];exact hx.out c hc σ0 σ' a s1 (hle.trans l1) hl⟩
theorem a3n{l:Nat}(hg:∀(σ:Sg) (a:Act),St σ h env N a->∃σ' h' env',σ'.w=σ.w/\Le σ σ'/\St σ' h' env' N a/\DG P N kb kf x l Q env' h'):DG P N kb kf x l Q env h:=⟨by
 intro c rest hc hr σ0 σ a hs hle hl;obtain⟨σ',h',env',hw,l1,s1,hx⟩:=hg σ a hs;rw[<-hw];exact hx.out c rest hc hr σ0 σ' a s1 (hle.trans l1) hl⟩
theorem ls{t:Nat}(size:Nat)(hg:get env t=some .nil){σ:Sg}{a:Act}(hs:St σ h env N a):∃σ',σ'.w=σ.w/\Le σ σ'/\St σ' ⟨h.A4,h.A6++[(0,size)],h.A8⟩ ((t,.sl [] (.own h.A6.length))::env) N a:=by
 obtain⟨σ1,w1,l1,i1,b1⟩:=Lx hs.inv ⟨0,size,none,0⟩ rfl (λ_=>rfl);refine⟨σ1,w1,l1,i1,?_,hs.size,hs.defers⟩;intro u av hu;simp only[get]at hu;split at hu
 ·rename_i htu;subst htu;cases hu;obtain⟨y,h1,h2⟩:=hs.env t _ hg;cases h2;exact⟨_,h1,.sl0 _ ⟨_,b1,Nat.le_refl _,λ_=>⟨rfl,rfl⟩⟩⟩
 ·exact(hs.env.mono l1) u av hu
theorem wO{t:Nat}(size:Nat)(hg:get env t=some (.sl [] .full)){σ:Sg}{a:Act}(hs:St σ h env N a):∃σ',σ'.w=σ.w/\Le σ σ'/\St σ' ⟨h.A4,h.A6++[(0,size)],h.A8⟩ ((t,.sl [] (.own h.A6.length))::env) N a:=by
 obtain⟨y,h1,h2⟩:=hs.env t _ hg
 have hy:∃ad,y=.slice ad 0 0:=by
  cases h2 with
  |sl0 _ _=>exact⟨_,rfl⟩
  |I5 _ ad cap ht hc=>rw[show cap=0 from ht];exact⟨_,rfl⟩
  |sl _ _ b o cap sz xs _ _ ht _ _ _=>rw[show cap=0 from ht];exact⟨_,rfl⟩
 obtain⟨ad,rfl⟩:=hy;obtain⟨σ1,w1,l1,i1,b1⟩:=Lx hs.inv ⟨0,size,ad,0⟩ rfl (λ_=>rfl);refine⟨σ1,w1,l1,i1,?_,hs.size,hs.defers⟩;intro u av hu;simp only[get]at hu;split at hu
 ·rename_i htu;subst htu;cases hu;cases ad with
  |none=>exact⟨_,h1,.sl0 _ ⟨_,b1,Nat.le_refl _,λ_=>⟨rfl,rfl⟩⟩⟩
  |some ad=>exact⟨_,h1,.I5 _ _ _ ⟨_,b1,Nat.le_refl _,λ_=>⟨rfl,rfl⟩⟩ (.inr rfl)⟩
 ·exact(hs.env.mono l1) u av hu
theorem a0a{t:Nat}(size:Nat)(hg:get env t=some (.sl [] .full))(hx:D P N kb kf x Q ((t,.sl [] (.own h.A6.length))::env) ⟨h.A4,h.A6++[(0,size)],h.A8⟩):D P N kb kf x Q env h:=Ur λσ a hs=>by
 obtain⟨σ',h1,h2,h3⟩:=wO size hg hs;exact⟨σ',_,_,h1,h2,h3,hx⟩
theorem yJ{t:Nat}(size:Nat)(hg:get env t=some .nil)(hx:D P N kb kf x Q ((t,.sl [] (.own h.A6.length))::env) ⟨h.A4,h.A6++[(0,size)],h.A8⟩):D P N kb kf x Q env h:=Ur λσ a hs=>by
 obtain⟨σ',h1,h2,h3⟩:=ls size hg hs;exact⟨σ',_,_,h1,h2,h3,hx⟩
theorem hZ{k j:Nat}(size:Nat){cells:b4c AV}{a0 a1:AV}(hx0:∀{σ:Sg}{x:Value},Rel σ a0 x->x=.slice none 0 0)(hx1:∀{σ:Sg},Rel σ (.sl [] (.own h.A6.length)) (.slice none 0 0)->Rel σ a1 (.slice none 0 0))(hc1:a1.isCell=true)(hc0:(∀s p,a0≠.it s p)/\∀l,a0≠.tuple l)(hk:h.A4[k]? =some (some cells))(hj:cells[j]? =some a0){σ:Sg}{a:Act}(hs:St σ h env N a):∃σ',σ'.w=σ.w/\Le σ σ'/\St σ' ⟨h.A4.set k (some (cells.set j a1)),h.A6++[(0,size)],h.A8⟩ env N a:=by
 obtain⟨σ1,w1,l1,i1,b1⟩:=Lx hs.inv ⟨0,size,none,0⟩ rfl (λ_=>rfl);refine⟨σ1,w1,l1,?_,hs.env.mono l1,hs.size,hs.defers⟩;obtain⟨b,hb,hat⟩:=i1.blk k cells hk;have hkl:k<h.A4.length:=(List.getElem?_eq_some_iff.1 hk).1;have hjl:j<cells.length:=(List.getElem?_eq_some_iff.1 hj).1
 have hat':Q7 σ1 b (cells.set j a1):=by
  cases hat with
  |cells _ cs rest elem h5 h6=>
   refine .cells _ cs rest elem h5 ⟨by rw[h6.1];simp,λi av hi=>?_⟩;rw[List.getElem?_set]at hi;split at hi
   ·rename_i hij;subst hij;cases hi;obtain⟨_,y,h7,h8⟩:=h6.2 j _ hj;rw[hx0 h8]at h7;exact⟨hc1,_,h7,hx1 (.sl0 _ ⟨_,b1,Nat.le_refl _,λ_=>⟨rfl,rfl⟩⟩)⟩
   ·exact h6.2 i av hi
  |it s p h5=>
   cases j with
   |zero=>exact absurd (by simpa using hj.symm) (hc0.1 s p)
   |succ j=>simp at hj
  |map es clock l h5 h6=>
   cases j with
   |zero=>exact absurd (by simpa using hj.symm) (hc0.2 l)
   |succ j=>simp at hj
 have hne:∀c,(cells.set j a1=c)->c≠[]:=by
  rintro c rfl he;have:=congrArg List.length he;simp at this;subst this;simp at hjl
 refine⟨λn c hn=>?_,λn b' hn=>?_,λn m b' c c' hn hm hc hc' h1 h2=>?_,i1.buf,i1.I6,i1.I9,i1.K0,i1.J7,i1.G2,i1.J5,i1.G9,i1.outer,i1.E6⟩
 ·rw[List.getElem?_set]at hn;split at hn
  ·rename_i hkn;subst hkn;cases hn;exact⟨b,hb,hat'⟩
  ·exact i1.blk n c hn
 ·obtain⟨c,hc⟩:=i1.dom n b' hn;rw[List.getElem?_set];split
  ·rename_i hkn;exact⟨_,rfl⟩
  ·exact⟨c,hc⟩
 ·have old:∀{n:Nat}{c:b4c AV},(h.A4.set k (some (cells.set j a1)))[n]? =some (some c)->c≠[]->∃d,h.A4[n]? =some (some d)/\d≠[]:=by
   intro n c hn hc;rw[List.getElem?_set]at hn;split at hn
   ·rename_i hkn;subst hkn;exact⟨cells,hk,by rintro rfl;simp at hj⟩
   ·exact⟨c,hn,hc⟩
  obtain⟨d,hd,hd0⟩:=old hn hc;obtain⟨d',hd',hd0'⟩:=old hm hc';exact i1.inj n m b' d d' hd hd' hd0 hd0' h1 h2
theorem qR{k j:Nat}(size:Nat){cells:b4c AV}(hk:h.A4[k]? =some (some cells))(hj:cells[j]? =some .nil){σ:Sg}{a:Act}(hs:St σ h env N a):∃σ',σ'.w=σ.w/\Le σ σ'/\St σ' ⟨h.A4.set k (some (cells.set j (.sl [] (.own h.A6.length)))),h.A6++[(0,size)],h.A8⟩ env N a:=
 hZ size (λhr=>by cases hr;rfl) (λhr=>hr) rfl ⟨by simp,by simp⟩ hk hj hs
theorem a2p{k j:Nat}{cells:b4c AV}{av b:AV}(hk:h.A4[k]? =some (some cells))(hj:cells[j]? =some av)(hav:K1 av=b)(hit:G4 cells)(hit2:G4 (cells.set j b)){σ:Sg}{a:Act}(hs:St σ h env N a):St σ ⟨h.A4.set k (some (cells.set j b)),h.A6,h.A8⟩ env N a:=by
 subst hav;have i1:=hs.inv;refine⟨?_,hs.env,hs.size,hs.defers⟩;obtain⟨b,hb,hat⟩:=i1.blk k cells hk;have hjl:j<cells.length:=(List.getElem?_eq_some_iff.1 hj).1;have hkl:k<h.A4.length:=(List.getElem?_eq_some_iff.1 hk).1
 have hat':Q7 σ b (cells.set j (K1 av)):=by
  cases hat with
  |cells _ cs rest elem h5 h6=>
   refine .cells _ cs rest elem h5 ⟨by rw[h6.1];simp,λi av' hi=>?_⟩;rw[List.getElem?_set]at hi;split at hi
   ·rename_i hij;subst hij;cases hi;obtain⟨h1,y,h7,h8⟩:=h6.2 j _ hj;exact⟨by rw[pg];exact h1,y,h7,h8.K1⟩
   ·exact h6.2 i av' hi
  |it s p h5=>cases hit
  |map es clock l h5 h6=>cases hit
 refine⟨λn c hn=>?_,λn b' hn=>?_,λn m b' c c' hn hm hc hc' h1 h2=>?_,i1.buf,i1.I6,i1.I9,i1.K0,i1.J7,i1.G2,i1.J5,i1.G9,i1.outer,i1.E6⟩
 ·rw[List.getElem?_set]at hn;split at hn
  ·rename_i hkn;subst hkn;cases hn;exact⟨b,hb,hat'⟩
  ·exact i1.blk n c hn
 ·obtain⟨c,hc⟩:=i1.dom n b' hn;rw[List.getElem?_set];split
  ·rename_i hkn;subst hkn;exact⟨_,rfl⟩
  ·exact⟨c,hc⟩
 ·have old:∀{n:Nat}{c:b4c AV},(h.A4.set k (some (cells.set j (K1 av))))[n]? =some (some c)->c≠[]->∃d,h.A4[n]? =some (some d)/\d≠[]:=by
   intro n c hn hc;rw[List.getElem?_set]at hn;split at hn
   ·rename_i hkn;subst hkn;exact⟨cells,hk,by rintro rfl;simp at hj⟩
   ·exact⟨c,hn,hc⟩
  obtain⟨d,hd,hd0⟩:=old hn hc;obtain⟨d',hd',hd0'⟩:=old hm hc';exact i1.inj n m b' d d' hd hd' hd0 hd0' h1 h2
theorem YL(m:b4c b4e)(n:Nat){σ0 σ:Sg}{a:Act}(hs:St σ h env N a)(hle:Le σ0 σ)(hl:Low σ0 kb kf)(hm:∀k,k<kb->m.getD k false)(hn:kf<=n)(he:X3 m n env)(hb:Q5 m n (I0 m h.A4))(hg:J3 h.A8):
  St (σ.cut m n) ⟨I0 m h.A4,h.A6.take n,h.A8⟩ env N a/\Le σ0 (σ.cut m n):=
 ⟨⟨hs.inv.cut m n hb hg,λt av ht=>by obtain⟨y,h1,h2⟩:=hs.env t av ht;exact⟨y,h1,h2.cut (NM he ht)⟩,hs.size,hs.defers⟩,hle.cut hl hm hn⟩
theorem a2o(m:b4c b4e)(n:Nat)(hm:∀k,k<kb->m.getD k false)(hn:kf<=n)(he:X3 m n env)(hb:Q5 m n (I0 m h.A4))(hg:J3 h.A8)(hx:DL P N kb kf x Q env ⟨I0 m h.A4,h.A6.take n,h.A8⟩):DL P N kb kf x Q env h:=⟨by
 intro c hc σ0 σ a hs hle hl;obtain⟨h1,h2⟩:=YL m n hs hle hl hm hn he hb hg;exact hx.out c hc σ0 (σ.cut m n) a h1 h2 hl⟩
theorem tN{l:Nat}(m:b4c b4e)(n:Nat)(hm:∀k,k<kb->m.getD k false)(hn:kf<=n)(he:X3 m n env)(hb:Q5 m n (I0 m h.A4))(hg:J3 h.A8)(hx:DG P N kb kf x l Q env ⟨I0 m h.A4,h.A6.take n,h.A8⟩):DG P N kb kf x l Q env h:=⟨by
 intro c rest hc hr σ0 σ a hs hle hl;obtain⟨h1,h2⟩:=YL m n hs hle hl hm hn he hb hg;exact hx.out c rest hc hr σ0 (σ.cut m n) a h1 h2 hl⟩
theorem a7q(m:b4c b4e)(n:Nat)(hm:∀k,k<kb->m.getD k false)(hn:kf<=n)(he:X3 m n env)(hb:Q5 m n (I0 m h.A4))(hg:J3 h.A8)(hx:D P N kb kf x Q env ⟨I0 m h.A4,h.A6.take n,h.A8⟩):D P N kb kf x Q env h:=⟨by
 intro c hc σ0 σ a hs hle hl;obtain⟨h1,h2⟩:=YL m n hs hle hl hm hn he hb hg;exact hx.out c hc σ0 (σ.cut m n) a h1 h2 hl⟩
theorem yi{c:Code}(hc:F0 P N c=some (.seq x y)):∃cx cy,c=.seq cx cy/\F0 P N cx=some x/\F0 P N cy=some y:=by
 cases c<;>(try simp only[F0,b3u,b3t]at hc)
 case seq cx cy=>obtain⟨x',hx',y',hy',he⟩:=hc;cases he;exact⟨cx,cy,rfl,hx',hy'⟩
 case region id ops d=>
  cases d<;>simp only[F0,b3u,b3t]at hc
  ·obtain⟨_,_,hx⟩:=hc;cases hx
  ·obtain⟨_,_,_,_,hx⟩:=hc;(repeat' split at hx)<;>cases hx
 all_goals first
  |(cases hc;done)
  |(obtain⟨_,_,hx⟩:=hc;cases hx;done)
  |(obtain⟨_,_,_,_,hx⟩:=hc;cases hx;done)
  |(obtain⟨_,_,_,_,_,_,hx⟩:=hc;cases hx;done)
theorem vZ{c:Code}{id:Nat}(hc:F0 P N c=some (.block id x)):∃cx,c=.block id cx/\F0 P N cx=some x:=by
 cases c<;>(try simp only[F0,b3u,b3t]at hc)
 case block i cx=>obtain⟨x',hx',he⟩:=hc;cases he;exact⟨cx,rfl,hx'⟩
 case region id ops d=>
  cases d<;>simp only[F0,b3u,b3t]at hc
  ·obtain⟨_,_,hx⟩:=hc;cases hx
  ·obtain⟨_,_,_,_,hx⟩:=hc;(repeat' split at hx)<;>cases hx
 all_goals first
  |(cases hc;done)
  |(obtain⟨_,_,hx⟩:=hc;cases hx;done)
  |(obtain⟨_,_,_,_,hx⟩:=hc;cases hx;done)
  |(obtain⟨_,_,_,_,_,_,hx⟩:=hc;cases hx;done)
theorem a24{c:Code}(hc:F0 P N c=some (.loop x)):∃cx,c=.loop cx/\F0 P N cx=some x:=by
 cases c<;>(try simp only[F0,b3u,b3t]at hc)
 case loop cx=>obtain⟨x',hx',he⟩:=hc;cases he;exact⟨cx,rfl,hx'⟩
 case region id ops d=>
  cases d<;>simp only[F0,b3u,b3t]at hc
  ·obtain⟨_,_,hx⟩:=hc;cases hx
  ·obtain⟨_,_,_,_,hx⟩:=hc;(repeat' split at hx)<;>cases hx
 all_goals first
  |(cases hc;done)
  |(obtain⟨_,_,hx⟩:=hc;cases hx;done)
  |(obtain⟨_,_,_,_,hx⟩:=hc;cases hx;done)
  |(obtain⟨_,_,_,_,_,_,hx⟩:=hc;cases hx;done)
theorem Rw(hx:D P N kb kf x (KP (λe h=>D P N kb kf y Q e h) Q) env h):D P N kb kf (.seq x y) Q env h:=⟨by
 intro c hc σ0 σ a hs hle hl;obtain⟨cx,cy,rfl,hcx,hcy⟩:=yi hc;refine wp_seq (Code.wp_mono (λe a' w' hh=>?_) (hx.out cx hcx σ0 σ a hs hle hl));obtain⟨h1,σ2,h2,env2,rfl,q2,q3,q4⟩:=hh;cases e with
 |normal=>exact q4.out cy hcy σ0 σ2 a' q3 q2 hl
 |panic _=>exact h1.elim
 |outgrown=>exact h1.elim
 |exit _=>exact⟨trivial,σ2,h2,env2,rfl,q2,q3,q4⟩
 |goto _=>exact⟨trivial,σ2,h2,env2,rfl,q2,q3,q4⟩
 |ret=>exact⟨trivial,σ2,h2,env2,rfl,q2,q3,q4⟩⟩
theorem uK{id:Nat}(hx:D P N kb kf x (Ns id Q) env h):D P N kb kf (.block id x) Q env h:=⟨by
 intro c hc σ0 σ a hs hle hl;obtain⟨cx,rfl,hcx⟩:=vZ hc;refine wp_block (Code.wp_mono (λe a' w' hh=>?_) (hx.out cx hcx σ0 σ a hs hle hl));obtain⟨h1,σ2,h2,env2,rfl,q2,q3,q4⟩:=hh;cases e with
 |panic _=>exact h1.elim
 |outgrown=>exact h1.elim
 |normal=>exact⟨trivial,σ2,h2,env2,rfl,q2,q3,q4⟩
 |goto _=>exact⟨trivial,σ2,h2,env2,rfl,q2,q3,q4⟩
 |ret=>exact⟨trivial,σ2,h2,env2,rfl,q2,q3,q4⟩
 |exit i=>
  simp only[Ns]at q4;simp only[Exit.inBlock];split
  ·rename_i hi;rw[if_pos hi]at q4;exact⟨trivial,σ2,h2,env2,rfl,q2,q3,q4⟩
  ·rename_i hi;rw[if_neg hi]at q4;exact⟨trivial,σ2,h2,env2,rfl,q2,q3,q4⟩⟩
theorem yM(hx:DL P N kb kf x Q env h):D P N kb kf (.loop x) Q env h:=⟨by
 intro c hc σ0 σ a hs hle hl;obtain⟨cx,rfl,hcx⟩:=a24 hc;exact a5i (hx.out cx hcx σ0 σ a hs hle hl)⟩
theorem a2m(hx:D P N kb kf x (KP (λe h=>DL P N kb kf x Q e h) Q) env h):DL P N kb kf x Q env h:=⟨by
 intro c hc σ0 σ a hs hle hl;refine a9j (Code.wp_mono (λe a' w' hh=>?_) (hx.out c hc σ0 σ a hs hle hl));obtain⟨h1,σ2,h2,env2,q1,q2,q3,q4⟩:=hh;cases e with
 |panic _=>exact h1.elim
 |outgrown=>exact h1.elim
 |normal=>subst q1;exact q4.out c hc σ0 σ2 a' q3 q2 hl
 |goto _=>exact⟨trivial,σ2,h2,env2,q1,q2,q3,q4⟩
 |ret=>exact⟨trivial,σ2,h2,env2,q1,q2,q3,q4⟩
 |exit i=>exact⟨trivial,σ2,h2,env2,q1,q2,q3,q4⟩⟩
theorem Rs{c:B6}{b:b4e}(hc:c.ev env=some (.v (.bool b)))(h1:b=true->D P N kb kf x Q env h)(h2:b=false->D P N kb kf y Q env h):D P N kb kf (.cond c x y) Q env h:=⟨by
 intro cc hcc σ0 σ a hs hle hl;cases cc<;>(try simp only[F0,b3u,b3t]at hcc)
 case cond co cx cy=>
  obtain⟨c',hc',x',hx',y',hy',he⟩:=hcc;cases he;obtain⟨av,hr,hk⟩:=F8 (K:=λv=>v=.v (.bool b)) hs.env hc' (by rw[hc];rfl);subst hk;generalize hce:a.eval co=ce at hr;cases hr with
  |v _ _=>
  cases b with
  |true=>exact wp_cond_true hce ((h1 rfl).out cx hx' σ0 σ a hs hle hl)
  |false=>exact wp_cond_false hce ((h2 rfl).out cy hy' σ0 σ a hs hle hl)
 case region id ops d=>
  cases d<;>simp only[F0,b3u,b3t]at hcc
  ·obtain⟨_,_,hx⟩:=hcc;cases hx
  ·obtain⟨_,_,_,_,hx⟩:=hcc;(repeat' split at hx)<;>cases hx
 all_goals first
  |(cases hcc;done)
  |(obtain⟨_,_,hx⟩:=hcc;cases hx;done)
  |(obtain⟨_,_,_,_,hx⟩:=hcc;cases hx;done)
  |(obtain⟨_,_,_,_,_,_,hx⟩:=hcc;cases hx;done)⟩
theorem fE{c:B6}{b:b4e}(hc:c.ev env=some (.v (.bool b)))(hb:b=true)(h1:D P N kb kf x Q env h):D P N kb kf (.cond c x y) Q env h:=Rs hc (λ_=>h1) (λh=>by rw[hb]at h;cases h)
theorem jV{c:B6}{b:b4e}(hc:c.ev env=some (.v (.bool b)))(hb:b=false)(h1:D P N kb kf y Q env h):D P N kb kf (.cond c x y) Q env h:=Rs hc (λh=>by rw[hb]at h;cases h) (λ_=>h1)
theorem a9a{l:Nat}{rest:E8}(hf:AA x l=some rest)(hx:D P N kb kf x (Pk l (λe h=>DG P N kb kf x l Q e h) Q) env h):D P N kb kf (.scope x) Q env h:=⟨by
 intro c hc σ0 σ a hs hle hl;obtain⟨c',rfl,hc'⟩:=Th hc;obtain⟨r,hr,hrc⟩:=(YA l hc').1 rest hf;intro b k cs;have hg:gotoIn l (.inScope c'::k)=some (.code r::.inScope c'::k):=by simp[gotoIn,hr]
 obtain⟨e,a₁,w₁,hq,harr⟩:=hx.out c' hc' σ0 σ a hs hle hl b (.inScope c'::k) cs;obtain⟨h1,σ2,h2,env2,rfl,q2,q3,q4⟩:=hq;cases e with
 |normal=>exact⟨.normal,a₁,_,⟨trivial,σ2,h2,env2,rfl,q2,q3,q4⟩,.head step_scope (Steps.trans harr (.one step_inScope))⟩
 |exit id=>exact⟨.exit id,a₁,_,⟨trivial,σ2,h2,env2,rfl,q2,q3,q4⟩,λk' hk=>.head step_scope (harr k' (by simp[exitTo,hk]))⟩
 |goto l'=>
  obtain⟨rfl,hJ⟩:=q4;obtain⟨e₂,a₂,w₂,hq₂,harr₂⟩:=hJ.out c' r hc' hr σ0 σ2 a₁ q3 q2 hl b k cs;exact⟨e₂,a₂,w₂,hq₂,.of_steps (.head step_scope (harr _ hg)) harr₂⟩
 |ret=>exact⟨_,a₁,_,⟨trivial,σ2,h2,env2,rfl,q2,q3,q4⟩,.of_steps (.one step_scope) harr⟩
 |panic ch=>exact h1.elim
 |outgrown=>exact h1.elim⟩
theorem b0v{l:Nat}{rest:E8}(hf:AA x l=some rest)(hx:D P N kb kf rest (Pk l (λe h=>DG P N kb kf x l Q e h) Q) env h):DG P N kb kf x l Q env h:=⟨by
 intro c' r0 hc' hr0 σ0 σ a hs hle hl;obtain⟨r,hr,hrc⟩:=(YA l hc').1 rest hf;obtain rfl:r=r0:=by rw[hr]at hr0;exact Option.some.inj hr0
 intro b k cs;have hg:gotoIn l (.inScope c'::k)=some (.code r::.inScope c'::k):=by simp[gotoIn,hr]
 obtain⟨e,a₁,w₁,hq,harr⟩:=hx.out r hrc σ0 σ a hs hle hl b (.inScope c'::k) cs;obtain⟨h1,σ2,h2,env2,rfl,q2,q3,q4⟩:=hq;cases e with
 |normal=>exact⟨.normal,a₁,_,⟨trivial,σ2,h2,env2,rfl,q2,q3,q4⟩,Steps.trans harr (.one step_inScope)⟩
 |exit id=>exact⟨.exit id,a₁,_,⟨trivial,σ2,h2,env2,rfl,q2,q3,q4⟩,λk' hk=>harr k' (by simp[exitTo,hk])⟩
 |goto l'=>
  obtain⟨rfl,hJ⟩:=q4;obtain⟨e₂,a₂,w₂,hq₂,harr₂⟩:=hJ.out c' r hc' hr σ0 σ2 a₁ q3 q2 hl b k cs;exact⟨e₂,a₂,w₂,hq₂,.of_steps (harr _ hg) harr₂⟩
 |ret=>exact⟨_,a₁,_,⟨trivial,σ2,h2,env2,rfl,q2,q3,q4⟩,harr⟩
 |panic ch=>exact h1.elim
 |outgrown=>exact h1.elim⟩
theorem a2n(hx:D P N kb kf x (aW Q) env h):D P N kb kf (.scope x) Q env h:=⟨by
 intro c hc σ0 σ a hs hle hl;obtain⟨c',rfl,hc'⟩:=Th hc;refine wp_scope_straight (Code.wp_mono (λe a' w' hh=>?_) (hx.out c' hc' σ0 σ a hs hle hl));obtain⟨h1,σ2,h2,env2,rfl,q2,q3,q4⟩:=hh;cases e with
 |panic _=>exact h1.elim
 |outgrown=>exact h1.elim
 |goto _=>exact q4.elim
 |normal=>exact⟨trivial,σ2,h2,env2,rfl,q2,q3,q4⟩
 |ret=>exact⟨trivial,σ2,h2,env2,rfl,q2,q3,q4⟩
 |exit i=>exact⟨trivial,σ2,h2,env2,rfl,q2,q3,q4⟩⟩
end
theorem iL{P:Program}{o:G7}{env:Env}{h h':A3}{av:AV}(he:Z7 false Kj o env h=some (av,h')):F1 P o env h av h':=λK hk=>FR ZR he hk
def fz(n:Nat)(cells:b4c AV):AV->AV
 |.ptr k off=>if k=n then .D3 cells off else .ptr k off
 |a=>a
def QL(n:Nat)(cells:b4c AV):Env->Env
 |[]=>[]
 |(t,a)::e=>(t,fz n cells a)::QL n cells e
theorem mu{n:Nat}{cells:b4c AV}:∀{e:Env}{t:Nat}{b:AV},get (QL n cells e) t=some b->∃a,get e t=some a/\b=fz n cells a
 |[],_,_,h=>by cases h
 |(u,a)::e,t,b,h=>by
  simp only[QL,get]at h ⊢;split at h
  ·rename_i hu;rw[if_pos hu];cases h;exact⟨a,rfl,rfl⟩
  ·rename_i hu;rw[if_neg hu];exact mu h
def CX:b4c b4e->b4c (b4d (b4c AV))->b4e
 |b::m,x::l=>(match b,x with|true,some []=>false|_,_=>true)&&CX m l
 |_,_=>true
theorem Vb:∀{m:b4c b4e}{l:b4c (b4d (b4c AV))}{k:Nat}{c:b4c AV},CX m l->m.getD k false->l[k]? =some (some c)->c≠[]
 |[],_,_,_,_,h,_=>by simp at h
 |b::m,[],_,_,_,_,h=>by simp at h
 |b::m,x::l,0,c,h,h1,h2=>by
  have h1':b=true:=h1;simp only[List.getElem?_cons_zero,b4a]at h2;subst h1' h2;rintro rfl;simp[CX]at h
 |b::m,x::l,k+1,c,h,h1,h2=>by
  simp only[CX,b3x]at h;exact Vb h.2 (by simpa using h1) (by simpa using h2)
theorem b0c{P:Program}{h:A3}{env:Env}{N kb kf:Nat}{Q:Exit->Env->A3->Prop}{x:E8}(n:Nat)(m:b4c b4e)(k:Nat)(cells:b4c AV)(hb:h.A4[n]? =some (some cells))(hit:G4 cells)(hmn:m.getD n false=false)(hal:CX m h.A4)(hm:∀k,k<kb->m.getD k false)(hn:kf<=k){e:Env}(hE:QL n cells env=e)(he:X3 m k e)(hB:Q5 m k (I0 m h.A4))(hg:J3 h.A8)(hx:D P N kb kf x Q e ⟨I0 m h.A4,h.A6.take k,h.A8⟩):D P N kb kf x Q env h:=⟨by
 subst hE;intro c hc σ0 σ a hs hle hl;refine hx.out c hc σ0 (σ.cut m k) a ⟨hs.inv.cut m k hB hg,λt av ht=>?_,hs.size,hs.defers⟩ (hle.cut hl hm hn) hl;have hlow:=NM he ht;obtain⟨a0,h1,rfl⟩:=mu ht;obtain⟨y,h2,h3⟩:=hs.env t a0 h1;refine⟨y,h2,?_⟩;cases a0 with
 |ptr j off=>
  simp only[fz]at hlow ⊢;split at hlow
  ·rename_i hj;subst hj;rw[if_pos rfl];cases h3 with
   |ptr _ _ b hblk=>
   obtain⟨b',h4,h5⟩:=hs.inv.blk j cells hb;rw[hblk]at h4;cases h4;cases h5 with
   |it s p h6=>cases hit
   |map es clock l h5 h6=>cases hit
   |cells _ cs rest elem h6 h7=>
   have hlc:D4 m k cells:=by simpa[low]using hlow
   have key:∀(i:Nat) (av:AV),cells[i]? =some av->∃xv,σ.w.cell? ⟨b,i,none⟩=some xv/\Rel σ av xv/\av.isCell=true:=by
    intro i av hi;obtain⟨q1,xv,q2,q3⟩:=h7.2 i av hi;refine⟨xv,?_,q3,q1⟩;have hlt:i<cs.length:=(List.getElem?_eq_some_iff.1 q2).1;simp[World.cell?,h6,b3z hlt,q2]
   have hne:cells≠[]:=by rintro rfl;cases hit
   have:=Rel.D3 (σ:=σ.cut m k) cells off b 0 (λi=>(σ.w.cell? ⟨b,i,none⟩).getD undef) (λi av hi=>by
    obtain⟨xv,q1,q2,q3⟩:=key i av hi;refine⟨by show σ.w.cell? _=_;rw[Nat.zero_add,q1];rfl,?_,q3⟩;rintro (ho|⟨j',hj'⟩|⟨id,eb,he1,he2⟩)
    ·exact(hs.inv.outer _ _ ho).2 (.inl ⟨j,hblk⟩)
    ·simp only[Sg.cut]at hj';split at hj'
     ·rename_i hmj;obtain⟨c',hc'⟩:=hs.inv.dom j' b hj';have:=hs.inv.inj j' j b c' cells hc' hb (Vb hal hmj hc') hne hj' hblk;subst this;rw[hmn]at hmj;cases hmj
     ·cases hj'
    ·simp only[Sg.cut]at he1;split at he1
     ·exact hs.inv.G9 id eb j b _ he1 he2 hblk
     ·cases he1) (λi av hi=>by
    obtain⟨xv,q1,q2,q3⟩:=key i av hi;rw[q1];exact q2.cut (Cp hlc i av hi))
   simpa using this
  ·rename_i hj;rw[if_neg hj];exact h3.cut hlow
 |_=>exact h3.cut hlow⟩
theorem r4(a:AV):K1 (K1 a)=K1 a:=by cases a<;>rfl
theorem mP(a:AV):AI (AI a)=AI a:=by
 cases a with
 |agg cs=>simp only[AI,List.map_map];congr 1;exact List.map_congr_left λx _=>r4 x
 |_=>rfl
theorem pB(a:AV):nz (nz a)=nz a:=by
 cases a with
 |tuple vs=>simp only[nz,List.map_map];congr 1;exact List.map_congr_left λx _=>mP x
 |agg cs=>exact mP (.agg cs)
 |_=>rfl
def N8(P:Program)(gl:b4c (Nat × b4c AV))(f:AV)(args:b4c AV)(r:AV):Prop:=∃g a b,f=.clo (.func g) a b/\B7 ((a++args++b).map nz)/\A9 P gl g ((a++args++b).map nz) r
theorem sN{P:Program}{h:A3}{env:Env}{f:B6}{args:b4c B6}{F:AV}{l l':b4c AV}{r:AV}(hf:f.ev env=some F)(ha:evs env args=some l)(hl:l.map nz=l')(hgl:J3 h.A8)(hc:N8 P h.A8 F l' r):F1 P (.call f args) env h r h:=by
 obtain⟨g,a,b,rfl,hp,hn⟩:=hc;refine sO hf ha ?_ hgl hp hn;subst hl;simp only[List.map_append,List.map_map]
 congr 2
 exact List.map_congr_left λx _=>(pB x).symm
theorem b06{P:Program}{h:A3}{env:Env}{x y z:B6}{k k' k'':IntKind}{a b c:Int}(hx:x.ev env=some (.v (.int k a)))(hy:y.ev env=some (.v (.int k' b)))(hz:z.ev env=some (.v (.int k'' c))):F1 P (.AJ true [x,y,z]) env h (.v (.int k (max (max a b) c))) h:=λK hk=>
 (TX (l:=[.v (.int k a),.v (.int k' b),.v (.int k'' c)]) (v:=.int k (max (max a b) c)) (by simp[evs,hx,hy,hz]) (by simp only[CI,if_true];congr 2;(repeat' split)<;>omega) hk).out
theorem a8h{P:Program}{h:A3}{env:Env}{x y z:B6}{k k' k'':IntKind}{a b c:Int}(hx:x.ev env=some (.v (.int k a)))(hy:y.ev env=some (.v (.int k' b)))(hz:z.ev env=some (.v (.int k'' c))):F1 P (.AJ false [x,y,z]) env h (.v (.int k (min (min a b) c))) h:=λK hk=>
 (TX (l:=[.v (.int k a),.v (.int k' b),.v (.int k'' c)]) (v:=.int k (min (min a b) c)) (by simp[evs,hx,hy,hz]) (by simp only[CI,Bool.false_eq_true,if_false];congr 2;(repeat' split)<;>omega) hk).out
theorem jY{h:A3}{e env:Env}{N:Nat}(he:O9 e env){σ:Sg}{a:Act}(hs:St σ h env N a):St σ h e N a:=⟨hs.inv,λt av hg=>hs.env t av (he t av hg),hs.size,hs.defers⟩
theorem UI{P:Program}{N kb kf:Nat}{x:E8}{Q:Exit->Env->A3->Prop}:DF λe h=>D P N kb kf x Q e h:=λe env h he hx=>Ur λσ a hs=>⟨σ,h,e,rfl,Le.refl σ,jY he hs,hx⟩
theorem RE{P:Program}{N kb kf:Nat}{x:E8}{Q:Exit->Env->A3->Prop}:DF λe h=>DL P N kb kf x Q e h:=λe env h he hx=>pk λσ a hs=>⟨σ,h,e,rfl,Le.refl σ,jY he hs,hx⟩
theorem LO{e env:Env}(he:O9 e env){h:A3}:∀{rs:b4c K5}{K:b4c AV->Prop},Z0 e h rs K->Z0 env h rs K
 |[],_,hk=>hk
 |.tmp t::r,K,hk=>he.wv (x:=.t t) hk λa ha=>LO he ha
 |.cell t n::r,K,hk=>by
  obtain⟨p,h1,h2⟩:=Fj hk;show wv (get env t) _;rw[he t p h1];simp only[wv,DR]at h2 ⊢;split at h2
  ·split at h2
   ·split at h2
    ·exact LO he h2
    ·exact h2.elim
   ·exact⟨h2.1,LO he h2.2⟩
  ·exact h2.elim
theorem Zy{rs:b4c K5}{r:AV}:DF λe h=>LE rs r .normal e h:=λe env h he hx=>LO he hx
abbrev T(n:Nat):B6:=.t n
abbrev cb(b:b4e):B6:=.c (.v (.bool b))
abbrev o(d:Nat)(x:G7):B9:=⟨some d,x,none⟩
abbrev og(d:Nat)(x:G7)(t:Nat)(b:b4e):B9:=⟨some d,x,some (t,b)⟩
abbrev on(x:G7):B9:=⟨none,x,none⟩
abbrev mv(n:Nat):G7:=.mv (.t n)
abbrev ln(n t:Nat):G7:=.load (some n) (.t t)
abbrev st(n p x:Nat):G7:=.store n (.t p) (.t x)
abbrev wI(n:Int):Int:=IntKind.i64.wrap n
abbrev wU(n:Int):Int:=IntKind.u64.wrap n
theorem RW{env:Env}{t:Nat}{B b:b4e}(hB:B=b)(hg:get env t=some (.v (.bool B))):O9 ((t,.v (.bool b))::env) env:=by
 subst hB;intro u a h;simp only[get]at h;split at h
 ·rename_i hu;subst hu;cases h;exact hg
 ·exact h
def BU:b4d AV->b4d (b4c (b4c AV))
 |some (.sl els _)=>some els
 |_=>none
theorem Hz{x:b4d AV}{els:b4c (b4c AV)}(h:BU x=some els):∃tok,x=some (.sl els tok):=by
 unfold BU at h;split at h
 ·cases h;exact⟨_,rfl⟩
 ·cases h
structure B3 where
 fn:FuncId
 fi:List AV
 cap:List AV
 hp:(B7 fi&&B7 cap)=true
theorem S0(g:B3):B7 g.fi:=(b3x _ _▸g.hp).1
theorem S5(g:B3):B7 g.cap:=(b3x _ _▸g.hp).2
theorem GL(m:b4c b4e)(n:Nat)(g:B3):D4 m n g.fi:=F7 _ _ _ (S0 g)
theorem Ie(m:b4c b4e)(n:Nat)(g:B3):D4 m n g.cap:=F7 _ _ _ (S5 g)
theorem DK(g:B3):plain (.clo (.func g.fn) g.fi g.cap):=g.hp
def Ev(g:B3):b4c AV:=[.clo (.func g.fn) g.fi g.cap]
theorem b9(g:B3):B7 (Ev g):=by simp only[Ev,B7,plain,S0,S5];rfl
theorem U5(l:b4c B3):F9 (l.map Ev):=N7 _ _ λx _=>b9 x
section
variable {P:Program}{h h':A3}{env e:Env}{N kb kf:Nat}{Q:Exit->Env->A3->Prop}{K:Env->A3->Prop}{L:b4c B9}{k:Nat}{S gl:b4c (Nat × b4c AV)}{b:b4e}{x y:E8}
theorem vo{o:B9}{av:AV}{d:Nat}(hl:L[k]? =some o)(ha:F1 P o.op env h av h')(hd:o.dst=some d)(hk:Vp P L (k+1) ((d,av)::env) h' K)(hg:K7 env o.guard=some true:=by kernel_rfl):Vp P L k env h K:=m7 hl hg ha rfl (by rw[hd];rfl) hk
theorem vn{d:Nat}{x y:B6}{yes:b4e}{α:Type}(hl:L[k]? =some ⟨some d,.eq .slice yes x y,none⟩)(l:b4c α)(f:α->b4c AV)(hk:∀b:b4e,(l≠[]->b= !yes)->Vp P L (k+1) ((d,.v (.bool b))::env) h K)(hx:BU (x.ev env)=some (List.map f l):=by kernel_rfl)(hy:y.ev env=some .nil:=by kernel_rfl):Vp P L k env h K:=by
 obtain⟨tok,hx⟩:=Hz hx;refine xP hl rfl (λav=>∃b:b4e,av=.v (.bool b)/\(l≠[]->b= !yes)) (λK' hK'=>?_) λav hav=>?_
 ·simp only[E0,hx,hy,wv,EG];rcases Classical.em (l=[]) with h0|h0
  ·right;subst h0;exact⟨rfl,hK' _ ⟨_,rfl,λhn=>absurd rfl hn⟩,hK' _ ⟨_,rfl,λhn=>absurd rfl hn⟩⟩
  ·left;refine⟨by simpa using h0,hK' _ ⟨_,rfl,λ_=>?_⟩⟩;cases yes<;>rfl
 ·obtain⟨b,rfl,hb⟩:=hav;exact hk b hb
theorem t7(hk:K env h)(hl:L.drop k=[]:=by kernel_rfl):Vp P L k env h K:=b0b hl hk
def cU(nl env:Env)(ops:b4c B9):b4e:=ops.all λo=>match o.dst with
 |some t=>(get nl t).isSome||(get env t).isNone
 |none=>true
theorem TG:∀{e:Env}{t:Nat}{a:AV},get e t=some a->(t,a)∈e
 |[],_,_,h=>by cases h
 |(u,b)::e,t,a,h=>by
  simp only[get]at h;split at h
  ·rename_i hu;subst hu;cases h;exact List.mem_cons_self
  ·exact List.mem_cons_of_mem _ (TG h)
theorem bU:∀{e f:Env}{t:Nat},get (e++f) t=match get e t with|some a=>some a|none=>get f t
 |[],_,_=>rfl
 |(u,b)::e,f,t=>by
  simp only[List.cons_append,get];split
  ·rfl
  ·exact bU
theorem lY{env:Env}{d:b4d Tmp}{t:Nat}{a:AV}(h:d≠some t):get (L3 env d a) t=get env t:=by
 cases d with
 |none=>rfl
 |some d=>
  simp only[L3,get];rw[if_neg];intro e;exact h (by rw[e])
theorem a3j{env:Env}{d:b4d Tmp}{t:Nat}(h:d≠some t):get (Af env d) t=get env t:=by
 cases d with
 |none=>rfl
 |some d=>
  simp only[Af]
  first
   |exact lY (d:=some d) h
   |(simp only[get];rw[if_neg (λe=>h (by rw[e]))])
theorem XM{md:b4e}{call:O0}:∀{l:b4c B9}{env:Env}{h:A3}{r:Env × A3}{t:Nat},CD md call l env h=some r->(∀o∈l,o.dst≠some t)->get r.1 t=get env t
 |[],env,h,r,t,he,_=>by cases he;rfl
 |o::l,env,h,r,t,he,hn=>by
  simp only[CD,b3u]at he;obtain⟨b,h1,h2⟩:=he;have ho:=hn o List.mem_cons_self;have hl:=λo' h'=>hn o' (List.mem_cons_of_mem _ h')
  cases b with
  |true=>
   simp only[b3u]at h2;obtain⟨p,h3,h4⟩:=h2;exact(XM h4 hl).trans (lY ho)
  |false=>exact(XM h2 hl).trans (a3j ho)
theorem a08{nl env e:Env}{ops:b4c B9}(h1:nl.map (λq=>get e q.1)=nl.map λq=>some q.2)(h2:cU nl env ops)(h3:∀t,(∀o∈ops,o.dst≠some t)->get e t=get env t):O9 (nl++env) e:=by
 intro t a h;rw[bU]at h;cases hn:get nl t with
 |some b=>
  rw[hn]at h;cases h;have hm:=TG hn;obtain⟨i,hi⟩:=List.mem_iff_getElem?.1 hm;have:=congrArg (λl=>l[i]?) h1;simpa[b31,hi]using this
 |none=>
  rw[hn]at h;rw[h3 t λo ho hd=>?_]
  ·exact h
  ·have:=List.all_eq_true.1 h2 o ho;rw[hd]at this;simp[hn,h]at this
def chk(nl env:Env)(ops:b4c B9)(p:Env × A3):b4c (b4d AV) × A3 × b4e:=(nl.map (λq=>get p.1 q.1),p.2,cU nl env ops)
theorem a8v{nl env:Env}{ops:b4c B9}{x:b4d (Env × A3)}{h':A3}(h:x.map (chk nl env ops)=some (nl.map (λq=>some q.2),h',true)):∃e,x=some (e,h')/\nl.map (λq=>get e q.1)=nl.map (λq=>some q.2)/\cU nl env ops:=by
 cases x with
 |none=>cases h
 |some p=>
  simp only[Option.map_some,chk,b4a,Prod.mk.injEq]at h;exact⟨p.1,by rw[<-h.2.1],h.1,h.2.2⟩
theorem va(m:Nat)(nl:Env)(hk:Vp P L (k+m) (nl++env) h K)(hK:DF K:=by first|exact UI|exact Ru UI|exact RE|exact Zy|exact Ru RE|exact Ru Zy)(he:(CD false Kj ((L.drop k).take m) env h).map (chk nl env ((L.drop k).take m))=some (nl.map (λq=>some q.2),h,true):=by kernel_rfl):Vp P L k env h K:=by
 obtain⟨e,h1,h2,h3⟩:=a8v he;exact a8y m _ _ h1 rfl (Jr hK (a08 h2 h3 λt ht=>XM h1 ht) hk)
abbrev aI(n:Int):AV:=.v (.int .i64 n)
abbrev aU(n:Int):AV:=.v (.int .u64 n)
abbrev aB(b:b4e):AV:=.v (.bool b)
abbrev aS(s:b4b):AV:=.v (.string s)
abbrev aE:AV:=.v (.string ⟨#[]⟩)
abbrev zV:b4c AV:=[aI 0,aU 0,aE,.nil,.nil,.nil,.nil]
theorem dr{ops:b4c B9}(hv:Vp P ops 0 env h λenv' h'=>Q .normal env' h'):D P N kb kf (.region ops) Q env h:=uo (a7m hv)
theorem dS(S:b4c (Nat × b4c AV)){ord:b4c (b4c Nat)}{al tl:b4c B9}(hv:Sp P S h.A8 true al 0 env h λF h'=>vd P tl F h' λenv' h'=>Q .normal env' h')(hok:BB al:=by kernel_rfl)(hst:Jg (clo ord) al:=by kernel_rfl)(hS:Ew S h=S.map (λp=>some (some p.2)):=by kernel_rfl):D P N kb kf (.drawn ord al tl) Q env h:=b09 S hok hst hS hv
theorem dc{c:B6}(B:b4e)(h1:B=true->D P N kb kf x Q env h)(h2:B=false->D P N kb kf y Q env h)(hc:c.ev env=some (.v (.bool B)):=by kernel_rfl):D P N kb kf (.cond c x y) Q env h:=Rs hc h1 h2
theorem dw{c:B6}{B:b4e}{p q:Prop}(hw:(B=true->p)/\(B=false->q))(h1:B=true->p->D P N kb kf x Q env h)(h2:B=false->q->D P N kb kf y Q env h)(hc:c.ev env=some (.v (.bool B)):=by kernel_rfl):D P N kb kf (.cond c x y) Q env h:=dc B (λz=>h1 z (hw.1 z)) (λz=>h2 z (hw.2 z)) hc
theorem dk{c:B6}{B:b4e}(hB:B=true)(h1:D P N kb kf x Q env h)(hc:c.ev env=some (.v (.bool B)):=by kernel_rfl):D P N kb kf (.cond c x y) Q env h:=fE hc hB h1
theorem dkf{c:B6}{B:b4e}(hB:B=false)(h1:D P N kb kf y Q env h)(hc:c.ev env=some (.v (.bool B)):=by kernel_rfl):D P N kb kf (.cond c x y) Q env h:=jV hc hB h1
theorem rx{rs:b4c K5}{R:Type}{f:R->AV}{r r0:R}(hw:r=r0)(hp:plain (f r0))(he:(Bb env h rs).map (λl=>nz (U0 l))=some (f r0):=by kernel_rfl):LE rs (f r) .ret env h:=by
 subst hw;simp only[b3t]at he;obtain⟨l,h1,h2⟩:=he;exact zS h1 h2 hp
abbrev tl(P:Program)(N:Nat)(y:E8)(Q:Exit->Env->A3->Prop):Exit->Env->A3->Prop:=KP (λe h=>DL P N 0 0 y Q e h) Q
theorem ds{P:Program}{N kb kf:Nat}{ops:b4c B9}{y:E8}{Q:Exit->Env->A3->Prop}{env:Env}{h:A3}(hv:Vp P ops 0 env h λenv' h'=>D P N kb kf y Q env' h'):D P N kb kf (.seq (.region ops) y) Q env h:=Rw (dr hv)
theorem ve{P:Program}{L:b4c B9}{k:Nat}{env:Env}{h:A3}{K:Env->A3->Prop}(hk:K env h)(hl:L.drop k=[]:=by kernel_rfl):Vp P L k env h K:=t7 hk hl
def BN:b4d AV->b4d Int
 |some (.v (.int _ n))=>some n
 |_=>none
theorem JU{x:b4d AV}{n:Int}(h:BN x=some n):∃k,x=some (.v (.int k n)):=by
 unfold BN at h;split at h
 ·cases h;exact⟨_,rfl⟩
 ·cases h
variable {α:Type}
theorem l5{x:B6}(l:b4c α)(e:α->b4c AV)(hx:BU (x.ev env)=some (List.map e l):=by kernel_rfl):F1 P (.len false x) env h (.v (.int .i64 l.length)) h:=by
 obtain⟨tok,hx⟩:=Hz hx;exact uL hx
theorem xN{size:Nat}{x i:B6}{l:b4c α}{e' e:α->b4c AV}{n:Int}{y:α}(h0:0<=n)(hy:l[n.toNat]? =some y)(he:e' y=e y)(hx:BU (x.ev env)=some (List.map e' l):=by kernel_rfl)(hi:BN (i.ev env)=some n:=by kernel_rfl)(hs:(e y).length=size:=by kernel_rfl):F1 P (.Bn size x i) env h (.D3 (e y) 0) h:=by
 obtain⟨tok,hx⟩:=Hz hx;obtain⟨k,hi⟩:=JU hi;exact a5l hx hi h0 hy he hs
theorem ud{x i:B6}{s:b4b}{n:Int}(h0:0<=n/\n<(s.size:Int))(hx:x.ev env=some (.v (.string s)):=by kernel_rfl)(hi:BN (i.ev env)=some n:=by kernel_rfl):F1 P (.Cl x i) env h (.v (.int .u8 (E2 s n.toNat))) h:=by
 obtain⟨k,hi⟩:=JU hi;exact uC hx hi h0
theorem k9{x:B6}{lo hi:b4d B6}{s:b4b}{l u:Int}(h0:0<=l/\l<=u/\u<=(s.size:Int))(hx:x.ev env=some (.v (.string s)):=by kernel_rfl)(h3:(J9 env lo).bind (K2 0)=some l:=by kernel_rfl)(h4:(J9 env hi).bind (K2 s.size)=some u:=by kernel_rfl):F1 P (.CM x lo hi) env h (.v (.string (s.extract l.toNat u.toNat))) h:=by
 obtain⟨lv,h1,h3⟩:=Option.bind_eq_some_iff.1 h3;obtain⟨hv,h2,h4⟩:=Option.bind_eq_some_iff.1 h4;exact sZ hx h1 h2 h3 h4 h0
def XV:b4d AV->b4d Tok
 |some (.sl _ t)=>some t
 |_=>none
theorem a82{size:Nat}{x:B6}{lo hi:b4d B6}{l:b4c α}{e':α->b4c AV}{a u:Int}(h0:0<=a/\a<=u/\u<=(l.length:Int))(hs:∀y,(e' y).length=size)(hx:BU (x.ev env)=some (List.map e' l):=by kernel_rfl)(h3:(J9 env lo).bind (K2 0)=some a:=by kernel_rfl)(h4:(J9 env hi).bind (K2 l.length)=some u:=by kernel_rfl)(hc:(lo.isSome||hi.isSome):=by kernel_rfl):F1 P (.CL size x lo hi none) env h (.sl (List.map e' ((l.take u.toNat).drop a.toNat)) .no) h:=by
 obtain⟨tok,hx⟩:=Hz hx;obtain⟨lv,h1,h3⟩:=Option.bind_eq_some_iff.1 h3;obtain⟨hv,h2,h4⟩:=Option.bind_eq_some_iff.1 h4;have:=uD (P:=P) (h:=h) hx h1 h2 h3 h4 h0 hs;cases lo with
 |none=>
  cases hi with
  |none=>cases hc
  |some hi=>
   have e2:∃z,hv=some z:=by
    simp only[J9]at h2;split at h2
    ·cases h2;exact⟨_,rfl⟩
    ·cases h2
   obtain⟨z,rfl⟩:=e2;cases h1;exact this
 |some lo=>
  have e1:∃z,lv=some z:=by
   simp only[J9]at h1;split at h1
   ·cases h1;exact⟨_,rfl⟩
   ·cases h1
  obtain⟨z,rfl⟩:=e1;exact this
def Rv(op:BinOp)(x y:b4d AV):b4d (Prop × Value):=
 match x,y with
 |some (.v a),some (.v b)=>Ac op a b
 |_,_=>none
theorem a7d{op:BinOp}{x y:B6}{c:Prop}(r:Value)(hc:c)(hp:Rv op (x.ev env) (y.ev env)=some (c,r):=by kernel_rfl):F1 P (.bin op x y) env h (.v r) h:=by
 unfold Rv at hp;split at hp
 ·rename_i a b h1 h2;exact II h1 h2 hp hc
 ·cases hp
theorem ui{x y:B6}{a b:b4b}(h0:((a.size+b.size:Nat):Int)<=9223372036854775807)(hx:x.ev env=some (.v (.string a)):=by kernel_rfl)(hy:y.ev env=some (.v (.string b)):=by kernel_rfl):F1 P (.bin .add x y) env h (.v (.string (a++b))) h:=b1o hx hy h0
theorem u5{g:FuncId}{args:b4c B6}{l':b4c AV}{r:AV}(hc:A9 P h.A8 g l' r)(hp:B7 l'=true)(ha:(evs env args).map (List.map nz)=some l':=by kernel_rfl)(hgl:J3 h.A8:=by kernel_rfl):F1 P (.call (.c (.clo (.func g) [] [])) args) env h r h:=by
 obtain⟨l,h1,h2⟩:=Option.map_eq_some_iff.1 ha;exact tK rfl h1 h2 hgl hp hc
theorem b0l{f:B6}{args:b4c B6}{F:AV}{l':b4c AV}{r:AV}(hc:N8 P h.A8 F l' r)(hf:f.ev env=some F:=by kernel_rfl)(ha:(evs env args).map (List.map nz)=some l':=by kernel_rfl)(hgl:J3 h.A8:=by kernel_rfl):F1 P (.call f args) env h r h:=by
 obtain⟨l,h1,h2⟩:=Option.map_eq_some_iff.1 ha;exact sN hf h1 h2 hgl hc
theorem f7{e0:TypeId}{size byt:Nat}{x y:B6}(id:Nat)(e':α->b4c AV)(l m:b4c α)(h0:(l.length+m.length)*byt<=140737488355328)(hs:∀y,(e' y).length=size)(hm:(y.ev env).bind (Q6 h size)=some (List.map e' m))(hx:x.ev env=some (.sl (List.map e' l) (.own id)):=by kernel_rfl)(hb:h.A6[id]? =some (l.length,size):=by kernel_rfl):F1 P (.append e0 size byt x y) env h (.sl (List.map e' (l++m)) (.own id)) ⟨h.A4,h.A6.set id ((l++m).length,size),h.A8⟩:=by
 obtain⟨Y,h1,h2⟩:=Option.bind_eq_some_iff.1 hm;exact d9 hx h1 h2 hb hs h0
theorem pD{e0:TypeId}{size byt:Nat}{x y:B6}(e':α->b4c AV)(l m:b4c α)(h0:(l.length+m.length)*byt<=140737488355328)(hs:∀y,(e' y).length=size)(hm0:m≠[])(hm:(y.ev env).bind (Q6 h size)=some (List.map e' m))(hX:BU (x.ev env)=some (List.map e' l))(hx:XV (x.ev env)=some .full:=by kernel_rfl):F1 P (.append e0 size byt x y) env h (.sl (List.map e' (l++m)) (.own h.A6.length)) ⟨h.A4,h.A6++[((l++m).length,size)],h.A8⟩:=by
 obtain⟨Y,h1,h2⟩:=Option.bind_eq_some_iff.1 hm;obtain⟨tok,h3⟩:=Hz hX;rw[h3]at hx;cases hx;exact b0o (X:=.nil) h3 h1 rfl h2 hs h0 hm0
theorem a9n{x:B6}{l:b4c Int}{t:b4b}(hl:l=bI t)(hx:BU (x.ev env)=some (List.map (λn=>[AV.v (.int .u8 n)]) l):=by kernel_rfl):F1 P (.conv .str x) env h (.v (.string t)) h:=by
 obtain⟨tok,hx⟩:=Hz hx;exact a3h hx hl
end
end Go.Proofs.YtdpomombdeccpaaGreatDoor.Lift
