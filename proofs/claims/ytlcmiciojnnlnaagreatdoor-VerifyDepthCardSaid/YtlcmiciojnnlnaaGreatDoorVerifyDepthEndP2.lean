/- Part 3 of the texts that prove VerifyDepthEnd. -/
import Derived.Test.YtlcmiciojnnlnaaGreatDoorVerifyDepthEndP1
import Derived.LoopN
namespace Go.Proofs.YtlcmiciojnnlnaaGreatDoor.Lift
open Go.RowKit
set_option linter.unusedVariables false
set_option linter.unusedSimpArgs false
set_option linter.unnecessarySimpa false
set_option linter.unusedSectionVars false
set_option maxRecDepth 100000
def bq(op:BinOp)(x y:Value):b5m Value:=
 match op,x,y with
 |.eql,.string a,.string b=>some (.bool (a.data.toList==b.data.toList))
 |.neq,.string a,.string b=>some (.bool (!(a.data.toList==b.data.toList)))
 |.lss,.string a,.string b=>some (.bool (Op.bytesLess a.data.toList b.data.toList))
 |.leq,.string a,.string b=>some (.bool (Op.bytesLess a.data.toList b.data.toList||a.data.toList==b.data.toList))
 |.gtr,.string a,.string b=>some (.bool (!(Op.bytesLess a.data.toList b.data.toList||a.data.toList==b.data.toList)))
 |.geq,.string a,.string b=>some (.bool (!(Op.bytesLess a.data.toList b.data.toList)))
 |.add,.string a,.string b=>if a.data.toList.length+b.data.toList.length<=9223372036854775807 then some (.string ⟨⟨a.data.toList++b.data.toList⟩⟩) else none
 |.quo,.int k a,.int k' b=>if k=k'/\b≠0 then some (.int k (k.wrap (a.tdiv b))) else none
 |.rem,.int k a,.int k' b=>if k=k'/\b≠0 then some (.int k (a.tmod b)) else none
 |.shl,.int k a,.int _ b=>if 0<=b then some (.int k (k.wrap (a*2 ^ min b.toNat k.bits))) else none
 |.shr,.int k a,.int _ b=>if 0<=b then some (.int k (a.fdiv (2 ^ min b.toNat k.bits))) else none
 |.add,.int k a,.int k' b=>if k=k' then some (.int k (k.wrap (a+b))) else none
 |.sub,.int k a,.int k' b=>if k=k' then some (.int k (k.wrap (a - b))) else none
 |.mul,.int k a,.int k' b=>if k=k' then some (.int k (k.wrap (a*b))) else none
 |.and,.int k a,.int k' b=>if k=k' then some (.int k (I3 .and k a b)) else none
 |.or,.int k a,.int k' b=>if k=k' then some (.int k (I3 .or k a b)) else none
 |.xor,.int k a,.int k' b=>if k=k' then some (.int k (I3 .xor k a b)) else none
 |.andNot,.int k a,.int k' b=>if k=k' then some (.int k (I3 .andNot k a b)) else none
 |.eql,.int k a,.int k' b=>if k=k' then some (.bool (a==b)) else none
 |.neq,.int k a,.int k' b=>if k=k' then some (.bool (a !=b)) else none
 |.lss,.int k a,.int k' b=>if k=k' then some (.bool (decide (a<b))) else none
 |.leq,.int k a,.int k' b=>if k=k' then some (.bool (decide (a<=b))) else none
 |.gtr,.int k a,.int k' b=>if k=k' then some (.bool (decide (b<a))) else none
 |.geq,.int k a,.int k' b=>if k=k' then some (.bool (decide (b<=a))) else none
 |_,_,_=>none
theorem a61(a b:b5k):a++b=⟨⟨a.data.toList++b.data.toList⟩⟩:=by
 apply ByteArray.ext;apply Array.ext';rw[ByteArray.data_append,Array.toList_append]
theorem zF{op:BinOp}{x y r:Value}(h:bq op x y=some r):∃c:Prop,c/\Ad op x y=some (c,r):=by
  unfold bq at h;split at h
  · cases h;exact⟨True,trivial,by simp only[Ad,ByteArray.toList_eq]⟩
  · cases h;exact⟨True,trivial,by simp only[Ad,ByteArray.toList_eq]⟩
  · cases h;exact⟨True,trivial,by simp only[Ad,ByteArray.toList_eq]⟩
  · cases h;exact⟨True,trivial,by simp only[Ad,ByteArray.toList_eq]⟩
  · cases h;exact⟨True,trivial,by simp only[Ad,ByteArray.toList_eq]⟩
  · cases h;exact⟨True,trivial,by simp only[Ad,ByteArray.toList_eq]⟩
  · split at h
    · rename_i a b hc
      cases h;refine⟨_,hc,?_⟩;simp only[Ad];rw[a61];rfl
    · cases h
  · split at h
    · rename_i hc;cases h;exact⟨_,hc.2,by simp only[Ad];rw[if_pos hc.1]⟩
    · cases h
  · split at h
    · rename_i hc;cases h;exact⟨_,hc.2,by simp only[Ad];rw[if_pos hc.1]⟩
    · cases h
  · split at h
    · rename_i hc;cases h;exact⟨_,hc,by simp only[Ad]⟩
    · cases h
  · split at h
    · rename_i hc;cases h;exact⟨_,hc,by simp only[Ad]⟩
    · cases h
  all_goals first
    |(cases h;done)
    |(split at h
      · rename_i hc;cases h;exact⟨True,trivial,by simp only[Ad];rw[if_pos hc]⟩
      · cases h)
def HU(h:A3)(n:b5m Nat)(p:AV):b5m AV:=
 (S4 h p).bind λq=>match n with
  |none=>q.1[q.2]?
  |some n=>if q.2+n<=q.1.length then some (.agg ((q.1.drop q.2).take n)) else none
theorem Xl{h:A3}{n:b5m Nat}{p a:AV}{K:AV->Prop}(he:HU h n p=some a)(hk:K a):Cy h n p K:=by
 simp only[HU,b44]at he;obtain⟨⟨cells,off⟩,h1,h2⟩:=he;simp only[Cy,h1];cases n with
 |none=>simp only at h2 ⊢;simp only[h2];exact hk
 |some n=>
  simp only at h2 ⊢;split at h2
  ·rename_i hc;cases h2;exact⟨hc,hk⟩
  ·cases h2
def ZG(h:A3)(size:Nat)(p x:AV):b5m A3:=
 match p with
 |.ptr n off=>match h.A5[n]? with
  |some (some cells)=>if I4 cells/\x.cells.length=size/\off+size<=cells.length/\x.isTuple=false then some ⟨h.A5.set n (some (splice cells off x.cells)),h.A9,h.B0⟩ else if size=0/\x.cells=[]/\x.isTuple=false then some h else none
  |_=>none
 |_=>none
theorem a3z{h h':A3}{n:Nat}{p x:AV}{K:A3->Prop}(he:ZG h n p x=some h')(hk:K h'):Da h n p x K:=by
 unfold ZG at he;unfold Da;split at he
 ·split at he
  ·rename_i hb;simp only[hb];split at he
   ·rename_i hc;cases he;exact .inl ⟨hc,hk⟩
   ·split at he
    ·rename_i hc;cases he;exact .inr ⟨hc,hk⟩
    ·cases he
  ·cases he
 ·cases he
def eJ(op:BinOp)(x y:AV):b5m AV:=
 match x,y with
 |.v a,.v b=>(bq op a b).map .v
 |_,_=>none
theorem o9{op:BinOp}{x y a:AV}{K:AV->Prop}(he:eJ op x y=some a)(hk:K a):MC op x y K:=by
 unfold eJ at he;split at he
 ·simp only[b43]at he;obtain⟨r,h1,rfl⟩:=he;obtain⟨c,hc,hp⟩:=zF h1;simp only[MC,hp];exact⟨hc,hk⟩
 ·cases he
def eqF(c:HB)(x y:AV):b5m b5n:=
 match c,x,y with
 |.bool,.v (.bool a),.v (.bool b)=>some (a==b)
 |.slice,.nil,.nil=>some true
 |.slice,.sl (_::_) _,.nil=>some false
 |.slice,.nil,.sl (_::_) _=>some false
 |.slice,.row _ _ _ _ _,.nil=>some false
 |.slice,.nil,.row _ _ _ _ _=>some false
 |.func,.clo _ _ _,.v .nilFunc=>some false
 |.func,.v .nilFunc,.clo _ _ _=>some false
 |.func,.v .nilFunc,.v .nilFunc=>some true
 |.ptr,.ptr _ _,.v (.pointer none)=>some false
 |.ptr,.G6 _ _,.v (.pointer none)=>some false
 |.ptr,.v (.pointer none),.v (.pointer none)=>some true
 |.iface,.iface _ _,.v .nilIface=>some false
 |.iface,.v .nilIface,.iface _ _=>some false
 |.iface,.v .nilIface,.v .nilIface=>some true
 |.flat ks,.agg xs,.agg ys=>As ks xs ys
 |_,_,_=>none
theorem rV{c:HB}{x y:AV}{b:b5n}{K:b5n->Prop}(he:eqF c x y=some b)(hk:K b):Ee c x y K:=by
 unfold eqF at he;split at he<;>first|(cases he;done)|(cases he;exact hk)|(cases he;exact .inl ⟨by simp,hk⟩)|(simp only[Ee,he,Zy];exact hk)
def eu(op:UnOp)(x:AV):b5m AV:=
 match op,x with
 |.not,.v (.bool b)=>some (.v (.bool (!b)))
 |.neg,.v (.int k n)=>some (.v (.int k (k.wrap (0 - n))))
 |.xor,.v (.int k n)=>some (.v (.int k (I3 .xor k (if k.signed then -1 else k.max) n)))
 |_,_=>none
theorem us{op:UnOp}{x a:AV}{K:AV->Prop}(he:eu op x=some a)(hk:K a):VT op x K:=by
 unfold eu at he;split at he<;>first|(cases he;done)|(cases he;exact hk)
def Pw:b5l (b5l AV)->b5m (b5l UInt8)
 |[]=>some []
 |[.v (.int .u8 n)]::r=>if 0<=n/\n<256 then(Pw r).map λl=>UInt8.ofNat n.toNat::l else none
 |_=>none
theorem bZ:∀{els:b5l (b5l AV)}{l:b5l UInt8},Pw els=some l->els=S5 l
 |[],l,h=>by cases h;rfl
 |el::r,l,h=>by
  unfold Pw at h;split at h
  ·rename_i heq;cases heq
  ·rename_i n r' heq;cases heq;split at h
   ·rename_i hn;simp only[b43]at h;obtain⟨l',h1,rfl⟩:=h;rw[bZ h1]
    have:((UInt8.ofNat n.toNat).toNat:Int)=n:=by
     rw[UInt8.toNat_ofNat'];omega
    simp only[S5,List.map_cons,this]
   ·cases h
  ·cases h
def bM(c:CK)(x:AV):b5m AV:=
 match c,x with
 |.num k,.v (.int _ n)=>some (.v (.int k (k.wrap n)))
 |.XH,.v (.int _ n)=>some (.v (.string (Utf8.encode n)))
 |.same,.v (.string s)=>some (.v (.string s))
 |.str,.nil=>some (.v (.string ⟨⟨[]⟩⟩))
 |.str,.sl els _=>(Pw els).map λl=>.v (.string ⟨⟨l⟩⟩)
 |_,_=>none
theorem a5y{c:CK}{x a:AV}{K:AV->Prop}(he:bM c x=some a)(hk:K a):Nw c x K:=by
 unfold bM at he;split at he
 ·cases he;exact hk
 ·cases he;exact hk
 ·cases he;exact hk
 ·cases he;exact hk
 ·simp only[b43]at he;obtain⟨l,h1,rfl⟩:=he;exact⟨l,bZ h1,hk⟩
 ·cases he
def YZ(p:AV)(lo hi:b5m AV):b5m AV:=
 match p with
 |.v (.string s)=>(K3 0 lo).bind λl=>(K3 s.data.toList.length hi).bind λu=>
  if 0<=l/\l<=u/\u<=(s.data.toList.length:Int) then some (.v (.string ⟨⟨(s.data.toList.take u.toNat).drop l.toNat⟩⟩)) else none
 |_=>none
theorem Mw(s:b5k)(l u:Nat):s.extract l u=⟨⟨(s.data.toList.take u).drop l⟩⟩:=by
 apply ByteArray.ext;apply Array.ext';rw[ByteArray.data_extract];simp[List.extract,List.drop_take]
theorem wy{p a:AV}{lo hi:b5m AV}{K:AV->Prop}(he:YZ p lo hi=some a)(hk:K a):Mb p lo hi K:=by
 unfold YZ at he;split at he
 ·rename_i s;simp only[b44]at he;obtain⟨l,h1,u,h2,h3⟩:=he;split at h3
  ·rename_i hc;cases h3;have hs:s.data.toList.length=s.size:=Array.length_toList;rw[hs]at h2 hc;simp only[Mb,h1,h2];rw[Mw];exact⟨hc,hk⟩
  ·cases h3
 ·cases he
def CQ(size:Nat):b5l (b5l AV)->b5n
 |[]=>true
 |el::r=>decide (el.length=size)&&CQ size r
theorem Dn{size:Nat}:∀{l:b5l (b5l AV)},CQ size l->∀el∈l,el.length=size
 |[],_,el,h=>by simp at h
 |a::r,hs,el,h=>by
  simp only[CQ,b47,b45]at hs;rcases List.mem_cons.1 h with rfl|h
  ·exact hs.1
  ·exact Dn hs.2 el h
def bG(size:Nat)(p:AV)(lo hi mx:b5m AV):b5m AV:=
 match p,mx with
 |.nil,_=>(K3 0 lo).bind λl=>(K3 0 hi).bind λu=>(K3 0 mx).bind λm=>if l=0/\u=0/\m=0 then some .nil else none
 |.sl els tok,none=>(K3 0 lo).bind λl=>(K3 els.length hi).bind λu=>
  if(0<=l/\l<=u/\u<=(els.length:Int))/\CQ size els=true then some (.sl ((els.take u.toNat).drop l.toNat) (match lo,hi with|none,none=>tok|_,_=>.no)) else none
 |.sl els tok,some (.v (.int _ m))=>(K3 0 lo).bind λl=>(K3 els.length hi).bind λu=>
  if(0<=l/\l<=u/\u<=(els.length:Int))/\CQ size els/\m=u/\hi.isSome=true then some (.sl ((els.take u.toNat).drop l.toNat) .full) else none
 |.row n off sz len cap,none=>(K3 0 lo).bind λl=>(K3 len hi).bind λu=>
  if(0<=l/\l<=u/\u<=(len:Int))/\sz=size then(if l<(len:Int) then some (.row n (off+l.toNat*size) size (u.toNat - l.toNat) (cap - l.toNat)) else some (.sl [] .no))
  else if(0<=l/\l<u/\u<=(cap:Int)/\hi.isSome=true)/\sz=size then some (.row n (off+l.toNat*size) size (u.toNat - l.toNat) (cap - l.toNat)) else none
 |.row n off sz len cap,some (.v (.int _ m))=>(K3 0 lo).bind λl=>(K3 len hi).bind λu=>
  if(0<=l/\l<=u/\u<=(len:Int))/\sz=size/\m=u/\hi.isSome=true then(if l<u then some (.row n (off+l.toNat*size) size (u.toNat - l.toNat) (u.toNat - l.toNat)) else some (.sl [] .full))
  else if(0<=l/\l<=u/\u<=(len:Int))/\sz=size/\u<m/\m<=(len:Int)/\hi.isSome=true then some (.row n (off+l.toNat*size) size (u.toNat - l.toNat) (m.toNat - l.toNat)) else none
 |.bb (.raw id n) [] u,none=>match lo,hi with
  |none,some (.v (.int .i64 0))=>if size=1 then some (.bb (.own id) [] u) else none
  |_,_=>none
 |_,_=>none
theorem tW{size:Nat}{p a:AV}{lo hi mx:b5m AV}{K:AV->Prop}(he:bG size p lo hi mx=some a)(hk:K a):Ca size p lo hi mx K:=by
 unfold bG at he;split at he
 ·simp only[b44]at he;obtain⟨l,h1,u,h2,m,h3,h4⟩:=he;split at h4
  ·rename_i hc;cases h4;simp only[Ca,h1,h2,h3];exact⟨hc,hk⟩
  ·cases h4
 ·simp only[b44]at he;obtain⟨l,h1,u,h2,h4⟩:=he;split at h4
  ·rename_i hc;cases h4;simp only[Ca,h1,h2];exact⟨hc.1,Dn hc.2,hk⟩
  ·cases h4
 ·simp only[b44]at he;obtain⟨l,h1,u,h2,h4⟩:=he;split at h4
  ·rename_i hc;cases h4;simp only[Ca,h1,h2];refine⟨hc.1,Dn hc.2.1,hc.2.2.1,?_,hk⟩;intro hn;rw[hn]at hc;exact absurd hc.2.2.2 (by simp)
  ·cases h4
 ·simp only[b44]at he;obtain⟨l,h1,u,h2,h4⟩:=he;split at h4
  ·rename_i hc;simp only[Ca,h1,h2];refine .inl ⟨hc.1,hc.2,?_⟩;split at h4
   ·rename_i hl;cases h4;rw[if_pos hl];exact hk
   ·rename_i hl;cases h4;rw[if_neg hl];exact hk
  ·split at h4
   ·rename_i hc;cases h4;simp only[Ca,h1,h2];exact .inr ⟨⟨hc.1.1,hc.1.2.1,hc.1.2.2.1,by trivial,λhn=>by rw[hn]at hc;exact absurd hc.1.2.2.2 (by simp)⟩,hc.2,hk⟩
   ·cases h4
 ·simp only[b44]at he;obtain⟨l,h1,u,h2,h4⟩:=he;split at h4
  ·rename_i hc;simp only[Ca,h1,h2];refine .inl ⟨hc.1,hc.2.1,.inl ⟨⟨hc.2.2.1,λhn=>by rw[hn]at hc;exact absurd hc.2.2.2 (by simp)⟩,?_⟩⟩;split at h4
   ·rename_i hl;cases h4;rw[if_pos hl];exact hk
   ·rename_i hl;cases h4;rw[if_neg hl];exact hk
  ·split at h4
   ·rename_i hc;cases h4;simp only[Ca,h1,h2];exact .inl ⟨hc.1,hc.2.1,.inr ⟨⟨hc.2.2.1,hc.2.2.2.1,λhn=>by rw[hn]at hc;exact absurd hc.2.2.2.2 (by simp)⟩,hk⟩⟩
   ·cases h4
 ·split at he
  ·split at he
   ·rename_i hs;cases he;exact⟨hs,rfl,rfl,rfl,hk⟩
   ·cases he
  ·cases he
 ·cases he
def VE(n:Nat)(p:AV):b5m AV:=
 match p with
 |.ptr k off=>some (.ptr k (off+n))
 |.G6 cells off=>some (.G6 cells (off+n))
 |_=>none
theorem qQ{n:Nat}{p a:AV}{K:AV->Prop}(he:VE n p=some a)(hk:K a):Na n p K:=by
 unfold VE at he;split at he<;>first|(cases he;done)|(cases he;exact hk)
def UK(n:b5m Nat)(off:Nat)(x:AV):b5m AV:=
 match x,n with
 |.agg cells,none=>cells[off]?
 |.agg cells,some n=>if off+n<=cells.length then some (.agg ((cells.drop off).take n)) else none
 |_,_=>none
theorem ft{n:b5m Nat}{off:Nat}{x a:AV}{K:AV->Prop}(he:UK n off x=some a)(hk:K a):NA n off x K:=by
 unfold UK at he;split at he
 ·simp only[NA,he];exact hk
 ·split at he
  ·rename_i hc;cases he;exact⟨hc,hk⟩
  ·cases he
 ·cases he
def Xy(p i:AV):b5m AV:=
 match p,i with
 |.v (.string s),.v (.int _ n)=>if 0<=n/\n<(s.data.toList.length:Int) then some (.v (.int .u8 (I9 s n.toNat))) else none
 |_,_=>none
theorem uf{p i a:AV}{K:AV->Prop}(he:Xy p i=some a)(hk:K a):NQ p i K:=by
 unfold Xy at he;split at he
 ·rename_i s _ n;split at he
  ·rename_i hc;cases he;have hs:s.data.toList.length=s.size:=Array.length_toList;rw[hs]at hc;exact⟨hc,hk⟩
  ·cases he
 ·cases he
def Zw(len size:Nat)(n:b5m Nat)(p i:AV):b5m AV:=
 match i with
 |.v (.int _ j)=>if 0<=j/\j<(len:Int) then UK n (j.toNat*size) p else none
 |_=>none
theorem a8a{len size:Nat}{n:b5m Nat}{p i a:AV}{K:AV->Prop}(he:Zw len size n p i=some a)(hk:K a):RL len size n p i K:=by
 unfold Zw at he;split at he
 ·split at he
  ·rename_i hc;exact⟨hc,ft he hk⟩
  ·cases he
 ·cases he
def aX(size:Nat)(p i:AV):b5m AV:=
 match p,i with
 |.sl els _,.v (.int _ n)=>if(0<=n/\n<(els.length:Int))/\(els.getD n.toNat []).length=size then some (.G6 (els.getD n.toNat []) 0) else none
 |.row r off sz len _,.v (.int _ n)=>if(0<=n/\n<(len:Int))/\sz=size then some (.ptr r (off+n.toNat*size)) else none
 |_,_=>none
theorem d9{size:Nat}{p i a:AV}{K:AV->Prop}(he:aX size p i=some a)(hk:K a):MF size p i K:=by
 unfold aX at he;split at he
 ·split at he
  ·rename_i hc;cases he;exact⟨hc.1,hc.2,hk⟩
  ·cases he
 ·split at he
  ·rename_i hc;cases he;exact⟨hc.1,hc.2,hk⟩
  ·cases he
 ·cases he
def Zl(len size:Nat)(p i:AV):b5m AV:=
 match i with
 |.v (.int _ n)=>if 0<=n/\n<(len:Int) then VE (n.toNat*size) p else none
 |_=>none
theorem iH{len size:Nat}{p i a:AV}{K:AV->Prop}(he:Zl len size p i=some a)(hk:K a):Uu len size p i K:=by
 unfold Zl at he;split at he
 ·split at he
  ·rename_i hc;exact⟨hc,qQ he hk⟩
  ·cases he
 ·cases he
def ZA(t:TypeId)(ok:b5n)(zero x:AV):b5m AV:=
 match x,ok with
 |.iface u y,true=>some (if u=t then .tuple [y,.v (.bool true)] else .tuple [zero,.v (.bool false)])
 |.iface u y,false=>if u=t then some y else none
 |.v .nilIface,true=>some (.tuple [zero,.v (.bool false)])
 |_,_=>none
theorem a0z{t:TypeId}{ok:b5n}{zero x a:AV}{K:AV->Prop}(he:ZA t ok zero x=some a)(hk:K a):Ay t ok zero x K:=by
 unfold ZA at he;split at he
 ·cases he;simp only[Ay];split
  ·rename_i hu;rw[if_pos hu]at hk;exact hk
  ·rename_i hu;rw[if_neg hu]at hk;exact⟨by simp,hk⟩
 ·split at he
  ·rename_i hu;cases he;simp only[Ay];rw[if_pos hu];exact hk
  ·cases he
 ·cases he;exact⟨rfl,hk⟩
 ·cases he
def Yi(i:Nat)(x:AV):b5m AV:=
 match x with
 |.tuple vs=>vs[i]?
 |_=>none
theorem a0j{i:Nat}{x a:AV}{K:AV->Prop}(he:Yi i x=some a)(hk:K a):QY i x K:=by
 unfold Yi at he;split at he
 ·simp only[QY,he];exact hk
 ·cases he
def eR(str:b5n)(x:AV):b5m AV:=
 match str,x with
 |true,.v (.string s)=>some (.v (.int .i64 s.data.toList.length))
 |false,.nil=>some (.v (.int .i64 0))
 |false,.sl els _=>some (.v (.int .i64 els.length))
 |false,.row _ _ _ len _=>some (.v (.int .i64 len))
 |false,.bb .nil [] _=>some (.v (.int .i64 0))
 |false,.bb (.own _) els _=>some (.v (.int .i64 els.length))
 |_,_=>none
theorem zB{s:b5n}{x a:AV}{K:AV->Prop}(he:eR s x=some a)(hk:K a):LI s x K:=by
 unfold eR at he;split at he
 ·cases he;rename_i s;have hs:s.data.toList.length=s.size:=Array.length_toList;rw[hs]at hk;exact hk
 ·cases he;exact hk
 ·cases he;exact hk
 ·cases he;exact hk
 ·cases he;exact hk
 ·cases he;exact hk
 ·cases he
def SW(h:A3)(size bytes:Nat)(x y:AV):b5m (AV × A3):=
 (S0 h size y).bind λys=>if CQ size ys=true then
  match x with
  |.nil=>if ys.length*bytes<=140737488355328 then some (.sl ys (.own h.A9.length),⟨h.A5,h.A9++[(ys.length,size)],h.B0⟩) else none
  |.sl els .full=>if CQ size els/\(els.length+ys.length)*bytes<=140737488355328 then(match ys with
   |[]=>some (.sl els .full,h)
   |_::_=>some (.sl (els++ys) (.own h.A9.length),⟨h.A5,h.A9++[(els.length+ys.length,size)],h.B0⟩)) else none
  |.sl els (.own id)=>if CQ size els/\h.A9[id]? =some (els.length,size)/\(els.length+ys.length)*bytes<=140737488355328 then some (.sl (els++ys) (.own id),⟨h.A5,h.A9.set id (els.length+ys.length,size),h.B0⟩) else none
  |.row n off sz len cap=>if sz=size/\(len+ys.length)*bytes<=140737488355328 then match h.A5[n]? with
   |some (some cells)=>if I4 cells/\off+len*size<=cells.length then
    if len+ys.length<=cap then some (.row n off size (len+ys.length) cap,⟨h.A5.set n (some (cells.take (off+len*size)++ys.flatten++cells.drop (off+len*size+ys.flatten.length))),h.A9,h.B0⟩)
    else if off=0/\cells.length=len*size then some (.row h.A5.length 0 size (len+ys.length) (len+ys.length),⟨h.A5.set n (some [])++[some (cells++ys.flatten)],h.A9,h.B0⟩) else none
    else none
   |_=>none
   else none
  |_=>none
 else none
theorem nf{h h':A3}{size bytes:Nat}{x y a:AV}{K:AV->A3->Prop}(he:SW h size bytes x y=some (a,h'))(hk:K a h'):EV h size bytes x y K:=by
 simp only[SW,b44]at he;obtain⟨ys,h1,h2⟩:=he;simp only[EV,h1];split at h2
 ·rename_i hs;refine⟨Dn hs,?_⟩;split at h2
  ·split at h2
   ·rename_i hc;cases h2;exact⟨hc,hk⟩
   ·cases h2
  ·split at h2
   ·rename_i hc;refine⟨Dn hc.1,hc.2,?_⟩;split at h2
    ·cases h2;exact⟨λ_=>hk,λh=>absurd rfl h⟩
    ·cases h2;exact⟨λh=>by simp at h,λ_=>hk⟩
   ·cases h2
  ·split at h2
   ·rename_i hc;cases h2;exact⟨Dn hc.1,hc.2.1,hc.2.2,hk⟩
   ·cases h2
  ·split at h2
   ·rename_i hc;refine⟨hc.1,hc.2,?_⟩;split at h2
    ·rename_i hb;simp only[hb];split at h2
     ·rename_i hin;refine⟨hin,?_⟩;split at h2
      ·rename_i hl;cases h2;rw[if_pos hl];exact hk
      ·rename_i hl;rw[if_neg hl];split at h2
       ·rename_i hw;cases h2;exact⟨hw,hk⟩
       ·cases h2
     ·cases h2
    ·cases h2
   ·cases h2
  ·cases h2
 ·cases h2
def bJ(h:A3)(size bytes:Nat)(x y:AV):b5m (AV × A3):=
 (S0 h size y).bind λys=>if CQ size ys/\ys.length≠0 then
  match x with
  |.nil=>if ys.length*bytes<=140737488355328 then some (.row h.A5.length 0 size ys.length ys.length,⟨h.A5++[some ys.flatten],h.A9,h.B0⟩) else none
  |.sl els .full=>if CQ size els/\(els.length+ys.length)*bytes<=140737488355328 then some (.row h.A5.length 0 size (els.length+ys.length) (els.length+ys.length),⟨h.A5++[some (els.flatten++ys.flatten)],h.A9,h.B0⟩) else none
  |_=>none
 else none
theorem a4b{h h':A3}{size bytes:Nat}{x y a:AV}{K:AV->A3->Prop}(he:bJ h size bytes x y=some (a,h'))(hk:K a h'):Mz h size bytes x y K:=by
 simp only[bJ,b44]at he;obtain⟨ys,h1,h2⟩:=he;simp only[Mz,h1];split at h2
 ·rename_i hs;refine⟨⟨Dn hs.1,λhn=>hs.2 (by rw[hn];rfl)⟩,?_⟩;split at h2
  ·split at h2
   ·rename_i hc;cases h2;exact⟨hc,hk⟩
   ·cases h2
  ·split at h2
   ·rename_i hc;cases h2;exact⟨Dn hc.1,hc.2,hk⟩
   ·cases h2
  ·cases h2
 ·cases h2
def Qc(P:Program)(F G:Env)(h:A3)(H':b5m A3)(o:C2):Prop:=
 ∃av h2,H'=some h2/\((∃cells n,o.op=.alloc cells/\h.A5[n]? =some none/\av=.ptr n 0/\h2=⟨h.A5.set n (some cells),h.A9,h.B0⟩)\/E9 P o.op G h (λa b=>a=av/\b=h2))/\∀d,o.dst=some d->get F d=some av
def Rs(P:Program)(F G:Env)(h:A3)(H':b5m A3)(o:C2):Prop:=
 let skip:=H'=some h/\∀d,o.dst=some d->get F d=some (.tuple [])
 match o.guard with
 |none=>Qc P F G h H' o
 |some (t,want)=>(∃b,get G t=some (.v (.bool b))/\(b=want->Qc P F G h H' o)/\(b≠want->skip))\/(get G t=some (.tuple [])/\skip)
def VU(L:Nat->b5n)(i:Nat):Nat->b5n:=λk=>if k=i then true else L k
structure Ku(P:Program)(ord:List (List Nat))(al:List C2)(env F:Env)(G:Nat->Env)(h h':A3)(n:Nat)(H:(Nat->Bool)->Option A3):Prop where
 Fz:∀L L',(∀i,i<al.length->L i=L' i)->H L=H L'
 first:H (λ_=>false)=some ⟨h.A5++List.replicate n none,h.A9,h.B0⟩
 last:∀hL,H (λ_=>true)=some hL->hL=h'
 keep:∀t,I2 t al=false->get F t=get env t
 step:∀(L:Nat->Bool) (i:Nat) (o:C2) (hL:A3),al[i]? =some o->L i=false->(∀k j,k<al.length->L k->j∈ord.getD k []->L j)->(∀k∈ord.getD i [],L k=true)->H L=some hL->Rs P F (G i) hL (H (VU L i)) o
section
variable {P:Program}{σ:Sg}{h:A3}{env:Env}{N:Nat}{a:Act}
def Hj(ops:Array Oper)(m:Nat)(listed:Array b5n)(t:Tmp):Prop:=∀k,k<m->(ops[k]?).bind (·.dst)=some t->listed.getD k true=false
theorem WY(A B:Env)(t:Nat):get (A++B) t=(get A t).or (get B t):=by
 induction A with
 |nil=>simp[get]
 |cons q A ih=>
  obtain⟨k,v⟩:=q;simp only[List.cons_append,get];split
  ·simp
  ·exact ih
structure Zi(ops:Array Oper)(m:Nat)(e0 F:Env)(H:(Nat->Bool)->Option A3)(N:Nat)(listed:Array Bool)(σ:Sg)(a:Act):Prop where
 inv:∃h,H (λk=>listed.getD k true)=some h/\Inv h σ
 env:P7 σ (Q9 (N6 ops m listed) F) a.tmps
 old:P7 σ (Q9 (Hj ops m listed) e0) a.tmps
 size:a.tmps.size=N
 defers:a.defers=[]
 closed:∀k i:Nat,k<m->listed.getD k true->i∈(T0 ops m).getD k []->listed.getD i true=true
set_option maxHeartbeats 1000000 in
theorem b20{md:Region.Mode}{ops:Array Oper}{al:b5l C2}{env F:Env}{G:Nat->Env}{h h':A3}{n:Nat}{H:(Nat->b5n)->b5m A3}(hq:W3 P N ops (ops.toList.take al.length)=some al)(hm:al.length<=ops.size)(ho:OrderB ops al.length)(hG:∀i o,al[i]? =some o->∀t∈o.looks,((∀k,k<al.length->(ops[k]?).bind (·.dst)=some t->S6 ops i k)/\get (G i) t=get F t)\/((∀k,k<al.length->(ops[k]?).bind (·.dst)=some t->k=i\/S6 ops k i)/\get (G i) t=get env t))(hF:Ku P (clo (T0 ops al.length)) al env F G h h' n H){Q:Exit->Act->World->Prop}{σ₀:Sg}(hend:∀σ a,Le σ₀ σ->St σ h' F N a->wpOps P ops Q (List.range' al.length (ops.size - al.length)) a σ.w):
  ∀(f:Nat) (listed:Array b5n) (a:Act) (σ:Sg),listed.size=ops.size->(∀i,al.length<=i->i<ops.size->listed.getD i true=false)->Le σ₀ σ->Zi ops al.length env F H N listed σ a->listed.toList.count false<=f->wpAny P md ops Q f listed a σ.w:=by
 obtain⟨hlen,hget⟩:=GY hq
 have hfin:∀(listed:Array b5n) (a:Act) (σ:Sg),Zi ops al.length env F H N listed σ a->(∀i,i<al.length->listed.getD i true)->St σ h' F N a:=by
  intro listed a σ hh hall;obtain⟨hj,h1,h2⟩:=hh.inv;rw[hF.Fz _ (λ_=>true) hall]at h1;have:=hF.last hj h1;subst this;exact⟨h2,λt av hg=>hh.env t av (by rw[T6,if_pos (show N6 ops al.length listed t from λk hk _=>hall k hk)];exact hg),hh.size,hh.defers⟩
 intro f
 induction f with
 |zero=>
  intro listed a σ hsz htail hle hh hc
  have hall:∀i,i<ops.size->listed.getD i true:=by
   intro i hi;cases hb:listed.getD i true with
   |true=>rfl
   |false=>
    exfalso
    have hmem:false∈listed.toList:=by
     rw[List.mem_iff_getElem?];refine⟨i,?_⟩;have:listed[i]? =some listed[i]:=Array.getElem?_eq_getElem (by omega);simp only[Array.getD_eq_getD_getElem?,this,Option.getD_some]at hb;simp only[Array.getElem?_toList,this,hb]
    have:=List.count_pos_iff.2 hmem;omega
  have hmn:al.length=ops.size:=by
   by_cases he:al.length=ops.size
   ·exact he
   ·have:=htail al.length (Nat.le_refl _) (by omega);rw[hall _ (by omega)]at this;cases this
  have:=hend σ a hle (hfin listed a σ hh λi hi=>hall i (by omega));refine LM ho 0 al.length listed a σ.w (Nat.le_refl _) hm (by omega) hsz (λi hi=>by rw[hall i hi];simp;omega) this
 |succ f ih=>
  intro listed a σ hsz htail hle hh hc
  by_cases hall:∀i,i<al.length->listed.getD i true=true
  ·refine LM ho (f+1) al.length listed a σ.w (Nat.le_refl _) hm ?_ hsz (λi hi=>?_) (hend σ a hle (hfin listed a σ hh hall))
   ·have hcnt:ops.size - al.length<=listed.toList.count false:=by
     have hsplit:listed.toList=listed.toList.take al.length++listed.toList.drop al.length:=(List.take_append_drop _ _).symm;rw[hsplit,List.count_append]
     have hd:listed.toList.drop al.length=List.replicate (ops.size - al.length) false:=by
      apply List.eq_replicate_iff.2;refine⟨by simp[hsz],λb hb=>?_⟩;obtain⟨i,hi⟩:=List.mem_iff_getElem?.1 hb;rw[List.getElem?_drop]at hi;have hlt:=(List.getElem?_eq_some_iff.1 hi).1;have:=htail (al.length+i) (by omega) (by simpa[hsz]using hlt);simp only[Array.getElem?_toList]at hi;simp only[Array.getD_eq_getD_getElem?,hi,Option.getD_some]at this;exact this
     rw[hd,List.count_replicate];simp
    omega
   ·by_cases him:i<al.length
    ·rw[hall i him];simp[him]
    ·rw[htail i (by omega) hi];simp[him]
  ·obtain⟨i0,hi0,hn0⟩:∃i,i<al.length/\listed.getD i true=false:=by
    false_or_by_contra
    rename_i hcon
    exact hall λi hi=>by
     cases hb:listed.getD i true with
     |true=>rfl
     |false=>exact absurd ⟨i,hi,hb⟩ hcon
   refine⟨λhnil=>?_,λi hi=>?_⟩
   ·obtain⟨i,hi⟩:=WQ (md:=md) ho hsz ⟨i0,by omega,hn0⟩;rw[hnil]at hi;cases hi
   ·obtain⟨hun,o,hoi,hdeps⟩:=Gd.1 hi;have hin:=(Array.getElem?_eq_some_iff.1 hoi).1
    have him:i<al.length:=by
     by_cases h':i<al.length
     ·exact h'
     ·rcases ho.tail i hin (by omega) with h|⟨hmi,h⟩|⟨hmi,h⟩
      ·exact absurd hi (CZ (h i0 (by omega)) hn0)
      ·exact absurd hi (CZ h (htail (i - 1) (by omega) (by omega)))
      ·subst hmi;exact absurd hi (YW h hi0 hn0 λk j hk hj hl hah=>hh.closed k j hk hl (RZ hk hj hah))
    obtain⟨ao,hao,hco⟩:=hget i o (by rw[List.getElem?_take,if_pos him];simpa using hoi);obtain⟨hop,hd,hdst,hguard⟩:=GZ hco;obtain⟨hj,hjs,hinv⟩:=hh.inv
    have hahead0:∀k,k∈(T0 ops al.length).getD i []->listed.getD k true:=by
     intro k hk;have ha:=(IT hk).2;cases hb:listed.getD k true with
     |true=>rfl
     |false=>exact absurd hi (CZ ha hb)
    have hahead:∀k,k∈(clo (T0 ops al.length)).getD i []->listed.getD k true:=by
     intro k hk;rcases bw hk with h1|⟨j,h1,h2,h3⟩
     ·exact hahead0 k h1
     ·exact NB (L:=λk=>listed.getD k true) hh.closed (j+1) j (by omega) (IT h1).1 (hahead0 j h1) _ h3
    have hsee:∀t,(∀k,k<al.length->(ops[k]?).bind (·.dst)=some t->S6 ops i k)->N6 ops al.length listed t:=by
     intro t ht k hk hkd;have ha:=ht k hk hkd;unfold S6 at ha;rw[hoi]at ha;simp only[Array.any_eq_true']at ha;obtain⟨e,he,hb⟩:=ha;simp only[b47,beq_iff_eq]at hb;have:=hdeps e he (RE hb.1);rw[hb.2,NX (by omega) false true]at this;exact this
    have hboth:∀t,N6 ops al.length listed t->Hj ops al.length listed t->get F t=get env t:=by
     intro t h1 h2;refine hF.keep t ?_;cases hwb:I2 t al with
     |false=>rfl
     |true=>
      exfalso;unfold I2 at hwb;rw[List.any_eq_true]at hwb;obtain⟨w,hmem,hod⟩:=hwb;obtain⟨k,hk⟩:=List.mem_iff_getElem?.1 hmem;have hkl:k<al.length:=(List.getElem?_eq_some_iff.1 hk).1;have hops:ops[k]? =some ops[k]:=Array.getElem?_eq_getElem (by omega);obtain⟨wo,hwo,hwc⟩:=hget k ops[k] (by rw[List.getElem?_take,if_pos hkl];simpa using hops);rw[hk]at hwo;cases hwo;have hwd:=(GZ hwc).2.2.1;have hkd:(ops[k]?).bind (·.dst)=some t:=by rw[hops];simp only[Option.bind_some];rw[<-hwd];simpa using hod
      have e1:=h1 k hkl hkd;rw[h2 k hkl hkd]at e1;cases e1
    generalize hE:Q9 (N6 ops al.length listed) F++Q9 (Hj ops al.length listed) env=E
    have hEs:∀t,N6 ops al.length listed t->get E t=get F t:=by
     intro t ht;rw[<-hE,WY,T6,if_pos ht,T6];split
     ·rename_i hf;rw[hboth t ht hf];simp
     ·simp
    have hEf:∀t,Hj ops al.length listed t->get E t=get env t:=by
     intro t ht
     by_cases hs:N6 ops al.length listed t
     ·rw[hEs t hs,hboth t hs ht]
     ·rw[<-hE,WY,T6,if_neg hs,T6,if_pos ht];simp
    have henvE:P7 σ E a.tmps:=by
     intro t av hg;rw[<-hE,WY,Option.or_eq_some_iff]at hg;rcases hg with hg|⟨_,hg⟩
     ·exact hh.env t av hg
     ·exact hh.old t av hg
    have hlook:∀t∈ao.looks,get E t=get (G i) t:=by
     intro t ht;rcases hG i ao hao t ht with⟨h1,h2⟩|⟨h1,h2⟩
     ·rw[h2];exact hEs t (hsee t h1)
     ·rw[h2];refine hEf t λk hk hkd=>?_
      rcases h1 k hk hkd with rfl|h1
      ·exact hun
      ·cases hb:listed.getD k true with
       |false=>rfl
       |true=>
        have:=hh.closed k i hk hb (RZ hk him h1);rw[hun]at this;cases this
    have hst:St σ hj E N a:=⟨hinv,henvE,hh.size,hh.defers⟩
    have hcount:(listed.setIfInBounds i true).toList.count false<=f:=by
     have hget':listed.toList[i]'(by simp;omega)=false:=by
      have:listed[i]? =some listed[i]:=Array.getElem?_eq_getElem (by omega);simp only[Array.getD_eq_getD_getElem?,this,Option.getD_some]at hun;simpa using hun
     have:=List.count_set (a:=true) (b:=false) (l:=listed.toList) (i:=i) (by simp;omega);simp only[Array.toList_setIfInBounds];rw[this,hget'];have hp:0<listed.toList.count false:=List.count_pos_iff.2 (by rw[List.mem_iff_getElem];exact⟨i,by simp;omega,hget'⟩);show listed.toList.count false - 1+0<=f;omega
    have hnext:∀(a':Act) (σ':Sg),Le σ σ'->Zi ops al.length env F H N (listed.setIfInBounds i true) σ' a'->wpAny P md ops Q f (listed.setIfInBounds i true) a' σ'.w:=by
     intro a' σ' hl' hh';refine ih _ a' σ' (by simp[hsz]) (λk hk1 hk2=>?_) (hle.trans hl') hh' hcount;rw[AE (by omega),if_neg (by omega)];exact htail k hk1 hk2
    have hseen':∀t,N6 ops al.length (listed.setIfInBounds i true) t->(ops[i]?).bind (·.dst)≠some t->N6 ops al.length listed t:=by
     intro t ht hne k hk hkd;have:=ht k hk hkd;rw[AE (by omega)]at this
     by_cases hik:i=k
     ·subst hik;exact absurd hkd hne
     ·rwa [if_neg hik]at this
    have hbind:(ops[i]?).bind (·.dst)=o.dst:=by rw[hoi];rfl
    have hclosed:∀k l:Nat,k<al.length->(listed.setIfInBounds i true).getD k true->l∈(T0 ops al.length).getD k []->(listed.setIfInBounds i true).getD l true:=by
     intro k l hk hkl hl;rw[AE (by omega)]
     by_cases hil:i=l
     ·rw[if_pos hil]
     ·rw[if_neg hil]
      by_cases hik:i=k
      ·subst hik;exact hahead0 l hl
      ·rw[AE (by omega),if_neg hik]at hkl;exact hh.closed k l hk hkl hl
    have Fz:∀K:AV->A3->Prop,E9 P ao.op (G i) hj K->E9 P ao.op E hj K:=by
     intro K hk;rw[PF (e1:=E) (e2:=G i)]
     ·exact hk
     ·intro x hx;cases x with
      |c a=>rfl
      |t n=>
       refine hlook n ?_;simp only[C2.looks,List.mem_append,List.mem_filterMap];exact .inl ⟨.t n,hx,rfl⟩
    have hunwr':∀t,Hj ops al.length (listed.setIfInBounds i true) t->o.dst≠some t/\Hj ops al.length listed t:=by
     intro t ht;refine⟨λhd=>?_,λk hk hkd=>?_⟩
     ·have:=ht i him (by rw[hbind];exact hd);rw[AE (by omega),if_pos rfl]at this;cases this
     ·have:=ht k hk hkd;rw[AE (by omega)]at this;split at this
      ·cases this
      ·exact this
    have envOK:∀(σ':Sg) (a':Act) (av:AV),P7 σ' (M9 E o.dst av) a'.tmps->(∀d,ao.dst=some d->get F d=some av)->P7 σ' (Q9 (N6 ops al.length (listed.setIfInBounds i true)) F) a'.tmps:=by
     intro σ' a' av he hfd t bv hg;rw[T6]at hg;split at hg
     ·rename_i hs
      by_cases hdt:o.dst=some t
      ·have:=hfd t (by rw[hdst];exact hdt);rw[this]at hg;cases hg;exact he t av (by rw[BX,if_pos hdt])
      ·exact he t bv (by rw[BX,if_neg hdt,hEs t (hseen' t hs (by rw[hbind];exact hdt))];exact hg)
     ·cases hg
    have oldOK:∀(σ':Sg) (a':Act) (av:AV),P7 σ' (M9 E o.dst av) a'.tmps->P7 σ' (Q9 (Hj ops al.length (listed.setIfInBounds i true)) env) a'.tmps:=by
     intro σ' a' av he t bv hg;rw[T6]at hg;split at hg
     ·rename_i hs;obtain⟨h1,h2⟩:=hunwr' t hs;exact he t bv (by rw[BX,if_neg h1,hEf t h2];exact hg)
     ·cases hg
    have hfact:=hF.step (λk=>listed.getD k true) i ao hj hao hun (λk j hk hkl hj=>NB (L:=λk=>listed.getD k true) hh.closed (k+1) k (by omega) hk hkl _ hj) hahead hjs
    have hup:H (VU (λk=>listed.getD k true) i)=H (λk=>(listed.setIfInBounds i true).getD k true):=by
     refine hF.Fz _ _ λk hk=>?_
     show(if k=i then true else listed.getD k true)=_;rw[AE (by omega)]
     by_cases hki:k=i
     ·subst hki;simp
     ·rw[if_neg hki,if_neg (Ne.symm hki)]
    rw[hup]at hfact
    have does:Qc P F (G i) hj (H λk=>(listed.setIfInBounds i true).getD k true) ao->Oper.wp P o a σ.w (wpAny P md ops Q f (listed.setIfInBounds i true)) Q:=by
     rintro⟨av,h2,hH,hdo,hfd⟩;rcases hdo with⟨cells,nm,ha,hn,rfl,rfl⟩|hdo
     ·refine Oper.wp_mono (λa' w' hb=>?_) (jZ (gq (ha▸hop) (by simp)) hst hd hn Q);obtain⟨σ',rfl,l1,s1⟩:=hb;exact hnext a' σ' l1 ⟨⟨_,hH,s1.inv⟩,envOK σ' a' _ s1.env hfd,oldOK σ' a' _ s1.env,s1.size,s1.defers,hclosed⟩
     ·refine Oper.wp_mono (λa' w' hb=>?_) (Py hop hst hd (Fz _ hdo) Q);obtain⟨σ',h',av',rfl,l1,s1,rfl,rfl⟩:=hb;exact hnext a' σ' l1 ⟨⟨_,hH,s1.inv⟩,envOK σ' a' _ s1.env hfd,oldOK σ' a' _ s1.env,s1.size,s1.defers,hclosed⟩
    unfold wpOp;rw[hoi];simp only
    have skip:((H λk=>(listed.setIfInBounds i true).getD k true)=some hj/\∀d,ao.dst=some d->get F d=some (.tuple []))->wpAny P md ops Q f (listed.setIfInBounds i true) (a.put o.dst undef) σ.w:=by
     rintro⟨hH,hno⟩;have s1:=hst.skipped o.dst hd;refine hnext _ σ (Le.refl σ) ⟨⟨_,hH,s1.inv⟩,?_,?_,s1.size,s1.defers,hclosed⟩
     ·intro u bv hg;rw[T6]at hg;split at hg
      ·rename_i hs
       by_cases hdt:o.dst=some u
       ·have:=hno u (by rw[hdst];exact hdt);rw[this]at hg;cases hg;exact s1.env u _ (by rw[CX,if_pos hdt])
       ·exact s1.env u bv (by rw[CX,if_neg hdt,hEs u (hseen' u hs (by rw[hbind];exact hdt))];exact hg)
      ·cases hg
     ·intro u bv hg;rw[T6]at hg;split at hg
      ·rename_i hs;obtain⟨h1,h2⟩:=hunwr' u hs;exact s1.env u bv (by rw[CX,if_neg h1,hEf u h2];exact hg)
      ·cases hg
    unfold Rs at hfact;rcases hguard with⟨hg1,hg2⟩|⟨jg,b,t,hg1,hg2,hg3⟩
    ·have hw:Region.wanted o (yielded ops a.tmps):=by simp[Region.wanted,hg1]
     rw[if_pos hw];rw[hg2]at hfact;exact .inl (does hfact)
    ·rw[hg2]at hfact;rcases hfact with⟨c,hgt,hyes,hno⟩|⟨hgt,hno⟩
     ·have hy:yielded ops a.tmps jg=some c:=VV (env:=E) hg3 henvE (by rw[hlook t (by simp[C2.looks,hg2])];exact hgt)
      by_cases hcb:c=b
      ·have hw:Region.wanted o (yielded ops a.tmps):=by simp[Region.wanted,hg1,hy,hcb]
       rw[if_pos hw];exact .inl (does (hyes hcb))
      ·have hw:Region.wanted o (yielded ops a.tmps)=false:=by simp[Region.wanted,hg1,hy,hcb]
       rw[hw];simp only[Bool.false_eq_true,if_false];exact skip (hno hcb)
     ·have hy:yielded ops a.tmps jg=none:=Re (env:=E) hg3 henvE (by rw[hlook t (by simp[C2.looks,hg2])];exact hgt);have hw:Region.wanted o (yielded ops a.tmps)=false:=by simp[Region.wanted,hg1,hy]
      rw[hw];simp only[Bool.false_eq_true,if_false];exact skip hno
theorem ll{id:Nat}{ops:Array Oper}{al tl:b5l C2}(hq:W3 P N ops (ops.toList.take al.length)=some al)(ht:W3 P N ops (ops.toList.drop al.length)=some tl)(ho:OrderB ops al.length)(h3:al.length<=ops.size){Q:Exit->Env->A3->Prop}(hs:St σ h env N a){F:Env}{G:Nat->Env}{h':A3}{n:Nat}{H:(Nat->b5n)->b5m A3}(hn:Ku P (clo (T0 ops al.length)) al env F G h h' n H)(hG:∀i o,al[i]? =some o->∀t∈o.looks,((∀k,k<al.length->(ops[k]?).bind (·.dst)=some t->S6 ops i k)/\get (G i) t=get F t)\/((∀k,k<al.length->(ops[k]?).bind (·.dst)=some t->k=i\/S6 ops k i)/\get (G i) t=get env t))(hv:AT P tl F h' λenv' h'=>Q .normal env' h'):(Code.region id ops true).wp P (BI σ N Q) a σ.w:=by
 have hd:K9 σ.w {σ.w with drawn:=σ.w.drawn+1}:=⟨Nat.le_refl _,λ_ _=>rfl,rfl,rfl,rfl⟩
 let σ1:Sg:={σ with w:={σ.w with drawn:=σ.w.drawn+1}}
 have hle1:Le σ σ1:=Le.world hd;have hi1:Inv h σ1:=hs.inv.world hd;obtain⟨hlen,hget⟩:=GY hq;have hrep:∀i,i<ops.size->(Array.replicate ops.size false).getD i true=false:=λi hi=>by simp[Array.getD_eq_getD_getElem?,Array.getElem?_replicate,hi]
 have every:∀md:Region.Mode,wpAny P md ops (BI σ N Q) ops.size (Array.replicate ops.size false) a {σ.w with drawn:=σ.w.drawn+1}:=by
  intro md;refine b20 (σ₀:=σ1) hq h3 ho hG hn ?_ ops.size _ a σ1 (by simp) (λi _ hi=>hrep i hi) (Le.refl _) ?_ ?_
  ·intro σ2 a2 l2 s2;have hlen2:(ops.toList.drop al.length).length=ops.size - al.length:=by simp
   rw[<-hlen2];refine KU (σ₀:=σ1) (K:=λenv' h'=>Q .normal env' h') (λσ3 h3 env3 a3 l3 s3 q3=>⟨trivial,σ3,h3,env3,rfl,hle1.trans l3,s3,q3⟩) _ _ tl σ2 h' F a2 (λj hj=>?_) ht l2 s2 hv;rw[List.getElem?_drop,Array.getElem?_toList]
  ·refine⟨⟨⟨h.A5++List.replicate n none,h.A9,h.B0⟩,?_,mr hi1 n⟩,?_,?_,hs.size,hs.defers,?_⟩
   ·rw[<-hn.first];exact hn.Fz _ _ λi hi=>hrep i (by omega)
   ·intro t av hg;rw[T6]at hg;split at hg
    ·rename_i hsn
     have hw:I2 t al=false:=by
      cases hwb:I2 t al with
      |false=>rfl
      |true=>
       exfalso;unfold I2 at hwb;rw[List.any_eq_true]at hwb;obtain⟨o,hmem,hod⟩:=hwb;obtain⟨i,hi⟩:=List.mem_iff_getElem?.1 hmem;have hil:i<al.length:=(List.getElem?_eq_some_iff.1 hi).1;have hops:ops[i]? =some ops[i]:=Array.getElem?_eq_getElem (by omega);obtain⟨ao,hao,hco⟩:=hget i ops[i] (by rw[List.getElem?_take,if_pos hil];simpa using hops);rw[hi]at hao;cases hao;have:=(GZ hco).2.2.1;have hf:=hsn i hil (by rw[hops];simp only[Option.bind_some];rw[<-this];simpa using hod);rw[hrep i (by omega)]at hf;cases hf
     rw[hn.keep t hw]at hg;obtain⟨x,q1,q2⟩:=hs.env t av hg;exact⟨x,q1,q2.mono hle1⟩
    ·cases hg
   ·intro t av hg;rw[T6]at hg;split at hg
    ·obtain⟨x,q1,q2⟩:=hs.env t av hg;exact⟨x,q1,q2.mono hle1⟩
    ·cases hg
   ·intro k i hil hkl;rw[hrep k (by omega)]at hkl;cases hkl
  ·simp
 refine wp_region_draw λt=>?_
 unfold Region.schedule;split
 ·exact wpAny_sound ops.size t _ a _ (every .any)
 ·exact wpAny_sound ops.size (t / 2) _ a _ (every _)
theorem vl{id:Nat}{ops:Array Oper}{al tl:b5l C2}(hq:W3 P N ops (ops.toList.take al.length)=some al)(ht:W3 P N ops (ops.toList.drop al.length)=some tl)(hok:Is ops al){Q:Exit->Env->A3->Prop}(hs:St σ h env N a){F:Env}{h':A3}{n:Nat}{H:(Nat->b5n)->b5m A3}(hn:Ku P (clo (T0 ops al.length)) al env F (λ_=>F) h h' n H)(hv:AT P tl F h' λenv' h'=>Q .normal env' h'):(Code.region id ops true).wp P (BI σ N Q) a σ.w:=by
 simp only[Is,b47,b45]at hok;obtain⟨⟨⟨h1,h2⟩,h3⟩,h4⟩:=hok;have ho:=Xx h1;exact ll hq ht ho.toOrderB h3 hs hn (λi o hi t ht=>.inl ⟨λk hk hkd=>ho.head i o (List.getElem?_eq_some_iff.1 hi).1 hi t ht k hk hkd,rfl⟩) hv
def Ng(ord:b5l (b5l Nat))(al:b5l C2)(i t:Nat):b5n:=(List.range al.length).any λk=>((al[k]?).bind (·.dst)==some t)&& !(ord.getD i []).contains k
def pick(p:Nat->b5n):Env->Env
 |[]=>[]
 |(t,v)::e=>if p t=true then(t,v)::pick p e else pick p e
theorem RO(p:Nat->b5n):∀(e:Env) (t:Nat),get (pick p e) t=if p t=true then get e t else none
 |[],t=>by simp[pick,get]
 |(k,v)::e,t=>by
  by_cases hk:p k=true
  ·simp only[pick,if_pos hk,get]
   by_cases hkt:k=t
   ·subst hkt;simp[hk]
   ·rw[if_neg hkt,if_neg hkt];exact RO p e t
  ·simp only[pick,if_neg hk,get];rw[RO p e t]
   by_cases hkt:k=t
   ·subst hkt;simp[hk]
   ·rw[if_neg hkt]
def Po(ord:b5l (b5l Nat))(al:b5l C2)(env F:Env)(i:Nat):Env:=pick (λt=> !Ng ord al i t) F++pick (Ng ord al i) env
theorem xQ(ord:b5l (b5l Nat))(al:b5l C2)(env F:Env)(i t:Nat):get (Po ord al env F i) t=if Ng ord al i t=true then get env t else get F t:=by
 unfold Po;rw[WY,RO,RO];cases Ng ord al i t<;>simp
theorem vO{id:Nat}{ops:Array Oper}{al tl:b5l C2}(hq:W3 P N ops (ops.toList.take al.length)=some al)(ht:W3 P N ops (ops.toList.drop al.length)=some tl)(hok:bN ops al){Q:Exit->Env->A3->Prop}(hs:St σ h env N a){F:Env}{h':A3}{n:Nat}{H:(Nat->b5n)->b5m A3}(hn:Ku P (clo (T0 ops al.length)) al env F (Po (T0 ops al.length) al env F) h h' n H)(hv:AT P tl F h' λenv' h'=>Q .normal env' h'):(Code.region id ops true).wp P (BI σ N Q) a σ.w:=by
 simp only[bN,b47,b45]at hok;obtain⟨⟨⟨h1,h2⟩,h3⟩,h4⟩:=hok
 have ho:OrderB ops al.length:=by
  refine⟨λmd=>by cases md<;>simp[h1],λi hi hm=>?_⟩;have:=List.all_eq_true.1 h2 i (List.mem_range.2 hi);simp only[Bool.or_eq_true,b47,b45,b5e]at this;rcases this with((h|h)|h)|h
  ·omega
  ·exact .inl λj hj=>h j (List.mem_range.2 hj)
  ·exact .inr (.inl h)
  ·exact .inr (.inr h)
 obtain⟨hlen,hget⟩:=GY hq
 have hdst:∀k,k<al.length->(al[k]?).bind (·.dst)=(ops[k]?).bind (·.dst):=by
  intro k hk;have hops:ops[k]? =some ops[k]:=Array.getElem?_eq_getElem (by omega);obtain⟨wo,hwo,hwc⟩:=hget k ops[k] (by rw[List.getElem?_take,if_pos hk];simpa using hops);rw[hwo,hops];exact(GZ hwc).2.2.1
 refine ll hq ht ho h3 hs hn (λi o hi t htl=>?_) hv;have him:=(List.getElem?_eq_some_iff.1 hi).1;have hlk:=List.all_eq_true.1 h4 i (List.mem_range.2 him);rw[hi]at hlk;simp only[b5e]at hlk;have:=hlk t htl;simp only[Bool.or_eq_true,b5e,List.mem_range,b5f,beq_eq_false_iff_ne,beq_iff_eq]at this;rw[xQ];cases hl:Ng (T0 ops al.length) al i t with
 |false=>
  refine .inl ⟨λk hk hkd=>?_,by simp⟩;have:=List.any_eq_false.1 hl k (List.mem_range.2 hk);simp only[hdst k hk,hkd,beq_self_eq_true,Bool.true_and,b5f,Bool.not_eq_false,List.contains_iff_mem]at this;exact(IT this).2
 |true=>
  refine .inr ⟨λk hk hkd=>?_,by simp⟩;rcases this with h|h
  ·exfalso;obtain⟨j,hj,hb⟩:=List.any_eq_true.1 hl;simp only[b47,beq_iff_eq,b5f]at hb;have hjl:=List.mem_range.1 hj;rw[hdst j hjl]at hb;rcases h j hjl with h|h
   ·exact h hb.1
   ·have:=List.contains_iff_mem.2 (RZ him hjl h);rw[this]at hb;cases hb.2
  ·rcases h k hk with(h|h)|h
   ·exact absurd hkd h
   ·exact .inl h
   ·exact .inr h
end
section
variable {P:Program}{N:Nat}{Q:Exit->Env->A3->Prop}{env:Env}{h:A3}
end
abbrev P4:=FuncId->b5l AV->A3->b5m (AV × A3)
def T7(h:A3)(o:b5m AV):b5m (AV × A3):=o.map λa=>(a,h)
def dJ(h:A3)(size bytes:Nat)(zero:b5l AV)(x y:AV):b5m (AV × A3):=
 match x,y with
 |.v (.int _ l),.v (.int _ c)=>if 0<=l/\l<=c/\c*bytes<=140737488355328 then some (.row h.A5.length 0 size l.toNat c.toNat,⟨h.A5++[some (W8 size c.toNat zero)],h.A9,h.B0⟩) else none
 |_,_=>none
theorem rg{h h':A3}{size bytes:Nat}{zero:b5l AV}{x y a:AV}{K:AV->A3->Prop}(he:dJ h size bytes zero x y=some (a,h'))(hk:K a h'):MV h size bytes zero x y K:=by
 unfold dJ at he;split at he
 ·split at he
  ·rename_i hc;cases he;exact⟨hc,hk⟩
  ·cases he
 ·cases he
def aG(h:A3)(x:AV):b5m (AV × A3):=
 match x with
 |.v (.string s)=>some (.ptr h.A5.length 0,⟨h.A5++[some [.it s 0]],h.A9,h.B0⟩)
 |_=>none
theorem b2o{h h':A3}{x a:AV}{K:AV->A3->Prop}(he:aG h x=some (a,h'))(hk:K a h'):Yb h x K:=by
 unfold aG at he;split at he
 ·cases he;exact hk
 ·cases he
def cL(h:A3)(x:AV):b5m (AV × A3):=
 match x with
 |.ptr n 0=>match h.A5[n]? with
  |some (some [.it s p])=>if p<s.data.toList.length then some (.tuple [.v (.bool true),.v (.int .i64 p),.v (.int .i32 (Utf8.decode s p).1)],⟨h.A5.set n (some [.it s (p+(Utf8.decode s p).2)]),h.A9,h.B0⟩) else some (.tuple [.v (.bool false)],h)
  |_=>none
 |_=>none
theorem a6i{h h':A3}{x a:AV}{K:AV->A3->Prop}(he:cL h x=some (a,h'))(hk:K a h'):Lu h x K:=by
 unfold cL at he;unfold Lu;split at he
 ·split at he
  ·rename_i s p hb;have hs:s.data.toList.length=s.size:=Array.length_toList;rw[hs]at he;simp only[hb];split at he
   ·rename_i hp;cases he;exact⟨λ_=>hk,λh=>absurd hp h⟩
   ·rename_i hp;cases he;exact⟨λh=>absurd h hp,λ_=>hk⟩
  ·cases he
 ·cases he
theorem z6(s t:b5k):(s==t)=(s.data.toList==t.data.toList):=by
 rw[Bool.eq_iff_iff];constructor
 ·intro h;rw[mw h];simp
 ·intro h;have h1:s.data.toList=t.data.toList:=by simpa using h
  have h2:s=t:=by
   obtain⟨⟨a⟩⟩:=s;obtain⟨⟨b⟩⟩:=t;have h3:a=b:=h1;rw[h3]
  rw[h2];exact nI t
def Ve:Value->Value->b5m b5n
 |.string s,.string t=>some (s.data.toList==t.data.toList)
 |.int k m,.int k' n=>if k=k' then some (m==n) else none
 |_,_=>none
theorem mO(q t:Value):Ve q t=FP q t:=by
 cases q<;>cases t<;>first|rfl|simp only[Ve,FP,z6]
def TL(q:Value):b5l AV->b5m (b5m AV)
 |[]=>some none
 |p::r=>match p with
  |.tuple [.v t,v]=>match Ve q t with
   |some true=>some (some v)
   |some false=>TL q r
   |none=>none
  |_=>none
def Wp(q:Value)(v:AV):b5l AV->b5m (b5l AV)
 |[]=>some [.tuple [.v q,v]]
 |p::r=>match p with
  |.tuple [.v t,w]=>match Ve q t with
   |some true=>some (.tuple [.v q,v]::r)
   |some false=>(Wp q v r).map λl=>.tuple [.v t,w]::l
   |none=>none
  |_=>none
theorem jy(q:Value):∀l,TL q l=IK q l
 |[]=>rfl
 |p::r=>by
  simp only[TL,IK,mO,jy q r];rfl
theorem nQ(q:Value)(v:AV):∀l,Wp q v l=Iw q v l
 |[]=>rfl
 |p::r=>by
  simp only[Wp,Iw,mO,nQ q v r];rfl
def Ld(h:A3)(i ok:b5n)(zero x k:AV):b5m AV:=
 match k with
 |.v q=>if EO i q=true then match x with
  |.mp n=>match h.A5[n]? with
   |some (some [.tuple l])=>(TL q l).map λr=>RM ok zero r
   |_=>none
  |.v (.map none)=>some (RM ok zero none)
  |_=>none
  else none
 |_=>none
theorem fq{h:A3}{i ok:b5n}{zero x k a:AV}{K:AV->Prop}(he:Ld h i ok zero x k=some a)(hk:K a):Qi h i ok zero x k K:=by
 unfold Ld at he;unfold Qi;split at he
 ·split at he
  ·rename_i hq;refine⟨hq,?_⟩;split at he
   ·split at he
    ·rename_i hb;simp only[b43]at he;obtain⟨r,hr,rfl⟩:=he;rw[jy]at hr;simp only[hb,hr];exact hk
    ·cases he
   ·cases he;exact hk
   ·cases he
  ·cases he
 ·cases he
def bP(h:A3)(i:b5n)(m k v:AV):b5m A3:=
 match k with
 |.v q=>if EO i q=true then match m with
  |.mp n=>match h.A5[n]? with
   |some (some [.tuple l])=>(Wp q v l).map λl'=>⟨h.A5.set n (some [.tuple l']),h.A9,h.B0⟩
   |_=>none
  |_=>none
  else none
 |_=>none
theorem a5i{h h':A3}{i:b5n}{m k v:AV}{K:A3->Prop}(he:bP h i m k v=some h')(hk:K h'):Nz h i m k v K:=by
 unfold bP at he;unfold Nz;split at he
 ·split at he
  ·rename_i hq;refine⟨hq,?_⟩;split at he
   ·split at he
    ·rename_i hb;simp only[b43]at he;obtain⟨r,hr,rfl⟩:=he;rw[nQ]at hr;simp only[hb,hr];exact hk
    ·cases he
   ·cases he
  ·cases he
 ·cases he
def dW(h:A3)(e:TypeId)(size bytes:Nat)(x y:AV):b5m (AV × A3):=
 match x with
 |.bb .nil [] u=>(S0 h 1 y).bind λys=>if size=1/\CQ 1 ys/\u=e/\ys.length*bytes<=140737488355328 then some (.bb (.own h.A9.length) ys u,⟨h.A5,h.A9++[(ys.length,1)],h.B0⟩) else none
 |.bb (.own id) els u=>(S0 h 1 y).bind λys=>if size=1/\CQ 1 ys/\u=e/\CQ 1 els/\h.A9[id]? =some (els.length,1)/\(els.length+ys.length)*bytes<=140737488355328 then some (.bb (.own id) (els++ys) u,⟨h.A5,h.A9.set id (els.length+ys.length,1),h.B0⟩) else none
 |_=>none
theorem a9a{h h':A3}{e:TypeId}{size bytes:Nat}{x y a:AV}{K:AV->A3->Prop}(he:dW h e size bytes x y=some (a,h'))(hk:K a h'):OG h e size bytes x y K:=by
 unfold dW at he;unfold OG;split at he
 ·simp only[b44]at he;obtain⟨ys,h1,h2⟩:=he;split at h2
  ·rename_i hc;cases h2;simp only[h1];exact⟨⟨hc.1,Dn hc.2.1⟩,hc.2.2.1,hc.2.2.2,hk⟩
  ·cases h2
 ·simp only[b44]at he;obtain⟨ys,h1,h2⟩:=he;split at h2
  ·rename_i hc;cases h2;simp only[h1];exact⟨⟨hc.1,Dn hc.2.1⟩,hc.2.2.1,Dn hc.2.2.2.1,hc.2.2.2.2.1,hc.2.2.2.2.2,hk⟩
  ·cases h2
 ·cases he
def cR(x:AV):b5m AV:=
 match x with
 |.bb .nil [] _=>some (.v (.pointer none))
 |.bb (.own id) els u=>some (.bb (.data id) els u)
 |_=>none
theorem ws{x a:AV}{K:AV->Prop}(he:cR x=some a)(hk:K a):WM x K:=by
 unfold cR at he;split at he<;>first|(cases he;exact hk)|cases he
def cE(h:A3)(u:TypeId)(p n:AV):b5m AV:=
 match p,n with
 |.v (.pointer none),.v (.int .i64 m)=>if m=0 then some (.v (.string ⟨⟨[]⟩⟩)) else none
 |.bb (.data id) els t,.v (.int .i64 m)=>(Pw els).bind λl=>if t=u/\h.A9[id]? =some (els.length,1)/\m=(l.length:Int)/\l.length<=140737488355328 then some (.v (.string ⟨⟨l⟩⟩)) else none
 |_,_=>none
theorem j9{h:A3}{u:TypeId}{p n a:AV}{K:AV->Prop}(he:cE h u p n=some a)(hk:K a):SN h u p n K:=by
 unfold cE at he;split at he
 ·split at he
  ·rename_i hm;cases he;exact⟨hm,hk⟩
  ·cases he
 ·simp only[b44]at he;obtain⟨l,h1,h2⟩:=he;split at h2
  ·rename_i hc;cases h2;exact⟨hc.1,hc.2.1,l,bZ h1,hc.2.2.1,hc.2.2.2,hk⟩
  ·cases h2
 ·cases he
def Zn(cnt:b5n)(s c:AV):b5m AV:=
 match s,c with
 |.v (.string s),.v (.int .u8 c)=>some (.v (.int .i64 ((if cnt then Ui else SX) s c)))
 |_,_=>none
theorem b2j{cnt:b5n}{s c a:AV}{K:AV->Prop}(he:Zn cnt s c=some a)(hk:K a):MZ (if cnt then Ui else SX) s c K:=by
 unfold Zn at he;split at he
 ·cases he;exact hk
 ·cases he
def YB(h:A3)(u:TypeId)(n:AV):b5m (AV × A3):=
 match n with
 |.v (.int .i64 m)=>if 0<m/\m<=140737488355328 then some (.bb (.raw h.A9.length m.toNat) [] u,⟨h.A5,h.A9++[(0,1)],h.B0⟩) else none
 |_=>none
theorem a40{h h':A3}{u:TypeId}{n a:AV}{K:AV->A3->Prop}(he:YB h u n=some (a,h'))(hk:K a h'):Rf h u n K:=by
 unfold YB at he;split at he
 ·split at he
  ·rename_i hc;cases he;exact⟨hc.1,hc.2,hk⟩
  ·cases he
 ·cases he
def Ys(x:AV):b5m AV:=
 match x with
 |.bb .nil [] _=>some (.v (.int .i64 0))
 |.nil=>some (.v (.int .i64 0))
 |_=>none
theorem a1p{x a:AV}{K:AV->Prop}(he:Ys x=some a)(hk:K a):WO x K:=by
 unfold Ys at he;split at he<;>first|(cases he;exact hk)|cases he
def cV(x y:AV):b5m AV:=
 match x,y with
 |.bb (.own _) [] _,.bb .nil [] _=>some (.v (.int .i64 0))
 |_,_=>none
theorem a8i{x y a:AV}{K:AV->Prop}(he:cV x y=some a)(hk:K a):Wr x y K:=by
 unfold cV at he;split at he<;>first|(cases he;exact hk)|cases he
def aN(h:A3)(size:Nat)(zero:b5l AV)(x:AV):b5m A3:=
 match x with
 |.row n off sz len _=>if sz=size then match h.A5[n]? with
  |some (some cells)=>if I4 cells/\off+len*size<=cells.length then some ⟨h.A5.set n (some (cells.take off++(List.replicate len zero).flatten++cells.drop (off+((List.replicate len zero).flatten).length))),h.A9,h.B0⟩ else none
  |_=>none
  else none
 |.sl [] _=>some h
 |.nil=>some h
 |_=>none
theorem wV{h h':A3}{size:Nat}{zero:b5l AV}{x:AV}{K:A3->Prop}(he:aN h size zero x=some h')(hk:K h'):Ns h size zero x K:=by
 unfold aN at he;unfold Ns;split at he
 ·split at he
  ·rename_i hs;split at he
   ·rename_i hb;split at he
    ·rename_i hc;cases he;simp only[hb];exact⟨hs,hc.1,hc.2,hk⟩
    ·cases he
   ·cases he
  ·cases he
 ·cases he;exact hk
 ·cases he;exact hk
 ·cases he
def ZX(call:P4)(tab l:b5l AV)(h:A3):b5m (AV × A3):=match l with
 |.iface t x::r=>(Hg tab t).bind λg=>call g (x::r) h
 |_=>none
theorem Wj{call:P4}{tab l:b5l AV}{h h':A3}{a:AV}(he:ZX call tab l h=some (a,h')):∃t x r g,l=.iface t x::r/\Hg tab t=some g/\call g (x::r) h=some (a,h'):=by
 unfold ZX at he;split at he
 ·rename_i t x r;simp only[b44]at he;obtain⟨g,h1,h2⟩:=he;exact⟨t,x,r,g,rfl,h1,h2⟩
 ·cases he
def Z6(md:b5n)(call:P4)(o:I7)(env:Env)(h:A3):b5m (AV × A3):=
 match o with
 |.mv x=>T7 h (x.ev env)
 |.pick c a b=>(c.ev env).bind λc=>match c with
  |.v (.bool true)=>T7 h (a.ev env)
  |.v (.bool false)=>T7 h (b.ev env)
  |_=>none
 |.alloc cells=>some (.ptr h.A5.length 0,⟨h.A5++[some cells],h.A9,h.B0⟩)
 |.box x=>(x.ev env).bind λa=>if a.isTuple=false then some (.ptr h.A5.length 0,⟨h.A5++[some a.cells],h.A9,h.B0⟩) else none
 |.build zero parts=>(X9 env parts).bind λps=>(Bf zero ps).map λcells=>(.agg cells,h)
 |.Ep size len zeros parts=>(X9 env parts).bind λps=>(Bf zeros ps).bind λcells=>if cells.length=len*size then some (.sl (DJ size len (cells.map P6)) .full,h) else none
 |.load n x=>(x.ev env).bind λp=>T7 h (HU h n p)
 |.store size p x=>(p.ev env).bind λp=>(x.ev env).bind λx=>(ZG h size p x).map λh'=>(.tuple [],h')
 |.nilCheck x=>(x.ev env).bind λa=>match a with
  |.ptr n o=>some (.ptr n o,h)
  |.G6 l o=>some (.G6 l o,h)
  |.clo (.func f) l r=>some (.clo (.func f) l r,h)
  |_=>none
 |.bin op x y=>(x.ev env).bind λx=>(y.ev env).bind λy=>T7 h (eJ op x y)
 |.eq c yes x y=>(x.ev env).bind λx=>(y.ev env).bind λy=>(eqF c x y).map λb=>(.v (.bool (if yes then b else !b)),h)
 |.un op x=>(x.ev env).bind λx=>T7 h (eu op x)
 |.conv c x=>(x.ev env).bind λx=>T7 h (bM c x)
 |.iface t x=>(x.ev env).map λa=>(.iface t a,h)
 |.func fn first captured=>(evs env first).bind λf=>(evs env captured).map λc=>(.clo fn f c,h)
 |.Bz x lo hi=>(x.ev env).bind λx=>(J2 env lo).bind λlo=>(J2 env hi).bind λhi=>T7 h (YZ x lo hi)
 |.Ao size x lo hi mx=>(x.ev env).bind λx=>(J2 env lo).bind λlo=>(J2 env hi).bind λhi=>(J2 env mx).bind λmx=>T7 h (bG size x lo hi mx)
 |.fieldAddr off x=>(x.ev env).bind λx=>T7 h (VE off x)
 |.field n off x=>(x.ev env).bind λx=>T7 h (UK n off x)
 |.Ck x i=>(x.ev env).bind λx=>(i.ev env).bind λi=>T7 h (Xy x i)
 |.HS len size n x i=>(x.ev env).bind λx=>(i.ev env).bind λi=>T7 h (Zw len size n x i)
 |.Bg size x i=>(x.ev env).bind λx=>(i.ev env).bind λi=>T7 h (aX size x i)
 |.Er len size x i=>(x.ev env).bind λx=>(i.ev env).bind λi=>T7 h (Zl len size (Ij h x) i)
 |.BC t ok zero x=>(x.ev env).bind λx=>T7 h (ZA t ok zero x)
 |.extract i x=>(x.ev env).bind λx=>T7 h (Yi i x)
 |.len str x=>(x.ev env).bind λx=>T7 h (eR str x)
 |.append e size bytes x y=>(x.ev env).bind λx=>(y.ev env).bind λy=>match dW h e size bytes x y with|some r=>some r|none=>if md/\size≠1 then(match bJ h size bytes x y with|some r=>some r|none=>SW h size bytes x y) else SW h size bytes x y
 |.call f args=>(f.ev env).bind λf=>(evs env args).bind λl=>match f with
  |.clo (.func g) first captured=>call g (first++l++captured) h
  |.agg [.tuple tab]=>ZX call tab l h
  |_=>none
 |.bytes x=>(x.ev env).bind λx=>match x with
  |.v (.string s)=>some (.sl (S5 s.data.toList) .no,h)
  |_=>none
 |.AN mx args=>(evs env args).bind λl=>(CA mx l).map λv=>(.v v,h)
 |.make size bytes zero x y=>(x.ev env).bind λx=>(y.ev env).bind λy=>dJ h size bytes zero x y
 |.range x=>(x.ev env).bind λx=>aG h x
 |.next x=>(x.ev env).bind λx=>cL h x
 |.bad=>none
 |.HC=>some (.mp h.A5.length,⟨h.A5++[some [.tuple []]],h.A9,h.B0⟩)
 |.lookup i ok zero x k=>(x.ev env).bind λx=>(k.ev env).bind λk=>T7 h (Ld h i ok zero x k)
 |.mapset i m k v=>(m.ev env).bind λm=>(k.ev env).bind λk=>(v.ev env).bind λv=>(bP h i m k v).map λh'=>(.tuple [],h')
 |.HP e u=>some (.ptr h.A5.length 0,⟨h.A5++[some [.ps h.A5.length e,.bb .nil [] u]],h.A9,h.B0⟩)
 |.HN x=>(x.ev env).bind λx=>T7 h (cR x)
 |.GJ u p n=>(p.ev env).bind λp=>(n.ev env).bind λn=>T7 h (cE h u p n)
 |.GC cnt s c=>(s.ev env).bind λs=>(c.ev env).bind λc=>T7 h (Zn cnt s c)
 |.GD u n=>(n.ev env).bind λn=>YB h u n
 |.cap0 x=>(x.ev env).bind λx=>T7 h (Ys x)
 |.HH x y=>(x.ev env).bind λx=>(y.ev env).bind λy=>T7 h (cV x y)
 |.clear size zero x=>(x.ev env).bind λx=>(aN h size zero x).map λh'=>(.tuple [],h')
def EE(P:Program)(call:P4):Prop:=∀f args h a h',call f args h=some (a,h')->∀K:AV->A3->Prop,K a h'->AF P f args h K
theorem J1{h h':A3}{o:b5m AV}{a:AV}(he:T7 h o=some (a,h')):o=some a/\h'=h:=by
 unfold T7 at he;simp only[b43,Prod.mk.injEq]at he;obtain⟨b,h1,rfl,rfl⟩:=he;exact⟨h1,rfl⟩
theorem FF{P:Program}{md:b5n}{call:P4}(hc:EE P call){o:I7}{env:Env}{h h':A3}{a:AV}{K:AV->A3->Prop}(he:Z6 md call o env h=some (a,h'))(hk:K a h'):E9 P o env h K:=by
 cases o<;>simp only[Z6,b44,b43]at he<;>simp only[E9]
 case mv x=>obtain⟨h1,rfl⟩:=J1 he;simp only[h1,wv];exact hk
 case pick c x y=>
  obtain⟨cv,h1,h2⟩:=he;simp only[h1,wv];split at h2
  ·obtain⟨h3,rfl⟩:=J1 h2;simp only[Ga,h3];exact⟨λ_=>hk,λh=>by cases h⟩
  ·obtain⟨h3,rfl⟩:=J1 h2;simp only[Ga,h3];exact⟨(λh=>by cases h),λ_=>hk⟩
  ·cases h2
 case alloc cells=>cases he;exact hk
 case box x=>
  obtain⟨b,h1,h2⟩:=he;split at h2
  ·rename_i ht;cases h2;simp only[h1,wv];exact⟨ht,hk⟩
  ·cases h2
 case build z ps=>
  obtain⟨q,h1,cells,h2,h3⟩:=he;cases h3;simp only[h1,h2];exact hk
 case Ep s l z ps=>
  obtain⟨q,h1,cells,h2,h3⟩:=he;split at h3
  ·rename_i hl;cases h3;simp only[h1,h2];exact⟨hl,hk⟩
  ·cases h3
 case load n x=>obtain⟨p,h1,h2⟩:=he;obtain⟨h3,rfl⟩:=J1 h2;simp only[h1,wv];exact Xl h3 hk
 case store n p x=>obtain⟨p,h1,x,h2,h3,h4,h5⟩:=he;cases h5;simp only[h1,h2,wv];exact a3z h4 hk
 case nilCheck x=>
  obtain⟨b,h1,h2⟩:=he;simp only[h1,wv,YM];split at h2<;>first|(cases h2;exact hk)|(cases h2;done)
 case bin op x y=>obtain⟨x,h1,y,h2,h3⟩:=he;obtain⟨h4,rfl⟩:=J1 h3;simp only[h1,h2,wv];exact o9 h4 hk
 case eq c yes x y=>obtain⟨x,h1,y,h2,b,h3,h4⟩:=he;cases h4;simp only[h1,h2,wv];exact rV h3 hk
 case un op x=>obtain⟨x,h1,h3⟩:=he;obtain⟨h4,rfl⟩:=J1 h3;simp only[h1,wv];exact us h4 hk
 case conv c x=>obtain⟨x,h1,h3⟩:=he;obtain⟨h4,rfl⟩:=J1 h3;simp only[h1,wv];exact a5y h4 hk
 case iface t x=>obtain⟨x,h1,h3⟩:=he;cases h3;simp only[h1,wv];exact hk
 case func fn f c=>obtain⟨x,h1,y,h2,h3⟩:=he;cases h3;simp only[h1,h2];exact hk
 case Bz x lo hi=>obtain⟨x,h1,lo,h2,hi,h3,h4⟩:=he;obtain⟨h5,rfl⟩:=J1 h4;simp only[h1,h2,h3,wv];exact wy h5 hk
 case Ao s x lo hi mx=>obtain⟨x,h1,lo,h2,hi,h3,mx,h4,h5⟩:=he;obtain⟨h6,rfl⟩:=J1 h5;simp only[h1,h2,h3,h4,wv];exact tW h6 hk
 case fieldAddr off x=>obtain⟨x,h1,h3⟩:=he;obtain⟨h4,rfl⟩:=J1 h3;simp only[h1,wv];exact qQ h4 hk
 case field n off x=>obtain⟨x,h1,h3⟩:=he;obtain⟨h4,rfl⟩:=J1 h3;simp only[h1,wv];exact ft h4 hk
 case Ck x y=>obtain⟨x,h1,y,h2,h3⟩:=he;obtain⟨h4,rfl⟩:=J1 h3;simp only[h1,h2,wv];exact uf h4 hk
 case HS l s n x y=>obtain⟨x,h1,y,h2,h3⟩:=he;obtain⟨h4,rfl⟩:=J1 h3;simp only[h1,h2,wv];exact a8a h4 hk
 case Bg s x y=>obtain⟨x,h1,y,h2,h3⟩:=he;obtain⟨h4,rfl⟩:=J1 h3;simp only[h1,h2,wv];exact d9 h4 hk
 case Er l s x y=>obtain⟨x,h1,y,h2,h3⟩:=he;obtain⟨h4,rfl⟩:=J1 h3;simp only[h1,h2,wv];exact iH h4 hk
 case BC t ok z x=>obtain⟨x,h1,h3⟩:=he;obtain⟨h4,rfl⟩:=J1 h3;simp only[h1,wv];exact a0z h4 hk
 case extract i x=>obtain⟨x,h1,h3⟩:=he;obtain⟨h4,rfl⟩:=J1 h3;simp only[h1,wv];exact a0j h4 hk
 case len s x=>obtain⟨x,h1,h3⟩:=he;obtain⟨h4,rfl⟩:=J1 h3;simp only[h1,wv];exact zB h4 hk
 case append e s t x y=>
  obtain⟨x,h1,y,h2,h3⟩:=he;simp only[h1,h2,wv];split at h3
  ·rename_i r hr;cases h3;exact .inr (.inr (a9a hr hk))
  split at h3
  ·split at h3
   ·rename_i r hr;cases h3;exact .inr (.inl (a4b hr hk))
   ·exact .inl (nf h3 hk)
  ·exact .inl (nf h3 hk)
 case call f args=>
  obtain⟨fv,h1,l,h2,h3⟩:=he;simp only[h1,h2,wv];split at h3
  ·exact hc _ _ _ _ _ h3 K hk
  ·obtain⟨t,x,r,g,rfl,h5,h6⟩:=Wj h3;unfold EC;simp only[h5];exact hc _ _ _ _ _ h6 K hk
  ·cases h3
 case bytes x=>
  obtain⟨x,h1,h2⟩:=he;simp only[h1,wv];split at h2
  ·cases h2;exact hk
  ·cases h2
 case AN mx l=>obtain⟨x,h1,v,h2,h3⟩:=he;cases h3;simp only[h1,h2,Pm];exact hk
 case make s t z x y=>obtain⟨x,h1,y,h2,h3⟩:=he;simp only[h1,h2,wv];exact .inl (rg h3 hk)
 case range x=>obtain⟨x,h1,h2⟩:=he;simp only[h1,wv];exact b2o h2 hk
 case next x=>obtain⟨x,h1,h2⟩:=he;simp only[h1,wv];exact a6i h2 hk
 case bad=>cases he
 case HC=>cases he;exact hk
 case lookup i ok z x k=>obtain⟨x,h1,k,h2,h3⟩:=he;obtain⟨h4,rfl⟩:=J1 h3;simp only[h1,h2,wv];exact fq h4 hk
 case mapset i m k v=>obtain⟨m,h1,k,h2,v,h3,h4,h5,h6⟩:=he;cases h6;simp only[h1,h2,h3,wv];exact a5i h5 hk
 case HP e u=>cases he;exact hk
 case HN x=>obtain⟨x,h1,h3⟩:=he;obtain⟨h4,rfl⟩:=J1 h3;simp only[h1,wv];exact ws h4 hk
 case GJ u p n=>obtain⟨x,h1,k,h2,h3⟩:=he;obtain⟨h4,rfl⟩:=J1 h3;simp only[h1,h2,wv];exact j9 h4 hk
 case GC c p n=>obtain⟨x,h1,k,h2,h3⟩:=he;obtain⟨h4,rfl⟩:=J1 h3;simp only[h1,h2,wv];exact b2j h4 hk
 case GD u n=>obtain⟨x,h1,h3⟩:=he;simp only[h1,wv];exact a40 h3 hk
 case cap0 x=>obtain⟨x,h1,h3⟩:=he;obtain⟨h4,rfl⟩:=J1 h3;simp only[h1,wv];exact a1p h4 hk
 case HH p n=>obtain⟨x,h1,k,h2,h3⟩:=he;obtain⟨h4,rfl⟩:=J1 h3;simp only[h1,h2,wv];exact a8i h4 hk
 case clear s z x=>obtain⟨m,h1,h4,h5,h6⟩:=he;cases h6;simp only[h1,wv];exact wV h5 hk
def M4(env:Env)(g:b5m (Nat × b5n)):b5m b5n:=
 match g with
 |none=>some true
 |some (t,want)=>(get env t).bind λv=>match v with
  |.v (.bool b)=>some (b==want)
  |.tuple []=>some false
  |_=>none
theorem OV{env:Env}{g:b5m (Nat × b5n)}{b:b5n}{y n:Prop}(he:M4 env g=some b)(hk:if b=true then y else n):Lr env g y n:=by
 cases g with
 |none=>cases he;exact hk
 |some p=>
  obtain⟨t,want⟩:=p;simp only[M4,b44]at he;obtain⟨v,h1,h2⟩:=he;simp only[Lr,h1,wv];split at h2
  ·rename_i c;cases h2;simp only;cases c<;>cases want
   ·exact⟨λ_=>hk,λh=>by cases h⟩
   ·exact⟨(λh=>by cases h),λ_=>hk⟩
   ·exact⟨(λh=>by cases h),λ_=>hk⟩
   ·exact⟨λ_=>hk,λh=>by cases h⟩
  ·cases h2;exact hk
  ·cases h2
def Bs(md:b5n)(call:P4):b5l C2->Env->A3->b5m (Env × A3)
 |[],env,h=>some (env,h)
 |o::r,env,h=>(M4 env o.guard).bind λb=>match b with
  |true=>(Z6 md call o.op env h).bind λp=>Bs md call r (M9 env o.dst p.1) p.2
  |false=>Bs md call r (Ae env o.dst) h
theorem MD{P:Program}{md:b5n}{call:P4}(hc:EE P call):∀{l:b5l C2}{env:Env}{h:A3}{r:Env × A3}{K:Env->A3->Prop},Bs md call l env h=some r->K r.1 r.2->AT P l env h K
 |[],env,h,r,K,he,hk=>by cases he;exact hk
 |o::l,env,h,r,K,he,hk=>by
  simp only[Bs,b44]at he;obtain⟨b,h1,h2⟩:=he;refine OV h1 ?_;cases b with
  |true=>
   simp only[b44]at h2;obtain⟨⟨a,h'⟩,h3,h4⟩:=h2;exact FF (K:=λav h'=>AT P l (M9 env o.dst av) h' K) hc h3 (MD hc h4 hk)
  |false=>exact MD hc h2 hk
def AH:I7->b5n
 |.alloc _|.box _|.store _ _ _|.append _ _ _ _ _|.make _ _ _ _ _|.range _|.next _|.bad|.HC|.mapset _ _ _ _|.HP _ _|.GJ _ _ _|.GD _ _|.clear _ _ _=>false
 |_=>true
def Qz(md:b5n)(call:P4):b5l C2->Env->A3->b5m Env
 |[],env,h=>some env
 |o::r,env,h=>(M4 env o.guard).bind λb=>match b with
  |true=>if AH o.op=true then(Z6 md call o.op env h).bind λp=>Qz md call r (M9 env o.dst p.1) h else none
  |false=>Qz md call r (Ae env o.dst) h
theorem RR{md:b5n}{call:P4}(hq:∀f args h a h',call f args h=some (a,h')->h'=h){o:I7}{env:Env}{h h':A3}{a:AV}(ho:AH o)(he:Z6 md call o env h=some (a,h')):h'=h:=by
 cases o<;>simp only[Z6,b44,b43]at he<;>(try (cases ho;done))
 case mv x=>exact(J1 he).2
 case pick c x y=>obtain⟨cv,h1,h2⟩:=he;split at h2<;>first|exact(J1 h2).2|cases h2
 case build z ps=>obtain⟨q,h1,cells,h2,h3⟩:=he;cases h3;rfl
 case Ep s l z ps=>
  obtain⟨q,h1,cells,h2,h3⟩:=he;split at h3<;>cases h3;rfl
 case load n x=>obtain⟨p,h1,h2⟩:=he;exact(J1 h2).2
 case nilCheck x=>obtain⟨b,h1,h2⟩:=he;split at h2<;>cases h2<;>rfl
 case bin op x y=>obtain⟨x,h1,y,h2,h3⟩:=he;exact(J1 h3).2
 case eq c yes x y=>obtain⟨x,h1,y,h2,b,h3,h4⟩:=he;cases h4;rfl
 case un op x=>obtain⟨x,h1,h3⟩:=he;exact(J1 h3).2
 case conv c x=>obtain⟨x,h1,h3⟩:=he;exact(J1 h3).2
 case iface t x=>obtain⟨x,h1,h3⟩:=he;cases h3;rfl
 case func fn f c=>obtain⟨x,h1,y,h2,h3⟩:=he;cases h3;rfl
 case Bz x lo hi=>obtain⟨x,h1,lo,h2,hi,h3,h4⟩:=he;exact(J1 h4).2
 case Ao s x lo hi mx=>obtain⟨x,h1,lo,h2,hi,h3,mx,h4,h5⟩:=he;exact(J1 h5).2
 case fieldAddr off x=>obtain⟨x,h1,h3⟩:=he;exact(J1 h3).2
 case field n off x=>obtain⟨x,h1,h3⟩:=he;exact(J1 h3).2
 case Ck x y=>obtain⟨x,h1,y,h2,h3⟩:=he;exact(J1 h3).2
 case HS l s n x y=>obtain⟨x,h1,y,h2,h3⟩:=he;exact(J1 h3).2
 case Bg s x y=>obtain⟨x,h1,y,h2,h3⟩:=he;exact(J1 h3).2
 case Er l s x y=>obtain⟨x,h1,y,h2,h3⟩:=he;exact(J1 h3).2
 case BC t ok z x=>obtain⟨x,h1,h3⟩:=he;exact(J1 h3).2
 case extract i x=>obtain⟨x,h1,h3⟩:=he;exact(J1 h3).2
 case len s x=>obtain⟨x,h1,h3⟩:=he;exact(J1 h3).2
 case call f args=>
  obtain⟨fv,h1,l,h2,h3⟩:=he;split at h3
  ·exact hq _ _ _ _ _ h3
  ·obtain⟨t,x,r,g,_,_,h4⟩:=Wj h3;exact hq _ _ _ _ _ h4
  ·cases h3
 case AN mx l=>obtain⟨x,h1,v,h2,h3⟩:=he;cases h3;rfl
 case lookup i ok z x k=>obtain⟨x,h1,k,h2,h3⟩:=he;exact(J1 h3).2
 case bytes x=>obtain⟨x,h1,h2⟩:=he;split at h2<;>cases h2;rfl
 case HN x=>obtain⟨x,h1,h3⟩:=he;exact(J1 h3).2
 case GC c x y=>obtain⟨x,h1,y,h2,h3⟩:=he;exact(J1 h3).2
 case cap0 x=>obtain⟨x,h1,h3⟩:=he;exact(J1 h3).2
 case HH x y=>obtain⟨x,h1,y,h2,h3⟩:=he;exact(J1 h3).2
theorem Ye{P:Program}{md:b5n}{call:P4}(hc:EE P call)(hq:∀f args h a h',call f args h=some (a,h')->h'=h):∀{l:b5l C2}{env r:Env}{h:A3}{K:Env->Prop},Qz md call l env h=some r->K r->vq P l env h K
 |[],env,r,h,K,he,hk=>by cases he;exact hk
 |o::l,env,r,h,K,he,hk=>by
  simp only[Qz,b44]at he;obtain⟨b,h1,h2⟩:=he;refine OV h1 ?_;cases b with
  |true=>
   simp only at h2;split at h2
   ·rename_i ho;simp only[b44]at h2;obtain⟨⟨a,h'⟩,h3,h4⟩:=h2;have:=RR hq ho h3;subst this;exact⟨a,FF hc h3 ⟨rfl,rfl⟩,Ye hc hq h4 hk⟩
   ·cases h2
  |false=>exact Ye hc hq h2 hk
def cX:Value->Value->b5n
 |.bool a,.bool b=>a==b
 |.int k a,.int l b=>decide (k=l)&&decide (a=b)
 |.string a,.string b=>a.data.toList==b.data.toList
 |.pointer none,.pointer none=>true
 |.nilFunc,.nilFunc=>true
 |.nilIface,.nilIface=>true
 |_,_=>false
theorem sk{x y:Value}(h:cX x y):x=y:=by
 unfold cX at h;split at h<;>(try (cases h;done))<;>(try rfl)
 ·simp at h;rw[h]
 ·simp at h;rw[h.1,h.2]
 ·rename_i a b;have:=eq_of_beq h
  congr 1
  apply ByteArray.ext;exact Array.ext' this
mutual
def X7:AV->AV->Bool
 |.v x,.v y=>cX x y
 |.ptr a b,.ptr c d=>a==c&&b==d
 |.G6 l o,.G6 m p=>Bq l m&&o==p
 |.nil,.nil=>true
 |.sl e t,.sl f u=>LJ e f&&decide (t=u)
 |.agg l,.agg m=>Bq l m
 |.tuple l,.tuple m=>Bq l m
 |.iface t x,.iface u y=>t==u&&X7 x y
 |.clo (.func f) a b,.clo (.func g) c d=>f==g&&Bq a c&&Bq b d
 |.F5 a,.F5 b=>a==b
 |.row a b c d e,.row a' b' c' d' e'=>a==a'&&b==b'&&c==c'&&d==d'&&e==e'
 |.bb k e u,.bb l f v=>decide (k=l)&&LJ e f&&u==v
 |.ps n t,.ps m u=>n==m&&t==u
 |.it s p,.it t q=>s.data.toList==t.data.toList&&p==q
 |.mp n,.mp m=>n==m
 |_,_=>false
def Bq:List AV->List AV->Bool
 |[],[]=>true
 |a::l,b::m=>X7 a b&&Bq l m
 |_,_=>false
def LJ:List (List AV)->List (List AV)->Bool
 |[],[]=>true
 |a::l,b::m=>Bq a b&&LJ l m
 |_,_=>false
end
mutual
theorem cd:∀(a b:AV),X7 a b->a=b
 |.v x,b,h=>by cases b<;>simp only[X7,Bool.false_eq_true]at h;rw[sk h]
 |.ptr n o,b,h=>by cases b<;>simp only[X7,Bool.false_eq_true,b47,beq_iff_eq]at h;rw[h.1,h.2]
 |.G6 l o,b,h=>by cases b<;>simp only[X7,Bool.false_eq_true,b47,beq_iff_eq]at h;rw[Df _ _ h.1,h.2]
 |.nil,b,h=>by cases b<;>simp only[X7,Bool.false_eq_true]at h;rfl
 |.sl e t,b,h=>by cases b<;>simp only[X7,Bool.false_eq_true,b47,b45]at h;rw[Zh _ _ h.1,h.2]
 |.agg l,b,h=>by cases b<;>simp only[X7,Bool.false_eq_true]at h;rw[Df _ _ h]
 |.tuple l,b,h=>by cases b<;>simp only[X7,Bool.false_eq_true]at h;rw[Df _ _ h]
 |.iface t x,b,h=>by cases b<;>simp only[X7,Bool.false_eq_true,b47,beq_iff_eq]at h;rw[h.1,cd _ _ h.2]
 |.clo f l r,b,h=>by
  cases b with
  |clo g l' r'=>
   cases f with
   |func f=>
    cases g with
    |func g=>
     simp only[X7,b47,beq_iff_eq]at h;rw[h.1.1,Df _ _ h.1.2,Df _ _ h.2]
    |_=>simp[X7]at h
   |_=>simp[X7]at h
  |_=>simp[X7]at h
 |.F5 n,b,h=>by cases b<;>simp only[X7,Bool.false_eq_true,beq_iff_eq]at h;rw[h]
 |.row a1 a2 a3 a4 a5,b,h=>by
  cases b<;>simp only[X7,Bool.false_eq_true,b47,beq_iff_eq]at h
  rw[h.1.1.1.1,h.1.1.1.2,h.1.1.2,h.1.2,h.2]
 |.it s p,b,h=>by
  cases b<;>simp only[X7,Bool.false_eq_true,b47,beq_iff_eq]at h
  rw[ByteArray.ext (Array.ext' h.1),h.2]
 |.mp n,b,h=>by cases b<;>simp only[X7,Bool.false_eq_true,beq_iff_eq]at h;rw[h]
 |.bb k e u,b,h=>by
  cases b<;>simp only[X7,Bool.false_eq_true,b47,b45,beq_iff_eq]at h
  rw[h.1.1,Zh _ _ h.1.2,h.2]
 |.ps n t,b,h=>by cases b<;>simp only[X7,Bool.false_eq_true,b47,beq_iff_eq]at h;rw[h.1,h.2]
theorem Df:∀(a b:List AV),Bq a b->a=b
 |[],b,h=>by cases b<;>simp only[Bq,Bool.false_eq_true]at h;rfl
 |a::l,b,h=>by
  cases b<;>simp only[Bq,Bool.false_eq_true,b47]at h
  rw[cd _ _ h.1,Df _ _ h.2]
theorem Zh:∀(a b:List (List AV)),LJ a b->a=b
 |[],b,h=>by cases b<;>simp only[LJ,Bool.false_eq_true]at h;rfl
 |a::l,b,h=>by
  cases b<;>simp only[LJ,Bool.false_eq_true,b47]at h
  rw[Df _ _ h.1,Zh _ _ h.2]
end
def Dy:I7->b5n
 |.alloc _|.box _|.store _ _ _|.append _ _ _ _ _|.make _ _ _ _ _|.range _|.next _|.load _ _|.call _ _|.bad|.HC|.mapset _ _ _ _|.lookup _ _ _ _ _|.Er _ _ _ _|.HP _ _|.GJ _ _ _|.GD _ _|.clear _ _ _=>false
 |_=>true
theorem fO{P:Program}{o:I7}(hp:Dy o){env:Env}{h h':A3}{K:AV->A3->Prop}:E9 P o env h K=E9 P o env h' λa _=>K a h:=by
 cases o<;>first|rfl|(cases hp;done)
theorem Wc{P:Program}{o:I7}(hp:Dy o){env:Env}{h h':A3}{av:AV}(hq:Ai P o env h av):Ai P o env h' av:=by
 unfold Ai at hq ⊢;rw[fO (h':=h') hp]at hq;rw[fO (h':=h') hp];have:(λ(a:AV) (_:A3)=>a=av/\h=h)=λ(a:AV) (_:A3)=>a=av/\h'=h':=by funext a b;simp
 rw[this]at hq;exact hq
def Yc(P:Program)(call:P4):Prop:=∀f args h a h',call f args h=some (a,h')->h'=h/\∀h2:A3,h2.B0=h.B0->∀K:AV->A3->Prop,K a h2->AF P f args h2 K
theorem sQ{F:Env}{t:Nat}{want b:b5n}(h:M4 F (some (t,want))=some b):(∃c,get F t=some (.v (.bool c))/\b=(c==want))\/(get F t=some (.tuple [])/\b=false):=by
 simp only[M4,b44]at h;obtain⟨v,h1,h2⟩:=h;split at h2
 ·rename_i c;cases h2;exact .inl ⟨c,h1,rfl⟩
 ·cases h2;exact .inr ⟨h1,rfl⟩
 ·cases h2
theorem sP{h h2:A3}(hg:h2.B0=h.B0)(x:AV):Ij h2 x=Ij h x:=by
 unfold Ij;rw[hg]
theorem vi{h h2:A3}{i ok:b5n}{zero x k a:AV}(he:∀(n:Nat) (c:b5l AV),h.A5[n]? =some (some c)->h2.A5[n]? =some (some c))(hl:Ld h i ok zero x k=some a):Ld h2 i ok zero x k=some a:=by
 unfold Ld at hl ⊢;split at hl
 ·split at hl
  ·rename_i hq;rw[if_pos hq];split at hl
   ·split at hl
    ·rename_i hb;simp only[he _ _ hb];exact hl
    ·cases hl
   ·exact hl
   ·cases hl
  ·cases hl
 ·cases hl
def OH:I7->b5n
 |.call _ _=>true
 |_=>false
theorem b2e{P:Program}{md:b5n}{call:P4}(hc:Yc P call){o:I7}{env:Env}{h h':A3}{a:AV}(ho:AH o)(hp:(Dy o||OH o))(he:Z6 md call o env h=some (a,h')){h2:A3}(hg:h2.B0=h.B0):Ai P o env h2 a:=by
 have hcok:EE P call:=λf args h a h' he K hk=>by
  obtain⟨e1,e2⟩:=hc f args h a h' he;subst e1;exact e2 _ rfl K hk
 have hsame:h'=h:=RR (λf args h a h' he=>(hc f args h a h' he).1) ho he;subst hsame
 by_cases hp':Dy o=true
 ·exact Wc hp' (FF (K:=λx y=>x=a/\y=h') hcok he ⟨rfl,rfl⟩)
 ·cases o<;>first|(exact absurd rfl hp')|(cases ho;done)|(simp[Dy,OH]at hp;done)|skip
  case call f args=>
   simp only[Z6,b44]at he;obtain⟨fv,h1,l,h3,h4⟩:=he;show wv (f.ev env) _;rw[h1];split at h4
   ·rename_i g first captured;show EC P _ (evs env args) h2 _;rw[h3];exact(hc _ _ _ _ _ h4).2 h2 hg _ ⟨rfl,rfl⟩
   ·obtain⟨t,x,r,g,rfl,h5,h6⟩:=Wj h4;show EC P _ (evs env args) h2 _;rw[h3];unfold EC;simp only[h5];exact(hc _ _ _ _ _ h6).2 h2 hg _ ⟨rfl,rfl⟩
   ·cases h4
def Fj:b5l (b5m (b5l AV))->b5l (b5m (b5l AV))->b5n
 |[],[]=>true
 |none::l,none::m=>Fj l m
 |some a::l,some b::m=>Bq a b&&Fj l m
 |_,_=>false
theorem XV:∀{a b:b5l (b5m (b5l AV))},Fj a b->a=b
 |[],b,h=>by cases b<;>simp only[Fj,Bool.false_eq_true]at h;rfl
 |none::l,b,h=>by
  cases b with
  |nil=>simp[Fj]at h
  |cons x m=>cases x<;>simp only[Fj,Bool.false_eq_true]at h;rw[XV h]
 |some c::l,b,h=>by
  cases b with
  |nil=>simp[Fj]at h
  |cons x m=>cases x<;>simp only[Fj,Bool.false_eq_true,b47]at h;rw[Df _ _ h.1,XV h.2]
def Jk:b5l (Nat × b5l AV)->b5l (Nat × b5l AV)->b5n
 |[],[]=>true
 |(i,a)::l,(j,b)::m=>i==j&&Bq a b&&Jk l m
 |_,_=>false
theorem YI:∀{a b:b5l (Nat × b5l AV)},Jk a b->a=b
 |[],b,h=>by cases b<;>simp only[Jk,Bool.false_eq_true]at h;rfl
 |(i,c)::l,b,h=>by
  cases b with
  |nil=>simp[Jk]at h
  |cons x m=>
   obtain⟨j,d⟩:=x;simp only[Jk,b47,beq_iff_eq]at h;rw[h.1.1,Df _ _ h.1.2,YI h.2]
def OD(h k:A3):b5n:=Fj h.A5 k.A5&&decide (h.A9=k.A9)&&Jk h.B0 k.B0
theorem oK{h k:A3}(he:OD h k):h=k:=by
 simp only[OD,b47,b45]at he;obtain⟨⟨h1,h2⟩,h3⟩:=he;cases h;cases k;simp only at h1 h2 h3;rw[XV h1,h2,YI h3]
def Gj(F:Env)(d:b5m Nat)(a:AV):b5n:=match d with
 |none=>true
 |some d=>match get F d with
  |some b=>X7 b a
  |none=>false
theorem Pr{F:Env}{o:b5m Nat}{a:AV}(h:Gj F o a):∀d,o=some d->get F d=some a:=by
 rintro d rfl;simp only[Gj]at h;split at h
 ·rename_i b hb;rw[hb,cd _ _ h]
 ·cases h
def NY:Nat->b5l C2->b5l (b5m Nat)
 |_,[]=>[]
 |b,o::r=>match o.op,o.guard with
  |.alloc _,none=>some b::NY (b+1) r
  |_,_=>none::NY b r
def Oc(md:b5n)(call:P4)(nm:b5m Nat)(o:C2)(F:Env)(h:A3):b5m (AV × A3):=
 match nm,o.op with
 |some n,.alloc cells=>match h.A5[n]? with
  |some none=>some (.ptr n 0,⟨h.A5.set n (some cells),h.A9,h.B0⟩)
  |_=>none
 |_,_=>Z6 md call o.op F h
def Ma(md:b5n)(call:P4):b5l C2->b5l (b5m Nat)->Nat->Env->A3->b5m (Env × b5l Nat)
 |[],_,_,env,_=>some (env,[])
 |o::r,nms,i,env,h=>(M4 env o.guard).bind λb=>match b with
  |false=>Ma md call r nms.tail (i+1) (Ae env o.dst) h
  |true=>(Oc md call (nms.headD none) o env h).bind λp=>(Ma md call r nms.tail (i+1) (M9 env o.dst p.1) p.2).map λx=>(x.1,if(if AH o.op=true then(!OH o.op||OD h p.2) else false)=true then x.2 else i::x.2)
abbrev CS:=b5l (b5l Nat × A3)
def Br(T:CS)(S:b5l Nat):b5m A3:=(T.find? λp=>p.1==S).map (·.2)
def GO(E:b5l Nat)(i:Nat)(S:b5l Nat):b5l Nat:=E.filter λk=>k==i||S.contains k
def PV(ord:b5l (b5l Nat))(E S:b5l Nat)(i:Nat):b5n:= !S.contains i&&((ord.getD i []).all λk=> !E.contains k||S.contains k)&&(E.contains i|| !S.any λw=>(ord.getD w []).contains i)
def a1f(md:b5n)(call:P4)(ord:b5l (b5l Nat))(nms:b5l (b5m Nat))(al:b5l C2)(G:Nat->Env)(E:b5l Nat)(p:b5l Nat × A3):CS:=
 E.filterMap λi=>if PV ord E p.1 i=true then match al[i]? with
  |some o=>(Oc md call (nms.getD i none) o (G i) p.2).map λr=>(GO E i p.1,r.2)
  |none=>none else none
def dj:CS->CS->CS
 |acc,[]=>acc
 |acc,p::r=>if acc.any (λq=>q.1==p.1)=true then dj acc r else dj (acc++[p]) r
def QF(nx:b5l Nat × A3->CS):Nat->CS->CS
 |0,fr=>fr
 |n+1,fr=>fr++QF nx n (dj [] (fr.flatMap nx))
def ju(md:b5n)(callX:P4)(F G:Env)(hb:A3)(o:C2):b5n:=
 (Dy o.op||OH o.op)&&AH o.op&&match Z6 md callX o.op G hb with
  |some r=>Gj F o.dst r.1
  |none=>false
def n8(md:b5n)(callG:P4)(ord:b5l (b5l Nat))(nms:b5l (b5m Nat))(F G:Env)(E:b5l Nat)(T:CS)(i:Nat)(o:C2):b5n:=
 T.all λp=> !PV ord E p.1 i||match Oc md callG (nms.getD i none) o G p.2,Br T (GO E i p.1) with
  |some r,some h2=>OD r.2 h2&&Gj F o.dst r.1
  |_,_=>false
def sd(md:b5n)(callP callG:P4)(ord:b5l (b5l Nat))(F G:Env)(E:b5l Nat)(T:CS)(i:Nat)(o:C2):b5n:=
 T.all λp=> !PV ord E p.1 i||(if OH o.op=true then match Z6 md callG o.op G p.2 with
   |some r=>OD r.2 p.2&&Gj F o.dst r.1
   |none=>false
  else AH o.op&&match Z6 md callP o.op G p.2 with
   |some r=>Gj F o.dst r.1
   |none=>false)
def fo(md:b5n)(callX callP callG:P4)(ord:b5l (b5l Nat))(nms:b5l (b5m Nat))(al:b5l C2)(F:Env)(G:Nat->Env)(E:b5l Nat)(T:CS)(hb:A3):b5n:=
 (E.all λi=>decide (i<al.length))&&(T.all λp=>Jk p.2.B0 hb.B0)&&(List.range al.length).all λi=>match al[i]? with
  |none=>true
  |some o=>match M4 (G i) o.guard with
   |none=>false
   |some false=> !E.contains i&&Gj F o.dst (.tuple [])
   |some true=>if E.contains i=true then n8 md callG ord nms F (G i) E T i o else ju md callX F (G i) hb o||sd md callP callG ord F (G i) E T i o
def jT(md:b5n)(callX callP callG:P4)(ord:b5l (b5l Nat))(nms:b5l (b5m Nat))(al:b5l C2)(F:Env)(G:Nat->Env)(E:b5l Nat)(hb:A3)(T:CS):b5m (Env × A3):=
 if fo md callX callP callG ord nms al F G E T hb=true then(Br T E).map λh'=>(F,h') else none
def VM(md:b5n)(callX callP callG:P4)(ord:b5l (b5l Nat))(GE:Env->Nat->Env)(al:b5l C2)(env:Env)(h:A3):b5m (Env × A3):=
 let nms:=NY h.A5.length al
 let hb:A3:=⟨h.A5++List.replicate (nms.countP (·.isSome)) none,h.A9,h.B0⟩
 (Ma md callG al nms 0 env hb).bind λx=>jT md callX callP callG ord nms al x.1 (GE x.1) x.2 hb (QF (a1f md callG ord nms al (GE x.1) x.2) x.2.length [([],hb)])
theorem a50{P:Program}{N:Nat}{Q:Exit->Env->A3->Prop}{env:Env}{h:A3}{ord:b5l (b5l Nat)}{al tl:b5l C2}{F:Env}{h':A3}{n:Nat}{H:(Nat->b5n)->b5m A3}(hn:Ku P (clo ord) al env F (λ_=>F) h h' n H)(hv:AT P tl F h' λenv' h'=>Q .normal env' h'):L4 P N (.drawn ord al tl) Q env h:=by
 intro c hc σ a hs;cases c<;>(try simp only[G0,b44,b43]at hc)
 case region id ops' d=>
  cases d<;>simp only[G0,b44,b43]at hc
  ·obtain⟨_,_,hx⟩:=hc;cases hx
  ·obtain⟨al',hal,tl',htl,hx⟩:=hc;split at hx
   ·rename_i hcond;cases hx;obtain⟨c2,c3⟩:=hcond;rw[<-c3]at hal htl;exact vl hal htl c2 hs hn hv
   ·split at hx<;>cases hx
 all_goals first
  |(cases hc;done)
  |(obtain⟨_,_,hx⟩:=hc;cases hx;done)
  |(obtain⟨_,_,_,_,hx⟩:=hc;cases hx;done)
  |(obtain⟨_,_,_,_,_,_,hx⟩:=hc;cases hx;done)
theorem a4r{P:Program}{N:Nat}{Q:Exit->Env->A3->Prop}{env:Env}{h:A3}{ord:b5l (b5l Nat)}{al tl:b5l C2}{F:Env}{h':A3}{n:Nat}{H:(Nat->b5n)->b5m A3}(hn:Ku P (clo ord) al env F (Po ord al env F) h h' n H)(hv:AT P tl F h' λenv' h'=>Q .normal env' h'):L4 P N (.late ord al tl) Q env h:=by
 intro c hc σ a hs;cases c<;>(try simp only[G0,b44,b43]at hc)
 case region id ops' d=>
  cases d<;>simp only[G0,b44,b43]at hc
  ·obtain⟨_,_,hx⟩:=hc;cases hx
  ·obtain⟨al',hal,tl',htl,hx⟩:=hc;split at hx
   ·cases hx
   ·split at hx
    ·rename_i hcond;cases hx;obtain⟨c2,c3⟩:=hcond;rw[<-c3]at hal htl;exact vO hal htl c2 hs hn hv
    ·cases hx
 all_goals first
  |(cases hc;done)
  |(obtain⟨_,_,hx⟩:=hc;cases hx;done)
  |(obtain⟨_,_,_,_,hx⟩:=hc;cases hx;done)
  |(obtain⟨_,_,_,_,_,_,hx⟩:=hc;cases hx;done)
theorem aA{md:b5n}{call:P4}:∀{l:b5l C2}{nms:b5l (b5m Nat)}{i:Nat}{env:Env}{h:A3}{x:Env × b5l Nat},Ma md call l nms i env h=some x->∀t,I2 t l=false->get x.1 t=get env t
 |[],nms,i,env,h,x,he,t,ht=>by simp[Ma]at he;subst he;rfl
 |o::r,nms,i,env,h,x,he,t,ht=>by
  have hw:I2 t r=false/\o.dst≠some t:=by
   simp only[I2,List.any_cons,Bool.or_eq_false_iff]at ht;exact⟨ht.2,by simpa using ht.1⟩
  simp only[Ma,b44]at he;obtain⟨b,h1,h2⟩:=he;cases b with
  |false=>
   simp only at h2;rw[aA h2 t hw.1,CX,if_neg hw.2]
  |true=>
   simp only[b44,b43]at h2;obtain⟨p,h3,y,h4,rfl⟩:=h2;show get y.1 t=_;rw[aA h4 t hw.1,BX,if_neg hw.2]
theorem uu{P:Program}{md:b5n}{call:P4}(hc:EE P call){nm:b5m Nat}{o:C2}{F G:Env}{h h2:A3}{a:AV}(he:Oc md call nm o G h=some (a,h2))(hd:Gj F o.dst a):Qc P F G h (some h2) o:=by
 refine⟨a,h2,rfl,?_,Pr hd⟩;unfold Oc at he;split at he
 ·rename_i n cells ho;split at he
  ·rename_i hn;cases he;exact .inl ⟨cells,n,ho,hn,rfl,rfl⟩
  ·cases he
 ·exact .inr (FF (K:=λx y=>x=a/\y=h2) hc he ⟨rfl,rfl⟩)
theorem b1i(nx:b5l Nat × A3->CS)(n:Nat)(hb:A3):Br (QF nx n [([],hb)]) []=some hb:=by
 cases n<;>simp[QF,Br]
theorem ow{P:Program}{md:b5n}{callX callP callG:P4}(hcX:Yc P callX)(hcP:EE P callP)(hcG:EE P callG)(hq:∀f args h a h',callP f args h=some (a,h')->h'=h){ord:b5l (b5l Nat)}{GE:Env->Nat->Env}{al:b5l C2}{env:Env}{h:A3}{x:Env × A3}(he:VM md callX callP callG ord GE al env h=some x):
  ∃n H,Ku P ord al env x.1 (GE x.1) h x.2 n H:=by
 unfold VM at he;simp only[b44]at he;obtain⟨⟨F,E⟩,h1,h2⟩:=he;generalize hT:QF _ _ _=T at h2;have hT0:Br T []=some ⟨h.A5++List.replicate ((NY h.A5.length al).countP (·.isSome)) none,h.A9,h.B0⟩:=by rw[<-hT];exact b1i _ _ _
 clear hT;unfold jT at h2;split at h2
 ·rename_i hok;simp only[b43]at h2;obtain⟨h',h3,rfl⟩:=h2;simp only[fo,b47,b5e,b45,List.mem_range]at hok;obtain⟨⟨hE,hG⟩,hok⟩:=hok;refine⟨(NY h.A5.length al).countP (·.isSome),λL=>Br T (E.filter L),?_⟩
  have hin:∀(L:Nat->b5n) k,k∈E->(E.filter L).contains k=L k:=by
   intro L k hk;cases hl:L k with
   |true=>simpa[List.contains_iff_mem,List.mem_filter]using ⟨hk,hl⟩
   |false=>
    cases hb:(E.filter L).contains k with
    |false=>rfl
    |true=>
     have:=List.mem_filter.1 (List.contains_iff_mem.1 hb);rw[hl]at this;cases this.2
  exact {
   Fz:=λL L' hl=>by
    show Br T (E.filter L)=Br T (E.filter L');rw[List.filter_congr λi hi=>hl i (hE i hi)]
   first:=by
    show Br T (E.filter λ_=>false)=_;rw[show E.filter (λ_=>false)=[] from List.filter_eq_nil_iff.2 (by simp)];exact hT0
   last:=λhL hh=>by
    have hh':Br T (E.filter λ_=>true)=some hL:=hh;rw[show E.filter (λ_=>true)=E from List.filter_eq_self.2 (by simp),h3]at hh';exact(Option.some.inj hh').symm
   keep:=λt ht=>aA h1 t ht
   step:=λL i o hL hi hun hcl hah hH=>by
    have him:=(List.getElem?_eq_some_iff.1 hi).1;have hck:=hok i him;rw[hi]at hck;simp only at hck;have hH':(T.find? λp=>p.1==E.filter L).map (·.2)=some hL:=hH;simp only[b43]at hH';obtain⟨⟨S,hS⟩,hf,rfl⟩:=hH';have hmem:=List.mem_of_find?_eq_some hf;have hSe:S=E.filter L:=by simpa using List.find?_some hf
    subst hSe
    have hfree:PV ord E (E.filter L) i:=by
     simp only[PV,b47,b5f,b5e,Bool.or_eq_true];refine⟨⟨?_,?_⟩,?_⟩
     ·cases hb:(E.filter L).contains i with
      |false=>rfl
      |true=>
       have:=List.mem_filter.1 (List.contains_iff_mem.1 hb);rw[hun]at this;cases this.2
     ·intro k hk;cases hb:E.contains k with
      |false=>exact .inl rfl
      |true=>right;rw[hin L k (List.contains_iff_mem.1 hb)];exact hah k hk
     ·right;cases hb:(E.filter L).any λw=>(ord.getD w []).contains i with
      |false=>rfl
      |true=>
       obtain⟨w,hw,hwi⟩:=List.any_eq_true.1 hb;obtain⟨hw1,hw2⟩:=List.mem_filter.1 hw;have:=hcl w i (hE w hw1) hw2 (List.contains_iff_mem.1 hwi);rw[hun]at this;cases this
    have hup:E.filter (VU L i)=GO E i (E.filter L):=by
     unfold GO;apply List.filter_congr;intro k hk;rw[hin L k hk];show(if k=i then true else L k)=_
     by_cases hki:k=i
     ·simp[hki]
     ·rw[if_neg hki];simp[hki]
    have hsame:E.contains i=false->GO E i (E.filter L)=E.filter L:=by
     intro hni;unfold GO;apply List.filter_congr;intro k hk
     have hki:k≠i:=by
      rintro rfl;rw[List.contains_iff_mem.2 hk]at hni;cases hni
     rw[hin L k hk];simp[hki]
    show Rs P F (GE F i) hS (Br T (E.filter (VU L i))) o;rw[hup];have hcur:Br T (E.filter L)=some hS:=hH
    have does:M4 (GE F i) o.guard=some true->Qc P F (GE F i) hS (Br T (GO E i (E.filter L))) o:=by
     intro hg;rw[hg]at hck;simp only at hck;split at hck
     ·have:=List.all_eq_true.1 hck _ hmem;simp only[hfree,Bool.not_true,Bool.false_or]at this;split at this
      ·rename_i r h2 e1 e2;simp only[b47]at this;rw[e2];have heq:=oK this.1;exact uu hcG (a:=r.1) (by rw[e1,<-heq]) this.2
      ·cases this
     ·rename_i hni;have hni':E.contains i=false:=by simpa using hni
      rw[hsame hni',hcur];simp only[Bool.or_eq_true]at hck;rcases hck with hck|hck
      ·simp only[ju,b47]at hck;obtain⟨⟨c1,c2⟩,c3⟩:=hck;split at c3
       ·rename_i r e1;exact⟨r.1,hS,rfl,.inr (b2e hcX (h':=r.2) c2 c1 e1 (YI (hG _ hmem))),Pr c3⟩
       ·cases c3
      ·have:=List.all_eq_true.1 hck _ hmem;simp only[hfree,Bool.not_true,Bool.false_or]at this;split at this
       ·split at this
        ·rename_i r e1;simp only[b47]at this;have heq:=oK this.1;exact⟨r.1,hS,rfl,.inr (FF (K:=λx y=>x=r.1/\y=hS) hcG (h':=r.2) e1 ⟨rfl,heq⟩),Pr this.2⟩
        ·cases this
       ·simp only[b47]at this;obtain⟨c1,c2⟩:=this;split at c2
        ·rename_i r e1;have heq:r.2=hS:=RR (a:=r.1) hq c1 e1;exact⟨r.1,hS,rfl,.inr (FF (K:=λx y=>x=r.1/\y=hS) hcP (h':=r.2) e1 ⟨rfl,heq⟩),Pr c2⟩
        ·cases c2
    have skips:M4 (GE F i) o.guard=some false->Br T (GO E i (E.filter L))=some hS/\∀d,o.dst=some d->get F d=some (.tuple []):=by
     intro hg;rw[hg]at hck;simp only[b47,b5f]at hck;exact⟨by rw[hsame hck.1];exact hcur,Pr hck.2⟩
    unfold Rs;cases hgd:o.guard with
    |none=>exact does (by rw[hgd];rfl)
    |some g=>
     obtain⟨t,want⟩:=g;simp only
     have hgs:∃b,M4 (GE F i) (some (t,want))=some b:=by
      rw[hgd]at hck;cases hb:M4 (GE F i) (some (t,want)) with
      |none=>rw[hb]at hck;cases hck
      |some b=>exact⟨b,rfl⟩
     obtain⟨b,hb⟩:=hgs;have:=sQ hb;rcases this with⟨c,hc,hbe⟩|⟨hc,rfl⟩
     ·refine .inl ⟨c,hc,λhw=>does ?_,λhw=>skips ?_⟩
      ·rw[hgd,hb,hbe,hw];simp
      ·rw[hgd,hb,hbe]
       congr 1
       simpa using hw
     ·exact .inr ⟨hc,skips (by rw[hgd,hb])⟩}
 ·cases h2
abbrev N1:=b5l (Nat × (Nat × F7 × b5l M5))
def Mu:F7->b5n
 |.from_ .skip 0=>true
 |_=>false
def Xo(P:Program)(f:FuncId)(t:TypeId):Prop:=∀(h:A3) (n:Nat) (r:b5l AV),h.A5[n]? =some (some (.ps n t::r))->∀K:AV->A3->Prop,K (.tuple []) h->AF P f [.ptr n 0] h K
def eo(t:Nat)(args:b5l AV)(h:A3):b5m (AV × A3):=
 match args with
 |[.ptr n 0]=>match h.A5[n]? with
  |some (some (.ps m u::_))=>if m=n/\u=t then some (.tuple [],h) else none
  |_=>none
 |_=>none
theorem xn{P:Program}{f:FuncId}{t:Nat}(hc:Xo P f t){args:b5l AV}{h h':A3}{a:AV}(he:eo t args h=some (a,h')):h.A5≠[]/\∀K:AV->A3->Prop,K a h'->AF P f args h K:=by
 unfold eo at he;split at he
 ·split at he
  ·rename_i hb;split at he
   ·rename_i hm;cases he;obtain⟨rfl,rfl⟩:=hm;exact⟨by rintro hn;rw[hn]at hb;simp at hb,λK hk=>hc h _ _ hb K hk⟩
   ·cases he
  ·cases he
 ·cases he
def G7(l:b5l AV):F7:=.from_ (.cond (.c (.tuple l)) .skip .skip) 1
def Gs:F7->b5m (b5l AV)
 |.from_ (.cond (.c (.tuple l)) .skip .skip) 1=>some l
 |_=>none
def Qk:AV->AV × b5l (Nat × b5l AV)
 |.agg [.F5 g,.tuple cells,r]=>(r,[(g,cells)])
 |r=>(r,[])
def fE(need gl:b5l (Nat × b5l AV)):b5n:=need.all λe=>gl.any λq=>q.1==e.1&&Bq q.2 e.2
def Cg(P:Program)(f:FuncId):b5l AV->Prop
 |[]=>False
 |r::l=>plain (Qk r).1/\Ce P (Qk r).2 f l λb=>b=(Qk r).1
theorem Ce.more{P:Program}{need gl:b5l (Nat × b5l AV)}{f:FuncId}{l:b5l AV}{R:AV->Prop}(h:Ce P need f l R)(hs:fE need gl):Ce P gl f l R:=by
 refine⟨h.1,λw outer cargs ho hg hr=>h.2 w outer cargs ho (λg cells hm=>?_) hr⟩;have:=List.all_eq_true.1 hs _ hm;obtain⟨q,hq,h2⟩:=List.any_eq_true.1 this;simp only[b47,beq_iff_eq]at h2;obtain⟨q1,q2⟩:=q;have e:=Df _ _ h2.2;simp only at h2 e;rw[<-e,<-h2.1];exact hg _ _ hq
def Wo(P:Program)(g:FuncId)(x:Nat × F7 × b5l M5):Prop:=match Gs x.2.1 with
 |some l=>Cg P g l
 |none=>if Mu x.2.1=true then Xo P g x.1 else P0 P g=some x
def T4(P:Program)(T:N1):Prop:=∀g x,(g,x)∈T->Wo P g x
def Ht:N1->Nat->b5l (Nat × b5l AV)->b5l AV->b5m AV
 |[],_,_,_=>none
 |(g,x)::T,f,gl,args=>match Gs x.2.1 with
  |none=>none
  |some l=>if g=f then(match l with
   |r::l=>if(Bq l args&&fE (Qk r).2 gl)=true then some (Qk r).1 else Ht T f gl args
   |[]=>Ht T f gl args) else Ht T f gl args
theorem OL{P:Program}:∀{T:N1}{f:Nat}{gl:b5l (Nat × b5l AV)}{args:b5l AV}{r:AV},T4 P T->Ht T f gl args=some r->Ce P gl f args λb=>b=r
 |[],f,gl,args,r,hT,h=>by cases h
 |(g,x)::T,f,gl,args,r,hT,h=>by
  have hr:T4 P T:=λg x hm=>hT g x (by simp[hm])
  have h0:=hT g x (by simp);unfold Ht at h;unfold Wo at h0;split at h
  ·cases h
  ·rename_i l hl;rw[hl]at h0;split at h
   ·rename_i hg;subst hg;split at h
    ·split at h
     ·rename_i hb;cases h;simp only[b47]at hb;rw[Df _ _ hb.1]at h0;exact h0.2.more hb.2
     ·exact OL hr h
    ·exact OL hr h
   ·exact OL hr h
def QG:N1->Nat->b5m (Nat × F7 × b5l M5)
 |[],_=>none
 |(g,x)::r,f=>if g=f then(match Gs x.2.1 with|none=>some x|some _=>QG r f) else QG r f
theorem Kz:∀{T:N1}{f:Nat}{x:Nat × F7 × b5l M5},QG T f=some x->(f,x)∈T/\Gs x.2.1=none
 |[],f,x,h=>by cases h
 |(g,y)::r,f,x,h=>by
  unfold QG at h;split at h
  ·rename_i hg;subst hg;split at h
   ·rename_i hn;cases h;exact⟨by simp,hn⟩
   ·exact⟨by simp[(Kz h).1],(Kz h).2⟩
  ·exact⟨by simp[(Kz h).1],(Kz h).2⟩
def CM:Env->Env
 |[]=>[]
 |(t,a)::e=>(t,a)::drop t (CM e)
theorem bS:∀{e:Env}{t u:Nat}{b:AV},(u,b)∈drop t e->u≠t/\(u,b)∈e
 |[],t,u,b,h=>by simp[drop]at h
 |(k,a)::e,t,u,b,h=>by
  simp only[drop]at h;split at h
  ·obtain⟨h1,h2⟩:=bS h;exact⟨h1,by simp[h2]⟩
  ·rename_i hk;rcases List.mem_cons.1 h with h|h
   ·cases h;exact⟨hk,by simp⟩
   ·obtain⟨h1,h2⟩:=bS h;exact⟨h1,by simp[h2]⟩
theorem lg:∀{e:Env}{u:Nat}{b:AV},(u,b)∈CM e->get e u=some b
 |[],u,b,h=>by simp[CM]at h
 |(t,a)::e,u,b,h=>by
  simp only[CM,List.mem_cons]at h;rcases h with h|h
  ·cases h;simp[get]
  ·obtain⟨h1,h2⟩:=bS h;simp only[get];rw[if_neg (λx=>h1 x.symm)];exact lg h2
theorem kh:∀{e env:Env},(∀u b,(u,b)∈e->get env u=some b)->EN e env
 |[],_,_=>trivial
 |(t,a)::e,env,h=>⟨h t a (by simp),kh λu b hu=>h u b (by simp[hu])⟩
theorem UO(e:Env):EN (CM e) e:=kh λ_ _ h=>lg h
def BF(env:Env)(h:A3):b5l M5->b5m (b5l AV)
 |[]=>some []
 |.tmp t::r=>(get env t).bind λa=>(BF env h r).map λl=>a::l
 |.cell t n::r=>(get env t).bind λp=>(HU h n p).bind λa=>(BF env h r).map λl=>a::l
theorem Ey{env:Env}{h:A3}:∀{rs:b5l M5}{l:b5l AV}{K:b5l AV->Prop},BF env h rs=some l->K l->Z2 env h rs K
 |[],l,K,he,hk=>by cases he;exact hk
 |.tmp t::r,l,K,he,hk=>by
  simp only[BF,b44,b43]at he;obtain⟨a,h1,l',h2,rfl⟩:=he;simp only[Z2,h1,wv];exact Ey (K:=λl=>K (a::l)) h2 hk
 |.cell t n::r,l,K,he,hk=>by
  simp only[BF,b44,b43]at he;obtain⟨p,h1,a,h2,l',h3,rfl⟩:=he;simp only[Z2,h1,wv];exact Xl (K:=λa=>Z2 env h r λl=>K (a::l)) h2 (Ey (K:=λl=>K (a::l)) h3 hk)
abbrev BS:=b5n->F7->Env->A3->b5m (Exit × Env × A3)
def pP:Exit->b5n
 |.normal|.ret=>true
 |_=>false
def X6(T:N1)(M:Nat->b5n->b5n)(md:b5n)(ih:BS):P4:=λf args h=>(QG T f).bind λx=>
 if Mu x.2.1=true then eo x.1 args h else
 if args.length<=x.1 then(ih (M f md) x.2.1 (AG 0 args) h).bind λr=>if pP r.1=true then(BF r.2.1 r.2.2 x.2.2).map λl=>(S7 l,r.2.2) else none else none
def W2(h:A3)(a:AV):AV:=if plain (wk a)=true then wk a else N9 8 h (wk a)
def gp(h:A3)(l:b5l AV):b5l AV:=l.map λa=>N9 8 h (wk a)
def HQ(T:N1)(M:Nat->b5n->b5n)(md:b5n)(ih:BS):P4:=λf args h=>
 if(M6 h.B0&& !(M f md&& !M f false))=true then
  if C3 (args.map wk)=true then match Ht T f h.B0 (args.map wk) with
   |some r=>some (r,h)
   |none=>(X6 T M md ih f (args.map wk) ⟨[],[],h.B0⟩).bind λr=>if plain (W2 r.2 r.1)=true then some (W2 r.2 r.1,h) else none
  else if C3 (gp h args)=true then(X6 T M md ih f (gp h args) ⟨[],[],h.B0⟩).bind λr=>if plain (W2 r.2 r.1)/\Vr (W2 r.2 r.1)=true then some (W2 r.2 r.1,h) else none
  else none
 else none
def XG(T:N1)(M:Nat->b5n->b5n)(md:b5n)(ih:BS):P4:=λf args h=>
 if(M6 h.B0&& !(M f md&& !M f false))=true/\C3 (args.map wk)=true then match Ht T f h.B0 (args.map wk) with
  |some r=>some (r,h)
  |none=>(X6 T M md ih f (args.map wk) ⟨[],[],h.B0⟩).bind λr=>if plain (W2 r.2 r.1)=true then some (W2 r.2 r.1,h) else none
 else none
def HI(T:N1)(M:Nat->b5n->b5n)(md:b5n)(ih:BS):P4:=λf args h=>if C3 args=true then(match HQ T M md ih f args h with|some r=>some r|none=>X6 T M md ih f args h) else X6 T M md ih f args h
def BU(T:N1)(M:Nat->b5n->b5n)(ih:BS):BS:=λmd ac env h=>
 match ac with
 |.skip=>some (.normal,env,h)
 |.region ops=>(Bs md (HI T M md ih) ops env h).map λr=>(.normal,r.1,r.2)
 |.drawn ord al tl=>match (if(al.all λo=>AH o.op)=true then Qz md (HQ T M md ih) al env h else none) with
  |some F=>(Bs md (HI T M md ih) tl F h).map λr=>(.normal,r.1,r.2)
  |none=>(VM md (XG T M md ih) (HQ T M md ih) (HI T M md ih) (Lift.clo ord) (λF _=>F) al env h).bind λx=>(Bs md (HI T M md ih) tl x.1 x.2).map λr=>(.normal,r.1,r.2)
 |.late ord al tl=>(VM md (XG T M md ih) (HQ T M md ih) (HI T M md ih) (Lift.clo ord) (Po ord al env) al env h).bind λx=>(Bs md (HI T M md ih) tl x.1 x.2).map λr=>(.normal,r.1,r.2)
 |.seq a b=>(ih md a env h).bind λr=>match r.1 with
  |.normal=>ih md b r.2.1 r.2.2
  |_=>some r
 |.cond c a b=>(c.ev env).bind λv=>match v with
  |.v (.bool true)=>ih md a env h
  |.v (.bool false)=>ih md b env h
  |_=>none
 |.block id a=>(ih md a env h).map λr=>match r.1 with
  |.exit i=>(if i=id then .normal else .exit i,r.2)
  |_=>r
 |.loop a=>(ih md a (CM env) h).bind λr=>match r.1 with
  |.normal=>ih md (.loop a) r.2.1 r.2.2
  |_=>some r
 |.exit id=>some (.exit id,env,h)
 |.ret=>some (.ret,env,h)
 |.label _=>some (.normal,env,h)
 |.goto l=>some (.goto l,env,h)
 |.scope a=>(ih md a env h).bind λr=>match r.1 with
  |.goto l=>ih md (.from_ a l) r.2.1 r.2.2
  |_=>some r
 |.from_ a l=>(AD a l).bind λrest=>(ih md rest (CM env) h).bind λr=>match r.1 with
  |.goto l'=>if l'=l then ih md (.from_ a l) r.2.1 r.2.2 else none
  |_=>some r
noncomputable def AL(T:N1)(M:Nat->b5n->b5n)(n:Nat):BS:=Nat.rec (λ_ _ _ _=>none) (λ_ ih=>BU T M ih) n
def IB(P:Program)(ih:BS):Prop:=∀md ac env h r,ih md ac env h=some r->∀(N:Nat) (Q:Exit->Env->A3->Prop),Q r.1 r.2.1 r.2.2->L4 P N ac Q env h
theorem oq{P:Program}{T:N1}{M:Nat->b5n->b5n}{md:b5n}(hT:T4 P T){ih:BS}(hi:IB P ih){f:FuncId}{args:b5l AV}{h h':A3}{a:AV}(he:X6 T M md ih f args h=some (a,h')):
  (h.A5≠[]/\∀K:AV->A3->Prop,K a h'->AF P f args h K)\/∃N ac rs,P0 P f=some (N,ac,rs)/\args.length<=N/\∀K:AV->A3->Prop,K a h'->L4 P N ac (Gh rs K) (AG 0 args) h:=by
 simp only[X6,b44]at he;obtain⟨⟨N,ac,rs⟩,h1,h2⟩:=he;simp only at h2;have hok:=hT _ _ (Kz h1).1;unfold Wo at hok;rw[(Kz h1).2]at hok;split at h2
 ·rename_i hcc;rw[if_pos hcc]at hok;exact .inl (xn hok h2)
 rename_i hcc;rw[if_neg hcc]at hok;refine .inr ?_;split at h2
 ·rename_i hn;simp only[b44]at h2;obtain⟨⟨e,env,h2'⟩,h3,h4⟩:=h2;simp only at h4;split at h4
  ·rename_i hend;simp only[b43,Prod.mk.injEq]at h4;obtain⟨l,h5,rfl,rfl⟩:=h4;refine⟨N,ac,rs,hok,hn,λK hk=>hi _ _ _ _ _ h3 N _ ?_⟩;cases e<;>simp[pP]at hend
   ·exact Ey (K:=λl=>K (S7 l) h2') h5 hk
   ·exact Ey (K:=λl=>K (S7 l) h2') h5 hk
  ·cases h4
 ·cases h2
theorem jI{P:Program}{T:N1}{M:Nat->b5n->b5n}{md:b5n}(hT:T4 P T){ih:BS}(hi:IB P ih):EE P (X6 T M md ih):=by
 intro f args h a h' he K hk;rcases oq hT hi he with h0|⟨N,ac,rs,h1,h2,h3⟩
 ·exact h0.2 K hk
 exact Zp h1 h2 (h3 K hk)
theorem RD{P:Program}{T:N1}{M:Nat->b5n->b5n}{md:b5n}(hT:T4 P T){ih:BS}(hi:IB P ih){f:FuncId}{args:b5l AV}{gl:b5l (Nat × b5l AV)}{a:AV}{h':A3}(he:X6 T M md ih f args ⟨[],[],gl⟩=some (a,h'))(hp:plain (W2 h' a)):
  Ce P gl f args λb=>b=W2 h' a:=by
 rcases oq hT hi he with h0|⟨N,ac,rs,h1,h2,h3⟩
 ·exact absurd rfl h0.1
 unfold W2 at hp ⊢;split at hp
 ·rename_i hpl;rw[if_pos hpl];exact kq h1 h2 (h3 _ ⟨hp,rfl⟩)
 ·rename_i hpl;rw[if_neg hpl];exact uv 8 h1 h2 (h3 _ ⟨hp,rfl⟩)
theorem SP{P:Program}{T:N1}{M:Nat->b5n->b5n}{md:b5n}(hT:T4 P T){ih:BS}(hi:IB P ih):EE P (HQ T M md ih):=by
 intro f args h a h' he K hk;simp only[HQ]at he;split at he
 ·rename_i hg0;have hg:M6 h.B0:=by simp only[b47]at hg0;exact hg0.1
  split at he
  ·rename_i hc;split at he
   ·rename_i r hr;cases he;exact Td (OL hT hr) hg rfl hc λav hav=>by subst hav;exact hk
   simp only[b44]at he;obtain⟨⟨b,h2⟩,h3,h4⟩:=he;simp only at h4;split at h4
   ·rename_i hp;cases h4;exact Td (RD hT hi h3 hp) hg rfl hc λav hav=>by subst hav;exact hk
   ·cases h4
  ·split at he
   ·rename_i hc;simp only[b44]at he;obtain⟨⟨b,h2⟩,h3,h4⟩:=he;simp only at h4;split at h4
    ·rename_i hp;cases h4;exact a2o 8 (RD hT hi h3 hp.1) hg rfl hc (λav hav=>by subst hav;exact hp.2) λav hav=>by subst hav;exact hk
    ·cases h4
   ·cases he
 ·cases he
theorem ci{T:N1}{M:Nat->b5n->b5n}{md:b5n}{ih:BS}:∀f args h a h',HQ T M md ih f args h=some (a,h')->h'=h:=by
 intro f args h a h' he;simp only[HQ]at he;split at he
 ·split at he
  ·split at he
   ·cases he;rfl
   simp only[b44]at he;obtain⟨r,h3,h4⟩:=he;split at h4<;>cases h4
   rfl
  ·split at he
   ·simp only[b44]at he;obtain⟨r,h3,h4⟩:=he;split at h4<;>cases h4
    rfl
   ·cases he
 ·cases he
theorem fW{P:Program}{T:N1}{M:Nat->b5n->b5n}{md:b5n}(hT:T4 P T){ih:BS}(hi:IB P ih):Yc P (XG T M md ih):=by
 intro f args h a h' he;simp only[XG]at he;split at he
 ·rename_i hc0;have hc:M6 h.B0/\C3 (args.map wk):=by simp only[b47]at hc0;exact⟨hc0.1.1,hc0.2⟩
  split at he
  ·rename_i r hr;cases he;refine⟨rfl,λh2 hg K hk=>?_⟩;have:=OL hT hr;rw[<-hg]at this;exact Td this (by rw[hg];exact hc.1) rfl hc.2 λav hav=>by subst hav;exact hk
  simp only[b44]at he;obtain⟨⟨b,h2⟩,h3,h4⟩:=he;simp only at h4;split at h4
  ·rename_i hp;cases h4;refine⟨rfl,λh2 hg K hk=>?_⟩;have:=RD hT hi h3 hp;rw[<-hg]at this;exact Td this (by rw[hg];exact hc.1) rfl hc.2 λav hav=>by subst hav;exact hk
  ·cases h4
 ·cases he
theorem Lg{P:Program}{T:N1}{M:Nat->b5n->b5n}{md:b5n}(hT:T4 P T){ih:BS}(hi:IB P ih):EE P (HI T M md ih):=by
 intro f args h a h' he K hk;simp only[HI]at he;split at he
 ·split at he
  ·rename_i r hr;cases he;exact SP hT hi _ _ _ _ _ hr K hk
  ·exact jI hT hi _ _ _ _ _ he K hk
 ·exact jI hT hi _ _ _ _ _ he K hk
theorem b3a{P:Program}{N:Nat}{Q:Exit->Env->A3->Prop}{env:Env}{h:A3}{a:F7}{l:Nat}:L4 P N (.from_ a l) Q env h:=by
 intro c hc;exfalso;cases c<;>(try simp only[G0,b44,b43]at hc)
 case region id ops d=>
  cases d<;>simp only[G0,b44,b43]at hc
  ·obtain⟨_,_,hx⟩:=hc;cases hx
  ·obtain⟨_,_,_,_,hx⟩:=hc;(repeat' split at hx)<;>cases hx
 all_goals first
  |(cases hc;done)
  |(obtain⟨_,_,hx⟩:=hc;cases hx;done)
  |(obtain⟨_,_,_,_,hx⟩:=hc;cases hx;done)
  |(obtain⟨_,_,_,_,_,_,hx⟩:=hc;cases hx;done)
theorem b2n{P:Program}{T:N1}{M:Nat->b5n->b5n}(hT:T4 P T)(n:Nat):IB P (AL T M n):=by
 induction n using Nat.strongRecOn with
 |_ n IH=>
 cases n with
 |zero=>intro md ac env h r he;cases he
 |succ n=>
  have hi:=IH n (by omega);intro md ac env h r he N Q hq;have he':BU T M (AL T M n) md ac env h=some r:=he;cases ac with
  |skip=>cases he';exact kL hq
  |exit id=>cases he';exact pF hq
  |ret=>cases he';exact nJ hq
  |label l=>cases he';exact gb hq
  |goto l=>cases he';exact lc hq
  |from_ a l=>exact b3a
  |scope a=>
   simp only[BU,b44]at he';obtain⟨⟨x,env1,h1⟩,h2,h3⟩:=he';cases x<;>simp only at h3
   case goto l=>
    cases hf:AD a l with
    |none=>
     exfalso;cases n with
     |zero=>cases h3
     |succ n=>
      have h3':BU T M (AL T M n) md (.from_ a l) env1 h1=some r:=h3;simp only[BU,hf,Option.bind_none]at h3';cases h3'
    |some rest=>
     refine b18 l hf (λm e h=>m<=n/\∃e',e=CM e'/\AL T M m md (.from_ a l) e' h=some r) (hi _ _ _ _ _ h2 N _ ⟨rfl,n,CM env1,UO env1,Nat.le_refl _,env1,rfl,h3⟩) ?_;rintro m e h ⟨hm,e',rfl,hr⟩;cases m with
     |zero=>cases hr
     |succ m=>
      have hr':BU T M (AL T M m) md (.from_ a l) e' h=some r:=hr;simp only[BU,hf,Option.bind_some,b44]at hr';obtain⟨⟨y,env2,h4⟩,h5,h6⟩:=hr';refine IH m (by omega) _ _ _ _ _ h5 N _ ?_;cases y<;>simp only at h6
      case goto l'=>
       split at h6
       ·rename_i hl;exact⟨hl,m,CM env2,by omega,UO env2,by omega,env2,rfl,h6⟩
       ·cases h6
      all_goals (cases h6;first|exact hq|exact hq)
   all_goals (cases h3;exact wT (hi _ _ _ _ _ h2 N _ hq))
  |region ops=>
   simp only[BU,b43]at he';obtain⟨r1,h1,rfl⟩:=he';exact jb (MD (Lg hT hi) h1 hq)
  |drawn ord al tl=>
   simp only[BU]at he';split at he'
   ·rename_i F hF;split at hF
    ·simp only[b43]at he';obtain⟨r1,h2,rfl⟩:=he';exact b0j (Ye (SP hT hi) ci hF (MD (Lg hT hi) h2 hq))
    ·cases hF
   ·simp only[b44,b43]at he';obtain⟨x,h1,r1,h2,rfl⟩:=he';obtain⟨n',H,hw⟩:=ow (fW hT hi) (SP hT hi) (Lg hT hi) ci h1;exact a50 hw (MD (Lg hT hi) h2 hq)
  |late ord al tl=>
   simp only[BU,b44,b43]at he';obtain⟨x,h1,r1,h2,rfl⟩:=he';obtain⟨n',H,hw⟩:=ow (fW hT hi) (SP hT hi) (Lg hT hi) ci h1;exact a4r hw (MD (Lg hT hi) h2 hq)
  |seq a b=>
   simp only[BU,b44]at he';obtain⟨⟨e,env1,h1⟩,h2,h3⟩:=he';refine b3k (hi _ _ _ _ _ h2 N _ ?_);cases e<;>simp only at h3
   case normal=>exact hi _ _ _ _ _ h3 N Q hq
   all_goals (cases h3;exact hq)
  |cond c a b=>
   simp only[BU,b44]at he';obtain⟨v,h1,h2⟩:=he';split at h2
   ·exact mP h1 (λ_=>hi _ _ _ _ _ h2 N Q hq) (λh=>by cases h)
   ·exact mP h1 (λh=>by cases h) (λ_=>hi _ _ _ _ _ h2 N Q hq)
   ·cases h2
  |block id a=>
   simp only[BU,b43]at he';obtain⟨⟨e,env1,h1⟩,h2,h3⟩:=he';refine a64 (hi _ _ _ _ _ h2 N _ ?_);cases e<;>simp only at h3
   case exit i=>
    subst h3;show(if i=id then Q .normal env1 h1 else Q (.exit i) env1 h1);split
    ·rename_i hid;simp only[hid,if_true]at hq;exact hq
    ·rename_i hid;simp only[hid,if_false]at hq;exact hq
   all_goals (subst h3;exact hq)
  |loop a=>
   refine sH (λm e h=>m<=n+1/\∃e',e=CM e'/\AL T M m md (.loop a) e' h=some r) (n+1) (CM env) ⟨UO env,Nat.le_refl _,env,rfl,he⟩ ?_;rintro m e h ⟨hm,e',rfl,hr⟩;cases m with
   |zero=>cases hr
   |succ m=>
    have hr':BU T M (AL T M m) md (.loop a) e' h=some r:=hr;simp only[BU,b44]at hr';obtain⟨⟨x,env1,h1⟩,h2,h3⟩:=hr';refine IH m (by omega) _ _ _ _ _ h2 N _ ?_;cases x<;>simp only at h3
    case normal=>exact⟨m,CM env1,by omega,UO env1,by omega,env1,rfl,h3⟩
    all_goals (cases h3;exact hq)
theorem Cq{P:Program}{T:N1}{M:Nat->b5n->b5n}{md:b5n}(hT:T4 P T)(n:Nat){f:FuncId}{args:b5l AV}{gl:b5l (Nat × b5l AV)}{a:AV}(he:(X6 T M md (AL T M n) f args ⟨[],[],gl⟩).map (λr=>W2 r.2 r.1)=some a)(hp:plain a):
  Ce P gl f args λb=>b=a:=by
 simp only[b43]at he;obtain⟨⟨b,h'⟩,h1,rfl⟩:=he;exact RD hT (b2n hT n) h1 hp
def Bc(o:C2):b5n:=match o.op,o.guard with
 |.alloc _,none=>true
 |_,_=>false
def Fd(o:C2):b5n:= !AH o.op&& !Bc o
theorem a8p{P:Program}{env:Env}{h:A3}{K:AV->A3->Prop}{x y:B9}{k k':IntKind}{a b:Int}(hx:x.ev env=some (.v (.int k a)))(hy:y.ev env=some (.v (.int k' b)))(hk:K (.v (.int k (if b<a then b else a))) h):A P (.AN false [x,y]) env h K:=
 Sb (l:=[.v (.int k a),.v (.int k' b)]) (v:=.int k (if b<a then b else a)) (by simp[evs,hx,hy]) (by simp[CA]) hk
theorem uV{P:Program}{env:Env}{h:A3}{K:AV->A3->Prop}{x y:B9}{k k':IntKind}{a b:Int}(hx:x.ev env=some (.v (.int k a)))(hy:y.ev env=some (.v (.int k' b)))(hk:K (.v (.int k (if a<b then b else a))) h):A P (.AN true [x,y]) env h K:=
 Sb (l:=[.v (.int k a),.v (.int k' b)]) (v:=.int k (if a<b then b else a)) (by simp[evs,hx,hy]) (by simp[CA]) hk
def L8:AV->AV
 |.nil=>.sl [] .no
 |.sl els _=>.sl els .no
 |x=>x
def AM:AV->AV
 |.agg cs=>.agg (cs.map L8)
 |x=>L8 x
def nz:AV->AV
 |.tuple vs=>.tuple (vs.map AM)
 |x=>AM x
theorem qO(av:AV):(L8 av).isCell=av.isCell:=by cases av<;>rfl
theorem Rel.L8{σ:Sg}{av:AV}{x:Value}(hr:Rel σ av x):Rel σ (L8 av) x:=by
 cases av with
 |nil=>cases hr;exact .sl0 _ trivial
 |sl els tok=>
  show Rel σ (.sl els .no) x;cases hr with
  |sl0 _ _=>exact .sl0 _ trivial
  |L3 _ a cap _ _=>exact .L3 _ a cap trivial (.inl rfl)
  |sl _ _ b o cap size xs hs hcap ht hz hc hr=>exact .sl _ _ b o cap size xs hs hcap trivial (λid e h=>by cases h) hc hr
 |_=>exact hr
theorem D3.nz{σ:Sg}{cells:b5l AV}{vs:b5l Value}(hc:D3 σ cells vs):D3 σ (cells.map L8) vs:=by
 refine⟨by simp[hc.1],λi av hi=>?_⟩;simp only[b5b,b43]at hi;obtain⟨b,hb,rfl⟩:=hi;obtain⟨h1,x,h2,h3⟩:=hc.2 i b hb;exact⟨by rw[qO];exact h1,x,h2,h3.L8⟩
theorem Rel.AM{σ:Sg}{av:AV}{x:Value}(hr:Rel σ av x):Rel σ (AM av) x:=by
 unfold Lift.AM;split
 ·obtain⟨xs,rfl,hc⟩:=hr.agg_inv;exact Rel.agg_mk' hc.nz
 ·exact hr.L8
theorem Rel.nz{σ:Sg}{av:AV}{x:Value}(hr:Rel σ av x):Rel σ (nz av) x:=by
 unfold Lift.nz;split
 ·cases hr with
  |tuple vs xs hn y hx hr=>
   refine .tuple _ _ (by simp[hn]) y (λi av hi=>?_) (λi av hi=>?_)
   ·simp only[b5b,b43]at hi;obtain⟨b,hb,rfl⟩:=hi;exact hx i b hb
   ·simp only[b5b,b43]at hi;obtain⟨b,hb,rfl⟩:=hi;exact(hr i b hb).AM
 ·exact hr.AM
theorem xW(a:AV)(h:plain (L8 a)):plain (P6 a):=by
 cases a with
 |sl els tok=>cases tok<;>simpa[L8,P6,plain]using h
 |_=>first|rfl|exact h
theorem ng:∀(l:b5l AV),C3 (l.map L8)->C3 (l.map P6)=true
 |[],_=>rfl
 |a::r,h=>by
  simp only[List.map_cons,C3,b47]at h ⊢;exact⟨xW a h.1,ng r h.2⟩
theorem Yw(a:AV)(h:plain (AM a)):plain (Bj a):=by
 cases a with
 |agg cs=>simp only[AM,Bj,plain]at h ⊢;exact ng cs h
 |sl els tok=>cases tok<;>simpa[AM,Bj,L8,P6,plain]using h
 |_=>first|rfl|exact h
theorem jN:∀(l:b5l AV),C3 (l.map AM)->C3 (l.map Bj)=true
 |[],_=>rfl
 |a::r,h=>by
  simp only[List.map_cons,C3,b47]at h ⊢;exact⟨Yw a h.1,jN r h.2⟩
theorem tg(a:AV)(h:plain (nz a)):plain (wk a):=by
 cases a with
 |tuple vs=>simp only[nz,wk,plain]at h ⊢;exact jN vs h
 |agg cs=>exact Yw (.agg cs) h
 |sl els tok=>exact Yw (.sl els tok) h
 |_=>first|rfl|exact h
theorem a18(a:AV):L8 (P6 a)=L8 a:=by
 cases a with
 |sl els tok=>cases tok<;>rfl
 |_=>rfl
theorem kS(a:AV):AM (Bj a)=AM a:=by
 cases a with
 |agg cs=>simp only[Bj,AM,List.map_map];congr 1;exact List.map_congr_left λx _=>a18 x
 |sl els tok=>cases tok<;>rfl
 |_=>rfl
theorem ul(a:AV):nz (wk a)=nz a:=by
 cases a with
 |tuple vs=>simp only[wk,nz,List.map_map];congr 1;exact List.map_congr_left λx _=>kS x
 |agg cs=>exact kS (.agg cs)
 |sl els tok=>cases tok<;>rfl
 |_=>rfl
def B4(P:Program)(gl:b5l (Nat × b5l AV))(f:FuncId)(args:b5l AV)(r:AV):Prop:=Ce P gl f args λa=>nz a=r
theorem nc{P:Program}{f:FuncId}{args args':b5l AV}{r:AV}{h:A3}{K:AV->A3->Prop}(hf:B4 P h.B0 f args r)(hgl:M6 h.B0)(ha:args'.map nz=args)(hp:C3 args)(hk:K r h):AF P f args' h K:=by
 refine⟨hf.1,λσ cargs hi hr=>?_⟩
 have hopen:∀b o,σ.open_ b o->b<σ.w.heap.size:=by
  rintro b o (ho|⟨n,hn⟩|⟨id,e,he,hs⟩)
  ·exact(hi.outer b o ho).1
  ·exact hi.lt hn
  ·exact hi.H4 id e b o he hs
 have hrels:U3 (bare σ.w σ.open_) args cargs.toList:=by
  refine⟨by rw[hr.1,<-ha];simp,λi av hav=>?_⟩;have hav':=hav;rw[<-ha]at hav;simp only[b5b,b43]at hav;obtain⟨b,hb,rfl⟩:=hav;obtain⟨x,h1,h2⟩:=hr.2 i b hb;exact⟨x,h1,h2.nz.down (Ax hp i _ hav') rfl λ_ _ h=>h⟩
 have hglobs:JT σ.w σ.open_ h.B0:=λg cells hg=>(hi.F5 g cells hg).down (by simp only[plain];exact List.all_eq_true.1 hgl _ hg) rfl λ_ _ h=>h
 refine(hf.2 σ.w σ.open_ cargs hopen hglobs hrels).mono λe w' hq=>?_
 obtain⟨av,x,rfl,hpast,hrel,hR⟩:=hq;exact⟨{σ with w:=w'},h,nz av,x,rfl,rfl,Le.world hpast,hi.world hpast,(hrel.nz).up (λ_=>rfl) (λ_=>rfl) rfl (λb o ho=>.inl ho),by rw[hR];exact hk⟩
def Lz(rs:b5l M5)(r:AV):Exit->Env->A3->Prop
 |.normal,env,h=>Z2 env h rs λl=>plain (wk (S7 l))/\nz (wk (S7 l))=r
 |.ret,env,h=>Z2 env h rs λl=>plain (wk (S7 l))/\nz (wk (S7 l))=r
 |_,_,_=>False
section
variable {P:Program}{h h':A3}{env env':Env}{N:Nat}{Q:Exit->Env->A3->Prop}{K:Env->A3->Prop}{L:b5l C2}{k:Nat}
theorem a5e{gl:b5l (Nat × b5l AV)}{f:FuncId}{ac:F7}{rs:b5l M5}(hf:P0 P f=some (N,ac,rs)){args:b5l AV}{r:AV}{e₀:Env}(hn:args.length<=N)(he:AG 0 args=e₀)(hbody:C P N ac (Lz rs r) e₀ ⟨[],[],gl⟩):B4 P gl f args r:=by
 subst he;refine kq hf hn (Ob hbody.out λe env h hq=>?_);cases e<;>first|exact hq|exact hq.elim
theorem r8{rs:b5l M5}{r:AV}{l:b5l AV}(hl:BF env h rs=some l)(hr:nz (S7 l)=r)(hp:plain r):Lz rs r .ret env h:=by
 refine Ey hl ⟨tg _ (by rw[hr];exact hp),by rw[ul];exact hr⟩
def F3(P:Program)(o:I7)(env:Env)(h:A3)(av:AV)(h':A3):Prop:=∀K:AV->A3->Prop,K av h'->E9 P o env h K
theorem F3.q{P:Program}{o:I7}{env:Env}{h:A3}{av:AV}(hd:F3 P o env h av h):Ai P o env h av:=hd _ ⟨rfl,rfl⟩
def P9(e env:Env):Prop:=∀t a,get e t=some a->get env t=some a
theorem P9.put{e env:Env}(he:P9 e env)(d:b5m Nat)(av:AV):P9 (M9 e d av) (M9 env d av):=by
 intro t a h;rw[BX]at h ⊢;split at h
 ·rename_i hd;rw[if_pos hd];exact h
 ·rename_i hd;rw[if_neg hd];exact he t a h
theorem P9.drop{e env:Env}(he:P9 e env)(d:b5m Nat):P9 (Ae e d) (Ae env d):=by
 intro t a h;rw[CX]at h ⊢;split at h
 ·rename_i hd;rw[if_pos hd];exact h
 ·rename_i hd;rw[if_neg hd];exact he t a h
theorem P9.ev{e env:Env}(he:P9 e env){x:B9}{a:AV}(h:x.ev e=some a):x.ev env=some a:=by
 cases x with
 |t n=>exact he n a h
 |c b=>exact h
theorem P9.wv{e env:Env}(he:P9 e env){x:B9}{J J':AV->Prop}(hj:wv (x.ev e) J)(h:∀a,J a->J' a):wv (x.ev env) J':=by
 obtain⟨a,h1,h2⟩:=Fe hj;rw[he.ev h1];exact h a h2
theorem P9.evs{e env:Env}(he:P9 e env):∀{l:b5l B9}{r:b5l AV},evs e l=some r->evs env l=some r
 |[],r,h=>h
 |x::l,r,h=>by
  simp only[Lift.evs]at h ⊢;split at h
  ·rename_i a l' h1 h2;rw[he.ev h1,he.evs h2];exact h
  ·cases h
theorem P9.X9{e env:Env}(he:P9 e env):∀{l:b5l ((Nat × Nat) × B9)}{r:b5l ((Nat × Nat) × AV)},X9 e l=some r->X9 env l=some r
 |[],r,h=>h
 |(k,x)::l,r,h=>by
  simp only[Lift.X9]at h ⊢;split at h
  ·rename_i a l' h1 h2;rw[he.ev h1,he.X9 h2];exact h
  ·cases h
theorem P9.J2{e env:Env}(he:P9 e env){x:b5m B9}{r:b5m AV}(h:J2 e x=some r):J2 env x=some r:=by
 cases x with
 |none=>exact h
 |some x=>
  simp only[Lift.J2]at h ⊢;split at h
  ·rename_i a h1;rw[he.ev h1];exact h
  ·cases h
theorem Zx{P:Program}{o:I7}{e env:Env}(he:P9 e env){h:A3}{K:AV->A3->Prop}(ha:E9 P o e h K):E9 P o env h K:=by
 cases o<;>simp only[E9]at ha ⊢
 case mv=>exact he.wv ha λ_ h=>h
 case pick=>
  refine he.wv ha λc hc=>?_
  unfold Ga at hc ⊢;split at hc
  ·exact⟨λht=>he.wv (hc.1 ht) λ_ h=>h,λht=>he.wv (hc.2 ht) λ_ h=>h⟩
  ·exact hc.elim
 case alloc=>exact ha
 case box=>exact he.wv ha λ_ h=>h
 case build=>
  split at ha
  ·rename_i ps h1;rw[he.X9 h1];exact ha
  ·exact ha.elim
 case Ep=>
  split at ha
  ·rename_i ps h1;rw[he.X9 h1];exact ha
  ·exact ha.elim
 case load=>exact he.wv ha λ_ h=>h
 case store=>exact he.wv ha λ_ h=>he.wv h λ_ h=>h
 case nilCheck=>exact he.wv ha λ_ h=>h
 case bin=>exact he.wv ha λ_ h=>he.wv h λ_ h=>h
 case eq=>exact he.wv ha λ_ h=>he.wv h λ_ h=>h
 case un=>exact he.wv ha λ_ h=>h
 case conv=>exact he.wv ha λ_ h=>h
 case iface=>exact he.wv ha λ_ h=>h
 case func=>
  split at ha
  ·rename_i f c h1 h2;rw[he.evs h1,he.evs h2];exact ha
  ·exact ha.elim
 case Bz=>
  refine he.wv ha λx hx=>?_
  split at hx
  ·rename_i lo hi h1 h2;rw[he.J2 h1,he.J2 h2];exact hx
  ·exact hx.elim
 case Ao=>
  refine he.wv ha λx hx=>?_
  split at hx
  ·rename_i lo hi mx h1 h2 h3;rw[he.J2 h1,he.J2 h2,he.J2 h3];exact hx
  ·exact hx.elim
 case fieldAddr=>exact he.wv ha λ_ h=>h
 case field=>exact he.wv ha λ_ h=>h
 case Ck=>exact he.wv ha λ_ h=>he.wv h λ_ h=>h
 case HS=>exact he.wv ha λ_ h=>he.wv h λ_ h=>h
 case Bg=>exact he.wv ha λ_ h=>he.wv h λ_ h=>h
 case Er=>exact he.wv ha λ_ h=>he.wv h λ_ h=>h
 case BC=>exact he.wv ha λ_ h=>h
 case extract=>exact he.wv ha λ_ h=>h
 case len=>exact he.wv ha λ_ h=>h
 case append=>exact he.wv ha λ_ h=>he.wv h λ_ h=>h
 case HC=>exact ha
 case lookup=>exact he.wv ha λ_ h=>he.wv h λ_ h=>h
 case mapset=>exact he.wv ha λ_ h=>he.wv h λ_ h=>he.wv h λ_ h=>h
 case HP=>exact ha
 case HN=>exact he.wv ha λ_ h=>h
 case GJ=>exact he.wv ha λ_ h=>he.wv h λ_ h=>h
 case GC=>exact he.wv ha λ_ h=>he.wv h λ_ h=>h
 case GD=>exact he.wv ha λ_ h=>h
 case cap0=>exact he.wv ha λ_ h=>h
 case HH=>exact he.wv ha λ_ h=>he.wv h λ_ h=>h
 case clear=>exact he.wv ha λ_ h=>h
 case call f args=>
  refine he.wv ha λf hf=>?_
  unfold EC at hf ⊢;split at hf
  ·rename_i g first captured l h1;rw[he.evs h1];exact hf
  ·rename_i tab t x l h1;rw[he.evs h1];exact hf
  ·exact hf.elim
 case bytes=>exact he.wv ha λ_ h=>h
 case AN=>
  split at ha
  ·rename_i l h1;rw[he.evs h1];exact ha
  ·exact ha.elim
 case make=>exact he.wv ha λ_ h=>he.wv h λ_ h=>h
 case range=>exact he.wv ha λ_ h=>h
 case next=>exact he.wv ha λ_ h=>h
theorem F3.less{P:Program}{o:I7}{e env:Env}{h h':A3}{av:AV}(hd:F3 P o e h av h')(he:P9 e env):F3 P o env h av h':=λK hk=>Zx he (hd K hk)
theorem P9.guard{e env:Env}(he:P9 e env){g:b5m (Nat × b5n)}{b:b5n}(h:M4 e g=some b):M4 env g=some b:=by
 cases g with
 |none=>exact h
 |some p=>
  obtain⟨t,want⟩:=p;simp only[M4,b44]at h ⊢;obtain⟨v,h1,h2⟩:=h;exact⟨v,he t v h1,h2⟩
def vd(P:Program):b5l C2->Env->A3->(Env->A3->Prop)->Prop
 |[],env,h,K=>K env h
 |o::r,env,h,K=>(M4 env o.guard=some false/\vd P r (Ae env o.dst) h K)\/(M4 env o.guard=some true/\∃av h',F3 P o.op env h av h'/\vd P r (M9 env o.dst av) h' K)\/
  (M4 env o.guard=some true/\∃S:AV->A3->Prop,(∀K':AV->A3->Prop,(∀av h',S av h'->K' av h')->E9 P o.op env h K')/\∀av h',S av h'->vd P r (M9 env o.dst av) h' K)
theorem It{P:Program}:∀{l:b5l C2}{env:Env}{h:A3}{K:Env->A3->Prop},vd P l env h K->AT P l env h K
 |[],env,h,K,hv=>hv
 |o::r,env,h,K,hv=>by
  rcases hv with⟨hg,hv⟩|⟨hg,av,h',hd,hv⟩|⟨hg,S,hd,hv⟩
  ·exact OV (b:=false) hg (by simpa using It hv)
  ·refine OV (b:=true) hg ?_;simp only[if_true];exact hd _ (It hv)
  ·refine OV (b:=true) hg ?_;simp only[if_true];exact hd _ λav h' hav=>It (hv av h' hav)
def Cz(K:Env->A3->Prop):Prop:=∀e env h,P9 e env->K e h->K env h
theorem Jq{P:Program}{K:Env->A3->Prop}(hK:Cz K):∀{l:b5l C2}{e env:Env}{h:A3},P9 e env->vd P l e h K->vd P l env h K
 |[],e,env,h,he,hv=>hK e env h he hv
 |o::r,e,env,h,he,hv=>by
  rcases hv with⟨hg,hv⟩|⟨hg,av,h',hd,hv⟩|⟨hg,S,hd,hv⟩
  ·exact .inl ⟨he.guard hg,Jq hK (he.drop _) hv⟩
  ·exact .inr (.inl ⟨he.guard hg,av,h',hd.less he,Jq hK (he.put _ _) hv⟩)
  ·exact .inr (.inr ⟨he.guard hg,S,λK' hK'=>Zx he (hd K' hK'),λav h' hav=>Jq hK (he.put _ _) (hv av h' hav)⟩)
def Vp(P:Program)(L:b5l C2)(k:Nat)(env:Env)(h:A3)(K:Env->A3->Prop):Prop:=vd P (L.drop k) env h K
def Kw:P4:=λ_ _ _=>none
theorem YT{P:Program}:EE P Kw:=λf args h a h' he=>by cases he
theorem ZO{b:b5l C2}:∀{a:b5l C2}{env:Env}{h:A3}{r:Env × A3}{K:Env->A3->Prop},Bs false Kw a env h=some r->vd P b r.1 r.2 K->vd P (a++b) env h K
 |[],env,h,r,K,he,hk=>by cases he;exact hk
 |o::l,env,h,r,K,he,hk=>by
  simp only[Bs,b44]at he;obtain⟨g,h1,h2⟩:=he;cases g with
  |true=>
   simp only[b44]at h2;obtain⟨⟨a,h'⟩,h3,h4⟩:=h2;exact .inr (.inl ⟨h1,a,h',λK hk=>FF YT h3 hk,ZO h4 hk⟩)
  |false=>exact .inl ⟨h1,ZO h2 hk⟩
theorem tD(hk:Vp P L 0 env h K):V P L env h K:=⟨It hk⟩
theorem b22(m:Nat)(env':Env)(h':A3)(he:Bs false Kw ((L.drop k).take m) env h=some (env',h')){k':Nat}(hk':k+m=k')(hk:Vp P L k' env' h' K):Vp P L k env h K:=by
 subst hk';show vd P (L.drop k) env h K;rw[<-List.take_append_drop m (L.drop k),List.drop_drop];exact ZO he hk
theorem wO{o:C2}(hl:L[k]? =some o)(hg:M4 env o.guard=some true){av:AV}{env1:Env}(ha:F3 P o.op env h av h'){k':Nat}(hk':k+1=k')(he:M9 env o.dst av=env1)(hk:Vp P L k' env1 h' K):Vp P L k env h K:=by
 subst hk' he;obtain⟨hlt,rfl⟩:=List.getElem?_eq_some_iff.1 hl;show vd P (L.drop k) env h K;rw[b5c hlt];exact .inr (.inl ⟨hg,av,h',ha,hk⟩)
theorem a3j{o:C2}(hl:L[k]? =some o)(hg:M4 env o.guard=some true)(S:AV->Prop)(ha:∀K':AV->A3->Prop,(∀av,S av->K' av h)->E9 P o.op env h K')(hk:∀av,S av->Vp P L (k+1) (M9 env o.dst av) h K):Vp P L k env h K:=by
 obtain⟨hlt,rfl⟩:=List.getElem?_eq_some_iff.1 hl;show vd P (L.drop k) env h K;rw[b5c hlt];exact .inr (.inr ⟨hg,λav h'=>S av/\h'=h,λK' hK'=>ha K' λav hav=>hK' av h ⟨hav,rfl⟩,λav h' hav=>by obtain⟨h1,h2⟩:=hav;rw[h2];exact hk av h1⟩)
theorem a9i(hl:L.drop k=[])(hk:K env h):Vp P L k env h K:=by
 show vd P (L.drop k) env h K;rw[hl];exact hk
theorem Vk{l:b5l C2}(hK:Cz K):Cz λF h'=>vd P l F h' K:=λe env h he hv=>Jq hK he hv
theorem wA{g:FuncId}{f:B9}{args:b5l B9}{l l':b5l AV}{r:AV}(hf:f.ev env=some (.clo (.func g) [] []))(ha:evs env args=some l)(hl:l.map nz=l')(hgl:M6 h.B0)(hp:C3 l'=true)(hc:B4 P h.B0 g l' r):F3 P (.call f args) env h r h:=
 λK hk=>(Or hf ha (nc hc hgl hl hp hk)).out
theorem b1d{g:FuncId}{f:B9}{args:b5l B9}{l l' first captured:b5l AV}{r:AV}(hf:f.ev env=some (.clo (.func g) first captured))(ha:evs env args=some l)(hl:(first++l++captured).map nz=l')(hgl:M6 h.B0)(hp:C3 l'=true)(hc:B4 P h.B0 g l' r):F3 P (.call f args) env h r h:=
 λK hk=>(wd hf ha (nc hc hgl hl hp hk)).out
end
def Ju(P:Program)(c:Code)(Q:Exit->Act->World->Prop)(a:Act)(w:World):Prop:=∀b k cs,∃e a' w',Q e a' w'/\Arrives P (lone (b.at a (.code c::.inLoop c::k)) cs w) b k cs e a' w'
theorem zC{P:Program}{Q:Exit->Act->World->Prop}{a:Act}{w:World}{c:Code}(hx:c.wp P (Exit.then (Ju P c Q) Q) a w):Ju P c Q a w:=by
 intro b k cs;obtain⟨e,a₁,w₁,hq,harr⟩:=hx b (.inLoop c::k) cs;cases e with
 |normal=>
  obtain⟨e₂,a₂,w₂,hq₂,harr₂⟩:=hq b k cs;exact⟨e₂,a₂,w₂,hq₂,.of_steps (Steps.trans harr (.one step_inLoop)) harr₂⟩
 |exit id=>exact⟨_,a₁,w₁,hq,.pass (x:=.inLoop c) rfl (λ_ _=>.inl (by simp)) harr⟩
 |goto l=>exact⟨_,a₁,w₁,hq,.pass (x:=.inLoop c) rfl (λ_ _=>.inl (by simp)) harr⟩
 |ret=>exact⟨_,a₁,w₁,hq,.pass (x:=.inLoop c) rfl (λ_ _=>.inl (by simp)) harr⟩
 |panic ch=>exact⟨_,a₁,w₁,hq,.pass (x:=.inLoop c) rfl (λ_ _=>.inl (by simp)) harr⟩
 |outgrown=>exact⟨_,a₁,w₁,hq,.pass (x:=.inLoop c) rfl (λ_ _=>.inl (by simp)) harr⟩
theorem b1x{P:Program}{Q:Exit->Act->World->Prop}{a:Act}{w:World}{c:Code}(hx:Ju P c Q a w):(Code.loop c).wp P Q a w:=by
 intro b k cs;obtain⟨e,a',w',hq,harr⟩:=hx b k cs;exact⟨e,a',w',hq,.of_steps (.one step_loop) harr⟩
theorem Ju.mono{P:Program}{Q Q':Exit->Act->World->Prop}{a:Act}{w:World}{c:Code}(hq:∀e a w,Q e a w->Q' e a w)(hx:Ju P c Q a w):Ju P c Q' a w:=by
 intro b k cs;obtain⟨e,a',w',h1,harr⟩:=hx b k cs;exact⟨e,a',w',hq _ _ _ h1,harr⟩
section
variable {P:Program}{h h':A3}{env env':Env}{N:Nat}{Q:Exit->Env->A3->Prop}{x:F7}
end
section
variable {P:Program}{h:A3}{env:Env}{α:Type}
def bI(s:b5k):b5l Int:=s.data.toList.map λb=>(b.toNat:Int)
theorem u3{x:B9}{s:b5k}(hx:x.ev env=some (.v (.string s))):F3 P (.len true x) env h (.v (.int .i64 s.size)) h:=λK hk=>by
 simp only[E9,hx,wv,LI];exact hk
theorem a7g{x:B9}{l:b5l α}{e:α->b5l AV}{tok:Tok}(hx:x.ev env=some (.sl (List.map e l) tok)):F3 P (.len false x) env h (.v (.int .i64 l.length)) h:=λK hk=>by
 simp only[E9,hx,wv,LI,List.length_map];exact hk
theorem b3c{size:Nat}{x i:B9}{l:b5l α}{e' e:α->b5l AV}{tok:Tok}{k:IntKind}{n:Int}{y:α}(hx:x.ev env=some (.sl (List.map e' l) tok))(hi:i.ev env=some (.v (.int k n)))(h0:0<=n)(hy:l[n.toNat]? =some y)(he:e' y=e y)(hs:(e y).length=size):F3 P (.Bg size x i) env h (.G6 (e y) 0) h:=λK hk=>by
 simp only[E9,hx,hi,wv,MF];obtain⟨hlt,rfl⟩:=List.getElem?_eq_some_iff.1 hy
 have hg:(List.map e' l).getD n.toNat []=e l[n.toNat]:=by
  rw[List.getD_eq_getElem?_getD,b5b,hy];simpa using he
 rw[hg,List.length_map];exact⟨⟨h0,by omega⟩,hs,hk⟩
theorem tG{x i:B9}{s:b5k}{k:IntKind}{n:Int}(hx:x.ev env=some (.v (.string s)))(hi:i.ev env=some (.v (.int k n)))(h0:0<=n/\n<(s.size:Int)):F3 P (.Ck x i) env h (.v (.int .u8 (I9 s n.toNat))) h:=λK hk=>by
 simp only[E9,hx,hi,wv,NQ];exact⟨h0,hk⟩
theorem xO{x:B9}{lo hi:b5m B9}{s:b5k}{lv hv:b5m AV}{l u:Int}(hx:x.ev env=some (.v (.string s)))(h1:J2 env lo=some lv)(h2:J2 env hi=some hv)(h3:K3 0 lv=some l)(h4:K3 s.size hv=some u)(h0:0<=l/\l<=u/\u<=(s.size:Int)):F3 P (.Bz x lo hi) env h (.v (.string (s.extract l.toNat u.toNat))) h:=λK hk=>by
 simp only[E9,hx,h1,h2,wv,Mb,h3,h4];exact⟨h0,hk⟩
theorem mI{e':α->b5l AV}{l:b5l α}{hv:b5m AV}:K3 (List.map e' l).length hv=K3 l.length hv:=by rw[List.length_map]
theorem xU{size:Nat}{x:B9}{lo hi:b5m B9}{l:b5l α}{e':α->b5l AV}{tok:Tok}{lv hv:b5m AV}{a u:Int}(hx:x.ev env=some (.sl (List.map e' l) tok))(h1:J2 env lo=some lv)(h2:J2 env hi=some hv)(h3:K3 0 lv=some a)(h4:K3 l.length hv=some u)(h0:0<=a/\a<=u/\u<=(l.length:Int))(hs:∀y,(e' y).length=size):F3 P (.Ao size x lo hi none) env h (.sl (List.map e' ((l.take u.toNat).drop a.toNat)) (match lv,hv with|none,none=>tok|_,_=>.no)) h:=λK hk=>by
 have h5:J2 env none=some none:=rfl;simp only[E9,hx,h1,h2,h5,wv,Ca,h3,mI,h4,List.length_map];refine⟨h0,λel hel=>?_,?_⟩
 ·obtain⟨y,_,rfl⟩:=List.mem_map.1 hel;exact hs y
 ·rw[<-List.map_take,<-List.map_drop];cases lv<;>cases hv<;>exact hk
theorem a8y{size:Nat}{x m:B9}{lo hi:b5m B9}{l:b5l α}{e':α->b5l AV}{tok:Tok}{lv hv:b5m AV}{k:IntKind}{a u:Int}(hx:x.ev env=some (.sl (List.map e' l) tok))(h1:J2 env lo=some lv)(h2:J2 env hi=some hv)(h3:K3 0 lv=some a)(h4:K3 l.length hv=some u)(h5:m.ev env=some (.v (.int k u)))(h6:hv.isSome=true)(h0:0<=a/\a<=u/\u<=(l.length:Int))(hs:∀y,(e' y).length=size):F3 P (.Ao size x lo hi (some m)) env h (.sl (List.map e' ((l.take u.toNat).drop a.toNat)) .full) h:=λK hk=>by
 have h7:J2 env (some m)=some (some (.v (.int k u))):=by simp only[J2,h5]
 simp only[E9,hx,h1,h2,h7,wv,Ca,h3,mI,h4,List.length_map];refine⟨h0,λel hel=>?_,trivial,λhn=>(by rw[hn]at h6;cases h6),?_⟩
 ·obtain⟨y,_,rfl⟩:=List.mem_map.1 hel;exact hs y
 ·rw[<-List.map_take,<-List.map_drop];exact hk
theorem Gw{op:BinOp}{x y:B9}{a b r:Value}{c:Prop}(hx:x.ev env=some (.v a))(hy:y.ev env=some (.v b))(hp:Ad op a b=some (c,r))(hc:c):F3 P (.bin op x y) env h (.v r) h:=λK hk=>by
 simp only[E9,hx,hy,wv,MC,hp];exact⟨hc,hk⟩
theorem b00{x y:B9}{a b:b5k}(hx:x.ev env=some (.v (.string a)))(hy:y.ev env=some (.v (.string b)))(h0:((a.size+b.size:Nat):Int)<=9223372036854775807):F3 P (.bin .add x y) env h (.v (.string (a++b))) h:=Gw hx hy rfl (by omega)
theorem nF{a b:b5k}:(a.toList==b.toList)=decide (a=b):=by
 rw[ByteArray.toList_eq,ByteArray.toList_eq]
 by_cases h:a=b
 ·subst h;simp
 ·rw[decide_eq_false h,beq_eq_false_iff_ne];intro he;exact h (ByteArray.ext (Array.ext' he))
theorem ya{x y:B9}{a b:b5k}(hx:x.ev env=some (.v (.string a)))(hy:y.ev env=some (.v (.string b))):F3 P (.bin .eql x y) env h (.v (.bool (decide (a=b)))) h:=by rw[<-nF];exact Gw hx hy (c:=True) rfl trivial
theorem tv{x y:B9}{a b:b5k}(hx:x.ev env=some (.v (.string a)))(hy:y.ev env=some (.v (.string b))):F3 P (.bin .neq x y) env h (.v (.bool (!decide (a=b)))) h:=by rw[<-nF];exact Gw hx hy (c:=True) rfl trivial
theorem b05{c x y:B9}{t a b:b5n}(hc:c.ev env=some (.v (.bool t)))(hx:x.ev env=some (.v (.bool a)))(hy:y.ev env=some (.v (.bool b))):F3 P (.pick c x y) env h (.v (.bool (bif t then a else b))) h:=λK hk=>by
 simp only[E9,hc,hx,hy,wv,Ga];cases t<;>simp_all
theorem a3b{c x y:B9}{t:b5n}{k:IntKind}{a b:Int}(hc:c.ev env=some (.v (.bool t)))(hx:x.ev env=some (.v (.int k a)))(hy:y.ev env=some (.v (.int k b))):F3 P (.pick c x y) env h (.v (.int k (bif t then a else b))) h:=λK hk=>by
 simp only[E9,hc,hx,hy,wv,Ga];cases t<;>simp_all
theorem p8{c x y:B9}{t:b5n}{a b:b5k}(hc:c.ev env=some (.v (.bool t)))(hx:x.ev env=some (.v (.string a)))(hy:y.ev env=some (.v (.string b))):F3 P (.pick c x y) env h (.v (.string (bif t then a else b))) h:=λK hk=>by
 simp only[E9,hc,hx,hy,wv,Ga];cases t<;>simp_all
theorem xx{x y:B9}{k k':IntKind}{a b:Int}(hx:x.ev env=some (.v (.int k a)))(hy:y.ev env=some (.v (.int k' b))):F3 P (.AN false [x,y]) env h (.v (.int k (min a b))) h:=λK hk=>
 (a8p hx hy (by rw[show(if b<a then b else a)=min a b by omega];exact hk)).out
theorem q9{x y:B9}{k k':IntKind}{a b:Int}(hx:x.ev env=some (.v (.int k a)))(hy:y.ev env=some (.v (.int k' b))):F3 P (.AN true [x,y]) env h (.v (.int k (max a b))) h:=λK hk=>
 (uV hx hy (by rw[show(if a<b then b else a)=max a b by omega];exact hk)).out
theorem v7{e0:TypeId}{size byt id:Nat}{x y:B9}{Y:AV}{e':α->b5l AV}{l m:b5l α}(hx:x.ev env=some (.sl (List.map e' l) (.own id)))(hy:y.ev env=some Y)(hm:S0 h size Y=some (List.map e' m))(hb:h.A9[id]? =some (l.length,size))(hs:∀y,(e' y).length=size)(h0:(l.length+m.length)*byt<=140737488355328):F3 P (.append e0 size byt x y) env h (.sl (List.map e' (l++m)) (.own id)) ⟨h.A5,h.A9.set id ((l++m).length,size),h.B0⟩:=λK hk=>by
 simp only[E9,hx,hy,wv];refine .inl ?_;simp only[EV,hm,List.length_map];refine⟨λel hel=>by obtain⟨y,_,rfl⟩:=List.mem_map.1 hel;exact hs y,λel hel=>by obtain⟨y,_,rfl⟩:=List.mem_map.1 hel;exact hs y,hb,h0,?_⟩;rw[<-List.map_append,<-b5i];exact hk
theorem rJ{e0:TypeId}{size byt:Nat}{x y:B9}{X Y:AV}{e':α->b5l AV}{l m:b5l α}{els:b5l (b5l AV)}(hx:x.ev env=some (.sl els .full))(hy:y.ev env=some Y)(hX:els=List.map e' l)(hm:S0 h size Y=some (List.map e' m))(hs:∀y,(e' y).length=size)(h0:(l.length+m.length)*byt<=140737488355328)(hm0:m≠[]):F3 P (.append e0 size byt x y) env h (.sl (List.map e' (l++m)) (.own h.A9.length)) ⟨h.A5,h.A9++[((l++m).length,size)],h.B0⟩:=λK hk=>by
 subst hX;simp only[E9,hx,hy,wv];refine .inl ?_;simp only[EV,hm,List.length_map];refine⟨λel hel=>by obtain⟨y,_,rfl⟩:=List.mem_map.1 hel;exact hs y,λel hel=>by obtain⟨y,_,rfl⟩:=List.mem_map.1 hel;exact hs y,h0,λh=>absurd (List.map_eq_nil_iff.1 h) hm0,λ_=>?_⟩;rw[<-List.map_append,<-b5i];exact hk
theorem uQ{x:B9}{s:b5k}(hx:x.ev env=some (.v (.string s))):F3 P (.bytes x) env h (.sl (List.map (λn=>[AV.v (.int .u8 n)]) (bI s)) .no) h:=λK hk=>by
 simp only[E9,hx,wv,au];have e:S5 s.data.toList=List.map (λn=>[AV.v (.int .u8 n)]) (bI s):=by simp only[S5,bI,List.map_map];rfl
 rw[e];exact hk
theorem wY{x:B9}{l:b5l Int}{t:b5k}{tok:Tok}(hx:x.ev env=some (.sl (List.map (λn=>[AV.v (.int .u8 n)]) l) tok))(hl:l=bI t):F3 P (.conv .str x) env h (.v (.string t)) h:=λK hk=>by
 subst hl;simp only[E9,hx,wv,Nw];refine⟨t.data.toList,by simp only[S5,bI,List.map_map];rfl,?_⟩
 have:(⟨t.data.toList.toArray⟩:b5k)=t:=by
  apply ByteArray.ext;apply Array.ext';simp
 rw[this];exact hk
end
def vs(P:Program)(I:A3->Prop):b5n->b5l C2->Env->A3->(Env->A3->Prop)->Prop
 |_,[],env,h,K=>K env h
 |b,o::r,env,h,K=>
  (M4 env o.guard=some false/\vs P I b r (Ae env o.dst) h K)\/
  (M4 env o.guard=some true/\AH o.op/\∃av,(∀h2,I h2->Ai P o.op env h2 av)/\vs P I b r (M9 env o.dst av) h K)\/
  (M4 env o.guard=some true/\AH o.op=false/\Bc o=false/\∃av h',F3 P o.op env h av h'/\I h'/\vs P I false r (M9 env o.dst av) h' K)\/
  (b=true/\∃cells,o.op=.alloc cells/\o.guard=none/\vs P I b r (M9 env o.dst (.ptr h.A5.length 0)) ⟨h.A5++[some cells],h.A9,h.B0⟩ K)
def Lq(P:Program)(I:A3->Prop)(F:Env)(hs:b5l A3)(j:Nat)(o:C2):b5m Nat->Prop
 |some n=>∃av h1 h2,hs[n - j]? =some h1/\hs[n - j+1]? =some h2/\E9 P o.op F h1 (λa b=>a=av/\b=h2)/\∀d,o.dst=some d->get F d=some av
 |none=>∃av,(∀h2,I h2->Ai P o.op F h2 av)/\∀d,o.dst=some d->get F d=some av
def GF(F:Env)(D S:Prop):b5m (Nat × b5n)->Prop
 |none=>D
 |some (t,want)=>(∃b,get F t=some (.v (.bool b))/\(b=want->D)/\(b≠want->S))\/(get F t=some (.tuple [])/\S)
def Mi(P:Program)(I:A3->Prop)(F:Env)(hs:b5l A3)(j:Nat)(o:C2)(n:b5m Nat):Prop:=
 GF F (Lq P I F hs j o n) (n=none/\∀d,o.dst=some d->get F d=some (.tuple [])) o.guard
structure cj(P:Program)(I:A3->Prop)(l:List C2)(env F:Env)(cur h':A3)(i0:Nat)(az:List (Nat × List AV))(hs:List A3)(fl:List (Option Nat))(j:Nat):Prop where
 len:fl.length=l.length
 first:hs[0]? =some ⟨cur.A5++az.map (λp=>some p.2),cur.A9,cur.B0⟩
 last:∃n,hs.length=n+1/\hs[n]? =some h'
 bound:∀i n:Nat,fl[i]? =some (some n)->j<=n/\n+1<j+hs.length
 mono:∀i k a b:Nat,i<k->fl[i]? =some (some a)->fl[k]? =some (some b)->a<b
 onto:∀n:Nat,j<=n->n+1<j+hs.length->∃i:Nat,fl[i]? =some (some n)
 keep:∀t,I2 t l=false->get F t=get env t
 pos:∀(q:Nat) (p:Nat × List AV),az[q]? =some p->∃i o,p.1=i0+i/\l[i]? =some o/\o.op=.alloc p.2/\o.guard=none/\fl[i]? =some none/\∀d,o.dst=some d->get F d=some (.ptr (cur.A5.length+q) 0)
 NN:∀(q r:Nat) (p s:Nat × List AV),q<r->az[q]? =some p->az[r]? =some s->p.1<s.1
 inv:∀(m:Nat) hm,0<m->hs[m]? =some hm->I hm
 DW:∀(i n:Nat) (o:C2),fl[i]? =some (some n)->l[i]? =some o->AH o.op=false/\Bc o=false
 fact:∀(i:Nat) (o:C2) (n:Option Nat),l[i]? =some o->fl[i]? =some n->(∃(q:Nat) (p:Nat × List AV),az[q]? =some p/\p.1=i0+i)\/Mi P I F hs j o n
theorem pw{F env:Env}{g:b5m (Nat × b5n)}{D S:Prop}(hg:M4 env g=some true)(hl:∀t w,g=some (t,w)->get F t=get env t)(hD:D):GF F D S g:=by
 cases g with
 |none=>exact hD
 |some p=>
  obtain⟨t,want⟩:=p;simp only[M4,b44]at hg;obtain⟨v,h1,h2⟩:=hg;split at h2
  ·rename_i b;simp only[b5j,beq_iff_eq]at h2;exact .inl ⟨b,by rw[hl t want rfl];exact h1,λ_=>hD,λhn=>absurd h2 hn⟩
  ·cases h2
  ·cases h2
theorem rR{F env:Env}{g:b5m (Nat × b5n)}{D S:Prop}(hg:M4 env g=some false)(hl:∀t w,g=some (t,w)->get F t=get env t)(hS:S):GF F D S g:=by
 cases g with
 |none=>simp[M4]at hg
 |some p=>
  obtain⟨t,want⟩:=p;simp only[M4,b44]at hg;obtain⟨v,h1,h2⟩:=hg;split at h2
  ·rename_i b;simp only[b5j,beq_eq_false_iff_ne]at h2;exact .inl ⟨b,by rw[hl t want rfl];exact h1,λh=>absurd h h2,λ_=>hS⟩
  ·exact .inr ⟨by rw[hl t want rfl];exact h1,hS⟩
  ·cases h2
theorem IZ{P:Program}{I:A3->Prop}:∀{l:b5l C2}{b:b5n}{env:Env}{cur:A3}{i0 j:Nat}{K:Env->A3->Prop},AK l->vs P I b l env cur K->∃F az hs fl h',cj P I l env F cur h' i0 az hs fl j/\K F h'/\(b=false->az=[])
 |[],b,env,cur,i0,j,K,_,hk=>⟨env,[],[cur],[],cur,⟨rfl,by simp,⟨0,rfl,rfl⟩,λi n hi=>by simp at hi,λi k a b _ hi=>by simp at hi,λn h1 h2=>by simp at h2;omega,λ_ _=>rfl,λq p hq=>by simp at hq,λq r p s _ hq=>by simp at hq,λm hm h0 h1=>by cases m<;>simp at h0 h1,λi n o hi=>by simp at hi,λi o n hi=>by simp at hi⟩,hk,λ_=>rfl⟩
 |o::r,b,env,cur,i0,j,K,hok,hv=>by
  have hok0:=hok;simp only[AK,b47,b5e]at hok;obtain⟨⟨hlook,hdst⟩,hokr⟩:=hok
  have hwr:∀t,I2 t (o::r)=false->o.dst≠some t/\I2 t r=false:=by
   intro t ht;simp only[I2,List.any_cons,Bool.or_eq_false_iff]at ht ⊢;exact⟨by simpa using ht.1,ht.2⟩
  have hd:∀d,o.dst=some d->I2 d r=false:=by
   intro d hd;rw[hd]at hdst;simpa using hdst
  have hl:∀(F:Env),(∀t,I2 t (o::r)=false->get F t=get env t)->∀t∈o.looks,get F t=get env t:=λF hF t ht=>hF t (by simpa using hlook t ht)
  have hcong:∀(F:Env),(∀t,I2 t (o::r)=false->get F t=get env t)->∀(h:A3) (K:AV->A3->Prop),E9 P o.op env h K->E9 P o.op F h K:=by
   intro F hF h K hq;rw[<-PF (e1:=env) (e2:=F)]
   ·exact hq
   ·intro x hx;cases x with
    |c a=>rfl
    |t n=>
     refine(hl F hF n ?_).symm;simp only[C2.looks,List.mem_append,List.mem_filterMap];exact .inl ⟨.t n,hx,rfl⟩
  have hgl:∀(F:Env),(∀t,I2 t (o::r)=false->get F t=get env t)->∀t w,o.guard=some (t,w)->get F t=get env t:=λF hF t w hg=>hl F hF t (by simp[C2.looks,hg])
  have still:∀(env' F:Env) (az:b5l (Nat × b5l AV)) (hs:b5l A3) (fl:b5l (b5m Nat)) (h':A3),cj P I r env' F cur h' (i0+1) az hs fl j->(∀t,o.dst≠some t->get env' t=get env t)->((∀t,I2 t (o::r)=false->get F t=get env t)->Mi P I F hs j o none)->cj P I (o::r) env F cur h' i0 az hs (none::fl) j:=by
   intro env' F az hs fl h' hp henv hf
   have hF:∀t,I2 t (o::r)=false->get F t=get env t:=λt ht=>by
    obtain⟨h1,h2⟩:=hwr t ht;rw[hp.keep t h2,henv t h1]
   refine⟨by simp[hp.len],hp.first,hp.last,λi n hi=>?_,λi k a b hik hi hk=>?_,λn h1 h2=>?_,hF,λq p hqp=>?_,hp.NN,hp.inv,λi n o' hi ho=>?_,λi o' n hi hn=>?_⟩
   ·cases i with
    |zero=>simp at hi
    |succ i=>exact hp.bound i n (by simpa using hi)
   ·cases i with
    |zero=>simp at hi
    |succ i=>cases k with
     |zero=>omega
     |succ k=>exact hp.mono i k a b (by omega) (by simpa using hi) (by simpa using hk)
   ·obtain⟨i,hi⟩:=hp.onto n h1 h2;exact⟨i+1,by simpa using hi⟩
   ·obtain⟨i,o',e1,e2,e3⟩:=hp.pos q p hqp;exact⟨i+1,o',by omega,by simpa using e2,by simpa using e3⟩
   ·cases i with
    |zero=>simp at hi
    |succ i=>exact hp.DW i n o' (by simpa using hi) (by simpa using ho)
   ·cases i with
    |zero=>simp at hi hn;subst hi hn;exact .inr (hf hF)
    |succ i=>
     rcases hp.fact i o' n (by simpa using hi) (by simpa using hn) with⟨q,p,e1,e2⟩|h
     ·exact .inl ⟨q,p,e1,by omega⟩
     ·exact .inr h
  have hputF:∀(av:AV) (F:Env),(∀t,I2 t r=false->get F t=get (M9 env o.dst av) t)->∀d,o.dst=some d->get F d=some av:=λav F hF d hd'=>by rw[hF d (hd d hd'),BX,if_pos hd']
  rcases hv with⟨hg,hv⟩|⟨hg,hq,av,ha,hv⟩|⟨hg,hq,hnew,av,h1,ha,hI,hv⟩|⟨hb,cells,hop,hgd,hv⟩
  ·obtain⟨F,az,hs,fl,h',hp,hk,has⟩:=IZ (i0:=i0+1) (j:=j) hokr hv;refine⟨F,az,hs,none::fl,h',still _ F az hs fl h' hp (λt ht=>by rw[CX,if_neg ht]) λhF=>?_,hk,has⟩;exact rR hg (hgl F hF) ⟨rfl,λd hd'=>by rw[hp.keep d (hd d hd'),CX,if_pos hd']⟩
  ·obtain⟨F,az,hs,fl,h',hp,hk,has⟩:=IZ (i0:=i0+1) (j:=j) hokr hv;refine⟨F,az,hs,none::fl,h',still _ F az hs fl h' hp (λt ht=>by rw[BX,if_neg ht]) λhF=>?_,hk,has⟩;exact pw hg (hgl F hF) ⟨av,λh2 hi=>hcong F hF h2 _ (ha h2 hi),hputF av F hp.keep⟩
  ·obtain⟨F,az,hs,fl,h',hp,hk,has⟩:=IZ (i0:=i0+1) (j:=j+1) hokr hv;have has0:=has rfl;subst has0
   have hF:∀t,I2 t (o::r)=false->get F t=get env t:=λt ht=>by
    obtain⟨g1,g2⟩:=hwr t ht;rw[hp.keep t g2,BX,if_neg g1]
   have hfirst:hs[0]? =some h1:=by rw[hp.first];simp
   obtain⟨nl,hnl,hlast⟩:=hp.last;refine⟨F,[],cur::hs,some j::fl,h',⟨by simp[hp.len],by simp,⟨nl+1,by simp[hnl],by simpa using hlast⟩,λi n hi=>?_,λi k a b hik hi hk=>?_,λn h1 h2=>?_,hF,λq p hqp=>by simp at hqp,λq r p s _ hqp=>by simp at hqp,λm hm h0 hmm=>?_,λi n o' hi ho=>?_,λi o' n hi hn=>?_⟩,hk,λ_=>rfl⟩
   ·cases i with
    |zero=>simp at hi;subst hi;exact⟨Nat.le_refl _,by simp;omega⟩
    |succ i=>have:=hp.bound i n (by simpa using hi);simp;omega
   ·cases i with
    |zero=>
     simp at hi;cases k with
     |zero=>omega
     |succ k=>have:=(hp.bound k b (by simpa using hk)).1;omega
    |succ i=>cases k with
     |zero=>omega
     |succ k=>exact hp.mono i k a b (by omega) (by simpa using hi) (by simpa using hk)
   ·by_cases hnj:n=j
    ·subst hnj;exact⟨0,rfl⟩
    ·obtain⟨i,hi⟩:=hp.onto n (by omega) (by simp at h2;omega);exact⟨i+1,by simpa using hi⟩
   ·cases m with
    |zero=>omega
    |succ m=>
     cases m with
     |zero=>simp only[Nat.zero_add,List.getElem?_cons_succ]at hmm;rw[hfirst]at hmm;cases hmm;exact hI
     |succ m=>exact hp.inv (m+1) hm (by omega) (by simpa using hmm)
   ·cases i with
    |zero=>simp at hi ho;subst ho;exact⟨hq,hnew⟩
    |succ i=>exact hp.DW i n o' (by simpa using hi) (by simpa using ho)
   ·cases i with
    |zero=>
     simp at hi hn;subst hi hn;refine .inr (pw hg (hgl F hF) ⟨av,cur,h1,by simp,by simpa using hfirst,hcong F hF _ _ (ha _ ⟨rfl,rfl⟩),hputF av F hp.keep⟩)
    |succ i=>
     rcases hp.fact i o' n (by simpa using hi) (by simpa using hn) with⟨q,p,e1,e2⟩|h
     ·simp at e1
     ·refine .inr ?_
      have up:Lq P I F hs (j+1) o' n->Lq P I F (cur::hs) j o' n:=by
       intro hdo;cases n with
       |none=>exact hdo
       |some n=>
        have hb:=(hp.bound i n (by simpa using hn)).1;obtain⟨av',g1,g2,e1,e2,e3⟩:=hdo;have q1:n - j=(n - (j+1))+1:=by omega
        exact⟨av',g1,g2,by rw[q1];simpa using e1,by rw[q1];simpa using e2,e3⟩
      unfold Mi at h ⊢;cases hgd:o'.guard with
      |none=>rw[hgd]at h;exact up h
      |some g=>
       rw[hgd]at h;rcases h with⟨b',q1,q2,q3⟩|h
       ·exact .inl ⟨b',q1,λhb'=>up (q2 hb'),q3⟩
       ·exact .inr h
  ·obtain⟨F,az,hs,fl,h',hp,hk,has⟩:=IZ (i0:=i0+1) (j:=j) hokr hv
   have hF:∀t,I2 t (o::r)=false->get F t=get env t:=λt ht=>by
    obtain⟨g1,g2⟩:=hwr t ht;rw[hp.keep t g2,BX,if_neg g1]
   refine⟨F,(i0,cells)::az,hs,none::fl,h',⟨by simp[hp.len],by rw[hp.first];simp,hp.last,λi n hi=>?_,λi k a b hik hi hk=>?_,λn h1 h2=>?_,hF,λq p hqp=>?_,λq s p t hqs hqp hst=>?_,hp.inv,λi n o' hi ho=>?_,λi o' n hi hn=>?_⟩,hk,λh=>by rw[hb]at h;cases h⟩
   ·cases i with
    |zero=>simp at hi
    |succ i=>exact hp.bound i n (by simpa using hi)
   ·cases i with
    |zero=>simp at hi
    |succ i=>cases k with
     |zero=>omega
     |succ k=>exact hp.mono i k a b (by omega) (by simpa using hi) (by simpa using hk)
   ·obtain⟨i,hi⟩:=hp.onto n h1 h2;exact⟨i+1,by simpa using hi⟩
   ·cases q with
    |zero=>
     simp at hqp;subst hqp;refine⟨0,o,rfl,rfl,hop,hgd,rfl,λd hd'=>?_⟩;rw[hputF _ F hp.keep d hd'];simp
    |succ q=>
     obtain⟨i,o',e1,e2,e3,e4,e5,e6⟩:=hp.pos q p (by simpa using hqp);refine⟨i+1,o',by omega,by simpa using e2,e3,e4,by simpa using e5,λd hd'=>?_⟩;rw[e6 d hd'];simp;omega
   ·cases s with
    |zero=>omega
    |succ s=>
     obtain⟨i,o',e1,_⟩:=hp.pos s t (by simpa using hst);cases q with
     |zero=>simp at hqp;subst hqp;simp;omega
     |succ q=>exact hp.NN q s p t (by omega) (by simpa using hqp) (by simpa using hst)
   ·cases i with
    |zero=>simp at hi
    |succ i=>exact hp.DW i n o' (by simpa using hi) (by simpa using ho)
   ·cases i with
    |zero=>simp at hi;subst hi;exact .inl ⟨0,_,rfl,by simp⟩
    |succ i=>
     rcases hp.fact i o' n (by simpa using hi) (by simpa using hn) with⟨q,p,e1,e2⟩|h
     ·exact .inl ⟨q+1,p,by simpa using e1,by omega⟩
     ·exact .inr h
def Hr(ord:b5l (b5l Nat))(al:b5l C2):b5n:=
 (List.range al.length).all λk=>match al[k]? with
  |some o=> !Fd o||(List.range al.length).all λi=>match al[i]? with
   |some p=>(!(Fd p&&decide (i<k))||(ord.getD k []).contains i)&&(!Bc p||(ord.getD k []).contains i)
   |none=>true
  |none=>true
theorem lH{ord:b5l (b5l Nat)}{al:b5l C2}(h:Hr ord al){k i:Nat}{o p:C2}(hk:al[k]? =some o)(hi:al[i]? =some p)(hc:Fd o):
  (Fd p=true->i<k->i∈ord.getD k [])/\(Bc p=true->i∈ord.getD k []):=by
 simp only[Hr,b5e,List.mem_range]at h;have h1:=h k (List.getElem?_eq_some_iff.1 hk).1;rw[hk]at h1;simp only[hc,Bool.not_true,Bool.false_or,b5e,List.mem_range]at h1;have h2:=h1 i (List.getElem?_eq_some_iff.1 hi).1;rw[hi]at h2;simp only[b47,Bool.or_eq_true,b5f,Bool.and_eq_false_iff,b46,List.contains_iff_mem]at h2;refine⟨λa b=>?_,λa=>?_⟩
 ·rcases h2.1 with(h3|h3)|h3
  ·rw[a]at h3;cases h3
  ·exact absurd b h3
  ·exact h3
 ·rcases h2.2 with h3|h3
  ·rw[a]at h3;cases h3
  ·exact h3
theorem yz{P:Program}{I:A3->Prop}{ord:b5l (b5l Nat)}{al:b5l C2}{env:Env}{h:A3}{K:Env->A3->Prop}(hok:AK al)(hst:Hr ord al)(hI:∀h2:A3,(∃ext,h2.A5=h.A5++ext)->h2.A9=h.A9->h2.B0=h.B0->I h2)(hv:vs P I true al env h K):
  ∃F h' az hs fl,Md P ord al env F h h' az hs fl/\K F h':=by
 obtain⟨F,az,hs,fl,h',ps,hk,_⟩:=IZ (i0:=0) (j:=0) hok hv;refine⟨F,h',az,hs,fl,?_,hk⟩;obtain⟨nl,hnl,hlast⟩:=ps.last
 have hget:∀k n:Nat,fl[k]? =some (some n)->∃o,al[k]? =some o/\Fd o:=by
  intro k n hkn;have hkl:k<al.length:=by rw[<-ps.len];exact(List.getElem?_eq_some_iff.1 hkn).1
  have ho:al[k]? =some al[k]:=b48 hkl;obtain⟨h1,h2⟩:=ps.DW k n _ hkn ho;exact⟨_,ho,by unfold Fd;rw[h1,h2];rfl⟩
 have hpos:∀(q:Nat) (p:Nat × b5l AV),az[q]? =some p->∃o,al[p.1]? =some o/\Bc o/\o.op=.alloc p.2/\o.guard=none/\fl[p.1]? =some none/\∀d,o.dst=some d->get F d=some (.ptr (h.A5.length+q) 0):=by
  intro q p hqp;obtain⟨i,o,e1,e2,e3,e4,e5,e6⟩:=ps.pos q p hqp;have:p.1=i:=by omega
  rw[this];exact⟨o,e2,by unfold Bc;rw[e3,e4],e3,e4,e5,e6⟩
 refine⟨ps.len,λi k a b hik hi hk=>⟨ps.mono i k a b hik hi hk,?_⟩,λj hj=>ps.onto j (by omega) (by omega),?_,ps.last,λi n hi=>by have:=ps.bound i n hi;omega,ps.keep,λq p hqp=>?_,λq r p s hqp hrs hps=>?_,λk n hk p hp=>?_,λi o n hi hn=>?_⟩
 ·obtain⟨o1,h1,h2⟩:=hget i a hi;obtain⟨o2,h3,h4⟩:=hget k b hk;exact(lH hst h3 h1 h4).1 h2 hik
 ·rw[ps.first];simp[hA]
 ·obtain⟨o,e1,_,e2⟩:=hpos q p hqp;exact⟨o,e1,e2⟩
 ·rcases Nat.lt_trichotomy q r with hlt|heq|hgt
  ·have:=ps.NN q r p s hlt hqp hrs;omega
  ·exact heq
  ·have:=ps.NN r q s p hgt hrs hqp;omega
 ·obtain⟨o2,h3,h4⟩:=hget k n hk;obtain⟨q,hq⟩:=List.mem_iff_getElem?.1 hp;obtain⟨o,e1,e2,_⟩:=hpos q p hq;exact(lH hst h3 e1 h4).2 e2
 ·rcases ps.fact i o n hi hn with⟨q,p,e1,e2⟩|hf
  ·exact .inl ⟨q,p,e1,by omega⟩
  right
  have conv:Lq P I F hs 0 o n->Mm P F h az hs ord fl i o n:=by
   intro hd;cases n with
   |some n=>obtain⟨av,h1,h2,e1,e2,e3⟩:=hd;exact⟨av,h1,h2,by simpa using e1,by simpa using e2,e3⟩
   |none=>
    obtain⟨av,hqa,hfd⟩:=hd;refine⟨av,0,hs.length - 1,by omega,λj lst hj _ _ h3=>hqa hj ?_,λk n _ h=>by omega,.inl (by omega),hfd⟩;cases j with
    |zero=>
     have:hA h az lst=hj:=Option.some.inj h3;subst this;exact hI _ ⟨_,rfl⟩ rfl rfl
    |succ j=>exact ps.inv (j+1) hj (by omega) h3
  unfold Gk;unfold Mi at hf;cases hgd:o.guard with
  |none=>rw[hgd]at hf;simp only[hgd];exact conv hf
  |some g=>
   obtain⟨t,want⟩:=g;rw[hgd]at hf;simp only[hgd];rcases hf with⟨b,h1,h2,h3⟩|hf
   ·exact .inl ⟨b,h1,λhb=>conv (h2 hb),h3⟩
   ·exact .inr hf
def DT(S gl:b5l (Nat × b5l AV))(h:A3):Prop:=(∀b c,(b,c)∈S->h.A5[b]? =some (some c))/\h.B0=gl
def DQ(S:b5l (Nat × b5l AV))(h:A3):b5l (b5m (b5m (b5l AV))):=S.map λp=>h.A5[p.1]?
theorem TX{S gl:b5l (Nat × b5l AV)}{h:A3}(h1:DQ S h=S.map λp=>some (some p.2))(h2:h.B0=gl):DT S gl h:=by
 refine⟨λb c hbc=>?_,h2⟩;obtain⟨i,hi⟩:=List.mem_iff_getElem?.1 hbc;have:=congrArg (λl=>l[i]?) h1;simpa[DQ,b5b,hi]using this
def Sp(P:Program)(S gl:b5l (Nat × b5l AV))(b:b5n)(L:b5l C2)(k:Nat)(env:Env)(h:A3)(K:Env->A3->Prop):Prop:=vs P (DT S gl) b (L.drop k) env h K
def BT:Nat->b5l (Nat × b5l AV)->b5l (b5m (b5l AV))
 |0,_=>[]
 |n+1,S=>BT n S++[(S.find? λp=>p.1==n).map (·.2)]
theorem UI:∀(n:Nat) (S:b5l (Nat × b5l AV)),(BT n S).length=n
 |0,_=>rfl
 |n+1,S=>by simp[BT,UI n S]
theorem eF:∀(n:Nat) (S:b5l (Nat × b5l AV)) (k:Nat) (c:b5l AV),(BT n S)[k]? =some (some c)->(k,c)∈S
 |0,_,k,c,h=>by simp[BT]at h
 |n+1,S,k,c,h=>by
  by_cases hk:k<n
  ·refine eF n S k c ?_;rw[BT,b49 (by rw[UI];exact hk)]at h;exact h
  ·rw[BT,b5a (by rw[UI];omega),UI]at h
   by_cases he:k=n
   ·subst he;simp only[Nat.sub_self,List.getElem?_cons_zero,b5j,b43]at h;obtain⟨p,h1,rfl⟩:=h;have h2:=List.find?_some h1;have h3:=List.mem_of_find?_eq_some h1;have:p.1=k:=by simpa using h2
    subst this;exact h3
   ·rw[List.getElem?_eq_none (by simp;omega)]at h;cases h
theorem b06{S gl:b5l (Nat × b5l AV)}{n:Nat}{h:A3}(hi:DT S gl h){m:b5m Nat}{p a:AV}(hl:HU ⟨BT n S,[],gl⟩ m p=some a):HU h m p=some a:=by
 have hp:∀q,S4 ⟨BT n S,[],gl⟩ p=some q->S4 h p=some q:=by
  intro q hq;cases p with
  |ptr k off=>
   simp only[S4]at hq ⊢;split at hq
   ·rename_i cells hc;rw[hi.1 k cells (eF n S k cells hc)];exact hq
   ·cases hq
  |F5 k=>simp only[S4]at hq ⊢;rw[hi.2];exact hq
  |G6 c o=>exact hq
  |_=>simp[S4]at hq
 unfold HU at hl ⊢;cases hq:S4 ⟨BT n S,[],gl⟩ p with
 |none=>rw[hq]at hl;cases hl
 |some q=>rw[hq]at hl;rw[hp q hq];exact hl
theorem m9{P:Program}{n:Nat}{S gl:b5l (Nat × b5l AV)}{o:I7}{env:Env}{a:AV}{h1:A3}(hq:AH o)(he:Z6 false Kw o env ⟨BT n S,[],gl⟩=some (a,h1)):∀h2,DT S gl h2->Ai P o env h2 a:=by
 intro h2 hi;have hsame:h1=⟨BT n S,[],gl⟩:=RR (λf args h a h' he=>by cases he) hq he;subst hsame
 by_cases hp:Dy o=true
 ·exact Wc hp (FF (K:=λx y=>x=a/\y=_) YT he ⟨rfl,rfl⟩)
 ·cases o<;>first|(exact absurd rfl hp)|(cases hq;done)|skip
  case load m x=>
   simp only[Z6,b44]at he;obtain⟨p,h1,h3⟩:=he;obtain⟨h4,_⟩:=J1 h3;show wv (x.ev env) _;rw[h1];exact Xl (K:=λx=>x=a/\h2=h2) (b06 hi h4) ⟨rfl,rfl⟩
  case call f args=>
   simp only[Z6,b44]at he;obtain⟨fv,h1,l,h3,h4⟩:=he;split at h4
   ·cases h4
   ·obtain⟨t,x,r,g,_,_,h5⟩:=Wj h4;cases h5
   ·cases h4
  case Er l s x i=>
   simp only[Z6,b44]at he;obtain⟨x',h1,i',h3,h4⟩:=he;obtain⟨h5,_⟩:=J1 h4;show wv (x.ev env) _;rw[h1];show wv (i.ev env) _;rw[h3];exact iH (K:=λx=>x=a/\h2=h2) (by rw[sP (h:=⟨BT n S,[],gl⟩) hi.2];exact h5) ⟨rfl,rfl⟩
  case lookup im ok z x k=>
   simp only[Z6,b44]at he;obtain⟨x',h1,i',h3,h4⟩:=he;obtain⟨h5,_⟩:=J1 h4;show wv (x.ev env) _;rw[h1];show wv (k.ev env) _;rw[h3];exact fq (K:=λx=>x=a/\h2=h2) (vi (λk c hc=>hi.1 k c (eF n S k c hc)) h5) ⟨rfl,rfl⟩
section
variable {P:Program}{h h':A3}{env:Env}{N:Nat}{Q:Exit->Env->A3->Prop}{K:Env->A3->Prop}{L:b5l C2}{k:Nat}{S gl:b5l (Nat × b5l AV)}{b:b5n}
theorem NW{I:A3->Prop}{K:Env->A3->Prop}(hK:Cz K):∀{l:b5l C2}{b:b5n}{e env:Env}{h:A3},P9 e env->vs P I b l e h K->vs P I b l env h K
 |[],b,e,env,h,he,hv=>hK e env h he hv
 |o::r,b,e,env,h,he,hv=>by
  rcases hv with⟨hg,hv⟩|⟨hg,hq,av,ha,hv⟩|⟨hg,hq,hn,av,h',ha,hi,hv⟩|⟨hb,cells,ho,hg,hv⟩
  ·exact .inl ⟨he.guard hg,NW hK (he.drop _) hv⟩
  ·exact .inr (.inl ⟨he.guard hg,hq,av,λh2 hi=>Zx he (ha h2 hi),NW hK (he.put _ _) hv⟩)
  ·exact .inr (.inr (.inl ⟨he.guard hg,hq,hn,av,h',ha.less he,hi,NW hK (he.put _ _) hv⟩))
  ·exact .inr (.inr (.inr ⟨hb,cells,ho,hg,NW hK (he.put _ _) hv⟩))
theorem wG(S:b5l (Nat × b5l AV)){ord:b5l (b5l Nat)}{al tl:b5l C2}(hok:AK al)(hst:Hr (clo ord) al)(hS:DQ S h=S.map λp=>some (some p.2))(hv:Sp P S h.B0 true al 0 env h λF h'=>vd P tl F h' λenv' h'=>Q .normal env' h'):C P N (.drawn ord al tl) Q env h:=by
 have hv':vs P (DT S h.B0) true al env h λF h'=>vd P tl F h' λenv' h'=>Q .normal env' h':=hv
 obtain⟨F,h',az,hs,fl,hn,hk⟩:=yz hok hst (λh2 ⟨ext,he⟩ _ hgl=>⟨λb c hbc=>by
  have:=(TX hS rfl:DT S h.B0 h).1 b c hbc;rw[he,b49 (List.getElem?_eq_some_iff.1 this).1];exact this,hgl⟩) hv'
 exact⟨ZR hn (It hk)⟩
end
mutual
def low(m:List Bool)(n:Nat):AV->Bool
 |.v _=>true
 |.ptr k _=>m.getD k false
 |.G6 cells _=>E0 m n cells
 |.nil=>true
 |.sl els tok=>(match tok with|.own id=>decide (id<n)|_=>true)&&K7 m n els
 |.agg cells=>E0 m n cells
 |.tuple vs=>E0 m n vs
 |.iface _ x=>low m n x
 |.clo _ first captured=>E0 m n first&&E0 m n captured
 |.F5 _=>true
 |.row k _ _ _ _=>m.getD k false
 |.it _ _=>true
 |.mp k=>m.getD k false
 |.bb k els _=>(match k with|.nil=>true|.own id|.data id|.raw id _=>decide (id<n))&&K7 m n els
 |.ps k _=>m.getD k false
def E0(m:List Bool)(n:Nat):List AV->Bool
 |[]=>true
 |a::r=>low m n a&&E0 m n r
def K7(m:List Bool)(n:Nat):List (List AV)->Bool
 |[]=>true
 |a::r=>E0 m n a&&K7 m n r
end
mutual
theorem ol(m:List Bool)(n:Nat):∀a,plain a->low m n a=true
 |.v _,_=>rfl
 |.ptr _ _,h=>by cases h
 |.G6 cells _,h=>by simp only[plain,low]at h ⊢;exact H5 m n cells h
 |.nil,_=>rfl
 |.sl els tok,h=>by
  simp only[plain,low,b47]at h ⊢;refine⟨?_,P8 m n els h.2⟩;cases tok<;>first|rfl|(simp at h)
 |.agg cells,h=>by simp only[plain,low]at h ⊢;exact H5 m n cells h
 |.tuple cells,h=>by simp only[plain,low]at h ⊢;exact H5 m n cells h
 |.iface _ x,h=>by simp only[plain,low]at h ⊢;exact ol m n x h
 |.clo _ a b,h=>by simp only[plain,low,b47]at h ⊢;exact⟨H5 m n a h.1,H5 m n b h.2⟩
 |.F5 _,_=>rfl
 |.row _ _ _ _ _,h=>by cases h
 |.it _ _,h=>by cases h
theorem H5(m:List Bool)(n:Nat):∀l,C3 l->E0 m n l=true
 |[],_=>rfl
 |a::r,h=>by simp only[C3,E0,b47]at h ⊢;exact⟨ol m n a h.1,H5 m n r h.2⟩
theorem P8(m:List Bool)(n:Nat):∀l,H9 l->K7 m n l=true
 |[],_=>rfl
 |a::r,h=>by simp only[H9,K7,b47]at h ⊢;exact⟨H5 m n a h.1,P8 m n r h.2⟩
end
theorem Cr{m:b5l b5n}{n:Nat}:∀{l:b5l AV},E0 m n l->∀(i:Nat) (av:AV),l[i]? =some av->low m n av=true
 |[],_,i,av,h=>by simp at h
 |a::r,hp,i,av,h=>by
  simp only[E0,b47]at hp;cases i with
  |zero=>simp at h;subst h;exact hp.1
  |succ i=>exact Cr hp.2 i av (by simpa using h)
theorem UF{m:b5l b5n}{n:Nat}:∀{l:b5l (b5l AV)},K7 m n l->∀(i:Nat) (el:b5l AV),l[i]? =some el->E0 m n el=true
 |[],_,i,av,h=>by simp at h
 |a::r,hp,i,av,h=>by
  simp only[K7,b47]at hp;cases i with
  |zero=>simp at h;subst h;exact hp.1
  |succ i=>exact UF hp.2 i av (by simpa using h)
def Sg.cut(σ:Sg)(m:b5l b5n)(n:Nat):Sg:={σ with blk:=λk=>if m.getD k false=true then σ.blk k else none,buf:=λid=>if id<n then σ.buf id else none}
theorem VB{σ:Sg}{m:b5l b5n}{n b o:Nat}(h:(σ.cut m n).own b o):σ.own b o:=by
 rcases h with⟨k,hk⟩|⟨id,e,he,hs⟩
 ·simp only[Sg.cut]at hk;split at hk
  ·exact .inl ⟨k,hk⟩
  ·cases hk
 ·simp only[Sg.cut]at he;split at he
  ·exact .inr ⟨id,e,he,hs⟩
  ·cases he
theorem dm{σ:Sg}{m:b5l b5n}{n b o:Nat}(h:(σ.cut m n).open_ b o):σ.open_ b o:=h.elim .inl λh=>.inr (VB h)
theorem Rel.cut{σ:Sg}{m:b5l b5n}{n:Nat}{av:AV}{x:Value}(hr:Rel σ av x):low m n av->Rel (σ.cut m n) av x:=by
 induction hr with
 |v x h=>intro _;exact .v x h
 |ptr k off b h=>intro hl;exact .ptr k off b (by simp only[Sg.cut];rw[if_pos (by simpa[low]using hl)];exact h)
 |G6 cells off b o xs hc hr ih=>
  intro hl;exact .G6 cells off b o xs (λi av hi=>⟨(hc i av hi).1,λh=>(hc i av hi).2.1 (dm h),(hc i av hi).2.2⟩) λi av hi=>ih i av hi (Cr (by simpa[low]using hl) i av hi)
 |nil=>intro _;exact .nil
 |F5 k=>intro _;exact .F5 k
 |mp k b h=>intro hl;exact .mp k b (by simp only[Sg.cut];rw[if_pos (by simpa[low]using hl)];exact h)
 |ps k t b p h hs hp=>intro hl;exact .ps k t b p (by simp only[Sg.cut];rw[if_pos (by simpa[low]using hl)];exact h) hs hp
 |CC u=>intro _;exact .CC u
 |Ab id els u a c cap _ hu ih=>intro hl;exact .Ab id els u a c cap (ih (by simpa[low]using hl)) hu
 |Em id els u a p c cap _ hu hp ih=>intro hl;exact .Em id els u a p c cap (ih (by simpa[low]using hl)) hu hp
 |Fu id c u b cap hn he hu=>
  intro hl;obtain⟨e,h1,h2⟩:=he;exact .Fu id c u b cap hn ⟨e,by simp only[Sg.cut];rw[if_pos (by simpa[low,K7]using hl)];exact h1,h2⟩ hu
 |row k off size len capm b cap h hc hm hx=>intro hl;exact .row k off size len capm b cap (by simp only[Sg.cut];rw[if_pos (by simpa[low]using hl)];exact h) hc hm hx
 |sl0 tok ht=>
  intro hl;refine .sl0 tok ?_;cases tok with
  |own id=>
   obtain⟨e,h1,h2⟩:=ht;refine⟨e,?_,h2⟩;simp only[low,b47,b45]at hl;simp only[Sg.cut];rw[if_pos hl.1];exact h1
  |_=>exact ht
 |L3 tok a cap ht hc=>
  intro hl;refine .L3 tok a cap ?_ hc;cases tok with
  |own id=>
   obtain⟨e,h1,h2⟩:=ht;refine⟨e,?_,h2⟩;simp only[low,b47,b45]at hl;simp only[Sg.cut];rw[if_pos hl.1];exact h1
  |_=>exact ht
 |sl els tok b o cap size xs hs hcap ht hz hc hr ih=>
  intro hl;simp only[low,b47]at hl;refine .sl els tok b o cap size xs hs hcap ?_ (λid e h1 h2=>?_) (λi el hi j av hj=>⟨(hc i el hi j av hj).1,λh=>(hc i el hi j av hj).2.1 (dm h),(hc i el hi j av hj).2.2⟩) λi el hi j av hj=>ih i el hi j av hj (Cr (UF hl.2 i el hi) j av hj)
  ·cases tok with
   |own id=>
    obtain⟨e,h1,h2⟩:=ht;refine⟨e,?_,h2⟩;simp only[Sg.cut];rw[if_pos (by simpa using hl.1)];exact h1
   |_=>exact ht
  ·simp only[Sg.cut]at h2;split at h2
   ·exact hz id e h1 h2
   ·cases h2
 |agg cells xs hn hc x hx hr ih=>intro hl;exact .agg cells xs hn hc x hx λi av hi=>ih i av hi (Cr (by simpa[low]using hl) i av hi)
 |tuple vs xs hn x hx hr ih=>intro hl;exact .tuple vs xs hn x hx λi av hi=>ih i av hi (Cr (by simpa[low]using hl) i av hi)
 |iface t av x h ih=>intro hl;exact .iface t av x (ih (by simpa[low]using hl))
 |clo fn first captured fs cs hn hm x y hx hy hr hq ih1 ih2=>
  intro hl;simp only[low,b47]at hl;exact .clo fn first captured fs cs hn hm x y hx hy (λi av hi=>ih1 i av hi (Cr hl.1 i av hi)) λi av hi=>ih2 i av hi (Cr hl.2 i av hi)
theorem D3.cut{σ:Sg}{m:b5l b5n}{n:Nat}{cells:b5l AV}{vs:b5l Value}(hc:D3 σ cells vs)(hl:E0 m n cells):D3 (σ.cut m n) cells vs:=by
 refine⟨hc.1,λi av hi=>?_⟩;obtain⟨h1,x,h2,h3⟩:=hc.2 i av hi;exact⟨h1,x,h2,h3.cut (Cr hl i av hi)⟩
def Y4(m:b5l b5n)(n:Nat):Env->b5n
 |[]=>true
 |(_,a)::e=>low m n a&&Y4 m n e
def S9(m:b5l b5n)(n:Nat):b5l (b5m (b5l AV))->b5n
 |[]=>true
 |some c::r=>E0 m n c&&S9 m n r
 |none::r=>S9 m n r
theorem QU{m:b5l b5n}{n:Nat}:∀{e:Env}{t:Nat}{a:AV},Y4 m n e->get e t=some a->low m n a=true
 |[],_,_,_,h=>by cases h
 |(u,b)::e,t,a,hl,h=>by
  simp only[Y4,b47]at hl;simp only[get]at h;split at h
  ·cases h;exact hl.1
  ·exact QU hl.2 h
theorem Yj{m:b5l b5n}{n:Nat}:∀{l:b5l (b5m (b5l AV))}{i:Nat}{c:b5l AV},S9 m n l->l[i]? =some (some c)->E0 m n c=true
 |[],_,_,_,h=>by simp at h
 |o::r,i,c,hl,h=>by
  cases i with
  |zero=>simp at h;subst h;simp only[S9,b47]at hl;exact hl.1
  |succ i=>
   refine Yj (l:=r) (i:=i) ?_ (by simpa using h);cases o with
   |none=>exact hl
   |some c'=>simp only[S9,b47]at hl;exact hl.2
def K2:b5l b5n->b5l (b5m (b5l AV))->b5l (b5m (b5l AV))
 |b::m,x::l=>(if b=true then x else none)::K2 m l
 |_,_=>[]
theorem In:∀{m:b5l b5n}{l:b5l (b5m (b5l AV))}{k:Nat}{c:b5l AV},(K2 m l)[k]? =some (some c)->m.getD k false/\l[k]? =some (some c)
 |[],l,k,c,h=>by simp[K2]at h
 |b::m,[],k,c,h=>by simp[K2]at h
 |b::m,x::l,k,c,h=>by
  cases k with
  |zero=>
   simp only[K2,List.getElem?_cons_zero,b5j]at h;split at h
   ·rename_i hb;subst h;exact⟨hb,rfl⟩
   ·cases h
  |succ k=>exact In (m:=m) (l:=l) (k:=k) (by simpa[K2]using h)
theorem cK:∀{m:b5l b5n}{l:b5l (b5m (b5l AV))}{k:Nat}{c:b5l AV},m.getD k false->l[k]? =some (some c)->(K2 m l)[k]? =some (some c)
 |[],l,k,c,h,_=>by simp at h
 |b::m,[],k,c,_,h=>by simp at h
 |b::m,x::l,k,c,h1,h2=>by
  cases k with
  |zero=>
   have h1':b=true:=h1;simp only[List.getElem?_cons_zero,b5j]at h2;simp[K2,h1',h2]
  |succ k=>simpa[K2]using cK (m:=m) (l:=l) (k:=k) (by simpa using h1) (by simpa using h2)
theorem Bo.cut{σ:Sg}{m:b5l b5n}{n:Nat}:∀{es:b5l MapEntry}{l:b5l AV},Bo σ es l->E0 m n l->Bo (σ.cut m n) es l
 |[],[],_,_=>trivial
 |[],_::_,hc,_=>hc.elim
 |_::_,[],hc,_=>hc.elim
 |_::_,_::_,⟨⟨k,v,h1,h2,h3⟩,hc⟩,hl=>by
  subst h1;simp only[E0,low,b47,Bool.and_true]at hl;exact⟨⟨k,v,rfl,h2.cut hl.1.1,h3.cut hl.1.2⟩,hc.cut hl.2⟩
theorem Inv.cut{σ:Sg}{h:A3}(hi:Inv h σ)(m:b5l b5n)(n:Nat)(hb:S9 m n (K2 m h.A5))(hg:M6 h.B0):Inv ⟨K2 m h.A5,h.A9.take n,h.B0⟩ (σ.cut m n):=by
 have hblk:∀{k b:Nat},(σ.cut m n).blk k=some b->m.getD k false/\σ.blk k=some b:=by
  intro k b hk;simp only[Sg.cut]at hk;split at hk
  ·rename_i h1;exact⟨h1,hk⟩
  ·cases hk
 have hbuf:∀{k:Nat}{e:Buf},(σ.cut m n).buf k=some e->k<n/\σ.buf k=some e:=by
  intro k b hk;simp only[Sg.cut]at hk;split at hk
  ·rename_i h1;exact⟨h1,hk⟩
  ·cases hk
 refine⟨λk cells hk=>?_,λk b hk=>?_,λk l b c c' hk hl hc hc' h1 h2=>?_,λid c hc=>?_,λid e he=>?_,λid e he=>hi.K8 id e (hbuf he).2,λid e b o he hs=>hi.M0 id e b o (hbuf he).2 hs,λid e b o he hs=>hi.L5 id e b o (hbuf he).2 hs,λid e b o he hs=>hi.H4 id e b o (hbuf he).2 hs,λi j e f b o he hf h1 h2=>hi.L6 i j e f b o (hbuf he).2 (hbuf hf).2 h1 h2,λid e k b o he hs hk=>hi.I6 id e k b o (hbuf he).2 hs (hblk hk).2,λb o ho=>⟨(hi.outer b o ho).1,λh=>(hi.outer b o ho).2 (VB h)⟩,λg cells hgl=>?_⟩
 ·obtain⟨h1,h2⟩:=In hk;obtain⟨b,h3,h4⟩:=hi.blk k cells h2;refine⟨b,by simp only[Sg.cut];rw[if_pos h1];exact h3,?_⟩;have hlow:=Yj hb hk;cases h4 with
  |cells _ cs rest elem h5 h6=>exact .cells cells cs rest elem h5 (h6.cut hlow)
  |it s p h5=>exact .it s p h5
  |map es clock l h5 h6=>exact .map es clock l h5 (h6.cut (by simpa[E0,low]using hlow))
 ·obtain⟨h1,h2⟩:=hblk hk;obtain⟨c,h3⟩:=hi.dom k b h2;exact⟨c,cK h1 h3⟩
 ·exact hi.inj k l b c c' (In hk).2 (In hl).2 hc hc' (hblk h1).2 (hblk h2).2
 ·rw[List.getElem?_take]at hc;split at hc
  ·rename_i h1;obtain⟨e,h2,h3⟩:=hi.buf id c hc;exact⟨e,by simp only[Sg.cut];rw[if_pos h1];exact h2,h3⟩
  ·cases hc
 ·obtain⟨h1,h2⟩:=hbuf he;rw[List.getElem?_take,if_pos h1];exact hi.K5 id e h2
 ·exact(hi.F5 g cells hgl).cut (by simp only[low];exact H5 m n cells (List.all_eq_true.1 hg _ hgl))
def Low(σ:Sg)(kb kf:Nat):Prop:=(∀k b,σ.blk k=some b->k<kb)/\∀id e,σ.buf id=some e->id<kf
theorem Le.cut{σ0 σ:Sg}{kb kf n:Nat}{m:b5l b5n}(hle:Le σ0 σ)(hl:Low σ0 kb kf)(hm:∀k,k<kb->m.getD k false)(hn:kf<=n):Le σ0 (σ.cut m n) where
 blk k b hk:=by
  simp only[Sg.cut];rw[if_pos (hm k (hl.1 k b hk))];exact hle.blk k b hk
 buf id e he:=by
  obtain⟨e',h1,h2⟩:=hle.buf id e he;exact⟨e',by simp only[Sg.cut];rw[if_pos (by have:=hl.2 id e he;omega)];exact h1,h2⟩
 outer:=hle.outer
 cell:=hle.cell
 ext:=hle.ext
 shape:=hle.shape
 whole:=hle.whole
 own b o hb ho:=hle.own b o hb (VB ho)
 size:=hle.size
 os:=hle.os
 tape:=hle.tape
 output:=hle.output
structure D(P:Program)(N kb kf:Nat)(x:F7)(Q:Exit->Env->A3->Prop)(env:Env)(h:A3):Prop where
 out:∀c,G0 P N c=some x->∀(σ0 σ:Sg) (a:Act),St σ h env N a->Le σ0 σ->Low σ0 kb kf->c.wp P (BI σ0 N Q) a σ.w
structure DL(P:Program)(N kb kf:Nat)(x:F7)(Q:Exit->Env->A3->Prop)(env:Env)(h:A3):Prop where
 out:∀c,G0 P N c=some x->∀(σ0 σ:Sg) (a:Act),St σ h env N a->Le σ0 σ->Low σ0 kb kf->Ju P c (BI σ0 N Q) a σ.w
def wj(P:Program)(c rest:Code)(Q:Exit->Act->World->Prop)(a:Act)(w:World):Prop:=∀b k cs,∃e a' w',Q e a' w'/\Arrives P (lone (b.at a (.code rest::.inScope c::k)) cs w) b k cs e a' w'
structure DG(P:Program)(N kb kf:Nat)(x:F7)(l:Nat)(Q:Exit->Env->A3->Prop)(env:Env)(h:A3):Prop where
 out:∀c rest,G0 P N c=some x->findLabel c l=some rest->∀(σ0 σ:Sg) (a:Act),St σ h env N a->Le σ0 σ->Low σ0 kb kf->wj P c rest (BI σ0 N Q) a σ.w
section
variable {P:Program}{h h':A3}{env env':Env}{N kb kf:Nat}{Q:Exit->Env->A3->Prop}{x y:F7}
theorem Ff(hx:C P N x Q env h):D P N kb kf x Q env h:=⟨λc hc σ0 σ a hs hle hl=>Code.wp_mono (λe a' w hh=>hh.up hle) (hx.out c hc σ a hs)⟩
theorem Inv.low{σ:Sg}(hi:Inv h σ)(h1:h.A5.length<=kb)(h2:h.A9.length<=kf):Low σ kb kf:=by
 refine⟨λk b hk=>?_,λid e he=>?_⟩
 ·have:=hi.name hk;omega
 ·have:=(List.getElem?_eq_some_iff.1 (hi.K5 id e he)).1;omega
theorem OI(h1:h.A5.length<=kb)(h2:h.A9.length<=kf)(hx:D P N kb kf x Q env h):L4 P N x Q env h:=λc hc σ a hs=>hx.out c hc σ σ a hs (Le.refl σ) (hs.inv.low h1 h2)
theorem b2u{gl:b5l (Nat × b5l AV)}{f:FuncId}{ac:F7}{rs:b5l M5}(hf:P0 P f=some (N,ac,rs)){args:b5l AV}{r:AV}{e₀:Env}(hn:args.length<=N)(he:AG 0 args=e₀)(hbody:D P N 0 0 ac (Lz rs r) e₀ ⟨[],[],gl⟩):B4 P gl f args r:=a5e hf hn he ⟨OI (Nat.le_refl _) (Nat.le_refl _) hbody⟩
theorem a7p{ops:b5l C2}(hv:V P ops env h λenv' h'=>Q .normal env' h'):D P N kb kf (.region ops) Q env h:=Ff (sT hv)
theorem tp(S:b5l (Nat × b5l AV)){ord:b5l (b5l Nat)}{al tl:b5l C2}(hok:AK al)(hst:Hr (clo ord) al)(hS:DQ S h=S.map λp=>some (some p.2))(hv:Sp P S h.B0 true al 0 env h λF h'=>vd P tl F h' λenv' h'=>Q .normal env' h'):D P N kb kf (.drawn ord al tl) Q env h:=Ff (wG S hok hst hS hv)
theorem UW(hq:Q .normal env h):D P N kb kf .skip Q env h:=Ff (rZ hq)
theorem b25{id:Nat}(hq:Q (.exit id) env h):D P N kb kf (.exit id) Q env h:=Ff (a6m hq)
theorem No(hq:Q .ret env h):D P N kb kf .ret Q env h:=Ff (u5 hq)
theorem z8{l:Nat}(hq:Q .normal env h):D P N kb kf (.label l) Q env h:=Ff (re hq)
theorem a0f{l:Nat}(hq:Q (.goto l) env h):D P N kb kf (.goto l) Q env h:=Ff (yP hq)
theorem Sq(hg:∀(σ:Sg) (a:Act),St σ h env N a->∃σ' h' env',σ'.w=σ.w/\Le σ σ'/\St σ' h' env' N a/\D P N kb kf x Q env' h'):D P N kb kf x Q env h:=⟨by
 intro c hc σ0 σ a hs hle hl;obtain⟨σ',h',env',hw,l1,s1,hx⟩:=hg σ a hs;rw[<-hw];exact hx.out c hc σ0 σ' a s1 (hle.trans l1) hl⟩
theorem gF(hg:∀(σ:Sg) (a:Act),St σ h env N a->∃σ' h' env',σ'.w=σ.w/\Le σ σ'/\St σ' h' env' N a/\DL P N kb kf x Q env' h'):DL P N kb kf x Q env h:=⟨by
 intro c hc σ0 σ a hs hle hl;obtain⟨σ',h',env',hw,l1,s1,hx⟩:=hg σ a hs;rw[<-hw];exact hx.out c hc σ0 σ' a s1 (hle.trans l1) hl⟩
theorem l9{l:Nat}(hg:∀(σ:Sg) (a:Act),St σ h env N a->∃σ' h' env',σ'.w=σ.w/\Le σ σ'/\St σ' h' env' N a/\DG P N kb kf x l Q env' h'):DG P N kb kf x l Q env h:=⟨by
 intro c rest hc hr σ0 σ a hs hle hl;obtain⟨σ',h',env',hw,l1,s1,hx⟩:=hg σ a hs;rw[<-hw];exact hx.out c rest hc hr σ0 σ' a s1 (hle.trans l1) hl⟩
theorem gJ{t:Nat}(size:Nat)(hg:get env t=some .nil){σ:Sg}{a:Act}(hs:St σ h env N a):∃σ',σ'.w=σ.w/\Le σ σ'/\St σ' ⟨h.A5,h.A9++[(0,size)],h.B0⟩ ((t,.sl [] (.own h.A9.length))::env) N a:=by
 obtain⟨σ1,w1,l1,i1,b1⟩:=LQ hs.inv ⟨0,size,none,0⟩ rfl (λ_=>rfl);refine⟨σ1,w1,l1,i1,?_,hs.size,hs.defers⟩;intro u av hu;simp only[get]at hu;split at hu
 ·rename_i htu;subst htu;cases hu;obtain⟨y,h1,h2⟩:=hs.env t _ hg;cases h2;exact⟨_,h1,.sl0 _ ⟨_,b1,Nat.le_refl _,λ_=>⟨rfl,rfl⟩⟩⟩
 ·exact(hs.env.mono l1) u av hu
theorem a0s{t:Nat}(size:Nat)(hg:get env t=some (.sl [] .full)){σ:Sg}{a:Act}(hs:St σ h env N a):∃σ',σ'.w=σ.w/\Le σ σ'/\St σ' ⟨h.A5,h.A9++[(0,size)],h.B0⟩ ((t,.sl [] (.own h.A9.length))::env) N a:=by
 obtain⟨y,h1,h2⟩:=hs.env t _ hg
 have hy:∃ad,y=.slice ad 0 0:=by
  cases h2 with
  |sl0 _ _=>exact⟨_,rfl⟩
  |L3 _ ad cap ht hc=>rw[show cap=0 from ht];exact⟨_,rfl⟩
  |sl _ _ b o cap sz xs _ _ ht _ _ _=>rw[show cap=0 from ht];exact⟨_,rfl⟩
 obtain⟨ad,rfl⟩:=hy;obtain⟨σ1,w1,l1,i1,b1⟩:=LQ hs.inv ⟨0,size,ad,0⟩ rfl (λ_=>rfl);refine⟨σ1,w1,l1,i1,?_,hs.size,hs.defers⟩;intro u av hu;simp only[get]at hu;split at hu
 ·rename_i htu;subst htu;cases hu;cases ad with
  |none=>exact⟨_,h1,.sl0 _ ⟨_,b1,Nat.le_refl _,λ_=>⟨rfl,rfl⟩⟩⟩
  |some ad=>exact⟨_,h1,.L3 _ _ _ ⟨_,b1,Nat.le_refl _,λ_=>⟨rfl,rfl⟩⟩ (.inr rfl)⟩
 ·exact(hs.env.mono l1) u av hu
theorem a6v{t:Nat}(size:Nat)(hg:get env t=some (.sl [] .full))(hx:D P N kb kf x Q ((t,.sl [] (.own h.A9.length))::env) ⟨h.A5,h.A9++[(0,size)],h.B0⟩):D P N kb kf x Q env h:=Sq λσ a hs=>by
 obtain⟨σ',h1,h2,h3⟩:=a0s size hg hs;exact⟨σ',_,_,h1,h2,h3,hx⟩
theorem a11{t:Nat}(size:Nat)(hg:get env t=some .nil)(hx:D P N kb kf x Q ((t,.sl [] (.own h.A9.length))::env) ⟨h.A5,h.A9++[(0,size)],h.B0⟩):D P N kb kf x Q env h:=Sq λσ a hs=>by
 obtain⟨σ',h1,h2,h3⟩:=gJ size hg hs;exact⟨σ',_,_,h1,h2,h3,hx⟩
theorem zX{k j:Nat}(size:Nat){cells:b5l AV}{a0 a1:AV}(hx0:∀{σ:Sg}{x:Value},Rel σ a0 x->x=.slice none 0 0)(hx1:∀{σ:Sg},Rel σ (.sl [] (.own h.A9.length)) (.slice none 0 0)->Rel σ a1 (.slice none 0 0))(hc1:a1.isCell=true)(hc0:(∀s p,a0≠.it s p)/\∀l,a0≠.tuple l)(hk:h.A5[k]? =some (some cells))(hj:cells[j]? =some a0){σ:Sg}{a:Act}(hs:St σ h env N a):∃σ',σ'.w=σ.w/\Le σ σ'/\St σ' ⟨h.A5.set k (some (cells.set j a1)),h.A9++[(0,size)],h.B0⟩ env N a:=by
 obtain⟨σ1,w1,l1,i1,b1⟩:=LQ hs.inv ⟨0,size,none,0⟩ rfl (λ_=>rfl);refine⟨σ1,w1,l1,?_,hs.env.mono l1,hs.size,hs.defers⟩;obtain⟨b,hb,hat⟩:=i1.blk k cells hk;have hkl:k<h.A5.length:=(List.getElem?_eq_some_iff.1 hk).1;have hjl:j<cells.length:=(List.getElem?_eq_some_iff.1 hj).1
 have hat':S3 σ1 b (cells.set j a1):=by
  cases hat with
  |cells _ cs rest elem h5 h6=>
   refine .cells _ cs rest elem h5 ⟨by rw[h6.1];simp,λi av hi=>?_⟩;rw[List.getElem?_set]at hi;split at hi
   ·rename_i hij;subst hij;cases hi;obtain⟨_,y,h7,h8⟩:=h6.2 j _ hj;rw[hx0 h8]at h7;exact⟨hc1,_,h7,hx1 (.sl0 _ ⟨_,b1,Nat.le_refl _,λ_=>⟨rfl,rfl⟩⟩)⟩
   ·exact h6.2 i av hi
  |it s p h5=>
   cases j with
   |zero=>exact absurd (by simpa using hj.symm) (hc0.1 s p)
   |succ j=>simp at hj
  |map es clock l h5 h6=>
   cases j with
   |zero=>exact absurd (by simpa using hj.symm) (hc0.2 l)
   |succ j=>simp at hj
 have hne:∀c,(cells.set j a1=c)->c≠[]:=by
  rintro c rfl he;have:=congrArg List.length he;simp at this;subst this;simp at hjl
 refine⟨λn c hn=>?_,λn b' hn=>?_,λn m b' c c' hn hm hc hc' h1 h2=>?_,i1.buf,i1.K5,i1.K8,i1.M0,i1.L5,i1.H4,i1.L6,i1.I6,i1.outer,i1.F5⟩
 ·rw[List.getElem?_set]at hn;split at hn
  ·rename_i hkn;subst hkn;cases hn;exact⟨b,hb,hat'⟩
  ·exact i1.blk n c hn
 ·obtain⟨c,hc⟩:=i1.dom n b' hn;rw[List.getElem?_set];split
  ·rename_i hkn;exact⟨_,rfl⟩
  ·exact⟨c,hc⟩
 ·have old:∀{n:Nat}{c:b5l AV},(h.A5.set k (some (cells.set j a1)))[n]? =some (some c)->c≠[]->∃d,h.A5[n]? =some (some d)/\d≠[]:=by
   intro n c hn hc;rw[List.getElem?_set]at hn;split at hn
   ·rename_i hkn;subst hkn;exact⟨cells,hk,by rintro rfl;simp at hj⟩
   ·exact⟨c,hn,hc⟩
  obtain⟨d,hd,hd0⟩:=old hn hc;obtain⟨d',hd',hd0'⟩:=old hm hc';exact i1.inj n m b' d d' hd hd' hd0 hd0' h1 h2
theorem a8k{k j:Nat}(size:Nat){cells:b5l AV}(hk:h.A5[k]? =some (some cells))(hj:cells[j]? =some .nil){σ:Sg}{a:Act}(hs:St σ h env N a):∃σ',σ'.w=σ.w/\Le σ σ'/\St σ' ⟨h.A5.set k (some (cells.set j (.sl [] (.own h.A9.length)))),h.A9++[(0,size)],h.B0⟩ env N a:=
 zX size (λhr=>by cases hr;rfl) (λhr=>hr) rfl ⟨by simp,by simp⟩ hk hj hs
theorem a9v{k j:Nat}{cells:b5l AV}{av b:AV}(hk:h.A5[k]? =some (some cells))(hj:cells[j]? =some av)(hav:L8 av=b)(hit:I4 cells)(hit2:I4 (cells.set j b)){σ:Sg}{a:Act}(hs:St σ h env N a):St σ ⟨h.A5.set k (some (cells.set j b)),h.A9,h.B0⟩ env N a:=by
 subst hav;have i1:=hs.inv;refine⟨?_,hs.env,hs.size,hs.defers⟩;obtain⟨b,hb,hat⟩:=i1.blk k cells hk;have hjl:j<cells.length:=(List.getElem?_eq_some_iff.1 hj).1;have hkl:k<h.A5.length:=(List.getElem?_eq_some_iff.1 hk).1
 have hat':S3 σ b (cells.set j (L8 av)):=by
  cases hat with
  |cells _ cs rest elem h5 h6=>
   refine .cells _ cs rest elem h5 ⟨by rw[h6.1];simp,λi av' hi=>?_⟩;rw[List.getElem?_set]at hi;split at hi
   ·rename_i hij;subst hij;cases hi;obtain⟨h1,y,h7,h8⟩:=h6.2 j _ hj;exact⟨by rw[qO];exact h1,y,h7,h8.L8⟩
   ·exact h6.2 i av' hi
  |it s p h5=>cases hit
  |map es clock l h5 h6=>cases hit
 refine⟨λn c hn=>?_,λn b' hn=>?_,λn m b' c c' hn hm hc hc' h1 h2=>?_,i1.buf,i1.K5,i1.K8,i1.M0,i1.L5,i1.H4,i1.L6,i1.I6,i1.outer,i1.F5⟩
 ·rw[List.getElem?_set]at hn;split at hn
  ·rename_i hkn;subst hkn;cases hn;exact⟨b,hb,hat'⟩
  ·exact i1.blk n c hn
 ·obtain⟨c,hc⟩:=i1.dom n b' hn;rw[List.getElem?_set];split
  ·rename_i hkn;subst hkn;exact⟨_,rfl⟩
  ·exact⟨c,hc⟩
 ·have old:∀{n:Nat}{c:b5l AV},(h.A5.set k (some (cells.set j (L8 av))))[n]? =some (some c)->c≠[]->∃d,h.A5[n]? =some (some d)/\d≠[]:=by
   intro n c hn hc;rw[List.getElem?_set]at hn;split at hn
   ·rename_i hkn;subst hkn;exact⟨cells,hk,by rintro rfl;simp at hj⟩
   ·exact⟨c,hn,hc⟩
  obtain⟨d,hd,hd0⟩:=old hn hc;obtain⟨d',hd',hd0'⟩:=old hm hc';exact i1.inj n m b' d d' hd hd' hd0 hd0' h1 h2
theorem Zs(m:b5l b5n)(n:Nat){σ0 σ:Sg}{a:Act}(hs:St σ h env N a)(hle:Le σ0 σ)(hl:Low σ0 kb kf)(hm:∀k,k<kb->m.getD k false)(hn:kf<=n)(he:Y4 m n env)(hb:S9 m n (K2 m h.A5))(hg:M6 h.B0):
  St (σ.cut m n) ⟨K2 m h.A5,h.A9.take n,h.B0⟩ env N a/\Le σ0 (σ.cut m n):=
 ⟨⟨hs.inv.cut m n hb hg,λt av ht=>by obtain⟨y,h1,h2⟩:=hs.env t av ht;exact⟨y,h1,h2.cut (QU he ht)⟩,hs.size,hs.defers⟩,hle.cut hl hm hn⟩
theorem yi(m:b5l b5n)(n:Nat)(hm:∀k,k<kb->m.getD k false)(hn:kf<=n)(he:Y4 m n env)(hb:S9 m n (K2 m h.A5))(hg:M6 h.B0)(hx:DL P N kb kf x Q env ⟨K2 m h.A5,h.A9.take n,h.B0⟩):DL P N kb kf x Q env h:=⟨by
 intro c hc σ0 σ a hs hle hl;obtain⟨h1,h2⟩:=Zs m n hs hle hl hm hn he hb hg;exact hx.out c hc σ0 (σ.cut m n) a h1 h2 hl⟩
theorem wS{l:Nat}(m:b5l b5n)(n:Nat)(hm:∀k,k<kb->m.getD k false)(hn:kf<=n)(he:Y4 m n env)(hb:S9 m n (K2 m h.A5))(hg:M6 h.B0)(hx:DG P N kb kf x l Q env ⟨K2 m h.A5,h.A9.take n,h.B0⟩):DG P N kb kf x l Q env h:=⟨by
 intro c rest hc hr σ0 σ a hs hle hl;obtain⟨h1,h2⟩:=Zs m n hs hle hl hm hn he hb hg;exact hx.out c rest hc hr σ0 (σ.cut m n) a h1 h2 hl⟩
theorem xP(m:b5l b5n)(n:Nat)(hm:∀k,k<kb->m.getD k false)(hn:kf<=n)(he:Y4 m n env)(hb:S9 m n (K2 m h.A5))(hg:M6 h.B0)(hx:D P N kb kf x Q env ⟨K2 m h.A5,h.A9.take n,h.B0⟩):D P N kb kf x Q env h:=⟨by
 intro c hc σ0 σ a hs hle hl;obtain⟨h1,h2⟩:=Zs m n hs hle hl hm hn he hb hg;exact hx.out c hc σ0 (σ.cut m n) a h1 h2 hl⟩
theorem uJ{c:Code}(hc:G0 P N c=some (.seq x y)):∃cx cy,c=.seq cx cy/\G0 P N cx=some x/\G0 P N cy=some y:=by
 cases c<;>(try simp only[G0,b44,b43]at hc)
 case seq cx cy=>obtain⟨x',hx',y',hy',he⟩:=hc;cases he;exact⟨cx,cy,rfl,hx',hy'⟩
 case region id ops d=>
  cases d<;>simp only[G0,b44,b43]at hc
  ·obtain⟨_,_,hx⟩:=hc;cases hx
  ·obtain⟨_,_,_,_,hx⟩:=hc;(repeat' split at hx)<;>cases hx
 all_goals first
  |(cases hc;done)
  |(obtain⟨_,_,hx⟩:=hc;cases hx;done)
  |(obtain⟨_,_,_,_,hx⟩:=hc;cases hx;done)
  |(obtain⟨_,_,_,_,_,_,hx⟩:=hc;cases hx;done)
theorem a2i{c:Code}{id:Nat}(hc:G0 P N c=some (.block id x)):∃cx,c=.block id cx/\G0 P N cx=some x:=by
 cases c<;>(try simp only[G0,b44,b43]at hc)
 case block i cx=>obtain⟨x',hx',he⟩:=hc;cases he;exact⟨cx,rfl,hx'⟩
 case region id ops d=>
  cases d<;>simp only[G0,b44,b43]at hc
  ·obtain⟨_,_,hx⟩:=hc;cases hx
  ·obtain⟨_,_,_,_,hx⟩:=hc;(repeat' split at hx)<;>cases hx
 all_goals first
  |(cases hc;done)
  |(obtain⟨_,_,hx⟩:=hc;cases hx;done)
  |(obtain⟨_,_,_,_,hx⟩:=hc;cases hx;done)
  |(obtain⟨_,_,_,_,_,_,hx⟩:=hc;cases hx;done)
theorem yJ{c:Code}(hc:G0 P N c=some (.loop x)):∃cx,c=.loop cx/\G0 P N cx=some x:=by
 cases c<;>(try simp only[G0,b44,b43]at hc)
 case loop cx=>obtain⟨x',hx',he⟩:=hc;cases he;exact⟨cx,rfl,hx'⟩
 case region id ops d=>
  cases d<;>simp only[G0,b44,b43]at hc
  ·obtain⟨_,_,hx⟩:=hc;cases hx
  ·obtain⟨_,_,_,_,hx⟩:=hc;(repeat' split at hx)<;>cases hx
 all_goals first
  |(cases hc;done)
  |(obtain⟨_,_,hx⟩:=hc;cases hx;done)
  |(obtain⟨_,_,_,_,hx⟩:=hc;cases hx;done)
  |(obtain⟨_,_,_,_,_,_,hx⟩:=hc;cases hx;done)
theorem Ra(hx:D P N kb kf x (Im (λe h=>D P N kb kf y Q e h) Q) env h):D P N kb kf (.seq x y) Q env h:=⟨by
 intro c hc σ0 σ a hs hle hl;obtain⟨cx,cy,rfl,hcx,hcy⟩:=uJ hc;refine wp_seq (Code.wp_mono (λe a' w' hh=>?_) (hx.out cx hcx σ0 σ a hs hle hl));obtain⟨h1,σ2,h2,env2,rfl,q2,q3,q4⟩:=hh;cases e with
 |normal=>exact q4.out cy hcy σ0 σ2 a' q3 q2 hl
 |panic _=>exact h1.elim
 |outgrown=>exact h1.elim
 |exit _=>exact⟨trivial,σ2,h2,env2,rfl,q2,q3,q4⟩
 |goto _=>exact⟨trivial,σ2,h2,env2,rfl,q2,q3,q4⟩
 |ret=>exact⟨trivial,σ2,h2,env2,rfl,q2,q3,q4⟩⟩
theorem a2p{id:Nat}(hx:D P N kb kf x (Om id Q) env h):D P N kb kf (.block id x) Q env h:=⟨by
 intro c hc σ0 σ a hs hle hl;obtain⟨cx,rfl,hcx⟩:=a2i hc;refine wp_block (Code.wp_mono (λe a' w' hh=>?_) (hx.out cx hcx σ0 σ a hs hle hl));obtain⟨h1,σ2,h2,env2,rfl,q2,q3,q4⟩:=hh;cases e with
 |panic _=>exact h1.elim
 |outgrown=>exact h1.elim
 |normal=>exact⟨trivial,σ2,h2,env2,rfl,q2,q3,q4⟩
 |goto _=>exact⟨trivial,σ2,h2,env2,rfl,q2,q3,q4⟩
 |ret=>exact⟨trivial,σ2,h2,env2,rfl,q2,q3,q4⟩
 |exit i=>
  simp only[Om]at q4;simp only[Exit.inBlock];split
  ·rename_i hi;rw[if_pos hi]at q4;exact⟨trivial,σ2,h2,env2,rfl,q2,q3,q4⟩
  ·rename_i hi;rw[if_neg hi]at q4;exact⟨trivial,σ2,h2,env2,rfl,q2,q3,q4⟩⟩
theorem a2c(hx:DL P N kb kf x Q env h):D P N kb kf (.loop x) Q env h:=⟨by
 intro c hc σ0 σ a hs hle hl;obtain⟨cx,rfl,hcx⟩:=yJ hc;exact b1x (hx.out cx hcx σ0 σ a hs hle hl)⟩
theorem u4(hx:D P N kb kf x (Im (λe h=>DL P N kb kf x Q e h) Q) env h):DL P N kb kf x Q env h:=⟨by
 intro c hc σ0 σ a hs hle hl;refine zC (Code.wp_mono (λe a' w' hh=>?_) (hx.out c hc σ0 σ a hs hle hl));obtain⟨h1,σ2,h2,env2,q1,q2,q3,q4⟩:=hh;cases e with
 |panic _=>exact h1.elim
 |outgrown=>exact h1.elim
 |normal=>subst q1;exact q4.out c hc σ0 σ2 a' q3 q2 hl
 |goto _=>exact⟨trivial,σ2,h2,env2,q1,q2,q3,q4⟩
 |ret=>exact⟨trivial,σ2,h2,env2,q1,q2,q3,q4⟩
 |exit i=>exact⟨trivial,σ2,h2,env2,q1,q2,q3,q4⟩⟩
theorem WZ{c:B9}{b:b5n}(hc:c.ev env=some (.v (.bool b)))(h1:b=true->D P N kb kf x Q env h)(h2:b=false->D P N kb kf y Q env h):D P N kb kf (.cond c x y) Q env h:=⟨by
 intro cc hcc σ0 σ a hs hle hl;cases cc<;>(try simp only[G0,b44,b43]at hcc)
 case cond co cx cy=>
  obtain⟨c',hc',x',hx',y',hy',he⟩:=hcc;cases he;obtain⟨av,hr,hk⟩:=H3 (K:=λv=>v=.v (.bool b)) hs.env hc' (by rw[hc];rfl);subst hk;generalize hce:a.eval co=ce at hr;cases hr with
  |v _ _=>
  cases b with
  |true=>exact wp_cond_true hce ((h1 rfl).out cx hx' σ0 σ a hs hle hl)
  |false=>exact wp_cond_false hce ((h2 rfl).out cy hy' σ0 σ a hs hle hl)
 case region id ops d=>
  cases d<;>simp only[G0,b44,b43]at hcc
  ·obtain⟨_,_,hx⟩:=hcc;cases hx
  ·obtain⟨_,_,_,_,hx⟩:=hcc;(repeat' split at hx)<;>cases hx
 all_goals first
  |(cases hcc;done)
  |(obtain⟨_,_,hx⟩:=hcc;cases hx;done)
  |(obtain⟨_,_,_,_,hx⟩:=hcc;cases hx;done)
  |(obtain⟨_,_,_,_,_,_,hx⟩:=hcc;cases hx;done)⟩
theorem zT{c:B9}{b:b5n}(hc:c.ev env=some (.v (.bool b)))(hb:b=true)(h1:D P N kb kf x Q env h):D P N kb kf (.cond c x y) Q env h:=WZ hc (λ_=>h1) (λh=>by rw[hb]at h;cases h)
theorem Zv{c:B9}{b:b5n}(hc:c.ev env=some (.v (.bool b)))(hb:b=false)(h1:D P N kb kf y Q env h):D P N kb kf (.cond c x y) Q env h:=WZ hc (λh=>by rw[hb]at h;cases h) (λ_=>h1)
theorem a39{l:Nat}{rest:F7}(hf:AD x l=some rest)(hx:D P N kb kf x (Qe l (λe h=>DG P N kb kf x l Q e h) Q) env h):D P N kb kf (.scope x) Q env h:=⟨by
 intro c hc σ0 σ a hs hle hl;obtain⟨c',rfl,hc'⟩:=Wb hc;obtain⟨r,hr,hrc⟩:=(cA l hc').1 rest hf;intro b k cs;have hg:gotoIn l (.inScope c'::k)=some (.code r::.inScope c'::k):=by simp[gotoIn,hr]
 obtain⟨e,a₁,w₁,hq,harr⟩:=hx.out c' hc' σ0 σ a hs hle hl b (.inScope c'::k) cs;obtain⟨h1,σ2,h2,env2,rfl,q2,q3,q4⟩:=hq;cases e with
 |normal=>exact⟨.normal,a₁,_,⟨trivial,σ2,h2,env2,rfl,q2,q3,q4⟩,.head step_scope (Steps.trans harr (.one step_inScope))⟩
 |exit id=>exact⟨.exit id,a₁,_,⟨trivial,σ2,h2,env2,rfl,q2,q3,q4⟩,λk' hk=>.head step_scope (harr k' (by simp[exitTo,hk]))⟩
 |goto l'=>
  obtain⟨rfl,hJ⟩:=q4;obtain⟨e₂,a₂,w₂,hq₂,harr₂⟩:=hJ.out c' r hc' hr σ0 σ2 a₁ q3 q2 hl b k cs;exact⟨e₂,a₂,w₂,hq₂,.of_steps (.head step_scope (harr _ hg)) harr₂⟩
 |ret=>exact⟨_,a₁,_,⟨trivial,σ2,h2,env2,rfl,q2,q3,q4⟩,.of_steps (.one step_scope) harr⟩
 |panic ch=>exact h1.elim
 |outgrown=>exact h1.elim⟩
theorem ru{l:Nat}{rest:F7}(hf:AD x l=some rest)(hx:D P N kb kf rest (Qe l (λe h=>DG P N kb kf x l Q e h) Q) env h):DG P N kb kf x l Q env h:=⟨by
 intro c' r0 hc' hr0 σ0 σ a hs hle hl;obtain⟨r,hr,hrc⟩:=(cA l hc').1 rest hf;obtain rfl:r=r0:=by rw[hr]at hr0;exact Option.some.inj hr0
 intro b k cs;have hg:gotoIn l (.inScope c'::k)=some (.code r::.inScope c'::k):=by simp[gotoIn,hr]
 obtain⟨e,a₁,w₁,hq,harr⟩:=hx.out r hrc σ0 σ a hs hle hl b (.inScope c'::k) cs;obtain⟨h1,σ2,h2,env2,rfl,q2,q3,q4⟩:=hq;cases e with
 |normal=>exact⟨.normal,a₁,_,⟨trivial,σ2,h2,env2,rfl,q2,q3,q4⟩,Steps.trans harr (.one step_inScope)⟩
 |exit id=>exact⟨.exit id,a₁,_,⟨trivial,σ2,h2,env2,rfl,q2,q3,q4⟩,λk' hk=>harr k' (by simp[exitTo,hk])⟩
 |goto l'=>
  obtain⟨rfl,hJ⟩:=q4;obtain⟨e₂,a₂,w₂,hq₂,harr₂⟩:=hJ.out c' r hc' hr σ0 σ2 a₁ q3 q2 hl b k cs;exact⟨e₂,a₂,w₂,hq₂,.of_steps (harr _ hg) harr₂⟩
 |ret=>exact⟨_,a₁,_,⟨trivial,σ2,h2,env2,rfl,q2,q3,q4⟩,harr⟩
 |panic ch=>exact h1.elim
 |outgrown=>exact h1.elim⟩
theorem a5n(hx:D P N kb kf x (dh Q) env h):D P N kb kf (.scope x) Q env h:=⟨by
 intro c hc σ0 σ a hs hle hl;obtain⟨c',rfl,hc'⟩:=Wb hc;refine wp_scope_straight (Code.wp_mono (λe a' w' hh=>?_) (hx.out c' hc' σ0 σ a hs hle hl));obtain⟨h1,σ2,h2,env2,rfl,q2,q3,q4⟩:=hh;cases e with
 |panic _=>exact h1.elim
 |outgrown=>exact h1.elim
 |goto _=>exact q4.elim
 |normal=>exact⟨trivial,σ2,h2,env2,rfl,q2,q3,q4⟩
 |ret=>exact⟨trivial,σ2,h2,env2,rfl,q2,q3,q4⟩
 |exit i=>exact⟨trivial,σ2,h2,env2,rfl,q2,q3,q4⟩⟩
end
theorem gZ{P:Program}{o:I7}{env:Env}{h h':A3}{av:AV}(he:Z6 false Kw o env h=some (av,h')):F3 P o env h av h':=λK hk=>FF YT he hk
def fz(n:Nat)(cells:b5l AV):AV->AV
 |.ptr k off=>if k=n then .G6 cells off else .ptr k off
 |a=>a
def Qv(n:Nat)(cells:b5l AV):Env->Env
 |[]=>[]
 |(t,a)::e=>(t,fz n cells a)::Qv n cells e
theorem jB{n:Nat}{cells:b5l AV}:∀{e:Env}{t:Nat}{b:AV},get (Qv n cells e) t=some b->∃a,get e t=some a/\b=fz n cells a
 |[],_,_,h=>by cases h
 |(u,a)::e,t,b,h=>by
  simp only[Qv,get]at h ⊢;split at h
  ·rename_i hu;rw[if_pos hu];cases h;exact⟨a,rfl,rfl⟩
  ·rename_i hu;rw[if_neg hu];exact jB h
def CP:b5l b5n->b5l (b5m (b5l AV))->b5n
 |b::m,x::l=>(match b,x with|true,some []=>false|_,_=>true)&&CP m l
 |_,_=>true
theorem Us:∀{m:b5l b5n}{l:b5l (b5m (b5l AV))}{k:Nat}{c:b5l AV},CP m l->m.getD k false->l[k]? =some (some c)->c≠[]
 |[],_,_,_,_,h,_=>by simp at h
 |b::m,[],_,_,_,_,h=>by simp at h
 |b::m,x::l,0,c,h,h1,h2=>by
  have h1':b=true:=h1;simp only[List.getElem?_cons_zero,b5j]at h2;subst h1' h2;rintro rfl;simp[CP]at h
 |b::m,x::l,k+1,c,h,h1,h2=>by
  simp only[CP,b47]at h;exact Us h.2 (by simpa using h1) (by simpa using h2)
theorem vZ{P:Program}{h:A3}{env:Env}{N kb kf:Nat}{Q:Exit->Env->A3->Prop}{x:F7}(n:Nat)(m:b5l b5n)(k:Nat)(cells:b5l AV)(hb:h.A5[n]? =some (some cells))(hit:I4 cells)(hmn:m.getD n false=false)(hal:CP m h.A5)(hm:∀k,k<kb->m.getD k false)(hn:kf<=k){e:Env}(hE:Qv n cells env=e)(he:Y4 m k e)(hB:S9 m k (K2 m h.A5))(hg:M6 h.B0)(hx:D P N kb kf x Q e ⟨K2 m h.A5,h.A9.take k,h.B0⟩):D P N kb kf x Q env h:=⟨by
 subst hE;intro c hc σ0 σ a hs hle hl;refine hx.out c hc σ0 (σ.cut m k) a ⟨hs.inv.cut m k hB hg,λt av ht=>?_,hs.size,hs.defers⟩ (hle.cut hl hm hn) hl;have hlow:=QU he ht;obtain⟨a0,h1,rfl⟩:=jB ht;obtain⟨y,h2,h3⟩:=hs.env t a0 h1;refine⟨y,h2,?_⟩;cases a0 with
 |ptr j off=>
  simp only[fz]at hlow ⊢;split at hlow
  ·rename_i hj;subst hj;rw[if_pos rfl];cases h3 with
   |ptr _ _ b hblk=>
   obtain⟨b',h4,h5⟩:=hs.inv.blk j cells hb;rw[hblk]at h4;cases h4;cases h5 with
   |it s p h6=>cases hit
   |map es clock l h5 h6=>cases hit
   |cells _ cs rest elem h6 h7=>
   have hlc:E0 m k cells:=by simpa[low]using hlow
   have key:∀(i:Nat) (av:AV),cells[i]? =some av->∃xv,σ.w.cell? ⟨b,i,none⟩=some xv/\Rel σ av xv/\av.isCell=true:=by
    intro i av hi;obtain⟨q1,xv,q2,q3⟩:=h7.2 i av hi;refine⟨xv,?_,q3,q1⟩;have hlt:i<cs.length:=(List.getElem?_eq_some_iff.1 q2).1;simp[World.cell?,h6,b49 hlt,q2]
   have hne:cells≠[]:=by rintro rfl;cases hit
   have:=Rel.G6 (σ:=σ.cut m k) cells off b 0 (λi=>(σ.w.cell? ⟨b,i,none⟩).getD undef) (λi av hi=>by
    obtain⟨xv,q1,q2,q3⟩:=key i av hi;refine⟨by show σ.w.cell? _=_;rw[Nat.zero_add,q1];rfl,?_,q3⟩;rintro (ho|⟨j',hj'⟩|⟨id,eb,he1,he2⟩)
    ·exact(hs.inv.outer _ _ ho).2 (.inl ⟨j,hblk⟩)
    ·simp only[Sg.cut]at hj';split at hj'
     ·rename_i hmj;obtain⟨c',hc'⟩:=hs.inv.dom j' b hj';have:=hs.inv.inj j' j b c' cells hc' hb (Us hal hmj hc') hne hj' hblk;subst this;rw[hmn]at hmj;cases hmj
     ·cases hj'
    ·simp only[Sg.cut]at he1;split at he1
     ·exact hs.inv.I6 id eb j b _ he1 he2 hblk
     ·cases he1) (λi av hi=>by
    obtain⟨xv,q1,q2,q3⟩:=key i av hi;rw[q1];exact q2.cut (Cr hlc i av hi))
   simpa using this
  ·rename_i hj;rw[if_neg hj];exact h3.cut hlow
 |_=>exact h3.cut hlow⟩
theorem b36(a:AV):L8 (L8 a)=L8 a:=by cases a<;>rfl
theorem ov(a:AV):AM (AM a)=AM a:=by
 cases a with
 |agg cs=>simp only[AM,List.map_map];congr 1;exact List.map_congr_left λx _=>b36 x
 |_=>rfl
theorem mt(a:AV):nz (nz a)=nz a:=by
 cases a with
 |tuple vs=>simp only[nz,List.map_map];congr 1;exact List.map_congr_left λx _=>ov x
 |agg cs=>exact ov (.agg cs)
 |_=>rfl
def Q4(P:Program)(gl:b5l (Nat × b5l AV))(f:AV)(args:b5l AV)(r:AV):Prop:=∃g a b,f=.clo (.func g) a b/\C3 ((a++args++b).map nz)/\B4 P gl g ((a++args++b).map nz) r
theorem a4q{P:Program}{h:A3}{env:Env}{f:B9}{args:b5l B9}{F:AV}{l l':b5l AV}{r:AV}(hf:f.ev env=some F)(ha:evs env args=some l)(hl:l.map nz=l')(hgl:M6 h.B0)(hc:Q4 P h.B0 F l' r):F3 P (.call f args) env h r h:=by
 obtain⟨g,a,b,rfl,hp,hn⟩:=hc;refine b1d hf ha ?_ hgl hp hn;subst hl;simp only[List.map_append,List.map_map]
 congr 2
 exact List.map_congr_left λx _=>(mt x).symm
theorem i3{P:Program}{h:A3}{env:Env}{x y z:B9}{k k' k'':IntKind}{a b c:Int}(hx:x.ev env=some (.v (.int k a)))(hy:y.ev env=some (.v (.int k' b)))(hz:z.ev env=some (.v (.int k'' c))):F3 P (.AN true [x,y,z]) env h (.v (.int k (max (max a b) c))) h:=λK hk=>
 (Sb (l:=[.v (.int k a),.v (.int k' b),.v (.int k'' c)]) (v:=.int k (max (max a b) c)) (by simp[evs,hx,hy,hz]) (by simp only[CA,if_true];congr 2;(repeat' split)<;>omega) hk).out
theorem b3b{P:Program}{h:A3}{env:Env}{x y z:B9}{k k' k'':IntKind}{a b c:Int}(hx:x.ev env=some (.v (.int k a)))(hy:y.ev env=some (.v (.int k' b)))(hz:z.ev env=some (.v (.int k'' c))):F3 P (.AN false [x,y,z]) env h (.v (.int k (min (min a b) c))) h:=λK hk=>
 (Sb (l:=[.v (.int k a),.v (.int k' b),.v (.int k'' c)]) (v:=.int k (min (min a b) c)) (by simp[evs,hx,hy,hz]) (by simp only[CA,Bool.false_eq_true,if_false];congr 2;(repeat' split)<;>omega) hk).out
theorem AA{a:AV}{r:b5l AV}(h1:plain a)(h2:C3 r):C3 (a::r):=by simp only[C3,h1,h2];rfl
theorem Ef{l:b5l AV}(h:C3 l):plain (.tuple l):=h
theorem gw{h:A3}{e env:Env}{N:Nat}(he:P9 e env){σ:Sg}{a:Act}(hs:St σ h env N a):St σ h e N a:=⟨hs.inv,λt av hg=>hs.env t av (he t av hg),hs.size,hs.defers⟩
theorem Wg{P:Program}{N kb kf:Nat}{x:F7}{Q:Exit->Env->A3->Prop}:Cz λe h=>D P N kb kf x Q e h:=λe env h he hx=>Sq λσ a hs=>⟨σ,h,e,rfl,Le.refl σ,gw he hs,hx⟩
theorem Sf{P:Program}{N kb kf:Nat}{x:F7}{Q:Exit->Env->A3->Prop}:Cz λe h=>DL P N kb kf x Q e h:=λe env h he hx=>gF λσ a hs=>⟨σ,h,e,rfl,Le.refl σ,gw he hs,hx⟩
theorem LU{e env:Env}(he:P9 e env){h:A3}:∀{rs:b5l M5}{K:b5l AV->Prop},Z2 e h rs K->Z2 env h rs K
 |[],_,hk=>hk
 |.tmp t::r,K,hk=>he.wv (x:=.t t) hk λa ha=>LU he ha
 |.cell t n::r,K,hk=>by
  obtain⟨p,h1,h2⟩:=Fe hk;show wv (get env t) _;rw[he t p h1];simp only[wv,Cy]at h2 ⊢;split at h2
  ·split at h2
   ·split at h2
    ·exact LU he h2
    ·exact h2.elim
   ·exact⟨h2.1,LU he h2.2⟩
  ·exact h2.elim
theorem cg{rs:b5l M5}{r:AV}:Cz λe h=>Lz rs r .normal e h:=λe env h he hx=>LU he hx
end Go.Proofs.YtlcmiciojnnlnaaGreatDoor.Lift
