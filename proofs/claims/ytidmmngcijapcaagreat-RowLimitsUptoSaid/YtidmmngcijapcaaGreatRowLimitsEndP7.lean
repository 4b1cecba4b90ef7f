/- Part 8 of the texts that prove RowLimitsEnd. -/
import Derived.Test.YtidmmngcijapcaaGreatRowLimitsEndP6
import Derived.Test.YtidmmngcijapcaaGreatRowLimitsEndP3
import Derived.Test.YtidmmngcijapcaaGreatRowLimitsEndP4
import Derived.Test.YtidmmngcijapcaaGreatRowLimitsEndP5
import Derived.Test.YtidmmngcijapcaaGreatRows
namespace Go.Proofs.YtidmmngcijapcaaGreat.Lift
open Go.RowKit
set_option linter.unusedVariables false
set_option linter.unusedSimpArgs false
set_option linter.unnecessarySimpa false
set_option linter.unusedSectionVars false
set_option maxRecDepth 100000
abbrev Rs(α:Type):=Except Int (α × A3)
def E2{α β:Type}(a:Rs α)(f:α->A3->Rs β):Rs β:=
 match a with
 |.error e=>.error e
 |.ok x=>f x.1 x.2
def adv(c:A3)(k n:Int):A3:=⟨c.Data,c.At+k,c.End,c.Depth,c.Nodes - n,c.Text⟩
structure Snd(c:A3):Prop where
 sz:c.Data.size<=140737488351232
 a0:0<=c.At
 a1:c.At<=c.End
 a2:c.End<=(c.Data.size:Int)
 d0:0<=c.Depth
 d1:c.Depth<=4611686018427387904
 n0:0<=c.Nodes
 n1:c.Nodes<=4611686018427387904
theorem Snd.okc{c:A3}(h:Snd c):OkC c:=⟨h.sz,by have:=h.a0;omega,by have:=h.a1;have:=h.a2;have:=h.sz;omega⟩
theorem Snd.left{c:A3}(h:Snd c):a1m c.Data c.At c.End=c.End - c.At:=by
 have:b3o c.Data c.At c.End=true:=by
  have:=h.a0;have:=h.a1;have:=h.a2;simp[b3o];omega
 rw[a1m,if_pos this]
theorem Snd.rest{c:A3}(h:Snd c):O5 c=c.Data.extract c.At.toNat c.End.toNat:=by
 have:=h.a0;have:=h.a1;rw[O5,h.left]
 congr 1
 omega
theorem Snd.size{c:A3}(h:Snd c):((O5 c).size:Int)=c.End - c.At:=by rw[b0i,h.left]
theorem Snd.adv{c:A3}(h:Snd c){k n:Int}(hk:0<=k/\k<=c.End - c.At)(hn:0<=n/\n<=c.Nodes):Snd (adv c k n):=by
 have a0:=h.a0;have a1:=h.a1;have a2:=h.a2;have n0:=h.n0;have n1:=h.n1;refine⟨h.sz,?_,?_,a2,h.d0,h.d1,?_,?_⟩<;>simp only[Lift.adv]<;>omega
theorem e3p(a:ByteArray):(⟨#[]⟩:ByteArray)++a=a:=ByteArray.empty_append
theorem e2f(l:List UInt8):(⟨l.toArray⟩:ByteArray).data.toList=l:=by simp
theorem d8v{a b:ByteArray}(h:a.data.toList=b.data.toList):a=b:=ByteArray.ext (Array.ext' h)
theorem c1q(a b:ByteArray):(a++b).data.toList=a.data.toList++b.data.toList:=by simp[ByteArray.data_append]
theorem f57{a b c d:ByteArray}(h:a++b=c++d):(∃s,c=a++s/\b=s++d)\/∃s,a=c++s/\d=s++b:=by
 have e:=congrArg (fun x:ByteArray=>x.data.toList) h;simp only[c1q]at e;rcases List.append_eq_append_iff.1 e with⟨l,h1,h2⟩|⟨l,h1,h2⟩
 ·exact .inl ⟨⟨l.toArray⟩,d8v (by rw[c1q,e2f];exact h1),d8v (by rw[c1q,e2f];exact h2)⟩
 ·exact .inr ⟨⟨l.toArray⟩,d8v (by rw[c1q,e2f];exact h1),d8v (by rw[c1q,e2f];exact h2)⟩
theorem c4i{a b c:ByteArray}(h:a++b=a++c):b=c:=by
 have e:=congrArg (fun x:ByteArray=>x.data.toList) h;simp only[c1q]at e;exact d8v (List.append_cancel_left e)
theorem e01{c:A3}(h:Snd c){b t:ByteArray}(hr:O5 c=b++t){n:Int}(hn:0<=n/\n<=c.Nodes):Snd (adv c b.size n)/\O5 (adv c b.size n)=t:=by
 have hs:=h.size;rw[hr,L6]at hs;have a0:=h.a0;have a1:=h.a1;have a2:=h.a2;have h2:=h.adv (k:=b.size) (n:=n) ⟨by omega,by omega⟩ hn;refine⟨h2,?_⟩
 have e1:b++O5 (adv c b.size n)=O5 c:=by
  rw[h.rest,h2.rest];refine e7s ?_ fun i hi=>?_
  ·rw[L6,a2l _ (by simp only[adv];omega),a2l _ (by omega)];simp only[adv];omega
  ·rw[L6,a2l _ (by simp only[adv];omega)]at hi;simp only[adv]at hi ⊢;rw[a1t _ (by omega)];rcases Nat.lt_or_ge i b.size with q|q
   ·rw[a8z _ _ q];have e:=congrArg (fun s=>J1 s i) hr;simp only[h.rest]at e;rw[a1t _ (by omega),a8z _ _ q]at e;exact e.symm
   ·have e:J1 (b++c.Data.extract (c.At+↑b.size).toNat c.End.toNat) i=J1 (c.Data.extract (c.At+↑b.size).toNat c.End.toNat) (i - b.size):=by
     unfold J1 F2;have hl:b.data.toList.length=b.size:=Array.length_toList;rw[c1q,List.getD_eq_getElem?_getD,List.getElem?_append_right (by omega),hl,<-List.getD_eq_getElem?_getD]
    rw[e,a1t _ (by omega)]
    congr 1
    omega
 rw[hr]at e1;exact c4i e1
def Ahd(c:A3)(b:ByteArray):Prop:=(∃t,O5 c=b++t)\/∃t,b=O5 c++t
theorem Ahd.left{c:A3}{a b:ByteArray}(h:Ahd c (a++b)):Ahd c a:=by
 rcases h with⟨t,h⟩|⟨t,h⟩
 ·exact .inl ⟨b++t,by rw[h,b11]⟩
 ·rcases f57 h with⟨s,h1,_⟩|⟨s,h1,_⟩
  ·exact .inl ⟨s,h1⟩
  ·exact .inr ⟨s,h1⟩
theorem Ahd.right{c c':A3}{a b t:ByteArray}(h:Ahd c (a++b))(h1:O5 c=a++t)(h2:O5 c'=t):Ahd c' b:=by
 rcases h with⟨u,h⟩|⟨u,h⟩
 ·rw[h1,b11]at h;exact .inl ⟨u,by rw[h2];exact c4i h⟩
 ·rw[h1,b11]at h;exact .inr ⟨u,by rw[h2];exact c4i h⟩
structure Q9 where
 d:Nat
 n:Nat
 l:Nat
def Q9.add(a b:Q9):Q9:=⟨max a.d b.d,a.n+b.n,max a.l b.l⟩
def Q9.none:Q9:=⟨0,0,0⟩
theorem Q9.add_none(a:Q9):a.add .none=a:=by cases a;simp[Q9.add,Q9.none]
theorem Q9.none_add(a:Q9):Q9.none.add a=a:=by cases a;simp[Q9.add,Q9.none]
theorem Q9.add_assoc(a b c:Q9):(a.add b).add c=a.add (b.add c):=by
 simp only[Q9.add,Q9.mk.injEq];omega
def Whl(c:A3)(b:ByteArray):Prop:=∃t,O5 c=b++t
def Got{α:Type}(c:A3)(b:ByteArray)(k:Q9)(x:α)(r:Rs α):Prop:=
 match r with
 |.ok y=>y=(x,adv c b.size k.n)/\Whl c b/\(k.d:Int)<=c.Depth/\(k.n:Int)<=c.Nodes/\(k.l:Int)<=c.Text
 |.error e=>(e=4/\¬Whl c b)\/(e=17/\c.Depth<k.d)\/(e=3/\(c.Nodes<k.n\/c.Text<k.l))
def Rds{α:Type}(m:Nat)(b:ByteArray)(k:Q9)(x:α)(f:A3->Rs α):Prop:=∀c,Snd c->0<=c.Text->c.Depth<=m->Ahd c b->Got c b k x (f c)
theorem f0u(c:A3)(a b n k:Int):adv (adv c a n) b k=adv c (a+b) (n+k):=by
 simp only[adv,A3.mk.injEq,true_and,and_true];omega
section
variable {α β:Type}{m:Nat}
theorem Rds.bind{b b':ByteArray}{k k':Q9}{x:α}{y:β}{f:A3->Rs α}{g:α->A3->Rs β}(h:Rds m b k x f)(h2:Rds m b' k' y (g x)):Rds m (b++b') (k.add k') y (fun c=>E2 (f c) g):=by
 intro c hc ht hm hp;have h1:=h c hc ht hm hp.left;have cut:¬Whl c b->¬Whl c (b++b'):=fun q ⟨t,e⟩=>q ⟨b'++t,by rw[e,b11]⟩
 show Got c _ _ _ (E2 (f c) g);cases hf:f c with
 |error e=>
  rw[hf]at h1;simp only[Got,E2,Q9.add]at h1 ⊢;rcases h1 with⟨e1,q⟩|⟨e1,q⟩|⟨e1,q⟩
  ·exact .inl ⟨e1,cut q⟩
  ·exact .inr (.inl ⟨e1,by omega⟩)
  ·exact .inr (.inr ⟨e1,by omega⟩)
 |ok z=>
  rw[hf]at h1;obtain⟨rfl,⟨t,ha⟩,q1,q2,q3⟩:=h1;obtain⟨s1,s2⟩:=e01 hc ha (n:=k.n) ⟨by omega,q2⟩;have hp2:=hp.right ha s2;have h3:=h2 _ s1 ht hm hp2;simp only[E2];cases hg:g x (adv c b.size k.n) with
  |error e=>
   rw[hg]at h3;simp only[Got,Q9.add,adv]at h3 ⊢;rcases h3 with⟨e1,q⟩|⟨e1,q⟩|⟨e1,q⟩
   ·refine .inl ⟨e1,fun⟨u,hu⟩=>q ⟨u,?_⟩⟩;rw[ha,b11]at hu;have:=c4i hu;rw[<-this];exact s2
   ·exact .inr (.inl ⟨e1,by omega⟩)
   ·exact .inr (.inr ⟨e1,by omega⟩)
  |ok z=>
   rw[hg]at h3;obtain⟨rfl,⟨u,hu⟩,p1,p2,p3⟩:=h3;simp only[adv]at p1 p2 p3;simp only[Got,Q9.add];refine⟨?_,⟨u,?_⟩,by omega,by omega,by omega⟩
   ·rw[f0u,L6];simp
   ·rw[ha,b11,<-hu,s2]
theorem Rds.pure(x:α):Rds m ⟨#[]⟩ .none x (fun c=>.ok (x,c)):=by
 intro c hc ht hm hp;have:=hc.n0;have:=hc.d0;refine⟨?_,⟨O5 c,(e3p _).symm⟩,by simp[Q9.none];omega,by simp[Q9.none];omega,by simp[Q9.none];omega⟩;have:((⟨#[]⟩:ByteArray).size:Int)=0:=rfl;simp[adv,Q9.none,this]
theorem Rds.of{b b':ByteArray}{k k':Q9}{x:α}{f:A3->Rs α}(h:Rds m b k x f)(hb:b=b')(hk:k=k'):Rds m b' k' x f:=by subst hb hk;exact h
theorem Rds.map{b:ByteArray}{k:Q9}{x:α}{y:β}{f:A3->Rs α}(h:Rds m b k x f)(g:α->β)(e:g x=y):Rds m b k y (fun c=>E2 (f c) fun x c=>.ok (g x,c)):=by
 subst e;exact(Rds.bind h (Rds.pure (g x))).of (b5s b) (Q9.add_none k)
end
abbrev RdM:=Int->A3->Rs A0
def spR(c:A3):Rs Unit:=if c.Nodes<1 then .error 3 else .ok ((),adv c 0 1)
def toR{α:Type}(r:α × A3 × Int):Rs α:=if r.2.2≠0 then .error r.2.2 else .ok (r.1,r.2.1)
def scR(p:A6)(k t:Int)(c:A3):Rs A0:=toR (b51 p k t c)
def elR(M:RdM)(p:A6)(k t:Int)(c:A3):Rs A0:=if k=10 then M t c else E2 (spR c) fun _ c=>scR p k t c
def cnR(c:A3):Rs Int:=E2 (toR (U4 c)) fun u c=>if 4096<u then .error 3 else if 0<u then E2 (spR c) fun _ c=>.ok (u,c) else .ok (u,c)
def lsR(M:RdM)(p:A6)(k t:Int):Nat->A3->Rs (List A0)
 |0,c=>.ok ([],c)
 |n+1,c=>E2 (elR M p k t c) fun x c=>E2 (lsR M p k t n c) fun l c=>.ok (x::l,c)
noncomputable def upB(a:Option A0)(k:A0):Bool:=match a with
 |none=>true
 |some b=>decide (Z4 (SizeOf.sizeOf b) b k<0)
abbrev upK(a:Option A0)(k:A0):Prop:=upB a k=true
noncomputable def prR(M:RdM)(p:A6)(key k t:Int):Nat->Option A0->A3->Rs (List (A0 × A0))
 |0,_,c=>.ok ([],c)
 |n+1,a,c=>E2 (elR M p key (-1) c) fun x c=>if upK a x then E2 (elR M p k t c) fun y c=>E2 (prR M p key k t n (some x) c) fun l c=>.ok ((x,y)::l,c) else .error 5
def c76(g:B9)(sl:List (Int × A0))(o:GOp):Bool:=sl.any fun s=>(opV g s.1).2&&(decide (0<=o.Union)&&decide ((opV g s.1).1.Union=o.Union))
def myR(M:RdM)(p:A6)(g:B9)(sl:List (Int × A0))(o:GOp)(c:A3):Rs (A0 × Bool):=
 E2 (toR (a3z c)) fun b c=>if 1<b then .error 5 else if b=0 then .ok ((V0,false),c) else if c76 g sl o=true then .error 15
  else E2 (elR M p o.Kind o.Target c) fun x c=>if o.Card=3/\b85 x=true then .error 5 else .ok ((x,true),c)
noncomputable def fdR(M:RdM)(p:A6)(g:B9)(sl:List (Int × A0))(o:GOp)(c:A3):Rs (A0 × Bool):=
 if o.Card=1 then E2 (elR M p o.Kind o.Target c) fun x c=>.ok ((x,true),c)
 else if o.Card=4 then E2 (cnR c) fun n c=>E2 (lsR M p o.Kind o.Target n.toNat c) fun l c=>.ok ((⟨11,0,⟨#[]⟩,l,[],[],[]⟩, !l.isEmpty),c)
 else if o.Card=5 then E2 (cnR c) fun n c=>E2 (prR M p o.Key o.Kind o.Target n.toNat none c) fun l c=>.ok ((⟨12,0,⟨#[]⟩,[],l,[],[]⟩, !l.isEmpty),c)
 else myR M p g sl o c
noncomputable def c9l(M:RdM)(p:A6)(g:B9):List GOp->List (Int × A0)->A3->Rs (List (Int × A0))
 |[],sl,c=>.ok (sl,c)
 |o::ops,sl,c=>E2 (fdR M p g sl o c) fun x c=>c9l M p g ops (if x.2=true then sl++[(o.Num,x.1)] else sl) c
def a9e(c:A3)(n:Int):A3:=⟨c.Data,c.At,c.End,c.Depth - n,c.Nodes,c.Text⟩
noncomputable def msR(p:A6):Nat->RdM
 |0,_,_=>.error 17
 |n+1,t,c=>if c.Depth<1 then .error 17 else E2 (spR c) fun _ c=>match p.Progs[t.toNat]? with
  |none=>.error 17
  |some g=>E2 (c9l (msR p n) p g g.Ops [] (a9e c 1)) fun sl c=>.ok (⟨10,0,⟨#[]⟩,[],[],sl,[]⟩,a9e c (-1))
theorem Rds.spend{m:Nat}:Rds m ⟨#[]⟩ ⟨0,1,0⟩ () spR:=by
 intro c hc ht hm hp;have:=hc.n0;have:=hc.d0;unfold spR;split
 ·exact .inr (.inr ⟨rfl,by simp;omega⟩)
 ·refine⟨?_,⟨O5 c,(e3p _).symm⟩,by simp;omega,by simp;omega,by simp;omega⟩;have:((⟨#[]⟩:ByteArray).size:Int)=0:=rfl;simp[adv,this]
theorem b5o(c:A3)(n:Int):a3c c n=adv c n 0:=by simp[a3c,adv]
theorem e6f(s:ByteArray)(u:Nat):∀i acc:Nat,i<=9->u*128 ^ i<18446744073709551616->i<=s.size->s.size<i+(b45 u).length->(∀j x,i+j<s.size->(b45 u)[j]? =some x->((J1 s (i+j):Nat):Int)=x)->X6 s i acc=(0,0,4):=by
 induction u using Nat.strongRecOn with
 |_ u ih=>
  intro i acc hi hb hl hl2 hx;rw[X6.eq_def,if_neg (by omega)];rcases Nat.lt_or_ge i s.size with hlt|hge
  ·rw[if_neg (by omega)]
   by_cases h:u<128
   ·have hu:b45 u=[(u:Int)]:=by rw[b45,if_pos h]
    rw[hu]at hl2;simp at hl2;omega
   ·have hu:b45 u=((u % 128+128:Nat):Int)::b45 (u / 128):=by rw[b45,if_neg h]
    have h0:J1 s i=u % 128+128:=by
     have:=hx 0 _ (by omega) (by rw[hu];rfl);rw[Nat.add_zero]at this;omega
    have h9:i<=8:=by
     rcases Nat.lt_or_ge i 9 with h9|h9
     ·omega
     ·obtain rfl:i=9:=by omega
      have:(128:Nat) ^ 9=9223372036854775808:=by decide
      rw[this]at hb;omega
    have e2:u*128 ^ i=u % 128*128 ^ i+u / 128*128 ^ (i+1):=by
     rw[Nat.pow_succ,Nat.mul_comm (128 ^ i) 128,<-Nat.mul_assoc,<-Nat.add_mul]
     congr 1
     omega
    rw[h0,if_neg (by omega),if_neg (by omega)];rw[hu]at hl2
    exact ih (u / 128) (by omega) (i+1) _ (by omega) (by omega) (by omega) (by simp at hl2;omega) (fun j x hj hjx=>by
     have:=hx (j+1) x (by omega) (by rw[hu];simpa using hjx);rw[show i+1+j=i+(j+1) by omega];exact this)
  ·rw[if_pos hge]
theorem f3y(u:Nat)(hu:u<18446744073709551616)(s t:ByteArray)(h:b34 u=s++t)(ht:t.size≠0):X6 s 0 0=(0,0,4):=by
 have hz:(b34 u).size=(b45 u).length:=b7q _;have hz2:s.size+t.size=(b45 u).length:=by rw[<-hz,h,L6]
 refine e6f s u 0 0 (by omega) (by simpa using hu) (by omega) (by omega) (fun j x hj hjx=>?_);rw[Nat.zero_add];have:=c4m (d3o u) hjx
 have e:J1 (ofI (b45 u)) j=J1 s j:=by
  have:ofI (b45 u)=s++t:=h;rw[this,a8z _ _ (by omega)]
 rw[<-e];exact this
theorem d45{c:A3}{b t:ByteArray}(h:b=O5 c++t)(ht:t.size≠0):¬Whl c b:=fun⟨u,hu⟩=>by
 have:=congrArg ByteArray.size hu;rw[L6]at this;have e:=congrArg ByteArray.size h;rw[L6]at e;omega
theorem Ahd.two{c:A3}{b:ByteArray}(h:Ahd c b):Whl c b\/∃t,b=O5 c++t/\t.size≠0:=by
 rcases h with h|⟨t,h⟩
 ·exact .inl h
 ·by_cases e:t.size=0
  ·have:t=⟨#[]⟩:=g42 e;subst this;exact .inl ⟨⟨#[]⟩,by rw[h,b5s,b5s]⟩
  ·exact .inr ⟨t,h,e⟩
theorem Rds.num{m:Nat}(u:Nat)(hu:u<18446744073709551616):Rds m (b34 u) .none (u:Int) (fun c=>toR (U4 c)):=by
 intro c hc ht hm hp;have:=hc.n0;have:=hc.d0;show Got c _ _ _ (toR _);rcases hp.two with⟨t,h⟩|⟨t,h,h0⟩
 ·rw[f89 c u hu t h];refine⟨?_,⟨t,h⟩,by simp[Q9.none];omega,by simp[Q9.none];omega,by simp[Q9.none];omega⟩;simp[b5o,Q9.none]
 ·have e:=f3y u hu _ t h h0
  have e2:U4 c=(0,c,4):=by
   unfold U4;rw[e];simp
  rw[e2];exact .inl ⟨rfl,d45 h h0⟩
theorem Rds.byte{m:Nat}(b:Int)(hb:0<=b/\b<256):Rds m (ofI [b]) .none b (fun c=>toR (a3z c)):=by
 intro c hc ht hm hp;have:=hc.n0;have:=hc.d0;show Got c _ _ _ (toR _);have hz:(ofI [b]).size=1:=b7q _;have hs:=hc.size;rcases hp.two with⟨t,h⟩|⟨t,h,h0⟩
 ·have e:a3z c=(b,a3c c 1,0):=by
   have h1:(J1 (O5 c) 0:Int)=b:=by
    rw[h,a8z _ _ (by omega)];exact c4m (a18 hb) rfl
   have h2:=congrArg ByteArray.size h;rw[L6]at h2;rw[hc.rest,a1t _ (by have:=hc.a0;omega),Nat.add_zero]at h1;rw[a3z,hc.left,if_pos (by omega),(b4h _ _).1,h1]
  rw[e];refine⟨?_,⟨t,h⟩,by simp[Q9.none];omega,by simp[Q9.none];omega,by simp[Q9.none];omega⟩;simp[b5o,Q9.none,hz]
 ·have h2:=congrArg ByteArray.size h;rw[L6,hz]at h2;have e:a3z c=(0,c,4):=by rw[a3z,hc.left,if_neg (by omega)]
  rw[e];exact .inl ⟨rfl,d45 h h0⟩
theorem Rds.fix{m:Nat}(u:Nat)(hu:u<18446744073709551616):Rds m (e1c u) .none (u:Int) (fun c=>toR (c7b c)):=by
 intro c hc ht hm hp;have:=hc.n0;have:=hc.d0;show Got c _ _ _ (toR _);have hz:=d39 u;rcases hp.two with⟨t,h⟩|⟨t,h,h0⟩
 ·rw[f8s c u hu t h];refine⟨?_,⟨t,h⟩,by simp[Q9.none];omega,by simp[Q9.none];omega,by simp[Q9.none];omega⟩;simp[b5o,Q9.none,hz]
 ·have h2:=congrArg ByteArray.size h;rw[L6,hz]at h2;have e:c7b c=(0,c,4):=by rw[c7b,if_neg (by omega)]
  rw[e];exact .inl ⟨rfl,d45 h h0⟩
theorem Rds.txt{m:Nat}(s:ByteArray):Rds m s ⟨0,0,s.size⟩ s (fun c=>toR (a8f c s.size)):=by
 intro c hc ht hm hp;have:=hc.n0;have:=hc.d0;show Got c _ _ _ (toR _);have hs:=hc.size;rcases hp.two with⟨t,h⟩|⟨t,h,h0⟩
 ·have h2:=congrArg ByteArray.size h;rw[L6]at h2
  by_cases hl:c.Text<s.size
  ·have e:a8f c s.size=(⟨#[]⟩,c,3):=by rw[a8f,if_neg (by omega),hc.left,if_neg (by omega),if_pos hl]
   rw[e];exact .inr (.inr ⟨rfl,.inr hl⟩)
  ·have e:a8f c s.size=(s,a3c c s.size,0):=by
    rw[a8f,if_neg (by omega),hc.left,if_neg (by omega),if_neg hl];refine Prod.ext (show c.Data.extract c.At.toNat (c.At.toNat+((s.size:Nat):Int).toNat)=s from ?_) rfl;have a0:=hc.a0;have a1:=hc.a1;have a2:=hc.a2;refine e7s ?_ fun i hi=>?_
    ·rw[a2l _ (by omega)];omega
    ·rw[a2l _ (by omega)]at hi;rw[a1t _ (by omega)];have e:=congrArg (fun s=>J1 s i) h;simp only[hc.rest]at e;rw[a1t _ (by omega),a8z _ _ (by omega)]at e;exact e
   rw[e];refine⟨?_,⟨t,h⟩,by simp;omega,by simp;omega,by simp;omega⟩;simp[b5o]
 ·have h2:=congrArg ByteArray.size h;rw[L6]at h2;have e:a8f c s.size=(⟨#[]⟩,c,4):=by rw[a8f,if_neg (by omega),hc.left,if_pos (by omega)]
  rw[e];exact .inl ⟨rfl,d45 h h0⟩
structure ScO(p:A6)(k t:Int)(y:A0):Prop where
 fit:a64 k y=true
 kind:y.Kind=k
 nrm:a0g y=y
 acc:k=9->d89 p t y.Bits=true
 b:0<=y.Bits/\y.Bits<18446744073709551616
 lone:y.List_=[]/\y.Pairs=[]/\y.Slots=[]/\y.Raws=[]
theorem b15{α β:Type}(a:α × A3 × Int)(f:α->A3->Rs β):E2 (toR a) f=if a.2.2≠0 then .error a.2.2 else f a.1 a.2.1:=by
 unfold toR E2
 by_cases h:a.2.2=0<;>simp[h]
theorem g0k(p:A6)(t:Int)(c:A3):scR p 1 t c=E2 (toR (a3z c)) fun b c=>if 1<b then .error 5 else .ok (d4b 1 b,c):=by
 rw[b15,scR,b51,if_pos rfl]
 by_cases h:(a3z c).2.2≠0
 ·rw[if_pos h,if_pos h,toR,if_pos h]
 ·rw[if_neg h,if_neg h]
  by_cases h2:1<(a3z c).1
  ·rw[if_pos h2,if_pos h2];rfl
  ·rw[if_neg h2,if_neg h2];rfl
theorem g0u(p:A6)(t:Int)(c:A3):scR p 6 t c=E2 (toR (c7b c)) fun u c=>if(a0g ⟨6,u,⟨#[]⟩,[],[],[],[]⟩).Bits≠u then .error 5 else .ok (⟨6,u,⟨#[]⟩,[],[],[],[]⟩,c):=by
 rw[b15,scR,b51,if_neg (by decide),if_pos rfl,e4q]
 by_cases h:(c7b c).2.2≠0
 ·rw[if_pos h,if_pos h,toR,if_pos h]
 ·rw[if_neg h,if_neg h]
  by_cases h2:(a0g ⟨6,(c7b c).1,⟨#[]⟩,[],[],[],[]⟩).Bits≠(c7b c).1
  ·rw[if_pos h2,if_pos h2];rfl
  ·rw[if_neg h2,if_neg h2];rfl
def txR(u:Int)(c:A3):Rs ByteArray:=if a1m c.Data c.At c.End<u then .error 4 else toR (a8f c u)
theorem f9i(p:A6)(k t:Int)(hk:k=7\/k=8)(c:A3):scR p k t c=E2 (toR (U4 c)) fun u c=>E2 (txR u c) fun s c=>if k=7/\b1c s=false then .error 7 else .ok (⟨k,0,s,[],[],[],[]⟩,c):=by
 rw[b15,scR,b51,if_neg (by omega),if_neg (by omega),if_pos hk,d9z]
 by_cases h:(U4 c).2.2≠0
 ·rw[if_pos h,if_pos h,toR,if_pos h]
 ·rw[if_neg h,if_neg h,txR]
  by_cases h2:a1m (U4 c).2.1.Data (U4 c).2.1.At (U4 c).2.1.End<(U4 c).1
  ·rw[if_pos h2,if_pos h2];rfl
  ·rw[if_neg h2,if_neg h2,b15]
   by_cases h3:(a8f (U4 c).2.1 (U4 c).1).2.2≠0
   ·rw[if_pos h3,if_pos h3,toR,if_pos h3]
   ·rw[if_neg h3,if_neg h3]
    by_cases h4:k=7/\b1c (a8f (U4 c).2.1 (U4 c).1).1=false
    ·rw[if_pos h4,if_pos h4];rfl
    ·rw[if_neg h4,if_neg h4];rfl
theorem f82(p:A6)(k t:Int)(hk:k=2\/k=3\/k=4\/k=5\/k=9)(c:A3):scR p k t c=E2 (toR (U4 c)) fun u c=>if a64 k (d4b k (d52 k u))=false then .error 6 else if k=9/\d89 p t u=false then .error 16 else .ok (d4b k (d52 k u),c):=by
 rw[b15,scR,b51,if_neg (by omega),if_neg (by omega),if_neg (by omega),if_pos hk]
 by_cases h:(U4 c).2.2≠0
 ·rw[if_pos h,if_pos h,toR,if_pos h]
 ·rw[if_neg h,if_neg h]
  by_cases h2:a64 k (d4b k (d52 k (U4 c).1))=false
  ·rw[if_pos h2,if_pos h2];rfl
  ·rw[if_neg h2,if_neg h2]
   by_cases h3:k=9/\d89 p t (U4 c).1=false
   ·rw[if_pos h3,if_pos h3];rfl
   ·rw[if_neg h3,if_neg h3];rfl
theorem Rds.tx{m:Nat}(s:ByteArray):Rds m s ⟨0,0,s.size⟩ s (txR s.size):=by
 intro c hc ht hm hp;unfold txR;split
 ·rename_i h;rw[hc.left]at h;refine .inl ⟨rfl,fun⟨t,e⟩=>?_⟩;have h2:=congrArg ByteArray.size e;rw[L6]at h2;have:=hc.size;omega
 ·exact Rds.txt s c hc ht hm hp
section
variable {α β:Type}{m:Nat}
theorem Rds.fin{b:ByteArray}{k:Q9}{x:α}{y:β}{f:A3->Rs α}(h:Rds m b k x f)(g:α->A3->Rs β)(e:∀c,g x c=.ok (y,c)):Rds m b k y (fun c=>E2 (f c) g):=by
 have e2:g x=fun c=>.ok (y,c):=funext e
 have h2:=Rds.bind (m:=m) (b':=⟨#[]⟩) (k':=.none) (y:=y) (g:=g) h (by rw[e2];exact Rds.pure y);exact h2.of (b5s b) (Q9.add_none k)
end
theorem Rds.scal{m:Nat}{p:A6}{k t:Int}{y:A0}(h:ScO p k t y):Rds m (c7r y) ⟨0,0,y.Text.size⟩ y (scR p k t):=by
 obtain⟨f,hk,hn,ha,hb,l1,l2,l3,l4⟩:=h;obtain⟨K,B,T,L,P,S,R⟩:=y;simp only at hk hb ha l1 l2 l3 l4 ⊢;subst hk l1 l2 l3 l4;have f':a64 K ⟨K,B,T,[],[],[],[]⟩=true:=f;obtain⟨k1,k2,k3,k4⟩:=b5y ⟨K,B,T,[],[],[],[]⟩ f';simp only at k1 k2 k3 k4
 have tx:¬(K=7\/K=8)->T=⟨#[]⟩:=fun hk=>by
  unfold a64 at f';rw[if_neg hk]at f';simp only[Bool.and_eq_true,decide_eq_true_eq]at f';exact f'.2.1
 have key:∀u:Nat,u<18446744073709551616->¬(K=7\/K=8)->c7r ⟨K,B,T,[],[],[],[]⟩=b34 u->(K=2\/K=3\/K=4\/K=5\/K=9)->d52 K u=B->(K=9->(u:Int)=B)->Rds m (c7r ⟨K,B,T,[],[],[],[]⟩) ⟨0,0,T.size⟩ ⟨K,B,T,[],[],[],[]⟩ (scR p K t):=by
  intro u hu hk hp hk2 hv hv9;have et:=tx hk;subst et;rw[hp];have e:scR p K t=fun c=>E2 (toR (U4 c)) fun u c=>if a64 K (d4b K (d52 K u))=false then .error 6 else if K=9/\d89 p t u=false then .error 16 else .ok (d4b K (d52 K u),c):=funext (f82 p K t hk2)
  rw[e];refine(Rds.fin (Rds.num u hu) _ fun c=>?_).of rfl rfl;have f2:a64 K (d4b K B)=true:=f';rw[hv,if_neg (by rw[f2];simp),if_neg]
  ·rfl
  ·rintro⟨q1,q2⟩;rw[hv9 q1,ha q1]at q2;cases q2
 by_cases e1:K=1
 ·subst e1
  have hw:B<=1:=by
   have:=k4 (by decide);rw[a3o,if_pos rfl]at this;simpa using this
  have et:=tx (by decide);subst et
  have hp:c7r ⟨1,B,⟨#[]⟩,[],[],[],[]⟩=ofI [B]:=by
   unfold c7r;rw[if_pos f',if_pos rfl];simp only[show B % 256=B by omega]
  rw[hp];have e:scR p 1 t=fun c=>E2 (toR (a3z c)) fun b c=>if 1<b then .error 5 else .ok (d4b 1 b,c):=funext (g0k p t)
  rw[e];refine(Rds.fin (Rds.byte B (by omega)) _ fun c=>?_).of rfl rfl;rw[if_neg (by omega)];rfl
 by_cases e23:K=2\/K=3
 ·have hw:=d42 B;refine key (f2y (wI B)) (d81 hw) (by omega) (by unfold c7r;rw[if_pos f',if_neg e1,if_pos e23]) (by omega) ?_ (by omega);unfold d52;rw[if_pos e23,Int.toNat_natCast,f8v,g87 hb]
 by_cases e6:K=6
 ·subst e6;have et:=tx (by decide);subst et
  have hp:c7r ⟨6,B,⟨#[]⟩,[],[],[],[]⟩=e1c B.toNat:=by
   unfold c7r;rw[if_pos f',if_neg e1,if_neg e23,if_pos rfl,hn]
  rw[hp];have e:scR p 6 t=fun c=>E2 (toR (c7b c)) fun u c=>if(a0g ⟨6,u,⟨#[]⟩,[],[],[],[]⟩).Bits≠u then .error 5 else .ok (⟨6,u,⟨#[]⟩,[],[],[],[]⟩,c):=funext (g0u p t)
  rw[e];have eb:((B.toNat:Nat):Int)=B:=by omega
  refine(Rds.fin (Rds.fix B.toNat (by omega)) _ fun c=>?_).of rfl rfl;rw[eb,hn,if_neg (by simp)]
 by_cases e78:K=7\/K=8
 ·obtain⟨k5,k6,k7⟩:=k3 e78;subst k5;have hp:c7r ⟨K,0,T,[],[],[],[]⟩=b34 T.size++T:=by unfold c7r;rw[if_pos f',if_neg e1,if_neg e23,if_neg e6,if_pos e78]
  rw[hp];have e:scR p K t=fun c=>E2 (toR (U4 c)) fun u c=>E2 (txR u c) fun s c=>if K=7/\b1c s=false then .error 7 else .ok (⟨K,0,s,[],[],[],[]⟩,c):=funext (f9i p K t e78)
  rw[e];refine(Rds.bind (Rds.num T.size (by omega)) (Rds.fin (Rds.tx T) _ fun c=>?_)).of rfl (Q9.none_add _);rw[if_neg];rintro⟨q1,q2⟩;rw[k7 q1]at q2;cases q2
 ·refine key B.toNat (by omega) e78 (by unfold c7r;rw[if_pos f',if_neg e1,if_neg e23,if_neg e6,if_neg e78]) (by omega) ?_ (by omega);unfold d52;rw[if_neg e23];omega
def a4m{α:Type}(f:α->Q9):List α->Q9
 |[]=>.none
 |x::l=>(f x).add (a4m f l)
def d2d(v:A0)(k:Q9):Q9:=⟨if v.Kind=10 then k.d+1 else k.d,k.n+1+v.Raws.length,max v.Text.size k.l⟩
def d5q:Nat->A0->Q9
 |0,_=>.none
 |n+1,v=>d2d v ((a4m (d5q n) v.List_).add ((a4m (fun x=>(d5q n x.1).add (d5q n x.2)) v.Pairs).add (a4m (fun x=>d5q n x.2) v.Slots)))
theorem a83{α:Type}{f g:α->Q9}:∀{l:List α},(∀x∈l,f x=g x)->a4m f l=a4m g l
 |[],_=>rfl
 |x::l,h=>by rw[a4m,a4m,h x (by simp),a83 fun y hy=>h y (by simp[hy])]
theorem b4p:∀(n m:Nat) (v:A0),SizeOf.sizeOf v<=n->SizeOf.sizeOf v<=m->d5q n v=d5q m v
 |0,_,v,h,_=>by have:=szV v;omega
 |_+1,0,v,_,h=>by have:=szV v;omega
 |n+1,m+1,v,h1,h2=>by
  simp only[d5q];rw[a83 (l:=v.List_) fun x hx=>b4p n m x (by have:=szL hx;omega) (by have:=szL hx;omega)];rw[a83 (l:=v.Pairs) fun x hx=>by rw[b4p n m x.1 (by have:=szP hx;omega) (by have:=szP hx;omega),b4p n m x.2 (by have:=szP hx;omega) (by have:=szP hx;omega)]];rw[a83 (l:=v.Slots) fun x hx=>b4p n m x.2 (by have:=szS hx;omega) (by have:=szS hx;omega)]
noncomputable def cV(v:A0):Q9:=d5q (SizeOf.sizeOf v) v
noncomputable abbrev cP(x:A0 × A0):Q9:=(cV x.1).add (cV x.2)
noncomputable abbrev cS(x:Int × A0):Q9:=cV x.2
theorem c0q(v:A0):cV v=d2d v ((a4m cV v.List_).add ((a4m cP v.Pairs).add (a4m cS v.Slots))):=by
 have h0:=szV v;obtain⟨n,hn⟩:∃n,SizeOf.sizeOf v=n+1:=⟨SizeOf.sizeOf v - 1,by omega⟩
 rw[cV,hn];simp only[d5q];rw[a83 (l:=v.List_) (g:=cV) fun x hx=>b4p n _ x (by have:=szL hx;omega) (Nat.le_refl _)];rw[a83 (l:=v.Pairs) (g:=cP) fun x hx=>by rw[b4p n _ x.1 (by have:=szP hx;omega) (Nat.le_refl _),b4p n _ x.2 (by have:=szP hx;omega) (Nat.le_refl _)];rfl];rw[a83 (l:=v.Slots) (g:=cS) fun x hx=>b4p n _ x.2 (by have:=szS hx;omega) (Nat.le_refl _)]
theorem ScO.cost{p:A6}{k t:Int}{y:A0}(h:ScO p k t y):cV y=⟨0,1,y.Text.size⟩:=by
 obtain⟨a,b,c,d⟩:=h.lone;have hk:=h.kind;have hf:=h.fit
 have hn:y.Kind≠10:=by
  rw[<-hk]at hf;have:=(b5y y hf).2.1;omega
 rw[c0q,a,b,c,d2d,if_neg hn,d];simp[a4m,Q9.add,Q9.none]
def ElO(p:A6)(B:Int->A0->Prop)(k t:Int)(y:A0):Prop:=(k=10->B t y)/\(k≠10->ScO p k t y)
section
variable {m:Nat}{p:A6}{W:c6v}{B:Int->A0->Prop}{M:RdM}(hM:∀t y,B t y->Rds m (W t y) (cV y) y (M t))
theorem Rds.sc{k t:Int}{y:A0}(h:ScO p k t y)(hk:k≠10):Rds m (c7r y) (cV y) y (elR M p k t):=by
 have e:elR M p k t=fun c=>E2 (spR c) fun _ c=>scR p k t c:=by funext c;rw[elR,if_neg hk]
 rw[e];refine(Rds.bind Rds.spend (Rds.scal h)).of (e3p _) ?_;rw[h.cost];simp[Q9.add]
 include hM
theorem Rds.el{o:GOp}{y:A0}(h:ElO p B o.Kind o.Target y):Rds m (a9b W o y) (cV y) y (elR M p o.Kind o.Target):=by
 unfold a9b;split
 ·rename_i hk;have e:elR M p o.Kind o.Target=M o.Target:=by funext c;rw[elR,if_pos hk]
  rw[e];exact hM _ _ (h.1 hk)
 ·rename_i hk;exact Rds.sc (h.2 hk) hk
theorem Rds.ls{o:GOp}:∀l:List A0,(∀y∈l,ElO p B o.Kind o.Target y)->Rds m (c9j (l.map (a9b W o))) (a4m cV l) l (lsR M p o.Kind o.Target l.length)
 |[],_=>Rds.pure []
 |x::l,h=>by
  have e:lsR M p o.Kind o.Target (x::l).length=fun c=>E2 (elR M p o.Kind o.Target c) fun x c=>E2 (lsR M p o.Kind o.Target l.length c) fun l c=>.ok (x::l,c):=by funext c;rw[List.length_cons,lsR]
  rw[e];exact Rds.bind (Rds.el hM (h x (by simp))) (Rds.map (Rds.ls l fun y hy=>h y (by simp[hy])) (fun l=>x::l) rfl)
theorem Rds.pr{o:GOp}(hk:o.Key≠10):∀(l:List (A0 × A0)) (a:Option A0),(∀x∈l,ScO p o.Key (-1) x.1/\ElO p B o.Kind o.Target x.2)->(∀b,a=some b->∀x∈l,Z4 (SizeOf.sizeOf b) b x.1<0)->l.Pairwise (fun x y=>Z4 (SizeOf.sizeOf x.1) x.1 y.1<0)->Rds m (c9j (l.map (c1j W o))) (a4m cP l) l (prR M p o.Key o.Kind o.Target l.length a)
 |[],a,_,_,_=>by
  have e:prR M p o.Key o.Kind o.Target ([]:List (A0 × A0)).length a=fun c=>.ok ([],c):=by funext c;rw[List.length_nil,prR]
  rw[e];exact Rds.pure []
 |x::l,a,h,ha,hl=>by
  obtain⟨h1,h2⟩:=h x (by simp);obtain⟨q1,q2⟩:=List.pairwise_cons.1 hl
  have hu:upK a x.1:=by
   cases a with
   |none=>rfl
   |some b=>exact decide_eq_true (ha b rfl x (by simp))
  have e:prR M p o.Key o.Kind o.Target (x::l).length a=fun c=>E2 (elR M p o.Key (-1) c) fun x c=>if upK a x then E2 (elR M p o.Kind o.Target c) fun y c=>E2 (prR M p o.Key o.Kind o.Target l.length (some x) c) fun l c=>.ok ((x,y)::l,c) else .error 5:=by funext c;rw[List.length_cons,prR]
  rw[e];have ih:=Rds.pr hk l (some x.1) (fun y hy=>h y (by simp[hy])) (fun b hb y hy=>by cases hb;exact q1 y hy) q2;have h3:=Rds.bind (Rds.el hM h2) (g:=fun y c=>E2 (prR M p o.Key o.Kind o.Target l.length (some x.1) c) fun l c=>.ok ((x.1,y)::l,c)) (Rds.map ih (fun l=>x::l) rfl);refine(Rds.bind (Rds.sc h1 hk) (b':=a9b W o x.2++c9j (l.map (c1j W o))) (k':=(cV x.2).add (a4m cP l)) ?_).of ?_ (Q9.add_assoc _ _ _).symm
  ·have e2:(fun c=>if upK a x.1 then E2 (elR M p o.Kind o.Target c) fun y c=>E2 (prR M p o.Key o.Kind o.Target l.length (some x.1) c) fun l c=>.ok ((x.1,y)::l,c) else .error 5)=fun c=>E2 (elR M p o.Kind o.Target c) fun y c=>E2 (prR M p o.Key o.Kind o.Target l.length (some x.1) c) fun l c=>.ok ((x.1,y)::l,c):=by funext c;rw[if_pos hu]
   rw[e2];exact h3
  ·rw[List.map_cons,c9j,c1j,b11]
end
theorem Rds.cn{m:Nat}(u:Nat)(hu:u<=4096):Rds m (b34 u) ⟨0,if 0<u then 1 else 0,0⟩ (u:Int) cnR:=by
 have e:cnR=fun c=>E2 (toR (U4 c)) fun u c=>if 4096<u then .error 3 else if 0<u then E2 (spR c) fun _ c=>.ok (u,c) else .ok (u,c):=rfl
 rw[e]
 by_cases h:0<u
 ·rw[if_pos h];refine(Rds.bind (Rds.num u (by omega)) (b':=⟨#[]⟩) (k':=⟨0,1,0⟩) (y:=(u:Int)) ?_).of (b5s _) (Q9.none_add _)
  have e2:(fun c=>if 4096<(u:Int) then .error 3 else if 0<(u:Int) then E2 (spR c) fun _ c=>.ok ((u:Int),c) else .ok ((u:Int),c):A3->Rs Int)=fun c=>E2 (spR c) fun _ c=>.ok ((u:Int),c):=by
   funext c;rw[if_neg (by omega),if_pos (by omega)]
  rw[e2];exact Rds.fin Rds.spend _ fun c=>rfl
 ·rw[if_neg h];refine Rds.fin (Rds.num u (by omega)) _ fun c=>?_
  rw[if_neg (by omega),if_neg (by omega)]
def RfF(p:A6)(B:Int->A0->Prop)(o:GOp)(z:A0):Prop:=
 (o.Card=4->z=⟨11,0,⟨#[]⟩,z.List_,[],[],[]⟩/\z.List_≠[]/\z.List_.length<=4096/\∀y∈z.List_,ElO p B o.Kind o.Target y)/\
 (o.Card=5->z=⟨12,0,⟨#[]⟩,[],z.Pairs,[],[]⟩/\z.Pairs≠[]/\z.Pairs.length<=4096/\o.Key≠10/\(∀x∈z.Pairs,ScO p o.Key (-1) x.1/\ElO p B o.Kind o.Target x.2)/\z.Pairs.Pairwise (fun x y=>Z4 (SizeOf.sizeOf x.1) x.1 y.1<0))/\
 (o.Card≠4->o.Card≠5->ElO p B o.Kind o.Target z/\(o.Card=3->b85 z=false))
theorem e1o(b:UInt8):(⟨#[b]⟩:ByteArray)=ofI [(b.toNat:Int)]:=by
 unfold ofI;simp
section
variable {m:Nat}{p:A6}{W:c6v}{B:Int->A0->Prop}{M:RdM}(hM:∀t y,B t y->Rds m (W t y) (cV y) y (M t)) {g:B9}
theorem Rds.unset(sl:List (Int × A0))(o:GOp)(h1:o.Card≠1):∃z,Rds m (a2e W o V0 false) .none (z,false) (fdR M p g sl o):=by
 by_cases h4:o.Card=4
 ·have e:fdR M p g sl o=fun c=>E2 (cnR c) fun n c=>E2 (lsR M p o.Kind o.Target n.toNat c) fun l c=>.ok ((⟨11,0,⟨#[]⟩,l,[],[],[]⟩, !l.isEmpty),c):=by funext c;rw[fdR,if_neg h1,if_pos h4]
  refine⟨⟨11,0,⟨#[]⟩,[],[],[],[]⟩,?_⟩;rw[e];refine(Rds.fin (Rds.cn 0 (by omega)) _ fun c=>rfl).of ?_ rfl;unfold a2e;rw[if_pos h4];exact(b5s _).symm
 by_cases h5:o.Card=5
 ·have e:fdR M p g sl o=fun c=>E2 (cnR c) fun n c=>E2 (prR M p o.Key o.Kind o.Target n.toNat none c) fun l c=>.ok ((⟨12,0,⟨#[]⟩,[],l,[],[]⟩, !l.isEmpty),c):=by funext c;rw[fdR,if_neg h1,if_neg h4,if_pos h5]
  refine⟨⟨12,0,⟨#[]⟩,[],[],[],[]⟩,?_⟩;rw[e];refine(Rds.fin (Rds.cn 0 (by omega)) _ fun c=>?_).of ?_ rfl
  ·rw[Int.toNat_natCast,prR];rfl
  unfold a2e;rw[if_neg h4,if_pos h5];exact(b5s _).symm
 ·have e:fdR M p g sl o=fun c=>E2 (toR (a3z c)) fun b c=>if 1<b then .error 5 else if b=0 then .ok ((V0,false),c) else if c76 g sl o=true then .error 15
   else E2 (elR M p o.Kind o.Target c) fun x c=>if o.Card=3/\b85 x=true then .error 5 else .ok ((x,true),c):=by funext c;rw[fdR,if_neg h1,if_neg h4,if_neg h5,myR]
  refine⟨V0,?_⟩;rw[e];refine(Rds.fin (Rds.byte 0 (by omega)) _ fun c=>rfl).of ?_ rfl;unfold a2e;rw[if_neg h4,if_neg h5,if_neg h1,if_neg (by decide)];exact(e1o 0).symm
 include hM
theorem Rds.set(sl:List (Int × A0))(o:GOp)(z:A0)(h:RfF p B o z)(hj:c76 g sl o=false):Rds m (a2e W o z true) (cV z) (z,true) (fdR M p g sl o):=by
 obtain⟨h4,h5,h6⟩:=h;unfold a2e
 by_cases c4:o.Card=4
 ·obtain⟨ez,hne,hlen,hel⟩:=h4 c4;rw[if_pos c4];have e:fdR M p g sl o=fun c=>E2 (cnR c) fun n c=>E2 (lsR M p o.Kind o.Target n.toNat c) fun l c=>.ok ((⟨11,0,⟨#[]⟩,l,[],[],[]⟩, !l.isEmpty),c):=by funext c;rw[fdR,if_neg (by omega),if_pos c4]
  rw[e];generalize z.List_=l at*;subst ez;have hl:0<l.length:=List.length_pos_iff.2 hne;refine(Rds.bind (Rds.cn l.length hlen) (b':=c9j (l.map (a9b W o))) (k':=a4m cV l) ?_).of rfl ?_
  ·refine Rds.fin (Rds.ls hM l hel) (f:=lsR M p o.Kind o.Target l.length) _ fun c=>?_
   have:l.isEmpty=false:=by cases l<;>simp_all
   rw[this];rfl
  ·rw[c0q,d2d];simp only[Q9.add,a4m,Q9.none,if_pos hl,Q9.mk.injEq];refine⟨?_,?_,?_⟩
   ·rw[if_neg (by decide)];omega
   ·simp;omega
   ·have:(⟨#[]⟩:ByteArray).size=0:=rfl;omega
 by_cases c5:o.Card=5
 ·obtain⟨ez,hne,hlen,hk,hel,hup⟩:=h5 c5;rw[if_neg c4,if_pos c5];have e:fdR M p g sl o=fun c=>E2 (cnR c) fun n c=>E2 (prR M p o.Key o.Kind o.Target n.toNat none c) fun l c=>.ok ((⟨12,0,⟨#[]⟩,[],l,[],[]⟩, !l.isEmpty),c):=by funext c;rw[fdR,if_neg (by omega),if_neg c4,if_pos c5]
  rw[e];generalize z.Pairs=l at*;subst ez;have hl:0<l.length:=List.length_pos_iff.2 hne;refine(Rds.bind (Rds.cn l.length hlen) (b':=c9j (l.map (c1j W o))) (k':=a4m cP l) ?_).of rfl ?_
  ·refine Rds.fin (Rds.pr hM hk l none hel (fun b hb=>by cases hb) hup) (f:=prR M p o.Key o.Kind o.Target l.length none) _ fun c=>?_
   have:l.isEmpty=false:=by cases l<;>simp_all
   rw[this];rfl
  ·rw[c0q,d2d];simp only[Q9.add,a4m,Q9.none,if_pos hl,Q9.mk.injEq];refine⟨?_,?_,?_⟩
   ·rw[if_neg (by decide)];omega
   ·simp;omega
   ·have:(⟨#[]⟩:ByteArray).size=0:=rfl;omega
 obtain⟨hel,hz⟩:=h6 c4 c5;rw[if_neg c4,if_neg c5]
 by_cases c1:o.Card=1
 ·rw[if_pos c1];have e:fdR M p g sl o=fun c=>E2 (elR M p o.Kind o.Target c) fun x c=>.ok ((x,true),c):=by funext c;rw[fdR,if_pos c1]
  rw[e];exact Rds.fin (Rds.el hM hel) _ fun c=>rfl
 ·rw[if_neg c1,if_pos rfl]
  have e:fdR M p g sl o=fun c=>E2 (toR (a3z c)) fun b c=>if 1<b then .error 5 else if b=0 then .ok ((V0,false),c) else if c76 g sl o=true then .error 15
   else E2 (elR M p o.Kind o.Target c) fun x c=>if o.Card=3/\b85 x=true then .error 5 else .ok ((x,true),c):=by funext c;rw[fdR,if_neg c1,if_neg c4,if_neg c5,myR]
  rw[e];refine(Rds.bind (Rds.byte 1 (by omega)) (b':=a9b W o z) (k':=cV z) ?_).of (by rw[e1o 1];rfl) (Q9.none_add _)
  have e2:(fun c=>if(1:Int)<1 then .error 5 else if(1:Int)=0 then .ok ((V0,false),c) else if c76 g sl o=true then .error 15
   else E2 (elR M p o.Kind o.Target c) fun x c=>if o.Card=3/\b85 x=true then .error 5 else .ok ((x,true),c):A3->Rs (A0 × Bool))=fun c=>E2 (elR M p o.Kind o.Target c) fun x c=>if o.Card=3/\b85 x=true then .error 5 else .ok ((x,true),c):=by
   funext c;rw[if_neg (by decide),if_neg (by decide),if_neg (by rw[hj];simp)]
  rw[e2];refine Rds.fin (Rds.el hM hel) _ fun c=>?_
  rw[if_neg];rintro⟨q1,q2⟩;rw[hz q1]at q2;cases q2
def Uni(g:B9)(a b:Int × A0):Prop:=0<=(opV g b.1).1.Union->(opV g a.1).1.Union≠(opV g b.1).1.Union
theorem Rds.ops(hop:∀o∈g.Ops,opV g o.Num=(o,true)):∀(ops:List GOp) (sl S:List (Int × A0)),(∀o∈ops,o∈g.Ops)->b1o (RfF p B) ops S->(sl++S).Pairwise (Uni g)->Rds m (a9d W ops S) (a4m cS S) (sl++S) (c9l M p g ops sl)
 |[],sl,S,_,h,_=>by
  have e:S=[]:=h;subst e;have e2:c9l M p g [] sl=fun c=>.ok (sl,c):=by funext c;rw[c9l]
  rw[e2,List.append_nil];exact Rds.pure sl
 |o::ops,sl,S,ho,h,hu=>by
  have e:c9l M p g (o::ops) sl=fun c=>E2 (fdR M p g sl o c) fun x c=>c9l M p g ops (if x.2=true then sl++[(o.Num,x.1)] else sl) c:=by funext c;rw[c9l]
  rw[e];have ho':∀q∈ops,q∈g.Ops:=fun q hq=>ho q (by simp[hq])
  have not:∀S,b1o (RfF p B) ops S->o.Card≠1->(sl++S).Pairwise (Uni g)->Rds m (a2e W o V0 false++a9d W ops S) (a4m cS S) (sl++S) fun c=>E2 (fdR M p g sl o c) fun x c=>c9l M p g ops (if x.2=true then sl++[(o.Num,x.1)] else sl) c:=fun S hS h1 hu=>by
   obtain⟨z,hz⟩:=Rds.unset (m:=m) (p:=p) (W:=W) (M:=M) (g:=g) sl o h1;refine(Rds.bind hz (b':=a9d W ops S) (k':=a4m cS S) ?_).of rfl (Q9.none_add _);exact Rds.ops hop ops sl S ho' hS hu
  cases S with
  |nil=>exact not [] h.2 h.1 hu
  |cons s S=>
   simp only[a9d];split
   ·rename_i he;obtain⟨h1,h2⟩:=h.1 he
    have hj:c76 g sl o=false:=by
     rw[c76,List.any_eq_false];intro a ha hb;have hp:=(List.pairwise_append.1 hu).2.2 a ha s (by simp);unfold Uni at hp;rw[he,hop o (ho o (by simp))]at hp;simp only[Bool.and_eq_true,decide_eq_true_eq]at hb;exact hp hb.2.1 hb.2.2
    refine(Rds.bind (Rds.set hM sl o s.2 h1 hj) (b':=a9d W ops S) (k':=a4m cS S) (y:=sl++s::S) ?_).of rfl rfl;have e3:sl++s::S=(sl++[(o.Num,s.2)])++S:=by rw[<-he];simp
    rw[e3]at hu ⊢;exact Rds.ops hop ops (sl++[(o.Num,s.2)]) S ho' h2 hu
   ·rename_i he;obtain⟨h1,h2⟩:=h.2 he;exact not (s::S) h2 h1 hu
end
def RfV(p:A6):Nat->Int->A0->Prop
 |0,_,_=>False
 |n+1,t,x=>∃g,p.Progs[t.toNat]? =some g/\0<=t/\x=⟨10,0,⟨#[]⟩,[],[],x.Slots,[]⟩/\b1o (RfF p (RfV p n)) g.Ops x.Slots/\x.Slots.Pairwise (Uni g)
theorem d0z{c:A3}(h:Snd c)(hd:1<=c.Depth):Snd (a9e c 1):=by
 have:=h.d1;exact⟨h.sz,h.a0,h.a1,h.a2,by simp only[a9e];omega,by simp only[a9e];omega,h.n0,h.n1⟩
theorem f8d{p:A6}(hp:OkX p):∀(n m:Nat) (t:Int) (x:A0),RfV p n t x->Rds m (Q8 p n t x) (cV x) x (msR p m t)
 |0,_,_,_,h=>h.elim
 |n+1,m,t,x,⟨g,hgt,ht,ex,hm,hu⟩=>by
  have hg:g∈p.Progs:=List.mem_of_getElem? hgt;have eb:Q8 p (n+1) t x=a9d (Q8 p n) g.Ops x.Slots:=by simp only[Q8,hgt]
  rw[eb]
  have ec:cV x=⟨(a4m cS x.Slots).d+1,(a4m cS x.Slots).n+1,(a4m cS x.Slots).l⟩:=by
   rw[ex,c0q];have:(⟨#[]⟩:ByteArray).size=0:=rfl;simp[d2d,a4m,Q9.none,Q9.add,this]
  intro c hc htx hd hpre;have d0:=hc.d0;have n0:=hc.n0;cases m with
  |zero=>exact .inr (.inl ⟨rfl,by rw[ec];simp only;omega⟩)
  |succ m=>
   rw[msR]
   by_cases h1:c.Depth<1
   ·rw[if_pos h1];exact .inr (.inl ⟨rfl,by rw[ec];simp only;omega⟩)
   rw[if_neg h1,spR]
   by_cases h2:c.Nodes<1
   ·rw[if_pos h2];exact .inr (.inr ⟨rfl,by rw[ec];simp only;omega⟩)
   rw[if_neg h2];simp only[E2,hgt];have s1:=d0z (hc.adv (k:=0) (n:=1) (by have:=hc.a1;omega) (by omega)) (show 1<=(adv c 0 1).Depth by simp only[adv];omega)
   have er:O5 (a9e (adv c 0 1) 1)=O5 c:=by
    simp only[O5,a9e,adv,Int.add_zero]
   have h3:=Rds.ops (m:=m) (p:=p) (W:=Q8 p n) (M:=msR p m) (g:=g) (fun t y h=>f8d hp n m t y h) (fun o ho=>d3k hp hg ho) g.Ops [] x.Slots (fun o h=>h) hm (by simpa using hu) (a9e (adv c 0 1) 1) s1 htx (by simp only[a9e,adv];omega) (by unfold Ahd at hpre ⊢;rw[er];exact hpre);unfold Whl at*;cases hr:c9l (msR p m) p g g.Ops [] (a9e (adv c 0 1) 1) with
   |error e=>
    rw[hr]at h3;simp only[Got,Whl,er]at h3 ⊢;rw[ec];simp only[a9e,adv]at h3 ⊢;rcases h3 with⟨e1,q⟩|⟨e1,q⟩|⟨e1,q⟩
    ·exact .inl ⟨e1,q⟩
    ·exact .inr (.inl ⟨e1,by omega⟩)
    ·exact .inr (.inr ⟨e1,by omega⟩)
   |ok y=>
    rw[hr]at h3;simp only[Got,Whl,er]at h3 ⊢;obtain⟨rfl,q1,q2,q3,q4⟩:=h3;rw[ec];simp only[a9e,adv]at q2 q3 q4 ⊢;refine⟨?_,q1,by omega,by omega,by omega⟩;refine Prod.ext ex.symm ?_;simp only[A3.mk.injEq,true_and,and_true];omega
theorem d7g{p:A6}{k t:Int}{y:A0}(h:d3v p k t y=0):y.Kind=k/\y.Text.size<=4096/\a64 k y=true/\(k=9->d89 p t y.Bits=true):=by
 unfold d3v at h;split at h
 ·exact absurd h (by decide)
 rename_i h1;split at h
 ·exact absurd h (by decide)
 rename_i h2;split at h
 ·exact absurd h (by decide)
 split at h
 ·exact absurd h (by decide)
 rename_i h4;split at h
 ·exact absurd h (by decide)
 rename_i h5;simp only[Bool.or_eq_true,bne_iff_ne,ne_eq,not_or,Decidable.not_not]at h1;refine⟨h1.1,by omega,by simpa using h4,fun hk=>?_⟩;subst hk;simpa using h5
theorem f2p{k:Int}{y:A0}(h:a64 k y=true):y.List_=[]/\y.Pairs=[]/\y.Slots=[]/\y.Raws=[]:=by
 unfold a64 at h;simp only[Bool.and_eq_true]at h;have h2:=h.1.2;simp only[c6h,decide_eq_true_eq,List.length_eq_zero_iff]at h2;exact h2
theorem e6h{p:A6}{k t:Int}{y:A0}(h:d3v p k t y=0)(hy:OkV y):ScO p k t (a0g y)/\(a0g y).Text.size<=4096:=by
 obtain⟨h1,h2,h3,h4⟩:=d7g h;have hl:=f2p h3;have hb:=d30 y hy
 by_cases hc:y.Kind=6/\f2w y.Bits.toNat=0
 ·have k6:k=6:=by omega
  subst k6;have e:a0g y=⟨y.Kind,9221120237041090560,y.Text,y.List_,y.Pairs,y.Slots,y.Raws⟩:=by unfold a0g;rw[if_pos hc]
  rw[e];refine⟨⟨?_,h1,?_,fun h=>absurd h (by decide),⟨show(0:Int)<=9221120237041090560 by decide,show(9221120237041090560:Int)<18446744073709551616 by decide⟩,hl⟩,h2⟩
  ·unfold a64 at h3 ⊢;rw[if_neg (by decide)]at h3 ⊢;simp only[Bool.and_eq_true]at h3 ⊢;exact⟨h3.1,h3.2.1,rfl⟩
  ·unfold a0g;rw[if_pos ⟨h1,g5a⟩]
 ·have e:a0g y=y:=by unfold a0g;rw[if_neg hc]
  rw[e];exact⟨⟨h3,h1,e,h4,⟨hy.b0,hy.b1⟩,hl⟩,h2⟩
theorem d16{y:A0}(h:y.Kind≠6):a0g y=y:=by unfold a0g;rw[if_neg (fun q=>h q.1)]
theorem e2u{n:Nat}(a b:A0)(ha:isS a.Kind=true):Z4 (n+1) a b=Z4 (SizeOf.sizeOf a) a b:=by
 have h0:=szV a;obtain⟨m,hm⟩:∃m,SizeOf.sizeOf a=m+1:=⟨SizeOf.sizeOf a - 1,by omega⟩
 rw[hm,Z4,Z4,if_pos ha,if_pos ha]
theorem e0d{R:GOp->A0->Prop}{T:A0->Prop}(hT:∀o z,R o z->T z):∀{ops:List GOp}{S:List (Int × A0)},b1o R ops S->∀s∈S,T s.2
 |[],S,h,s,hs=>by have e:S=[]:=h;rw[e]at hs;cases hs
 |o::ops,[],_,s,hs=>by cases hs
 |o::ops,x::S,h,s,hs=>by
  by_cases he:x.1=o.Num
  ·obtain⟨h1,h2⟩:=h.1 he;rcases List.mem_cons.1 hs with q|q
   ·subst q;exact hT _ _ h1
   ·exact e0d hT h2 s q
  ·exact e0d hT (h.2 he).2 s hs
theorem d12{R:GOp->A0->Prop}:∀{ops:List GOp}{S:List (Int × A0)},ops.Pairwise (fun a b=>a.Num<b.Num)->b1o R ops S->S.Pairwise (fun a b=>a.1<b.1)
 |[],S,_,h=>by have e:S=[]:=h;rw[e];exact List.Pairwise.nil
 |o::ops,[],_,_=>List.Pairwise.nil
 |o::ops,x::S,ha,h=>by
  obtain⟨q1,q2⟩:=List.pairwise_cons.1 ha
  by_cases he:x.1=o.Num
  ·obtain⟨_,h2⟩:=h.1 he;refine List.pairwise_cons.2 ⟨fun s hs=>?_,d12 q2 h2⟩;obtain⟨q,hq,hn⟩:=d5w h2 s hs;have:=q1 q hq;omega
  ·exact d12 q2 (h.2 he).2
theorem e1h{α:Type}(f:α->Q9):∀l:List α,(a4m f l).n=a06 (fun x=>(f x).n) l
 |[]=>rfl
 |x::l=>by simp only[a4m,Q9.add,a06,e1h f l]
noncomputable abbrev nV(v:A0):Nat:=(cV v).n
noncomputable abbrev nP(x:A0 × A0):Nat:=nV x.1+nV x.2
noncomputable abbrev nS(x:Int × A0):Nat:=nV x.2
theorem b6o(v:A0):nV v=1+v.Raws.length+a06 nV v.List_+a06 nP v.Pairs+a06 nS v.Slots:=by
 have h1:(a4m cV v.List_).n=a06 nV v.List_:=e1h _ _;have h2:(a4m cP v.Pairs).n=a06 nP v.Pairs:=e1h _ _;have h3:(a4m cS v.Slots).n=a06 nS v.Slots:=e1h _ _;show(cV v).n=_;rw[c0q];simp only[d2d,Q9.add];omega
theorem f77(v:A0):1<=nV v:=by rw[b6o];omega
theorem f7n(v:A0):(∀x∈v.List_,nV x<=nV v)/\(∀x∈v.Pairs,nV x.1+nV x.2<=nV v)/\(∀x∈v.Slots,nV x.2<=nV v):=by
 have e:=b6o v;refine⟨fun x hx=>?_,fun x hx=>?_,fun x hx=>?_⟩
 ·have:=c0b nV hx;omega
 ·have:=c0b nP hx;simp only[nP]at this;omega
 ·have:=c0b nS hx;simp only[nS]at this;omega
theorem g1p(v:A0):v.List_.length<=nV v/\v.Pairs.length<=nV v:=by
 have e:=b6o v;have h1:=b4y nV 1 (l:=v.List_) fun x _=>f77 x
 have h2:=b4y nP 1 (l:=v.Pairs) fun x _=>by have:=f77 x.1;simp only[nP];omega
 omega
theorem d14:∀(n:Nat) (v:A0),SizeOf.sizeOf v<=n->a2h n v=(nV v:Int)
 |0,v,h=>by have:=szV v;omega
 |n+1,v,h=>by
  have key:∀{α:Type}(f:α->Int) (g:α->Nat) (l:List α),(∀x∈l,f x=(g x:Int))->(l.map f).sum=(a06 g l:Int):=by
   intro α f g l
   induction l with
   |nil=>intro _;rfl
   |cons x l ih=>
    intro h;have h1:=h x (by simp);have h2:=ih fun y hy=>h y (by simp[hy])
    simp only[List.map_cons,List.sum_cons,a06];omega
  have h1:=key (a2h n) nV v.List_ fun x hx=>d14 n x (by have:=szL hx;omega)
  have h2:=key (fun x:A0 × A0=>a2h n x.1+a2h n x.2) nP v.Pairs fun x hx=>by
   have a:=d14 n x.1 (by have:=szP hx;omega);have b:=d14 n x.2 (by have:=szP hx;omega);simp only[nP];omega
  have h3:=key (fun x:Int × A0=>a2h n x.2) nS v.Slots fun x hx=>d14 n x.2 (by have:=szS hx;omega)
  have e:=b6o v;simp only[a2h];omega
theorem e3s(v:A0):nV (a0g v)=nV v:=by
 unfold a0g;split
 ·rw[b6o,b6o]
 ·rfl
section
variable {N:d2o}(hN:∀t v,nV (N t v)<=nV v)
 include hN
theorem d5e(o:GOp)(v:A0):nV (a3y N o v)<=nV v:=by
 unfold a3y;split
 ·exact hN _ _
 ·rw[e3s];omega
theorem f36(o:GOp)(v:A0):nV (a4b N o v)<=nV v:=by
 have e:=b6o v;unfold a4b;split
 ·rw[b6o ⟨11,_,_,_,_,_,_⟩];have h:=b5h (l:=v.List_) (f:=fun x=>nV (a3y N o x)) (g:=nV) fun x _=>d5e hN o x
  simp only[b6u,a06,List.length_nil];omega
 split
 ·rw[b6o ⟨12,_,_,_,_,_,_⟩]
  have h:=b5h (l:=b0a v.Pairs) (f:=fun x=>nP (a0g x.1,a3y N o x.2)) (g:=nP) fun x _=>by
   have a:=d5e hN o x.2;have b:=e3s x.1;simp only[nP];omega
  have h2:=b5n (c:=kc (SizeOf.sizeOf v.Pairs)) nP v.Pairs;simp only[b6u,a06,List.length_nil];have e2:a06 nP (b0a v.Pairs)<=a06 nP v.Pairs:=h2;omega
 ·exact d5e hN o v
theorem f3k(g:B9)(v:A0):nV (b61 N g v)<=nV v:=by
 have e:=b6o v
 have h:=d08 (l:=Q7 kn v.Slots) (f:=nS) (g:=nS) (h:=fun x=>a42 N (opV g x.1).1 x.1 x.2) fun x _=>by
  have a:=f36 hN (opV g x.1).1 x.2;simp only[a42];split
  ·simp only[a06,nS];omega
  ·simp[a06]
 have h2:=b5n (c:=kn) nS v.Slots;have h3:(sC kr v.Raws).length=v.Raws.length:=(c95 v.Raws).length_eq;rw[b61,b6o ⟨10,_,_,_,_,_,_⟩];simp only[a06];omega
end
theorem e9i(p:A6):∀(n:Nat) (t:Int) (v:A0),nV (F7 p n t v)<=nV v
 |0,t,v=>by
  have e:=b6o v;have:nV (F7 p 0 t v)=1:=by rw[b6o];rfl
  omega
 |n+1,t,v=>by
  simp only[F7];split
  ·have e:=b6o v;have:nV (⟨0,0,⟨#[]⟩,[],[],[],[]⟩:A0)=1:=by rw[b6o];rfl
   omega
  ·exact f3k (e9i p n) _ v
def Lim(lev:Int)(k:Q9):Prop:=(k.d:Int)+lev<=17/\k.l<=4096
theorem Lim.add{e:Int}{a b:Q9}(h:Lim e a)(h2:Lim e b):Lim e (a.add b):=by
 unfold Lim at*;simp only[Q9.add];omega
theorem Lim.none{e:Int}(h:e<=17):Lim e .none:=⟨by simp only[Q9.none];omega,by simp only[Q9.none];omega⟩
theorem Lim.sum{α:Type}{e:Int}(he:e<=17){f:α->Q9}:∀{l:List α},(∀x∈l,Lim e (f x))->Lim e (a4m f l)
 |[],_=>Lim.none he
 |x::l,h=>(h x (by simp)).add (Lim.sum he fun y hy=>h y (by simp[hy]))
theorem Lim.sc{e:Int}(he:e<=17){p:A6}{k t:Int}{y:A0}(h:ScO p k t y)(hs:y.Text.size<=4096):Lim e (cV y):=by
 rw[h.cost];exact⟨by simp only;omega,hs⟩
theorem c3i:(⟨#[]⟩:ByteArray).size=0:=rfl
theorem Lim.top{e:Int}(v:A0)(hk:v.Kind≠10)(ht:v.Text.size<=4096){k:Q9}(h:Lim e k):Lim e (d2d v k):=by
 unfold Lim at*;simp only[d2d,if_neg hk];omega
theorem e8y{M:d93}{p:A6}{g:B9}{v:A0}{lev:Int}(h:f2d M p g v lev=0):v.Slots.Pairwise fun a b=>¬((opV g a.1).1.Union=(opV g b.1).1.Union/\(opV g b.1).1.Union≠ -1):=by
 unfold f2d at h;split at h
 ·exact absurd h (by decide)
 split at h
 ·exact absurd h (by decide)
 obtain⟨h3,_⟩:=b9y h;rw[List.pairwise_iff_getElem];intro i j hi hj hij ⟨e1,e2⟩;have:=b8r 0 h3 j (Nat.zero_le _) hj;simp only[d15,List.getElem?_eq_getElem hj]at this;split at this
 ·exact absurd this (by decide)
 split at this
 ·exact absurd this (by decide)
 split at this
 ·exact absurd this (by decide)
 rename_i q;refine q (List.any_eq_true.2 ⟨v.Slots[i],?_,?_⟩)
 ·rw[List.mem_take_iff_getElem];exact⟨i,by omega,rfl⟩
 ·simp only[Bool.and_eq_true,bne_iff_ne,ne_eq,beq_iff_eq];exact⟨e2,e1⟩
section
variable {p:A6}(hp:OkX p)
 include hp
theorem e8m:∀(n:Nat) (t:Int) (g:B9) (v:A0) (lev:Int),p.Progs[t.toNat]? =some g->0<=t->OkD v->SizeOf.sizeOf v<=n->a98 p n t v lev=0->NoX v->nV v<=4096->RfV p n t (F7 p n t v)/\Lim lev (cV (F7 p n t v))
 |0,t,g,v,lev,_,_,_,h,_,_,_=>by have:=szV v;omega
 |n+1,t,g,v,lev,hgt,ht,hv,hn,hm,hx,hc=>by
  have hg:g∈p.Progs:=List.mem_of_getElem? hgt;obtain⟨_,_,_,_,_,hs⟩:=hv.inv;have e:F7 p (n+1) t v=b61 (F7 p n) g v:=by simp only[F7,hgt]
  simp only[a98,hgt]at hm;have hf:=d94 hm;have hlev:=hf.deep;have hasc:=b90 (hp.va.asc g hg)
  have hT:=b8m (fun o x=>a42 (F7 p n) o x.1 x.2) g.Ops v.Slots hasc hf.diff fun x hx=>by
   obtain⟨h1,h2⟩:=d00 (hf.known x hx);exact⟨_,h2,h1⟩
  have es:(F7 p (n+1) t v).Slots=g.Ops.flatMap (c5x (fun o x=>a42 (F7 p n) o x.1 x.2) v.Slots):=by
   rw[e,hT];rfl
  obtain⟨x1,x2,_,_⟩:=hx.inv;have nm:=f7n v
  have hmrg:b1o (fun o z=>RfF p (RfV p n) o z/\Lim (lev+1) (cV z)) g.Ops (F7 p (n+1) t v).Slots:=by
   rw[es];refine f1q _ _ hasc fun o ho=>?_
   by_cases hex:∃x∈v.Slots,x.1=o.Num
   ·obtain⟨x,hx,he⟩:=hex;rw[d5o _ hf.diff hx he];have h1:=hf.field x hx;rw[he,d3k hp hg ho]at h1;have h1:a7c (a98 p n) p o x.2 lev=0:=h1;obtain⟨f4,f5,f6⟩:=c1w h1;have z1:=szS hx;have zn:=nm.2.2 x hx;have hof:=(hp.va.pro g hg).2 _ ho;obtain⟨_,_,_,q1,q2,_⟩:=(hs x hx).inv;obtain⟨_,_,y2,y3⟩:=(x2 x hx).inv;have zl:=g1p x.2;have zm:=f7n x.2
    have elem:∀y,OkD y->SizeOf.sizeOf y<=n->b53 (a98 p n) p o y lev=0->NoX y->nV y<=4096->ElO p (RfV p n) o.Kind o.Target (a3y (F7 p n) o y)/\Lim (lev+1) (cV (a3y (F7 p n) o y)):=fun y hy hz h hX hN=>by
     by_cases hk:o.Kind=10
     ·obtain⟨t0,t1,_⟩:=hof.msg hk;have hlt:o.Target.toNat<p.Progs.length:=by omega
      have:=e8m n o.Target _ y (lev+1) (List.getElem?_eq_getElem hlt) t0 hy hz (b89 hp h hk) hX hN;rw[a3y,if_pos hk];exact⟨⟨fun _=>this.1,fun q=>absurd hk q⟩,this.2⟩
     ·rw[b53,if_neg hk]at h;obtain⟨s1,s2⟩:=e6h h hy.okv;rw[a3y,if_neg hk];exact⟨⟨fun q=>absurd q hk,fun _=>s1⟩,Lim.sc (by omega) s1 s2⟩
    simp only[a42];split
    ·rename_i hmay;refine .inr ⟨_,by rw[he],⟨fun hc4=>?_,fun hc5=>?_,fun h4 h5=>?_⟩,?_⟩
     ·have em:d2e o=true:=by unfold d2e;simp[hc4]
      rw[em]at hmay;rw[a4b,if_pos hc4]at hmay ⊢;refine⟨rfl,fun q=>?_,by simp only[List.length_map];omega,fun y hy=>?_⟩
      ·simp only at q;rw[q]at hmay;exact absurd hmay (by decide)
      ·obtain⟨y',hy',rfl⟩:=List.mem_map.1 hy;exact(elem y' (q1 y' hy') (by have:=szL hy';omega) ((f4 hc4).2.2 y' hy') (y2 y' hy') (by have:=zm.1 y' hy';omega)).1
     ·have em:d2e o=true:=by unfold d2e;simp[hc5]
      rw[em]at hmay;rw[a4b,if_neg (by omega),if_pos hc5]at hmay ⊢;have hkey:=hof.key.2 hc5
      have hk6:∀x'∈b0a x.2.Pairs,a0g x'.1=x'.1/\isS x'.1.Kind=true:=fun x' hx'=>by
       obtain⟨a1,a2,a3,a4⟩:=d7g ((f5 hc5).2.2.1 x' (a6p hx')).1;refine⟨d16 (by omega),?_⟩;unfold isS;simp only[Bool.and_eq_true,decide_eq_true_eq];omega
      refine⟨rfl,fun q=>?_,?_,by omega,fun y hy=>?_,?_⟩
      ·simp only at q;rw[q]at hmay;exact absurd hmay (by decide)
      ·simp only[List.length_map];have:=c0c x.2.Pairs;omega
      ·obtain⟨y',hy',rfl⟩:=List.mem_map.1 hy;have hy2:=a6p hy';have hf5:=(f5 hc5).2.2.1 y' hy2;exact⟨(e6h hf5.1 (q2 y' hy2).1.okv).1,(elem y'.2 (q2 y' hy2).2 (by have:=szP hy2;omega) hf5.2 (y3 y' hy2) (by have:=zm.2.1 y' hy2;omega)).1⟩
      ·refine List.pairwise_map.2 ?_;have hst:(b0a x.2.Pairs).Pairwise fun a b=>kc (SizeOf.sizeOf x.2.Pairs) a b<0:=b1z (b1n (f93 _) fun x:A0 × A0=>x.1) _
       refine hst.imp_of_mem fun {a b} ha hb hab=>?_
       obtain⟨e1,e2⟩:=hk6 a ha;obtain⟨e3,_⟩:=hk6 b hb;simp only;rw[e1,e3];obtain⟨m,hm⟩:∃m,SizeOf.sizeOf x.2.Pairs=m+1:=⟨SizeOf.sizeOf x.2.Pairs - 1,by cases x.2.Pairs<;>simp<;>omega⟩
       rw[hm]at hab;rw[<-e2u (n:=m) _ _ e2];exact hab
     ·have hel:=elem x.2 (hs x hx) (by omega) (f6 h4 h5) (x2 x hx) (by omega);rw[a4b,if_neg h4,if_neg h5]at hmay ⊢;refine⟨hel.1,fun h3=>?_⟩;have em:d2e o=true:=by unfold d2e;simp[h3]
      rw[em]at hmay;have hz:a7o (a3y (F7 p n) o x.2)=false:=by simpa using hmay
      by_cases hk:o.Kind=10
      ·exact absurd h3 (hof.msg hk).2.2
      have hkk:=(hel.1.2 hk).kind;have hk12:=hof.kind;unfold a7o at hz;rw[if_neg (by omega),if_neg (by omega)]at hz;exact hz
     ·
      unfold a4b;split
      ·rename_i hc4;rw[c0q];refine Lim.top _ (show(11:Int)≠10 by decide) (show(⟨#[]⟩:ByteArray).size<=4096 by rw[c3i];omega) ?_;refine(Lim.sum (by omega) fun y hy=>?_).add ((Lim.none (by omega)).add (Lim.none (by omega)));obtain⟨y',hy',rfl⟩:=List.mem_map.1 hy;exact(elem y' (q1 y' hy') (by have:=szL hy';omega) ((f4 hc4).2.2 y' hy') (y2 y' hy') (by have:=zm.1 y' hy';omega)).2
      split
      ·rename_i hc5;rw[c0q];refine Lim.top _ (show(12:Int)≠10 by decide) (show(⟨#[]⟩:ByteArray).size<=4096 by rw[c3i];omega) ?_;refine(Lim.none (by omega)).add ((Lim.sum (by omega) fun y hy=>?_).add (Lim.none (by omega)));obtain⟨y',hy',rfl⟩:=List.mem_map.1 hy;have hy2:=a6p hy';have hf5:=(f5 hc5).2.2.1 y' hy2;obtain⟨s1,s2⟩:=e6h hf5.1 (q2 y' hy2).1.okv;exact(Lim.sc (by omega) s1 s2).add (elem y'.2 (q2 y' hy2).2 (by have:=szP hy2;omega) hf5.2 (y3 y' hy2) (by have:=zm.2.1 y' hy2;omega)).2
      ·rename_i h4 h5;exact(elem x.2 (hs x hx) (by omega) (f6 h4 h5) (x2 x hx) (by omega)).2
    ·rename_i hb;refine .inl ⟨rfl,fun hc=>hb ?_⟩;have:d2e o=false:=by unfold d2e;simp[hc]
     rw[this];rfl
   ·refine .inl ⟨b9d _ fun x hx he=>hex ⟨x,hx,he⟩,fun hc=>?_⟩;obtain⟨x,hx,he⟩:=hf.need o ho hc;exact hex ⟨x,hx,he⟩
  have er:(F7 p (n+1) t v)=⟨10,0,⟨#[]⟩,[],[],(F7 p (n+1) t v).Slots,[]⟩:=by
   rw[e];simp only[b61,x1];rfl
  refine⟨⟨g,hgt,ht,er,c9d (fun s _ o h=>h.1) hmrg,?_⟩,?_⟩
  ·have ha:=d12 hasc hmrg;have hu:=e8y hm
   have hany:∀x∈v.Slots,∀y∈v.Slots,x.1≠y.1->¬((opV g x.1).1.Union=(opV g y.1).1.Union/\(opV g y.1).1.Union≠ -1):=by
    intro x hx y hy hne;obtain⟨i,hi,rfl⟩:=List.mem_iff_getElem.1 hx;obtain⟨j,hj,rfl⟩:=List.mem_iff_getElem.1 hy;have hp2:=List.pairwise_iff_getElem.1 hu;rcases Nat.lt_trichotomy i j with q|q|q
    ·exact hp2 i j hi hj q
    ·subst q;exact absurd rfl hne
    ·have:=hp2 j i hj hi q;intro ⟨a1,a2⟩;exact this ⟨a1.symm,by omega⟩
   have hmem:∀s∈(F7 p (n+1) t v).Slots,∃x∈v.Slots,x.1=s.1:=by
    intro s hs;rw[e]at hs;simp only[b61]at hs;obtain⟨x,hx,h⟩:=List.mem_flatMap.1 hs;refine⟨x,a87 _ _ hx,?_⟩;unfold a42 at h;split at h
    ·have:=List.mem_singleton.1 h;subst this;rfl
    ·cases h
   refine ha.imp_of_mem fun {a b} hA hB hab=>?_
   obtain⟨x,hx,e1⟩:=hmem a hA;obtain⟨y,hy,e2⟩:=hmem b hB;have:=hany x hx y hy (by omega);rw[e1,e2]at this;intro h0 h3;exact this ⟨h3,by omega⟩
  ·rw[er,c0q];have h1:=Lim.sum (e:=lev+1) (by omega) (f:=cS) (l:=(F7 p (n+1) t v).Slots) (e0d (fun o z h=>h.2) hmrg);have h2:Lim (lev+1) ((a4m cV ([]:List A0)).add ((a4m cP ([]:List (A0 × A0))).add (a4m cS (F7 p (n+1) t v).Slots))):=(Lim.none (by omega)).add ((Lim.none (by omega)).add h1);obtain⟨a1,a2⟩:=h2;refine⟨?_,?_⟩
   ·simp only[d2d,if_pos];omega
   ·simp only[d2d,c3i];omega
end
def Fwd{α:Type}(c:A3)(r:Rs α):Prop:=match r with
 |.ok x=>Snd x.2/\x.2.Depth=c.Depth
 |.error e=>e≠0
theorem b6p{α β:Type}{r:Rs α}{f:α->A3->Rs β}{z:β × A3}(h:E2 r f=.ok z):∃x c',r=.ok (x,c')/\f x c'=.ok z:=by
 cases r with
 |error e=>cases h
 |ok x=>exact⟨x.1,x.2,rfl,h⟩
theorem a2u{α β γ:Type}(r:Rs α)(f:α->A3->Rs β)(g:β->A3->Rs γ):E2 (E2 r f) g=E2 r fun x c=>E2 (f x c) g:=by
 cases r<;>rfl
theorem a3u{α β:Type}(x:α × A3)(f:α->A3->Rs β):E2 (.ok x) f=f x.1 x.2:=rfl
theorem d6i{α:Type}{a:α × A3 × Int}{z:α × A3}(h:toR a=.ok z):a=(z.1,z.2,0):=by
 unfold toR at h;split at h
 ·cases h
 ·rename_i q;cases h;exact Prod.ext rfl (Prod.ext rfl (by simpa using q))
section
variable {α β:Type}{c:A3}
theorem Fwd.bind{r:Rs α}{f:α->A3->Rs β}(h:Fwd c r)(k:∀x c',r=.ok (x,c')->Snd c'->c'.Depth=c.Depth->Fwd c' (f x c')):Fwd c (E2 r f):=by
 cases r with
 |error e=>exact h
 |ok x=>
  have h2:=k x.1 x.2 rfl h.1 h.2;have hd:=h.2;show Fwd c (f x.1 x.2);cases hf:f x.1 x.2 with
  |error e=>rw[hf]at h2;exact h2
  |ok z=>rw[hf]at h2;exact⟨h2.1,by rw[h2.2,hd]⟩
theorem Fwd.err{e:Int}(h:e≠0):Fwd (α:=α) c (.error e):=h
theorem Fwd.ret(x:α)(h:Snd c):Fwd c (.ok (x,c)):=⟨h,rfl⟩
theorem Fwd.to{a:α × A3 × Int}(h:a.2.2=0->∃k:Int,a.2.1=a3c c k/\0<=k/\k<=c.End - c.At)(hc:Snd c):Fwd c (toR a):=by
 unfold toR;split
 ·rename_i q;exact q
 ·rename_i q;obtain⟨k,e,h1,h2⟩:=h (by simpa using q);have n0:=hc.n0;rw[e,b5o];exact⟨hc.adv ⟨h1,h2⟩ ⟨by omega,n0⟩,rfl⟩
end
section
variable {c:A3}(hc:Snd c)
 include hc
theorem Fwd.sp:Fwd c (spR c):=by
 unfold spR;split
 ·exact Fwd.err (by decide)
 ·exact⟨hc.adv (by have:=hc.a1;omega) (by omega),rfl⟩
theorem Fwd.num:Fwd c (toR (U4 c)):=by
 refine Fwd.to (fun h=>?_) hc;have hr:=(c6s (O5 c) 10 0 0 rfl).1;have hs:=hc.size;unfold U4 at h ⊢;split
 ·rename_i h1;rw[if_pos h1]at h;split
  ·exact⟨_,rfl,by omega,by omega⟩
  ·rename_i h2;rw[if_neg h2]at h;exact absurd h (show ¬((5:Int)=0) by decide)
 ·rename_i h1;rw[if_neg h1]at h;simp only at h;omega
theorem Fwd.byte:Fwd c (toR (a3z c)):=by
 refine Fwd.to (fun h=>?_) hc;unfold a3z at h ⊢;split
 ·rename_i h1;rw[hc.left]at h1;exact⟨1,rfl,by decide,by omega⟩
 ·rename_i h1;rw[if_neg h1]at h;exact absurd h (show ¬((4:Int)=0) by decide)
theorem Fwd.fix:Fwd c (toR (c7b c)):=by
 refine Fwd.to (fun h=>?_) hc;have hs:=hc.size;unfold c7b at h ⊢;split
 ·rename_i h1;exact⟨8,rfl,by decide,by omega⟩
 ·rename_i h1;rw[if_neg h1]at h;exact absurd h (show ¬((4:Int)=0) by decide)
theorem Fwd.tx(u:Int):Fwd c (txR u c):=by
 unfold txR;split
 ·exact Fwd.err (by decide)
 rename_i h0;rw[hc.left]at h0;refine Fwd.to (fun h=>?_) hc;unfold a8f at h ⊢;split
 ·rename_i h1;rw[if_pos h1]at h;exact absurd h (show ¬((1:Int)=0) by decide)
 rename_i h1;rw[if_neg h1]at h;split
 ·rename_i h2;rw[if_pos h2]at h;exact absurd h (show ¬((4:Int)=0) by decide)
 rename_i h2;rw[if_neg h2]at h;split
 ·rename_i h3;rw[if_pos h3]at h;exact absurd h (show ¬((3:Int)=0) by decide)
 ·exact⟨u,rfl,by omega,by omega⟩
theorem f7f(p:A6){k:Int}(t:Int)(h1:k≠1)(h6:k≠6)(h78:¬(k=7\/k=8))(hn:¬(k=2\/k=3\/k=4\/k=5\/k=9)):scR p k t c=.error 12:=by
 rw[scR,b51,if_neg h1,if_neg h6,if_neg h78,if_neg hn];rfl
theorem Fwd.sc(p:A6)(k t:Int):Fwd c (scR p k t c):=by
 by_cases h1:k=1
 ·subst h1;rw[g0k];refine Fwd.bind (Fwd.byte hc) fun b c' _ q _=>?_
  split
  ·exact Fwd.err (by decide)
  ·exact Fwd.ret _ q
 by_cases h6:k=6
 ·subst h6;rw[g0u];refine Fwd.bind (Fwd.fix hc) fun b c' _ q _=>?_
  split
  ·exact Fwd.err (by decide)
  ·exact Fwd.ret _ q
 by_cases h78:k=7\/k=8
 ·rw[f9i p k t h78];refine Fwd.bind (Fwd.num hc) fun b c' _ q _=>Fwd.bind (Fwd.tx q b) fun s c'' _ q2 _=>?_
  split
  ·exact Fwd.err (by decide)
  ·exact Fwd.ret _ q2
 by_cases hn:k=2\/k=3\/k=4\/k=5\/k=9
 ·rw[f82 p k t hn];refine Fwd.bind (Fwd.num hc) fun b c' _ q _=>?_
  split
  ·exact Fwd.err (by decide)
  split
  ·exact Fwd.err (by decide)
  ·exact Fwd.ret _ q
 ·rw[f7f hc p t h1 h6 h78 hn];exact Fwd.err (by decide)
theorem d4r{k b:Int}{s:ByteArray}(hk:0<=k/\k<=12)(hb:0<=b/\b<18446744073709551616)(hs:s.size<=140737488351232):OkD ⟨k,b,s,[],[],[],[]⟩:=by
 have z:Sz 0:=Nat.zero_le _;exact .mk _ (show I64 k from⟨by omega,by omega⟩) (show U64 b from⟨by omega,by omega⟩) hs z z z z (fun x hx=>by cases hx) (fun x hx=>by cases hx) (fun x hx=>by cases hx) (fun x hx=>by cases hx) (fun x hx=>by cases hx) (fun x hx=>by cases hx) ⟨z,z,z,z⟩
theorem f0k{p:A6}{k t:Int}{y:A0}{c':A3}(h:scR p k t c=.ok (y,c')):OkD y/\y.Kind=k/\1<=k/\k<=9:=by
 have hk:=hc.okc;have h0:=h;unfold scR at h
 by_cases h1:k=1
 ·subst h1;rw[g0k]at h0;obtain⟨x,c1,q1,q2⟩:=b6p h0;have br:=c23 c;rw[d6i q1]at br;simp only at br;split at q2
  ·cases q2
  ·cases q2;exact⟨d4r hc (by decide) (by omega) (by decide),rfl,by decide,by decide⟩
 by_cases h6:k=6
 ·subst h6;rw[g0u]at h0;obtain⟨x,c1,q1,q2⟩:=b6p h0;have br:=d7x c;rw[d6i q1]at br;simp only at br;split at q2
  ·cases q2
  ·cases q2;exact⟨d4r hc (by decide) (by omega) (by decide),rfl,by decide,by decide⟩
 by_cases h78:k=7\/k=8
 ·rw[f9i p k t h78]at h0;obtain⟨x,c1,q1,q2⟩:=b6p h0;obtain⟨s,c2,q3,q4⟩:=b6p q2;have hs1:Snd c1:=by have:=Fwd.num hc;rw[q1]at this;exact this.1
  split at q4
  ·cases q4
  ·cases q4;unfold txR at q3;split at q3
   ·cases q3
   have e3:=d6i q3;have hz:=d22 c1 hs1.okc x;rw[e3]at hz;exact⟨d4r hc (by omega) (by decide) hz,rfl,by omega,by omega⟩
 by_cases hn:k=2\/k=3\/k=4\/k=5\/k=9
 ·rw[f82 p k t hn]at h0;obtain⟨x,c1,q1,q2⟩:=b6p h0;have br:=d3g k c;rw[d6i q1]at br;simp only at br;split at q2
  ·cases q2
  split at q2
  ·cases q2
  ·cases q2;exact⟨d4r hc (by omega) br (by decide),rfl,by omega,by omega⟩
 ·rw[f7f hc p t h1 h6 h78 hn]at h0;cases h0
end
def d8z{α:Type}(p:A6)(r:Rs α)(y:B0 × (α × Int)):Prop:=match r with
 |.ok x=>y=(⟨p,x.2⟩,x.1,0)
 |.error e=>e≠0/\y.2.2=e
def h1a(p:A6)(r:Rs (A0 × Bool))(y:B0 × (A0 × Bool × Int)):Prop:=match r with
 |.ok x=>y=(⟨p,x.2⟩,x.1.1,x.1.2,0)
 |.error e=>e≠0/\y.2.2.2=e
theorem ne0{e:Int}(h:e≠0):(e !=0)=true:=by simpa using h
section
variable {p:A6}(hp:OkX p)
variable {c:A3}(hc:Snd c)
 include hc
theorem d5f:Ex (fun y:B0 × Int=>match spR c with|.ok x=>y=(⟨p,x.2⟩,0)|.error e=>e≠0/\y.2=e) (a1z ⟨p,c⟩ 1):=by
 have n0:=hc.n0;have n1:=hc.n1;unfold spR
 by_cases h:c.Nodes<1
 ·rw[if_pos h];exact⟨_,a9z _ _ _ ⟨_,b5r _ _ _ ⟨fun h=>by simp at h,fun _=>⟨fun _=>rfl,fun q=>absurd h (of_decide_eq_false q)⟩⟩,rfl⟩,by decide,rfl⟩
 ·rw[if_neg h];refine⟨_,a9z _ _ _ ⟨_,b5r _ _ _ ⟨fun h=>by simp at h,fun _=>⟨fun q=>absurd (of_decide_eq_true q) h,fun _=>rfl⟩⟩,rfl⟩,?_⟩;simp only[adv,Int.add_zero];rw[wI,C9 (by omega)]
theorem e2q:Ex (d8z p (cnR c)) (a5b ⟨p,c⟩):=by
 have hn:=c96 c hc.okc;have hr:=b55 c;have e:cnR c=E2 (toR (U4 c)) fun u c=>if 4096<u then .error 3 else if 0<u then E2 (spR c) fun _ c=>.ok (u,c) else .ok (u,c):=rfl
 have hf:=Fwd.num hc;refine B5 (b9f _) (c28 hn (B3 _ (fun h=>D8 ?_) fun h=>E9 (fun h2=>D8 ?_) fun h2=>E9 (fun h3=>?_) fun h3=>D8 ?_))
 ·have q:(U4 c).2.2≠0:=by simpa using h
  rw[e,b15,if_pos q];exact⟨q,rfl⟩
 all_goals
  have q:¬(U4 c).2.2≠0:=by simpa using h
  rw[e,b15,if_neg q]
 ·rw[if_pos h2];exact⟨by decide,rfl⟩
 ·rw[if_neg h2,if_pos h3]
  have hs:Snd (U4 c).2.1:=by
   unfold toR at hf;rw[if_neg q]at hf;exact hf.1
  refine E1 (d5f (p:=p) hs) fun y hy=>D8 ?_
  cases hsp:spR (U4 c).2.1 with
  |error e=>rw[hsp]at hy;exact⟨hy.1,hy.2⟩
  |ok x=>
   rw[hsp]at hy;simp only at hy;rw[hy];show _=_;rw[wI,C9 (by omega)]
 ·rw[if_neg h2,if_neg h3];show _=_;rw[wI,C9 (by omega)];have:(U4 c).2.2=0:=by simpa using h
  rw[this]
end
section
variable {p:A6}(hp:OkX p) {m:Nat}{M:RdM}
variable (hM:∀(t:Int) (g:B9) (c:A3),p.Progs[t.toNat]? =some g->0<=t->Snd c->c.Depth<=m->Ex (d8z p (M t c)) (X0 ⟨p,c⟩ t))
variable (hF:∀(t:Int) (g:B9) (c:A3),p.Progs[t.toNat]? =some g->0<=t->Snd c->Fwd c (M t c))
 include hp hM
theorem c4p{c:A3}(hc:Snd c)(hd:c.Depth<=m)(o:GOp)(ho:OpG p o):Ex (d8z p (elR M p o.Kind o.Target c)) (H1 ⟨p,c⟩ o):=by
 refine B5 (b8x _ _) (B3 _ (fun h=>?_) fun h=>E1 (d5f (p:=p) hc) fun y hy=>?_)
 ·have hk:o.Kind=10:=by simpa using h
  obtain⟨g,hg,t0⟩:=ho hk;refine E1 (hM _ g c hg t0 hc hd) fun y hy=>D8 ?_
  rw[elR,if_pos hk];exact hy
 ·have hk:¬o.Kind=10:=by simpa using h
  have hs:=Fwd.sp hc;rw[elR,if_neg hk];cases hsp:spR c with
  |error e=>
   rw[hsp]at hy;refine B3 _ (fun _=>D8 ⟨hy.1,hy.2⟩) fun q=>?_
   rw[hy.2]at q;exact absurd (ne0 hy.1) (by rw[q];simp)
  |ok x=>
   rw[hsp]at hy hs;simp only at hy;subst hy;refine B3 _ (fun q=>by simp at q) fun _=>c28 (f2t p hp.e o x.2 hs.1.okc) (D8 ?_)
   simp only[E2,scR,toR];split
   ·rename_i q;exact⟨q,rfl⟩
   ·rename_i q;have q':(b51 p o.Kind o.Target x.2).2.2=0:=by simpa using q
    show _=_;rw[q']
 include hF
 omit hp hM in
theorem c7c{c:A3}(hc:Snd c)(o:GOp)(ho:OpG p o):Fwd c (elR M p o.Kind o.Target c):=by
  unfold elR;split
  · rename_i hk
    obtain⟨g,hg,t0⟩:=ho hk;exact hF _ g c hg t0 hc
  · exact Fwd.bind (Fwd.sp hc) fun _ c' _ q _=>Fwd.sc q p _ _
theorem e7u(o:GOp)(ho:OpG p o)(y1:B0 × (Int × Int))(n:Nat)(hn:y1.2.1=n)(hn2:n<=4096):∀(d i:Nat) (acc:List A0) (c:A3),i+d=n->acc.length=i->Snd c->c.Depth<=m->Ex (d8z p (E2 (lsR M p o.Kind o.Target d c) fun l c=>.ok (⟨11,0,⟨#[]⟩,acc++l,[],[],[]⟩,c))) (a2k i y1 p.Progs p.Enums c.Data c.At c.End c.Depth c.Nodes c.Text o acc):=by
 intro d
 induction d with
 |zero=>
  intro i acc c hi ha hc hd;refine B5 (a7j _ _ _ _ _ _ _ _ _ _ _ _) (E9 (fun h=>?_) fun _=>D8 ?_)
  ·rw[hn]at h;omega
  ·simp only[lsR,E2,d8z,List.append_nil]
 |succ d ih=>
  intro i acc c hi ha hc hd;refine B5 (a7j _ _ _ _ _ _ _ _ _ _ _ _) (E9 (fun _=>E1 (c4p hp hM hc hd o ho) fun y hy=>?_) fun h=>?_)
  ·rw[lsR,a2u];have hf:=c7c hF hc o ho;cases he:elR M p o.Kind o.Target c with
   |error e=>
    rw[he]at hy;refine B3 _ (fun _=>D8 ⟨hy.1,hy.2⟩) fun q=>?_
    rw[hy.2]at q;exact absurd (ne0 hy.1) (by rw[q];simp)
   |ok x=>
    rw[he]at hy hf;have hy:y=(⟨p,x.2⟩,x.1,0):=hy;subst hy;refine B3 _ (fun q=>by simp at q) fun _=>D9 (by simp;omega) ?_
    have e1:wI ((i:Int)+1)=((i+1:Nat):Int):=by rw[wI,C9 (by omega)];omega
    rw[e1];have:=ih (i+1) (acc++[x.1]) x.2 (by omega) (by simp;omega) hf.1 (by rw[hf.2];exact hd);rw[a3u,a2u];simp only[a3u,List.append_assoc,List.singleton_append]at this ⊢;exact this
  ·rw[hn]at h;omega
 omit hp hM hF in
theorem e1j{c:A3}(hc:Snd c):Fwd c (cnR c)/\∀z,cnR c=.ok z->0<=z.1/\z.1<=4096:=by
  have hr:=b55 c;have e:cnR c=E2 (toR (U4 c)) fun u c=>if 4096<u then .error 3 else if 0<u then E2 (spR c) fun _ c=>.ok (u,c) else .ok (u,c):=rfl
  refine⟨?_,fun z hz=>?_⟩
  · rw[e]
    refine Fwd.bind (Fwd.num hc) fun u c' _ q _=>?_
    split
    · exact Fwd.err (by decide)
    split
    · exact Fwd.bind (Fwd.sp q) fun _ c'' _ q2 _=>Fwd.ret _ q2
    · exact Fwd.ret _ q
  · rw[e]at hz
    obtain⟨u,c',h1,h2⟩:=b6p hz;have h3:=d6i h1;rw[h3]at hr;simp only at hr;split at h2
    · cases h2
    split at h2
    · obtain⟨_,c2,_,h4⟩:=b6p h2
      cases h4;simp only;omega
    · cases h2
      simp only;omega
theorem g19{c:A3}(hc:Snd c)(hd:c.Depth<=m)(o:GOp)(ho:OpG p o):Ex (d8z p (E2 (cnR c) fun n c=>E2 (lsR M p o.Kind o.Target n.toNat c) fun l c=>.ok (⟨11,0,⟨#[]⟩,l,[],[],[]⟩,c))) (a0x ⟨p,c⟩ o):=by
 refine B5 (c0z _ _) (E1 (e2q hc) fun y hy=>?_);obtain⟨hf,hl⟩:=e1j hc;cases he:cnR c with
 |error e=>
  rw[he]at hy;refine B3 _ (fun _=>D8 ⟨hy.1,hy.2⟩) fun q=>?_
  rw[hy.2]at q;exact absurd (ne0 hy.1) (by rw[q];simp)
 |ok x=>
  rw[he]at hy hf;have hy:y=(⟨p,x.2⟩,x.1,0):=hy;have hx:=hl x he;subst hy;refine B3 _ (fun q=>by simp at q) fun _=>?_
  have:=e7u hp hM hF o ho (⟨p,x.2⟩,x.1,0) x.1.toNat (by simp only;omega) (by omega) x.1.toNat 0 [] x.2 (by omega) rfl hf.1 (by rw[hf.2];exact hd);rw[a3u];simp only[List.nil_append]at this;exact this
def h2s(a:Option A0)(acc:List (A0 × A0)):Prop:=match a with
 |none=>acc=[]
 |some k=>OkD k/\acc≠[]/\∃z,acc[acc.length - 1]? =some z/\z.1=k
theorem e3z(o:GOp)(ho:OpG p o)(hkey:o.Key≠10)(y1:B0 × (Int × Int))(n:Nat)(hn:y1.2.1=n)(hn2:n<=4096):∀(d i:Nat) (a:Option A0) (acc:List (A0 × A0)) (c:A3),i+d=n->acc.length=i->h2s a acc->Snd c->c.Depth<=m->Ex (d8z p (E2 (prR M p o.Key o.Kind o.Target d a c) fun l c=>.ok (⟨12,0,⟨#[]⟩,[],acc++l,[],[]⟩,c))) (Y7 i y1 p.Progs p.Enums c.Data c.At c.End c.Depth c.Nodes c.Text o acc):=by
 intro d
 induction d with
 |zero=>
  intro i a acc c hi ha hk hc hd;refine B5 (a6u _ _ _ _ _ _ _ _ _ _ _ _) (E9 (fun h=>?_) fun _=>D8 ?_)
  ·rw[hn]at h;omega
  ·simp only[prR,E2,d8z,List.append_nil]
 |succ d ih=>
  intro i a acc c hi ha hk hc hd;have hok:OpG p (⟨0,⟨#[]⟩,⟨#[]⟩,0,0,o.Key, -1,0⟩:GOp):=fun h=>absurd h hkey
  refine B5 (a6u _ _ _ _ _ _ _ _ _ _ _ _) (E9 (fun _=>E1 (c4p hp hM hc hd _ hok) fun y hy=>?_) fun h=>?_)
  rotate_left
  ·rw[hn]at h;omega
  rw[prR,a2u];have hf:=c7c (p:=p) hF hc _ hok;simp only at hy hf;cases he:elR M p o.Key (-1) c with
  |error e=>
   rw[he]at hy;refine B3 _ (fun _=>D8 ⟨hy.1,hy.2⟩) fun q=>?_
   rw[hy.2]at q;exact absurd (ne0 hy.1) (by rw[q];simp)
  |ok x=>
   rw[he]at hy hf;have hy:y=(⟨p,x.2⟩,x.1,0):=hy;subst hy
   have hv:OkD x.1:=by
    rw[elR,if_neg hkey]at he;obtain⟨_,c1,h1,h2⟩:=b6p he;have h3:=Fwd.sp hc;rw[h1]at h3;exact(f0k h3.1 h2).1
   have hd2:x.2.Depth<=m:=by rw[hf.2];exact hd
   refine B3 _ (fun q=>by simp at q) fun _=>?_
   -- whether the key ascends
   have good:upK a x.1->Ex (d8z p (E2 (E2 (elR M p o.Kind o.Target x.2) fun y c=>E2 (prR M p o.Key o.Kind o.Target d (some x.1) c) fun l c=>.ok ((x.1,y)::l,c)) fun l c=>.ok (⟨12,0,⟨#[]⟩,[],acc++l,[],[]⟩,c))) fun r=>∃y8,H1 ⟨p,x.2⟩ o y8/\(((y8.2.2 !=0)=true->r=(y8.1,(⟨12,0,(⟨#[]⟩:ByteArray),([]:(List A0)),acc,([]:(List (Int × A0))),([]:(List H9))⟩:A0),y8.2.2))/\((y8.2.2 !=0)=false->(acc.length+[(x.1,y8.2.1)].length)*256<=140737488355328/\(Y7 (wI (i+1)) y1 y8.1.p.Progs y8.1.p.Enums y8.1.c.Data y8.1.c.At y8.1.c.End y8.1.c.Depth y8.1.c.Nodes y8.1.c.Text o (acc++[(x.1,y8.2.1)]) r))):=by
    intro _;refine E1 (c4p hp hM hf.1 hd2 o ho) fun y8 hy8=>?_
    have hf2:=c7c hF hf.1 o ho;rw[a2u];cases he2:elR M p o.Kind o.Target x.2 with
    |error e=>
     rw[he2]at hy8;refine B3 _ (fun _=>D8 ⟨hy8.1,hy8.2⟩) fun q=>?_
     rw[hy8.2]at q;exact absurd (ne0 hy8.1) (by rw[q];simp)
    |ok z=>
     rw[he2]at hy8 hf2;have hy8:y8=(⟨p,z.2⟩,z.1,0):=hy8;subst hy8;refine B3 _ (fun q=>by simp at q) fun _=>D9 (by simp;omega) ?_
     have e1:wI ((i:Int)+1)=((i+1:Nat):Int):=by rw[wI,C9 (by omega)];omega
     rw[e1];have:=ih (i+1) (some x.1) (acc++[(x.1,z.1)]) z.2 (by omega) (by simp;omega) ⟨hv,by simp,(x.1,z.1),by simp,rfl⟩ hf2.1 (by rw[hf2.2];exact hd2);rw[a3u,a2u];simp only[a3u,List.append_assoc,List.singleton_append]at this ⊢;exact this
   have bad:¬upK a x.1->d8z p (E2 (.error 5:Rs (List (A0 × A0))) fun l c=>.ok ((⟨12,0,⟨#[]⟩,[],acc++l,[],[]⟩:A0),c)) (⟨p,x.2⟩,(⟨12,0,⟨#[]⟩,[],acc,[],[]⟩:A0),5):=fun _=>⟨by decide,rfl⟩
   refine C5 ?_;rw[a3u];cases a with
   |none=>
    have hk:acc=[]:=hk;have e0:i=0:=by rw[<-ha,hk];rfl
    refine E9 (fun h=>by omega) fun _=>?_
    refine B3 false (fun q=>by cases q) fun _=>?_
    have hu:upK none x.1:=rfl;rw[if_pos hu];exact good hu
   |some b=>
    obtain⟨hb,hne,z,hz,ez⟩:=hk;have hpos:0<acc.length:=List.length_pos_iff.2 hne;have e1:wI ((i:Int) - 1)=((acc.length - 1:Nat):Int):=by rw[wI,C9 (by omega)];omega
    refine E9 (fun _=>?_) fun h=>by omega
    rw[e1];refine a3s z (by simpa using hz) (by omega) ?_;rw[ez];refine c28 (c68 _ b x.1 hb hv (Nat.le_refl _)) ?_
    by_cases hu:upK (some b) x.1
    ·have hu':Z4 (SizeOf.sizeOf b) b x.1<0:=of_decide_eq_true hu;rw[if_pos hu];refine E9 (fun q=>by omega) fun _=>good hu
    ·have hu':¬Z4 (SizeOf.sizeOf b) b x.1<0:=fun w=>hu (decide_eq_true w)
     rw[if_neg hu];refine E9 (fun _=>D8 ⟨by decide,rfl⟩) fun q=>by omega
theorem f48{c:A3}(hc:Snd c)(hd:c.Depth<=m)(o:GOp)(ho:OpG p o)(hkey:o.Key≠10):Ex (d8z p (E2 (cnR c) fun n c=>E2 (prR M p o.Key o.Kind o.Target n.toNat none c) fun l c=>.ok (⟨12,0,⟨#[]⟩,[],l,[],[]⟩,c))) (Z8 ⟨p,c⟩ o):=by
 refine B5 (b8n _ _) (E1 (e2q hc) fun y hy=>?_);obtain⟨hf,hl⟩:=e1j hc;cases he:cnR c with
 |error e=>
  rw[he]at hy;refine B3 _ (fun _=>D8 ⟨hy.1,hy.2⟩) fun q=>?_
  rw[hy.2]at q;exact absurd (ne0 hy.1) (by rw[q];simp)
 |ok x=>
  rw[he]at hy hf;have hy:y=(⟨p,x.2⟩,x.1,0):=hy;have hx:=hl x he;subst hy;refine B3 _ (fun q=>by simp at q) fun _=>?_
  have:=e3z hp hM hF o ho hkey (⟨p,x.2⟩,x.1,0) x.1.toNat (by simp only;omega) (by omega) x.1.toNat 0 none [] x.2 (by omega) rfl rfl hf.1 (by rw[hf.2];exact hd);rw[a3u];simp only[List.nil_append]at this;exact this
theorem e4a{g:B9}(hg:g∈p.Progs)(o:GOp)(ho:OpG p o)(hm3:o.Kind=10->o.Card≠3)(v:A0)(c0 c:A3)(b e:Int)(hc:Snd c)(hd:c.Depth<=m):∀(d i:Nat),v.Slots.length - i<=d->i<=v.Slots.length->v.Slots.length<=140737488351232->Ex (h1a p (if c76 g (v.Slots.drop i) o=true then .error 15 else E2 (elR M p o.Kind o.Target c) fun x c=>if o.Card=3/\b85 x=true then .error 5 else .ok ((x,true),c))) (a1l i v ⟨p,c0⟩ (b,c,e) g o):=by
 have fin:Ex (h1a p (E2 (elR M p o.Kind o.Target c) fun x c=>if o.Card=3/\b85 x=true then .error 5 else .ok ((x,true),c))) fun r=>∃y6,H1 (⟨p,c⟩:B0) o y6/\(∃R2:Bool->Prop,(∀bz2:Bool,R2 bz2->((bz2=true->r=(y6.1,y6.2.1,true,5))/\(bz2=false->r=(y6.1,y6.2.1,true,y6.2.2))))/\((((y6.2.2==0)&&(o.Card==3))=true->∃y7,a7d y6.2.1 y7/\(R2 y7))/\(((y6.2.2==0)&&(o.Card==3))=false->R2 false))):=by
  refine E1 (c4p hp hM hc hd o ho) fun y hy=>C5 ?_
  cases he:elR M p o.Kind o.Target c with
  |error e=>
   rw[he]at hy;refine B3 _ (fun q=>?_) fun _=>B3 false (fun q=>by cases q) fun _=>D8 ⟨hy.1,hy.2⟩
   simp only[Bool.and_eq_true,beq_iff_eq]at q;exact absurd (hy.2.symm.trans q.1) hy.1
  |ok x=>
   rw[he]at hy;have hy:y=(⟨p,x.2⟩,x.1,0):=hy;subst hy;rw[a3u];refine B3 _ (fun q=>?_) fun q=>B3 false (fun q=>by cases q) fun _=>D8 ?_
   ·have h3:o.Card=3:=by simpa using q
    have hk:o.Kind≠10:=fun hk=>hm3 hk h3
    have hv:OkD x.1:=by
     rw[elR,if_neg hk]at he;obtain⟨_,c1,h1,h2⟩:=b6p he;have h4:=Fwd.sp hc;rw[h1]at h4;exact(f0k h4.1 h2).1
    refine c28 (f2j x.1 hv.okv) (B3 _ (fun z=>D8 ?_) fun z=>D8 ?_)
    ·rw[if_pos ⟨h3,z⟩];exact⟨by decide,rfl⟩
    ·rw[if_neg (fun w=>by rw[z]at w;exact absurd w.2 (by decide))];rfl
   ·have h3:¬o.Card=3:=by simpa using q
    rw[if_neg (fun w=>h3 w.1)];rfl
 intro d
 induction d with
 |zero=>
  intro i hi hle hz;refine B5 (a6m _ _ _ _ _ _) (E9 (fun h=>by omega) fun _=>?_);rw[List.drop_eq_nil_of_le (by omega)];exact fin
 |succ d ih=>
  intro i hi hle hz;refine B5 (a6m _ _ _ _ _ _) (E9 (fun h=>?_) fun h=>?_)
  ·have hlt:i<v.Slots.length:=by omega
   have dl:v.Slots.drop i=v.Slots[i]::v.Slots.drop (i+1):=List.drop_eq_getElem_cons hlt;have e1:wI ((i:Int)+1)=((i+1:Nat):Int):=by rw[wI,C9 (by omega)];omega
   refine a3s v.Slots[i] (by simp) (by omega) (c28 (e9y g (hp.ops hg) _) (B3 _ (fun q=>D8 ?_) fun q=>?_))
   ·rw[if_pos]
    ·exact⟨by decide,rfl⟩
    ·rw[dl,c76,List.any_cons,Bool.or_eq_true];refine .inl ?_;simp only[Bool.and_eq_true,decide_eq_true_eq,beq_iff_eq]at q ⊢;exact⟨q.1.1,q.1.2,q.2⟩
   ·rw[e1];have:=ih (i+1) (by omega) (by omega) hz
    have ej:c76 g (v.Slots.drop i) o=c76 g (v.Slots.drop (i+1)) o:=by
     rw[dl,c76,List.any_cons]
     have:((opV g v.Slots[i].1).2&&(decide (0<=o.Union)&&decide ((opV g v.Slots[i].1).1.Union=o.Union)))=false:=by
      rw[<-q,Bool.and_assoc]
      congr 2
     rw[this,Bool.false_or];rfl
    rw[ej];exact this
  ·rw[List.drop_eq_nil_of_le (by omega)];exact fin
theorem f3q{g:B9}(hg:g∈p.Progs)(o:GOp)(ho:OpG p o)(hm3:o.Kind=10->o.Card≠3)(sl:List (Int × A0))(hsl:sl.length<=140737488351232){c:A3}(hc:Snd c)(hd:c.Depth<=m):Ex (h1a p (myR M p g sl o c)) (Z9 ⟨p,c⟩ g ⟨10,0,⟨#[]⟩,[],[],sl,[]⟩ o):=by
 have hb:=e6z c hc.okc;have hf:=Fwd.byte hc;have hr:=c23 c;refine B5 (b9m _ _ _ _) (c28 hb (B3 _ (fun h=>D8 ?_) fun h=>E9 (fun h2=>D8 ?_) fun h2=>B3 _ (fun h3=>D8 ?_) fun h3=>?_))
 ·have q:(a3z c).2.2≠0:=by simpa using h
  rw[myR,b15,if_pos q];exact⟨q,rfl⟩
 all_goals
  have q:¬(a3z c).2.2≠0:=by simpa using h
  rw[myR,b15,if_neg q]
 ·rw[if_pos h2];exact⟨by decide,rfl⟩
 ·have h3':(a3z c).1=0:=by simpa using h3
  rw[if_neg h2,if_pos h3'];rfl
 ·have h3':¬(a3z c).1=0:=by simpa using h3
  rw[if_neg h2,if_neg h3'];unfold toR at hf;rw[if_neg q]at hf;exact e4a hp hM hF hg o ho hm3 ⟨10,0,⟨#[]⟩,[],[],sl,[]⟩ c (a3z c).2.1 (a3z c).1 (a3z c).2.2 hf.1 (by rw[hf.2];exact hd) _ 0 (Nat.le_refl _) (by omega) hsl
theorem d4a{α:Type}{Q:α->Prop}{g:B9}(hg:g∈p.Progs)(o:GOp)(ho:o∈g.Ops)(sl:List (Int × A0))(hsl:sl.length<=140737488351232){c:A3}(hc:Snd c)(hd:c.Depth<=m)(G:Bool->Int->B0->A0->α->Prop)
  (h1:∀x,fdR M p g sl o c=.ok x->Ex Q (G x.1.2 0 ⟨p,x.2⟩ x.1.1)) (h2:∀e,fdR M p g sl o c=.error e->e≠0->∀b y z,Ex Q (G b e y z)):
  Ex Q (fun r=>((o.Card==1)=true->∃y,H1 ⟨p,c⟩ o y/\G true y.2.2 y.1 y.2.1 r)/\((o.Card==1)=false->((o.Card==4)=true->∃y,a0x ⟨p,c⟩ o y/\G (decide (0<(y.2.1.List_.length:Int))) y.2.2 y.1 y.2.1 r)/\((o.Card==4)=false->((o.Card==5)=true->∃y,Z8 ⟨p,c⟩ o y/\G (decide (0<(y.2.1.Pairs.length:Int))) y.2.2 y.1 y.2.1 r)/\((o.Card==5)=false->∃y,Z9 ⟨p,c⟩ g ⟨10,0,⟨#[]⟩,[],[],sl,[]⟩ o y/\G y.2.2.1 y.2.2.2 y.1 y.2.1 r)))):=by
 have hof:=(hp.va.pro g hg).2 _ ho
 have hog:OpG p o:=fun hk=>by
  obtain⟨t0,t1,_⟩:=hof.msg hk;exact⟨_,List.getElem?_eq_getElem (show o.Target.toNat<p.Progs.length by omega),t0⟩
 refine B3 _ (fun k1=>?_) fun k1=>B3 _ (fun k4=>?_) fun k4=>B3 _ (fun k5=>?_) fun k5=>?_
 ·have c1:o.Card=1:=by simpa using k1
  refine E1 (c4p hp hM hc hd o hog) fun y hy=>?_
  have ef:fdR M p g sl o c=E2 (elR M p o.Kind o.Target c) fun x c=>.ok ((x,true),c):=by rw[fdR,if_pos c1]
  cases he:elR M p o.Kind o.Target c with
  |error e=>
   rw[he]at hy ef;have:=h2 e ef hy.1 true y.1 y.2.1;rw[hy.2];exact this
  |ok x=>
   rw[he]at hy ef;have hy:y=(⟨p,x.2⟩,x.1,0):=hy;subst hy;exact h1 _ ef
 all_goals have c1:¬o.Card=1:=by simpa using k1
 ·have c4:o.Card=4:=by simpa using k4
  refine E1 (g19 hp hM hF hc hd o hog) fun y hy=>?_
  have ef:fdR M p g sl o c=E2 (E2 (cnR c) fun n c=>E2 (lsR M p o.Kind o.Target n.toNat c) fun l c=>.ok ((⟨11,0,⟨#[]⟩,l,[],[],[]⟩:A0),c)) fun x c=>.ok ((x,decide (0<(x.List_.length:Int))),c):=by
   rw[fdR,if_neg c1,if_pos c4,a2u]
   congr 1
   funext n c
   rw[a2u]
   congr 1
   funext l c
   simp only[E2,d5l]
  cases he:E2 (cnR c) fun n c=>E2 (lsR M p o.Kind o.Target n.toNat c) fun l c=>.ok ((⟨11,0,⟨#[]⟩,l,[],[],[]⟩:A0),c) with
  |error e=>
   rw[he]at hy ef;have:=h2 e ef hy.1 (decide (0<(y.2.1.List_.length:Int))) y.1 y.2.1;rw[hy.2];exact this
  |ok x=>
   rw[he]at hy ef;have hy:y=(⟨p,x.2⟩,x.1,0):=hy;subst hy;exact h1 _ ef
 all_goals have c4:¬o.Card=4:=by simpa using k4
 ·have c5:o.Card=5:=by simpa using k5
  have hkey:o.Key≠10:=by have:=hof.key.2 c5;omega
  refine E1 (f48 hp hM hF hc hd o hog hkey) fun y hy=>?_
  have ef:fdR M p g sl o c=E2 (E2 (cnR c) fun n c=>E2 (prR M p o.Key o.Kind o.Target n.toNat none c) fun l c=>.ok ((⟨12,0,⟨#[]⟩,[],l,[],[]⟩:A0),c)) fun x c=>.ok ((x,decide (0<(x.Pairs.length:Int))),c):=by
   rw[fdR,if_neg c1,if_neg c4,if_pos c5,a2u]
   congr 1
   funext n c
   rw[a2u]
   congr 1
   funext l c
   simp only[E2,d5l]
  cases he:E2 (cnR c) fun n c=>E2 (prR M p o.Key o.Kind o.Target n.toNat none c) fun l c=>.ok ((⟨12,0,⟨#[]⟩,[],l,[],[]⟩:A0),c) with
  |error e=>
   rw[he]at hy ef;have:=h2 e ef hy.1 (decide (0<(y.2.1.Pairs.length:Int))) y.1 y.2.1;rw[hy.2];exact this
  |ok x=>
   rw[he]at hy ef;have hy:y=(⟨p,x.2⟩,x.1,0):=hy;subst hy;exact h1 _ ef
 ·have c5:¬o.Card=5:=by simpa using k5
  have ef:fdR M p g sl o c=myR M p g sl o c:=by rw[fdR,if_neg c1,if_neg c4,if_neg c5]
  refine E1 (f3q hp hM hF hg o hog (fun hk=>(hof.msg hk).2.2) sl hsl hc hd) fun y hy=>?_
  cases he:myR M p g sl o c with
  |error e=>
   rw[he]at hy ef;have:=h2 e ef hy.1 y.2.2.1 y.1 y.2.1;rw[hy.2];exact this
  |ok x=>
   rw[he]at hy ef;have hy:y=(⟨p,x.2⟩,x.1.1,x.1.2,0):=hy;subst hy;exact h1 _ ef
end
theorem f72{α:Type}(f:α->Bool):∀(l:List α) (i:Int),0<=i->c43 f l i<i+l.length
 |[],i,h=>by simp[c43];omega
 |x::l,i,h=>by
  have ih:=f72 f l (i+1) (by omega)
  by_cases e:f x=true
  ·have:c43 f (x::l) i=i:=by simp only[c43];rw[if_pos e]
   rw[this];simp;omega
  ·have:c43 f (x::l) i=c43 f l (i+1):=by simp only[c43];rw[if_neg e]
   rw[this];simp;omega
theorem d92(p:A6)(name:ByteArray)(h:(X2 p name).2=true):0<=(X2 p name).1/\∃g,p.Progs[(X2 p name).1.toNat]? =some g:=by
 have h1:0<=c43 (fun g:B9=>decide (g.Name=name)) p.Progs 0:=by simpa[X2]using h
 have h2:=f72 (fun g:B9=>decide (g.Name=name)) p.Progs 0 (Int.le_refl _);have h3:(X2 p name).1=c43 (fun g:B9=>decide (g.Name=name)) p.Progs 0:=by simp only[X2];omega
 rw[h3];have hlt:(c43 (fun g:B9=>decide (g.Name=name)) p.Progs 0).toNat<p.Progs.length:=by omega
 exact⟨h1,_,List.getElem?_eq_getElem hlt⟩
noncomputable def a94(p:A6)(name:ByteArray)(v:A0):ByteArray × Int:=
 if(X2 p name).2=false then(⟨#[]⟩,10)
 else if c73 p (SizeOf.sizeOf v) (X2 p name).1 v≠0 then(⟨#[]⟩,c73 p (SizeOf.sizeOf v) (X2 p name).1 v)
 else if X5 (SizeOf.sizeOf v) v=true then(⟨#[]⟩,18)
 else if 65536<(Q8 p (SizeOf.sizeOf v) (X2 p name).1 (F7 p (SizeOf.sizeOf v) (X2 p name).1 v)).size then(⟨#[]⟩,3)
 else(Q8 p (SizeOf.sizeOf v) (X2 p name).1 (F7 p (SizeOf.sizeOf v) (X2 p name).1 v),0)
section
variable {p:A6}(hp:OkX p) (name:ByteArray) {v:A0}(hv:OkD v) (hw:wtV v<=134217728)
 include hp hv hw
theorem g9q(t:Int)(g:B9)(hgt:p.Progs[t.toNat]? =some g)(ht:0<=t)(h:c73 p (SizeOf.sizeOf v) t v=0):NfV p (SizeOf.sizeOf v) t (F7 p (SizeOf.sizeOf v) t v)/\a98 p (SizeOf.sizeOf v) t v 1=0/\(Q8 p (SizeOf.sizeOf v) t (F7 p (SizeOf.sizeOf v) t v)).size<=140737488355328:=by
 obtain⟨h1,h2⟩:=b9y h;have h3:=e9c hp _ t g v 1 hgt ht hv (Nat.le_refl _) h1;have h4:=d8p hp _ _ _ h3;have h5:=e5z p (SizeOf.sizeOf v) t v;exact⟨h3,h1,by omega⟩
theorem f1a:b9z p name v (a94 p name v):=by
 have hpl:=D6 hp.pl.np;refine d1f _ _ _ _ ⟨_,d1l p hpl name,fun h=>?_,fun h=>?_⟩
 ·rw[a94,if_pos (by simpa using h)]
 have hf:(X2 p name).2=true:=by simpa using h
 obtain⟨t0,g,hgt⟩:=d92 p name hf;refine⟨_,f5p hp _ _ g v hgt t0 hv (Nat.le_refl _) (by omega),fun h2=>?_,fun h2=>?_⟩
 ·rw[a94,if_neg (by simp[hf]),if_pos (by simpa using h2)]
 have h2':c73 p (SizeOf.sizeOf v) (X2 p name).1 v=0:=by simpa using h2
 refine⟨_,c8u _ v hv (Nat.le_refl _),fun h3=>?_,fun h3=>?_⟩
 ·rw[a94,if_neg (by simp[hf]),if_neg (by omega),if_pos h3]
 obtain⟨hnf,hmsg,hsz⟩:=g9q hp hv hw _ g hgt t0 h2';refine⟨_,f46 hp _ _ g v hgt t0 hv (Nat.le_refl _) ⟨_,Nat.le_refl _,by simpa using h3⟩,_,d68 hp _ _ _ [] hnf (by simpa using hsz),fun h4=>?_,fun h4=>⟨_,by rw[List.nil_append],?_⟩⟩
 ·rw[a94,if_neg (by simp[hf]),if_neg (by omega),if_neg (nt h3),if_pos];simp only[List.nil_append,b04,decide_eq_true_eq]at h4;omega
 ·rw[a94,if_neg (by simp[hf]),if_neg (by omega),if_neg (nt h3),if_neg];simp only[List.nil_append,b04,decide_eq_false_iff_not]at h4;omega
end
theorem b5t.oke{p:A6}(h:b5t p):OkE p:=⟨D6 h.ne,fun y hy=>⟨D6 (h.enums y hy).ni,fun it hit=>⟨((h.enums y hy).items it hit).num.1,((h.enums y hy).items it hit).num.2⟩⟩⟩
theorem c9z(p:A6)(hp:b5t p):∃b,b4d p b/\(b=true->OkX p):=by
 obtain⟨y,h1,h2⟩:=g0a p hp;rcases Bool.eq_false_or_eq_true ((decide ((p.Progs.length:Int)<=8))&&(decide ((p.Enums.length:Int)<=8))) with h|h
 ·exact⟨_,b6b _ _ ⟨fun _=>⟨y,h1,rfl⟩,fun q=>(by rw[h]at q;cases q)⟩,fun hb=>⟨hp.oke,hp,h2 (by simpa using hb)⟩⟩
 ·exact⟨false,b6b _ _ ⟨fun q=>(by rw[h]at q;cases q),fun _=>rfl⟩,fun hb=>by cases hb⟩
theorem e1r(v:A0)(hv:OkD v):b6k v (decide (wI (a2h (SizeOf.sizeOf v) v)<=5000)):=c79 _ _ ⟨_,b5u _ v hv (Nat.le_refl _),rfl⟩
theorem h0a(z:A0):(⟨z.Kind,z.Bits,z.Text,z.List_,z.Pairs,z.Slots,z.Raws⟩:A0)=z:=by cases z;rfl
section
variable {p:A6}(hp:OkX p) {M:RdM}
variable (hF:∀(t:Int) (g:B9) (c:A3),p.Progs[t.toNat]? =some g->0<=t->Snd c->Fwd c (M t c))
 include hF
theorem f64(o:GOp)(ho:OpG p o):∀(n:Nat) (c:A3),Snd c->Fwd c (lsR M p o.Kind o.Target n c)
 |0,c,hc=>Fwd.ret _ hc
 |n+1,c,hc=>by
  rw[lsR];exact Fwd.bind (c7c hF hc o ho) fun _ c' _ q _=>Fwd.bind (f64 o ho n c' q) fun _ c'' _ q2 _=>Fwd.ret _ q2
theorem f7s(o:GOp)(ho:OpG p o)(hkey:o.Key≠10):∀(n:Nat) (a:Option A0) (c:A3),Snd c->Fwd c (prR M p o.Key o.Kind o.Target n a c)
 |0,a,c,hc=>by rw[prR];exact Fwd.ret _ hc
 |n+1,a,c,hc=>by
  rw[prR];have hk:=c7c (p:=p) hF hc (⟨0,⟨#[]⟩,⟨#[]⟩,0,0,o.Key, -1,0⟩:GOp) (fun h=>absurd h hkey);refine Fwd.bind hk fun x c' _ q _=>?_
  split
  ·exact Fwd.bind (c7c hF q o ho) fun _ c2 _ q2 _=>Fwd.bind (f7s o ho hkey n _ c2 q2) fun _ c3 _ q3 _=>Fwd.ret _ q3
  ·exact Fwd.err (by decide)
theorem g46(g:B9)(o:GOp)(ho:OpG p o)(sl:List (Int × A0)){c:A3}(hc:Snd c):Fwd c (myR M p g sl o c):=by
 unfold myR;refine Fwd.bind (Fwd.byte hc) fun b c' _ q _=>?_
 split
 ·exact Fwd.err (by decide)
 split
 ·exact Fwd.ret _ q
 split
 ·exact Fwd.err (by decide)
 refine Fwd.bind (c7c hF q o ho) fun x c2 _ q2 _=>?_
 split
 ·exact Fwd.err (by decide)
 ·exact Fwd.ret _ q2
 include hp
theorem e1b{g:B9}(hg:g∈p.Progs)(o:GOp)(ho:o∈g.Ops)(sl:List (Int × A0)){c:A3}(hc:Snd c):Fwd c (fdR M p g sl o c):=by
 have hof:=(hp.va.pro g hg).2 _ ho
 have hog:OpG p o:=fun hk=>by
  obtain⟨t0,t1,_⟩:=hof.msg hk;exact⟨_,List.getElem?_eq_getElem (show o.Target.toNat<p.Progs.length by omega),t0⟩
 unfold fdR;split
 ·exact Fwd.bind (c7c hF hc o hog) fun _ c' _ q _=>Fwd.ret _ q
 split
 ·exact Fwd.bind (e1j hc).1 fun _ c' _ q _=>Fwd.bind (f64 hF o hog _ _ q) fun _ c2 _ q2 _=>Fwd.ret _ q2
 split
 ·rename_i h5;have hkey:o.Key≠10:=by have:=hof.key.2 h5;omega
  exact Fwd.bind (e1j hc).1 fun _ c' _ q _=>Fwd.bind (f7s hF o hog hkey _ _ _ q) fun _ c2 _ q2 _=>Fwd.ret _ q2
 ·exact g46 hF g o hog sl hc
theorem f0p{g:B9}(hg:g∈p.Progs):∀(ops:List GOp) (sl:List (Int × A0)) (c:A3),(∀o∈ops,o∈g.Ops)->Snd c->Fwd c (c9l M p g ops sl c)
 |[],sl,c,_,hc=>by rw[c9l];exact Fwd.ret _ hc
 |o::ops,sl,c,ho,hc=>by
  rw[c9l];exact Fwd.bind (e1b hp hF hg o (ho o (by simp)) sl hc) fun x c' _ q _=>f0p hg ops _ c' (fun o h=>ho o (by simp[h])) q
end
theorem f0h{p:A6}(hp:OkX p):∀(n:Nat) (t:Int) (g:B9) (c:A3),p.Progs[t.toNat]? =some g->0<=t->Snd c->Fwd c (msR p n t c)
 |0,t,g,c,_,_,_=>Fwd.err (by decide)
 |n+1,t,g,c,hgt,ht,hc=>by
  have hg:g∈p.Progs:=List.mem_of_getElem? hgt;rw[msR];split
  ·exact Fwd.err (by decide)
  rename_i h1;refine Fwd.bind (Fwd.sp hc) fun _ c' _ q hd=>?_
  rw[hgt];simp only;have hl:=d0z q (by omega);have:=f0p (M:=msR p n) hp (fun t g c h0 h1 h2=>f0h hp n t g c h0 h1 h2) hg g.Ops [] (a9e c' 1) (fun o h=>h) hl;cases he:c9l (msR p n) p g g.Ops [] (a9e c' 1) with
  |error e=>rw[he]at this;exact this
  |ok x=>
   rw[he]at this;obtain⟨s,d⟩:=this;have d1:=q.d1;have d0:=q.d0;simp only[a9e]at d;exact⟨⟨s.sz,s.a0,s.a1,s.a2,by simp only[a9e];omega,by simp only[a9e];omega,s.n0,s.n1⟩,by simp only[a9e];omega⟩
section
variable {p:A6}(hp:OkX p) {m:Nat}{M:RdM}
variable (hM:∀(t:Int) (g:B9) (c:A3),p.Progs[t.toNat]? =some g->0<=t->Snd c->c.Depth<=m->Ex (d8z p (M t c)) (X0 ⟨p,c⟩ t))
variable (hF:∀(t:Int) (g:B9) (c:A3),p.Progs[t.toNat]? =some g->0<=t->Snd c->Fwd c (M t c))
 include hp hM hF
abbrev g98(sl:List (Int × A0))(c:A3):Rs A0:=.ok (⟨10,0,⟨#[]⟩,[],[],sl,[]⟩,a9e c (-1))
theorem f83{g:B9}(hg:g∈p.Progs)(hgl:g.Ops.length<=65535):∀(d i:Nat) (sl:List (Int × A0)) (c:A3) (o:GOp) (z:A0),i+d=g.Ops.length->sl.length<=i->Snd c->c.Depth<=m->Ex (d8z p (E2 (c9l M p g (g.Ops.drop i) sl c) g98)) (U2 i p.Progs p.Enums c.Data c.At c.End c.Depth c.Nodes c.Text sl g o.Num o.Name o.Alias o.Card o.Key o.Kind o.Target o.Union z.Kind z.Bits z.Text z.List_ z.Pairs z.Slots z.Raws):=by
 intro d
 induction d with
 |zero=>
  intro i sl c o z hi hs hc hd;have e:i=g.Ops.length:=by omega
  subst e;have d0:=hc.d0;have d1:=hc.d1;refine B5 (a22 _ _ _ _ _ _ _ _ _ _ _ _ _ _ _ _ _ _ _ _ _ _ _ _ _ _) (B3 _ (fun _=>D8 ?_) fun h=>by simp at h);rw[List.drop_length,c9l];show _=_;simp only[a9e];rw[wI,C9 (by omega)];simp
 |succ d ih=>
  intro i sl c o z hi hs hc hd;have hlt:i<g.Ops.length:=by omega
  have dl:g.Ops.drop i=g.Ops[i]::g.Ops.drop (i+1):=List.drop_eq_getElem_cons hlt;have hop:g.Ops[i]∈g.Ops:=List.getElem_mem hlt;have e1:wI ((i:Int)+1)=((i+1:Nat):Int):=by rw[wI,C9 (by omega)];omega
  refine B5 (a22 _ _ _ _ _ _ _ _ _ _ _ _ _ _ _ _ _ _ _ _ _ _ _ _ _ _) (B3 _ (fun h=>by simp at h;omega) fun _=>a3s g.Ops[i] (by simp) (by omega) ?_);rw[dl,c9l,a2u];have hf:=e1b hp hF hg g.Ops[i] hop sl hc;refine d4a hp hM hF hg g.Ops[i] hop sl (by omega) hc hd (fun b e y z r=>O8 b e i y.p.Progs y.p.Enums y.c.Data y.c.At y.c.End y.c.Depth y.c.Nodes y.c.Text sl g g.Ops[i] z.Kind z.Bits z.Text z.List_ z.Pairs z.Slots z.Raws r) (fun x hx=>?_) fun e he h0 b y z=>?_
  ·rw[hx]at hf;rw[hx,a3u];have hd2:x.2.Depth<=m:=by rw[hf.2];exact hd
   refine B5 (a3a _ _ _ _ _ _ _ _ _ _ _ _ _ _ _ _ _ _ _ _ _) (B3 _ (fun q=>by simp at q) fun _=>B3 _ (fun hb=>D9 (by simp;omega) ?_) fun hb=>?_)
   ·rw[if_pos hb,e1,h0a];exact ih (i+1) (sl++[(g.Ops[i].Num,x.1.1)]) x.2 g.Ops[i] x.1.1 (by omega) (by simp;omega) hf.1 hd2
   ·rw[if_neg (by rw[hb];simp),e1];exact ih (i+1) sl x.2 g.Ops[i] x.1.1 (by omega) (by omega) hf.1 hd2
  ·rw[he];refine B5 (a3a _ _ _ _ _ _ _ _ _ _ _ _ _ _ _ _ _ _ _ _ _) (B3 _ (fun _=>D8 ⟨h0,rfl⟩) fun q=>?_);exact absurd (ne0 h0) (by rw[q];simp)
theorem g2h{g:B9}(hg:g∈p.Progs)(hgl:g.Ops.length<=65535):∀(d i:Nat) (sl:List (Int × A0)) (c:A3) (o:GOp) (z:A0),i+d=g.Ops.length->sl.length<=i->Snd c->c.Depth<=m->Ex (d8z p (E2 (c9l M p g (g.Ops.drop i) sl c) g98)) (U0 i p.Progs p.Enums c.Data c.At c.End c.Depth c.Nodes c.Text sl g o.Num o.Name o.Alias o.Card o.Key o.Kind o.Target o.Union z.Kind z.Bits z.Text z.List_ z.Pairs z.Slots z.Raws):=by
 intro d
 induction d with
 |zero=>
  intro i sl c o z hi hs hc hd;have e:i=g.Ops.length:=by omega
  subst e;have d0:=hc.d0;have d1:=hc.d1;refine B5 (a2y _ _ _ _ _ _ _ _ _ _ _ _ _ _ _ _ _ _ _ _ _ _ _ _ _ _) (B3 _ (fun _=>D8 ?_) fun h=>by simp at h);rw[List.drop_length,c9l];show _=_;simp only[a9e];rw[wI,C9 (by omega)];simp
 |succ d ih=>
  intro i sl c o z hi hs hc hd;have hlt:i<g.Ops.length:=by omega
  have dl:g.Ops.drop i=g.Ops[i]::g.Ops.drop (i+1):=List.drop_eq_getElem_cons hlt;have hop:g.Ops[i]∈g.Ops:=List.getElem_mem hlt;have e1:wI ((i:Int)+1)=((i+1:Nat):Int):=by rw[wI,C9 (by omega)];omega
  refine B5 (a2y _ _ _ _ _ _ _ _ _ _ _ _ _ _ _ _ _ _ _ _ _ _ _ _ _ _) (B3 _ (fun h=>by simp at h;omega) fun _=>a3s g.Ops[i] (by simp) (by omega) ?_);rw[dl,c9l,a2u];have hf:=e1b hp hF hg g.Ops[i] hop sl hc;refine d4a hp hM hF hg g.Ops[i] hop sl (by omega) hc hd (fun b e y z r=>O7 b e i y.p.Progs y.p.Enums y.c.Data y.c.At y.c.End y.c.Depth y.c.Nodes y.c.Text sl g g.Ops[i] z.Kind z.Bits z.Text z.List_ z.Pairs z.Slots z.Raws r) (fun x hx=>?_) fun e he h0 b y z=>?_
  ·rw[hx]at hf;rw[hx,a3u];have hd2:x.2.Depth<=m:=by rw[hf.2];exact hd
   refine B5 (a26 _ _ _ _ _ _ _ _ _ _ _ _ _ _ _ _ _ _ _ _ _) (B3 _ (fun q=>by simp at q) fun _=>B3 _ (fun hb=>D9 (by simp;omega) ?_) fun hb=>?_)
   ·rw[if_pos hb,e1,h0a];exact ih (i+1) (sl++[(g.Ops[i].Num,x.1.1)]) x.2 g.Ops[i] x.1.1 (by omega) (by simp;omega) hf.1 hd2
   ·rw[if_neg (by rw[hb];simp),e1];exact ih (i+1) sl x.2 g.Ops[i] x.1.1 (by omega) (by omega) hf.1 hd2
  ·rw[he];refine B5 (a26 _ _ _ _ _ _ _ _ _ _ _ _ _ _ _ _ _ _ _ _ _) (B3 _ (fun _=>D8 ⟨h0,rfl⟩) fun q=>?_);exact absurd (ne0 h0) (by rw[q];simp)
end
theorem d3z{p:A6}(hp:OkX p):∀(m:Nat) (t:Int) (g:B9) (c:A3),p.Progs[t.toNat]? =some g->0<=t->Snd c->c.Depth<=m->Ex (d8z p (msR p m t c)) (X0 ⟨p,c⟩ t)
 |0,t,g,c,hgt,ht,hc,hd=>by
  have d0:=hc.d0;refine B5 (a68 _ _) (E9 (fun _=>D8 ⟨by decide,rfl⟩) fun h=>?_);simp only at h;omega
 |m+1,t,g,c,hgt,ht,hc,hd=>by
  have hg:g∈p.Progs:=List.mem_of_getElem? hgt;have hgl:=d87 hp hg;have hM:=fun(t:Int) (g:B9) (c:A3) h0 h1 h2 h3=>d3z hp m t g c h0 h1 h2 h3
  have hF:=fun(t:Int) (g:B9) (c:A3) h0 h1 h2=>f0h hp m t g c h0 h1 h2
  have d0:=hc.d0;have d1:=hc.d1;refine B5 (a68 _ _) (E9 (fun h=>D8 ?_) fun h=>E1 (d5f (p:=p) hc) fun y hy=>?_)
  ·rw[msR,if_pos h];exact⟨by decide,rfl⟩
  have h1:¬c.Depth<1:=h;rw[msR,if_neg h1];have hs:=Fwd.sp hc;cases hsp:spR c with
  |error e=>
   rw[hsp]at hy;refine B3 _ (fun _=>D8 ⟨hy.1,hy.2⟩) fun q=>?_
   rw[hy.2]at q;exact absurd (ne0 hy.1) (by rw[q];simp)
  |ok x=>
   rw[hsp]at hy hs;have hy:y=(⟨p,x.2⟩,0):=hy;subst hy;obtain⟨s1,s2⟩:=hs;have e0:wI (x.2.Depth - 1)=x.2.Depth - 1:=by rw[s2,wI,C9 (by omega)]
   refine B3 _ (fun q=>by simp at q) fun _=>a3s g hgt ht ?_
   simp only[a3u,hgt];have hl:=d0z s1 (by omega);have hcl:(⟨x.2.Data,x.2.At,x.2.End,wI (x.2.Depth - 1),x.2.Nodes,x.2.Text⟩:A3)=a9e x.2 1:=by simp only[a9e];rw[e0]
   have hdl:(a9e x.2 1).Depth<=m:=by simp only[a9e];omega
   cases hops:g.Ops with
   |nil=>
    refine B3 _ (fun _=>D8 ?_) fun h=>by simp at h
    rw[c9l,a3u];show _=_;simp only[a9e];rw[e0,wI,C9 (by omega)];simp
   |cons o ops=>
    have hop:o∈g.Ops:=by rw[hops];simp
    have hdrop:g.Ops.drop 1=ops:=by rw[hops];rfl
    refine B3 _ (fun h=>by simp at h;omega) fun _=>a3s o (by simp) (by omega) ?_
    rw[c9l,hcl];have hf:=e1b hp hF hg o hop [] hl;have key:=d4a (Q:=d8z p (E2 (E2 (fdR (msR p m) p g [] o (a9e x.2 1)) fun x c=>c9l (msR p m) p g ops (if x.2=true then []++[(o.Num,x.1)] else []) c) g98)) hp hM hF hg o hop [] (by simp) hl hdl (fun b e y z r=>P7 b e y.p.Progs y.p.Enums y.c.Data y.c.At y.c.End y.c.Depth y.c.Nodes y.c.Text g o z.Kind z.Bits z.Text z.List_ z.Pairs z.Slots z.Raws r) (fun z hz=>?_) fun e he h0 b y z=>?_
    ·exact key
    ·rw[hz]at hf;rw[hz,a3u];have hd2:z.2.Depth<=m:=by rw[hf.2];exact hdl
     refine B5 (a37 _ _ _ _ _ _ _ _ _ _ _ _ _ _ _ _ _ _ _) (B3 _ (fun q=>by simp at q) fun _=>B3 _ (fun hb=>D9 (by simp) ?_) fun hb=>?_)
     ·rw[if_pos hb,List.nil_append,h0a];have:=f83 hp hM hF hg hgl (g.Ops.length - 1) 1 [(o.Num,z.1.1)] z.2 o z.1.1 (by rw[hops];simp;omega) (by simp) hf.1 hd2;rw[hdrop]at this;exact this
     ·rw[if_neg (by rw[hb];simp)];have:=g2h hp hM hF hg hgl (g.Ops.length - 1) 1 [] z.2 o z.1.1 (by rw[hops];simp;omega) (by simp) hf.1 hd2;rw[hdrop]at this;exact this
    ·rw[he];refine B5 (a37 _ _ _ _ _ _ _ _ _ _ _ _ _ _ _ _ _ _ _) (B3 _ (fun _=>D8 ⟨h0,rfl⟩) fun q=>?_);exact absurd (ne0 h0) (by rw[q];simp)
noncomputable def d53(p:A6)(name data:ByteArray)(l:U7):A0 × Int:=
 if(X2 p name).2=false then(V0,10)
 else if l.Bytes<0\/l.Depth<0\/l.Nodes<0\/l.Text<0 then(V0,1)
 else if l.Bytes<(data.size:Int) then(V0,3)
 else match msR p l.Depth.toNat (X2 p name).1 ⟨data,0,data.size,l.Depth,l.Nodes,l.Text⟩ with
  |.error e=>(V0,e)
  |.ok x=>if 0<a1m x.2.Data x.2.At x.2.End then(V0,18) else(x.1,0)
theorem e09{p:A6}(hp:OkX p)(name data:ByteArray)(l:U7)(hz:data.size<=140737488351232)(hd:l.Depth<=4611686018427387904)(hn:l.Nodes<=4611686018427387904):b6f p name data l (d53 p name data l):=by
 have hpl:=D6 hp.pl.np
 have neg:((((decide (l.Bytes<0))||(decide (l.Depth<0)))||(decide (l.Nodes<0)))||(decide (l.Text<0)))=decide (l.Bytes<0\/l.Depth<0\/l.Nodes<0\/l.Text<0):=by
  rw[Bool.eq_iff_iff];simp only[Bool.or_eq_true,decide_eq_true_eq];omega
 by_cases hf:(X2 p name).2=true
 rotate_left
 ·have hf':(X2 p name).2=false:=by simpa using hf
  refine a7e _ _ _ _ _ ⟨_,d1l p hpl name,fun _=>?_,fun h=>by rw[hf']at h;simp at h⟩;rw[d53,if_pos hf'];rfl
 have nf:¬(X2 p name).2=false:=by simp[hf]
 by_cases hneg:l.Bytes<0\/l.Depth<0\/l.Nodes<0\/l.Text<0
 ·refine a7e _ _ _ _ _ ⟨_,d1l p hpl name,fun h=>by simp[hf]at h,fun _=>⟨_,b0y _ _ _ ⟨fun _=>rfl,fun h=>by rw[neg]at h;exact absurd hneg (of_decide_eq_false h)⟩,fun _=>?_,fun h=>by simp at h⟩⟩;rw[d53,if_neg nf,if_pos hneg];rfl
 by_cases hby:l.Bytes<(data.size:Int)
 ·refine a7e _ _ _ _ _ ⟨_,d1l p hpl name,fun h=>by simp[hf]at h,fun _=>⟨_,b0y _ _ _ ⟨fun h=>by rw[neg]at h;exact absurd (of_decide_eq_true h) hneg,fun _=>⟨fun _=>rfl,fun h=>absurd hby (of_decide_eq_false h)⟩⟩,fun _=>?_,fun h=>by simp at h⟩⟩;rw[d53,if_neg nf,if_neg hneg,if_pos hby];rfl
 obtain⟨t0,g,hgt⟩:=d92 p name hf;have hc:Snd ⟨data,0,data.size,l.Depth,l.Nodes,l.Text⟩:=⟨hz,by simp,by simp,by simp,by simp only;omega,by simp only;omega,by simp only;omega,by simp only;omega⟩;obtain⟨y,hy,hs⟩:=d3z hp l.Depth.toNat _ g _ hgt t0 hc (by simp only;omega);have hfw:=f0h hp l.Depth.toNat _ g _ hgt t0 hc;refine a7e _ _ _ _ _ ⟨_,d1l p hpl name,fun h=>by simp[hf]at h,fun _=>⟨_,b0y _ _ _ ⟨fun h=>by rw[neg]at h;exact absurd (of_decide_eq_true h) hneg,fun _=>⟨fun h=>absurd (of_decide_eq_true h) hby,fun _=>rfl⟩⟩,fun h=>by simp at h,fun _=>⟨y,hy,?_⟩⟩⟩
 have ed:d53 p name data l=match msR p l.Depth.toNat (X2 p name).1 ⟨data,0,data.size,l.Depth,l.Nodes,l.Text⟩ with
  |.error e=>(V0,e)
  |.ok x=>if 0<a1m x.2.Data x.2.At x.2.End then(V0,18) else(x.1,0):=by rw[d53,if_neg nf,if_neg hneg,if_neg hby]
 cases he:msR p l.Depth.toNat (X2 p name).1 ⟨data,0,data.size,l.Depth,l.Nodes,l.Text⟩ with
 |error e=>
  rw[he]at hs ed;rw[ed];refine⟨fun _=>by rw[hs.2];rfl,fun h=>?_⟩;rw[hs.2]at h;exact absurd (ne0 hs.1) (by rw[h];simp)
 |ok x=>
  rw[he]at hs ed hfw;have hs:y=(⟨p,x.2⟩,x.1,0):=hs;subst hs;rw[ed];simp only;refine⟨fun h=>by simp at h,fun _=>⟨_,d5g x.2 hfw.1.okc,fun h=>?_,fun h=>?_⟩⟩
  ·rw[if_pos (of_decide_eq_true h)];rfl
  ·rw[if_neg (of_decide_eq_false h)]
theorem c32(d:ByteArray)(D N T:Int):O5 ⟨d,0,d.size,D,N,T⟩=d:=g2l d
theorem d38{p:A6}(hp:OkX p){n:Nat}{t:Int}{x:A0}(h:RfV p n t x)(d:ByteArray)(hz:d.size<=140737488351232){D N T:Int}(hD:0<=D/\D<=4611686018427387904)(hN:0<=N/\N<=4611686018427387904)(hT:0<=T)(hpre:(∃u,d=Q8 p n t x++u)\/∃u,Q8 p n t x=d++u):Got ⟨d,0,d.size,D,N,T⟩ (Q8 p n t x) (cV x) x (msR p D.toNat t ⟨d,0,d.size,D,N,T⟩):=by
 have hc:Snd ⟨d,0,d.size,D,N,T⟩:=⟨hz,by simp,by simp,by simp,hD.1,hD.2,hN.1,hN.2⟩;refine f8d hp n D.toNat t x h _ hc hT (by simp only;omega) ?_;unfold Ahd;rw[c32];exact hpre
structure Enc(p:A6)(name:ByteArray)(v:A0)(x:A0):Prop where
 find:(X2 p name).2=true
 body:(a94 p name v).1=Q8 p (SizeOf.sizeOf v) (X2 p name).1 x
 rf:RfV p (SizeOf.sizeOf v) (X2 p name).1 x
 lim:Lim 1 (cV x)
 n:(cV x).n<=4096
 sz:(a94 p name v).1.size<=65536
 eq:x=F7 p (SizeOf.sizeOf v) (X2 p name).1 v
 at_:∃g,p.Progs[(X2 p name).1.toNat]? =some g/\0<=(X2 p name).1
 msg:a98 p (SizeOf.sizeOf v) (X2 p name).1 v 1=0
 nox:NoX v
theorem d8s{p:A6}(hp:OkX p)(name:ByteArray){v:A0}(hv:OkD v)(hw:wtV v<=134217728)(h:(a94 p name v).2=0):Enc p name v (F7 p (SizeOf.sizeOf v) (X2 p name).1 v):=by
 by_cases hf:(X2 p name).2=true
 rotate_left
 ·have hf':(X2 p name).2=false:=by simpa using hf
  rw[a94,if_pos hf']at h;exact absurd h (by decide)
 have nf:¬(X2 p name).2=false:=by simp[hf]
 obtain⟨t0,g,hgt⟩:=d92 p name hf
 by_cases hfit:c73 p (SizeOf.sizeOf v) (X2 p name).1 v=0
 rotate_left
 ·rw[a94,if_neg nf,if_pos hfit]at h;exact absurd h hfit
 have nfit:¬c73 p (SizeOf.sizeOf v) (X2 p name).1 v≠0:=by omega
 by_cases hx:X5 (SizeOf.sizeOf v) v=true
 ·rw[a94,if_neg nf,if_neg nfit,if_pos hx]at h;exact absurd h (by decide)
 by_cases hs:65536<(Q8 p (SizeOf.sizeOf v) (X2 p name).1 (F7 p (SizeOf.sizeOf v) (X2 p name).1 v)).size
 ·rw[a94,if_neg nf,if_neg nfit,if_neg hx,if_pos hs]at h;exact absurd h (by decide)
 have e:a94 p name v=(Q8 p (SizeOf.sizeOf v) (X2 p name).1 (F7 p (SizeOf.sizeOf v) (X2 p name).1 v),0):=by rw[a94,if_neg nf,if_neg nfit,if_neg hx,if_neg hs]
 obtain⟨m1,m2⟩:=b9y hfit;have hc:=d14 (SizeOf.sizeOf v) v (Nat.le_refl _);have hle:=d6j (SizeOf.sizeOf v) v
 have hn:nV v<=4096:=by
  split at m2
  ·exact absurd m2 (by decide)
  ·rename_i q;rw[wI,C9 (by omega)]at q;omega
 obtain⟨r1,r2⟩:=e8m hp _ _ g v 1 hgt t0 hv (Nat.le_refl _) m1 ⟨_,Nat.le_refl _,by simpa using hx⟩ hn;have hnn:=e9i p (SizeOf.sizeOf v) (X2 p name).1 v;exact⟨hf,by rw[e],r1,r2,Nat.le_trans hnn hn,by rw[e];simp only;omega,rfl,⟨g,hgt,t0⟩,m1,⟨_,Nat.le_refl _,by simpa using hx⟩⟩
theorem d4s{p:A6}{name d:ByteArray}{l:U7}(hf:(X2 p name).2=true)(h0:¬(l.Bytes<0\/l.Depth<0\/l.Nodes<0\/l.Text<0))(hb:(d.size:Int)<=l.Bytes):d53 p name d l=match msR p l.Depth.toNat (X2 p name).1 ⟨d,0,d.size,l.Depth,l.Nodes,l.Text⟩ with
  |.error e=>(V0,e)
  |.ok x=>if 0<a1m x.2.Data x.2.At x.2.End then(V0,18) else(x.1,0):=by
 (rw[d53,if_neg (by simp[hf]),if_neg h0,if_neg (by omega)])<;>(cases msR p l.Depth.toNat (X2 p name).1 ⟨d,0,d.size,l.Depth,l.Nodes,l.Text⟩<;>rfl)
section
variable {p:A6}(hp:OkX p) {name:ByteArray}{v x:A0}(h:Enc p name v x)
 include hp h
theorem f49(d:ByteArray)(D N T k n:Int)(hk:0<=k/\k<=d.size):a1m (adv ⟨d,0,d.size,D,N,T⟩ k n).Data (adv ⟨d,0,d.size,D,N,T⟩ k n).At (adv ⟨d,0,d.size,D,N,T⟩ k n).End=d.size - k:=by
 simp only[adv,Int.zero_add];rw[a1m,if_pos (by simp[b3o];omega)]
theorem e9v(l:U7)(hb:((a94 p name v).1.size:Int)<=l.Bytes)(hd:((cV x).d:Int)<=l.Depth/\l.Depth<=4611686018427387904)(hn:((cV x).n:Int)<=l.Nodes/\l.Nodes<=4611686018427387904)(ht:((cV x).l:Int)<=l.Text):d53 p name (a94 p name v).1 l=(x,0):=by
 have hs:=h.sz;rw[d4s h.find (by omega) hb];have g:=d38 hp h.rf (a94 p name v).1 (by omega) (D:=l.Depth) (N:=l.Nodes) (T:=l.Text) (by omega) (by omega) (by omega) (.inl ⟨⟨#[]⟩,by rw[<-h.body,b5s]⟩);rw[<-h.body]at g;generalize hr:msR p l.Depth.toNat (X2 p name).1 ⟨(a94 p name v).1,0,(a94 p name v).1.size,l.Depth,l.Nodes,l.Text⟩=r at g ⊢;cases r with
 |error e=>
  simp only[Got]at g;rcases g with⟨_,q⟩|⟨_,q⟩|⟨_,q⟩
  ·exact absurd ⟨⟨#[]⟩,by rw[c32,b5s]⟩ q
  ·omega
  ·omega
 |ok y=>
  obtain⟨rfl,_⟩:=g;simp only;rw[f49 hp h _ _ _ _ _ _ (by omega),if_neg (by omega)]
theorem f44(l:U7)(h0:¬(l.Bytes<0\/l.Depth<0\/l.Nodes<0\/l.Text<0))(hb:((a94 p name v).1.size:Int)<=l.Bytes)(hd:l.Depth<=4611686018427387904)(hn:l.Nodes<=4611686018427387904):
  (l.Depth<(cV x).d->((cV x).n:Int)<=l.Nodes->((cV x).l:Int)<=l.Text->d53 p name (a94 p name v).1 l=(V0,17))/\(((cV x).d:Int)<=l.Depth->l.Nodes<(cV x).n\/l.Text<(cV x).l->d53 p name (a94 p name v).1 l=(V0,3)):=by
 have hs:=h.sz;rw[d4s h.find h0 hb];have g:=d38 hp h.rf (a94 p name v).1 (by omega) (D:=l.Depth) (N:=l.Nodes) (T:=l.Text) (by omega) (by omega) (by omega) (.inl ⟨⟨#[]⟩,by rw[<-h.body,b5s]⟩);rw[<-h.body]at g;generalize hr:msR p l.Depth.toNat (X2 p name).1 ⟨(a94 p name v).1,0,(a94 p name v).1.size,l.Depth,l.Nodes,l.Text⟩=r at g ⊢;cases r with
 |error e=>
  simp only[Got]at g;rcases g with⟨_,q⟩|⟨q0,q⟩|⟨q0,q⟩
  ·exact absurd ⟨⟨#[]⟩,by rw[c32,b5s]⟩ q
  ·exact⟨fun _ _ _=>by rw[q0],fun _ _=>by omega⟩
  ·exact⟨fun _ _ _=>by omega,fun _ _=>by rw[q0]⟩
 |ok y=>
  obtain⟨rfl,_,a1,a2,a3⟩:=g;simp only at a1 a2 a3;exact⟨fun _ _ _=>by omega,fun _ _=>by omega⟩
end
theorem e1a:b6n ⟨65536,16,4096,4096⟩:=c8k _ rfl
section
variable {n:Nat}{av:AV}
end
structure e5q(c c':A3)(b:ByteArray)(k:Q9):Prop where
 rest:O5 c=b++O5 c'
 eq:c'=adv c b.size k.n
 d:(k.d:Int)<=c.Depth
 n:(k.n:Int)<=c.Nodes
 l:(k.l:Int)<=c.Text
theorem e5q.trans{c c1 c2:A3}{b b':ByteArray}{k k':Q9}(h:e5q c c1 b k)(h2:e5q c1 c2 b' k'):e5q c c2 (b++b') (k.add k'):=by
 have e:=h.eq;have n2:=h2.n;have d2:=h2.d;have l2:=h2.l;rw[e]at n2 d2 l2;simp only[adv]at n2 d2 l2;have:=h.d;have:=h.n;have:=h.l;refine⟨by rw[h.rest,h2.rest,b11],?_,by simp only[Q9.add];omega,by simp only[Q9.add];omega,by simp only[Q9.add];omega⟩;rw[h2.eq,e,f0u,L6];simp[Q9.add]
theorem e5q.same{c:A3}(hc:Snd c)(ht:0<=c.Text):e5q c c ⟨#[]⟩ .none:=by
 have:=hc.d0;have:=hc.n0;refine⟨(e3p _).symm,?_,by simp only[Q9.none];omega,by simp only[Q9.none];omega,by simp only[Q9.none];omega⟩;have:((⟨#[]⟩:ByteArray).size:Int)=0:=rfl;simp[adv,Q9.none,this]
theorem e5q.of{c c':A3}{b b':ByteArray}{k k':Q9}(h:e5q c c' b k)(hb:b=b')(hk:k=k'):e5q c c' b' k':=by subst hb hk;exact h
theorem e5q.snd{c c':A3}{b:ByteArray}{k:Q9}(h:e5q c c' b k)(hc:Snd c):Snd c'/\c'.Text=c.Text/\c'.Depth=c.Depth:=by
 rw[h.eq];exact⟨(e01 hc h.rest ⟨by omega,h.n⟩).1,rfl,rfl⟩
section
variable {c:A3}(hc:Snd c) (ht:0<=c.Text)
 include hc ht
end
structure Us(c:A3):Prop where
 s:Snd c
 t0:0<=c.Text
 t4:c.Text<=4096
section
variable {p:A6}{W:c6v}{B:Int->A0->Prop}{M:RdM}(hM:∀t y c c',0<=t->Us c->M t c=.ok (y,c')->B t y/\e5q c c' (W t y) (cV y))
 include hM
end
theorem f5i(n:Nat)(a:A0):Z4 n a a=0:=by
 have h:=(f93 n).s a a;omega
theorem d8a{a:A0}(h:OkD a):b9x a a true:=d17 _ _ _ ⟨_,f0l a a h h,by rw[f5i];rfl⟩
section
variable {p:A6}(hp:OkX p) {name:ByteArray}{v x:A0}(hv:OkD v) (h:Enc p name v x)
 include hp hv h
theorem Enc.norm:a6q p (X2 p name).1 v x:=by
 obtain⟨g,hg,t0⟩:=h.at_;rw[h.eq];exact d33 hp _ _ g v hg t0 ⟨hv,Nat.le_refl _,h.nox,1,h.msg⟩
theorem Enc.ok:OkD x:=by
 rw[h.eq];exact c3l hp _ _ v hv
end
theorem g7f{p:A6}:∀{n:Nat}{t:Int}{x:A0},RfV p n t x->1<=(cV x).d/\1<=(cV x).n
 |0,_,_,h=>h.elim
 |n+1,t,x,⟨g,_,_,ex,_,_⟩=>by
  rw[ex,c0q];simp only[d2d,if_pos];omega
theorem f8k(aw:a3g true)(p:A6)(hp:b5t p)(name:ByteArray)(v:A0)(hv:OkD v)(hw:wtV v<=134217728):b75 p name v true:=by
 obtain⟨b,h1,h2⟩:=c9z p hp;refine b9c _ _ _ _ ⟨b,h1,fun z=>z=(!b|| !decide (wI (a2h (SizeOf.sizeOf v) v)<=5000)),fun z hz=>⟨fun _=>rfl,fun hz2=>?_⟩,fun hb=>by rw[hb,Bool.true_or],fun hb=>⟨_,e1r v hv,by rw[hb,Bool.false_or]⟩⟩;rw[hz2]at hz
 have hb:b=true:=by
  cases b with
  |true=>rfl
  |false=>simp at hz
 have hx:=h2 hb;have hpl:=D6 hx.pl.np;refine⟨_,f1a hx name hv hw,fun _=>⟨_,aw,rfl⟩,fun h=>?_⟩;simp only[Bool.or_eq_false_iff,bne_eq_false_iff_eq,decide_eq_false_iff_not]at h;have e:=d8s hx name hv hw h.1;have hs:(a94 p name v).1.size<=20000:=by omega
 obtain⟨l1,l2⟩:=e.lim;have hn:=e.n;refine⟨_,e1m p hpl name,_,e1a,_,e09 hx name _ _ (by omega) (by decide) (by decide),?_⟩;rw[e9v hx e ⟨65536,16,4096,4096⟩ (by simp only;omega) ⟨by simp only;omega,by decide⟩ ⟨by simp only;omega,by decide⟩ (by simp only;omega)];exact⟨fun _=>⟨_,e.norm hx hv,_,d8a (e.ok hx hv),fun _=>⟨_,aw,rfl⟩,fun h=>by cases h⟩,fun h=>by simp at h⟩
theorem b8q{α:Type}(f:α->Int)(g:α->Nat)(G:α->Q9)(e:∀l:List α,True)(π:Q9->Nat)(h0:π .none=0)(ha:∀a b:Q9,π (a.add b)=max (π a) (π b)):∀(l:List α) (a:Int),0<=a->(∀x∈l,f x=(π (G x):Int))->f4j f a l=max a (π (a4m G l):Int)
 |[],a,h,_=>by simp only[f4j,a4m,h0];omega
 |x::l,a,h,hf=>by
  have h1:=hf x (by simp);rw[f4j,b8q f g G e π h0 ha l _ (by omega) fun y hy=>hf y (by simp[hy]),a4m,ha,h1];omega
theorem f6r(π:Q9->Nat)(h0:π .none=0)(ha:∀a b:Q9,π (a.add b)=max (π a) (π b))(f:A0->Int)(a:Int)(h:0<=a)(v:A0)(hl:∀x∈v.List_,f x=(π (cV x):Int))(hp:∀x∈v.Pairs,f x.1=(π (cV x.1):Int)/\f x.2=(π (cV x.2):Int))(hs:∀x∈v.Slots,f x.2=(π (cV x.2):Int)):e7l f a v=max a (π ((a4m cV v.List_).add ((a4m cP v.Pairs).add (a4m cS v.Slots))):Int):=by
 unfold e7l;rw[b8q (fun x:Int × A0=>f x.2) (fun _=>0) cS (fun _=>trivial) π h0 ha v.Slots _ ?_ hs,b8q (fun x:A0 × A0=>max (f x.1) (f x.2)) (fun _=>0) cP (fun _=>trivial) π h0 ha v.Pairs _ ?_ fun x hx=>?_,b8q f (fun _=>0) cV (fun _=>trivial) π h0 ha v.List_ a h hl,ha,ha]
 ·omega
 ·rw[b8q f (fun _=>0) cV (fun _=>trivial) π h0 ha v.List_ a h hl];omega
 ·obtain⟨a1,a2⟩:=hp x hx;rw[ha,a1,a2];omega
 ·rw[b8q (fun x:A0 × A0=>max (f x.1) (f x.2)) (fun _=>0) cP (fun _=>trivial) π h0 ha v.Pairs _ ?_ fun x hx=>?_,b8q f (fun _=>0) cV (fun _=>trivial) π h0 ha v.List_ a h hl]
  ·omega
  ·rw[b8q f (fun _=>0) cV (fun _=>trivial) π h0 ha v.List_ a h hl];omega
  ·obtain⟨a1,a2⟩:=hp x hx;rw[ha,a1,a2];omega
theorem d1m(π:Q9->Nat)(ha:∀a b:Q9,π a<=π (a.add b)/\π b<=π (a.add b)){α:Type}(G:α->Q9):∀(l:List α),∀x∈l,π (G x)<=π (a4m G l)
 |[],x,h=>by cases h
 |y::l,x,h=>by
  have h1:=ha (G y) (a4m G l);rcases List.mem_cons.1 h with q|q
  ·subst q;exact h1.1
  ·exact Nat.le_trans (d1m π ha G l x q) h1.2
theorem d7p:∀(n:Nat) (v:A0),SizeOf.sizeOf v<=n->(cV v).d<=1000->b9t n v=((cV v).d:Int)
 |0,v,h,_=>by have:=szV v;omega
 |n+1,v,h,hs=>by
  have e:=c0q v;have hd:(cV v).d=if v.Kind=10 then((a4m cV v.List_).add ((a4m cP v.Pairs).add (a4m cS v.Slots))).d+1 else((a4m cV v.List_).add ((a4m cP v.Pairs).add (a4m cS v.Slots))).d:=by rw[e,d2d]
  have hin:((a4m cV v.List_).add ((a4m cP v.Pairs).add (a4m cS v.Slots))).d<=(cV v).d:=by rw[hd];split<;>omega
  simp only[Q9.add]at hin;have sm:=fun {α:Type}(G:α->Q9) l x hx=>d1m (α:=α) (fun c=>c.d) (fun a b=>by simp only[Q9.add];omega) G l x hx
  have m:=f6r (fun c=>c.d) rfl (fun a b=>rfl) (b9t n) 0 (by omega) v (fun x hx=>d7p n x (by have:=szL hx;omega) (by have:=sm cV _ x hx;omega)) (fun x hx=>by
   have:=sm cP _ x hx;simp only[cP,Q9.add]at this;exact⟨d7p n x.1 (by have:=szP hx;omega) (by omega),d7p n x.2 (by have:=szP hx;omega) (by omega)⟩) (fun x hx=>d7p n x.2 (by have:=szS hx;omega) (by have:=sm cS _ x hx;simp only[cS]at this;omega))
  rw[b9t,m]
  by_cases hk:v.Kind=10
  ·rw[if_pos hk]at hd;rw[if_pos (by simpa using hk),wI,C9 (by omega),hd];omega
  ·rw[if_neg hk]at hd;rw[if_neg (by simpa using hk),hd];omega
theorem d8h:∀(n:Nat) (v:A0),SizeOf.sizeOf v<=n->c8c n v=((cV v).l:Int)
 |0,v,h=>by have:=szV v;omega
 |n+1,v,h=>by
  have e:=c0q v;have hd:(cV v).l=max v.Text.size ((a4m cV v.List_).add ((a4m cP v.Pairs).add (a4m cS v.Slots))).l:=by rw[e,d2d]
  have m:=f6r (fun c=>c.l) rfl (fun a b=>rfl) (c8c n) (v.Text.size:Int) (by omega) v (fun x hx=>d8h n x (by have:=szL hx;omega)) (fun x hx=>⟨d8h n x.1 (by have:=szP hx;omega),d8h n x.2 (by have:=szP hx;omega)⟩) (fun x hx=>d8h n x.2 (by have:=szS hx;omega));rw[c8c,m,hd];omega
theorem d9p(aw:a3g true)(p:A6)(hp:b5t p)(name:ByteArray)(v:A0)(hv:OkD v)(hw:wtV v<=134217728):b83 p name v true:=by
 obtain⟨b,h1,h2⟩:=c9z p hp;refine c0x _ _ _ _ ⟨b,h1,fun z=>z=(!b|| !decide (wI (a2h (SizeOf.sizeOf v) v)<=5000)),fun z hz=>⟨fun _=>rfl,fun hz2=>?_⟩,fun hb=>by rw[hb,Bool.true_or],fun hb=>⟨_,e1r v hv,by rw[hb,Bool.false_or]⟩⟩;rw[hz2]at hz
 have hb:b=true:=by
  cases b with
  |true=>rfl
  |false=>simp at hz
 have hx:=h2 hb;have hpl:=D6 hx.pl.np;refine⟨_,f1a hx name hv hw,fun _=>⟨_,aw,rfl⟩,fun h=>?_⟩;simp only[Bool.or_eq_false_iff,bne_eq_false_iff_eq,decide_eq_false_iff_not]at h;have e:=d8s hx name hv hw h.1;have hs:(a94 p name v).1.size<=3000:=by omega
 obtain⟨l1,l2⟩:=e.lim;have hn:=e.n;have ho:=e.ok hx hv;obtain⟨p1,p2⟩:=g7f e.rf;have eN:=e.norm hx hv;generalize F7 p (SizeOf.sizeOf v) (X2 p name).1 v=x at*;have d1:=b87 _ x ho (Nat.le_refl _);rw[d7p _ x (Nat.le_refl _) (by omega)]at d1;have d2:=b5u _ x ho (Nat.le_refl _);have hcn:a2h (SizeOf.sizeOf x) x=((cV x).n:Int):=d14 _ x (Nat.le_refl _);rw[hcn,wI,C9 (by omega)]at d2;have d3:=b57 _ x ho (Nat.le_refl _);rw[d8h _ x (Nat.le_refl _)]at d3;refine⟨_,e1m p hpl name,_,eN,_,d1,_,d2,_,d3,_,e09 hx name _ _ (by omega) (by simp only;omega) (by simp only;omega),?_⟩;rw[e9v hx e ⟨((a94 p name v).1.size:Int),(cV x).d,(cV x).n,(cV x).l⟩ (by simp only;omega) ⟨by simp only;omega,by simp only;omega⟩ ⟨by simp only;omega,by simp only;omega⟩ (by simp only;omega)];refine⟨fun z=>z=false,fun z hz=>⟨fun q=>(by rw[hz]at q;cases q),fun _=>?_⟩,fun q=>by simp at q,fun _=>⟨_,d8a ho,rfl⟩⟩
 -- one less of each
 have one:∀(i:Nat) (l:U7) (want:Int),i<4->l.Depth<=4611686018427387904->l.Nodes<=4611686018427387904->(d53 p name (a94 p name v).1 l).2=(if l.Bytes<0\/l.Text<0 then 1 else want)->O2 ((i+1:Nat):Int) (a94 p name v) name p (cV x).d (cV x).n (cV x).l true->W5 want i (a94 p name v) name p (cV x).d (cV x).n (cV x).l l.Bytes l.Depth l.Nodes l.Text true:=by
  intro i l want hi hd hn2 hr hj;have e1:wI ((i:Int)+1)=((i+1:Nat):Int):=by rw[wI,C9 (by omega)];omega
  have ten:∀w:Int,(d53 p name (a94 p name v).1 l).2=w->a1f w i (a94 p name v) name p (cV x).d (cV x).n (cV x).l l.Bytes l.Depth l.Nodes l.Text true:=fun w hw2=>
   b59 _ _ _ _ _ _ _ _ _ _ _ _ _ ⟨_,e09 hx name _ l (by omega) hd hn2,fun q=>by rw[hw2]at q;simp at q,fun _=>by rw[e1];exact hj⟩
  refine b7w _ _ _ _ _ _ _ _ _ _ _ _ _ ⟨fun q=>ten 1 ?_,fun q=>ten want ?_⟩
  ·rw[hr,if_pos (by simpa using q)]
  ·rw[hr,if_neg (by simpa using q)]
 have w1:wI (((a94 p name v).1.size:Int) - 1)=((a94 p name v).1.size:Int) - 1:=by rw[wI,C9 (by omega)]
 have w2:wI (((cV x).d:Int) - 1)=((cV x).d:Int) - 1:=by rw[wI,C9 (by omega)]
 have w3:wI (((cV x).n:Int) - 1)=((cV x).n:Int) - 1:=by rw[wI,C9 (by omega)]
 have w4:wI (((cV x).l:Int) - 1)=((cV x).l:Int) - 1:=by rw[wI,C9 (by omega)]
 have less:=fun l=>f44 hx e l
 have neg:∀l:U7,(l.Bytes<0\/l.Depth<0\/l.Nodes<0\/l.Text<0)->(d53 p name (a94 p name v).1 l).2=1:=fun l hl=>by
  rw[d53,if_neg (by simp[e.find]),if_pos hl]
 have few:∀l:U7,¬(l.Bytes<0\/l.Depth<0\/l.Nodes<0\/l.Text<0)->l.Bytes<((a94 p name v).1.size:Int)->(d53 p name (a94 p name v).1 l).2=3:=fun l hl hb=>by
  rw[d53,if_neg (by simp[e.find]),if_neg hl,if_pos hb]
 have j4:O2 ((4:Nat):Int) (a94 p name v) name p (cV x).d (cV x).n (cV x).l true:=S6 _ _ _ _ _ _ _ _ ⟨fun q=>by simp at q,fun _=>⟨_,aw,rfl⟩⟩
 have j3:O2 ((3:Nat):Int) (a94 p name v) name p (cV x).d (cV x).n (cV x).l true:=by
  refine S6 _ _ _ _ _ _ _ _ ⟨fun _=>⟨fun q=>by simp at q,fun _=>⟨fun q=>by simp at q,fun _=>⟨fun q=>by simp at q,fun _=>?_⟩⟩⟩,fun q=>by simp at q⟩;rw[w4];refine one 3 ⟨((a94 p name v).1.size:Int),(cV x).d,(cV x).n,((cV x).l:Int) - 1⟩ 3 (by omega) (by simp only;omega) (by simp only;omega) ?_ j4
  by_cases q:((cV x).l:Int) - 1<0
  ·rw[if_pos (.inr q),neg _ (.inr (.inr (.inr q)))]
  ·rw[if_neg (by simp only;omega),(less ⟨((a94 p name v).1.size:Int),(cV x).d,(cV x).n,((cV x).l:Int) - 1⟩ (by simp only;omega) (by simp only;omega) (by simp only;omega) (by simp only;omega)).2 (by simp only;omega) (.inr (by simp only;omega))]
 have j2:O2 ((2:Nat):Int) (a94 p name v) name p (cV x).d (cV x).n (cV x).l true:=by
  refine S6 _ _ _ _ _ _ _ _ ⟨fun _=>⟨fun q=>by simp at q,fun _=>⟨fun q=>by simp at q,fun _=>⟨fun _=>?_,fun q=>by simp at q⟩⟩⟩,fun q=>by simp at q⟩;rw[w3];refine one 2 ⟨((a94 p name v).1.size:Int),(cV x).d,((cV x).n:Int) - 1,(cV x).l⟩ 3 (by omega) (by simp only;omega) (by simp only;omega) ?_ j3;rw[if_neg (by simp only;omega),(less ⟨((a94 p name v).1.size:Int),(cV x).d,((cV x).n:Int) - 1,(cV x).l⟩ (by simp only;omega) (by simp only;omega) (by simp only;omega) (by simp only;omega)).2 (by simp only;omega) (.inl (by simp only;omega))]
 have j1:O2 ((1:Nat):Int) (a94 p name v) name p (cV x).d (cV x).n (cV x).l true:=by
  refine S6 _ _ _ _ _ _ _ _ ⟨fun _=>⟨fun q=>by simp at q,fun _=>⟨fun _=>?_,fun q=>by simp at q⟩⟩,fun q=>by simp at q⟩;rw[w2];refine one 1 ⟨((a94 p name v).1.size:Int),((cV x).d:Int) - 1,(cV x).n,(cV x).l⟩ 17 (by omega) (by simp only;omega) (by simp only;omega) ?_ j2;rw[if_neg (by simp only;omega),(less ⟨((a94 p name v).1.size:Int),((cV x).d:Int) - 1,(cV x).n,(cV x).l⟩ (by simp only;omega) (by simp only;omega) (by simp only;omega) (by simp only;omega)).1 (by simp only;omega) (by simp only;omega) (by simp only;omega)]
 refine S6 _ _ _ _ _ _ _ _ ⟨fun _=>⟨fun _=>?_,fun q=>by simp at q⟩,fun q=>by simp at q⟩;rw[w1];refine one 0 ⟨((a94 p name v).1.size:Int) - 1,(cV x).d,(cV x).n,(cV x).l⟩ 3 (by omega) (by simp only;omega) (by simp only;omega) ?_ j1
 by_cases q:((a94 p name v).1.size:Int) - 1<0
 ·rw[if_pos (.inl q),neg _ (.inl q)]
 ·rw[if_neg (by simp only;omega),few _ (by simp only;omega) (by simp only;omega)]
theorem d6e{R:GOp->A0->Prop}:∀{ops:List GOp}{S:List (Int × A0)},b1o R ops S->∀s∈S,∃o∈ops,o.Num=s.1/\R o s.2
 |[],S,h,s,hs=>by have e:S=[]:=h;rw[e]at hs;cases hs
 |o::ops,[],_,s,hs=>by cases hs
 |o::ops,x::S,h,s,hs=>by
  by_cases he:x.1=o.Num
  ·obtain⟨h1,h2⟩:=h.1 he;rcases List.mem_cons.1 hs with q|q
   ·subst q;exact⟨o,by simp,he.symm,h1⟩
   ·obtain⟨o',a,b⟩:=d6e h2 s q;exact⟨o',by simp[a],b⟩
  ·obtain⟨o',a,b⟩:=d6e (h.2 he).2 s hs;exact⟨o',by simp[a],b⟩
theorem c9e{R:GOp->A0->Prop}:∀{ops:List GOp}{S:List (Int × A0)},b1o R ops S->∀o∈ops,o.Card=1->∃s∈S,s.1=o.Num
 |[],S,h,o,ho,_=>by cases ho
 |q::ops,[],h,o,ho,hc=>by
  rcases List.mem_cons.1 ho with e|e
  ·subst e;exact absurd hc h.1
  ·exact c9e h.2 o e hc
 |q::ops,x::S,h,o,ho,hc=>by
  by_cases he:x.1=q.Num
  ·rcases List.mem_cons.1 ho with e|e
   ·subst e;exact⟨x,by simp,he⟩
   ·obtain⟨s,a,b⟩:=c9e (h.1 he).2 o e hc;exact⟨s,by simp[a],b⟩
  ·rcases List.mem_cons.1 ho with e|e
   ·subst e;exact absurd hc (h.2 he).1
   ·exact c9e (h.2 he).2 o e hc
theorem d83{R:GOp->A0->Prop}:∀{ops:List GOp}{S:List (Int × A0)},b1o R ops S->S.length<=ops.length
 |[],S,h=>by have e:S=[]:=h;rw[e];simp
 |o::ops,[],_=>by simp
 |o::ops,x::S,h=>by
  by_cases he:x.1=o.Num
  ·have:=d83 (h.1 he).2;simp;omega
  ·have:=d83 (h.2 he).2;simp only[List.length_cons]at this ⊢;omega
theorem d6n{W W':c6v}{o:GOp}(h1:o.Card≠1):a2e W o V0 false=a2e W' o V0 false:=by
 unfold a2e;split
 ·rfl
 split
 ·rfl
 simp[h1]
theorem c0o{R:GOp->A0->Prop}{W W':c6v}:∀{ops:List GOp}{S:List (Int × A0)},b1o R ops S->(∀o z,R o z->a2e W o z true=a2e W' o z true)->a9d W ops S=a9d W' ops S
 |[],_,_,_=>rfl
 |o::ops,[],h,hf=>by
  simp only[a9d];rw[c0o h.2 hf,d6n h.1]
 |o::ops,x::S,h,hf=>by
  simp only[a9d];split
  ·rename_i he;obtain⟨h1,h2⟩:=h.1 he;rw[c0o h2 hf,hf o x.2 h1]
  ·rename_i he;obtain⟨h1,h2⟩:=h.2 he;rw[c0o h2 hf,d6n h1]
theorem c3j{f:Nat->Int}{n:Nat}(h:∀k,k<n->f k=0):∀i,b8g f i n=0:=by
 have key:∀d i,n - i<=d->b8g f i n=0:=by
  intro d
  induction d with
  |zero=>intro i hd;rw[f2u,if_neg (by omega)]
  |succ d ih=>
   intro i hd;rw[f2u]
   by_cases hi:i<n
   ·rw[if_pos hi,if_neg (by rw[h i hi];simp)];exact ih (i+1) (by omega)
   ·rw[if_neg hi]
 exact fun i=>key _ i (Nat.le_refl _)
theorem f8j{p:A6}{k t:Int}{y:A0}(h:ScO p k t y)(hs:y.Text.size<=4096):d3v p k t y=0:=by
 obtain⟨l1,l2,l3,l4⟩:=h.lone;have hk:=h.kind;have hf:=h.fit;obtain⟨k1,k2,k3,k4⟩:=b5y y (by rw[hk];exact hf);rw[hk]at k1 k2 k3 k4
 have tx:¬(k=7\/k=8)->y.Text=⟨#[]⟩:=fun q=>by
  unfold a64 at hf;rw[if_neg q]at hf;simp only[Bool.and_eq_true,decide_eq_true_eq]at hf;exact hf.2.1
 have ho:a12 y=false:=by
  unfold a12;rw[l1,l2,l3,l4,hk]
  by_cases q:k=7\/k=8
  ·rw[(k3 q).1];rcases q with rfl|rfl<;>simp
  ·rw[tx q];have a1:(k==7)=false:=by simp;omega
   have a2:(k==8)=false:=by simp;omega
   have a3:(k==10)=false:=by simp;omega
   have a4:(k==11)=false:=by simp;omega
   have a5:(k==12)=false:=by simp;omega
   simp[a1,a2,a3,a4,a5]
 have c1:((y.Kind !=k)||a12 y)=false:=by rw[ho,hk];simp
 have c3:((k==7)&& !b1c y.Text)=false:=by
  by_cases q:k=7
  ·rw[(k3 (.inl q)).2.2 q];simp
  ·simp[q]
 have c5:((k==9)&& !d89 p t y.Bits)=false:=by
  by_cases q:k=9
  ·rw[h.acc q];simp
  ·simp[q]
 rw[d3v,if_neg (by rw[c1];simp),if_neg (by omega),if_neg (by rw[c3];simp),if_neg (by rw[hf];simp),if_neg (by rw[c5];simp)]
theorem d0t{α:Type}{c:α->α->Int}(h:Tp c):∀{l:List α},l.Pairwise (fun a b=>c a b<0)->Q7 c l=l
 |[],_=>rfl
 |x::l,hl=>by
  obtain⟨h1,h2⟩:=List.pairwise_cons.1 hl;rw[Q7,d0t h h2,if_pos,d35 fun w hw=>?_]
  ·have a:=h1 w hw;have b:=h.s x w;omega
  ·rw[lone,List.all_eq_true];intro y hy;have:=h1 y hy;simp;omega
theorem f1z{α:Type}{f:α->List α}:∀{l:List α},(∀x∈l,f x=[x])->l.flatMap f=l
 |[],_=>rfl
 |x::l,h=>by rw[List.flatMap_cons,h x (by simp),f1z fun y hy=>h y (by simp[hy])];rfl
theorem d99{α:Type}{f:α->α}:∀{l:List α},(∀x∈l,f x=x)->l.map f=l
 |[],_=>rfl
 |x::l,h=>by rw[List.map_cons,h x (by simp),d99 fun y hy=>h y (by simp[hy])]
theorem d9q{α β:Type}{f g:α->β}:∀{l:List α},(∀x∈l,f x=g x)->l.map f=l.map g
 |[],_=>rfl
 |x::l,h=>by rw[List.map_cons,List.map_cons,h x (by simp),d9q fun y hy=>h y (by simp[hy])]
theorem Lim.mem{α:Type}{e:Int}{f:α->Q9}:∀{l:List α},Lim e (a4m f l)->∀x∈l,Lim e (f x)
 |[],_,x,hx=>by cases hx
 |y::l,h,x,hx=>by
  simp only[Lim,a4m,Q9.add]at h;rcases List.mem_cons.1 hx with q|q
  ·subst q;exact⟨by omega,by omega⟩
  ·exact Lim.mem (l:=l) ⟨by omega,by omega⟩ x q
theorem Lim.pair{e:Int}{a b:Q9}(h:Lim e (a.add b)):Lim e a/\Lim e b:=by
 simp only[Lim,Q9.add]at h ⊢;omega
theorem Lim.untop{e:Int}{v:A0}(hk:v.Kind≠10){k:Q9}(h:Lim e (d2d v k)):Lim e k:=by
 simp only[Lim,d2d,if_neg hk]at h ⊢;omega
theorem ScO.ok{p:A6}{k t:Int}{y:A0}(h:ScO p k t y)(hs:y.Text.size<=4096):OkD y/\wtV y+1<=4200*nV y/\∀N,X5 N y=false:=by
 obtain⟨l1,l2,l3,l4⟩:=h.lone;have hk:=h.kind;have hf:=h.fit;obtain⟨k1,k2,_,_⟩:=b5y y (by rw[hk];exact hf);have hb:=h.b;have hw:=b5i y;have hn:=b6o y;rw[l1,l2,l3,l4]at hw hn;simp only[a06,List.length_nil]at hw hn;refine⟨?_,by omega,fun N=>?_⟩
 ·obtain⟨K,B,T,L,P,S,R⟩:=y;simp only at l1 l2 l3 l4 k1 k2 hb hs ⊢;subst l1 l2 l3 l4;have z:Sz 0:=Nat.zero_le _;exact .mk _ (show I64 K from⟨by omega,by omega⟩) (show U64 B from hb) (show T.size<=140737488351232 by omega) z z z z (fun x hx=>by cases hx) (fun x hx=>by cases hx) (fun x hx=>by cases hx) (fun x hx=>by cases hx) (fun x hx=>by cases hx) (fun x hx=>by cases hx) ⟨z,z,z,z⟩
 ·cases N with
  |zero=>rfl
  |succ N=>simp[X5,l1,l2,l3,l4]
section
variable {p:A6}(hx:OkX p)
 include hx
theorem g70:∀(n:Nat) (t:Int) (x:A0),RfV p n t x->(cV x).l<=4096->OkD x/\wtV x+1<=4200*nV x/\∀N,X5 N x=false
 |0,_,_,h,_=>h.elim
 |n+1,t,x,⟨g,hgt,ht,ex,hm,hu⟩,hl=>by
  have hg:g∈p.Progs:=List.mem_of_getElem? hgt;have z:Sz 0:=Nat.zero_le _;have L0:Lim 17 (⟨0,0,(cV x).l⟩:Q9):=⟨by simp,hl⟩
  have hcl:(cV x).l=(a4m cS x.Slots).l:=by
   rw[ex,c0q];have:(⟨#[]⟩:ByteArray).size=0:=rfl;simp[d2d,a4m,Q9.none,Q9.add,this]
  have smem:=fun(s:Int × A0) (hs:s∈x.Slots)=>d1m (fun c=>c.l) (fun a b=>by simp only[Q9.add];omega) cS x.Slots s hs
  have elem:∀(o:GOp) (y:A0),ElO p (RfV p n) o.Kind o.Target y->(cV y).l<=4096->OkD y/\wtV y+1<=4200*nV y/\∀N,X5 N y=false:=fun o y h hly=>by
   by_cases hk:o.Kind=10
   ·exact g70 n o.Target y (h.1 hk) hly
   ·have hs:=h.2 hk;rw[hs.cost]at hly;exact hs.ok hly
  have field:∀s∈x.Slots,OkD s.2/\wtV s.2+1<=4200*nV s.2/\∀N,X5 N s.2=false:=fun s hs=>by
   obtain⟨o,ho,he,h4,h5,h6⟩:=d6e hm s hs;have hls:(cV s.2).l<=4096:=by have:=smem s hs;simp only[cS]at this;omega
   obtain⟨num,v⟩:=s;simp only at h4 h5 h6 hls ⊢;have e:=c0q v
   by_cases c4:o.Card=4
   ·obtain⟨ez,hne,hlen,hel⟩:=h4 c4;generalize v.List_=l at*;subst ez
    have hi:∀y∈l,(cV y).l<=4096:=fun y hy=>by
     have:=d1m (fun c=>c.l) (fun a b=>by simp only[Q9.add];omega) cV l y hy;rw[e]at hls;simp only[d2d,Q9.add]at hls;omega
    have H:=fun y hy=>elem o y (hel y hy) (hi y hy)
    have w:=b5i ⟨11,0,⟨#[]⟩,l,[],[],[]⟩;have nn:=b6o ⟨11,0,⟨#[]⟩,l,[],[],[]⟩;have hs:=b5h (l:=l) (f:=wtV) (g:=fun y=>4200*nV y) fun y hy=>by have:=(H y hy).2.1;omega
    rw[c0h]at hs;have e0:(⟨#[]⟩:ByteArray).size=0:=rfl;simp only[a06,e0,List.length_nil]at w nn;refine⟨.mk _ (show I64 11 from⟨by decide,by decide⟩) (show U64 0 from⟨by decide,by decide⟩) z (show l.length<=140737488351232 by omega) z z z (fun y hy=>(H y hy).1) (fun x hx=>by cases hx) (fun x hx=>by cases hx) (fun x hx=>by cases hx) (fun x hx=>by cases hx) (fun x hx=>by cases hx) ⟨show l.length*128<=140737488351232 by omega,z,z,z⟩,by omega,fun N=>?_⟩;cases N with
    |zero=>rfl
    |succ N=>
     have:l.any (X5 N)=false:=List.any_eq_false.2 fun y hy=>by rw[(H y hy).2.2 N];simp
     simp[X5,this]
   by_cases c5:o.Card=5
   ·obtain⟨ez,hne,hlen,hk,hel,hup⟩:=h5 c5;generalize v.Pairs=l at*;subst ez
    have hi:∀y∈l,(cV y.1).l<=4096/\(cV y.2).l<=4096:=fun y hy=>by
     have:=d1m (fun c=>c.l) (fun a b=>by simp only[Q9.add];omega) cP l y hy;rw[e]at hls;simp only[d2d,Q9.add,cP]at hls this;omega
    have H:=fun y hy=>elem o y.2 (hel y hy).2 (hi y hy).2
    have K:=fun(y:A0 × A0) (hy:y∈l)=>(hel y hy).1.ok (by have:=(hi y hy).1;rw[(hel y hy).1.cost]at this;exact this)
    have w:=b5i ⟨12,0,⟨#[]⟩,[],l,[],[]⟩;have nn:=b6o ⟨12,0,⟨#[]⟩,[],l,[],[]⟩
    have hs:=b5h (l:=l) (f:=wtP) (g:=fun y=>4200*nP y) fun y hy=>by
     have a:=(H y hy).2.1;have b:=(K y hy).2.1;simp only[wtP,nP];omega
    rw[c0h]at hs;have e0:(⟨#[]⟩:ByteArray).size=0:=rfl;simp only[a06,e0,List.length_nil]at w nn;refine⟨.mk _ (show I64 12 from⟨by decide,by decide⟩) (show U64 0 from⟨by decide,by decide⟩) z z (show l.length<=140737488351232 by omega) z z (fun x hx=>by cases hx) (fun y hy=>(K y hy).1) (fun y hy=>(H y hy).1) (fun x hx=>by cases hx) (fun x hx=>by cases hx) (fun x hx=>by cases hx) ⟨z,show l.length*256<=140737488351232 by omega,z,z⟩,by omega,fun N=>?_⟩;cases N with
    |zero=>rfl
    |succ N=>
     have:l.any (fun y=>X5 N y.2)=false:=List.any_eq_false.2 fun y hy=>by rw[(H y hy).2.2 N];simp
     simp[X5,this]
   ·exact elem o v (h6 c4 c5).1 hls
  have hlen:=d83 hm;have hfew:=d87 hx hg;have w:=b5i x;have nn:=b6o x
  have hs:=b5h (l:=x.Slots) (f:=wtS) (g:=fun s=>4200*nS s) fun s hs=>by
   have a:=(field s hs).2.1;simp only[wtS,nS];omega
  rw[c0h]at hs;have e0:(⟨#[]⟩:ByteArray).size=0:=rfl;generalize x.Slots=S at*;subst ex;simp only[a06,e0,List.length_nil]at w nn;refine⟨.mk _ (show I64 10 from⟨by decide,by decide⟩) (show U64 0 from⟨by decide,by decide⟩) z z z (show S.length<=140737488351232 by omega) z (fun x hx=>by cases hx) (fun x hx=>by cases hx) (fun x hx=>by cases hx) (fun s hs=>?_) (fun s hs=>(field s hs).1) (fun x hx=>by cases hx) ⟨z,z,show S.length*136<=140737488351232 by omega,z⟩,by omega,fun N=>?_⟩
  ·obtain⟨o,ho,he,_⟩:=d6e hm s hs;have:=hx.va.num g hg o ho;rw[<-he];exact⟨by have:=this.1;omega,by have:=this.2;omega⟩
  ·cases N with
   |zero=>rfl
   |succ N=>
    have:S.any (fun s=>X5 N s.2)=false:=List.any_eq_false.2 fun s hs=>by rw[(field s hs).2.2 N];simp
    simp[X5,this]
theorem f78:∀(n:Nat) (t:Int) (x:A0) (lev:Int),RfV p n t x->Lim lev (cV x)->∀N,SizeOf.sizeOf x<=N->a98 p N t x lev=0/\F7 p N t x=x/\Q8 p N t x=Q8 p n t x
 |0,_,_,_,h,_,_,_=>h.elim
 |n+1,t,x,lev,⟨g,hgt,ht,ex,hm,hu⟩,hL,0,hN=>by have:=szV x;omega
 |n+1,t,x,lev,⟨g,hgt,ht,ex,hm,hu⟩,hL,N+1,hN=>by
  have hg:g∈p.Progs:=List.mem_of_getElem? hgt;have hasc:=b90 (hx.va.asc g hg);have e0:(⟨#[]⟩:ByteArray).size=0:=rfl
  have ec:cV x=⟨(a4m cS x.Slots).d+1,(a4m cS x.Slots).n+1,(a4m cS x.Slots).l⟩:=by
   rw[ex,c0q];simp[d2d,a4m,Q9.none,Q9.add,e0]
  have hL1:Lim (lev+1) (a4m cS x.Slots):=by
   rw[ec]at hL;simp only[Lim]at hL ⊢;omega
  have hlev:lev<=16:=by rw[ec]at hL;simp only[Lim]at hL;omega
  have elem:∀(o:GOp) (y:A0),ElO p (RfV p n) o.Kind o.Target y->Lim (lev+1) (cV y)->SizeOf.sizeOf y<=N->b53 (a98 p N) p o y lev=0/\a3y (F7 p N) o y=y/\a9b (Q8 p N) o y=a9b (Q8 p n) o y:=fun o y h hl hs=>by
   by_cases hk:o.Kind=10
   ·obtain⟨a,b,c⟩:=f78 n o.Target y (lev+1) (h.1 hk) hl N hs;refine⟨by rw[b53,if_pos hk];exact a,by rw[a3y,if_pos hk];exact b,?_⟩;rw[a9b,if_pos hk,a9b,if_pos hk];exact c
   ·have hs2:=h.2 hk;have hl2:=hl.2;rw[hs2.cost]at hl2;refine⟨by rw[b53,if_neg hk];exact f8j hs2 hl2,by rw[a3y,if_neg hk];exact hs2.nrm,?_⟩;rw[a9b,if_neg hk,a9b,if_neg hk]
  -- a field
  have field:∀s∈x.Slots,∃o,opV g s.1=(o,true)/\o∈g.Ops/\a7c (a98 p N) p o s.2 lev=0/\a4b (F7 p N) o s.2=s.2/\(!d2e o|| !a7o s.2)=true/\a2e (Q8 p N) o s.2 true=a2e (Q8 p n) o s.2 true:=fun s hs=>by
   obtain⟨o,ho,he,h4,h5,h6⟩:=d6e hm s hs;have hof:=(hx.va.pro g hg).2 _ ho;have hl:=hL1.mem s hs;have hsz:=szS hs;have hov:=d3k hx hg ho;rw[he]at hov;refine⟨o,hov,ho,?_⟩;obtain⟨num,v⟩:=s;simp only[cS]at h4 h5 h6 hl hsz ⊢;have e:=c0q v
   by_cases c4:o.Card=4
   ·obtain⟨ez,hne,hlen,hel⟩:=h4 c4
    have hi:∀y∈v.List_,Lim (lev+1) (cV y):=fun y hy=>by
     rw[e]at hl;exact((hl.untop (by rw[ez];exact show(11:Int)≠10 by decide)).pair).1.mem y hy
    have H:=fun y hy=>elem o y (hel y hy) (hi y hy) (by have:=szL hy;omega)
    have k1:v.Kind=11:=by rw[ez]
    have k2:a12 v=false:=by rw[ez];simp[a12]
    refine⟨?_,?_,?_,?_⟩
    ·rw[a7c,if_pos c4,if_neg (by rw[k1,k2];simp)];refine c3j (fun k hk=>?_) 0;simp only[e39,List.getElem?_eq_getElem hk];exact(H _ (List.getElem_mem hk)).1
    ·rw[a4b,if_pos c4,d99 fun y hy=>(H y hy).2.1];exact ez.symm
    ·have:a7o v=false:=by
      unfold a7o;rw[if_pos k1];cases hv:v.List_ with
      |nil=>exact absurd hv hne
      |cons a l=>rfl
     rw[this];simp
    ·rw[a2e,if_pos c4,a2e,if_pos c4,d9q fun y hy=>(H y hy).2.2]
   by_cases c5:o.Card=5
   ·obtain⟨ez,hne,hlen,hkey,hel,hup⟩:=h5 c5
    have hi:∀y∈v.Pairs,Lim (lev+1) (cV y.1)/\Lim (lev+1) (cV y.2):=fun y hy=>by
     rw[e]at hl;exact((((hl.untop (by rw[ez];exact show(12:Int)≠10 by decide)).pair).2.pair).1.mem y hy).pair
    have H:=fun y hy=>elem o y.2 (hel y hy).2 (hi y hy).2 (by have:=szP hy;omega)
    have K:=fun(y:A0 × A0) (hy:y∈v.Pairs)=>f8j (hel y hy).1 (by have:=(hi y hy).1.2;rw[(hel y hy).1.cost]at this;exact this)
    have k1:v.Kind=12:=by rw[ez]
    have k2:a12 v=false:=by rw[ez];simp[a12]
    have hst:v.Pairs.Pairwise fun a b=>kc (SizeOf.sizeOf v.Pairs) a b<0:=by
     refine hup.imp_of_mem fun {a b} ha hb hab=>?_
     have h1:=(hel a ha).1
     have hs:isS a.1.Kind=true:=by
      have:=b5y a.1 (by rw[h1.kind];exact h1.fit);unfold isS;simp only[Bool.and_eq_true,decide_eq_true_eq];omega
     obtain⟨m,hm⟩:∃m,SizeOf.sizeOf v.Pairs=m+1:=⟨SizeOf.sizeOf v.Pairs - 1,by cases v.Pairs<;>simp<;>omega⟩
     rw[hm,kc,e2u (n:=m) _ _ hs];exact hab
    refine⟨?_,?_,?_,?_⟩
    ·rw[a7c,if_neg c4,if_pos c5,if_neg (by rw[k1,k2];simp)];refine c3j (fun k hk=>?_) 0;have hmem:=List.getElem_mem hk
     have hkB:g2u v.Pairs[k] (v.Pairs.take k)=false:=by
      rw[g2u,List.any_eq_false];intro q hq;obtain⟨i,hi2,rfl⟩:=List.mem_take_iff_getElem.1 hq;have:=List.pairwise_iff_getElem.1 hup i k (by omega) hk (by omega);simp;omega
     simp only[c9y,List.getElem?_eq_getElem hk];rw[orE,if_neg (by rw[K _ hmem];simp),if_neg (by rw[hkB];simp)];exact(H _ hmem).1
    ·rw[a4b,if_neg c4,if_pos c5,b0a,d0t (b1n (f93 _) fun x:A0 × A0=>x.1) hst,d99 fun y hy=>by rw[(hel y hy).1.nrm,(H y hy).2.1]];exact ez.symm
    ·have:a7o v=false:=by
      unfold a7o;rw[if_neg (by omega),if_pos k1];cases hv:v.Pairs with
      |nil=>exact absurd hv hne
      |cons a l=>rfl
     rw[this];simp
    ·rw[a2e,if_neg c4,if_pos c5,a2e,if_neg c4,if_pos c5,d9q (g:=c1j (Q8 p n) o) fun y hy=>by simp only[c1j,(H y hy).2.2]]
   obtain⟨h1,h2⟩:=h6 c4 c5;obtain⟨a,b,c⟩:=elem o v h1 hl (by omega);refine⟨by rw[a7c,if_neg c4,if_neg c5];exact a,by rw[a4b,if_neg c4,if_neg c5];exact b,?_,?_⟩
   ·by_cases c3:o.Card=3
    ·have hk:o.Kind≠10:=fun q=>(hof.msg q).2.2 c3
     have hkk:=(h1.2 hk).kind;have:=hof.kind
     have:a7o v=false:=by
      unfold a7o;rw[if_neg (by omega),if_neg (by omega)];exact h2 c3
     rw[this];simp
    ·have:d2e o=false:=by unfold d2e;simp[c3,c4,c5]
     rw[this];rfl
   ·rw[a2e,if_neg c4,if_neg c5,a2e,if_neg c4,if_neg c5,c]
  have hup:x.Slots.Pairwise fun a b=>kn a b<0:=(d12 hasc hm).imp fun {a b} h=>by
   rcases P9 a.1 b.1 with q|q|q
   ·have:kn a b=a4n a.1 b.1:=rfl;omega
   ·omega
   ·omega
  refine⟨?_,?_,?_⟩
  ·simp only[a98,hgt];have k1:x.Kind=10:=by rw[ex]
   have k2:a12 x=false:=by rw[ex];simp[a12]
   have k3:x.Raws=[]:=by rw[ex]
   rw[f2d,if_neg (by rw[k1,k2];simp),if_neg (by omega),k3]
   have s1:b8g (d15 (a98 p N) p g x.Slots lev) 0 x.Slots.length=0:=by
    refine c3j (fun k hk=>?_) 0;have hmem:=List.getElem_mem hk;obtain⟨o,q1,q2,q3,_⟩:=field _ hmem;simp only[d15,List.getElem?_eq_getElem hk,q1]
    have n1:((x.Slots.take k).any fun y=>y.1==x.Slots[k].1)=false:=by
     rw[List.any_eq_false];intro y hy;obtain⟨i,hi2,rfl⟩:=List.mem_take_iff_getElem.1 hy;have:=List.pairwise_iff_getElem.1 (d12 hasc hm) i k (by omega) hk (by omega);simp;omega
    have n2:((x.Slots.take k).any fun y=>(o.Union !=(-1))&&((opV g y.1).1.Union==o.Union))=false:=by
     rw[List.any_eq_false];intro y hy;obtain⟨i,hi2,rfl⟩:=List.mem_take_iff_getElem.1 hy;have hu2:=List.pairwise_iff_getElem.1 hu i k (by omega) hk (by omega);unfold Uni at hu2;rw[q1]at hu2;simp only at hu2;have:=(hx.va.pro g hg).1 _ q2;unfold e02 at this;simp only[Bool.and_eq_true,bne_iff_ne,ne_eq,beq_iff_eq];rintro⟨w1,w2⟩;exact hu2 (by omega) w2
    rw[if_neg (by decide),if_neg (by rw[n1];simp),if_neg (by rw[n2];simp)];exact q3
   have s2:b8g (d2i g x) 0 g.Ops.length=0:=by
    refine c3j (fun k hk=>?_) 0;simp only[d2i,List.getElem?_eq_getElem hk];rw[if_neg];rintro⟨w1,w2⟩;obtain⟨s,a,b⟩:=c9e hm _ (List.getElem_mem hk) w1;rw[List.any_eq_false]at w2;exact w2 s a (by simpa using b)
   rw[orE,if_neg (by rw[s1];simp),orE,if_neg (by rw[s2];simp)];exact c3j (fun k hk=>by simp at hk) 0
  ·have e:F7 p (N+1) t x=b61 (F7 p N) g x:=by simp only[F7,hgt]
   have k3:x.Raws=[]:=by rw[ex]
   rw[e,b61,d0t f12 hup,f1z fun s hs=>?_,k3]
   ·exact ex.symm
   ·obtain⟨o,q1,_,_,q4,q5,_⟩:=field s hs;rw[q1];simp only[a42];rw[q4,if_pos q5]
  ·simp only[Q8,hgt]
   have hm2:b1o (fun o z=>∃s∈x.Slots,s.1=o.Num/\s.2=z/\o∈g.Ops) g.Ops x.Slots:=by
    have key:∀(ops:List GOp) (S:List (Int × A0)),(∀o∈ops,o∈g.Ops)->(∀s∈S,s∈x.Slots)->b1o (RfF p (RfV p n)) ops S->b1o (fun o z=>∃s∈x.Slots,s.1=o.Num/\s.2=z/\o∈g.Ops) ops S:=by
     intro ops
     induction ops with
     |nil=>intro S _ _ h;exact h
     |cons o ops ih=>
      intro S ho hS h;cases S with
      |nil=>exact⟨h.1,ih [] (fun q hq=>ho q (by simp[hq])) hS h.2⟩
      |cons s S=>exact⟨fun he=>⟨⟨s,hS s (by simp),he,rfl,ho o (by simp)⟩,ih S (fun q hq=>ho q (by simp[hq])) (fun q hq=>hS q (by simp[hq])) (h.1 he).2⟩,fun he=>⟨(h.2 he).1,ih (s::S) (fun q hq=>ho q (by simp[hq])) hS (h.2 he).2⟩⟩
    exact key g.Ops x.Slots (fun o h=>h) (fun s h=>h) hm
   refine c0o hm2 fun o z ⟨s,hs,h1,h2,h3⟩=>?_
   obtain⟨o',q1,_,_,_,_,q6⟩:=field s hs;have:=d3k hx hg h3;rw[<-h1,q1]at this;have eo:o'=o:=congrArg Prod.fst this;rw[<-h2,<-eo];exact q6
end
section
attribute [local irreducible] Ok run put d2b br jn pos dr0 dr1 So
attribute [-simp] List.map_take List.map_drop List.map_append List.map_set List.map_replicate List.map_cons List.map_map
attribute [local simp] plain plainL a77 a5d Z7 low lowL lowLL K8 G7 G5 F9 J4 G6 G8 G4 K7 T3 a0s T1 a08 N0 T2 G3 H8 Q6 H0 A9 E8 N4 D7 O4 E4 P4 K0 R0 J6 T5 N1 V7 Q0 E7 S8 J3 G9 C3 L4 K3 N2 G2 F4 W8 S7 Y1 U6 G1 P3 a0c Z0 a4p a2c c4y d65 c64 c7e a8r b01 c66 c7l b73 c2m e5t eFn b6m b2i b2z b3k b6t b3d b3s b3a b7e c2e c24 b3m b62 a8w b3j b3y b3h b20 b30 b2r b2j a3n a5z a5o Y5 a51 a5n a1e a5m a8y c1k b7t b6x b23 b3f b2y b67 b21 b3e b2n b6l c1g c2q b32 b7o a80 b2s b3x b3q b3g b2m b2x b2q a29 a5s a5r Z2 a6a a54 a1n a5k a88 c15 b22 b7d a85 b27 b3w b3v b3n b2w b3t b2l a2t a6i a5t Y6 a6d a5h a1d a6g a9c c9m
theorem g7q(r:Bool):plain (e15 r)=true:=rfl
theorem c72(r:Bool)(hw:∃y1,B8 Tryz.prog [] 18 [.agg [.sl [[aS (⟨#[77]⟩:ByteArray),.sl [[aI 1,aS (⟨#[97]⟩:ByteArray),aE,aI 2,aI 0,aI 4,aI (-1),aI (-1)],[aI 2,aS (⟨#[98]⟩:ByteArray),aE,aI 2,aI 0,aI 7,aI (-1),aI (-1)]] .full,aI 0]] .no,.sl [] .no],aS (⟨#[77]⟩:ByteArray),.agg [aI 10,aU 0,aE,.sl [] .no,.sl [] .no,.sl [[aI 2,aI 7,aU 0,aS (⟨#[97]⟩:ByteArray),.nil,.nil,.nil,.nil]] .no,.sl [] .no]] (e18 y1)/\(∃y2,b6n y2/\(∃y3,B8 Tryz.prog [] 20 [.agg [.sl [[aS (⟨#[77]⟩:ByteArray),.sl [[aI 1,aS (⟨#[97]⟩:ByteArray),aE,aI 2,aI 0,aI 4,aI (-1),aI (-1)],[aI 2,aS (⟨#[98]⟩:ByteArray),aE,aI 2,aI 0,aI 7,aI (-1),aI (-1)]] .full,aI 0]] .no,.sl [] .no],aS (⟨#[77]⟩:ByteArray),aS (⟨#[1,5,0]⟩:ByteArray),.agg (a3x y2)] (e20 y3)/\((((((y1.2==0)&&(decide (y1.1=(⟨#[0,1,1,97]⟩:ByteArray))))&&(y3.2==0))&&((y3.1.Slots.length:Int)==1))=true->∃y5,y3.1.Slots[(0:Int).toNat]? =some y5/\0<=(0:Int)/\(r=(y5.2.Bits==5)))/\(((((y1.2==0)&&(decide (y1.1=(⟨#[0,1,1,97]⟩:ByteArray))))&&(y3.2==0))&&((y3.1.Slots.length:Int)==1))=false->r=false))))):a3g r:=
 fP (KC 31 hw rfl fun y1 hw=>KD 8 [1]<|KC 1 hw h55 fun _ hw=>KC 0 hw (A7 rfl (A7 rfl (A7 rfl (A7 (K3 _) rfl)))) fun y3 hw=>KV 4<|KT 9 3<|KT 1 3<|KT2 1 5 (((y1.2==0)&&(decide (y1.1=(⟨#[0,1,1,97]⟩:ByteArray))))&&(y3.2==0)) (fun z=>aB (z&&((y3.1.Slots.length:Int)==1))) (fun _ key=>KL 2 C1 y3.1.Slots<|KE2 2 key) (fun _ key=>KE2 5 key)<|KW 1 hw (fun _ hw=>KI 2 C1 hw fun _ hw=>KR 9 hw g7q) fun _ hw=>KR 12 hw g7q)
end
mutual
def nzD:AV->AV
 |.nil=>.sl [] .no
 |.sl els _=>.sl (nzE els) .no
 |.agg cs=>.agg (nzC cs)
 |x=>x
def nzC:List AV->List AV
 |[]=>[]
 |a::l=>nzD a::nzC l
def nzE:List (List AV)->List (List AV)
 |[]=>[]
 |a::l=>nzC a::nzE l
end
theorem d4w:∀l:List AV,nzC l=l.map nzD
 |[]=>rfl
 |a::l=>by rw[nzC,d4w l];rfl
theorem d9l:∀l:List (List AV),nzE l=l.map nzC
 |[]=>rfl
 |a::l=>by rw[nzE,d9l l];rfl
theorem e00(a:AV):(nzD a).isCell=a.isCell:=by cases a<;>rfl
theorem d72{l:List AV}{i:Nat}{b:AV}(h:(nzC l)[i]? =some b):∃a,l[i]? =some a/\b=nzD a:=by
 rw[d4w,List.getElem?_map]at h;obtain⟨a,h1,h2⟩:=Option.map_eq_some_iff.1 h;exact⟨a,h1,h2.symm⟩
theorem e8u{l:List (List AV)}{i:Nat}{b:List AV}(h:(nzE l)[i]? =some b):∃a,l[i]? =some a/\b=nzC a:=by
 rw[d9l,List.getElem?_map]at h;obtain⟨a,h1,h2⟩:=Option.map_eq_some_iff.1 h;exact⟨a,h1,h2.symm⟩
theorem Rel.nzD{σ:Sg}{a:AV}{x:Value}(hr:Rel σ a x):Rel σ (Lift.nzD a) x:=by
 induction hr with
 |v x h=>exact .v x h
 |ptr n off b h=>exact .ptr n off b h
 |elt cells off b o xs hc hr _=>exact .elt cells off b o xs hc hr
 |nil=>exact .sl0 _ trivial
 |glob n=>exact .glob n
 |row n off size len capm b cap h hc hm hx=>exact .row n off size len capm b cap h hc hm hx
 |sl0 tok ht=>exact .sl0 _ trivial
 |slx tok a cap ht hc=>exact .slx _ a cap trivial (.inl rfl)
 |sl els tok b o cap size xs hs hcap ht hz hc hr ih=>
  have hl:(nzE els).length=els.length:=by rw[d9l,List.length_map]
  rw[<-hl];refine .sl (nzE els) .no b o cap size xs (fun i el h=>?_) (by rw[hl];exact hcap) trivial (fun id e h=>by cases h) (fun i el h j av h2=>?_) (fun i el h j av h2=>?_)
  ·obtain⟨e,h1,rfl⟩:=e8u h;rw[d4w,List.length_map];exact hs i e h1
  ·obtain⟨e,h1,rfl⟩:=e8u h;obtain⟨a,h3,rfl⟩:=d72 h2;rw[e00];exact hc i e h1 j a h3
  ·obtain⟨e,h1,rfl⟩:=e8u h;obtain⟨a,h3,rfl⟩:=d72 h2;exact ih i e h1 j a h3
 |agg cells xs hn hc x hx hr ih=>
  refine .agg (nzC cells) xs (by rw[d4w,List.length_map];exact hn) (fun i av h=>?_) x (fun i av h=>?_) (fun i av h=>?_)
  ·obtain⟨a,h3,rfl⟩:=d72 h;rw[e00];exact hc i a h3
  ·obtain⟨a,h3,rfl⟩:=d72 h;exact hx i a h3
  ·obtain⟨a,h3,rfl⟩:=d72 h;exact ih i a h3
 |tuple vs xs hn x hx hr _=>exact .tuple vs xs hn x hx hr
 |iface t av x h _=>exact .iface t av x h
 |clo fn first captured fs cs hn hm x y hx hy hr hq _ _=>exact .clo fn first captured fs cs hn hm x y hx hy hr hq
theorem e2l{P:Program}{gl:List (Nat × List AV)}{f:FuncId}{args args':List AV}{r:AV}(h:B8 P gl f args r)(e:args'.map nzD=args):B8 P gl f args' r:=by
 subst e;refine⟨h.1,fun w outer cargs ho hg hr=>h.2 w outer cargs ho hg ⟨by rw[List.length_map];exact hr.1,fun i av hi=>?_⟩⟩;rw[List.getElem?_map]at hi;obtain⟨a,h1,rfl⟩:=Option.map_eq_some_iff.1 hi;obtain⟨x,h2,h3⟩:=hr.2 i a h1;exact⟨x,h2,h3.nzD⟩
def exA:GOp:=⟨1,⟨#[97]⟩,⟨#[]⟩,2,0,4, -1, -1⟩
def exB:GOp:=⟨2,⟨#[98]⟩,⟨#[]⟩,2,0,7, -1, -1⟩
def exG:B9:=⟨⟨#[77]⟩,[exA,exB],0⟩
def exP:A6:=⟨[exG],[]⟩
def exS:A0:=⟨7,0,⟨#[97]⟩,[],[],[],[]⟩
def exN:A0:=⟨4,5,⟨#[]⟩,[],[],[],[]⟩
def exV:A0:=⟨10,0,⟨#[]⟩,[],[],[(2,exS)],[]⟩
def exX:A0:=⟨10,0,⟨#[]⟩,[],[],[(1,exN)],[]⟩
theorem f4m(o:GOp)(h:o∈[exA,exB]):g54 o/\f2x o/\e02 o/\OpF exP o:=by
 have i:∀n:Int, -1<=n->n<=10->I64 n:=fun n h1 h2=>⟨by omega,by omega⟩
 have z:∀n:Nat,n<=10->Sz n:=fun n h=>show n<=140737488351232 by omega
 simp only[List.mem_cons,List.mem_nil_iff,or_false]at h;rcases h with rfl|rfl
 ·exact⟨⟨i _ (by decide) (by decide),z _ (by decide),z _ (by decide),i _ (by decide) (by decide),i _ (by decide) (by decide),i _ (by decide) (by decide),i _ (by decide) (by decide),i _ (by decide) (by decide)⟩,⟨by decide,by decide⟩,by unfold e02;decide,⟨by decide,by decide,⟨fun _=>rfl,fun h=>absurd h (by decide)⟩,fun h=>absurd h (by decide),fun h=>absurd h (by decide),fun _ _=>rfl,.inl rfl⟩⟩
 ·exact⟨⟨i _ (by decide) (by decide),z _ (by decide),z _ (by decide),i _ (by decide) (by decide),i _ (by decide) (by decide),i _ (by decide) (by decide),i _ (by decide) (by decide),i _ (by decide) (by decide)⟩,⟨by decide,by decide⟩,by unfold e02;decide,⟨by decide,by decide,⟨fun _=>rfl,fun h=>absurd h (by decide)⟩,fun h=>absurd h (by decide),fun h=>absurd h (by decide),fun _ _=>rfl,.inl rfl⟩⟩
theorem f1h:OkX exP:=by
 have z:∀n:Nat,n<=10->Sz n:=fun n h=>show n<=140737488351232 by omega
 have one:∀g∈exP.Progs,g=exG:=fun g h=>List.mem_singleton.1 h
 have pl:b5t exP:=⟨z _ (by decide),fun g hg=>by rw[one g hg];exact⟨z _ (by decide),z _ (by decide),fun o ho=>(f4m o ho).1,⟨by decide,by decide⟩⟩,z _ (by decide),fun y hy=>by cases hy⟩;refine⟨pl.oke,pl,⟨fun g hg=>?_,fun g hg o ho=>?_,fun g hg=>?_⟩⟩
 ·rw[one g hg];intro m x y h1 h2 h3;have e:m=0:=by have:m+1<2:=h1;omega
  subst e;cases h2;cases h3;decide
 ·rw[one g hg]at ho;exact(f4m o ho).2.1
 ·rw[one g hg];exact⟨fun o ho=>(f4m o ho).2.2.1,fun o ho=>(f4m o ho).2.2.2⟩
theorem g89:ScO exP 7 (-1) exS:=by
 have hv:b1c exS.Text=true:=by decide+kernel
 refine⟨?_,rfl,d16 (by decide),fun h=>absurd h (by decide),⟨by decide,by decide⟩,rfl,rfl,rfl,rfl⟩;unfold a64;rw[if_pos (.inl rfl),hv];decide
theorem h1o:ScO exP 4 (-1) exN:=⟨by decide,rfl,d16 (by decide),fun h=>absurd h (by decide),⟨by decide,by decide⟩,rfl,rfl,rfl,rfl⟩
theorem h4x{o:GOp}{k:Int}{y:A0}(hc:o.Card=2)(hk:o.Kind=k)(h10:k≠10)(ht:o.Target= -1)(h:ScO exP k (-1) y)(B:Int->A0->Prop):RfF exP B o y:=
 ⟨fun q=>by omega,fun q=>by omega,fun _ _=>⟨⟨fun q=>absurd (hk▸q) h10,fun _=>by rw[hk,ht];exact h⟩,fun q=>by omega⟩⟩
theorem h38:RfV exP 1 0 exV:=⟨exG,rfl,by decide,rfl,⟨fun h=>absurd h (by decide),fun _=>⟨by decide,fun _=>⟨h4x rfl rfl (by decide) rfl g89 _,rfl⟩,fun h=>absurd rfl h⟩⟩,List.pairwise_singleton _ _⟩
theorem h7i:RfV exP 1 0 exX:=⟨exG,rfl,by decide,rfl,⟨fun _=>⟨h4x rfl rfl (by decide) rfl h1o _,by decide,rfl⟩,fun h=>absurd rfl h⟩,List.pairwise_singleton _ _⟩
theorem d6u(n:Nat)(h:n<128):b34 n=ofI [(n:Int)]:=by rw[b34,b45,if_pos h]
theorem h1w:Q8 exP 1 0 exV=⟨#[0,1,1,97]⟩:=by
 have e:c7r exS=b34 1++⟨#[97]⟩:=by
  unfold c7r;rw[if_pos (show a64 exS.Kind exS=true from g89.fit),if_neg (by decide),if_neg (by decide),if_neg (by decide),if_pos (by decide)];rfl
 rw[d6u 1 (by decide)]at e;have e2:Q8 exP 1 0 exV=a2e (Q8 exP 0) exA V0 false++(a2e (Q8 exP 0) exB exS true++⟨#[]⟩):=rfl;have e3:a2e (Q8 exP 0) exB exS true=⟨#[1]⟩++c7r exS:=rfl;rw[e2,e3,e];rfl
theorem g4m:Q8 exP 1 0 exX=⟨#[1,5,0]⟩:=by
 have e:c7r exN=b34 5:=by
  unfold c7r;rw[if_pos (show a64 exN.Kind exN=true from h1o.fit),if_neg (by decide),if_neg (by decide),if_neg (by decide),if_neg (by decide)];rfl
 rw[d6u 5 (by decide)]at e;have e2:Q8 exP 1 0 exX=a2e (Q8 exP 0) exA exN true++(a2e (Q8 exP 0) exB V0 false++⟨#[]⟩):=rfl;have e3:a2e (Q8 exP 0) exA exN true=⟨#[1]⟩++c7r exN:=rfl;rw[e2,e3,e];rfl
theorem e6w{num:Int}{y:A0}{k:Int}(h:ScO exP k (-1) y):cV ⟨10,0,⟨#[]⟩,[],[],[(num,y)],[]⟩=⟨1,2,y.Text.size⟩:=by
 rw[c0q];simp[d2d,a4m,Q9.none,Q9.add,h.cost,c3i]
theorem d9r:X2 exP ⟨#[77]⟩=(0,true):=by decide
theorem g5t:a94 exP ⟨#[77]⟩ exV=(⟨#[0,1,1,97]⟩,0)/\OkD exV/\wtV exV<=134217728:=by
 have hc:cV exV=⟨1,2,1⟩:=e6w g89;have hL:Lim 1 (cV exV):=by rw[hc];exact⟨by decide,by decide⟩
 have hn:nV exV=2:=by show(cV exV).n=2;rw[hc]
 obtain⟨o1,o2,o3⟩:=g70 f1h _ _ _ h38 hL.2;obtain⟨m1,m2,m3⟩:=f78 f1h _ _ _ 1 h38 hL (SizeOf.sizeOf exV) (Nat.le_refl _);have hcnt:=d14 (SizeOf.sizeOf exV) exV (Nat.le_refl _)
 have hfit:c73 exP (SizeOf.sizeOf exV) 0 exV=0:=by
  rw[c73,orE,if_neg (by rw[m1];simp),hcnt,wI,C9 (by omega),if_neg (by omega)]
 refine⟨?_,o1,by omega⟩;rw[a94,d9r];simp only;rw[if_neg (by decide),if_neg (by rw[hfit];simp),if_neg (by rw[o3];simp),m2,m3,h1w,if_neg (by decide)]
theorem g4z:d53 exP ⟨#[77]⟩ ⟨#[1,5,0]⟩ ⟨65536,16,4096,4096⟩=(exX,0):=by
 have hc:cV exX=⟨1,2,0⟩:=e6w h1o;rw[d4s (by rw[d9r]) (by simp) (by decide)];have g:=d38 f1h h7i ⟨#[1,5,0]⟩ (by decide) (D:=16) (N:=4096) (T:=4096) (by decide) (by decide) (by decide) (.inl ⟨⟨#[]⟩,by rw[g4m,b5s]⟩);rw[g4m,hc]at g;rw[d9r];simp only;generalize msR exP (16:Int).toNat 0 ⟨⟨#[1,5,0]⟩,0,(⟨#[1,5,0]⟩:ByteArray).size,16,4096,4096⟩=r at g ⊢;cases r with
 |error e=>
  simp only[Got]at g;rcases g with⟨_,q⟩|⟨_,q⟩|⟨_,q⟩
  ·exact absurd ⟨⟨#[]⟩,by rw[c32,b5s]⟩ q
  ·omega
  ·omega
 |ok y=>
  obtain⟨rfl,_⟩:=g;rfl
theorem f07:a3g true:=by
 obtain⟨e1,e2,e3⟩:=g5t;have h:=f1a f1h ⟨#[77]⟩ e2 e3;rw[e1]at h;have hd:=e09 f1h ⟨#[77]⟩ ⟨#[1,5,0]⟩ ⟨65536,16,4096,4096⟩ (by decide) (by decide) (by decide);rw[g4z]at hd;refine c72 _ ⟨_,e2l (h:B8 Tryz.prog [] 18 [.agg (B6 exP),.v (.string ⟨#[77]⟩),.agg (A5 exV)] _) (by kernel_rfl),_,e1a,_,e2l (hd:B8 Tryz.prog [] 20 [.agg (B6 exP),.v (.string ⟨#[77]⟩),.v (.string ⟨#[1,5,0]⟩),.agg (a3x ⟨65536,16,4096,4096⟩)] _) (by kernel_rfl),fun _=>⟨_,rfl,by decide,rfl⟩,fun q=>?_⟩;exact absurd q (by decide)
section
open Go.RowKit Go.ChangeShapes Go.WideShapes Go.ChangeAt
open _root_.Go.Proofs.YtidmmngcijapcaaGreat.Rows (uptoBulk uptoBulkAll uptoBulkEntries uptoBulkEntry)
section
variable {H:Type}{enc:TypeId × Value->H}{P:Program}{W:World}{base b0:Nat}{spare:Nat->Bool}{held:Bool}
theorem e1i:∀(els:List (List AV)) (ds:List (DataW H)),ds.length=els.length->(∀(i:Nat) (el:List AV) (d:DataW H),els[i]? =some el->ds[i]? =some d->bL el<=uptoBulk d)->bLL els<=uptoBulkAll ds
 |[],ds,_,_=>by simp[bLL]
 |el::els,[],h,_=>by simp at h
 |el::els,d::ds,h,hh=>by
  have h1:=hh 0 el d rfl rfl;have h2:=e1i els ds (by simpa using h) fun i e d hi hd=>hh (i+1) e d (by simpa using hi) (by simpa using hd)
  simp only[bLL,uptoBulkAll];omega
theorem d6x{ts:List TypeId}(ok:d9h P ts=true):∀(n:Nat) (t:TypeId) (cs:List Value) (z:DataW H × List MemPlace),t∈ts->DataW.trod enc P W base spare held n t cs=some z->a0w P t z.1->
  ∃avs,F3 (bare W b7b) avs cs/\Ty P n t avs/\plainL avs=true/\bL avs<=uptoBulk z.1:=by
 intro n
 induction n with
 |zero=>intro t cs z ht h;simp[DataW.trod]at h
 |succ n ih=>
  intro t cs z ht h hw;have hok:=List.all_eq_true.1 ok t ht;unfold okT at hok;split at hok
  ·rename_i k hu;obtain⟨m,rfl,hz,hwf⟩:=DataW.trod_int hu h;exact⟨[.v (.int k m)],F3.one (.v _ rfl) rfl,by unfold Ty;rw[hu];exact⟨m,rfl,hwf⟩,rfl,by rw[hz];simp[bL,bA,uptoBulk]⟩
  ·rename_i hu;obtain⟨b,rfl,hz⟩:=DataW.trod_bool hu h;exact⟨[.v (.bool b)],F3.one (.v _ rfl) rfl,by unfold Ty;rw[hu];exact⟨b,rfl⟩,rfl,by rw[hz];simp[bL,bA,uptoBulk]⟩
  ·rename_i hu;obtain⟨s,rfl,rfl,_⟩:=DataW.trod_string hu h;have:s.size<=140737488351232:=hw s.size (by simp[DataW.weights]);exact⟨[.v (.string s)],F3.one (.v _ rfl) rfl,by unfold Ty;rw[hu];exact⟨s,rfl,this⟩,rfl,by simp[bL,bA,uptoBulk]⟩
  ·rename_i e hu;simp only[Bool.and_eq_true,decide_eq_true_eq,List.contains_iff_mem]at hok;obtain⟨⟨he,hk0⟩,hb1⟩:=hok;rcases DataW.trod_slice hu h with⟨hc,hx0⟩|⟨a,len,cap,elems,rest,m,hm,hc,hy,hb,hl,hmx,hlen,helem,_⟩
   ·subst hc;exact⟨[.sl [] .no],F3.one (.sl0 _ trivial) rfl,by unfold Ty;rw[hu];exact⟨[],rfl,by simp,fun el h=>by cases h⟩,rfl,by rw[hx0];simp[bL,bA,bLL,uptoBulk]⟩
   ·subst hc hy;obtain rfl:m=n:=by omega
    have hsh:=a0w.short hu hw;rw[List.length_map,hlen]at hsh
    have key:∀i,i<len->∃avs:List AV,∃vs:List Value,vs.length=P.cellsOf e/\(∀j,j<P.cellsOf e->W.cell? ((a.add (i*P.cellsOf e)).add j)=vs[j]?)/\F3 (bare W b7b) avs vs/\Ty P m e avs/\plainL avs=true/\∀q,elems[i]? =some q->bL avs<=uptoBulk q.1:=by
     intro i hi;have h1:=helem i hi;rw[List.getElem?_eq_getElem (by omega),Option.bind_eq_some_iff]at h1;obtain⟨vs,hc1,hc2⟩:=h1;obtain⟨_,hl1,hc3⟩:=World.cells?_some hc1;obtain⟨avs,h2,h3,h4,h5⟩:=ih e vs _ he hc2 (a0w.elem hu hw (i:=i) (by rw[List.getElem?_map,List.getElem?_eq_getElem (by omega)];rfl));exact⟨avs,vs,hl1,hc3,h2,h3,h4,fun q hq=>by rw[List.getElem?_eq_getElem (by omega)]at hq;cases hq;exact h5⟩
    obtain⟨els,hel,hels⟩:=c9a len key
    have hty:∀el∈els,Ty P m e el/\plainL el=true:=by
     intro el hmem;obtain⟨i,hi⟩:=List.mem_iff_getElem?.1 hmem;obtain⟨vs,_,_,_,q1,q2,_⟩:=hels i el hi;exact⟨q1,q2⟩
    refine⟨[.sl els .no],F3.one ?_ rfl,by unfold Ty;rw[hu];exact⟨els,rfl,by rw[hel];exact hsh,fun el h=>(hty el h).1⟩,by simp only[plainL,plain,Bool.true_and,Bool.and_true];exact d3n fun p hp=>(hty p hp).2,?_⟩
    rotate_left
    ·simp only[bL,bA,uptoBulk,Nat.add_zero]
     have hz:bLL els<=uptoBulkAll (elems.map (·.1)):=e1i els _ (by rw[List.length_map,hel,hlen]) fun i el d hi hd=>by
      obtain⟨vs,_,_,_,_,_,q3⟩:=hels i el hi;rw[List.getElem?_map,Option.map_eq_some_iff]at hd;obtain⟨q,hq,rfl⟩:=hd;exact q3 q hq
     omega
    by_cases h0:len=0
    ·subst h0;have:els=[]:=List.eq_nil_of_length_eq_zero hel;subst this;exact .slx _ a cap trivial (.inl rfl)
    ·obtain⟨b,o,sp⟩:=a;obtain⟨avs0,vs0,hl0,hc0,_⟩:=key 0 (by omega);have hz:=hc0 0 hk0;rw[List.getElem?_eq_getElem (by omega)]at hz
     have hspot:sp=none:=by
      have:=World.cell?_spot hz;simpa[Addr.add]using this
     subst hspot
     have:=Rel.sl (σ:=bare W b7b) els .no b o cap (P.cellsOf e) (fun i j=>((W.cell? ⟨b,o+i*P.cellsOf e+j,none⟩).getD undef)) (fun i el hi=>by
       obtain⟨vs,q1,_,q3,_⟩:=hels i el hi;rw[<-q3.1,q1]) (by omega) trivial (fun id e h=>by cases h) (fun i el hi j av hj=>by
       obtain⟨vs,q1,q2,q3,_⟩:=hels i el hi;obtain⟨c1,x,hx,hr⟩:=q3.2 j av hj;have hjl:j<P.cellsOf e:=by rw[<-q1];exact(List.getElem?_eq_some_iff.1 hx).1
       have:=q2 j hjl;rw[a0m,a0m,hx]at this;exact⟨by show W.cell? _=_;rw[this];rfl,fun h=>(b86 _ _ _ _).1 h,c1⟩) (fun i el hi j av hj=>by
       obtain⟨vs,q1,q2,q3,_⟩:=hels i el hi;obtain⟨c1,x,hx,hr⟩:=q3.2 j av hj;have hjl:j<P.cellsOf e:=by rw[<-q1];exact(List.getElem?_eq_some_iff.1 hx).1
       have:=q2 j hjl;rw[a0m,a0m,hx]at this;rw[this];exact hr)
     rw[hel]at this;exact this
  ·rename_i fs hu;simp only[Bool.and_eq_true,List.all_eq_true,List.contains_iff_mem]at hok;obtain⟨hfs,hcg⟩:=hok;obtain⟨xs,m,hm,rfl,hcl,hxl,hf⟩:=DataW.trod_struct hu h;obtain rfl:m=n:=by omega
   have key:∀i,i<fs.size->∃avs:List AV,∀f,fs[i]? =some f->F3 (bare W b7b) avs ((cs.drop f.offset).take (P.cellsOf f.type))/\Ty P m f.type avs/\plainL avs=true/\∀q,xs[i]? =some q->bL avs<=uptoBulk q.1:=by
    intro i hi;have hfi:fs[i]? =some fs[i]:=Array.getElem?_eq_getElem hi;have e:xs[i]? =some xs[i]:=List.getElem?_eq_getElem (by omega);obtain⟨avs,h2,h3,h4,h5⟩:=ih fs[i].type _ _ (hfs _ (by simp)) ((hf i _ hfi).trans e) (a0w.part hu hw hfi (by rw[List.getElem?_map,e];rfl));refine⟨avs,fun f hf'=>?_⟩;rw[hfi]at hf';cases hf';exact⟨h2,h3,h4,fun q hq=>by rw[e]at hq;cases hq;exact h5⟩
   obtain⟨parts,hpl,hparts⟩:=c9a fs.size key;have hcells:=c63 (P:=P) (bare W b7b) fs.toList 0 (P.cellsOf t) cs parts hcg hcl (by simpa using hpl) (fun i f p hfi hpi=>(hparts i p hpi f (by simpa using hfi)).1);refine⟨parts.flatten,by simpa using hcells,?_,b5g fun p hp=>?_,?_⟩
   ·unfold Ty;rw[hu];refine⟨parts,rfl,hpl,fun i f hfi=>?_⟩;have hi:i<parts.length:=by rw[hpl];exact(Array.getElem?_eq_some_iff.1 hfi).1
    exact⟨parts[i],List.getElem?_eq_getElem hi,(hparts i _ (List.getElem?_eq_getElem hi) f hfi).2.1⟩
   ·obtain⟨i,hi⟩:=List.mem_iff_getElem?.1 hp;have hlt:i<fs.size:=by rw[<-hpl];exact(List.getElem?_eq_some_iff.1 hi).1
    exact(hparts i p hi fs[i] (Array.getElem?_eq_getElem hlt)).2.2.1
   ·rw[c6t];simp only[uptoBulk]
    have hz:bLL parts<=uptoBulkAll (xs.map (·.1)):=e1i parts _ (by rw[List.length_map,hpl,hxl]) fun i p d hi hd=>by
     have hlt:i<fs.size:=by rw[<-hpl];exact(List.getElem?_eq_some_iff.1 hi).1
     rw[List.getElem?_map,Option.map_eq_some_iff]at hd;obtain⟨q,hq,rfl⟩:=hd;exact(hparts i p hi fs[i] (Array.getElem?_eq_getElem hlt)).2.2.2 q hq
    omega
  ·rename_i k e hu;simp only[Bool.and_eq_true,decide_eq_true_eq,List.contains_iff_mem]at hok;obtain⟨he,hke⟩:=hok;obtain⟨xs,m,hm,rfl,hcl,hxl,hf⟩:=DataW.trod_array hu h;obtain rfl:m=n:=by omega
   have key:∀i,i<k->∃avs:List AV,F3 (bare W b7b) avs ((cs.drop (i*P.cellsOf e)).take (P.cellsOf e))/\Ty P m e avs/\plainL avs=true/\∀q,xs[i]? =some q->bL avs<=uptoBulk q.1:=by
    intro i hi;have e1:xs[i]? =some xs[i]:=List.getElem?_eq_getElem (by omega);obtain⟨avs,h2,h3,h4,h5⟩:=ih e _ _ he ((hf i hi).trans e1) (a0w.at_ hu hw (by rw[List.getElem?_map,e1];rfl));exact⟨avs,h2,h3,h4,fun q hq=>by rw[e1]at hq;cases hq;exact h5⟩
   obtain⟨parts,hpl,hparts⟩:=c9a k key
   have hall:∀p∈parts,Ty P m e p/\plainL p=true:=by
    intro p hp;obtain⟨i,hi⟩:=List.mem_iff_getElem?.1 hp;exact⟨(hparts i p hi).2.1,(hparts i p hi).2.2.1⟩
   refine⟨parts.flatten,d3w _ (P.cellsOf e) parts cs (by rw[hcl,hpl,hke]) (fun i p hi=>(hparts i p hi).1),?_,b5g fun p hp=>(hall p hp).2,?_⟩
   ·unfold Ty;rw[hu];exact⟨parts,rfl,hpl,fun p hp=>(hall p hp).1⟩
   ·rw[c6t];simp only[uptoBulk]
    have hz:bLL parts<=uptoBulkAll (xs.map (·.1)):=e1i parts _ (by rw[List.length_map,hpl,hxl]) fun i p d hi hd=>by
     rw[List.getElem?_map,Option.map_eq_some_iff]at hd;obtain⟨q,hq,rfl⟩:=hd;exact(hparts i p hi).2.2.2 q hq
    omega
  ·cases hok
theorem c2b{ts:List TypeId}(ok:d9h P ts=true){t:TypeId}(ht:t∈ts){v:Value}{d:DataW H}{p:List MemPlace}(hval:Value.okWide P W .any b0 t v)(h:DataW.Trod enc P W base spare held t v d p)(hw:a0w P t d):
  ∃n av,Rel (bare W b7b) av v/\TyV P n t av/\plain av=true/\bA av<=uptoBulk d+1:=by
 obtain⟨m,hm⟩:=h;obtain⟨avs,hc,hty,hpl,hbk⟩:=d6x ok m t _ _ ht hm hw;cases m with
 |zero=>simp[DataW.trod]at hm
 |succ m=>
  have hok:=List.all_eq_true.1 ok t ht;unfold okT at hok;unfold TyV;unfold Value.okWide at hval;split at hok
  ·rename_i k hu;rw[hu]at hval;simp only[Cell.okWide,hu,Cell.ok]at hval;have h2:=hty;unfold Ty at h2;rw[hu]at h2;obtain⟨x,rfl,_⟩:=h2;refine⟨m+1,_,c3r hc (fun cs he=>by subst he;simp at hval),by rw[hu];exact hty,rfl,by simp only[bL]at hbk;omega⟩
  ·rename_i hu;rw[hu]at hval;simp only[Cell.okWide,hu,Cell.ok]at hval;have h2:=hty;unfold Ty at h2;rw[hu]at h2;obtain⟨x,rfl⟩:=h2;refine⟨m+1,_,c3r hc (fun cs he=>by subst he;simp at hval),by rw[hu];exact hty,rfl,by simp only[bL]at hbk;omega⟩
  ·rename_i hu;rw[hu]at hval;simp only[Cell.okWide,hu,Cell.ok]at hval;have h2:=hty;unfold Ty at h2;rw[hu]at h2;obtain⟨x,rfl,_⟩:=h2;refine⟨m+1,_,c3r hc (fun cs he=>by subst he;simp at hval),by rw[hu];exact hty,rfl,by simp only[bL]at hbk;omega⟩
  ·rename_i e hu;rw[hu]at hval;simp only[Cell.okWide,hu,Cell.ok]at hval;have h2:=hty;unfold Ty at h2;rw[hu]at h2;obtain⟨x,rfl,_⟩:=h2;refine⟨m+1,_,c3r hc (fun cs he=>by subst he;simp at hval),by rw[hu];exact hty,by simpa[plainL]using hpl,by simp only[bL]at hbk;omega⟩
  ·rename_i fs hu;rw[hu]at hval;obtain⟨cs,rfl,_⟩:=hval;exact⟨m+1,.agg avs,d79 hc,by rw[hu];exact⟨avs,rfl,hty⟩,hpl,by simp only[bA];have:uptoBulk (d,p).1=uptoBulk d:=rfl;omega⟩
  ·rename_i k e hu;rw[hu]at hval;obtain⟨cs,rfl,_⟩:=hval;exact⟨m+1,.agg avs,d79 hc,by rw[hu];exact⟨avs,rfl,hty⟩,hpl,by simp only[bA];have:uptoBulk (d,p).1=uptoBulk d:=rfl;omega⟩
  ·cases hok
end
end
end Go.Proofs.YtidmmngcijapcaaGreat.Lift
