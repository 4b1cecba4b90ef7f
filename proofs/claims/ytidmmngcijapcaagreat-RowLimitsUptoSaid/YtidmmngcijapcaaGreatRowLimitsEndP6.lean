/- Part 7 of the texts that prove RowLimitsEnd. -/
import Derived.Test.YtidmmngcijapcaaGreatRowLimitsEndP5
import Derived.Test.YtidmmngcijapcaaGreatRowLimitsEndP0
namespace Go.Proofs.YtidmmngcijapcaaGreat.Lift
open Go.RowKit
set_option linter.unusedVariables false
set_option linter.unusedSimpArgs false
set_option linter.unnecessarySimpa false
set_option linter.unusedSectionVars false
set_option maxRecDepth 100000
def c43{α:Type}(f:α->Bool):List α->Int->Int
 |[],_=> -1
 |x::l,i=>if f x=true then i else c43 f l (i+1)
theorem d82{α:Type}{J:Int->List α->Int->Prop}{C:α->Bool->Prop}(f:α->Bool)
  (b7k:∀i s r,((decide (i<(s.length:Int)))=true->∃y3,s[i.toNat]? =some y3/\0<=i/\(∃y4,C y3 y4/\((y4=true->r=i)/\(y4=false->J (wI (i+1)) s r))))/\((decide (i<(s.length:Int)))=false->r=(-1))->J i s r)
  (s:List α) (hs:s.length<=140737488351232) (hC:∀x∈s,C x (f x)):J 0 s (c43 f s 0):=by
 have key:∀(d i:Nat),s.length - i<=d->i<=s.length->J i s (c43 f (s.drop i) i):=by
  intro d
  induction d with
  |zero=>
   intro i hd hi;exact b7k _ _ _ ⟨fun h=>by simp at h;omega,fun _=>by rw[List.drop_eq_nil_of_le (by omega)];rfl⟩
  |succ d ih=>
   intro i hd hi;rcases Nat.lt_or_ge i s.length with hlt|hge
   ·have e1:wI ((i:Int)+1)=((i+1:Nat):Int):=by rw[wI,C9 (by omega)];omega
    have dl:s.drop i=s[i]::s.drop (i+1):=List.drop_eq_getElem_cons hlt;refine b7k _ _ _ ⟨fun _=>⟨s[i],by simp,by omega,_,hC _ (List.getElem_mem _),fun h=>?_,fun h=>?_⟩,fun h=>by simp at h;omega⟩
    ·rw[dl,c43,if_pos h]
    ·rw[dl,c43,if_neg (nt h),e1];exact ih (i+1) (by omega) (by omega)
   ·exact b7k _ _ _ ⟨fun h=>by simp at h;omega,fun _=>by rw[List.drop_eq_nil_of_le hge];rfl⟩
 simpa using key s.length 0 (by omega) (by omega)
theorem d9s{α:Type}{J:Int->Prop}{C:α->Bool->Prop}{E:Prop}{r:Bool}(f:α->Bool)(s:List α)
  (b7k:∀i:Int,((decide (i<(s.length:Int)))=true->∃y3,s[i.toNat]? =some y3/\0<=i/\(∃y4,C y3 y4/\((y4=true->r=true)/\(y4=false->J (wI (i+1))))))/\((decide (i<(s.length:Int)))=false->E)->J i)
  (hs:s.length<=140737488351232) (hC:∀x∈s,C x (f x)) (h1:s.any f=true->r=true) (h2:s.any f=false->E):J 0:=by
 have key:∀(d i:Nat),s.length - i<=d->i<=s.length->((s.drop i).any f=true->r=true)->((s.drop i).any f=false->E)->J i:=by
  intro d
  induction d with
  |zero=>
   intro i hd hi _ k2;exact b7k _ ⟨fun h=>by simp at h;omega,fun _=>k2 (by rw[List.drop_eq_nil_of_le (by omega)];rfl)⟩
  |succ d ih=>
   intro i hd hi k1 k2;rcases Nat.lt_or_ge i s.length with hlt|hge
   ·have e1:wI ((i:Int)+1)=((i+1:Nat):Int):=by rw[wI,C9 (by omega)];omega
    have dl:s.drop i=s[i]::s.drop (i+1):=List.drop_eq_getElem_cons hlt;rw[dl,List.any_cons]at k1 k2;refine b7k _ ⟨fun _=>⟨s[i],by simp,by omega,_,hC _ (List.getElem_mem _),fun h=>k1 (by rw[h];rfl),fun h=>?_⟩,fun h=>by simp at h;omega⟩;rw[e1];rw[h,Bool.false_or]at k1 k2;exact ih (i+1) (by omega) (by omega) k1 k2
   ·exact b7k _ ⟨fun h=>by simp at h;omega,fun _=>k2 (by rw[List.drop_eq_nil_of_le hge];rfl)⟩
 exact key s.length 0 (by omega) (by omega) (by simpa using h1) (by simpa using h2)
def X2(p:A6)(name:ByteArray):Int × Bool:=(max (c43 (fun g:B9=>decide (g.Name=name)) p.Progs 0) 0,decide (0<=c43 (fun g:B9=>decide (g.Name=name)) p.Progs 0))
theorem d1l(p:A6)(hp:p.Progs.length<=140737488351232)(name:ByteArray):c3f p name (X2 p name):=by
 refine d2p _ _ _ ⟨_,a8h _ _ _ (d82 (J:=fun i s r=>N5 i s _ r) (fun g:B9=>decide (g.Name=name)) (fun i s r hw=>a5u _ _ _ _ hw) _ hp fun x hx=>?_),rfl⟩;exact d0q x name _ (c7n _ _ _ rfl)
theorem e1m(p:A6)(hp:p.Progs.length<=140737488351232)(name:ByteArray):c0i p name (X2 p name):=by
 have key:∀(d i:Nat),p.Progs.length - i<=d->i<=p.Progs.length->b10 i name p (max (c43 (fun g:B9=>decide (g.Name=name)) (p.Progs.drop i) i) 0,decide (0<=c43 (fun g:B9=>decide (g.Name=name)) (p.Progs.drop i) i)):=by
  intro d
  induction d with
  |zero=>
   intro i hd hi;exact a7z _ _ _ _ ⟨fun h=>by simp at h;omega,fun _=>by rw[List.drop_eq_nil_of_le (by omega)];rfl⟩
  |succ d ih=>
   intro i hd hi;rcases Nat.lt_or_ge i p.Progs.length with hlt|hge
   ·have e1:wI ((i:Int)+1)=((i+1:Nat):Int):=by rw[wI,C9 (by omega)];omega
    have dl:p.Progs.drop i=p.Progs[i]::p.Progs.drop (i+1):=List.drop_eq_getElem_cons hlt;refine a7z _ _ _ _ ⟨fun _=>⟨p.Progs[i],by simp,by omega,fun h=>?_,fun h=>?_⟩,fun h=>by simp at h;omega⟩
    ·rw[dl,c43,if_pos h];have h1:max (i:Int) 0=i:=by omega
     have h2:decide (0<=(i:Int))=true:=by simp
     rw[h1,h2]
    ·rw[dl,c43,if_neg (nt h),e1];exact ih (i+1) (by omega) (by omega)
   ·exact a7z _ _ _ _ ⟨fun h=>by simp at h;omega,fun _=>by rw[List.drop_eq_nil_of_le hge];rfl⟩
 have:=key p.Progs.length 0 (by omega) (by omega);exact d1d _ _ _ (by simpa[X2]using this)
def X5:Nat->A0->Bool
 |0,_=>false
 |n+1,v=> !v.Raws.isEmpty||(v.Slots.any (fun x=>X5 n x.2)||(v.List_.any (X5 n)||v.Pairs.any (fun x=>X5 n x.2)))
theorem e2r(v:A0):(decide (0<(v.Raws.length:Int)))= !v.Raws.isEmpty:=by
 cases v.Raws with
 |nil=>rfl
 |cons x l=>simp
theorem c8u:∀(n:Nat) (v:A0),OkD v->SizeOf.sizeOf v<=n->a7x v (X5 n v)
 |0,v,_,h=>by have:=szV v;omega
 |n+1,v,hv,hn=>by
  obtain⟨_,_,⟨la,pa,sa,ra⟩,hl,hp,hs⟩:=hv.inv;refine d2x _ _ ⟨fun h=>?_,fun h=>?_⟩
  ·rw[e2r]at h;rw[X5,h,Bool.true_or]
  rw[e2r]at h;rw[X5,h,Bool.false_or];refine d9s (C:=fun(x:Int × A0) b=>a7x x.2 b) (fun x=>X5 n x.2) v.Slots (fun i hw=>c6d i v _ hw) sa (fun x hx=>c8u n x.2 (hs x hx) (by have:=szS hx;omega)) (fun h1=>by rw[h1,Bool.true_or]) (fun h1=>?_);rw[h1,Bool.false_or];refine d9s (C:=fun(x:A0) b=>a7x x b) (X5 n) v.List_ (fun i hw=>c3m i v _ hw) la (fun x hx=>c8u n x (hl x hx) (by have:=szL hx;omega)) (fun h2=>by rw[h2,Bool.true_or]) (fun h2=>?_);rw[h2,Bool.false_or];exact d9s (C:=fun(x:A0 × A0) b=>a7x x.2 b) (fun x=>X5 n x.2) v.Pairs (fun i hw=>c4d i v _ hw) pa (fun x hx=>c8u n x.2 (hp x hx).2 (by have:=szP hx;omega)) (fun h3=>h3) (fun h3=>h3)
theorem f79(a:Int):∃k:Int,wI a=a+k*18446744073709551616:=by
 simp only[wI,IntKind.wrap,IntKind.bits,IntKind.signed,Bool.true_and,decide_eq_true_eq];split
 ·exact⟨-(a / 18446744073709551616) - 1,by omega⟩
 ·exact⟨-(a / 18446744073709551616),by omega⟩
theorem h0f{a b k:Int}(h:a=b+k*18446744073709551616):wI a=wI b:=by
 have:a % 2 ^ (IntKind.bits .i64)=b % 2 ^ (IntKind.bits .i64):=by
  show a % 18446744073709551616=b % 18446744073709551616;omega
 simp only[wI,IntKind.wrap,this]
theorem f63(a b:Int):wI (wI a+wI b)=wI (a+b):=by
 obtain⟨k,hk⟩:=f79 a;obtain⟨m,hm⟩:=f79 b;exact h0f (k:=k+m) (by rw[hk,hm,Int.add_mul];omega)
theorem d46{α:Type}{J:Int->Int->Prop}{C:α->Int->Prop}{E:Int->Prop}(f:α->Int)(s:List α)
  (b7k:∀i a:Int,((decide (i<(s.length:Int)))=true->∃y3,s[i.toNat]? =some y3/\0<=i/\(∃y4,C y3 y4/\J (wI (i+1)) (wI (a+y4))))/\((decide (i<(s.length:Int)))=false->E a)->J i a)
  (hs:s.length<=140737488351232) (hC:∀x∈s,C x (wI (f x))) (a:Int) (h:E (wI (a+(s.map f).sum))):J 0 (wI a):=by
 have key:∀(d i:Nat) (a:Int),s.length - i<=d->i<=s.length->E (wI (a+((s.drop i).map f).sum))->J i (wI a):=by
  intro d
  induction d with
  |zero=>
   intro i a hd hi hE;refine b7k _ _ ⟨fun h=>by simp at h;omega,fun _=>?_⟩;rw[List.drop_eq_nil_of_le (by omega)]at hE;simpa using hE
  |succ d ih=>
   intro i a hd hi hE;rcases Nat.lt_or_ge i s.length with hlt|hge
   ·have e1:wI ((i:Int)+1)=((i+1:Nat):Int):=by rw[wI,C9 (by omega)];omega
    have dl:s.drop i=s[i]::s.drop (i+1):=List.drop_eq_getElem_cons hlt;rw[dl,List.map_cons,List.sum_cons]at hE;refine b7k _ _ ⟨fun _=>⟨s[i],by simp,by omega,_,hC _ (List.getElem_mem _),?_⟩,fun h=>by simp at h;omega⟩;rw[e1,f63];exact ih (i+1) (a+f s[i]) (by omega) (by omega) (by rw[Int.add_assoc];exact hE)
   ·refine b7k _ _ ⟨fun h=>by simp at h;omega,fun _=>?_⟩;rw[List.drop_eq_nil_of_le hge]at hE;simpa using hE
 exact key s.length 0 a (by omega) (by omega) (by simpa using h)
def a2h:Nat->A0->Int
 |0,_=>0
 |n+1,v=>1+(v.Raws.length:Int)+(v.List_.map (a2h n)).sum+(v.Pairs.map fun x=>a2h n x.1+a2h n x.2).sum+(v.Slots.map fun x=>a2h n x.2).sum
theorem b5u:∀(n:Nat) (v:A0),OkD v->SizeOf.sizeOf v<=n->X1 v (wI (a2h n v))
 |0,v,_,h=>by have:=szV v;omega
 |n+1,v,hv,hn=>by
  obtain⟨_,_,⟨la,pa,sa,ra⟩,hl,hp,hs⟩:=hv.inv;refine c8g _ _ ?_;refine d46 (J:=fun i a=>a9s i a v (wI (a2h (n+1) v))) (C:=fun(x:A0) b=>X1 x b) (a2h n) v.List_ (fun i a hw=>c1i i a v _ hw) la (fun x hx=>b5u n x (hl x hx) (by have:=szL hx;omega)) _ ?_;refine d46 (J:=fun i a=>a7w i a v (wI (a2h (n+1) v))) (C:=fun(x:A0 × A0) b=>∃u w,X1 x.1 u/\X1 x.2 w/\b=wI (u+w)) (fun x:A0 × A0=>a2h n x.1+a2h n x.2) v.Pairs (fun i a hw=>c00 i a v _ ⟨fun h=>?_,hw.2⟩) pa (fun x hx=>?_) _ ?_
  ·obtain⟨y,h1,h2,b,⟨u,w,c1,c2,rfl⟩,h3⟩:=hw.1 h;exact⟨y,h1,h2,u,c1,y,h1,h2,w,c2,h3⟩
  ·have hz:=szP hx;exact⟨_,_,b5u n _ (hp x hx).1 (by omega),b5u n _ (hp x hx).2 (by omega),(f63 _ _).symm⟩
  refine d46 (J:=fun i a=>a7y i a v (wI (a2h (n+1) v))) (C:=fun(x:Int × A0) b=>X1 x.2 b) (fun x:Int × A0=>a2h n x.2) v.Slots (fun i a hw=>c0s i a v _ hw) sa (fun x hx=>b5u n _ (hs x hx) (by have:=szS hx;omega)) _ ?_;rfl
def f4j{α:Type}(f:α->Int):Int->List α->Int
 |a,[]=>a
 |a,x::l=>f4j f (max a (f x)) l
theorem c6e{α:Type}{J:Int->Int->Prop}{C:α->Int->Prop}{E:Int->Prop}(f:α->Int)(s:List α)
  (b7k:∀i a:Int,((decide (i<(s.length:Int)))=true->∃y3,s[i.toNat]? =some y3/\0<=i/\(∃y4,C y3 y4/\J (wI (i+1)) (max a y4)))/\((decide (i<(s.length:Int)))=false->E a)->J i a)
  (hs:s.length<=140737488351232) (hC:∀x∈s,C x (f x)) (a:Int) (h:E (f4j f a s)):J 0 a:=by
 have key:∀(d i:Nat) (a:Int),s.length - i<=d->i<=s.length->E (f4j f a (s.drop i))->J i a:=by
  intro d
  induction d with
  |zero=>
   intro i a hd hi hE;refine b7k _ _ ⟨fun h=>by simp at h;omega,fun _=>?_⟩;rw[List.drop_eq_nil_of_le (by omega)]at hE;exact hE
  |succ d ih=>
   intro i a hd hi hE;rcases Nat.lt_or_ge i s.length with hlt|hge
   ·have e1:wI ((i:Int)+1)=((i+1:Nat):Int):=by rw[wI,C9 (by omega)];omega
    have dl:s.drop i=s[i]::s.drop (i+1):=List.drop_eq_getElem_cons hlt;rw[dl]at hE;refine b7k _ _ ⟨fun _=>⟨s[i],by simp,by omega,_,hC _ (List.getElem_mem _),?_⟩,fun h=>by simp at h;omega⟩;rw[e1];exact ih (i+1) _ (by omega) (by omega) hE
   ·refine b7k _ _ ⟨fun h=>by simp at h;omega,fun _=>?_⟩;rw[List.drop_eq_nil_of_le hge]at hE;exact hE
 exact key s.length 0 a (by omega) (by omega) (by simpa using h)
def e7l(f:A0->Int)(a:Int)(v:A0):Int:=f4j (fun x:Int × A0=>f x.2) (f4j (fun x:A0 × A0=>max (f x.1) (f x.2)) (f4j f a v.List_) v.Pairs) v.Slots
def b9t:Nat->A0->Int
 |0,_=>0
 |n+1,v=>if(v.Kind==10)=true then wI (e7l (b9t n) 0 v+1) else e7l (b9t n) 0 v
theorem b87:∀(n:Nat) (v:A0),OkD v->SizeOf.sizeOf v<=n->Y3 v (b9t n v)
 |0,v,_,h=>by have:=szV v;omega
 |n+1,v,hv,hn=>by
  obtain⟨_,_,⟨la,pa,sa,ra⟩,hl,hp,hs⟩:=hv.inv;refine c74 _ _ ?_;refine c6e (J:=fun i a=>a9g i a v (b9t (n+1) v)) (C:=fun(x:A0) b=>Y3 x b) (b9t n) v.List_ (fun i a hw=>c1o i a v _ hw) la (fun x hx=>b87 n x (hl x hx) (by have:=szL hx;omega)) _ ?_;refine c6e (J:=fun i a=>a72 i a v (b9t (n+1) v)) (C:=fun(x:A0 × A0) b=>∃u w,Y3 x.1 u/\Y3 x.2 w/\b=max u w) (fun x:A0 × A0=>max (b9t n x.1) (b9t n x.2)) v.Pairs (fun i a hw=>c0y i a v _ ⟨fun h=>?_,hw.2⟩) pa (fun x hx=>?_) _ ?_
  ·obtain⟨y,h1,h2,b,⟨u,w,c1,c2,rfl⟩,h3⟩:=hw.1 h;exact⟨y,h1,h2,u,c1,y,h1,h2,w,c2,by rw[show max (max a u) w=max a (max u w) by omega];exact h3⟩
  ·have hz:=szP hx;exact⟨_,_,b87 n _ (hp x hx).1 (by omega),b87 n _ (hp x hx).2 (by omega),rfl⟩
  refine c6e (J:=fun i a=>a7u i a v (b9t (n+1) v)) (C:=fun(x:Int × A0) b=>Y3 x.2 b) (fun x:Int × A0=>b9t n x.2) v.Slots (E:=fun a=>((v.Kind==10)=true->b9t (n+1) v=wI (a+1))/\((v.Kind==10)=false->b9t (n+1) v=a)) (fun i a hw=>c0t i a v _ hw) sa (fun x hx=>b87 n _ (hs x hx) (by have:=szS hx;omega)) _ ?_;exact⟨fun h=>by rw[b9t,if_pos h];rfl,fun h=>by rw[b9t,if_neg (nt h)];rfl⟩
def c8c:Nat->A0->Int
 |0,_=>0
 |n+1,v=>e7l (c8c n) (v.Text.size:Int) v
theorem b57:∀(n:Nat) (v:A0),OkD v->SizeOf.sizeOf v<=n->S3 v (c8c n v)
 |0,v,_,h=>by have:=szV v;omega
 |n+1,v,hv,hn=>by
  obtain⟨_,_,⟨la,pa,sa,ra⟩,hl,hp,hs⟩:=hv.inv;refine c4b _ _ ?_;refine c6e (J:=fun i a=>a5c i a v (c8c (n+1) v)) (C:=fun(x:A0) b=>S3 x b) (c8c n) v.List_ (fun i a hw=>b9k i a v _ hw) la (fun x hx=>b57 n x (hl x hx) (by have:=szL hx;omega)) _ ?_;refine c6e (J:=fun i a=>a3p i a v (c8c (n+1) v)) (C:=fun(x:A0 × A0) b=>∃u w,S3 x.1 u/\S3 x.2 w/\b=max u w) (fun x:A0 × A0=>max (c8c n x.1) (c8c n x.2)) v.Pairs (fun i a hw=>b8f i a v _ ⟨fun h=>?_,hw.2⟩) pa (fun x hx=>?_) _ ?_
  ·obtain⟨y,h1,h2,b,⟨u,w,c1,c2,rfl⟩,h3⟩:=hw.1 h;exact⟨y,h1,h2,u,c1,y,h1,h2,w,c2,by rw[show max (max a u) w=max a (max u w) by omega];exact h3⟩
  ·have hz:=szP hx;exact⟨_,_,b57 n _ (hp x hx).1 (by omega),b57 n _ (hp x hx).2 (by omega),rfl⟩
  exact c6e (J:=fun i a=>a32 i a v (c8c (n+1) v)) (C:=fun(x:Int × A0) b=>S3 x.2 b) (fun x:Int × A0=>c8c n x.2) v.Slots (fun i a hw=>b8b i a v _ hw) sa (fun x hx=>b57 n _ (hs x hx) (by have:=szS hx;omega)) _ rfl
theorem d42(n:Int): -9223372036854775808<=wI n/\wI n<=9223372036854775807:=by simp only[wI,IntKind.wrap,IntKind.signed,IntKind.bits];simp;omega
theorem d81{n:Int}(h: -9223372036854775808<=n/\n<=9223372036854775807):f2y n<18446744073709551616:=by unfold f2y;split<;>omega
theorem d6y:∀k u:Nat,u<128 ^ k->1<=k->(b45 u).length<=k
 |0,u,h,h1=>by omega
 |k+1,u,h,h1=>by
  rw[b45];split
  ·simp
  ·rename_i hu;rcases Nat.eq_zero_or_pos k with h0|h0
   ·subst h0;simp at h;omega
   ·have:=d6y k (u / 128) (by rw[Nat.pow_succ]at h;omega) h0;simp;omega
theorem b0e(u:Nat)(h:u<18446744073709551616):(b34 u).size<=10:=by rw[b34,b7q];exact d6y 10 u (by omega) (by omega)
def c7r(v:A0):ByteArray:=
 if a64 v.Kind v=true then
  if v.Kind=1 then ofI [v.Bits % 256]
  else if v.Kind=2\/v.Kind=3 then b34 (f2y (wI v.Bits))
  else if v.Kind=6 then e1c (a0g v).Bits.toNat
  else if v.Kind=7\/v.Kind=8 then b34 v.Text.size++v.Text
  else b34 v.Bits.toNat
 else⟨#[]⟩
theorem d30(v:A0)(hv:OkV v):0<=(a0g v).Bits/\(a0g v).Bits<18446744073709551616:=by
 unfold a0g;split
 ·exact⟨(by decide:(0:Int)<=9221120237041090560),(by decide:(9221120237041090560:Int)<18446744073709551616)⟩
 ·exact⟨hv.b0,hv.b1⟩
theorem g3k{n:Int}:IntKind.u8.wrap n=n % 256:=by simp[IntKind.wrap,IntKind.signed,IntKind.bits]
theorem g94(v:A0)(hv:OkV v)(b:Bool):c61 b v (if b=true then b34 v.Text.size++v.Text else b34 v.Bits.toNat):=by
 have h1:=hv.t;have h2:=hv.b0;have h3:=hv.b1;have e1:wU (v.Text.size:Int)=(v.Text.size:Int):=b4a (by omega);have hp:=b0e v.Text.size (by omega);refine c6r _ _ _ ⟨fun h=>⟨_,by rw[e1];exact f08 _ (by omega),by omega,by rw[if_pos h]⟩,fun h=>⟨b34 v.Bits.toNat,?_,by rw[h];rfl⟩⟩;have:=f08 v.Bits.toNat (by omega);rw[show((v.Bits.toNat:Nat):Int)=v.Bits by omega]at this;exact this
theorem f6l(v:A0)(hv:OkV v)(b:Bool):b9w b v (if b=true then b34 v.Text.size++v.Text else b34 v.Bits.toNat):=by
 have h1:=hv.t;have h2:=hv.b0;have h3:=hv.b1;have e1:wU (v.Text.size:Int)=(v.Text.size:Int):=b4a (by omega);have hp:=b0e v.Text.size (by omega);refine d1z _ _ _ ⟨fun h=>⟨_,by rw[e1];exact d6t _ (by omega),by omega,by rw[if_pos h]⟩,fun h=>⟨b34 v.Bits.toNat,?_,by rw[h];rfl⟩⟩;have:=d6t v.Bits.toNat (by omega);rw[show((v.Bits.toNat:Nat):Int)=v.Bits by omega]at this;exact this
def g73(b:Bool)(v:A0):ByteArray:=if b=true then b34 (f2y (wI v.Bits)) else if v.Kind=6 then e1c (a0g v).Bits.toNat else if v.Kind=7\/v.Kind=8 then b34 v.Text.size++v.Text else b34 v.Bits.toNat
theorem f7c(v:A0)(hv:OkV v)(b:Bool):c0n b v (g73 b v):=by
 have hn:=d30 v hv;have hr:=d42 v.Bits;refine d18 _ _ _ ⟨fun h=>⟨_,g44 _ hr,_,d6t _ (d81 hr),by rw[g73,if_pos h]⟩,fun h=>⟨fun h2=>?_,fun h2=>⟨fun h3=>?_,fun h3=>?_⟩⟩⟩
 all_goals simp only[beq_iff_eq,beq_eq_false_iff_ne]at*
 all_goals rw[g73,if_neg (by rw[h];decide)]
 ·refine⟨_,d4g v ⟨hv.b0,hv.b1⟩,e1c (a0g v).Bits.toNat,?_,by rw[if_pos h2]⟩;have:=f19 (a0g v).Bits.toNat;rw[show(((a0g v).Bits.toNat:Nat):Int)=(a0g v).Bits by omega]at this;exact this
 ·have:=f6l v hv (v.Kind==7);rw[if_pos (by simpa using h3)]at this;rw[if_neg h2,if_pos (.inl h3)];exact this
 ·have:=f6l v hv (v.Kind==8);rw[if_neg h2]
  by_cases h8:v.Kind=8
  ·rw[if_pos (by simpa using h8)]at this;rw[if_pos (.inr h8)];exact this
  ·rw[if_neg (by simpa using h8)]at this;rw[if_neg (by omega)];exact this
theorem d6g(v:A0)(hv:OkV v):d37 v (c7r v):=by
 refine d78 _ _ ⟨_,e0j v.Kind v hv,fun h=>?_,fun h=>?_⟩
 ·have:a64 v.Kind v=false:=by rw[<-Bool.not_eq_true'];exact h
  rw[c7r,this];rfl
 ·have:a64 v.Kind v=true:=by rw[<-Bool.not_eq_false'];exact h
  rw[c7r,if_pos this];refine⟨fun h1=>⟨_,?_,by rw[if_pos (by simpa using h1)]⟩,fun h1=>⟨fun h2=>?_,fun h2=>?_⟩⟩
  ·rw[g3k];exact d3s (a18 (by omega))
  ·have:=f7c v hv (v.Kind==2);simp only[beq_iff_eq,beq_eq_false_iff_ne]at h1 h2;rw[if_neg h1,if_pos (.inl h2)];rw[g73,if_pos (by simpa using h2)]at this;exact this
  ·have:=f7c v hv (v.Kind==3);simp only[beq_iff_eq,beq_eq_false_iff_ne]at h1 h2;rw[if_neg h1];unfold g73 at this
   by_cases h3:v.Kind=3
   ·rw[if_pos (.inr h3)];rw[if_pos (by simpa using h3)]at this;exact this
   ·rw[if_neg (by omega)];rw[if_neg (by simpa using h3)]at this;exact this
def V0:A0:=⟨0,0,⟨#[]⟩,[],[],[],[]⟩
theorem f88(c:A3)(hc:OkC c)(h:(U4 c).2.2=0):OkC (U4 c).2.1/\0<=(U4 c).1/\(U4 c).1<18446744073709551616:=by
 have hs:=d40 c hc;have hl:=d4z (O5 c) 10 0 0 rfl (by omega) (by decide);unfold U4 at h ⊢;split at h
 ·split at h
  ·rename_i h1 h2;rw[if_pos h1,if_pos h2];exact⟨⟨hc.sz,hs.1,hs.2⟩,by omega,by simp only;omega⟩
  ·exact absurd h (show ¬((5:Int)=0) by decide)
 ·rename_i h1;simp only at h;omega
def d9z(k:Int)(c:A3):A0 × A3 × Int:=
 if(U4 c).2.2≠0 then(V0,c,(U4 c).2.2)
 else if a1m (U4 c).2.1.Data (U4 c).2.1.At (U4 c).2.1.End<(U4 c).1 then(V0,c,4)
 else if(a8f (U4 c).2.1 (U4 c).1).2.2≠0 then(V0,c,(a8f (U4 c).2.1 (U4 c).1).2.2)
 else if k=7/\b1c (a8f (U4 c).2.1 (U4 c).1).1=false then(V0,c,7)
 else(⟨k,0,(a8f (U4 c).2.1 (U4 c).1).1,[],[],[],[]⟩,(a8f (U4 c).2.1 (U4 c).1).2.1,0)
theorem d22(c:A3)(hc:OkC c)(n:Int):(a8f c n).1.size<=140737488351232:=by
 have:=hc.sz;unfold a8f;split
 ·exact(by decide:(0:Nat)<=140737488351232)
 split
 ·exact(by decide:(0:Nat)<=140737488351232)
 split
 ·exact(by decide:(0:Nat)<=140737488351232)
 ·simp only[ByteArray.size_extract];omega
theorem e5l(k:Int)(c:A3)(hc:OkC c):d4l k c (d9z k c):=by
 have hl0:=c6z (U4 c).2.1;refine d5c _ _ _ ⟨_,c96 c hc,fun h=>?_,fun h=>?_⟩
 ·have h0:(U4 c).2.2≠0:=by simpa using h
  rw[d9z,if_pos h0];rfl
 have h0:(U4 c).2.2=0:=by simpa using h
 obtain⟨hd,hb0,hb1⟩:=f88 c hc h0;have hn0:¬(U4 c).2.2≠0:=fun h=>h h0
 refine⟨_,d5g _ hd,fun h=>?_,fun h=>?_⟩
 all_goals
  have hlw:a1m (U4 c).2.1.Data (U4 c).2.1.At (U4 c).2.1.End<=140737488351232:=by
   have:=hd.sz;have h1:=b0i (U4 c).2.1;have h2:=hd.rest;omega
  have ew:wU (a1m (U4 c).2.1.Data (U4 c).2.1.At (U4 c).2.1.End)=a1m (U4 c).2.1.Data (U4 c).2.1.At (U4 c).2.1.End:=b4a (by omega);rw[ew]at h
 ·simp only[decide_eq_true_eq]at h;rw[d9z,if_neg hn0,if_pos h];rfl
 simp only[decide_eq_false_iff_not]at h;have e2:wI (U4 c).1=(U4 c).1:=C9 (by omega);rw[e2];refine⟨_,f9f _ hd _,fun h2=>?_,fun h2=>?_⟩
 ·have h3:(a8f (U4 c).2.1 (U4 c).1).2.2≠0:=by simpa using h2
  rw[d9z,if_neg hn0,if_neg h,if_pos h3];rfl
 have h3:¬(a8f (U4 c).2.1 (U4 c).1).2.2≠0:=by simpa using h2
 rw[d9z,if_neg hn0,if_neg h,if_neg h3];refine⟨fun b=>b=decide (k=7/\b1c (a8f (U4 c).2.1 (U4 c).1).1=false),fun b hb=>⟨fun h4=>?_,fun h4=>?_⟩,fun h4=>⟨_,d5t _ (d22 _ hd _),?_⟩,fun h4=>?_⟩
 ·rw[h4]at hb;rw[if_pos (of_decide_eq_true hb.symm)];rfl
 ·rw[h4]at hb;rw[if_neg (of_decide_eq_false hb.symm)]
 ·have:k=7:=by simpa using h4
  cases b1c (a8f (U4 c).2.1 (U4 c).1).1<;>simp[this]
 ·have:¬k=7:=by simpa using h4
  simp[this]
def e4q(c:A3):A0 × A3 × Int:=
 if(c7b c).2.2≠0 then(V0,c,(c7b c).2.2)
 else if(a0g ⟨6,(c7b c).1,⟨#[]⟩,[],[],[],[]⟩).Bits≠(c7b c).1 then(V0,c,5) else(⟨6,(c7b c).1,⟨#[]⟩,[],[],[],[]⟩,(c7b c).2.1,0)
theorem d7x(c:A3):0<=(c7b c).1/\(c7b c).1<18446744073709551616:=by
 unfold c7b;split
 ·have:=f1f (O5 c) 8;have e:256 ^ 8=18446744073709551616:=rfl;simp only;omega
 ·exact⟨(by decide:(0:Int)<=0),(by decide:(0:Int)<18446744073709551616)⟩
theorem f02(c:A3)(hc:OkC c):c5i c (e4q c):=by
 refine d1b _ _ ⟨_,f3z c hc,fun h=>?_,fun h=>⟨_,d4g _ (d7x c),fun h2=>?_,fun h2=>?_⟩⟩
 ·have h0:(c7b c).2.2≠0:=by simpa using h
  rw[e4q,if_pos h0];rfl
 all_goals have h0:¬(c7b c).2.2≠0:=by simpa using h
 ·rw[e4q,if_neg h0,if_pos (by simpa using h2)];rfl
 ·rw[e4q,if_neg h0,if_neg (by simpa using h2)]
def d89(p:A6)(enum num:Int):Bool:=
 if enum<0\/(p.Enums.length:Int)<=enum\/2147483647<num then false else(p.Enums[enum.toNat]?).any fun y=>y.Open||y.Items.any fun it=>decide (it.Num=num)
structure OkE(p:A6):Prop where
 n:p.Enums.length<=140737488351232
 i:∀y∈p.Enums,y.Items.length<=140737488351232/\∀it∈y.Items, -9223372036854775808<=it.Num/\it.Num<=9223372036854775807
def h69(num:Int):GFn:=⟨86,[],[.elt [.v (.int .u64 num)] 0],by simp[plainL,plain]⟩
theorem e8g(num:Int)(hn:0<=num/\num<=2147483647)(l:List b5j)(hl:l.length<=140737488351232)(hi:∀it∈l, -9223372036854775808<=it.Num/\it.Num<=9223372036854775807):∀n i:Nat,l.length - i<=n->i<=l.length->
  ∃r,O1 i l (h69 num) r/\(0<=r↔∃it∈l.drop i,it.Num=num):=by
 intro n
 induction n with
 |zero=>
  intro i h1 h2;refine⟨-1,I4 _ _ _ _ ⟨fun h=>by simp only[decide_eq_true_eq]at h;omega,fun _=>rfl⟩,?_⟩;have:l.drop i=[]:=List.drop_eq_nil_of_le (by omega);simp[this]
 |succ n ih=>
  intro i h1 h2;rcases Nat.lt_or_ge i l.length with hlt|hge
  ·have hy:l[i]? =some l[i]:=List.getElem?_eq_getElem hlt;have hmem:l[i]∈l:=List.getElem_mem hlt;have hr:=hi _ hmem;have hd:l.drop i=l[i]::l.drop (i+1):=List.drop_eq_getElem_cons hlt;have ht:((i:Int)).toNat=i:=by omega
   have hw:(wU (l[i]).Num==num)=decide ((l[i]).Num=num):=by
    rw[Bool.eq_iff_iff];simp only[beq_iff_eq,decide_eq_true_eq];rcases Int.lt_or_le (l[i]).Num 0 with h0|h0
    ·rw[f74 ⟨hr.1,h0⟩];omega
    ·have:wU (l[i]).Num=(l[i]).Num:=b4a (by omega);rw[this]
   have hc:=c4n l[i] num _ (c10 l[i] num _ rfl)
   by_cases he:(l[i]).Num=num
   ·refine⟨i,I4 _ _ _ _ ⟨fun _=>⟨l[i],by rw[ht];exact hy,by omega,_,hc,fun _=>rfl,fun h=>?_⟩,fun h=>by simp only[decide_eq_false_iff_not]at h;omega⟩,?_⟩
    ·rw[hw,decide_eq_true he]at h;cases h
    ·rw[hd];exact⟨fun _=>⟨_,List.mem_cons_self,he⟩,fun _=>by omega⟩
   ·obtain⟨r,hr1,hr2⟩:=ih (i+1) (by omega) (by omega);refine⟨r,I4 _ _ _ _ ⟨fun _=>⟨l[i],by rw[ht];exact hy,by omega,_,hc,fun h=>?_,fun _=>?_⟩,fun h=>by simp only[decide_eq_false_iff_not]at h;omega⟩,?_⟩
    ·rw[hw,decide_eq_false he]at h;cases h
    ·rw[wI,C9 (by omega)];exact hr1
    ·rw[hr2,hd];exact⟨fun⟨it,k1,k2⟩=>⟨it,List.mem_cons_of_mem _ k1,k2⟩,fun⟨it,k1,k2⟩=>(List.mem_cons.1 k1).elim (fun e=>(he (by rw[<-e];exact k2)).elim) fun k1=>⟨it,k1,k2⟩⟩
  ·refine⟨-1,I4 _ _ _ _ ⟨fun h=>by simp only[decide_eq_true_eq]at h;omega,fun _=>rfl⟩,?_⟩;have:l.drop i=[]:=List.drop_eq_nil_of_le (by omega);simp[this]
theorem c55(p:A6)(hp:OkE p)(enum num:Int)(hn:0<=num):b0f p enum num (d89 p enum num):=by
 refine c5w _ _ _ _ ⟨fun h=>?_,fun h=>?_⟩
 ·rw[d89,if_pos];simp only[Bool.or_eq_true,decide_eq_true_eq]at h;omega
 ·simp only[Bool.or_eq_false_iff,decide_eq_false_iff_not]at h;have hlt:enum.toNat<p.Enums.length:=by omega
  have hy:p.Enums[enum.toNat]? =some p.Enums[enum.toNat]:=List.getElem?_eq_getElem hlt;obtain⟨hl,hi⟩:=hp.i _ (List.getElem_mem hlt);rw[d89,if_neg (by omega),hy];generalize p.Enums[enum.toNat]=y at*;refine⟨y,rfl,by omega,fun h2=>by simp[h2],fun h2=>?_⟩;obtain⟨r,hr1,hr2⟩:=e8g num ⟨hn,by omega⟩ y.Items hl hi y.Items.length 0 (by omega) (by omega);refine⟨_,a6c _ _ _ ⟨r,a8b _ _ _ hr1,rfl⟩,?_⟩;simp only[h2,Option.any_some,Bool.false_or];rw[Bool.eq_iff_iff,decide_eq_true_eq,hr2,List.drop_zero,List.any_eq_true];simp
def d4b(k b:Int):A0:=⟨k,b,⟨#[]⟩,[],[],[],[]⟩
def d52(k u:Int):Int:=if k=2\/k=3 then wU (f22 u.toNat) else u
def b51(p:A6)(k tgt:Int)(c:A3):A0 × A3 × Int:=
 if k=1 then
  if(a3z c).2.2≠0 then(V0,c,(a3z c).2.2) else if 1<(a3z c).1 then(V0,c,5) else(d4b k (a3z c).1,(a3z c).2.1,0)
 else if k=6 then e4q c
 else if k=7\/k=8 then d9z k c
 else if k=2\/k=3\/k=4\/k=5\/k=9 then
  if(U4 c).2.2≠0 then(V0,c,(U4 c).2.2)
  else if a64 k (d4b k (d52 k (U4 c).1))=false then(V0,c,6)
  else if k=9/\d89 p tgt (U4 c).1=false then(V0,c,16)
  else(d4b k (d52 k (U4 c).1),(U4 c).2.1,0)
 else(V0,c,12)
theorem f5h(n:Int):0<=wU n/\wU n<18446744073709551616:=by simp only[wU,IntKind.wrap,IntKind.signed,IntKind.bits];simp;omega
theorem b55(c:A3):0<=(U4 c).1/\(U4 c).1<18446744073709551616:=by
 have hl:=d4z (O5 c) 10 0 0 rfl (by omega) (by decide);unfold U4;split
 ·split
  ·exact⟨Int.natCast_nonneg _,by simp only;omega⟩
  ·exact⟨(by decide:(0:Int)<=0),(by decide:(0:Int)<18446744073709551616)⟩
 ·exact⟨(by decide:(0:Int)<=0),(by decide:(0:Int)<18446744073709551616)⟩
theorem c23(c:A3):0<=(a3z c).1/\(a3z c).1<256:=by
 unfold a3z;split
 ·have:=b4h c.Data c.At.toNat;simp only;omega
 ·exact⟨(by decide:(0:Int)<=0),(by decide:(0:Int)<256)⟩
theorem OkV.bit{k b:Int}(h:0<=b/\b<18446744073709551616):OkV (d4b k b):=⟨by simp[d4b],by simp[d4b],by simp[d4b],by simp[d4b],(by decide:(0:Nat)<=140737488351232),h.1,h.2⟩
theorem d3g(k:Int)(c:A3):0<=d52 k (U4 c).1/\d52 k (U4 c).1<18446744073709551616:=by
 unfold d52;split
 ·exact f5h _
 ·exact b55 c
section
variable (p:A6) (hp:OkE p) (o:GOp) (c:A3) (hc:OkC c)
 include hp hc
theorem e0z(hk:o.Kind=2\/o.Kind=3\/o.Kind=4\/o.Kind=5\/o.Kind=9)(h0:(U4 c).2.2=0):a9i (U4 c) p o c (d52 o.Kind (U4 c).1) (b51 p o.Kind o.Target c):=by
 have hn:=d3g o.Kind c
 have hr:b51 p o.Kind o.Target c=if a64 o.Kind (d4b o.Kind (d52 o.Kind (U4 c).1))=false then(V0,c,6)
  else if o.Kind=9/\d89 p o.Target (U4 c).1=false then(V0,c,16)
  else(d4b o.Kind (d52 o.Kind (U4 c).1),(U4 c).2.1,0):=by
  unfold b51;rw[if_neg (by omega),if_neg (by omega),if_neg (by omega),if_pos hk,if_neg (by omega)]
 rw[hr];refine c2f _ _ _ _ _ _ ⟨_,e0j o.Kind (d4b o.Kind (d52 o.Kind (U4 c).1)) (OkV.bit hn),fun h=>?_,fun h=>?_⟩
 ·rw[if_pos (by simpa using h)];rfl
 ·rw[if_neg (by simpa using h)];refine⟨fun b=>b=decide (o.Kind=9/\d89 p o.Target (U4 c).1=false),fun b hb=>⟨fun h2=>?_,fun h2=>?_⟩,fun h2=>⟨_,c55 p hp o.Target (U4 c).1 (b55 c).1,?_⟩,fun h2=>?_⟩
  ·rw[h2]at hb;rw[if_pos (of_decide_eq_true hb.symm)];rfl
  ·rw[h2]at hb;rw[if_neg (of_decide_eq_false hb.symm)];rfl
  ·have:o.Kind=9:=by simpa using h2
   cases d89 p o.Target (U4 c).1<;>simp[this]
  ·have:¬o.Kind=9:=by simpa using h2
   simp[this]
theorem g47:c0p (U4 c).1 (f22 (U4 c).1.toNat)/\d06 (U4 c).1 (f22 (U4 c).1.toNat):=by
 have h:=b55 c;have e:(((U4 c).1.toNat:Nat):Int)=(U4 c).1:=by omega
 have h1:=g32 (U4 c).1.toNat (by omega);have h2:=f91 (U4 c).1.toNat (by omega);rw[e]at h1 h2;exact⟨h1,h2⟩
theorem d0x(b:Bool)(h1:¬o.Kind=1)(h6:¬o.Kind=6)(h78:¬(o.Kind=7\/o.Kind=8))(hb:b=true↔o.Kind=2\/o.Kind=3\/o.Kind=4\/o.Kind=5\/o.Kind=9):a1i b p o c (b51 p o.Kind o.Target c):=by
 refine c4s _ _ _ _ _ ⟨fun h=>⟨_,c96 c hc,fun h2=>?_,fun h2=>?_⟩,fun h=>?_⟩
 ·have h3:(U4 c).2.2≠0:=by simpa using h2
  unfold b51;rw[if_neg h1,if_neg h6,if_neg h78,if_pos (hb.1 h),if_pos h3];rfl
 ·have h0:(U4 c).2.2=0:=by simpa using h2
  refine⟨fun h3=>⟨_,(g47 p hp c hc).1,?_⟩,fun h3=>?_⟩
  ·have h23:o.Kind=2\/o.Kind=3:=by simpa using h3
   have:=e0z p hp o c hc (hb.1 h) h0
   rwa [d52,if_pos h23]at this
  ·have h23:¬(o.Kind=2\/o.Kind=3):=by simpa using h3
   have:=e0z p hp o c hc (hb.1 h) h0
   rwa [d52,if_neg h23]at this
 ·unfold b51;rw[if_neg h1,if_neg h6,if_neg h78,if_neg (fun hn=>by rw[hb.2 hn]at h;cases h)];rfl
theorem e9f(b:Bool)(h1:¬o.Kind=1)(h6:¬o.Kind=6)(hb:b=true↔o.Kind=7\/o.Kind=8):b1l b o p c (b51 p o.Kind o.Target c):=by
 refine c3h _ _ _ _ _ ⟨fun h=>⟨_,e5l o.Kind c hc,?_⟩,fun h=>?_⟩
 ·unfold b51;rw[if_neg h1,if_neg h6,if_pos (hb.1 h)]
 ·have h78:¬(o.Kind=7\/o.Kind=8):=fun hn=>by rw[hb.2 hn]at h;cases h
  refine⟨fun h2=>d0x p hp o c hc _ h1 h6 h78 ?_,fun h2=>⟨fun h3=>d0x p hp o c hc _ h1 h6 h78 ?_,fun h3=>⟨fun h4=>d0x p hp o c hc _ h1 h6 h78 ?_,fun h4=>⟨fun h5=>d0x p hp o c hc _ h1 h6 h78 ?_,fun h5=>d0x p hp o c hc _ h1 h6 h78 ?_⟩⟩⟩⟩
  all_goals simp only[beq_iff_eq,beq_eq_false_iff_ne]at*
  all_goals omega
theorem f2t:c6o p o c (b51 p o.Kind o.Target c):=by
 have hb:=c23 c;have e:wU (a3z c).1=(a3z c).1:=b4a (by omega);refine d1c _ _ _ _ ⟨fun h=>⟨_,e6z c hc,fun h2=>?_,fun h2=>⟨fun h3=>?_,fun h3=>?_⟩⟩,fun h=>⟨fun h2=>⟨_,f02 c hc,?_⟩,fun h2=>⟨fun h3=>e9f p hp o c hc _ (by simpa using h) (by simpa using h2) ?_,fun h3=>e9f p hp o c hc _ (by simpa using h) (by simpa using h2) ?_⟩⟩⟩
 all_goals simp only[beq_iff_eq,beq_eq_false_iff_ne]at h
 ·unfold b51;rw[if_pos h,if_pos (by simpa using h2)];rfl
 ·unfold b51;rw[if_pos h,if_neg (by simpa using h2),if_pos (by simpa using h3)];rfl
 ·unfold b51;rw[if_pos h,if_neg (by simpa using h2),if_neg (by simpa using h3),e];rfl
 ·unfold b51;rw[if_neg h,if_pos (by simpa using h2)]
 all_goals simp only[beq_iff_eq,beq_eq_false_iff_ne]at*
 all_goals omega
end
theorem c4m{l:List Int}(hl:c1d l){j:Nat}{x:Int}(hx:l[j]? =some x):((J1 (ofI l) j:Nat):Int)=x:=by
 have h:=hl x (List.mem_of_getElem? hx);unfold J1 F2 ofI;simp only[List.getD_eq_getElem?_getD,List.getElem?_map,hx,Option.map_some,Option.getD_some];have:(UInt8.ofNat x.toNat).toNat=x.toNat:=by simp;omega
 omega
theorem a8z(a b:ByteArray){j:Nat}(h:j<a.size):J1 (a++b) j=J1 a j:=by
 have h2:j<a.data.size:=h;unfold J1 F2;simp[ByteArray.data_append,List.getElem?_append_left (show j<a.data.toList.length by simpa using h2)]
theorem e6o(s:ByteArray)(u:Nat):∀i acc:Nat,i<=9->u*128 ^ i<18446744073709551616->i+(b45 u).length<=s.size->(∀j x,(b45 u)[j]? =some x->((J1 s (i+j):Nat):Int)=x)->X6 s i acc=(acc+u*128 ^ i,i+(b45 u).length,0):=by
 induction u using Nat.strongRecOn with
 |_ u ih=>
  intro i acc hi hb hl hx;have hp:=f4v u;obtain⟨p1,p2,p3⟩:=f0x hi;rw[X6.eq_def,if_neg (by omega),if_neg (by omega)]
  by_cases h:u<128
  ·have hu:b45 u=[(u:Int)]:=by rw[b45,if_pos h]
   have h0:J1 s i=u:=by
    have:=hx 0 u (by rw[hu];rfl);rw[Nat.add_zero]at this;omega
   rw[h0,if_neg,if_pos h,hu]
   ·rfl
   ·rintro⟨rfl,h1⟩;have:(128:Nat) ^ 9=9223372036854775808:=by decide
    rw[this]at hb;omega
  ·have hu:b45 u=((u % 128+128:Nat):Int)::b45 (u / 128):=by rw[b45,if_neg h]
   have h0:J1 s i=u % 128+128:=by
    have:=hx 0 _ (by rw[hu];rfl);rw[Nat.add_zero]at this;omega
   have h9:i<=8:=by
    rcases Nat.lt_or_ge i 9 with h9|h9
    ·omega
    ·obtain rfl:i=9:=by omega
     have:(128:Nat) ^ 9=9223372036854775808:=by decide
     rw[this]at hb;omega
   rw[h0,if_neg (by omega),if_neg (by omega)];have e1:(u % 128+128) % 128=u % 128:=by omega
   have e2:u*128 ^ i=u % 128*128 ^ i+u / 128*128 ^ (i+1):=by
    rw[Nat.pow_succ,Nat.mul_comm (128 ^ i) 128,<-Nat.mul_assoc,<-Nat.add_mul]
    congr 1
    omega
   rw[hu]at hl
   rw[e1,ih (u / 128) (by omega) (i+1) _ (by omega) (by omega) (by simp at hl;omega) (fun j x hj=>by
    have:=hx (j+1) x (by rw[hu];simpa using hj);rw[show i+1+j=i+(j+1) by omega];exact this),hu,e2]
   simp only[List.length_cons];refine Prod.ext ?_ (Prod.ext ?_ rfl)
   ·simp only;omega
   ·simp only;omega
theorem L6(a b:ByteArray):(a++b).size=a.size+b.size:=ByteArray.size_append
theorem f4x(u:Nat)(hu:u<18446744073709551616)(t:ByteArray):X6 (b34 u++t) 0 0=(u,(b34 u).size,0):=by
 have hz:(b34 u).size=(b45 u).length:=b7q _
 have:=e6o (b34 u++t) u 0 0 (by omega) (by simpa using hu) (by rw[L6,hz];omega) (fun j x hj=>by
  have hlt:j<(b34 u).size:=by rw[hz];exact(List.getElem?_eq_some_iff.1 hj).1
  rw[Nat.zero_add,a8z _ _ hlt];exact c4m (d3o u) hj)
 rw[this,hz];simp
theorem f89(c:A3)(u:Nat)(hu:u<18446744073709551616)(t:ByteArray)(h:O5 c=b34 u++t):U4 c=((u:Int),a3c c (b34 u).size,0):=by
 have:=f4x u hu t;unfold U4;rw[h,this];simp
theorem e9m(u:Nat):∀n,n<=8->leS (e1c u) n=u % 256 ^ n
 |0,_=>by simp[leS];omega
 |n+1,h=>by
  simp only[leS];rw[e9m u n (by omega)];have hx:(e2e u 8)[n]? =some ((u / 256 ^ n % 256:Nat):Int):=by simp[e2e,show n<8 by omega]
  have:=c4m (d3x u 8) hx;have e:J1 (e1c u) n=u / 256 ^ n % 256:=by unfold e1c;omega
  rw[e,Nat.pow_succ,Nat.mod_mul,Nat.mul_comm (256 ^ n)]
theorem d39(u:Nat):(e1c u).size=8:=by rw[e1c,b7q];simp[e2e]
theorem f8s(c:A3)(u:Nat)(hu:u<18446744073709551616)(t:ByteArray)(h:O5 c=e1c u++t):c7b c=((u:Int),a3c c 8,0):=by
 have hz:=d39 u
 have e1:leS (O5 c) 8=u:=by
  rw[h,d1p _ (e1c u) 8 (fun i hi=>a8z _ _ (by omega)),e9m u 8 (Nat.le_refl _)];exact Nat.mod_eq_of_lt (by simpa using hu)
 unfold c7b;rw[if_pos (by rw[h,L6];omega),e1]
def atS(d:ByteArray):A3:=⟨d,0,d.size,0,0,9999⟩
theorem f9t(d:ByteArray)(n:Nat)(h:n<=d.size):a1m d n d.size=d.size - n:=by
 have:b3o d n d.size=true:=by simp[b3o];omega
 rw[a1m,if_pos this]
theorem g3p(d:ByteArray):d.extract 0 d.size=d:=by simp
theorem g2l(d:ByteArray):O5 (atS d)=d:=by
 unfold O5 atS;have:=f9t d 0 (by omega);simp only[Int.toNat_zero,Nat.zero_add];rw[show((0:Nat):Int)=0 from rfl]at this;rw[this,show((d.size:Int) - 0).toNat=d.size by omega];exact g3p d
theorem g5a:f2w 9221120237041090560=0:=by decide
theorem b5y(v:A0)(h:a64 v.Kind v=true):1<=v.Kind/\v.Kind<=9/\((v.Kind=7\/v.Kind=8)->v.Bits=0/\v.Text.size<=4096/\(v.Kind=7->b1c v.Text=true))/\(¬(v.Kind=7\/v.Kind=8)->a3o v.Kind v.Bits=true):=by
 unfold a64 at h;simp only[Bool.and_eq_true,decide_eq_true_eq]at h;obtain⟨⟨h1,_⟩,h2⟩:=h;refine⟨h1.1,h1.2.1,fun h3=>?_,fun h3=>?_⟩
 ·rw[if_pos h3]at h2;simp only[Bool.and_eq_true,decide_eq_true_eq,Bool.or_eq_true,Bool.not_eq_true',decide_eq_false_iff_not]at h2;exact⟨h2.1.1,h2.1.2,fun h7=>by rcases h2.2 with h|h;exact absurd h7 h;exact h⟩
 ·rw[if_neg h3]at h2;simp only[Bool.and_eq_true]at h2;exact h2.2
theorem g87{n:Int}(h:0<=n/\n<18446744073709551616):wU (wI n)=n:=by simp only[wU,wI,IntKind.wrap,IntKind.signed,IntKind.bits];simp;omega
def Ex{α:Type}(Q p:α->Prop):Prop:=∃r,p r/\Q r
section
variable {α β:Type}{Q:α->Prop}
theorem D8{e:α}(h:Q e):Ex Q (fun r=>r=e):=⟨e,rfl,h⟩
theorem E9{c:Prop}[Decidable c]{p q:α->Prop}(h1:c->Ex Q p)(h2:¬c->Ex Q q):Ex Q (fun r=>(decide c=true->p r)/\(decide c=false->q r)):=by
 by_cases h:c
 ·obtain⟨r,a,b⟩:=h1 h;exact⟨r,⟨fun _=>a,fun h'=>absurd h (of_decide_eq_false h')⟩,b⟩
 ·obtain⟨r,a,b⟩:=h2 h;exact⟨r,⟨fun h'=>absurd (of_decide_eq_true h') h,fun _=>a⟩,b⟩
theorem O6{c:Prop}[Decidable c]{p q:α->Prop}(h1:¬c->Ex Q p)(h2:c->Ex Q q):Ex Q (fun r=>((!decide c)=true->p r)/\((!decide c)=false->q r)):=by
 by_cases h:c
 ·obtain⟨r,a,b⟩:=h2 h;exact⟨r,⟨fun h'=>by simp[h]at h',fun _=>a⟩,b⟩
 ·obtain⟨r,a,b⟩:=h1 h;exact⟨r,⟨fun _=>a,fun h'=>by simp[h]at h'⟩,b⟩
theorem B3(B:Bool){p q:α->Prop}(h1:B=true->Ex Q p)(h2:B=false->Ex Q q):Ex Q (fun r=>(B=true->p r)/\(B=false->q r)):=by
 cases hB:B with
 |true=>obtain⟨r,a,b⟩:=h1 hB;exact⟨r,⟨fun _=>a,fun h=>by cases h⟩,b⟩
 |false=>obtain⟨r,a,b⟩:=h2 hB;exact⟨r,⟨fun h=>(by cases h),fun _=>a⟩,b⟩
theorem E1{F:β->Prop}{G:β->α->Prop}{S:β->Prop}(h:Ex S F)(k:∀y,S y->Ex Q (G y)):Ex Q (fun r=>∃y,F y/\G y r):=by
 obtain⟨y,hy,hs⟩:=h;obtain⟨r,a,b⟩:=k y hs;exact⟨r,⟨y,hy,a⟩,b⟩
theorem c28{F:β->Prop}{G:β->α->Prop}{v:β}(h:F v)(k:Ex Q (G v)):Ex Q (fun r=>∃y,F y/\G y r):=by
 obtain⟨r,a,b⟩:=k;exact⟨r,⟨v,h,a⟩,b⟩
theorem E5{l:List β}{i:Int}{G:β->α->Prop}(h:0<=i/\i<l.length)(k:∀y,l[i.toNat]? =some y->y∈l->Ex Q (G y)):Ex Q (fun r=>∃y,l[i.toNat]? =some y/\0<=i/\G y r):=by
 have hlt:i.toNat<l.length:=by omega
 have he:=List.getElem?_eq_getElem hlt;obtain⟨r,a,b⟩:=k _ he (List.getElem_mem hlt);exact⟨r,⟨_,he,h.1,a⟩,b⟩
theorem a3s{l:List β}{i:Int}{G:β->α->Prop}(y:β)(hy:l[i.toNat]? =some y)(h:0<=i)(k:Ex Q (G y)):Ex Q (fun r=>∃y,l[i.toNat]? =some y/\0<=i/\G y r):=by
 obtain⟨r,a,b⟩:=k;exact⟨r,⟨y,hy,h,a⟩,b⟩
theorem D9{A:Prop}{G:α->Prop}(h:A)(k:Ex Q G):Ex Q (fun r=>A/\G r):=by
 obtain⟨r,a,b⟩:=k;exact⟨r,⟨h,a⟩,b⟩
theorem C5{G:β->α->Prop}{H:(β->Prop)->α->Prop}(k:Ex Q (fun r=>H (fun z=>G z r) r)):Ex Q (fun r=>∃R:β->Prop,(∀z,R z->G z r)/\H R r):=by
 obtain⟨r,a,b⟩:=k;exact⟨r,⟨fun z=>G z r,fun z h=>h,a⟩,b⟩
theorem B5{p F:α->Prop}(h:∀r,p r->F r)(k:Ex Q p):Ex Q F:=by
 obtain⟨r,a,b⟩:=k;exact⟨r,h r a,b⟩
theorem e87{p:α->Prop}{S:α->Prop}(h:Ex S p)(k:∀r,S r->Q r):Ex Q p:=by
 obtain⟨r,a,b⟩:=h;exact⟨r,a,k r b⟩
theorem Ex.to{p:α->Prop}(h:Ex Q p):∃r,p r/\Q r:=h
end
theorem upn{T:Nat->Prop}(n:Nat)(b7k:∀i,i<n->T (i+1)->T i)(fin:∀i,n<=i->T i):∀i,T i:=by
 have:∀k i,n - i<=k->T i:=by
  intro k
  induction k with
  |zero=>exact fun i h=>fin i (by omega)
  |succ k ih=>
   intro i h;rcases Nat.lt_or_ge i n with h1|h1
   ·exact b7k i h1 (ih (i+1) (by omega))
   ·exact fin i h1
 exact fun i=>this (n - i) i (Nat.le_refl _)
theorem V8{i:Nat}(h:i<=4611686018427387904):wI ((i:Int)+1)=((i+1:Nat):Int):=by rw[wI,C9 (by omega)];omega
theorem d1e{i:Nat}(h:0<i/\i<=4611686018427387904):wI ((i:Int) - 1)=((i - 1:Nat):Int):=by rw[wI,C9 (by omega)];omega
def yes{α:Type}:α->Prop:=fun _=>True
theorem e0s(b:Int):Ex yes (b7p b):=B5 (c78 _) (D8 trivial)
theorem d0j(b:Int):Ex yes (b1m b):=B5 (c3k _) (D8 trivial)
theorem f4d(s:ByteArray)(hs:s.size<=140737488351232):∀i:Nat,Ex yes (a2z (i:Int) s):=by
 refine upn (s.size) (fun i hi ih=>?_) (fun i hi=>?_)
 ·refine B5 (b05 _ _) ?_;rw[V8 (by omega)]
  repeat' first|exact D8 trivial|exact ih|assumption|refine C5 ?_|refine E9 (fun h=>?_) (fun h=>?_)|refine O6 (fun h=>?_) (fun h=>?_)|refine B3 _ (fun h=>?_) (fun h=>?_)|refine E5 (by omega) (fun y hy hm=>?_)|refine D9 (by omega) ?_|refine E1 (e0s _) (fun y hq=>?_)|refine E1 (d0j _) (fun y hq=>?_)
 ·refine B5 (b05 _ _) ?_
  repeat' first|exact D8 trivial|exact ih|assumption|exact absurd ‹_› (by omega)|(exfalso;omega)|refine C5 ?_|refine E9 (fun h=>?_) (fun h=>?_)|refine O6 (fun h=>?_) (fun h=>?_)|refine B3 _ (fun h=>?_) (fun h=>?_)|refine E5 (by omega) (fun y hy hm=>?_)|refine D9 (by omega) ?_|refine E1 (e0s _) (fun y hq=>?_)|refine E1 (d0j _) (fun y hq=>?_)
theorem f18(s:ByteArray)(hs:s.size<=140737488351232):Ex yes (b0o s):=by
 refine B5 (c5u _) ?_
 repeat' first|exact D8 trivial|exact ih|assumption|exact f4d s hs 1|refine C5 ?_|refine E9 (fun h=>?_) (fun h=>?_)|refine O6 (fun h=>?_) (fun h=>?_)|refine B3 _ (fun h=>?_) (fun h=>?_)|refine E5 (by first|omega|(simp only[Bool.or_eq_false_iff,Bool.or_eq_true,Bool.and_eq_true,Bool.and_eq_false_iff,beq_iff_eq,beq_eq_false_iff_ne,decide_eq_false_iff_not,decide_eq_true_eq,ne_eq]at*;omega)) (fun y hy hm=>?_)|refine D9 (by first|omega|(simp only[Bool.or_eq_false_iff,Bool.or_eq_true,Bool.and_eq_true,Bool.and_eq_false_iff,beq_iff_eq,beq_eq_false_iff_ne,decide_eq_false_iff_not,decide_eq_true_eq,ne_eq]at*;omega)) ?_|refine E1 (e0s _) (fun y hq=>?_)|refine E1 (d0j _) (fun y hq=>?_)
theorem f7x(s:ByteArray):Ex yes (b4g s):=by
 refine B5 (c5f _) ?_
 repeat' first|exact D8 trivial|exact ih|assumption|refine C5 ?_|refine E9 (fun h=>?_) (fun h=>?_)|refine O6 (fun h=>?_) (fun h=>?_)|refine B3 _ (fun h=>?_) (fun h=>?_)|refine E5 (by omega) (fun y hy hm=>?_)|refine D9 (by omega) ?_
theorem f5m(s:ByteArray)(hs:s.size<=140737488351232):∀i:Nat,∀w:ByteArray,w.size<=i/\i<=140737488351232->Ex yes (a3i (i:Int) w s):=by
 refine upn s.size (fun i hi ih w hw=>?_) (fun i hi w hw=>?_)
 ·have hz:(s.extract ((i:Int)).toNat (((i+1:Nat):Int)).toNat).size<=1:=by rw[a2l _ (by omega)];omega
  refine B5 (b1i _ _ _) ?_;rw[V8 (by omega)]
  repeat' first|exact D8 trivial|exact ih|assumption|exact ih _ (by rw[L6];omega)|exact ih ⟨#[]⟩ ⟨Nat.zero_le _,by omega⟩|refine C5 ?_|refine E9 (fun h=>?_) (fun h=>?_)|refine O6 (fun h=>?_) (fun h=>?_)|refine B3 _ (fun h=>?_) (fun h=>?_)|refine E5 (by omega) (fun y hy hm=>?_)|refine D9 (by omega) ?_|refine E1 (f18 _ (by omega)) (fun y hq=>?_)
 ·refine B5 (b1i _ _ _) ?_
  repeat' first|exact D8 trivial|exact ih|assumption|exact absurd ‹_› (by omega)|refine C5 ?_|refine E9 (fun h=>?_) (fun h=>?_)|refine O6 (fun h=>?_) (fun h=>?_)|refine B3 _ (fun h=>?_) (fun h=>?_)|refine E5 (by omega) (fun y hy hm=>?_)|refine D9 (by omega) ?_|refine E1 (f18 _ (by omega)) (fun y hq=>?_)
theorem g59(s:ByteArray)(hs:s.size<=140737488351232):Ex yes (b8y s):=by
 refine B5 (c5y _) ?_
 repeat' first|exact D8 trivial|exact ih|assumption|exact f5m s hs 0 ⟨#[]⟩ ⟨Nat.zero_le _,by omega⟩|refine C5 ?_|refine E9 (fun h=>?_) (fun h=>?_)|refine O6 (fun h=>?_) (fun h=>?_)|refine B3 _ (fun h=>?_) (fun h=>?_)|refine E5 (by omega) (fun y hy hm=>?_)|refine D9 (by omega) ?_
def e2p(s:ByteArray)(r:ByteArray × ByteArray):Prop:=r.1.size<=s.size - 1
theorem f1c(s:ByteArray)(hs:s.size<=140737488351232):∀k:Nat,k<=s.size->Ex (e2p s) (a9q ((k:Int) - 1) s):=by
 intro k
 induction k with
 |zero=>exact fun _=>B5 (b2o _ _) (E9 (fun h=>absurd h (by omega)) fun _=>D8 (Nat.zero_le _))
 |succ k ih=>
  intro hk;have e:wI (((k+1:Nat):Int) - 1 - 1)=(k:Int) - 1:=by rw[wI,C9 (by omega)];omega
  refine B5 (b2o _ _) ?_;rw[e];refine E9 (fun h=>D9 (by omega) (B3 _ (fun _=>D9 (by omega) (D9 ?_ (D8 ?_))) fun _=>ih (by omega))) fun h=>absurd (show(0:Int)<=((k+1:Nat):Int) - 1 by omega) h
  ·rw[wI,C9 (by omega)];omega
  ·unfold e2p;simp only;rw[a2l _ (by omega)];omega
theorem g1c(s:ByteArray)(hs:s.size<=140737488351232):Ex (e2p s) (c12 s):=by
 refine B5 (c7s _) ?_;rw[wI,C9 (by omega)];exact f1c s hs s.size (Nat.le_refl _)
theorem g42{s:ByteArray}(h:s.size=0):s=⟨#[]⟩:=ByteArray.ext (Array.eq_empty_of_size_eq_zero h)
theorem e0o:∀n:Nat,∀s:ByteArray,s.size<=n->n<=140737488351232->Ex yes (a5g s):=by
 intro n
 induction n with
 |zero=>
  intro s h _;refine B5 (b0p _) (O6 (fun h0=>?_) fun _=>D8 trivial);exact absurd (g42 (by omega)) h0
 |succ n ih=>
  intro s h hn;refine B5 (b0p _) (O6 (fun h0=>?_) fun _=>D8 trivial);refine E1 (g1c s (by omega)) fun y hy=>E1 (f7x _) fun y2 _=>B3 _ (fun _=>D8 trivial) fun _=>?_
  unfold e2p at hy;exact ih _ (by omega) (by omega)
theorem c3w(s:ByteArray)(hs:s.size<=140737488351232):Ex yes (b16 s):=by
 refine B5 (c3v _) ?_
 repeat' first|exact D8 trivial|exact ih|assumption|exact e0o _ s (Nat.le_refl _) hs|refine C5 ?_|refine E9 (fun h=>?_) (fun h=>?_)|refine O6 (fun h=>?_) (fun h=>?_)|refine B3 _ (fun h=>?_) (fun h=>?_)|refine E5 (by omega) (fun y hy hm=>?_)|refine D9 (by omega) ?_|refine E1 (g59 s hs) (fun y hq=>?_)
theorem c8y(s:ByteArray)(hs:s.size<=140737488351232):Ex yes (b4x s):=by
 refine B5 (c6u _) ?_
 repeat' first|exact D8 trivial|exact ih|assumption|refine C5 ?_|refine E9 (fun h=>?_) (fun h=>?_)|refine O6 (fun h=>?_) (fun h=>?_)|refine B3 _ (fun h=>?_) (fun h=>?_)|refine E5 (by omega) (fun y hy hm=>?_)|refine D9 (by omega) ?_|refine E1 (f18 s hs) (fun y hq=>?_)|refine E1 (f7x s) (fun y hq=>?_)
structure g54(o:GOp):Prop where
 num:I64 o.Num
 name:Sz o.Name.size
 alias_:Sz o.Alias.size
 card:I64 o.Card
 key:I64 o.Key
 kind:I64 o.Kind
 target:I64 o.Target
 union:I64 o.Union
structure b9h(g:B9):Prop where
 name:Sz g.Name.size
 n:Sz g.Ops.length
 ops:∀o∈g.Ops,g54 o
 unions:I64 g.Unions
structure d05(n:b4b):Prop where
 name:Sz n.Name.size
 val:OkD n.Val
structure e94(x:b5j):Prop where
 name:Sz x.Name.size
 num:I64 x.Num
 nn:Sz x.Notes.length
 notes:∀n∈x.Notes,d05 n
structure e7i(x:c0v):Prop where
 from_:I64 x.From
 to_:I64 x.To
structure c08(e:W4):Prop where
 name:Sz e.Name.size
 ni:Sz e.Items.length
 items:∀x∈e.Items,e94 x
 nr:Sz e.Reserved.length
 reserved:∀x∈e.Reserved,e7i x
 nn:Sz e.Notes.length
 notes:∀x∈e.Notes,d05 x
structure b5t(p:A6):Prop where
 np:Sz p.Progs.length
 progs:∀g∈p.Progs,b9h g
 ne:Sz p.Enums.length
 enums:∀e∈p.Enums,c08 e
section
variable {n:Nat}{avs:List AV}{av:AV}
theorem g0v(h:Ty Tryz.prog n 151 avs):∃x,avs=a8k x/\d05 x:=by
 obtain⟨m,rfl,a1,b1,rfl,h1,a2,b2,rfl,h2,rfl⟩:=d1y (ts:=[9,35]) (by kernel_rfl) h;obtain⟨x1,rfl,k1⟩:=c37 (by kernel_rfl) h1;obtain⟨x2,rfl,k2⟩:=e3n _ _ h2;exact⟨⟨x1,x2⟩,by rw[V1];rfl,⟨k1,k2⟩⟩
theorem e2j{t:TypeId}(hu:Tryz.prog.underlying t=some (.slice 151))(h:Ty Tryz.prog n t avs):∃l:List b4b,avs=[.sl (l.map a8k) .no]/\Sz l.length/\∀x∈l,d05 x:=e5d hu (of_decide_eq_true (by kernel_rfl)) (fun k a hk ha=>g0v ha) h
theorem f94(h:Ty Tryz.prog n 115 avs):∃x,avs=a3j x/\e94 x:=by
 obtain⟨m,rfl,a1,b1,rfl,h1,a2,b2,rfl,h2,a3,b3,rfl,h3,rfl⟩:=d1y (ts:=[9,3,110]) (by kernel_rfl) h;obtain⟨x1,rfl,k1⟩:=c37 (by kernel_rfl) h1;obtain⟨x2,rfl,k2⟩:=b4f (by kernel_rfl) h2;obtain⟨x3,rfl,n3,k3⟩:=e2j (by kernel_rfl) h3;exact⟨⟨x1,x2,x3⟩,rfl,⟨k1,k2,n3,k3⟩⟩
theorem g2q(h:Ty Tryz.prog n 149 avs):∃x,avs=b2u x/\e7i x:=by
 obtain⟨m,rfl,a1,b1,rfl,h1,a2,b2,rfl,h2,rfl⟩:=d1y (ts:=[3,3]) (by kernel_rfl) h;obtain⟨x1,rfl,k1⟩:=b4f (by kernel_rfl) h1;obtain⟨x2,rfl,k2⟩:=b4f (by kernel_rfl) h2;exact⟨⟨x1,x2⟩,rfl,⟨k1,k2⟩⟩
theorem g1k(h:Ty Tryz.prog n 112 avs):∃x,avs=S0 x/\c08 x:=by
 obtain⟨m,rfl,a1,b1,rfl,h1,a2,b2,rfl,h2,a3,b3,rfl,h3,a4,b4,rfl,h4,a5,b5,rfl,h5,rfl⟩:=d1y (ts:=[9,4,108,109,110]) (by kernel_rfl) h;obtain⟨x1,rfl,k1⟩:=c37 (by kernel_rfl) h1;obtain⟨x2,rfl⟩:=g1e (by kernel_rfl) h2;obtain⟨x3,rfl,n3,k3⟩:=e5d (e:=115) (enc:=a3j) (Ok:=e94) (by kernel_rfl) (of_decide_eq_true (by kernel_rfl)) (fun k a hk ha=>f94 ha) h3;obtain⟨x4,rfl,n4,k4⟩:=e5d (e:=149) (enc:=b2u) (Ok:=e7i) (by kernel_rfl) (of_decide_eq_true (by kernel_rfl)) (fun k a hk ha=>g2q ha) h4;obtain⟨x5,rfl,n5,k5⟩:=e2j (by kernel_rfl) h5;exact⟨⟨x1,x2,x3,x4,x5⟩,rfl,⟨k1,n3,k3,n4,k4,n5,k5⟩⟩
theorem h1q(h:Ty Tryz.prog n 38 avs):∃x,avs=V6 x/\g54 x:=by
 obtain⟨m,rfl,a1,b1,rfl,h1,a2,b2,rfl,h2,a3,b3,rfl,h3,a4,b4,rfl,h4,a5,b5,rfl,h5,a6,b6,rfl,h6,a7,b7,rfl,h7,a8,b8,rfl,h8,rfl⟩:=d1y (ts:=[3,9,9,3,3,3,3,3]) (by kernel_rfl) h;obtain⟨x1,rfl,k1⟩:=b4f (by kernel_rfl) h1;obtain⟨x2,rfl,k2⟩:=c37 (by kernel_rfl) h2;obtain⟨x3,rfl,k3⟩:=c37 (by kernel_rfl) h3;obtain⟨x4,rfl,k4⟩:=b4f (by kernel_rfl) h4;obtain⟨x5,rfl,k5⟩:=b4f (by kernel_rfl) h5;obtain⟨x6,rfl,k6⟩:=b4f (by kernel_rfl) h6;obtain⟨x7,rfl,k7⟩:=b4f (by kernel_rfl) h7;obtain⟨x8,rfl,k8⟩:=b4f (by kernel_rfl) h8;exact⟨⟨x1,x2,x3,x4,x5,x6,x7,x8⟩,rfl,⟨k1,k2,k3,k4,k5,k6,k7,k8⟩⟩
theorem g0d(h:Ty Tryz.prog n 41 avs):∃x,avs=E3 x/\b9h x:=by
 obtain⟨m,rfl,a1,b1,rfl,h1,a2,b2,rfl,h2,a3,b3,rfl,h3,rfl⟩:=d1y (ts:=[9,39,3]) (by kernel_rfl) h;obtain⟨x1,rfl,k1⟩:=c37 (by kernel_rfl) h1;obtain⟨x2,rfl,n2,k2⟩:=e5d (e:=38) (enc:=V6) (Ok:=g54) (by kernel_rfl) (of_decide_eq_true (by kernel_rfl)) (fun k a hk ha=>h1q ha) h2;obtain⟨x3,rfl,k3⟩:=b4f (by kernel_rfl) h3;exact⟨⟨x1,x2,x3⟩,rfl,⟨k1,n2,k2,k3⟩⟩
theorem g1s(h:Ty Tryz.prog n 25 avs):∃x,avs=B6 x/\b5t x:=by
 obtain⟨m,rfl,a1,b1,rfl,h1,a2,b2,rfl,h2,rfl⟩:=d1y (ts:=[22,23]) (by kernel_rfl) h;obtain⟨x1,rfl,n1,k1⟩:=e5d (e:=41) (enc:=E3) (Ok:=b9h) (by kernel_rfl) (of_decide_eq_true (by kernel_rfl)) (fun k a hk ha=>g0d ha) h1;obtain⟨x2,rfl,n2,k2⟩:=e5d (e:=112) (enc:=S0) (Ok:=c08) (by kernel_rfl) (of_decide_eq_true (by kernel_rfl)) (fun k a hk ha=>g1k ha) h2;exact⟨⟨x1,x2⟩,rfl,⟨n1,k1,n2,k2⟩⟩
theorem h7a(h:TyV Tryz.prog n 25 av):∃x,av=.agg (B6 x)/\b5t x:=by
 obtain⟨avs,rfl,g⟩:=f7l (ts:=[22,23]) (by kernel_rfl) h;obtain⟨x,rfl,k⟩:=g1s g;exact⟨x,rfl,k⟩
end
structure OpF(p:A6)(o:GOp):Prop where
 card:1<=o.Card/\o.Card<=5
 kind:1<=o.Kind/\o.Kind<=10
 key:(o.Card≠5->o.Key=0)/\(o.Card=5->(1<=o.Key/\o.Key<=5)\/o.Key=7)
 msg:o.Kind=10->0<=o.Target/\o.Target<p.Progs.length/\o.Card≠3
 enum:o.Kind=9->0<=o.Target/\o.Target<p.Enums.length
 other:o.Kind≠9->o.Kind≠10->o.Target= -1
 union:o.Union= -1\/o.Card=2
theorem D6{n:Nat}(h:Sz n):n<=140737488351232:=h
theorem OkD.okv{v:A0}(h:OkD v):OkV v:=by
 cases h with
 |mk _ k b t l p s r=>exact⟨l,p,s,r,t,b.1,b.2⟩
theorem f7d{α:Type}{l:List α}{i:Nat}(h:i<l.length):∃y,l[((i:Int)).toNat]? =some y/\y∈l:=⟨l[i],by simp[h],List.getElem_mem h⟩
def Asc(l:List GOp)(n:Nat):Prop:=∀m x y,m+1<n->l[m]? =some x->l[m+1]? =some y->x.Num<y.Num
theorem f5k{l:List GOp}{i:Nat}{x y:GOp}(h:Asc l i)(hx:l[i - 1]? =some x)(hy:l[i]? =some y)(hlt:x.Num<y.Num):Asc l (i+1):=by
 intro m x' y' hm h1 h2
 by_cases e:m+1=i
 ·have:m=i - 1:=by omega
  subst this;rw[hx]at h1;cases h1;rw[e,hy]at h2;cases h2;exact hlt
 ·exact h m x' y' (by omega) h1 h2
theorem b28{α:Type}{l:List α}{T:α->Prop}{k:Nat}{g:α}(h:∀j g,j<k->l[j]? =some g->T g)(hg:l[k]? =some g)(ht:T g):∀j g,j<k+1->l[j]? =some g->T g:=by
 intro j g' hj hj2
 by_cases e:j=k
 ·subst e;rw[hg]at hj2;cases hj2;exact ht
 ·exact h j g' (by omega) hj2
theorem b94{α:Type}{l:List α}{T:α->Prop}{k:Nat}(h:∀j g,j<k->l[j]? =some g->T g)(hk:l.length<=k):∀g∈l,T g:=by
 intro g hg;obtain⟨j,hj⟩:=List.mem_iff_getElem?.1 hg;exact h j g (by have:=(List.getElem?_eq_some_iff.1 hj).1;omega) hj
section
variable (p:A6) (hp:b5t p)
 include hp
theorem f70:∀i:Nat,∀b,Ex yes (a3h (i:Int) b p):=by
 have b1:=D6 hp.np;have b2:=D6 hp.ne;refine upn (p.Enums.length) (fun i hi ih b=>?_) (fun i hi b=>?_)
 ·refine B5 (b1g _ _ _) ?_
  try rw[V8 (by omega)]
  repeat' first|exact D8 trivial|exact ih|assumption|exact ih _|refine C5 ?_|refine E9 (fun h=>?_) (fun h=>?_)|refine O6 (fun h=>?_) (fun h=>?_)|refine B3 _ (fun h=>?_) (fun h=>?_)|refine E5 (by omega) (fun y hy hm=>?_)|refine D9 (by omega) ?_
 ·refine B5 (b1g _ _ _) ?_
  repeat' first|exact D8 trivial|exact ih|assumption|exact ih _|exact absurd ‹_› (by omega)|(exfalso;omega)|refine C5 ?_|refine E9 (fun h=>?_) (fun h=>?_)|refine O6 (fun h=>?_) (fun h=>?_)|refine B3 _ (fun h=>?_) (fun h=>?_)|refine E5 (by omega) (fun y hy hm=>?_)|refine D9 (by omega) ?_
theorem g5c:∀i:Nat,∀b,Ex yes (a2x (i:Int) b p):=by
 have b1:=D6 hp.np;have b2:=D6 hp.ne;refine upn (p.Progs.length) (fun i hi ih b=>?_) (fun i hi b=>?_)
 ·refine B5 (b1h _ _ _) ?_
  try rw[V8 (by omega)]
  repeat' first|exact D8 trivial|exact ih|assumption|exact ih _|exact f70 p hp 0 _|refine C5 ?_|refine E9 (fun h=>?_) (fun h=>?_)|refine O6 (fun h=>?_) (fun h=>?_)|refine B3 _ (fun h=>?_) (fun h=>?_)|refine E5 (by omega) (fun y hy hm=>?_)|refine D9 (by omega) ?_
 ·refine B5 (b1h _ _ _) ?_
  repeat' first|exact D8 trivial|exact ih|assumption|exact ih _|exact f70 p hp 0 _|exact absurd ‹_› (by omega)|(exfalso;omega)|refine C5 ?_|refine E9 (fun h=>?_) (fun h=>?_)|refine O6 (fun h=>?_) (fun h=>?_)|refine B3 _ (fun h=>?_) (fun h=>?_)|refine E5 (by omega) (fun y hy hm=>?_)|refine D9 (by omega) ?_
theorem f5v:Ex yes (b8o p):=by
 refine B5 (c49 _) ?_;exact g5c p hp 0 _
theorem f1n(k:Nat)(hk:k<p.Enums.length)(g:W4)(hg:p.Enums[((k:Int)).toNat]? =some g)(og:c08 g)(H:∀b,Ex yes (a2v ((k+1:Nat):Int) b p)):∀i:Nat,∀b,Ex yes (a23 (i:Int) b (k:Int) p):=by
 have b1:=D6 hp.np;have b2:=D6 hp.ne;have b3:=D6 og.ni;have b4:=D6 og.nr;refine upn (g.Items.length) (fun i hi ih b=>?_) (fun i hi b=>?_)
 ·refine B5 (b1a _ _ _ _) ?_
  try rw[V8 (by omega)]
  repeat' first|exact D8 trivial|exact ih|assumption|exact ih _|exact H _|refine a3s g hg (by omega) ?_|rw[V8 (by omega)]|refine C5 ?_|refine E9 (fun h=>?_) (fun h=>?_)|refine O6 (fun h=>?_) (fun h=>?_)|refine B3 _ (fun h=>?_) (fun h=>?_)|refine E5 (by omega) (fun y hy hm=>?_)|refine D9 (by omega) ?_|refine E1 (c8y _ (og.items _ (by assumption)).name) (fun y hq=>?_)
 ·refine B5 (b1a _ _ _ _) ?_
  repeat' first|exact D8 trivial|exact ih|assumption|exact ih _|exact H _|refine a3s g hg (by omega) ?_|rw[V8 (by omega)]|exact absurd ‹_› (by omega)|(exfalso;omega)|refine C5 ?_|refine E9 (fun h=>?_) (fun h=>?_)|refine O6 (fun h=>?_) (fun h=>?_)|refine B3 _ (fun h=>?_) (fun h=>?_)|refine E5 (by omega) (fun y hy hm=>?_)|refine D9 (by omega) ?_|refine E1 (c8y _ (og.items _ (by assumption)).name) (fun y hq=>?_)
theorem e6i:∀i:Nat,∀b,Ex yes (a2v (i:Int) b p):=by
 have b1:=D6 hp.np;have b2:=D6 hp.ne;refine upn (p.Enums.length) (fun i hi ih b=>?_) (fun i hi b=>?_)
 ·obtain⟨g,hg,gm⟩:=f7d hi;refine B5 (b07 _ _ _) ?_
  try rw[V8 (by omega)]
  repeat' first|exact D8 trivial|exact ih|assumption|exact ih _|exact f1n p hp i hi g hg (hp.enums g gm) ih 0 _|refine a3s g hg (by omega) ?_|refine C5 ?_|refine E9 (fun h=>?_) (fun h=>?_)|refine O6 (fun h=>?_) (fun h=>?_)|refine B3 _ (fun h=>?_) (fun h=>?_)|refine E5 (by omega) (fun y hy hm=>?_)|refine D9 (by omega) ?_|refine E1 (c3w _ (hp.enums g gm).name) (fun y hq=>?_)
 ·refine B5 (b07 _ _ _) ?_
  repeat' first|exact D8 trivial|exact ih|assumption|exact ih _|exact f1n p hp i hi g hg (hp.enums g gm) ih 0 _|refine a3s g hg (by omega) ?_|exact absurd ‹_› (by omega)|(exfalso;omega)|refine C5 ?_|refine E9 (fun h=>?_) (fun h=>?_)|refine O6 (fun h=>?_) (fun h=>?_)|refine B3 _ (fun h=>?_) (fun h=>?_)|refine E5 (by omega) (fun y hy hm=>?_)|refine D9 (by omega) ?_|refine E1 (c3w _ (hp.enums g gm).name) (fun y hq=>?_)
theorem f0i(k:Nat)(hk:k<p.Progs.length)(g:B9)(hg:p.Progs[((k:Int)).toNat]? =some g)(og:b9h g)(H:∀b,Ex yes (a3e ((k+1:Nat):Int) b p)):∀i:Nat,∀b,Ex yes (a3d (i:Int) b (k:Int) p):=by
 have b1:=D6 hp.np;have b2:=D6 hp.ne;have b3:=D6 og.n;refine upn (g.Ops.length) (fun i hi ih b=>?_) (fun i hi b=>?_)
 ·refine B5 (b1e _ _ _ _) ?_
  try rw[V8 (by omega)]
  repeat' first|exact D8 trivial|exact ih|assumption|exact ih _|exact H _|refine a3s g hg (by omega) ?_|rw[V8 (by omega)]|refine C5 ?_|refine E9 (fun h=>?_) (fun h=>?_)|refine O6 (fun h=>?_) (fun h=>?_)|refine B3 _ (fun h=>?_) (fun h=>?_)|refine E5 (by omega) (fun y hy hm=>?_)|refine D9 (by omega) ?_|refine E1 (c8y _ (og.ops _ (by assumption)).name) (fun y hq=>?_)
 ·refine B5 (b1e _ _ _ _) ?_
  repeat' first|exact D8 trivial|exact ih|assumption|exact ih _|exact H _|refine a3s g hg (by omega) ?_|rw[V8 (by omega)]|exact absurd ‹_› (by omega)|(exfalso;omega)|refine C5 ?_|refine E9 (fun h=>?_) (fun h=>?_)|refine O6 (fun h=>?_) (fun h=>?_)|refine B3 _ (fun h=>?_) (fun h=>?_)|refine E5 (by omega) (fun y hy hm=>?_)|refine D9 (by omega) ?_|refine E1 (c8y _ (og.ops _ (by assumption)).name) (fun y hq=>?_)
theorem f9v:∀i:Nat,∀b,Ex yes (a3e (i:Int) b p):=by
 have b1:=D6 hp.np;have b2:=D6 hp.ne;refine upn (p.Progs.length) (fun i hi ih b=>?_) (fun i hi b=>?_)
 ·obtain⟨g,hg,gm⟩:=f7d hi;refine B5 (b06 _ _ _) ?_
  try rw[V8 (by omega)]
  repeat' first|exact D8 trivial|exact ih|assumption|exact ih _|exact f0i p hp i hi g hg (hp.progs g gm) ih 0 _|exact e6i p hp 0 _|refine a3s g hg (by omega) ?_|refine C5 ?_|refine E9 (fun h=>?_) (fun h=>?_)|refine O6 (fun h=>?_) (fun h=>?_)|refine B3 _ (fun h=>?_) (fun h=>?_)|refine E5 (by omega) (fun y hy hm=>?_)|refine D9 (by omega) ?_|refine E1 (c3w _ (hp.progs g gm).name) (fun y hq=>?_)
 ·refine B5 (b06 _ _ _) ?_
  repeat' first|exact D8 trivial|exact ih|assumption|exact ih _|exact f0i p hp i hi g hg (hp.progs g gm) ih 0 _|exact e6i p hp 0 _|refine a3s g hg (by omega) ?_|exact absurd ‹_› (by omega)|(exfalso;omega)|refine C5 ?_|refine E9 (fun h=>?_) (fun h=>?_)|refine O6 (fun h=>?_) (fun h=>?_)|refine B3 _ (fun h=>?_) (fun h=>?_)|refine E5 (by omega) (fun y hy hm=>?_)|refine D9 (by omega) ?_|refine E1 (c3w _ (hp.progs g gm).name) (fun y hq=>?_)
theorem g1n:Ex yes (c2w p):=by
 refine B5 (c8m _) ?_;exact f9v p hp 0 _
theorem f09(A:Prop)(k:Nat)(hk:k<p.Enums.length)(g:W4)(hg:p.Enums[((k:Int)).toNat]? =some g)(og:c08 g)(H:∀b,(b=true->A)->Ex (fun r=>r=true->A) (a03 ((k+1:Nat):Int) b p)):∀i:Nat,1<=i->∀b,(b=true->A)->Ex (fun r=>r=true->A) (a0z (i:Int) b (k:Int) p):=by
 have b1:=D6 hp.np;have b2:=D6 hp.ne;have b3:=D6 og.ni;have b4:=D6 og.nr;refine upn (g.Items.length) (fun i hi ih h1 b hA=>?_) (fun i hi h1 b hA=>?_)
 ·refine B5 (a8m _ _ _ _) ?_
  try rw[V8 (by omega)]
  repeat' first|exact D8 (fun h=>by first|exact hA ‹_›|exact hA h|cases h)|exact ih|assumption|exact ih (by omega) _ (fun h=>by first|exact hA ‹_›|cases h)|exact H _ hA|refine a3s g hg (by omega) ?_|rw[V8 (by omega)]|rw[d1e (by omega)]|refine C5 ?_|refine E9 (fun h=>?_) (fun h=>?_)|refine O6 (fun h=>?_) (fun h=>?_)|refine B3 _ (fun h=>?_) (fun h=>?_)|refine E5 (by omega) (fun y hy hm=>?_)|refine D9 (by omega) ?_
 ·refine B5 (a8m _ _ _ _) ?_
  repeat' first|exact D8 (fun h=>by first|exact hA ‹_›|exact hA h|cases h)|exact ih|assumption|exact ih (by omega) _ (fun h=>by first|exact hA ‹_›|cases h)|exact H _ hA|refine a3s g hg (by omega) ?_|rw[V8 (by omega)]|rw[d1e (by omega)]|exact absurd ‹_› (by omega)|(exfalso;omega)|refine C5 ?_|refine E9 (fun h=>?_) (fun h=>?_)|refine O6 (fun h=>?_) (fun h=>?_)|refine B3 _ (fun h=>?_) (fun h=>?_)|refine E5 (by omega) (fun y hy hm=>?_)|refine D9 (by omega) ?_
theorem g0j(A:Prop):∀i:Nat,∀b,(b=true->A)->Ex (fun r=>r=true->A) (a03 (i:Int) b p):=by
 have b1:=D6 hp.np;have b2:=D6 hp.ne;refine upn (p.Enums.length) (fun i hi ih b hA=>?_) (fun i hi b hA=>?_)
 ·obtain⟨g,hg,gm⟩:=f7d hi;refine B5 (a8l _ _ _) ?_
  try rw[V8 (by omega)]
  repeat' first|exact D8 (fun h=>by first|exact hA ‹_›|exact hA h|cases h)|exact ih|assumption|exact f09 p hp A i hi g hg (hp.enums g gm) ih 1 (Nat.le_refl _) _ (fun h=>by first|exact hA ‹_›|cases h)|rw[d1e (by omega)]|refine C5 ?_|refine E9 (fun h=>?_) (fun h=>?_)|refine O6 (fun h=>?_) (fun h=>?_)|refine B3 _ (fun h=>?_) (fun h=>?_)|refine E5 (by omega) (fun y hy hm=>?_)|refine D9 (by omega) ?_
 ·refine B5 (a8l _ _ _) ?_
  repeat' first|exact D8 (fun h=>by first|exact hA ‹_›|exact hA h|cases h)|exact ih|assumption|exact f09 p hp A i hi g hg (hp.enums g gm) ih 1 (Nat.le_refl _) _ (fun h=>by first|exact hA ‹_›|cases h)|rw[d1e (by omega)]|exact absurd ‹_› (by omega)|(exfalso;omega)|refine C5 ?_|refine E9 (fun h=>?_) (fun h=>?_)|refine O6 (fun h=>?_) (fun h=>?_)|refine B3 _ (fun h=>?_) (fun h=>?_)|refine E5 (by omega) (fun y hy hm=>?_)|refine D9 (by omega) ?_
theorem g0q(k:Nat)(hk:k<p.Progs.length)(g:B9)(hg:p.Progs[((k:Int)).toNat]? =some g)(og:b9h g)(H:∀b,(b=true->∀j g,j<k+1->p.Progs[j]? =some g->Asc g.Ops g.Ops.length)->Ex (fun r=>r=true->∀g∈p.Progs,Asc g.Ops g.Ops.length) (a00 ((k+1:Nat):Int) b p)):
  ∀i:Nat,1<=i->(i=1\/i<=g.Ops.length)->∀b,(b=true->(∀j g,j<k->p.Progs[j]? =some g->Asc g.Ops g.Ops.length)/\Asc g.Ops i)->Ex (fun r=>r=true->∀g∈p.Progs,Asc g.Ops g.Ops.length) (Y2 (i:Int) b (k:Int) p):=by
 have b1:=D6 hp.np;have b2:=D6 hp.ne;have b3:=D6 og.n;have e3:((k:Int)).toNat=k:=by omega
 refine upn g.Ops.length (fun i hi ih h1 hi2 b hA=>?_) (fun i hi h1 hi2 b hA=>?_)
 ·refine B5 (a8q _ _ _ _) (a3s g hg (by omega) (E9 (fun _=>B3 _ (fun hb=>?_) (fun hb=>?_)) fun h=>absurd (show(i:Int)<g.Ops.length by omega) h))
  ·rw[d1e (by omega),V8 (by omega)];refine a3s g hg (by omega) (E5 (by omega) fun x hx hm=>a3s g hg (by omega) (E5 (by omega) fun y hy hm2=>ih (by omega) (by omega) _ fun h=>⟨(hA hb).1,?_⟩));have e1:(((i - 1:Nat):Int)).toNat=i - 1:=by omega
   have e2:((i:Int)).toNat=i:=by omega
   rw[e1]at hx;rw[e2]at hy;exact f5k (hA hb).2 hx hy (of_decide_eq_true h)
  ·rw[V8 (by omega)];exact ih (by omega) (by omega) _ fun h=>by cases h
 ·refine B5 (a8q _ _ _ _) (a3s g hg (by omega) (E9 (fun h=>absurd h (by omega)) fun _=>?_));rw[V8 (by omega)];refine H _ fun h=>b28 (hA h).1 (by rw[<-e3];exact hg) ?_
  rcases hi2 with e|e
  ·intro m x y hm;omega
  ·have:i=g.Ops.length:=by omega
   rw[<-this];exact(hA h).2
theorem f9a:∀i:Nat,i<=p.Progs.length->∀b,(b=true->∀j g,j<i->p.Progs[j]? =some g->Asc g.Ops g.Ops.length)->Ex (fun r=>r=true->∀g∈p.Progs,Asc g.Ops g.Ops.length) (a00 (i:Int) b p):=by
 have b1:=D6 hp.np;have b2:=D6 hp.ne;have b1:=D6 hp.np;have b2:=D6 hp.ne;refine upn p.Progs.length (fun i hi ih hle b hA=>?_) (fun i hi hle b hA=>?_)
 ·obtain⟨g,hg,gm⟩:=f7d hi;have fin:∀b',(b'=true->b=true)->Ex (fun r=>r=true->∀g∈p.Progs,Asc g.Ops g.Ops.length) (Y2 1 b' (i:Int) p):=fun b' hb'=>g0q p hp i hi g hg (hp.progs g gm) (fun b h=>ih (by omega) b h) 1 (Nat.le_refl _) (.inl rfl) b' fun h=>⟨hA (hb' h),fun m x y hm=>by omega⟩
  refine B5 (a8o _ _ _) (E9 (fun _=>C5 (B3 _ (fun hb=>C5 ?_) fun hb=>fin _ (fun h=>by cases h))) fun h=>absurd (show(i:Int)<p.Progs.length by omega) h);refine B3 _ (fun h=>fin _ fun _=>hb) fun h=>?_
  have:0<i:=by simp at h;omega
  rw[d1e (by omega)];exact E5 (by omega) fun _ _ _=>E5 (by omega) fun _ _ _=>fin _ fun _=>hb
 ·refine B5 (a8o _ _ _) (E9 (fun h=>absurd h (by omega)) fun _=>g0j p hp _ 0 b fun h=>b94 (hA h) hi)
theorem f1d:Ex (fun r=>r=true->∀g∈p.Progs,Asc g.Ops g.Ops.length) (b7h p):=
 B5 (c4f _) (f9a p hp 0 (Nat.zero_le _) true fun _ j g h=>by omega)
end
section
variable (p:A6) (hp:b5t p)
 include hp
theorem e5w(k:Nat)(g:W4)(og:c08 g)(m:Nat)(hm:m<g.Items.length)(H:∀b,Ex yes (a14 ((m+1:Nat):Int) g (k:Int) b p)):∀i:Nat,∀b,Ex yes (a1w (i:Int) (m:Int) g (k:Int) b p):=by
 have b1:=D6 hp.np;have b2:=D6 hp.ne;have b3:=D6 og.ni;have b4:=D6 og.nr;refine upn (m) (fun i hi ih b=>?_) (fun i hi b=>?_)
 ·refine B5 (a96 _ _ _ _ _ _) ?_
  try rw[V8 (by omega)]
  repeat' first|exact D8 trivial|exact ih|assumption|exact ih _|rw[V8 (by omega)]|exact H _|refine C5 ?_|refine E9 (fun h=>?_) (fun h=>?_)|refine O6 (fun h=>?_) (fun h=>?_)|refine B3 _ (fun h=>?_) (fun h=>?_)|refine E5 (by omega) (fun y hy hm=>?_)|refine D9 (by omega) ?_
 ·refine B5 (a96 _ _ _ _ _ _) ?_
  repeat' first|exact D8 trivial|exact ih|assumption|exact ih _|rw[V8 (by omega)]|exact H _|exact absurd ‹_› (by omega)|(exfalso;omega)|refine C5 ?_|refine E9 (fun h=>?_) (fun h=>?_)|refine O6 (fun h=>?_) (fun h=>?_)|refine B3 _ (fun h=>?_) (fun h=>?_)|refine E5 (by omega) (fun y hy hm=>?_)|refine D9 (by omega) ?_
theorem f2l(k:Nat)(g:W4)(og:c08 g)(H:∀b,Ex yes (a15 ((k+1:Nat):Int) b p))(hk:k<p.Enums.length):∀i:Nat,∀b,Ex yes (a14 (i:Int) g (k:Int) b p):=by
 have b1:=D6 hp.np;have b2:=D6 hp.ne;have b3:=D6 og.ni;have b4:=D6 og.nr;refine upn (g.Items.length) (fun i hi ih b=>?_) (fun i hi b=>?_)
 ·refine B5 (b0h _ _ _ _ _) ?_
  try rw[V8 (by omega)]
  repeat' first|exact D8 trivial|exact ih|assumption|exact ih _|exact e5w p hp k g og i hi ih 0 _|rw[V8 (by omega)]|exact H _|refine C5 ?_|refine E9 (fun h=>?_) (fun h=>?_)|refine O6 (fun h=>?_) (fun h=>?_)|refine B3 _ (fun h=>?_) (fun h=>?_)|refine E5 (by omega) (fun y hy hm=>?_)|refine D9 (by omega) ?_
 ·refine B5 (b0h _ _ _ _ _) ?_
  repeat' first|exact D8 trivial|exact ih|assumption|exact ih _|exact e5w p hp k g og i hi ih 0 _|rw[V8 (by omega)]|exact H _|exact absurd ‹_› (by omega)|(exfalso;omega)|refine C5 ?_|refine E9 (fun h=>?_) (fun h=>?_)|refine O6 (fun h=>?_) (fun h=>?_)|refine B3 _ (fun h=>?_) (fun h=>?_)|refine E5 (by omega) (fun y hy hm=>?_)|refine D9 (by omega) ?_
theorem e9p:∀i:Nat,∀b,Ex yes (a15 (i:Int) b p):=by
 have b1:=D6 hp.np;have b2:=D6 hp.ne;refine upn (p.Enums.length) (fun i hi ih b=>?_) (fun i hi b=>?_)
 ·refine B5 (b0l _ _ _) ?_
  try rw[V8 (by omega)]
  repeat' first|exact D8 trivial|exact ih|assumption|exact ih _|exact f2l p hp i _ (hp.enums _ ‹_›) ih hi 0 _|refine C5 ?_|refine E9 (fun h=>?_) (fun h=>?_)|refine O6 (fun h=>?_) (fun h=>?_)|refine B3 _ (fun h=>?_) (fun h=>?_)|refine E5 (by omega) (fun y hy hm=>?_)|refine D9 (by omega) ?_
 ·refine B5 (b0l _ _ _) ?_
  repeat' first|exact D8 trivial|exact ih|assumption|exact ih _|exact f2l p hp i _ (hp.enums _ ‹_›) ih hi 0 _|exact absurd ‹_› (by omega)|(exfalso;omega)|refine C5 ?_|refine E9 (fun h=>?_) (fun h=>?_)|refine O6 (fun h=>?_) (fun h=>?_)|refine B3 _ (fun h=>?_) (fun h=>?_)|refine E5 (by omega) (fun y hy hm=>?_)|refine D9 (by omega) ?_
theorem e53(k:Nat)(g:B9)(og:b9h g)(m:Nat)(hm:m<g.Ops.length)(H:∀b,Ex yes (a11 ((m+1:Nat):Int) g (k:Int) b p)):∀i:Nat,∀b,Ex yes (a1u (i:Int) (m:Int) g (k:Int) b p):=by
 have b1:=D6 hp.np;have b2:=D6 hp.ne;have b3:=D6 og.n;refine upn (m) (fun i hi ih b=>?_) (fun i hi b=>?_)
 ·refine B5 (a92 _ _ _ _ _ _) ?_
  try rw[V8 (by omega)]
  repeat' first|exact D8 trivial|exact ih|assumption|exact ih _|rw[V8 (by omega)]|exact H _|refine C5 ?_|refine E9 (fun h=>?_) (fun h=>?_)|refine O6 (fun h=>?_) (fun h=>?_)|refine B3 _ (fun h=>?_) (fun h=>?_)|refine E5 (by omega) (fun y hy hm=>?_)|refine D9 (by omega) ?_
 ·refine B5 (a92 _ _ _ _ _ _) ?_
  repeat' first|exact D8 trivial|exact ih|assumption|exact ih _|rw[V8 (by omega)]|exact H _|exact absurd ‹_› (by omega)|(exfalso;omega)|refine C5 ?_|refine E9 (fun h=>?_) (fun h=>?_)|refine O6 (fun h=>?_) (fun h=>?_)|refine B3 _ (fun h=>?_) (fun h=>?_)|refine E5 (by omega) (fun y hy hm=>?_)|refine D9 (by omega) ?_
theorem f1w(k:Nat)(g:B9)(og:b9h g)(H:∀b,Ex yes (a0f ((k+1:Nat):Int) b p))(hk:k<p.Progs.length):∀i:Nat,∀b,Ex yes (a11 (i:Int) g (k:Int) b p):=by
 have b1:=D6 hp.np;have b2:=D6 hp.ne;have b3:=D6 og.n;refine upn (g.Ops.length) (fun i hi ih b=>?_) (fun i hi b=>?_)
 ·refine B5 (b0t _ _ _ _ _) ?_
  try rw[V8 (by omega)]
  repeat' first|exact D8 trivial|exact ih|assumption|exact ih _|exact e53 p hp k g og i hi ih 0 _|rw[V8 (by omega)]|exact H _|refine C5 ?_|refine E9 (fun h=>?_) (fun h=>?_)|refine O6 (fun h=>?_) (fun h=>?_)|refine B3 _ (fun h=>?_) (fun h=>?_)|refine E5 (by omega) (fun y hy hm=>?_)|refine D9 (by omega) ?_
 ·refine B5 (b0t _ _ _ _ _) ?_
  repeat' first|exact D8 trivial|exact ih|assumption|exact ih _|exact e53 p hp k g og i hi ih 0 _|rw[V8 (by omega)]|exact H _|exact absurd ‹_› (by omega)|(exfalso;omega)|refine C5 ?_|refine E9 (fun h=>?_) (fun h=>?_)|refine O6 (fun h=>?_) (fun h=>?_)|refine B3 _ (fun h=>?_) (fun h=>?_)|refine E5 (by omega) (fun y hy hm=>?_)|refine D9 (by omega) ?_
theorem e9b(k:Nat)(hk:k<p.Progs.length)(H:∀b,Ex yes (a0f ((k+1:Nat):Int) b p)):∀i:Nat,∀b,Ex yes (a1x (i:Int) (k:Int) b p):=by
 have b1:=D6 hp.np;have b2:=D6 hp.ne;refine upn (p.Enums.length) (fun i hi ih b=>?_) (fun i hi b=>?_)
 ·refine B5 (a9y _ _ _ _) ?_
  try rw[V8 (by omega)]
  repeat' first|exact D8 trivial|exact ih|assumption|exact ih _|exact f1w p hp k _ (hp.progs _ ‹_›) H hk 0 _|refine C5 ?_|refine E9 (fun h=>?_) (fun h=>?_)|refine O6 (fun h=>?_) (fun h=>?_)|refine B3 _ (fun h=>?_) (fun h=>?_)|refine E5 (by omega) (fun y hy hm=>?_)|refine D9 (by omega) ?_
 ·refine B5 (a9y _ _ _ _) ?_
  repeat' first|exact D8 trivial|exact ih|assumption|exact ih _|exact f1w p hp k _ (hp.progs _ ‹_›) H hk 0 _|exact absurd ‹_› (by omega)|(exfalso;omega)|refine C5 ?_|refine E9 (fun h=>?_) (fun h=>?_)|refine O6 (fun h=>?_) (fun h=>?_)|refine B3 _ (fun h=>?_) (fun h=>?_)|refine E5 (by omega) (fun y hy hm=>?_)|refine D9 (by omega) ?_
theorem g1d:∀i:Nat,∀b,Ex yes (a0f (i:Int) b p):=by
 have b1:=D6 hp.np;have b2:=D6 hp.ne;refine upn (p.Progs.length) (fun i hi ih b=>?_) (fun i hi b=>?_)
 ·refine B5 (b0r _ _ _) ?_
  try rw[V8 (by omega)]
  repeat' first|exact D8 trivial|exact ih|assumption|exact ih _|exact e9b p hp i hi ih 0 _|exact e9p p hp 0 _|refine C5 ?_|refine E9 (fun h=>?_) (fun h=>?_)|refine O6 (fun h=>?_) (fun h=>?_)|refine B3 _ (fun h=>?_) (fun h=>?_)|refine E5 (by omega) (fun y hy hm=>?_)|refine D9 (by omega) ?_
 ·refine B5 (b0r _ _ _) ?_
  repeat' first|exact D8 trivial|exact ih|assumption|exact ih _|exact e9b p hp i hi ih 0 _|exact e9p p hp 0 _|exact absurd ‹_› (by omega)|(exfalso;omega)|refine C5 ?_|refine E9 (fun h=>?_) (fun h=>?_)|refine O6 (fun h=>?_) (fun h=>?_)|refine B3 _ (fun h=>?_) (fun h=>?_)|refine E5 (by omega) (fun y hy hm=>?_)|refine D9 (by omega) ?_
theorem f4z:Ex yes (b9o p):=B5 (c6x _) (g1d p hp 0 _)
theorem g1j(l:List c0v)(hl:Sz l.length)(n:Int):∀i:Nat,Ex yes (a01 (i:Int) l n):=by
 have b1:=D6 hp.np;have b2:=D6 hp.ne;have b1:=D6 hl;refine upn (l.length) (fun i hi ih=>?_) (fun i hi=>?_)
 ·refine B5 (a8t _ _ _) ?_;rw[V8 (by omega)]
  repeat' first|exact D8 trivial|exact ih|assumption|refine C5 ?_|refine E9 (fun h=>?_) (fun h=>?_)|refine O6 (fun h=>?_) (fun h=>?_)|refine B3 _ (fun h=>?_) (fun h=>?_)|refine E5 (by omega) (fun y hy hm=>?_)|refine D9 (by omega) ?_
 ·refine B5 (a8t _ _ _) ?_
  repeat' first|exact D8 trivial|exact ih|assumption|exact absurd ‹_› (by omega)|(exfalso;omega)|refine C5 ?_|refine E9 (fun h=>?_) (fun h=>?_)|refine O6 (fun h=>?_) (fun h=>?_)|refine B3 _ (fun h=>?_) (fun h=>?_)|refine E5 (by omega) (fun y hy hm=>?_)|refine D9 (by omega) ?_
theorem g6o(l:List c0v)(hl:Sz l.length)(n:Int):Ex yes (b5d l n):=B5 (c1r _ _) (g1j p hp l hl n 0)
theorem f1m(A:Prop)(k:Nat)(hk:k<p.Enums.length)(g:W4)(og:c08 g)(H:∀b,(b=true->A)->Ex (fun r=>r=true->A) (a0d ((k+1:Nat):Int) b p)):∀i:Nat,∀b,(b=true->A)->Ex (fun r=>r=true->A) (a0b (i:Int) (k:Int) b p g):=by
 have b1:=D6 hp.np;have b2:=D6 hp.ne;have b3:=D6 og.ni;have b4:=D6 og.nr;refine upn (g.Reserved.length) (fun i hi ih b hA=>?_) (fun i hi b hA=>?_)
 ·refine B5 (b0c _ _ _ _ _) ?_
  try rw[V8 (by omega)]
  repeat' first|exact D8 (fun h=>by first|exact hA ‹_›|exact hA h|cases h)|exact ih|assumption|exact ih _ (fun h=>hA (by simp only[Bool.and_eq_true]at*;simp[*]))|exact ih _ (fun h=>by cases h)|rw[V8 (by omega)]|exact H _ hA|rw[d1e (by omega)]|refine C5 ?_|refine E9 (fun h=>?_) (fun h=>?_)|refine O6 (fun h=>?_) (fun h=>?_)|refine B3 _ (fun h=>?_) (fun h=>?_)|refine E5 (by omega) (fun y hy hm=>?_)|refine D9 (by omega) ?_
 ·refine B5 (b0c _ _ _ _ _) ?_
  repeat' first|exact D8 (fun h=>by first|exact hA ‹_›|exact hA h|cases h)|exact ih|assumption|exact ih _ (fun h=>hA (by simp only[Bool.and_eq_true]at*;simp[*]))|exact ih _ (fun h=>by cases h)|rw[V8 (by omega)]|exact H _ hA|rw[d1e (by omega)]|exact absurd ‹_› (by omega)|(exfalso;omega)|refine C5 ?_|refine E9 (fun h=>?_) (fun h=>?_)|refine O6 (fun h=>?_) (fun h=>?_)|refine B3 _ (fun h=>?_) (fun h=>?_)|refine E5 (by omega) (fun y hy hm=>?_)|refine D9 (by omega) ?_
theorem f14(A:Prop)(k:Nat)(hk:k<p.Enums.length)(g:W4)(og:c08 g)(H:∀b,(b=true->A)->Ex (fun r=>r=true->A) (a0d ((k+1:Nat):Int) b p)):∀i:Nat,∀b,(b=true->A)->Ex (fun r=>r=true->A) (a10 (i:Int) (k:Int) b p g):=by
 have b1:=D6 hp.np;have b2:=D6 hp.ne;have b3:=D6 og.ni;have b4:=D6 og.nr;refine upn (g.Items.length) (fun i hi ih b hA=>?_) (fun i hi b hA=>?_)
 ·refine B5 (a9w _ _ _ _ _) ?_
  try rw[V8 (by omega)]
  repeat' first|exact D8 (fun h=>by first|exact hA ‹_›|exact hA h|cases h)|exact ih|assumption|exact ih _ (fun h=>hA (by simp only[Bool.and_eq_true]at*;simp[*]))|exact ih _ (fun h=>by cases h)|exact f1m p hp A k hk g og H 0 _ hA|refine C5 ?_|refine E9 (fun h=>?_) (fun h=>?_)|refine O6 (fun h=>?_) (fun h=>?_)|refine B3 _ (fun h=>?_) (fun h=>?_)|refine E5 (by omega) (fun y hy hm=>?_)|refine D9 (by omega) ?_|refine E1 (g6o p hp _ og.nr _) (fun y hq=>?_)
 ·refine B5 (a9w _ _ _ _ _) ?_
  repeat' first|exact D8 (fun h=>by first|exact hA ‹_›|exact hA h|cases h)|exact ih|assumption|exact ih _ (fun h=>hA (by simp only[Bool.and_eq_true]at*;simp[*]))|exact ih _ (fun h=>by cases h)|exact f1m p hp A k hk g og H 0 _ hA|exact absurd ‹_› (by omega)|(exfalso;omega)|refine C5 ?_|refine E9 (fun h=>?_) (fun h=>?_)|refine O6 (fun h=>?_) (fun h=>?_)|refine B3 _ (fun h=>?_) (fun h=>?_)|refine E5 (by omega) (fun y hy hm=>?_)|refine D9 (by omega) ?_|refine E1 (g6o p hp _ og.nr _) (fun y hq=>?_)
theorem g1f(A:Prop):∀i:Nat,∀b,(b=true->A)->Ex (fun r=>r=true->A) (a0d (i:Int) b p):=by
 have b1:=D6 hp.np;have b2:=D6 hp.ne;refine upn (p.Enums.length) (fun i hi ih b hA=>?_) (fun i hi b hA=>?_)
 ·refine B5 (a93 _ _ _) ?_
  try rw[V8 (by omega)]
  repeat' first|exact D8 (fun h=>by first|exact hA ‹_›|exact hA h|cases h)|exact ih|assumption|exact f14 p hp A i hi _ (hp.enums _ ‹_›) ih 0 _ hA|refine C5 ?_|refine E9 (fun h=>?_) (fun h=>?_)|refine O6 (fun h=>?_) (fun h=>?_)|refine B3 _ (fun h=>?_) (fun h=>?_)|refine E5 (by omega) (fun y hy hm=>?_)|refine D9 (by omega) ?_
 ·refine B5 (a93 _ _ _) ?_
  repeat' first|exact D8 (fun h=>by first|exact hA ‹_›|exact hA h|cases h)|exact ih|assumption|exact f14 p hp A i hi _ (hp.enums _ ‹_›) ih 0 _ hA|exact absurd ‹_› (by omega)|(exfalso;omega)|refine C5 ?_|refine E9 (fun h=>?_) (fun h=>?_)|refine O6 (fun h=>?_) (fun h=>?_)|refine B3 _ (fun h=>?_) (fun h=>?_)|refine E5 (by omega) (fun y hy hm=>?_)|refine D9 (by omega) ?_
def f2x(o:GOp):Prop:=1<=o.Num/\o.Num<=65535
theorem f8t(k:Nat)(hk:k<p.Progs.length)(g:B9)(hg:p.Progs[((k:Int)).toNat]? =some g)(og:b9h g)(H:∀b,(b=true->∀j g,j<k+1->p.Progs[j]? =some g->∀o∈g.Ops,f2x o)->Ex (fun r=>r=true->∀g∈p.Progs,∀o∈g.Ops,f2x o) (a17 ((k+1:Nat):Int) b p)):
  ∀i:Nat,∀b,(b=true->(∀j g,j<k->p.Progs[j]? =some g->∀o∈g.Ops,f2x o)/\∀j o,j<i->g.Ops[j]? =some o->f2x o)->Ex (fun r=>r=true->∀g∈p.Progs,∀o∈g.Ops,f2x o) (a5f (i:Int) (k:Int) b p):=by
 have b1:=D6 hp.np;have b2:=D6 hp.ne;have b3:=D6 og.n;have e3:((k:Int)).toNat=k:=by omega
 refine upn g.Ops.length (fun i hi ih b hA=>?_) (fun i hi b hA=>?_)
 ·refine B5 (a97 _ _ _ _) (a3s g hg (by omega) (E9 (fun _=>a3s g hg (by omega) (E5 (by omega) fun y hy hm=>?_)) fun h=>absurd (show(i:Int)<g.Ops.length by omega) h));rw[V8 (by omega)];refine ih _ fun h=>?_
  simp only[Bool.and_eq_true,decide_eq_true_eq]at h;have e2:((i:Int)).toNat=i:=by omega
  rw[e2]at hy;exact⟨(hA h.1.1).1,b28 (hA h.1.1).2 hy ⟨h.1.2,h.2⟩⟩
 ·refine B5 (a97 _ _ _ _) (a3s g hg (by omega) (E9 (fun h=>absurd h (by omega)) fun _=>?_));rw[V8 (by omega)];exact H _ fun h=>b28 (hA h).1 (by rw[<-e3];exact hg) (b94 (hA h).2 hi)
theorem g2s:∀i:Nat,∀b,(b=true->∀j g,j<i->p.Progs[j]? =some g->∀o∈g.Ops,f2x o)->Ex (fun r=>r=true->∀g∈p.Progs,∀o∈g.Ops,f2x o) (a17 (i:Int) b p):=by
 have b1:=D6 hp.np;have b2:=D6 hp.ne;have b1:=D6 hp.np;have b2:=D6 hp.ne;refine upn p.Progs.length (fun i hi ih b hA=>?_) (fun i hi b hA=>?_)
 ·obtain⟨g,hg,gm⟩:=f7d hi;exact B5 (a9x _ _ _) (E9 (fun _=>f8t p hp i hi g hg (hp.progs g gm) ih 0 b fun h=>⟨hA h,fun j o hj=>by omega⟩) fun h=>absurd (show(i:Int)<p.Progs.length by omega) h)
 ·exact B5 (a9x _ _ _) (E9 (fun h=>absurd h (by omega)) fun _=>g1f p hp _ 0 b fun h=>b94 (hA h) hi)
theorem f4u:Ex (fun r=>r=true->∀g∈p.Progs,∀o∈g.Ops,f2x o) (b80 p):=B5 (c45 _) (g2s p hp 0 true fun _ j g h=>by omega)
end
theorem f47(b:Bool)(s:ByteArray):Ex yes (a19 b s):=by
 refine B5 (c2l _ _) ?_
 repeat' first|exact D8 trivial|exact ih|assumption|refine C5 ?_|refine E9 (fun h=>?_) (fun h=>?_)|refine O6 (fun h=>?_) (fun h=>?_)|refine B3 _ (fun h=>?_) (fun h=>?_)|refine E5 (by omega) (fun y hy hm=>?_)|refine D9 (by omega) ?_
theorem f37(b:Bool)(s:ByteArray):Ex yes (a2b b s):=by
 refine B5 (c1p _ _) ?_
 repeat' first|exact D8 trivial|exact ih|assumption|exact f47 _ s|refine C5 ?_|refine E9 (fun h=>?_) (fun h=>?_)|refine O6 (fun h=>?_) (fun h=>?_)|refine B3 _ (fun h=>?_) (fun h=>?_)|refine E5 (by omega) (fun y hy hm=>?_)|refine D9 (by omega) ?_
theorem f9h(b:Bool)(s:ByteArray):Ex yes (a69 b s):=by
 refine B5 (c41 _ _) ?_
 repeat' first|exact D8 trivial|exact ih|assumption|exact f37 _ s|refine C5 ?_|refine E9 (fun h=>?_) (fun h=>?_)|refine O6 (fun h=>?_) (fun h=>?_)|refine B3 _ (fun h=>?_) (fun h=>?_)|refine E5 (by omega) (fun y hy hm=>?_)|refine D9 (by omega) ?_
theorem e9o(s:ByteArray):Ex yes (b98 s):=by
 refine B5 (d0v _) ?_
 repeat' first|exact D8 trivial|exact ih|assumption|exact f9h _ s|refine C5 ?_|refine E9 (fun h=>?_) (fun h=>?_)|refine O6 (fun h=>?_) (fun h=>?_)|refine B3 _ (fun h=>?_) (fun h=>?_)|refine E5 (by omega) (fun y hy hm=>?_)|refine D9 (by omega) ?_
theorem g2p(b:Bool)(t:Int):Ex yes (a43 b t):=by
 refine B5 (c2a _ _) ?_
 repeat' first|exact D8 trivial|exact ih|assumption|refine C5 ?_|refine E9 (fun h=>?_) (fun h=>?_)|refine O6 (fun h=>?_) (fun h=>?_)|refine B3 _ (fun h=>?_) (fun h=>?_)|refine E5 (by omega) (fun y hy hm=>?_)|refine D9 (by omega) ?_
theorem g25(b:Bool)(s:ByteArray)(t:Int):Ex yes (a2a b s t):=by
 refine B5 (c16 _ _ _) ?_
 repeat' first|exact D8 trivial|exact ih|assumption|exact g2p _ t|refine C5 ?_|refine E9 (fun h=>?_) (fun h=>?_)|refine O6 (fun h=>?_) (fun h=>?_)|refine B3 _ (fun h=>?_) (fun h=>?_)|refine E5 (by omega) (fun y hy hm=>?_)|refine D9 (by omega) ?_
theorem f9b(b:Bool)(s:ByteArray)(t:Int):Ex yes (a46 b s t):=by
 refine B5 (c1s _ _ _) ?_
 repeat' first|exact D8 trivial|exact ih|assumption|exact g25 _ s t|refine C5 ?_|refine E9 (fun h=>?_) (fun h=>?_)|refine O6 (fun h=>?_) (fun h=>?_)|refine B3 _ (fun h=>?_) (fun h=>?_)|refine E5 (by omega) (fun y hy hm=>?_)|refine D9 (by omega) ?_
theorem g04(b:Bool)(s:ByteArray)(t:Int):Ex yes (a9j b s t):=by
 refine B5 (c2r _ _ _) ?_
 repeat' first|exact D8 trivial|exact ih|assumption|exact f9b _ s t|refine C5 ?_|refine E9 (fun h=>?_) (fun h=>?_)|refine O6 (fun h=>?_) (fun h=>?_)|refine B3 _ (fun h=>?_) (fun h=>?_)|refine E5 (by omega) (fun y hy hm=>?_)|refine D9 (by omega) ?_
theorem g76(s:ByteArray)(t:Int):Ex yes (c5o s t):=by
 refine B5 (d0a _ _) ?_
 repeat' first|exact D8 trivial|exact ih|assumption|exact g04 _ s t|refine C5 ?_|refine E9 (fun h=>?_) (fun h=>?_)|refine O6 (fun h=>?_) (fun h=>?_)|refine B3 _ (fun h=>?_) (fun h=>?_)|refine E5 (by omega) (fun y hy hm=>?_)|refine D9 (by omega) ?_
theorem e8q(n:b4b)(hn:d05 n):Ex yes (c1v n):=by
 refine B5 (c8q _) ?_
 repeat' first|exact D8 trivial|exact ih|assumption|refine c28 (f3u _ _ hn.val.okv) ?_|refine C5 ?_|refine E9 (fun h=>?_) (fun h=>?_)|refine O6 (fun h=>?_) (fun h=>?_)|refine B3 _ (fun h=>?_) (fun h=>?_)|refine E5 (by omega) (fun y hy hm=>?_)|refine D9 (by omega) ?_|refine E1 (e9o _) (fun y hq=>?_)
theorem f9w(l:List b4b)(hl:Sz l.length)(hn:∀n∈l,d05 n)(t:Int):∀i:Nat,Ex yes (a45 (i:Int) l t):=by
 have b1:=D6 hl;refine upn (l.length) (fun i hi ih=>?_) (fun i hi=>?_)
 ·refine B5 (b3b _ _ _) ?_;rw[V8 (by omega)]
  repeat' first|exact D8 trivial|exact ih|assumption|rw[d1e (by omega)]|refine C5 ?_|refine E9 (fun h=>?_) (fun h=>?_)|refine O6 (fun h=>?_) (fun h=>?_)|refine B3 _ (fun h=>?_) (fun h=>?_)|refine E5 (by omega) (fun y hy hm=>?_)|refine D9 (by omega) ?_|refine E1 (e9o _) (fun y hq=>?_)|refine E1 (g76 _ _) (fun y hq=>?_)|refine E1 (e8q _ (hn _ (by assumption))) (fun y hq=>?_)
 ·refine B5 (b3b _ _ _) ?_
  repeat' first|exact D8 trivial|exact ih|assumption|rw[d1e (by omega)]|exact absurd ‹_› (by omega)|(exfalso;omega)|refine C5 ?_|refine E9 (fun h=>?_) (fun h=>?_)|refine O6 (fun h=>?_) (fun h=>?_)|refine B3 _ (fun h=>?_) (fun h=>?_)|refine E5 (by omega) (fun y hy hm=>?_)|refine D9 (by omega) ?_|refine E1 (e9o _) (fun y hq=>?_)|refine E1 (g76 _ _) (fun y hq=>?_)|refine E1 (e8q _ (hn _ (by assumption))) (fun y hq=>?_)
theorem g43(l:List b4b)(hl:Sz l.length)(hn:∀n∈l,d05 n)(t:Int):Ex yes (c1l l t):=by
 refine B5 (c71 _ _) ?_
 repeat' first|exact D8 trivial|exact ih|assumption|exact f9w l hl hn t 0|refine C5 ?_|refine E9 (fun h=>?_) (fun h=>?_)|refine O6 (fun h=>?_) (fun h=>?_)|refine B3 _ (fun h=>?_) (fun h=>?_)|refine E5 (by omega) (fun y hy hm=>?_)|refine D9 (by omega) ?_
theorem f5u(p:A6)(o:GOp):Ex (fun r=>r=true->(o.Kind=10->0<=o.Target/\o.Target<p.Progs.length/\o.Card≠3)/\(o.Kind=9->0<=o.Target/\o.Target<p.Enums.length)/\(o.Kind≠9->o.Kind≠10->o.Target= -1)) (b8j p o):=by
 refine B5 (c5t _ _) (B3 _ (fun h=>D8 fun h2=>?_) fun h=>B3 _ (fun h3=>D8 fun h2=>?_) fun h3=>D8 fun h2=>?_)
 all_goals simp only[Bool.and_eq_true,decide_eq_true_eq,bne_iff_ne,beq_iff_eq,beq_eq_false_iff_ne,ne_eq]at*
 ·exact⟨fun _=>⟨h2.1.1,h2.1.2,h2.2⟩,fun h=>by omega,fun h=>by omega⟩
 ·exact⟨fun h=>by omega,fun _=>h2,fun h=>by omega⟩
 ·exact⟨fun h=>by omega,fun h=>by omega,fun _ _=>h2⟩
theorem e8p(p:A6)(o:GOp)(b:Bool):Ex (fun r=>r=true->b=true/\(o.Kind=10->0<=o.Target/\o.Target<p.Progs.length/\o.Card≠3)/\(o.Kind=9->0<=o.Target/\o.Target<p.Enums.length)/\(o.Kind≠9->o.Kind≠10->o.Target= -1)/\(o.Union= -1\/o.Card=2)) (a2m b p o):=by
 refine B5 (b6q _ _ _) (C5 (B3 _ (fun h=>E1 (f5u p o) fun y hy=>D8 fun h2=>?_) fun h=>D8 fun h2=>?_))
 ·simp only[Bool.and_eq_true,Bool.or_eq_true,beq_iff_eq]at h2;obtain⟨a1,a2,a3⟩:=hy h2.1;exact⟨h,a1,a2,a3,h2.2⟩
 ·simp at h2
theorem g48(p:A6)(o:GOp)(ho:g54 o):Ex (fun r=>r=true->OpF p o) (b3r p o):=by
 refine B5 (c03 _ _) (c28 (d6m _ ho.alias_) (B3 _ (fun h=>D8 fun h2=>by cases h2) fun h=>B3 _ (fun h2=>e87 (e8p p o _) fun r hr h3=>?_) fun h2=>e87 (e8p p o _) fun r hr h3=>?_))
 all_goals
  obtain⟨a0,a1,a2,a3,a4⟩:=hr h3;simp only[Bool.or_eq_false_iff,decide_eq_false_iff_not,bne_iff_ne,bne_eq_false_iff_eq,ne_eq,Bool.or_eq_true,Bool.and_eq_true,decide_eq_true_eq,beq_iff_eq]at h h2 a0;refine⟨by omega,by omega,⟨fun _=>by omega,fun _=>by omega⟩,a1,a2,a3,a4⟩
def e02(o:GOp):Prop:= -1<=o.Union
theorem f4l(g:B9)(hg:b9h g):∀i:Nat,∀n:Nat,n<=i/\i<=g.Ops.length->(∀j o,j<i->g.Ops[j]? =some o->e02 o)->Ex (fun r=>r=true->∀o∈g.Ops,e02 o) (a0v (i:Int) (n:Int) g):=by
 have b1:=D6 hg.n;refine upn g.Ops.length (fun i hi ih n hn hA=>?_) (fun i hi n hn hA=>?_)
 ·have e2:((i:Int)).toNat=i:=by omega
  refine B5 (b1d _ _ _) (E9 (fun _=>E5 (by omega) fun y hy hm=>?_) fun h=>absurd (show(i:Int)<g.Ops.length by omega) h);rw[V8 (by omega),V8 (by omega)];have hy':=hy;rw[e2]at hy';refine B3 _ (fun h=>ih _ (by omega) (b28 hA hy' ?_)) fun h=>C5 ?_
  ·simp only[beq_iff_eq]at h;unfold e02;omega
  have no:∀b,(b=false->e02 y)->Ex (α:=Bool) (fun r=>r=true->∀o∈g.Ops,e02 o) (fun r=>(b=true->r=false)/\(b=false->a0v ((i+1:Nat):Int) (n:Int) g r)):=fun b hb=>B3 b (fun _=>D8 fun h=>by cases h) fun h=>ih _ (by omega) (b28 hA hy' (hb h))
  refine B3 _ (fun h2=>B3 _ (fun h3=>no _ fun h=>by cases h) fun h3=>?_) fun h2=>no _ fun _=>?_
  ·have:0<i:=by simp only[beq_eq_false_iff_ne]at h3;omega
   rw[d1e (by omega)];refine E5 (by omega) fun z hz _=>no _ fun h=>?_
   have e3:(((i - 1:Nat):Int)).toNat=i - 1:=by omega
   rw[e3]at hz;have:=hA (i - 1) z (by omega) hz;simp only[bne_eq_false_iff_eq]at h;unfold e02 at*;omega
  ·simp only[bne_eq_false_iff_eq]at h2;unfold e02;omega
 ·exact B5 (b1d _ _ _) (E9 (fun h=>absurd h (by omega)) fun _=>D8 fun _=>b94 hA hi)
theorem g5g(g:B9)(hg:b9h g):Ex (fun r=>r=true->∀o∈g.Ops,e02 o) (b8i g):=B5 (c54 _) (f4l g hg 0 0 (by omega) fun j o h=>by omega)
section
variable (p:A6) (hp:b5t p)
 include hp
def e5r(g:B9):Prop:=(∀o∈g.Ops,e02 o)/\∀o∈g.Ops,OpF p o
theorem g15(k:Nat)(hk:k<p.Progs.length)(g:B9)(hg:p.Progs[((k:Int)).toNat]? =some g)(og:b9h g)(H:∀b,(b=true->∀j g,j<k+1->p.Progs[j]? =some g->e5r p g)->Ex (fun r=>r=true->∀g∈p.Progs,e5r p g) (Y4 ((k+1:Nat):Int) b p)):
  ∀i:Nat,∀b,(b=true->(∀j g,j<k->p.Progs[j]? =some g->e5r p g)/\(∀o∈g.Ops,e02 o)/\∀j o,j<i->g.Ops[j]? =some o->OpF p o)->Ex (fun r=>r=true->∀g∈p.Progs,e5r p g) (Z1 (i:Int) b (k:Int) p):=by
 have b1:=D6 hp.np;have b2:=D6 hp.ne;have b3:=D6 og.n;have e3:((k:Int)).toNat=k:=by omega
 refine upn g.Ops.length (fun i hi ih b hA=>?_) (fun i hi b hA=>?_)
 ·refine B5 (a6l _ _ _ _) (a3s g hg (by omega) (E9 (fun _=>?_) fun h=>absurd (show(i:Int)<g.Ops.length by omega) h));rw[V8 (by omega)];refine B3 _ (fun hb=>a3s g hg (by omega) (E5 (by omega) fun y hy hm=>E1 (g48 p y (og.ops y hm)) fun z hz=>ih _ fun h=>?_)) fun hb=>ih _ fun h=>by cases h
  have e2:((i:Int)).toNat=i:=by omega
  rw[e2]at hy;exact⟨(hA hb).1,(hA hb).2.1,b28 (hA hb).2.2 hy (hz h)⟩
 ·refine B5 (a6l _ _ _ _) (a3s g hg (by omega) (E9 (fun h=>absurd h (by omega)) fun _=>?_));rw[V8 (by omega)];exact H _ fun h=>b28 (hA h).1 (by rw[<-e3];exact hg) ⟨(hA h).2.1,b94 (hA h).2.2 hi⟩
theorem e6p:∀i:Nat,∀b,(b=true->∀j g,j<i->p.Progs[j]? =some g->e5r p g)->Ex (fun r=>r=true->∀g∈p.Progs,e5r p g) (Y4 (i:Int) b p):=by
 have b1:=D6 hp.np;have b2:=D6 hp.ne;refine upn p.Progs.length (fun i hi ih b hA=>?_) (fun i hi b hA=>?_)
 ·obtain⟨g,hg,gm⟩:=f7d hi;have go:=g15 p hp i hi g hg (hp.progs g gm) ih 0;exact B5 (a6o _ _ _) (E9 (fun _=>C5 (B3 _ (fun hb=>a3s g hg (by omega) (E1 (g5g g (hp.progs g gm)) fun y hy=>go _ fun h=>⟨hA hb,hy h,fun j o hj=>by omega⟩)) fun hb=>go _ fun h=>by cases h)) fun h=>absurd (show(i:Int)<p.Progs.length by omega) h)
 ·exact B5 (a6o _ _ _) (E9 (fun h=>absurd h (by omega)) fun _=>D8 fun h=>b94 (hA h) hi)
theorem e9w(k:Nat)(hk:k<p.Enums.length)(g:W4)(hg:p.Enums[((k:Int)).toNat]? =some g)(og:c08 g)(H:∀b,Ex (fun r=>r=true->∀g∈p.Progs,e5r p g) (Y8 ((k+1:Nat):Int) b p)):∀i:Nat,∀b,Ex (fun r=>r=true->∀g∈p.Progs,e5r p g) (P6 (i:Int) b (k:Int) p):=by
 have b1:=D6 hp.np;have b2:=D6 hp.ne;have b3:=D6 og.ni;refine upn (g.Items.length) (fun i hi ih b=>?_) (fun i hi b=>?_)
 ·refine B5 (a6r _ _ _ _) ?_
  try rw[V8 (by omega)]
  repeat' first|exact D8 trivial|exact ih|assumption|exact ih _|exact H _|refine a3s g hg (by omega) ?_|rw[V8 (by omega)]|refine C5 ?_|refine E9 (fun h=>?_) (fun h=>?_)|refine O6 (fun h=>?_) (fun h=>?_)|refine B3 _ (fun h=>?_) (fun h=>?_)|refine E5 (by first|omega|(simp only[beq_iff_eq]at*;omega)) (fun y hy hm=>?_)|refine D9 (by first|omega|(simp only[beq_iff_eq]at*;omega)) ?_|refine E1 (g43 _ (og.items _ ‹_›).nn (og.items _ ‹_›).notes _) (fun y hq=>?_)
 ·refine B5 (a6r _ _ _ _) ?_
  repeat' first|exact D8 trivial|exact ih|assumption|exact ih _|exact H _|refine a3s g hg (by omega) ?_|rw[V8 (by omega)]|exact absurd ‹_› (by omega)|(exfalso;omega)|refine C5 ?_|refine E9 (fun h=>?_) (fun h=>?_)|refine O6 (fun h=>?_) (fun h=>?_)|refine B3 _ (fun h=>?_) (fun h=>?_)|refine E5 (by first|omega|(simp only[beq_iff_eq]at*;omega)) (fun y hy hm=>?_)|refine D9 (by first|omega|(simp only[beq_iff_eq]at*;omega)) ?_|refine E1 (g43 _ (og.items _ ‹_›).nn (og.items _ ‹_›).notes _) (fun y hq=>?_)
theorem g00:∀i:Nat,∀b,Ex (fun r=>r=true->∀g∈p.Progs,e5r p g) (Y8 (i:Int) b p):=by
 have b1:=D6 hp.np;have b2:=D6 hp.ne;refine upn (p.Enums.length) (fun i hi ih b=>?_) (fun i hi b=>?_)
 ·obtain⟨g,hg,gm⟩:=f7d hi;refine B5 (a6v _ _ _) ?_
  try rw[V8 (by omega)]
  repeat' first|exact D8 trivial|exact ih|assumption|exact ih _|exact e9w p hp i hi g hg (hp.enums g gm) ih 0 _|exact e6p p hp 0 _ (fun _ j g h=>by omega)|refine a3s g hg (by omega) ?_|refine C5 ?_|refine E9 (fun h=>?_) (fun h=>?_)|refine O6 (fun h=>?_) (fun h=>?_)|refine B3 _ (fun h=>?_) (fun h=>?_)|refine E5 (by omega) (fun y hy hm=>?_)|refine D9 (by omega) ?_
 ·refine B5 (a6v _ _ _) ?_
  repeat' first|exact D8 trivial|exact ih|assumption|exact ih _|exact e9w p hp i hi g hg (hp.enums g gm) ih 0 _|exact e6p p hp 0 _ (fun _ j g h=>by omega)|refine a3s g hg (by omega) ?_|exact absurd ‹_› (by omega)|(exfalso;omega)|refine C5 ?_|refine E9 (fun h=>?_) (fun h=>?_)|refine O6 (fun h=>?_) (fun h=>?_)|refine B3 _ (fun h=>?_) (fun h=>?_)|refine E5 (by omega) (fun y hy hm=>?_)|refine D9 (by omega) ?_
theorem g6u:Ex (fun r=>r=true->∀g∈p.Progs,e5r p g) (b3l p):=B5 (c02 _) (g00 p hp 0 _)
variable (hF:∀g∈p.Progs,e5r p g)
 include hF
theorem g07(k:Nat)(hk:k<p.Progs.length)(g:B9)(hg:p.Progs[((k:Int)).toNat]? =some g)(gm:g∈p.Progs)(m:Int)(c:Bool)(H:∀b (l:List Bool),l.length=p.Progs.length->Ex yes (a1y ((k+1:Nat):Int) b m p l)):
  ∀i:Nat,∀b (l:List Bool),l.length=p.Progs.length->Ex yes (a0e (i:Int) b (k:Int) c m p l):=by
 have b1:=D6 hp.np;have b2:=D6 hp.ne;have b3:=D6 (hp.progs g gm).n;refine upn g.Ops.length (fun i hi ih b l hl=>?_) (fun i hi b l hl=>?_)
 ·refine B5 (b0n _ _ _ _ _ _ _) (a3s g hg (by omega) (E9 (fun _=>a3s g hg (by omega) (E5 (by omega) fun y hy hm=>?_)) fun h=>absurd (show(i:Int)<g.Ops.length by omega) h));rw[V8 (by omega)];refine B3 _ (fun hb=>B3 _ (fun h=>ih _ l hl) fun h=>?_) fun hb=>ih _ l hl
  have h10:y.Kind=10:=by simp only[Bool.or_eq_false_iff,bne_eq_false_iff_eq]at h;exact h.2
  have ht:=((hF g gm).2 y hm).msg h10;refine D9 (by omega) (c28 (List.getElem?_eq_getElem (show y.Target.toNat<l.length by omega)) (ih _ l hl))
 ·refine B5 (b0n _ _ _ _ _ _ _) (a3s g hg (by omega) (E9 (fun h=>absurd h (by omega)) fun _=>D9 (by omega) (D9 (by omega) ?_)));rw[V8 (by omega)];exact H _ _ (by simpa using hl)
theorem g22(m:Nat)(hm:m<p.Progs.length)(H:∀b (l:List Bool),l.length=p.Progs.length->Ex yes (a25 ((m+1:Nat):Int) p b l)):
  ∀i:Nat,∀b (l:List Bool),l.length=p.Progs.length->Ex yes (a1y (i:Int) b (m:Int) p l):=by
 have b1:=D6 hp.np;refine upn p.Progs.length (fun i hi ih b l hl=>?_) (fun i hi b l hl=>?_)
 ·obtain⟨g,hg,gm⟩:=f7d hi;exact B5 (b0k _ _ _ _ _) (E9 (fun _=>g07 p hp hF i hi g hg gm m b ih 0 true l hl) fun h=>absurd (show(i:Int)<p.Progs.length by omega) h)
 ·refine B5 (b0k _ _ _ _ _) (E9 (fun h=>absurd h (by omega)) fun _=>?_);rw[V8 (by omega)];exact H _ l hl
theorem g7h:∀i:Nat,∀b (l:List Bool),l.length=p.Progs.length->Ex yes (a25 (i:Int) p b l):=by
 refine upn p.Progs.length (fun i hi ih b l hl=>?_) (fun i hi b l hl=>?_)
 ·exact B5 (b08 _ _ _ _) (E9 (fun _=>g22 p hp hF i hi ih 0 true l hl) fun h=>absurd (show(i:Int)<p.Progs.length by omega) h)
 ·exact B5 (b08 _ _ _ _) (E9 (fun h=>absurd h (by omega)) fun _=>D8 trivial)
theorem f3s:Ex yes (b9g p):=by
 have b1:=D6 hp.np;exact B5 (c5j _) (D9 (by omega) (g7h p hp hF 0 _ _ (by simp)))
end
structure f92(p:A6):Prop where
 asc:∀g∈p.Progs,Asc g.Ops g.Ops.length
 num:∀g∈p.Progs,∀o∈g.Ops,f2x o
 pro:∀g∈p.Progs,e5r p g
theorem g0a(p:A6)(hp:b5t p):Ex (fun r=>r=0->f92 p) (c2y p):=by
 have no:∀{n:Int},n≠0->Ex (α:=Int) (fun r=>r=0->f92 p) (fun r=>r=n):=fun hn=>D8 fun h=>absurd h hn
 refine B5 (c8e _) (E1 (f5v p hp) fun y1 _=>B3 _ (fun _=>no (by decide)) fun _=>?_);refine E1 (g1n p hp) fun y1 _=>B3 _ (fun _=>no (by decide)) fun _=>?_
 refine E1 (f1d p hp) fun y3 h3=>B3 _ (fun _=>no (by decide)) fun k3=>?_
 refine E1 (f4z p hp) fun y1 _=>B3 _ (fun _=>no (by decide)) fun _=>?_
 refine E1 (f4u p hp) fun y5 h5=>B3 _ (fun _=>no (by decide)) fun k5=>?_
 refine E1 (g6u p hp) fun y6 h6=>B3 _ (fun _=>no (by decide)) fun k6=>?_
 have hF:=h6 (by simpa using k6);exact E1 (f3s p hp hF) fun y1 _=>B3 _ (fun _=>no (by decide)) fun _=>D8 fun _=>⟨h3 (by simpa using k3),h5 (by simpa using k5),hF⟩
def a12(v:A0):Bool:=
 ((v.Kind !=11)&& !v.List_.isEmpty)||(((v.Kind !=12)&& !v.Pairs.isEmpty)||(((v.Kind !=10)&& !(v.Slots.isEmpty&&v.Raws.isEmpty))||
  (((v.Bits !=0)&&(((v.Kind==7)||(v.Kind==8))||((v.Kind==10)||((v.Kind==11)||(v.Kind==12)))))||(!(decide (v.Text=(⟨#[]⟩:ByteArray)))&& !((v.Kind==7)||(v.Kind==8))))))
theorem d5l{α:Type}(l:List α):decide (0<(l.length:Int))= !l.isEmpty:=by
 cases l with
 |nil=>rfl
 |cons x l=>simp
theorem f3b{α β:Type}(l:List α)(m:List β)(h:l.length<=140737488351232)(h2:m.length<=140737488351232):decide (0<wI ((l.length:Int)+(m.length:Int)))= !(l.isEmpty&&m.isEmpty):=by
 rw[wI,C9 (by omega)];cases l with
 |nil=>cases m with
  |nil=>rfl
  |cons x m=>simp
 |cons x l=>simp;omega
theorem h6s(k:Int):((decide (10<=k))&&(decide (k<=12)))=((k==10)||((k==11)||(k==12))):=by
 rw[Bool.eq_iff_iff];simp;omega
theorem c8v(v:A0)(hv:OkV v):b2b v (a12 v):=by
 refine c9s _ _ ?_;rw[d5l,d5l,f3b _ _ hv.s hv.r,h6s];unfold a12;generalize ((v.Kind !=11)&& !v.List_.isEmpty)=b1;generalize ((v.Kind !=12)&& !v.Pairs.isEmpty)=b2;generalize ((v.Kind !=10)&& !(v.Slots.isEmpty&&v.Raws.isEmpty))=b3;generalize ((v.Kind==7)||(v.Kind==8))=b4;generalize ((v.Kind==10)||((v.Kind==11)||(v.Kind==12)))=b5;generalize (v.Bits !=0)=b6;generalize (decide (v.Text=(⟨#[]⟩:ByteArray)))=b7;revert b1 b2 b3 b4 b5 b6 b7;decide
def d3v(p:A6)(kind enum:Int)(v:A0):Int:=
 if((v.Kind !=kind)||a12 v)=true then 12 else if 4096<v.Text.size then 3 else if((kind==7)&& !b1c v.Text)=true then 7 else if a64 kind v=false then 12 else if((kind==9)&& !d89 p enum v.Bits)=true then 16 else 0
theorem f73(p:A6)(hp:OkE p)(kind enum:Int)(v:A0)(hv:OkV v):a3r ⟨p⟩ kind enum v (d3v p kind enum v):=by
 refine b8d _ _ _ _ _ ⟨fun b=>b=((v.Kind !=kind)||a12 v),fun b hb=>⟨fun h=>?_,fun h=>⟨fun h2=>?_,fun h2=>⟨fun b2=>b2=((kind==7)&& !b1c v.Text),fun b2 hb2=>⟨fun h3=>?_,fun h3=>⟨_,e0j kind v hv,fun h4=>?_,fun h4=>⟨fun h5=>⟨_,c55 p hp enum v.Bits hv.b0,fun h6=>?_,fun h6=>?_⟩,fun h5=>?_⟩⟩⟩,fun h3=>⟨_,d5t _ hv.t,by rw[h3,Bool.true_and]⟩,fun h3=>by rw[h3,Bool.false_and]⟩⟩⟩,fun h=>by rw[h,Bool.true_or],fun h=>⟨_,c8v v hv,by rw[h,Bool.false_or]⟩⟩
 ·subst hb;rw[d3v,if_pos h]
 ·subst hb;rw[d3v,if_neg (nt h),if_pos (by simp at h2;omega)]
 all_goals (subst hb;have h2':¬4096<v.Text.size:=by simp at h2;omega)
 ·subst hb2;rw[d3v,if_neg (nt h),if_neg h2',if_pos h3]
 all_goals subst hb2
 ·rw[d3v,if_neg (nt h),if_neg h2',if_neg (nt h3),if_pos (by simpa using h4)]
 ·rw[d3v,if_neg (nt h),if_neg h2',if_neg (nt h3),if_neg (by simpa using h4),if_pos (by rw[h5,Bool.true_and];exact h6)]
 ·rw[d3v,if_neg (nt h),if_neg h2',if_neg (nt h3),if_neg (by simpa using h4),if_neg (by rw[h5,Bool.true_and];exact nt h6)]
 ·rw[d3v,if_neg (nt h),if_neg h2',if_neg (nt h3),if_neg (by simpa using h4),if_neg (by rw[h5,Bool.false_and];simp)]
def b8g(f:Nat->Int)(i n:Nat):Int:=if i<n then(if f i≠0 then f i else b8g f (i+1) n) else 0
 termination_by n - i
theorem c4g{J:Nat->Prop}{E:Prop}{r:Int}(f:Nat->Int)(n:Nat)(b7k:∀i,i<n->(f i≠0->r=f i)->(f i=0->J (i+1))->J i)(fin:E->J n):∀i,i<=n->(b8g f i n≠0->r=b8g f i n)->(b8g f i n=0->E)->J i:=by
 have key:∀d i,n - i<=d->i<=n->(b8g f i n≠0->r=b8g f i n)->(b8g f i n=0->E)->J i:=by
  intro d
  induction d with
  |zero=>
   intro i hd hi h1 h2;have e:i=n:=by omega
   subst e;exact fin (h2 (by rw[b8g,if_neg (by omega)]))
  |succ d ih=>
   intro i hd hi h1 h2;rcases Nat.lt_or_ge i n with hlt|hge
   ·rw[b8g,if_pos hlt]at h1 h2;refine b7k i hlt (fun h=>?_) (fun h=>?_)
    ·rw[if_pos h]at h1;exact h1 h
    ·rw[if_neg (by omega)]at h1 h2;exact ih (i+1) (by omega) (by omega) h1 h2
   ·have e:i=n:=by omega
    subst e;exact fin (h2 (by rw[b8g,if_neg (by omega)]))
 intro i;exact key _ i (Nat.le_refl _)
theorem f2u(f:Nat->Int)(i n:Nat):b8g f i n=if i<n then(if f i≠0 then f i else b8g f (i+1) n) else 0:=by rw[b8g]
theorem b8r{f:Nat->Int}{n:Nat}:∀i,b8g f i n=0->∀k,i<=k->k<n->f k=0:=by
 have key:∀d i,n - i<=d->b8g f i n=0->∀k,i<=k->k<n->f k=0:=by
  intro d
  induction d with
  |zero=>intro i hd _ k h1 h2;omega
  |succ d ih=>
   intro i hd h k h1 h2;rw[b8g,if_pos (show i<n by omega)]at h
   by_cases e:f i=0
   ·rw[if_neg (by omega)]at h;rcases Nat.lt_or_ge i k with h3|h3
    ·exact ih (i+1) (by omega) h k h3 h2
    ·have:k=i:=by omega
     rw[this];exact e
   ·rw[if_pos e]at h;exact absurd h e
 exact fun i=>key _ i (Nat.le_refl _)
theorem d5k{α:Type}(f:α->Bool):∀(l:List α) (i:Int),0<=i->decide (0<=c43 f l i)=l.any f
 |[],i,_=>by simp[c43]
 |x::l,i,hi=>by
  have ih:=d5k f l (i+1) (by omega);rw[List.any_cons,<-ih]
  by_cases h:f x=true
  ·have e:c43 f (x::l) i=i:=by simp only[c43];rw[if_pos h]
   simp only[e,h,Bool.true_or];simpa using hi
  ·have e:c43 f (x::l) i=c43 f l (i+1):=by simp only[c43];rw[if_neg h]
   simp at h;simp only[e,h,Bool.false_or]
abbrev d93:=Int->A0->Int->Int
def orE(a b:Int):Int:=if a≠0 then a else b
noncomputable def b53(M:d93)(p:A6)(o:GOp)(v:A0)(lev:Int):Int:=if o.Kind=10 then M o.Target v (lev+1) else d3v p o.Kind o.Target v
noncomputable def g2u(x:A0 × A0)(l:List (A0 × A0)):Bool:=l.any fun q=>Z4 (SizeOf.sizeOf q.1) q.1 x.1==0
noncomputable def c9y(M:d93)(p:A6)(o:GOp)(l:List (A0 × A0))(lev:Int)(i:Nat):Int:=
 match l[i]? with
 |none=>0
 |some x=>orE (d3v p o.Key (-1) x.1) (if g2u x (l.take i)=true then 9 else b53 M p o x.2 lev)
noncomputable def e39(M:d93)(p:A6)(o:GOp)(l:List A0)(lev:Int)(i:Nat):Int:=
 match l[i]? with
 |none=>0
 |some x=>b53 M p o x lev
noncomputable def a7c(M:d93)(p:A6)(o:GOp)(v:A0)(lev:Int):Int:=
 if o.Card=4 then(if((v.Kind !=11)||a12 v)=true then 12 else b8g (e39 M p o v.List_ lev) 0 v.List_.length)
 else if o.Card=5 then(if((v.Kind !=12)||a12 v)=true then 12 else b8g (c9y M p o v.Pairs lev) 0 v.Pairs.length)
 else b53 M p o v lev
noncomputable def d15(M:d93)(p:A6)(g:B9)(l:List (Int × A0))(lev:Int)(i:Nat):Int:=
 match l[i]? with
 |none=>0
 |some x=>if(opV g x.1).2=false then 8 else if((l.take i).any fun y=>y.1==x.1)=true then 9
  else if((l.take i).any fun y=>((opV g x.1).1.Union !=(-1))&&((opV g y.1).1.Union==(opV g x.1).1.Union))=true then 15 else a7c M p (opV g x.1).1 x.2 lev
def d2i(g:B9)(v:A0)(i:Nat):Int:=
 match g.Ops[i]? with
 |none=>0
 |some o=>if o.Card=1/\(v.Slots.any fun y=>y.1==o.Num)=false then 14 else 0
def f34(p:A6)(o:GOp)(f:H9):Bool:=((((o.Kind==9)&&(o.Card !=5))&&(f.Wire==0))&&(decide (f.Bits<=2147483647)))&& !d89 p o.Target f.Bits
def g2a(p:A6)(g:B9)(f:H9):Int:=
 if(((decide (f.Num<1))||(decide (65535<f.Num)))||(decide (f.Wire<0))||(decide (6<f.Wire)))=true then 1
 else if(((decide (f.Wire<=2))&& !(decide (f.Data=(⟨#[]⟩:ByteArray))))||((!(decide (f.Wire<=2)))&&(f.Bits !=0))||((opV g f.Num).2&& !f34 p (opV g f.Num).1 f))=true then 1
 else if(((f.Wire==3)&&decide (4096<(f.Data.size:Int)))||decide (65536<(f.Data.size:Int)))=true then 3 else 0
def g2k(p:A6)(g:B9)(l:List H9)(i:Nat):Int:=
 match l[i]? with
 |none=>0
 |some f=>g2a p g f
noncomputable def f2d(M:d93)(p:A6)(g:B9)(v:A0)(lev:Int):Int:=
 if((v.Kind !=10)||a12 v)=true then 12 else if 16<lev then 17
 else orE (b8g (d15 M p g v.Slots lev) 0 v.Slots.length) (orE (b8g (d2i g v) 0 g.Ops.length) (b8g (g2k p g v.Raws) 0 v.Raws.length))
noncomputable def a98(p:A6):Nat->d93
 |0,_,_,_=>0
 |n+1,t,v,lev=>match p.Progs[t.toNat]? with
  |none=>0
  |some g=>f2d (a98 p n) p g v lev
theorem e0v{num:Int}:∀{l:List GOp},(opL num l).2=true->(opL num l).1.Num=num/\(opL num l).1∈l
 |[],h=>by simp[opL]at h
 |o::l,h=>by
  by_cases e:(o.Num==num)=true
  ·have q:opL num (o::l)=(o,true):=by simp only[opL];rw[if_pos e]
   rw[q];exact⟨by simpa using e,by simp⟩
  ·have q:opL num (o::l)=opL num l:=by simp only[opL];rw[if_neg e]
   rw[q]at h ⊢;exact⟨(e0v h).1,List.mem_cons_of_mem _ (e0v h).2⟩
theorem d00{g:B9}{num:Int}(h:(opV g num).2=true):(opV g num).1.Num=num/\(opV g num).1∈g.Ops:=e0v h
theorem d8j(s:List (Int × A0))(hs:s.length<=140737488351232)(F:GFn)(f:Int × A0->Bool)(hC:∀x∈s,a6z Tryz.prog [] (.clo (.func F.fn) F.fi F.cap) [.agg (X4 x)] (.v (.bool (f x)))):N7 s F (s.any f):=
 a50 _ _ _ ⟨_,a8i _ _ _ (d82 (J:=fun i s r=>N3 i s F r) f (fun i s r hw=>a56 _ _ _ _ hw) s hs hC),(d5k f s 0 (Int.le_refl _)).symm⟩
theorem e7t(s:List (A0 × A0))(hs:s.length<=140737488351232)(F:GFn)(f:A0 × A0->Bool)(hC:∀x∈s,a6z Tryz.prog [] (.clo (.func F.fn) F.fi F.cap) [.agg (V3 x)] (.v (.bool (f x)))):W2 s F (s.any f):=
 a6f _ _ _ ⟨_,a79 _ _ _ (d82 (J:=fun i s r=>O3 i s F r) f (fun i s r hw=>a5p _ _ _ _ hw) s hs hC),(d5k f s 0 (Int.le_refl _)).symm⟩
theorem e9q(a b:A0)(ha:OkD a)(hb:OkD b):b26 a b (Z4 (SizeOf.sizeOf a) a b==0):=b77 _ _ _ ⟨_,c68 _ a b ha hb (Nat.le_refl _),rfl⟩
theorem f0l(a b:A0)(ha:OkD a)(hb:OkD b):c2x a b (Z4 (SizeOf.sizeOf a) a b==0):=c7u _ _ _ ⟨_,c2p _ a b ha hb (Nat.le_refl _),rfl⟩
theorem OkD.raws{v:A0}(h:OkD v):∀x∈v.Raws,f0e x:=by
 cases h with
 |mk _ _ _ _ _ _ _ _ _ _ _ _ _ hr _=>exact hr
structure OkX(p:A6):Prop where
 e:OkE p
 pl:b5t p
 va:f92 p
theorem c80{α:Type}(l:List α)(i:Nat)(f:α->Bool):(((l.take ((i:Int)).toNat).drop (0:Int).toNat))=l.take i:=by simp
theorem OkX.ops{p:A6}(h:OkX p){g:B9}(hg:g∈p.Progs):g.Ops.length<=140737488351232:=(h.pl.progs g hg).n
section
variable {p:A6}(hp:OkX p)
 include hp
theorem g0b(g:B9)(hg:g∈p.Progs)(f:H9)(hf:f0e f):a8v ⟨p⟩ g f (g2a p g f):=by
 have ho:=e9y g (hp.ops hg) f.Num;refine b8c _ _ _ _ ⟨_,ho,fun b=>b=f34 p (opV g f.Num).1 f,fun b hb=>⟨fun h=>?_,fun h=>⟨fun h2=>?_,fun h2=>⟨fun h3=>?_,fun h3=>?_⟩⟩⟩,fun h=>⟨_,c55 p hp.e _ _ hf.bits.1,?_⟩,fun h=>?_⟩
 ·subst hb;rw[g2a,if_pos h]
 ·subst hb;rw[g2a,if_neg (nt h),if_pos h2]
 ·subst hb;rw[g2a,if_neg (nt h),if_neg (nt h2),if_pos h3]
 ·subst hb;rw[g2a,if_neg (nt h),if_neg (nt h2),if_neg (nt h3)]
 ·rw[f34,h,Bool.true_and]
 ·rw[f34,h,Bool.false_and]
section
variable {M:d93}{B:A0->Prop}(hM:∀(t:Int) (g:B9) (v:A0) (lev:Int),p.Progs[t.toNat]? =some g->B v->1<=lev->lev<=17->P8 ⟨p⟩ g v lev (M t v lev))
 include hM
theorem d95(o:GOp)(ho:OpF p o)(v:A0)(hv:OkD v)(hb:B v)(lev:Int)(h1:1<=lev)(h2:lev<=16):a0j ⟨p⟩ o v lev (b53 M p o v lev):=by
 refine b7z _ _ _ _ _ ⟨fun h=>?_,fun h=>⟨_,f73 p hp.e _ _ v hv.okv,?_⟩⟩
 ·have hk:o.Kind=10:=by simpa using h
  obtain⟨t0,t1,_⟩:=ho.msg hk;have hlt:o.Target.toNat<p.Progs.length:=by omega
  refine⟨p.Progs[o.Target.toNat],List.getElem?_eq_getElem hlt,t0,_,hM o.Target _ v _ (List.getElem?_eq_getElem hlt) hb (by rw[wI,C9 (by omega)];omega) (by rw[wI,C9 (by omega)];omega),?_⟩;rw[b53,if_pos hk,wI,C9 (by omega)]
 ·rw[b53,if_neg (by simpa using h)]
theorem e3x(o:GOp)(ho:OpF p o)(l:List (A0 × A0))(hl:l.length<=140737488351232)(hv:∀x∈l,OkD x.1/\OkD x.2)(hb:∀x∈l,B x.2)(lev:Int)(h1:1<=lev)(h2:lev<=16):a2r ⟨p⟩ o l lev (b8g (c9y M p o l lev) 0 l.length):=by
 refine b4c _ _ _ _ _ ?_;refine c4g (J:=fun i:Nat=>W6 i l lev ⟨p⟩ o _) (E:=b8g (c9y M p o l lev) 0 l.length=0) _ l.length (fun i hi k1 k2=>?_) (fun e=>?_) 0 (by omega) (fun _=>rfl) (fun h=>h)
 ·have e1:wI ((i:Int)+1)=((i+1:Nat):Int):=by rw[wI,C9 (by omega)];omega
  have hx:=List.getElem_mem hi
  have ef:c9y M p o l lev i=orE (d3v p o.Key (-1) l[i].1) (if g2u l[i] (l.take i)=true then 9 else b53 M p o l[i].2 lev):=by
   simp only[c9y,List.getElem?_eq_getElem hi]
  rw[ef]at k1 k2;refine a13 _ _ _ _ _ _ ⟨fun _=>⟨l[i],by simp,by omega,_,f73 p hp.e _ _ _ (hv _ hx).1.okv,fun h=>?_,fun h=>⟨⟨by omega,by omega,by omega⟩,g2u l[i] (l.take i),?_,fun h3=>?_,fun h3=>⟨_,d95 hp hM o ho _ (hv _ hx).2 (hb _ hx) lev h1 h2,fun h4=>?_,fun h4=>?_⟩⟩⟩,fun h=>by simp at h;omega⟩
  ·have h':d3v p o.Key (-1) l[i].1≠0:=by simpa using h
   rw[orE,if_pos h']at k1;exact k1 h'
  ·rw[c80 l i (fun _=>true)];refine e7t _ (by simp;omega) _ _ fun x hx2=>b25 x l[i] _ (b13 _ _ _ ⟨_,e9q _ _ (hv _ (List.mem_of_mem_take hx2)).1 (hv _ hx).1,rfl⟩)
  all_goals (have h':¬d3v p o.Key (-1) l[i].1≠0:=by simpa using h)
  all_goals rw[orE,if_neg h']at k1 k2
  ·rw[if_pos h3]at k1;exact k1 (by decide)
  all_goals rw[if_neg (nt h3)]at k1 k2
  ·exact k1 (by simpa using h4)
  ·rw[e1];exact k2 (by simpa using h4)
 ·exact a13 _ _ _ _ _ _ ⟨fun h=>by simp at h,fun _=>e⟩
theorem f4k(o:GOp)(ho:OpF p o)(v:A0)(hv:OkD v)(hb:B v)(hbl:∀x∈v.List_,B x)(hbp:∀x∈v.Pairs,B x.2)(lev:Int)(h1:1<=lev)(h2:lev<=16):a52 ⟨p⟩ o v lev (a7c M p o v lev):=by
 obtain⟨_,_,⟨la,pa,sa,ra⟩,hl,hps,hs⟩:=hv.inv;refine b50 _ _ _ _ _ ⟨fun h=>⟨fun b=>b=((v.Kind !=11)||a12 v),fun b hb2=>⟨fun h3=>?_,fun h3=>?_⟩,fun h3=>by rw[h3,Bool.true_or],fun h3=>⟨_,c8v v hv.okv,by rw[h3,Bool.false_or]⟩⟩,fun h=>⟨fun h4=>⟨fun b=>b=((v.Kind !=12)||a12 v),fun b hb2=>⟨fun h3=>?_,fun h3=>⟨_,e3x hp hM o ho _ pa hps hbp lev h1 h2,?_⟩⟩,fun h3=>by rw[h3,Bool.true_or],fun h3=>⟨_,c8v v hv.okv,by rw[h3,Bool.false_or]⟩⟩,fun h4=>⟨_,d95 hp hM o ho v hv hb lev h1 h2,?_⟩⟩⟩
 ·subst hb2;rw[a7c,if_pos (by simpa using h),if_pos h3]
 ·subst hb2;rw[a7c,if_pos (by simpa using h),if_neg (nt h3)];refine c4g (J:=fun i:Nat=>Z3 i v lev ⟨p⟩ o _) (E:=b8g (e39 M p o v.List_ lev) 0 v.List_.length=0) _ v.List_.length (fun i hi k1 k2=>?_) (fun e=>?_) 0 (by omega) (fun _=>rfl) (fun h=>h)
  ·have e1:wI ((i:Int)+1)=((i+1:Nat):Int):=by have:=D6 la;rw[wI,C9 (by omega)];omega
   have hx:=List.getElem_mem hi;have ef:e39 M p o v.List_ lev i=b53 M p o v.List_[i] lev:=by simp only[e39,List.getElem?_eq_getElem hi]
   rw[ef]at k1 k2;refine a3m _ _ _ _ _ _ ⟨fun _=>⟨v.List_[i],by simp,by omega,_,d95 hp hM o ho _ (hl _ hx) (hbl _ hx) lev h1 h2,fun h4=>k1 (by simpa using h4),fun h4=>?_⟩,fun h=>by simp at h;omega⟩;rw[e1];exact k2 (by simpa using h4)
  ·exact a3m _ _ _ _ _ _ ⟨fun h=>by simp at h,fun _=>e⟩
 all_goals (have hn:¬o.Card=4:=by simpa using h)
 ·subst hb2;rw[a7c,if_neg hn,if_pos (by simpa using h4),if_pos h3]
 ·subst hb2;rw[a7c,if_neg hn,if_pos (by simpa using h4),if_neg (nt h3)]
 ·rw[a7c,if_neg hn,if_neg (by simpa using h4)]
theorem f9k(g:B9)(hg:g∈p.Progs)(l:List (Int × A0))(hl:l.length<=140737488351232)(i:Nat)(hi:i<l.length)(hv:∀x∈l,OkD x.2)(hb:∀x∈l,B x.2/\(∀y∈x.2.List_,B y)/\∀y∈x.2.Pairs,B y.2)(lev:Int)(h1:1<=lev)(h2:lev<=16):a7k ⟨p⟩ g l i lev (d15 M p g l lev i):=by
 have hx:=List.getElem_mem hi;have ho:=e9y g (hp.ops hg) l[i].1
 have ef:d15 M p g l lev i=if(opV g l[i].1).2=false then 8 else if((l.take i).any fun y=>y.1==l[i].1)=true then 9
  else if((l.take i).any fun y=>((opV g l[i].1).1.Union !=(-1))&&((opV g y.1).1.Union==(opV g l[i].1).1.Union))=true then 15 else a7c M p (opV g l[i].1).1 l[i].2 lev:=by
  simp only[d15,List.getElem?_eq_getElem hi]
 rw[ef];refine b63 _ _ _ _ _ _ ⟨l[i],by simp,by omega,_,ho,fun h=>?_,fun h=>⟨⟨by omega,by omega,by omega⟩,(l.take i).any (fun y=>y.1==l[i].1),?_,fun h3=>?_,fun h3=>⟨⟨by omega,by omega,by omega⟩,?_⟩⟩⟩
 ·rw[if_pos (by simpa using h)]
 all_goals (have hn:(opV g l[i].1).2=true:=by simpa using h)
 all_goals obtain⟨hnum,hop⟩:=d00 hn
 ·rw[c80 l i (fun _=>true)];refine d8j _ (by simp;omega) _ _ fun x hx2=>b5m x (opV g l[i].1).1 _ (b46 _ _ _ ?_)
  rw[hnum]
 all_goals rw[if_neg (by simp[hn])]
 ·rw[if_pos h3]
 rw[if_neg (nt h3)]
 have go:∀d k:Nat,i - k<=d->k<=i->((((l.take i).drop k).any fun y=>((opV g l[i].1).1.Union !=(-1))&&((opV g y.1).1.Union==(opV g l[i].1).1.Union))=((l.take i).any fun y=>((opV g l[i].1).1.Union !=(-1))&&((opV g y.1).1.Union==(opV g l[i].1).1.Union)))->W0 k l i (opV g l[i].1) lev ⟨p⟩ g (if((l.take i).any fun y=>((opV g l[i].1).1.Union !=(-1))&&((opV g y.1).1.Union==(opV g l[i].1).1.Union))=true then 15 else a7c M p (opV g l[i].1).1 l[i].2 lev):=by
  have len:(l.take i).length=i:=by simp;omega
  have fin:((((l.take i).drop i).any fun y=>((opV g l[i].1).1.Union !=(-1))&&((opV g y.1).1.Union==(opV g l[i].1).1.Union))=((l.take i).any fun y=>((opV g l[i].1).1.Union !=(-1))&&((opV g y.1).1.Union==(opV g l[i].1).1.Union)))->W0 i l i (opV g l[i].1) lev ⟨p⟩ g (if((l.take i).any fun y=>((opV g l[i].1).1.Union !=(-1))&&((opV g y.1).1.Union==(opV g l[i].1).1.Union))=true then 15 else a7c M p (opV g l[i].1).1 l[i].2 lev):=by
   intro hk;rw[List.drop_eq_nil_of_le (by omega)]at hk;refine a38 _ _ _ _ _ _ _ _ ⟨fun h=>by rw[c80 l i (fun _=>true),len]at h;simp at h,fun _=>⟨l[i],by simp,by omega,_,f4k hp hM _ ((hp.va.pro g hg).2 _ hop) _ (hv _ hx) (hb _ hx).1 (hb _ hx).2.1 (hb _ hx).2.2 lev h1 h2,?_⟩⟩;rw[if_neg (by rw[<-hk];simp)]
  intro d
  induction d with
  |zero=>
   intro k hd hk he;have e:k=i:=by omega
   subst e;exact fin he
  |succ d ih=>
   intro k hd hk he;rcases Nat.lt_or_ge k i with hlt|hge
   ·have e1:wI ((k:Int)+1)=((k+1:Nat):Int):=by rw[wI,C9 (by omega)];omega
    have hk2:k<(l.take i).length:=by omega
    have dl:(l.take i).drop k=(l.take i)[k]::(l.take i).drop (k+1):=List.drop_eq_getElem_cons hk2;rw[dl,List.any_cons]at he;refine a38 _ _ _ _ _ _ _ _ ?_;rw[c80 l i (fun _=>true)];refine⟨fun _=>⟨(l.take i)[k],by rw[Int.toNat_natCast];exact List.getElem?_eq_getElem hk2,by omega,_,e9y g (hp.ops hg) _,fun h4=>?_,fun h4=>?_⟩,fun h=>by rw[len]at h;simp at h;omega⟩
    ·rw[h4,Bool.true_or]at he;rw[<-he,if_pos rfl]
    ·rw[h4,Bool.false_or]at he;rw[e1];exact ih (k+1) (by omega) (by omega) he
   ·have e:k=i:=by omega
    subst e;exact fin he
 exact go i 0 (by omega) (by omega) (by simp)
theorem e4w(g:B9)(hg:g∈p.Progs)(v:A0)(hv:OkD v)(hb:∀x∈v.Slots,B x.2/\(∀y∈x.2.List_,B y)/\∀y∈x.2.Pairs,B y.2)(lev:Int)(h1:1<=lev)(h2:lev<=17):P8 ⟨p⟩ g v lev (f2d M p g v lev):=by
 have hv0:=hv;obtain⟨_,_,⟨la,pa,sa,ra⟩,hl,hps,hs⟩:=hv.inv;have b1:=D6 sa;have b2:=D6 ra;have b3:=hp.ops hg;refine b39 _ _ _ _ _ ⟨fun b=>b=((v.Kind !=10)||a12 v),fun b hb2=>⟨fun h3=>?_,fun h3=>⟨fun h4=>?_,fun h4=>?_⟩⟩,fun h3=>by rw[h3,Bool.true_or],fun h3=>⟨_,c8v v hv.okv,by rw[h3,Bool.false_or]⟩⟩
 ·subst hb2;rw[f2d,if_pos h3]
 ·subst hb2;rw[f2d,if_neg (nt h3),if_pos (by simpa using h4)]
 subst hb2;have h5:¬16<lev:=by simpa using h4
 rw[f2d,if_neg (nt h3),if_neg h5];refine c4g (J:=fun i:Nat=>W9 i v lev ⟨p⟩ g _) (E:=b8g (d15 M p g v.Slots lev) 0 v.Slots.length=0) (r:=orE (b8g (d15 M p g v.Slots lev) 0 v.Slots.length) (orE (b8g (d2i g v) 0 g.Ops.length) (b8g (g2k p g v.Raws) 0 v.Raws.length))) (d15 M p g v.Slots lev) v.Slots.length (fun i hi k1 k2=>?_) (fun e=>?_) 0 (by omega) (fun h=>by rw[orE,if_pos h]) (fun h=>h)
 ·have e1:wI ((i:Int)+1)=((i+1:Nat):Int):=by rw[wI,C9 (by omega)];omega
  refine a1q _ _ _ _ _ _ ⟨fun _=>⟨_,f9k hp hM g hg v.Slots sa i hi hs hb lev h1 (by omega),fun h=>k1 (by simpa using h),fun h=>by rw[e1];exact k2 (by simpa using h)⟩,fun h=>by simp at h;omega⟩
 refine a1q _ _ _ _ _ _ ⟨fun h=>by simp at h,fun _=>?_⟩;rw[orE,if_neg (by omega)];refine c4g (J:=fun i:Nat=>O9 i g ⟨p⟩ v _) (E:=b8g (d2i g v) 0 g.Ops.length=0) (r:=orE (b8g (d2i g v) 0 g.Ops.length) (b8g (g2k p g v.Raws) 0 v.Raws.length)) (d2i g v) g.Ops.length (fun i hi k1 k2=>?_) (fun e=>?_) 0 (by omega) (fun h=>by rw[orE,if_pos h]) (fun h=>h)
 ·have e1:wI ((i:Int)+1)=((i+1:Nat):Int):=by rw[wI,C9 (by omega)];omega
  have ef:d2i g v i=if g.Ops[i].Card=1/\(v.Slots.any fun y=>y.1==g.Ops[i].Num)=false then 14 else 0:=by simp only[d2i,List.getElem?_eq_getElem hi]
  rw[ef]at k1 k2;refine a09 _ _ _ _ _ ⟨fun _=>⟨g.Ops[i],by simp,by omega,fun h=>⟨_,d8j _ sa _ (fun y=>y.1==g.Ops[i].Num) (fun x hx=>b2v x g.Ops[i] _ (b1x _ _ _ rfl)),fun h6=>?_,fun h6=>?_⟩,fun h=>?_⟩,fun h=>by simp at h;omega⟩
  ·rw[if_pos ⟨by simpa using h,by simpa using h6⟩]at k1;exact k1 (by decide)
  ·rw[e1];refine k2 ?_;rw[if_neg];rintro⟨_,q⟩;simp[q]at h6
  ·rw[e1];refine k2 ?_;rw[if_neg];rintro⟨q,_⟩;simp[q]at h
 refine a09 _ _ _ _ _ ⟨fun h=>by simp at h,fun _=>?_⟩;rw[orE,if_neg (by omega)];refine c4g (J:=fun i:Nat=>V5 i v ⟨p⟩ g _) (E:=b8g (g2k p g v.Raws) 0 v.Raws.length=0) (g2k p g v.Raws) v.Raws.length (fun i hi k1 k2=>?_) (fun e=>?_) 0 (by omega) (fun _=>rfl) (fun h=>h)
 ·have e1:wI ((i:Int)+1)=((i+1:Nat):Int):=by rw[wI,C9 (by omega)];omega
  have ef:g2k p g v.Raws i=g2a p g v.Raws[i]:=by simp only[g2k,List.getElem?_eq_getElem hi]
  rw[ef]at k1 k2;refine a1a _ _ _ _ _ ⟨fun _=>⟨v.Raws[i],by simp,by omega,_,g0b hp g hg _ (hv0.raws _ (List.getElem_mem hi)),fun h=>k1 (by simpa using h),fun h=>by rw[e1];exact k2 (by simpa using h)⟩,fun h=>by simp at h;omega⟩
 ·exact a1a _ _ _ _ _ ⟨fun h=>by simp at h,fun _=>e⟩
end
end
section
variable {p:A6}(hp:OkX p)
 include hp
section
variable {M:d93}{B:A0->Prop}(hM:∀(t:Int) (g:B9) (v:A0) (lev:Int),p.Progs[t.toNat]? =some g->0<=t->B v->1<=lev->lev<=17->d5z p t v lev (M t v lev))
 include hM
end
theorem h2f{n:Nat}{v:A0}(hv:OkD v)(hn:SizeOf.sizeOf v<=n+1):∀x∈v.Slots,(OkD x.2/\SizeOf.sizeOf x.2<=n)/\(∀y∈x.2.List_,OkD y/\SizeOf.sizeOf y<=n)/\∀y∈x.2.Pairs,OkD y.2/\SizeOf.sizeOf y.2<=n:=fun x hx=>by
 obtain⟨_,_,_,_,_,hs⟩:=hv.inv;have z1:=szS hx;obtain⟨_,_,_,q1,q2,_⟩:=(hs x hx).inv;exact⟨⟨hs x hx,by omega⟩,fun y hy=>⟨q1 y hy,by have:=szL hy;omega⟩,fun y hy=>⟨(q2 y hy).2,by have:=szP hy;omega⟩⟩
theorem d97:∀(n:Nat) (t:Int) (g:B9) (v:A0) (lev:Int),p.Progs[t.toNat]? =some g->0<=t->OkD v->SizeOf.sizeOf v<=n->1<=lev->lev<=17->P8 ⟨p⟩ g v lev (a98 p n t v lev)
 |0,t,g,v,lev,_,_,_,h,_,_=>by have:=szV v;omega
 |n+1,t,g,v,lev,hgt,ht,hv,hn,h1,h2=>by
  have hg:g∈p.Progs:=List.mem_of_getElem? hgt;have e:a98 p (n+1) t v lev=f2d (a98 p n) p g v lev:=by simp only[a98,hgt]
  rw[e];refine e4w hp (B:=fun v=>OkD v/\SizeOf.sizeOf v<=n) (fun t' g' v' lev' k1 k2 k3 k4=>?_) g hg v hv (h2f hp hv hn) lev h1 h2
  by_cases h0:0<=t'
  ·exact d97 n t' g' v' lev' k1 h0 k2.1 k2.2 k3 k4
  ·have:=d97 n 0 g' v' lev' (by rw[show t'.toNat=0 by omega]at k1;exact k1) (Int.le_refl _) k2.1 k2.2 k3 k4
   have e2:a98 p n 0 v' lev'=a98 p n t' v' lev':=by
    cases n with
    |zero=>rfl
    |succ n=>simp only[a98];rw[show t'.toNat=(0:Int).toNat by omega]
   rw[<-e2];exact this
end
section
variable {α:Type}{c:α->α->Int}
theorem e3h{x y:α}{l:List α}:y∈a8a c x l↔y=x\/y∈l:=by
 rw[(b8l x l).mem_iff];simp
theorem a87:∀(l:List α),∀y∈Q7 c l,y∈l
 |[],y,h=>h
 |x::l,y,h=>by
  simp only[Q7]at h;split at h
  ·rcases e3h.1 h with h|h
   ·simp[h]
   ·exact List.mem_cons_of_mem _ (a87 l y h)
  ·exact List.mem_cons_of_mem _ (a87 l y h)
theorem b54:∀(l:List α),(Q7 c l).length<=l.length
 |[]=>by simp[Q7]
 |x::l=>by
  have:=b54 l;simp only[Q7];split
  ·rw[d4i];simp;omega
  ·simp;omega
theorem d1w(h:Tp c)(x:α):∀S:List α,(∀y∈S,c x y≠0)->S.Pairwise (fun a b=>c a b<0)->(a8a c x S).Pairwise (fun a b=>c a b<0)
 |[],_,_=>by simp[a8a]
 |y::S,hne,hs=>by
  obtain⟨hy,hS⟩:=List.pairwise_cons.1 hs;simp only[a8a];split
  ·rename_i e;refine List.pairwise_cons.2 ⟨fun z hz=>?_,d1w h x S (fun y hy=>hne y (by simp[hy])) hS⟩;rcases e3h.1 hz with h2|h2
   ·rw[h2];exact e
   ·exact hy z h2
  ·rename_i e;have s1:=h.s y x;have s2:=h.s x y;have n1:=hne y (by simp);have e2:c x y<0:=by omega
   refine List.pairwise_cons.2 ⟨fun z hz=>?_,hs⟩;rcases List.mem_cons.1 hz with h2|h2
   ·rw[h2];exact e2
   ·have q1:=hy z h2;have q2:=hne z (by simp[h2]);have:=h.t x y z (by omega) (by omega);omega
theorem g2i{x:α}{l:List α}(h:lone c x l=true):∀y∈l,c x y≠0:=fun y hy=>by
 have:=List.all_eq_true.1 h y hy;simpa using this
theorem b1z(h:Tp c):∀l:List α,(Q7 c l).Pairwise (fun a b=>c a b<0)
 |[]=>.nil
 |x::l=>by
  simp only[Q7];split
  ·rename_i e;exact d1w h x _ (fun y hy=>g2i e y (a87 l y hy)) (b1z h l)
  ·exact b1z h l
end
def NoX(v:A0):Prop:=∃m,SizeOf.sizeOf v<=m/\X5 m v=false
theorem NoX.inv{v:A0}(h:NoX v):v.Raws=[]/\(∀x∈v.Slots,NoX x.2)/\(∀x∈v.List_,NoX x)/\∀x∈v.Pairs,NoX x.2:=by
 obtain⟨m,hm,h⟩:=h;have h0:=szV v;obtain⟨n,rfl⟩:∃n,m=n+1:=⟨m - 1,by omega⟩
 simp only[X5,Bool.or_eq_false_iff,Bool.not_eq_false',List.isEmpty_iff,List.any_eq_false,Bool.not_eq_true]at h;exact⟨h.1,fun x hx=>⟨n,by have:=szS hx;omega,h.2.1 x hx⟩,fun x hx=>⟨n,by have:=szL hx;omega,h.2.2.1 x hx⟩,fun x hx=>⟨n,by have:=szP hx;omega,h.2.2.2 x hx⟩⟩
theorem c3y{α β:Type}{J:Nat->List β->Prop}{E:List β->Prop}(s:List α)(g:α->List β)
  (b7k:∀i (hi:i<s.length) acc,acc.length<=i->J (i+1) (acc++g s[i])->J i acc) (hg:∀x∈s,(g x).length<=1)
  (fin:∀acc,acc.length<=s.length->E acc->J s.length acc) (h:E (s.flatMap g)):J 0 []:=by
 have key:∀d i (acc:List β),s.length - i<=d->i<=s.length->acc.length<=i->E (acc++(s.drop i).flatMap g)->J i acc:=by
  intro d
  induction d with
  |zero=>
   intro i acc hd hi ha hE;have e:i=s.length:=by omega
   subst e;rw[List.drop_length]at hE;exact fin acc ha (by simpa using hE)
  |succ d ih=>
   intro i acc hd hi ha hE;rcases Nat.lt_or_ge i s.length with hlt|hge
   ·have dl:s.drop i=s[i]::s.drop (i+1):=List.drop_eq_getElem_cons hlt;rw[dl,List.flatMap_cons,<-List.append_assoc]at hE;refine b7k i hlt acc ha (ih (i+1) _ (by omega) (by omega) ?_ hE);have:=hg _ (List.getElem_mem hlt);simp;omega
   ·have e:i=s.length:=by omega
    subst e;rw[List.drop_length]at hE;exact fin acc ha (by simpa using hE)
 exact key s.length 0 [] (by omega) (by omega) (by simp) (by simpa using h)
theorem e1t{α β:Type}(s:List α)(g:α->List β)(hg:∀x∈s,(g x).length<=1):(s.flatMap g).length<=s.length:=by
 induction s with
 |nil=>simp
 |cons x s ih=>
  have h1:=hg x (by simp);have h2:=ih fun y hy=>hg y (by simp[hy])
  simp only[List.flatMap_cons,List.length_append,List.length_cons];omega
theorem c4j{α β:Type}(f:α->β):∀s:List α,s.flatMap (fun x=>[f x])=s.map f
 |[]=>rfl
 |x::s=>by simp[c4j f s]
abbrev d2o:=Int->A0->A0
def a3y(N:d2o)(o:GOp)(v:A0):A0:=if o.Kind=10 then N o.Target v else a0g v
noncomputable def b0a(l:List (A0 × A0)):List (A0 × A0):=Q7 (kc (SizeOf.sizeOf l)) l
noncomputable def a4b(N:d2o)(o:GOp)(v:A0):A0:=
 if o.Card=4 then⟨11,0,⟨#[]⟩,v.List_.map (a3y N o),[],[],[]⟩
 else if o.Card=5 then⟨12,0,⟨#[]⟩,[],(b0a v.Pairs).map (fun x=>(a0g x.1,a3y N o x.2)),[],[]⟩
 else a3y N o v
def d2e(o:GOp):Bool:=((o.Card==3)||(o.Card==4))||(o.Card==5)
noncomputable def a42(N:d2o)(o:GOp)(num:Int)(v:A0):List (Int × A0):=if(!d2e o|| !a7o (a4b N o v))=true then [(num,a4b N o v)] else []
noncomputable def b61(N:d2o)(g:B9)(v:A0):A0:=⟨10,0,⟨#[]⟩,[],[],(Q7 kn v.Slots).flatMap fun x=>a42 N (opV g x.1).1 x.1 x.2,sC kr v.Raws⟩
noncomputable def F7(p:A6):Nat->d2o
 |0,_,_=>⟨0,0,⟨#[]⟩,[],[],[],[]⟩
 |n+1,t,v=>match p.Progs[t.toNat]? with
  |none=>⟨0,0,⟨#[]⟩,[],[],[],[]⟩
  |some g=>b61 (F7 p n) g v
theorem c97(N:d2o)(o:GOp)(num:Int)(v:A0):(a42 N o num v).length<=1:=by
 unfold a42;split<;>simp
theorem f8i(l:List (A0 × A0))(h:∀x∈l,OkD x.1/\OkD x.2):∀x∈l,OkP (SizeOf.sizeOf l) x:=fun x hx=>by
 have:=List.sizeOf_lt_of_mem hx;refine⟨(h x hx).1,?_⟩;cases x;simp at this ⊢;omega
theorem a6p{l:List (A0 × A0)}{x:A0 × A0}(h:x∈b0a l):x∈l:=a87 l x h
theorem c0c(l:List (A0 × A0)):(b0a l).length<=l.length:=b54 l
theorem OkV.bits{v:A0}(h:OkV v):0<=v.Bits/\v.Bits<18446744073709551616:=⟨h.b0,h.b1⟩
theorem e1n{v:A0}(h:OkD v):OkD (a0g v):=by
 unfold a0g;split
 ·cases h with
  |mk _ k b t l p s r hl hk hv hn hs hr w=>exact .mk _ k (show U64 9221120237041090560 from⟨by decide,by decide⟩) t l p s r hl hk hv hn hs hr w
 ·exact h
theorem e3e{num:Int}:∀{l:List GOp},(opL num l).2=false->(opL num l).1=op0
 |[],_=>rfl
 |o::l,h=>by
  by_cases e:(o.Num==num)=true
  ·have q:opL num (o::l)=(o,true):=by simp only[opL];rw[if_pos e]
   rw[q]at h;cases h
  ·have q:opL num (o::l)=opL num l:=by simp only[opL];rw[if_neg e]
   rw[q]at h ⊢;exact e3e h
def OpG(p:A6)(o:GOp):Prop:=o.Kind=10->∃g,p.Progs[o.Target.toNat]? =some g/\0<=o.Target
theorem g4u{p:A6}(hp:OkX p){g:B9}(hg:g∈p.Progs)(num:Int):OpG p (opV g num).1:=by
 intro h;rcases Bool.eq_false_or_eq_true (opV g num).2 with q|q
 ·obtain⟨_,hop⟩:=d00 q;obtain⟨t0,t1,_⟩:=((hp.va.pro g hg).2 _ hop).msg h;have hlt:(opV g num).1.Target.toNat<p.Progs.length:=by omega
  exact⟨_,List.getElem?_eq_getElem hlt,t0⟩
 ·have:(opV g num).1=op0:=e3e q;rw[this]at h;exact absurd h (by decide)
section
variable {p:A6}(hp:OkX p)
 include hp
section
variable {N:d2o}{B:A0->Prop}(hN:∀(t:Int) (g:B9) (v:A0),p.Progs[t.toNat]? =some g->0<=t->B v->b2h p t v (N t v))
 include hN
theorem d4o(o:GOp)(ho:OpG p o)(v:A0)(hv:OkD v)(hb:B v):a65 p o v (a3y N o v):=by
 refine c27 _ _ _ _ ⟨fun h=>?_,fun h=>⟨_,d4g v hv.okv.bits,?_⟩⟩
 ·have hk:o.Kind=10:=by simpa using h
  obtain⟨g,hg,t0⟩:=ho hk;exact⟨_,hN _ g v hg t0 hb,by rw[a3y,if_pos hk]⟩
 ·rw[a3y,if_neg (by simpa using h)]
theorem f4h(o:GOp)(ho:OpG p o)(v:A0)(hv:OkD v)(hb:B v)(hbl:∀x∈v.List_,B x)(hbp:∀x∈v.Pairs,B x.2):b49 p o v (a4b N o v):=by
 obtain⟨_,_,⟨la,pa,sa,ra⟩,hl,hps,hs⟩:=hv.inv;have b1:=D6 la;have b2:=D6 pa;have w1:=D6 hv.w.1;have w2:=D6 hv.w.2.1;refine c21 _ _ _ _ ⟨fun h=>?_,fun h=>⟨fun h4=>⟨_,f27 _ v.Pairs (by omega) (f8i _ hps),?_⟩,fun h4=>⟨_,d4o hp hN o ho v hv hb,?_⟩⟩⟩
 ·have hc:o.Card=4:=by simpa using h
  refine c3y (J:=fun i acc=>a3q i v p o acc _) (E:=fun acc=>a4b N o v=⟨11,0,⟨#[]⟩,acc,[],[],[]⟩) v.List_ (fun x=>[a3y N o x]) (fun i hi acc ha hj=>?_) (fun x hx=>by simp) (fun acc ha he=>?_) ?_
  ·have e1:wI ((i:Int)+1)=((i+1:Nat):Int):=by rw[wI,C9 (by omega)];omega
   have hx:=List.getElem_mem hi;refine a8p _ _ _ _ _ _ ⟨fun _=>⟨v.List_[i],by simp,by omega,_,d4o hp hN o ho _ (hl _ hx) (hbl _ hx),by simp;omega,?_⟩,fun h=>by simp at h;omega⟩;rw[e1];exact hj
  ·exact a8p _ _ _ _ _ _ ⟨fun h=>by simp at h,fun _=>he⟩
  ·rw[c4j,a4b,if_pos hc]
 ·have hc:o.Card=5:=by simpa using h4
  have hc4:¬o.Card=4:=by simpa using h
  have b3:=c0c v.Pairs;refine c3y (J:=fun i acc=>a31 i (b0a v.Pairs) p o acc _) (E:=fun acc=>a4b N o v=⟨12,0,⟨#[]⟩,[],acc,[],[]⟩) (b0a v.Pairs) (fun x=>[(a0g x.1,a3y N o x.2)]) (fun i hi acc ha hj=>?_) (fun x hx=>by simp) (fun acc ha he=>?_) ?_
  ·have e1:wI ((i:Int)+1)=((i+1:Nat):Int):=by rw[wI,C9 (by omega)];omega
   have hx:=a6p (List.getElem_mem hi);refine a8j _ _ _ _ _ _ ⟨fun _=>⟨(b0a v.Pairs)[i],by simp,by omega,_,d4g _ (hps _ hx).1.okv.bits,_,d4o hp hN o ho _ (hps _ hx).2 (hbp _ hx),by simp;omega,?_⟩,fun h=>by simp at h;omega⟩;rw[e1];exact hj
  ·exact a8j _ _ _ _ _ _ ⟨fun h=>by simp at h,fun _=>he⟩
  ·rw[c4j,a4b,if_neg hc4,if_pos hc]
 ·rw[a4b,if_neg (by simpa using h),if_neg (by simpa using h4)]
theorem c82(hNok:∀t v,OkD v->OkD (N t v))(o:GOp)(v:A0)(hv:OkD v):OkD (a4b N o v):=by
 have key:∀v,OkD v->OkD (a3y N o v):=fun v hv=>by
  unfold a3y;split
  ·exact hNok _ _ hv
  ·exact e1n hv
 obtain⟨_,_,⟨la,pa,sa,ra⟩,hl,hps,hs⟩:=hv.inv;obtain⟨w1,w2,_,_⟩:=hv.w;have z:Sz 0:=Nat.zero_le _;have b3:=c0c v.Pairs;unfold a4b;split
 ·refine .mk _ (show I64 11 from⟨by decide,by decide⟩) (show U64 0 from⟨by decide,by decide⟩) z (by simpa using la) z z z (fun x hx=>?_) (fun x hx=>by cases hx) (fun x hx=>by cases hx) (fun x hx=>by cases hx) (fun x hx=>by cases hx) (fun x hx=>by cases hx) ⟨by simpa using w1,z,z,z⟩;obtain⟨y,hy,rfl⟩:=List.mem_map.1 hx;exact key y (hl y hy)
 split
 ·refine .mk _ (show I64 12 from⟨by decide,by decide⟩) (show U64 0 from⟨by decide,by decide⟩) z z ?_ z z (fun x hx=>by cases hx) (fun x hx=>?_) (fun x hx=>?_) (fun x hx=>by cases hx) (fun x hx=>by cases hx) (fun x hx=>by cases hx) ⟨z,?_,z,z⟩
  ·simp only[List.length_map];exact Nat.le_trans b3 pa
  ·obtain⟨y,hy,rfl⟩:=List.mem_map.1 hx;exact e1n (hps y (a6p hy)).1
  ·obtain⟨y,hy,rfl⟩:=List.mem_map.1 hx;exact key _ (hps y (a6p hy)).2
  ·simp only[List.length_map];exact Nat.le_trans (Nat.mul_le_mul_right _ b3) w2
 ·exact key v hv
theorem f4i(hNok:∀t v,OkD v->OkD (N t v))(t:Int)(ht:0<=t)(g:B9)(hgt:p.Progs[t.toNat]? =some g)(v:A0)(hv:OkD v)(hX:v.Raws=[])(hb:∀x∈v.Slots,B x.2/\(∀y∈x.2.List_,B y)/\∀y∈x.2.Pairs,B y.2):b2h p t v (b61 N g v):=by
 have hg:g∈p.Progs:=List.mem_of_getElem? hgt;have hlt:t.toNat<p.Progs.length:=(List.getElem?_eq_some_iff.1 hgt).1;obtain⟨_,_,⟨la,pa,sa,ra⟩,hl,hps,hs⟩:=hv.inv;have b1:=D6 sa;have w3:=D6 hv.w.2.2.1;have w4:=D6 hv.w.2.2.2;have b3:=b54 (c:=kn) v.Slots;have so:=f13 v.Slots (by omega);have off:((decide (t<0))||(decide ((p.Progs.length:Int)<=t)))=false:=by simp;omega
 have may:∀(o:GOp),d2e o=(((o.Card==3)||(o.Card==4))||(o.Card==5)):=fun _=>rfl
 refine d2t _ _ _ _ ⟨fun h0=>⟨b38 _ _ fun b hbb=>⟨fun _=>rfl,fun _=>⟨by rw[h0];simp,by rw[h0];rfl⟩⟩,fun h=>(by rw[off]at h;cases h),fun _=>⟨_,so,?_⟩⟩,fun h0=>absurd hX h0⟩
 ·refine c3y (J:=fun i acc=>a91 i (Q7 kn v.Slots) t p acc _) (E:=fun acc=>b61 N g v=⟨10,0,⟨#[]⟩,[],[],acc,[]⟩) (Q7 kn v.Slots) (fun x=>a42 N (opV g x.1).1 x.1 x.2) (fun i hi acc ha hj=>?_) (fun x hx=>c97 _ _ _ _) (fun acc ha he=>?_) ?_
  ·have e1:wI ((i:Int)+1)=((i+1:Nat):Int):=by rw[wI,C9 (by omega)];omega
   have hx:=a87 _ _ (List.getElem_mem hi);have oz:=c82 hp hN hNok (opV g (Q7 kn v.Slots)[i].1).1 _ (hs _ hx);refine b52 _ _ _ _ _ _ ⟨fun _=>⟨(Q7 kn v.Slots)[i],by simp,by omega,g,hgt,ht,_,e9y g (hp.ops hg) _,_,f4h hp hN _ (g4u hp hg _) _ (hs _ hx) (hb _ hx).1 (hb _ hx).2.1 (hb _ hx).2.2,fun b=>b=(!d2e (opV g (Q7 kn v.Slots)[i].1).1|| !a7o (a4b N (opV g (Q7 kn v.Slots)[i].1).1 (Q7 kn v.Slots)[i].2)),fun b hbb=>⟨fun h=>?_,fun h=>?_⟩,fun h=>?_,fun h=>⟨_,f3c _ oz.okv,?_⟩⟩,fun h=>by simp at h;omega⟩
   ·subst hbb;refine⟨by simp;omega,?_⟩;rw[a42,if_pos h]at hj;rw[e1];exact hj
   ·subst hbb;rw[a42,if_neg (nt h)]at hj;rw[e1];simpa using hj
   ·rw[may,h,Bool.true_or]
   ·rw[may,h,Bool.false_or]
  ·exact b52 _ _ _ _ _ _ ⟨fun h=>by simp at h,fun _=>⟨a4k _,he⟩⟩
  ·rw[b61,h0];rfl
theorem f33(hNok:∀t v,OkD v->OkD (N t v))(g:B9)(v:A0)(hv:OkD v):OkD (b61 N g v):=by
 have z:Sz 0:=Nat.zero_le _;obtain⟨_,_,⟨la,pa,sa,ra⟩,hl,hps,hs⟩:=hv.inv;obtain⟨_,_,w3,w4⟩:=hv.w;have hlen:((Q7 kn v.Slots).flatMap fun x=>a42 N (opV g x.1).1 x.1 x.2).length<=v.Slots.length:=Nat.le_trans (e1t _ _ fun x hx=>c97 _ _ _ _) (b54 _);have hr:(sC kr v.Raws).length=v.Raws.length:=(c95 v.Raws).length_eq;have hi:∀x∈v.Slots,I64 x.1:=by cases hv with|mk _ _ _ _ _ _ _ _ _ _ _ hn _ _ _=>exact hn
 have mem:∀x∈(Q7 kn v.Slots).flatMap fun x=>a42 N (opV g x.1).1 x.1 x.2,I64 x.1/\OkD x.2:=fun x hx=>by
  obtain⟨y,hy,h⟩:=List.mem_flatMap.1 hx;unfold a42 at h;split at h
  ·have:=List.mem_singleton.1 h;subst this;have hy':=a87 _ _ hy;exact⟨hi y hy',c82 hp hN hNok _ _ (hs y hy')⟩
  ·cases h
 refine .mk _ (show I64 10 from⟨by decide,by decide⟩) (show U64 0 from⟨by decide,by decide⟩) z z z (Nat.le_trans hlen sa) (show Sz (sC kr v.Raws).length by rw[hr];exact ra) (fun x hx=>by cases hx) (fun x hx=>by cases hx) (fun x hx=>by cases hx) (fun x hx=>(mem x hx).1) (fun x hx=>(mem x hx).2) (fun x hx=>hv.raws x ((c95 v.Raws).mem_iff.1 hx)) ⟨z,z,Nat.le_trans (Nat.mul_le_mul_right _ hlen) w3,show Sz ((sC kr v.Raws).length*40) by rw[hr];exact w4⟩
end
theorem e05:OkD ⟨0,0,⟨#[]⟩,[],[],[],[]⟩:=by
 have z:Sz 0:=Nat.zero_le _;exact .mk _ ⟨by decide,by decide⟩ ⟨by decide,by decide⟩ z z z z z (fun x hx=>by cases hx) (fun x hx=>by cases hx) (fun x hx=>by cases hx) (fun x hx=>by cases hx) (fun x hx=>by cases hx) (fun x hx=>by cases hx) ⟨z,z,z,z⟩
theorem c22:∀(n:Nat),(∀(t:Int) (g:B9) (v:A0),p.Progs[t.toNat]? =some g->0<=t->OkD v/\SizeOf.sizeOf v<=n/\NoX v->b2h p t v (F7 p n t v))/\∀t v,OkD v->OkD (F7 p n t v)
 |0=>⟨fun t g v _ _ h=>by have:=szV v;omega,fun t v _=>e05 hp⟩
 |n+1=>by
  obtain⟨h1,h2⟩:=c22 n;refine⟨fun t g v hgt ht ⟨hv,hn,hX⟩=>?_,fun t v hv=>?_⟩
  ·obtain⟨_,_,_,_,_,hs⟩:=hv.inv;obtain⟨x1,x2,_,_⟩:=hX.inv
   have hB:∀x∈v.Slots,(OkD x.2/\SizeOf.sizeOf x.2<=n/\NoX x.2)/\(∀y∈x.2.List_,OkD y/\SizeOf.sizeOf y<=n/\NoX y)/\∀y∈x.2.Pairs,OkD y.2/\SizeOf.sizeOf y.2<=n/\NoX y.2:=fun x hx=>by
    have z1:=szS hx;obtain⟨_,_,_,q1,q2,_⟩:=(hs x hx).inv;obtain⟨_,_,y2,y3⟩:=(x2 x hx).inv;exact⟨⟨hs x hx,by omega,x2 x hx⟩,fun y hy=>⟨q1 y hy,by have:=szL hy;omega,y2 y hy⟩,fun y hy=>⟨(q2 y hy).2,by have:=szP hy;omega,y3 y hy⟩⟩
   have e:F7 p (n+1) t v=b61 (F7 p n) g v:=by simp only[F7,hgt]
   rw[e];exact f4i hp h1 h2 t ht g hgt v hv x1 hB
  ·simp only[F7];split
   ·exact e05 hp
   ·exact f33 hp h1 h2 _ v hv
theorem f46(n:Nat)(t:Int)(g:B9)(v:A0)(hgt:p.Progs[t.toNat]? =some g)(ht:0<=t)(hv:OkD v)(hn:SizeOf.sizeOf v<=n)(hX:NoX v):b2h p t v (F7 p n t v):=(c22 hp n).1 t g v hgt ht ⟨hv,hn,hX⟩
theorem c3l(n:Nat)(t:Int)(v:A0)(hv:OkD v):OkD (F7 p n t v):=(c22 hp n).2 t v hv
end
theorem c0d{α β:Type}{s:List α}{f g:α->List β}(h:∀x∈s,f x=g x):s.flatMap f=s.flatMap g:=by
 induction s with
 |nil=>rfl
 |cons x s ih=>rw[List.flatMap_cons,List.flatMap_cons,h x (by simp),ih fun y hy=>h y (by simp[hy])]
section
variable {β:Type}(G:GOp->Int × A0->List β)
def c5x(l:List (Int × A0))(o:GOp):List β:=l.flatMap fun x=>if x.1=o.Num then G o x else []
theorem b9d{l:List (Int × A0)}{o:GOp}(h:∀x∈l,x.1≠o.Num):c5x G l o=[]:=by
 unfold c5x;rw[List.flatMap_eq_nil_iff];intro x hx;rw[if_neg (h x hx)]
def g6b(l:List (Int × A0)):Prop:=l.Pairwise fun x y=>x.1≠y.1
theorem e7e{l m:List (Int × A0)}(h:l.Perm m)(hd:g6b l)(o:GOp):c5x G l o=c5x G m o:=by
 induction h with
 |nil=>rfl
 |cons x h ih=>
  have:=ih (List.pairwise_cons.1 hd).2;unfold c5x at this ⊢;rw[List.flatMap_cons,List.flatMap_cons,this]
 |swap x y l=>
  have h1:=(List.pairwise_cons.1 hd).1 x (by simp);unfold c5x;simp only[List.flatMap_cons]
  by_cases e:y.1=o.Num
  ·rw[if_neg (show ¬x.1=o.Num by omega)];simp
  ·rw[if_neg e];simp
 |trans h1 h2 ih1 ih2=>exact(ih1 hd).trans (ih2 (h1.pairwise hd fun h=>h.symm))
theorem e8c:∀(ops:List GOp) (S:List (Int × A0)),ops.Pairwise (fun a b=>a.Num<b.Num)->S.Pairwise (fun x y=>x.1<y.1)->(∀x∈S,∃o∈ops,o.Num=x.1)->ops.flatMap (c5x G S)=S.flatMap fun x=>G (opL x.1 ops).1 x
 |[],S,_,_,hs=>by
  cases S with
  |nil=>rfl
  |cons x S=>obtain⟨o,ho,_⟩:=hs x (by simp);cases ho
 |o::ops,S,hops,hS,hs=>by
  obtain⟨h1,h2⟩:=List.pairwise_cons.1 hops;cases S with
  |nil=>simp[c5x]
  |cons x S=>
   obtain⟨h3,h4⟩:=List.pairwise_cons.1 hS;rw[List.flatMap_cons]
   by_cases e:x.1=o.Num
   ·have hin:∀y∈S,∃q∈ops,q.Num=y.1:=fun y hy=>by
     obtain⟨q,hq,hn⟩:=hs y (by simp[hy]);rcases List.mem_cons.1 hq with h5|h5
     ·rw[h5]at hn;have:=h3 y hy;omega
     ·exact⟨q,h5,hn⟩
    have ih:=e8c ops S h2 h4 hin
    have e1:c5x G (x::S) o=G o x:=by
     have:c5x G S o=[]:=b9d G fun y hy=>by have:=h3 y hy;omega
     unfold c5x at this ⊢;rw[List.flatMap_cons,this,if_pos e,List.append_nil]
    have e2:ops.flatMap (c5x G (x::S))=ops.flatMap (c5x G S):=by
     refine c0d fun q hq=>?_
     have:=h1 q hq;unfold c5x;rw[List.flatMap_cons,if_neg (by omega),List.nil_append]
    rw[e1,e2,ih,List.flatMap_cons];have e3:opL x.1 (o::ops)=(o,true):=by simp only[opL];rw[if_pos (by simp[e])]
    rw[e3]
    congr 1
    refine c0d fun y hy=>?_
    have:=h3 y hy;simp only[opL];rw[if_neg (by simp;omega)]
   ·have hin:∀y∈x::S,∃q∈ops,q.Num=y.1:=fun y hy=>by
     obtain⟨q0,hq0,hn0⟩:=hs x (by simp)
     have hx:o.Num<x.1:=by
      rcases List.mem_cons.1 hq0 with h5|h5
      ·rw[h5]at hn0;omega
      ·have:=h1 q0 h5;omega
     obtain⟨q,hq,hn⟩:=hs y hy;rcases List.mem_cons.1 hq with h5|h5
     ·rw[h5]at hn;rcases List.mem_cons.1 hy with h6|h6
      ·rw[h6]at hn;omega
      ·have:=h3 y h6;omega
     ·exact⟨q,h5,hn⟩
    have hne:∀y∈x::S,y.1≠o.Num:=fun y hy=>by
     obtain⟨q,hq,hn⟩:=hin y hy;have:=h1 q hq;omega
    have ih:=e8c ops (x::S) h2 hS hin;rw[b9d G hne,List.nil_append,ih];refine c0d fun y hy=>?_
    have:=hne y hy;simp only[opL];rw[if_neg (by simp;omega)]
end
theorem d0f{α:Type}{c:α->α->Int}:∀(l:List α),l.Pairwise (fun x y=>c x y≠0)->(Q7 c l).Perm l
 |[],_=>.refl _
 |x::l,h=>by
  obtain⟨h1,h2⟩:=List.pairwise_cons.1 h
  have:lone c x l=true:=by
   rw[lone,List.all_eq_true];intro y hy;simpa using h1 y hy
  simp only[Q7];rw[if_pos this];exact(b8l x _).trans ((d0f l h2).cons x)
theorem b8m{β:Type}(G:GOp->Int × A0->List β)(ops:List GOp)(l:List (Int × A0))(hops:ops.Pairwise (fun a b=>a.Num<b.Num))(hd:g6b l)(hs:∀x∈l,∃o∈ops,o.Num=x.1):ops.flatMap (c5x G l)=(Q7 kn l).flatMap fun x=>G (opL x.1 ops).1 x:=by
 have hp:(Q7 kn l).Perm l:=d0f l (hd.imp fun {x y} h=>d4u.2 h)
 have hS:(Q7 kn l).Pairwise (fun x y=>x.1<y.1):=(b1z f12 l).imp fun {x y} h=>by
  rcases P9 x.1 y.1 with q|q|q<;>simp only[kn]at h<;>omega
 rw[<-e8c G ops (Q7 kn l) hops hS fun x hx=>hs x (hp.mem_iff.1 hx)];exact c0d fun o _=>e7e G hp.symm hd o
theorem b90{l:List GOp}(h:Asc l l.length):l.Pairwise fun a b=>a.Num<b.Num:=by
 rw[List.pairwise_iff_getElem]
 have key:∀d i (hi:i<l.length) (hj:i+d+1<l.length),l[i].Num<l[i+d+1].Num:=by
  intro d
  induction d with
  |zero=>intro i hi hj;exact h i _ _ hj (List.getElem?_eq_getElem hi) (List.getElem?_eq_getElem hj)
  |succ d ih=>
   intro i hi hj;have h1:=ih i hi (by omega);have h2:=h (i+d+1) _ _ (by omega) (List.getElem?_eq_getElem (by omega)) (List.getElem?_eq_getElem (show i+d+1+1<l.length by omega));have e:l[i+(d+1)+1]=l[i+d+1+1]:=rfl;rw[e];omega
 intro i j hi hj hij;have:=key (j - i - 1) i hi (by omega);have e:i+(j - i - 1)+1=j:=by omega
 simp only[e]at this;exact this
theorem b9y{a b:Int}(h:orE a b=0):a=0/\b=0:=by
 unfold orE at h;split at h
 ·rename_i q;exact absurd h q
 ·rename_i q;exact⟨by omega,h⟩
structure h4v(M:d93)(p:A6)(g:B9)(v:A0)(lev:Int):Prop where
 kind:v.Kind=10
 other:a12 v=false
 deep:lev<=16
 known:∀x∈v.Slots,(opV g x.1).2=true
 diff:g6b v.Slots
 field:∀x∈v.Slots,a7c M p (opV g x.1).1 x.2 lev=0
 need:∀o∈g.Ops,o.Card=1->∃x∈v.Slots,x.1=o.Num
theorem d94{M:d93}{p:A6}{g:B9}{v:A0}{lev:Int}(h:f2d M p g v lev=0):h4v M p g v lev:=by
 unfold f2d at h;split at h
 ·exact absurd h (by decide)
 rename_i h1;split at h
 ·exact absurd h (by decide)
 rename_i h2;obtain⟨h3,h4⟩:=b9y h;obtain⟨h5,h6⟩:=b9y h4;have h1':v.Kind=10/\a12 v=false:=by simpa using h1
 have sl:=fun i hi=>b8r 0 h3 i (Nat.zero_le _) hi
 have sl2:∀i (hi:i<v.Slots.length),(opV g v.Slots[i].1).2=true/\((v.Slots.take i).any fun y=>y.1==v.Slots[i].1)=false/\a7c M p (opV g v.Slots[i].1).1 v.Slots[i].2 lev=0:=by
  intro i hi;have:=sl i hi;simp only[d15,List.getElem?_eq_getElem hi]at this;split at this
  ·exact absurd this (by decide)
  rename_i q1;split at this
  ·exact absurd this (by decide)
  rename_i q2;split at this
  ·exact absurd this (by decide)
  exact⟨by simpa using q1,(by revert q2;cases ((v.Slots.take i).any fun y=>y.1==v.Slots[i].1)<;>simp),this⟩
 refine⟨h1'.1,h1'.2,by omega,fun x hx=>?_,?_,fun x hx=>?_,fun o ho hc=>?_⟩
 ·obtain⟨i,hi,rfl⟩:=List.mem_iff_getElem.1 hx;exact(sl2 i hi).1
 ·unfold g6b;rw[List.pairwise_iff_getElem];intro i j hi hj hij e;have:=(sl2 j hj).2.1;rw[List.any_eq_false]at this
  have hm:v.Slots[i]∈v.Slots.take j:=by
   rw[List.mem_take_iff_getElem];exact⟨i,by omega,rfl⟩
  exact this _ hm (by simpa using e)
 ·obtain⟨i,hi,rfl⟩:=List.mem_iff_getElem.1 hx;exact(sl2 i hi).2.2
 ·obtain⟨i,hi,rfl⟩:=List.mem_iff_getElem.1 ho;have:=b8r 0 h5 i (Nat.zero_le _) hi;simp only[d2i,List.getElem?_eq_getElem hi]at this;split at this
  ·exact absurd this (by decide)
  rename_i q;rcases Bool.eq_false_or_eq_true (v.Slots.any fun y=>y.1==g.Ops[i].Num) with r|r
  ·obtain⟨x,hx,hn⟩:=List.any_eq_true.1 r;exact⟨x,hx,by simpa using hn⟩
  ·exact absurd ⟨hc,r⟩ q
theorem c1w{M:d93}{p:A6}{o:GOp}{v:A0}{lev:Int}(h:a7c M p o v lev=0):
  (o.Card=4->v.Kind=11/\a12 v=false/\∀x∈v.List_,b53 M p o x lev=0)/\(o.Card=5->v.Kind=12/\a12 v=false/\(∀x∈v.Pairs,d3v p o.Key (-1) x.1=0/\b53 M p o x.2 lev=0)/\v.Pairs.Pairwise fun x y=>Z4 (SizeOf.sizeOf x.1) x.1 y.1≠0)/\(o.Card≠4->o.Card≠5->b53 M p o v lev=0):=by
 unfold a7c at h;refine⟨fun hc=>?_,fun hc=>?_,fun h4 h5=>?_⟩
 ·rw[if_pos hc]at h;split at h
  ·exact absurd h (by decide)
  rename_i q;have q':v.Kind=11/\a12 v=false:=by simpa using q
  refine⟨q'.1,q'.2,fun x hx=>?_⟩;obtain⟨i,hi,rfl⟩:=List.mem_iff_getElem.1 hx;have:=b8r 0 h i (Nat.zero_le _) hi;simpa only[e39,List.getElem?_eq_getElem hi]using this
 ·rw[if_neg (by omega),if_pos hc]at h;split at h
  ·exact absurd h (by decide)
  rename_i q;have q':v.Kind=12/\a12 v=false:=by simpa using q
  have en:∀i (hi:i<v.Pairs.length),d3v p o.Key (-1) v.Pairs[i].1=0/\g2u v.Pairs[i] (v.Pairs.take i)=false/\b53 M p o v.Pairs[i].2 lev=0:=fun i hi=>by
   have:=b8r 0 h i (Nat.zero_le _) hi;simp only[c9y,List.getElem?_eq_getElem hi]at this;obtain⟨a,b⟩:=b9y this;split at b
   ·exact absurd b (by decide)
   rename_i k;exact⟨a,by simpa using k,b⟩
  refine⟨q'.1,q'.2,fun x hx=>?_,?_⟩
  ·obtain⟨i,hi,rfl⟩:=List.mem_iff_getElem.1 hx;exact⟨(en i hi).1,(en i hi).2.2⟩
  ·rw[List.pairwise_iff_getElem];intro i j hi hj hij e;have:=(en j hj).2.1;rw[g2u,List.any_eq_false]at this
   have hm:v.Pairs[i]∈v.Pairs.take j:=by
    rw[List.mem_take_iff_getElem];exact⟨i,by omega,rfl⟩
   exact this _ hm (by simpa using e)
 ·rw[if_neg h4,if_neg h5]at h;exact h
section
variable {p:A6}(hp:OkX p)
 include hp
section
variable {N:d2o}{B:Int->A0->Prop}(hN:∀(t:Int) (g:B9) (v:A0),p.Progs[t.toNat]? =some g->0<=t->B t v->a6q p t v (N t v))
 include hN
theorem d0d(o:GOp)(ho:OpG p o)(v:A0)(hv:OkD v)(hb:o.Kind=10->B o.Target v):b0u p o v (a3y N o v):=by
 refine c50 _ _ _ _ ⟨fun h=>?_,fun h=>⟨_,e0y v hv.okv.bits,?_⟩⟩
 ·have hk:o.Kind=10:=by simpa using h
  obtain⟨g,hg,t0⟩:=ho hk;exact⟨_,hN _ g v hg t0 (hb hk),by rw[a3y,if_pos hk]⟩
 ·rw[a3y,if_neg (by simpa using h)]
theorem e6a(o:GOp)(ho:OpG p o)(v:A0)(hv:OkD v)(hb:o.Card≠4->o.Card≠5->o.Kind=10->B o.Target v)(hbl:o.Card=4->o.Kind=10->∀x∈v.List_,B o.Target x)(hbp:o.Card=5->o.Kind=10->∀x∈v.Pairs,B o.Target x.2):b9p p o v (a4b N o v):=by
 obtain⟨_,_,⟨la,pa,sa,ra⟩,hl,hps,hs⟩:=hv.inv;have b1:=D6 la;have b2:=D6 pa;have w1:=D6 hv.w.1;have w2:=D6 hv.w.2.1;refine c44 _ _ _ _ ⟨fun h=>?_,fun h=>⟨fun h4=>⟨_,e6k _ v.Pairs (by omega) (f8i _ hps),?_⟩,fun h4=>⟨_,d0d hp hN o ho v hv (hb (by simpa using h) (by simpa using h4)),?_⟩⟩⟩
 ·have hc:o.Card=4:=by simpa using h
  refine c3y (J:=fun i acc=>a7m i p o v acc _) (E:=fun acc=>a4b N o v=⟨11,0,⟨#[]⟩,acc,[],[],[]⟩) v.List_ (fun x=>[a3y N o x]) (fun i hi acc ha hj=>?_) (fun x hx=>by simp) (fun acc ha he=>?_) ?_
  ·have e1:wI ((i:Int)+1)=((i+1:Nat):Int):=by rw[wI,C9 (by omega)];omega
   have hx:=List.getElem_mem hi;refine b1k _ _ _ _ _ _ ⟨fun _=>⟨v.List_[i],by simp,by omega,_,d0d hp hN o ho _ (hl _ hx) (fun hk=>hbl hc hk _ hx),by simp;omega,?_⟩,fun h=>by simp at h;omega⟩;rw[e1];exact hj
  ·exact b1k _ _ _ _ _ _ ⟨fun h=>by simp at h,fun _=>he⟩
  ·rw[c4j,a4b,if_pos hc]
 ·have hc:o.Card=5:=by simpa using h4
  have hc4:¬o.Card=4:=by simpa using h
  have b3:=c0c v.Pairs;refine c3y (J:=fun i acc=>a7r i (b0a v.Pairs) p o acc _) (E:=fun acc=>a4b N o v=⟨12,0,⟨#[]⟩,[],acc,[],[]⟩) (b0a v.Pairs) (fun x=>[(a0g x.1,a3y N o x.2)]) (fun i hi acc ha hj=>?_) (fun x hx=>by simp) (fun acc ha he=>?_) ?_
  ·have e1:wI ((i:Int)+1)=((i+1:Nat):Int):=by rw[wI,C9 (by omega)];omega
   have hx:=a6p (List.getElem_mem hi);refine b1b _ _ _ _ _ _ ⟨fun _=>⟨(b0a v.Pairs)[i],by simp,by omega,_,e0y _ (hps _ hx).1.okv.bits,(b0a v.Pairs)[i],by simp,by omega,_,d0d hp hN o ho _ (hps _ hx).2 (fun hk=>hbp hc hk _ hx),by simp;omega,?_⟩,fun h=>by simp at h;omega⟩;rw[e1];exact hj
  ·exact b1b _ _ _ _ _ _ ⟨fun h=>by simp at h,fun _=>he⟩
  ·rw[c4j,a4b,if_neg hc4,if_pos hc]
 ·rw[a4b,if_neg (by simpa using h),if_neg (by simpa using h4)]
theorem f5g(t:Int)(v:A0)(y1:List H9)(r:A0)(hv:OkD v)(hNok:∀t v,OkD v->OkD (N t v))(i:Nat)(hi:i<140737488351232)(o:GOp)(ho:OpG p o)(hc:1<=o.Card/\o.Card<=5)(hb:∀x∈v.Slots,x.1=o.Num->(o.Card≠4->o.Card≠5->o.Kind=10->B o.Target x.2)/\(o.Card=4->o.Kind=10->∀y∈x.2.List_,B o.Target y)/\(o.Card=5->o.Kind=10->∀y∈x.2.Pairs,B o.Target y.2))
  (T R:List (Int × A0)) (hT:T.length<=v.Slots.length) (next:∀acc,acc++R=T->a66 ((i+1:Nat):Int) t p v acc y1 r):∀d k (acc:List (Int × A0)),v.Slots.length - k<=d->k<=v.Slots.length->acc++(v.Slots.drop k).flatMap (fun x=>if x.1=o.Num then a42 N o x.1 x.2 else [])++R=T->a1h k i t p v acc y1 o r:=by
 obtain⟨_,_,⟨la,pa,sa,ra⟩,hl,hps,hs⟩:=hv.inv;have b1:=D6 sa;have w3:=D6 hv.w.2.2.1;have e0:wI ((i:Int)+1)=((i+1:Nat):Int):=by rw[wI,C9 (by omega)];omega
 have fin:∀(acc:List (Int × A0)),acc++(v.Slots.drop v.Slots.length).flatMap (fun x=>if x.1=o.Num then a42 N o x.1 x.2 else [])++R=T->a1h (v.Slots.length:Nat) i t p v acc y1 o r:=by
  intro acc h;rw[List.drop_length]at h;refine b44 _ _ _ _ _ _ _ _ _ ⟨fun h=>by simp at h,fun _=>?_⟩;rw[e0];exact next acc (by simpa using h)
 intro d
 induction d with
 |zero=>
  intro k acc hd hk h;have e:k=v.Slots.length:=by omega
  subst e;exact fin acc h
 |succ d ih=>
  intro k acc hd hk h;rcases Nat.lt_or_ge k v.Slots.length with hlt|hge
  ·have e1:wI ((k:Int)+1)=((k+1:Nat):Int):=by rw[wI,C9 (by omega)];omega
   have dl:v.Slots.drop k=v.Slots[k]::v.Slots.drop (k+1):=List.drop_eq_getElem_cons hlt;have hx:=List.getElem_mem hlt;rw[dl,List.flatMap_cons,<-List.append_assoc]at h;refine b44 _ _ _ _ _ _ _ _ _ ⟨fun _=>⟨v.Slots[k],by simp,by omega,fun hn=>?_,fun hn=>?_⟩,fun h=>by simp at h;omega⟩
   ·have hne:¬v.Slots[k].1=o.Num:=by simpa using hn
    rw[if_neg hne,List.append_nil]at h;rw[e1];exact ih (k+1) acc (by omega) (by omega) h
   ·have he:v.Slots[k].1=o.Num:=by simpa using hn
    obtain⟨b1',b2',b3'⟩:=hb _ hx he;have oz:=c82 (p:=p) (N:=N) (B:=fun _=>False) hp (fun t g v _ _ hf=>hf.elim) hNok o _ (hs _ hx);rw[if_pos he]at h;refine⟨v.Slots[k],by simp,by omega,_,e6a hp hN o ho _ (hs _ hx) b1' b2' b3',fun b=>b=(!d2e o|| !a7o (a4b N o v.Slots[k].2)),fun b hbb=>⟨fun h2=>?_,fun h2=>?_⟩,fun h2=>?_,fun h2=>⟨_,f2f _,?_⟩⟩
    ·subst hbb;rw[a42,if_pos h2,he]at h;have hlen:=congrArg List.length h;simp at hlen;refine⟨by simp;omega,?_⟩;rw[e1];exact ih (k+1) _ (by omega) (by omega) h
    ·subst hbb;rw[a42,if_neg (nt h2),List.append_nil]at h;rw[e1];exact ih (k+1) _ (by omega) (by omega) h
    ·have:d2e o=false:=by
      unfold d2e;simp at h2 ⊢;omega
     rw[this];rfl
    ·have:d2e o=true:=by
      unfold d2e;simp at h2 ⊢;omega
     rw[this];rfl
  ·have e:k=v.Slots.length:=by omega
   subst e;exact fin acc h
theorem f0c(hNok:∀t v,OkD v->OkD (N t v))(t:Int)(ht:0<=t)(g:B9)(hgt:p.Progs[t.toNat]? =some g)(v:A0)(hv:OkD v)(hX:v.Raws=[]){M:d93}{lev:Int}(hf:h4v M p g v lev)
  (hb:∀x∈v.Slots,∀o∈g.Ops,o.Num=x.1->(o.Card≠4->o.Card≠5->o.Kind=10->B o.Target x.2)/\(o.Card=4->o.Kind=10->∀y∈x.2.List_,B o.Target y)/\(o.Card=5->o.Kind=10->∀y∈x.2.Pairs,B o.Target y.2)):a6q p t v (b61 N g v):=by
 have hg:g∈p.Progs:=List.mem_of_getElem? hgt;have hlt:t.toNat<p.Progs.length:=(List.getElem?_eq_some_iff.1 hgt).1;obtain⟨_,_,⟨la,pa,sa,ra⟩,hl,hps,hs⟩:=hv.inv;have b1:=D6 sa;have w3:=D6 hv.w.2.2.1;have w4:=D6 hv.w.2.2.2;have bo:=hp.ops hg;have off:((decide (t<0))||(decide ((p.Progs.length:Int)<=t)))=false:=by simp;omega
 have hT:=b8m (fun o x=>a42 N o x.1 x.2) g.Ops v.Slots (b90 (hp.va.asc g hg)) hf.diff fun x hx=>by
  obtain⟨h1,h2⟩:=d00 (hf.known x hx);exact⟨_,h2,h1⟩
 have hlen:(g.Ops.flatMap (c5x (fun o x=>a42 N o x.1 x.2) v.Slots)).length<=v.Slots.length:=by
  rw[hT];exact Nat.le_trans (e1t _ _ fun x hx=>c97 _ _ _ _) (b54 _)
 have er:c5p v.Raws (sC kr v.Raws):=by
  rw[hX];exact d0i _ _ (c3p _ _ _ _ ⟨fun h=>by simp at h,fun _=>rfl⟩)
 refine d1i _ _ _ _ ⟨fun h=>(by rw[off]at h;cases h),fun _=>⟨_,er,?_⟩⟩
 have e:b61 N g v=⟨10,0,⟨#[]⟩,[],[],g.Ops.flatMap (c5x (fun o x=>a42 N o x.1 x.2) v.Slots),sC kr v.Raws⟩:=by
  rw[hT];rfl
 rw[e]
 have go:∀d i (acc:List (Int × A0)),g.Ops.length - i<=d->i<=g.Ops.length->acc++(g.Ops.drop i).flatMap (c5x (fun o x=>a42 N o x.1 x.2) v.Slots)=g.Ops.flatMap (c5x (fun o x=>a42 N o x.1 x.2) v.Slots)->a66 i t p v acc (sC kr v.Raws) ⟨10,0,⟨#[]⟩,[],[],g.Ops.flatMap (c5x (fun o x=>a42 N o x.1 x.2) v.Slots),sC kr v.Raws⟩:=by
  intro d
  induction d with
  |zero=>
   intro i acc hd hi h;have e:i=g.Ops.length:=by omega
   subst e;rw[List.drop_length]at h;exact a7b _ _ _ _ _ _ _ ⟨g,hgt,ht,fun h=>by simp at h,fun _=>by rw[<-h];simp⟩
  |succ d ih=>
   intro i acc hd hi h;rcases Nat.lt_or_ge i g.Ops.length with hlt2|hge
   ·have dl:g.Ops.drop i=g.Ops[i]::g.Ops.drop (i+1):=List.drop_eq_getElem_cons hlt2;have ho:=List.getElem_mem hlt2;have oF:=(hp.va.pro g hg).2 _ ho;rw[dl,List.flatMap_cons]at h;refine a7b _ _ _ _ _ _ _ ⟨g,hgt,ht,fun _=>⟨g,hgt,ht,g.Ops[i],by simp,by omega,?_⟩,fun h=>by simp at h;omega⟩;refine f5g hp hN t v _ _ hv hNok i (by omega) g.Ops[i] (fun hk=>?_) oF.card (fun x hx he=>hb x hx _ ho he.symm) _ ((g.Ops.drop (i+1)).flatMap (c5x (fun o x=>a42 N o x.1 x.2) v.Slots)) hlen (fun acc' h'=>ih (i+1) acc' (by omega) (by omega) h') v.Slots.length 0 acc (by omega) (by omega) ?_
    ·obtain⟨t0,t1,_⟩:=oF.msg hk;have hlt:g.Ops[i].Target.toNat<p.Progs.length:=by omega
     exact⟨_,List.getElem?_eq_getElem hlt,t0⟩
    ·rw[List.drop_zero,List.append_assoc];exact h
   ·have e:i=g.Ops.length:=by omega
    subst e;rw[List.drop_length]at h;exact a7b _ _ _ _ _ _ _ ⟨g,hgt,ht,fun h=>by simp at h,fun _=>by rw[<-h];simp⟩
 exact go _ 0 [] (Nat.le_refl _) (by omega) (by simp)
end
theorem b89{M:d93}{o:GOp}{v:A0}{lev:Int}(h:b53 M p o v lev=0)(hk:o.Kind=10):M o.Target v (lev+1)=0:=by
 rw[b53,if_pos hk]at h;exact h
theorem d3k{g:B9}(hg:g∈p.Progs){o:GOp}(ho:o∈g.Ops):opV g o.Num=(o,true):=by
 have h:=b90 (hp.va.asc g hg);unfold opV;generalize g.Ops=l at h ho
 induction l with
 |nil=>cases ho
 |cons q l ih=>
  obtain⟨h1,h2⟩:=List.pairwise_cons.1 h;rcases List.mem_cons.1 ho with h3|h3
  ·subst h3;simp only[opL];rw[if_pos (by simp)]
  ·have:=h1 o h3;simp only[opL];rw[if_neg (by simp;omega)];exact ih h2 h3
theorem d33:∀(n:Nat) (t:Int) (g:B9) (v:A0),p.Progs[t.toNat]? =some g->0<=t->(OkD v/\SizeOf.sizeOf v<=n/\NoX v/\∃lev,a98 p n t v lev=0)->a6q p t v (F7 p n t v)
 |0,t,g,v,_,_,h=>by have:=szV v;omega
 |n+1,t,g,v,hgt,ht,⟨hv,hn,hX,lev,hm⟩=>by
  obtain⟨x1,x2,_,_⟩:=hX.inv;have hg:g∈p.Progs:=List.mem_of_getElem? hgt;obtain⟨_,_,_,_,_,hs⟩:=hv.inv;have e:F7 p (n+1) t v=b61 (F7 p n) g v:=by simp only[F7,hgt]
  rw[e];simp only[a98,hgt]at hm;have hf:=d94 hm;refine f0c hp (B:=fun t v=>OkD v/\SizeOf.sizeOf v<=n/\NoX v/\∃lev,a98 p n t v lev=0) (d33 n) (fun t v=>c3l hp n t v) t ht g hgt v hv x1 hf fun x hx o ho he=>?_
  have z1:=szS hx;obtain⟨_,_,_,q1,q2,_⟩:=(hs x hx).inv;have h1:=hf.field x hx;rw[<-he,d3k hp hg ho]at h1;obtain⟨f4,f5,f6⟩:=c1w h1;obtain⟨_,_,y2,y3⟩:=(x2 x hx).inv;refine⟨fun h4 h5 hk=>⟨hs x hx,by omega,x2 x hx,_,b89 hp (f6 h4 h5) hk⟩,fun h4 hk y hy=>⟨q1 y hy,by have:=szL hy;omega,y2 y hy,_,b89 hp ((f4 h4).2.2 y hy) hk⟩,fun h5 hk y hy=>⟨(q2 y hy).2,by have:=szP hy;omega,y3 y hy,_,b89 hp ((f5 h5).2.2.1 y hy).2 hk⟩⟩
end
mutual
def bA:AV->Nat
 |.v (.string s)=>s.size+1
 |.sl els _=>bLL els+1
 |.agg cells=>bL cells+1
 |_=>1
def bL:List AV->Nat
 |[]=>0
 |a::l=>bA a+bL l
def bLL:List (List AV)->Nat
 |[]=>0
 |a::l=>bL a+bLL l
end
theorem c3b:∀(a b:List AV),bL (a++b)=bL a+bL b
 |[],b=>by simp[bL]
 |x::a,b=>by simp[bL,c3b a b,Nat.add_assoc]
theorem c6t:∀(l:List (List AV)),bL l.flatten=bLL l
 |[]=>by simp[bL,bLL]
 |x::l=>by simp[c3b,bLL,c6t l]
def wtV(v:A0):Nat:=bL (C0 v)
def a06{α:Type}(f:α->Nat):List α->Nat
 |[]=>0
 |x::l=>f x+a06 f l
theorem f1b{α:Type}(f:α->List AV):∀l:List α,bLL (l.map f)=a06 (fun x=>bL (f x)) l
 |[]=>rfl
 |x::l=>by simp[bLL,a06,f1b f l]
abbrev wtP(x:A0 × A0):Nat:=wtV x.1+wtV x.2
abbrev wtS(x:Int × A0):Nat:=1+wtV x.2
abbrev wtR(x:H9):Nat:=4+x.Data.size
theorem b5i(v:A0):wtV v=7+v.Text.size+a06 wtV v.List_+a06 wtP v.Pairs+a06 wtS v.Slots+a06 wtR v.Raws:=by
 have e1:(fun x:A0 × A0=>bL (A8 x))=wtP:=by funext x;simp[A8,c3b,wtV,wtP]
 have e2:(fun x:Int × A0=>bL (B4 x))=wtS:=by funext x;simp[B4,c3b,wtV,wtS,bL,bA]
 have e3:(fun x:H9=>bL (J0 x))=wtR:=by funext x;simp[J0,bL,bA,wtR];omega
 have e4:(fun x:A0=>bL (C0 x))=wtV:=rfl;rw[wtV,V1];simp only[A5,bL,bA,f1b,e1,e2,e3,e4];omega
theorem c0b{α:Type}(f:α->Nat){l:List α}{x:α}(h:x∈l):f x<=a06 f l:=by
 induction l with
 |nil=>cases h
 |cons y l ih=>
  rcases List.mem_cons.1 h with h|h
  ·subst h;simp only[a06];omega
  ·have:=ih h;simp only[a06];omega
theorem b4y{α:Type}(f:α->Nat)(k:Nat):∀{l:List α},(∀x∈l,k<=f x)->l.length*k<=a06 f l
 |[],_=>by simp[a06]
 |x::l,h=>by
  have h1:=h x (by simp);have h2:=b4y f k (l:=l) fun y hy=>h y (by simp[hy])
  simp only[a06,List.length_cons,Nat.add_mul];omega
theorem f8o(v:A0):7<=wtV v:=by rw[b5i];omega
theorem g58(v:A0):(∀x∈v.List_,wtV x<=wtV v)/\(∀x∈v.Pairs,wtV x.1+wtV x.2<=wtV v)/\(∀x∈v.Slots,wtV x.2<=wtV v):=by
 have e:=b5i v;refine⟨fun x hx=>?_,fun x hx=>?_,fun x hx=>?_⟩
 ·have:=c0b wtV hx;omega
 ·have:=c0b wtP hx;simp only[wtP]at this;omega
 ·have:=c0b wtS hx;simp only[wtS]at this;omega
theorem f0s(v:A0):v.Text.size+v.List_.length+v.Pairs.length+v.Slots.length+v.Raws.length<=wtV v:=by
 have e:=b5i v;have h1:=b4y wtV 1 (l:=v.List_) fun x _=>by have:=f8o x;omega
 have h2:=b4y wtP 1 (l:=v.Pairs) fun x _=>by have:=f8o x.1;simp only[wtP];omega
 have h3:=b4y wtS 1 (l:=v.Slots) fun x _=>by simp only[wtS];omega
 have h4:=b4y wtR 1 (l:=v.Raws) fun x _=>by simp only[wtR];omega
 omega
theorem e2a{α:Type}(f:α->Int)(g:α->Nat):∀{l:List α},(∀x∈l,0<=f x/\f x<=g x)->0<=(l.map f).sum/\(l.map f).sum<=a06 g l
 |[],_=>by simp[a06]
 |x::l,h=>by
  have h1:=h x (by simp);have h2:=e2a f g (l:=l) fun y hy=>h y (by simp[hy])
  simp only[List.map_cons,List.sum_cons,a06];omega
theorem d6j:∀(n:Nat) (v:A0),0<=a2h n v/\a2h n v<=wtV v
 |0,v=>by simp[a2h]
 |n+1,v=>by
  have e:=b5i v;have h1:=e2a (a2h n) wtV (l:=v.List_) fun x _=>d6j n x
  have h2:=e2a (fun x:A0 × A0=>a2h n x.1+a2h n x.2) wtP (l:=v.Pairs) fun x _=>by
   have a:=d6j n x.1;have b:=d6j n x.2;simp only[wtP];omega
  have h3:=e2a (fun x:Int × A0=>a2h n x.2) wtS (l:=v.Slots) fun x _=>by
   have a:=d6j n x.2;simp only[wtS];omega
  have h4:=b4y wtR 1 (l:=v.Raws) fun x _=>by simp only[wtR];omega
  simp only[a2h];omega
def c1c(v:A0):List A0:=v.List_++(v.Pairs.flatMap fun x=>[x.1,x.2])++v.Slots.map fun x=>x.2
theorem f29(v:A0)(hv:OkD v)(hw:wtV v<=274877906944):c14 v (c1c v):=by
 have hl:=f0s v;obtain⟨_,_,⟨la,pa,sa,ra⟩,_,_,_⟩:=hv.inv;have w1:=D6 hv.w.1;refine c7y _ _ ⟨a61 _ (by omega),?_⟩
 have j6:∀d i (acc:List A0),v.Slots.length - i<=d->i<=v.Slots.length->acc.length+(v.Slots.length - i)<=549755813888->a9n i v acc (acc++(v.Slots.drop i).map fun x=>x.2):=by
  intro d
  induction d with
  |zero=>
   intro i acc hd hi ha;have e:i=v.Slots.length:=by omega
   subst e;exact a5q _ _ _ _ ⟨fun h=>by simp at h,fun _=>by simp⟩
  |succ d ih=>
   intro i acc hd hi ha;rcases Nat.lt_or_ge i v.Slots.length with hlt|hge
   ·have e1:wI ((i:Int)+1)=((i+1:Nat):Int):=by rw[wI,C9 (by omega)];omega
    have dl:v.Slots.drop i=v.Slots[i]::v.Slots.drop (i+1):=List.drop_eq_getElem_cons hlt;refine a5q _ _ _ _ ⟨fun _=>⟨v.Slots[i],by simp,by omega,by simp;omega,?_⟩,fun h=>by simp at h;omega⟩;rw[e1,dl];have:=ih (i+1) (acc++[v.Slots[i].2]) (by omega) (by omega) (by simp;omega);rw[List.append_assoc]at this;exact this
   ·have e:i=v.Slots.length:=by omega
    subst e;exact a5q _ _ _ _ ⟨fun h=>by simp at h,fun _=>by simp⟩
 have j4:∀d i (acc:List A0),v.Pairs.length - i<=d->i<=v.Pairs.length->acc.length+2*(v.Pairs.length - i)+v.Slots.length<=549755813888->a9t i v acc (acc++((v.Pairs.drop i).flatMap fun x=>[x.1,x.2])++v.Slots.map fun x=>x.2):=by
  intro d
  induction d with
  |zero=>
   intro i acc hd hi ha;have e:i=v.Pairs.length:=by omega
   subst e;refine a6e _ _ _ _ ⟨fun h=>by simp at h,fun _=>?_⟩;have:=j6 v.Slots.length 0 acc (by omega) (by omega) (by omega);simpa using this
  |succ d ih=>
   intro i acc hd hi ha;rcases Nat.lt_or_ge i v.Pairs.length with hlt|hge
   ·have e1:wI ((i:Int)+1)=((i+1:Nat):Int):=by rw[wI,C9 (by omega)];omega
    have dl:v.Pairs.drop i=v.Pairs[i]::v.Pairs.drop (i+1):=List.drop_eq_getElem_cons hlt;refine a6e _ _ _ _ ⟨fun _=>⟨v.Pairs[i],by simp,by omega,by simp;omega,?_⟩,fun h=>by simp at h;omega⟩;rw[e1,dl];have:=ih (i+1) (acc++[v.Pairs[i].1,v.Pairs[i].2]) (by omega) (by omega) (by simp;omega);rw[List.flatMap_cons,<-List.append_assoc acc];exact this
   ·have e:i=v.Pairs.length:=by omega
    subst e;refine a6e _ _ _ _ ⟨fun h=>by simp at h,fun _=>?_⟩;have:=j6 v.Slots.length 0 acc (by omega) (by omega) (by omega);simpa using this
 have h:=j4 v.Pairs.length 0 v.List_ (by omega) (by omega) (by omega);simpa[c1c]using h
theorem e88(f:A0->Int)(v:A0):((c1c v).map f).sum=(v.List_.map f).sum+(v.Pairs.map fun x=>f x.1+f x.2).sum+(v.Slots.map fun x=>f x.2).sum:=by
 have key:∀l:List (A0 × A0),((l.flatMap fun x=>[x.1,x.2]).map f).sum=(l.map fun x=>f x.1+f x.2).sum:=by
  intro l
  induction l with
  |nil=>rfl
  |cons x l ih=>simp only[List.flatMap_cons,List.map_append,List.sum_append,List.map_cons,List.map_nil,List.sum_cons,List.sum_nil,ih];omega
 simp only[c1c,List.map_append,List.sum_append,key,List.map_map];rfl
theorem c30:∀(n:Nat) (v:A0),OkD v->SizeOf.sizeOf v<=n->wtV v<=274877906944->b2t v (wI (a2h n v))
 |0,v,_,h,_=>by have:=szV v;omega
 |n+1,v,hv,hn,hw=>by
  obtain⟨_,_,_,hl,hp,hs⟩:=hv.inv;obtain⟨m1,m2,m3⟩:=g58 v;have hlen:=f0s v;refine c8a _ _ ⟨_,f29 v hv hw,?_⟩
  have e:a2h (n+1) v=1+(v.Raws.length:Int)+((c1c v).map (a2h n)).sum:=by
   rw[e88];simp only[a2h];omega
  have il:(c1c v).length<=3298534883328:=by
   have:(v.Pairs.flatMap fun x=>[x.1,x.2]).length=2*v.Pairs.length:=by
    generalize v.Pairs=l
    induction l with
    |nil=>rfl
    |cons x l ih=>simp only[List.flatMap_cons,List.length_append,ih,List.length_cons,List.length_nil];omega
   simp only[c1c,List.length_append,List.length_map,this];omega
  rw[e];refine d46 (J:=fun i a=>a9r i (c1c v) a _) (C:=fun(x:A0) b=>b2t x b) (E:=fun a=>wI (1+(v.Raws.length:Int)+((c1c v).map (a2h n)).sum)=a) (a2h n) (c1c v) (fun i a hw=>c1f i _ a _ hw) (by omega) (fun x hx=>?_) _ rfl;rcases List.mem_append.1 hx with hx|hx
  ·rcases List.mem_append.1 hx with hx|hx
   ·exact c30 n x (hl x hx) (by have:=szL hx;omega) (by have:=m1 x hx;omega)
   ·obtain⟨y,hy,hz⟩:=List.mem_flatMap.1 hx;have:=m2 y hy;have z1:=szP hy;rcases List.mem_cons.1 hz with h|h
    ·subst h;exact c30 n _ (hp y hy).1 (by omega) (by omega)
    ·have:=List.mem_singleton.1 h;subst this;exact c30 n _ (hp y hy).2 (by omega) (by omega)
  ·obtain⟨y,hy,rfl⟩:=List.mem_map.1 hx;exact c30 n _ (hs y hy) (by have:=szS hy;omega) (by have:=m3 y hy;omega)
noncomputable def c73(p:A6)(n:Nat)(t:Int)(v:A0):Int:=orE (a98 p n t v 1) (if 4096<wI (a2h n v) then 3 else 0)
section
variable {p:A6}(hp:OkX p)
 include hp
theorem f5p(n:Nat)(t:Int)(g:B9)(v:A0)(hgt:p.Progs[t.toNat]? =some g)(ht:0<=t)(hv:OkD v)(hn:SizeOf.sizeOf v<=n)(hw:wtV v<=274877906944):d01 p t v (c73 p n t v):=by
 have hlt:t.toNat<p.Progs.length:=(List.getElem?_eq_some_iff.1 hgt).1;have off:((decide (t<0))||(decide ((p.Progs.length:Int)<=t)))=false:=by simp;omega
 refine d2s _ _ _ _ ⟨fun h=>(by rw[off]at h;cases h),fun _=>⟨g,hgt,ht,_,d97 hp n t g v 1 hgt ht hv hn (by decide) (by decide),fun h=>?_,fun h=>⟨_,c30 n v hv hn hw,fun h2=>?_,fun h2=>?_⟩⟩⟩
 ·rw[c73,orE,if_pos (by simpa using h)]
 ·rw[c73,orE,if_neg (by simpa using h),if_pos (by simpa using h2)]
 ·rw[c73,orE,if_neg (by simpa using h),if_neg (by simpa using h2)]
end
theorem b3u(a b:ByteArray):bI (a++b)=bI a++bI b:=by simp[bI]
def c9j:List ByteArray->ByteArray
 |[]=>⟨#[]⟩
 |x::l=>x++c9j l
theorem b11(a b c:ByteArray):(a++b)++c=a++(b++c):=ByteArray.append_assoc
theorem b5s(a:ByteArray):a++(⟨#[]⟩:ByteArray)=a:=ByteArray.append_empty
theorem d64(l:List ByteArray):(c9j l).size=a06 ByteArray.size l:=by
 induction l with
 |nil=>rfl
 |cons x l ih=>simp only[c9j,a06,L6,ih]
theorem b6u{α β:Type}(f:β->Nat)(g:α->β):∀l:List α,a06 f (l.map g)=a06 (fun x=>f (g x)) l
 |[]=>rfl
 |x::l=>by simp only[List.map_cons,a06,b6u f g l]
theorem b5h{α:Type}{f g:α->Nat}:∀{l:List α},(∀x∈l,f x<=g x)->a06 f l<=a06 g l
 |[],_=>by simp[a06]
 |x::l,h=>by
  have h1:=h x (by simp);have h2:=b5h (l:=l) fun y hy=>h y (by simp[hy])
  simp only[a06];omega
theorem c0h{α:Type}(k:Nat)(f:α->Nat):∀l:List α,a06 (fun x=>k*f x) l=k*a06 f l
 |[]=>by simp[a06]
 |x::l=>by simp only[a06,c0h k f l,Nat.mul_add]
abbrev c6v:=Int->A0->ByteArray
def a9b(W:c6v)(o:GOp)(v:A0):ByteArray:=if o.Kind=10 then W o.Target v else c7r v
def c1j(W:c6v)(o:GOp)(x:A0 × A0):ByteArray:=c7r x.1++a9b W o x.2
def a2e(W:c6v)(o:GOp)(x:A0)(set:Bool):ByteArray:=
 if o.Card=4 then b34 x.List_.length++c9j (x.List_.map (a9b W o))
 else if o.Card=5 then b34 x.Pairs.length++c9j (x.Pairs.map (c1j W o))
 else if o.Card=1 then a9b W o x
 else if set=true then(⟨#[1]⟩:ByteArray)++a9b W o x else⟨#[0]⟩
def a9d(W:c6v):List GOp->List (Int × A0)->ByteArray
 |[],_=>⟨#[]⟩
 |o::ops,[]=>a2e W o V0 false++a9d W ops []
 |o::ops,s::S=>if s.1=o.Num then a2e W o s.2 true++a9d W ops S else a2e W o V0 false++a9d W ops (s::S)
def Q8(p:A6):Nat->c6v
 |0,_,_=>⟨#[]⟩
 |n+1,t,v=>match p.Progs[t.toNat]? with
  |none=>⟨#[]⟩
  |some g=>a9d (Q8 p n) g.Ops v.Slots
def b1o(R:GOp->A0->Prop):List GOp->List (Int × A0)->Prop
 |[],S=>S=[]
 |o::ops,[]=>o.Card≠1/\b1o R ops []
 |o::ops,s::S=>(s.1=o.Num->R o s.2/\b1o R ops S)/\(s.1≠o.Num->o.Card≠1/\b1o R ops (s::S))
def NfF(B:Int->A0->Prop)(o:GOp)(z:A0):Prop:=
 OkD z/\(o.Card=4->∀y∈z.List_,o.Kind=10->B o.Target y)/\(o.Card=5->∀y∈z.Pairs,o.Kind=10->B o.Target y.2)/\(o.Card≠4->o.Card≠5->o.Kind=10->B o.Target z)
def NfV(p:A6):Nat->Int->A0->Prop
 |0,_,_=>False
 |n+1,t,x=>∃g,p.Progs[t.toNat]? =some g/\0<=t/\OkD x/\b1o (NfF (NfV p n)) g.Ops x.Slots
theorem d8o(v:A0)(hv:OkV v):(c7r v).size<=10+v.Text.size:=by
 have ht:=hv.t;have hb:=hv.b1;have hn:=hv.b0;unfold c7r;split
 ·split
  ·rw[b7q];simp;omega
  split
  ·have:=b0e (f2y (wI v.Bits)) (d81 (d42 _));omega
  split
  ·rw[d39];omega
  split
  ·rw[L6];have:=b0e v.Text.size (by omega);omega
  ·have:=b0e v.Bits.toNat (by omega);omega
 ·show 0<=_;omega
section
variable {W:c6v}{B:Int->A0->Prop}(hS:∀t x,B t x->(W t x).size<=1000000*wtV x)
 include hS
theorem c5z(o:GOp)(y:A0)(hy:OkV y)(hb:o.Kind=10->B o.Target y):(a9b W o y).size<=1000000*wtV y:=by
 unfold a9b;split
 ·rename_i h;exact hS _ _ (hb h)
 ·have h1:=d8o y hy;have h2:=b5i y;omega
theorem e5i(o:GOp)(z:A0)(hz:NfF B o z):(a2e W o z true).size<=11+1000000*wtV z:=by
 obtain⟨hd,h4,h5,h6⟩:=hz;obtain⟨_,_,⟨la,pa,sa,ra⟩,hl,hp,hs⟩:=hd.inv;have b1:=D6 la;have b2:=D6 pa;have e:=b5i z;unfold a2e;split
 ·rename_i hc;rw[L6,d64,b6u];have h1:=b0e z.List_.length (by omega);have h2:=b5h (l:=z.List_) (f:=fun y=>(a9b W o y).size) (g:=fun y=>1000000*wtV y) fun y hy=>c5z hS o y (hl y hy).okv (h4 hc y hy)
  rw[c0h]at h2;omega
 split
 ·rename_i hc;rw[L6,d64,b6u];have h1:=b0e z.Pairs.length (by omega)
  have h2:=b5h (l:=z.Pairs) (f:=fun y=>(c1j W o y).size) (g:=fun y=>1000000*wtP y) fun y hy=>by
   have a:=c5z hS o y.2 (hp y hy).2.okv (h5 hc y hy);have b:=d8o y.1 (hp y hy).1.okv;have c:=b5i y.1;simp only[c1j,L6,wtP];omega
  rw[c0h]at h2;omega
 ·rename_i n4 n5;have h1:=c5z hS o z hd.okv (h6 n4 n5);split
  ·omega
  ·rw[if_pos rfl,L6];have:(⟨#[1]⟩:ByteArray).size=1:=rfl;omega
theorem d3i(o:GOp)(h1:o.Card≠1):(a2e W o V0 false).size<=11:=by
 have e:(b34 0).size<=10:=b0e 0 (by omega);unfold a2e
 by_cases h4:o.Card=4
 ·rw[if_pos h4,L6];have:(c9j (V0.List_.map (a9b W o))).size=0:=rfl;have:(b34 V0.List_.length)=b34 0:=rfl;rw[this];omega
 by_cases h5:o.Card=5
 ·rw[if_neg h4,if_pos h5,L6];have:(c9j (V0.Pairs.map (c1j W o))).size=0:=rfl;have:(b34 V0.Pairs.length)=b34 0:=rfl;rw[this];omega
 ·rw[if_neg h4,if_neg h5,if_neg h1,if_neg (by decide)];show 1<=11;omega
theorem c0l:∀(ops:List GOp) (S:List (Int × A0)),b1o (NfF B) ops S->(a9d W ops S).size<=11*ops.length+1000000*a06 wtS S
 |[],S,_=>by show 0<=_;omega
 |o::ops,[],h=>by
  have h1:=d3i (W:=W) hS o h.1;have h2:=c0l ops [] h.2;simp only[a9d,L6,List.length_cons];omega
 |o::ops,s::S,h=>by
  simp only[a9d];split
  ·rename_i he;obtain⟨hr,hm⟩:=h.1 he;have h1:=e5i hS o s.2 hr;have h2:=c0l ops S hm;simp only[L6,List.length_cons,a06,wtS];omega
  ·rename_i he;obtain⟨hr,hm⟩:=h.2 he;have h1:=d3i (W:=W) hS o hr;have h2:=c0l ops (s::S) hm;simp only[L6,List.length_cons];omega
end
theorem d87{p:A6}(hp:OkX p){g:B9}(hg:g∈p.Progs):g.Ops.length<=65535:=by
 have h:=b90 (hp.va.asc g hg);have hn:=hp.va.num g hg;rcases Nat.lt_or_ge 65535 g.Ops.length with hlt|hge
 ·have key:∀i (hi:i<g.Ops.length),(i:Int)+1<=g.Ops[i].Num:=by
   intro i
   induction i with
   |zero=>intro hi;have:=(hn _ (List.getElem_mem hi)).1;simpa using this
   |succ i ih=>
    intro hi;have h1:=ih (by omega);have h2:=List.pairwise_iff_getElem.1 h i (i+1) (by omega) hi (by omega);omega
  have h1:=key 65535 hlt;have h2:=(hn _ (List.getElem_mem hlt)).2;omega
 ·exact hge
theorem d8p{p:A6}(hp:OkX p):∀(n:Nat) (t:Int) (x:A0),NfV p n t x->(Q8 p n t x).size<=1000000*wtV x
 |0,t,x,h=>h.elim
 |n+1,t,x,⟨g,hgt,ht,hx,hm⟩=>by
  have hg:g∈p.Progs:=List.mem_of_getElem? hgt;have h1:=c0l (d8p hp n) g.Ops x.Slots hm;have h2:=d87 hp hg;have e:=b5i x;simp only[Q8,hgt];omega
section
variable {p:A6}(hp:OkX p)
variable {W:c6v}{B:Int->A0->Prop}(hW:∀(t:Int) (x:A0) (out:List Int),B t x->out.length+(W t x).size<=140737488355328->a0i ⟨p,out⟩ t x ⟨p,out++bI (W t x)⟩)
theorem c5q(out:List Int)(s:ByteArray)(h:out.length+s.size<=140737488355328):Y0 ⟨p,out⟩ s ⟨p,out++bI s⟩:=
 c2v _ _ _ ⟨by rw[b04];simpa using h,rfl⟩
 include hW
theorem d4q(out:List Int)(o:GOp)(y:A0)(hy:OkV y)(hb:o.Kind=10->B o.Target y)(h:out.length+(a9b W o y).size<=140737488355328):a0a ⟨p,out⟩ o y ⟨p,out++bI (a9b W o y)⟩:=by
 unfold a9b at h ⊢;refine b9e _ _ _ _ ⟨fun hk=>?_,fun hk=>⟨_,d6g y hy,?_⟩⟩
 ·have hk':o.Kind=10:=by simpa using hk
  rw[if_pos hk']at h ⊢;exact⟨_,hW _ y out (hb hk') h,rfl⟩
 ·have hk':¬o.Kind=10:=by simpa using hk
  rw[if_neg hk']at h ⊢;exact⟨_,c5q out _ h,rfl⟩
variable {g:B9}{x:A0}{r:E0}
theorem f38(i at_:Nat)(hi:i<=140737488351232)(o:GOp)(l:List A0)(hl:l.length<=140737488351232)(hv:∀y∈l,OkV y/\(o.Kind=10->B o.Target y)):∀d k (out:List Int),l.length - k<=d->k<=l.length->out.length+(c9j ((l.drop k).map (a9b W o))).size<=140737488355328->C6 ((i+1:Nat):Int) g at_ p.Progs p.Enums (out++bI (c9j ((l.drop k).map (a9b W o)))) x r->T9 k l at_ i g p.Progs p.Enums out x o r:=by
 have e0:wI ((i:Int)+1)=((i+1:Nat):Int):=by rw[wI,C9 (by omega)];omega
 have fin:∀(out:List Int),C6 ((i+1:Nat):Int) g at_ p.Progs p.Enums (out++bI (c9j ((l.drop l.length).map (a9b W o)))) x r->T9 (l.length:Nat) l at_ i g p.Progs p.Enums out x o r:=by
  intro out h;rw[List.drop_length]at h;refine a2s _ _ _ _ _ _ _ _ _ _ _ ⟨fun h=>by simp at h,fun _=>?_⟩;rw[e0];have e:bI (c9j (List.map (a9b W o) []))=[]:=rfl;rw[e,List.append_nil]at h;exact h
 intro d
 induction d with
 |zero=>
  intro k out hd hk _ h;have e:k=l.length:=by omega
  subst e;exact fin out h
 |succ d ih=>
  intro k out hd hk hsz h;rcases Nat.lt_or_ge k l.length with hlt|hge
  ·have e1:wI ((k:Int)+1)=((k+1:Nat):Int):=by rw[wI,C9 (by omega)];omega
   have dl:l.drop k=l[k]::l.drop (k+1):=List.drop_eq_getElem_cons hlt;have hx:=hv _ (List.getElem_mem hlt);rw[dl,List.map_cons,c9j]at h hsz;rw[L6]at hsz;rw[b3u,<-List.append_assoc]at h;refine a2s _ _ _ _ _ _ _ _ _ _ _ ⟨fun _=>⟨l[k],by simp,by omega,_,d4q hW out o _ hx.1 hx.2 (by omega),?_⟩,fun h=>by simp at h;omega⟩;rw[e1];exact ih (k+1) _ (by omega) (by omega) (by rw[List.length_append,b04];omega) h
  ·have e:k=l.length:=by omega
   subst e;exact fin out h
theorem f2m(i at_:Nat)(hi:i<=140737488351232)(o:GOp)(l:List (A0 × A0))(hl:l.length<=140737488351232)(hv:∀y∈l,OkV y.1/\OkV y.2/\(o.Kind=10->B o.Target y.2)):∀d k (out:List Int),l.length - k<=d->k<=l.length->out.length+(c9j ((l.drop k).map (c1j W o))).size<=140737488355328->C6 ((i+1:Nat):Int) g at_ p.Progs p.Enums (out++bI (c9j ((l.drop k).map (c1j W o)))) x r->T7 k l at_ i g p.Progs p.Enums out x o r:=by
 have e0:wI ((i:Int)+1)=((i+1:Nat):Int):=by rw[wI,C9 (by omega)];omega
 have fin:∀(out:List Int),C6 ((i+1:Nat):Int) g at_ p.Progs p.Enums (out++bI (c9j ((l.drop l.length).map (c1j W o)))) x r->T7 (l.length:Nat) l at_ i g p.Progs p.Enums out x o r:=by
  intro out h;rw[List.drop_length]at h;refine a3b _ _ _ _ _ _ _ _ _ _ _ ⟨fun h=>by simp at h,fun _=>?_⟩;rw[e0];have e:bI (c9j (List.map (c1j W o) []))=[]:=rfl;rw[e,List.append_nil]at h;exact h
 intro d
 induction d with
 |zero=>
  intro k out hd hk _ h;have e:k=l.length:=by omega
  subst e;exact fin out h
 |succ d ih=>
  intro k out hd hk hsz h;rcases Nat.lt_or_ge k l.length with hlt|hge
  ·have e1:wI ((k:Int)+1)=((k+1:Nat):Int):=by rw[wI,C9 (by omega)];omega
   have dl:l.drop k=l[k]::l.drop (k+1):=List.drop_eq_getElem_cons hlt;have hx:=hv _ (List.getElem_mem hlt);rw[dl,List.map_cons,c9j,c1j,b11]at h hsz;rw[L6,L6]at hsz;rw[b3u,b3u,<-List.append_assoc,<-List.append_assoc]at h;refine a3b _ _ _ _ _ _ _ _ _ _ _ ⟨fun _=>⟨l[k],by simp,by omega,_,d6g _ hx.1,_,c5q out _ (by omega),_,d4q hW _ o _ hx.2.1 hx.2.2 (by rw[List.length_append,b04];omega),?_⟩,fun h=>by simp at h;omega⟩;rw[e1];exact ih (k+1) _ (by omega) (by omega) (by rw[List.length_append,List.length_append,b04,b04];omega) h
  ·have e:k=l.length:=by omega
   subst e;exact fin out h
theorem g7p(i at_:Nat)(hi:i<=140737488351232)(o:GOp)(z:A0)(set:Bool)(hz:set=true->NfF B o z)(h0:set=false->z=V0/\o.Card≠1)(out:List Int)(hsz:out.length+(a2e W o z set).size<=140737488355328)(h:C6 ((i+1:Nat):Int) g at_ p.Progs p.Enums (out++bI (a2e W o z set)) x r):U1 at_ set i g p.Progs p.Enums out x o z.Kind z.Bits z.Text z.List_ z.Pairs z.Slots z.Raws r:=by
 have e0:wI ((i:Int)+1)=((i+1:Nat):Int):=by rw[wI,C9 (by omega)];omega
 have hok:OkD z:=by
  rcases Bool.eq_false_or_eq_true set with q|q
  ·exact(hz q).1
  ·rw[(h0 q).1];have zz:Sz 0:=Nat.zero_le _;exact .mk _ (show I64 0 from⟨by decide,by decide⟩) (show U64 0 from⟨by decide,by decide⟩) zz zz zz zz zz (fun x hx=>by cases hx) (fun x hx=>by cases hx) (fun x hx=>by cases hx) (fun x hx=>by cases hx) (fun x hx=>by cases hx) (fun x hx=>by cases hx) ⟨zz,zz,zz,zz⟩
 obtain⟨_,_,⟨la,pa,sa,ra⟩,hl,hps,hs⟩:=hok.inv;have b1:=D6 la;have b2:=D6 pa;unfold a2e at hsz h
 have ev1:a3w (wU (z.List_.length:Int)) (b34 z.List_.length):=by
  have:=d6t z.List_.length (by omega)
  rwa [show((z.List_.length:Nat):Int)=wU (z.List_.length:Int) by rw[wU,b4a (by omega)]]at this
 have ev2:a3w (wU (z.Pairs.length:Int)) (b34 z.Pairs.length):=by
  have:=d6t z.Pairs.length (by omega)
  rwa [show((z.Pairs.length:Nat):Int)=wU (z.Pairs.length:Int) by rw[wU,b4a (by omega)]]at this
 refine b2k _ _ _ _ _ _ _ _ _ _ _ _ _ _ _ _ _ ⟨fun h1=>?_,fun h1=>⟨fun h4=>⟨_,ev1,?_⟩,fun h4=>⟨fun h5=>⟨_,ev2,?_⟩,fun h5=>⟨fun hs=>?_,fun hs=>?_⟩⟩⟩⟩
 ·have hc:o.Card=1:=by simpa using h1
  rw[if_neg (by omega),if_neg (by omega),if_pos hc]at hsz h
  have hset:set=true:=by
   rcases Bool.eq_false_or_eq_true set with q|q
   ·exact q
   ·exact absurd hc (h0 q).2
  refine⟨_,d4q hW out o z hok.okv ((hz hset).2.2.2 (by omega) (by omega)) hsz,?_⟩;rw[e0];exact h
 all_goals (have h1':¬o.Card=1:=by simpa using h1)
 ·have hc:o.Card=4:=by simpa using h4
  rw[if_pos hc]at hsz h;rw[L6]at hsz;rw[b3u,<-List.append_assoc]at h
  have hv:∀y∈z.List_,OkV y/\(o.Kind=10->B o.Target y):=fun y hy=>⟨(hl y hy).okv,fun hk=>by
   rcases Bool.eq_false_or_eq_true set with q|q
   ·exact(hz q).2.1 hc y hy hk
   ·rw[(h0 q).1]at hy;cases hy⟩
  refine⟨_,c5q out _ (by omega),?_⟩;exact f38 hW i at_ hi o z.List_ b1 hv _ 0 _ (Nat.le_refl _) (by omega) (by rw[List.length_append,b04,List.drop_zero];omega) (by rw[List.drop_zero];exact h)
 all_goals (have h4':¬o.Card=4:=by simpa using h4)
 ·have hc:o.Card=5:=by simpa using h5
  rw[if_neg h4',if_pos hc]at hsz h;rw[L6]at hsz;rw[b3u,<-List.append_assoc]at h
  have hv:∀y∈z.Pairs,OkV y.1/\OkV y.2/\(o.Kind=10->B o.Target y.2):=fun y hy=>⟨(hps y hy).1.okv,(hps y hy).2.okv,fun hk=>by
   rcases Bool.eq_false_or_eq_true set with q|q
   ·exact(hz q).2.2.1 hc y hy hk
   ·rw[(h0 q).1]at hy;cases hy⟩
  refine⟨_,c5q out _ (by omega),?_⟩;exact f2m hW i at_ hi o z.Pairs b2 hv _ 0 _ (Nat.le_refl _) (by omega) (by rw[List.length_append,b04,List.drop_zero];omega) (by rw[List.drop_zero];exact h)
 all_goals (have h5':¬o.Card=5:=by simpa using h5)
 all_goals rw[if_neg h4',if_neg h5',if_neg h1']at hsz h
 ·have q:set=false:=by simpa using hs
  rw[if_neg (by simp[q])]at hsz h;refine⟨_,c5q out _ hsz,?_⟩;rw[e0];exact h
 ·have q:set=true:=by simpa using hs
  rw[if_pos q]at hsz h;rw[L6]at hsz;rw[b3u,<-List.append_assoc]at h;refine⟨_,c5q out _ (by omega),_,d4q hW _ o z hok.okv ((hz q).2.2.2 h4' h5') (by rw[List.length_append,b04];omega),?_⟩;rw[e0];exact h
theorem g0r(hg:g.Ops.length<=140737488351232)(hxs:x.Slots.length<=140737488351232):∀d i at_ (out:List Int),g.Ops.length - i<=d->i<=g.Ops.length->at_<=x.Slots.length->b1o (NfF B) (g.Ops.drop i) (x.Slots.drop at_)->out.length+(a9d W (g.Ops.drop i) (x.Slots.drop at_)).size<=140737488355328->r=⟨p,out++bI (a9d W (g.Ops.drop i) (x.Slots.drop at_))⟩->C6 i g at_ p.Progs p.Enums out x r:=by
 have fin:∀at_ (out:List Int),r=⟨p,out++bI (a9d W (g.Ops.drop g.Ops.length) (x.Slots.drop at_))⟩->C6 (g.Ops.length:Nat) g at_ p.Progs p.Enums out x r:=by
  intro at_ out h;rw[List.drop_length]at h;have e:bI (a9d W [] (x.Slots.drop at_))=[]:=by cases x.Slots.drop at_<;>rfl
  rw[e,List.append_nil]at h;exact Y9 _ _ _ _ _ _ _ _ ⟨fun h=>by simp at h,fun _=>h⟩
 intro d
 induction d with
 |zero=>
  intro i at_ out hd hi _ _ _ h;have e:i=g.Ops.length:=by omega
  subst e;exact fin at_ out h
 |succ d ih=>
  intro i at_ out hd hi hat hm hsz h;rcases Nat.lt_or_ge i g.Ops.length with hlt|hge
  ·have dl:g.Ops.drop i=g.Ops[i]::g.Ops.drop (i+1):=List.drop_eq_getElem_cons hlt;rw[dl]at hm hsz h
   -- what lies there,set or not
   have key:∀(at2:Nat) (z:A0) (set:Bool),at2<=x.Slots.length->(set=true->NfF B g.Ops[i] z)->(set=false->z=V0/\g.Ops[i].Card≠1)->b1o (NfF B) (g.Ops.drop (i+1)) (x.Slots.drop at2)->a9d W (g.Ops[i]::g.Ops.drop (i+1)) (x.Slots.drop at_)=a2e W g.Ops[i] z set++a9d W (g.Ops.drop (i+1)) (x.Slots.drop at2)->U1 at2 set i g p.Progs p.Enums out x g.Ops[i] z.Kind z.Bits z.Text z.List_ z.Pairs z.Slots z.Raws r:=by
    intro at2 z set h1 h2 h3 h4 h5;rw[h5,L6]at hsz;rw[h5,b3u,<-List.append_assoc]at h;refine g7p hW i at2 (by omega) g.Ops[i] z set h2 h3 out (by omega) ?_;exact ih (i+1) at2 _ (by omega) (by omega) h1 h4 (by rw[List.length_append,b04];omega) h
   have e1:wI ((at_:Int)+1)=((at_+1:Nat):Int):=by rw[wI,C9 (by omega)];omega
   rcases Nat.lt_or_ge at_ x.Slots.length with hs|hs
   ·have ds:x.Slots.drop at_=x.Slots[at_]::x.Slots.drop (at_+1):=List.drop_eq_getElem_cons hs;rw[ds]at hm;refine Y9 _ _ _ _ _ _ _ _ ⟨fun _=>⟨g.Ops[i],by simp,by omega,fun b=>b=(x.Slots[at_].1==g.Ops[i].Num),fun b hb=>⟨fun h6=>⟨x.Slots[at_],by simp,by omega,?_⟩,fun h6=>?_⟩,fun _=>⟨x.Slots[at_],by simp,by omega,rfl⟩,fun h6=>by simp at h6;omega⟩,fun h=>by simp at h;omega⟩
    ·have he:x.Slots[at_].1=g.Ops[i].Num:=by rw[h6]at hb;simpa using hb.symm
     obtain⟨q1,q2⟩:=hm.1 he;rw[e1];subst h6;refine key (at_+1) x.Slots[at_].2 true hs (fun _=>q1) (fun h=>by cases h) q2 ?_;rw[ds];simp only[a9d];rw[if_pos he]
    ·have he:x.Slots[at_].1≠g.Ops[i].Num:=by rw[h6]at hb;simpa using hb.symm
     obtain⟨q1,q2⟩:=hm.2 he;subst h6;refine key at_ V0 false hat (fun h=>by cases h) (fun _=>⟨rfl,q1⟩) (by rw[ds];exact q2) ?_;rw[ds];simp only[a9d];rw[if_neg he]
   ·have ds:x.Slots.drop at_=[]:=List.drop_eq_nil_of_le hs;rw[ds]at hm;refine Y9 _ _ _ _ _ _ _ _ ⟨fun _=>⟨g.Ops[i],by simp,by omega,fun b=>b=false,fun b hb=>⟨fun h6=>?_,fun h6=>?_⟩,fun h6=>by simp at h6;omega,fun _=>rfl⟩,fun h=>by simp at h;omega⟩
    ·rw[h6]at hb;cases hb
    ·subst hb;refine key at_ V0 false hat (fun h=>by cases h) (fun _=>⟨rfl,hm.1⟩) (by rw[ds];exact hm.2) ?_;rw[ds];simp only[a9d]
  ·have e:i=g.Ops.length:=by omega
   subst e;exact fin at_ out h
end
theorem d68{p:A6}(hp:OkX p):∀(n:Nat) (t:Int) (x:A0) (out:List Int),NfV p n t x->out.length+(Q8 p n t x).size<=140737488355328->a0i ⟨p,out⟩ t x ⟨p,out++bI (Q8 p n t x)⟩
 |0,t,x,out,h,_=>h.elim
 |n+1,t,x,out,⟨g,hgt,ht,hx,hm⟩,hsz=>by
  have hg:g∈p.Progs:=List.mem_of_getElem? hgt;have e:Q8 p (n+1) t x=a9d (Q8 p n) g.Ops x.Slots:=by simp only[Q8,hgt]
  rw[e]at hsz ⊢;refine b65 _ _ _ _ ⟨g,hgt,ht,?_⟩;exact g0r (B:=NfV p n) (fun t x out hb hs=>d68 hp n t x out hb hs) (hp.ops hg) (D6 hx.okv.s) _ 0 0 out (Nat.le_refl _) (by omega) (by omega) (by rw[List.drop_zero,List.drop_zero];exact hm) (by rw[List.drop_zero,List.drop_zero];exact hsz) (by rw[List.drop_zero,List.drop_zero])
theorem d5w{R:GOp->A0->Prop}:∀{ops:List GOp}{S:List (Int × A0)},b1o R ops S->∀s∈S,∃q∈ops,q.Num=s.1
 |[],S,h,s,hs=>by rw[h]at hs;cases hs
 |o::ops,[],h,s,hs=>by cases hs
 |o::ops,x::S,h,s,hs=>by
  by_cases e:x.1=o.Num
  ·rcases List.mem_cons.1 hs with h1|h1
   ·subst h1;exact⟨o,by simp,e.symm⟩
   ·obtain⟨q,hq,he⟩:=d5w (h.1 e).2 s h1;exact⟨q,by simp[hq],he⟩
  ·obtain⟨q,hq,he⟩:=d5w (h.2 e).2 s hs;exact⟨q,by simp[hq],he⟩
section
variable {p:A6}(hp:OkX p)
variable {W:c6v}{B:Int->A0->Prop}(hW:∀(t:Int) (x:A0),B t x->e4o p t x (W t x))
 include hW
variable {t:Int}{x:A0}{r:ByteArray}
variable {g:B9}(hgt:p.Progs[t.toNat]? =some g) (ht:0<=t) (hg:g.Ops.length<=140737488351232) (hxs:x.Slots.length<=140737488351232)
 include hgt ht hg hxs
end
theorem c9d{R R':GOp->A0->Prop}:∀{ops:List GOp}{S:List (Int × A0)},(∀s∈S,∀o,R o s.2->R' o s.2)->b1o R ops S->b1o R' ops S
 |[],S,_,h=>h
 |o::ops,[],hr,h=>⟨h.1,c9d hr h.2⟩
 |o::ops,x::S,hr,h=>⟨fun e=>⟨hr x (by simp) o (h.1 e).1,c9d (fun s hs=>hr s (by simp[hs])) (h.1 e).2⟩,fun e=>⟨(h.2 e).1,c9d hr (h.2 e).2⟩⟩
theorem f1q{R:GOp->A0->Prop}(F:GOp->List (Int × A0)):∀(ops:List GOp),ops.Pairwise (fun a b=>a.Num<b.Num)->(∀o∈ops,(F o=[]/\o.Card≠1)\/∃z,F o=[(o.Num,z)]/\R o z)->b1o R ops (ops.flatMap F)
 |[],_,_=>rfl
 |o::ops,hasc,h=>by
  obtain⟨h1,h2⟩:=List.pairwise_cons.1 hasc;have ih:=f1q F ops h2 fun q hq=>h q (by simp[hq])
  rw[List.flatMap_cons];rcases h o (by simp) with⟨e,hc⟩|⟨z,e,hr⟩
  ·rw[e,List.nil_append];have hsub:=d5w ih;generalize ops.flatMap F=S at ih hsub;cases S with
   |nil=>exact⟨hc,ih⟩
   |cons s S=>
    obtain⟨q,hq,hn⟩:=hsub s (by simp);have:=h1 q hq;exact⟨fun he=>by omega,fun _=>⟨hc,ih⟩⟩
  ·rw[e];exact⟨fun _=>⟨hr,ih⟩,fun he=>absurd rfl he⟩
theorem d5o{β:Type}(G:GOp->Int × A0->List β){o:GOp}{x:Int × A0}:∀{l:List (Int × A0)},g6b l->x∈l->x.1=o.Num->c5x G l o=G o x
 |[],_,hx,_=>by cases hx
 |y::l,hd,hx,he=>by
  obtain⟨h1,h2⟩:=List.pairwise_cons.1 hd;rcases List.mem_cons.1 hx with h3|h3
  ·subst h3;have:c5x G l o=[]:=b9d G fun z hz=>by have:=h1 z hz;omega
   unfold c5x at this ⊢;rw[List.flatMap_cons,this,if_pos he,List.append_nil]
  ·have:=h1 x h3;have ih:=d5o G h2 h3 he;unfold c5x at ih ⊢;rw[List.flatMap_cons,if_neg (by omega),List.nil_append];exact ih
section
variable {p:A6}(hp:OkX p)
 include hp
theorem e9c:∀(n:Nat) (t:Int) (g:B9) (v:A0) (lev:Int),p.Progs[t.toNat]? =some g->0<=t->OkD v->SizeOf.sizeOf v<=n->a98 p n t v lev=0->NfV p n t (F7 p n t v)
 |0,t,g,v,lev,_,_,_,h,_=>by have:=szV v;omega
 |n+1,t,g,v,lev,hgt,ht,hv,hn,hm=>by
  have hg:g∈p.Progs:=List.mem_of_getElem? hgt;have hok:=c3l hp (n+1) t v hv;obtain⟨_,_,_,_,_,hs⟩:=hv.inv;have e:F7 p (n+1) t v=b61 (F7 p n) g v:=by simp only[F7,hgt]
  simp only[a98,hgt]at hm;have hf:=d94 hm;refine⟨g,hgt,ht,hok,?_⟩;have hasc:=b90 (hp.va.asc g hg)
  have hT:=b8m (fun o x=>a42 (F7 p n) o x.1 x.2) g.Ops v.Slots hasc hf.diff fun x hx=>by
   obtain⟨h1,h2⟩:=d00 (hf.known x hx);exact⟨_,h2,h1⟩
  have es:(F7 p (n+1) t v).Slots=g.Ops.flatMap (c5x (fun o x=>a42 (F7 p n) o x.1 x.2) v.Slots):=by
   rw[e,hT];rfl
  rw[es];refine f1q _ _ hasc fun o ho=>?_
  by_cases hex:∃x∈v.Slots,x.1=o.Num
  ·obtain⟨x,hx,he⟩:=hex;rw[d5o _ hf.diff hx he];have h1:=hf.field x hx;rw[he,d3k hp hg ho]at h1;obtain⟨f4,f5,f6⟩:=c1w h1;have z1:=szS hx;obtain⟨_,_,_,q1,q2,_⟩:=(hs x hx).inv
   have ho':∀hk:o.Kind=10,∃g',p.Progs[o.Target.toNat]? =some g'/\0<=o.Target:=fun hk=>by
    obtain⟨t0,t1,_⟩:=((hp.va.pro g hg).2 _ ho).msg hk;have hlt:o.Target.toNat<p.Progs.length:=by omega
    exact⟨_,List.getElem?_eq_getElem hlt,t0⟩
   have elem:∀y,OkD y->SizeOf.sizeOf y<=n->b53 (a98 p n) p o y lev=0->o.Kind=10->NfV p n o.Target (a3y (F7 p n) o y):=fun y hy hz h hk=>by
    obtain⟨g',h1,h2⟩:=ho' hk;rw[a3y,if_pos hk];exact e9c n o.Target g' y _ h1 h2 hy hz (b89 hp h hk)
   simp only[a42];split
   ·refine .inr ⟨_,by rw[he],c82 (N:=F7 p n) (B:=fun _=>False) hp (fun _ _ _ _ _ hf=>hf.elim) (fun t v=>c3l hp n t v) o _ (hs x hx),fun hc y hy hk=>?_,fun hc y hy hk=>?_,fun h4 h5 hk=>?_⟩
    ·rw[a4b,if_pos hc]at hy;obtain⟨y',hy',rfl⟩:=List.mem_map.1 hy;have:=elem y' (q1 y' hy') (by have:=szL hy';omega) ((f4 hc).2.2 y' hy') hk
     rwa [a3y,if_pos hk]at this ⊢
    ·rw[a4b,if_neg (by omega),if_pos hc]at hy;obtain⟨y',hy',rfl⟩:=List.mem_map.1 hy;have hy2:=a6p hy';have:=elem y'.2 (q2 y' hy2).2 (by have:=szP hy2;omega) ((f5 hc).2.2.1 y' hy2).2 hk;exact this
    ·have:=elem x.2 (hs x hx) (by omega) (f6 h4 h5) hk;rw[a4b,if_neg h4,if_neg h5];exact this
   ·rename_i hb;refine .inl ⟨rfl,fun hc=>hb ?_⟩;have:d2e o=false:=by unfold d2e;simp[hc]
    rw[this];rfl
  ·refine .inl ⟨b9d _ fun x hx he=>hex ⟨x,hx,he⟩,fun hc=>?_⟩;obtain⟨x,hx,he⟩:=hf.need o ho hc;exact hex ⟨x,hx,he⟩
end
theorem d1t{α:Type}{c:α->α->Int}(f:α->Nat)(x:α):∀l:List α,a06 f (a8a c x l)=f x+a06 f l
 |[]=>by simp[a8a,a06]
 |y::l=>by
  simp only[a8a];split
  ·simp only[a06,d1t f x l];omega
  ·simp only[a06]
theorem b5n{α:Type}{c:α->α->Int}(f:α->Nat):∀l:List α,a06 f (Q7 c l)<=a06 f l
 |[]=>by simp[Q7,a06]
 |x::l=>by
  have ih:=b5n (c:=c) f l;simp only[Q7];split
  ·rw[d1t];simp only[a06];omega
  ·simp only[a06];omega
theorem f1j{α:Type}{c:α->α->Int}(f:α->Nat):∀l:List α,a06 f (sC c l)=a06 f l
 |[]=>rfl
 |x::l=>by rw[sC,d1t,f1j f l];rfl
theorem c98{α:Type}(f:α->Nat):∀l m:List α,a06 f (l++m)=a06 f l+a06 f m
 |[],m=>by simp[a06]
 |x::l,m=>by simp only[List.cons_append,a06,c98 f l m];omega
theorem d08{α β:Type}{f:β->Nat}{g:α->Nat}{h:α->List β}:∀{l:List α},(∀x∈l,a06 f (h x)<=g x)->a06 f (l.flatMap h)<=a06 g l
 |[],_=>by simp[a06]
 |x::l,hh=>by
  have h1:=hh x (by simp);have h2:=d08 (l:=l) fun y hy=>hh y (by simp[hy])
  rw[List.flatMap_cons,c98];simp only[a06];omega
theorem e2h(v:A0):wtV (a0g v)=wtV v:=by
 unfold a0g;split
 ·rw[b5i,b5i]
 ·rfl
section
variable {N:d2o}(hN:∀t v,wtV (N t v)<=wtV v)
 include hN
theorem d4d(o:GOp)(v:A0):wtV (a3y N o v)<=wtV v:=by
 unfold a3y;split
 ·exact hN _ _
 ·rw[e2h];omega
theorem f3n(o:GOp)(v:A0):wtV (a4b N o v)<=wtV v:=by
 have e:=b5i v;unfold a4b;split
 ·rw[b5i ⟨11,_,_,_,_,_,_⟩];have h:=b5h (l:=v.List_) (f:=fun x=>wtV (a3y N o x)) (g:=wtV) fun x _=>d4d hN o x
  have hs:(⟨#[]⟩:ByteArray).size=0:=rfl;simp only[b6u,a06,hs];omega
 split
 ·rw[b5i ⟨12,_,_,_,_,_,_⟩]
  have h:=b5h (l:=b0a v.Pairs) (f:=fun x=>wtP (a0g x.1,a3y N o x.2)) (g:=wtP) fun x _=>by
   have a:=d4d hN o x.2;have b:=e2h x.1;simp only[wtP];omega
  have h2:=b5n (c:=kc (SizeOf.sizeOf v.Pairs)) wtP v.Pairs;have hs:(⟨#[]⟩:ByteArray).size=0:=rfl;simp only[b6u,a06,hs];have e2:a06 wtP (b0a v.Pairs)<=a06 wtP v.Pairs:=h2;omega
 ·exact d4d hN o v
theorem f55(g:B9)(v:A0):wtV (b61 N g v)<=wtV v:=by
 have e:=b5i v
 have h:=d08 (l:=Q7 kn v.Slots) (f:=wtS) (g:=wtS) (h:=fun x=>a42 N (opV g x.1).1 x.1 x.2) fun x _=>by
  have a:=f3n hN (opV g x.1).1 x.2;simp only[a42];split
  ·simp only[a06,wtS];omega
  ·simp[a06]
 have h2:=b5n (c:=kn) wtS v.Slots;have h3:=f1j (c:=kr) wtR v.Raws;have hs:(⟨#[]⟩:ByteArray).size=0:=rfl;rw[b61,b5i ⟨10,_,_,_,_,_,_⟩];simp only[a06,hs];omega
end
theorem e5z(p:A6):∀(n:Nat) (t:Int) (v:A0),wtV (F7 p n t v)<=wtV v
 |0,t,v=>by
  have e:=b5i v;have:wtV (F7 p 0 t v)=7:=rfl;omega
 |n+1,t,v=>by
  simp only[F7];split
  ·have e:=b5i v;have:wtV (⟨0,0,⟨#[]⟩,[],[],[],[]⟩:A0)=7:=rfl;omega
  ·exact f55 (e5z p n) _ v
end Go.Proofs.YtidmmngcijapcaaGreat.Lift
