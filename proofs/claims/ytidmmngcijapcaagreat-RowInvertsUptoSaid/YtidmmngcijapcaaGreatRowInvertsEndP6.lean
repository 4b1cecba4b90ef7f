/- Part 7 of the texts that prove RowInvertsEnd. -/
import Derived.Test.YtidmmngcijapcaaGreatRowInvertsEndP5
import Derived.Test.YtidmmngcijapcaaGreatRowInvertsEndP4
import Derived.Test.YtidmmngcijapcaaGreatRowInvertsEndP2
import Derived.Lib.DecodeN
namespace Go.Proofs.YtidmmngcijapcaaGreat.Lift
open Go.RowKit
set_option linter.unusedVariables false
set_option linter.unusedSimpArgs false
set_option linter.unnecessarySimpa false
set_option linter.unusedSectionVars false
set_option maxRecDepth 100000
theorem c2u{α:Type}{J:Int->List α->List α->Int->Prop}{C:α->α->Int->Prop}(c:α->α->Int)
  (b8i:∀i s t r,(((decide (i<(s.length:Int)))&&(decide (i<(t.length:Int))))=true->∃y6,s[i.toNat]? =some y6/\0<=i/\(∃y7,t[i.toNat]? =some y7/\0<=i/\(∃y8,C y6 y7 y8/\(((y8 !=0)=true->r=y8)/\((y8 !=0)=false->J (wI (i+1)) s t r)))))/\(((decide (i<(s.length:Int)))&&(decide (i<(t.length:Int))))=false->∃y5,S3 (s.length:Int) (t.length:Int) y5/\(r=y5))->J i s t r)
  (s t:List α) (hs:s.length<=140737488351232) (hC:∀x∈s,∀y∈t,C x y (c x y)):J 0 s t (b53 c s t):=by
 have key:∀(d i:Nat),s.length - i<=d->i<=s.length->i<=t.length->J i s t (b53 c (s.drop i) (t.drop i)):=by
  intro d
  induction d with
  |zero=>
   intro i hd hi hj;refine b8i _ _ _ _ ⟨fun h=>by simp at h;omega,fun _=>⟨_,c0y _ _,?_⟩⟩;rw[List.drop_eq_nil_of_le (show s.length<=i by omega)];rcases Nat.lt_or_ge i t.length with h|h
   ·rw[List.drop_eq_getElem_cons h];simp only[b53,a4l];rw[if_pos (by omega)]
   ·rw[List.drop_eq_nil_of_le h];simp only[b53,a4l];rw[if_neg (by omega),if_neg (by omega)]
  |succ d ih=>
   intro i hd hi hj;rcases Nat.lt_or_ge i s.length with hlt|hge
   ·have ds:s.drop i=s[i]::s.drop (i+1):=List.drop_eq_getElem_cons hlt;rcases Nat.lt_or_ge i t.length with h|h
    ·have e1:wI ((i:Int)+1)=((i+1:Nat):Int):=by rw[wI,D3 (by omega)];omega
     have dt:t.drop i=t[i]::t.drop (i+1):=List.drop_eq_getElem_cons h;refine b8i _ _ _ _ ⟨fun _=>⟨s[i],by simp,by omega,t[i],by simp,by omega,c s[i] t[i],hC _ (List.getElem_mem _) _ (List.getElem_mem _),fun h2=>?_,fun h2=>?_⟩,fun h2=>by simp at h2;omega⟩
     ·simp at h2;rw[ds,dt];simp[b53,h2]
     ·simp at h2;rw[ds,dt,e1];have:=ih (i+1) (by omega) (by omega) (by omega);simpa[b53,h2]using this
    ·refine b8i _ _ _ _ ⟨fun h=>by simp at h;omega,fun _=>⟨_,c0y _ _,?_⟩⟩;rw[ds,List.drop_eq_nil_of_le h];simp only[b53,a4l];rw[if_neg (by omega),if_pos (by omega)]
   ·refine b8i _ _ _ _ ⟨fun h=>by simp at h;omega,fun _=>⟨_,c0y _ _,?_⟩⟩;rw[List.drop_eq_nil_of_le hge];rcases Nat.lt_or_ge i t.length with h|h
    ·rw[List.drop_eq_getElem_cons h];simp only[b53,a4l];rw[if_pos (by omega)]
    ·rw[List.drop_eq_nil_of_le h];simp only[b53,a4l];rw[if_neg (by omega),if_neg (by omega)]
 simpa using key s.length 0 (by omega) (by omega) (by omega)
theorem d5l{x y:Int}:a4l x y≠0↔x≠y:=by
 rcases S0 x y with h|h|h<;>rw[h.2]<;>omega
theorem f93(x y:H5):c92 x y (e6s x y):=by
 unfold e6s;refine d1p _ _ _ ⟨fun h=>⟨_,c0y _ _,?_⟩,fun h=>⟨fun h2=>⟨_,c0y _ _,?_⟩,fun h2=>⟨fun h3=>?_,fun h3=>⟨fun h4=>?_,fun h4=>⟨fun h5=>?_,fun h5=>⟨fun h6=>?_,fun h6=>?_⟩⟩⟩⟩⟩⟩
 ·simp at h;simp only[orL];rw[if_pos (d5l.2 h)]
 all_goals simp only[bne_eq_false_iff_eq]at h
 all_goals have e1:a4l x.Num y.Num=0:=by rcases S0 x.Num y.Num with g|g|g<;>omega
 ·simp at h2;simp only[orL,e1];rw[if_neg (by simp),if_pos (d5l.2 h2)]
 all_goals simp only[bne_eq_false_iff_eq]at h2
 all_goals have e2:a4l x.Wire y.Wire=0:=by rcases S0 x.Wire y.Wire with g|g|g<;>omega
 ·simp at h3;have e3:a4l x.Bits y.Bits= -1:=by simp[a4l,h3]
  simp[orL,e1,e2,e3]
 ·simp at h3 h4;have e3:a4l x.Bits y.Bits=1:=by simp[a4l,h4];omega
  simp[orL,e1,e2,e3]
 all_goals simp only[decide_eq_false_iff_not]at h3 h4
 all_goals have e3:a4l x.Bits y.Bits=0:=by rcases S0 x.Bits y.Bits with g|g|g<;>omega
 ·simp[orL,e1,e2,e3,d5q,h5]
 ·have e4:d5q x.Data y.Data=1:=by unfold d5q;rw[if_neg (nt h5),if_pos h6]
  simp[orL,e1,e2,e3,e4]
 ·have e4:d5q x.Data y.Data=0:=by unfold d5q;rw[if_neg (nt h5),if_neg (nt h6)]
  simp[orL,e1,e2,e3,e4]
theorem or2(u v:Int):orL [u,v]=if u≠0 then u else v:=by
 simp only[orL]
 by_cases hu:u=0
 ·subst hu;by_cases hv:v=0<;>simp[hv]
 ·simp[hu]
theorem c0t:∀(n:Nat) (a b:A0),OkD a->OkD b->SizeOf.sizeOf a<=n->a1o a b (Y2 n a b)
 |0,a,b,_,_,h=>by have:=szV a;omega
 |n+1,a,b,ha,hb,hn=>by
  obtain⟨_,hab,⟨la,pa,sa,ra⟩,hla,hpa,hsa⟩:=ha.inv;obtain⟨_,hbb,_,hlb,hpb,hsb⟩:=hb.inv
  have sc:∀k:Int,k=10\/k=11\/k=12->¬isS k=true:=by
   intro k hk h;unfold isS at h;rw[Bool.and_eq_true,decide_eq_true_eq,decide_eq_true_eq]at h;omega
  refine d2g _ _ _ ⟨fun h=>⟨_,c0y _ _,?_⟩,fun h=>?_⟩
  ·simp at h;rw[Y2,if_pos h]
  have hk:a.Kind=b.Kind:=by simpa using h
  rw[Y2,if_neg (by simp[hk])];refine⟨fun h1=>?_,fun h1=>⟨fun h2=>?_,fun h2=>⟨fun h3=>?_,fun h3=>?_⟩⟩⟩
  all_goals simp only[beq_iff_eq,beq_eq_false_iff_ne]at*
  ·rw[if_neg (sc _ (by omega)),if_pos h1];exact⟨_,c7w _ _ _ (c2u (Y2 n) (fun i s t r hw=>c1u _ _ _ _ hw) _ _ la fun x hx y hy=>c0t n x y (hla x hx) (hlb y hy) (by have:=szL hx;omega)),rfl⟩
  ·rw[if_neg (sc _ (by omega)),if_neg h1,if_pos h2];refine⟨_,c7a _ _ _ (c2u (C:=fun x y z=>∃u v,a1o x.1 y.1 u/\a1o x.2 y.2 v/\z=orL [u,v]) (fun x y=>orL [Y2 n x.1 y.1,Y2 n x.2 y.2]) (fun i s t r hw=>c01 _ _ _ _ ⟨fun h=>?_,hw.2⟩) _ _ pa fun x hx y hy=>?_),rfl⟩
   ·obtain⟨y6,p1,p2,y7,q1,q2,z,⟨u,v,c1,c2,rfl⟩,r1,r2⟩:=hw.1 h;rw[or2]at r1 r2;refine⟨y6,p1,p2,y7,q1,q2,u,c1,fun hu=>?_,fun hu=>⟨y6,p1,p2,y7,q1,q2,v,c2,fun hv=>?_,fun hv=>?_⟩⟩
    ·have:u≠0:=by simpa using hu
     rw[if_pos this]at r1;exact r1 (by simpa using this)
    ·have:u=0:=by simpa using hu
     rw[if_neg (by simp[this])]at r1;exact r1 hv
    ·have:u=0:=by simpa using hu
     rw[if_neg (by simp[this])]at r2;exact r2 hv
   ·have hz:=szP hx;exact⟨_,_,c0t n _ _ (hpa x hx).1 (hpb y hy).1 (by omega),c0t n _ _ (hpa x hx).2 (hpb y hy).2 (by omega),rfl⟩
  ·rw[if_neg (sc _ (by omega)),if_neg h1,if_neg h2,if_pos h3,or2];refine⟨_,c7h _ _ _ (c2u (C:=fun x y z=>∃u v,S3 x.1 y.1 u/\a1o x.2 y.2 v/\z=orL [u,v]) (fun x y=>orL [a4l x.1 y.1,Y2 n x.2 y.2]) (fun i s t r hw=>c1h _ _ _ _ ⟨fun h=>?_,hw.2⟩) _ _ sa fun x hx y hy=>?_),fun h4=>?_,fun h4=>⟨_,d05 _ _ _ (c2u e6s (fun i s t r hw=>c2g _ _ _ _ hw) _ _ ra fun x hx y hy=>f93 x y),?_⟩⟩
   ·obtain⟨y6,p1,p2,y7,q1,q2,z,⟨u,v,c1,c2,rfl⟩,r1,r2⟩:=hw.1 h;rw[or2]at r1 r2;refine⟨y6,p1,p2,y7,q1,q2,u,c1,fun hu=>?_,fun hu=>⟨y6,p1,p2,y7,q1,q2,v,c2,fun hv=>?_,fun hv=>?_⟩⟩
    ·have:u≠0:=by simpa using hu
     rw[if_pos this]at r1;exact r1 (by simpa using this)
    ·have:u=0:=by simpa using hu
     rw[if_neg (by simp[this])]at r1;exact r1 hv
    ·have:u=0:=by simpa using hu
     rw[if_neg (by simp[this])]at r2;exact r2 hv
   ·have hz:=szS hx;exact⟨_,_,c0y _ _,c0t n _ _ (hsa x hx) (hsb y hy) (by omega),rfl⟩
   ·rw[if_pos (by simpa using h4)]
   ·rw[if_neg (by simpa using h4)]
  ·refine⟨_,f3m a b hk hab hbb,?_⟩
   by_cases hs:isS a.Kind=true
   ·rw[if_pos hs,if_pos hs]
   ·rw[if_neg hs,if_neg hs,if_neg h1,if_neg h2,if_neg h3]
abbrev Tp{α:Type}(c:α->α->Int):Prop:=Pre c (fun _:α=>True)
section
variable {α:Type}{c c1 c2:α->α->Int}
theorem Tp.s(h:Tp c)(x y:α):c x y<0↔0<c y x:=h.sym x y trivial trivial
theorem Tp.t(h:Tp c)(x y z:α):c x y<=0->c y z<=0->c x z<=0:=h.trans x y z trivial trivial trivial
theorem f7y(h:Tp c){x y:α}{p q:Int}(hpq:p<0↔0<q):(if c x y≠0 then c x y else p)<0↔0<(if c y x≠0 then c y x else q):=by
 have h1:=h.s x y;have h2:=h.s y x
 by_cases hx:c x y=0
 ·have hy:c y x=0:=by omega
  rw[if_neg (by simp[hx]),if_neg (by simp[hy])];exact hpq
 ·have hy:c y x≠0:=by omega
  rw[if_pos hx,if_pos hy];exact h1
theorem e11(h:Tp c){x y z:α}{p q r:Int}(hp:p<=0->q<=0->r<=0)(h1:(if c x y≠0 then c x y else p)<=0)(h2:(if c y z≠0 then c y z else q)<=0):(if c x z≠0 then c x z else r)<=0:=by
 have sxy:=h.s x y;have syx:=h.s y x;have syz:=h.s y z;have szy:=h.s z y;have sxz:=h.s x z;have szx:=h.s z x;have t1:=h.t x y z;have t2:=h.t y z x;have t3:=h.t z x y
 by_cases hxz:c x z=0
 ·rw[if_neg (by simp[hxz])]
  have e1:c x y=0:=by
   by_cases e:c x y=0
   ·exact e
   ·rw[if_pos e]at h1
    by_cases e2:c y z=0
    ·have:=t2 (by omega) (by omega);omega
    ·rw[if_pos e2]at h2;have:=t2 (by omega) (by omega);omega
  have e2:c y z=0:=by
   by_cases e:c y z=0
   ·exact e
   ·rw[if_pos e]at h2;have:=t3 (by omega) (by omega);omega
  rw[if_neg (by simp[e1])]at h1;rw[if_neg (by simp[e2])]at h2;exact hp h1 h2
 ·rw[if_pos hxz]
  by_cases e1:c x y=0
  ·by_cases e2:c y z=0
   ·exact t1 (by omega) (by omega)
   ·rw[if_pos e2]at h2;exact t1 (by omega) (by omega)
  ·rw[if_pos e1]at h1
   by_cases e2:c y z=0
   ·exact t1 (by omega) (by omega)
   ·rw[if_pos e2]at h2;exact t1 (by omega) (by omega)
theorem e3e(h1:Tp c1)(h2:Tp c2):Tp (fun x y=>orL [c1 x y,c2 x y]):=by
 refine⟨fun x y _ _=>?_,fun x y z _ _ _=>?_⟩
 ·simp only[or2];exact f7y h1 (h2.s x y)
 ·simp only[or2];exact e11 h1 (h2.t x y z)
theorem c97(h:Tp c):Tp (b53 c):=by
 refine⟨fun l m _ _=>?_,fun l m k _ _ _=>?_⟩
 ·induction l generalizing m with
  |nil=>cases m<;>simp[b53]
  |cons x l ih=>
   cases m with
   |nil=>simp[b53]
   |cons y m=>simp only[b53];exact f7y h (ih m)
 ·induction l generalizing m k with
  |nil=>cases m<;>cases k<;>simp[b53]
  |cons x l ih=>
   cases m with
   |nil=>simp[b53]
   |cons y m=>
    cases k with
    |nil=>simp only[b53];intro _ h2;exact h2
    |cons z k=>simp only[b53];exact e11 h (ih m k)
theorem g4g(key:α->Int)(f:Int->α->α->Int)(hf:∀k,Tp (f k)):Tp (fun a b=>if key a≠key b then a4l (key a) (key b) else f (key a) a b):=by
 refine⟨fun x y _ _=>?_,fun x y z _ _ _ h1 h2=>?_⟩
 ·by_cases h:key x=key y
  ·simp only[h,ne_eq,not_true_eq_false,if_false];exact(hf _).s x y
  ·simp only[ne_eq,h,not_false_eq_true,if_true,Ne.symm h];rcases S0 (key x) (key y) with g|g|g<;>rcases S0 (key y) (key x) with e|e|e<;>rw[g.2,e.2]<;>omega
 ·simp only[ne_eq]at h1 h2 ⊢
  by_cases e1:key x=key y
  ·by_cases e2:key y=key z
   ·rw[if_neg (by simp[e1,e2])];rw[if_neg (by simp[e1])]at h1;rw[if_neg (by simp[e2])]at h2;rw[<-e1]at h2;exact(hf _).t x y z h1 h2
   ·rw[if_pos e2]at h2;rw[if_pos (by rw[e1];exact e2),e1];exact h2
  ·rw[if_pos e1]at h1
   by_cases e2:key y=key z
   ·rw[if_pos (by rw[<-e2];exact e1),<-e2];exact h1
   ·rw[if_pos e2]at h2;rcases S0 (key x) (key y) with g|g|g<;>rcases S0 (key y) (key z) with e|e|e<;>rw[g.2]at h1<;>rw[e.2]at h2<;>first|omega|skip
    rw[if_pos (by omega)];rcases S0 (key x) (key z) with d|d|d<;>rw[d.2]<;>omega
theorem e5i:Tp (fun _ _:α=>0):=⟨fun x y _ _=>by simp,fun x y z _ _ _ _ _=>by simp⟩
theorem b2m{β:Type}(h:Tp c)(f:β->α):Tp (fun x y=>c (f x) (f y)):=⟨fun x y _ _=>h.s _ _,fun x y z _ _ _=>h.t _ _ _⟩
theorem d9t(p:Bool)(h1:Tp c1)(h2:Tp c2):Tp (fun x y=>if p=true then c1 x y else c2 x y):=by cases p<;>simpa
theorem f2x:Tp a4l:=e54 fun x:Int=>x
end
theorem d2n:∀l m:List UInt8,(if Op.bytesLess l m=true then(-1:Int) else if(!(Op.bytesLess l m||l==m))=true then 1 else 0)=b53 (fun a b:UInt8=>a4l a.toNat b.toNat) l m
 |[],[]=>by simp[Op.bytesLess,b53]
 |[],b::m=>by simp[Op.bytesLess,b53]
 |a::l,[]=>by simp[Op.bytesLess,b53]
 |a::l,b::m=>by
  have ih:=d2n l m;simp only[b53,Op.bytesLess];rw[<-ih];have hab:a<b↔a.toNat<b.toNat:=UInt8.lt_iff_toNat_lt;have hba:b<a↔b.toNat<a.toNat:=UInt8.lt_iff_toNat_lt;rcases S0 (a.toNat:Int) (b.toNat:Int) with g|g|g
  ·have h1:a<b:=hab.2 (by omega);simp[h1,g.2]
  ·have h1:a=b:=UInt8.toNat_inj.1 (by omega);subst h1;have h2:¬a<a:=UInt8.lt_irrefl a;simp[h2,g.2]
  ·have h1:¬a<b:=fun h=>by have:=hab.1 h;omega
   have h2:¬a=b:=fun h=>by subst h;omega
   simp[h1,h2,g.2]
theorem h3l:Tp d5q:=by
 have h:=b2m (c97 (b2m f2x fun a:UInt8=>(a.toNat:Int))) fun x:ByteArray=>x.toList
 have e:d5q=fun x y=>b53 (fun a b:UInt8=>a4l (a.toNat:Int) (b.toNat:Int)) x.toList y.toList:=by
  funext x y
  exact d2n x.toList y.toList
 rw[e];exact h
theorem h5z:Tp e6s:=by
 have h:=e3e (b2m f2x fun x:H5=>x.Num) (e3e (b2m f2x fun x:H5=>x.Wire) (e3e (b2m f2x fun x:H5=>x.Bits) (b2m h3l fun x:H5=>x.Data)))
 have e:e6s=fun x y:H5=>orL [a4l x.Num y.Num,orL [a4l x.Wire y.Wire,orL [a4l x.Bits y.Bits,d5q x.Data y.Data]]]:=by
  funext x y
  simp only[e6s,orL];split
  ·rfl
  ·split
   ·simp[*]
   ·split
    ·simp[*]
    ·split<;>simp[*]
 rw[e];exact h
def g00(k:Int)(a b:A0):Int:=
 if((k==7)||(k==8))=true then d5q a.Text b.Text
 else if((k==2)||(k==3))=true then a4l (wI a.Bits) (wI b.Bits)
 else if(k==6)=true then a4l (b7g a.Bits) (b7g b.Bits)
 else a4l a.Bits b.Bits
theorem h57(k:Int):Tp (g00 k):=d9t _ (b2m h3l fun v:A0=>v.Text) (d9t _ (b2m f2x fun v:A0=>wI v.Bits) (d9t _ (b2m f2x fun v:A0=>b7g v.Bits) (b2m f2x fun v:A0=>v.Bits)))
theorem g2u:∀n,Tp (Y2 n)
 |0=>e5i
 |n+1=>by
  have ih:=g2u n
  have h:=g4g (fun v:A0=>v.Kind) (fun k a b=>if isS k=true then g00 k a b else if decide (k=11)=true then b53 (Y2 n) a.List_ b.List_ else if decide (k=12)=true then b53 (fun x y=>orL [Y2 n x.1 y.1,Y2 n x.2 y.2]) a.Pairs b.Pairs else if decide (k=10)=true then orL [b53 (fun x y=>orL [a4l x.1 y.1,Y2 n x.2 y.2]) a.Slots b.Slots,b53 e6s a.Raws b.Raws] else 0)
   fun k=>d9t _ (h57 k) (d9t _ (b2m (c97 ih) fun v:A0=>v.List_) (d9t _ (b2m (c97 (e3e (b2m ih fun x:A0 × A0=>x.1) (b2m ih fun x:A0 × A0=>x.2))) fun v:A0=>v.Pairs) (d9t _ (e3e (b2m (c97 (e3e (b2m f2x fun x:Int × A0=>x.1) (b2m ih fun x:Int × A0=>x.2))) fun v:A0=>v.Slots) (b2m (c97 h5z) fun v:A0=>v.Raws)) e5i)))
  have e:Y2 (n+1)=fun a b:A0=>if a.Kind≠b.Kind then a4l a.Kind b.Kind else(fun(k:Int) (a b:A0)=>if isS k=true then g00 k a b else if decide (k=11)=true then b53 (Y2 n) a.List_ b.List_ else if decide (k=12)=true then b53 (fun x y=>orL [Y2 n x.1 y.1,Y2 n x.2 y.2]) a.Pairs b.Pairs else if decide (k=10)=true then orL [b53 (fun x y=>orL [a4l x.1 y.1,Y2 n x.2 y.2]) a.Slots b.Slots,b53 e6s a.Raws b.Raws] else 0) a.Kind a b:=by
   funext a b
   simp only[Y2,decide_eq_true_eq];rfl
  rw[e];exact h
def a0j{α:Type}(c:α->α->Int):List α->List α
 |[]=>[]
 |[x]=>[x]
 |x::y::l=>if c x y=0 then a0j c (y::l) else x::a0j c (y::l)
abbrev kc(N:Nat)(x y:A0 × A0):Int:=Y2 N x.1 y.1
def OkP(N:Nat)(x:A0 × A0):Prop:=OkD x.1/\SizeOf.sizeOf x.1<=N
theorem e4q(N:Nat)(S:List (A0 × A0))(hl:S.length*256<=140737488355328)(hS:∀x∈S,OkP N x):∀(d i:Nat) (done:List (A0 × A0)),S.length - i<=d->i<=S.length->done.length<=i->a4p i S done (done++a0j (kc N) (S.drop i)):=by
 intro d
 induction d with
 |zero=>
  intro i done hd hi hn;have e:i=S.length:=by omega
  subst e;exact a5k _ _ _ _ ⟨fun h=>by simp at h,fun _=>by simp[a0j]⟩
 |succ d ih=>
  intro i done hd hi hn;rcases Nat.lt_or_ge i S.length with hlt|hge
  ·have e1:wI ((i:Int)+1)=((i+1:Nat):Int):=by rw[wI,D3 (by omega)];omega
   have dr:S.drop i=S[i]::S.drop (i+1):=List.drop_eq_getElem_cons hlt;refine a5k _ _ _ _ ⟨fun _=>⟨S[i],by simp,by omega,fun b=>a0j (kc N) (S.drop i)=if b then S[i]::a0j (kc N) (S.drop (i+1)) else a0j (kc N) (S.drop (i+1)),fun b hb=>⟨fun h=>?_,fun h=>?_⟩,fun h=>?_,fun h=>?_⟩,fun h=>by simp at h;omega⟩
   ·subst h;refine⟨by simp;omega,?_⟩;rw[e1,hb];have:=ih (i+1) (done++[S[i]]) (by omega) (by omega) (by simp;omega);simpa using this
   ·subst h;rw[e1,hb];exact ih (i+1) done (by omega) (by omega) (by omega)
   ·rw[e1]at h;simp at h;have:S.drop (i+1)=[]:=List.drop_eq_nil_of_le (by omega);rw[dr,this];rfl
   ·rw[e1]at h ⊢;simp at h;have h2:i+1<S.length:=by omega
    have dr2:S.drop (i+1)=S[i+1]::S.drop (i+1+1):=List.drop_eq_getElem_cons h2;have o1:=hS _ (List.getElem_mem hlt);have o2:=hS _ (List.getElem_mem h2);refine⟨S[i+1],by simp,by omega,_,b66 _ _ _ ⟨_,c6v N _ _ o1.1 o2.1 o1.2,rfl⟩,?_⟩;rw[dr,dr2];simp only[a0j];rcases Classical.em (Y2 N S[i].1 S[i+1].1=0) with h3|h3
    ·simp[kc,h3]
    ·simp[kc,h3]
  ·exact a5k _ _ _ _ ⟨fun h=>by simp at h;omega,fun _=>by rw[List.drop_eq_nil_of_le hge];simp[a0j]⟩
theorem e7x(N:Nat):Pre (kc N) (OkP N):=by
 have h:=b2m (g2u N) fun x:A0 × A0=>x.1
 exact⟨fun x y _ _=>h.s x y,fun x y z _ _ _=>h.t x y z⟩
theorem e3j(N:Nat)(x y:A0 × A0)(hx:OkP N x)(hy:OkP N y):f68 (⟨193,[],[],rfl⟩:GFn) x y (kc N x y):=
 ⟨193,[],[],rfl,(show plainL [AV.agg (U7 x),AV.agg (U7 y)]=true by simp[plainL,plain,O8]),c3x _ _ _ ⟨_,c6v N _ _ hx.1 hy.1 hx.2,rfl⟩⟩
theorem f39(N:Nat)(l:List (A0 × A0))(hl:l.length*256<=140737488355328)(hok:∀x∈l,OkP N x):∃S,d00 (kc N) l S/\b6j l (a0j (kc N) S):=by
 rcases Classical.em (l=[]) with h0|h0
 ·subst h0;refine⟨[],⟨[],.nil,by simp[a3t],rfl⟩,b67 _ _ ⟨fun _=>⟨?_,a2q _,c0z _ _ _ ⟨fun h=>by simp at h,fun _=>rfl⟩⟩,fun h=>(h rfl).elim⟩⟩;exact b04 _ _ fun b _=>⟨fun _=>rfl,fun _=>⟨by simp,rfl⟩⟩
 ·have hpos:0<l.length:=List.length_pos_iff.2 h0;have hmem:∀x∈a3t l,x.1∈l:=fun x hx=>by rw[<-c39 l];exact List.mem_map_of_mem hx
  obtain⟨S,h1,h2,h3⟩:=f6g (e8w ⟨193,[],[],rfl⟩) (e7x N) (fun x y hx hy=>e3j N x y hx hy) (n0:=l.length) (by omega) hpos (a3t l) (by simp[a3t]) (fun x hx=>hok _ (hmem x hx)) (d2q l);rw[c39]at h3;have hlen:(fs S).length=l.length:=by simp[h2.length_eq,a3t]
  refine⟨fs S,⟨S,h1,h2,rfl⟩,b67 _ _ ⟨fun h=>(h0 h).elim,fun _=>⟨a7k _ ⟨h0,hl⟩,fs S,h3,⟨h0,fun h=>?_⟩,hlen,?_⟩⟩⟩
  ·rw[h]at hlen;simp at hlen;omega
  ·have:=e4q N (fs S) (by rw[hlen];exact hl) (fun x hx=>by
    obtain⟨y,hy,rfl⟩:=List.mem_map.1 hx;exact hok _ (hmem y (h2.mem_iff.1 hy))) (fs S).length 0 [] (by omega) (by omega) (by simp)
   simpa using this
section
variable {α:Type}(c:α->α->Int)
def a7f(x:α):List α->List α
 |[]=>[x]
 |y::l=>if c y x<0 then y::a7f x l else x::y::l
def lone(x:α)(l:List α):Bool:=l.all fun y=>c x y !=0
def d8w:List α->List α->List α
 |acc,[]=>acc
 |acc,x::l=>d8w (if lone c x l=true then a7f c x acc else acc) l
def S4:List α->List α
 |[]=>[]
 |x::l=>if lone c x l=true then a7f c x (S4 l) else S4 l
theorem d4l(x:α):∀l,(a7f c x l).length=l.length+1
 |[]=>rfl
 |y::l=>by
  simp only[a7f];split
  ·simp[d4l x l]
  ·simp
variable {c}
theorem d5w(h:Tp c){x y:α}(hxy:c x y≠0):∀l,a7f c x (a7f c y l)=a7f c y (a7f c x l)
 |[]=>by
  have s1:=h.s x y;have s2:=h.s y x;simp only[a7f]
  by_cases e:c y x<0
  ·rw[if_pos e,if_neg (by omega)]
  ·rw[if_neg e,if_pos (by omega)]
 |z::l=>by
  have s1:=h.s x y;have s2:=h.s y x;have s3:=h.s z x;have s4:=h.s z y;have s5:=h.s x z;have s6:=h.s y z;have t1:=h.t y x z;have t2:=h.t x y z;have t3:=h.t x z y;have t4:=h.t y z x;have t5:=h.t z x y;have t6:=h.t z y x;simp only[a7f]
  by_cases e1:c z x<0<;>by_cases e2:c z y<0<;>simp only[e1,e2,if_true,if_false,a7f]
  ·rw[d5w h hxy l]
  ·have e3:¬c x y<0:=by omega
   have e4:c y x<0:=by omega
   simp[e4]
  ·have e3:c x y<0:=by omega
   simp[e3]
  ·by_cases e4:c y x<0
   ·simp[e4];omega
   ·have e5:c x y<0:=by omega
    simp[e4,e5]
def c2h:List α->List α->List α
 |acc,[]=>acc
 |acc,x::l=>if lone c x l=true then a7f c x (c2h acc l) else c2h acc l
theorem d3b(h:Tp c)(x:α):∀(l acc:List α),lone c x l=true->c2h (c:=c) (a7f c x acc) l=a7f c x (c2h (c:=c) acc l)
 |[],acc,_=>rfl
 |y::l,acc,hl=>by
  simp only[lone,List.all_cons,Bool.and_eq_true,bne_iff_ne,ne_eq]at hl;have ih:=d3b h x l acc hl.2;simp only[c2h,ih];split
  ·exact d5w h (by have:=h.s x y;have:=h.s y x;omega) _
  ·rfl
theorem d5k(h:Tp c):∀(l acc:List α),d8w c acc l=c2h (c:=c) acc l
 |[],acc=>rfl
 |x::l,acc=>by
  simp only[d8w,c2h]
  by_cases e:lone c x l=true
  ·rw[if_pos e,if_pos e,d5k h l,d3b h x l acc e]
  ·rw[if_neg e,if_neg e,d5k h l]
theorem e0o:∀(l:List α),c2h (c:=c) [] l=S4 c l
 |[]=>rfl
 |x::l=>by simp only[c2h,S4,e0o l]
end
section
variable {N:Nat}{l:List (A0 × A0)}(hl:l.length*256<=140737488355328) (hok:∀x∈l,OkP N x)
 include hl hok
theorem e8e(i:Nat)(hi:i<l.length)(acc:List (A0 × A0))(hacc:acc.length<=i)(hoa:∀x∈acc,OkP N x)(r:List (A0 × A0)):∀(d at_:Nat),acc.length - at_<=d->at_<=acc.length->J2 ((i+1:Nat):Int) (acc.take at_++a7f (kc N) l[i] (acc.drop at_)) l r->a6q at_ i acc l r:=by
 have e1:wI ((i:Int)+1)=((i+1:Nat):Int):=by rw[wI,D3 (by omega)];omega
 have endc:∀at_:Nat,at_<=acc.length->J2 ((i+1:Nat):Int) (acc.take at_++l[i]::acc.drop at_) l r->∃y59,l[(i:Int).toNat]? =some y59/\0<=(i:Int)/\((0<=(at_:Int)/\(at_:Int)<=(acc.length:Int)/\(acc.length:Int)<=(acc.length:Int))/\(([y59].length+((acc.take (acc.length:Int).toNat).drop (at_:Int).toNat).length)*256<=140737488355328/\((0<=(0:Int)/\(0:Int)<=(at_:Int)/\(at_:Int)<=(acc.length:Int))/\((([]:List (A0 × A0)).length+((acc.take (at_:Int).toNat).drop (0:Int).toNat).length)*256<=140737488355328/\(((([]:List (A0 × A0))++((acc.take (at_:Int).toNat).drop (0:Int).toNat)).length+([y59]++((acc.take (acc.length:Int).toNat).drop (at_:Int).toNat)).length)*256<=140737488355328/\(J2 (wI ((i:Int)+1)) ((([]:List (A0 × A0))++((acc.take (at_:Int).toNat).drop (0:Int).toNat))++([y59]++((acc.take (acc.length:Int).toNat).drop (at_:Int).toNat))) l r)))))):=by
  intro at_ ha hr;refine⟨l[i],by simp,by omega,⟨by omega,by omega,by omega⟩,by simp;omega,⟨by omega,by omega,by omega⟩,by simp;omega,by simp;omega,?_⟩;rw[e1];simpa using hr
 intro d
 induction d with
 |zero=>
  intro at_ hd ha hr;have e:at_=acc.length:=by omega
  subst e;exact a3z _ _ _ _ _ ⟨fun h=>by simp at h,fun _=>endc _ (Nat.le_refl _) (by simpa[a7f]using hr)⟩
 |succ d ih=>
  intro at_ hd ha hr;rcases Nat.lt_or_ge at_ acc.length with hlt|hge
  ·have e2:wI ((at_:Int)+1)=((at_+1:Nat):Int):=by rw[wI,D3 (by omega)];omega
   have da:acc.drop at_=acc[at_]::acc.drop (at_+1):=List.drop_eq_getElem_cons hlt;have o1:=hoa _ (List.getElem_mem hlt);have o2:=hok _ (List.getElem_mem hi);rw[da]at hr;simp only[a7f]at hr;refine a3z _ _ _ _ _ ⟨fun _=>⟨acc[at_],by simp,by omega,l[i],by simp,by omega,_,c0t N _ _ o1.1 o2.1 o1.2,fun h=>?_,fun h=>?_⟩,fun h=>by simp at h;omega⟩
   ·have h':kc N acc[at_] l[i]<0:=by simpa using h
    rw[if_pos h']at hr;rw[e2];refine ih (at_+1) (by omega) (by omega) ?_;rw[List.take_succ_eq_append_getElem hlt,List.append_assoc];exact hr
   ·have h':¬kc N acc[at_] l[i]<0:=by simpa using h
    rw[if_neg h']at hr;have:=endc at_ ha (by rw[da];exact hr);exact this
  ·have e:at_=acc.length:=by omega
   subst e;exact a3z _ _ _ _ _ ⟨fun h=>by simp at h,fun _=>endc _ (Nat.le_refl _) (by simpa[a7f]using hr)⟩
theorem d84(i:Nat)(hi:i<l.length)(acc:List (A0 × A0))(hacc:acc.length<=i)(hoa:∀x∈acc,OkP N x)(r:List (A0 × A0)):∀(d j:Nat) (o:Bool),l.length - j<=d->j<=l.length->J2 ((i+1:Nat):Int) (if(o&&lone (kc N) l[i] (l.drop j))=true then a7f (kc N) l[i] acc else acc) l r->a0l j o i acc l r:=by
 have e1:wI ((i:Int)+1)=((i+1:Nat):Int):=by rw[wI,D3 (by omega)];omega
 have fin:∀(o:Bool),J2 ((i+1:Nat):Int) (if(o&&lone (kc N) l[i] (l.drop l.length))=true then a7f (kc N) l[i] acc else acc) l r->a0l (l.length:Nat) o i acc l r:=by
  intro o hr;refine b0s _ _ _ _ _ _ ⟨fun h=>by simp at h,fun _=>⟨fun h=>?_,fun h=>?_⟩⟩
  ·subst h;have hr':J2 ((i+1:Nat):Int) (a7f (kc N) l[i] acc) l r:=by simpa[lone]using hr
   have:=e8e hl hok i hi acc hacc hoa r acc.length 0 (by omega) (by omega) (by simpa using hr');simpa using this
  ·subst h;rw[e1];simpa using hr
 intro d
 induction d with
 |zero=>
  intro j o hd hj hr;have e:j=l.length:=by omega
  subst e;exact fin o hr
 |succ d ih=>
  intro j o hd hj hr;rcases Nat.lt_or_ge j l.length with hlt|hge
  ·have e2:wI ((j:Int)+1)=((j+1:Nat):Int):=by rw[wI,D3 (by omega)];omega
   have dl:l.drop j=l[j]::l.drop (j+1):=List.drop_eq_getElem_cons hlt;have o1:=hok _ (List.getElem_mem hi);have o2:=hok _ (List.getElem_mem hlt);rw[dl]at hr;refine b0s _ _ _ _ _ _ ⟨fun _=>⟨fun h=>?_,fun h=>?_⟩,fun h=>by simp at h;omega⟩
   ·subst h;refine⟨l[i],by simp,by omega,l[j],by simp,by omega,_,c0t N _ _ o1.1 o2.1 o1.2,?_⟩;rw[e2];refine ih (j+1) _ (by omega) (by omega) ?_;rw[Bool.true_and,show lone (kc N) l[i] (l[j]::l.drop (j+1))=((kc N l[i] l[j] !=0)&&lone (kc N) l[i] (l.drop (j+1))) from rfl]at hr;exact hr
   ·subst h;rw[e2];exact ih (j+1) _ (by omega) (by omega) (by simpa using hr)
  ·have e:j=l.length:=by omega
   subst e;exact fin o hr
theorem d9c:∀(d i:Nat) (acc:List (A0 × A0)),l.length - i<=d->i<=l.length->acc.length<=i->(∀x∈acc,OkP N x)->J2 i acc l (d8w (kc N) acc (l.drop i)):=by
 intro d
 induction d with
 |zero=>
  intro i acc hd hi ha hoa;have e:i=l.length:=by omega
  subst e;exact a31 _ _ _ _ ⟨fun h=>by simp at h,fun _=>by simp[d8w]⟩
 |succ d ih=>
  intro i acc hd hi ha hoa;rcases Nat.lt_or_ge i l.length with hlt|hge
  ·have e1:wI ((i:Int)+1)=((i+1:Nat):Int):=by rw[wI,D3 (by omega)];omega
   have dl:l.drop i=l[i]::l.drop (i+1):=List.drop_eq_getElem_cons hlt
   have mem_ins:∀(x:A0 × A0) (m:List (A0 × A0)),∀y∈a7f (kc N) x m,y=x\/y∈m:=by
    intro x m
    induction m with
    |nil=>intro y hy;simp[a7f]at hy;exact .inl hy
    |cons z m ihm=>
     intro y hy;simp only[a7f]at hy;split at hy
     ·rcases List.mem_cons.1 hy with h|h
      ·exact .inr (by rw[h];simp)
      ·rcases ihm y h with h|h
       ·exact .inl h
       ·exact .inr (by simp[h])
     ·rcases List.mem_cons.1 hy with h|h
      ·exact .inl h
      ·exact .inr h
   refine a31 _ _ _ _ ⟨fun _=>?_,fun h=>by simp at h;omega⟩;rw[e1];refine d84 hl hok i hlt acc ha hoa _ l.length (i+1) true (by omega) (by omega) ?_;rw[dl];simp only[d8w,Bool.true_and];refine ih (i+1) _ (by omega) (by omega) ?_ ?_
   ·split
    ·rw[d4l];omega
    ·omega
   ·intro y hy;split at hy
    ·rcases mem_ins _ _ y hy with h|h
     ·rw[h];exact hok _ (List.getElem_mem hlt)
     ·exact hoa y h
    ·exact hoa y hy
  ·have e:i=l.length:=by omega
   subst e;exact a31 _ _ _ _ ⟨fun h=>by simp at h,fun _=>by simp[d8w]⟩
theorem f0g:b58 l (S4 (kc N) l):=by
 have h:=d9c hl hok l.length 0 [] (by omega) (by omega) (by simp) (fun x hx=>by cases hx);rw[List.drop_zero,d5k (b2m (g2u N) fun x:A0 × A0=>x.1),e0o]at h;exact c66 _ _ h
end
section
variable {α:Type}{c:α->α->Int}
theorem c5u:∀(l:List α),∀x∈a0j c l,x∈l
 |[],x,h=>h
 |[y],x,h=>h
 |y::z::l,x,h=>by
  simp only[a0j]at h;split at h
  ·exact List.mem_cons_of_mem _ (c5u (z::l) x h)
  ·rcases List.mem_cons.1 h with h|h
   ·rw[h];simp
   ·exact List.mem_cons_of_mem _ (c5u (z::l) x h)
theorem e4g{x:α}:∀{l:List α},(∀w∈l,¬c w x<0)->a7f c x l=x::l
 |[],_=>rfl
 |y::l,h=>by simp only[a7f];rw[if_neg (h y (by simp))]
theorem d5y(h:Tp c)(x:α):∀(S:List α),S.Pairwise (fun a b=>c a b<=0)->a0j c (a7f c x S)=if lone c x S=true then a7f c x (a0j c S) else a0j c S
 |[],_=>rfl
 |y::l,hs=>by
  obtain⟨hy,hl⟩:=List.pairwise_cons.1 hs;have ih:=d5y h x l hl;have s1:=h.s x y;have s2:=h.s y x
  by_cases e:c y x<0
  ·have eI:a7f c x (y::l)=y::a7f c x l:=by simp only[a7f];rw[if_pos e]
   have eL:lone c x (y::l)=lone c x l:=by
    have:c x y≠0:=by omega
    simp[lone,this]
   rw[eI,eL];cases l with
   |nil=>
    have:¬c y x=0:=by omega
    simp[a7f,a0j,lone,this,e]
   |cons z l=>
    have s3:=h.s z x;have s4:=h.s x z;have s5:=h.s y z;have s6:=h.s z y;have t1:=h.t x z y
    by_cases e2:c z x<0
    ·have e3:a7f c x (z::l)=z::a7f c x l:=by simp only[a7f];rw[if_pos e2]
     rw[e3]at ih ⊢;simp only[a0j]at ih ⊢;rw[ih]
     by_cases e4:c y z=0
     ·rw[if_pos e4,if_pos e4]
     ·rw[if_neg e4,if_neg e4]
      by_cases e5:lone c x (z::l)=true
      ·rw[if_pos e5,if_pos e5];simp only[a7f];rw[if_pos e]
      ·rw[if_neg e5,if_neg e5]
    ·have e3:a7f c x (z::l)=x::z::l:=by simp only[a7f];rw[if_neg e2]
     rw[e3]at ih ⊢;have e4:¬c y x=0:=by omega
     have e5:¬c y z=0:=by
      intro e6;have:=t1 (by omega) (by omega);omega
     have e7:a0j c (y::x::z::l)=y::a0j c (x::z::l):=by
      rw[a0j,if_neg e4]
     have e8:a0j c (y::z::l)=y::a0j c (z::l):=by
      rw[a0j,if_neg e5]
     rw[e7,e8,ih]
     by_cases e9:lone c x (z::l)=true
     ·rw[if_pos e9,if_pos e9];simp only[a7f];rw[if_pos e]
     ·rw[if_neg e9,if_neg e9]
  ·have eI:a7f c x (y::l)=x::y::l:=by simp only[a7f];rw[if_neg e]
   rw[eI]
   by_cases e0:c x y=0
   ·have:lone c x (y::l)=false:=by simp[lone,e0]
    rw[a0j,if_pos e0,this];simp
   ·have hlt:c x y<0:=by omega
    have hz:∀z∈y::l,c x z<0:=by
     intro z hz;rcases List.mem_cons.1 hz with hz|hz
     ·rw[hz];exact hlt
     ·have q1:=hy z hz;have s3:=h.s z x;have s4:=h.s x z;have t1:=h.t x y z (by omega) q1;have t2:=h.t y z x q1;omega
    have e1:lone c x (y::l)=true:=by
     rw[lone,List.all_eq_true];intro z h2;have:=hz z h2;simp;omega
    rw[a0j,if_neg e0,if_pos e1,e4g];intro w hw;have:=hz w (c5u _ w hw);have:=h.s x w;omega
def sC(c:α->α->Int):List α->List α
 |[]=>[]
 |x::l=>a7f c x (sC c l)
theorem b8j(x:α):∀l,(a7f c x l).Perm (x::l)
 |[]=>.refl _
 |y::l=>by
  simp only[a7f];split
  ·exact((b8j x l).cons y).trans (.swap x y l)
  ·exact .refl _
theorem d01:∀l:List α,(sC c l).Perm l
 |[]=>.refl _
 |x::l=>(b8j x _).trans ((d01 l).cons x)
theorem d6w(h:Tp c):∀l:List α,(sC c l).Pairwise (fun a b=>c a b<=0)
 |[]=>.nil
 |x::l=>by
  have key:∀S:List α,S.Pairwise (fun a b=>c a b<=0)->(a7f c x S).Pairwise (fun a b=>c a b<=0):=by
   intro S
   induction S with
   |nil=>intro _;simp[a7f]
   |cons y S ih=>
    intro hs;obtain⟨hy,hS⟩:=List.pairwise_cons.1 hs;simp only[a7f];split
    ·rename_i e;refine List.pairwise_cons.2 ⟨fun z hz=>?_,ih hS⟩;rcases List.mem_cons.1 ((b8j x S).mem_iff.1 hz) with h2|h2
     ·rw[h2];omega
     ·exact hy z h2
    ·rename_i e;have s1:=h.s y x;have s2:=h.s x y;have e2:c x y<=0:=by omega
     refine List.pairwise_cons.2 ⟨fun z hz=>?_,hs⟩;rcases List.mem_cons.1 hz with h2|h2
     ·rw[h2];exact e2
     ·exact h.t x y z e2 (hy z h2)
  exact key _ (d6w h l)
theorem e9c{x:α}{l m:List α}(hp:l.Perm m):lone c x l=lone c x m:=by
 unfold lone;rw[Bool.eq_iff_iff,List.all_eq_true,List.all_eq_true];exact⟨fun h y hy=>h y (hp.mem_iff.2 hy),fun h y hy=>h y (hp.mem_iff.1 hy)⟩
theorem c04(h:Tp c):∀l:List α,a0j c (sC c l)=S4 c l
 |[]=>rfl
 |x::l=>by
  rw[sC,d5y h x _ (d6w h l),c04 h l,e9c (d01 l)];rfl
def f2d(c:α->α->Int)(x:α × Nat):List (α × Nat)->List (α × Nat)
 |[]=>[x]
 |y::l=>if c y.1 x.1<0 then y::f2d c x l else x::y::l
theorem f0h(x:α × Nat):∀l,fs (f2d c x l)=a7f c x.1 (fs l)
 |[]=>rfl
 |y::l=>by
  simp only[f2d,List.map_cons,a7f];split
  ·show y.1::fs (f2d c x l)=_;rw[f0h x l]
  ·rfl
theorem d1i(x:α × Nat):∀l,(f2d c x l).Perm (x::l)
 |[]=>.refl _
 |y::l=>by
  simp only[f2d];split
  ·exact((d1i x l).cons y).trans (.swap x y l)
  ·exact .refl _
theorem e2h(h:Tp c)(x:α × Nat):∀l:List (α × Nat),(∀y∈l,x.2<y.2)->Srt c l->Srt c (f2d c x l)
 |[],_,_=>by simp[f2d,Srt]
 |y::l,hx,hs=>by
  obtain⟨hy,hl⟩:=List.pairwise_cons.1 hs;simp only[f2d];split
  ·rename_i e;refine List.pairwise_cons.2 ⟨fun z hz=>?_,e2h h x l (fun y hy=>hx y (by simp[hy])) hl⟩;rcases List.mem_cons.1 ((d1i x l).mem_iff.1 hz) with h2|h2
   ·rw[h2];exact .inl e
   ·exact hy z h2
  ·rename_i e;have s1:=h.s y.1 x.1;have s2:=h.s x.1 y.1;have e2:c x.1 y.1<=0:=by omega
   refine List.pairwise_cons.2 ⟨fun z hz=>?_,hs⟩;have hxz:=hx z hz
   have:c x.1 z.1<=0:=by
    rcases List.mem_cons.1 hz with h2|h2
    ·rw[h2];exact e2
    ·have:=hy z h2;unfold Rt at this;exact h.t x.1 y.1 z.1 e2 (by omega)
   unfold Rt;omega
theorem c9h(h:Tp c):∀l:List α,∃T,Srt c T/\T.Perm (a3t l)/\fs T=sC c l
 |[]=>⟨[],.nil,by simp[a3t],rfl⟩
 |x::l=>by
  obtain⟨T,h1,h2,h3⟩:=c9h h l;have e1:fs (T.map fun p=>(p.1,p.2+1))=fs T:=by simp[fs]
  refine⟨f2d c (x,0) (T.map fun p=>(p.1,p.2+1)),e2h h _ _ (fun y hy=>?_) ?_,(d1i _ _).trans ?_,?_⟩
  ·obtain⟨p,_,rfl⟩:=List.mem_map.1 hy;exact Nat.succ_pos _
  ·show List.Pairwise _ _;rw[List.pairwise_map]
   exact h1.imp fun {a b} hab=>by
    unfold Rt at hab ⊢;simp only;omega
  ·have e2:a3t (x::l)=(x,0)::(a3t l).map fun p=>(p.1,p.2+1):=by
    simp[a3t,List.zipIdx_succ]
   rw[e2];exact(h2.map _).cons _
  ·rw[f0h,e1,h3];rfl
end
theorem f49(N:Nat)(l:List (A0 × A0))(hl:l.length*256<=140737488355328)(hok:∀x∈l,OkP N x):b6j l (S4 (kc N) l):=by
 have h:Tp (kc N):=b2m (g2u N) fun x:A0 × A0=>x.1
 obtain⟨S,h1,h2⟩:=f39 N l hl hok;obtain⟨T,q1,q2,q3⟩:=c9h h l
 have e:S=sC (kc N) l:=by
  rw[<-q3];exact d00.one (Dm:=fun _=>True) h (fun _ _=>trivial) h1 ⟨T,q1,q2,rfl⟩
 rw[e,c04 h]at h2;exact h2
theorem e94(N:Nat)(l:List (A0 × A0))(hl:l.length*256<=140737488355328)(hok:∀x∈l,OkP N x):b58 l (S4 (kc N) l):=f0g hl hok
abbrev kn(x y:Int × A0):Int:=a4l x.1 y.1
theorem f2u:Tp kn:=b2m f2x fun x:Int × A0=>x.1
theorem f1v:∀l:List (Int × A0),c7n l=a0j kn l
 |[]=>rfl
 |[x]=>rfl
 |x::y::l=>by
  simp only[c7n,a0j];rw[f1v (y::l)];have h:=d5l (x:=x.1) (y:=y.1)
  by_cases e:x.1=y.1
  ·rw[if_pos e,if_pos (by simp only[kn];omega)]
  ·rw[if_neg e,if_neg (by simp only[kn];omega)]
theorem e9x(l:List (Int × A0))(hl:l.length*136<=140737488355328):b11 l (S4 kn l):=by
 obtain⟨S,h1,h2⟩:=f3z l hl;obtain⟨T,q1,q2,q3⟩:=c9h f2u l
 have e:S=sC kn l:=by
  rw[<-q3];exact d00.one (Dm:=fun _=>True) f2u (fun _ _=>trivial) h1 ⟨T,q1,q2,rfl⟩
 rw[e,f1v,c04 f2u]at h2;exact h2
abbrev kr(x y:H5):Int:=a4l x.Num y.Num
def op0:GOp:=⟨0,⟨#[]⟩,⟨#[]⟩,0,0,0,0,0⟩
def opL(num:Int):List GOp->GOp × Bool
 |[]=>(op0,false)
 |o::l=>if(o.Num==num)=true then(o,true) else opL num l
def opV(g:B8)(num:Int):GOp × Bool:=opL num g.Ops
theorem f9u(g:B8)(hg:g.Ops.length<=140737488351232)(num:Int):∀(d i:Nat),g.Ops.length - i<=d->i<=g.Ops.length->∃k:Int,S7 i g.Ops (⟨161,[],[.elt [.v (.int .i64 num)] 0],by simp[plainL,plain]⟩:GFn) k/\((k<0/\opL num (g.Ops.drop i)=(op0,false))\/∃o,0<=k/\g.Ops[k.toNat]? =some o/\opL num (g.Ops.drop i)=(o,true)):=by
 intro d
 induction d with
 |zero=>
  intro i hd hi;refine⟨-1,M4 _ _ _ _ ⟨fun h=>by simp at h;omega,fun _=>rfl⟩,.inl ⟨by omega,?_⟩⟩;rw[List.drop_eq_nil_of_le (by omega)];rfl
 |succ d ih=>
  intro i hd hi;rcases Nat.lt_or_ge i g.Ops.length with hlt|hge
  ·have e1:wI ((i:Int)+1)=((i+1:Nat):Int):=by rw[wI,D3 (by omega)];omega
   have dl:g.Ops.drop i=g.Ops[i]::g.Ops.drop (i+1):=List.drop_eq_getElem_cons hlt;have hc:=d3v g.Ops[i] num _ (d2b _ _ _ rfl)
   by_cases e:(g.Ops[i].Num==num)=true
   ·refine⟨i,M4 _ _ _ _ ⟨fun _=>⟨g.Ops[i],by simp,by omega,_,hc,fun _=>rfl,fun h=>?_⟩,fun h=>by simp at h;omega⟩,.inr ⟨g.Ops[i],by omega,by simp,?_⟩⟩
    ·rw[h]at e;cases e
    ·rw[dl,opL,if_pos e]
   ·obtain⟨k,h1,h2⟩:=ih (i+1) (by omega) (by omega);refine⟨k,M4 _ _ _ _ ⟨fun _=>⟨g.Ops[i],by simp,by omega,_,hc,fun h=>(e h).elim,fun _=>by rw[e1];exact h1⟩,fun h=>by simp at h;omega⟩,?_⟩;rw[dl,opL,if_neg e];exact h2
  ·refine⟨-1,M4 _ _ _ _ ⟨fun h=>by simp at h;omega,fun _=>rfl⟩,.inl ⟨by omega,?_⟩⟩;rw[List.drop_eq_nil_of_le hge];rfl
theorem e7m(g:B8)(hg:g.Ops.length<=140737488351232)(num:Int):c0r g num (opV g num):=by
 obtain⟨k,h1,h2⟩:=f9u g hg num g.Ops.length 0 (by omega) (by omega);rw[List.drop_zero]at h2;refine d6g _ _ _ ⟨_,c02 _ _ _ ⟨k,b08 _ _ _ h1,fun h=>?_,fun h=>?_⟩,rfl⟩
 ·rcases h2 with⟨_,e⟩|⟨o,q1,_⟩
  ·exact e
  ·simp at h;omega
 ·rcases h2 with⟨q,_⟩|⟨o,q1,q2,e⟩
  ·simp at h;omega
  ·exact⟨o,q2,q1,e⟩
structure OkC(c:A3):Prop where
 sz:c.Data.size<=140737488351232
 a0: -9223372036854775808<=c.At
 a1:c.At<=9223372036854775807
theorem e2x(c:A3):b3c c (b13 c.Data c.At c.End):=c57 _ _ (by simp only[b13,Bool.decide_and,Bool.and_assoc])
theorem d4e(c:A3)(hc:OkC c):a73 c (a1b c.Data c.At c.End):=by
 refine c7c _ _ ⟨_,e2x c,fun h=>?_,fun h=>?_⟩
 ·rw[a1b,if_neg (by simpa using h)]
 ·have h1:b13 c.Data c.At c.End=true:=by simpa using h
  rw[a1b,if_pos h1];simp only[b13,decide_eq_true_eq]at h1;have:=hc.sz;rw[wI,D3 (by omega)]
def O9(c:A3):ByteArray:=c.Data.extract c.At.toNat (c.At.toNat+(a1b c.Data c.At c.End).toNat)
theorem c6w(c:A3):0<=a1b c.Data c.At c.End:=by
 unfold a1b;split
 ·rename_i h;simp only[b13,decide_eq_true_eq]at h;omega
 ·exact Int.le_refl _
theorem a89(c:A3):((O9 c).size:Int)=a1b c.Data c.At c.End:=by
 unfold O9;unfold a1b;split
 ·rename_i h;simp only[b13,decide_eq_true_eq]at h;rw[a18 _ (by omega)];omega
 ·rw[show c.At.toNat+(0:Int).toNat=c.At.toNat from rfl,c8z];rfl
def a26(c:A3)(n:Int):A3:=⟨c.Data,c.At+n,c.End,c.Depth,c.Nodes,c.Text⟩
theorem c8y(c:A3)(n:Int)(h: -9223372036854775808<=c.At+n/\c.At+n<=9223372036854775807):a51 c n (a26 c n):=c4g _ _ _ (by rw[wI,D3 h];rfl)
def a3e(c:A3):Int × A3 × Int:=if 0<a1b c.Data c.At c.End then(F3 c.Data c.At.toNat,a26 c 1,0) else(0,c,4)
theorem e6j(c:A3)(hc:OkC c):b6u c (a3e c):=by
 refine c7p _ _ ⟨_,d4e c hc,fun h=>?_,fun h=>?_⟩
 ·rw[a3e,if_neg (by simp at h;omega)]
 ·have h0:0<a1b c.Data c.At c.End:=by simp at h;omega
  obtain⟨h1,h2,h3,h4⟩:=b5a h0;have:=hc.sz;refine⟨⟨h1,by omega⟩,_,c8y c 1 (by omega),?_⟩;rw[a3e,if_pos h0]
def tk(x:Nat × Nat × Nat):Int × Int × Int:=(x.1,x.2.1,x.2.2)
theorem h5j{i:Nat}(h:i<=9):(2:Int) ^ min (wI (7*(i:Int))).toNat IntKind.u64.bits=((128 ^ i:Nat):Int)/\0<=wI (7*(i:Int))/\128 ^ i=2 ^ (7*i):=by
 have:i=0\/i=1\/i=2\/i=3\/i=4\/i=5\/i=6\/i=7\/i=8\/i=9:=by omega
 rcases this with rfl|rfl|rfl|rfl|rfl|rfl|rfl|rfl|rfl|rfl<;>decide+kernel
theorem f5u{c i u:Nat}(hi:i<=9)(hc:c<256)(h9:i=9->c<=1)(hu:u<128 ^ i):
  F0 .or .u64 (u:Int) (wU ((wU (F0 .and .u8 (c:Int) 127))*2 ^ min (wI (7*(i:Int))).toNat IntKind.u64.bits))=((u+c % 128*128 ^ i:Nat):Int)/\(i<=8->u+c % 128*128 ^ i<128 ^ (i+1)):=by
 obtain⟨hp,_,hq⟩:=h5j hi;obtain⟨p1,p2,p3⟩:=e8q hi;have hm:c % 128*128 ^ i<=127*128 ^ i:=Nat.mul_le_mul_right _ (by omega)
 have hb:c % 128*128 ^ i<=9223372036854775808/\(i<=8->u+c % 128*128 ^ i<128 ^ (i+1)):=by
  rcases Nat.lt_or_ge i 9 with h|h
  ·have:=p3 (by omega);rw[Nat.pow_succ]at this ⊢;omega
  ·have h':i=9:=by omega
   have:=h9 h';subst h';have:c % 128<=1:=by omega
   have:c % 128*128 ^ 9<=1*128 ^ 9:=Nat.mul_le_mul_right _ this;exact⟨by omega,by omega⟩
 refine⟨?_,hb.2⟩;have e1:wU ((c % 128:Nat):Int)=((c % 128:Nat):Int):=b2o (by omega);have e2:wU ((c % 128*128 ^ i:Nat):Int)=((c % 128*128 ^ i:Nat):Int):=b2o (by omega);rw[g53 c hc,hp,e1,<-Int.natCast_mul,e2,c14 _ _ (by omega) (by omega),hq,e2g _ _ _ (by rw[<-hq];exact hu)]
theorem g7t(s:ByteArray)(hz:s.size<=140737488351232):∀n i u:Nat,10 - i=n->i<=9->i<=s.size->u<128 ^ i->a8x i u s (tk (W6 s i u)):=by
 intro n
 induction n with
 |zero=>intro i u h1 h2 h3;omega
 |succ n ih=>
  intro i u h1 h2 h3 hu;have hb:=b25 s i;rw[W6.eq_def,if_neg (by omega)];have hn:((i:Int)).toNat=i:=by omega
  refine c1n _ _ _ _ ⟨fun h=>?_,fun h=>?_⟩
  ·have:(i:Int)=s.size:=by simpa using h
   rw[if_pos (by omega)];rfl
  have hne:¬(i:Int)=s.size:=by simpa using h
  rcases Nat.lt_or_ge i s.size with hlt|hge
  ·rw[if_neg (by omega)];rw[hn,hb.1];refine⟨⟨by omega,by omega⟩,fun h=>?_,fun h=>?_⟩
   ·simp only[Bool.and_eq_true,beq_iff_eq,decide_eq_true_eq]at h;rw[if_pos (by omega)];rfl
   ·have h9:¬(i=9/\1<I9 s i):=by
     simp only[Bool.and_eq_false_iff,beq_eq_false_iff_ne,decide_eq_false_iff_not]at h;omega
    rw[if_neg h9];obtain⟨e1,e2⟩:=f5u (c:=I9 s i) (u:=u) h2 hb.2 (by omega) hu;refine⟨(h5j h2).2.1,fun h=>?_,fun h=>?_⟩
    ·simp only[decide_eq_true_eq]at h;rw[if_pos (by omega),e1,wI,D3 (by omega)];have:I9 s i % 128=I9 s i:=by omega
     rw[this];rfl
    ·simp only[decide_eq_false_iff_not]at h;rw[if_neg (by omega),e1,wI,D3 (by omega)];have:i<=8:=by omega
     exact ih (i+1) _ (by omega) (by omega) (by omega) (e2 this)
  ·omega
theorem g1m(s:ByteArray)(hz:s.size<=140737488351232):c19 s (tk (W6 s 0 0)):=c73 _ _ (g7t s hz 10 0 0 rfl (by omega) (by omega) (by decide))
def c3s(c:A3)(n:Nat):ByteArray:=c.Data.extract c.At.toNat (c.At.toNat+min (a1b c.Data c.At c.End).toNat n)
theorem e7f(c:A3)(hc:OkC c)(n:Nat)(hn:n<=1000):b6y c n (c3s c n):=by
 refine c7q _ _ _ ⟨_,e2x c,fun h=>?_,fun h=>?_⟩
 ·rw[c3s,a1b,if_neg (by simpa using h)];rw[show(0:Int).toNat=0 from rfl,Nat.zero_min];exact c8z _ _
 ·have h1:b13 c.Data c.At c.End=true:=by simpa using h
  rw[c3s,a1b,if_pos h1];simp only[b13,decide_eq_true_eq]at h1;have:=hc.sz;rw[wI,D3 (by omega)];exact⟨by omega,by congr 1;omega⟩
theorem d1h(c:A3)(n:Nat):(c3s c n).size=min (a1b c.Data c.At c.End).toNat n:=by
 have:=a89 c;unfold c3s;rcases Int.lt_or_le 0 (a1b c.Data c.At c.End) with h|h
 ·obtain⟨h1,h2,h3,h4⟩:=b5a h;rw[a18 _ (by omega)];omega
 ·have:a1b c.Data c.At c.End=0:=by have:=c6w c;omega
  rw[this,show(0:Int).toNat=0 from rfl,Nat.zero_min];rw[Nat.add_zero,c8z];rfl
theorem d72(c:A3)(n i:Nat)(hi:i<n)(h:i<(O9 c).size):I9 (c3s c n) i=I9 (O9 c) i:=by
 have:=a89 c;unfold c3s O9;rw[a1r _ (by omega),a1r _ (by omega)]
theorem e9s(c:A3):W6 (c3s c 10) 0 0=W6 (O9 c) 0 0:=by
 have hs:=a89 c;have hh:=d1h c 10;refine d9u _ _ (fun i hi=>by omega) (fun i hi h=>d72 c 10 i (by omega) (by omega)) 10 0 0 rfl
theorem OkC.rest{c:A3}(hc:OkC c):(O9 c).size<=140737488351232:=by
 have h1:=a89 c;have:=hc.sz;rcases Int.lt_or_le 0 (a1b c.Data c.At c.End) with h|h
 ·obtain⟨h1,h2,h3,h4⟩:=b5a h;omega
 ·omega
def g1d(c:A3):Int × A3 × Int:=if(W6 (O9 c) 0 0).2.2=0 then((W6 (O9 c) 0 0).1,a26 c (W6 (O9 c) 0 0).2.1,0) else(0,c,(W6 (O9 c) 0 0).2.2)
theorem d4v(c:A3)(hc:OkC c): -9223372036854775808<=c.At+(W6 (O9 c) 0 0).2.1/\c.At+(W6 (O9 c) 0 0).2.1<=9223372036854775807:=by
 have h1:=(c5n (O9 c) 10 0 0 rfl).1;have h2:=a89 c;have:=hc.sz;have:=hc.a0;have:=hc.a1;rcases Int.lt_or_le 0 (a1b c.Data c.At c.End) with h|h
 ·obtain⟨h1,h2,h3,h4⟩:=b5a h;omega
 ·omega
theorem e6r(c:A3)(hc:OkC c):b6g c (g1d c):=by
 have hs:=d4v c hc;have ht:=g1m (c3s c 10) (by rw[d1h];omega);rw[e9s]at ht;refine c3j _ _ ⟨_,e7f c hc 10 (by omega),_,ht,fun h=>?_,fun h=>?_⟩
 ·rw[g1d,if_neg]
  ·rfl
  ·intro h0;simp[tk,h0]at h
 ·have h0:(W6 (O9 c) 0 0).2.2=0:=by simpa[tk]using h
  exact⟨_,c8y c _ hs,by rw[g1d,if_pos h0];rfl⟩
theorem h4z{i:Nat}(h:i<=7):(2:Int) ^ min (wI (8*(i:Int))).toNat IntKind.u64.bits=((256 ^ i:Nat):Int)/\0<=wI (8*(i:Int)):=by
 have:i=0\/i=1\/i=2\/i=3\/i=4\/i=5\/i=6\/i=7:=by omega
 rcases this with rfl|rfl|rfl|rfl|rfl|rfl|rfl|rfl<;>decide+kernel
theorem e5p(s:ByteArray)(h8:8<=s.size):∀n i:Nat,8 - i=n->i<=8->a08 i (leS s i) s (leS s 8,0):=by
 intro n
 induction n with
 |zero=>
  intro i h1 h2;have:i=8:=by omega
  subst this;exact a5x _ _ _ _ ⟨fun h=>by simp at h,fun _=>rfl⟩
 |succ n ih=>
  intro i h1 h2;have hi:i<=7:=by omega
  obtain⟨hp,h0⟩:=h4z hi;obtain⟨p1,p2,p3⟩:=g6c hi;have hb:=b25 s i;have hl:=e6b s i;have hn:((i:Int)).toNat=i:=by omega
  refine a5x _ _ _ _ ⟨fun _=>⟨⟨by omega,by omega⟩,h0,?_⟩,fun h=>by simp at h;omega⟩;have hm:I9 s i*256 ^ i<=255*256 ^ i:=Nat.mul_le_mul_right _ (by omega);have e1:wU ((I9 s i:Nat):Int)=(I9 s i:Int):=b2o (by omega);have e2:wU ((I9 s i*256 ^ i:Nat):Int)=((I9 s i*256 ^ i:Nat):Int):=b2o (by omega);rw[hn,hb.1,e1,hp,<-Int.natCast_mul,e2,c14 _ _ (by omega) (by omega),p3,e2g _ _ _ (by rw[<-p3];exact hl),wI,D3 (by omega)];have:=ih (i+1) (by omega) (by omega);rw[leS,p3]at this;exact this
theorem e4a(s:ByteArray):a97 s ((f67 s).1,(f67 s).2):=by
 refine b8x _ _ ⟨fun h=>?_,fun h=>?_⟩
 ·simp only[decide_eq_true_eq]at h;rw[f67,if_pos (by omega)];rfl
 ·simp only[decide_eq_false_iff_not]at h;have h8:¬s.size<8:=by omega
  rw[f67,if_neg h8];exact e5p s (by omega) 8 0 rfl (by omega)
def c61(c:A3):Int × A3 × Int:=if 8<=(O9 c).size then((leS (O9 c) 8:Nat),a26 c 8,0) else(0,c,4)
theorem f23(c:A3)(hc:OkC c):b8u c (c61 c):=by
 have hs:=a89 c;have hh:=d1h c 8;have:=hc.sz;have:=hc.a0;have:=hc.a1;refine c5g _ _ ⟨_,e7f c hc 8 (by omega),_,e4a _,fun h=>?_,fun h=>?_⟩
 ·have:(c3s c 8).size<8:=by
   rcases Nat.lt_or_ge (c3s c 8).size 8 with h1|h1
   ·exact h1
   ·simp[f67,Nat.not_lt.2 h1]at h
  rw[c61,if_neg (by omega),f67,if_pos this];rfl
 ·have h1:8<=(c3s c 8).size:=by
   rcases Nat.lt_or_ge (c3s c 8).size 8 with h1|h1
   ·simp[f67,h1]at h
   ·exact h1
  have h0:0<a1b c.Data c.At c.End:=by omega
  obtain⟨k1,k2,k3,k4⟩:=b5a h0;refine⟨_,c8y c 8 (by omega),?_⟩;rw[c61,if_pos (by omega),f67,if_neg (by omega),d0k (c3s c 8) (O9 c) 8 fun i hi=>d72 c 8 i hi (by omega)]
theorem a98(s:ByteArray):(bI s).length=s.size:=by simp[bI]
def a7g(c:A3)(n:Int):ByteArray × A3 × Int:=if n<0 then(⟨#[]⟩,c,1) else if a1b c.Data c.At c.End<n then(⟨#[]⟩,c,4) else if c.Text<n then(⟨#[]⟩,c,3) else(c.Data.extract c.At.toNat (c.At.toNat+n.toNat),a26 c n,0)
theorem d53(c:A3):a26 c 0=c:=by cases c;simp[a26]
theorem g0z(c:A3)(hc:OkC c)(n:Int):c12 c n (a7g c n):=by
 have:=hc.sz;refine c7y _ _ _ ⟨fun h=>?_,fun h=>⟨_,d4e c hc,fun h2=>?_,fun h2=>⟨fun h3=>?_,fun h3=>⟨fun h4=>?_,fun h4=>?_⟩⟩⟩⟩
 ·rw[a7g,if_pos (by simpa using h)]
 all_goals simp only[decide_eq_false_iff_not,decide_eq_true_eq,beq_iff_eq,beq_eq_false_iff_ne]at*
 ·rw[a7g,if_neg h,if_pos h2]
 ·rw[a7g,if_neg h,if_neg h2,if_pos h3]
 ·subst h4;rw[a7g,if_neg h,if_neg h2,if_neg h3,d53,show(0:Int).toNat=0 from rfl,Nat.add_zero,c8z]
 ·have h0:0<a1b c.Data c.At c.End:=by omega
  obtain⟨k1,k2,k3,k4⟩:=b5a h0;have hw:wI (c.At+n)=c.At+n:=D3 (by omega);have hx:(wI (c.At+n)).toNat=c.At.toNat+n.toNat:=by rw[hw];omega
  have hl:(bI (c.Data.extract c.At.toNat (wI (c.At+n)).toNat)).length=n.toNat:=by rw[a98,hx,a18 _ (by omega)];omega
  refine⟨_,c5d _ _ _ ⟨⟨k1,by rw[hw];omega,by rw[hw];omega⟩,⟨Int.le_refl _,by omega,by rw[hl];omega⟩,rfl⟩,c.Data.extract c.At.toNat (c.At.toNat+n.toNat),?_,_,c8y c n (by omega),?_⟩
  ·rw[show(0:Int).toNat=0 from rfl,List.drop_zero,List.take_of_length_le (by omega),hx]
  ·rw[a7g,if_neg h,if_neg h2,if_neg h3]
def ofI(l:List Int):ByteArray:=⟨(l.map fun n=>UInt8.ofNat n.toNat).toArray⟩
def c0p(l:List Int):Prop:=∀x∈l,0<=x/\x<256
theorem d2j{l:List Int}(h:c0p l):l=bI (ofI l):=by
 simp only[bI,ofI,List.map_map];symm
 conv=>rhs;rw[<-List.map_id l]
 refine List.map_congr_left fun x hx=>?_
 have:=h x hx;simp only[Function.comp,id];rw[UInt8.toNat_ofNat_of_lt' (show x.toNat<UInt8.size by simp[UInt8.size];omega)];omega
theorem a8s{a b:List Int}(ha:c0p a)(hb:c0p b):c0p (a++b):=fun x hx=>(List.mem_append.1 hx).elim (ha x) (hb x)
theorem a1z{x:Int}(h:0<=x/\x<256):c0p [x]:=fun y hy=>by simp at hy;subst hy;exact h
def b33(u:Nat):List Int:=if u<128 then [(u:Int)] else((u % 128+128:Nat):Int)::b33 (u / 128)
 termination_by u
theorem d3f(u:Nat):c0p (b33 u):=by
 induction u using Nat.strongRecOn with
 |_ u ih=>
  rw[b33];split
  ·exact a1z (by omega)
  ·exact a8s (a1z (by omega)) (ih (u / 128) (by omega))
def b4a(u:Nat):ByteArray:=ofI (b33 u)
theorem g9b(c:Nat)(h:c<256):F0 .or .u8 (c:Int) 128=((c % 128+128:Nat):Int):=by
 have:∀c:Fin 256,F0 .or .u8 ((c.val:Nat):Int) 128=((c.val % 128+128:Nat):Int):=by decide+kernel
 exact this ⟨c,h⟩
theorem d85(u:Nat):IntKind.u8.wrap (u:Int)=((u % 256:Nat):Int):=by simp[IntKind.wrap,IntKind.signed,IntKind.bits]
theorem h4c(u:Nat):(u:Int).fdiv (2 ^ min (7:Int).toNat IntKind.u64.bits)=((u / 128:Nat):Int):=by
 rw[show(2:Int) ^ min (7:Int).toNat IntKind.u64.bits=((128:Nat):Int) by decide+kernel];rw[Int.fdiv_eq_ediv_of_nonneg _ (by omega)];rfl
theorem h04:∀(k u:Nat) (l:List Int),u<128 ^ k->c0p l->l.length+k<=1000->b1c l u (ofI (l++b33 u)):=by
 intro k
 induction k with
 |zero=>
  intro u l hu hl hk;have:u=0:=by simpa using hu
  subst this;refine b3n _ _ _ ⟨fun h=>by simp at h,fun _=>⟨by simp;omega,_,?_,rfl⟩⟩;rw[d85,b33,if_pos (by omega)];exact d2j (a8s hl (a1z (by omega)))
 |succ k ih=>
  intro u l hu hl hk;refine b3n _ _ _ ⟨fun h=>⟨by simp;omega,?_⟩,fun h=>⟨by simp;omega,_,?_,rfl⟩⟩
  ·simp only[decide_eq_true_eq]at h;rw[d85,g9b _ (by omega),h4c];have:=ih (u / 128) (l++[((u % 128+128:Nat):Int)]) (by rw[Nat.pow_succ]at hu;omega) (a8s hl (a1z (by omega))) (by simp;omega);rw[List.append_assoc]at this;rw[b33,if_neg (by omega)];have e:u % 256 % 128=u % 128:=by omega
   rw[e];exact this
  ·simp only[decide_eq_false_iff_not]at h;rw[d85,b33,if_pos (by omega)];have e:u % 256=u:=by omega
   rw[e];exact d2j (a8s hl (a1z (by omega)))
theorem d79(u:Nat)(hu:u<18446744073709551616):a3i u (b4a u):=c9g _ _ (h04 10 u [] (by omega) (fun x hx=>by cases hx) (by decide))
theorem g65:∀(k u:Nat) (l:List Int),u<18446744073709551616->u<128 ^ k->c0p l->l.length+k<=1000->b26 l u (ofI (l++b33 u)):=by
 intro k
 induction k with
 |zero=>
  intro u l h64 hu hl hk;have:u=0:=by simpa using hu
  subst this;refine b40 _ _ _ ⟨fun h=>by simp at h,fun _=>⟨by simp;omega,_,?_,rfl⟩⟩;rw[d85,b33,if_pos (by omega)];exact d2j (a8s hl (a1z (by omega)))
 |succ k ih=>
  intro u l h64 hu hl hk;refine b40 _ _ _ ⟨fun h=>⟨by simp;omega,?_⟩,fun h=>⟨by simp;omega,_,?_,rfl⟩⟩
  ·simp only[decide_eq_true_eq]at h
   have e1:wU ((u:Int).tmod 128+128)=((u % 128+128:Nat):Int):=by
    have:(u:Int).tmod 128=((u % 128:Nat):Int):=rfl;rw[this,wU,b2o (by omega)];omega
   have e2:wU ((u:Int).tdiv 128)=((u / 128:Nat):Int):=by
    have:(u:Int).tdiv 128=((u / 128:Nat):Int):=rfl;rw[this,wU,b2o (by omega)]
   rw[e1,e2,d85];have:=ih (u / 128) (l++[((u % 128+128:Nat):Int)]) (by omega) (by rw[Nat.pow_succ]at hu;omega) (a8s hl (a1z (by omega))) (by simp;omega);rw[List.append_assoc]at this;rw[b33,if_neg (by omega)];have e:(u % 128+128) % 256=u % 128+128:=by omega
   rw[e];exact this
  ·simp only[decide_eq_false_iff_not]at h;rw[d85,b33,if_pos (by omega)];have e:u % 256=u:=by omega
   rw[e];exact d2j (a8s hl (a1z (by omega)))
theorem e6o(u:Nat)(hu:u<18446744073709551616):c3z u (b4a u):=d1u _ _ (g65 10 u [] hu (by omega) (fun x hx=>by cases hx) (by decide))
theorem b63(l:List Int):(ofI l).size=l.length:=by simp[ofI,ByteArray.size]
theorem f37(u:Nat):0<(b33 u).length:=by rw[b33];split<;>simp
theorem g99:∀(k u:Nat) (n:Nat),u<128 ^ k->n+k<=1000->1<=n->b03 n u ((n:Int)+(b33 u).length - 1):=by
 intro k
 induction k with
 |zero=>
  intro u n hu hk h1;have:u=0:=by simpa using hu
  subst this;refine b2x _ _ _ ⟨fun h=>by simp at h,fun _=>?_⟩;rw[b33,if_pos (by omega)];simp
 |succ k ih=>
  intro u n hu hk h1;refine b2x _ _ _ ⟨fun h=>?_,fun h=>?_⟩
  ·simp only[decide_eq_true_eq]at h;rw[h4c,wI,D3 (by omega)];have:=ih (u / 128) (n+1) (by rw[Nat.pow_succ]at hu;omega) (by omega) (by omega);rw[b33,if_neg (by omega),List.length_cons];have e:(((n+1:Nat):Int)+(b33 (u / 128)).length - 1)=(n:Int)+(((b33 (u / 128)).length+1:Nat):Int) - 1:=by omega
   rw[e]at this;exact this
  ·simp only[decide_eq_false_iff_not]at h;rw[b33,if_pos (by omega)];simp
theorem g5d(u:Nat)(hu:u<18446744073709551616):c6c u ((b4a u).size:Int):=by
 have:=g99 10 u 1 (by omega) (by omega) (by omega);have e:((1:Nat):Int)+(b33 u).length - 1=((b4a u).size:Int):=by rw[b4a,b63];omega
 rw[e]at this;exact d1j _ _ this
def f2c(n:Int):Nat:=if 0<=n then(2*n).toNat else(-2*n - 1).toNat
def f18(u:Nat):Int:=if u % 2=0 then(u / 2:Nat) else -((u / 2:Nat):Int) - 1
theorem f9h(n:Int):f18 (f2c n)=n:=by unfold f18 f2c;split<;>split<;>omega
theorem f6z{n:Int}(h: -9223372036854775808<=n/\n<0):wU n=n+18446744073709551616:=by simp[wU,IntKind.wrap,IntKind.signed,IntKind.bits];omega
theorem g7a(n:Int)(h: -9223372036854775808<=n/\n<=9223372036854775807):c5m n (f2c n):=by
 refine d09 _ _ ?_;rw[show(2:Int) ^ min (1:Int).toNat IntKind.u64.bits=2 by decide+kernel,show(2:Int) ^ min (63:Int).toNat IntKind.i64.bits=9223372036854775808 by decide+kernel,Int.fdiv_eq_ediv_of_nonneg _ (by omega)];unfold f2c;rcases Int.lt_or_le n 0 with hn|hn
 ·rw[if_neg (by omega)];have e1:n / 9223372036854775808= -1:=by omega
  have e2:wU (-1)=18446744073709551615:=by decide+kernel
  have e3:wU n=n+18446744073709551616:=f6z ⟨h.1,hn⟩
  have e4:wU ((n+18446744073709551616)*2)=(((n+9223372036854775808)*2).toNat:Int):=by
   simp[wU,IntKind.wrap,IntKind.signed,IntKind.bits];omega
  rw[e1,e2,e3,e4,c6s _ (by omega)];omega
 ·rw[if_pos hn];have e1:n / 9223372036854775808=0:=by omega
  have e2:wU 0=0:=by decide+kernel
  have e3:wU n=n:=b2o (by omega);have e4:wU (n*2)=((2*n).toNat:Int):=by rw[wU,b2o (by omega)];omega
  rw[e1,e2,e3,e4,d7z _ (by omega)]
theorem g28(u:Nat)(h:u<18446744073709551616):b9s u (f18 u):=by
 refine c9u _ _ ?_
 have e0:(u:Int).fdiv (2 ^ min (1:Int).toNat IntKind.u64.bits)=((u / 2:Nat):Int):=by
  rw[show(2:Int) ^ min (1:Int).toNat IntKind.u64.bits=((2:Nat):Int) by decide+kernel,Int.fdiv_eq_ediv_of_nonneg _ (by omega)];rfl
 have e1:F0 .and .u64 (u:Int) 1=((u % 2:Nat):Int):=by
  have:=b3l u 1 h (by omega);rw[Nat.and_one_is_mod]at this;exact this
 have e2:wI ((u / 2:Nat):Int)=((u / 2:Nat):Int):=D3 (by omega);rw[e0,e1,e2];have e3:wI ((u % 2:Nat):Int)=((u % 2:Nat):Int):=D3 (by omega);rw[e3];unfold f18;rcases Nat.mod_two_eq_zero_or_one u with h2|h2
 ·rw[h2,if_pos rfl,show wI (0 - ((0:Nat):Int))=0 by decide+kernel,d7a _ (by omega)]
 ·rw[h2,if_neg (by omega),show wI (0 - ((1:Nat):Int))= -1 by decide+kernel,d7i _ (by omega)]
theorem g0s(u:Nat)(h:u<18446744073709551616):c82 u (f18 u):=by
 have e1:(u:Int).tdiv 2=((u / 2:Nat):Int):=rfl;have e2:(u:Int).tmod 2=((u % 2:Nat):Int):=rfl;have e3:wU ((u / 2:Nat):Int)=((u / 2:Nat):Int):=b2o (by omega);have e4:wI ((u / 2:Nat):Int)=((u / 2:Nat):Int):=D3 (by omega);refine d13 _ _ ⟨fun hh=>?_,fun hh=>?_⟩
 ·rw[e2]at hh;simp only[beq_iff_eq]at hh;rw[e1,e3,e4,f18,if_pos (by omega)]
 ·rw[e2]at hh;simp only[beq_eq_false_iff_ne]at hh;have e5:wI (0 - ((u / 2:Nat):Int))=0 - ((u / 2:Nat):Int):=D3 (by omega);rw[e1,e3,e4,e5,f18,if_neg (by omega),wI,D3 (by omega)];omega
theorem d3s(s:ByteArray):∀n i u:Nat,10 - i=n->i<=9->u<128 ^ i->(W6 s i u).1<18446744073709551616:=by
 intro n
 induction n with
 |zero=>intro i u h1 h2;omega
 |succ n ih=>
  intro i u h1 h2 hu;have hb:=b25 s i;rw[W6.eq_def,if_neg (by omega)];split
  ·decide
  split
  ·decide
  rename_i h9;obtain⟨p1,p2,p3⟩:=e8q h2;split
  ·rename_i hlt;rcases Nat.lt_or_ge i 9 with h|h
   ·have:=p3 (by omega);have hm:I9 s i*128 ^ i<=127*128 ^ i:=Nat.mul_le_mul_right _ (by omega);rw[Nat.pow_succ]at this;simp only;omega
   ·have h':i=9:=by omega
    subst h';have:I9 s 9<=1:=by omega
    have hm:I9 s 9*128 ^ 9<=1*128 ^ 9:=Nat.mul_le_mul_right _ this;simp only;omega
  ·rename_i hge
   have h8:i<=8:=by
    rcases Nat.lt_or_ge i 9 with h|h
    ·omega
    ·exact(h9 ⟨by omega,by omega⟩).elim
   have hm:I9 s i % 128*128 ^ i<=127*128 ^ i:=Nat.mul_le_mul_right _ (by omega);exact ih (i+1) _ (by omega) (by omega) (by rw[Nat.pow_succ];omega)
def T8(c:A3):Int × A3 × Int:=
 if(W6 (O9 c) 0 0).2.2=0 then if(W6 (O9 c) 0 0).2.1=(b4a (W6 (O9 c) 0 0).1).size then((W6 (O9 c) 0 0).1,a26 c (W6 (O9 c) 0 0).2.1,0) else(0,c,5) else(0,c,(W6 (O9 c) 0 0).2.2)
theorem d0t(c:A3)(hc:OkC c):b5t c (T8 c):=by
 have hl:=d3s (O9 c) 10 0 0 rfl (by omega) (by decide);have hr:=(c5n (O9 c) 10 0 0 rfl).1;have hz:=hc.rest;have hs:=d4v c hc;refine c90 _ _ ⟨_,e6r c hc,fun h=>?_,fun h=>?_⟩
 ·have h0:(W6 (O9 c) 0 0).2.2≠0:=by
   intro h0;simp[g1d,h0]at h
  rw[T8,if_neg h0];simp only[g1d,if_neg h0]
 ·have h0:(W6 (O9 c) 0 0).2.2=0:=by
   rcases Nat.eq_zero_or_pos (W6 (O9 c) 0 0).2.2 with h0|h0
   ·exact h0
   ·have:¬(W6 (O9 c) 0 0).2.2=0:=by omega
    simp only[g1d,if_neg this]at h;simp at h;omega
  simp only[g1d,if_pos h0,T8];refine⟨_,g5d _ hl,fun h1=>?_,fun h1=>?_⟩
  ·rw[if_neg];intro h2;rw[<-h2]at h1
   have e:wI ((a26 c (W6 (O9 c) 0 0).2.1).At - c.At)=((W6 (O9 c) 0 0).2.1:Int):=by
    show wI (c.At+_ - c.At)=_;rw[wI,D3 (by omega)];omega
   rw[e]at h1;simp at h1
  ·have e:wI ((a26 c (W6 (O9 c) 0 0).2.1).At - c.At)=((W6 (O9 c) 0 0).2.1:Int):=by
    show wI (c.At+_ - c.At)=_;rw[wI,D3 (by omega)];omega
   rw[e]at h1;simp only[bne_eq_false_iff_eq]at h1;rw[if_pos (by omega)]
def Z8(v:A0):A0:=if v.Kind=6/\f19 v.Bits.toNat=0 then⟨v.Kind,9221120237041090560,v.Text,v.List_,v.Pairs,v.Slots,v.Raws⟩ else v
theorem d4k(v:A0)(hb:0<=v.Bits/\v.Bits<18446744073709551616):a8k v (Z8 v):=by
 have hz:v.Bits=(v.Bits.toNat:Int):=by omega
 have hc:=e0i v.Bits.toNat (by omega);rw[<-hz]at hc;refine c7b _ _ ⟨fun h=>⟨_,hc,fun h2=>?_,fun h2=>?_⟩,fun h=>?_⟩
 all_goals simp only[beq_iff_eq,beq_eq_false_iff_ne]at*
 ·rw[Z8,if_pos ⟨h,by omega⟩]
 ·rw[Z8,if_neg (by omega)]
 ·rw[Z8,if_neg (by omega)]
theorem e2l(v:A0)(hb:0<=v.Bits/\v.Bits<18446744073709551616):b93 v (Z8 v):=by
 have hz:v.Bits=(v.Bits.toNat:Int):=by omega
 have hc:=d54 v.Bits.toNat (by omega);rw[<-hz]at hc;refine d0f _ _ ⟨fun h=>⟨_,hc,fun h2=>?_,fun h2=>?_⟩,fun h=>?_⟩
 all_goals simp only[beq_iff_eq,beq_eq_false_iff_ne]at*
 ·rw[Z8,if_pos ⟨h,by omega⟩]
 ·rw[Z8,if_neg (by omega)]
 ·rw[Z8,if_neg (by omega)]
def e2a(u:Nat)(n:Nat):List Int:=(List.range n).map fun i=>((u / 256 ^ i % 256:Nat):Int)
theorem d3i(u n:Nat):c0p (e2a u n):=fun x hx=>by
 obtain⟨i,_,rfl⟩:=List.mem_map.1 hx;omega
theorem f07(u n:Nat):e2a u (n+1)=e2a u n++[((u / 256 ^ n % 256:Nat):Int)]:=by simp[e2a,List.range_succ]
def e01(u:Nat):ByteArray:=ofI (e2a u 8)
theorem f3t(u:Nat):∀n i:Nat,8 - i=n->i<=8->a6s i u (e2a u i++List.replicate (8 - i) 0) (e01 u):=by
 intro n
 induction n with
 |zero=>
  intro i h1 h2;have:i=8:=by omega
  subst this;refine b0p _ _ _ _ ⟨fun h=>by simp at h,fun _=>⟨by simp[e2a],_,?_,rfl⟩⟩;simp only[Nat.sub_self,List.replicate_zero,List.append_nil];exact d2j (d3i u 8)
 |succ n ih=>
  intro i h1 h2;obtain⟨hp,h0⟩:=h4z (show i<=7 by omega);have hn:((i:Int)).toNat=i:=by omega
  have hl:(e2a u i).length=i:=by simp[e2a]
  refine b0p _ _ _ _ ⟨fun _=>⟨h0,⟨by omega,by omega⟩,by simp[hl];omega,?_⟩,fun h=>by simp at h;omega⟩
  have e1:(u:Int).fdiv ((256 ^ i:Nat):Int)=((u / 256 ^ i:Nat):Int):=by
   rw[Int.fdiv_eq_ediv_of_nonneg _ (Int.natCast_nonneg _)];rfl
  rw[hp,e1,d85,hn,wI,D3 (by omega)];have:=ih (i+1) (by omega) (by omega);rw[f07]at this
  have e2:(e2a u i++List.replicate (8 - i) (0:Int)).set i ((u / 256 ^ i % 256:Nat):Int)=e2a u i++[((u / 256 ^ i % 256:Nat):Int)]++List.replicate (8 - (i+1)) 0:=by
   rw[List.set_append_right _ _ (by omega),hl,Nat.sub_self,show 8 - i=(8 - (i+1))+1 by omega,List.replicate_succ,List.set_cons_zero,List.append_assoc];rfl
  rw[e2];exact this
theorem e7n(u:Nat):b79 u (e01 u):=c4l _ _ ⟨by omega,f3t u 8 0 rfl (by omega)⟩
def a1c(n b0 b1 b2 b3:Nat):Nat:=
 if b0<128 then 1
 else if(194<=b0/\b0<=223)/\(1<n/\128<=b1/\b1<=191) then 2
 else if b0=224/\(1<n/\160<=b1/\b1<=191)/\(2<n/\128<=b2/\b2<=191) then 3
 else if b0=237/\(1<n/\128<=b1/\b1<=159)/\(2<n/\128<=b2/\b2<=191) then 3
 else if(225<=b0/\b0<=239/\b0≠237)/\(1<n/\128<=b1/\b1<=191)/\(2<n/\128<=b2/\b2<=191) then 3
 else if b0=240/\(1<n/\144<=b1/\b1<=191)/\(2<n/\128<=b2/\b2<=191)/\(3<n/\128<=b3/\b3<=191) then 4
 else if(241<=b0/\b0<=243)/\(1<n/\128<=b1/\b1<=191)/\(2<n/\128<=b2/\b2<=191)/\(3<n/\128<=b3/\b3<=191) then 4
 else if b0=244/\(1<n/\128<=b1/\b1<=143)/\(2<n/\128<=b2/\b2<=191)/\(3<n/\128<=b3/\b3<=191) then 4
 else 0
theorem f4z(n b0 b1 b2 b3:Nat)(hn:1<=n):a1c n b0 b1 b2 b3<=n:=by
 unfold a1c
 repeat' split
 all_goals omega
def okN(n b0 b1 b2:Nat)(x:Nat × Nat):Nat:=if x.1=65533/\¬(2<n/\b0=239/\b1=191/\b2=189) then 0 else x.2
theorem b8r{n b0 b1 b2 k:Nat}(h:¬(2<n/\b0=239/\b1=191/\b2=189)):okN n b0 b1 b2 (65533,k)=0:=by unfold okN;rw[if_pos ⟨rfl,h⟩]
theorem b3g{n b0 b1 b2 c k:Nat}(h:c≠65533\/(2<n/\b0=239/\b1=191/\b2=189)):okN n b0 b1 b2 (c,k)=k:=by
 unfold okN;rw[if_neg];intro ⟨h1,h2⟩;rcases h with h|h
 ·exact h h1
 ·exact h2 h
theorem g9y(n b0 b1 b2 b3:Nat)(hb:194<=b0/\b0<=223)(h1:b1<256):a1c n b0 b1 b2 b3=okN n b0 b1 b2 (Lib.decodeN n b0 b1 b2 b3):=by
 by_cases h:1<n/\128<=b1/\b1<=191
 ·have e1:a1c n b0 b1 b2 b3=2:=by unfold a1c;rw[if_neg (by omega),if_pos (by omega)]
  have e2:Lib.decodeN n b0 b1 b2 b3=(b0 % 32*64+b1 % 64,2):=by unfold Lib.decodeN;rw[if_neg (by omega),if_pos (by omega),if_pos (by omega)]
  rw[e1,e2,b3g (by omega)]
 ·have e1:a1c n b0 b1 b2 b3=0:=by unfold a1c;rw[if_neg (by omega),if_neg (by omega),if_neg (by omega),if_neg (by omega),if_neg (by omega),if_neg (by omega),if_neg (by omega),if_neg (by omega)]
  have e2:Lib.decodeN n b0 b1 b2 b3=(65533,1):=by unfold Lib.decodeN;rw[if_neg (by omega),if_neg (by omega),if_neg (by omega),if_neg (by omega)]
  rw[e1,e2,b8r (by omega)]
theorem g62(n b0 b1 b2 b3:Nat)(hb:(128<=b0/\b0<194)\/245<=b0)(h0:b0<256):a1c n b0 b1 b2 b3=okN n b0 b1 b2 (Lib.decodeN n b0 b1 b2 b3):=by
 have e:Lib.decodeN n b0 b1 b2 b3=(65533,1):=by
  unfold Lib.decodeN;rw[if_neg (by omega)]
  by_cases c1:b0 / 32=6/\(1<n/\b1 / 64=2)
  ·rw[if_pos c1,if_neg (by omega)]
  ·rw[if_neg c1,if_neg (by omega)]
   by_cases c2:b0 / 8=30/\(1<n/\b1 / 64=2)/\(2<n/\b2 / 64=2)/\(3<n/\b3 / 64=2)
   ·rw[if_pos c2,if_neg (by omega)]
   ·rw[if_neg c2]
 rw[e,b8r (by omega)];unfold a1c;rw[if_neg (by omega),if_neg (by omega),if_neg (by omega),if_neg (by omega),if_neg (by omega),if_neg (by omega),if_neg (by omega),if_neg (by omega)]
theorem h0f(n b0 b1 b2 b3:Nat)(hb:224<=b0/\b0<=239)(h1:b1<256)(h2:b2<256):a1c n b0 b1 b2 b3=okN n b0 b1 b2 (Lib.decodeN n b0 b1 b2 b3):=by
 by_cases c:(1<n/\b1 / 64=2)/\(2<n/\b2 / 64=2)
 ·by_cases d0:b0=224
  ·by_cases d1:160<=b1
   ·have e1:a1c n b0 b1 b2 b3=3:=by unfold a1c;rw[if_neg (by omega),if_neg (by omega),if_pos (by omega)]
    have e2:Lib.decodeN n b0 b1 b2 b3=(b0 % 16*4096+b1 % 64*64+b2 % 64,3):=by unfold Lib.decodeN;rw[if_neg (by omega),if_neg (by omega),if_pos (by omega),if_pos (by omega)]
    rw[e1,e2,b3g (by omega)]
   ·have e1:a1c n b0 b1 b2 b3=0:=by unfold a1c;rw[if_neg (by omega),if_neg (by omega),if_neg (by omega),if_neg (by omega),if_neg (by omega),if_neg (by omega),if_neg (by omega),if_neg (by omega)]
    have e2:Lib.decodeN n b0 b1 b2 b3=(65533,1):=by unfold Lib.decodeN;rw[if_neg (by omega),if_neg (by omega),if_pos (by omega),if_neg (by omega)]
    rw[e1,e2,b8r (by omega)]
  ·by_cases d2:b0=237
   ·by_cases d3:b1<=159
    ·have e1:a1c n b0 b1 b2 b3=3:=by unfold a1c;rw[if_neg (by omega),if_neg (by omega),if_neg (by omega),if_pos (by omega)]
     have e2:Lib.decodeN n b0 b1 b2 b3=(b0 % 16*4096+b1 % 64*64+b2 % 64,3):=by unfold Lib.decodeN;rw[if_neg (by omega),if_neg (by omega),if_pos (by omega),if_pos (by omega)]
     rw[e1,e2,b3g (by omega)]
    ·have e1:a1c n b0 b1 b2 b3=0:=by unfold a1c;rw[if_neg (by omega),if_neg (by omega),if_neg (by omega),if_neg (by omega),if_neg (by omega),if_neg (by omega),if_neg (by omega),if_neg (by omega)]
     have e2:Lib.decodeN n b0 b1 b2 b3=(65533,1):=by unfold Lib.decodeN;rw[if_neg (by omega),if_neg (by omega),if_pos (by omega),if_neg (by omega)]
     rw[e1,e2,b8r (by omega)]
   ·have e1:a1c n b0 b1 b2 b3=3:=by unfold a1c;rw[if_neg (by omega),if_neg (by omega),if_neg (by omega),if_neg (by omega),if_pos (by omega)]
    have e2:Lib.decodeN n b0 b1 b2 b3=(b0 % 16*4096+b1 % 64*64+b2 % 64,3):=by unfold Lib.decodeN;rw[if_neg (by omega),if_neg (by omega),if_pos (by omega),if_pos (by omega)]
    rw[e1,e2,b3g (by omega)]
 ·have e1:a1c n b0 b1 b2 b3=0:=by unfold a1c;rw[if_neg (by omega),if_neg (by omega),if_neg (by omega),if_neg (by omega),if_neg (by omega),if_neg (by omega),if_neg (by omega),if_neg (by omega)]
  have e2:Lib.decodeN n b0 b1 b2 b3=(65533,1):=by unfold Lib.decodeN;rw[if_neg (by omega),if_neg (by omega),if_neg (by omega),if_neg (by omega)]
  rw[e1,e2,b8r (by omega)]
theorem h0o(n b0 b1 b2 b3:Nat)(hb:240<=b0/\b0<=244)(h1:b1<256)(h2:b2<256)(h3:b3<256):a1c n b0 b1 b2 b3=okN n b0 b1 b2 (Lib.decodeN n b0 b1 b2 b3):=by
 by_cases c:(1<n/\b1 / 64=2)/\(2<n/\b2 / 64=2)/\(3<n/\b3 / 64=2)
 ·by_cases d0:b0=240
  ·by_cases d1:144<=b1
   ·have e1:a1c n b0 b1 b2 b3=4:=by unfold a1c;rw[if_neg (by omega),if_neg (by omega),if_neg (by omega),if_neg (by omega),if_neg (by omega),if_pos (by omega)]
    have e2:Lib.decodeN n b0 b1 b2 b3=(b0 % 8*262144+b1 % 64*4096+b2 % 64*64+b3 % 64,4):=by unfold Lib.decodeN;rw[if_neg (by omega),if_neg (by omega),if_neg (by omega),if_pos (by omega),if_pos (by omega)]
    rw[e1,e2,b3g (by omega)]
   ·have e1:a1c n b0 b1 b2 b3=0:=by unfold a1c;rw[if_neg (by omega),if_neg (by omega),if_neg (by omega),if_neg (by omega),if_neg (by omega),if_neg (by omega),if_neg (by omega),if_neg (by omega)]
    have e2:Lib.decodeN n b0 b1 b2 b3=(65533,1):=by unfold Lib.decodeN;rw[if_neg (by omega),if_neg (by omega),if_neg (by omega),if_pos (by omega),if_neg (by omega)]
    rw[e1,e2,b8r (by omega)]
  ·by_cases d2:b0=244
   ·by_cases d3:b1<=143
    ·have e1:a1c n b0 b1 b2 b3=4:=by unfold a1c;rw[if_neg (by omega),if_neg (by omega),if_neg (by omega),if_neg (by omega),if_neg (by omega),if_neg (by omega),if_neg (by omega),if_pos (by omega)]
     have e2:Lib.decodeN n b0 b1 b2 b3=(b0 % 8*262144+b1 % 64*4096+b2 % 64*64+b3 % 64,4):=by unfold Lib.decodeN;rw[if_neg (by omega),if_neg (by omega),if_neg (by omega),if_pos (by omega),if_pos (by omega)]
     rw[e1,e2,b3g (by omega)]
    ·have e1:a1c n b0 b1 b2 b3=0:=by unfold a1c;rw[if_neg (by omega),if_neg (by omega),if_neg (by omega),if_neg (by omega),if_neg (by omega),if_neg (by omega),if_neg (by omega),if_neg (by omega)]
     have e2:Lib.decodeN n b0 b1 b2 b3=(65533,1):=by unfold Lib.decodeN;rw[if_neg (by omega),if_neg (by omega),if_neg (by omega),if_pos (by omega),if_neg (by omega)]
     rw[e1,e2,b8r (by omega)]
   ·have e1:a1c n b0 b1 b2 b3=4:=by unfold a1c;rw[if_neg (by omega),if_neg (by omega),if_neg (by omega),if_neg (by omega),if_neg (by omega),if_neg (by omega),if_pos (by omega)]
    have e2:Lib.decodeN n b0 b1 b2 b3=(b0 % 8*262144+b1 % 64*4096+b2 % 64*64+b3 % 64,4):=by unfold Lib.decodeN;rw[if_neg (by omega),if_neg (by omega),if_neg (by omega),if_pos (by omega),if_pos (by omega)]
    rw[e1,e2,b3g (by omega)]
 ·have e1:a1c n b0 b1 b2 b3=0:=by unfold a1c;rw[if_neg (by omega),if_neg (by omega),if_neg (by omega),if_neg (by omega),if_neg (by omega),if_neg (by omega),if_neg (by omega),if_neg (by omega)]
  have e2:Lib.decodeN n b0 b1 b2 b3=(65533,1):=by unfold Lib.decodeN;rw[if_neg (by omega),if_neg (by omega),if_neg (by omega),if_neg (by omega)]
  rw[e1,e2,b8r (by omega)]
theorem d5z(n b0 b1 b2 b3:Nat)(h0:b0<256)(h1:b1<256)(h2:b2<256)(h3:b3<256):
  a1c n b0 b1 b2 b3=if(Lib.decodeN n b0 b1 b2 b3).1=65533/\¬(2<n/\b0=239/\b1=191/\b2=189) then 0 else(Lib.decodeN n b0 b1 b2 b3).2:=by
 show _=okN n b0 b1 b2 _
 by_cases c0:b0<128
 ·unfold a1c Lib.decodeN;rw[if_pos c0,if_pos c0,b3g (by omega)]
 by_cases c1:b0<194
 ·exact g62 n b0 b1 b2 b3 (by omega) h0
 by_cases c2:b0<224
 ·exact g9y n b0 b1 b2 b3 (by omega) h1
 by_cases c3:b0<240
 ·exact h0f n b0 b1 b2 b3 (by omega) h1 h2
 by_cases c4:b0<245
 ·exact h0o n b0 b1 b2 b3 (by omega) h1 h2 h3
 ·exact g62 n b0 b1 b2 b3 (by omega) h0
def b4d(s:ByteArray)(i:Nat):Nat:=a1c (s.size - i) (s.get! i).toNat (s.get! (i+1)).toNat (s.get! (i+2)).toNat (s.get! (i+3)).toNat
theorem d59(s:ByteArray)(i:Nat)(h:i<s.size):i+b4d s i<=s.size:=by
 have:=f4z (s.size - i) (s.get! i).toNat (s.get! (i+1)).toNat (s.get! (i+2)).toNat (s.get! (i+3)).toNat (by omega);unfold b4d;omega
theorem c2x(s:ByteArray)(i:Nat):b4d s i=if(Utf8.decode s i).1=65533/\¬(2<s.size - i/\(s.get! i).toNat=239/\(s.get! (i+1)).toNat=191/\(s.get! (i+2)).toNat=189) then 0 else(Utf8.decode s i).2:=by
 rw[Lib.decode_at];exact d5z _ _ _ _ _ (UInt8.toNat_lt _) (UInt8.toNat_lt _) (UInt8.toNat_lt _) (UInt8.toNat_lt _)
def b35(s:ByteArray):Nat->Nat->Int
 |0,_=> -1
 |f+1,p=>if p<s.size then(if b4d s p=0 then p else b35 s f (p+b4d s p)) else -1
def h6k(s:ByteArray):Int:=b35 s s.size 0
theorem c60(s:ByteArray):∀(f g p:Nat),s.size - p<=f->s.size - p<=g->b35 s f p=b35 s g p
 |0,0,_,_,_=>rfl
 |0,g+1,p,h,_=>by
  simp only[b35];rw[if_neg (by omega)]
 |f+1,0,p,_,h=>by
  simp only[b35];rw[if_neg (by omega)]
 |f+1,g+1,p,h,h'=>by
  simp only[b35]
  by_cases hp:p<s.size
  ·rw[if_pos hp,if_pos hp]
   by_cases h0:b4d s p=0
   ·rw[if_pos h0,if_pos h0]
   ·rw[if_neg h0,if_neg h0];exact c60 s f g _ (by omega) (by omega)
  ·rw[if_neg hp,if_neg hp]
def d41(s:ByteArray)(p:Nat):Int:=b35 s (s.size - p) p
theorem c2i(s:ByteArray)(p:Nat)(h:s.size<=p):d41 s p= -1:=by
 unfold d41;rw[show s.size - p=0 by omega];rfl
theorem d6z(s:ByteArray)(p:Nat)(h:p<s.size)(h0:b4d s p=0):d41 s p=p:=by
 unfold d41;rw[show s.size - p=(s.size - p - 1)+1 by omega];simp only[b35];rw[if_pos h,if_pos h0]
theorem e2k(s:ByteArray)(p:Nat)(h:p<s.size)(h0:b4d s p≠0):d41 s p=d41 s (p+b4d s p):=by
 unfold d41;rw[show s.size - p=(s.size - p - 1)+1 by omega];simp only[b35];rw[if_pos h,if_neg h0];exact c60 s _ _ _ (by omega) (by omega)
def b27(s:ByteArray):Bool:=decide (h6k s<0)
theorem b7p(s:ByteArray)(i:Nat):I9 s i=(s.get! i).toNat:=by
 unfold I9 F3
 have:s.data.toList.getD i 0=s.get! i:=by
  rw[List.getD_eq_getElem?_getD];show _=s.data[i]!;rw[getElem!_def,Array.getElem?_toList];cases s.data[i]? <;>rfl
 rw[this];omega
def btw(s:ByteArray)(i lo hi:Nat):Bool:=decide (i<s.size/\lo<=I9 s i/\I9 s i<=hi)
theorem d3n(s:ByteArray)(i lo hi:Nat):a07 s i lo hi (btw s i lo hi):=by
 have hb:=b25 s i;have hn:((i:Int)).toNat=i:=by omega
 refine c3n _ _ _ _ _ ⟨fun b=>b=decide (i<s.size/\lo<=I9 s i),fun b hR=>⟨fun h=>?_,fun h=>?_⟩,fun h=>?_,fun h=>?_⟩
 ·rw[h]at hR;have h2:=of_decide_eq_true hR.symm;refine⟨⟨by omega,by omega⟩,?_⟩;rw[hn,hb.1];unfold btw
  congr 1
  simp only[eq_iff_iff];omega
 ·rw[h]at hR;have h2:=of_decide_eq_false hR.symm;exact decide_eq_false (by omega)
 ·simp only[decide_eq_true_eq]at h;refine⟨⟨by omega,h⟩,?_⟩;rw[hn,hb.1]
  congr 1
  simp only[eq_iff_iff];omega
 ·simp only[decide_eq_false_iff_not]at h;exact(decide_eq_false (by omega)).symm
def b55(s:ByteArray)(i:Nat):Nat->Bool
 |0=>true
 |n+1=>btw s i 128 191&&b55 s (i+1) n
theorem g5e(s:ByteArray)(hz:s.size<=140737488351232)(i:Nat)(hi:i<=140737488351300):∀m j:Nat,j<=4->j+m<=4->b1e j s i ((j+m:Nat):Int) (b55 s (i+j) m):=by
 intro m
 induction m with
 |zero=>
  intro j h1 h2;exact b3f _ _ _ _ _ ⟨fun h=>by simp at h,fun _=>rfl⟩
 |succ m ih=>
  intro j h1 h2;refine b3f _ _ _ _ _ ⟨fun _=>?_,fun h=>by simp at h;omega⟩;have e:wI ((i:Int)+j)=((i+j:Nat):Int):=by rw[wI,D3 (by omega)];omega
  rw[e];refine⟨_,d3n s (i+j) 128 191,fun h=>?_,fun h=>?_⟩
  ·have:btw s (i+j) 128 191=false:=by simpa using h
   simp[b55,this]
  ·have:btw s (i+j) 128 191=true:=by simpa using h
   rw[wI,D3 (by omega)];have h3:=ih (j+1) (by omega) (by omega);rw[b55,this,Bool.true_and];have e2:i+j+1=i+(j+1):=by omega
   have e3:j+(m+1)=j+1+m:=by omega
   rw[e2,e3];exact h3
theorem f8w(s:ByteArray)(hz:s.size<=140737488351232)(i n:Nat)(hi:i<=140737488351300)(hn:n<=4):a3b s i n (b55 s i n):=by
 have:=g5e s hz i hi n 0 (by omega) (by omega);simp only[Nat.zero_add,Nat.add_zero]at this;exact c83 _ _ _ _ this
def szB(s:ByteArray)(i:Nat):Nat:=
 if I9 s i<128 then 1
 else if(decide (194<=I9 s i/\I9 s i<=223)&&b55 s (i+1) 1)=true then 2
 else if(decide (I9 s i=224)&&btw s (i+1) 160 191&&b55 s (i+2) 1)=true then 3
 else if(decide (I9 s i=237)&&btw s (i+1) 128 159&&b55 s (i+2) 1)=true then 3
 else if(decide (225<=I9 s i/\I9 s i<=239/\I9 s i≠237)&&b55 s (i+1) 2)=true then 3
 else if(decide (I9 s i=240)&&btw s (i+1) 144 191&&b55 s (i+2) 2)=true then 4
 else if(decide (241<=I9 s i/\I9 s i<=243)&&b55 s (i+1) 3)=true then 4
 else if(decide (I9 s i=244)&&btw s (i+1) 128 143&&b55 s (i+2) 2)=true then 4
 else 0
theorem g0j(s:ByteArray)(hz:s.size<=140737488351232)(i:Nat)(hi:i<s.size):c5t s i (szB s i):=by
 have hb:=b25 s i;have hn:((i:Int)).toNat=i:=by omega
 have w1:wI ((i:Int)+1)=((i+1:Nat):Int):=by rw[wI,D3 (by omega)];omega
 have w2:wI ((i:Int)+2)=((i+2:Nat):Int):=by rw[wI,D3 (by omega)];omega
 have tl:=fun k n (hk:k<=4) (hn:n<=4)=>f8w s hz (i+k) n (by omega) hn
 have bt:=fun k lo hi=>d3n s (i+k) lo hi
 refine d0w _ _ _ ?_;rw[hn,hb.1,w1,w2];unfold szB;generalize hx:I9 s i=x at*;refine⟨⟨by omega,by omega⟩,fun h=>?_,fun h=>?_⟩
 ·rw[if_pos (by simp only[decide_eq_true_eq]at h;omega)];rfl
 rw[if_neg (by simp only[decide_eq_false_iff_not]at h;omega)];refine⟨fun b=>b=(decide (194<=x/\x<=223)&&b55 s (i+1) 1),fun b hR=>?_,fun h=>⟨_,tl 1 1 (by omega) (by omega),?_⟩,fun h=>?_⟩
 rotate_left
 ·have:(194<=x/\x<=223):=by simp only[Bool.and_eq_true,decide_eq_true_eq]at h;omega
  simp[this]
 ·have:¬(194<=x/\x<=223):=by simp only[Bool.and_eq_false_iff,decide_eq_false_iff_not]at h;omega
  simp[this]
 subst hR;refine⟨fun h=>by rw[if_pos h];rfl,fun h=>?_⟩;rw[if_neg (by rw[h];decide)];refine⟨fun b=>b=(decide (x=224)&&btw s (i+1) 160 191),fun b hR=>?_,fun h=>⟨_,bt 1 160 191,?_⟩,fun h=>?_⟩
 rotate_left
 ·have:x=224:=by simp only[beq_iff_eq]at h;omega
  simp[this]
 ·have:¬x=224:=by simp only[beq_eq_false_iff_ne]at h;omega
  simp[this]
 refine⟨fun b2=>b2=(b&&b55 s (i+2) 1),fun b2 hR2=>?_,fun h=>⟨_,tl 2 1 (by omega) (by omega),by rw[h];rfl⟩,fun h=>by rw[h];rfl⟩;subst hR2;subst hR;refine⟨fun h=>by rw[if_pos h];rfl,fun h=>?_⟩;rw[if_neg (by rw[h];decide)];refine⟨fun b=>b=(decide (x=237)&&btw s (i+1) 128 159),fun b hR=>?_,fun h=>⟨_,bt 1 128 159,?_⟩,fun h=>?_⟩
 rotate_left
 ·have:x=237:=by simp only[beq_iff_eq]at h;omega
  simp[this]
 ·have:¬x=237:=by simp only[beq_eq_false_iff_ne]at h;omega
  simp[this]
 refine⟨fun b2=>b2=(b&&b55 s (i+2) 1),fun b2 hR2=>?_,fun h=>⟨_,tl 2 1 (by omega) (by omega),by rw[h];rfl⟩,fun h=>by rw[h];rfl⟩;subst hR2;subst hR;refine⟨fun h=>by rw[if_pos h];rfl,fun h=>?_⟩;rw[if_neg (by rw[h];decide)];refine⟨fun b=>b=(decide (225<=x/\x<=239/\x≠237)&&b55 s (i+1) 2),fun b hR=>?_,fun h=>⟨_,tl 1 2 (by omega) (by omega),?_⟩,fun h=>?_⟩
 rotate_left
 ·have:(225<=x/\x<=239/\x≠237):=by simp only[Bool.and_eq_true,decide_eq_true_eq,bne_iff_ne]at h;omega
  simp[this]
 ·have:¬(225<=x/\x<=239/\x≠237):=by simp only[Bool.and_eq_false_iff,decide_eq_false_iff_not,bne_eq_false_iff_eq]at h;omega
  have h3:decide (225<=x/\x<=239/\x≠237)=false:=decide_eq_false this;rw[h3];rfl
 subst hR;refine⟨fun h=>by rw[if_pos h];rfl,fun h=>?_⟩;rw[if_neg (by rw[h];decide)];refine⟨fun b=>b=(decide (x=240)&&btw s (i+1) 144 191),fun b hR=>?_,fun h=>⟨_,bt 1 144 191,?_⟩,fun h=>?_⟩
 rotate_left
 ·have:x=240:=by simp only[beq_iff_eq]at h;omega
  simp[this]
 ·have:¬x=240:=by simp only[beq_eq_false_iff_ne]at h;omega
  simp[this]
 refine⟨fun b2=>b2=(b&&b55 s (i+2) 2),fun b2 hR2=>?_,fun h=>⟨_,tl 2 2 (by omega) (by omega),by rw[h];rfl⟩,fun h=>by rw[h];rfl⟩;subst hR2;subst hR;refine⟨fun h=>by rw[if_pos h];rfl,fun h=>?_⟩;rw[if_neg (by rw[h];decide)];refine⟨fun b=>b=(decide (241<=x/\x<=243)&&b55 s (i+1) 3),fun b hR=>?_,fun h=>⟨_,tl 1 3 (by omega) (by omega),?_⟩,fun h=>?_⟩
 rotate_left
 ·have:(241<=x/\x<=243):=by simp only[Bool.and_eq_true,decide_eq_true_eq]at h;omega
  simp[this]
 ·have:¬(241<=x/\x<=243):=by simp only[Bool.and_eq_false_iff,decide_eq_false_iff_not]at h;omega
  simp[this]
 subst hR;refine⟨fun h=>by rw[if_pos h];rfl,fun h=>?_⟩;rw[if_neg (by rw[h];decide)];refine⟨fun b=>b=(decide (x=244)&&btw s (i+1) 128 143),fun b hR=>?_,fun h=>⟨_,bt 1 128 143,?_⟩,fun h=>?_⟩
 rotate_left
 ·have:x=244:=by simp only[beq_iff_eq]at h;omega
  simp[this]
 ·have:¬x=244:=by simp only[beq_eq_false_iff_ne]at h;omega
  simp[this]
 refine⟨fun h=>⟨_,tl 2 2 (by omega) (by omega),fun h2=>?_,fun h2=>?_⟩,fun h=>?_⟩
 ·rw[if_pos (by rw[<-hR,h,h2];rfl)];rfl
 ·rw[if_neg (by rw[<-hR,h,h2];decide)];rfl
 ·rw[if_neg (by rw[<-hR,h];simp)];rfl
theorem f7c(s:ByteArray)(i:Nat):szB s i=b4d s i:=by
 unfold szB b4d a1c;simp only[<-b7p,btw,b55,Bool.and_eq_true,decide_eq_true_eq,Bool.and_true];have e1:i+1+1=i+2:=rfl;have e2:i+1+1+1=i+3:=rfl;have e3:i+2+1=i+3:=rfl;simp only[e1,e2,e3];generalize I9 s i=a;generalize I9 s (i+1)=b;generalize I9 s (i+2)=c;generalize I9 s (i+3)=d;generalize s.size=n
 by_cases h0:a<128
 ·rw[if_pos h0,if_pos h0]
 rw[if_neg h0,if_neg h0]
 have key:∀(p q:Prop) [Decidable p] [Decidable q] (x y z:Nat),(p↔q)->y=z->(if p then x else y)=(if q then x else z):=by
  intro p q _ _ x y z h1 h2;subst h2
  by_cases hp:p
  ·rw[if_pos hp,if_pos (h1.1 hp)]
  ·rw[if_neg hp,if_neg (fun h=>hp (h1.2 h))]
 refine key _ _ _ _ _ (by omega) (key _ _ _ _ _ (by omega) (key _ _ _ _ _ (by omega) (key _ _ _ _ _ (by omega) (key _ _ _ _ _ (by omega) (key _ _ _ _ _ (by omega) (key _ _ _ _ _ (by omega) rfl))))))
theorem g52(s:ByteArray)(hz:s.size<=140737488351232):∀n p:Nat,s.size - p<=n->p<=s.size->b24 p s (d41 s p):=by
 intro n
 induction n with
 |zero=>
  intro p h1 h2;refine b52 _ _ _ ⟨fun h=>by simp only[decide_eq_true_eq]at h;omega,fun h=>c2i s p (by omega)⟩
 |succ n ih=>
  intro p h1 h2;refine b52 _ _ _ ⟨fun h=>?_,fun h=>?_⟩
  ·simp only[decide_eq_true_eq]at h;have hp:p<s.size:=by omega
   have hle:=d59 s p hp;refine⟨_,g0j s hz p hp,fun h2=>?_,fun h2=>?_⟩
   ·simp only[beq_iff_eq]at h2;exact d6z s p hp (by rw[<-f7c];omega)
   ·simp only[beq_eq_false_iff_ne]at h2;rw[f7c]at h2 ⊢;have h3:b4d s p≠0:=by omega
    rw[e2k s p hp h3,wI,D3 (by omega)];exact ih _ (by omega) hle
  ·simp only[decide_eq_false_iff_not]at h;exact c2i s p (by omega)
theorem d6v(s:ByteArray)(hz:s.size<=140737488351232):b65 s (b27 s):=
 c7k _ _ ⟨_,d1w _ _ (g52 s hz s.size 0 (by omega) (by omega)),rfl⟩
def g1w(s:ByteArray)(i:Nat):Bool:=decide (2<s.size - i/\I9 s i=239/\I9 s (i+1)=191/\I9 s (i+2)=189)
theorem e67{a b:ByteArray}(h:a.size=b.size)(hb:∀i,i<a.size->I9 a i=I9 b i):a=b:=by
 apply ByteArray.ext;refine Array.ext h fun i h1 h2=>?_
 have:=hb i h1;rw[b7p,b7p]at this;have e1:a.get! i=a.data[i]:=by show a.data[i]! =_;exact getElem!_pos a.data i h1
 have e2:b.get! i=b.data[i]:=by show b.data[i]! =_;exact getElem!_pos b.data i h2
 rw[e1,e2]at this;exact UInt8.toNat_inj.1 this
theorem f1b(s:ByteArray)(i:Nat)(hi:i<=s.size)(hz:s.size<=140737488351232):a7z (s.extract i s.size) ⟨#[239,191,189]⟩ (g1w s i):=by
 refine b7k _ _ _ ⟨_,a5d _ _ _ ⟨fun h=>⟨⟨by omega,by omega,by simpa using h⟩,?_⟩,fun h=>?_⟩,rfl⟩
 ·have hs:(s.extract i s.size).size=s.size - i:=a18 s (Nat.le_refl _);simp only[decide_eq_true_eq,hs]at h;have h3:(⟨#[239,191,189]⟩:ByteArray).size=3:=rfl;rw[h3]at h ⊢;show g1w s i=decide ((s.extract i s.size).extract 0 3=_);unfold g1w
  congr 1
  simp only[eq_iff_iff];have e0:=a1r (s.extract i s.size) (l:=0) (u:=3) (i:=0) (by omega);have e1:=a1r (s.extract i s.size) (l:=0) (u:=3) (i:=1) (by omega);have e2:=a1r (s.extract i s.size) (l:=0) (u:=3) (i:=2) (by omega);rw[a1r s (by omega)]at e0 e1 e2;constructor
  ·rintro⟨k1,k2,k3,k4⟩;refine e67 (by rw[a18 _ (by omega)];rfl) fun j hj=>?_
   rw[a18 _ (by omega)]at hj;have:j=0\/j=1\/j=2:=by omega
   rcases this with rfl|rfl|rfl
   ·rw[e0];exact k2
   ·rw[e1];exact k3
   ·rw[e2];exact k4
  ·intro he;rw[he]at e0 e1 e2;refine⟨by omega,e0.symm,e1.symm,e2.symm⟩
 ·have hs:(s.extract i s.size).size=s.size - i:=a18 s (Nat.le_refl _);simp only[decide_eq_false_iff_not,hs]at h;have h3:(⟨#[239,191,189]⟩:ByteArray).size=3:=rfl;rw[h3]at h;exact decide_eq_false (by omega)
theorem f31(s:ByteArray)(i:Nat)(hi:i<=s.size)(hz:s.size<=140737488351232)(c:Int):d0s s i c (decide (c=65533)&& !g1w s i):=by
 refine d1y _ _ _ _ ⟨fun h=>⟨⟨by omega,by omega,by omega⟩,?_⟩,fun h=>?_⟩
 ·simp only[beq_iff_eq]at h;have e:((s.size:Nat):Int).toNat=s.size:=by omega
  have e2:((i:Nat):Int).toNat=i:=by omega
  rw[e,e2];exact⟨_,f1b s i hi hz,by simp[h]⟩
 ·simp only[beq_eq_false_iff_ne]at h;simp[h]
theorem f82(s:ByteArray)(p:Nat):1<=(Utf8.decode s p).2:=by
 rw[Lib.decode_at];unfold Lib.decodeN
 (repeat' split)<;>simp
theorem h2p(s:ByteArray)(hz:s.size<=140737488351232):∀n p:Nat,s.size - p<=n->p<=s.size->b9b s p (d41 s p):=by
 intro n
 induction n with
 |zero=>
  intro p h1 h2;exact b7t _ _ _ ⟨fun h=>by omega,fun h=>c2i s p (by omega)⟩
 |succ n ih=>
  intro p h1 h2;refine b7t _ _ _ ⟨fun hp=>⟨_,f31 s p h2 hz _,fun h=>?_,fun h=>?_⟩,fun h=>c2i s p (by omega)⟩
  ·have hd:=c2x s p;simp only[<-b7p]at hd;rw[Bool.and_eq_true]at h;have k1:=of_decide_eq_true h.1
   have k2:g1w s p=false:=by cases hf:g1w s p with
    |true=>rw[hf]at h;exact absurd h.2 (by decide)
    |false=>rfl
   have k3:=of_decide_eq_false k2;rw[if_pos ⟨by omega,k3⟩]at hd;exact d6z s p hp hd
  ·have hd:=c2x s p;simp only[<-b7p]at hd;have hle:=d59 s p hp;rw[if_neg]at hd
   ·have h3:b4d s p≠0:=by
     have:=f82 s p;omega
    rw[e2k s p hp h3,<-hd];exact ih _ (by omega) hle
   ·intro hc;have k2:g1w s p=false:=decide_eq_false hc.2;have k1:decide (((Utf8.decode s p).1:Int)=65533)=true:=decide_eq_true (by omega);rw[k1,k2]at h;cases h
theorem d4b(s:ByteArray)(hz:s.size<=140737488351232):b8e s (b27 s):=
 d15 _ _ ⟨_,d61 _ _ (h2p s hz s.size 0 (by omega) (by omega)),rfl⟩
structure OkV(v:A0):Prop where
 l:v.List_.length<=140737488351232
 p:v.Pairs.length<=140737488351232
 s:v.Slots.length<=140737488351232
 r:v.Raws.length<=140737488351232
 t:v.Text.size<=140737488351232
 b0:0<=v.Bits
 b1:v.Bits<18446744073709551616
def c4e(v:A0):Bool:=decide (v.List_.length=0/\v.Pairs.length=0/\v.Slots.length=0/\v.Raws.length=0)
def a2p(k bits:Int):Bool:=if k=1 then decide (bits<=1) else if k=2 then decide (-2147483648<=wI bits/\wI bits<=2147483647) else if k=9 then decide (bits<=2147483647) else if k=4 then decide (bits<=4294967295) else true
def a9h(k:Int)(v:A0):Bool:=
 decide (1<=k/\k<=9/\v.Kind=k)&&c4e v&&
  (if k=7\/k=8 then decide (v.Bits=0/\v.Text.size<=4096)&&(!decide (k=7)||b27 v.Text) else decide (v.Text=⟨#[]⟩)&&a2p k v.Bits)
theorem e7o(k bits:Int):b61 k bits (a2p k bits):=by
 refine c21 _ _ _ ⟨fun h=>?_,fun h=>⟨fun h2=>?_,fun h2=>⟨fun h3=>?_,fun h3=>⟨fun h4=>?_,fun h4=>?_⟩⟩⟩⟩
 all_goals simp only[beq_iff_eq,beq_eq_false_iff_ne]at*
 ·rw[a2p,if_pos h]
 ·rw[a2p,if_neg h,if_pos h2,Bool.decide_and]
 ·rw[a2p,if_neg h,if_neg h2,if_pos h3]
 ·rw[a2p,if_neg h,if_neg h2,if_neg h3,if_pos h4]
 ·rw[a2p,if_neg h,if_neg h2,if_neg h3,if_neg h4]
def c9r(v:A0):Bool:=c4e v&&(if v.Kind=7\/v.Kind=8 then decide (v.Bits=0) else decide (v.Text=⟨#[]⟩))
theorem f1r(v:A0)(hv:OkV v):b56 v (c9r v):=by
 have h1:=hv.l;have h2:=hv.p;have h3:=hv.s;have h4:=hv.r;have e1:wI ((v.List_.length:Int)+v.Pairs.length)=(v.List_.length:Int)+v.Pairs.length:=D3 (by omega);have e2:wI ((v.List_.length:Int)+v.Pairs.length+v.Slots.length)=(v.List_.length:Int)+v.Pairs.length+v.Slots.length:=D3 (by omega);have e3:wI ((v.List_.length:Int)+v.Pairs.length+v.Slots.length+v.Raws.length)=(v.List_.length:Int)+v.Pairs.length+v.Slots.length+v.Raws.length:=D3 (by omega);refine c7v _ _ ?_;rw[e1,e2,e3];refine⟨fun h=>?_,fun h=>⟨_,b4l _ _ rfl,fun h5=>?_,fun h5=>?_⟩⟩
 ·simp only[decide_eq_true_eq]at h;have:c4e v=false:=decide_eq_false (by omega);rw[c9r,this];rfl
 all_goals
  simp only[decide_eq_false_iff_not]at h;have:c4e v=true:=decide_eq_true (by omega);rw[c9r,this,Bool.true_and]
 ·rw[if_pos (by simpa using h5)];rfl
 ·rw[if_neg (by simpa using h5)]
theorem d9f(k:Int)(v:A0)(hv:OkV v):b19 k v (a9h k v):=by
 refine c7j _ _ _ ⟨_,a81 _ _ rfl,fun b=>b= !(decide (1<=k/\k<=9/\v.Kind=k)&&c9r v),fun b hR=>?_,fun h=>?_,fun h=>⟨_,f1r v hv,?_⟩⟩
 rotate_left
 ·have:decide (1<=k/\k<=9/\v.Kind=k)=false:=by
   refine decide_eq_false fun hn=>?_
   simp[hn.1,hn.2.1,hn.2.2]at h
  rw[this];rfl
 ·have:decide (1<=k/\k<=9/\v.Kind=k)=true:=by
   refine decide_eq_true ?_;simp at h;omega
  rw[this];rfl
 subst hR;refine⟨fun b=>b= !(decide (1<=k/\k<=9/\v.Kind=k)&&c9r v&&a2p k v.Bits),fun b hR=>?_,fun h=>?_,fun h=>⟨_,e7o k v.Bits,?_⟩⟩
 rotate_left
 ·have:(decide (1<=k/\k<=9/\v.Kind=k)&&c9r v)=false:=by rw[<-Bool.not_eq_true'];exact h
  rw[this];rfl
 ·have:(decide (1<=k/\k<=9/\v.Kind=k)&&c9r v)=true:=by rw[<-Bool.not_eq_false'];exact h
  rw[this];rfl
 subst hR;have main:∀A B C D:Bool,True:=fun _ _ _ _=>trivial
 by_cases hk:1<=k/\k<=9/\v.Kind=k
 ·have hkd:decide (1<=k/\k<=9/\v.Kind=k)=true:=decide_eq_true hk;unfold a9h c9r;rw[hkd,hk.2.2,Bool.true_and,Bool.true_and];cases hl:c4e v with
  |false=>simp
  |true=>
   simp only[Bool.true_and]
   by_cases h78:k=7\/k=8
   ·rw[if_pos h78,if_pos h78];have hw:a2p k v.Bits=true:=by rw[a2p,if_neg (by omega),if_neg (by omega),if_neg (by omega),if_neg (by omega)]
    rw[hw,Bool.and_true];refine⟨fun h=>?_,fun h=>⟨fun h2=>?_,fun h2=>⟨_,d4b _ hv.t,?_⟩⟩⟩
    ·have:¬(v.Bits=0/\v.Text.size<=4096):=by
      simp only[Bool.or_eq_true,Bool.not_eq_true',decide_eq_false_iff_not,decide_eq_true_eq]at h;omega
     rw[decide_eq_false this];rfl
    ·have:v.Bits=0/\v.Text.size<=4096:=by
      simp only[Bool.or_eq_false_iff,Bool.not_eq_false',decide_eq_false_iff_not,decide_eq_true_eq]at h;omega
     rw[decide_eq_true this];have:¬k=7:=by simpa using h2
     rw[decide_eq_false this];rfl
    ·have:v.Bits=0/\v.Text.size<=4096:=by
      simp only[Bool.or_eq_false_iff,Bool.not_eq_false',decide_eq_false_iff_not,decide_eq_true_eq]at h;omega
     rw[decide_eq_true this];have:k=7:=by simpa using h2
     rw[decide_eq_true this];simp
   ·rw[if_neg h78,if_neg h78];refine⟨fun h=>?_,fun h=>⟨fun h2=>?_,fun h2=>?_⟩⟩
    ·simp only[Bool.or_eq_true,Bool.not_eq_true',decide_eq_true_eq]at h;rcases h with h|h
     ·rw[h]
     ·have:¬v.Text=⟨#[]⟩:=by
       intro he;rw[he]at h;have:((⟨#[]⟩:ByteArray).size:Int)=0:=rfl;omega
      rw[decide_eq_false this];rfl
    ·simp only[Bool.or_eq_false_iff,Bool.not_eq_false']at h;rw[h.1]
    ·have:k=7:=by simpa using h2
     omega
 ·have hkd:decide (1<=k/\k<=9/\v.Kind=k)=false:=decide_eq_false hk;unfold a9h;rw[hkd];simp
theorem e2v(v:A0):b9c v (c4e v):=by
 refine d0c _ _ ?_;unfold c4e;rw[Bool.eq_iff_iff];simp only[decide_eq_true_eq,Bool.and_eq_true,beq_iff_eq];omega
theorem f35(k:Int)(v:A0)(hv:OkV v):c4s k v (a9h k v):=by
 refine d0n _ _ _ ⟨_,b6c _ _ rfl,fun b=>b= !(decide (1<=k/\k<=9/\v.Kind=k)&&c4e v),fun b hR=>⟨fun h=>?_,fun h=>⟨_,b7d _ _ rfl,fun h2=>?_,fun h2=>?_⟩⟩,fun h=>?_,fun h=>⟨_,e2v v,?_⟩⟩
 ·have:(decide (1<=k/\k<=9/\v.Kind=k)&&c4e v)=false:=by rw[<-Bool.not_eq_true',<-hR];exact h
  unfold a9h;rw[this];rfl
 ·have hb:(decide (1<=k/\k<=9/\v.Kind=k)&&c4e v)=true:=by rw[<-Bool.not_eq_false',<-hR];exact h
  have h78:k=7\/k=8:=by simpa using h2
  unfold a9h;rw[hb,Bool.true_and,if_pos h78];refine⟨fun c=>c=(decide (v.Bits=0/\v.Text.size<=4096)&&(!decide (k=7)||b27 v.Text)),fun c hc=>hc.symm,fun h3=>?_,fun h3=>?_⟩
  ·have h4:v.Bits=0/\v.Text.size<=4096:=by
    simp only[Bool.and_eq_true,beq_iff_eq,decide_eq_true_eq]at h3;omega
   rw[decide_eq_true h4,Bool.true_and];refine⟨fun c=>c=(!decide (k=7)||b27 v.Text),fun c hc=>hc,fun h5=>?_,fun h5=>⟨_,d6v _ hv.t,?_⟩⟩
   ·have:¬k=7:=by simp only[beq_iff_eq]at h5;omega
    rw[decide_eq_false this];rfl
   ·have:k=7:=by simp only[beq_eq_false_iff_ne]at h5;omega
    rw[decide_eq_true this];rfl
  ·have h4:¬(v.Bits=0/\v.Text.size<=4096):=by
    simp only[Bool.and_eq_false_iff,beq_eq_false_iff_ne,decide_eq_false_iff_not]at h3;omega
   rw[decide_eq_false h4];rfl
 ·have hb:(decide (1<=k/\k<=9/\v.Kind=k)&&c4e v)=true:=by rw[<-Bool.not_eq_false',<-hR];exact h
  have h78:¬(k=7\/k=8):=by simpa using h2
  unfold a9h;rw[hb,Bool.true_and,if_neg h78];refine⟨fun h3=>?_,fun h3=>?_⟩
  ·have:decide (v.Text=⟨#[]⟩)=false:=by rw[<-Bool.not_eq_true'];exact h3
   rw[this];rfl
  ·have:decide (v.Text=⟨#[]⟩)=true:=by rw[<-Bool.not_eq_false'];exact h3
   rw[this,Bool.true_and];refine⟨fun h4=>?_,fun h4=>⟨fun h5=>?_,fun h5=>⟨fun h6=>?_,fun h6=>⟨fun h7=>?_,fun h7=>?_⟩⟩⟩⟩
   all_goals simp only[beq_iff_eq,beq_eq_false_iff_ne]at*
   ·rw[a2p,if_pos h4]
   ·rw[a2p,if_neg h4,if_pos h5,Bool.decide_and]
   ·rw[a2p,if_neg h4,if_neg h5,if_neg (by omega),if_pos h6]
    congr 1;simp only[eq_iff_iff];omega
   ·rw[a2p,if_neg h4,if_neg h5,if_pos h7]
    congr 1;simp only[eq_iff_iff];omega
   ·rw[a2p,if_neg h4,if_neg h5,if_neg h7,if_neg h6]
 ·have:decide (1<=k/\k<=9/\v.Kind=k)=false:=by
   refine decide_eq_false fun hn=>?_
   simp[hn.1,hn.2.1,hn.2.2]at h
  rw[this];rfl
 ·have:decide (1<=k/\k<=9/\v.Kind=k)=true:=by
   refine decide_eq_true ?_;simp at h;omega
  rw[this];rfl
def b8b(v:A0):Bool:=isS v.Kind&&(v.Bits==0)&&decide (v.Text=(⟨#[]⟩:ByteArray))&&c4e v
def b7f(v:A0):Bool:=if v.Kind=11 then v.List_.isEmpty else if v.Kind=12 then v.Pairs.isEmpty else b8b v
theorem f5p(v:A0):b7v v (b8b v):=by
 refine c4x _ _ ⟨_,b6c _ _ rfl,fun h=>⟨_,e2v v,?_⟩,fun h=>?_⟩
 ·unfold b8b isS;rw[h,Bool.true_and]
 ·unfold b8b isS;rw[h,Bool.false_and]
theorem f0f(v:A0):c0s v (b7f v):=by
 refine c7e _ _ ⟨fun h=>?_,fun h=>⟨fun h2=>?_,fun h2=>⟨_,f5p v,?_⟩⟩⟩
 all_goals simp only[beq_iff_eq,beq_eq_false_iff_ne]at*
 ·unfold b7f;rw[if_pos h];cases v.List_<;>simp
  omega
 ·unfold b7f;rw[if_neg h,if_pos h2];cases v.Pairs<;>simp
  omega
 ·unfold b7f;rw[if_neg h,if_neg h2]
theorem e6f(v:A0)(hv:OkV v):a62 v (b8b v):=by
 have key:b8b v=(((isS v.Kind&&c9r v)&&(v.Bits==0))&&decide (v.Text=(⟨#[]⟩:ByteArray))):=by
  unfold b8b c9r
  by_cases h1:v.Bits=0
  ·by_cases h2:v.Text=(⟨#[]⟩:ByteArray)
   ·simp[h1,h2]
   ·simp[h2]
  ·have hb:(v.Bits==0)=false:=by simpa using h1
   rw[hb];simp
 refine c3d _ _ ⟨_,a81 _ _ rfl,fun z=>z=(isS v.Kind&&c9r v),fun z hz=>?_,fun h=>⟨_,f1r v hv,?_⟩,fun h=>?_⟩
 ·rw[hz];exact key
 ·unfold isS;rw[h,Bool.true_and]
 ·unfold isS;rw[h,Bool.false_and]
theorem f4m(v:A0)(hv:OkV v):c6e v (b7f v):=by
 have ns:∀k:Int,k=11\/k=12->isS k=false:=by
  intro k hk;unfold isS;rcases hk with h|h<;>subst h<;>decide
 refine d1g _ _ ⟨fun h=>?_,fun h=>⟨_,e6f v hv,?_⟩⟩
 ·simp only[Bool.or_eq_true,Bool.and_eq_true,beq_iff_eq]at h;unfold b7f;rcases h with⟨h1,h2⟩|⟨h1,h2⟩
  ·rw[if_pos h1,List.isEmpty_iff,<-List.length_eq_zero_iff];omega
  ·rw[if_neg (by omega),if_pos h1,List.isEmpty_iff,<-List.length_eq_zero_iff];omega
 ·simp only[Bool.or_eq_false_iff,Bool.and_eq_false_iff,beq_eq_false_iff_ne]at h;unfold b7f
  by_cases h1:v.Kind=11
  ·rw[if_pos h1]
   have:v.List_.isEmpty=false:=by
    cases hl:v.List_ with
    |nil=>rw[hl]at h;simp at h;omega
    |cons x l=>rfl
   rw[this,b8b,ns _ (.inl h1)];rfl
  ·by_cases h2:v.Kind=12
   ·rw[if_neg h1,if_pos h2]
    have:v.Pairs.isEmpty=false:=by
     cases hl:v.Pairs with
     |nil=>rw[hl]at h;simp at h;omega
     |cons x l=>rfl
    rw[this,b8b,ns _ (.inr h2)];rfl
   ·rw[if_neg h1,if_neg h2]
def c4c{α:Type}(f:α->Bool):List α->Int->Int
 |[],_=> -1
 |x::l,i=>if f x=true then i else c4c f l (i+1)
theorem d80{α:Type}{J:Int->List α->Int->Prop}{C:α->Bool->Prop}(f:α->Bool)
  (b8i:∀i s r,((decide (i<(s.length:Int)))=true->∃y3,s[i.toNat]? =some y3/\0<=i/\(∃y4,C y3 y4/\((y4=true->r=i)/\(y4=false->J (wI (i+1)) s r))))/\((decide (i<(s.length:Int)))=false->r=(-1))->J i s r)
  (s:List α) (hs:s.length<=140737488351232) (hC:∀x∈s,C x (f x)):J 0 s (c4c f s 0):=by
 have key:∀(d i:Nat),s.length - i<=d->i<=s.length->J i s (c4c f (s.drop i) i):=by
  intro d
  induction d with
  |zero=>
   intro i hd hi;exact b8i _ _ _ ⟨fun h=>by simp at h;omega,fun _=>by rw[List.drop_eq_nil_of_le (by omega)];rfl⟩
  |succ d ih=>
   intro i hd hi;rcases Nat.lt_or_ge i s.length with hlt|hge
   ·have e1:wI ((i:Int)+1)=((i+1:Nat):Int):=by rw[wI,D3 (by omega)];omega
    have dl:s.drop i=s[i]::s.drop (i+1):=List.drop_eq_getElem_cons hlt;refine b8i _ _ _ ⟨fun _=>⟨s[i],by simp,by omega,_,hC _ (List.getElem_mem _),fun h=>?_,fun h=>?_⟩,fun h=>by simp at h;omega⟩
    ·rw[dl,c4c,if_pos h]
    ·rw[dl,c4c,if_neg (nt h),e1];exact ih (i+1) (by omega) (by omega)
   ·exact b8i _ _ _ ⟨fun h=>by simp at h;omega,fun _=>by rw[List.drop_eq_nil_of_le hge];rfl⟩
 simpa using key s.length 0 (by omega) (by omega)
theorem d9d{α:Type}{J:Int->Prop}{C:α->Bool->Prop}{E:Prop}{r:Bool}(f:α->Bool)(s:List α)
  (b8i:∀i:Int,((decide (i<(s.length:Int)))=true->∃y3,s[i.toNat]? =some y3/\0<=i/\(∃y4,C y3 y4/\((y4=true->r=true)/\(y4=false->J (wI (i+1))))))/\((decide (i<(s.length:Int)))=false->E)->J i)
  (hs:s.length<=140737488351232) (hC:∀x∈s,C x (f x)) (h1:s.any f=true->r=true) (h2:s.any f=false->E):J 0:=by
 have key:∀(d i:Nat),s.length - i<=d->i<=s.length->((s.drop i).any f=true->r=true)->((s.drop i).any f=false->E)->J i:=by
  intro d
  induction d with
  |zero=>
   intro i hd hi _ k2;exact b8i _ ⟨fun h=>by simp at h;omega,fun _=>k2 (by rw[List.drop_eq_nil_of_le (by omega)];rfl)⟩
  |succ d ih=>
   intro i hd hi k1 k2;rcases Nat.lt_or_ge i s.length with hlt|hge
   ·have e1:wI ((i:Int)+1)=((i+1:Nat):Int):=by rw[wI,D3 (by omega)];omega
    have dl:s.drop i=s[i]::s.drop (i+1):=List.drop_eq_getElem_cons hlt;rw[dl,List.any_cons]at k1 k2;refine b8i _ ⟨fun _=>⟨s[i],by simp,by omega,_,hC _ (List.getElem_mem _),fun h=>k1 (by rw[h];rfl),fun h=>?_⟩,fun h=>by simp at h;omega⟩;rw[e1];rw[h,Bool.false_or]at k1 k2;exact ih (i+1) (by omega) (by omega) k1 k2
   ·exact b8i _ ⟨fun h=>by simp at h;omega,fun _=>k2 (by rw[List.drop_eq_nil_of_le hge];rfl)⟩
 exact key s.length 0 (by omega) (by omega) (by simpa using h1) (by simpa using h2)
def X3(p:A7)(name:ByteArray):Int × Bool:=(max (c4c (fun g:B8=>decide (g.Name=name)) p.Progs 0) 0,decide (0<=c4c (fun g:B8=>decide (g.Name=name)) p.Progs 0))
theorem d1d(p:A7)(hp:p.Progs.length<=140737488351232)(name:ByteArray):c2f p name (X3 p name):=by
 refine d2a _ _ _ ⟨_,a7i _ _ _ (d80 (J:=fun i s r=>N5 i s _ r) (fun g:B8=>decide (g.Name=name)) (fun i s r hw=>a41 _ _ _ _ hw) _ hp fun x hx=>?_),rfl⟩;exact d1m x name _ (c68 _ _ _ rfl)
theorem f4x(p:A7)(hp:p.Progs.length<=140737488351232)(name:ByteArray):c4u p name (X3 p name):=by
 have key:∀(d i:Nat),p.Progs.length - i<=d->i<=p.Progs.length->b1a i name p (max (c4c (fun g:B8=>decide (g.Name=name)) (p.Progs.drop i) i) 0,decide (0<=c4c (fun g:B8=>decide (g.Name=name)) (p.Progs.drop i) i)):=by
  intro d
  induction d with
  |zero=>
   intro i hd hi;exact a67 _ _ _ _ ⟨fun h=>by simp at h;omega,fun _=>by rw[List.drop_eq_nil_of_le (by omega)];rfl⟩
  |succ d ih=>
   intro i hd hi;rcases Nat.lt_or_ge i p.Progs.length with hlt|hge
   ·have e1:wI ((i:Int)+1)=((i+1:Nat):Int):=by rw[wI,D3 (by omega)];omega
    have dl:p.Progs.drop i=p.Progs[i]::p.Progs.drop (i+1):=List.drop_eq_getElem_cons hlt;refine a67 _ _ _ _ ⟨fun _=>⟨p.Progs[i],by simp,by omega,fun h=>?_,fun h=>?_⟩,fun h=>by simp at h;omega⟩
    ·rw[dl,c4c,if_pos h];have h1:max (i:Int) 0=i:=by omega
     have h2:decide (0<=(i:Int))=true:=by simp
     rw[h1,h2]
    ·rw[dl,c4c,if_neg (nt h),e1];exact ih (i+1) (by omega) (by omega)
   ·exact a67 _ _ _ _ ⟨fun h=>by simp at h;omega,fun _=>by rw[List.drop_eq_nil_of_le hge];rfl⟩
 have:=key p.Progs.length 0 (by omega) (by omega);exact c96 _ _ _ (by simpa[X3]using this)
def a8h:Nat->A0->Bool
 |0,_=>false
 |n+1,v=> !v.Raws.isEmpty||(v.Slots.any (fun x=>a8h n x.2)||(v.List_.any (a8h n)||v.Pairs.any (fun x=>a8h n x.2)))
theorem e0w(v:A0):(decide (0<(v.Raws.length:Int)))= !v.Raws.isEmpty:=by
 cases v.Raws with
 |nil=>rfl
 |cons x l=>simp
theorem c8u:∀(n:Nat) (v:A0),OkD v->SizeOf.sizeOf v<=n->a6j v (a8h n v)
 |0,v,_,h=>by have:=szV v;omega
 |n+1,v,hv,hn=>by
  obtain⟨_,_,⟨la,pa,sa,ra⟩,hl,hp,hs⟩:=hv.inv;refine d2h _ _ ⟨fun h=>?_,fun h=>?_⟩
  ·rw[e0w]at h;rw[a8h,h,Bool.true_or]
  rw[e0w]at h;rw[a8h,h,Bool.false_or];refine d9d (C:=fun(x:Int × A0) b=>a6j x.2 b) (fun x=>a8h n x.2) v.Slots (fun i hw=>c5f i v _ hw) sa (fun x hx=>c8u n x.2 (hs x hx) (by have:=szS hx;omega)) (fun h1=>by rw[h1,Bool.true_or]) (fun h1=>?_);rw[h1,Bool.false_or];refine d9d (C:=fun(x:A0) b=>a6j x b) (a8h n) v.List_ (fun i hw=>c3p i v _ hw) la (fun x hx=>c8u n x (hl x hx) (by have:=szL hx;omega)) (fun h2=>by rw[h2,Bool.true_or]) (fun h2=>?_);rw[h2,Bool.false_or];exact d9d (C:=fun(x:A0 × A0) b=>a6j x.2 b) (fun x=>a8h n x.2) v.Pairs (fun i hw=>c3u i v _ hw) pa (fun x hx=>c8u n x.2 (hp x hx).2 (by have:=szP hx;omega)) (fun h3=>h3) (fun h3=>h3)
theorem f59(a:Int):∃k:Int,wI a=a+k*18446744073709551616:=by
 simp only[wI,IntKind.wrap,IntKind.bits,IntKind.signed,Bool.true_and,decide_eq_true_eq];split
 ·exact⟨-(a / 18446744073709551616) - 1,by omega⟩
 ·exact⟨-(a / 18446744073709551616),by omega⟩
theorem h19{a b k:Int}(h:a=b+k*18446744073709551616):wI a=wI b:=by
 have:a % 2 ^ (IntKind.bits .i64)=b % 2 ^ (IntKind.bits .i64):=by
  show a % 18446744073709551616=b % 18446744073709551616;omega
 simp only[wI,IntKind.wrap,this]
theorem f64(a b:Int):wI (wI a+wI b)=wI (a+b):=by
 obtain⟨k,hk⟩:=f59 a;obtain⟨m,hm⟩:=f59 b;exact h19 (k:=k+m) (by rw[hk,hm,Int.add_mul];omega)
theorem d31{α:Type}{J:Int->Int->Prop}{C:α->Int->Prop}{E:Int->Prop}(f:α->Int)(s:List α)
  (b8i:∀i a:Int,((decide (i<(s.length:Int)))=true->∃y3,s[i.toNat]? =some y3/\0<=i/\(∃y4,C y3 y4/\J (wI (i+1)) (wI (a+y4))))/\((decide (i<(s.length:Int)))=false->E a)->J i a)
  (hs:s.length<=140737488351232) (hC:∀x∈s,C x (wI (f x))) (a:Int) (h:E (wI (a+(s.map f).sum))):J 0 (wI a):=by
 have key:∀(d i:Nat) (a:Int),s.length - i<=d->i<=s.length->E (wI (a+((s.drop i).map f).sum))->J i (wI a):=by
  intro d
  induction d with
  |zero=>
   intro i a hd hi hE;refine b8i _ _ ⟨fun h=>by simp at h;omega,fun _=>?_⟩;rw[List.drop_eq_nil_of_le (by omega)]at hE;simpa using hE
  |succ d ih=>
   intro i a hd hi hE;rcases Nat.lt_or_ge i s.length with hlt|hge
   ·have e1:wI ((i:Int)+1)=((i+1:Nat):Int):=by rw[wI,D3 (by omega)];omega
    have dl:s.drop i=s[i]::s.drop (i+1):=List.drop_eq_getElem_cons hlt;rw[dl,List.map_cons,List.sum_cons]at hE;refine b8i _ _ ⟨fun _=>⟨s[i],by simp,by omega,_,hC _ (List.getElem_mem _),?_⟩,fun h=>by simp at h;omega⟩;rw[e1,f64];exact ih (i+1) (a+f s[i]) (by omega) (by omega) (by rw[Int.add_assoc];exact hE)
   ·refine b8i _ _ ⟨fun h=>by simp at h;omega,fun _=>?_⟩;rw[List.drop_eq_nil_of_le hge]at hE;simpa using hE
 exact key s.length 0 a (by omega) (by omega) (by simpa using h)
def a25:Nat->A0->Int
 |0,_=>0
 |n+1,v=>1+(v.Raws.length:Int)+(v.List_.map (a25 n)).sum+(v.Pairs.map fun x=>a25 n x.1+a25 n x.2).sum+(v.Slots.map fun x=>a25 n x.2).sum
theorem b80:∀(n:Nat) (v:A0),OkD v->SizeOf.sizeOf v<=n->X8 v (wI (a25 n v))
 |0,v,_,h=>by have:=szV v;omega
 |n+1,v,hv,hn=>by
  obtain⟨_,_,⟨la,pa,sa,ra⟩,hl,hp,hs⟩:=hv.inv;refine c7g _ _ ?_;refine d31 (J:=fun i a=>a8v i a v (wI (a25 (n+1) v))) (C:=fun(x:A0) b=>X8 x b) (a25 n) v.List_ (fun i a hw=>c1v i a v _ hw) la (fun x hx=>b80 n x (hl x hx) (by have:=szL hx;omega)) _ ?_;refine d31 (J:=fun i a=>a6g i a v (wI (a25 (n+1) v))) (C:=fun(x:A0 × A0) b=>∃u w,X8 x.1 u/\X8 x.2 w/\b=wI (u+w)) (fun x:A0 × A0=>a25 n x.1+a25 n x.2) v.Pairs (fun i a hw=>c0c i a v _ ⟨fun h=>?_,hw.2⟩) pa (fun x hx=>?_) _ ?_
  ·obtain⟨y,h1,h2,b,⟨u,w,c1,c2,rfl⟩,h3⟩:=hw.1 h;exact⟨y,h1,h2,u,c1,y,h1,h2,w,c2,h3⟩
  ·have hz:=szP hx;exact⟨_,_,b80 n _ (hp x hx).1 (by omega),b80 n _ (hp x hx).2 (by omega),(f64 _ _).symm⟩
  refine d31 (J:=fun i a=>a6e i a v (wI (a25 (n+1) v))) (C:=fun(x:Int × A0) b=>X8 x.2 b) (fun x:Int × A0=>a25 n x.2) v.Slots (fun i a hw=>c0a i a v _ hw) sa (fun x hx=>b80 n _ (hs x hx) (by have:=szS hx;omega)) _ ?_;rfl
theorem d3r(n:Int): -9223372036854775808<=wI n/\wI n<=9223372036854775807:=by simp only[wI,IntKind.wrap,IntKind.signed,IntKind.bits];simp;omega
theorem e0d{n:Int}(h: -9223372036854775808<=n/\n<=9223372036854775807):f2c n<18446744073709551616:=by unfold f2c;split<;>omega
theorem d6r:∀k u:Nat,u<128 ^ k->1<=k->(b33 u).length<=k
 |0,u,h,h1=>by omega
 |k+1,u,h,h1=>by
  rw[b33];split
  ·simp
  ·rename_i hu;rcases Nat.eq_zero_or_pos k with h0|h0
   ·subst h0;simp at h;omega
   ·have:=d6r k (u / 128) (by rw[Nat.pow_succ]at h;omega) h0;simp;omega
theorem a9p(u:Nat)(h:u<18446744073709551616):(b4a u).size<=10:=by rw[b4a,b63];exact d6r 10 u (by omega) (by omega)
def d4z(v:A0):ByteArray:=
 if a9h v.Kind v=true then
  if v.Kind=1 then ofI [v.Bits % 256]
  else if v.Kind=2\/v.Kind=3 then b4a (f2c (wI v.Bits))
  else if v.Kind=6 then e01 (Z8 v).Bits.toNat
  else if v.Kind=7\/v.Kind=8 then b4a v.Text.size++v.Text
  else b4a v.Bits.toNat
 else⟨#[]⟩
theorem d3p(v:A0)(hv:OkV v):0<=(Z8 v).Bits/\(Z8 v).Bits<18446744073709551616:=by
 unfold Z8;split
 ·exact⟨(by decide:(0:Int)<=9221120237041090560),(by decide:(9221120237041090560:Int)<18446744073709551616)⟩
 ·exact⟨hv.b0,hv.b1⟩
theorem g4m{n:Int}:IntKind.u8.wrap n=n % 256:=by simp[IntKind.wrap,IntKind.signed,IntKind.bits]
theorem h0y(v:A0)(hv:OkV v)(b:Bool):c64 b v (if b=true then b4a v.Text.size++v.Text else b4a v.Bits.toNat):=by
 have h1:=hv.t;have h2:=hv.b0;have h3:=hv.b1;have e1:wU (v.Text.size:Int)=(v.Text.size:Int):=b2o (by omega);have hp:=a9p v.Text.size (by omega);refine c5x _ _ _ ⟨fun h=>⟨_,by rw[e1];exact e6o _ (by omega),by omega,by rw[if_pos h]⟩,fun h=>⟨b4a v.Bits.toNat,?_,by rw[h];rfl⟩⟩;have:=e6o v.Bits.toNat (by omega);rw[show((v.Bits.toNat:Nat):Int)=v.Bits by omega]at this;exact this
theorem f6a(v:A0)(hv:OkV v)(b:Bool):b96 b v (if b=true then b4a v.Text.size++v.Text else b4a v.Bits.toNat):=by
 have h1:=hv.t;have h2:=hv.b0;have h3:=hv.b1;have e1:wU (v.Text.size:Int)=(v.Text.size:Int):=b2o (by omega);have hp:=a9p v.Text.size (by omega);refine d0o _ _ _ ⟨fun h=>⟨_,by rw[e1];exact d79 _ (by omega),by omega,by rw[if_pos h]⟩,fun h=>⟨b4a v.Bits.toNat,?_,by rw[h];rfl⟩⟩;have:=d79 v.Bits.toNat (by omega);rw[show((v.Bits.toNat:Nat):Int)=v.Bits by omega]at this;exact this
def g64(b:Bool)(v:A0):ByteArray:=if b=true then b4a (f2c (wI v.Bits)) else if v.Kind=6 then e01 (Z8 v).Bits.toNat else if v.Kind=7\/v.Kind=8 then b4a v.Text.size++v.Text else b4a v.Bits.toNat
theorem f6v(v:A0)(hv:OkV v)(b:Bool):b9r b v (g64 b v):=by
 have hn:=d3p v hv;have hr:=d3r v.Bits;refine d0b _ _ _ ⟨fun h=>⟨_,g7a _ hr,_,d79 _ (e0d hr),by rw[g64,if_pos h]⟩,fun h=>⟨fun h2=>?_,fun h2=>⟨fun h3=>?_,fun h3=>?_⟩⟩⟩
 all_goals simp only[beq_iff_eq,beq_eq_false_iff_ne]at*
 all_goals rw[g64,if_neg (by rw[h];decide)]
 ·refine⟨_,d4k v ⟨hv.b0,hv.b1⟩,e01 (Z8 v).Bits.toNat,?_,by rw[if_pos h2]⟩;have:=e7n (Z8 v).Bits.toNat;rw[show(((Z8 v).Bits.toNat:Nat):Int)=(Z8 v).Bits by omega]at this;exact this
 ·have:=f6a v hv (v.Kind==7);rw[if_pos (by simpa using h3)]at this;rw[if_neg h2,if_pos (.inl h3)];exact this
 ·have:=f6a v hv (v.Kind==8);rw[if_neg h2]
  by_cases h8:v.Kind=8
  ·rw[if_pos (by simpa using h8)]at this;rw[if_pos (.inr h8)];exact this
  ·rw[if_neg (by simpa using h8)]at this;rw[if_neg (by omega)];exact this
theorem d6h(v:A0)(hv:OkV v):d38 v (d4z v):=by
 refine d6t _ _ ⟨_,d9f v.Kind v hv,fun h=>?_,fun h=>?_⟩
 ·have:a9h v.Kind v=false:=by rw[<-Bool.not_eq_true'];exact h
  rw[d4z,this];rfl
 ·have:a9h v.Kind v=true:=by rw[<-Bool.not_eq_false'];exact h
  rw[d4z,if_pos this];refine⟨fun h1=>⟨_,?_,by rw[if_pos (by simpa using h1)]⟩,fun h1=>⟨fun h2=>?_,fun h2=>?_⟩⟩
  ·rw[g4m];exact d2j (a1z (by omega))
  ·have:=f6v v hv (v.Kind==2);simp only[beq_iff_eq,beq_eq_false_iff_ne]at h1 h2;rw[if_neg h1,if_pos (.inl h2)];rw[g64,if_pos (by simpa using h2)]at this;exact this
  ·have:=f6v v hv (v.Kind==3);simp only[beq_iff_eq,beq_eq_false_iff_ne]at h1 h2;rw[if_neg h1];unfold g64 at this
   by_cases h3:v.Kind=3
   ·rw[if_pos (.inr h3)];rw[if_pos (by simpa using h3)]at this;exact this
   ·rw[if_neg (by omega)];rw[if_neg (by simpa using h3)]at this;exact this
def V0:A0:=⟨0,0,⟨#[]⟩,[],[],[],[]⟩
theorem g0r(c:A3)(hc:OkC c)(h:(T8 c).2.2=0):OkC (T8 c).2.1/\0<=(T8 c).1/\(T8 c).1<18446744073709551616:=by
 have hs:=d4v c hc;have hl:=d3s (O9 c) 10 0 0 rfl (by omega) (by decide);unfold T8 at h ⊢;split at h
 ·split at h
  ·rename_i h1 h2;rw[if_pos h1,if_pos h2];exact⟨⟨hc.sz,hs.1,hs.2⟩,by omega,by simp only;omega⟩
  ·exact absurd h (show ¬((5:Int)=0) by decide)
 ·rename_i h1;simp only at h;omega
def d92(k:Int)(c:A3):A0 × A3 × Int:=
 if(T8 c).2.2≠0 then(V0,c,(T8 c).2.2)
 else if a1b (T8 c).2.1.Data (T8 c).2.1.At (T8 c).2.1.End<(T8 c).1 then(V0,c,4)
 else if(a7g (T8 c).2.1 (T8 c).1).2.2≠0 then(V0,c,(a7g (T8 c).2.1 (T8 c).1).2.2)
 else if k=7/\b27 (a7g (T8 c).2.1 (T8 c).1).1=false then(V0,c,7)
 else(⟨k,0,(a7g (T8 c).2.1 (T8 c).1).1,[],[],[],[]⟩,(a7g (T8 c).2.1 (T8 c).1).2.1,0)
theorem d20(c:A3)(hc:OkC c)(n:Int):(a7g c n).1.size<=140737488351232:=by
 have:=hc.sz;unfold a7g;split
 ·exact(by decide:(0:Nat)<=140737488351232)
 split
 ·exact(by decide:(0:Nat)<=140737488351232)
 split
 ·exact(by decide:(0:Nat)<=140737488351232)
 ·simp only[ByteArray.size_extract];omega
theorem e3f(k:Int)(c:A3)(hc:OkC c):d3w k c (d92 k c):=by
 have hl0:=c6w (T8 c).2.1;refine d4y _ _ _ ⟨_,d0t c hc,fun h=>?_,fun h=>?_⟩
 ·have h0:(T8 c).2.2≠0:=by simpa using h
  rw[d92,if_pos h0];rfl
 have h0:(T8 c).2.2=0:=by simpa using h
 obtain⟨hd,hb0,hb1⟩:=g0r c hc h0;have hn0:¬(T8 c).2.2≠0:=fun h=>h h0
 refine⟨_,d4e _ hd,fun h=>?_,fun h=>?_⟩
 all_goals
  have hlw:a1b (T8 c).2.1.Data (T8 c).2.1.At (T8 c).2.1.End<=140737488351232:=by
   have:=hd.sz;have h1:=a89 (T8 c).2.1;have h2:=hd.rest;omega
  have ew:wU (a1b (T8 c).2.1.Data (T8 c).2.1.At (T8 c).2.1.End)=a1b (T8 c).2.1.Data (T8 c).2.1.At (T8 c).2.1.End:=b2o (by omega);rw[ew]at h
 ·simp only[decide_eq_true_eq]at h;rw[d92,if_neg hn0,if_pos h];rfl
 simp only[decide_eq_false_iff_not]at h;have e2:wI (T8 c).1=(T8 c).1:=D3 (by omega);rw[e2];refine⟨_,g0z _ hd _,fun h2=>?_,fun h2=>?_⟩
 ·have h3:(a7g (T8 c).2.1 (T8 c).1).2.2≠0:=by simpa using h2
  rw[d92,if_neg hn0,if_neg h,if_pos h3];rfl
 have h3:¬(a7g (T8 c).2.1 (T8 c).1).2.2≠0:=by simpa using h2
 rw[d92,if_neg hn0,if_neg h,if_neg h3];refine⟨fun b=>b=decide (k=7/\b27 (a7g (T8 c).2.1 (T8 c).1).1=false),fun b hb=>⟨fun h4=>?_,fun h4=>?_⟩,fun h4=>⟨_,d4b _ (d20 _ hd _),?_⟩,fun h4=>?_⟩
 ·rw[h4]at hb;rw[if_pos (of_decide_eq_true hb.symm)];rfl
 ·rw[h4]at hb;rw[if_neg (of_decide_eq_false hb.symm)]
 ·have:k=7:=by simpa using h4
  cases b27 (a7g (T8 c).2.1 (T8 c).1).1<;>simp[this]
 ·have:¬k=7:=by simpa using h4
  simp[this]
def e3s(c:A3):A0 × A3 × Int:=
 if(c61 c).2.2≠0 then(V0,c,(c61 c).2.2)
 else if(Z8 ⟨6,(c61 c).1,⟨#[]⟩,[],[],[],[]⟩).Bits≠(c61 c).1 then(V0,c,5) else(⟨6,(c61 c).1,⟨#[]⟩,[],[],[],[]⟩,(c61 c).2.1,0)
theorem d67(c:A3):0<=(c61 c).1/\(c61 c).1<18446744073709551616:=by
 unfold c61;split
 ·have:=e6b (O9 c) 8;have e:256 ^ 8=18446744073709551616:=rfl;simp only;omega
 ·exact⟨(by decide:(0:Int)<=0),(by decide:(0:Int)<18446744073709551616)⟩
theorem f0n(c:A3)(hc:OkC c):c5q c (e3s c):=by
 refine d06 _ _ ⟨_,f23 c hc,fun h=>?_,fun h=>⟨_,d4k _ (d67 c),fun h2=>?_,fun h2=>?_⟩⟩
 ·have h0:(c61 c).2.2≠0:=by simpa using h
  rw[e3s,if_pos h0];rfl
 all_goals have h0:¬(c61 c).2.2≠0:=by simpa using h
 ·rw[e3s,if_neg h0,if_pos (by simpa using h2)];rfl
 ·rw[e3s,if_neg h0,if_neg (by simpa using h2)]
def e0s(p:A7)(enum num:Int):Bool:=
 if enum<0\/(p.Enums.length:Int)<=enum\/2147483647<num then false else(p.Enums[enum.toNat]?).any fun y=>y.Open||y.Items.any fun it=>decide (it.Num=num)
structure OkE(p:A7):Prop where
 n:p.Enums.length<=140737488351232
 i:∀y∈p.Enums,y.Items.length<=140737488351232/\∀it∈y.Items, -9223372036854775808<=it.Num/\it.Num<=9223372036854775807
def h6h(num:Int):GFn:=⟨86,[],[.elt [.v (.int .u64 num)] 0],by simp[plainL,plain]⟩
theorem e9l(num:Int)(hn:0<=num/\num<=2147483647)(l:List b3z)(hl:l.length<=140737488351232)(hi:∀it∈l, -9223372036854775808<=it.Num/\it.Num<=9223372036854775807):∀n i:Nat,l.length - i<=n->i<=l.length->
  ∃r,N0 i l (h6h num) r/\(0<=r↔∃it∈l.drop i,it.Num=num):=by
 intro n
 induction n with
 |zero=>
  intro i h1 h2;refine⟨-1,I6 _ _ _ _ ⟨fun h=>by simp only[decide_eq_true_eq]at h;omega,fun _=>rfl⟩,?_⟩;have:l.drop i=[]:=List.drop_eq_nil_of_le (by omega);simp[this]
 |succ n ih=>
  intro i h1 h2;rcases Nat.lt_or_ge i l.length with hlt|hge
  ·have hy:l[i]? =some l[i]:=List.getElem?_eq_getElem hlt;have hmem:l[i]∈l:=List.getElem_mem hlt;have hr:=hi _ hmem;have hd:l.drop i=l[i]::l.drop (i+1):=List.drop_eq_getElem_cons hlt;have ht:((i:Int)).toNat=i:=by omega
   have hw:(wU (l[i]).Num==num)=decide ((l[i]).Num=num):=by
    rw[Bool.eq_iff_iff];simp only[beq_iff_eq,decide_eq_true_eq];rcases Int.lt_or_le (l[i]).Num 0 with h0|h0
    ·rw[f6z ⟨hr.1,h0⟩];omega
    ·have:wU (l[i]).Num=(l[i]).Num:=b2o (by omega);rw[this]
   have hc:=c23 l[i] num _ (c0u l[i] num _ rfl)
   by_cases he:(l[i]).Num=num
   ·refine⟨i,I6 _ _ _ _ ⟨fun _=>⟨l[i],by rw[ht];exact hy,by omega,_,hc,fun _=>rfl,fun h=>?_⟩,fun h=>by simp only[decide_eq_false_iff_not]at h;omega⟩,?_⟩
    ·rw[hw,decide_eq_true he]at h;cases h
    ·rw[hd];exact⟨fun _=>⟨_,List.mem_cons_self,he⟩,fun _=>by omega⟩
   ·obtain⟨r,hr1,hr2⟩:=ih (i+1) (by omega) (by omega);refine⟨r,I6 _ _ _ _ ⟨fun _=>⟨l[i],by rw[ht];exact hy,by omega,_,hc,fun h=>?_,fun _=>?_⟩,fun h=>by simp only[decide_eq_false_iff_not]at h;omega⟩,?_⟩
    ·rw[hw,decide_eq_false he]at h;cases h
    ·rw[wI,D3 (by omega)];exact hr1
    ·rw[hr2,hd];exact⟨fun⟨it,k1,k2⟩=>⟨it,List.mem_cons_of_mem _ k1,k2⟩,fun⟨it,k1,k2⟩=>(List.mem_cons.1 k1).elim (fun e=>(he (by rw[<-e];exact k2)).elim) fun k1=>⟨it,k1,k2⟩⟩
  ·refine⟨-1,I6 _ _ _ _ ⟨fun h=>by simp only[decide_eq_true_eq]at h;omega,fun _=>rfl⟩,?_⟩;have:l.drop i=[]:=List.drop_eq_nil_of_le (by omega);simp[this]
theorem c6a(p:A7)(hp:OkE p)(enum num:Int)(hn:0<=num):a9g p enum num (e0s p enum num):=by
 refine c5j _ _ _ _ ⟨fun h=>?_,fun h=>?_⟩
 ·rw[e0s,if_pos];simp only[Bool.or_eq_true,decide_eq_true_eq]at h;omega
 ·simp only[Bool.or_eq_false_iff,decide_eq_false_iff_not]at h;have hlt:enum.toNat<p.Enums.length:=by omega
  have hy:p.Enums[enum.toNat]? =some p.Enums[enum.toNat]:=List.getElem?_eq_getElem hlt;obtain⟨hl,hi⟩:=hp.i _ (List.getElem_mem hlt);rw[e0s,if_neg (by omega),hy];generalize p.Enums[enum.toNat]=y at*;refine⟨y,rfl,by omega,fun h2=>by simp[h2],fun h2=>?_⟩;obtain⟨r,hr1,hr2⟩:=e9l num ⟨hn,by omega⟩ y.Items hl hi y.Items.length 0 (by omega) (by omega);refine⟨_,a49 _ _ _ ⟨r,a7h _ _ _ hr1,rfl⟩,?_⟩;simp only[h2,Option.any_some,Bool.false_or];rw[Bool.eq_iff_iff,decide_eq_true_eq,hr2,List.drop_zero,List.any_eq_true];simp
def d40(k b:Int):A0:=⟨k,b,⟨#[]⟩,[],[],[],[]⟩
def d44(k u:Int):Int:=if k=2\/k=3 then wU (f18 u.toNat) else u
def b4v(p:A7)(k tgt:Int)(c:A3):A0 × A3 × Int:=
 if k=1 then
  if(a3e c).2.2≠0 then(V0,c,(a3e c).2.2) else if 1<(a3e c).1 then(V0,c,5) else(d40 k (a3e c).1,(a3e c).2.1,0)
 else if k=6 then e3s c
 else if k=7\/k=8 then d92 k c
 else if k=2\/k=3\/k=4\/k=5\/k=9 then
  if(T8 c).2.2≠0 then(V0,c,(T8 c).2.2)
  else if a9h k (d40 k (d44 k (T8 c).1))=false then(V0,c,6)
  else if k=9/\e0s p tgt (T8 c).1=false then(V0,c,16)
  else(d40 k (d44 k (T8 c).1),(T8 c).2.1,0)
 else(V0,c,12)
theorem f36(n:Int):0<=wU n/\wU n<18446744073709551616:=by simp only[wU,IntKind.wrap,IntKind.signed,IntKind.bits];simp;omega
theorem b5l(c:A3):0<=(T8 c).1/\(T8 c).1<18446744073709551616:=by
 have hl:=d3s (O9 c) 10 0 0 rfl (by omega) (by decide);unfold T8;split
 ·split
  ·exact⟨Int.natCast_nonneg _,by simp only;omega⟩
  ·exact⟨(by decide:(0:Int)<=0),(by decide:(0:Int)<18446744073709551616)⟩
 ·exact⟨(by decide:(0:Int)<=0),(by decide:(0:Int)<18446744073709551616)⟩
theorem c1k(c:A3):0<=(a3e c).1/\(a3e c).1<256:=by
 unfold a3e;split
 ·have:=b25 c.Data c.At.toNat;simp only;omega
 ·exact⟨(by decide:(0:Int)<=0),(by decide:(0:Int)<256)⟩
theorem OkV.bit{k b:Int}(h:0<=b/\b<18446744073709551616):OkV (d40 k b):=⟨by simp[d40],by simp[d40],by simp[d40],by simp[d40],(by decide:(0:Nat)<=140737488351232),h.1,h.2⟩
theorem d2z(k:Int)(c:A3):0<=d44 k (T8 c).1/\d44 k (T8 c).1<18446744073709551616:=by
 unfold d44;split
 ·exact f36 _
 ·exact b5l c
section
variable (p:A7) (hp:OkE p) (o:GOp) (c:A3) (hc:OkC c)
 include hp hc
theorem e1g(hk:o.Kind=2\/o.Kind=3\/o.Kind=4\/o.Kind=5\/o.Kind=9)(h0:(T8 c).2.2=0):a8z (T8 c) p o c (d44 o.Kind (T8 c).1) (b4v p o.Kind o.Target c):=by
 have hn:=d2z o.Kind c
 have hr:b4v p o.Kind o.Target c=if a9h o.Kind (d40 o.Kind (d44 o.Kind (T8 c).1))=false then(V0,c,6)
  else if o.Kind=9/\e0s p o.Target (T8 c).1=false then(V0,c,16)
  else(d40 o.Kind (d44 o.Kind (T8 c).1),(T8 c).2.1,0):=by
  unfold b4v;rw[if_neg (by omega),if_neg (by omega),if_neg (by omega),if_pos hk,if_neg (by omega)]
 rw[hr];refine c1z _ _ _ _ _ _ ⟨_,d9f o.Kind (d40 o.Kind (d44 o.Kind (T8 c).1)) (OkV.bit hn),fun h=>?_,fun h=>?_⟩
 ·rw[if_pos (by simpa using h)];rfl
 ·rw[if_neg (by simpa using h)];refine⟨fun b=>b=decide (o.Kind=9/\e0s p o.Target (T8 c).1=false),fun b hb=>⟨fun h2=>?_,fun h2=>?_⟩,fun h2=>⟨_,c6a p hp o.Target (T8 c).1 (b5l c).1,?_⟩,fun h2=>?_⟩
  ·rw[h2]at hb;rw[if_pos (of_decide_eq_true hb.symm)];rfl
  ·rw[h2]at hb;rw[if_neg (of_decide_eq_false hb.symm)];rfl
  ·have:o.Kind=9:=by simpa using h2
   cases e0s p o.Target (T8 c).1<;>simp[this]
  ·have:¬o.Kind=9:=by simpa using h2
   simp[this]
theorem g7g:b9s (T8 c).1 (f18 (T8 c).1.toNat)/\c82 (T8 c).1 (f18 (T8 c).1.toNat):=by
 have h:=b5l c;have e:(((T8 c).1.toNat:Nat):Int)=(T8 c).1:=by omega
 have h1:=g28 (T8 c).1.toNat (by omega);have h2:=g0s (T8 c).1.toNat (by omega);rw[e]at h1 h2;exact⟨h1,h2⟩
theorem c9p(b:Bool)(h1:¬o.Kind=1)(h6:¬o.Kind=6)(h78:¬(o.Kind=7\/o.Kind=8))(hb:b=true↔o.Kind=2\/o.Kind=3\/o.Kind=4\/o.Kind=5\/o.Kind=9):a06 b p o c (b4v p o.Kind o.Target c):=by
 refine c31 _ _ _ _ _ ⟨fun h=>⟨_,d0t c hc,fun h2=>?_,fun h2=>?_⟩,fun h=>?_⟩
 ·have h3:(T8 c).2.2≠0:=by simpa using h2
  unfold b4v;rw[if_neg h1,if_neg h6,if_neg h78,if_pos (hb.1 h),if_pos h3];rfl
 ·have h0:(T8 c).2.2=0:=by simpa using h2
  refine⟨fun h3=>⟨_,(g7g p hp c hc).1,?_⟩,fun h3=>?_⟩
  ·have h23:o.Kind=2\/o.Kind=3:=by simpa using h3
   have:=e1g p hp o c hc (hb.1 h) h0
   rwa [d44,if_pos h23]at this
  ·have h23:¬(o.Kind=2\/o.Kind=3):=by simpa using h3
   have:=e1g p hp o c hc (hb.1 h) h0
   rwa [d44,if_neg h23]at this
 ·unfold b4v;rw[if_neg h1,if_neg h6,if_neg h78,if_neg (fun hn=>by rw[hb.2 hn]at h;cases h)];rfl
theorem e5u(b:Bool)(h1:¬o.Kind=1)(h6:¬o.Kind=6)(hb:b=true↔o.Kind=7\/o.Kind=8):b1d b o p c (b4v p o.Kind o.Target c):=by
 refine c3v _ _ _ _ _ ⟨fun h=>⟨_,e3f o.Kind c hc,?_⟩,fun h=>?_⟩
 ·unfold b4v;rw[if_neg h1,if_neg h6,if_pos (hb.1 h)]
 ·have h78:¬(o.Kind=7\/o.Kind=8):=fun hn=>by rw[hb.2 hn]at h;cases h
  refine⟨fun h2=>c9p p hp o c hc _ h1 h6 h78 ?_,fun h2=>⟨fun h3=>c9p p hp o c hc _ h1 h6 h78 ?_,fun h3=>⟨fun h4=>c9p p hp o c hc _ h1 h6 h78 ?_,fun h4=>⟨fun h5=>c9p p hp o c hc _ h1 h6 h78 ?_,fun h5=>c9p p hp o c hc _ h1 h6 h78 ?_⟩⟩⟩⟩
  all_goals simp only[beq_iff_eq,beq_eq_false_iff_ne]at*
  all_goals omega
theorem e5l:c5k p o c (b4v p o.Kind o.Target c):=by
 have hb:=c1k c;have e:wU (a3e c).1=(a3e c).1:=b2o (by omega);refine c9n _ _ _ _ ⟨fun h=>⟨_,e6j c hc,fun h2=>?_,fun h2=>⟨fun h3=>?_,fun h3=>?_⟩⟩,fun h=>⟨fun h2=>⟨_,f0n c hc,?_⟩,fun h2=>⟨fun h3=>e5u p hp o c hc _ (by simpa using h) (by simpa using h2) ?_,fun h3=>e5u p hp o c hc _ (by simpa using h) (by simpa using h2) ?_⟩⟩⟩
 all_goals simp only[beq_iff_eq,beq_eq_false_iff_ne]at h
 ·unfold b4v;rw[if_pos h,if_pos (by simpa using h2)];rfl
 ·unfold b4v;rw[if_pos h,if_neg (by simpa using h2),if_pos (by simpa using h3)];rfl
 ·unfold b4v;rw[if_pos h,if_neg (by simpa using h2),if_neg (by simpa using h3),e];rfl
 ·unfold b4v;rw[if_neg h,if_pos (by simpa using h2)]
 all_goals simp only[beq_iff_eq,beq_eq_false_iff_ne]at*
 all_goals omega
end
theorem c24{l:List Int}(hl:c0p l){j:Nat}{x:Int}(hx:l[j]? =some x):((I9 (ofI l) j:Nat):Int)=x:=by
 have h:=hl x (List.mem_of_getElem? hx);unfold I9 F3 ofI;simp only[List.getD_eq_getElem?_getD,List.getElem?_map,hx,Option.map_some,Option.getD_some];have:(UInt8.ofNat x.toNat).toNat=x.toNat:=by simp;omega
 omega
theorem a79(a b:ByteArray){j:Nat}(h:j<a.size):I9 (a++b) j=I9 a j:=by
 have h2:j<a.data.size:=h;unfold I9 F3;simp[ByteArray.data_append,List.getElem?_append_left (show j<a.data.toList.length by simpa using h2)]
theorem f06(s:ByteArray)(u:Nat):∀i acc:Nat,i<=9->u*128 ^ i<18446744073709551616->i+(b33 u).length<=s.size->(∀j x,(b33 u)[j]? =some x->((I9 s (i+j):Nat):Int)=x)->W6 s i acc=(acc+u*128 ^ i,i+(b33 u).length,0):=by
 induction u using Nat.strongRecOn with
 |_ u ih=>
  intro i acc hi hb hl hx;have hp:=f37 u;obtain⟨p1,p2,p3⟩:=e8q hi;rw[W6.eq_def,if_neg (by omega),if_neg (by omega)]
  by_cases h:u<128
  ·have hu:b33 u=[(u:Int)]:=by rw[b33,if_pos h]
   have h0:I9 s i=u:=by
    have:=hx 0 u (by rw[hu];rfl);rw[Nat.add_zero]at this;omega
   rw[h0,if_neg,if_pos h,hu]
   ·rfl
   ·rintro⟨rfl,h1⟩;have:(128:Nat) ^ 9=9223372036854775808:=by decide
    rw[this]at hb;omega
  ·have hu:b33 u=((u % 128+128:Nat):Int)::b33 (u / 128):=by rw[b33,if_neg h]
   have h0:I9 s i=u % 128+128:=by
    have:=hx 0 _ (by rw[hu];rfl);rw[Nat.add_zero]at this;omega
   have h9:i<=8:=by
    rcases Nat.lt_or_ge i 9 with h9|h9
    ·omega
    ·obtain rfl:i=9:=by omega
     have:(128:Nat) ^ 9=9223372036854775808:=by decide
     rw[this]at hb;omega
   rw[h0,if_neg (by omega),if_neg (by omega)];have e1:(u % 128+128) % 128=u % 128:=by omega
   have e2:u*128 ^ i=u % 128*128 ^ i+u / 128*128 ^ (i+1):=by
    rw[Nat.pow_succ,Nat.mul_comm (128 ^ i) 128,<-Nat.mul_assoc,<-Nat.add_mul]
    congr 1
    omega
   rw[hu]at hl
   rw[e1,ih (u / 128) (by omega) (i+1) _ (by omega) (by omega) (by simp at hl;omega) (fun j x hj=>by
    have:=hx (j+1) x (by rw[hu];simpa using hj);rw[show i+1+j=i+(j+1) by omega];exact this),hu,e2]
   simp only[List.length_cons];refine Prod.ext ?_ (Prod.ext ?_ rfl)
   ·simp only;omega
   ·simp only;omega
theorem L7(a b:ByteArray):(a++b).size=a.size+b.size:=ByteArray.size_append
theorem f3y(u:Nat)(hu:u<18446744073709551616)(t:ByteArray):W6 (b4a u++t) 0 0=(u,(b4a u).size,0):=by
 have hz:(b4a u).size=(b33 u).length:=b63 _
 have:=f06 (b4a u++t) u 0 0 (by omega) (by simpa using hu) (by rw[L7,hz];omega) (fun j x hj=>by
  have hlt:j<(b4a u).size:=by rw[hz];exact(List.getElem?_eq_some_iff.1 hj).1
  rw[Nat.zero_add,a79 _ _ hlt];exact c24 (d3f u) hj)
 rw[this,hz];simp
theorem g2b(c:A3)(u:Nat)(hu:u<18446744073709551616)(t:ByteArray)(h:O9 c=b4a u++t):T8 c=((u:Int),a26 c (b4a u).size,0):=by
 have:=f3y u hu t;unfold T8;rw[h,this];simp
theorem f0w(u:Nat):∀n,n<=8->leS (e01 u) n=u % 256 ^ n
 |0,_=>by simp[leS];omega
 |n+1,h=>by
  simp only[leS];rw[f0w u n (by omega)];have hx:(e2a u 8)[n]? =some ((u / 256 ^ n % 256:Nat):Int):=by simp[e2a,show n<8 by omega]
  have:=c24 (d3i u 8) hx;have e:I9 (e01 u) n=u / 256 ^ n % 256:=by unfold e01;omega
  rw[e,Nat.pow_succ,Nat.mod_mul,Nat.mul_comm (256 ^ n)]
theorem d4h(u:Nat):(e01 u).size=8:=by rw[e01,b63];simp[e2a]
theorem g02(c:A3)(u:Nat)(hu:u<18446744073709551616)(t:ByteArray)(h:O9 c=e01 u++t):c61 c=((u:Int),a26 c 8,0):=by
 have hz:=d4h u
 have e1:leS (O9 c) 8=u:=by
  rw[h,d0k _ (e01 u) 8 (fun i hi=>a79 _ _ (by omega)),f0w u 8 (Nat.le_refl _)];exact Nat.mod_eq_of_lt (by simpa using hu)
 unfold c61;rw[if_pos (by rw[h,L7];omega),e1]
def atS(d:ByteArray):A3:=⟨d,0,d.size,0,0,9999⟩
theorem f91(d:ByteArray)(n:Nat)(h:n<=d.size):a1b d n d.size=d.size - n:=by
 have:b13 d n d.size=true:=by simp[b13];omega
 rw[a1b,if_pos this]
theorem g3z(d:ByteArray):d.extract 0 d.size=d:=by simp
theorem g0q(d:ByteArray):O9 (atS d)=d:=by
 unfold O9 atS;have:=f91 d 0 (by omega);simp only[Int.toNat_zero,Nat.zero_add];rw[show((0:Nat):Int)=0 from rfl]at this;rw[this,show((d.size:Int) - 0).toNat=d.size by omega];exact g3z d
theorem g7o:f19 9221120237041090560=0:=by decide
theorem d3o(v:A0)(h:a9h v.Kind v=true):1<=v.Kind/\v.Kind<=9/\((v.Kind=7\/v.Kind=8)->v.Bits=0/\v.Text.size<=4096/\(v.Kind=7->b27 v.Text=true))/\(¬(v.Kind=7\/v.Kind=8)->a2p v.Kind v.Bits=true):=by
 unfold a9h at h;simp only[Bool.and_eq_true,decide_eq_true_eq]at h;obtain⟨⟨h1,_⟩,h2⟩:=h;refine⟨h1.1,h1.2.1,fun h3=>?_,fun h3=>?_⟩
 ·rw[if_pos h3]at h2;simp only[Bool.and_eq_true,decide_eq_true_eq,Bool.or_eq_true,Bool.not_eq_true',decide_eq_false_iff_not]at h2;exact⟨h2.1.1,h2.1.2,fun h7=>by rcases h2.2 with h|h;exact absurd h7 h;exact h⟩
 ·rw[if_neg h3]at h2;simp only[Bool.and_eq_true]at h2;exact h2.2
theorem g92{n:Int}(h:0<=n/\n<18446744073709551616):wU (wI n)=n:=by simp only[wU,wI,IntKind.wrap,IntKind.signed,IntKind.bits];simp;omega
def Ex{α:Type}(Q p:α->Prop):Prop:=∃r,p r/\Q r
section
variable {α β:Type}{Q:α->Prop}
theorem D7{e:α}(h:Q e):Ex Q (fun r=>r=e):=⟨e,rfl,h⟩
theorem E9{c:Prop}[Decidable c]{p q:α->Prop}(h1:c->Ex Q p)(h2:¬c->Ex Q q):Ex Q (fun r=>(decide c=true->p r)/\(decide c=false->q r)):=by
 by_cases h:c
 ·obtain⟨r,a,b⟩:=h1 h;exact⟨r,⟨fun _=>a,fun h'=>absurd h (of_decide_eq_false h')⟩,b⟩
 ·obtain⟨r,a,b⟩:=h2 h;exact⟨r,⟨fun h'=>absurd (of_decide_eq_true h') h,fun _=>a⟩,b⟩
theorem O0{c:Prop}[Decidable c]{p q:α->Prop}(h1:¬c->Ex Q p)(h2:c->Ex Q q):Ex Q (fun r=>((!decide c)=true->p r)/\((!decide c)=false->q r)):=by
 by_cases h:c
 ·obtain⟨r,a,b⟩:=h2 h;exact⟨r,⟨fun h'=>by simp[h]at h',fun _=>a⟩,b⟩
 ·obtain⟨r,a,b⟩:=h1 h;exact⟨r,⟨fun _=>a,fun h'=>by simp[h]at h'⟩,b⟩
theorem B3(B:Bool){p q:α->Prop}(h1:B=true->Ex Q p)(h2:B=false->Ex Q q):Ex Q (fun r=>(B=true->p r)/\(B=false->q r)):=by
 cases hB:B with
 |true=>obtain⟨r,a,b⟩:=h1 hB;exact⟨r,⟨fun _=>a,fun h=>by cases h⟩,b⟩
 |false=>obtain⟨r,a,b⟩:=h2 hB;exact⟨r,⟨fun h=>(by cases h),fun _=>a⟩,b⟩
theorem E0{F:β->Prop}{G:β->α->Prop}{S:β->Prop}(h:Ex S F)(k:∀y,S y->Ex Q (G y)):Ex Q (fun r=>∃y,F y/\G y r):=by
 obtain⟨y,hy,hs⟩:=h;obtain⟨r,a,b⟩:=k y hs;exact⟨r,⟨y,hy,a⟩,b⟩
theorem c27{F:β->Prop}{G:β->α->Prop}{v:β}(h:F v)(k:Ex Q (G v)):Ex Q (fun r=>∃y,F y/\G y r):=by
 obtain⟨r,a,b⟩:=k;exact⟨r,⟨v,h,a⟩,b⟩
theorem E5{l:List β}{i:Int}{G:β->α->Prop}(h:0<=i/\i<l.length)(k:∀y,l[i.toNat]? =some y->y∈l->Ex Q (G y)):Ex Q (fun r=>∃y,l[i.toNat]? =some y/\0<=i/\G y r):=by
 have hlt:i.toNat<l.length:=by omega
 have he:=List.getElem?_eq_getElem hlt;obtain⟨r,a,b⟩:=k _ he (List.getElem_mem hlt);exact⟨r,⟨_,he,h.1,a⟩,b⟩
theorem a3d{l:List β}{i:Int}{G:β->α->Prop}(y:β)(hy:l[i.toNat]? =some y)(h:0<=i)(k:Ex Q (G y)):Ex Q (fun r=>∃y,l[i.toNat]? =some y/\0<=i/\G y r):=by
 obtain⟨r,a,b⟩:=k;exact⟨r,⟨y,hy,h,a⟩,b⟩
theorem D8{A:Prop}{G:α->Prop}(h:A)(k:Ex Q G):Ex Q (fun r=>A/\G r):=by
 obtain⟨r,a,b⟩:=k;exact⟨r,⟨h,a⟩,b⟩
theorem C7{G:β->α->Prop}{H:(β->Prop)->α->Prop}(k:Ex Q (fun r=>H (fun z=>G z r) r)):Ex Q (fun r=>∃R:β->Prop,(∀z,R z->G z r)/\H R r):=by
 obtain⟨r,a,b⟩:=k;exact⟨r,⟨fun z=>G z r,fun z h=>h,a⟩,b⟩
theorem B5{p F:α->Prop}(h:∀r,p r->F r)(k:Ex Q p):Ex Q F:=by
 obtain⟨r,a,b⟩:=k;exact⟨r,h r a,b⟩
theorem e8a{p:α->Prop}{S:α->Prop}(h:Ex S p)(k:∀r,S r->Q r):Ex Q p:=by
 obtain⟨r,a,b⟩:=h;exact⟨r,a,k r b⟩
theorem Ex.to{p:α->Prop}(h:Ex Q p):∃r,p r/\Q r:=h
end
theorem upn{T:Nat->Prop}(n:Nat)(b8i:∀i,i<n->T (i+1)->T i)(fin:∀i,n<=i->T i):∀i,T i:=by
 have:∀k i,n - i<=k->T i:=by
  intro k
  induction k with
  |zero=>exact fun i h=>fin i (by omega)
  |succ k ih=>
   intro i h;rcases Nat.lt_or_ge i n with h1|h1
   ·exact b8i i h1 (ih (i+1) (by omega))
   ·exact fin i h1
 exact fun i=>this (n - i) i (Nat.le_refl _)
theorem V2{i:Nat}(h:i<=4611686018427387904):wI ((i:Int)+1)=((i+1:Nat):Int):=by rw[wI,D3 (by omega)];omega
theorem c80{i:Nat}(h:0<i/\i<=4611686018427387904):wI ((i:Int) - 1)=((i - 1:Nat):Int):=by rw[wI,D3 (by omega)];omega
def yes{α:Type}:α->Prop:=fun _=>True
theorem d9p(b:Int):Ex yes (b6v b):=B5 (c7t _) (D7 trivial)
theorem c94(b:Int):Ex yes (b0z b):=B5 (c2t _) (D7 trivial)
theorem f4t(s:ByteArray)(hs:s.size<=140737488351232):∀i:Nat,Ex yes (a2s (i:Int) s):=by
 refine upn (s.size) (fun i hi ih=>?_) (fun i hi=>?_)
 ·refine B5 (b0w _ _) ?_;rw[V2 (by omega)]
  repeat' first|exact D7 trivial|exact ih|assumption|refine C7 ?_|refine E9 (fun h=>?_) (fun h=>?_)|refine O0 (fun h=>?_) (fun h=>?_)|refine B3 _ (fun h=>?_) (fun h=>?_)|refine E5 (by omega) (fun y hy hm=>?_)|refine D8 (by omega) ?_|refine E0 (d9p _) (fun y hq=>?_)|refine E0 (c94 _) (fun y hq=>?_)
 ·refine B5 (b0w _ _) ?_
  repeat' first|exact D7 trivial|exact ih|assumption|exact absurd ‹_› (by omega)|(exfalso;omega)|refine C7 ?_|refine E9 (fun h=>?_) (fun h=>?_)|refine O0 (fun h=>?_) (fun h=>?_)|refine B3 _ (fun h=>?_) (fun h=>?_)|refine E5 (by omega) (fun y hy hm=>?_)|refine D8 (by omega) ?_|refine E0 (d9p _) (fun y hq=>?_)|refine E0 (c94 _) (fun y hq=>?_)
theorem e6h(s:ByteArray)(hs:s.size<=140737488351232):Ex yes (a9u s):=by
 refine B5 (c47 _) ?_
 repeat' first|exact D7 trivial|exact ih|assumption|exact f4t s hs 1|refine C7 ?_|refine E9 (fun h=>?_) (fun h=>?_)|refine O0 (fun h=>?_) (fun h=>?_)|refine B3 _ (fun h=>?_) (fun h=>?_)|refine E5 (by first|omega|(simp only[Bool.or_eq_false_iff,Bool.or_eq_true,Bool.and_eq_true,Bool.and_eq_false_iff,beq_iff_eq,beq_eq_false_iff_ne,decide_eq_false_iff_not,decide_eq_true_eq,ne_eq]at*;omega)) (fun y hy hm=>?_)|refine D8 (by first|omega|(simp only[Bool.or_eq_false_iff,Bool.or_eq_true,Bool.and_eq_true,Bool.and_eq_false_iff,beq_iff_eq,beq_eq_false_iff_ne,decide_eq_false_iff_not,decide_eq_true_eq,ne_eq]at*;omega)) ?_|refine E0 (d9p _) (fun y hq=>?_)|refine E0 (c94 _) (fun y hq=>?_)
theorem f74(s:ByteArray):Ex yes (b3h s):=by
 refine B5 (c5i _) ?_
 repeat' first|exact D7 trivial|exact ih|assumption|refine C7 ?_|refine E9 (fun h=>?_) (fun h=>?_)|refine O0 (fun h=>?_) (fun h=>?_)|refine B3 _ (fun h=>?_) (fun h=>?_)|refine E5 (by omega) (fun y hy hm=>?_)|refine D8 (by omega) ?_
theorem f5t(s:ByteArray)(hs:s.size<=140737488351232):∀i:Nat,∀w:ByteArray,w.size<=i/\i<=140737488351232->Ex yes (a2y (i:Int) w s):=by
 refine upn s.size (fun i hi ih w hw=>?_) (fun i hi w hw=>?_)
 ·have hz:(s.extract ((i:Int)).toNat (((i+1:Nat):Int)).toNat).size<=1:=by rw[a18 _ (by omega)];omega
  refine B5 (b0g _ _ _) ?_;rw[V2 (by omega)]
  repeat' first|exact D7 trivial|exact ih|assumption|exact ih _ (by rw[L7];omega)|exact ih ⟨#[]⟩ ⟨Nat.zero_le _,by omega⟩|refine C7 ?_|refine E9 (fun h=>?_) (fun h=>?_)|refine O0 (fun h=>?_) (fun h=>?_)|refine B3 _ (fun h=>?_) (fun h=>?_)|refine E5 (by omega) (fun y hy hm=>?_)|refine D8 (by omega) ?_|refine E0 (e6h _ (by omega)) (fun y hq=>?_)
 ·refine B5 (b0g _ _ _) ?_
  repeat' first|exact D7 trivial|exact ih|assumption|exact absurd ‹_› (by omega)|refine C7 ?_|refine E9 (fun h=>?_) (fun h=>?_)|refine O0 (fun h=>?_) (fun h=>?_)|refine B3 _ (fun h=>?_) (fun h=>?_)|refine E5 (by omega) (fun y hy hm=>?_)|refine D8 (by omega) ?_|refine E0 (e6h _ (by omega)) (fun y hq=>?_)
theorem g6v(s:ByteArray)(hs:s.size<=140737488351232):Ex yes (b76 s):=by
 refine B5 (c5b _) ?_
 repeat' first|exact D7 trivial|exact ih|assumption|exact f5t s hs 0 ⟨#[]⟩ ⟨Nat.zero_le _,by omega⟩|refine C7 ?_|refine E9 (fun h=>?_) (fun h=>?_)|refine O0 (fun h=>?_) (fun h=>?_)|refine B3 _ (fun h=>?_) (fun h=>?_)|refine E5 (by omega) (fun y hy hm=>?_)|refine D8 (by omega) ?_
def e2t(s:ByteArray)(r:ByteArray × ByteArray):Prop:=r.1.size<=s.size - 1
theorem e91(s:ByteArray)(hs:s.size<=140737488351232):∀k:Nat,k<=s.size->Ex (e2t s) (a82 ((k:Int) - 1) s):=by
 intro k
 induction k with
 |zero=>exact fun _=>B5 (b12 _ _) (E9 (fun h=>absurd h (by omega)) fun _=>D7 (Nat.zero_le _))
 |succ k ih=>
  intro hk;have e:wI (((k+1:Nat):Int) - 1 - 1)=(k:Int) - 1:=by rw[wI,D3 (by omega)];omega
  refine B5 (b12 _ _) ?_;rw[e];refine E9 (fun h=>D8 (by omega) (B3 _ (fun _=>D8 (by omega) (D8 ?_ (D7 ?_))) fun _=>ih (by omega))) fun h=>absurd (show(0:Int)<=((k+1:Nat):Int) - 1 by omega) h
  ·rw[wI,D3 (by omega)];omega
  ·unfold e2t;simp only;rw[a18 _ (by omega)];omega
theorem f9w(s:ByteArray)(hs:s.size<=140737488351232):Ex (e2t s) (c13 s):=by
 refine B5 (c70 _) ?_;rw[wI,D3 (by omega)];exact e91 s hs s.size (Nat.le_refl _)
theorem g5y{s:ByteArray}(h:s.size=0):s=⟨#[]⟩:=ByteArray.ext (Array.eq_empty_of_size_eq_zero h)
theorem d88:∀n:Nat,∀s:ByteArray,s.size<=n->n<=140737488351232->Ex yes (a4v s):=by
 intro n
 induction n with
 |zero=>
  intro s h _;refine B5 (a9s _) (O0 (fun h0=>?_) fun _=>D7 trivial);exact absurd (g5y (by omega)) h0
 |succ n ih=>
  intro s h hn;refine B5 (a9s _) (O0 (fun h0=>?_) fun _=>D7 trivial);refine E0 (f9w s (by omega)) fun y hy=>E0 (f74 _) fun y2 _=>B3 _ (fun _=>D7 trivial) fun _=>?_
  unfold e2t at hy;exact ih _ (by omega) (by omega)
theorem c3f(s:ByteArray)(hs:s.size<=140737488351232):Ex yes (b07 s):=by
 refine B5 (c2l _) ?_
 repeat' first|exact D7 trivial|exact ih|assumption|exact d88 _ s (Nat.le_refl _) hs|refine C7 ?_|refine E9 (fun h=>?_) (fun h=>?_)|refine O0 (fun h=>?_) (fun h=>?_)|refine B3 _ (fun h=>?_) (fun h=>?_)|refine E5 (by omega) (fun y hy hm=>?_)|refine D8 (by omega) ?_|refine E0 (g6v s hs) (fun y hq=>?_)
theorem c77(s:ByteArray)(hs:s.size<=140737488351232):Ex yes (b2v s):=by
 refine B5 (c4i _) ?_
 repeat' first|exact D7 trivial|exact ih|assumption|refine C7 ?_|refine E9 (fun h=>?_) (fun h=>?_)|refine O0 (fun h=>?_) (fun h=>?_)|refine B3 _ (fun h=>?_) (fun h=>?_)|refine E5 (by omega) (fun y hy hm=>?_)|refine D8 (by omega) ?_|refine E0 (e6h s hs) (fun y hq=>?_)|refine E0 (f74 s) (fun y hq=>?_)
structure g71(o:GOp):Prop where
 num:I64 o.Num
 name:Sz o.Name.size
 alias_:Sz o.Alias.size
 card:I64 o.Card
 key:I64 o.Key
 kind:I64 o.Kind
 target:I64 o.Target
 union:I64 o.Union
structure b7w(g:B8):Prop where
 name:Sz g.Name.size
 n:Sz g.Ops.length
 ops:∀o∈g.Ops,g71 o
 unions:I64 g.Unions
structure c87(n:b2r):Prop where
 name:Sz n.Name.size
 val:OkD n.Val
structure e7h(x:b3z):Prop where
 name:Sz x.Name.size
 num:I64 x.Num
 nn:Sz x.Notes.length
 notes:∀n∈x.Notes,c87 n
structure e6l(x:b98):Prop where
 from_:I64 x.From
 to_:I64 x.To
structure c0m(e:V9):Prop where
 name:Sz e.Name.size
 ni:Sz e.Items.length
 items:∀x∈e.Items,e7h x
 nr:Sz e.Reserved.length
 reserved:∀x∈e.Reserved,e6l x
 nn:Sz e.Notes.length
 notes:∀x∈e.Notes,c87 x
structure b8v(p:A7):Prop where
 np:Sz p.Progs.length
 progs:∀g∈p.Progs,b7w g
 ne:Sz p.Enums.length
 enums:∀e∈p.Enums,c0m e
section
variable {n:Nat}{avs:List AV}{av:AV}
theorem g18(h:Ty Tryz.prog n 151 avs):∃x,avs=a7s x/\c87 x:=by
 obtain⟨m,rfl,a1,b1,rfl,h1,a2,b2,rfl,h2,rfl⟩:=d1a (ts:=[9,35]) (by kernel_rfl) h;obtain⟨x1,rfl,k1⟩:=c29 (by kernel_rfl) h1;obtain⟨x2,rfl,k2⟩:=e2q _ _ h2;exact⟨⟨x1,x2⟩,by rw[U3];rfl,⟨k1,k2⟩⟩
theorem e2o{t:TypeId}(hu:Tryz.prog.underlying t=some (.slice 151))(h:Ty Tryz.prog n t avs):∃l:List b2r,avs=[.sl (l.map a7s) .no]/\Sz l.length/\∀x∈l,c87 x:=e4r hu (of_decide_eq_true (by kernel_rfl)) (fun k a hk ha=>g18 ha) h
theorem f8f(h:Ty Tryz.prog n 115 avs):∃x,avs=a2i x/\e7h x:=by
 obtain⟨m,rfl,a1,b1,rfl,h1,a2,b2,rfl,h2,a3,b3,rfl,h3,rfl⟩:=d1a (ts:=[9,3,110]) (by kernel_rfl) h;obtain⟨x1,rfl,k1⟩:=c29 (by kernel_rfl) h1;obtain⟨x2,rfl,k2⟩:=b28 (by kernel_rfl) h2;obtain⟨x3,rfl,n3,k3⟩:=e2o (by kernel_rfl) h3;exact⟨⟨x1,x2,x3⟩,rfl,⟨k1,k2,n3,k3⟩⟩
theorem g1s(h:Ty Tryz.prog n 149 avs):∃x,avs=b1z x/\e6l x:=by
 obtain⟨m,rfl,a1,b1,rfl,h1,a2,b2,rfl,h2,rfl⟩:=d1a (ts:=[3,3]) (by kernel_rfl) h;obtain⟨x1,rfl,k1⟩:=b28 (by kernel_rfl) h1;obtain⟨x2,rfl,k2⟩:=b28 (by kernel_rfl) h2;exact⟨⟨x1,x2⟩,rfl,⟨k1,k2⟩⟩
theorem g0i(h:Ty Tryz.prog n 112 avs):∃x,avs=Q7 x/\c0m x:=by
 obtain⟨m,rfl,a1,b1,rfl,h1,a2,b2,rfl,h2,a3,b3,rfl,h3,a4,b4,rfl,h4,a5,b5,rfl,h5,rfl⟩:=d1a (ts:=[9,4,108,109,110]) (by kernel_rfl) h;obtain⟨x1,rfl,k1⟩:=c29 (by kernel_rfl) h1;obtain⟨x2,rfl⟩:=f9g (by kernel_rfl) h2;obtain⟨x3,rfl,n3,k3⟩:=e4r (e:=115) (enc:=a2i) (Ok:=e7h) (by kernel_rfl) (of_decide_eq_true (by kernel_rfl)) (fun k a hk ha=>f8f ha) h3;obtain⟨x4,rfl,n4,k4⟩:=e4r (e:=149) (enc:=b1z) (Ok:=e6l) (by kernel_rfl) (of_decide_eq_true (by kernel_rfl)) (fun k a hk ha=>g1s ha) h4;obtain⟨x5,rfl,n5,k5⟩:=e2o (by kernel_rfl) h5;exact⟨⟨x1,x2,x3,x4,x5⟩,rfl,⟨k1,n3,k3,n4,k4,n5,k5⟩⟩
theorem g9j(h:Ty Tryz.prog n 38 avs):∃x,avs=V3 x/\g71 x:=by
 obtain⟨m,rfl,a1,b1,rfl,h1,a2,b2,rfl,h2,a3,b3,rfl,h3,a4,b4,rfl,h4,a5,b5,rfl,h5,a6,b6,rfl,h6,a7,b7,rfl,h7,a8,b8,rfl,h8,rfl⟩:=d1a (ts:=[3,9,9,3,3,3,3,3]) (by kernel_rfl) h;obtain⟨x1,rfl,k1⟩:=b28 (by kernel_rfl) h1;obtain⟨x2,rfl,k2⟩:=c29 (by kernel_rfl) h2;obtain⟨x3,rfl,k3⟩:=c29 (by kernel_rfl) h3;obtain⟨x4,rfl,k4⟩:=b28 (by kernel_rfl) h4;obtain⟨x5,rfl,k5⟩:=b28 (by kernel_rfl) h5;obtain⟨x6,rfl,k6⟩:=b28 (by kernel_rfl) h6;obtain⟨x7,rfl,k7⟩:=b28 (by kernel_rfl) h7;obtain⟨x8,rfl,k8⟩:=b28 (by kernel_rfl) h8;exact⟨⟨x1,x2,x3,x4,x5,x6,x7,x8⟩,rfl,⟨k1,k2,k3,k4,k5,k6,k7,k8⟩⟩
theorem f8c(h:Ty Tryz.prog n 41 avs):∃x,avs=E4 x/\b7w x:=by
 obtain⟨m,rfl,a1,b1,rfl,h1,a2,b2,rfl,h2,a3,b3,rfl,h3,rfl⟩:=d1a (ts:=[9,39,3]) (by kernel_rfl) h;obtain⟨x1,rfl,k1⟩:=c29 (by kernel_rfl) h1;obtain⟨x2,rfl,n2,k2⟩:=e4r (e:=38) (enc:=V3) (Ok:=g71) (by kernel_rfl) (of_decide_eq_true (by kernel_rfl)) (fun k a hk ha=>g9j ha) h2;obtain⟨x3,rfl,k3⟩:=b28 (by kernel_rfl) h3;exact⟨⟨x1,x2,x3⟩,rfl,⟨k1,n2,k2,k3⟩⟩
theorem g1q(h:Ty Tryz.prog n 25 avs):∃x,avs=B6 x/\b8v x:=by
 obtain⟨m,rfl,a1,b1,rfl,h1,a2,b2,rfl,h2,rfl⟩:=d1a (ts:=[22,23]) (by kernel_rfl) h;obtain⟨x1,rfl,n1,k1⟩:=e4r (e:=41) (enc:=E4) (Ok:=b7w) (by kernel_rfl) (of_decide_eq_true (by kernel_rfl)) (fun k a hk ha=>f8c ha) h1;obtain⟨x2,rfl,n2,k2⟩:=e4r (e:=112) (enc:=Q7) (Ok:=c0m) (by kernel_rfl) (of_decide_eq_true (by kernel_rfl)) (fun k a hk ha=>g0i ha) h2;exact⟨⟨x1,x2⟩,rfl,⟨n1,k1,n2,k2⟩⟩
theorem h5t(h:TyV Tryz.prog n 25 av):∃x,av=.agg (B6 x)/\b8v x:=by
 obtain⟨avs,rfl,g⟩:=f6t (ts:=[22,23]) (by kernel_rfl) h;obtain⟨x,rfl,k⟩:=g1q g;exact⟨x,rfl,k⟩
end
structure OpF(p:A7)(o:GOp):Prop where
 card:1<=o.Card/\o.Card<=5
 kind:1<=o.Kind/\o.Kind<=10
 key:(o.Card≠5->o.Key=0)/\(o.Card=5->(1<=o.Key/\o.Key<=5)\/o.Key=7)
 msg:o.Kind=10->0<=o.Target/\o.Target<p.Progs.length/\o.Card≠3
 enum:o.Kind=9->0<=o.Target/\o.Target<p.Enums.length
 other:o.Kind≠9->o.Kind≠10->o.Target= -1
 union:o.Union= -1\/o.Card=2
theorem D6{n:Nat}(h:Sz n):n<=140737488351232:=h
theorem OkD.okv{v:A0}(h:OkD v):OkV v:=by
 cases h with
 |mk _ k b t l p s r=>exact⟨l,p,s,r,t,b.1,b.2⟩
theorem f54{α:Type}{l:List α}{i:Nat}(h:i<l.length):∃y,l[((i:Int)).toNat]? =some y/\y∈l:=⟨l[i],by simp[h],List.getElem_mem h⟩
def Asc(l:List GOp)(n:Nat):Prop:=∀m x y,m+1<n->l[m]? =some x->l[m+1]? =some y->x.Num<y.Num
theorem f3f{l:List GOp}{i:Nat}{x y:GOp}(h:Asc l i)(hx:l[i - 1]? =some x)(hy:l[i]? =some y)(hlt:x.Num<y.Num):Asc l (i+1):=by
 intro m x' y' hm h1 h2
 by_cases e:m+1=i
 ·have:m=i - 1:=by omega
  subst this;rw[hx]at h1;cases h1;rw[e,hy]at h2;cases h2;exact hlt
 ·exact h m x' y' (by omega) h1 h2
theorem b14{α:Type}{l:List α}{T:α->Prop}{k:Nat}{g:α}(h:∀j g,j<k->l[j]? =some g->T g)(hg:l[k]? =some g)(ht:T g):∀j g,j<k+1->l[j]? =some g->T g:=by
 intro j g' hj hj2
 by_cases e:j=k
 ·subst e;rw[hg]at hj2;cases hj2;exact ht
 ·exact h j g' (by omega) hj2
theorem b9x{α:Type}{l:List α}{T:α->Prop}{k:Nat}(h:∀j g,j<k->l[j]? =some g->T g)(hk:l.length<=k):∀g∈l,T g:=by
 intro g hg;obtain⟨j,hj⟩:=List.mem_iff_getElem?.1 hg;exact h j g (by have:=(List.getElem?_eq_some_iff.1 hj).1;omega) hj
section
variable (p:A7) (hp:b8v p)
 include hp
theorem f7k:∀i:Nat,∀b,Ex yes (a2w (i:Int) b p):=by
 have b1:=D6 hp.np;have b2:=D6 hp.ne;refine upn (p.Enums.length) (fun i hi ih b=>?_) (fun i hi b=>?_)
 ·refine B5 (b0o _ _ _) ?_
  try rw[V2 (by omega)]
  repeat' first|exact D7 trivial|exact ih|assumption|exact ih _|refine C7 ?_|refine E9 (fun h=>?_) (fun h=>?_)|refine O0 (fun h=>?_) (fun h=>?_)|refine B3 _ (fun h=>?_) (fun h=>?_)|refine E5 (by omega) (fun y hy hm=>?_)|refine D8 (by omega) ?_
 ·refine B5 (b0o _ _ _) ?_
  repeat' first|exact D7 trivial|exact ih|assumption|exact ih _|exact absurd ‹_› (by omega)|(exfalso;omega)|refine C7 ?_|refine E9 (fun h=>?_) (fun h=>?_)|refine O0 (fun h=>?_) (fun h=>?_)|refine B3 _ (fun h=>?_) (fun h=>?_)|refine E5 (by omega) (fun y hy hm=>?_)|refine D8 (by omega) ?_
theorem g6n:∀i:Nat,∀b,Ex yes (a24 (i:Int) b p):=by
 have b1:=D6 hp.np;have b2:=D6 hp.ne;refine upn (p.Progs.length) (fun i hi ih b=>?_) (fun i hi b=>?_)
 ·refine B5 (b0t _ _ _) ?_
  try rw[V2 (by omega)]
  repeat' first|exact D7 trivial|exact ih|assumption|exact ih _|exact f7k p hp 0 _|refine C7 ?_|refine E9 (fun h=>?_) (fun h=>?_)|refine O0 (fun h=>?_) (fun h=>?_)|refine B3 _ (fun h=>?_) (fun h=>?_)|refine E5 (by omega) (fun y hy hm=>?_)|refine D8 (by omega) ?_
 ·refine B5 (b0t _ _ _) ?_
  repeat' first|exact D7 trivial|exact ih|assumption|exact ih _|exact f7k p hp 0 _|exact absurd ‹_› (by omega)|(exfalso;omega)|refine C7 ?_|refine E9 (fun h=>?_) (fun h=>?_)|refine O0 (fun h=>?_) (fun h=>?_)|refine B3 _ (fun h=>?_) (fun h=>?_)|refine E5 (by omega) (fun y hy hm=>?_)|refine D8 (by omega) ?_
theorem f4q:Ex yes (b78 p):=by
 refine B5 (c4f _) ?_;exact g6n p hp 0 _
theorem f0o(k:Nat)(hk:k<p.Enums.length)(g:V9)(hg:p.Enums[((k:Int)).toNat]? =some g)(og:c0m g)(H:∀b,Ex yes (a2m ((k+1:Nat):Int) b p)):∀i:Nat,∀b,Ex yes (a2j (i:Int) b (k:Int) p):=by
 have b1:=D6 hp.np;have b2:=D6 hp.ne;have b3:=D6 og.ni;have b4:=D6 og.nr;refine upn (g.Items.length) (fun i hi ih b=>?_) (fun i hi b=>?_)
 ·refine B5 (b0k _ _ _ _) ?_
  try rw[V2 (by omega)]
  repeat' first|exact D7 trivial|exact ih|assumption|exact ih _|exact H _|refine a3d g hg (by omega) ?_|rw[V2 (by omega)]|refine C7 ?_|refine E9 (fun h=>?_) (fun h=>?_)|refine O0 (fun h=>?_) (fun h=>?_)|refine B3 _ (fun h=>?_) (fun h=>?_)|refine E5 (by omega) (fun y hy hm=>?_)|refine D8 (by omega) ?_|refine E0 (c77 _ (og.items _ (by assumption)).name) (fun y hq=>?_)
 ·refine B5 (b0k _ _ _ _) ?_
  repeat' first|exact D7 trivial|exact ih|assumption|exact ih _|exact H _|refine a3d g hg (by omega) ?_|rw[V2 (by omega)]|exact absurd ‹_› (by omega)|(exfalso;omega)|refine C7 ?_|refine E9 (fun h=>?_) (fun h=>?_)|refine O0 (fun h=>?_) (fun h=>?_)|refine B3 _ (fun h=>?_) (fun h=>?_)|refine E5 (by omega) (fun y hy hm=>?_)|refine D8 (by omega) ?_|refine E0 (c77 _ (og.items _ (by assumption)).name) (fun y hq=>?_)
theorem e5r:∀i:Nat,∀b,Ex yes (a2m (i:Int) b p):=by
 have b1:=D6 hp.np;have b2:=D6 hp.ne;refine upn (p.Enums.length) (fun i hi ih b=>?_) (fun i hi b=>?_)
 ·obtain⟨g,hg,gm⟩:=f54 hi;refine B5 (b0r _ _ _) ?_
  try rw[V2 (by omega)]
  repeat' first|exact D7 trivial|exact ih|assumption|exact ih _|exact f0o p hp i hi g hg (hp.enums g gm) ih 0 _|refine a3d g hg (by omega) ?_|refine C7 ?_|refine E9 (fun h=>?_) (fun h=>?_)|refine O0 (fun h=>?_) (fun h=>?_)|refine B3 _ (fun h=>?_) (fun h=>?_)|refine E5 (by omega) (fun y hy hm=>?_)|refine D8 (by omega) ?_|refine E0 (c3f _ (hp.enums g gm).name) (fun y hq=>?_)
 ·refine B5 (b0r _ _ _) ?_
  repeat' first|exact D7 trivial|exact ih|assumption|exact ih _|exact f0o p hp i hi g hg (hp.enums g gm) ih 0 _|refine a3d g hg (by omega) ?_|exact absurd ‹_› (by omega)|(exfalso;omega)|refine C7 ?_|refine E9 (fun h=>?_) (fun h=>?_)|refine O0 (fun h=>?_) (fun h=>?_)|refine B3 _ (fun h=>?_) (fun h=>?_)|refine E5 (by omega) (fun y hy hm=>?_)|refine D8 (by omega) ?_|refine E0 (c3f _ (hp.enums g gm).name) (fun y hq=>?_)
theorem e5w(k:Nat)(hk:k<p.Progs.length)(g:B8)(hg:p.Progs[((k:Int)).toNat]? =some g)(og:b7w g)(H:∀b,Ex yes (a2t ((k+1:Nat):Int) b p)):∀i:Nat,∀b,Ex yes (a22 (i:Int) b (k:Int) p):=by
 have b1:=D6 hp.np;have b2:=D6 hp.ne;have b3:=D6 og.n;refine upn (g.Ops.length) (fun i hi ih b=>?_) (fun i hi b=>?_)
 ·refine B5 (b0j _ _ _ _) ?_
  try rw[V2 (by omega)]
  repeat' first|exact D7 trivial|exact ih|assumption|exact ih _|exact H _|refine a3d g hg (by omega) ?_|rw[V2 (by omega)]|refine C7 ?_|refine E9 (fun h=>?_) (fun h=>?_)|refine O0 (fun h=>?_) (fun h=>?_)|refine B3 _ (fun h=>?_) (fun h=>?_)|refine E5 (by omega) (fun y hy hm=>?_)|refine D8 (by omega) ?_|refine E0 (c77 _ (og.ops _ (by assumption)).name) (fun y hq=>?_)
 ·refine B5 (b0j _ _ _ _) ?_
  repeat' first|exact D7 trivial|exact ih|assumption|exact ih _|exact H _|refine a3d g hg (by omega) ?_|rw[V2 (by omega)]|exact absurd ‹_› (by omega)|(exfalso;omega)|refine C7 ?_|refine E9 (fun h=>?_) (fun h=>?_)|refine O0 (fun h=>?_) (fun h=>?_)|refine B3 _ (fun h=>?_) (fun h=>?_)|refine E5 (by omega) (fun y hy hm=>?_)|refine D8 (by omega) ?_|refine E0 (c77 _ (og.ops _ (by assumption)).name) (fun y hq=>?_)
theorem g2l:∀i:Nat,∀b,Ex yes (a2t (i:Int) b p):=by
 have b1:=D6 hp.np;have b2:=D6 hp.ne;refine upn (p.Progs.length) (fun i hi ih b=>?_) (fun i hi b=>?_)
 ·obtain⟨g,hg,gm⟩:=f54 hi;refine B5 (b0l _ _ _) ?_
  try rw[V2 (by omega)]
  repeat' first|exact D7 trivial|exact ih|assumption|exact ih _|exact e5w p hp i hi g hg (hp.progs g gm) ih 0 _|exact e5r p hp 0 _|refine a3d g hg (by omega) ?_|refine C7 ?_|refine E9 (fun h=>?_) (fun h=>?_)|refine O0 (fun h=>?_) (fun h=>?_)|refine B3 _ (fun h=>?_) (fun h=>?_)|refine E5 (by omega) (fun y hy hm=>?_)|refine D8 (by omega) ?_|refine E0 (c3f _ (hp.progs g gm).name) (fun y hq=>?_)
 ·refine B5 (b0l _ _ _) ?_
  repeat' first|exact D7 trivial|exact ih|assumption|exact ih _|exact e5w p hp i hi g hg (hp.progs g gm) ih 0 _|exact e5r p hp 0 _|refine a3d g hg (by omega) ?_|exact absurd ‹_› (by omega)|(exfalso;omega)|refine C7 ?_|refine E9 (fun h=>?_) (fun h=>?_)|refine O0 (fun h=>?_) (fun h=>?_)|refine B3 _ (fun h=>?_) (fun h=>?_)|refine E5 (by omega) (fun y hy hm=>?_)|refine D8 (by omega) ?_|refine E0 (c3f _ (hp.progs g gm).name) (fun y hq=>?_)
theorem g1t:Ex yes (c1a p):=by
 refine B5 (c71 _) ?_;exact g2l p hp 0 _
theorem e7v(A:Prop)(k:Nat)(hk:k<p.Enums.length)(g:V9)(hg:p.Enums[((k:Int)).toNat]? =some g)(og:c0m g)(H:∀b,(b=true->A)->Ex (fun r=>r=true->A) (a0q ((k+1:Nat):Int) b p)):∀i:Nat,1<=i->∀b,(b=true->A)->Ex (fun r=>r=true->A) (a0u (i:Int) b (k:Int) p):=by
 have b1:=D6 hp.np;have b2:=D6 hp.ne;have b3:=D6 og.ni;have b4:=D6 og.nr;refine upn (g.Items.length) (fun i hi ih h1 b hA=>?_) (fun i hi h1 b hA=>?_)
 ·refine B5 (a7u _ _ _ _) ?_
  try rw[V2 (by omega)]
  repeat' first|exact D7 (fun h=>by first|exact hA ‹_›|exact hA h|cases h)|exact ih|assumption|exact ih (by omega) _ (fun h=>by first|exact hA ‹_›|cases h)|exact H _ hA|refine a3d g hg (by omega) ?_|rw[V2 (by omega)]|rw[c80 (by omega)]|refine C7 ?_|refine E9 (fun h=>?_) (fun h=>?_)|refine O0 (fun h=>?_) (fun h=>?_)|refine B3 _ (fun h=>?_) (fun h=>?_)|refine E5 (by omega) (fun y hy hm=>?_)|refine D8 (by omega) ?_
 ·refine B5 (a7u _ _ _ _) ?_
  repeat' first|exact D7 (fun h=>by first|exact hA ‹_›|exact hA h|cases h)|exact ih|assumption|exact ih (by omega) _ (fun h=>by first|exact hA ‹_›|cases h)|exact H _ hA|refine a3d g hg (by omega) ?_|rw[V2 (by omega)]|rw[c80 (by omega)]|exact absurd ‹_› (by omega)|(exfalso;omega)|refine C7 ?_|refine E9 (fun h=>?_) (fun h=>?_)|refine O0 (fun h=>?_) (fun h=>?_)|refine B3 _ (fun h=>?_) (fun h=>?_)|refine E5 (by omega) (fun y hy hm=>?_)|refine D8 (by omega) ?_
theorem f99(A:Prop):∀i:Nat,∀b,(b=true->A)->Ex (fun r=>r=true->A) (a0q (i:Int) b p):=by
 have b1:=D6 hp.np;have b2:=D6 hp.ne;refine upn (p.Enums.length) (fun i hi ih b hA=>?_) (fun i hi b hA=>?_)
 ·obtain⟨g,hg,gm⟩:=f54 hi;refine B5 (a7r _ _ _) ?_
  try rw[V2 (by omega)]
  repeat' first|exact D7 (fun h=>by first|exact hA ‹_›|exact hA h|cases h)|exact ih|assumption|exact e7v p hp A i hi g hg (hp.enums g gm) ih 1 (Nat.le_refl _) _ (fun h=>by first|exact hA ‹_›|cases h)|rw[c80 (by omega)]|refine C7 ?_|refine E9 (fun h=>?_) (fun h=>?_)|refine O0 (fun h=>?_) (fun h=>?_)|refine B3 _ (fun h=>?_) (fun h=>?_)|refine E5 (by omega) (fun y hy hm=>?_)|refine D8 (by omega) ?_
 ·refine B5 (a7r _ _ _) ?_
  repeat' first|exact D7 (fun h=>by first|exact hA ‹_›|exact hA h|cases h)|exact ih|assumption|exact e7v p hp A i hi g hg (hp.enums g gm) ih 1 (Nat.le_refl _) _ (fun h=>by first|exact hA ‹_›|cases h)|rw[c80 (by omega)]|exact absurd ‹_› (by omega)|(exfalso;omega)|refine C7 ?_|refine E9 (fun h=>?_) (fun h=>?_)|refine O0 (fun h=>?_) (fun h=>?_)|refine B3 _ (fun h=>?_) (fun h=>?_)|refine E5 (by omega) (fun y hy hm=>?_)|refine D8 (by omega) ?_
theorem f8g(k:Nat)(hk:k<p.Progs.length)(g:B8)(hg:p.Progs[((k:Int)).toNat]? =some g)(og:b7w g)(H:∀b,(b=true->∀j g,j<k+1->p.Progs[j]? =some g->Asc g.Ops g.Ops.length)->Ex (fun r=>r=true->∀g∈p.Progs,Asc g.Ops g.Ops.length) (a0x ((k+1:Nat):Int) b p)):
  ∀i:Nat,1<=i->(i=1\/i<=g.Ops.length)->∀b,(b=true->(∀j g,j<k->p.Progs[j]? =some g->Asc g.Ops g.Ops.length)/\Asc g.Ops i)->Ex (fun r=>r=true->∀g∈p.Progs,Asc g.Ops g.Ops.length) (X2 (i:Int) b (k:Int) p):=by
 have b1:=D6 hp.np;have b2:=D6 hp.ne;have b3:=D6 og.n;have e3:((k:Int)).toNat=k:=by omega
 refine upn g.Ops.length (fun i hi ih h1 hi2 b hA=>?_) (fun i hi h1 hi2 b hA=>?_)
 ·refine B5 (a7o _ _ _ _) (a3d g hg (by omega) (E9 (fun _=>B3 _ (fun hb=>?_) (fun hb=>?_)) fun h=>absurd (show(i:Int)<g.Ops.length by omega) h))
  ·rw[c80 (by omega),V2 (by omega)];refine a3d g hg (by omega) (E5 (by omega) fun x hx hm=>a3d g hg (by omega) (E5 (by omega) fun y hy hm2=>ih (by omega) (by omega) _ fun h=>⟨(hA hb).1,?_⟩));have e1:(((i - 1:Nat):Int)).toNat=i - 1:=by omega
   have e2:((i:Int)).toNat=i:=by omega
   rw[e1]at hx;rw[e2]at hy;exact f3f (hA hb).2 hx hy (of_decide_eq_true h)
  ·rw[V2 (by omega)];exact ih (by omega) (by omega) _ fun h=>by cases h
 ·refine B5 (a7o _ _ _ _) (a3d g hg (by omega) (E9 (fun h=>absurd h (by omega)) fun _=>?_));rw[V2 (by omega)];refine H _ fun h=>b14 (hA h).1 (by rw[<-e3];exact hg) ?_
  rcases hi2 with e|e
  ·intro m x y hm;omega
  ·have:i=g.Ops.length:=by omega
   rw[<-this];exact(hA h).2
theorem g0o:∀i:Nat,i<=p.Progs.length->∀b,(b=true->∀j g,j<i->p.Progs[j]? =some g->Asc g.Ops g.Ops.length)->Ex (fun r=>r=true->∀g∈p.Progs,Asc g.Ops g.Ops.length) (a0x (i:Int) b p):=by
 have b1:=D6 hp.np;have b2:=D6 hp.ne;have b1:=D6 hp.np;have b2:=D6 hp.ne;refine upn p.Progs.length (fun i hi ih hle b hA=>?_) (fun i hi hle b hA=>?_)
 ·obtain⟨g,hg,gm⟩:=f54 hi;have fin:∀b',(b'=true->b=true)->Ex (fun r=>r=true->∀g∈p.Progs,Asc g.Ops g.Ops.length) (X2 1 b' (i:Int) p):=fun b' hb'=>f8g p hp i hi g hg (hp.progs g gm) (fun b h=>ih (by omega) b h) 1 (Nat.le_refl _) (.inl rfl) b' fun h=>⟨hA (hb' h),fun m x y hm=>by omega⟩
  refine B5 (a7x _ _ _) (E9 (fun _=>C7 (B3 _ (fun hb=>C7 ?_) fun hb=>fin _ (fun h=>by cases h))) fun h=>absurd (show(i:Int)<p.Progs.length by omega) h);refine B3 _ (fun h=>fin _ fun _=>hb) fun h=>?_
  have:0<i:=by simp at h;omega
  rw[c80 (by omega)];exact E5 (by omega) fun _ _ _=>E5 (by omega) fun _ _ _=>fin _ fun _=>hb
 ·refine B5 (a7x _ _ _) (E9 (fun h=>absurd h (by omega)) fun _=>f99 p hp _ 0 b fun h=>b9x (hA h) hi)
theorem e8t:Ex (fun r=>r=true->∀g∈p.Progs,Asc g.Ops g.Ops.length) (b6x p):=
 B5 (c2j _) (g0o p hp 0 (Nat.zero_le _) true fun _ j g h=>by omega)
end
section
variable (p:A7) (hp:b8v p)
 include hp
theorem e9t(k:Nat)(g:V9)(og:c0m g)(m:Nat)(hm:m<g.Items.length)(H:∀b,Ex yes (a1x ((m+1:Nat):Int) g (k:Int) b p)):∀i:Nat,∀b,Ex yes (a1t (i:Int) (m:Int) g (k:Int) b p):=by
 have b1:=D6 hp.np;have b2:=D6 hp.ne;have b3:=D6 og.ni;have b4:=D6 og.nr;refine upn (m) (fun i hi ih b=>?_) (fun i hi b=>?_)
 ·refine B5 (a9d _ _ _ _ _ _) ?_
  try rw[V2 (by omega)]
  repeat' first|exact D7 trivial|exact ih|assumption|exact ih _|rw[V2 (by omega)]|exact H _|refine C7 ?_|refine E9 (fun h=>?_) (fun h=>?_)|refine O0 (fun h=>?_) (fun h=>?_)|refine B3 _ (fun h=>?_) (fun h=>?_)|refine E5 (by omega) (fun y hy hm=>?_)|refine D8 (by omega) ?_
 ·refine B5 (a9d _ _ _ _ _ _) ?_
  repeat' first|exact D7 trivial|exact ih|assumption|exact ih _|rw[V2 (by omega)]|exact H _|exact absurd ‹_› (by omega)|(exfalso;omega)|refine C7 ?_|refine E9 (fun h=>?_) (fun h=>?_)|refine O0 (fun h=>?_) (fun h=>?_)|refine B3 _ (fun h=>?_) (fun h=>?_)|refine E5 (by omega) (fun y hy hm=>?_)|refine D8 (by omega) ?_
theorem f1w(k:Nat)(g:V9)(og:c0m g)(H:∀b,Ex yes (a1w ((k+1:Nat):Int) b p))(hk:k<p.Enums.length):∀i:Nat,∀b,Ex yes (a1x (i:Int) g (k:Int) b p):=by
 have b1:=D6 hp.np;have b2:=D6 hp.ne;have b3:=D6 og.ni;have b4:=D6 og.nr;refine upn (g.Items.length) (fun i hi ih b=>?_) (fun i hi b=>?_)
 ·refine B5 (a94 _ _ _ _ _) ?_
  try rw[V2 (by omega)]
  repeat' first|exact D7 trivial|exact ih|assumption|exact ih _|exact e9t p hp k g og i hi ih 0 _|rw[V2 (by omega)]|exact H _|refine C7 ?_|refine E9 (fun h=>?_) (fun h=>?_)|refine O0 (fun h=>?_) (fun h=>?_)|refine B3 _ (fun h=>?_) (fun h=>?_)|refine E5 (by omega) (fun y hy hm=>?_)|refine D8 (by omega) ?_
 ·refine B5 (a94 _ _ _ _ _) ?_
  repeat' first|exact D7 trivial|exact ih|assumption|exact ih _|exact e9t p hp k g og i hi ih 0 _|rw[V2 (by omega)]|exact H _|exact absurd ‹_› (by omega)|(exfalso;omega)|refine C7 ?_|refine E9 (fun h=>?_) (fun h=>?_)|refine O0 (fun h=>?_) (fun h=>?_)|refine B3 _ (fun h=>?_) (fun h=>?_)|refine E5 (by omega) (fun y hy hm=>?_)|refine D8 (by omega) ?_
theorem e5v:∀i:Nat,∀b,Ex yes (a1w (i:Int) b p):=by
 have b1:=D6 hp.np;have b2:=D6 hp.ne;refine upn (p.Enums.length) (fun i hi ih b=>?_) (fun i hi b=>?_)
 ·refine B5 (a9a _ _ _) ?_
  try rw[V2 (by omega)]
  repeat' first|exact D7 trivial|exact ih|assumption|exact ih _|exact f1w p hp i _ (hp.enums _ ‹_›) ih hi 0 _|refine C7 ?_|refine E9 (fun h=>?_) (fun h=>?_)|refine O0 (fun h=>?_) (fun h=>?_)|refine B3 _ (fun h=>?_) (fun h=>?_)|refine E5 (by omega) (fun y hy hm=>?_)|refine D8 (by omega) ?_
 ·refine B5 (a9a _ _ _) ?_
  repeat' first|exact D7 trivial|exact ih|assumption|exact ih _|exact f1w p hp i _ (hp.enums _ ‹_›) ih hi 0 _|exact absurd ‹_› (by omega)|(exfalso;omega)|refine C7 ?_|refine E9 (fun h=>?_) (fun h=>?_)|refine O0 (fun h=>?_) (fun h=>?_)|refine B3 _ (fun h=>?_) (fun h=>?_)|refine E5 (by omega) (fun y hy hm=>?_)|refine D8 (by omega) ?_
theorem e8k(k:Nat)(g:B8)(og:b7w g)(m:Nat)(hm:m<g.Ops.length)(H:∀b,Ex yes (a1f ((m+1:Nat):Int) g (k:Int) b p)):∀i:Nat,∀b,Ex yes (a1g (i:Int) (m:Int) g (k:Int) b p):=by
 have b1:=D6 hp.np;have b2:=D6 hp.ne;have b3:=D6 og.n;refine upn (m) (fun i hi ih b=>?_) (fun i hi b=>?_)
 ·refine B5 (a9l _ _ _ _ _ _) ?_
  try rw[V2 (by omega)]
  repeat' first|exact D7 trivial|exact ih|assumption|exact ih _|rw[V2 (by omega)]|exact H _|refine C7 ?_|refine E9 (fun h=>?_) (fun h=>?_)|refine O0 (fun h=>?_) (fun h=>?_)|refine B3 _ (fun h=>?_) (fun h=>?_)|refine E5 (by omega) (fun y hy hm=>?_)|refine D8 (by omega) ?_
 ·refine B5 (a9l _ _ _ _ _ _) ?_
  repeat' first|exact D7 trivial|exact ih|assumption|exact ih _|rw[V2 (by omega)]|exact H _|exact absurd ‹_› (by omega)|(exfalso;omega)|refine C7 ?_|refine E9 (fun h=>?_) (fun h=>?_)|refine O0 (fun h=>?_) (fun h=>?_)|refine B3 _ (fun h=>?_) (fun h=>?_)|refine E5 (by omega) (fun y hy hm=>?_)|refine D8 (by omega) ?_
theorem e9a(k:Nat)(g:B8)(og:b7w g)(H:∀b,Ex yes (Y6 ((k+1:Nat):Int) b p))(hk:k<p.Progs.length):∀i:Nat,∀b,Ex yes (a1f (i:Int) g (k:Int) b p):=by
 have b1:=D6 hp.np;have b2:=D6 hp.ne;have b3:=D6 og.n;refine upn (g.Ops.length) (fun i hi ih b=>?_) (fun i hi b=>?_)
 ·refine B5 (a92 _ _ _ _ _) ?_
  try rw[V2 (by omega)]
  repeat' first|exact D7 trivial|exact ih|assumption|exact ih _|exact e8k p hp k g og i hi ih 0 _|rw[V2 (by omega)]|exact H _|refine C7 ?_|refine E9 (fun h=>?_) (fun h=>?_)|refine O0 (fun h=>?_) (fun h=>?_)|refine B3 _ (fun h=>?_) (fun h=>?_)|refine E5 (by omega) (fun y hy hm=>?_)|refine D8 (by omega) ?_
 ·refine B5 (a92 _ _ _ _ _) ?_
  repeat' first|exact D7 trivial|exact ih|assumption|exact ih _|exact e8k p hp k g og i hi ih 0 _|rw[V2 (by omega)]|exact H _|exact absurd ‹_› (by omega)|(exfalso;omega)|refine C7 ?_|refine E9 (fun h=>?_) (fun h=>?_)|refine O0 (fun h=>?_) (fun h=>?_)|refine B3 _ (fun h=>?_) (fun h=>?_)|refine E5 (by omega) (fun y hy hm=>?_)|refine D8 (by omega) ?_
theorem f12(k:Nat)(hk:k<p.Progs.length)(H:∀b,Ex yes (Y6 ((k+1:Nat):Int) b p)):∀i:Nat,∀b,Ex yes (a1s (i:Int) (k:Int) b p):=by
 have b1:=D6 hp.np;have b2:=D6 hp.ne;refine upn (p.Enums.length) (fun i hi ih b=>?_) (fun i hi b=>?_)
 ·refine B5 (a9m _ _ _ _) ?_
  try rw[V2 (by omega)]
  repeat' first|exact D7 trivial|exact ih|assumption|exact ih _|exact e9a p hp k _ (hp.progs _ ‹_›) H hk 0 _|refine C7 ?_|refine E9 (fun h=>?_) (fun h=>?_)|refine O0 (fun h=>?_) (fun h=>?_)|refine B3 _ (fun h=>?_) (fun h=>?_)|refine E5 (by omega) (fun y hy hm=>?_)|refine D8 (by omega) ?_
 ·refine B5 (a9m _ _ _ _) ?_
  repeat' first|exact D7 trivial|exact ih|assumption|exact ih _|exact e9a p hp k _ (hp.progs _ ‹_›) H hk 0 _|exact absurd ‹_› (by omega)|(exfalso;omega)|refine C7 ?_|refine E9 (fun h=>?_) (fun h=>?_)|refine O0 (fun h=>?_) (fun h=>?_)|refine B3 _ (fun h=>?_) (fun h=>?_)|refine E5 (by omega) (fun y hy hm=>?_)|refine D8 (by omega) ?_
theorem g2a:∀i:Nat,∀b,Ex yes (Y6 (i:Int) b p):=by
 have b1:=D6 hp.np;have b2:=D6 hp.ne;refine upn (p.Progs.length) (fun i hi ih b=>?_) (fun i hi b=>?_)
 ·refine B5 (a9k _ _ _) ?_
  try rw[V2 (by omega)]
  repeat' first|exact D7 trivial|exact ih|assumption|exact ih _|exact f12 p hp i hi ih 0 _|exact e5v p hp 0 _|refine C7 ?_|refine E9 (fun h=>?_) (fun h=>?_)|refine O0 (fun h=>?_) (fun h=>?_)|refine B3 _ (fun h=>?_) (fun h=>?_)|refine E5 (by omega) (fun y hy hm=>?_)|refine D8 (by omega) ?_
 ·refine B5 (a9k _ _ _) ?_
  repeat' first|exact D7 trivial|exact ih|assumption|exact ih _|exact f12 p hp i hi ih 0 _|exact e5v p hp 0 _|exact absurd ‹_› (by omega)|(exfalso;omega)|refine C7 ?_|refine E9 (fun h=>?_) (fun h=>?_)|refine O0 (fun h=>?_) (fun h=>?_)|refine B3 _ (fun h=>?_) (fun h=>?_)|refine E5 (by omega) (fun y hy hm=>?_)|refine D8 (by omega) ?_
theorem f2i:Ex yes (b72 p):=B5 (c46 _) (g2a p hp 0 _)
theorem g0x(l:List b98)(hl:Sz l.length)(n:Int):∀i:Nat,Ex yes (a0v (i:Int) l n):=by
 have b1:=D6 hp.np;have b2:=D6 hp.ne;have b1:=D6 hl;refine upn (l.length) (fun i hi ih=>?_) (fun i hi=>?_)
 ·refine B5 (a7p _ _ _) ?_;rw[V2 (by omega)]
  repeat' first|exact D7 trivial|exact ih|assumption|refine C7 ?_|refine E9 (fun h=>?_) (fun h=>?_)|refine O0 (fun h=>?_) (fun h=>?_)|refine B3 _ (fun h=>?_) (fun h=>?_)|refine E5 (by omega) (fun y hy hm=>?_)|refine D8 (by omega) ?_
 ·refine B5 (a7p _ _ _) ?_
  repeat' first|exact D7 trivial|exact ih|assumption|exact absurd ‹_› (by omega)|(exfalso;omega)|refine C7 ?_|refine E9 (fun h=>?_) (fun h=>?_)|refine O0 (fun h=>?_) (fun h=>?_)|refine B3 _ (fun h=>?_) (fun h=>?_)|refine E5 (by omega) (fun y hy hm=>?_)|refine D8 (by omega) ?_
theorem g5u(l:List b98)(hl:Sz l.length)(n:Int):Ex yes (b3t l n):=B5 (c16 _ _) (g0x p hp l hl n 0)
theorem e8f(A:Prop)(k:Nat)(hk:k<p.Enums.length)(g:V9)(og:c0m g)(H:∀b,(b=true->A)->Ex (fun r=>r=true->A) (Z2 ((k+1:Nat):Int) b p)):∀i:Nat,∀b,(b=true->A)->Ex (fun r=>r=true->A) (Y9 (i:Int) (k:Int) b p g):=by
 have b1:=D6 hp.np;have b2:=D6 hp.ne;have b3:=D6 og.ni;have b4:=D6 og.nr;refine upn (g.Reserved.length) (fun i hi ih b hA=>?_) (fun i hi b hA=>?_)
 ·refine B5 (a9t _ _ _ _ _) ?_
  try rw[V2 (by omega)]
  repeat' first|exact D7 (fun h=>by first|exact hA ‹_›|exact hA h|cases h)|exact ih|assumption|exact ih _ (fun h=>hA (by simp only[Bool.and_eq_true]at*;simp[*]))|exact ih _ (fun h=>by cases h)|rw[V2 (by omega)]|exact H _ hA|rw[c80 (by omega)]|refine C7 ?_|refine E9 (fun h=>?_) (fun h=>?_)|refine O0 (fun h=>?_) (fun h=>?_)|refine B3 _ (fun h=>?_) (fun h=>?_)|refine E5 (by omega) (fun y hy hm=>?_)|refine D8 (by omega) ?_
 ·refine B5 (a9t _ _ _ _ _) ?_
  repeat' first|exact D7 (fun h=>by first|exact hA ‹_›|exact hA h|cases h)|exact ih|assumption|exact ih _ (fun h=>hA (by simp only[Bool.and_eq_true]at*;simp[*]))|exact ih _ (fun h=>by cases h)|rw[V2 (by omega)]|exact H _ hA|rw[c80 (by omega)]|exact absurd ‹_› (by omega)|(exfalso;omega)|refine C7 ?_|refine E9 (fun h=>?_) (fun h=>?_)|refine O0 (fun h=>?_) (fun h=>?_)|refine B3 _ (fun h=>?_) (fun h=>?_)|refine E5 (by omega) (fun y hy hm=>?_)|refine D8 (by omega) ?_
theorem e9o(A:Prop)(k:Nat)(hk:k<p.Enums.length)(g:V9)(og:c0m g)(H:∀b,(b=true->A)->Ex (fun r=>r=true->A) (Z2 ((k+1:Nat):Int) b p)):∀i:Nat,∀b,(b=true->A)->Ex (fun r=>r=true->A) (a1m (i:Int) (k:Int) b p g):=by
 have b1:=D6 hp.np;have b2:=D6 hp.ne;have b3:=D6 og.ni;have b4:=D6 og.nr;refine upn (g.Items.length) (fun i hi ih b hA=>?_) (fun i hi b hA=>?_)
 ·refine B5 (a9b _ _ _ _ _) ?_
  try rw[V2 (by omega)]
  repeat' first|exact D7 (fun h=>by first|exact hA ‹_›|exact hA h|cases h)|exact ih|assumption|exact ih _ (fun h=>hA (by simp only[Bool.and_eq_true]at*;simp[*]))|exact ih _ (fun h=>by cases h)|exact e8f p hp A k hk g og H 0 _ hA|refine C7 ?_|refine E9 (fun h=>?_) (fun h=>?_)|refine O0 (fun h=>?_) (fun h=>?_)|refine B3 _ (fun h=>?_) (fun h=>?_)|refine E5 (by omega) (fun y hy hm=>?_)|refine D8 (by omega) ?_|refine E0 (g5u p hp _ og.nr _) (fun y hq=>?_)
 ·refine B5 (a9b _ _ _ _ _) ?_
  repeat' first|exact D7 (fun h=>by first|exact hA ‹_›|exact hA h|cases h)|exact ih|assumption|exact ih _ (fun h=>hA (by simp only[Bool.and_eq_true]at*;simp[*]))|exact ih _ (fun h=>by cases h)|exact e8f p hp A k hk g og H 0 _ hA|exact absurd ‹_› (by omega)|(exfalso;omega)|refine C7 ?_|refine E9 (fun h=>?_) (fun h=>?_)|refine O0 (fun h=>?_) (fun h=>?_)|refine B3 _ (fun h=>?_) (fun h=>?_)|refine E5 (by omega) (fun y hy hm=>?_)|refine D8 (by omega) ?_|refine E0 (g5u p hp _ og.nr _) (fun y hq=>?_)
theorem g2m(A:Prop):∀i:Nat,∀b,(b=true->A)->Ex (fun r=>r=true->A) (Z2 (i:Int) b p):=by
 have b1:=D6 hp.np;have b2:=D6 hp.ne;refine upn (p.Enums.length) (fun i hi ih b hA=>?_) (fun i hi b hA=>?_)
 ·refine B5 (a9f _ _ _) ?_
  try rw[V2 (by omega)]
  repeat' first|exact D7 (fun h=>by first|exact hA ‹_›|exact hA h|cases h)|exact ih|assumption|exact e9o p hp A i hi _ (hp.enums _ ‹_›) ih 0 _ hA|refine C7 ?_|refine E9 (fun h=>?_) (fun h=>?_)|refine O0 (fun h=>?_) (fun h=>?_)|refine B3 _ (fun h=>?_) (fun h=>?_)|refine E5 (by omega) (fun y hy hm=>?_)|refine D8 (by omega) ?_
 ·refine B5 (a9f _ _ _) ?_
  repeat' first|exact D7 (fun h=>by first|exact hA ‹_›|exact hA h|cases h)|exact ih|assumption|exact e9o p hp A i hi _ (hp.enums _ ‹_›) ih 0 _ hA|exact absurd ‹_› (by omega)|(exfalso;omega)|refine C7 ?_|refine E9 (fun h=>?_) (fun h=>?_)|refine O0 (fun h=>?_) (fun h=>?_)|refine B3 _ (fun h=>?_) (fun h=>?_)|refine E5 (by omega) (fun y hy hm=>?_)|refine D8 (by omega) ?_
def f3n(o:GOp):Prop:=1<=o.Num/\o.Num<=65535
theorem g2k(k:Nat)(hk:k<p.Progs.length)(g:B8)(hg:p.Progs[((k:Int)).toNat]? =some g)(og:b7w g)(H:∀b,(b=true->∀j g,j<k+1->p.Progs[j]? =some g->∀o∈g.Ops,f3n o)->Ex (fun r=>r=true->∀g∈p.Progs,∀o∈g.Ops,f3n o) (a1j ((k+1:Nat):Int) b p)):
  ∀i:Nat,∀b,(b=true->(∀j g,j<k->p.Progs[j]? =some g->∀o∈g.Ops,f3n o)/\∀j o,j<i->g.Ops[j]? =some o->f3n o)->Ex (fun r=>r=true->∀g∈p.Progs,∀o∈g.Ops,f3n o) (a4x (i:Int) (k:Int) b p):=by
 have b1:=D6 hp.np;have b2:=D6 hp.ne;have b3:=D6 og.n;have e3:((k:Int)).toNat=k:=by omega
 refine upn g.Ops.length (fun i hi ih b hA=>?_) (fun i hi b hA=>?_)
 ·refine B5 (a9v _ _ _ _) (a3d g hg (by omega) (E9 (fun _=>a3d g hg (by omega) (E5 (by omega) fun y hy hm=>?_)) fun h=>absurd (show(i:Int)<g.Ops.length by omega) h));rw[V2 (by omega)];refine ih _ fun h=>?_
  simp only[Bool.and_eq_true,decide_eq_true_eq]at h;have e2:((i:Int)).toNat=i:=by omega
  rw[e2]at hy;exact⟨(hA h.1.1).1,b14 (hA h.1.1).2 hy ⟨h.1.2,h.2⟩⟩
 ·refine B5 (a9v _ _ _ _) (a3d g hg (by omega) (E9 (fun h=>absurd h (by omega)) fun _=>?_));rw[V2 (by omega)];exact H _ fun h=>b14 (hA h).1 (by rw[<-e3];exact hg) (b9x (hA h).2 hi)
theorem f9t:∀i:Nat,∀b,(b=true->∀j g,j<i->p.Progs[j]? =some g->∀o∈g.Ops,f3n o)->Ex (fun r=>r=true->∀g∈p.Progs,∀o∈g.Ops,f3n o) (a1j (i:Int) b p):=by
 have b1:=D6 hp.np;have b2:=D6 hp.ne;have b1:=D6 hp.np;have b2:=D6 hp.ne;refine upn p.Progs.length (fun i hi ih b hA=>?_) (fun i hi b hA=>?_)
 ·obtain⟨g,hg,gm⟩:=f54 hi;exact B5 (a9e _ _ _) (E9 (fun _=>g2k p hp i hi g hg (hp.progs g gm) ih 0 b fun h=>⟨hA h,fun j o hj=>by omega⟩) fun h=>absurd (show(i:Int)<p.Progs.length by omega) h)
 ·exact B5 (a9e _ _ _) (E9 (fun h=>absurd h (by omega)) fun _=>g2m p hp _ 0 b fun h=>b9x (hA h) hi)
theorem f5k:Ex (fun r=>r=true->∀g∈p.Progs,∀o∈g.Ops,f3n o) (b87 p):=B5 (c4v _) (f9t p hp 0 true fun _ j g h=>by omega)
end
theorem f2y(b:Bool)(s:ByteArray):Ex yes (a11 b s):=by
 refine B5 (c11 _ _) ?_
 repeat' first|exact D7 trivial|exact ih|assumption|refine C7 ?_|refine E9 (fun h=>?_) (fun h=>?_)|refine O0 (fun h=>?_) (fun h=>?_)|refine B3 _ (fun h=>?_) (fun h=>?_)|refine E5 (by omega) (fun y hy hm=>?_)|refine D8 (by omega) ?_
theorem f2n(b:Bool)(s:ByteArray):Ex yes (a1y b s):=by
 refine B5 (c1b _ _) ?_
 repeat' first|exact D7 trivial|exact ih|assumption|exact f2y _ s|refine C7 ?_|refine E9 (fun h=>?_) (fun h=>?_)|refine O0 (fun h=>?_) (fun h=>?_)|refine B3 _ (fun h=>?_) (fun h=>?_)|refine E5 (by omega) (fun y hy hm=>?_)|refine D8 (by omega) ?_
theorem g1u(b:Bool)(s:ByteArray):Ex yes (a6r b s):=by
 refine B5 (c26 _ _) ?_
 repeat' first|exact D7 trivial|exact ih|assumption|exact f2n _ s|refine C7 ?_|refine E9 (fun h=>?_) (fun h=>?_)|refine O0 (fun h=>?_) (fun h=>?_)|refine B3 _ (fun h=>?_) (fun h=>?_)|refine E5 (by omega) (fun y hy hm=>?_)|refine D8 (by omega) ?_
theorem f0a(s:ByteArray):Ex yes (b9y s):=by
 refine B5 (c95 _) ?_
 repeat' first|exact D7 trivial|exact ih|assumption|exact g1u _ s|refine C7 ?_|refine E9 (fun h=>?_) (fun h=>?_)|refine O0 (fun h=>?_) (fun h=>?_)|refine B3 _ (fun h=>?_) (fun h=>?_)|refine E5 (by omega) (fun y hy hm=>?_)|refine D8 (by omega) ?_
theorem f9k(b:Bool)(t:Int):Ex yes (a4c b t):=by
 refine B5 (c1x _ _) ?_
 repeat' first|exact D7 trivial|exact ih|assumption|refine C7 ?_|refine E9 (fun h=>?_) (fun h=>?_)|refine O0 (fun h=>?_) (fun h=>?_)|refine B3 _ (fun h=>?_) (fun h=>?_)|refine E5 (by omega) (fun y hy hm=>?_)|refine D8 (by omega) ?_
theorem g16(b:Bool)(s:ByteArray)(t:Int):Ex yes (a10 b s t):=by
 refine B5 (c06 _ _ _) ?_
 repeat' first|exact D7 trivial|exact ih|assumption|exact f9k _ t|refine C7 ?_|refine E9 (fun h=>?_) (fun h=>?_)|refine O0 (fun h=>?_) (fun h=>?_)|refine B3 _ (fun h=>?_) (fun h=>?_)|refine E5 (by omega) (fun y hy hm=>?_)|refine D8 (by omega) ?_
theorem g1g(b:Bool)(s:ByteArray)(t:Int):Ex yes (a4j b s t):=by
 refine B5 (c1q _ _ _) ?_
 repeat' first|exact D7 trivial|exact ih|assumption|exact g16 _ s t|refine C7 ?_|refine E9 (fun h=>?_) (fun h=>?_)|refine O0 (fun h=>?_) (fun h=>?_)|refine B3 _ (fun h=>?_) (fun h=>?_)|refine E5 (by omega) (fun y hy hm=>?_)|refine D8 (by omega) ?_
theorem f9d(b:Bool)(s:ByteArray)(t:Int):Ex yes (a86 b s t):=by
 refine B5 (c17 _ _ _) ?_
 repeat' first|exact D7 trivial|exact ih|assumption|exact g1g _ s t|refine C7 ?_|refine E9 (fun h=>?_) (fun h=>?_)|refine O0 (fun h=>?_) (fun h=>?_)|refine B3 _ (fun h=>?_) (fun h=>?_)|refine E5 (by omega) (fun y hy hm=>?_)|refine D8 (by omega) ?_
theorem g59(s:ByteArray)(t:Int):Ex yes (c45 s t):=by
 refine B5 (c9v _ _) ?_
 repeat' first|exact D7 trivial|exact ih|assumption|exact f9d _ s t|refine C7 ?_|refine E9 (fun h=>?_) (fun h=>?_)|refine O0 (fun h=>?_) (fun h=>?_)|refine B3 _ (fun h=>?_) (fun h=>?_)|refine E5 (by omega) (fun y hy hm=>?_)|refine D8 (by omega) ?_
theorem e5z(n:b2r)(hn:c87 n):Ex yes (c05 n):=by
 refine B5 (c7r _) ?_
 repeat' first|exact D7 trivial|exact ih|assumption|refine c27 (f35 _ _ hn.val.okv) ?_|refine C7 ?_|refine E9 (fun h=>?_) (fun h=>?_)|refine O0 (fun h=>?_) (fun h=>?_)|refine B3 _ (fun h=>?_) (fun h=>?_)|refine E5 (by omega) (fun y hy hm=>?_)|refine D8 (by omega) ?_|refine E0 (f0a _) (fun y hq=>?_)
theorem g0m(l:List b2r)(hl:Sz l.length)(hn:∀n∈l,c87 n)(t:Int):∀i:Nat,Ex yes (a4d (i:Int) l t):=by
 have b1:=D6 hl;refine upn (l.length) (fun i hi ih=>?_) (fun i hi=>?_)
 ·refine B5 (b2b _ _ _) ?_;rw[V2 (by omega)]
  repeat' first|exact D7 trivial|exact ih|assumption|rw[c80 (by omega)]|refine C7 ?_|refine E9 (fun h=>?_) (fun h=>?_)|refine O0 (fun h=>?_) (fun h=>?_)|refine B3 _ (fun h=>?_) (fun h=>?_)|refine E5 (by omega) (fun y hy hm=>?_)|refine D8 (by omega) ?_|refine E0 (f0a _) (fun y hq=>?_)|refine E0 (g59 _ _) (fun y hq=>?_)|refine E0 (e5z _ (hn _ (by assumption))) (fun y hq=>?_)
 ·refine B5 (b2b _ _ _) ?_
  repeat' first|exact D7 trivial|exact ih|assumption|rw[c80 (by omega)]|exact absurd ‹_› (by omega)|(exfalso;omega)|refine C7 ?_|refine E9 (fun h=>?_) (fun h=>?_)|refine O0 (fun h=>?_) (fun h=>?_)|refine B3 _ (fun h=>?_) (fun h=>?_)|refine E5 (by omega) (fun y hy hm=>?_)|refine D8 (by omega) ?_|refine E0 (f0a _) (fun y hq=>?_)|refine E0 (g59 _ _) (fun y hq=>?_)|refine E0 (e5z _ (hn _ (by assumption))) (fun y hq=>?_)
theorem g4s(l:List b2r)(hl:Sz l.length)(hn:∀n∈l,c87 n)(t:Int):Ex yes (c1d l t):=by
 refine B5 (c7f _ _) ?_
 repeat' first|exact D7 trivial|exact ih|assumption|exact g0m l hl hn t 0|refine C7 ?_|refine E9 (fun h=>?_) (fun h=>?_)|refine O0 (fun h=>?_) (fun h=>?_)|refine B3 _ (fun h=>?_) (fun h=>?_)|refine E5 (by omega) (fun y hy hm=>?_)|refine D8 (by omega) ?_
theorem f41(p:A7)(o:GOp):Ex (fun r=>r=true->(o.Kind=10->0<=o.Target/\o.Target<p.Progs.length/\o.Card≠3)/\(o.Kind=9->0<=o.Target/\o.Target<p.Enums.length)/\(o.Kind≠9->o.Kind≠10->o.Target= -1)) (b70 p o):=by
 refine B5 (c5c _ _) (B3 _ (fun h=>D7 fun h2=>?_) fun h=>B3 _ (fun h3=>D7 fun h2=>?_) fun h3=>D7 fun h2=>?_)
 all_goals simp only[Bool.and_eq_true,decide_eq_true_eq,bne_iff_ne,beq_iff_eq,beq_eq_false_iff_ne,ne_eq]at*
 ·exact⟨fun _=>⟨h2.1.1,h2.1.2,h2.2⟩,fun h=>by omega,fun h=>by omega⟩
 ·exact⟨fun h=>by omega,fun _=>h2,fun h=>by omega⟩
 ·exact⟨fun h=>by omega,fun h=>by omega,fun _ _=>h2⟩
theorem e6k(p:A7)(o:GOp)(b:Bool):Ex (fun r=>r=true->b=true/\(o.Kind=10->0<=o.Target/\o.Target<p.Progs.length/\o.Card≠3)/\(o.Kind=9->0<=o.Target/\o.Target<p.Enums.length)/\(o.Kind≠9->o.Kind≠10->o.Target= -1)/\(o.Union= -1\/o.Card=2)) (a15 b p o):=by
 refine B5 (b6a _ _ _) (C7 (B3 _ (fun h=>E0 (f41 p o) fun y hy=>D7 fun h2=>?_) fun h=>D7 fun h2=>?_))
 ·simp only[Bool.and_eq_true,Bool.or_eq_true,beq_iff_eq]at h2;obtain⟨a1,a2,a3⟩:=hy h2.1;exact⟨h,a1,a2,a3,h2.2⟩
 ·simp at h2
theorem g7i(p:A7)(o:GOp)(ho:g71 o):Ex (fun r=>r=true->OpF p o) (b2f p o):=by
 refine B5 (c0f _ _) (c27 (d6v _ ho.alias_) (B3 _ (fun h=>D7 fun h2=>by cases h2) fun h=>B3 _ (fun h2=>e8a (e6k p o _) fun r hr h3=>?_) fun h2=>e8a (e6k p o _) fun r hr h3=>?_))
 all_goals
  obtain⟨a0,a1,a2,a3,a4⟩:=hr h3;simp only[Bool.or_eq_false_iff,decide_eq_false_iff_not,bne_iff_ne,bne_eq_false_iff_eq,ne_eq,Bool.or_eq_true,Bool.and_eq_true,decide_eq_true_eq,beq_iff_eq]at h h2 a0;refine⟨by omega,by omega,⟨fun _=>by omega,fun _=>by omega⟩,a1,a2,a3,a4⟩
def f17(o:GOp):Prop:= -1<=o.Union
theorem f3g(g:B8)(hg:b7w g):∀i:Nat,∀n:Nat,n<=i/\i<=g.Ops.length->(∀j o,j<i->g.Ops[j]? =some o->f17 o)->Ex (fun r=>r=true->∀o∈g.Ops,f17 o) (a0p (i:Int) (n:Int) g):=by
 have b1:=D6 hg.n;refine upn g.Ops.length (fun i hi ih n hn hA=>?_) (fun i hi n hn hA=>?_)
 ·have e2:((i:Int)).toNat=i:=by omega
  refine B5 (b0v _ _ _) (E9 (fun _=>E5 (by omega) fun y hy hm=>?_) fun h=>absurd (show(i:Int)<g.Ops.length by omega) h);rw[V2 (by omega),V2 (by omega)];have hy':=hy;rw[e2]at hy';refine B3 _ (fun h=>ih _ (by omega) (b14 hA hy' ?_)) fun h=>C7 ?_
  ·simp only[beq_iff_eq]at h;unfold f17;omega
  have no:∀b,(b=false->f17 y)->Ex (α:=Bool) (fun r=>r=true->∀o∈g.Ops,f17 o) (fun r=>(b=true->r=false)/\(b=false->a0p ((i+1:Nat):Int) (n:Int) g r)):=fun b hb=>B3 b (fun _=>D7 fun h=>by cases h) fun h=>ih _ (by omega) (b14 hA hy' (hb h))
  refine B3 _ (fun h2=>B3 _ (fun h3=>no _ fun h=>by cases h) fun h3=>?_) fun h2=>no _ fun _=>?_
  ·have:0<i:=by simp only[beq_eq_false_iff_ne]at h3;omega
   rw[c80 (by omega)];refine E5 (by omega) fun z hz _=>no _ fun h=>?_
   have e3:(((i - 1:Nat):Int)).toNat=i - 1:=by omega
   rw[e3]at hz;have:=hA (i - 1) z (by omega) hz;simp only[bne_eq_false_iff_eq]at h;unfold f17 at*;omega
  ·simp only[bne_eq_false_iff_eq]at h2;unfold f17;omega
 ·exact B5 (b0v _ _ _) (E9 (fun h=>absurd h (by omega)) fun _=>D7 fun _=>b9x hA hi)
theorem g48(g:B8)(hg:b7w g):Ex (fun r=>r=true->∀o∈g.Ops,f17 o) (b73 g):=B5 (c5s _) (f3g g hg 0 0 (by omega) fun j o h=>by omega)
section
variable (p:A7) (hp:b8v p)
 include hp
def e40(g:B8):Prop:=(∀o∈g.Ops,f17 o)/\∀o∈g.Ops,OpF p o
theorem f8a(k:Nat)(hk:k<p.Progs.length)(g:B8)(hg:p.Progs[((k:Int)).toNat]? =some g)(og:b7w g)(H:∀b,(b=true->∀j g,j<k+1->p.Progs[j]? =some g->e40 p g)->Ex (fun r=>r=true->∀g∈p.Progs,e40 p g) (X5 ((k+1:Nat):Int) b p)):
  ∀i:Nat,∀b,(b=true->(∀j g,j<k->p.Progs[j]? =some g->e40 p g)/\(∀o∈g.Ops,f17 o)/\∀j o,j<i->g.Ops[j]? =some o->OpF p o)->Ex (fun r=>r=true->∀g∈p.Progs,e40 p g) (X6 (i:Int) b (k:Int) p):=by
 have b1:=D6 hp.np;have b2:=D6 hp.ne;have b3:=D6 og.n;have e3:((k:Int)).toNat=k:=by omega
 refine upn g.Ops.length (fun i hi ih b hA=>?_) (fun i hi b hA=>?_)
 ·refine B5 (a52 _ _ _ _) (a3d g hg (by omega) (E9 (fun _=>?_) fun h=>absurd (show(i:Int)<g.Ops.length by omega) h));rw[V2 (by omega)];refine B3 _ (fun hb=>a3d g hg (by omega) (E5 (by omega) fun y hy hm=>E0 (g7i p y (og.ops y hm)) fun z hz=>ih _ fun h=>?_)) fun hb=>ih _ fun h=>by cases h
  have e2:((i:Int)).toNat=i:=by omega
  rw[e2]at hy;exact⟨(hA hb).1,(hA hb).2.1,b14 (hA hb).2.2 hy (hz h)⟩
 ·refine B5 (a52 _ _ _ _) (a3d g hg (by omega) (E9 (fun h=>absurd h (by omega)) fun _=>?_));rw[V2 (by omega)];exact H _ fun h=>b14 (hA h).1 (by rw[<-e3];exact hg) ⟨(hA h).2.1,b9x (hA h).2.2 hi⟩
theorem e9g:∀i:Nat,∀b,(b=true->∀j g,j<i->p.Progs[j]? =some g->e40 p g)->Ex (fun r=>r=true->∀g∈p.Progs,e40 p g) (X5 (i:Int) b p):=by
 have b1:=D6 hp.np;have b2:=D6 hp.ne;refine upn p.Progs.length (fun i hi ih b hA=>?_) (fun i hi b hA=>?_)
 ·obtain⟨g,hg,gm⟩:=f54 hi;have go:=f8a p hp i hi g hg (hp.progs g gm) ih 0;exact B5 (a5w _ _ _) (E9 (fun _=>C7 (B3 _ (fun hb=>a3d g hg (by omega) (E0 (g48 g (hp.progs g gm)) fun y hy=>go _ fun h=>⟨hA hb,hy h,fun j o hj=>by omega⟩)) fun hb=>go _ fun h=>by cases h)) fun h=>absurd (show(i:Int)<p.Progs.length by omega) h)
 ·exact B5 (a5w _ _ _) (E9 (fun h=>absurd h (by omega)) fun _=>D7 fun h=>b9x (hA h) hi)
theorem e9r(k:Nat)(hk:k<p.Enums.length)(g:V9)(hg:p.Enums[((k:Int)).toNat]? =some g)(og:c0m g)(H:∀b,Ex (fun r=>r=true->∀g∈p.Progs,e40 p g) (X4 ((k+1:Nat):Int) b p)):∀i:Nat,∀b,Ex (fun r=>r=true->∀g∈p.Progs,e40 p g) (P4 (i:Int) b (k:Int) p):=by
 have b1:=D6 hp.np;have b2:=D6 hp.ne;have b3:=D6 og.ni;refine upn (g.Items.length) (fun i hi ih b=>?_) (fun i hi b=>?_)
 ·refine B5 (a5r _ _ _ _) ?_
  try rw[V2 (by omega)]
  repeat' first|exact D7 trivial|exact ih|assumption|exact ih _|exact H _|refine a3d g hg (by omega) ?_|rw[V2 (by omega)]|refine C7 ?_|refine E9 (fun h=>?_) (fun h=>?_)|refine O0 (fun h=>?_) (fun h=>?_)|refine B3 _ (fun h=>?_) (fun h=>?_)|refine E5 (by first|omega|(simp only[beq_iff_eq]at*;omega)) (fun y hy hm=>?_)|refine D8 (by first|omega|(simp only[beq_iff_eq]at*;omega)) ?_|refine E0 (g4s _ (og.items _ ‹_›).nn (og.items _ ‹_›).notes _) (fun y hq=>?_)
 ·refine B5 (a5r _ _ _ _) ?_
  repeat' first|exact D7 trivial|exact ih|assumption|exact ih _|exact H _|refine a3d g hg (by omega) ?_|rw[V2 (by omega)]|exact absurd ‹_› (by omega)|(exfalso;omega)|refine C7 ?_|refine E9 (fun h=>?_) (fun h=>?_)|refine O0 (fun h=>?_) (fun h=>?_)|refine B3 _ (fun h=>?_) (fun h=>?_)|refine E5 (by first|omega|(simp only[beq_iff_eq]at*;omega)) (fun y hy hm=>?_)|refine D8 (by first|omega|(simp only[beq_iff_eq]at*;omega)) ?_|refine E0 (g4s _ (og.items _ ‹_›).nn (og.items _ ‹_›).notes _) (fun y hq=>?_)
theorem f8z:∀i:Nat,∀b,Ex (fun r=>r=true->∀g∈p.Progs,e40 p g) (X4 (i:Int) b p):=by
 have b1:=D6 hp.np;have b2:=D6 hp.ne;refine upn (p.Enums.length) (fun i hi ih b=>?_) (fun i hi b=>?_)
 ·obtain⟨g,hg,gm⟩:=f54 hi;refine B5 (a55 _ _ _) ?_
  try rw[V2 (by omega)]
  repeat' first|exact D7 trivial|exact ih|assumption|exact ih _|exact e9r p hp i hi g hg (hp.enums g gm) ih 0 _|exact e9g p hp 0 _ (fun _ j g h=>by omega)|refine a3d g hg (by omega) ?_|refine C7 ?_|refine E9 (fun h=>?_) (fun h=>?_)|refine O0 (fun h=>?_) (fun h=>?_)|refine B3 _ (fun h=>?_) (fun h=>?_)|refine E5 (by omega) (fun y hy hm=>?_)|refine D8 (by omega) ?_
 ·refine B5 (a55 _ _ _) ?_
  repeat' first|exact D7 trivial|exact ih|assumption|exact ih _|exact e9r p hp i hi g hg (hp.enums g gm) ih 0 _|exact e9g p hp 0 _ (fun _ j g h=>by omega)|refine a3d g hg (by omega) ?_|exact absurd ‹_› (by omega)|(exfalso;omega)|refine C7 ?_|refine E9 (fun h=>?_) (fun h=>?_)|refine O0 (fun h=>?_) (fun h=>?_)|refine B3 _ (fun h=>?_) (fun h=>?_)|refine E5 (by omega) (fun y hy hm=>?_)|refine D8 (by omega) ?_
theorem g3y:Ex (fun r=>r=true->∀g∈p.Progs,e40 p g) (b2e p):=B5 (c0g _) (f8z p hp 0 _)
variable (hF:∀g∈p.Progs,e40 p g)
 include hF
theorem f9p(k:Nat)(hk:k<p.Progs.length)(g:B8)(hg:p.Progs[((k:Int)).toNat]? =some g)(gm:g∈p.Progs)(m:Int)(c:Bool)(H:∀b (l:List Bool),l.length=p.Progs.length->Ex yes (a1u ((k+1:Nat):Int) b m p l)):
  ∀i:Nat,∀b (l:List Bool),l.length=p.Progs.length->Ex yes (Z1 (i:Int) b (k:Int) c m p l):=by
 have b1:=D6 hp.np;have b2:=D6 hp.ne;have b3:=D6 (hp.progs g gm).n;refine upn g.Ops.length (fun i hi ih b l hl=>?_) (fun i hi b l hl=>?_)
 ·refine B5 (a95 _ _ _ _ _ _ _) (a3d g hg (by omega) (E9 (fun _=>a3d g hg (by omega) (E5 (by omega) fun y hy hm=>?_)) fun h=>absurd (show(i:Int)<g.Ops.length by omega) h));rw[V2 (by omega)];refine B3 _ (fun hb=>B3 _ (fun h=>ih _ l hl) fun h=>?_) fun hb=>ih _ l hl
  have h10:y.Kind=10:=by simp only[Bool.or_eq_false_iff,bne_eq_false_iff_eq]at h;exact h.2
  have ht:=((hF g gm).2 y hm).msg h10;refine D8 (by omega) (c27 (List.getElem?_eq_getElem (show y.Target.toNat<l.length by omega)) (ih _ l hl))
 ·refine B5 (a95 _ _ _ _ _ _ _) (a3d g hg (by omega) (E9 (fun h=>absurd h (by omega)) fun _=>D8 (by omega) (D8 (by omega) ?_)));rw[V2 (by omega)];exact H _ _ (by simpa using hl)
theorem g1p(m:Nat)(hm:m<p.Progs.length)(H:∀b (l:List Bool),l.length=p.Progs.length->Ex yes (a2x ((m+1:Nat):Int) p b l)):
  ∀i:Nat,∀b (l:List Bool),l.length=p.Progs.length->Ex yes (a1u (i:Int) b (m:Int) p l):=by
 have b1:=D6 hp.np;refine upn p.Progs.length (fun i hi ih b l hl=>?_) (fun i hi b l hl=>?_)
 ·obtain⟨g,hg,gm⟩:=f54 hi;exact B5 (a9x _ _ _ _ _) (E9 (fun _=>f9p p hp hF i hi g hg gm m b ih 0 true l hl) fun h=>absurd (show(i:Int)<p.Progs.length by omega) h)
 ·refine B5 (a9x _ _ _ _ _) (E9 (fun h=>absurd h (by omega)) fun _=>?_);rw[V2 (by omega)];exact H _ l hl
theorem g6j:∀i:Nat,∀b (l:List Bool),l.length=p.Progs.length->Ex yes (a2x (i:Int) p b l):=by
 refine upn p.Progs.length (fun i hi ih b l hl=>?_) (fun i hi b l hl=>?_)
 ·exact B5 (b0q _ _ _ _) (E9 (fun _=>g1p p hp hF i hi ih 0 true l hl) fun h=>absurd (show(i:Int)<p.Progs.length by omega) h)
 ·exact B5 (b0q _ _ _ _) (E9 (fun h=>absurd h (by omega)) fun _=>D7 trivial)
theorem f4h:Ex yes (b7s p):=by
 have b1:=D6 hp.np;exact B5 (c4h _) (D8 (by omega) (g6j p hp hF 0 _ _ (by simp)))
end
structure f9c(p:A7):Prop where
 asc:∀g∈p.Progs,Asc g.Ops g.Ops.length
 num:∀g∈p.Progs,∀o∈g.Ops,f3n o
 pro:∀g∈p.Progs,e40 p g
theorem g1a(p:A7)(hp:b8v p):Ex (fun r=>r=0->f9c p) (c1p p):=by
 have no:∀{n:Int},n≠0->Ex (α:=Int) (fun r=>r=0->f9c p) (fun r=>r=n):=fun hn=>D7 fun h=>absurd h hn
 refine B5 (c7u _) (E0 (f4q p hp) fun y1 _=>B3 _ (fun _=>no (by decide)) fun _=>?_);refine E0 (g1t p hp) fun y1 _=>B3 _ (fun _=>no (by decide)) fun _=>?_
 refine E0 (e8t p hp) fun y3 h3=>B3 _ (fun _=>no (by decide)) fun k3=>?_
 refine E0 (f2i p hp) fun y1 _=>B3 _ (fun _=>no (by decide)) fun _=>?_
 refine E0 (f5k p hp) fun y5 h5=>B3 _ (fun _=>no (by decide)) fun k5=>?_
 refine E0 (g3y p hp) fun y6 h6=>B3 _ (fun _=>no (by decide)) fun k6=>?_
 have hF:=h6 (by simpa using k6);exact E0 (f4h p hp hF) fun y1 _=>B3 _ (fun _=>no (by decide)) fun _=>D7 fun _=>⟨h3 (by simpa using k3),h5 (by simpa using k5),hF⟩
def b0n(v:A0):Bool:=
 ((v.Kind !=11)&& !v.List_.isEmpty)||(((v.Kind !=12)&& !v.Pairs.isEmpty)||(((v.Kind !=10)&& !(v.Slots.isEmpty&&v.Raws.isEmpty))||
  (((v.Bits !=0)&&(((v.Kind==7)||(v.Kind==8))||((v.Kind==10)||((v.Kind==11)||(v.Kind==12)))))||(!(decide (v.Text=(⟨#[]⟩:ByteArray)))&& !((v.Kind==7)||(v.Kind==8))))))
theorem d5b{α:Type}(l:List α):decide (0<(l.length:Int))= !l.isEmpty:=by
 cases l with
 |nil=>rfl
 |cons x l=>simp
theorem f42{α β:Type}(l:List α)(m:List β)(h:l.length<=140737488351232)(h2:m.length<=140737488351232):decide (0<wI ((l.length:Int)+(m.length:Int)))= !(l.isEmpty&&m.isEmpty):=by
 rw[wI,D3 (by omega)];cases l with
 |nil=>cases m with
  |nil=>rfl
  |cons x m=>simp
 |cons x l=>simp;omega
theorem h5o(k:Int):((decide (10<=k))&&(decide (k<=12)))=((k==10)||((k==11)||(k==12))):=by
 rw[Bool.eq_iff_iff];simp;omega
theorem c8v(v:A0)(hv:OkV v):b1t v (b0n v):=by
 refine c9a _ _ ?_;rw[d5b,d5b,f42 _ _ hv.s hv.r,h5o];unfold b0n;generalize ((v.Kind !=11)&& !v.List_.isEmpty)=b1;generalize ((v.Kind !=12)&& !v.Pairs.isEmpty)=b2;generalize ((v.Kind !=10)&& !(v.Slots.isEmpty&&v.Raws.isEmpty))=b3;generalize ((v.Kind==7)||(v.Kind==8))=b4;generalize ((v.Kind==10)||((v.Kind==11)||(v.Kind==12)))=b5;generalize (v.Bits !=0)=b6;generalize (decide (v.Text=(⟨#[]⟩:ByteArray)))=b7;revert b1 b2 b3 b4 b5 b6 b7;decide
def d5p(p:A7)(kind enum:Int)(v:A0):Int:=
 if((v.Kind !=kind)||b0n v)=true then 12 else if 4096<v.Text.size then 3 else if((kind==7)&& !b27 v.Text)=true then 7 else if a9h kind v=false then 12 else if((kind==9)&& !e0s p enum v.Bits)=true then 16 else 0
theorem f71(p:A7)(hp:OkE p)(kind enum:Int)(v:A0)(hv:OkV v):a3k ⟨p⟩ kind enum v (d5p p kind enum v):=by
 refine b7h _ _ _ _ _ ⟨fun b=>b=((v.Kind !=kind)||b0n v),fun b hb=>⟨fun h=>?_,fun h=>⟨fun h2=>?_,fun h2=>⟨fun b2=>b2=((kind==7)&& !b27 v.Text),fun b2 hb2=>⟨fun h3=>?_,fun h3=>⟨_,d9f kind v hv,fun h4=>?_,fun h4=>⟨fun h5=>⟨_,c6a p hp enum v.Bits hv.b0,fun h6=>?_,fun h6=>?_⟩,fun h5=>?_⟩⟩⟩,fun h3=>⟨_,d4b _ hv.t,by rw[h3,Bool.true_and]⟩,fun h3=>by rw[h3,Bool.false_and]⟩⟩⟩,fun h=>by rw[h,Bool.true_or],fun h=>⟨_,c8v v hv,by rw[h,Bool.false_or]⟩⟩
 ·subst hb;rw[d5p,if_pos h]
 ·subst hb;rw[d5p,if_neg (nt h),if_pos (by simp at h2;omega)]
 all_goals (subst hb;have h2':¬4096<v.Text.size:=by simp at h2;omega)
 ·subst hb2;rw[d5p,if_neg (nt h),if_neg h2',if_pos h3]
 all_goals subst hb2
 ·rw[d5p,if_neg (nt h),if_neg h2',if_neg (nt h3),if_pos (by simpa using h4)]
 ·rw[d5p,if_neg (nt h),if_neg h2',if_neg (nt h3),if_neg (by simpa using h4),if_pos (by rw[h5,Bool.true_and];exact h6)]
 ·rw[d5p,if_neg (nt h),if_neg h2',if_neg (nt h3),if_neg (by simpa using h4),if_neg (by rw[h5,Bool.true_and];exact nt h6)]
 ·rw[d5p,if_neg (nt h),if_neg h2',if_neg (nt h3),if_neg (by simpa using h4),if_neg (by rw[h5,Bool.false_and];simp)]
def c22(f:Nat->Int)(i n:Nat):Int:=if i<n then(if f i≠0 then f i else c22 f (i+1) n) else 0
 termination_by n - i
theorem c36{J:Nat->Prop}{E:Prop}{r:Int}(f:Nat->Int)(n:Nat)(b8i:∀i,i<n->(f i≠0->r=f i)->(f i=0->J (i+1))->J i)(fin:E->J n):∀i,i<=n->(c22 f i n≠0->r=c22 f i n)->(c22 f i n=0->E)->J i:=by
 have key:∀d i,n - i<=d->i<=n->(c22 f i n≠0->r=c22 f i n)->(c22 f i n=0->E)->J i:=by
  intro d
  induction d with
  |zero=>
   intro i hd hi h1 h2;have e:i=n:=by omega
   subst e;exact fin (h2 (by rw[c22,if_neg (by omega)]))
  |succ d ih=>
   intro i hd hi h1 h2;rcases Nat.lt_or_ge i n with hlt|hge
   ·rw[c22,if_pos hlt]at h1 h2;refine b8i i hlt (fun h=>?_) (fun h=>?_)
    ·rw[if_pos h]at h1;exact h1 h
    ·rw[if_neg (by omega)]at h1 h2;exact ih (i+1) (by omega) (by omega) h1 h2
   ·have e:i=n:=by omega
    subst e;exact fin (h2 (by rw[c22,if_neg (by omega)]))
 intro i;exact key _ i (Nat.le_refl _)
theorem b8m{f:Nat->Int}{n:Nat}:∀i,c22 f i n=0->∀k,i<=k->k<n->f k=0:=by
 have key:∀d i,n - i<=d->c22 f i n=0->∀k,i<=k->k<n->f k=0:=by
  intro d
  induction d with
  |zero=>intro i hd _ k h1 h2;omega
  |succ d ih=>
   intro i hd h k h1 h2;rw[c22,if_pos (show i<n by omega)]at h
   by_cases e:f i=0
   ·rw[if_neg (by omega)]at h;rcases Nat.lt_or_ge i k with h3|h3
    ·exact ih (i+1) (by omega) h k h3 h2
    ·have:k=i:=by omega
     rw[this];exact e
   ·rw[if_pos e]at h;exact absurd h e
 exact fun i=>key _ i (Nat.le_refl _)
theorem d5e{α:Type}(f:α->Bool):∀(l:List α) (i:Int),0<=i->decide (0<=c4c f l i)=l.any f
 |[],i,_=>by simp[c4c]
 |x::l,i,hi=>by
  have ih:=d5e f l (i+1) (by omega);rw[List.any_cons,<-ih]
  by_cases h:f x=true
  ·have e:c4c f (x::l) i=i:=by simp only[c4c];rw[if_pos h]
   simp only[e,h,Bool.true_or];simpa using hi
  ·have e:c4c f (x::l) i=c4c f l (i+1):=by simp only[c4c];rw[if_neg h]
   simp at h;simp only[e,h,Bool.false_or]
end Go.Proofs.YtidmmngcijapcaaGreat.Lift
