/- Part 7 of the texts that prove RowEncodesEnd. -/
import Derived.Test.YtidmmngcijapcaaGreatRowEncodesEndP5
import Derived.Test.YtidmmngcijapcaaGreatRowEncodesEndP4
import Derived.Test.YtidmmngcijapcaaGreatRowEncodesEndP2
import Derived.Lib.DecodeN
namespace Go.Proofs.YtidmmngcijapcaaGreat.Lift
open Go.RowKit
set_option linter.unusedVariables false
set_option linter.unusedSimpArgs false
set_option linter.unnecessarySimpa false
set_option linter.unusedSectionVars false
set_option maxRecDepth 100000
theorem c0g {α:Type} {J:Int ->List α ->List α ->Int ->Prop} {C:α ->α ->Int ->Prop} (c:α ->α ->Int)
  (b67:∀i s t r,(((decide (i<(s.length:Int)))&&(decide (i<(t.length:Int))))=true ->∃y6,s[i.toNat]? =some y6 /\ 0<=i /\ (∃y7,t[i.toNat]? =some y7 /\ 0<=i /\ (∃y8,C y6 y7 y8 /\ (((y8 !=0)=true ->r=y8) /\ ((y8 !=0)=false ->J (wI (i+1)) s t r))))) /\ (((decide (i<(s.length:Int)))&&(decide (i<(t.length:Int))))=false ->∃y5,O9 (s.length:Int) (t.length:Int) y5 /\ (r=y5)) ->J i s t r)
  (s t:List α) (hs:s.length<=140737488351232) (hC:∀x∈s,∀y∈t,C x y (c x y)):J 0 s t (b34 c s t):=by
 have key:∀(d i:Nat),s.length - i<=d ->i<=s.length ->i<=t.length ->J i s t (b34 c (s.drop i) (t.drop i)):=by
  intro d
  induction d with
  |zero=>
   intro i hd hi hj
   refine b67 _ _ _ _ ⟨fun h=>by simp at h; omega,fun _=>⟨_,b9j _ _, ?_⟩⟩
   rw [List.drop_eq_nil_of_le (show s.length<=i by omega)]
   rcases Nat.lt_or_ge i t.length with h|h
   ·rw [List.drop_eq_getElem_cons h]
    simp only [b34,a3p]; rw [if_pos (by omega)]
   ·rw [List.drop_eq_nil_of_le h]
    simp only [b34,a3p]; rw [if_neg (by omega),if_neg (by omega)]
  |succ d ih=>
   intro i hd hi hj
   rcases Nat.lt_or_ge i s.length with hlt|hge
   ·have ds:s.drop i=s[i]::s.drop (i+1):=List.drop_eq_getElem_cons hlt
    rcases Nat.lt_or_ge i t.length with h|h
    ·have e1:wI ((i:Int)+1)=((i+1:Nat):Int):=by rw [wI,D2 (by omega)]; omega
     have dt:t.drop i=t[i]::t.drop (i+1):=List.drop_eq_getElem_cons h
     refine b67 _ _ _ _ ⟨fun _=>⟨s[i],by simp,by omega,t[i],by simp,by omega,c s[i] t[i],hC _ (List.getElem_mem _) _ (List.getElem_mem _),fun h2=> ?_,fun h2=> ?_⟩,fun h2=>by simp at h2; omega⟩
     ·simp at h2
      rw [ds,dt]
      simp [b34,h2]
     ·simp at h2
      rw [ds,dt,e1]
      have:=ih (i+1) (by omega) (by omega) (by omega)
      simpa [b34,h2] using this
    ·refine b67 _ _ _ _ ⟨fun h=>by simp at h; omega,fun _=>⟨_,b9j _ _, ?_⟩⟩
     rw [ds,List.drop_eq_nil_of_le h]
     simp only [b34,a3p]; rw [if_neg (by omega),if_pos (by omega)]
   ·refine b67 _ _ _ _ ⟨fun h=>by simp at h; omega,fun _=>⟨_,b9j _ _, ?_⟩⟩
    rw [List.drop_eq_nil_of_le hge]
    rcases Nat.lt_or_ge i t.length with h|h
    ·rw [List.drop_eq_getElem_cons h]
     simp only [b34,a3p]; rw [if_pos (by omega)]
    ·rw [List.drop_eq_nil_of_le h]
     simp only [b34,a3p]; rw [if_neg (by omega),if_neg (by omega)]
 simpa using key s.length 0 (by omega) (by omega) (by omega)
theorem d3j {x y:Int}:a3p x y≠0↔x≠y:=by
 rcases O8 x y with h|h|h<;>rw [h.2]<;>omega
theorem f4l (x y:P6):c8z x y (e4t x y):=by
 unfold e4t
 refine d0g _ _ _ ⟨fun h=>⟨_,b9j _ _, ?_⟩,fun h=>⟨fun h2=>⟨_,b9j _ _, ?_⟩,fun h2=>⟨fun h3=> ?_,fun h3=>⟨fun h4=> ?_,fun h4=>⟨fun h5=> ?_,fun h5=>⟨fun h6=> ?_,fun h6=> ?_⟩⟩⟩⟩⟩⟩
 ·simp at h
  simp only [orL]; rw [if_pos (d3j.2 h)]
 all_goals simp only [bne_eq_false_iff_eq] at h
 all_goals have e1:a3p x.Num y.Num=0:=by rcases O8 x.Num y.Num with g|g|g<;>omega
 ·simp at h2
  simp only [orL,e1]; rw [if_neg (by simp),if_pos (d3j.2 h2)]
 all_goals simp only [bne_eq_false_iff_eq] at h2
 all_goals have e2:a3p x.Wire y.Wire=0:=by rcases O8 x.Wire y.Wire with g|g|g<;>omega
 ·simp at h3
  have e3:a3p x.Bits y.Bits= -1:=by simp [a3p,h3]
  simp [orL,e1,e2,e3]
 ·simp at h3 h4
  have e3:a3p x.Bits y.Bits=1:=by simp [a3p,h4]; omega
  simp [orL,e1,e2,e3]
 all_goals simp only [decide_eq_false_iff_not] at h3 h4
 all_goals have e3:a3p x.Bits y.Bits=0:=by rcases O8 x.Bits y.Bits with g|g|g<;>omega
 ·simp [orL,e1,e2,e3,d3p,h5]
 ·have e4:d3p x.Data y.Data=1:=by unfold d3p; rw [if_neg (nt h5),if_pos h6]
  simp [orL,e1,e2,e3,e4]
 ·have e4:d3p x.Data y.Data=0:=by unfold d3p; rw [if_neg (nt h5),if_neg (nt h6)]
  simp [orL,e1,e2,e3,e4]
theorem or2 (u v:Int):orL [u,v]=if u≠0 then u else v:=by
 simp only [orL]
 by_cases hu:u=0
 ·subst hu; by_cases hv:v=0<;>simp [hv]
 ·simp [hu]
theorem b9v:∀(n:Nat) (a b:A0),OkD a ->OkD b ->SizeOf.sizeOf a<=n ->a0m a b (a15 n a b)
 |0,a,b,_,_,h=>by have:=szV a; omega
 |n+1,a,b,ha,hb,hn=>by
  obtain ⟨_,hab,⟨la,pa,sa,ra⟩,hla,hpa,hsa⟩:=ha.inv
  obtain ⟨_,hbb,_,hlb,hpb,hsb⟩:=hb.inv
  have sc:∀k:Int,k=10\/k=11\/k=12 ->¬isS k=true:=by
   intro k hk h
   unfold isS at h
   rw [Bool.and_eq_true,decide_eq_true_eq,decide_eq_true_eq] at h
   omega
  refine d0l _ _ _ ⟨fun h=>⟨_,b9j _ _, ?_⟩,fun h=> ?_⟩
  ·simp at h
   rw [a15,if_pos h]
  have hk:a.Kind=b.Kind:=by simpa using h
  rw [a15,if_neg (by simp [hk])]
  refine ⟨fun h1=> ?_,fun h1=>⟨fun h2=> ?_,fun h2=>⟨fun h3=> ?_,fun h3=> ?_⟩⟩⟩
  all_goals simp only [beq_iff_eq,beq_eq_false_iff_ne] at*
  ·rw [if_neg (sc _ (by omega)),if_pos h1]
   exact ⟨_,c5q _ _ _ (c0g (a15 n) (fun i s t r hw=>b9t _ _ _ _ hw) _ _ la fun x hx y hy=>b9v n x y (hla x hx) (hlb y hy) (by have:=szL hx; omega)),rfl⟩
  ·rw [if_neg (sc _ (by omega)),if_neg h1,if_pos h2]
   refine ⟨_,c5r _ _ _ (c0g (C:=fun x y z=>∃u v,a0m x.1 y.1 u /\ a0m x.2 y.2 v /\ z=orL [u,v]) (fun x y=>orL [a15 n x.1 y.1,a15 n x.2 y.2]) (fun i s t r hw=>c0a _ _ _ _ ⟨fun h=> ?_,hw.2⟩) _ _ pa fun x hx y hy=> ?_),rfl⟩
   ·obtain ⟨y6,p1,p2,y7,q1,q2,z,⟨u,v,c1,c2,rfl⟩,r1,r2⟩:=hw.1 h
    rw [or2] at r1 r2
    refine ⟨y6,p1,p2,y7,q1,q2,u,c1,fun hu=> ?_,fun hu=>⟨y6,p1,p2,y7,q1,q2,v,c2,fun hv=> ?_,fun hv=> ?_⟩⟩
    ·have:u≠0:=by simpa using hu
     rw [if_pos this] at r1
     exact r1 (by simpa using this)
    ·have:u=0:=by simpa using hu
     rw [if_neg (by simp [this])] at r1
     exact r1 hv
    ·have:u=0:=by simpa using hu
     rw [if_neg (by simp [this])] at r2
     exact r2 hv
   ·have hz:=szP hx
    exact ⟨_,_,b9v n _ _ (hpa x hx).1 (hpb y hy).1 (by omega),b9v n _ _ (hpa x hx).2 (hpb y hy).2 (by omega),rfl⟩
  ·rw [if_neg (sc _ (by omega)),if_neg h1,if_neg h2,if_pos h3,or2]
   refine ⟨_,c56 _ _ _ (c0g (C:=fun x y z=>∃u v,O9 x.1 y.1 u /\ a0m x.2 y.2 v /\ z=orL [u,v]) (fun x y=>orL [a3p x.1 y.1,a15 n x.2 y.2]) (fun i s t r hw=>b9e _ _ _ _ ⟨fun h=> ?_,hw.2⟩) _ _ sa fun x hx y hy=> ?_),fun h4=> ?_,fun h4=>⟨_,c7h _ _ _ (c0g e4t (fun i s t r hw=>c2e _ _ _ _ hw) _ _ ra fun x hx y hy=>f4l x y), ?_⟩⟩
   ·obtain ⟨y6,p1,p2,y7,q1,q2,z,⟨u,v,c1,c2,rfl⟩,r1,r2⟩:=hw.1 h
    rw [or2] at r1 r2
    refine ⟨y6,p1,p2,y7,q1,q2,u,c1,fun hu=> ?_,fun hu=>⟨y6,p1,p2,y7,q1,q2,v,c2,fun hv=> ?_,fun hv=> ?_⟩⟩
    ·have:u≠0:=by simpa using hu
     rw [if_pos this] at r1
     exact r1 (by simpa using this)
    ·have:u=0:=by simpa using hu
     rw [if_neg (by simp [this])] at r1
     exact r1 hv
    ·have:u=0:=by simpa using hu
     rw [if_neg (by simp [this])] at r2
     exact r2 hv
   ·have hz:=szS hx
    exact ⟨_,_,b9j _ _,b9v n _ _ (hsa x hx) (hsb y hy) (by omega),rfl⟩
   ·rw [if_pos (by simpa using h4)]
   ·rw [if_neg (by simpa using h4)]
  ·refine ⟨_,e9t a b hk hab hbb, ?_⟩
   by_cases hs:isS a.Kind=true
   ·rw [if_pos hs,if_pos hs]
   ·rw [if_neg hs,if_neg hs,if_neg h1,if_neg h2,if_neg h3]
abbrev Tp {α:Type} (c:α ->α ->Int):Prop:=Pre c (fun _:α=>True)
section
variable {α:Type} {c c1 c2:α ->α ->Int}
theorem Tp.s (h:Tp c) (x y:α):c x y<0↔0<c y x:=h.sym x y trivial trivial
theorem Tp.t (h:Tp c) (x y z:α):c x y<=0 ->c y z<=0 ->c x z<=0:=h.trans x y z trivial trivial trivial
theorem f3w (h:Tp c) {x y:α} {p q:Int} (hpq:p<0↔0<q):(if c x y≠0 then c x y else p)<0↔0<(if c y x≠0 then c y x else q):=by
 have h1:=h.s x y
 have h2:=h.s y x
 by_cases hx:c x y=0
 ·have hy:c y x=0:=by omega
  rw [if_neg (by simp [hx]),if_neg (by simp [hy])]
  exact hpq
 ·have hy:c y x≠0:=by omega
  rw [if_pos hx,if_pos hy]
  exact h1
theorem d90 (h:Tp c) {x y z:α} {p q r:Int} (hp:p<=0 ->q<=0 ->r<=0) (h1:(if c x y≠0 then c x y else p)<=0) (h2:(if c y z≠0 then c y z else q)<=0):(if c x z≠0 then c x z else r)<=0:=by
 have sxy:=h.s x y
 have syx:=h.s y x
 have syz:=h.s y z
 have szy:=h.s z y
 have sxz:=h.s x z
 have szx:=h.s z x
 have t1:=h.t x y z
 have t2:=h.t y z x
 have t3:=h.t z x y
 by_cases hxz:c x z=0
 ·rw [if_neg (by simp [hxz])]
  have e1:c x y=0:=by
   by_cases e:c x y=0
   ·exact e
   ·rw [if_pos e] at h1
    by_cases e2:c y z=0
    ·have:=t2 (by omega) (by omega); omega
    ·rw [if_pos e2] at h2
     have:=t2 (by omega) (by omega); omega
  have e2:c y z=0:=by
   by_cases e:c y z=0
   ·exact e
   ·rw [if_pos e] at h2
    have:=t3 (by omega) (by omega); omega
  rw [if_neg (by simp [e1])] at h1
  rw [if_neg (by simp [e2])] at h2
  exact hp h1 h2
 ·rw [if_pos hxz]
  by_cases e1:c x y=0
  ·by_cases e2:c y z=0
   ·exact t1 (by omega) (by omega)
   ·rw [if_pos e2] at h2; exact t1 (by omega) (by omega)
  ·rw [if_pos e1] at h1
   by_cases e2:c y z=0
   ·exact t1 (by omega) (by omega)
   ·rw [if_pos e2] at h2; exact t1 (by omega) (by omega)
theorem e0z (h1:Tp c1) (h2:Tp c2):Tp (fun x y=>orL [c1 x y,c2 x y]):=by
 refine ⟨fun x y _ _=> ?_,fun x y z _ _ _=> ?_⟩
 ·simp only [or2]; exact f3w h1 (h2.s x y)
 ·simp only [or2]; exact d90 h1 (h2.t x y z)
theorem c9u (h:Tp c):Tp (b34 c):=by
 refine ⟨fun l m _ _=> ?_,fun l m k _ _ _=> ?_⟩
 ·induction l generalizing m with
  |nil=>cases m<;>simp [b34]
  |cons x l ih=>
   cases m with
   |nil=>simp [b34]
   |cons y m=>simp only [b34]; exact f3w h (ih m)
 ·induction l generalizing m k with
  |nil=>cases m<;>cases k<;>simp [b34]
  |cons x l ih=>
   cases m with
   |nil=>simp [b34]
   |cons y m=>
    cases k with
    |nil=>simp only [b34]; intro _ h2; exact h2
    |cons z k=>simp only [b34]; exact d90 h (ih m k)
theorem f84 (key:α ->Int) (f:Int ->α ->α ->Int) (hf:∀k,Tp (f k)):Tp (fun a b=>if key a≠key b then a3p (key a) (key b) else f (key a) a b):=by
 refine ⟨fun x y _ _=> ?_,fun x y z _ _ _ h1 h2=> ?_⟩
 ·by_cases h:key x=key y
  ·simp only [h,ne_eq,not_true_eq_false,if_false]; exact (hf _).s x y
  ·simp only [ne_eq,h,not_false_eq_true,if_true,Ne.symm h]
   rcases O8 (key x) (key y) with g|g|g<;>rcases O8 (key y) (key x) with e|e|e<;>rw [g.2,e.2]<;>omega
 ·simp only [ne_eq] at h1 h2 ⊢
  by_cases e1:key x=key y
  ·by_cases e2:key y=key z
   ·rw [if_neg (by simp [e1,e2])]
    rw [if_neg (by simp [e1])] at h1
    rw [if_neg (by simp [e2])] at h2
    rw [<-e1] at h2
    exact (hf _).t x y z h1 h2
   ·rw [if_pos e2] at h2
    rw [if_pos (by rw [e1]; exact e2),e1]
    exact h2
  ·rw [if_pos e1] at h1
   by_cases e2:key y=key z
   ·rw [if_pos (by rw [<-e2]; exact e1),<-e2]
    exact h1
   ·rw [if_pos e2] at h2
    rcases O8 (key x) (key y) with g|g|g<;>rcases O8 (key y) (key z) with e|e|e<;>rw [g.2] at h1<;>rw [e.2] at h2<;>first|omega|skip
    rw [if_pos (by omega)]
    rcases O8 (key x) (key z) with d|d|d<;>rw [d.2]<;>omega
theorem e4d:Tp (fun _ _:α=>0):=⟨fun x y _ _=>by simp,fun x y z _ _ _ _ _=>by simp⟩
theorem b1f {β:Type} (h:Tp c) (f:β ->α):Tp (fun x y=>c (f x) (f y)):=⟨fun x y _ _=>h.s _ _,fun x y z _ _ _=>h.t _ _ _⟩
theorem d6z (p:Bool) (h1:Tp c1) (h2:Tp c2):Tp (fun x y=>if p=true then c1 x y else c2 x y):=by cases p<;>simpa
theorem f00:Tp a3p:=e6x fun x:Int=>x
end
theorem d1l:∀l m:List UInt8,(if Op.bytesLess l m=true then (-1:Int) else if (!(Op.bytesLess l m||l==m))=true then 1 else 0)=b34 (fun a b:UInt8=>a3p a.toNat b.toNat) l m
 |[],[]=>by simp [Op.bytesLess,b34]
 |[],b::m=>by simp [Op.bytesLess,b34]
 |a::l,[]=>by simp [Op.bytesLess,b34]
 |a::l,b::m=>by
  have ih:=d1l l m
  simp only [b34,Op.bytesLess]
  rw [<-ih]
  have hab:a<b↔a.toNat<b.toNat:=UInt8.lt_iff_toNat_lt
  have hba:b<a↔b.toNat<a.toNat:=UInt8.lt_iff_toNat_lt
  rcases O8 (a.toNat:Int) (b.toNat:Int) with g|g|g
  ·have h1:a<b:=hab.2 (by omega)
   simp [h1,g.2]
  ·have h1:a=b:=UInt8.toNat_inj.1 (by omega)
   subst h1
   have h2:¬a<a:=UInt8.lt_irrefl a
   simp [h2,g.2]
  ·have h1:¬a<b:=fun h=>by have:=hab.1 h; omega
   have h2:¬a=b:=fun h=>by subst h; omega
   simp [h1,h2,g.2]
theorem g9n:Tp d3p:=by
 have h:=b1f (c9u (b1f f00 fun a:UInt8=>(a.toNat:Int))) fun x:ByteArray=>x.toList
 have e:d3p=fun x y=>b34 (fun a b:UInt8=>a3p (a.toNat:Int) (b.toNat:Int)) x.toList y.toList:=by
  funext x y
  exact d1l x.toList y.toList
 rw [e]; exact h
theorem h0d:Tp e4t:=by
 have h:=e0z (b1f f00 fun x:P6=>x.Num) (e0z (b1f f00 fun x:P6=>x.Wire) (e0z (b1f f00 fun x:P6=>x.Bits) (b1f g9n fun x:P6=>x.Data)))
 have e:e4t=fun x y:P6=>orL [a3p x.Num y.Num,orL [a3p x.Wire y.Wire,orL [a3p x.Bits y.Bits,d3p x.Data y.Data]]]:=by
  funext x y
  simp only [e4t,orL]
  split
  ·rfl
  ·split
   ·simp [*]
   ·split
    ·simp [*]
    ·split<;>simp [*]
 rw [e]; exact h
def f5y (k:Int) (a b:A0):Int:=
 if ((k==7)||(k==8))=true then d3p a.Text b.Text
 else if ((k==2)||(k==3))=true then a3p (wI a.Bits) (wI b.Bits)
 else if (k==6)=true then a3p (b5a a.Bits) (b5a b.Bits)
 else a3p a.Bits b.Bits
theorem h0e (k:Int):Tp (f5y k):=d6z _ (b1f g9n fun v:A0=>v.Text) (d6z _ (b1f f00 fun v:A0=>wI v.Bits) (d6z _ (b1f f00 fun v:A0=>b5a v.Bits) (b1f f00 fun v:A0=>v.Bits)))
theorem g22:∀n,Tp (a15 n)
 |0=>e4d
 |n+1=>by
  have ih:=g22 n
  have h:=f84 (fun v:A0=>v.Kind) (fun k a b=>if isS k=true then f5y k a b else if decide (k=11)=true then b34 (a15 n) a.List_ b.List_ else if decide (k=12)=true then b34 (fun x y=>orL [a15 n x.1 y.1,a15 n x.2 y.2]) a.Pairs b.Pairs else if decide (k=10)=true then orL [b34 (fun x y=>orL [a3p x.1 y.1,a15 n x.2 y.2]) a.Slots b.Slots,b34 e4t a.Raws b.Raws] else 0)
   fun k=>d6z _ (h0e k) (d6z _ (b1f (c9u ih) fun v:A0=>v.List_) (d6z _ (b1f (c9u (e0z (b1f ih fun x:A0 × A0=>x.1) (b1f ih fun x:A0 × A0=>x.2))) fun v:A0=>v.Pairs) (d6z _ (e0z (b1f (c9u (e0z (b1f f00 fun x:Int × A0=>x.1) (b1f ih fun x:Int × A0=>x.2))) fun v:A0=>v.Slots) (b1f (c9u h0d) fun v:A0=>v.Raws)) e4d)))
  have e:a15 (n+1)=fun a b:A0=>if a.Kind≠b.Kind then a3p a.Kind b.Kind else (fun (k:Int) (a b:A0)=>if isS k=true then f5y k a b else if decide (k=11)=true then b34 (a15 n) a.List_ b.List_ else if decide (k=12)=true then b34 (fun x y=>orL [a15 n x.1 y.1,a15 n x.2 y.2]) a.Pairs b.Pairs else if decide (k=10)=true then orL [b34 (fun x y=>orL [a3p x.1 y.1,a15 n x.2 y.2]) a.Slots b.Slots,b34 e4t a.Raws b.Raws] else 0) a.Kind a b:=by
   funext a b
   simp only [a15,decide_eq_true_eq]
   rfl
  rw [e]; exact h
def Y0 {α:Type} (c:α ->α ->Int):List α ->List α
 |[]=>[]
 |[x]=>[x]
 |x::y::l=>if c x y=0 then Y0 c (y::l) else x::Y0 c (y::l)
abbrev kc (N:Nat) (x y:A0 × A0):Int:=a15 N x.1 y.1
def OkP (N:Nat) (x:A0 × A0):Prop:=OkD x.1 /\ SizeOf.sizeOf x.1<=N
theorem e0d (N:Nat) (S:List (A0 × A0)) (hl:S.length*256<=140737488355328) (hS:∀x∈S,OkP N x):∀(d i:Nat) (done:List (A0 × A0)),S.length - i<=d ->i<=S.length ->done.length<=i ->a3j i S done (done++Y0 (kc N) (S.drop i)):=by
 intro d
 induction d with
 |zero=>
  intro i done hd hi hn
  have e:i=S.length:=by omega
  subst e
  exact a3z _ _ _ _ ⟨fun h=>by simp at h,fun _=>by simp [Y0]⟩
 |succ d ih=>
  intro i done hd hi hn
  rcases Nat.lt_or_ge i S.length with hlt|hge
  ·have e1:wI ((i:Int)+1)=((i+1:Nat):Int):=by rw [wI,D2 (by omega)]; omega
   have dr:S.drop i=S[i]::S.drop (i+1):=List.drop_eq_getElem_cons hlt
   refine a3z _ _ _ _ ⟨fun _=>⟨S[i],by simp,by omega,fun b=>Y0 (kc N) (S.drop i)=if b then S[i]::Y0 (kc N) (S.drop (i+1)) else Y0 (kc N) (S.drop (i+1)),fun b hb=>⟨fun h=> ?_,fun h=> ?_⟩,fun h=> ?_,fun h=> ?_⟩,fun h=>by simp at h; omega⟩
   ·subst h
    refine ⟨by simp; omega, ?_⟩
    rw [e1,hb]
    have:=ih (i+1) (done++[S[i]]) (by omega) (by omega) (by simp; omega)
    simpa using this
   ·subst h
    rw [e1,hb]
    exact ih (i+1) done (by omega) (by omega) (by omega)
   ·rw [e1] at h
    simp at h
    have:S.drop (i+1)=[]:=List.drop_eq_nil_of_le (by omega)
    rw [dr,this]
    rfl
   ·rw [e1] at h ⊢
    simp at h
    have h2:i+1<S.length:=by omega
    have dr2:S.drop (i+1)=S[i+1]::S.drop (i+1+1):=List.drop_eq_getElem_cons h2
    have o1:=hS _ (List.getElem_mem hlt)
    have o2:=hS _ (List.getElem_mem h2)
    refine ⟨S[i+1],by simp,by omega,_,b45 _ _ _ ⟨_,c9j N _ _ o1.1 o2.1 o1.2,rfl⟩, ?_⟩
    rw [dr,dr2]
    simp only [Y0]
    rcases Classical.em (a15 N S[i].1 S[i+1].1=0) with h3|h3
    ·simp [kc,h3]
    ·simp [kc,h3]
  ·exact a3z _ _ _ _ ⟨fun h=>by simp at h; omega,fun _=>by rw [List.drop_eq_nil_of_le hge]; simp [Y0]⟩
theorem e32 (N:Nat):Pre (kc N) (OkP N):=by
 have h:=b1f (g22 N) fun x:A0 × A0=>x.1
 exact ⟨fun x y _ _=>h.s x y,fun x y z _ _ _=>h.t x y z⟩
theorem e1f (N:Nat) (x y:A0 × A0) (hx:OkP N x) (hy:OkP N y):f2f (⟨193,[],[],rfl⟩:GFn) x y (kc N x y):=
 ⟨193,[],[],rfl,(show plainL [AV.agg (S3 x),AV.agg (S3 y)]=true by simp [plainL,plain,O2]),c0i _ _ _ ⟨_,c9j N _ _ hx.1 hy.1 hx.2,rfl⟩⟩
theorem e9r (N:Nat) (l:List (A0 × A0)) (hl:l.length*256<=140737488355328) (hok:∀x∈l,OkP N x):∃S,c7j (kc N) l S /\ b4h l (Y0 (kc N) S):=by
 rcases Classical.em (l=[]) with h0|h0
 ·subst h0
  refine ⟨[],⟨[],.nil,by simp [a2r],rfl⟩,b47 _ _ ⟨fun _=>⟨?_,a1h _,b92 _ _ _ ⟨fun h=>by simp at h,fun _=>rfl⟩⟩,fun h=>(h rfl).elim⟩⟩
  exact a9h _ _ fun b _=>⟨fun _=>rfl,fun _=>⟨by simp,rfl⟩⟩
 ·have hpos:0<l.length:=List.length_pos_iff.2 h0
  have hmem:∀x∈a2r l,x.1∈l:=fun x hx=>by rw [<-c0j l]; exact List.mem_map_of_mem hx
  obtain ⟨S,h1,h2,h3⟩:=f29 (e4b ⟨193,[],[],rfl⟩) (e32 N) (fun x y hx hy=>e1f N x y hx hy) (n0:=l.length) (by omega) hpos (a2r l) (by simp [a2r]) (fun x hx=>hok _ (hmem x hx)) (d0w l)
  rw [c0j] at h3
  have hlen:(fs S).length=l.length:=by simp [h2.length_eq,a2r]
  refine ⟨fs S,⟨S,h1,h2,rfl⟩,b47 _ _ ⟨fun h=>(h0 h).elim,fun _=>⟨a55 _ ⟨h0,hl⟩,fs S,h3,⟨h0,fun h=> ?_⟩,hlen, ?_⟩⟩⟩
  ·rw [h] at hlen; simp at hlen; omega
  ·have:=e0d N (fs S) (by rw [hlen]; exact hl) (fun x hx=>by
    obtain ⟨y,hy,rfl⟩:=List.mem_map.1 hx
    exact hok _ (hmem y (h2.mem_iff.1 hy))) (fs S).length 0 [] (by omega) (by omega) (by simp)
   simpa using this
section
variable {α:Type} (c:α ->α ->Int)
def a56 (x:α):List α ->List α
 |[]=>[x]
 |y::l=>if c y x<0 then y::a56 x l else x::y::l
def lone (x:α) (l:List α):Bool:=l.all fun y=>c x y !=0
def d7n:List α ->List α ->List α
 |acc,[]=>acc
 |acc,x::l=>d7n (if lone c x l=true then a56 c x acc else acc) l
def P8:List α ->List α
 |[]=>[]
 |x::l=>if lone c x l=true then a56 c x (P8 l) else P8 l
theorem d3g (x:α):∀l,(a56 c x l).length=l.length+1
 |[]=>rfl
 |y::l=>by
  simp only [a56]
  split
  ·simp [d3g x l]
  ·simp
variable {c}
theorem d5l (h:Tp c) {x y:α} (hxy:c x y≠0):∀l,a56 c x (a56 c y l)=a56 c y (a56 c x l)
 |[]=>by
  have s1:=h.s x y
  have s2:=h.s y x
  simp only [a56]
  by_cases e:c y x<0
  ·rw [if_pos e,if_neg (by omega)]
  ·rw [if_neg e,if_pos (by omega)]
 |z::l=>by
  have s1:=h.s x y
  have s2:=h.s y x
  have s3:=h.s z x
  have s4:=h.s z y
  have s5:=h.s x z
  have s6:=h.s y z
  have t1:=h.t y x z
  have t2:=h.t x y z
  have t3:=h.t x z y
  have t4:=h.t y z x
  have t5:=h.t z x y
  have t6:=h.t z y x
  simp only [a56]
  by_cases e1:c z x<0<;>by_cases e2:c z y<0<;>simp only [e1,e2,if_true,if_false,a56]
  ·rw [d5l h hxy l]
  ·have e3:¬c x y<0:=by omega
   have e4:c y x<0:=by omega
   simp [e4]
  ·have e3:c x y<0:=by omega
   simp [e3]
  ·by_cases e4:c y x<0
   ·simp [e4]; omega
   ·have e5:c x y<0:=by omega
    simp [e4,e5]
def c1n:List α ->List α ->List α
 |acc,[]=>acc
 |acc,x::l=>if lone c x l=true then a56 c x (c1n acc l) else c1n acc l
theorem d1a (h:Tp c) (x:α):∀(l acc:List α),lone c x l=true ->c1n (c:=c) (a56 c x acc) l=a56 c x (c1n (c:=c) acc l)
 |[],acc,_=>rfl
 |y::l,acc,hl=>by
  simp only [lone,List.all_cons,Bool.and_eq_true,bne_iff_ne,ne_eq] at hl
  have ih:=d1a h x l acc hl.2
  simp only [c1n,ih]
  split
  ·exact d5l h (by have:=h.s x y; have:=h.s y x; omega) _
  ·rfl
theorem d3d (h:Tp c):∀(l acc:List α),d7n c acc l=c1n (c:=c) acc l
 |[],acc=>rfl
 |x::l,acc=>by
  simp only [d7n,c1n]
  by_cases e:lone c x l=true
  ·rw [if_pos e,if_pos e,d3d h l,d1a h x l acc e]
  ·rw [if_neg e,if_neg e,d3d h l]
theorem d87:∀(l:List α),c1n (c:=c) [] l=P8 c l
 |[]=>rfl
 |x::l=>by simp only [c1n,P8,d87 l]
end
section
variable {N:Nat} {l:List (A0 × A0)} (hl:l.length*256<=140737488355328) (hok:∀x∈l,OkP N x)
 include hl hok
theorem e7z (i:Nat) (hi:i<l.length) (acc:List (A0 × A0)) (hacc:acc.length<=i) (hoa:∀x∈acc,OkP N x) (r:List (A0 × A0)):∀(d at_:Nat),acc.length - at_<=d ->at_<=acc.length ->H7 ((i+1:Nat):Int) (acc.take at_++a56 (kc N) l[i] (acc.drop at_)) l r ->a45 at_ i acc l r:=by
 have e1:wI ((i:Int)+1)=((i+1:Nat):Int):=by rw [wI,D2 (by omega)]; omega
 have endc:∀at_:Nat,at_<=acc.length ->H7 ((i+1:Nat):Int) (acc.take at_++l[i]::acc.drop at_) l r ->∃y59,l[(i:Int).toNat]? =some y59 /\ 0<=(i:Int) /\ ((0<=(at_:Int) /\ (at_:Int)<=(acc.length:Int) /\ (acc.length:Int)<=(acc.length:Int)) /\ (([y59].length+((acc.take (acc.length:Int).toNat).drop (at_:Int).toNat).length)*256<=140737488355328 /\ ((0<=(0:Int) /\ (0:Int)<=(at_:Int) /\ (at_:Int)<=(acc.length:Int)) /\ ((([]:List (A0 × A0)).length+((acc.take (at_:Int).toNat).drop (0:Int).toNat).length)*256<=140737488355328 /\ (((([]:List (A0 × A0))++((acc.take (at_:Int).toNat).drop (0:Int).toNat)).length+([y59]++((acc.take (acc.length:Int).toNat).drop (at_:Int).toNat)).length)*256<=140737488355328 /\ (H7 (wI ((i:Int)+1)) ((([]:List (A0 × A0))++((acc.take (at_:Int).toNat).drop (0:Int).toNat))++([y59]++((acc.take (acc.length:Int).toNat).drop (at_:Int).toNat))) l r)))))):=by
  intro at_ ha hr
  refine ⟨l[i],by simp,by omega,⟨by omega,by omega,by omega⟩,by simp; omega,⟨by omega,by omega,by omega⟩,by simp; omega,by simp; omega, ?_⟩
  rw [e1]
  simpa using hr
 intro d
 induction d with
 |zero=>
  intro at_ hd ha hr
  have e:at_=acc.length:=by omega
  subst e
  exact a2u _ _ _ _ _ ⟨fun h=>by simp at h,fun _=>endc _ (Nat.le_refl _) (by simpa [a56] using hr)⟩
 |succ d ih=>
  intro at_ hd ha hr
  rcases Nat.lt_or_ge at_ acc.length with hlt|hge
  ·have e2:wI ((at_:Int)+1)=((at_+1:Nat):Int):=by rw [wI,D2 (by omega)]; omega
   have da:acc.drop at_=acc[at_]::acc.drop (at_+1):=List.drop_eq_getElem_cons hlt
   have o1:=hoa _ (List.getElem_mem hlt)
   have o2:=hok _ (List.getElem_mem hi)
   rw [da] at hr
   simp only [a56] at hr
   refine a2u _ _ _ _ _ ⟨fun _=>⟨acc[at_],by simp,by omega,l[i],by simp,by omega,_,b9v N _ _ o1.1 o2.1 o1.2,fun h=> ?_,fun h=> ?_⟩,fun h=>by simp at h; omega⟩
   ·have h':kc N acc[at_] l[i]<0:=by simpa using h
    rw [if_pos h'] at hr
    rw [e2]
    refine ih (at_+1) (by omega) (by omega) ?_
    rw [List.take_succ_eq_append_getElem hlt,List.append_assoc]
    exact hr
   ·have h':¬kc N acc[at_] l[i]<0:=by simpa using h
    rw [if_neg h'] at hr
    have:=endc at_ ha (by rw [da]; exact hr)
    exact this
  ·have e:at_=acc.length:=by omega
   subst e
   exact a2u _ _ _ _ _ ⟨fun h=>by simp at h,fun _=>endc _ (Nat.le_refl _) (by simpa [a56] using hr)⟩
theorem d6s (i:Nat) (hi:i<l.length) (acc:List (A0 × A0)) (hacc:acc.length<=i) (hoa:∀x∈acc,OkP N x) (r:List (A0 × A0)):∀(d j:Nat) (o:Bool),l.length - j<=d ->j<=l.length ->H7 ((i+1:Nat):Int) (if (o&&lone (kc N) l[i] (l.drop j))=true then a56 (kc N) l[i] acc else acc) l r ->Y6 j o i acc l r:=by
 have e1:wI ((i:Int)+1)=((i+1:Nat):Int):=by rw [wI,D2 (by omega)]; omega
 have fin:∀(o:Bool),H7 ((i+1:Nat):Int) (if (o&&lone (kc N) l[i] (l.drop l.length))=true then a56 (kc N) l[i] acc else acc) l r ->Y6 (l.length:Nat) o i acc l r:=by
  intro o hr
  refine a8v _ _ _ _ _ _ ⟨fun h=>by simp at h,fun _=>⟨fun h=> ?_,fun h=> ?_⟩⟩
  ·subst h
   have hr':H7 ((i+1:Nat):Int) (a56 (kc N) l[i] acc) l r:=by simpa [lone] using hr
   have:=e7z hl hok i hi acc hacc hoa r acc.length 0 (by omega) (by omega) (by simpa using hr')
   simpa using this
  ·subst h
   rw [e1]
   simpa using hr
 intro d
 induction d with
 |zero=>
  intro j o hd hj hr
  have e:j=l.length:=by omega
  subst e
  exact fin o hr
 |succ d ih=>
  intro j o hd hj hr
  rcases Nat.lt_or_ge j l.length with hlt|hge
  ·have e2:wI ((j:Int)+1)=((j+1:Nat):Int):=by rw [wI,D2 (by omega)]; omega
   have dl:l.drop j=l[j]::l.drop (j+1):=List.drop_eq_getElem_cons hlt
   have o1:=hok _ (List.getElem_mem hi)
   have o2:=hok _ (List.getElem_mem hlt)
   rw [dl] at hr
   refine a8v _ _ _ _ _ _ ⟨fun _=>⟨fun h=> ?_,fun h=> ?_⟩,fun h=>by simp at h; omega⟩
   ·subst h
    refine ⟨l[i],by simp,by omega,l[j],by simp,by omega,_,b9v N _ _ o1.1 o2.1 o1.2, ?_⟩
    rw [e2]
    refine ih (j+1) _ (by omega) (by omega) ?_
    rw [Bool.true_and,show lone (kc N) l[i] (l[j]::l.drop (j+1))=((kc N l[i] l[j] !=0)&&lone (kc N) l[i] (l.drop (j+1))) from rfl] at hr
    exact hr
   ·subst h
    rw [e2]
    exact ih (j+1) _ (by omega) (by omega) (by simpa using hr)
  ·have e:j=l.length:=by omega
   subst e
   exact fin o hr
theorem d6d:∀(d i:Nat) (acc:List (A0 × A0)),l.length - i<=d ->i<=l.length ->acc.length<=i ->(∀x∈acc,OkP N x) ->H7 i acc l (d7n (kc N) acc (l.drop i)):=by
 intro d
 induction d with
 |zero=>
  intro i acc hd hi ha hoa
  have e:i=l.length:=by omega
  subst e
  exact a22 _ _ _ _ ⟨fun h=>by simp at h,fun _=>by simp [d7n]⟩
 |succ d ih=>
  intro i acc hd hi ha hoa
  rcases Nat.lt_or_ge i l.length with hlt|hge
  ·have e1:wI ((i:Int)+1)=((i+1:Nat):Int):=by rw [wI,D2 (by omega)]; omega
   have dl:l.drop i=l[i]::l.drop (i+1):=List.drop_eq_getElem_cons hlt
   have mem_ins:∀(x:A0 × A0) (m:List (A0 × A0)),∀y∈a56 (kc N) x m,y=x\/y∈m:=by
    intro x m
    induction m with
    |nil=>intro y hy; simp [a56] at hy; exact .inl hy
    |cons z m ihm=>
     intro y hy
     simp only [a56] at hy
     split at hy
     ·rcases List.mem_cons.1 hy with h|h
      ·exact .inr (by rw [h]; simp)
      ·rcases ihm y h with h|h
       ·exact .inl h
       ·exact .inr (by simp [h])
     ·rcases List.mem_cons.1 hy with h|h
      ·exact .inl h
      ·exact .inr h
   refine a22 _ _ _ _ ⟨fun _=> ?_,fun h=>by simp at h; omega⟩
   rw [e1]
   refine d6s hl hok i hlt acc ha hoa _ l.length (i+1) true (by omega) (by omega) ?_
   rw [dl]
   simp only [d7n,Bool.true_and]
   refine ih (i+1) _ (by omega) (by omega) ?_ ?_
   ·split
    ·rw [d3g]; omega
    ·omega
   ·intro y hy
    split at hy
    ·rcases mem_ins _ _ y hy with h|h
     ·rw [h]; exact hok _ (List.getElem_mem hlt)
     ·exact hoa y h
    ·exact hoa y hy
  ·have e:i=l.length:=by omega
   subst e
   exact a22 _ _ _ _ ⟨fun h=>by simp at h,fun _=>by simp [d7n]⟩
theorem e61:b4m l (P8 (kc N) l):=by
 have h:=d6d hl hok l.length 0 [] (by omega) (by omega) (by simp) (fun x hx=>by cases hx)
 rw [List.drop_zero,d3d (b1f (g22 N) fun x:A0 × A0=>x.1),d87] at h
 exact c6b _ _ h
end
section
variable {α:Type} {c:α ->α ->Int}
theorem c4s:∀(l:List α),∀x∈Y0 c l,x∈l
 |[],x,h=>h
 |[y],x,h=>h
 |y::z::l,x,h=>by
  simp only [Y0] at h
  split at h
  ·exact List.mem_cons_of_mem _ (c4s (z::l) x h)
  ·rcases List.mem_cons.1 h with h|h
   ·rw [h]; simp
   ·exact List.mem_cons_of_mem _ (c4s (z::l) x h)
theorem e02 {x:α}:∀{l:List α},(∀w∈l,¬c w x<0) ->a56 c x l=x::l
 |[],_=>rfl
 |y::l,h=>by simp only [a56]; rw [if_neg (h y (by simp))]
theorem d55 (h:Tp c) (x:α):∀(S:List α),S.Pairwise (fun a b=>c a b<=0) ->Y0 c (a56 c x S)=if lone c x S=true then a56 c x (Y0 c S) else Y0 c S
 |[],_=>rfl
 |y::l,hs=>by
  obtain ⟨hy,hl⟩:=List.pairwise_cons.1 hs
  have ih:=d55 h x l hl
  have s1:=h.s x y
  have s2:=h.s y x
  by_cases e:c y x<0
  ·have eI:a56 c x (y::l)=y::a56 c x l:=by simp only [a56]; rw [if_pos e]
   have eL:lone c x (y::l)=lone c x l:=by
    have:c x y≠0:=by omega
    simp [lone,this]
   rw [eI,eL]
   cases l with
   |nil=>
    have:¬c y x=0:=by omega
    simp [a56,Y0,lone,this,e]
   |cons z l=>
    have s3:=h.s z x
    have s4:=h.s x z
    have s5:=h.s y z
    have s6:=h.s z y
    have t1:=h.t x z y
    by_cases e2:c z x<0
    ·have e3:a56 c x (z::l)=z::a56 c x l:=by simp only [a56]; rw [if_pos e2]
     rw [e3] at ih ⊢
     simp only [Y0] at ih ⊢
     rw [ih]
     by_cases e4:c y z=0
     ·rw [if_pos e4,if_pos e4]
     ·rw [if_neg e4,if_neg e4]
      by_cases e5:lone c x (z::l)=true
      ·rw [if_pos e5,if_pos e5]; simp only [a56]; rw [if_pos e]
      ·rw [if_neg e5,if_neg e5]
    ·have e3:a56 c x (z::l)=x::z::l:=by simp only [a56]; rw [if_neg e2]
     rw [e3] at ih ⊢
     have e4:¬c y x=0:=by omega
     have e5:¬c y z=0:=by
      intro e6
      have:=t1 (by omega) (by omega)
      omega
     have e7:Y0 c (y::x::z::l)=y::Y0 c (x::z::l):=by
      rw [Y0,if_neg e4]
     have e8:Y0 c (y::z::l)=y::Y0 c (z::l):=by
      rw [Y0,if_neg e5]
     rw [e7,e8,ih]
     by_cases e9:lone c x (z::l)=true
     ·rw [if_pos e9,if_pos e9]; simp only [a56]; rw [if_pos e]
     ·rw [if_neg e9,if_neg e9]
  ·have eI:a56 c x (y::l)=x::y::l:=by simp only [a56]; rw [if_neg e]
   rw [eI]
   by_cases e0:c x y=0
   ·have:lone c x (y::l)=false:=by simp [lone,e0]
    rw [Y0,if_pos e0,this]
    simp
   ·have hlt:c x y<0:=by omega
    have hz:∀z∈y::l,c x z<0:=by
     intro z hz
     rcases List.mem_cons.1 hz with hz|hz
     ·rw [hz]; exact hlt
     ·have q1:=hy z hz
      have s3:=h.s z x
      have s4:=h.s x z
      have t1:=h.t x y z (by omega) q1
      have t2:=h.t y z x q1
      omega
    have e1:lone c x (y::l)=true:=by
     rw [lone,List.all_eq_true]
     intro z h2
     have:=hz z h2
     simp; omega
    rw [Y0,if_neg e0,if_pos e1,e02]
    intro w hw
    have:=hz w (c4s _ w hw)
    have:=h.s x w
    omega
def sC (c:α ->α ->Int):List α ->List α
 |[]=>[]
 |x::l=>a56 c x (sC c l)
theorem b7h (x:α):∀l,(a56 c x l).Perm (x::l)
 |[]=>.refl _
 |y::l=>by
  simp only [a56]
  split
  ·exact ((b7h x l).cons y).trans (.swap x y l)
  ·exact .refl _
theorem d14:∀l:List α,(sC c l).Perm l
 |[]=>.refl _
 |x::l=>(b7h x _).trans ((d14 l).cons x)
theorem d46 (h:Tp c):∀l:List α,(sC c l).Pairwise (fun a b=>c a b<=0)
 |[]=>.nil
 |x::l=>by
  have key:∀S:List α,S.Pairwise (fun a b=>c a b<=0) ->(a56 c x S).Pairwise (fun a b=>c a b<=0):=by
   intro S
   induction S with
   |nil=>intro _; simp [a56]
   |cons y S ih=>
    intro hs
    obtain ⟨hy,hS⟩:=List.pairwise_cons.1 hs
    simp only [a56]
    split
    ·rename_i e
     refine List.pairwise_cons.2 ⟨fun z hz=> ?_,ih hS⟩
     rcases List.mem_cons.1 ((b7h x S).mem_iff.1 hz) with h2|h2
     ·rw [h2]; omega
     ·exact hy z h2
    ·rename_i e
     have s1:=h.s y x
     have s2:=h.s x y
     have e2:c x y<=0:=by omega
     refine List.pairwise_cons.2 ⟨fun z hz=> ?_,hs⟩
     rcases List.mem_cons.1 hz with h2|h2
     ·rw [h2]; exact e2
     ·exact h.t x y z e2 (hy z h2)
  exact key _ (d46 h l)
theorem e4m {x:α} {l m:List α} (hp:l.Perm m):lone c x l=lone c x m:=by
 unfold lone
 rw [Bool.eq_iff_iff,List.all_eq_true,List.all_eq_true]
 exact ⟨fun h y hy=>h y (hp.mem_iff.2 hy),fun h y hy=>h y (hp.mem_iff.1 hy)⟩
theorem c0b (h:Tp c):∀l:List α,Y0 c (sC c l)=P8 c l
 |[]=>rfl
 |x::l=>by
  rw [sC,d55 h x _ (d46 h l),c0b h l,e4m (d14 l)]
  rfl
def e8l (c:α ->α ->Int) (x:α × Nat):List (α × Nat) ->List (α × Nat)
 |[]=>[x]
 |y::l=>if c y.1 x.1<0 then y::e8l c x l else x::y::l
theorem e7w (x:α × Nat):∀l,fs (e8l c x l)=a56 c x.1 (fs l)
 |[]=>rfl
 |y::l=>by
  simp only [e8l,List.map_cons,a56]
  split
  ·show y.1::fs (e8l c x l)=_
   rw [e7w x l]
  ·rfl
theorem c9x (x:α × Nat):∀l,(e8l c x l).Perm (x::l)
 |[]=>.refl _
 |y::l=>by
  simp only [e8l]
  split
  ·exact ((c9x x l).cons y).trans (.swap x y l)
  ·exact .refl _
theorem d9v (h:Tp c) (x:α × Nat):∀l:List (α × Nat),(∀y∈l,x.2<y.2) ->Srt c l ->Srt c (e8l c x l)
 |[],_,_=>by simp [e8l,Srt]
 |y::l,hx,hs=>by
  obtain ⟨hy,hl⟩:=List.pairwise_cons.1 hs
  simp only [e8l]
  split
  ·rename_i e
   refine List.pairwise_cons.2 ⟨fun z hz=> ?_,d9v h x l (fun y hy=>hx y (by simp [hy])) hl⟩
   rcases List.mem_cons.1 ((c9x x l).mem_iff.1 hz) with h2|h2
   ·rw [h2]; exact .inl e
   ·exact hy z h2
  ·rename_i e
   have s1:=h.s y.1 x.1
   have s2:=h.s x.1 y.1
   have e2:c x.1 y.1<=0:=by omega
   refine List.pairwise_cons.2 ⟨fun z hz=> ?_,hs⟩
   have hxz:=hx z hz
   have:c x.1 z.1<=0:=by
    rcases List.mem_cons.1 hz with h2|h2
    ·rw [h2]; exact e2
    ·have:=hy z h2
     unfold Rt at this
     exact h.t x.1 y.1 z.1 e2 (by omega)
   unfold Rt
   omega
theorem c9a (h:Tp c):∀l:List α,∃T,Srt c T /\ T.Perm (a2r l) /\ fs T=sC c l
 |[]=>⟨[],.nil,by simp [a2r],rfl⟩
 |x::l=>by
  obtain ⟨T,h1,h2,h3⟩:=c9a h l
  have e1:fs (T.map fun p=>(p.1,p.2+1))=fs T:=by simp [fs]
  refine ⟨e8l c (x,0) (T.map fun p=>(p.1,p.2+1)),d9v h _ _ (fun y hy=> ?_) ?_,(c9x _ _).trans ?_, ?_⟩
  ·obtain ⟨p,_,rfl⟩:=List.mem_map.1 hy
   exact Nat.succ_pos _
  ·show List.Pairwise _ _
   rw [List.pairwise_map]
   exact h1.imp fun {a b} hab=>by
    unfold Rt at hab ⊢
    simp only
    omega
  ·have e2:a2r (x::l)=(x,0)::(a2r l).map fun p=>(p.1,p.2+1):=by
    simp [a2r,List.zipIdx_succ]
   rw [e2]
   exact (h2.map _).cons _
  ·rw [e7w,e1,h3]
   rfl
end
theorem f1e (N:Nat) (l:List (A0 × A0)) (hl:l.length*256<=140737488355328) (hok:∀x∈l,OkP N x):b4h l (P8 (kc N) l):=by
 have h:Tp (kc N):=b1f (g22 N) fun x:A0 × A0=>x.1
 obtain ⟨S,h1,h2⟩:=e9r N l hl hok
 obtain ⟨T,q1,q2,q3⟩:=c9a h l
 have e:S=sC (kc N) l:=by
  rw [<-q3]
  exact c7j.one (Dm:=fun _=>True) h (fun _ _=>trivial) h1 ⟨T,q1,q2,rfl⟩
 rw [e,c0b h] at h2
 exact h2
theorem e7e (N:Nat) (l:List (A0 × A0)) (hl:l.length*256<=140737488355328) (hok:∀x∈l,OkP N x):b4m l (P8 (kc N) l):=e61 hl hok
abbrev kn (x y:Int × A0):Int:=a3p x.1 y.1
theorem f1d:Tp kn:=b1f f00 fun x:Int × A0=>x.1
theorem e8d:∀l:List (Int × A0),c59 l=Y0 kn l
 |[]=>rfl
 |[x]=>rfl
 |x::y::l=>by
  simp only [c59,Y0]
  rw [e8d (y::l)]
  have h:=d3j (x:=x.1) (y:=y.1)
  by_cases e:x.1=y.1
  ·rw [if_pos e,if_pos (by simp only [kn]; omega)]
  ·rw [if_neg e,if_neg (by simp only [kn]; omega)]
theorem e2i (l:List (Int × A0)) (hl:l.length*136<=140737488355328):a99 l (P8 kn l):=by
 obtain ⟨S,h1,h2⟩:=f1g l hl
 obtain ⟨T,q1,q2,q3⟩:=c9a f1d l
 have e:S=sC kn l:=by
  rw [<-q3]
  exact c7j.one (Dm:=fun _=>True) f1d (fun _ _=>trivial) h1 ⟨T,q1,q2,rfl⟩
 rw [e,e8d,c0b f1d] at h2
 exact h2
abbrev kr (x y:P6):Int:=a3p x.Num y.Num
def op0:GOp:=⟨0,⟨#[]⟩,⟨#[]⟩,0,0,0,0,0⟩
def opL (num:Int):List GOp ->GOp × Bool
 |[]=>(op0,false)
 |o::l=>if (o.Num==num)=true then (o,true) else opL num l
def opV (g:C1) (num:Int):GOp × Bool:=opL num g.Ops
theorem f7u (g:C1) (hg:g.Ops.length<=140737488351232) (num:Int):∀(d i:Nat),g.Ops.length - i<=d ->i<=g.Ops.length ->∃k:Int,P4 i g.Ops (⟨161,[],[.elt [.v (.int .i64 num)] 0],by simp [plainL,plain]⟩:GFn) k /\ ((k<0 /\ opL num (g.Ops.drop i)=(op0,false))\/∃o,0<=k /\ g.Ops[k.toNat]? =some o /\ opL num (g.Ops.drop i)=(o,true)):=by
 intro d
 induction d with
 |zero=>
  intro i hd hi
  refine ⟨-1,K0 _ _ _ _ ⟨fun h=>by simp at h; omega,fun _=>rfl⟩,.inl ⟨by omega, ?_⟩⟩
  rw [List.drop_eq_nil_of_le (by omega)]; rfl
 |succ d ih=>
  intro i hd hi
  rcases Nat.lt_or_ge i g.Ops.length with hlt|hge
  ·have e1:wI ((i:Int)+1)=((i+1:Nat):Int):=by rw [wI,D2 (by omega)]; omega
   have dl:g.Ops.drop i=g.Ops[i]::g.Ops.drop (i+1):=List.drop_eq_getElem_cons hlt
   have hc:=d2p g.Ops[i] num _ (d0b _ _ _ rfl)
   by_cases e:(g.Ops[i].Num==num)=true
   ·refine ⟨i,K0 _ _ _ _ ⟨fun _=>⟨g.Ops[i],by simp,by omega,_,hc,fun _=>rfl,fun h=> ?_⟩,fun h=>by simp at h; omega⟩,.inr ⟨g.Ops[i],by omega,by simp, ?_⟩⟩
    ·rw [h] at e; cases e
    ·rw [dl,opL,if_pos e]
   ·obtain ⟨k,h1,h2⟩:=ih (i+1) (by omega) (by omega)
    refine ⟨k,K0 _ _ _ _ ⟨fun _=>⟨g.Ops[i],by simp,by omega,_,hc,fun h=>(e h).elim,fun _=>by rw [e1]; exact h1⟩,fun h=>by simp at h; omega⟩, ?_⟩
    rw [dl,opL,if_neg e]
    exact h2
  ·refine ⟨-1,K0 _ _ _ _ ⟨fun h=>by simp at h; omega,fun _=>rfl⟩,.inl ⟨by omega, ?_⟩⟩
   rw [List.drop_eq_nil_of_le hge]; rfl
theorem f11 (g:C1) (hg:g.Ops.length<=140737488351232) (num:Int):c3p g num (opV g num):=by
 obtain ⟨k,h1,h2⟩:=f7u g hg num g.Ops.length 0 (by omega) (by omega)
 rw [List.drop_zero] at h2
 refine d4b _ _ _ ⟨_,b83 _ _ _ ⟨k,a9d _ _ _ h1,fun h=> ?_,fun h=> ?_⟩,rfl⟩
 ·rcases h2 with ⟨_,e⟩|⟨o,q1,_⟩
  ·exact e
  ·simp at h; omega
 ·rcases h2 with ⟨q,_⟩|⟨o,q1,q2,e⟩
  ·simp at h; omega
  ·exact ⟨o,q2,q1,e⟩
theorem d9n (g:C1) (hg:g.Ops.length<=140737488351232) (num:Int):b76 g num (opV g num):=by
 have key:∀(d i:Nat),g.Ops.length - i<=d ->i<=g.Ops.length ->b4r i num g (opL num (g.Ops.drop i)):=by
  intro d
  induction d with
  |zero=>
   intro i hd hi
   exact a8m _ _ _ _ ⟨fun h=>by simp at h; omega,fun _=>by rw [List.drop_eq_nil_of_le (by omega)]; rfl⟩
  |succ d ih=>
   intro i hd hi
   rcases Nat.lt_or_ge i g.Ops.length with hlt|hge
   ·have e1:wI ((i:Int)+1)=((i+1:Nat):Int):=by rw [wI,D2 (by omega)]; omega
    have dl:g.Ops.drop i=g.Ops[i]::g.Ops.drop (i+1):=List.drop_eq_getElem_cons hlt
    refine a8m _ _ _ _ ⟨fun _=>⟨g.Ops[i],by simp,by omega,fun h=>⟨g.Ops[i],by simp,by omega, ?_⟩,fun h=> ?_⟩,fun h=>by simp at h; omega⟩
    ·rw [dl,opL,if_pos h]
    ·rw [dl,opL,if_neg (nt h),e1]
     exact ih (i+1) (by omega) (by omega)
   ·exact a8m _ _ _ _ ⟨fun h=>by simp at h; omega,fun _=>by rw [List.drop_eq_nil_of_le hge]; rfl⟩
 have:=key g.Ops.length 0 (by omega) (by omega)
 exact d20 _ _ _ (by simpa [opV] using this)
structure OkC (c:a6s):Prop where
 sz:c.Data.size<=140737488351232
 a0: -9223372036854775808<=c.At
 a1:c.At<=9223372036854775807
def f4i (c:a6s):ByteArray:=c.Data.extract c.At.toNat (c.At.toNat+(d71 c.Data c.At c.End).toNat)
theorem e2e (c:a6s):((f4i c).size:Int)=d71 c.Data c.At c.End:=by
 unfold f4i
 unfold d71
 split
 ·rename_i h; simp only [e4c,decide_eq_true_eq] at h
  rw [b36 _ (by omega)]; omega
 ·rw [show c.At.toNat+(0:Int).toNat=c.At.toNat from rfl,f0p]; rfl
def tk (x:Nat × Nat × Nat):Int × Int × Int:=(x.1,x.2.1,x.2.2)
theorem OkC.rest {c:a6s} (hc:OkC c):(f4i c).size<=140737488351232:=by
 have h1:=e2e c
 have:=hc.sz
 rcases Int.lt_or_le 0 (d71 c.Data c.At c.End) with h|h
 ·obtain ⟨h1,h2,h3,h4⟩:=e2d h; omega
 ·omega
theorem h0o {i:Nat} (h:i<=7):(2:Int) ^ min (wI (8*(i:Int))).toNat IntKind.u64.bits=((256 ^ i:Nat):Int) /\ 0<=wI (8*(i:Int)):=by
 have:i=0\/i=1\/i=2\/i=3\/i=4\/i=5\/i=6\/i=7:=by omega
 rcases this with rfl|rfl|rfl|rfl|rfl|rfl|rfl|rfl<;>decide+kernel
theorem a90 (s:ByteArray):(bI s).length=s.size:=by simp [bI]
def ofI (l:List Int):ByteArray:=⟨(l.map fun n=>UInt8.ofNat n.toNat).toArray⟩
def c44 (l:List Int):Prop:=∀x∈l,0<=x /\ x<256
theorem c5b {l:List Int} (h:c44 l):l=bI (ofI l):=by
 simp only [bI,ofI,List.map_map]
 symm
 conv=>rhs; rw [<-List.map_id l]
 refine List.map_congr_left fun x hx=> ?_
 have:=h x hx
 simp only [Function.comp,id]
 rw [UInt8.toNat_ofNat_of_lt' (show x.toNat<UInt8.size by simp [UInt8.size]; omega)]
 omega
theorem a9w {a b:List Int} (ha:c44 a) (hb:c44 b):c44 (a++b):=fun x hx=>(List.mem_append.1 hx).elim (ha x) (hb x)
theorem a4v {x:Int} (h:0<=x /\ x<256):c44 [x]:=fun y hy=>by simp at hy; subst hy; exact h
def e1y (u:Nat):List Int:=if u<128 then [(u:Int)] else ((u % 128+128:Nat):Int)::e1y (u / 128)
 termination_by u
def c3q (u:Nat):ByteArray:=ofI (e1y u)
theorem g42 (c:Nat) (h:c<256):I0 .or .u8 (c:Int) 128=((c % 128+128:Nat):Int):=by
 have:∀c:Fin 256,I0 .or .u8 ((c.val:Nat):Int) 128=((c.val % 128+128:Nat):Int):=by decide+kernel
 exact this ⟨c,h⟩
theorem d5j (u:Nat):IntKind.u8.wrap (u:Int)=((u % 256:Nat):Int):=by simp [IntKind.wrap,IntKind.signed,IntKind.bits]
theorem h04 (u:Nat):(u:Int).fdiv (2 ^ min (7:Int).toNat IntKind.u64.bits)=((u / 128:Nat):Int):=by
 rw [show (2:Int) ^ min (7:Int).toNat IntKind.u64.bits=((128:Nat):Int) by decide+kernel]
 rw [Int.fdiv_eq_ediv_of_nonneg _ (by omega)]; rfl
theorem g5h:∀(k u:Nat) (l:List Int),u<128 ^ k ->c44 l ->l.length+k<=1000 ->a9l l u (ofI (l++e1y u)):=by
 intro k
 induction k with
 |zero=>
  intro u l hu hl hk
  have:u=0:=by simpa using hu
  subst this
  refine b1o _ _ _ ⟨fun h=>by simp at h,fun _=>⟨by simp; omega,_, ?_,rfl⟩⟩
  rw [d5j,e1y,if_pos (by omega)]
  exact c5b (a9w hl (a4v (by omega)))
 |succ k ih=>
  intro u l hu hl hk
  refine b1o _ _ _ ⟨fun h=>⟨by simp; omega, ?_⟩,fun h=>⟨by simp; omega,_, ?_,rfl⟩⟩
  ·simp only [decide_eq_true_eq] at h
   rw [d5j,g42 _ (by omega),h04]
   have:=ih (u / 128) (l++[((u % 128+128:Nat):Int)]) (by rw [Nat.pow_succ] at hu; omega) (a9w hl (a4v (by omega))) (by simp; omega)
   rw [List.append_assoc] at this
   rw [e1y,if_neg (by omega)]
   have e:u % 256 % 128=u % 128:=by omega
   rw [e]
   exact this
  ·simp only [decide_eq_false_iff_not] at h
   rw [d5j,e1y,if_pos (by omega)]
   have e:u % 256=u:=by omega
   rw [e]
   exact c5b (a9w hl (a4v (by omega)))
theorem d45 (u:Nat) (hu:u<18446744073709551616):a2i u (c3q u):=c89 _ _ (g5h 10 u [] (by omega) (fun x hx=>by cases hx) (by decide))
theorem g2o:∀(k u:Nat) (l:List Int),u<18446744073709551616 ->u<128 ^ k ->c44 l ->l.length+k<=1000 ->b13 l u (ofI (l++e1y u)):=by
 intro k
 induction k with
 |zero=>
  intro u l h64 hu hl hk
  have:u=0:=by simpa using hu
  subst this
  refine b3p _ _ _ ⟨fun h=>by simp at h,fun _=>⟨by simp; omega,_, ?_,rfl⟩⟩
  rw [d5j,e1y,if_pos (by omega)]
  exact c5b (a9w hl (a4v (by omega)))
 |succ k ih=>
  intro u l h64 hu hl hk
  refine b3p _ _ _ ⟨fun h=>⟨by simp; omega, ?_⟩,fun h=>⟨by simp; omega,_, ?_,rfl⟩⟩
  ·simp only [decide_eq_true_eq] at h
   have e1:wU ((u:Int).tmod 128+128)=((u % 128+128:Nat):Int):=by
    have:(u:Int).tmod 128=((u % 128:Nat):Int):=rfl
    rw [this,wU,b0n (by omega)]; omega
   have e2:wU ((u:Int).tdiv 128)=((u / 128:Nat):Int):=by
    have:(u:Int).tdiv 128=((u / 128:Nat):Int):=rfl
    rw [this,wU,b0n (by omega)]
   rw [e1,e2,d5j]
   have:=ih (u / 128) (l++[((u % 128+128:Nat):Int)]) (by omega) (by rw [Nat.pow_succ] at hu; omega) (a9w hl (a4v (by omega))) (by simp; omega)
   rw [List.append_assoc] at this
   rw [e1y,if_neg (by omega)]
   have e:(u % 128+128) % 256=u % 128+128:=by omega
   rw [e]
   exact this
  ·simp only [decide_eq_false_iff_not] at h
   rw [d5j,e1y,if_pos (by omega)]
   have e:u % 256=u:=by omega
   rw [e]
   exact c5b (a9w hl (a4v (by omega)))
theorem c78 (u:Nat) (hu:u<18446744073709551616):a49 u (c3q u):=d0i _ _ (g2o 10 u [] hu (by omega) (fun x hx=>by cases hx) (by decide))
theorem d10 (l:List Int):(ofI l).size=l.length:=by simp [ofI,ByteArray.size]
def e8k (n:Int):Nat:=if 0<=n then (2*n).toNat else (-2*n - 1).toNat
theorem f4d {n:Int} (h: -9223372036854775808<=n /\ n<0):wU n=n+18446744073709551616:=by simp [wU,IntKind.wrap,IntKind.signed,IntKind.bits]; omega
theorem g1i (n:Int) (h: -9223372036854775808<=n /\ n<=9223372036854775807):c36 n (e8k n):=by
 refine c8w _ _ ?_
 rw [show (2:Int) ^ min (1:Int).toNat IntKind.u64.bits=2 by decide+kernel,show (2:Int) ^ min (63:Int).toNat IntKind.i64.bits=9223372036854775808 by decide+kernel,Int.fdiv_eq_ediv_of_nonneg _ (by omega)]
 unfold e8k
 rcases Int.lt_or_le n 0 with hn|hn
 ·rw [if_neg (by omega)]
  have e1:n / 9223372036854775808= -1:=by omega
  have e2:wU (-1)=18446744073709551615:=by decide+kernel
  have e3:wU n=n+18446744073709551616:=f4d ⟨h.1,hn⟩
  have e4:wU ((n+18446744073709551616)*2)=(((n+9223372036854775808)*2).toNat:Int):=by
   simp [wU,IntKind.wrap,IntKind.signed,IntKind.bits]; omega
  rw [e1,e2,e3,e4,c5a _ (by omega)]
  omega
 ·rw [if_pos hn]
  have e1:n / 9223372036854775808=0:=by omega
  have e2:wU 0=0:=by decide+kernel
  have e3:wU n=n:=b0n (by omega)
  have e4:wU (n*2)=((2*n).toNat:Int):=by rw [wU,b0n (by omega)]; omega
  rw [e1,e2,e3,e4,d30 _ (by omega)]
theorem f40 (n:Int) (h: -9223372036854775808<=n /\ n<=9223372036854775807):c9y n (e8k n):=by
 refine d0p _ _ ⟨fun hh=> ?_,fun hh=> ?_⟩
 ·simp only [decide_eq_true_eq] at hh
  have e3:wU n=n:=b0n (by omega)
  rw [e8k,if_pos hh,e3,wU,b0n (by omega)]; omega
 ·simp only [decide_eq_false_iff_not] at hh
  have e1:wI (n+1)=n+1:=D2 (by omega)
  have e2:wI (0 - (n+1))=0 - (n+1):=D2 (by omega)
  have e3:wU (0 - (n+1))=0 - (n+1):=b0n (by omega)
  have e4:wU (2*(0 - (n+1)))=2*(0 - (n+1)):=b0n (by omega)
  rw [e8k,if_neg hh,e1,e2,e3,e4,wU,b0n (by omega)]; omega
def a40 (v:A0):A0:=if v.Kind=6 /\ f2c v.Bits.toNat=0 then ⟨v.Kind,9221120237041090560,v.Text,v.List_,v.Pairs,v.Slots,v.Raws⟩ else v
theorem d6f (v:A0) (hb:0<=v.Bits /\ v.Bits<18446744073709551616):a92 v (a40 v):=by
 have hz:v.Bits=(v.Bits.toNat:Int):=by omega
 have hc:=d94 v.Bits.toNat (by omega)
 rw [<-hz] at hc
 refine c51 _ _ ⟨fun h=>⟨_,hc,fun h2=> ?_,fun h2=> ?_⟩,fun h=> ?_⟩
 all_goals simp only [beq_iff_eq,beq_eq_false_iff_ne] at*
 ·rw [a40,if_pos ⟨h,by omega⟩]
 ·rw [a40,if_neg (by omega)]
 ·rw [a40,if_neg (by omega)]
theorem d16 (v:A0) (hb:0<=v.Bits /\ v.Bits<18446744073709551616):b3q v (a40 v):=by
 have hz:v.Bits=(v.Bits.toNat:Int):=by omega
 have hc:=d43 v.Bits.toNat (by omega)
 rw [<-hz] at hc
 refine c8h _ _ ⟨fun h=>⟨_,hc,fun h2=> ?_,fun h2=> ?_⟩,fun h=> ?_⟩
 all_goals simp only [beq_iff_eq,beq_eq_false_iff_ne] at*
 ·rw [a40,if_pos ⟨h,by omega⟩]
 ·rw [a40,if_neg (by omega)]
 ·rw [a40,if_neg (by omega)]
def d7a (u:Nat) (n:Nat):List Int:=(List.range n).map fun i=>((u / 256 ^ i % 256:Nat):Int)
theorem d1c (u n:Nat):c44 (d7a u n):=fun x hx=>by
 obtain ⟨i,_,rfl⟩:=List.mem_map.1 hx
 omega
theorem d41 (u n:Nat):d7a u (n+1)=d7a u n++[((u / 256 ^ n % 256:Nat):Int)]:=by simp [d7a,List.range_succ]
def e8g (u:Nat):ByteArray:=ofI (d7a u 8)
theorem f0c (u:Nat):∀n i:Nat,8 - i=n ->i<=8 ->a5b i u (d7a u i++List.replicate (8 - i) 0) (e8g u):=by
 intro n
 induction n with
 |zero=>
  intro i h1 h2
  have:i=8:=by omega
  subst this
  refine a8u _ _ _ _ ⟨fun h=>by simp at h,fun _=>⟨by simp [d7a],_, ?_,rfl⟩⟩
  simp only [Nat.sub_self,List.replicate_zero,List.append_nil]
  exact c5b (d1c u 8)
 |succ n ih=>
  intro i h1 h2
  obtain ⟨hp,h0⟩:=h0o (show i<=7 by omega)
  have hn:((i:Int)).toNat=i:=by omega
  have hl:(d7a u i).length=i:=by simp [d7a]
  refine a8u _ _ _ _ ⟨fun _=>⟨h0,⟨by omega,by omega⟩,by simp [hl]; omega, ?_⟩,fun h=>by simp at h; omega⟩
  have e1:(u:Int).fdiv ((256 ^ i:Nat):Int)=((u / 256 ^ i:Nat):Int):=by
   rw [Int.fdiv_eq_ediv_of_nonneg _ (Int.natCast_nonneg _)]; rfl
  rw [hp,e1,d5j,hn,wI,D2 (by omega)]
  have:=ih (i+1) (by omega) (by omega)
  rw [d41] at this
  have e2:(d7a u i++List.replicate (8 - i) (0:Int)).set i ((u / 256 ^ i % 256:Nat):Int)=d7a u i++[((u / 256 ^ i % 256:Nat):Int)]++List.replicate (8 - (i+1)) 0:=by
   rw [List.set_append_right _ _ (by omega),hl,Nat.sub_self,show 8 - i=(8 - (i+1))+1 by omega,List.replicate_succ,List.set_cons_zero,List.append_assoc]
   rfl
  rw [e2]
  exact this
theorem e7i (u:Nat):b5t u (e8g u):=c4b _ _ ⟨by omega,f0c u 8 0 rfl (by omega)⟩
theorem e5k (u:Nat) (hu:u<18446744073709551616):∀n i:Nat,8 - i=n ->i<=8 ->a7b i (d7a u i) ((u / 256 ^ i:Nat):Int) (e8g u):=by
 intro n
 induction n with
 |zero=>
  intro i h1 h2
  have:i=8:=by omega
  subst this
  exact b0g _ _ _ _ ⟨fun h=>by simp at h,fun _=>⟨_,c5b (d1c u 8),rfl⟩⟩
 |succ n ih=>
  intro i h1 h2
  have hl:(d7a u i).length=i:=by simp [d7a]
  refine b0g _ _ _ _ ⟨fun _=>⟨by simp [hl]; omega, ?_⟩,fun h=>by simp at h; omega⟩
  have e1:(((u / 256 ^ i:Nat):Int)).tmod 256=((u / 256 ^ i % 256:Nat):Int):=rfl
  have e2:(((u / 256 ^ i:Nat):Int)).tdiv 256=((u / 256 ^ i / 256:Nat):Int):=rfl
  have hle:u / 256 ^ i<=u:=Nat.div_le_self _ _
  have e3:u / 256 ^ i / 256=u / 256 ^ (i+1):=by rw [Nat.div_div_eq_div_mul,Nat.pow_succ]
  have e4:wU ((u / 256 ^ (i+1):Nat):Int)=((u / 256 ^ (i+1):Nat):Int):=by
   have h5:=Nat.div_le_self u (256 ^ (i+1))
   generalize u / 256 ^ (i+1)=q at h5
   exact b0n (by omega)
  rw [e1,e2,e3,e4,d5j,Nat.mod_mod,wI,D2 (by omega)]
  have:=ih (i+1) (by omega) (by omega)
  rw [d41] at this
  exact this
theorem e08 (u:Nat) (hu:u<18446744073709551616):b88 u (e8g u):=by
 have:=e5k u hu 8 0 rfl (by omega)
 simp only [Nat.pow_zero,Nat.div_one] at this
 exact c5j _ _ this
def a0e (n b0 b1 b2 b3:Nat):Nat:=
 if b0<128 then 1
 else if (194<=b0 /\ b0<=223) /\ (1<n /\ 128<=b1 /\ b1<=191) then 2
 else if b0=224 /\ (1<n /\ 160<=b1 /\ b1<=191) /\ (2<n /\ 128<=b2 /\ b2<=191) then 3
 else if b0=237 /\ (1<n /\ 128<=b1 /\ b1<=159) /\ (2<n /\ 128<=b2 /\ b2<=191) then 3
 else if (225<=b0 /\ b0<=239 /\ b0≠237) /\ (1<n /\ 128<=b1 /\ b1<=191) /\ (2<n /\ 128<=b2 /\ b2<=191) then 3
 else if b0=240 /\ (1<n /\ 144<=b1 /\ b1<=191) /\ (2<n /\ 128<=b2 /\ b2<=191) /\ (3<n /\ 128<=b3 /\ b3<=191) then 4
 else if (241<=b0 /\ b0<=243) /\ (1<n /\ 128<=b1 /\ b1<=191) /\ (2<n /\ 128<=b2 /\ b2<=191) /\ (3<n /\ 128<=b3 /\ b3<=191) then 4
 else if b0=244 /\ (1<n /\ 128<=b1 /\ b1<=143) /\ (2<n /\ 128<=b2 /\ b2<=191) /\ (3<n /\ 128<=b3 /\ b3<=191) then 4
 else 0
theorem e9b (n b0 b1 b2 b3:Nat) (hn:1<=n):a0e n b0 b1 b2 b3<=n:=by
 unfold a0e
 repeat' split
 all_goals omega
def okN (n b0 b1 b2:Nat) (x:Nat × Nat):Nat:=if x.1=65533 /\ ¬(2<n /\ b0=239 /\ b1=191 /\ b2=189) then 0 else x.2
theorem b6c {n b0 b1 b2 k:Nat} (h:¬(2<n /\ b0=239 /\ b1=191 /\ b2=189)):okN n b0 b1 b2 (65533,k)=0:=by unfold okN; rw [if_pos ⟨rfl,h⟩]
theorem b2h {n b0 b1 b2 c k:Nat} (h:c≠65533\/(2<n /\ b0=239 /\ b1=191 /\ b2=189)):okN n b0 b1 b2 (c,k)=k:=by
 unfold okN; rw [if_neg]; intro ⟨h1,h2⟩; rcases h with h|h
 ·exact h h1
 ·exact h2 h
theorem g34 (n b0 b1 b2 b3:Nat) (hb:194<=b0 /\ b0<=223) (h1:b1<256):a0e n b0 b1 b2 b3=okN n b0 b1 b2 (Lib.decodeN n b0 b1 b2 b3):=by
 by_cases h:1<n /\ 128<=b1 /\ b1<=191
 ·have e1:a0e n b0 b1 b2 b3=2:=by unfold a0e; rw [if_neg (by omega),if_pos (by omega)]
  have e2:Lib.decodeN n b0 b1 b2 b3=(b0 % 32*64+b1 % 64,2):=by unfold Lib.decodeN; rw [if_neg (by omega),if_pos (by omega),if_pos (by omega)]
  rw [e1,e2,b2h (by omega)]
 ·have e1:a0e n b0 b1 b2 b3=0:=by unfold a0e; rw [if_neg (by omega),if_neg (by omega),if_neg (by omega),if_neg (by omega),if_neg (by omega),if_neg (by omega),if_neg (by omega),if_neg (by omega)]
  have e2:Lib.decodeN n b0 b1 b2 b3=(65533,1):=by unfold Lib.decodeN; rw [if_neg (by omega),if_neg (by omega),if_neg (by omega),if_neg (by omega)]
  rw [e1,e2,b6c (by omega)]
theorem g0r (n b0 b1 b2 b3:Nat) (hb:(128<=b0 /\ b0<194)\/245<=b0) (h0:b0<256):a0e n b0 b1 b2 b3=okN n b0 b1 b2 (Lib.decodeN n b0 b1 b2 b3):=by
 have e:Lib.decodeN n b0 b1 b2 b3=(65533,1):=by
  unfold Lib.decodeN
  rw [if_neg (by omega)]
  by_cases c1:b0 / 32=6 /\ (1<n /\ b1 / 64=2)
  ·rw [if_pos c1,if_neg (by omega)]
  ·rw [if_neg c1,if_neg (by omega)]
   by_cases c2:b0 / 8=30 /\ (1<n /\ b1 / 64=2) /\ (2<n /\ b2 / 64=2) /\ (3<n /\ b3 / 64=2)
   ·rw [if_pos c2,if_neg (by omega)]
   ·rw [if_neg c2]
 rw [e,b6c (by omega)]
 unfold a0e
 rw [if_neg (by omega),if_neg (by omega),if_neg (by omega),if_neg (by omega),if_neg (by omega),if_neg (by omega),if_neg (by omega),if_neg (by omega)]
theorem g5g (n b0 b1 b2 b3:Nat) (hb:224<=b0 /\ b0<=239) (h1:b1<256) (h2:b2<256):a0e n b0 b1 b2 b3=okN n b0 b1 b2 (Lib.decodeN n b0 b1 b2 b3):=by
 by_cases c:(1<n /\ b1 / 64=2) /\ (2<n /\ b2 / 64=2)
 ·by_cases d0:b0=224
  ·by_cases d1:160<=b1
   ·have e1:a0e n b0 b1 b2 b3=3:=by unfold a0e; rw [if_neg (by omega),if_neg (by omega),if_pos (by omega)]
    have e2:Lib.decodeN n b0 b1 b2 b3=(b0 % 16*4096+b1 % 64*64+b2 % 64,3):=by unfold Lib.decodeN; rw [if_neg (by omega),if_neg (by omega),if_pos (by omega),if_pos (by omega)]
    rw [e1,e2,b2h (by omega)]
   ·have e1:a0e n b0 b1 b2 b3=0:=by unfold a0e; rw [if_neg (by omega),if_neg (by omega),if_neg (by omega),if_neg (by omega),if_neg (by omega),if_neg (by omega),if_neg (by omega),if_neg (by omega)]
    have e2:Lib.decodeN n b0 b1 b2 b3=(65533,1):=by unfold Lib.decodeN; rw [if_neg (by omega),if_neg (by omega),if_pos (by omega),if_neg (by omega)]
    rw [e1,e2,b6c (by omega)]
  ·by_cases d2:b0=237
   ·by_cases d3:b1<=159
    ·have e1:a0e n b0 b1 b2 b3=3:=by unfold a0e; rw [if_neg (by omega),if_neg (by omega),if_neg (by omega),if_pos (by omega)]
     have e2:Lib.decodeN n b0 b1 b2 b3=(b0 % 16*4096+b1 % 64*64+b2 % 64,3):=by unfold Lib.decodeN; rw [if_neg (by omega),if_neg (by omega),if_pos (by omega),if_pos (by omega)]
     rw [e1,e2,b2h (by omega)]
    ·have e1:a0e n b0 b1 b2 b3=0:=by unfold a0e; rw [if_neg (by omega),if_neg (by omega),if_neg (by omega),if_neg (by omega),if_neg (by omega),if_neg (by omega),if_neg (by omega),if_neg (by omega)]
     have e2:Lib.decodeN n b0 b1 b2 b3=(65533,1):=by unfold Lib.decodeN; rw [if_neg (by omega),if_neg (by omega),if_pos (by omega),if_neg (by omega)]
     rw [e1,e2,b6c (by omega)]
   ·have e1:a0e n b0 b1 b2 b3=3:=by unfold a0e; rw [if_neg (by omega),if_neg (by omega),if_neg (by omega),if_neg (by omega),if_pos (by omega)]
    have e2:Lib.decodeN n b0 b1 b2 b3=(b0 % 16*4096+b1 % 64*64+b2 % 64,3):=by unfold Lib.decodeN; rw [if_neg (by omega),if_neg (by omega),if_pos (by omega),if_pos (by omega)]
    rw [e1,e2,b2h (by omega)]
 ·have e1:a0e n b0 b1 b2 b3=0:=by unfold a0e; rw [if_neg (by omega),if_neg (by omega),if_neg (by omega),if_neg (by omega),if_neg (by omega),if_neg (by omega),if_neg (by omega),if_neg (by omega)]
  have e2:Lib.decodeN n b0 b1 b2 b3=(65533,1):=by unfold Lib.decodeN; rw [if_neg (by omega),if_neg (by omega),if_neg (by omega),if_neg (by omega)]
  rw [e1,e2,b6c (by omega)]
theorem g6m (n b0 b1 b2 b3:Nat) (hb:240<=b0 /\ b0<=244) (h1:b1<256) (h2:b2<256) (h3:b3<256):a0e n b0 b1 b2 b3=okN n b0 b1 b2 (Lib.decodeN n b0 b1 b2 b3):=by
 by_cases c:(1<n /\ b1 / 64=2) /\ (2<n /\ b2 / 64=2) /\ (3<n /\ b3 / 64=2)
 ·by_cases d0:b0=240
  ·by_cases d1:144<=b1
   ·have e1:a0e n b0 b1 b2 b3=4:=by unfold a0e; rw [if_neg (by omega),if_neg (by omega),if_neg (by omega),if_neg (by omega),if_neg (by omega),if_pos (by omega)]
    have e2:Lib.decodeN n b0 b1 b2 b3=(b0 % 8*262144+b1 % 64*4096+b2 % 64*64+b3 % 64,4):=by unfold Lib.decodeN; rw [if_neg (by omega),if_neg (by omega),if_neg (by omega),if_pos (by omega),if_pos (by omega)]
    rw [e1,e2,b2h (by omega)]
   ·have e1:a0e n b0 b1 b2 b3=0:=by unfold a0e; rw [if_neg (by omega),if_neg (by omega),if_neg (by omega),if_neg (by omega),if_neg (by omega),if_neg (by omega),if_neg (by omega),if_neg (by omega)]
    have e2:Lib.decodeN n b0 b1 b2 b3=(65533,1):=by unfold Lib.decodeN; rw [if_neg (by omega),if_neg (by omega),if_neg (by omega),if_pos (by omega),if_neg (by omega)]
    rw [e1,e2,b6c (by omega)]
  ·by_cases d2:b0=244
   ·by_cases d3:b1<=143
    ·have e1:a0e n b0 b1 b2 b3=4:=by unfold a0e; rw [if_neg (by omega),if_neg (by omega),if_neg (by omega),if_neg (by omega),if_neg (by omega),if_neg (by omega),if_neg (by omega),if_pos (by omega)]
     have e2:Lib.decodeN n b0 b1 b2 b3=(b0 % 8*262144+b1 % 64*4096+b2 % 64*64+b3 % 64,4):=by unfold Lib.decodeN; rw [if_neg (by omega),if_neg (by omega),if_neg (by omega),if_pos (by omega),if_pos (by omega)]
     rw [e1,e2,b2h (by omega)]
    ·have e1:a0e n b0 b1 b2 b3=0:=by unfold a0e; rw [if_neg (by omega),if_neg (by omega),if_neg (by omega),if_neg (by omega),if_neg (by omega),if_neg (by omega),if_neg (by omega),if_neg (by omega)]
     have e2:Lib.decodeN n b0 b1 b2 b3=(65533,1):=by unfold Lib.decodeN; rw [if_neg (by omega),if_neg (by omega),if_neg (by omega),if_pos (by omega),if_neg (by omega)]
     rw [e1,e2,b6c (by omega)]
   ·have e1:a0e n b0 b1 b2 b3=4:=by unfold a0e; rw [if_neg (by omega),if_neg (by omega),if_neg (by omega),if_neg (by omega),if_neg (by omega),if_neg (by omega),if_pos (by omega)]
    have e2:Lib.decodeN n b0 b1 b2 b3=(b0 % 8*262144+b1 % 64*4096+b2 % 64*64+b3 % 64,4):=by unfold Lib.decodeN; rw [if_neg (by omega),if_neg (by omega),if_neg (by omega),if_pos (by omega),if_pos (by omega)]
    rw [e1,e2,b2h (by omega)]
 ·have e1:a0e n b0 b1 b2 b3=0:=by unfold a0e; rw [if_neg (by omega),if_neg (by omega),if_neg (by omega),if_neg (by omega),if_neg (by omega),if_neg (by omega),if_neg (by omega),if_neg (by omega)]
  have e2:Lib.decodeN n b0 b1 b2 b3=(65533,1):=by unfold Lib.decodeN; rw [if_neg (by omega),if_neg (by omega),if_neg (by omega),if_neg (by omega)]
  rw [e1,e2,b6c (by omega)]
theorem d4s (n b0 b1 b2 b3:Nat) (h0:b0<256) (h1:b1<256) (h2:b2<256) (h3:b3<256):
  a0e n b0 b1 b2 b3=if (Lib.decodeN n b0 b1 b2 b3).1=65533 /\ ¬(2<n /\ b0=239 /\ b1=191 /\ b2=189) then 0 else (Lib.decodeN n b0 b1 b2 b3).2:=by
 show _=okN n b0 b1 b2 _
 by_cases c0:b0<128
 ·unfold a0e Lib.decodeN
  rw [if_pos c0,if_pos c0,b2h (by omega)]
 by_cases c1:b0<194
 ·exact g0r n b0 b1 b2 b3 (by omega) h0
 by_cases c2:b0<224
 ·exact g34 n b0 b1 b2 b3 (by omega) h1
 by_cases c3:b0<240
 ·exact g5g n b0 b1 b2 b3 (by omega) h1 h2
 by_cases c4:b0<245
 ·exact g6m n b0 b1 b2 b3 (by omega) h1 h2 h3
 ·exact g0r n b0 b1 b2 b3 (by omega) h0
def b33 (s:ByteArray) (i:Nat):Nat:=a0e (s.size - i) (s.get! i).toNat (s.get! (i+1)).toNat (s.get! (i+2)).toNat (s.get! (i+3)).toNat
theorem d4w (s:ByteArray) (i:Nat) (h:i<s.size):i+b33 s i<=s.size:=by
 have:=e9b (s.size - i) (s.get! i).toNat (s.get! (i+1)).toNat (s.get! (i+2)).toNat (s.get! (i+3)).toNat (by omega)
 unfold b33
 omega
theorem c01 (s:ByteArray) (i:Nat):b33 s i=if (Utf8.decode s i).1=65533 /\ ¬(2<s.size - i /\ (s.get! i).toNat=239 /\ (s.get! (i+1)).toNat=191 /\ (s.get! (i+2)).toNat=189) then 0 else (Utf8.decode s i).2:=by
 rw [Lib.decode_at]
 exact d4s _ _ _ _ _ (UInt8.toNat_lt _) (UInt8.toNat_lt _) (UInt8.toNat_lt _) (UInt8.toNat_lt _)
def b2r (s:ByteArray):Nat ->Nat ->Int
 |0,_=> -1
 |f+1,p=>if p<s.size then (if b33 s p=0 then p else b2r s f (p+b33 s p)) else -1
def h0n (s:ByteArray):Int:=b2r s s.size 0
theorem c48 (s:ByteArray):∀(f g p:Nat),s.size - p<=f ->s.size - p<=g ->b2r s f p=b2r s g p
 |0,0,_,_,_=>rfl
 |0,g+1,p,h,_=>by
  simp only [b2r]; rw [if_neg (by omega)]
 |f+1,0,p,_,h=>by
  simp only [b2r]; rw [if_neg (by omega)]
 |f+1,g+1,p,h,h'=>by
  simp only [b2r]
  by_cases hp:p<s.size
  ·rw [if_pos hp,if_pos hp]
   by_cases h0:b33 s p=0
   ·rw [if_pos h0,if_pos h0]
   ·rw [if_neg h0,if_neg h0]
    exact c48 s f g _ (by omega) (by omega)
  ·rw [if_neg hp,if_neg hp]
def d2t (s:ByteArray) (p:Nat):Int:=b2r s (s.size - p) p
theorem c15 (s:ByteArray) (p:Nat) (h:s.size<=p):d2t s p= -1:=by
 unfold d2t
 rw [show s.size - p=0 by omega]; rfl
theorem d5g (s:ByteArray) (p:Nat) (h:p<s.size) (h0:b33 s p=0):d2t s p=p:=by
 unfold d2t
 rw [show s.size - p=(s.size - p - 1)+1 by omega]
 simp only [b2r]
 rw [if_pos h,if_pos h0]
theorem d88 (s:ByteArray) (p:Nat) (h:p<s.size) (h0:b33 s p≠0):d2t s p=d2t s (p+b33 s p):=by
 unfold d2t
 rw [show s.size - p=(s.size - p - 1)+1 by omega]
 simp only [b2r]
 rw [if_pos h,if_neg h0]
 exact c48 s _ _ _ (by omega) (by omega)
def c41 (s:ByteArray):Bool:=decide (h0n s<0)
theorem b7f (s:ByteArray) (i:Nat):a2t s i=(s.get! i).toNat:=by
 unfold a2t H4
 have:s.data.toList.getD i 0=s.get! i:=by
  rw [List.getD_eq_getElem?_getD]
  show _=s.data[i]!
  rw [getElem!_def,Array.getElem?_toList]
  cases s.data[i]? <;>rfl
 rw [this]; omega
def btw (s:ByteArray) (i lo hi:Nat):Bool:=decide (i<s.size /\ lo<=a2t s i /\ a2t s i<=hi)
theorem d1s (s:ByteArray) (i lo hi:Nat):a0d s i lo hi (btw s i lo hi):=by
 have hb:=d9e s i
 have hn:((i:Int)).toNat=i:=by omega
 refine c2p _ _ _ _ _ ⟨fun b=>b=decide (i<s.size /\ lo<=a2t s i),fun b hR=>⟨fun h=> ?_,fun h=> ?_⟩,fun h=> ?_,fun h=> ?_⟩
 ·rw [h] at hR
  have h2:=of_decide_eq_true hR.symm
  refine ⟨⟨by omega,by omega⟩, ?_⟩
  rw [hn,hb.1]
  unfold btw
  congr 1
  simp only [eq_iff_iff]
  omega
 ·rw [h] at hR
  have h2:=of_decide_eq_false hR.symm
  exact decide_eq_false (by omega)
 ·simp only [decide_eq_true_eq] at h
  refine ⟨⟨by omega,h⟩, ?_⟩
  rw [hn,hb.1]
  congr 1
  simp only [eq_iff_iff]
  omega
 ·simp only [decide_eq_false_iff_not] at h
  exact (decide_eq_false (by omega)).symm
def b35 (s:ByteArray) (i:Nat):Nat ->Bool
 |0=>true
 |n+1=>btw s i 128 191&&b35 s (i+1) n
theorem f89 (s:ByteArray) (hz:s.size<=140737488351232) (i:Nat) (hi:i<=140737488351300):∀m j:Nat,j<=4 ->j+m<=4 ->a9m j s i ((j+m:Nat):Int) (b35 s (i+j) m):=by
 intro m
 induction m with
 |zero=>
  intro j h1 h2
  exact b1n _ _ _ _ _ ⟨fun h=>by simp at h,fun _=>rfl⟩
 |succ m ih=>
  intro j h1 h2
  refine b1n _ _ _ _ _ ⟨fun _=> ?_,fun h=>by simp at h; omega⟩
  have e:wI ((i:Int)+j)=((i+j:Nat):Int):=by rw [wI,D2 (by omega)]; omega
  rw [e]
  refine ⟨_,d1s s (i+j) 128 191,fun h=> ?_,fun h=> ?_⟩
  ·have:btw s (i+j) 128 191=false:=by simpa using h
   simp [b35,this]
  ·have:btw s (i+j) 128 191=true:=by simpa using h
   rw [wI,D2 (by omega)]
   have h3:=ih (j+1) (by omega) (by omega)
   rw [b35,this,Bool.true_and]
   have e2:i+j+1=i+(j+1):=by omega
   have e3:j+(m+1)=j+1+m:=by omega
   rw [e2,e3]
   exact h3
theorem f4r (s:ByteArray) (hz:s.size<=140737488351232) (i n:Nat) (hi:i<=140737488351300) (hn:n<=4):a2d s i n (b35 s i n):=by
 have:=f89 s hz i hi n 0 (by omega) (by omega)
 simp only [Nat.zero_add,Nat.add_zero] at this
 exact c9q _ _ _ _ this
def szB (s:ByteArray) (i:Nat):Nat:=
 if a2t s i<128 then 1
 else if (decide (194<=a2t s i /\ a2t s i<=223)&&b35 s (i+1) 1)=true then 2
 else if (decide (a2t s i=224)&&btw s (i+1) 160 191&&b35 s (i+2) 1)=true then 3
 else if (decide (a2t s i=237)&&btw s (i+1) 128 159&&b35 s (i+2) 1)=true then 3
 else if (decide (225<=a2t s i /\ a2t s i<=239 /\ a2t s i≠237)&&b35 s (i+1) 2)=true then 3
 else if (decide (a2t s i=240)&&btw s (i+1) 144 191&&b35 s (i+2) 2)=true then 4
 else if (decide (241<=a2t s i /\ a2t s i<=243)&&b35 s (i+1) 3)=true then 4
 else if (decide (a2t s i=244)&&btw s (i+1) 128 143&&b35 s (i+2) 2)=true then 4
 else 0
theorem f7h (s:ByteArray) (hz:s.size<=140737488351232) (i:Nat) (hi:i<s.size):c2x s i (szB s i):=by
 have hb:=d9e s i
 have hn:((i:Int)).toNat=i:=by omega
 have w1:wI ((i:Int)+1)=((i+1:Nat):Int):=by rw [wI,D2 (by omega)]; omega
 have w2:wI ((i:Int)+2)=((i+2:Nat):Int):=by rw [wI,D2 (by omega)]; omega
 have tl:=fun k n (hk:k<=4) (hn:n<=4)=>f4r s hz (i+k) n (by omega) hn
 have bt:=fun k lo hi=>d1s s (i+k) lo hi
 refine c80 _ _ _ ?_
 rw [hn,hb.1,w1,w2]
 unfold szB
 generalize hx:a2t s i=x at*
 refine ⟨⟨by omega,by omega⟩,fun h=> ?_,fun h=> ?_⟩
 ·rw [if_pos (by simp only [decide_eq_true_eq] at h; omega)]; rfl
 rw [if_neg (by simp only [decide_eq_false_iff_not] at h; omega)]
 refine ⟨fun b=>b=(decide (194<=x /\ x<=223)&&b35 s (i+1) 1),fun b hR=> ?_,fun h=>⟨_,tl 1 1 (by omega) (by omega), ?_⟩,fun h=> ?_⟩
 rotate_left
 ·have:(194<=x /\ x<=223):=by simp only [Bool.and_eq_true,decide_eq_true_eq] at h; omega
  simp [this]
 ·have:¬(194<=x /\ x<=223):=by simp only [Bool.and_eq_false_iff,decide_eq_false_iff_not] at h; omega
  simp [this]
 subst hR
 refine ⟨fun h=>by rw [if_pos h]; rfl,fun h=> ?_⟩
 rw [if_neg (by rw [h]; decide)]
 refine ⟨fun b=>b=(decide (x=224)&&btw s (i+1) 160 191),fun b hR=> ?_,fun h=>⟨_,bt 1 160 191, ?_⟩,fun h=> ?_⟩
 rotate_left
 ·have:x=224:=by simp only [beq_iff_eq] at h; omega
  simp [this]
 ·have:¬x=224:=by simp only [beq_eq_false_iff_ne] at h; omega
  simp [this]
 refine ⟨fun b2=>b2=(b&&b35 s (i+2) 1),fun b2 hR2=> ?_,fun h=>⟨_,tl 2 1 (by omega) (by omega),by rw [h]; rfl⟩,fun h=>by rw [h]; rfl⟩
 subst hR2; subst hR
 refine ⟨fun h=>by rw [if_pos h]; rfl,fun h=> ?_⟩
 rw [if_neg (by rw [h]; decide)]
 refine ⟨fun b=>b=(decide (x=237)&&btw s (i+1) 128 159),fun b hR=> ?_,fun h=>⟨_,bt 1 128 159, ?_⟩,fun h=> ?_⟩
 rotate_left
 ·have:x=237:=by simp only [beq_iff_eq] at h; omega
  simp [this]
 ·have:¬x=237:=by simp only [beq_eq_false_iff_ne] at h; omega
  simp [this]
 refine ⟨fun b2=>b2=(b&&b35 s (i+2) 1),fun b2 hR2=> ?_,fun h=>⟨_,tl 2 1 (by omega) (by omega),by rw [h]; rfl⟩,fun h=>by rw [h]; rfl⟩
 subst hR2; subst hR
 refine ⟨fun h=>by rw [if_pos h]; rfl,fun h=> ?_⟩
 rw [if_neg (by rw [h]; decide)]
 refine ⟨fun b=>b=(decide (225<=x /\ x<=239 /\ x≠237)&&b35 s (i+1) 2),fun b hR=> ?_,fun h=>⟨_,tl 1 2 (by omega) (by omega), ?_⟩,fun h=> ?_⟩
 rotate_left
 ·have:(225<=x /\ x<=239 /\ x≠237):=by simp only [Bool.and_eq_true,decide_eq_true_eq,bne_iff_ne] at h; omega
  simp [this]
 ·have:¬(225<=x /\ x<=239 /\ x≠237):=by simp only [Bool.and_eq_false_iff,decide_eq_false_iff_not,bne_eq_false_iff_eq] at h; omega
  have h3:decide (225<=x /\ x<=239 /\ x≠237)=false:=decide_eq_false this
  rw [h3]; rfl
 subst hR
 refine ⟨fun h=>by rw [if_pos h]; rfl,fun h=> ?_⟩
 rw [if_neg (by rw [h]; decide)]
 refine ⟨fun b=>b=(decide (x=240)&&btw s (i+1) 144 191),fun b hR=> ?_,fun h=>⟨_,bt 1 144 191, ?_⟩,fun h=> ?_⟩
 rotate_left
 ·have:x=240:=by simp only [beq_iff_eq] at h; omega
  simp [this]
 ·have:¬x=240:=by simp only [beq_eq_false_iff_ne] at h; omega
  simp [this]
 refine ⟨fun b2=>b2=(b&&b35 s (i+2) 2),fun b2 hR2=> ?_,fun h=>⟨_,tl 2 2 (by omega) (by omega),by rw [h]; rfl⟩,fun h=>by rw [h]; rfl⟩
 subst hR2; subst hR
 refine ⟨fun h=>by rw [if_pos h]; rfl,fun h=> ?_⟩
 rw [if_neg (by rw [h]; decide)]
 refine ⟨fun b=>b=(decide (241<=x /\ x<=243)&&b35 s (i+1) 3),fun b hR=> ?_,fun h=>⟨_,tl 1 3 (by omega) (by omega), ?_⟩,fun h=> ?_⟩
 rotate_left
 ·have:(241<=x /\ x<=243):=by simp only [Bool.and_eq_true,decide_eq_true_eq] at h; omega
  simp [this]
 ·have:¬(241<=x /\ x<=243):=by simp only [Bool.and_eq_false_iff,decide_eq_false_iff_not] at h; omega
  simp [this]
 subst hR
 refine ⟨fun h=>by rw [if_pos h]; rfl,fun h=> ?_⟩
 rw [if_neg (by rw [h]; decide)]
 refine ⟨fun b=>b=(decide (x=244)&&btw s (i+1) 128 143),fun b hR=> ?_,fun h=>⟨_,bt 1 128 143, ?_⟩,fun h=> ?_⟩
 rotate_left
 ·have:x=244:=by simp only [beq_iff_eq] at h; omega
  simp [this]
 ·have:¬x=244:=by simp only [beq_eq_false_iff_ne] at h; omega
  simp [this]
 refine ⟨fun h=>⟨_,tl 2 2 (by omega) (by omega),fun h2=> ?_,fun h2=> ?_⟩,fun h=> ?_⟩
 ·rw [if_pos (by rw [<-hR,h,h2]; rfl)]; rfl
 ·rw [if_neg (by rw [<-hR,h,h2]; decide)]; rfl
 ·rw [if_neg (by rw [<-hR,h]; simp)]; rfl
theorem f28 (s:ByteArray) (i:Nat):szB s i=b33 s i:=by
 unfold szB b33 a0e
 simp only [<-b7f,btw,b35,Bool.and_eq_true,decide_eq_true_eq,Bool.and_true]
 have e1:i+1+1=i+2:=rfl
 have e2:i+1+1+1=i+3:=rfl
 have e3:i+2+1=i+3:=rfl
 simp only [e1,e2,e3]
 generalize a2t s i=a
 generalize a2t s (i+1)=b
 generalize a2t s (i+2)=c
 generalize a2t s (i+3)=d
 generalize s.size=n
 by_cases h0:a<128
 ·rw [if_pos h0,if_pos h0]
 rw [if_neg h0,if_neg h0]
 have key:∀(p q:Prop) [Decidable p] [Decidable q] (x y z:Nat),(p↔q) ->y=z ->(if p then x else y)=(if q then x else z):=by
  intro p q _ _ x y z h1 h2
  subst h2
  by_cases hp:p
  ·rw [if_pos hp,if_pos (h1.1 hp)]
  ·rw [if_neg hp,if_neg (fun h=>hp (h1.2 h))]
 refine key _ _ _ _ _ (by omega) (key _ _ _ _ _ (by omega) (key _ _ _ _ _ (by omega) (key _ _ _ _ _ (by omega) (key _ _ _ _ _ (by omega) (key _ _ _ _ _ (by omega) (key _ _ _ _ _ (by omega) rfl))))))
theorem g1j (s:ByteArray) (hz:s.size<=140737488351232):∀n p:Nat,s.size - p<=n ->p<=s.size ->b15 p s (d2t s p):=by
 intro n
 induction n with
 |zero=>
  intro p h1 h2
  refine b3h _ _ _ ⟨fun h=>by simp only [decide_eq_true_eq] at h; omega,fun h=>c15 s p (by omega)⟩
 |succ n ih=>
  intro p h1 h2
  refine b3h _ _ _ ⟨fun h=> ?_,fun h=> ?_⟩
  ·simp only [decide_eq_true_eq] at h
   have hp:p<s.size:=by omega
   have hle:=d4w s p hp
   refine ⟨_,f7h s hz p hp,fun h2=> ?_,fun h2=> ?_⟩
   ·simp only [beq_iff_eq] at h2
    exact d5g s p hp (by rw [<-f28]; omega)
   ·simp only [beq_eq_false_iff_ne] at h2
    rw [f28] at h2 ⊢
    have h3:b33 s p≠0:=by omega
    rw [d88 s p hp h3,wI,D2 (by omega)]
    exact ih _ (by omega) hle
  ·simp only [decide_eq_false_iff_not] at h
   exact c15 s p (by omega)
theorem c7l (s:ByteArray) (hz:s.size<=140737488351232):b0r s (c41 s):=
 c5i _ _ ⟨_,d0m _ _ (g1j s hz s.size 0 (by omega) (by omega)),rfl⟩
def f7x (s:ByteArray) (i:Nat):Bool:=decide (2<s.size - i /\ a2t s i=239 /\ a2t s (i+1)=191 /\ a2t s (i+2)=189)
theorem g0o {a b:ByteArray} (h:a.size=b.size) (hb:∀i,i<a.size ->a2t a i=a2t b i):a=b:=by
 apply ByteArray.ext
 refine Array.ext h fun i h1 h2=> ?_
 have:=hb i h1
 rw [b7f,b7f] at this
 have e1:a.get! i=a.data[i]:=by show a.data[i]! =_; exact getElem!_pos a.data i h1
 have e2:b.get! i=b.data[i]:=by show b.data[i]! =_; exact getElem!_pos b.data i h2
 rw [e1,e2] at this
 exact UInt8.toNat_inj.1 this
theorem e2s (s:ByteArray) (i:Nat) (hi:i<=s.size) (hz:s.size<=140737488351232):a60 (s.extract i s.size) ⟨#[239,191,189]⟩ (f7x s i):=by
 refine b5i _ _ _ ⟨_,a4g _ _ _ ⟨fun h=>⟨⟨by omega,by omega,by simpa using h⟩, ?_⟩,fun h=> ?_⟩,rfl⟩
 ·have hs:(s.extract i s.size).size=s.size - i:=b36 s (Nat.le_refl _)
  simp only [decide_eq_true_eq,hs] at h
  have h3:(⟨#[239,191,189]⟩:ByteArray).size=3:=rfl
  rw [h3] at h ⊢
  show f7x s i=decide ((s.extract i s.size).extract 0 3=_)
  unfold f7x
  congr 1
  simp only [eq_iff_iff]
  have e0:=c18 (s.extract i s.size) (l:=0) (u:=3) (i:=0) (by omega)
  have e1:=c18 (s.extract i s.size) (l:=0) (u:=3) (i:=1) (by omega)
  have e2:=c18 (s.extract i s.size) (l:=0) (u:=3) (i:=2) (by omega)
  rw [c18 s (by omega)] at e0 e1 e2
  constructor
  ·rintro ⟨k1,k2,k3,k4⟩
   refine g0o (by rw [b36 _ (by omega)]; rfl) fun j hj=> ?_
   rw [b36 _ (by omega)] at hj
   have:j=0\/j=1\/j=2:=by omega
   rcases this with rfl|rfl|rfl
   ·rw [e0]; exact k2
   ·rw [e1]; exact k3
   ·rw [e2]; exact k4
  ·intro he
   rw [he] at e0 e1 e2
   refine ⟨by omega,e0.symm,e1.symm,e2.symm⟩
 ·have hs:(s.extract i s.size).size=s.size - i:=b36 s (Nat.le_refl _)
  simp only [decide_eq_false_iff_not,hs] at h
  have h3:(⟨#[239,191,189]⟩:ByteArray).size=3:=rfl
  rw [h3] at h
  exact decide_eq_false (by omega)
theorem e88 (s:ByteArray) (i:Nat) (hi:i<=s.size) (hz:s.size<=140737488351232) (c:Int):c7r s i c (decide (c=65533)&& !f7x s i):=by
 refine d0s _ _ _ _ ⟨fun h=>⟨⟨by omega,by omega,by omega⟩, ?_⟩,fun h=> ?_⟩
 ·simp only [beq_iff_eq] at h
  have e:((s.size:Nat):Int).toNat=s.size:=by omega
  have e2:((i:Nat):Int).toNat=i:=by omega
  rw [e,e2]
  exact ⟨_,e2s s i hi hz,by simp [h]⟩
 ·simp only [beq_eq_false_iff_ne] at h
  simp [h]
theorem f46 (s:ByteArray) (p:Nat):1<=(Utf8.decode s p).2:=by
 rw [Lib.decode_at]
 unfold Lib.decodeN
 (repeat' split)<;>simp
theorem g4n (s:ByteArray) (hz:s.size<=140737488351232):∀n p:Nat,s.size - p<=n ->p<=s.size ->b8d s p (d2t s p):=by
 intro n
 induction n with
 |zero=>
  intro p h1 h2
  exact b6k _ _ _ ⟨fun h=>by omega,fun h=>c15 s p (by omega)⟩
 |succ n ih=>
  intro p h1 h2
  refine b6k _ _ _ ⟨fun hp=>⟨_,e88 s p h2 hz _,fun h=> ?_,fun h=> ?_⟩,fun h=>c15 s p (by omega)⟩
  ·have hd:=c01 s p
   simp only [<-b7f] at hd
   rw [Bool.and_eq_true] at h
   have k1:=of_decide_eq_true h.1
   have k2:f7x s p=false:=by cases hf:f7x s p with
    |true=>rw [hf] at h; exact absurd h.2 (by decide)
    |false=>rfl
   have k3:=of_decide_eq_false k2
   rw [if_pos ⟨by omega,k3⟩] at hd
   exact d5g s p hp hd
  ·have hd:=c01 s p
   simp only [<-b7f] at hd
   have hle:=d4w s p hp
   rw [if_neg] at hd
   ·have h3:b33 s p≠0:=by
     have:=f46 s p
     omega
    rw [d88 s p hp h3,<-hd]
    exact ih _ (by omega) hle
   ·intro hc
    have k2:f7x s p=false:=decide_eq_false hc.2
    have k1:decide (((Utf8.decode s p).1:Int)=65533)=true:=decide_eq_true (by omega)
    rw [k1,k2] at h
    cases h
theorem d93 (s:ByteArray) (hz:s.size<=140737488351232):c0v s (c41 s):=
 d0o _ _ ⟨_,d4n _ _ (g4n s hz s.size 0 (by omega) (by omega)),rfl⟩
structure OkV (v:A0):Prop where
 l:v.List_.length<=140737488351232
 p:v.Pairs.length<=140737488351232
 s:v.Slots.length<=140737488351232
 r:v.Raws.length<=140737488351232
 t:v.Text.size<=140737488351232
 b0:0<=v.Bits
 b1:v.Bits<18446744073709551616
def c53 (v:A0):Bool:=decide (v.List_.length=0 /\ v.Pairs.length=0 /\ v.Slots.length=0 /\ v.Raws.length=0)
def a39 (k bits:Int):Bool:=if k=1 then decide (bits<=1) else if k=2 then decide (-2147483648<=wI bits /\ wI bits<=2147483647) else if k=9 then decide (bits<=2147483647) else if k=4 then decide (bits<=4294967295) else true
def c32 (k:Int) (v:A0):Bool:=
 decide (1<=k /\ k<=9 /\ v.Kind=k)&&c53 v&&
  (if k=7\/k=8 then decide (v.Bits=0 /\ v.Text.size<=4096)&&(!decide (k=7)||c41 v.Text) else decide (v.Text=⟨#[]⟩)&&a39 k v.Bits)
theorem e3k (k bits:Int):b4g k bits (a39 k bits):=by
 refine c2b _ _ _ ⟨fun h=> ?_,fun h=>⟨fun h2=> ?_,fun h2=>⟨fun h3=> ?_,fun h3=>⟨fun h4=> ?_,fun h4=> ?_⟩⟩⟩⟩
 all_goals simp only [beq_iff_eq,beq_eq_false_iff_ne] at*
 ·rw [a39,if_pos h]
 ·rw [a39,if_neg h,if_pos h2,Bool.decide_and]
 ·rw [a39,if_neg h,if_neg h2,if_pos h3]
 ·rw [a39,if_neg h,if_neg h2,if_neg h3,if_pos h4]
 ·rw [a39,if_neg h,if_neg h2,if_neg h3,if_neg h4]
def c9c (v:A0):Bool:=c53 v&&(if v.Kind=7\/v.Kind=8 then decide (v.Bits=0) else decide (v.Text=⟨#[]⟩))
theorem e60 (v:A0) (hv:OkV v):b4c v (c9c v):=by
 have h1:=hv.l; have h2:=hv.p; have h3:=hv.s; have h4:=hv.r
 have e1:wI ((v.List_.length:Int)+v.Pairs.length)=(v.List_.length:Int)+v.Pairs.length:=D2 (by omega)
 have e2:wI ((v.List_.length:Int)+v.Pairs.length+v.Slots.length)=(v.List_.length:Int)+v.Pairs.length+v.Slots.length:=D2 (by omega)
 have e3:wI ((v.List_.length:Int)+v.Pairs.length+v.Slots.length+v.Raws.length)=(v.List_.length:Int)+v.Pairs.length+v.Slots.length+v.Raws.length:=D2 (by omega)
 refine c5h _ _ ?_
 rw [e1,e2,e3]
 refine ⟨fun h=> ?_,fun h=>⟨_,b3x _ _ rfl,fun h5=> ?_,fun h5=> ?_⟩⟩
 ·simp only [decide_eq_true_eq] at h
  have:c53 v=false:=decide_eq_false (by omega)
  rw [c9c,this]; rfl
 all_goals
  simp only [decide_eq_false_iff_not] at h
  have:c53 v=true:=decide_eq_true (by omega)
  rw [c9c,this,Bool.true_and]
 ·rw [if_pos (by simpa using h5)]; rfl
 ·rw [if_neg (by simpa using h5)]
theorem e7a (k:Int) (v:A0) (hv:OkV v):b4k k v (c32 k v):=by
 refine c5u _ _ _ ⟨_,a68 _ _ rfl,fun b=>b= !(decide (1<=k /\ k<=9 /\ v.Kind=k)&&c9c v),fun b hR=> ?_,fun h=> ?_,fun h=>⟨_,e60 v hv, ?_⟩⟩
 rotate_left
 ·have:decide (1<=k /\ k<=9 /\ v.Kind=k)=false:=by
   refine decide_eq_false fun hn=> ?_
   simp [hn.1,hn.2.1,hn.2.2] at h
  rw [this]; rfl
 ·have:decide (1<=k /\ k<=9 /\ v.Kind=k)=true:=by
   refine decide_eq_true ?_
   simp at h
   omega
  rw [this]; rfl
 subst hR
 refine ⟨fun b=>b= !(decide (1<=k /\ k<=9 /\ v.Kind=k)&&c9c v&&a39 k v.Bits),fun b hR=> ?_,fun h=> ?_,fun h=>⟨_,e3k k v.Bits, ?_⟩⟩
 rotate_left
 ·have:(decide (1<=k /\ k<=9 /\ v.Kind=k)&&c9c v)=false:=by rw [<-Bool.not_eq_true']; exact h
  rw [this]; rfl
 ·have:(decide (1<=k /\ k<=9 /\ v.Kind=k)&&c9c v)=true:=by rw [<-Bool.not_eq_false']; exact h
  rw [this]; rfl
 subst hR
 have main:∀A B C D:Bool,True:=fun _ _ _ _=>trivial
 by_cases hk:1<=k /\ k<=9 /\ v.Kind=k
 ·have hkd:decide (1<=k /\ k<=9 /\ v.Kind=k)=true:=decide_eq_true hk
  unfold c32 c9c
  rw [hkd,hk.2.2,Bool.true_and,Bool.true_and]
  cases hl:c53 v with
  |false=>simp
  |true=>
   simp only [Bool.true_and]
   by_cases h78:k=7\/k=8
   ·rw [if_pos h78,if_pos h78]
    have hw:a39 k v.Bits=true:=by rw [a39,if_neg (by omega),if_neg (by omega),if_neg (by omega),if_neg (by omega)]
    rw [hw,Bool.and_true]
    refine ⟨fun h=> ?_,fun h=>⟨fun h2=> ?_,fun h2=>⟨_,d93 _ hv.t, ?_⟩⟩⟩
    ·have:¬(v.Bits=0 /\ v.Text.size<=4096):=by
      simp only [Bool.or_eq_true,Bool.not_eq_true',decide_eq_false_iff_not,decide_eq_true_eq] at h
      omega
     rw [decide_eq_false this]; rfl
    ·have:v.Bits=0 /\ v.Text.size<=4096:=by
      simp only [Bool.or_eq_false_iff,Bool.not_eq_false',decide_eq_false_iff_not,decide_eq_true_eq] at h
      omega
     rw [decide_eq_true this]
     have:¬k=7:=by simpa using h2
     rw [decide_eq_false this]; rfl
    ·have:v.Bits=0 /\ v.Text.size<=4096:=by
      simp only [Bool.or_eq_false_iff,Bool.not_eq_false',decide_eq_false_iff_not,decide_eq_true_eq] at h
      omega
     rw [decide_eq_true this]
     have:k=7:=by simpa using h2
     rw [decide_eq_true this]; simp
   ·rw [if_neg h78,if_neg h78]
    refine ⟨fun h=> ?_,fun h=>⟨fun h2=> ?_,fun h2=> ?_⟩⟩
    ·simp only [Bool.or_eq_true,Bool.not_eq_true',decide_eq_true_eq] at h
     rcases h with h|h
     ·rw [h]
     ·have:¬v.Text=⟨#[]⟩:=by
       intro he
       rw [he] at h
       have:((⟨#[]⟩:ByteArray).size:Int)=0:=rfl
       omega
      rw [decide_eq_false this]; rfl
    ·simp only [Bool.or_eq_false_iff,Bool.not_eq_false'] at h
     rw [h.1]
    ·have:k=7:=by simpa using h2
     omega
 ·have hkd:decide (1<=k /\ k<=9 /\ v.Kind=k)=false:=decide_eq_false hk
  unfold c32
  rw [hkd]
  simp
theorem d9w (v:A0):b8a v (c53 v):=by
 refine c72 _ _ ?_
 unfold c53
 rw [Bool.eq_iff_iff]
 simp only [decide_eq_true_eq,Bool.and_eq_true,beq_iff_eq]
 omega
theorem d29 (k:Int) (v:A0) (hv:OkV v):b3c k v (c32 k v):=by
 refine c8q _ _ _ ⟨_,b4n _ _ rfl,fun b=>b= !(decide (1<=k /\ k<=9 /\ v.Kind=k)&&c53 v),fun b hR=>⟨fun h=> ?_,fun h=>⟨_,b43 _ _ rfl,fun h2=> ?_,fun h2=> ?_⟩⟩,fun h=> ?_,fun h=>⟨_,d9w v, ?_⟩⟩
 ·have:(decide (1<=k /\ k<=9 /\ v.Kind=k)&&c53 v)=false:=by rw [<-Bool.not_eq_true',<-hR]; exact h
  unfold c32; rw [this]; rfl
 ·have hb:(decide (1<=k /\ k<=9 /\ v.Kind=k)&&c53 v)=true:=by rw [<-Bool.not_eq_false',<-hR]; exact h
  have h78:k=7\/k=8:=by simpa using h2
  unfold c32
  rw [hb,Bool.true_and,if_pos h78]
  refine ⟨fun c=>c=(decide (v.Bits=0 /\ v.Text.size<=4096)&&(!decide (k=7)||c41 v.Text)),fun c hc=>hc.symm,fun h3=> ?_,fun h3=> ?_⟩
  ·have h4:v.Bits=0 /\ v.Text.size<=4096:=by
    simp only [Bool.and_eq_true,beq_iff_eq,decide_eq_true_eq] at h3
    omega
   rw [decide_eq_true h4,Bool.true_and]
   refine ⟨fun c=>c=(!decide (k=7)||c41 v.Text),fun c hc=>hc,fun h5=> ?_,fun h5=>⟨_,c7l _ hv.t, ?_⟩⟩
   ·have:¬k=7:=by simp only [beq_iff_eq] at h5; omega
    rw [decide_eq_false this]; rfl
   ·have:k=7:=by simp only [beq_eq_false_iff_ne] at h5; omega
    rw [decide_eq_true this]; rfl
  ·have h4:¬(v.Bits=0 /\ v.Text.size<=4096):=by
    simp only [Bool.and_eq_false_iff,beq_eq_false_iff_ne,decide_eq_false_iff_not] at h3
    omega
   rw [decide_eq_false h4]; rfl
 ·have hb:(decide (1<=k /\ k<=9 /\ v.Kind=k)&&c53 v)=true:=by rw [<-Bool.not_eq_false',<-hR]; exact h
  have h78:¬(k=7\/k=8):=by simpa using h2
  unfold c32
  rw [hb,Bool.true_and,if_neg h78]
  refine ⟨fun h3=> ?_,fun h3=> ?_⟩
  ·have:decide (v.Text=⟨#[]⟩)=false:=by rw [<-Bool.not_eq_true']; exact h3
   rw [this]; rfl
  ·have:decide (v.Text=⟨#[]⟩)=true:=by rw [<-Bool.not_eq_false']; exact h3
   rw [this,Bool.true_and]
   refine ⟨fun h4=> ?_,fun h4=>⟨fun h5=> ?_,fun h5=>⟨fun h6=> ?_,fun h6=>⟨fun h7=> ?_,fun h7=> ?_⟩⟩⟩⟩
   all_goals simp only [beq_iff_eq,beq_eq_false_iff_ne] at*
   ·rw [a39,if_pos h4]
   ·rw [a39,if_neg h4,if_pos h5,Bool.decide_and]
   ·rw [a39,if_neg h4,if_neg h5,if_neg (by omega),if_pos h6]
    congr 1; simp only [eq_iff_iff]; omega
   ·rw [a39,if_neg h4,if_neg h5,if_pos h7]
    congr 1; simp only [eq_iff_iff]; omega
   ·rw [a39,if_neg h4,if_neg h5,if_neg h7,if_neg h6]
 ·have:decide (1<=k /\ k<=9 /\ v.Kind=k)=false:=by
   refine decide_eq_false fun hn=> ?_
   simp [hn.1,hn.2.1,hn.2.2] at h
  rw [this]; rfl
 ·have:decide (1<=k /\ k<=9 /\ v.Kind=k)=true:=by
   refine decide_eq_true ?_
   simp at h
   omega
  rw [this]; rfl
def d17 (v:A0):Bool:=isS v.Kind&&(v.Bits==0)&&decide (v.Text=(⟨#[]⟩:ByteArray))&&c53 v
def b8u (v:A0):Bool:=if v.Kind=11 then v.List_.isEmpty else if v.Kind=12 then v.Pairs.isEmpty else d17 v
theorem e9g (v:A0):b7d v (d17 v):=by
 refine c37 _ _ ⟨_,b4n _ _ rfl,fun h=>⟨_,d9w v, ?_⟩,fun h=> ?_⟩
 ·unfold d17 isS; rw [h,Bool.true_and]
 ·unfold d17 isS; rw [h,Bool.false_and]
theorem e7v (v:A0):b86 v (b8u v):=by
 refine c5t _ _ ⟨fun h=> ?_,fun h=>⟨fun h2=> ?_,fun h2=>⟨_,e9g v, ?_⟩⟩⟩
 all_goals simp only [beq_iff_eq,beq_eq_false_iff_ne] at*
 ·unfold b8u; rw [if_pos h]
  cases v.List_<;>simp
  omega
 ·unfold b8u; rw [if_neg h,if_pos h2]
  cases v.Pairs<;>simp
  omega
 ·unfold b8u; rw [if_neg h,if_neg h2]
theorem f4n (v:A0) (hv:OkV v):b4a v (d17 v):=by
 have key:d17 v=(((isS v.Kind&&c9c v)&&(v.Bits==0))&&decide (v.Text=(⟨#[]⟩:ByteArray))):=by
  unfold d17 c9c
  by_cases h1:v.Bits=0
  ·by_cases h2:v.Text=(⟨#[]⟩:ByteArray)
   ·simp [h1,h2]
   ·simp [h2]
  ·have hb:(v.Bits==0)=false:=by simpa using h1
   rw [hb]; simp
 refine c1o _ _ ⟨_,a68 _ _ rfl,fun z=>z=(isS v.Kind&&c9c v),fun z hz=> ?_,fun h=>⟨_,e60 v hv, ?_⟩,fun h=> ?_⟩
 ·rw [hz]; exact key
 ·unfold isS; rw [h,Bool.true_and]
 ·unfold isS; rw [h,Bool.false_and]
theorem f0y (v:A0) (hv:OkV v):c4o v (b8u v):=by
 have ns:∀k:Int,k=11\/k=12 ->isS k=false:=by
  intro k hk
  unfold isS
  rcases hk with h|h<;>subst h<;>decide
 refine c8l _ _ ⟨fun h=> ?_,fun h=>⟨_,f4n v hv, ?_⟩⟩
 ·simp only [Bool.or_eq_true,Bool.and_eq_true,beq_iff_eq] at h
  unfold b8u
  rcases h with ⟨h1,h2⟩|⟨h1,h2⟩
  ·rw [if_pos h1,List.isEmpty_iff,<-List.length_eq_zero_iff]; omega
  ·rw [if_neg (by omega),if_pos h1,List.isEmpty_iff,<-List.length_eq_zero_iff]; omega
 ·simp only [Bool.or_eq_false_iff,Bool.and_eq_false_iff,beq_eq_false_iff_ne] at h
  unfold b8u
  by_cases h1:v.Kind=11
  ·rw [if_pos h1]
   have:v.List_.isEmpty=false:=by
    cases hl:v.List_ with
    |nil=>rw [hl] at h; simp at h; omega
    |cons x l=>rfl
   rw [this,d17,ns _ (.inl h1)]; rfl
  ·by_cases h2:v.Kind=12
   ·rw [if_neg h1,if_pos h2]
    have:v.Pairs.isEmpty=false:=by
     cases hl:v.Pairs with
     |nil=>rw [hl] at h; simp at h; omega
     |cons x l=>rfl
    rw [this,d17,ns _ (.inr h2)]; rfl
   ·rw [if_neg h1,if_neg h2]
def c2u {α:Type} (f:α ->Bool):List α ->Int ->Int
 |[],_=> -1
 |x::l,i=>if f x=true then i else c2u f l (i+1)
theorem d6q {α:Type} {J:Int ->List α ->Int ->Prop} {C:α ->Bool ->Prop} (f:α ->Bool)
  (b67:∀i s r,((decide (i<(s.length:Int)))=true ->∃y3,s[i.toNat]? =some y3 /\ 0<=i /\ (∃y4,C y3 y4 /\ ((y4=true ->r=i) /\ (y4=false ->J (wI (i+1)) s r)))) /\ ((decide (i<(s.length:Int)))=false ->r=(-1)) ->J i s r)
  (s:List α) (hs:s.length<=140737488351232) (hC:∀x∈s,C x (f x)):J 0 s (c2u f s 0):=by
 have key:∀(d i:Nat),s.length - i<=d ->i<=s.length ->J i s (c2u f (s.drop i) i):=by
  intro d
  induction d with
  |zero=>
   intro i hd hi
   exact b67 _ _ _ ⟨fun h=>by simp at h; omega,fun _=>by rw [List.drop_eq_nil_of_le (by omega)]; rfl⟩
  |succ d ih=>
   intro i hd hi
   rcases Nat.lt_or_ge i s.length with hlt|hge
   ·have e1:wI ((i:Int)+1)=((i+1:Nat):Int):=by rw [wI,D2 (by omega)]; omega
    have dl:s.drop i=s[i]::s.drop (i+1):=List.drop_eq_getElem_cons hlt
    refine b67 _ _ _ ⟨fun _=>⟨s[i],by simp,by omega,_,hC _ (List.getElem_mem _),fun h=> ?_,fun h=> ?_⟩,fun h=>by simp at h; omega⟩
    ·rw [dl,c2u,if_pos h]
    ·rw [dl,c2u,if_neg (nt h),e1]
     exact ih (i+1) (by omega) (by omega)
   ·exact b67 _ _ _ ⟨fun h=>by simp at h; omega,fun _=>by rw [List.drop_eq_nil_of_le hge]; rfl⟩
 simpa using key s.length 0 (by omega) (by omega)
theorem b9z {α:Type} {J:Int ->Prop} {C:α ->Bool ->Prop} {E:Prop} {r:Bool} (f:α ->Bool) (s:List α)
  (b67:∀i:Int,((decide (i<(s.length:Int)))=true ->∃y3,s[i.toNat]? =some y3 /\ 0<=i /\ (∃y4,C y3 y4 /\ ((y4=true ->r=true) /\ (y4=false ->J (wI (i+1)))))) /\ ((decide (i<(s.length:Int)))=false ->E) ->J i)
  (hs:s.length<=140737488351232) (hC:∀x∈s,C x (f x)) (h1:s.any f=true ->r=true) (h2:s.any f=false ->E):J 0:=by
 have key:∀(d i:Nat),s.length - i<=d ->i<=s.length ->((s.drop i).any f=true ->r=true) ->((s.drop i).any f=false ->E) ->J i:=by
  intro d
  induction d with
  |zero=>
   intro i hd hi _ k2
   exact b67 _ ⟨fun h=>by simp at h; omega,fun _=>k2 (by rw [List.drop_eq_nil_of_le (by omega)]; rfl)⟩
  |succ d ih=>
   intro i hd hi k1 k2
   rcases Nat.lt_or_ge i s.length with hlt|hge
   ·have e1:wI ((i:Int)+1)=((i+1:Nat):Int):=by rw [wI,D2 (by omega)]; omega
    have dl:s.drop i=s[i]::s.drop (i+1):=List.drop_eq_getElem_cons hlt
    rw [dl,List.any_cons] at k1 k2
    refine b67 _ ⟨fun _=>⟨s[i],by simp,by omega,_,hC _ (List.getElem_mem _),fun h=>k1 (by rw [h]; rfl),fun h=> ?_⟩,fun h=>by simp at h; omega⟩
    rw [e1]
    rw [h,Bool.false_or] at k1 k2
    exact ih (i+1) (by omega) (by omega) k1 k2
   ·exact b67 _ ⟨fun h=>by simp at h; omega,fun _=>k2 (by rw [List.drop_eq_nil_of_le hge]; rfl)⟩
 exact key s.length 0 (by omega) (by omega) (by simpa using h1) (by simpa using h2)
def b2x (p:A6) (name:ByteArray):Int × Bool:=(max (c2u (fun g:C1=>decide (g.Name=name)) p.Progs 0) 0,decide (0<=c2u (fun g:C1=>decide (g.Name=name)) p.Progs 0))
theorem f43 (p:A6) (hp:p.Progs.length<=140737488351232) (name:ByteArray):c7v p name (b2x p name):=by
 refine d0j _ _ _ ⟨_,a6e _ _ _ (d6q (J:=fun i s r=>M2 i s _ r) (fun g:C1=>decide (g.Name=name)) (fun i s r hw=>a4e _ _ _ _ hw) _ hp fun x hx=> ?_),rfl⟩
 exact c9k x name _ (c5m _ _ _ rfl)
theorem e9q (p:A6) (hp:p.Progs.length<=140737488351232) (name:ByteArray):c30 p name (b2x p name):=by
 have key:∀(d i:Nat),p.Progs.length - i<=d ->i<=p.Progs.length ->a9p i name p (max (c2u (fun g:C1=>decide (g.Name=name)) (p.Progs.drop i) i) 0,decide (0<=c2u (fun g:C1=>decide (g.Name=name)) (p.Progs.drop i) i)):=by
  intro d
  induction d with
  |zero=>
   intro i hd hi
   exact a5m _ _ _ _ ⟨fun h=>by simp at h; omega,fun _=>by rw [List.drop_eq_nil_of_le (by omega)]; rfl⟩
  |succ d ih=>
   intro i hd hi
   rcases Nat.lt_or_ge i p.Progs.length with hlt|hge
   ·have e1:wI ((i:Int)+1)=((i+1:Nat):Int):=by rw [wI,D2 (by omega)]; omega
    have dl:p.Progs.drop i=p.Progs[i]::p.Progs.drop (i+1):=List.drop_eq_getElem_cons hlt
    refine a5m _ _ _ _ ⟨fun _=>⟨p.Progs[i],by simp,by omega,fun h=> ?_,fun h=> ?_⟩,fun h=>by simp at h; omega⟩
    ·rw [dl,c2u,if_pos h]
     have h1:max (i:Int) 0=i:=by omega
     have h2:decide (0<=(i:Int))=true:=by simp
     rw [h1,h2]
    ·rw [dl,c2u,if_neg (nt h),e1]
     exact ih (i+1) (by omega) (by omega)
   ·exact a5m _ _ _ _ ⟨fun h=>by simp at h; omega,fun _=>by rw [List.drop_eq_nil_of_le hge]; rfl⟩
 have:=key p.Progs.length 0 (by omega) (by omega)
 exact c75 _ _ _ (by simpa [b2x] using this)
def a05:Nat ->A0 ->Bool
 |0,_=>false
 |n+1,v=> !v.Raws.isEmpty||(v.Slots.any (fun x=>a05 n x.2)||(v.List_.any (a05 n)||v.Pairs.any (fun x=>a05 n x.2)))
theorem c69 (v:A0):(decide (0<(v.Raws.length:Int)))= !v.Raws.isEmpty:=by
 cases v.Raws with
 |nil=>rfl
 |cons x l=>simp
theorem c64:∀(n:Nat) (v:A0),OkD v ->SizeOf.sizeOf v<=n ->a5x v (a05 n v)
 |0,v,_,h=>by have:=szV v; omega
 |n+1,v,hv,hn=>by
  obtain ⟨_,_,⟨la,pa,sa,ra⟩,hl,hp,hs⟩:=hv.inv
  refine d0u _ _ ⟨fun h=> ?_,fun h=> ?_⟩
  ·rw [c69] at h
   rw [a05,h,Bool.true_or]
  rw [c69] at h
  rw [a05,h,Bool.false_or]
  refine b9z (C:=fun (x:Int × A0) b=>a5x x.2 b) (fun x=>a05 n x.2) v.Slots (fun i hw=>c20 i v _ hw) sa (fun x hx=>c64 n x.2 (hs x hx) (by have:=szS hx; omega)) (fun h1=>by rw [h1,Bool.true_or]) (fun h1=> ?_)
  rw [h1,Bool.false_or]
  refine b9z (C:=fun (x:A0) b=>a5x x b) (a05 n) v.List_ (fun i hw=>c1e i v _ hw) la (fun x hx=>c64 n x (hl x hx) (by have:=szL hx; omega)) (fun h2=>by rw [h2,Bool.true_or]) (fun h2=> ?_)
  rw [h2,Bool.false_or]
  exact b9z (C:=fun (x:A0 × A0) b=>a5x x.2 b) (fun x=>a05 n x.2) v.Pairs (fun i hw=>c04 i v _ hw) pa (fun x hx=>c64 n x.2 (hp x hx).2 (by have:=szP hx; omega)) (fun h3=>h3) (fun h3=>h3)
theorem c07:∀(n:Nat) (v:A0),OkD v ->SizeOf.sizeOf v<=n ->a0g v (a05 n v)
 |0,v,_,h=>by have:=szV v; omega
 |n+1,v,hv,hn=>by
  obtain ⟨_,_,⟨la,pa,sa,ra⟩,hl,hp,hs⟩:=hv.inv
  refine c5v _ _ ⟨fun h=> ?_,fun h=> ?_⟩
  ·rw [c69] at h
   rw [a05,h,Bool.true_or]
  rw [c69] at h
  rw [a05,h,Bool.false_or]
  refine b9z (C:=fun (x:A0) b=>a0g x b) (a05 n) v.List_ (fun i hw=>b9g i v _ hw) la (fun x hx=>c07 n x (hl x hx) (by have:=szL hx; omega)) (fun h2=>by rw [h2,Bool.true_or,Bool.or_true]) (fun h2=> ?_)
  rw [h2,Bool.false_or]
  refine b9z (C:=fun (x:A0 × A0) b=>a0g x.2 b) (fun x=>a05 n x.2) v.Pairs (fun i hw=>b8p i v _ hw) pa (fun x hx=>c07 n x.2 (hp x hx).2 (by have:=szP hx; omega)) (fun h3=>by rw [h3,Bool.or_true]) (fun h3=> ?_)
  rw [h3,Bool.or_false]
  exact b9z (C:=fun (x:Int × A0) b=>a0g x.2 b) (fun x=>a05 n x.2) v.Slots (fun i hw=>b8j i v _ hw) sa (fun x hx=>c07 n x.2 (hs x hx) (by have:=szS hx; omega)) (fun h1=>h1) (fun h1=>h1)
theorem f2l (a:Int):∃k:Int,wI a=a+k*18446744073709551616:=by
 simp only [wI,IntKind.wrap,IntKind.bits,IntKind.signed,Bool.true_and,decide_eq_true_eq]
 split
 ·exact ⟨-(a / 18446744073709551616) - 1,by omega⟩
 ·exact ⟨-(a / 18446744073709551616),by omega⟩
theorem g6w {a b k:Int} (h:a=b+k*18446744073709551616):wI a=wI b:=by
 have:a % 2 ^ (IntKind.bits .i64)=b % 2 ^ (IntKind.bits .i64):=by
  show a % 18446744073709551616=b % 18446744073709551616
  omega
 simp only [wI,IntKind.wrap,this]
theorem f3z (a b:Int):wI (wI a+wI b)=wI (a+b):=by
 obtain ⟨k,hk⟩:=f2l a
 obtain ⟨m,hm⟩:=f2l b
 exact g6w (k:=k+m) (by rw [hk,hm,Int.add_mul]; omega)
theorem d3l {α:Type} {J:Int ->Int ->Prop} {C:α ->Int ->Prop} {E:Int ->Prop} (f:α ->Int) (s:List α)
  (b67:∀i a:Int,((decide (i<(s.length:Int)))=true ->∃y3,s[i.toNat]? =some y3 /\ 0<=i /\ (∃y4,C y3 y4 /\ J (wI (i+1)) (wI (a+y4)))) /\ ((decide (i<(s.length:Int)))=false ->E a) ->J i a)
  (hs:s.length<=140737488351232) (hC:∀x∈s,C x (wI (f x))) (a:Int) (h:E (wI (a+(s.map f).sum))):J 0 (wI a):=by
 have key:∀(d i:Nat) (a:Int),s.length - i<=d ->i<=s.length ->E (wI (a+((s.drop i).map f).sum)) ->J i (wI a):=by
  intro d
  induction d with
  |zero=>
   intro i a hd hi hE
   refine b67 _ _ ⟨fun h=>by simp at h; omega,fun _=> ?_⟩
   rw [List.drop_eq_nil_of_le (by omega)] at hE
   simpa using hE
  |succ d ih=>
   intro i a hd hi hE
   rcases Nat.lt_or_ge i s.length with hlt|hge
   ·have e1:wI ((i:Int)+1)=((i+1:Nat):Int):=by rw [wI,D2 (by omega)]; omega
    have dl:s.drop i=s[i]::s.drop (i+1):=List.drop_eq_getElem_cons hlt
    rw [dl,List.map_cons,List.sum_cons] at hE
    refine b67 _ _ ⟨fun _=>⟨s[i],by simp,by omega,_,hC _ (List.getElem_mem _), ?_⟩,fun h=>by simp at h; omega⟩
    rw [e1,f3z]
    exact ih (i+1) (a+f s[i]) (by omega) (by omega) (by rw [Int.add_assoc]; exact hE)
   ·refine b67 _ _ ⟨fun h=>by simp at h; omega,fun _=> ?_⟩
    rw [List.drop_eq_nil_of_le hge] at hE
    simpa using hE
 exact key s.length 0 a (by omega) (by omega) (by simpa using h)
def b23:Nat ->A0 ->Int
 |0,_=>0
 |n+1,v=>1+(v.Raws.length:Int)+(v.List_.map (b23 n)).sum+(v.Pairs.map fun x=>b23 n x.1+b23 n x.2).sum+(v.Slots.map fun x=>b23 n x.2).sum
theorem b3e:∀(n:Nat) (v:A0),OkD v ->SizeOf.sizeOf v<=n ->U1 v (wI (b23 n v))
 |0,v,_,h=>by have:=szV v; omega
 |n+1,v,hv,hn=>by
  obtain ⟨_,_,⟨la,pa,sa,ra⟩,hl,hp,hs⟩:=hv.inv
  refine c5w _ _ ?_
  refine d3l (J:=fun i a=>a7d i a v (wI (b23 (n+1) v))) (C:=fun (x:A0) b=>U1 x b) (b23 n) v.List_ (fun i a hw=>b9d i a v _ hw) la (fun x hx=>b3e n x (hl x hx) (by have:=szL hx; omega)) _ ?_
  refine d3l (J:=fun i a=>a5z i a v (wI (b23 (n+1) v))) (C:=fun (x:A0 × A0) b=>∃u w,U1 x.1 u /\ U1 x.2 w /\ b=wI (u+w)) (fun x:A0 × A0=>b23 n x.1+b23 n x.2) v.Pairs (fun i a hw=>b8g i a v _ ⟨fun h=> ?_,hw.2⟩) pa (fun x hx=> ?_) _ ?_
  ·obtain ⟨y,h1,h2,b,⟨u,w,c1,c2,rfl⟩,h3⟩:=hw.1 h
   exact ⟨y,h1,h2,u,c1,y,h1,h2,w,c2,h3⟩
  ·have hz:=szP hx
   exact ⟨_,_,b3e n _ (hp x hx).1 (by omega),b3e n _ (hp x hx).2 (by omega),(f3z _ _).symm⟩
  refine d3l (J:=fun i a=>a5t i a v (wI (b23 (n+1) v))) (C:=fun (x:Int × A0) b=>U1 x.2 b) (fun x:Int × A0=>b23 n x.2) v.Slots (fun i a hw=>b8n i a v _ hw) sa (fun x hx=>b3e n _ (hs x hx) (by have:=szS hx; omega)) _ ?_
  rfl
theorem d3h (n:Int): -9223372036854775808<=wI n /\ wI n<=9223372036854775807:=by simp only [wI,IntKind.wrap,IntKind.signed,IntKind.bits]; simp; omega
theorem d70 {n:Int} (h: -9223372036854775808<=n /\ n<=9223372036854775807):e8k n<18446744073709551616:=by unfold e8k; split<;>omega
theorem d5s:∀k u:Nat,u<128 ^ k ->1<=k ->(e1y u).length<=k
 |0,u,h,h1=>by omega
 |k+1,u,h,h1=>by
  rw [e1y]
  split
  ·simp
  ·rename_i hu
   rcases Nat.eq_zero_or_pos k with h0|h0
   ·subst h0; simp at h; omega
   ·have:=d5s k (u / 128) (by rw [Nat.pow_succ] at h; omega) h0
    simp; omega
theorem a72 (u:Nat) (h:u<18446744073709551616):(c3q u).size<=10:=by rw [c3q,d10]; exact d5s 10 u (by omega) (by omega)
def e8f (v:A0):ByteArray:=
 if c32 v.Kind v=true then
  if v.Kind=1 then ofI [v.Bits % 256]
  else if v.Kind=2\/v.Kind=3 then c3q (e8k (wI v.Bits))
  else if v.Kind=6 then e8g (a40 v).Bits.toNat
  else if v.Kind=7\/v.Kind=8 then c3q v.Text.size++v.Text
  else c3q v.Bits.toNat
 else ⟨#[]⟩
theorem d1j (v:A0) (hv:OkV v):0<=(a40 v).Bits /\ (a40 v).Bits<18446744073709551616:=by
 unfold a40
 split
 ·exact ⟨(by decide:(0:Int)<=9221120237041090560),(by decide:(9221120237041090560:Int)<18446744073709551616)⟩
 ·exact ⟨hv.b0,hv.b1⟩
theorem f2e {n:Int}:IntKind.u8.wrap n=n % 256:=by simp [IntKind.wrap,IntKind.signed,IntKind.bits]
theorem e3n (v:A0) (hv:OkV v) (b:Bool):b2b b v (if b=true then c3q v.Text.size++v.Text else c3q v.Bits.toNat):=by
 have h1:=hv.t; have h2:=hv.b0; have h3:=hv.b1
 have e1:wU (v.Text.size:Int)=(v.Text.size:Int):=b0n (by omega)
 have hp:=a72 v.Text.size (by omega)
 refine c3z _ _ _ ⟨fun h=>⟨_,by rw [e1]; exact c78 _ (by omega),by omega,by rw [if_pos h]⟩,fun h=>⟨c3q v.Bits.toNat, ?_,by rw [h]; rfl⟩⟩
 have:=c78 v.Bits.toNat (by omega)
 rw [show ((v.Bits.toNat:Nat):Int)=v.Bits by omega] at this
 exact this
theorem f30 (v:A0) (hv:OkV v) (b:Bool):b7w b v (if b=true then c3q v.Text.size++v.Text else c3q v.Bits.toNat):=by
 have h1:=hv.t; have h2:=hv.b0; have h3:=hv.b1
 have e1:wU (v.Text.size:Int)=(v.Text.size:Int):=b0n (by omega)
 have hp:=a72 v.Text.size (by omega)
 refine c77 _ _ _ ⟨fun h=>⟨_,by rw [e1]; exact d45 _ (by omega),by omega,by rw [if_pos h]⟩,fun h=>⟨c3q v.Bits.toNat, ?_,by rw [h]; rfl⟩⟩
 have:=d45 v.Bits.toNat (by omega)
 rw [show ((v.Bits.toNat:Nat):Int)=v.Bits by omega] at this
 exact this
def e8h (b:Bool) (v:A0):ByteArray:=if b=true then c3q (e8k (wI v.Bits)) else if v.Kind=6 then e8g (a40 v).Bits.toNat else if v.Kind=7\/v.Kind=8 then c3q v.Text.size++v.Text else c3q v.Bits.toNat
theorem f2m (v:A0) (hv:OkV v) (b:Bool):b7z b v (e8h b v):=by
 have hn:=d1j v hv
 have hr:=d3h v.Bits
 refine c7z _ _ _ ⟨fun h=>⟨_,g1i _ hr,_,d45 _ (d70 hr),by rw [e8h,if_pos h]⟩,fun h=>⟨fun h2=> ?_,fun h2=>⟨fun h3=> ?_,fun h3=> ?_⟩⟩⟩
 all_goals simp only [beq_iff_eq,beq_eq_false_iff_ne] at*
 all_goals rw [e8h,if_neg (by rw [h]; decide)]
 ·refine ⟨_,d6f v ⟨hv.b0,hv.b1⟩,e8g (a40 v).Bits.toNat, ?_,by rw [if_pos h2]⟩
  have:=e7i (a40 v).Bits.toNat
  rw [show (((a40 v).Bits.toNat:Nat):Int)=(a40 v).Bits by omega] at this
  exact this
 ·have:=f30 v hv (v.Kind==7)
  rw [if_pos (by simpa using h3)] at this
  rw [if_neg h2,if_pos (.inl h3)]; exact this
 ·have:=f30 v hv (v.Kind==8)
  rw [if_neg h2]
  by_cases h8:v.Kind=8
  ·rw [if_pos (by simpa using h8)] at this; rw [if_pos (.inr h8)]; exact this
  ·rw [if_neg (by simpa using h8)] at this; rw [if_neg (by omega)]; exact this
theorem e13 (v:A0) (hv:OkV v) (b:Bool):b1q b v (e8h b v):=by
 have hn:=d1j v hv
 have hr:=d3h v.Bits
 refine c3m _ _ _ ⟨fun h=>⟨_,f40 _ hr,_,c78 _ (d70 hr),by rw [e8h,if_pos h]⟩,fun h=>⟨fun h2=> ?_,fun h2=>⟨fun h3=> ?_,fun h3=> ?_⟩⟩⟩
 all_goals simp only [beq_iff_eq,beq_eq_false_iff_ne] at*
 all_goals rw [e8h,if_neg (by rw [h]; decide)]
 ·refine ⟨_,d16 v ⟨hv.b0,hv.b1⟩,e8g (a40 v).Bits.toNat, ?_,by rw [if_pos h2]⟩
  have:=e08 (a40 v).Bits.toNat (by omega)
  rw [show (((a40 v).Bits.toNat:Nat):Int)=(a40 v).Bits by omega] at this
  exact this
 ·have:=e3n v hv (v.Kind==7)
  rw [if_pos (by simpa using h3)] at this
  rw [if_neg h2,if_pos (.inl h3)]; exact this
 ·have:=e3n v hv (v.Kind==8)
  rw [if_neg h2]
  by_cases h8:v.Kind=8
  ·rw [if_pos (by simpa using h8)] at this; rw [if_pos (.inr h8)]; exact this
  ·rw [if_neg (by simpa using h8)] at this; rw [if_neg (by omega)]; exact this
theorem d4x (v:A0) (hv:OkV v):d2y v (e8f v):=by
 refine d4y _ _ ⟨_,e7a v.Kind v hv,fun h=> ?_,fun h=> ?_⟩
 ·have:c32 v.Kind v=false:=by rw [<-Bool.not_eq_true']; exact h
  rw [e8f,this]; rfl
 ·have:c32 v.Kind v=true:=by rw [<-Bool.not_eq_false']; exact h
  rw [e8f,if_pos this]
  refine ⟨fun h1=>⟨_, ?_,by rw [if_pos (by simpa using h1)]⟩,fun h1=>⟨fun h2=> ?_,fun h2=> ?_⟩⟩
  ·rw [f2e]
   exact c5b (a4v (by omega))
  ·have:=f2m v hv (v.Kind==2)
   simp only [beq_iff_eq,beq_eq_false_iff_ne] at h1 h2
   rw [if_neg h1,if_pos (.inl h2)]
   rw [e8h,if_pos (by simpa using h2)] at this
   exact this
  ·have:=f2m v hv (v.Kind==3)
   simp only [beq_iff_eq,beq_eq_false_iff_ne] at h1 h2
   rw [if_neg h1]
   unfold e8h at this
   by_cases h3:v.Kind=3
   ·rw [if_pos (.inr h3)]
    rw [if_pos (by simpa using h3)] at this
    exact this
   ·rw [if_neg (by omega)]
    rw [if_neg (by simpa using h3)] at this
    exact this
theorem d1v (v:A0) (hv:OkV v):c1l v (e8f v):=by
 refine d0k _ _ ⟨_,d29 v.Kind v hv,fun h=> ?_,fun h=> ?_⟩
 ·have:c32 v.Kind v=false:=by rw [<-Bool.not_eq_true']; exact h
  rw [e8f,this]; rfl
 ·have:c32 v.Kind v=true:=by rw [<-Bool.not_eq_false']; exact h
  rw [e8f,if_pos this]
  refine ⟨fun h1=>⟨_, ?_,by rw [if_pos (by simpa using h1)]⟩,fun h1=>⟨fun h2=> ?_,fun h2=> ?_⟩⟩
  ·rw [f2e]
   exact c5b (a4v (by omega))
  ·have:=e13 v hv (v.Kind==2)
   simp only [beq_iff_eq,beq_eq_false_iff_ne] at h1 h2
   rw [if_neg h1,if_pos (.inl h2)]
   rw [e8h,if_pos (by simpa using h2)] at this
   exact this
  ·have:=e13 v hv (v.Kind==3)
   simp only [beq_iff_eq,beq_eq_false_iff_ne] at h1 h2
   rw [if_neg h1]
   unfold e8h at this
   by_cases h3:v.Kind=3
   ·rw [if_pos (.inr h3)]
    rw [if_pos (by simpa using h3)] at this
    exact this
   ·rw [if_neg (by omega)]
    rw [if_neg (by simpa using h3)] at this
    exact this
def V0:A0:=⟨0,0,⟨#[]⟩,[],[],[],[]⟩
def e7x (p:A6) (enum num:Int):Bool:=
 if enum<0\/(p.Enums.length:Int)<=enum\/2147483647<num then false else (p.Enums[enum.toNat]?).any fun y=>y.Open||y.Items.any fun it=>decide (it.Num=num)
structure OkE (p:A6):Prop where
 n:p.Enums.length<=140737488351232
 i:∀y∈p.Enums,y.Items.length<=140737488351232 /\ ∀it∈y.Items, -9223372036854775808<=it.Num /\ it.Num<=9223372036854775807
def h1g (num:Int):GFn:=⟨86,[],[.elt [.v (.int .u64 num)] 0],by simp [plainL,plain]⟩
theorem e4l (num:Int) (hn:0<=num /\ num<=2147483647) (l:List b2t) (hl:l.length<=140737488351232) (hi:∀it∈l, -9223372036854775808<=it.Num /\ it.Num<=9223372036854775807):∀n i:Nat,l.length - i<=n ->i<=l.length ->
  ∃r,L6 i l (h1g num) r /\ (0<=r↔∃it∈l.drop i,it.Num=num):=by
 intro n
 induction n with
 |zero=>
  intro i h1 h2
  refine ⟨-1,G6 _ _ _ _ ⟨fun h=>by simp only [decide_eq_true_eq] at h; omega,fun _=>rfl⟩, ?_⟩
  have:l.drop i=[]:=List.drop_eq_nil_of_le (by omega)
  simp [this]
 |succ n ih=>
  intro i h1 h2
  rcases Nat.lt_or_ge i l.length with hlt|hge
  ·have hy:l[i]? =some l[i]:=List.getElem?_eq_getElem hlt
   have hmem:l[i]∈l:=List.getElem_mem hlt
   have hr:=hi _ hmem
   have hd:l.drop i=l[i]::l.drop (i+1):=List.drop_eq_getElem_cons hlt
   have ht:((i:Int)).toNat=i:=by omega
   have hw:(wU (l[i]).Num==num)=decide ((l[i]).Num=num):=by
    rw [Bool.eq_iff_iff]
    simp only [beq_iff_eq,decide_eq_true_eq]
    rcases Int.lt_or_le (l[i]).Num 0 with h0|h0
    ·rw [f4d ⟨hr.1,h0⟩]; omega
    ·have:wU (l[i]).Num=(l[i]).Num:=b0n (by omega)
     rw [this]
   have hc:=c09 l[i] num _ (b80 l[i] num _ rfl)
   by_cases he:(l[i]).Num=num
   ·refine ⟨i,G6 _ _ _ _ ⟨fun _=>⟨l[i],by rw [ht]; exact hy,by omega,_,hc,fun _=>rfl,fun h=> ?_⟩,fun h=>by simp only [decide_eq_false_iff_not] at h; omega⟩, ?_⟩
    ·rw [hw,decide_eq_true he] at h; cases h
    ·rw [hd]
     exact ⟨fun _=>⟨_,List.mem_cons_self,he⟩,fun _=>by omega⟩
   ·obtain ⟨r,hr1,hr2⟩:=ih (i+1) (by omega) (by omega)
    refine ⟨r,G6 _ _ _ _ ⟨fun _=>⟨l[i],by rw [ht]; exact hy,by omega,_,hc,fun h=> ?_,fun _=> ?_⟩,fun h=>by simp only [decide_eq_false_iff_not] at h; omega⟩, ?_⟩
    ·rw [hw,decide_eq_false he] at h; cases h
    ·rw [wI,D2 (by omega)]; exact hr1
    ·rw [hr2,hd]
     exact ⟨fun ⟨it,k1,k2⟩=>⟨it,List.mem_cons_of_mem _ k1,k2⟩,fun ⟨it,k1,k2⟩=>(List.mem_cons.1 k1).elim (fun e=>(he (by rw [<-e]; exact k2)).elim) fun k1=>⟨it,k1,k2⟩⟩
  ·refine ⟨-1,G6 _ _ _ _ ⟨fun h=>by simp only [decide_eq_true_eq] at h; omega,fun _=>rfl⟩, ?_⟩
   have:l.drop i=[]:=List.drop_eq_nil_of_le (by omega)
   simp [this]
theorem d1d (p:A6) (hp:OkE p) (enum num:Int) (hn:0<=num):b2c p enum num (e7x p enum num):=by
 refine c3x _ _ _ _ ⟨fun h=> ?_,fun h=> ?_⟩
 ·rw [e7x,if_pos]
  simp only [Bool.or_eq_true,decide_eq_true_eq] at h
  omega
 ·simp only [Bool.or_eq_false_iff,decide_eq_false_iff_not] at h
  have hlt:enum.toNat<p.Enums.length:=by omega
  have hy:p.Enums[enum.toNat]? =some p.Enums[enum.toNat]:=List.getElem?_eq_getElem hlt
  obtain ⟨hl,hi⟩:=hp.i _ (List.getElem_mem hlt)
  rw [e7x,if_neg (by omega),hy]
  generalize p.Enums[enum.toNat]=y at*
  refine ⟨y,rfl,by omega,fun h2=>by simp [h2],fun h2=> ?_⟩
  obtain ⟨r,hr1,hr2⟩:=e4l num ⟨hn,by omega⟩ y.Items hl hi y.Items.length 0 (by omega) (by omega)
  refine ⟨_,a4k _ _ _ ⟨r,a53 _ _ _ hr1,rfl⟩, ?_⟩
  simp only [h2,Option.any_some,Bool.false_or]
  rw [Bool.eq_iff_iff,decide_eq_true_eq,hr2,List.drop_zero,List.any_eq_true]
  simp
theorem f80 (p:A6) (enum num:Int) (y:a0r) (hy:p.Enums[enum.toNat]? =some y) (he:0<=enum) (hn:0<=num /\ num<=2147483647) (hl:y.Items.length<=140737488351232):∀n i:Nat,∀b:Bool,y.Items.length - i<=n ->i<=y.Items.length ->a0k i b enum num p (b||(y.Items.drop i).any fun it=>decide (it.Num=num)):=by
 intro n
 induction n with
 |zero=>
  intro i b h1 h2
  refine a71 _ _ _ _ _ _ ⟨y,hy,he,fun h=>by simp only [decide_eq_true_eq] at h; omega,fun _=> ?_⟩
  rw [List.drop_eq_nil_of_le (by omega)]; simp
 |succ n ih=>
  intro i b h1 h2
  refine a71 _ _ _ _ _ _ ⟨y,hy,he,fun h=> ?_,fun h=> ?_⟩
  ·simp only [decide_eq_true_eq] at h
   have hlt:i<y.Items.length:=by omega
   have hd:=List.drop_eq_getElem_cons hlt
   have ht:((i:Int)).toNat=i:=by omega
   have ei:wI ((i:Int)+1)=((i+1:Nat):Int):=by rw [wI,D2 (by omega)]; omega
   rw [ei]
   refine ⟨fun hb=> ?_,fun hb=>⟨y,hy,he,y.Items[i],by rw [ht]; exact List.getElem?_eq_getElem hlt,by omega, ?_⟩⟩
   ·have:=ih (i+1) true (by omega) (by omega)
    rw [hb]; exact this
   ·have:=ih (i+1) (y.Items[i].Num==wI num) (by omega) (by omega)
    have ew:wI num=num:=D2 (by omega)
    rw [ew] at this ⊢
    rw [hb,hd]
    simp only [List.any_cons,Bool.false_or]
    exact this
  ·simp only [decide_eq_false_iff_not] at h
   rw [List.drop_eq_nil_of_le (by omega)]; simp
theorem c9p (p:A6) (hp:OkE p) (enum num:Int) (hn:0<=num):a9n p enum num (e7x p enum num):=by
 refine c0m _ _ _ _ ⟨fun h=> ?_,fun h=> ?_⟩
 ·rw [e7x,if_pos]
  simp only [Bool.or_eq_true,decide_eq_true_eq] at h
  omega
 ·simp only [Bool.or_eq_false_iff,decide_eq_false_iff_not] at h
  have hlt:enum.toNat<p.Enums.length:=by omega
  have hy:p.Enums[enum.toNat]? =some p.Enums[enum.toNat]:=List.getElem?_eq_getElem hlt
  obtain ⟨hl,hi⟩:=hp.i _ (List.getElem_mem hlt)
  rw [e7x,if_neg (by omega),hy]
  generalize p.Enums[enum.toNat]=y at*
  have:=f80 p enum num y hy (by omega) ⟨hn,by omega⟩ hl y.Items.length 0 y.Open (by omega) (by omega)
  exact ⟨y,rfl,by omega,this⟩
theorem I9 (a b:ByteArray):(a++b).size=a.size+b.size:=ByteArray.size_append
theorem f0j (u:Nat):(e8g u).size=8:=by rw [e8g,d10]; simp [d7a]
def Ex {α:Type} (Q p:α ->Prop):Prop:=∃r,p r /\ Q r
section
variable {α β:Type} {Q:α ->Prop}
theorem F3 {e:α} (h:Q e):Ex Q (fun r=>r=e):=⟨e,rfl,h⟩
theorem E7 {c:Prop} [Decidable c] {p q:α ->Prop} (h1:c ->Ex Q p) (h2:¬c ->Ex Q q):Ex Q (fun r=>(decide c=true ->p r) /\ (decide c=false ->q r)):=by
 by_cases h:c
 ·obtain ⟨r,a,b⟩:=h1 h
  exact ⟨r,⟨fun _=>a,fun h'=>absurd h (of_decide_eq_false h')⟩,b⟩
 ·obtain ⟨r,a,b⟩:=h2 h
  exact ⟨r,⟨fun h'=>absurd (of_decide_eq_true h') h,fun _=>a⟩,b⟩
theorem M6 {c:Prop} [Decidable c] {p q:α ->Prop} (h1:¬c ->Ex Q p) (h2:c ->Ex Q q):Ex Q (fun r=>((!decide c)=true ->p r) /\ ((!decide c)=false ->q r)):=by
 by_cases h:c
 ·obtain ⟨r,a,b⟩:=h2 h
  exact ⟨r,⟨fun h'=>by simp [h] at h',fun _=>a⟩,b⟩
 ·obtain ⟨r,a,b⟩:=h1 h
  exact ⟨r,⟨fun _=>a,fun h'=>by simp [h] at h'⟩,b⟩
theorem B6 (B:Bool) {p q:α ->Prop} (h1:B=true ->Ex Q p) (h2:B=false ->Ex Q q):Ex Q (fun r=>(B=true ->p r) /\ (B=false ->q r)):=by
 cases hB:B with
 |true=>obtain ⟨r,a,b⟩:=h1 hB; exact ⟨r,⟨fun _=>a,fun h=>by cases h⟩,b⟩
 |false=>obtain ⟨r,a,b⟩:=h2 hB; exact ⟨r,⟨fun h=>(by cases h),fun _=>a⟩,b⟩
theorem E8 {F:β ->Prop} {G:β ->α ->Prop} {S:β ->Prop} (h:Ex S F) (k:∀y,S y ->Ex Q (G y)):Ex Q (fun r=>∃y,F y /\ G y r):=by
 obtain ⟨y,hy,hs⟩:=h
 obtain ⟨r,a,b⟩:=k y hs
 exact ⟨r,⟨y,hy,a⟩,b⟩
theorem e8b {F:β ->Prop} {G:β ->α ->Prop} {v:β} (h:F v) (k:Ex Q (G v)):Ex Q (fun r=>∃y,F y /\ G y r):=by
 obtain ⟨r,a,b⟩:=k
 exact ⟨r,⟨v,h,a⟩,b⟩
theorem D6 {l:List β} {i:Int} {G:β ->α ->Prop} (h:0<=i /\ i<l.length) (k:∀y,l[i.toNat]? =some y ->y∈l ->Ex Q (G y)):Ex Q (fun r=>∃y,l[i.toNat]? =some y /\ 0<=i /\ G y r):=by
 have hlt:i.toNat<l.length:=by omega
 have he:=List.getElem?_eq_getElem hlt
 obtain ⟨r,a,b⟩:=k _ he (List.getElem_mem hlt)
 exact ⟨r,⟨_,he,h.1,a⟩,b⟩
theorem a6a {l:List β} {i:Int} {G:β ->α ->Prop} (y:β) (hy:l[i.toNat]? =some y) (h:0<=i) (k:Ex Q (G y)):Ex Q (fun r=>∃y,l[i.toNat]? =some y /\ 0<=i /\ G y r):=by
 obtain ⟨r,a,b⟩:=k
 exact ⟨r,⟨y,hy,h,a⟩,b⟩
theorem D7 {A:Prop} {G:α ->Prop} (h:A) (k:Ex Q G):Ex Q (fun r=>A /\ G r):=by
 obtain ⟨r,a,b⟩:=k
 exact ⟨r,⟨h,a⟩,b⟩
theorem C4 {G:β ->α ->Prop} {H:(β ->Prop) ->α ->Prop} (k:Ex Q (fun r=>H (fun z=>G z r) r)):Ex Q (fun r=>∃R:β ->Prop,(∀z,R z ->G z r) /\ H R r):=by
 obtain ⟨r,a,b⟩:=k
 exact ⟨r,⟨fun z=>G z r,fun z h=>h,a⟩,b⟩
theorem B3 {p F:α ->Prop} (h:∀r,p r ->F r) (k:Ex Q p):Ex Q F:=by
 obtain ⟨r,a,b⟩:=k
 exact ⟨r,h r a,b⟩
theorem e16 {p:α ->Prop} {S:α ->Prop} (h:Ex S p) (k:∀r,S r ->Q r):Ex Q p:=by
 obtain ⟨r,a,b⟩:=h
 exact ⟨r,a,k r b⟩
theorem Ex.to {p:α ->Prop} (h:Ex Q p):∃r,p r /\ Q r:=h
end
theorem upn {T:Nat ->Prop} (n:Nat) (b67:∀i,i<n ->T (i+1) ->T i) (fin:∀i,n<=i ->T i):∀i,T i:=by
 have:∀k i,n - i<=k ->T i:=by
  intro k
  induction k with
  |zero=>exact fun i h=>fin i (by omega)
  |succ k ih=>
   intro i h
   rcases Nat.lt_or_ge i n with h1|h1
   ·exact b67 i h1 (ih (i+1) (by omega))
   ·exact fin i h1
 exact fun i=>this (n - i) i (Nat.le_refl _)
theorem S5 {i:Nat} (h:i<=4611686018427387904):wI ((i:Int)+1)=((i+1:Nat):Int):=by rw [wI,D2 (by omega)]; omega
theorem c70 {i:Nat} (h:0<i /\ i<=4611686018427387904):wI ((i:Int) - 1)=((i - 1:Nat):Int):=by rw [wI,D2 (by omega)]; omega
def yes {α:Type}:α ->Prop:=fun _=>True
theorem d7z (b:Int):Ex yes (b4y b):=B3 (c54 _) (F3 trivial)
theorem c83 (b:Int):Ex yes (a9b b):=B3 (c1c _) (F3 trivial)
theorem f0f (s:ByteArray) (hs:s.size<=140737488351232):∀i:Nat,Ex yes (a13 (i:Int) s):=by
 refine upn (s.size) (fun i hi ih=> ?_) (fun i hi=> ?_)
 ·refine B3 (a8t _ _) ?_
  rw [S5 (by omega)]
  repeat' first|exact F3 trivial|exact ih|assumption|refine C4 ?_|refine E7 (fun h=> ?_) (fun h=> ?_)|refine M6 (fun h=> ?_) (fun h=> ?_)|refine B6 _ (fun h=> ?_) (fun h=> ?_)|refine D6 (by omega) (fun y hy hm=> ?_)|refine D7 (by omega) ?_|refine E8 (d7z _) (fun y hq=> ?_)|refine E8 (c83 _) (fun y hq=> ?_)
 ·refine B3 (a8t _ _) ?_
  repeat' first|exact F3 trivial|exact ih|assumption|exact absurd ‹_› (by omega)|(exfalso; omega)|refine C4 ?_|refine E7 (fun h=> ?_) (fun h=> ?_)|refine M6 (fun h=> ?_) (fun h=> ?_)|refine B6 _ (fun h=> ?_) (fun h=> ?_)|refine D6 (by omega) (fun y hy hm=> ?_)|refine D7 (by omega) ?_|refine E8 (d7z _) (fun y hq=> ?_)|refine E8 (c83 _) (fun y hq=> ?_)
theorem e34 (s:ByteArray) (hs:s.size<=140737488351232):Ex yes (a8b s):=by
 refine B3 (c4c _) ?_
 repeat' first|exact F3 trivial|exact ih|assumption|exact f0f s hs 1|refine C4 ?_|refine E7 (fun h=> ?_) (fun h=> ?_)|refine M6 (fun h=> ?_) (fun h=> ?_)|refine B6 _ (fun h=> ?_) (fun h=> ?_)|refine D6 (by first|omega|(simp only [Bool.or_eq_false_iff,Bool.or_eq_true,Bool.and_eq_true,Bool.and_eq_false_iff,beq_iff_eq,beq_eq_false_iff_ne,decide_eq_false_iff_not,decide_eq_true_eq,ne_eq] at*; omega)) (fun y hy hm=> ?_)|refine D7 (by first|omega|(simp only [Bool.or_eq_false_iff,Bool.or_eq_true,Bool.and_eq_true,Bool.and_eq_false_iff,beq_iff_eq,beq_eq_false_iff_ne,decide_eq_false_iff_not,decide_eq_true_eq,ne_eq] at*; omega)) ?_|refine E8 (d7z _) (fun y hq=> ?_)|refine E8 (c83 _) (fun y hq=> ?_)
theorem f2j (s:ByteArray):Ex yes (b11 s):=by
 refine B3 (c3u _) ?_
 repeat' first|exact F3 trivial|exact ih|assumption|refine C4 ?_|refine E7 (fun h=> ?_) (fun h=> ?_)|refine M6 (fun h=> ?_) (fun h=> ?_)|refine B6 _ (fun h=> ?_) (fun h=> ?_)|refine D6 (by omega) (fun y hy hm=> ?_)|refine D7 (by omega) ?_
theorem e9k (s:ByteArray) (hs:s.size<=140737488351232):∀i:Nat,∀w:ByteArray,w.size<=i /\ i<=140737488351232 ->Ex yes (a1j (i:Int) w s):=by
 refine upn s.size (fun i hi ih w hw=> ?_) (fun i hi w hw=> ?_)
 ·have hz:(s.extract ((i:Int)).toNat (((i+1:Nat):Int)).toNat).size<=1:=by rw [b36 _ (by omega)]; omega
  refine B3 (a8w _ _ _) ?_
  rw [S5 (by omega)]
  repeat' first|exact F3 trivial|exact ih|assumption|exact ih _ (by rw [I9]; omega)|exact ih ⟨#[]⟩ ⟨Nat.zero_le _,by omega⟩|refine C4 ?_|refine E7 (fun h=> ?_) (fun h=> ?_)|refine M6 (fun h=> ?_) (fun h=> ?_)|refine B6 _ (fun h=> ?_) (fun h=> ?_)|refine D6 (by omega) (fun y hy hm=> ?_)|refine D7 (by omega) ?_|refine E8 (e34 _ (by omega)) (fun y hq=> ?_)
 ·refine B3 (a8w _ _ _) ?_
  repeat' first|exact F3 trivial|exact ih|assumption|exact absurd ‹_› (by omega)|refine C4 ?_|refine E7 (fun h=> ?_) (fun h=> ?_)|refine M6 (fun h=> ?_) (fun h=> ?_)|refine B6 _ (fun h=> ?_) (fun h=> ?_)|refine D6 (by omega) (fun y hy hm=> ?_)|refine D7 (by omega) ?_|refine E8 (e34 _ (by omega)) (fun y hq=> ?_)
theorem f9r (s:ByteArray) (hs:s.size<=140737488351232):Ex yes (b66 s):=by
 refine B3 (c3d _) ?_
 repeat' first|exact F3 trivial|exact ih|assumption|exact e9k s hs 0 ⟨#[]⟩ ⟨Nat.zero_le _,by omega⟩|refine C4 ?_|refine E7 (fun h=> ?_) (fun h=> ?_)|refine M6 (fun h=> ?_) (fun h=> ?_)|refine B6 _ (fun h=> ?_) (fun h=> ?_)|refine D6 (by omega) (fun y hy hm=> ?_)|refine D7 (by omega) ?_
def d82 (s:ByteArray) (r:ByteArray × ByteArray):Prop:=r.1.size<=s.size - 1
theorem e7t (s:ByteArray) (hs:s.size<=140737488351232):∀k:Nat,k<=s.size ->Ex (d82 s) (a65 ((k:Int) - 1) s):=by
 intro k
 induction k with
 |zero=>exact fun _=>B3 (b0c _ _) (E7 (fun h=>absurd h (by omega)) fun _=>F3 (Nat.zero_le _))
 |succ k ih=>
  intro hk
  have e:wI (((k+1:Nat):Int) - 1 - 1)=(k:Int) - 1:=by rw [wI,D2 (by omega)]; omega
  refine B3 (b0c _ _) ?_
  rw [e]
  refine E7 (fun h=>D7 (by omega) (B6 _ (fun _=>D7 (by omega) (D7 ?_ (F3 ?_))) fun _=>ih (by omega))) fun h=>absurd (show (0:Int)<=((k+1:Nat):Int) - 1 by omega) h
  ·rw [wI,D2 (by omega)]; omega
  ·unfold d82; simp only; rw [b36 _ (by omega)]; omega
theorem f52 (s:ByteArray) (hs:s.size<=140737488351232):Ex (d82 s) (b82 s):=by
 refine B3 (c6d _) ?_
 rw [wI,D2 (by omega)]
 exact e7t s hs s.size (Nat.le_refl _)
theorem g3p {s:ByteArray} (h:s.size=0):s=⟨#[]⟩:=ByteArray.ext (Array.eq_empty_of_size_eq_zero h)
theorem d67:∀n:Nat,∀s:ByteArray,s.size<=n ->n<=140737488351232 ->Ex yes (a3u s):=by
 intro n
 induction n with
 |zero=>
  intro s h _
  refine B3 (a79 _) (M6 (fun h0=> ?_) fun _=>F3 trivial)
  exact absurd (g3p (by omega)) h0
 |succ n ih=>
  intro s h hn
  refine B3 (a79 _) (M6 (fun h0=> ?_) fun _=>F3 trivial)
  refine E8 (f52 s (by omega)) fun y hy=>E8 (f2j _) fun y2 _=>B6 _ (fun _=>F3 trivial) fun _=> ?_
  unfold d82 at hy
  exact ih _ (by omega) (by omega)
theorem c17 (s:ByteArray) (hs:s.size<=140737488351232):Ex yes (a9o s):=by
 refine B3 (c1u _) ?_
 repeat' first|exact F3 trivial|exact ih|assumption|exact d67 _ s (Nat.le_refl _) hs|refine C4 ?_|refine E7 (fun h=> ?_) (fun h=> ?_)|refine M6 (fun h=> ?_) (fun h=> ?_)|refine B6 _ (fun h=> ?_) (fun h=> ?_)|refine D6 (by omega) (fun y hy hm=> ?_)|refine D7 (by omega) ?_|refine E8 (f9r s hs) (fun y hq=> ?_)
theorem c6l (s:ByteArray) (hs:s.size<=140737488351232):Ex yes (b2g s):=by
 refine B3 (c3b _) ?_
 repeat' first|exact F3 trivial|exact ih|assumption|refine C4 ?_|refine E7 (fun h=> ?_) (fun h=> ?_)|refine M6 (fun h=> ?_) (fun h=> ?_)|refine B6 _ (fun h=> ?_) (fun h=> ?_)|refine D6 (by omega) (fun y hy hm=> ?_)|refine D7 (by omega) ?_|refine E8 (e34 s hs) (fun y hq=> ?_)|refine E8 (f2j s) (fun y hq=> ?_)
structure g20 (o:GOp):Prop where
 num:I64 o.Num
 name:Sz o.Name.size
 alias_:Sz o.Alias.size
 card:I64 o.Card
 key:I64 o.Key
 kind:I64 o.Kind
 target:I64 o.Target
 union:I64 o.Union
structure b6j (g:C1):Prop where
 name:Sz g.Name.size
 n:Sz g.Ops.length
 ops:∀o∈g.Ops,g20 o
 unions:I64 g.Unions
structure c7n (n:b1k):Prop where
 name:Sz n.Name.size
 val:OkD n.Val
structure e4p (x:b2t):Prop where
 name:Sz x.Name.size
 num:I64 x.Num
 nn:Sz x.Notes.length
 notes:∀n∈x.Notes,c7n n
structure e4a (x:b8o):Prop where
 from_:I64 x.From
 to_:I64 x.To
structure b8s (e:a0r):Prop where
 name:Sz e.Name.size
 ni:Sz e.Items.length
 items:∀x∈e.Items,e4p x
 nr:Sz e.Reserved.length
 reserved:∀x∈e.Reserved,e4a x
 nn:Sz e.Notes.length
 notes:∀x∈e.Notes,c7n x
structure b5o (p:A6):Prop where
 np:Sz p.Progs.length
 progs:∀g∈p.Progs,b6j g
 ne:Sz p.Enums.length
 enums:∀e∈p.Enums,b8s e
section
variable {n:Nat} {avs:List AV} {av:AV}
theorem f7a (h:Ty Tryz.prog n 151 avs):∃x,avs=a6o x /\ c7n x:=by
 obtain ⟨m,rfl,a1,b1,rfl,h1,a2,b2,rfl,h2,rfl⟩:=c74 (ts:=[9,35]) (by kernel_rfl) h
 obtain ⟨x1,rfl,k1⟩:=c2h (by kernel_rfl) h1
 obtain ⟨x2,rfl,k2⟩:=d9y _ _ h2
 exact ⟨⟨x1,x2⟩,by rw [Q8]; rfl,⟨k1,k2⟩⟩
theorem d9z {t:TypeId} (hu:Tryz.prog.underlying t=some (.slice 151)) (h:Ty Tryz.prog n t avs):∃l:List b1k,avs=[.sl (l.map a6o) .no] /\ Sz l.length /\ ∀x∈l,c7n x:=e1a hu (of_decide_eq_true (by kernel_rfl)) (fun k a hk ha=>f7a ha) h
theorem f6i (h:Ty Tryz.prog n 115 avs):∃x,avs=a1z x /\ e4p x:=by
 obtain ⟨m,rfl,a1,b1,rfl,h1,a2,b2,rfl,h2,a3,b3,rfl,h3,rfl⟩:=c74 (ts:=[9,3,110]) (by kernel_rfl) h
 obtain ⟨x1,rfl,k1⟩:=c2h (by kernel_rfl) h1
 obtain ⟨x2,rfl,k2⟩:=b1l (by kernel_rfl) h2
 obtain ⟨x3,rfl,n3,k3⟩:=d9z (by kernel_rfl) h3
 exact ⟨⟨x1,x2,x3⟩,rfl,⟨k1,k2,n3,k3⟩⟩
theorem f7z (h:Ty Tryz.prog n 149 avs):∃x,avs=b0k x /\ e4a x:=by
 obtain ⟨m,rfl,a1,b1,rfl,h1,a2,b2,rfl,h2,rfl⟩:=c74 (ts:=[3,3]) (by kernel_rfl) h
 obtain ⟨x1,rfl,k1⟩:=b1l (by kernel_rfl) h1
 obtain ⟨x2,rfl,k2⟩:=b1l (by kernel_rfl) h2
 exact ⟨⟨x1,x2⟩,rfl,⟨k1,k2⟩⟩
theorem f4p (h:Ty Tryz.prog n 112 avs):∃x,avs=Y1 x /\ b8s x:=by
 obtain ⟨m,rfl,a1,b1,rfl,h1,a2,b2,rfl,h2,a3,b3,rfl,h3,a4,b4,rfl,h4,a5,b5,rfl,h5,rfl⟩:=c74 (ts:=[9,4,108,109,110]) (by kernel_rfl) h
 obtain ⟨x1,rfl,k1⟩:=c2h (by kernel_rfl) h1
 obtain ⟨x2,rfl⟩:=f6w (by kernel_rfl) h2
 obtain ⟨x3,rfl,n3,k3⟩:=e1a (e:=115) (enc:=a1z) (Ok:=e4p) (by kernel_rfl) (of_decide_eq_true (by kernel_rfl)) (fun k a hk ha=>f6i ha) h3
 obtain ⟨x4,rfl,n4,k4⟩:=e1a (e:=149) (enc:=b0k) (Ok:=e4a) (by kernel_rfl) (of_decide_eq_true (by kernel_rfl)) (fun k a hk ha=>f7z ha) h4
 obtain ⟨x5,rfl,n5,k5⟩:=d9z (by kernel_rfl) h5
 exact ⟨⟨x1,x2,x3,x4,x5⟩,rfl,⟨k1,n3,k3,n4,k4,n5,k5⟩⟩
theorem g4a (h:Ty Tryz.prog n 38 avs):∃x,avs=U2 x /\ g20 x:=by
 obtain ⟨m,rfl,a1,b1,rfl,h1,a2,b2,rfl,h2,a3,b3,rfl,h3,a4,b4,rfl,h4,a5,b5,rfl,h5,a6,b6,rfl,h6,a7,b7,rfl,h7,a8,b8,rfl,h8,rfl⟩:=c74 (ts:=[3,9,9,3,3,3,3,3]) (by kernel_rfl) h
 obtain ⟨x1,rfl,k1⟩:=b1l (by kernel_rfl) h1
 obtain ⟨x2,rfl,k2⟩:=c2h (by kernel_rfl) h2
 obtain ⟨x3,rfl,k3⟩:=c2h (by kernel_rfl) h3
 obtain ⟨x4,rfl,k4⟩:=b1l (by kernel_rfl) h4
 obtain ⟨x5,rfl,k5⟩:=b1l (by kernel_rfl) h5
 obtain ⟨x6,rfl,k6⟩:=b1l (by kernel_rfl) h6
 obtain ⟨x7,rfl,k7⟩:=b1l (by kernel_rfl) h7
 obtain ⟨x8,rfl,k8⟩:=b1l (by kernel_rfl) h8
 exact ⟨⟨x1,x2,x3,x4,x5,x6,x7,x8⟩,rfl,⟨k1,k2,k3,k4,k5,k6,k7,k8⟩⟩
theorem f7i (h:Ty Tryz.prog n 41 avs):∃x,avs=D9 x /\ b6j x:=by
 obtain ⟨m,rfl,a1,b1,rfl,h1,a2,b2,rfl,h2,a3,b3,rfl,h3,rfl⟩:=c74 (ts:=[9,39,3]) (by kernel_rfl) h
 obtain ⟨x1,rfl,k1⟩:=c2h (by kernel_rfl) h1
 obtain ⟨x2,rfl,n2,k2⟩:=e1a (e:=38) (enc:=U2) (Ok:=g20) (by kernel_rfl) (of_decide_eq_true (by kernel_rfl)) (fun k a hk ha=>g4a ha) h2
 obtain ⟨x3,rfl,k3⟩:=b1l (by kernel_rfl) h3
 exact ⟨⟨x1,x2,x3⟩,rfl,⟨k1,n2,k2,k3⟩⟩
theorem f5r (h:Ty Tryz.prog n 25 avs):∃x,avs=B0 x /\ b5o x:=by
 obtain ⟨m,rfl,a1,b1,rfl,h1,a2,b2,rfl,h2,rfl⟩:=c74 (ts:=[22,23]) (by kernel_rfl) h
 obtain ⟨x1,rfl,n1,k1⟩:=e1a (e:=41) (enc:=D9) (Ok:=b6j) (by kernel_rfl) (of_decide_eq_true (by kernel_rfl)) (fun k a hk ha=>f7i ha) h1
 obtain ⟨x2,rfl,n2,k2⟩:=e1a (e:=112) (enc:=Y1) (Ok:=b8s) (by kernel_rfl) (of_decide_eq_true (by kernel_rfl)) (fun k a hk ha=>f4p ha) h2
 exact ⟨⟨x1,x2⟩,rfl,⟨n1,k1,n2,k2⟩⟩
theorem h0b (h:TyV Tryz.prog n 25 av):∃x,av=.agg (B0 x) /\ b5o x:=by
 obtain ⟨avs,rfl,g⟩:=f2k (ts:=[22,23]) (by kernel_rfl) h
 obtain ⟨x,rfl,k⟩:=f5r g
 exact ⟨x,rfl,k⟩
end
structure OpF (p:A6) (o:GOp):Prop where
 card:1<=o.Card /\ o.Card<=5
 kind:1<=o.Kind /\ o.Kind<=10
 key:(o.Card≠5 ->o.Key=0) /\ (o.Card=5 ->(1<=o.Key /\ o.Key<=5)\/o.Key=7)
 msg:o.Kind=10 ->0<=o.Target /\ o.Target<p.Progs.length /\ o.Card≠3
 enum:o.Kind=9 ->0<=o.Target /\ o.Target<p.Enums.length
 other:o.Kind≠9 ->o.Kind≠10 ->o.Target= -1
 union:o.Union= -1\/o.Card=2
theorem D1 {n:Nat} (h:Sz n):n<=140737488351232:=h
theorem OkD.okv {v:A0} (h:OkD v):OkV v:=by
 cases h with
 |mk _ k b t l p s r=>exact ⟨l,p,s,r,t,b.1,b.2⟩
theorem f19 {α:Type} {l:List α} {i:Nat} (h:i<l.length):∃y,l[((i:Int)).toNat]? =some y /\ y∈l:=⟨l[i],by simp [h],List.getElem_mem h⟩
def Asc (l:List GOp) (n:Nat):Prop:=∀m x y,m+1<n ->l[m]? =some x ->l[m+1]? =some y ->x.Num<y.Num
theorem f0t {l:List GOp} {i:Nat} {x y:GOp} (h:Asc l i) (hx:l[i - 1]? =some x) (hy:l[i]? =some y) (hlt:x.Num<y.Num):Asc l (i+1):=by
 intro m x' y' hm h1 h2
 by_cases e:m+1=i
 ·have:m=i - 1:=by omega
  subst this
  rw [hx] at h1; cases h1
  rw [e,hy] at h2; cases h2
  exact hlt
 ·exact h m x' y' (by omega) h1 h2
theorem b0i {α:Type} {l:List α} {T:α ->Prop} {k:Nat} {g:α} (h:∀j g,j<k ->l[j]? =some g ->T g) (hg:l[k]? =some g) (ht:T g):∀j g,j<k+1 ->l[j]? =some g ->T g:=by
 intro j g' hj hj2
 by_cases e:j=k
 ·subst e; rw [hg] at hj2; cases hj2; exact ht
 ·exact h j g' (by omega) hj2
theorem b77 {α:Type} {l:List α} {T:α ->Prop} {k:Nat} (h:∀j g,j<k ->l[j]? =some g ->T g) (hk:l.length<=k):∀g∈l,T g:=by
 intro g hg
 obtain ⟨j,hj⟩:=List.mem_iff_getElem?.1 hg
 exact h j g (by have:=(List.getElem?_eq_some_iff.1 hj).1; omega) hj
section
variable (p:A6) (hp:b5o p)
 include hp
theorem f4c:∀i:Nat,∀b,Ex yes (a1y (i:Int) b p):=by
 have b1:=D1 hp.np; have b2:=D1 hp.ne
 refine upn (p.Enums.length) (fun i hi ih b=> ?_) (fun i hi b=> ?_)
 ·refine B3 (a84 _ _ _) ?_
  try rw [S5 (by omega)]
  repeat' first|exact F3 trivial|exact ih|assumption|exact ih _|refine C4 ?_|refine E7 (fun h=> ?_) (fun h=> ?_)|refine M6 (fun h=> ?_) (fun h=> ?_)|refine B6 _ (fun h=> ?_) (fun h=> ?_)|refine D6 (by omega) (fun y hy hm=> ?_)|refine D7 (by omega) ?_
 ·refine B3 (a84 _ _ _) ?_
  repeat' first|exact F3 trivial|exact ih|assumption|exact ih _|exact absurd ‹_› (by omega)|(exfalso; omega)|refine C4 ?_|refine E7 (fun h=> ?_) (fun h=> ?_)|refine M6 (fun h=> ?_) (fun h=> ?_)|refine B6 _ (fun h=> ?_) (fun h=> ?_)|refine D6 (by omega) (fun y hy hm=> ?_)|refine D7 (by omega) ?_
theorem g01:∀i:Nat,∀b,Ex yes (a1k (i:Int) b p):=by
 have b1:=D1 hp.np; have b2:=D1 hp.ne
 refine upn (p.Progs.length) (fun i hi ih b=> ?_) (fun i hi b=> ?_)
 ·refine B3 (a85 _ _ _) ?_
  try rw [S5 (by omega)]
  repeat' first|exact F3 trivial|exact ih|assumption|exact ih _|exact f4c p hp 0 _|refine C4 ?_|refine E7 (fun h=> ?_) (fun h=> ?_)|refine M6 (fun h=> ?_) (fun h=> ?_)|refine B6 _ (fun h=> ?_) (fun h=> ?_)|refine D6 (by omega) (fun y hy hm=> ?_)|refine D7 (by omega) ?_
 ·refine B3 (a85 _ _ _) ?_
  repeat' first|exact F3 trivial|exact ih|assumption|exact ih _|exact f4c p hp 0 _|exact absurd ‹_› (by omega)|(exfalso; omega)|refine C4 ?_|refine E7 (fun h=> ?_) (fun h=> ?_)|refine M6 (fun h=> ?_) (fun h=> ?_)|refine B6 _ (fun h=> ?_) (fun h=> ?_)|refine D6 (by omega) (fun y hy hm=> ?_)|refine D7 (by omega) ?_
theorem e9e:Ex yes (b6y p):=by
 refine B3 (c38 _) ?_
 exact g01 p hp 0 _
theorem e7r (k:Nat) (hk:k<p.Enums.length) (g:a0r) (hg:p.Enums[((k:Int)).toNat]? =some g) (og:b8s g) (H:∀b,Ex yes (a1g ((k+1:Nat):Int) b p)):∀i:Nat,∀b,Ex yes (a1n (i:Int) b (k:Int) p):=by
 have b1:=D1 hp.np; have b2:=D1 hp.ne
 have b3:=D1 og.ni; have b4:=D1 og.nr
 refine upn (g.Items.length) (fun i hi ih b=> ?_) (fun i hi b=> ?_)
 ·refine B3 (a8s _ _ _ _) ?_
  try rw [S5 (by omega)]
  repeat' first|exact F3 trivial|exact ih|assumption|exact ih _|exact H _|refine a6a g hg (by omega) ?_|rw [S5 (by omega)]|refine C4 ?_|refine E7 (fun h=> ?_) (fun h=> ?_)|refine M6 (fun h=> ?_) (fun h=> ?_)|refine B6 _ (fun h=> ?_) (fun h=> ?_)|refine D6 (by omega) (fun y hy hm=> ?_)|refine D7 (by omega) ?_|refine E8 (c6l _ (og.items _ (by assumption)).name) (fun y hq=> ?_)
 ·refine B3 (a8s _ _ _ _) ?_
  repeat' first|exact F3 trivial|exact ih|assumption|exact ih _|exact H _|refine a6a g hg (by omega) ?_|rw [S5 (by omega)]|exact absurd ‹_› (by omega)|(exfalso; omega)|refine C4 ?_|refine E7 (fun h=> ?_) (fun h=> ?_)|refine M6 (fun h=> ?_) (fun h=> ?_)|refine B6 _ (fun h=> ?_) (fun h=> ?_)|refine D6 (by omega) (fun y hy hm=> ?_)|refine D7 (by omega) ?_|refine E8 (c6l _ (og.items _ (by assumption)).name) (fun y hq=> ?_)
theorem e26:∀i:Nat,∀b,Ex yes (a1g (i:Int) b p):=by
 have b1:=D1 hp.np; have b2:=D1 hp.ne
 refine upn (p.Enums.length) (fun i hi ih b=> ?_) (fun i hi b=> ?_)
 ·obtain ⟨g,hg,gm⟩:=f19 hi
  refine B3 (a81 _ _ _) ?_
  try rw [S5 (by omega)]
  repeat' first|exact F3 trivial|exact ih|assumption|exact ih _|exact e7r p hp i hi g hg (hp.enums g gm) ih 0 _|refine a6a g hg (by omega) ?_|refine C4 ?_|refine E7 (fun h=> ?_) (fun h=> ?_)|refine M6 (fun h=> ?_) (fun h=> ?_)|refine B6 _ (fun h=> ?_) (fun h=> ?_)|refine D6 (by omega) (fun y hy hm=> ?_)|refine D7 (by omega) ?_|refine E8 (c17 _ (hp.enums g gm).name) (fun y hq=> ?_)
 ·refine B3 (a81 _ _ _) ?_
  repeat' first|exact F3 trivial|exact ih|assumption|exact ih _|exact e7r p hp i hi g hg (hp.enums g gm) ih 0 _|refine a6a g hg (by omega) ?_|exact absurd ‹_› (by omega)|(exfalso; omega)|refine C4 ?_|refine E7 (fun h=> ?_) (fun h=> ?_)|refine M6 (fun h=> ?_) (fun h=> ?_)|refine B6 _ (fun h=> ?_) (fun h=> ?_)|refine D6 (by omega) (fun y hy hm=> ?_)|refine D7 (by omega) ?_|refine E8 (c17 _ (hp.enums g gm).name) (fun y hq=> ?_)
theorem e3z (k:Nat) (hk:k<p.Progs.length) (g:C1) (hg:p.Progs[((k:Int)).toNat]? =some g) (og:b6j g) (H:∀b,Ex yes (a1t ((k+1:Nat):Int) b p)):∀i:Nat,∀b,Ex yes (a1x (i:Int) b (k:Int) p):=by
 have b1:=D1 hp.np; have b2:=D1 hp.ne
 have b3:=D1 og.n
 refine upn (g.Ops.length) (fun i hi ih b=> ?_) (fun i hi b=> ?_)
 ·refine B3 (a8z _ _ _ _) ?_
  try rw [S5 (by omega)]
  repeat' first|exact F3 trivial|exact ih|assumption|exact ih _|exact H _|refine a6a g hg (by omega) ?_|rw [S5 (by omega)]|refine C4 ?_|refine E7 (fun h=> ?_) (fun h=> ?_)|refine M6 (fun h=> ?_) (fun h=> ?_)|refine B6 _ (fun h=> ?_) (fun h=> ?_)|refine D6 (by omega) (fun y hy hm=> ?_)|refine D7 (by omega) ?_|refine E8 (c6l _ (og.ops _ (by assumption)).name) (fun y hq=> ?_)
 ·refine B3 (a8z _ _ _ _) ?_
  repeat' first|exact F3 trivial|exact ih|assumption|exact ih _|exact H _|refine a6a g hg (by omega) ?_|rw [S5 (by omega)]|exact absurd ‹_› (by omega)|(exfalso; omega)|refine C4 ?_|refine E7 (fun h=> ?_) (fun h=> ?_)|refine M6 (fun h=> ?_) (fun h=> ?_)|refine B6 _ (fun h=> ?_) (fun h=> ?_)|refine D6 (by omega) (fun y hy hm=> ?_)|refine D7 (by omega) ?_|refine E8 (c6l _ (og.ops _ (by assumption)).name) (fun y hq=> ?_)
theorem f48:∀i:Nat,∀b,Ex yes (a1t (i:Int) b p):=by
 have b1:=D1 hp.np; have b2:=D1 hp.ne
 refine upn (p.Progs.length) (fun i hi ih b=> ?_) (fun i hi b=> ?_)
 ·obtain ⟨g,hg,gm⟩:=f19 hi
  refine B3 (a8y _ _ _) ?_
  try rw [S5 (by omega)]
  repeat' first|exact F3 trivial|exact ih|assumption|exact ih _|exact e3z p hp i hi g hg (hp.progs g gm) ih 0 _|exact e26 p hp 0 _|refine a6a g hg (by omega) ?_|refine C4 ?_|refine E7 (fun h=> ?_) (fun h=> ?_)|refine M6 (fun h=> ?_) (fun h=> ?_)|refine B6 _ (fun h=> ?_) (fun h=> ?_)|refine D6 (by omega) (fun y hy hm=> ?_)|refine D7 (by omega) ?_|refine E8 (c17 _ (hp.progs g gm).name) (fun y hq=> ?_)
 ·refine B3 (a8y _ _ _) ?_
  repeat' first|exact F3 trivial|exact ih|assumption|exact ih _|exact e3z p hp i hi g hg (hp.progs g gm) ih 0 _|exact e26 p hp 0 _|refine a6a g hg (by omega) ?_|exact absurd ‹_› (by omega)|(exfalso; omega)|refine C4 ?_|refine E7 (fun h=> ?_) (fun h=> ?_)|refine M6 (fun h=> ?_) (fun h=> ?_)|refine B6 _ (fun h=> ?_) (fun h=> ?_)|refine D6 (by omega) (fun y hy hm=> ?_)|refine D7 (by omega) ?_|refine E8 (c17 _ (hp.progs g gm).name) (fun y hq=> ?_)
theorem f68:Ex yes (b9w p):=by
 refine B3 (c50 _) ?_
 exact f48 p hp 0 _
theorem e3i (A:Prop) (k:Nat) (hk:k<p.Enums.length) (g:a0r) (hg:p.Enums[((k:Int)).toNat]? =some g) (og:b8s g) (H:∀b,(b=true ->A) ->Ex (fun r=>r=true ->A) (Y9 ((k+1:Nat):Int) b p)):∀i:Nat,1<=i ->∀b,(b=true ->A) ->Ex (fun r=>r=true ->A) (Z3 (i:Int) b (k:Int) p):=by
 have b1:=D1 hp.np; have b2:=D1 hp.ne
 have b3:=D1 og.ni; have b4:=D1 og.nr
 refine upn (g.Items.length) (fun i hi ih h1 b hA=> ?_) (fun i hi h1 b hA=> ?_)
 ·refine B3 (a6m _ _ _ _) ?_
  try rw [S5 (by omega)]
  repeat' first|exact F3 (fun h=>by first|exact hA ‹_›|exact hA h|cases h)|exact ih|assumption|exact ih (by omega) _ (fun h=>by first|exact hA ‹_›|cases h)|exact H _ hA|refine a6a g hg (by omega) ?_|rw [S5 (by omega)]|rw [c70 (by omega)]|refine C4 ?_|refine E7 (fun h=> ?_) (fun h=> ?_)|refine M6 (fun h=> ?_) (fun h=> ?_)|refine B6 _ (fun h=> ?_) (fun h=> ?_)|refine D6 (by omega) (fun y hy hm=> ?_)|refine D7 (by omega) ?_
 ·refine B3 (a6m _ _ _ _) ?_
  repeat' first|exact F3 (fun h=>by first|exact hA ‹_›|exact hA h|cases h)|exact ih|assumption|exact ih (by omega) _ (fun h=>by first|exact hA ‹_›|cases h)|exact H _ hA|refine a6a g hg (by omega) ?_|rw [S5 (by omega)]|rw [c70 (by omega)]|exact absurd ‹_› (by omega)|(exfalso; omega)|refine C4 ?_|refine E7 (fun h=> ?_) (fun h=> ?_)|refine M6 (fun h=> ?_) (fun h=> ?_)|refine B6 _ (fun h=> ?_) (fun h=> ?_)|refine D6 (by omega) (fun y hy hm=> ?_)|refine D7 (by omega) ?_
theorem f4g (A:Prop):∀i:Nat,∀b,(b=true ->A) ->Ex (fun r=>r=true ->A) (Y9 (i:Int) b p):=by
 have b1:=D1 hp.np; have b2:=D1 hp.ne
 refine upn (p.Enums.length) (fun i hi ih b hA=> ?_) (fun i hi b hA=> ?_)
 ·obtain ⟨g,hg,gm⟩:=f19 hi
  refine B3 (a6i _ _ _) ?_
  try rw [S5 (by omega)]
  repeat' first|exact F3 (fun h=>by first|exact hA ‹_›|exact hA h|cases h)|exact ih|assumption|exact e3i p hp A i hi g hg (hp.enums g gm) ih 1 (Nat.le_refl _) _ (fun h=>by first|exact hA ‹_›|cases h)|rw [c70 (by omega)]|refine C4 ?_|refine E7 (fun h=> ?_) (fun h=> ?_)|refine M6 (fun h=> ?_) (fun h=> ?_)|refine B6 _ (fun h=> ?_) (fun h=> ?_)|refine D6 (by omega) (fun y hy hm=> ?_)|refine D7 (by omega) ?_
 ·refine B3 (a6i _ _ _) ?_
  repeat' first|exact F3 (fun h=>by first|exact hA ‹_›|exact hA h|cases h)|exact ih|assumption|exact e3i p hp A i hi g hg (hp.enums g gm) ih 1 (Nat.le_refl _) _ (fun h=>by first|exact hA ‹_›|cases h)|rw [c70 (by omega)]|exact absurd ‹_› (by omega)|(exfalso; omega)|refine C4 ?_|refine E7 (fun h=> ?_) (fun h=> ?_)|refine M6 (fun h=> ?_) (fun h=> ?_)|refine B6 _ (fun h=> ?_) (fun h=> ?_)|refine D6 (by omega) (fun y hy hm=> ?_)|refine D7 (by omega) ?_
theorem f7r (k:Nat) (hk:k<p.Progs.length) (g:C1) (hg:p.Progs[((k:Int)).toNat]? =some g) (og:b6j g) (H:∀b,(b=true ->∀j g,j<k+1 ->p.Progs[j]? =some g ->Asc g.Ops g.Ops.length) ->Ex (fun r=>r=true ->∀g∈p.Progs,Asc g.Ops g.Ops.length) (Y7 ((k+1:Nat):Int) b p)):
  ∀i:Nat,1<=i ->(i=1\/i<=g.Ops.length) ->∀b,(b=true ->(∀j g,j<k ->p.Progs[j]? =some g ->Asc g.Ops g.Ops.length) /\ Asc g.Ops i) ->Ex (fun r=>r=true ->∀g∈p.Progs,Asc g.Ops g.Ops.length) (V2 (i:Int) b (k:Int) p):=by
 have b1:=D1 hp.np; have b2:=D1 hp.ne
 have b3:=D1 og.n
 have e3:((k:Int)).toNat=k:=by omega
 refine upn g.Ops.length (fun i hi ih h1 hi2 b hA=> ?_) (fun i hi h1 hi2 b hA=> ?_)
 ·refine B3 (a6h _ _ _ _) (a6a g hg (by omega) (E7 (fun _=>B6 _ (fun hb=> ?_) (fun hb=> ?_)) fun h=>absurd (show (i:Int)<g.Ops.length by omega) h))
  ·rw [c70 (by omega),S5 (by omega)]
   refine a6a g hg (by omega) (D6 (by omega) fun x hx hm=>a6a g hg (by omega) (D6 (by omega) fun y hy hm2=>ih (by omega) (by omega) _ fun h=>⟨(hA hb).1, ?_⟩))
   have e1:(((i - 1:Nat):Int)).toNat=i - 1:=by omega
   have e2:((i:Int)).toNat=i:=by omega
   rw [e1] at hx; rw [e2] at hy
   exact f0t (hA hb).2 hx hy (of_decide_eq_true h)
  ·rw [S5 (by omega)]
   exact ih (by omega) (by omega) _ fun h=>by cases h
 ·refine B3 (a6h _ _ _ _) (a6a g hg (by omega) (E7 (fun h=>absurd h (by omega)) fun _=> ?_))
  rw [S5 (by omega)]
  refine H _ fun h=>b0i (hA h).1 (by rw [<-e3]; exact hg) ?_
  rcases hi2 with e|e
  ·intro m x y hm; omega
  ·have:i=g.Ops.length:=by omega
   rw [<-this]; exact (hA h).2
theorem f47:∀i:Nat,i<=p.Progs.length ->∀b,(b=true ->∀j g,j<i ->p.Progs[j]? =some g ->Asc g.Ops g.Ops.length) ->Ex (fun r=>r=true ->∀g∈p.Progs,Asc g.Ops g.Ops.length) (Y7 (i:Int) b p):=by
 have b1:=D1 hp.np; have b2:=D1 hp.ne
 have b1:=D1 hp.np; have b2:=D1 hp.ne
 refine upn p.Progs.length (fun i hi ih hle b hA=> ?_) (fun i hi hle b hA=> ?_)
 ·obtain ⟨g,hg,gm⟩:=f19 hi
  have fin:∀b',(b'=true ->b=true) ->Ex (fun r=>r=true ->∀g∈p.Progs,Asc g.Ops g.Ops.length) (V2 1 b' (i:Int) p):=fun b' hb'=>f7r p hp i hi g hg (hp.progs g gm) (fun b h=>ih (by omega) b h) 1 (Nat.le_refl _) (.inl rfl) b' fun h=>⟨hA (hb' h),fun m x y hm=>by omega⟩
  refine B3 (a6j _ _ _) (E7 (fun _=>C4 (B6 _ (fun hb=>C4 ?_) fun hb=>fin _ (fun h=>by cases h))) fun h=>absurd (show (i:Int)<p.Progs.length by omega) h)
  refine B6 _ (fun h=>fin _ fun _=>hb) fun h=> ?_
  have:0<i:=by simp at h; omega
  rw [c70 (by omega)]
  exact D6 (by omega) fun _ _ _=>D6 (by omega) fun _ _ _=>fin _ fun _=>hb
 ·refine B3 (a6j _ _ _) (E7 (fun h=>absurd h (by omega)) fun _=>f4g p hp _ 0 b fun h=>b77 (hA h) hi)
theorem e6g:Ex (fun r=>r=true ->∀g∈p.Progs,Asc g.Ops g.Ops.length) (b4l p):=
 B3 (c0u _) (f47 p hp 0 (Nat.zero_le _) true fun _ j g h=>by omega)
end
section
variable (p:A6) (hp:b5o p)
 include hp
theorem e6p (k:Nat) (g:a0r) (og:b8s g) (m:Nat) (hm:m<g.Items.length) (H:∀b,Ex yes (a0o ((m+1:Nat):Int) g (k:Int) b p)):∀i:Nat,∀b,Ex yes (a0v (i:Int) (m:Int) g (k:Int) b p):=by
 have b1:=D1 hp.np; have b2:=D1 hp.ne
 have b3:=D1 og.ni; have b4:=D1 og.nr
 refine upn (m) (fun i hi ih b=> ?_) (fun i hi b=> ?_)
 ·refine B3 (a8d _ _ _ _ _ _) ?_
  try rw [S5 (by omega)]
  repeat' first|exact F3 trivial|exact ih|assumption|exact ih _|rw [S5 (by omega)]|exact H _|refine C4 ?_|refine E7 (fun h=> ?_) (fun h=> ?_)|refine M6 (fun h=> ?_) (fun h=> ?_)|refine B6 _ (fun h=> ?_) (fun h=> ?_)|refine D6 (by omega) (fun y hy hm=> ?_)|refine D7 (by omega) ?_
 ·refine B3 (a8d _ _ _ _ _ _) ?_
  repeat' first|exact F3 trivial|exact ih|assumption|exact ih _|rw [S5 (by omega)]|exact H _|exact absurd ‹_› (by omega)|(exfalso; omega)|refine C4 ?_|refine E7 (fun h=> ?_) (fun h=> ?_)|refine M6 (fun h=> ?_) (fun h=> ?_)|refine B6 _ (fun h=> ?_) (fun h=> ?_)|refine D6 (by omega) (fun y hy hm=> ?_)|refine D7 (by omega) ?_
theorem e7u (k:Nat) (g:a0r) (og:b8s g) (H:∀b,Ex yes (a0z ((k+1:Nat):Int) b p)) (hk:k<p.Enums.length):∀i:Nat,∀b,Ex yes (a0o (i:Int) g (k:Int) b p):=by
 have b1:=D1 hp.np; have b2:=D1 hp.ne
 have b3:=D1 og.ni; have b4:=D1 og.nr
 refine upn (g.Items.length) (fun i hi ih b=> ?_) (fun i hi b=> ?_)
 ·refine B3 (a7n _ _ _ _ _) ?_
  try rw [S5 (by omega)]
  repeat' first|exact F3 trivial|exact ih|assumption|exact ih _|exact e6p p hp k g og i hi ih 0 _|rw [S5 (by omega)]|exact H _|refine C4 ?_|refine E7 (fun h=> ?_) (fun h=> ?_)|refine M6 (fun h=> ?_) (fun h=> ?_)|refine B6 _ (fun h=> ?_) (fun h=> ?_)|refine D6 (by omega) (fun y hy hm=> ?_)|refine D7 (by omega) ?_
 ·refine B3 (a7n _ _ _ _ _) ?_
  repeat' first|exact F3 trivial|exact ih|assumption|exact ih _|exact e6p p hp k g og i hi ih 0 _|rw [S5 (by omega)]|exact H _|exact absurd ‹_› (by omega)|(exfalso; omega)|refine C4 ?_|refine E7 (fun h=> ?_) (fun h=> ?_)|refine M6 (fun h=> ?_) (fun h=> ?_)|refine B6 _ (fun h=> ?_) (fun h=> ?_)|refine D6 (by omega) (fun y hy hm=> ?_)|refine D7 (by omega) ?_
theorem e2q:∀i:Nat,∀b,Ex yes (a0z (i:Int) b p):=by
 have b1:=D1 hp.np; have b2:=D1 hp.ne
 refine upn (p.Enums.length) (fun i hi ih b=> ?_) (fun i hi b=> ?_)
 ·refine B3 (a76 _ _ _) ?_
  try rw [S5 (by omega)]
  repeat' first|exact F3 trivial|exact ih|assumption|exact ih _|exact e7u p hp i _ (hp.enums _ ‹_›) ih hi 0 _|refine C4 ?_|refine E7 (fun h=> ?_) (fun h=> ?_)|refine M6 (fun h=> ?_) (fun h=> ?_)|refine B6 _ (fun h=> ?_) (fun h=> ?_)|refine D6 (by omega) (fun y hy hm=> ?_)|refine D7 (by omega) ?_
 ·refine B3 (a76 _ _ _) ?_
  repeat' first|exact F3 trivial|exact ih|assumption|exact ih _|exact e7u p hp i _ (hp.enums _ ‹_›) ih hi 0 _|exact absurd ‹_› (by omega)|(exfalso; omega)|refine C4 ?_|refine E7 (fun h=> ?_) (fun h=> ?_)|refine M6 (fun h=> ?_) (fun h=> ?_)|refine B6 _ (fun h=> ?_) (fun h=> ?_)|refine D6 (by omega) (fun y hy hm=> ?_)|refine D7 (by omega) ?_
theorem e5o (k:Nat) (g:C1) (og:b6j g) (m:Nat) (hm:m<g.Ops.length) (H:∀b,Ex yes (a0j ((m+1:Nat):Int) g (k:Int) b p)):∀i:Nat,∀b,Ex yes (a0s (i:Int) (m:Int) g (k:Int) b p):=by
 have b1:=D1 hp.np; have b2:=D1 hp.ne
 have b3:=D1 og.n
 refine upn (m) (fun i hi ih b=> ?_) (fun i hi b=> ?_)
 ·refine B3 (a8c _ _ _ _ _ _) ?_
  try rw [S5 (by omega)]
  repeat' first|exact F3 trivial|exact ih|assumption|exact ih _|rw [S5 (by omega)]|exact H _|refine C4 ?_|refine E7 (fun h=> ?_) (fun h=> ?_)|refine M6 (fun h=> ?_) (fun h=> ?_)|refine B6 _ (fun h=> ?_) (fun h=> ?_)|refine D6 (by omega) (fun y hy hm=> ?_)|refine D7 (by omega) ?_
 ·refine B3 (a8c _ _ _ _ _ _) ?_
  repeat' first|exact F3 trivial|exact ih|assumption|exact ih _|rw [S5 (by omega)]|exact H _|exact absurd ‹_› (by omega)|(exfalso; omega)|refine C4 ?_|refine E7 (fun h=> ?_) (fun h=> ?_)|refine M6 (fun h=> ?_) (fun h=> ?_)|refine B6 _ (fun h=> ?_) (fun h=> ?_)|refine D6 (by omega) (fun y hy hm=> ?_)|refine D7 (by omega) ?_
theorem e3h (k:Nat) (g:C1) (og:b6j g) (H:∀b,Ex yes (W2 ((k+1:Nat):Int) b p)) (hk:k<p.Progs.length):∀i:Nat,∀b,Ex yes (a0j (i:Int) g (k:Int) b p):=by
 have b1:=D1 hp.np; have b2:=D1 hp.ne
 have b3:=D1 og.n
 refine upn (g.Ops.length) (fun i hi ih b=> ?_) (fun i hi b=> ?_)
 ·refine B3 (a73 _ _ _ _ _) ?_
  try rw [S5 (by omega)]
  repeat' first|exact F3 trivial|exact ih|assumption|exact ih _|exact e5o p hp k g og i hi ih 0 _|rw [S5 (by omega)]|exact H _|refine C4 ?_|refine E7 (fun h=> ?_) (fun h=> ?_)|refine M6 (fun h=> ?_) (fun h=> ?_)|refine B6 _ (fun h=> ?_) (fun h=> ?_)|refine D6 (by omega) (fun y hy hm=> ?_)|refine D7 (by omega) ?_
 ·refine B3 (a73 _ _ _ _ _) ?_
  repeat' first|exact F3 trivial|exact ih|assumption|exact ih _|exact e5o p hp k g og i hi ih 0 _|rw [S5 (by omega)]|exact H _|exact absurd ‹_› (by omega)|(exfalso; omega)|refine C4 ?_|refine E7 (fun h=> ?_) (fun h=> ?_)|refine M6 (fun h=> ?_) (fun h=> ?_)|refine B6 _ (fun h=> ?_) (fun h=> ?_)|refine D6 (by omega) (fun y hy hm=> ?_)|refine D7 (by omega) ?_
theorem e31 (k:Nat) (hk:k<p.Progs.length) (H:∀b,Ex yes (W2 ((k+1:Nat):Int) b p)):∀i:Nat,∀b,Ex yes (a0x (i:Int) (k:Int) b p):=by
 have b1:=D1 hp.np; have b2:=D1 hp.ne
 refine upn (p.Enums.length) (fun i hi ih b=> ?_) (fun i hi b=> ?_)
 ·refine B3 (a7s _ _ _ _) ?_
  try rw [S5 (by omega)]
  repeat' first|exact F3 trivial|exact ih|assumption|exact ih _|exact e3h p hp k _ (hp.progs _ ‹_›) H hk 0 _|refine C4 ?_|refine E7 (fun h=> ?_) (fun h=> ?_)|refine M6 (fun h=> ?_) (fun h=> ?_)|refine B6 _ (fun h=> ?_) (fun h=> ?_)|refine D6 (by omega) (fun y hy hm=> ?_)|refine D7 (by omega) ?_
 ·refine B3 (a7s _ _ _ _) ?_
  repeat' first|exact F3 trivial|exact ih|assumption|exact ih _|exact e3h p hp k _ (hp.progs _ ‹_›) H hk 0 _|exact absurd ‹_› (by omega)|(exfalso; omega)|refine C4 ?_|refine E7 (fun h=> ?_) (fun h=> ?_)|refine M6 (fun h=> ?_) (fun h=> ?_)|refine B6 _ (fun h=> ?_) (fun h=> ?_)|refine D6 (by omega) (fun y hy hm=> ?_)|refine D7 (by omega) ?_
theorem f5b:∀i:Nat,∀b,Ex yes (W2 (i:Int) b p):=by
 have b1:=D1 hp.np; have b2:=D1 hp.ne
 refine upn (p.Progs.length) (fun i hi ih b=> ?_) (fun i hi b=> ?_)
 ·refine B3 (a7q _ _ _) ?_
  try rw [S5 (by omega)]
  repeat' first|exact F3 trivial|exact ih|assumption|exact ih _|exact e31 p hp i hi ih 0 _|exact e2q p hp 0 _|refine C4 ?_|refine E7 (fun h=> ?_) (fun h=> ?_)|refine M6 (fun h=> ?_) (fun h=> ?_)|refine B6 _ (fun h=> ?_) (fun h=> ?_)|refine D6 (by omega) (fun y hy hm=> ?_)|refine D7 (by omega) ?_
 ·refine B3 (a7q _ _ _) ?_
  repeat' first|exact F3 trivial|exact ih|assumption|exact ih _|exact e31 p hp i hi ih 0 _|exact e2q p hp 0 _|exact absurd ‹_› (by omega)|(exfalso; omega)|refine C4 ?_|refine E7 (fun h=> ?_) (fun h=> ?_)|refine M6 (fun h=> ?_) (fun h=> ?_)|refine B6 _ (fun h=> ?_) (fun h=> ?_)|refine D6 (by omega) (fun y hy hm=> ?_)|refine D7 (by omega) ?_
theorem f0q:Ex yes (b56 p):=B3 (c3i _) (f5b p hp 0 _)
theorem f57 (l:List b8o) (hl:Sz l.length) (n:Int):∀i:Nat,Ex yes (Y2 (i:Int) l n):=by
 have b1:=D1 hp.np; have b2:=D1 hp.ne
 have b1:=D1 hl
 refine upn (l.length) (fun i hi ih=> ?_) (fun i hi=> ?_)
 ·refine B3 (a6g _ _ _) ?_
  rw [S5 (by omega)]
  repeat' first|exact F3 trivial|exact ih|assumption|refine C4 ?_|refine E7 (fun h=> ?_) (fun h=> ?_)|refine M6 (fun h=> ?_) (fun h=> ?_)|refine B6 _ (fun h=> ?_) (fun h=> ?_)|refine D6 (by omega) (fun y hy hm=> ?_)|refine D7 (by omega) ?_
 ·refine B3 (a6g _ _ _) ?_
  repeat' first|exact F3 trivial|exact ih|assumption|exact absurd ‹_› (by omega)|(exfalso; omega)|refine C4 ?_|refine E7 (fun h=> ?_) (fun h=> ?_)|refine M6 (fun h=> ?_) (fun h=> ?_)|refine B6 _ (fun h=> ?_) (fun h=> ?_)|refine D6 (by omega) (fun y hy hm=> ?_)|refine D7 (by omega) ?_
theorem g2j (l:List b8o) (hl:Sz l.length) (n:Int):Ex yes (b2p l n):=B3 (b89 _ _) (f57 p hp l hl n 0)
theorem e2z (A:Prop) (k:Nat) (hk:k<p.Enums.length) (g:a0r) (og:b8s g) (H:∀b,(b=true ->A) ->Ex (fun r=>r=true ->A) (W5 ((k+1:Nat):Int) b p)):∀i:Nat,∀b,(b=true ->A) ->Ex (fun r=>r=true ->A) (W6 (i:Int) (k:Int) b p g):=by
 have b1:=D1 hp.np; have b2:=D1 hp.ne
 have b3:=D1 og.ni; have b4:=D1 og.nr
 refine upn (g.Reserved.length) (fun i hi ih b hA=> ?_) (fun i hi b hA=> ?_)
 ·refine B3 (a77 _ _ _ _ _) ?_
  try rw [S5 (by omega)]
  repeat' first|exact F3 (fun h=>by first|exact hA ‹_›|exact hA h|cases h)|exact ih|assumption|exact ih _ (fun h=>hA (by simp only [Bool.and_eq_true] at*; simp [*]))|exact ih _ (fun h=>by cases h)|rw [S5 (by omega)]|exact H _ hA|rw [c70 (by omega)]|refine C4 ?_|refine E7 (fun h=> ?_) (fun h=> ?_)|refine M6 (fun h=> ?_) (fun h=> ?_)|refine B6 _ (fun h=> ?_) (fun h=> ?_)|refine D6 (by omega) (fun y hy hm=> ?_)|refine D7 (by omega) ?_
 ·refine B3 (a77 _ _ _ _ _) ?_
  repeat' first|exact F3 (fun h=>by first|exact hA ‹_›|exact hA h|cases h)|exact ih|assumption|exact ih _ (fun h=>hA (by simp only [Bool.and_eq_true] at*; simp [*]))|exact ih _ (fun h=>by cases h)|rw [S5 (by omega)]|exact H _ hA|rw [c70 (by omega)]|exact absurd ‹_› (by omega)|(exfalso; omega)|refine C4 ?_|refine E7 (fun h=> ?_) (fun h=> ?_)|refine M6 (fun h=> ?_) (fun h=> ?_)|refine B6 _ (fun h=> ?_) (fun h=> ?_)|refine D6 (by omega) (fun y hy hm=> ?_)|refine D7 (by omega) ?_
theorem e2a (A:Prop) (k:Nat) (hk:k<p.Enums.length) (g:a0r) (og:b8s g) (H:∀b,(b=true ->A) ->Ex (fun r=>r=true ->A) (W5 ((k+1:Nat):Int) b p)):∀i:Nat,∀b,(b=true ->A) ->Ex (fun r=>r=true ->A) (a0y (i:Int) (k:Int) b p g):=by
 have b1:=D1 hp.np; have b2:=D1 hp.ne
 have b3:=D1 og.ni; have b4:=D1 og.nr
 refine upn (g.Items.length) (fun i hi ih b hA=> ?_) (fun i hi b hA=> ?_)
 ·refine B3 (a78 _ _ _ _ _) ?_
  try rw [S5 (by omega)]
  repeat' first|exact F3 (fun h=>by first|exact hA ‹_›|exact hA h|cases h)|exact ih|assumption|exact ih _ (fun h=>hA (by simp only [Bool.and_eq_true] at*; simp [*]))|exact ih _ (fun h=>by cases h)|exact e2z p hp A k hk g og H 0 _ hA|refine C4 ?_|refine E7 (fun h=> ?_) (fun h=> ?_)|refine M6 (fun h=> ?_) (fun h=> ?_)|refine B6 _ (fun h=> ?_) (fun h=> ?_)|refine D6 (by omega) (fun y hy hm=> ?_)|refine D7 (by omega) ?_|refine E8 (g2j p hp _ og.nr _) (fun y hq=> ?_)
 ·refine B3 (a78 _ _ _ _ _) ?_
  repeat' first|exact F3 (fun h=>by first|exact hA ‹_›|exact hA h|cases h)|exact ih|assumption|exact ih _ (fun h=>hA (by simp only [Bool.and_eq_true] at*; simp [*]))|exact ih _ (fun h=>by cases h)|exact e2z p hp A k hk g og H 0 _ hA|exact absurd ‹_› (by omega)|(exfalso; omega)|refine C4 ?_|refine E7 (fun h=> ?_) (fun h=> ?_)|refine M6 (fun h=> ?_) (fun h=> ?_)|refine B6 _ (fun h=> ?_) (fun h=> ?_)|refine D6 (by omega) (fun y hy hm=> ?_)|refine D7 (by omega) ?_|refine E8 (g2j p hp _ og.nr _) (fun y hq=> ?_)
theorem f7d (A:Prop):∀i:Nat,∀b,(b=true ->A) ->Ex (fun r=>r=true ->A) (W5 (i:Int) b p):=by
 have b1:=D1 hp.np; have b2:=D1 hp.ne
 refine upn (p.Enums.length) (fun i hi ih b hA=> ?_) (fun i hi b hA=> ?_)
 ·refine B3 (a7w _ _ _) ?_
  try rw [S5 (by omega)]
  repeat' first|exact F3 (fun h=>by first|exact hA ‹_›|exact hA h|cases h)|exact ih|assumption|exact e2a p hp A i hi _ (hp.enums _ ‹_›) ih 0 _ hA|refine C4 ?_|refine E7 (fun h=> ?_) (fun h=> ?_)|refine M6 (fun h=> ?_) (fun h=> ?_)|refine B6 _ (fun h=> ?_) (fun h=> ?_)|refine D6 (by omega) (fun y hy hm=> ?_)|refine D7 (by omega) ?_
 ·refine B3 (a7w _ _ _) ?_
  repeat' first|exact F3 (fun h=>by first|exact hA ‹_›|exact hA h|cases h)|exact ih|assumption|exact e2a p hp A i hi _ (hp.enums _ ‹_›) ih 0 _ hA|exact absurd ‹_› (by omega)|(exfalso; omega)|refine C4 ?_|refine E7 (fun h=> ?_) (fun h=> ?_)|refine M6 (fun h=> ?_) (fun h=> ?_)|refine B6 _ (fun h=> ?_) (fun h=> ?_)|refine D6 (by omega) (fun y hy hm=> ?_)|refine D7 (by omega) ?_
def f0n (o:GOp):Prop:=1<=o.Num /\ o.Num<=65535
theorem f7n (k:Nat) (hk:k<p.Progs.length) (g:C1) (hg:p.Progs[((k:Int)).toNat]? =some g) (og:b6j g) (H:∀b,(b=true ->∀j g,j<k+1 ->p.Progs[j]? =some g ->∀o∈g.Ops,f0n o) ->Ex (fun r=>r=true ->∀g∈p.Progs,∀o∈g.Ops,f0n o) (a0t ((k+1:Nat):Int) b p)):
  ∀i:Nat,∀b,(b=true ->(∀j g,j<k ->p.Progs[j]? =some g ->∀o∈g.Ops,f0n o) /\ ∀j o,j<i ->g.Ops[j]? =some o ->f0n o) ->Ex (fun r=>r=true ->∀g∈p.Progs,∀o∈g.Ops,f0n o) (a3v (i:Int) (k:Int) b p):=by
 have b1:=D1 hp.np; have b2:=D1 hp.ne
 have b3:=D1 og.n
 have e3:((k:Int)).toNat=k:=by omega
 refine upn g.Ops.length (fun i hi ih b hA=> ?_) (fun i hi b hA=> ?_)
 ·refine B3 (a7t _ _ _ _) (a6a g hg (by omega) (E7 (fun _=>a6a g hg (by omega) (D6 (by omega) fun y hy hm=> ?_)) fun h=>absurd (show (i:Int)<g.Ops.length by omega) h))
  rw [S5 (by omega)]
  refine ih _ fun h=> ?_
  simp only [Bool.and_eq_true,decide_eq_true_eq] at h
  have e2:((i:Int)).toNat=i:=by omega
  rw [e2] at hy
  exact ⟨(hA h.1.1).1,b0i (hA h.1.1).2 hy ⟨h.1.2,h.2⟩⟩
 ·refine B3 (a7t _ _ _ _) (a6a g hg (by omega) (E7 (fun h=>absurd h (by omega)) fun _=> ?_))
  rw [S5 (by omega)]
  exact H _ fun h=>b0i (hA h).1 (by rw [<-e3]; exact hg) (b77 (hA h).2 hi)
theorem f5s:∀i:Nat,∀b,(b=true ->∀j g,j<i ->p.Progs[j]? =some g ->∀o∈g.Ops,f0n o) ->Ex (fun r=>r=true ->∀g∈p.Progs,∀o∈g.Ops,f0n o) (a0t (i:Int) b p):=by
 have b1:=D1 hp.np; have b2:=D1 hp.ne
 have b1:=D1 hp.np; have b2:=D1 hp.ne
 refine upn p.Progs.length (fun i hi ih b hA=> ?_) (fun i hi b hA=> ?_)
 ·obtain ⟨g,hg,gm⟩:=f19 hi
  exact B3 (a7m _ _ _) (E7 (fun _=>f7n p hp i hi g hg (hp.progs g gm) ih 0 b fun h=>⟨hA h,fun j o hj=>by omega⟩) fun h=>absurd (show (i:Int)<p.Progs.length by omega) h)
 ·exact B3 (a7m _ _ _) (E7 (fun h=>absurd h (by omega)) fun _=>f7d p hp _ 0 b fun h=>b77 (hA h) hi)
theorem e87:Ex (fun r=>r=true ->∀g∈p.Progs,∀o∈g.Ops,f0n o) (b64 p):=B3 (c4k _) (f5s p hp 0 true fun _ j g h=>by omega)
end
theorem f0k (b:Bool) (s:ByteArray):Ex yes (a01 b s):=by
 refine B3 (b84 _ _) ?_
 repeat' first|exact F3 trivial|exact ih|assumption|refine C4 ?_|refine E7 (fun h=> ?_) (fun h=> ?_)|refine M6 (fun h=> ?_) (fun h=> ?_)|refine B6 _ (fun h=> ?_) (fun h=> ?_)|refine D6 (by omega) (fun y hy hm=> ?_)|refine D7 (by omega) ?_
theorem f0d (b:Bool) (s:ByteArray):Ex yes (a02 b s):=by
 refine B3 (b9b _ _) ?_
 repeat' first|exact F3 trivial|exact ih|assumption|exact f0k _ s|refine C4 ?_|refine E7 (fun h=> ?_) (fun h=> ?_)|refine M6 (fun h=> ?_) (fun h=> ?_)|refine B6 _ (fun h=> ?_) (fun h=> ?_)|refine D6 (by omega) (fun y hy hm=> ?_)|refine D7 (by omega) ?_
theorem f78 (b:Bool) (s:ByteArray):Ex yes (a48 b s):=by
 refine B3 (c10 _ _) ?_
 repeat' first|exact F3 trivial|exact ih|assumption|exact f0d _ s|refine C4 ?_|refine E7 (fun h=> ?_) (fun h=> ?_)|refine M6 (fun h=> ?_) (fun h=> ?_)|refine B6 _ (fun h=> ?_) (fun h=> ?_)|refine D6 (by omega) (fun y hy hm=> ?_)|refine D7 (by omega) ?_
theorem e5u (s:ByteArray):Ex yes (b71 s):=by
 refine B3 (c9h _) ?_
 repeat' first|exact F3 trivial|exact ih|assumption|exact f78 _ s|refine C4 ?_|refine E7 (fun h=> ?_) (fun h=> ?_)|refine M6 (fun h=> ?_) (fun h=> ?_)|refine B6 _ (fun h=> ?_) (fun h=> ?_)|refine D6 (by omega) (fun y hy hm=> ?_)|refine D7 (by omega) ?_
theorem f6c (b:Bool) (t:Int):Ex yes (a3q b t):=by
 refine B3 (b9a _ _) ?_
 repeat' first|exact F3 trivial|exact ih|assumption|refine C4 ?_|refine E7 (fun h=> ?_) (fun h=> ?_)|refine M6 (fun h=> ?_) (fun h=> ?_)|refine B6 _ (fun h=> ?_) (fun h=> ?_)|refine D6 (by omega) (fun y hy hm=> ?_)|refine D7 (by omega) ?_
theorem f7k (b:Bool) (s:ByteArray) (t:Int):Ex yes (a03 b s t):=by
 refine B3 (b9x _ _ _) ?_
 repeat' first|exact F3 trivial|exact ih|assumption|exact f6c _ t|refine C4 ?_|refine E7 (fun h=> ?_) (fun h=> ?_)|refine M6 (fun h=> ?_) (fun h=> ?_)|refine B6 _ (fun h=> ?_) (fun h=> ?_)|refine D6 (by omega) (fun y hy hm=> ?_)|refine D7 (by omega) ?_
theorem f4w (b:Bool) (s:ByteArray) (t:Int):Ex yes (a3f b s t):=by
 refine B3 (b98 _ _ _) ?_
 repeat' first|exact F3 trivial|exact ih|assumption|exact f7k _ s t|refine C4 ?_|refine E7 (fun h=> ?_) (fun h=> ?_)|refine M6 (fun h=> ?_) (fun h=> ?_)|refine B6 _ (fun h=> ?_) (fun h=> ?_)|refine D6 (by omega) (fun y hy hm=> ?_)|refine D7 (by omega) ?_
theorem f4u (b:Bool) (s:ByteArray) (t:Int):Ex yes (a66 b s t):=by
 refine B3 (b90 _ _ _) ?_
 repeat' first|exact F3 trivial|exact ih|assumption|exact f4w _ s t|refine C4 ?_|refine E7 (fun h=> ?_) (fun h=> ?_)|refine M6 (fun h=> ?_) (fun h=> ?_)|refine B6 _ (fun h=> ?_) (fun h=> ?_)|refine D6 (by omega) (fun y hy hm=> ?_)|refine D7 (by omega) ?_
theorem f9s (s:ByteArray) (t:Int):Ex yes (c3l s t):=by
 refine B3 (c9i _ _) ?_
 repeat' first|exact F3 trivial|exact ih|assumption|exact f4u _ s t|refine C4 ?_|refine E7 (fun h=> ?_) (fun h=> ?_)|refine M6 (fun h=> ?_) (fun h=> ?_)|refine B6 _ (fun h=> ?_) (fun h=> ?_)|refine D6 (by omega) (fun y hy hm=> ?_)|refine D7 (by omega) ?_
theorem e7y (n:b1k) (hn:c7n n):Ex yes (b9k n):=by
 refine B3 (c52 _) ?_
 repeat' first|exact F3 trivial|exact ih|assumption|refine e8b (d29 _ _ hn.val.okv) ?_|refine C4 ?_|refine E7 (fun h=> ?_) (fun h=> ?_)|refine M6 (fun h=> ?_) (fun h=> ?_)|refine B6 _ (fun h=> ?_) (fun h=> ?_)|refine D6 (by omega) (fun y hy hm=> ?_)|refine D7 (by omega) ?_|refine E8 (e5u _) (fun y hq=> ?_)
theorem f7l (l:List b1k) (hl:Sz l.length) (hn:∀n∈l,c7n n) (t:Int):∀i:Nat,Ex yes (a3r (i:Int) l t):=by
 have b1:=D1 hl
 refine upn (l.length) (fun i hi ih=> ?_) (fun i hi=> ?_)
 ·refine B3 (b0z _ _ _) ?_
  rw [S5 (by omega)]
  repeat' first|exact F3 trivial|exact ih|assumption|rw [c70 (by omega)]|refine C4 ?_|refine E7 (fun h=> ?_) (fun h=> ?_)|refine M6 (fun h=> ?_) (fun h=> ?_)|refine B6 _ (fun h=> ?_) (fun h=> ?_)|refine D6 (by omega) (fun y hy hm=> ?_)|refine D7 (by omega) ?_|refine E8 (e5u _) (fun y hq=> ?_)|refine E8 (f9s _ _) (fun y hq=> ?_)|refine E8 (e7y _ (hn _ (by assumption))) (fun y hq=> ?_)
 ·refine B3 (b0z _ _ _) ?_
  repeat' first|exact F3 trivial|exact ih|assumption|rw [c70 (by omega)]|exact absurd ‹_› (by omega)|(exfalso; omega)|refine C4 ?_|refine E7 (fun h=> ?_) (fun h=> ?_)|refine M6 (fun h=> ?_) (fun h=> ?_)|refine B6 _ (fun h=> ?_) (fun h=> ?_)|refine D6 (by omega) (fun y hy hm=> ?_)|refine D7 (by omega) ?_|refine E8 (e5u _) (fun y hq=> ?_)|refine E8 (f9s _ _) (fun y hq=> ?_)|refine E8 (e7y _ (hn _ (by assumption))) (fun y hq=> ?_)
theorem g0w (l:List b1k) (hl:Sz l.length) (hn:∀n∈l,c7n n) (t:Int):Ex yes (b91 l t):=by
 refine B3 (c5y _ _) ?_
 repeat' first|exact F3 trivial|exact ih|assumption|exact f7l l hl hn t 0|refine C4 ?_|refine E7 (fun h=> ?_) (fun h=> ?_)|refine M6 (fun h=> ?_) (fun h=> ?_)|refine B6 _ (fun h=> ?_) (fun h=> ?_)|refine D6 (by omega) (fun y hy hm=> ?_)|refine D7 (by omega) ?_
theorem e8q (p:A6) (o:GOp):Ex (fun r=>r=true ->(o.Kind=10 ->0<=o.Target /\ o.Target<p.Progs.length /\ o.Card≠3) /\ (o.Kind=9 ->0<=o.Target /\ o.Target<p.Enums.length) /\ (o.Kind≠9 ->o.Kind≠10 ->o.Target= -1)) (b52 p o):=by
 refine B3 (c25 _ _) (B6 _ (fun h=>F3 fun h2=> ?_) fun h=>B6 _ (fun h3=>F3 fun h2=> ?_) fun h3=>F3 fun h2=> ?_)
 all_goals simp only [Bool.and_eq_true,decide_eq_true_eq,bne_iff_ne,beq_iff_eq,beq_eq_false_iff_ne,ne_eq] at*
 ·exact ⟨fun _=>⟨h2.1.1,h2.1.2,h2.2⟩,fun h=>by omega,fun h=>by omega⟩
 ·exact ⟨fun h=>by omega,fun _=>h2,fun h=>by omega⟩
 ·exact ⟨fun h=>by omega,fun h=>by omega,fun _ _=>h2⟩
theorem e7o (p:A6) (o:GOp) (b:Bool):Ex (fun r=>r=true ->b=true /\ (o.Kind=10 ->0<=o.Target /\ o.Target<p.Progs.length /\ o.Card≠3) /\ (o.Kind=9 ->0<=o.Target /\ o.Target<p.Enums.length) /\ (o.Kind≠9 ->o.Kind≠10 ->o.Target= -1) /\ (o.Union= -1\/o.Card=2)) (a07 b p o):=by
 refine B3 (b4v _ _ _) (C4 (B6 _ (fun h=>E8 (e8q p o) fun y hy=>F3 fun h2=> ?_) fun h=>F3 fun h2=> ?_))
 ·simp only [Bool.and_eq_true,Bool.or_eq_true,beq_iff_eq] at h2
  obtain ⟨a1,a2,a3⟩:=hy h2.1
  exact ⟨h,a1,a2,a3,h2.2⟩
 ·simp at h2
theorem g1q (p:A6) (o:GOp) (ho:g20 o):Ex (fun r=>r=true ->OpF p o) (a98 p o):=by
 refine B3 (b8q _ _) (e8b (c7l _ ho.alias_) (B6 _ (fun h=>F3 fun h2=>by cases h2) fun h=>B6 _ (fun h2=>e16 (e7o p o _) fun r hr h3=> ?_) fun h2=>e16 (e7o p o _) fun r hr h3=> ?_))
 all_goals
  obtain ⟨a0,a1,a2,a3,a4⟩:=hr h3
  simp only [Bool.or_eq_false_iff,decide_eq_false_iff_not,bne_iff_ne,bne_eq_false_iff_eq,ne_eq,Bool.or_eq_true,Bool.and_eq_true,decide_eq_true_eq,beq_iff_eq] at h h2 a0
  refine ⟨by omega,by omega,⟨fun _=>by omega,fun _=>by omega⟩,a1,a2,a3,a4⟩
def e8o (o:GOp):Prop:= -1<=o.Union
theorem f0l (g:C1) (hg:b6j g):∀i:Nat,∀n:Nat,n<=i /\ i<=g.Ops.length ->(∀j o,j<i ->g.Ops[j]? =some o ->e8o o) ->Ex (fun r=>r=true ->∀o∈g.Ops,e8o o) (Y5 (i:Int) (n:Int) g):=by
 have b1:=D1 hg.n
 refine upn g.Ops.length (fun i hi ih n hn hA=> ?_) (fun i hi n hn hA=> ?_)
 ·have e2:((i:Int)).toNat=i:=by omega
  refine B3 (a83 _ _ _) (E7 (fun _=>D6 (by omega) fun y hy hm=> ?_) fun h=>absurd (show (i:Int)<g.Ops.length by omega) h)
  rw [S5 (by omega),S5 (by omega)]
  have hy':=hy
  rw [e2] at hy'
  refine B6 _ (fun h=>ih _ (by omega) (b0i hA hy' ?_)) fun h=>C4 ?_
  ·simp only [beq_iff_eq] at h; unfold e8o; omega
  have no:∀b,(b=false ->e8o y) ->Ex (α:=Bool) (fun r=>r=true ->∀o∈g.Ops,e8o o) (fun r=>(b=true ->r=false) /\ (b=false ->Y5 ((i+1:Nat):Int) (n:Int) g r)):=fun b hb=>B6 b (fun _=>F3 fun h=>by cases h) fun h=>ih _ (by omega) (b0i hA hy' (hb h))
  refine B6 _ (fun h2=>B6 _ (fun h3=>no _ fun h=>by cases h) fun h3=> ?_) fun h2=>no _ fun _=> ?_
  ·have:0<i:=by simp only [beq_eq_false_iff_ne] at h3; omega
   rw [c70 (by omega)]
   refine D6 (by omega) fun z hz _=>no _ fun h=> ?_
   have e3:(((i - 1:Nat):Int)).toNat=i - 1:=by omega
   rw [e3] at hz
   have:=hA (i - 1) z (by omega) hz
   simp only [bne_eq_false_iff_eq] at h
   unfold e8o at*; omega
  ·simp only [bne_eq_false_iff_eq] at h2
   unfold e8o; omega
 ·exact B3 (a83 _ _ _) (E7 (fun h=>absurd h (by omega)) fun _=>F3 fun _=>b77 hA hi)
theorem g0s (g:C1) (hg:b6j g):Ex (fun r=>r=true ->∀o∈g.Ops,e8o o) (b5k g):=B3 (c2z _) (f0l g hg 0 0 (by omega) fun j o h=>by omega)
section
variable (p:A6) (hp:b5o p)
 include hp
def e1x (g:C1):Prop:=(∀o∈g.Ops,e8o o) /\ ∀o∈g.Ops,OpF p o
theorem f44 (k:Nat) (hk:k<p.Progs.length) (g:C1) (hg:p.Progs[((k:Int)).toNat]? =some g) (og:b6j g) (H:∀b,(b=true ->∀j g,j<k+1 ->p.Progs[j]? =some g ->e1x p g) ->Ex (fun r=>r=true ->∀g∈p.Progs,e1x p g) (V5 ((k+1:Nat):Int) b p)):
  ∀i:Nat,∀b,(b=true ->(∀j g,j<k ->p.Progs[j]? =some g ->e1x p g) /\ (∀o∈g.Ops,e8o o) /\ ∀j o,j<i ->g.Ops[j]? =some o ->OpF p o) ->Ex (fun r=>r=true ->∀g∈p.Progs,e1x p g) (V4 (i:Int) b (k:Int) p):=by
 have b1:=D1 hp.np; have b2:=D1 hp.ne
 have b3:=D1 og.n
 have e3:((k:Int)).toNat=k:=by omega
 refine upn g.Ops.length (fun i hi ih b hA=> ?_) (fun i hi b hA=> ?_)
 ·refine B3 (a4r _ _ _ _) (a6a g hg (by omega) (E7 (fun _=> ?_) fun h=>absurd (show (i:Int)<g.Ops.length by omega) h))
  rw [S5 (by omega)]
  refine B6 _ (fun hb=>a6a g hg (by omega) (D6 (by omega) fun y hy hm=>E8 (g1q p y (og.ops y hm)) fun z hz=>ih _ fun h=> ?_)) fun hb=>ih _ fun h=>by cases h
  have e2:((i:Int)).toNat=i:=by omega
  rw [e2] at hy
  exact ⟨(hA hb).1,(hA hb).2.1,b0i (hA hb).2.2 hy (hz h)⟩
 ·refine B3 (a4r _ _ _ _) (a6a g hg (by omega) (E7 (fun h=>absurd h (by omega)) fun _=> ?_))
  rw [S5 (by omega)]
  exact H _ fun h=>b0i (hA h).1 (by rw [<-e3]; exact hg) ⟨(hA h).2.1,b77 (hA h).2.2 hi⟩
theorem e6h:∀i:Nat,∀b,(b=true ->∀j g,j<i ->p.Progs[j]? =some g ->e1x p g) ->Ex (fun r=>r=true ->∀g∈p.Progs,e1x p g) (V5 (i:Int) b p):=by
 have b1:=D1 hp.np; have b2:=D1 hp.ne
 refine upn p.Progs.length (fun i hi ih b hA=> ?_) (fun i hi b hA=> ?_)
 ·obtain ⟨g,hg,gm⟩:=f19 hi
  have go:=f44 p hp i hi g hg (hp.progs g gm) ih 0
  exact B3 (a4q _ _ _) (E7 (fun _=>C4 (B6 _ (fun hb=>a6a g hg (by omega) (E8 (g0s g (hp.progs g gm)) fun y hy=>go _ fun h=>⟨hA hb,hy h,fun j o hj=>by omega⟩)) fun hb=>go _ fun h=>by cases h)) fun h=>absurd (show (i:Int)<p.Progs.length by omega) h)
 ·exact B3 (a4q _ _ _) (E7 (fun h=>absurd h (by omega)) fun _=>F3 fun h=>b77 (hA h) hi)
theorem e3j (k:Nat) (hk:k<p.Enums.length) (g:a0r) (hg:p.Enums[((k:Int)).toNat]? =some g) (og:b8s g) (H:∀b,Ex (fun r=>r=true ->∀g∈p.Progs,e1x p g) (V7 ((k+1:Nat):Int) b p)):∀i:Nat,∀b,Ex (fun r=>r=true ->∀g∈p.Progs,e1x p g) (N3 (i:Int) b (k:Int) p):=by
 have b1:=D1 hp.np; have b2:=D1 hp.ne; have b3:=D1 og.ni
 refine upn (g.Items.length) (fun i hi ih b=> ?_) (fun i hi b=> ?_)
 ·refine B3 (a4t _ _ _ _) ?_
  try rw [S5 (by omega)]
  repeat' first|exact F3 trivial|exact ih|assumption|exact ih _|exact H _|refine a6a g hg (by omega) ?_|rw [S5 (by omega)]|refine C4 ?_|refine E7 (fun h=> ?_) (fun h=> ?_)|refine M6 (fun h=> ?_) (fun h=> ?_)|refine B6 _ (fun h=> ?_) (fun h=> ?_)|refine D6 (by first|omega|(simp only [beq_iff_eq] at*; omega)) (fun y hy hm=> ?_)|refine D7 (by first|omega|(simp only [beq_iff_eq] at*; omega)) ?_|refine E8 (g0w _ (og.items _ ‹_›).nn (og.items _ ‹_›).notes _) (fun y hq=> ?_)
 ·refine B3 (a4t _ _ _ _) ?_
  repeat' first|exact F3 trivial|exact ih|assumption|exact ih _|exact H _|refine a6a g hg (by omega) ?_|rw [S5 (by omega)]|exact absurd ‹_› (by omega)|(exfalso; omega)|refine C4 ?_|refine E7 (fun h=> ?_) (fun h=> ?_)|refine M6 (fun h=> ?_) (fun h=> ?_)|refine B6 _ (fun h=> ?_) (fun h=> ?_)|refine D6 (by first|omega|(simp only [beq_iff_eq] at*; omega)) (fun y hy hm=> ?_)|refine D7 (by first|omega|(simp only [beq_iff_eq] at*; omega)) ?_|refine E8 (g0w _ (og.items _ ‹_›).nn (og.items _ ‹_›).notes _) (fun y hq=> ?_)
theorem f6e:∀i:Nat,∀b,Ex (fun r=>r=true ->∀g∈p.Progs,e1x p g) (V7 (i:Int) b p):=by
 have b1:=D1 hp.np; have b2:=D1 hp.ne
 refine upn (p.Enums.length) (fun i hi ih b=> ?_) (fun i hi b=> ?_)
 ·obtain ⟨g,hg,gm⟩:=f19 hi
  refine B3 (a4n _ _ _) ?_
  try rw [S5 (by omega)]
  repeat' first|exact F3 trivial|exact ih|assumption|exact ih _|exact e3j p hp i hi g hg (hp.enums g gm) ih 0 _|exact e6h p hp 0 _ (fun _ j g h=>by omega)|refine a6a g hg (by omega) ?_|refine C4 ?_|refine E7 (fun h=> ?_) (fun h=> ?_)|refine M6 (fun h=> ?_) (fun h=> ?_)|refine B6 _ (fun h=> ?_) (fun h=> ?_)|refine D6 (by omega) (fun y hy hm=> ?_)|refine D7 (by omega) ?_
 ·refine B3 (a4n _ _ _) ?_
  repeat' first|exact F3 trivial|exact ih|assumption|exact ih _|exact e3j p hp i hi g hg (hp.enums g gm) ih 0 _|exact e6h p hp 0 _ (fun _ j g h=>by omega)|refine a6a g hg (by omega) ?_|exact absurd ‹_› (by omega)|(exfalso; omega)|refine C4 ?_|refine E7 (fun h=> ?_) (fun h=> ?_)|refine M6 (fun h=> ?_) (fun h=> ?_)|refine B6 _ (fun h=> ?_) (fun h=> ?_)|refine D6 (by omega) (fun y hy hm=> ?_)|refine D7 (by omega) ?_
theorem g0t:Ex (fun r=>r=true ->∀g∈p.Progs,e1x p g) (a97 p):=B3 (b8f _) (f6e p hp 0 _)
variable (hF:∀g∈p.Progs,e1x p g)
 include hF
theorem f64 (k:Nat) (hk:k<p.Progs.length) (g:C1) (hg:p.Progs[((k:Int)).toNat]? =some g) (gm:g∈p.Progs) (m:Int) (c:Bool) (H:∀b (l:List Bool),l.length=p.Progs.length ->Ex yes (a0q ((k+1:Nat):Int) b m p l)):
  ∀i:Nat,∀b (l:List Bool),l.length=p.Progs.length ->Ex yes (W1 (i:Int) b (k:Int) c m p l):=by
 have b1:=D1 hp.np; have b2:=D1 hp.ne
 have b3:=D1 (hp.progs g gm).n
 refine upn g.Ops.length (fun i hi ih b l hl=> ?_) (fun i hi b l hl=> ?_)
 ·refine B3 (a8i _ _ _ _ _ _ _) (a6a g hg (by omega) (E7 (fun _=>a6a g hg (by omega) (D6 (by omega) fun y hy hm=> ?_)) fun h=>absurd (show (i:Int)<g.Ops.length by omega) h))
  rw [S5 (by omega)]
  refine B6 _ (fun hb=>B6 _ (fun h=>ih _ l hl) fun h=> ?_) fun hb=>ih _ l hl
  have h10:y.Kind=10:=by simp only [Bool.or_eq_false_iff,bne_eq_false_iff_eq] at h; exact h.2
  have ht:=((hF g gm).2 y hm).msg h10
  refine D7 (by omega) (e8b (List.getElem?_eq_getElem (show y.Target.toNat<l.length by omega)) (ih _ l hl))
 ·refine B3 (a8i _ _ _ _ _ _ _) (a6a g hg (by omega) (E7 (fun h=>absurd h (by omega)) fun _=>D7 (by omega) (D7 (by omega) ?_)))
  rw [S5 (by omega)]
  exact H _ _ (by simpa using hl)
theorem f4e (m:Nat) (hm:m<p.Progs.length) (H:∀b (l:List Bool),l.length=p.Progs.length ->Ex yes (a10 ((m+1:Nat):Int) p b l)):
  ∀i:Nat,∀b (l:List Bool),l.length=p.Progs.length ->Ex yes (a0q (i:Int) b (m:Int) p l):=by
 have b1:=D1 hp.np
 refine upn p.Progs.length (fun i hi ih b l hl=> ?_) (fun i hi b l hl=> ?_)
 ·obtain ⟨g,hg,gm⟩:=f19 hi
  exact B3 (a7r _ _ _ _ _) (E7 (fun _=>f64 p hp hF i hi g hg gm m b ih 0 true l hl) fun h=>absurd (show (i:Int)<p.Progs.length by omega) h)
 ·refine B3 (a7r _ _ _ _ _) (E7 (fun h=>absurd h (by omega)) fun _=> ?_)
  rw [S5 (by omega)]
  exact H _ l hl
theorem f8k:∀i:Nat,∀b (l:List Bool),l.length=p.Progs.length ->Ex yes (a10 (i:Int) p b l):=by
 refine upn p.Progs.length (fun i hi ih b l hl=> ?_) (fun i hi b l hl=> ?_)
 ·exact B3 (a8x _ _ _ _) (E7 (fun _=>f4e p hp hF i hi ih 0 true l hl) fun h=>absurd (show (i:Int)<p.Progs.length by omega) h)
 ·exact B3 (a8x _ _ _ _) (E7 (fun h=>absurd h (by omega)) fun _=>F3 trivial)
theorem f1z:Ex yes (b50 p):=by
 have b1:=D1 hp.np
 exact B3 (c29 _) (D7 (by omega) (f8k p hp hF 0 _ _ (by simp)))
end
structure f4q (p:A6):Prop where
 asc:∀g∈p.Progs,Asc g.Ops g.Ops.length
 num:∀g∈p.Progs,∀o∈g.Ops,f0n o
 pro:∀g∈p.Progs,e1x p g
theorem f74 (p:A6) (hp:b5o p):Ex (fun r=>r=0 ->f4q p) (b9s p):=by
 have no:∀{n:Int},n≠0 ->Ex (α:=Int) (fun r=>r=0 ->f4q p) (fun r=>r=n):=fun hn=>F3 fun h=>absurd h hn
 refine B3 (c5p _) (E8 (e9e p hp) fun y1 _=>B6 _ (fun _=>no (by decide)) fun _=> ?_)
 refine E8 (f68 p hp) fun y1 _=>B6 _ (fun _=>no (by decide)) fun _=> ?_
 refine E8 (e6g p hp) fun y3 h3=>B6 _ (fun _=>no (by decide)) fun k3=> ?_
 refine E8 (f0q p hp) fun y1 _=>B6 _ (fun _=>no (by decide)) fun _=> ?_
 refine E8 (e87 p hp) fun y5 h5=>B6 _ (fun _=>no (by decide)) fun k5=> ?_
 refine E8 (g0t p hp) fun y6 h6=>B6 _ (fun _=>no (by decide)) fun k6=> ?_
 have hF:=h6 (by simpa using k6)
 exact E8 (f1z p hp hF) fun y1 _=>B6 _ (fun _=>no (by decide)) fun _=>F3 fun _=>⟨h3 (by simpa using k3),h5 (by simpa using k5),hF⟩
def a3s (v:A0):Bool:=
 ((v.Kind !=11)&& !v.List_.isEmpty)||(((v.Kind !=12)&& !v.Pairs.isEmpty)||(((v.Kind !=10)&& !(v.Slots.isEmpty&&v.Raws.isEmpty))||
  (((v.Bits !=0)&&(((v.Kind==7)||(v.Kind==8))||((v.Kind==10)||((v.Kind==11)||(v.Kind==12)))))||(!(decide (v.Text=(⟨#[]⟩:ByteArray)))&& !((v.Kind==7)||(v.Kind==8))))))
theorem d2a {α:Type} (l:List α):decide (0<(l.length:Int))= !l.isEmpty:=by
 cases l with
 |nil=>rfl
 |cons x l=>simp
theorem d9j {α β:Type} (l:List α) (m:List β) (h:l.length<=140737488351232) (h2:m.length<=140737488351232):decide (0<wI ((l.length:Int)+(m.length:Int)))= !(l.isEmpty&&m.isEmpty):=by
 rw [wI,D2 (by omega)]
 cases l with
 |nil=>cases m with
  |nil=>rfl
  |cons x m=>simp
 |cons x l=>simp; omega
theorem h08 (k:Int):((decide (10<=k))&&(decide (k<=12)))=((k==10)||((k==11)||(k==12))):=by
 rw [Bool.eq_iff_iff]
 simp
 omega
theorem c6n (v:A0) (hv:OkV v):a9s v (a3s v):=by
 refine c9f _ _ ?_
 rw [d2a,d2a,d9j _ _ hv.s hv.r,h08]
 unfold a3s
 generalize ((v.Kind !=11)&& !v.List_.isEmpty)=b1
 generalize ((v.Kind !=12)&& !v.Pairs.isEmpty)=b2
 generalize ((v.Kind !=10)&& !(v.Slots.isEmpty&&v.Raws.isEmpty))=b3
 generalize ((v.Kind==7)||(v.Kind==8))=b4
 generalize ((v.Kind==10)||((v.Kind==11)||(v.Kind==12)))=b5
 generalize (v.Bits !=0)=b6
 generalize (decide (v.Text=(⟨#[]⟩:ByteArray)))=b7
 revert b1 b2 b3 b4 b5 b6 b7
 decide
theorem c1h (v:A0) (hv:OkV v):a6u v (a3s v):=by
 have key:∀(e10 e11 e12 t n11 n12 n10 b1 b2 b3 b6 b7:Bool),n10= !e10 ->n11= !e11 ->n12= !e12 ->
   ((((b1&&n11)||(b2&&n12))||(b3&& !e10))=true ->((n11&&b1)||((n12&&b2)||((n10&&b3)||((b6&&(t||(e10||(e11||e12))))||(!b7&& !t)))))=true) /\
   ((((b1&&n11)||(b2&&n12))||(b3&& !e10))=false ->((n11&&b1)||((n12&&b2)||((n10&&b3)||((b6&&(t||(e10||(e11||e12))))||(!b7&& !t)))))=((b6&&(((t||e11)||e12)||e10))||(!b7&& !t))):=by
  intro e10 e11 e12 t n11 n12 n10 b1 b2 b3 b6 b7 h1 h2 h3
  subst h1 h2 h3
  revert e10 e11 e12 t b1 b2 b3 b6 b7
  decide
 have h:=key (v.Kind==10) (v.Kind==11) (v.Kind==12) ((v.Kind==7)||(v.Kind==8)) (v.Kind !=11) (v.Kind !=12) (v.Kind !=10) (!v.List_.isEmpty) (!v.Pairs.isEmpty) (!(v.Slots.isEmpty&&v.Raws.isEmpty)) (v.Bits !=0) (decide (v.Text=(⟨#[]⟩:ByteArray))) rfl rfl rfl
 refine c6c _ _ ?_
 rw [d2a,d2a,d9j _ _ hv.s hv.r]
 exact h
def c4y (p:A6) (kind enum:Int) (v:A0):Int:=
 if ((v.Kind !=kind)||a3s v)=true then 12 else if 4096<v.Text.size then 3 else if ((kind==7)&& !c41 v.Text)=true then 7 else if c32 kind v=false then 12 else if ((kind==9)&& !e7x p enum v.Bits)=true then 16 else 0
theorem f2v (p:A6) (hp:OkE p) (kind enum:Int) (v:A0) (hv:OkV v):a2a ⟨p⟩ kind enum v (c4y p kind enum v):=by
 refine b5g _ _ _ _ _ ⟨fun b=>b=((v.Kind !=kind)||a3s v),fun b hb=>⟨fun h=> ?_,fun h=>⟨fun h2=> ?_,fun h2=>⟨fun b2=>b2=((kind==7)&& !c41 v.Text),fun b2 hb2=>⟨fun h3=> ?_,fun h3=>⟨_,e7a kind v hv,fun h4=> ?_,fun h4=>⟨fun h5=>⟨_,d1d p hp enum v.Bits hv.b0,fun h6=> ?_,fun h6=> ?_⟩,fun h5=> ?_⟩⟩⟩,fun h3=>⟨_,d93 _ hv.t,by rw [h3,Bool.true_and]⟩,fun h3=>by rw [h3,Bool.false_and]⟩⟩⟩,fun h=>by rw [h,Bool.true_or],fun h=>⟨_,c6n v hv,by rw [h,Bool.false_or]⟩⟩
 ·subst hb; rw [c4y,if_pos h]
 ·subst hb; rw [c4y,if_neg (nt h),if_pos (by simp at h2; omega)]
 all_goals (subst hb; have h2':¬4096<v.Text.size:=by simp at h2; omega)
 ·subst hb2; rw [c4y,if_neg (nt h),if_neg h2',if_pos h3]
 all_goals subst hb2
 ·rw [c4y,if_neg (nt h),if_neg h2',if_neg (nt h3),if_pos (by simpa using h4)]
 ·rw [c4y,if_neg (nt h),if_neg h2',if_neg (nt h3),if_neg (by simpa using h4),if_pos (by rw [h5,Bool.true_and]; exact h6)]
 ·rw [c4y,if_neg (nt h),if_neg h2',if_neg (nt h3),if_neg (by simpa using h4),if_neg (by rw [h5,Bool.true_and]; exact nt h6)]
 ·rw [c4y,if_neg (nt h),if_neg h2',if_neg (nt h3),if_neg (by simpa using h4),if_neg (by rw [h5,Bool.false_and]; simp)]
theorem e3q (p:A6) (hp:OkE p) (kind enum:Int) (v:A0) (hv:OkV v):b2e p kind enum v (c4y p kind enum v):=by
 refine c3c _ _ _ _ _ ⟨fun b=>b=((v.Kind !=kind)||a3s v),fun b hb=>⟨fun h=> ?_,fun h=>⟨fun h2=> ?_,fun h2=>⟨fun b2=>b2=((kind==7)&& !c41 v.Text),fun b2 hb2=>⟨fun h3=> ?_,fun h3=>⟨_,d29 kind v hv,fun h4=> ?_,fun h4=>⟨fun h5=>⟨_,c9p p hp enum v.Bits hv.b0,fun h6=> ?_,fun h6=> ?_⟩,fun h5=> ?_⟩⟩⟩,fun h3=>⟨_,c7l _ hv.t,by rw [h3,Bool.true_and]⟩,fun h3=>by rw [h3,Bool.false_and]⟩⟩⟩,fun h=>by rw [h,Bool.true_or],fun h=>⟨_,c1h v hv,by rw [h,Bool.false_or]⟩⟩
 ·subst hb; rw [c4y,if_pos h]
 ·subst hb; rw [c4y,if_neg (nt h),if_pos (by simp at h2; omega)]
 all_goals (subst hb; have h2':¬4096<v.Text.size:=by simp at h2; omega)
 ·subst hb2; rw [c4y,if_neg (nt h),if_neg h2',if_pos h3]
 all_goals subst hb2
 ·rw [c4y,if_neg (nt h),if_neg h2',if_neg (nt h3),if_pos (by simpa using h4)]
 ·rw [c4y,if_neg (nt h),if_neg h2',if_neg (nt h3),if_neg (by simpa using h4),if_pos (by rw [h5,Bool.true_and]; exact h6)]
 ·rw [c4y,if_neg (nt h),if_neg h2',if_neg (nt h3),if_neg (by simpa using h4),if_neg (by rw [h5,Bool.true_and]; exact nt h6)]
 ·rw [c4y,if_neg (nt h),if_neg h2',if_neg (nt h3),if_neg (by simpa using h4),if_neg (by rw [h5,Bool.false_and]; simp)]
def b24 (f:Nat ->Int) (i n:Nat):Int:=if i<n then (if f i≠0 then f i else b24 f (i+1) n) else 0
 termination_by n - i
theorem a67 {J:Nat ->Prop} {E:Prop} {r:Int} (f:Nat ->Int) (n:Nat) (b67:∀i,i<n ->(f i≠0 ->r=f i) ->(f i=0 ->J (i+1)) ->J i) (fin:E ->J n):∀i,i<=n ->(b24 f i n≠0 ->r=b24 f i n) ->(b24 f i n=0 ->E) ->J i:=by
 have key:∀d i,n - i<=d ->i<=n ->(b24 f i n≠0 ->r=b24 f i n) ->(b24 f i n=0 ->E) ->J i:=by
  intro d
  induction d with
  |zero=>
   intro i hd hi h1 h2
   have e:i=n:=by omega
   subst e
   exact fin (h2 (by rw [b24,if_neg (by omega)]))
  |succ d ih=>
   intro i hd hi h1 h2
   rcases Nat.lt_or_ge i n with hlt|hge
   ·rw [b24,if_pos hlt] at h1 h2
    refine b67 i hlt (fun h=> ?_) (fun h=> ?_)
    ·rw [if_pos h] at h1; exact h1 h
    ·rw [if_neg (by omega)] at h1 h2
     exact ih (i+1) (by omega) (by omega) h1 h2
   ·have e:i=n:=by omega
    subst e
    exact fin (h2 (by rw [b24,if_neg (by omega)]))
 intro i
 exact key _ i (Nat.le_refl _)
theorem c1b {f:Nat ->Int} {n:Nat}:∀i,b24 f i n=0 ->∀k,i<=k ->k<n ->f k=0:=by
 have key:∀d i,n - i<=d ->b24 f i n=0 ->∀k,i<=k ->k<n ->f k=0:=by
  intro d
  induction d with
  |zero=>intro i hd _ k h1 h2; omega
  |succ d ih=>
   intro i hd h k h1 h2
   rw [b24,if_pos (show i<n by omega)] at h
   by_cases e:f i=0
   ·rw [if_neg (by omega)] at h
    rcases Nat.lt_or_ge i k with h3|h3
    ·exact ih (i+1) (by omega) h k h3 h2
    ·have:k=i:=by omega
     rw [this]; exact e
   ·rw [if_pos e] at h; exact absurd h e
 exact fun i=>key _ i (Nat.le_refl _)
theorem d3e {α:Type} (f:α ->Bool):∀(l:List α) (i:Int),0<=i ->decide (0<=c2u f l i)=l.any f
 |[],i,_=>by simp [c2u]
 |x::l,i,hi=>by
  have ih:=d3e f l (i+1) (by omega)
  rw [List.any_cons,<-ih]
  by_cases h:f x=true
  ·have e:c2u f (x::l) i=i:=by simp only [c2u]; rw [if_pos h]
   simp only [e,h,Bool.true_or]
   simpa using hi
  ·have e:c2u f (x::l) i=c2u f l (i+1):=by simp only [c2u]; rw [if_neg h]
   simp at h
   simp only [e,h,Bool.false_or]
abbrev d9a:=Int ->A0 ->Int ->Int
def orE (a b:Int):Int:=if a≠0 then a else b
noncomputable def b3n (M:d9a) (p:A6) (o:GOp) (v:A0) (lev:Int):Int:=if o.Kind=10 then M o.Target v (lev+1) else c4y p o.Kind o.Target v
noncomputable def e0e (x:A0 × A0) (l:List (A0 × A0)):Bool:=l.any fun q=>a15 (SizeOf.sizeOf q.1) q.1 x.1==0
noncomputable def b44 (M:d9a) (p:A6) (o:GOp) (l:List (A0 × A0)) (lev:Int) (i:Nat):Int:=
 match l[i]? with
 |none=>0
 |some x=>orE (c4y p o.Key (-1) x.1) (if e0e x (l.take i)=true then 9 else b3n M p o x.2 lev)
noncomputable def d5v (M:d9a) (p:A6) (o:GOp) (l:List A0) (lev:Int) (i:Nat):Int:=
 match l[i]? with
 |none=>0
 |some x=>b3n M p o x lev
noncomputable def a26 (M:d9a) (p:A6) (o:GOp) (v:A0) (lev:Int):Int:=
 if o.Card=4 then (if ((v.Kind !=11)||a3s v)=true then 12 else b24 (d5v M p o v.List_ lev) 0 v.List_.length)
 else if o.Card=5 then (if ((v.Kind !=12)||a3s v)=true then 12 else b24 (b44 M p o v.Pairs lev) 0 v.Pairs.length)
 else b3n M p o v lev
noncomputable def c3k (M:d9a) (p:A6) (g:C1) (l:List (Int × A0)) (lev:Int) (i:Nat):Int:=
 match l[i]? with
 |none=>0
 |some x=>if (opV g x.1).2=false then 8 else if ((l.take i).any fun y=>y.1==x.1)=true then 9
  else if ((l.take i).any fun y=>((opV g x.1).1.Union !=(-1))&&((opV g y.1).1.Union==(opV g x.1).1.Union))=true then 15 else a26 M p (opV g x.1).1 x.2 lev
def c2a (g:C1) (v:A0) (i:Nat):Int:=
 match g.Ops[i]? with
 |none=>0
 |some o=>if o.Card=1 /\ (v.Slots.any fun y=>y.1==o.Num)=false then 14 else 0
def d7x (p:A6) (o:GOp) (f:P6):Bool:=((((o.Kind==9)&&(o.Card !=5))&&(f.Wire==0))&&(decide (f.Bits<=2147483647)))&& !e7x p o.Target f.Bits
def d1q (p:A6) (g:C1) (f:P6):Int:=
 if (((decide (f.Num<1))||(decide (65535<f.Num)))||(decide (f.Wire<0))||(decide (6<f.Wire)))=true then 1
 else if (((decide (f.Wire<=2))&& !(decide (f.Data=(⟨#[]⟩:ByteArray))))||((!(decide (f.Wire<=2)))&&(f.Bits !=0))||((opV g f.Num).2&& !d7x p (opV g f.Num).1 f))=true then 1
 else if (((f.Wire==3)&&decide (4096<(f.Data.size:Int)))||decide (65536<(f.Data.size:Int)))=true then 3 else 0
def e1b (p:A6) (g:C1) (l:List P6) (i:Nat):Int:=
 match l[i]? with
 |none=>0
 |some f=>d1q p g f
noncomputable def e0v (M:d9a) (p:A6) (g:C1) (v:A0) (lev:Int):Int:=
 if ((v.Kind !=10)||a3s v)=true then 12 else if 16<lev then 17
 else orE (b24 (c3k M p g v.Slots lev) 0 v.Slots.length) (orE (b24 (c2a g v) 0 g.Ops.length) (b24 (e1b p g v.Raws) 0 v.Raws.length))
noncomputable def b3b (p:A6):Nat ->d9a
 |0,_,_,_=>0
 |n+1,t,v,lev=>match p.Progs[t.toNat]? with
  |none=>0
  |some g=>e0v (b3b p n) p g v lev
theorem d7t {num:Int}:∀{l:List GOp},(opL num l).2=true ->(opL num l).1.Num=num /\ (opL num l).1∈l
 |[],h=>by simp [opL] at h
 |o::l,h=>by
  by_cases e:(o.Num==num)=true
  ·have q:opL num (o::l)=(o,true):=by simp only [opL]; rw [if_pos e]
   rw [q]; exact ⟨by simpa using e,by simp⟩
  ·have q:opL num (o::l)=opL num l:=by simp only [opL]; rw [if_neg e]
   rw [q] at h ⊢
   exact ⟨(d7t h).1,List.mem_cons_of_mem _ (d7t h).2⟩
theorem b6r {g:C1} {num:Int} (h:(opV g num).2=true):(opV g num).1.Num=num /\ (opV g num).1∈g.Ops:=d7t h
theorem d4z (s:List (Int × A0)) (hs:s.length<=140737488351232) (F:GFn) (f:Int × A0 ->Bool) (hC:∀x∈s,a41 Tryz.prog [] (.clo (.func F.fn) F.fi F.cap) [.agg (U5 x)] (.v (.bool (f x)))):L7 s F (s.any f):=
 a4j _ _ _ ⟨_,a58 _ _ _ (d6q (J:=fun i s r=>M5 i s F r) f (fun i s r hw=>a30 _ _ _ _ hw) s hs hC),(d3e f s 0 (Int.le_refl _)).symm⟩
theorem e5t (s:List (A0 × A0)) (hs:s.length<=140737488351232) (F:GFn) (f:A0 × A0 ->Bool) (hC:∀x∈s,a41 Tryz.prog [] (.clo (.func F.fn) F.fi F.cap) [.agg (S3 x)] (.v (.bool (f x)))):T6 s F (s.any f):=
 a32 _ _ _ ⟨_,a6d _ _ _ (d6q (J:=fun i s r=>M0 i s F r) f (fun i s r hw=>a4i _ _ _ _ hw) s hs hC),(d3e f s 0 (Int.le_refl _)).symm⟩
theorem e6s (a b:A0) (ha:OkD a) (hb:OkD b):b1d a b (a15 (SizeOf.sizeOf a) a b==0):=b45 _ _ _ ⟨_,c9j _ a b ha hb (Nat.le_refl _),rfl⟩
theorem e6i (a b:A0) (ha:OkD a) (hb:OkD b):c0e a b (a15 (SizeOf.sizeOf a) a b==0):=c5o _ _ _ ⟨_,b9v _ a b ha hb (Nat.le_refl _),rfl⟩
theorem OkD.raws {v:A0} (h:OkD v):∀x∈v.Raws,e04 x:=by
 cases h with
 |mk _ _ _ _ _ _ _ _ _ _ _ _ _ hr _=>exact hr
structure OkX (p:A6):Prop where
 e:OkE p
 pl:b5o p
 va:f4q p
theorem c6u {α:Type} (l:List α) (i:Nat) (f:α ->Bool):(((l.take ((i:Int)).toNat).drop (0:Int).toNat))=l.take i:=by simp
theorem OkX.ops {p:A6} (h:OkX p) {g:C1} (hg:g∈p.Progs):g.Ops.length<=140737488351232:=(h.pl.progs g hg).n
section
variable {p:A6} (hp:OkX p)
 include hp
theorem f6u (g:C1) (hg:g∈p.Progs) (f:P6) (hf:e04 f):a61 ⟨p⟩ g f (d1q p g f):=by
 have ho:=f11 g (hp.ops hg) f.Num
 refine b5f _ _ _ _ ⟨_,ho,fun b=>b=d7x p (opV g f.Num).1 f,fun b hb=>⟨fun h=> ?_,fun h=>⟨fun h2=> ?_,fun h2=>⟨fun h3=> ?_,fun h3=> ?_⟩⟩⟩,fun h=>⟨_,d1d p hp.e _ _ hf.bits.1, ?_⟩,fun h=> ?_⟩
 ·subst hb; rw [d1q,if_pos h]
 ·subst hb; rw [d1q,if_neg (nt h),if_pos h2]
 ·subst hb; rw [d1q,if_neg (nt h),if_neg (nt h2),if_pos h3]
 ·subst hb; rw [d1q,if_neg (nt h),if_neg (nt h2),if_neg (nt h3)]
 ·rw [d7x,h,Bool.true_and]
 ·rw [d7x,h,Bool.false_and]
section
variable {M:d9a} {B:A0 ->Prop} (hM:∀(t:Int) (g:C1) (v:A0) (lev:Int),p.Progs[t.toNat]? =some g ->B v ->1<=lev ->lev<=17 ->N7 ⟨p⟩ g v lev (M t v lev))
 include hM
theorem d7i (o:GOp) (ho:OpF p o) (v:A0) (hv:OkD v) (hb:B v) (lev:Int) (h1:1<=lev) (h2:lev<=16):X0 ⟨p⟩ o v lev (b3n M p o v lev):=by
 refine b4p _ _ _ _ _ ⟨fun h=> ?_,fun h=>⟨_,f2v p hp.e _ _ v hv.okv, ?_⟩⟩
 ·have hk:o.Kind=10:=by simpa using h
  obtain ⟨t0,t1,_⟩:=ho.msg hk
  have hlt:o.Target.toNat<p.Progs.length:=by omega
  refine ⟨p.Progs[o.Target.toNat],List.getElem?_eq_getElem hlt,t0,_,hM o.Target _ v _ (List.getElem?_eq_getElem hlt) hb (by rw [wI,D2 (by omega)]; omega) (by rw [wI,D2 (by omega)]; omega), ?_⟩
  rw [b3n,if_pos hk,wI,D2 (by omega)]
 ·rw [b3n,if_neg (by simpa using h)]
theorem e0l (o:GOp) (ho:OpF p o) (l:List (A0 × A0)) (hl:l.length<=140737488351232) (hv:∀x∈l,OkD x.1 /\ OkD x.2) (hb:∀x∈l,B x.2) (lev:Int) (h1:1<=lev) (h2:lev<=16):a1l ⟨p⟩ o l lev (b24 (b44 M p o l lev) 0 l.length):=by
 refine b1i _ _ _ _ _ ?_
 refine a67 (J:=fun i:Nat=>U0 i l lev ⟨p⟩ o _) (E:=b24 (b44 M p o l lev) 0 l.length=0) _ l.length (fun i hi k1 k2=> ?_) (fun e=> ?_) 0 (by omega) (fun _=>rfl) (fun h=>h)
 ·have e1:wI ((i:Int)+1)=((i+1:Nat):Int):=by rw [wI,D2 (by omega)]; omega
  have hx:=List.getElem_mem hi
  have ef:b44 M p o l lev i=orE (c4y p o.Key (-1) l[i].1) (if e0e l[i] (l.take i)=true then 9 else b3n M p o l[i].2 lev):=by
   simp only [b44,List.getElem?_eq_getElem hi]
  rw [ef] at k1 k2
  refine a0p _ _ _ _ _ _ ⟨fun _=>⟨l[i],by simp,by omega,_,f2v p hp.e _ _ _ (hv _ hx).1.okv,fun h=> ?_,fun h=>⟨⟨by omega,by omega,by omega⟩,e0e l[i] (l.take i), ?_,fun h3=> ?_,fun h3=>⟨_,d7i hp hM o ho _ (hv _ hx).2 (hb _ hx) lev h1 h2,fun h4=> ?_,fun h4=> ?_⟩⟩⟩,fun h=>by simp at h; omega⟩
  ·have h':c4y p o.Key (-1) l[i].1≠0:=by simpa using h
   rw [orE,if_pos h'] at k1; exact k1 h'
  ·rw [c6u l i (fun _=>true)]
   refine e5t _ (by simp; omega) _ _ fun x hx2=>b0v x l[i] _ (a87 _ _ _ ⟨_,e6s _ _ (hv _ (List.mem_of_mem_take hx2)).1 (hv _ hx).1,rfl⟩)
  all_goals (have h':¬c4y p o.Key (-1) l[i].1≠0:=by simpa using h)
  all_goals rw [orE,if_neg h'] at k1 k2
  ·rw [if_pos h3] at k1; exact k1 (by decide)
  all_goals rw [if_neg (nt h3)] at k1 k2
  ·exact k1 (by simpa using h4)
  ·rw [e1]; exact k2 (by simpa using h4)
 ·exact a0p _ _ _ _ _ _ ⟨fun h=>by simp at h,fun _=>e⟩
theorem f1w (o:GOp) (ho:OpF p o) (v:A0) (hv:OkD v) (hb:B v) (hbl:∀x∈v.List_,B x) (hbp:∀x∈v.Pairs,B x.2) (lev:Int) (h1:1<=lev) (h2:lev<=16):a4l ⟨p⟩ o v lev (a26 M p o v lev):=by
 obtain ⟨_,_,⟨la,pa,sa,ra⟩,hl,hps,hs⟩:=hv.inv
 refine b3w _ _ _ _ _ ⟨fun h=>⟨fun b=>b=((v.Kind !=11)||a3s v),fun b hb2=>⟨fun h3=> ?_,fun h3=> ?_⟩,fun h3=>by rw [h3,Bool.true_or],fun h3=>⟨_,c6n v hv.okv,by rw [h3,Bool.false_or]⟩⟩,fun h=>⟨fun h4=>⟨fun b=>b=((v.Kind !=12)||a3s v),fun b hb2=>⟨fun h3=> ?_,fun h3=>⟨_,e0l hp hM o ho _ pa hps hbp lev h1 h2, ?_⟩⟩,fun h3=>by rw [h3,Bool.true_or],fun h3=>⟨_,c6n v hv.okv,by rw [h3,Bool.false_or]⟩⟩,fun h4=>⟨_,d7i hp hM o ho v hv hb lev h1 h2, ?_⟩⟩⟩
 ·subst hb2; rw [a26,if_pos (by simpa using h),if_pos h3]
 ·subst hb2
  rw [a26,if_pos (by simpa using h),if_neg (nt h3)]
  refine a67 (J:=fun i:Nat=>V9 i v lev ⟨p⟩ o _) (E:=b24 (d5v M p o v.List_ lev) 0 v.List_.length=0) _ v.List_.length (fun i hi k1 k2=> ?_) (fun e=> ?_) 0 (by omega) (fun _=>rfl) (fun h=>h)
  ·have e1:wI ((i:Int)+1)=((i+1:Nat):Int):=by have:=D1 la; rw [wI,D2 (by omega)]; omega
   have hx:=List.getElem_mem hi
   have ef:d5v M p o v.List_ lev i=b3n M p o v.List_[i] lev:=by simp only [d5v,List.getElem?_eq_getElem hi]
   rw [ef] at k1 k2
   refine a1p _ _ _ _ _ _ ⟨fun _=>⟨v.List_[i],by simp,by omega,_,d7i hp hM o ho _ (hl _ hx) (hbl _ hx) lev h1 h2,fun h4=>k1 (by simpa using h4),fun h4=> ?_⟩,fun h=>by simp at h; omega⟩
   rw [e1]; exact k2 (by simpa using h4)
  ·exact a1p _ _ _ _ _ _ ⟨fun h=>by simp at h,fun _=>e⟩
 all_goals (have hn:¬o.Card=4:=by simpa using h)
 ·subst hb2; rw [a26,if_neg hn,if_pos (by simpa using h4),if_pos h3]
 ·subst hb2; rw [a26,if_neg hn,if_pos (by simpa using h4),if_neg (nt h3)]
 ·rw [a26,if_neg hn,if_neg (by simpa using h4)]
theorem f4z (g:C1) (hg:g∈p.Progs) (l:List (Int × A0)) (hl:l.length<=140737488351232) (i:Nat) (hi:i<l.length) (hv:∀x∈l,OkD x.2) (hb:∀x∈l,B x.2 /\ (∀y∈x.2.List_,B y) /\ ∀y∈x.2.Pairs,B y.2) (lev:Int) (h1:1<=lev) (h2:lev<=16):a5n ⟨p⟩ g l i lev (c3k M p g l lev i):=by
 have hx:=List.getElem_mem hi
 have ho:=f11 g (hp.ops hg) l[i].1
 have ef:c3k M p g l lev i=if (opV g l[i].1).2=false then 8 else if ((l.take i).any fun y=>y.1==l[i].1)=true then 9
  else if ((l.take i).any fun y=>((opV g l[i].1).1.Union !=(-1))&&((opV g y.1).1.Union==(opV g l[i].1).1.Union))=true then 15 else a26 M p (opV g l[i].1).1 l[i].2 lev:=by
  simp only [c3k,List.getElem?_eq_getElem hi]
 rw [ef]
 refine b4z _ _ _ _ _ _ ⟨l[i],by simp,by omega,_,ho,fun h=> ?_,fun h=>⟨⟨by omega,by omega,by omega⟩,(l.take i).any (fun y=>y.1==l[i].1), ?_,fun h3=> ?_,fun h3=>⟨⟨by omega,by omega,by omega⟩, ?_⟩⟩⟩
 ·rw [if_pos (by simpa using h)]
 all_goals (have hn:(opV g l[i].1).2=true:=by simpa using h)
 all_goals obtain ⟨hnum,hop⟩:=b6r hn
 ·rw [c6u l i (fun _=>true)]
  refine d4z _ (by simp; omega) _ _ fun x hx2=>b31 x (opV g l[i].1).1 _ (b22 _ _ _ ?_)
  rw [hnum]
 all_goals rw [if_neg (by simp [hn])]
 ·rw [if_pos h3]
 rw [if_neg (nt h3)]
 have go:∀d k:Nat,i - k<=d ->k<=i ->((((l.take i).drop k).any fun y=>((opV g l[i].1).1.Union !=(-1))&&((opV g y.1).1.Union==(opV g l[i].1).1.Union))=((l.take i).any fun y=>((opV g l[i].1).1.Union !=(-1))&&((opV g y.1).1.Union==(opV g l[i].1).1.Union))) ->S9 k l i (opV g l[i].1) lev ⟨p⟩ g (if ((l.take i).any fun y=>((opV g l[i].1).1.Union !=(-1))&&((opV g y.1).1.Union==(opV g l[i].1).1.Union))=true then 15 else a26 M p (opV g l[i].1).1 l[i].2 lev):=by
  have len:(l.take i).length=i:=by simp; omega
  have fin:((((l.take i).drop i).any fun y=>((opV g l[i].1).1.Union !=(-1))&&((opV g y.1).1.Union==(opV g l[i].1).1.Union))=((l.take i).any fun y=>((opV g l[i].1).1.Union !=(-1))&&((opV g y.1).1.Union==(opV g l[i].1).1.Union))) ->S9 i l i (opV g l[i].1) lev ⟨p⟩ g (if ((l.take i).any fun y=>((opV g l[i].1).1.Union !=(-1))&&((opV g y.1).1.Union==(opV g l[i].1).1.Union))=true then 15 else a26 M p (opV g l[i].1).1 l[i].2 lev):=by
   intro hk
   rw [List.drop_eq_nil_of_le (by omega)] at hk
   refine a2m _ _ _ _ _ _ _ _ ⟨fun h=>by rw [c6u l i (fun _=>true),len] at h; simp at h,fun _=>⟨l[i],by simp,by omega,_,f1w hp hM _ ((hp.va.pro g hg).2 _ hop) _ (hv _ hx) (hb _ hx).1 (hb _ hx).2.1 (hb _ hx).2.2 lev h1 h2, ?_⟩⟩
   rw [if_neg (by rw [<-hk]; simp)]
  intro d
  induction d with
  |zero=>
   intro k hd hk he
   have e:k=i:=by omega
   subst e
   exact fin he
  |succ d ih=>
   intro k hd hk he
   rcases Nat.lt_or_ge k i with hlt|hge
   ·have e1:wI ((k:Int)+1)=((k+1:Nat):Int):=by rw [wI,D2 (by omega)]; omega
    have hk2:k<(l.take i).length:=by omega
    have dl:(l.take i).drop k=(l.take i)[k]::(l.take i).drop (k+1):=List.drop_eq_getElem_cons hk2
    rw [dl,List.any_cons] at he
    refine a2m _ _ _ _ _ _ _ _ ?_
    rw [c6u l i (fun _=>true)]
    refine ⟨fun _=>⟨(l.take i)[k],by rw [Int.toNat_natCast]; exact List.getElem?_eq_getElem hk2,by omega,_,f11 g (hp.ops hg) _,fun h4=> ?_,fun h4=> ?_⟩,fun h=>by rw [len] at h; simp at h; omega⟩
    ·rw [h4,Bool.true_or] at he
     rw [<-he,if_pos rfl]
    ·rw [h4,Bool.false_or] at he
     rw [e1]
     exact ih (k+1) (by omega) (by omega) he
   ·have e:k=i:=by omega
    subst e
    exact fin he
 exact go i 0 (by omega) (by omega) (by simp)
theorem e1k (g:C1) (hg:g∈p.Progs) (v:A0) (hv:OkD v) (hb:∀x∈v.Slots,B x.2 /\ (∀y∈x.2.List_,B y) /\ ∀y∈x.2.Pairs,B y.2) (lev:Int) (h1:1<=lev) (h2:lev<=17):N7 ⟨p⟩ g v lev (e0v M p g v lev):=by
 have hv0:=hv
 obtain ⟨_,_,⟨la,pa,sa,ra⟩,hl,hps,hs⟩:=hv.inv
 have b1:=D1 sa; have b2:=D1 ra; have b3:=hp.ops hg
 refine b1j _ _ _ _ _ ⟨fun b=>b=((v.Kind !=10)||a3s v),fun b hb2=>⟨fun h3=> ?_,fun h3=>⟨fun h4=> ?_,fun h4=> ?_⟩⟩,fun h3=>by rw [h3,Bool.true_or],fun h3=>⟨_,c6n v hv.okv,by rw [h3,Bool.false_or]⟩⟩
 ·subst hb2; rw [e0v,if_pos h3]
 ·subst hb2; rw [e0v,if_neg (nt h3),if_pos (by simpa using h4)]
 subst hb2
 have h5:¬16<lev:=by simpa using h4
 rw [e0v,if_neg (nt h3),if_neg h5]
 refine a67 (J:=fun i:Nat=>T8 i v lev ⟨p⟩ g _) (E:=b24 (c3k M p g v.Slots lev) 0 v.Slots.length=0) (r:=orE (b24 (c3k M p g v.Slots lev) 0 v.Slots.length) (orE (b24 (c2a g v) 0 g.Ops.length) (b24 (e1b p g v.Raws) 0 v.Raws.length))) (c3k M p g v.Slots lev) v.Slots.length (fun i hi k1 k2=> ?_) (fun e=> ?_) 0 (by omega) (fun h=>by rw [orE,if_pos h]) (fun h=>h)
 ·have e1:wI ((i:Int)+1)=((i+1:Nat):Int):=by rw [wI,D2 (by omega)]; omega
  refine a0w _ _ _ _ _ _ ⟨fun _=>⟨_,f4z hp hM g hg v.Slots sa i hi hs hb lev h1 (by omega),fun h=>k1 (by simpa using h),fun h=>by rw [e1]; exact k2 (by simpa using h)⟩,fun h=>by simp at h; omega⟩
 refine a0w _ _ _ _ _ _ ⟨fun h=>by simp at h,fun _=> ?_⟩
 rw [orE,if_neg (by omega)]
 refine a67 (J:=fun i:Nat=>M9 i g ⟨p⟩ v _) (E:=b24 (c2a g v) 0 g.Ops.length=0) (r:=orE (b24 (c2a g v) 0 g.Ops.length) (b24 (e1b p g v.Raws) 0 v.Raws.length)) (c2a g v) g.Ops.length (fun i hi k1 k2=> ?_) (fun e=> ?_) 0 (by omega) (fun h=>by rw [orE,if_pos h]) (fun h=>h)
 ·have e1:wI ((i:Int)+1)=((i+1:Nat):Int):=by rw [wI,D2 (by omega)]; omega
  have ef:c2a g v i=if g.Ops[i].Card=1 /\ (v.Slots.any fun y=>y.1==g.Ops[i].Num)=false then 14 else 0:=by simp only [c2a,List.getElem?_eq_getElem hi]
  rw [ef] at k1 k2
  refine Z6 _ _ _ _ _ ⟨fun _=>⟨g.Ops[i],by simp,by omega,fun h=>⟨_,d4z _ sa _ (fun y=>y.1==g.Ops[i].Num) (fun x hx=>b0m x g.Ops[i] _ (a88 _ _ _ rfl)),fun h6=> ?_,fun h6=> ?_⟩,fun h=> ?_⟩,fun h=>by simp at h; omega⟩
  ·rw [if_pos ⟨by simpa using h,by simpa using h6⟩] at k1; exact k1 (by decide)
  ·rw [e1]; refine k2 ?_; rw [if_neg]; rintro ⟨_,q⟩; simp [q] at h6
  ·rw [e1]; refine k2 ?_; rw [if_neg]; rintro ⟨q,_⟩; simp [q] at h
 refine Z6 _ _ _ _ _ ⟨fun h=>by simp at h,fun _=> ?_⟩
 rw [orE,if_neg (by omega)]
 refine a67 (J:=fun i:Nat=>S7 i v ⟨p⟩ g _) (E:=b24 (e1b p g v.Raws) 0 v.Raws.length=0) (e1b p g v.Raws) v.Raws.length (fun i hi k1 k2=> ?_) (fun e=> ?_) 0 (by omega) (fun _=>rfl) (fun h=>h)
 ·have e1:wI ((i:Int)+1)=((i+1:Nat):Int):=by rw [wI,D2 (by omega)]; omega
  have ef:e1b p g v.Raws i=d1q p g v.Raws[i]:=by simp only [e1b,List.getElem?_eq_getElem hi]
  rw [ef] at k1 k2
  refine a0a _ _ _ _ _ ⟨fun _=>⟨v.Raws[i],by simp,by omega,_,f6u hp g hg _ (hv0.raws _ (List.getElem_mem hi)),fun h=>k1 (by simpa using h),fun h=>by rw [e1]; exact k2 (by simpa using h)⟩,fun h=>by simp at h; omega⟩
 ·exact a0a _ _ _ _ _ ⟨fun h=>by simp at h,fun _=>e⟩
end
end
end Go.Proofs.YtidmmngcijapcaaGreat.Lift
