/- Part 8 of the texts that prove TextformPrintsEnd. -/
import Derived.Test.YtdpomombdeccpaaGreatDoorTextformPrintsEndP6
import Derived.Test.YtdpomombdeccpaaGreatDoorTextformPrintsEndP0
import Derived.Test.YtdpomombdeccpaaGreatDoorTextformPrintsEndP5
import Derived.Test.YtdpomombdeccpaaGreatDoorTextformPrintsEndP4
import Derived.Test.YtdpomombdeccpaaGreatDoorTextformPrintsEndP3
import Derived.Lib.LaidU8
import Derived.Test.YtdpomombdeccpaaGreatDoorRows
import Derived.WalkKit
import Derived.JoinedCond
import Derived.SevenTiedAt
namespace Go.Proofs.YtdpomombdeccpaaGreatDoor.Lift
open Go.RowKit
set_option linter.unusedVariables false
set_option linter.unusedSimpArgs false
set_option linter.unnecessarySimpa false
set_option linter.unusedSectionVars false
set_option maxRecDepth 100000
abbrev Bz:=Int->A0->Int->Int
def L8(a b:Int):Int:=if a≠0 then a else b
noncomputable def AQ(M:Bz)(p:A5)(o:B0)(v:A0)(lev:Int):Int:=if o.Kind=10 then M o.Target v (lev+1) else T7 p o.Kind o.Target v
noncomputable def Ci(x:A0 × A0)(l:b4c (A0 × A0)):b4e:=l.any λq=>L6 (SizeOf.sizeOf q.1) q.1 x.1==0
noncomputable def Cu(M:Bz)(p:A5)(o:B0)(l:b4c (A0 × A0))(lev:Int)(i:Nat):Int:=
 match l[i]? with
 |none=>0
 |some x=>L8 (T7 p o.Key (-1) x.1) (if Ci x (l.take i)=true then 9 else AQ M p o x.2 lev)
noncomputable def GQ(M:Bz)(p:A5)(o:B0)(l:b4c A0)(lev:Int)(i:Nat):Int:=
 match l[i]? with
 |none=>0
 |some x=>AQ M p o x lev
noncomputable def Z1(M:Bz)(p:A5)(o:B0)(v:A0)(lev:Int):Int:=
 if o.D6=4 then(if((v.Kind !=11)||Y6 v)=true then 12 else J1 (GQ M p o v.B4 lev) 0 v.B4.length)
 else if o.D6=5 then(if((v.Kind !=12)||Y6 v)=true then 12 else J1 (Cu M p o v.Pairs lev) 0 v.Pairs.length)
 else AQ M p o v lev
noncomputable def Cd(M:Bz)(p:A5)(g:C2)(l:b4c (Int × A0))(lev:Int)(i:Nat):Int:=
 match l[i]? with
 |none=>0
 |some x=>if(B5 g x.1).2=false then 8 else if((l.take i).any λy=>y.1==x.1)=true then 9
  else if((l.take i).any λy=>((B5 g x.1).1.Union !=(-1))&&((B5 g y.1).1.Union==(B5 g x.1).1.Union))=true then 15 else Z1 M p (B5 g x.1).1 x.2 lev
def By(g:C2)(v:A0)(i:Nat):Int:=
 match g.Ops[i]? with
 |none=>0
 |some o=>if o.D6=1/\(v.Slots.any λy=>y.1==o.Num)=false then 14 else 0
def Jm(p:A5)(o:B0)(f:D8):b4e:=((((o.Kind==9)&&(o.D6 !=5))&&(f.J0==0))&&(decide (f.Bits<=2147483647)))&& !Cq p o.Target f.Bits
def Z4(p:A5)(g:C2)(f:D8):Int:=
 if(((decide (f.Num<1))||(decide (65535<f.Num)))||(decide (f.J0<0))||(decide (6<f.J0)))=true then 1
 else if(((decide (f.J0<=2))&& !(decide (f.Data=(⟨#[]⟩:b4b))))||((!(decide (f.J0<=2)))&&(f.Bits !=0))||((B5 g f.Num).2&& !Jm p (B5 g f.Num).1 f))=true then 1
 else if(((f.J0==3)&&decide (4096<(f.Data.size:Int)))||decide (65536<(f.Data.size:Int)))=true then 3 else 0
def Ce(p:A5)(g:C2)(l:b4c D8)(i:Nat):Int:=
 match l[i]? with
 |none=>0
 |some f=>Z4 p g f
noncomputable def Ca(M:Bz)(p:A5)(g:C2)(v:A0)(lev:Int):Int:=
 if((v.Kind !=10)||Y6 v)=true then 12 else if 16<lev then 17
 else L8 (J1 (Cd M p g v.Slots lev) 0 v.Slots.length) (L8 (J1 (By g v) 0 g.Ops.length) (J1 (Ce p g v.C1) 0 v.C1.length))
noncomputable def At(p:A5):Nat->Bz
 |0,_,_,_=>0
 |n+1,t,v,lev=>match p.A7[t.toNat]? with
  |none=>0
  |some g=>Ca (At p n) p g v lev
theorem YX{num:Int}:∀{l:b4c B0},(M7 num l).2->(M7 num l).1.Num=num/\(M7 num l).1∈l
 |[],h=>by simp[M7]at h
 |o::l,h=>by
  by_cases e:(o.Num==num)=true
  ·have q:M7 num (o::l)=(o,true):=by simp only[M7];rw[if_pos e]
   rw[q];exact⟨by simpa using e,by simp⟩
  ·have q:M7 num (o::l)=M7 num l:=by simp only[M7];rw[if_neg e]
   rw[q]at h ⊢;exact⟨(YX h).1,List.mem_cons_of_mem _ (YX h).2⟩
theorem IL{g:C2}{num:Int}(h:(B5 g num).2):(B5 g num).1.Num=num/\(B5 g num).1∈g.Ops:=YX h
theorem qX(s:b4c (Int × A0))(hs:s.length<=140737488351232)(F:B3)(f:Int × A0->b4e)(hC:∀x∈s,N8 Tryz.prog [] (.clo (.func F.fn) F.fi F.cap) [.agg (M4 x)] (.v (.bool (f x)))):UR s F (s.any f):=
 wG _ _ _ ⟨_,b1p _ _ _ (Zl (J:=λi s r=>Qz i s F r) f (λi s r hw=>a0p _ _ _ _ hw) s hs hC),(Xs f s 0 (Int.le_refl _)).symm⟩
theorem a9k(s:b4c (A0 × A0))(hs:s.length<=140737488351232)(F:B3)(f:A0 × A0->b4e)(hC:∀x∈s,N8 Tryz.prog [] (.clo (.func F.fn) F.fi F.cap) [.agg (L4 x)] (.v (.bool (f x)))):Yc s F (s.any f):=
 si _ _ _ ⟨_,se _ _ _ (Zl (J:=λi s r=>Vz i s F r) f (λi s r hw=>tt _ _ _ _ hw) s hs hC),(Xs f s 0 (Int.le_refl _)).symm⟩
theorem a1t(a b:A0)(ha:C8 a)(hb:C8 b):On a b (L6 (SizeOf.sizeOf a) a b==0):=gR _ _ _ ⟨_,Jd _ a b ha hb (Nat.le_refl _),rfl⟩
theorem a44(a b:A0)(ha:C8 a)(hb:C8 b):bh a b (L6 (SizeOf.sizeOf a) a b==0):=a2z _ _ _ ⟨_,Jy _ a b ha hb (Nat.le_refl _),rfl⟩
theorem C8.Kc{v:A0}(h:C8 v):∀x∈v.C1,LA x:=by
 cases h with
 |mk _ _ _ _ _ _ _ _ _ _ _ _ _ hr _=>exact hr
structure Ay(p:A5):Prop where
 e:Mn p
 pl:Ct p
 va:ZU p
theorem UY{α:Type}(l:b4c α)(i:Nat)(f:α->b4e):(((l.take ((i:Int)).toNat).drop (0:Int).toNat))=l.take i:=by simp
theorem Ay.ops{p:A5}(h:Ay p){g:C2}(hg:g∈p.A7):g.Ops.length<=140737488351232:=(h.pl.Ez g hg).n
section
variable {p:A5}(hp:Ay p)
 include hp
theorem xu(g:C2)(hg:g∈p.A7)(f:D8)(hf:LA f):bB ⟨p⟩ g f (Z4 p g f):=by
 have ho:=NQ g (hp.ops hg) f.Num;refine a03 _ _ _ _ ⟨_,ho,λb=>b=Jm p (B5 g f.Num).1 f,λb hb=>⟨λh=>?_,λh=>⟨λh2=>?_,λh2=>⟨λh3=>?_,λh3=>?_⟩⟩⟩,λh=>⟨_,pu p hp.e _ _ hf.bits.1,?_⟩,λh=>?_⟩
 ·subst hb;rw[Z4,if_pos h]
 ·subst hb;rw[Z4,if_neg (nt h),if_pos h2]
 ·subst hb;rw[Z4,if_neg (nt h),if_neg (nt h2),if_pos h3]
 ·subst hb;rw[Z4,if_neg (nt h),if_neg (nt h2),if_neg (nt h3)]
 ·rw[Jm,h,Bool.true_and]
 ·rw[Jm,h,Bool.false_and]
section
variable {M:Bz}{B:A0->Prop}(hM:∀(t:Int) (g:C2) (v:A0) (lev:Int),p.A7[t.toNat]? =some g->B v->1<=lev->lev<=17->MR ⟨p⟩ g v lev (M t v lev))
 include hM
theorem aq(o:B0)(ho:Es p o)(v:A0)(hv:C8 v)(hb:B v)(lev:Int)(h1:1<=lev)(h2:lev<=16):OR ⟨p⟩ o v lev (AQ M p o v lev):=by
 refine uy _ _ _ _ _ ⟨λh=>?_,λh=>⟨_,lG p hp.e _ _ v hv.okv,?_⟩⟩
 ·have hk:o.Kind=10:=by simpa using h
  obtain⟨t0,t1,_⟩:=ho.msg hk;have hlt:o.Target.toNat<p.A7.length:=by omega
  refine⟨p.A7[o.Target.toNat],b3y hlt,t0,_,hM o.Target _ v _ (b3y hlt) hb (by rw[wI,C0 (by omega)];omega) (by rw[wI,C0 (by omega)];omega),?_⟩;rw[AQ,if_pos hk,wI,C0 (by omega)]
 ·rw[AQ,if_neg (by simpa using h)]
theorem a58(o:B0)(ho:Es p o)(l:b4c (A0 × A0))(hl:l.length<=140737488351232)(hv:∀x∈l,C8 x.1/\C8 x.2)(hb:∀x∈l,B x.2)(lev:Int)(h1:1<=lev)(h2:lev<=16):YV ⟨p⟩ o l lev (J1 (Cu M p o l lev) 0 l.length):=by
 refine b1y _ _ _ _ _ ?_;refine Ej (J:=λi:Nat=>Ro i l lev ⟨p⟩ o _) (E:=J1 (Cu M p o l lev) 0 l.length=0) _ l.length (λi hi k1 k2=>?_) (λe=>?_) 0 (by omega) (λ_=>rfl) (λh=>h)
 ·have e1:wI ((i:Int)+1)=((i+1:Nat):Int):=by rw[wI,C0 (by omega)];omega
  have hx:=List.getElem_mem hi
  have ef:Cu M p o l lev i=L8 (T7 p o.Key (-1) l[i].1) (if Ci l[i] (l.take i)=true then 9 else AQ M p o l[i].2 lev):=by
   simp only[Cu,b3y hi]
  rw[ef]at k1 k2;refine gj _ _ _ _ _ _ ⟨λ_=>⟨l[i],by simp,by omega,_,lG p hp.e _ _ _ (hv _ hx).1.okv,λh=>?_,λh=>⟨⟨by omega,by omega,by omega⟩,Ci l[i] (l.take i),?_,λh3=>?_,λh3=>⟨_,aq hp hM o ho _ (hv _ hx).2 (hb _ hx) lev h1 h2,λh4=>?_,λh4=>?_⟩⟩⟩,λh=>by simp at h;omega⟩
  ·have h':T7 p o.Key (-1) l[i].1≠0:=by simpa using h
   rw[L8,if_pos h']at k1;exact k1 h'
  ·rw[UY l i (λ_=>true)];refine a9k _ (by simp;omega) _ _ λx hx2=>b2p x l[i] _ (a65 _ _ _ ⟨_,a1t _ _ (hv _ (List.mem_of_mem_take hx2)).1 (hv _ hx).1,rfl⟩)
  all_goals (have h':¬T7 p o.Key (-1) l[i].1≠0:=by simpa using h)
  all_goals rw[L8,if_neg h']at k1 k2
  ·rw[if_pos h3]at k1;exact k1 (by decide)
  all_goals rw[if_neg (nt h3)]at k1 k2
  ·exact k1 (by simpa using h4)
  ·rw[e1];exact k2 (by simpa using h4)
 ·exact gj _ _ _ _ _ _ ⟨λh=>by simp at h,λ_=>e⟩
theorem yR(o:B0)(ho:Es p o)(v:A0)(hv:C8 v)(hb:B v)(hbl:∀x∈v.B4,B x)(hbp:∀x∈v.Pairs,B x.2)(lev:Int)(h1:1<=lev)(h2:lev<=16):XS ⟨p⟩ o v lev (Z1 M p o v lev):=by
 obtain⟨_,_,⟨la,pa,sa,ra⟩,hl,hps,hs⟩:=hv.inv;refine m9 _ _ _ _ _ ⟨λh=>⟨λb=>b=((v.Kind !=11)||Y6 v),λb hb2=>⟨λh3=>?_,λh3=>?_⟩,λh3=>by rw[h3,Bool.true_or],λh3=>⟨_,Vf v hv.okv,by rw[h3,Bool.false_or]⟩⟩,λh=>⟨λh4=>⟨λb=>b=((v.Kind !=12)||Y6 v),λb hb2=>⟨λh3=>?_,λh3=>⟨_,a58 hp hM o ho _ pa hps hbp lev h1 h2,?_⟩⟩,λh3=>by rw[h3,Bool.true_or],λh3=>⟨_,Vf v hv.okv,by rw[h3,Bool.false_or]⟩⟩,λh4=>⟨_,aq hp hM o ho v hv hb lev h1 h2,?_⟩⟩⟩
 ·subst hb2;rw[Z1,if_pos (by simpa using h),if_pos h3]
 ·subst hb2;rw[Z1,if_pos (by simpa using h),if_neg (nt h3)];refine Ej (J:=λi:Nat=>Rc i v lev ⟨p⟩ o _) (E:=J1 (GQ M p o v.B4 lev) 0 v.B4.length=0) _ v.B4.length (λi hi k1 k2=>?_) (λe=>?_) 0 (by omega) (λ_=>rfl) (λh=>h)
  ·have e1:wI ((i:Int)+1)=((i+1:Nat):Int):=by have:=C5 la;rw[wI,C0 (by omega)];omega
   have hx:=List.getElem_mem hi;have ef:GQ M p o v.B4 lev i=AQ M p o v.B4[i] lev:=by simp only[GQ,b3y hi]
   rw[ef]at k1 k2;refine mK _ _ _ _ _ _ ⟨λ_=>⟨v.B4[i],by simp,by omega,_,aq hp hM o ho _ (hl _ hx) (hbl _ hx) lev h1 h2,λh4=>k1 (by simpa using h4),λh4=>?_⟩,λh=>by simp at h;omega⟩;rw[e1];exact k2 (by simpa using h4)
  ·exact mK _ _ _ _ _ _ ⟨λh=>by simp at h,λ_=>e⟩
 all_goals (have hn:¬o.D6=4:=by simpa using h)
 ·subst hb2;rw[Z1,if_neg hn,if_pos (by simpa using h4),if_pos h3]
 ·subst hb2;rw[Z1,if_neg hn,if_pos (by simpa using h4),if_neg (nt h3)]
 ·rw[Z1,if_neg hn,if_neg (by simpa using h4)]
theorem a6g(g:C2)(hg:g∈p.A7)(l:b4c (Int × A0))(hl:l.length<=140737488351232)(i:Nat)(hi:i<l.length)(hv:∀x∈l,C8 x.2)(hb:∀x∈l,B x.2/\(∀y∈x.2.B4,B y)/\∀y∈x.2.Pairs,B y.2)(lev:Int)(h1:1<=lev)(h2:lev<=16):Yo ⟨p⟩ g l i lev (Cd M p g l lev i):=by
 have hx:=List.getElem_mem hi;have ho:=NQ g (hp.ops hg) l[i].1
 have ef:Cd M p g l lev i=if(B5 g l[i].1).2=false then 8 else if((l.take i).any λy=>y.1==l[i].1)=true then 9
  else if((l.take i).any λy=>((B5 g l[i].1).1.Union !=(-1))&&((B5 g y.1).1.Union==(B5 g l[i].1).1.Union))=true then 15 else Z1 M p (B5 g l[i].1).1 l[i].2 lev:=by
  simp only[Cd,b3y hi]
 rw[ef];refine i6 _ _ _ _ _ _ ⟨l[i],by simp,by omega,_,ho,λh=>?_,λh=>⟨⟨by omega,by omega,by omega⟩,(l.take i).any (λy=>y.1==l[i].1),?_,λh3=>?_,λh3=>⟨⟨by omega,by omega,by omega⟩,?_⟩⟩⟩
 ·rw[if_pos (by simpa using h)]
 all_goals (have hn:(B5 g l[i].1).2:=by simpa using h)
 all_goals obtain⟨hnum,hop⟩:=IL hn
 ·rw[UY l i (λ_=>true)];refine qX _ (by simp;omega) _ _ λx hx2=>uU x (B5 g l[i].1).1 _ (a3e _ _ _ ?_)
  rw[hnum]
 all_goals rw[if_neg (by simp[hn])]
 ·rw[if_pos h3]
 rw[if_neg (nt h3)]
 have go:∀d k:Nat,i - k<=d->k<=i->((((l.take i).drop k).any λy=>((B5 g l[i].1).1.Union !=(-1))&&((B5 g y.1).1.Union==(B5 g l[i].1).1.Union))=((l.take i).any λy=>((B5 g l[i].1).1.Union !=(-1))&&((B5 g y.1).1.Union==(B5 g l[i].1).1.Union)))->PA k l i (B5 g l[i].1) lev ⟨p⟩ g (if((l.take i).any λy=>((B5 g l[i].1).1.Union !=(-1))&&((B5 g y.1).1.Union==(B5 g l[i].1).1.Union))=true then 15 else Z1 M p (B5 g l[i].1).1 l[i].2 lev):=by
  have len:(l.take i).length=i:=by simp;omega
  have fin:((((l.take i).drop i).any λy=>((B5 g l[i].1).1.Union !=(-1))&&((B5 g y.1).1.Union==(B5 g l[i].1).1.Union))=((l.take i).any λy=>((B5 g l[i].1).1.Union !=(-1))&&((B5 g y.1).1.Union==(B5 g l[i].1).1.Union)))->PA i l i (B5 g l[i].1) lev ⟨p⟩ g (if((l.take i).any λy=>((B5 g l[i].1).1.Union !=(-1))&&((B5 g y.1).1.Union==(B5 g l[i].1).1.Union))=true then 15 else Z1 M p (B5 g l[i].1).1 l[i].2 lev):=by
   intro hk;rw[b33 (by omega)]at hk;refine ml _ _ _ _ _ _ _ _ ⟨λh=>by rw[UY l i (λ_=>true),len]at h;simp at h,λ_=>⟨l[i],by simp,by omega,_,yR hp hM _ ((hp.va.Mh g hg).2 _ hop) _ (hv _ hx) (hb _ hx).1 (hb _ hx).2.1 (hb _ hx).2.2 lev h1 h2,?_⟩⟩;rw[if_neg (by rw[<-hk];simp)]
  intro d
  induction d with
  |zero=>
   intro k hd hk he;have e:k=i:=by omega
   subst e;exact fin he
  |succ d ih=>
   intro k hd hk he;rcases Nat.lt_or_ge k i with hlt|hge
   ·have e1:wI ((k:Int)+1)=((k+1:Nat):Int):=by rw[wI,C0 (by omega)];omega
    have hk2:k<(l.take i).length:=by omega
    have dl:(l.take i).drop k=(l.take i)[k]::(l.take i).drop (k+1):=b32 hk2;rw[dl,List.any_cons]at he;refine ml _ _ _ _ _ _ _ _ ?_;rw[UY l i (λ_=>true)];refine⟨λ_=>⟨(l.take i)[k],by rw[Int.toNat_natCast];exact b3y hk2,by omega,_,NQ g (hp.ops hg) _,λh4=>?_,λh4=>?_⟩,λh=>by rw[len]at h;simp at h;omega⟩
    ·rw[h4,Bool.true_or]at he;rw[<-he,if_pos rfl]
    ·rw[h4,Bool.false_or]at he;rw[e1];exact ih (k+1) (by omega) (by omega) he
   ·have e:k=i:=by omega
    subst e;exact fin he
 exact go i 0 (by omega) (by omega) (by simp)
theorem sQ(g:C2)(hg:g∈p.A7)(v:A0)(hv:C8 v)(hb:∀x∈v.Slots,B x.2/\(∀y∈x.2.B4,B y)/\∀y∈x.2.Pairs,B y.2)(lev:Int)(h1:1<=lev)(h2:lev<=17):MR ⟨p⟩ g v lev (Ca M p g v lev):=by
 have hv0:=hv;obtain⟨_,_,⟨la,pa,sa,ra⟩,hl,hps,hs⟩:=hv.inv;have b1:=C5 sa;have b2:=C5 ra;have b3:=hp.ops hg;refine n8 _ _ _ _ _ ⟨λb=>b=((v.Kind !=10)||Y6 v),λb hb2=>⟨λh3=>?_,λh3=>⟨λh4=>?_,λh4=>?_⟩⟩,λh3=>by rw[h3,Bool.true_or],λh3=>⟨_,Vf v hv.okv,by rw[h3,Bool.false_or]⟩⟩
 ·subst hb2;rw[Ca,if_pos h3]
 ·subst hb2;rw[Ca,if_neg (nt h3),if_pos (by simpa using h4)]
 subst hb2;have h5:¬16<lev:=by simpa using h4
 rw[Ca,if_neg (nt h3),if_neg h5];refine Ej (J:=λi:Nat=>VN i v lev ⟨p⟩ g _) (E:=J1 (Cd M p g v.Slots lev) 0 v.Slots.length=0) (r:=L8 (J1 (Cd M p g v.Slots lev) 0 v.Slots.length) (L8 (J1 (By g v) 0 g.Ops.length) (J1 (Ce p g v.C1) 0 v.C1.length))) (Cd M p g v.Slots lev) v.Slots.length (λi hi k1 k2=>?_) (λe=>?_) 0 (by omega) (λh=>by rw[L8,if_pos h]) (λh=>h)
 ·have e1:wI ((i:Int)+1)=((i+1:Nat):Int):=by rw[wI,C0 (by omega)];omega
  refine mS _ _ _ _ _ _ ⟨λ_=>⟨_,a6g hp hM g hg v.Slots sa i hi hs hb lev h1 (by omega),λh=>k1 (by simpa using h),λh=>by rw[e1];exact k2 (by simpa using h)⟩,λh=>by simp at h;omega⟩
 refine mS _ _ _ _ _ _ ⟨λh=>by simp at h,λ_=>?_⟩;rw[L8,if_neg (by omega)];refine Ej (J:=λi:Nat=>Nu i g ⟨p⟩ v _) (E:=J1 (By g v) 0 g.Ops.length=0) (r:=L8 (J1 (By g v) 0 g.Ops.length) (J1 (Ce p g v.C1) 0 v.C1.length)) (By g v) g.Ops.length (λi hi k1 k2=>?_) (λe=>?_) 0 (by omega) (λh=>by rw[L8,if_pos h]) (λh=>h)
 ·have e1:wI ((i:Int)+1)=((i+1:Nat):Int):=by rw[wI,C0 (by omega)];omega
  have ef:By g v i=if g.Ops[i].D6=1/\(v.Slots.any λy=>y.1==g.Ops[i].Num)=false then 14 else 0:=by simp only[By,b3y hi]
  rw[ef]at k1 k2;refine ej _ _ _ _ _ ⟨λ_=>⟨g.Ops[i],by simp,by omega,λh=>⟨_,qX _ sa _ (λy=>y.1==g.Ops[i].Num) (λx hx=>tJ x g.Ops[i] _ (sG _ _ _ rfl)),λh6=>?_,λh6=>?_⟩,λh=>?_⟩,λh=>by simp at h;omega⟩
  ·rw[if_pos ⟨by simpa using h,by simpa using h6⟩]at k1;exact k1 (by decide)
  ·rw[e1];refine k2 ?_;rw[if_neg];rintro⟨_,q⟩;simp[q]at h6
  ·rw[e1];refine k2 ?_;rw[if_neg];rintro⟨q,_⟩;simp[q]at h
 refine ej _ _ _ _ _ ⟨λh=>by simp at h,λ_=>?_⟩;rw[L8,if_neg (by omega)];refine Ej (J:=λi:Nat=>Ta i v ⟨p⟩ g _) (E:=J1 (Ce p g v.C1) 0 v.C1.length=0) (Ce p g v.C1) v.C1.length (λi hi k1 k2=>?_) (λe=>?_) 0 (by omega) (λ_=>rfl) (λh=>h)
 ·have e1:wI ((i:Int)+1)=((i+1:Nat):Int):=by rw[wI,C0 (by omega)];omega
  have ef:Ce p g v.C1 i=Z4 p g v.C1[i]:=by simp only[Ce,b3y hi]
  rw[ef]at k1 k2;refine lR _ _ _ _ _ ⟨λ_=>⟨v.C1[i],by simp,by omega,_,xu hp g hg _ (hv0.Kc _ (List.getElem_mem hi)),λh=>k1 (by simpa using h),λh=>by rw[e1];exact k2 (by simpa using h)⟩,λh=>by simp at h;omega⟩
 ·exact lR _ _ _ _ _ ⟨λh=>by simp at h,λ_=>e⟩
end
end
theorem a1m(p:A5)(t b:Int)(y:I2)(hy:p.C3[t.toNat]? =some y)(h0:0<=t)(hb:b<=2147483647)(ho:y.Open=true):Cq p t b:=by
 have hlt:t.toNat<p.C3.length:=(List.getElem?_eq_some_iff.1 hy).1;rw[Cq,if_neg (by omega),hy];simp[ho]
section
variable {p:A5}(hp:Ay p)
 include hp
theorem y0(g:C2)(hg:g∈p.A7)(f:D8)(hf:LA f):ZN p g f (decide (Z4 p g f≠1)):=by
 have ho:=Ms g (hp.ops hg) f.Num
 have two:(decide (2<f.J0))= !(decide (f.J0<=2)):=by
  rw[Bool.eq_iff_iff];simp
 refine a7f _ _ _ _ ?_;rw[two];refine⟨λh=>?_,λh=>⟨λh2=>?_,λh2=>⟨_,ho,λh3=>?_,λh3=>⟨λb=>b=((B5 g f.Num).1.Kind==9&& !((p.C3[(B5 g f.Num).1.Target.toNat]?).any (·.Open))),λb hb=>⟨λh4=>⟨_,qU p hp.e _ _ hf.bits.1,?_⟩,λh4=>?_⟩,λh4=>?_,λh4=>?_⟩⟩⟩⟩
 ·rw[Z4,if_pos h];rfl
 ·rw[Z4,if_neg (nt h),if_pos (by rw[h2,Bool.true_or])];rfl
 ·have h3':(B5 g f.Num).2=false:=by simpa using h3
  rw[Z4,if_neg (nt h),h2,h3',Bool.false_and,Bool.false_or,if_neg (by simp)];split<;>rfl
 all_goals (have h3':(B5 g f.Num).2:=by simpa using h3)
 ·obtain⟨_,hop⟩:=IL h3';subst hb;simp only[b3x]at h4;rw[Z4,if_neg (nt h),h2,h3',Bool.true_and,Bool.false_or];rw[Jm,h4.1.1.1.1,h4.1.1.2,h4.1.2,h4.2];simp only[Bool.true_and,Bool.not_not];cases Cq p (B5 g f.Num).1.Target f.Bits with
  |true=>rfl
  |false=>simp only[Bool.false_eq_true,if_false];split<;>rfl
 ·obtain⟨_,hop⟩:=IL h3';subst hb
  have hk:Jm p (B5 g f.Num).1 f=false:=by
   unfold Jm;cases hk9:((B5 g f.Num).1.Kind==9) with
   |false=>rfl
   |true=>
    obtain⟨t0,t1⟩:=((hp.va.Mh g hg).2 _ hop).enum (by simpa using hk9);have hlt:(B5 g f.Num).1.Target.toNat<p.C3.length:=by omega
    have hy:=b3y hlt;rw[hk9,hy]at h4;simp only[Option.any_some,Bool.true_and]at h4;cases hopn:(p.C3[(B5 g f.Num).1.Target.toNat]).Open with
    |false=>
     rw[hopn]at h4;simp only[Bool.not_false,Bool.true_and]at h4 ⊢;rw[h4,Bool.false_and]
    |true=>
     cases hbt:(decide (f.Bits<=2147483647)) with
     |false=>simp
     |true=>
      have:=a1m p _ f.Bits _ hy t0 (by simpa using hbt) hopn;simp[this]
  rw[Z4,if_neg (nt h),h2,h3',hk];rfl
 ·obtain⟨_,hop⟩:=IL h3';obtain⟨t0,t1⟩:=((hp.va.Mh g hg).2 _ hop).enum (by simpa using h4);have hlt:(B5 g f.Num).1.Target.toNat<p.C3.length:=by omega
  have hy:=b3y hlt;exact⟨_,hy,t0,by rw[h4,hy];simp⟩
 ·rw[h4];rfl
theorem a4f(v:A0)(hv:C8 v)(num:Int):Yr v num (v.Slots.any λy=>y.1==num):=by
 refine ze _ _ _ ?_
 exact Jt (C:=λx b=>b=(x.1==num)) (λx:Int × A0=>x.1==num) v.Slots (λi hw=>a54 i num v _ ⟨λh=>by
  obtain⟨y,h1,h2,b,rfl,h3⟩:=hw.1 h;exact⟨y,h1,h2,h3⟩,hw.2⟩) hv.okv.s (λ_ _=>rfl) (λh=>h) (λh=>h)
section
variable {M:Bz}{B:A0->Prop}(hM:∀(t:Int) (g:C2) (v:A0) (lev:Int),p.A7[t.toNat]? =some g->0<=t->B v->1<=lev->lev<=17->Ks p t v lev (M t v lev))
 include hM
theorem cY(o:B0)(ho:Es p o)(v:A0)(hv:C8 v)(hb:B v)(lev:Int)(h1:1<=lev)(h2:lev<=16):Mu p o v lev (AQ M p o v lev):=by
 refine b16 _ _ _ _ _ ⟨λh=>?_,λh=>⟨_,gi p hp.e _ _ v hv.okv,?_⟩⟩
 ·have hk:o.Kind=10:=by simpa using h
  obtain⟨t0,t1,_⟩:=ho.msg hk;have hlt:o.Target.toNat<p.A7.length:=by omega
  refine⟨_,hM o.Target _ v _ (b3y hlt) t0 hb (by rw[wI,C0 (by omega)];omega) (by rw[wI,C0 (by omega)];omega),?_⟩;rw[AQ,if_pos hk,wI,C0 (by omega)]
 ·rw[AQ,if_neg (by simpa using h)]
theorem b2h(o:B0)(ho:Es p o)(l:b4c (A0 × A0))(hl:l.length<=140737488351232)(hv:∀x∈l,C8 x.1/\C8 x.2)(hb:∀x∈l,B x.2)(lev:Int)(h1:1<=lev)(h2:lev<=16):bP p o l lev (J1 (Cu M p o l lev) 0 l.length):=by
 refine zf _ _ _ _ _ ?_;refine Ej (J:=λi:Nat=>VC i l lev p o _) (E:=J1 (Cu M p o l lev) 0 l.length=0) _ l.length (λi hi k1 k2=>?_) (λe=>?_) 0 (by omega) (λ_=>rfl) (λh=>h)
 ·have e1:wI ((i:Int)+1)=((i+1:Nat):Int):=by rw[wI,C0 (by omega)];omega
  have hx:=List.getElem_mem hi
  have ef:Cu M p o l lev i=L8 (T7 p o.Key (-1) l[i].1) (if Ci l[i] (l.take i)=true then 9 else AQ M p o l[i].2 lev):=by
   simp only[Cu,b3y hi]
  rw[ef]at k1 k2;refine jK _ _ _ _ _ _ ⟨λ_=>⟨l[i],by simp,by omega,_,gi p hp.e _ _ _ (hv _ hx).1.okv,λh=>?_,λh=>?_⟩,λh=>by simp at h;omega⟩
  ·have h':T7 p o.Key (-1) l[i].1≠0:=by simpa using h
   rw[L8,if_pos h']at k1;exact k1 h'
  have h':¬T7 p o.Key (-1) l[i].1≠0:=by simpa using h
  rw[L8,if_neg h']at k1 k2
  have go:∀d k:Nat,i - k<=d->k<=i->Ci l[i] ((l.take i).drop k)=Ci l[i] (l.take i)->NG k i l lev p o (J1 (Cu M p o l lev) 0 l.length):=by
   have len:(l.take i).length=i:=by simp;omega
   have fin:Ci l[i] ((l.take i).drop i)=Ci l[i] (l.take i)->NG i i l lev p o (J1 (Cu M p o l lev) 0 l.length):=by
    intro hk;rw[b33 (by omega)]at hk;have hk':¬Ci l[i] (l.take i):=by rw[<-hk];simp[Ci]
    rw[if_neg hk']at k1 k2;refine fS _ _ _ _ _ _ _ ⟨λh=>by simp at h,λ_=>⟨l[i],by simp,by omega,_,cY hp hM o ho _ (hv _ hx).2 (hb _ hx) lev h1 h2,λh4=>k1 (by simpa using h4),λh4=>?_⟩⟩;rw[e1];exact k2 (by simpa using h4)
   intro d
   induction d with
   |zero=>
    intro k hd hk he;have e:k=i:=by omega
    subst e;exact fin he
   |succ d ih=>
    intro k hd hk he;rcases Nat.lt_or_ge k i with hlt|hge
    ·have e2:wI ((k:Int)+1)=((k+1:Nat):Int):=by rw[wI,C0 (by omega)];omega
     have hk2:k<(l.take i).length:=by omega
     have hk3:k<l.length:=by omega
     have dl:(l.take i).drop k=l[k]::(l.take i).drop (k+1):=by rw[b32 hk2,List.getElem_take]
     rw[dl,Ci,List.any_cons]at he;refine fS _ _ _ _ _ _ _ ⟨λ_=>⟨l[k],by simp,by omega,l[i],by simp,by omega,_,a44 _ _ (hv _ (List.getElem_mem hk3)).1 (hv _ hx).1,λh4=>?_,λh4=>?_⟩,λh=>by simp at h;omega⟩
     ·rw[h4,Bool.true_or]at he;rw[if_pos he.symm]at k1;exact k1 (by decide)
     ·rw[h4,Bool.false_or]at he;rw[e2];exact ih (k+1) (by omega) (by omega) he
    ·have e:k=i:=by omega
     subst e;exact fin he
  exact go i 0 (by omega) (by omega) (by simp)
 ·exact jK _ _ _ _ _ _ ⟨λh=>by simp at h,λ_=>e⟩
theorem t8(o:B0)(ho:Es p o)(v:A0)(hv:C8 v)(hb:B v)(hbl:∀x∈v.B4,B x)(hbp:∀x∈v.Pairs,B x.2)(lev:Int)(h1:1<=lev)(h2:lev<=16):ZI p o v lev (Z1 M p o v lev):=by
 obtain⟨_,_,⟨la,pa,sa,ra⟩,hl,hps,hs⟩:=hv.inv;refine a5z _ _ _ _ _ ⟨λh=>⟨λb=>b=((v.Kind !=12)||Y6 v),λb hb2=>⟨λh3=>?_,λh3=>⟨_,b2h hp hM o ho _ pa hps hbp lev h1 h2,?_⟩⟩,λh3=>by rw[h3,Bool.true_or],λh3=>⟨_,SH v hv.okv,by rw[h3,Bool.false_or]⟩⟩,λh=>⟨λh4=>⟨λb=>b=((v.Kind !=11)||Y6 v),λb hb2=>⟨λh3=>?_,λh3=>?_⟩,λh3=>by rw[h3,Bool.true_or],λh3=>⟨_,SH v hv.okv,by rw[h3,Bool.false_or]⟩⟩,λh4=>⟨_,cY hp hM o ho v hv hb lev h1 h2,?_⟩⟩⟩
 ·subst hb2;have h5:o.D6=5:=by simpa using h
  rw[Z1,if_neg (by omega),if_pos h5,if_pos h3]
 ·subst hb2;have h5:o.D6=5:=by simpa using h
  rw[Z1,if_neg (by omega),if_pos h5,if_neg (nt h3)]
 ·subst hb2;rw[Z1,if_pos (by simpa using h4),if_pos h3]
 ·subst hb2;rw[Z1,if_pos (by simpa using h4),if_neg (nt h3)];refine Ej (J:=λi:Nat=>Tt i lev p o v _) (E:=J1 (GQ M p o v.B4 lev) 0 v.B4.length=0) _ v.B4.length (λi hi k1 k2=>?_) (λe=>?_) 0 (by omega) (λ_=>rfl) (λh=>h)
  ·have e1:wI ((i:Int)+1)=((i+1:Nat):Int):=by have:=C5 la;rw[wI,C0 (by omega)];omega
   have hx:=List.getElem_mem hi;have ef:GQ M p o v.B4 lev i=AQ M p o v.B4[i] lev:=by simp only[GQ,b3y hi]
   rw[ef]at k1 k2;refine lk _ _ _ _ _ _ ⟨λ_=>⟨v.B4[i],by simp,by omega,_,cY hp hM o ho _ (hl _ hx) (hbl _ hx) lev h1 h2,λh4=>k1 (by simpa using h4),λh4=>?_⟩,λh=>by simp at h;omega⟩;rw[e1];exact k2 (by simpa using h4)
  ·exact lk _ _ _ _ _ _ ⟨λh=>by simp at h,λ_=>e⟩
 ·rw[Z1,if_neg (by simpa using h4),if_neg (by simpa using h)]
def Hl(g:C2)(l:b4c (Int × A0))(i:Nat):Int:=
 match l[i]? with
 |none=>0
 |some x=>if(B5 g x.1).2=false then 8 else if((l.take i).any λy=>y.1==x.1)=true then 9
  else if((l.take i).any λy=>((B5 g x.1).1.Union !=(-1))&&((B5 g y.1).1.Union==(B5 g x.1).1.Union))=true then 15 else 0
 omit hM in
theorem zR(g:C2)(hg:g∈p.A7)(l:b4c (Int × A0))(hl:l.length<=140737488351232)(i:Nat)(hi:i<l.length):dF g l i (Hl g l i):=by
  have ef:Hl g l i=if(B5 g l[i].1).2=false then 8 else if((l.take i).any λy=>y.1==l[i].1)=true then 9
    else if((l.take i).any λy=>((B5 g l[i].1).1.Union !=(-1))&&((B5 g y.1).1.Union==(B5 g l[i].1).1.Union))=true then 15 else 0:=by
    simp only[Hl,b3y hi]
  rw[ef];refine a9p _ _ _ _ ⟨l[i],by simp,by omega,_,Ms g (hp.ops hg) _,λh=>?_,λh=>?_⟩
  · rw[if_pos (by simpa using h)]
  have hn:(B5 g l[i].1).2:=by simpa using h
  rw[if_neg (by simp[hn])];have len:(l.take i).length=i:=by simp;omega
  have go:∀d k:Nat,∀b:b4e,i - k<=d->k<=i->(((l.take i).drop k).any λy=>y.1==l[i].1)=((l.take i).any λy=>y.1==l[i].1)->(b||(((l.take i).drop k).any λy=>((B5 g l[i].1).1.Union !=(-1))&&((B5 g y.1).1.Union==(B5 g l[i].1).1.Union)))=((l.take i).any λy=>((B5 g l[i].1).1.Union !=(-1))&&((B5 g y.1).1.Union==(B5 g l[i].1).1.Union))->
      Ni k b l i g (B5 g l[i].1) (if((l.take i).any λy=>y.1==l[i].1)=true then 9 else if((l.take i).any λy=>((B5 g l[i].1).1.Union !=(-1))&&((B5 g y.1).1.Union==(B5 g l[i].1).1.Union))=true then 15 else 0):=by
    have fin:∀b:b4e,(((l.take i).drop i).any λy=>y.1==l[i].1)=((l.take i).any λy=>y.1==l[i].1)->(b||(((l.take i).drop i).any λy=>((B5 g l[i].1).1.Union !=(-1))&&((B5 g y.1).1.Union==(B5 g l[i].1).1.Union)))=((l.take i).any λy=>((B5 g l[i].1).1.Union !=(-1))&&((B5 g y.1).1.Union==(B5 g l[i].1).1.Union))->
        Ni i b l i g (B5 g l[i].1) (if((l.take i).any λy=>y.1==l[i].1)=true then 9 else if((l.take i).any λy=>((B5 g l[i].1).1.Union !=(-1))&&((B5 g y.1).1.Union==(B5 g l[i].1).1.Union))=true then 15 else 0):=by
      intro b hk hu;rw[b33 (by omega)]at hk hu;simp only[List.any_nil,Bool.or_false]at hk hu;refine je _ _ _ _ _ _ _ ⟨λh=>by simp at h,λ_=>⟨λh=>?_,λh=>?_⟩⟩
      · rw[if_neg (by rw[<-hk];simp),if_pos (by rw[<-hu];exact h)]
      · rw[if_neg (by rw[<-hk];simp),if_neg (by rw[<-hu];exact nt h)]
    intro d
    induction d with
    |zero=>
     intro k b hd hk h1 h2;have e:k=i:=by omega
     subst e;exact fin b h1 h2
    |succ d ih=>
     intro k b hd hk h1 h2;rcases Nat.lt_or_ge k i with hlt|hge
     · have e2:wI ((k:Int)+1)=((k+1:Nat):Int):=by rw[wI,C0 (by omega)];omega
       have hk2:k<(l.take i).length:=by omega
       have hk3:k<l.length:=by omega
       have dl:(l.take i).drop k=l[k]::(l.take i).drop (k+1):=by rw[b32 hk2,List.getElem_take]
       rw[dl,List.any_cons]at h1 h2;refine je _ _ _ _ _ _ _ ⟨λ_=>⟨l[k],by simp,by omega,l[i],by simp,by omega,λh4=>?_,λh4=>⟨l[k],by simp,by omega,_,Ms g (hp.ops hg) _,?_⟩⟩,λh=>by simp at h;omega⟩
       · rw[h4,Bool.true_or]at h1
         rw[if_pos h1.symm]
       · rw[h4,Bool.false_or]at h1
         rw[e2];exact ih (k+1) _ (by omega) (by omega) h1 (by rw[Bool.or_assoc];exact h2)
     · have e:k=i:=by omega
       subst e;exact fin b h1 h2
  exact go i 0 false (by omega) (by omega) (by simp) (by simp)
 omit hM hp in
theorem tB(g:C2)(l:b4c (Int × A0))(lev:Int)(i:Nat)(hi:i<l.length):Cd M p g l lev i=L8 (Hl g l i) (Z1 M p (B5 g l[i].1).1 l[i].2 lev):=by
  simp only[Cd,Hl,b3y hi];split
  · rfl
  split
  · rfl
  split
  · rfl
  · rfl
theorem a2u(t:Int)(ht:0<=t)(g:C2)(hgt:p.A7[t.toNat]? =some g)(v:A0)(hv:C8 v)(hb:∀x∈v.Slots,B x.2/\(∀y∈x.2.B4,B y)/\∀y∈x.2.Pairs,B y.2)(lev:Int)(h1:1<=lev)(h2:lev<=17):Ks p t v lev (Ca M p g v lev):=by
 have hv0:=hv;have hg:g∈p.A7:=b36 hgt;obtain⟨_,_,⟨la,pa,sa,ra⟩,hl,hps,hs⟩:=hv.inv;have b1:=C5 sa;have b2:=C5 ra;have b3:=hp.ops hg;refine ym _ _ _ _ _ ⟨λb=>b=((v.Kind !=10)||Y6 v),λb hb2=>⟨λh3=>?_,λh3=>⟨λh4=>?_,λh4=>⟨g,hgt,ht,?_⟩⟩⟩,λh3=>by rw[h3,Bool.true_or],λh3=>⟨_,SH v hv.okv,by rw[h3,Bool.false_or]⟩⟩
 ·subst hb2;rw[Ca,if_pos h3]
 ·subst hb2;rw[Ca,if_neg (nt h3),if_pos (by simpa using h4)]
 subst hb2;have h5:¬16<lev:=by simpa using h4
 rw[Ca,if_neg (nt h3),if_neg h5];refine Ej (J:=λi:Nat=>UF i lev p v g _) (E:=J1 (Cd M p g v.Slots lev) 0 v.Slots.length=0) (r:=L8 (J1 (Cd M p g v.Slots lev) 0 v.Slots.length) (L8 (J1 (By g v) 0 g.Ops.length) (J1 (Ce p g v.C1) 0 v.C1.length))) (Cd M p g v.Slots lev) v.Slots.length (λi hi k1 k2=>?_) (λe=>?_) 0 (by omega) (λh=>by rw[L8,if_pos h]) (λh=>h)
 ·have e1:wI ((i:Int)+1)=((i+1:Nat):Int):=by rw[wI,C0 (by omega)];omega
  have hx:=List.getElem_mem hi;rw[tB g v.Slots lev i hi]at k1 k2;refine qS _ _ _ _ _ _ ⟨λ_=>⟨_,zR hp g hg v.Slots sa i hi,λh=>?_,λh=>?_⟩,λh=>by simp at h;omega⟩
  ·have h':Hl g v.Slots i≠0:=by simpa using h
   rw[L8,if_pos h']at k1;exact k1 h'
  have h':Hl g v.Slots i=0:=by simpa using h
  rw[L8,if_neg (by omega)]at k1 k2
  have hn:(B5 g v.Slots[i].1).2:=by
   rcases Bool.eq_false_or_eq_true (B5 g v.Slots[i].1).2 with q|q
   ·exact q
   ·simp only[Hl,b3y hi,q,if_true]at h';exact absurd h' (by decide)
  obtain⟨_,hop⟩:=IL hn;refine⟨v.Slots[i],by simp,by omega,_,Ms g b3 _,v.Slots[i],by simp,by omega,_,t8 hp hM _ ((hp.va.Mh g hg).2 _ hop) _ (hs _ hx) (hb _ hx).1 (hb _ hx).2.1 (hb _ hx).2.2 lev h1 (by omega),λh4=>k1 (by simpa using h4),λh4=>?_⟩;rw[e1];exact k2 (by simpa using h4)
 refine qS _ _ _ _ _ _ ⟨λh=>by simp at h,λ_=>?_⟩;rw[L8,if_neg (by omega)];refine Ej (J:=λi:Nat=>PO i p v g _) (E:=J1 (By g v) 0 g.Ops.length=0) (r:=L8 (J1 (By g v) 0 g.Ops.length) (J1 (Ce p g v.C1) 0 v.C1.length)) (By g v) g.Ops.length (λi hi k1 k2=>?_) (λe=>?_) 0 (by omega) (λh=>by rw[L8,if_pos h]) (λh=>h)
 ·have e1:wI ((i:Int)+1)=((i+1:Nat):Int):=by rw[wI,C0 (by omega)];omega
  have ef:By g v i=if g.Ops[i].D6=1/\(v.Slots.any λy=>y.1==g.Ops[i].Num)=false then 14 else 0:=by simp only[By,b3y hi]
  rw[ef]at k1 k2;refine iO _ _ _ _ _ ⟨λ_=>⟨g.Ops[i],by simp,by omega,λh=>⟨g.Ops[i],by simp,by omega,_,a4f hp v hv0 _,λh6=>?_,λh6=>?_⟩,λh=>?_⟩,λh=>by simp at h;omega⟩
  ·rw[if_pos ⟨by simpa using h,by simpa using h6⟩]at k1;exact k1 (by decide)
  ·rw[e1];refine k2 ?_;rw[if_neg];rintro⟨_,q⟩;simp[q]at h6
  ·rw[e1];refine k2 ?_;rw[if_neg];rintro⟨q,_⟩;simp[q]at h
 refine iO _ _ _ _ _ ⟨λh=>by simp at h,λ_=>?_⟩;rw[L8,if_neg (by omega)];refine Ej (J:=λi:Nat=>Rq i p v g _) (E:=J1 (Ce p g v.C1) 0 v.C1.length=0) (Ce p g v.C1) v.C1.length (λi hi k1 k2=>?_) (λe=>?_) 0 (by omega) (λ_=>rfl) (λh=>h)
 ·have e1:wI ((i:Int)+1)=((i+1:Nat):Int):=by rw[wI,C0 (by omega)];omega
  have ef:Ce p g v.C1 i=Z4 p g v.C1[i]:=by simp only[Ce,b3y hi]
  rw[ef]at k1 k2;have hf:=hv0.Kc _ (List.getElem_mem hi);refine mW _ _ _ _ _ ⟨λ_=>⟨v.C1[i],by simp,by omega,_,y0 hp g hg _ hf,λh=>?_,λh=>⟨λh6=>?_,λh6=>?_⟩⟩,λh=>by simp at h;omega⟩
  ·have h':Z4 p g v.C1[i]=1:=by simpa using h
   rw[k1 (by omega),h']
  all_goals (have h':Z4 p g v.C1[i]≠1:=by simpa using h)
  ·have:Z4 p g v.C1[i]=3:=by
    unfold Z4 at h' ⊢;split at h'
    ·exact absurd rfl h'
    ·rename_i q1;rw[if_neg q1];split at h'
     ·exact absurd rfl h'
     ·rename_i q2;rw[if_neg q2,if_pos h6]
   rw[k1 (by omega),this]
  ·have:Z4 p g v.C1[i]=0:=by
    unfold Z4 at h' ⊢;split at h'
    ·exact absurd rfl h'
    ·rename_i q1;rw[if_neg q1];split at h'
     ·exact absurd rfl h'
     ·rename_i q2;rw[if_neg q2,if_neg (nt h6)]
   rw[e1];exact k2 this
 ·exact mW _ _ _ _ _ ⟨λh=>by simp at h,λ_=>e⟩
end
theorem kP{n:Nat}{v:A0}(hv:C8 v)(hn:SizeOf.sizeOf v<=n+1):∀x∈v.Slots,(C8 x.2/\SizeOf.sizeOf x.2<=n)/\(∀y∈x.2.B4,C8 y/\SizeOf.sizeOf y<=n)/\∀y∈x.2.Pairs,C8 y.2/\SizeOf.sizeOf y.2<=n:=λx hx=>by
 obtain⟨_,_,_,_,_,hs⟩:=hv.inv;have z1:=BC hx;obtain⟨_,_,_,q1,q2,_⟩:=(hs x hx).inv;exact⟨⟨hs x hx,by omega⟩,λy hy=>⟨q1 y hy,by have:=Az hy;omega⟩,λy hy=>⟨(q2 y hy).2,by have:=AH hy;omega⟩⟩
theorem ZA:∀(n:Nat) (t:Int) (g:C2) (v:A0) (lev:Int),p.A7[t.toNat]? =some g->0<=t->C8 v->SizeOf.sizeOf v<=n->1<=lev->lev<=17->MR ⟨p⟩ g v lev (At p n t v lev)
 |0,t,g,v,lev,_,_,_,h,_,_=>by have:=Ao v;omega
 |n+1,t,g,v,lev,hgt,ht,hv,hn,h1,h2=>by
  have hg:g∈p.A7:=b36 hgt;have e:At p (n+1) t v lev=Ca (At p n) p g v lev:=by simp only[At,hgt]
  rw[e];refine sQ hp (B:=λv=>C8 v/\SizeOf.sizeOf v<=n) (λt' g' v' lev' k1 k2 k3 k4=>?_) g hg v hv (kP hp hv hn) lev h1 h2
  by_cases h0:0<=t'
  ·exact ZA n t' g' v' lev' k1 h0 k2.1 k2.2 k3 k4
  ·have:=ZA n 0 g' v' lev' (by rw[show t'.toNat=0 by omega]at k1;exact k1) (Int.le_refl _) k2.1 k2.2 k3 k4
   have e2:At p n 0 v' lev'=At p n t' v' lev':=by
    cases n with
    |zero=>rfl
    |succ n=>simp only[At];rw[show t'.toNat=(0:Int).toNat by omega]
   rw[<-e2];exact this
theorem fD:∀(n:Nat) (t:Int) (g:C2) (v:A0) (lev:Int),p.A7[t.toNat]? =some g->0<=t->C8 v->SizeOf.sizeOf v<=n->1<=lev->lev<=17->Ks p t v lev (At p n t v lev)
 |0,t,g,v,lev,_,_,_,h,_,_=>by have:=Ao v;omega
 |n+1,t,g,v,lev,hgt,ht,hv,hn,h1,h2=>by
  have e:At p (n+1) t v lev=Ca (At p n) p g v lev:=by simp only[At,hgt]
  rw[e];exact a2u hp (B:=λv=>C8 v/\SizeOf.sizeOf v<=n) (λt' g' v' lev' k1 k0 k2 k3 k4=>fD n t' g' v' lev' k1 k0 k2.1 k2.2 k3 k4) t ht g hgt v hv (kP hp hv hn) lev h1 h2
end
section
variable {α:Type}{c:α->α->Int}
theorem ox{x y:α}{l:b4c α}:y∈G1 c x l↔y=x\/y∈l:=by
 rw[(Pu x l).mem_iff];simp
theorem Kz:∀(l:b4c α),∀y∈K9 c l,y∈l
 |[],y,h=>h
 |x::l,y,h=>by
  simp only[K9]at h;split at h
  ·rcases ox.1 h with h|h
   ·simp[h]
   ·exact List.mem_cons_of_mem _ (Kz l y h)
  ·exact List.mem_cons_of_mem _ (Kz l y h)
theorem Nz:∀(l:b4c α),(K9 c l).length<=l.length
 |[]=>by simp[K9]
 |x::l=>by
  have:=Nz l;simp only[K9];split
  ·rw[bZ];simp;omega
  ·simp;omega
theorem oD(h:Tp c)(x:α):∀S:b4c α,(∀y∈S,c x y≠0)->S.Pairwise (λa b=>c a b<0)->(G1 c x S).Pairwise (λa b=>c a b<0)
 |[],_,_=>by simp[G1]
 |y::S,hne,hs=>by
  obtain⟨hy,hS⟩:=List.pairwise_cons.1 hs;simp only[G1];split
  ·rename_i e;refine List.pairwise_cons.2 ⟨λz hz=>?_,oD h x S (λy hy=>hne y (by simp[hy])) hS⟩;rcases ox.1 hz with h2|h2
   ·rw[h2];exact e
   ·exact hy z h2
  ·rename_i e;have s1:=h.s y x;have s2:=h.s x y;have n1:=hne y (by simp);have e2:c x y<0:=by omega
   refine List.pairwise_cons.2 ⟨λz hz=>?_,hs⟩;rcases List.mem_cons.1 hz with h2|h2
   ·rw[h2];exact e2
   ·have q1:=hy z h2;have q2:=hne z (by simp[h2]);have:=h.t x y z (by omega) (by omega);omega
theorem a04{x:α}{l:b4c α}(h:lone c x l):∀y∈l,c x y≠0:=λy hy=>by
 have:=List.all_eq_true.1 h y hy;simpa using this
theorem cg(h:Tp c):∀l:b4c α,(K9 c l).Pairwise (λa b=>c a b<0)
 |[]=>.nil
 |x::l=>by
  simp only[K9];split
  ·rename_i e;exact oD h x _ (λy hy=>a04 e y (Kz l y hy)) (cg h l)
  ·exact cg h l
end
def DS(v:A0):Prop:=∃m,SizeOf.sizeOf v<=m/\V9 m v=false
theorem DS.inv{v:A0}(h:DS v):v.C1=[]/\(∀x∈v.Slots,DS x.2)/\(∀x∈v.B4,DS x)/\∀x∈v.Pairs,DS x.2:=by
 obtain⟨m,hm,h⟩:=h;have h0:=Ao v;obtain⟨n,rfl⟩:∃n,m=n+1:=⟨m - 1,by omega⟩
 simp only[V9,Bool.or_eq_false_iff,Bool.not_eq_false',List.isEmpty_iff,List.any_eq_false,Bool.not_eq_true]at h;exact⟨h.1,λx hx=>⟨n,by have:=BC hx;omega,h.2.1 x hx⟩,λx hx=>⟨n,by have:=Az hx;omega,h.2.2.1 x hx⟩,λx hx=>⟨n,by have:=AH hx;omega,h.2.2.2 x hx⟩⟩
theorem PQ{α β:Type}{J:Nat->b4c β->Prop}{E:b4c β->Prop}(s:b4c α)(g:α->b4c β)(step:∀i (hi:i<s.length) acc,acc.length<=i->J (i+1) (acc++g s[i])->J i acc)(hg:∀x∈s,(g x).length<=1)(fin:∀acc,acc.length<=s.length->E acc->J s.length acc)(h:E (s.flatMap g)):J 0 []:=by
 have key:∀d i (acc:b4c β),s.length - i<=d->i<=s.length->acc.length<=i->E (acc++(s.drop i).flatMap g)->J i acc:=by
  intro d
  induction d with
  |zero=>
   intro i acc hd hi ha hE;have e:i=s.length:=by omega
   subst e;rw[List.drop_length]at hE;exact fin acc ha (by simpa using hE)
  |succ d ih=>
   intro i acc hd hi ha hE;rcases Nat.lt_or_ge i s.length with hlt|hge
   ·have dl:s.drop i=s[i]::s.drop (i+1):=b32 hlt;rw[dl,List.flatMap_cons,<-List.append_assoc]at hE;refine step i hlt acc ha (ih (i+1) _ (by omega) (by omega) ?_ hE);have:=hg _ (List.getElem_mem hlt);simp;omega
   ·have e:i=s.length:=by omega
    subst e;rw[List.drop_length]at hE;exact fin acc ha (by simpa using hE)
 exact key s.length 0 [] (by omega) (by omega) (by simp) (by simpa using h)
theorem ga{α β:Type}(s:b4c α)(g:α->b4c β)(hg:∀x∈s,(g x).length<=1):(s.flatMap g).length<=s.length:=by
 induction s with
 |nil=>simp
 |cons x s ih=>
  have h1:=hg x (by simp);have h2:=ih λy hy=>hg y (by simp[hy])
  simp only[List.flatMap_cons,b39,List.length_cons];omega
theorem QB{α β:Type}(f:α->β):∀s:b4c α,s.flatMap (λx=>[f x])=s.map f
 |[]=>rfl
 |x::s=>by simp[QB f s]
abbrev EP:=Int->A0->A0
def AT(N:EP)(o:B0)(v:A0):A0:=if o.Kind=10 then N o.Target v else Ag v
noncomputable def DD(l:b4c (A0 × A0)):b4c (A0 × A0):=K9 (kc (SizeOf.sizeOf l)) l
noncomputable def AD(N:EP)(o:B0)(v:A0):A0:=
 if o.D6=4 then⟨11,0,⟨#[]⟩,v.B4.map (AT N o),[],[],[]⟩
 else if o.D6=5 then⟨12,0,⟨#[]⟩,[],(DD v.Pairs).map (λx=>(Ag x.1,AT N o x.2)),[],[]⟩
 else AT N o v
def Gb(o:B0):b4e:=((o.D6==3)||(o.D6==4))||(o.D6==5)
noncomputable def X0(N:EP)(o:B0)(num:Int)(v:A0):b4c (Int × A0):=if(!Gb o|| !Ee (AD N o v))=true then [(num,AD N o v)] else []
noncomputable def Dk(N:EP)(g:C2)(v:A0):A0:=⟨10,0,⟨#[]⟩,[],[],(K9 kn v.Slots).flatMap λx=>X0 N (B5 g x.1).1 x.1 x.2,sC kr v.C1⟩
noncomputable def AN(p:A5):Nat->EP
 |0,_,_=>⟨0,0,⟨#[]⟩,[],[],[],[]⟩
 |n+1,t,v=>match p.A7[t.toNat]? with
  |none=>⟨0,0,⟨#[]⟩,[],[],[],[]⟩
  |some g=>Dk (AN p n) g v
theorem YJ(N:EP)(o:B0)(num:Int)(v:A0):(X0 N o num v).length<=1:=by
 unfold X0;split<;>simp
theorem fT(l:b4c (A0 × A0))(h:∀x∈l,C8 x.1/\C8 x.2):∀x∈l,DV (SizeOf.sizeOf l) x:=λx hx=>by
 have:=List.sizeOf_lt_of_mem hx;refine⟨(h x hx).1,?_⟩;cases x;simp at this ⊢;omega
theorem Uy{l:b4c (A0 × A0)}{x:A0 × A0}(h:x∈DD l):x∈l:=Kz l x h
theorem dK(l:b4c (A0 × A0)):(DD l).length<=l.length:=Nz l
theorem AZ.bits{v:A0}(h:AZ v):0<=v.Bits/\v.Bits<18446744073709551616:=⟨h.b0,h.b1⟩
theorem nU{v:A0}(h:C8 v):C8 (Ag v):=by
 unfold Ag;split
 ·cases h with
  |mk _ k b t l p s r hl hk hv hn hs hr w=>exact .mk _ k (show Ab 9221120237041090560 from⟨by decide,by decide⟩) t l p s r hl hk hv hn hs hr w
 ·exact h
theorem Wy{num:Int}:∀{l:b4c B0},(M7 num l).2=false->(M7 num l).1=QP
 |[],_=>rfl
 |o::l,h=>by
  by_cases e:(o.Num==num)=true
  ·have q:M7 num (o::l)=(o,true):=by simp only[M7];rw[if_pos e]
   rw[q]at h;cases h
  ·have q:M7 num (o::l)=M7 num l:=by simp only[M7];rw[if_neg e]
   rw[q]at h ⊢;exact Wy h
def Iu(p:A5)(o:B0):Prop:=o.Kind=10->∃g,p.A7[o.Target.toNat]? =some g/\0<=o.Target
theorem Zs{p:A5}(hp:Ay p){g:C2}(hg:g∈p.A7)(num:Int):Iu p (B5 g num).1:=by
 intro h;rcases Bool.eq_false_or_eq_true (B5 g num).2 with q|q
 ·obtain⟨_,hop⟩:=IL q;obtain⟨t0,t1,_⟩:=((hp.va.Mh g hg).2 _ hop).msg h;have hlt:(B5 g num).1.Target.toNat<p.A7.length:=by omega
  exact⟨_,b3y hlt,t0⟩
 ·have:(B5 g num).1=QP:=Wy q;rw[this]at h;exact absurd h (by decide)
section
variable {p:A5}(hp:Ay p)
 include hp
section
variable {N:EP}{B:A0->Prop}(hN:∀(t:Int) (g:C2) (v:A0),p.A7[t.toNat]? =some g->0<=t->B v->Jj p t v (N t v))
 include hN
theorem bN(o:B0)(ho:Iu p o)(v:A0)(hv:C8 v)(hb:B v):PX p o v (AT N o v):=by
 refine a3i _ _ _ _ ⟨λh=>?_,λh=>⟨_,fN v hv.okv.bits,?_⟩⟩
 ·have hk:o.Kind=10:=by simpa using h
  obtain⟨g,hg,t0⟩:=ho hk;exact⟨_,hN _ g v hg t0 hb,by rw[AT,if_pos hk]⟩
 ·rw[AT,if_neg (by simpa using h)]
theorem b2d(o:B0)(ho:Iu p o)(v:A0)(hv:C8 v)(hb:B v)(hbl:∀x∈v.B4,B x)(hbp:∀x∈v.Pairs,B x.2):ck p o v (AD N o v):=by
 obtain⟨_,_,⟨la,pa,sa,ra⟩,hl,hps,hs⟩:=hv.inv;have b1:=C5 la;have b2:=C5 pa;have w1:=C5 hv.w.1;have w2:=C5 hv.w.2.1;refine a2h _ _ _ _ ⟨λh=>?_,λh=>⟨λh4=>⟨_,c7 _ v.Pairs (by omega) (fT _ hps),?_⟩,λh4=>⟨_,bN hp hN o ho v hv hb,?_⟩⟩⟩
 ·have hc:o.D6=4:=by simpa using h
  refine PQ (J:=λi acc=>RS i v p o acc _) (E:=λacc=>AD N o v=⟨11,0,⟨#[]⟩,acc,[],[],[]⟩) v.B4 (λx=>[AT N o x]) (λi hi acc ha hj=>?_) (λx hx=>by simp) (λacc ha he=>?_) ?_
  ·have e1:wI ((i:Int)+1)=((i+1:Nat):Int):=by rw[wI,C0 (by omega)];omega
   have hx:=List.getElem_mem hi;refine gZ _ _ _ _ _ _ ⟨λ_=>⟨v.B4[i],by simp,by omega,_,bN hp hN o ho _ (hl _ hx) (hbl _ hx),by simp;omega,?_⟩,λh=>by simp at h;omega⟩;rw[e1];exact hj
  ·exact gZ _ _ _ _ _ _ ⟨λh=>by simp at h,λ_=>he⟩
  ·rw[QB,AD,if_pos hc]
 ·have hc:o.D6=5:=by simpa using h4
  have hc4:¬o.D6=4:=by simpa using h
  have b3:=dK v.Pairs;refine PQ (J:=λi acc=>Qx i (DD v.Pairs) p o acc _) (E:=λacc=>AD N o v=⟨12,0,⟨#[]⟩,[],acc,[],[]⟩) (DD v.Pairs) (λx=>[(Ag x.1,AT N o x.2)]) (λi hi acc ha hj=>?_) (λx hx=>by simp) (λacc ha he=>?_) ?_
  ·have e1:wI ((i:Int)+1)=((i+1:Nat):Int):=by rw[wI,C0 (by omega)];omega
   have hx:=Uy (List.getElem_mem hi);refine mr _ _ _ _ _ _ ⟨λ_=>⟨(DD v.Pairs)[i],by simp,by omega,_,fN _ (hps _ hx).1.okv.bits,_,bN hp hN o ho _ (hps _ hx).2 (hbp _ hx),by simp;omega,?_⟩,λh=>by simp at h;omega⟩;rw[e1];exact hj
  ·exact mr _ _ _ _ _ _ ⟨λh=>by simp at h,λ_=>he⟩
  ·rw[QB,AD,if_neg hc4,if_pos hc]
 ·rw[AD,if_neg (by simpa using h),if_neg (by simpa using h4)]
theorem ZJ(hNok:∀t v,C8 v->C8 (N t v))(o:B0)(v:A0)(hv:C8 v):C8 (AD N o v):=by
 have key:∀v,C8 v->C8 (AT N o v):=λv hv=>by
  unfold AT;split
  ·exact hNok _ _ hv
  ·exact nU hv
 obtain⟨_,_,⟨la,pa,sa,ra⟩,hl,hps,hs⟩:=hv.inv;obtain⟨w1,w2,_,_⟩:=hv.w;have z:Sz 0:=Nat.zero_le _;have b3:=dK v.Pairs;unfold AD;split
 ·refine .mk _ (show I64 11 from⟨by decide,by decide⟩) (show Ab 0 from⟨by decide,by decide⟩) z (by simpa using la) z z z (λx hx=>?_) (λx hx=>by cases hx) (λx hx=>by cases hx) (λx hx=>by cases hx) (λx hx=>by cases hx) (λx hx=>by cases hx) ⟨by simpa using w1,z,z,z⟩;obtain⟨y,hy,rfl⟩:=List.mem_map.1 hx;exact key y (hl y hy)
 split
 ·refine .mk _ (show I64 12 from⟨by decide,by decide⟩) (show Ab 0 from⟨by decide,by decide⟩) z z ?_ z z (λx hx=>by cases hx) (λx hx=>?_) (λx hx=>?_) (λx hx=>by cases hx) (λx hx=>by cases hx) (λx hx=>by cases hx) ⟨z,?_,z,z⟩
  ·simp only[List.length_map];exact Nat.le_trans b3 pa
  ·obtain⟨y,hy,rfl⟩:=List.mem_map.1 hx;exact nU (hps y (Uy hy)).1
  ·obtain⟨y,hy,rfl⟩:=List.mem_map.1 hx;exact key _ (hps y (Uy hy)).2
  ·simp only[List.length_map];exact Nat.le_trans (Nat.mul_le_mul_right _ b3) w2
 ·exact key v hv
theorem b1n(hNok:∀t v,C8 v->C8 (N t v))(t:Int)(ht:0<=t)(g:C2)(hgt:p.A7[t.toNat]? =some g)(v:A0)(hv:C8 v)(hX:v.C1=[])(hb:∀x∈v.Slots,B x.2/\(∀y∈x.2.B4,B y)/\∀y∈x.2.Pairs,B y.2):Jj p t v (Dk N g v):=by
 have hg:g∈p.A7:=b36 hgt;have hlt:t.toNat<p.A7.length:=(List.getElem?_eq_some_iff.1 hgt).1;obtain⟨_,_,⟨la,pa,sa,ra⟩,hl,hps,hs⟩:=hv.inv;have b1:=C5 sa;have w3:=C5 hv.w.2.2.1;have w4:=C5 hv.w.2.2.2;have b3:=Nz (c:=kn) v.Slots;have so:=a4v v.Slots (by omega);have off:((decide (t<0))||(decide ((p.A7.length:Int)<=t)))=false:=by simp;omega
 have may:∀(o:B0),Gb o=(((o.D6==3)||(o.D6==4))||(o.D6==5)):=λ_=>rfl
 refine a5p _ _ _ _ ⟨λh0=>⟨zE _ _ ⟨h0,by rfl⟩,λh=>(by rw[off]at h;cases h),λ_=>⟨_,so,?_⟩⟩,λh0=>absurd hX h0⟩
 ·refine PQ (J:=λi acc=>Oz i (K9 kn v.Slots) t p acc _) (E:=λacc=>Dk N g v=⟨10,0,⟨#[]⟩,[],[],acc,[]⟩) (K9 kn v.Slots) (λx=>X0 N (B5 g x.1).1 x.1 x.2) (λi hi acc ha hj=>?_) (λx hx=>YJ _ _ _ _) (λacc ha he=>?_) ?_
  ·have e1:wI ((i:Int)+1)=((i+1:Nat):Int):=by rw[wI,C0 (by omega)];omega
   have hx:=Kz _ _ (List.getElem_mem hi);have oz:=ZJ hp hN hNok (B5 g (K9 kn v.Slots)[i].1).1 _ (hs _ hx);refine gH _ _ _ _ _ _ ⟨λ_=>⟨(K9 kn v.Slots)[i],by simp,by omega,g,hgt,ht,_,NQ g (hp.ops hg) _,_,b2d hp hN _ (Zs hp hg _) _ (hs _ hx) (hb _ hx).1 (hb _ hx).2.1 (hb _ hx).2.2,λb=>b=(!Gb (B5 g (K9 kn v.Slots)[i].1).1|| !Ee (AD N (B5 g (K9 kn v.Slots)[i].1).1 (K9 kn v.Slots)[i].2)),λb hbb=>⟨λh=>?_,λh=>?_⟩,λh=>?_,λh=>⟨_,sX _ oz.okv,?_⟩⟩,λh=>by simp at h;omega⟩
   ·subst hbb;refine⟨by simp;omega,?_⟩;rw[X0,if_pos h]at hj;rw[e1];exact hj
   ·subst hbb;rw[X0,if_neg (nt h)]at hj;rw[e1];simpa using hj
   ·rw[may,h,Bool.true_or]
   ·rw[may,h,Bool.false_or]
  ·exact gH _ _ _ _ _ _ ⟨λh=>by simp at h,λ_=>⟨a5w _,he⟩⟩
  ·rw[Dk,h0];rfl
theorem a75(hNok:∀t v,C8 v->C8 (N t v))(g:C2)(v:A0)(hv:C8 v):C8 (Dk N g v):=by
 have z:Sz 0:=Nat.zero_le _;obtain⟨_,_,⟨la,pa,sa,ra⟩,hl,hps,hs⟩:=hv.inv;obtain⟨_,_,w3,w4⟩:=hv.w;have hlen:((K9 kn v.Slots).flatMap λx=>X0 N (B5 g x.1).1 x.1 x.2).length<=v.Slots.length:=Nat.le_trans (ga _ _ λx hx=>YJ _ _ _ _) (Nz _);have hr:(sC kr v.C1).length=v.C1.length:=(Na v.C1).length_eq;have hi:∀x∈v.Slots,I64 x.1:=by cases hv with|mk _ _ _ _ _ _ _ _ _ _ _ hn _ _ _=>exact hn
 have mem:∀x∈(K9 kn v.Slots).flatMap λx=>X0 N (B5 g x.1).1 x.1 x.2,I64 x.1/\C8 x.2:=λx hx=>by
  obtain⟨y,hy,h⟩:=List.mem_flatMap.1 hx;unfold X0 at h;split at h
  ·have:=List.mem_singleton.1 h;subst this;have hy':=Kz _ _ hy;exact⟨hi y hy',ZJ hp hN hNok _ _ (hs y hy')⟩
  ·cases h
 refine .mk _ (show I64 10 from⟨by decide,by decide⟩) (show Ab 0 from⟨by decide,by decide⟩) z z z (Nat.le_trans hlen sa) (show Sz (sC kr v.C1).length by rw[hr];exact ra) (λx hx=>by cases hx) (λx hx=>by cases hx) (λx hx=>by cases hx) (λx hx=>(mem x hx).1) (λx hx=>(mem x hx).2) (λx hx=>hv.Kc x ((Na v.C1).mem_iff.1 hx)) ⟨z,z,Nat.le_trans (Nat.mul_le_mul_right _ hlen) w3,show Sz ((sC kr v.C1).length*40) by rw[hr];exact w4⟩
end
theorem qM:C8 ⟨0,0,⟨#[]⟩,[],[],[],[]⟩:=by
 have z:Sz 0:=Nat.zero_le _;exact .mk _ ⟨by decide,by decide⟩ ⟨by decide,by decide⟩ z z z z z (λx hx=>by cases hx) (λx hx=>by cases hx) (λx hx=>by cases hx) (λx hx=>by cases hx) (λx hx=>by cases hx) (λx hx=>by cases hx) ⟨z,z,z,z⟩
theorem XD:∀(n:Nat),(∀(t:Int) (g:C2) (v:A0),p.A7[t.toNat]? =some g->0<=t->C8 v/\SizeOf.sizeOf v<=n/\DS v->Jj p t v (AN p n t v))/\∀t v,C8 v->C8 (AN p n t v)
 |0=>⟨λt g v _ _ h=>by have:=Ao v;omega,λt v _=>qM hp⟩
 |n+1=>by
  obtain⟨h1,h2⟩:=XD n;refine⟨λt g v hgt ht ⟨hv,hn,hX⟩=>?_,λt v hv=>?_⟩
  ·obtain⟨_,_,_,_,_,hs⟩:=hv.inv;obtain⟨x1,x2,_,_⟩:=hX.inv
   have hB:∀x∈v.Slots,(C8 x.2/\SizeOf.sizeOf x.2<=n/\DS x.2)/\(∀y∈x.2.B4,C8 y/\SizeOf.sizeOf y<=n/\DS y)/\∀y∈x.2.Pairs,C8 y.2/\SizeOf.sizeOf y.2<=n/\DS y.2:=λx hx=>by
    have z1:=BC hx;obtain⟨_,_,_,q1,q2,_⟩:=(hs x hx).inv;obtain⟨_,_,y2,y3⟩:=(x2 x hx).inv;exact⟨⟨hs x hx,by omega,x2 x hx⟩,λy hy=>⟨q1 y hy,by have:=Az hy;omega,y2 y hy⟩,λy hy=>⟨(q2 y hy).2,by have:=AH hy;omega,y3 y hy⟩⟩
   have e:AN p (n+1) t v=Dk (AN p n) g v:=by simp only[AN,hgt]
   rw[e];exact b1n hp h1 h2 t ht g hgt v hv x1 hB
  ·simp only[AN];split
   ·exact qM hp
   ·exact a75 hp h1 h2 _ v hv
theorem a5o(n:Nat)(t:Int)(g:C2)(v:A0)(hgt:p.A7[t.toNat]? =some g)(ht:0<=t)(hv:C8 v)(hn:SizeOf.sizeOf v<=n)(hX:DS v):Jj p t v (AN p n t v):=(XD hp n).1 t g v hgt ht ⟨hv,hn,hX⟩
theorem SZ(n:Nat)(t:Int)(v:A0)(hv:C8 v):C8 (AN p n t v):=(XD hp n).2 t v hv
end
theorem SL{α β:Type}{s:b4c α}{f g:α->b4c β}(h:∀x∈s,f x=g x):s.flatMap f=s.flatMap g:=by
 induction s with
 |nil=>rfl
 |cons x s ih=>rw[List.flatMap_cons,List.flatMap_cons,h x (by simp),ih λy hy=>h y (by simp[hy])]
section
variable {β:Type}(G:B0->Int × A0->b4c β)
def Y9(l:b4c (Int × A0))(o:B0):b4c β:=l.flatMap λx=>if x.1=o.Num then G o x else []
theorem gC{l:b4c (Int × A0)}{o:B0}(h:∀x∈l,x.1≠o.Num):Y9 G l o=[]:=by
 unfold Y9;rw[List.flatMap_eq_nil_iff];intro x hx;rw[if_neg (h x hx)]
def TP(l:b4c (Int × A0)):Prop:=l.Pairwise λx y=>x.1≠y.1
theorem j7{l m:b4c (Int × A0)}(h:l.Perm m)(hd:TP l)(o:B0):Y9 G l o=Y9 G m o:=by
 induction h with
 |nil=>rfl
 |cons x h ih=>
  have:=ih (List.pairwise_cons.1 hd).2;unfold Y9 at this ⊢;rw[List.flatMap_cons,List.flatMap_cons,this]
 |swap x y l=>
  have h1:=(List.pairwise_cons.1 hd).1 x (by simp);unfold Y9;simp only[List.flatMap_cons]
  by_cases e:y.1=o.Num
  ·rw[if_neg (show ¬x.1=o.Num by omega)];simp
  ·rw[if_neg e];simp
 |trans h1 h2 ih1 ih2=>exact(ih1 hd).trans (ih2 (h1.pairwise hd λh=>h.symm))
theorem aA:∀(ops:b4c B0) (S:b4c (Int × A0)),ops.Pairwise (λa b=>a.Num<b.Num)->S.Pairwise (λx y=>x.1<y.1)->(∀x∈S,∃o∈ops,o.Num=x.1)->ops.flatMap (Y9 G S)=S.flatMap λx=>G (M7 x.1 ops).1 x
 |[],S,_,_,hs=>by
  cases S with
  |nil=>rfl
  |cons x S=>obtain⟨o,ho,_⟩:=hs x (by simp);cases ho
 |o::ops,S,hops,hS,hs=>by
  obtain⟨h1,h2⟩:=List.pairwise_cons.1 hops;cases S with
  |nil=>simp[Y9]
  |cons x S=>
   obtain⟨h3,h4⟩:=List.pairwise_cons.1 hS;rw[List.flatMap_cons]
   by_cases e:x.1=o.Num
   ·have hin:∀y∈S,∃q∈ops,q.Num=y.1:=λy hy=>by
     obtain⟨q,hq,hn⟩:=hs y (by simp[hy]);rcases List.mem_cons.1 hq with h5|h5
     ·rw[h5]at hn;have:=h3 y hy;omega
     ·exact⟨q,h5,hn⟩
    have ih:=aA ops S h2 h4 hin
    have e1:Y9 G (x::S) o=G o x:=by
     have:Y9 G S o=[]:=gC G λy hy=>by have:=h3 y hy;omega
     unfold Y9 at this ⊢;rw[List.flatMap_cons,this,if_pos e,List.append_nil]
    have e2:ops.flatMap (Y9 G (x::S))=ops.flatMap (Y9 G S):=by
     refine SL λq hq=>?_
     have:=h1 q hq;unfold Y9;rw[List.flatMap_cons,if_neg (by omega),List.nil_append]
    rw[e1,e2,ih,List.flatMap_cons];have e3:M7 x.1 (o::ops)=(o,true):=by simp only[M7];rw[if_pos (by simp[e])]
    rw[e3]
    congr 1
    refine SL λy hy=>?_
    have:=h3 y hy;simp only[M7];rw[if_neg (by simp;omega)]
   ·have hin:∀y∈x::S,∃q∈ops,q.Num=y.1:=λy hy=>by
     obtain⟨q0,hq0,hn0⟩:=hs x (by simp)
     have hx:o.Num<x.1:=by
      rcases List.mem_cons.1 hq0 with h5|h5
      ·rw[h5]at hn0;omega
      ·have:=h1 q0 h5;omega
     obtain⟨q,hq,hn⟩:=hs y hy;rcases List.mem_cons.1 hq with h5|h5
     ·rw[h5]at hn;rcases List.mem_cons.1 hy with h6|h6
      ·rw[h6]at hn;omega
      ·have:=h3 y h6;omega
     ·exact⟨q,h5,hn⟩
    have hne:∀y∈x::S,y.1≠o.Num:=λy hy=>by
     obtain⟨q,hq,hn⟩:=hin y hy;have:=h1 q hq;omega
    have ih:=aA ops (x::S) h2 hS hin;rw[gC G hne,List.nil_append,ih];refine SL λy hy=>?_
    have:=hne y hy;simp only[M7];rw[if_neg (by simp;omega)]
end
theorem iX{α:Type}{c:α->α->Int}:∀(l:b4c α),l.Pairwise (λx y=>c x y≠0)->(K9 c l).Perm l
 |[],_=>.refl _
 |x::l,h=>by
  obtain⟨h1,h2⟩:=List.pairwise_cons.1 h
  have:lone c x l:=by
   rw[lone,b34];intro y hy;simpa using h1 y hy
  simp only[K9];rw[if_pos this];exact(Pu x _).trans ((iX l h2).cons x)
theorem zb{β:Type}(G:B0->Int × A0->b4c β)(ops:b4c B0)(l:b4c (Int × A0))(hops:ops.Pairwise (λa b=>a.Num<b.Num))(hd:TP l)(hs:∀x∈l,∃o∈ops,o.Num=x.1):ops.flatMap (Y9 G l)=(K9 kn l).flatMap λx=>G (M7 x.1 ops).1 x:=by
 have hp:(K9 kn l).Perm l:=iX l (hd.imp λ{x y} h=>UJ.2 h)
 have hS:(K9 kn l).Pairwise (λx y=>x.1<y.1):=(cg TO l).imp λ{x y} h=>by
  rcases BJ x.1 y.1 with q|q|q<;>simp only[kn]at h<;>omega
 rw[<-aA G ops (K9 kn l) hops hS λx hx=>hs x (hp.mem_iff.1 hx)];exact SL λo _=>j7 G hp.symm hd o
theorem qi{l:b4c B0}(h:Asc l l.length):l.Pairwise λa b=>a.Num<b.Num:=by
 rw[List.pairwise_iff_getElem]
 have key:∀d i (hi:i<l.length) (hj:i+d+1<l.length),l[i].Num<l[i+d+1].Num:=by
  intro d
  induction d with
  |zero=>intro i hi hj;exact h i _ _ hj (b3y hi) (b3y hj)
  |succ d ih=>
   intro i hi hj;have h1:=ih i hi (by omega);have h2:=h (i+d+1) _ _ (by omega) (b3y (by omega)) (b3y (show i+d+1+1<l.length by omega));have e:l[i+(d+1)+1]=l[i+d+1+1]:=rfl;rw[e];omega
 intro i j hi hj hij;have:=key (j - i - 1) i hi (by omega);have e:i+(j - i - 1)+1=j:=by omega
 simp only[e]at this;exact this
theorem Un{a b:Int}(h:L8 a b=0):a=0/\b=0:=by
 unfold L8 at h;split at h
 ·rename_i q;exact absurd h q
 ·rename_i q;exact⟨by omega,h⟩
structure jB(M:Bz)(p:A5)(g:C2)(v:A0)(lev:Int):Prop where
 kind:v.Kind=10
 other:Y6 v=false
 deep:lev<=16
 known:∀x∈v.Slots,(B5 g x.1).2=true
 diff:TP v.Slots
 field:∀x∈v.Slots,Z1 M p (B5 g x.1).1 x.2 lev=0
 need:∀o∈g.Ops,o.D6=1->∃x∈v.Slots,x.1=o.Num
theorem wi{M:Bz}{p:A5}{g:C2}{v:A0}{lev:Int}(h:Ca M p g v lev=0):jB M p g v lev:=by
 unfold Ca at h;split at h
 ·exact absurd h (by decide)
 rename_i h1;split at h
 ·exact absurd h (by decide)
 rename_i h2;obtain⟨h3,h4⟩:=Un h;obtain⟨h5,h6⟩:=Un h4;have h1':v.Kind=10/\Y6 v=false:=by simpa using h1
 have sl:=λi hi=>UD 0 h3 i (Nat.zero_le _) hi
 have sl2:∀i (hi:i<v.Slots.length),(B5 g v.Slots[i].1).2/\((v.Slots.take i).any λy=>y.1==v.Slots[i].1)=false/\Z1 M p (B5 g v.Slots[i].1).1 v.Slots[i].2 lev=0:=by
  intro i hi;have:=sl i hi;simp only[Cd,b3y hi]at this;split at this
  ·exact absurd this (by decide)
  rename_i q1;split at this
  ·exact absurd this (by decide)
  rename_i q2;split at this
  ·exact absurd this (by decide)
  exact⟨by simpa using q1,(by revert q2;cases ((v.Slots.take i).any λy=>y.1==v.Slots[i].1)<;>simp),this⟩
 refine⟨h1'.1,h1'.2,by omega,λx hx=>?_,?_,λx hx=>?_,λo ho hc=>?_⟩
 ·obtain⟨i,hi,rfl⟩:=List.mem_iff_getElem.1 hx;exact(sl2 i hi).1
 ·unfold TP;rw[List.pairwise_iff_getElem];intro i j hi hj hij e;have:=(sl2 j hj).2.1;rw[List.any_eq_false]at this
  have hm:v.Slots[i]∈v.Slots.take j:=by
   rw[List.mem_take_iff_getElem];exact⟨i,by omega,rfl⟩
  exact this _ hm (by simpa using e)
 ·obtain⟨i,hi,rfl⟩:=List.mem_iff_getElem.1 hx;exact(sl2 i hi).2.2
 ·obtain⟨i,hi,rfl⟩:=List.mem_iff_getElem.1 ho;have:=UD 0 h5 i (Nat.zero_le _) hi;simp only[By,b3y hi]at this;split at this
  ·exact absurd this (by decide)
  rename_i q;rcases Bool.eq_false_or_eq_true (v.Slots.any λy=>y.1==g.Ops[i].Num) with r|r
  ·obtain⟨x,hx,hn⟩:=List.any_eq_true.1 r;exact⟨x,hx,by simpa using hn⟩
  ·exact absurd ⟨hc,r⟩ q
theorem a7s{M:Bz}{p:A5}{o:B0}{v:A0}{lev:Int}(h:Z1 M p o v lev=0):
  (o.D6=4->v.Kind=11/\Y6 v=false/\∀x∈v.B4,AQ M p o x lev=0)/\(o.D6=5->v.Kind=12/\Y6 v=false/\(∀x∈v.Pairs,T7 p o.Key (-1) x.1=0/\AQ M p o x.2 lev=0)/\v.Pairs.Pairwise λx y=>L6 (SizeOf.sizeOf x.1) x.1 y.1≠0)/\(o.D6≠4->o.D6≠5->AQ M p o v lev=0):=by
 unfold Z1 at h;refine⟨λhc=>?_,λhc=>?_,λh4 h5=>?_⟩
 ·rw[if_pos hc]at h;split at h
  ·exact absurd h (by decide)
  rename_i q;have q':v.Kind=11/\Y6 v=false:=by simpa using q
  refine⟨q'.1,q'.2,λx hx=>?_⟩;obtain⟨i,hi,rfl⟩:=List.mem_iff_getElem.1 hx;have:=UD 0 h i (Nat.zero_le _) hi;simpa only[GQ,b3y hi]using this
 ·rw[if_neg (by omega),if_pos hc]at h;split at h
  ·exact absurd h (by decide)
  rename_i q;have q':v.Kind=12/\Y6 v=false:=by simpa using q
  have en:∀i (hi:i<v.Pairs.length),T7 p o.Key (-1) v.Pairs[i].1=0/\Ci v.Pairs[i] (v.Pairs.take i)=false/\AQ M p o v.Pairs[i].2 lev=0:=λi hi=>by
   have:=UD 0 h i (Nat.zero_le _) hi;simp only[Cu,b3y hi]at this;obtain⟨a,b⟩:=Un this;split at b
   ·exact absurd b (by decide)
   rename_i k;exact⟨a,by simpa using k,b⟩
  refine⟨q'.1,q'.2,λx hx=>?_,?_⟩
  ·obtain⟨i,hi,rfl⟩:=List.mem_iff_getElem.1 hx;exact⟨(en i hi).1,(en i hi).2.2⟩
  ·rw[List.pairwise_iff_getElem];intro i j hi hj hij e;have:=(en j hj).2.1;rw[Ci,List.any_eq_false]at this
   have hm:v.Pairs[i]∈v.Pairs.take j:=by
    rw[List.mem_take_iff_getElem];exact⟨i,by omega,rfl⟩
   exact this _ hm (by simpa using e)
 ·rw[if_neg h4,if_neg h5]at h;exact h
section
variable {p:A5}(hp:Ay p)
 include hp
section
variable {N:EP}{B:Int->A0->Prop}(hN:∀(t:Int) (g:C2) (v:A0),p.A7[t.toNat]? =some g->0<=t->B t v->MI p t v (N t v))
 include hN
theorem dT(o:B0)(ho:Iu p o)(v:A0)(hv:C8 v)(hb:o.Kind=10->B o.Target v):PS p o v (AT N o v):=by
 refine um _ _ _ _ ⟨λh=>?_,λh=>⟨_,qO v hv.okv.bits,?_⟩⟩
 ·have hk:o.Kind=10:=by simpa using h
  obtain⟨g,hg,t0⟩:=ho hk;exact⟨_,hN _ g v hg t0 (hb hk),by rw[AT,if_pos hk]⟩
 ·rw[AT,if_neg (by simpa using h)]
theorem b2a(o:B0)(ho:Iu p o)(v:A0)(hv:C8 v)(hb:o.D6≠4->o.D6≠5->o.Kind=10->B o.Target v)(hbl:o.D6=4->o.Kind=10->∀x∈v.B4,B o.Target x)(hbp:o.D6=5->o.Kind=10->∀x∈v.Pairs,B o.Target x.2):bW p o v (AD N o v):=by
 obtain⟨_,_,⟨la,pa,sa,ra⟩,hl,hps,hs⟩:=hv.inv;have b1:=C5 la;have b2:=C5 pa;have w1:=C5 hv.w.1;have w2:=C5 hv.w.2.1;refine vW _ _ _ _ ⟨λh=>?_,λh=>⟨λh4=>⟨_,wu _ v.Pairs (by omega) (fT _ hps),?_⟩,λh4=>⟨_,dT hp hN o ho v hv (hb (by simpa using h) (by simpa using h4)),?_⟩⟩⟩
 ·have hc:o.D6=4:=by simpa using h
  refine PQ (J:=λi acc=>Vn i p o v acc _) (E:=λacc=>AD N o v=⟨11,0,⟨#[]⟩,acc,[],[],[]⟩) v.B4 (λx=>[AT N o x]) (λi hi acc ha hj=>?_) (λx hx=>by simp) (λacc ha he=>?_) ?_
  ·have e1:wI ((i:Int)+1)=((i+1:Nat):Int):=by rw[wI,C0 (by omega)];omega
   have hx:=List.getElem_mem hi;refine hO _ _ _ _ _ _ ⟨λ_=>⟨v.B4[i],by simp,by omega,_,dT hp hN o ho _ (hl _ hx) (λhk=>hbl hc hk _ hx),by simp;omega,?_⟩,λh=>by simp at h;omega⟩;rw[e1];exact hj
  ·exact hO _ _ _ _ _ _ ⟨λh=>by simp at h,λ_=>he⟩
  ·rw[QB,AD,if_pos hc]
 ·have hc:o.D6=5:=by simpa using h4
  have hc4:¬o.D6=4:=by simpa using h
  have b3:=dK v.Pairs;refine PQ (J:=λi acc=>Qh i (DD v.Pairs) p o acc _) (E:=λacc=>AD N o v=⟨12,0,⟨#[]⟩,[],acc,[],[]⟩) (DD v.Pairs) (λx=>[(Ag x.1,AT N o x.2)]) (λi hi acc ha hj=>?_) (λx hx=>by simp) (λacc ha he=>?_) ?_
  ·have e1:wI ((i:Int)+1)=((i+1:Nat):Int):=by rw[wI,C0 (by omega)];omega
   have hx:=Uy (List.getElem_mem hi);refine fw _ _ _ _ _ _ ⟨λ_=>⟨(DD v.Pairs)[i],by simp,by omega,_,qO _ (hps _ hx).1.okv.bits,(DD v.Pairs)[i],by simp,by omega,_,dT hp hN o ho _ (hps _ hx).2 (λhk=>hbp hc hk _ hx),by simp;omega,?_⟩,λh=>by simp at h;omega⟩;rw[e1];exact hj
  ·exact fw _ _ _ _ _ _ ⟨λh=>by simp at h,λ_=>he⟩
  ·rw[QB,AD,if_neg hc4,if_pos hc]
 ·rw[AD,if_neg (by simpa using h),if_neg (by simpa using h4)]
theorem p7(t:Int)(v:A0)(y1:b4c D8)(r:A0)(hv:C8 v)(hNok:∀t v,C8 v->C8 (N t v))(i:Nat)(hi:i<140737488351232)(o:B0)(ho:Iu p o)(hc:1<=o.D6/\o.D6<=5)(hb:∀x∈v.Slots,x.1=o.Num->(o.D6≠4->o.D6≠5->o.Kind=10->B o.Target x.2)/\(o.D6=4->o.Kind=10->∀y∈x.2.B4,B o.Target y)/\(o.D6=5->o.Kind=10->∀y∈x.2.Pairs,B o.Target y.2))(T R:b4c (Int × A0))(hT:T.length<=v.Slots.length)(next:∀acc,acc++R=T->Pe ((i+1:Nat):Int) t p v acc y1 r):∀d k (acc:b4c (Int × A0)),v.Slots.length - k<=d->k<=v.Slots.length->acc++(v.Slots.drop k).flatMap (λx=>if x.1=o.Num then X0 N o x.1 x.2 else [])++R=T->Jc k i t p v acc y1 o r:=by
 obtain⟨_,_,⟨la,pa,sa,ra⟩,hl,hps,hs⟩:=hv.inv;have b1:=C5 sa;have w3:=C5 hv.w.2.2.1;have e0:wI ((i:Int)+1)=((i+1:Nat):Int):=by rw[wI,C0 (by omega)];omega
 have fin:∀(acc:b4c (Int × A0)),acc++(v.Slots.drop v.Slots.length).flatMap (λx=>if x.1=o.Num then X0 N o x.1 x.2 else [])++R=T->Jc (v.Slots.length:Nat) i t p v acc y1 o r:=by
  intro acc h;rw[List.drop_length]at h;refine kJ _ _ _ _ _ _ _ _ _ ⟨λh=>by simp at h,λ_=>?_⟩;rw[e0];exact next acc (by simpa using h)
 intro d
 induction d with
 |zero=>
  intro k acc hd hk h;have e:k=v.Slots.length:=by omega
  subst e;exact fin acc h
 |succ d ih=>
  intro k acc hd hk h;rcases Nat.lt_or_ge k v.Slots.length with hlt|hge
  ·have e1:wI ((k:Int)+1)=((k+1:Nat):Int):=by rw[wI,C0 (by omega)];omega
   have dl:v.Slots.drop k=v.Slots[k]::v.Slots.drop (k+1):=b32 hlt;have hx:=List.getElem_mem hlt;rw[dl,List.flatMap_cons,<-List.append_assoc]at h;refine kJ _ _ _ _ _ _ _ _ _ ⟨λ_=>⟨v.Slots[k],by simp,by omega,λhn=>?_,λhn=>?_⟩,λh=>by simp at h;omega⟩
   ·have hne:¬v.Slots[k].1=o.Num:=by simpa using hn
    rw[if_neg hne,List.append_nil]at h;rw[e1];exact ih (k+1) acc (by omega) (by omega) h
   ·have he:v.Slots[k].1=o.Num:=by simpa using hn
    obtain⟨b1',b2',b3'⟩:=hb _ hx he;have oz:=ZJ (p:=p) (N:=N) (B:=λ_=>False) hp (λt g v _ _ hf=>hf.elim) hNok o _ (hs _ hx);rw[if_pos he]at h;refine⟨v.Slots[k],by simp,by omega,_,b2a hp hN o ho _ (hs _ hx) b1' b2' b3',λb=>b=(!Gb o|| !Ee (AD N o v.Slots[k].2)),λb hbb=>⟨λh2=>?_,λh2=>?_⟩,λh2=>?_,λh2=>⟨_,b1s _,?_⟩⟩
    ·subst hbb;rw[X0,if_pos h2,he]at h;have hlen:=congrArg List.length h;simp at hlen;refine⟨by simp;omega,?_⟩;rw[e1];exact ih (k+1) _ (by omega) (by omega) h
    ·subst hbb;rw[X0,if_neg (nt h2),List.append_nil]at h;rw[e1];exact ih (k+1) _ (by omega) (by omega) h
    ·have:Gb o=false:=by
      unfold Gb;simp at h2 ⊢;omega
     rw[this];rfl
    ·have:Gb o:=by
      unfold Gb;simp at h2 ⊢;omega
     rw[this];rfl
  ·have e:k=v.Slots.length:=by omega
   subst e;exact fin acc h
theorem ry(hNok:∀t v,C8 v->C8 (N t v))(t:Int)(ht:0<=t)(g:C2)(hgt:p.A7[t.toNat]? =some g)(v:A0)(hv:C8 v)(hX:v.C1=[]){M:Bz}{lev:Int}(hf:jB M p g v lev)(hb:∀x∈v.Slots,∀o∈g.Ops,o.Num=x.1->(o.D6≠4->o.D6≠5->o.Kind=10->B o.Target x.2)/\(o.D6=4->o.Kind=10->∀y∈x.2.B4,B o.Target y)/\(o.D6=5->o.Kind=10->∀y∈x.2.Pairs,B o.Target y.2)):MI p t v (Dk N g v):=by
 have hg:g∈p.A7:=b36 hgt;have hlt:t.toNat<p.A7.length:=(List.getElem?_eq_some_iff.1 hgt).1;obtain⟨_,_,⟨la,pa,sa,ra⟩,hl,hps,hs⟩:=hv.inv;have b1:=C5 sa;have w3:=C5 hv.w.2.2.1;have w4:=C5 hv.w.2.2.2;have bo:=hp.ops hg;have off:((decide (t<0))||(decide ((p.A7.length:Int)<=t)))=false:=by simp;omega
 have hT:=zb (λo x=>X0 N o x.1 x.2) g.Ops v.Slots (qi (hp.va.qv g hg)) hf.diff λx hx=>by
  obtain⟨h1,h2⟩:=IL (hf.known x hx);exact⟨_,h2,h1⟩
 have hlen:(g.Ops.flatMap (Y9 (λo x=>X0 N o x.1 x.2) v.Slots)).length<=v.Slots.length:=by
  rw[hT];exact Nat.le_trans (ga _ _ λx hx=>YJ _ _ _ _) (Nz _)
 have er:aQ v.C1 (sC kr v.C1):=by
  rw[hX];exact xj _ _ (a1d _ _ _ _ ⟨λh=>by simp at h,λ_=>rfl⟩)
 refine uG _ _ _ _ ⟨λh=>(by rw[off]at h;cases h),λ_=>⟨_,er,?_⟩⟩
 have e:Dk N g v=⟨10,0,⟨#[]⟩,[],[],g.Ops.flatMap (Y9 (λo x=>X0 N o x.1 x.2) v.Slots),sC kr v.C1⟩:=by
  rw[hT];rfl
 rw[e]
 have go:∀d i (acc:b4c (Int × A0)),g.Ops.length - i<=d->i<=g.Ops.length->acc++(g.Ops.drop i).flatMap (Y9 (λo x=>X0 N o x.1 x.2) v.Slots)=g.Ops.flatMap (Y9 (λo x=>X0 N o x.1 x.2) v.Slots)->Pe i t p v acc (sC kr v.C1) ⟨10,0,⟨#[]⟩,[],[],g.Ops.flatMap (Y9 (λo x=>X0 N o x.1 x.2) v.Slots),sC kr v.C1⟩:=by
  intro d
  induction d with
  |zero=>
   intro i acc hd hi h;have e:i=g.Ops.length:=by omega
   subst e;rw[List.drop_length]at h;exact Wb _ _ _ _ _ _ _ ⟨g,hgt,ht,λh=>by simp at h,λ_=>by rw[<-h];simp⟩
  |succ d ih=>
   intro i acc hd hi h;rcases Nat.lt_or_ge i g.Ops.length with hlt2|hge
   ·have dl:g.Ops.drop i=g.Ops[i]::g.Ops.drop (i+1):=b32 hlt2;have ho:=List.getElem_mem hlt2;have oF:=(hp.va.Mh g hg).2 _ ho;rw[dl,List.flatMap_cons]at h;refine Wb _ _ _ _ _ _ _ ⟨g,hgt,ht,λ_=>⟨g,hgt,ht,g.Ops[i],by simp,by omega,?_⟩,λh=>by simp at h;omega⟩;refine p7 hp hN t v _ _ hv hNok i (by omega) g.Ops[i] (λhk=>?_) oF.card (λx hx he=>hb x hx _ ho he.symm) _ ((g.Ops.drop (i+1)).flatMap (Y9 (λo x=>X0 N o x.1 x.2) v.Slots)) hlen (λacc' h'=>ih (i+1) acc' (by omega) (by omega) h') v.Slots.length 0 acc (by omega) (by omega) ?_
    ·obtain⟨t0,t1,_⟩:=oF.msg hk;have hlt:g.Ops[i].Target.toNat<p.A7.length:=by omega
     exact⟨_,b3y hlt,t0⟩
    ·rw[List.drop_zero,List.append_assoc];exact h
   ·have e:i=g.Ops.length:=by omega
    subst e;rw[List.drop_length]at h;exact Wb _ _ _ _ _ _ _ ⟨g,hgt,ht,λh=>by simp at h,λ_=>by rw[<-h];simp⟩
 exact go _ 0 [] (Nat.le_refl _) (by omega) (by simp)
end
theorem bn{M:Bz}{o:B0}{v:A0}{lev:Int}(h:AQ M p o v lev=0)(hk:o.Kind=10):M o.Target v (lev+1)=0:=by
 rw[AQ,if_pos hk]at h;exact h
theorem a6p{g:C2}(hg:g∈p.A7){o:B0}(ho:o∈g.Ops):B5 g o.Num=(o,true):=by
 have h:=qi (hp.va.qv g hg);unfold B5;generalize g.Ops=l at h ho
 induction l with
 |nil=>cases ho
 |cons q l ih=>
  obtain⟨h1,h2⟩:=List.pairwise_cons.1 h;rcases List.mem_cons.1 ho with h3|h3
  ·subst h3;simp only[M7];rw[if_pos (by simp)]
  ·have:=h1 o h3;simp only[M7];rw[if_neg (by simp;omega)];exact ih h2 h3
theorem gN:∀(n:Nat) (t:Int) (g:C2) (v:A0),p.A7[t.toNat]? =some g->0<=t->(C8 v/\SizeOf.sizeOf v<=n/\DS v/\∃lev,At p n t v lev=0)->MI p t v (AN p n t v)
 |0,t,g,v,_,_,h=>by have:=Ao v;omega
 |n+1,t,g,v,hgt,ht,⟨hv,hn,hX,lev,hm⟩=>by
  obtain⟨x1,x2,_,_⟩:=hX.inv;have hg:g∈p.A7:=b36 hgt;obtain⟨_,_,_,_,_,hs⟩:=hv.inv;have e:AN p (n+1) t v=Dk (AN p n) g v:=by simp only[AN,hgt]
  rw[e];simp only[At,hgt]at hm;have hf:=wi hm;refine ry hp (B:=λt v=>C8 v/\SizeOf.sizeOf v<=n/\DS v/\∃lev,At p n t v lev=0) (gN n) (λt v=>SZ hp n t v) t ht g hgt v hv x1 hf λx hx o ho he=>?_
  have z1:=BC hx;obtain⟨_,_,_,q1,q2,_⟩:=(hs x hx).inv;have h1:=hf.field x hx;rw[<-he,a6p hp hg ho]at h1;obtain⟨f4,f5,f6⟩:=a7s h1;obtain⟨_,_,y2,y3⟩:=(x2 x hx).inv;refine⟨λh4 h5 hk=>⟨hs x hx,by omega,x2 x hx,_,bn hp (f6 h4 h5) hk⟩,λh4 hk y hy=>⟨q1 y hy,by have:=Az hy;omega,y2 y hy,_,bn hp ((f4 h4).2.2 y hy) hk⟩,λh5 hk y hy=>⟨(q2 y hy).2,by have:=AH hy;omega,y3 y hy,_,bn hp ((f5 h5).2.2.1 y hy).2 hk⟩⟩
end
mutual
def bA:AV->Nat
 |.v (.string s)=>s.size+1
 |.sl els _=>CG els+1
 |.agg cells=>bL cells+1
 |_=>1
def bL:List AV->Nat
 |[]=>0
 |a::l=>bA a+bL l
def CG:List (List AV)->Nat
 |[]=>0
 |a::l=>bL a+CG l
end
theorem Uk:∀(a b:b4c AV),bL (a++b)=bL a+bL b
 |[],b=>by simp[bL]
 |x::a,b=>by simp[bL,Uk a b,Nat.add_assoc]
theorem dH:∀(l:b4c (b4c AV)),bL l.flatten=CG l
 |[]=>by simp[bL,CG]
 |x::l=>by simp[Uk,CG,dH l]
def L9(v:A0):Nat:=bL (H3 v)
def F3{α:Type}(f:α->Nat):b4c α->Nat
 |[]=>0
 |x::l=>f x+F3 f l
theorem pT{α:Type}(f:α->b4c AV):∀l:b4c α,CG (l.map f)=F3 (λx=>bL (f x)) l
 |[]=>rfl
 |x::l=>by simp[CG,F3,pT f l]
abbrev Fs(x:A0 × A0):Nat:=L9 x.1+L9 x.2
abbrev Fz(x:Int × A0):Nat:=1+L9 x.2
abbrev Ka(x:D8):Nat:=4+x.Data.size
theorem UK(v:A0):L9 v=7+v.Text.size+F3 L9 v.B4+F3 Fs v.Pairs+F3 Fz v.Slots+F3 Ka v.C1:=by
 have e1:(λx:A0 × A0=>bL (D1 x))=Fs:=by funext x;simp[D1,Uk,L9,Fs]
 have e2:(λx:Int × A0=>bL (D2 x))=Fz:=by funext x;simp[D2,Uk,L9,Fz,bL,bA]
 have e3:(λx:D8=>bL (G6 x))=Ka:=by funext x;simp[G6,bL,bA,Ka];omega
 have e4:(λx:A0=>bL (H3 x))=L9:=rfl;rw[L9,CS];simp only[C4,bL,bA,pT,e1,e2,e3,e4];omega
theorem Js{α:Type}(f:α->Nat){l:b4c α}{x:α}(h:x∈l):f x<=F3 f l:=by
 induction l with
 |nil=>cases h
 |cons y l ih=>
  rcases List.mem_cons.1 h with h|h
  ·subst h;simp only[F3];omega
  ·have:=ih h;simp only[F3];omega
theorem ME{α:Type}(f:α->Nat)(k:Nat):∀{l:b4c α},(∀x∈l,k<=f x)->l.length*k<=F3 f l
 |[],_=>by simp[F3]
 |x::l,h=>by
  have h1:=h x (by simp);have h2:=ME f k (l:=l) λy hy=>h y (by simp[hy])
  simp only[F3,List.length_cons,Nat.add_mul];omega
theorem iU(v:A0):7<=L9 v:=by rw[UK];omega
theorem a3l(v:A0):(∀x∈v.B4,L9 x<=L9 v)/\(∀x∈v.Pairs,L9 x.1+L9 x.2<=L9 v)/\(∀x∈v.Slots,L9 x.2<=L9 v):=by
 have e:=UK v;refine⟨λx hx=>?_,λx hx=>?_,λx hx=>?_⟩
 ·have:=Js L9 hx;omega
 ·have:=Js Fs hx;simp only[Fs]at this;omega
 ·have:=Js Fz hx;simp only[Fz]at this;omega
theorem gO(v:A0):v.Text.size+v.B4.length+v.Pairs.length+v.Slots.length+v.C1.length<=L9 v:=by
 have e:=UK v;have h1:=ME L9 1 (l:=v.B4) λx _=>by have:=iU x;omega
 have h2:=ME Fs 1 (l:=v.Pairs) λx _=>by have:=iU x.1;simp only[Fs];omega
 have h3:=ME Fz 1 (l:=v.Slots) λx _=>by simp only[Fz];omega
 have h4:=ME Ka 1 (l:=v.C1) λx _=>by simp only[Ka];omega
 omega
theorem RR{α:Type}(f:α->Int)(g:α->Nat):∀{l:b4c α},(∀x∈l,0<=f x/\f x<=g x)->0<=(l.map f).sum/\(l.map f).sum<=F3 g l
 |[],_=>by simp[F3]
 |x::l,h=>by
  have h1:=h x (by simp);have h2:=RR f g (l:=l) λy hy=>h y (by simp[hy])
  simp only[List.map_cons,List.sum_cons,F3];omega
theorem Nr:∀(n:Nat) (v:A0),0<=M2 n v/\M2 n v<=L9 v
 |0,v=>by simp[M2]
 |n+1,v=>by
  have e:=UK v;have h1:=RR (M2 n) L9 (l:=v.B4) λx _=>Nr n x
  have h2:=RR (λx:A0 × A0=>M2 n x.1+M2 n x.2) Fs (l:=v.Pairs) λx _=>by
   have a:=Nr n x.1;have b:=Nr n x.2;simp only[Fs];omega
  have h3:=RR (λx:Int × A0=>M2 n x.2) Fz (l:=v.Slots) λx _=>by
   have a:=Nr n x.2;simp only[Fz];omega
  have h4:=ME Ka 1 (l:=v.C1) λx _=>by simp only[Ka];omega
  simp only[M2];omega
def EH(v:A0):b4c A0:=v.B4++(v.Pairs.flatMap λx=>[x.1,x.2])++v.Slots.map λx=>x.2
theorem w9(v:A0)(hv:C8 v)(hw:L9 v<=274877906944):ZQ v (EH v):=by
 have hl:=gO v;obtain⟨_,_,⟨la,pa,sa,ra⟩,_,_,_⟩:=hv.inv;have w1:=C5 hv.w.1;refine vu _ _ ⟨a76 _ (by omega),?_⟩
 have j6:∀d i (acc:b4c A0),v.Slots.length - i<=d->i<=v.Slots.length->acc.length+(v.Slots.length - i)<=549755813888->Tn i v acc (acc++(v.Slots.drop i).map λx=>x.2):=by
  intro d
  induction d with
  |zero=>
   intro i acc hd hi ha;have e:i=v.Slots.length:=by omega
   subst e;exact bT _ _ _ _ ⟨λh=>by simp at h,λ_=>by simp⟩
  |succ d ih=>
   intro i acc hd hi ha;rcases Nat.lt_or_ge i v.Slots.length with hlt|hge
   ·have e1:wI ((i:Int)+1)=((i+1:Nat):Int):=by rw[wI,C0 (by omega)];omega
    have dl:v.Slots.drop i=v.Slots[i]::v.Slots.drop (i+1):=b32 hlt;refine bT _ _ _ _ ⟨λ_=>⟨v.Slots[i],by simp,by omega,by simp;omega,?_⟩,λh=>by simp at h;omega⟩;rw[e1,dl];have:=ih (i+1) (acc++[v.Slots[i].2]) (by omega) (by omega) (by simp;omega);rw[List.append_assoc]at this;exact this
   ·have e:i=v.Slots.length:=by omega
    subst e;exact bT _ _ _ _ ⟨λh=>by simp at h,λ_=>by simp⟩
 have j4:∀d i (acc:b4c A0),v.Pairs.length - i<=d->i<=v.Pairs.length->acc.length+2*(v.Pairs.length - i)+v.Slots.length<=549755813888->Vq i v acc (acc++((v.Pairs.drop i).flatMap λx=>[x.1,x.2])++v.Slots.map λx=>x.2):=by
  intro d
  induction d with
  |zero=>
   intro i acc hd hi ha;have e:i=v.Pairs.length:=by omega
   subst e;refine aH _ _ _ _ ⟨λh=>by simp at h,λ_=>?_⟩;have:=j6 v.Slots.length 0 acc (by omega) (by omega) (by omega);simpa using this
  |succ d ih=>
   intro i acc hd hi ha;rcases Nat.lt_or_ge i v.Pairs.length with hlt|hge
   ·have e1:wI ((i:Int)+1)=((i+1:Nat):Int):=by rw[wI,C0 (by omega)];omega
    have dl:v.Pairs.drop i=v.Pairs[i]::v.Pairs.drop (i+1):=b32 hlt;refine aH _ _ _ _ ⟨λ_=>⟨v.Pairs[i],by simp,by omega,by simp;omega,?_⟩,λh=>by simp at h;omega⟩;rw[e1,dl];have:=ih (i+1) (acc++[v.Pairs[i].1,v.Pairs[i].2]) (by omega) (by omega) (by simp;omega);rw[List.flatMap_cons,<-List.append_assoc acc];exact this
   ·have e:i=v.Pairs.length:=by omega
    subst e;refine aH _ _ _ _ ⟨λh=>by simp at h,λ_=>?_⟩;have:=j6 v.Slots.length 0 acc (by omega) (by omega) (by omega);simpa using this
 have h:=j4 v.Pairs.length 0 v.B4 (by omega) (by omega) (by omega);simpa[EH]using h
theorem yg(f:A0->Int)(v:A0):((EH v).map f).sum=(v.B4.map f).sum+(v.Pairs.map λx=>f x.1+f x.2).sum+(v.Slots.map λx=>f x.2).sum:=by
 have key:∀l:b4c (A0 × A0),((l.flatMap λx=>[x.1,x.2]).map f).sum=(l.map λx=>f x.1+f x.2).sum:=by
  intro l
  induction l with
  |nil=>rfl
  |cons x l ih=>simp only[List.flatMap_cons,List.map_append,List.sum_append,List.map_cons,List.map_nil,List.sum_cons,List.sum_nil,ih];omega
 simp only[EH,List.map_append,List.sum_append,key,List.map_map];rfl
theorem NY:∀(n:Nat) (v:A0),C8 v->SizeOf.sizeOf v<=n->L9 v<=274877906944->Mx v (wI (M2 n v))
 |0,v,_,h,_=>by have:=Ao v;omega
 |n+1,v,hv,hn,hw=>by
  obtain⟨_,_,_,hl,hp,hs⟩:=hv.inv;obtain⟨m1,m2,m3⟩:=a3l v;have hlen:=gO v;refine sL _ _ ⟨_,w9 v hv hw,?_⟩
  have e:M2 (n+1) v=1+(v.C1.length:Int)+((EH v).map (M2 n)).sum:=by
   rw[yg];simp only[M2];omega
  have il:(EH v).length<=3298534883328:=by
   have:(v.Pairs.flatMap λx=>[x.1,x.2]).length=2*v.Pairs.length:=by
    generalize v.Pairs=l
    induction l with
    |nil=>rfl
    |cons x l ih=>simp only[List.flatMap_cons,b39,ih,List.length_cons,List.length_nil];omega
   simp only[EH,b39,List.length_map,this];omega
  rw[e];refine RH (J:=λi a=>VE i (EH v) a _) (C:=λ(x:A0) b=>Mx x b) (E:=λa=>wI (1+(v.C1.length:Int)+((EH v).map (M2 n)).sum)=a) (M2 n) (EH v) (λi a hw=>wL i _ a _ hw) (by omega) (λx hx=>?_) _ rfl;rcases List.mem_append.1 hx with hx|hx
  ·rcases List.mem_append.1 hx with hx|hx
   ·exact NY n x (hl x hx) (by have:=Az hx;omega) (by have:=m1 x hx;omega)
   ·obtain⟨y,hy,hz⟩:=List.mem_flatMap.1 hx;have:=m2 y hy;have z1:=AH hy;rcases List.mem_cons.1 hz with h|h
    ·subst h;exact NY n _ (hp y hy).1 (by omega) (by omega)
    ·have:=List.mem_singleton.1 h;subst this;exact NY n _ (hp y hy).2 (by omega) (by omega)
  ·obtain⟨y,hy,rfl⟩:=List.mem_map.1 hx;exact NY n _ (hs y hy) (by have:=BC hy;omega) (by have:=m3 y hy;omega)
noncomputable def Av(p:A5)(n:Nat)(t:Int)(v:A0):Int:=L8 (At p n t v 1) (if 4096<wI (M2 n v) then 3 else 0)
section
variable {p:A5}(hp:Ay p)
 include hp
theorem c9(n:Nat)(t:Int)(g:C2)(v:A0)(hgt:p.A7[t.toNat]? =some g)(ht:0<=t)(hv:C8 v)(hn:SizeOf.sizeOf v<=n)(hw:L9 v<=274877906944):cQ p t v (Av p n t v):=by
 have hlt:t.toNat<p.A7.length:=(List.getElem?_eq_some_iff.1 hgt).1;have off:((decide (t<0))||(decide ((p.A7.length:Int)<=t)))=false:=by simp;omega
 refine a91 _ _ _ _ ⟨λh=>(by rw[off]at h;cases h),λ_=>⟨g,hgt,ht,_,ZA hp n t g v 1 hgt ht hv hn (by decide) (by decide),λh=>?_,λh=>⟨_,NY n v hv hn hw,λh2=>?_,λh2=>?_⟩⟩⟩
 ·rw[Av,L8,if_pos (by simpa using h)]
 ·rw[Av,L8,if_neg (by simpa using h),if_pos (by simpa using h2)]
 ·rw[Av,L8,if_neg (by simpa using h),if_neg (by simpa using h2)]
theorem b1u(n:Nat)(t:Int)(g:C2)(v:A0)(hgt:p.A7[t.toNat]? =some g)(ht:0<=t)(hv:C8 v)(hn:SizeOf.sizeOf v<=n):Xw p t v (Av p n t v):=by
 have hlt:t.toNat<p.A7.length:=(List.getElem?_eq_some_iff.1 hgt).1;have off:((decide (t<0))||(decide ((p.A7.length:Int)<=t)))=false:=by simp;omega
 refine b10 _ _ _ _ ⟨λh=>(by rw[off]at h;cases h),λ_=>⟨_,fD hp n t g v 1 hgt ht hv hn (by decide) (by decide),λh=>?_,λh=>⟨_,NU n v hv hn,λh2=>?_,λh2=>?_⟩⟩⟩
 ·rw[Av,L8,if_pos (by simpa using h)]
 ·rw[Av,L8,if_neg (by simpa using h),if_pos (by simpa using h2)]
 ·rw[Av,L8,if_neg (by simpa using h),if_neg (by simpa using h2)]
end
theorem WW{α β:Type}(f:β->Nat)(g:α->β):∀l:b4c α,F3 f (l.map g)=F3 (λx=>f (g x)) l
 |[]=>rfl
 |x::l=>by simp only[List.map_cons,F3,WW f g l]
theorem af{α:Type}{f g:α->Nat}:∀{l:b4c α},(∀x∈l,f x<=g x)->F3 f l<=F3 g l
 |[],_=>by simp[F3]
 |x::l,h=>by
  have h1:=h x (by simp);have h2:=af (l:=l) λy hy=>h y (by simp[hy])
  simp only[F3];omega
abbrev yI:=Int->A0->b4b
section
variable {W:yI}{B:Int->A0->Prop}(hS:∀t x,B t x->(W t x).size<=1000000*L9 x)
 include hS
end
section
variable {p:A5}(hp:Ay p)
end
section
variable {p:A5}(hp:Ay p)
 include hp
end
theorem mn{α:Type}{c:α->α->Int}(f:α->Nat)(x:α):∀l:b4c α,F3 f (G1 c x l)=f x+F3 f l
 |[]=>by simp[G1,F3]
 |y::l=>by
  simp only[G1];split
  ·simp only[F3,mn f x l];omega
  ·simp only[F3]
theorem XA{α:Type}{c:α->α->Int}(f:α->Nat):∀l:b4c α,F3 f (K9 c l)<=F3 f l
 |[]=>by simp[K9,F3]
 |x::l=>by
  have ih:=XA (c:=c) f l;simp only[K9];split
  ·rw[mn];simp only[F3];omega
  ·simp only[F3];omega
theorem eT{α:Type}(f:α->Nat):∀l m:b4c α,F3 f (l++m)=F3 f l+F3 f m
 |[],m=>by simp[F3]
 |x::l,m=>by simp only[List.cons_append,F3,eT f l m];omega
theorem qf{α β:Type}{f:β->Nat}{g:α->Nat}{h:α->b4c β}:∀{l:b4c α},(∀x∈l,F3 f (h x)<=g x)->F3 f (l.flatMap h)<=F3 g l
 |[],_=>by simp[F3]
 |x::l,hh=>by
  have h1:=hh x (by simp);have h2:=qf (l:=l) λy hy=>hh y (by simp[hy])
  rw[List.flatMap_cons,eT];simp only[F3];omega
section
variable {N:EP}(hN:∀t v,L9 (N t v)<=L9 v)
 include hN
end
structure O3 where
 d:Nat
 n:Nat
 l:Nat
def O3.add(a b:O3):O3:=⟨max a.d b.d,a.n+b.n,max a.l b.l⟩
def O3.none:O3:=⟨0,0,0⟩
theorem O3.add_assoc(a b c:O3):(a.add b).add c=a.add (b.add c):=by
 simp only[O3.add,O3.mk.injEq];omega
section
variable {α β:Type}{m:Nat}
end
structure eA(p:A5)(k t:Int)(y:A0):Prop where
 fit:V4 k y=true
 kind:y.Kind=k
 nrm:Ag y=y
 acc:k=9->Cq p t y.Bits=true
 b:0<=y.Bits/\y.Bits<18446744073709551616
 lone:y.B4=[]/\y.Pairs=[]/\y.Slots=[]/\y.C1=[]
section
variable {α β:Type}{m:Nat}
end
def Ah{α:Type}(f:α->O3):b4c α->O3
 |[]=>.none
 |x::l=>(f x).add (Ah f l)
def MA(v:A0)(k:O3):O3:=⟨if v.Kind=10 then k.d+1 else k.d,k.n+1+v.C1.length,max v.Text.size k.l⟩
def FO:Nat->A0->O3
 |0,_=>.none
 |n+1,v=>MA v ((Ah (FO n) v.B4).add ((Ah (λx=>(FO n x.1).add (FO n x.2)) v.Pairs).add (Ah (λx=>FO n x.2) v.Slots)))
theorem KG{α:Type}{f g:α->O3}:∀{l:b4c α},(∀x∈l,f x=g x)->Ah f l=Ah g l
 |[],_=>rfl
 |x::l,h=>by rw[Ah,Ah,h x (by simp),KG λy hy=>h y (by simp[hy])]
theorem IN:∀(n m:Nat) (v:A0),SizeOf.sizeOf v<=n->SizeOf.sizeOf v<=m->FO n v=FO m v
 |0,_,v,h,_=>by have:=Ao v;omega
 |_+1,0,v,_,h=>by have:=Ao v;omega
 |n+1,m+1,v,h1,h2=>by
  simp only[FO];rw[KG (l:=v.B4) λx hx=>IN n m x (by have:=Az hx;omega) (by have:=Az hx;omega)];rw[KG (l:=v.Pairs) λx hx=>by rw[IN n m x.1 (by have:=AH hx;omega) (by have:=AH hx;omega),IN n m x.2 (by have:=AH hx;omega) (by have:=AH hx;omega)]];rw[KG (l:=v.Slots) λx hx=>IN n m x.2 (by have:=BC hx;omega) (by have:=BC hx;omega)]
noncomputable def cV(v:A0):O3:=FO (SizeOf.sizeOf v) v
noncomputable abbrev cP(x:A0 × A0):O3:=(cV x.1).add (cV x.2)
noncomputable abbrev cS(x:Int × A0):O3:=cV x.2
theorem jm(v:A0):cV v=MA v ((Ah cV v.B4).add ((Ah cP v.Pairs).add (Ah cS v.Slots))):=by
 have h0:=Ao v;obtain⟨n,hn⟩:∃n,SizeOf.sizeOf v=n+1:=⟨SizeOf.sizeOf v - 1,by omega⟩
 rw[cV,hn];simp only[FO];rw[KG (l:=v.B4) (g:=cV) λx hx=>IN n _ x (by have:=Az hx;omega) (Nat.le_refl _)];rw[KG (l:=v.Pairs) (g:=cP) λx hx=>by rw[IN n _ x.1 (by have:=AH hx;omega) (Nat.le_refl _),IN n _ x.2 (by have:=AH hx;omega) (Nat.le_refl _)];rfl];rw[KG (l:=v.Slots) (g:=cS) λx hx=>IN n _ x.2 (by have:=BC hx;omega) (Nat.le_refl _)]
theorem eA.cost{p:A5}{k t:Int}{y:A0}(h:eA p k t y):cV y=⟨0,1,y.Text.size⟩:=by
 obtain⟨a,b,c,d⟩:=h.lone;have hk:=h.kind;have hf:=h.fit
 have hn:y.Kind≠10:=by
  rw[<-hk]at hf;have:=(Sf y hf).2.1;omega
 rw[jm,a,b,c,MA,if_neg hn,d];simp[Ah,O3.add,O3.none]
section
end
section
end
theorem Vi{α:Type}(f:α->O3):∀l:b4c α,(Ah f l).n=F3 (λx=>(f x).n) l
 |[]=>rfl
 |x::l=>by simp only[Ah,O3.add,F3,Vi f l]
noncomputable abbrev nV(v:A0):Nat:=(cV v).n
noncomputable abbrev nP(x:A0 × A0):Nat:=nV x.1+nV x.2
noncomputable abbrev nS(x:Int × A0):Nat:=nV x.2
theorem W8(v:A0):nV v=1+v.C1.length+F3 nV v.B4+F3 nP v.Pairs+F3 nS v.Slots:=by
 have h1:(Ah cV v.B4).n=F3 nV v.B4:=Vi _ _;have h2:(Ah cP v.Pairs).n=F3 nP v.Pairs:=Vi _ _;have h3:(Ah cS v.Slots).n=F3 nS v.Slots:=Vi _ _;show(cV v).n=_;rw[jm];simp only[MA,O3.add];omega
theorem EM(v:A0):1<=nV v:=by rw[W8];omega
theorem ae(v:A0):(∀x∈v.B4,nV x<=nV v)/\(∀x∈v.Pairs,nV x.1+nV x.2<=nV v)/\(∀x∈v.Slots,nV x.2<=nV v):=by
 have e:=W8 v;refine⟨λx hx=>?_,λx hx=>?_,λx hx=>?_⟩
 ·have:=Js nV hx;omega
 ·have:=Js nP hx;simp only[nP]at this;omega
 ·have:=Js nS hx;simp only[nS]at this;omega
theorem Oh:∀(n:Nat) (v:A0),SizeOf.sizeOf v<=n->M2 n v=(nV v:Int)
 |0,v,h=>by have:=Ao v;omega
 |n+1,v,h=>by
  have key:∀{α:Type}(f:α->Int) (g:α->Nat) (l:b4c α),(∀x∈l,f x=(g x:Int))->(l.map f).sum=(F3 g l:Int):=by
   intro α f g l
   induction l with
   |nil=>intro _;rfl
   |cons x l ih=>
    intro h;have h1:=h x (by simp);have h2:=ih λy hy=>h y (by simp[hy])
    simp only[List.map_cons,List.sum_cons,F3];omega
  have h1:=key (M2 n) nV v.B4 λx hx=>Oh n x (by have:=Az hx;omega)
  have h2:=key (λx:A0 × A0=>M2 n x.1+M2 n x.2) nP v.Pairs λx hx=>by
   have a:=Oh n x.1 (by have:=AH hx;omega);have b:=Oh n x.2 (by have:=AH hx;omega);simp only[nP];omega
  have h3:=key (λx:Int × A0=>M2 n x.2) nS v.Slots λx hx=>Oh n x.2 (by have:=BC hx;omega)
  have e:=W8 v;simp only[M2];omega
theorem ld(v:A0):nV (Ag v)=nV v:=by
 unfold Ag;split
 ·rw[W8,W8]
 ·rfl
section
variable {N:EP}(hN:∀t v,nV (N t v)<=nV v)
 include hN
theorem Zz(o:B0)(v:A0):nV (AT N o v)<=nV v:=by
 unfold AT;split
 ·exact hN _ _
 ·rw[ld];omega
theorem o4(o:B0)(v:A0):nV (AD N o v)<=nV v:=by
 have e:=W8 v;unfold AD;split
 ·rw[W8 ⟨11,_,_,_,_,_,_⟩];have h:=af (l:=v.B4) (f:=λx=>nV (AT N o x)) (g:=nV) λx _=>Zz hN o x
  simp only[WW,F3,List.length_nil];omega
 split
 ·rw[W8 ⟨12,_,_,_,_,_,_⟩]
  have h:=af (l:=DD v.Pairs) (f:=λx=>nP (Ag x.1,AT N o x.2)) (g:=nP) λx _=>by
   have a:=Zz hN o x.2;have b:=ld x.1;simp only[nP];omega
  have h2:=XA (c:=kc (SizeOf.sizeOf v.Pairs)) nP v.Pairs;simp only[WW,F3,List.length_nil];have e2:F3 nP (DD v.Pairs)<=F3 nP v.Pairs:=h2;omega
 ·exact Zz hN o v
theorem zt(g:C2)(v:A0):nV (Dk N g v)<=nV v:=by
 have e:=W8 v
 have h:=qf (l:=K9 kn v.Slots) (f:=nS) (g:=nS) (h:=λx=>X0 N (B5 g x.1).1 x.1 x.2) λx _=>by
  have a:=o4 hN (B5 g x.1).1 x.2;simp only[X0];split
  ·simp only[F3,nS];omega
  ·simp[F3]
 have h2:=XA (c:=kn) nS v.Slots;have h3:(sC kr v.C1).length=v.C1.length:=(Na v.C1).length_eq;rw[Dk,W8 ⟨10,_,_,_,_,_,_⟩];simp only[F3];omega
end
theorem ku(p:A5):∀(n:Nat) (t:Int) (v:A0),nV (AN p n t v)<=nV v
 |0,t,v=>by
  have e:=W8 v;have:nV (AN p 0 t v)=1:=by rw[W8];rfl
  omega
 |n+1,t,v=>by
  simp only[AN];split
  ·have e:=W8 v;have:nV (⟨0,0,⟨#[]⟩,[],[],[],[]⟩:A0)=1:=by rw[W8];rfl
   omega
  ·exact zt (ku p n) _ v
def Ap(lev:Int)(k:O3):Prop:=(k.d:Int)+lev<=17/\k.l<=4096
theorem Ap.add{e:Int}{a b:O3}(h:Ap e a)(h2:Ap e b):Ap e (a.add b):=by
 unfold Ap at*;simp only[O3.add];omega
theorem Ap.none{e:Int}(h:e<=17):Ap e .none:=⟨by simp only[O3.none];omega,by simp only[O3.none];omega⟩
theorem Ap.sum{α:Type}{e:Int}(he:e<=17){f:α->O3}:∀{l:b4c α},(∀x∈l,Ap e (f x))->Ap e (Ah f l)
 |[],_=>Ap.none he
 |x::l,h=>(h x (by simp)).add (Ap.sum he λy hy=>h y (by simp[hy]))
theorem Ap.sc{e:Int}(he:e<=17){p:A5}{k t:Int}{y:A0}(h:eA p k t y)(hs:y.Text.size<=4096):Ap e (cV y):=by
 rw[h.cost];exact⟨by simp only;omega,hs⟩
theorem Ap.top{e:Int}(v:A0)(hk:v.Kind≠10)(ht:v.Text.size<=4096){k:O3}(h:Ap e k):Ap e (MA v k):=by
 unfold Ap at*;simp only[MA,if_neg hk];omega
section
variable {p:A5}(hp:Ay p)
 include hp
end
theorem xO(b:b4e):XX b (if b=true then⟨#[116,114,117,101]⟩ else⟨#[102,97,108,115,101]⟩):=by
 refine a02 _ _ ⟨_,b1d _ _ ⟨λh=>?_,λh=>?_⟩,rfl⟩
 ·rw[if_pos h]
 ·rw[if_neg (by rw[h];decide)]
theorem Ys(u:Nat)(h:9223372036854775808<=u)(h2:u<18446744073709551616):wI (u:Int)= -((18446744073709551616 - u:Nat):Int):=by
 simp only[wI,IntKind.wrap,IntKind.signed,IntKind.bits];simp;omega
theorem bi(u:Nat)(h:u<9223372036854775808):wI (u:Int)=(u:Int):=by rw[wI,C0 (by omega)]
theorem cH(u:Nat)(h:9223372036854775808<=u)(h2:u<18446744073709551616):Fd (wI (u:Int))=⟨#[45]⟩++Y1 (18446744073709551616 - u):=by
 rw[Ys u h h2,Fd,Lib.itoa,if_pos (by omega)];rw[show(-((18446744073709551616 - u:Nat):Int)).natAbs=18446744073709551616 - u by omega];apply ByteArray.ext;simp[ByteArray.data_append,Y1]
theorem pI(u:Nat)(h:u<9223372036854775808):Fd (wI (u:Int))=Y1 u:=by
 rw[bi u h,Fd,Lib.itoa,if_neg (by omega)];simp[Y1]
theorem oJ{k:Int}{v:A0}(h:V4 k v):1<=k/\k<=9/\v.Kind=k:=by
 unfold V4 at h;simp only[b3x,b3v]at h;exact h.1.1
theorem Yg(mg:Int)(v:A0)(hv:AZ v):OW mg v (CE v):=by
 have eb:((v.Bits.toNat:Nat):Int)=v.Bits:=by have:=hv.b0;omega
 have hb:v.Bits.toNat<18446744073709551616:=by have:=hv.b1;omega
 refine a9e _ _ _ ⟨_,Xr _ v hv,λh=>?_,λh=>?_⟩
 ·unfold CE;rw[if_pos (by simpa using h)]
 have hf:V4 v.Kind v:=by simpa using h
 have hs:=WZ hf;have ff:=Sf v hf;unfold CE;rw[if_neg (by rw[hf];decide)];refine⟨λh1=>⟨_,xO _,?_⟩,λh1=>?_⟩
 ·rw[if_pos (by simpa using h1)]
  by_cases hb1:v.Bits=1
  ·rw[if_pos hb1,if_pos (by simpa using hb1)]
  ·rw[if_neg hb1,if_neg (by simpa using hb1)]
 have n1:¬v.Kind=1:=by simpa using h1
 rw[if_neg n1]
 have key:∀b,b=decide (v.Kind=2\/v.Kind=3)->Vl b v mg (if v.Kind=2\/v.Kind=3 then Fd (wI v.Bits) else if v.Kind=6 then IQ v.Bits.toNat else if v.Kind=7 then ES v.Text else if v.Kind=8 then⟨#[120]⟩++ES (Bx v.Text) else Y1 v.Bits.toNat):=by
  intro b hb2;refine xJ _ _ _ _ ⟨λh2=>?_,λh2=>?_⟩
  ·rw[hb2]at h2;rw[if_pos (of_decide_eq_true h2)];refine⟨_,sF mg _ ?_ ?_,rfl⟩
   all_goals (rw[<-eb];rcases Nat.lt_or_ge v.Bits.toNat 9223372036854775808 with q|q)
   ·rw[bi _ q];omega
   ·rw[Ys _ q hb];omega
   ·rw[bi _ q];omega
   ·rw[Ys _ q hb];omega
  rw[hb2]at h2;rw[if_neg (of_decide_eq_false h2)];refine⟨λh3=>⟨IQ v.Bits.toNat,?_,?_⟩,λh3=>?_⟩
  ·have:=b2k mg v.Bits.toNat hb
   rwa [eb]at this
  ·rw[if_pos (by simpa using h3)]
  rw[if_neg (by simpa using h3)];refine⟨λh4=>⟨_,qP _ (by omega),?_⟩,λh4=>?_⟩
  ·rw[if_pos (by simpa using h4)]
  rw[if_neg (by simpa using h4)];refine⟨λh5=>⟨_,d6 _ (by omega),_,qP _ (by rw[PZ];omega),?_,?_⟩,λh5=>?_⟩
  ·have:=RQ (Bx v.Text);rw[PZ]at this;rw[show(⟨#[120]⟩:b4b).size=1 from rfl];omega
  ·rw[if_pos (by simpa using h5)]
  rw[if_neg (by simpa using h5)];refine⟨Y1 v.Bits.toNat,?_,rfl⟩;have:=j9 mg v.Bits.toNat hb
  rwa [eb]at this
 refine⟨λh2=>key _ ?_,λh2=>key _ ?_⟩
 ·rw[h2];have:v.Kind=2:=by simpa using h2
  simp[this]
 ·have:¬v.Kind=2:=by simpa using h2
  rw[Bool.eq_iff_iff];simp[this]
theorem XC(v:A0)(hv:AZ v):Ow v (CE v):=by
 have eb:((v.Bits.toNat:Nat):Int)=v.Bits:=by have:=hv.b0;omega
 have hb:v.Bits.toNat<18446744073709551616:=by have:=hv.b1;omega
 have b0:=hv.b0;refine a1n _ _ ⟨_,Te _ v hv,λh=>?_,λh=>?_⟩
 ·unfold CE;rw[if_pos (by simpa using h)]
 have hf:V4 v.Kind v:=by simpa using h
 have hs:=WZ hf;have ff:=Sf v hf;unfold CE;rw[if_neg (by rw[hf];decide)];refine⟨λh1=>⟨λh2=>?_,λh2=>?_⟩,λh1=>?_⟩
 ·rw[if_pos (by simpa using h1),if_pos (by simpa using h2)]
 ·rw[if_pos (by simpa using h1),if_neg (by simpa using h2)]
 have n1:¬v.Kind=1:=by simpa using h1
 rw[if_neg n1]
 have key:∀b,b=decide (v.Kind=2\/v.Kind=3)->Rn b v (if v.Kind=2\/v.Kind=3 then Fd (wI v.Bits) else if v.Kind=6 then IQ v.Bits.toNat else if v.Kind=7 then ES v.Text else if v.Kind=8 then⟨#[120]⟩++ES (Bx v.Text) else Y1 v.Bits.toNat):=by
  intro b hb2
  have dd:LG v.Bits (Y1 v.Bits.toNat):=by
   have:=mD v.Bits.toNat hb
   rwa [eb]at this
  refine a83 _ _ _ ⟨λh2=>⟨λh3=>⟨Y1 (18446744073709551616 - v.Bits.toNat),?_,?_,?_⟩,λh3=>⟨_,dd,?_⟩⟩,λh2=>?_⟩
  ·have h3:=of_decide_eq_true h3
   have e:wU (0 - v.Bits)=((18446744073709551616 - v.Bits.toNat:Nat):Int):=by
    rw[<-eb];simp only[wU,IntKind.wrap,IntKind.signed,IntKind.bits];simp;omega
   rw[e];exact mD _ (by omega)
  ·have h3:=of_decide_eq_true h3;have:=YG (18446744073709551616 - v.Bits.toNat) (by omega);rw[show(⟨#[45]⟩:b4b).size=1 from rfl];omega
  ·have h3:=of_decide_eq_true h3;rw[hb2]at h2;rw[if_pos (of_decide_eq_true h2)];have:=cH v.Bits.toNat (by omega) hb;rw[eb]at this;rw[this]
  ·have h3:=of_decide_eq_false h3;rw[hb2]at h2;rw[if_pos (of_decide_eq_true h2)];have:=pI v.Bits.toNat (by omega);rw[eb]at this;rw[this]
  rw[hb2]at h2;rw[if_neg (of_decide_eq_false h2)];refine⟨λh3=>?_,λh3=>?_⟩
  ·rw[if_pos (by simpa using h3)];have cc:=cO v.Bits.toNat hb;rw[eb]at cc;unfold IQ;have c0:(((Ai v.Bits.toNat:Nat):Int)==0)=decide (Ai v.Bits.toNat=0):=ST _ 0;have c1:(((Ai v.Bits.toNat:Nat):Int)==1)=decide (Ai v.Bits.toNat=1):=ST _ 1;refine⟨_,cc,?_⟩;rw[c0,c1];refine⟨λh4=>by rw[if_pos (of_decide_eq_true h4)],λh4=>?_⟩;rw[if_neg (of_decide_eq_false h4)];refine⟨λh5=>?_,λh5=>⟨Hv v.Bits.toNat,?_,?_,?_⟩⟩
   ·rw[if_pos (of_decide_eq_true h5)];refine⟨λh6=>?_,λh6=>?_⟩
    ·have h6:=of_decide_eq_true h6;rw[if_pos (by omega)]
    ·have h6:=of_decide_eq_false h6;rw[if_neg (by omega)]
   ·have:=a4o v.Bits.toNat hb
    rwa [eb]at this
   ·rw[iu,show(⟨#[48,120]⟩:b4b).size=2 from rfl];omega
   ·rw[if_neg (of_decide_eq_false h5)]
  rw[if_neg (by simpa using h3)];refine⟨λh4=>⟨_,hY _ (by omega),?_⟩,λh4=>?_⟩
  ·rw[if_pos (by simpa using h4)]
  rw[if_neg (by simpa using h4)];refine⟨λh5=>⟨_,lV _ (by omega),_,hY _ (by rw[PZ];omega),?_,?_⟩,λh5=>?_⟩
  ·have:=RQ (Bx v.Text);rw[PZ]at this;rw[show(⟨#[120]⟩:b4b).size=1 from rfl];omega
  ·rw[if_pos (by simpa using h5)]
  rw[if_neg (by simpa using h5)];exact⟨_,dd,rfl⟩
 refine⟨λh2=>key _ ?_,λh2=>key _ ?_⟩
 ·rw[h2];have:v.Kind=2:=by simpa using h2
  simp[this]
 ·have:¬v.Kind=2:=by simpa using h2
  rw[Bool.eq_iff_iff];simp[this]
theorem Ls(v:A0)(hv:AZ v):(CE v).size<=32771:=by
 have hb:v.Bits.toNat<18446744073709551616:=by have:=hv.b1;omega
 have eb:((v.Bits.toNat:Nat):Int)=v.Bits:=by have:=hv.b0;omega
 have z:∀(a:UInt8) (s:b4b),((⟨#[a]⟩:b4b)++s).size=1+s.size:=λa s=>by rw[H5];rfl
 have dz:=YG v.Bits.toNat hb;unfold CE;split
 ·decide
 rename_i hf;have hf:V4 v.Kind v:=by simpa using hf
 have hs:=WZ hf;split
 ·split<;>decide
 split
 ·rw[<-eb];rcases Nat.lt_or_ge v.Bits.toNat 9223372036854775808 with q|q
  ·rw[pI _ q];omega
  ·rw[cH _ q hb,z];have:=YG (18446744073709551616 - v.Bits.toNat) (by omega);omega
 split
 ·unfold IQ;split
  ·decide
  split
  ·split<;>decide
  ·rw[H5,iu];decide
 split
 ·have:=RQ v.Text;omega
 split
 ·rw[z];have:=RQ (Bx v.Text);rw[PZ]at this;omega
 ·omega
def Bc(num:Int):b4c O5->O5 × b4e
 |[]=>(⟨⟨#[]⟩,0,[]⟩,false)
 |i::l=>if(decide (0<=i.Num)&&(wU i.Num==num))=true then(i,true) else Bc num l
def Eh(p:A5)(t:Int):b4c O5:=if t<0\/(p.C3.length:Int)<=t then [] else((p.C3[t.toNat]?).map (·.Items)).getD []
theorem me(num:Int):∀{l:b4c O5},(Bc num l).2->(Bc num l).1∈l
 |[],h=>by cases h
 |i::l,h=>by
  unfold Bc at h ⊢;split
  ·exact List.mem_cons_self
  ·rename_i q;rw[if_neg q]at h;exact List.mem_cons_of_mem _ (me num h)
theorem uO(e:I2)(he:e.Items.length<=140737488351232)(num:Int):∀d i:Nat,e.Items.length - i=d->i<=e.Items.length->Ss i e num (Bc num (e.Items.drop i)):=by
 intro d
 induction d with
 |zero=>
  intro i hd hi;rw[b33 (by omega)];exact km _ _ _ _ ⟨λh=>absurd (of_decide_eq_true h) (by omega),λ_=>rfl⟩
 |succ d ih=>
  intro i hd hi;have hlt:i<e.Items.length:=by omega
  have e1:wI ((i:Int)+1)=((i+1:Nat):Int):=by rw[wI,C0 (by omega)];omega
  rw[b32 hlt,Bc];refine km _ _ _ _ ⟨λ_=>⟨e.Items[i],by simp,by omega,λh=>by rw[if_pos h],λh=>?_⟩,λh=>absurd (of_decide_eq_false h) (by omega)⟩;rw[if_neg (by rw[h];decide),e1];exact ih (i+1) (by omega) (by omega)
theorem a7p(p:A5)(hi:∀g∈p.C3,g.Items.length<=140737488351232)(t num:Int):am p t num (Bc num (Eh p t)):=by
 refine ya _ _ _ _ ⟨λh=>?_,λh=>?_⟩
 ·have:t<0\/(p.C3.length:Int)<=t:=by simpa using h
  rw[Eh,if_pos this];rfl
 ·have h0:¬(t<0\/(p.C3.length:Int)<=t):=by simp at h;omega
  have hlt:t.toNat<p.C3.length:=by omega
  rw[Eh,if_neg h0,b3y hlt];refine⟨_,b3y hlt,by omega,?_⟩;have:=uO _ (hi _ (List.getElem_mem hlt)) num _ 0 rfl (Nat.zero_le _);simpa using this
theorem a3w(e:I2)(he:e.Items.length<=140737488351232)(num:Int):∀d i:Nat,e.Items.length - i=d->i<=e.Items.length->Sv i num e ((Bc num (e.Items.drop i)).1.Name,(Bc num (e.Items.drop i)).2):=by
 intro d
 induction d with
 |zero=>
  intro i hd hi;rw[b33 (by omega)];exact oo _ _ _ _ ⟨λh=>absurd (of_decide_eq_true h) (by omega),λ_=>rfl⟩
 |succ d ih=>
  intro i hd hi;have hlt:i<e.Items.length:=by omega
  have e1:wI ((i:Int)+1)=((i+1:Nat):Int):=by rw[wI,C0 (by omega)];omega
  rw[b32 hlt,Bc];refine oo _ _ _ _ ⟨λ_=>⟨e.Items[i],by simp,by omega,λb=>b=(decide (0<=e.Items[i].Num)&&(wU e.Items[i].Num==num)),λb hb=>⟨λh=>⟨e.Items[i],by simp,by omega,?_⟩,λh=>?_⟩,λh=>⟨e.Items[i],by simp,by omega,by rw[h,Bool.true_and]⟩,λh=>by rw[h,Bool.false_and]⟩,λh=>absurd (of_decide_eq_false h) (by omega)⟩
  ·rw[if_pos (by rw[<-hb];exact h)]
  ·rw[if_neg (by rw[<-hb,h];decide),e1];exact ih (i+1) (by omega) (by omega)
theorem b1c(e:I2)(he:e.Items.length<=140737488351232)(num:Int):ZV e num ((Bc num e.Items).1.Name,(Bc num e.Items).2):=by
 have:=a3w e he num _ 0 rfl (Nat.zero_le _);exact a4e _ _ _ (by simpa using this)
theorem vp(p:A5)(hi:∀g∈p.C3,g.Items.length<=140737488351232)(o:B0):∃y,XR p o y/\y.1.Items=Eh p o.Target/\y.1.Items.length<=140737488351232:=by
 by_cases h:o.Target<0\/(p.C3.length:Int)<=o.Target
 ·have hb:((decide (o.Target<0))||(decide ((p.C3.length:Int)<=o.Target))):=by simpa using h
  exact⟨_,lj _ _ _ ⟨λ_=>rfl,λh2=>(by rw[hb]at h2;cases h2)⟩,by rw[Eh,if_pos h],by simp⟩
 ·have hb:((decide (o.Target<0))||(decide ((p.C3.length:Int)<=o.Target)))=false:=by simp;omega
  have hlt:o.Target.toNat<p.C3.length:=by omega
  refine⟨(p.C3[o.Target.toNat],true),lj _ _ _ ⟨λh2=>(by rw[hb]at h2;cases h2),λ_=>⟨_,b3y hlt,by omega,rfl⟩⟩,?_,hi _ (List.getElem_mem hlt)⟩;rw[Eh,if_neg h,b3y hlt];rfl
def Aq(p:A5)(o:B0)(v:A0):b4b:=
 if V4 o.Kind v=false then⟨#[]⟩ else if o.Kind≠9 then CE v else if(Bc v.Bits (Eh p o.Target)).2=true then(Bc v.Bits (Eh p o.Target)).1.Name else⟨#[35]⟩++CE v
theorem uJ(mg:Int)(p:A5)(hi:∀g∈p.C3,g.Items.length<=140737488351232)(o:B0)(v:A0)(hv:AZ v):Zo mg p o v (Aq p o v):=by
 refine vL _ _ _ _ _ ⟨_,Pm _ _ rfl,λb=>b= !(V4 o.Kind v),λb hb=>⟨λh=>?_,λh=>⟨λh2=>⟨_,Yg mg v hv,?_⟩,λh2=>⟨_,a7p p hi _ _,λh3=>?_,λh3=>⟨_,Yg mg v hv,?_,?_⟩⟩⟩⟩,λh=>?_,λh=>⟨_,Xr _ v hv,rfl⟩⟩
 ·rw[Aq,if_pos (by rw[h]at hb;simpa using hb.symm)]
 ·rw[Aq,if_neg (by rw[h]at hb;simpa using hb),if_pos (by simpa using h2)]
 ·rw[Aq,if_neg (by rw[h]at hb;simpa using hb),if_neg (by simpa using h2),if_pos h3]
 ·have:=Ls v hv;rw[show(⟨#[35]⟩:b4b).size=1 from rfl];omega
 ·rw[Aq,if_neg (by rw[h]at hb;simpa using hb),if_neg (by simpa using h2),if_neg (by rw[h3];decide)]
 ·cases hq:V4 o.Kind v with
  |false=>rfl
  |true=>
   have:=oJ hq;simp at h;omega
theorem rZ(p:A5)(hi:∀g∈p.C3,g.Items.length<=140737488351232)(o:B0)(v:A0)(hv:AZ v):Xx p o v (Aq p o v):=by
 obtain⟨y,hy,h5,h6⟩:=vp p hi o;refine vG _ _ _ _ ⟨λb=>b= !(V4 o.Kind v),λb hb=>⟨λh=>?_,λh=>⟨λh2=>⟨_,XC v hv,?_⟩,λh2=>⟨y,hy,_,b1c _ h6 _,λh3=>?_,λh3=>⟨_,XC v hv,?_,?_⟩⟩⟩⟩,λh=>?_,λh=>⟨_,Te _ v hv,rfl⟩⟩
 ·rw[Aq,if_pos (by rw[h]at hb;simpa using hb.symm)]
 ·rw[Aq,if_neg (by rw[h]at hb;simpa using hb),if_pos (by simpa using h2)]
 ·rw[h5]at h3 ⊢;rw[Aq,if_neg (by rw[h]at hb;simpa using hb),if_neg (by simpa using h2),if_pos h3]
 ·have:=Ls v hv;rw[show(⟨#[35]⟩:b4b).size=1 from rfl];omega
 ·rw[h5]at h3;rw[Aq,if_neg (by rw[h]at hb;simpa using hb),if_neg (by simpa using h2),if_neg (by rw[h3];decide)]
 ·cases hq:V4 o.Kind v with
  |false=>rfl
  |true=>
   have:=oJ hq;simp at h;omega
def Nm(s:b4b):Prop:=1<=s.size/\s.size<=40/\E2 s 0≠32
structure BE(p:A5):Prop where
 ops:∀g∈p.A7,∀x∈g.Ops,Nm x.Name
 items:∀g∈p.C3,∀x∈g.Items,Nm x.Name
theorem yP(s:b4b)(hs:s.size<=140737488351232):Ex (λr=>r=true->Nm s) (Ma s):=by
 refine C9 (nJ _) (F5 ?_);have go:∀b,(b=false->Nm s)->Ex (λr=>r=true->Nm s) (λr=>(b=true->r=false)/\(b=false->LD 1 s r)):=λb hb=>D5 b (λ_=>E4 (λh=>by cases h)) (λh=>aN (gz s hs 1) λr _ _=>hb h)
 refine D5 _ (λ_=>go true (λh=>by cases h)) λh0=>?_
 have z:1<=s.size/\s.size<=40:=by
  rw[Bool.or_eq_false_iff]at h0;have h1:=of_decide_eq_false h0.2;have h2:=beq_eq_false_iff_ne.1 h0.1;omega
 refine F6 (by constructor<;>omega) (Pq (mz _ _ rfl) (F5 ?_));refine D5 _ (λh1=>F6 (by constructor<;>omega) (Pq (gw _ _ rfl) (go _ λh2=>⟨z.1,z.2,?_⟩))) λh1=>go false λ_=>⟨z.1,z.2,?_⟩
 ·show E2 s (0:Int).toNat≠32;simp only[Bool.not_eq_false',b3x,b3v]at h2;omega
 ·show E2 s (0:Int).toNat≠32;simp only[Bool.not_eq_false',b3x,b3v]at h1;omega
theorem jd(s:b4b)(hs:s.size<=140737488351232):Ex (λr=>r=true->Nm s) (SE s):=
 C9 (a9y _) (K6 (yP s hs) λy hy=>D5 y (λh=>K6 (mV s) λ_ _=>E4 λ_=>hy h) λ_=>E4 λh=>by cases h)
section
variable {p:A5}(hp:Ct p)
 include hp
theorem yB(A Q:Prop)(k:Nat)(hk:k<p.C3.length)(g:I2)(hg:p.C3[((k:Int)).toNat]? =some g)(og:El g)(H:∀b,(b=true->A/\∀x∈g.Items,Nm x.Name)->Ex (λr=>r=true->Q) (Li ((k+1:Nat):Int) b p)):∀i:Nat,∀b,(b=true->A/\∀j x,j<i->g.Items[j]? =some x->Nm x.Name)->Ex (λr=>r=true->Q) (MN (i:Int) b (k:Int) p):=by
 have b1:=C5 hp.np;have b2:=C5 hp.ne;have b3:=C5 og.ni;refine M0 g.Items.length (λi hi ih b hA=>?_) (λi hi b hA=>?_)
 ·refine C9 (qj _ _ _ _) (U3 g hg (by omega) (D9 (λ_=>D5 _ (λhb=>?_) (λhb=>?_)) λh=>absurd (show(i:Int)<g.Items.length by omega) h))
  ·rw[G8 (by omega)];refine U3 g hg (by omega) (F2 (by omega) λx hx hm=>K6 (jd _ (og.items _ hm).name) λy hy=>ih _ λh=>⟨(hA hb).1,λj z hj hz=>?_⟩)
   by_cases e:j=i
   ·subst e;have e2:((j:Int)).toNat=j:=by omega
    rw[e2,hz]at hx;cases hx;exact hy h
   ·exact(hA hb).2 j z (by omega) hz
  ·rw[G8 (by omega)];exact ih _ λh=>by cases h
 ·refine C9 (qj _ _ _ _) (U3 g hg (by omega) (D9 (λh=>absurd h (by omega)) λ_=>?_));rw[G8 (by omega)];refine H _ λh=>⟨(hA h).1,λx hx=>?_⟩
  obtain⟨j,hj,rfl⟩:=List.mem_iff_getElem.1 hx;exact(hA h).2 j _ (by omega) (b3y hj)
theorem b2j(A Q:Prop)(H:∀b,(b=true->A/\∀g∈p.C3,∀x∈g.Items,Nm x.Name)->Ex (λr=>r=true->Q) (λr=>r=b)):∀i:Nat,∀b,(b=true->A/\∀j g,j<i->p.C3[j]? =some g->∀x∈g.Items,Nm x.Name)->Ex (λr=>r=true->Q) (Li (i:Int) b p):=by
 have b1:=C5 hp.np;have b2:=C5 hp.ne;refine M0 p.C3.length (λi hi ih b hA=>?_) (λi hi b hA=>?_)
 ·obtain⟨g,hg,gm⟩:=Hf hi
  have fin:∀b',(b'=true->b=true)->Ex (λr=>r=true->Q) (MN 0 b' (i:Int) p):=λb' hb'=>yB hp (A/\∀j g,j<i->p.C3[j]? =some g->∀x∈g.Items,Nm x.Name) Q i hi g hg (hp.enums g gm) (λb h=>ih b λhb=>⟨(h hb).1.1,λj z hj hz=>by
   by_cases e:j=i
   ·subst e;have e2:((j:Int)).toNat=j:=by omega
    rw[e2,hz]at hg;cases hg;exact(h hb).2
   ·exact(h hb).1.2 j z (by omega) hz⟩) 0 b' λh=>⟨hA (hb' h),λj x hj=>by omega⟩
  refine C9 (kk _ _ _) (D9 (λ_=>F5 (D5 _ (λhb=>F2 (by omega) λy hy hm=>K6 (nG _ (hp.enums _ hm).name) λz hz=>fin z λ_=>hb) λhb=>fin false λh=>by cases h)) λh=>absurd (show(i:Int)<p.C3.length by omega) h)
 ·refine C9 (kk _ _ _) (D9 (λh=>absurd h (by omega)) λ_=>H b λh=>⟨(hA h).1,λg hg=>?_⟩);obtain⟨j,hj,rfl⟩:=List.mem_iff_getElem.1 hg;exact(hA h).2 j _ (by omega) (b3y hj)
theorem tZ(A Q:Prop)(k:Nat)(hk:k<p.A7.length)(g:C2)(hg:p.A7[((k:Int)).toNat]? =some g)(og:Du g)(H:∀b,(b=true->A/\∀x∈g.Ops,Nm x.Name)->Ex (λr=>r=true->Q) (PG ((k+1:Nat):Int) b p)):∀i:Nat,∀b,(b=true->A/\∀j x,j<i->g.Ops[j]? =some x->Nm x.Name)->Ex (λr=>r=true->Q) (MC (i:Int) b (k:Int) p):=by
 have b1:=C5 hp.np;have b2:=C5 hp.ne;have b3:=C5 og.n;refine M0 g.Ops.length (λi hi ih b hA=>?_) (λi hi b hA=>?_)
 ·refine C9 (eg _ _ _ _) (U3 g hg (by omega) (D9 (λ_=>D5 _ (λhb=>?_) (λhb=>?_)) λh=>absurd (show(i:Int)<g.Ops.length by omega) h))
  ·rw[G8 (by omega)];refine U3 g hg (by omega) (F2 (by omega) λx hx hm=>K6 (jd _ (og.ops _ hm).name) λy hy=>ih _ λh=>⟨(hA hb).1,λj z hj hz=>?_⟩)
   by_cases e:j=i
   ·subst e;have e2:((j:Int)).toNat=j:=by omega
    rw[e2,hz]at hx;cases hx;exact hy h
   ·exact(hA hb).2 j z (by omega) hz
  ·rw[G8 (by omega)];exact ih _ λh=>by cases h
 ·refine C9 (eg _ _ _ _) (U3 g hg (by omega) (D9 (λh=>absurd h (by omega)) λ_=>?_));rw[G8 (by omega)];refine H _ λh=>⟨(hA h).1,λx hx=>?_⟩
  obtain⟨j,hj,rfl⟩:=List.mem_iff_getElem.1 hx;exact(hA h).2 j _ (by omega) (b3y hj)
theorem a30(A Q:Prop)(H:∀b,(b=true->A/\∀g∈p.A7,∀x∈g.Ops,Nm x.Name)->Ex (λr=>r=true->Q) (λr=>Li 0 b p r)):∀i:Nat,∀b,(b=true->A/\∀j g,j<i->p.A7[j]? =some g->∀x∈g.Ops,Nm x.Name)->Ex (λr=>r=true->Q) (PG (i:Int) b p):=by
 have b1:=C5 hp.np;have b2:=C5 hp.ne;refine M0 p.A7.length (λi hi ih b hA=>?_) (λi hi b hA=>?_)
 ·obtain⟨g,hg,gm⟩:=Hf hi
  have fin:∀b',(b'=true->b=true)->Ex (λr=>r=true->Q) (MC 0 b' (i:Int) p):=λb' hb'=>tZ hp (A/\∀j g,j<i->p.A7[j]? =some g->∀x∈g.Ops,Nm x.Name) Q i hi g hg (hp.Ez g gm) (λb h=>ih b λhb=>⟨(h hb).1.1,λj z hj hz=>by
   by_cases e:j=i
   ·subst e;have e2:((j:Int)).toNat=j:=by omega
    rw[e2,hz]at hg;cases hg;exact(h hb).2
   ·exact(h hb).1.2 j z (by omega) hz⟩) 0 b' λh=>⟨hA (hb' h),λj x hj=>by omega⟩
  refine C9 (ky _ _ _) (D9 (λ_=>F5 (D5 _ (λhb=>F2 (by omega) λy hy hm=>K6 (nG _ (hp.Ez _ hm).name) λz hz=>fin z λ_=>hb) λhb=>fin false λh=>by cases h)) λh=>absurd (show(i:Int)<p.A7.length by omega) h)
 ·refine C9 (ky _ _ _) (D9 (λh=>absurd h (by omega)) λ_=>H b λh=>⟨(hA h).1,λg hg=>?_⟩);obtain⟨j,hj,rfl⟩:=List.mem_iff_getElem.1 hg;exact(hA h).2 j _ (by omega) (b3y hj)
theorem a40:Ex (λr=>r=true->BE p) (ai p):=
 C9 (j8 _) (a30 hp True (BE p) (λb hb=>b2j hp (∀g∈p.A7,∀x∈g.Ops,Nm x.Name) (BE p) (λb hb=>E4 λh=>⟨(hb h).1,(hb h).2⟩) 0 b λh=>⟨(hb h).2,λj g hj=>by omega⟩) 0 true λ_=>⟨trivial,λj g hj=>by omega⟩)
end
theorem b04(p:A5)(hp:Ct p):Ex (λr=>r=0->ZU p/\BE p) (ZS p):=by
 have no:∀{n:Int},n≠0->Ex (α:=Int) (λr=>r=0->ZU p/\BE p) (λr=>r=n):=λhn=>E4 λh=>absurd h hn
 refine C9 (a7k _) (K6 (a60 p hp) λy1 _=>D5 _ (λ_=>no (by decide)) λ_=>?_);refine K6 (a40 hp) λy1 hN=>D5 _ (λ_=>no (by decide)) λkN=>?_
 refine K6 (rQ p hp) λy3 h3=>D5 _ (λ_=>no (by decide)) λk3=>?_
 refine K6 (rY p hp) λy1 _=>D5 _ (λ_=>no (by decide)) λ_=>?_
 refine K6 (a84 p hp) λy5 h5=>D5 _ (λ_=>no (by decide)) λk5=>?_
 refine K6 (a4n p hp) λy6 h6=>D5 _ (λ_=>no (by decide)) λk6=>?_
 have hF:=h6 (by simpa using k6);exact K6 (a8q p hp hF) λy1 _=>D5 _ (λ_=>no (by decide)) λ_=>E4 λ_=>⟨⟨h3 (by simpa using k3),h5 (by simpa using k5),hF⟩,hN (by simpa using kN)⟩
theorem Tw:∀(n:Nat) (v:A0),C8 v->SizeOf.sizeOf v<=n->FZ v (V9 n v)
 |0,v,_,h=>by have:=Ao v;omega
 |n+1,v,hv,hn=>by
  obtain⟨_,_,⟨la,pa,sa,ra⟩,hl,hp,hs⟩:=hv.inv;refine zM _ _ ⟨λh=>?_,λh=>?_⟩
  ·rw[TR]at h;rw[V9,h,Bool.true_or]
  rw[TR]at h;rw[V9,h,Bool.false_or];refine Jt (C:=λ(x:A0) b=>FZ x b) (V9 n) v.B4 (λi hw=>yq i v _ hw) la (λx hx=>Tw n x (hl x hx) (by have:=Az hx;omega)) (λh2=>by simp[h2]) (λh2=>?_);rw[h2,Bool.false_or];refine Jt (C:=λ(x:A0 × A0) b=>FZ x.2 b) (λx=>V9 n x.2) v.Pairs (λi hw=>a0m i v _ hw) pa (λx hx=>Tw n x.2 (hp x hx).2 (by have:=AH hx;omega)) (λh3=>by simp[h3]) (λh3=>?_);rw[h3,Bool.or_false];exact Jt (C:=λ(x:Int × A0) b=>FZ x.2 b) (λx=>V9 n x.2) v.Slots (λi hw=>yG i v _ hw) sa (λx hx=>Tw n x.2 (hs x hx) (by have:=BC hx;omega)) (λh1=>h1) (λh1=>h1)
theorem RM:∀(n:Nat) (v:A0),C8 v->SizeOf.sizeOf v<=n->Ff v (V9 n v)
 |0,v,_,h=>by have:=Ao v;omega
 |n+1,v,hv,hn=>by
  obtain⟨_,_,⟨la,pa,sa,ra⟩,hl,hp,hs⟩:=hv.inv;refine b1w _ _ ⟨λh=>?_,λh=>?_⟩
  ·rw[TR]at h;rw[V9,h,Bool.true_or]
  rw[TR]at h;rw[V9,h,Bool.false_or];refine Jt (C:=λ(x:Int × A0) b=>Ff x.2 b) (λx=>V9 n x.2) v.Slots (λi hw=>tw i v _ hw) sa (λx hx=>RM n x.2 (hs x hx) (by have:=BC hx;omega)) (λh1=>by rw[h1,Bool.true_or]) (λh1=>?_);rw[h1,Bool.false_or];refine Jt (C:=λ(x:A0) b=>Ff x b) (V9 n) v.B4 (λi hw=>tA i v _ hw) la (λx hx=>RM n x (hl x hx) (by have:=Az hx;omega)) (λh2=>by rw[h2,Bool.true_or]) (λh2=>?_);rw[h2,Bool.false_or];exact Jt (C:=λ(x:A0 × A0) b=>Ff x.2 b) (λx=>V9 n x.2) v.Pairs (λi hw=>a0v i v _ hw) pa (λx hx=>RM n x.2 (hp x hx).2 (by have:=AH hx;omega)) (λh3=>h3) (λh3=>h3)
theorem Qd{α β:Type}(s:b4c α)(g:α->b4c β)(f:α->Nat)(hg:∀x∈s,(g x).length<=2*f x):(s.flatMap g).length<=2*F3 f s:=by
 induction s with
 |nil=>simp[F3]
 |cons x s ih=>
  have h1:=hg x (by simp);have h2:=ih λy hy=>hg y (by simp[hy])
  simp only[List.flatMap_cons,b39,F3];omega
theorem Lf{α β:Type}{J:Nat->b4c β->Prop}{E:b4c β->Prop}(s:b4c α)(g:α->b4c β)(f:α->Nat)(B:Nat)(step:∀i (hi:i<s.length) acc,acc.length+2*f s[i]<=B->J (i+1) (acc++g s[i])->J i acc)(hg:∀x∈s,(g x).length<=2*f x)(fin:∀acc,E acc->J s.length acc)(acc0:b4c β)(h0:acc0.length+2*F3 f s<=B)(h:E (acc0++s.flatMap g)):J 0 acc0:=by
 have key:∀d i (acc:b4c β),s.length - i<=d->i<=s.length->acc.length+2*F3 f (s.drop i)<=B->E (acc++(s.drop i).flatMap g)->J i acc:=by
  intro d
  induction d with
  |zero=>
   intro i acc hd hi ha hE;have e:i=s.length:=by omega
   subst e;rw[List.drop_length]at hE;exact fin acc (by simpa using hE)
  |succ d ih=>
   intro i acc hd hi ha hE;rcases Nat.lt_or_ge i s.length with hlt|hge
   ·have dl:s.drop i=s[i]::s.drop (i+1):=b32 hlt;rw[dl]at ha hE;simp only[F3]at ha;rw[List.flatMap_cons,<-List.append_assoc]at hE;have:=hg _ (List.getElem_mem hlt);exact step i hlt acc (by omega) (ih (i+1) _ (by omega) (by omega) (by simp;omega) hE)
   ·have e:i=s.length:=by omega
    subst e;rw[List.drop_length]at hE;exact fin acc (by simpa using hE)
 exact key s.length 0 acc0 (by omega) (by omega) (by simpa using h0) (by simpa using h)
abbrev Ln:=b4c (Nat × b4b)
abbrev ZE:=Int->A0->Ln
abbrev Uj:=Int->A0->b4c E5
def Aa(M:ZE)(p:A5)(o:B0)(name:b4b)(v:A0):Ln:=
 if o.Kind≠10 then [(0,(name++⟨#[58,32]⟩)++Aq p o v)] else(0,name++⟨#[32,123]⟩)::((M o.Target v).map (λx=>(x.1+1,x.2))++[(0,⟨#[125]⟩)])
def Z3(M:Uj)(p:A5)(o:B0)(name:b4b)(v:A0):b4c E5:=
 if o.Kind≠10 then [E5.EC ⟨name,Aq p o v⟩] else E5.Dy ⟨name⟩::(M o.Target v++[E5.Dx ⟨⟩])
def Eg(o:B0)(k:A0):b4b:=((o.Name++⟨#[91]⟩)++CE k)++⟨#[93]⟩
def P3{β:Type}(el:B0->b4b->A0->b4c β)(g:C2)(x:Int × A0):b4c β:=
 if(B5 g x.1).1.D6=4 then x.2.B4.flatMap (λy=>el (B5 g x.1).1 (B5 g x.1).1.Name y)
 else if(B5 g x.1).1.D6=5 then x.2.Pairs.flatMap (λy=>el (B5 g x.1).1 (Eg (B5 g x.1).1 y.1) y.2)
 else el (B5 g x.1).1 (B5 g x.1).1.Name x.2
def N4(p:A5):Nat->ZE
 |0,_,_=>[]
 |n+1,t,v=>match p.A7[t.toNat]? with
  |some g=>v.Slots.flatMap (P3 (Aa (N4 p n) p) g)
  |none=>[]
def N5(p:A5):Nat->Uj
 |0,_,_=>[]
 |n+1,t,v=>match p.A7[t.toNat]? with
  |some g=>v.Slots.flatMap (P3 (Z3 (N5 p n) p) g)
  |none=>[]
theorem Ui{β:Type}(el:B0->b4b->A0->b4c β)(g:C2)(x:Int × A0)(h:∀o s y,(el o s y).length<=2*nV y):(P3 el g x).length<=2*nV x.2:=by
 have e:=W8 x.2;unfold P3;split
 ·have:=Qd x.2.B4 (λy=>el (B5 g x.1).1 (B5 g x.1).1.Name y) nV λy _=>h _ _ y
  omega
 split
 ·have:=Qd x.2.Pairs (λy=>el (B5 g x.1).1 (Eg (B5 g x.1).1 y.1) y.2) nP λy _=>by have:=h (B5 g x.1).1 (Eg (B5 g x.1).1 y.1) y.2;simp only[nP];omega
  omega
 ·exact h _ _ _
theorem Sd(p:A5):∀(n:Nat) (t:Int) (v:A0),(N4 p n t v).length+2<=2*nV v
 |0,t,v=>by have:=EM v;simp only[N4,List.length_nil];omega
 |n+1,t,v=>by
  have e:=W8 v;simp only[N4];split
  ·rename_i g _
   have:=Qd v.Slots (P3 (Aa (N4 p n) p) g) nS λx _=>Ui _ g x λo s y=>by
    have:=Sd p n o.Target y;unfold Aa;split
    ·have:=EM y;simp only[List.length_singleton];omega
    ·simp only[List.length_cons,b39,List.length_map,List.length_nil];omega
   omega
  ·simp only[List.length_nil];omega
theorem UC(p:A5):∀(n:Nat) (t:Int) (v:A0),(N5 p n t v).length+2<=2*nV v
 |0,t,v=>by have:=EM v;simp only[N5,List.length_nil];omega
 |n+1,t,v=>by
  have e:=W8 v;simp only[N5];split
  ·rename_i g _
   have:=Qd v.Slots (P3 (Z3 (N5 p n) p) g) nS λx _=>Ui _ g x λo s y=>by
    have:=UC p n o.Target y;unfold Z3;split
    ·have:=EM y;simp only[List.length_singleton];omega
    ·simp only[List.length_cons,b39,List.length_nil];omega
   omega
  ·simp only[List.length_nil];omega
theorem a05(p:A5)(n:Nat)(o:B0)(s:b4b)(y:A0):(Aa (N4 p n) p o s y).length<=2*nV y:=by
 have:=Sd p n o.Target y;unfold Aa;split
 ·have:=EM y;simp only[List.length_singleton];omega
 ·simp only[List.length_cons,b39,List.length_map,List.length_nil];omega
theorem cr(p:A5)(n:Nat)(o:B0)(s:b4b)(y:A0):(Z3 (N5 p n) p o s y).length<=2*nV y:=by
 have:=UC p n o.Target y;unfold Z3;split
 ·have:=EM y;simp only[List.length_singleton];omega
 ·simp only[List.length_cons,b39,List.length_nil];omega
def Lk(s:b4b):Prop:=1<=s.size/\s.size<=70000/\E2 s 0≠32
theorem JC(a b:b4b)(h:1<=a.size):E2 (a++b) 0=E2 a 0:=by
 unfold E2;have h:0<a.data.toList.length:=h;rw[ByteArray.data_append,Array.toList_append,List.getD_eq_getElem?_getD,List.getD_eq_getElem?_getD,b3z h]
theorem IC(a b:b4b)(h:a.size=0):a++b=b:=by
 obtain⟨x⟩:=a;have h:x.size=0:=h;have:x=#[]:=Array.eq_empty_of_size_eq_zero h;subst this;apply ByteArray.ext;simp[ByteArray.data_append]
def NE(o:B0)(s:b4b):Prop:=s.size<=33000/\((1<=s.size/\E2 s 0≠32)\/(s.size=0/\o.Kind≠10))
theorem cC(p:A5)(hn:BE p)(o:B0)(v:A0)(hv:AZ v):(Aq p o v).size<=33000:=by
 have h:=Ls v hv;unfold Aq;split
 ·decide
 split
 ·omega
 split
 ·rename_i q;have hm:=me _ q;generalize Bc v.Bits (Eh p o.Target)=w at*;unfold Eh at hm;split at hm
  ·cases hm
  ·rename_i h0;have hlt:o.Target.toNat<p.C3.length:=by omega
   rw[b3y hlt]at hm;have:=(hn.items _ (List.getElem_mem hlt) _ hm).2.1;omega
 ·rw[H5,show(⟨#[35]⟩:b4b).size=1 from rfl];omega
theorem Zk{p:A5}(hn:BE p){g:C2}(hg:g∈p.A7)(num:Int):((B5 g num).2=true/\Nm (B5 g num).1.Name)\/(B5 g num).1=QP:=by
 cases h:(B5 g num).2 with
 |true=>exact .inl ⟨rfl,hn.ops g hg _ (IL h).2⟩
 |false=>exact .inr (Wy h)
theorem lH{p:A5}(hn:BE p){g:C2}(hg:g∈p.A7)(num:Int):NE (B5 g num).1 (B5 g num).1.Name:=by
 rcases Zk hn hg num with⟨_,h1,h2,h3⟩|h
 ·exact⟨by omega,.inl ⟨h1,h3⟩⟩
 ·rw[h];exact⟨by decide,.inr ⟨rfl,by decide⟩⟩
theorem p9{p:A5}(hn:BE p){g:C2}(hg:g∈p.A7)(num:Int)(k:A0)(hk:AZ k):NE (B5 g num).1 (Eg (B5 g num).1 k):=by
 have z:=Ls k hk
 have q:∀s:b4b,s.size<=40->(1<=s.size->E2 s 0≠32)->(((s++⟨#[91]⟩)++CE k)++⟨#[93]⟩:b4b).size<=33000/\(1<=(((s++⟨#[91]⟩)++CE k)++⟨#[93]⟩:b4b).size/\E2 (((s++⟨#[91]⟩)++CE k)++⟨#[93]⟩) 0≠32):=by
  intro s h1 h2;have e1:(⟨#[91]⟩:b4b).size=1:=rfl;have e2:(⟨#[93]⟩:b4b).size=1:=rfl;refine⟨by simp only[H5];omega,by simp only[H5];omega,?_⟩;rw[JC _ _ (by simp only[H5];omega),JC _ _ (by simp only[H5];omega)]
  by_cases hs:s.size=0
  ·rw[IC _ _ hs];decide
  ·rw[JC _ _ (by omega)];exact h2 (by omega)
 rcases Zk hn hg num with⟨_,h1,h2,h3⟩|h
 ·obtain⟨a,b⟩:=q _ h2 λ_=>h3
  exact⟨a,.inl b⟩
 ·obtain⟨a,b⟩:=q (B5 g num).1.Name (by rw[h];decide) (by rw[h];decide);exact⟨a,.inl b⟩
theorem iw{β:Type}{el:B0->b4b->A0->b4c β}{p:A5}(hn:BE p){g:C2}(hg:g∈p.A7){v:A0}(hv:C8 v){x:Int × A0}(hx:x∈v.Slots){R:β->Prop}(h:∀o s y,C8 y->nV y+1<=nV v->NE o s->∀z∈el o s y,R z):∀z∈P3 el g x,R z:=by
 have e:=W8 v;have e1:=Js nS hx;simp only[nS]at e1;obtain⟨m1,m2,_⟩:=ae x.2;obtain⟨_,_,_,_,_,hs⟩:=hv.inv;obtain⟨_,_,_,hl,hps,_⟩:=(hs x hx).inv;intro z hz;unfold P3 at hz;split at hz
 ·obtain⟨y,hy,hz⟩:=List.mem_flatMap.1 hz;have:=m1 y hy;exact h _ _ y (hl y hy) (by omega) (lH hn hg _) z hz
 split at hz
 ·obtain⟨y,hy,hz⟩:=List.mem_flatMap.1 hz;have:=m2 y hy;have k0:=EM y.1;exact h _ _ y.2 (hps y hy).2 (by omega) (p9 hn hg _ _ (hps y hy).1.okv) z hz
 ·exact h _ _ x.2 (hs x hx) (by omega) (lH hn hg _) z hz
theorem Xn{p:A5}(hn:BE p):∀(n:Nat) (t:Int) (v:A0),C8 v->∀x∈N4 p n t v,x.1+2<=nV v/\Lk x.2
 |0,t,v,_,x,hx=>by cases hx
 |n+1,t,v,hv,x,hx=>by
  simp only[N4]at hx;split at hx
  ·rename_i g hgt;obtain⟨s,hs,hx⟩:=List.mem_flatMap.1 hx;refine iw (R:=λx=>x.1+2<=nV v/\Lk x.2) hn (b36 hgt) hv hs (λo s y hy hn1 hne z hz=>?_) x hx;have hp:=EM y;have sz:=cC p hn o y hy.okv;have e1:(⟨#[58,32]⟩:b4b).size=2:=rfl;have e2:(⟨#[32,123]⟩:b4b).size=2:=rfl;obtain⟨n1,n2⟩:=hne;unfold Aa at hz;split at hz
   ·rename_i hk;have:=List.mem_singleton.1 hz;subst this;refine⟨by show 0+2<=_;omega,by simp only[H5];omega,by simp only[H5];omega,?_⟩;simp only;rw[JC _ _ (by simp only[H5];omega)];rcases n2 with n2|n2
    ·rw[JC _ _ n2.1];exact n2.2
    ·rw[IC _ _ n2.1];decide
   ·rename_i hk;have hk:o.Kind=10:=Classical.not_not.1 hk;rcases List.mem_cons.1 hz with hz|hz
    ·subst hz;refine⟨by show 0+2<=_;omega,by simp only[H5];omega,by simp only[H5];omega,?_⟩;simp only;rcases n2 with n2|n2
     ·rw[JC _ _ n2.1];exact n2.2
     ·exact absurd hk n2.2
    rcases List.mem_append.1 hz with hz|hz
    ·obtain⟨w,hw,rfl⟩:=List.mem_map.1 hz;have:=Xn hn n _ y hy w hw;exact⟨by show w.1+1+2<=_;omega,this.2⟩
    ·have:=List.mem_singleton.1 hz;subst this;exact⟨by show 0+2<=_;omega,by decide,by decide,by decide⟩
  ·cases hx
section
variable {p:A5}(hp:Ay p) (hn:BE p) (mg:Int)
 include hp hn
theorem gJ:∀g∈p.C3,g.Items.length<=140737488351232:=λg hg=>C5 (hp.pl.enums g hg).ni
theorem jl{g:C2}(hg:g∈p.A7)(num:Int):(B5 g num).1.Name.size<=40:=by
 rcases Zk hn hg num with⟨_,_,h,_⟩|h
 ·exact h
 ·rw[h];decide
def jr(n:Nat)(p:A5)(mg:Int)(M:Uj):Prop:=∀t g v (L:b4c E5),p.A7[t.toNat]? =some g->0<=t->C8 v->SizeOf.sizeOf v<=n->L.length+2*nV v<=100002->Vu mg ⟨p,L⟩ t v ⟨p,L++M t v⟩
theorem Wu{n:Nat}{M:Uj}(hM:jr n p mg M)(hL:∀t v,(M t v).length+2<=2*nV v)(o:B0)(ho:Iu p o)(s:b4b)(v:A0)(hv:C8 v)(hs:SizeOf.sizeOf v<=n)(L:b4c E5)(hb:L.length+2*nV v<=100000):Pb mg ⟨p,L⟩ o s v ⟨p,L++Z3 M p o s v⟩:=by
 have hpos:=EM v;refine d5 _ _ _ _ _ _ ⟨λh=>⟨_,uJ mg p (gJ hp hn) o v hv.okv,?_,?_⟩,λh=>?_⟩
 ·simp;omega
 ·rw[Z3,if_pos (by simpa using h)]
 ·have hk:o.Kind=10:=by simpa using h
  obtain⟨g,hg,t0⟩:=ho hk;have:=hL o.Target v;refine⟨by simp;omega,_,hM o.Target g v _ hg t0 hv hs (by simp;omega),?_,?_⟩
  ·simp;omega
  ·rw[Z3,if_neg (by rw[hk];decide)];simp
theorem qh:∀n,jr n p mg (N5 p n)
 |0,t,g,v,L,_,_,_,hs,_=>by have:=Ao v;omega
 |n+1,t,g,v,L,hgt,t0,hv,hs,hb=>by
  have hg:g∈p.A7:=b36 hgt;have e:=W8 v;obtain⟨_,_,⟨la,pa,sa,ra⟩,hl,hps,hsl⟩:=hv.inv;have b3:=C5 sa;have hM:=qh n;have hL:=UC p n;refine d8 _ _ _ _ _ ?_;have e2:N5 p (n+1) t v=v.Slots.flatMap (P3 (Z3 (N5 p n) p) g):=by simp only[N5,hgt]
  rw[e2];refine Lf (J:=λi acc=>Gs i v t p.A7 p.C3 acc mg ⟨p,L++v.Slots.flatMap (P3 (Z3 (N5 p n) p) g)⟩) (E:=λacc=>acc=L++v.Slots.flatMap (P3 (Z3 (N5 p n) p) g)) v.Slots (P3 (Z3 (N5 p n) p) g) nS 100000 (λi hi acc ha hj=>?_) (λx _=>Ui _ g x λo s y=>cr p n o s y) (λacc he=>?_) L (by omega) rfl
  ·have hx:=List.getElem_mem hi;have hvx:=hsl _ hx;have ex:=W8 v.Slots[i].2;simp only[nS]at ha;obtain⟨_,_,⟨la2,pa2,sa2,ra2⟩,hl2,hps2,_⟩:=hvx.inv;have c1:=C5 la2;have c2:=C5 pa2;have e1:wI ((i:Int)+1)=((i+1:Nat):Int):=by rw[wI,C0 (by omega)];omega
   have hop:=NQ g (hp.ops hg) v.Slots[i].1;have hoG:=Zs hp hg v.Slots[i].1;have hnm:=jl hp hn hg v.Slots[i].1;have zz:=BC hx;refine iV _ _ _ _ _ _ _ _ ⟨λ_=>⟨v.Slots[i],by simp,by omega,g,hgt,t0,_,hop,λh=>?_,λh=>⟨λh5=>?_,λh5=>⟨_,Wu hp hn mg hM hL _ hoG _ _ hvx (by omega) acc (by omega),?_⟩⟩⟩,λh=>absurd (of_decide_eq_false h) (by omega)⟩
   ·have h4:(B5 g v.Slots[i].1).1.D6=4:=by simpa using h
    rw[P3,if_pos h4]at hj;refine Lf (J:=λk acc=>Rg k v.Slots[i] i v t p.A7 p.C3 acc (B5 g v.Slots[i].1) mg ⟨p,L++v.Slots.flatMap (P3 (Z3 (N5 p n) p) g)⟩) (E:=λacc=>Gs ((i+1:Nat):Int) v t p.A7 p.C3 acc mg ⟨p,L++v.Slots.flatMap (P3 (Z3 (N5 p n) p) g)⟩) v.Slots[i].2.B4 (λy=>Z3 (N5 p n) p (B5 g v.Slots[i].1).1 (B5 g v.Slots[i].1).1.Name y) nV 100000 (λk hk acc ha hj=>?_) (λx _=>cr p n _ _ x) (λacc he=>?_) acc (by omega) hj
    ·have e3:wI ((k:Int)+1)=((k+1:Nat):Int):=by rw[wI,C0 (by omega)];omega
     have hy:=List.getElem_mem hk;refine pE _ _ _ _ _ _ _ _ _ _ _ ⟨λ_=>⟨v.Slots[i].2.B4[k],by simp,by omega,_,Wu hp hn mg hM hL _ hoG _ _ (hl2 _ hy) (by have:=Az hy;omega) acc ha,?_⟩,λh=>absurd (of_decide_eq_false h) (by omega)⟩;rw[e3];exact hj
    ·refine pE _ _ _ _ _ _ _ _ _ _ _ ⟨λh=>absurd (of_decide_eq_true h) (by omega),λ_=>?_⟩;rw[e1];exact he
   ·have h4:¬(B5 g v.Slots[i].1).1.D6=4:=by simpa using h
    have h5:(B5 g v.Slots[i].1).1.D6=5:=by simpa using h5
    rw[P3,if_neg h4,if_pos h5]at hj;refine Lf (J:=λk acc=>Qv k v.Slots[i] i v t p.A7 p.C3 acc (B5 g v.Slots[i].1) mg ⟨p,L++v.Slots.flatMap (P3 (Z3 (N5 p n) p) g)⟩) (E:=λacc=>Gs ((i+1:Nat):Int) v t p.A7 p.C3 acc mg ⟨p,L++v.Slots.flatMap (P3 (Z3 (N5 p n) p) g)⟩) v.Slots[i].2.Pairs (λy=>Z3 (N5 p n) p (B5 g v.Slots[i].1).1 (Eg (B5 g v.Slots[i].1).1 y.1) y.2) nP 100000 (λk hk acc ha hj=>?_) (λx _=>by have:=cr p n (B5 g v.Slots[i].1).1 (Eg (B5 g v.Slots[i].1).1 x.1) x.2;simp only[nP];omega) (λacc he=>?_) acc (by omega) hj
    ·have e3:wI ((k:Int)+1)=((k+1:Nat):Int):=by rw[wI,C0 (by omega)];omega
     have hy:=List.getElem_mem hk;have tz:=Ls _ (hps2 _ hy).1.okv;have q1:(⟨#[91]⟩:b4b).size=1:=rfl;have q2:(⟨#[93]⟩:b4b).size=1:=rfl;simp only[nP]at ha;refine pA _ _ _ _ _ _ _ _ _ _ _ ⟨λ_=>⟨v.Slots[i].2.Pairs[k],by simp,by omega,by omega,_,Yg mg _ (hps2 _ hy).1.okv,by simp only[H5];omega,by simp only[H5];omega,_,Wu hp hn mg hM hL _ hoG _ _ (hps2 _ hy).2 (by have:=AH hy;omega) acc (by omega),?_⟩,λh=>absurd (of_decide_eq_false h) (by omega)⟩;rw[e3];exact hj
    ·refine pA _ _ _ _ _ _ _ _ _ _ _ ⟨λh=>absurd (of_decide_eq_true h) (by omega),λ_=>?_⟩;rw[e1];exact he
   ·rw[e1];rw[P3,if_neg (by simpa using h),if_neg (by simpa using h5)]at hj;exact hj
  ·refine iV _ _ _ _ _ _ _ _ ⟨λh=>absurd (of_decide_eq_true h) (by omega),λ_=>by rw[he]⟩
end
def ren(x:Nat × b4b):b4b:=bR (2*x.1) 32++x.2
theorem kH(x:Nat × b4b):(⟨#[32,32]⟩:b4b)++ren x=ren (x.1+1,x.2):=by
 unfold ren;rw[<-CF]
 congr 1
theorem fh(l:Ln)(k:Nat)(h:k<l.length):(l.map ren)[((k:Nat):Int).toNat]? =some (ren l[k]):=by
 rw[Int.toNat_natCast,b31,b3y h];rfl
theorem XT(s:b4b):ren (0,s)=s:=by
 unfold ren;exact IC _ _ (AF _ _)
theorem ow{x:Nat × b4b}{m:Nat}(h:x.1+2<=m/\Lk x.2):(ren x).size<=2*m+70000:=by
 unfold ren;have:=h.2.2.1;rw[H5,AF];omega
section
variable {p:A5}(hp:Ay p) (hn:BE p)
 include hp hn
def jb(n:Nat)(p:A5)(M:ZE):Prop:=∀t g v,p.A7[t.toNat]? =some g->0<=t->C8 v->SizeOf.sizeOf v<=n->nV v<=40000->Vr p t v ((M t v).map ren)
theorem cT{n:Nat}(hM:jb n p (N4 p n))(o:B0)(ho:Iu p o)(s:b4b)(hsz:s.size<=33000)(v:A0)(hv:C8 v)(hs:SizeOf.sizeOf v<=n)(hb:nV v<=40000):NS p o s v ((Aa (N4 p n) p o s v).map ren):=by
 have hpos:=EM v;have q1:(⟨#[58,32]⟩:b4b).size=2:=rfl;have q2:(⟨#[32,123]⟩:b4b).size=2:=rfl;have q3:(⟨#[32,32]⟩:b4b).size=2:=rfl;have sz:=cC p hn o v hv.okv;refine ta _ _ _ _ _ ⟨λh=>⟨by omega,_,rZ p (gJ hp hn) o v hv.okv,by simp only[H5];omega,?_⟩,λh=>⟨by omega,?_⟩⟩
 ·rw[Aa,if_pos (by simpa using h)];simp only[List.map_cons,List.map_nil,XT]
 ·have hk:o.Kind=10:=by simpa using h
  obtain⟨g,hg,t0⟩:=ho hk;have hl:=Sd p n o.Target v;have ha:=Xn hn n o.Target v hv;rw[Aa,if_neg (by rw[hk];decide)];refine⟨_,hM o.Target g v hg t0 hv hs hb,?_⟩;generalize N4 p n o.Target v=l at hl ha
  have cl:∀(k:Nat) (acc:b4c b4b),k<=l.length->acc.length+(l.length - k)<=100000->QE k acc (l.map ren) (acc++((l.drop k).map (λx=>ren (x.1+1,x.2))++[⟨#[125]⟩])):=by
   intro k
   have key:∀(d k:Nat) (acc:b4c b4b),l.length - k=d->k<=l.length->acc.length+(l.length - k)<=100000->QE k acc (l.map ren) (acc++((l.drop k).map (λx=>ren (x.1+1,x.2))++[⟨#[125]⟩])):=by
    intro d
    induction d with
    |zero=>
     intro k acc hd hk2 hac;refine mo _ _ _ _ ⟨λh=>absurd (of_decide_eq_true h) (by simp;omega),λ_=>⟨by simp;omega,?_⟩⟩;rw[b33 (by omega)];simp
    |succ d ih=>
     intro k acc hd hk2 hac;have hlt:k<l.length:=by omega
     have e1:wI ((k:Int)+1)=((k+1:Nat):Int):=by rw[wI,C0 (by omega)];omega
     have hz:=ow (ha _ (List.getElem_mem hlt));refine mo _ _ _ _ ⟨λ_=>⟨ren l[k],fh l k hlt,by omega,by omega,by simp;omega,?_⟩,λh=>absurd (of_decide_eq_false h) (by simp;omega)⟩;rw[e1,kH,b32 hlt,List.map_cons];have:=ih (k+1) (acc++[ren (l[k].1+1,l[k].2)]) (by omega) (by omega) (by simp;omega);simpa using this
   exact λacc=>key _ k acc rfl
  refine sH _ _ _ ⟨λh=>?_,λh=>?_⟩
  ·have h0:0<l.length:=by simpa using of_decide_eq_true h
   have hz:=ow (ha _ (List.getElem_mem h0));refine⟨ren l[0],fh l 0 h0,by omega,by omega,by simp,by simp,?_⟩;have:=cl 1 ([s++⟨#[32,123]⟩]++[(⟨#[32,32]⟩:b4b)++ren l[0]]) (by omega) (by simp;omega);rw[kH]at this ⊢
   have e:l=l[0]::l.drop 1:=by
    have:=b32 h0;simpa using this
   have e2:((0,s++⟨#[32,123]⟩)::(l.map (λx=>(x.1+1,x.2))++[(0,(⟨#[125]⟩:b4b))])).map ren=[s++⟨#[32,123]⟩]++[ren (l[0].1+1,l[0].2)]++((l.drop 1).map (λx=>ren (x.1+1,x.2))++[⟨#[125]⟩]):=by
    conv=>lhs;rw[e]
    simp[XT,Function.comp_def]
   rw[e2];exact this
  ·have h0:l=[]:=by
    have:¬0<l.length:=by simpa using of_decide_eq_false h
    exact List.eq_nil_of_length_eq_zero (by omega)
   refine⟨by simp,by simp,?_⟩;rw[h0];simp[XT]
theorem jx:∀n,jb n p (N4 p n)
 |0,t,g,v,_,_,_,hs,_=>by have:=Ao v;omega
 |n+1,t,g,v,hgt,t0,hv,hs,hb=>by
  have hg:g∈p.A7:=b36 hgt;have e:=W8 v;obtain⟨_,_,⟨la,pa,sa,ra⟩,hl,hps,hsl⟩:=hv.inv;have b3:=C5 sa;have hM:=jx n;refine a73 _ _ _ _ ?_;have e2:N4 p (n+1) t v=v.Slots.flatMap (P3 (Aa (N4 p n) p) g):=by simp only[N4,hgt]
  have mp:∀x,(P3 (Aa (N4 p n) p) g x).map ren=P3 (λo s y=>(Aa (N4 p n) p o s y).map ren) g x:=by
   intro x;unfold P3;split
   ·rw[List.map_flatMap]
   split
   ·rw[List.map_flatMap]
   ·rfl
  have lr:∀o s y,((Aa (N4 p n) p o s y).map ren).length<=2*nV y:=λo s y=>by rw[List.length_map];exact a05 p n o s y
  rw[e2,List.map_flatMap];simp only[mp];generalize hR:v.Slots.flatMap (λx=>P3 (λo s y=>(Aa (N4 p n) p o s y).map ren) g x)=R;refine Lf (J:=λi acc=>HN i acc t p v R) (E:=λacc=>acc=R) v.Slots (P3 (λo s y=>(Aa (N4 p n) p o s y).map ren) g) nS 100000 (λi hi acc ha hj=>?_) (λx _=>Ui _ g x lr) (λacc he=>?_) [] (by simp;omega) (by rw[List.nil_append];exact hR)
  ·have hx:=List.getElem_mem hi;have hvx:=hsl _ hx;have ex:=W8 v.Slots[i].2;have nm:=(ae v).2.2 _ hx;simp only[nS]at ha;obtain⟨_,_,⟨la2,pa2,sa2,ra2⟩,hl2,hps2,_⟩:=hvx.inv;obtain⟨m1,m2,_⟩:=ae v.Slots[i].2;have c1:=C5 la2;have c2:=C5 pa2;have e1:wI ((i:Int)+1)=((i+1:Nat):Int):=by rw[wI,C0 (by omega)];omega
   have hop:=Ms g (hp.ops hg) v.Slots[i].1;have hoG:=Zs hp hg v.Slots[i].1;have hnm:=jl hp hn hg v.Slots[i].1;have zz:=BC hx;refine nC _ _ _ _ _ _ ⟨λ_=>⟨g,hgt,t0,v.Slots[i],by simp,by omega,_,hop,v.Slots[i],by simp,by omega,λh=>?_,λh=>⟨λh5=>?_,λh5=>⟨_,cT hp hn hM _ hoG _ (by omega) _ hvx (by omega) (by omega),?_,?_⟩⟩⟩,λh=>absurd (of_decide_eq_false h) (by omega)⟩
   ·have h4:(B5 g v.Slots[i].1).1.D6=4:=by simpa using h
    rw[P3,if_pos h4]at hj;refine Lf (J:=λk acc=>SR k i acc t p v (B5 g v.Slots[i].1) v.Slots[i] R) (E:=λacc=>HN ((i+1:Nat):Int) acc t p v R) v.Slots[i].2.B4 (λy=>(Aa (N4 p n) p (B5 g v.Slots[i].1).1 (B5 g v.Slots[i].1).1.Name y).map ren) nV 100000 (λk hk acc ha hj=>?_) (λx _=>lr _ _ x) (λacc he=>?_) acc (by omega) hj
    ·have e3:wI ((k:Int)+1)=((k+1:Nat):Int):=by rw[wI,C0 (by omega)];omega
     have hy:=List.getElem_mem hk;have:=m1 _ hy;have l1:=lr (B5 g v.Slots[i].1).1 (B5 g v.Slots[i].1).1.Name v.Slots[i].2.B4[k];refine mZ _ _ _ _ _ _ _ _ _ ⟨λ_=>⟨v.Slots[i].2.B4[k],by simp,by omega,_,cT hp hn hM _ hoG _ (by omega) _ (hl2 _ hy) (by have:=Az hy;omega) (by omega),by omega,?_⟩,λh=>absurd (of_decide_eq_false h) (by omega)⟩;rw[e3];exact hj
    ·refine mZ _ _ _ _ _ _ _ _ _ ⟨λh=>absurd (of_decide_eq_true h) (by omega),λ_=>?_⟩;rw[e1];exact he
   ·have h4:¬(B5 g v.Slots[i].1).1.D6=4:=by simpa using h
    have h5:(B5 g v.Slots[i].1).1.D6=5:=by simpa using h5
    rw[P3,if_neg h4,if_pos h5]at hj;refine Lf (J:=λk acc=>TK k i acc t p v (B5 g v.Slots[i].1) v.Slots[i] R) (E:=λacc=>HN ((i+1:Nat):Int) acc t p v R) v.Slots[i].2.Pairs (λy=>(Aa (N4 p n) p (B5 g v.Slots[i].1).1 (Eg (B5 g v.Slots[i].1).1 y.1) y.2).map ren) nP 100000 (λk hk acc ha hj=>?_) (λx _=>by have:=lr (B5 g v.Slots[i].1).1 (Eg (B5 g v.Slots[i].1).1 x.1) x.2;simp only[nP];omega) (λacc he=>?_) acc (by omega) hj
    ·have e3:wI ((k:Int)+1)=((k+1:Nat):Int):=by rw[wI,C0 (by omega)];omega
     have hy:=List.getElem_mem hk;have:=m2 _ hy;have l1:=lr (B5 g v.Slots[i].1).1 (Eg (B5 g v.Slots[i].1).1 v.Slots[i].2.Pairs[k].1) v.Slots[i].2.Pairs[k].2;have tz:=Ls _ (hps2 _ hy).1.okv;have q1:(⟨#[91]⟩:b4b).size=1:=rfl;have q2:(⟨#[93]⟩:b4b).size=1:=rfl;simp only[nP]at ha;refine pj _ _ _ _ _ _ _ _ _ ⟨λ_=>⟨by omega,v.Slots[i].2.Pairs[k],by simp,by omega,_,XC _ (hps2 _ hy).1.okv,by simp only[H5];omega,by simp only[H5];omega,v.Slots[i].2.Pairs[k],by simp,by omega,_,cT hp hn hM _ hoG _ (by simp only[H5];omega) _ (hps2 _ hy).2 (by have:=AH hy;omega) (by omega),?_,?_⟩,λh=>absurd (of_decide_eq_false h) (by omega)⟩
     ·unfold Eg at l1;omega
     ·rw[e3];exact hj
    ·refine pj _ _ _ _ _ _ _ _ _ ⟨λh=>absurd (of_decide_eq_true h) (by omega),λ_=>?_⟩;rw[e1];exact he
   ·have l1:=lr (B5 g v.Slots[i].1).1 (B5 g v.Slots[i].1).1.Name v.Slots[i].2;omega
   ·rw[e1];rw[P3,if_neg (by simpa using h),if_neg (by simpa using h5)]at hj;exact hj
  ·refine nC _ _ _ _ _ _ ⟨λh=>absurd (of_decide_eq_true h) (by omega),λ_=>by rw[he]⟩
end
theorem wQ(n:Nat)(hn:n<4097):Oy 2 (n:Int) (0,((2*n:Nat):Int)):=by
 refine Wr _ _ _ ⟨(0,((2*n:Nat):Int)),Yx _ _ _ ?_,rfl⟩;revert n;decide+kernel
theorem mX(m k:Nat)(b:UInt8):bR m b++bR k b=bR (m+k) b:=by
 apply ByteArray.ext;rw[ByteArray.data_append];show(List.replicate m b).toArray++(List.replicate k b).toArray=(List.replicate (m+k) b).toArray;rw[List.append_toArray,List.replicate_append_replicate]
theorem a2r(hi:Int)(N:Nat)(hN:N<=8192):∀d m:Nat,N - m<=d->1<=m->m<=N->OQ (N:Int) (hi,(N:Int)) (bR m 32) (bR N 32):=by
 have w:wI (N:Int)=N:=by rw[wI,C0 (by omega)]
 intro d
 induction d with
 |zero=>
  intro m hd h1 h2;have:m=N:=by omega
  subst this;refine gf _ _ _ _ ⟨λh=>?_,λ_=>⟨by rw[AF];omega,rfl⟩⟩;have:=of_decide_eq_true h;simp only[EJ,AF]at this;omega
 |succ d ih=>
  intro m hd h1 h2;refine gf _ _ _ _ ⟨λh=>?_,λh=>⟨by rw[AF];omega,?_⟩⟩
  ·have hlt:=of_decide_eq_true h;simp only[EJ,AF]at hlt ⊢;simp only[w]at hlt ⊢;have w2:wI ((N:Int) - (m:Int))=((N - m:Nat):Int):=by rw[wI,C0 (by omega)];omega
   rw[w2];have em:min (min ((N - m:Nat):Int) (m:Int)) (N:Int)=((min (N - m) m:Nat):Int):=by omega
   rw[em,Int.toNat_natCast];have ec:(bR m 32).extract (0:Int).toNat (min (N - m) m)=bR (min (N - m) m) 32:=Za m _ 32 (by omega);rw[ec];have hz:(bR m 32).size=m:=by rw[AF]
   refine⟨by omega,⟨by omega,by omega,by omega⟩,by rw[AF];omega,?_⟩;rw[mX];exact ih _ (by omega) (by omega) (by omega)
  ·have hge:=of_decide_eq_false h;simp only[EJ,AF]at hge;have:m=N:=by omega
   rw[this]
theorem zg(n:Nat)(hn:n<=4096):MT ⟨#[32,32]⟩ (n:Int) (bR (2*n) 32):=by
 rcases Nat.lt_or_ge 64 n with hbig|hsm
 rotate_left
 ·exact a29 n hsm
 have w:wU (n:Int)=n:=by rw[wU,DO (by omega)]
 have w2:wI (((2*n:Nat):Int))=((2*n:Nat):Int):=by rw[wI,C0 (by omega)]
 have w3:wI (0+((2*n:Nat):Int))=((2*n:Nat):Int):=by rw[wI,C0 (by omega)];omega
 have e0:(⟨#[]⟩:b4b)++⟨#[32,32]⟩=bR 2 32:=by decide
 refine Wt _ _ _ ⟨λh=>?_,λh=>⟨λh1=>?_,λh1=>⟨λh2=>?_,λh2=>⟨(0,((2*n:Nat):Int)),?_,λh3=>?_,λh3=>⟨λh4=>(by cases h4),λh4=>⟨⟨by decide,by decide⟩,λh5=>?_,λh5=>(by cases h5)⟩⟩⟩⟩⟩⟩
 ·have:n=0:=by simp only[beq_iff_eq]at h;omega
  omega
 ·have:n=1:=by simp only[beq_iff_eq]at h1;omega
  omega
 ·have:=of_decide_eq_true h2;omega
 ·rw[w];exact wQ n (by omega)
 ·simp only[Bool.or_eq_true,b3v]at h3;omega
 ·have big:∀k:Nat,k<=128->decide (wI (((0:Int),((2*n:Nat):Int)).2)<=(k:Int))=false:=λk hk=>by
   simp only;rw[w2];exact decide_eq_false (by omega)
  have b128:=big 128 (Nat.le_refl _);have b64:=big 64 (by decide);have no:∀{q:Prop},decide (wI (((0:Int),((2*n:Nat):Int)).2)<=128)->q:=λh=>by rw[show(128:Int)=((128:Nat):Int) from rfl,b128]at h;cases h
  have no2:∀{q:Prop},decide (wI (((0:Int),((2*n:Nat):Int)).2)<=64)->q:=λh=>by rw[show(64:Int)=((64:Nat):Int) from rfl,b64]at h;cases h
  have f:∀{z:b4e}{q:Prop},z=false->z=true->q:=λa b=>by rw[a]at b;cases b
  refine aR _ _ _ _ ⟨λ_=>⟨λz=>z=false,λz hz=>⟨f hz,λ_=>⟨λz=>z=false,λz hz=>⟨f hz,λ_=>⟨λz=>z=false,λz hz=>⟨f hz,λ_=>⟨λz=>z=false,λz hz=>⟨f hz,λ_=>⟨λz=>z=false,λz hz=>⟨f hz,λ_=>⟨λh9=>?_,λ_=>?_⟩⟩,no2,λ_=>rfl⟩⟩,no,λ_=>rfl⟩⟩,no2,λ_=>rfl⟩⟩,no,λ_=>rfl⟩⟩,no,λ_=>rfl⟩,λh=>(by cases h)⟩
  ·simp only at h9;rw[w2]at h9;have:=of_decide_eq_true h9;omega
  ·simp only;rw[w2];refine a55 _ _ _ _ ⟨λh=>?_,λ_=>⟨λ_=>⟨?_,by decide,?_⟩,λh=>?_⟩⟩
   ·simp only at h;rw[w2]at h;have:=of_decide_eq_true h;omega
   ·simp only;rw[w2,w3];exact⟨by omega,by omega⟩
   ·rw[e0];exact a2r 0 (2*n) (by omega) _ 2 (Nat.le_refl _) (by omega) (by omega)
   ·simp only at h;rw[w2]at h;have:=of_decide_eq_false h;omega
abbrev qr:=b4c (Int × b4b)
def pL:Int->b4c E5->qr
 |_,[]=>[]
 |k,.EC x::l=>(k,(x.name++⟨#[58,32]⟩)++x.val)::pL k l
 |k,.Dy x::l=>(k,x.name++⟨#[32,123]⟩)::pL (k+1) l
 |k,.Dx _::l=>(k - 1,⟨#[125]⟩)::pL (k - 1) l
 |k,_::l=>(k,⟨#[125]⟩)::pL k l
def up(k:Int)(l:Ln):qr:=l.map λx=>((x.1:Int)+k,x.2)
theorem xw(k:Int)(a b:Ln):up k (a++b)=up k a++up k b:=by simp[up]
theorem Td{α:Type}{f:α->Ln}{g:α->b4c E5}:∀(s:b4c α) (h:∀x∈s,∀k rest,pL k (g x++rest)=up k (f x)++pL k rest) (k:Int) (rest:b4c E5),pL k (s.flatMap g++rest)=up k (s.flatMap f)++pL k rest
 |[],_,k,rest=>rfl
 |x::s,h,k,rest=>by
  rw[List.flatMap_cons,List.flatMap_cons,xw,List.append_assoc,h x (by simp),Td s (λy hy=>h y (by simp[hy])),List.append_assoc]
theorem pR(p:A5):∀(n:Nat) (t:Int) (v:A0) (k:Int) (rest:b4c E5),pL k (N5 p n t v++rest)=up k (N4 p n t v)++pL k rest
 |0,t,v,k,rest=>rfl
 |n+1,t,v,k,rest=>by
  have el:∀(o:B0) (s:b4b) (y:A0) (k:Int) (rest:b4c E5),pL k (Z3 (N5 p n) p o s y++rest)=up k (Aa (N4 p n) p o s y)++pL k rest:=by
   intro o s y k rest;unfold Z3 Aa;split
   ·simp[pL,up]
   ·have:=pR p n o.Target y (k+1) ([E5.Dx ⟨⟩]++rest);simp only[List.cons_append,List.append_assoc,pL]at this ⊢;rw[this];simp[pL,up,Function.comp_def];intros;omega
  simp only[N5,N4];split
  ·rename_i g hg;refine Td _ (λx hx k rest=>?_) k rest;unfold P3;split
   ·exact Td _ (λy _ k rest=>el _ _ y k rest) k rest
   split
   ·exact Td _ (λy _ k rest=>el _ _ y.2 k rest) k rest
   ·exact el _ _ _ k rest
  ·rfl
theorem a01(p:A5)(n:Nat)(t:Int)(v:A0):pL 0 (N5 p n t v)=(N4 p n t v).map λx=>((x.1:Int),x.2):=by
 have:=pR p n t v 0 [];simpa[up,pL]using this
def PK:E5->Prop
 |.EC x=>x.name.size<=33000/\x.val.size<=33000
 |.Dy x=>x.name.size<=33000
 |_=>True
theorem qV{p:A5}(hn:BE p):∀(n:Nat) (t:Int) (v:A0),C8 v->∀x∈N5 p n t v,PK x
 |0,t,v,_,x,hx=>by cases hx
 |n+1,t,v,hv,x,hx=>by
  simp only[N5]at hx;split at hx
  ·rename_i g hgt;obtain⟨s,hs,hx⟩:=List.mem_flatMap.1 hx;refine iw (R:=PK) hn (b36 hgt) hv hs (λo s y hy hn1 hne z hz=>?_) x hx;have sz:=cC p hn o y hy.okv;unfold Z3 at hz;split at hz
   ·have:=List.mem_singleton.1 hz;subst this;exact⟨hne.1,sz⟩
   ·rcases List.mem_cons.1 hz with hz|hz
    ·subst hz;exact hne.1
    rcases List.mem_append.1 hz with hz|hz
    ·exact qV hn n _ y hy z hz
    ·have:=List.mem_singleton.1 hz;subst this;trivial
  ·cases hx
theorem xh(w:G3)(hl:w.parts.length<=100000)(hk:∀x∈w.parts,PK x):∀(d i:Nat) (k:Int) (ks:b4c Int) (ss:b4c b4b),w.parts.length - i=d->i<=w.parts.length-> -(i:Int)<=k->k<=i->ks.length=i->ss.length=i->TJ i w k ks ss (ss++(pL k (w.parts.drop i)).map (·.2),ks++(pL k (w.parts.drop i)).map (·.1)):=by
 intro d
 induction d with
 |zero=>
  intro i k ks ss hd hi h1 h2 h3 h4;refine iT _ _ _ _ _ _ ⟨λh=>absurd (of_decide_eq_true h) (by omega),λ_=>?_⟩;rw[b33 (by omega)];simp[pL]
 |succ d ih=>
  intro i k ks ss hd hi h1 h2 h3 h4;have hlt:i<w.parts.length:=by omega
  have e1:wI ((i:Int)+1)=((i+1:Nat):Int):=by rw[wI,C0 (by omega)];omega
  have dl:w.parts.drop i=w.parts[i]::w.parts.drop (i+1):=b32 hlt;have hq:=hk _ (List.getElem_mem hlt)
  have go:∀(s:b4b) (a k':Int), -((i+1:Nat):Int)<=k'->k'<=((i+1:Nat):Int)->MU s a i w k' ks ss (ss++((a,s)::pL k' (w.parts.drop (i+1))).map (·.2),ks++((a,s)::pL k' (w.parts.drop (i+1))).map (·.1)):=by
   intro s a k' g1 g2;refine a8x _ _ _ _ _ _ _ _ ⟨by simp;omega,by simp;omega,?_⟩;rw[e1];have:=ih (i+1) k' (ks++[a]) (ss++[s]) (by omega) (by omega) g1 g2 (by simp;omega) (by simp;omega);simpa using this
  have n1:wI (k+1)=k+1:=by rw[wI,C0 (by omega)]
  have n2:wI (k - 1)=k - 1:=by rw[wI,C0 (by omega)]
  have q1:(⟨#[58,32]⟩:b4b).size=2:=rfl;have q2:(⟨#[32,123]⟩:b4b).size=2:=rfl;rw[dl];refine iT _ _ _ _ _ _ ⟨λ_=>⟨w.parts[i],by simp,by omega,λy hy=>?_,λhn=>⟨λy hy=>?_,λhn2=>⟨λy hy=>?_,λhn3=>?_⟩⟩⟩,λh=>absurd (of_decide_eq_false h) (by omega)⟩
  ·rw[hy]at hq ⊢;obtain⟨z1,z2⟩:=hq;refine⟨by omega,by simp only[H5];omega,?_⟩;exact go _ _ _ (by omega) (by omega)
  ·rw[hy]at hq ⊢;have z1:y.name.size<=33000:=hq;refine⟨by omega,?_⟩;rw[n1];exact go _ _ _ (by omega) (by omega)
  ·rw[hy];rw[n2];exact go _ _ _ (by omega) (by omega)
  ·have:pL k (w.parts[i]::w.parts.drop (i+1))=(k,⟨#[125]⟩)::pL k (w.parts.drop (i+1)):=by
    generalize w.parts[i]=a at hn hn2 hn3;cases a<;>first|rfl|exact absurd rfl (hn _)|exact absurd rfl (hn2 _)|exact absurd rfl (hn3 _)
   rw[this];exact go _ _ _ (by omega) (by omega)
theorem a0z(p q:A5)(n:Nat)(t:Int)(v:A0)(hn:BE p)(hv:C8 v)(hb:nV v<=40000):Nj ⟨q,N5 p n t v⟩ ((N4 p n t v).map (·.2),(N4 p n t v).map λx=>(x.1:Int)):=by
 have hl:=UC p n t v;have:=xh ⟨q,N5 p n t v⟩ (by show(N5 p n t v).length<=_;omega) (qV hn n t v hv) _ 0 0 [] [] rfl (Nat.zero_le _) (by omega) (by omega) rfl rfl;refine tQ _ _ ?_;rw[List.drop_zero]at this;have e:(⟨q,N5 p n t v⟩:G3).parts=N5 p n t v:=rfl;rw[e,a01]at this;simpa[Function.comp_def]using this
theorem fW{α:Type}(f:α->b4e):∀(l:b4c α) (i:Int),0<=i->Q0 f l i<i+l.length
 |[],i,h=>by simp[Q0];omega
 |x::l,i,h=>by
  have ih:=fW f l (i+1) (by omega)
  by_cases e:f x=true
  ·have:Q0 f (x::l) i=i:=by simp only[Q0];rw[if_pos e]
   rw[this];simp;omega
  ·have:Q0 f (x::l) i=Q0 f l (i+1):=by simp only[Q0];rw[if_neg e]
   rw[this];simp;omega
theorem kL(p:A5)(name:b4b)(h:(M5 p name).2):0<=(M5 p name).1/\∃g,p.A7[(M5 p name).1.toNat]? =some g:=by
 have h1:0<=Q0 (λg:C2=>decide (g.Name=name)) p.A7 0:=by simpa[M5]using h
 have h2:=fW (λg:C2=>decide (g.Name=name)) p.A7 0 (Int.le_refl _);have h3:(M5 p name).1=Q0 (λg:C2=>decide (g.Name=name)) p.A7 0:=by simp only[M5];omega
 rw[h3];have hlt:(Q0 (λg:C2=>decide (g.Name=name)) p.A7 0).toNat<p.A7.length:=by omega
 exact⟨h1,_,b3y hlt⟩
section
variable {p:A5}(hp:Ay p) (name:b4b) {v:A0}(hv:C8 v) (hw:L9 v<=134217728)
 include hp hv hw
end
theorem Ct.oke{p:A5}(h:Ct p):Mn p:=⟨C5 h.ne,λy hy=>⟨C5 (h.enums y hy).ni,λit hit=>⟨((h.enums y hy).items it hit).num.1,((h.enums y hy).items it hit).num.2⟩⟩⟩
def Ip:Ln->b4b
 |[]=>⟨#[]⟩
 |x::l=>(ren x++⟨#[10]⟩)++Ip l
def Cf(s:b4b):b4b × Int:=if 262144<s.size then(⟨#[]⟩,3) else(s,0)
theorem mB(s:b4b):Tx s (Cf s):=by
 refine o3 _ _ ⟨λh=>?_,λh=>?_⟩
 ·have:=of_decide_eq_true h;rw[Cf,if_pos (by omega)]
 ·have:=of_decide_eq_false h;rw[Cf,if_neg (by omega)]
theorem aZ{s:b4b}(h:decide ((262144:Int)<(s.size:Int))):Cf s=(⟨#[]⟩,3):=by
 have:=of_decide_eq_true h;rw[Cf,if_pos (by omega)]
theorem YF{s:b4b}(h:decide ((262144:Int)<(s.size:Int))=false):Cf s=(s,0):=by
 have:=of_decide_eq_false h;rw[Cf,if_neg (by omega)]
structure WB(l:Ln):Prop where
 len:l.length<=100000
 all:∀x∈l,x.1<=4096/\Lk x.2
theorem eH{x:Nat × b4b}(h:x.1<=4096/\Lk x.2):(ren x).size<=78192:=by
 unfold ren;have:=h.2.2.1;rw[H5,AF];omega
theorem Ho{α β:Type}(f:α->β)(l:b4c α)(k:Nat)(h:k<l.length):(l.map f)[((k:Nat):Int).toNat]? =some (f l[k]):=by
 rw[Int.toNat_natCast,b31,b3y h];rfl
section
variable {l:Ln}(hl:WB l)
 include hl
theorem rV(mg:Int):∀(d i:Nat) (acc:b4b),l.length - i=d->i<=l.length->acc.size<=i*80000->UA i (l.map (·.2),l.map λx=>(x.1:Int)) acc mg (Cf (acc++Ip (l.drop i))):=by
 have hlen:=hl.len;have q10:(⟨#[10]⟩:b4b).size=1:=rfl;intro d
 induction d with
 |zero=>
  intro i acc hd hi hs;refine gb _ _ _ _ _ ⟨λh=>absurd (of_decide_eq_true h) (by simp;omega),λ_=>⟨by omega,_,mB acc,?_⟩⟩;rw[b33 (by omega),Ip,Fc]
 |succ d ih=>
  intro i acc hd hi hs;have hlt:i<l.length:=by omega
  have hx:=hl.all _ (List.getElem_mem hlt);have hz:=eH hx;have hz2:=hx.2.2.1;unfold ren at hz;rw[H5,AF]at hz;have e1:wI ((i:Int)+1)=((i+1:Nat):Int):=by rw[wI,C0 (by omega)];omega
  refine gb _ _ _ _ _ ⟨λ_=>⟨l[i].2,Ho _ l i hlt,by omega,(l[i].1:Int),Ho _ l i hlt,by omega,_,zg _ hx.1,?_,?_,?_,?_⟩,λh=>absurd (of_decide_eq_false h) (by simp;omega)⟩
  ·rw[AF];omega
  ·rw[H5,AF];omega
  ·simp only[H5,AF];omega
  ·rw[e1,b32 hlt,Ip,<-CF acc (ren l[i]++⟨#[10]⟩)];exact ih (i+1) _ (by omega) (by omega) (by simp only[H5,AF];omega)
theorem o5:∀(d i:Nat) (acc:b4b),l.length - i=d->i<=l.length->acc.size<=i*80000->Se i acc (l.map ren,0) (Cf (acc++Ip (l.drop i))):=by
 have hlen:=hl.len;have q10:(⟨#[10]⟩:b4b).size=1:=rfl;intro d
 induction d with
 |zero=>
  intro i acc hd hi hs;rw[b33 (by omega),Ip,Fc];exact ja _ _ _ _ ⟨λh=>absurd (of_decide_eq_true h) (by simp;omega),λ_=>⟨λh=>aZ h,λh=>YF h⟩⟩
 |succ d ih=>
  intro i acc hd hi hs;have hlt:i<l.length:=by omega
  have hx:=hl.all _ (List.getElem_mem hlt);have hz:=eH hx;have e1:wI ((i:Int)+1)=((i+1:Nat):Int):=by rw[wI,C0 (by omega)];omega
  refine ja _ _ _ _ ⟨λ_=>⟨ren l[i],Ho _ l i hlt,by omega,by omega,by rw[H5];omega,?_⟩,λh=>absurd (of_decide_eq_false h) (by simp;omega)⟩;rw[e1,b32 hlt,Ip,<-CF acc (ren l[i]++⟨#[10]⟩)];exact ih (i+1) _ (by omega) (by omega) (by simp only[H5];omega)
end
def Dc:Ln->b4b
 |[]=>⟨#[]⟩
 |x::l=>(⟨#[32]⟩++x.2)++Dc l
def Kd:Ln->b4b
 |[]=>⟨#[]⟩
 |x::l=>x.2++Dc l
section
variable {l:Ln}(hl:WB l)
 include hl
theorem wR(h0:0<l.length):∀(d i:Nat) (acc:b4b),l.length - (i+1)=d->i+1<=l.length->acc.size<=(i+1)*70001->Lo i (l.map (·.2)) ⟨#[32]⟩ acc (acc++Dc (l.drop (i+1))):=by
 have hlen:=hl.len;have q:(⟨#[32]⟩:b4b).size=1:=rfl
 have ed:(((l.map (·.2)).take (((l.map (·.2)).length:Int)).toNat).drop (1:Int).toNat)=(l.drop 1).map (·.2):=by
  rw[Int.toNat_natCast,List.take_length,<-List.map_drop];rfl
 have el:((l.drop 1).map (·.2)).length=l.length - 1:=by simp
 intro d
 induction d with
 |zero=>
  intro i acc hd hi hs;refine jA _ _ _ _ _ ?_;rw[ed,el];refine⟨λh=>absurd (of_decide_eq_true h) (by omega),λ_=>⟨by omega,?_⟩⟩;rw[b33 (by omega),Dc,Fc]
 |succ d ih=>
  intro i acc hd hi hs;have hlt:i+1<l.length:=by omega
  have hx:=(hl.all _ (List.getElem_mem hlt)).2.2.1;have e1:wI ((i:Int)+1)=((i+1:Nat):Int):=by rw[wI,C0 (by omega)];omega
  refine jA _ _ _ _ _ ?_;rw[ed,el];refine⟨λ_=>⟨l[i+1].2,?_,by omega,by omega,by rw[H5];omega,?_⟩,λh=>absurd (of_decide_eq_false h) (by omega)⟩
  ·rw[Int.toNat_natCast,b31,List.getElem?_drop,Nat.add_comm 1 i,b3y hlt];rfl
  ·rw[e1,b32 hlt,Dc,<-CF,<-CF];exact ih (i+1) _ (by omega) (by omega) (by simp only[H5];omega)
theorem zB(h0:0<l.length):∀(d i c:Nat),l.length - i=d->i<=l.length->1<=c->c<=100000+i*70000->SP i (l.map (·.2)) c ⟨#[32]⟩ (Kd l):=by
 have hlen:=hl.len;intro d
 induction d with
 |zero=>
  intro i c hd hi h1 hc;have hx:=(hl.all _ (List.getElem_mem h0)).2.2.1;have e0:∀s:b4b,(⟨#[]⟩:b4b)++s=s:=λs=>IC _ _ rfl
  have w:wI (0+(c:Int))=(c:Int):=by rw[wI,C0 (by omega)];omega
  have eB:Kd l=l[0].2++Dc (l.drop 1):=by
   have:l=l[0]::l.drop 1:=by
    have:=b32 h0;simpa using this
   conv=>lhs;rw[this]
   rfl
  have go:Lo 0 (l.map (·.2)) ⟨#[32]⟩ ((⟨#[]⟩:b4b)++l[0].2) (Kd l):=by
   rw[e0,eB];exact wR hl h0 _ 0 l[0].2 rfl (by omega) (by omega)
  have z:(⟨#[]⟩:b4b).size=0:=rfl;refine oS _ _ _ _ _ ⟨λh=>absurd (of_decide_eq_true h) (by simp;omega),λ_=>⟨λh=>absurd (of_decide_eq_true h) (by omega),λ_=>⟨λ_=>⟨?_,l[0].2,Ho _ l 0 h0,by omega,by omega,⟨by omega,by simp;omega,by omega⟩,go⟩,λh=>absurd (of_decide_eq_false h) (by omega)⟩⟩⟩;rw[w];exact⟨by omega,by omega⟩
 |succ d ih=>
  intro i c hd hi h1 hc;have hlt:i<l.length:=by omega
  have hx:=(hl.all _ (List.getElem_mem hlt)).2.2.1;have e1:wI ((i:Int)+1)=((i+1:Nat):Int):=by rw[wI,C0 (by omega)];omega
  have e2:wI (9223372036854775807 - (c:Int))=9223372036854775807 - (c:Int):=by rw[wI,C0 (by omega)]
  have e3:wI ((c:Int)+(l[i].2.size:Int))=((c+l[i].2.size:Nat):Int):=by rw[wI,C0 (by omega)];omega
  refine oS _ _ _ _ _ ⟨λ_=>⟨l[i].2,Ho _ l i hlt,by omega,λh=>?_,λ_=>?_⟩,λh=>absurd (of_decide_eq_false h) (by simp;omega)⟩
  ·rw[e2]at h;have:=of_decide_eq_true h;omega
  ·rw[e1,e3];exact ih (i+1) _ (by omega) (by omega) (by omega) (by omega)
theorem wm:Xq (l.map (·.2)) ⟨#[32]⟩ (Kd l):=by
 have hlen:=hl.len;have q:(⟨#[32]⟩:b4b).size=1:=rfl;have em:((l.map (·.2)).length:Int)=(l.length:Int):=by simp
 refine b2r _ _ _ ?_;rw[em,q];refine⟨λh=>?_,λh=>⟨λh1=>?_,λh1=>⟨λ_=>?_,λh2=>absurd (of_decide_eq_false h2) (by omega)⟩⟩⟩
 ·have:l=[]:=by
   have:(l.length:Int)=0:=eq_of_beq h;exact List.eq_nil_of_length_eq_zero (by omega)
  rw[this];rfl
 ·have h1:(l.length:Int)=1:=eq_of_beq h1;have h0:0<l.length:=by omega
  refine⟨l[0].2,Ho _ l 0 h0,by omega,?_⟩;obtain⟨x,rfl⟩:∃x,l=[x]:=List.length_eq_one_iff.1 (by omega)
  show x.2++Dc []=_;rw[Dc,Fc];rfl
 ·have n0:¬(l.length:Int)=0:=λh3=>by rw[h3]at h;cases h
  have n1:¬(l.length:Int)=1:=λh3=>by rw[h3]at h1;cases h1
  obtain⟨m,hm⟩:∃m:Nat,l.length=m+2:=⟨l.length - 2,by omega⟩
  have w1:wI ((l.length:Int) - 1)=((m+1:Nat):Int):=by rw[wI,C0 (by omega)];omega
  have w2:wI ((1:Int)*((m+1:Nat):Int))=((m+1:Nat):Int):=by rw[wI,C0 (by omega)];omega
  have w3:wI (0+((m+1:Nat):Int))=((m+1:Nat):Int):=by rw[wI,C0 (by omega)];omega
  have hq:92233720<=9223372036854775807 / (m+1):=(Nat.le_div_iff_mul_le (by omega)).2 (by omega);have hq2:9223372036854775807 / (m+1)<=9223372036854775807:=Nat.div_le_self _ _
  have w4:wI ((9223372036854775807:Int).tdiv ((m+1:Nat):Int))=((9223372036854775807 / (m+1):Nat):Int):=by
   have e:(9223372036854775807:Int).tdiv ((m+1:Nat):Int)=((9223372036854775807 / (m+1):Nat):Int):=rfl;rw[e,wI,C0 (by omega)]
  rw[w1,w4];refine⟨by omega,λh2=>?_,λ_=>?_⟩
  ·have:=of_decide_eq_true h2;omega
  ·have e1:((1:Nat):Int)*((m+1:Nat):Int)=(1:Int)*((m+1:Nat):Int):=rfl;rw[e1,w2,w3];exact a6m _ _ _ _ (zB hl (by omega) _ 0 (m+1) rfl (Nat.zero_le _) (by omega) (by omega))
end
theorem b0e(a:UInt8)(s:b4b):((⟨#[a]⟩:b4b)++s).extract 1 (s.size+1)=s:=by
 have:=rf ⟨#[a]⟩ s ⟨#[]⟩;rw[Fc,show(⟨#[a]⟩:b4b).size=1 from rfl,Nat.add_comm 1]at this;exact this
theorem a5h(m:Nat)(b:UInt8):bR (m+1) b=⟨#[b]⟩++bR m b:=by
 have:=mX 1 m b;rw[Nat.add_comm]at this;exact this.symm
theorem uz(s:b4b)(hs:Lk s):∀m:Nat,m<=10000->RU (bR m 32++s) s:=by
 intro m
 induction m with
 |zero=>
  intro _;rw[IC _ _ (AF 0 32)];refine oL _ _ ⟨λ_=>⟨⟨by omega,by have:=hs.1;omega⟩,λh=>?_,λ_=>rfl⟩,λ_=>rfl⟩;have:E2 s (0:Int).toNat=32:=eq_of_beq h;exact absurd this hs.2.2
 |succ m ih=>
  intro hm;have hz:=hs.2.1;have e:bR (m+1) 32++s=⟨#[32]⟩++(bR m 32++s):=by rw[a5h,CF]
  have sz:((⟨#[32]⟩:b4b)++(bR m 32++s)).size=(bR m 32++s).size+1:=by rw[H5,show(⟨#[32]⟩:b4b).size=1 from rfl];omega
  rw[e]
  have b0:E2 ((⟨#[32]⟩:b4b)++(bR m 32++s)) (0:Int).toNat=32:=by
   show E2 _ 0=32;rw[JC _ _ (by decide)];decide
  refine oL _ _ ⟨λ_=>⟨⟨by omega,by omega⟩,λ_=>⟨⟨by omega,by omega,by omega⟩,?_⟩,λh=>?_⟩,λh=>?_⟩
  ·rw[Int.toNat_natCast,sz];have:=b0e 32 (bR m 32++s);rw[show(1:Int).toNat=1 from rfl,this];exact ih (by omega)
  ·rw[b0]at h;cases h
  ·have h:(⟨#[32]⟩:b4b)++(bR m 32++s)=⟨#[]⟩:=by simpa using h
   have:=congrArg ByteArray.size h;rw[sz]at this;exact absurd this (by show _+1≠0;omega)
theorem pW{x:Nat × b4b}(h:x.1<=4096/\Lk x.2):Zq (ren x) x.2:=vr _ _ (uz x.2 h.2 _ (by omega))
section
variable {l:Ln}(hl:WB l)
 include hl
theorem r6:∀(d i:Nat) (acc:b4b),l.length - i=d->1<=i->i<=l.length->acc.size<=i*70001->Oj i acc (l.map ren,0) (Cf (acc++Dc (l.drop i))):=by
 have hlen:=hl.len;have q:(⟨#[32]⟩:b4b).size=1:=rfl;intro d
 induction d with
 |zero=>
  intro i acc hd h1 hi hs;rw[b33 (by omega),Dc,Fc];exact SN _ _ _ _ ⟨λh=>absurd (of_decide_eq_true h) (by simp;omega),λ_=>⟨λh=>aZ h,λh=>YF h⟩⟩
 |succ d ih=>
  intro i acc hd h1 hi hs;have hlt:i<l.length:=by omega
  have hx:=hl.all _ (List.getElem_mem hlt);have hz:=hx.2.2.1;have e1:wI ((i:Int)+1)=((i+1:Nat):Int):=by rw[wI,C0 (by omega)];omega
  refine SN _ _ _ _ ⟨λ_=>⟨λ_=>⟨by omega,?_⟩,λh=>absurd (of_decide_eq_false h) (by omega)⟩,λh=>absurd (of_decide_eq_false h) (by simp;omega)⟩;refine ms _ _ _ _ ⟨ren l[i],Ho _ l i hlt,by omega,_,pW hx,by rw[H5];omega,?_⟩;rw[e1,b32 hlt,Dc,<-CF,<-CF];exact ih (i+1) _ (by omega) (by omega) (by omega) (by simp only[H5];omega)
theorem a9m:Oj 0 ⟨#[]⟩ (l.map ren,0) (Cf (Kd l)):=by
 have hlen:=hl.len;rcases Nat.eq_zero_or_pos l.length with h0|h0
 ·have:l=[]:=List.eq_nil_of_length_eq_zero h0;subst this;exact SN _ _ _ _ ⟨λh=>absurd (of_decide_eq_true h) (by simp),λ_=>⟨λh=>aZ h,λh=>YF h⟩⟩
 ·have hx:=hl.all _ (List.getElem_mem h0);have hz:=hx.2.2.1;have e0:∀s:b4b,(⟨#[]⟩:b4b)++s=s:=λs=>IC _ _ rfl
  have z:(⟨#[]⟩:b4b).size=0:=rfl;refine SN _ _ _ _ ⟨λ_=>⟨λh=>absurd (of_decide_eq_true h) (by omega),λ_=>?_⟩,λh=>absurd (of_decide_eq_false h) (not_not_intro (by show(0:Int)<((l.map ren).length:Int);rw[List.length_map];omega))⟩;refine ms _ _ _ _ ⟨ren l[0],Ho _ l 0 h0,by omega,_,pW hx,by omega,?_⟩
  have eB:Kd l=l[0].2++Dc (l.drop 1):=by
   have:l=l[0]::l.drop 1:=by
    have:=b32 h0;simpa using this
   conv=>lhs;rw[this]
   rfl
  rw[e0,eB,show wI (0+1)=((1:Nat):Int) from rfl];exact r6 hl _ 1 l[0].2 rfl (Nat.le_refl _) (by omega) (by omega)
end
noncomputable abbrev BH(p:A5)(name:b4b)(v:A0):A0:=AN p (SizeOf.sizeOf v) (M5 p name).1 v
noncomputable def U2(p:A5)(name:b4b)(v:A0):Ln × Int:=
 if(M5 p name).2=false then([],10)
 else if Av p (SizeOf.sizeOf v) (M5 p name).1 v≠0 then([],Av p (SizeOf.sizeOf v) (M5 p name).1 v)
 else if V9 (SizeOf.sizeOf v) v=true then([],18)
 else(N4 p (SizeOf.sizeOf (BH p name v)) (M5 p name).1 (BH p name v),0)
noncomputable def FQ(p:A5)(name:b4b)(v:A0):b4b × Int:=if(U2 p name v).2≠0 then(⟨#[]⟩,(U2 p name v).2) else Cf (Ip (U2 p name v).1)
noncomputable def FG(p:A5)(name:b4b)(v:A0):b4b × Int:=if(U2 p name v).2≠0 then(⟨#[]⟩,(U2 p name v).2) else Cf (Kd (U2 p name v).1)
section
variable {p:A5}(hp:Ay p) (hn:BE p) (mg:Int) (name:b4b) {v:A0}(hv:C8 v) (hw:L9 v<=134217728)
 include hp hn hv hw
theorem Yu{t:Int}(hfit:Av p (SizeOf.sizeOf v) t v=0):At p (SizeOf.sizeOf v) t v 1=0/\nV (AN p (SizeOf.sizeOf v) t v)<=4096:=by
 obtain⟨m1,m2⟩:=Un hfit;have hc:=Oh (SizeOf.sizeOf v) v (Nat.le_refl _);have hle:=Nr (SizeOf.sizeOf v) v
 have hnv:nV v<=4096:=by
  split at m2
  ·exact absurd m2 (by decide)
  ·rename_i q;rw[wI,C0 (by omega)]at q;omega
 exact⟨m1,Nat.le_trans (ku p (SizeOf.sizeOf v) t v) hnv⟩
theorem UN:WB (U2 p name v).1:=by
 unfold U2;split
 ·exact⟨by simp,λx hx=>by cases hx⟩
 split
 ·exact⟨by simp,λx hx=>by cases hx⟩
 split
 ·exact⟨by simp,λx hx=>by cases hx⟩
 ·rename_i h1 h2 h3;have hfit:=Classical.not_not.1 h2;obtain⟨_,h4⟩:=Yu hp hn hv hw hfit;have h4:nV (BH p name v)<=4096:=h4;have h5:=Sd p (SizeOf.sizeOf (BH p name v)) (M5 p name).1 (BH p name v);have h6:=Xn hn (SizeOf.sizeOf (BH p name v)) (M5 p name).1 (BH p name v) (SZ hp _ _ v hv);refine⟨by show(N4 _ _ _ _).length<=_;omega,λx hx=>?_⟩;have:=h6 x hx;exact⟨by omega,this.2⟩
theorem gM:∃y,Tz mg p name v y/\y.2=(U2 p name v).2/\(y.2=0->∃w,y.1=some w/\Nj w ((U2 p name v).1.map (·.2),(U2 p name v).1.map λx=>(x.1:Int))):=by
 have bp:=C5 hp.pl.np;have hfi:=rC p (by omega) name
 by_cases h1:(M5 p name).2=false
 ·refine⟨(none,10),Ux _ _ _ _ _ ⟨_,hfi,λ_=>rfl,λh=>by rw[h1]at h;cases h⟩,?_,λh=>absurd h (by decide)⟩;rw[U2,if_pos h1]
 have hf:(M5 p name).2:=by simpa using h1
 obtain⟨t0,g,hgt⟩:=kL p name hf;have hF:=c9 hp (SizeOf.sizeOf v) _ g v hgt t0 hv (Nat.le_refl _) (by omega);have nf:∀{q:Prop},(!(M5 p name).2)->q:=λh=>by rw[hf]at h;cases h
 by_cases h2:Av p (SizeOf.sizeOf v) (M5 p name).1 v≠0
 ·refine⟨(none,Av p (SizeOf.sizeOf v) (M5 p name).1 v),Ux _ _ _ _ _ ⟨_,hfi,nf,λ_=>⟨_,hF,λ_=>rfl,λh=>absurd (by simpa using h) h2⟩⟩,?_,λh=>absurd h h2⟩;rw[U2,if_neg h1,if_pos h2]
 have hfit:=Classical.not_not.1 h2;have nz:∀{q:Prop},(Av p (SizeOf.sizeOf v) (M5 p name).1 v !=0)->q:=λh=>by rw[hfit]at h;cases h
 have hR:=Tw (SizeOf.sizeOf v) v hv (Nat.le_refl _)
 by_cases h3:V9 (SizeOf.sizeOf v) v=true
 ·refine⟨(none,18),Ux _ _ _ _ _ ⟨_,hfi,nf,λ_=>⟨_,hF,nz,λ_=>⟨_,hR,λ_=>rfl,λh=>by rw[h3]at h;cases h⟩⟩⟩,?_,λh=>absurd h (by decide)⟩;rw[U2,if_neg h1,if_neg h2,if_pos h3]
 have h3':V9 (SizeOf.sizeOf v) v=false:=by simpa using h3
 obtain⟨m1,h4⟩:=Yu hp hn hv hw hfit;have h4:nV (BH p name v)<=4096:=h4;have hN:=a5o hp (SizeOf.sizeOf v) _ g v hgt t0 hv (Nat.le_refl _) ⟨_,Nat.le_refl _,h3'⟩;have hok:=SZ hp (SizeOf.sizeOf v) (M5 p name).1 v hv;have hM:=qh hp hn mg (SizeOf.sizeOf (BH p name v)) (M5 p name).1 g (BH p name v) [] hgt t0 hok (Nat.le_refl _) (by simp;omega);rw[List.nil_append]at hM;refine⟨(some ⟨p,N5 p (SizeOf.sizeOf (BH p name v)) (M5 p name).1 (BH p name v)⟩,0),Ux _ _ _ _ _ ⟨_,hfi,nf,λ_=>⟨_,hF,nz,λ_=>⟨_,hR,λh=>absurd h h3,λ_=>⟨_,hN,_,hM,rfl⟩⟩⟩⟩,?_,λ_=>⟨_,rfl,?_⟩⟩
 ·rw[U2,if_neg h1,if_neg h2,if_neg h3]
 ·rw[U2,if_neg h1,if_neg h2,if_neg h3];exact a0z p p _ _ _ hn hok (by omega)
theorem nY:Tq p name v ((U2 p name v).1.map ren,(U2 p name v).2):=by
 have bp:=C5 hp.pl.np;have hfi:=a2g p (by omega) name
 by_cases h1:(M5 p name).2=false
 ·rw[U2,if_pos h1];exact SM _ _ _ _ ⟨_,hfi,λ_=>rfl,λh=>by rw[h1]at h;cases h⟩
 have hf:(M5 p name).2:=by simpa using h1
 obtain⟨t0,g,hgt⟩:=kL p name hf;have hF:=b1u hp (SizeOf.sizeOf v) _ g v hgt t0 hv (Nat.le_refl _);have nf:∀{q:Prop},(!(M5 p name).2)->q:=λh=>by rw[hf]at h;cases h
 by_cases h2:Av p (SizeOf.sizeOf v) (M5 p name).1 v≠0
 ·rw[U2,if_neg h1,if_pos h2];exact SM _ _ _ _ ⟨_,hfi,nf,λ_=>⟨_,hF,λ_=>rfl,λh=>absurd (by simpa using h) h2⟩⟩
 have hfit:=Classical.not_not.1 h2;have nz:∀{q:Prop},(Av p (SizeOf.sizeOf v) (M5 p name).1 v !=0)->q:=λh=>by rw[hfit]at h;cases h
 have hR:=RM (SizeOf.sizeOf v) v hv (Nat.le_refl _)
 by_cases h3:V9 (SizeOf.sizeOf v) v=true
 ·rw[U2,if_neg h1,if_neg h2,if_pos h3];exact SM _ _ _ _ ⟨_,hfi,nf,λ_=>⟨_,hF,nz,λ_=>⟨_,hR,λ_=>rfl,λh=>by rw[h3]at h;cases h⟩⟩⟩
 have h3':V9 (SizeOf.sizeOf v) v=false:=by simpa using h3
 obtain⟨m1,h4⟩:=Yu hp hn hv hw hfit;have h4:nV (BH p name v)<=4096:=h4;have hN:=gN hp (SizeOf.sizeOf v) _ g v hgt t0 ⟨hv,Nat.le_refl _,⟨_,Nat.le_refl _,h3'⟩,1,m1⟩;have hok:=SZ hp (SizeOf.sizeOf v) (M5 p name).1 v hv;have hM:=jx hp hn (SizeOf.sizeOf (BH p name v)) (M5 p name).1 g (BH p name v) hgt t0 hok (Nat.le_refl _) (by omega);rw[U2,if_neg h1,if_neg h2,if_neg h3];exact SM _ _ _ _ ⟨_,hfi,nf,λ_=>⟨_,hF,nz,λ_=>⟨_,hR,λh=>absurd h h3,λ_=>⟨_,hN,_,hM,rfl⟩⟩⟩⟩
theorem qa:bO mg p name v (FQ p name v):=by
 obtain⟨y,h1,h2,h3⟩:=gM hp hn mg name hv hw;have hl:=UN hp hn name hv hw;refine sr _ _ _ _ _ ⟨y,h1,λy2 y3 hy=>?_,λy3 hy=>?_⟩
 all_goals (subst hy;simp only at h2 h3)
 ·refine⟨λh=>?_,λh=>?_⟩
  ·rw[FQ,<-h2,if_pos (by simpa using h)]
  ·have h0:y3=0:=by simpa using h
   obtain⟨w,hw2,h5⟩:=h3 h0;cases hw2;refine⟨_,h5,?_⟩;have:=rV hl mg _ 0 ⟨#[]⟩ rfl (Nat.zero_le _) (by decide);rw[IC _ _ rfl,List.drop_zero]at this;rw[FQ,<-h2,if_neg (by rw[h0];decide)];exact this
 ·refine⟨λh=>?_,λh=>?_⟩
  ·rw[FQ,<-h2,if_pos (by simpa using h)]
  ·obtain⟨w,hw2,_⟩:=h3 (by simpa using h);cases hw2
theorem jv:Ya mg p name v (FG p name v):=by
 obtain⟨y,h1,h2,h3⟩:=gM hp hn mg name hv hw;have hl:=UN hp hn name hv hw;refine a64 _ _ _ _ _ ⟨y,h1,λy2 y3 hy=>?_,λy3 hy=>?_⟩
 all_goals (subst hy;simp only at h2 h3)
 ·refine⟨λh=>?_,λh=>?_⟩
  ·rw[FG,<-h2,if_pos (by simpa using h)]
  ·have h0:y3=0:=by simpa using h
   obtain⟨w,hw2,h5⟩:=h3 h0;cases hw2;refine⟨_,h5,_,wm hl,_,mB _,?_⟩;rw[FG,<-h2,if_neg (by rw[h0];decide)]
 ·refine⟨λh=>?_,λh=>?_⟩
  ·rw[FG,<-h2,if_pos (by simpa using h)]
  ·obtain⟨w,hw2,_⟩:=h3 (by simpa using h);cases hw2
theorem rj:ap p name v (FQ p name v):=by
 have hl:=UN hp hn name hv hw;refine a3a _ _ _ _ ⟨_,nY hp hn name hv hw,λh=>?_,λh=>?_⟩
 ·rw[FQ,if_pos (by simpa using h)]
 ·have h0:(U2 p name v).2=0:=by simpa using h
  have:=o5 hl _ 0 ⟨#[]⟩ rfl (Nat.zero_le _) (by decide);rw[IC _ _ rfl,List.drop_zero]at this;rw[FQ,if_neg (by rw[h0];decide),h0];exact this
theorem yb:Zg p name v (FG p name v):=by
 have hl:=UN hp hn name hv hw;refine rc _ _ _ _ ⟨_,nY hp hn name hv hw,λh=>?_,λh=>?_⟩
 ·rw[FG,if_pos (by simpa using h)]
 ·have h0:(U2 p name v).2=0:=by simpa using h
  rw[FG,if_neg (by rw[h0];decide),h0];exact a9m hl
end
noncomputable def Fx:X9:=(62,68,.from_ .skip 0,[])::lT Tryz.prog [24,12,15,25,28,29,31,35,39,40,55,56,57,61,73,74,78,82,83,84,85,110,111,112,113,114,115,118,120,121,122,123,124,126,130,139,143,146,147,149,150,159,161,162,169,170,171,172,173,174,176,177,178,179,190,197,199,200,202,207,208,209,210,215,216,222,240,244,245,249,278]
theorem RN:Cr Tryz.prog Fx:=by
 intro g x hm;rcases List.mem_cons.1 hm with h|h
 ·cases h;exact Bv
 ·exact a7v (by kernel_rfl) g x h
def HF(f:Nat)(md:b4e):b4e:=if [210,121,175].contains f then true else if [171,217].contains f then md else false
mutual
def CH:AV->AV
 |.nil=>.sl [] .no
 |.sl els _=>.sl (Kk els) .no
 |.agg cs=>.agg (Fq cs)
 |x=>x
def Fq:List AV->List AV
 |[]=>[]
 |a::l=>CH a::Fq l
def Kk:List (List AV)->List (List AV)
 |[]=>[]
 |a::l=>Fq a::Kk l
end
theorem SA:∀l:b4c AV,Fq l=l.map CH
 |[]=>rfl
 |a::l=>by rw[Fq,SA l];rfl
theorem bS:∀l:b4c (b4c AV),Kk l=l.map Fq
 |[]=>rfl
 |a::l=>by rw[Kk,bS l];rfl
theorem gA(a:AV):(CH a).isCell=a.isCell:=by cases a<;>rfl
theorem Ng{l:b4c AV}{i:Nat}{b:AV}(h:(Fq l)[i]? =some b):∃a,l[i]? =some a/\b=CH a:=by
 rw[SA,b31]at h;obtain⟨a,h1,h2⟩:=Option.map_eq_some_iff.1 h;exact⟨a,h1,h2.symm⟩
theorem be{l:b4c (b4c AV)}{i:Nat}{b:b4c AV}(h:(Kk l)[i]? =some b):∃a,l[i]? =some a/\b=Fq a:=by
 rw[bS,b31]at h;obtain⟨a,h1,h2⟩:=Option.map_eq_some_iff.1 h;exact⟨a,h1,h2.symm⟩
theorem Rel.CH{σ:Sg}{a:AV}{x:Value}(hr:Rel σ a x):Rel σ (Lift.CH a) x:=by
 induction hr with
 |v x h=>exact .v x h
 |ptr n off b h=>exact .ptr n off b h
 |D3 cells off b o xs hc hr _=>exact .D3 cells off b o xs hc hr
 |nil=>exact .sl0 _ trivial
 |E6 n=>exact .E6 n
 |row n off size len capm b cap h hc hm hx=>exact .row n off size len capm b cap h hc hm hx
 |sl0 tok ht=>exact .sl0 _ trivial
 |I5 tok a cap ht hc=>exact .I5 _ a cap trivial (.inl rfl)
 |sl els tok b o cap size xs hs hcap ht hz hc hr ih=>
  have hl:(Kk els).length=els.length:=by rw[bS,List.length_map]
  rw[<-hl];refine .sl (Kk els) .no b o cap size xs (λi el h=>?_) (by rw[hl];exact hcap) trivial (λid e h=>by cases h) (λi el h j av h2=>?_) (λi el h j av h2=>?_)
  ·obtain⟨e,h1,rfl⟩:=be h;rw[SA,List.length_map];exact hs i e h1
  ·obtain⟨e,h1,rfl⟩:=be h;obtain⟨a,h3,rfl⟩:=Ng h2;rw[gA];exact hc i e h1 j a h3
  ·obtain⟨e,h1,rfl⟩:=be h;obtain⟨a,h3,rfl⟩:=Ng h2;exact ih i e h1 j a h3
 |agg cells xs hn hc x hx hr ih=>
  refine .agg (Fq cells) xs (by rw[SA,List.length_map];exact hn) (λi av h=>?_) x (λi av h=>?_) (λi av h=>?_)
  ·obtain⟨a,h3,rfl⟩:=Ng h;rw[gA];exact hc i a h3
  ·obtain⟨a,h3,rfl⟩:=Ng h;exact hx i a h3
  ·obtain⟨a,h3,rfl⟩:=Ng h;exact ih i a h3
 |tuple vs xs hn x hx hr _=>exact .tuple vs xs hn x hx hr
 |iface t av x h _=>exact .iface t av x h
 |clo fn first captured fs cs hn hm x y hx hy hr hq _ _=>exact .clo fn first captured fs cs hn hm x y hx hy hr hq
 |_=>(constructor<;>assumption)
theorem UM{P:Program}{gl:b4c (Nat × b4c AV)}{f:FuncId}{args args':b4c AV}{r:AV}(h:A9 P gl f args r)(e:args'.map CH=args):A9 P gl f args' r:=by
 subst e;refine⟨h.1,λw outer cargs ho hg hr=>h.2 w outer cargs ho hg ⟨by rw[List.length_map];exact hr.1,λi av hi=>?_⟩⟩;rw[b31]at hi;obtain⟨a,h1,rfl⟩:=Option.map_eq_some_iff.1 hi;obtain⟨x,h2,h3⟩:=hr.2 i a h1;exact⟨x,h2,h3.CH⟩
def Mj:AV->AV
 |.tuple vs=>.tuple (vs.map CH)
 |a=>CH a
theorem Rel.Mj{σ:Sg}{a:AV}{x:Value}(hr:Rel σ a x):Rel σ (Lift.Mj a) x:=by
 by_cases ht:∃vs,a=.tuple vs
 ·obtain⟨vs,rfl⟩:=ht;cases hr with
  |tuple _ xs hn x hx hr=>
   refine .tuple (vs.map Lift.CH) xs (by simpa using hn) x (λi av h=>?_) λi av h=>?_
   all_goals
    rw[b31]at h;obtain⟨a,h1,rfl⟩:=Option.map_eq_some_iff.1 h
   ·exact hx i a h1
   ·exact(hr i a h1).CH
 ·have:Lift.Mj a=Lift.CH a:=by cases a<;>first|rfl|exact absurd ⟨_,rfl⟩ ht
  rw[this];exact hr.CH
theorem Tu{P:Program}{gl:b4c (Nat × b4c AV)}{f:FuncId}{args:b4c AV}{a r:AV}(h:DJ P gl f args λb=>b=a)(e:nz (Mj a)=r):A9 P gl f args r:=
 ⟨h.1,λw outer cargs ho hg hr=>(h.2 w outer cargs ho hg hr).mono λe' w' ⟨av,x,q1,q2,q3,q4⟩=>⟨Mj av,x,q1,q2,q3.Mj,by subst q4;exact e⟩⟩
def Mg:B0:=⟨1,⟨#[110]⟩,⟨#[]⟩,2,0,2, -1, -1⟩
def dZ:B0:=⟨2,⟨#[108]⟩,⟨#[]⟩,4,0,7, -1, -1⟩
def dn:C2:=⟨⟨#[97,46,77]⟩,[Mg,dZ],0⟩
def X8:A5:=⟨[dn],[]⟩
def Kg:A0:=⟨2,18446744073709551611,⟨#[]⟩,[],[],[],[]⟩
def Is(b:UInt8):A0:=⟨7,0,⟨#[b]⟩,[],[],[],[]⟩
def Ki:A0:=⟨11,0,⟨#[]⟩,[Is 97,Is 98],[],[],[]⟩
def exV:A0:=⟨10,0,⟨#[]⟩,[],[],[(1,Kg),(2,Ki)],[]⟩
def Iq:FY:=⟨65536,16,4096,4096⟩
def exZ:A0:=⟨0,0,⟨#[]⟩,[],[],[],[]⟩
end Go.Proofs.YtdpomombdeccpaaGreatDoor.Lift
