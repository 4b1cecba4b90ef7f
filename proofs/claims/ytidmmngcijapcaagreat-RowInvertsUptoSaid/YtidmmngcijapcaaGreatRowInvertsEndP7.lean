/- Part 8 of the texts that prove RowInvertsEnd. -/
import Derived.Test.YtidmmngcijapcaaGreatRowInvertsEndP6
import Derived.Test.YtidmmngcijapcaaGreatRowInvertsEndP0
import Derived.Test.YtidmmngcijapcaaGreatRowInvertsEndP3
import Derived.Test.YtidmmngcijapcaaGreatRowInvertsEndP4
import Derived.Test.YtidmmngcijapcaaGreatRowInvertsEndP5
import Derived.Test.YtidmmngcijapcaaGreatRows
namespace Go.Proofs.YtidmmngcijapcaaGreat.Lift
open Go.RowKit
set_option linter.unusedVariables false
set_option linter.unusedSimpArgs false
set_option linter.unnecessarySimpa false
set_option linter.unusedSectionVars false
set_option maxRecDepth 100000
abbrev d83:=Int->A0->Int->Int
def orE(a b:Int):Int:=if a≠0 then a else b
noncomputable def b75(M:d83)(p:A7)(o:GOp)(v:A0)(lev:Int):Int:=if o.Kind=10 then M o.Target v (lev+1) else d5p p o.Kind o.Target v
noncomputable def g63(x:A0 × A0)(l:List (A0 × A0)):Bool:=l.any fun q=>Y2 (SizeOf.sizeOf q.1) q.1 x.1==0
noncomputable def d2m(M:d83)(p:A7)(o:GOp)(l:List (A0 × A0))(lev:Int)(i:Nat):Int:=
 match l[i]? with
 |none=>0
 |some x=>orE (d5p p o.Key (-1) x.1) (if g63 x (l.take i)=true then 9 else b75 M p o x.2 lev)
noncomputable def e7e(M:d83)(p:A7)(o:GOp)(l:List A0)(lev:Int)(i:Nat):Int:=
 match l[i]? with
 |none=>0
 |some x=>b75 M p o x lev
noncomputable def b2k(M:d83)(p:A7)(o:GOp)(v:A0)(lev:Int):Int:=
 if o.Card=4 then(if((v.Kind !=11)||b0n v)=true then 12 else c22 (e7e M p o v.List_ lev) 0 v.List_.length)
 else if o.Card=5 then(if((v.Kind !=12)||b0n v)=true then 12 else c22 (d2m M p o v.Pairs lev) 0 v.Pairs.length)
 else b75 M p o v lev
noncomputable def d4d(M:d83)(p:A7)(g:B8)(l:List (Int × A0))(lev:Int)(i:Nat):Int:=
 match l[i]? with
 |none=>0
 |some x=>if(opV g x.1).2=false then 8 else if((l.take i).any fun y=>y.1==x.1)=true then 9
  else if((l.take i).any fun y=>((opV g x.1).1.Union !=(-1))&&((opV g y.1).1.Union==(opV g x.1).1.Union))=true then 15 else b2k M p (opV g x.1).1 x.2 lev
def d5v(g:B8)(v:A0)(i:Nat):Int:=
 match g.Ops[i]? with
 |none=>0
 |some o=>if o.Card=1/\(v.Slots.any fun y=>y.1==o.Num)=false then 14 else 0
def f4r(p:A7)(o:GOp)(f:H5):Bool:=((((o.Kind==9)&&(o.Card !=5))&&(f.Wire==0))&&(decide (f.Bits<=2147483647)))&& !e0s p o.Target f.Bits
def g1j(p:A7)(g:B8)(f:H5):Int:=
 if(((decide (f.Num<1))||(decide (65535<f.Num)))||(decide (f.Wire<0))||(decide (6<f.Wire)))=true then 1
 else if(((decide (f.Wire<=2))&& !(decide (f.Data=(⟨#[]⟩:ByteArray))))||((!(decide (f.Wire<=2)))&&(f.Bits !=0))||((opV g f.Num).2&& !f4r p (opV g f.Num).1 f))=true then 1
 else if(((f.Wire==3)&&decide (4096<(f.Data.size:Int)))||decide (65536<(f.Data.size:Int)))=true then 3 else 0
def g0w(p:A7)(g:B8)(l:List H5)(i:Nat):Int:=
 match l[i]? with
 |none=>0
 |some f=>g1j p g f
noncomputable def f2b(M:d83)(p:A7)(g:B8)(v:A0)(lev:Int):Int:=
 if((v.Kind !=10)||b0n v)=true then 12 else if 16<lev then 17
 else orE (c22 (d4d M p g v.Slots lev) 0 v.Slots.length) (orE (c22 (d5v g v) 0 g.Ops.length) (c22 (g0w p g v.Raws) 0 v.Raws.length))
noncomputable def b31(p:A7):Nat->d83
 |0,_,_,_=>0
 |n+1,t,v,lev=>match p.Progs[t.toNat]? with
  |none=>0
  |some g=>f2b (b31 p n) p g v lev
theorem d9m{num:Int}:∀{l:List GOp},(opL num l).2=true->(opL num l).1.Num=num/\(opL num l).1∈l
 |[],h=>by simp[opL]at h
 |o::l,h=>by
  by_cases e:(o.Num==num)=true
  ·have q:opL num (o::l)=(o,true):=by simp only[opL];rw[if_pos e]
   rw[q];exact⟨by simpa using e,by simp⟩
  ·have q:opL num (o::l)=opL num l:=by simp only[opL];rw[if_neg e]
   rw[q]at h ⊢;exact⟨(d9m h).1,List.mem_cons_of_mem _ (d9m h).2⟩
theorem c93{g:B8}{num:Int}(h:(opV g num).2=true):(opV g num).1.Num=num/\(opV g num).1∈g.Ops:=d9m h
theorem d7j(s:List (Int × A0))(hs:s.length<=140737488351232)(F:GFn)(f:Int × A0->Bool)(hC:∀x∈s,a6a Tryz.prog [] (.clo (.func F.fn) F.fi F.cap) [.agg (W5 x)] (.v (.bool (f x)))):N6 s F (s.any f):=
 a46 _ _ _ ⟨_,a7l _ _ _ (d80 (J:=fun i s r=>N9 i s F r) f (fun i s r hw=>a48 _ _ _ _ hw) s hs hC),(d5e f s 0 (Int.le_refl _)).symm⟩
theorem f0x(s:List (A0 × A0))(hs:s.length<=140737488351232)(F:GFn)(f:A0 × A0->Bool)(hC:∀x∈s,a6a Tryz.prog [] (.clo (.func F.fn) F.fi F.cap) [.agg (U7 x)] (.v (.bool (f x)))):V4 s F (s.any f):=
 a5p _ _ _ ⟨_,a7e _ _ _ (d80 (J:=fun i s r=>N7 i s F r) f (fun i s r hw=>a45 _ _ _ _ hw) s hs hC),(d5e f s 0 (Int.le_refl _)).symm⟩
theorem e9i(a b:A0)(ha:OkD a)(hb:OkD b):b2j a b (Y2 (SizeOf.sizeOf a) a b==0):=b66 _ _ _ ⟨_,c6v _ a b ha hb (Nat.le_refl _),rfl⟩
theorem f1g(a b:A0)(ha:OkD a)(hb:OkD b):c1y a b (Y2 (SizeOf.sizeOf a) a b==0):=c7d _ _ _ ⟨_,c0t _ a b ha hb (Nat.le_refl _),rfl⟩
theorem OkD.raws{v:A0}(h:OkD v):∀x∈v.Raws,e5g x:=by
 cases h with
 |mk _ _ _ _ _ _ _ _ _ _ _ _ _ hr _=>exact hr
structure OkX(p:A7):Prop where
 e:OkE p
 pl:b8v p
 va:f9c p
theorem c78{α:Type}(l:List α)(i:Nat)(f:α->Bool):(((l.take ((i:Int)).toNat).drop (0:Int).toNat))=l.take i:=by simp
theorem OkX.ops{p:A7}(h:OkX p){g:B8}(hg:g∈p.Progs):g.Ops.length<=140737488351232:=(h.pl.progs g hg).n
section
variable {p:A7}(hp:OkX p)
 include hp
theorem g1i(g:B8)(hg:g∈p.Progs)(f:H5)(hf:e5g f):a74 ⟨p⟩ g f (g1j p g f):=by
 have ho:=e7m g (hp.ops hg) f.Num;refine b7i _ _ _ _ ⟨_,ho,fun b=>b=f4r p (opV g f.Num).1 f,fun b hb=>⟨fun h=>?_,fun h=>⟨fun h2=>?_,fun h2=>⟨fun h3=>?_,fun h3=>?_⟩⟩⟩,fun h=>⟨_,c6a p hp.e _ _ hf.bits.1,?_⟩,fun h=>?_⟩
 ·subst hb;rw[g1j,if_pos h]
 ·subst hb;rw[g1j,if_neg (nt h),if_pos h2]
 ·subst hb;rw[g1j,if_neg (nt h),if_neg (nt h2),if_pos h3]
 ·subst hb;rw[g1j,if_neg (nt h),if_neg (nt h2),if_neg (nt h3)]
 ·rw[f4r,h,Bool.true_and]
 ·rw[f4r,h,Bool.false_and]
section
variable {M:d83}{B:A0->Prop}(hM:∀(t:Int) (g:B8) (v:A0) (lev:Int),p.Progs[t.toNat]? =some g->B v->1<=lev->lev<=17->P8 ⟨p⟩ g v lev (M t v lev))
 include hM
theorem d94(o:GOp)(ho:OpF p o)(v:A0)(hv:OkD v)(hb:B v)(lev:Int)(h1:1<=lev)(h2:lev<=16):Z5 ⟨p⟩ o v lev (b75 M p o v lev):=by
 refine b6b _ _ _ _ _ ⟨fun h=>?_,fun h=>⟨_,f71 p hp.e _ _ v hv.okv,?_⟩⟩
 ·have hk:o.Kind=10:=by simpa using h
  obtain⟨t0,t1,_⟩:=ho.msg hk;have hlt:o.Target.toNat<p.Progs.length:=by omega
  refine⟨p.Progs[o.Target.toNat],List.getElem?_eq_getElem hlt,t0,_,hM o.Target _ v _ (List.getElem?_eq_getElem hlt) hb (by rw[wI,D3 (by omega)];omega) (by rw[wI,D3 (by omega)];omega),?_⟩;rw[b75,if_pos hk,wI,D3 (by omega)]
 ·rw[b75,if_neg (by simpa using h)]
theorem e3k(o:GOp)(ho:OpF p o)(l:List (A0 × A0))(hl:l.length<=140737488351232)(hv:∀x∈l,OkD x.1/\OkD x.2)(hb:∀x∈l,B x.2)(lev:Int)(h1:1<=lev)(h2:lev<=16):a2v ⟨p⟩ o l lev (c22 (d2m M p o l lev) 0 l.length):=by
 refine b2t _ _ _ _ _ ?_;refine c36 (J:=fun i:Nat=>W1 i l lev ⟨p⟩ o _) (E:=c22 (d2m M p o l lev) 0 l.length=0) _ l.length (fun i hi k1 k2=>?_) (fun e=>?_) 0 (by omega) (fun _=>rfl) (fun h=>h)
 ·have e1:wI ((i:Int)+1)=((i+1:Nat):Int):=by rw[wI,D3 (by omega)];omega
  have hx:=List.getElem_mem hi
  have ef:d2m M p o l lev i=orE (d5p p o.Key (-1) l[i].1) (if g63 l[i] (l.take i)=true then 9 else b75 M p o l[i].2 lev):=by
   simp only[d2m,List.getElem?_eq_getElem hi]
  rw[ef]at k1 k2;refine a1h _ _ _ _ _ _ ⟨fun _=>⟨l[i],by simp,by omega,_,f71 p hp.e _ _ _ (hv _ hx).1.okv,fun h=>?_,fun h=>⟨⟨by omega,by omega,by omega⟩,g63 l[i] (l.take i),?_,fun h3=>?_,fun h3=>⟨_,d94 hp hM o ho _ (hv _ hx).2 (hb _ hx) lev h1 h2,fun h4=>?_,fun h4=>?_⟩⟩⟩,fun h=>by simp at h;omega⟩
  ·have h':d5p p o.Key (-1) l[i].1≠0:=by simpa using h
   rw[orE,if_pos h']at k1;exact k1 h'
  ·rw[c78 l i (fun _=>true)];refine f0x _ (by simp;omega) _ _ fun x hx2=>b1w x l[i] _ (b09 _ _ _ ⟨_,e9i _ _ (hv _ (List.mem_of_mem_take hx2)).1 (hv _ hx).1,rfl⟩)
  all_goals (have h':¬d5p p o.Key (-1) l[i].1≠0:=by simpa using h)
  all_goals rw[orE,if_neg h']at k1 k2
  ·rw[if_pos h3]at k1;exact k1 (by decide)
  all_goals rw[if_neg (nt h3)]at k1 k2
  ·exact k1 (by simpa using h4)
  ·rw[e1];exact k2 (by simpa using h4)
 ·exact a1h _ _ _ _ _ _ ⟨fun h=>by simp at h,fun _=>e⟩
theorem f2j(o:GOp)(ho:OpF p o)(v:A0)(hv:OkD v)(hb:B v)(hbl:∀x∈v.List_,B x)(hbp:∀x∈v.Pairs,B x.2)(lev:Int)(h1:1<=lev)(h2:lev<=16):a42 ⟨p⟩ o v lev (b2k M p o v lev):=by
 obtain⟨_,_,⟨la,pa,sa,ra⟩,hl,hps,hs⟩:=hv.inv;refine b5v _ _ _ _ _ ⟨fun h=>⟨fun b=>b=((v.Kind !=11)||b0n v),fun b hb2=>⟨fun h3=>?_,fun h3=>?_⟩,fun h3=>by rw[h3,Bool.true_or],fun h3=>⟨_,c8v v hv.okv,by rw[h3,Bool.false_or]⟩⟩,fun h=>⟨fun h4=>⟨fun b=>b=((v.Kind !=12)||b0n v),fun b hb2=>⟨fun h3=>?_,fun h3=>⟨_,e3k hp hM o ho _ pa hps hbp lev h1 h2,?_⟩⟩,fun h3=>by rw[h3,Bool.true_or],fun h3=>⟨_,c8v v hv.okv,by rw[h3,Bool.false_or]⟩⟩,fun h4=>⟨_,d94 hp hM o ho v hv hb lev h1 h2,?_⟩⟩⟩
 ·subst hb2;rw[b2k,if_pos (by simpa using h),if_pos h3]
 ·subst hb2;rw[b2k,if_pos (by simpa using h),if_neg (nt h3)];refine c36 (J:=fun i:Nat=>Y1 i v lev ⟨p⟩ o _) (E:=c22 (e7e M p o v.List_ lev) 0 v.List_.length=0) _ v.List_.length (fun i hi k1 k2=>?_) (fun e=>?_) 0 (by omega) (fun _=>rfl) (fun h=>h)
  ·have e1:wI ((i:Int)+1)=((i+1:Nat):Int):=by have:=D6 la;rw[wI,D3 (by omega)];omega
   have hx:=List.getElem_mem hi;have ef:e7e M p o v.List_ lev i=b75 M p o v.List_[i] lev:=by simp only[e7e,List.getElem?_eq_getElem hi]
   rw[ef]at k1 k2;refine a2g _ _ _ _ _ _ ⟨fun _=>⟨v.List_[i],by simp,by omega,_,d94 hp hM o ho _ (hl _ hx) (hbl _ hx) lev h1 h2,fun h4=>k1 (by simpa using h4),fun h4=>?_⟩,fun h=>by simp at h;omega⟩;rw[e1];exact k2 (by simpa using h4)
  ·exact a2g _ _ _ _ _ _ ⟨fun h=>by simp at h,fun _=>e⟩
 all_goals (have hn:¬o.Card=4:=by simpa using h)
 ·subst hb2;rw[b2k,if_neg hn,if_pos (by simpa using h4),if_pos h3]
 ·subst hb2;rw[b2k,if_neg hn,if_pos (by simpa using h4),if_neg (nt h3)]
 ·rw[b2k,if_neg hn,if_neg (by simpa using h4)]
theorem g0y(g:B8)(hg:g∈p.Progs)(l:List (Int × A0))(hl:l.length<=140737488351232)(i:Nat)(hi:i<l.length)(hv:∀x∈l,OkD x.2)(hb:∀x∈l,B x.2/\(∀y∈x.2.List_,B y)/\∀y∈x.2.Pairs,B y.2)(lev:Int)(h1:1<=lev)(h2:lev<=16):a6z ⟨p⟩ g l i lev (d4d M p g l lev i):=by
 have hx:=List.getElem_mem hi;have ho:=e7m g (hp.ops hg) l[i].1
 have ef:d4d M p g l lev i=if(opV g l[i].1).2=false then 8 else if((l.take i).any fun y=>y.1==l[i].1)=true then 9
  else if((l.take i).any fun y=>((opV g l[i].1).1.Union !=(-1))&&((opV g y.1).1.Union==(opV g l[i].1).1.Union))=true then 15 else b2k M p (opV g l[i].1).1 l[i].2 lev:=by
  simp only[d4d,List.getElem?_eq_getElem hi]
 rw[ef];refine b6r _ _ _ _ _ _ ⟨l[i],by simp,by omega,_,ho,fun h=>?_,fun h=>⟨⟨by omega,by omega,by omega⟩,(l.take i).any (fun y=>y.1==l[i].1),?_,fun h3=>?_,fun h3=>⟨⟨by omega,by omega,by omega⟩,?_⟩⟩⟩
 ·rw[if_pos (by simpa using h)]
 all_goals (have hn:(opV g l[i].1).2=true:=by simpa using h)
 all_goals obtain⟨hnum,hop⟩:=c93 hn
 ·rw[c78 l i (fun _=>true)];refine d7j _ (by simp;omega) _ _ fun x hx2=>b4c x (opV g l[i].1).1 _ (b39 _ _ _ ?_)
  rw[hnum]
 all_goals rw[if_neg (by simp[hn])]
 ·rw[if_pos h3]
 rw[if_neg (nt h3)]
 have go:∀d k:Nat,i - k<=d->k<=i->((((l.take i).drop k).any fun y=>((opV g l[i].1).1.Union !=(-1))&&((opV g y.1).1.Union==(opV g l[i].1).1.Union))=((l.take i).any fun y=>((opV g l[i].1).1.Union !=(-1))&&((opV g y.1).1.Union==(opV g l[i].1).1.Union)))->V8 k l i (opV g l[i].1) lev ⟨p⟩ g (if((l.take i).any fun y=>((opV g l[i].1).1.Union !=(-1))&&((opV g y.1).1.Union==(opV g l[i].1).1.Union))=true then 15 else b2k M p (opV g l[i].1).1 l[i].2 lev):=by
  have len:(l.take i).length=i:=by simp;omega
  have fin:((((l.take i).drop i).any fun y=>((opV g l[i].1).1.Union !=(-1))&&((opV g y.1).1.Union==(opV g l[i].1).1.Union))=((l.take i).any fun y=>((opV g l[i].1).1.Union !=(-1))&&((opV g y.1).1.Union==(opV g l[i].1).1.Union)))->V8 i l i (opV g l[i].1) lev ⟨p⟩ g (if((l.take i).any fun y=>((opV g l[i].1).1.Union !=(-1))&&((opV g y.1).1.Union==(opV g l[i].1).1.Union))=true then 15 else b2k M p (opV g l[i].1).1 l[i].2 lev):=by
   intro hk;rw[List.drop_eq_nil_of_le (by omega)]at hk;refine a3w _ _ _ _ _ _ _ _ ⟨fun h=>by rw[c78 l i (fun _=>true),len]at h;simp at h,fun _=>⟨l[i],by simp,by omega,_,f2j hp hM _ ((hp.va.pro g hg).2 _ hop) _ (hv _ hx) (hb _ hx).1 (hb _ hx).2.1 (hb _ hx).2.2 lev h1 h2,?_⟩⟩;rw[if_neg (by rw[<-hk];simp)]
  intro d
  induction d with
  |zero=>
   intro k hd hk he;have e:k=i:=by omega
   subst e;exact fin he
  |succ d ih=>
   intro k hd hk he;rcases Nat.lt_or_ge k i with hlt|hge
   ·have e1:wI ((k:Int)+1)=((k+1:Nat):Int):=by rw[wI,D3 (by omega)];omega
    have hk2:k<(l.take i).length:=by omega
    have dl:(l.take i).drop k=(l.take i)[k]::(l.take i).drop (k+1):=List.drop_eq_getElem_cons hk2;rw[dl,List.any_cons]at he;refine a3w _ _ _ _ _ _ _ _ ?_;rw[c78 l i (fun _=>true)];refine⟨fun _=>⟨(l.take i)[k],by rw[Int.toNat_natCast];exact List.getElem?_eq_getElem hk2,by omega,_,e7m g (hp.ops hg) _,fun h4=>?_,fun h4=>?_⟩,fun h=>by rw[len]at h;simp at h;omega⟩
    ·rw[h4,Bool.true_or]at he;rw[<-he,if_pos rfl]
    ·rw[h4,Bool.false_or]at he;rw[e1];exact ih (k+1) (by omega) (by omega) he
   ·have e:k=i:=by omega
    subst e;exact fin he
 exact go i 0 (by omega) (by omega) (by simp)
theorem e4h(g:B8)(hg:g∈p.Progs)(v:A0)(hv:OkD v)(hb:∀x∈v.Slots,B x.2/\(∀y∈x.2.List_,B y)/\∀y∈x.2.Pairs,B y.2)(lev:Int)(h1:1<=lev)(h2:lev<=17):P8 ⟨p⟩ g v lev (f2b M p g v lev):=by
 have hv0:=hv;obtain⟨_,_,⟨la,pa,sa,ra⟩,hl,hps,hs⟩:=hv.inv;have b1:=D6 sa;have b2:=D6 ra;have b3:=hp.ops hg;refine b2p _ _ _ _ _ ⟨fun b=>b=((v.Kind !=10)||b0n v),fun b hb2=>⟨fun h3=>?_,fun h3=>⟨fun h4=>?_,fun h4=>?_⟩⟩,fun h3=>by rw[h3,Bool.true_or],fun h3=>⟨_,c8v v hv.okv,by rw[h3,Bool.false_or]⟩⟩
 ·subst hb2;rw[f2b,if_pos h3]
 ·subst hb2;rw[f2b,if_neg (nt h3),if_pos (by simpa using h4)]
 subst hb2;have h5:¬16<lev:=by simpa using h4
 rw[f2b,if_neg (nt h3),if_neg h5];refine c36 (J:=fun i:Nat=>W0 i v lev ⟨p⟩ g _) (E:=c22 (d4d M p g v.Slots lev) 0 v.Slots.length=0) (r:=orE (c22 (d4d M p g v.Slots lev) 0 v.Slots.length) (orE (c22 (d5v g v) 0 g.Ops.length) (c22 (g0w p g v.Raws) 0 v.Raws.length))) (d4d M p g v.Slots lev) v.Slots.length (fun i hi k1 k2=>?_) (fun e=>?_) 0 (by omega) (fun h=>by rw[orE,if_pos h]) (fun h=>h)
 ·have e1:wI ((i:Int)+1)=((i+1:Nat):Int):=by rw[wI,D3 (by omega)];omega
  refine a1n _ _ _ _ _ _ ⟨fun _=>⟨_,g0y hp hM g hg v.Slots sa i hi hs hb lev h1 (by omega),fun h=>k1 (by simpa using h),fun h=>by rw[e1];exact k2 (by simpa using h)⟩,fun h=>by simp at h;omega⟩
 refine a1n _ _ _ _ _ _ ⟨fun h=>by simp at h,fun _=>?_⟩;rw[orE,if_neg (by omega)];refine c36 (J:=fun i:Nat=>O4 i g ⟨p⟩ v _) (E:=c22 (d5v g v) 0 g.Ops.length=0) (r:=orE (c22 (d5v g v) 0 g.Ops.length) (c22 (g0w p g v.Raws) 0 v.Raws.length)) (d5v g v) g.Ops.length (fun i hi k1 k2=>?_) (fun e=>?_) 0 (by omega) (fun h=>by rw[orE,if_pos h]) (fun h=>h)
 ·have e1:wI ((i:Int)+1)=((i+1:Nat):Int):=by rw[wI,D3 (by omega)];omega
  have ef:d5v g v i=if g.Ops[i].Card=1/\(v.Slots.any fun y=>y.1==g.Ops[i].Num)=false then 14 else 0:=by simp only[d5v,List.getElem?_eq_getElem hi]
  rw[ef]at k1 k2;refine a04 _ _ _ _ _ ⟨fun _=>⟨g.Ops[i],by simp,by omega,fun h=>⟨_,d7j _ sa _ (fun y=>y.1==g.Ops[i].Num) (fun x hx=>b2c x g.Ops[i] _ (b06 _ _ _ rfl)),fun h6=>?_,fun h6=>?_⟩,fun h=>?_⟩,fun h=>by simp at h;omega⟩
  ·rw[if_pos ⟨by simpa using h,by simpa using h6⟩]at k1;exact k1 (by decide)
  ·rw[e1];refine k2 ?_;rw[if_neg];rintro⟨_,q⟩;simp[q]at h6
  ·rw[e1];refine k2 ?_;rw[if_neg];rintro⟨q,_⟩;simp[q]at h
 refine a04 _ _ _ _ _ ⟨fun h=>by simp at h,fun _=>?_⟩;rw[orE,if_neg (by omega)];refine c36 (J:=fun i:Nat=>V1 i v ⟨p⟩ g _) (E:=c22 (g0w p g v.Raws) 0 v.Raws.length=0) (g0w p g v.Raws) v.Raws.length (fun i hi k1 k2=>?_) (fun e=>?_) 0 (by omega) (fun _=>rfl) (fun h=>h)
 ·have e1:wI ((i:Int)+1)=((i+1:Nat):Int):=by rw[wI,D3 (by omega)];omega
  have ef:g0w p g v.Raws i=g1j p g v.Raws[i]:=by simp only[g0w,List.getElem?_eq_getElem hi]
  rw[ef]at k1 k2;refine a03 _ _ _ _ _ ⟨fun _=>⟨v.Raws[i],by simp,by omega,_,g1i hp g hg _ (hv0.raws _ (List.getElem_mem hi)),fun h=>k1 (by simpa using h),fun h=>by rw[e1];exact k2 (by simpa using h)⟩,fun h=>by simp at h;omega⟩
 ·exact a03 _ _ _ _ _ ⟨fun h=>by simp at h,fun _=>e⟩
end
end
section
variable {p:A7}(hp:OkX p)
 include hp
section
variable {M:d83}{B:A0->Prop}(hM:∀(t:Int) (g:B8) (v:A0) (lev:Int),p.Progs[t.toNat]? =some g->0<=t->B v->1<=lev->lev<=17->d4n p t v lev (M t v lev))
 include hM
end
theorem g80{n:Nat}{v:A0}(hv:OkD v)(hn:SizeOf.sizeOf v<=n+1):∀x∈v.Slots,(OkD x.2/\SizeOf.sizeOf x.2<=n)/\(∀y∈x.2.List_,OkD y/\SizeOf.sizeOf y<=n)/\∀y∈x.2.Pairs,OkD y.2/\SizeOf.sizeOf y.2<=n:=fun x hx=>by
 obtain⟨_,_,_,_,_,hs⟩:=hv.inv;have z1:=szS hx;obtain⟨_,_,_,q1,q2,_⟩:=(hs x hx).inv;exact⟨⟨hs x hx,by omega⟩,fun y hy=>⟨q1 y hy,by have:=szL hy;omega⟩,fun y hy=>⟨(q2 y hy).2,by have:=szP hy;omega⟩⟩
theorem e0h:∀(n:Nat) (t:Int) (g:B8) (v:A0) (lev:Int),p.Progs[t.toNat]? =some g->0<=t->OkD v->SizeOf.sizeOf v<=n->1<=lev->lev<=17->P8 ⟨p⟩ g v lev (b31 p n t v lev)
 |0,t,g,v,lev,_,_,_,h,_,_=>by have:=szV v;omega
 |n+1,t,g,v,lev,hgt,ht,hv,hn,h1,h2=>by
  have hg:g∈p.Progs:=List.mem_of_getElem? hgt;have e:b31 p (n+1) t v lev=f2b (b31 p n) p g v lev:=by simp only[b31,hgt]
  rw[e];refine e4h hp (B:=fun v=>OkD v/\SizeOf.sizeOf v<=n) (fun t' g' v' lev' k1 k2 k3 k4=>?_) g hg v hv (g80 hp hv hn) lev h1 h2
  by_cases h0:0<=t'
  ·exact e0h n t' g' v' lev' k1 h0 k2.1 k2.2 k3 k4
  ·have:=e0h n 0 g' v' lev' (by rw[show t'.toNat=0 by omega]at k1;exact k1) (Int.le_refl _) k2.1 k2.2 k3 k4
   have e2:b31 p n 0 v' lev'=b31 p n t' v' lev':=by
    cases n with
    |zero=>rfl
    |succ n=>simp only[b31];rw[show t'.toNat=(0:Int).toNat by omega]
   rw[<-e2];exact this
end
section
variable {α:Type}{c:α->α->Int}
theorem e0m{x y:α}{l:List α}:y∈a7f c x l↔y=x\/y∈l:=by
 rw[(b8j x l).mem_iff];simp
theorem a8b:∀(l:List α),∀y∈S4 c l,y∈l
 |[],y,h=>h
 |x::l,y,h=>by
  simp only[S4]at h;split at h
  ·rcases e0m.1 h with h|h
   ·simp[h]
   ·exact List.mem_cons_of_mem _ (a8b l y h)
  ·exact List.mem_cons_of_mem _ (a8b l y h)
theorem b4t:∀(l:List α),(S4 c l).length<=l.length
 |[]=>by simp[S4]
 |x::l=>by
  have:=b4t l;simp only[S4];split
  ·rw[d4l];simp;omega
  ·simp;omega
theorem c9q(h:Tp c)(x:α):∀S:List α,(∀y∈S,c x y≠0)->S.Pairwise (fun a b=>c a b<0)->(a7f c x S).Pairwise (fun a b=>c a b<0)
 |[],_,_=>by simp[a7f]
 |y::S,hne,hs=>by
  obtain⟨hy,hS⟩:=List.pairwise_cons.1 hs;simp only[a7f];split
  ·rename_i e;refine List.pairwise_cons.2 ⟨fun z hz=>?_,c9q h x S (fun y hy=>hne y (by simp[hy])) hS⟩;rcases e0m.1 hz with h2|h2
   ·rw[h2];exact e
   ·exact hy z h2
  ·rename_i e;have s1:=h.s y x;have s2:=h.s x y;have n1:=hne y (by simp);have e2:c x y<0:=by omega
   refine List.pairwise_cons.2 ⟨fun z hz=>?_,hs⟩;rcases List.mem_cons.1 hz with h2|h2
   ·rw[h2];exact e2
   ·have q1:=hy z h2;have q2:=hne z (by simp[h2]);have:=h.t x y z (by omega) (by omega);omega
theorem f9s{x:α}{l:List α}(h:lone c x l=true):∀y∈l,c x y≠0:=fun y hy=>by
 have:=List.all_eq_true.1 h y hy;simpa using this
theorem b1b(h:Tp c):∀l:List α,(S4 c l).Pairwise (fun a b=>c a b<0)
 |[]=>.nil
 |x::l=>by
  simp only[S4];split
  ·rename_i e;exact c9q h x _ (fun y hy=>f9s e y (a8b l y hy)) (b1b h l)
  ·exact b1b h l
end
def NoX(v:A0):Prop:=∃m,SizeOf.sizeOf v<=m/\a8h m v=false
theorem NoX.inv{v:A0}(h:NoX v):v.Raws=[]/\(∀x∈v.Slots,NoX x.2)/\(∀x∈v.List_,NoX x)/\∀x∈v.Pairs,NoX x.2:=by
 obtain⟨m,hm,h⟩:=h;have h0:=szV v;obtain⟨n,rfl⟩:∃n,m=n+1:=⟨m - 1,by omega⟩
 simp only[a8h,Bool.or_eq_false_iff,Bool.not_eq_false',List.isEmpty_iff,List.any_eq_false,Bool.not_eq_true]at h;exact⟨h.1,fun x hx=>⟨n,by have:=szS hx;omega,h.2.1 x hx⟩,fun x hx=>⟨n,by have:=szL hx;omega,h.2.2.1 x hx⟩,fun x hx=>⟨n,by have:=szP hx;omega,h.2.2.2 x hx⟩⟩
theorem c3b{α β:Type}{J:Nat->List β->Prop}{E:List β->Prop}(s:List α)(g:α->List β)
  (b8i:∀i (hi:i<s.length) acc,acc.length<=i->J (i+1) (acc++g s[i])->J i acc) (hg:∀x∈s,(g x).length<=1)
  (fin:∀acc,acc.length<=s.length->E acc->J s.length acc) (h:E (s.flatMap g)):J 0 []:=by
 have key:∀d i (acc:List β),s.length - i<=d->i<=s.length->acc.length<=i->E (acc++(s.drop i).flatMap g)->J i acc:=by
  intro d
  induction d with
  |zero=>
   intro i acc hd hi ha hE;have e:i=s.length:=by omega
   subst e;rw[List.drop_length]at hE;exact fin acc ha (by simpa using hE)
  |succ d ih=>
   intro i acc hd hi ha hE;rcases Nat.lt_or_ge i s.length with hlt|hge
   ·have dl:s.drop i=s[i]::s.drop (i+1):=List.drop_eq_getElem_cons hlt;rw[dl,List.flatMap_cons,<-List.append_assoc]at hE;refine b8i i hlt acc ha (ih (i+1) _ (by omega) (by omega) ?_ hE);have:=hg _ (List.getElem_mem hlt);simp;omega
   ·have e:i=s.length:=by omega
    subst e;rw[List.drop_length]at hE;exact fin acc ha (by simpa using hE)
 exact key s.length 0 [] (by omega) (by omega) (by simp) (by simpa using h)
theorem e0q{α β:Type}(s:List α)(g:α->List β)(hg:∀x∈s,(g x).length<=1):(s.flatMap g).length<=s.length:=by
 induction s with
 |nil=>simp
 |cons x s ih=>
  have h1:=hg x (by simp);have h2:=ih fun y hy=>hg y (by simp[hy])
  simp only[List.flatMap_cons,List.length_append,List.length_cons];omega
theorem c30{α β:Type}(f:α->β):∀s:List α,s.flatMap (fun x=>[f x])=s.map f
 |[]=>rfl
 |x::s=>by simp[c30 f s]
abbrev d2f:=Int->A0->A0
def a5o(N:d2f)(o:GOp)(v:A0):A0:=if o.Kind=10 then N o.Target v else Z8 v
noncomputable def b0i(l:List (A0 × A0)):List (A0 × A0):=S4 (kc (SizeOf.sizeOf l)) l
noncomputable def a64(N:d2f)(o:GOp)(v:A0):A0:=
 if o.Card=4 then⟨11,0,⟨#[]⟩,v.List_.map (a5o N o),[],[],[]⟩
 else if o.Card=5 then⟨12,0,⟨#[]⟩,[],(b0i v.Pairs).map (fun x=>(Z8 x.1,a5o N o x.2)),[],[]⟩
 else a5o N o v
def d5r(o:GOp):Bool:=((o.Card==3)||(o.Card==4))||(o.Card==5)
noncomputable def a5f(N:d2f)(o:GOp)(num:Int)(v:A0):List (Int × A0):=if(!d5r o|| !b7f (a64 N o v))=true then [(num,a64 N o v)] else []
noncomputable def b86(N:d2f)(g:B8)(v:A0):A0:=⟨10,0,⟨#[]⟩,[],[],(S4 kn v.Slots).flatMap fun x=>a5f N (opV g x.1).1 x.1 x.2,sC kr v.Raws⟩
noncomputable def H8(p:A7):Nat->d2f
 |0,_,_=>⟨0,0,⟨#[]⟩,[],[],[],[]⟩
 |n+1,t,v=>match p.Progs[t.toNat]? with
  |none=>⟨0,0,⟨#[]⟩,[],[],[],[]⟩
  |some g=>b86 (H8 p n) g v
theorem c99(N:d2f)(o:GOp)(num:Int)(v:A0):(a5f N o num v).length<=1:=by
 unfold a5f;split<;>simp
theorem f53(l:List (A0 × A0))(h:∀x∈l,OkD x.1/\OkD x.2):∀x∈l,OkP (SizeOf.sizeOf l) x:=fun x hx=>by
 have:=List.sizeOf_lt_of_mem hx;refine⟨(h x hx).1,?_⟩;cases x;simp at this ⊢;omega
theorem a5t{l:List (A0 × A0)}{x:A0 × A0}(h:x∈b0i l):x∈l:=a8b l x h
theorem b9d(l:List (A0 × A0)):(b0i l).length<=l.length:=b4t l
theorem OkV.bits{v:A0}(h:OkV v):0<=v.Bits/\v.Bits<18446744073709551616:=⟨h.b0,h.b1⟩
theorem e2u{v:A0}(h:OkD v):OkD (Z8 v):=by
 unfold Z8;split
 ·cases h with
  |mk _ k b t l p s r hl hk hv hn hs hr w=>exact .mk _ k (show U64 9221120237041090560 from⟨by decide,by decide⟩) t l p s r hl hk hv hn hs hr w
 ·exact h
theorem e1j{num:Int}:∀{l:List GOp},(opL num l).2=false->(opL num l).1=op0
 |[],_=>rfl
 |o::l,h=>by
  by_cases e:(o.Num==num)=true
  ·have q:opL num (o::l)=(o,true):=by simp only[opL];rw[if_pos e]
   rw[q]at h;cases h
  ·have q:opL num (o::l)=opL num l:=by simp only[opL];rw[if_neg e]
   rw[q]at h ⊢;exact e1j h
def OpG(p:A7)(o:GOp):Prop:=o.Kind=10->∃g,p.Progs[o.Target.toNat]? =some g/\0<=o.Target
theorem g7j{p:A7}(hp:OkX p){g:B8}(hg:g∈p.Progs)(num:Int):OpG p (opV g num).1:=by
 intro h;rcases Bool.eq_false_or_eq_true (opV g num).2 with q|q
 ·obtain⟨_,hop⟩:=c93 q;obtain⟨t0,t1,_⟩:=((hp.va.pro g hg).2 _ hop).msg h;have hlt:(opV g num).1.Target.toNat<p.Progs.length:=by omega
  exact⟨_,List.getElem?_eq_getElem hlt,t0⟩
 ·have:(opV g num).1=op0:=e1j q;rw[this]at h;exact absurd h (by decide)
section
variable {p:A7}(hp:OkX p)
 include hp
section
variable {N:d2f}{B:A0->Prop}(hN:∀(t:Int) (g:B8) (v:A0),p.Progs[t.toNat]? =some g->0<=t->B v->b2h p t v (N t v))
 include hN
theorem d4m(o:GOp)(ho:OpG p o)(v:A0)(hv:OkD v)(hb:B v):a6y p o v (a5o N o v):=by
 refine c25 _ _ _ _ ⟨fun h=>?_,fun h=>⟨_,d4k v hv.okv.bits,?_⟩⟩
 ·have hk:o.Kind=10:=by simpa using h
  obtain⟨g,hg,t0⟩:=ho hk;exact⟨_,hN _ g v hg t0 hb,by rw[a5o,if_pos hk]⟩
 ·rw[a5o,if_neg (by simpa using h)]
theorem f5r(o:GOp)(ho:OpG p o)(v:A0)(hv:OkD v)(hb:B v)(hbl:∀x∈v.List_,B x)(hbp:∀x∈v.Pairs,B x.2):b34 p o v (a64 N o v):=by
 obtain⟨_,_,⟨la,pa,sa,ra⟩,hl,hps,hs⟩:=hv.inv;have b1:=D6 la;have b2:=D6 pa;have w1:=D6 hv.w.1;have w2:=D6 hv.w.2.1;refine c1l _ _ _ _ ⟨fun h=>?_,fun h=>⟨fun h4=>⟨_,f49 _ v.Pairs (by omega) (f53 _ hps),?_⟩,fun h4=>⟨_,d4m hp hN o ho v hv hb,?_⟩⟩⟩
 ·have hc:o.Card=4:=by simpa using h
  refine c3b (J:=fun i acc=>a3g i v p o acc _) (E:=fun acc=>a64 N o v=⟨11,0,⟨#[]⟩,acc,[],[],[]⟩) v.List_ (fun x=>[a5o N o x]) (fun i hi acc ha hj=>?_) (fun x hx=>by simp) (fun acc ha he=>?_) ?_
  ·have e1:wI ((i:Int)+1)=((i+1:Nat):Int):=by rw[wI,D3 (by omega)];omega
   have hx:=List.getElem_mem hi;refine a7t _ _ _ _ _ _ ⟨fun _=>⟨v.List_[i],by simp,by omega,_,d4m hp hN o ho _ (hl _ hx) (hbl _ hx),by simp;omega,?_⟩,fun h=>by simp at h;omega⟩;rw[e1];exact hj
  ·exact a7t _ _ _ _ _ _ ⟨fun h=>by simp at h,fun _=>he⟩
  ·rw[c30,a64,if_pos hc]
 ·have hc:o.Card=5:=by simpa using h4
  have hc4:¬o.Card=4:=by simpa using h
  have b3:=b9d v.Pairs;refine c3b (J:=fun i acc=>a3m i (b0i v.Pairs) p o acc _) (E:=fun acc=>a64 N o v=⟨12,0,⟨#[]⟩,[],acc,[],[]⟩) (b0i v.Pairs) (fun x=>[(Z8 x.1,a5o N o x.2)]) (fun i hi acc ha hj=>?_) (fun x hx=>by simp) (fun acc ha he=>?_) ?_
  ·have e1:wI ((i:Int)+1)=((i+1:Nat):Int):=by rw[wI,D3 (by omega)];omega
   have hx:=a5t (List.getElem_mem hi);refine a7w _ _ _ _ _ _ ⟨fun _=>⟨(b0i v.Pairs)[i],by simp,by omega,_,d4k _ (hps _ hx).1.okv.bits,_,d4m hp hN o ho _ (hps _ hx).2 (hbp _ hx),by simp;omega,?_⟩,fun h=>by simp at h;omega⟩;rw[e1];exact hj
  ·exact a7w _ _ _ _ _ _ ⟨fun h=>by simp at h,fun _=>he⟩
  ·rw[c30,a64,if_neg hc4,if_pos hc]
 ·rw[a64,if_neg (by simpa using h),if_neg (by simpa using h4)]
theorem c8i(hNok:∀t v,OkD v->OkD (N t v))(o:GOp)(v:A0)(hv:OkD v):OkD (a64 N o v):=by
 have key:∀v,OkD v->OkD (a5o N o v):=fun v hv=>by
  unfold a5o;split
  ·exact hNok _ _ hv
  ·exact e2u hv
 obtain⟨_,_,⟨la,pa,sa,ra⟩,hl,hps,hs⟩:=hv.inv;obtain⟨w1,w2,_,_⟩:=hv.w;have z:Sz 0:=Nat.zero_le _;have b3:=b9d v.Pairs;unfold a64;split
 ·refine .mk _ (show I64 11 from⟨by decide,by decide⟩) (show U64 0 from⟨by decide,by decide⟩) z (by simpa using la) z z z (fun x hx=>?_) (fun x hx=>by cases hx) (fun x hx=>by cases hx) (fun x hx=>by cases hx) (fun x hx=>by cases hx) (fun x hx=>by cases hx) ⟨by simpa using w1,z,z,z⟩;obtain⟨y,hy,rfl⟩:=List.mem_map.1 hx;exact key y (hl y hy)
 split
 ·refine .mk _ (show I64 12 from⟨by decide,by decide⟩) (show U64 0 from⟨by decide,by decide⟩) z z ?_ z z (fun x hx=>by cases hx) (fun x hx=>?_) (fun x hx=>?_) (fun x hx=>by cases hx) (fun x hx=>by cases hx) (fun x hx=>by cases hx) ⟨z,?_,z,z⟩
  ·simp only[List.length_map];exact Nat.le_trans b3 pa
  ·obtain⟨y,hy,rfl⟩:=List.mem_map.1 hx;exact e2u (hps y (a5t hy)).1
  ·obtain⟨y,hy,rfl⟩:=List.mem_map.1 hx;exact key _ (hps y (a5t hy)).2
  ·simp only[List.length_map];exact Nat.le_trans (Nat.mul_le_mul_right _ b3) w2
 ·exact key v hv
theorem f4g(hNok:∀t v,OkD v->OkD (N t v))(t:Int)(ht:0<=t)(g:B8)(hgt:p.Progs[t.toNat]? =some g)(v:A0)(hv:OkD v)(hX:v.Raws=[])(hb:∀x∈v.Slots,B x.2/\(∀y∈x.2.List_,B y)/\∀y∈x.2.Pairs,B y.2):b2h p t v (b86 N g v):=by
 have hg:g∈p.Progs:=List.mem_of_getElem? hgt;have hlt:t.toNat<p.Progs.length:=(List.getElem?_eq_some_iff.1 hgt).1;obtain⟨_,_,⟨la,pa,sa,ra⟩,hl,hps,hs⟩:=hv.inv;have b1:=D6 sa;have w3:=D6 hv.w.2.2.1;have w4:=D6 hv.w.2.2.2;have b3:=b4t (c:=kn) v.Slots;have so:=e9x v.Slots (by omega);have off:((decide (t<0))||(decide ((p.Progs.length:Int)<=t)))=false:=by simp;omega
 have may:∀(o:GOp),d5r o=(((o.Card==3)||(o.Card==4))||(o.Card==5)):=fun _=>rfl
 refine d16 _ _ _ _ ⟨fun h0=>⟨b2s _ _ fun b hbb=>⟨fun _=>rfl,fun _=>⟨by rw[h0];simp,by rw[h0];rfl⟩⟩,fun h=>(by rw[off]at h;cases h),fun _=>⟨_,so,?_⟩⟩,fun h0=>absurd hX h0⟩
 ·refine c3b (J:=fun i acc=>a9c i (S4 kn v.Slots) t p acc _) (E:=fun acc=>b86 N g v=⟨10,0,⟨#[]⟩,[],[],acc,[]⟩) (S4 kn v.Slots) (fun x=>a5f N (opV g x.1).1 x.1 x.2) (fun i hi acc ha hj=>?_) (fun x hx=>c99 _ _ _ _) (fun acc ha he=>?_) ?_
  ·have e1:wI ((i:Int)+1)=((i+1:Nat):Int):=by rw[wI,D3 (by omega)];omega
   have hx:=a8b _ _ (List.getElem_mem hi);have oz:=c8i hp hN hNok (opV g (S4 kn v.Slots)[i].1).1 _ (hs _ hx);refine b41 _ _ _ _ _ _ ⟨fun _=>⟨(S4 kn v.Slots)[i],by simp,by omega,g,hgt,ht,_,e7m g (hp.ops hg) _,_,f5r hp hN _ (g7j hp hg _) _ (hs _ hx) (hb _ hx).1 (hb _ hx).2.1 (hb _ hx).2.2,fun b=>b=(!d5r (opV g (S4 kn v.Slots)[i].1).1|| !b7f (a64 N (opV g (S4 kn v.Slots)[i].1).1 (S4 kn v.Slots)[i].2)),fun b hbb=>⟨fun h=>?_,fun h=>?_⟩,fun h=>?_,fun h=>⟨_,f4m _ oz.okv,?_⟩⟩,fun h=>by simp at h;omega⟩
   ·subst hbb;refine⟨by simp;omega,?_⟩;rw[a5f,if_pos h]at hj;rw[e1];exact hj
   ·subst hbb;rw[a5f,if_neg (nt h)]at hj;rw[e1];simpa using hj
   ·rw[may,h,Bool.true_or]
   ·rw[may,h,Bool.false_or]
  ·exact b41 _ _ _ _ _ _ ⟨fun h=>by simp at h,fun _=>⟨a36 _,he⟩⟩
  ·rw[b86,h0];rfl
theorem f5j(hNok:∀t v,OkD v->OkD (N t v))(g:B8)(v:A0)(hv:OkD v):OkD (b86 N g v):=by
 have z:Sz 0:=Nat.zero_le _;obtain⟨_,_,⟨la,pa,sa,ra⟩,hl,hps,hs⟩:=hv.inv;obtain⟨_,_,w3,w4⟩:=hv.w;have hlen:((S4 kn v.Slots).flatMap fun x=>a5f N (opV g x.1).1 x.1 x.2).length<=v.Slots.length:=Nat.le_trans (e0q _ _ fun x hx=>c99 _ _ _ _) (b4t _);have hr:(sC kr v.Raws).length=v.Raws.length:=(d01 v.Raws).length_eq;have hi:∀x∈v.Slots,I64 x.1:=by cases hv with|mk _ _ _ _ _ _ _ _ _ _ _ hn _ _ _=>exact hn
 have mem:∀x∈(S4 kn v.Slots).flatMap fun x=>a5f N (opV g x.1).1 x.1 x.2,I64 x.1/\OkD x.2:=fun x hx=>by
  obtain⟨y,hy,h⟩:=List.mem_flatMap.1 hx;unfold a5f at h;split at h
  ·have:=List.mem_singleton.1 h;subst this;have hy':=a8b _ _ hy;exact⟨hi y hy',c8i hp hN hNok _ _ (hs y hy')⟩
  ·cases h
 refine .mk _ (show I64 10 from⟨by decide,by decide⟩) (show U64 0 from⟨by decide,by decide⟩) z z z (Nat.le_trans hlen sa) (show Sz (sC kr v.Raws).length by rw[hr];exact ra) (fun x hx=>by cases hx) (fun x hx=>by cases hx) (fun x hx=>by cases hx) (fun x hx=>(mem x hx).1) (fun x hx=>(mem x hx).2) (fun x hx=>hv.raws x ((d01 v.Raws).mem_iff.1 hx)) ⟨z,z,Nat.le_trans (Nat.mul_le_mul_right _ hlen) w3,show Sz ((sC kr v.Raws).length*40) by rw[hr];exact w4⟩
end
theorem e0t:OkD ⟨0,0,⟨#[]⟩,[],[],[],[]⟩:=by
 have z:Sz 0:=Nat.zero_le _;exact .mk _ ⟨by decide,by decide⟩ ⟨by decide,by decide⟩ z z z z z (fun x hx=>by cases hx) (fun x hx=>by cases hx) (fun x hx=>by cases hx) (fun x hx=>by cases hx) (fun x hx=>by cases hx) (fun x hx=>by cases hx) ⟨z,z,z,z⟩
theorem c1m:∀(n:Nat),(∀(t:Int) (g:B8) (v:A0),p.Progs[t.toNat]? =some g->0<=t->OkD v/\SizeOf.sizeOf v<=n/\NoX v->b2h p t v (H8 p n t v))/\∀t v,OkD v->OkD (H8 p n t v)
 |0=>⟨fun t g v _ _ h=>by have:=szV v;omega,fun t v _=>e0t hp⟩
 |n+1=>by
  obtain⟨h1,h2⟩:=c1m n;refine⟨fun t g v hgt ht ⟨hv,hn,hX⟩=>?_,fun t v hv=>?_⟩
  ·obtain⟨_,_,_,_,_,hs⟩:=hv.inv;obtain⟨x1,x2,_,_⟩:=hX.inv
   have hB:∀x∈v.Slots,(OkD x.2/\SizeOf.sizeOf x.2<=n/\NoX x.2)/\(∀y∈x.2.List_,OkD y/\SizeOf.sizeOf y<=n/\NoX y)/\∀y∈x.2.Pairs,OkD y.2/\SizeOf.sizeOf y.2<=n/\NoX y.2:=fun x hx=>by
    have z1:=szS hx;obtain⟨_,_,_,q1,q2,_⟩:=(hs x hx).inv;obtain⟨_,_,y2,y3⟩:=(x2 x hx).inv;exact⟨⟨hs x hx,by omega,x2 x hx⟩,fun y hy=>⟨q1 y hy,by have:=szL hy;omega,y2 y hy⟩,fun y hy=>⟨(q2 y hy).2,by have:=szP hy;omega,y3 y hy⟩⟩
   have e:H8 p (n+1) t v=b86 (H8 p n) g v:=by simp only[H8,hgt]
   rw[e];exact f4g hp h1 h2 t ht g hgt v hv x1 hB
  ·simp only[H8];split
   ·exact e0t hp
   ·exact f5j hp h1 h2 _ v hv
theorem f4o(n:Nat)(t:Int)(g:B8)(v:A0)(hgt:p.Progs[t.toNat]? =some g)(ht:0<=t)(hv:OkD v)(hn:SizeOf.sizeOf v<=n)(hX:NoX v):b2h p t v (H8 p n t v):=(c1m hp n).1 t g v hgt ht ⟨hv,hn,hX⟩
theorem c35(n:Nat)(t:Int)(v:A0)(hv:OkD v):OkD (H8 p n t v):=(c1m hp n).2 t v hv
end
theorem b9h{α β:Type}{s:List α}{f g:α->List β}(h:∀x∈s,f x=g x):s.flatMap f=s.flatMap g:=by
 induction s with
 |nil=>rfl
 |cons x s ih=>rw[List.flatMap_cons,List.flatMap_cons,h x (by simp),ih fun y hy=>h y (by simp[hy])]
section
variable {β:Type}(G:GOp->Int × A0->List β)
def c6f(l:List (Int × A0))(o:GOp):List β:=l.flatMap fun x=>if x.1=o.Num then G o x else []
theorem b7u{l:List (Int × A0)}{o:GOp}(h:∀x∈l,x.1≠o.Num):c6f G l o=[]:=by
 unfold c6f;rw[List.flatMap_eq_nil_iff];intro x hx;rw[if_neg (h x hx)]
def g21(l:List (Int × A0)):Prop:=l.Pairwise fun x y=>x.1≠y.1
theorem e8x{l m:List (Int × A0)}(h:l.Perm m)(hd:g21 l)(o:GOp):c6f G l o=c6f G m o:=by
 induction h with
 |nil=>rfl
 |cons x h ih=>
  have:=ih (List.pairwise_cons.1 hd).2;unfold c6f at this ⊢;rw[List.flatMap_cons,List.flatMap_cons,this]
 |swap x y l=>
  have h1:=(List.pairwise_cons.1 hd).1 x (by simp);unfold c6f;simp only[List.flatMap_cons]
  by_cases e:y.1=o.Num
  ·rw[if_neg (show ¬x.1=o.Num by omega)];simp
  ·rw[if_neg e];simp
 |trans h1 h2 ih1 ih2=>exact(ih1 hd).trans (ih2 (h1.pairwise hd fun h=>h.symm))
theorem e8o:∀(ops:List GOp) (S:List (Int × A0)),ops.Pairwise (fun a b=>a.Num<b.Num)->S.Pairwise (fun x y=>x.1<y.1)->(∀x∈S,∃o∈ops,o.Num=x.1)->ops.flatMap (c6f G S)=S.flatMap fun x=>G (opL x.1 ops).1 x
 |[],S,_,_,hs=>by
  cases S with
  |nil=>rfl
  |cons x S=>obtain⟨o,ho,_⟩:=hs x (by simp);cases ho
 |o::ops,S,hops,hS,hs=>by
  obtain⟨h1,h2⟩:=List.pairwise_cons.1 hops;cases S with
  |nil=>simp[c6f]
  |cons x S=>
   obtain⟨h3,h4⟩:=List.pairwise_cons.1 hS;rw[List.flatMap_cons]
   by_cases e:x.1=o.Num
   ·have hin:∀y∈S,∃q∈ops,q.Num=y.1:=fun y hy=>by
     obtain⟨q,hq,hn⟩:=hs y (by simp[hy]);rcases List.mem_cons.1 hq with h5|h5
     ·rw[h5]at hn;have:=h3 y hy;omega
     ·exact⟨q,h5,hn⟩
    have ih:=e8o ops S h2 h4 hin
    have e1:c6f G (x::S) o=G o x:=by
     have:c6f G S o=[]:=b7u G fun y hy=>by have:=h3 y hy;omega
     unfold c6f at this ⊢;rw[List.flatMap_cons,this,if_pos e,List.append_nil]
    have e2:ops.flatMap (c6f G (x::S))=ops.flatMap (c6f G S):=by
     refine b9h fun q hq=>?_
     have:=h1 q hq;unfold c6f;rw[List.flatMap_cons,if_neg (by omega),List.nil_append]
    rw[e1,e2,ih,List.flatMap_cons];have e3:opL x.1 (o::ops)=(o,true):=by simp only[opL];rw[if_pos (by simp[e])]
    rw[e3]
    congr 1
    refine b9h fun y hy=>?_
    have:=h3 y hy;simp only[opL];rw[if_neg (by simp;omega)]
   ·have hin:∀y∈x::S,∃q∈ops,q.Num=y.1:=fun y hy=>by
     obtain⟨q0,hq0,hn0⟩:=hs x (by simp)
     have hx:o.Num<x.1:=by
      rcases List.mem_cons.1 hq0 with h5|h5
      ·rw[h5]at hn0;omega
      ·have:=h1 q0 h5;omega
     obtain⟨q,hq,hn⟩:=hs y hy;rcases List.mem_cons.1 hq with h5|h5
     ·rw[h5]at hn;rcases List.mem_cons.1 hy with h6|h6
      ·rw[h6]at hn;omega
      ·have:=h3 y h6;omega
     ·exact⟨q,h5,hn⟩
    have hne:∀y∈x::S,y.1≠o.Num:=fun y hy=>by
     obtain⟨q,hq,hn⟩:=hin y hy;have:=h1 q hq;omega
    have ih:=e8o ops (x::S) h2 hS hin;rw[b7u G hne,List.nil_append,ih];refine b9h fun y hy=>?_
    have:=hne y hy;simp only[opL];rw[if_neg (by simp;omega)]
end
theorem c89{α:Type}{c:α->α->Int}:∀(l:List α),l.Pairwise (fun x y=>c x y≠0)->(S4 c l).Perm l
 |[],_=>.refl _
 |x::l,h=>by
  obtain⟨h1,h2⟩:=List.pairwise_cons.1 h
  have:lone c x l=true:=by
   rw[lone,List.all_eq_true];intro y hy;simpa using h1 y hy
  simp only[S4];rw[if_pos this];exact(b8j x _).trans ((c89 l h2).cons x)
theorem b8d{β:Type}(G:GOp->Int × A0->List β)(ops:List GOp)(l:List (Int × A0))(hops:ops.Pairwise (fun a b=>a.Num<b.Num))(hd:g21 l)(hs:∀x∈l,∃o∈ops,o.Num=x.1):ops.flatMap (c6f G l)=(S4 kn l).flatMap fun x=>G (opL x.1 ops).1 x:=by
 have hp:(S4 kn l).Perm l:=c89 l (hd.imp fun {x y} h=>d5l.2 h)
 have hS:(S4 kn l).Pairwise (fun x y=>x.1<y.1):=(b1b f2u l).imp fun {x y} h=>by
  rcases S0 x.1 y.1 with q|q|q<;>simp only[kn]at h<;>omega
 rw[<-e8o G ops (S4 kn l) hops hS fun x hx=>hs x (hp.mem_iff.1 hx)];exact b9h fun o _=>e8x G hp.symm hd o
theorem c2c{l:List GOp}(h:Asc l l.length):l.Pairwise fun a b=>a.Num<b.Num:=by
 rw[List.pairwise_iff_getElem]
 have key:∀d i (hi:i<l.length) (hj:i+d+1<l.length),l[i].Num<l[i+d+1].Num:=by
  intro d
  induction d with
  |zero=>intro i hi hj;exact h i _ _ hj (List.getElem?_eq_getElem hi) (List.getElem?_eq_getElem hj)
  |succ d ih=>
   intro i hi hj;have h1:=ih i hi (by omega);have h2:=h (i+d+1) _ _ (by omega) (List.getElem?_eq_getElem (by omega)) (List.getElem?_eq_getElem (show i+d+1+1<l.length by omega));have e:l[i+(d+1)+1]=l[i+d+1+1]:=rfl;rw[e];omega
 intro i j hi hj hij;have:=key (j - i - 1) i hi (by omega);have e:i+(j - i - 1)+1=j:=by omega
 simp only[e]at this;exact this
theorem b9m{a b:Int}(h:orE a b=0):a=0/\b=0:=by
 unfold orE at h;split at h
 ·rename_i q;exact absurd h q
 ·rename_i q;exact⟨by omega,h⟩
structure h5i(M:d83)(p:A7)(g:B8)(v:A0)(lev:Int):Prop where
 kind:v.Kind=10
 other:b0n v=false
 deep:lev<=16
 known:∀x∈v.Slots,(opV g x.1).2=true
 diff:g21 v.Slots
 field:∀x∈v.Slots,b2k M p (opV g x.1).1 x.2 lev=0
 need:∀o∈g.Ops,o.Card=1->∃x∈v.Slots,x.1=o.Num
theorem d81{M:d83}{p:A7}{g:B8}{v:A0}{lev:Int}(h:f2b M p g v lev=0):h5i M p g v lev:=by
 unfold f2b at h;split at h
 ·exact absurd h (by decide)
 rename_i h1;split at h
 ·exact absurd h (by decide)
 rename_i h2;obtain⟨h3,h4⟩:=b9m h;obtain⟨h5,h6⟩:=b9m h4;have h1':v.Kind=10/\b0n v=false:=by simpa using h1
 have sl:=fun i hi=>b8m 0 h3 i (Nat.zero_le _) hi
 have sl2:∀i (hi:i<v.Slots.length),(opV g v.Slots[i].1).2=true/\((v.Slots.take i).any fun y=>y.1==v.Slots[i].1)=false/\b2k M p (opV g v.Slots[i].1).1 v.Slots[i].2 lev=0:=by
  intro i hi;have:=sl i hi;simp only[d4d,List.getElem?_eq_getElem hi]at this;split at this
  ·exact absurd this (by decide)
  rename_i q1;split at this
  ·exact absurd this (by decide)
  rename_i q2;split at this
  ·exact absurd this (by decide)
  exact⟨by simpa using q1,(by revert q2;cases ((v.Slots.take i).any fun y=>y.1==v.Slots[i].1)<;>simp),this⟩
 refine⟨h1'.1,h1'.2,by omega,fun x hx=>?_,?_,fun x hx=>?_,fun o ho hc=>?_⟩
 ·obtain⟨i,hi,rfl⟩:=List.mem_iff_getElem.1 hx;exact(sl2 i hi).1
 ·unfold g21;rw[List.pairwise_iff_getElem];intro i j hi hj hij e;have:=(sl2 j hj).2.1;rw[List.any_eq_false]at this
  have hm:v.Slots[i]∈v.Slots.take j:=by
   rw[List.mem_take_iff_getElem];exact⟨i,by omega,rfl⟩
  exact this _ hm (by simpa using e)
 ·obtain⟨i,hi,rfl⟩:=List.mem_iff_getElem.1 hx;exact(sl2 i hi).2.2
 ·obtain⟨i,hi,rfl⟩:=List.mem_iff_getElem.1 ho;have:=b8m 0 h5 i (Nat.zero_le _) hi;simp only[d5v,List.getElem?_eq_getElem hi]at this;split at this
  ·exact absurd this (by decide)
  rename_i q;rcases Bool.eq_false_or_eq_true (v.Slots.any fun y=>y.1==g.Ops[i].Num) with r|r
  ·obtain⟨x,hx,hn⟩:=List.any_eq_true.1 r;exact⟨x,hx,by simpa using hn⟩
  ·exact absurd ⟨hc,r⟩ q
theorem c09{M:d83}{p:A7}{o:GOp}{v:A0}{lev:Int}(h:b2k M p o v lev=0):
  (o.Card=4->v.Kind=11/\b0n v=false/\∀x∈v.List_,b75 M p o x lev=0)/\(o.Card=5->v.Kind=12/\b0n v=false/\(∀x∈v.Pairs,d5p p o.Key (-1) x.1=0/\b75 M p o x.2 lev=0)/\v.Pairs.Pairwise fun x y=>Y2 (SizeOf.sizeOf x.1) x.1 y.1≠0)/\(o.Card≠4->o.Card≠5->b75 M p o v lev=0):=by
 unfold b2k at h;refine⟨fun hc=>?_,fun hc=>?_,fun h4 h5=>?_⟩
 ·rw[if_pos hc]at h;split at h
  ·exact absurd h (by decide)
  rename_i q;have q':v.Kind=11/\b0n v=false:=by simpa using q
  refine⟨q'.1,q'.2,fun x hx=>?_⟩;obtain⟨i,hi,rfl⟩:=List.mem_iff_getElem.1 hx;have:=b8m 0 h i (Nat.zero_le _) hi;simpa only[e7e,List.getElem?_eq_getElem hi]using this
 ·rw[if_neg (by omega),if_pos hc]at h;split at h
  ·exact absurd h (by decide)
  rename_i q;have q':v.Kind=12/\b0n v=false:=by simpa using q
  have en:∀i (hi:i<v.Pairs.length),d5p p o.Key (-1) v.Pairs[i].1=0/\g63 v.Pairs[i] (v.Pairs.take i)=false/\b75 M p o v.Pairs[i].2 lev=0:=fun i hi=>by
   have:=b8m 0 h i (Nat.zero_le _) hi;simp only[d2m,List.getElem?_eq_getElem hi]at this;obtain⟨a,b⟩:=b9m this;split at b
   ·exact absurd b (by decide)
   rename_i k;exact⟨a,by simpa using k,b⟩
  refine⟨q'.1,q'.2,fun x hx=>?_,?_⟩
  ·obtain⟨i,hi,rfl⟩:=List.mem_iff_getElem.1 hx;exact⟨(en i hi).1,(en i hi).2.2⟩
  ·rw[List.pairwise_iff_getElem];intro i j hi hj hij e;have:=(en j hj).2.1;rw[g63,List.any_eq_false]at this
   have hm:v.Pairs[i]∈v.Pairs.take j:=by
    rw[List.mem_take_iff_getElem];exact⟨i,by omega,rfl⟩
   exact this _ hm (by simpa using e)
 ·rw[if_neg h4,if_neg h5]at h;exact h
section
variable {p:A7}(hp:OkX p)
 include hp
section
variable {N:d2f}{B:Int->A0->Prop}(hN:∀(t:Int) (g:B8) (v:A0),p.Progs[t.toNat]? =some g->0<=t->B t v->a8m p t v (N t v))
 include hN
theorem c9z(o:GOp)(ho:OpG p o)(v:A0)(hv:OkD v)(hb:o.Kind=10->B o.Target v):a9w p o v (a5o N o v):=by
 refine c6i _ _ _ _ ⟨fun h=>?_,fun h=>⟨_,e2l v hv.okv.bits,?_⟩⟩
 ·have hk:o.Kind=10:=by simpa using h
  obtain⟨g,hg,t0⟩:=ho hk;exact⟨_,hN _ g v hg t0 (hb hk),by rw[a5o,if_pos hk]⟩
 ·rw[a5o,if_neg (by simpa using h)]
theorem e7k(o:GOp)(ho:OpG p o)(v:A0)(hv:OkD v)(hb:o.Card≠4->o.Card≠5->o.Kind=10->B o.Target v)(hbl:o.Card=4->o.Kind=10->∀x∈v.List_,B o.Target x)(hbp:o.Card=5->o.Kind=10->∀x∈v.Pairs,B o.Target x.2):b83 p o v (a64 N o v):=by
 obtain⟨_,_,⟨la,pa,sa,ra⟩,hl,hps,hs⟩:=hv.inv;have b1:=D6 la;have b2:=D6 pa;have w1:=D6 hv.w.1;have w2:=D6 hv.w.2.1;refine c4k _ _ _ _ ⟨fun h=>?_,fun h=>⟨fun h4=>⟨_,e94 _ v.Pairs (by omega) (f53 _ hps),?_⟩,fun h4=>⟨_,c9z hp hN o ho v hv (hb (by simpa using h) (by simpa using h4)),?_⟩⟩⟩
 ·have hc:o.Card=4:=by simpa using h
  refine c3b (J:=fun i acc=>a68 i p o v acc _) (E:=fun acc=>a64 N o v=⟨11,0,⟨#[]⟩,acc,[],[],[]⟩) v.List_ (fun x=>[a5o N o x]) (fun i hi acc ha hj=>?_) (fun x hx=>by simp) (fun acc ha he=>?_) ?_
  ·have e1:wI ((i:Int)+1)=((i+1:Nat):Int):=by rw[wI,D3 (by omega)];omega
   have hx:=List.getElem_mem hi;refine b0m _ _ _ _ _ _ ⟨fun _=>⟨v.List_[i],by simp,by omega,_,c9z hp hN o ho _ (hl _ hx) (fun hk=>hbl hc hk _ hx),by simp;omega,?_⟩,fun h=>by simp at h;omega⟩;rw[e1];exact hj
  ·exact b0m _ _ _ _ _ _ ⟨fun h=>by simp at h,fun _=>he⟩
  ·rw[c30,a64,if_pos hc]
 ·have hc:o.Card=5:=by simpa using h4
  have hc4:¬o.Card=4:=by simpa using h
  have b3:=b9d v.Pairs;refine c3b (J:=fun i acc=>a69 i (b0i v.Pairs) p o acc _) (E:=fun acc=>a64 N o v=⟨12,0,⟨#[]⟩,[],acc,[],[]⟩) (b0i v.Pairs) (fun x=>[(Z8 x.1,a5o N o x.2)]) (fun i hi acc ha hj=>?_) (fun x hx=>by simp) (fun acc ha he=>?_) ?_
  ·have e1:wI ((i:Int)+1)=((i+1:Nat):Int):=by rw[wI,D3 (by omega)];omega
   have hx:=a5t (List.getElem_mem hi);refine b0u _ _ _ _ _ _ ⟨fun _=>⟨(b0i v.Pairs)[i],by simp,by omega,_,e2l _ (hps _ hx).1.okv.bits,(b0i v.Pairs)[i],by simp,by omega,_,c9z hp hN o ho _ (hps _ hx).2 (fun hk=>hbp hc hk _ hx),by simp;omega,?_⟩,fun h=>by simp at h;omega⟩;rw[e1];exact hj
  ·exact b0u _ _ _ _ _ _ ⟨fun h=>by simp at h,fun _=>he⟩
  ·rw[c30,a64,if_neg hc4,if_pos hc]
 ·rw[a64,if_neg (by simpa using h),if_neg (by simpa using h4)]
theorem f4p(t:Int)(v:A0)(y1:List H5)(r:A0)(hv:OkD v)(hNok:∀t v,OkD v->OkD (N t v))(i:Nat)(hi:i<140737488351232)(o:GOp)(ho:OpG p o)(hc:1<=o.Card/\o.Card<=5)(hb:∀x∈v.Slots,x.1=o.Num->(o.Card≠4->o.Card≠5->o.Kind=10->B o.Target x.2)/\(o.Card=4->o.Kind=10->∀y∈x.2.List_,B o.Target y)/\(o.Card=5->o.Kind=10->∀y∈x.2.Pairs,B o.Target y.2))
  (T R:List (Int × A0)) (hT:T.length<=v.Slots.length) (next:∀acc,acc++R=T->a61 ((i+1:Nat):Int) t p v acc y1 r):∀d k (acc:List (Int × A0)),v.Slots.length - k<=d->k<=v.Slots.length->acc++(v.Slots.drop k).flatMap (fun x=>if x.1=o.Num then a5f N o x.1 x.2 else [])++R=T->a1a k i t p v acc y1 o r:=by
 obtain⟨_,_,⟨la,pa,sa,ra⟩,hl,hps,hs⟩:=hv.inv;have b1:=D6 sa;have w3:=D6 hv.w.2.2.1;have e0:wI ((i:Int)+1)=((i+1:Nat):Int):=by rw[wI,D3 (by omega)];omega
 have fin:∀(acc:List (Int × A0)),acc++(v.Slots.drop v.Slots.length).flatMap (fun x=>if x.1=o.Num then a5f N o x.1 x.2 else [])++R=T->a1a (v.Slots.length:Nat) i t p v acc y1 o r:=by
  intro acc h;rw[List.drop_length]at h;refine b21 _ _ _ _ _ _ _ _ _ ⟨fun h=>by simp at h,fun _=>?_⟩;rw[e0];exact next acc (by simpa using h)
 intro d
 induction d with
 |zero=>
  intro k acc hd hk h;have e:k=v.Slots.length:=by omega
  subst e;exact fin acc h
 |succ d ih=>
  intro k acc hd hk h;rcases Nat.lt_or_ge k v.Slots.length with hlt|hge
  ·have e1:wI ((k:Int)+1)=((k+1:Nat):Int):=by rw[wI,D3 (by omega)];omega
   have dl:v.Slots.drop k=v.Slots[k]::v.Slots.drop (k+1):=List.drop_eq_getElem_cons hlt;have hx:=List.getElem_mem hlt;rw[dl,List.flatMap_cons,<-List.append_assoc]at h;refine b21 _ _ _ _ _ _ _ _ _ ⟨fun _=>⟨v.Slots[k],by simp,by omega,fun hn=>?_,fun hn=>?_⟩,fun h=>by simp at h;omega⟩
   ·have hne:¬v.Slots[k].1=o.Num:=by simpa using hn
    rw[if_neg hne,List.append_nil]at h;rw[e1];exact ih (k+1) acc (by omega) (by omega) h
   ·have he:v.Slots[k].1=o.Num:=by simpa using hn
    obtain⟨b1',b2',b3'⟩:=hb _ hx he;have oz:=c8i (p:=p) (N:=N) (B:=fun _=>False) hp (fun t g v _ _ hf=>hf.elim) hNok o _ (hs _ hx);rw[if_pos he]at h;refine⟨v.Slots[k],by simp,by omega,_,e7k hp hN o ho _ (hs _ hx) b1' b2' b3',fun b=>b=(!d5r o|| !b7f (a64 N o v.Slots[k].2)),fun b hbb=>⟨fun h2=>?_,fun h2=>?_⟩,fun h2=>?_,fun h2=>⟨_,f0f _,?_⟩⟩
    ·subst hbb;rw[a5f,if_pos h2,he]at h;have hlen:=congrArg List.length h;simp at hlen;refine⟨by simp;omega,?_⟩;rw[e1];exact ih (k+1) _ (by omega) (by omega) h
    ·subst hbb;rw[a5f,if_neg (nt h2),List.append_nil]at h;rw[e1];exact ih (k+1) _ (by omega) (by omega) h
    ·have:d5r o=false:=by
      unfold d5r;simp at h2 ⊢;omega
     rw[this];rfl
    ·have:d5r o=true:=by
      unfold d5r;simp at h2 ⊢;omega
     rw[this];rfl
  ·have e:k=v.Slots.length:=by omega
   subst e;exact fin acc h
theorem e9h(hNok:∀t v,OkD v->OkD (N t v))(t:Int)(ht:0<=t)(g:B8)(hgt:p.Progs[t.toNat]? =some g)(v:A0)(hv:OkD v)(hX:v.Raws=[]){M:d83}{lev:Int}(hf:h5i M p g v lev)
  (hb:∀x∈v.Slots,∀o∈g.Ops,o.Num=x.1->(o.Card≠4->o.Card≠5->o.Kind=10->B o.Target x.2)/\(o.Card=4->o.Kind=10->∀y∈x.2.List_,B o.Target y)/\(o.Card=5->o.Kind=10->∀y∈x.2.Pairs,B o.Target y.2)):a8m p t v (b86 N g v):=by
 have hg:g∈p.Progs:=List.mem_of_getElem? hgt;have hlt:t.toNat<p.Progs.length:=(List.getElem?_eq_some_iff.1 hgt).1;obtain⟨_,_,⟨la,pa,sa,ra⟩,hl,hps,hs⟩:=hv.inv;have b1:=D6 sa;have w3:=D6 hv.w.2.2.1;have w4:=D6 hv.w.2.2.2;have bo:=hp.ops hg;have off:((decide (t<0))||(decide ((p.Progs.length:Int)<=t)))=false:=by simp;omega
 have hT:=b8d (fun o x=>a5f N o x.1 x.2) g.Ops v.Slots (c2c (hp.va.asc g hg)) hf.diff fun x hx=>by
  obtain⟨h1,h2⟩:=c93 (hf.known x hx);exact⟨_,h2,h1⟩
 have hlen:(g.Ops.flatMap (c6f (fun o x=>a5f N o x.1 x.2) v.Slots)).length<=v.Slots.length:=by
  rw[hT];exact Nat.le_trans (e0q _ _ fun x hx=>c99 _ _ _ _) (b4t _)
 have er:c42 v.Raws (sC kr v.Raws):=by
  rw[hX];exact d1e _ _ (c2y _ _ _ _ ⟨fun h=>by simp at h,fun _=>rfl⟩)
 refine d0y _ _ _ _ ⟨fun h=>(by rw[off]at h;cases h),fun _=>⟨_,er,?_⟩⟩
 have e:b86 N g v=⟨10,0,⟨#[]⟩,[],[],g.Ops.flatMap (c6f (fun o x=>a5f N o x.1 x.2) v.Slots),sC kr v.Raws⟩:=by
  rw[hT];rfl
 rw[e]
 have go:∀d i (acc:List (Int × A0)),g.Ops.length - i<=d->i<=g.Ops.length->acc++(g.Ops.drop i).flatMap (c6f (fun o x=>a5f N o x.1 x.2) v.Slots)=g.Ops.flatMap (c6f (fun o x=>a5f N o x.1 x.2) v.Slots)->a61 i t p v acc (sC kr v.Raws) ⟨10,0,⟨#[]⟩,[],[],g.Ops.flatMap (c6f (fun o x=>a5f N o x.1 x.2) v.Slots),sC kr v.Raws⟩:=by
  intro d
  induction d with
  |zero=>
   intro i acc hd hi h;have e:i=g.Ops.length:=by omega
   subst e;rw[List.drop_length]at h;exact a7c _ _ _ _ _ _ _ ⟨g,hgt,ht,fun h=>by simp at h,fun _=>by rw[<-h];simp⟩
  |succ d ih=>
   intro i acc hd hi h;rcases Nat.lt_or_ge i g.Ops.length with hlt2|hge
   ·have dl:g.Ops.drop i=g.Ops[i]::g.Ops.drop (i+1):=List.drop_eq_getElem_cons hlt2;have ho:=List.getElem_mem hlt2;have oF:=(hp.va.pro g hg).2 _ ho;rw[dl,List.flatMap_cons]at h;refine a7c _ _ _ _ _ _ _ ⟨g,hgt,ht,fun _=>⟨g,hgt,ht,g.Ops[i],by simp,by omega,?_⟩,fun h=>by simp at h;omega⟩;refine f4p hp hN t v _ _ hv hNok i (by omega) g.Ops[i] (fun hk=>?_) oF.card (fun x hx he=>hb x hx _ ho he.symm) _ ((g.Ops.drop (i+1)).flatMap (c6f (fun o x=>a5f N o x.1 x.2) v.Slots)) hlen (fun acc' h'=>ih (i+1) acc' (by omega) (by omega) h') v.Slots.length 0 acc (by omega) (by omega) ?_
    ·obtain⟨t0,t1,_⟩:=oF.msg hk;have hlt:g.Ops[i].Target.toNat<p.Progs.length:=by omega
     exact⟨_,List.getElem?_eq_getElem hlt,t0⟩
    ·rw[List.drop_zero,List.append_assoc];exact h
   ·have e:i=g.Ops.length:=by omega
    subst e;rw[List.drop_length]at h;exact a7c _ _ _ _ _ _ _ ⟨g,hgt,ht,fun h=>by simp at h,fun _=>by rw[<-h];simp⟩
 exact go _ 0 [] (Nat.le_refl _) (by omega) (by simp)
end
theorem b8o{M:d83}{o:GOp}{v:A0}{lev:Int}(h:b75 M p o v lev=0)(hk:o.Kind=10):M o.Target v (lev+1)=0:=by
 rw[b75,if_pos hk]at h;exact h
theorem e06{g:B8}(hg:g∈p.Progs){o:GOp}(ho:o∈g.Ops):opV g o.Num=(o,true):=by
 have h:=c2c (hp.va.asc g hg);unfold opV;generalize g.Ops=l at h ho
 induction l with
 |nil=>cases ho
 |cons q l ih=>
  obtain⟨h1,h2⟩:=List.pairwise_cons.1 h;rcases List.mem_cons.1 ho with h3|h3
  ·subst h3;simp only[opL];rw[if_pos (by simp)]
  ·have:=h1 o h3;simp only[opL];rw[if_neg (by simp;omega)];exact ih h2 h3
theorem d2i:∀(n:Nat) (t:Int) (g:B8) (v:A0),p.Progs[t.toNat]? =some g->0<=t->(OkD v/\SizeOf.sizeOf v<=n/\NoX v/\∃lev,b31 p n t v lev=0)->a8m p t v (H8 p n t v)
 |0,t,g,v,_,_,h=>by have:=szV v;omega
 |n+1,t,g,v,hgt,ht,⟨hv,hn,hX,lev,hm⟩=>by
  obtain⟨x1,x2,_,_⟩:=hX.inv;have hg:g∈p.Progs:=List.mem_of_getElem? hgt;obtain⟨_,_,_,_,_,hs⟩:=hv.inv;have e:H8 p (n+1) t v=b86 (H8 p n) g v:=by simp only[H8,hgt]
  rw[e];simp only[b31,hgt]at hm;have hf:=d81 hm;refine e9h hp (B:=fun t v=>OkD v/\SizeOf.sizeOf v<=n/\NoX v/\∃lev,b31 p n t v lev=0) (d2i n) (fun t v=>c35 hp n t v) t ht g hgt v hv x1 hf fun x hx o ho he=>?_
  have z1:=szS hx;obtain⟨_,_,_,q1,q2,_⟩:=(hs x hx).inv;have h1:=hf.field x hx;rw[<-he,e06 hp hg ho]at h1;obtain⟨f4,f5,f6⟩:=c09 h1;obtain⟨_,_,y2,y3⟩:=(x2 x hx).inv;refine⟨fun h4 h5 hk=>⟨hs x hx,by omega,x2 x hx,_,b8o hp (f6 h4 h5) hk⟩,fun h4 hk y hy=>⟨q1 y hy,by have:=szL hy;omega,y2 y hy,_,b8o hp ((f4 h4).2.2 y hy) hk⟩,fun h5 hk y hy=>⟨(q2 y hy).2,by have:=szP hy;omega,y3 y hy,_,b8o hp ((f5 h5).2.2.1 y hy).2 hk⟩⟩
end
mutual
def bA:AV->Nat
 |.v (.string s)=>s.size+1
 |.sl els _=>bLL els+1
 |.agg cells=>bL cells+1
 |_=>1
def bL:List AV->Nat
 |[]=>0
 |a::l=>bA a+bL l
def bLL:List (List AV)->Nat
 |[]=>0
 |a::l=>bL a+bLL l
end
theorem c3w:∀(a b:List AV),bL (a++b)=bL a+bL b
 |[],b=>by simp[bL]
 |x::a,b=>by simp[bL,c3w a b,Nat.add_assoc]
theorem c6b:∀(l:List (List AV)),bL l.flatten=bLL l
 |[]=>by simp[bL,bLL]
 |x::l=>by simp[c3w,bLL,c6b l]
def wtV(v:A0):Nat:=bL (C0 v)
def a1i{α:Type}(f:α->Nat):List α->Nat
 |[]=>0
 |x::l=>f x+a1i f l
theorem f09{α:Type}(f:α->List AV):∀l:List α,bLL (l.map f)=a1i (fun x=>bL (f x)) l
 |[]=>rfl
 |x::l=>by simp[bLL,a1i,f09 f l]
abbrev wtP(x:A0 × A0):Nat:=wtV x.1+wtV x.2
abbrev wtS(x:Int × A0):Nat:=1+wtV x.2
abbrev wtR(x:H5):Nat:=4+x.Data.size
theorem b8s(v:A0):wtV v=7+v.Text.size+a1i wtV v.List_+a1i wtP v.Pairs+a1i wtS v.Slots+a1i wtR v.Raws:=by
 have e1:(fun x:A0 × A0=>bL (A8 x))=wtP:=by funext x;simp[A8,c3w,wtV,wtP]
 have e2:(fun x:Int × A0=>bL (B4 x))=wtS:=by funext x;simp[B4,c3w,wtV,wtS,bL,bA]
 have e3:(fun x:H5=>bL (I8 x))=wtR:=by funext x;simp[I8,bL,bA,wtR];omega
 have e4:(fun x:A0=>bL (C0 x))=wtV:=rfl;rw[wtV,U3];simp only[A5,bL,bA,f09,e1,e2,e3,e4];omega
theorem b9i{α:Type}(f:α->Nat){l:List α}{x:α}(h:x∈l):f x<=a1i f l:=by
 induction l with
 |nil=>cases h
 |cons y l ih=>
  rcases List.mem_cons.1 h with h|h
  ·subst h;simp only[a1i];omega
  ·have:=ih h;simp only[a1i];omega
theorem b3r{α:Type}(f:α->Nat)(k:Nat):∀{l:List α},(∀x∈l,k<=f x)->l.length*k<=a1i f l
 |[],_=>by simp[a1i]
 |x::l,h=>by
  have h1:=h x (by simp);have h2:=b3r f k (l:=l) fun y hy=>h y (by simp[hy])
  simp only[a1i,List.length_cons,Nat.add_mul];omega
theorem f7u(v:A0):7<=wtV v:=by rw[b8s];omega
theorem g32(v:A0):(∀x∈v.List_,wtV x<=wtV v)/\(∀x∈v.Pairs,wtV x.1+wtV x.2<=wtV v)/\(∀x∈v.Slots,wtV x.2<=wtV v):=by
 have e:=b8s v;refine⟨fun x hx=>?_,fun x hx=>?_,fun x hx=>?_⟩
 ·have:=b9i wtV hx;omega
 ·have:=b9i wtP hx;simp only[wtP]at this;omega
 ·have:=b9i wtS hx;simp only[wtS]at this;omega
theorem f0r(v:A0):v.Text.size+v.List_.length+v.Pairs.length+v.Slots.length+v.Raws.length<=wtV v:=by
 have e:=b8s v;have h1:=b3r wtV 1 (l:=v.List_) fun x _=>by have:=f7u x;omega
 have h2:=b3r wtP 1 (l:=v.Pairs) fun x _=>by have:=f7u x.1;simp only[wtP];omega
 have h3:=b3r wtS 1 (l:=v.Slots) fun x _=>by simp only[wtS];omega
 have h4:=b3r wtR 1 (l:=v.Raws) fun x _=>by simp only[wtR];omega
 omega
theorem e1o{α:Type}(f:α->Int)(g:α->Nat):∀{l:List α},(∀x∈l,0<=f x/\f x<=g x)->0<=(l.map f).sum/\(l.map f).sum<=a1i g l
 |[],_=>by simp[a1i]
 |x::l,h=>by
  have h1:=h x (by simp);have h2:=e1o f g (l:=l) fun y hy=>h y (by simp[hy])
  simp only[List.map_cons,List.sum_cons,a1i];omega
theorem d7d:∀(n:Nat) (v:A0),0<=a25 n v/\a25 n v<=wtV v
 |0,v=>by simp[a25]
 |n+1,v=>by
  have e:=b8s v;have h1:=e1o (a25 n) wtV (l:=v.List_) fun x _=>d7d n x
  have h2:=e1o (fun x:A0 × A0=>a25 n x.1+a25 n x.2) wtP (l:=v.Pairs) fun x _=>by
   have a:=d7d n x.1;have b:=d7d n x.2;simp only[wtP];omega
  have h3:=e1o (fun x:Int × A0=>a25 n x.2) wtS (l:=v.Slots) fun x _=>by
   have a:=d7d n x.2;simp only[wtS];omega
  have h4:=b3r wtR 1 (l:=v.Raws) fun x _=>by simp only[wtR];omega
  simp only[a25];omega
def c0h(v:A0):List A0:=v.List_++(v.Pairs.flatMap fun x=>[x.1,x.2])++v.Slots.map fun x=>x.2
theorem f25(v:A0)(hv:OkD v)(hw:wtV v<=274877906944):c1c v (c0h v):=by
 have hl:=f0r v;obtain⟨_,_,⟨la,pa,sa,ra⟩,_,_,_⟩:=hv.inv;have w1:=D6 hv.w.1;refine c7z _ _ ⟨a6b _ (by omega),?_⟩
 have j6:∀d i (acc:List A0),v.Slots.length - i<=d->i<=v.Slots.length->acc.length+(v.Slots.length - i)<=549755813888->a8y i v acc (acc++(v.Slots.drop i).map fun x=>x.2):=by
  intro d
  induction d with
  |zero=>
   intro i acc hd hi ha;have e:i=v.Slots.length:=by omega
   subst e;exact a5a _ _ _ _ ⟨fun h=>by simp at h,fun _=>by simp⟩
  |succ d ih=>
   intro i acc hd hi ha;rcases Nat.lt_or_ge i v.Slots.length with hlt|hge
   ·have e1:wI ((i:Int)+1)=((i+1:Nat):Int):=by rw[wI,D3 (by omega)];omega
    have dl:v.Slots.drop i=v.Slots[i]::v.Slots.drop (i+1):=List.drop_eq_getElem_cons hlt;refine a5a _ _ _ _ ⟨fun _=>⟨v.Slots[i],by simp,by omega,by simp;omega,?_⟩,fun h=>by simp at h;omega⟩;rw[e1,dl];have:=ih (i+1) (acc++[v.Slots[i].2]) (by omega) (by omega) (by simp;omega);rw[List.append_assoc]at this;exact this
   ·have e:i=v.Slots.length:=by omega
    subst e;exact a5a _ _ _ _ ⟨fun h=>by simp at h,fun _=>by simp⟩
 have j4:∀d i (acc:List A0),v.Pairs.length - i<=d->i<=v.Pairs.length->acc.length+2*(v.Pairs.length - i)+v.Slots.length<=549755813888->a80 i v acc (acc++((v.Pairs.drop i).flatMap fun x=>[x.1,x.2])++v.Slots.map fun x=>x.2):=by
  intro d
  induction d with
  |zero=>
   intro i acc hd hi ha;have e:i=v.Pairs.length:=by omega
   subst e;refine a5c _ _ _ _ ⟨fun h=>by simp at h,fun _=>?_⟩;have:=j6 v.Slots.length 0 acc (by omega) (by omega) (by omega);simpa using this
  |succ d ih=>
   intro i acc hd hi ha;rcases Nat.lt_or_ge i v.Pairs.length with hlt|hge
   ·have e1:wI ((i:Int)+1)=((i+1:Nat):Int):=by rw[wI,D3 (by omega)];omega
    have dl:v.Pairs.drop i=v.Pairs[i]::v.Pairs.drop (i+1):=List.drop_eq_getElem_cons hlt;refine a5c _ _ _ _ ⟨fun _=>⟨v.Pairs[i],by simp,by omega,by simp;omega,?_⟩,fun h=>by simp at h;omega⟩;rw[e1,dl];have:=ih (i+1) (acc++[v.Pairs[i].1,v.Pairs[i].2]) (by omega) (by omega) (by simp;omega);rw[List.flatMap_cons,<-List.append_assoc acc];exact this
   ·have e:i=v.Pairs.length:=by omega
    subst e;refine a5c _ _ _ _ ⟨fun h=>by simp at h,fun _=>?_⟩;have:=j6 v.Slots.length 0 acc (by omega) (by omega) (by omega);simpa using this
 have h:=j4 v.Pairs.length 0 v.List_ (by omega) (by omega) (by omega);simpa[c0h]using h
theorem e8h(f:A0->Int)(v:A0):((c0h v).map f).sum=(v.List_.map f).sum+(v.Pairs.map fun x=>f x.1+f x.2).sum+(v.Slots.map fun x=>f x.2).sum:=by
 have key:∀l:List (A0 × A0),((l.flatMap fun x=>[x.1,x.2]).map f).sum=(l.map fun x=>f x.1+f x.2).sum:=by
  intro l
  induction l with
  |nil=>rfl
  |cons x l ih=>simp only[List.flatMap_cons,List.map_append,List.sum_append,List.map_cons,List.map_nil,List.sum_cons,List.sum_nil,ih];omega
 simp only[c0h,List.map_append,List.sum_append,key,List.map_map];rfl
theorem c38:∀(n:Nat) (v:A0),OkD v->SizeOf.sizeOf v<=n->wtV v<=274877906944->b2n v (wI (a25 n v))
 |0,v,_,h,_=>by have:=szV v;omega
 |n+1,v,hv,hn,hw=>by
  obtain⟨_,_,_,hl,hp,hs⟩:=hv.inv;obtain⟨m1,m2,m3⟩:=g32 v;have hlen:=f0r v;refine c65 _ _ ⟨_,f25 v hv hw,?_⟩
  have e:a25 (n+1) v=1+(v.Raws.length:Int)+((c0h v).map (a25 n)).sum:=by
   rw[e8h];simp only[a25];omega
  have il:(c0h v).length<=3298534883328:=by
   have:(v.Pairs.flatMap fun x=>[x.1,x.2]).length=2*v.Pairs.length:=by
    generalize v.Pairs=l
    induction l with
    |nil=>rfl
    |cons x l ih=>simp only[List.flatMap_cons,List.length_append,ih,List.length_cons,List.length_nil];omega
   simp only[c0h,List.length_append,List.length_map,this];omega
  rw[e];refine d31 (J:=fun i a=>a83 i (c0h v) a _) (C:=fun(x:A0) b=>b2n x b) (E:=fun a=>wI (1+(v.Raws.length:Int)+((c0h v).map (a25 n)).sum)=a) (a25 n) (c0h v) (fun i a hw=>c1f i _ a _ hw) (by omega) (fun x hx=>?_) _ rfl;rcases List.mem_append.1 hx with hx|hx
  ·rcases List.mem_append.1 hx with hx|hx
   ·exact c38 n x (hl x hx) (by have:=szL hx;omega) (by have:=m1 x hx;omega)
   ·obtain⟨y,hy,hz⟩:=List.mem_flatMap.1 hx;have:=m2 y hy;have z1:=szP hy;rcases List.mem_cons.1 hz with h|h
    ·subst h;exact c38 n _ (hp y hy).1 (by omega) (by omega)
    ·have:=List.mem_singleton.1 h;subst this;exact c38 n _ (hp y hy).2 (by omega) (by omega)
  ·obtain⟨y,hy,rfl⟩:=List.mem_map.1 hx;exact c38 n _ (hs y hy) (by have:=szS hy;omega) (by have:=m3 y hy;omega)
noncomputable def d1r(p:A7)(n:Nat)(t:Int)(v:A0):Int:=orE (b31 p n t v 1) (if 4096<wI (a25 n v) then 3 else 0)
section
variable {p:A7}(hp:OkX p)
 include hp
theorem f3h(n:Nat)(t:Int)(g:B8)(v:A0)(hgt:p.Progs[t.toNat]? =some g)(ht:0<=t)(hv:OkD v)(hn:SizeOf.sizeOf v<=n)(hw:wtV v<=274877906944):c81 p t v (d1r p n t v):=by
 have hlt:t.toNat<p.Progs.length:=(List.getElem?_eq_some_iff.1 hgt).1;have off:((decide (t<0))||(decide ((p.Progs.length:Int)<=t)))=false:=by simp;omega
 refine d2d _ _ _ _ ⟨fun h=>(by rw[off]at h;cases h),fun _=>⟨g,hgt,ht,_,e0h hp n t g v 1 hgt ht hv hn (by decide) (by decide),fun h=>?_,fun h=>⟨_,c38 n v hv hn hw,fun h2=>?_,fun h2=>?_⟩⟩⟩
 ·rw[d1r,orE,if_pos (by simpa using h)]
 ·rw[d1r,orE,if_neg (by simpa using h),if_pos (by simpa using h2)]
 ·rw[d1r,orE,if_neg (by simpa using h),if_neg (by simpa using h2)]
end
theorem b2i(a b:ByteArray):bI (a++b)=bI a++bI b:=by simp[bI]
def d03:List ByteArray->ByteArray
 |[]=>⟨#[]⟩
 |x::l=>x++d03 l
theorem b3p(a b c:ByteArray):(a++b)++c=a++(b++c):=ByteArray.append_assoc
theorem c4b(a:ByteArray):a++(⟨#[]⟩:ByteArray)=a:=ByteArray.append_empty
theorem d7f(l:List ByteArray):(d03 l).size=a1i ByteArray.size l:=by
 induction l with
 |nil=>rfl
 |cons x l ih=>simp only[d03,a1i,L7,ih]
theorem b6z{α β:Type}(f:β->Nat)(g:α->β):∀l:List α,a1i f (l.map g)=a1i (fun x=>f (g x)) l
 |[]=>rfl
 |x::l=>by simp only[List.map_cons,a1i,b6z f g l]
theorem c0w{α:Type}{f g:α->Nat}:∀{l:List α},(∀x∈l,f x<=g x)->a1i f l<=a1i g l
 |[],_=>by simp[a1i]
 |x::l,h=>by
  have h1:=h x (by simp);have h2:=c0w (l:=l) fun y hy=>h y (by simp[hy])
  simp only[a1i];omega
theorem d5g{α:Type}(k:Nat)(f:α->Nat):∀l:List α,a1i (fun x=>k*f x) l=k*a1i f l
 |[]=>by simp[a1i]
 |x::l=>by simp only[a1i,d5g k f l,Nat.mul_add]
abbrev d1z:=Int->A0->ByteArray
def b38(W:d1z)(o:GOp)(v:A0):ByteArray:=if o.Kind=10 then W o.Target v else d4z v
def c43(W:d1z)(o:GOp)(x:A0 × A0):ByteArray:=d4z x.1++b38 W o x.2
def b7j(W:d1z)(o:GOp)(x:A0)(set:Bool):ByteArray:=
 if o.Card=4 then b4a x.List_.length++d03 (x.List_.map (b38 W o))
 else if o.Card=5 then b4a x.Pairs.length++d03 (x.Pairs.map (c43 W o))
 else if o.Card=1 then b38 W o x
 else if set=true then(⟨#[1]⟩:ByteArray)++b38 W o x else⟨#[0]⟩
def b2l(W:d1z):List GOp->List (Int × A0)->ByteArray
 |[],_=>⟨#[]⟩
 |o::ops,[]=>b7j W o V0 false++b2l W ops []
 |o::ops,s::S=>if s.1=o.Num then b7j W o s.2 true++b2l W ops S else b7j W o V0 false++b2l W ops (s::S)
def a3s(p:A7):Nat->d1z
 |0,_,_=>⟨#[]⟩
 |n+1,t,v=>match p.Progs[t.toNat]? with
  |none=>⟨#[]⟩
  |some g=>b2l (a3s p n) g.Ops v.Slots
def b8y(R:GOp->A0->Prop):List GOp->List (Int × A0)->Prop
 |[],S=>S=[]
 |o::ops,[]=>o.Card≠1/\b8y R ops []
 |o::ops,s::S=>(s.1=o.Num->R o s.2/\b8y R ops S)/\(s.1≠o.Num->o.Card≠1/\b8y R ops (s::S))
def NfF(B:Int->A0->Prop)(o:GOp)(z:A0):Prop:=
 OkD z/\(o.Card=4->∀y∈z.List_,o.Kind=10->B o.Target y)/\(o.Card=5->∀y∈z.Pairs,o.Kind=10->B o.Target y.2)/\(o.Card≠4->o.Card≠5->o.Kind=10->B o.Target z)
def NfV(p:A7):Nat->Int->A0->Prop
 |0,_,_=>False
 |n+1,t,x=>∃g,p.Progs[t.toNat]? =some g/\0<=t/\OkD x/\b8y (NfF (NfV p n)) g.Ops x.Slots
theorem d6x(v:A0)(hv:OkV v):(d4z v).size<=10+v.Text.size:=by
 have ht:=hv.t;have hb:=hv.b1;have hn:=hv.b0;unfold d4z;split
 ·split
  ·rw[b63];simp;omega
  split
  ·have:=a9p (f2c (wI v.Bits)) (e0d (d3r _));omega
  split
  ·rw[d4h];omega
  split
  ·rw[L7];have:=a9p v.Text.size (by omega);omega
  ·have:=a9p v.Bits.toNat (by omega);omega
 ·show 0<=_;omega
section
variable {W:d1z}{B:Int->A0->Prop}(hS:∀t x,B t x->(W t x).size<=1000000*wtV x)
 include hS
theorem c5e(o:GOp)(y:A0)(hy:OkV y)(hb:o.Kind=10->B o.Target y):(b38 W o y).size<=1000000*wtV y:=by
 unfold b38;split
 ·rename_i h;exact hS _ _ (hb h)
 ·have h1:=d6x y hy;have h2:=b8s y;omega
theorem e3n(o:GOp)(z:A0)(hz:NfF B o z):(b7j W o z true).size<=11+1000000*wtV z:=by
 obtain⟨hd,h4,h5,h6⟩:=hz;obtain⟨_,_,⟨la,pa,sa,ra⟩,hl,hp,hs⟩:=hd.inv;have b1:=D6 la;have b2:=D6 pa;have e:=b8s z;unfold b7j;split
 ·rename_i hc;rw[L7,d7f,b6z];have h1:=a9p z.List_.length (by omega);have h2:=c0w (l:=z.List_) (f:=fun y=>(b38 W o y).size) (g:=fun y=>1000000*wtV y) fun y hy=>c5e hS o y (hl y hy).okv (h4 hc y hy)
  rw[d5g]at h2;omega
 split
 ·rename_i hc;rw[L7,d7f,b6z];have h1:=a9p z.Pairs.length (by omega)
  have h2:=c0w (l:=z.Pairs) (f:=fun y=>(c43 W o y).size) (g:=fun y=>1000000*wtP y) fun y hy=>by
   have a:=c5e hS o y.2 (hp y hy).2.okv (h5 hc y hy);have b:=d6x y.1 (hp y hy).1.okv;have c:=b8s y.1;simp only[c43,L7,wtP];omega
  rw[d5g]at h2;omega
 ·rename_i n4 n5;have h1:=c5e hS o z hd.okv (h6 n4 n5);split
  ·omega
  ·rw[if_pos rfl,L7];have:(⟨#[1]⟩:ByteArray).size=1:=rfl;omega
theorem d3l(o:GOp)(h1:o.Card≠1):(b7j W o V0 false).size<=11:=by
 have e:(b4a 0).size<=10:=a9p 0 (by omega);unfold b7j
 by_cases h4:o.Card=4
 ·rw[if_pos h4,L7];have:(d03 (V0.List_.map (b38 W o))).size=0:=rfl;have:(b4a V0.List_.length)=b4a 0:=rfl;rw[this];omega
 by_cases h5:o.Card=5
 ·rw[if_neg h4,if_pos h5,L7];have:(d03 (V0.Pairs.map (c43 W o))).size=0:=rfl;have:(b4a V0.Pairs.length)=b4a 0:=rfl;rw[this];omega
 ·rw[if_neg h4,if_neg h5,if_neg h1,if_neg (by decide)];show 1<=11;omega
theorem b9o:∀(ops:List GOp) (S:List (Int × A0)),b8y (NfF B) ops S->(b2l W ops S).size<=11*ops.length+1000000*a1i wtS S
 |[],S,_=>by show 0<=_;omega
 |o::ops,[],h=>by
  have h1:=d3l (W:=W) hS o h.1;have h2:=b9o ops [] h.2;simp only[b2l,L7,List.length_cons];omega
 |o::ops,s::S,h=>by
  simp only[b2l];split
  ·rename_i he;obtain⟨hr,hm⟩:=h.1 he;have h1:=e3n hS o s.2 hr;have h2:=b9o ops S hm;simp only[L7,List.length_cons,a1i,wtS];omega
  ·rename_i he;obtain⟨hr,hm⟩:=h.2 he;have h1:=d3l (W:=W) hS o hr;have h2:=b9o ops (s::S) hm;simp only[L7,List.length_cons];omega
end
theorem f1i{p:A7}(hp:OkX p){g:B8}(hg:g∈p.Progs):g.Ops.length<=65535:=by
 have h:=c2c (hp.va.asc g hg);have hn:=hp.va.num g hg;rcases Nat.lt_or_ge 65535 g.Ops.length with hlt|hge
 ·have key:∀i (hi:i<g.Ops.length),(i:Int)+1<=g.Ops[i].Num:=by
   intro i
   induction i with
   |zero=>intro hi;have:=(hn _ (List.getElem_mem hi)).1;simpa using this
   |succ i ih=>
    intro hi;have h1:=ih (by omega);have h2:=List.pairwise_iff_getElem.1 h i (i+1) (by omega) hi (by omega);omega
  have h1:=key 65535 hlt;have h2:=(hn _ (List.getElem_mem hlt)).2;omega
 ·exact hge
theorem d7b{p:A7}(hp:OkX p):∀(n:Nat) (t:Int) (x:A0),NfV p n t x->(a3s p n t x).size<=1000000*wtV x
 |0,t,x,h=>h.elim
 |n+1,t,x,⟨g,hgt,ht,hx,hm⟩=>by
  have hg:g∈p.Progs:=List.mem_of_getElem? hgt;have h1:=b9o (d7b hp n) g.Ops x.Slots hm;have h2:=f1i hp hg;have e:=b8s x;simp only[a3s,hgt];omega
section
variable {p:A7}(hp:OkX p)
variable {W:d1z}{B:Int->A0->Prop}(hW:∀(t:Int) (x:A0) (out:List Int),B t x->out.length+(W t x).size<=140737488355328->Z4 ⟨p,out⟩ t x ⟨p,out++bI (W t x)⟩)
theorem c44(out:List Int)(s:ByteArray)(h:out.length+s.size<=140737488355328):X0 ⟨p,out⟩ s ⟨p,out++bI s⟩:=
 c0q _ _ _ ⟨by rw[a98];simpa using h,rfl⟩
 include hW
theorem d43(out:List Int)(o:GOp)(y:A0)(hy:OkV y)(hb:o.Kind=10->B o.Target y)(h:out.length+(b38 W o y).size<=140737488355328):Y5 ⟨p,out⟩ o y ⟨p,out++bI (b38 W o y)⟩:=by
 unfold b38 at h ⊢;refine b8k _ _ _ _ ⟨fun hk=>?_,fun hk=>⟨_,d6h y hy,?_⟩⟩
 ·have hk':o.Kind=10:=by simpa using hk
  rw[if_pos hk']at h ⊢;exact⟨_,hW _ y out (hb hk') h,rfl⟩
 ·have hk':¬o.Kind=10:=by simpa using hk
  rw[if_neg hk']at h ⊢;exact⟨_,c44 out _ h,rfl⟩
variable {g:B8}{x:A0}{r:E2}
theorem f3a(i at_:Nat)(hi:i<=140737488351232)(o:GOp)(l:List A0)(hl:l.length<=140737488351232)(hv:∀y∈l,OkV y/\(o.Kind=10->B o.Target y)):∀d k (out:List Int),l.length - k<=d->k<=l.length->out.length+(d03 ((l.drop k).map (b38 W o))).size<=140737488355328->C8 ((i+1:Nat):Int) g at_ p.Progs p.Enums (out++bI (d03 ((l.drop k).map (b38 W o)))) x r->T7 k l at_ i g p.Progs p.Enums out x o r:=by
 have e0:wI ((i:Int)+1)=((i+1:Nat):Int):=by rw[wI,D3 (by omega)];omega
 have fin:∀(out:List Int),C8 ((i+1:Nat):Int) g at_ p.Progs p.Enums (out++bI (d03 ((l.drop l.length).map (b38 W o)))) x r->T7 (l.length:Nat) l at_ i g p.Progs p.Enums out x o r:=by
  intro out h;rw[List.drop_length]at h;refine a20 _ _ _ _ _ _ _ _ _ _ _ ⟨fun h=>by simp at h,fun _=>?_⟩;rw[e0];have e:bI (d03 (List.map (b38 W o) []))=[]:=rfl;rw[e,List.append_nil]at h;exact h
 intro d
 induction d with
 |zero=>
  intro k out hd hk _ h;have e:k=l.length:=by omega
  subst e;exact fin out h
 |succ d ih=>
  intro k out hd hk hsz h;rcases Nat.lt_or_ge k l.length with hlt|hge
  ·have e1:wI ((k:Int)+1)=((k+1:Nat):Int):=by rw[wI,D3 (by omega)];omega
   have dl:l.drop k=l[k]::l.drop (k+1):=List.drop_eq_getElem_cons hlt;have hx:=hv _ (List.getElem_mem hlt);rw[dl,List.map_cons,d03]at h hsz;rw[L7]at hsz;rw[b2i,<-List.append_assoc]at h;refine a20 _ _ _ _ _ _ _ _ _ _ _ ⟨fun _=>⟨l[k],by simp,by omega,_,d43 hW out o _ hx.1 hx.2 (by omega),?_⟩,fun h=>by simp at h;omega⟩;rw[e1];exact ih (k+1) _ (by omega) (by omega) (by rw[List.length_append,a98];omega) h
  ·have e:k=l.length:=by omega
   subst e;exact fin out h
theorem e6u(i at_:Nat)(hi:i<=140737488351232)(o:GOp)(l:List (A0 × A0))(hl:l.length<=140737488351232)(hv:∀y∈l,OkV y.1/\OkV y.2/\(o.Kind=10->B o.Target y.2)):∀d k (out:List Int),l.length - k<=d->k<=l.length->out.length+(d03 ((l.drop k).map (c43 W o))).size<=140737488355328->C8 ((i+1:Nat):Int) g at_ p.Progs p.Enums (out++bI (d03 ((l.drop k).map (c43 W o)))) x r->T0 k l at_ i g p.Progs p.Enums out x o r:=by
 have e0:wI ((i:Int)+1)=((i+1:Nat):Int):=by rw[wI,D3 (by omega)];omega
 have fin:∀(out:List Int),C8 ((i+1:Nat):Int) g at_ p.Progs p.Enums (out++bI (d03 ((l.drop l.length).map (c43 W o)))) x r->T0 (l.length:Nat) l at_ i g p.Progs p.Enums out x o r:=by
  intro out h;rw[List.drop_length]at h;refine a2r _ _ _ _ _ _ _ _ _ _ _ ⟨fun h=>by simp at h,fun _=>?_⟩;rw[e0];have e:bI (d03 (List.map (c43 W o) []))=[]:=rfl;rw[e,List.append_nil]at h;exact h
 intro d
 induction d with
 |zero=>
  intro k out hd hk _ h;have e:k=l.length:=by omega
  subst e;exact fin out h
 |succ d ih=>
  intro k out hd hk hsz h;rcases Nat.lt_or_ge k l.length with hlt|hge
  ·have e1:wI ((k:Int)+1)=((k+1:Nat):Int):=by rw[wI,D3 (by omega)];omega
   have dl:l.drop k=l[k]::l.drop (k+1):=List.drop_eq_getElem_cons hlt;have hx:=hv _ (List.getElem_mem hlt);rw[dl,List.map_cons,d03,c43,b3p]at h hsz;rw[L7,L7]at hsz;rw[b2i,b2i,<-List.append_assoc,<-List.append_assoc]at h;refine a2r _ _ _ _ _ _ _ _ _ _ _ ⟨fun _=>⟨l[k],by simp,by omega,_,d6h _ hx.1,_,c44 out _ (by omega),_,d43 hW _ o _ hx.2.1 hx.2.2 (by rw[List.length_append,a98];omega),?_⟩,fun h=>by simp at h;omega⟩;rw[e1];exact ih (k+1) _ (by omega) (by omega) (by rw[List.length_append,List.length_append,a98,a98];omega) h
  ·have e:k=l.length:=by omega
   subst e;exact fin out h
theorem g3j(i at_:Nat)(hi:i<=140737488351232)(o:GOp)(z:A0)(set:Bool)(hz:set=true->NfF B o z)(h0:set=false->z=V0/\o.Card≠1)(out:List Int)(hsz:out.length+(b7j W o z set).size<=140737488355328)(h:C8 ((i+1:Nat):Int) g at_ p.Progs p.Enums (out++bI (b7j W o z set)) x r):T2 at_ set i g p.Progs p.Enums out x o z.Kind z.Bits z.Text z.List_ z.Pairs z.Slots z.Raws r:=by
 have e0:wI ((i:Int)+1)=((i+1:Nat):Int):=by rw[wI,D3 (by omega)];omega
 have hok:OkD z:=by
  rcases Bool.eq_false_or_eq_true set with q|q
  ·exact(hz q).1
  ·rw[(h0 q).1];have zz:Sz 0:=Nat.zero_le _;exact .mk _ (show I64 0 from⟨by decide,by decide⟩) (show U64 0 from⟨by decide,by decide⟩) zz zz zz zz zz (fun x hx=>by cases hx) (fun x hx=>by cases hx) (fun x hx=>by cases hx) (fun x hx=>by cases hx) (fun x hx=>by cases hx) (fun x hx=>by cases hx) ⟨zz,zz,zz,zz⟩
 obtain⟨_,_,⟨la,pa,sa,ra⟩,hl,hps,hs⟩:=hok.inv;have b1:=D6 la;have b2:=D6 pa;unfold b7j at hsz h
 have ev1:a3i (wU (z.List_.length:Int)) (b4a z.List_.length):=by
  have:=d79 z.List_.length (by omega)
  rwa [show((z.List_.length:Nat):Int)=wU (z.List_.length:Int) by rw[wU,b2o (by omega)]]at this
 have ev2:a3i (wU (z.Pairs.length:Int)) (b4a z.Pairs.length):=by
  have:=d79 z.Pairs.length (by omega)
  rwa [show((z.Pairs.length:Nat):Int)=wU (z.Pairs.length:Int) by rw[wU,b2o (by omega)]]at this
 refine b1x _ _ _ _ _ _ _ _ _ _ _ _ _ _ _ _ _ ⟨fun h1=>?_,fun h1=>⟨fun h4=>⟨_,ev1,?_⟩,fun h4=>⟨fun h5=>⟨_,ev2,?_⟩,fun h5=>⟨fun hs=>?_,fun hs=>?_⟩⟩⟩⟩
 ·have hc:o.Card=1:=by simpa using h1
  rw[if_neg (by omega),if_neg (by omega),if_pos hc]at hsz h
  have hset:set=true:=by
   rcases Bool.eq_false_or_eq_true set with q|q
   ·exact q
   ·exact absurd hc (h0 q).2
  refine⟨_,d43 hW out o z hok.okv ((hz hset).2.2.2 (by omega) (by omega)) hsz,?_⟩;rw[e0];exact h
 all_goals (have h1':¬o.Card=1:=by simpa using h1)
 ·have hc:o.Card=4:=by simpa using h4
  rw[if_pos hc]at hsz h;rw[L7]at hsz;rw[b2i,<-List.append_assoc]at h
  have hv:∀y∈z.List_,OkV y/\(o.Kind=10->B o.Target y):=fun y hy=>⟨(hl y hy).okv,fun hk=>by
   rcases Bool.eq_false_or_eq_true set with q|q
   ·exact(hz q).2.1 hc y hy hk
   ·rw[(h0 q).1]at hy;cases hy⟩
  refine⟨_,c44 out _ (by omega),?_⟩;exact f3a hW i at_ hi o z.List_ b1 hv _ 0 _ (Nat.le_refl _) (by omega) (by rw[List.length_append,a98,List.drop_zero];omega) (by rw[List.drop_zero];exact h)
 all_goals (have h4':¬o.Card=4:=by simpa using h4)
 ·have hc:o.Card=5:=by simpa using h5
  rw[if_neg h4',if_pos hc]at hsz h;rw[L7]at hsz;rw[b2i,<-List.append_assoc]at h
  have hv:∀y∈z.Pairs,OkV y.1/\OkV y.2/\(o.Kind=10->B o.Target y.2):=fun y hy=>⟨(hps y hy).1.okv,(hps y hy).2.okv,fun hk=>by
   rcases Bool.eq_false_or_eq_true set with q|q
   ·exact(hz q).2.2.1 hc y hy hk
   ·rw[(h0 q).1]at hy;cases hy⟩
  refine⟨_,c44 out _ (by omega),?_⟩;exact e6u hW i at_ hi o z.Pairs b2 hv _ 0 _ (Nat.le_refl _) (by omega) (by rw[List.length_append,a98,List.drop_zero];omega) (by rw[List.drop_zero];exact h)
 all_goals (have h5':¬o.Card=5:=by simpa using h5)
 all_goals rw[if_neg h4',if_neg h5',if_neg h1']at hsz h
 ·have q:set=false:=by simpa using hs
  rw[if_neg (by simp[q])]at hsz h;refine⟨_,c44 out _ hsz,?_⟩;rw[e0];exact h
 ·have q:set=true:=by simpa using hs
  rw[if_pos q]at hsz h;rw[L7]at hsz;rw[b2i,<-List.append_assoc]at h;refine⟨_,c44 out _ (by omega),_,d43 hW _ o z hok.okv ((hz q).2.2.2 h4' h5') (by rw[List.length_append,a98];omega),?_⟩;rw[e0];exact h
theorem g06(hg:g.Ops.length<=140737488351232)(hxs:x.Slots.length<=140737488351232):∀d i at_ (out:List Int),g.Ops.length - i<=d->i<=g.Ops.length->at_<=x.Slots.length->b8y (NfF B) (g.Ops.drop i) (x.Slots.drop at_)->out.length+(b2l W (g.Ops.drop i) (x.Slots.drop at_)).size<=140737488355328->r=⟨p,out++bI (b2l W (g.Ops.drop i) (x.Slots.drop at_))⟩->C8 i g at_ p.Progs p.Enums out x r:=by
 have fin:∀at_ (out:List Int),r=⟨p,out++bI (b2l W (g.Ops.drop g.Ops.length) (x.Slots.drop at_))⟩->C8 (g.Ops.length:Nat) g at_ p.Progs p.Enums out x r:=by
  intro at_ out h;rw[List.drop_length]at h;have e:bI (b2l W [] (x.Slots.drop at_))=[]:=by cases x.Slots.drop at_<;>rfl
  rw[e,List.append_nil]at h;exact X7 _ _ _ _ _ _ _ _ ⟨fun h=>by simp at h,fun _=>h⟩
 intro d
 induction d with
 |zero=>
  intro i at_ out hd hi _ _ _ h;have e:i=g.Ops.length:=by omega
  subst e;exact fin at_ out h
 |succ d ih=>
  intro i at_ out hd hi hat hm hsz h;rcases Nat.lt_or_ge i g.Ops.length with hlt|hge
  ·have dl:g.Ops.drop i=g.Ops[i]::g.Ops.drop (i+1):=List.drop_eq_getElem_cons hlt;rw[dl]at hm hsz h
   -- what lies there,set or not
   have key:∀(at2:Nat) (z:A0) (set:Bool),at2<=x.Slots.length->(set=true->NfF B g.Ops[i] z)->(set=false->z=V0/\g.Ops[i].Card≠1)->b8y (NfF B) (g.Ops.drop (i+1)) (x.Slots.drop at2)->b2l W (g.Ops[i]::g.Ops.drop (i+1)) (x.Slots.drop at_)=b7j W g.Ops[i] z set++b2l W (g.Ops.drop (i+1)) (x.Slots.drop at2)->T2 at2 set i g p.Progs p.Enums out x g.Ops[i] z.Kind z.Bits z.Text z.List_ z.Pairs z.Slots z.Raws r:=by
    intro at2 z set h1 h2 h3 h4 h5;rw[h5,L7]at hsz;rw[h5,b2i,<-List.append_assoc]at h;refine g3j hW i at2 (by omega) g.Ops[i] z set h2 h3 out (by omega) ?_;exact ih (i+1) at2 _ (by omega) (by omega) h1 h4 (by rw[List.length_append,a98];omega) h
   have e1:wI ((at_:Int)+1)=((at_+1:Nat):Int):=by rw[wI,D3 (by omega)];omega
   rcases Nat.lt_or_ge at_ x.Slots.length with hs|hs
   ·have ds:x.Slots.drop at_=x.Slots[at_]::x.Slots.drop (at_+1):=List.drop_eq_getElem_cons hs;rw[ds]at hm;refine X7 _ _ _ _ _ _ _ _ ⟨fun _=>⟨g.Ops[i],by simp,by omega,fun b=>b=(x.Slots[at_].1==g.Ops[i].Num),fun b hb=>⟨fun h6=>⟨x.Slots[at_],by simp,by omega,?_⟩,fun h6=>?_⟩,fun _=>⟨x.Slots[at_],by simp,by omega,rfl⟩,fun h6=>by simp at h6;omega⟩,fun h=>by simp at h;omega⟩
    ·have he:x.Slots[at_].1=g.Ops[i].Num:=by rw[h6]at hb;simpa using hb.symm
     obtain⟨q1,q2⟩:=hm.1 he;rw[e1];subst h6;refine key (at_+1) x.Slots[at_].2 true hs (fun _=>q1) (fun h=>by cases h) q2 ?_;rw[ds];simp only[b2l];rw[if_pos he]
    ·have he:x.Slots[at_].1≠g.Ops[i].Num:=by rw[h6]at hb;simpa using hb.symm
     obtain⟨q1,q2⟩:=hm.2 he;subst h6;refine key at_ V0 false hat (fun h=>by cases h) (fun _=>⟨rfl,q1⟩) (by rw[ds];exact q2) ?_;rw[ds];simp only[b2l];rw[if_neg he]
   ·have ds:x.Slots.drop at_=[]:=List.drop_eq_nil_of_le hs;rw[ds]at hm;refine X7 _ _ _ _ _ _ _ _ ⟨fun _=>⟨g.Ops[i],by simp,by omega,fun b=>b=false,fun b hb=>⟨fun h6=>?_,fun h6=>?_⟩,fun h6=>by simp at h6;omega,fun _=>rfl⟩,fun h=>by simp at h;omega⟩
    ·rw[h6]at hb;cases hb
    ·subst hb;refine key at_ V0 false hat (fun h=>by cases h) (fun _=>⟨rfl,hm.1⟩) (by rw[ds];exact hm.2) ?_;rw[ds];simp only[b2l]
  ·have e:i=g.Ops.length:=by omega
   subst e;exact fin at_ out h
end
theorem d75{p:A7}(hp:OkX p):∀(n:Nat) (t:Int) (x:A0) (out:List Int),NfV p n t x->out.length+(a3s p n t x).size<=140737488355328->Z4 ⟨p,out⟩ t x ⟨p,out++bI (a3s p n t x)⟩
 |0,t,x,out,h,_=>h.elim
 |n+1,t,x,out,⟨g,hgt,ht,hx,hm⟩,hsz=>by
  have hg:g∈p.Progs:=List.mem_of_getElem? hgt;have e:a3s p (n+1) t x=b2l (a3s p n) g.Ops x.Slots:=by simp only[a3s,hgt]
  rw[e]at hsz ⊢;refine b54 _ _ _ _ ⟨g,hgt,ht,?_⟩;exact g06 (B:=NfV p n) (fun t x out hb hs=>d75 hp n t x out hb hs) (hp.ops hg) (D6 hx.okv.s) _ 0 0 out (Nat.le_refl _) (by omega) (by omega) (by rw[List.drop_zero,List.drop_zero];exact hm) (by rw[List.drop_zero,List.drop_zero];exact hsz) (by rw[List.drop_zero,List.drop_zero])
theorem d48{R:GOp->A0->Prop}:∀{ops:List GOp}{S:List (Int × A0)},b8y R ops S->∀s∈S,∃q∈ops,q.Num=s.1
 |[],S,h,s,hs=>by rw[h]at hs;cases hs
 |o::ops,[],h,s,hs=>by cases hs
 |o::ops,x::S,h,s,hs=>by
  by_cases e:x.1=o.Num
  ·rcases List.mem_cons.1 hs with h1|h1
   ·subst h1;exact⟨o,by simp,e.symm⟩
   ·obtain⟨q,hq,he⟩:=d48 (h.1 e).2 s h1;exact⟨q,by simp[hq],he⟩
  ·obtain⟨q,hq,he⟩:=d48 (h.2 e).2 s hs;exact⟨q,by simp[hq],he⟩
section
variable {p:A7}(hp:OkX p)
variable {W:d1z}{B:Int->A0->Prop}(hW:∀(t:Int) (x:A0),B t x->e3t p t x (W t x))
 include hW
variable {t:Int}{x:A0}{r:ByteArray}
variable {g:B8}(hgt:p.Progs[t.toNat]? =some g) (ht:0<=t) (hg:g.Ops.length<=140737488351232) (hxs:x.Slots.length<=140737488351232)
 include hgt ht hg hxs
end
theorem c8k{R R':GOp->A0->Prop}:∀{ops:List GOp}{S:List (Int × A0)},(∀s∈S,∀o,R o s.2->R' o s.2)->b8y R ops S->b8y R' ops S
 |[],S,_,h=>h
 |o::ops,[],hr,h=>⟨h.1,c8k hr h.2⟩
 |o::ops,x::S,hr,h=>⟨fun e=>⟨hr x (by simp) o (h.1 e).1,c8k (fun s hs=>hr s (by simp[hs])) (h.1 e).2⟩,fun e=>⟨(h.2 e).1,c8k hr (h.2 e).2⟩⟩
theorem e5c{R:GOp->A0->Prop}(F:GOp->List (Int × A0)):∀(ops:List GOp),ops.Pairwise (fun a b=>a.Num<b.Num)->(∀o∈ops,(F o=[]/\o.Card≠1)\/∃z,F o=[(o.Num,z)]/\R o z)->b8y R ops (ops.flatMap F)
 |[],_,_=>rfl
 |o::ops,hasc,h=>by
  obtain⟨h1,h2⟩:=List.pairwise_cons.1 hasc;have ih:=e5c F ops h2 fun q hq=>h q (by simp[hq])
  rw[List.flatMap_cons];rcases h o (by simp) with⟨e,hc⟩|⟨z,e,hr⟩
  ·rw[e,List.nil_append];have hsub:=d48 ih;generalize ops.flatMap F=S at ih hsub;cases S with
   |nil=>exact⟨hc,ih⟩
   |cons s S=>
    obtain⟨q,hq,hn⟩:=hsub s (by simp);have:=h1 q hq;exact⟨fun he=>by omega,fun _=>⟨hc,ih⟩⟩
  ·rw[e];exact⟨fun _=>⟨hr,ih⟩,fun he=>absurd rfl he⟩
theorem d5a{β:Type}(G:GOp->Int × A0->List β){o:GOp}{x:Int × A0}:∀{l:List (Int × A0)},g21 l->x∈l->x.1=o.Num->c6f G l o=G o x
 |[],_,hx,_=>by cases hx
 |y::l,hd,hx,he=>by
  obtain⟨h1,h2⟩:=List.pairwise_cons.1 hd;rcases List.mem_cons.1 hx with h3|h3
  ·subst h3;have:c6f G l o=[]:=b7u G fun z hz=>by have:=h1 z hz;omega
   unfold c6f at this ⊢;rw[List.flatMap_cons,this,if_pos he,List.append_nil]
  ·have:=h1 x h3;have ih:=d5a G h2 h3 he;unfold c6f at ih ⊢;rw[List.flatMap_cons,if_neg (by omega),List.nil_append];exact ih
section
variable {p:A7}(hp:OkX p)
 include hp
theorem e9k:∀(n:Nat) (t:Int) (g:B8) (v:A0) (lev:Int),p.Progs[t.toNat]? =some g->0<=t->OkD v->SizeOf.sizeOf v<=n->b31 p n t v lev=0->NfV p n t (H8 p n t v)
 |0,t,g,v,lev,_,_,_,h,_=>by have:=szV v;omega
 |n+1,t,g,v,lev,hgt,ht,hv,hn,hm=>by
  have hg:g∈p.Progs:=List.mem_of_getElem? hgt;have hok:=c35 hp (n+1) t v hv;obtain⟨_,_,_,_,_,hs⟩:=hv.inv;have e:H8 p (n+1) t v=b86 (H8 p n) g v:=by simp only[H8,hgt]
  simp only[b31,hgt]at hm;have hf:=d81 hm;refine⟨g,hgt,ht,hok,?_⟩;have hasc:=c2c (hp.va.asc g hg)
  have hT:=b8d (fun o x=>a5f (H8 p n) o x.1 x.2) g.Ops v.Slots hasc hf.diff fun x hx=>by
   obtain⟨h1,h2⟩:=c93 (hf.known x hx);exact⟨_,h2,h1⟩
  have es:(H8 p (n+1) t v).Slots=g.Ops.flatMap (c6f (fun o x=>a5f (H8 p n) o x.1 x.2) v.Slots):=by
   rw[e,hT];rfl
  rw[es];refine e5c _ _ hasc fun o ho=>?_
  by_cases hex:∃x∈v.Slots,x.1=o.Num
  ·obtain⟨x,hx,he⟩:=hex;rw[d5a _ hf.diff hx he];have h1:=hf.field x hx;rw[he,e06 hp hg ho]at h1;obtain⟨f4,f5,f6⟩:=c09 h1;have z1:=szS hx;obtain⟨_,_,_,q1,q2,_⟩:=(hs x hx).inv
   have ho':∀hk:o.Kind=10,∃g',p.Progs[o.Target.toNat]? =some g'/\0<=o.Target:=fun hk=>by
    obtain⟨t0,t1,_⟩:=((hp.va.pro g hg).2 _ ho).msg hk;have hlt:o.Target.toNat<p.Progs.length:=by omega
    exact⟨_,List.getElem?_eq_getElem hlt,t0⟩
   have elem:∀y,OkD y->SizeOf.sizeOf y<=n->b75 (b31 p n) p o y lev=0->o.Kind=10->NfV p n o.Target (a5o (H8 p n) o y):=fun y hy hz h hk=>by
    obtain⟨g',h1,h2⟩:=ho' hk;rw[a5o,if_pos hk];exact e9k n o.Target g' y _ h1 h2 hy hz (b8o hp h hk)
   simp only[a5f];split
   ·refine .inr ⟨_,by rw[he],c8i (N:=H8 p n) (B:=fun _=>False) hp (fun _ _ _ _ _ hf=>hf.elim) (fun t v=>c35 hp n t v) o _ (hs x hx),fun hc y hy hk=>?_,fun hc y hy hk=>?_,fun h4 h5 hk=>?_⟩
    ·rw[a64,if_pos hc]at hy;obtain⟨y',hy',rfl⟩:=List.mem_map.1 hy;have:=elem y' (q1 y' hy') (by have:=szL hy';omega) ((f4 hc).2.2 y' hy') hk
     rwa [a5o,if_pos hk]at this ⊢
    ·rw[a64,if_neg (by omega),if_pos hc]at hy;obtain⟨y',hy',rfl⟩:=List.mem_map.1 hy;have hy2:=a5t hy';have:=elem y'.2 (q2 y' hy2).2 (by have:=szP hy2;omega) ((f5 hc).2.2.1 y' hy2).2 hk;exact this
    ·have:=elem x.2 (hs x hx) (by omega) (f6 h4 h5) hk;rw[a64,if_neg h4,if_neg h5];exact this
   ·rename_i hb;refine .inl ⟨rfl,fun hc=>hb ?_⟩;have:d5r o=false:=by unfold d5r;simp[hc]
    rw[this];rfl
  ·refine .inl ⟨b7u _ fun x hx he=>hex ⟨x,hx,he⟩,fun hc=>?_⟩;obtain⟨x,hx,he⟩:=hf.need o ho hc;exact hex ⟨x,hx,he⟩
end
theorem d0h{α:Type}{c:α->α->Int}(f:α->Nat)(x:α):∀l:List α,a1i f (a7f c x l)=f x+a1i f l
 |[]=>by simp[a7f,a1i]
 |y::l=>by
  simp only[a7f];split
  ·simp only[a1i,d0h f x l];omega
  ·simp only[a1i]
theorem b5e{α:Type}{c:α->α->Int}(f:α->Nat):∀l:List α,a1i f (S4 c l)<=a1i f l
 |[]=>by simp[S4,a1i]
 |x::l=>by
  have ih:=b5e (c:=c) f l;simp only[S4];split
  ·rw[d0h];simp only[a1i];omega
  ·simp only[a1i];omega
theorem e7a{α:Type}{c:α->α->Int}(f:α->Nat):∀l:List α,a1i f (sC c l)=a1i f l
 |[]=>rfl
 |x::l=>by rw[sC,d0h,e7a f l];rfl
theorem d0r{α:Type}(f:α->Nat):∀l m:List α,a1i f (l++m)=a1i f l+a1i f m
 |[],m=>by simp[a1i]
 |x::l,m=>by simp only[List.cons_append,a1i,d0r f l m];omega
theorem d1l{α β:Type}{f:β->Nat}{g:α->Nat}{h:α->List β}:∀{l:List α},(∀x∈l,a1i f (h x)<=g x)->a1i f (l.flatMap h)<=a1i g l
 |[],_=>by simp[a1i]
 |x::l,hh=>by
  have h1:=hh x (by simp);have h2:=d1l (l:=l) fun y hy=>hh y (by simp[hy])
  rw[List.flatMap_cons,d0r];simp only[a1i];omega
theorem e0u(v:A0):wtV (Z8 v)=wtV v:=by
 unfold Z8;split
 ·rw[b8s,b8s]
 ·rfl
section
variable {N:d2f}(hN:∀t v,wtV (N t v)<=wtV v)
 include hN
theorem d4o(o:GOp)(v:A0):wtV (a5o N o v)<=wtV v:=by
 unfold a5o;split
 ·exact hN _ _
 ·rw[e0u];omega
theorem f5s(o:GOp)(v:A0):wtV (a64 N o v)<=wtV v:=by
 have e:=b8s v;unfold a64;split
 ·rw[b8s ⟨11,_,_,_,_,_,_⟩];have h:=c0w (l:=v.List_) (f:=fun x=>wtV (a5o N o x)) (g:=wtV) fun x _=>d4o hN o x
  have hs:(⟨#[]⟩:ByteArray).size=0:=rfl;simp only[b6z,a1i,hs];omega
 split
 ·rw[b8s ⟨12,_,_,_,_,_,_⟩]
  have h:=c0w (l:=b0i v.Pairs) (f:=fun x=>wtP (Z8 x.1,a5o N o x.2)) (g:=wtP) fun x _=>by
   have a:=d4o hN o x.2;have b:=e0u x.1;simp only[wtP];omega
  have h2:=b5e (c:=kc (SizeOf.sizeOf v.Pairs)) wtP v.Pairs;have hs:(⟨#[]⟩:ByteArray).size=0:=rfl;simp only[b6z,a1i,hs];have e2:a1i wtP (b0i v.Pairs)<=a1i wtP v.Pairs:=h2;omega
 ·exact d4o hN o v
theorem f5b(g:B8)(v:A0):wtV (b86 N g v)<=wtV v:=by
 have e:=b8s v
 have h:=d1l (l:=S4 kn v.Slots) (f:=wtS) (g:=wtS) (h:=fun x=>a5f N (opV g x.1).1 x.1 x.2) fun x _=>by
  have a:=f5s hN (opV g x.1).1 x.2;simp only[a5f];split
  ·simp only[a1i,wtS];omega
  ·simp[a1i]
 have h2:=b5e (c:=kn) wtS v.Slots;have h3:=e7a (c:=kr) wtR v.Raws;have hs:(⟨#[]⟩:ByteArray).size=0:=rfl;rw[b86,b8s ⟨10,_,_,_,_,_,_⟩];simp only[a1i,hs];omega
end
theorem e9y(p:A7):∀(n:Nat) (t:Int) (v:A0),wtV (H8 p n t v)<=wtV v
 |0,t,v=>by
  have e:=b8s v;have:wtV (H8 p 0 t v)=7:=rfl;omega
 |n+1,t,v=>by
  simp only[H8];split
  ·have e:=b8s v;have:wtV (⟨0,0,⟨#[]⟩,[],[],[],[]⟩:A0)=7:=rfl;omega
  ·exact f5b (e9y p n) _ v
abbrev Rs(α:Type):=Except Int (α × A3)
def E3{α β:Type}(a:Rs α)(f:α->A3->Rs β):Rs β:=
 match a with
 |.error e=>.error e
 |.ok x=>f x.1 x.2
def adv(c:A3)(k n:Int):A3:=⟨c.Data,c.At+k,c.End,c.Depth,c.Nodes - n,c.Text⟩
structure Snd(c:A3):Prop where
 sz:c.Data.size<=140737488351232
 a0:0<=c.At
 a1:c.At<=c.End
 a2:c.End<=(c.Data.size:Int)
 d0:0<=c.Depth
 d1:c.Depth<=4611686018427387904
 n0:0<=c.Nodes
 n1:c.Nodes<=4611686018427387904
theorem Snd.okc{c:A3}(h:Snd c):OkC c:=⟨h.sz,by have:=h.a0;omega,by have:=h.a1;have:=h.a2;have:=h.sz;omega⟩
theorem Snd.left{c:A3}(h:Snd c):a1b c.Data c.At c.End=c.End - c.At:=by
 have:b13 c.Data c.At c.End=true:=by
  have:=h.a0;have:=h.a1;have:=h.a2;simp[b13];omega
 rw[a1b,if_pos this]
theorem Snd.rest{c:A3}(h:Snd c):O9 c=c.Data.extract c.At.toNat c.End.toNat:=by
 have:=h.a0;have:=h.a1;rw[O9,h.left]
 congr 1
 omega
theorem Snd.size{c:A3}(h:Snd c):((O9 c).size:Int)=c.End - c.At:=by rw[a89,h.left]
theorem Snd.adv{c:A3}(h:Snd c){k n:Int}(hk:0<=k/\k<=c.End - c.At)(hn:0<=n/\n<=c.Nodes):Snd (adv c k n):=by
 have a0:=h.a0;have a1:=h.a1;have a2:=h.a2;have n0:=h.n0;have n1:=h.n1;refine⟨h.sz,?_,?_,a2,h.d0,h.d1,?_,?_⟩<;>simp only[Lift.adv]<;>omega
theorem f1h(a:ByteArray):(⟨#[]⟩:ByteArray)++a=a:=ByteArray.empty_append
theorem e1b(l:List UInt8):(⟨l.toArray⟩:ByteArray).data.toList=l:=by simp
theorem d6m{a b:ByteArray}(h:a.data.toList=b.data.toList):a=b:=ByteArray.ext (Array.ext' h)
theorem c1r(a b:ByteArray):(a++b).data.toList=a.data.toList++b.data.toList:=by simp[ByteArray.data_append]
theorem f2g{a b c d:ByteArray}(h:a++b=c++d):(∃s,c=a++s/\b=s++d)\/∃s,a=c++s/\d=s++b:=by
 have e:=congrArg (fun x:ByteArray=>x.data.toList) h;simp only[c1r]at e;rcases List.append_eq_append_iff.1 e with⟨l,h1,h2⟩|⟨l,h1,h2⟩
 ·exact .inl ⟨⟨l.toArray⟩,d6m (by rw[c1r,e1b];exact h1),d6m (by rw[c1r,e1b];exact h2)⟩
 ·exact .inr ⟨⟨l.toArray⟩,d6m (by rw[c1r,e1b];exact h1),d6m (by rw[c1r,e1b];exact h2)⟩
theorem c2b{a b c:ByteArray}(h:a++b=a++c):b=c:=by
 have e:=congrArg (fun x:ByteArray=>x.data.toList) h;simp only[c1r]at e;exact d6m (List.append_cancel_left e)
theorem f2k{c:A3}(h:Snd c){b t:ByteArray}(hr:O9 c=b++t){n:Int}(hn:0<=n/\n<=c.Nodes):Snd (adv c b.size n)/\O9 (adv c b.size n)=t:=by
 have hs:=h.size;rw[hr,L7]at hs;have a0:=h.a0;have a1:=h.a1;have a2:=h.a2;have h2:=h.adv (k:=b.size) (n:=n) ⟨by omega,by omega⟩ hn;refine⟨h2,?_⟩
 have e1:b++O9 (adv c b.size n)=O9 c:=by
  rw[h.rest,h2.rest];refine e67 ?_ fun i hi=>?_
  ·rw[L7,a18 _ (by simp only[adv];omega),a18 _ (by omega)];simp only[adv];omega
  ·rw[L7,a18 _ (by simp only[adv];omega)]at hi;simp only[adv]at hi ⊢;rw[a1r _ (by omega)];rcases Nat.lt_or_ge i b.size with q|q
   ·rw[a79 _ _ q];have e:=congrArg (fun s=>I9 s i) hr;simp only[h.rest]at e;rw[a1r _ (by omega),a79 _ _ q]at e;exact e.symm
   ·have e:I9 (b++c.Data.extract (c.At+↑b.size).toNat c.End.toNat) i=I9 (c.Data.extract (c.At+↑b.size).toNat c.End.toNat) (i - b.size):=by
     unfold I9 F3;have hl:b.data.toList.length=b.size:=Array.length_toList;rw[c1r,List.getD_eq_getElem?_getD,List.getElem?_append_right (by omega),hl,<-List.getD_eq_getElem?_getD]
    rw[e,a1r _ (by omega)]
    congr 1
    omega
 rw[hr]at e1;exact c2b e1
def Ahd(c:A3)(b:ByteArray):Prop:=(∃t,O9 c=b++t)\/∃t,b=O9 c++t
theorem Ahd.left{c:A3}{a b:ByteArray}(h:Ahd c (a++b)):Ahd c a:=by
 rcases h with⟨t,h⟩|⟨t,h⟩
 ·exact .inl ⟨b++t,by rw[h,b3p]⟩
 ·rcases f2g h with⟨s,h1,_⟩|⟨s,h1,_⟩
  ·exact .inl ⟨s,h1⟩
  ·exact .inr ⟨s,h1⟩
theorem Ahd.right{c c':A3}{a b t:ByteArray}(h:Ahd c (a++b))(h1:O9 c=a++t)(h2:O9 c'=t):Ahd c' b:=by
 rcases h with⟨u,h⟩|⟨u,h⟩
 ·rw[h1,b3p]at h;exact .inl ⟨u,by rw[h2];exact c2b h⟩
 ·rw[h1,b3p]at h;exact .inr ⟨u,by rw[h2];exact c2b h⟩
structure a02 where
 d:Nat
 n:Nat
 l:Nat
def a02.add(a b:a02):a02:=⟨max a.d b.d,a.n+b.n,max a.l b.l⟩
def a02.none:a02:=⟨0,0,0⟩
theorem a02.add_none(a:a02):a.add .none=a:=by cases a;simp[a02.add,a02.none]
theorem a02.none_add(a:a02):a02.none.add a=a:=by cases a;simp[a02.add,a02.none]
theorem a02.add_assoc(a b c:a02):(a.add b).add c=a.add (b.add c):=by
 simp only[a02.add,a02.mk.injEq];omega
def Whl(c:A3)(b:ByteArray):Prop:=∃t,O9 c=b++t
def Got{α:Type}(c:A3)(b:ByteArray)(k:a02)(x:α)(r:Rs α):Prop:=
 match r with
 |.ok y=>y=(x,adv c b.size k.n)/\Whl c b/\(k.d:Int)<=c.Depth/\(k.n:Int)<=c.Nodes/\(k.l:Int)<=c.Text
 |.error e=>(e=4/\¬Whl c b)\/(e=17/\c.Depth<k.d)\/(e=3/\(c.Nodes<k.n\/c.Text<k.l))
def Rds{α:Type}(m:Nat)(b:ByteArray)(k:a02)(x:α)(f:A3->Rs α):Prop:=∀c,Snd c->0<=c.Text->c.Depth<=m->Ahd c b->Got c b k x (f c)
theorem g2i(c:A3)(a b n k:Int):adv (adv c a n) b k=adv c (a+b) (n+k):=by
 simp only[adv,A3.mk.injEq,true_and,and_true];omega
section
variable {α β:Type}{m:Nat}
theorem Rds.bind{b b':ByteArray}{k k':a02}{x:α}{y:β}{f:A3->Rs α}{g:α->A3->Rs β}(h:Rds m b k x f)(h2:Rds m b' k' y (g x)):Rds m (b++b') (k.add k') y (fun c=>E3 (f c) g):=by
 intro c hc ht hm hp;have h1:=h c hc ht hm hp.left;have cut:¬Whl c b->¬Whl c (b++b'):=fun q ⟨t,e⟩=>q ⟨b'++t,by rw[e,b3p]⟩
 show Got c _ _ _ (E3 (f c) g);cases hf:f c with
 |error e=>
  rw[hf]at h1;simp only[Got,E3,a02.add]at h1 ⊢;rcases h1 with⟨e1,q⟩|⟨e1,q⟩|⟨e1,q⟩
  ·exact .inl ⟨e1,cut q⟩
  ·exact .inr (.inl ⟨e1,by omega⟩)
  ·exact .inr (.inr ⟨e1,by omega⟩)
 |ok z=>
  rw[hf]at h1;obtain⟨rfl,⟨t,ha⟩,q1,q2,q3⟩:=h1;obtain⟨s1,s2⟩:=f2k hc ha (n:=k.n) ⟨by omega,q2⟩;have hp2:=hp.right ha s2;have h3:=h2 _ s1 ht hm hp2;simp only[E3];cases hg:g x (adv c b.size k.n) with
  |error e=>
   rw[hg]at h3;simp only[Got,a02.add,adv]at h3 ⊢;rcases h3 with⟨e1,q⟩|⟨e1,q⟩|⟨e1,q⟩
   ·refine .inl ⟨e1,fun⟨u,hu⟩=>q ⟨u,?_⟩⟩;rw[ha,b3p]at hu;have:=c2b hu;rw[<-this];exact s2
   ·exact .inr (.inl ⟨e1,by omega⟩)
   ·exact .inr (.inr ⟨e1,by omega⟩)
  |ok z=>
   rw[hg]at h3;obtain⟨rfl,⟨u,hu⟩,p1,p2,p3⟩:=h3;simp only[adv]at p1 p2 p3;simp only[Got,a02.add];refine⟨?_,⟨u,?_⟩,by omega,by omega,by omega⟩
   ·rw[g2i,L7];simp
   ·rw[ha,b3p,<-hu,s2]
theorem Rds.pure(x:α):Rds m ⟨#[]⟩ .none x (fun c=>.ok (x,c)):=by
 intro c hc ht hm hp;have:=hc.n0;have:=hc.d0;refine⟨?_,⟨O9 c,(f1h _).symm⟩,by simp[a02.none];omega,by simp[a02.none];omega,by simp[a02.none];omega⟩;have:((⟨#[]⟩:ByteArray).size:Int)=0:=rfl;simp[adv,a02.none,this]
theorem Rds.of{b b':ByteArray}{k k':a02}{x:α}{f:A3->Rs α}(h:Rds m b k x f)(hb:b=b')(hk:k=k'):Rds m b' k' x f:=by subst hb hk;exact h
theorem Rds.map{b:ByteArray}{k:a02}{x:α}{y:β}{f:A3->Rs α}(h:Rds m b k x f)(g:α->β)(e:g x=y):Rds m b k y (fun c=>E3 (f c) fun x c=>.ok (g x,c)):=by
 subst e;exact(Rds.bind h (Rds.pure (g x))).of (c4b b) (a02.add_none k)
end
abbrev RdM:=Int->A3->Rs A0
def spR(c:A3):Rs Unit:=if c.Nodes<1 then .error 3 else .ok ((),adv c 0 1)
def toR{α:Type}(r:α × A3 × Int):Rs α:=if r.2.2≠0 then .error r.2.2 else .ok (r.1,r.2.1)
def scR(p:A7)(k t:Int)(c:A3):Rs A0:=toR (b4v p k t c)
def elR(M:RdM)(p:A7)(k t:Int)(c:A3):Rs A0:=if k=10 then M t c else E3 (spR c) fun _ c=>scR p k t c
def cnR(c:A3):Rs Int:=E3 (toR (T8 c)) fun u c=>if 4096<u then .error 3 else if 0<u then E3 (spR c) fun _ c=>.ok (u,c) else .ok (u,c)
def lsR(M:RdM)(p:A7)(k t:Int):Nat->A3->Rs (List A0)
 |0,c=>.ok ([],c)
 |n+1,c=>E3 (elR M p k t c) fun x c=>E3 (lsR M p k t n c) fun l c=>.ok (x::l,c)
noncomputable def upB(a:Option A0)(k:A0):Bool:=match a with
 |none=>true
 |some b=>decide (Y2 (SizeOf.sizeOf b) b k<0)
abbrev upK(a:Option A0)(k:A0):Prop:=upB a k=true
noncomputable def prR(M:RdM)(p:A7)(key k t:Int):Nat->Option A0->A3->Rs (List (A0 × A0))
 |0,_,c=>.ok ([],c)
 |n+1,a,c=>E3 (elR M p key (-1) c) fun x c=>if upK a x then E3 (elR M p k t c) fun y c=>E3 (prR M p key k t n (some x) c) fun l c=>.ok ((x,y)::l,c) else .error 5
def c7x(g:B8)(sl:List (Int × A0))(o:GOp):Bool:=sl.any fun s=>(opV g s.1).2&&(decide (0<=o.Union)&&decide ((opV g s.1).1.Union=o.Union))
def myR(M:RdM)(p:A7)(g:B8)(sl:List (Int × A0))(o:GOp)(c:A3):Rs (A0 × Bool):=
 E3 (toR (a3e c)) fun b c=>if 1<b then .error 5 else if b=0 then .ok ((V0,false),c) else if c7x g sl o=true then .error 15
  else E3 (elR M p o.Kind o.Target c) fun x c=>if o.Card=3/\b8b x=true then .error 5 else .ok ((x,true),c)
noncomputable def fdR(M:RdM)(p:A7)(g:B8)(sl:List (Int × A0))(o:GOp)(c:A3):Rs (A0 × Bool):=
 if o.Card=1 then E3 (elR M p o.Kind o.Target c) fun x c=>.ok ((x,true),c)
 else if o.Card=4 then E3 (cnR c) fun n c=>E3 (lsR M p o.Kind o.Target n.toNat c) fun l c=>.ok ((⟨11,0,⟨#[]⟩,l,[],[],[]⟩, !l.isEmpty),c)
 else if o.Card=5 then E3 (cnR c) fun n c=>E3 (prR M p o.Key o.Kind o.Target n.toNat none c) fun l c=>.ok ((⟨12,0,⟨#[]⟩,[],l,[],[]⟩, !l.isEmpty),c)
 else myR M p g sl o c
noncomputable def c9x(M:RdM)(p:A7)(g:B8):List GOp->List (Int × A0)->A3->Rs (List (Int × A0))
 |[],sl,c=>.ok (sl,c)
 |o::ops,sl,c=>E3 (fdR M p g sl o c) fun x c=>c9x M p g ops (if x.2=true then sl++[(o.Num,x.1)] else sl) c
def a8e(c:A3)(n:Int):A3:=⟨c.Data,c.At,c.End,c.Depth - n,c.Nodes,c.Text⟩
noncomputable def msR(p:A7):Nat->RdM
 |0,_,_=>.error 17
 |n+1,t,c=>if c.Depth<1 then .error 17 else E3 (spR c) fun _ c=>match p.Progs[t.toNat]? with
  |none=>.error 17
  |some g=>E3 (c9x (msR p n) p g g.Ops [] (a8e c 1)) fun sl c=>.ok (⟨10,0,⟨#[]⟩,[],[],sl,[]⟩,a8e c (-1))
theorem Rds.spend{m:Nat}:Rds m ⟨#[]⟩ ⟨0,1,0⟩ () spR:=by
 intro c hc ht hm hp;have:=hc.n0;have:=hc.d0;unfold spR;split
 ·exact .inr (.inr ⟨rfl,by simp;omega⟩)
 ·refine⟨?_,⟨O9 c,(f1h _).symm⟩,by simp;omega,by simp;omega,by simp;omega⟩;have:((⟨#[]⟩:ByteArray).size:Int)=0:=rfl;simp[adv,this]
theorem b44(c:A3)(n:Int):a26 c n=adv c n 0:=by simp[a26,adv]
theorem e5a(s:ByteArray)(u:Nat):∀i acc:Nat,i<=9->u*128 ^ i<18446744073709551616->i<=s.size->s.size<i+(b33 u).length->(∀j x,i+j<s.size->(b33 u)[j]? =some x->((I9 s (i+j):Nat):Int)=x)->W6 s i acc=(0,0,4):=by
 induction u using Nat.strongRecOn with
 |_ u ih=>
  intro i acc hi hb hl hl2 hx;rw[W6.eq_def,if_neg (by omega)];rcases Nat.lt_or_ge i s.size with hlt|hge
  ·rw[if_neg (by omega)]
   by_cases h:u<128
   ·have hu:b33 u=[(u:Int)]:=by rw[b33,if_pos h]
    rw[hu]at hl2;simp at hl2;omega
   ·have hu:b33 u=((u % 128+128:Nat):Int)::b33 (u / 128):=by rw[b33,if_neg h]
    have h0:I9 s i=u % 128+128:=by
     have:=hx 0 _ (by omega) (by rw[hu];rfl);rw[Nat.add_zero]at this;omega
    have h9:i<=8:=by
     rcases Nat.lt_or_ge i 9 with h9|h9
     ·omega
     ·obtain rfl:i=9:=by omega
      have:(128:Nat) ^ 9=9223372036854775808:=by decide
      rw[this]at hb;omega
    have e2:u*128 ^ i=u % 128*128 ^ i+u / 128*128 ^ (i+1):=by
     rw[Nat.pow_succ,Nat.mul_comm (128 ^ i) 128,<-Nat.mul_assoc,<-Nat.add_mul]
     congr 1
     omega
    rw[h0,if_neg (by omega),if_neg (by omega)];rw[hu]at hl2
    exact ih (u / 128) (by omega) (i+1) _ (by omega) (by omega) (by omega) (by simp at hl2;omega) (fun j x hj hjx=>by
     have:=hx (j+1) x (by omega) (by rw[hu];simpa using hjx);rw[show i+1+j=i+(j+1) by omega];exact this)
  ·rw[if_pos hge]
theorem f3i(u:Nat)(hu:u<18446744073709551616)(s t:ByteArray)(h:b4a u=s++t)(ht:t.size≠0):W6 s 0 0=(0,0,4):=by
 have hz:(b4a u).size=(b33 u).length:=b63 _;have hz2:s.size+t.size=(b33 u).length:=by rw[<-hz,h,L7]
 refine e5a s u 0 0 (by omega) (by simpa using hu) (by omega) (by omega) (fun j x hj hjx=>?_);rw[Nat.zero_add];have:=c24 (d3f u) hjx
 have e:I9 (ofI (b33 u)) j=I9 s j:=by
  have:ofI (b33 u)=s++t:=h;rw[this,a79 _ _ (by omega)]
 rw[<-e];exact this
theorem d39{c:A3}{b t:ByteArray}(h:b=O9 c++t)(ht:t.size≠0):¬Whl c b:=fun⟨u,hu⟩=>by
 have:=congrArg ByteArray.size hu;rw[L7]at this;have e:=congrArg ByteArray.size h;rw[L7]at e;omega
theorem Ahd.two{c:A3}{b:ByteArray}(h:Ahd c b):Whl c b\/∃t,b=O9 c++t/\t.size≠0:=by
 rcases h with h|⟨t,h⟩
 ·exact .inl h
 ·by_cases e:t.size=0
  ·have:t=⟨#[]⟩:=g5y e;subst this;exact .inl ⟨⟨#[]⟩,by rw[h,c4b,c4b]⟩
  ·exact .inr ⟨t,h,e⟩
theorem Rds.num{m:Nat}(u:Nat)(hu:u<18446744073709551616):Rds m (b4a u) .none (u:Int) (fun c=>toR (T8 c)):=by
 intro c hc ht hm hp;have:=hc.n0;have:=hc.d0;show Got c _ _ _ (toR _);rcases hp.two with⟨t,h⟩|⟨t,h,h0⟩
 ·rw[g2b c u hu t h];refine⟨?_,⟨t,h⟩,by simp[a02.none];omega,by simp[a02.none];omega,by simp[a02.none];omega⟩;simp[b44,a02.none]
 ·have e:=f3i u hu _ t h h0
  have e2:T8 c=(0,c,4):=by
   unfold T8;rw[e];simp
  rw[e2];exact .inl ⟨rfl,d39 h h0⟩
theorem Rds.byte{m:Nat}(b:Int)(hb:0<=b/\b<256):Rds m (ofI [b]) .none b (fun c=>toR (a3e c)):=by
 intro c hc ht hm hp;have:=hc.n0;have:=hc.d0;show Got c _ _ _ (toR _);have hz:(ofI [b]).size=1:=b63 _;have hs:=hc.size;rcases hp.two with⟨t,h⟩|⟨t,h,h0⟩
 ·have e:a3e c=(b,a26 c 1,0):=by
   have h1:(I9 (O9 c) 0:Int)=b:=by
    rw[h,a79 _ _ (by omega)];exact c24 (a1z hb) rfl
   have h2:=congrArg ByteArray.size h;rw[L7]at h2;rw[hc.rest,a1r _ (by have:=hc.a0;omega),Nat.add_zero]at h1;rw[a3e,hc.left,if_pos (by omega),(b25 _ _).1,h1]
  rw[e];refine⟨?_,⟨t,h⟩,by simp[a02.none];omega,by simp[a02.none];omega,by simp[a02.none];omega⟩;simp[b44,a02.none,hz]
 ·have h2:=congrArg ByteArray.size h;rw[L7,hz]at h2;have e:a3e c=(0,c,4):=by rw[a3e,hc.left,if_neg (by omega)]
  rw[e];exact .inl ⟨rfl,d39 h h0⟩
theorem Rds.fix{m:Nat}(u:Nat)(hu:u<18446744073709551616):Rds m (e01 u) .none (u:Int) (fun c=>toR (c61 c)):=by
 intro c hc ht hm hp;have:=hc.n0;have:=hc.d0;show Got c _ _ _ (toR _);have hz:=d4h u;rcases hp.two with⟨t,h⟩|⟨t,h,h0⟩
 ·rw[g02 c u hu t h];refine⟨?_,⟨t,h⟩,by simp[a02.none];omega,by simp[a02.none];omega,by simp[a02.none];omega⟩;simp[b44,a02.none,hz]
 ·have h2:=congrArg ByteArray.size h;rw[L7,hz]at h2;have e:c61 c=(0,c,4):=by rw[c61,if_neg (by omega)]
  rw[e];exact .inl ⟨rfl,d39 h h0⟩
theorem Rds.txt{m:Nat}(s:ByteArray):Rds m s ⟨0,0,s.size⟩ s (fun c=>toR (a7g c s.size)):=by
 intro c hc ht hm hp;have:=hc.n0;have:=hc.d0;show Got c _ _ _ (toR _);have hs:=hc.size;rcases hp.two with⟨t,h⟩|⟨t,h,h0⟩
 ·have h2:=congrArg ByteArray.size h;rw[L7]at h2
  by_cases hl:c.Text<s.size
  ·have e:a7g c s.size=(⟨#[]⟩,c,3):=by rw[a7g,if_neg (by omega),hc.left,if_neg (by omega),if_pos hl]
   rw[e];exact .inr (.inr ⟨rfl,.inr hl⟩)
  ·have e:a7g c s.size=(s,a26 c s.size,0):=by
    rw[a7g,if_neg (by omega),hc.left,if_neg (by omega),if_neg hl];refine Prod.ext (show c.Data.extract c.At.toNat (c.At.toNat+((s.size:Nat):Int).toNat)=s from ?_) rfl;have a0:=hc.a0;have a1:=hc.a1;have a2:=hc.a2;refine e67 ?_ fun i hi=>?_
    ·rw[a18 _ (by omega)];omega
    ·rw[a18 _ (by omega)]at hi;rw[a1r _ (by omega)];have e:=congrArg (fun s=>I9 s i) h;simp only[hc.rest]at e;rw[a1r _ (by omega),a79 _ _ (by omega)]at e;exact e
   rw[e];refine⟨?_,⟨t,h⟩,by simp;omega,by simp;omega,by simp;omega⟩;simp[b44]
 ·have h2:=congrArg ByteArray.size h;rw[L7]at h2;have e:a7g c s.size=(⟨#[]⟩,c,4):=by rw[a7g,if_neg (by omega),hc.left,if_pos (by omega)]
  rw[e];exact .inl ⟨rfl,d39 h h0⟩
structure ScO(p:A7)(k t:Int)(y:A0):Prop where
 fit:a9h k y=true
 kind:y.Kind=k
 nrm:Z8 y=y
 acc:k=9->e0s p t y.Bits=true
 b:0<=y.Bits/\y.Bits<18446744073709551616
 lone:y.List_=[]/\y.Pairs=[]/\y.Slots=[]/\y.Raws=[]
theorem b05{α β:Type}(a:α × A3 × Int)(f:α->A3->Rs β):E3 (toR a) f=if a.2.2≠0 then .error a.2.2 else f a.1 a.2.1:=by
 unfold toR E3
 by_cases h:a.2.2=0<;>simp[h]
theorem f8j(p:A7)(t:Int)(c:A3):scR p 1 t c=E3 (toR (a3e c)) fun b c=>if 1<b then .error 5 else .ok (d40 1 b,c):=by
 rw[b05,scR,b4v,if_pos rfl]
 by_cases h:(a3e c).2.2≠0
 ·rw[if_pos h,if_pos h,toR,if_pos h]
 ·rw[if_neg h,if_neg h]
  by_cases h2:1<(a3e c).1
  ·rw[if_pos h2,if_pos h2];rfl
  ·rw[if_neg h2,if_neg h2];rfl
theorem g2c(p:A7)(t:Int)(c:A3):scR p 6 t c=E3 (toR (c61 c)) fun u c=>if(Z8 ⟨6,u,⟨#[]⟩,[],[],[],[]⟩).Bits≠u then .error 5 else .ok (⟨6,u,⟨#[]⟩,[],[],[],[]⟩,c):=by
 rw[b05,scR,b4v,if_neg (by decide),if_pos rfl,e3s]
 by_cases h:(c61 c).2.2≠0
 ·rw[if_pos h,if_pos h,toR,if_pos h]
 ·rw[if_neg h,if_neg h]
  by_cases h2:(Z8 ⟨6,(c61 c).1,⟨#[]⟩,[],[],[],[]⟩).Bits≠(c61 c).1
  ·rw[if_pos h2,if_pos h2];rfl
  ·rw[if_neg h2,if_neg h2];rfl
def txR(u:Int)(c:A3):Rs ByteArray:=if a1b c.Data c.At c.End<u then .error 4 else toR (a7g c u)
theorem f9x(p:A7)(k t:Int)(hk:k=7\/k=8)(c:A3):scR p k t c=E3 (toR (T8 c)) fun u c=>E3 (txR u c) fun s c=>if k=7/\b27 s=false then .error 7 else .ok (⟨k,0,s,[],[],[],[]⟩,c):=by
 rw[b05,scR,b4v,if_neg (by omega),if_neg (by omega),if_pos hk,d92]
 by_cases h:(T8 c).2.2≠0
 ·rw[if_pos h,if_pos h,toR,if_pos h]
 ·rw[if_neg h,if_neg h,txR]
  by_cases h2:a1b (T8 c).2.1.Data (T8 c).2.1.At (T8 c).2.1.End<(T8 c).1
  ·rw[if_pos h2,if_pos h2];rfl
  ·rw[if_neg h2,if_neg h2,b05]
   by_cases h3:(a7g (T8 c).2.1 (T8 c).1).2.2≠0
   ·rw[if_pos h3,if_pos h3,toR,if_pos h3]
   ·rw[if_neg h3,if_neg h3]
    by_cases h4:k=7/\b27 (a7g (T8 c).2.1 (T8 c).1).1=false
    ·rw[if_pos h4,if_pos h4];rfl
    ·rw[if_neg h4,if_neg h4];rfl
theorem f86(p:A7)(k t:Int)(hk:k=2\/k=3\/k=4\/k=5\/k=9)(c:A3):scR p k t c=E3 (toR (T8 c)) fun u c=>if a9h k (d40 k (d44 k u))=false then .error 6 else if k=9/\e0s p t u=false then .error 16 else .ok (d40 k (d44 k u),c):=by
 rw[b05,scR,b4v,if_neg (by omega),if_neg (by omega),if_neg (by omega),if_pos hk]
 by_cases h:(T8 c).2.2≠0
 ·rw[if_pos h,if_pos h,toR,if_pos h]
 ·rw[if_neg h,if_neg h]
  by_cases h2:a9h k (d40 k (d44 k (T8 c).1))=false
  ·rw[if_pos h2,if_pos h2];rfl
  ·rw[if_neg h2,if_neg h2]
   by_cases h3:k=9/\e0s p t (T8 c).1=false
   ·rw[if_pos h3,if_pos h3];rfl
   ·rw[if_neg h3,if_neg h3];rfl
theorem Rds.tx{m:Nat}(s:ByteArray):Rds m s ⟨0,0,s.size⟩ s (txR s.size):=by
 intro c hc ht hm hp;unfold txR;split
 ·rename_i h;rw[hc.left]at h;refine .inl ⟨rfl,fun⟨t,e⟩=>?_⟩;have h2:=congrArg ByteArray.size e;rw[L7]at h2;have:=hc.size;omega
 ·exact Rds.txt s c hc ht hm hp
section
variable {α β:Type}{m:Nat}
theorem Rds.fin{b:ByteArray}{k:a02}{x:α}{y:β}{f:A3->Rs α}(h:Rds m b k x f)(g:α->A3->Rs β)(e:∀c,g x c=.ok (y,c)):Rds m b k y (fun c=>E3 (f c) g):=by
 have e2:g x=fun c=>.ok (y,c):=funext e
 have h2:=Rds.bind (m:=m) (b':=⟨#[]⟩) (k':=.none) (y:=y) (g:=g) h (by rw[e2];exact Rds.pure y);exact h2.of (c4b b) (a02.add_none k)
end
theorem Rds.scal{m:Nat}{p:A7}{k t:Int}{y:A0}(h:ScO p k t y):Rds m (d4z y) ⟨0,0,y.Text.size⟩ y (scR p k t):=by
 obtain⟨f,hk,hn,ha,hb,l1,l2,l3,l4⟩:=h;obtain⟨K,B,T,L,P,S,R⟩:=y;simp only at hk hb ha l1 l2 l3 l4 ⊢;subst hk l1 l2 l3 l4;have f':a9h K ⟨K,B,T,[],[],[],[]⟩=true:=f;obtain⟨k1,k2,k3,k4⟩:=d3o ⟨K,B,T,[],[],[],[]⟩ f';simp only at k1 k2 k3 k4
 have tx:¬(K=7\/K=8)->T=⟨#[]⟩:=fun hk=>by
  unfold a9h at f';rw[if_neg hk]at f';simp only[Bool.and_eq_true,decide_eq_true_eq]at f';exact f'.2.1
 have key:∀u:Nat,u<18446744073709551616->¬(K=7\/K=8)->d4z ⟨K,B,T,[],[],[],[]⟩=b4a u->(K=2\/K=3\/K=4\/K=5\/K=9)->d44 K u=B->(K=9->(u:Int)=B)->Rds m (d4z ⟨K,B,T,[],[],[],[]⟩) ⟨0,0,T.size⟩ ⟨K,B,T,[],[],[],[]⟩ (scR p K t):=by
  intro u hu hk hp hk2 hv hv9;have et:=tx hk;subst et;rw[hp];have e:scR p K t=fun c=>E3 (toR (T8 c)) fun u c=>if a9h K (d40 K (d44 K u))=false then .error 6 else if K=9/\e0s p t u=false then .error 16 else .ok (d40 K (d44 K u),c):=funext (f86 p K t hk2)
  rw[e];refine(Rds.fin (Rds.num u hu) _ fun c=>?_).of rfl rfl;have f2:a9h K (d40 K B)=true:=f';rw[hv,if_neg (by rw[f2];simp),if_neg]
  ·rfl
  ·rintro⟨q1,q2⟩;rw[hv9 q1,ha q1]at q2;cases q2
 by_cases e1:K=1
 ·subst e1
  have hw:B<=1:=by
   have:=k4 (by decide);rw[a2p,if_pos rfl]at this;simpa using this
  have et:=tx (by decide);subst et
  have hp:d4z ⟨1,B,⟨#[]⟩,[],[],[],[]⟩=ofI [B]:=by
   unfold d4z;rw[if_pos f',if_pos rfl];simp only[show B % 256=B by omega]
  rw[hp];have e:scR p 1 t=fun c=>E3 (toR (a3e c)) fun b c=>if 1<b then .error 5 else .ok (d40 1 b,c):=funext (f8j p t)
  rw[e];refine(Rds.fin (Rds.byte B (by omega)) _ fun c=>?_).of rfl rfl;rw[if_neg (by omega)];rfl
 by_cases e23:K=2\/K=3
 ·have hw:=d3r B;refine key (f2c (wI B)) (e0d hw) (by omega) (by unfold d4z;rw[if_pos f',if_neg e1,if_pos e23]) (by omega) ?_ (by omega);unfold d44;rw[if_pos e23,Int.toNat_natCast,f9h,g92 hb]
 by_cases e6:K=6
 ·subst e6;have et:=tx (by decide);subst et
  have hp:d4z ⟨6,B,⟨#[]⟩,[],[],[],[]⟩=e01 B.toNat:=by
   unfold d4z;rw[if_pos f',if_neg e1,if_neg e23,if_pos rfl,hn]
  rw[hp];have e:scR p 6 t=fun c=>E3 (toR (c61 c)) fun u c=>if(Z8 ⟨6,u,⟨#[]⟩,[],[],[],[]⟩).Bits≠u then .error 5 else .ok (⟨6,u,⟨#[]⟩,[],[],[],[]⟩,c):=funext (g2c p t)
  rw[e];have eb:((B.toNat:Nat):Int)=B:=by omega
  refine(Rds.fin (Rds.fix B.toNat (by omega)) _ fun c=>?_).of rfl rfl;rw[eb,hn,if_neg (by simp)]
 by_cases e78:K=7\/K=8
 ·obtain⟨k5,k6,k7⟩:=k3 e78;subst k5;have hp:d4z ⟨K,0,T,[],[],[],[]⟩=b4a T.size++T:=by unfold d4z;rw[if_pos f',if_neg e1,if_neg e23,if_neg e6,if_pos e78]
  rw[hp];have e:scR p K t=fun c=>E3 (toR (T8 c)) fun u c=>E3 (txR u c) fun s c=>if K=7/\b27 s=false then .error 7 else .ok (⟨K,0,s,[],[],[],[]⟩,c):=funext (f9x p K t e78)
  rw[e];refine(Rds.bind (Rds.num T.size (by omega)) (Rds.fin (Rds.tx T) _ fun c=>?_)).of rfl (a02.none_add _);rw[if_neg];rintro⟨q1,q2⟩;rw[k7 q1]at q2;cases q2
 ·refine key B.toNat (by omega) e78 (by unfold d4z;rw[if_pos f',if_neg e1,if_neg e23,if_neg e6,if_neg e78]) (by omega) ?_ (by omega);unfold d44;rw[if_neg e23];omega
def b7n{α:Type}(f:α->a02):List α->a02
 |[]=>.none
 |x::l=>(f x).add (b7n f l)
def f0d(v:A0)(k:a02):a02:=⟨if v.Kind=10 then k.d+1 else k.d,k.n+1+v.Raws.length,max v.Text.size k.l⟩
def d5i:Nat->A0->a02
 |0,_=>.none
 |n+1,v=>f0d v ((b7n (d5i n) v.List_).add ((b7n (fun x=>(d5i n x.1).add (d5i n x.2)) v.Pairs).add (b7n (fun x=>d5i n x.2) v.Slots)))
theorem a78{α:Type}{f g:α->a02}:∀{l:List α},(∀x∈l,f x=g x)->b7n f l=b7n g l
 |[],_=>rfl
 |x::l,h=>by rw[b7n,b7n,h x (by simp),a78 fun y hy=>h y (by simp[hy])]
theorem b2u:∀(n m:Nat) (v:A0),SizeOf.sizeOf v<=n->SizeOf.sizeOf v<=m->d5i n v=d5i m v
 |0,_,v,h,_=>by have:=szV v;omega
 |_+1,0,v,_,h=>by have:=szV v;omega
 |n+1,m+1,v,h1,h2=>by
  simp only[d5i];rw[a78 (l:=v.List_) fun x hx=>b2u n m x (by have:=szL hx;omega) (by have:=szL hx;omega)];rw[a78 (l:=v.Pairs) fun x hx=>by rw[b2u n m x.1 (by have:=szP hx;omega) (by have:=szP hx;omega),b2u n m x.2 (by have:=szP hx;omega) (by have:=szP hx;omega)]];rw[a78 (l:=v.Slots) fun x hx=>b2u n m x.2 (by have:=szS hx;omega) (by have:=szS hx;omega)]
noncomputable def cV(v:A0):a02:=d5i (SizeOf.sizeOf v) v
noncomputable abbrev cP(x:A0 × A0):a02:=(cV x.1).add (cV x.2)
noncomputable abbrev cS(x:Int × A0):a02:=cV x.2
theorem d69(v:A0):cV v=f0d v ((b7n cV v.List_).add ((b7n cP v.Pairs).add (b7n cS v.Slots))):=by
 have h0:=szV v;obtain⟨n,hn⟩:∃n,SizeOf.sizeOf v=n+1:=⟨SizeOf.sizeOf v - 1,by omega⟩
 rw[cV,hn];simp only[d5i];rw[a78 (l:=v.List_) (g:=cV) fun x hx=>b2u n _ x (by have:=szL hx;omega) (Nat.le_refl _)];rw[a78 (l:=v.Pairs) (g:=cP) fun x hx=>by rw[b2u n _ x.1 (by have:=szP hx;omega) (Nat.le_refl _),b2u n _ x.2 (by have:=szP hx;omega) (Nat.le_refl _)];rfl];rw[a78 (l:=v.Slots) (g:=cS) fun x hx=>b2u n _ x.2 (by have:=szS hx;omega) (Nat.le_refl _)]
theorem ScO.cost{p:A7}{k t:Int}{y:A0}(h:ScO p k t y):cV y=⟨0,1,y.Text.size⟩:=by
 obtain⟨a,b,c,d⟩:=h.lone;have hk:=h.kind;have hf:=h.fit
 have hn:y.Kind≠10:=by
  rw[<-hk]at hf;have:=(d3o y hf).2.1;omega
 rw[d69,a,b,c,f0d,if_neg hn,d];simp[b7n,a02.add,a02.none]
def ElO(p:A7)(B:Int->A0->Prop)(k t:Int)(y:A0):Prop:=(k=10->B t y)/\(k≠10->ScO p k t y)
section
variable {m:Nat}{p:A7}{W:d1z}{B:Int->A0->Prop}{M:RdM}(hM:∀t y,B t y->Rds m (W t y) (cV y) y (M t))
theorem Rds.sc{k t:Int}{y:A0}(h:ScO p k t y)(hk:k≠10):Rds m (d4z y) (cV y) y (elR M p k t):=by
 have e:elR M p k t=fun c=>E3 (spR c) fun _ c=>scR p k t c:=by funext c;rw[elR,if_neg hk]
 rw[e];refine(Rds.bind Rds.spend (Rds.scal h)).of (f1h _) ?_;rw[h.cost];simp[a02.add]
 include hM
theorem Rds.el{o:GOp}{y:A0}(h:ElO p B o.Kind o.Target y):Rds m (b38 W o y) (cV y) y (elR M p o.Kind o.Target):=by
 unfold b38;split
 ·rename_i hk;have e:elR M p o.Kind o.Target=M o.Target:=by funext c;rw[elR,if_pos hk]
  rw[e];exact hM _ _ (h.1 hk)
 ·rename_i hk;exact Rds.sc (h.2 hk) hk
theorem Rds.ls{o:GOp}:∀l:List A0,(∀y∈l,ElO p B o.Kind o.Target y)->Rds m (d03 (l.map (b38 W o))) (b7n cV l) l (lsR M p o.Kind o.Target l.length)
 |[],_=>Rds.pure []
 |x::l,h=>by
  have e:lsR M p o.Kind o.Target (x::l).length=fun c=>E3 (elR M p o.Kind o.Target c) fun x c=>E3 (lsR M p o.Kind o.Target l.length c) fun l c=>.ok (x::l,c):=by funext c;rw[List.length_cons,lsR]
  rw[e];exact Rds.bind (Rds.el hM (h x (by simp))) (Rds.map (Rds.ls l fun y hy=>h y (by simp[hy])) (fun l=>x::l) rfl)
theorem Rds.pr{o:GOp}(hk:o.Key≠10):∀(l:List (A0 × A0)) (a:Option A0),(∀x∈l,ScO p o.Key (-1) x.1/\ElO p B o.Kind o.Target x.2)->(∀b,a=some b->∀x∈l,Y2 (SizeOf.sizeOf b) b x.1<0)->l.Pairwise (fun x y=>Y2 (SizeOf.sizeOf x.1) x.1 y.1<0)->Rds m (d03 (l.map (c43 W o))) (b7n cP l) l (prR M p o.Key o.Kind o.Target l.length a)
 |[],a,_,_,_=>by
  have e:prR M p o.Key o.Kind o.Target ([]:List (A0 × A0)).length a=fun c=>.ok ([],c):=by funext c;rw[List.length_nil,prR]
  rw[e];exact Rds.pure []
 |x::l,a,h,ha,hl=>by
  obtain⟨h1,h2⟩:=h x (by simp);obtain⟨q1,q2⟩:=List.pairwise_cons.1 hl
  have hu:upK a x.1:=by
   cases a with
   |none=>rfl
   |some b=>exact decide_eq_true (ha b rfl x (by simp))
  have e:prR M p o.Key o.Kind o.Target (x::l).length a=fun c=>E3 (elR M p o.Key (-1) c) fun x c=>if upK a x then E3 (elR M p o.Kind o.Target c) fun y c=>E3 (prR M p o.Key o.Kind o.Target l.length (some x) c) fun l c=>.ok ((x,y)::l,c) else .error 5:=by funext c;rw[List.length_cons,prR]
  rw[e];have ih:=Rds.pr hk l (some x.1) (fun y hy=>h y (by simp[hy])) (fun b hb y hy=>by cases hb;exact q1 y hy) q2;have h3:=Rds.bind (Rds.el hM h2) (g:=fun y c=>E3 (prR M p o.Key o.Kind o.Target l.length (some x.1) c) fun l c=>.ok ((x.1,y)::l,c)) (Rds.map ih (fun l=>x::l) rfl);refine(Rds.bind (Rds.sc h1 hk) (b':=b38 W o x.2++d03 (l.map (c43 W o))) (k':=(cV x.2).add (b7n cP l)) ?_).of ?_ (a02.add_assoc _ _ _).symm
  ·have e2:(fun c=>if upK a x.1 then E3 (elR M p o.Kind o.Target c) fun y c=>E3 (prR M p o.Key o.Kind o.Target l.length (some x.1) c) fun l c=>.ok ((x.1,y)::l,c) else .error 5)=fun c=>E3 (elR M p o.Kind o.Target c) fun y c=>E3 (prR M p o.Key o.Kind o.Target l.length (some x.1) c) fun l c=>.ok ((x.1,y)::l,c):=by funext c;rw[if_pos hu]
   rw[e2];exact h3
  ·rw[List.map_cons,d03,c43,b3p]
end
theorem Rds.cn{m:Nat}(u:Nat)(hu:u<=4096):Rds m (b4a u) ⟨0,if 0<u then 1 else 0,0⟩ (u:Int) cnR:=by
 have e:cnR=fun c=>E3 (toR (T8 c)) fun u c=>if 4096<u then .error 3 else if 0<u then E3 (spR c) fun _ c=>.ok (u,c) else .ok (u,c):=rfl
 rw[e]
 by_cases h:0<u
 ·rw[if_pos h];refine(Rds.bind (Rds.num u (by omega)) (b':=⟨#[]⟩) (k':=⟨0,1,0⟩) (y:=(u:Int)) ?_).of (c4b _) (a02.none_add _)
  have e2:(fun c=>if 4096<(u:Int) then .error 3 else if 0<(u:Int) then E3 (spR c) fun _ c=>.ok ((u:Int),c) else .ok ((u:Int),c):A3->Rs Int)=fun c=>E3 (spR c) fun _ c=>.ok ((u:Int),c):=by
   funext c;rw[if_neg (by omega),if_pos (by omega)]
  rw[e2];exact Rds.fin Rds.spend _ fun c=>rfl
 ·rw[if_neg h];refine Rds.fin (Rds.num u (by omega)) _ fun c=>?_
  rw[if_neg (by omega),if_neg (by omega)]
def RfF(p:A7)(B:Int->A0->Prop)(o:GOp)(z:A0):Prop:=
 (o.Card=4->z=⟨11,0,⟨#[]⟩,z.List_,[],[],[]⟩/\z.List_≠[]/\z.List_.length<=4096/\∀y∈z.List_,ElO p B o.Kind o.Target y)/\
 (o.Card=5->z=⟨12,0,⟨#[]⟩,[],z.Pairs,[],[]⟩/\z.Pairs≠[]/\z.Pairs.length<=4096/\o.Key≠10/\(∀x∈z.Pairs,ScO p o.Key (-1) x.1/\ElO p B o.Kind o.Target x.2)/\z.Pairs.Pairwise (fun x y=>Y2 (SizeOf.sizeOf x.1) x.1 y.1<0))/\
 (o.Card≠4->o.Card≠5->ElO p B o.Kind o.Target z/\(o.Card=3->b8b z=false))
theorem e1s(b:UInt8):(⟨#[b]⟩:ByteArray)=ofI [(b.toNat:Int)]:=by
 unfold ofI;simp
section
variable {m:Nat}{p:A7}{W:d1z}{B:Int->A0->Prop}{M:RdM}(hM:∀t y,B t y->Rds m (W t y) (cV y) y (M t)) {g:B8}
theorem Rds.unset(sl:List (Int × A0))(o:GOp)(h1:o.Card≠1):∃z,Rds m (b7j W o V0 false) .none (z,false) (fdR M p g sl o):=by
 by_cases h4:o.Card=4
 ·have e:fdR M p g sl o=fun c=>E3 (cnR c) fun n c=>E3 (lsR M p o.Kind o.Target n.toNat c) fun l c=>.ok ((⟨11,0,⟨#[]⟩,l,[],[],[]⟩, !l.isEmpty),c):=by funext c;rw[fdR,if_neg h1,if_pos h4]
  refine⟨⟨11,0,⟨#[]⟩,[],[],[],[]⟩,?_⟩;rw[e];refine(Rds.fin (Rds.cn 0 (by omega)) _ fun c=>rfl).of ?_ rfl;unfold b7j;rw[if_pos h4];exact(c4b _).symm
 by_cases h5:o.Card=5
 ·have e:fdR M p g sl o=fun c=>E3 (cnR c) fun n c=>E3 (prR M p o.Key o.Kind o.Target n.toNat none c) fun l c=>.ok ((⟨12,0,⟨#[]⟩,[],l,[],[]⟩, !l.isEmpty),c):=by funext c;rw[fdR,if_neg h1,if_neg h4,if_pos h5]
  refine⟨⟨12,0,⟨#[]⟩,[],[],[],[]⟩,?_⟩;rw[e];refine(Rds.fin (Rds.cn 0 (by omega)) _ fun c=>?_).of ?_ rfl
  ·rw[Int.toNat_natCast,prR];rfl
  unfold b7j;rw[if_neg h4,if_pos h5];exact(c4b _).symm
 ·have e:fdR M p g sl o=fun c=>E3 (toR (a3e c)) fun b c=>if 1<b then .error 5 else if b=0 then .ok ((V0,false),c) else if c7x g sl o=true then .error 15
   else E3 (elR M p o.Kind o.Target c) fun x c=>if o.Card=3/\b8b x=true then .error 5 else .ok ((x,true),c):=by funext c;rw[fdR,if_neg h1,if_neg h4,if_neg h5,myR]
  refine⟨V0,?_⟩;rw[e];refine(Rds.fin (Rds.byte 0 (by omega)) _ fun c=>rfl).of ?_ rfl;unfold b7j;rw[if_neg h4,if_neg h5,if_neg h1,if_neg (by decide)];exact(e1s 0).symm
 include hM
theorem Rds.set(sl:List (Int × A0))(o:GOp)(z:A0)(h:RfF p B o z)(hj:c7x g sl o=false):Rds m (b7j W o z true) (cV z) (z,true) (fdR M p g sl o):=by
 obtain⟨h4,h5,h6⟩:=h;unfold b7j
 by_cases c4:o.Card=4
 ·obtain⟨ez,hne,hlen,hel⟩:=h4 c4;rw[if_pos c4];have e:fdR M p g sl o=fun c=>E3 (cnR c) fun n c=>E3 (lsR M p o.Kind o.Target n.toNat c) fun l c=>.ok ((⟨11,0,⟨#[]⟩,l,[],[],[]⟩, !l.isEmpty),c):=by funext c;rw[fdR,if_neg (by omega),if_pos c4]
  rw[e];generalize z.List_=l at*;subst ez;have hl:0<l.length:=List.length_pos_iff.2 hne;refine(Rds.bind (Rds.cn l.length hlen) (b':=d03 (l.map (b38 W o))) (k':=b7n cV l) ?_).of rfl ?_
  ·refine Rds.fin (Rds.ls hM l hel) (f:=lsR M p o.Kind o.Target l.length) _ fun c=>?_
   have:l.isEmpty=false:=by cases l<;>simp_all
   rw[this];rfl
  ·rw[d69,f0d];simp only[a02.add,b7n,a02.none,if_pos hl,a02.mk.injEq];refine⟨?_,?_,?_⟩
   ·rw[if_neg (by decide)];omega
   ·simp;omega
   ·have:(⟨#[]⟩:ByteArray).size=0:=rfl;omega
 by_cases c5:o.Card=5
 ·obtain⟨ez,hne,hlen,hk,hel,hup⟩:=h5 c5;rw[if_neg c4,if_pos c5];have e:fdR M p g sl o=fun c=>E3 (cnR c) fun n c=>E3 (prR M p o.Key o.Kind o.Target n.toNat none c) fun l c=>.ok ((⟨12,0,⟨#[]⟩,[],l,[],[]⟩, !l.isEmpty),c):=by funext c;rw[fdR,if_neg (by omega),if_neg c4,if_pos c5]
  rw[e];generalize z.Pairs=l at*;subst ez;have hl:0<l.length:=List.length_pos_iff.2 hne;refine(Rds.bind (Rds.cn l.length hlen) (b':=d03 (l.map (c43 W o))) (k':=b7n cP l) ?_).of rfl ?_
  ·refine Rds.fin (Rds.pr hM hk l none hel (fun b hb=>by cases hb) hup) (f:=prR M p o.Key o.Kind o.Target l.length none) _ fun c=>?_
   have:l.isEmpty=false:=by cases l<;>simp_all
   rw[this];rfl
  ·rw[d69,f0d];simp only[a02.add,b7n,a02.none,if_pos hl,a02.mk.injEq];refine⟨?_,?_,?_⟩
   ·rw[if_neg (by decide)];omega
   ·simp;omega
   ·have:(⟨#[]⟩:ByteArray).size=0:=rfl;omega
 obtain⟨hel,hz⟩:=h6 c4 c5;rw[if_neg c4,if_neg c5]
 by_cases c1:o.Card=1
 ·rw[if_pos c1];have e:fdR M p g sl o=fun c=>E3 (elR M p o.Kind o.Target c) fun x c=>.ok ((x,true),c):=by funext c;rw[fdR,if_pos c1]
  rw[e];exact Rds.fin (Rds.el hM hel) _ fun c=>rfl
 ·rw[if_neg c1,if_pos rfl]
  have e:fdR M p g sl o=fun c=>E3 (toR (a3e c)) fun b c=>if 1<b then .error 5 else if b=0 then .ok ((V0,false),c) else if c7x g sl o=true then .error 15
   else E3 (elR M p o.Kind o.Target c) fun x c=>if o.Card=3/\b8b x=true then .error 5 else .ok ((x,true),c):=by funext c;rw[fdR,if_neg c1,if_neg c4,if_neg c5,myR]
  rw[e];refine(Rds.bind (Rds.byte 1 (by omega)) (b':=b38 W o z) (k':=cV z) ?_).of (by rw[e1s 1];rfl) (a02.none_add _)
  have e2:(fun c=>if(1:Int)<1 then .error 5 else if(1:Int)=0 then .ok ((V0,false),c) else if c7x g sl o=true then .error 15
   else E3 (elR M p o.Kind o.Target c) fun x c=>if o.Card=3/\b8b x=true then .error 5 else .ok ((x,true),c):A3->Rs (A0 × Bool))=fun c=>E3 (elR M p o.Kind o.Target c) fun x c=>if o.Card=3/\b8b x=true then .error 5 else .ok ((x,true),c):=by
   funext c;rw[if_neg (by decide),if_neg (by decide),if_neg (by rw[hj];simp)]
  rw[e2];refine Rds.fin (Rds.el hM hel) _ fun c=>?_
  rw[if_neg];rintro⟨q1,q2⟩;rw[hz q1]at q2;cases q2
def Uni(g:B8)(a b:Int × A0):Prop:=0<=(opV g b.1).1.Union->(opV g a.1).1.Union≠(opV g b.1).1.Union
theorem Rds.ops(hop:∀o∈g.Ops,opV g o.Num=(o,true)):∀(ops:List GOp) (sl S:List (Int × A0)),(∀o∈ops,o∈g.Ops)->b8y (RfF p B) ops S->(sl++S).Pairwise (Uni g)->Rds m (b2l W ops S) (b7n cS S) (sl++S) (c9x M p g ops sl)
 |[],sl,S,_,h,_=>by
  have e:S=[]:=h;subst e;have e2:c9x M p g [] sl=fun c=>.ok (sl,c):=by funext c;rw[c9x]
  rw[e2,List.append_nil];exact Rds.pure sl
 |o::ops,sl,S,ho,h,hu=>by
  have e:c9x M p g (o::ops) sl=fun c=>E3 (fdR M p g sl o c) fun x c=>c9x M p g ops (if x.2=true then sl++[(o.Num,x.1)] else sl) c:=by funext c;rw[c9x]
  rw[e];have ho':∀q∈ops,q∈g.Ops:=fun q hq=>ho q (by simp[hq])
  have not:∀S,b8y (RfF p B) ops S->o.Card≠1->(sl++S).Pairwise (Uni g)->Rds m (b7j W o V0 false++b2l W ops S) (b7n cS S) (sl++S) fun c=>E3 (fdR M p g sl o c) fun x c=>c9x M p g ops (if x.2=true then sl++[(o.Num,x.1)] else sl) c:=fun S hS h1 hu=>by
   obtain⟨z,hz⟩:=Rds.unset (m:=m) (p:=p) (W:=W) (M:=M) (g:=g) sl o h1;refine(Rds.bind hz (b':=b2l W ops S) (k':=b7n cS S) ?_).of rfl (a02.none_add _);exact Rds.ops hop ops sl S ho' hS hu
  cases S with
  |nil=>exact not [] h.2 h.1 hu
  |cons s S=>
   simp only[b2l];split
   ·rename_i he;obtain⟨h1,h2⟩:=h.1 he
    have hj:c7x g sl o=false:=by
     rw[c7x,List.any_eq_false];intro a ha hb;have hp:=(List.pairwise_append.1 hu).2.2 a ha s (by simp);unfold Uni at hp;rw[he,hop o (ho o (by simp))]at hp;simp only[Bool.and_eq_true,decide_eq_true_eq]at hb;exact hp hb.2.1 hb.2.2
    refine(Rds.bind (Rds.set hM sl o s.2 h1 hj) (b':=b2l W ops S) (k':=b7n cS S) (y:=sl++s::S) ?_).of rfl rfl;have e3:sl++s::S=(sl++[(o.Num,s.2)])++S:=by rw[<-he];simp
    rw[e3]at hu ⊢;exact Rds.ops hop ops (sl++[(o.Num,s.2)]) S ho' h2 hu
   ·rename_i he;obtain⟨h1,h2⟩:=h.2 he;exact not (s::S) h2 h1 hu
end
def RfV(p:A7):Nat->Int->A0->Prop
 |0,_,_=>False
 |n+1,t,x=>∃g,p.Progs[t.toNat]? =some g/\0<=t/\x=⟨10,0,⟨#[]⟩,[],[],x.Slots,[]⟩/\b8y (RfF p (RfV p n)) g.Ops x.Slots/\x.Slots.Pairwise (Uni g)
theorem d0z{c:A3}(h:Snd c)(hd:1<=c.Depth):Snd (a8e c 1):=by
 have:=h.d1;exact⟨h.sz,h.a0,h.a1,h.a2,by simp only[a8e];omega,by simp only[a8e];omega,h.n0,h.n1⟩
theorem f6n{p:A7}(hp:OkX p):∀(n m:Nat) (t:Int) (x:A0),RfV p n t x->Rds m (a3s p n t x) (cV x) x (msR p m t)
 |0,_,_,_,h=>h.elim
 |n+1,m,t,x,⟨g,hgt,ht,ex,hm,hu⟩=>by
  have hg:g∈p.Progs:=List.mem_of_getElem? hgt;have eb:a3s p (n+1) t x=b2l (a3s p n) g.Ops x.Slots:=by simp only[a3s,hgt]
  rw[eb]
  have ec:cV x=⟨(b7n cS x.Slots).d+1,(b7n cS x.Slots).n+1,(b7n cS x.Slots).l⟩:=by
   rw[ex,d69];have:(⟨#[]⟩:ByteArray).size=0:=rfl;simp[f0d,b7n,a02.none,a02.add,this]
  intro c hc htx hd hpre;have d0:=hc.d0;have n0:=hc.n0;cases m with
  |zero=>exact .inr (.inl ⟨rfl,by rw[ec];simp only;omega⟩)
  |succ m=>
   rw[msR]
   by_cases h1:c.Depth<1
   ·rw[if_pos h1];exact .inr (.inl ⟨rfl,by rw[ec];simp only;omega⟩)
   rw[if_neg h1,spR]
   by_cases h2:c.Nodes<1
   ·rw[if_pos h2];exact .inr (.inr ⟨rfl,by rw[ec];simp only;omega⟩)
   rw[if_neg h2];simp only[E3,hgt];have s1:=d0z (hc.adv (k:=0) (n:=1) (by have:=hc.a1;omega) (by omega)) (show 1<=(adv c 0 1).Depth by simp only[adv];omega)
   have er:O9 (a8e (adv c 0 1) 1)=O9 c:=by
    simp only[O9,a8e,adv,Int.add_zero]
   have h3:=Rds.ops (m:=m) (p:=p) (W:=a3s p n) (M:=msR p m) (g:=g) (fun t y h=>f6n hp n m t y h) (fun o ho=>e06 hp hg ho) g.Ops [] x.Slots (fun o h=>h) hm (by simpa using hu) (a8e (adv c 0 1) 1) s1 htx (by simp only[a8e,adv];omega) (by unfold Ahd at hpre ⊢;rw[er];exact hpre);unfold Whl at*;cases hr:c9x (msR p m) p g g.Ops [] (a8e (adv c 0 1) 1) with
   |error e=>
    rw[hr]at h3;simp only[Got,Whl,er]at h3 ⊢;rw[ec];simp only[a8e,adv]at h3 ⊢;rcases h3 with⟨e1,q⟩|⟨e1,q⟩|⟨e1,q⟩
    ·exact .inl ⟨e1,q⟩
    ·exact .inr (.inl ⟨e1,by omega⟩)
    ·exact .inr (.inr ⟨e1,by omega⟩)
   |ok y=>
    rw[hr]at h3;simp only[Got,Whl,er]at h3 ⊢;obtain⟨rfl,q1,q2,q3,q4⟩:=h3;rw[ec];simp only[a8e,adv]at q2 q3 q4 ⊢;refine⟨?_,q1,by omega,by omega,by omega⟩;refine Prod.ext ex.symm ?_;simp only[A3.mk.injEq,true_and,and_true];omega
theorem d56{p:A7}{k t:Int}{y:A0}(h:d5p p k t y=0):y.Kind=k/\y.Text.size<=4096/\a9h k y=true/\(k=9->e0s p t y.Bits=true):=by
 unfold d5p at h;split at h
 ·exact absurd h (by decide)
 rename_i h1;split at h
 ·exact absurd h (by decide)
 rename_i h2;split at h
 ·exact absurd h (by decide)
 split at h
 ·exact absurd h (by decide)
 rename_i h4;split at h
 ·exact absurd h (by decide)
 rename_i h5;simp only[Bool.or_eq_true,bne_iff_ne,ne_eq,not_or,Decidable.not_not]at h1;refine⟨h1.1,by omega,by simpa using h4,fun hk=>?_⟩;subst hk;simpa using h5
theorem f1x{k:Int}{y:A0}(h:a9h k y=true):y.List_=[]/\y.Pairs=[]/\y.Slots=[]/\y.Raws=[]:=by
 unfold a9h at h;simp only[Bool.and_eq_true]at h;have h2:=h.1.2;simp only[c4e,decide_eq_true_eq,List.length_eq_zero_iff]at h2;exact h2
theorem e6c{p:A7}{k t:Int}{y:A0}(h:d5p p k t y=0)(hy:OkV y):ScO p k t (Z8 y)/\(Z8 y).Text.size<=4096:=by
 obtain⟨h1,h2,h3,h4⟩:=d56 h;have hl:=f1x h3;have hb:=d3p y hy
 by_cases hc:y.Kind=6/\f19 y.Bits.toNat=0
 ·have k6:k=6:=by omega
  subst k6;have e:Z8 y=⟨y.Kind,9221120237041090560,y.Text,y.List_,y.Pairs,y.Slots,y.Raws⟩:=by unfold Z8;rw[if_pos hc]
  rw[e];refine⟨⟨?_,h1,?_,fun h=>absurd h (by decide),⟨show(0:Int)<=9221120237041090560 by decide,show(9221120237041090560:Int)<18446744073709551616 by decide⟩,hl⟩,h2⟩
  ·unfold a9h at h3 ⊢;rw[if_neg (by decide)]at h3 ⊢;simp only[Bool.and_eq_true]at h3 ⊢;exact⟨h3.1,h3.2.1,rfl⟩
  ·unfold Z8;rw[if_pos ⟨h1,g7o⟩]
 ·have e:Z8 y=y:=by unfold Z8;rw[if_neg hc]
  rw[e];exact⟨⟨h3,h1,e,h4,⟨hy.b0,hy.b1⟩,hl⟩,h2⟩
theorem f1e{y:A0}(h:y.Kind≠6):Z8 y=y:=by unfold Z8;rw[if_neg (fun q=>h q.1)]
theorem f20{n:Nat}(a b:A0)(ha:isS a.Kind=true):Y2 (n+1) a b=Y2 (SizeOf.sizeOf a) a b:=by
 have h0:=szV a;obtain⟨m,hm⟩:∃m,SizeOf.sizeOf a=m+1:=⟨SizeOf.sizeOf a - 1,by omega⟩
 rw[hm,Y2,Y2,if_pos ha,if_pos ha]
theorem d8u{R:GOp->A0->Prop}{T:A0->Prop}(hT:∀o z,R o z->T z):∀{ops:List GOp}{S:List (Int × A0)},b8y R ops S->∀s∈S,T s.2
 |[],S,h,s,hs=>by have e:S=[]:=h;rw[e]at hs;cases hs
 |o::ops,[],_,s,hs=>by cases hs
 |o::ops,x::S,h,s,hs=>by
  by_cases he:x.1=o.Num
  ·obtain⟨h1,h2⟩:=h.1 he;rcases List.mem_cons.1 hs with q|q
   ·subst q;exact hT _ _ h1
   ·exact d8u hT h2 s q
  ·exact d8u hT (h.2 he).2 s hs
theorem e0a{R:GOp->A0->Prop}:∀{ops:List GOp}{S:List (Int × A0)},ops.Pairwise (fun a b=>a.Num<b.Num)->b8y R ops S->S.Pairwise (fun a b=>a.1<b.1)
 |[],S,_,h=>by have e:S=[]:=h;rw[e];exact List.Pairwise.nil
 |o::ops,[],_,_=>List.Pairwise.nil
 |o::ops,x::S,ha,h=>by
  obtain⟨q1,q2⟩:=List.pairwise_cons.1 ha
  by_cases he:x.1=o.Num
  ·obtain⟨_,h2⟩:=h.1 he;refine List.pairwise_cons.2 ⟨fun s hs=>?_,e0a q2 h2⟩;obtain⟨q,hq,hn⟩:=d48 h2 s hs;have:=q1 q hq;omega
  ·exact e0a q2 (h.2 he).2
theorem e0z{α:Type}(f:α->a02):∀l:List α,(b7n f l).n=a1i (fun x=>(f x).n) l
 |[]=>rfl
 |x::l=>by simp only[b7n,a02.add,a1i,e0z f l]
noncomputable abbrev nV(v:A0):Nat:=(cV v).n
noncomputable abbrev nP(x:A0 × A0):Nat:=nV x.1+nV x.2
noncomputable abbrev nS(x:Int × A0):Nat:=nV x.2
theorem c1t(v:A0):nV v=1+v.Raws.length+a1i nV v.List_+a1i nP v.Pairs+a1i nS v.Slots:=by
 have h1:(b7n cV v.List_).n=a1i nV v.List_:=e0z _ _;have h2:(b7n cP v.Pairs).n=a1i nP v.Pairs:=e0z _ _;have h3:(b7n cS v.Slots).n=a1i nS v.Slots:=e0z _ _;show(cV v).n=_;rw[d69];simp only[f0d,a02.add];omega
theorem f6m(v:A0):1<=nV v:=by rw[c1t];omega
theorem f72(v:A0):(∀x∈v.List_,nV x<=nV v)/\(∀x∈v.Pairs,nV x.1+nV x.2<=nV v)/\(∀x∈v.Slots,nV x.2<=nV v):=by
 have e:=c1t v;refine⟨fun x hx=>?_,fun x hx=>?_,fun x hx=>?_⟩
 ·have:=b9i nV hx;omega
 ·have:=b9i nP hx;simp only[nP]at this;omega
 ·have:=b9i nS hx;simp only[nS]at this;omega
theorem f9i(v:A0):v.List_.length<=nV v/\v.Pairs.length<=nV v:=by
 have e:=c1t v;have h1:=b3r nV 1 (l:=v.List_) fun x _=>f6m x
 have h2:=b3r nP 1 (l:=v.Pairs) fun x _=>by have:=f6m x.1;simp only[nP];omega
 omega
theorem d78:∀(n:Nat) (v:A0),SizeOf.sizeOf v<=n->a25 n v=(nV v:Int)
 |0,v,h=>by have:=szV v;omega
 |n+1,v,h=>by
  have key:∀{α:Type}(f:α->Int) (g:α->Nat) (l:List α),(∀x∈l,f x=(g x:Int))->(l.map f).sum=(a1i g l:Int):=by
   intro α f g l
   induction l with
   |nil=>intro _;rfl
   |cons x l ih=>
    intro h;have h1:=h x (by simp);have h2:=ih fun y hy=>h y (by simp[hy])
    simp only[List.map_cons,List.sum_cons,a1i];omega
  have h1:=key (a25 n) nV v.List_ fun x hx=>d78 n x (by have:=szL hx;omega)
  have h2:=key (fun x:A0 × A0=>a25 n x.1+a25 n x.2) nP v.Pairs fun x hx=>by
   have a:=d78 n x.1 (by have:=szP hx;omega);have b:=d78 n x.2 (by have:=szP hx;omega);simp only[nP];omega
  have h3:=key (fun x:Int × A0=>a25 n x.2) nS v.Slots fun x hx=>d78 n x.2 (by have:=szS hx;omega)
  have e:=c1t v;simp only[a25];omega
theorem e1c(v:A0):nV (Z8 v)=nV v:=by
 unfold Z8;split
 ·rw[c1t,c1t]
 ·rfl
section
variable {N:d2f}(hN:∀t v,nV (N t v)<=nV v)
 include hN
theorem d4r(o:GOp)(v:A0):nV (a5o N o v)<=nV v:=by
 unfold a5o;split
 ·exact hN _ _
 ·rw[e1c];omega
theorem f3v(o:GOp)(v:A0):nV (a64 N o v)<=nV v:=by
 have e:=c1t v;unfold a64;split
 ·rw[c1t ⟨11,_,_,_,_,_,_⟩];have h:=c0w (l:=v.List_) (f:=fun x=>nV (a5o N o x)) (g:=nV) fun x _=>d4r hN o x
  simp only[b6z,a1i,List.length_nil];omega
 split
 ·rw[c1t ⟨12,_,_,_,_,_,_⟩]
  have h:=c0w (l:=b0i v.Pairs) (f:=fun x=>nP (Z8 x.1,a5o N o x.2)) (g:=nP) fun x _=>by
   have a:=d4r hN o x.2;have b:=e1c x.1;simp only[nP];omega
  have h2:=b5e (c:=kc (SizeOf.sizeOf v.Pairs)) nP v.Pairs;simp only[b6z,a1i,List.length_nil];have e2:a1i nP (b0i v.Pairs)<=a1i nP v.Pairs:=h2;omega
 ·exact d4r hN o v
theorem f2v(g:B8)(v:A0):nV (b86 N g v)<=nV v:=by
 have e:=c1t v
 have h:=d1l (l:=S4 kn v.Slots) (f:=nS) (g:=nS) (h:=fun x=>a5f N (opV g x.1).1 x.1 x.2) fun x _=>by
  have a:=f3v hN (opV g x.1).1 x.2;simp only[a5f];split
  ·simp only[a1i,nS];omega
  ·simp[a1i]
 have h2:=b5e (c:=kn) nS v.Slots;have h3:(sC kr v.Raws).length=v.Raws.length:=(d01 v.Raws).length_eq;rw[b86,c1t ⟨10,_,_,_,_,_,_⟩];simp only[a1i];omega
end
theorem f0c(p:A7):∀(n:Nat) (t:Int) (v:A0),nV (H8 p n t v)<=nV v
 |0,t,v=>by
  have e:=c1t v;have:nV (H8 p 0 t v)=1:=by rw[c1t];rfl
  omega
 |n+1,t,v=>by
  simp only[H8];split
  ·have e:=c1t v;have:nV (⟨0,0,⟨#[]⟩,[],[],[],[]⟩:A0)=1:=by rw[c1t];rfl
   omega
  ·exact f2v (f0c p n) _ v
def Lim(lev:Int)(k:a02):Prop:=(k.d:Int)+lev<=17/\k.l<=4096
theorem Lim.add{e:Int}{a b:a02}(h:Lim e a)(h2:Lim e b):Lim e (a.add b):=by
 unfold Lim at*;simp only[a02.add];omega
theorem Lim.none{e:Int}(h:e<=17):Lim e .none:=⟨by simp only[a02.none];omega,by simp only[a02.none];omega⟩
theorem Lim.sum{α:Type}{e:Int}(he:e<=17){f:α->a02}:∀{l:List α},(∀x∈l,Lim e (f x))->Lim e (b7n f l)
 |[],_=>Lim.none he
 |x::l,h=>(h x (by simp)).add (Lim.sum he fun y hy=>h y (by simp[hy]))
theorem Lim.sc{e:Int}(he:e<=17){p:A7}{k t:Int}{y:A0}(h:ScO p k t y)(hs:y.Text.size<=4096):Lim e (cV y):=by
 rw[h.cost];exact⟨by simp only;omega,hs⟩
theorem d1k:(⟨#[]⟩:ByteArray).size=0:=rfl
theorem Lim.top{e:Int}(v:A0)(hk:v.Kind≠10)(ht:v.Text.size<=4096){k:a02}(h:Lim e k):Lim e (f0d v k):=by
 unfold Lim at*;simp only[f0d,if_neg hk];omega
theorem e8d{M:d83}{p:A7}{g:B8}{v:A0}{lev:Int}(h:f2b M p g v lev=0):v.Slots.Pairwise fun a b=>¬((opV g a.1).1.Union=(opV g b.1).1.Union/\(opV g b.1).1.Union≠ -1):=by
 unfold f2b at h;split at h
 ·exact absurd h (by decide)
 split at h
 ·exact absurd h (by decide)
 obtain⟨h3,_⟩:=b9m h;rw[List.pairwise_iff_getElem];intro i j hi hj hij ⟨e1,e2⟩;have:=b8m 0 h3 j (Nat.zero_le _) hj;simp only[d4d,List.getElem?_eq_getElem hj]at this;split at this
 ·exact absurd this (by decide)
 split at this
 ·exact absurd this (by decide)
 split at this
 ·exact absurd this (by decide)
 rename_i q;refine q (List.any_eq_true.2 ⟨v.Slots[i],?_,?_⟩)
 ·rw[List.mem_take_iff_getElem];exact⟨i,by omega,rfl⟩
 ·simp only[Bool.and_eq_true,bne_iff_ne,ne_eq,beq_iff_eq];exact⟨e2,e1⟩
section
variable {p:A7}(hp:OkX p)
 include hp
theorem e6n:∀(n:Nat) (t:Int) (g:B8) (v:A0) (lev:Int),p.Progs[t.toNat]? =some g->0<=t->OkD v->SizeOf.sizeOf v<=n->b31 p n t v lev=0->NoX v->nV v<=4096->RfV p n t (H8 p n t v)/\Lim lev (cV (H8 p n t v))
 |0,t,g,v,lev,_,_,_,h,_,_,_=>by have:=szV v;omega
 |n+1,t,g,v,lev,hgt,ht,hv,hn,hm,hx,hc=>by
  have hg:g∈p.Progs:=List.mem_of_getElem? hgt;obtain⟨_,_,_,_,_,hs⟩:=hv.inv;have e:H8 p (n+1) t v=b86 (H8 p n) g v:=by simp only[H8,hgt]
  simp only[b31,hgt]at hm;have hf:=d81 hm;have hlev:=hf.deep;have hasc:=c2c (hp.va.asc g hg)
  have hT:=b8d (fun o x=>a5f (H8 p n) o x.1 x.2) g.Ops v.Slots hasc hf.diff fun x hx=>by
   obtain⟨h1,h2⟩:=c93 (hf.known x hx);exact⟨_,h2,h1⟩
  have es:(H8 p (n+1) t v).Slots=g.Ops.flatMap (c6f (fun o x=>a5f (H8 p n) o x.1 x.2) v.Slots):=by
   rw[e,hT];rfl
  obtain⟨x1,x2,_,_⟩:=hx.inv;have nm:=f72 v
  have hmrg:b8y (fun o z=>RfF p (RfV p n) o z/\Lim (lev+1) (cV z)) g.Ops (H8 p (n+1) t v).Slots:=by
   rw[es];refine e5c _ _ hasc fun o ho=>?_
   by_cases hex:∃x∈v.Slots,x.1=o.Num
   ·obtain⟨x,hx,he⟩:=hex;rw[d5a _ hf.diff hx he];have h1:=hf.field x hx;rw[he,e06 hp hg ho]at h1;have h1:b2k (b31 p n) p o x.2 lev=0:=h1;obtain⟨f4,f5,f6⟩:=c09 h1;have z1:=szS hx;have zn:=nm.2.2 x hx;have hof:=(hp.va.pro g hg).2 _ ho;obtain⟨_,_,_,q1,q2,_⟩:=(hs x hx).inv;obtain⟨_,_,y2,y3⟩:=(x2 x hx).inv;have zl:=f9i x.2;have zm:=f72 x.2
    have elem:∀y,OkD y->SizeOf.sizeOf y<=n->b75 (b31 p n) p o y lev=0->NoX y->nV y<=4096->ElO p (RfV p n) o.Kind o.Target (a5o (H8 p n) o y)/\Lim (lev+1) (cV (a5o (H8 p n) o y)):=fun y hy hz h hX hN=>by
     by_cases hk:o.Kind=10
     ·obtain⟨t0,t1,_⟩:=hof.msg hk;have hlt:o.Target.toNat<p.Progs.length:=by omega
      have:=e6n n o.Target _ y (lev+1) (List.getElem?_eq_getElem hlt) t0 hy hz (b8o hp h hk) hX hN;rw[a5o,if_pos hk];exact⟨⟨fun _=>this.1,fun q=>absurd hk q⟩,this.2⟩
     ·rw[b75,if_neg hk]at h;obtain⟨s1,s2⟩:=e6c h hy.okv;rw[a5o,if_neg hk];exact⟨⟨fun q=>absurd q hk,fun _=>s1⟩,Lim.sc (by omega) s1 s2⟩
    simp only[a5f];split
    ·rename_i hmay;refine .inr ⟨_,by rw[he],⟨fun hc4=>?_,fun hc5=>?_,fun h4 h5=>?_⟩,?_⟩
     ·have em:d5r o=true:=by unfold d5r;simp[hc4]
      rw[em]at hmay;rw[a64,if_pos hc4]at hmay ⊢;refine⟨rfl,fun q=>?_,by simp only[List.length_map];omega,fun y hy=>?_⟩
      ·simp only at q;rw[q]at hmay;exact absurd hmay (by decide)
      ·obtain⟨y',hy',rfl⟩:=List.mem_map.1 hy;exact(elem y' (q1 y' hy') (by have:=szL hy';omega) ((f4 hc4).2.2 y' hy') (y2 y' hy') (by have:=zm.1 y' hy';omega)).1
     ·have em:d5r o=true:=by unfold d5r;simp[hc5]
      rw[em]at hmay;rw[a64,if_neg (by omega),if_pos hc5]at hmay ⊢;have hkey:=hof.key.2 hc5
      have hk6:∀x'∈b0i x.2.Pairs,Z8 x'.1=x'.1/\isS x'.1.Kind=true:=fun x' hx'=>by
       obtain⟨a1,a2,a3,a4⟩:=d56 ((f5 hc5).2.2.1 x' (a5t hx')).1;refine⟨f1e (by omega),?_⟩;unfold isS;simp only[Bool.and_eq_true,decide_eq_true_eq];omega
      refine⟨rfl,fun q=>?_,?_,by omega,fun y hy=>?_,?_⟩
      ·simp only at q;rw[q]at hmay;exact absurd hmay (by decide)
      ·simp only[List.length_map];have:=b9d x.2.Pairs;omega
      ·obtain⟨y',hy',rfl⟩:=List.mem_map.1 hy;have hy2:=a5t hy';have hf5:=(f5 hc5).2.2.1 y' hy2;exact⟨(e6c hf5.1 (q2 y' hy2).1.okv).1,(elem y'.2 (q2 y' hy2).2 (by have:=szP hy2;omega) hf5.2 (y3 y' hy2) (by have:=zm.2.1 y' hy2;omega)).1⟩
      ·refine List.pairwise_map.2 ?_;have hst:(b0i x.2.Pairs).Pairwise fun a b=>kc (SizeOf.sizeOf x.2.Pairs) a b<0:=b1b (b2m (g2u _) fun x:A0 × A0=>x.1) _
       refine hst.imp_of_mem fun {a b} ha hb hab=>?_
       obtain⟨e1,e2⟩:=hk6 a ha;obtain⟨e3,_⟩:=hk6 b hb;simp only;rw[e1,e3];obtain⟨m,hm⟩:∃m,SizeOf.sizeOf x.2.Pairs=m+1:=⟨SizeOf.sizeOf x.2.Pairs - 1,by cases x.2.Pairs<;>simp<;>omega⟩
       rw[hm]at hab;rw[<-f20 (n:=m) _ _ e2];exact hab
     ·have hel:=elem x.2 (hs x hx) (by omega) (f6 h4 h5) (x2 x hx) (by omega);rw[a64,if_neg h4,if_neg h5]at hmay ⊢;refine⟨hel.1,fun h3=>?_⟩;have em:d5r o=true:=by unfold d5r;simp[h3]
      rw[em]at hmay;have hz:b7f (a5o (H8 p n) o x.2)=false:=by simpa using hmay
      by_cases hk:o.Kind=10
      ·exact absurd h3 (hof.msg hk).2.2
      have hkk:=(hel.1.2 hk).kind;have hk12:=hof.kind;unfold b7f at hz;rw[if_neg (by omega),if_neg (by omega)]at hz;exact hz
     ·
      unfold a64;split
      ·rename_i hc4;rw[d69];refine Lim.top _ (show(11:Int)≠10 by decide) (show(⟨#[]⟩:ByteArray).size<=4096 by rw[d1k];omega) ?_;refine(Lim.sum (by omega) fun y hy=>?_).add ((Lim.none (by omega)).add (Lim.none (by omega)));obtain⟨y',hy',rfl⟩:=List.mem_map.1 hy;exact(elem y' (q1 y' hy') (by have:=szL hy';omega) ((f4 hc4).2.2 y' hy') (y2 y' hy') (by have:=zm.1 y' hy';omega)).2
      split
      ·rename_i hc5;rw[d69];refine Lim.top _ (show(12:Int)≠10 by decide) (show(⟨#[]⟩:ByteArray).size<=4096 by rw[d1k];omega) ?_;refine(Lim.none (by omega)).add ((Lim.sum (by omega) fun y hy=>?_).add (Lim.none (by omega)));obtain⟨y',hy',rfl⟩:=List.mem_map.1 hy;have hy2:=a5t hy';have hf5:=(f5 hc5).2.2.1 y' hy2;obtain⟨s1,s2⟩:=e6c hf5.1 (q2 y' hy2).1.okv;exact(Lim.sc (by omega) s1 s2).add (elem y'.2 (q2 y' hy2).2 (by have:=szP hy2;omega) hf5.2 (y3 y' hy2) (by have:=zm.2.1 y' hy2;omega)).2
      ·rename_i h4 h5;exact(elem x.2 (hs x hx) (by omega) (f6 h4 h5) (x2 x hx) (by omega)).2
    ·rename_i hb;refine .inl ⟨rfl,fun hc=>hb ?_⟩;have:d5r o=false:=by unfold d5r;simp[hc]
     rw[this];rfl
   ·refine .inl ⟨b7u _ fun x hx he=>hex ⟨x,hx,he⟩,fun hc=>?_⟩;obtain⟨x,hx,he⟩:=hf.need o ho hc;exact hex ⟨x,hx,he⟩
  have er:(H8 p (n+1) t v)=⟨10,0,⟨#[]⟩,[],[],(H8 p (n+1) t v).Slots,[]⟩:=by
   rw[e];simp only[b86,x1];rfl
  refine⟨⟨g,hgt,ht,er,c8k (fun s _ o h=>h.1) hmrg,?_⟩,?_⟩
  ·have ha:=e0a hasc hmrg;have hu:=e8d hm
   have hany:∀x∈v.Slots,∀y∈v.Slots,x.1≠y.1->¬((opV g x.1).1.Union=(opV g y.1).1.Union/\(opV g y.1).1.Union≠ -1):=by
    intro x hx y hy hne;obtain⟨i,hi,rfl⟩:=List.mem_iff_getElem.1 hx;obtain⟨j,hj,rfl⟩:=List.mem_iff_getElem.1 hy;have hp2:=List.pairwise_iff_getElem.1 hu;rcases Nat.lt_trichotomy i j with q|q|q
    ·exact hp2 i j hi hj q
    ·subst q;exact absurd rfl hne
    ·have:=hp2 j i hj hi q;intro ⟨a1,a2⟩;exact this ⟨a1.symm,by omega⟩
   have hmem:∀s∈(H8 p (n+1) t v).Slots,∃x∈v.Slots,x.1=s.1:=by
    intro s hs;rw[e]at hs;simp only[b86]at hs;obtain⟨x,hx,h⟩:=List.mem_flatMap.1 hs;refine⟨x,a8b _ _ hx,?_⟩;unfold a5f at h;split at h
    ·have:=List.mem_singleton.1 h;subst this;rfl
    ·cases h
   refine ha.imp_of_mem fun {a b} hA hB hab=>?_
   obtain⟨x,hx,e1⟩:=hmem a hA;obtain⟨y,hy,e2⟩:=hmem b hB;have:=hany x hx y hy (by omega);rw[e1,e2]at this;intro h0 h3;exact this ⟨h3,by omega⟩
  ·rw[er,d69];have h1:=Lim.sum (e:=lev+1) (by omega) (f:=cS) (l:=(H8 p (n+1) t v).Slots) (d8u (fun o z h=>h.2) hmrg);have h2:Lim (lev+1) ((b7n cV ([]:List A0)).add ((b7n cP ([]:List (A0 × A0))).add (b7n cS (H8 p (n+1) t v).Slots))):=(Lim.none (by omega)).add ((Lim.none (by omega)).add h1);obtain⟨a1,a2⟩:=h2;refine⟨?_,?_⟩
   ·simp only[f0d,if_pos];omega
   ·simp only[f0d,d1k];omega
end
def Fwd{α:Type}(c:A3)(r:Rs α):Prop:=match r with
 |.ok x=>Snd x.2/\x.2.Depth=c.Depth
 |.error e=>e≠0
theorem b6f{α β:Type}{r:Rs α}{f:α->A3->Rs β}{z:β × A3}(h:E3 r f=.ok z):∃x c',r=.ok (x,c')/\f x c'=.ok z:=by
 cases r with
 |error e=>cases h
 |ok x=>exact⟨x.1,x.2,rfl,h⟩
theorem a3a{α β γ:Type}(r:Rs α)(f:α->A3->Rs β)(g:β->A3->Rs γ):E3 (E3 r f) g=E3 r fun x c=>E3 (f x c) g:=by
 cases r<;>rfl
theorem a3o{α β:Type}(x:α × A3)(f:α->A3->Rs β):E3 (.ok x) f=f x.1 x.2:=rfl
theorem d5u{α:Type}{a:α × A3 × Int}{z:α × A3}(h:toR a=.ok z):a=(z.1,z.2,0):=by
 unfold toR at h;split at h
 ·cases h
 ·rename_i q;cases h;exact Prod.ext rfl (Prod.ext rfl (by simpa using q))
section
variable {α β:Type}{c:A3}
theorem Fwd.bind{r:Rs α}{f:α->A3->Rs β}(h:Fwd c r)(k:∀x c',r=.ok (x,c')->Snd c'->c'.Depth=c.Depth->Fwd c' (f x c')):Fwd c (E3 r f):=by
 cases r with
 |error e=>exact h
 |ok x=>
  have h2:=k x.1 x.2 rfl h.1 h.2;have hd:=h.2;show Fwd c (f x.1 x.2);cases hf:f x.1 x.2 with
  |error e=>rw[hf]at h2;exact h2
  |ok z=>rw[hf]at h2;exact⟨h2.1,by rw[h2.2,hd]⟩
theorem Fwd.err{e:Int}(h:e≠0):Fwd (α:=α) c (.error e):=h
theorem Fwd.ret(x:α)(h:Snd c):Fwd c (.ok (x,c)):=⟨h,rfl⟩
theorem Fwd.to{a:α × A3 × Int}(h:a.2.2=0->∃k:Int,a.2.1=a26 c k/\0<=k/\k<=c.End - c.At)(hc:Snd c):Fwd c (toR a):=by
 unfold toR;split
 ·rename_i q;exact q
 ·rename_i q;obtain⟨k,e,h1,h2⟩:=h (by simpa using q);have n0:=hc.n0;rw[e,b44];exact⟨hc.adv ⟨h1,h2⟩ ⟨by omega,n0⟩,rfl⟩
end
section
variable {c:A3}(hc:Snd c)
 include hc
theorem Fwd.sp:Fwd c (spR c):=by
 unfold spR;split
 ·exact Fwd.err (by decide)
 ·exact⟨hc.adv (by have:=hc.a1;omega) (by omega),rfl⟩
theorem Fwd.num:Fwd c (toR (T8 c)):=by
 refine Fwd.to (fun h=>?_) hc;have hr:=(c5n (O9 c) 10 0 0 rfl).1;have hs:=hc.size;unfold T8 at h ⊢;split
 ·rename_i h1;rw[if_pos h1]at h;split
  ·exact⟨_,rfl,by omega,by omega⟩
  ·rename_i h2;rw[if_neg h2]at h;exact absurd h (show ¬((5:Int)=0) by decide)
 ·rename_i h1;rw[if_neg h1]at h;simp only at h;omega
theorem Fwd.byte:Fwd c (toR (a3e c)):=by
 refine Fwd.to (fun h=>?_) hc;unfold a3e at h ⊢;split
 ·rename_i h1;rw[hc.left]at h1;exact⟨1,rfl,by decide,by omega⟩
 ·rename_i h1;rw[if_neg h1]at h;exact absurd h (show ¬((4:Int)=0) by decide)
theorem Fwd.fix:Fwd c (toR (c61 c)):=by
 refine Fwd.to (fun h=>?_) hc;have hs:=hc.size;unfold c61 at h ⊢;split
 ·rename_i h1;exact⟨8,rfl,by decide,by omega⟩
 ·rename_i h1;rw[if_neg h1]at h;exact absurd h (show ¬((4:Int)=0) by decide)
theorem Fwd.tx(u:Int):Fwd c (txR u c):=by
 unfold txR;split
 ·exact Fwd.err (by decide)
 rename_i h0;rw[hc.left]at h0;refine Fwd.to (fun h=>?_) hc;unfold a7g at h ⊢;split
 ·rename_i h1;rw[if_pos h1]at h;exact absurd h (show ¬((1:Int)=0) by decide)
 rename_i h1;rw[if_neg h1]at h;split
 ·rename_i h2;rw[if_pos h2]at h;exact absurd h (show ¬((4:Int)=0) by decide)
 rename_i h2;rw[if_neg h2]at h;split
 ·rename_i h3;rw[if_pos h3]at h;exact absurd h (show ¬((3:Int)=0) by decide)
 ·exact⟨u,rfl,by omega,by omega⟩
theorem f6s(p:A7){k:Int}(t:Int)(h1:k≠1)(h6:k≠6)(h78:¬(k=7\/k=8))(hn:¬(k=2\/k=3\/k=4\/k=5\/k=9)):scR p k t c=.error 12:=by
 rw[scR,b4v,if_neg h1,if_neg h6,if_neg h78,if_neg hn];rfl
theorem Fwd.sc(p:A7)(k t:Int):Fwd c (scR p k t c):=by
 by_cases h1:k=1
 ·subst h1;rw[f8j];refine Fwd.bind (Fwd.byte hc) fun b c' _ q _=>?_
  split
  ·exact Fwd.err (by decide)
  ·exact Fwd.ret _ q
 by_cases h6:k=6
 ·subst h6;rw[g2c];refine Fwd.bind (Fwd.fix hc) fun b c' _ q _=>?_
  split
  ·exact Fwd.err (by decide)
  ·exact Fwd.ret _ q
 by_cases h78:k=7\/k=8
 ·rw[f9x p k t h78];refine Fwd.bind (Fwd.num hc) fun b c' _ q _=>Fwd.bind (Fwd.tx q b) fun s c'' _ q2 _=>?_
  split
  ·exact Fwd.err (by decide)
  ·exact Fwd.ret _ q2
 by_cases hn:k=2\/k=3\/k=4\/k=5\/k=9
 ·rw[f86 p k t hn];refine Fwd.bind (Fwd.num hc) fun b c' _ q _=>?_
  split
  ·exact Fwd.err (by decide)
  split
  ·exact Fwd.err (by decide)
  ·exact Fwd.ret _ q
 ·rw[f6s hc p t h1 h6 h78 hn];exact Fwd.err (by decide)
theorem d5m{k b:Int}{s:ByteArray}(hk:0<=k/\k<=12)(hb:0<=b/\b<18446744073709551616)(hs:s.size<=140737488351232):OkD ⟨k,b,s,[],[],[],[]⟩:=by
 have z:Sz 0:=Nat.zero_le _;exact .mk _ (show I64 k from⟨by omega,by omega⟩) (show U64 b from⟨by omega,by omega⟩) hs z z z z (fun x hx=>by cases hx) (fun x hx=>by cases hx) (fun x hx=>by cases hx) (fun x hx=>by cases hx) (fun x hx=>by cases hx) (fun x hx=>by cases hx) ⟨z,z,z,z⟩
theorem e9q{p:A7}{k t:Int}{y:A0}{c':A3}(h:scR p k t c=.ok (y,c')):OkD y/\y.Kind=k/\1<=k/\k<=9:=by
 have hk:=hc.okc;have h0:=h;unfold scR at h
 by_cases h1:k=1
 ·subst h1;rw[f8j]at h0;obtain⟨x,c1,q1,q2⟩:=b6f h0;have br:=c1k c;rw[d5u q1]at br;simp only at br;split at q2
  ·cases q2
  ·cases q2;exact⟨d5m hc (by decide) (by omega) (by decide),rfl,by decide,by decide⟩
 by_cases h6:k=6
 ·subst h6;rw[g2c]at h0;obtain⟨x,c1,q1,q2⟩:=b6f h0;have br:=d67 c;rw[d5u q1]at br;simp only at br;split at q2
  ·cases q2
  ·cases q2;exact⟨d5m hc (by decide) (by omega) (by decide),rfl,by decide,by decide⟩
 by_cases h78:k=7\/k=8
 ·rw[f9x p k t h78]at h0;obtain⟨x,c1,q1,q2⟩:=b6f h0;obtain⟨s,c2,q3,q4⟩:=b6f q2;have hs1:Snd c1:=by have:=Fwd.num hc;rw[q1]at this;exact this.1
  split at q4
  ·cases q4
  ·cases q4;unfold txR at q3;split at q3
   ·cases q3
   have e3:=d5u q3;have hz:=d20 c1 hs1.okc x;rw[e3]at hz;exact⟨d5m hc (by omega) (by decide) hz,rfl,by omega,by omega⟩
 by_cases hn:k=2\/k=3\/k=4\/k=5\/k=9
 ·rw[f86 p k t hn]at h0;obtain⟨x,c1,q1,q2⟩:=b6f h0;have br:=d2z k c;rw[d5u q1]at br;simp only at br;split at q2
  ·cases q2
  split at q2
  ·cases q2
  ·cases q2;exact⟨d5m hc (by omega) br (by decide),rfl,by omega,by omega⟩
 ·rw[f6s hc p t h1 h6 h78 hn]at h0;cases h0
end
def d8g{α:Type}(p:A7)(r:Rs α)(y:A9 × (α × Int)):Prop:=match r with
 |.ok x=>y=(⟨p,x.2⟩,x.1,0)
 |.error e=>e≠0/\y.2.2=e
def g8m(p:A7)(r:Rs (A0 × Bool))(y:A9 × (A0 × Bool × Int)):Prop:=match r with
 |.ok x=>y=(⟨p,x.2⟩,x.1.1,x.1.2,0)
 |.error e=>e≠0/\y.2.2.2=e
theorem ne0{e:Int}(h:e≠0):(e !=0)=true:=by simpa using h
section
variable {p:A7}(hp:OkX p)
variable {c:A3}(hc:Snd c)
 include hc
theorem d32:Ex (fun y:A9 × Int=>match spR c with|.ok x=>y=(⟨p,x.2⟩,0)|.error e=>e≠0/\y.2=e) (a1k ⟨p,c⟩ 1):=by
 have n0:=hc.n0;have n1:=hc.n1;unfold spR
 by_cases h:c.Nodes<1
 ·rw[if_pos h];exact⟨_,a9q _ _ _ ⟨_,b43 _ _ _ ⟨fun h=>by simp at h,fun _=>⟨fun _=>rfl,fun q=>absurd h (of_decide_eq_false q)⟩⟩,rfl⟩,by decide,rfl⟩
 ·rw[if_neg h];refine⟨_,a9q _ _ _ ⟨_,b43 _ _ _ ⟨fun h=>by simp at h,fun _=>⟨fun q=>absurd (of_decide_eq_true q) h,fun _=>rfl⟩⟩,rfl⟩,?_⟩;simp only[adv,Int.add_zero];rw[wI,D3 (by omega)]
theorem e27:Ex (d8g p (cnR c)) (a4z ⟨p,c⟩):=by
 have hn:=d0t c hc.okc;have hr:=b5l c;have e:cnR c=E3 (toR (T8 c)) fun u c=>if 4096<u then .error 3 else if 0<u then E3 (spR c) fun _ c=>.ok (u,c) else .ok (u,c):=rfl
 have hf:=Fwd.num hc;refine B5 (b8q _) (c27 hn (B3 _ (fun h=>D7 ?_) fun h=>E9 (fun h2=>D7 ?_) fun h2=>E9 (fun h3=>?_) fun h3=>D7 ?_))
 ·have q:(T8 c).2.2≠0:=by simpa using h
  rw[e,b05,if_pos q];exact⟨q,rfl⟩
 all_goals
  have q:¬(T8 c).2.2≠0:=by simpa using h
  rw[e,b05,if_neg q]
 ·rw[if_pos h2];exact⟨by decide,rfl⟩
 ·rw[if_neg h2,if_pos h3]
  have hs:Snd (T8 c).2.1:=by
   unfold toR at hf;rw[if_neg q]at hf;exact hf.1
  refine E0 (d32 (p:=p) hs) fun y hy=>D7 ?_
  cases hsp:spR (T8 c).2.1 with
  |error e=>rw[hsp]at hy;exact⟨hy.1,hy.2⟩
  |ok x=>
   rw[hsp]at hy;simp only at hy;rw[hy];show _=_;rw[wI,D3 (by omega)]
 ·rw[if_neg h2,if_neg h3];show _=_;rw[wI,D3 (by omega)];have:(T8 c).2.2=0:=by simpa using h
  rw[this]
end
section
variable {p:A7}(hp:OkX p) {m:Nat}{M:RdM}
variable (hM:∀(t:Int) (g:B8) (c:A3),p.Progs[t.toNat]? =some g->0<=t->Snd c->c.Depth<=m->Ex (d8g p (M t c)) (W3 ⟨p,c⟩ t))
variable (hF:∀(t:Int) (g:B8) (c:A3),p.Progs[t.toNat]? =some g->0<=t->Snd c->Fwd c (M t c))
 include hp hM
theorem c2w{c:A3}(hc:Snd c)(hd:c.Depth<=m)(o:GOp)(ho:OpG p o):Ex (d8g p (elR M p o.Kind o.Target c)) (G3 ⟨p,c⟩ o):=by
 refine B5 (b8c _ _) (B3 _ (fun h=>?_) fun h=>E0 (d32 (p:=p) hc) fun y hy=>?_)
 ·have hk:o.Kind=10:=by simpa using h
  obtain⟨g,hg,t0⟩:=ho hk;refine E0 (hM _ g c hg t0 hc hd) fun y hy=>D7 ?_
  rw[elR,if_pos hk];exact hy
 ·have hk:¬o.Kind=10:=by simpa using h
  have hs:=Fwd.sp hc;rw[elR,if_neg hk];cases hsp:spR c with
  |error e=>
   rw[hsp]at hy;refine B3 _ (fun _=>D7 ⟨hy.1,hy.2⟩) fun q=>?_
   rw[hy.2]at q;exact absurd (ne0 hy.1) (by rw[q];simp)
  |ok x=>
   rw[hsp]at hy hs;simp only at hy;subst hy;refine B3 _ (fun q=>by simp at q) fun _=>c27 (e5l p hp.e o x.2 hs.1.okc) (D7 ?_)
   simp only[E3,scR,toR];split
   ·rename_i q;exact⟨q,rfl⟩
   ·rename_i q;have q':(b4v p o.Kind o.Target x.2).2.2=0:=by simpa using q
    show _=_;rw[q']
 include hF
 omit hp hM in
theorem c6y{c:A3}(hc:Snd c)(o:GOp)(ho:OpG p o):Fwd c (elR M p o.Kind o.Target c):=by
  unfold elR;split
  · rename_i hk
    obtain⟨g,hg,t0⟩:=ho hk;exact hF _ g c hg t0 hc
  · exact Fwd.bind (Fwd.sp hc) fun _ c' _ q _=>Fwd.sc q p _ _
theorem f05(o:GOp)(ho:OpG p o)(y1:A9 × (Int × Int))(n:Nat)(hn:y1.2.1=n)(hn2:n<=4096):∀(d i:Nat) (acc:List A0) (c:A3),i+d=n->acc.length=i->Snd c->c.Depth<=m->Ex (d8g p (E3 (lsR M p o.Kind o.Target d c) fun l c=>.ok (⟨11,0,⟨#[]⟩,acc++l,[],[],[]⟩,c))) (a19 i y1 p.Progs p.Enums c.Data c.At c.End c.Depth c.Nodes c.Text o acc):=by
 intro d
 induction d with
 |zero=>
  intro i acc c hi ha hc hd;refine B5 (a6d _ _ _ _ _ _ _ _ _ _ _ _) (E9 (fun h=>?_) fun _=>D7 ?_)
  ·rw[hn]at h;omega
  ·simp only[lsR,E3,d8g,List.append_nil]
 |succ d ih=>
  intro i acc c hi ha hc hd;refine B5 (a6d _ _ _ _ _ _ _ _ _ _ _ _) (E9 (fun _=>E0 (c2w hp hM hc hd o ho) fun y hy=>?_) fun h=>?_)
  ·rw[lsR,a3a];have hf:=c6y hF hc o ho;cases he:elR M p o.Kind o.Target c with
   |error e=>
    rw[he]at hy;refine B3 _ (fun _=>D7 ⟨hy.1,hy.2⟩) fun q=>?_
    rw[hy.2]at q;exact absurd (ne0 hy.1) (by rw[q];simp)
   |ok x=>
    rw[he]at hy hf;have hy:y=(⟨p,x.2⟩,x.1,0):=hy;subst hy;refine B3 _ (fun q=>by simp at q) fun _=>D8 (by simp;omega) ?_
    have e1:wI ((i:Int)+1)=((i+1:Nat):Int):=by rw[wI,D3 (by omega)];omega
    rw[e1];have:=ih (i+1) (acc++[x.1]) x.2 (by omega) (by simp;omega) hf.1 (by rw[hf.2];exact hd);rw[a3o,a3a];simp only[a3o,List.append_assoc,List.singleton_append]at this ⊢;exact this
  ·rw[hn]at h;omega
 omit hp hM hF in
theorem e0v{c:A3}(hc:Snd c):Fwd c (cnR c)/\∀z,cnR c=.ok z->0<=z.1/\z.1<=4096:=by
  have hr:=b5l c;have e:cnR c=E3 (toR (T8 c)) fun u c=>if 4096<u then .error 3 else if 0<u then E3 (spR c) fun _ c=>.ok (u,c) else .ok (u,c):=rfl
  refine⟨?_,fun z hz=>?_⟩
  · rw[e]
    refine Fwd.bind (Fwd.num hc) fun u c' _ q _=>?_
    split
    · exact Fwd.err (by decide)
    split
    · exact Fwd.bind (Fwd.sp q) fun _ c'' _ q2 _=>Fwd.ret _ q2
    · exact Fwd.ret _ q
  · rw[e]at hz
    obtain⟨u,c',h1,h2⟩:=b6f hz;have h3:=d5u h1;rw[h3]at hr;simp only at hr;split at h2
    · cases h2
    split at h2
    · obtain⟨_,c2,_,h4⟩:=b6f h2
      cases h4;simp only;omega
    · cases h2
      simp only;omega
theorem g09{c:A3}(hc:Snd c)(hd:c.Depth<=m)(o:GOp)(ho:OpG p o):Ex (d8g p (E3 (cnR c) fun n c=>E3 (lsR M p o.Kind o.Target n.toNat c) fun l c=>.ok (⟨11,0,⟨#[]⟩,l,[],[],[]⟩,c))) (a0r ⟨p,c⟩ o):=by
 refine B5 (b99 _ _) (E0 (e27 hc) fun y hy=>?_);obtain⟨hf,hl⟩:=e0v hc;cases he:cnR c with
 |error e=>
  rw[he]at hy;refine B3 _ (fun _=>D7 ⟨hy.1,hy.2⟩) fun q=>?_
  rw[hy.2]at q;exact absurd (ne0 hy.1) (by rw[q];simp)
 |ok x=>
  rw[he]at hy hf;have hy:y=(⟨p,x.2⟩,x.1,0):=hy;have hx:=hl x he;subst hy;refine B3 _ (fun q=>by simp at q) fun _=>?_
  have:=f05 hp hM hF o ho (⟨p,x.2⟩,x.1,0) x.1.toNat (by simp only;omega) (by omega) x.1.toNat 0 [] x.2 (by omega) rfl hf.1 (by rw[hf.2];exact hd);rw[a3o];simp only[List.nil_append]at this;exact this
def g9n(a:Option A0)(acc:List (A0 × A0)):Prop:=match a with
 |none=>acc=[]
 |some k=>OkD k/\acc≠[]/\∃z,acc[acc.length - 1]? =some z/\z.1=k
theorem e4n(o:GOp)(ho:OpG p o)(hkey:o.Key≠10)(y1:A9 × (Int × Int))(n:Nat)(hn:y1.2.1=n)(hn2:n<=4096):∀(d i:Nat) (a:Option A0) (acc:List (A0 × A0)) (c:A3),i+d=n->acc.length=i->g9n a acc->Snd c->c.Depth<=m->Ex (d8g p (E3 (prR M p o.Key o.Kind o.Target d a c) fun l c=>.ok (⟨12,0,⟨#[]⟩,[],acc++l,[],[]⟩,c))) (Y0 i y1 p.Progs p.Enums c.Data c.At c.End c.Depth c.Nodes c.Text o acc):=by
 intro d
 induction d with
 |zero=>
  intro i a acc c hi ha hk hc hd;refine B5 (a50 _ _ _ _ _ _ _ _ _ _ _ _) (E9 (fun h=>?_) fun _=>D7 ?_)
  ·rw[hn]at h;omega
  ·simp only[prR,E3,d8g,List.append_nil]
 |succ d ih=>
  intro i a acc c hi ha hk hc hd;have hok:OpG p (⟨0,⟨#[]⟩,⟨#[]⟩,0,0,o.Key, -1,0⟩:GOp):=fun h=>absurd h hkey
  refine B5 (a50 _ _ _ _ _ _ _ _ _ _ _ _) (E9 (fun _=>E0 (c2w hp hM hc hd _ hok) fun y hy=>?_) fun h=>?_)
  rotate_left
  ·rw[hn]at h;omega
  rw[prR,a3a];have hf:=c6y (p:=p) hF hc _ hok;simp only at hy hf;cases he:elR M p o.Key (-1) c with
  |error e=>
   rw[he]at hy;refine B3 _ (fun _=>D7 ⟨hy.1,hy.2⟩) fun q=>?_
   rw[hy.2]at q;exact absurd (ne0 hy.1) (by rw[q];simp)
  |ok x=>
   rw[he]at hy hf;have hy:y=(⟨p,x.2⟩,x.1,0):=hy;subst hy
   have hv:OkD x.1:=by
    rw[elR,if_neg hkey]at he;obtain⟨_,c1,h1,h2⟩:=b6f he;have h3:=Fwd.sp hc;rw[h1]at h3;exact(e9q h3.1 h2).1
   have hd2:x.2.Depth<=m:=by rw[hf.2];exact hd
   refine B3 _ (fun q=>by simp at q) fun _=>?_
   -- whether the key ascends
   have good:upK a x.1->Ex (d8g p (E3 (E3 (elR M p o.Kind o.Target x.2) fun y c=>E3 (prR M p o.Key o.Kind o.Target d (some x.1) c) fun l c=>.ok ((x.1,y)::l,c)) fun l c=>.ok (⟨12,0,⟨#[]⟩,[],acc++l,[],[]⟩,c))) fun r=>∃y8,G3 ⟨p,x.2⟩ o y8/\(((y8.2.2 !=0)=true->r=(y8.1,(⟨12,0,(⟨#[]⟩:ByteArray),([]:(List A0)),acc,([]:(List (Int × A0))),([]:(List H5))⟩:A0),y8.2.2))/\((y8.2.2 !=0)=false->(acc.length+[(x.1,y8.2.1)].length)*256<=140737488355328/\(Y0 (wI (i+1)) y1 y8.1.p.Progs y8.1.p.Enums y8.1.c.Data y8.1.c.At y8.1.c.End y8.1.c.Depth y8.1.c.Nodes y8.1.c.Text o (acc++[(x.1,y8.2.1)]) r))):=by
    intro _;refine E0 (c2w hp hM hf.1 hd2 o ho) fun y8 hy8=>?_
    have hf2:=c6y hF hf.1 o ho;rw[a3a];cases he2:elR M p o.Kind o.Target x.2 with
    |error e=>
     rw[he2]at hy8;refine B3 _ (fun _=>D7 ⟨hy8.1,hy8.2⟩) fun q=>?_
     rw[hy8.2]at q;exact absurd (ne0 hy8.1) (by rw[q];simp)
    |ok z=>
     rw[he2]at hy8 hf2;have hy8:y8=(⟨p,z.2⟩,z.1,0):=hy8;subst hy8;refine B3 _ (fun q=>by simp at q) fun _=>D8 (by simp;omega) ?_
     have e1:wI ((i:Int)+1)=((i+1:Nat):Int):=by rw[wI,D3 (by omega)];omega
     rw[e1];have:=ih (i+1) (some x.1) (acc++[(x.1,z.1)]) z.2 (by omega) (by simp;omega) ⟨hv,by simp,(x.1,z.1),by simp,rfl⟩ hf2.1 (by rw[hf2.2];exact hd2);rw[a3o,a3a];simp only[a3o,List.append_assoc,List.singleton_append]at this ⊢;exact this
   have bad:¬upK a x.1->d8g p (E3 (.error 5:Rs (List (A0 × A0))) fun l c=>.ok ((⟨12,0,⟨#[]⟩,[],acc++l,[],[]⟩:A0),c)) (⟨p,x.2⟩,(⟨12,0,⟨#[]⟩,[],acc,[],[]⟩:A0),5):=fun _=>⟨by decide,rfl⟩
   refine C7 ?_;rw[a3o];cases a with
   |none=>
    have hk:acc=[]:=hk;have e0:i=0:=by rw[<-ha,hk];rfl
    refine E9 (fun h=>by omega) fun _=>?_
    refine B3 false (fun q=>by cases q) fun _=>?_
    have hu:upK none x.1:=rfl;rw[if_pos hu];exact good hu
   |some b=>
    obtain⟨hb,hne,z,hz,ez⟩:=hk;have hpos:0<acc.length:=List.length_pos_iff.2 hne;have e1:wI ((i:Int) - 1)=((acc.length - 1:Nat):Int):=by rw[wI,D3 (by omega)];omega
    refine E9 (fun _=>?_) fun h=>by omega
    rw[e1];refine a3d z (by simpa using hz) (by omega) ?_;rw[ez];refine c27 (c6v _ b x.1 hb hv (Nat.le_refl _)) ?_
    by_cases hu:upK (some b) x.1
    ·have hu':Y2 (SizeOf.sizeOf b) b x.1<0:=of_decide_eq_true hu;rw[if_pos hu];refine E9 (fun q=>by omega) fun _=>good hu
    ·have hu':¬Y2 (SizeOf.sizeOf b) b x.1<0:=fun w=>hu (decide_eq_true w)
     rw[if_neg hu];refine E9 (fun _=>D7 ⟨by decide,rfl⟩) fun q=>by omega
theorem f5m{c:A3}(hc:Snd c)(hd:c.Depth<=m)(o:GOp)(ho:OpG p o)(hkey:o.Key≠10):Ex (d8g p (E3 (cnR c) fun n c=>E3 (prR M p o.Key o.Kind o.Target n.toNat none c) fun l c=>.ok (⟨12,0,⟨#[]⟩,[],l,[],[]⟩,c))) (Y7 ⟨p,c⟩ o):=by
 refine B5 (b8p _ _) (E0 (e27 hc) fun y hy=>?_);obtain⟨hf,hl⟩:=e0v hc;cases he:cnR c with
 |error e=>
  rw[he]at hy;refine B3 _ (fun _=>D7 ⟨hy.1,hy.2⟩) fun q=>?_
  rw[hy.2]at q;exact absurd (ne0 hy.1) (by rw[q];simp)
 |ok x=>
  rw[he]at hy hf;have hy:y=(⟨p,x.2⟩,x.1,0):=hy;have hx:=hl x he;subst hy;refine B3 _ (fun q=>by simp at q) fun _=>?_
  have:=e4n hp hM hF o ho hkey (⟨p,x.2⟩,x.1,0) x.1.toNat (by simp only;omega) (by omega) x.1.toNat 0 none [] x.2 (by omega) rfl rfl hf.1 (by rw[hf.2];exact hd);rw[a3o];simp only[List.nil_append]at this;exact this
theorem e3a{g:B8}(hg:g∈p.Progs)(o:GOp)(ho:OpG p o)(hm3:o.Kind=10->o.Card≠3)(v:A0)(c0 c:A3)(b e:Int)(hc:Snd c)(hd:c.Depth<=m):∀(d i:Nat),v.Slots.length - i<=d->i<=v.Slots.length->v.Slots.length<=140737488351232->Ex (g8m p (if c7x g (v.Slots.drop i) o=true then .error 15 else E3 (elR M p o.Kind o.Target c) fun x c=>if o.Card=3/\b8b x=true then .error 5 else .ok ((x,true),c))) (a05 i v ⟨p,c0⟩ (b,c,e) g o):=by
 have fin:Ex (g8m p (E3 (elR M p o.Kind o.Target c) fun x c=>if o.Card=3/\b8b x=true then .error 5 else .ok ((x,true),c))) fun r=>∃y6,G3 (⟨p,c⟩:A9) o y6/\(∃R2:Bool->Prop,(∀bz2:Bool,R2 bz2->((bz2=true->r=(y6.1,y6.2.1,true,5))/\(bz2=false->r=(y6.1,y6.2.1,true,y6.2.2))))/\((((y6.2.2==0)&&(o.Card==3))=true->∃y7,a62 y6.2.1 y7/\(R2 y7))/\(((y6.2.2==0)&&(o.Card==3))=false->R2 false))):=by
  refine E0 (c2w hp hM hc hd o ho) fun y hy=>C7 ?_
  cases he:elR M p o.Kind o.Target c with
  |error e=>
   rw[he]at hy;refine B3 _ (fun q=>?_) fun _=>B3 false (fun q=>by cases q) fun _=>D7 ⟨hy.1,hy.2⟩
   simp only[Bool.and_eq_true,beq_iff_eq]at q;exact absurd (hy.2.symm.trans q.1) hy.1
  |ok x=>
   rw[he]at hy;have hy:y=(⟨p,x.2⟩,x.1,0):=hy;subst hy;rw[a3o];refine B3 _ (fun q=>?_) fun q=>B3 false (fun q=>by cases q) fun _=>D7 ?_
   ·have h3:o.Card=3:=by simpa using q
    have hk:o.Kind≠10:=fun hk=>hm3 hk h3
    have hv:OkD x.1:=by
     rw[elR,if_neg hk]at he;obtain⟨_,c1,h1,h2⟩:=b6f he;have h4:=Fwd.sp hc;rw[h1]at h4;exact(e9q h4.1 h2).1
    refine c27 (e6f x.1 hv.okv) (B3 _ (fun z=>D7 ?_) fun z=>D7 ?_)
    ·rw[if_pos ⟨h3,z⟩];exact⟨by decide,rfl⟩
    ·rw[if_neg (fun w=>by rw[z]at w;exact absurd w.2 (by decide))];rfl
   ·have h3:¬o.Card=3:=by simpa using q
    rw[if_neg (fun w=>h3 w.1)];rfl
 intro d
 induction d with
 |zero=>
  intro i hi hle hz;refine B5 (a5s _ _ _ _ _ _) (E9 (fun h=>by omega) fun _=>?_);rw[List.drop_eq_nil_of_le (by omega)];exact fin
 |succ d ih=>
  intro i hi hle hz;refine B5 (a5s _ _ _ _ _ _) (E9 (fun h=>?_) fun h=>?_)
  ·have hlt:i<v.Slots.length:=by omega
   have dl:v.Slots.drop i=v.Slots[i]::v.Slots.drop (i+1):=List.drop_eq_getElem_cons hlt;have e1:wI ((i:Int)+1)=((i+1:Nat):Int):=by rw[wI,D3 (by omega)];omega
   refine a3d v.Slots[i] (by simp) (by omega) (c27 (e7m g (hp.ops hg) _) (B3 _ (fun q=>D7 ?_) fun q=>?_))
   ·rw[if_pos]
    ·exact⟨by decide,rfl⟩
    ·rw[dl,c7x,List.any_cons,Bool.or_eq_true];refine .inl ?_;simp only[Bool.and_eq_true,decide_eq_true_eq,beq_iff_eq]at q ⊢;exact⟨q.1.1,q.1.2,q.2⟩
   ·rw[e1];have:=ih (i+1) (by omega) (by omega) hz
    have ej:c7x g (v.Slots.drop i) o=c7x g (v.Slots.drop (i+1)) o:=by
     rw[dl,c7x,List.any_cons]
     have:((opV g v.Slots[i].1).2&&(decide (0<=o.Union)&&decide ((opV g v.Slots[i].1).1.Union=o.Union)))=false:=by
      rw[<-q,Bool.and_assoc]
      congr 2
     rw[this,Bool.false_or];rfl
    rw[ej];exact this
  ·rw[List.drop_eq_nil_of_le (by omega)];exact fin
theorem f4w{g:B8}(hg:g∈p.Progs)(o:GOp)(ho:OpG p o)(hm3:o.Kind=10->o.Card≠3)(sl:List (Int × A0))(hsl:sl.length<=140737488351232){c:A3}(hc:Snd c)(hd:c.Depth<=m):Ex (g8m p (myR M p g sl o c)) (Y8 ⟨p,c⟩ g ⟨10,0,⟨#[]⟩,[],[],sl,[]⟩ o):=by
 have hb:=e6j c hc.okc;have hf:=Fwd.byte hc;have hr:=c1k c;refine B5 (b71 _ _ _ _) (c27 hb (B3 _ (fun h=>D7 ?_) fun h=>E9 (fun h2=>D7 ?_) fun h2=>B3 _ (fun h3=>D7 ?_) fun h3=>?_))
 ·have q:(a3e c).2.2≠0:=by simpa using h
  rw[myR,b05,if_pos q];exact⟨q,rfl⟩
 all_goals
  have q:¬(a3e c).2.2≠0:=by simpa using h
  rw[myR,b05,if_neg q]
 ·rw[if_pos h2];exact⟨by decide,rfl⟩
 ·have h3':(a3e c).1=0:=by simpa using h3
  rw[if_neg h2,if_pos h3'];rfl
 ·have h3':¬(a3e c).1=0:=by simpa using h3
  rw[if_neg h2,if_neg h3'];unfold toR at hf;rw[if_neg q]at hf;exact e3a hp hM hF hg o ho hm3 ⟨10,0,⟨#[]⟩,[],[],sl,[]⟩ c (a3e c).2.1 (a3e c).1 (a3e c).2.2 hf.1 (by rw[hf.2];exact hd) _ 0 (Nat.le_refl _) (by omega) hsl
theorem d42{α:Type}{Q:α->Prop}{g:B8}(hg:g∈p.Progs)(o:GOp)(ho:o∈g.Ops)(sl:List (Int × A0))(hsl:sl.length<=140737488351232){c:A3}(hc:Snd c)(hd:c.Depth<=m)(G:Bool->Int->A9->A0->α->Prop)
  (h1:∀x,fdR M p g sl o c=.ok x->Ex Q (G x.1.2 0 ⟨p,x.2⟩ x.1.1)) (h2:∀e,fdR M p g sl o c=.error e->e≠0->∀b y z,Ex Q (G b e y z)):
  Ex Q (fun r=>((o.Card==1)=true->∃y,G3 ⟨p,c⟩ o y/\G true y.2.2 y.1 y.2.1 r)/\((o.Card==1)=false->((o.Card==4)=true->∃y,a0r ⟨p,c⟩ o y/\G (decide (0<(y.2.1.List_.length:Int))) y.2.2 y.1 y.2.1 r)/\((o.Card==4)=false->((o.Card==5)=true->∃y,Y7 ⟨p,c⟩ o y/\G (decide (0<(y.2.1.Pairs.length:Int))) y.2.2 y.1 y.2.1 r)/\((o.Card==5)=false->∃y,Y8 ⟨p,c⟩ g ⟨10,0,⟨#[]⟩,[],[],sl,[]⟩ o y/\G y.2.2.1 y.2.2.2 y.1 y.2.1 r)))):=by
 have hof:=(hp.va.pro g hg).2 _ ho
 have hog:OpG p o:=fun hk=>by
  obtain⟨t0,t1,_⟩:=hof.msg hk;exact⟨_,List.getElem?_eq_getElem (show o.Target.toNat<p.Progs.length by omega),t0⟩
 refine B3 _ (fun k1=>?_) fun k1=>B3 _ (fun k4=>?_) fun k4=>B3 _ (fun k5=>?_) fun k5=>?_
 ·have c1:o.Card=1:=by simpa using k1
  refine E0 (c2w hp hM hc hd o hog) fun y hy=>?_
  have ef:fdR M p g sl o c=E3 (elR M p o.Kind o.Target c) fun x c=>.ok ((x,true),c):=by rw[fdR,if_pos c1]
  cases he:elR M p o.Kind o.Target c with
  |error e=>
   rw[he]at hy ef;have:=h2 e ef hy.1 true y.1 y.2.1;rw[hy.2];exact this
  |ok x=>
   rw[he]at hy ef;have hy:y=(⟨p,x.2⟩,x.1,0):=hy;subst hy;exact h1 _ ef
 all_goals have c1:¬o.Card=1:=by simpa using k1
 ·have c4:o.Card=4:=by simpa using k4
  refine E0 (g09 hp hM hF hc hd o hog) fun y hy=>?_
  have ef:fdR M p g sl o c=E3 (E3 (cnR c) fun n c=>E3 (lsR M p o.Kind o.Target n.toNat c) fun l c=>.ok ((⟨11,0,⟨#[]⟩,l,[],[],[]⟩:A0),c)) fun x c=>.ok ((x,decide (0<(x.List_.length:Int))),c):=by
   rw[fdR,if_neg c1,if_pos c4,a3a]
   congr 1
   funext n c
   rw[a3a]
   congr 1
   funext l c
   simp only[E3,d5b]
  cases he:E3 (cnR c) fun n c=>E3 (lsR M p o.Kind o.Target n.toNat c) fun l c=>.ok ((⟨11,0,⟨#[]⟩,l,[],[],[]⟩:A0),c) with
  |error e=>
   rw[he]at hy ef;have:=h2 e ef hy.1 (decide (0<(y.2.1.List_.length:Int))) y.1 y.2.1;rw[hy.2];exact this
  |ok x=>
   rw[he]at hy ef;have hy:y=(⟨p,x.2⟩,x.1,0):=hy;subst hy;exact h1 _ ef
 all_goals have c4:¬o.Card=4:=by simpa using k4
 ·have c5:o.Card=5:=by simpa using k5
  have hkey:o.Key≠10:=by have:=hof.key.2 c5;omega
  refine E0 (f5m hp hM hF hc hd o hog hkey) fun y hy=>?_
  have ef:fdR M p g sl o c=E3 (E3 (cnR c) fun n c=>E3 (prR M p o.Key o.Kind o.Target n.toNat none c) fun l c=>.ok ((⟨12,0,⟨#[]⟩,[],l,[],[]⟩:A0),c)) fun x c=>.ok ((x,decide (0<(x.Pairs.length:Int))),c):=by
   rw[fdR,if_neg c1,if_neg c4,if_pos c5,a3a]
   congr 1
   funext n c
   rw[a3a]
   congr 1
   funext l c
   simp only[E3,d5b]
  cases he:E3 (cnR c) fun n c=>E3 (prR M p o.Key o.Kind o.Target n.toNat none c) fun l c=>.ok ((⟨12,0,⟨#[]⟩,[],l,[],[]⟩:A0),c) with
  |error e=>
   rw[he]at hy ef;have:=h2 e ef hy.1 (decide (0<(y.2.1.Pairs.length:Int))) y.1 y.2.1;rw[hy.2];exact this
  |ok x=>
   rw[he]at hy ef;have hy:y=(⟨p,x.2⟩,x.1,0):=hy;subst hy;exact h1 _ ef
 ·have c5:¬o.Card=5:=by simpa using k5
  have ef:fdR M p g sl o c=myR M p g sl o c:=by rw[fdR,if_neg c1,if_neg c4,if_neg c5]
  refine E0 (f4w hp hM hF hg o hog (fun hk=>(hof.msg hk).2.2) sl hsl hc hd) fun y hy=>?_
  cases he:myR M p g sl o c with
  |error e=>
   rw[he]at hy ef;have:=h2 e ef hy.1 y.2.2.1 y.1 y.2.1;rw[hy.2];exact this
  |ok x=>
   rw[he]at hy ef;have hy:y=(⟨p,x.2⟩,x.1.1,x.1.2,0):=hy;subst hy;exact h1 _ ef
end
theorem f6d{α:Type}(f:α->Bool):∀(l:List α) (i:Int),0<=i->c4c f l i<i+l.length
 |[],i,h=>by simp[c4c];omega
 |x::l,i,h=>by
  have ih:=f6d f l (i+1) (by omega)
  by_cases e:f x=true
  ·have:c4c f (x::l) i=i:=by simp only[c4c];rw[if_pos e]
   rw[this];simp;omega
  ·have:c4c f (x::l) i=c4c f l (i+1):=by simp only[c4c];rw[if_neg e]
   rw[this];simp;omega
theorem d9z(p:A7)(name:ByteArray)(h:(X3 p name).2=true):0<=(X3 p name).1/\∃g,p.Progs[(X3 p name).1.toNat]? =some g:=by
 have h1:0<=c4c (fun g:B8=>decide (g.Name=name)) p.Progs 0:=by simpa[X3]using h
 have h2:=f6d (fun g:B8=>decide (g.Name=name)) p.Progs 0 (Int.le_refl _);have h3:(X3 p name).1=c4c (fun g:B8=>decide (g.Name=name)) p.Progs 0:=by simp only[X3];omega
 rw[h3];have hlt:(c4c (fun g:B8=>decide (g.Name=name)) p.Progs 0).toNat<p.Progs.length:=by omega
 exact⟨h1,_,List.getElem?_eq_getElem hlt⟩
noncomputable def d12(p:A7)(name:ByteArray)(v:A0):ByteArray × Int:=
 if(X3 p name).2=false then(⟨#[]⟩,10)
 else if d1r p (SizeOf.sizeOf v) (X3 p name).1 v≠0 then(⟨#[]⟩,d1r p (SizeOf.sizeOf v) (X3 p name).1 v)
 else if a8h (SizeOf.sizeOf v) v=true then(⟨#[]⟩,18)
 else if 65536<(a3s p (SizeOf.sizeOf v) (X3 p name).1 (H8 p (SizeOf.sizeOf v) (X3 p name).1 v)).size then(⟨#[]⟩,3)
 else(a3s p (SizeOf.sizeOf v) (X3 p name).1 (H8 p (SizeOf.sizeOf v) (X3 p name).1 v),0)
section
variable {p:A7}(hp:OkX p) (name:ByteArray) {v:A0}(hv:OkD v) (hw:wtV v<=134217728)
 include hp hv hw
theorem h06(t:Int)(g:B8)(hgt:p.Progs[t.toNat]? =some g)(ht:0<=t)(h:d1r p (SizeOf.sizeOf v) t v=0):NfV p (SizeOf.sizeOf v) t (H8 p (SizeOf.sizeOf v) t v)/\b31 p (SizeOf.sizeOf v) t v 1=0/\(a3s p (SizeOf.sizeOf v) t (H8 p (SizeOf.sizeOf v) t v)).size<=140737488355328:=by
 obtain⟨h1,h2⟩:=b9m h;have h3:=e9k hp _ t g v 1 hgt ht hv (Nat.le_refl _) h1;have h4:=d7b hp _ _ _ h3;have h5:=e9y p (SizeOf.sizeOf v) t v;exact⟨h3,h1,by omega⟩
theorem g39:c52 p name v (d12 p name v):=by
 have hpl:=D6 hp.pl.np;refine d0d _ _ _ _ ⟨_,d1d p hpl name,fun h=>?_,fun h=>?_⟩
 ·rw[d12,if_pos (by simpa using h)]
 have hf:(X3 p name).2=true:=by simpa using h
 obtain⟨t0,g,hgt⟩:=d9z p name hf;refine⟨_,f3h hp _ _ g v hgt t0 hv (Nat.le_refl _) (by omega),fun h2=>?_,fun h2=>?_⟩
 ·rw[d12,if_neg (by simp[hf]),if_pos (by simpa using h2)]
 have h2':d1r p (SizeOf.sizeOf v) (X3 p name).1 v=0:=by simpa using h2
 refine⟨_,c8u _ v hv (Nat.le_refl _),fun h3=>?_,fun h3=>?_⟩
 ·rw[d12,if_neg (by simp[hf]),if_neg (by omega),if_pos h3]
 obtain⟨hnf,hmsg,hsz⟩:=h06 hp hv hw _ g hgt t0 h2';refine⟨_,f4o hp _ _ g v hgt t0 hv (Nat.le_refl _) ⟨_,Nat.le_refl _,by simpa using h3⟩,_,d75 hp _ _ _ [] hnf (by simpa using hsz),fun h4=>?_,fun h4=>⟨_,by rw[List.nil_append],?_⟩⟩
 ·rw[d12,if_neg (by simp[hf]),if_neg (by omega),if_neg (nt h3),if_pos];simp only[List.nil_append,a98,decide_eq_true_eq]at h4;omega
 ·rw[d12,if_neg (by simp[hf]),if_neg (by omega),if_neg (nt h3),if_neg];simp only[List.nil_append,a98,decide_eq_false_iff_not]at h4;omega
end
theorem b8v.oke{p:A7}(h:b8v p):OkE p:=⟨D6 h.ne,fun y hy=>⟨D6 (h.enums y hy).ni,fun it hit=>⟨((h.enums y hy).items it hit).num.1,((h.enums y hy).items it hit).num.2⟩⟩⟩
theorem d9k(p:A7)(hp:b8v p):∃b,b7z p b/\(b=true->OkX p):=by
 obtain⟨y,h1,h2⟩:=g1a p hp;rcases Bool.eq_false_or_eq_true ((decide ((p.Progs.length:Int)<=8))&&(decide ((p.Enums.length:Int)<=8))) with h|h
 ·exact⟨_,b45 _ _ ⟨fun _=>⟨y,h1,rfl⟩,fun q=>(by rw[h]at q;cases q)⟩,fun hb=>⟨hp.oke,hp,h2 (by simpa using hb)⟩⟩
 ·exact⟨false,b45 _ _ ⟨fun q=>(by rw[h]at q;cases q),fun _=>rfl⟩,fun hb=>by cases hb⟩
theorem f2p(v:A0)(hv:OkD v):c1o v (decide (wI (a25 (SizeOf.sizeOf v) v)<=5000)):=c7m _ _ ⟨_,b80 _ v hv (Nat.le_refl _),rfl⟩
theorem h2j(z:A0):(⟨z.Kind,z.Bits,z.Text,z.List_,z.Pairs,z.Slots,z.Raws⟩:A0)=z:=by cases z;rfl
section
variable {p:A7}(hp:OkX p) {M:RdM}
variable (hF:∀(t:Int) (g:B8) (c:A3),p.Progs[t.toNat]? =some g->0<=t->Snd c->Fwd c (M t c))
 include hF
theorem f7v(o:GOp)(ho:OpG p o):∀(n:Nat) (c:A3),Snd c->Fwd c (lsR M p o.Kind o.Target n c)
 |0,c,hc=>Fwd.ret _ hc
 |n+1,c,hc=>by
  rw[lsR];exact Fwd.bind (c6y hF hc o ho) fun _ c' _ q _=>Fwd.bind (f7v o ho n c' q) fun _ c'' _ q2 _=>Fwd.ret _ q2
theorem f7i(o:GOp)(ho:OpG p o)(hkey:o.Key≠10):∀(n:Nat) (a:Option A0) (c:A3),Snd c->Fwd c (prR M p o.Key o.Kind o.Target n a c)
 |0,a,c,hc=>by rw[prR];exact Fwd.ret _ hc
 |n+1,a,c,hc=>by
  rw[prR];have hk:=c6y (p:=p) hF hc (⟨0,⟨#[]⟩,⟨#[]⟩,0,0,o.Key, -1,0⟩:GOp) (fun h=>absurd h hkey);refine Fwd.bind hk fun x c' _ q _=>?_
  split
  ·exact Fwd.bind (c6y hF q o ho) fun _ c2 _ q2 _=>Fwd.bind (f7i o ho hkey n _ c2 q2) fun _ c3 _ q3 _=>Fwd.ret _ q3
  ·exact Fwd.err (by decide)
theorem g3w(g:B8)(o:GOp)(ho:OpG p o)(sl:List (Int × A0)){c:A3}(hc:Snd c):Fwd c (myR M p g sl o c):=by
 unfold myR;refine Fwd.bind (Fwd.byte hc) fun b c' _ q _=>?_
 split
 ·exact Fwd.err (by decide)
 split
 ·exact Fwd.ret _ q
 split
 ·exact Fwd.err (by decide)
 refine Fwd.bind (c6y hF q o ho) fun x c2 _ q2 _=>?_
 split
 ·exact Fwd.err (by decide)
 ·exact Fwd.ret _ q2
 include hp
theorem e0j{g:B8}(hg:g∈p.Progs)(o:GOp)(ho:o∈g.Ops)(sl:List (Int × A0)){c:A3}(hc:Snd c):Fwd c (fdR M p g sl o c):=by
 have hof:=(hp.va.pro g hg).2 _ ho
 have hog:OpG p o:=fun hk=>by
  obtain⟨t0,t1,_⟩:=hof.msg hk;exact⟨_,List.getElem?_eq_getElem (show o.Target.toNat<p.Progs.length by omega),t0⟩
 unfold fdR;split
 ·exact Fwd.bind (c6y hF hc o hog) fun _ c' _ q _=>Fwd.ret _ q
 split
 ·exact Fwd.bind (e0v hc).1 fun _ c' _ q _=>Fwd.bind (f7v hF o hog _ _ q) fun _ c2 _ q2 _=>Fwd.ret _ q2
 split
 ·rename_i h5;have hkey:o.Key≠10:=by have:=hof.key.2 h5;omega
  exact Fwd.bind (e0v hc).1 fun _ c' _ q _=>Fwd.bind (f7i hF o hog hkey _ _ _ q) fun _ c2 _ q2 _=>Fwd.ret _ q2
 ·exact g3w hF g o hog sl hc
theorem e5e{g:B8}(hg:g∈p.Progs):∀(ops:List GOp) (sl:List (Int × A0)) (c:A3),(∀o∈ops,o∈g.Ops)->Snd c->Fwd c (c9x M p g ops sl c)
 |[],sl,c,_,hc=>by rw[c9x];exact Fwd.ret _ hc
 |o::ops,sl,c,ho,hc=>by
  rw[c9x];exact Fwd.bind (e0j hp hF hg o (ho o (by simp)) sl hc) fun x c' _ q _=>e5e hg ops _ c' (fun o h=>ho o (by simp[h])) q
end
theorem e9z{p:A7}(hp:OkX p):∀(n:Nat) (t:Int) (g:B8) (c:A3),p.Progs[t.toNat]? =some g->0<=t->Snd c->Fwd c (msR p n t c)
 |0,t,g,c,_,_,_=>Fwd.err (by decide)
 |n+1,t,g,c,hgt,ht,hc=>by
  have hg:g∈p.Progs:=List.mem_of_getElem? hgt;rw[msR];split
  ·exact Fwd.err (by decide)
  rename_i h1;refine Fwd.bind (Fwd.sp hc) fun _ c' _ q hd=>?_
  rw[hgt];simp only;have hl:=d0z q (by omega);have:=e5e (M:=msR p n) hp (fun t g c h0 h1 h2=>e9z hp n t g c h0 h1 h2) hg g.Ops [] (a8e c' 1) (fun o h=>h) hl;cases he:c9x (msR p n) p g g.Ops [] (a8e c' 1) with
  |error e=>rw[he]at this;exact this
  |ok x=>
   rw[he]at this;obtain⟨s,d⟩:=this;have d1:=q.d1;have d0:=q.d0;simp only[a8e]at d;exact⟨⟨s.sz,s.a0,s.a1,s.a2,by simp only[a8e];omega,by simp only[a8e];omega,s.n0,s.n1⟩,by simp only[a8e];omega⟩
section
variable {p:A7}(hp:OkX p) {m:Nat}{M:RdM}
variable (hM:∀(t:Int) (g:B8) (c:A3),p.Progs[t.toNat]? =some g->0<=t->Snd c->c.Depth<=m->Ex (d8g p (M t c)) (W3 ⟨p,c⟩ t))
variable (hF:∀(t:Int) (g:B8) (c:A3),p.Progs[t.toNat]? =some g->0<=t->Snd c->Fwd c (M t c))
 include hp hM hF
abbrev h1t(sl:List (Int × A0))(c:A3):Rs A0:=.ok (⟨10,0,⟨#[]⟩,[],[],sl,[]⟩,a8e c (-1))
theorem f9j{g:B8}(hg:g∈p.Progs)(hgl:g.Ops.length<=65535):∀(d i:Nat) (sl:List (Int × A0)) (c:A3) (o:GOp) (z:A0),i+d=g.Ops.length->sl.length<=i->Snd c->c.Depth<=m->Ex (d8g p (E3 (c9x M p g (g.Ops.drop i) sl c) h1t)) (T6 i p.Progs p.Enums c.Data c.At c.End c.Depth c.Nodes c.Text sl g o.Num o.Name o.Alias o.Card o.Key o.Kind o.Target o.Union z.Kind z.Bits z.Text z.List_ z.Pairs z.Slots z.Raws):=by
 intro d
 induction d with
 |zero=>
  intro i sl c o z hi hs hc hd;have e:i=g.Ops.length:=by omega
  subst e;have d0:=hc.d0;have d1:=hc.d1;refine B5 (a23 _ _ _ _ _ _ _ _ _ _ _ _ _ _ _ _ _ _ _ _ _ _ _ _ _ _) (B3 _ (fun _=>D7 ?_) fun h=>by simp at h);rw[List.drop_length,c9x];show _=_;simp only[a8e];rw[wI,D3 (by omega)];simp
 |succ d ih=>
  intro i sl c o z hi hs hc hd;have hlt:i<g.Ops.length:=by omega
  have dl:g.Ops.drop i=g.Ops[i]::g.Ops.drop (i+1):=List.drop_eq_getElem_cons hlt;have hop:g.Ops[i]∈g.Ops:=List.getElem_mem hlt;have e1:wI ((i:Int)+1)=((i+1:Nat):Int):=by rw[wI,D3 (by omega)];omega
  refine B5 (a23 _ _ _ _ _ _ _ _ _ _ _ _ _ _ _ _ _ _ _ _ _ _ _ _ _ _) (B3 _ (fun h=>by simp at h;omega) fun _=>a3d g.Ops[i] (by simp) (by omega) ?_);rw[dl,c9x,a3a];have hf:=e0j hp hF hg g.Ops[i] hop sl hc;refine d42 hp hM hF hg g.Ops[i] hop sl (by omega) hc hd (fun b e y z r=>O3 b e i y.p.Progs y.p.Enums y.c.Data y.c.At y.c.End y.c.Depth y.c.Nodes y.c.Text sl g g.Ops[i] z.Kind z.Bits z.Text z.List_ z.Pairs z.Slots z.Raws r) (fun x hx=>?_) fun e he h0 b y z=>?_
  ·rw[hx]at hf;rw[hx,a3o];have hd2:x.2.Depth<=m:=by rw[hf.2];exact hd
   refine B5 (a2z _ _ _ _ _ _ _ _ _ _ _ _ _ _ _ _ _ _ _ _ _) (B3 _ (fun q=>by simp at q) fun _=>B3 _ (fun hb=>D8 (by simp;omega) ?_) fun hb=>?_)
   ·rw[if_pos hb,e1,h2j];exact ih (i+1) (sl++[(g.Ops[i].Num,x.1.1)]) x.2 g.Ops[i] x.1.1 (by omega) (by simp;omega) hf.1 hd2
   ·rw[if_neg (by rw[hb];simp),e1];exact ih (i+1) sl x.2 g.Ops[i] x.1.1 (by omega) (by omega) hf.1 hd2
  ·rw[he];refine B5 (a2z _ _ _ _ _ _ _ _ _ _ _ _ _ _ _ _ _ _ _ _ _) (B3 _ (fun _=>D7 ⟨h0,rfl⟩) fun q=>?_);exact absurd (ne0 h0) (by rw[q];simp)
theorem f95{g:B8}(hg:g∈p.Progs)(hgl:g.Ops.length<=65535):∀(d i:Nat) (sl:List (Int × A0)) (c:A3) (o:GOp) (z:A0),i+d=g.Ops.length->sl.length<=i->Snd c->c.Depth<=m->Ex (d8g p (E3 (c9x M p g (g.Ops.drop i) sl c) h1t)) (S9 i p.Progs p.Enums c.Data c.At c.End c.Depth c.Nodes c.Text sl g o.Num o.Name o.Alias o.Card o.Key o.Kind o.Target o.Union z.Kind z.Bits z.Text z.List_ z.Pairs z.Slots z.Raws):=by
 intro d
 induction d with
 |zero=>
  intro i sl c o z hi hs hc hd;have e:i=g.Ops.length:=by omega
  subst e;have d0:=hc.d0;have d1:=hc.d1;refine B5 (a27 _ _ _ _ _ _ _ _ _ _ _ _ _ _ _ _ _ _ _ _ _ _ _ _ _ _) (B3 _ (fun _=>D7 ?_) fun h=>by simp at h);rw[List.drop_length,c9x];show _=_;simp only[a8e];rw[wI,D3 (by omega)];simp
 |succ d ih=>
  intro i sl c o z hi hs hc hd;have hlt:i<g.Ops.length:=by omega
  have dl:g.Ops.drop i=g.Ops[i]::g.Ops.drop (i+1):=List.drop_eq_getElem_cons hlt;have hop:g.Ops[i]∈g.Ops:=List.getElem_mem hlt;have e1:wI ((i:Int)+1)=((i+1:Nat):Int):=by rw[wI,D3 (by omega)];omega
  refine B5 (a27 _ _ _ _ _ _ _ _ _ _ _ _ _ _ _ _ _ _ _ _ _ _ _ _ _ _) (B3 _ (fun h=>by simp at h;omega) fun _=>a3d g.Ops[i] (by simp) (by omega) ?_);rw[dl,c9x,a3a];have hf:=e0j hp hF hg g.Ops[i] hop sl hc;refine d42 hp hM hF hg g.Ops[i] hop sl (by omega) hc hd (fun b e y z r=>O2 b e i y.p.Progs y.p.Enums y.c.Data y.c.At y.c.End y.c.Depth y.c.Nodes y.c.Text sl g g.Ops[i] z.Kind z.Bits z.Text z.List_ z.Pairs z.Slots z.Raws r) (fun x hx=>?_) fun e he h0 b y z=>?_
  ·rw[hx]at hf;rw[hx,a3o];have hd2:x.2.Depth<=m:=by rw[hf.2];exact hd
   refine B5 (a2e _ _ _ _ _ _ _ _ _ _ _ _ _ _ _ _ _ _ _ _ _) (B3 _ (fun q=>by simp at q) fun _=>B3 _ (fun hb=>D8 (by simp;omega) ?_) fun hb=>?_)
   ·rw[if_pos hb,e1,h2j];exact ih (i+1) (sl++[(g.Ops[i].Num,x.1.1)]) x.2 g.Ops[i] x.1.1 (by omega) (by simp;omega) hf.1 hd2
   ·rw[if_neg (by rw[hb];simp),e1];exact ih (i+1) sl x.2 g.Ops[i] x.1.1 (by omega) (by omega) hf.1 hd2
  ·rw[he];refine B5 (a2e _ _ _ _ _ _ _ _ _ _ _ _ _ _ _ _ _ _ _ _ _) (B3 _ (fun _=>D7 ⟨h0,rfl⟩) fun q=>?_);exact absurd (ne0 h0) (by rw[q];simp)
end
theorem d2o{p:A7}(hp:OkX p):∀(m:Nat) (t:Int) (g:B8) (c:A3),p.Progs[t.toNat]? =some g->0<=t->Snd c->c.Depth<=m->Ex (d8g p (msR p m t c)) (W3 ⟨p,c⟩ t)
 |0,t,g,c,hgt,ht,hc,hd=>by
  have d0:=hc.d0;refine B5 (a6u _ _) (E9 (fun _=>D7 ⟨by decide,rfl⟩) fun h=>?_);simp only at h;omega
 |m+1,t,g,c,hgt,ht,hc,hd=>by
  have hg:g∈p.Progs:=List.mem_of_getElem? hgt;have hgl:=f1i hp hg;have hM:=fun(t:Int) (g:B8) (c:A3) h0 h1 h2 h3=>d2o hp m t g c h0 h1 h2 h3
  have hF:=fun(t:Int) (g:B8) (c:A3) h0 h1 h2=>e9z hp m t g c h0 h1 h2
  have d0:=hc.d0;have d1:=hc.d1;refine B5 (a6u _ _) (E9 (fun h=>D7 ?_) fun h=>E0 (d32 (p:=p) hc) fun y hy=>?_)
  ·rw[msR,if_pos h];exact⟨by decide,rfl⟩
  have h1:¬c.Depth<1:=h;rw[msR,if_neg h1];have hs:=Fwd.sp hc;cases hsp:spR c with
  |error e=>
   rw[hsp]at hy;refine B3 _ (fun _=>D7 ⟨hy.1,hy.2⟩) fun q=>?_
   rw[hy.2]at q;exact absurd (ne0 hy.1) (by rw[q];simp)
  |ok x=>
   rw[hsp]at hy hs;have hy:y=(⟨p,x.2⟩,0):=hy;subst hy;obtain⟨s1,s2⟩:=hs;have e0:wI (x.2.Depth - 1)=x.2.Depth - 1:=by rw[s2,wI,D3 (by omega)]
   refine B3 _ (fun q=>by simp at q) fun _=>a3d g hgt ht ?_
   simp only[a3o,hgt];have hl:=d0z s1 (by omega);have hcl:(⟨x.2.Data,x.2.At,x.2.End,wI (x.2.Depth - 1),x.2.Nodes,x.2.Text⟩:A3)=a8e x.2 1:=by simp only[a8e];rw[e0]
   have hdl:(a8e x.2 1).Depth<=m:=by simp only[a8e];omega
   cases hops:g.Ops with
   |nil=>
    refine B3 _ (fun _=>D7 ?_) fun h=>by simp at h
    rw[c9x,a3o];show _=_;simp only[a8e];rw[e0,wI,D3 (by omega)];simp
   |cons o ops=>
    have hop:o∈g.Ops:=by rw[hops];simp
    have hdrop:g.Ops.drop 1=ops:=by rw[hops];rfl
    refine B3 _ (fun h=>by simp at h;omega) fun _=>a3d o (by simp) (by omega) ?_
    rw[c9x,hcl];have hf:=e0j hp hF hg o hop [] hl;have key:=d42 (Q:=d8g p (E3 (E3 (fdR (msR p m) p g [] o (a8e x.2 1)) fun x c=>c9x (msR p m) p g ops (if x.2=true then []++[(o.Num,x.1)] else []) c) h1t)) hp hM hF hg o hop [] (by simp) hl hdl (fun b e y z r=>P7 b e y.p.Progs y.p.Enums y.c.Data y.c.At y.c.End y.c.Depth y.c.Nodes y.c.Text g o z.Kind z.Bits z.Text z.List_ z.Pairs z.Slots z.Raws r) (fun z hz=>?_) fun e he h0 b y z=>?_
    ·exact key
    ·rw[hz]at hf;rw[hz,a3o];have hd2:z.2.Depth<=m:=by rw[hf.2];exact hdl
     refine B5 (a3x _ _ _ _ _ _ _ _ _ _ _ _ _ _ _ _ _ _ _) (B3 _ (fun q=>by simp at q) fun _=>B3 _ (fun hb=>D8 (by simp) ?_) fun hb=>?_)
     ·rw[if_pos hb,List.nil_append,h2j];have:=f9j hp hM hF hg hgl (g.Ops.length - 1) 1 [(o.Num,z.1.1)] z.2 o z.1.1 (by rw[hops];simp;omega) (by simp) hf.1 hd2;rw[hdrop]at this;exact this
     ·rw[if_neg (by rw[hb];simp)];have:=f95 hp hM hF hg hgl (g.Ops.length - 1) 1 [] z.2 o z.1.1 (by rw[hops];simp;omega) (by simp) hf.1 hd2;rw[hdrop]at this;exact this
    ·rw[he];refine B5 (a3x _ _ _ _ _ _ _ _ _ _ _ _ _ _ _ _ _ _ _) (B3 _ (fun _=>D7 ⟨h0,rfl⟩) fun q=>?_);exact absurd (ne0 h0) (by rw[q];simp)
noncomputable def f3b(p:A7)(name data:ByteArray)(l:a0e):A0 × Int:=
 if(X3 p name).2=false then(V0,10)
 else if l.Bytes<0\/l.Depth<0\/l.Nodes<0\/l.Text<0 then(V0,1)
 else if l.Bytes<(data.size:Int) then(V0,3)
 else match msR p l.Depth.toNat (X3 p name).1 ⟨data,0,data.size,l.Depth,l.Nodes,l.Text⟩ with
  |.error e=>(V0,e)
  |.ok x=>if 0<a1b x.2.Data x.2.At x.2.End then(V0,18) else(x.1,0)
theorem g2y{p:A7}(hp:OkX p)(name data:ByteArray)(l:a0e)(hz:data.size<=140737488351232)(hd:l.Depth<=4611686018427387904)(hn:l.Nodes<=4611686018427387904):c6h p name data l (f3b p name data l):=by
 have hpl:=D6 hp.pl.np
 have neg:((((decide (l.Bytes<0))||(decide (l.Depth<0)))||(decide (l.Nodes<0)))||(decide (l.Text<0)))=decide (l.Bytes<0\/l.Depth<0\/l.Nodes<0\/l.Text<0):=by
  rw[Bool.eq_iff_iff];simp only[Bool.or_eq_true,decide_eq_true_eq];omega
 by_cases hf:(X3 p name).2=true
 rotate_left
 ·have hf':(X3 p name).2=false:=by simpa using hf
  refine a6h _ _ _ _ _ ⟨_,d1d p hpl name,fun _=>?_,fun h=>by rw[hf']at h;simp at h⟩;rw[f3b,if_pos hf'];rfl
 have nf:¬(X3 p name).2=false:=by simp[hf]
 by_cases hneg:l.Bytes<0\/l.Depth<0\/l.Nodes<0\/l.Text<0
 ·refine a6h _ _ _ _ _ ⟨_,d1d p hpl name,fun h=>by simp[hf]at h,fun _=>⟨_,b0e _ _ _ ⟨fun _=>rfl,fun h=>by rw[neg]at h;exact absurd hneg (of_decide_eq_false h)⟩,fun _=>?_,fun h=>by simp at h⟩⟩;rw[f3b,if_neg nf,if_pos hneg];rfl
 by_cases hby:l.Bytes<(data.size:Int)
 ·refine a6h _ _ _ _ _ ⟨_,d1d p hpl name,fun h=>by simp[hf]at h,fun _=>⟨_,b0e _ _ _ ⟨fun h=>by rw[neg]at h;exact absurd (of_decide_eq_true h) hneg,fun _=>⟨fun _=>rfl,fun h=>absurd hby (of_decide_eq_false h)⟩⟩,fun _=>?_,fun h=>by simp at h⟩⟩;rw[f3b,if_neg nf,if_neg hneg,if_pos hby];rfl
 obtain⟨t0,g,hgt⟩:=d9z p name hf;have hc:Snd ⟨data,0,data.size,l.Depth,l.Nodes,l.Text⟩:=⟨hz,by simp,by simp,by simp,by simp only;omega,by simp only;omega,by simp only;omega,by simp only;omega⟩;obtain⟨y,hy,hs⟩:=d2o hp l.Depth.toNat _ g _ hgt t0 hc (by simp only;omega);have hfw:=e9z hp l.Depth.toNat _ g _ hgt t0 hc;refine a6h _ _ _ _ _ ⟨_,d1d p hpl name,fun h=>by simp[hf]at h,fun _=>⟨_,b0e _ _ _ ⟨fun h=>by rw[neg]at h;exact absurd (of_decide_eq_true h) hneg,fun _=>⟨fun h=>absurd (of_decide_eq_true h) hby,fun _=>rfl⟩⟩,fun h=>by simp at h,fun _=>⟨y,hy,?_⟩⟩⟩
 have ed:f3b p name data l=match msR p l.Depth.toNat (X3 p name).1 ⟨data,0,data.size,l.Depth,l.Nodes,l.Text⟩ with
  |.error e=>(V0,e)
  |.ok x=>if 0<a1b x.2.Data x.2.At x.2.End then(V0,18) else(x.1,0):=by rw[f3b,if_neg nf,if_neg hneg,if_neg hby]
 cases he:msR p l.Depth.toNat (X3 p name).1 ⟨data,0,data.size,l.Depth,l.Nodes,l.Text⟩ with
 |error e=>
  rw[he]at hs ed;rw[ed];refine⟨fun _=>by rw[hs.2];rfl,fun h=>?_⟩;rw[hs.2]at h;exact absurd (ne0 hs.1) (by rw[h];simp)
 |ok x=>
  rw[he]at hs ed hfw;have hs:y=(⟨p,x.2⟩,x.1,0):=hs;subst hs;rw[ed];simp only;refine⟨fun h=>by simp at h,fun _=>⟨_,d4e x.2 hfw.1.okc,fun h=>?_,fun h=>?_⟩⟩
  ·rw[if_pos (of_decide_eq_true h)];rfl
  ·rw[if_neg (of_decide_eq_false h)]
theorem d57(d:ByteArray)(D N T:Int):O9 ⟨d,0,d.size,D,N,T⟩=d:=g0q d
theorem f4i{p:A7}(hp:OkX p){n:Nat}{t:Int}{x:A0}(h:RfV p n t x)(d:ByteArray)(hz:d.size<=140737488351232){D N T:Int}(hD:0<=D/\D<=4611686018427387904)(hN:0<=N/\N<=4611686018427387904)(hT:0<=T)(hpre:(∃u,d=a3s p n t x++u)\/∃u,a3s p n t x=d++u):Got ⟨d,0,d.size,D,N,T⟩ (a3s p n t x) (cV x) x (msR p D.toNat t ⟨d,0,d.size,D,N,T⟩):=by
 have hc:Snd ⟨d,0,d.size,D,N,T⟩:=⟨hz,by simp,by simp,by simp,hD.1,hD.2,hN.1,hN.2⟩;refine f6n hp n D.toNat t x h _ hc hT (by simp only;omega) ?_;unfold Ahd;rw[d57];exact hpre
structure Enc(p:A7)(name:ByteArray)(v:A0)(x:A0):Prop where
 find:(X3 p name).2=true
 body:(d12 p name v).1=a3s p (SizeOf.sizeOf v) (X3 p name).1 x
 rf:RfV p (SizeOf.sizeOf v) (X3 p name).1 x
 lim:Lim 1 (cV x)
 n:(cV x).n<=4096
 sz:(d12 p name v).1.size<=65536
 eq:x=H8 p (SizeOf.sizeOf v) (X3 p name).1 v
 at_:∃g,p.Progs[(X3 p name).1.toNat]? =some g/\0<=(X3 p name).1
 msg:b31 p (SizeOf.sizeOf v) (X3 p name).1 v 1=0
 nox:NoX v
theorem e9f{p:A7}(hp:OkX p)(name:ByteArray){v:A0}(hv:OkD v)(hw:wtV v<=134217728)(h:(d12 p name v).2=0):Enc p name v (H8 p (SizeOf.sizeOf v) (X3 p name).1 v):=by
 by_cases hf:(X3 p name).2=true
 rotate_left
 ·have hf':(X3 p name).2=false:=by simpa using hf
  rw[d12,if_pos hf']at h;exact absurd h (by decide)
 have nf:¬(X3 p name).2=false:=by simp[hf]
 obtain⟨t0,g,hgt⟩:=d9z p name hf
 by_cases hfit:d1r p (SizeOf.sizeOf v) (X3 p name).1 v=0
 rotate_left
 ·rw[d12,if_neg nf,if_pos hfit]at h;exact absurd h hfit
 have nfit:¬d1r p (SizeOf.sizeOf v) (X3 p name).1 v≠0:=by omega
 by_cases hx:a8h (SizeOf.sizeOf v) v=true
 ·rw[d12,if_neg nf,if_neg nfit,if_pos hx]at h;exact absurd h (by decide)
 by_cases hs:65536<(a3s p (SizeOf.sizeOf v) (X3 p name).1 (H8 p (SizeOf.sizeOf v) (X3 p name).1 v)).size
 ·rw[d12,if_neg nf,if_neg nfit,if_neg hx,if_pos hs]at h;exact absurd h (by decide)
 have e:d12 p name v=(a3s p (SizeOf.sizeOf v) (X3 p name).1 (H8 p (SizeOf.sizeOf v) (X3 p name).1 v),0):=by rw[d12,if_neg nf,if_neg nfit,if_neg hx,if_neg hs]
 obtain⟨m1,m2⟩:=b9m hfit;have hc:=d78 (SizeOf.sizeOf v) v (Nat.le_refl _);have hle:=d7d (SizeOf.sizeOf v) v
 have hn:nV v<=4096:=by
  split at m2
  ·exact absurd m2 (by decide)
  ·rename_i q;rw[wI,D3 (by omega)]at q;omega
 obtain⟨r1,r2⟩:=e6n hp _ _ g v 1 hgt t0 hv (Nat.le_refl _) m1 ⟨_,Nat.le_refl _,by simpa using hx⟩ hn;have hnn:=f0c p (SizeOf.sizeOf v) (X3 p name).1 v;exact⟨hf,by rw[e],r1,r2,Nat.le_trans hnn hn,by rw[e];simp only;omega,rfl,⟨g,hgt,t0⟩,m1,⟨_,Nat.le_refl _,by simpa using hx⟩⟩
theorem f28{p:A7}{name d:ByteArray}{l:a0e}(hf:(X3 p name).2=true)(h0:¬(l.Bytes<0\/l.Depth<0\/l.Nodes<0\/l.Text<0))(hb:(d.size:Int)<=l.Bytes):f3b p name d l=match msR p l.Depth.toNat (X3 p name).1 ⟨d,0,d.size,l.Depth,l.Nodes,l.Text⟩ with
  |.error e=>(V0,e)
  |.ok x=>if 0<a1b x.2.Data x.2.At x.2.End then(V0,18) else(x.1,0):=by
 (rw[f3b,if_neg (by simp[hf]),if_neg h0,if_neg (by omega)])<;>(cases msR p l.Depth.toNat (X3 p name).1 ⟨d,0,d.size,l.Depth,l.Nodes,l.Text⟩<;>rfl)
section
variable {p:A7}(hp:OkX p) {name:ByteArray}{v x:A0}(h:Enc p name v x)
 include hp h
theorem f4n(d:ByteArray)(D N T k n:Int)(hk:0<=k/\k<=d.size):a1b (adv ⟨d,0,d.size,D,N,T⟩ k n).Data (adv ⟨d,0,d.size,D,N,T⟩ k n).At (adv ⟨d,0,d.size,D,N,T⟩ k n).End=d.size - k:=by
 simp only[adv,Int.zero_add];rw[a1b,if_pos (by simp[b13];omega)]
theorem g2p(l:a0e)(hb:((d12 p name v).1.size:Int)<=l.Bytes)(hd:((cV x).d:Int)<=l.Depth/\l.Depth<=4611686018427387904)(hn:((cV x).n:Int)<=l.Nodes/\l.Nodes<=4611686018427387904)(ht:((cV x).l:Int)<=l.Text):f3b p name (d12 p name v).1 l=(x,0):=by
 have hs:=h.sz;rw[f28 h.find (by omega) hb];have g:=f4i hp h.rf (d12 p name v).1 (by omega) (D:=l.Depth) (N:=l.Nodes) (T:=l.Text) (by omega) (by omega) (by omega) (.inl ⟨⟨#[]⟩,by rw[<-h.body,c4b]⟩);rw[<-h.body]at g;generalize hr:msR p l.Depth.toNat (X3 p name).1 ⟨(d12 p name v).1,0,(d12 p name v).1.size,l.Depth,l.Nodes,l.Text⟩=r at g ⊢;cases r with
 |error e=>
  simp only[Got]at g;rcases g with⟨_,q⟩|⟨_,q⟩|⟨_,q⟩
  ·exact absurd ⟨⟨#[]⟩,by rw[d57,c4b]⟩ q
  ·omega
  ·omega
 |ok y=>
  obtain⟨rfl,_⟩:=g;simp only;rw[f4n hp h _ _ _ _ _ _ (by omega),if_neg (by omega)]
end
theorem f5h:c15 ⟨65536,16,4096,4096⟩:=c69 _ rfl
section
variable {n:Nat}{av:AV}
end
theorem f40(n:Nat)(a:A0):Y2 n a a=0:=by
 have h:=(g2u n).s a a;omega
theorem f0j{a:A0}(h:OkD a):c59 a a true:=d07 _ _ _ ⟨_,f1g a a h h,by rw[f40];rfl⟩
section
variable {p:A7}(hp:OkX p) {name:ByteArray}{v x:A0}(hv:OkD v) (h:Enc p name v x)
 include hp hv h
theorem Enc.norm:a8m p (X3 p name).1 v x:=by
 obtain⟨g,hg,t0⟩:=h.at_;rw[h.eq];exact d2i hp _ _ g v hg t0 ⟨hv,Nat.le_refl _,h.nox,1,h.msg⟩
theorem Enc.ok:OkD x:=by
 rw[h.eq];exact c35 hp _ _ v hv
end
theorem d66(aw:b6q true)(p:A7)(hp:b8v p)(name:ByteArray)(v:A0)(hv:OkD v)(hw:wtV v<=134217728):b7b p name v true:=by
 obtain⟨b,h1,h2⟩:=d9k p hp;refine b7x _ _ _ _ ⟨b,h1,fun z=>z=(!b|| !decide (wI (a25 (SizeOf.sizeOf v) v)<=5000)),fun z hz=>⟨fun _=>rfl,fun hz2=>?_⟩,fun hb=>by rw[hb,Bool.true_or],fun hb=>⟨_,f2p v hv,by rw[hb,Bool.false_or]⟩⟩;rw[hz2]at hz
 have hb:b=true:=by
  cases b with
  |true=>rfl
  |false=>simp at hz
 have hx:=h2 hb;have hpl:=D6 hx.pl.np;refine⟨_,g39 hx name hv hw,fun _=>⟨_,aw,rfl⟩,fun h=>?_⟩;simp only[Bool.or_eq_false_iff,bne_eq_false_iff_eq,decide_eq_false_iff_not]at h;have e:=e9f hx name hv hw h.1;have hs:(d12 p name v).1.size<=20000:=by omega
 obtain⟨l1,l2⟩:=e.lim;have hn:=e.n;refine⟨_,f4x p hpl name,_,f5h,_,g2y hx name _ _ (by omega) (by decide) (by decide),?_⟩;rw[g2p hx e ⟨65536,16,4096,4096⟩ (by simp only;omega) ⟨by simp only;omega,by decide⟩ ⟨by simp only;omega,by decide⟩ (by simp only;omega)];exact⟨fun _=>⟨_,e.norm hx hv,_,f0j (e.ok hx hv),fun _=>⟨_,aw,rfl⟩,fun h=>by cases h⟩,fun h=>by simp at h⟩
noncomputable def tbl:Tbl:=h3v Tryz.prog [10,12,15,18,20,21,31,34,36,47,50,55,56,57,58,59,60,61,62,76,79,80,81,82,83,84,99,100,101,102,103,104,105,106,107,108,110,113,114,117,118,137,139,140,141,152,153,154,157,158,159,161,162,163,166,168,181,186,187,188,189,190,195,214,216,224]
theorem g6z:d17 Tryz.prog tbl:=g5z (by kernel_rfl)
def g5x:Nat->Bool->Bool:=fun _ _=>false
theorem e5m:(f2f tbl g5x false (evC tbl g5x 100000) 15 [] ⟨[],[],[]⟩).map (fun r=>e4z r.2 r.1)=some (.v (.bool true)):=by kernel_rfl
theorem f3c:b6q true:=by
 have h:=run_pure (P:=Tryz.prog) g6z 100000 e5m rfl;exact⟨h.1,fun w outer cargs ho hg hr=>(h.2 w outer cargs ho hg hr).mono fun e w' ⟨av,x,a,b,c,d⟩=>⟨av,x,a,b,c,by rw[d];rfl⟩⟩
section
open Go.RowKit Go.ChangeShapes Go.WideShapes Go.ChangeAt
open _root_.Go.Proofs.YtidmmngcijapcaaGreat.Rows (uptoBulk uptoBulkAll uptoBulkEntries uptoBulkEntry)
section
variable {H:Type}{enc:TypeId × Value->H}{P:Program}{W:World}{base b0:Nat}{spare:Nat->Bool}{held:Bool}
theorem e2d:∀(els:List (List AV)) (ds:List (DataW H)),ds.length=els.length->(∀(i:Nat) (el:List AV) (d:DataW H),els[i]? =some el->ds[i]? =some d->bL el<=uptoBulk d)->bLL els<=uptoBulkAll ds
 |[],ds,_,_=>by simp[bLL]
 |el::els,[],h,_=>by simp at h
 |el::els,d::ds,h,hh=>by
  have h1:=hh 0 el d rfl rfl;have h2:=e2d els ds (by simpa using h) fun i e d hi hd=>hh (i+1) e d (by simpa using hi) (by simpa using hd)
  simp only[bLL,uptoBulkAll];omega
theorem d7y{ts:List TypeId}(ok:d9g P ts=true):∀(n:Nat) (t:TypeId) (cs:List Value) (z:DataW H × List MemPlace),t∈ts->DataW.trod enc P W base spare held n t cs=some z->a0m P t z.1->
  ∃avs,F4 (bare W b6t) avs cs/\Ty P n t avs/\plainL avs=true/\bL avs<=uptoBulk z.1:=by
 intro n
 induction n with
 |zero=>intro t cs z ht h;simp[DataW.trod]at h
 |succ n ih=>
  intro t cs z ht h hw;have hok:=List.all_eq_true.1 ok t ht;unfold okT at hok;split at hok
  ·rename_i k hu;obtain⟨m,rfl,hz,hwf⟩:=DataW.trod_int hu h;exact⟨[.v (.int k m)],F4.one (.v _ rfl) rfl,by unfold Ty;rw[hu];exact⟨m,rfl,hwf⟩,rfl,by rw[hz];simp[bL,bA,uptoBulk]⟩
  ·rename_i hu;obtain⟨b,rfl,hz⟩:=DataW.trod_bool hu h;exact⟨[.v (.bool b)],F4.one (.v _ rfl) rfl,by unfold Ty;rw[hu];exact⟨b,rfl⟩,rfl,by rw[hz];simp[bL,bA,uptoBulk]⟩
  ·rename_i hu;obtain⟨s,rfl,rfl,_⟩:=DataW.trod_string hu h;have:s.size<=140737488351232:=hw s.size (by simp[DataW.weights]);exact⟨[.v (.string s)],F4.one (.v _ rfl) rfl,by unfold Ty;rw[hu];exact⟨s,rfl,this⟩,rfl,by simp[bL,bA,uptoBulk]⟩
  ·rename_i e hu;simp only[Bool.and_eq_true,decide_eq_true_eq,List.contains_iff_mem]at hok;obtain⟨⟨he,hk0⟩,hb1⟩:=hok;rcases DataW.trod_slice hu h with⟨hc,hx0⟩|⟨a,len,cap,elems,rest,m,hm,hc,hy,hb,hl,hmx,hlen,helem,_⟩
   ·subst hc;exact⟨[.sl [] .no],F4.one (.sl0 _ trivial) rfl,by unfold Ty;rw[hu];exact⟨[],rfl,by simp,fun el h=>by cases h⟩,rfl,by rw[hx0];simp[bL,bA,bLL,uptoBulk]⟩
   ·subst hc hy;obtain rfl:m=n:=by omega
    have hsh:=a0m.short hu hw;rw[List.length_map,hlen]at hsh
    have key:∀i,i<len->∃avs:List AV,∃vs:List Value,vs.length=P.cellsOf e/\(∀j,j<P.cellsOf e->W.cell? ((a.add (i*P.cellsOf e)).add j)=vs[j]?)/\F4 (bare W b6t) avs vs/\Ty P m e avs/\plainL avs=true/\∀q,elems[i]? =some q->bL avs<=uptoBulk q.1:=by
     intro i hi;have h1:=helem i hi;rw[List.getElem?_eq_getElem (by omega),Option.bind_eq_some_iff]at h1;obtain⟨vs,hc1,hc2⟩:=h1;obtain⟨_,hl1,hc3⟩:=World.cells?_some hc1;obtain⟨avs,h2,h3,h4,h5⟩:=ih e vs _ he hc2 (a0m.elem hu hw (i:=i) (by rw[List.getElem?_map,List.getElem?_eq_getElem (by omega)];rfl));exact⟨avs,vs,hl1,hc3,h2,h3,h4,fun q hq=>by rw[List.getElem?_eq_getElem (by omega)]at hq;cases hq;exact h5⟩
    obtain⟨els,hel,hels⟩:=c8o len key
    have hty:∀el∈els,Ty P m e el/\plainL el=true:=by
     intro el hmem;obtain⟨i,hi⟩:=List.mem_iff_getElem?.1 hmem;obtain⟨vs,_,_,_,q1,q2,_⟩:=hels i el hi;exact⟨q1,q2⟩
    refine⟨[.sl els .no],F4.one ?_ rfl,by unfold Ty;rw[hu];exact⟨els,rfl,by rw[hel];exact hsh,fun el h=>(hty el h).1⟩,by simp only[plainL,plain,Bool.true_and,Bool.and_true];exact d2v fun p hp=>(hty p hp).2,?_⟩
    rotate_left
    ·simp only[bL,bA,uptoBulk,Nat.add_zero]
     have hz:bLL els<=uptoBulkAll (elems.map (·.1)):=e2d els _ (by rw[List.length_map,hel,hlen]) fun i el d hi hd=>by
      obtain⟨vs,_,_,_,_,_,q3⟩:=hels i el hi;rw[List.getElem?_map,Option.map_eq_some_iff]at hd;obtain⟨q,hq,rfl⟩:=hd;exact q3 q hq
     omega
    by_cases h0:len=0
    ·subst h0;have:els=[]:=List.eq_nil_of_length_eq_zero hel;subst this;exact .slx _ a cap trivial (.inl rfl)
    ·obtain⟨b,o,sp⟩:=a;obtain⟨avs0,vs0,hl0,hc0,_⟩:=key 0 (by omega);have hz:=hc0 0 hk0;rw[List.getElem?_eq_getElem (by omega)]at hz
     have hspot:sp=none:=by
      have:=World.cell?_spot hz;simpa[Addr.add]using this
     subst hspot
     have:=Rel.sl (σ:=bare W b6t) els .no b o cap (P.cellsOf e) (fun i j=>((W.cell? ⟨b,o+i*P.cellsOf e+j,none⟩).getD undef)) (fun i el hi=>by
       obtain⟨vs,q1,_,q3,_⟩:=hels i el hi;rw[<-q3.1,q1]) (by omega) trivial (fun id e h=>by cases h) (fun i el hi j av hj=>by
       obtain⟨vs,q1,q2,q3,_⟩:=hels i el hi;obtain⟨c1,x,hx,hr⟩:=q3.2 j av hj;have hjl:j<P.cellsOf e:=by rw[<-q1];exact(List.getElem?_eq_some_iff.1 hx).1
       have:=q2 j hjl;rw[Z7,Z7,hx]at this;exact⟨by show W.cell? _=_;rw[this];rfl,fun h=>(b77 _ _ _ _).1 h,c1⟩) (fun i el hi j av hj=>by
       obtain⟨vs,q1,q2,q3,_⟩:=hels i el hi;obtain⟨c1,x,hx,hr⟩:=q3.2 j av hj;have hjl:j<P.cellsOf e:=by rw[<-q1];exact(List.getElem?_eq_some_iff.1 hx).1
       have:=q2 j hjl;rw[Z7,Z7,hx]at this;rw[this];exact hr)
     rw[hel]at this;exact this
  ·rename_i fs hu;simp only[Bool.and_eq_true,List.all_eq_true,List.contains_iff_mem]at hok;obtain⟨hfs,hcg⟩:=hok;obtain⟨xs,m,hm,rfl,hcl,hxl,hf⟩:=DataW.trod_struct hu h;obtain rfl:m=n:=by omega
   have key:∀i,i<fs.size->∃avs:List AV,∀f,fs[i]? =some f->F4 (bare W b6t) avs ((cs.drop f.offset).take (P.cellsOf f.type))/\Ty P m f.type avs/\plainL avs=true/\∀q,xs[i]? =some q->bL avs<=uptoBulk q.1:=by
    intro i hi;have hfi:fs[i]? =some fs[i]:=Array.getElem?_eq_getElem hi;have e:xs[i]? =some xs[i]:=List.getElem?_eq_getElem (by omega);obtain⟨avs,h2,h3,h4,h5⟩:=ih fs[i].type _ _ (hfs _ (by simp)) ((hf i _ hfi).trans e) (a0m.part hu hw hfi (by rw[List.getElem?_map,e];rfl));refine⟨avs,fun f hf'=>?_⟩;rw[hfi]at hf';cases hf';exact⟨h2,h3,h4,fun q hq=>by rw[e]at hq;cases hq;exact h5⟩
   obtain⟨parts,hpl,hparts⟩:=c8o fs.size key;have hcells:=c6r (P:=P) (bare W b6t) fs.toList 0 (P.cellsOf t) cs parts hcg hcl (by simpa using hpl) (fun i f p hfi hpi=>(hparts i p hpi f (by simpa using hfi)).1);refine⟨parts.flatten,by simpa using hcells,?_,b36 fun p hp=>?_,?_⟩
   ·unfold Ty;rw[hu];refine⟨parts,rfl,hpl,fun i f hfi=>?_⟩;have hi:i<parts.length:=by rw[hpl];exact(Array.getElem?_eq_some_iff.1 hfi).1
    exact⟨parts[i],List.getElem?_eq_getElem hi,(hparts i _ (List.getElem?_eq_getElem hi) f hfi).2.1⟩
   ·obtain⟨i,hi⟩:=List.mem_iff_getElem?.1 hp;have hlt:i<fs.size:=by rw[<-hpl];exact(List.getElem?_eq_some_iff.1 hi).1
    exact(hparts i p hi fs[i] (Array.getElem?_eq_getElem hlt)).2.2.1
   ·rw[c6b];simp only[uptoBulk]
    have hz:bLL parts<=uptoBulkAll (xs.map (·.1)):=e2d parts _ (by rw[List.length_map,hpl,hxl]) fun i p d hi hd=>by
     have hlt:i<fs.size:=by rw[<-hpl];exact(List.getElem?_eq_some_iff.1 hi).1
     rw[List.getElem?_map,Option.map_eq_some_iff]at hd;obtain⟨q,hq,rfl⟩:=hd;exact(hparts i p hi fs[i] (Array.getElem?_eq_getElem hlt)).2.2.2 q hq
    omega
  ·rename_i k e hu;simp only[Bool.and_eq_true,decide_eq_true_eq,List.contains_iff_mem]at hok;obtain⟨he,hke⟩:=hok;obtain⟨xs,m,hm,rfl,hcl,hxl,hf⟩:=DataW.trod_array hu h;obtain rfl:m=n:=by omega
   have key:∀i,i<k->∃avs:List AV,F4 (bare W b6t) avs ((cs.drop (i*P.cellsOf e)).take (P.cellsOf e))/\Ty P m e avs/\plainL avs=true/\∀q,xs[i]? =some q->bL avs<=uptoBulk q.1:=by
    intro i hi;have e1:xs[i]? =some xs[i]:=List.getElem?_eq_getElem (by omega);obtain⟨avs,h2,h3,h4,h5⟩:=ih e _ _ he ((hf i hi).trans e1) (a0m.at_ hu hw (by rw[List.getElem?_map,e1];rfl));exact⟨avs,h2,h3,h4,fun q hq=>by rw[e1]at hq;cases hq;exact h5⟩
   obtain⟨parts,hpl,hparts⟩:=c8o k key
   have hall:∀p∈parts,Ty P m e p/\plainL p=true:=by
    intro p hp;obtain⟨i,hi⟩:=List.mem_iff_getElem?.1 hp;exact⟨(hparts i p hi).2.1,(hparts i p hi).2.2.1⟩
   refine⟨parts.flatten,d3j _ (P.cellsOf e) parts cs (by rw[hcl,hpl,hke]) (fun i p hi=>(hparts i p hi).1),?_,b36 fun p hp=>(hall p hp).2,?_⟩
   ·unfold Ty;rw[hu];exact⟨parts,rfl,hpl,fun p hp=>(hall p hp).1⟩
   ·rw[c6b];simp only[uptoBulk]
    have hz:bLL parts<=uptoBulkAll (xs.map (·.1)):=e2d parts _ (by rw[List.length_map,hpl,hxl]) fun i p d hi hd=>by
     rw[List.getElem?_map,Option.map_eq_some_iff]at hd;obtain⟨q,hq,rfl⟩:=hd;exact(hparts i p hi).2.2.2 q hq
    omega
  ·cases hok
theorem c18{ts:List TypeId}(ok:d9g P ts=true){t:TypeId}(ht:t∈ts){v:Value}{d:DataW H}{p:List MemPlace}(hval:Value.okWide P W .any b0 t v)(h:DataW.Trod enc P W base spare held t v d p)(hw:a0m P t d):
  ∃n av,Rel (bare W b6t) av v/\TyV P n t av/\plain av=true/\bA av<=uptoBulk d+1:=by
 obtain⟨m,hm⟩:=h;obtain⟨avs,hc,hty,hpl,hbk⟩:=d7y ok m t _ _ ht hm hw;cases m with
 |zero=>simp[DataW.trod]at hm
 |succ m=>
  have hok:=List.all_eq_true.1 ok t ht;unfold okT at hok;unfold TyV;unfold Value.okWide at hval;split at hok
  ·rename_i k hu;rw[hu]at hval;simp only[Cell.okWide,hu,Cell.ok]at hval;have h2:=hty;unfold Ty at h2;rw[hu]at h2;obtain⟨x,rfl,_⟩:=h2;refine⟨m+1,_,c2m hc (fun cs he=>by subst he;simp at hval),by rw[hu];exact hty,rfl,by simp only[bL]at hbk;omega⟩
  ·rename_i hu;rw[hu]at hval;simp only[Cell.okWide,hu,Cell.ok]at hval;have h2:=hty;unfold Ty at h2;rw[hu]at h2;obtain⟨x,rfl⟩:=h2;refine⟨m+1,_,c2m hc (fun cs he=>by subst he;simp at hval),by rw[hu];exact hty,rfl,by simp only[bL]at hbk;omega⟩
  ·rename_i hu;rw[hu]at hval;simp only[Cell.okWide,hu,Cell.ok]at hval;have h2:=hty;unfold Ty at h2;rw[hu]at h2;obtain⟨x,rfl,_⟩:=h2;refine⟨m+1,_,c2m hc (fun cs he=>by subst he;simp at hval),by rw[hu];exact hty,rfl,by simp only[bL]at hbk;omega⟩
  ·rename_i e hu;rw[hu]at hval;simp only[Cell.okWide,hu,Cell.ok]at hval;have h2:=hty;unfold Ty at h2;rw[hu]at h2;obtain⟨x,rfl,_⟩:=h2;refine⟨m+1,_,c2m hc (fun cs he=>by subst he;simp at hval),by rw[hu];exact hty,by simpa[plainL]using hpl,by simp only[bL]at hbk;omega⟩
  ·rename_i fs hu;rw[hu]at hval;obtain⟨cs,rfl,_⟩:=hval;exact⟨m+1,.agg avs,d64 hc,by rw[hu];exact⟨avs,rfl,hty⟩,hpl,by simp only[bA];have:uptoBulk (d,p).1=uptoBulk d:=rfl;omega⟩
  ·rename_i k e hu;rw[hu]at hval;obtain⟨cs,rfl,_⟩:=hval;exact⟨m+1,.agg avs,d64 hc,by rw[hu];exact⟨avs,rfl,hty⟩,hpl,by simp only[bA];have:uptoBulk (d,p).1=uptoBulk d:=rfl;omega⟩
  ·cases hok
end
end
end Go.Proofs.YtidmmngcijapcaaGreat.Lift
