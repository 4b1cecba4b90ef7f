/- Part 8 of the texts that prove RowEncodesEnd. -/
import Derived.Test.YtidmmngcijapcaaGreatRowEncodesEndP6
import Derived.Test.YtidmmngcijapcaaGreatRowEncodesEndP0
import Derived.Test.YtidmmngcijapcaaGreatRowEncodesEndP3
import Derived.Test.YtidmmngcijapcaaGreatRowEncodesEndP5
import Derived.Test.YtidmmngcijapcaaGreatRows
namespace Go.Proofs.YtidmmngcijapcaaGreat.Lift
open Go.RowKit
set_option linter.unusedVariables false
set_option linter.unusedSimpArgs false
set_option linter.unnecessarySimpa false
set_option linter.unusedSectionVars false
set_option maxRecDepth 100000
theorem e4q (p:A6) (t b:Int) (y:a0r) (hy:p.Enums[t.toNat]? =some y) (h0:0<=t) (hb:b<=2147483647) (ho:y.Open=true):e7x p t b=true:=by
 have hlt:t.toNat<p.Enums.length:=(List.getElem?_eq_some_iff.1 hy).1
 rw [e7x,if_neg (by omega),hy]
 simp [ho]
section
variable {p:A6} (hp:OkX p)
 include hp
theorem f0w (g:C1) (hg:g∈p.Progs) (f:P6) (hf:e04 f):b06 p g f (decide (d1q p g f≠1)):=by
 have ho:=d9n g (hp.ops hg) f.Num
 have two:(decide (2<f.Wire))= !(decide (f.Wire<=2)):=by
  rw [Bool.eq_iff_iff]; simp
 refine b8m _ _ _ _ ?_
 rw [two]
 refine ⟨fun h=> ?_,fun h=>⟨fun h2=> ?_,fun h2=>⟨_,ho,fun h3=> ?_,fun h3=>⟨fun b=>b=((opV g f.Num).1.Kind==9&& !((p.Enums[(opV g f.Num).1.Target.toNat]?).any (·.Open))),fun b hb=>⟨fun h4=>⟨_,c9p p hp.e _ _ hf.bits.1, ?_⟩,fun h4=> ?_⟩,fun h4=> ?_,fun h4=> ?_⟩⟩⟩⟩
 ·rw [d1q,if_pos h]; rfl
 ·rw [d1q,if_neg (nt h),if_pos (by rw [h2,Bool.true_or])]; rfl
 ·have h3':(opV g f.Num).2=false:=by simpa using h3
  rw [d1q,if_neg (nt h),h2,h3',Bool.false_and,Bool.false_or,if_neg (by simp)]
  split<;>rfl
 all_goals (have h3':(opV g f.Num).2=true:=by simpa using h3)
 ·obtain ⟨_,hop⟩:=b6r h3'
  subst hb
  simp only [Bool.and_eq_true] at h4
  rw [d1q,if_neg (nt h),h2,h3',Bool.true_and,Bool.false_or]
  rw [d7x,h4.1.1.1.1,h4.1.1.2,h4.1.2,h4.2]
  simp only [Bool.true_and,Bool.not_not]
  cases e7x p (opV g f.Num).1.Target f.Bits with
  |true=>rfl
  |false=>simp only [Bool.false_eq_true,if_false]; split<;>rfl
 ·obtain ⟨_,hop⟩:=b6r h3'
  subst hb
  have hk:d7x p (opV g f.Num).1 f=false:=by
   unfold d7x
   cases hk9:((opV g f.Num).1.Kind==9) with
   |false=>rfl
   |true=>
    obtain ⟨t0,t1⟩:=((hp.va.pro g hg).2 _ hop).enum (by simpa using hk9)
    have hlt:(opV g f.Num).1.Target.toNat<p.Enums.length:=by omega
    have hy:=List.getElem?_eq_getElem hlt
    rw [hk9,hy] at h4
    simp only [Option.any_some,Bool.true_and] at h4
    cases hopn:(p.Enums[(opV g f.Num).1.Target.toNat]).Open with
    |false=>
     rw [hopn] at h4
     simp only [Bool.not_false,Bool.true_and] at h4 ⊢
     rw [h4,Bool.false_and]
    |true=>
     cases hbt:(decide (f.Bits<=2147483647)) with
     |false=>simp
     |true=>
      have:=e4q p _ f.Bits _ hy t0 (by simpa using hbt) hopn
      simp [this]
  rw [d1q,if_neg (nt h),h2,h3',hk]; rfl
 ·obtain ⟨_,hop⟩:=b6r h3'
  obtain ⟨t0,t1⟩:=((hp.va.pro g hg).2 _ hop).enum (by simpa using h4)
  have hlt:(opV g f.Num).1.Target.toNat<p.Enums.length:=by omega
  have hy:=List.getElem?_eq_getElem hlt
  exact ⟨_,hy,t0,by rw [h4,hy]; simp⟩
 ·rw [h4]; rfl
theorem f5k (v:A0) (hv:OkD v) (num:Int):c7t v num (v.Slots.any fun y=>y.1==num):=by
 refine d0d _ _ _ ?_
 exact b9z (C:=fun x b=>b=(x.1==num)) (fun x:Int × A0=>x.1==num) v.Slots (fun i hw=>c3v i num v _ ⟨fun h=>by
  obtain ⟨y,h1,h2,b,rfl,h3⟩:=hw.1 h
  exact ⟨y,h1,h2,h3⟩,hw.2⟩) hv.okv.s (fun _ _=>rfl) (fun h=>h) (fun h=>h)
section
variable {M:d9a} {B:A0 ->Prop} (hM:∀(t:Int) (g:C1) (v:A0) (lev:Int),p.Progs[t.toNat]? =some g ->0<=t ->B v ->1<=lev ->lev<=17 ->a2c p t v lev (M t v lev))
 include hM
theorem d2w (o:GOp) (ho:OpF p o) (v:A0) (hv:OkD v) (hb:B v) (lev:Int) (h1:1<=lev) (h2:lev<=16):a47 p o v lev (b3n M p o v lev):=by
 refine c2d _ _ _ _ _ ⟨fun h=> ?_,fun h=>⟨_,e3q p hp.e _ _ v hv.okv, ?_⟩⟩
 ·have hk:o.Kind=10:=by simpa using h
  obtain ⟨t0,t1,_⟩:=ho.msg hk
  have hlt:o.Target.toNat<p.Progs.length:=by omega
  refine ⟨_,hM o.Target _ v _ (List.getElem?_eq_getElem hlt) t0 hb (by rw [wI,D2 (by omega)]; omega) (by rw [wI,D2 (by omega)]; omega), ?_⟩
  rw [b3n,if_pos hk,wI,D2 (by omega)]
 ·rw [b3n,if_neg (by simpa using h)]
theorem d7s (o:GOp) (ho:OpF p o) (l:List (A0 × A0)) (hl:l.length<=140737488351232) (hv:∀x∈l,OkD x.1 /\ OkD x.2) (hb:∀x∈l,B x.2) (lev:Int) (h1:1<=lev) (h2:lev<=16):b9n p o l lev (b24 (b44 M p o l lev) 0 l.length):=by
 refine c5z _ _ _ _ _ ?_
 refine a67 (J:=fun i:Nat=>a69 i l lev p o _) (E:=b24 (b44 M p o l lev) 0 l.length=0) _ l.length (fun i hi k1 k2=> ?_) (fun e=> ?_) 0 (by omega) (fun _=>rfl) (fun h=>h)
 ·have e1:wI ((i:Int)+1)=((i+1:Nat):Int):=by rw [wI,D2 (by omega)]; omega
  have hx:=List.getElem_mem hi
  have ef:b44 M p o l lev i=orE (c4y p o.Key (-1) l[i].1) (if e0e l[i] (l.take i)=true then 9 else b3n M p o l[i].2 lev):=by
   simp only [b44,List.getElem?_eq_getElem hi]
  rw [ef] at k1 k2
  refine b0d _ _ _ _ _ _ ⟨fun _=>⟨l[i],by simp,by omega,_,e3q p hp.e _ _ _ (hv _ hx).1.okv,fun h=> ?_,fun h=> ?_⟩,fun h=>by simp at h; omega⟩
  ·have h':c4y p o.Key (-1) l[i].1≠0:=by simpa using h
   rw [orE,if_pos h'] at k1; exact k1 h'
  have h':¬c4y p o.Key (-1) l[i].1≠0:=by simpa using h
  rw [orE,if_neg h'] at k1 k2
  have go:∀d k:Nat,i - k<=d ->k<=i ->e0e l[i] ((l.take i).drop k)=e0e l[i] (l.take i) ->a28 k i l lev p o (b24 (b44 M p o l lev) 0 l.length):=by
   have len:(l.take i).length=i:=by simp; omega
   have fin:e0e l[i] ((l.take i).drop i)=e0e l[i] (l.take i) ->a28 i i l lev p o (b24 (b44 M p o l lev) 0 l.length):=by
    intro hk
    rw [List.drop_eq_nil_of_le (by omega)] at hk
    have hk':¬e0e l[i] (l.take i)=true:=by rw [<-hk]; simp [e0e]
    rw [if_neg hk'] at k1 k2
    refine b0p _ _ _ _ _ _ _ ⟨fun h=>by simp at h,fun _=>⟨l[i],by simp,by omega,_,d2w hp hM o ho _ (hv _ hx).2 (hb _ hx) lev h1 h2,fun h4=>k1 (by simpa using h4),fun h4=> ?_⟩⟩
    rw [e1]; exact k2 (by simpa using h4)
   intro d
   induction d with
   |zero=>
    intro k hd hk he
    have e:k=i:=by omega
    subst e
    exact fin he
   |succ d ih=>
    intro k hd hk he
    rcases Nat.lt_or_ge k i with hlt|hge
    ·have e2:wI ((k:Int)+1)=((k+1:Nat):Int):=by rw [wI,D2 (by omega)]; omega
     have hk2:k<(l.take i).length:=by omega
     have hk3:k<l.length:=by omega
     have dl:(l.take i).drop k=l[k]::(l.take i).drop (k+1):=by rw [List.drop_eq_getElem_cons hk2,List.getElem_take]
     rw [dl,e0e,List.any_cons] at he
     refine b0p _ _ _ _ _ _ _ ⟨fun _=>⟨l[k],by simp,by omega,l[i],by simp,by omega,_,e6i _ _ (hv _ (List.getElem_mem hk3)).1 (hv _ hx).1,fun h4=> ?_,fun h4=> ?_⟩,fun h=>by simp at h; omega⟩
     ·rw [h4,Bool.true_or] at he
      rw [if_pos he.symm] at k1
      exact k1 (by decide)
     ·rw [h4,Bool.false_or] at he
      rw [e2]
      exact ih (k+1) (by omega) (by omega) he
    ·have e:k=i:=by omega
     subst e
     exact fin he
  exact go i 0 (by omega) (by omega) (by simp)
 ·exact b0d _ _ _ _ _ _ ⟨fun h=>by simp at h,fun _=>e⟩
theorem e35 (o:GOp) (ho:OpF p o) (v:A0) (hv:OkD v) (hb:B v) (hbl:∀x∈v.List_,B x) (hbp:∀x∈v.Pairs,B x.2) (lev:Int) (h1:1<=lev) (h2:lev<=16):b2n p o v lev (a26 M p o v lev):=by
 obtain ⟨_,_,⟨la,pa,sa,ra⟩,hl,hps,hs⟩:=hv.inv
 refine b87 _ _ _ _ _ ⟨fun h=>⟨fun b=>b=((v.Kind !=12)||a3s v),fun b hb2=>⟨fun h3=> ?_,fun h3=>⟨_,d7s hp hM o ho _ pa hps hbp lev h1 h2, ?_⟩⟩,fun h3=>by rw [h3,Bool.true_or],fun h3=>⟨_,c1h v hv.okv,by rw [h3,Bool.false_or]⟩⟩,fun h=>⟨fun h4=>⟨fun b=>b=((v.Kind !=11)||a3s v),fun b hb2=>⟨fun h3=> ?_,fun h3=> ?_⟩,fun h3=>by rw [h3,Bool.true_or],fun h3=>⟨_,c1h v hv.okv,by rw [h3,Bool.false_or]⟩⟩,fun h4=>⟨_,d2w hp hM o ho v hv hb lev h1 h2, ?_⟩⟩⟩
 ·subst hb2
  have h5:o.Card=5:=by simpa using h
  rw [a26,if_neg (by omega),if_pos h5,if_pos h3]
 ·subst hb2
  have h5:o.Card=5:=by simpa using h
  rw [a26,if_neg (by omega),if_pos h5,if_neg (nt h3)]
 ·subst hb2; rw [a26,if_pos (by simpa using h4),if_pos h3]
 ·subst hb2
  rw [a26,if_pos (by simpa using h4),if_neg (nt h3)]
  refine a67 (J:=fun i:Nat=>a19 i lev p o v _) (E:=b24 (d5v M p o v.List_ lev) 0 v.List_.length=0) _ v.List_.length (fun i hi k1 k2=> ?_) (fun e=> ?_) 0 (by omega) (fun _=>rfl) (fun h=>h)
  ·have e1:wI ((i:Int)+1)=((i+1:Nat):Int):=by have:=D1 la; rw [wI,D2 (by omega)]; omega
   have hx:=List.getElem_mem hi
   have ef:d5v M p o v.List_ lev i=b3n M p o v.List_[i] lev:=by simp only [d5v,List.getElem?_eq_getElem hi]
   rw [ef] at k1 k2
   refine a6l _ _ _ _ _ _ ⟨fun _=>⟨v.List_[i],by simp,by omega,_,d2w hp hM o ho _ (hl _ hx) (hbl _ hx) lev h1 h2,fun h4=>k1 (by simpa using h4),fun h4=> ?_⟩,fun h=>by simp at h; omega⟩
   rw [e1]; exact k2 (by simpa using h4)
  ·exact a6l _ _ _ _ _ _ ⟨fun h=>by simp at h,fun _=>e⟩
 ·rw [a26,if_neg (by simpa using h4),if_neg (by simpa using h)]
def d5x (g:C1) (l:List (Int × A0)) (i:Nat):Int:=
 match l[i]? with
 |none=>0
 |some x=>if (opV g x.1).2=false then 8 else if ((l.take i).any fun y=>y.1==x.1)=true then 9
  else if ((l.take i).any fun y=>((opV g x.1).1.Union !=(-1))&&((opV g y.1).1.Union==(opV g x.1).1.Union))=true then 15 else 0
 omit hM in
theorem f0x (g:C1) (hg:g∈p.Progs) (l:List (Int × A0)) (hl:l.length<=140737488351232) (i:Nat) (hi:i<l.length):c4g g l i (d5x g l i):=by
  have ef:d5x g l i=if (opV g l[i].1).2=false then 8 else if ((l.take i).any fun y=>y.1==l[i].1)=true then 9
    else if ((l.take i).any fun y=>((opV g l[i].1).1.Union !=(-1))&&((opV g y.1).1.Union==(opV g l[i].1).1.Union))=true then 15 else 0:=by
    simp only [d5x,List.getElem?_eq_getElem hi]
  rw [ef]
  refine c8n _ _ _ _ ⟨l[i],by simp,by omega,_,d9n g (hp.ops hg) _,fun h=> ?_,fun h=> ?_⟩
  · rw [if_pos (by simpa using h)]
  have hn:(opV g l[i].1).2=true:=by simpa using h
  rw [if_neg (by simp [hn])]
  have len:(l.take i).length=i:=by simp; omega
  have go:∀d k:Nat,∀b:Bool,i - k<=d ->k<=i ->(((l.take i).drop k).any fun y=>y.1==l[i].1)=((l.take i).any fun y=>y.1==l[i].1) ->(b||(((l.take i).drop k).any fun y=>((opV g l[i].1).1.Union !=(-1))&&((opV g y.1).1.Union==(opV g l[i].1).1.Union)))=((l.take i).any fun y=>((opV g l[i].1).1.Union !=(-1))&&((opV g y.1).1.Union==(opV g l[i].1).1.Union)) ->
      a5v k b l i g (opV g l[i].1) (if ((l.take i).any fun y=>y.1==l[i].1)=true then 9 else if ((l.take i).any fun y=>((opV g l[i].1).1.Union !=(-1))&&((opV g y.1).1.Union==(opV g l[i].1).1.Union))=true then 15 else 0):=by
    have fin:∀b:Bool,(((l.take i).drop i).any fun y=>y.1==l[i].1)=((l.take i).any fun y=>y.1==l[i].1) ->(b||(((l.take i).drop i).any fun y=>((opV g l[i].1).1.Union !=(-1))&&((opV g y.1).1.Union==(opV g l[i].1).1.Union)))=((l.take i).any fun y=>((opV g l[i].1).1.Union !=(-1))&&((opV g y.1).1.Union==(opV g l[i].1).1.Union)) ->
        a5v i b l i g (opV g l[i].1) (if ((l.take i).any fun y=>y.1==l[i].1)=true then 9 else if ((l.take i).any fun y=>((opV g l[i].1).1.Union !=(-1))&&((opV g y.1).1.Union==(opV g l[i].1).1.Union))=true then 15 else 0):=by
      intro b hk hu
      rw [List.drop_eq_nil_of_le (by omega)] at hk hu
      simp only [List.any_nil,Bool.or_false] at hk hu
      refine b1r _ _ _ _ _ _ _ ⟨fun h=>by simp at h,fun _=>⟨fun h=> ?_,fun h=> ?_⟩⟩
      · rw [if_neg (by rw [<-hk]; simp),if_pos (by rw [<-hu]; exact h)]
      · rw [if_neg (by rw [<-hk]; simp),if_neg (by rw [<-hu]; exact nt h)]
    intro d
    induction d with
    |zero=>
     intro k b hd hk h1 h2
     have e:k=i:=by omega
     subst e
     exact fin b h1 h2
    |succ d ih=>
     intro k b hd hk h1 h2
     rcases Nat.lt_or_ge k i with hlt|hge
     · have e2:wI ((k:Int)+1)=((k+1:Nat):Int):=by rw [wI,D2 (by omega)]; omega
       have hk2:k<(l.take i).length:=by omega
       have hk3:k<l.length:=by omega
       have dl:(l.take i).drop k=l[k]::(l.take i).drop (k+1):=by rw [List.drop_eq_getElem_cons hk2,List.getElem_take]
       rw [dl,List.any_cons] at h1 h2
       refine b1r _ _ _ _ _ _ _ ⟨fun _=>⟨l[k],by simp,by omega,l[i],by simp,by omega,fun h4=> ?_,fun h4=>⟨l[k],by simp,by omega,_,d9n g (hp.ops hg) _, ?_⟩⟩,fun h=>by simp at h; omega⟩
       · rw [h4,Bool.true_or] at h1
         rw [if_pos h1.symm]
       · rw [h4,Bool.false_or] at h1
         rw [e2]
         exact ih (k+1) _ (by omega) (by omega) h1 (by rw [Bool.or_assoc]; exact h2)
     · have e:k=i:=by omega
       subst e
       exact fin b h1 h2
  exact go i 0 false (by omega) (by omega) (by simp) (by simp)
 omit hM hp in
theorem f5w (g:C1) (l:List (Int × A0)) (lev:Int) (i:Nat) (hi:i<l.length):c3k M p g l lev i=orE (d5x g l i) (a26 M p (opV g l[i].1).1 l[i].2 lev):=by
  simp only [c3k,d5x,List.getElem?_eq_getElem hi]
  split
  · rfl
  split
  · rfl
  split
  · rfl
  · rfl
theorem d7m (t:Int) (ht:0<=t) (g:C1) (hgt:p.Progs[t.toNat]? =some g) (v:A0) (hv:OkD v) (hb:∀x∈v.Slots,B x.2 /\ (∀y∈x.2.List_,B y) /\ ∀y∈x.2.Pairs,B y.2) (lev:Int) (h1:1<=lev) (h2:lev<=17):a2c p t v lev (e0v M p g v lev):=by
 have hv0:=hv
 have hg:g∈p.Progs:=List.mem_of_getElem? hgt
 obtain ⟨_,_,⟨la,pa,sa,ra⟩,hl,hps,hs⟩:=hv.inv
 have b1:=D1 sa; have b2:=D1 ra; have b3:=hp.ops hg
 refine c2s _ _ _ _ _ ⟨fun b=>b=((v.Kind !=10)||a3s v),fun b hb2=>⟨fun h3=> ?_,fun h3=>⟨fun h4=> ?_,fun h4=>⟨g,hgt,ht, ?_⟩⟩⟩,fun h3=>by rw [h3,Bool.true_or],fun h3=>⟨_,c1h v hv.okv,by rw [h3,Bool.false_or]⟩⟩
 ·subst hb2; rw [e0v,if_pos h3]
 ·subst hb2; rw [e0v,if_neg (nt h3),if_pos (by simpa using h4)]
 subst hb2
 have h5:¬16<lev:=by simpa using h4
 rw [e0v,if_neg (nt h3),if_neg h5]
 refine a67 (J:=fun i:Nat=>a3x i lev p v g _) (E:=b24 (c3k M p g v.Slots lev) 0 v.Slots.length=0) (r:=orE (b24 (c3k M p g v.Slots lev) 0 v.Slots.length) (orE (b24 (c2a g v) 0 g.Ops.length) (b24 (e1b p g v.Raws) 0 v.Raws.length))) (c3k M p g v.Slots lev) v.Slots.length (fun i hi k1 k2=> ?_) (fun e=> ?_) 0 (by omega) (fun h=>by rw [orE,if_pos h]) (fun h=>h)
 ·have e1:wI ((i:Int)+1)=((i+1:Nat):Int):=by rw [wI,D2 (by omega)]; omega
  have hx:=List.getElem_mem hi
  rw [f5w g v.Slots lev i hi] at k1 k2
  refine a7y _ _ _ _ _ _ ⟨fun _=>⟨_,f0x hp g hg v.Slots sa i hi,fun h=> ?_,fun h=> ?_⟩,fun h=>by simp at h; omega⟩
  ·have h':d5x g v.Slots i≠0:=by simpa using h
   rw [orE,if_pos h'] at k1; exact k1 h'
  have h':d5x g v.Slots i=0:=by simpa using h
  rw [orE,if_neg (by omega)] at k1 k2
  have hn:(opV g v.Slots[i].1).2=true:=by
   rcases Bool.eq_false_or_eq_true (opV g v.Slots[i].1).2 with q|q
   ·exact q
   ·simp only [d5x,List.getElem?_eq_getElem hi,q,if_true] at h'
    exact absurd h' (by decide)
  obtain ⟨_,hop⟩:=b6r hn
  refine ⟨v.Slots[i],by simp,by omega,_,d9n g b3 _,v.Slots[i],by simp,by omega,_,e35 hp hM _ ((hp.va.pro g hg).2 _ hop) _ (hs _ hx) (hb _ hx).1 (hb _ hx).2.1 (hb _ hx).2.2 lev h1 (by omega),fun h4=>k1 (by simpa using h4),fun h4=> ?_⟩
  rw [e1]; exact k2 (by simpa using h4)
 refine a7y _ _ _ _ _ _ ⟨fun h=>by simp at h,fun _=> ?_⟩
 rw [orE,if_neg (by omega)]
 refine a67 (J:=fun i:Nat=>Y4 i p v g _) (E:=b24 (c2a g v) 0 g.Ops.length=0) (r:=orE (b24 (c2a g v) 0 g.Ops.length) (b24 (e1b p g v.Raws) 0 v.Raws.length)) (c2a g v) g.Ops.length (fun i hi k1 k2=> ?_) (fun e=> ?_) 0 (by omega) (fun h=>by rw [orE,if_pos h]) (fun h=>h)
 ·have e1:wI ((i:Int)+1)=((i+1:Nat):Int):=by rw [wI,D2 (by omega)]; omega
  have ef:c2a g v i=if g.Ops[i].Card=1 /\ (v.Slots.any fun y=>y.1==g.Ops[i].Num)=false then 14 else 0:=by simp only [c2a,List.getElem?_eq_getElem hi]
  rw [ef] at k1 k2
  refine a6k _ _ _ _ _ ⟨fun _=>⟨g.Ops[i],by simp,by omega,fun h=>⟨g.Ops[i],by simp,by omega,_,f5k hp v hv0 _,fun h6=> ?_,fun h6=> ?_⟩,fun h=> ?_⟩,fun h=>by simp at h; omega⟩
  ·rw [if_pos ⟨by simpa using h,by simpa using h6⟩] at k1; exact k1 (by decide)
  ·rw [e1]; refine k2 ?_; rw [if_neg]; rintro ⟨_,q⟩; simp [q] at h6
  ·rw [e1]; refine k2 ?_; rw [if_neg]; rintro ⟨q,_⟩; simp [q] at h
 refine a6k _ _ _ _ _ ⟨fun h=>by simp at h,fun _=> ?_⟩
 rw [orE,if_neg (by omega)]
 refine a67 (J:=fun i:Nat=>a2g i p v g _) (E:=b24 (e1b p g v.Raws) 0 v.Raws.length=0) (e1b p g v.Raws) v.Raws.length (fun i hi k1 k2=> ?_) (fun e=> ?_) 0 (by omega) (fun _=>rfl) (fun h=>h)
 ·have e1:wI ((i:Int)+1)=((i+1:Nat):Int):=by rw [wI,D2 (by omega)]; omega
  have ef:e1b p g v.Raws i=d1q p g v.Raws[i]:=by simp only [e1b,List.getElem?_eq_getElem hi]
  rw [ef] at k1 k2
  have hf:=hv0.raws _ (List.getElem_mem hi)
  refine a6f _ _ _ _ _ ⟨fun _=>⟨v.Raws[i],by simp,by omega,_,f0w hp g hg _ hf,fun h=> ?_,fun h=>⟨fun h6=> ?_,fun h6=> ?_⟩⟩,fun h=>by simp at h; omega⟩
  ·have h':d1q p g v.Raws[i]=1:=by simpa using h
   rw [k1 (by omega),h']
  all_goals (have h':d1q p g v.Raws[i]≠1:=by simpa using h)
  ·have:d1q p g v.Raws[i]=3:=by
    unfold d1q at h' ⊢
    split at h'
    ·exact absurd rfl h'
    ·rename_i q1
     rw [if_neg q1]
     split at h'
     ·exact absurd rfl h'
     ·rename_i q2
      rw [if_neg q2,if_pos h6]
   rw [k1 (by omega),this]
  ·have:d1q p g v.Raws[i]=0:=by
    unfold d1q at h' ⊢
    split at h'
    ·exact absurd rfl h'
    ·rename_i q1
     rw [if_neg q1]
     split at h'
     ·exact absurd rfl h'
     ·rename_i q2
      rw [if_neg q2,if_neg (nt h6)]
   rw [e1]; exact k2 this
 ·exact a6f _ _ _ _ _ ⟨fun h=>by simp at h,fun _=>e⟩
end
theorem g2n {n:Nat} {v:A0} (hv:OkD v) (hn:SizeOf.sizeOf v<=n+1):∀x∈v.Slots,(OkD x.2 /\ SizeOf.sizeOf x.2<=n) /\ (∀y∈x.2.List_,OkD y /\ SizeOf.sizeOf y<=n) /\ ∀y∈x.2.Pairs,OkD y.2 /\ SizeOf.sizeOf y.2<=n:=fun x hx=>by
 obtain ⟨_,_,_,_,_,hs⟩:=hv.inv
 have z1:=szS hx
 obtain ⟨_,_,_,q1,q2,_⟩:=(hs x hx).inv
 exact ⟨⟨hs x hx,by omega⟩,fun y hy=>⟨q1 y hy,by have:=szL hy; omega⟩,fun y hy=>⟨(q2 y hy).2,by have:=szP hy; omega⟩⟩
theorem d6m:∀(n:Nat) (t:Int) (g:C1) (v:A0) (lev:Int),p.Progs[t.toNat]? =some g ->0<=t ->OkD v ->SizeOf.sizeOf v<=n ->1<=lev ->lev<=17 ->N7 ⟨p⟩ g v lev (b3b p n t v lev)
 |0,t,g,v,lev,_,_,_,h,_,_=>by have:=szV v; omega
 |n+1,t,g,v,lev,hgt,ht,hv,hn,h1,h2=>by
  have hg:g∈p.Progs:=List.mem_of_getElem? hgt
  have e:b3b p (n+1) t v lev=e0v (b3b p n) p g v lev:=by simp only [b3b,hgt]
  rw [e]
  refine e1k hp (B:=fun v=>OkD v /\ SizeOf.sizeOf v<=n) (fun t' g' v' lev' k1 k2 k3 k4=> ?_) g hg v hv (g2n hp hv hn) lev h1 h2
  by_cases h0:0<=t'
  ·exact d6m n t' g' v' lev' k1 h0 k2.1 k2.2 k3 k4
  ·have:=d6m n 0 g' v' lev' (by rw [show t'.toNat=0 by omega] at k1; exact k1) (Int.le_refl _) k2.1 k2.2 k3 k4
   have e2:b3b p n 0 v' lev'=b3b p n t' v' lev':=by
    cases n with
    |zero=>rfl
    |succ n=>simp only [b3b]; rw [show t'.toNat=(0:Int).toNat by omega]
   rw [<-e2]; exact this
theorem e4y:∀(n:Nat) (t:Int) (g:C1) (v:A0) (lev:Int),p.Progs[t.toNat]? =some g ->0<=t ->OkD v ->SizeOf.sizeOf v<=n ->1<=lev ->lev<=17 ->a2c p t v lev (b3b p n t v lev)
 |0,t,g,v,lev,_,_,_,h,_,_=>by have:=szV v; omega
 |n+1,t,g,v,lev,hgt,ht,hv,hn,h1,h2=>by
  have e:b3b p (n+1) t v lev=e0v (b3b p n) p g v lev:=by simp only [b3b,hgt]
  rw [e]
  exact d7m hp (B:=fun v=>OkD v /\ SizeOf.sizeOf v<=n) (fun t' g' v' lev' k1 k0 k2 k3 k4=>e4y n t' g' v' lev' k1 k0 k2.1 k2.2 k3 k4) t ht g hgt v hv (g2n hp hv hn) lev h1 h2
end
section
variable {α:Type} {c:α ->α ->Int}
theorem d9d {x y:α} {l:List α}:y∈a56 c x l↔y=x\/y∈l:=by
 rw [(b7h x l).mem_iff]; simp
theorem a9t:∀(l:List α),∀y∈P8 c l,y∈l
 |[],y,h=>h
 |x::l,y,h=>by
  simp only [P8] at h
  split at h
  ·rcases d9d.1 h with h|h
   ·simp [h]
   ·exact List.mem_cons_of_mem _ (a9t l y h)
  ·exact List.mem_cons_of_mem _ (a9t l y h)
theorem b3l:∀(l:List α),(P8 c l).length<=l.length
 |[]=>by simp [P8]
 |x::l=>by
  have:=b3l l
  simp only [P8]
  split
  ·rw [d3g]; simp; omega
  ·simp; omega
theorem c8j (h:Tp c) (x:α):∀S:List α,(∀y∈S,c x y≠0) ->S.Pairwise (fun a b=>c a b<0) ->(a56 c x S).Pairwise (fun a b=>c a b<0)
 |[],_,_=>by simp [a56]
 |y::S,hne,hs=>by
  obtain ⟨hy,hS⟩:=List.pairwise_cons.1 hs
  simp only [a56]
  split
  ·rename_i e
   refine List.pairwise_cons.2 ⟨fun z hz=> ?_,c8j h x S (fun y hy=>hne y (by simp [hy])) hS⟩
   rcases d9d.1 hz with h2|h2
   ·rw [h2]; exact e
   ·exact hy z h2
  ·rename_i e
   have s1:=h.s y x
   have s2:=h.s x y
   have n1:=hne y (by simp)
   have e2:c x y<0:=by omega
   refine List.pairwise_cons.2 ⟨fun z hz=> ?_,hs⟩
   rcases List.mem_cons.1 hz with h2|h2
   ·rw [h2]; exact e2
   ·have q1:=hy z h2
    have q2:=hne z (by simp [h2])
    have:=h.t x y z (by omega) (by omega)
    omega
theorem f7j {x:α} {l:List α} (h:lone c x l=true):∀y∈l,c x y≠0:=fun y hy=>by
 have:=List.all_eq_true.1 h y hy
 simpa using this
theorem b4u (h:Tp c):∀l:List α,(P8 c l).Pairwise (fun a b=>c a b<0)
 |[]=>.nil
 |x::l=>by
  simp only [P8]
  split
  ·rename_i e
   exact c8j h x _ (fun y hy=>f7j e y (a9t l y hy)) (b4u h l)
  ·exact b4u h l
end
def NoX (v:A0):Prop:=∃m,SizeOf.sizeOf v<=m /\ a05 m v=false
theorem NoX.inv {v:A0} (h:NoX v):v.Raws=[] /\ (∀x∈v.Slots,NoX x.2) /\ (∀x∈v.List_,NoX x) /\ ∀x∈v.Pairs,NoX x.2:=by
 obtain ⟨m,hm,h⟩:=h
 have h0:=szV v
 obtain ⟨n,rfl⟩:∃n,m=n+1:=⟨m - 1,by omega⟩
 simp only [a05,Bool.or_eq_false_iff,Bool.not_eq_false',List.isEmpty_iff,List.any_eq_false,Bool.not_eq_true] at h
 exact ⟨h.1,fun x hx=>⟨n,by have:=szS hx; omega,h.2.1 x hx⟩,fun x hx=>⟨n,by have:=szL hx; omega,h.2.2.1 x hx⟩,fun x hx=>⟨n,by have:=szP hx; omega,h.2.2.2 x hx⟩⟩
theorem c0p {α β:Type} {J:Nat ->List β ->Prop} {E:List β ->Prop} (s:List α) (g:α ->List β)
  (b67:∀i (hi:i<s.length) acc,acc.length<=i ->J (i+1) (acc++g s[i]) ->J i acc) (hg:∀x∈s,(g x).length<=1)
  (fin:∀acc,acc.length<=s.length ->E acc ->J s.length acc) (h:E (s.flatMap g)):J 0 []:=by
 have key:∀d i (acc:List β),s.length - i<=d ->i<=s.length ->acc.length<=i ->E (acc++(s.drop i).flatMap g) ->J i acc:=by
  intro d
  induction d with
  |zero=>
   intro i acc hd hi ha hE
   have e:i=s.length:=by omega
   subst e
   rw [List.drop_length] at hE
   exact fin acc ha (by simpa using hE)
  |succ d ih=>
   intro i acc hd hi ha hE
   rcases Nat.lt_or_ge i s.length with hlt|hge
   ·have dl:s.drop i=s[i]::s.drop (i+1):=List.drop_eq_getElem_cons hlt
    rw [dl,List.flatMap_cons,<-List.append_assoc] at hE
    refine b67 i hlt acc ha (ih (i+1) _ (by omega) (by omega) ?_ hE)
    have:=hg _ (List.getElem_mem hlt)
    simp; omega
   ·have e:i=s.length:=by omega
    subst e
    rw [List.drop_length] at hE
    exact fin acc ha (by simpa using hE)
 exact key s.length 0 [] (by omega) (by omega) (by simp) (by simpa using h)
theorem d97 {α β:Type} (s:List α) (g:α ->List β) (hg:∀x∈s,(g x).length<=1):(s.flatMap g).length<=s.length:=by
 induction s with
 |nil=>simp
 |cons x s ih=>
  have h1:=hg x (by simp)
  have h2:=ih fun y hy=>hg y (by simp [hy])
  simp only [List.flatMap_cons,List.length_append,List.length_cons]
  omega
theorem c0s {α β:Type} (f:α ->β):∀s:List α,s.flatMap (fun x=>[f x])=s.map f
 |[]=>rfl
 |x::s=>by simp [c0s f s]
abbrev d2q:=Int ->A0 ->A0
def b1e (N:d2q) (o:GOp) (v:A0):A0:=if o.Kind=10 then N o.Target v else a40 v
noncomputable def b46 (l:List (A0 × A0)):List (A0 × A0):=P8 (kc (SizeOf.sizeOf l)) l
noncomputable def a91 (N:d2q) (o:GOp) (v:A0):A0:=
 if o.Card=4 then ⟨11,0,⟨#[]⟩,v.List_.map (b1e N o),[],[],[]⟩
 else if o.Card=5 then ⟨12,0,⟨#[]⟩,[],(b46 v.Pairs).map (fun x=>(a40 x.1,b1e N o x.2)),[],[]⟩
 else b1e N o v
def e8n (o:GOp):Bool:=((o.Card==3)||(o.Card==4))||(o.Card==5)
noncomputable def a8r (N:d2q) (o:GOp) (num:Int) (v:A0):List (Int × A0):=if (!e8n o|| !b8u (a91 N o v))=true then [(num,a91 N o v)] else []
noncomputable def c57 (N:d2q) (g:C1) (v:A0):A0:=⟨10,0,⟨#[]⟩,[],[],(P8 kn v.Slots).flatMap fun x=>a8r N (opV g x.1).1 x.1 x.2,sC kr v.Raws⟩
noncomputable def W9 (p:A6):Nat ->d2q
 |0,_,_=>⟨0,0,⟨#[]⟩,[],[],[],[]⟩
 |n+1,t,v=>match p.Progs[t.toNat]? with
  |none=>⟨0,0,⟨#[]⟩,[],[],[],[]⟩
  |some g=>c57 (W9 p n) g v
theorem c8v (N:d2q) (o:GOp) (num:Int) (v:A0):(a8r N o num v).length<=1:=by
 unfold a8r; split<;>simp
theorem f2r (l:List (A0 × A0)) (h:∀x∈l,OkD x.1 /\ OkD x.2):∀x∈l,OkP (SizeOf.sizeOf l) x:=fun x hx=>by
 have:=List.sizeOf_lt_of_mem hx
 refine ⟨(h x hx).1, ?_⟩
 cases x
 simp at this ⊢
 omega
theorem b28 {l:List (A0 × A0)} {x:A0 × A0} (h:x∈b46 l):x∈l:=a9t l x h
theorem c3f (l:List (A0 × A0)):(b46 l).length<=l.length:=b3l l
theorem OkV.bits {v:A0} (h:OkV v):0<=v.Bits /\ v.Bits<18446744073709551616:=⟨h.b0,h.b1⟩
theorem d8y {v:A0} (h:OkD v):OkD (a40 v):=by
 unfold a40
 split
 ·cases h with
  |mk _ k b t l p s r hl hk hv hn hs hr w=>exact .mk _ k (show U64 9221120237041090560 from ⟨by decide,by decide⟩) t l p s r hl hk hv hn hs hr w
 ·exact h
theorem d8d {num:Int}:∀{l:List GOp},(opL num l).2=false ->(opL num l).1=op0
 |[],_=>rfl
 |o::l,h=>by
  by_cases e:(o.Num==num)=true
  ·have q:opL num (o::l)=(o,true):=by simp only [opL]; rw [if_pos e]
   rw [q] at h; cases h
  ·have q:opL num (o::l)=opL num l:=by simp only [opL]; rw [if_neg e]
   rw [q] at h ⊢
   exact d8d h
def OpG (p:A6) (o:GOp):Prop:=o.Kind=10 ->∃g,p.Progs[o.Target.toNat]? =some g /\ 0<=o.Target
theorem g0n {p:A6} (hp:OkX p) {g:C1} (hg:g∈p.Progs) (num:Int):OpG p (opV g num).1:=by
 intro h
 rcases Bool.eq_false_or_eq_true (opV g num).2 with q|q
 ·obtain ⟨_,hop⟩:=b6r q
  obtain ⟨t0,t1,_⟩:=((hp.va.pro g hg).2 _ hop).msg h
  have hlt:(opV g num).1.Target.toNat<p.Progs.length:=by omega
  exact ⟨_,List.getElem?_eq_getElem hlt,t0⟩
 ·have:(opV g num).1=op0:=d8d q
  rw [this] at h
  exact absurd h (by decide)
section
variable {p:A6} (hp:OkX p)
 include hp
section
variable {N:d2q} {B:A0 ->Prop} (hN:∀(t:Int) (g:C1) (v:A0),p.Progs[t.toNat]? =some g ->0<=t ->B v ->b1a p t v (N t v))
 include hN
theorem d1z (o:GOp) (ho:OpG p o) (v:A0) (hv:OkD v) (hb:B v):a5e p o v (b1e N o v):=by
 refine c1q _ _ _ _ ⟨fun h=> ?_,fun h=>⟨_,d6f v hv.okv.bits, ?_⟩⟩
 ·have hk:o.Kind=10:=by simpa using h
  obtain ⟨g,hg,t0⟩:=ho hk
  exact ⟨_,hN _ g v hg t0 hb,by rw [b1e,if_pos hk]⟩
 ·rw [b1e,if_neg (by simpa using h)]
theorem e9o (o:GOp) (ho:OpG p o) (v:A0) (hv:OkD v) (hb:B v) (hbl:∀x∈v.List_,B x) (hbp:∀x∈v.Pairs,B x.2):b2y p o v (a91 N o v):=by
 obtain ⟨_,_,⟨la,pa,sa,ra⟩,hl,hps,hs⟩:=hv.inv
 have b1:=D1 la; have b2:=D1 pa
 have w1:=D1 hv.w.1; have w2:=D1 hv.w.2.1
 refine b9q _ _ _ _ ⟨fun h=> ?_,fun h=>⟨fun h4=>⟨_,f1e _ v.Pairs (by omega) (f2r _ hps), ?_⟩,fun h4=>⟨_,d1z hp hN o ho v hv hb, ?_⟩⟩⟩
 ·have hc:o.Card=4:=by simpa using h
  refine c0p (J:=fun i acc=>a2e i v p o acc _) (E:=fun acc=>a91 N o v=⟨11,0,⟨#[]⟩,acc,[],[],[]⟩) v.List_ (fun x=>[b1e N o x]) (fun i hi acc ha hj=> ?_) (fun x hx=>by simp) (fun acc ha he=> ?_) ?_
  ·have e1:wI ((i:Int)+1)=((i+1:Nat):Int):=by rw [wI,D2 (by omega)]; omega
   have hx:=List.getElem_mem hi
   refine a6p _ _ _ _ _ _ ⟨fun _=>⟨v.List_[i],by simp,by omega,_,d1z hp hN o ho _ (hl _ hx) (hbl _ hx),by simp; omega, ?_⟩,fun h=>by simp at h; omega⟩
   rw [e1]; exact hj
  ·exact a6p _ _ _ _ _ _ ⟨fun h=>by simp at h,fun _=>he⟩
  ·rw [c0s,a91,if_pos hc]
 ·have hc:o.Card=5:=by simpa using h4
  have hc4:¬o.Card=4:=by simpa using h
  have b3:=c3f v.Pairs
  refine c0p (J:=fun i acc=>a2j i (b46 v.Pairs) p o acc _) (E:=fun acc=>a91 N o v=⟨12,0,⟨#[]⟩,[],acc,[],[]⟩) (b46 v.Pairs) (fun x=>[(a40 x.1,b1e N o x.2)]) (fun i hi acc ha hj=> ?_) (fun x hx=>by simp) (fun acc ha he=> ?_) ?_
  ·have e1:wI ((i:Int)+1)=((i+1:Nat):Int):=by rw [wI,D2 (by omega)]; omega
   have hx:=b28 (List.getElem_mem hi)
   refine a6n _ _ _ _ _ _ ⟨fun _=>⟨(b46 v.Pairs)[i],by simp,by omega,_,d6f _ (hps _ hx).1.okv.bits,_,d1z hp hN o ho _ (hps _ hx).2 (hbp _ hx),by simp; omega, ?_⟩,fun h=>by simp at h; omega⟩
   rw [e1]; exact hj
  ·exact a6n _ _ _ _ _ _ ⟨fun h=>by simp at h,fun _=>he⟩
  ·rw [c0s,a91,if_neg hc4,if_pos hc]
 ·rw [a91,if_neg (by simpa using h),if_neg (by simpa using h4)]
theorem c7a (hNok:∀t v,OkD v ->OkD (N t v)) (o:GOp) (v:A0) (hv:OkD v):OkD (a91 N o v):=by
 have key:∀v,OkD v ->OkD (b1e N o v):=fun v hv=>by
  unfold b1e; split
  ·exact hNok _ _ hv
  ·exact d8y hv
 obtain ⟨_,_,⟨la,pa,sa,ra⟩,hl,hps,hs⟩:=hv.inv
 obtain ⟨w1,w2,_,_⟩:=hv.w
 have z:Sz 0:=Nat.zero_le _
 have b3:=c3f v.Pairs
 unfold a91
 split
 ·refine .mk _ (show I64 11 from ⟨by decide,by decide⟩) (show U64 0 from ⟨by decide,by decide⟩) z (by simpa using la) z z z (fun x hx=> ?_) (fun x hx=>by cases hx) (fun x hx=>by cases hx) (fun x hx=>by cases hx) (fun x hx=>by cases hx) (fun x hx=>by cases hx) ⟨by simpa using w1,z,z,z⟩
  obtain ⟨y,hy,rfl⟩:=List.mem_map.1 hx
  exact key y (hl y hy)
 split
 ·refine .mk _ (show I64 12 from ⟨by decide,by decide⟩) (show U64 0 from ⟨by decide,by decide⟩) z z ?_ z z (fun x hx=>by cases hx) (fun x hx=> ?_) (fun x hx=> ?_) (fun x hx=>by cases hx) (fun x hx=>by cases hx) (fun x hx=>by cases hx) ⟨z, ?_,z,z⟩
  ·simp only [List.length_map]; exact Nat.le_trans b3 pa
  ·obtain ⟨y,hy,rfl⟩:=List.mem_map.1 hx
   exact d8y (hps y (b28 hy)).1
  ·obtain ⟨y,hy,rfl⟩:=List.mem_map.1 hx
   exact key _ (hps y (b28 hy)).2
  ·simp only [List.length_map]; exact Nat.le_trans (Nat.mul_le_mul_right _ b3) w2
 ·exact key v hv
theorem e8w (hNok:∀t v,OkD v ->OkD (N t v)) (t:Int) (ht:0<=t) (g:C1) (hgt:p.Progs[t.toNat]? =some g) (v:A0) (hv:OkD v) (hX:v.Raws=[]) (hb:∀x∈v.Slots,B x.2 /\ (∀y∈x.2.List_,B y) /\ ∀y∈x.2.Pairs,B y.2):b1a p t v (c57 N g v):=by
 have hg:g∈p.Progs:=List.mem_of_getElem? hgt
 have hlt:t.toNat<p.Progs.length:=(List.getElem?_eq_some_iff.1 hgt).1
 obtain ⟨_,_,⟨la,pa,sa,ra⟩,hl,hps,hs⟩:=hv.inv
 have b1:=D1 sa; have w3:=D1 hv.w.2.2.1; have w4:=D1 hv.w.2.2.2
 have b3:=b3l (c:=kn) v.Slots
 have so:=e2i v.Slots (by omega)
 have off:((decide (t<0))||(decide ((p.Progs.length:Int)<=t)))=false:=by simp; omega
 have may:∀(o:GOp),e8n o=(((o.Card==3)||(o.Card==4))||(o.Card==5)):=fun _=>rfl
 refine c96 _ _ _ _ ⟨fun h0=>⟨b1g _ _ fun b hbb=>⟨fun _=>rfl,fun _=>⟨by rw [h0]; simp,by rw [h0]; rfl⟩⟩,fun h=>(by rw [off] at h; cases h),fun _=>⟨_,so, ?_⟩⟩,fun h0=>absurd hX h0⟩
 ·refine c0p (J:=fun i acc=>a8f i (P8 kn v.Slots) t p acc _) (E:=fun acc=>c57 N g v=⟨10,0,⟨#[]⟩,[],[],acc,[]⟩) (P8 kn v.Slots) (fun x=>a8r N (opV g x.1).1 x.1 x.2) (fun i hi acc ha hj=> ?_) (fun x hx=>c8v _ _ _ _) (fun acc ha he=> ?_) ?_
  ·have e1:wI ((i:Int)+1)=((i+1:Nat):Int):=by rw [wI,D2 (by omega)]; omega
   have hx:=a9t _ _ (List.getElem_mem hi)
   have oz:=c7a hp hN hNok (opV g (P8 kn v.Slots)[i].1).1 _ (hs _ hx)
   refine b30 _ _ _ _ _ _ ⟨fun _=>⟨(P8 kn v.Slots)[i],by simp,by omega,g,hgt,ht,_,f11 g (hp.ops hg) _,_,e9o hp hN _ (g0n hp hg _) _ (hs _ hx) (hb _ hx).1 (hb _ hx).2.1 (hb _ hx).2.2,fun b=>b=(!e8n (opV g (P8 kn v.Slots)[i].1).1|| !b8u (a91 N (opV g (P8 kn v.Slots)[i].1).1 (P8 kn v.Slots)[i].2)),fun b hbb=>⟨fun h=> ?_,fun h=> ?_⟩,fun h=> ?_,fun h=>⟨_,f0y _ oz.okv, ?_⟩⟩,fun h=>by simp at h; omega⟩
   ·subst hbb
    refine ⟨by simp; omega, ?_⟩
    rw [a8r,if_pos h] at hj
    rw [e1]; exact hj
   ·subst hbb
    rw [a8r,if_neg (nt h)] at hj
    rw [e1]; simpa using hj
   ·rw [may,h,Bool.true_or]
   ·rw [may,h,Bool.false_or]
  ·exact b30 _ _ _ _ _ _ ⟨fun h=>by simp at h,fun _=>⟨a2x _,he⟩⟩
  ·rw [c57,h0]; rfl
theorem e8t (hNok:∀t v,OkD v ->OkD (N t v)) (g:C1) (v:A0) (hv:OkD v):OkD (c57 N g v):=by
 have z:Sz 0:=Nat.zero_le _
 obtain ⟨_,_,⟨la,pa,sa,ra⟩,hl,hps,hs⟩:=hv.inv
 obtain ⟨_,_,w3,w4⟩:=hv.w
 have hlen:((P8 kn v.Slots).flatMap fun x=>a8r N (opV g x.1).1 x.1 x.2).length<=v.Slots.length:=Nat.le_trans (d97 _ _ fun x hx=>c8v _ _ _ _) (b3l _)
 have hr:(sC kr v.Raws).length=v.Raws.length:=(d14 v.Raws).length_eq
 have hi:∀x∈v.Slots,I64 x.1:=by cases hv with|mk _ _ _ _ _ _ _ _ _ _ _ hn _ _ _=>exact hn
 have mem:∀x∈(P8 kn v.Slots).flatMap fun x=>a8r N (opV g x.1).1 x.1 x.2,I64 x.1 /\ OkD x.2:=fun x hx=>by
  obtain ⟨y,hy,h⟩:=List.mem_flatMap.1 hx
  unfold a8r at h
  split at h
  ·have:=List.mem_singleton.1 h
   subst this
   have hy':=a9t _ _ hy
   exact ⟨hi y hy',c7a hp hN hNok _ _ (hs y hy')⟩
  ·cases h
 refine .mk _ (show I64 10 from ⟨by decide,by decide⟩) (show U64 0 from ⟨by decide,by decide⟩) z z z (Nat.le_trans hlen sa) (show Sz (sC kr v.Raws).length by rw [hr]; exact ra) (fun x hx=>by cases hx) (fun x hx=>by cases hx) (fun x hx=>by cases hx) (fun x hx=>(mem x hx).1) (fun x hx=>(mem x hx).2) (fun x hx=>hv.raws x ((d14 v.Raws).mem_iff.1 hx)) ⟨z,z,Nat.le_trans (Nat.mul_le_mul_right _ hlen) w3,show Sz ((sC kr v.Raws).length*40) by rw [hr]; exact w4⟩
end
theorem d8p:OkD ⟨0,0,⟨#[]⟩,[],[],[],[]⟩:=by
 have z:Sz 0:=Nat.zero_le _
 exact .mk _ ⟨by decide,by decide⟩ ⟨by decide,by decide⟩ z z z z z (fun x hx=>by cases hx) (fun x hx=>by cases hx) (fun x hx=>by cases hx) (fun x hx=>by cases hx) (fun x hx=>by cases hx) (fun x hx=>by cases hx) ⟨z,z,z,z⟩
theorem b9i:∀(n:Nat),(∀(t:Int) (g:C1) (v:A0),p.Progs[t.toNat]? =some g ->0<=t ->OkD v /\ SizeOf.sizeOf v<=n /\ NoX v ->b1a p t v (W9 p n t v)) /\ ∀t v,OkD v ->OkD (W9 p n t v)
 |0=>⟨fun t g v _ _ h=>by have:=szV v; omega,fun t v _=>d8p hp⟩
 |n+1=>by
  obtain ⟨h1,h2⟩:=b9i n
  refine ⟨fun t g v hgt ht ⟨hv,hn,hX⟩=> ?_,fun t v hv=> ?_⟩
  ·obtain ⟨_,_,_,_,_,hs⟩:=hv.inv
   obtain ⟨x1,x2,_,_⟩:=hX.inv
   have hB:∀x∈v.Slots,(OkD x.2 /\ SizeOf.sizeOf x.2<=n /\ NoX x.2) /\ (∀y∈x.2.List_,OkD y /\ SizeOf.sizeOf y<=n /\ NoX y) /\ ∀y∈x.2.Pairs,OkD y.2 /\ SizeOf.sizeOf y.2<=n /\ NoX y.2:=fun x hx=>by
    have z1:=szS hx
    obtain ⟨_,_,_,q1,q2,_⟩:=(hs x hx).inv
    obtain ⟨_,_,y2,y3⟩:=(x2 x hx).inv
    exact ⟨⟨hs x hx,by omega,x2 x hx⟩,fun y hy=>⟨q1 y hy,by have:=szL hy; omega,y2 y hy⟩,fun y hy=>⟨(q2 y hy).2,by have:=szP hy; omega,y3 y hy⟩⟩
   have e:W9 p (n+1) t v=c57 (W9 p n) g v:=by simp only [W9,hgt]
   rw [e]
   exact e8w hp h1 h2 t ht g hgt v hv x1 hB
  ·simp only [W9]
   split
   ·exact d8p hp
   ·exact e8t hp h1 h2 _ v hv
theorem e9x (n:Nat) (t:Int) (g:C1) (v:A0) (hgt:p.Progs[t.toNat]? =some g) (ht:0<=t) (hv:OkD v) (hn:SizeOf.sizeOf v<=n) (hX:NoX v):b1a p t v (W9 p n t v):=(b9i hp n).1 t g v hgt ht ⟨hv,hn,hX⟩
theorem c7w (n:Nat) (t:Int) (v:A0) (hv:OkD v):OkD (W9 p n t v):=(b9i hp n).2 t v hv
end
theorem b8b {α β:Type} {s:List α} {f g:α ->List β} (h:∀x∈s,f x=g x):s.flatMap f=s.flatMap g:=by
 induction s with
 |nil=>rfl
 |cons x s ih=>rw [List.flatMap_cons,List.flatMap_cons,h x (by simp),ih fun y hy=>h y (by simp [hy])]
section
variable {β:Type} (G:GOp ->Int × A0 ->List β)
def c42 (l:List (Int × A0)) (o:GOp):List β:=l.flatMap fun x=>if x.1=o.Num then G o x else []
theorem c2f {l:List (Int × A0)} {o:GOp} (h:∀x∈l,x.1≠o.Num):c42 G l o=[]:=by
 unfold c42
 rw [List.flatMap_eq_nil_iff]
 intro x hx
 rw [if_neg (h x hx)]
def g2p (l:List (Int × A0)):Prop:=l.Pairwise fun x y=>x.1≠y.1
theorem e3f {l m:List (Int × A0)} (h:l.Perm m) (hd:g2p l) (o:GOp):c42 G l o=c42 G m o:=by
 induction h with
 |nil=>rfl
 |cons x h ih=>
  have:=ih (List.pairwise_cons.1 hd).2
  unfold c42 at this ⊢
  rw [List.flatMap_cons,List.flatMap_cons,this]
 |swap x y l=>
  have h1:=(List.pairwise_cons.1 hd).1 x (by simp)
  unfold c42
  simp only [List.flatMap_cons]
  by_cases e:y.1=o.Num
  ·rw [if_neg (show ¬x.1=o.Num by omega)]; simp
  ·rw [if_neg e]; simp
 |trans h1 h2 ih1 ih2=>exact (ih1 hd).trans (ih2 (h1.pairwise hd fun h=>h.symm))
theorem e21:∀(ops:List GOp) (S:List (Int × A0)),ops.Pairwise (fun a b=>a.Num<b.Num) ->S.Pairwise (fun x y=>x.1<y.1) ->(∀x∈S,∃o∈ops,o.Num=x.1) ->ops.flatMap (c42 G S)=S.flatMap fun x=>G (opL x.1 ops).1 x
 |[],S,_,_,hs=>by
  cases S with
  |nil=>rfl
  |cons x S=>obtain ⟨o,ho,_⟩:=hs x (by simp); cases ho
 |o::ops,S,hops,hS,hs=>by
  obtain ⟨h1,h2⟩:=List.pairwise_cons.1 hops
  cases S with
  |nil=>simp [c42]
  |cons x S=>
   obtain ⟨h3,h4⟩:=List.pairwise_cons.1 hS
   rw [List.flatMap_cons]
   by_cases e:x.1=o.Num
   ·have hin:∀y∈S,∃q∈ops,q.Num=y.1:=fun y hy=>by
     obtain ⟨q,hq,hn⟩:=hs y (by simp [hy])
     rcases List.mem_cons.1 hq with h5|h5
     ·rw [h5] at hn
      have:=h3 y hy
      omega
     ·exact ⟨q,h5,hn⟩
    have ih:=e21 ops S h2 h4 hin
    have e1:c42 G (x::S) o=G o x:=by
     have:c42 G S o=[]:=c2f G fun y hy=>by have:=h3 y hy; omega
     unfold c42 at this ⊢
     rw [List.flatMap_cons,this,if_pos e,List.append_nil]
    have e2:ops.flatMap (c42 G (x::S))=ops.flatMap (c42 G S):=by
     refine b8b fun q hq=> ?_
     have:=h1 q hq
     unfold c42
     rw [List.flatMap_cons,if_neg (by omega),List.nil_append]
    rw [e1,e2,ih,List.flatMap_cons]
    have e3:opL x.1 (o::ops)=(o,true):=by simp only [opL]; rw [if_pos (by simp [e])]
    rw [e3]
    congr 1
    refine b8b fun y hy=> ?_
    have:=h3 y hy
    simp only [opL]
    rw [if_neg (by simp; omega)]
   ·have hin:∀y∈x::S,∃q∈ops,q.Num=y.1:=fun y hy=>by
     obtain ⟨q0,hq0,hn0⟩:=hs x (by simp)
     have hx:o.Num<x.1:=by
      rcases List.mem_cons.1 hq0 with h5|h5
      ·rw [h5] at hn0; omega
      ·have:=h1 q0 h5; omega
     obtain ⟨q,hq,hn⟩:=hs y hy
     rcases List.mem_cons.1 hq with h5|h5
     ·rw [h5] at hn
      rcases List.mem_cons.1 hy with h6|h6
      ·rw [h6] at hn; omega
      ·have:=h3 y h6; omega
     ·exact ⟨q,h5,hn⟩
    have hne:∀y∈x::S,y.1≠o.Num:=fun y hy=>by
     obtain ⟨q,hq,hn⟩:=hin y hy
     have:=h1 q hq
     omega
    have ih:=e21 ops (x::S) h2 hS hin
    rw [c2f G hne,List.nil_append,ih]
    refine b8b fun y hy=> ?_
    have:=hne y hy
    simp only [opL]
    rw [if_neg (by simp; omega)]
end
theorem c8y {α:Type} {c:α ->α ->Int}:∀(l:List α),l.Pairwise (fun x y=>c x y≠0) ->(P8 c l).Perm l
 |[],_=>.refl _
 |x::l,h=>by
  obtain ⟨h1,h2⟩:=List.pairwise_cons.1 h
  have:lone c x l=true:=by
   rw [lone,List.all_eq_true]
   intro y hy
   simpa using h1 y hy
  simp only [P8]
  rw [if_pos this]
  exact (b7h x _).trans ((c8y l h2).cons x)
theorem c40 {β:Type} (G:GOp ->Int × A0 ->List β) (ops:List GOp) (l:List (Int × A0)) (hops:ops.Pairwise (fun a b=>a.Num<b.Num)) (hd:g2p l) (hs:∀x∈l,∃o∈ops,o.Num=x.1):ops.flatMap (c42 G l)=(P8 kn l).flatMap fun x=>G (opL x.1 ops).1 x:=by
 have hp:(P8 kn l).Perm l:=c8y l (hd.imp fun {x y} h=>d3j.2 h)
 have hS:(P8 kn l).Pairwise (fun x y=>x.1<y.1):=(b4u f1d l).imp fun {x y} h=>by
  rcases O8 x.1 y.1 with q|q|q<;>simp only [kn] at h<;>omega
 rw [<-e21 G ops (P8 kn l) hops hS fun x hx=>hs x (hp.mem_iff.1 hx)]
 exact b8b fun o _=>e3f G hp.symm hd o
theorem c0r {l:List GOp} (h:Asc l l.length):l.Pairwise fun a b=>a.Num<b.Num:=by
 rw [List.pairwise_iff_getElem]
 have key:∀d i (hi:i<l.length) (hj:i+d+1<l.length),l[i].Num<l[i+d+1].Num:=by
  intro d
  induction d with
  |zero=>intro i hi hj; exact h i _ _ hj (List.getElem?_eq_getElem hi) (List.getElem?_eq_getElem hj)
  |succ d ih=>
   intro i hi hj
   have h1:=ih i hi (by omega)
   have h2:=h (i+d+1) _ _ (by omega) (List.getElem?_eq_getElem (by omega)) (List.getElem?_eq_getElem (show i+d+1+1<l.length by omega))
   have e:l[i+(d+1)+1]=l[i+d+1+1]:=rfl
   rw [e]
   omega
 intro i j hi hj hij
 have:=key (j - i - 1) i hi (by omega)
 have e:i+(j - i - 1)+1=j:=by omega
 simp only [e] at this
 exact this
theorem c6g {a b:Int} (h:orE a b=0):a=0 /\ b=0:=by
 unfold orE at h
 split at h
 ·rename_i q; exact absurd h q
 ·rename_i q; exact ⟨by omega,h⟩
structure g94 (M:d9a) (p:A6) (g:C1) (v:A0) (lev:Int):Prop where
 kind:v.Kind=10
 other:a3s v=false
 deep:lev<=16
 known:∀x∈v.Slots,(opV g x.1).2=true
 diff:g2p v.Slots
 field:∀x∈v.Slots,a26 M p (opV g x.1).1 x.2 lev=0
 need:∀o∈g.Ops,o.Card=1 ->∃x∈v.Slots,x.1=o.Num
theorem e8c {M:d9a} {p:A6} {g:C1} {v:A0} {lev:Int} (h:e0v M p g v lev=0):g94 M p g v lev:=by
 unfold e0v at h
 split at h
 ·exact absurd h (by decide)
 rename_i h1
 split at h
 ·exact absurd h (by decide)
 rename_i h2
 obtain ⟨h3,h4⟩:=c6g h
 obtain ⟨h5,h6⟩:=c6g h4
 have h1':v.Kind=10 /\ a3s v=false:=by simpa using h1
 have sl:=fun i hi=>c1b 0 h3 i (Nat.zero_le _) hi
 have sl2:∀i (hi:i<v.Slots.length),(opV g v.Slots[i].1).2=true /\ ((v.Slots.take i).any fun y=>y.1==v.Slots[i].1)=false /\ a26 M p (opV g v.Slots[i].1).1 v.Slots[i].2 lev=0:=by
  intro i hi
  have:=sl i hi
  simp only [c3k,List.getElem?_eq_getElem hi] at this
  split at this
  ·exact absurd this (by decide)
  rename_i q1
  split at this
  ·exact absurd this (by decide)
  rename_i q2
  split at this
  ·exact absurd this (by decide)
  exact ⟨by simpa using q1,(by revert q2; cases ((v.Slots.take i).any fun y=>y.1==v.Slots[i].1)<;>simp),this⟩
 refine ⟨h1'.1,h1'.2,by omega,fun x hx=> ?_, ?_,fun x hx=> ?_,fun o ho hc=> ?_⟩
 ·obtain ⟨i,hi,rfl⟩:=List.mem_iff_getElem.1 hx
  exact (sl2 i hi).1
 ·unfold g2p
  rw [List.pairwise_iff_getElem]
  intro i j hi hj hij e
  have:=(sl2 j hj).2.1
  rw [List.any_eq_false] at this
  have hm:v.Slots[i]∈v.Slots.take j:=by
   rw [List.mem_take_iff_getElem]
   exact ⟨i,by omega,rfl⟩
  exact this _ hm (by simpa using e)
 ·obtain ⟨i,hi,rfl⟩:=List.mem_iff_getElem.1 hx
  exact (sl2 i hi).2.2
 ·obtain ⟨i,hi,rfl⟩:=List.mem_iff_getElem.1 ho
  have:=c1b 0 h5 i (Nat.zero_le _) hi
  simp only [c2a,List.getElem?_eq_getElem hi] at this
  split at this
  ·exact absurd this (by decide)
  rename_i q
  rcases Bool.eq_false_or_eq_true (v.Slots.any fun y=>y.1==g.Ops[i].Num) with r|r
  ·obtain ⟨x,hx,hn⟩:=List.any_eq_true.1 r
   exact ⟨x,hx,by simpa using hn⟩
  ·exact absurd ⟨hc,r⟩ q
theorem c73 {M:d9a} {p:A6} {o:GOp} {v:A0} {lev:Int} (h:a26 M p o v lev=0):
  (o.Card=4 ->v.Kind=11 /\ a3s v=false /\ ∀x∈v.List_,b3n M p o x lev=0) /\ (o.Card=5 ->v.Kind=12 /\ a3s v=false /\ (∀x∈v.Pairs,c4y p o.Key (-1) x.1=0 /\ b3n M p o x.2 lev=0) /\ v.Pairs.Pairwise fun x y=>a15 (SizeOf.sizeOf x.1) x.1 y.1≠0) /\ (o.Card≠4 ->o.Card≠5 ->b3n M p o v lev=0):=by
 unfold a26 at h
 refine ⟨fun hc=> ?_,fun hc=> ?_,fun h4 h5=> ?_⟩
 ·rw [if_pos hc] at h
  split at h
  ·exact absurd h (by decide)
  rename_i q
  have q':v.Kind=11 /\ a3s v=false:=by simpa using q
  refine ⟨q'.1,q'.2,fun x hx=> ?_⟩
  obtain ⟨i,hi,rfl⟩:=List.mem_iff_getElem.1 hx
  have:=c1b 0 h i (Nat.zero_le _) hi
  simpa only [d5v,List.getElem?_eq_getElem hi] using this
 ·rw [if_neg (by omega),if_pos hc] at h
  split at h
  ·exact absurd h (by decide)
  rename_i q
  have q':v.Kind=12 /\ a3s v=false:=by simpa using q
  have en:∀i (hi:i<v.Pairs.length),c4y p o.Key (-1) v.Pairs[i].1=0 /\ e0e v.Pairs[i] (v.Pairs.take i)=false /\ b3n M p o v.Pairs[i].2 lev=0:=fun i hi=>by
   have:=c1b 0 h i (Nat.zero_le _) hi
   simp only [b44,List.getElem?_eq_getElem hi] at this
   obtain ⟨a,b⟩:=c6g this
   split at b
   ·exact absurd b (by decide)
   rename_i k
   exact ⟨a,by simpa using k,b⟩
  refine ⟨q'.1,q'.2,fun x hx=> ?_, ?_⟩
  ·obtain ⟨i,hi,rfl⟩:=List.mem_iff_getElem.1 hx
   exact ⟨(en i hi).1,(en i hi).2.2⟩
  ·rw [List.pairwise_iff_getElem]
   intro i j hi hj hij e
   have:=(en j hj).2.1
   rw [e0e,List.any_eq_false] at this
   have hm:v.Pairs[i]∈v.Pairs.take j:=by
    rw [List.mem_take_iff_getElem]
    exact ⟨i,by omega,rfl⟩
   exact this _ hm (by simpa using e)
 ·rw [if_neg h4,if_neg h5] at h; exact h
section
variable {p:A6} (hp:OkX p)
 include hp
section
variable {N:d2q} {B:Int ->A0 ->Prop} (hN:∀(t:Int) (g:C1) (v:A0),p.Progs[t.toNat]? =some g ->0<=t ->B t v ->a9r p t v (N t v))
 include hN
theorem c90 (o:GOp) (ho:OpG p o) (v:A0) (hv:OkD v) (hb:o.Kind=10 ->B o.Target v):a7h p o v (b1e N o v):=by
 refine c4m _ _ _ _ ⟨fun h=> ?_,fun h=>⟨_,d16 v hv.okv.bits, ?_⟩⟩
 ·have hk:o.Kind=10:=by simpa using h
  obtain ⟨g,hg,t0⟩:=ho hk
  exact ⟨_,hN _ g v hg t0 (hb hk),by rw [b1e,if_pos hk]⟩
 ·rw [b1e,if_neg (by simpa using h)]
theorem e4s (o:GOp) (ho:OpG p o) (v:A0) (hv:OkD v) (hb:o.Card≠4 ->o.Card≠5 ->o.Kind=10 ->B o.Target v) (hbl:o.Card=4 ->o.Kind=10 ->∀x∈v.List_,B o.Target x) (hbp:o.Card=5 ->o.Kind=10 ->∀x∈v.Pairs,B o.Target x.2):b6h p o v (a91 N o v):=by
 obtain ⟨_,_,⟨la,pa,sa,ra⟩,hl,hps,hs⟩:=hv.inv
 have b1:=D1 la; have b2:=D1 pa
 have w1:=D1 hv.w.1; have w2:=D1 hv.w.2.1
 refine c22 _ _ _ _ ⟨fun h=> ?_,fun h=>⟨fun h4=>⟨_,e7e _ v.Pairs (by omega) (f2r _ hps), ?_⟩,fun h4=>⟨_,c90 hp hN o ho v hv (hb (by simpa using h) (by simpa using h4)), ?_⟩⟩⟩
 ·have hc:o.Card=4:=by simpa using h
  refine c0p (J:=fun i acc=>a5j i p o v acc _) (E:=fun acc=>a91 N o v=⟨11,0,⟨#[]⟩,acc,[],[],[]⟩) v.List_ (fun x=>[b1e N o x]) (fun i hi acc ha hj=> ?_) (fun x hx=>by simp) (fun acc ha he=> ?_) ?_
  ·have e1:wI ((i:Int)+1)=((i+1:Nat):Int):=by rw [wI,D2 (by omega)]; omega
   have hx:=List.getElem_mem hi
   refine a80 _ _ _ _ _ _ ⟨fun _=>⟨v.List_[i],by simp,by omega,_,c90 hp hN o ho _ (hl _ hx) (fun hk=>hbl hc hk _ hx),by simp; omega, ?_⟩,fun h=>by simp at h; omega⟩
   rw [e1]; exact hj
  ·exact a80 _ _ _ _ _ _ ⟨fun h=>by simp at h,fun _=>he⟩
  ·rw [c0s,a91,if_pos hc]
 ·have hc:o.Card=5:=by simpa using h4
  have hc4:¬o.Card=4:=by simpa using h
  have b3:=c3f v.Pairs
  refine c0p (J:=fun i acc=>a5f i (b46 v.Pairs) p o acc _) (E:=fun acc=>a91 N o v=⟨12,0,⟨#[]⟩,[],acc,[],[]⟩) (b46 v.Pairs) (fun x=>[(a40 x.1,b1e N o x.2)]) (fun i hi acc ha hj=> ?_) (fun x hx=>by simp) (fun acc ha he=> ?_) ?_
  ·have e1:wI ((i:Int)+1)=((i+1:Nat):Int):=by rw [wI,D2 (by omega)]; omega
   have hx:=b28 (List.getElem_mem hi)
   refine a86 _ _ _ _ _ _ ⟨fun _=>⟨(b46 v.Pairs)[i],by simp,by omega,_,d16 _ (hps _ hx).1.okv.bits,(b46 v.Pairs)[i],by simp,by omega,_,c90 hp hN o ho _ (hps _ hx).2 (fun hk=>hbp hc hk _ hx),by simp; omega, ?_⟩,fun h=>by simp at h; omega⟩
   rw [e1]; exact hj
  ·exact a86 _ _ _ _ _ _ ⟨fun h=>by simp at h,fun _=>he⟩
  ·rw [c0s,a91,if_neg hc4,if_pos hc]
 ·rw [a91,if_neg (by simpa using h),if_neg (by simpa using h4)]
theorem e9m (t:Int) (v:A0) (y1:List P6) (r:A0) (hv:OkD v) (hNok:∀t v,OkD v ->OkD (N t v)) (i:Nat) (hi:i<140737488351232) (o:GOp) (ho:OpG p o) (hc:1<=o.Card /\ o.Card<=5) (hb:∀x∈v.Slots,x.1=o.Num ->(o.Card≠4 ->o.Card≠5 ->o.Kind=10 ->B o.Target x.2) /\ (o.Card=4 ->o.Kind=10 ->∀y∈x.2.List_,B o.Target y) /\ (o.Card=5 ->o.Kind=10 ->∀y∈x.2.Pairs,B o.Target y.2))
  (T R:List (Int × A0)) (hT:T.length<=v.Slots.length) (next:∀acc,acc++R=T ->a44 ((i+1:Nat):Int) t p v acc y1 r):∀d k (acc:List (Int × A0)),v.Slots.length - k<=d ->k<=v.Slots.length ->acc++(v.Slots.drop k).flatMap (fun x=>if x.1=o.Num then a8r N o x.1 x.2 else [])++R=T ->a0h k i t p v acc y1 o r:=by
 obtain ⟨_,_,⟨la,pa,sa,ra⟩,hl,hps,hs⟩:=hv.inv
 have b1:=D1 sa; have w3:=D1 hv.w.2.2.1
 have e0:wI ((i:Int)+1)=((i+1:Nat):Int):=by rw [wI,D2 (by omega)]; omega
 have fin:∀(acc:List (Int × A0)),acc++(v.Slots.drop v.Slots.length).flatMap (fun x=>if x.1=o.Num then a8r N o x.1 x.2 else [])++R=T ->a0h (v.Slots.length:Nat) i t p v acc y1 o r:=by
  intro acc h
  rw [List.drop_length] at h
  refine b1m _ _ _ _ _ _ _ _ _ ⟨fun h=>by simp at h,fun _=> ?_⟩
  rw [e0]; exact next acc (by simpa using h)
 intro d
 induction d with
 |zero=>
  intro k acc hd hk h
  have e:k=v.Slots.length:=by omega
  subst e
  exact fin acc h
 |succ d ih=>
  intro k acc hd hk h
  rcases Nat.lt_or_ge k v.Slots.length with hlt|hge
  ·have e1:wI ((k:Int)+1)=((k+1:Nat):Int):=by rw [wI,D2 (by omega)]; omega
   have dl:v.Slots.drop k=v.Slots[k]::v.Slots.drop (k+1):=List.drop_eq_getElem_cons hlt
   have hx:=List.getElem_mem hlt
   rw [dl,List.flatMap_cons,<-List.append_assoc] at h
   refine b1m _ _ _ _ _ _ _ _ _ ⟨fun _=>⟨v.Slots[k],by simp,by omega,fun hn=> ?_,fun hn=> ?_⟩,fun h=>by simp at h; omega⟩
   ·have hne:¬v.Slots[k].1=o.Num:=by simpa using hn
    rw [if_neg hne,List.append_nil] at h
    rw [e1]
    exact ih (k+1) acc (by omega) (by omega) h
   ·have he:v.Slots[k].1=o.Num:=by simpa using hn
    obtain ⟨b1',b2',b3'⟩:=hb _ hx he
    have oz:=c7a (p:=p) (N:=N) (B:=fun _=>False) hp (fun t g v _ _ hf=>hf.elim) hNok o _ (hs _ hx)
    rw [if_pos he] at h
    refine ⟨v.Slots[k],by simp,by omega,_,e4s hp hN o ho _ (hs _ hx) b1' b2' b3',fun b=>b=(!e8n o|| !b8u (a91 N o v.Slots[k].2)),fun b hbb=>⟨fun h2=> ?_,fun h2=> ?_⟩,fun h2=> ?_,fun h2=>⟨_,e7v _, ?_⟩⟩
    ·subst hbb
     rw [a8r,if_pos h2,he] at h
     have hlen:=congrArg List.length h
     simp at hlen
     refine ⟨by simp; omega, ?_⟩
     rw [e1]
     exact ih (k+1) _ (by omega) (by omega) h
    ·subst hbb
     rw [a8r,if_neg (nt h2),List.append_nil] at h
     rw [e1]
     exact ih (k+1) _ (by omega) (by omega) h
    ·have:e8n o=false:=by
      unfold e8n
      simp at h2 ⊢
      omega
     rw [this]; rfl
    ·have:e8n o=true:=by
      unfold e8n
      simp at h2 ⊢
      omega
     rw [this]; rfl
  ·have e:k=v.Slots.length:=by omega
   subst e
   exact fin acc h
theorem e6z (hNok:∀t v,OkD v ->OkD (N t v)) (t:Int) (ht:0<=t) (g:C1) (hgt:p.Progs[t.toNat]? =some g) (v:A0) (hv:OkD v) (hX:v.Raws=[]) {M:d9a} {lev:Int} (hf:g94 M p g v lev)
  (hb:∀x∈v.Slots,∀o∈g.Ops,o.Num=x.1 ->(o.Card≠4 ->o.Card≠5 ->o.Kind=10 ->B o.Target x.2) /\ (o.Card=4 ->o.Kind=10 ->∀y∈x.2.List_,B o.Target y) /\ (o.Card=5 ->o.Kind=10 ->∀y∈x.2.Pairs,B o.Target y.2)):a9r p t v (c57 N g v):=by
 have hg:g∈p.Progs:=List.mem_of_getElem? hgt
 have hlt:t.toNat<p.Progs.length:=(List.getElem?_eq_some_iff.1 hgt).1
 obtain ⟨_,_,⟨la,pa,sa,ra⟩,hl,hps,hs⟩:=hv.inv
 have b1:=D1 sa; have w3:=D1 hv.w.2.2.1; have w4:=D1 hv.w.2.2.2; have bo:=hp.ops hg
 have off:((decide (t<0))||(decide ((p.Progs.length:Int)<=t)))=false:=by simp; omega
 have hT:=c40 (fun o x=>a8r N o x.1 x.2) g.Ops v.Slots (c0r (hp.va.asc g hg)) hf.diff fun x hx=>by
  obtain ⟨h1,h2⟩:=b6r (hf.known x hx)
  exact ⟨_,h2,h1⟩
 have hlen:(g.Ops.flatMap (c42 (fun o x=>a8r N o x.1 x.2) v.Slots)).length<=v.Slots.length:=by
  rw [hT]
  exact Nat.le_trans (d97 _ _ fun x hx=>c8v _ _ _ _) (b3l _)
 have er:c4h v.Raws (sC kr v.Raws):=by
  rw [hX]
  exact c85 _ _ (c0t _ _ _ _ ⟨fun h=>by simp at h,fun _=>rfl⟩)
 refine c9l _ _ _ _ ⟨fun h=>(by rw [off] at h; cases h),fun _=>⟨_,er, ?_⟩⟩
 have e:c57 N g v=⟨10,0,⟨#[]⟩,[],[],g.Ops.flatMap (c42 (fun o x=>a8r N o x.1 x.2) v.Slots),sC kr v.Raws⟩:=by
  rw [hT]; rfl
 rw [e]
 have go:∀d i (acc:List (Int × A0)),g.Ops.length - i<=d ->i<=g.Ops.length ->acc++(g.Ops.drop i).flatMap (c42 (fun o x=>a8r N o x.1 x.2) v.Slots)=g.Ops.flatMap (c42 (fun o x=>a8r N o x.1 x.2) v.Slots) ->a44 i t p v acc (sC kr v.Raws) ⟨10,0,⟨#[]⟩,[],[],g.Ops.flatMap (c42 (fun o x=>a8r N o x.1 x.2) v.Slots),sC kr v.Raws⟩:=by
  intro d
  induction d with
  |zero=>
   intro i acc hd hi h
   have e:i=g.Ops.length:=by omega
   subst e
   rw [List.drop_length] at h
   exact a5o _ _ _ _ _ _ _ ⟨g,hgt,ht,fun h=>by simp at h,fun _=>by rw [<-h]; simp⟩
  |succ d ih=>
   intro i acc hd hi h
   rcases Nat.lt_or_ge i g.Ops.length with hlt2|hge
   ·have dl:g.Ops.drop i=g.Ops[i]::g.Ops.drop (i+1):=List.drop_eq_getElem_cons hlt2
    have ho:=List.getElem_mem hlt2
    have oF:=(hp.va.pro g hg).2 _ ho
    rw [dl,List.flatMap_cons] at h
    refine a5o _ _ _ _ _ _ _ ⟨g,hgt,ht,fun _=>⟨g,hgt,ht,g.Ops[i],by simp,by omega, ?_⟩,fun h=>by simp at h; omega⟩
    refine e9m hp hN t v _ _ hv hNok i (by omega) g.Ops[i] (fun hk=> ?_) oF.card (fun x hx he=>hb x hx _ ho he.symm) _ ((g.Ops.drop (i+1)).flatMap (c42 (fun o x=>a8r N o x.1 x.2) v.Slots)) hlen (fun acc' h'=>ih (i+1) acc' (by omega) (by omega) h') v.Slots.length 0 acc (by omega) (by omega) ?_
    ·obtain ⟨t0,t1,_⟩:=oF.msg hk
     have hlt:g.Ops[i].Target.toNat<p.Progs.length:=by omega
     exact ⟨_,List.getElem?_eq_getElem hlt,t0⟩
    ·rw [List.drop_zero,List.append_assoc]; exact h
   ·have e:i=g.Ops.length:=by omega
    subst e
    rw [List.drop_length] at h
    exact a5o _ _ _ _ _ _ _ ⟨g,hgt,ht,fun h=>by simp at h,fun _=>by rw [<-h]; simp⟩
 exact go _ 0 [] (Nat.le_refl _) (by omega) (by simp)
end
theorem c2n {M:d9a} {o:GOp} {v:A0} {lev:Int} (h:b3n M p o v lev=0) (hk:o.Kind=10):M o.Target v (lev+1)=0:=by
 rw [b3n,if_pos hk] at h; exact h
theorem f2s {g:C1} (hg:g∈p.Progs) {o:GOp} (ho:o∈g.Ops):opV g o.Num=(o,true):=by
 have h:=c0r (hp.va.asc g hg)
 unfold opV
 generalize g.Ops=l at h ho
 induction l with
 |nil=>cases ho
 |cons q l ih=>
  obtain ⟨h1,h2⟩:=List.pairwise_cons.1 h
  rcases List.mem_cons.1 ho with h3|h3
  ·subst h3
   simp only [opL]; rw [if_pos (by simp)]
  ·have:=h1 o h3
   simp only [opL]; rw [if_neg (by simp; omega)]
   exact ih h2 h3
theorem d1n:∀(n:Nat) (t:Int) (g:C1) (v:A0),p.Progs[t.toNat]? =some g ->0<=t ->(OkD v /\ SizeOf.sizeOf v<=n /\ NoX v /\ ∃lev,b3b p n t v lev=0) ->a9r p t v (W9 p n t v)
 |0,t,g,v,_,_,h=>by have:=szV v; omega
 |n+1,t,g,v,hgt,ht,⟨hv,hn,hX,lev,hm⟩=>by
  obtain ⟨x1,x2,_,_⟩:=hX.inv
  have hg:g∈p.Progs:=List.mem_of_getElem? hgt
  obtain ⟨_,_,_,_,_,hs⟩:=hv.inv
  have e:W9 p (n+1) t v=c57 (W9 p n) g v:=by simp only [W9,hgt]
  rw [e]
  simp only [b3b,hgt] at hm
  have hf:=e8c hm
  refine e6z hp (B:=fun t v=>OkD v /\ SizeOf.sizeOf v<=n /\ NoX v /\ ∃lev,b3b p n t v lev=0) (d1n n) (fun t v=>c7w hp n t v) t ht g hgt v hv x1 hf fun x hx o ho he=> ?_
  have z1:=szS hx
  obtain ⟨_,_,_,q1,q2,_⟩:=(hs x hx).inv
  have h1:=hf.field x hx
  rw [<-he,f2s hp hg ho] at h1
  obtain ⟨f4,f5,f6⟩:=c73 h1
  obtain ⟨_,_,y2,y3⟩:=(x2 x hx).inv
  refine ⟨fun h4 h5 hk=>⟨hs x hx,by omega,x2 x hx,_,c2n hp (f6 h4 h5) hk⟩,fun h4 hk y hy=>⟨q1 y hy,by have:=szL hy; omega,y2 y hy,_,c2n hp ((f4 h4).2.2 y hy) hk⟩,fun h5 hk y hy=>⟨(q2 y hy).2,by have:=szP hy; omega,y3 y hy,_,c2n hp ((f5 h5).2.2.1 y hy).2 hk⟩⟩
end
mutual
def bA:AV ->Nat
 |.v (.string s)=>s.size+1
 |.sl els _=>bLL els+1
 |.agg cells=>bL cells+1
 |_=>1
def bL:List AV ->Nat
 |[]=>0
 |a::l=>bA a+bL l
def bLL:List (List AV) ->Nat
 |[]=>0
 |a::l=>bL a+bLL l
end
theorem c0h:∀(a b:List AV),bL (a++b)=bL a+bL b
 |[],b=>by simp [bL]
 |x::a,b=>by simp [bL,c0h a b,Nat.add_assoc]
theorem c31:∀(l:List (List AV)),bL l.flatten=bLL l
 |[]=>by simp [bL,bLL]
 |x::l=>by simp [c0h,bLL,c31 l]
def wtV (v:A0):Nat:=bL (B9 v)
def a59 {α:Type} (f:α ->Nat):List α ->Nat
 |[]=>0
 |x::l=>f x+a59 f l
theorem e6y {α:Type} (f:α ->List AV):∀l:List α,bLL (l.map f)=a59 (fun x=>bL (f x)) l
 |[]=>rfl
 |x::l=>by simp [bLL,a59,e6y f l]
abbrev wtP (x:A0 × A0):Nat:=wtV x.1+wtV x.2
abbrev wtS (x:Int × A0):Nat:=1+wtV x.2
abbrev wtR (x:P6):Nat:=4+x.Data.size
theorem b8k (v:A0):wtV v=7+v.Text.size+a59 wtV v.List_+a59 wtP v.Pairs+a59 wtS v.Slots+a59 wtR v.Raws:=by
 have e1:(fun x:A0 × A0=>bL (A8 x))=wtP:=by funext x; simp [A8,c0h,wtV,wtP]
 have e2:(fun x:Int × A0=>bL (A9 x))=wtS:=by funext x; simp [A9,c0h,wtV,wtS,bL,bA]
 have e3:(fun x:P6=>bL (I8 x))=wtR:=by funext x; simp [I8,bL,bA,wtR]; omega
 have e4:(fun x:A0=>bL (B9 x))=wtV:=rfl
 rw [wtV,Q8]
 simp only [A4,bL,bA,e6y,e1,e2,e3,e4]
 omega
theorem d27 {α:Type} (f:α ->Nat) {l:List α} {x:α} (h:x∈l):f x<=a59 f l:=by
 induction l with
 |nil=>cases h
 |cons y l ih=>
  rcases List.mem_cons.1 h with h|h
  ·subst h; simp only [a59]; omega
  ·have:=ih h; simp only [a59]; omega
theorem c0w {α:Type} (f:α ->Nat) (k:Nat):∀{l:List α},(∀x∈l,k<=f x) ->l.length*k<=a59 f l
 |[],_=>by simp [a59]
 |x::l,h=>by
  have h1:=h x (by simp)
  have h2:=c0w f k (l:=l) fun y hy=>h y (by simp [hy])
  simp only [a59,List.length_cons,Nat.add_mul]
  omega
theorem f21 (v:A0):7<=wtV v:=by rw [b8k]; omega
theorem e7k (v:A0):(∀x∈v.List_,wtV x<=wtV v) /\ (∀x∈v.Pairs,wtV x.1+wtV x.2<=wtV v) /\ (∀x∈v.Slots,wtV x.2<=wtV v):=by
 have e:=b8k v
 refine ⟨fun x hx=> ?_,fun x hx=> ?_,fun x hx=> ?_⟩
 ·have:=d27 wtV hx; omega
 ·have:=d27 wtP hx; simp only [wtP] at this; omega
 ·have:=d27 wtS hx; simp only [wtS] at this; omega
theorem e2c (v:A0):v.Text.size+v.List_.length+v.Pairs.length+v.Slots.length+v.Raws.length<=wtV v:=by
 have e:=b8k v
 have h1:=c0w wtV 1 (l:=v.List_) fun x _=>by have:=f21 x; omega
 have h2:=c0w wtP 1 (l:=v.Pairs) fun x _=>by have:=f21 x.1; simp only [wtP]; omega
 have h3:=c0w wtS 1 (l:=v.Slots) fun x _=>by simp only [wtS]; omega
 have h4:=c0w wtR 1 (l:=v.Raws) fun x _=>by simp only [wtR]; omega
 omega
def b8v (v:A0):List A0:=v.List_++(v.Pairs.flatMap fun x=>[x.1,x.2])++v.Slots.map fun x=>x.2
theorem f0e (v:A0) (hv:OkD v) (hw:wtV v<=274877906944):b85 v (b8v v):=by
 have hl:=e2c v
 obtain ⟨_,_,⟨la,pa,sa,ra⟩,_,_,_⟩:=hv.inv
 have w1:=D1 hv.w.1
 refine c5f _ _ ⟨a4w _ (by omega), ?_⟩
 have j6:∀d i (acc:List A0),v.Slots.length - i<=d ->i<=v.Slots.length ->acc.length+(v.Slots.length - i)<=549755813888 ->a64 i v acc (acc++(v.Slots.drop i).map fun x=>x.2):=by
  intro d
  induction d with
  |zero=>
   intro i acc hd hi ha
   have e:i=v.Slots.length:=by omega
   subst e
   exact a4c _ _ _ _ ⟨fun h=>by simp at h,fun _=>by simp⟩
  |succ d ih=>
   intro i acc hd hi ha
   rcases Nat.lt_or_ge i v.Slots.length with hlt|hge
   ·have e1:wI ((i:Int)+1)=((i+1:Nat):Int):=by rw [wI,D2 (by omega)]; omega
    have dl:v.Slots.drop i=v.Slots[i]::v.Slots.drop (i+1):=List.drop_eq_getElem_cons hlt
    refine a4c _ _ _ _ ⟨fun _=>⟨v.Slots[i],by simp,by omega,by simp; omega, ?_⟩,fun h=>by simp at h; omega⟩
    rw [e1,dl]
    have:=ih (i+1) (acc++[v.Slots[i].2]) (by omega) (by omega) (by simp; omega)
    rw [List.append_assoc] at this
    exact this
   ·have e:i=v.Slots.length:=by omega
    subst e
    exact a4c _ _ _ _ ⟨fun h=>by simp at h,fun _=>by simp⟩
 have j4:∀d i (acc:List A0),v.Pairs.length - i<=d ->i<=v.Pairs.length ->acc.length+2*(v.Pairs.length - i)+v.Slots.length<=549755813888 ->a7a i v acc (acc++((v.Pairs.drop i).flatMap fun x=>[x.1,x.2])++v.Slots.map fun x=>x.2):=by
  intro d
  induction d with
  |zero=>
   intro i acc hd hi ha
   have e:i=v.Pairs.length:=by omega
   subst e
   refine a31 _ _ _ _ ⟨fun h=>by simp at h,fun _=> ?_⟩
   have:=j6 v.Slots.length 0 acc (by omega) (by omega) (by omega)
   simpa using this
  |succ d ih=>
   intro i acc hd hi ha
   rcases Nat.lt_or_ge i v.Pairs.length with hlt|hge
   ·have e1:wI ((i:Int)+1)=((i+1:Nat):Int):=by rw [wI,D2 (by omega)]; omega
    have dl:v.Pairs.drop i=v.Pairs[i]::v.Pairs.drop (i+1):=List.drop_eq_getElem_cons hlt
    refine a31 _ _ _ _ ⟨fun _=>⟨v.Pairs[i],by simp,by omega,by simp; omega, ?_⟩,fun h=>by simp at h; omega⟩
    rw [e1,dl]
    have:=ih (i+1) (acc++[v.Pairs[i].1,v.Pairs[i].2]) (by omega) (by omega) (by simp; omega)
    rw [List.flatMap_cons,<-List.append_assoc acc]
    exact this
   ·have e:i=v.Pairs.length:=by omega
    subst e
    refine a31 _ _ _ _ ⟨fun h=>by simp at h,fun _=> ?_⟩
    have:=j6 v.Slots.length 0 acc (by omega) (by omega) (by omega)
    simpa using this
 have h:=j4 v.Pairs.length 0 v.List_ (by omega) (by omega) (by omega)
 simpa [b8v] using h
theorem e3g (f:A0 ->Int) (v:A0):((b8v v).map f).sum=(v.List_.map f).sum+(v.Pairs.map fun x=>f x.1+f x.2).sum+(v.Slots.map fun x=>f x.2).sum:=by
 have key:∀l:List (A0 × A0),((l.flatMap fun x=>[x.1,x.2]).map f).sum=(l.map fun x=>f x.1+f x.2).sum:=by
  intro l
  induction l with
  |nil=>rfl
  |cons x l ih=>simp only [List.flatMap_cons,List.map_append,List.sum_append,List.map_cons,List.map_nil,List.sum_cons,List.sum_nil,ih]; omega
 simp only [b8v,List.map_append,List.sum_append,key,List.map_map]
 rfl
theorem c0k:∀(n:Nat) (v:A0),OkD v ->SizeOf.sizeOf v<=n ->wtV v<=274877906944 ->b0x v (wI (b23 n v))
 |0,v,_,h,_=>by have:=szV v; omega
 |n+1,v,hv,hn,hw=>by
  obtain ⟨_,_,_,hl,hp,hs⟩:=hv.inv
  obtain ⟨m1,m2,m3⟩:=e7k v
  have hlen:=e2c v
  refine c5l _ _ ⟨_,f0e v hv hw, ?_⟩
  have e:b23 (n+1) v=1+(v.Raws.length:Int)+((b8v v).map (b23 n)).sum:=by
   rw [e3g]; simp only [b23]; omega
  have il:(b8v v).length<=3298534883328:=by
   have:(v.Pairs.flatMap fun x=>[x.1,x.2]).length=2*v.Pairs.length:=by
    generalize v.Pairs=l
    induction l with
    |nil=>rfl
    |cons x l ih=>simp only [List.flatMap_cons,List.length_append,ih,List.length_cons,List.length_nil]; omega
   simp only [b8v,List.length_append,List.length_map,this]
   omega
  rw [e]
  refine d3l (J:=fun i a=>a7e i (b8v v) a _) (C:=fun (x:A0) b=>b0x x b) (E:=fun a=>wI (1+(v.Raws.length:Int)+((b8v v).map (b23 n)).sum)=a) (b23 n) (b8v v) (fun i a hw=>c0d i _ a _ hw) (by omega) (fun x hx=> ?_) _ rfl
  rcases List.mem_append.1 hx with hx|hx
  ·rcases List.mem_append.1 hx with hx|hx
   ·exact c0k n x (hl x hx) (by have:=szL hx; omega) (by have:=m1 x hx; omega)
   ·obtain ⟨y,hy,hz⟩:=List.mem_flatMap.1 hx
    have:=m2 y hy
    have z1:=szP hy
    rcases List.mem_cons.1 hz with h|h
    ·subst h; exact c0k n _ (hp y hy).1 (by omega) (by omega)
    ·have:=List.mem_singleton.1 h
     subst this; exact c0k n _ (hp y hy).2 (by omega) (by omega)
  ·obtain ⟨y,hy,rfl⟩:=List.mem_map.1 hx
   exact c0k n _ (hs y hy) (by have:=szS hy; omega) (by have:=m3 y hy; omega)
noncomputable def c35 (p:A6) (n:Nat) (t:Int) (v:A0):Int:=orE (b3b p n t v 1) (if 4096<wI (b23 n v) then 3 else 0)
section
variable {p:A6} (hp:OkX p)
 include hp
theorem f1x (n:Nat) (t:Int) (g:C1) (v:A0) (hgt:p.Progs[t.toNat]? =some g) (ht:0<=t) (hv:OkD v) (hn:SizeOf.sizeOf v<=n) (hw:wtV v<=274877906944):c7o p t v (c35 p n t v):=by
 have hlt:t.toNat<p.Progs.length:=(List.getElem?_eq_some_iff.1 hgt).1
 have off:((decide (t<0))||(decide ((p.Progs.length:Int)<=t)))=false:=by simp; omega
 refine c99 _ _ _ _ ⟨fun h=>(by rw [off] at h; cases h),fun _=>⟨g,hgt,ht,_,d6m hp n t g v 1 hgt ht hv hn (by decide) (by decide),fun h=> ?_,fun h=>⟨_,c0k n v hv hn hw,fun h2=> ?_,fun h2=> ?_⟩⟩⟩
 ·rw [c35,orE,if_pos (by simpa using h)]
 ·rw [c35,orE,if_neg (by simpa using h),if_pos (by simpa using h2)]
 ·rw [c35,orE,if_neg (by simpa using h),if_neg (by simpa using h2)]
theorem e4r (n:Nat) (t:Int) (g:C1) (v:A0) (hgt:p.Progs[t.toNat]? =some g) (ht:0<=t) (hv:OkD v) (hn:SizeOf.sizeOf v<=n):c39 p t v (c35 p n t v):=by
 have hlt:t.toNat<p.Progs.length:=(List.getElem?_eq_some_iff.1 hgt).1
 have off:((decide (t<0))||(decide ((p.Progs.length:Int)<=t)))=false:=by simp; omega
 refine c8d _ _ _ _ ⟨fun h=>(by rw [off] at h; cases h),fun _=>⟨_,e4y hp n t g v 1 hgt ht hv hn (by decide) (by decide),fun h=> ?_,fun h=>⟨_,b3e n v hv hn,fun h2=> ?_,fun h2=> ?_⟩⟩⟩
 ·rw [c35,orE,if_pos (by simpa using h)]
 ·rw [c35,orE,if_neg (by simpa using h),if_pos (by simpa using h2)]
 ·rw [c35,orE,if_neg (by simpa using h),if_neg (by simpa using h2)]
end
theorem b0h (a b:ByteArray):bI (a++b)=bI a++bI b:=by simp [bI]
def c4a:List ByteArray ->ByteArray
 |[]=>⟨#[]⟩
 |x::l=>x++c4a l
theorem a89 (a b c:ByteArray):(a++b)++c=a++(b++c):=ByteArray.append_assoc
theorem e7n (a:ByteArray):a++(⟨#[]⟩:ByteArray)=a:=ByteArray.append_empty
theorem d4i (l:List ByteArray):(c4a l).size=a59 ByteArray.size l:=by
 induction l with
 |nil=>rfl
 |cons x l ih=>simp only [c4a,a59,I9,ih]
theorem c2q {α β:Type} (f:β ->Nat) (g:α ->β):∀l:List α,a59 f (l.map g)=a59 (fun x=>f (g x)) l
 |[]=>rfl
 |x::l=>by simp only [List.map_cons,a59,c2q f g l]
theorem c7x {α:Type} {f g:α ->Nat}:∀{l:List α},(∀x∈l,f x<=g x) ->a59 f l<=a59 g l
 |[],_=>by simp [a59]
 |x::l,h=>by
  have h1:=h x (by simp)
  have h2:=c7x (l:=l) fun y hy=>h y (by simp [hy])
  simp only [a59]
  omega
theorem d2s {α:Type} (k:Nat) (f:α ->Nat):∀l:List α,a59 (fun x=>k*f x) l=k*a59 f l
 |[]=>by simp [a59]
 |x::l=>by simp only [a59,d2s k f l,Nat.mul_add]
abbrev d3x:=Int ->A0 ->ByteArray
def b3d (W:d3x) (o:GOp) (v:A0):ByteArray:=if o.Kind=10 then W o.Target v else e8f v
def c4u (W:d3x) (o:GOp) (x:A0 × A0):ByteArray:=e8f x.1++b3d W o x.2
def c1p (W:d3x) (o:GOp) (x:A0) (set:Bool):ByteArray:=
 if o.Card=4 then c3q x.List_.length++c4a (x.List_.map (b3d W o))
 else if o.Card=5 then c3q x.Pairs.length++c4a (x.Pairs.map (c4u W o))
 else if o.Card=1 then b3d W o x
 else if set=true then (⟨#[1]⟩:ByteArray)++b3d W o x else ⟨#[0]⟩
def a6y (W:d3x):List GOp ->List (Int × A0) ->ByteArray
 |[],_=>⟨#[]⟩
 |o::ops,[]=>c1p W o V0 false++a6y W ops []
 |o::ops,s::S=>if s.1=o.Num then c1p W o s.2 true++a6y W ops S else c1p W o V0 false++a6y W ops (s::S)
def b0j (p:A6):Nat ->d3x
 |0,_,_=>⟨#[]⟩
 |n+1,t,v=>match p.Progs[t.toNat]? with
  |none=>⟨#[]⟩
  |some g=>a6y (b0j p n) g.Ops v.Slots
def c00 (R:GOp ->A0 ->Prop):List GOp ->List (Int × A0) ->Prop
 |[],S=>S=[]
 |o::ops,[]=>o.Card≠1 /\ c00 R ops []
 |o::ops,s::S=>(s.1=o.Num ->R o s.2 /\ c00 R ops S) /\ (s.1≠o.Num ->o.Card≠1 /\ c00 R ops (s::S))
def NfF (B:Int ->A0 ->Prop) (o:GOp) (z:A0):Prop:=
 OkD z /\ (o.Card=4 ->∀y∈z.List_,o.Kind=10 ->B o.Target y) /\ (o.Card=5 ->∀y∈z.Pairs,o.Kind=10 ->B o.Target y.2) /\ (o.Card≠4 ->o.Card≠5 ->o.Kind=10 ->B o.Target z)
def NfV (p:A6):Nat ->Int ->A0 ->Prop
 |0,_,_=>False
 |n+1,t,x=>∃g,p.Progs[t.toNat]? =some g /\ 0<=t /\ OkD x /\ c00 (NfF (NfV p n)) g.Ops x.Slots
theorem d4m (v:A0) (hv:OkV v):(e8f v).size<=10+v.Text.size:=by
 have ht:=hv.t
 have hb:=hv.b1
 have hn:=hv.b0
 unfold e8f
 split
 ·split
  ·rw [d10]; simp; omega
  split
  ·have:=a72 (e8k (wI v.Bits)) (d70 (d3h _))
   omega
  split
  ·rw [f0j]; omega
  split
  ·rw [I9]
   have:=a72 v.Text.size (by omega)
   omega
  ·have:=a72 v.Bits.toNat (by omega)
   omega
 ·show 0<=_; omega
section
variable {W:d3x} {B:Int ->A0 ->Prop} (hS:∀t x,B t x ->(W t x).size<=1000000*wtV x)
 include hS
theorem c3e (o:GOp) (y:A0) (hy:OkV y) (hb:o.Kind=10 ->B o.Target y):(b3d W o y).size<=1000000*wtV y:=by
 unfold b3d
 split
 ·rename_i h; exact hS _ _ (hb h)
 ·have h1:=d4m y hy
  have h2:=b8k y
  omega
theorem e0h (o:GOp) (z:A0) (hz:NfF B o z):(c1p W o z true).size<=11+1000000*wtV z:=by
 obtain ⟨hd,h4,h5,h6⟩:=hz
 obtain ⟨_,_,⟨la,pa,sa,ra⟩,hl,hp,hs⟩:=hd.inv
 have b1:=D1 la; have b2:=D1 pa
 have e:=b8k z
 unfold c1p
 split
 ·rename_i hc
  rw [I9,d4i,c2q]
  have h1:=a72 z.List_.length (by omega)
  have h2:=c7x (l:=z.List_) (f:=fun y=>(b3d W o y).size) (g:=fun y=>1000000*wtV y) fun y hy=>c3e hS o y (hl y hy).okv (h4 hc y hy)
  rw [d2s] at h2
  omega
 split
 ·rename_i hc
  rw [I9,d4i,c2q]
  have h1:=a72 z.Pairs.length (by omega)
  have h2:=c7x (l:=z.Pairs) (f:=fun y=>(c4u W o y).size) (g:=fun y=>1000000*wtP y) fun y hy=>by
   have a:=c3e hS o y.2 (hp y hy).2.okv (h5 hc y hy)
   have b:=d4m y.1 (hp y hy).1.okv
   have c:=b8k y.1
   simp only [c4u,I9,wtP]
   omega
  rw [d2s] at h2
  omega
 ·rename_i n4 n5
  have h1:=c3e hS o z hd.okv (h6 n4 n5)
  split
  ·omega
  ·rw [if_pos rfl,I9]
   have:(⟨#[1]⟩:ByteArray).size=1:=rfl
   omega
theorem d1p (o:GOp) (h1:o.Card≠1):(c1p W o V0 false).size<=11:=by
 have e:(c3q 0).size<=10:=a72 0 (by omega)
 unfold c1p
 by_cases h4:o.Card=4
 ·rw [if_pos h4,I9]
  have:(c4a (V0.List_.map (b3d W o))).size=0:=rfl
  have:(c3q V0.List_.length)=c3q 0:=rfl
  rw [this]; omega
 by_cases h5:o.Card=5
 ·rw [if_neg h4,if_pos h5,I9]
  have:(c4a (V0.Pairs.map (c4u W o))).size=0:=rfl
  have:(c3q V0.Pairs.length)=c3q 0:=rfl
  rw [this]; omega
 ·rw [if_neg h4,if_neg h5,if_neg h1,if_neg (by decide)]
  show 1<=11
  omega
theorem b70:∀(ops:List GOp) (S:List (Int × A0)),c00 (NfF B) ops S ->(a6y W ops S).size<=11*ops.length+1000000*a59 wtS S
 |[],S,_=>by show 0<=_; omega
 |o::ops,[],h=>by
  have h1:=d1p (W:=W) hS o h.1
  have h2:=b70 ops [] h.2
  simp only [a6y,I9,List.length_cons]
  omega
 |o::ops,s::S,h=>by
  simp only [a6y]
  split
  ·rename_i he
   obtain ⟨hr,hm⟩:=h.1 he
   have h1:=e0h hS o s.2 hr
   have h2:=b70 ops S hm
   simp only [I9,List.length_cons,a59,wtS]
   omega
  ·rename_i he
   obtain ⟨hr,hm⟩:=h.2 he
   have h1:=d1p (W:=W) hS o hr
   have h2:=b70 ops (s::S) hm
   simp only [I9,List.length_cons]
   omega
end
theorem f69 {p:A6} (hp:OkX p) {g:C1} (hg:g∈p.Progs):g.Ops.length<=65535:=by
 have h:=c0r (hp.va.asc g hg)
 have hn:=hp.va.num g hg
 rcases Nat.lt_or_ge 65535 g.Ops.length with hlt|hge
 ·have key:∀i (hi:i<g.Ops.length),(i:Int)+1<=g.Ops[i].Num:=by
   intro i
   induction i with
   |zero=>intro hi; have:=(hn _ (List.getElem_mem hi)).1; simpa using this
   |succ i ih=>
    intro hi
    have h1:=ih (by omega)
    have h2:=List.pairwise_iff_getElem.1 h i (i+1) (by omega) hi (by omega)
    omega
  have h1:=key 65535 hlt
  have h2:=(hn _ (List.getElem_mem hlt)).2
  omega
 ·exact hge
theorem c8o {p:A6} (hp:OkX p):∀(n:Nat) (t:Int) (x:A0),NfV p n t x ->(b0j p n t x).size<=1000000*wtV x
 |0,t,x,h=>h.elim
 |n+1,t,x,⟨g,hgt,ht,hx,hm⟩=>by
  have hg:g∈p.Progs:=List.mem_of_getElem? hgt
  have h1:=b70 (c8o hp n) g.Ops x.Slots hm
  have h2:=f69 hp hg
  have e:=b8k x
  simp only [b0j,hgt]
  omega
section
variable {p:A6} (hp:OkX p)
variable {W:d3x} {B:Int ->A0 ->Prop} (hW:∀(t:Int) (x:A0) (out:List Int),B t x ->out.length+(W t x).size<=140737488355328 ->X2 ⟨p,out⟩ t x ⟨p,out++bI (W t x)⟩)
theorem c2w (out:List Int) (s:ByteArray) (h:out.length+s.size<=140737488355328):U8 ⟨p,out⟩ s ⟨p,out++bI s⟩:=
 b9r _ _ _ ⟨by rw [a90]; simpa using h,rfl⟩
 include hW
theorem d2f (out:List Int) (o:GOp) (y:A0) (hy:OkV y) (hb:o.Kind=10 ->B o.Target y) (h:out.length+(b3d W o y).size<=140737488355328):W3 ⟨p,out⟩ o y ⟨p,out++bI (b3d W o y)⟩:=by
 unfold b3d at h ⊢
 refine b6n _ _ _ _ ⟨fun hk=> ?_,fun hk=>⟨_,d4x y hy, ?_⟩⟩
 ·have hk':o.Kind=10:=by simpa using hk
  rw [if_pos hk'] at h ⊢
  exact ⟨_,hW _ y out (hb hk') h,rfl⟩
 ·have hk':¬o.Kind=10:=by simpa using hk
  rw [if_neg hk'] at h ⊢
  exact ⟨_,c2w out _ h,rfl⟩
variable {g:C1} {x:A0} {r:D4}
theorem f10 (i at_:Nat) (hi:i<=140737488351232) (o:GOp) (l:List A0) (hl:l.length<=140737488351232) (hv:∀y∈l,OkV y /\ (o.Kind=10 ->B o.Target y)):∀d k (out:List Int),l.length - k<=d ->k<=l.length ->out.length+(c4a ((l.drop k).map (b3d W o))).size<=140737488355328 ->C3 ((i+1:Nat):Int) g at_ p.Progs p.Enums (out++bI (c4a ((l.drop k).map (b3d W o)))) x r ->Q0 k l at_ i g p.Progs p.Enums out x o r:=by
 have e0:wI ((i:Int)+1)=((i+1:Nat):Int):=by rw [wI,D2 (by omega)]; omega
 have fin:∀(out:List Int),C3 ((i+1:Nat):Int) g at_ p.Progs p.Enums (out++bI (c4a ((l.drop l.length).map (b3d W o)))) x r ->Q0 (l.length:Nat) l at_ i g p.Progs p.Enums out x o r:=by
  intro out h
  rw [List.drop_length] at h
  refine a1w _ _ _ _ _ _ _ _ _ _ _ ⟨fun h=>by simp at h,fun _=> ?_⟩
  rw [e0]
  have e:bI (c4a (List.map (b3d W o) []))=[]:=rfl
  rw [e,List.append_nil] at h
  exact h
 intro d
 induction d with
 |zero=>
  intro k out hd hk _ h
  have e:k=l.length:=by omega
  subst e
  exact fin out h
 |succ d ih=>
  intro k out hd hk hsz h
  rcases Nat.lt_or_ge k l.length with hlt|hge
  ·have e1:wI ((k:Int)+1)=((k+1:Nat):Int):=by rw [wI,D2 (by omega)]; omega
   have dl:l.drop k=l[k]::l.drop (k+1):=List.drop_eq_getElem_cons hlt
   have hx:=hv _ (List.getElem_mem hlt)
   rw [dl,List.map_cons,c4a] at h hsz
   rw [I9] at hsz
   rw [b0h,<-List.append_assoc] at h
   refine a1w _ _ _ _ _ _ _ _ _ _ _ ⟨fun _=>⟨l[k],by simp,by omega,_,d2f hW out o _ hx.1 hx.2 (by omega), ?_⟩,fun h=>by simp at h; omega⟩
   rw [e1]
   exact ih (k+1) _ (by omega) (by omega) (by rw [List.length_append,a90]; omega) h
  ·have e:k=l.length:=by omega
   subst e
   exact fin out h
theorem e5m (i at_:Nat) (hi:i<=140737488351232) (o:GOp) (l:List (A0 × A0)) (hl:l.length<=140737488351232) (hv:∀y∈l,OkV y.1 /\ OkV y.2 /\ (o.Kind=10 ->B o.Target y.2)):∀d k (out:List Int),l.length - k<=d ->k<=l.length ->out.length+(c4a ((l.drop k).map (c4u W o))).size<=140737488355328 ->C3 ((i+1:Nat):Int) g at_ p.Progs p.Enums (out++bI (c4a ((l.drop k).map (c4u W o)))) x r ->Q4 k l at_ i g p.Progs p.Enums out x o r:=by
 have e0:wI ((i:Int)+1)=((i+1:Nat):Int):=by rw [wI,D2 (by omega)]; omega
 have fin:∀(out:List Int),C3 ((i+1:Nat):Int) g at_ p.Progs p.Enums (out++bI (c4a ((l.drop l.length).map (c4u W o)))) x r ->Q4 (l.length:Nat) l at_ i g p.Progs p.Enums out x o r:=by
  intro out h
  rw [List.drop_length] at h
  refine a1u _ _ _ _ _ _ _ _ _ _ _ ⟨fun h=>by simp at h,fun _=> ?_⟩
  rw [e0]
  have e:bI (c4a (List.map (c4u W o) []))=[]:=rfl
  rw [e,List.append_nil] at h
  exact h
 intro d
 induction d with
 |zero=>
  intro k out hd hk _ h
  have e:k=l.length:=by omega
  subst e
  exact fin out h
 |succ d ih=>
  intro k out hd hk hsz h
  rcases Nat.lt_or_ge k l.length with hlt|hge
  ·have e1:wI ((k:Int)+1)=((k+1:Nat):Int):=by rw [wI,D2 (by omega)]; omega
   have dl:l.drop k=l[k]::l.drop (k+1):=List.drop_eq_getElem_cons hlt
   have hx:=hv _ (List.getElem_mem hlt)
   rw [dl,List.map_cons,c4a,c4u,a89] at h hsz
   rw [I9,I9] at hsz
   rw [b0h,b0h,<-List.append_assoc,<-List.append_assoc] at h
   refine a1u _ _ _ _ _ _ _ _ _ _ _ ⟨fun _=>⟨l[k],by simp,by omega,_,d4x _ hx.1,_,c2w out _ (by omega),_,d2f hW _ o _ hx.2.1 hx.2.2 (by rw [List.length_append,a90]; omega), ?_⟩,fun h=>by simp at h; omega⟩
   rw [e1]
   exact ih (k+1) _ (by omega) (by omega) (by rw [List.length_append,List.length_append,a90,a90]; omega) h
  ·have e:k=l.length:=by omega
   subst e
   exact fin out h
theorem g08 (i at_:Nat) (hi:i<=140737488351232) (o:GOp) (z:A0) (set:Bool) (hz:set=true ->NfF B o z) (h0:set=false ->z=V0 /\ o.Card≠1) (out:List Int) (hsz:out.length+(c1p W o z set).size<=140737488355328) (h:C3 ((i+1:Nat):Int) g at_ p.Progs p.Enums (out++bI (c1p W o z set)) x r):Q3 at_ set i g p.Progs p.Enums out x o z.Kind z.Bits z.Text z.List_ z.Pairs z.Slots z.Raws r:=by
 have e0:wI ((i:Int)+1)=((i+1:Nat):Int):=by rw [wI,D2 (by omega)]; omega
 have hok:OkD z:=by
  rcases Bool.eq_false_or_eq_true set with q|q
  ·exact (hz q).1
  ·rw [(h0 q).1]
   have zz:Sz 0:=Nat.zero_le _
   exact .mk _ (show I64 0 from ⟨by decide,by decide⟩) (show U64 0 from ⟨by decide,by decide⟩) zz zz zz zz zz (fun x hx=>by cases hx) (fun x hx=>by cases hx) (fun x hx=>by cases hx) (fun x hx=>by cases hx) (fun x hx=>by cases hx) (fun x hx=>by cases hx) ⟨zz,zz,zz,zz⟩
 obtain ⟨_,_,⟨la,pa,sa,ra⟩,hl,hps,hs⟩:=hok.inv
 have b1:=D1 la; have b2:=D1 pa
 unfold c1p at hsz h
 have ev1:a2i (wU (z.List_.length:Int)) (c3q z.List_.length):=by
  have:=d45 z.List_.length (by omega)
  rwa [show ((z.List_.length:Nat):Int)=wU (z.List_.length:Int) by rw [wU,b0n (by omega)]] at this
 have ev2:a2i (wU (z.Pairs.length:Int)) (c3q z.Pairs.length):=by
  have:=d45 z.Pairs.length (by omega)
  rwa [show ((z.Pairs.length:Nat):Int)=wU (z.Pairs.length:Int) by rw [wU,b0n (by omega)]] at this
 refine b0e _ _ _ _ _ _ _ _ _ _ _ _ _ _ _ _ _ ⟨fun h1=> ?_,fun h1=>⟨fun h4=>⟨_,ev1, ?_⟩,fun h4=>⟨fun h5=>⟨_,ev2, ?_⟩,fun h5=>⟨fun hs=> ?_,fun hs=> ?_⟩⟩⟩⟩
 ·have hc:o.Card=1:=by simpa using h1
  rw [if_neg (by omega),if_neg (by omega),if_pos hc] at hsz h
  have hset:set=true:=by
   rcases Bool.eq_false_or_eq_true set with q|q
   ·exact q
   ·exact absurd hc (h0 q).2
  refine ⟨_,d2f hW out o z hok.okv ((hz hset).2.2.2 (by omega) (by omega)) hsz, ?_⟩
  rw [e0]; exact h
 all_goals (have h1':¬o.Card=1:=by simpa using h1)
 ·have hc:o.Card=4:=by simpa using h4
  rw [if_pos hc] at hsz h
  rw [I9] at hsz
  rw [b0h,<-List.append_assoc] at h
  have hv:∀y∈z.List_,OkV y /\ (o.Kind=10 ->B o.Target y):=fun y hy=>⟨(hl y hy).okv,fun hk=>by
   rcases Bool.eq_false_or_eq_true set with q|q
   ·exact (hz q).2.1 hc y hy hk
   ·rw [(h0 q).1] at hy; cases hy⟩
  refine ⟨_,c2w out _ (by omega), ?_⟩
  exact f10 hW i at_ hi o z.List_ b1 hv _ 0 _ (Nat.le_refl _) (by omega) (by rw [List.length_append,a90,List.drop_zero]; omega) (by rw [List.drop_zero]; exact h)
 all_goals (have h4':¬o.Card=4:=by simpa using h4)
 ·have hc:o.Card=5:=by simpa using h5
  rw [if_neg h4',if_pos hc] at hsz h
  rw [I9] at hsz
  rw [b0h,<-List.append_assoc] at h
  have hv:∀y∈z.Pairs,OkV y.1 /\ OkV y.2 /\ (o.Kind=10 ->B o.Target y.2):=fun y hy=>⟨(hps y hy).1.okv,(hps y hy).2.okv,fun hk=>by
   rcases Bool.eq_false_or_eq_true set with q|q
   ·exact (hz q).2.2.1 hc y hy hk
   ·rw [(h0 q).1] at hy; cases hy⟩
  refine ⟨_,c2w out _ (by omega), ?_⟩
  exact e5m hW i at_ hi o z.Pairs b2 hv _ 0 _ (Nat.le_refl _) (by omega) (by rw [List.length_append,a90,List.drop_zero]; omega) (by rw [List.drop_zero]; exact h)
 all_goals (have h5':¬o.Card=5:=by simpa using h5)
 all_goals rw [if_neg h4',if_neg h5',if_neg h1'] at hsz h
 ·have q:set=false:=by simpa using hs
  rw [if_neg (by simp [q])] at hsz h
  refine ⟨_,c2w out _ hsz, ?_⟩
  rw [e0]; exact h
 ·have q:set=true:=by simpa using hs
  rw [if_pos q] at hsz h
  rw [I9] at hsz
  rw [b0h,<-List.append_assoc] at h
  refine ⟨_,c2w out _ (by omega),_,d2f hW _ o z hok.okv ((hz q).2.2.2 h4' h5') (by rw [List.length_append,a90]; omega), ?_⟩
  rw [e0]; exact h
theorem f6r (hg:g.Ops.length<=140737488351232) (hxs:x.Slots.length<=140737488351232):∀d i at_ (out:List Int),g.Ops.length - i<=d ->i<=g.Ops.length ->at_<=x.Slots.length ->c00 (NfF B) (g.Ops.drop i) (x.Slots.drop at_) ->out.length+(a6y W (g.Ops.drop i) (x.Slots.drop at_)).size<=140737488355328 ->r=⟨p,out++bI (a6y W (g.Ops.drop i) (x.Slots.drop at_))⟩ ->C3 i g at_ p.Progs p.Enums out x r:=by
 have fin:∀at_ (out:List Int),r=⟨p,out++bI (a6y W (g.Ops.drop g.Ops.length) (x.Slots.drop at_))⟩ ->C3 (g.Ops.length:Nat) g at_ p.Progs p.Enums out x r:=by
  intro at_ out h
  rw [List.drop_length] at h
  have e:bI (a6y W [] (x.Slots.drop at_))=[]:=by cases x.Slots.drop at_<;>rfl
  rw [e,List.append_nil] at h
  exact V6 _ _ _ _ _ _ _ _ ⟨fun h=>by simp at h,fun _=>h⟩
 intro d
 induction d with
 |zero=>
  intro i at_ out hd hi _ _ _ h
  have e:i=g.Ops.length:=by omega
  subst e
  exact fin at_ out h
 |succ d ih=>
  intro i at_ out hd hi hat hm hsz h
  rcases Nat.lt_or_ge i g.Ops.length with hlt|hge
  ·have dl:g.Ops.drop i=g.Ops[i]::g.Ops.drop (i+1):=List.drop_eq_getElem_cons hlt
   rw [dl] at hm hsz h
   -- what lies there,set or not
   have key:∀(at2:Nat) (z:A0) (set:Bool),at2<=x.Slots.length ->(set=true ->NfF B g.Ops[i] z) ->(set=false ->z=V0 /\ g.Ops[i].Card≠1) ->c00 (NfF B) (g.Ops.drop (i+1)) (x.Slots.drop at2) ->a6y W (g.Ops[i]::g.Ops.drop (i+1)) (x.Slots.drop at_)=c1p W g.Ops[i] z set++a6y W (g.Ops.drop (i+1)) (x.Slots.drop at2) ->Q3 at2 set i g p.Progs p.Enums out x g.Ops[i] z.Kind z.Bits z.Text z.List_ z.Pairs z.Slots z.Raws r:=by
    intro at2 z set h1 h2 h3 h4 h5
    rw [h5,I9] at hsz
    rw [h5,b0h,<-List.append_assoc] at h
    refine g08 hW i at2 (by omega) g.Ops[i] z set h2 h3 out (by omega) ?_
    exact ih (i+1) at2 _ (by omega) (by omega) h1 h4 (by rw [List.length_append,a90]; omega) h
   have e1:wI ((at_:Int)+1)=((at_+1:Nat):Int):=by rw [wI,D2 (by omega)]; omega
   rcases Nat.lt_or_ge at_ x.Slots.length with hs|hs
   ·have ds:x.Slots.drop at_=x.Slots[at_]::x.Slots.drop (at_+1):=List.drop_eq_getElem_cons hs
    rw [ds] at hm
    refine V6 _ _ _ _ _ _ _ _ ⟨fun _=>⟨g.Ops[i],by simp,by omega,fun b=>b=(x.Slots[at_].1==g.Ops[i].Num),fun b hb=>⟨fun h6=>⟨x.Slots[at_],by simp,by omega, ?_⟩,fun h6=> ?_⟩,fun _=>⟨x.Slots[at_],by simp,by omega,rfl⟩,fun h6=>by simp at h6; omega⟩,fun h=>by simp at h; omega⟩
    ·have he:x.Slots[at_].1=g.Ops[i].Num:=by rw [h6] at hb; simpa using hb.symm
     obtain ⟨q1,q2⟩:=hm.1 he
     rw [e1]
     subst h6
     refine key (at_+1) x.Slots[at_].2 true hs (fun _=>q1) (fun h=>by cases h) q2 ?_
     rw [ds]; simp only [a6y]; rw [if_pos he]
    ·have he:x.Slots[at_].1≠g.Ops[i].Num:=by rw [h6] at hb; simpa using hb.symm
     obtain ⟨q1,q2⟩:=hm.2 he
     subst h6
     refine key at_ V0 false hat (fun h=>by cases h) (fun _=>⟨rfl,q1⟩) (by rw [ds]; exact q2) ?_
     rw [ds]; simp only [a6y]; rw [if_neg he]
   ·have ds:x.Slots.drop at_=[]:=List.drop_eq_nil_of_le hs
    rw [ds] at hm
    refine V6 _ _ _ _ _ _ _ _ ⟨fun _=>⟨g.Ops[i],by simp,by omega,fun b=>b=false,fun b hb=>⟨fun h6=> ?_,fun h6=> ?_⟩,fun h6=>by simp at h6; omega,fun _=>rfl⟩,fun h=>by simp at h; omega⟩
    ·rw [h6] at hb; cases hb
    ·subst hb
     refine key at_ V0 false hat (fun h=>by cases h) (fun _=>⟨rfl,hm.1⟩) (by rw [ds]; exact hm.2) ?_
     rw [ds]; simp only [a6y]
  ·have e:i=g.Ops.length:=by omega
   subst e
   exact fin at_ out h
end
theorem d5q {p:A6} (hp:OkX p):∀(n:Nat) (t:Int) (x:A0) (out:List Int),NfV p n t x ->out.length+(b0j p n t x).size<=140737488355328 ->X2 ⟨p,out⟩ t x ⟨p,out++bI (b0j p n t x)⟩
 |0,t,x,out,h,_=>h.elim
 |n+1,t,x,out,⟨g,hgt,ht,hx,hm⟩,hsz=>by
  have hg:g∈p.Progs:=List.mem_of_getElem? hgt
  have e:b0j p (n+1) t x=a6y (b0j p n) g.Ops x.Slots:=by simp only [b0j,hgt]
  rw [e] at hsz ⊢
  refine b4q _ _ _ _ ⟨g,hgt,ht, ?_⟩
  exact f6r (B:=NfV p n) (fun t x out hb hs=>d5q hp n t x out hb hs) (hp.ops hg) (D1 hx.okv.s) _ 0 0 out (Nat.le_refl _) (by omega) (by omega) (by rw [List.drop_zero,List.drop_zero]; exact hm) (by rw [List.drop_zero,List.drop_zero]; exact hsz) (by rw [List.drop_zero,List.drop_zero])
def d8o (num:Int):List (Int × A0) ->A0 × Bool
 |[]=>(V0,false)
 |s::S=>if (s.1==num)=true then (s.2,true) else d8o num S
theorem f9m (v:A0) (hv:v.Slots.length<=140737488351232) (num:Int):c8t v num (d8o num v.Slots):=by
 have key:∀d i,v.Slots.length - i<=d ->i<=v.Slots.length ->b19 i num v (d8o num (v.Slots.drop i)):=by
  intro d
  induction d with
  |zero=>
   intro i hd hi
   exact a6z _ _ _ _ ⟨fun h=>by simp at h; omega,fun _=>by rw [List.drop_eq_nil_of_le (by omega)]; rfl⟩
  |succ d ih=>
   intro i hd hi
   rcases Nat.lt_or_ge i v.Slots.length with hlt|hge
   ·have e1:wI ((i:Int)+1)=((i+1:Nat):Int):=by rw [wI,D2 (by omega)]; omega
    have dl:v.Slots.drop i=v.Slots[i]::v.Slots.drop (i+1):=List.drop_eq_getElem_cons hlt
    refine a6z _ _ _ _ ⟨fun _=>⟨v.Slots[i],by simp,by omega,fun h=>⟨v.Slots[i],by simp,by omega, ?_⟩,fun h=> ?_⟩,fun h=>by simp at h; omega⟩
    ·rw [dl,d8o,if_pos h]
    ·rw [dl,d8o,if_neg (nt h),e1]
     exact ih (i+1) (by omega) (by omega)
   ·exact a6z _ _ _ _ ⟨fun h=>by simp at h; omega,fun _=>by rw [List.drop_eq_nil_of_le hge]; rfl⟩
 exact d0t _ _ _ (key _ 0 (Nat.le_refl _) (by omega))
theorem d54 {num:Int}:∀{pre S:List (Int × A0)},(∀s∈pre,s.1≠num) ->d8o num (pre++S)=d8o num S
 |[],_,_=>rfl
 |x::pre,S,h=>by
  simp only [List.cons_append,d8o]
  rw [if_neg (by simpa using h x (by simp))]
  exact d54 fun s hs=>h s (by simp [hs])
theorem d3w {num:Int}:∀{S:List (Int × A0)},(∀s∈S,s.1≠num) ->d8o num S=(V0,false)
 |[],_=>rfl
 |x::S,h=>by
  simp only [d8o]
  rw [if_neg (by simpa using h x (by simp))]
  exact d3w fun s hs=>h s (by simp [hs])
theorem c9s {R:GOp ->A0 ->Prop}:∀{ops:List GOp} {S:List (Int × A0)},c00 R ops S ->∀s∈S,∃q∈ops,q.Num=s.1
 |[],S,h,s,hs=>by rw [h] at hs; cases hs
 |o::ops,[],h,s,hs=>by cases hs
 |o::ops,x::S,h,s,hs=>by
  by_cases e:x.1=o.Num
  ·rcases List.mem_cons.1 hs with h1|h1
   ·subst h1; exact ⟨o,by simp,e.symm⟩
   ·obtain ⟨q,hq,he⟩:=c9s (h.1 e).2 s h1
    exact ⟨q,by simp [hq],he⟩
  ·obtain ⟨q,hq,he⟩:=c9s (h.2 e).2 s hs
   exact ⟨q,by simp [hq],he⟩
section
variable {p:A6} (hp:OkX p)
variable {W:d3x} {B:Int ->A0 ->Prop} (hW:∀(t:Int) (x:A0),B t x ->b3y p t x (W t x))
 include hW
theorem d19 (o:GOp) (y:A0) (hy:OkV y) (hb:o.Kind=10 ->B o.Target y):a2k p o y (b3d W o y):=by
 unfold b3d
 refine c1i _ _ _ _ ⟨fun hk=> ?_,fun hk=>⟨_,d1v y hy, ?_⟩⟩
 ·have hk':o.Kind=10:=by simpa using hk
  rw [if_pos hk']
  exact ⟨_,hW _ y (hb hk'),rfl⟩
 ·rw [if_neg (by simpa using hk)]
variable {t:Int} {x:A0} {r:ByteArray}
theorem e9p (i:Nat) (hi:i<=140737488351232) (o:GOp) (z:A0 × Bool) (hl:z.1.List_.length<=140737488351232) (hv:∀y∈z.1.List_,OkV y /\ (o.Kind=10 ->B o.Target y)):∀d k (out:ByteArray),z.1.List_.length - k<=d ->k<=z.1.List_.length ->out.size+(c4a ((z.1.List_.drop k).map (b3d W o))).size<=140737488355328 ->H0 ((i+1:Nat):Int) (out++c4a ((z.1.List_.drop k).map (b3d W o))) t p x r ->a5s k out i t p x o z r:=by
 have e0:wI ((i:Int)+1)=((i+1:Nat):Int):=by rw [wI,D2 (by omega)]; omega
 have fin:∀(out:ByteArray),H0 ((i+1:Nat):Int) (out++c4a ((z.1.List_.drop z.1.List_.length).map (b3d W o))) t p x r ->a5s (z.1.List_.length:Nat) out i t p x o z r:=by
  intro out h
  rw [List.drop_length,List.map_nil,c4a,e7n] at h
  refine b1w _ _ _ _ _ _ _ _ _ ⟨fun h=>by simp at h,fun _=> ?_⟩
  rw [e0]; exact h
 intro d
 induction d with
 |zero=>
  intro k out hd hk _ h
  have e:k=z.1.List_.length:=by omega
  subst e
  exact fin out h
 |succ d ih=>
  intro k out hd hk hsz h
  rcases Nat.lt_or_ge k z.1.List_.length with hlt|hge
  ·have e1:wI ((k:Int)+1)=((k+1:Nat):Int):=by rw [wI,D2 (by omega)]; omega
   have dl:z.1.List_.drop k=z.1.List_[k]::z.1.List_.drop (k+1):=List.drop_eq_getElem_cons hlt
   have hx:=hv _ (List.getElem_mem hlt)
   rw [dl,List.map_cons,c4a] at h hsz
   rw [I9] at hsz
   rw [<-a89] at h
   refine b1w _ _ _ _ _ _ _ _ _ ⟨fun _=>⟨z.1.List_[k],by simp,by omega,_,d19 hW o _ hx.1 hx.2,by omega, ?_⟩,fun h=>by simp at h; omega⟩
   rw [e1]
   exact ih (k+1) _ (by omega) (by omega) (by rw [I9]; omega) h
  ·have e:k=z.1.List_.length:=by omega
   subst e
   exact fin out h
theorem e0t (i:Nat) (hi:i<=140737488351232) (o:GOp) (z:A0 × Bool) (hl:z.1.Pairs.length<=140737488351232) (hv:∀y∈z.1.Pairs,OkV y.1 /\ OkV y.2 /\ (o.Kind=10 ->B o.Target y.2)):∀d k (out:ByteArray),z.1.Pairs.length - k<=d ->k<=z.1.Pairs.length ->out.size+(c4a ((z.1.Pairs.drop k).map (c4u W o))).size<=140737488355328 ->H0 ((i+1:Nat):Int) (out++c4a ((z.1.Pairs.drop k).map (c4u W o))) t p x r ->a3n k out i t p x o z r:=by
 have e0:wI ((i:Int)+1)=((i+1:Nat):Int):=by rw [wI,D2 (by omega)]; omega
 have fin:∀(out:ByteArray),H0 ((i+1:Nat):Int) (out++c4a ((z.1.Pairs.drop z.1.Pairs.length).map (c4u W o))) t p x r ->a3n (z.1.Pairs.length:Nat) out i t p x o z r:=by
  intro out h
  rw [List.drop_length,List.map_nil,c4a,e7n] at h
  refine a93 _ _ _ _ _ _ _ _ _ ⟨fun h=>by simp at h,fun _=> ?_⟩
  rw [e0]; exact h
 intro d
 induction d with
 |zero=>
  intro k out hd hk _ h
  have e:k=z.1.Pairs.length:=by omega
  subst e
  exact fin out h
 |succ d ih=>
  intro k out hd hk hsz h
  rcases Nat.lt_or_ge k z.1.Pairs.length with hlt|hge
  ·have e1:wI ((k:Int)+1)=((k+1:Nat):Int):=by rw [wI,D2 (by omega)]; omega
   have dl:z.1.Pairs.drop k=z.1.Pairs[k]::z.1.Pairs.drop (k+1):=List.drop_eq_getElem_cons hlt
   have hx:=hv _ (List.getElem_mem hlt)
   rw [dl,List.map_cons,c4a,c4u,a89] at h hsz
   rw [I9,I9] at hsz
   rw [<-a89,<-a89] at h
   refine a93 _ _ _ _ _ _ _ _ _ ⟨fun _=>⟨z.1.Pairs[k],by simp,by omega,_,d1v _ hx.1,by omega,z.1.Pairs[k],by simp,by omega,_,d19 hW o _ hx.2.1 hx.2.2,by rw [I9]; omega, ?_⟩,fun h=>by simp at h; omega⟩
   rw [e1]
   exact ih (k+1) _ (by omega) (by omega) (by rw [I9,I9]; omega) h
  ·have e:k=z.1.Pairs.length:=by omega
   subst e
   exact fin out h
variable {g:C1} (hgt:p.Progs[t.toNat]? =some g) (ht:0<=t) (hg:g.Ops.length<=140737488351232) (hxs:x.Slots.length<=140737488351232)
 include hgt ht hg hxs
theorem f7s:∀d i at_ (out:ByteArray),g.Ops.length - i<=d ->i<=g.Ops.length ->at_<=x.Slots.length ->g.Ops.Pairwise (fun a b=>a.Num<b.Num) ->(∀s∈x.Slots.take at_,∀q∈g.Ops.drop i,s.1≠q.Num) ->c00 (NfF B) (g.Ops.drop i) (x.Slots.drop at_) ->out.size+(a6y W (g.Ops.drop i) (x.Slots.drop at_)).size<=140737488355328 ->r=out++a6y W (g.Ops.drop i) (x.Slots.drop at_) ->H0 i out t p x r:=by
 have fin:∀at_ (out:ByteArray),r=out++a6y W (g.Ops.drop g.Ops.length) (x.Slots.drop at_) ->H0 (g.Ops.length:Nat) out t p x r:=by
  intro at_ out h
  rw [List.drop_length] at h
  have e:a6y W [] (x.Slots.drop at_)=⟨#[]⟩:=by cases x.Slots.drop at_<;>rfl
  rw [e,e7n] at h
  exact b17 _ _ _ _ _ _ ⟨g,hgt,ht,fun h=>by simp at h,fun _=>h⟩
 intro d
 induction d with
 |zero=>
  intro i at_ out hd hi _ _ _ _ _ h
  have e:i=g.Ops.length:=by omega
  subst e
  exact fin at_ out h
 |succ d ih=>
  intro i at_ out hd hi hat hasc hpre hm hsz h
  rcases Nat.lt_or_ge i g.Ops.length with hlt|hge
  ·have dl:g.Ops.drop i=g.Ops[i]::g.Ops.drop (i+1):=List.drop_eq_getElem_cons hlt
   have hasc2:∀q∈g.Ops.drop (i+1),g.Ops[i].Num<q.Num:=by
    have:=(hasc.drop (i:=i))
    rw [dl] at this
    exact (List.pairwise_cons.1 this).1
   rw [dl] at hm hsz h hpre
   have e0:wI ((i:Int)+1)=((i+1:Nat):Int):=by rw [wI,D2 (by omega)]; omega
   have hsplit:d8o g.Ops[i].Num x.Slots=d8o g.Ops[i].Num (x.Slots.drop at_):=by
    have:=d54 (num:=g.Ops[i].Num) (pre:=x.Slots.take at_) (S:=x.Slots.drop at_) fun s hs=>hpre s hs _ List.mem_cons_self
    rwa [List.take_append_drop] at this
   have key:∀(at2:Nat) (z:A0) (set:Bool),at2<=x.Slots.length ->d8o g.Ops[i].Num x.Slots=(z,set) ->(∀s∈x.Slots.take at2,∀q∈g.Ops.drop (i+1),s.1≠q.Num) ->(set=true ->NfF B g.Ops[i] z) ->(set=false ->z=V0 /\ g.Ops[i].Card≠1) ->c00 (NfF B) (g.Ops.drop (i+1)) (x.Slots.drop at2) ->a6y W (g.Ops[i]::g.Ops.drop (i+1)) (x.Slots.drop at_)=c1p W g.Ops[i] z set++a6y W (g.Ops.drop (i+1)) (x.Slots.drop at2) ->H0 i out t p x r:=by
    intro at2 z set h1 hget hpre2 hz h0 h4 h5
    rw [h5,I9] at hsz
    rw [h5,<-a89] at h
    have next:H0 ((i+1:Nat):Int) (out++c1p W g.Ops[i] z set) t p x r:=
     ih (i+1) at2 _ (by omega) (by omega) h1 hasc hpre2 h4 (by rw [I9]; omega) h
    clear ih h5 h
    have hok:OkD z:=by
     rcases Bool.eq_false_or_eq_true set with q|q
     ·exact (hz q).1
     ·rw [(h0 q).1]
      have zz:Sz 0:=Nat.zero_le _
      exact .mk _ (show I64 0 from ⟨by decide,by decide⟩) (show U64 0 from ⟨by decide,by decide⟩) zz zz zz zz zz (fun x hx=>by cases hx) (fun x hx=>by cases hx) (fun x hx=>by cases hx) (fun x hx=>by cases hx) (fun x hx=>by cases hx) (fun x hx=>by cases hx) ⟨zz,zz,zz,zz⟩
    obtain ⟨_,_,⟨la,pa,sa,ra⟩,hl,hps,hs⟩:=hok.inv
    have b1:=D1 la; have b2:=D1 pa
    have ev1:a49 (wU (z.List_.length:Int)) (c3q z.List_.length):=by
     have:=c78 z.List_.length (by omega)
     rwa [show ((z.List_.length:Nat):Int)=wU (z.List_.length:Int) by rw [wU,b0n (by omega)]] at this
    have ev2:a49 (wU (z.Pairs.length:Int)) (c3q z.Pairs.length):=by
     have:=c78 z.Pairs.length (by omega)
     rwa [show ((z.Pairs.length:Nat):Int)=wU (z.Pairs.length:Int) by rw [wU,b0n (by omega)]] at this
    have hgv:=f9m x hxs g.Ops[i].Num
    rw [hget] at hgv
    unfold c1p at hsz next
    refine b17 _ _ _ _ _ _ ⟨g,hgt,ht,fun _=>⟨g,hgt,ht,g.Ops[i],by simp,by omega,(z,set),hgv,fun h4=>⟨_,ev1, ?_, ?_⟩,fun h4=>⟨fun h5=>⟨_,ev2, ?_, ?_⟩,fun h5=>⟨fun h1=> ?_,fun h1=>⟨fun hs=> ?_,fun hs=> ?_⟩⟩⟩⟩,fun h=>by simp at h; omega⟩
    ·have hc:g.Ops[i].Card=4:=by simpa using h4
     rw [if_pos hc,I9] at hsz
     omega
    ·have hc:g.Ops[i].Card=4:=by simpa using h4
     rw [if_pos hc,I9] at hsz
     rw [if_pos hc,<-a89] at next
     have hv:∀y∈z.List_,OkV y /\ (g.Ops[i].Kind=10 ->B g.Ops[i].Target y):=fun y hy=>⟨(hl y hy).okv,fun hk=>by
      rcases Bool.eq_false_or_eq_true set with q|q
      ·exact (hz q).2.1 hc y hy hk
      ·rw [(h0 q).1] at hy; cases hy⟩
     exact e9p hW i (by omega) g.Ops[i] (z,set) b1 hv _ 0 _ (Nat.le_refl _) (by omega) (by rw [I9,List.drop_zero]; dsimp only; omega) (by rw [List.drop_zero]; exact next)
    all_goals (have h4':¬g.Ops[i].Card=4:=by simpa using h4)
    ·have hc:g.Ops[i].Card=5:=by simpa using h5
     rw [if_neg h4',if_pos hc,I9] at hsz
     omega
    ·have hc:g.Ops[i].Card=5:=by simpa using h5
     rw [if_neg h4',if_pos hc,I9] at hsz
     rw [if_neg h4',if_pos hc,<-a89] at next
     have hv:∀y∈z.Pairs,OkV y.1 /\ OkV y.2 /\ (g.Ops[i].Kind=10 ->B g.Ops[i].Target y.2):=fun y hy=>⟨(hps y hy).1.okv,(hps y hy).2.okv,fun hk=>by
      rcases Bool.eq_false_or_eq_true set with q|q
      ·exact (hz q).2.2.1 hc y hy hk
      ·rw [(h0 q).1] at hy; cases hy⟩
     exact e0t hW i (by omega) g.Ops[i] (z,set) b2 hv _ 0 _ (Nat.le_refl _) (by omega) (by rw [I9,List.drop_zero]; dsimp only; omega) (by rw [List.drop_zero]; exact next)
    all_goals (have h5':¬g.Ops[i].Card=5:=by simpa using h5)
    all_goals rw [if_neg h4',if_neg h5'] at hsz next
    ·have hc:g.Ops[i].Card=1:=by simpa using h1
     rw [if_pos hc] at hsz next
     have hset:set=true:=by
      rcases Bool.eq_false_or_eq_true set with q|q
      ·exact q
      ·exact absurd hc (h0 q).2
     refine ⟨_,d19 hW g.Ops[i] z hok.okv ((hz hset).2.2.2 h4' h5'),by omega, ?_⟩
     rw [e0]; exact next
    all_goals (have h1':¬g.Ops[i].Card=1:=by simpa using h1)
    all_goals rw [if_neg h1'] at hsz next
    ·have q:set=true:=hs
     rw [if_pos q,I9] at hsz
     rw [if_pos q,<-a89] at next
     refine ⟨by omega,_,d19 hW g.Ops[i] z hok.okv ((hz q).2.2.2 h4' h5'),by rw [I9]; omega, ?_⟩
     rw [e0]; exact next
    ·have q:set=false:=hs
     rw [if_neg (by simp [q])] at hsz next
     refine ⟨by omega, ?_⟩
     rw [e0]; exact next
   rcases Nat.lt_or_ge at_ x.Slots.length with hs|hs
   ·have ds:x.Slots.drop at_=x.Slots[at_]::x.Slots.drop (at_+1):=List.drop_eq_getElem_cons hs
    have hsub:=c9s hm
    rw [ds] at hm hsplit
    by_cases he:x.Slots[at_].1=g.Ops[i].Num
    ·obtain ⟨q1,q2⟩:=hm.1 he
     refine key (at_+1) x.Slots[at_].2 true hs ?_ (fun s hs2 q hq=> ?_) (fun _=>q1) (fun h=>by cases h) q2 ?_
     ·rw [hsplit]; simp only [d8o]; rw [if_pos (by simpa using he)]
     ·rw [List.take_succ_eq_append_getElem hs] at hs2
      rcases List.mem_append.1 hs2 with h6|h6
      ·exact hpre s h6 q (List.mem_cons_of_mem _ hq)
      ·have:=List.mem_singleton.1 h6
       subst this
       have:=hasc2 q hq
       omega
     ·rw [ds]; simp only [a6y]; rw [if_pos he]
    ·obtain ⟨q1,q2⟩:=hm.2 he
     refine key at_ V0 false hat ?_ (fun s hs2 q hq=>hpre s hs2 q (List.mem_cons_of_mem _ hq)) (fun h=>by cases h) (fun _=>⟨rfl,q1⟩) (by rw [ds]; exact q2) ?_
     ·rw [hsplit,<-ds]
      refine d3w fun s hs2=> ?_
      obtain ⟨q,hq,hn⟩:=c9s q2 s (by rw [<-ds]; exact hs2)
      have:=hasc2 q hq
      omega
     ·rw [ds]; simp only [a6y]; rw [if_neg he]
   ·have ds:x.Slots.drop at_=[]:=List.drop_eq_nil_of_le hs
    rw [ds] at hm hsplit
    refine key at_ V0 false hat ?_ (fun s hs2 q hq=>hpre s hs2 q (List.mem_cons_of_mem _ hq)) (fun h=>by cases h) (fun _=>⟨rfl,hm.1⟩) (by rw [ds]; exact hm.2) ?_
    ·rw [hsplit]; rfl
    ·rw [ds]; simp only [a6y]
  ·have e:i=g.Ops.length:=by omega
   subst e
   exact fin at_ out h
end
theorem c67 {R R':GOp ->A0 ->Prop}:∀{ops:List GOp} {S:List (Int × A0)},(∀s∈S,∀o,R o s.2 ->R' o s.2) ->c00 R ops S ->c00 R' ops S
 |[],S,_,h=>h
 |o::ops,[],hr,h=>⟨h.1,c67 hr h.2⟩
 |o::ops,x::S,hr,h=>⟨fun e=>⟨hr x (by simp) o (h.1 e).1,c67 (fun s hs=>hr s (by simp [hs])) (h.1 e).2⟩,fun e=>⟨(h.2 e).1,c67 hr (h.2 e).2⟩⟩
theorem d8c {p:A6} (hp:OkX p):∀(n:Nat) (t:Int) (x:A0),(NfV p n t x /\ wtV x<=134217728) ->b3y p t x (b0j p n t x)
 |0,t,x,h=>h.1.elim
 |n+1,t,x,⟨⟨g,hgt,ht,hx,hm⟩,hwt⟩=>by
  have hg:g∈p.Progs:=List.mem_of_getElem? hgt
  have hsz:=c8o hp (n+1) t x ⟨g,hgt,ht,hx,hm⟩
  have e:b0j p (n+1) t x=a6y (b0j p n) g.Ops x.Slots:=by simp only [b0j,hgt]
  rw [e] at hsz ⊢
  refine c7u _ _ _ _ ?_
  have hm2:c00 (NfF fun t x=>NfV p n t x /\ wtV x<=134217728) g.Ops x.Slots:=c67 (fun s hs o ⟨h1,h2,h3,h4⟩=>by
   have a:=(e7k x).2.2 s hs
   obtain ⟨m1,m2,m3⟩:=e7k s.2
   exact ⟨h1,fun hc y hy hk=>⟨h2 hc y hy hk,by have:=m1 y hy; omega⟩,fun hc y hy hk=>⟨h3 hc y hy hk,by have:=m2 y hy; omega⟩,fun q4 q5 hk=>⟨h4 q4 q5 hk,by omega⟩⟩) hm
  exact f7s (B:=fun t x=>NfV p n t x /\ wtV x<=134217728) (d8c hp n) hgt ht (hp.ops hg) (D1 hx.okv.s) _ 0 0 ⟨#[]⟩ (Nat.le_refl _) (by omega) (by omega) (c0r (hp.va.asc g hg)) (fun s hs=>by simp at hs) (by rw [List.drop_zero,List.drop_zero]; exact hm2) (by rw [List.drop_zero,List.drop_zero]; show 0+_<=_; omega) (by rw [List.drop_zero,List.drop_zero]; exact (ByteArray.empty_append).symm)
theorem f2i {R:GOp ->A0 ->Prop} (F:GOp ->List (Int × A0)):∀(ops:List GOp),ops.Pairwise (fun a b=>a.Num<b.Num) ->(∀o∈ops,(F o=[] /\ o.Card≠1)\/∃z,F o=[(o.Num,z)] /\ R o z) ->c00 R ops (ops.flatMap F)
 |[],_,_=>rfl
 |o::ops,hasc,h=>by
  obtain ⟨h1,h2⟩:=List.pairwise_cons.1 hasc
  have ih:=f2i F ops h2 fun q hq=>h q (by simp [hq])
  rw [List.flatMap_cons]
  rcases h o (by simp) with ⟨e,hc⟩|⟨z,e,hr⟩
  ·rw [e,List.nil_append]
   have hsub:=c9s ih
   generalize ops.flatMap F=S at ih hsub
   cases S with
   |nil=>exact ⟨hc,ih⟩
   |cons s S=>
    obtain ⟨q,hq,hn⟩:=hsub s (by simp)
    have:=h1 q hq
    exact ⟨fun he=>by omega,fun _=>⟨hc,ih⟩⟩
  ·rw [e]
   exact ⟨fun _=>⟨hr,ih⟩,fun he=>absurd rfl he⟩
theorem d9q {β:Type} (G:GOp ->Int × A0 ->List β) {o:GOp} {x:Int × A0}:∀{l:List (Int × A0)},g2p l ->x∈l ->x.1=o.Num ->c42 G l o=G o x
 |[],_,hx,_=>by cases hx
 |y::l,hd,hx,he=>by
  obtain ⟨h1,h2⟩:=List.pairwise_cons.1 hd
  rcases List.mem_cons.1 hx with h3|h3
  ·subst h3
   have:c42 G l o=[]:=c2f G fun z hz=>by have:=h1 z hz; omega
   unfold c42 at this ⊢
   rw [List.flatMap_cons,this,if_pos he,List.append_nil]
  ·have:=h1 x h3
   have ih:=d9q G h2 h3 he
   unfold c42 at ih ⊢
   rw [List.flatMap_cons,if_neg (by omega),List.nil_append]
   exact ih
section
variable {p:A6} (hp:OkX p)
 include hp
theorem e3d:∀(n:Nat) (t:Int) (g:C1) (v:A0) (lev:Int),p.Progs[t.toNat]? =some g ->0<=t ->OkD v ->SizeOf.sizeOf v<=n ->b3b p n t v lev=0 ->NfV p n t (W9 p n t v)
 |0,t,g,v,lev,_,_,_,h,_=>by have:=szV v; omega
 |n+1,t,g,v,lev,hgt,ht,hv,hn,hm=>by
  have hg:g∈p.Progs:=List.mem_of_getElem? hgt
  have hok:=c7w hp (n+1) t v hv
  obtain ⟨_,_,_,_,_,hs⟩:=hv.inv
  have e:W9 p (n+1) t v=c57 (W9 p n) g v:=by simp only [W9,hgt]
  simp only [b3b,hgt] at hm
  have hf:=e8c hm
  refine ⟨g,hgt,ht,hok, ?_⟩
  have hasc:=c0r (hp.va.asc g hg)
  have hT:=c40 (fun o x=>a8r (W9 p n) o x.1 x.2) g.Ops v.Slots hasc hf.diff fun x hx=>by
   obtain ⟨h1,h2⟩:=b6r (hf.known x hx)
   exact ⟨_,h2,h1⟩
  have es:(W9 p (n+1) t v).Slots=g.Ops.flatMap (c42 (fun o x=>a8r (W9 p n) o x.1 x.2) v.Slots):=by
   rw [e,hT]; rfl
  rw [es]
  refine f2i _ _ hasc fun o ho=> ?_
  by_cases hex:∃x∈v.Slots,x.1=o.Num
  ·obtain ⟨x,hx,he⟩:=hex
   rw [d9q _ hf.diff hx he]
   have h1:=hf.field x hx
   rw [he,f2s hp hg ho] at h1
   obtain ⟨f4,f5,f6⟩:=c73 h1
   have z1:=szS hx
   obtain ⟨_,_,_,q1,q2,_⟩:=(hs x hx).inv
   have ho':∀hk:o.Kind=10,∃g',p.Progs[o.Target.toNat]? =some g' /\ 0<=o.Target:=fun hk=>by
    obtain ⟨t0,t1,_⟩:=((hp.va.pro g hg).2 _ ho).msg hk
    have hlt:o.Target.toNat<p.Progs.length:=by omega
    exact ⟨_,List.getElem?_eq_getElem hlt,t0⟩
   have elem:∀y,OkD y ->SizeOf.sizeOf y<=n ->b3n (b3b p n) p o y lev=0 ->o.Kind=10 ->NfV p n o.Target (b1e (W9 p n) o y):=fun y hy hz h hk=>by
    obtain ⟨g',h1,h2⟩:=ho' hk
    rw [b1e,if_pos hk]
    exact e3d n o.Target g' y _ h1 h2 hy hz (c2n hp h hk)
   simp only [a8r]
   split
   ·refine .inr ⟨_,by rw [he],c7a (N:=W9 p n) (B:=fun _=>False) hp (fun _ _ _ _ _ hf=>hf.elim) (fun t v=>c7w hp n t v) o _ (hs x hx),fun hc y hy hk=> ?_,fun hc y hy hk=> ?_,fun h4 h5 hk=> ?_⟩
    ·rw [a91,if_pos hc] at hy
     obtain ⟨y',hy',rfl⟩:=List.mem_map.1 hy
     have:=elem y' (q1 y' hy') (by have:=szL hy'; omega) ((f4 hc).2.2 y' hy') hk
     rwa [b1e,if_pos hk] at this ⊢
    ·rw [a91,if_neg (by omega),if_pos hc] at hy
     obtain ⟨y',hy',rfl⟩:=List.mem_map.1 hy
     have hy2:=b28 hy'
     have:=elem y'.2 (q2 y' hy2).2 (by have:=szP hy2; omega) ((f5 hc).2.2.1 y' hy2).2 hk
     exact this
    ·have:=elem x.2 (hs x hx) (by omega) (f6 h4 h5) hk
     rw [a91,if_neg h4,if_neg h5]
     exact this
   ·rename_i hb
    refine .inl ⟨rfl,fun hc=>hb ?_⟩
    have:e8n o=false:=by unfold e8n; simp [hc]
    rw [this]; rfl
  ·refine .inl ⟨c2f _ fun x hx he=>hex ⟨x,hx,he⟩,fun hc=> ?_⟩
   obtain ⟨x,hx,he⟩:=hf.need o ho hc
   exact hex ⟨x,hx,he⟩
end
theorem c87 {α:Type} {c:α ->α ->Int} (f:α ->Nat) (x:α):∀l:List α,a59 f (a56 c x l)=f x+a59 f l
 |[]=>by simp [a56,a59]
 |y::l=>by
  simp only [a56]
  split
  ·simp only [a59,c87 f x l]; omega
  ·simp only [a59]
theorem c4i {α:Type} {c:α ->α ->Int} (f:α ->Nat):∀l:List α,a59 f (P8 c l)<=a59 f l
 |[]=>by simp [P8,a59]
 |x::l=>by
  have ih:=c4i (c:=c) f l
  simp only [P8]
  split
  ·rw [c87]; simp only [a59]; omega
  ·simp only [a59]; omega
theorem e7d {α:Type} {c:α ->α ->Int} (f:α ->Nat):∀l:List α,a59 f (sC c l)=a59 f l
 |[]=>rfl
 |x::l=>by rw [sC,c87,e7d f l]; rfl
theorem c8x {α:Type} (f:α ->Nat):∀l m:List α,a59 f (l++m)=a59 f l+a59 f m
 |[],m=>by simp [a59]
 |x::l,m=>by simp only [List.cons_append,a59,c8x f l m]; omega
theorem d4f {α β:Type} {f:β ->Nat} {g:α ->Nat} {h:α ->List β}:∀{l:List α},(∀x∈l,a59 f (h x)<=g x) ->a59 f (l.flatMap h)<=a59 g l
 |[],_=>by simp [a59]
 |x::l,hh=>by
  have h1:=hh x (by simp)
  have h2:=d4f (l:=l) fun y hy=>hh y (by simp [hy])
  rw [List.flatMap_cons,c8x]
  simp only [a59]
  omega
theorem d8f (v:A0):wtV (a40 v)=wtV v:=by
 unfold a40
 split
 ·rw [b8k,b8k]
 ·rfl
section
variable {N:d2q} (hN:∀t v,wtV (N t v)<=wtV v)
 include hN
theorem d15 (o:GOp) (v:A0):wtV (b1e N o v)<=wtV v:=by
 unfold b1e
 split
 ·exact hN _ _
 ·rw [d8f]; omega
theorem f0u (o:GOp) (v:A0):wtV (a91 N o v)<=wtV v:=by
 have e:=b8k v
 unfold a91
 split
 ·rw [b8k ⟨11,_,_,_,_,_,_⟩]
  have h:=c7x (l:=v.List_) (f:=fun x=>wtV (b1e N o x)) (g:=wtV) fun x _=>d15 hN o x
  have hs:(⟨#[]⟩:ByteArray).size=0:=rfl
  simp only [c2q,a59,hs]
  omega
 split
 ·rw [b8k ⟨12,_,_,_,_,_,_⟩]
  have h:=c7x (l:=b46 v.Pairs) (f:=fun x=>wtP (a40 x.1,b1e N o x.2)) (g:=wtP) fun x _=>by
   have a:=d15 hN o x.2
   have b:=d8f x.1
   simp only [wtP]; omega
  have h2:=c4i (c:=kc (SizeOf.sizeOf v.Pairs)) wtP v.Pairs
  have hs:(⟨#[]⟩:ByteArray).size=0:=rfl
  simp only [c2q,a59,hs]
  have e2:a59 wtP (b46 v.Pairs)<=a59 wtP v.Pairs:=h2
  omega
 ·exact d15 hN o v
theorem e91 (g:C1) (v:A0):wtV (c57 N g v)<=wtV v:=by
 have e:=b8k v
 have h:=d4f (l:=P8 kn v.Slots) (f:=wtS) (g:=wtS) (h:=fun x=>a8r N (opV g x.1).1 x.1 x.2) fun x _=>by
  have a:=f0u hN (opV g x.1).1 x.2
  simp only [a8r]
  split
  ·simp only [a59,wtS]; omega
  ·simp [a59]
 have h2:=c4i (c:=kn) wtS v.Slots
 have h3:=e7d (c:=kr) wtR v.Raws
 have hs:(⟨#[]⟩:ByteArray).size=0:=rfl
 rw [c57,b8k ⟨10,_,_,_,_,_,_⟩]
 simp only [a59,hs]
 omega
end
theorem d6u (p:A6):∀(n:Nat) (t:Int) (v:A0),wtV (W9 p n t v)<=wtV v
 |0,t,v=>by
  have e:=b8k v
  have:wtV (W9 p 0 t v)=7:=rfl
  omega
 |n+1,t,v=>by
  simp only [W9]
  split
  ·have e:=b8k v
   have:wtV (⟨0,0,⟨#[]⟩,[],[],[],[]⟩:A0)=7:=rfl
   omega
  ·exact e91 (d6u p n) _ v
theorem f3t {α:Type} (f:α ->Bool):∀(l:List α) (i:Int),0<=i ->c2u f l i<i+l.length
 |[],i,h=>by simp [c2u]; omega
 |x::l,i,h=>by
  have ih:=f3t f l (i+1) (by omega)
  by_cases e:f x=true
  ·have:c2u f (x::l) i=i:=by simp only [c2u]; rw [if_pos e]
   rw [this]; simp; omega
  ·have:c2u f (x::l) i=c2u f l (i+1):=by simp only [c2u]; rw [if_neg e]
   rw [this]; simp; omega
theorem e8e (p:A6) (name:ByteArray) (h:(b2x p name).2=true):0<=(b2x p name).1 /\ ∃g,p.Progs[(b2x p name).1.toNat]? =some g:=by
 have h1:0<=c2u (fun g:C1=>decide (g.Name=name)) p.Progs 0:=by simpa [b2x] using h
 have h2:=f3t (fun g:C1=>decide (g.Name=name)) p.Progs 0 (Int.le_refl _)
 have h3:(b2x p name).1=c2u (fun g:C1=>decide (g.Name=name)) p.Progs 0:=by simp only [b2x]; omega
 rw [h3]
 have hlt:(c2u (fun g:C1=>decide (g.Name=name)) p.Progs 0).toNat<p.Progs.length:=by omega
 exact ⟨h1,_,List.getElem?_eq_getElem hlt⟩
noncomputable def d8w (p:A6) (name:ByteArray) (v:A0):ByteArray × Int:=
 if (b2x p name).2=false then (⟨#[]⟩,10)
 else if c35 p (SizeOf.sizeOf v) (b2x p name).1 v≠0 then (⟨#[]⟩,c35 p (SizeOf.sizeOf v) (b2x p name).1 v)
 else if a05 (SizeOf.sizeOf v) v=true then (⟨#[]⟩,18)
 else if 65536<(b0j p (SizeOf.sizeOf v) (b2x p name).1 (W9 p (SizeOf.sizeOf v) (b2x p name).1 v)).size then (⟨#[]⟩,3)
 else (b0j p (SizeOf.sizeOf v) (b2x p name).1 (W9 p (SizeOf.sizeOf v) (b2x p name).1 v),0)
section
variable {p:A6} (hp:OkX p) (name:ByteArray) {v:A0} (hv:OkD v) (hw:wtV v<=134217728)
 include hp hv hw
theorem g06 (t:Int) (g:C1) (hgt:p.Progs[t.toNat]? =some g) (ht:0<=t) (h:c35 p (SizeOf.sizeOf v) t v=0):NfV p (SizeOf.sizeOf v) t (W9 p (SizeOf.sizeOf v) t v) /\ b3b p (SizeOf.sizeOf v) t v 1=0 /\ (b0j p (SizeOf.sizeOf v) t (W9 p (SizeOf.sizeOf v) t v)).size<=140737488355328:=by
 obtain ⟨h1,h2⟩:=c6g h
 have h3:=e3d hp _ t g v 1 hgt ht hv (Nat.le_refl _) h1
 have h4:=c8o hp _ _ _ h3
 have h5:=d6u p (SizeOf.sizeOf v) t v
 exact ⟨h3,h1,by omega⟩
theorem f35:b8c p name v (d8w p name v):=by
 have hpl:=D1 hp.pl.np
 refine c84 _ _ _ _ ⟨_,f43 p hpl name,fun h=> ?_,fun h=> ?_⟩
 ·rw [d8w,if_pos (by simpa using h)]
 have hf:(b2x p name).2=true:=by simpa using h
 obtain ⟨t0,g,hgt⟩:=e8e p name hf
 refine ⟨_,f1x hp _ _ g v hgt t0 hv (Nat.le_refl _) (by omega),fun h2=> ?_,fun h2=> ?_⟩
 ·rw [d8w,if_neg (by simp [hf]),if_pos (by simpa using h2)]
 have h2':c35 p (SizeOf.sizeOf v) (b2x p name).1 v=0:=by simpa using h2
 refine ⟨_,c64 _ v hv (Nat.le_refl _),fun h3=> ?_,fun h3=> ?_⟩
 ·rw [d8w,if_neg (by simp [hf]),if_neg (by omega),if_pos h3]
 obtain ⟨hnf,hmsg,hsz⟩:=g06 hp hv hw _ g hgt t0 h2'
 refine ⟨_,e9x hp _ _ g v hgt t0 hv (Nat.le_refl _) ⟨_,Nat.le_refl _,by simpa using h3⟩,_,d5q hp _ _ _ [] hnf (by simpa using hsz),fun h4=> ?_,fun h4=>⟨_,by rw [List.nil_append], ?_⟩⟩
 ·rw [d8w,if_neg (by simp [hf]),if_neg (by omega),if_neg (nt h3),if_pos]
  simp only [List.nil_append,a90,decide_eq_true_eq] at h4
  omega
 ·rw [d8w,if_neg (by simp [hf]),if_neg (by omega),if_neg (nt h3),if_neg]
  simp only [List.nil_append,a90,decide_eq_false_iff_not] at h4
  omega
theorem e44:b1p p name v (d8w p name v):=by
 have hpl:=D1 hp.pl.np
 refine c4e _ _ _ _ ⟨_,e9q p hpl name,fun h=> ?_,fun h=> ?_⟩
 ·rw [d8w,if_pos (by simpa using h)]
 have hf:(b2x p name).2=true:=by simpa using h
 obtain ⟨t0,g,hgt⟩:=e8e p name hf
 refine ⟨_,e4r hp _ _ g v hgt t0 hv (Nat.le_refl _),fun h2=> ?_,fun h2=> ?_⟩
 ·rw [d8w,if_neg (by simp [hf]),if_pos (by simpa using h2)]
 have h2':c35 p (SizeOf.sizeOf v) (b2x p name).1 v=0:=by simpa using h2
 refine ⟨_,c07 _ v hv (Nat.le_refl _),fun h3=> ?_,fun h3=> ?_⟩
 ·rw [d8w,if_neg (by simp [hf]),if_neg (by omega),if_pos h3]
 obtain ⟨hnf,hmsg,hsz⟩:=g06 hp hv hw _ g hgt t0 h2'
 have h5:=d6u p (SizeOf.sizeOf v) (b2x p name).1 v
 refine ⟨_,d1n hp _ _ g v hgt t0 ⟨hv,Nat.le_refl _,⟨_,Nat.le_refl _,by simpa using h3⟩,_,hmsg⟩,_,d8c hp _ _ _ ⟨hnf,by omega⟩,fun h4=> ?_,fun h4=> ?_⟩
 ·rw [d8w,if_neg (by simp [hf]),if_neg (by omega),if_neg (nt h3),if_pos]
  simp only [decide_eq_true_eq] at h4
  omega
 ·rw [d8w,if_neg (by simp [hf]),if_neg (by omega),if_neg (nt h3),if_neg]
  simp only [decide_eq_false_iff_not] at h4
  omega
noncomputable def e0i (p:A6) (name:ByteArray) (v:A0):Int:=if (d8w p name v).2≠0 then -1 else ((d8w p name v).1.size:Int)
theorem d4e:d12 p name v (e0i p name v) /\ c3r p name v (e0i p name v):=by
 refine ⟨d3k _ _ _ _ ⟨_,f35 hp name hv hw,fun h=> ?_,fun h=> ?_⟩,c8s _ _ _ _ ⟨_,e44 hp name hv hw,fun h=> ?_,fun h=> ?_⟩⟩
 ·rw [e0i,if_pos (by simpa using h)]
 ·rw [e0i,if_neg (by simpa using h)]
 ·rw [e0i,if_pos (by simpa using h)]
 ·rw [e0i,if_neg (by simpa using h)]
end
theorem b5o.oke {p:A6} (h:b5o p):OkE p:=⟨D1 h.ne,fun y hy=>⟨D1 (h.enums y hy).ni,fun it hit=>⟨((h.enums y hy).items it hit).num.1,((h.enums y hy).items it hit).num.2⟩⟩⟩
theorem d69 (p:A6) (hp:b5o p):∃b,b62 p b /\ (b=true ->OkX p):=by
 obtain ⟨y,h1,h2⟩:=f74 p hp
 rcases Bool.eq_false_or_eq_true ((decide ((p.Progs.length:Int)<=8))&&(decide ((p.Enums.length:Int)<=8))) with h|h
 ·exact ⟨_,b3f _ _ ⟨fun _=>⟨y,h1,rfl⟩,fun q=>(by rw [h] at q; cases q)⟩,fun hb=>⟨hp.oke,hp,h2 (by simpa using hb)⟩⟩
 ·exact ⟨false,b3f _ _ ⟨fun q=>(by rw [h] at q; cases q),fun _=>rfl⟩,fun hb=>by cases hb⟩
theorem f0s (v:A0) (hv:OkD v):b96 v (decide (wI (b23 (SizeOf.sizeOf v) v)<=5000)):=c55 _ _ ⟨_,b3e _ v hv (Nat.le_refl _),rfl⟩
theorem d3y (aw:b93 true) (p:A6) (hp:b5o p) (name:ByteArray) (v:A0) (hv:OkD v) (hw:wtV v<=134217728):b48 p name v true:=by
 obtain ⟨b,h1,h2⟩:=d69 p hp
 refine b5z _ _ _ _ ⟨b,h1,fun q=>q=(!b|| !decide (wI (b23 (SizeOf.sizeOf v) v)<=5000)),fun q hq=>⟨fun _=>rfl,fun hq2=> ?_⟩,fun hb=>by rw [hb,Bool.true_or],fun hb=>⟨_,f0s v hv,by rw [hb,Bool.false_or]⟩⟩
 rw [hq2] at hq
 have hb:b=true:=by
  cases b with
  |true=>rfl
  |false=>simp at hq
 have hx:=h2 hb
 exact ⟨_,f35 hx name hv hw,_,e44 hx name hv hw,fun _=>⟨_,(d4e hx name hv hw).1,_,(d4e hx name hv hw).2,fun _=>⟨_,aw,rfl⟩,fun h=>by simp at h⟩,fun h=>by simp at h⟩
noncomputable def tbl:Tbl:=g82 Tryz.prog [10,12,15,18,20,21,31,34,36,47,50,55,56,57,58,59,60,61,62,76,79,80,81,82,83,84,99,100,101,102,103,104,105,106,107,108,110,113,114,117,118,137,139,140,141,152,153,154,157,158,159,161,162,163,166,168,181,186,187,188,189,190,195,214,216,224]
theorem f81:d0a Tryz.prog tbl:=g07 (by kernel_rfl)
def f9z:Nat ->Bool ->Bool:=fun _ _=>false
theorem e76:(e8m tbl f9z false (evC tbl f9z 100000) 15 [] ⟨[],[],[]⟩).map (fun r=>e1u r.2 r.1)=some (.v (.bool true)):=by kernel_rfl
theorem e8p:b93 true:=by
 have h:=run_pure (P:=Tryz.prog) f81 100000 e76 rfl
 exact ⟨h.1,fun w outer cargs ho hg hr=>(h.2 w outer cargs ho hg hr).mono fun e w' ⟨av,x,a,b,c,d⟩=>⟨av,x,a,b,c,by rw [d]; rfl⟩⟩
section
open Go.RowKit Go.ChangeShapes Go.WideShapes Go.ChangeAt
open _root_.Go.Proofs.YtidmmngcijapcaaGreat.Rows (uptoBulk uptoBulkAll uptoBulkEntries uptoBulkEntry)
section
variable {H:Type} {enc:TypeId × Value ->H} {P:Program} {W:World} {base b0:Nat} {spare:Nat ->Bool} {held:Bool}
theorem d9r:∀(els:List (List AV)) (ds:List (DataW H)),ds.length=els.length ->(∀(i:Nat) (el:List AV) (d:DataW H),els[i]? =some el ->ds[i]? =some d ->bL el<=uptoBulk d) ->bLL els<=uptoBulkAll ds
 |[],ds,_,_=>by simp [bLL]
 |el::els,[],h,_=>by simp at h
 |el::els,d::ds,h,hh=>by
  have h1:=hh 0 el d rfl rfl
  have h2:=d9r els ds (by simpa using h) fun i e d hi hd=>hh (i+1) e d (by simpa using hi) (by simpa using hd)
  simp only [bLL,uptoBulkAll]
  omega
theorem d36 {ts:List TypeId} (ok:d73 P ts=true):∀(n:Nat) (t:TypeId) (cs:List Value) (z:DataW H × List MemPlace),t∈ts ->DataW.trod enc P W base spare held n t cs=some z ->Y3 P t z.1 ->
  ∃avs,E3 (bare W b4s) avs cs /\ Ty P n t avs /\ plainL avs=true /\ bL avs<=uptoBulk z.1:=by
 intro n
 induction n with
 |zero=>intro t cs z ht h; simp [DataW.trod] at h
 |succ n ih=>
  intro t cs z ht h hw
  have hok:=List.all_eq_true.1 ok t ht
  unfold okT at hok
  split at hok
  ·rename_i k hu
   obtain ⟨m,rfl,hz,hwf⟩:=DataW.trod_int hu h
   exact ⟨[.v (.int k m)],E3.one (.v _ rfl) rfl,by unfold Ty; rw [hu]; exact ⟨m,rfl,hwf⟩,rfl,by rw [hz]; simp [bL,bA,uptoBulk]⟩
  ·rename_i hu
   obtain ⟨b,rfl,hz⟩:=DataW.trod_bool hu h
   exact ⟨[.v (.bool b)],E3.one (.v _ rfl) rfl,by unfold Ty; rw [hu]; exact ⟨b,rfl⟩,rfl,by rw [hz]; simp [bL,bA,uptoBulk]⟩
  ·rename_i hu
   obtain ⟨s,rfl,rfl,_⟩:=DataW.trod_string hu h
   have:s.size<=140737488351232:=hw s.size (by simp [DataW.weights])
   exact ⟨[.v (.string s)],E3.one (.v _ rfl) rfl,by unfold Ty; rw [hu]; exact ⟨s,rfl,this⟩,rfl,by simp [bL,bA,uptoBulk]⟩
  ·rename_i e hu
   simp only [Bool.and_eq_true,decide_eq_true_eq,List.contains_iff_mem] at hok
   obtain ⟨⟨he,hk0⟩,hb1⟩:=hok
   rcases DataW.trod_slice hu h with ⟨hc,hx0⟩|⟨a,len,cap,elems,rest,m,hm,hc,hy,hb,hl,hmx,hlen,helem,_⟩
   ·subst hc
    exact ⟨[.sl [] .no],E3.one (.sl0 _ trivial) rfl,by unfold Ty; rw [hu]; exact ⟨[],rfl,by simp,fun el h=>by cases h⟩,rfl,by rw [hx0]; simp [bL,bA,bLL,uptoBulk]⟩
   ·subst hc hy
    obtain rfl:m=n:=by omega
    have hsh:=Y3.short hu hw
    rw [List.length_map,hlen] at hsh
    have key:∀i,i<len ->∃avs:List AV,∃vs:List Value,vs.length=P.cellsOf e /\ (∀j,j<P.cellsOf e ->W.cell? ((a.add (i*P.cellsOf e)).add j)=vs[j]?) /\ E3 (bare W b4s) avs vs /\ Ty P m e avs /\ plainL avs=true /\ ∀q,elems[i]? =some q ->bL avs<=uptoBulk q.1:=by
     intro i hi
     have h1:=helem i hi
     rw [List.getElem?_eq_getElem (by omega),Option.bind_eq_some_iff] at h1
     obtain ⟨vs,hc1,hc2⟩:=h1
     obtain ⟨_,hl1,hc3⟩:=World.cells?_some hc1
     obtain ⟨avs,h2,h3,h4,h5⟩:=ih e vs _ he hc2 (Y3.elem hu hw (i:=i) (by rw [List.getElem?_map,List.getElem?_eq_getElem (by omega)]; rfl))
     exact ⟨avs,vs,hl1,hc3,h2,h3,h4,fun q hq=>by rw [List.getElem?_eq_getElem (by omega)] at hq; cases hq; exact h5⟩
    obtain ⟨els,hel,hels⟩:=c62 len key
    have hty:∀el∈els,Ty P m e el /\ plainL el=true:=by
     intro el hmem
     obtain ⟨i,hi⟩:=List.mem_iff_getElem?.1 hmem
     obtain ⟨vs,_,_,_,q1,q2,_⟩:=hels i el hi
     exact ⟨q1,q2⟩
    refine ⟨[.sl els .no],E3.one ?_ rfl,by unfold Ty; rw [hu]; exact ⟨els,rfl,by rw [hel]; exact hsh,fun el h=>(hty el h).1⟩,by simp only [plainL,plain,Bool.true_and,Bool.and_true]; exact d1k fun p hp=>(hty p hp).2, ?_⟩
    rotate_left
    ·simp only [bL,bA,uptoBulk,Nat.add_zero]
     have hz:bLL els<=uptoBulkAll (elems.map (·.1)):=d9r els _ (by rw [List.length_map,hel,hlen]) fun i el d hi hd=>by
      obtain ⟨vs,_,_,_,_,_,q3⟩:=hels i el hi
      rw [List.getElem?_map,Option.map_eq_some_iff] at hd
      obtain ⟨q,hq,rfl⟩:=hd
      exact q3 q hq
     omega
    by_cases h0:len=0
    ·subst h0
     have:els=[]:=List.eq_nil_of_length_eq_zero hel
     subst this
     exact .slx _ a cap trivial (.inl rfl)
    ·obtain ⟨b,o,sp⟩:=a
     obtain ⟨avs0,vs0,hl0,hc0,_⟩:=key 0 (by omega)
     have hz:=hc0 0 hk0
     rw [List.getElem?_eq_getElem (by omega)] at hz
     have hspot:sp=none:=by
      have:=World.cell?_spot hz
      simpa [Addr.add] using this
     subst hspot
     have:=Rel.sl (σ:=bare W b4s) els .no b o cap (P.cellsOf e) (fun i j=>((W.cell? ⟨b,o+i*P.cellsOf e+j,none⟩).getD undef)) (fun i el hi=>by
       obtain ⟨vs,q1,_,q3,_⟩:=hels i el hi
       rw [<-q3.1,q1]) (by omega) trivial (fun id e h=>by cases h) (fun i el hi j av hj=>by
       obtain ⟨vs,q1,q2,q3,_⟩:=hels i el hi
       obtain ⟨c1,x,hx,hr⟩:=q3.2 j av hj
       have hjl:j<P.cellsOf e:=by rw [<-q1]; exact (List.getElem?_eq_some_iff.1 hx).1
       have:=q2 j hjl
       rw [X3,X3,hx] at this
       exact ⟨by show W.cell? _=_; rw [this]; rfl,fun h=>(b6t _ _ _ _).1 h,c1⟩) (fun i el hi j av hj=>by
       obtain ⟨vs,q1,q2,q3,_⟩:=hels i el hi
       obtain ⟨c1,x,hx,hr⟩:=q3.2 j av hj
       have hjl:j<P.cellsOf e:=by rw [<-q1]; exact (List.getElem?_eq_some_iff.1 hx).1
       have:=q2 j hjl
       rw [X3,X3,hx] at this
       rw [this]; exact hr)
     rw [hel] at this
     exact this
  ·rename_i fs hu
   simp only [Bool.and_eq_true,List.all_eq_true,List.contains_iff_mem] at hok
   obtain ⟨hfs,hcg⟩:=hok
   obtain ⟨xs,m,hm,rfl,hcl,hxl,hf⟩:=DataW.trod_struct hu h
   obtain rfl:m=n:=by omega
   have key:∀i,i<fs.size ->∃avs:List AV,∀f,fs[i]? =some f ->E3 (bare W b4s) avs ((cs.drop f.offset).take (P.cellsOf f.type)) /\ Ty P m f.type avs /\ plainL avs=true /\ ∀q,xs[i]? =some q ->bL avs<=uptoBulk q.1:=by
    intro i hi
    have hfi:fs[i]? =some fs[i]:=Array.getElem?_eq_getElem hi
    have e:xs[i]? =some xs[i]:=List.getElem?_eq_getElem (by omega)
    obtain ⟨avs,h2,h3,h4,h5⟩:=ih fs[i].type _ _ (hfs _ (by simp)) ((hf i _ hfi).trans e) (Y3.part hu hw hfi (by rw [List.getElem?_map,e]; rfl))
    refine ⟨avs,fun f hf'=> ?_⟩
    rw [hfi] at hf'; cases hf'
    exact ⟨h2,h3,h4,fun q hq=>by rw [e] at hq; cases hq; exact h5⟩
   obtain ⟨parts,hpl,hparts⟩:=c62 fs.size key
   have hcells:=c5e (P:=P) (bare W b4s) fs.toList 0 (P.cellsOf t) cs parts hcg hcl (by simpa using hpl) (fun i f p hfi hpi=>(hparts i p hpi f (by simpa using hfi)).1)
   refine ⟨parts.flatten,by simpa using hcells, ?_,b2o fun p hp=> ?_, ?_⟩
   ·unfold Ty; rw [hu]
    refine ⟨parts,rfl,hpl,fun i f hfi=> ?_⟩
    have hi:i<parts.length:=by rw [hpl]; exact (Array.getElem?_eq_some_iff.1 hfi).1
    exact ⟨parts[i],List.getElem?_eq_getElem hi,(hparts i _ (List.getElem?_eq_getElem hi) f hfi).2.1⟩
   ·obtain ⟨i,hi⟩:=List.mem_iff_getElem?.1 hp
    have hlt:i<fs.size:=by rw [<-hpl]; exact (List.getElem?_eq_some_iff.1 hi).1
    exact (hparts i p hi fs[i] (Array.getElem?_eq_getElem hlt)).2.2.1
   ·rw [c31]
    simp only [uptoBulk]
    have hz:bLL parts<=uptoBulkAll (xs.map (·.1)):=d9r parts _ (by rw [List.length_map,hpl,hxl]) fun i p d hi hd=>by
     have hlt:i<fs.size:=by rw [<-hpl]; exact (List.getElem?_eq_some_iff.1 hi).1
     rw [List.getElem?_map,Option.map_eq_some_iff] at hd
     obtain ⟨q,hq,rfl⟩:=hd
     exact (hparts i p hi fs[i] (Array.getElem?_eq_getElem hlt)).2.2.2 q hq
    omega
  ·rename_i k e hu
   simp only [Bool.and_eq_true,decide_eq_true_eq,List.contains_iff_mem] at hok
   obtain ⟨he,hke⟩:=hok
   obtain ⟨xs,m,hm,rfl,hcl,hxl,hf⟩:=DataW.trod_array hu h
   obtain rfl:m=n:=by omega
   have key:∀i,i<k ->∃avs:List AV,E3 (bare W b4s) avs ((cs.drop (i*P.cellsOf e)).take (P.cellsOf e)) /\ Ty P m e avs /\ plainL avs=true /\ ∀q,xs[i]? =some q ->bL avs<=uptoBulk q.1:=by
    intro i hi
    have e1:xs[i]? =some xs[i]:=List.getElem?_eq_getElem (by omega)
    obtain ⟨avs,h2,h3,h4,h5⟩:=ih e _ _ he ((hf i hi).trans e1) (Y3.at_ hu hw (by rw [List.getElem?_map,e1]; rfl))
    exact ⟨avs,h2,h3,h4,fun q hq=>by rw [e1] at hq; cases hq; exact h5⟩
   obtain ⟨parts,hpl,hparts⟩:=c62 k key
   have hall:∀p∈parts,Ty P m e p /\ plainL p=true:=by
    intro p hp
    obtain ⟨i,hi⟩:=List.mem_iff_getElem?.1 hp
    exact ⟨(hparts i p hi).2.1,(hparts i p hi).2.2.1⟩
   refine ⟨parts.flatten,d0v _ (P.cellsOf e) parts cs (by rw [hcl,hpl,hke]) (fun i p hi=>(hparts i p hi).1), ?_,b2o fun p hp=>(hall p hp).2, ?_⟩
   ·unfold Ty; rw [hu]
    exact ⟨parts,rfl,hpl,fun p hp=>(hall p hp).1⟩
   ·rw [c31]
    simp only [uptoBulk]
    have hz:bLL parts<=uptoBulkAll (xs.map (·.1)):=d9r parts _ (by rw [List.length_map,hpl,hxl]) fun i p d hi hd=>by
     rw [List.getElem?_map,Option.map_eq_some_iff] at hd
     obtain ⟨q,hq,rfl⟩:=hd
     exact (hparts i p hi).2.2.2 q hq
    omega
  ·cases hok
theorem b95 {ts:List TypeId} (ok:d73 P ts=true) {t:TypeId} (ht:t∈ts) {v:Value} {d:DataW H} {p:List MemPlace} (hval:Value.okWide P W .any b0 t v) (h:DataW.Trod enc P W base spare held t v d p) (hw:Y3 P t d):
  ∃n av,Rel (bare W b4s) av v /\ TyV P n t av /\ plain av=true /\ bA av<=uptoBulk d+1:=by
 obtain ⟨m,hm⟩:=h
 obtain ⟨avs,hc,hty,hpl,hbk⟩:=d36 ok m t _ _ ht hm hw
 cases m with
 |zero=>simp [DataW.trod] at hm
 |succ m=>
  have hok:=List.all_eq_true.1 ok t ht
  unfold okT at hok
  unfold TyV
  unfold Value.okWide at hval
  split at hok
  ·rename_i k hu
   rw [hu] at hval
   simp only [Cell.okWide,hu,Cell.ok] at hval
   have h2:=hty; unfold Ty at h2; rw [hu] at h2
   obtain ⟨x,rfl,_⟩:=h2
   refine ⟨m+1,_,c14 hc (fun cs he=>by subst he; simp at hval),by rw [hu]; exact hty,rfl,by simp only [bL] at hbk; omega⟩
  ·rename_i hu
   rw [hu] at hval
   simp only [Cell.okWide,hu,Cell.ok] at hval
   have h2:=hty; unfold Ty at h2; rw [hu] at h2
   obtain ⟨x,rfl⟩:=h2
   refine ⟨m+1,_,c14 hc (fun cs he=>by subst he; simp at hval),by rw [hu]; exact hty,rfl,by simp only [bL] at hbk; omega⟩
  ·rename_i hu
   rw [hu] at hval
   simp only [Cell.okWide,hu,Cell.ok] at hval
   have h2:=hty; unfold Ty at h2; rw [hu] at h2
   obtain ⟨x,rfl,_⟩:=h2
   refine ⟨m+1,_,c14 hc (fun cs he=>by subst he; simp at hval),by rw [hu]; exact hty,rfl,by simp only [bL] at hbk; omega⟩
  ·rename_i e hu
   rw [hu] at hval
   simp only [Cell.okWide,hu,Cell.ok] at hval
   have h2:=hty; unfold Ty at h2; rw [hu] at h2
   obtain ⟨x,rfl,_⟩:=h2
   refine ⟨m+1,_,c14 hc (fun cs he=>by subst he; simp at hval),by rw [hu]; exact hty,by simpa [plainL] using hpl,by simp only [bL] at hbk; omega⟩
  ·rename_i fs hu
   rw [hu] at hval
   obtain ⟨cs,rfl,_⟩:=hval
   exact ⟨m+1,.agg avs,d44 hc,by rw [hu]; exact ⟨avs,rfl,hty⟩,hpl,by simp only [bA]; have:uptoBulk (d,p).1=uptoBulk d:=rfl; omega⟩
  ·rename_i k e hu
   rw [hu] at hval
   obtain ⟨cs,rfl,_⟩:=hval
   exact ⟨m+1,.agg avs,d44 hc,by rw [hu]; exact ⟨avs,rfl,hty⟩,hpl,by simp only [bA]; have:uptoBulk (d,p).1=uptoBulk d:=rfl; omega⟩
  ·cases hok
end
end
end Go.Proofs.YtidmmngcijapcaaGreat.Lift
