/- Part 4 of the texts that prove RowEncodesEnd. -/
import Derived.Test.YtidmmngcijapcaaGreatRowEncodesEndP2
import Derived.Test.YtidmmngcijapcaaGreatRowEncodesEndP1
import Derived.OpenShut
import Derived.ProofKit
import Derived.Test.YtidmmngcijapcaaGreatProg
namespace Go.Proofs.YtidmmngcijapcaaGreat.Lift
open Go.RowKit
set_option linter.unusedVariables false
set_option linter.unusedSimpArgs false
set_option linter.unnecessarySimpa false
set_option linter.unusedSectionVars false
set_option maxRecDepth 100000
section
variable {α:Type} {C:α ->α ->Int ->Prop} {cm:α ->α ->Int} {Dm:α ->Prop}
theorem a9z {l:List α} {k:Nat} (h:k<l.length):∃x,l[k]? =some x /\ l.take (k+1)=l.take k++[x] /\ l.drop k=x::l.drop (k+1):=by
 refine ⟨l[k],List.getElem?_eq_getElem h, ?_,List.drop_eq_getElem_cons h⟩
 rw [List.take_add_one,List.getElem?_eq_getElem h]; rfl
theorem f88 (hp:Pre cm Dm) (X A B Y:List (α × Nat)) (a b m mid lo hi:Nat) (ha:a=X.length) (hm:m=a+A.length) (hb:b=m+B.length) (hmid:mid=(a+b) / 2) (hlh:(m<=mid /\ lo=a /\ hi=m)\/(mid<m /\ lo=mid+m - b /\ hi=mid))
  (hD:∀x∈A++B,Dm x.1) (hA:Srt cm A) (hB:Srt cm B) (s:Nat) (h2:lo<=s) (h4:s<=hi) (h5:s=lo\/∀x y,A[s - 1 - a]? =some x ->B[mid - s]? =some y ->Rt cm x y) (h6:s=hi\/∀x y,A[s - a]? =some x ->B[mid - 1 - s]? =some y ->Rt cm y x):
  ∀x∈A.take (s - a)++B.take (mid - s),∀y∈A.drop (s - a)++B.drop (mid - s),Rt cm x y:=by
 have hAs:A.take (s - a)++A.drop (s - a)=A:=List.take_append_drop _ _
 have hBs:B.take (mid - s)++B.drop (mid - s)=B:=List.take_append_drop _ _
 have l1:(A.take (s - a)).length=s - a:=by simp; omega
 have l2:(A.drop (s - a)).length=m - s:=by simp; omega
 have l3:(B.take (mid - s)).length=mid - s:=by simp; omega
 have l4:(B.drop (mid - s)).length=b - m - (mid - s):=by simp; omega
 have f1:A.take (s - a)=[]\/B.drop (mid - s)=[]\/∃U x y V,A.take (s - a)=U++[x] /\ B.drop (mid - s)=y::V /\ Rt cm x y:=by
  rcases h5 with h5|h5
  ·rcases hlh with ⟨g1,g2,g3⟩|⟨g1,g2,g3⟩
   ·left; rw [h5,g2,Nat.sub_self]; rfl
   ·right; left; exact List.drop_eq_nil_of_le (by omega)
  ·by_cases hs:s=a
   ·left; rw [hs,Nat.sub_self]; rfl
   by_cases hb2:mid - s<B.length
   ·obtain ⟨x,q1,q2,_⟩:=a9z (l:=A) (k:=s - 1 - a) (by omega)
    obtain ⟨y,r1,_,r3⟩:=a9z (l:=B) (k:=mid - s) hb2
    right; right
    exact ⟨_,x,y,_,by rw [<-q2]; congr 1; omega,r3,h5 x y q1 r1⟩
   ·right; left; exact List.drop_eq_nil_of_le (by omega)
 have f2:B.take (mid - s)=[]\/A.drop (s - a)=[]\/∃U x y V,B.take (mid - s)=U++[x] /\ A.drop (s - a)=y::V /\ Rt cm x y:=by
  rcases h6 with h6|h6
  ·rcases hlh with ⟨g1,g2,g3⟩|⟨g1,g2,g3⟩
   ·right; left; exact List.drop_eq_nil_of_le (by omega)
   ·left; rw [h6,g3,Nat.sub_self]; rfl
  ·by_cases hs:mid=s
   ·left; rw [hs,Nat.sub_self]; rfl
   by_cases ha2:s - a<A.length
   ·obtain ⟨x,q1,_,q3⟩:=a9z (l:=A) (k:=s - a) ha2
    obtain ⟨y,r1,r2,_⟩:=a9z (l:=B) (k:=mid - 1 - s) (by omega)
    right; right
    exact ⟨_,y,x,_,by rw [<-r2]; congr 1; omega,q3,h6 x y q1 r1⟩
   ·right; left; exact List.drop_eq_nil_of_le (by omega)
 exact f59 hp (A1:=A.take (s - a)) (A2:=A.drop (s - a)) (B1:=B.take (mid - s)) (B2:=B.drop (mid - s)) (by rw [hAs,hBs]; exact hD) (by rw [hAs]; exact hA) (by rw [hBs]; exact hB) f1 f2
variable (F:d2i α C) (hp:Pre cm Dm) (hC:∀x y,Dm x ->Dm y ->C x y (cm x y))
 include hp hC
theorem f0r {n0:Nat} (hn:n0<=1125899906842624) (k:Nat) (ih:d25 F cm Dm n0 k) (X A B Y:List (α × Nat)) (a b m mid lo hi:Nat) (ha:a=X.length) (hm:m=a+A.length) (hb:b=m+B.length) (hmid:mid=(a+b) / 2) (hlh:(m<=mid /\ lo=a /\ hi=m)\/(mid<m /\ lo=mid+m - b /\ hi=mid))
  (hD:∀x∈A++B,Dm x.1) (hA:Srt cm A) (hB:Srt cm B) (h0:n0=b+Y.length) (hA0:A≠[]) (hB0:B≠[]) (hk:b - a<=k+1) (ht:∀x∈A,∀y∈B,x.2<y.2) (s:Nat) (h2:lo<=s) (h4:s<=hi) (h5:s=lo\/∀x y,A[s - 1 - a]? =some x ->B[mid - s]? =some y ->Rt cm x y) (h6:s=hi\/∀x y,A[s - a]? =some x ->B[mid - 1 - s]? =some y ->Rt cm y x):
  ∃S,Srt cm S /\ S.Perm (A++B) /\ F.sy36 a b m s s n0 (fs (X++A++B++Y)) (fs (X++S++Y)):=by
 have al:=List.length_pos_iff.2 hA0
 have bl:=List.length_pos_iff.2 hB0
 have bnd:a<=s /\ s<=m /\ s<=mid /\ mid+m<=b+s /\ a<mid /\ mid<b:=by omega
 have hmI:hI (a:Int) (b:Int)=(mid:Int):=by rw [c76 (by omega) (by omega),hmid]
 have emm:wI ((mid:Int)+m)=((mid+m:Nat):Int):=by rw [wI,D2 (by omega)]; omega
 have hall:=f88 hp X A B Y a b m mid lo hi ha hm hb hmid hlh hD hA hB s h2 h4 h5 h6
 clear h5 h6 h2 h4 hlh
 have hAs:A.take (s - a)++A.drop (s - a)=A:=List.take_append_drop _ _
 have hBs:B.take (mid - s)++B.drop (mid - s)=B:=List.take_append_drop _ _
 have l1:(A.take (s - a)).length=s - a:=by simp; omega
 have l2:(A.drop (s - a)).length=m - s:=by simp; omega
 have l3:(B.take (mid - s)).length=mid - s:=by simp; omega
 have l4:(B.drop (mid - s)).length=b - m - (mid - s):=by simp; omega
 obtain ⟨S,p1,p2,p3⟩:=f01 F hp hC hn k ih X (A.take (s - a)) (A.drop (s - a)) (B.take (mid - s)) (B.drop (mid - s)) Y a b m mid s ha (by omega) (by omega) hmid (by omega) (by omega) h0 (by omega) hk (by rw [hAs,hBs]; exact hD) (by rw [hAs]; exact hA) (by rw [hBs]; exact hB) (by rw [hAs,hBs]; exact ht) hall
 rw [hAs,hBs] at p2
 have e1:wI (((mid+m:Nat):Int) - s)=((mid+m - s:Nat):Int):=by rw [wI,D2 (by omega)]; omega
 refine ⟨S,p1,p2,F.h_sy36 _ _ _ _ _ _ _ _ ⟨fun h=>by simp at h,fun _=> ?_⟩⟩
 rw [hmI,emm,e1]
 have hin:fs (X++A++B++Y)=fs (X++A.take (s - a))++fs (A.drop (s - a))++fs (B.take (mid - s))++fs (B.drop (mid - s)++Y):=by
  have:X++A++B++Y=X++(A.take (s - a)++A.drop (s - a))++(B.take (mid - s)++B.drop (mid - s))++Y:=by rw [hAs,hBs]
  rw [this]; simp only [fs,List.map_append,List.append_assoc]
 have hout:fs (X++A.take (s - a))++fs (B.take (mid - s))++fs (A.drop (s - a))++fs (B.drop (mid - s)++Y)=fs (X++A.take (s - a)++B.take (mid - s)++A.drop (s - a)++B.drop (mid - s)++Y):=by simp only [fs,List.map_append,List.append_assoc]
 refine ⟨fun h=> ?_,fun h=> ?_⟩
 ·simp only [Bool.and_eq_true,decide_eq_true_eq] at h
  have hr:=g2l F hn (fs (X++A.take (s - a))) (fs (A.drop (s - a))) (fs (B.take (mid - s))) (fs (B.drop (mid - s)++Y)) (a:=s) (m:=m) (b:=mid+m - s) (by simp only [fs,List.length_map,List.length_append]; omega) (by simp only [fs,List.length_map]; omega) (by simp only [fs,List.length_map]; omega) (by simp only [fs,List.length_map,List.length_append]; omega) (fun h'=>by have:=congrArg List.length h'; simp only [fs,List.length_map,List.length_nil] at this; omega) (fun h'=>by have:=congrArg List.length h'; simp only [fs,List.length_map,List.length_nil] at this; omega)
  rw [<-hin,hout] at hr
  exact ⟨_,hr,⟨b0w (n0:=n0) (by simp only [List.length_append]; omega) (by omega),b0w (n0:=n0) (by simp only [List.length_append]; omega) (by omega)⟩,p3⟩
 ·simp only [Bool.and_eq_false_iff,decide_eq_false_iff_not] at h
  have heq:fs (X++A++B++Y)=fs (X++A.take (s - a)++B.take (mid - s)++A.drop (s - a)++B.drop (mid - s)++Y):=by
   rw [hin,<-hout]
   have:A.drop (s - a)=[]\/B.take (mid - s)=[]:=by
    rcases h with h|h
    ·left; exact List.drop_eq_nil_of_le (by omega)
    ·right; exact List.eq_nil_of_length_eq_zero (by omega)
   rcases this with e|e<;>rw [e]<;>simp [fs]
  rw [heq]; exact p3
theorem d8l {n0:Nat} (hn:n0<=1125899906842624) (k:Nat) (ih:d25 F cm Dm n0 k) (X A B Y:List (α × Nat)) (a b m mid lo hi:Nat) (ha:a=X.length) (hm:m=a+A.length) (hb:b=m+B.length) (hmid:mid=(a+b) / 2) (h0:n0=b+Y.length) (hA0:A≠[]) (hB0:B≠[]) (hk:b - a<=k+1) (hlh:(m<=mid /\ lo=a /\ hi=m)\/(mid<m /\ lo=mid+m - b /\ hi=mid))
  (hD:∀x∈A++B,Dm x.1) (hA:Srt cm A) (hB:Srt cm B) (ht:∀x∈A,∀y∈B,x.2<y.2):∀(d s t:Nat),t - s<=d ->lo<=s ->s<=t ->t<=hi ->
  (s=lo\/∀x y,A[s - 1 - a]? =some x ->B[mid - s]? =some y ->Rt cm x y) ->(t=hi\/∀x y,A[t - a]? =some x ->B[mid - 1 - t]? =some y ->Rt cm y x) ->
  ∃S,Srt cm S /\ S.Perm (A++B) /\ F.sy36 a b m t s n0 (fs (X++A++B++Y)) (fs (X++S++Y)):=by
 have al:=List.length_pos_iff.2 hA0
 have bl:=List.length_pos_iff.2 hB0
 have hmI:hI (a:Int) (b:Int)=(mid:Int):=by rw [c76 (by omega) (by omega),hmid]
 have emm:wI ((mid:Int)+m)=((mid+m:Nat):Int):=by rw [wI,D2 (by omega)]; omega
 intro d
 induction d with
 |zero=>
  intro s t h1 h2 h3 h4 h5 h6
  obtain rfl:s=t:=by omega
  exact f0r F hp hC hn k ih X A B Y a b m mid lo hi ha hm hb hmid hlh hD hA hB h0 hA0 hB0 hk ht s h2 h4 h5 h6
 |succ d ihd=>
  intro s t h1 h2 h3 h4 h5 h6
  by_cases hst:s=t
  ·exact ihd s t (by omega) h2 h3 h4 h5 h6
  have hcI:hI (s:Int) (t:Int)=(((s+t) / 2:Nat):Int):=c76 (by omega) (by omega)
  generalize hcd:(s+t) / 2=c at hcI
  have hc:s<=c /\ c<t:=by omega
  have hcA:c - a<A.length /\ a<=c:=by omega
  have hcB:mid - 1 - c<B.length /\ c<mid:=by omega
  obtain ⟨x,hx,_,_⟩:=a9z hcA.1
  obtain ⟨y,hy,_,_⟩:=a9z hcB.1
  have hxA:=List.mem_of_getElem? hx
  have hyB:=List.mem_of_getElem? hy
  have gx:(fs (X++A++B++Y))[c]? =some x.1:=by
   have:fs (X++A++B++Y)=fs X++fs A++fs (B++Y):=by simp [fs]
   rw [this,show c=(fs X).length+(c - a) by simp [fs]; omega,g2y _ _ _ (by simp [fs]; omega)]
   simp [fs,hx]
  have gy:(fs (X++A++B++Y))[mid+m - 1 - c]? =some y.1:=by
   have:fs (X++A++B++Y)=fs (X++A)++fs B++fs Y:=by simp [fs]
   rw [this,show mid+m - 1 - c=(fs (X++A)).length+(mid - 1 - c) by simp [fs]; omega,g2y _ _ _ (by simp [fs]; omega)]
   simp [fs,hy]
  have e1:wI (((mid+m:Nat):Int) - 1)=((mid+m - 1:Nat):Int):=by rw [wI,D2 (by omega)]; omega
  have e2:wI (((mid+m - 1:Nat):Int) - (c:Int))=((mid+m - 1 - c:Nat):Int):=by rw [wI,D2 (by omega)]; omega
  have e3:wI ((c:Int)+1)=((c+1:Nat):Int):=by rw [wI,D2 (by omega)]; omega
  have cmpS:C y.1 x.1 (cm y.1 x.1):=hC _ _ (hD y (by simp [hyB])) (hD x (by simp [hxA]))
  by_cases hlt:cm y.1 x.1<0
  ·obtain ⟨S,q1,q2,q3⟩:=ihd s c (by omega) h2 (by omega) (by omega) h5 (.inr fun x' y' hx' hy'=>by
    rw [hx] at hx'; cases hx'
    rw [hy] at hy'; cases hy'
    exact .inl hlt)
   refine ⟨S,q1,q2,F.h_sy36 _ _ _ _ _ _ _ _ ⟨fun _=> ?_,fun h=>by simp at h; omega⟩⟩
   rw [hmI,emm,e1,hcI,e2]
   exact ⟨by omega,y.1,by rw [Int.toNat_natCast]; exact gy,by omega,x.1,by rw [Int.toNat_natCast]; exact gx,_,cmpS,fun h=>by simp at h; omega,fun _=>q3⟩
  ·obtain ⟨S,q1,q2,q3⟩:=ihd (c+1) t (by omega) (by omega) (by omega) h4 (.inr fun x' y' hx' hy'=>by
    rw [show c+1 - 1 - a=c - a by omega,hx] at hx'; cases hx'
    rw [show mid - (c+1)=mid - 1 - c by omega,hy] at hy'; cases hy'
    exact Rt.of_not hp (hD y (by simp [hyB])) (hD x (by simp [hxA])) hlt (ht x hxA y hyB)) h6
   refine ⟨S,q1,q2,F.h_sy36 _ _ _ _ _ _ _ _ ⟨fun _=> ?_,fun h=>by simp at h; omega⟩⟩
   rw [hmI,emm,e1,hcI,e2,e3]
   exact ⟨by omega,y.1,by rw [Int.toNat_natCast]; exact gy,by omega,x.1,by rw [Int.toNat_natCast]; exact gx,_,cmpS,fun _=>q3,fun h=>by simp at h; omega⟩
theorem f3v {n0:Nat} (hn:n0<=1125899906842624):∀k,d25 F cm Dm n0 k:=by
 intro k
 induction k with
 |zero=>
  intro X A B Y hk hA
  exact absurd (List.eq_nil_of_length_eq_zero (by omega)) hA
 |succ k ih=>
  intro X A B Y hk hA0 hB0 h0 hD hA hB ht
  have al:=List.length_pos_iff.2 hA0
  have bl:=List.length_pos_iff.2 hB0
  have e1:wI (((X.length+A.length:Nat):Int) - (X.length:Nat))=(A.length:Int):=by rw [wI,D2 (by omega)]; omega
  have e2:wI (((X.length+A.length+B.length:Nat):Int) - ((X.length+A.length:Nat):Int))=(B.length:Int):=by rw [wI,D2 (by omega)]; omega
  by_cases c1:A.length=1
  ·obtain ⟨x,rfl⟩:=List.length_eq_one_iff.1 c1
   obtain ⟨S,q1,q2,q3⟩:=f5i F hp hC hn X B Y x (hD x (by simp)) (fun y hy=>hD y (by simp [hy])) hB (fun y hy=>ht x (by simp) y hy) (by simp at h0; omega) B.length 0 B.length (by omega) (by omega) (by omega) (fun y hy=>by simp at hy) (fun y hy=>by simp at hy)
   refine ⟨S,q1,by simpa using q2,F.h_sy _ _ _ _ _ _ ⟨fun _=> ?_,fun h=>by rw [e1] at h; simp at h⟩⟩
   simpa using q3
  by_cases c2:B.length=1
  ·obtain ⟨y,rfl⟩:=List.length_eq_one_iff.1 c2
   obtain ⟨S,q1,q2,q3⟩:=e9c F hp hC hn X A Y y (hD y (by simp)) (fun x hx=>hD x (by simp [hx])) hA (fun x hx=>ht x hx y (by simp)) (by simp at h0; omega) A.length 0 A.length (by omega) (by omega) (by omega) (fun y hy=>by simp at hy) (fun y hy=>by simp at hy)
   refine ⟨S,q1,q2,F.h_sy _ _ _ _ _ _ ⟨fun h=>by rw [e1] at h; simp at h; omega,fun _=>⟨fun _=> ?_,fun h=>by rw [e2] at h; simp at h⟩⟩⟩
   simpa using q3
  ·have hmI:hI ((X.length:Nat):Int) ((X.length+A.length+B.length:Nat):Int)=(((X.length+(X.length+A.length+B.length)) / 2:Nat):Int):=c76 (by omega) (by omega)
   generalize hmid:(X.length+(X.length+A.length+B.length)) / 2=mid at hmI
   rcases Nat.lt_or_ge mid (X.length+A.length) with hlt|hge
   ·have em:wI (wI ((mid:Int)+((X.length+A.length:Nat):Int)) - ((X.length+A.length+B.length:Nat):Int))=((mid+(X.length+A.length) - (X.length+A.length+B.length):Nat):Int):=by
     have:wI ((mid:Int)+((X.length+A.length:Nat):Int))=(mid:Int)+((X.length+A.length:Nat):Int):=by rw [wI,D2 (by omega)]
     rw [this,wI,D2 (by omega)]; omega
    obtain ⟨S,q1,q2,q3⟩:=d8l F hp hC hn k ih X A B Y X.length (X.length+A.length+B.length) (X.length+A.length) mid (mid+(X.length+A.length) - (X.length+A.length+B.length)) mid rfl rfl rfl hmid.symm (by omega) hA0 hB0 (by omega) (.inr ⟨hlt,rfl,rfl⟩) hD hA hB ht mid (mid+(X.length+A.length) - (X.length+A.length+B.length)) mid (by omega) (Nat.le_refl _) (by omega) (Nat.le_refl _) (.inl rfl) (.inl rfl)
    refine ⟨S,q1,q2,F.h_sy _ _ _ _ _ _ ⟨fun h=>by rw [e1] at h; simp at h; omega,fun _=>⟨fun h=>by rw [e2] at h; simp at h; omega,fun _=>⟨fun _=>F.h_sy28 _ _ _ _ _ _ _ _ ?_,fun h=>by rw [hmI] at h; simp at h; omega⟩⟩⟩⟩
    rw [hmI,em]; exact q3
   ·obtain ⟨S,q1,q2,q3⟩:=d8l F hp hC hn k ih X A B Y X.length (X.length+A.length+B.length) (X.length+A.length) mid X.length (X.length+A.length) rfl rfl rfl hmid.symm (by omega) hA0 hB0 (by omega) (.inl ⟨hge,rfl,rfl⟩) hD hA hB ht (X.length+A.length) X.length (X.length+A.length) (by omega) (Nat.le_refl _) (by omega) (Nat.le_refl _) (.inl rfl) (.inl rfl)
    refine ⟨S,q1,q2,F.h_sy _ _ _ _ _ _ ⟨fun h=>by rw [e1] at h; simp at h; omega,fun _=>⟨fun h=>by rw [e2] at h; simp at h; omega,fun _=>⟨fun h=>by rw [hmI] at h; simp at h; omega,fun _=>F.h_sy28 _ _ _ _ _ _ _ _ q3⟩⟩⟩⟩
end
section
variable {α:Type} {C:α ->α ->Int ->Prop} {cm:α ->α ->Int} {Dm:α ->Prop}
inductive e1z (cm:α ->α ->Int) (k:Nat):List (α × Nat) ->Prop
 |last (S:List (α × Nat)) (h:Srt cm S) (hl:S.length<=k):e1z cm k S
 |cons (S L:List (α × Nat)) (h:Srt cm S) (hl:S.length=k) (hr:e1z cm k L) (ht:∀x∈S,∀y∈L,x.2<y.2):e1z cm k (S++L)
theorem e1z.sorted {k:Nat} (hk:0<k) {L:List (α × Nat)} (h:e1z cm k L) (hl:L.length<=k):Srt cm L:=by
 cases h with
 |last _ h _=>exact h
 |cons S L h hl' hr ht=>
  have:L=[]:=List.eq_nil_of_length_eq_zero (by simp at hl; omega)
  rw [this]; simpa using h
theorem e1z.first {k:Nat} {L:List (α × Nat)} (h:e1z cm k L) (hl:k<=L.length):∃S M,L=S++M /\ Srt cm S /\ S.length=k /\ e1z cm k M /\ ∀x∈S,∀y∈M,x.2<y.2:=by
 cases h with
 |last _ h hl'=>exact ⟨L,[],by simp,h,by omega,.last [] .nil (Nat.zero_le _),fun x _ y hy=>by cases hy⟩
 |cons S M h hl' hr ht=>exact ⟨S,M,rfl,h,hl',hr,ht⟩
variable (F:d2i α C) (hp:Pre cm Dm) (hC:∀x y,Dm x ->Dm y ->C x y (cm x y))
 include hp hC
theorem f0b {n0:Nat} (hn:n0<=1125899906842624) (k n:Nat) (hk:0<k /\ k<n) (hnn:n=n0):∀(d:Nat) (M L:List (α × Nat)),L.length<=d ->n=M.length+L.length ->(∀x∈L,Dm x.1) ->e1z cm k L ->
  ∃L',e1z cm (2*k) L' /\ L'.Perm L /\ ∀r,F.st12 ((2*k:Nat):Int) n0 n (fs (M++L')) r ->F.st14 ((M.length+2*k:Nat):Int) (M.length:Nat) k n0 n (fs (M++L)) r:=by
 have e2:wI ((k:Int)*2)=((2*k:Nat):Int):=by rw [wI,D2 (by omega)]; omega
 have e3:wI (2*(k:Int))=((2*k:Nat):Int):=by rw [wI,D2 (by omega)]; omega
 intro d
 induction d with
 |zero=>
  intro M L hd hl hD hr
  have:L=[]:=List.eq_nil_of_length_eq_zero (by omega)
  subst this
  simp only [List.length_nil] at hl
  have e1:wI ((M.length:Int)+k)=((M.length+k:Nat):Int):=by rw [wI,D2 (by omega)]; omega
  refine ⟨[],.last [] .nil (Nat.zero_le _),.refl _,fun r hr'=>F.h_st14 _ _ _ _ _ _ _ ⟨fun h=>by simp at h; omega,fun _=>⟨fun h=>by rw [e1] at h; simp at h; omega,fun _=>by rw [e2]; exact hr'⟩⟩⟩
 |succ d ih=>
  intro M L hd hl hD hr
  have e1:wI ((M.length:Int)+k)=((M.length+k:Nat):Int):=by rw [wI,D2 (by omega)]; omega
  have e4:wI (((M.length+2*k:Nat):Int)+((2*k:Nat):Int))=((M.length+2*k+2*k:Nat):Int):=by rw [wI,D2 (by omega)]; omega
  rcases Nat.lt_or_ge L.length (2*k) with hlt|hge
  ·rcases Nat.lt_or_ge k L.length with hk2|hk2
   ·obtain ⟨S1,S2,rfl,h1,h2,h3,h4⟩:=hr.first (by omega)
    have hl2:(S1++S2).length=S1.length+S2.length:=by simp
    have h5:Srt cm S2:=h3.sorted hk.1 (by omega)
    obtain ⟨T,q1,q2,q3⟩:=f3v F hp hC hn _ M S1 S2 [] (Nat.le_refl _) (fun h=>by rw [h] at h2; simp at h2; omega) (fun h=>by subst h; simp at hk2; omega) (by simp; omega) hD h1 h5 h4
    have ql:T.length=S1.length+S2.length:=by rw [q2.length_eq]; simp
    refine ⟨T,.last T q1 (by omega),q2,fun r hr'=>F.h_st14 _ _ _ _ _ _ _ ⟨fun h=>by simp at h; omega,fun _=>⟨fun _=> ?_,fun h=>by rw [e1] at h; simp at h; omega⟩⟩⟩
    rw [e1,e2]
    refine ⟨fs (M++T), ?_,⟨b0w (n0:=n0) (by simp; omega) (by omega),b0w (n0:=n0) (by simp; omega) (by omega)⟩,hr'⟩
    rw [show M.length+k=M.length+S1.length by omega,show (n:Int)=((M.length+S1.length+S2.length:Nat):Int) by omega]
    simpa using q3
   ·refine ⟨L,.last L (hr.sorted hk.1 hk2) (by omega),.refl _,fun r hr'=>F.h_st14 _ _ _ _ _ _ _ ⟨fun h=>by simp at h; omega,fun _=>⟨fun h=>by rw [e1] at h; simp at h; omega,fun _=>by rw [e2]; exact hr'⟩⟩⟩
  ·obtain ⟨S1,L1,rfl,h1,h2,h3,h4⟩:=hr.first (by omega)
   have hl1:(S1++L1).length=S1.length+L1.length:=by simp
   obtain ⟨S2,L2,rfl,g1,g2,g3,g4⟩:=h3.first (by omega)
   have hl2:(S2++L2).length=S2.length+L2.length:=by simp
   obtain ⟨T,q1,q2,q3⟩:=f3v F hp hC hn _ M S1 S2 L2 (Nat.le_refl _) (fun h=>by rw [h] at h2; simp at h2; omega) (fun h=>by rw [h] at g2; simp at g2; omega) (by omega) (fun x hx=>hD x (by simp at hx ⊢; grind)) h1 g1 (fun x hx y hy=>h4 x hx y (by simp [hy]))
   have ql:T.length=S1.length+S2.length:=by rw [q2.length_eq]; simp
   obtain ⟨L',p1,p2,p3⟩:=ih (M++T) L2 (by omega) (by simp; omega) (fun x hx=>hD x (by simp [hx])) g3
   refine ⟨T++L',.cons T L' q1 (by omega) p1 (fun x hx y hy=> ?_), ?_,fun r hr'=>F.h_st14 _ _ _ _ _ _ _ ⟨fun _=> ?_,fun h=>by simp at h; omega⟩⟩
   ·have hy2:=p2.mem_iff.1 hy
    rcases List.mem_append.1 (q2.mem_iff.1 hx) with h|h
    ·exact h4 x h y (by simp [hy2])
    ·exact g4 x h y hy2
   ·have:=q2.append p2
    simpa [List.append_assoc] using this
   ·rw [e1,e3,e4]
    refine ⟨fs (M++T++L2), ?_,⟨b0w (n0:=n0) (by simp; omega) (by omega),b0w (n0:=n0) (by simp; omega) (by omega)⟩, ?_⟩
    ·rw [show M.length+k=M.length+S1.length by omega,show M.length+2*k=M.length+S1.length+S2.length by omega]
     simpa using q3
    ·have:=p3 r (by simpa using hr')
     have gl:(M++T).length=M.length+2*k:=by simp; omega
     rw [gl] at this
     exact this
theorem f1m {n0:Nat} (hn:n0<=1125899906842624) (hpos:0<n0):∀(d k:Nat) (L:List (α × Nat)),n0 - k<=d ->0<k ->k<=2*n0+20 ->L.length=n0 ->(∀x∈L,Dm x.1) ->e1z cm k L ->∃S,Srt cm S /\ S.Perm L /\ F.st12 k n0 (n0:Nat) (fs L) (fs S):=by
 intro d
 induction d with
 |zero=>
  intro k L hd hk hk2 hl hD hr
  exact ⟨L,hr.sorted hk (by omega),.refl _,F.h_st12 _ _ _ _ _ ⟨fun h=>by simp at h; omega,fun _=>⟨b0w hl hpos,rfl⟩⟩⟩
 |succ d ih=>
  intro k L hd hk hk2 hl hD hr
  rcases Nat.lt_or_ge k n0 with hlt|hge
  ·obtain ⟨L',q1,q2,q3⟩:=f0b F hp hC hn k n0 ⟨hk,hlt⟩ rfl L.length [] L (Nat.le_refl _) (by simp; omega) hD hr
   obtain ⟨S,p1,p2,p3⟩:=ih (2*k) L' (by omega) (by omega) (by omega) (by rw [q2.length_eq]; exact hl) (fun x hx=>hD x (q2.mem_iff.1 hx)) q1
   have e3:wI (2*(k:Int))=((2*k:Nat):Int):=by rw [wI,D2 (by omega)]; omega
   refine ⟨S,p1,p2.trans q2,F.h_st12 _ _ _ _ _ ⟨fun _=> ?_,fun h=>by simp at h; omega⟩⟩
   have:=q3 _ (by simpa using p3)
   rw [e3]
   simpa using this
  ·exact ⟨L,hr.sorted hk (by omega),.refl _,F.h_st12 _ _ _ _ _ ⟨fun h=>by simp at h; omega,fun _=>⟨b0w hl hpos,rfl⟩⟩⟩
theorem f7e {n0:Nat} (hn:n0<=1125899906842624) (hpos:0<n0):∀(d:Nat) (M L:List (α × Nat)),L.length<=d ->n0=M.length+L.length ->(∀x∈L,Dm x.1) ->L.Pairwise (fun x y=>x.2<y.2) ->
  ∃L',e1z cm 20 L' /\ L'.Perm L /\ ∀r,F.st12 20 n0 (n0:Nat) (fs (M++L')) r ->F.st8 ((M.length+20:Nat):Int) (M.length:Nat) n0 (n0:Nat) (fs (M++L)) r:=by
 intro d
 induction d with
 |zero=>
  intro M L hd hl hD ht
  have:L=[]:=List.eq_nil_of_length_eq_zero (by omega)
  subst this
  simp only [List.length_nil] at hl
  obtain ⟨S,q1,q2,q3⟩:=d7b F hp hC hn M [] [] (a:=M.length) (b:=n0) rfl (by simp; omega) (by simp) hpos hD .nil
  have qe:S=[]:=List.Perm.eq_nil q2
  subst qe
  refine ⟨[],.last [] .nil (Nat.zero_le _),.refl _,fun r hr=>F.h_st8 _ _ _ _ _ _ ⟨fun h=>by simp at h; omega,fun _=>⟨fs (M++[]),by simpa using q3,⟨b0w (n0:=n0) (by simp; omega) hpos,b0w (n0:=n0) (by simp; omega) hpos⟩,hr⟩⟩⟩
 |succ d ih=>
  intro M L hd hl hD ht
  rcases Nat.lt_or_ge L.length 20 with hlt|hge
  ·obtain ⟨S,q1,q2,q3⟩:=d7b F hp hC hn M L [] (a:=M.length) (b:=n0) rfl (by omega) (by simp) hpos hD ht
   have ql:=q2.length_eq
   refine ⟨S,.last S q1 (by omega),q2,fun r hr=>F.h_st8 _ _ _ _ _ _ ⟨fun h=>by simp at h; omega,fun _=>⟨fs (M++S),by simpa using q3,⟨b0w (n0:=n0) (by simp; omega) hpos,b0w (n0:=n0) (by simp; omega) hpos⟩,hr⟩⟩⟩
  ·have hsplit:L=L.take 20++L.drop 20:=(List.take_append_drop _ _).symm
   have l1:(L.take 20).length=20:=by simp; omega
   generalize ha:L.take 20=A at hsplit l1
   generalize hb:L.drop 20=B at hsplit
   subst hsplit
   have hl2:(A++B).length=A.length+B.length:=by simp
   obtain ⟨t1,t2,t3⟩:=List.pairwise_append.1 ht
   obtain ⟨S,q1,q2,q3⟩:=d7b F hp hC hn M A B (a:=M.length) (b:=M.length+20) rfl (by omega) (by omega) hpos (fun x hx=>hD x (by simp [hx])) t1
   have ql:=q2.length_eq
   obtain ⟨L',p1,p2,p3⟩:=ih (M++S) B (by omega) (by simp; omega) (fun x hx=>hD x (by simp [hx])) t2
   have e1:wI (((M.length+20:Nat):Int)+20)=((M.length+20+20:Nat):Int):=by rw [wI,D2 (by omega)]; omega
   refine ⟨S++L',.cons S L' q1 (by omega) p1 (fun x hx y hy=>t3 x (q2.mem_iff.1 hx) y (p2.mem_iff.1 hy)),q2.append p2,fun r hr=>F.h_st8 _ _ _ _ _ _ ⟨fun _=> ?_,fun h=>by simp at h; omega⟩⟩
   rw [e1]
   refine ⟨fs (M++S++B),by simpa using q3,⟨b0w (n0:=n0) (by simp; omega) hpos,b0w (n0:=n0) (by simp; omega) hpos⟩, ?_⟩
   have:=p3 r (by simpa using hr)
   have gl:(M++S).length=M.length+20:=by simp; omega
   rw [gl] at this
   exact this
theorem f29 {n0:Nat} (hn:n0<=1125899906842624) (hpos:0<n0) (L:List (α × Nat)) (hl:L.length=n0) (hD:∀x∈L,Dm x.1) (ht:L.Pairwise (fun x y=>x.2<y.2)):∃S,Srt cm S /\ S.Perm L /\ F.so n0 (fs L) (fs S):=by
 obtain ⟨L',q1,q2,q3⟩:=f7e F hp hC hn hpos L.length [] L (Nat.le_refl _) (by simp; omega) hD ht
 obtain ⟨S,p1,p2,p3⟩:=f1m F hp hC hn hpos n0 20 L' (by omega) (by omega) (by omega) (by rw [q2.length_eq]; exact hl) (fun x hx=>hD x (q2.mem_iff.1 hx)) q1
 have hs:S.length=n0:=by rw [p2.length_eq,q2.length_eq]; exact hl
 refine ⟨S,p1,p2.trans q2,F.h_so _ _ _ ⟨fs S,F.h_st _ _ _ _ ?_,⟨b0w hl hpos,b0w hs hpos⟩,b0w hs hpos,rfl⟩⟩
 have:=q3 _ (by simpa using p3)
 simpa using this
end
section
variable {α:Type} {cm:α ->α ->Int} {Dm:α ->Prop}
theorem Rt.irrefl {x y:α × Nat} (hp:Pre cm Dm) (hx:Dm x.1) (hy:Dm y.1) (h1:Rt cm x y) (h2:Rt cm y x):False:=by
 have a:=hp.sym x.1 y.1 hx hy
 have b:=hp.sym y.1 x.1 hy hx
 unfold Rt at h1 h2
 omega
theorem e4v (hp:Pre cm Dm):∀(S T:List (α × Nat)),S.Perm T ->(∀x∈S,Dm x.1) ->Srt cm S ->Srt cm T ->S=T
 |[],T,h,_,_,_=>(List.Perm.nil_eq h)
 |x::S,[],h,_,_,_=>by have:=h.length_eq; simp at this
 |x::S,y::T,h,hD,hS,hT=>by
  have hxy:x=y:=by
   have hx:x∈y::T:=h.mem_iff.1 List.mem_cons_self
   have hy:y∈x::S:=h.mem_iff.2 List.mem_cons_self
   rcases List.mem_cons.1 hx with e|e
   ·exact e
   ·rcases List.mem_cons.1 hy with e2|e2
    ·exact e2.symm
    ·exact (Rt.irrefl hp (hD x List.mem_cons_self) (hD y hy) ((List.pairwise_cons.1 hS).1 y e2) ((List.pairwise_cons.1 hT).1 x e)).elim
  subst hxy
  rw [e4v hp S T ((List.perm_cons x).1 h) (fun z hz=>hD z (List.mem_cons_of_mem _ hz)) (List.pairwise_cons.1 hS).2 (List.pairwise_cons.1 hT).2]
def a2r (l:List α):List (α × Nat):=l.zipIdx
theorem c0j (l:List α):fs (a2r l)=l:=by simp [a2r,fs]
theorem d0w (l:List α):(a2r l).Pairwise (fun x y=>x.2<y.2):=by
 rw [List.pairwise_iff_getElem]
 intro i j hi hj h
 simp [a2r]; omega
def c7j (cm:α ->α ->Int) (l r:List α):Prop:=∃S,Srt cm S /\ S.Perm (a2r l) /\ r=fs S
theorem c7j.one (hp:Pre cm Dm) {l r t:List α} (hD:∀x∈l,Dm x) (h1:c7j cm l r) (h2:c7j cm l t):r=t:=by
 obtain ⟨S,a1,a2,rfl⟩:=h1
 obtain ⟨T,b1,b2,rfl⟩:=h2
 have hm:∀x∈S,Dm x.1:=fun x hx=>hD _ (by rw [<-c0j l]; exact List.mem_map_of_mem (a2.mem_iff.1 hx))
 rw [e4v hp S T (a2.trans b2.symm) hm a1 b1]
end
def f3j {α:Type} (P:Program) (e:α ->List AV) (sz:Nat) (f:FuncId) (l:List α):Prop:=
 b7a P f [.sl (l.map e) .no] ⟨[],[],[]⟩ fun a h=>a=.row 0 0 sz l.length l.length /\ h=⟨[some (cellsOf e l)],[],[]⟩
section
variable {α:Type} {e:α ->List AV} {sz:Nat}
theorem e9d {P:Program} {f:FuncId} {l:List α} {args':List AV} {h:A3} {K:AV ->A3 ->Prop} (hf:f3j P e sz f l) (he:c2t e sz) (h0:l≠[]) (ha:args'.map nz=[.sl (l.map e) .no])
  (hk:K (.row h.blks.length 0 sz l.length l.length) ⟨h.blks++[some (cellsOf e l)],h.bufs,h.globs⟩):b7a P f args' h K:=by
 refine ⟨hf.1,fun σ cargs hi hr=> ?_⟩
 have hopen:∀b o,σ.open_ b o ->b<σ.w.heap.size:=by
  rintro b o (ho|⟨n,hn⟩|⟨id,e,he,hs⟩)
  ·exact (hi.outer b o ho).1
  ·exact hi.lt hn
  ·obtain ⟨v,hv⟩:=Option.isSome_iff_exists.1 (hi.bufat id e b o he hs).1
   exact a12 hv
 have hp:plainL [AV.sl (l.map e) .no]=true:=by
  simp only [plainL,plain,Bool.and_true,Bool.true_and]
  exact D0 e l fun y _=>he.hp y
 have hrels:c6k (bare σ.w σ.open_) [.sl (l.map e) .no] cargs.toList:=by
  refine ⟨by rw [hr.1,<-ha]; simp,fun i av hav=> ?_⟩
  have hav':=hav
  rw [<-ha] at hav
  simp only [List.getElem?_map,Option.map_eq_some_iff] at hav
  obtain ⟨b,hb,rfl⟩:=hav
  obtain ⟨x,h1,h2⟩:=hr.2 i b hb
  exact ⟨x,h1,h2.nz.down (N5 hp i _ hav') rfl fun _ _ h=>h⟩
 have hglobs:d68 σ.w σ.open_ []:=fun g cells hg=>by cases hg
 refine (hf.2 (bare σ.w σ.open_) cargs (c6x hopen hglobs) hrels).mono fun e1 w' hq=> ?_
 obtain ⟨σ1,h1,av,x,rfl,rfl,hle,hi1,hrx,rfl,rfl⟩:=hq
 have hpast:b7r σ.w σ1.w:=⟨hle.size,fun b hb=>hle.whole b hb fun o=>b1x σ.w σ.open_ b o,hle.os,hle.tape,hle.output⟩
 obtain ⟨b0,hb0,hat⟩:=hi1.blk 0 _ rfl
 have hge:σ.w.heap.size<=b0:=by
  rcases Nat.lt_or_ge b0 σ.w.heap.size with hlt|hge
  ·exact (b1x σ.w σ.open_ b0 0 (hle.own b0 0 hlt (.inl ⟨0,hb0⟩))).elim
  ·exact hge
 let σ2:Sg:=⟨σ1.w,fun n=>if n=h.blks.length then some b0 else σ.blk n,σ.buf,σ.outer⟩
 have hdom:∀n b,σ.blk n=some b ->n<h.blks.length:=fun n b hn=>hi.name hn
 have hblt:∀n b,σ.blk n=some b ->b<σ.w.heap.size:=fun n b hn=>hi.lt hn
 have hslt:∀id e b o,σ.buf id=some e ->e.spare b o ->b<σ.w.heap.size:=by
  intro id e b o he hs
  obtain ⟨v,hv⟩:=Option.isSome_iff_exists.1 (hi.bufat id e b o he hs).1
  exact a12 hv
 have hle2:Le σ σ2:={
  blk:=fun n b hn=>by
   show (if n=h.blks.length then some b0 else σ.blk n)=some b
   rw [if_neg (by have:=hdom n b hn; omega)]; exact hn
  buf:=fun _ e h=>⟨e,h,Nat.le_refl _,rfl,fun _=>rfl⟩
  outer:=rfl
  cell:=fun b o hb _=>Q5 (hpast.old b hb) o
  ext:=(Le.world (σ:=σ) hpast).ext
  whole:=fun b hb _=>hpast.old b hb
  own:=fun b o hb ho=>by
   rcases ho with ⟨n,hn⟩|hx
   ·simp only [σ2] at hn
    split at hn
    ·cases hn; omega
    ·exact .inl ⟨n,hn⟩
   ·exact .inr hx
  size:=hpast.size
  os:=hpast.os
  tape:=hpast.tape
  output:=hpast.output}
 have hop:∀b o,σ2.open_ b o ->σ1.open_ b o:=by
  have side:∀b o,σ.open_ b o ->σ1.open_ b o:=fun b o h=>.inl (by rw [hle.outer]; exact h)
  rintro b o (ho|⟨n,hn⟩|ho)
  ·exact side b o (.inl ho)
  ·simp only [σ2] at hn
   split at hn
   ·cases hn; exact .inr (.inl ⟨0,hb0⟩)
   ·exact side b o (.inr (.inl ⟨n,hn⟩))
  ·exact side b o (.inr (.inr ho))
 have hni:a63 (cellsOf e l)=true:=a4p he.hn h0
 have hat2:a8j σ2 b0 (cellsOf e l):=by
  obtain ⟨cs,rest,elem,g1,g2⟩:=hat.plain hni
  refine .cells _ cs rest elem g1 ⟨g2.1,fun i a hia=> ?_⟩
  obtain ⟨k1,y,k2,k3⟩:=g2.2 i a hia
  exact ⟨k1,y,k2,k3.move (he.mem (List.mem_of_getElem? hia)).1 rfl hop⟩
 refine ⟨σ2,_,_,x,rfl,rfl,hle2, ?_, ?_,hk⟩
 ·exact {
   blk:=fun n cs hn=>by
    by_cases hl:n<h.blks.length
    ·rw [List.getElem?_append_left hl] at hn
     obtain ⟨b,h1,h2⟩:=hi.blk n cs hn
     exact ⟨b,hle2.blk n b h1,h2.keep hle2 (hpast.old b h2.lt)⟩
    ·rw [List.getElem?_append_right (by omega)] at hn
     have hz:n=h.blks.length:=by
      by_cases hz:n - h.blks.length=0
      ·omega
      ·rw [List.getElem?_eq_none (by simp; omega)] at hn; cases hn
     subst hz
     simp at hn
     subst hn
     exact ⟨b0,if_pos rfl,hat2⟩
   dom:=fun n b hn=>by
    simp only [σ2] at hn
    split at hn
    ·rename_i hz; subst hz; exact ⟨cellsOf e l,by simp⟩
    ·obtain ⟨cs,hcs⟩:=hi.dom n b hn
     exact ⟨cs,by rw [List.getElem?_append_left (hdom n b hn)]; exact hcs⟩
   inj:=fun n m b c c' hc hc' hz hz' hn hm=>by
    simp only [σ2] at hn hm
    split at hn<;>split at hm
    ·omega
    ·cases hn; have:=hblt m _ hm; omega
    ·cases hm; have:=hblt n _ hn; omega
    ·rw [List.getElem?_append_left (hdom n b hn)] at hc
     rw [List.getElem?_append_left (hdom m b hm)] at hc'
     exact hi.inj n m b c c' hc hc' hz hz' hn hm
   buf:=hi.buf
   bufdom:=hi.bufdom
   bufle:=hi.bufle
   bufat:=(hi.world hpast).bufat
   bufinj:=hi.bufinj
   bufblk:=fun id e n b o he hs hn=>by
    simp only [σ2] at hn
    split at hn
    ·cases hn; have:=hslt id e _ o he hs; omega
    ·exact hi.bufblk id e n b o he hs hn
   outer:=fun b o ho=>by
    obtain ⟨h1,h2⟩:=hi.outer b o ho
    exact ⟨Nat.lt_of_lt_of_le h1 hpast.size,fun hx=>h2 (hle2.own b o h1 hx)⟩
   glob:=fun g cells hg=>(hi.glob g cells hg).mono hle2}
 ·cases hrx with
  |row _ _ _ _ _ b cap hb hc hm hx=>
   rw [hb0] at hb
   cases hb
   exact .row _ _ _ _ _ b0 cap (if_pos rfl) hc hm hx
theorem g7n {P:Program} {g:FuncId} {env:Env} {args:List J6} {h:A3} {l:List α} (hf:f3j P e sz g l) (he:c2t e sz) (h0:l≠[]) (ha:(evs env args).map (List.map nz)=some [.sl (l.map e) .no]:=by kernel_rfl):
  a2h P (.call (.c (.clo (.func g) [] [])) args) env h (.row h.blks.length 0 sz l.length l.length) ⟨h.blks++[some (cellsOf e l)],h.bufs,h.globs⟩:=by
 obtain ⟨l',h1,h2⟩:=Option.map_eq_some_iff.1 ha
 exact fun K hk=>(d40 rfl h1 (e9d hf he h0 h2 hk)).out
def g77 (e:α ->List AV) (sz:Nat) (rs:List b5j) (l:List α):Exit ->Env ->A3 ->Prop
 |.ret,env,h=>d2g env h rs fun l'=>c93 l'=.row 0 0 sz l.length l.length /\ h=⟨[some (cellsOf e l)],[],[]⟩
 |_,_,_=>False
theorem g3s {P:Program} {N:Nat} {f:FuncId} {ac:M8} {rs:List b5j} (hf:a7v P f=some (N,ac,rs)) {l:List α} {e₀:Env} (hn:Nat.ble 1 N=true) (he:b5h 0 [.sl (l.map e) .no]=e₀)
  (hbody:D P N 0 0 ac (g77 e sz rs l) e₀ ⟨[],[],[]⟩):f3j P e sz f l:=by
 subst he
 refine d64 hf (Nat.le_of_ble_eq_true hn) (c0o (c0z (Nat.le_refl _) (Nat.le_refl _) hbody) fun x env h hq=> ?_)
 cases x<;>first|exact hq|exact hq.elim
theorem h0g {rs:List b5j} {l:List α} {env:Env} {h:A3} {c:List AV} (hc:c=cellsOf e l) (hh:h=⟨[some c],[],[]⟩:=by kernel_rfl) (ho:(c4v env h rs).map c93=some (.row 0 0 sz l.length l.length):=by kernel_rfl):g77 e sz rs l .ret env h:=by
 subst hc
 obtain ⟨l',h1,h2⟩:=Option.map_eq_some_iff.1 ho
 exact b18 h1 ⟨h2,hh⟩
theorem g0k {P:Program} {env:Env} {h:A3} {size byt:Nat} {x y:J6} (e:α ->List AV) (l:List α) (h0:l≠[]) (hb:l.length*byt<=140737488355328) (hs:∀y,(e y).length=size) (hm:(y.ev env).bind (c6r h size)=some (List.map e l)) (hx:x.ev env=some (.sl [] .full):=by kernel_rfl):a2h P (.append size byt x y) env h (.row h.blks.length 0 size l.length l.length) ⟨h.blks++[some (cellsOf e l)],h.bufs,h.globs⟩:=by
 obtain ⟨Y,h1,h2⟩:=Option.bind_eq_some_iff.1 hm
 intro K hk
 simp only [aop,hx,h1,wv]
 refine .inr ?_
 simp only [b3k,h2]
 refine ⟨⟨b75 hs,fun hn=>h0 (List.map_eq_nil_iff.1 hn)⟩, ?_, ?_, ?_⟩
 ·intro el hel; simp at hel
 ·simpa using hb
 ·simpa [cellsOf] using hk
theorem g4x {X:Prop} (l:List α) (h1:l=[] ->X) (h2:l≠[] ->X):X:=by
 rcases Classical.em (l=[]) with h|h
 ·exact h1 h
 ·exact h2 h
end
def d5f (n:Nat):List AV ->List (Nat × Nat × Nat)
 |[]=>[]
 |.row k off size len _::r=>if k=n then (off,size,len)::d5f n r else d5f n r
 |_::r=>d5f n r
theorem d5y {n:Nat}:∀{l:List AV} {off size len cap:Nat},.row n off size len cap∈l ->(off,size,len)∈d5f n l
 |[],_,_,_,_,h=>by cases h
 |a::r,off,size,len,cap,h=>by
  rcases List.mem_cons.1 h with h|h
  ·subst h; simp [d5f]
  ·have:=d5y h
   unfold d5f
   split
   ·rename_i heq; cases heq
   ·rename_i heq; cases heq; split
    ·exact List.mem_cons_of_mem _ this
    ·exact this
   ·rename_i heq; cases heq; exact this
def e38 (n:Nat):List (Option (List AV)) ->List (Nat × Nat × Nat)
 |[]=>[]
 |some c::r=>d5f n c++e38 n r
 |none::r=>e38 n r
theorem d4o {n:Nat}:∀{l:List (Option (List AV))} {i:Nat} {c:List AV} {x:Nat × Nat × Nat},l[i]? =some (some c) ->x∈d5f n c ->x∈e38 n l
 |[],i,c,x,h,_=>by simp at h
 |o::r,i,c,x,h,hx=>by
  cases i with
  |zero=>simp at h; subst h; exact List.mem_append_left _ hx
  |succ i=>
   have:=d4o (l:=r) (i:=i) (by simpa using h) hx
   cases o with
   |none=>exact this
   |some c'=>exact List.mem_append_right _ this
def f41 (n:Nat) (els:List (List AV)) (bs:List (Option (List AV))):List (Option (List AV)):=bs.map (Option.map (List.map (rfz n els)))
theorem e9h (n:Nat) (els:List (List AV)) (a:AV):(rfz n els a).isCell=a.isCell:=by
 cases a with
 |row k off size len cap=>simp only [rfz]; split<;>rfl
 |_=>rfl
section
variable {σ:Sg} {h:A3} {n:Nat} {m:List Bool} {k:Nat} {cells:List AV} {els:List (List AV)} {sz len:Nat}
theorem e7g (hi:Inv h σ) (hb:h.blks[n]? =some (some cells)) (hce:els.flatten=cells) (hsz:∀el∈els,el.length=sz) (hlen:els.length=len) (hit:els≠[] ->a63 cells=true) (hmn:m.getD n false=false) (hal:c4f m h.blks=true)
  {a0:AV} {y:Value} (h3:Rel σ a0 y) (hrow:∀off size len' cap,a0=.row n off size len' cap ->off=0 /\ size=sz /\ len'=len) (hlow:low m k (rfz n els a0)=true):Rel (σ.cut m k) (rfz n els a0) y:=by
 cases a0 with
 |row j off size len' cap=>
  simp only [rfz] at hlow ⊢
  split at hlow
  ·rename_i hj
   subst hj
   rw [if_pos rfl]
   obtain ⟨rfl,rfl,rfl⟩:=hrow _ _ _ _ rfl
   cases h3 with
   |row _ _ _ _ _ b cap' hblk hcap _ _=>
   obtain ⟨b',h4,h5⟩:=hi.blk j cells hb
   rw [hblk] at h4; cases h4
   subst hlen
   rcases Classical.em (els=[]) with h0|h0
   ·subst h0; exact .slx _ ⟨b,0,none⟩ cap' trivial (.inl rfl)
   have hni:=hit h0
   obtain ⟨cs,rest,elem,h6,h7⟩:=h5.plain hni
   have hlc:lowLL m k els=true:=by simpa [low] using hlow
   have key:∀(i:Nat) (el:List AV),els[i]? =some el ->∀(q:Nat) (av:AV),el[q]? =some av ->∃xv,σ.w.cell? ⟨b,0+i*size+q,none⟩=some xv /\ Rel σ av xv /\ av.isCell=true:=by
    intro i el hie q av hq
    have hql:q<size:=by rw [<-hsz el (List.mem_of_getElem? hie)]; exact (List.getElem?_eq_some_iff.1 hq).1
    have hf:=b1s els hsz i q hql
    rw [hie,Option.bind_some,hq,hce] at hf
    obtain ⟨q1,xv,q2,q3⟩:=h7.2 _ av hf
    refine ⟨xv, ?_,q3,q1⟩
    have hlt:=(List.getElem?_eq_some_iff.1 q2).1
    rw [Nat.zero_add]
    simp [World.cell?,h6,List.getElem?_append_left hlt,q2]
   have hne:cells≠[]:=b2s hni
   refine Rel.sl (σ:=σ.cut m k) els .no b 0 cap' size (fun i q=>(σ.w.cell? ⟨b,0+i*size+q,none⟩).getD undef) (fun i el hie=>hsz el (List.mem_of_getElem? hie)) hcap trivial (fun id e hid=>by cases hid) (fun i el hie q av hq=> ?_) fun i el hie q av hq=> ?_
   ·obtain ⟨xv,q1,q2,q3⟩:=key i el hie q av hq
    refine ⟨by show σ.w.cell? _=_; rw [q1]; rfl, ?_,q3⟩
    rintro (ho|⟨j',hj'⟩|⟨id,eb,he1,he2⟩)
    ·exact (hi.outer _ _ ho).2 (.inl ⟨j,hblk⟩)
    ·simp only [Sg.cut] at hj'
     split at hj'
     ·rename_i hmj
      obtain ⟨c',hc'⟩:=hi.dom j' b hj'
      have:=hi.inj j' j b c' cells hc' hb (c12 hal hmj hc') hne hj' hblk
      subst this
      rw [hmn] at hmj; cases hmj
     ·cases hj'
    ·simp only [Sg.cut] at he1
     split at he1
     ·exact hi.bufblk id eb j b _ he1 he2 hblk
     ·cases he1
   ·obtain ⟨xv,q1,q2,q3⟩:=key i el hie q av hq
    rw [q1]
    exact q2.cut (a3t (c2r hlc i el hie) q av hq)
  ·rename_i hj
   rw [if_neg hj]
   exact h3.cut hlow
 |_=>exact h3.cut hlow
theorem Inv.cutR (hi:Inv h σ) (hb:h.blks[n]? =some (some cells)) (hce:els.flatten=cells) (hsz:∀el∈els,el.length=sz) (hlen:els.length=len) (hit:els≠[] ->a63 cells=true) (hmn:m.getD n false=false) (hal:c4f m h.blks=true)
  (hrow:∀(i:Nat) (c:List AV),(W8 m h.blks)[i]? =some (some c) ->∀off size len' cap,AV.row n off size len' cap∈c ->off=0 /\ size=sz /\ len'=len) (hB:a4b m k (f41 n els (W8 m h.blks))=true) (hg:S0 h.globs=true):Inv ⟨f41 n els (W8 m h.blks),h.bufs.take k,h.globs⟩ (σ.cut m k):=by
 have hblk:∀{j b:Nat},(σ.cut m k).blk j=some b ->m.getD j false=true /\ σ.blk j=some b:=by
  intro k b hk
  simp only [Sg.cut] at hk
  split at hk
  ·rename_i h1; exact ⟨h1,hk⟩
  ·cases hk
 have hbuf:∀{j:Nat} {e:Buf},(σ.cut m k).buf j=some e ->j<k /\ σ.buf j=some e:=by
  intro k b hk
  simp only [Sg.cut] at hk
  split at hk
  ·rename_i h1; exact ⟨h1,hk⟩
  ·cases hk
 have hget:∀{j:Nat} {c:List AV},(f41 n els (W8 m h.blks))[j]? =some (some c) ->∃c0,(W8 m h.blks)[j]? =some (some c0) /\ c=c0.map (rfz n els):=by
  intro j c hj
  simp only [f41,List.getElem?_map,Option.map_eq_some_iff] at hj
  obtain ⟨o,h1,h2⟩:=hj
  obtain ⟨c0,rfl,h3⟩:=h2
  exact ⟨c0,h1,h3.symm⟩
 have hne:∀{c0:List AV},c0.map (rfz n els)≠[] ->c0≠[]:=by rintro _ h rfl; exact h rfl
 refine ⟨fun j cs' hj=> ?_,fun j b hj=> ?_,fun j l b c c' hj hl hc hc' h1 h2=> ?_,fun id c hc=> ?_,fun id e he=> ?_,fun id e he=>hi.bufle id e (hbuf he).2,fun id e b o he hs=>hi.bufat id e b o (hbuf he).2 hs,fun i j e f b o he hf h1 h2=>hi.bufinj i j e f b o (hbuf he).2 (hbuf hf).2 h1 h2,fun id e k b o he hs hk=>hi.bufblk id e k b o (hbuf he).2 hs (hblk hk).2,fun b o ho=>⟨(hi.outer b o ho).1,fun h=>(hi.outer b o ho).2 (d2b h)⟩,fun g cells hgl=> ?_⟩
 ·obtain ⟨c0,h0,rfl⟩:=hget hj
  obtain ⟨h1,h2⟩:=b0b h0
  obtain ⟨b,h3,h4⟩:=hi.blk j c0 h2
  refine ⟨b,by simp only [Sg.cut]; rw [if_pos h1]; exact h3, ?_⟩
  have hlow:=d24 hB hj
  cases h4 with
  |cells _ cs rest elem h5 h6=>
   refine .cells _ cs rest elem h5 ⟨by rw [h6.1]; simp,fun i a hia=> ?_⟩
   have hla:=a3t hlow i a hia
   simp only [List.getElem?_map,Option.map_eq_some_iff] at hia
   obtain ⟨a0,q1,rfl⟩:=hia
   obtain ⟨q2,x,q3,q4⟩:=h6.2 i a0 q1
   refine ⟨by rw [e9h]; exact q2,x,q3,e7g hi hb hce hsz hlen hit hmn hal q4 (fun off size len' cap he=> ?_) hla⟩
   subst he
   exact hrow j c0 h0 _ _ _ _ (List.mem_of_getElem? q1)
  |it s p h5=>exact .it s p h5
 ·obtain ⟨h1,h2⟩:=hblk hj
  obtain ⟨c,h3⟩:=hi.dom j b h2
  exact ⟨c.map (rfz n els),by simp only [f41,List.getElem?_map,d2v h1 h3]; rfl⟩
 ·obtain ⟨c0,k0,rfl⟩:=hget hj
  obtain ⟨c1,k1,rfl⟩:=hget hl
  exact hi.inj j l b c0 c1 (b0b k0).2 (b0b k1).2 (hne hc) (hne hc') (hblk h1).2 (hblk h2).2
 ·rw [List.getElem?_take] at hc
  split at hc
  ·rename_i h1
   obtain ⟨e,h2,h3⟩:=hi.buf id c hc
   exact ⟨e,by simp only [Sg.cut]; rw [if_pos h1]; exact h2,h3⟩
  ·cases hc
 ·obtain ⟨h1,h2⟩:=hbuf he
  rw [List.getElem?_take,if_pos h1]
  exact hi.bufdom id e h2
 ·have hl0:Lift.low m k (.elt cells 0)=true:=by simp only [Lift.low]; exact lowL_plain m k cells (List.all_eq_true.1 hg _ hgl)
  exact (hi.glob g cells hgl).cut hl0
end
theorem h1i {P:Program} {h:A3} {env:Env} {N kb kf:Nat} {Q:Exit ->Env ->A3 ->Prop} {x:M8} {α:Type} {f:α ->List AV} {sz:Nat} (n:Nat) (m:List Bool) (k c c':Nat) (l:List α) (len:Nat) (e:Env) (bs:List (Option (List AV))) (hs:∀y,(f y).length=sz) (hni:∀y,a63 (f y)=true) (hlen:l.length=len) (hw:a6c m k e=true /\ a4b m k bs=true) (hx:D P N kb kf x Q e ⟨bs,h.bufs.take k,h.globs⟩) (hb:h.blks[n]? =some (some (cellsOf f l)):=by kernel_rfl) (hrow:b5n n env=List.replicate c (0,sz,len):=by kernel_rfl) (hrowB:e38 n (W8 m h.blks)=List.replicate c' (0,sz,len):=by kernel_rfl) (hmn:m.getD n false=false:=by kernel_rfl) (hal:c4f m h.blks=true:=by kernel_rfl) (hm:∀k,k<kb ->m.getD k false=true:=by intro k hk; first|exact absurd hk (Nat.not_lt_zero _)|exact f92 rfl k hk) (hkf:Nat.ble kf k=true:=by kernel_rfl) (hE:f2u n (List.map f l) env=e:=by kernel_rfl) (hbs:f41 n (List.map f l) (W8 m h.blks)=bs:=by kernel_rfl) (hg:S0 h.globs=true:=by kernel_rfl):D P N kb kf x Q env h:=⟨by
 subst hbs hE
 intro co hc σ0 σ a hst hle hl
 have h1:(List.map f l).flatten=cellsOf f l:=rfl
 have h2:∀el∈List.map f l,el.length=sz:=b75 hs
 have h3:(List.map f l).length=len:=by rw [List.length_map]; exact hlen
 have h4:List.map f l≠[] ->a63 (cellsOf f l)=true:=fun h0=>a4p hni (fun h=>h0 (by rw [h]; rfl))
 have inr:∀{c:Nat} {q:Nat × Nat × Nat},q∈List.replicate c (0,sz,len) ->q.1=0 /\ q.2.1=sz /\ q.2.2=len:=by
  intro c q hq
  rw [(List.mem_replicate.1 hq).2]
  exact ⟨rfl,rfl,rfl⟩
 refine hx.out co hc σ0 (σ.cut m k) a ⟨hst.inv.cutR hb h1 h2 h3 h4 hmn hal (fun i c hc off size len' cap ha=> ?_) hw.2 hg,fun t av ht=> ?_,hst.size,hst.defers⟩ (hle.cut hl hm (Nat.le_of_ble_eq_true hkf)) hl
 ·have:=d4o hc (d5y ha)
  rw [hrowB] at this
  exact inr this
 ·have hlow:=c0l hw.1 ht
  obtain ⟨a0,k1,rfl⟩:=d2m ht
  obtain ⟨y,k2,k3⟩:=hst.env t a0 k1
  refine ⟨y,k2,e7g hst.inv hb h1 h2 h3 h4 hmn hal k3 (fun off size len' cap he=> ?_) hlow⟩
  subst he
  have:=c28 k1
  rw [hrow] at this
  exact inr this⟩
def f8a {α:Type} (P:Program) (e:α ->List AV) (sz:Nat) (f:FuncId) (l:List α):Prop:=
 b7a P f [.sl (l.map e) .no] ⟨[],[],[]⟩ fun a h=>a=.sl (l.map e) (.own 0) /\ h=⟨[],[(l.length,sz)],[]⟩
section
variable {α:Type} {e:α ->List AV} {sz:Nat}
theorem e2w {P:Program} {f:FuncId} {l:List α} {args':List AV} {h:A3} {K:AV ->A3 ->Prop} (hf:f8a P e sz f l) (hpl:∀y,plainL (e y)=true) (ha:args'.map nz=[.sl (l.map e) .no])
  (hk:K (.sl (l.map e) (.own h.bufs.length)) ⟨h.blks,h.bufs++[(l.length,sz)],h.globs⟩):b7a P f args' h K:=by
 refine ⟨hf.1,fun σ cargs hi hr=> ?_⟩
 have hopen:∀b o,σ.open_ b o ->b<σ.w.heap.size:=by
  rintro b o (ho|⟨n,hn⟩|⟨id,e,he,hs⟩)
  ·exact (hi.outer b o ho).1
  ·exact hi.lt hn
  ·obtain ⟨v,hv⟩:=Option.isSome_iff_exists.1 (hi.bufat id e b o he hs).1
   exact a12 hv
 have hpp:plainLL (l.map e)=true:=D0 e l fun y _=>hpl y
 have hp:plainL [AV.sl (l.map e) .no]=true:=by
  simp only [plainL,plain,Bool.and_true,Bool.true_and]
  exact hpp
 have hrels:c6k (bare σ.w σ.open_) [.sl (l.map e) .no] cargs.toList:=by
  refine ⟨by rw [hr.1,<-ha]; simp,fun i av hav=> ?_⟩
  have hav':=hav
  rw [<-ha] at hav
  simp only [List.getElem?_map,Option.map_eq_some_iff] at hav
  obtain ⟨b,hb,rfl⟩:=hav
  obtain ⟨x,h1,h2⟩:=hr.2 i b hb
  exact ⟨x,h1,h2.nz.down (N5 hp i _ hav') rfl fun _ _ h=>h⟩
 have hglobs:d68 σ.w σ.open_ []:=fun g cells hg=>by cases hg
 refine (hf.2 (bare σ.w σ.open_) cargs (c6x hopen hglobs) hrels).mono fun e1 w' hq=> ?_
 obtain ⟨σ1,h1,av,x,rfl,rfl,hle,hi1,hrx,rfl,rfl⟩:=hq
 have hpast:b7r σ.w σ1.w:=⟨hle.size,fun b hb=>hle.whole b hb fun o=>b1x σ.w σ.open_ b o,hle.os,hle.tape,hle.output⟩
 obtain ⟨eb,heb,hec⟩:=hi1.buf 0 _ rfl
 have hsp:∀b o,eb.spare b o ->σ.w.heap.size<=b:=by
  intro b o hs
  rcases Nat.lt_or_ge b σ.w.heap.size with hlt|hge
  ·exact (b1x σ.w σ.open_ b o (hle.own b o hlt (.inr ⟨0,eb,heb,hs⟩))).elim
  ·exact hge
 let σ2:Sg:=⟨σ1.w,σ.blk,fun id=>if id=h.bufs.length then some eb else σ.buf id,σ.outer⟩
 have hbn:∀id e,σ.buf id=some e ->id<h.bufs.length:=fun id e he=>(List.getElem?_eq_some_iff.1 (hi.bufdom id e he)).1
 have hblt:∀n b,σ.blk n=some b ->b<σ.w.heap.size:=fun n b hn=>hi.lt hn
 have hslt:∀id e b o,σ.buf id=some e ->e.spare b o ->b<σ.w.heap.size:=by
  intro id e b o he hs
  obtain ⟨v,hv⟩:=Option.isSome_iff_exists.1 (hi.bufat id e b o he hs).1
  exact a12 hv
 have hb2:∀{id:Nat} {f:Buf},σ2.buf id=some f ->(id=h.bufs.length /\ f=eb)\/(id≠h.bufs.length /\ σ.buf id=some f):=by
  intro id f hf
  simp only [σ2] at hf
  split at hf
  ·rename_i h0; cases hf; exact .inl ⟨h0,rfl⟩
  ·rename_i h0; exact .inr ⟨h0,hf⟩
 have hle2:Le σ σ2:={
  blk:=fun n b hn=>hn
  buf:=fun id f hf=>⟨f,by show (if id=h.bufs.length then some eb else σ.buf id)=some f; rw [if_neg (by have:=hbn id f hf; omega)]; exact hf,Nat.le_refl _,rfl,fun _=>rfl⟩
  outer:=rfl
  cell:=fun b o hb _=>Q5 (hpast.old b hb) o
  ext:=(Le.world (σ:=σ) hpast).ext
  whole:=fun b hb _=>hpast.old b hb
  own:=fun b o hb ho=>by
   rcases ho with ⟨n,hn⟩|⟨id,f,hf,hs⟩
   ·exact .inl ⟨n,hn⟩
   ·rcases hb2 hf with ⟨_,rfl⟩|⟨_,hf'⟩
    ·have:=hsp b o hs; omega
    ·exact .inr ⟨id,f,hf',hs⟩
  size:=hpast.size
  os:=hpast.os
  tape:=hpast.tape
  output:=hpast.output}
 have hop:∀b o,σ2.open_ b o ->σ1.open_ b o:=by
  have side:∀b o,σ.open_ b o ->σ1.open_ b o:=fun b o h=>.inl (by rw [hle.outer]; exact h)
  rintro b o (ho|⟨n,hn⟩|⟨id,f,hf,hs⟩)
  ·exact side b o (.inl ho)
  ·exact side b o (.inr (.inl ⟨n,hn⟩))
  ·rcases hb2 hf with ⟨_,rfl⟩|⟨_,hf'⟩
   ·exact .inr (.inr ⟨0,f,heb,hs⟩)
   ·exact side b o (.inr (.inr ⟨id,f,hf',hs⟩))
 have hbuf2:σ2.buf h.bufs.length=some eb:=if_pos rfl
 refine ⟨σ2,_,_,x,rfl,rfl,hle2, ?_, ?_,hk⟩
 ·exact {
   blk:=fun n cs hn=>by
    obtain ⟨b,h1,h2⟩:=hi.blk n cs hn
    exact ⟨b,h1,h2.keep hle2 (hpast.old b h2.lt)⟩
   dom:=hi.dom
   inj:=hi.inj
   buf:=fun id c hc=>by
    by_cases hl:id<h.bufs.length
    ·rw [List.getElem?_append_left hl] at hc
     obtain ⟨f,h1,h2⟩:=hi.buf id c hc
     exact ⟨f,by show (if id=h.bufs.length then some eb else σ.buf id)=some f; rw [if_neg (by omega)]; exact h1,h2⟩
    ·rw [List.getElem?_append_right (by omega)] at hc
     have hz:id=h.bufs.length:=by
      by_cases hz:id - h.bufs.length=0
      ·omega
      ·rw [List.getElem?_eq_none (by simp; omega)] at hc; cases hc
     subst hz
     simp at hc
     exact ⟨eb,hbuf2,by rw [hec,<-hc]⟩
   bufdom:=fun id f hf=>by
    rcases hb2 hf with ⟨rfl,rfl⟩|⟨h0,hf'⟩
    ·rw [List.getElem?_append_right (Nat.le_refl _),Nat.sub_self,hec]; rfl
    ·rw [List.getElem?_append_left (hbn id f hf')]; exact hi.bufdom id f hf'
   bufle:=fun id f hf=>by
    rcases hb2 hf with ⟨_,rfl⟩|⟨_,hf'⟩
    ·exact hi1.bufle 0 f heb
    ·exact hi.bufle id f hf'
   bufat:=fun id f b o hf hs=>by
    rcases hb2 hf with ⟨_,rfl⟩|⟨_,hf'⟩
    ·exact hi1.bufat 0 f b o heb hs
    ·exact (hi.world hpast).bufat id f b o hf' hs
   bufinj:=fun i j f g b o hf hg h1 h2=>by
    rcases hb2 hf with ⟨rfl,rfl⟩|⟨_,hf'⟩<;>rcases hb2 hg with ⟨rfl,rfl⟩|⟨_,hg'⟩
    ·rfl
    ·have:=hsp b o h1; have:=hslt j g b o hg' h2; omega
    ·have:=hsp b o h2; have:=hslt i f b o hf' h1; omega
    ·exact hi.bufinj i j f g b o hf' hg' h1 h2
   bufblk:=fun id f n b o hf hs hn=>by
    rcases hb2 hf with ⟨_,rfl⟩|⟨_,hf'⟩
    ·have:=hsp b o hs; have:=hblt n b hn; omega
    ·exact hi.bufblk id f n b o hf' hs hn
   outer:=fun b o ho=>by
    obtain ⟨h1,h2⟩:=hi.outer b o ho
    exact ⟨Nat.lt_of_lt_of_le h1 hpast.size,fun hx=>h2 (hle2.own b o h1 hx)⟩
   glob:=fun g cells hg=>(hi.glob g cells hg).mono hle2}
 ·have tk:∀{len:Nat} {a:Option Addr} {cap:Nat},c2o σ1 (.own 0) len a cap ->c2o σ2 (.own h.bufs.length) len a cap:=by
   rintro len a cap ⟨f,h1,h2⟩
   rw [heb] at h1; cases h1
   exact ⟨eb,hbuf2,h2⟩
  generalize hels:l.map e=els at hrx hpp ⊢
  cases hrx with
  |sl0 _ ht=>exact .sl0 _ (tk ht)
  |slx _ a cap ht hc=>exact .slx _ a cap (tk ht) (hc.elim (fun h=>by cases h) .inr)
  |sl _ _ b o cap size xs hs hcap ht hz hc hr=>
   refine .sl _ _ b o cap size xs hs hcap (tk ht) (fun j f hj hf=> ?_) (fun i el hi j av hj=> ?_) fun i el hi j av hj=> ?_
   ·cases hj; rw [hbuf2] at hf; cases hf; exact hz 0 eb rfl heb
   ·obtain ⟨h1,h2,h3⟩:=hc i el hi j av hj
    exact ⟨h1,fun h=>h2 (hop _ _ h),h3⟩
   ·exact (hr i el hi j av hj).move (N5 (a4h hpp i el hi) j av hj) rfl hop
theorem g2d {P:Program} {g:FuncId} {env:Env} {args:List J6} {h:A3} {l:List α} (hf:f8a P e sz g l) (hpl:∀y,plainL (e y)=true) (ha:(evs env args).map (List.map nz)=some [.sl (l.map e) .no]:=by kernel_rfl):
  a2h P (.call (.c (.clo (.func g) [] [])) args) env h (.sl (l.map e) (.own h.bufs.length)) ⟨h.blks,h.bufs++[(l.length,sz)],h.globs⟩:=by
 obtain ⟨l',h1,h2⟩:=Option.map_eq_some_iff.1 ha
 exact fun K hk=>(d40 rfl h1 (e2w hf hpl h2 hk)).out
def g15 (e:α ->List AV) (sz:Nat) (rs:List b5j) (l:List α):Exit ->Env ->A3 ->Prop
 |.ret,env,h=>d2g env h rs fun l'=>c93 l'=.sl (l.map e) (.own 0) /\ h=⟨[],[(l.length,sz)],[]⟩
 |_,_,_=>False
theorem g0x {P:Program} {N:Nat} {f:FuncId} {ac:M8} {rs:List b5j} (hf:a7v P f=some (N,ac,rs)) {l:List α} {e₀:Env} (hn:Nat.ble 1 N=true) (he:b5h 0 [.sl (l.map e) .no]=e₀)
  (hbody:D P N 0 0 ac (g15 e sz rs l) e₀ ⟨[],[],[]⟩):f8a P e sz f l:=by
 subst he
 refine d64 hf (Nat.le_of_ble_eq_true hn) (c0o (c0z (Nat.le_refl _) (Nat.le_refl _) hbody) fun x env h hq=> ?_)
 cases x<;>first|exact hq|exact hq.elim
theorem f8s {rs:List b5j} {l l2:List α} {env:Env} {h:A3} (hl:l=l2) (hh:h=⟨[],[(l2.length,sz)],[]⟩:=by kernel_rfl) (ho:(c4v env h rs).map c93=some (.sl (l2.map e) (.own 0)):=by kernel_rfl):g15 e sz rs l .ret env h:=by
 subst hl
 obtain ⟨l',h1,h2⟩:=Option.map_eq_some_iff.1 ho
 exact b18 h1 ⟨h2,hh⟩
end
def cdN (P:Program) (f:Nat):Nat:=((a7v P f).map fun x=>x.1).getD 0
def cdC (P:Program) (f:Nat):M8:=((a7v P f).map fun x=>x.2.1).getD .skip
def cdR (P:Program) (f:Nat):List b5j:=((a7v P f).map fun x=>x.2.2).getD []
def g3m (o:AOp) (env:Env):Option AV:=
 match o with
 |.len true x=>match x.ev env with
  |some (.v (.string s))=>some (.v (.int .i64 s.size))
  |_=>none
 |.bin .eql x y=>match x.ev env,y.ev env with
  |some (.v (.string a)),some (.v (.string b))=>some (.v (.bool (decide (a=b))))
  |_,_=>none
 |.bin .neq x y=>match x.ev env,y.ev env with
  |some (.v (.string a)),some (.v (.string b))=>some (.v (.bool (!decide (a=b))))
  |_,_=>none
 |.bin .lss x y=>match x.ev env,y.ev env with
  |some (.v (.string a)),some (.v (.string b))=>some (.v (.bool (Op.bytesLess a.toList b.toList)))
  |_,_=>none
 |.bin .leq x y=>match x.ev env,y.ev env with
  |some (.v (.string a)),some (.v (.string b))=>some (.v (.bool (Op.bytesLess a.toList b.toList||a.toList==b.toList)))
  |_,_=>none
 |.bin .gtr x y=>match x.ev env,y.ev env with
  |some (.v (.string a)),some (.v (.string b))=>some (.v (.bool (!(Op.bytesLess a.toList b.toList||a.toList==b.toList))))
  |_,_=>none
 |.bin .geq x y=>match x.ev env,y.ev env with
  |some (.v (.string a)),some (.v (.string b))=>some (.v (.bool (!(Op.bytesLess a.toList b.toList))))
  |_,_=>none
 |.pick c x y=>match c.ev env,x.ev env,y.ev env with
  |some (.v (.bool t)),some (.v (.bool a)),some (.v (.bool b))=>some (.v (.bool (bif t then a else b)))
  |some (.v (.bool t)),some (.v (.int k a)),some (.v (.int k2 b))=>if k=k2 then some (.v (.int k (bif t then a else b))) else none
  |some (.v (.bool t)),some (.v (.string a)),some (.v (.string b))=>some (.v (.string (bif t then a else b)))
  |_,_,_=>none
 |.minmax true [x,y]=>match x.ev env,y.ev env with
  |some (.v (.int k a)),some (.v (.int _ b))=>some (.v (.int k (max a b)))
  |_,_=>none
 |.minmax false [x,y]=>match x.ev env,y.ev env with
  |some (.v (.int k a)),some (.v (.int _ b))=>some (.v (.int k (min a b)))
  |_,_=>none
 |.minmax true [x,y,z]=>match x.ev env,y.ev env,z.ev env with
  |some (.v (.int k a)),some (.v (.int _ b)),some (.v (.int _ c))=>some (.v (.int k (max (max a b) c)))
  |_,_,_=>none
 |.minmax false [x,y,z]=>match x.ev env,y.ev env,z.ev env with
  |some (.v (.int k a)),some (.v (.int _ b)),some (.v (.int _ c))=>some (.v (.int k (min (min a b) c)))
  |_,_,_=>none
 |_=>none
theorem d79 {P:Program} {o:AOp} {env:Env} {av:AV} (he:g3m o env=some av) (h:A3):a2h P o env h av h:=by
 unfold g3m at he
 split at he
 case h_1=>
  split at he
  ·rename_i hx; cases he; exact f9v hx
  ·cases he
 case h_2=>
  split at he
  ·rename_i hx hy; cases he; exact g33 hx hy
  ·cases he
 case h_3=>
  split at he
  ·rename_i hx hy; cases he; exact g6u hx hy
  ·cases he
 case h_4=>
  split at he
  ·rename_i hx hy; cases he; exact d4l hx hy (c:=True) rfl trivial
  ·cases he
 case h_5=>
  split at he
  ·rename_i hx hy; cases he; exact d4l hx hy (c:=True) rfl trivial
  ·cases he
 case h_6=>
  split at he
  ·rename_i hx hy; cases he; exact d4l hx hy (c:=True) rfl trivial
  ·cases he
 case h_7=>
  split at he
  ·rename_i hx hy; cases he; exact d4l hx hy (c:=True) rfl trivial
  ·cases he
 case h_8=>
  split at he
  ·rename_i hc hx hy; cases he; exact f4x hc hx hy
  ·rename_i hc hx hy
   split at he
   ·rename_i hk; subst hk; cases he; exact f70 hc hx hy
   ·cases he
  ·rename_i hc hx hy; cases he; exact f5x hc hx hy
  ·cases he
 case h_9=>
  split at he
  ·rename_i hx hy; cases he; exact g19 hx hy
  ·cases he
 case h_10=>
  split at he
  ·rename_i hx hy; cases he; exact g1a hx hy
  ·cases he
 case h_11=>
  split at he
  ·rename_i hx hy hz; cases he; exact g14 hx hy hz
  ·cases he
 case h_12=>
  split at he
  ·rename_i hx hy hz; cases he; exact f9u hx hy hz
  ·cases he
 case h_13=>cases he
inductive Fr where
 |sq (y:M8)
 |bk (i:Nat)
 |lp (x:M8)
 |sc (l:Nat) (x:M8)
 |sn
inductive Pc where
 |c (x:M8)
 |v (L:List C2)
 |s (b:Bool) (L:List C2) (S gl:List (Nat × List AV)) (w:Option C2) (tl:List C2)
 |n (e:Exit)
 |l (x:M8)
 |g (l:Nat) (x:M8)
structure Mc where
 pc:Pc
 k:List Fr
 env:Env
 h:A3
inductive Rm where
 |ret (r:AV)
 |io (k:Nat) (r:AV) (c:List AV) (b:List (Nat × Nat))
def Rm.kb:Rm ->Nat
 |.ret _=>0
 |_=>1
def Rm.kf:Rm ->Nat
 |.ret _=>0
 |.io k _ _ _=>k
def Rm.Q (rs:List b5j):Rm ->Exit ->Env ->A3 ->Prop
 |.ret r=>f8c rs r
 |.io k r c b=>qio k rs r c b
section
variable (P:Program) (f:Nat) (R:Rm)
def Qs:List Fr ->Exit ->Env ->A3 ->Prop
 |[]=>R.Q (cdR P f)
 |.sq y::k=>d59 (fun e h=>D P (cdN P f) R.kb R.kf y (Qs k) e h) (Qs k)
 |.bk i::k=>c08 i (Qs k)
 |.lp x::k=>d59 (fun e h=>DL P (cdN P f) R.kb R.kf x (Qs k) e h) (Qs k)
 |.sc l x::k=>e5y l (fun e h=>DG P (cdN P f) R.kb R.kf x l (Qs k) e h) (Qs k)
 |.sn::k=>d6b (Qs k)
def KK (w:Option C2) (tl:List C2) (K:Env ->A3 ->Prop):Env ->A3 ->Prop:=match w with
 |none=>fun e h=>vd P tl e h K
 |some w=>fun e h=>∃av h',a2h P w.op e h av h' /\ vd P tl e h' K
def Ok (s:Mc):Prop:=match s.pc with
 |.c x=>D P (cdN P f) R.kb R.kf x (Qs P f R s.k) s.env s.h
 |.v L=>vd P L s.env s.h (fun e h=>Qs P f R s.k .normal e h)
 |.s b L S gl w tl=>vs P (InS S gl) b L s.env s.h (KK P w tl fun e h=>Qs P f R s.k .normal e h)
 |.n e=>Qs P f R s.k e s.env s.h
 |.l x=>DL P (cdN P f) R.kb R.kf x (Qs P f R s.k) s.env s.h
 |.g l x=>DG P (cdN P f) R.kb R.kf x l (Qs P f R s.k) s.env s.h
end
def c1r:M8 ->Option Nat
 |.goto l=>some l
 |.seq a b=>match c1r a with
  |some l=>some l
  |none=>c1r b
 |.cond _ a b=>match c1r a with
  |some l=>some l
  |none=>c1r b
 |.block _ a=>c1r a
 |.loop a=>c1r a
 |.scope a=>c1r a
 |_=>none
def pop:Exit ->List Fr ->Option (Pc × List Fr)
 |_,[]=>none
 |e,.sq y::k=>match e with
  |.normal=>some (.c y,k)
  |e=>some (.n e,k)
 |e,.lp x::k=>match e with
  |.normal=>some (.l x,k)
  |e=>some (.n e,k)
 |e,.bk j::k=>match e with
  |.exit i=>some (.n (if i=j then .normal else .exit i),k)
  |e=>some (.n e,k)
 |e,.sc l x::k=>match e with
  |.goto i=>if i=l then some (.g l x,k) else none
  |e=>some (.n e,k)
 |e,.sn::k=>match e with
  |.goto _=>none
  |e=>some (.n e,k)
def bnd (S:List (Nat × List AV)):Nat:=S.foldl (fun n p=>max n (p.1+1)) 0
def opn (o:C2) (env:Env) (h:A3):Option (AV × A3):=match g3m o.op env with
 |some a=>some (a,h)
 |none=>d0c false noC o.op env h
def b67 (s:Mc):Mc:=match s.pc with
 |.c x=>match x with
  |.skip=>⟨.n .normal,s.k,s.env,s.h⟩
  |.region L=>⟨.v L,s.k,s.env,s.h⟩
  |.seq a b=>⟨.c a,.sq b::s.k,s.env,s.h⟩
  |.block i a=>⟨.c a,.bk i::s.k,s.env,s.h⟩
  |.cond c a b=>match c.ev s.env with
   |some (.v (.bool true))=>⟨.c a,s.k,s.env,s.h⟩
   |some (.v (.bool false))=>⟨.c b,s.k,s.env,s.h⟩
   |_=>s
  |.loop a=>⟨.l a,s.k,s.env,s.h⟩
  |.exit i=>⟨.n (.exit i),s.k,s.env,s.h⟩
  |.ret=>⟨.n .ret,s.k,s.env,s.h⟩
  |.scope a=>match c1r a with
   |none=>⟨.c a,.sn::s.k,s.env,s.h⟩
   |some l=>match b29 a l with
    |some _=>⟨.c a,.sc l a::s.k,s.env,s.h⟩
    |none=>s
  |.label _=>⟨.n .normal,s.k,s.env,s.h⟩
  |.goto l=>⟨.n (.goto l),s.k,s.env,s.h⟩
  |_=>s
 |.v []=>⟨.n .normal,s.k,s.env,s.h⟩
 |.v (o::L)=>match I1 s.env o.guard with
  |some false=>⟨.v L,s.k,b3j s.env o.dst,s.h⟩
  |some true=>match opn o s.env s.h with
   |some p=>⟨.v L,s.k,b2w s.env o.dst p.1,p.2⟩
   |none=>s
  |none=>s
 |.s _ [] _ _ none tl=>⟨.v tl,s.k,s.env,s.h⟩
 |.s _ [] _ _ (some _) _=>s
 |.s b (o::L) S gl w tl=>match I1 s.env o.guard with
  |some false=>⟨.s b L S gl w tl,s.k,b3j s.env o.dst,s.h⟩
  |some true=>match o.op,o.guard,b with
   |.alloc cells,none,true=>⟨.s b L S gl w tl,s.k,b2w s.env o.dst (.ptr s.h.blks.length 0),⟨s.h.blks++[some cells],s.h.bufs,s.h.globs⟩⟩
   |_,_,_=>if T2 o.op=true then match opn o s.env ⟨d7d (bnd S) S,[],gl⟩ with
    |some p=>⟨.s b L S gl w tl,s.k,b2w s.env o.dst p.1,s.h⟩
    |none=>s
    else s
  |none=>s
 |.n e=>match pop e s.k with
  |some p=>⟨p.1,p.2,s.env,s.h⟩
  |none=>s
 |.l x=>⟨.c x,.lp x::s.k,s.env,s.h⟩
 |.g l x=>match b29 x l with
  |some y=>⟨.c y,.sc l x::s.k,s.env,s.h⟩
  |none=>s
def run:Nat ->Mc ->Mc
 |0,s=>s
 |n+1,s=>run n (b67 s)
section
variable {P:Program} {f:Nat} {R:Rm} {s:Mc}
theorem e3o:∀k,c3a fun e h=>Qs P f R k .normal e h
 |[]=>by cases R<;>first|exact d5d|exact g4r
 |.sq y::k=>f8e
 |.bk i::k=>e3o k
 |.lp x::k=>e0r
 |.sc l x::k=>e3o k
 |.sn::k=>e3o k
theorem g3k {w:Option C2} {tl:List C2} {K:Env ->A3 ->Prop} (hK:c3a K):c3a (KK P w tl K):=by
 cases w with
 |none=>exact d61 hK
 |some w=>exact fun e env h he ⟨av,h',hd,hv⟩=>⟨av,h',hd.less he,b94 hK he hv⟩
theorem e2b {n:Nat} {S gl:List (Nat × List AV)} {o:C2} {env:Env} {p:AV × A3} (hq:T2 o.op=true) (he:opn o env ⟨d7d n S,[],gl⟩=some p):∀h2,InS S gl h2 ->c98 P o.op env h2 p.1:=by
 unfold opn at he
 split at he
 ·rename_i a ha
  cases he
  exact fun h2 _=>(d79 ha h2).q
 ·exact d4g hq he
theorem d92 {o:C2} {env:Env} {h:A3} {p:AV × A3} (he:opn o env h=some p):a2h P o.op env h p.1 p.2:=by
 unfold opn at he
 split at he
 ·rename_i a ha
  cases he
  exact d79 ha h
 ·exact f2w he
theorem g0y {e:Exit} {k:List Fr} {p:Pc × List Fr} {env:Env} {h:A3} (hp:pop e k=some p) (hk:Ok P f R ⟨p.1,p.2,env,h⟩):Qs P f R k e env h:=by
 cases k with
 |nil=>cases hp
 |cons fr k=>
  cases fr with
  |sq y=>cases e<;>(cases hp; exact hk)
  |lp x=>cases e<;>(cases hp; exact hk)
  |bk j=>
   cases e with
   |exit i=>
    cases hp
    show (if i=j then Qs P f R k .normal env h else Qs P f R k (.exit i) env h)
    split
    ·rename_i hij; rw [if_pos hij] at hk; exact hk
    ·rename_i hij; rw [if_neg hij] at hk; exact hk
   |_=>cases hp; exact hk
  |sc l x=>
   cases e
   case goto i=>
    simp only [pop] at hp
    split at hp
    ·rename_i hil; cases hp; exact ⟨hil,hk⟩
    ·cases hp
   all_goals (cases hp; exact hk)
  |sn=>cases e<;>(cases hp; try exact hk)
theorem f4m (hk:Ok P f R (b67 s)):Ok P f R s:=by
 obtain ⟨pc,k,env,h⟩:=s
 cases pc with
 |c x=>
  cases x with
  |skip=>exact e3t hk
  |region L=>exact dr hk
  |seq a b=>exact d8j hk
  |block i a=>exact f07 hk
  |loop a=>exact f7t hk
  |exit i=>exact g1k hk
  |ret=>exact e9w hk
  |label _=>exact f6g hk
  |goto l=>exact f8w hk
  |cond c a b=>
   simp only [b67] at hk
   split at hk
   ·rename_i hc; exact d8g hc rfl hk
   ·rename_i hc; exact d80 hc rfl hk
   ·exact hk
  |scope a=>
   simp only [b67] at hk
   split at hk
   ·exact f05 hk
   ·split at hk
    ·rename_i hf; exact f0a hf hk
    ·exact hk
  |_=>exact hk
 |v L=>
  cases L with
  |nil=>exact hk
  |cons o L=>
   simp only [b67] at hk
   split at hk
   ·rename_i hg; exact .inl ⟨hg,hk⟩
   ·rename_i hg
    split at hk
    ·rename_i p hp; exact .inr (.inl ⟨hg,p.1,p.2,d92 hp,hk⟩)
    ·exact hk
   ·exact hk
 |s b L S gl w tl=>
  cases L with
  |nil=>cases w<;>exact hk
  |cons o L=>
   simp only [b67] at hk
   split at hk
   ·rename_i hg; exact .inl ⟨hg,hk⟩
   ·rename_i hg
    split at hk
    ·rename_i cells h1 h2
     exact .inr (.inr (.inr ⟨rfl,cells,h1,h2,hk⟩))
    ·split at hk
     ·rename_i hq
      split at hk
      ·rename_i p hp; exact .inr (.inl ⟨hg,hq,p.1,e2b hq hp,hk⟩)
      ·exact hk
     ·exact hk
   ·exact hk
 |n e=>
  simp only [b67] at hk
  split at hk
  ·rename_i p hp; exact g0y hp hk
  ·exact hk
 |l x=>exact e3c hk
 |g l x=>
  simp only [b67] at hk
  split at hk
  ·rename_i hf; exact e2g hf hk
  ·exact hk
theorem N6:∀(n:Nat) {s:Mc},Ok P f R (run n s) ->Ok P f R s
 |0,_,hk=>hk
 |n+1,_,hk=>f4m (N6 n hk)
theorem c88 {e:Env} (he:c19 e s.env) (hc:(match s.pc with|.n _=>false|.g _ _=>false|_=>true)=true) (hk:Ok P f R ⟨s.pc,s.k,e,s.h⟩):Ok P f R s:=by
 obtain ⟨pc,k,env,h⟩:=s
 cases pc with
 |c x=>exact f8e e env h he hk
 |v L=>exact b94 (e3o k) he hk
 |s b L S gl w tl=>exact c3w (g3k (e3o k)) he hk
 |l x=>exact e0r e env h he hk
 |_=>cases hc
end
structure En (α:Type) where
 e:α ->List AV
 f:α ->List AV
 sz:Nat
 eq:∀y,f y=e y
 len:∀y,(e y).length=sz
 ro:c2t f sz
def oX:AOp ->J6
 |.idxSl _ x _=>x
 |.idxS x _=>x
 |.len _ x=>x
 |.bin _ x _=>x
 |.sliceS x _ _=>x
 |.sliceV _ x _ _ _=>x
 |.append _ _ x _=>x
 |.conv _ x=>x
 |.bytes x=>x
 |.load _ x=>x
 |.store _ p _=>p
 |.make _ _ _ x _=>x
 |.call f _=>f
 |.eq _ _ x _=>x
 |.next x=>x
 |.assertT _ _ _ x=>x
 |_=>.t 0
def oY:AOp ->J6
 |.idxSl _ _ i=>i
 |.idxS _ i=>i
 |.bin _ _ y=>y
 |.append _ _ _ y=>y
 |.store _ _ x=>x
 |.make _ _ _ _ y=>y
 |.eq _ _ _ y=>y
 |_=>.t 0
def oA:AOp ->List J6
 |.call _ l=>l
 |_=>[]
def oLo:AOp ->Option J6
 |.sliceS _ l _=>l
 |.sliceV _ _ l _ _=>l
 |_=>none
def oHi:AOp ->Option J6
 |.sliceS _ _ l=>l
 |.sliceV _ _ _ l _=>l
 |_=>none
def oMx:AOp ->J6
 |.sliceV _ _ _ _ (some m)=>m
 |_=>.t 0
def oZ:AOp ->AV
 |.assertT _ _ z _=>z
 |_=>.nil
def oB:AOp ->BinOp
 |.bin b _ _=>b
 |_=>.add
def opS (s:Mc):C2:=match s.pc with
 |.v (o::_)=>o
 |.s _ (o::_) _ _ _ _=>o
 |.s _ [] _ _ (some w) _=>w
 |_=>⟨none,.alloc [],none⟩
def op (s:Mc):AOp:=(opS s).op
def put (s:Mc) (av:AV):Mc:=match s.pc with
 |.v (o::L)=>⟨.v L,s.k,b2w s.env o.dst av,s.h⟩
 |.s b (o::L) S gl w tl=>⟨.s b L S gl w tl,s.k,b2w s.env o.dst av,s.h⟩
 |_=>s
def d3o (s:Mc) (av:AV) (h:A3):Mc:=match s.pc with
 |.v (o::L)=>⟨.v L,s.k,b2w s.env o.dst av,h⟩
 |.s _ (o::L) S gl w tl=>⟨.s false L S gl w tl,s.k,b2w s.env o.dst av,h⟩
 |.s _ [] _ _ (some _) tl=>⟨.v tl,s.k,s.env,h⟩
 |_=>s
def okS (s:Mc):Bool:=match s.pc with
 |.v (o::_)=>I1 s.env o.guard==some true
 |.s _ (o::_) _ _ _ _=>I1 s.env o.guard==some true&&T2 o.op
 |_=>false
def okH (s:Mc):Bool:=match s.pc with
 |.v (o::_)=>I1 s.env o.guard==some true
 |.s _ (o::_) _ _ _ _=>I1 s.env o.guard==some true&& !T2 o.op&& !c3t o
 |.s _ [] _ _ (some _) _=>true
 |_=>false
def seS (s:Mc) (h:A3):Option (List (Option (Option (List AV))) × List (Nat × List AV)):=match s.pc with
 |.s _ (_::_) S _ _ _=>some (inS S h,h.globs)
 |_=>none
def seE (s:Mc):Option (List (Option (Option (List AV))) × List (Nat × List AV)):=match s.pc with
 |.s _ (_::_) S gl _ _=>some (S.map (fun p=>some (some p.2)),gl)
 |_=>none
def f9t (s:Mc) (h:A3):Prop:=match s.pc with
 |.s _ _ S gl _ _=>InS S gl h
 |_=>h=s.h
def e4w (s:Mc):List (Nat × List AV):=match s.pc with
 |.s _ _ _ gl _ _=>gl
 |_=>s.h.globs
def g2z (s:Mc) (r:Nat):Option (List AV):=match s.pc with
 |.s _ _ S _ _ _=>(S.find? fun p=>p.1==r).map (·.2)
 |_=>(s.h.blks[r]?).bind id
def xv (s:Mc):Option AV:=(oX (op s)).ev s.env
def yv (s:Mc):Option AV:=(oY (op s)).ev s.env
def g5u (s:Mc):Value:=((g26 (oB (op s)) (xv s) (yv s)).map (·.2)).getD (.bool true)
def f99 (x:Option AV):Nat:=match x with
 |some (.sl _ (.own i))=>i
 |_=>0
def e0u (x:Option AV):Nat:=match x with
 |some (.row r _ _ _ _)=>r
 |some (.ptr r _)=>r
 |_=>0
def h1k (x:Option AV):Nat:=match x with
 |some (.row _ _ _ _ c)=>c
 |_=>0
section
variable {P:Program} {f:Nat} {R:Rm} {s:Mc}
theorem d39 {h:A3} (hs:f9t s h):h.globs=e4w s:=by
 unfold f9t at hs
 unfold e4w
 split at hs
 ·exact hs.2
 ·subst hs; rfl
theorem d9h {h:A3} {r:Nat} {c:List AV} (hs:f9t s h) (hr:g2z s r=some c):h.blks[r]? =some (some c):=by
 unfold f9t at hs
 unfold g2z at hr
 split at hs
 ·rename_i hp
  rw [hp] at hr
  simp only [Option.map_eq_some_iff] at hr
  obtain ⟨p,h1,rfl⟩:=hr
  have h2:=List.find?_some h1
  have h3:p.1=r:=by simpa using h2
  subst h3
  exact hs.1 _ _ (List.mem_of_find?_eq_some h1)
 ·rename_i hp
  subst hs
  split at hr
  ·rename_i hq; exact absurd hq (hp _ _ _ _ _ _)
  ·obtain ⟨x,h1,h2⟩:=Option.bind_eq_some_iff.1 hr
   rw [h1]; exact congrArg some h2
theorem d3v {av:AV} (hd:∀h,f9t s h ->a2h P (op s) s.env h av h) (hk:Ok P f R (put s av)) (hc:okS s=true):Ok P f R s:=by
 obtain ⟨pc,k,env,h⟩:=s
 cases pc with
 |v L=>
  cases L with
  |nil=>cases hc
  |cons o L=>exact .inr (.inl ⟨by simpa [okS] using hc,av,h,hd h rfl,hk⟩)
 |s b L S gl w tl=>
  cases L with
  |nil=>cases hc
  |cons o L=>
   have hc':I1 env o.guard=some true /\ T2 o.op=true:=by simpa [okS] using hc
   exact .inr (.inl ⟨hc'.1,hc'.2,av,fun h2 hi=>(hd h2 hi).q,hk⟩)
 |_=>cases hc
theorem a8o {av:AV} {h':A3} (hd:a2h P (op s) s.env s.h av h') (hk:Ok P f R (d3o s av h')) (hc:okH s=true) (hs:seS s h'=seE s):Ok P f R s:=by
 obtain ⟨pc,k,env,h⟩:=s
 cases pc with
 |v L=>
  cases L with
  |nil=>cases hc
  |cons o L=>exact .inr (.inl ⟨by simpa [okH] using hc,av,h',hd,hk⟩)
 |s b L S gl w tl=>
  cases L with
  |nil=>
   cases w with
   |none=>cases hc
   |some w=>exact ⟨av,h',hd,hk⟩
  |cons o L=>
   have hc':(I1 env o.guard=some true /\ T2 o.op=false) /\ c3t o=false:=by simpa [okH] using hc
   have hs':inS S h'=S.map (fun p=>some (some p.2)) /\ h'.globs=gl:=by simpa [seS,seE] using hs
   exact .inr (.inr (.inl ⟨hc'.1.1,hc'.1.2,hc'.2,av,h',hd,d99 hs'.1 hs'.2,hk⟩))
 |_=>cases hc
theorem ev0 (m:Nat) {av:AV} (hd:∀h,a2h P (op (run m s)) (run m s).env h av h) (hk:Ok P f R (put (run m s) av)) (hc:okS (run m s)=true):Ok P f R s:=N6 m (d3v (fun h _=>hd h) hk hc)
variable {α:Type} {W:α ->Prop} {p q:Prop}
theorem KI (m:Nat) (E:En α) {l:List α} {n:Int} (hw:∃y,l[n.toNat]? =some y /\ 0<=n /\ W y) (hk:∀y,W y ->Ok P f R (put (run m s) (.elt (E.e y) 0))) (hc:okS (run m s)=true:=by kernel_rfl) (ho:op (run m s)=.idxSl E.sz (oX (op (run m s))) (oY (op (run m s))):=by kernel_rfl) (hx:b9o (xv (run m s))=some (List.map E.f l):=by kernel_rfl) (hi:c5g (yv (run m s))=some n:=by kernel_rfl):Ok P f R s:=by
 obtain ⟨y,h1,h0,hw⟩:=hw
 exact ev0 m (fun h=>by rw [ho]; exact g3h h0 h1 (E.eq y) hx hi (E.len y)) (hk y hw) hc
theorem KL (m:Nat) (E:En α) (l:List α) (hk:Ok P f R (put (run m s) (.v (.int .i64 l.length)))) (hc:okS (run m s)=true:=by kernel_rfl) (ho:op (run m s)=.len false (oX (op (run m s))):=by kernel_rfl) (hx:b9o (xv (run m s))=some (List.map E.f l):=by kernel_rfl):Ok P f R s:=ev0 m (fun h=>by rw [ho]; exact g7f l E.f hx) hk hc
theorem KC (m:Nat) {g:FuncId} {gl:List (Nat × List AV)} {args:List AV} {e:α ->AV} (hw:∃y,B5 P gl g args (e y) /\ W y) (hp:plainL args=true) (hk:∀y,W y ->Ok P f R (put (run m s) (e y))) (hc:okS (run m s)=true:=by kernel_rfl) (ho:op (run m s)=.call (.c (.clo (.func g) [] [])) (oA (op (run m s))):=by kernel_rfl) (ha:(evs (run m s).env (oA (op (run m s)))).map (List.map nz)=some args:=by kernel_rfl) (hg:e4w (run m s)=gl:=by kernel_rfl) (hgl:S0 gl=true:=by kernel_rfl):Ok P f R s:=by
 obtain ⟨y,h1,hw⟩:=hw
 subst hg
 refine N6 m (d3v (fun h hs=> ?_) (hk y hw) hc)
 rw [ho]
 rw [<-d39 hs] at h1 hgl
 exact g0v h1 hp ha hgl
theorem KF (m:Nat) {gl:List (Nat × List AV)} {args:List AV} {F:AV} {e:α ->AV} (hw:∃y,a41 P gl F args (e y) /\ W y) (hk:∀y,W y ->Ok P f R (put (run m s) (e y))) (hc:okS (run m s)=true:=by kernel_rfl) (ho:op (run m s)=.call (oX (op (run m s))) (oA (op (run m s))):=by kernel_rfl) (hf:xv (run m s)=some F:=by kernel_rfl) (ha:(evs (run m s).env (oA (op (run m s)))).map (List.map nz)=some args:=by kernel_rfl) (hg:e4w (run m s)=gl:=by kernel_rfl) (hgl:S0 gl=true:=by kernel_rfl):Ok P f R s:=by
 obtain ⟨y,h1,hw⟩:=hw
 subst hg
 refine N6 m (d3v (fun h hs=> ?_) (hk y hw) hc)
 rw [ho]
 rw [<-d39 hs] at h1 hgl
 exact f6t h1 hf ha hgl
theorem KIS (m:Nat) {t:ByteArray} {n:Int} (hw:(0<=n /\ n<(t.size:Int)) /\ p) (hk:p ->Ok P f R (put (run m s) (.v (.int .u8 (H4 t n.toNat))))) (hc:okS (run m s)=true:=by kernel_rfl) (ho:op (run m s)=.idxS (oX (op (run m s))) (oY (op (run m s))):=by kernel_rfl) (hx:xv (run m s)=some (.v (.string t)):=by kernel_rfl) (hi:c5g (yv (run m s))=some n:=by kernel_rfl):Ok P f R s:=ev0 m (fun h=>by rw [ho]; exact f91 hw.1 hx hi) (hk hw.2) hc
theorem KSS (m:Nat) {t:ByteArray} {a u:Int} (hw:(0<=a /\ a<=u /\ u<=(t.size:Int)) /\ p) (hk:p ->Ok P f R (put (run m s) (.v (.string (t.extract a.toNat u.toNat))))) (hc:okS (run m s)=true:=by kernel_rfl) (ho:op (run m s)=.sliceS (oX (op (run m s))) (oLo (op (run m s))) (oHi (op (run m s))):=by kernel_rfl) (hx:xv (run m s)=some (.v (.string t)):=by kernel_rfl) (h3:(evo (run m s).env (oLo (op (run m s)))).bind (H1 0)=some a:=by kernel_rfl) (h4:(evo (run m s).env (oHi (op (run m s)))).bind (H1 t.size)=some u:=by kernel_rfl):Ok P f R s:=ev0 m (fun h=>by rw [ho]; exact f15 hw.1 hx h3 h4) (hk hw.2) hc
theorem KSV (m:Nat) (E:En α) {l:List α} {a u:Int} (hw:(0<=a /\ a<=u /\ u<=(l.length:Int)) /\ p) (hk:p ->Ok P f R (put (run m s) (.sl (List.map E.f ((l.take u.toNat).drop a.toNat)) .no))) (hc:okS (run m s)=true:=by kernel_rfl) (ho:op (run m s)=.sliceV E.sz (oX (op (run m s))) (oLo (op (run m s))) (oHi (op (run m s))) none:=by kernel_rfl) (hx:b9o (xv (run m s))=some (List.map E.f l):=by kernel_rfl) (h3:(evo (run m s).env (oLo (op (run m s)))).bind (H1 0)=some a:=by kernel_rfl) (h4:(evo (run m s).env (oHi (op (run m s)))).bind (H1 l.length)=some u:=by kernel_rfl) (h5:((oLo (op (run m s))).isSome||(oHi (op (run m s))).isSome)=true:=by kernel_rfl):Ok P f R s:=ev0 m (fun h=>by rw [ho]; exact f4v hw.1 E.ro.hs hx h3 h4 h5) (hk hw.2) hc
theorem KB (m:Nat) {c:Prop} (hw:c /\ p) (hk:p ->Ok P f R (put (run m s) (.v (g5u (run m s))))) (hc:okS (run m s)=true:=by kernel_rfl) (ho:op (run m s)=.bin (oB (op (run m s))) (oX (op (run m s))) (oY (op (run m s))):=by kernel_rfl) (hx:(g26 (oB (op (run m s))) (xv (run m s)) (yv (run m s))).map (·.1)=some c:=by kernel_rfl):Ok P f R s:=by
 obtain ⟨⟨c',r⟩,h1,h2⟩:=Option.map_eq_some_iff.1 hx
 have h3:g5u (run m s)=r:=by unfold g5u; rw [h1]; rfl
 have h4:c'=c:=h2
 subst h4
 rw [h3] at hk
 exact ev0 m (fun h=>by rw [ho]; exact g7p r hw.1 h1) (hk hw.2) hc
theorem e1w (m:Nat) {a b:ByteArray} (hw:((a.size+b.size:Nat):Int)<=9223372036854775807 /\ p) (hk:p ->Ok P f R (put (run m s) (.v (.string (a++b))))) (hc:okS (run m s)=true:=by kernel_rfl) (ho:op (run m s)=.bin .add (oX (op (run m s))) (oY (op (run m s))):=by kernel_rfl) (hx:xv (run m s)=some (.v (.string a)):=by kernel_rfl) (hy:yv (run m s)=some (.v (.string b)):=by kernel_rfl):Ok P f R s:=ev0 m (fun h=>by rw [ho]; exact g59 hw.1 hx hy) (hk hw.2) hc
def HM (h:A3) (y:Option AV) (E:En α) (m:List α):Prop:=y.bind (c6r h E.sz)=some (List.map E.f m)
theorem mF {h:A3} {y:Option AV} {E:En α} {l:List α} (hm:y.bind (c6r h E.sz)=some (List.map E.f l):=by kernel_rfl):HM h y E l:=hm
theorem mE {h:A3} {y:Option AV} {E:En α} {l:List α} (hm:y.bind (c6r h E.sz)=some (List.map E.e l):=by kernel_rfl):HM h y E l:=by
 have:=funext E.eq
 unfold HM
 rw [this]; exact hm
def HX (x:Option AV) (E:En α) (l:List α):Prop:=b9o x=some (List.map E.f l)
theorem xE {x:Option AV} {E:En α} {l:List α} (h:b9o x=some (List.map E.e l):=by kernel_rfl):HX x E l:=by
 have:=funext E.eq
 unfold HX
 rw [this]; exact h
theorem KA (m:Nat) (E:En α) {l l2:List α} {b:Nat} (hw:(l.length+l2.length)*b<=140737488355328 /\ p) (hm:HM (run m s).h (yv (run m s)) E l2) (hk:p ->Ok P f R (d3o (run m s) (.sl (List.map E.f (l++l2)) (.own (f99 (xv (run m s))))) ⟨(run m s).h.blks,(run m s).h.bufs.set (f99 (xv (run m s))) ((l++l2).length,E.sz),(run m s).h.globs⟩)) (hc:okH (run m s)=true:=by kernel_rfl) (hs:seS (run m s) ⟨(run m s).h.blks,(run m s).h.bufs.set (f99 (xv (run m s))) ((l++l2).length,E.sz),(run m s).h.globs⟩=seE (run m s):=by kernel_rfl) (ho:op (run m s)=.append E.sz b (oX (op (run m s))) (oY (op (run m s))):=by kernel_rfl) (hx:xv (run m s)=some (.sl (List.map E.f l) (.own (f99 (xv (run m s))))):=by kernel_rfl) (hb:(run m s).h.bufs[f99 (xv (run m s))]? =some (l.length,E.sz):=by kernel_rfl):Ok P f R s:=N6 m (a8o (by rw [ho]; exact g5v _ E.f l l2 hw.1 E.ro.hs hm hx hb) (hk hw.2) hc hs)
theorem KAf (m:Nat) (E:En α) {l l2:List α} {b:Nat} (hw:(l.length+l2.length)*b<=140737488355328 /\ p) (hm:HM (run m s).h (yv (run m s)) E l2) (hX:HX (xv (run m s)) E l) (hk:p ->Ok P f R (d3o (run m s) (.sl (List.map E.f (l++l2)) (.own (run m s).h.bufs.length)) ⟨(run m s).h.blks,(run m s).h.bufs++[((l++l2).length,E.sz)],(run m s).h.globs⟩)) (hc:okH (run m s)=true:=by kernel_rfl) (hs:seS (run m s) ⟨(run m s).h.blks,(run m s).h.bufs++[((l++l2).length,E.sz)],(run m s).h.globs⟩=seE (run m s):=by kernel_rfl) (ho:op (run m s)=.append E.sz b (oX (op (run m s))) (oY (op (run m s))):=by kernel_rfl) (hx:f90 (xv (run m s))=some .full:=by kernel_rfl):Ok P f R s:=N6 m (a8o (by rw [ho]; exact f17 E.f l l2 hw.1 E.ro.hs hm hX hx) (hk hw.2) hc hs)
theorem KS (m:Nat) {l:List Int} {W:ByteArray ->Prop} (hw:∃t,l=bI t /\ W t) (hk:∀t,W t ->Ok P f R (put (run m s) (.v (.string t)))) (hc:okS (run m s)=true:=by kernel_rfl) (ho:op (run m s)=.conv .str (oX (op (run m s))):=by kernel_rfl) (hx:b9o (xv (run m s))=some (List.map (fun n=>[AV.v (.int .u8 n)]) l):=by kernel_rfl):Ok P f R s:=by
 obtain ⟨t,h1,hw⟩:=hw
 exact ev0 m (fun h=>by rw [ho]; exact g7v h1 hx) (hk t hw) hc
theorem KRI (m:Nat) {len:Nat} {n:Int} (sz:Nat) (hw:(0<=n /\ n<(len:Int)) /\ p) (hk:p ->Ok P f R (put (run m s) (.ptr (e0u (xv (run m s))) (0+n.toNat*sz)))) (hc:okS (run m s)=true:=by kernel_rfl) (ho:op (run m s)=.idxSl sz (oX (op (run m s))) (oY (op (run m s))):=by kernel_rfl) (hx:xv (run m s)=some (.row (e0u (xv (run m s))) 0 sz len (h1k (xv (run m s)))):=by kernel_rfl) (hi:c5g (yv (run m s))=some n:=by kernel_rfl):Ok P f R s:=ev0 m (fun h=>by rw [ho]; exact g2b _ len _ hw.1 hx hi) (hk hw.2) hc
theorem KRn (m:Nat) (E:En α) {l:List α} {i:Nat} (hw:∃y,l[i]? =some y /\ W y) (hk:∀y,W y ->Ok P f R (put (run m s) (.agg (E.e y)))) (hc:okS (run m s)=true:=by kernel_rfl) (ho:op (run m s)=.load (some E.sz) (oX (op (run m s))):=by kernel_rfl) (hx:xv (run m s)=some (.ptr (e0u (xv (run m s))) (0+i*E.sz)):=by kernel_rfl) (hr:g2z (run m s) (e0u (xv (run m s)))=some (cellsOf E.f l):=by kernel_rfl):Ok P f R s:=by
 obtain ⟨y,h1,hw⟩:=hw
 exact N6 m (d3v (fun h hs=>by rw [ho]; exact f86 E.ro.hs E.ro.hn h1 (E.eq y) (Nat.zero_add _) hx (d9h hs hr)) (hk y hw) hc)
def atE (l:List AV) (k:Nat):AV:=l[k]?.getD .nil
theorem KR1 (m:Nat) (E:En α) (k:Nat) {l:List α} {i:Nat} (hw:∃y,l[i]? =some y /\ W y) (hk:∀y,W y ->Ok P f R (put (run m s) (atE (E.e y) k))) (hc:okS (run m s)=true:=by kernel_rfl) (ho:op (run m s)=.load none (oX (op (run m s))):=by kernel_rfl) (hx:xv (run m s)=some (.ptr (e0u (xv (run m s))) (0+i*E.sz+k)):=by kernel_rfl) (hr:g2z (run m s) (e0u (xv (run m s)))=some (cellsOf E.f l):=by kernel_rfl) (hb:Nat.ble (k+1) E.sz=true:=by kernel_rfl):Ok P f R s:=by
 obtain ⟨y,h1,hw⟩:=hw
 have hlt:k<E.sz:=Nat.le_of_ble_eq_true hb
 have hg:(E.f y)[k]? =some (atE (E.e y) k):=by
  rw [E.eq y]
  have:k<(E.e y).length:=by rw [E.len y]; exact hlt
  simp [atE,this]
 exact N6 m (d3v (fun h hs=>by rw [ho]; exact f8i E.ro.hs E.ro.hn h1 hlt hg (by omega) hx (d9h hs hr)) (hk y hw) hc)
theorem KRS (m:Nat) (E:En α) (z:α) {l:List α} {i:Nat} (hw:i<l.length /\ p) (hk:p ->Ok P f R (d3o (run m s) (.tuple []) ⟨(run m s).h.blks.set (e0u (xv (run m s))) (some (cellsOf E.f (l.set i z))),(run m s).h.bufs,(run m s).h.globs⟩)) (hc:okH (run m s)=true:=by kernel_rfl) (hs:seS (run m s) ⟨(run m s).h.blks.set (e0u (xv (run m s))) (some (cellsOf E.f (l.set i z))),(run m s).h.bufs,(run m s).h.globs⟩=seE (run m s):=by kernel_rfl) (ho:op (run m s)=.store E.sz (oX (op (run m s))) (oY (op (run m s))):=by kernel_rfl) (hx:xv (run m s)=some (.ptr (e0u (xv (run m s))) (0+i*E.sz)):=by kernel_rfl) (hy:(yv (run m s)).map (fun a=>(a.isTuple,a.cells))=some (false,E.e z):=by kernel_rfl) (hr:(run m s).h.blks[e0u (xv (run m s))]? =some (some (cellsOf E.f l)):=by kernel_rfl):Ok P f R s:=by
 obtain ⟨a,h1,h2⟩:=Option.map_eq_some_iff.1 hy
 have h3:=congrArg Prod.fst h2
 have h4:=congrArg Prod.snd h2
 exact N6 m (a8o (by rw [ho]; exact g38 z E.ro.hs E.ro.hn hw.1 ((E.eq z).trans h4.symm) (Nat.zero_add _) hx h1 h3 hr) (hk hw.2) hc hs)
theorem KM (m:Nat) (E:En α) (z:α) {L C:Int} {b:Nat} (hw:(0<=L /\ L<=C /\ C*b<=140737488355328) /\ p) (hk:p ->Ok P f R (d3o (run m s) (.row (run m s).h.blks.length 0 E.sz L.toNat C.toNat) ⟨(run m s).h.blks++[some (cellsOf E.f (List.replicate C.toNat z))],(run m s).h.bufs,(run m s).h.globs⟩)) (hc:okH (run m s)=true:=by kernel_rfl) (hs:seS (run m s) ⟨(run m s).h.blks++[some (cellsOf E.f (List.replicate C.toNat z))],(run m s).h.bufs,(run m s).h.globs⟩=seE (run m s):=by kernel_rfl) (ho:op (run m s)=.make E.sz b (E.e z) (oX (op (run m s))) (oY (op (run m s))):=by kernel_rfl) (hx:c5g (xv (run m s))=some L:=by kernel_rfl) (hy:c5g (yv (run m s))=some C:=by kernel_rfl):Ok P f R s:=N6 m (a8o (by rw [ho]; exact f8t E.f z L C hw.1 hx hy (E.eq z).symm (E.ro.hs z)) (hk hw.2) hc hs)
end
def gT (s:Mc):Nat:=match (opS s).guard with
 |some (t,_)=>t
 |none=>0
def cv (s:Mc):Option AV:=match s.pc with
 |.c (.cond c _ _)=>c.ev s.env
 |.v (⟨_,_,some (t,_)⟩::_)=>get s.env t
 |.s _ (⟨_,_,some (t,_)⟩::_) _ _ _ _=>get s.env t
 |_=>none
def br (s:Mc) (b:Bool):Mc:=match s.pc with
 |.c (.cond _ x y)=>⟨.c (if b=true then x else y),s.k,s.env,s.h⟩
 |.v (⟨d,o,some (t,w)⟩::L)=>⟨.v (⟨d,o,some (t,w)⟩::L),s.k,(t,.v (.bool b))::s.env,s.h⟩
 |.s b' (⟨d,o,some (t,w)⟩::L) S gl q tl=>⟨.s b' (⟨d,o,some (t,w)⟩::L) S gl q tl,s.k,(t,.v (.bool b))::s.env,s.h⟩
 |_=>s
section
variable {P:Program} {f:Nat} {R:Rm} {s:Mc}
theorem e7j {B:Bool} (hv:cv s=some (.v (.bool B))) (h1:B=true ->Ok P f R (br s true)) (h2:B=false ->Ok P f R (br s false)):Ok P f R s:=by
 obtain ⟨pc,k,env,h⟩:=s
 simp only [cv] at hv
 split at hv
 ·exact d96 hv h1 h2
 ·cases hB:B with
  |true=>exact c88 (c13 hB hv) rfl (h1 hB)
  |false=>exact c88 (c13 hB hv) rfl (h2 hB)
 ·cases hB:B with
  |true=>exact c88 (c13 hB hv) rfl (h1 hB)
  |false=>exact c88 (c13 hB hv) rfl (h2 hB)
 ·cases hv
theorem KW (m:Nat) {B:Bool} {p q:Prop} (hw:(B=true ->p) /\ (B=false ->q)) (h1:B=true ->p ->Ok P f R (br (run m s) true)) (h2:B=false ->q ->Ok P f R (br (run m s) false)) (hv:cv (run m s)=some (.v (.bool B)):=by kernel_rfl):Ok P f R s:=N6 m (e7j hv (fun h=>h1 h (hw.1 h)) fun h=>h2 h (hw.2 h))
theorem KKn (m:Nat) {B b:Bool} (hB:B=b) (hk:Ok P f R (br (run m s) b)) (hv:cv (run m s)=some (.v (.bool B)):=by kernel_rfl):Ok P f R s:=by
 subst hB
 exact N6 m (e7j hv (fun h=>by rw [h] at hk; exact hk) fun h=>by rw [h] at hk; exact hk)
def dpc (n:Nat):Pc ->Pc
 |.v L=>.v (L.drop n)
 |.s b L S gl w tl=>.s b (L.drop n) S gl w tl
 |x=>x
def jnD (s:Mc) (n:Nat):Nat:=match s.pc with
 |.v L=>(((L[n - 1]?).bind fun o=>o.dst)).getD 0
 |.s _ L _ _ _ _=>(((L[n - 1]?).bind fun o=>o.dst)).getD 0
 |_=>0
def jn (s:Mc) (n:Nat) (a:AV):Mc:=⟨dpc n s.pc,s.k,(jnD s n,a)::drop (gT s) s.env,s.h⟩
def c9o (s:Mc):Mc:=⟨s.pc,s.k,[],s.h⟩
def g1u (d t:Nat) (e env:Env):Bool:=(e.take (e.length - env.length)).all fun p=>p.1==t||p.1==d||(get env p.1).isNone
theorem f62 {d t:Nat} {a:AV} {e env:Env} (h1:get e d=some a) (h2:e.drop (e.length - env.length)=env) (h3:g1u d t e env=true):c19 ((d,a)::drop t env) e:=by
 intro u b hu
 simp only [get] at hu
 split at hu
 ·rename_i hd; subst hd; cases hu; exact h1
 ·rename_i hd
  have h4:u≠t:=by
   rintro rfl
   have:∀{e:Env},get (drop u e) u=none:=by
    intro e
    induction e with
    |nil=>rfl
    |cons q e ih=>
     obtain ⟨v,c⟩:=q
     simp only [drop]
     split
     ·exact ih
     ·rename_i hv; simp only [get]; rw [if_neg hv]; exact ih
   rw [this] at hu; cases hu
  have h5:get env u=some b:=by
   have:∀{e:Env},get (drop t e) u=get e u:=by
    intro e
    induction e with
    |nil=>rfl
    |cons q e ih=>
     obtain ⟨v,c⟩:=q
     simp only [drop]
     split
     ·rename_i hv; subst hv; simp only [get]; rw [if_neg (fun h=>h4 h.symm)]; exact ih
     ·simp only [get]; rw [ih]
   rw [<-this]; exact hu
  rw [<-List.take_append_drop (e.length - env.length) e,d7r,h2]
  split
  ·rename_i c hc
   have hm:=d2e hc
   have h6:=List.all_eq_true.1 h3 _ hm
   simp only [Bool.or_eq_true,beq_iff_eq] at h6
   rcases h6 with (h6|h6)|h6
   ·exact absurd h6 h4
   ·exact absurd h6.symm hd
   ·rw [h5] at h6; cases h6
  ·exact h5
def jnv (s:Mc) (n:Nat):Option (Bool × AV × AV × AV):=match cv s,get (run n (br s true)).env (jnD s n),get (run n (br s false)).env (jnD s n) with
 |some (.v (.bool B)),some (.v (.bool x)),some (.v (.bool y))=>some (B,.v (.bool (bif B then x else y)),.v (.bool x),.v (.bool y))
 |some (.v (.bool B)),some (.v (.int k x)),some (.v (.int _ y))=>some (B,.v (.int k (bif B then x else y)),.v (.int k x),.v (.int k y))
 |some (.v (.bool B)),some (.v (.string x)),some (.v (.string y))=>some (B,.v (.string (bif B then x else y)),.v (.string x),.v (.string y))
 |_,_,_=>none
def jnV (s:Mc) (n:Nat):AV:=((jnv s n).map fun p=>p.2.1).getD .nil
def met (s s1:Mc) (n:Nat):Bool:=g1u (jnD s n) (gT s) s1.env s.env&&(match s.pc with|.v _=>true|.s _ _ _ _ _ _=>true|_=>false)
theorem d83 {s s1:Mc} {n:Nat} {a:AV} (hk:Ok P f R (jn s n a)) (ha:get s1.env (jnD s n)=some a) (hb:c9o s1=c9o (jn s n a)) (hd:s1.env.drop (s1.env.length - s.env.length)=s.env) (hf:met s s1 n=true):Ok P f R s1:=by
 obtain ⟨pc1,k1,env1,h1⟩:=s1
 obtain ⟨pc,k,env,h⟩:=s
 simp only [c9o,jn,Mc.mk.injEq] at hb
 obtain ⟨rfl,rfl, -,rfl⟩:=hb
 simp only [met,Bool.and_eq_true] at hf
 refine c88 (f62 ha hd hf.1) ?_ hk
 cases pc<;>first|rfl|(cases hf.2)
theorem KT (m n:Nat) (hk:Ok P f R (jn (run m s) n (jnV (run m s) n))) (h0:((jnv (run m s) n).map fun p=>(some p.2.2.1,some p.2.2.2))=some (get (run n (br (run m s) true)).env (jnD (run m s) n),get (run n (br (run m s) false)).env (jnD (run m s) n)):=by kernel_rfl) (hb:(c9o (run n (br (run m s) true)),c9o (run n (br (run m s) false)))=(c9o (jn (run m s) n .nil),c9o (jn (run m s) n .nil)):=by kernel_rfl) (hd:((run n (br (run m s) true)).env.drop ((run n (br (run m s) true)).env.length - (run m s).env.length),(run n (br (run m s) false)).env.drop ((run n (br (run m s) false)).env.length - (run m s).env.length))=((run m s).env,(run m s).env):=by kernel_rfl) (hf:(met (run m s) (run n (br (run m s) true)) n&&met (run m s) (run n (br (run m s) false)) n)=true:=by kernel_rfl):Ok P f R s:=by
 refine N6 m ?_
 generalize run m s=s0 at*
 obtain ⟨⟨B,a,x,y⟩,h1,h2⟩:=Option.map_eq_some_iff.1 h0
 have hV:jnV s0 n=a:=by unfold jnV; rw [h1]; rfl
 rw [hV] at hk
 have hc:cv s0=some (.v (.bool B)) /\ a=bif B then x else y:=by
  unfold jnv at h1
  split at h1
  ·rename_i h _ _; cases h1; exact ⟨h,by cases B<;>rfl⟩
  ·rename_i h _ _; cases h1; exact ⟨h,by cases B<;>rfl⟩
  ·rename_i h _ _; cases h1; exact ⟨h,by cases B<;>rfl⟩
  ·cases h1
 simp only [Prod.mk.injEq] at h2 hb hd
 simp only [Bool.and_eq_true] at hf
 refine e7j hc.1 (fun hB=> ?_) (fun hB=> ?_)
 ·have ha:=hc.2
  rw [hB] at ha
  subst ha
  exact N6 n (d83 hk h2.1.symm hb.1 hd.1 hf.1)
 ·have ha:=hc.2
  rw [hB] at ha
  subst ha
  exact N6 n (d83 hk h2.2.symm hb.2 hd.2 hf.2)
theorem KQ (m n:Nat) {T:Type} (C:T ->AV) {B:Bool} {W:T ->Prop} {p q:(T ->Prop) ->Prop} (hw:∃R:T ->Prop,(∀z,R z ->W z) /\ ((B=true ->p R) /\ (B=false ->q R))) (hk:∀z,W z ->Ok P f R (jn (run m s) n (C z))) (h1:∀U:T ->Prop,(∀z,U z ->Ok P f R (jn (run m s) n (C z))) ->B=true ->p U ->Ok P f R (br (run m s) true)) (h2:∀U:T ->Prop,(∀z,U z ->Ok P f R (jn (run m s) n (C z))) ->B=false ->q U ->Ok P f R (br (run m s) false)) (hv:cv (run m s)=some (.v (.bool B)):=by kernel_rfl):Ok P f R s:=by
 obtain ⟨U,hU,h3,h4⟩:=hw
 exact N6 m (e7j hv (fun h=>h1 U (fun z hz=>hk z (hU z hz)) h (h3 h)) fun h=>h2 U (fun z hz=>hk z (hU z hz)) h (h4 h))
theorem KE (m:Nat) {T:Type} {U:T ->Prop} {C:T ->AV} {s0:Mc} {n:Nat} {z:T} (key:∀z,U z ->Ok P f R (jn s0 n (C z))) (hw:U z) (ha:get (run m s).env (jnD s0 n)=some (C z):=by kernel_rfl) (hb:c9o (run m s)=c9o (jn s0 n (C z)):=by kernel_rfl) (hd:(run m s).env.drop ((run m s).env.length - s0.env.length)=s0.env:=by kernel_rfl) (hf:met s0 (run m s) n=true:=by kernel_rfl):Ok P f R s:=N6 m (d83 (key z hw) ha hb hd hf)
abbrev kB (b:Bool):AV:=.v (.bool b)
def So (I:List Nat) (h:A3):List (Nat × List AV):=I.map fun i=>(i,((h.blks[i]?).bind id).getD [])
def dr0 (s:Mc) (S:List (Nat × List AV)):Mc:=match s.pc with
 |.c (.drawn _ a t)=>⟨.s true a S s.h.globs none t,s.k,s.env,s.h⟩
 |_=>s
def g99 (s:Mc):Bool:=match s.pc with
 |.c (.drawn o a _)=>okq a&&d6j (clo o) a
 |_=>false
theorem KD (m:Nat) (I:List Nat) (hk:Ok P f R (dr0 (run m s) (So I (run m s).h))) (hc:g99 (run m s)=true:=by kernel_rfl) (hS:inS (So I (run m s).h) (run m s).h=(So I (run m s).h).map (fun p=>some (some p.2)):=by kernel_rfl):Ok P f R s:=by
 refine N6 m ?_
 generalize run m s=s0 at*
 obtain ⟨pc,k,env,h⟩:=s0
 simp only [g99] at hc
 split at hc
 ·rw [Bool.and_eq_true] at hc
  exact dS _ hk hc.1 hc.2 hS
 ·cases hc
def dr1 (s:Mc) (S:List (Nat × List AV)):Mc:=match s.pc with
 |.c (.drawn _ a t)=>⟨.s false (a.take (a.length - 1)) S s.h.globs a[a.length - 1]? t,s.k,s.env,s.h⟩
 |_=>s
def g9b (s:Mc):Bool:=match s.pc with
 |.c (.drawn o a _)=>okq a&&e4z (clo o) a (a.length - 1)&&(match a[a.length - 1]? with|some w=>w.guard.isNone&&w.dst.isNone|none=>false)
 |_=>false
theorem KDL (m:Nat) (I:List Nat) (hk:Ok P f R (dr1 (run m s) (So I (run m s).h))) (hc:g9b (run m s)=true:=by kernel_rfl) (hS:inS (So I (run m s).h) (run m s).h=(So I (run m s).h).map (fun p=>some (some p.2)):=by kernel_rfl):Ok P f R s:=by
 refine N6 m ?_
 generalize run m s=s0 at*
 obtain ⟨pc,k,env,h⟩:=s0
 simp only [g9b] at hc
 split at hc
 ·rename_i o a t
  simp only [Bool.and_eq_true] at hc
  obtain ⟨⟨h1,h2⟩,h3⟩:=hc
  simp only [dr1] at hk
  split at h3
  ·rename_i w hwq
   rw [hwq] at hk
   rw [Bool.and_eq_true] at h3
   have hlen:a.length=(a.length - 1)+1:=by
    have:=(List.getElem?_eq_some_iff.1 hwq).1
    omega
   exact dL (a.length - 1) _ hwq hk hlen (Option.isNone_iff_eq_none.1 h3.1) (Option.isNone_iff_eq_none.1 h3.2) h1 h2 hS
  ·cases h3
 ·cases hc
def chg (s:Mc):AV × A3:=(opn (opS s) s.env s.h).getD (.nil,s.h)
theorem KV (m:Nat) (hk:Ok P f R (d3o (run m s) (chg (run m s)).1 (chg (run m s)).2)) (ho:(opn (opS (run m s)) (run m s).env (run m s).h).isSome=true:=by kernel_rfl) (hc:okH (run m s)=true:=by kernel_rfl) (hs:seS (run m s) (chg (run m s)).2=seE (run m s):=by kernel_rfl):Ok P f R s:=by
 obtain ⟨p,hp⟩:=Option.isSome_iff_exists.1 ho
 have hq:chg (run m s)=p:=by unfold chg; rw [hp]; rfl
 rw [hq] at hk hs
 exact N6 m (a8o (d92 hp) hk hc hs)
def f1p:M8 ->List Fr ->List (Pc × List Fr)
 |.seq a b,k=>(.c b,k)::(f1p a (.sq b::k)++f1p b k)
 |.cond _ a b,k=>f1p a k++f1p b k
 |.block i a,k=>f1p a (.bk i::k)
 |.loop a,k=>(.l a,k)::f1p a (.lp a::k)
 |.scope a,k=>match c1r a with
  |some l=>(.g l a,k)::f1p a (.sc l a::k)
  |none=>f1p a (.sn::k)
 |_,_=>[]
def pos (P:Program) (f i:Nat):Pc × List Fr:=((f1p (cdC P f) [])[i]?).getD (.n .normal,[])
def J (P:Program) (f:Nat) (R:Rm) (i:Nat) (e:Env) (h:A3):Prop:=Ok P f R ⟨(pos P f i).1,(pos P f i).2,e,h⟩
def atC (s:Mc):Bool:=match s.pc with
 |.c _=>true
 |.l _=>true
 |.g _ _=>true
 |_=>false
theorem c65 (hc:atC s=true) (hg:∀(σ:Sg) (a:Act),St σ s.h s.env (cdN P f) a ->∃σ' h' env',σ'.w=σ.w /\ Le σ σ' /\ St σ' h' env' (cdN P f) a /\ Ok P f R ⟨s.pc,s.k,env',h'⟩):Ok P f R s:=by
 obtain ⟨pc,k,env,h⟩:=s
 cases pc with
 |c x=>exact d7j hg
 |l x=>exact d8i hg
 |g l x=>exact d81 hg
 |_=>cases hc
def f0o (Z:List Nat) (env:Env) (p:Nat × AV):Option AV:=if Z.contains p.1=true then (get env p.1).map nz else get env p.1
theorem e9i {σ:Sg} {h:A3} {env e:Env} {N:Nat} {a:Act} {Z:List Nat} (he:e.map (f0o Z env)=e.map fun p=>some p.2) (hs:St σ h env N a):St σ h e N a:=⟨hs.inv,fun t b ht=>by
 obtain ⟨i,hi⟩:=List.mem_iff_getElem?.1 (d2e ht)
 have h1:=congrArg (fun l=>l[i]?) he
 simp only [List.getElem?_map,hi,Option.map_some,Option.some.injEq] at h1
 unfold f0o at h1
 split at h1
 ·obtain ⟨c,h2,rfl⟩:=Option.map_eq_some_iff.1 h1
  obtain ⟨y,h3,h4⟩:=hs.env t c h2
  exact ⟨y,h3,h4.nz⟩
 ·exact hs.env t b h1,hs.size,hs.defers⟩
theorem d7o {e:Env} (Z:List Nat) (hc:atC s=true) (he:e.map (f0o Z s.env)=e.map fun p=>some p.2) (hk:Ok P f R ⟨s.pc,s.k,e,s.h⟩):Ok P f R s:=c65 hc fun σ a hs=>⟨σ,s.h,e,rfl,Le.refl σ,e9i he hs,hk⟩
theorem KJ (m:Nat) (Z:List Nat) {i:Nat} {e:Env} {h:A3} (hw:J P f R i e h) (hp:((run m s).pc,(run m s).k,(run m s).h)=((pos P f i).1,(pos P f i).2,h):=by kernel_rfl) (hc:atC (run m s)=true:=by kernel_rfl) (he:e.map (f0o Z (run m s).env)=e.map (fun p=>some p.2):=by kernel_rfl):Ok P f R s:=by
 simp only [Prod.mk.injEq] at hp
 refine N6 m (d7o Z hc he ?_)
 rw [hp.1,hp.2.1,hp.2.2]
 exact hw
def c7e (h:A3):List Bool:=h.blks.map Option.isSome
theorem KJl (m:Nat) (Z:List Nat) {i:Nat} {e:Env} {h:A3} (hw:J P f R i e h) (hlow:a6c (c7e h) h.bufs.length e=true /\ a4b (c7e h) h.bufs.length h.blks=true) (hp:((run m s).pc,(run m s).k,W8 (c7e h) (run m s).h.blks,(run m s).h.bufs.take h.bufs.length,(run m s).h.globs)=((pos P f i).1,(pos P f i).2,h.blks,h.bufs,h.globs):=by kernel_rfl) (hc:atC (run m s)=true:=by kernel_rfl) (he:e.map (f0o Z (run m s).env)=e.map (fun p=>some p.2):=by kernel_rfl) (hm:((List.range R.kb).all (fun k=>(c7e h).getD k false)&&Nat.ble R.kf h.bufs.length&&S0 h.globs)=true:=by kernel_rfl):Ok P f R s:=by
 simp only [Prod.mk.injEq] at hp
 simp only [Bool.and_eq_true,List.all_eq_true,List.mem_range] at hm
 refine N6 m (d7o Z hc he ?_)
 generalize run m s=s0 at*
 obtain ⟨pc,k,env,h0⟩:=s0
 obtain ⟨h1,h2,h3,h4,h5⟩:=hp
 simp only at h1 h2 h3 h4 h5
 have hw':Ok P f R ⟨pc,k,e,⟨W8 (c7e h) h0.blks,h0.bufs.take h.bufs.length,h0.globs⟩⟩:=by
  rw [h3,h4,h5,h1,h2]; exact hw
 have hl2:a4b (c7e h) h.bufs.length (W8 (c7e h) h0.blks)=true:=by rw [h3]; exact hlow.2
 have hg:S0 h0.globs=true:=by rw [h5]; exact hm.2
 cases pc with
 |c x=>exact g1n _ _ hm.1.1 (Nat.le_of_ble_eq_true hm.1.2) hlow.1 hl2 hg hw'
 |l x=>exact f7o _ _ hm.1.1 (Nat.le_of_ble_eq_true hm.1.2) hlow.1 hl2 hg hw'
 |g l x=>exact e6l _ _ hm.1.1 (Nat.le_of_ble_eq_true hm.1.2) hlow.1 hl2 hg hw'
 |_=>cases hc
theorem KO (m t sz:Nat) (hk:Ok P f R ⟨(run m s).pc,(run m s).k,(t,.sl [] (.own (run m s).h.bufs.length))::(run m s).env,⟨(run m s).h.blks,(run m s).h.bufs++[(0,sz)],(run m s).h.globs⟩⟩) (hc:atC (run m s)=true:=by kernel_rfl) (hg:get (run m s).env t=some .nil:=by kernel_rfl):Ok P f R s:=N6 m (c65 hc fun σ a hs=>by
 obtain ⟨σ',h1,h2,h3⟩:=f33 sz hg hs
 exact ⟨σ',_,_,h1,h2,h3,hk⟩)
def c6h (s:Mc) (i:Nat):List AV:=((s.h.blks[i]?).bind id).getD []
theorem KOb (m i j sz:Nat) (hk:Ok P f R ⟨(run m s).pc,(run m s).k,(run m s).env,⟨(run m s).h.blks.set i (some ((c6h (run m s) i).set j (.sl [] (.own (run m s).h.bufs.length)))),(run m s).h.bufs++[(0,sz)],(run m s).h.globs⟩⟩) (hc:atC (run m s)=true:=by kernel_rfl) (hg:(run m s).h.blks[i]? =some (some (c6h (run m s) i)):=by kernel_rfl) (hj:(c6h (run m s) i)[j]? =some .nil:=by kernel_rfl):Ok P f R s:=N6 m (c65 hc fun σ a hs=>by
 obtain ⟨σ',h1,h2,h3⟩:=e4e sz hg hj hs
 exact ⟨σ',_,_,h1,h2,h3,hk⟩)
theorem KNb (m i j:Nat) (hk:Ok P f R ⟨(run m s).pc,(run m s).k,(run m s).env,⟨(run m s).h.blks.set i (some ((c6h (run m s) i).set j (nz1 (atE (c6h (run m s) i) j)))),(run m s).h.bufs,(run m s).h.globs⟩⟩) (hc:atC (run m s)=true:=by kernel_rfl) (hg:(run m s).h.blks[i]? =some (some (c6h (run m s) i)):=by kernel_rfl) (hj:(c6h (run m s) i)[j]? =some (atE (c6h (run m s) i) j):=by kernel_rfl) (hi:(a63 (c6h (run m s) i)&&a63 ((c6h (run m s) i).set j (nz1 (atE (c6h (run m s) i) j))))=true:=by kernel_rfl):Ok P f R s:=by
 rw [Bool.and_eq_true] at hi
 exact N6 m (c65 hc fun σ a hs=>⟨σ,_,_,rfl,Le.refl σ,f97 hg hj rfl hi.1 hi.2 hs,hk⟩)
def done (s:Mc):Bool:=match s.pc,s.k with
 |.n .ret,[]=>true
 |.n .normal,[]=>true
 |_,_=>false
theorem d6n (hd:done s=true) (hk:R.Q (cdR P f) .ret s.env s.h):Ok P f R s:=by
 obtain ⟨pc,k,env,h⟩:=s
 simp only [done] at hd
 split at hd
 ·exact hk
 ·cases R<;>exact hk
 ·cases hd
theorem KR (m:Nat) {T:Type} {e:T ->AV} {r r0:T} (hw:r=r0) (hp:∀r,plain (e r)=true) (hd:done (run m s)=true:=by kernel_rfl) (he:(c4v (run m s).env (run m s).h (cdR P f)).map (fun l=>nz (c93 l))=some (e r0):=by kernel_rfl):Ok P f (.ret (e r)) s:=N6 m (d6n hd (rx hw (hp r0) he))
theorem KRi (m:Nat) {T:Type} {k:Nat} {e:T ->AV} {fc:T ->List AV} {fb:T ->List (Nat × Nat)} {r r0:T} (hw:r=r0) (hp:∀r,plain (e r)=true /\ (fc r).all ok1=true /\ lowL [true] k (fc r)=true /\ (fb r).length=k) (hd:done (run m s)=true:=by kernel_rfl) (he:(c4v (run m s).env (run m s).h (cdR P f)).map (fun l=>nz (c93 l))=some (e r0):=by kernel_rfl) (hb:(run m s).h.blks[0]? =some (some (c6h (run m s) 0)):=by kernel_rfl) (hit:a63 (c6h (run m s) 0)=true:=by kernel_rfl) (hc:(c6h (run m s) 0).map (a1a 0 (some 0))=fc r0:=by kernel_rfl) (hf:(run m s).h.bufs.take k=fb r0:=by kernel_rfl) (hg:(run m s).h.globs=[]:=by kernel_rfl):Ok P f (.io k (e r) (fc r) (fb r)) s:=N6 m (d6n hd (rio hw ⟨(hp r0).1,(hp r0).2.1,(hp r0).2.2.1⟩ _ he hb hit hc hf hg))
theorem KRr (m:Nat) {α:Type} (E:En α) {r l:List α} (hw:l≠[] /\ r=l) (hd:done (run m s)=true:=by kernel_rfl) (hr:cdR P f=[]:=by kernel_rfl) (hb:(run m s).h.blks[0]? =some (some (cellsOf E.f l)):=by kernel_rfl) (hf:(run m s).h.bufs.take 0=[]:=by kernel_rfl) (hg:(run m s).h.globs=[]:=by kernel_rfl):Ok P f (.io 0 (.tuple []) (cellsOf E.f r) []) s:=N6 m (d6n hd (by rw [hr]; exact h0w E.ro hw hb hf hg))
theorem d13 (h:(a7v P f).isSome=true):a7v P f=some (cdN P f,cdC P f,cdR P f):=by
 unfold cdN cdC cdR
 cases hg:a7v P f with
 |none=>rw [hg] at h; cases h
 |some p=>rfl
def s0 (P:Program) (f:Nat) (args:List AV) (h:A3):Mc:=⟨.c (cdC P f),[],b5h 0 args,h⟩
theorem fP {gl:List (Nat × List AV)} {args:List AV} {r:AV} (hk:Ok P f (.ret r) (s0 P f args ⟨[],[],gl⟩)) (hf:((a7v P f).isSome&&Nat.ble args.length (cdN P f))=true:=by kernel_rfl):B5 P gl f args r:=by
 rw [Bool.and_eq_true] at hf
 exact f4j (d13 hf.1) (Nat.le_of_ble_eq_true hf.2) rfl hk
theorem fIO {k:Nat} {args c:List AV} {bf:List (Nat × Nat)} {r:AV} {c':List AV} {bf':List (Nat × Nat)} (hk:Ok P f (.io k r c' bf') (s0 P f args ⟨[some c],bf,[]⟩)) (hb:bf.length=k:=by kernel_rfl) (hf:((a7v P f).isSome&&Nat.ble args.length (cdN P f))=true:=by kernel_rfl):c6a P [] f args c bf r c' bf':=by
 rw [Bool.and_eq_true] at hf
 exact h07 (d13 hf.1) k hb (Nat.le_of_ble_eq_true hf.2) rfl hk
theorem fRO {α:Type} {e:α ->List AV} {sz len:Nat} {args:List AV} {l r:List α} (hk:Ok P f (.io 0 (.tuple []) (cellsOf e r) []) (s0 P f (.row 0 0 sz len len::args) ⟨[some (cellsOf e l)],[],[]⟩)) (hf:((a7v P f).isSome&&Nat.ble (AV.row 0 0 sz len len::args).length (cdN P f))=true:=by kernel_rfl):b9f P e sz f len args l r:=fIO hk rfl hf
def g9j (s:Mc):Bool:=match s.pc with
 |.v (o::_)=>I1 s.env o.guard==some true
 |_=>false
theorem KN (m:Nat) {α:Type} (E:En α) {l:List α} {c:Bool} {W:Bool ->Prop} (hw:∀b:Bool,(l≠[] ->b=c) ->W b) (hk:∀b,W b ->Ok P f R (put (run m s) (.v (.bool b)))) (hc:g9j (run m s)=true:=by kernel_rfl) (ho:op (run m s)=.eq .slice (!c) (oX (op (run m s))) (oY (op (run m s))):=by kernel_rfl) (hx:b9o (xv (run m s))=some (List.map E.f l):=by kernel_rfl) (hy:yv (run m s)=some .nil:=by kernel_rfl):Ok P f R s:=by
 refine N6 m ?_
 generalize run m s=s0 at*
 obtain ⟨pc,k,env,h⟩:=s0
 obtain ⟨tok,hx⟩:=a6v hx
 cases pc with
 |v L=>
  cases L with
  |nil=>cases hc
  |cons o L=>
   refine .inr (.inr ⟨by simpa [g9j] using hc,fun av=>∃b:Bool,av=.v (.bool b) /\ (l≠[] ->b=c),fun K' hK'=> ?_,fun av hav=> ?_⟩)
   ·change o.op=_ at ho
    rw [ho]
    simp only [aop]
    change wv (xv _) _
    rw [hx]
    simp only [wv]
    change wv (yv _) _
    rw [hy]
    simp only [wv,e8i]
    rcases Classical.em (l=[]) with h0|h0
    ·right
     subst h0
     exact ⟨rfl,hK' _ ⟨_,rfl,fun hn=>absurd rfl hn⟩,hK' _ ⟨_,rfl,fun hn=>absurd rfl hn⟩⟩
    ·left
     refine ⟨by simpa using h0,hK' _ ⟨_,rfl,fun _=> ?_⟩⟩
     cases c<;>rfl
   ·obtain ⟨b,rfl,hb⟩:=hav
    exact hk b (hw b hb)
 |_=>cases hc
theorem b7y {s:Mc} {h:A3} (hs:seE s=none):seS s h=none:=by
 obtain ⟨pc,k,env,h⟩:=s
 cases pc with
 |s b L S gl w tl=>cases L<;>first|rfl|cases hs
 |_=>rfl
theorem KX (m:Nat) {t:ByteArray} {p:Nat} {A B:Prop} (hw:(p<t.size ->A) /\ (¬p<t.size ->B)) (h1:p<t.size ->A ->Ok P f R (d3o (run m s) (.tuple [.v (.bool true),.v (.int .i64 p),.v (.int .i32 (Utf8.decode t p).1)]) ⟨(run m s).h.blks.set (e0u (xv (run m s))) (some [.it t (p+(Utf8.decode t p).2)]),(run m s).h.bufs,(run m s).h.globs⟩)) (h2:¬p<t.size ->B ->Ok P f R (d3o (run m s) (.tuple [.v (.bool false)]) (run m s).h)) (hc:okH (run m s)=true:=by kernel_rfl) (ho:op (run m s)=.next (oX (op (run m s))):=by kernel_rfl) (hx:xv (run m s)=some (.ptr (e0u (xv (run m s))) 0):=by kernel_rfl) (hb:(run m s).h.blks[e0u (xv (run m s))]? =some (some [.it t p]):=by kernel_rfl) (hs:seE (run m s)=none:=by kernel_rfl):Ok P f R s:=by
 have hsn:∀h',seS (run m s) h'=seE (run m s):=fun h'=>by rw [hs]; exact b7y hs
 rcases Nat.lt_or_ge p t.size with hp|hp
 ·refine N6 m (a8o (fun K hk=> ?_) (h1 hp (hw.1 hp)) hc (hsn _))
  rw [ho]
  simp only [aop]
  change wv (xv _) _
  rw [hx]
  simp only [wv,c4z,hb]
  exact ⟨fun _=>hk,fun hn=>(hn hp).elim⟩
 ·refine N6 m (a8o (fun K hk=> ?_) (h2 (Nat.not_lt.2 hp) (hw.2 (Nat.not_lt.2 hp))) hc (hsn _))
  rw [ho]
  simp only [aop]
  change wv (xv _) _
  rw [hx]
  simp only [wv,c4z,hb]
  exact ⟨fun hn=>(Nat.not_lt.2 hp hn).elim,fun _=>hk⟩
end
abbrev JP (P:Program) (f:Nat) (r:AV) (i:Nat) (e:Env):Prop:=J P f (.ret r) i e ⟨[],[],[]⟩
section
variable {P:Program} {f:Nat} {R:Rm} {s:Mc} {α:Type} {W:α ->Prop} {p:Prop}
theorem mS {h:A3} {y:Option AV} {E:En Int} {t:ByteArray} (hy:y=some (.v (.string t)):=by kernel_rfl) (hE:E.f=(fun n=>[AV.v (.int .u8 n)]):=by kernel_rfl):HM h y E (bI t):=by
 unfold HM
 rw [hE]
 exact g18 hy
theorem KC0 (m:Nat) {g:FuncId} {gl:List (Nat × List AV)} {args:List AV} {r:AV} (hw:B5 P gl g args r /\ p) (hp:plainL args=true) (hk:p ->Ok P f R (put (run m s) r)) (hc:okS (run m s)=true:=by kernel_rfl) (ho:op (run m s)=.call (.c (.clo (.func g) [] [])) (oA (op (run m s))):=by kernel_rfl) (ha:(evs (run m s).env (oA (op (run m s)))).map (List.map nz)=some args:=by kernel_rfl) (hg:e4w (run m s)=gl:=by kernel_rfl) (hgl:S0 gl=true:=by kernel_rfl):Ok P f R s:=KC (W:=fun _:Unit=>p) (e:=fun _=>r) m ⟨(),hw⟩ hp (fun _=>hk) hc ho ha hg hgl
def ioN (s:Mc):Nat:=match evs s.env (oA (op s)) with
 |some (.ptr n _::_)=>n
 |some (.row n _ _ _ _::_)=>n
 |_=>0
def ioA (s:Mc):List AV:=(evs s.env (oA (op s))).getD []
theorem g49 {l:List (Nat × Nat)} (h:l.length=1):∃x,l=[x]:=by
 match l,h with
 |[x],_=>exact ⟨x,rfl⟩
theorem KI1 (m:Nat) {g:FuncId} {gl:List (Nat × List AV)} {small c:List AV} {bf:List (Nat × Nat)} {e:α ->AV} {c':α ->List AV} {bf':α ->List (Nat × Nat)} (hw:∃y,c6a P gl g small c bf (e y) (c' y) (bf' y) /\ W y) (hp:∀{y:α},c.all ok1=true /\ (c' y).all ok1=true /\ small.all okA=true /\ plain (e y)=true) (hk:∀y,W y ->Ok P f R (d3o (run m s) (e y) ⟨(run m s).h.blks.set (ioN (run m s)) (some ((c' y).map (d3n (ioN (run m s)) (some 0)))),bf' y,(run m s).h.globs⟩)) (hc:okH (run m s)=true:=by kernel_rfl) (ho:op (run m s)=.call (.c (.clo (.func g) [] [])) (oA (op (run m s))):=by kernel_rfl) (hb:(bf.length,fun y=>(bf' y).length)=(1,fun _=>1):=by kernel_rfl) (hb2:(run m s).h.bufs=bf:=by kernel_rfl) (ha:evs (run m s).env (oA (op (run m s)))=some (ioA (run m s)):=by kernel_rfl) (hn:(run m s).h.blks[ioN (run m s)]? =some (some (c6h (run m s) (ioN (run m s)))):=by kernel_rfl) (hit:a63 (c6h (run m s) (ioN (run m s)))=true:=by kernel_rfl) (hit':(fun y=>a63 (c' y))=(fun _=>true):=by kernel_rfl) (hcc:(c6h (run m s) (ioN (run m s))).map (a1a (ioN (run m s)) (some 0))=c:=by kernel_rfl) (hargs:(ioA (run m s)).map (smol (ioN (run m s)) (some 0))=small:=by kernel_rfl) (hg:(run m s).h.globs=gl:=by kernel_rfl) (hgl:S0 gl=true:=by kernel_rfl) (hs:seE (run m s)=none:=by kernel_rfl):Ok P f R s:=by
 obtain ⟨y,h1,hw⟩:=hw
 subst hg
 simp only [Prod.mk.injEq] at hb
 obtain ⟨x,hx⟩:=g49 hb.1
 obtain ⟨x',hx'⟩:=g49 (congrFun hb.2 y)
 refine N6 m (a8o ?_ (hk y hw) hc (by rw [hs]; exact b7y hs))
 rw [ho]
 exact g8g _ (some 0) _ _ _ h1 hp (.inr ⟨x,x',rfl,hx,hx',hb2.trans hx,hx'⟩) ha hn hit (congrFun hit' y) hcc hargs rfl hgl
theorem KIN (m j sz:Nat) {g:FuncId} {gl:List (Nat × List AV)} {small c:List AV} {bf:List (Nat × Nat)} {e:α ->AV} {c':α ->List AV} {bf':α ->List (Nat × Nat)} (hw:∃y,c6a P gl g small c bf (e y) (c' y) (bf' y) /\ W y) (hp:∀{y:α},c.all ok1=true /\ (c' y).all ok1=true /\ small.all okA=true /\ plain (e y)=true) (hk:∀y,W y ->Ok P f R (d3o (run m s) (e y) ⟨(run m s).h.blks.set (ioN (run m s)) (some ((c' y).map (d3n (ioN (run m s)) (some 0)))),bf' y,(run m s).h.globs⟩)) (hc:okH (run m s)=true:=by kernel_rfl) (ho:op (run m s)=.call (.c (.clo (.func g) [] [])) (oA (op (run m s))):=by kernel_rfl) (hb:(bf,fun y=>(bf' y).length)=([(0,sz)],fun _=>1):=by kernel_rfl) (hb2:(run m s).h.bufs=[]:=by kernel_rfl) (ha:evs (run m s).env (oA (op (run m s)))=some (ioA (run m s)):=by kernel_rfl) (hn:(run m s).h.blks[ioN (run m s)]? =some (some (c6h (run m s) (ioN (run m s)))):=by kernel_rfl) (hj:(c6h (run m s) (ioN (run m s)))[j]? =some .nil:=by kernel_rfl) (hit:a63 ((c6h (run m s) (ioN (run m s))).set j (.sl [] (.own 0)))=true:=by kernel_rfl) (hit':(fun y=>a63 (c' y))=(fun _=>true):=by kernel_rfl) (hcc:((c6h (run m s) (ioN (run m s))).set j (.sl [] (.own 0))).map (a1a (ioN (run m s)) (some 0))=c:=by kernel_rfl) (hargs:(ioA (run m s)).map (smol (ioN (run m s)) (some 0))=small:=by kernel_rfl) (hg:(run m s).h.globs=gl:=by kernel_rfl) (hgl:S0 gl=true:=by kernel_rfl) (hs:seE (run m s)=none:=by kernel_rfl):Ok P f R s:=by
 obtain ⟨y,h1,hw⟩:=hw
 subst hg
 simp only [Prod.mk.injEq] at hb
 obtain ⟨x',hx'⟩:=g49 (congrFun hb.2 y)
 refine N6 m (a8o ?_ (hk y hw) hc (by rw [hs]; exact b7y hs))
 rw [ho,hx']
 exact g69 _ j sz _ _ _ h1 hp ⟨hb.1,hx'⟩ ha hn hj hb2 hit (congrFun hit' y) hcc hargs rfl hgl
theorem KRO (m:Nat) (E:En α) {g:FuncId} {len:Nat} {small:List AV} {l:List α} {W:List α ->Prop} (hw:∃y,b9f P E.f E.sz g len small l y /\ (l≠[] /\ y≠[]) /\ W y) (hp:small.all okA=true) (hk:∀y,W y ->Ok P f R (d3o (run m s) (.tuple []) ⟨(run m s).h.blks.set (ioN (run m s)) (some (cellsOf E.f y)),(run m s).h.bufs,(run m s).h.globs⟩)) (hc:okH (run m s)=true:=by kernel_rfl) (ho:op (run m s)=.call (.c (.clo (.func g) [] [])) (oA (op (run m s))):=by kernel_rfl) (ha:evs (run m s).env (oA (op (run m s)))=some (ioA (run m s)):=by kernel_rfl) (hn:(run m s).h.blks[ioN (run m s)]? =some (some (cellsOf E.f l)):=by kernel_rfl) (hargs:(ioA (run m s)).map (smol (ioN (run m s)) none)=.row 0 0 E.sz len len::small:=by kernel_rfl) (hg:(run m s).h.globs=[]:=by kernel_rfl) (hs:seE (run m s)=none:=by kernel_rfl):Ok P f R s:=by
 obtain ⟨y,h1,h0,hw⟩:=hw
 refine N6 m (a8o ?_ (hk y hw) hc (by rw [hs]; exact b7y hs))
 rw [ho]
 exact g31 _ _ E.ro h1 h0 hp ha hn hargs hg
theorem KNw (m:Nat) (E:En α) {g:FuncId} {l:List α} (h0:l≠[]) (hw:f3j P E.f E.sz g l /\ p) (hk:p ->Ok P f R (d3o (run m s) (.row (run m s).h.blks.length 0 E.sz l.length l.length) ⟨(run m s).h.blks++[some (cellsOf E.f l)],(run m s).h.bufs,(run m s).h.globs⟩)) (hc:okH (run m s)=true:=by kernel_rfl) (ho:op (run m s)=.call (.c (.clo (.func g) [] [])) (oA (op (run m s))):=by kernel_rfl) (ha:(evs (run m s).env (oA (op (run m s)))).map (List.map nz)=some [.sl (l.map E.f) .no]:=by kernel_rfl) (hs:seE (run m s)=none:=by kernel_rfl):Ok P f R s:=N6 m (a8o (by rw [ho]; exact g7n hw.1 E.ro h0 ha) (hk hw.2) hc (by rw [hs]; exact b7y hs))
theorem KNB (m:Nat) (E:En α) {g:FuncId} {l:List α} (hw:f8a P E.f E.sz g l /\ p) (hk:p ->Ok P f R (d3o (run m s) (.sl (l.map E.f) (.own (run m s).h.bufs.length)) ⟨(run m s).h.blks,(run m s).h.bufs++[(l.length,E.sz)],(run m s).h.globs⟩)) (hc:okH (run m s)=true:=by kernel_rfl) (ho:op (run m s)=.call (.c (.clo (.func g) [] [])) (oA (op (run m s))):=by kernel_rfl) (ha:(evs (run m s).env (oA (op (run m s)))).map (List.map nz)=some [.sl (l.map E.f) .no]:=by kernel_rfl) (hs:seE (run m s)=none:=by kernel_rfl):Ok P f R s:=N6 m (a8o (by rw [ho]; exact g2d hw.1 E.ro.hp ha) (hk hw.2) hc (by rw [hs]; exact b7y hs))
theorem KT2 (m n:Nat) (B:Bool) (C:Bool ->AV) (h1:B=true ->Ok P f R (jn (run m s) n (C true)) ->Ok P f R (br (run m s) true)) (h2:B=false ->Ok P f R (jn (run m s) n (C false)) ->Ok P f R (br (run m s) false)) (hk:Ok P f R (jn (run m s) n (C B))) (hv:cv (run m s)=some (.v (.bool B)):=by kernel_rfl):Ok P f R s:=N6 m (e7j hv (fun h=>h1 h (by rw [h] at hk; exact hk)) fun h=>h2 h (by rw [h] at hk; exact hk))
theorem KE2 (m:Nat) {a:AV} {s0:Mc} {n:Nat} (key:Ok P f R (jn s0 n a)) (ha:get (run m s).env (jnD s0 n)=some a:=by kernel_rfl) (hb:c9o (run m s)=c9o (jn s0 n a):=by kernel_rfl) (hd:(run m s).env.drop ((run m s).env.length - s0.env.length)=s0.env:=by kernel_rfl) (hf:met s0 (run m s) n=true:=by kernel_rfl):Ok P f R s:=N6 m (d83 key ha hb hd hf)
def g2x (s:Mc):Bool:=match s.pc with
 |.c _=>true
 |_=>false
def cut (e:Env) (env:Env):Env:=e.map fun p=>(p.1,(get env p.1).getD .nil)
theorem e7m {e:Env} (hc:g2x s=true) (he:(cut e s.env).map (f0o [] s.env)=(cut e s.env).map fun p=>some p.2) (hk:∀x,s.pc=.c x ->D P (cdN P f) R.kb R.kf x (Qs P f R s.k) (cut e s.env) s.h):Ok P f R s:=by
 refine d7o [] ?_ he ?_
 ·obtain ⟨pc,k,env,h⟩:=s
  cases pc<;>first|rfl|cases hc
 ·obtain ⟨pc,k,env,h⟩:=s
  cases pc<;>first|exact hk _ rfl|cases hc
theorem KFz (m n:Nat) (mk:List Bool) (k:Nat) (e:Env) (bs:List (Option (List AV))) (hl:a6c mk k e=true /\ a4b mk k bs=true) (hk:Ok P f R ⟨(run m s).pc,(run m s).k,e,⟨bs,(run m s).h.bufs.take k,(run m s).h.globs⟩⟩) (hc:g2x (run m s)=true:=by kernel_rfl) (he:(cut e (run m s).env).map (f0o [] (run m s).env)=(cut e (run m s).env).map (fun p=>some p.2):=by kernel_rfl) (hb:(run m s).h.blks[n]? =some (some (c6h (run m s) n)):=by kernel_rfl) (h1:(a63 (c6h (run m s) n)&& !mk.getD n false&&c4f mk (run m s).h.blks&&(List.range R.kb).all (fun k=>mk.getD k false)&&Nat.ble R.kf k&&S0 (run m s).h.globs)=true:=by kernel_rfl) (hE:fzE n (c6h (run m s) n) (cut e (run m s).env)=e:=by kernel_rfl) (hbs:W8 mk (run m s).h.blks=bs:=by kernel_rfl):Ok P f R s:=by
 simp only [Bool.and_eq_true,List.all_eq_true,List.mem_range,Bool.not_eq_true'] at h1
 obtain ⟨⟨⟨⟨⟨a1,a2⟩,a3⟩,a4⟩,a5⟩,a6⟩:=h1
 refine N6 m (e7m hc he fun x hx=> ?_)
 rw [hx] at hk
 subst hbs
 exact e8s n mk k _ hb a1 a2 a3 a4 (Nat.le_of_ble_eq_true a5) hE hl.1 hl.2 a6 hk
theorem KDf (m:Nat) (E:En α) (n:Nat) (mk:List Bool) (k c:Nat) (e:Env) (bs:List (Option (List AV))) (hl:a6c mk k e=true /\ a4b mk k bs=true) {l:List α} {len:Nat} (hw:l.length=len /\ p) (hk:p ->Ok P f R ⟨(run m s).pc,(run m s).k,e,⟨bs,(run m s).h.bufs.take k,(run m s).h.globs⟩⟩) (hc:g2x (run m s)=true:=by kernel_rfl) (he:(cut e (run m s).env).map (f0o [] (run m s).env)=(cut e (run m s).env).map (fun p=>some p.2):=by kernel_rfl) (hb:(run m s).h.blks[n]? =some (some (cellsOf E.f l)):=by kernel_rfl) (h1:(Nat.ble 1 E.sz&& !mk.getD n false&&c4f mk (run m s).h.blks&&(List.range R.kb).all (fun k=>mk.getD k false)&&Nat.ble R.kf k&&S0 (run m s).h.globs)=true:=by kernel_rfl) (hr:b5n n (cut e (run m s).env)=List.replicate c (0,E.sz,len):=by kernel_rfl) (hE:f2u n (List.map E.f l) (cut e (run m s).env)=e:=by kernel_rfl) (hbs:W8 mk (run m s).h.blks=bs:=by kernel_rfl):Ok P f R s:=by
 simp only [Bool.and_eq_true,List.all_eq_true,List.mem_range,Bool.not_eq_true'] at h1
 obtain ⟨⟨⟨⟨⟨a1,a2⟩,a3⟩,a4⟩,a5⟩,a6⟩:=h1
 refine N6 m (e7m hc he fun x hx=> ?_)
 have hk:=hk hw.2
 rw [hx] at hk
 exact drf n mk k c l len e bs E.ro.hs E.ro.hn hw.1 hl hk hb a1 hr a2 a3 a4 a5 hE hbs a6
theorem KDg (m:Nat) (E:En α) (n:Nat) (mk:List Bool) (k c c':Nat) (e:Env) (bs:List (Option (List AV))) (hl:a6c mk k e=true /\ a4b mk k bs=true) {l:List α} {len:Nat} (hw:l.length=len /\ p) (hk:p ->Ok P f R ⟨(run m s).pc,(run m s).k,e,⟨bs,(run m s).h.bufs.take k,(run m s).h.globs⟩⟩) (hc:g2x (run m s)=true:=by kernel_rfl) (he:(cut e (run m s).env).map (f0o [] (run m s).env)=(cut e (run m s).env).map (fun p=>some p.2):=by kernel_rfl) (hb:(run m s).h.blks[n]? =some (some (cellsOf E.f l)):=by kernel_rfl) (h1:(!mk.getD n false&&c4f mk (run m s).h.blks&&(List.range R.kb).all (fun k=>mk.getD k false)&&Nat.ble R.kf k&&S0 (run m s).h.globs)=true:=by kernel_rfl) (hr:b5n n (cut e (run m s).env)=List.replicate c (0,E.sz,len):=by kernel_rfl) (hr2:e38 n (W8 mk (run m s).h.blks)=List.replicate c' (0,E.sz,len):=by kernel_rfl) (hE:f2u n (List.map E.f l) (cut e (run m s).env)=e:=by kernel_rfl) (hbs:f41 n (List.map E.f l) (W8 mk (run m s).h.blks)=bs:=by kernel_rfl):Ok P f R s:=by
 simp only [Bool.and_eq_true,List.all_eq_true,List.mem_range,Bool.not_eq_true'] at h1
 obtain ⟨⟨⟨⟨a2,a3⟩,a4⟩,a5⟩,a6⟩:=h1
 refine N6 m (e7m hc he fun x hx=> ?_)
 have hk:=hk hw.2
 rw [hx] at hk
 exact h1i n mk k c c' l len e bs E.ro.hs E.ro.hn hw.1 hl hk hb hr hr2 a2 a3 a4 a5 hE hbs a6
end
def g82 (P:Program) (l:List Nat):Tbl:=l.map fun g=>(g,cdN P g,cdC P g,cdR P g)
theorem g07 {P:Program} {l:List Nat} (h:l.all (fun g=>(a7v P g).isSome)=true):d0a P (g82 P l):=by
 intro g x hm
 obtain ⟨k,hk,he⟩:=List.mem_map.1 hm
 cases he
 exact d13 (List.all_eq_true.1 h g hk)
def f3g (sz b:Nat):M8:=.seq (.region [o 2 (.mv (.c .nil))]) (.seq (.seq (.region [o 3 (mv 0),o 4 (.eq .slice true (T 3) (.c .nil))]) (.cond (T 4) (.seq (.region [o 2 (.mv (.c .nil))]) .ret) .skip)) (.seq (.region [o 5 (.sliceLit sz 0 [] []),o 6 (mv 0),o 7 (.append sz b (T 5) (T 6)),o 2 (mv 7)]) .ret))
theorem e5x {P:Program} {sz:Nat} {env:Env} {h:A3}:a2h P (.sliceLit sz 0 [] []) env h (.sl [] .full) h:=f2w (by simp [d0c,evp,c97,c5k])
theorem d50 {P:Program} {g b:Nat} {α:Type} (E:En α) {s:List α} (hw:s≠[] /\ s.length*b<=140737488355328) (hf:a7v P g=some (8,f3g E.sz b,[.tmp 2]):=by kernel_rfl):f3j P E.f E.sz g s:=by
 refine g3s hf rfl rfl (ds (va 1 [] (ve (d8j (ds (va 1 [(3,.sl (List.map E.f s) .no)] (vn rfl s E.f (fun bj1 hb0=> ?_))))))))
 refine ve (dkf (hb0 hw.1) ?_)
 refine e3t (ds (vo rfl e5x rfl (va 1 [(6,.sl (List.map E.f s) .no)] ?_)))
 exact vo rfl (g0k E.f s hw.1 hw.2 E.ro.hs (by kernel_rfl)) rfl (va 1 [(2,.row 0 0 E.sz s.length s.length)] (ve (e9w (h0g rfl))))
theorem e2v {P:Program} {g b:Nat} {α:Type} (E:En α) {s:List α} (hw:s.length*b<=140737488355328) (hf:a7v P g=some (8,f3g E.sz b,[.tmp 2]):=by kernel_rfl):f8a P E.f E.sz g s:=by
 refine g0x hf rfl rfl (ds (va 1 [] (ve (d8j (ds (va 1 [(3,.sl (List.map E.f s) .no)] (vn rfl s E.f (fun bj1 hb0=> ?_))))))))
 refine ve (dw (B:=bj1) (p:=s=[]) (q:=True) ⟨fun h=>Classical.byContradiction fun hn=>(by rw [hb0 hn] at h; cases h),fun _=>trivial⟩ (fun _ h0=> ?_) (fun _ _=> ?_))
 ·subst h0
  exact ds (va 1 [(2,.nil)] (ve (g3x (t:=2) E.sz (by kernel_rfl) (e9w (f8s rfl)))))
 refine e3t (ds (vo rfl e5x rfl (va 1 [(6,.sl (List.map E.f s) .no)] ?_)))
 exact vo rfl (f17 E.f ([]:List α) s (by simpa using hw) E.ro.hs (by kernel_rfl) (by kernel_rfl)) rfl (va 1 [(2,.sl (List.map E.f (([]:List α)++s)) (.own 0))] (ve (e9w (f8s (l2:=([]:List α)++s) rfl))))
section
open Go.RowKit Go.ChangeShapes Go.WideShapes Go.ChangeAt
theorem c62 {α:Type} {P:Nat ->α ->Prop}:∀n:Nat,(∀i,i<n ->∃x,P i x) ->∃xs:List α,xs.length=n /\ ∀(i:Nat) x,xs[i]? =some x ->P i x
 |0,_=>⟨[],rfl,fun i x h=>by simp at h⟩
 |n+1,h=>by
  obtain ⟨xs,hl,hx⟩:=c62 n (fun i hi=>h i (by omega))
  obtain ⟨y,hy⟩:=h n (by omega)
  refine ⟨xs++[y],by simp [hl],fun i x hi=> ?_⟩
  by_cases hin:i<n
  ·rw [List.getElem?_append_left (by omega)] at hi; exact hx i x hi
  ·rw [List.getElem?_append_right (by omega)] at hi
   by_cases e:i=n
   ·subst e; rw [hl] at hi; simp at hi; subst hi; exact hy
   ·rw [List.getElem?_eq_none (by simp; omega)] at hi; cases hi
def Ty (P:Program):Nat ->TypeId ->List AV ->Prop
 |0,_,_=>False
 |n+1,t,avs=>match P.underlying t with
  |some (.int k)=>∃m,avs=[.v (.int k m)] /\ (Lit.int k m).wf=true
  |some .bool=>∃b,avs=[.v (.bool b)]
  |some .string=>∃s,avs=[.v (.string s)] /\ s.size<=140737488351232
  |some (.slice e)=>∃els:List (List AV),avs=[.sl els .no] /\ els.length*P.bytesOf e<=140737488351232 /\ ∀el∈els,Ty P n e el
  |some (.struct fs)=>∃parts:List (List AV),avs=parts.flatten /\ parts.length=fs.size /\ ∀(i:Nat) (f:Field),fs[i]? =some f ->∃p,parts[i]? =some p /\ Ty P n f.type p
  |some (.array k e)=>∃parts:List (List AV),avs=parts.flatten /\ parts.length=k /\ ∀p∈parts,Ty P n e p
  |_=>False
def d4a (P:Program):Nat ->List Field ->Nat ->Bool
 |off,[],tot=>off==tot
 |off,f::fs,tot=>f.offset==off&&d4a P (off+P.cellsOf f.type) fs tot
def okT (P:Program) (ts:List TypeId) (t:TypeId):Bool:=
 match P.underlying t with
 |some (.int _)|some .bool|some .string=>true
 |some (.slice e)=>ts.contains e&&decide (0<P.cellsOf e)&&decide (1<=P.bytesOf e)
 |some (.struct fs)=>fs.toList.all (fun f=>ts.contains f.type)&&d4a P 0 fs.toList (P.cellsOf t)
 |some (.array k e)=>ts.contains e&&decide (k*P.cellsOf e=P.cellsOf t)
 |_=>false
def d73 (P:Program) (ts:List TypeId):Bool:=ts.all (okT P ts)
def b4s:Nat ->Nat ->Prop:=fun _ _=>False
section
variable {H:Type} {enc:TypeId × Value ->H} {P:Program} {W:World} {base:Nat} {spare:Nat ->Bool} {held:Bool}
def Y3 (P:Program) (t:TypeId) (d:DataW H):Prop:=∀x∈DataW.weights P t d,x<=140737488351232
theorem b5e:∀(ts:List TypeId) (ds:List (DataW H)) (i:Nat) (t:TypeId) (d:DataW H),ts[i]? =some t ->ds[i]? =some d ->∀x∈DataW.weights P t d,x∈DataW.weightsEach P ts ds
 |[],_,i,_,_,h,_,_,_=>by simp at h
 |_::_,[],i,_,_,_,h,_,_=>by simp at h
 |t'::ts,d'::ds,0,t,d,h1,h2,x,hx=>by
  simp at h1 h2; subst h1; subst h2
  simp only [DataW.weightsEach,List.mem_append]; exact .inl hx
 |t'::ts,d'::ds,i+1,t,d,h1,h2,x,hx=>by
  simp only [DataW.weightsEach,List.mem_append]
  exact .inr (b5e ts ds i t d (by simpa using h1) (by simpa using h2) x hx)
theorem b0o (e:TypeId):∀(ds:List (DataW H)) (i:Nat) (d:DataW H),ds[i]? =some d ->∀x∈DataW.weights P e d,x∈DataW.weightsAll P e ds
 |[],i,_,h,_,_=>by simp at h
 |d'::ds,0,d,h2,x,hx=>by
  simp at h2; subst h2
  simp only [DataW.weightsAll,List.mem_append]; exact .inl hx
 |d'::ds,i+1,d,h2,x,hx=>by
  simp only [DataW.weightsAll,List.mem_append]
  exact .inr (b0o e ds i d (by simpa using h2) x hx)
theorem Y3.part {t:TypeId} {fs:Array Field} {ps:List (DataW H)} (ht:P.underlying t=some (.struct fs)) (h:Y3 P t (.agg ps)) {i:Nat} {f:Field} {d:DataW H} (hf:fs[i]? =some f) (hd:ps[i]? =some d):Y3 P f.type d:=by
 intro x hx
 refine h x ?_
 simp only [DataW.weights,ht]
 exact b5e _ _ i f.type d (by simp [hf]) hd x hx
theorem Y3.elem {t e:TypeId} {es sp:List (DataW H)} (ht:P.underlying t=some (.slice e)) (h:Y3 P t (.slice es sp)) {i:Nat} {d:DataW H} (hd:es[i]? =some d):Y3 P e d:=by
 intro x hx
 refine h x ?_
 simp only [DataW.weights,ht,List.mem_cons,List.mem_append]
 exact .inr (.inl (b0o e es i d hd x hx))
theorem Y3.short {t e:TypeId} {es sp:List (DataW H)} (ht:P.underlying t=some (.slice e)) (h:Y3 P t (.slice es sp)):es.length*P.bytesOf e<=140737488351232:=by
 have:=h ((es.length+sp.length)*P.bytesOf e) (by simp only [DataW.weights,ht,List.mem_cons,true_or])
 rw [Nat.add_mul] at this
 omega
theorem Y3.at_ {t e:TypeId} {k:Nat} {ps:List (DataW H)} (ht:P.underlying t=some (.array k e)) (h:Y3 P t (.agg ps)) {i:Nat} {d:DataW H} (hd:ps[i]? =some d):Y3 P e d:=by
 intro x hx
 refine h x ?_
 simp only [DataW.weights,ht]
 exact b0o e ps i d hd x hx
theorem c5e (σ:Sg):∀(fs:List Field) (off tot:Nat) (cs:List Value) (parts:List (List AV)),d4a P off fs tot=true ->cs.length=tot ->parts.length=fs.length ->
  (∀(i:Nat) (f:Field) (p:List AV),fs[i]? =some f ->parts[i]? =some p ->E3 σ p ((cs.drop f.offset).take (P.cellsOf f.type))) ->E3 σ parts.flatten (cs.drop off)
 |[],off,tot,cs,parts,hc,hl,hp,_=>by
  simp only [d4a,beq_iff_eq] at hc
  have:parts=[]:=List.eq_nil_of_length_eq_zero (by simpa using hp)
  subst this
  rw [List.drop_of_length_le (by omega)]
  exact E3.nil σ
 |f::fs,off,tot,cs,[],hc,hl,hp,_=>by simp at hp
 |f::fs,off,tot,cs,p::parts,hc,hl,hp,h=>by
  simp only [d4a,Bool.and_eq_true,beq_iff_eq] at hc
  obtain ⟨h1,h2⟩:=hc
  have h3:=h 0 f p rfl rfl
  have h4:=c5e σ fs (off+P.cellsOf f.type) tot cs parts h2 hl (by simpa using hp) (fun i g q hg hq=>h (i+1) g q (by simpa using hg) (by simpa using hq))
  have:=h3.append h4
  rw [h1,<-List.drop_drop,List.take_append_drop] at this
  simpa using this
theorem d0v (σ:Sg) (k:Nat):∀(parts:List (List AV)) (cs:List Value),cs.length=parts.length*k ->
  (∀(i:Nat) (p:List AV),parts[i]? =some p ->E3 σ p ((cs.drop (i*k)).take k)) ->E3 σ parts.flatten cs
 |[],cs,hl,_=>by
  have:cs=[]:=List.eq_nil_of_length_eq_zero (by simpa using hl)
  subst this
  exact E3.nil σ
 |p::parts,cs,hl,h=>by
  have h3:=h 0 p rfl
  rw [List.length_cons,Nat.add_mul] at hl
  have h4:=d0v σ k parts (cs.drop k) (by simp; omega) (fun i q hq=>by
   have:=h (i+1) q (by simpa using hq)
   rw [List.drop_drop,show k+i*k=(i+1)*k by rw [Nat.add_mul]; omega]
   exact this)
  have:=h3.append h4
  simp only [Nat.zero_mul,List.drop_zero,List.take_append_drop] at this
  simpa using this
theorem a9a {a b:List AV}:plainL (a++b)=(plainL a&&plainL b):=by
 induction a with
 |nil=>simp [plainL]
 |cons x a ih=>simp [plainL,ih,Bool.and_assoc]
theorem b2o:∀{l:List (List AV)},(∀p∈l,plainL p=true) ->plainL l.flatten=true
 |[],_=>rfl
 |p::l,h=>by rw [List.flatten_cons,a9a,h p (by simp),b2o (fun q hq=>h q (by simp [hq]))]; rfl
theorem d1k:∀{l:List (List AV)},(∀p∈l,plainL p=true) ->plainLL l=true
 |[],_=>rfl
 |p::l,h=>by simp only [plainLL,Bool.and_eq_true]; exact ⟨h p (by simp),d1k fun q hq=>h q (by simp [hq])⟩
end
end
def eL {α:Type} (e:α ->List AV) (x:List α):List AV:=[.sl (List.map e x) .no]
def d7h (x:Int):List AV:=[.v (.int .i8 x)]
theorem M1 (l:List Int):plainLL (l.map d7h)=true:=D0 _ _ fun x _=>rfl
def c7p (x:Int):List AV:=[.v (.int .i16 x)]
theorem F8 (l:List Int):plainLL (l.map c7p)=true:=D0 _ _ fun x _=>rfl
def c8f (x:Int):List AV:=[.v (.int .i32 x)]
theorem G2 (l:List Int):plainLL (l.map c8f)=true:=D0 _ _ fun x _=>rfl
def a7o (x:Int):List AV:=[.v (.int .i64 x)]
theorem F7 (l:List Int):plainLL (l.map a7o)=true:=D0 _ _ fun x _=>rfl
def a9g (x:Int):List AV:=[.v (.int .u8 x)]
theorem M4 (l:List Int):plainLL (l.map a9g)=true:=D0 _ _ fun x _=>rfl
def c8u (x:Int):List AV:=[.v (.int .u16 x)]
theorem G5 (l:List Int):plainLL (l.map c8u)=true:=D0 _ _ fun x _=>rfl
def c9m (x:Int):List AV:=[.v (.int .u32 x)]
theorem G0 (l:List Int):plainLL (l.map c9m)=true:=D0 _ _ fun x _=>rfl
def b5s (x:Int):List AV:=[.v (.int .u64 x)]
theorem F9 (l:List Int):plainLL (l.map b5s)=true:=D0 _ _ fun x _=>rfl
def c2j (x:Bool):List AV:=[.v (.bool x)]
theorem L8 (l:List Bool):plainLL (l.map c2j)=true:=D0 _ _ fun x _=>rfl
def e2h (x:ByteArray):List AV:=[.v (.string x)]
theorem T0 (l:List ByteArray):plainLL (l.map e2h)=true:=D0 _ _ fun x _=>rfl
structure GOp where
 Num:Int
 Name:ByteArray
 Alias:ByteArray
 Card:Int
 Key:Int
 Kind:Int
 Target:Int
 Union:Int
def U2 (x:GOp):List AV:=[.v (.int .i64 x.Num),.v (.string x.Name),.v (.string x.Alias),.v (.int .i64 x.Card),.v (.int .i64 x.Key),.v (.int .i64 x.Kind),.v (.int .i64 x.Target),.v (.int .i64 x.Union)]
theorem M7 (x:GOp):plainL (U2 x)=true:=by simp [U2,plainL,plain,M1,F8,G2,F7,M4,G5,G0,F9,L8,T0,Z9,S8,a09]
theorem T4 (l:List GOp):plainLL (l.map U2)=true:=D0 _ _ fun x _=>M7 x
structure C1 where
 Name:ByteArray
 Ops:(List GOp)
 Unions:Int
def D9 (x:C1):List AV:=[.v (.string x.Name),.sl (List.map U2 x.Ops) .no,.v (.int .i64 x.Unions)]
theorem E6 (x:C1):plainL (D9 x)=true:=by simp [D9,plainL,plain,M1,F8,G2,F7,M4,G5,G0,F9,L8,T0,Z9,S8,a09,M7,T4]
theorem H8 (l:List C1):plainLL (l.map D9)=true:=D0 _ _ fun x _=>E6 x
structure P6 where
 Num:Int
 Wire:Int
 Bits:Int
 Data:ByteArray
def I8 (x:P6):List AV:=[.v (.int .i64 x.Num),.v (.int .i64 x.Wire),.v (.int .u64 x.Bits),.v (.string x.Data)]
theorem O7 (x:P6):plainL (I8 x)=true:=by simp [I8,plainL,plain,M1,F8,G2,F7,M4,G5,G0,F9,L8,T0,Z9,S8,a09,M7,T4,E6,H8]
theorem G8 (l:List P6):plainLL (l.map I8)=true:=D0 _ _ fun x _=>O7 x
structure A0 where
 Kind:Int
 Bits:Int
 Text:ByteArray
 List_:(List A0)
 Pairs:(List (A0 × A0))
 Slots:(List (Int × A0))
 Raws:(List P6)
mutual
def B9:A0 ->List AV
 |⟨f0,f1,f2,f3,f4,f5,f6⟩=>[.v (.int .i64 f0),.v (.int .u64 f1),.v (.string f2),.sl (eGValue'L f3) .no,.sl (eGPair'L f4) .no,.sl (eGSlot'L f5) .no,.sl (List.map I8 f6) .no]
def eGValue'L:List A0 ->List (List AV)
 |[]=>[]
 |x::l=>(B9 x)::eGValue'L l
def eGPair'L:List (A0 × A0) ->List (List AV)
 |[]=>[]
 |(z0,z1)::l=>(B9 z0++B9 z1)::eGPair'L l
def eGSlot'L:List (Int × A0) ->List (List AV)
 |[]=>[]
 |(z0,z1)::l=>([.v (.int .i64 z0)]++B9 z1)::eGSlot'L l
end
def A8 (x:(A0 × A0)):List AV:=B9 x.1++B9 x.2
def A9 (x:(Int × A0)):List AV:=[.v (.int .i64 x.1)]++B9 x.2
theorem b42:∀l,eGValue'L l=List.map B9 l
 |[]=>rfl
 |x::l=>by simp only [eGValue'L,List.map_cons,b42 l]
theorem b6m:∀l,eGPair'L l=List.map A8 l
 |[]=>rfl
 |x::l=>by simp only [eGPair'L,List.map_cons,b6m l,A8]
theorem b5q:∀l,eGSlot'L l=List.map A9 l
 |[]=>rfl
 |x::l=>by simp only [eGSlot'L,List.map_cons,b5q l,A9]
def A4 (x:A0):List AV:=[.v (.int .i64 x.Kind),.v (.int .u64 x.Bits),.v (.string x.Text),.sl (List.map B9 x.List_) .no,.sl (List.map A8 x.Pairs) .no,.sl (List.map A9 x.Slots) .no,.sl (List.map I8 x.Raws) .no]
def S3 (x:(A0 × A0)):List AV:=[.v (.int .i64 x.1.Kind),.v (.int .u64 x.1.Bits),.v (.string x.1.Text),.sl (List.map B9 x.1.List_) .no,.sl (List.map A8 x.1.Pairs) .no,.sl (List.map A9 x.1.Slots) .no,.sl (List.map I8 x.1.Raws) .no,.v (.int .i64 x.2.Kind),.v (.int .u64 x.2.Bits),.v (.string x.2.Text),.sl (List.map B9 x.2.List_) .no,.sl (List.map A8 x.2.Pairs) .no,.sl (List.map A9 x.2.Slots) .no,.sl (List.map I8 x.2.Raws) .no]
def U5 (x:(Int × A0)):List AV:=[.v (.int .i64 x.1),.v (.int .i64 x.2.Kind),.v (.int .u64 x.2.Bits),.v (.string x.2.Text),.sl (List.map B9 x.2.List_) .no,.sl (List.map A8 x.2.Pairs) .no,.sl (List.map A9 x.2.Slots) .no,.sl (List.map I8 x.2.Raws) .no]
theorem Q8 (x:A0):B9 x=A4 x:=by cases x; simp only [B9,A4,b42,b6m,b5q]
theorem a9q (x:(A0 × A0)):A8 x=S3 x:=by simp only [A8,S3,Q8,A4,List.cons_append,List.nil_append]
theorem a9v (x:(Int × A0)):A9 x=U5 x:=by simp only [A9,U5,Q8,A4,List.cons_append,List.nil_append]
mutual
theorem b7x:∀x,plainL (B9 x)=true
 |⟨f0,f1,f2,f3,f4,f5,f6⟩=>by simp [B9,plainL,plain,pl_eGValue'L f3,pl_eGPair'L f4,pl_eGSlot'L f5,M1,F8,G2,F7,M4,G5,G0,F9,L8,T0,Z9,S8,a09,M7,T4,E6,H8,O7,G8]
theorem pl_eGValue'L:∀l,plainLL (eGValue'L l)=true
 |[]=>rfl
 |x::l=>by simp [eGValue'L,plainLL,plainL,plain,a9a,b7x x,pl_eGValue'L l]
theorem pl_eGPair'L:∀l,plainLL (eGPair'L l)=true
 |[]=>rfl
 |(z0,z1)::l=>by simp [eGPair'L,plainLL,plainL,plain,a9a,b7x z0,b7x z1,pl_eGPair'L l]
theorem pl_eGSlot'L:∀l,plainLL (eGSlot'L l)=true
 |[]=>rfl
 |(z0,z1)::l=>by simp [eGSlot'L,plainLL,plainL,plain,a9a,b7x z1,pl_eGSlot'L l]
end
theorem E0 (l:List A0):plainLL (l.map B9)=true:=by rw [<-b42]; exact pl_eGValue'L l
theorem A7 (x:A0):plainL (A4 x)=true:=by have:=E0 [x]; simpa [plainLL,Q8] using this
theorem D3 (l:List (A0 × A0)):plainLL (l.map A8)=true:=by rw [<-b6m]; exact pl_eGPair'L l
theorem O2 (x:(A0 × A0)):plainL (S3 x)=true:=by have:=D3 [x]; simpa [plainLL,a9q] using this
theorem D8 (l:List (Int × A0)):plainLL (l.map A9)=true:=by rw [<-b5q]; exact pl_eGSlot'L l
theorem N9 (x:(Int × A0)):plainL (U5 x)=true:=by have:=D8 [x]; simpa [plainLL,a9v] using this
structure b1k where
 Name:ByteArray
 Val:A0
def a6o (x:b1k):List AV:=[.v (.string x.Name),.v (.int .i64 x.Val.Kind),.v (.int .u64 x.Val.Bits),.v (.string x.Val.Text),.sl (List.map B9 x.Val.List_) .no,.sl (List.map A8 x.Val.Pairs) .no,.sl (List.map A9 x.Val.Slots) .no,.sl (List.map I8 x.Val.Raws) .no]
theorem O3 (x:b1k):plainL (a6o x)=true:=by simp [a6o,plainL,plain,M1,F8,G2,F7,M4,G5,G0,F9,L8,T0,Z9,S8,a09,M7,T4,E6,H8,O7,G8,A7,E0,O2,D3,N9,D8]
theorem L3 (l:List b1k):plainLL (l.map a6o)=true:=D0 _ _ fun x _=>O3 x
structure b2t where
 Name:ByteArray
 Num:Int
 Notes:(List b1k)
def a1z (x:b2t):List AV:=[.v (.string x.Name),.v (.int .i64 x.Num),.sl (List.map a6o x.Notes) .no]
theorem S6 (x:b2t):plainL (a1z x)=true:=by simp [a1z,plainL,plain,M1,F8,G2,F7,M4,G5,G0,F9,L8,T0,Z9,S8,a09,M7,T4,E6,H8,O7,G8,A7,E0,O2,D3,N9,D8,O3,L3]
theorem L0 (l:List b2t):plainLL (l.map a1z)=true:=D0 _ _ fun x _=>S6 x
structure b8o where
 From:Int
 To:Int
def b0k (x:b8o):List AV:=[.v (.int .i64 x.From),.v (.int .i64 x.To)]
theorem T7 (x:b8o):plainL (b0k x)=true:=by simp [b0k,plainL,plain,M1,F8,G2,F7,M4,G5,G0,F9,L8,T0,Z9,S8,a09,M7,T4,E6,H8,O7,G8,A7,E0,O2,D3,N9,D8,O3,L3,S6,L0]
theorem N4 (l:List b8o):plainLL (l.map b0k)=true:=D0 _ _ fun x _=>T7 x
structure a0r where
 Name:ByteArray
 Open:Bool
 Items:(List b2t)
 Reserved:(List b8o)
 Notes:(List b1k)
def Y1 (x:a0r):List AV:=[.v (.string x.Name),.v (.bool x.Open),.sl (List.map a1z x.Items) .no,.sl (List.map b0k x.Reserved) .no,.sl (List.map a6o x.Notes) .no]
theorem U6 (x:a0r):plainL (Y1 x)=true:=by simp [Y1,plainL,plain,M1,F8,G2,F7,M4,G5,G0,F9,L8,T0,Z9,S8,a09,M7,T4,E6,H8,O7,G8,A7,E0,O2,D3,N9,D8,O3,L3,S6,L0,T7,N4]
theorem P9 (l:List a0r):plainLL (l.map Y1)=true:=D0 _ _ fun x _=>U6 x
structure A6 where
 Progs:(List C1)
 Enums:(List a0r)
def B0 (x:A6):List AV:=[.sl (List.map D9 x.Progs) .no,.sl (List.map Y1 x.Enums) .no]
theorem C6 (x:A6):plainL (B0 x)=true:=by simp [B0,plainL,plain,M1,F8,G2,F7,M4,G5,G0,F9,L8,T0,Z9,S8,a09,M7,T4,E6,H8,O7,G8,A7,E0,O2,D3,N9,D8,O3,L3,S6,L0,T7,N4,U6,P9]
theorem T3 (l:List A6):plainLL (l.map B0)=true:=D0 _ _ fun x _=>C6 x
structure b7t where
 a0:Int
 a1:Int
def b3z (x:b7t):List AV:=[.v (.int .i64 x.a0),.v (.int .i64 x.a1)]
theorem L4 (x:b7t):plainL (b3z x)=true:=by simp [b3z,plainL,plain,M1,F8,G2,F7,M4,G5,G0,F9,L8,T0,Z9,S8,a09,M7,T4,E6,H8,O7,G8,A7,E0,O2,D3,N9,D8,O3,L3,S6,L0,T7,N4,U6,P9,C6,T3]
theorem I2 (l:List b7t):plainLL (l.map b3z)=true:=D0 _ _ fun x _=>L4 x
structure a6s where
 Data:ByteArray
 At:Int
 End:Int
 Depth:Int
 Nodes:Int
 Text:Int
def b1v (x:a6s):List AV:=[.v (.string x.Data),.v (.int .i64 x.At),.v (.int .i64 x.End),.v (.int .i64 x.Depth),.v (.int .i64 x.Nodes),.v (.int .i64 x.Text)]
theorem Q9 (x:a6s):plainL (b1v x)=true:=by simp [b1v,plainL,plain,M1,F8,G2,F7,M4,G5,G0,F9,L8,T0,Z9,S8,a09,M7,T4,E6,H8,O7,G8,A7,E0,O2,D3,N9,D8,O3,L3,S6,L0,T7,N4,U6,P9,C6,T3,L4,I2]
theorem N2 (l:List a6s):plainLL (l.map b1v)=true:=D0 _ _ fun x _=>Q9 x
structure c3h where
 Bytes:Int
 Depth:Int
 Nodes:Int
 Text:Int
def b79 (x:c3h):List AV:=[.v (.int .i64 x.Bytes),.v (.int .i64 x.Depth),.v (.int .i64 x.Nodes),.v (.int .i64 x.Text)]
theorem T9 (x:c3h):plainL (b79 x)=true:=by simp [b79,plainL,plain,M1,F8,G2,F7,M4,G5,G0,F9,L8,T0,Z9,S8,a09,M7,T4,E6,H8,O7,G8,A7,E0,O2,D3,N9,D8,O3,L3,S6,L0,T7,N4,U6,P9,C6,T3,L4,I2,Q9,N2]
theorem O6 (l:List c3h):plainLL (l.map b79)=true:=D0 _ _ fun x _=>T9 x
structure a6x where
 a0:Int
 a1:Int
def a4s (x:a6x):List AV:=[.v (.int .u16 x.a0),.v (.int .u16 x.a1)]
theorem H9 (x:a6x):plainL (a4s x)=true:=by simp [a4s,plainL,plain,M1,F8,G2,F7,M4,G5,G0,F9,L8,T0,Z9,S8,a09,M7,T4,E6,H8,O7,G8,A7,E0,O2,D3,N9,D8,O3,L3,S6,L0,T7,N4,U6,P9,C6,T3,L4,I2,Q9,N2,T9,O6]
theorem F2 (l:List a6x):plainLL (l.map a4s)=true:=D0 _ _ fun x _=>H9 x
structure D4 where
 p:A6
 out:(List Int)
def b7s (x:D4):List AV:=[.sl (List.map D9 x.p.Progs) .no,.sl (List.map Y1 x.p.Enums) .no,.sl (List.map a9g x.out) .no]
theorem W4 (x:D4):plainL (b7s x)=true:=by simp [b7s,plainL,plain,M1,F8,G2,F7,M4,G5,G0,F9,L8,T0,Z9,S8,a09,M7,T4,E6,H8,O7,G8,A7,E0,O2,D3,N9,D8,O3,L3,S6,L0,T7,N4,U6,P9,C6,T3,L4,I2,Q9,N2,T9,O6,H9,F2]
theorem U3 (l:List D4):plainLL (l.map b7s)=true:=D0 _ _ fun x _=>W4 x
structure c4t where
 p:A6
 c:a6s
def b73 (x:c4t):List AV:=[.sl (List.map D9 x.p.Progs) .no,.sl (List.map Y1 x.p.Enums) .no,.v (.string x.c.Data),.v (.int .i64 x.c.At),.v (.int .i64 x.c.End),.v (.int .i64 x.c.Depth),.v (.int .i64 x.c.Nodes),.v (.int .i64 x.c.Text)]
theorem Z1 (x:c4t):plainL (b73 x)=true:=by simp [b73,plainL,plain,M1,F8,G2,F7,M4,G5,G0,F9,L8,T0,Z9,S8,a09,M7,T4,E6,H8,O7,G8,A7,E0,O2,D3,N9,D8,O3,L3,S6,L0,T7,N4,U6,P9,C6,T3,L4,I2,Q9,N2,T9,O6,H9,F2,W4,U3]
theorem V3 (l:List c4t):plainLL (l.map b73)=true:=D0 _ _ fun x _=>Z1 x
structure C5 where
 p:A6
def J0 (x:C5):List AV:=[.sl (List.map D9 x.p.Progs) .no,.sl (List.map Y1 x.p.Enums) .no]
theorem G1 (x:C5):plainL (J0 x)=true:=by simp [J0,plainL,plain,M1,F8,G2,F7,M4,G5,G0,F9,L8,T0,Z9,S8,a09,M7,T4,E6,H8,O7,G8,A7,E0,O2,D3,N9,D8,O3,L3,S6,L0,T7,N4,U6,P9,C6,T3,L4,I2,Q9,N2,T9,O6,H9,F2,W4,U3,Z1,V3]
theorem S4 (l:List C5):plainLL (l.map J0)=true:=D0 _ _ fun x _=>G1 x
structure b2u where
 is:GFn
def b14 (x:b2u):List AV:=[.clo (.func x.is.fn) x.is.fi x.is.cap]
theorem a00 (x:b2u):plainL (b14 x)=true:=by simp [b14,plainL,plain,M1,F8,G2,F7,M4,G5,G0,F9,L8,T0,Z9,S8,a09,M7,T4,E6,H8,O7,G8,A7,E0,O2,D3,N9,D8,O3,L3,S6,L0,T7,N4,U6,P9,C6,T3,L4,I2,Q9,N2,T9,O6,H9,F2,W4,U3,Z1,V3,G1,S4]
theorem a0b (l:List b2u):plainLL (l.map b14)=true:=D0 _ _ fun x _=>a00 x
structure b8z where
 slots:(List (Int × A0))
 raws:(List P6)
def b4b (x:b8z):List AV:=[.sl (List.map A9 x.slots) .no,.sl (List.map I8 x.raws) .no]
theorem a8e (x:b8z):plainL (b4b x)=true:=by simp [b4b,plainL,plain,M1,F8,G2,F7,M4,G5,G0,F9,L8,T0,Z9,S8,a09,M7,T4,E6,H8,O7,G8,A7,E0,O2,D3,N9,D8,O3,L3,S6,L0,T7,N4,U6,P9,C6,T3,L4,I2,Q9,N2,T9,O6,H9,F2,W4,U3,Z1,V3,G1,S4,a00,a0b]
theorem a4o (l:List b8z):plainLL (l.map b4b)=true:=D0 _ _ fun x _=>a8e x
theorem c7i (m:List Bool) (n:Nat) (x:GOp):lowL m n (U2 x)=true:=lowL_plain _ _ _ (M7 x)
theorem b5y (m:List Bool) (n:Nat) (x:C1):lowL m n (D9 x)=true:=lowL_plain _ _ _ (E6 x)
theorem c16 (m:List Bool) (n:Nat) (x:P6):lowL m n (I8 x)=true:=lowL_plain _ _ _ (O7 x)
theorem b3v (m:List Bool) (n:Nat) (x:A0):lowL m n (A4 x)=true:=lowL_plain _ _ _ (A7 x)
theorem b5r (m:List Bool) (n:Nat) (x:(A0 × A0)):lowL m n (S3 x)=true:=lowL_plain _ _ _ (O2 x)
theorem b61 (m:List Bool) (n:Nat) (x:(Int × A0)):lowL m n (U5 x)=true:=lowL_plain _ _ _ (N9 x)
theorem b55 (m:List Bool) (n:Nat) (x:b1k):lowL m n (a6o x)=true:=lowL_plain _ _ _ (O3 x)
theorem b5m (m:List Bool) (n:Nat) (x:b2t):lowL m n (a1z x)=true:=lowL_plain _ _ _ (S6 x)
theorem b6o (m:List Bool) (n:Nat) (x:b8o):lowL m n (b0k x)=true:=lowL_plain _ _ _ (T7 x)
theorem b6s (m:List Bool) (n:Nat) (x:a0r):lowL m n (Y1 x)=true:=lowL_plain _ _ _ (U6 x)
theorem b6e (m:List Bool) (n:Nat) (x:A6):lowL m n (B0 x)=true:=lowL_plain _ _ _ (C6 x)
theorem a75 (m:List Bool) (n:Nat) (x:b7t):lowL m n (b3z x)=true:=lowL_plain _ _ _ (L4 x)
theorem b0s (m:List Bool) (n:Nat) (x:a6s):lowL m n (b1v x)=true:=lowL_plain _ _ _ (Q9 x)
theorem b00 (m:List Bool) (n:Nat) (x:c3h):lowL m n (b79 x)=true:=lowL_plain _ _ _ (T9 x)
theorem a16 (m:List Bool) (n:Nat) (x:a6x):lowL m n (a4s x)=true:=lowL_plain _ _ _ (H9 x)
theorem b04 (m:List Bool) (n:Nat) (x:D4):lowL m n (b7s x)=true:=lowL_plain _ _ _ (W4 x)
theorem b05 (m:List Bool) (n:Nat) (x:c4t):lowL m n (b73 x)=true:=lowL_plain _ _ _ (Z1 x)
theorem a5p (m:List Bool) (n:Nat) (x:C5):lowL m n (J0 x)=true:=lowL_plain _ _ _ (G1 x)
theorem b02 (m:List Bool) (n:Nat) (x:b2u):lowL m n (b14 x)=true:=lowL_plain _ _ _ (a00 x)
theorem b3r (m:List Bool) (n:Nat) (x:b8z):lowL m n (b4b x)=true:=lowL_plain _ _ _ (a8e x)
theorem c03 (m:List Bool) (n:Nat) (l:List Int):lowLL m n (l.map d7h)=true:=lowLL_plain _ _ _ (M1 l)
theorem b6w (m:List Bool) (n:Nat) (l:List Int):lowLL m n (l.map c7p)=true:=lowLL_plain _ _ _ (F8 l)
theorem b59 (m:List Bool) (n:Nat) (l:List Int):lowLL m n (l.map c8f)=true:=lowLL_plain _ _ _ (G2 l)
theorem b65 (m:List Bool) (n:Nat) (l:List Int):lowLL m n (l.map a7o)=true:=lowLL_plain _ _ _ (F7 l)
theorem c02 (m:List Bool) (n:Nat) (l:List Int):lowLL m n (l.map a9g)=true:=lowLL_plain _ _ _ (M4 l)
theorem b7n (m:List Bool) (n:Nat) (l:List Int):lowLL m n (l.map c8u)=true:=lowLL_plain _ _ _ (G5 l)
theorem b69 (m:List Bool) (n:Nat) (l:List Int):lowLL m n (l.map c9m)=true:=lowLL_plain _ _ _ (G0 l)
theorem b6d (m:List Bool) (n:Nat) (l:List Int):lowLL m n (l.map b5s)=true:=lowLL_plain _ _ _ (F9 l)
theorem c1t (m:List Bool) (n:Nat) (l:List Bool):lowLL m n (l.map c2j)=true:=lowLL_plain _ _ _ (L8 l)
theorem c7s (m:List Bool) (n:Nat) (l:List ByteArray):lowLL m n (l.map e2h)=true:=lowLL_plain _ _ _ (T0 l)
theorem c9z (m:List Bool) (n:Nat) (l:List GOp):lowLL m n (l.map U2)=true:=lowLL_plain _ _ _ (T4 l)
theorem b7j (m:List Bool) (n:Nat) (l:List C1):lowLL m n (l.map D9)=true:=lowLL_plain _ _ _ (H8 l)
theorem c1m (m:List Bool) (n:Nat) (l:List P6):lowLL m n (l.map I8)=true:=lowLL_plain _ _ _ (G8 l)
theorem b3g (m:List Bool) (n:Nat) (l:List A0):lowLL m n (l.map B9)=true:=lowLL_plain _ _ _ (E0 l)
theorem b53 (m:List Bool) (n:Nat) (l:List (A0 × A0)):lowLL m n (l.map A8)=true:=lowLL_plain _ _ _ (D3 l)
theorem b6a (m:List Bool) (n:Nat) (l:List (Int × A0)):lowLL m n (l.map A9)=true:=lowLL_plain _ _ _ (D8 l)
theorem b7k (m:List Bool) (n:Nat) (l:List b1k):lowLL m n (l.map a6o)=true:=lowLL_plain _ _ _ (L3 l)
theorem b6f (m:List Bool) (n:Nat) (l:List b2t):lowLL m n (l.map a1z)=true:=lowLL_plain _ _ _ (L0 l)
theorem b7q (m:List Bool) (n:Nat) (l:List b8o):lowLL m n (l.map b0k)=true:=lowLL_plain _ _ _ (N4 l)
theorem b7b (m:List Bool) (n:Nat) (l:List a0r):lowLL m n (l.map Y1)=true:=lowLL_plain _ _ _ (P9 l)
theorem b5w (m:List Bool) (n:Nat) (l:List A6):lowLL m n (l.map B0)=true:=lowLL_plain _ _ _ (T3 l)
theorem a8a (m:List Bool) (n:Nat) (l:List b7t):lowLL m n (l.map b3z)=true:=lowLL_plain _ _ _ (I2 l)
theorem b0y (m:List Bool) (n:Nat) (l:List a6s):lowLL m n (l.map b1v)=true:=lowLL_plain _ _ _ (N2 l)
theorem b0u (m:List Bool) (n:Nat) (l:List c3h):lowLL m n (l.map b79)=true:=lowLL_plain _ _ _ (O6 l)
theorem a1s (m:List Bool) (n:Nat) (l:List a6x):lowLL m n (l.map a4s)=true:=lowLL_plain _ _ _ (F2 l)
theorem b08 (m:List Bool) (n:Nat) (l:List D4):lowLL m n (l.map b7s)=true:=lowLL_plain _ _ _ (U3 l)
theorem a94 (m:List Bool) (n:Nat) (l:List c4t):lowLL m n (l.map b73)=true:=lowLL_plain _ _ _ (V3 l)
theorem a51 (m:List Bool) (n:Nat) (l:List C5):lowLL m n (l.map J0)=true:=lowLL_plain _ _ _ (S4 l)
theorem b1b (m:List Bool) (n:Nat) (l:List b2u):lowLL m n (l.map b14)=true:=lowLL_plain _ _ _ (a0b l)
theorem b26 (m:List Bool) (n:Nat) (l:List b8z):lowLL m n (l.map b4b)=true:=lowLL_plain _ _ _ (a4o l)
theorem c1f (m:List Bool) (n:Nat) (l:List Int):lowL m n (cellsOf d7h l)=true:=lowL_plain _ _ _ (B8 _ (M1 l))
theorem b6g (m:List Bool) (n:Nat) (l:List Int):lowL m n (cellsOf c7p l)=true:=lowL_plain _ _ _ (B8 _ (F8 l))
theorem b58 (m:List Bool) (n:Nat) (l:List Int):lowL m n (cellsOf c8f l)=true:=lowL_plain _ _ _ (B8 _ (G2 l))
theorem b7e (m:List Bool) (n:Nat) (l:List Int):lowL m n (cellsOf a7o l)=true:=lowL_plain _ _ _ (B8 _ (F7 l))
theorem c2m (m:List Bool) (n:Nat) (l:List Int):lowL m n (cellsOf a9g l)=true:=lowL_plain _ _ _ (B8 _ (M4 l))
theorem b5x (m:List Bool) (n:Nat) (l:List Int):lowL m n (cellsOf c8u l)=true:=lowL_plain _ _ _ (B8 _ (G5 l))
theorem b7p (m:List Bool) (n:Nat) (l:List Int):lowL m n (cellsOf c9m l)=true:=lowL_plain _ _ _ (B8 _ (G0 l))
theorem b7i (m:List Bool) (n:Nat) (l:List Int):lowL m n (cellsOf b5s l)=true:=lowL_plain _ _ _ (B8 _ (F9 l))
theorem c1x (m:List Bool) (n:Nat) (l:List Bool):lowL m n (cellsOf c2j l)=true:=lowL_plain _ _ _ (B8 _ (L8 l))
theorem c79 (m:List Bool) (n:Nat) (l:List ByteArray):lowL m n (cellsOf e2h l)=true:=lowL_plain _ _ _ (B8 _ (T0 l))
theorem c8g (m:List Bool) (n:Nat) (l:List GOp):lowL m n (cellsOf U2 l)=true:=lowL_plain _ _ _ (B8 _ (T4 l))
theorem b68 (m:List Bool) (n:Nat) (l:List C1):lowL m n (cellsOf D9 l)=true:=lowL_plain _ _ _ (B8 _ (H8 l))
theorem c1y (m:List Bool) (n:Nat) (l:List P6):lowL m n (cellsOf I8 l)=true:=lowL_plain _ _ _ (B8 _ (G8 l))
theorem b3i (m:List Bool) (n:Nat) (l:List A0):lowL m n (cellsOf B9 l)=true:=lowL_plain _ _ _ (B8 _ (E0 l))
theorem b54 (m:List Bool) (n:Nat) (l:List (A0 × A0)):lowL m n (cellsOf A8 l)=true:=lowL_plain _ _ _ (B8 _ (D3 l))
theorem b6z (m:List Bool) (n:Nat) (l:List (Int × A0)):lowL m n (cellsOf A9 l)=true:=lowL_plain _ _ _ (B8 _ (D8 l))
theorem b7l (m:List Bool) (n:Nat) (l:List b1k):lowL m n (cellsOf a6o l)=true:=lowL_plain _ _ _ (B8 _ (L3 l))
theorem b6b (m:List Bool) (n:Nat) (l:List b2t):lowL m n (cellsOf a1z l)=true:=lowL_plain _ _ _ (B8 _ (L0 l))
theorem b7g (m:List Bool) (n:Nat) (l:List b8o):lowL m n (cellsOf b0k l)=true:=lowL_plain _ _ _ (B8 _ (N4 l))
theorem b6v (m:List Bool) (n:Nat) (l:List a0r):lowL m n (cellsOf Y1 l)=true:=lowL_plain _ _ _ (B8 _ (P9 l))
theorem b57 (m:List Bool) (n:Nat) (l:List A6):lowL m n (cellsOf B0 l)=true:=lowL_plain _ _ _ (B8 _ (T3 l))
theorem a7l (m:List Bool) (n:Nat) (l:List b7t):lowL m n (cellsOf b3z l)=true:=lowL_plain _ _ _ (B8 _ (I2 l))
theorem b1c (m:List Bool) (n:Nat) (l:List a6s):lowL m n (cellsOf b1v l)=true:=lowL_plain _ _ _ (B8 _ (N2 l))
theorem b01 (m:List Bool) (n:Nat) (l:List c3h):lowL m n (cellsOf b79 l)=true:=lowL_plain _ _ _ (B8 _ (O6 l))
theorem a1o (m:List Bool) (n:Nat) (l:List a6x):lowL m n (cellsOf a4s l)=true:=lowL_plain _ _ _ (B8 _ (F2 l))
theorem b0l (m:List Bool) (n:Nat) (l:List D4):lowL m n (cellsOf b7s l)=true:=lowL_plain _ _ _ (B8 _ (U3 l))
theorem b07 (m:List Bool) (n:Nat) (l:List c4t):lowL m n (cellsOf b73 l)=true:=lowL_plain _ _ _ (B8 _ (V3 l))
theorem a5h (m:List Bool) (n:Nat) (l:List C5):lowL m n (cellsOf J0 l)=true:=lowL_plain _ _ _ (B8 _ (S4 l))
theorem a96 (m:List Bool) (n:Nat) (l:List b2u):lowL m n (cellsOf b14 l)=true:=lowL_plain _ _ _ (B8 _ (a0b l))
theorem b3u (m:List Bool) (n:Nat) (l:List b8z):lowL m n (cellsOf b4b l)=true:=lowL_plain _ _ _ (B8 _ (a4o l))
inductive b74 where
 |nil
 |a_order_one (x:A0)
 |a_order_list (x:(List A0))
 |a_order_pairs (x:(List (A0 × A0)))
 |a_order_parts (x:b8z)
def c8b:b74 ->AV
 |.nil=>.v .nilIface
 |.a_order_one x=>.iface 200 (.agg (A4 x))
 |.a_order_list x=>.iface 201 (.sl (List.map B9 x) .no)
 |.a_order_pairs x=>.iface 203 (.sl (List.map A8 x) .no)
 |.a_order_parts x=>.iface 206 (.agg (b4b x))
theorem c7k (x:b74):plain (c8b x)=true:=by cases x<;>simp [c8b,plain,plainL,M1,F8,G2,F7,M4,G5,G0,F9,L8,T0,Z9,S8,a09,M7,T4,E6,H8,O7,G8,A7,E0,O2,D3,N9,D8,O3,L3,S6,L0,T7,N4,U6,P9,C6,T3,L4,I2,Q9,N2,T9,O6,H9,F2,W4,U3,Z1,V3,G1,S4,a00,a0b,a8e,a4o]
theorem d42 (m:List Bool) (n:Nat) (x:b74):low m n (c8b x)=true:=by
 have h:=lowL_plain m n [c8b x] (by simp [plainL,c7k])
 simpa [lowL] using h
theorem f9f {P:Program} {f:Nat} {R:Rm} {s:Mc} (m:Nat) {y:b74} {A:A0 ->Prop} {B:Prop} (hw:(∀z,y=.a_order_one z ->A z) /\ ((∀z,y≠.a_order_one z) ->B)) (h1:∀z,A z ->Ok P f R (put (run m s) (.tuple [.agg (A4 z),.v (.bool true)]))) (h2:B ->Ok P f R (put (run m s) (.tuple [oZ (op (run m s)),.v (.bool false)]))) (hc:okS (run m s)=true:=by kernel_rfl) (ho:op (run m s)=.assertT 200 true (oZ (op (run m s))) (oX (op (run m s))):=by kernel_rfl) (hx:xv (run m s)=some (c8b y):=by kernel_rfl):Ok P f R s:=by
 cases y with
 |a_order_one z=>exact ev0 m (fun h K hk=>by rw [ho]; simp only [aop]; change wv (xv _) _; simp only [hx,wv,c8b,X1]; exact hk) (h1 z (hw.1 z rfl)) hc
 |_=>exact ev0 m (fun h K hk=>by rw [ho]; simp only [aop]; change wv (xv _) _; simp only [hx,wv,c8b,X1]; first|exact ⟨trivial,hk⟩|exact ⟨rfl,hk⟩) (h2 (hw.2 fun z hz=>by cases hz)) hc
theorem f8u {P:Program} {f:Nat} {R:Rm} {s:Mc} (m:Nat) {y:b74} {A:(List A0) ->Prop} {B:Prop} (hw:(∀z,y=.a_order_list z ->A z) /\ ((∀z,y≠.a_order_list z) ->B)) (h1:∀z,A z ->Ok P f R (put (run m s) (.tuple [.sl (List.map B9 z) .no,.v (.bool true)]))) (h2:B ->Ok P f R (put (run m s) (.tuple [oZ (op (run m s)),.v (.bool false)]))) (hc:okS (run m s)=true:=by kernel_rfl) (ho:op (run m s)=.assertT 201 true (oZ (op (run m s))) (oX (op (run m s))):=by kernel_rfl) (hx:xv (run m s)=some (c8b y):=by kernel_rfl):Ok P f R s:=by
 cases y with
 |a_order_list z=>exact ev0 m (fun h K hk=>by rw [ho]; simp only [aop]; change wv (xv _) _; simp only [hx,wv,c8b,X1]; exact hk) (h1 z (hw.1 z rfl)) hc
 |_=>exact ev0 m (fun h K hk=>by rw [ho]; simp only [aop]; change wv (xv _) _; simp only [hx,wv,c8b,X1]; first|exact ⟨trivial,hk⟩|exact ⟨rfl,hk⟩) (h2 (hw.2 fun z hz=>by cases hz)) hc
theorem f5z {P:Program} {f:Nat} {R:Rm} {s:Mc} (m:Nat) {y:b74} {W:(List A0) ->Prop} (hw:∃z,y=b74.a_order_list z /\ W z) (hk:∀z,W z ->Ok P f R (put (run m s) (.sl (List.map B9 z) .no))) (hc:okS (run m s)=true:=by kernel_rfl) (ho:op (run m s)=.assertT 201 false (oZ (op (run m s))) (oX (op (run m s))):=by kernel_rfl) (hx:xv (run m s)=some (c8b y):=by kernel_rfl):Ok P f R s:=by
 obtain ⟨z,rfl,hw⟩:=hw
 exact ev0 m (fun h K hk=>by rw [ho]; simp only [aop]; change wv (xv _) _; simp only [hx,wv,c8b,X1]; exact hk) (hk z hw) hc
theorem g0j {P:Program} {f:Nat} {R:Rm} {s:Mc} (m:Nat) {y:b74} {A:(List (A0 × A0)) ->Prop} {B:Prop} (hw:(∀z,y=.a_order_pairs z ->A z) /\ ((∀z,y≠.a_order_pairs z) ->B)) (h1:∀z,A z ->Ok P f R (put (run m s) (.tuple [.sl (List.map A8 z) .no,.v (.bool true)]))) (h2:B ->Ok P f R (put (run m s) (.tuple [oZ (op (run m s)),.v (.bool false)]))) (hc:okS (run m s)=true:=by kernel_rfl) (ho:op (run m s)=.assertT 203 true (oZ (op (run m s))) (oX (op (run m s))):=by kernel_rfl) (hx:xv (run m s)=some (c8b y):=by kernel_rfl):Ok P f R s:=by
 cases y with
 |a_order_pairs z=>exact ev0 m (fun h K hk=>by rw [ho]; simp only [aop]; change wv (xv _) _; simp only [hx,wv,c8b,X1]; exact hk) (h1 z (hw.1 z rfl)) hc
 |_=>exact ev0 m (fun h K hk=>by rw [ho]; simp only [aop]; change wv (xv _) _; simp only [hx,wv,c8b,X1]; first|exact ⟨trivial,hk⟩|exact ⟨rfl,hk⟩) (h2 (hw.2 fun z hz=>by cases hz)) hc
theorem f7q {P:Program} {f:Nat} {R:Rm} {s:Mc} (m:Nat) {y:b74} {W:(List (A0 × A0)) ->Prop} (hw:∃z,y=b74.a_order_pairs z /\ W z) (hk:∀z,W z ->Ok P f R (put (run m s) (.sl (List.map A8 z) .no))) (hc:okS (run m s)=true:=by kernel_rfl) (ho:op (run m s)=.assertT 203 false (oZ (op (run m s))) (oX (op (run m s))):=by kernel_rfl) (hx:xv (run m s)=some (c8b y):=by kernel_rfl):Ok P f R s:=by
 obtain ⟨z,rfl,hw⟩:=hw
 exact ev0 m (fun h K hk=>by rw [ho]; simp only [aop]; change wv (xv _) _; simp only [hx,wv,c8b,X1]; exact hk) (hk z hw) hc
theorem g17 {P:Program} {f:Nat} {R:Rm} {s:Mc} (m:Nat) {y:b74} {A:b8z ->Prop} {B:Prop} (hw:(∀z,y=.a_order_parts z ->A z) /\ ((∀z,y≠.a_order_parts z) ->B)) (h1:∀z,A z ->Ok P f R (put (run m s) (.tuple [.agg (b4b z),.v (.bool true)]))) (h2:B ->Ok P f R (put (run m s) (.tuple [oZ (op (run m s)),.v (.bool false)]))) (hc:okS (run m s)=true:=by kernel_rfl) (ho:op (run m s)=.assertT 206 true (oZ (op (run m s))) (oX (op (run m s))):=by kernel_rfl) (hx:xv (run m s)=some (c8b y):=by kernel_rfl):Ok P f R s:=by
 cases y with
 |a_order_parts z=>exact ev0 m (fun h K hk=>by rw [ho]; simp only [aop]; change wv (xv _) _; simp only [hx,wv,c8b,X1]; exact hk) (h1 z (hw.1 z rfl)) hc
 |_=>exact ev0 m (fun h K hk=>by rw [ho]; simp only [aop]; change wv (xv _) _; simp only [hx,wv,c8b,X1]; first|exact ⟨trivial,hk⟩|exact ⟨rfl,hk⟩) (h2 (hw.2 fun z hz=>by cases hz)) hc
theorem f6v {P:Program} {f:Nat} {R:Rm} {s:Mc} (m:Nat) {y:b74} {W:b8z ->Prop} (hw:∃z,y=b74.a_order_parts z /\ W z) (hk:∀z,W z ->Ok P f R (put (run m s) (.agg (b4b z)))) (hc:okS (run m s)=true:=by kernel_rfl) (ho:op (run m s)=.assertT 206 false (oZ (op (run m s))) (oX (op (run m s))):=by kernel_rfl) (hx:xv (run m s)=some (c8b y):=by kernel_rfl):Ok P f R s:=by
 obtain ⟨z,rfl,hw⟩:=hw
 exact ev0 m (fun h K hk=>by rw [ho]; simp only [aop]; change wv (xv _) _; simp only [hx,wv,c8b,X1]; exact hk) (hk z hw) hc
def L5 (x:D4):List AV:=[.sl (List.map D9 x.p.Progs) .no,.sl (List.map Y1 x.p.Enums) .no,.sl (List.map a9g x.out) (.own 0)]
def a2f (x:D4):List (Nat × Nat):=[(x.out.length,1)]
theorem a18 (x:D4):(L5 x).all ok1=true:=by simp [L5,ok1,plain,M1,F8,G2,F7,M4,G5,G0,F9,L8,T0,Z9,S8,a09,M7,T4,E6,H8,O7,G8,A7,E0,O2,D3,N9,D8,O3,L3,S6,L0,T7,N4,U6,P9,C6,T3,L4,I2,Q9,N2,T9,O6,H9,F2,W4,U3,Z1,V3,G1,S4,a00,a0b,a8e,a4o,c7k]
theorem b9c (x:D4):lowL [true] 1 (L5 x)=true:=by first|rfl|(simp only [L5,low,lowL,c1f,b6g,b58,b7e,c2m,b5x,b7p,b7i,c1x,c79,c8g,b68,c1y,b3i,b54,b6z,b7l,b6b,b7g,b6v,b57,a7l,b1c,b01,a1o,b0l,b07,a5h,a96,b3u,c8a,c1s,c03,b6w,b59,b65,c02,b7n,b69,b6d,c1t,c7s,c9z,b7j,c1m,b3g,b53,b6a,b7k,b6f,b7q,b7b,b5w,a8a,b0y,b0u,a1s,b08,a94,a51,b1b,b26,c7i,b5y,c16,b3v,b5r,b61,b55,b5m,b6o,b6s,b6e,a75,b0s,b00,a16,b04,b05,a5p,b02,b3r,d42]; rfl)
theorem e5c:c2t c2j 1:=⟨fun y=>rfl,fun y=>rfl,fun y=>rfl,fun y=>rfl⟩
def f71:En Bool:=⟨c2j,c2j,1,fun _=>rfl,fun _=>rfl,e5c⟩
theorem e00:c2t Y1 5:=⟨fun y=>rfl,fun y=>rfl,fun y=>U6 y,fun y=>rfl⟩
def U4:En a0r:=⟨Y1,Y1,5,fun _=>rfl,fun _=>rfl,e00⟩
theorem e0m:c2t a1z 3:=⟨fun y=>rfl,fun y=>rfl,fun y=>S6 y,fun y=>rfl⟩
def a70:En b2t:=⟨a1z,a1z,3,fun _=>rfl,fun _=>rfl,e0m⟩
theorem e0b:c2t a6o 8:=⟨fun y=>rfl,fun y=>rfl,fun y=>O3 y,fun y=>rfl⟩
def b3t:En b1k:=⟨a6o,a6o,8,fun _=>rfl,fun _=>rfl,e0b⟩
theorem f1h:c2t U2 8:=⟨fun y=>rfl,fun y=>rfl,fun y=>M7 y,fun y=>rfl⟩
def b5u:En GOp:=⟨U2,U2,8,fun _=>rfl,fun _=>rfl,f1h⟩
theorem e0w:c2t A8 14:=⟨fun y=>by rw [a9q]; rfl,fun y=>by rw [a9q]; rfl,fun y=>by rw [a9q]; exact O2 y,fun y=>by rw [a9q]; rfl⟩
def B4:En (A0 × A0):=⟨S3,A8,14,fun y=>a9q y,fun _=>rfl,e0w⟩
theorem e03:c2t D9 3:=⟨fun y=>rfl,fun y=>rfl,fun y=>E6 y,fun y=>rfl⟩
def I5:En C1:=⟨D9,D9,3,fun _=>rfl,fun _=>rfl,e03⟩
theorem e6j:c2t I8 4:=⟨fun y=>rfl,fun y=>rfl,fun y=>O7 y,fun y=>rfl⟩
def a3y:En P6:=⟨I8,I8,4,fun _=>rfl,fun _=>rfl,e6j⟩
theorem e0o:c2t A9 8:=⟨fun y=>by rw [a9v]; rfl,fun y=>by rw [a9v]; rfl,fun y=>by rw [a9v]; exact N9 y,fun y=>by rw [a9v]; rfl⟩
def B7:En (Int × A0):=⟨U5,A9,8,fun y=>a9v y,fun _=>rfl,e0o⟩
theorem e0j:c2t b0k 2:=⟨fun y=>rfl,fun y=>rfl,fun y=>T7 y,fun y=>rfl⟩
def c8r:En b8o:=⟨b0k,b0k,2,fun _=>rfl,fun _=>rfl,e0j⟩
theorem d6w:c2t B9 7:=⟨fun y=>by rw [Q8]; rfl,fun y=>by rw [Q8]; rfl,fun y=>by rw [Q8]; exact A7 y,fun y=>by rw [Q8]; rfl⟩
def E4:En A0:=⟨A4,B9,7,fun y=>Q8 y,fun _=>rfl,d6w⟩
theorem e05:c2t a7o 1:=⟨fun y=>rfl,fun y=>rfl,fun y=>rfl,fun y=>rfl⟩
def f3q:En Int:=⟨a7o,a7o,1,fun _=>rfl,fun _=>rfl,e05⟩
theorem e6q:c2t a9g 1:=⟨fun y=>rfl,fun y=>rfl,fun y=>rfl,fun y=>rfl⟩
def c95:En Int:=⟨a9g,a9g,1,fun _=>rfl,fun _=>rfl,e6q⟩
def e3 (r:Bool):AV:=.v (.bool r)
def e4 (r:Bool):AV:=.v (.bool r)
def e5 (r:Bool):AV:=.v (.bool r)
def e6 (r:Bool):AV:=.v (.bool r)
def e7 (r:Bool):AV:=.v (.bool r)
def e8 (r:Bool):AV:=.v (.bool r)
def b48 (p:A6) (name:ByteArray) (v:A0) (r:Bool):Prop:=B5 Tryz.prog [] 8 [.agg (B0 p),.v (.string name),.agg (A4 v)] (e8 r)
def e9 (r:Bool):AV:=.v (.bool r)
def b62 (p:A6) (r:Bool):Prop:=B5 Tryz.prog [] 9 [.agg (B0 p)] (e9 r)
def e10 (r:(A0 × a6s × Int)):AV:=.tuple [.agg (A4 r.1),.agg (b1v r.2.1),.v (.int .i64 r.2.2)]
def e11 (r:(A0 × a6s × Int)):AV:=.tuple [.agg (A4 r.1),.agg (b1v r.2.1),.v (.int .i64 r.2.2)]
def e12 (r:ByteArray):AV:=.v (.string r)
def d2y (v:A0) (r:ByteArray):Prop:=B5 Tryz.prog [] 12 [.agg (A4 v)] (e12 r)
def e14 (r:ByteArray):AV:=.v (.string r)
def c1l (v:A0) (r:ByteArray):Prop:=B5 Tryz.prog [] 14 [.agg (A4 v)] (e14 r)
def e15 (r:Bool):AV:=.v (.bool r)
def b93 (r:Bool):Prop:=B5 Tryz.prog [] 15 [] (e15 r)
def e17 (r:Bool):AV:=.v (.bool r)
def b96 (v:A0) (r:Bool):Prop:=B5 Tryz.prog [] 17 [.agg (A4 v)] (e17 r)
def e18 (r:(ByteArray × Int)):AV:=.tuple [.v (.string r.1),.v (.int .i64 r.2)]
def b8c (p:A6) (name:ByteArray) (v:A0) (r:(ByteArray × Int)):Prop:=B5 Tryz.prog [] 18 [.agg (B0 p),.v (.string name),.agg (A4 v)] (e18 r)
def e19 (r:(Int × Bool)):AV:=.tuple [.v (.int .i64 r.1),.v (.bool r.2)]
def c30 (p:A6) (name:ByteArray) (r:(Int × Bool)):Prop:=B5 Tryz.prog [] 19 [.agg (B0 p),.v (.string name)] (e19 r)
def e22 (r:A0):AV:=.agg (A4 r)
def a9r (p:A6) (prog:Int) (v:A0) (r:A0):Prop:=B5 Tryz.prog [] 22 [.agg (B0 p),.v (.int .i64 prog),.agg (A4 v)] (e22 r)
def e23 (r:Int):AV:=.v (.int .i64 r)
def c39 (p:A6) (prog:Int) (v:A0) (r:Int):Prop:=B5 Tryz.prog [] 23 [.agg (B0 p),.v (.int .i64 prog),.agg (A4 v)] (e23 r)
def e25 (r:Int):AV:=.v (.int .i64 r)
def U1 (v:A0) (r:Int):Prop:=B5 Tryz.prog [] 25 [.agg (A4 v)] (e25 r)
def e27 (r:(ByteArray × Int)):AV:=.tuple [.v (.string r.1),.v (.int .i64 r.2)]
def b1p (p:A6) (name:ByteArray) (v:A0) (r:(ByteArray × Int)):Prop:=B5 Tryz.prog [] 27 [.agg (B0 p),.v (.string name),.agg (A4 v)] (e27 r)
def e28 (r:Int):AV:=.v (.int .i64 r)
def d12 (p:A6) (name:ByteArray) (v:A0) (r:Int):Prop:=B5 Tryz.prog [] 28 [.agg (B0 p),.v (.string name),.agg (A4 v)] (e28 r)
def e29 (r:Int):AV:=.v (.int .i64 r)
def c3r (p:A6) (name:ByteArray) (v:A0) (r:Int):Prop:=B5 Tryz.prog [] 29 [.agg (B0 p),.v (.string name),.agg (A4 v)] (e29 r)
def e30 (r:Int):AV:=.v (.int .i64 r)
def b9s (p:A6) (r:Int):Prop:=B5 Tryz.prog [] 30 [.agg (B0 p)] (e30 r)
def e36 (r:Bool):AV:=.v (.bool r)
def b4k (kind:Int) (v:A0) (r:Bool):Prop:=B5 Tryz.prog [] 36 [.v (.int .i64 kind),.agg (A4 v)] (e36 r)
def e37 (r:Bool):AV:=.v (.bool r)
def b2c (p:A6) (enum:Int) (num:Int) (r:Bool):Prop:=B5 Tryz.prog [] 37 [.agg (B0 p),.v (.int .i64 enum),.v (.int .u64 num)] (e37 r)
def e41 (r:A0):AV:=.agg (A4 r)
def b3q (v:A0) (r:A0):Prop:=B5 Tryz.prog [] 41 [.agg (A4 v)] (e41 r)
def e42 (r:Bool):AV:=.v (.bool r)
def c61 (kind:Int) (r:Bool):Prop:=B5 Tryz.prog [] 42 [.v (.int .i64 kind)] (e42 r)
def e45 (r:Bool):AV:=.v (.bool r)
def b3c (kind:Int) (v:A0) (r:Bool):Prop:=B5 Tryz.prog [] 45 [.v (.int .i64 kind),.agg (A4 v)] (e45 r)
def e46 (r:Bool):AV:=.v (.bool r)
def a9n (p:A6) (enum:Int) (num:Int) (r:Bool):Prop:=B5 Tryz.prog [] 46 [.agg (B0 p),.v (.int .i64 enum),.v (.int .u64 num)] (e46 r)
def e47 (r:ByteArray):AV:=.v (.string r)
def a2i (u:Int) (r:ByteArray):Prop:=B5 Tryz.prog [] 47 [.v (.int .u64 u)] (e47 r)
def e48 (r:Int):AV:=.v (.int .u64 r)
def c36 (n:Int) (r:Int):Prop:=B5 Tryz.prog [] 48 [.v (.int .i64 n)] (e48 r)
def e49 (r:ByteArray):AV:=.v (.string r)
def b5t (u:Int) (r:ByteArray):Prop:=B5 Tryz.prog [] 49 [.v (.int .u64 u)] (e49 r)
def e50 (r:A0):AV:=.agg (A4 r)
def a92 (v:A0) (r:A0):Prop:=B5 Tryz.prog [] 50 [.agg (A4 v)] (e50 r)
def e51 (r:Bool):AV:=.v (.bool r)
def c0e (a:A0) (b:A0) (r:Bool):Prop:=B5 Tryz.prog [] 51 [.agg (A4 a),.agg (A4 b)] (e51 r)
def e52 (r:ByteArray):AV:=.v (.string r)
def a49 (u:Int) (r:ByteArray):Prop:=B5 Tryz.prog [] 52 [.v (.int .u64 u)] (e52 r)
def e53 (r:Int):AV:=.v (.int .u64 r)
def c9y (n:Int) (r:Int):Prop:=B5 Tryz.prog [] 53 [.v (.int .i64 n)] (e53 r)
def e54 (r:ByteArray):AV:=.v (.string r)
def b88 (u:Int) (r:ByteArray):Prop:=B5 Tryz.prog [] 54 [.v (.int .u64 u)] (e54 r)
def e55 (r:(Int × Bool)):AV:=.tuple [.v (.int .i64 r.1),.v (.bool r.2)]
def c7v (p:A6) (name:ByteArray) (r:(Int × Bool)):Prop:=B5 Tryz.prog [] 55 [.agg (B0 p),.v (.string name)] (e55 r)
def e56 (r:Int):AV:=.v (.int .i64 r)
def c7o (p:A6) (prog:Int) (v:A0) (r:Int):Prop:=B5 Tryz.prog [] 56 [.agg (B0 p),.v (.int .i64 prog),.agg (A4 v)] (e56 r)
def e57 (r:Bool):AV:=.v (.bool r)
def a5x (v:A0) (r:Bool):Prop:=B5 Tryz.prog [] 57 [.agg (A4 v)] (e57 r)
def e58 (r:D4):AV:=.tuple []
theorem g1e (r:D4):plain (e58 r)=true:=rfl
def X2 (w:D4) (prog:Int) (v:A0) (r:D4):Prop:=c6a Tryz.prog [] 58 [.ptr 0 0,.v (.int .i64 prog),.agg (A4 v)] (L5 w) (a2f w) (e58 r) (L5 r) (a2f r)
def e59 (r:A0):AV:=.agg (A4 r)
def b1a (p:A6) (prog:Int) (v:A0) (r:A0):Prop:=B5 Tryz.prog [] 59 [.agg (B0 p),.v (.int .i64 prog),.agg (A4 v)] (e59 r)
def e63 (r:(List P6)):AV:=.sl (List.map I8 r) .no
def c4h (l:(List P6)) (r:(List P6)):Prop:=B5 Tryz.prog [] 63 [.sl (List.map I8 l) .no] (e63 r)
def e64 (r:A0):AV:=.agg (A4 r)
def b6h (p:A6) (o_:GOp) (v:A0) (r:A0):Prop:=B5 Tryz.prog [] 64 [.agg (B0 p),.agg (U2 o_),.agg (A4 v)] (e64 r)
def e65 (r:Bool):AV:=.v (.bool r)
def b86 (v:A0) (r:Bool):Prop:=B5 Tryz.prog [] 65 [.agg (A4 v)] (e65 r)
def e66 (r:Int):AV:=.v (.int .i64 r)
def a2c (p:A6) (prog:Int) (v:A0) (level:Int) (r:Int):Prop:=B5 Tryz.prog [] 66 [.agg (B0 p),.v (.int .i64 prog),.agg (A4 v),.v (.int .i64 level)] (e66 r)
def e67 (r:Bool):AV:=.v (.bool r)
def a0g (v:A0) (r:Bool):Prop:=B5 Tryz.prog [] 67 [.agg (A4 v)] (e67 r)
def e68 (r:ByteArray):AV:=.v (.string r)
def b3y (p:A6) (prog:Int) (v:A0) (r:ByteArray):Prop:=B5 Tryz.prog [] 68 [.agg (B0 p),.v (.int .i64 prog),.agg (A4 v)] (e68 r)
def e69 (r:Bool):AV:=.v (.bool r)
def b6y (p:A6) (r:Bool):Prop:=B5 Tryz.prog [] 69 [.agg (B0 p)] (e69 r)
def e70 (r:Bool):AV:=.v (.bool r)
def b9w (p:A6) (r:Bool):Prop:=B5 Tryz.prog [] 70 [.agg (B0 p)] (e70 r)
def e71 (r:Bool):AV:=.v (.bool r)
def b4l (p:A6) (r:Bool):Prop:=B5 Tryz.prog [] 71 [.agg (B0 p)] (e71 r)
def e72 (r:Bool):AV:=.v (.bool r)
def b56 (p:A6) (r:Bool):Prop:=B5 Tryz.prog [] 72 [.agg (B0 p)] (e72 r)
def e73 (r:Bool):AV:=.v (.bool r)
def b64 (p:A6) (r:Bool):Prop:=B5 Tryz.prog [] 73 [.agg (B0 p)] (e73 r)
def e74 (r:Bool):AV:=.v (.bool r)
def a97 (p:A6) (r:Bool):Prop:=B5 Tryz.prog [] 74 [.agg (B0 p)] (e74 r)
def e75 (r:Bool):AV:=.v (.bool r)
def b50 (p:A6) (r:Bool):Prop:=B5 Tryz.prog [] 75 [.agg (B0 p)] (e75 r)
def e79 (r:Bool):AV:=.v (.bool r)
def c0v (s:ByteArray) (r:Bool):Prop:=B5 Tryz.prog [] 79 [.v (.string s)] (e79 r)
def e82 (r:Bool):AV:=.v (.bool r)
def b7o (kind:Int) (r:Bool):Prop:=B5 Tryz.prog [] 82 [.v (.int .i64 kind)] (e82 r)
def e83 (r:Bool):AV:=.v (.bool r)
def b4c (v:A0) (r:Bool):Prop:=B5 Tryz.prog [] 83 [.agg (A4 v)] (e83 r)
def e84 (r:Bool):AV:=.v (.bool r)
def b4g (kind:Int) (bits:Int) (r:Bool):Prop:=B5 Tryz.prog [] 84 [.v (.int .i64 kind),.v (.int .u64 bits)] (e84 r)
def e85 (r:Bool):AV:=.v (.bool r)
def Z7 (s:(List b2t)) (f:GFn) (r:Bool):Prop:=B5 Tryz.prog [] 85 [.sl (List.map a1z s) .no,.clo (.func f.fn) f.fi f.cap] (e85 r)
def e86 (r:Bool):AV:=.v (.bool r)
def b8y (it:b2t) (c1_:Int) (r:Bool):Prop:=B5 Tryz.prog [] 86 [.agg (a1z it),.elt (b5s c1_) 0] (e86 r)
def e89 (r:Bool):AV:=.v (.bool r)
def b0r (s:ByteArray) (r:Bool):Prop:=B5 Tryz.prog [] 89 [.v (.string s)] (e89 r)
def e92 (r:Int):AV:=.v (.int .i64 r)
def b4o (bits:Int) (r:Int):Prop:=B5 Tryz.prog [] 92 [.v (.int .u64 bits)] (e92 r)
def e95 (r:Bool):AV:=.v (.bool r)
def b8a (v:A0) (r:Bool):Prop:=B5 Tryz.prog [] 95 [.agg (A4 v)] (e95 r)
def e96 (r:Bool):AV:=.v (.bool r)
def a6w (kind:Int) (r:Bool):Prop:=B5 Tryz.prog [] 96 [.v (.int .i64 kind)] (e96 r)
def e97 (r:Int):AV:=.v (.int .i64 r)
def b2a (bits:Int) (r:Int):Prop:=B5 Tryz.prog [] 97 [.v (.int .u64 bits)] (e97 r)
def e98 (r:Int):AV:=.v (.int .i64 r)
def a0m (a:A0) (b:A0) (r:Int):Prop:=B5 Tryz.prog [] 98 [.agg (A4 a),.agg (A4 b)] (e98 r)
def e99 (r:Int):AV:=.v (.int .i64 r)
def a14 (s:(List C1)) (f:GFn) (r:Int):Prop:=B5 Tryz.prog [] 99 [.sl (List.map D9 s) .no,.clo (.func f.fn) f.fi f.cap] (e99 r)
def g8u (r:Bool):AV:=.v (.bool r)
def c8k (g:C1) (c1_:ByteArray) (r:Bool):Prop:=B5 Tryz.prog [] 100 [.agg (D9 g),.elt (e2h c1_) 0] (g8u r)
def f98 (r:Int):AV:=.v (.int .i64 r)
def N7 (x:C5) (g:C1) (v:A0) (level:Int) (r:Int):Prop:=B5 Tryz.prog [] 101 [.agg (J0 x),.agg (D9 g),.agg (A4 v),.v (.int .i64 level)] (f98 r)
def g7o (r:Int):AV:=.v (.int .i64 r)
def b0x (v:A0) (r:Int):Prop:=B5 Tryz.prog [] 102 [.agg (A4 v)] (g7o r)
def g29 (r:D4):AV:=.tuple []
theorem f3u (r:D4):plain (g29 r)=true:=rfl
def W3 (w:D4) (o_:GOp) (v:A0) (r:D4):Prop:=c6a Tryz.prog [] 103 [.ptr 0 0,.agg (U2 o_),.agg (A4 v)] (L5 w) (a2f w) (g29 r) (L5 r) (a2f r)
def g25 (r:D4):AV:=.tuple []
theorem f2t (r:D4):plain (g25 r)=true:=rfl
def U8 (w:D4) (s:ByteArray) (r:D4):Prop:=c6a Tryz.prog [] 104 [.ptr 0 0,.v (.string s)] (L5 w) (a2f w) (g25 r) (L5 r) (a2f r)
def g9u (r:(List P6)):AV:=.sl (List.map I8 r) .no
def a7x (s:(List P6)) (r:(List P6)):Prop:=B5 Tryz.prog [] 105 [.sl (List.map I8 s) .no] (g9u r)
def b2v (s:(List P6)):Prop:=f3j Tryz.prog I8 4 105 s
def g3g (r:(List (Int × A0))):AV:=.sl (List.map A9 r) .no
def a99 (l:(List (Int × A0))) (r:(List (Int × A0))):Prop:=B5 Tryz.prog [] 106 [.sl (List.map A9 l) .no] (g3g r)
def g86 (r:(GOp × Bool)):AV:=.tuple [.agg (U2 r.1),.v (.bool r.2)]
def c3p (g:C1) (num:Int) (r:(GOp × Bool)):Prop:=B5 Tryz.prog [] 107 [.agg (D9 g),.v (.int .i64 num)] (g86 r)
def g2u (r:A0):AV:=.agg (A4 r)
def b2y (p:A6) (o_:GOp) (v:A0) (r:A0):Prop:=B5 Tryz.prog [] 108 [.agg (B0 p),.agg (U2 o_),.agg (A4 v)] (g2u r)
def g9w (r:Bool):AV:=.v (.bool r)
def c4o (v:A0) (r:Bool):Prop:=B5 Tryz.prog [] 109 [.agg (A4 v)] (g9w r)
def W0 (x1:GFn):Prop:=B5 Tryz.prog [] 110 [.sl [] .no,.clo (.func x1.fn) x1.fi x1.cap] (.tuple [])
def g8a (r:Int):AV:=.v (.int .i64 r)
def O5 (x:Int) (y:Int) (r:Int):Prop:=B5 Tryz.prog [] 112 [.v (.int .i64 x),.v (.int .i64 y)] (g8a r)
def g84 (r:A0):AV:=.agg (A4 r)
def a7h (p:A6) (o_:GOp) (v:A0) (r:A0):Prop:=B5 Tryz.prog [] 119 [.agg (B0 p),.agg (U2 o_),.agg (A4 v)] (g84 r)
def f8f (r:(List (A0 × A0))):AV:=.sl (List.map A8 r) .no
def b4m (l:(List (A0 × A0))) (r:(List (A0 × A0))):Prop:=B5 Tryz.prog [] 120 [.sl (List.map A8 l) .no] (f8f r)
def g8c (r:Bool):AV:=.v (.bool r)
def b7d (v:A0) (r:Bool):Prop:=B5 Tryz.prog [] 121 [.agg (A4 v)] (g8c r)
def g8p (r:Bool):AV:=.v (.bool r)
def a6u (v:A0) (r:Bool):Prop:=B5 Tryz.prog [] 122 [.agg (A4 v)] (g8p r)
def g4j (r:Int):AV:=.v (.int .i64 r)
def c4g (g:C1) (l:(List (Int × A0))) (i:Int) (r:Int):Prop:=B5 Tryz.prog [] 123 [.agg (D9 g),.sl (List.map A9 l) .no,.v (.int .i64 i)] (g4j r)
def g6g (r:(GOp × Bool)):AV:=.tuple [.agg (U2 r.1),.v (.bool r.2)]
def b76 (g:C1) (num:Int) (r:(GOp × Bool)):Prop:=B5 Tryz.prog [] 124 [.agg (D9 g),.v (.int .i64 num)] (g6g r)
def g4k (r:Int):AV:=.v (.int .i64 r)
def b2n (p:A6) (o_:GOp) (v:A0) (level:Int) (r:Int):Prop:=B5 Tryz.prog [] 125 [.agg (B0 p),.agg (U2 o_),.agg (A4 v),.v (.int .i64 level)] (g4k r)
def g7d (r:Bool):AV:=.v (.bool r)
def c7t (v:A0) (num:Int) (r:Bool):Prop:=B5 Tryz.prog [] 126 [.agg (A4 v),.v (.int .i64 num)] (g7d r)
def g9r (r:Bool):AV:=.v (.bool r)
def b06 (p:A6) (g:C1) (x:P6) (r:Bool):Prop:=B5 Tryz.prog [] 127 [.agg (B0 p),.agg (D9 g),.agg (I8 x)] (g9r r)
def g47 (r:(A0 × Bool)):AV:=.tuple [.agg (A4 r.1),.v (.bool r.2)]
def c8t (v:A0) (num:Int) (r:(A0 × Bool)):Prop:=B5 Tryz.prog [] 128 [.agg (A4 v),.v (.int .i64 num)] (g47 r)
def g9v (r:ByteArray):AV:=.v (.string r)
def a2k (p:A6) (o_:GOp) (v:A0) (r:ByteArray):Prop:=B5 Tryz.prog [] 129 [.agg (B0 p),.agg (U2 o_),.agg (A4 v)] (g9v r)
def g5t (r:Bool):AV:=.v (.bool r)
def a9o (s:ByteArray) (r:Bool):Prop:=B5 Tryz.prog [] 130 [.v (.string s)] (g5t r)
def g8i (r:Bool):AV:=.v (.bool r)
def b2g (s:ByteArray) (r:Bool):Prop:=B5 Tryz.prog [] 131 [.v (.string s)] (g8i r)
def g4d (r:Bool):AV:=.v (.bool r)
def b2p (l:(List b8o)) (n:Int) (r:Bool):Prop:=B5 Tryz.prog [] 132 [.sl (List.map b0k l) .no,.v (.int .i64 n)] (g4d r)
def g5s (r:Int):AV:=.v (.int .i64 r)
def b91 (l:(List b1k)) (target:Int) (r:Int):Prop:=B5 Tryz.prog [] 133 [.sl (List.map a6o l) .no,.v (.int .i64 target)] (g5s r)
def g5a (r:Bool):AV:=.v (.bool r)
def b5k (g:C1) (r:Bool):Prop:=B5 Tryz.prog [] 134 [.agg (D9 g)] (g5a r)
def g63 (r:Bool):AV:=.v (.bool r)
def a98 (p:A6) (o_:GOp) (r:Bool):Prop:=B5 Tryz.prog [] 135 [.agg (B0 p),.agg (U2 o_)] (g63 r)
def g5z (r:Int):AV:=.v (.int .i64 r)
def e7l (s:ByteArray) (r:Int):Prop:=B5 Tryz.prog [] 139 [.v (.string s)] (g5z r)
def g8o (r:Bool):AV:=.v (.bool r)
def b7c (kind:Int) (r:Bool):Prop:=B5 Tryz.prog [] 141 [.v (.int .i64 kind)] (g8o r)
def g6t (r:Int):AV:=.v (.int .i64 r)
def a1m (s:(List b2t)) (f:GFn) (r:Int):Prop:=B5 Tryz.prog [] 142 [.sl (List.map a1z s) .no,.clo (.func f.fn) f.fi f.cap] (g6t r)
def g3q (r:Int):AV:=.v (.int .i64 r)
def d5k (s:ByteArray) (r:Int):Prop:=B5 Tryz.prog [] 143 [.v (.string s)] (g3q r)
def h0a (r:Int):AV:=.v (.int .i64 r)
def O9 (a:Int) (b:Int) (r:Int):Prop:=B5 Tryz.prog [] 146 [.v (.int .i64 a),.v (.int .i64 b)] (h0a r)
def g6l (r:Int):AV:=.v (.int .i64 r)
def c9w (a:(List A0)) (b:(List A0)) (r:Int):Prop:=B5 Tryz.prog [] 147 [.sl (List.map B9 a) .no,.sl (List.map B9 b) .no] (g6l r)
def g6z (r:Int):AV:=.v (.int .i64 r)
def c7f (a:(List (A0 × A0))) (b:(List (A0 × A0))) (r:Int):Prop:=B5 Tryz.prog [] 148 [.sl (List.map A8 a) .no,.sl (List.map A8 b) .no] (g6z r)
def g4q (r:Int):AV:=.v (.int .i64 r)
def c8p (a:(List (Int × A0))) (b:(List (Int × A0))) (r:Int):Prop:=B5 Tryz.prog [] 149 [.sl (List.map A9 a) .no,.sl (List.map A9 b) .no] (g4q r)
def g67 (r:Int):AV:=.v (.int .i64 r)
def d00 (a:(List P6)) (b:(List P6)) (r:Int):Prop:=B5 Tryz.prog [] 150 [.sl (List.map I8 a) .no,.sl (List.map I8 b) .no] (g67 r)
def g79 (r:Int):AV:=.v (.int .i64 r)
def c7d (a:A0) (b:A0) (r:Int):Prop:=B5 Tryz.prog [] 151 [.agg (A4 a),.agg (A4 b)] (g79 r)
def g83 (r:Bool):AV:=.v (.bool r)
def a9s (v:A0) (r:Bool):Prop:=B5 Tryz.prog [] 152 [.agg (A4 v)] (g83 r)
def g46 (r:Int):AV:=.v (.int .i64 r)
def a5n (x:C5) (g:C1) (l:(List (Int × A0))) (i:Int) (level:Int) (r:Int):Prop:=B5 Tryz.prog [] 153 [.agg (J0 x),.agg (D9 g),.sl (List.map A9 l) .no,.v (.int .i64 i),.v (.int .i64 level)] (g46 r)
def g8r (r:Bool):AV:=.v (.bool r)
def L7 (s:(List (Int × A0))) (f:GFn) (r:Bool):Prop:=B5 Tryz.prog [] 154 [.sl (List.map A9 s) .no,.clo (.func f.fn) f.fi f.cap] (g8r r)
def g9i (r:Bool):AV:=.v (.bool r)
def a5q (y:(Int × A0)) (c1_:GOp) (r:Bool):Prop:=B5 Tryz.prog [] 155 [.agg (U5 y),.elt (U2 c1_) 0] (g9i r)
def g92 (r:Int):AV:=.v (.int .i64 r)
def a61 (x:C5) (g:C1) (f:P6) (r:Int):Prop:=B5 Tryz.prog [] 156 [.agg (J0 x),.agg (D9 g),.agg (I8 f)] (g92 r)
def g3a (r:(List A0)):AV:=.sl (List.map B9 r) .no
def b85 (v:A0) (r:(List A0)):Prop:=B5 Tryz.prog [] 157 [.agg (A4 v)] (g3a r)
def g91 (r:(List (Int × A0))):AV:=.sl (List.map A9 r) .no
def a5d (s:(List (Int × A0))) (r:(List (Int × A0))):Prop:=B5 Tryz.prog [] 158 [.sl (List.map A9 s) .no] (g91 r)
def a1v (s:(List (Int × A0))):Prop:=f3j Tryz.prog A9 8 158 s
def P0 (n0:Nat) (x:(List (Int × A0))) (cmp:GFn) (r:(List (Int × A0))):Prop:=b9f Tryz.prog A9 8 159 n0 [.clo (.func cmp.fn) cmp.fi cmp.cap] x r
def U9 (x1:GFn):Prop:=B5 Tryz.prog [] 159 [.sl [] .no,.clo (.func x1.fn) x1.fi x1.cap] (.tuple [])
def g9f (r:Int):AV:=.v (.int .i64 r)
def c2g (a:(Int × A0)) (b:(Int × A0)) (r:Int):Prop:=B5 Tryz.prog [] 160 [.agg (U5 a),.agg (U5 b)] (g9f r)
def g8e (r:Bool):AV:=.v (.bool r)
def d5p (o_:GOp) (c1_:Int) (r:Bool):Prop:=B5 Tryz.prog [] 161 [.agg (U2 o_),.elt (a7o c1_) 0] (g8e r)
def g8j (r:(GOp × Bool)):AV:=.tuple [.agg (U2 r.1),.v (.bool r.2)]
def b8t (x:b2u) (g:C1) (r:(GOp × Bool)):Prop:=B5 Tryz.prog [] 162 [.agg (b14 x),.agg (D9 g)] (g8j r)
def g8d (r:A0):AV:=.agg (A4 r)
def a5e (p:A6) (o_:GOp) (v:A0) (r:A0):Prop:=B5 Tryz.prog [] 163 [.agg (B0 p),.agg (U2 o_),.agg (A4 v)] (g8d r)
def g28 (r:(List (A0 × A0))):AV:=.sl (List.map A8 r) .no
def b4h (l:(List (A0 × A0))) (r:(List (A0 × A0))):Prop:=B5 Tryz.prog [] 164 [.sl (List.map A8 l) .no] (g28 r)
def g87 (r:Bool):AV:=.v (.bool r)
def b4a (v:A0) (r:Bool):Prop:=B5 Tryz.prog [] 165 [.agg (A4 v)] (g87 r)
def g9t (r:Bool):AV:=.v (.bool r)
def b4w (x:Int) (r:Bool):Prop:=B5 Tryz.prog [] 167 [.v (.int .i64 x)] (g9t r)
def g8q (r:Int):AV:=.v (.int .i64 r)
def b0t (a:A0) (b:A0) (r:Int):Prop:=B5 Tryz.prog [] 170 [.agg (A4 a),.agg (A4 b)] (g8q r)
def g3e (r:Int):AV:=.v (.int .i64 r)
def b9n (p:A6) (o_:GOp) (l:(List (A0 × A0))) (level:Int) (r:Int):Prop:=B5 Tryz.prog [] 171 [.agg (B0 p),.agg (U2 o_),.sl (List.map A8 l) .no,.v (.int .i64 level)] (g3e r)
def g8s (r:Int):AV:=.v (.int .i64 r)
def a47 (p:A6) (o_:GOp) (v:A0) (level:Int) (r:Int):Prop:=B5 Tryz.prog [] 172 [.agg (B0 p),.agg (U2 o_),.agg (A4 v),.v (.int .i64 level)] (g8s r)
def g3n (r:Bool):AV:=.v (.bool r)
def b66 (s:ByteArray) (r:Bool):Prop:=B5 Tryz.prog [] 173 [.v (.string s)] (g3n r)
def g4w (r:(ByteArray × ByteArray)):AV:=.tuple [.v (.string r.1),.v (.string r.2)]
def b82 (full:ByteArray) (r:(ByteArray × ByteArray)):Prop:=B5 Tryz.prog [] 174 [.v (.string full)] (g4w r)
def g76 (r:Bool):AV:=.v (.bool r)
def b11 (s:ByteArray) (r:Bool):Prop:=B5 Tryz.prog [] 175 [.v (.string s)] (g76 r)
def g36 (r:Bool):AV:=.v (.bool r)
def a8b (s:ByteArray) (r:Bool):Prop:=B5 Tryz.prog [] 176 [.v (.string s)] (g36 r)
def g02 (r:Int):AV:=.v (.int .i64 r)
def b71 (name:ByteArray) (r:Int):Prop:=B5 Tryz.prog [] 177 [.v (.string name)] (g02 r)
def f8b (r:Bool):AV:=.v (.bool r)
def c3l (name:ByteArray) (target:Int) (r:Bool):Prop:=B5 Tryz.prog [] 178 [.v (.string name),.v (.int .i64 target)] (f8b r)
def g8k (r:Bool):AV:=.v (.bool r)
def b9k (n:b1k) (r:Bool):Prop:=B5 Tryz.prog [] 179 [.agg (a6o n)] (g8k r)
def g88 (r:Bool):AV:=.v (.bool r)
def b52 (p:A6) (o_:GOp) (r:Bool):Prop:=B5 Tryz.prog [] 180 [.agg (B0 p),.agg (U2 o_)] (g88 r)
def g71 (r:Bool):AV:=.v (.bool r)
def c7r (s:ByteArray) (at_:Int) (c:Int) (r:Bool):Prop:=B5 Tryz.prog [] 181 [.v (.string s),.v (.int .i64 at_),.v (.int .i32 c)] (g71 r)
def g9l (r:Int):AV:=.v (.int .i64 r)
def c2x (s:ByteArray) (i:Int) (r:Int):Prop:=B5 Tryz.prog [] 182 [.v (.string s),.v (.int .i64 i)] (g9l r)
def g70 (r:Int):AV:=.v (.int .i64 r)
def c8z (a:P6) (b:P6) (r:Int):Prop:=B5 Tryz.prog [] 183 [.agg (I8 a),.agg (I8 b)] (g70 r)
def g85 (r:Int):AV:=.v (.int .u64 r)
def a9u (v:A0) (r:Int):Prop:=B5 Tryz.prog [] 184 [.agg (A4 v)] (g85 r)
def g80 (r:Bool):AV:=.v (.bool r)
def a82 (y:(Int × A0)) (c1_:GOp) (r:Bool):Prop:=B5 Tryz.prog [] 185 [.agg (U5 y),.elt (U2 c1_) 0] (g80 r)
def g6i (r:Int):AV:=.v (.int .i64 r)
def a4l (x:C5) (o_:GOp) (v:A0) (level:Int) (r:Int):Prop:=B5 Tryz.prog [] 186 [.agg (J0 x),.agg (U2 o_),.agg (A4 v),.v (.int .i64 level)] (g6i r)
def g6h (r:Int):AV:=.v (.int .i64 r)
def a17 (s:(List (Int × A0))) (f:GFn) (r:Int):Prop:=B5 Tryz.prog [] 187 [.sl (List.map A9 s) .no,.clo (.func f.fn) f.fi f.cap] (g6h r)
def a0l (s:(List A0)):Prop:=f8a Tryz.prog B9 7 188 s
def X7 (n0:Nat) (data:(List (Int × A0))) (n:Int) (cmp:GFn) (r:(List (Int × A0))):Prop:=b9f Tryz.prog A9 8 189 n0 [.v (.int .i64 n),.clo (.func cmp.fn) cmp.fi cmp.cap] data r
def g6e (r:Int):AV:=.v (.int .i64 r)
def a5i (s:(List GOp)) (f:GFn) (r:Int):Prop:=B5 Tryz.prog [] 190 [.sl (List.map U2 s) .no,.clo (.func f.fn) f.fi f.cap] (g6e r)
def g9q (r:(List (A0 × A0))):AV:=.sl (List.map A8 r) .no
def a5l (s:(List (A0 × A0))) (r:(List (A0 × A0))):Prop:=B5 Tryz.prog [] 191 [.sl (List.map A8 s) .no] (g9q r)
def a1r (s:(List (A0 × A0))):Prop:=f3j Tryz.prog A8 14 191 s
def P3 (n0:Nat) (x:(List (A0 × A0))) (cmp:GFn) (r:(List (A0 × A0))):Prop:=b9f Tryz.prog A8 14 192 n0 [.clo (.func cmp.fn) cmp.fi cmp.cap] x r
def V1 (x1:GFn):Prop:=B5 Tryz.prog [] 192 [.sl [] .no,.clo (.func x1.fn) x1.fi x1.cap] (.tuple [])
def g8y (r:Int):AV:=.v (.int .i64 r)
def d2x (a:(A0 × A0)) (b:(A0 × A0)) (r:Int):Prop:=B5 Tryz.prog [] 193 [.agg (S3 a),.agg (S3 b)] (g8y r)
def g9e (r:Bool):AV:=.v (.bool r)
def b1d (a:A0) (b:A0) (r:Bool):Prop:=B5 Tryz.prog [] 194 [.agg (A4 a),.agg (A4 b)] (g9e r)
def g72 (r:b74):AV:=c8b r
def a7c (v:A0) (r:b74):Prop:=B5 Tryz.prog [] 197 [.agg (A4 v)] (g72 r)
def g8n (r:Int):AV:=.v (.int .i64 r)
def c3g (a:A0) (b:A0) (r:Int):Prop:=B5 Tryz.prog [] 198 [.agg (A4 a),.agg (A4 b)] (g8n r)
def g4v (r:Int):AV:=.v (.int .i64 r)
def J2 (s1_:(List A0)) (s2_:(List A0)) (cmp:GFn) (r:Int):Prop:=B5 Tryz.prog [] 199 [.sl (List.map B9 s1_) .no,.sl (List.map B9 s2_) .no,.clo (.func cmp.fn) cmp.fi cmp.cap] (g4v r)
def g65 (r:Int):AV:=.v (.int .i64 r)
def J1 (s1_:(List (A0 × A0))) (s2_:(List (A0 × A0))) (cmp:GFn) (r:Int):Prop:=B5 Tryz.prog [] 200 [.sl (List.map A8 s1_) .no,.sl (List.map A8 s2_) .no,.clo (.func cmp.fn) cmp.fi cmp.cap] (g65 r)
def g9g (r:Int):AV:=.v (.int .i64 r)
def d21 (a:(A0 × A0)) (b:(A0 × A0)) (r:Int):Prop:=B5 Tryz.prog [] 201 [.agg (S3 a),.agg (S3 b)] (g9g r)
def g52 (r:Int):AV:=.v (.int .i64 r)
def a9x (vals:(List Int)) (r:Int):Prop:=B5 Tryz.prog [] 202 [.sl (List.map a7o vals) .no] (g52 r)
def g3v (r:Int):AV:=.v (.int .i64 r)
def R0 (s1_:(List (Int × A0))) (s2_:(List (Int × A0))) (cmp:GFn) (r:Int):Prop:=B5 Tryz.prog [] 203 [.sl (List.map A9 s1_) .no,.sl (List.map A9 s2_) .no,.clo (.func cmp.fn) cmp.fi cmp.cap] (g3v r)
def g8h (r:Int):AV:=.v (.int .i64 r)
def d2k (a:(Int × A0)) (b:(Int × A0)) (r:Int):Prop:=B5 Tryz.prog [] 204 [.agg (U5 a),.agg (U5 b)] (g8h r)
def g5e (r:Int):AV:=.v (.int .i64 r)
def U7 (s1_:(List P6)) (s2_:(List P6)) (cmp:GFn) (r:Int):Prop:=B5 Tryz.prog [] 205 [.sl (List.map I8 s1_) .no,.sl (List.map I8 s2_) .no,.clo (.func cmp.fn) cmp.fi cmp.cap] (g5e r)
def g8z (r:Int):AV:=.v (.int .i64 r)
def c4x (a:P6) (b:P6) (r:Int):Prop:=B5 Tryz.prog [] 206 [.agg (I8 a),.agg (I8 b)] (g8z r)
def g9z (r:Int):AV:=.v (.int .i64 r)
def b2e (p:A6) (kind:Int) (target:Int) (v:A0) (r:Int):Prop:=B5 Tryz.prog [] 207 [.agg (B0 p),.v (.int .i64 kind),.v (.int .i64 target),.agg (A4 v)] (g9z r)
def g8m (r:Bool):AV:=.v (.bool r)
def b4y (b:Int) (r:Bool):Prop:=B5 Tryz.prog [] 208 [.v (.int .u8 b)] (g8m r)
def g8b (r:Bool):AV:=.v (.bool r)
def a9b (b:Int) (r:Bool):Prop:=B5 Tryz.prog [] 209 [.v (.int .u8 b)] (g8b r)
def g78 (r:Bool):AV:=.v (.bool r)
def a60 (s:ByteArray) (prefix_:ByteArray) (r:Bool):Prop:=B5 Tryz.prog [] 210 [.v (.string s),.v (.string prefix_)] (g78 r)
def g3u (r:Bool):AV:=.v (.bool r)
def a2d (s:ByteArray) (i:Int) (n:Int) (r:Bool):Prop:=B5 Tryz.prog [] 211 [.v (.string s),.v (.int .i64 i),.v (.int .i64 n)] (g3u r)
def g9a (r:Bool):AV:=.v (.bool r)
def a0d (s:ByteArray) (i:Int) (lo:Int) (hi:Int) (r:Bool):Prop:=B5 Tryz.prog [] 212 [.v (.string s),.v (.int .i64 i),.v (.int .u8 lo),.v (.int .u8 hi)] (g9a r)
def g8f (r:Bool):AV:=.v (.bool r)
def c46 (kind:Int) (r:Bool):Prop:=B5 Tryz.prog [] 213 [.v (.int .i64 kind)] (g8f r)
def g93 (r:Int):AV:=.v (.int .i64 r)
def X0 (x:C5) (o_:GOp) (v:A0) (level:Int) (r:Int):Prop:=B5 Tryz.prog [] 214 [.agg (J0 x),.agg (U2 o_),.agg (A4 v),.v (.int .i64 level)] (g93 r)
def g54 (r:Int):AV:=.v (.int .i64 r)
def a1l (x:C5) (o_:GOp) (l:(List (A0 × A0))) (level:Int) (r:Int):Prop:=B5 Tryz.prog [] 215 [.agg (J0 x),.agg (U2 o_),.sl (List.map A8 l) .no,.v (.int .i64 level)] (g54 r)
def J4 (n0:Nat) (data:(List (Int × A0))) (a:Int) (b:Int) (cmp:GFn) (r:(List (Int × A0))):Prop:=b9f Tryz.prog A9 8 216 n0 [.v (.int .i64 a),.v (.int .i64 b),.clo (.func cmp.fn) cmp.fi cmp.cap] data r
def F1 (n0:Nat) (data:(List (Int × A0))) (a:Int) (m:Int) (b:Int) (cmp:GFn) (r:(List (Int × A0))):Prop:=b9f Tryz.prog A9 8 217 n0 [.v (.int .i64 a),.v (.int .i64 m),.v (.int .i64 b),.clo (.func cmp.fn) cmp.fi cmp.cap] data r
def X5 (n0:Nat) (data:(List (A0 × A0))) (n:Int) (cmp:GFn) (r:(List (A0 × A0))):Prop:=b9f Tryz.prog A8 14 218 n0 [.v (.int .i64 n),.clo (.func cmp.fn) cmp.fi cmp.cap] data r
def g9k (r:Int):AV:=.v (.int .i64 r)
def a06 (x:ByteArray) (y:ByteArray) (r:Int):Prop:=B5 Tryz.prog [] 220 [.v (.string x),.v (.string y)] (g9k r)
def g9h (r:Int):AV:=.v (.int .i64 r)
def W7 (x:Int) (y:Int) (r:Int):Prop:=B5 Tryz.prog [] 221 [.v (.int .u64 x),.v (.int .u64 y)] (g9h r)
def g97 (r:Int):AV:=.v (.int .u64 r)
def b2i (bits:Int) (r:Int):Prop:=B5 Tryz.prog [] 222 [.v (.int .u64 bits)] (g97 r)
def g9s (r:Bool):AV:=.v (.bool r)
def Z8 (s:ByteArray) (prefix_:ByteArray) (r:Bool):Prop:=B5 Tryz.prog [] 223 [.v (.string s),.v (.string prefix_)] (g9s r)
def g8w (r:Int):AV:=.v (.int .i64 r)
def a2a (x:C5) (kind:Int) (enum:Int) (v:A0) (r:Int):Prop:=B5 Tryz.prog [] 224 [.agg (J0 x),.v (.int .i64 kind),.v (.int .i64 enum),.agg (A4 v)] (g8w r)
def g90 (r:Bool):AV:=.v (.bool r)
def T6 (s:(List (A0 × A0))) (f:GFn) (r:Bool):Prop:=B5 Tryz.prog [] 225 [.sl (List.map A8 s) .no,.clo (.func f.fn) f.fi f.cap] (g90 r)
def g9y (r:Bool):AV:=.v (.bool r)
def a52 (q:(A0 × A0)) (c1_:(A0 × A0)) (r:Bool):Prop:=B5 Tryz.prog [] 226 [.agg (S3 q),.elt (S3 c1_) 0] (g9y r)
def X9 (n0:Nat) (data:(List (Int × A0))) (a:Int) (m:Int) (b:Int) (cmp:GFn) (r:(List (Int × A0))):Prop:=b9f Tryz.prog A9 8 227 n0 [.v (.int .i64 a),.v (.int .i64 m),.v (.int .i64 b),.clo (.func cmp.fn) cmp.fi cmp.cap] data r
def J3 (n0:Nat) (data:(List (A0 × A0))) (a:Int) (b:Int) (cmp:GFn) (r:(List (A0 × A0))):Prop:=b9f Tryz.prog A8 14 228 n0 [.v (.int .i64 a),.v (.int .i64 b),.clo (.func cmp.fn) cmp.fi cmp.cap] data r
def F4 (n0:Nat) (data:(List (A0 × A0))) (a:Int) (m:Int) (b:Int) (cmp:GFn) (r:(List (A0 × A0))):Prop:=b9f Tryz.prog A8 14 229 n0 [.v (.int .i64 a),.v (.int .i64 m),.v (.int .i64 b),.clo (.func cmp.fn) cmp.fi cmp.cap] data r
def g9m (r:Bool):AV:=.v (.bool r)
def a8l (x:ByteArray) (r:Bool):Prop:=B5 Tryz.prog [] 231 [.v (.string x)] (g9m r)
def g7x (r:Bool):AV:=.v (.bool r)
def a8n (x:Int) (r:Bool):Prop:=B5 Tryz.prog [] 232 [.v (.int .u64 x)] (g7x r)
def g7e (r:Int):AV:=.v (.int .i64 r)
def a1q (s:(List (A0 × A0))) (f:GFn) (r:Int):Prop:=B5 Tryz.prog [] 233 [.sl (List.map A8 s) .no,.clo (.func f.fn) f.fi f.cap] (g7e r)
def I6 (n0:Nat) (data:(List (Int × A0))) (a:Int) (b:Int) (n:Int) (cmp:GFn) (r:(List (Int × A0))):Prop:=b9f Tryz.prog A9 8 234 n0 [.v (.int .i64 a),.v (.int .i64 b),.v (.int .i64 n),.clo (.func cmp.fn) cmp.fi cmp.cap] data r
def X8 (n0:Nat) (data:(List (A0 × A0))) (a:Int) (m:Int) (b:Int) (cmp:GFn) (r:(List (A0 × A0))):Prop:=b9f Tryz.prog A8 14 235 n0 [.v (.int .i64 a),.v (.int .i64 m),.v (.int .i64 b),.clo (.func cmp.fn) cmp.fi cmp.cap] data r
def I3 (n0:Nat) (data:(List (A0 × A0))) (a:Int) (b:Int) (n:Int) (cmp:GFn) (r:(List (A0 × A0))):Prop:=b9f Tryz.prog A8 14 236 n0 [.v (.int .i64 a),.v (.int .i64 b),.v (.int .i64 n),.clo (.func cmp.fn) cmp.fi cmp.cap] data r
theorem pl9 {x0:A6}:plainL [.agg (B0 x0)]=true:=(A5 (C6 x0) rfl)
theorem g9o {x0:A0}:plainL [.agg (A4 x0)]=true:=(A5 (A7 x0) rfl)
theorem g7z {x0:A0}:plainL [.agg (A4 x0)]=true:=(A5 (A7 x0) rfl)
theorem h0x:plainL []=true:=rfl
theorem h1h {x0:A0}:plainL [.agg (A4 x0)]=true:=(A5 (A7 x0) rfl)
theorem g98 {x0:A6} {x1:ByteArray} {x2:A0}:plainL [.agg (B0 x0),.v (.string x1),.agg (A4 x2)]=true:=(A5 (C6 x0) (A5 rfl (A5 (A7 x2) rfl)))
theorem h0s {x0:A6} {x1:ByteArray}:plainL [.agg (B0 x0),.v (.string x1)]=true:=(A5 (C6 x0) (A5 rfl rfl))
theorem g95 {x0:A6} {x1:Int} {x2:A0}:plainL [.agg (B0 x0),.v (.int .i64 x1),.agg (A4 x2)]=true:=(A5 (C6 x0) (A5 rfl (A5 (A7 x2) rfl)))
theorem h0l {x0:A6} {x1:Int} {x2:A0}:plainL [.agg (B0 x0),.v (.int .i64 x1),.agg (A4 x2)]=true:=(A5 (C6 x0) (A5 rfl (A5 (A7 x2) rfl)))
theorem f8d {x0:A0}:plainL [.agg (A4 x0)]=true:=(A5 (A7 x0) rfl)
theorem g8l {x0:A6} {x1:ByteArray} {x2:A0}:plainL [.agg (B0 x0),.v (.string x1),.agg (A4 x2)]=true:=(A5 (C6 x0) (A5 rfl (A5 (A7 x2) rfl)))
theorem h01 {x0:A6} {x1:ByteArray} {x2:A0}:plainL [.agg (B0 x0),.v (.string x1),.agg (A4 x2)]=true:=(A5 (C6 x0) (A5 rfl (A5 (A7 x2) rfl)))
theorem h02 {x0:A6} {x1:ByteArray} {x2:A0}:plainL [.agg (B0 x0),.v (.string x1),.agg (A4 x2)]=true:=(A5 (C6 x0) (A5 rfl (A5 (A7 x2) rfl)))
theorem h1c {x0:A6}:plainL [.agg (B0 x0)]=true:=(A5 (C6 x0) rfl)
theorem g9p {x0:Int} {x1:A0}:plainL [.v (.int .i64 x0),.agg (A4 x1)]=true:=(A5 rfl (A5 (A7 x1) rfl))
theorem g7y {x0:A6} {x1:Int} {x2:Int}:plainL [.agg (B0 x0),.v (.int .i64 x1),.v (.int .u64 x2)]=true:=(A5 (C6 x0) (A5 rfl (A5 rfl rfl)))
theorem g7b {x0:A0}:plainL [.agg (A4 x0)]=true:=(A5 (A7 x0) rfl)
theorem g4e {x0:Int}:plainL [.v (.int .i64 x0)]=true:=(A5 rfl rfl)
theorem g68 {x0:Int} {x1:A0}:plainL [.v (.int .i64 x0),.agg (A4 x1)]=true:=(A5 rfl (A5 (A7 x1) rfl))
theorem g75 {x0:A6} {x1:Int} {x2:Int}:plainL [.agg (B0 x0),.v (.int .i64 x1),.v (.int .u64 x2)]=true:=(A5 (C6 x0) (A5 rfl (A5 rfl rfl)))
theorem f9g {x0:Int}:plainL [.v (.int .u64 x0)]=true:=(A5 rfl rfl)
theorem h0f {x0:Int}:plainL [.v (.int .i64 x0)]=true:=(A5 rfl rfl)
theorem h0c {x0:Int}:plainL [.v (.int .u64 x0)]=true:=(A5 rfl rfl)
theorem g5l {x0:A0}:plainL [.agg (A4 x0)]=true:=(A5 (A7 x0) rfl)
theorem h0k {x0:A0} {x1:A0}:plainL [.agg (A4 x0),.agg (A4 x1)]=true:=(A5 (A7 x0) (A5 (A7 x1) rfl))
theorem g05 {x0:Int}:plainL [.v (.int .u64 x0)]=true:=(A5 rfl rfl)
theorem h0i {x0:Int}:plainL [.v (.int .i64 x0)]=true:=(A5 rfl rfl)
theorem h1e {x0:Int}:plainL [.v (.int .u64 x0)]=true:=(A5 rfl rfl)
theorem h0v {x0:A6} {x1:ByteArray}:plainL [.agg (B0 x0),.v (.string x1)]=true:=(A5 (C6 x0) (A5 rfl rfl))
theorem h1d {x0:A6} {x1:Int} {x2:A0}:plainL [.agg (B0 x0),.v (.int .i64 x1),.agg (A4 x2)]=true:=(A5 (C6 x0) (A5 rfl (A5 (A7 x2) rfl)))
theorem g3b {x0:A0}:plainL [.agg (A4 x0)]=true:=(A5 (A7 x0) rfl)
theorem g0q {x0:D4} {x1:Int} {x2:A0} {r:D4}:(L5 x0).all ok1=true /\ (L5 r).all ok1=true /\ List.all [.ptr 0 0,.v (.int .i64 x1),.agg (A4 x2)] okA=true /\ plain (e58 r)=true:=⟨a18 _,a18 _,K9 rfl (K9 (C9 rfl) (K9 (C9 (A7 x2)) rfl)),g1e r⟩
theorem g89 {x0:A6} {x1:Int} {x2:A0}:plainL [.agg (B0 x0),.v (.int .i64 x1),.agg (A4 x2)]=true:=(A5 (C6 x0) (A5 rfl (A5 (A7 x2) rfl)))
theorem h0y {x0:(List P6)}:plainL [.sl (List.map I8 x0) .no]=true:=(A5 (psl (G8 x0)) rfl)
theorem h0m {x0:A6} {x1:GOp} {x2:A0}:plainL [.agg (B0 x0),.agg (U2 x1),.agg (A4 x2)]=true:=(A5 (C6 x0) (A5 (M7 x1) (A5 (A7 x2) rfl)))
theorem h0r {x0:A0}:plainL [.agg (A4 x0)]=true:=(A5 (A7 x0) rfl)
theorem g9x {x0:A6} {x1:Int} {x2:A0} {x3:Int}:plainL [.agg (B0 x0),.v (.int .i64 x1),.agg (A4 x2),.v (.int .i64 x3)]=true:=(A5 (C6 x0) (A5 rfl (A5 (A7 x2) (A5 rfl rfl))))
theorem g21 {x0:A0}:plainL [.agg (A4 x0)]=true:=(A5 (A7 x0) rfl)
theorem g8t {x0:A6} {x1:Int} {x2:A0}:plainL [.agg (B0 x0),.v (.int .i64 x1),.agg (A4 x2)]=true:=(A5 (C6 x0) (A5 rfl (A5 (A7 x2) rfl)))
theorem h0u {x0:A6}:plainL [.agg (B0 x0)]=true:=(A5 (C6 x0) rfl)
theorem h09 {x0:A6}:plainL [.agg (B0 x0)]=true:=(A5 (C6 x0) rfl)
theorem h0z {x0:A6}:plainL [.agg (B0 x0)]=true:=(A5 (C6 x0) rfl)
theorem h1a {x0:A6}:plainL [.agg (B0 x0)]=true:=(A5 (C6 x0) rfl)
theorem h03 {x0:A6}:plainL [.agg (B0 x0)]=true:=(A5 (C6 x0) rfl)
theorem h0q {x0:A6}:plainL [.agg (B0 x0)]=true:=(A5 (C6 x0) rfl)
theorem h1b {x0:A6}:plainL [.agg (B0 x0)]=true:=(A5 (C6 x0) rfl)
theorem g74 {x0:ByteArray}:plainL [.v (.string x0)]=true:=(A5 rfl rfl)
theorem g27 {x0:Int}:plainL [.v (.int .i64 x0)]=true:=(A5 rfl rfl)
theorem g73 {x0:A0}:plainL [.agg (A4 x0)]=true:=(A5 (A7 x0) rfl)
theorem h0h {x0:Int} {x1:Int}:plainL [.v (.int .i64 x0),.v (.int .u64 x1)]=true:=(A5 rfl (A5 rfl rfl))
theorem h0p {x0:(List b2t)} {x1:GFn}:plainL [.sl (List.map a1z x0) .no,.clo (.func x1.fn) x1.fi x1.cap]=true:=(A5 (psl (L0 x0)) (A5 (Z2 x1) rfl))
theorem g3i {x0:ByteArray}:plainL [.v (.string x0)]=true:=(A5 rfl rfl)
theorem g8v {x0:Int}:plainL [.v (.int .u64 x0)]=true:=(A5 rfl rfl)
theorem g9d {x0:A0}:plainL [.agg (A4 x0)]=true:=(A5 (A7 x0) rfl)
theorem g2w {x0:Int}:plainL [.v (.int .i64 x0)]=true:=(A5 rfl rfl)
theorem g96 {x0:Int}:plainL [.v (.int .u64 x0)]=true:=(A5 rfl rfl)
theorem f75 {x0:A0} {x1:A0}:plainL [.agg (A4 x0),.agg (A4 x1)]=true:=(A5 (A7 x0) (A5 (A7 x1) rfl))
theorem h0t {x0:(List C1)} {x1:GFn}:plainL [.sl (List.map D9 x0) .no,.clo (.func x1.fn) x1.fi x1.cap]=true:=(A5 (psl (H8 x0)) (A5 (Z2 x1) rfl))
theorem f9e {x0:C5} {x1:C1} {x2:A0} {x3:Int}:plainL [.agg (J0 x0),.agg (D9 x1),.agg (A4 x2),.v (.int .i64 x3)]=true:=(A5 (G1 x0) (A5 (E6 x1) (A5 (A7 x2) (A5 rfl rfl))))
theorem g2a {x0:A0}:plainL [.agg (A4 x0)]=true:=(A5 (A7 x0) rfl)
theorem d9t {x0:D4} {x1:GOp} {x2:A0} {r:D4}:(L5 x0).all ok1=true /\ (L5 r).all ok1=true /\ List.all [.ptr 0 0,.agg (U2 x1),.agg (A4 x2)] okA=true /\ plain (g29 r)=true:=⟨a18 _,a18 _,K9 rfl (K9 (C9 (M7 x1)) (K9 (C9 (A7 x2)) rfl)),f3u r⟩
theorem d09 {x0:D4} {x1:ByteArray} {r:D4}:(L5 x0).all ok1=true /\ (L5 r).all ok1=true /\ List.all [.ptr 0 0,.v (.string x1)] okA=true /\ plain (g25 r)=true:=⟨a18 _,a18 _,K9 rfl (K9 (C9 rfl) rfl),f2t r⟩
theorem g6s {x0:(List P6)}:plainL [.sl (List.map I8 x0) .no]=true:=(A5 (psl (G8 x0)) rfl)
theorem g2g {x0:(List (Int × A0))}:plainL [.sl (List.map A9 x0) .no]=true:=(A5 (psl (D8 x0)) rfl)
theorem f1v {x0:C1} {x1:Int}:plainL [.agg (D9 x0),.v (.int .i64 x1)]=true:=(A5 (E6 x0) (A5 rfl rfl))
theorem g51 {x0:A6} {x1:GOp} {x2:A0}:plainL [.agg (B0 x0),.agg (U2 x1),.agg (A4 x2)]=true:=(A5 (C6 x0) (A5 (M7 x1) (A5 (A7 x2) rfl)))
theorem g7q {x0:A0}:plainL [.agg (A4 x0)]=true:=(A5 (A7 x0) rfl)
theorem g2s {x1:GFn}:plainL [.sl [] .no,.clo (.func x1.fn) x1.fi x1.cap]=true:=(A5 rfl (A5 (Z2 x1) rfl))
theorem d7q {x0:Int} {x1:Int}:plainL [.v (.int .i64 x0),.v (.int .i64 x1)]=true:=(A5 rfl (A5 rfl rfl))
theorem f6n {x0:A6} {x1:GOp} {x2:A0}:plainL [.agg (B0 x0),.agg (U2 x1),.agg (A4 x2)]=true:=(A5 (C6 x0) (A5 (M7 x1) (A5 (A7 x2) rfl)))
theorem g60 {x0:(List (A0 × A0))}:plainL [.sl (List.map A8 x0) .no]=true:=(A5 (psl (D3 x0)) rfl)
theorem g7a {x0:A0}:plainL [.agg (A4 x0)]=true:=(A5 (A7 x0) rfl)
theorem f13 {x0:A0}:plainL [.agg (A4 x0)]=true:=(A5 (A7 x0) rfl)
theorem g6f {x0:C1} {x1:(List (Int × A0))} {x2:Int}:plainL [.agg (D9 x0),.sl (List.map A9 x1) .no,.v (.int .i64 x2)]=true:=(A5 (E6 x0) (A5 (psl (D8 x1)) (A5 rfl rfl)))
theorem f1k {x0:C1} {x1:Int}:plainL [.agg (D9 x0),.v (.int .i64 x1)]=true:=(A5 (E6 x0) (A5 rfl rfl))
theorem g4b {x0:A6} {x1:GOp} {x2:A0} {x3:Int}:plainL [.agg (B0 x0),.agg (U2 x1),.agg (A4 x2),.v (.int .i64 x3)]=true:=(A5 (C6 x0) (A5 (M7 x1) (A5 (A7 x2) (A5 rfl rfl))))
theorem g7s {x0:A0} {x1:Int}:plainL [.agg (A4 x0),.v (.int .i64 x1)]=true:=(A5 (A7 x0) (A5 rfl rfl))
theorem g7c {x0:A6} {x1:C1} {x2:P6}:plainL [.agg (B0 x0),.agg (D9 x1),.agg (I8 x2)]=true:=(A5 (C6 x0) (A5 (E6 x1) (A5 (O7 x2) rfl)))
theorem g57 {x0:A0} {x1:Int}:plainL [.agg (A4 x0),.v (.int .i64 x1)]=true:=(A5 (A7 x0) (A5 rfl rfl))
theorem f06 {x0:A6} {x1:GOp} {x2:A0}:plainL [.agg (B0 x0),.agg (U2 x1),.agg (A4 x2)]=true:=(A5 (C6 x0) (A5 (M7 x1) (A5 (A7 x2) rfl)))
theorem f83 {x0:ByteArray}:plainL [.v (.string x0)]=true:=(A5 rfl rfl)
theorem f9y {x0:ByteArray}:plainL [.v (.string x0)]=true:=(A5 rfl rfl)
theorem g6d {x0:(List b8o)} {x1:Int}:plainL [.sl (List.map b0k x0) .no,.v (.int .i64 x1)]=true:=(A5 (psl (N4 x0)) (A5 rfl rfl))
theorem g43 {x0:(List b1k)} {x1:Int}:plainL [.sl (List.map a6o x0) .no,.v (.int .i64 x1)]=true:=(A5 (psl (L3 x0)) (A5 rfl rfl))
theorem g5i {x0:C1}:plainL [.agg (D9 x0)]=true:=(A5 (E6 x0) rfl)
theorem g7k {x0:A6} {x1:GOp}:plainL [.agg (B0 x0),.agg (U2 x1)]=true:=(A5 (C6 x0) (A5 (M7 x1) rfl))
theorem g3o {x0:ByteArray}:plainL [.v (.string x0)]=true:=(A5 rfl rfl)
theorem g1c {x0:Int}:plainL [.v (.int .i64 x0)]=true:=(A5 rfl rfl)
theorem g64 {x0:(List b2t)} {x1:GFn}:plainL [.sl (List.map a1z x0) .no,.clo (.func x1.fn) x1.fi x1.cap]=true:=(A5 (psl (L0 x0)) (A5 (Z2 x1) rfl))
theorem g6q {x0:ByteArray}:plainL [.v (.string x0)]=true:=(A5 rfl rfl)
theorem d3q {x0:Int} {x1:Int}:plainL [.v (.int .i64 x0),.v (.int .i64 x1)]=true:=(A5 rfl (A5 rfl rfl))
theorem g6c {x0:(List A0)} {x1:(List A0)}:plainL [.sl (List.map B9 x0) .no,.sl (List.map B9 x1) .no]=true:=(A5 (psl (E0 x0)) (A5 (psl (E0 x1)) rfl))
theorem g5j {x0:(List (A0 × A0))} {x1:(List (A0 × A0))}:plainL [.sl (List.map A8 x0) .no,.sl (List.map A8 x1) .no]=true:=(A5 (psl (D3 x0)) (A5 (psl (D3 x1)) rfl))
theorem g7r {x0:(List (Int × A0))} {x1:(List (Int × A0))}:plainL [.sl (List.map A9 x0) .no,.sl (List.map A9 x1) .no]=true:=(A5 (psl (D8 x0)) (A5 (psl (D8 x1)) rfl))
theorem g5y {x0:(List P6)} {x1:(List P6)}:plainL [.sl (List.map I8 x0) .no,.sl (List.map I8 x1) .no]=true:=(A5 (psl (G8 x0)) (A5 (psl (G8 x1)) rfl))
theorem g41 {x0:A0} {x1:A0}:plainL [.agg (A4 x0),.agg (A4 x1)]=true:=(A5 (A7 x0) (A5 (A7 x1) rfl))
theorem f1r {x0:A0}:plainL [.agg (A4 x0)]=true:=(A5 (A7 x0) rfl)
theorem g5q {x0:C5} {x1:C1} {x2:(List (Int × A0))} {x3:Int} {x4:Int}:plainL [.agg (J0 x0),.agg (D9 x1),.sl (List.map A9 x2) .no,.v (.int .i64 x3),.v (.int .i64 x4)]=true:=(A5 (G1 x0) (A5 (E6 x1) (A5 (psl (D8 x2)) (A5 rfl (A5 rfl rfl)))))
theorem f8q {x0:(List (Int × A0))} {x1:GFn}:plainL [.sl (List.map A9 x0) .no,.clo (.func x1.fn) x1.fi x1.cap]=true:=(A5 (psl (D8 x0)) (A5 (Z2 x1) rfl))
theorem g3z {x0:C5} {x1:C1} {x2:P6}:plainL [.agg (J0 x0),.agg (D9 x1),.agg (I8 x2)]=true:=(A5 (G1 x0) (A5 (E6 x1) (A5 (O7 x2) rfl)))
theorem g5d {x0:A0}:plainL [.agg (A4 x0)]=true:=(A5 (A7 x0) rfl)
theorem g5c {x0:(List (Int × A0))}:plainL [.sl (List.map A9 x0) .no]=true:=(A5 (psl (D8 x0)) rfl)
theorem f8r {x1:GFn}:List.all [.clo (.func x1.fn) x1.fi x1.cap] okA=true:=(K9 (C9 (Z2 x1)) rfl)
theorem g2c {x1:GFn}:plainL [.sl [] .no,.clo (.func x1.fn) x1.fi x1.cap]=true:=(A5 rfl (A5 (Z2 x1) rfl))
theorem g7u {x0:b2u} {x1:C1}:plainL [.agg (b14 x0),.agg (D9 x1)]=true:=(A5 (a00 x0) (A5 (E6 x1) rfl))
theorem f4s {x0:A6} {x1:GOp} {x2:A0}:plainL [.agg (B0 x0),.agg (U2 x1),.agg (A4 x2)]=true:=(A5 (C6 x0) (A5 (M7 x1) (A5 (A7 x2) rfl)))
theorem g44 {x0:(List (A0 × A0))}:plainL [.sl (List.map A8 x0) .no]=true:=(A5 (psl (D3 x0)) rfl)
theorem g6r {x0:A0}:plainL [.agg (A4 x0)]=true:=(A5 (A7 x0) rfl)
theorem f9i {x0:Int}:plainL [.v (.int .i64 x0)]=true:=(A5 rfl rfl)
theorem e4o {x0:A0} {x1:A0}:plainL [.agg (A4 x0),.agg (A4 x1)]=true:=(A5 (A7 x0) (A5 (A7 x1) rfl))
theorem g5k {x0:A6} {x1:GOp} {x2:(List (A0 × A0))} {x3:Int}:plainL [.agg (B0 x0),.agg (U2 x1),.sl (List.map A8 x2) .no,.v (.int .i64 x3)]=true:=(A5 (C6 x0) (A5 (M7 x1) (A5 (psl (D3 x2)) (A5 rfl rfl))))
theorem f5n {x0:A6} {x1:GOp} {x2:A0} {x3:Int}:plainL [.agg (B0 x0),.agg (U2 x1),.agg (A4 x2),.v (.int .i64 x3)]=true:=(A5 (C6 x0) (A5 (M7 x1) (A5 (A7 x2) (A5 rfl rfl))))
theorem g66 {x0:ByteArray}:plainL [.v (.string x0)]=true:=(A5 rfl rfl)
theorem g35 {x0:ByteArray}:plainL [.v (.string x0)]=true:=(A5 rfl rfl)
theorem f9d {x0:ByteArray}:plainL [.v (.string x0)]=true:=(A5 rfl rfl)
theorem f45 {x0:ByteArray}:plainL [.v (.string x0)]=true:=(A5 rfl rfl)
theorem f9o {x0:ByteArray}:plainL [.v (.string x0)]=true:=(A5 rfl rfl)
theorem g6p {x0:ByteArray} {x1:Int}:plainL [.v (.string x0),.v (.int .i64 x1)]=true:=(A5 rfl (A5 rfl rfl))
theorem g6x {x0:b1k}:plainL [.agg (a6o x0)]=true:=(A5 (O3 x0) rfl)
theorem g7m {x0:A6} {x1:GOp}:plainL [.agg (B0 x0),.agg (U2 x1)]=true:=(A5 (C6 x0) (A5 (M7 x1) rfl))
theorem g5p {x0:ByteArray} {x1:Int} {x2:Int}:plainL [.v (.string x0),.v (.int .i64 x1),.v (.int .i32 x2)]=true:=(A5 rfl (A5 rfl (A5 rfl rfl)))
theorem g7t {x0:ByteArray} {x1:Int}:plainL [.v (.string x0),.v (.int .i64 x1)]=true:=(A5 rfl (A5 rfl rfl))
theorem g7w {x0:P6} {x1:P6}:plainL [.agg (I8 x0),.agg (I8 x1)]=true:=(A5 (O7 x0) (A5 (O7 x1) rfl))
theorem f03 {x0:A0}:plainL [.agg (A4 x0)]=true:=(A5 (A7 x0) rfl)
theorem g7l {x0:C5} {x1:GOp} {x2:A0} {x3:Int}:plainL [.agg (J0 x0),.agg (U2 x1),.agg (A4 x2),.v (.int .i64 x3)]=true:=(A5 (G1 x0) (A5 (M7 x1) (A5 (A7 x2) (A5 rfl rfl))))
theorem g5r {x0:(List (Int × A0))} {x1:GFn}:plainL [.sl (List.map A9 x0) .no,.clo (.func x1.fn) x1.fi x1.cap]=true:=(A5 (psl (D8 x0)) (A5 (Z2 x1) rfl))
theorem f8y {x1:Int} {x2:GFn}:List.all [.v (.int .i64 x1),.clo (.func x2.fn) x2.fi x2.cap] okA=true:=(K9 (C9 rfl) (K9 (C9 (Z2 x2)) rfl))
theorem g4p {x0:(List GOp)} {x1:GFn}:plainL [.sl (List.map U2 x0) .no,.clo (.func x1.fn) x1.fi x1.cap]=true:=(A5 (psl (T4 x0)) (A5 (Z2 x1) rfl))
theorem g5x {x0:(List (A0 × A0))}:plainL [.sl (List.map A8 x0) .no]=true:=(A5 (psl (D3 x0)) rfl)
theorem g03 {x1:GFn}:List.all [.clo (.func x1.fn) x1.fi x1.cap] okA=true:=(K9 (C9 (Z2 x1)) rfl)
theorem g2h {x1:GFn}:plainL [.sl [] .no,.clo (.func x1.fn) x1.fi x1.cap]=true:=(A5 rfl (A5 (Z2 x1) rfl))
theorem f58 {x0:A0} {x1:A0}:plainL [.agg (A4 x0),.agg (A4 x1)]=true:=(A5 (A7 x0) (A5 (A7 x1) rfl))
theorem f9k {x0:A0}:plainL [.agg (A4 x0)]=true:=(A5 (A7 x0) rfl)
theorem g4s {x0:A0} {x1:A0}:plainL [.agg (A4 x0),.agg (A4 x1)]=true:=(A5 (A7 x0) (A5 (A7 x1) rfl))
theorem g4g {x0:(List A0)} {x1:(List A0)} {x2:GFn}:plainL [.sl (List.map B9 x0) .no,.sl (List.map B9 x1) .no,.clo (.func x2.fn) x2.fi x2.cap]=true:=(A5 (psl (E0 x0)) (A5 (psl (E0 x1)) (A5 (Z2 x2) rfl)))
theorem g6a {x0:(List (A0 × A0))} {x1:(List (A0 × A0))} {x2:GFn}:plainL [.sl (List.map A8 x0) .no,.sl (List.map A8 x1) .no,.clo (.func x2.fn) x2.fi x2.cap]=true:=(A5 (psl (D3 x0)) (A5 (psl (D3 x1)) (A5 (Z2 x2) rfl)))
theorem f1q {x0:(List Int)}:plainL [.sl (List.map a7o x0) .no]=true:=(A5 (psl (F7 x0)) rfl)
theorem g3t {x0:(List (Int × A0))} {x1:(List (Int × A0))} {x2:GFn}:plainL [.sl (List.map A9 x0) .no,.sl (List.map A9 x1) .no,.clo (.func x2.fn) x2.fi x2.cap]=true:=(A5 (psl (D8 x0)) (A5 (psl (D8 x1)) (A5 (Z2 x2) rfl)))
theorem g4h {x0:(List P6)} {x1:(List P6)} {x2:GFn}:plainL [.sl (List.map I8 x0) .no,.sl (List.map I8 x1) .no,.clo (.func x2.fn) x2.fi x2.cap]=true:=(A5 (psl (G8 x0)) (A5 (psl (G8 x1)) (A5 (Z2 x2) rfl)))
theorem g1g {x0:A6} {x1:Int} {x2:Int} {x3:A0}:plainL [.agg (B0 x0),.v (.int .i64 x1),.v (.int .i64 x2),.agg (A4 x3)]=true:=(A5 (C6 x0) (A5 rfl (A5 rfl (A5 (A7 x3) rfl))))
theorem g0h {x0:Int}:plainL [.v (.int .u8 x0)]=true:=(A5 rfl rfl)
theorem g0e {x0:Int}:plainL [.v (.int .u8 x0)]=true:=(A5 rfl rfl)
theorem g5w {x0:ByteArray} {x1:ByteArray}:plainL [.v (.string x0),.v (.string x1)]=true:=(A5 rfl (A5 rfl rfl))
theorem d6a {x0:ByteArray} {x1:Int} {x2:Int}:plainL [.v (.string x0),.v (.int .i64 x1),.v (.int .i64 x2)]=true:=(A5 rfl (A5 rfl (A5 rfl rfl)))
theorem e2o {x0:ByteArray} {x1:Int} {x2:Int} {x3:Int}:plainL [.v (.string x0),.v (.int .i64 x1),.v (.int .u8 x2),.v (.int .u8 x3)]=true:=(A5 rfl (A5 rfl (A5 rfl (A5 rfl rfl))))
theorem g4u {x0:Int}:plainL [.v (.int .i64 x0)]=true:=(A5 rfl rfl)
theorem f7y {x0:C5} {x1:GOp} {x2:A0} {x3:Int}:plainL [.agg (J0 x0),.agg (U2 x1),.agg (A4 x2),.v (.int .i64 x3)]=true:=(A5 (G1 x0) (A5 (M7 x1) (A5 (A7 x2) (A5 rfl rfl))))
theorem g4y {x0:C5} {x1:GOp} {x2:(List (A0 × A0))} {x3:Int}:plainL [.agg (J0 x0),.agg (U2 x1),.sl (List.map A8 x2) .no,.v (.int .i64 x3)]=true:=(A5 (G1 x0) (A5 (M7 x1) (A5 (psl (D3 x2)) (A5 rfl rfl))))
theorem f4a {x1:Int} {x2:Int} {x3:GFn}:List.all [.v (.int .i64 x1),.v (.int .i64 x2),.clo (.func x3.fn) x3.fi x3.cap] okA=true:=(K9 (C9 rfl) (K9 (C9 rfl) (K9 (C9 (Z2 x3)) rfl)))
theorem d9f {x1:Int} {x2:Int} {x3:Int} {x4:GFn}:List.all [.v (.int .i64 x1),.v (.int .i64 x2),.v (.int .i64 x3),.clo (.func x4.fn) x4.fi x4.cap] okA=true:=(K9 (C9 rfl) (K9 (C9 rfl) (K9 (C9 rfl) (K9 (C9 (Z2 x4)) rfl))))
theorem f9a {x1:Int} {x2:GFn}:List.all [.v (.int .i64 x1),.clo (.func x2.fn) x2.fi x2.cap] okA=true:=(K9 (C9 rfl) (K9 (C9 (Z2 x2)) rfl))
theorem g2r {x0:ByteArray} {x1:ByteArray}:plainL [.v (.string x0),.v (.string x1)]=true:=(A5 rfl (A5 rfl rfl))
theorem f77 {x0:Int} {x1:Int}:plainL [.v (.int .u64 x0),.v (.int .u64 x1)]=true:=(A5 rfl (A5 rfl rfl))
theorem g1o {x0:Int}:plainL [.v (.int .u64 x0)]=true:=(A5 rfl rfl)
theorem g4i {x0:ByteArray} {x1:ByteArray}:plainL [.v (.string x0),.v (.string x1)]=true:=(A5 rfl (A5 rfl rfl))
theorem f95 {x0:C5} {x1:Int} {x2:Int} {x3:A0}:plainL [.agg (J0 x0),.v (.int .i64 x1),.v (.int .i64 x2),.agg (A4 x3)]=true:=(A5 (G1 x0) (A5 rfl (A5 rfl (A5 (A7 x3) rfl))))
theorem g5m {x0:(List (A0 × A0))} {x1:GFn}:plainL [.sl (List.map A8 x0) .no,.clo (.func x1.fn) x1.fi x1.cap]=true:=(A5 (psl (D3 x0)) (A5 (Z2 x1) rfl))
theorem g1w {x1:Int} {x2:Int} {x3:Int} {x4:GFn}:List.all [.v (.int .i64 x1),.v (.int .i64 x2),.v (.int .i64 x3),.clo (.func x4.fn) x4.fi x4.cap] okA=true:=(K9 (C9 rfl) (K9 (C9 rfl) (K9 (C9 rfl) (K9 (C9 (Z2 x4)) rfl))))
theorem f3h {x1:Int} {x2:Int} {x3:GFn}:List.all [.v (.int .i64 x1),.v (.int .i64 x2),.clo (.func x3.fn) x3.fi x3.cap] okA=true:=(K9 (C9 rfl) (K9 (C9 rfl) (K9 (C9 (Z2 x3)) rfl)))
theorem d77 {x1:Int} {x2:Int} {x3:Int} {x4:GFn}:List.all [.v (.int .i64 x1),.v (.int .i64 x2),.v (.int .i64 x3),.clo (.func x4.fn) x4.fi x4.cap] okA=true:=(K9 (C9 rfl) (K9 (C9 rfl) (K9 (C9 rfl) (K9 (C9 (Z2 x4)) rfl))))
theorem g2f {x0:ByteArray}:plainL [.v (.string x0)]=true:=(A5 rfl rfl)
theorem f8x {x0:Int}:plainL [.v (.int .u64 x0)]=true:=(A5 rfl rfl)
theorem g62 {x0:(List (A0 × A0))} {x1:GFn}:plainL [.sl (List.map A8 x0) .no,.clo (.func x1.fn) x1.fi x1.cap]=true:=(A5 (psl (D3 x0)) (A5 (Z2 x1) rfl))
theorem e8a {x1:Int} {x2:Int} {x3:Int} {x4:GFn}:List.all [.v (.int .i64 x1),.v (.int .i64 x2),.v (.int .i64 x3),.clo (.func x4.fn) x4.fi x4.cap] okA=true:=(K9 (C9 rfl) (K9 (C9 rfl) (K9 (C9 rfl) (K9 (C9 (Z2 x4)) rfl))))
theorem g1d {x1:Int} {x2:Int} {x3:Int} {x4:GFn}:List.all [.v (.int .i64 x1),.v (.int .i64 x2),.v (.int .i64 x3),.clo (.func x4.fn) x4.fi x4.cap] okA=true:=(K9 (C9 rfl) (K9 (C9 rfl) (K9 (C9 rfl) (K9 (C9 (Z2 x4)) rfl))))
theorem e5b {x1:Int} {x2:Int} {x3:Int} {x4:GFn}:List.all [.v (.int .i64 x1),.v (.int .i64 x2),.v (.int .i64 x3),.clo (.func x4.fn) x4.fi x4.cap] okA=true:=(K9 (C9 rfl) (K9 (C9 rfl) (K9 (C9 rfl) (K9 (C9 (Z2 x4)) rfl))))
end Go.Proofs.YtidmmngcijapcaaGreat.Lift
