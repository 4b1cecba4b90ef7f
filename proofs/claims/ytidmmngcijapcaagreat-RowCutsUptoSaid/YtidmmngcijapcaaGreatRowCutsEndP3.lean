/- Part 4 of the texts that prove RowCutsEnd. -/
import Derived.Test.YtidmmngcijapcaaGreatRowCutsEndP2
import Derived.Test.YtidmmngcijapcaaGreatRowCutsEndP1
import Derived.OpenShut
import Derived.ProofKit
namespace Go.Proofs.YtidmmngcijapcaaGreat.Lift
open Go.RowKit
set_option linter.unusedVariables false
set_option linter.unusedSimpArgs false
set_option linter.unnecessarySimpa false
set_option linter.unusedSectionVars false
set_option maxRecDepth 100000
section
variable {α:Type} {C:α ->α ->Int ->Prop} {cm:α ->α ->Int} {Dm:α ->Prop}
theorem f63 (hp:Pre cm Dm) {A1 A2 B1 B2:List (α × Nat)} (hD:∀x∈(A1++A2)++(B1++B2),Dm x.1) (hA:Srt cm (A1++A2)) (hB:Srt cm (B1++B2))
  (f1:A1=[]\/B2=[]\/∃U x y V,A1=U++[x] /\ B2=y::V /\ Rt cm x y) (f2:B1=[]\/A2=[]\/∃U x y V,B1=U++[x] /\ A2=y::V /\ Rt cm x y):∀x∈A1++B1,∀y∈A2++B2,Rt cm x y:=by
 have key:∀{P Q:List (α × Nat)},(∀x∈P,Dm x.1) ->(∀x∈Q,Dm x.1) ->Srt cm P ->Srt cm Q ->(P=[]\/Q=[]\/∃U x y V,P=U++[x] /\ Q=y::V /\ Rt cm x y) ->∀x∈P,∀y∈Q,Rt cm x y:=by
  intro P Q dP dQ hP hQ f x hx y hy
  rcases f with f|f|⟨U,u,v,V,rfl,rfl,huv⟩
  ·rw [f] at hx; cases hx
  ·rw [f] at hy; cases hy
  ·have h1:x=u\/Rt cm x u:=by
    rcases List.mem_append.1 hx with h|h
    ·exact .inr ((List.pairwise_append.1 hP).2.2 x h u (by simp))
    ·simp at h; exact .inl h
   have h2:y=v\/Rt cm v y:=by
    rcases List.mem_cons.1 hy with h|h
    ·exact .inl h
    ·exact .inr ((List.pairwise_cons.1 hQ).1 y h)
   have du:=dP u (by simp)
   have dv:=dQ v (by simp)
   have h3:Rt cm x v:=by
    rcases h1 with h|h
    ·rw [h]; exact huv
    ·exact Rt.trans hp (dP x hx) du dv h huv
   rcases h2 with h|h
   ·rw [h]; exact h3
   ·exact Rt.trans hp (dP x hx) dv (dQ y hy) h3 h
 obtain ⟨a1,a2,a3⟩:=List.pairwise_append.1 hA
 obtain ⟨b1,b2,b3⟩:=List.pairwise_append.1 hB
 intro x hx y hy
 rcases List.mem_append.1 hx with hx|hx<;>rcases List.mem_append.1 hy with hy|hy
 ·exact a3 x hx y hy
 ·exact key (fun z hz=>hD z (by simp [hz])) (fun z hz=>hD z (by simp [hz])) a1 b2 f1 x hx y hy
 ·exact key (fun z hz=>hD z (by simp [hz])) (fun z hz=>hD z (by simp [hz])) b1 a2 f2 x hx y hy
 ·exact b3 x hx y hy
theorem b1r {n0:Nat} {l:List (α × Nat)} (h:l.length=n0) (h0:0<n0):fs l≠[]:=by
 intro h'
 have:=congrArg List.length h'
 simp only [fs,List.length_map,List.length_nil] at this
 omega
variable (F:d1k α C) (hp:Pre cm Dm) (hC:∀x y,Dm x ->Dm y ->C x y (cm x y))
 include hp hC
def d2x (F:d1k α C) (cm:α ->α ->Int) (Dm:α ->Prop) (n0 k:Nat):Prop:=∀(X A B Y:List (α × Nat)),A.length+B.length<=k ->A≠[] ->B≠[] ->n0=X.length+A.length+B.length+Y.length ->(∀x∈A++B,Dm x.1) ->Srt cm A ->Srt cm B ->(∀x∈A,∀y∈B,x.2<y.2) ->
 ∃S,Srt cm S /\ S.Perm (A++B) /\ F.sy n0 (fs (X++A++B++Y)) (X.length:Nat) ((X.length+A.length:Nat):Int) ((X.length+A.length+B.length:Nat):Int) (fs (X++S++Y))
theorem f1u {n0:Nat} (hn:n0<=1125899906842624) (k:Nat) (ih:d2x F cm Dm n0 k) (X A1 A2 B1 B2 Y:List (α × Nat)) (a b m mid s:Nat) (ha:a=X.length) (hm:m=a+A1.length+A2.length) (hb:b=m+B1.length+B2.length) (hmid:mid=(a+b) / 2) (hs:s=a+A1.length) (hcut:A1.length+B1.length=mid - a) (h0:n0=b+Y.length) (hpos:a<mid /\ mid<b)
  (hk:b - a<=k+1) (hD:∀x∈(A1++A2)++(B1++B2),Dm x.1) (hA:Srt cm (A1++A2)) (hB:Srt cm (B1++B2)) (ht:∀x∈A1++A2,∀y∈B1++B2,x.2<y.2) (hall:∀x∈A1++B1,∀y∈A2++B2,Rt cm x y):
  ∃S,Srt cm S /\ S.Perm ((A1++A2)++(B1++B2)) /\ F.sy40 a b m s n0 (fs (X++A1++B1++A2++B2++Y)) (fs (X++S++Y)):=by
 have hmI:hI (a:Int) (b:Int)=(mid:Int):=by rw [c87 (by omega) (by omega),hmid]
 have e1:wI (wI ((mid:Int)+m) - s)=((mid+A2.length:Nat):Int):=by
  have:wI ((mid:Int)+m)=(mid:Int)+m:=by rw [wI,D5 (by omega)]
  rw [this,wI,D5 (by omega)]; omega
 obtain ⟨a1,a2,a3⟩:=List.pairwise_append.1 hA
 obtain ⟨b1,b2,b3⟩:=List.pairwise_append.1 hB
 -- the part c3o
 have first:∃S1,Srt cm S1 /\ S1.Perm (A1++B1) /\ ∀r,F.sy42 a b m s n0 (fs (X++S1++A2++B2++Y)) r ->F.sy40 a b m s n0 (fs (X++A1++B1++A2++B2++Y)) r:=by
  by_cases hc:A1≠[] /\ B1≠[]
  ·have c1:=List.length_pos_iff.2 hc.1
   have c2:=List.length_pos_iff.2 hc.2
   obtain ⟨S1,q1,q2,q3⟩:=ih X A1 B1 (A2++B2++Y) (by omega) hc.1 hc.2 (by simp; omega) (fun x hx=>hD x (by simp at hx ⊢; grind)) a1 b1 (fun x hx y hy=>ht x (by simp [hx]) y (by simp [hy]))
   have hl:S1.length=A1.length+B1.length:=by rw [q2.length_eq]; simp
   refine ⟨S1,q1,q2,fun r hr=>F.h_sy40 _ _ _ _ _ _ _ ⟨fun _=> ?_,fun h=> ?_⟩⟩
   ·rw [hmI]
    refine ⟨fs (X++S1++A2++B2++Y), ?_,⟨b1r (n0:=n0) (by simp; omega) (by omega),b1r (n0:=n0) (by simp; omega) (by omega)⟩,hr⟩
    have g1:((X.length+A1.length:Nat):Int)=(s:Int):=by omega
    have g2:((X.length+A1.length+B1.length:Nat):Int)=(mid:Int):=by omega
    rw [g1,g2,<-ha] at q3
    simpa using q3
   ·rw [hmI] at h
    simp only [Bool.and_eq_false_iff,decide_eq_false_iff_not] at h
    omega
  ·refine ⟨A1++B1, ?_,.refl _,fun r hr=>F.h_sy40 _ _ _ _ _ _ _ ⟨fun h=> ?_,fun _=>by simpa using hr⟩⟩
   ·rcases Classical.em (A1=[]) with h|h
    ·rw [h]; simpa using b1
    ·have:B1=[]:=Classical.byContradiction fun h2=>hc ⟨h,h2⟩
     rw [this]; simpa using a1
   ·rw [hmI] at h
    simp only [Bool.and_eq_true,decide_eq_true_eq] at h
    exact absurd ⟨fun h1=>by rw [h1] at hs; simp at hs; omega,fun h1=>by rw [h1] at hcut; simp at hcut; omega⟩ hc
 obtain ⟨S1,p1,p2,p3⟩:=first
 have hl1:S1.length=A1.length+B1.length:=by rw [p2.length_eq]; simp
 have second:∃S2,Srt cm S2 /\ S2.Perm (A2++B2) /\ F.sy42 a b m s n0 (fs (X++S1++A2++B2++Y)) (fs (X++S1++S2++Y)):=by
  by_cases hc:A2≠[] /\ B2≠[]
  ·have c1:=List.length_pos_iff.2 hc.1
   have c2:=List.length_pos_iff.2 hc.2
   obtain ⟨S2,q1,q2,q3⟩:=ih (X++S1) A2 B2 Y (by omega) hc.1 hc.2 (by simp; omega) (fun x hx=>hD x (by simp at hx ⊢; grind)) a2 b2 (fun x hx y hy=>ht x (by simp [hx]) y (by simp [hy]))
   have hl:S2.length=A2.length+B2.length:=by rw [q2.length_eq]; simp
   refine ⟨S2,q1,q2,F.h_sy42 _ _ _ _ _ _ _ ⟨fun _=> ?_,fun h=> ?_⟩⟩
   ·rw [hmI,e1]
    refine ⟨fs (X++S1++S2++Y), ?_,⟨b1r (n0:=n0) (by simp; omega) (by omega),b1r (n0:=n0) (by simp; omega) (by omega)⟩,b1r (n0:=n0) (by simp; omega) (by omega),rfl⟩
    have g0:(((X++S1).length:Nat):Int)=(mid:Int):=by simp; omega
    have g1:(((X++S1).length+A2.length:Nat):Int)=((mid+A2.length:Nat):Int):=by simp; omega
    have g2:(((X++S1).length+A2.length+B2.length:Nat):Int)=(b:Int):=by simp; omega
    rw [g0,g1,g2] at q3
    simpa using q3
   ·rw [hmI,e1] at h
    simp only [Bool.and_eq_false_iff,decide_eq_false_iff_not] at h
    omega
  ·refine ⟨A2++B2, ?_,.refl _,F.h_sy42 _ _ _ _ _ _ _ ⟨fun h=> ?_,fun _=>⟨b1r (n0:=n0) (by simp; omega) (by omega),by simp⟩⟩⟩
   ·rcases Classical.em (A2=[]) with h|h
    ·rw [h]; simpa using b2
    ·have:B2=[]:=Classical.byContradiction fun h2=>hc ⟨h,h2⟩
     rw [this]; simpa using a2
   ·rw [hmI,e1] at h
    simp only [Bool.and_eq_true,decide_eq_true_eq] at h
    exact absurd ⟨fun h1=>by rw [h1] at h; simp at h,fun h1=>by rw [h1] at hb; simp at hb; omega⟩ hc
 obtain ⟨S2,r1,r2,r3⟩:=second
 refine ⟨S1++S2,List.pairwise_append.2 ⟨p1,r1,fun x hx y hy=>hall x (p2.mem_iff.1 hx) y (r2.mem_iff.1 hy)⟩, ?_, ?_⟩
 ·refine (p2.append r2).trans ?_
  have:(A1++B1++(A2++B2)).Perm (A1++A2++(B1++B2)):=by
   simp only [List.append_assoc]
   refine List.Perm.append_left A1 ?_
   rw [<-List.append_assoc,<-List.append_assoc]
   exact List.Perm.append_right B2 List.perm_append_comm
  exact this
 ·have:=p3 _ r3
  simpa using this
end
section
variable {α:Type} {C:α ->α ->Int ->Prop} {cm:α ->α ->Int} {Dm:α ->Prop}
theorem b0v {l:List α} {k:Nat} (h:k<l.length):∃x,l[k]? =some x /\ l.take (k+1)=l.take k++[x] /\ l.drop k=x::l.drop (k+1):=by
 refine ⟨l[k],List.getElem?_eq_getElem h, ?_,List.drop_eq_getElem_cons h⟩
 rw [List.take_add_one,List.getElem?_eq_getElem h]; rfl
theorem g3f (hp:Pre cm Dm) (X A B Y:List (α × Nat)) (a b m mid lo hi:Nat) (ha:a=X.length) (hm:m=a+A.length) (hb:b=m+B.length) (hmid:mid=(a+b) / 2) (hlh:(m<=mid /\ lo=a /\ hi=m)\/(mid<m /\ lo=mid+m - b /\ hi=mid))
  (hD:∀x∈A++B,Dm x.1) (hA:Srt cm A) (hB:Srt cm B) (s:Nat) (h2:lo<=s) (h4:s<=hi) (h5:s=lo\/∀x y,A[s - 1 - a]? =some x ->B[mid - s]? =some y ->Rt cm x y) (h6:s=hi\/∀x y,A[s - a]? =some x ->B[mid - 1 - s]? =some y ->Rt cm y x):
  ∀x∈A.take (s - a)++B.take (mid - s),∀y∈A.drop (s - a)++B.drop (mid - s),Rt cm x y:=by
 have hAs:A.take (s - a)++A.drop (s - a)=A:=List.take_append_drop _ _
 have hBs:B.take (mid - s)++B.drop (mid - s)=B:=List.take_append_drop _ _
 have l1:(A.take (s - a)).length=s - a:=by simp; omega
 have l2:(A.drop (s - a)).length=m - s:=by simp; omega
 have l3:(B.take (mid - s)).length=mid - s:=by simp; omega
 have l4:(B.drop (mid - s)).length=b - m - (mid - s):=by simp; omega
 have f1:A.take (s - a)=[]\/B.drop (mid - s)=[]\/∃U x y V,A.take (s - a)=U++[x] /\ B.drop (mid - s)=y::V /\ Rt cm x y:=by
  rcases h5 with h5|h5
  ·rcases hlh with ⟨g1,g2,g3⟩|⟨g1,g2,g3⟩
   ·left; rw [h5,g2,Nat.sub_self]; rfl
   ·right; left; exact List.drop_eq_nil_of_le (by omega)
  ·by_cases hs:s=a
   ·left; rw [hs,Nat.sub_self]; rfl
   by_cases hb2:mid - s<B.length
   ·obtain ⟨x,q1,q2,_⟩:=b0v (l:=A) (k:=s - 1 - a) (by omega)
    obtain ⟨y,r1,_,r3⟩:=b0v (l:=B) (k:=mid - s) hb2
    right; right
    exact ⟨_,x,y,_,by rw [<-q2]; congr 1; omega,r3,h5 x y q1 r1⟩
   ·right; left; exact List.drop_eq_nil_of_le (by omega)
 have f2:B.take (mid - s)=[]\/A.drop (s - a)=[]\/∃U x y V,B.take (mid - s)=U++[x] /\ A.drop (s - a)=y::V /\ Rt cm x y:=by
  rcases h6 with h6|h6
  ·rcases hlh with ⟨g1,g2,g3⟩|⟨g1,g2,g3⟩
   ·right; left; exact List.drop_eq_nil_of_le (by omega)
   ·left; rw [h6,g3,Nat.sub_self]; rfl
  ·by_cases hs:mid=s
   ·left; rw [hs,Nat.sub_self]; rfl
   by_cases ha2:s - a<A.length
   ·obtain ⟨x,q1,_,q3⟩:=b0v (l:=A) (k:=s - a) ha2
    obtain ⟨y,r1,r2,_⟩:=b0v (l:=B) (k:=mid - 1 - s) (by omega)
    right; right
    exact ⟨_,y,x,_,by rw [<-r2]; congr 1; omega,q3,h6 x y q1 r1⟩
   ·right; left; exact List.drop_eq_nil_of_le (by omega)
 exact f63 hp (A1:=A.take (s - a)) (A2:=A.drop (s - a)) (B1:=B.take (mid - s)) (B2:=B.drop (mid - s)) (by rw [hAs,hBs]; exact hD) (by rw [hAs]; exact hA) (by rw [hBs]; exact hB) f1 f2
variable (F:d1k α C) (hp:Pre cm Dm) (hC:∀x y,Dm x ->Dm y ->C x y (cm x y))
 include hp hC
theorem e88 {n0:Nat} (hn:n0<=1125899906842624) (k:Nat) (ih:d2x F cm Dm n0 k) (X A B Y:List (α × Nat)) (a b m mid lo hi:Nat) (ha:a=X.length) (hm:m=a+A.length) (hb:b=m+B.length) (hmid:mid=(a+b) / 2) (hlh:(m<=mid /\ lo=a /\ hi=m)\/(mid<m /\ lo=mid+m - b /\ hi=mid))
  (hD:∀x∈A++B,Dm x.1) (hA:Srt cm A) (hB:Srt cm B) (h0:n0=b+Y.length) (hA0:A≠[]) (hB0:B≠[]) (hk:b - a<=k+1) (ht:∀x∈A,∀y∈B,x.2<y.2) (s:Nat) (h2:lo<=s) (h4:s<=hi) (h5:s=lo\/∀x y,A[s - 1 - a]? =some x ->B[mid - s]? =some y ->Rt cm x y) (h6:s=hi\/∀x y,A[s - a]? =some x ->B[mid - 1 - s]? =some y ->Rt cm y x):
  ∃S,Srt cm S /\ S.Perm (A++B) /\ F.sy36 a b m s s n0 (fs (X++A++B++Y)) (fs (X++S++Y)):=by
 have al:=List.length_pos_iff.2 hA0
 have bl:=List.length_pos_iff.2 hB0
 have bnd:a<=s /\ s<=m /\ s<=mid /\ mid+m<=b+s /\ a<mid /\ mid<b:=by omega
 have hmI:hI (a:Int) (b:Int)=(mid:Int):=by rw [c87 (by omega) (by omega),hmid]
 have emm:wI ((mid:Int)+m)=((mid+m:Nat):Int):=by rw [wI,D5 (by omega)]; omega
 have hall:=g3f hp X A B Y a b m mid lo hi ha hm hb hmid hlh hD hA hB s h2 h4 h5 h6
 clear h5 h6 h2 h4 hlh
 have hAs:A.take (s - a)++A.drop (s - a)=A:=List.take_append_drop _ _
 have hBs:B.take (mid - s)++B.drop (mid - s)=B:=List.take_append_drop _ _
 have l1:(A.take (s - a)).length=s - a:=by simp; omega
 have l2:(A.drop (s - a)).length=m - s:=by simp; omega
 have l3:(B.take (mid - s)).length=mid - s:=by simp; omega
 have l4:(B.drop (mid - s)).length=b - m - (mid - s):=by simp; omega
 obtain ⟨S,p1,p2,p3⟩:=f1u F hp hC hn k ih X (A.take (s - a)) (A.drop (s - a)) (B.take (mid - s)) (B.drop (mid - s)) Y a b m mid s ha (by omega) (by omega) hmid (by omega) (by omega) h0 (by omega) hk (by rw [hAs,hBs]; exact hD) (by rw [hAs]; exact hA) (by rw [hBs]; exact hB) (by rw [hAs,hBs]; exact ht) hall
 rw [hAs,hBs] at p2
 have e1:wI (((mid+m:Nat):Int) - s)=((mid+m - s:Nat):Int):=by rw [wI,D5 (by omega)]; omega
 refine ⟨S,p1,p2,F.h_sy36 _ _ _ _ _ _ _ _ ⟨fun h=>by simp at h,fun _=> ?_⟩⟩
 rw [hmI,emm,e1]
 have hin:fs (X++A++B++Y)=fs (X++A.take (s - a))++fs (A.drop (s - a))++fs (B.take (mid - s))++fs (B.drop (mid - s)++Y):=by
  have:X++A++B++Y=X++(A.take (s - a)++A.drop (s - a))++(B.take (mid - s)++B.drop (mid - s))++Y:=by rw [hAs,hBs]
  rw [this]; simp only [fs,List.map_append,List.append_assoc]
 have hout:fs (X++A.take (s - a))++fs (B.take (mid - s))++fs (A.drop (s - a))++fs (B.drop (mid - s)++Y)=fs (X++A.take (s - a)++B.take (mid - s)++A.drop (s - a)++B.drop (mid - s)++Y):=by simp only [fs,List.map_append,List.append_assoc]
 refine ⟨fun h=> ?_,fun h=> ?_⟩
 ·simp only [Bool.and_eq_true,decide_eq_true_eq] at h
  have hr:=f9o F hn (fs (X++A.take (s - a))) (fs (A.drop (s - a))) (fs (B.take (mid - s))) (fs (B.drop (mid - s)++Y)) (a:=s) (m:=m) (b:=mid+m - s) (by simp only [fs,List.length_map,List.length_append]; omega) (by simp only [fs,List.length_map]; omega) (by simp only [fs,List.length_map]; omega) (by simp only [fs,List.length_map,List.length_append]; omega) (fun h'=>by have:=congrArg List.length h'; simp only [fs,List.length_map,List.length_nil] at this; omega) (fun h'=>by have:=congrArg List.length h'; simp only [fs,List.length_map,List.length_nil] at this; omega)
  rw [<-hin,hout] at hr
  exact ⟨_,hr,⟨b1r (n0:=n0) (by simp only [List.length_append]; omega) (by omega),b1r (n0:=n0) (by simp only [List.length_append]; omega) (by omega)⟩,p3⟩
 ·simp only [Bool.and_eq_false_iff,decide_eq_false_iff_not] at h
  have heq:fs (X++A++B++Y)=fs (X++A.take (s - a)++B.take (mid - s)++A.drop (s - a)++B.drop (mid - s)++Y):=by
   rw [hin,<-hout]
   have:A.drop (s - a)=[]\/B.take (mid - s)=[]:=by
    rcases h with h|h
    ·left; exact List.drop_eq_nil_of_le (by omega)
    ·right; exact List.eq_nil_of_length_eq_zero (by omega)
   rcases this with e|e<;>rw [e]<;>simp [fs]
  rw [heq]; exact p3
theorem d93 {n0:Nat} (hn:n0<=1125899906842624) (k:Nat) (ih:d2x F cm Dm n0 k) (X A B Y:List (α × Nat)) (a b m mid lo hi:Nat) (ha:a=X.length) (hm:m=a+A.length) (hb:b=m+B.length) (hmid:mid=(a+b) / 2) (h0:n0=b+Y.length) (hA0:A≠[]) (hB0:B≠[]) (hk:b - a<=k+1) (hlh:(m<=mid /\ lo=a /\ hi=m)\/(mid<m /\ lo=mid+m - b /\ hi=mid))
  (hD:∀x∈A++B,Dm x.1) (hA:Srt cm A) (hB:Srt cm B) (ht:∀x∈A,∀y∈B,x.2<y.2):∀(d s t:Nat),t - s<=d ->lo<=s ->s<=t ->t<=hi ->
  (s=lo\/∀x y,A[s - 1 - a]? =some x ->B[mid - s]? =some y ->Rt cm x y) ->(t=hi\/∀x y,A[t - a]? =some x ->B[mid - 1 - t]? =some y ->Rt cm y x) ->
  ∃S,Srt cm S /\ S.Perm (A++B) /\ F.sy36 a b m t s n0 (fs (X++A++B++Y)) (fs (X++S++Y)):=by
 have al:=List.length_pos_iff.2 hA0
 have bl:=List.length_pos_iff.2 hB0
 have hmI:hI (a:Int) (b:Int)=(mid:Int):=by rw [c87 (by omega) (by omega),hmid]
 have emm:wI ((mid:Int)+m)=((mid+m:Nat):Int):=by rw [wI,D5 (by omega)]; omega
 intro d
 induction d with
 |zero=>
  intro s t h1 h2 h3 h4 h5 h6
  obtain rfl:s=t:=by omega
  exact e88 F hp hC hn k ih X A B Y a b m mid lo hi ha hm hb hmid hlh hD hA hB h0 hA0 hB0 hk ht s h2 h4 h5 h6
 |succ d ihd=>
  intro s t h1 h2 h3 h4 h5 h6
  by_cases hst:s=t
  ·exact ihd s t (by omega) h2 h3 h4 h5 h6
  have hcI:hI (s:Int) (t:Int)=(((s+t) / 2:Nat):Int):=c87 (by omega) (by omega)
  generalize hcd:(s+t) / 2=c at hcI
  have hc:s<=c /\ c<t:=by omega
  have hcA:c - a<A.length /\ a<=c:=by omega
  have hcB:mid - 1 - c<B.length /\ c<mid:=by omega
  obtain ⟨x,hx,_,_⟩:=b0v hcA.1
  obtain ⟨y,hy,_,_⟩:=b0v hcB.1
  have hxA:=List.mem_of_getElem? hx
  have hyB:=List.mem_of_getElem? hy
  have gx:(fs (X++A++B++Y))[c]? =some x.1:=by
   have:fs (X++A++B++Y)=fs X++fs A++fs (B++Y):=by simp [fs]
   rw [this,show c=(fs X).length+(c - a) by simp [fs]; omega,g4f _ _ _ (by simp [fs]; omega)]
   simp [fs,hx]
  have gy:(fs (X++A++B++Y))[mid+m - 1 - c]? =some y.1:=by
   have:fs (X++A++B++Y)=fs (X++A)++fs B++fs Y:=by simp [fs]
   rw [this,show mid+m - 1 - c=(fs (X++A)).length+(mid - 1 - c) by simp [fs]; omega,g4f _ _ _ (by simp [fs]; omega)]
   simp [fs,hy]
  have e1:wI (((mid+m:Nat):Int) - 1)=((mid+m - 1:Nat):Int):=by rw [wI,D5 (by omega)]; omega
  have e2:wI (((mid+m - 1:Nat):Int) - (c:Int))=((mid+m - 1 - c:Nat):Int):=by rw [wI,D5 (by omega)]; omega
  have e3:wI ((c:Int)+1)=((c+1:Nat):Int):=by rw [wI,D5 (by omega)]; omega
  have cmpS:C y.1 x.1 (cm y.1 x.1):=hC _ _ (hD y (by simp [hyB])) (hD x (by simp [hxA]))
  by_cases hlt:cm y.1 x.1<0
  ·obtain ⟨S,q1,q2,q3⟩:=ihd s c (by omega) h2 (by omega) (by omega) h5 (.inr fun x' y' hx' hy'=>by
    rw [hx] at hx'; cases hx'
    rw [hy] at hy'; cases hy'
    exact .inl hlt)
   refine ⟨S,q1,q2,F.h_sy36 _ _ _ _ _ _ _ _ ⟨fun _=> ?_,fun h=>by simp at h; omega⟩⟩
   rw [hmI,emm,e1,hcI,e2]
   exact ⟨by omega,y.1,by rw [Int.toNat_natCast]; exact gy,by omega,x.1,by rw [Int.toNat_natCast]; exact gx,_,cmpS,fun h=>by simp at h; omega,fun _=>q3⟩
  ·obtain ⟨S,q1,q2,q3⟩:=ihd (c+1) t (by omega) (by omega) (by omega) h4 (.inr fun x' y' hx' hy'=>by
    rw [show c+1 - 1 - a=c - a by omega,hx] at hx'; cases hx'
    rw [show mid - (c+1)=mid - 1 - c by omega,hy] at hy'; cases hy'
    exact Rt.of_not hp (hD y (by simp [hyB])) (hD x (by simp [hxA])) hlt (ht x hxA y hyB)) h6
   refine ⟨S,q1,q2,F.h_sy36 _ _ _ _ _ _ _ _ ⟨fun _=> ?_,fun h=>by simp at h; omega⟩⟩
   rw [hmI,emm,e1,hcI,e2,e3]
   exact ⟨by omega,y.1,by rw [Int.toNat_natCast]; exact gy,by omega,x.1,by rw [Int.toNat_natCast]; exact gx,_,cmpS,fun _=>q3,fun h=>by simp at h; omega⟩
theorem f4q {n0:Nat} (hn:n0<=1125899906842624):∀k,d2x F cm Dm n0 k:=by
 intro k
 induction k with
 |zero=>
  intro X A B Y hk hA
  exact absurd (List.eq_nil_of_length_eq_zero (by omega)) hA
 |succ k ih=>
  intro X A B Y hk hA0 hB0 h0 hD hA hB ht
  have al:=List.length_pos_iff.2 hA0
  have bl:=List.length_pos_iff.2 hB0
  have e1:wI (((X.length+A.length:Nat):Int) - (X.length:Nat))=(A.length:Int):=by rw [wI,D5 (by omega)]; omega
  have e2:wI (((X.length+A.length+B.length:Nat):Int) - ((X.length+A.length:Nat):Int))=(B.length:Int):=by rw [wI,D5 (by omega)]; omega
  by_cases c1:A.length=1
  ·obtain ⟨x,rfl⟩:=List.length_eq_one_iff.1 c1
   obtain ⟨S,q1,q2,q3⟩:=f8o F hp hC hn X B Y x (hD x (by simp)) (fun y hy=>hD y (by simp [hy])) hB (fun y hy=>ht x (by simp) y hy) (by simp at h0; omega) B.length 0 B.length (by omega) (by omega) (by omega) (fun y hy=>by simp at hy) (fun y hy=>by simp at hy)
   refine ⟨S,q1,by simpa using q2,F.h_sy _ _ _ _ _ _ ⟨fun _=> ?_,fun h=>by rw [e1] at h; simp at h⟩⟩
   simpa using q3
  by_cases c2:B.length=1
  ·obtain ⟨y,rfl⟩:=List.length_eq_one_iff.1 c2
   obtain ⟨S,q1,q2,q3⟩:=f18 F hp hC hn X A Y y (hD y (by simp)) (fun x hx=>hD x (by simp [hx])) hA (fun x hx=>ht x hx y (by simp)) (by simp at h0; omega) A.length 0 A.length (by omega) (by omega) (by omega) (fun y hy=>by simp at hy) (fun y hy=>by simp at hy)
   refine ⟨S,q1,q2,F.h_sy _ _ _ _ _ _ ⟨fun h=>by rw [e1] at h; simp at h; omega,fun _=>⟨fun _=> ?_,fun h=>by rw [e2] at h; simp at h⟩⟩⟩
   simpa using q3
  ·have hmI:hI ((X.length:Nat):Int) ((X.length+A.length+B.length:Nat):Int)=(((X.length+(X.length+A.length+B.length)) / 2:Nat):Int):=c87 (by omega) (by omega)
   generalize hmid:(X.length+(X.length+A.length+B.length)) / 2=mid at hmI
   rcases Nat.lt_or_ge mid (X.length+A.length) with hlt|hge
   ·have em:wI (wI ((mid:Int)+((X.length+A.length:Nat):Int)) - ((X.length+A.length+B.length:Nat):Int))=((mid+(X.length+A.length) - (X.length+A.length+B.length):Nat):Int):=by
     have:wI ((mid:Int)+((X.length+A.length:Nat):Int))=(mid:Int)+((X.length+A.length:Nat):Int):=by rw [wI,D5 (by omega)]
     rw [this,wI,D5 (by omega)]; omega
    obtain ⟨S,q1,q2,q3⟩:=d93 F hp hC hn k ih X A B Y X.length (X.length+A.length+B.length) (X.length+A.length) mid (mid+(X.length+A.length) - (X.length+A.length+B.length)) mid rfl rfl rfl hmid.symm (by omega) hA0 hB0 (by omega) (.inr ⟨hlt,rfl,rfl⟩) hD hA hB ht mid (mid+(X.length+A.length) - (X.length+A.length+B.length)) mid (by omega) (Nat.le_refl _) (by omega) (Nat.le_refl _) (.inl rfl) (.inl rfl)
    refine ⟨S,q1,q2,F.h_sy _ _ _ _ _ _ ⟨fun h=>by rw [e1] at h; simp at h; omega,fun _=>⟨fun h=>by rw [e2] at h; simp at h; omega,fun _=>⟨fun _=>F.h_sy28 _ _ _ _ _ _ _ _ ?_,fun h=>by rw [hmI] at h; simp at h; omega⟩⟩⟩⟩
    rw [hmI,em]; exact q3
   ·obtain ⟨S,q1,q2,q3⟩:=d93 F hp hC hn k ih X A B Y X.length (X.length+A.length+B.length) (X.length+A.length) mid X.length (X.length+A.length) rfl rfl rfl hmid.symm (by omega) hA0 hB0 (by omega) (.inl ⟨hge,rfl,rfl⟩) hD hA hB ht (X.length+A.length) X.length (X.length+A.length) (by omega) (Nat.le_refl _) (by omega) (Nat.le_refl _) (.inl rfl) (.inl rfl)
    refine ⟨S,q1,q2,F.h_sy _ _ _ _ _ _ ⟨fun h=>by rw [e1] at h; simp at h; omega,fun _=>⟨fun h=>by rw [e2] at h; simp at h; omega,fun _=>⟨fun h=>by rw [hmI] at h; simp at h; omega,fun _=>F.h_sy28 _ _ _ _ _ _ _ _ q3⟩⟩⟩⟩
end
section
variable {α:Type} {C:α ->α ->Int ->Prop} {cm:α ->α ->Int} {Dm:α ->Prop}
inductive e1r (cm:α ->α ->Int) (k:Nat):List (α × Nat) ->Prop
 |last (S:List (α × Nat)) (h:Srt cm S) (hl:S.length<=k):e1r cm k S
 |cons (S L:List (α × Nat)) (h:Srt cm S) (hl:S.length=k) (hr:e1r cm k L) (ht:∀x∈S,∀y∈L,x.2<y.2):e1r cm k (S++L)
theorem e1r.sorted {k:Nat} (hk:0<k) {L:List (α × Nat)} (h:e1r cm k L) (hl:L.length<=k):Srt cm L:=by
 cases h with
 |last _ h _=>exact h
 |cons S L h hl' hr ht=>
  have:L=[]:=List.eq_nil_of_length_eq_zero (by simp at hl; omega)
  rw [this]; simpa using h
theorem e1r.first {k:Nat} {L:List (α × Nat)} (h:e1r cm k L) (hl:k<=L.length):∃S M,L=S++M /\ Srt cm S /\ S.length=k /\ e1r cm k M /\ ∀x∈S,∀y∈M,x.2<y.2:=by
 cases h with
 |last _ h hl'=>exact ⟨L,[],by simp,h,by omega,.last [] .nil (Nat.zero_le _),fun x _ y hy=>by cases hy⟩
 |cons S M h hl' hr ht=>exact ⟨S,M,rfl,h,hl',hr,ht⟩
variable (F:d1k α C) (hp:Pre cm Dm) (hC:∀x y,Dm x ->Dm y ->C x y (cm x y))
 include hp hC
theorem f1o {n0:Nat} (hn:n0<=1125899906842624) (k n:Nat) (hk:0<k /\ k<n) (hnn:n=n0):∀(d:Nat) (M L:List (α × Nat)),L.length<=d ->n=M.length+L.length ->(∀x∈L,Dm x.1) ->e1r cm k L ->
  ∃L',e1r cm (2*k) L' /\ L'.Perm L /\ ∀r,F.st12 ((2*k:Nat):Int) n0 n (fs (M++L')) r ->F.st14 ((M.length+2*k:Nat):Int) (M.length:Nat) k n0 n (fs (M++L)) r:=by
 have e2:wI ((k:Int)*2)=((2*k:Nat):Int):=by rw [wI,D5 (by omega)]; omega
 have e3:wI (2*(k:Int))=((2*k:Nat):Int):=by rw [wI,D5 (by omega)]; omega
 intro d
 induction d with
 |zero=>
  intro M L hd hl hD hr
  have:L=[]:=List.eq_nil_of_length_eq_zero (by omega)
  subst this
  simp only [List.length_nil] at hl
  have e1:wI ((M.length:Int)+k)=((M.length+k:Nat):Int):=by rw [wI,D5 (by omega)]; omega
  refine ⟨[],.last [] .nil (Nat.zero_le _),.refl _,fun r hr'=>F.h_st14 _ _ _ _ _ _ _ ⟨fun h=>by simp at h; omega,fun _=>⟨fun h=>by rw [e1] at h; simp at h; omega,fun _=>by rw [e2]; exact hr'⟩⟩⟩
 |succ d ih=>
  intro M L hd hl hD hr
  have e1:wI ((M.length:Int)+k)=((M.length+k:Nat):Int):=by rw [wI,D5 (by omega)]; omega
  have e4:wI (((M.length+2*k:Nat):Int)+((2*k:Nat):Int))=((M.length+2*k+2*k:Nat):Int):=by rw [wI,D5 (by omega)]; omega
  rcases Nat.lt_or_ge L.length (2*k) with hlt|hge
  ·rcases Nat.lt_or_ge k L.length with hk2|hk2
   ·obtain ⟨S1,S2,rfl,h1,h2,h3,h4⟩:=hr.first (by omega)
    have hl2:(S1++S2).length=S1.length+S2.length:=by simp
    have h5:Srt cm S2:=h3.sorted hk.1 (by omega)
    obtain ⟨T,q1,q2,q3⟩:=f4q F hp hC hn _ M S1 S2 [] (Nat.le_refl _) (fun h=>by rw [h] at h2; simp at h2; omega) (fun h=>by subst h; simp at hk2; omega) (by simp; omega) hD h1 h5 h4
    have ql:T.length=S1.length+S2.length:=by rw [q2.length_eq]; simp
    refine ⟨T,.last T q1 (by omega),q2,fun r hr'=>F.h_st14 _ _ _ _ _ _ _ ⟨fun h=>by simp at h; omega,fun _=>⟨fun _=> ?_,fun h=>by rw [e1] at h; simp at h; omega⟩⟩⟩
    rw [e1,e2]
    refine ⟨fs (M++T), ?_,⟨b1r (n0:=n0) (by simp; omega) (by omega),b1r (n0:=n0) (by simp; omega) (by omega)⟩,hr'⟩
    rw [show M.length+k=M.length+S1.length by omega,show (n:Int)=((M.length+S1.length+S2.length:Nat):Int) by omega]
    simpa using q3
   ·refine ⟨L,.last L (hr.sorted hk.1 hk2) (by omega),.refl _,fun r hr'=>F.h_st14 _ _ _ _ _ _ _ ⟨fun h=>by simp at h; omega,fun _=>⟨fun h=>by rw [e1] at h; simp at h; omega,fun _=>by rw [e2]; exact hr'⟩⟩⟩
  ·obtain ⟨S1,L1,rfl,h1,h2,h3,h4⟩:=hr.first (by omega)
   have hl1:(S1++L1).length=S1.length+L1.length:=by simp
   obtain ⟨S2,L2,rfl,g1,g2,g3,g4⟩:=h3.first (by omega)
   have hl2:(S2++L2).length=S2.length+L2.length:=by simp
   obtain ⟨T,q1,q2,q3⟩:=f4q F hp hC hn _ M S1 S2 L2 (Nat.le_refl _) (fun h=>by rw [h] at h2; simp at h2; omega) (fun h=>by rw [h] at g2; simp at g2; omega) (by omega) (fun x hx=>hD x (by simp at hx ⊢; grind)) h1 g1 (fun x hx y hy=>h4 x hx y (by simp [hy]))
   have ql:T.length=S1.length+S2.length:=by rw [q2.length_eq]; simp
   obtain ⟨L',p1,p2,p3⟩:=ih (M++T) L2 (by omega) (by simp; omega) (fun x hx=>hD x (by simp [hx])) g3
   refine ⟨T++L',.cons T L' q1 (by omega) p1 (fun x hx y hy=> ?_), ?_,fun r hr'=>F.h_st14 _ _ _ _ _ _ _ ⟨fun _=> ?_,fun h=>by simp at h; omega⟩⟩
   ·have hy2:=p2.mem_iff.1 hy
    rcases List.mem_append.1 (q2.mem_iff.1 hx) with h|h
    ·exact h4 x h y (by simp [hy2])
    ·exact g4 x h y hy2
   ·have:=q2.append p2
    simpa [List.append_assoc] using this
   ·rw [e1,e3,e4]
    refine ⟨fs (M++T++L2), ?_,⟨b1r (n0:=n0) (by simp; omega) (by omega),b1r (n0:=n0) (by simp; omega) (by omega)⟩, ?_⟩
    ·rw [show M.length+k=M.length+S1.length by omega,show M.length+2*k=M.length+S1.length+S2.length by omega]
     simpa using q3
    ·have:=p3 r (by simpa using hr')
     have gl:(M++T).length=M.length+2*k:=by simp; omega
     rw [gl] at this
     exact this
theorem e9n {n0:Nat} (hn:n0<=1125899906842624) (hpos:0<n0):∀(d k:Nat) (L:List (α × Nat)),n0 - k<=d ->0<k ->k<=2*n0+20 ->L.length=n0 ->(∀x∈L,Dm x.1) ->e1r cm k L ->∃S,Srt cm S /\ S.Perm L /\ F.st12 k n0 (n0:Nat) (fs L) (fs S):=by
 intro d
 induction d with
 |zero=>
  intro k L hd hk hk2 hl hD hr
  exact ⟨L,hr.sorted hk (by omega),.refl _,F.h_st12 _ _ _ _ _ ⟨fun h=>by simp at h; omega,fun _=>⟨b1r hl hpos,rfl⟩⟩⟩
 |succ d ih=>
  intro k L hd hk hk2 hl hD hr
  rcases Nat.lt_or_ge k n0 with hlt|hge
  ·obtain ⟨L',q1,q2,q3⟩:=f1o F hp hC hn k n0 ⟨hk,hlt⟩ rfl L.length [] L (Nat.le_refl _) (by simp; omega) hD hr
   obtain ⟨S,p1,p2,p3⟩:=ih (2*k) L' (by omega) (by omega) (by omega) (by rw [q2.length_eq]; exact hl) (fun x hx=>hD x (q2.mem_iff.1 hx)) q1
   have e3:wI (2*(k:Int))=((2*k:Nat):Int):=by rw [wI,D5 (by omega)]; omega
   refine ⟨S,p1,p2.trans q2,F.h_st12 _ _ _ _ _ ⟨fun _=> ?_,fun h=>by simp at h; omega⟩⟩
   have:=q3 _ (by simpa using p3)
   rw [e3]
   simpa using this
  ·exact ⟨L,hr.sorted hk (by omega),.refl _,F.h_st12 _ _ _ _ _ ⟨fun h=>by simp at h; omega,fun _=>⟨b1r hl hpos,rfl⟩⟩⟩
theorem f5q {n0:Nat} (hn:n0<=1125899906842624) (hpos:0<n0):∀(d:Nat) (M L:List (α × Nat)),L.length<=d ->n0=M.length+L.length ->(∀x∈L,Dm x.1) ->L.Pairwise (fun x y=>x.2<y.2) ->
  ∃L',e1r cm 20 L' /\ L'.Perm L /\ ∀r,F.st12 20 n0 (n0:Nat) (fs (M++L')) r ->F.st8 ((M.length+20:Nat):Int) (M.length:Nat) n0 (n0:Nat) (fs (M++L)) r:=by
 intro d
 induction d with
 |zero=>
  intro M L hd hl hD ht
  have:L=[]:=List.eq_nil_of_length_eq_zero (by omega)
  subst this
  simp only [List.length_nil] at hl
  obtain ⟨S,q1,q2,q3⟩:=d7n F hp hC hn M [] [] (a:=M.length) (b:=n0) rfl (by simp; omega) (by simp) hpos hD .nil
  have qe:S=[]:=List.Perm.eq_nil q2
  subst qe
  refine ⟨[],.last [] .nil (Nat.zero_le _),.refl _,fun r hr=>F.h_st8 _ _ _ _ _ _ ⟨fun h=>by simp at h; omega,fun _=>⟨fs (M++[]),by simpa using q3,⟨b1r (n0:=n0) (by simp; omega) hpos,b1r (n0:=n0) (by simp; omega) hpos⟩,hr⟩⟩⟩
 |succ d ih=>
  intro M L hd hl hD ht
  rcases Nat.lt_or_ge L.length 20 with hlt|hge
  ·obtain ⟨S,q1,q2,q3⟩:=d7n F hp hC hn M L [] (a:=M.length) (b:=n0) rfl (by omega) (by simp) hpos hD ht
   have ql:=q2.length_eq
   refine ⟨S,.last S q1 (by omega),q2,fun r hr=>F.h_st8 _ _ _ _ _ _ ⟨fun h=>by simp at h; omega,fun _=>⟨fs (M++S),by simpa using q3,⟨b1r (n0:=n0) (by simp; omega) hpos,b1r (n0:=n0) (by simp; omega) hpos⟩,hr⟩⟩⟩
  ·have hsplit:L=L.take 20++L.drop 20:=(List.take_append_drop _ _).symm
   have l1:(L.take 20).length=20:=by simp; omega
   generalize ha:L.take 20=A at hsplit l1
   generalize hb:L.drop 20=B at hsplit
   subst hsplit
   have hl2:(A++B).length=A.length+B.length:=by simp
   obtain ⟨t1,t2,t3⟩:=List.pairwise_append.1 ht
   obtain ⟨S,q1,q2,q3⟩:=d7n F hp hC hn M A B (a:=M.length) (b:=M.length+20) rfl (by omega) (by omega) hpos (fun x hx=>hD x (by simp [hx])) t1
   have ql:=q2.length_eq
   obtain ⟨L',p1,p2,p3⟩:=ih (M++S) B (by omega) (by simp; omega) (fun x hx=>hD x (by simp [hx])) t2
   have e1:wI (((M.length+20:Nat):Int)+20)=((M.length+20+20:Nat):Int):=by rw [wI,D5 (by omega)]; omega
   refine ⟨S++L',.cons S L' q1 (by omega) p1 (fun x hx y hy=>t3 x (q2.mem_iff.1 hx) y (p2.mem_iff.1 hy)),q2.append p2,fun r hr=>F.h_st8 _ _ _ _ _ _ ⟨fun _=> ?_,fun h=>by simp at h; omega⟩⟩
   rw [e1]
   refine ⟨fs (M++S++B),by simpa using q3,⟨b1r (n0:=n0) (by simp; omega) hpos,b1r (n0:=n0) (by simp; omega) hpos⟩, ?_⟩
   have:=p3 r (by simpa using hr)
   have gl:(M++S).length=M.length+20:=by simp; omega
   rw [gl] at this
   exact this
theorem f2p {n0:Nat} (hn:n0<=1125899906842624) (hpos:0<n0) (L:List (α × Nat)) (hl:L.length=n0) (hD:∀x∈L,Dm x.1) (ht:L.Pairwise (fun x y=>x.2<y.2)):∃S,Srt cm S /\ S.Perm L /\ F.so n0 (fs L) (fs S):=by
 obtain ⟨L',q1,q2,q3⟩:=f5q F hp hC hn hpos L.length [] L (Nat.le_refl _) (by simp; omega) hD ht
 obtain ⟨S,p1,p2,p3⟩:=e9n F hp hC hn hpos n0 20 L' (by omega) (by omega) (by omega) (by rw [q2.length_eq]; exact hl) (fun x hx=>hD x (q2.mem_iff.1 hx)) q1
 have hs:S.length=n0:=by rw [p2.length_eq,q2.length_eq]; exact hl
 refine ⟨S,p1,p2.trans q2,F.h_so _ _ _ ⟨fs S,F.h_st _ _ _ _ ?_,⟨b1r hl hpos,b1r hs hpos⟩,b1r hs hpos,rfl⟩⟩
 have:=q3 _ (by simpa using p3)
 simpa using this
end
section
variable {α:Type} {cm:α ->α ->Int} {Dm:α ->Prop}
theorem Rt.irrefl {x y:α × Nat} (hp:Pre cm Dm) (hx:Dm x.1) (hy:Dm y.1) (h1:Rt cm x y) (h2:Rt cm y x):False:=by
 have a:=hp.sym x.1 y.1 hx hy
 have b:=hp.sym y.1 x.1 hy hx
 unfold Rt at h1 h2
 omega
theorem e3l (hp:Pre cm Dm):∀(S T:List (α × Nat)),S.Perm T ->(∀x∈S,Dm x.1) ->Srt cm S ->Srt cm T ->S=T
 |[],T,h,_,_,_=>(List.Perm.nil_eq h)
 |x::S,[],h,_,_,_=>by have:=h.length_eq; simp at this
 |x::S,y::T,h,hD,hS,hT=>by
  have hxy:x=y:=by
   have hx:x∈y::T:=h.mem_iff.1 List.mem_cons_self
   have hy:y∈x::S:=h.mem_iff.2 List.mem_cons_self
   rcases List.mem_cons.1 hx with e|e
   ·exact e
   ·rcases List.mem_cons.1 hy with e2|e2
    ·exact e2.symm
    ·exact (Rt.irrefl hp (hD x List.mem_cons_self) (hD y hy) ((List.pairwise_cons.1 hS).1 y e2) ((List.pairwise_cons.1 hT).1 x e)).elim
  subst hxy
  rw [e3l hp S T ((List.perm_cons x).1 h) (fun z hz=>hD z (List.mem_cons_of_mem _ hz)) (List.pairwise_cons.1 hS).2 (List.pairwise_cons.1 hT).2]
def a3q (l:List α):List (α × Nat):=l.zipIdx
theorem c1l (l:List α):fs (a3q l)=l:=by simp [a3q,fs]
theorem d00 (l:List α):(a3q l).Pairwise (fun x y=>x.2<y.2):=by
 rw [List.pairwise_iff_getElem]
 intro i j hi hj h
 simp [a3q]; omega
def c7g (cm:α ->α ->Int) (l r:List α):Prop:=∃S,Srt cm S /\ S.Perm (a3q l) /\ r=fs S
theorem c7g.one (hp:Pre cm Dm) {l r t:List α} (hD:∀x∈l,Dm x) (h1:c7g cm l r) (h2:c7g cm l t):r=t:=by
 obtain ⟨S,a1,a2,rfl⟩:=h1
 obtain ⟨T,b1,b2,rfl⟩:=h2
 have hm:∀x∈S,Dm x.1:=fun x hx=>hD _ (by rw [<-c1l l]; exact List.mem_map_of_mem (a2.mem_iff.1 hx))
 rw [e3l hp S T (a2.trans b2.symm) hm a1 b1]
end
def f38 {α:Type} (P:Program) (e:α ->List AV) (sz:Nat) (f:FuncId) (l:List α):Prop:=
 b73 P f [.sl (l.map e) .no] ⟨[],[],[]⟩ fun a h=>a=.row 0 0 sz l.length l.length /\ h=⟨[some (cellsOf e l)],[],[]⟩
section
variable {α:Type} {e:α ->List AV} {sz:Nat}
theorem e9b {P:Program} {f:FuncId} {l:List α} {args':List AV} {h:A4} {K:AV ->A4 ->Prop} (hf:f38 P e sz f l) (he:c2u e sz) (h0:l≠[]) (ha:args'.map nz=[.sl (l.map e) .no])
  (hk:K (.row h.blks.length 0 sz l.length l.length) ⟨h.blks++[some (cellsOf e l)],h.bufs,h.globs⟩):b73 P f args' h K:=by
 refine ⟨hf.1,fun σ cargs hi hr=> ?_⟩
 have hopen:∀b o,σ.open_ b o ->b<σ.w.heap.size:=by
  rintro b o (ho|⟨n,hn⟩|⟨id,e,he,hs⟩)
  ·exact (hi.outer b o ho).1
  ·exact hi.lt hn
  ·obtain ⟨v,hv⟩:=Option.isSome_iff_exists.1 (hi.bufat id e b o he hs).1
   exact a27 hv
 have hp:plainL [AV.sl (l.map e) .no]=true:=by
  simp only [plainL,plain,Bool.and_true,Bool.true_and]
  exact D4 e l fun y _=>he.hp y
 have hrels:c6c (bare σ.w σ.open_) [.sl (l.map e) .no] cargs.toList:=by
  refine ⟨by rw [hr.1,<-ha]; simp,fun i av hav=> ?_⟩
  have hav':=hav
  rw [<-ha] at hav
  simp only [List.getElem?_map,Option.map_eq_some_iff] at hav
  obtain ⟨b,hb,rfl⟩:=hav
  obtain ⟨x,h1,h2⟩:=hr.2 i b hb
  exact ⟨x,h1,h2.nz.down (P0 hp i _ hav') rfl fun _ _ h=>h⟩
 have hglobs:d54 σ.w σ.open_ []:=fun g cells hg=>by cases hg
 refine (hf.2 (bare σ.w σ.open_) cargs (c6f hopen hglobs) hrels).mono fun e1 w' hq=> ?_
 obtain ⟨σ1,h1,av,x,rfl,rfl,hle,hi1,hrx,rfl,rfl⟩:=hq
 have hpast:b8c σ.w σ1.w:=⟨hle.size,fun b hb=>hle.whole b hb fun o=>b2h σ.w σ.open_ b o,hle.os,hle.tape,hle.output⟩
 obtain ⟨b0,hb0,hat⟩:=hi1.blk 0 _ rfl
 have hge:σ.w.heap.size<=b0:=by
  rcases Nat.lt_or_ge b0 σ.w.heap.size with hlt|hge
  ·exact (b2h σ.w σ.open_ b0 0 (hle.own b0 0 hlt (.inl ⟨0,hb0⟩))).elim
  ·exact hge
 let σ2:Sg:=⟨σ1.w,fun n=>if n=h.blks.length then some b0 else σ.blk n,σ.buf,σ.outer⟩
 have hdom:∀n b,σ.blk n=some b ->n<h.blks.length:=fun n b hn=>hi.name hn
 have hblt:∀n b,σ.blk n=some b ->b<σ.w.heap.size:=fun n b hn=>hi.lt hn
 have hslt:∀id e b o,σ.buf id=some e ->e.spare b o ->b<σ.w.heap.size:=by
  intro id e b o he hs
  obtain ⟨v,hv⟩:=Option.isSome_iff_exists.1 (hi.bufat id e b o he hs).1
  exact a27 hv
 have hle2:Le σ σ2:={
  blk:=fun n b hn=>by
   show (if n=h.blks.length then some b0 else σ.blk n)=some b
   rw [if_neg (by have:=hdom n b hn; omega)]; exact hn
  buf:=fun _ e h=>⟨e,h,Nat.le_refl _,rfl,fun _=>rfl⟩
  outer:=rfl
  cell:=fun b o hb _=>U0 (hpast.old b hb) o
  ext:=(Le.world (σ:=σ) hpast).ext
  whole:=fun b hb _=>hpast.old b hb
  own:=fun b o hb ho=>by
   rcases ho with ⟨n,hn⟩|hx
   ·simp only [σ2] at hn
    split at hn
    ·cases hn; omega
    ·exact .inl ⟨n,hn⟩
   ·exact .inr hx
  size:=hpast.size
  os:=hpast.os
  tape:=hpast.tape
  output:=hpast.output}
 have hop:∀b o,σ2.open_ b o ->σ1.open_ b o:=by
  have side:∀b o,σ.open_ b o ->σ1.open_ b o:=fun b o h=>.inl (by rw [hle.outer]; exact h)
  rintro b o (ho|⟨n,hn⟩|ho)
  ·exact side b o (.inl ho)
  ·simp only [σ2] at hn
   split at hn
   ·cases hn; exact .inr (.inl ⟨0,hb0⟩)
   ·exact side b o (.inr (.inl ⟨n,hn⟩))
  ·exact side b o (.inr (.inr ho))
 have hni:a7f (cellsOf e l)=true:=a5u he.hn h0
 have hat2:a9s σ2 b0 (cellsOf e l):=by
  obtain ⟨cs,rest,elem,g1,g2⟩:=hat.plain hni
  refine .cells _ cs rest elem g1 ⟨g2.1,fun i a hia=> ?_⟩
  obtain ⟨k1,y,k2,k3⟩:=g2.2 i a hia
  exact ⟨k1,y,k2,k3.move (he.mem (List.mem_of_getElem? hia)).1 rfl hop⟩
 refine ⟨σ2,_,_,x,rfl,rfl,hle2, ?_, ?_,hk⟩
 ·exact {
   blk:=fun n cs hn=>by
    by_cases hl:n<h.blks.length
    ·rw [List.getElem?_append_left hl] at hn
     obtain ⟨b,h1,h2⟩:=hi.blk n cs hn
     exact ⟨b,hle2.blk n b h1,h2.keep hle2 (hpast.old b h2.lt)⟩
    ·rw [List.getElem?_append_right (by omega)] at hn
     have hz:n=h.blks.length:=by
      by_cases hz:n - h.blks.length=0
      ·omega
      ·rw [List.getElem?_eq_none (by simp; omega)] at hn; cases hn
     subst hz
     simp at hn
     subst hn
     exact ⟨b0,if_pos rfl,hat2⟩
   dom:=fun n b hn=>by
    simp only [σ2] at hn
    split at hn
    ·rename_i hz; subst hz; exact ⟨cellsOf e l,by simp⟩
    ·obtain ⟨cs,hcs⟩:=hi.dom n b hn
     exact ⟨cs,by rw [List.getElem?_append_left (hdom n b hn)]; exact hcs⟩
   inj:=fun n m b c c' hc hc' hz hz' hn hm=>by
    simp only [σ2] at hn hm
    split at hn<;>split at hm
    ·omega
    ·cases hn; have:=hblt m _ hm; omega
    ·cases hm; have:=hblt n _ hn; omega
    ·rw [List.getElem?_append_left (hdom n b hn)] at hc
     rw [List.getElem?_append_left (hdom m b hm)] at hc'
     exact hi.inj n m b c c' hc hc' hz hz' hn hm
   buf:=hi.buf
   bufdom:=hi.bufdom
   bufle:=hi.bufle
   bufat:=(hi.world hpast).bufat
   bufinj:=hi.bufinj
   bufblk:=fun id e n b o he hs hn=>by
    simp only [σ2] at hn
    split at hn
    ·cases hn; have:=hslt id e _ o he hs; omega
    ·exact hi.bufblk id e n b o he hs hn
   outer:=fun b o ho=>by
    obtain ⟨h1,h2⟩:=hi.outer b o ho
    exact ⟨Nat.lt_of_lt_of_le h1 hpast.size,fun hx=>h2 (hle2.own b o h1 hx)⟩
   glob:=fun g cells hg=>(hi.glob g cells hg).mono hle2}
 ·cases hrx with
  |row _ _ _ _ _ b cap hb hc hm hx=>
   rw [hb0] at hb
   cases hb
   exact .row _ _ _ _ _ b0 cap (if_pos rfl) hc hm hx
theorem g5v {P:Program} {g:FuncId} {env:Env} {args:List J6} {h:A4} {l:List α} (hf:f38 P e sz g l) (he:c2u e sz) (h0:l≠[]) (ha:(evs env args).map (List.map nz)=some [.sl (l.map e) .no]:=by kernel_rfl):
  a12 P (.call (.c (.clo (.func g) [] [])) args) env h (.row h.blks.length 0 sz l.length l.length) ⟨h.blks++[some (cellsOf e l)],h.bufs,h.globs⟩:=by
 obtain ⟨l',h1,h2⟩:=Option.map_eq_some_iff.1 ha
 exact fun K hk=>(d3z rfl h1 (e9b hf he h0 h2 hk)).out
def h0j (e:α ->List AV) (sz:Nat) (rs:List b6o) (l:List α):Exit ->Env ->A4 ->Prop
 |.ret,env,h=>d15 env h rs fun l'=>c9d l'=.row 0 0 sz l.length l.length /\ h=⟨[some (cellsOf e l)],[],[]⟩
 |_,_,_=>False
theorem g5r {P:Program} {N:Nat} {f:FuncId} {ac:O1} {rs:List b6o} (hf:a8m P f=some (N,ac,rs)) {l:List α} {e₀:Env} (hn:Nat.ble 1 N=true) (he:b6h 0 [.sl (l.map e) .no]=e₀)
  (hbody:D P N 0 0 ac (h0j e sz rs l) e₀ ⟨[],[],[]⟩):f38 P e sz f l:=by
 subst he
 refine d66 hf (Nat.le_of_ble_eq_true hn) (c1m (c19 (Nat.le_refl _) (Nat.le_refl _) hbody) fun x env h hq=> ?_)
 cases x<;>first|exact hq|exact hq.elim
theorem h1p {rs:List b6o} {l:List α} {env:Env} {h:A4} {c:List AV} (hc:c=cellsOf e l) (hh:h=⟨[some c],[],[]⟩:=by kernel_rfl) (ho:(c22 env h rs).map c9d=some (.row 0 0 sz l.length l.length):=by kernel_rfl):h0j e sz rs l .ret env h:=by
 subst hc
 obtain ⟨l',h1,h2⟩:=Option.map_eq_some_iff.1 ho
 exact b2m h1 ⟨h2,hh⟩
theorem g3e {P:Program} {env:Env} {h:A4} {size byt:Nat} {x y:J6} (e:α ->List AV) (l:List α) (h0:l≠[]) (hb:l.length*byt<=140737488355328) (hs:∀y,(e y).length=size) (hm:(y.ev env).bind (c4t h size)=some (List.map e l)) (hx:x.ev env=some (.sl [] .full):=by kernel_rfl):a12 P (.append size byt x y) env h (.row h.blks.length 0 size l.length l.length) ⟨h.blks++[some (cellsOf e l)],h.bufs,h.globs⟩:=by
 obtain ⟨Y,h1,h2⟩:=Option.bind_eq_some_iff.1 hm
 intro K hk
 simp only [aop,hx,h1,wv]
 refine .inr ?_
 simp only [b3n,h2]
 refine ⟨⟨b86 hs,fun hn=>h0 (List.map_eq_nil_iff.1 hn)⟩, ?_, ?_, ?_⟩
 ·intro el hel; simp at hel
 ·simpa using hb
 ·simpa [cellsOf] using hk
theorem g8a {X:Prop} (l:List α) (h1:l=[] ->X) (h2:l≠[] ->X):X:=by
 rcases Classical.em (l=[]) with h|h
 ·exact h1 h
 ·exact h2 h
end
def d4o (n:Nat):List AV ->List (Nat × Nat × Nat)
 |[]=>[]
 |.row k off size len _::r=>if k=n then (off,size,len)::d4o n r else d4o n r
 |_::r=>d4o n r
theorem d3r {n:Nat}:∀{l:List AV} {off size len cap:Nat},.row n off size len cap∈l ->(off,size,len)∈d4o n l
 |[],_,_,_,_,h=>by cases h
 |a::r,off,size,len,cap,h=>by
  rcases List.mem_cons.1 h with h|h
  ·subst h; simp [d4o]
  ·have:=d3r h
   unfold d4o
   split
   ·rename_i heq; cases heq
   ·rename_i heq; cases heq; split
    ·exact List.mem_cons_of_mem _ this
    ·exact this
   ·rename_i heq; cases heq; exact this
def e3z (n:Nat):List (Option (List AV)) ->List (Nat × Nat × Nat)
 |[]=>[]
 |some c::r=>d4o n c++e3z n r
 |none::r=>e3z n r
theorem d5q {n:Nat}:∀{l:List (Option (List AV))} {i:Nat} {c:List AV} {x:Nat × Nat × Nat},l[i]? =some (some c) ->x∈d4o n c ->x∈e3z n l
 |[],i,c,x,h,_=>by simp at h
 |o::r,i,c,x,h,hx=>by
  cases i with
  |zero=>simp at h; subst h; exact List.mem_append_left _ hx
  |succ i=>
   have:=d5q (l:=r) (i:=i) (by simpa using h) hx
   cases o with
   |none=>exact this
   |some c'=>exact List.mem_append_right _ this
def f6b (n:Nat) (els:List (List AV)) (bs:List (Option (List AV))):List (Option (List AV)):=bs.map (Option.map (List.map (rfz n els)))
theorem e9d (n:Nat) (els:List (List AV)) (a:AV):(rfz n els a).isCell=a.isCell:=by
 cases a with
 |row k off size len cap=>simp only [rfz]; split<;>rfl
 |_=>rfl
section
variable {σ:Sg} {h:A4} {n:Nat} {m:List Bool} {k:Nat} {cells:List AV} {els:List (List AV)} {sz len:Nat}
theorem e4n (hi:Inv h σ) (hb:h.blks[n]? =some (some cells)) (hce:els.flatten=cells) (hsz:∀el∈els,el.length=sz) (hlen:els.length=len) (hit:els≠[] ->a7f cells=true) (hmn:m.getD n false=false) (hal:c4a m h.blks=true)
  {a0:AV} {y:Value} (h3:Rel σ a0 y) (hrow:∀off size len' cap,a0=.row n off size len' cap ->off=0 /\ size=sz /\ len'=len) (hlow:low m k (rfz n els a0)=true):Rel (σ.cut m k) (rfz n els a0) y:=by
 cases a0 with
 |row j off size len' cap=>
  simp only [rfz] at hlow ⊢
  split at hlow
  ·rename_i hj
   subst hj
   rw [if_pos rfl]
   obtain ⟨rfl,rfl,rfl⟩:=hrow _ _ _ _ rfl
   cases h3 with
   |row _ _ _ _ _ b cap' hblk hcap _ _=>
   obtain ⟨b',h4,h5⟩:=hi.blk j cells hb
   rw [hblk] at h4; cases h4
   subst hlen
   rcases Classical.em (els=[]) with h0|h0
   ·subst h0; exact .slx _ ⟨b,0,none⟩ cap' trivial (.inl rfl)
   have hni:=hit h0
   obtain ⟨cs,rest,elem,h6,h7⟩:=h5.plain hni
   have hlc:lowLL m k els=true:=by simpa [low] using hlow
   have key:∀(i:Nat) (el:List AV),els[i]? =some el ->∀(q:Nat) (av:AV),el[q]? =some av ->∃xv,σ.w.cell? ⟨b,0+i*size+q,none⟩=some xv /\ Rel σ av xv /\ av.isCell=true:=by
    intro i el hie q av hq
    have hql:q<size:=by rw [<-hsz el (List.mem_of_getElem? hie)]; exact (List.getElem?_eq_some_iff.1 hq).1
    have hf:=b2n els hsz i q hql
    rw [hie,Option.bind_some,hq,hce] at hf
    obtain ⟨q1,xv,q2,q3⟩:=h7.2 _ av hf
    refine ⟨xv, ?_,q3,q1⟩
    have hlt:=(List.getElem?_eq_some_iff.1 q2).1
    rw [Nat.zero_add]
    simp [World.cell?,h6,List.getElem?_append_left hlt,q2]
   have hne:cells≠[]:=b29 hni
   refine Rel.sl (σ:=σ.cut m k) els .no b 0 cap' size (fun i q=>(σ.w.cell? ⟨b,0+i*size+q,none⟩).getD undef) (fun i el hie=>hsz el (List.mem_of_getElem? hie)) hcap trivial (fun id e hid=>by cases hid) (fun i el hie q av hq=> ?_) fun i el hie q av hq=> ?_
   ·obtain ⟨xv,q1,q2,q3⟩:=key i el hie q av hq
    refine ⟨by show σ.w.cell? _=_; rw [q1]; rfl, ?_,q3⟩
    rintro (ho|⟨j',hj'⟩|⟨id,eb,he1,he2⟩)
    ·exact (hi.outer _ _ ho).2 (.inl ⟨j,hblk⟩)
    ·simp only [Sg.cut] at hj'
     split at hj'
     ·rename_i hmj
      obtain ⟨c',hc'⟩:=hi.dom j' b hj'
      have:=hi.inj j' j b c' cells hc' hb (c08 hal hmj hc') hne hj' hblk
      subst this
      rw [hmn] at hmj; cases hmj
     ·cases hj'
    ·simp only [Sg.cut] at he1
     split at he1
     ·exact hi.bufblk id eb j b _ he1 he2 hblk
     ·cases he1
   ·obtain ⟨xv,q1,q2,q3⟩:=key i el hie q av hq
    rw [q1]
    exact q2.cut (a4t (c2e hlc i el hie) q av hq)
  ·rename_i hj
   rw [if_neg hj]
   exact h3.cut hlow
 |_=>exact h3.cut hlow
theorem Inv.cutR (hi:Inv h σ) (hb:h.blks[n]? =some (some cells)) (hce:els.flatten=cells) (hsz:∀el∈els,el.length=sz) (hlen:els.length=len) (hit:els≠[] ->a7f cells=true) (hmn:m.getD n false=false) (hal:c4a m h.blks=true)
  (hrow:∀(i:Nat) (c:List AV),(Z8 m h.blks)[i]? =some (some c) ->∀off size len' cap,AV.row n off size len' cap∈c ->off=0 /\ size=sz /\ len'=len) (hB:a6x m k (f6b n els (Z8 m h.blks))=true) (hg:S6 h.globs=true):Inv ⟨f6b n els (Z8 m h.blks),h.bufs.take k,h.globs⟩ (σ.cut m k):=by
 have hblk:∀{j b:Nat},(σ.cut m k).blk j=some b ->m.getD j false=true /\ σ.blk j=some b:=by
  intro k b hk
  simp only [Sg.cut] at hk
  split at hk
  ·rename_i h1; exact ⟨h1,hk⟩
  ·cases hk
 have hbuf:∀{j:Nat} {e:Buf},(σ.cut m k).buf j=some e ->j<k /\ σ.buf j=some e:=by
  intro k b hk
  simp only [Sg.cut] at hk
  split at hk
  ·rename_i h1; exact ⟨h1,hk⟩
  ·cases hk
 have hget:∀{j:Nat} {c:List AV},(f6b n els (Z8 m h.blks))[j]? =some (some c) ->∃c0,(Z8 m h.blks)[j]? =some (some c0) /\ c=c0.map (rfz n els):=by
  intro j c hj
  simp only [f6b,List.getElem?_map,Option.map_eq_some_iff] at hj
  obtain ⟨o,h1,h2⟩:=hj
  obtain ⟨c0,rfl,h3⟩:=h2
  exact ⟨c0,h1,h3.symm⟩
 have hne:∀{c0:List AV},c0.map (rfz n els)≠[] ->c0≠[]:=by rintro _ h rfl; exact h rfl
 refine ⟨fun j cs' hj=> ?_,fun j b hj=> ?_,fun j l b c c' hj hl hc hc' h1 h2=> ?_,fun id c hc=> ?_,fun id e he=> ?_,fun id e he=>hi.bufle id e (hbuf he).2,fun id e b o he hs=>hi.bufat id e b o (hbuf he).2 hs,fun i j e f b o he hf h1 h2=>hi.bufinj i j e f b o (hbuf he).2 (hbuf hf).2 h1 h2,fun id e k b o he hs hk=>hi.bufblk id e k b o (hbuf he).2 hs (hblk hk).2,fun b o ho=>⟨(hi.outer b o ho).1,fun h=>(hi.outer b o ho).2 (d1x h)⟩,fun g cells hgl=> ?_⟩
 ·obtain ⟨c0,h0,rfl⟩:=hget hj
  obtain ⟨h1,h2⟩:=b1t h0
  obtain ⟨b,h3,h4⟩:=hi.blk j c0 h2
  refine ⟨b,by simp only [Sg.cut]; rw [if_pos h1]; exact h3, ?_⟩
  have hlow:=d23 hB hj
  cases h4 with
  |cells _ cs rest elem h5 h6=>
   refine .cells _ cs rest elem h5 ⟨by rw [h6.1]; simp,fun i a hia=> ?_⟩
   have hla:=a4t hlow i a hia
   simp only [List.getElem?_map,Option.map_eq_some_iff] at hia
   obtain ⟨a0,q1,rfl⟩:=hia
   obtain ⟨q2,x,q3,q4⟩:=h6.2 i a0 q1
   refine ⟨by rw [e9d]; exact q2,x,q3,e4n hi hb hce hsz hlen hit hmn hal q4 (fun off size len' cap he=> ?_) hla⟩
   subst he
   exact hrow j c0 h0 _ _ _ _ (List.mem_of_getElem? q1)
  |it s p h5=>exact .it s p h5
 ·obtain ⟨h1,h2⟩:=hblk hj
  obtain ⟨c,h3⟩:=hi.dom j b h2
  exact ⟨c.map (rfz n els),by simp only [f6b,List.getElem?_map,d2u h1 h3]; rfl⟩
 ·obtain ⟨c0,k0,rfl⟩:=hget hj
  obtain ⟨c1,k1,rfl⟩:=hget hl
  exact hi.inj j l b c0 c1 (b1t k0).2 (b1t k1).2 (hne hc) (hne hc') (hblk h1).2 (hblk h2).2
 ·rw [List.getElem?_take] at hc
  split at hc
  ·rename_i h1
   obtain ⟨e,h2,h3⟩:=hi.buf id c hc
   exact ⟨e,by simp only [Sg.cut]; rw [if_pos h1]; exact h2,h3⟩
  ·cases hc
 ·obtain ⟨h1,h2⟩:=hbuf he
  rw [List.getElem?_take,if_pos h1]
  exact hi.bufdom id e h2
 ·have hl0:Lift.low m k (.elt cells 0)=true:=by simp only [Lift.low]; exact lowL_plain m k cells (List.all_eq_true.1 hg _ hgl)
  exact (hi.glob g cells hgl).cut hl0
end
theorem h1z {P:Program} {h:A4} {env:Env} {N kb kf:Nat} {Q:Exit ->Env ->A4 ->Prop} {x:O1} {α:Type} {f:α ->List AV} {sz:Nat} (n:Nat) (m:List Bool) (k c c':Nat) (l:List α) (len:Nat) (e:Env) (bs:List (Option (List AV))) (hs:∀y,(f y).length=sz) (hni:∀y,a7f (f y)=true) (hlen:l.length=len) (hw:a9l m k e=true /\ a6x m k bs=true) (hx:D P N kb kf x Q e ⟨bs,h.bufs.take k,h.globs⟩) (hb:h.blks[n]? =some (some (cellsOf f l)):=by kernel_rfl) (hrow:b7k n env=List.replicate c (0,sz,len):=by kernel_rfl) (hrowB:e3z n (Z8 m h.blks)=List.replicate c' (0,sz,len):=by kernel_rfl) (hmn:m.getD n false=false:=by kernel_rfl) (hal:c4a m h.blks=true:=by kernel_rfl) (hm:∀k,k<kb ->m.getD k false=true:=by intro k hk; first|exact absurd hk (Nat.not_lt_zero _)|exact g1k rfl k hk) (hkf:Nat.ble kf k=true:=by kernel_rfl) (hE:f4o n (List.map f l) env=e:=by kernel_rfl) (hbs:f6b n (List.map f l) (Z8 m h.blks)=bs:=by kernel_rfl) (hg:S6 h.globs=true:=by kernel_rfl):D P N kb kf x Q env h:=⟨by
 subst hbs hE
 intro co hc σ0 σ a hst hle hl
 have h1:(List.map f l).flatten=cellsOf f l:=rfl
 have h2:∀el∈List.map f l,el.length=sz:=b86 hs
 have h3:(List.map f l).length=len:=by rw [List.length_map]; exact hlen
 have h4:List.map f l≠[] ->a7f (cellsOf f l)=true:=fun h0=>a5u hni (fun h=>h0 (by rw [h]; rfl))
 have inr:∀{c:Nat} {q:Nat × Nat × Nat},q∈List.replicate c (0,sz,len) ->q.1=0 /\ q.2.1=sz /\ q.2.2=len:=by
  intro c q hq
  rw [(List.mem_replicate.1 hq).2]
  exact ⟨rfl,rfl,rfl⟩
 refine hx.out co hc σ0 (σ.cut m k) a ⟨hst.inv.cutR hb h1 h2 h3 h4 hmn hal (fun i c hc off size len' cap ha=> ?_) hw.2 hg,fun t av ht=> ?_,hst.size,hst.defers⟩ (hle.cut hl hm (Nat.le_of_ble_eq_true hkf)) hl
 ·have:=d5q hc (d3r ha)
  rw [hrowB] at this
  exact inr this
 ·have hlow:=c01 hw.1 ht
  obtain ⟨a0,k1,rfl⟩:=d12 ht
  obtain ⟨y,k2,k3⟩:=hst.env t a0 k1
  refine ⟨y,k2,e4n hst.inv hb h1 h2 h3 h4 hmn hal k3 (fun off size len' cap he=> ?_) hlow⟩
  subst he
  have:=c3a k1
  rw [hrow] at this
  exact inr this⟩
def f85 {α:Type} (P:Program) (e:α ->List AV) (sz:Nat) (f:FuncId) (l:List α):Prop:=
 b73 P f [.sl (l.map e) .no] ⟨[],[],[]⟩ fun a h=>a=.sl (l.map e) (.own 0) /\ h=⟨[],[(l.length,sz)],[]⟩
section
variable {α:Type} {e:α ->List AV} {sz:Nat}
theorem e5p {P:Program} {f:FuncId} {l:List α} {args':List AV} {h:A4} {K:AV ->A4 ->Prop} (hf:f85 P e sz f l) (hpl:∀y,plainL (e y)=true) (ha:args'.map nz=[.sl (l.map e) .no])
  (hk:K (.sl (l.map e) (.own h.bufs.length)) ⟨h.blks,h.bufs++[(l.length,sz)],h.globs⟩):b73 P f args' h K:=by
 refine ⟨hf.1,fun σ cargs hi hr=> ?_⟩
 have hopen:∀b o,σ.open_ b o ->b<σ.w.heap.size:=by
  rintro b o (ho|⟨n,hn⟩|⟨id,e,he,hs⟩)
  ·exact (hi.outer b o ho).1
  ·exact hi.lt hn
  ·obtain ⟨v,hv⟩:=Option.isSome_iff_exists.1 (hi.bufat id e b o he hs).1
   exact a27 hv
 have hpp:plainLL (l.map e)=true:=D4 e l fun y _=>hpl y
 have hp:plainL [AV.sl (l.map e) .no]=true:=by
  simp only [plainL,plain,Bool.and_true,Bool.true_and]
  exact hpp
 have hrels:c6c (bare σ.w σ.open_) [.sl (l.map e) .no] cargs.toList:=by
  refine ⟨by rw [hr.1,<-ha]; simp,fun i av hav=> ?_⟩
  have hav':=hav
  rw [<-ha] at hav
  simp only [List.getElem?_map,Option.map_eq_some_iff] at hav
  obtain ⟨b,hb,rfl⟩:=hav
  obtain ⟨x,h1,h2⟩:=hr.2 i b hb
  exact ⟨x,h1,h2.nz.down (P0 hp i _ hav') rfl fun _ _ h=>h⟩
 have hglobs:d54 σ.w σ.open_ []:=fun g cells hg=>by cases hg
 refine (hf.2 (bare σ.w σ.open_) cargs (c6f hopen hglobs) hrels).mono fun e1 w' hq=> ?_
 obtain ⟨σ1,h1,av,x,rfl,rfl,hle,hi1,hrx,rfl,rfl⟩:=hq
 have hpast:b8c σ.w σ1.w:=⟨hle.size,fun b hb=>hle.whole b hb fun o=>b2h σ.w σ.open_ b o,hle.os,hle.tape,hle.output⟩
 obtain ⟨eb,heb,hec⟩:=hi1.buf 0 _ rfl
 have hsp:∀b o,eb.spare b o ->σ.w.heap.size<=b:=by
  intro b o hs
  rcases Nat.lt_or_ge b σ.w.heap.size with hlt|hge
  ·exact (b2h σ.w σ.open_ b o (hle.own b o hlt (.inr ⟨0,eb,heb,hs⟩))).elim
  ·exact hge
 let σ2:Sg:=⟨σ1.w,σ.blk,fun id=>if id=h.bufs.length then some eb else σ.buf id,σ.outer⟩
 have hbn:∀id e,σ.buf id=some e ->id<h.bufs.length:=fun id e he=>(List.getElem?_eq_some_iff.1 (hi.bufdom id e he)).1
 have hblt:∀n b,σ.blk n=some b ->b<σ.w.heap.size:=fun n b hn=>hi.lt hn
 have hslt:∀id e b o,σ.buf id=some e ->e.spare b o ->b<σ.w.heap.size:=by
  intro id e b o he hs
  obtain ⟨v,hv⟩:=Option.isSome_iff_exists.1 (hi.bufat id e b o he hs).1
  exact a27 hv
 have hb2:∀{id:Nat} {f:Buf},σ2.buf id=some f ->(id=h.bufs.length /\ f=eb)\/(id≠h.bufs.length /\ σ.buf id=some f):=by
  intro id f hf
  simp only [σ2] at hf
  split at hf
  ·rename_i h0; cases hf; exact .inl ⟨h0,rfl⟩
  ·rename_i h0; exact .inr ⟨h0,hf⟩
 have hle2:Le σ σ2:={
  blk:=fun n b hn=>hn
  buf:=fun id f hf=>⟨f,by show (if id=h.bufs.length then some eb else σ.buf id)=some f; rw [if_neg (by have:=hbn id f hf; omega)]; exact hf,Nat.le_refl _,rfl,fun _=>rfl⟩
  outer:=rfl
  cell:=fun b o hb _=>U0 (hpast.old b hb) o
  ext:=(Le.world (σ:=σ) hpast).ext
  whole:=fun b hb _=>hpast.old b hb
  own:=fun b o hb ho=>by
   rcases ho with ⟨n,hn⟩|⟨id,f,hf,hs⟩
   ·exact .inl ⟨n,hn⟩
   ·rcases hb2 hf with ⟨_,rfl⟩|⟨_,hf'⟩
    ·have:=hsp b o hs; omega
    ·exact .inr ⟨id,f,hf',hs⟩
  size:=hpast.size
  os:=hpast.os
  tape:=hpast.tape
  output:=hpast.output}
 have hop:∀b o,σ2.open_ b o ->σ1.open_ b o:=by
  have side:∀b o,σ.open_ b o ->σ1.open_ b o:=fun b o h=>.inl (by rw [hle.outer]; exact h)
  rintro b o (ho|⟨n,hn⟩|⟨id,f,hf,hs⟩)
  ·exact side b o (.inl ho)
  ·exact side b o (.inr (.inl ⟨n,hn⟩))
  ·rcases hb2 hf with ⟨_,rfl⟩|⟨_,hf'⟩
   ·exact .inr (.inr ⟨0,f,heb,hs⟩)
   ·exact side b o (.inr (.inr ⟨id,f,hf',hs⟩))
 have hbuf2:σ2.buf h.bufs.length=some eb:=if_pos rfl
 refine ⟨σ2,_,_,x,rfl,rfl,hle2, ?_, ?_,hk⟩
 ·exact {
   blk:=fun n cs hn=>by
    obtain ⟨b,h1,h2⟩:=hi.blk n cs hn
    exact ⟨b,h1,h2.keep hle2 (hpast.old b h2.lt)⟩
   dom:=hi.dom
   inj:=hi.inj
   buf:=fun id c hc=>by
    by_cases hl:id<h.bufs.length
    ·rw [List.getElem?_append_left hl] at hc
     obtain ⟨f,h1,h2⟩:=hi.buf id c hc
     exact ⟨f,by show (if id=h.bufs.length then some eb else σ.buf id)=some f; rw [if_neg (by omega)]; exact h1,h2⟩
    ·rw [List.getElem?_append_right (by omega)] at hc
     have hz:id=h.bufs.length:=by
      by_cases hz:id - h.bufs.length=0
      ·omega
      ·rw [List.getElem?_eq_none (by simp; omega)] at hc; cases hc
     subst hz
     simp at hc
     exact ⟨eb,hbuf2,by rw [hec,<-hc]⟩
   bufdom:=fun id f hf=>by
    rcases hb2 hf with ⟨rfl,rfl⟩|⟨h0,hf'⟩
    ·rw [List.getElem?_append_right (Nat.le_refl _),Nat.sub_self,hec]; rfl
    ·rw [List.getElem?_append_left (hbn id f hf')]; exact hi.bufdom id f hf'
   bufle:=fun id f hf=>by
    rcases hb2 hf with ⟨_,rfl⟩|⟨_,hf'⟩
    ·exact hi1.bufle 0 f heb
    ·exact hi.bufle id f hf'
   bufat:=fun id f b o hf hs=>by
    rcases hb2 hf with ⟨_,rfl⟩|⟨_,hf'⟩
    ·exact hi1.bufat 0 f b o heb hs
    ·exact (hi.world hpast).bufat id f b o hf' hs
   bufinj:=fun i j f g b o hf hg h1 h2=>by
    rcases hb2 hf with ⟨rfl,rfl⟩|⟨_,hf'⟩<;>rcases hb2 hg with ⟨rfl,rfl⟩|⟨_,hg'⟩
    ·rfl
    ·have:=hsp b o h1; have:=hslt j g b o hg' h2; omega
    ·have:=hsp b o h2; have:=hslt i f b o hf' h1; omega
    ·exact hi.bufinj i j f g b o hf' hg' h1 h2
   bufblk:=fun id f n b o hf hs hn=>by
    rcases hb2 hf with ⟨_,rfl⟩|⟨_,hf'⟩
    ·have:=hsp b o hs; have:=hblt n b hn; omega
    ·exact hi.bufblk id f n b o hf' hs hn
   outer:=fun b o ho=>by
    obtain ⟨h1,h2⟩:=hi.outer b o ho
    exact ⟨Nat.lt_of_lt_of_le h1 hpast.size,fun hx=>h2 (hle2.own b o h1 hx)⟩
   glob:=fun g cells hg=>(hi.glob g cells hg).mono hle2}
 ·have tk:∀{len:Nat} {a:Option Addr} {cap:Nat},c1q σ1 (.own 0) len a cap ->c1q σ2 (.own h.bufs.length) len a cap:=by
   rintro len a cap ⟨f,h1,h2⟩
   rw [heb] at h1; cases h1
   exact ⟨eb,hbuf2,h2⟩
  generalize hels:l.map e=els at hrx hpp ⊢
  cases hrx with
  |sl0 _ ht=>exact .sl0 _ (tk ht)
  |slx _ a cap ht hc=>exact .slx _ a cap (tk ht) (hc.elim (fun h=>by cases h) .inr)
  |sl _ _ b o cap size xs hs hcap ht hz hc hr=>
   refine .sl _ _ b o cap size xs hs hcap (tk ht) (fun j f hj hf=> ?_) (fun i el hi j av hj=> ?_) fun i el hi j av hj=> ?_
   ·cases hj; rw [hbuf2] at hf; cases hf; exact hz 0 eb rfl heb
   ·obtain ⟨h1,h2,h3⟩:=hc i el hi j av hj
    exact ⟨h1,fun h=>h2 (hop _ _ h),h3⟩
   ·exact (hr i el hi j av hj).move (P0 (a4y hpp i el hi) j av hj) rfl hop
theorem g0m {P:Program} {g:FuncId} {env:Env} {args:List J6} {h:A4} {l:List α} (hf:f85 P e sz g l) (hpl:∀y,plainL (e y)=true) (ha:(evs env args).map (List.map nz)=some [.sl (l.map e) .no]:=by kernel_rfl):
  a12 P (.call (.c (.clo (.func g) [] [])) args) env h (.sl (l.map e) (.own h.bufs.length)) ⟨h.blks,h.bufs++[(l.length,sz)],h.globs⟩:=by
 obtain ⟨l',h1,h2⟩:=Option.map_eq_some_iff.1 ha
 exact fun K hk=>(d3z rfl h1 (e5p hf hpl h2 hk)).out
def g27 (e:α ->List AV) (sz:Nat) (rs:List b6o) (l:List α):Exit ->Env ->A4 ->Prop
 |.ret,env,h=>d15 env h rs fun l'=>c9d l'=.sl (l.map e) (.own 0) /\ h=⟨[],[(l.length,sz)],[]⟩
 |_,_,_=>False
theorem f9h {P:Program} {N:Nat} {f:FuncId} {ac:O1} {rs:List b6o} (hf:a8m P f=some (N,ac,rs)) {l:List α} {e₀:Env} (hn:Nat.ble 1 N=true) (he:b6h 0 [.sl (l.map e) .no]=e₀)
  (hbody:D P N 0 0 ac (g27 e sz rs l) e₀ ⟨[],[],[]⟩):f85 P e sz f l:=by
 subst he
 refine d66 hf (Nat.le_of_ble_eq_true hn) (c1m (c19 (Nat.le_refl _) (Nat.le_refl _) hbody) fun x env h hq=> ?_)
 cases x<;>first|exact hq|exact hq.elim
theorem g2b {rs:List b6o} {l l2:List α} {env:Env} {h:A4} (hl:l=l2) (hh:h=⟨[],[(l2.length,sz)],[]⟩:=by kernel_rfl) (ho:(c22 env h rs).map c9d=some (.sl (l2.map e) (.own 0)):=by kernel_rfl):g27 e sz rs l .ret env h:=by
 subst hl
 obtain ⟨l',h1,h2⟩:=Option.map_eq_some_iff.1 ho
 exact b2m h1 ⟨h2,hh⟩
end
def cdN (P:Program) (f:Nat):Nat:=((a8m P f).map fun x=>x.1).getD 0
def cdC (P:Program) (f:Nat):O1:=((a8m P f).map fun x=>x.2.1).getD .skip
def cdR (P:Program) (f:Nat):List b6o:=((a8m P f).map fun x=>x.2.2).getD []
def g65 (o:AOp) (env:Env):Option AV:=
 match o with
 |.len true x=>match x.ev env with
  |some (.v (.string s))=>some (.v (.int .i64 s.size))
  |_=>none
 |.bin .eql x y=>match x.ev env,y.ev env with
  |some (.v (.string a)),some (.v (.string b))=>some (.v (.bool (decide (a=b))))
  |_,_=>none
 |.bin .neq x y=>match x.ev env,y.ev env with
  |some (.v (.string a)),some (.v (.string b))=>some (.v (.bool (!decide (a=b))))
  |_,_=>none
 |.bin .lss x y=>match x.ev env,y.ev env with
  |some (.v (.string a)),some (.v (.string b))=>some (.v (.bool (Op.bytesLess a.toList b.toList)))
  |_,_=>none
 |.bin .leq x y=>match x.ev env,y.ev env with
  |some (.v (.string a)),some (.v (.string b))=>some (.v (.bool (Op.bytesLess a.toList b.toList||a.toList==b.toList)))
  |_,_=>none
 |.bin .gtr x y=>match x.ev env,y.ev env with
  |some (.v (.string a)),some (.v (.string b))=>some (.v (.bool (!(Op.bytesLess a.toList b.toList||a.toList==b.toList))))
  |_,_=>none
 |.bin .geq x y=>match x.ev env,y.ev env with
  |some (.v (.string a)),some (.v (.string b))=>some (.v (.bool (!(Op.bytesLess a.toList b.toList))))
  |_,_=>none
 |.pick c x y=>match c.ev env,x.ev env,y.ev env with
  |some (.v (.bool t)),some (.v (.bool a)),some (.v (.bool b))=>some (.v (.bool (bif t then a else b)))
  |some (.v (.bool t)),some (.v (.int k a)),some (.v (.int k2 b))=>if k=k2 then some (.v (.int k (bif t then a else b))) else none
  |some (.v (.bool t)),some (.v (.string a)),some (.v (.string b))=>some (.v (.string (bif t then a else b)))
  |_,_,_=>none
 |.minmax true [x,y]=>match x.ev env,y.ev env with
  |some (.v (.int k a)),some (.v (.int _ b))=>some (.v (.int k (max a b)))
  |_,_=>none
 |.minmax false [x,y]=>match x.ev env,y.ev env with
  |some (.v (.int k a)),some (.v (.int _ b))=>some (.v (.int k (min a b)))
  |_,_=>none
 |.minmax true [x,y,z]=>match x.ev env,y.ev env,z.ev env with
  |some (.v (.int k a)),some (.v (.int _ b)),some (.v (.int _ c))=>some (.v (.int k (max (max a b) c)))
  |_,_,_=>none
 |.minmax false [x,y,z]=>match x.ev env,y.ev env,z.ev env with
  |some (.v (.int k a)),some (.v (.int _ b)),some (.v (.int _ c))=>some (.v (.int k (min (min a b) c)))
  |_,_,_=>none
 |_=>none
theorem d9l {P:Program} {o:AOp} {env:Env} {av:AV} (he:g65 o env=some av) (h:A4):a12 P o env h av h:=by
 unfold g65 at he
 split at he
 case h_1=>
  split at he
  ·rename_i hx; cases he; exact f9w hx
  ·cases he
 case h_2=>
  split at he
  ·rename_i hx hy; cases he; exact g5s hx hy
  ·cases he
 case h_3=>
  split at he
  ·rename_i hx hy; cases he; exact g5y hx hy
  ·cases he
 case h_4=>
  split at he
  ·rename_i hx hy; cases he; exact d4r hx hy (c:=True) rfl trivial
  ·cases he
 case h_5=>
  split at he
  ·rename_i hx hy; cases he; exact d4r hx hy (c:=True) rfl trivial
  ·cases he
 case h_6=>
  split at he
  ·rename_i hx hy; cases he; exact d4r hx hy (c:=True) rfl trivial
  ·cases he
 case h_7=>
  split at he
  ·rename_i hx hy; cases he; exact d4r hx hy (c:=True) rfl trivial
  ·cases he
 case h_8=>
  split at he
  ·rename_i hc hx hy; cases he; exact f5x hc hx hy
  ·rename_i hc hx hy
   split at he
   ·rename_i hk; subst hk; cases he; exact f7d hc hx hy
   ·cases he
  ·rename_i hc hx hy; cases he; exact f6t hc hx hy
  ·cases he
 case h_9=>
  split at he
  ·rename_i hx hy; cases he; exact f9n hx hy
  ·cases he
 case h_10=>
  split at he
  ·rename_i hx hy; cases he; exact g1j hx hy
  ·cases he
 case h_11=>
  split at he
  ·rename_i hx hy hz; cases he; exact f9r hx hy hz
  ·cases he
 case h_12=>
  split at he
  ·rename_i hx hy hz; cases he; exact f99 hx hy hz
  ·cases he
 case h_13=>cases he
inductive Fr where
 |sq (y:O1)
 |bk (i:Nat)
 |lp (x:O1)
 |sc (l:Nat) (x:O1)
 |sn
inductive Pc where
 |c (x:O1)
 |v (L:List C2)
 |s (b:Bool) (L:List C2) (S gl:List (Nat × List AV)) (w:Option C2) (tl:List C2)
 |n (e:Exit)
 |l (x:O1)
 |g (l:Nat) (x:O1)
structure Mc where
 pc:Pc
 k:List Fr
 env:Env
 h:A4
inductive Rm where
 |ret (r:AV)
 |io (k:Nat) (r:AV) (c:List AV) (b:List (Nat × Nat))
def Rm.kb:Rm ->Nat
 |.ret _=>0
 |_=>1
def Rm.kf:Rm ->Nat
 |.ret _=>0
 |.io k _ _ _=>k
def Rm.Q (rs:List b6o):Rm ->Exit ->Env ->A4 ->Prop
 |.ret r=>f87 rs r
 |.io k r c b=>qio k rs r c b
section
variable (P:Program) (f:Nat) (R:Rm)
def Qs:List Fr ->Exit ->Env ->A4 ->Prop
 |[]=>R.Q (cdR P f)
 |.sq y::k=>d7d (fun e h=>D P (cdN P f) R.kb R.kf y (Qs k) e h) (Qs k)
 |.bk i::k=>c06 i (Qs k)
 |.lp x::k=>d7d (fun e h=>DL P (cdN P f) R.kb R.kf x (Qs k) e h) (Qs k)
 |.sc l x::k=>e4j l (fun e h=>DG P (cdN P f) R.kb R.kf x l (Qs k) e h) (Qs k)
 |.sn::k=>d7i (Qs k)
def KK (w:Option C2) (tl:List C2) (K:Env ->A4 ->Prop):Env ->A4 ->Prop:=match w with
 |none=>fun e h=>vd P tl e h K
 |some w=>fun e h=>∃av h',a12 P w.op e h av h' /\ vd P tl e h' K
def Ok (s:Mc):Prop:=match s.pc with
 |.c x=>D P (cdN P f) R.kb R.kf x (Qs P f R s.k) s.env s.h
 |.v L=>vd P L s.env s.h (fun e h=>Qs P f R s.k .normal e h)
 |.s b L S gl w tl=>vs P (InS S gl) b L s.env s.h (KK P w tl fun e h=>Qs P f R s.k .normal e h)
 |.n e=>Qs P f R s.k e s.env s.h
 |.l x=>DL P (cdN P f) R.kb R.kf x (Qs P f R s.k) s.env s.h
 |.g l x=>DG P (cdN P f) R.kb R.kf x l (Qs P f R s.k) s.env s.h
end
def c1z:O1 ->Option Nat
 |.goto l=>some l
 |.seq a b=>match c1z a with
  |some l=>some l
  |none=>c1z b
 |.cond _ a b=>match c1z a with
  |some l=>some l
  |none=>c1z b
 |.block _ a=>c1z a
 |.loop a=>c1z a
 |.scope a=>c1z a
 |_=>none
def pop:Exit ->List Fr ->Option (Pc × List Fr)
 |_,[]=>none
 |e,.sq y::k=>match e with
  |.normal=>some (.c y,k)
  |e=>some (.n e,k)
 |e,.lp x::k=>match e with
  |.normal=>some (.l x,k)
  |e=>some (.n e,k)
 |e,.bk j::k=>match e with
  |.exit i=>some (.n (if i=j then .normal else .exit i),k)
  |e=>some (.n e,k)
 |e,.sc l x::k=>match e with
  |.goto i=>if i=l then some (.g l x,k) else none
  |e=>some (.n e,k)
 |e,.sn::k=>match e with
  |.goto _=>none
  |e=>some (.n e,k)
def bnd (S:List (Nat × List AV)):Nat:=S.foldl (fun n p=>max n (p.1+1)) 0
def opn (o:C2) (env:Env) (h:A4):Option (AV × A4):=match g65 o.op env with
 |some a=>some (a,h)
 |none=>c91 false noC o.op env h
def c0x (s:Mc):Mc:=match s.pc with
 |.c x=>match x with
  |.skip=>⟨.n .normal,s.k,s.env,s.h⟩
  |.region L=>⟨.v L,s.k,s.env,s.h⟩
  |.seq a b=>⟨.c a,.sq b::s.k,s.env,s.h⟩
  |.block i a=>⟨.c a,.bk i::s.k,s.env,s.h⟩
  |.cond c a b=>match c.ev s.env with
   |some (.v (.bool true))=>⟨.c a,s.k,s.env,s.h⟩
   |some (.v (.bool false))=>⟨.c b,s.k,s.env,s.h⟩
   |_=>s
  |.loop a=>⟨.l a,s.k,s.env,s.h⟩
  |.exit i=>⟨.n (.exit i),s.k,s.env,s.h⟩
  |.ret=>⟨.n .ret,s.k,s.env,s.h⟩
  |.scope a=>match c1z a with
   |none=>⟨.c a,.sn::s.k,s.env,s.h⟩
   |some l=>match b37 a l with
    |some _=>⟨.c a,.sc l a::s.k,s.env,s.h⟩
    |none=>s
  |.label _=>⟨.n .normal,s.k,s.env,s.h⟩
  |.goto l=>⟨.n (.goto l),s.k,s.env,s.h⟩
  |_=>s
 |.v []=>⟨.n .normal,s.k,s.env,s.h⟩
 |.v (o::L)=>match I9 s.env o.guard with
  |some false=>⟨.v L,s.k,b38 s.env o.dst,s.h⟩
  |some true=>match opn o s.env s.h with
   |some p=>⟨.v L,s.k,b22 s.env o.dst p.1,p.2⟩
   |none=>s
  |none=>s
 |.s _ [] _ _ none tl=>⟨.v tl,s.k,s.env,s.h⟩
 |.s _ [] _ _ (some _) _=>s
 |.s b (o::L) S gl w tl=>match I9 s.env o.guard with
  |some false=>⟨.s b L S gl w tl,s.k,b38 s.env o.dst,s.h⟩
  |some true=>match o.op,o.guard,b with
   |.alloc cells,none,true=>⟨.s b L S gl w tl,s.k,b22 s.env o.dst (.ptr s.h.blks.length 0),⟨s.h.blks++[some cells],s.h.bufs,s.h.globs⟩⟩
   |_,_,_=>if V3 o.op=true then match opn o s.env ⟨d51 (bnd S) S,[],gl⟩ with
    |some p=>⟨.s b L S gl w tl,s.k,b22 s.env o.dst p.1,s.h⟩
    |none=>s
    else s
  |none=>s
 |.n e=>match pop e s.k with
  |some p=>⟨p.1,p.2,s.env,s.h⟩
  |none=>s
 |.l x=>⟨.c x,.lp x::s.k,s.env,s.h⟩
 |.g l x=>match b37 x l with
  |some y=>⟨.c y,.sc l x::s.k,s.env,s.h⟩
  |none=>s
def run:Nat ->Mc ->Mc
 |0,s=>s
 |n+1,s=>run n (c0x s)
section
variable {P:Program} {f:Nat} {R:Rm} {s:Mc}
theorem e2x:∀k,c4l fun e h=>Qs P f R k .normal e h
 |[]=>by cases R<;>first|exact d34|exact g6r
 |.sq y::k=>f86
 |.bk i::k=>e2x k
 |.lp x::k=>e0a
 |.sc l x::k=>e2x k
 |.sn::k=>e2x k
theorem g6j {w:Option C2} {tl:List C2} {K:Env ->A4 ->Prop} (hK:c4l K):c4l (KK P w tl K):=by
 cases w with
 |none=>exact d6y hK
 |some w=>exact fun e env h he ⟨av,h',hd,hv⟩=>⟨av,h',hd.less he,c0h hK he hv⟩
theorem e3u {n:Nat} {S gl:List (Nat × List AV)} {o:C2} {env:Env} {p:AV × A4} (hq:V3 o.op=true) (he:opn o env ⟨d51 n S,[],gl⟩=some p):∀h2,InS S gl h2 ->c9m P o.op env h2 p.1:=by
 unfold opn at he
 split at he
 ·rename_i a ha
  cases he
  exact fun h2 _=>(d9l ha h2).q
 ·exact d31 hq he
theorem d8i {o:C2} {env:Env} {h:A4} {p:AV × A4} (he:opn o env h=some p):a12 P o.op env h p.1 p.2:=by
 unfold opn at he
 split at he
 ·rename_i a ha
  cases he
  exact d9l ha h
 ·exact f4h he
theorem f94 {e:Exit} {k:List Fr} {p:Pc × List Fr} {env:Env} {h:A4} (hp:pop e k=some p) (hk:Ok P f R ⟨p.1,p.2,env,h⟩):Qs P f R k e env h:=by
 cases k with
 |nil=>cases hp
 |cons fr k=>
  cases fr with
  |sq y=>cases e<;>(cases hp; exact hk)
  |lp x=>cases e<;>(cases hp; exact hk)
  |bk j=>
   cases e with
   |exit i=>
    cases hp
    show (if i=j then Qs P f R k .normal env h else Qs P f R k (.exit i) env h)
    split
    ·rename_i hij; rw [if_pos hij] at hk; exact hk
    ·rename_i hij; rw [if_neg hij] at hk; exact hk
   |_=>cases hp; exact hk
  |sc l x=>
   cases e
   case goto i=>
    simp only [pop] at hp
    split at hp
    ·rename_i hil; cases hp; exact ⟨hil,hk⟩
    ·cases hp
   all_goals (cases hp; exact hk)
  |sn=>cases e<;>(cases hp; try exact hk)
theorem f6k (hk:Ok P f R (c0x s)):Ok P f R s:=by
 obtain ⟨pc,k,env,h⟩:=s
 cases pc with
 |c x=>
  cases x with
  |skip=>exact e4c hk
  |region L=>exact dr hk
  |seq a b=>exact d8d hk
  |block i a=>exact f0b hk
  |loop a=>exact f45 hk
  |exit i=>exact f9m hk
  |ret=>exact e8z hk
  |label _=>exact f57 hk
  |goto l=>exact g1c hk
  |cond c a b=>
   simp only [c0x] at hk
   split at hk
   ·rename_i hc; exact d84 hc rfl hk
   ·rename_i hc; exact d8e hc rfl hk
   ·exact hk
  |scope a=>
   simp only [c0x] at hk
   split at hk
   ·exact f0j hk
   ·split at hk
    ·rename_i hf; exact f1v hf hk
    ·exact hk
  |_=>exact hk
 |v L=>
  cases L with
  |nil=>exact hk
  |cons o L=>
   simp only [c0x] at hk
   split at hk
   ·rename_i hg; exact .inl ⟨hg,hk⟩
   ·rename_i hg
    split at hk
    ·rename_i p hp; exact .inr (.inl ⟨hg,p.1,p.2,d8i hp,hk⟩)
    ·exact hk
   ·exact hk
 |s b L S gl w tl=>
  cases L with
  |nil=>cases w<;>exact hk
  |cons o L=>
   simp only [c0x] at hk
   split at hk
   ·rename_i hg; exact .inl ⟨hg,hk⟩
   ·rename_i hg
    split at hk
    ·rename_i cells h1 h2
     exact .inr (.inr (.inr ⟨rfl,cells,h1,h2,hk⟩))
    ·split at hk
     ·rename_i hq
      split at hk
      ·rename_i p hp; exact .inr (.inl ⟨hg,hq,p.1,e3u hq hp,hk⟩)
      ·exact hk
     ·exact hk
   ·exact hk
 |n e=>
  simp only [c0x] at hk
  split at hk
  ·rename_i p hp; exact f94 hp hk
  ·exact hk
 |l x=>exact e28 hk
 |g l x=>
  simp only [c0x] at hk
  split at hk
  ·rename_i hf; exact e6t hf hk
  ·exact hk
theorem N1:∀(n:Nat) {s:Mc},Ok P f R (run n s) ->Ok P f R s
 |0,_,hk=>hk
 |n+1,_,hk=>f6k (N1 n hk)
theorem c8g {e:Env} (he:c2h e s.env) (hc:(match s.pc with|.n _=>false|.g _ _=>false|_=>true)=true) (hk:Ok P f R ⟨s.pc,s.k,e,s.h⟩):Ok P f R s:=by
 obtain ⟨pc,k,env,h⟩:=s
 cases pc with
 |c x=>exact f86 e env h he hk
 |v L=>exact c0h (e2x k) he hk
 |s b L S gl w tl=>exact c3x (g6j (e2x k)) he hk
 |l x=>exact e0a e env h he hk
 |_=>cases hc
end
structure En (α:Type) where
 e:α ->List AV
 f:α ->List AV
 sz:Nat
 eq:∀y,f y=e y
 len:∀y,(e y).length=sz
 ro:c2u f sz
def oX:AOp ->J6
 |.idxSl _ x _=>x
 |.idxS x _=>x
 |.len _ x=>x
 |.bin _ x _=>x
 |.sliceS x _ _=>x
 |.sliceV _ x _ _ _=>x
 |.append _ _ x _=>x
 |.conv _ x=>x
 |.bytes x=>x
 |.load _ x=>x
 |.store _ p _=>p
 |.make _ _ _ x _=>x
 |.call f _=>f
 |.eq _ _ x _=>x
 |.next x=>x
 |.assertT _ _ _ x=>x
 |_=>.t 0
def oY:AOp ->J6
 |.idxSl _ _ i=>i
 |.idxS _ i=>i
 |.bin _ _ y=>y
 |.append _ _ _ y=>y
 |.store _ _ x=>x
 |.make _ _ _ _ y=>y
 |.eq _ _ _ y=>y
 |_=>.t 0
def oA:AOp ->List J6
 |.call _ l=>l
 |_=>[]
def oLo:AOp ->Option J6
 |.sliceS _ l _=>l
 |.sliceV _ _ l _ _=>l
 |_=>none
def oHi:AOp ->Option J6
 |.sliceS _ _ l=>l
 |.sliceV _ _ _ l _=>l
 |_=>none
def oMx:AOp ->J6
 |.sliceV _ _ _ _ (some m)=>m
 |_=>.t 0
def oZ:AOp ->AV
 |.assertT _ _ z _=>z
 |_=>.nil
def oB:AOp ->BinOp
 |.bin b _ _=>b
 |_=>.add
def opS (s:Mc):C2:=match s.pc with
 |.v (o::_)=>o
 |.s _ (o::_) _ _ _ _=>o
 |.s _ [] _ _ (some w) _=>w
 |_=>⟨none,.alloc [],none⟩
def op (s:Mc):AOp:=(opS s).op
def put (s:Mc) (av:AV):Mc:=match s.pc with
 |.v (o::L)=>⟨.v L,s.k,b22 s.env o.dst av,s.h⟩
 |.s b (o::L) S gl w tl=>⟨.s b L S gl w tl,s.k,b22 s.env o.dst av,s.h⟩
 |_=>s
def c9l (s:Mc) (av:AV) (h:A4):Mc:=match s.pc with
 |.v (o::L)=>⟨.v L,s.k,b22 s.env o.dst av,h⟩
 |.s _ (o::L) S gl w tl=>⟨.s false L S gl w tl,s.k,b22 s.env o.dst av,h⟩
 |.s _ [] _ _ (some _) tl=>⟨.v tl,s.k,s.env,h⟩
 |_=>s
def okS (s:Mc):Bool:=match s.pc with
 |.v (o::_)=>I9 s.env o.guard==some true
 |.s _ (o::_) _ _ _ _=>I9 s.env o.guard==some true&&V3 o.op
 |_=>false
def okH (s:Mc):Bool:=match s.pc with
 |.v (o::_)=>I9 s.env o.guard==some true
 |.s _ (o::_) _ _ _ _=>I9 s.env o.guard==some true&& !V3 o.op&& !c2x o
 |.s _ [] _ _ (some _) _=>true
 |_=>false
def seS (s:Mc) (h:A4):Option (List (Option (Option (List AV))) × List (Nat × List AV)):=match s.pc with
 |.s _ (_::_) S _ _ _=>some (inS S h,h.globs)
 |_=>none
def seE (s:Mc):Option (List (Option (Option (List AV))) × List (Nat × List AV)):=match s.pc with
 |.s _ (_::_) S gl _ _=>some (S.map (fun p=>some (some p.2)),gl)
 |_=>none
def g3o (s:Mc) (h:A4):Prop:=match s.pc with
 |.s _ _ S gl _ _=>InS S gl h
 |_=>h=s.h
def e3n (s:Mc):List (Nat × List AV):=match s.pc with
 |.s _ _ _ gl _ _=>gl
 |_=>s.h.globs
def g4v (s:Mc) (r:Nat):Option (List AV):=match s.pc with
 |.s _ _ S _ _ _=>(S.find? fun p=>p.1==r).map (·.2)
 |_=>(s.h.blks[r]?).bind id
def xv (s:Mc):Option AV:=(oX (op s)).ev s.env
def yv (s:Mc):Option AV:=(oY (op s)).ev s.env
def g5f (s:Mc):Value:=((g4k (oB (op s)) (xv s) (yv s)).map (·.2)).getD (.bool true)
def g4b (x:Option AV):ByteArray:=match x with
 |some (.v (.string t))=>t
 |_=>⟨#[]⟩
def g18 (x:Option AV):Nat:=match x with
 |some (.sl _ (.own i))=>i
 |_=>0
def e0v (x:Option AV):Nat:=match x with
 |some (.row r _ _ _ _)=>r
 |some (.ptr r _)=>r
 |_=>0
def h1q (x:Option AV):Nat:=match x with
 |some (.row _ _ _ _ c)=>c
 |_=>0
section
variable {P:Program} {f:Nat} {R:Rm} {s:Mc}
theorem d3u {h:A4} (hs:g3o s h):h.globs=e3n s:=by
 unfold g3o at hs
 unfold e3n
 split at hs
 ·exact hs.2
 ·subst hs; rfl
theorem d9h {h:A4} {r:Nat} {c:List AV} (hs:g3o s h) (hr:g4v s r=some c):h.blks[r]? =some (some c):=by
 unfold g3o at hs
 unfold g4v at hr
 split at hs
 ·rename_i hp
  rw [hp] at hr
  simp only [Option.map_eq_some_iff] at hr
  obtain ⟨p,h1,rfl⟩:=hr
  have h2:=List.find?_some h1
  have h3:p.1=r:=by simpa using h2
  subst h3
  exact hs.1 _ _ (List.mem_of_find?_eq_some h1)
 ·rename_i hp
  subst hs
  split at hr
  ·rename_i hq; exact absurd hq (hp _ _ _ _ _ _)
  ·obtain ⟨x,h1,h2⟩:=Option.bind_eq_some_iff.1 hr
   rw [h1]; exact congrArg some h2
theorem d3c {av:AV} (hd:∀h,g3o s h ->a12 P (op s) s.env h av h) (hk:Ok P f R (put s av)) (hc:okS s=true):Ok P f R s:=by
 obtain ⟨pc,k,env,h⟩:=s
 cases pc with
 |v L=>
  cases L with
  |nil=>cases hc
  |cons o L=>exact .inr (.inl ⟨by simpa [okS] using hc,av,h,hd h rfl,hk⟩)
 |s b L S gl w tl=>
  cases L with
  |nil=>cases hc
  |cons o L=>
   have hc':I9 env o.guard=some true /\ V3 o.op=true:=by simpa [okS] using hc
   exact .inr (.inl ⟨hc'.1,hc'.2,av,fun h2 hi=>(hd h2 hi).q,hk⟩)
 |_=>cases hc
theorem a43 {av:AV} {h':A4} (hd:a12 P (op s) s.env s.h av h') (hk:Ok P f R (c9l s av h')) (hc:okH s=true) (hs:seS s h'=seE s):Ok P f R s:=by
 obtain ⟨pc,k,env,h⟩:=s
 cases pc with
 |v L=>
  cases L with
  |nil=>cases hc
  |cons o L=>exact .inr (.inl ⟨by simpa [okH] using hc,av,h',hd,hk⟩)
 |s b L S gl w tl=>
  cases L with
  |nil=>
   cases w with
   |none=>cases hc
   |some w=>exact ⟨av,h',hd,hk⟩
  |cons o L=>
   have hc':(I9 env o.guard=some true /\ V3 o.op=false) /\ c2x o=false:=by simpa [okH] using hc
   have hs':inS S h'=S.map (fun p=>some (some p.2)) /\ h'.globs=gl:=by simpa [seS,seE] using hs
   exact .inr (.inr (.inl ⟨hc'.1.1,hc'.1.2,hc'.2,av,h',hd,d96 hs'.1 hs'.2,hk⟩))
 |_=>cases hc
theorem ev0 (m:Nat) {av:AV} (hd:∀h,a12 P (op (run m s)) (run m s).env h av h) (hk:Ok P f R (put (run m s) av)) (hc:okS (run m s)=true):Ok P f R s:=N1 m (d3c (fun h _=>hd h) hk hc)
variable {α:Type} {W:α ->Prop} {p q:Prop}
theorem KI (m:Nat) (E:En α) {l:List α} {n:Int} (hw:∃y,l[n.toNat]? =some y /\ 0<=n /\ W y) (hk:∀y,W y ->Ok P f R (put (run m s) (.elt (E.e y) 0))) (hc:okS (run m s)=true:=by kernel_rfl) (ho:op (run m s)=.idxSl E.sz (oX (op (run m s))) (oY (op (run m s))):=by kernel_rfl) (hx:b60 (xv (run m s))=some (List.map E.f l):=by kernel_rfl) (hi:c2f (yv (run m s))=some n:=by kernel_rfl):Ok P f R s:=by
 obtain ⟨y,h1,h0,hw⟩:=hw
 exact ev0 m (fun h=>by rw [ho]; exact g8n h0 h1 (E.eq y) hx hi (E.len y)) (hk y hw) hc
theorem KL (m:Nat) (E:En α) (l:List α) (hk:Ok P f R (put (run m s) (.v (.int .i64 l.length)))) (hc:okS (run m s)=true:=by kernel_rfl) (ho:op (run m s)=.len false (oX (op (run m s))):=by kernel_rfl) (hx:b60 (xv (run m s))=some (List.map E.f l):=by kernel_rfl):Ok P f R s:=ev0 m (fun h=>by rw [ho]; exact g56 l E.f hx) hk hc
theorem KC (m:Nat) {g:FuncId} {gl:List (Nat × List AV)} {args:List AV} {e:α ->AV} (hw:∃y,C1 P gl g args (e y) /\ W y) (hp:plainL args=true) (hk:∀y,W y ->Ok P f R (put (run m s) (e y))) (hc:okS (run m s)=true:=by kernel_rfl) (ho:op (run m s)=.call (.c (.clo (.func g) [] [])) (oA (op (run m s))):=by kernel_rfl) (ha:(evs (run m s).env (oA (op (run m s)))).map (List.map nz)=some args:=by kernel_rfl) (hg:e3n (run m s)=gl:=by kernel_rfl) (hgl:S6 gl=true:=by kernel_rfl):Ok P f R s:=by
 obtain ⟨y,h1,hw⟩:=hw
 subst hg
 refine N1 m (d3c (fun h hs=> ?_) (hk y hw) hc)
 rw [ho]
 rw [<-d3u hs] at h1 hgl
 exact g2s h1 hp ha hgl
theorem KF (m:Nat) {gl:List (Nat × List AV)} {args:List AV} {F:AV} {e:α ->AV} (hw:∃y,a50 P gl F args (e y) /\ W y) (hk:∀y,W y ->Ok P f R (put (run m s) (e y))) (hc:okS (run m s)=true:=by kernel_rfl) (ho:op (run m s)=.call (oX (op (run m s))) (oA (op (run m s))):=by kernel_rfl) (hf:xv (run m s)=some F:=by kernel_rfl) (ha:(evs (run m s).env (oA (op (run m s)))).map (List.map nz)=some args:=by kernel_rfl) (hg:e3n (run m s)=gl:=by kernel_rfl) (hgl:S6 gl=true:=by kernel_rfl):Ok P f R s:=by
 obtain ⟨y,h1,hw⟩:=hw
 subst hg
 refine N1 m (d3c (fun h hs=> ?_) (hk y hw) hc)
 rw [ho]
 rw [<-d3u hs] at h1 hgl
 exact f4x h1 hf ha hgl
theorem KIS (m:Nat) {t:ByteArray} {n:Int} (hw:(0<=n /\ n<(t.size:Int)) /\ p) (hk:p ->Ok P f R (put (run m s) (.v (.int .u8 (F0 t n.toNat))))) (hc:okS (run m s)=true:=by kernel_rfl) (ho:op (run m s)=.idxS (oX (op (run m s))) (oY (op (run m s))):=by kernel_rfl) (hx:xv (run m s)=some (.v (.string t)):=by kernel_rfl) (hi:c2f (yv (run m s))=some n:=by kernel_rfl):Ok P f R s:=ev0 m (fun h=>by rw [ho]; exact g2a hw.1 hx hi) (hk hw.2) hc
theorem KSS (m:Nat) {t:ByteArray} {a u:Int} (hw:(0<=a /\ a<=u /\ u<=(t.size:Int)) /\ p) (hk:p ->Ok P f R (put (run m s) (.v (.string (t.extract a.toNat u.toNat))))) (hc:okS (run m s)=true:=by kernel_rfl) (ho:op (run m s)=.sliceS (oX (op (run m s))) (oLo (op (run m s))) (oHi (op (run m s))):=by kernel_rfl) (hx:xv (run m s)=some (.v (.string t)):=by kernel_rfl) (h3:(evo (run m s).env (oLo (op (run m s)))).bind (F5 0)=some a:=by kernel_rfl) (h4:(evo (run m s).env (oHi (op (run m s)))).bind (F5 t.size)=some u:=by kernel_rfl):Ok P f R s:=ev0 m (fun h=>by rw [ho]; exact f0n hw.1 hx h3 h4) (hk hw.2) hc
theorem KSV (m:Nat) (E:En α) {l:List α} {a u:Int} (hw:(0<=a /\ a<=u /\ u<=(l.length:Int)) /\ p) (hk:p ->Ok P f R (put (run m s) (.sl (List.map E.f ((l.take u.toNat).drop a.toNat)) .no))) (hc:okS (run m s)=true:=by kernel_rfl) (ho:op (run m s)=.sliceV E.sz (oX (op (run m s))) (oLo (op (run m s))) (oHi (op (run m s))) none:=by kernel_rfl) (hx:b60 (xv (run m s))=some (List.map E.f l):=by kernel_rfl) (h3:(evo (run m s).env (oLo (op (run m s)))).bind (F5 0)=some a:=by kernel_rfl) (h4:(evo (run m s).env (oHi (op (run m s)))).bind (F5 l.length)=some u:=by kernel_rfl) (h5:((oLo (op (run m s))).isSome||(oHi (op (run m s))).isSome)=true:=by kernel_rfl):Ok P f R s:=ev0 m (fun h=>by rw [ho]; exact f6e hw.1 E.ro.hs hx h3 h4 h5) (hk hw.2) hc
theorem KSF (m:Nat) (E:En α) {l:List α} {a u:Int} (hw:(0<=a /\ a<=u /\ u<=(l.length:Int)) /\ p) (hk:p ->Ok P f R (put (run m s) (.sl (List.map E.f ((l.take u.toNat).drop a.toNat)) .full))) (hc:okS (run m s)=true:=by kernel_rfl) (ho:op (run m s)=.sliceV E.sz (oX (op (run m s))) (oLo (op (run m s))) (oHi (op (run m s))) (some (oMx (op (run m s)))):=by kernel_rfl) (hx:b60 (xv (run m s))=some (List.map E.f l):=by kernel_rfl) (h3:(evo (run m s).env (oLo (op (run m s)))).bind (F5 0)=some a:=by kernel_rfl) (h4:(evo (run m s).env (oHi (op (run m s)))).bind (F5 l.length)=some u:=by kernel_rfl) (h5:c2f ((oMx (op (run m s))).ev (run m s).env)=some u:=by kernel_rfl) (h6:(oHi (op (run m s))).isSome=true:=by kernel_rfl):Ok P f R s:=ev0 m (fun h=>by rw [ho]; exact f0q hw.1 E.ro.hs hx h3 h4 h5 h6) (hk hw.2) hc
theorem KB (m:Nat) {c:Prop} (hw:c /\ p) (hk:p ->Ok P f R (put (run m s) (.v (g5f (run m s))))) (hc:okS (run m s)=true:=by kernel_rfl) (ho:op (run m s)=.bin (oB (op (run m s))) (oX (op (run m s))) (oY (op (run m s))):=by kernel_rfl) (hx:(g4k (oB (op (run m s))) (xv (run m s)) (yv (run m s))).map (·.1)=some c:=by kernel_rfl):Ok P f R s:=by
 obtain ⟨⟨c',r⟩,h1,h2⟩:=Option.map_eq_some_iff.1 hx
 have h3:g5f (run m s)=r:=by unfold g5f; rw [h1]; rfl
 have h4:c'=c:=h2
 subst h4
 rw [h3] at hk
 exact ev0 m (fun h=>by rw [ho]; exact g7o r hw.1 h1) (hk hw.2) hc
theorem g4s (m:Nat) {a b:ByteArray} (hw:((a.size+b.size:Nat):Int)<=9223372036854775807 /\ p) (hk:p ->Ok P f R (put (run m s) (.v (.string (a++b))))) (hc:okS (run m s)=true:=by kernel_rfl) (ho:op (run m s)=.bin .add (oX (op (run m s))) (oY (op (run m s))):=by kernel_rfl) (hx:xv (run m s)=some (.v (.string a)):=by kernel_rfl) (hy:yv (run m s)=some (.v (.string b)):=by kernel_rfl):Ok P f R s:=ev0 m (fun h=>by rw [ho]; exact g6a hw.1 hx hy) (hk hw.2) hc
def HM (h:A4) (y:Option AV) (E:En α) (m:List α):Prop:=y.bind (c4t h E.sz)=some (List.map E.f m)
theorem mF {h:A4} {y:Option AV} {E:En α} {l:List α} (hm:y.bind (c4t h E.sz)=some (List.map E.f l):=by kernel_rfl):HM h y E l:=hm
theorem mE {h:A4} {y:Option AV} {E:En α} {l:List α} (hm:y.bind (c4t h E.sz)=some (List.map E.e l):=by kernel_rfl):HM h y E l:=by
 have:=funext E.eq
 unfold HM
 rw [this]; exact hm
def HX (x:Option AV) (E:En α) (l:List α):Prop:=b60 x=some (List.map E.f l)
theorem xE {x:Option AV} {E:En α} {l:List α} (h:b60 x=some (List.map E.e l):=by kernel_rfl):HX x E l:=by
 have:=funext E.eq
 unfold HX
 rw [this]; exact h
theorem KA0 (m:Nat) (E:En α) {l:List α} {b:Nat} (hw:l.length*b<=140737488355328 /\ p) (hm:HM (run m s).h (yv (run m s)) E l) (hk:p ->Ok P f R (c9l (run m s) (.sl (List.map E.f l) (.own (run m s).h.bufs.length)) ⟨(run m s).h.blks,(run m s).h.bufs++[(l.length,E.sz)],(run m s).h.globs⟩)) (hc:okH (run m s)=true:=by kernel_rfl) (hs:seS (run m s) ⟨(run m s).h.blks,(run m s).h.bufs++[(l.length,E.sz)],(run m s).h.globs⟩=seE (run m s):=by kernel_rfl) (ho:op (run m s)=.append E.sz b (oX (op (run m s))) (oY (op (run m s))):=by kernel_rfl) (hx:xv (run m s)=some .nil:=by kernel_rfl):Ok P f R s:=N1 m (a43 (by rw [ho]; exact g3n E.f l hw.1 E.ro.hs hm hx) (hk hw.2) hc hs)
theorem KA (m:Nat) (E:En α) {l l2:List α} {b:Nat} (hw:(l.length+l2.length)*b<=140737488355328 /\ p) (hm:HM (run m s).h (yv (run m s)) E l2) (hk:p ->Ok P f R (c9l (run m s) (.sl (List.map E.f (l++l2)) (.own (g18 (xv (run m s))))) ⟨(run m s).h.blks,(run m s).h.bufs.set (g18 (xv (run m s))) ((l++l2).length,E.sz),(run m s).h.globs⟩)) (hc:okH (run m s)=true:=by kernel_rfl) (hs:seS (run m s) ⟨(run m s).h.blks,(run m s).h.bufs.set (g18 (xv (run m s))) ((l++l2).length,E.sz),(run m s).h.globs⟩=seE (run m s):=by kernel_rfl) (ho:op (run m s)=.append E.sz b (oX (op (run m s))) (oY (op (run m s))):=by kernel_rfl) (hx:xv (run m s)=some (.sl (List.map E.f l) (.own (g18 (xv (run m s))))):=by kernel_rfl) (hb:(run m s).h.bufs[g18 (xv (run m s))]? =some (l.length,E.sz):=by kernel_rfl):Ok P f R s:=N1 m (a43 (by rw [ho]; exact g6w _ E.f l l2 hw.1 E.ro.hs hm hx hb) (hk hw.2) hc hs)
theorem KAf (m:Nat) (E:En α) {l l2:List α} {b:Nat} (hw:(l.length+l2.length)*b<=140737488355328 /\ p) (hm:HM (run m s).h (yv (run m s)) E l2) (hX:HX (xv (run m s)) E l) (hk:p ->Ok P f R (c9l (run m s) (.sl (List.map E.f (l++l2)) (.own (run m s).h.bufs.length)) ⟨(run m s).h.blks,(run m s).h.bufs++[((l++l2).length,E.sz)],(run m s).h.globs⟩)) (hc:okH (run m s)=true:=by kernel_rfl) (hs:seS (run m s) ⟨(run m s).h.blks,(run m s).h.bufs++[((l++l2).length,E.sz)],(run m s).h.globs⟩=seE (run m s):=by kernel_rfl) (ho:op (run m s)=.append E.sz b (oX (op (run m s))) (oY (op (run m s))):=by kernel_rfl) (hx:g1i (xv (run m s))=some .full:=by kernel_rfl):Ok P f R s:=N1 m (a43 (by rw [ho]; exact f2s E.f l l2 hw.1 E.ro.hs hm hX hx) (hk hw.2) hc hs)
theorem KY (m:Nat) (hk:Ok P f R (c9l (run m s) (.sl (List.map (fun n=>[AV.v (.int .u8 n)]) (bI (g4b (xv (run m s))))) (.own (run m s).h.bufs.length)) ⟨(run m s).h.blks,(run m s).h.bufs++[((bI (g4b (xv (run m s)))).length,1)],(run m s).h.globs⟩)) (hc:okH (run m s)=true:=by kernel_rfl) (hs:seS (run m s) ⟨(run m s).h.blks,(run m s).h.bufs++[((bI (g4b (xv (run m s)))).length,1)],(run m s).h.globs⟩=seE (run m s):=by kernel_rfl) (ho:op (run m s)=.bytes (oX (op (run m s))):=by kernel_rfl) (hx:xv (run m s)=some (.v (.string (g4b (xv (run m s))))):=by kernel_rfl):Ok P f R s:=N1 m (a43 (by rw [ho]; exact f72 _ hx) hk hc hs)
theorem KS (m:Nat) {l:List Int} {W:ByteArray ->Prop} (hw:∃t,l=bI t /\ W t) (hk:∀t,W t ->Ok P f R (put (run m s) (.v (.string t)))) (hc:okS (run m s)=true:=by kernel_rfl) (ho:op (run m s)=.conv .str (oX (op (run m s))):=by kernel_rfl) (hx:b60 (xv (run m s))=some (List.map (fun n=>[AV.v (.int .u8 n)]) l):=by kernel_rfl):Ok P f R s:=by
 obtain ⟨t,h1,hw⟩:=hw
 exact ev0 m (fun h=>by rw [ho]; exact g5u h1 hx) (hk t hw) hc
theorem KRI (m:Nat) {len:Nat} {n:Int} (sz:Nat) (hw:(0<=n /\ n<(len:Int)) /\ p) (hk:p ->Ok P f R (put (run m s) (.ptr (e0v (xv (run m s))) (0+n.toNat*sz)))) (hc:okS (run m s)=true:=by kernel_rfl) (ho:op (run m s)=.idxSl sz (oX (op (run m s))) (oY (op (run m s))):=by kernel_rfl) (hx:xv (run m s)=some (.row (e0v (xv (run m s))) 0 sz len (h1q (xv (run m s)))):=by kernel_rfl) (hi:c2f (yv (run m s))=some n:=by kernel_rfl):Ok P f R s:=ev0 m (fun h=>by rw [ho]; exact g05 _ len _ hw.1 hx hi) (hk hw.2) hc
theorem KRn (m:Nat) (E:En α) {l:List α} {i:Nat} (hw:∃y,l[i]? =some y /\ W y) (hk:∀y,W y ->Ok P f R (put (run m s) (.agg (E.e y)))) (hc:okS (run m s)=true:=by kernel_rfl) (ho:op (run m s)=.load (some E.sz) (oX (op (run m s))):=by kernel_rfl) (hx:xv (run m s)=some (.ptr (e0v (xv (run m s))) (0+i*E.sz)):=by kernel_rfl) (hr:g4v (run m s) (e0v (xv (run m s)))=some (cellsOf E.f l):=by kernel_rfl):Ok P f R s:=by
 obtain ⟨y,h1,hw⟩:=hw
 exact N1 m (d3c (fun h hs=>by rw [ho]; exact g0j E.ro.hs E.ro.hn h1 (E.eq y) (Nat.zero_add _) hx (d9h hs hr)) (hk y hw) hc)
def atE (l:List AV) (k:Nat):AV:=l[k]?.getD .nil
theorem KR1 (m:Nat) (E:En α) (k:Nat) {l:List α} {i:Nat} (hw:∃y,l[i]? =some y /\ W y) (hk:∀y,W y ->Ok P f R (put (run m s) (atE (E.e y) k))) (hc:okS (run m s)=true:=by kernel_rfl) (ho:op (run m s)=.load none (oX (op (run m s))):=by kernel_rfl) (hx:xv (run m s)=some (.ptr (e0v (xv (run m s))) (0+i*E.sz+k)):=by kernel_rfl) (hr:g4v (run m s) (e0v (xv (run m s)))=some (cellsOf E.f l):=by kernel_rfl) (hb:Nat.ble (k+1) E.sz=true:=by kernel_rfl):Ok P f R s:=by
 obtain ⟨y,h1,hw⟩:=hw
 have hlt:k<E.sz:=Nat.le_of_ble_eq_true hb
 have hg:(E.f y)[k]? =some (atE (E.e y) k):=by
  rw [E.eq y]
  have:k<(E.e y).length:=by rw [E.len y]; exact hlt
  simp [atE,this]
 exact N1 m (d3c (fun h hs=>by rw [ho]; exact g2v E.ro.hs E.ro.hn h1 hlt hg (by omega) hx (d9h hs hr)) (hk y hw) hc)
theorem KRS (m:Nat) (E:En α) (z:α) {l:List α} {i:Nat} (hw:i<l.length /\ p) (hk:p ->Ok P f R (c9l (run m s) (.tuple []) ⟨(run m s).h.blks.set (e0v (xv (run m s))) (some (cellsOf E.f (l.set i z))),(run m s).h.bufs,(run m s).h.globs⟩)) (hc:okH (run m s)=true:=by kernel_rfl) (hs:seS (run m s) ⟨(run m s).h.blks.set (e0v (xv (run m s))) (some (cellsOf E.f (l.set i z))),(run m s).h.bufs,(run m s).h.globs⟩=seE (run m s):=by kernel_rfl) (ho:op (run m s)=.store E.sz (oX (op (run m s))) (oY (op (run m s))):=by kernel_rfl) (hx:xv (run m s)=some (.ptr (e0v (xv (run m s))) (0+i*E.sz)):=by kernel_rfl) (hy:(yv (run m s)).map (fun a=>(a.isTuple,a.cells))=some (false,E.e z):=by kernel_rfl) (hr:(run m s).h.blks[e0v (xv (run m s))]? =some (some (cellsOf E.f l)):=by kernel_rfl):Ok P f R s:=by
 obtain ⟨a,h1,h2⟩:=Option.map_eq_some_iff.1 hy
 have h3:=congrArg Prod.fst h2
 have h4:=congrArg Prod.snd h2
 exact N1 m (a43 (by rw [ho]; exact g7v z E.ro.hs E.ro.hn hw.1 ((E.eq z).trans h4.symm) (Nat.zero_add _) hx h1 h3 hr) (hk hw.2) hc hs)
theorem KM (m:Nat) (E:En α) (z:α) {L C:Int} {b:Nat} (hw:(0<=L /\ L<=C /\ C*b<=140737488355328) /\ p) (hk:p ->Ok P f R (c9l (run m s) (.row (run m s).h.blks.length 0 E.sz L.toNat C.toNat) ⟨(run m s).h.blks++[some (cellsOf E.f (List.replicate C.toNat z))],(run m s).h.bufs,(run m s).h.globs⟩)) (hc:okH (run m s)=true:=by kernel_rfl) (hs:seS (run m s) ⟨(run m s).h.blks++[some (cellsOf E.f (List.replicate C.toNat z))],(run m s).h.bufs,(run m s).h.globs⟩=seE (run m s):=by kernel_rfl) (ho:op (run m s)=.make E.sz b (E.e z) (oX (op (run m s))) (oY (op (run m s))):=by kernel_rfl) (hx:c2f (xv (run m s))=some L:=by kernel_rfl) (hy:c2f (yv (run m s))=some C:=by kernel_rfl):Ok P f R s:=N1 m (a43 (by rw [ho]; exact f9e E.f z L C hw.1 hx hy (E.eq z).symm (E.ro.hs z)) (hk hw.2) hc hs)
end
def gT (s:Mc):Nat:=match (opS s).guard with
 |some (t,_)=>t
 |none=>0
def cv (s:Mc):Option AV:=match s.pc with
 |.c (.cond c _ _)=>c.ev s.env
 |.v (⟨_,_,some (t,_)⟩::_)=>get s.env t
 |.s _ (⟨_,_,some (t,_)⟩::_) _ _ _ _=>get s.env t
 |_=>none
def br (s:Mc) (b:Bool):Mc:=match s.pc with
 |.c (.cond _ x y)=>⟨.c (if b=true then x else y),s.k,s.env,s.h⟩
 |.v (⟨d,o,some (t,w)⟩::L)=>⟨.v (⟨d,o,some (t,w)⟩::L),s.k,(t,.v (.bool b))::s.env,s.h⟩
 |.s b' (⟨d,o,some (t,w)⟩::L) S gl q tl=>⟨.s b' (⟨d,o,some (t,w)⟩::L) S gl q tl,s.k,(t,.v (.bool b))::s.env,s.h⟩
 |_=>s
section
variable {P:Program} {f:Nat} {R:Rm} {s:Mc}
theorem e5q {B:Bool} (hv:cv s=some (.v (.bool B))) (h1:B=true ->Ok P f R (br s true)) (h2:B=false ->Ok P f R (br s false)):Ok P f R s:=by
 obtain ⟨pc,k,env,h⟩:=s
 simp only [cv] at hv
 split at hv
 ·exact d9r hv h1 h2
 ·cases hB:B with
  |true=>exact c8g (c14 hB hv) rfl (h1 hB)
  |false=>exact c8g (c14 hB hv) rfl (h2 hB)
 ·cases hB:B with
  |true=>exact c8g (c14 hB hv) rfl (h1 hB)
  |false=>exact c8g (c14 hB hv) rfl (h2 hB)
 ·cases hv
theorem KW (m:Nat) {B:Bool} {p q:Prop} (hw:(B=true ->p) /\ (B=false ->q)) (h1:B=true ->p ->Ok P f R (br (run m s) true)) (h2:B=false ->q ->Ok P f R (br (run m s) false)) (hv:cv (run m s)=some (.v (.bool B)):=by kernel_rfl):Ok P f R s:=N1 m (e5q hv (fun h=>h1 h (hw.1 h)) fun h=>h2 h (hw.2 h))
theorem KKn (m:Nat) {B b:Bool} (hB:B=b) (hk:Ok P f R (br (run m s) b)) (hv:cv (run m s)=some (.v (.bool B)):=by kernel_rfl):Ok P f R s:=by
 subst hB
 exact N1 m (e5q hv (fun h=>by rw [h] at hk; exact hk) fun h=>by rw [h] at hk; exact hk)
def dpc (n:Nat):Pc ->Pc
 |.v L=>.v (L.drop n)
 |.s b L S gl w tl=>.s b (L.drop n) S gl w tl
 |x=>x
def jnD (s:Mc) (n:Nat):Nat:=match s.pc with
 |.v L=>(((L[n - 1]?).bind fun o=>o.dst)).getD 0
 |.s _ L _ _ _ _=>(((L[n - 1]?).bind fun o=>o.dst)).getD 0
 |_=>0
def jn (s:Mc) (n:Nat) (a:AV):Mc:=⟨dpc n s.pc,s.k,(jnD s n,a)::drop (gT s) s.env,s.h⟩
def c7a (s:Mc):Mc:=⟨s.pc,s.k,[],s.h⟩
def g28 (d t:Nat) (e env:Env):Bool:=(e.take (e.length - env.length)).all fun p=>p.1==t||p.1==d||(get env p.1).isNone
theorem f7g {d t:Nat} {a:AV} {e env:Env} (h1:get e d=some a) (h2:e.drop (e.length - env.length)=env) (h3:g28 d t e env=true):c2h ((d,a)::drop t env) e:=by
 intro u b hu
 simp only [get] at hu
 split at hu
 ·rename_i hd; subst hd; cases hu; exact h1
 ·rename_i hd
  have h4:u≠t:=by
   rintro rfl
   have:∀{e:Env},get (drop u e) u=none:=by
    intro e
    induction e with
    |nil=>rfl
    |cons q e ih=>
     obtain ⟨v,c⟩:=q
     simp only [drop]
     split
     ·exact ih
     ·rename_i hv; simp only [get]; rw [if_neg hv]; exact ih
   rw [this] at hu; cases hu
  have h5:get env u=some b:=by
   have:∀{e:Env},get (drop t e) u=get e u:=by
    intro e
    induction e with
    |nil=>rfl
    |cons q e ih=>
     obtain ⟨v,c⟩:=q
     simp only [drop]
     split
     ·rename_i hv; subst hv; simp only [get]; rw [if_neg (fun h=>h4 h.symm)]; exact ih
     ·simp only [get]; rw [ih]
   rw [<-this]; exact hu
  rw [<-List.take_append_drop (e.length - env.length) e,d7o,h2]
  split
  ·rename_i c hc
   have hm:=d2k hc
   have h6:=List.all_eq_true.1 h3 _ hm
   simp only [Bool.or_eq_true,beq_iff_eq] at h6
   rcases h6 with (h6|h6)|h6
   ·exact absurd h6 h4
   ·exact absurd h6.symm hd
   ·rw [h5] at h6; cases h6
  ·exact h5
def jnv (s:Mc) (n:Nat):Option (Bool × AV × AV × AV):=match cv s,get (run n (br s true)).env (jnD s n),get (run n (br s false)).env (jnD s n) with
 |some (.v (.bool B)),some (.v (.bool x)),some (.v (.bool y))=>some (B,.v (.bool (bif B then x else y)),.v (.bool x),.v (.bool y))
 |some (.v (.bool B)),some (.v (.int k x)),some (.v (.int _ y))=>some (B,.v (.int k (bif B then x else y)),.v (.int k x),.v (.int k y))
 |some (.v (.bool B)),some (.v (.string x)),some (.v (.string y))=>some (B,.v (.string (bif B then x else y)),.v (.string x),.v (.string y))
 |_,_,_=>none
def jnV (s:Mc) (n:Nat):AV:=((jnv s n).map fun p=>p.2.1).getD .nil
def met (s s1:Mc) (n:Nat):Bool:=g28 (jnD s n) (gT s) s1.env s.env&&(match s.pc with|.v _=>true|.s _ _ _ _ _ _=>true|_=>false)
theorem d9b {s s1:Mc} {n:Nat} {a:AV} (hk:Ok P f R (jn s n a)) (ha:get s1.env (jnD s n)=some a) (hb:c7a s1=c7a (jn s n a)) (hd:s1.env.drop (s1.env.length - s.env.length)=s.env) (hf:met s s1 n=true):Ok P f R s1:=by
 obtain ⟨pc1,k1,env1,h1⟩:=s1
 obtain ⟨pc,k,env,h⟩:=s
 simp only [c7a,jn,Mc.mk.injEq] at hb
 obtain ⟨rfl,rfl, -,rfl⟩:=hb
 simp only [met,Bool.and_eq_true] at hf
 refine c8g (f7g ha hd hf.1) ?_ hk
 cases pc<;>first|rfl|(cases hf.2)
theorem KT (m n:Nat) (hk:Ok P f R (jn (run m s) n (jnV (run m s) n))) (h0:((jnv (run m s) n).map fun p=>(some p.2.2.1,some p.2.2.2))=some (get (run n (br (run m s) true)).env (jnD (run m s) n),get (run n (br (run m s) false)).env (jnD (run m s) n)):=by kernel_rfl) (hb:(c7a (run n (br (run m s) true)),c7a (run n (br (run m s) false)))=(c7a (jn (run m s) n .nil),c7a (jn (run m s) n .nil)):=by kernel_rfl) (hd:((run n (br (run m s) true)).env.drop ((run n (br (run m s) true)).env.length - (run m s).env.length),(run n (br (run m s) false)).env.drop ((run n (br (run m s) false)).env.length - (run m s).env.length))=((run m s).env,(run m s).env):=by kernel_rfl) (hf:(met (run m s) (run n (br (run m s) true)) n&&met (run m s) (run n (br (run m s) false)) n)=true:=by kernel_rfl):Ok P f R s:=by
 refine N1 m ?_
 generalize run m s=s0 at*
 obtain ⟨⟨B,a,x,y⟩,h1,h2⟩:=Option.map_eq_some_iff.1 h0
 have hV:jnV s0 n=a:=by unfold jnV; rw [h1]; rfl
 rw [hV] at hk
 have hc:cv s0=some (.v (.bool B)) /\ a=bif B then x else y:=by
  unfold jnv at h1
  split at h1
  ·rename_i h _ _; cases h1; exact ⟨h,by cases B<;>rfl⟩
  ·rename_i h _ _; cases h1; exact ⟨h,by cases B<;>rfl⟩
  ·rename_i h _ _; cases h1; exact ⟨h,by cases B<;>rfl⟩
  ·cases h1
 simp only [Prod.mk.injEq] at h2 hb hd
 simp only [Bool.and_eq_true] at hf
 refine e5q hc.1 (fun hB=> ?_) (fun hB=> ?_)
 ·have ha:=hc.2
  rw [hB] at ha
  subst ha
  exact N1 n (d9b hk h2.1.symm hb.1 hd.1 hf.1)
 ·have ha:=hc.2
  rw [hB] at ha
  subst ha
  exact N1 n (d9b hk h2.2.symm hb.2 hd.2 hf.2)
theorem KQ (m n:Nat) {T:Type} (C:T ->AV) {B:Bool} {W:T ->Prop} {p q:(T ->Prop) ->Prop} (hw:∃R:T ->Prop,(∀z,R z ->W z) /\ ((B=true ->p R) /\ (B=false ->q R))) (hk:∀z,W z ->Ok P f R (jn (run m s) n (C z))) (h1:∀U:T ->Prop,(∀z,U z ->Ok P f R (jn (run m s) n (C z))) ->B=true ->p U ->Ok P f R (br (run m s) true)) (h2:∀U:T ->Prop,(∀z,U z ->Ok P f R (jn (run m s) n (C z))) ->B=false ->q U ->Ok P f R (br (run m s) false)) (hv:cv (run m s)=some (.v (.bool B)):=by kernel_rfl):Ok P f R s:=by
 obtain ⟨U,hU,h3,h4⟩:=hw
 exact N1 m (e5q hv (fun h=>h1 U (fun z hz=>hk z (hU z hz)) h (h3 h)) fun h=>h2 U (fun z hz=>hk z (hU z hz)) h (h4 h))
theorem KE (m:Nat) {T:Type} {U:T ->Prop} {C:T ->AV} {s0:Mc} {n:Nat} {z:T} (key:∀z,U z ->Ok P f R (jn s0 n (C z))) (hw:U z) (ha:get (run m s).env (jnD s0 n)=some (C z):=by kernel_rfl) (hb:c7a (run m s)=c7a (jn s0 n (C z)):=by kernel_rfl) (hd:(run m s).env.drop ((run m s).env.length - s0.env.length)=s0.env:=by kernel_rfl) (hf:met s0 (run m s) n=true:=by kernel_rfl):Ok P f R s:=N1 m (d9b (key z hw) ha hb hd hf)
abbrev kB (b:Bool):AV:=.v (.bool b)
def So (I:List Nat) (h:A4):List (Nat × List AV):=I.map fun i=>(i,((h.blks[i]?).bind id).getD [])
def dr0 (s:Mc) (S:List (Nat × List AV)):Mc:=match s.pc with
 |.c (.drawn _ a t)=>⟨.s true a S s.h.globs none t,s.k,s.env,s.h⟩
 |_=>s
def h0b (s:Mc):Bool:=match s.pc with
 |.c (.drawn o a _)=>okq a&&d7p (clo o) a
 |_=>false
theorem KD (m:Nat) (I:List Nat) (hk:Ok P f R (dr0 (run m s) (So I (run m s).h))) (hc:h0b (run m s)=true:=by kernel_rfl) (hS:inS (So I (run m s).h) (run m s).h=(So I (run m s).h).map (fun p=>some (some p.2)):=by kernel_rfl):Ok P f R s:=by
 refine N1 m ?_
 generalize run m s=s0 at*
 obtain ⟨pc,k,env,h⟩:=s0
 simp only [h0b] at hc
 split at hc
 ·rw [Bool.and_eq_true] at hc
  exact dS _ hk hc.1 hc.2 hS
 ·cases hc
def dr1 (s:Mc) (S:List (Nat × List AV)):Mc:=match s.pc with
 |.c (.drawn _ a t)=>⟨.s false (a.take (a.length - 1)) S s.h.globs a[a.length - 1]? t,s.k,s.env,s.h⟩
 |_=>s
def g90 (s:Mc):Bool:=match s.pc with
 |.c (.drawn o a _)=>okq a&&e40 (clo o) a (a.length - 1)&&(match a[a.length - 1]? with|some w=>w.guard.isNone&&w.dst.isNone|none=>false)
 |_=>false
theorem KDL (m:Nat) (I:List Nat) (hk:Ok P f R (dr1 (run m s) (So I (run m s).h))) (hc:g90 (run m s)=true:=by kernel_rfl) (hS:inS (So I (run m s).h) (run m s).h=(So I (run m s).h).map (fun p=>some (some p.2)):=by kernel_rfl):Ok P f R s:=by
 refine N1 m ?_
 generalize run m s=s0 at*
 obtain ⟨pc,k,env,h⟩:=s0
 simp only [g90] at hc
 split at hc
 ·rename_i o a t
  simp only [Bool.and_eq_true] at hc
  obtain ⟨⟨h1,h2⟩,h3⟩:=hc
  simp only [dr1] at hk
  split at h3
  ·rename_i w hwq
   rw [hwq] at hk
   rw [Bool.and_eq_true] at h3
   have hlen:a.length=(a.length - 1)+1:=by
    have:=(List.getElem?_eq_some_iff.1 hwq).1
    omega
   exact dL (a.length - 1) _ hwq hk hlen (Option.isNone_iff_eq_none.1 h3.1) (Option.isNone_iff_eq_none.1 h3.2) h1 h2 hS
  ·cases h3
 ·cases hc
def chg (s:Mc):AV × A4:=(opn (opS s) s.env s.h).getD (.nil,s.h)
theorem KV (m:Nat) (hk:Ok P f R (c9l (run m s) (chg (run m s)).1 (chg (run m s)).2)) (ho:(opn (opS (run m s)) (run m s).env (run m s).h).isSome=true:=by kernel_rfl) (hc:okH (run m s)=true:=by kernel_rfl) (hs:seS (run m s) (chg (run m s)).2=seE (run m s):=by kernel_rfl):Ok P f R s:=by
 obtain ⟨p,hp⟩:=Option.isSome_iff_exists.1 ho
 have hq:chg (run m s)=p:=by unfold chg; rw [hp]; rfl
 rw [hq] at hk hs
 exact N1 m (a43 (d8i hp) hk hc hs)
def f0h:O1 ->List Fr ->List (Pc × List Fr)
 |.seq a b,k=>(.c b,k)::(f0h a (.sq b::k)++f0h b k)
 |.cond _ a b,k=>f0h a k++f0h b k
 |.block i a,k=>f0h a (.bk i::k)
 |.loop a,k=>(.l a,k)::f0h a (.lp a::k)
 |.scope a,k=>match c1z a with
  |some l=>(.g l a,k)::f0h a (.sc l a::k)
  |none=>f0h a (.sn::k)
 |_,_=>[]
def pos (P:Program) (f i:Nat):Pc × List Fr:=((f0h (cdC P f) [])[i]?).getD (.n .normal,[])
def J (P:Program) (f:Nat) (R:Rm) (i:Nat) (e:Env) (h:A4):Prop:=Ok P f R ⟨(pos P f i).1,(pos P f i).2,e,h⟩
def atC (s:Mc):Bool:=match s.pc with
 |.c _=>true
 |.l _=>true
 |.g _ _=>true
 |_=>false
theorem c6j (hc:atC s=true) (hg:∀(σ:Sg) (a:Act),St σ s.h s.env (cdN P f) a ->∃σ' h' env',σ'.w=σ.w /\ Le σ σ' /\ St σ' h' env' (cdN P f) a /\ Ok P f R ⟨s.pc,s.k,env',h'⟩):Ok P f R s:=by
 obtain ⟨pc,k,env,h⟩:=s
 cases pc with
 |c x=>exact d67 hg
 |l x=>exact d9w hg
 |g l x=>exact d7z hg
 |_=>cases hc
def e9f (Z:List Nat) (env:Env) (p:Nat × AV):Option AV:=if Z.contains p.1=true then (get env p.1).map nz else get env p.1
theorem f17 {σ:Sg} {h:A4} {env e:Env} {N:Nat} {a:Act} {Z:List Nat} (he:e.map (e9f Z env)=e.map fun p=>some p.2) (hs:St σ h env N a):St σ h e N a:=⟨hs.inv,fun t b ht=>by
 obtain ⟨i,hi⟩:=List.mem_iff_getElem?.1 (d2k ht)
 have h1:=congrArg (fun l=>l[i]?) he
 simp only [List.getElem?_map,hi,Option.map_some,Option.some.injEq] at h1
 unfold e9f at h1
 split at h1
 ·obtain ⟨c,h2,rfl⟩:=Option.map_eq_some_iff.1 h1
  obtain ⟨y,h3,h4⟩:=hs.env t c h2
  exact ⟨y,h3,h4.nz⟩
 ·exact hs.env t b h1,hs.size,hs.defers⟩
theorem d7c {e:Env} (Z:List Nat) (hc:atC s=true) (he:e.map (e9f Z s.env)=e.map fun p=>some p.2) (hk:Ok P f R ⟨s.pc,s.k,e,s.h⟩):Ok P f R s:=c6j hc fun σ a hs=>⟨σ,s.h,e,rfl,Le.refl σ,f17 he hs,hk⟩
theorem KJ (m:Nat) (Z:List Nat) {i:Nat} {e:Env} {h:A4} (hw:J P f R i e h) (hp:((run m s).pc,(run m s).k,(run m s).h)=((pos P f i).1,(pos P f i).2,h):=by kernel_rfl) (hc:atC (run m s)=true:=by kernel_rfl) (he:e.map (e9f Z (run m s).env)=e.map (fun p=>some p.2):=by kernel_rfl):Ok P f R s:=by
 simp only [Prod.mk.injEq] at hp
 refine N1 m (d7c Z hc he ?_)
 rw [hp.1,hp.2.1,hp.2.2]
 exact hw
def c63 (h:A4):List Bool:=h.blks.map Option.isSome
theorem KJl (m:Nat) (Z:List Nat) {i:Nat} {e:Env} {h:A4} (hw:J P f R i e h) (hlow:a9l (c63 h) h.bufs.length e=true /\ a6x (c63 h) h.bufs.length h.blks=true) (hp:((run m s).pc,(run m s).k,Z8 (c63 h) (run m s).h.blks,(run m s).h.bufs.take h.bufs.length,(run m s).h.globs)=((pos P f i).1,(pos P f i).2,h.blks,h.bufs,h.globs):=by kernel_rfl) (hc:atC (run m s)=true:=by kernel_rfl) (he:e.map (e9f Z (run m s).env)=e.map (fun p=>some p.2):=by kernel_rfl) (hm:((List.range R.kb).all (fun k=>(c63 h).getD k false)&&Nat.ble R.kf h.bufs.length&&S6 h.globs)=true:=by kernel_rfl):Ok P f R s:=by
 simp only [Prod.mk.injEq] at hp
 simp only [Bool.and_eq_true,List.all_eq_true,List.mem_range] at hm
 refine N1 m (d7c Z hc he ?_)
 generalize run m s=s0 at*
 obtain ⟨pc,k,env,h0⟩:=s0
 obtain ⟨h1,h2,h3,h4,h5⟩:=hp
 simp only at h1 h2 h3 h4 h5
 have hw':Ok P f R ⟨pc,k,e,⟨Z8 (c63 h) h0.blks,h0.bufs.take h.bufs.length,h0.globs⟩⟩:=by
  rw [h3,h4,h5,h1,h2]; exact hw
 have hl2:a6x (c63 h) h.bufs.length (Z8 (c63 h) h0.blks)=true:=by rw [h3]; exact hlow.2
 have hg:S6 h0.globs=true:=by rw [h5]; exact hm.2
 cases pc with
 |c x=>exact f90 _ _ hm.1.1 (Nat.le_of_ble_eq_true hm.1.2) hlow.1 hl2 hg hw'
 |l x=>exact f7a _ _ hm.1.1 (Nat.le_of_ble_eq_true hm.1.2) hlow.1 hl2 hg hw'
 |g l x=>exact e6s _ _ hm.1.1 (Nat.le_of_ble_eq_true hm.1.2) hlow.1 hl2 hg hw'
 |_=>cases hc
theorem KO (m t sz:Nat) (hk:Ok P f R ⟨(run m s).pc,(run m s).k,(t,.sl [] (.own (run m s).h.bufs.length))::(run m s).env,⟨(run m s).h.blks,(run m s).h.bufs++[(0,sz)],(run m s).h.globs⟩⟩) (hc:atC (run m s)=true:=by kernel_rfl) (hg:get (run m s).env t=some .nil:=by kernel_rfl):Ok P f R s:=N1 m (c6j hc fun σ a hs=>by
 obtain ⟨σ',h1,h2,h3⟩:=f2r sz hg hs
 exact ⟨σ',_,_,h1,h2,h3,hk⟩)
def c37 (s:Mc) (i:Nat):List AV:=((s.h.blks[i]?).bind id).getD []
theorem KOb (m i j sz:Nat) (hk:Ok P f R ⟨(run m s).pc,(run m s).k,(run m s).env,⟨(run m s).h.blks.set i (some ((c37 (run m s) i).set j (.sl [] (.own (run m s).h.bufs.length)))),(run m s).h.bufs++[(0,sz)],(run m s).h.globs⟩⟩) (hc:atC (run m s)=true:=by kernel_rfl) (hg:(run m s).h.blks[i]? =some (some (c37 (run m s) i)):=by kernel_rfl) (hj:(c37 (run m s) i)[j]? =some .nil:=by kernel_rfl):Ok P f R s:=N1 m (c6j hc fun σ a hs=>by
 obtain ⟨σ',h1,h2,h3⟩:=e2l sz hg hj hs
 exact ⟨σ',_,_,h1,h2,h3,hk⟩)
theorem KNb (m i j:Nat) (hk:Ok P f R ⟨(run m s).pc,(run m s).k,(run m s).env,⟨(run m s).h.blks.set i (some ((c37 (run m s) i).set j (nz1 (atE (c37 (run m s) i) j)))),(run m s).h.bufs,(run m s).h.globs⟩⟩) (hc:atC (run m s)=true:=by kernel_rfl) (hg:(run m s).h.blks[i]? =some (some (c37 (run m s) i)):=by kernel_rfl) (hj:(c37 (run m s) i)[j]? =some (atE (c37 (run m s) i) j):=by kernel_rfl) (hi:(a7f (c37 (run m s) i)&&a7f ((c37 (run m s) i).set j (nz1 (atE (c37 (run m s) i) j))))=true:=by kernel_rfl):Ok P f R s:=by
 rw [Bool.and_eq_true] at hi
 exact N1 m (c6j hc fun σ a hs=>⟨σ,_,_,rfl,Le.refl σ,g0q hg hj rfl hi.1 hi.2 hs,hk⟩)
def done (s:Mc):Bool:=match s.pc,s.k with
 |.n .ret,[]=>true
 |.n .normal,[]=>true
 |_,_=>false
theorem d6z (hd:done s=true) (hk:R.Q (cdR P f) .ret s.env s.h):Ok P f R s:=by
 obtain ⟨pc,k,env,h⟩:=s
 simp only [done] at hd
 split at hd
 ·exact hk
 ·cases R<;>exact hk
 ·cases hd
theorem KR (m:Nat) {T:Type} {e:T ->AV} {r r0:T} (hw:r=r0) (hp:∀r,plain (e r)=true) (hd:done (run m s)=true:=by kernel_rfl) (he:(c22 (run m s).env (run m s).h (cdR P f)).map (fun l=>nz (c9d l))=some (e r0):=by kernel_rfl):Ok P f (.ret (e r)) s:=N1 m (d6z hd (rx hw (hp r0) he))
theorem KRi (m:Nat) {T:Type} {k:Nat} {e:T ->AV} {fc:T ->List AV} {fb:T ->List (Nat × Nat)} {r r0:T} (hw:r=r0) (hp:∀r,plain (e r)=true /\ (fc r).all ok1=true /\ lowL [true] k (fc r)=true /\ (fb r).length=k) (hd:done (run m s)=true:=by kernel_rfl) (he:(c22 (run m s).env (run m s).h (cdR P f)).map (fun l=>nz (c9d l))=some (e r0):=by kernel_rfl) (hb:(run m s).h.blks[0]? =some (some (c37 (run m s) 0)):=by kernel_rfl) (hit:a7f (c37 (run m s) 0)=true:=by kernel_rfl) (hc:(c37 (run m s) 0).map (a10 0 (some 0))=fc r0:=by kernel_rfl) (hf:(run m s).h.bufs.take k=fb r0:=by kernel_rfl) (hg:(run m s).h.globs=[]:=by kernel_rfl):Ok P f (.io k (e r) (fc r) (fb r)) s:=N1 m (d6z hd (rio hw ⟨(hp r0).1,(hp r0).2.1,(hp r0).2.2.1⟩ _ he hb hit hc hf hg))
theorem KRr (m:Nat) {α:Type} (E:En α) {r l:List α} (hw:l≠[] /\ r=l) (hd:done (run m s)=true:=by kernel_rfl) (hr:cdR P f=[]:=by kernel_rfl) (hb:(run m s).h.blks[0]? =some (some (cellsOf E.f l)):=by kernel_rfl) (hf:(run m s).h.bufs.take 0=[]:=by kernel_rfl) (hg:(run m s).h.globs=[]:=by kernel_rfl):Ok P f (.io 0 (.tuple []) (cellsOf E.f r) []) s:=N1 m (d6z hd (by rw [hr]; exact h17 E.ro hw hb hf hg))
theorem d2t (h:(a8m P f).isSome=true):a8m P f=some (cdN P f,cdC P f,cdR P f):=by
 unfold cdN cdC cdR
 cases hg:a8m P f with
 |none=>rw [hg] at h; cases h
 |some p=>rfl
def s0 (P:Program) (f:Nat) (args:List AV) (h:A4):Mc:=⟨.c (cdC P f),[],b6h 0 args,h⟩
theorem fP {gl:List (Nat × List AV)} {args:List AV} {r:AV} (hk:Ok P f (.ret r) (s0 P f args ⟨[],[],gl⟩)) (hf:((a8m P f).isSome&&Nat.ble args.length (cdN P f))=true:=by kernel_rfl):C1 P gl f args r:=by
 rw [Bool.and_eq_true] at hf
 exact f7v (d2t hf.1) (Nat.le_of_ble_eq_true hf.2) rfl hk
theorem fIO {k:Nat} {args c:List AV} {bf:List (Nat × Nat)} {r:AV} {c':List AV} {bf':List (Nat × Nat)} (hk:Ok P f (.io k r c' bf') (s0 P f args ⟨[some c],bf,[]⟩)) (hb:bf.length=k:=by kernel_rfl) (hf:((a8m P f).isSome&&Nat.ble args.length (cdN P f))=true:=by kernel_rfl):b4b P [] f args c bf r c' bf':=by
 rw [Bool.and_eq_true] at hf
 exact h2b (d2t hf.1) k hb (Nat.le_of_ble_eq_true hf.2) rfl hk
theorem fRO {α:Type} {e:α ->List AV} {sz len:Nat} {args:List AV} {l r:List α} (hk:Ok P f (.io 0 (.tuple []) (cellsOf e r) []) (s0 P f (.row 0 0 sz len len::args) ⟨[some (cellsOf e l)],[],[]⟩)) (hf:((a8m P f).isSome&&Nat.ble (AV.row 0 0 sz len len::args).length (cdN P f))=true:=by kernel_rfl):b96 P e sz f len args l r:=fIO hk rfl hf
def g9v (s:Mc):Bool:=match s.pc with
 |.v (o::_)=>I9 s.env o.guard==some true
 |_=>false
theorem KN (m:Nat) {α:Type} (E:En α) {l:List α} {c:Bool} {W:Bool ->Prop} (hw:∀b:Bool,(l≠[] ->b=c) ->W b) (hk:∀b,W b ->Ok P f R (put (run m s) (.v (.bool b)))) (hc:g9v (run m s)=true:=by kernel_rfl) (ho:op (run m s)=.eq .slice (!c) (oX (op (run m s))) (oY (op (run m s))):=by kernel_rfl) (hx:b60 (xv (run m s))=some (List.map E.f l):=by kernel_rfl) (hy:yv (run m s)=some .nil:=by kernel_rfl):Ok P f R s:=by
 refine N1 m ?_
 generalize run m s=s0 at*
 obtain ⟨pc,k,env,h⟩:=s0
 obtain ⟨tok,hx⟩:=a5v hx
 cases pc with
 |v L=>
  cases L with
  |nil=>cases hc
  |cons o L=>
   refine .inr (.inr ⟨by simpa [g9v] using hc,fun av=>∃b:Bool,av=.v (.bool b) /\ (l≠[] ->b=c),fun K' hK'=> ?_,fun av hav=> ?_⟩)
   ·change o.op=_ at ho
    rw [ho]
    simp only [aop]
    change wv (xv _) _
    rw [hx]
    simp only [wv]
    change wv (yv _) _
    rw [hy]
    simp only [wv,e8w]
    rcases Classical.em (l=[]) with h0|h0
    ·right
     subst h0
     exact ⟨rfl,hK' _ ⟨_,rfl,fun hn=>absurd rfl hn⟩,hK' _ ⟨_,rfl,fun hn=>absurd rfl hn⟩⟩
    ·left
     refine ⟨by simpa using h0,hK' _ ⟨_,rfl,fun _=> ?_⟩⟩
     cases c<;>rfl
   ·obtain ⟨b,rfl,hb⟩:=hav
    exact hk b (hw b hb)
 |_=>cases hc
theorem b55 {s:Mc} {h:A4} (hs:seE s=none):seS s h=none:=by
 obtain ⟨pc,k,env,h⟩:=s
 cases pc with
 |s b L S gl w tl=>cases L<;>first|rfl|cases hs
 |_=>rfl
theorem KX (m:Nat) {t:ByteArray} {p:Nat} {A B:Prop} (hw:(p<t.size ->A) /\ (¬p<t.size ->B)) (h1:p<t.size ->A ->Ok P f R (c9l (run m s) (.tuple [.v (.bool true),.v (.int .i64 p),.v (.int .i32 (Utf8.decode t p).1)]) ⟨(run m s).h.blks.set (e0v (xv (run m s))) (some [.it t (p+(Utf8.decode t p).2)]),(run m s).h.bufs,(run m s).h.globs⟩)) (h2:¬p<t.size ->B ->Ok P f R (c9l (run m s) (.tuple [.v (.bool false)]) (run m s).h)) (hc:okH (run m s)=true:=by kernel_rfl) (ho:op (run m s)=.next (oX (op (run m s))):=by kernel_rfl) (hx:xv (run m s)=some (.ptr (e0v (xv (run m s))) 0):=by kernel_rfl) (hb:(run m s).h.blks[e0v (xv (run m s))]? =some (some [.it t p]):=by kernel_rfl) (hs:seE (run m s)=none:=by kernel_rfl):Ok P f R s:=by
 have hsn:∀h',seS (run m s) h'=seE (run m s):=fun h'=>by rw [hs]; exact b55 hs
 rcases Nat.lt_or_ge p t.size with hp|hp
 ·refine N1 m (a43 (fun K hk=> ?_) (h1 hp (hw.1 hp)) hc (hsn _))
  rw [ho]
  simp only [aop]
  change wv (xv _) _
  rw [hx]
  simp only [wv,c4y,hb]
  exact ⟨fun _=>hk,fun hn=>(hn hp).elim⟩
 ·refine N1 m (a43 (fun K hk=> ?_) (h2 (Nat.not_lt.2 hp) (hw.2 (Nat.not_lt.2 hp))) hc (hsn _))
  rw [ho]
  simp only [aop]
  change wv (xv _) _
  rw [hx]
  simp only [wv,c4y,hb]
  exact ⟨fun hn=>(Nat.not_lt.2 hp hn).elim,fun _=>hk⟩
end
abbrev JP (P:Program) (f:Nat) (r:AV) (i:Nat) (e:Env):Prop:=J P f (.ret r) i e ⟨[],[],[]⟩
section
variable {P:Program} {f:Nat} {R:Rm} {s:Mc} {α:Type} {W:α ->Prop} {p:Prop}
theorem mS {h:A4} {y:Option AV} {E:En Int} {t:ByteArray} (hy:y=some (.v (.string t)):=by kernel_rfl) (hE:E.f=(fun n=>[AV.v (.int .u8 n)]):=by kernel_rfl):HM h y E (bI t):=by
 unfold HM
 rw [hE]
 exact g1z hy
theorem KC0 (m:Nat) {g:FuncId} {gl:List (Nat × List AV)} {args:List AV} {r:AV} (hw:C1 P gl g args r /\ p) (hp:plainL args=true) (hk:p ->Ok P f R (put (run m s) r)) (hc:okS (run m s)=true:=by kernel_rfl) (ho:op (run m s)=.call (.c (.clo (.func g) [] [])) (oA (op (run m s))):=by kernel_rfl) (ha:(evs (run m s).env (oA (op (run m s)))).map (List.map nz)=some args:=by kernel_rfl) (hg:e3n (run m s)=gl:=by kernel_rfl) (hgl:S6 gl=true:=by kernel_rfl):Ok P f R s:=KC (W:=fun _:Unit=>p) (e:=fun _=>r) m ⟨(),hw⟩ hp (fun _=>hk) hc ho ha hg hgl
def ioN (s:Mc):Nat:=match evs s.env (oA (op s)) with
 |some (.ptr n _::_)=>n
 |some (.row n _ _ _ _::_)=>n
 |_=>0
def ioA (s:Mc):List AV:=(evs s.env (oA (op s))).getD []
theorem KIO (m:Nat) {g:FuncId} {gl:List (Nat × List AV)} {small c:List AV} {bf:List (Nat × Nat)} {e:α ->AV} {c':α ->List AV} {bf':α ->List (Nat × Nat)} (hw:∃y,b4b P gl g small c bf (e y) (c' y) (bf' y) /\ W y) (hp:∀{y:α},c.all ok1=true /\ (c' y).all ok1=true /\ small.all okA=true /\ plain (e y)=true) (hk:∀y,W y ->Ok P f R (c9l (run m s) (e y) ⟨(run m s).h.blks.set (ioN (run m s)) (some ((c' y).map (d18 (ioN (run m s)) none))),(run m s).h.bufs,(run m s).h.globs⟩)) (hc:okH (run m s)=true:=by kernel_rfl) (ho:op (run m s)=.call (.c (.clo (.func g) [] [])) (oA (op (run m s))):=by kernel_rfl) (hb:(bf,bf')=([],fun _=>[]):=by kernel_rfl) (ha:evs (run m s).env (oA (op (run m s)))=some (ioA (run m s)):=by kernel_rfl) (hn:(run m s).h.blks[ioN (run m s)]? =some (some (c37 (run m s) (ioN (run m s)))):=by kernel_rfl) (hit:a7f (c37 (run m s) (ioN (run m s)))=true:=by kernel_rfl) (hit':(fun y=>a7f (c' y))=(fun _=>true):=by kernel_rfl) (hcc:(c37 (run m s) (ioN (run m s))).map (a10 (ioN (run m s)) none)=c:=by kernel_rfl) (hargs:(ioA (run m s)).map (smol (ioN (run m s)) none)=small:=by kernel_rfl) (hg:(run m s).h.globs=gl:=by kernel_rfl) (hgl:S6 gl=true:=by kernel_rfl) (hs:seE (run m s)=none:=by kernel_rfl):Ok P f R s:=by
 obtain ⟨y,h1,hw⟩:=hw
 subst hg
 simp only [Prod.mk.injEq] at hb
 refine N1 m (a43 ?_ (hk y hw) hc (by rw [hs]; exact b55 hs))
 rw [ho]
 exact g8p _ none _ _ _ h1 hp (.inl ⟨rfl,hb.1,congrFun hb.2 y,rfl⟩) ha hn hit (congrFun hit' y) hcc hargs rfl hgl
theorem g42 {l:List (Nat × Nat)} (h:l.length=1):∃x,l=[x]:=by
 match l,h with
 |[x],_=>exact ⟨x,rfl⟩
theorem KI1 (m:Nat) {g:FuncId} {gl:List (Nat × List AV)} {small c:List AV} {bf:List (Nat × Nat)} {e:α ->AV} {c':α ->List AV} {bf':α ->List (Nat × Nat)} (hw:∃y,b4b P gl g small c bf (e y) (c' y) (bf' y) /\ W y) (hp:∀{y:α},c.all ok1=true /\ (c' y).all ok1=true /\ small.all okA=true /\ plain (e y)=true) (hk:∀y,W y ->Ok P f R (c9l (run m s) (e y) ⟨(run m s).h.blks.set (ioN (run m s)) (some ((c' y).map (d18 (ioN (run m s)) (some 0)))),bf' y,(run m s).h.globs⟩)) (hc:okH (run m s)=true:=by kernel_rfl) (ho:op (run m s)=.call (.c (.clo (.func g) [] [])) (oA (op (run m s))):=by kernel_rfl) (hb:(bf.length,fun y=>(bf' y).length)=(1,fun _=>1):=by kernel_rfl) (hb2:(run m s).h.bufs=bf:=by kernel_rfl) (ha:evs (run m s).env (oA (op (run m s)))=some (ioA (run m s)):=by kernel_rfl) (hn:(run m s).h.blks[ioN (run m s)]? =some (some (c37 (run m s) (ioN (run m s)))):=by kernel_rfl) (hit:a7f (c37 (run m s) (ioN (run m s)))=true:=by kernel_rfl) (hit':(fun y=>a7f (c' y))=(fun _=>true):=by kernel_rfl) (hcc:(c37 (run m s) (ioN (run m s))).map (a10 (ioN (run m s)) (some 0))=c:=by kernel_rfl) (hargs:(ioA (run m s)).map (smol (ioN (run m s)) (some 0))=small:=by kernel_rfl) (hg:(run m s).h.globs=gl:=by kernel_rfl) (hgl:S6 gl=true:=by kernel_rfl) (hs:seE (run m s)=none:=by kernel_rfl):Ok P f R s:=by
 obtain ⟨y,h1,hw⟩:=hw
 subst hg
 simp only [Prod.mk.injEq] at hb
 obtain ⟨x,hx⟩:=g42 hb.1
 obtain ⟨x',hx'⟩:=g42 (congrFun hb.2 y)
 refine N1 m (a43 ?_ (hk y hw) hc (by rw [hs]; exact b55 hs))
 rw [ho]
 exact g8p _ (some 0) _ _ _ h1 hp (.inr ⟨x,x',rfl,hx,hx',hb2.trans hx,hx'⟩) ha hn hit (congrFun hit' y) hcc hargs rfl hgl
theorem KIN (m j sz:Nat) {g:FuncId} {gl:List (Nat × List AV)} {small c:List AV} {bf:List (Nat × Nat)} {e:α ->AV} {c':α ->List AV} {bf':α ->List (Nat × Nat)} (hw:∃y,b4b P gl g small c bf (e y) (c' y) (bf' y) /\ W y) (hp:∀{y:α},c.all ok1=true /\ (c' y).all ok1=true /\ small.all okA=true /\ plain (e y)=true) (hk:∀y,W y ->Ok P f R (c9l (run m s) (e y) ⟨(run m s).h.blks.set (ioN (run m s)) (some ((c' y).map (d18 (ioN (run m s)) (some 0)))),bf' y,(run m s).h.globs⟩)) (hc:okH (run m s)=true:=by kernel_rfl) (ho:op (run m s)=.call (.c (.clo (.func g) [] [])) (oA (op (run m s))):=by kernel_rfl) (hb:(bf,fun y=>(bf' y).length)=([(0,sz)],fun _=>1):=by kernel_rfl) (hb2:(run m s).h.bufs=[]:=by kernel_rfl) (ha:evs (run m s).env (oA (op (run m s)))=some (ioA (run m s)):=by kernel_rfl) (hn:(run m s).h.blks[ioN (run m s)]? =some (some (c37 (run m s) (ioN (run m s)))):=by kernel_rfl) (hj:(c37 (run m s) (ioN (run m s)))[j]? =some .nil:=by kernel_rfl) (hit:a7f ((c37 (run m s) (ioN (run m s))).set j (.sl [] (.own 0)))=true:=by kernel_rfl) (hit':(fun y=>a7f (c' y))=(fun _=>true):=by kernel_rfl) (hcc:((c37 (run m s) (ioN (run m s))).set j (.sl [] (.own 0))).map (a10 (ioN (run m s)) (some 0))=c:=by kernel_rfl) (hargs:(ioA (run m s)).map (smol (ioN (run m s)) (some 0))=small:=by kernel_rfl) (hg:(run m s).h.globs=gl:=by kernel_rfl) (hgl:S6 gl=true:=by kernel_rfl) (hs:seE (run m s)=none:=by kernel_rfl):Ok P f R s:=by
 obtain ⟨y,h1,hw⟩:=hw
 subst hg
 simp only [Prod.mk.injEq] at hb
 obtain ⟨x',hx'⟩:=g42 (congrFun hb.2 y)
 refine N1 m (a43 ?_ (hk y hw) hc (by rw [hs]; exact b55 hs))
 rw [ho,hx']
 exact g5k _ j sz _ _ _ h1 hp ⟨hb.1,hx'⟩ ha hn hj hb2 hit (congrFun hit' y) hcc hargs rfl hgl
theorem KRO (m:Nat) (E:En α) {g:FuncId} {len:Nat} {small:List AV} {l:List α} {W:List α ->Prop} (hw:∃y,b96 P E.f E.sz g len small l y /\ (l≠[] /\ y≠[]) /\ W y) (hp:small.all okA=true) (hk:∀y,W y ->Ok P f R (c9l (run m s) (.tuple []) ⟨(run m s).h.blks.set (ioN (run m s)) (some (cellsOf E.f y)),(run m s).h.bufs,(run m s).h.globs⟩)) (hc:okH (run m s)=true:=by kernel_rfl) (ho:op (run m s)=.call (.c (.clo (.func g) [] [])) (oA (op (run m s))):=by kernel_rfl) (ha:evs (run m s).env (oA (op (run m s)))=some (ioA (run m s)):=by kernel_rfl) (hn:(run m s).h.blks[ioN (run m s)]? =some (some (cellsOf E.f l)):=by kernel_rfl) (hargs:(ioA (run m s)).map (smol (ioN (run m s)) none)=.row 0 0 E.sz len len::small:=by kernel_rfl) (hg:(run m s).h.globs=[]:=by kernel_rfl) (hs:seE (run m s)=none:=by kernel_rfl):Ok P f R s:=by
 obtain ⟨y,h1,h0,hw⟩:=hw
 refine N1 m (a43 ?_ (hk y hw) hc (by rw [hs]; exact b55 hs))
 rw [ho]
 exact g7t _ _ E.ro h1 h0 hp ha hn hargs hg
theorem KNw (m:Nat) (E:En α) {g:FuncId} {l:List α} (h0:l≠[]) (hw:f38 P E.f E.sz g l /\ p) (hk:p ->Ok P f R (c9l (run m s) (.row (run m s).h.blks.length 0 E.sz l.length l.length) ⟨(run m s).h.blks++[some (cellsOf E.f l)],(run m s).h.bufs,(run m s).h.globs⟩)) (hc:okH (run m s)=true:=by kernel_rfl) (ho:op (run m s)=.call (.c (.clo (.func g) [] [])) (oA (op (run m s))):=by kernel_rfl) (ha:(evs (run m s).env (oA (op (run m s)))).map (List.map nz)=some [.sl (l.map E.f) .no]:=by kernel_rfl) (hs:seE (run m s)=none:=by kernel_rfl):Ok P f R s:=N1 m (a43 (by rw [ho]; exact g5v hw.1 E.ro h0 ha) (hk hw.2) hc (by rw [hs]; exact b55 hs))
theorem KNB (m:Nat) (E:En α) {g:FuncId} {l:List α} (hw:f85 P E.f E.sz g l /\ p) (hk:p ->Ok P f R (c9l (run m s) (.sl (l.map E.f) (.own (run m s).h.bufs.length)) ⟨(run m s).h.blks,(run m s).h.bufs++[(l.length,E.sz)],(run m s).h.globs⟩)) (hc:okH (run m s)=true:=by kernel_rfl) (ho:op (run m s)=.call (.c (.clo (.func g) [] [])) (oA (op (run m s))):=by kernel_rfl) (ha:(evs (run m s).env (oA (op (run m s)))).map (List.map nz)=some [.sl (l.map E.f) .no]:=by kernel_rfl) (hs:seE (run m s)=none:=by kernel_rfl):Ok P f R s:=N1 m (a43 (by rw [ho]; exact g0m hw.1 E.ro.hp ha) (hk hw.2) hc (by rw [hs]; exact b55 hs))
theorem KT2 (m n:Nat) (B:Bool) (C:Bool ->AV) (h1:B=true ->Ok P f R (jn (run m s) n (C true)) ->Ok P f R (br (run m s) true)) (h2:B=false ->Ok P f R (jn (run m s) n (C false)) ->Ok P f R (br (run m s) false)) (hk:Ok P f R (jn (run m s) n (C B))) (hv:cv (run m s)=some (.v (.bool B)):=by kernel_rfl):Ok P f R s:=N1 m (e5q hv (fun h=>h1 h (by rw [h] at hk; exact hk)) fun h=>h2 h (by rw [h] at hk; exact hk))
theorem KE2 (m:Nat) {a:AV} {s0:Mc} {n:Nat} (key:Ok P f R (jn s0 n a)) (ha:get (run m s).env (jnD s0 n)=some a:=by kernel_rfl) (hb:c7a (run m s)=c7a (jn s0 n a):=by kernel_rfl) (hd:(run m s).env.drop ((run m s).env.length - s0.env.length)=s0.env:=by kernel_rfl) (hf:met s0 (run m s) n=true:=by kernel_rfl):Ok P f R s:=N1 m (d9b key ha hb hd hf)
def g4g (s:Mc):Bool:=match s.pc with
 |.c _=>true
 |_=>false
def cut (e:Env) (env:Env):Env:=e.map fun p=>(p.1,(get env p.1).getD .nil)
theorem e41 {e:Env} (hc:g4g s=true) (he:(cut e s.env).map (e9f [] s.env)=(cut e s.env).map fun p=>some p.2) (hk:∀x,s.pc=.c x ->D P (cdN P f) R.kb R.kf x (Qs P f R s.k) (cut e s.env) s.h):Ok P f R s:=by
 refine d7c [] ?_ he ?_
 ·obtain ⟨pc,k,env,h⟩:=s
  cases pc<;>first|rfl|cases hc
 ·obtain ⟨pc,k,env,h⟩:=s
  cases pc<;>first|exact hk _ rfl|cases hc
theorem KFz (m n:Nat) (mk:List Bool) (k:Nat) (e:Env) (bs:List (Option (List AV))) (hl:a9l mk k e=true /\ a6x mk k bs=true) (hk:Ok P f R ⟨(run m s).pc,(run m s).k,e,⟨bs,(run m s).h.bufs.take k,(run m s).h.globs⟩⟩) (hc:g4g (run m s)=true:=by kernel_rfl) (he:(cut e (run m s).env).map (e9f [] (run m s).env)=(cut e (run m s).env).map (fun p=>some p.2):=by kernel_rfl) (hb:(run m s).h.blks[n]? =some (some (c37 (run m s) n)):=by kernel_rfl) (h1:(a7f (c37 (run m s) n)&& !mk.getD n false&&c4a mk (run m s).h.blks&&(List.range R.kb).all (fun k=>mk.getD k false)&&Nat.ble R.kf k&&S6 (run m s).h.globs)=true:=by kernel_rfl) (hE:fzE n (c37 (run m s) n) (cut e (run m s).env)=e:=by kernel_rfl) (hbs:Z8 mk (run m s).h.blks=bs:=by kernel_rfl):Ok P f R s:=by
 simp only [Bool.and_eq_true,List.all_eq_true,List.mem_range,Bool.not_eq_true'] at h1
 obtain ⟨⟨⟨⟨⟨a1,a2⟩,a3⟩,a4⟩,a5⟩,a6⟩:=h1
 refine N1 m (e41 hc he fun x hx=> ?_)
 rw [hx] at hk
 subst hbs
 exact f02 n mk k _ hb a1 a2 a3 a4 (Nat.le_of_ble_eq_true a5) hE hl.1 hl.2 a6 hk
theorem KDf (m:Nat) (E:En α) (n:Nat) (mk:List Bool) (k c:Nat) (e:Env) (bs:List (Option (List AV))) (hl:a9l mk k e=true /\ a6x mk k bs=true) {l:List α} {len:Nat} (hw:l.length=len /\ p) (hk:p ->Ok P f R ⟨(run m s).pc,(run m s).k,e,⟨bs,(run m s).h.bufs.take k,(run m s).h.globs⟩⟩) (hc:g4g (run m s)=true:=by kernel_rfl) (he:(cut e (run m s).env).map (e9f [] (run m s).env)=(cut e (run m s).env).map (fun p=>some p.2):=by kernel_rfl) (hb:(run m s).h.blks[n]? =some (some (cellsOf E.f l)):=by kernel_rfl) (h1:(Nat.ble 1 E.sz&& !mk.getD n false&&c4a mk (run m s).h.blks&&(List.range R.kb).all (fun k=>mk.getD k false)&&Nat.ble R.kf k&&S6 (run m s).h.globs)=true:=by kernel_rfl) (hr:b7k n (cut e (run m s).env)=List.replicate c (0,E.sz,len):=by kernel_rfl) (hE:f4o n (List.map E.f l) (cut e (run m s).env)=e:=by kernel_rfl) (hbs:Z8 mk (run m s).h.blks=bs:=by kernel_rfl):Ok P f R s:=by
 simp only [Bool.and_eq_true,List.all_eq_true,List.mem_range,Bool.not_eq_true'] at h1
 obtain ⟨⟨⟨⟨⟨a1,a2⟩,a3⟩,a4⟩,a5⟩,a6⟩:=h1
 refine N1 m (e41 hc he fun x hx=> ?_)
 have hk:=hk hw.2
 rw [hx] at hk
 exact drf n mk k c l len e bs E.ro.hs E.ro.hn hw.1 hl hk hb a1 hr a2 a3 a4 a5 hE hbs a6
theorem KDg (m:Nat) (E:En α) (n:Nat) (mk:List Bool) (k c c':Nat) (e:Env) (bs:List (Option (List AV))) (hl:a9l mk k e=true /\ a6x mk k bs=true) {l:List α} {len:Nat} (hw:l.length=len /\ p) (hk:p ->Ok P f R ⟨(run m s).pc,(run m s).k,e,⟨bs,(run m s).h.bufs.take k,(run m s).h.globs⟩⟩) (hc:g4g (run m s)=true:=by kernel_rfl) (he:(cut e (run m s).env).map (e9f [] (run m s).env)=(cut e (run m s).env).map (fun p=>some p.2):=by kernel_rfl) (hb:(run m s).h.blks[n]? =some (some (cellsOf E.f l)):=by kernel_rfl) (h1:(!mk.getD n false&&c4a mk (run m s).h.blks&&(List.range R.kb).all (fun k=>mk.getD k false)&&Nat.ble R.kf k&&S6 (run m s).h.globs)=true:=by kernel_rfl) (hr:b7k n (cut e (run m s).env)=List.replicate c (0,E.sz,len):=by kernel_rfl) (hr2:e3z n (Z8 mk (run m s).h.blks)=List.replicate c' (0,E.sz,len):=by kernel_rfl) (hE:f4o n (List.map E.f l) (cut e (run m s).env)=e:=by kernel_rfl) (hbs:f6b n (List.map E.f l) (Z8 mk (run m s).h.blks)=bs:=by kernel_rfl):Ok P f R s:=by
 simp only [Bool.and_eq_true,List.all_eq_true,List.mem_range,Bool.not_eq_true'] at h1
 obtain ⟨⟨⟨⟨a2,a3⟩,a4⟩,a5⟩,a6⟩:=h1
 refine N1 m (e41 hc he fun x hx=> ?_)
 have hk:=hk hw.2
 rw [hx] at hk
 exact h1z n mk k c c' l len e bs E.ro.hs E.ro.hn hw.1 hl hk hb hr hr2 a2 a3 a4 a5 hE hbs a6
end
def h0v (P:Program) (l:List Nat):Tbl:=l.map fun g=>(g,cdN P g,cdC P g,cdR P g)
theorem f9j {P:Program} {l:List Nat} (h:l.all (fun g=>(a8m P g).isSome)=true):c94 P (h0v P l):=by
 intro g x hm
 obtain ⟨k,hk,he⟩:=List.mem_map.1 hm
 cases he
 exact d2t (List.all_eq_true.1 h g hk)
def f34 (sz b:Nat):O1:=.seq (.region [o 2 (.mv (.c .nil))]) (.seq (.seq (.region [o 3 (mv 0),o 4 (.eq .slice true (T 3) (.c .nil))]) (.cond (T 4) (.seq (.region [o 2 (.mv (.c .nil))]) .ret) .skip)) (.seq (.region [o 5 (.sliceLit sz 0 [] []),o 6 (mv 0),o 7 (.append sz b (T 5) (T 6)),o 2 (mv 7)]) .ret))
theorem e13 {P:Program} {sz:Nat} {env:Env} {h:A4}:a12 P (.sliceLit sz 0 [] []) env h (.sl [] .full) h:=f4h (by simp [c91,evp,c9r,c52])
theorem d5s {P:Program} {g b:Nat} {α:Type} (E:En α) {s:List α} (hw:s≠[] /\ s.length*b<=140737488355328) (hf:a8m P g=some (8,f34 E.sz b,[.tmp 2]):=by kernel_rfl):f38 P E.f E.sz g s:=by
 refine g5r hf rfl rfl (ds (va 1 [] (ve (d8d (ds (va 1 [(3,.sl (List.map E.f s) .no)] (vn rfl s E.f (fun bj1 hb0=> ?_))))))))
 refine ve (dkf (hb0 hw.1) ?_)
 refine e4c (ds (vo rfl e13 rfl (va 1 [(6,.sl (List.map E.f s) .no)] ?_)))
 exact vo rfl (g3e E.f s hw.1 hw.2 E.ro.hs (by kernel_rfl)) rfl (va 1 [(2,.row 0 0 E.sz s.length s.length)] (ve (e8z (h1p rfl))))
theorem e2w {P:Program} {g b:Nat} {α:Type} (E:En α) {s:List α} (hw:s.length*b<=140737488355328) (hf:a8m P g=some (8,f34 E.sz b,[.tmp 2]):=by kernel_rfl):f85 P E.f E.sz g s:=by
 refine f9h hf rfl rfl (ds (va 1 [] (ve (d8d (ds (va 1 [(3,.sl (List.map E.f s) .no)] (vn rfl s E.f (fun bj1 hb0=> ?_))))))))
 refine ve (dw (B:=bj1) (p:=s=[]) (q:=True) ⟨fun h=>Classical.byContradiction fun hn=>(by rw [hb0 hn] at h; cases h),fun _=>trivial⟩ (fun _ h0=> ?_) (fun _ _=> ?_))
 ·subst h0
  exact ds (va 1 [(2,.nil)] (ve (g59 (t:=2) E.sz (by kernel_rfl) (e8z (g2b rfl)))))
 refine e4c (ds (vo rfl e13 rfl (va 1 [(6,.sl (List.map E.f s) .no)] ?_)))
 exact vo rfl (f2s E.f ([]:List α) s (by simpa using hw) E.ro.hs (by kernel_rfl) (by kernel_rfl)) rfl (va 1 [(2,.sl (List.map E.f (([]:List α)++s)) (.own 0))] (ve (e8z (g2b (l2:=([]:List α)++s) rfl))))
section
open Go.RowKit Go.ChangeShapes Go.WideShapes Go.ChangeAt
theorem c6p {α:Type} {P:Nat ->α ->Prop}:∀n:Nat,(∀i,i<n ->∃x,P i x) ->∃xs:List α,xs.length=n /\ ∀(i:Nat) x,xs[i]? =some x ->P i x
 |0,_=>⟨[],rfl,fun i x h=>by simp at h⟩
 |n+1,h=>by
  obtain ⟨xs,hl,hx⟩:=c6p n (fun i hi=>h i (by omega))
  obtain ⟨y,hy⟩:=h n (by omega)
  refine ⟨xs++[y],by simp [hl],fun i x hi=> ?_⟩
  by_cases hin:i<n
  ·rw [List.getElem?_append_left (by omega)] at hi; exact hx i x hi
  ·rw [List.getElem?_append_right (by omega)] at hi
   by_cases e:i=n
   ·subst e; rw [hl] at hi; simp at hi; subst hi; exact hy
   ·rw [List.getElem?_eq_none (by simp; omega)] at hi; cases hi
def Ty (P:Program):Nat ->TypeId ->List AV ->Prop
 |0,_,_=>False
 |n+1,t,avs=>match P.underlying t with
  |some (.int k)=>∃m,avs=[.v (.int k m)] /\ (Lit.int k m).wf=true
  |some .bool=>∃b,avs=[.v (.bool b)]
  |some .string=>∃s,avs=[.v (.string s)] /\ s.size<=140737488351232
  |some (.slice e)=>∃els:List (List AV),avs=[.sl els .no] /\ els.length*P.bytesOf e<=140737488351232 /\ ∀el∈els,Ty P n e el
  |some (.struct fs)=>∃parts:List (List AV),avs=parts.flatten /\ parts.length=fs.size /\ ∀(i:Nat) (f:Field),fs[i]? =some f ->∃p,parts[i]? =some p /\ Ty P n f.type p
  |some (.array k e)=>∃parts:List (List AV),avs=parts.flatten /\ parts.length=k /\ ∀p∈parts,Ty P n e p
  |_=>False
def d3o (P:Program):Nat ->List Field ->Nat ->Bool
 |off,[],tot=>off==tot
 |off,f::fs,tot=>f.offset==off&&d3o P (off+P.cellsOf f.type) fs tot
def okT (P:Program) (ts:List TypeId) (t:TypeId):Bool:=
 match P.underlying t with
 |some (.int _)|some .bool|some .string=>true
 |some (.slice e)=>ts.contains e&&decide (0<P.cellsOf e)&&decide (1<=P.bytesOf e)
 |some (.struct fs)=>fs.toList.all (fun f=>ts.contains f.type)&&d3o P 0 fs.toList (P.cellsOf t)
 |some (.array k e)=>ts.contains e&&decide (k*P.cellsOf e=P.cellsOf t)
 |_=>false
def d6x (P:Program) (ts:List TypeId):Bool:=ts.all (okT P ts)
def b5w:Nat ->Nat ->Prop:=fun _ _=>False
section
variable {H:Type} {enc:TypeId × Value ->H} {P:Program} {W:World} {base:Nat} {spare:Nat ->Bool} {held:Bool}
def a0a (P:Program) (t:TypeId) (d:DataW H):Prop:=∀x∈DataW.weights P t d,x<=140737488351232
theorem b59:∀(ts:List TypeId) (ds:List (DataW H)) (i:Nat) (t:TypeId) (d:DataW H),ts[i]? =some t ->ds[i]? =some d ->∀x∈DataW.weights P t d,x∈DataW.weightsEach P ts ds
 |[],_,i,_,_,h,_,_,_=>by simp at h
 |_::_,[],i,_,_,_,h,_,_=>by simp at h
 |t'::ts,d'::ds,0,t,d,h1,h2,x,hx=>by
  simp at h1 h2; subst h1; subst h2
  simp only [DataW.weightsEach,List.mem_append]; exact .inl hx
 |t'::ts,d'::ds,i+1,t,d,h1,h2,x,hx=>by
  simp only [DataW.weightsEach,List.mem_append]
  exact .inr (b59 ts ds i t d (by simpa using h1) (by simpa using h2) x hx)
theorem b1e (e:TypeId):∀(ds:List (DataW H)) (i:Nat) (d:DataW H),ds[i]? =some d ->∀x∈DataW.weights P e d,x∈DataW.weightsAll P e ds
 |[],i,_,h,_,_=>by simp at h
 |d'::ds,0,d,h2,x,hx=>by
  simp at h2; subst h2
  simp only [DataW.weightsAll,List.mem_append]; exact .inl hx
 |d'::ds,i+1,d,h2,x,hx=>by
  simp only [DataW.weightsAll,List.mem_append]
  exact .inr (b1e e ds i d (by simpa using h2) x hx)
theorem a0a.part {t:TypeId} {fs:Array Field} {ps:List (DataW H)} (ht:P.underlying t=some (.struct fs)) (h:a0a P t (.agg ps)) {i:Nat} {f:Field} {d:DataW H} (hf:fs[i]? =some f) (hd:ps[i]? =some d):a0a P f.type d:=by
 intro x hx
 refine h x ?_
 simp only [DataW.weights,ht]
 exact b59 _ _ i f.type d (by simp [hf]) hd x hx
theorem a0a.elem {t e:TypeId} {es sp:List (DataW H)} (ht:P.underlying t=some (.slice e)) (h:a0a P t (.slice es sp)) {i:Nat} {d:DataW H} (hd:es[i]? =some d):a0a P e d:=by
 intro x hx
 refine h x ?_
 simp only [DataW.weights,ht,List.mem_cons,List.mem_append]
 exact .inr (.inl (b1e e es i d hd x hx))
theorem a0a.short {t e:TypeId} {es sp:List (DataW H)} (ht:P.underlying t=some (.slice e)) (h:a0a P t (.slice es sp)):es.length*P.bytesOf e<=140737488351232:=by
 have:=h ((es.length+sp.length)*P.bytesOf e) (by simp only [DataW.weights,ht,List.mem_cons,true_or])
 rw [Nat.add_mul] at this
 omega
theorem a0a.at_ {t e:TypeId} {k:Nat} {ps:List (DataW H)} (ht:P.underlying t=some (.array k e)) (h:a0a P t (.agg ps)) {i:Nat} {d:DataW H} (hd:ps[i]? =some d):a0a P e d:=by
 intro x hx
 refine h x ?_
 simp only [DataW.weights,ht]
 exact b1e e ps i d hd x hx
theorem c4u (σ:Sg):∀(fs:List Field) (off tot:Nat) (cs:List Value) (parts:List (List AV)),d3o P off fs tot=true ->cs.length=tot ->parts.length=fs.length ->
  (∀(i:Nat) (f:Field) (p:List AV),fs[i]? =some f ->parts[i]? =some p ->F3 σ p ((cs.drop f.offset).take (P.cellsOf f.type))) ->F3 σ parts.flatten (cs.drop off)
 |[],off,tot,cs,parts,hc,hl,hp,_=>by
  simp only [d3o,beq_iff_eq] at hc
  have:parts=[]:=List.eq_nil_of_length_eq_zero (by simpa using hp)
  subst this
  rw [List.drop_of_length_le (by omega)]
  exact F3.nil σ
 |f::fs,off,tot,cs,[],hc,hl,hp,_=>by simp at hp
 |f::fs,off,tot,cs,p::parts,hc,hl,hp,h=>by
  simp only [d3o,Bool.and_eq_true,beq_iff_eq] at hc
  obtain ⟨h1,h2⟩:=hc
  have h3:=h 0 f p rfl rfl
  have h4:=c4u σ fs (off+P.cellsOf f.type) tot cs parts h2 hl (by simpa using hp) (fun i g q hg hq=>h (i+1) g q (by simpa using hg) (by simpa using hq))
  have:=h3.append h4
  rw [h1,<-List.drop_drop,List.take_append_drop] at this
  simpa using this
theorem d0g (σ:Sg) (k:Nat):∀(parts:List (List AV)) (cs:List Value),cs.length=parts.length*k ->
  (∀(i:Nat) (p:List AV),parts[i]? =some p ->F3 σ p ((cs.drop (i*k)).take k)) ->F3 σ parts.flatten cs
 |[],cs,hl,_=>by
  have:cs=[]:=List.eq_nil_of_length_eq_zero (by simpa using hl)
  subst this
  exact F3.nil σ
 |p::parts,cs,hl,h=>by
  have h3:=h 0 p rfl
  rw [List.length_cons,Nat.add_mul] at hl
  have h4:=d0g σ k parts (cs.drop k) (by simp; omega) (fun i q hq=>by
   have:=h (i+1) q (by simpa using hq)
   rw [List.drop_drop,show k+i*k=(i+1)*k by rw [Nat.add_mul]; omega]
   exact this)
  have:=h3.append h4
  simp only [Nat.zero_mul,List.drop_zero,List.take_append_drop] at this
  simpa using this
theorem a98 {a b:List AV}:plainL (a++b)=(plainL a&&plainL b):=by
 induction a with
 |nil=>simp [plainL]
 |cons x a ih=>simp [plainL,ih,Bool.and_assoc]
theorem b3d:∀{l:List (List AV)},(∀p∈l,plainL p=true) ->plainL l.flatten=true
 |[],_=>rfl
 |p::l,h=>by rw [List.flatten_cons,a98,h p (by simp),b3d (fun q hq=>h q (by simp [hq]))]; rfl
theorem d01:∀{l:List (List AV)},(∀p∈l,plainL p=true) ->plainLL l=true
 |[],_=>rfl
 |p::l,h=>by simp only [plainLL,Bool.and_eq_true]; exact ⟨h p (by simp),d01 fun q hq=>h q (by simp [hq])⟩
end
end
def eL {α:Type} (e:α ->List AV) (x:List α):List AV:=[.sl (List.map e x) .no]
def d58 (x:Int):List AV:=[.v (.int .i8 x)]
theorem K8 (l:List Int):plainLL (l.map d58)=true:=D4 _ _ fun x _=>rfl
def c7s (x:Int):List AV:=[.v (.int .i16 x)]
theorem G3 (l:List Int):plainLL (l.map c7s)=true:=D4 _ _ fun x _=>rfl
def c7e (x:Int):List AV:=[.v (.int .i32 x)]
theorem G8 (l:List Int):plainLL (l.map c7e)=true:=D4 _ _ fun x _=>rfl
def a87 (x:Int):List AV:=[.v (.int .i64 x)]
theorem F9 (l:List Int):plainLL (l.map a87)=true:=D4 _ _ fun x _=>rfl
def b0q (x:Int):List AV:=[.v (.int .u8 x)]
theorem K1 (l:List Int):plainLL (l.map b0q)=true:=D4 _ _ fun x _=>rfl
def c8j (x:Int):List AV:=[.v (.int .u16 x)]
theorem H3 (l:List Int):plainLL (l.map c8j)=true:=D4 _ _ fun x _=>rfl
def c8d (x:Int):List AV:=[.v (.int .u32 x)]
theorem G5 (l:List Int):plainLL (l.map c8d)=true:=D4 _ _ fun x _=>rfl
def b66 (x:Int):List AV:=[.v (.int .u64 x)]
theorem G4 (l:List Int):plainLL (l.map b66)=true:=D4 _ _ fun x _=>rfl
def c1n (x:Bool):List AV:=[.v (.bool x)]
theorem L7 (l:List Bool):plainLL (l.map c1n)=true:=D4 _ _ fun x _=>rfl
def e5m (x:ByteArray):List AV:=[.v (.string x)]
theorem T7 (l:List ByteArray):plainLL (l.map e5m)=true:=D4 _ _ fun x _=>rfl
structure GOp where
 Num:Int
 Name:ByteArray
 Alias:ByteArray
 Card:Int
 Key:Int
 Kind:Int
 Target:Int
 Union:Int
def W3 (x:GOp):List AV:=[.v (.int .i64 x.Num),.v (.string x.Name),.v (.string x.Alias),.v (.int .i64 x.Card),.v (.int .i64 x.Key),.v (.int .i64 x.Kind),.v (.int .i64 x.Target),.v (.int .i64 x.Union)]
theorem O7 (x:GOp):plainL (W3 x)=true:=by simp [W3,plainL,plain,K8,G3,G8,F9,K1,H3,G5,G4,L7,T7,a0m,T6,a1o]
theorem T4 (l:List GOp):plainLL (l.map W3)=true:=D4 _ _ fun x _=>O7 x
structure B6 where
 Name:ByteArray
 Ops:(List GOp)
 Unions:Int
def E2 (x:B6):List AV:=[.v (.string x.Name),.sl (List.map W3 x.Ops) .no,.v (.int .i64 x.Unions)]
theorem G1 (x:B6):plainL (E2 x)=true:=by simp [E2,plainL,plain,K8,G3,G8,F9,K1,H3,G5,G4,L7,T7,a0m,T6,a1o,O7,T4]
theorem H7 (l:List B6):plainLL (l.map E2)=true:=D4 _ _ fun x _=>G1 x
structure Q0 where
 Num:Int
 Wire:Int
 Bits:Int
 Data:ByteArray
def T1 (x:Q0):List AV:=[.v (.int .i64 x.Num),.v (.int .i64 x.Wire),.v (.int .u64 x.Bits),.v (.string x.Data)]
theorem T5 (x:Q0):plainL (T1 x)=true:=by simp [T1,plainL,plain,K8,G3,G8,F9,K1,H3,G5,G4,L7,T7,a0m,T6,a1o,O7,T4,G1,H7]
theorem K3 (l:List Q0):plainLL (l.map T1)=true:=D4 _ _ fun x _=>T5 x
structure A0 where
 Kind:Int
 Bits:Int
 Text:ByteArray
 List_:(List A0)
 Pairs:(List (A0 × A0))
 Slots:(List (Int × A0))
 Raws:(List Q0)
mutual
def C0:A0 ->List AV
 |⟨f0,f1,f2,f3,f4,f5,f6⟩=>[.v (.int .i64 f0),.v (.int .u64 f1),.v (.string f2),.sl (eGValue'L f3) .no,.sl (eGPair'L f4) .no,.sl (eGSlot'L f5) .no,.sl (List.map T1 f6) .no]
def eGValue'L:List A0 ->List (List AV)
 |[]=>[]
 |x::l=>(C0 x)::eGValue'L l
def eGPair'L:List (A0 × A0) ->List (List AV)
 |[]=>[]
 |(z0,z1)::l=>(C0 z0++C0 z1)::eGPair'L l
def eGSlot'L:List (Int × A0) ->List (List AV)
 |[]=>[]
 |(z0,z1)::l=>([.v (.int .i64 z0)]++C0 z1)::eGSlot'L l
end
def B4 (x:(A0 × A0)):List AV:=C0 x.1++C0 x.2
def B3 (x:(Int × A0)):List AV:=[.v (.int .i64 x.1)]++C0 x.2
theorem b5g:∀l,eGValue'L l=List.map C0 l
 |[]=>rfl
 |x::l=>by simp only [eGValue'L,List.map_cons,b5g l]
theorem b74:∀l,eGPair'L l=List.map B4 l
 |[]=>rfl
 |x::l=>by simp only [eGPair'L,List.map_cons,b74 l,B4]
theorem b62:∀l,eGSlot'L l=List.map B3 l
 |[]=>rfl
 |x::l=>by simp only [eGSlot'L,List.map_cons,b62 l,B3]
def B0 (x:A0):List AV:=[.v (.int .i64 x.Kind),.v (.int .u64 x.Bits),.v (.string x.Text),.sl (List.map C0 x.List_) .no,.sl (List.map B4 x.Pairs) .no,.sl (List.map B3 x.Slots) .no,.sl (List.map T1 x.Raws) .no]
def U4 (x:(A0 × A0)):List AV:=[.v (.int .i64 x.1.Kind),.v (.int .u64 x.1.Bits),.v (.string x.1.Text),.sl (List.map C0 x.1.List_) .no,.sl (List.map B4 x.1.Pairs) .no,.sl (List.map B3 x.1.Slots) .no,.sl (List.map T1 x.1.Raws) .no,.v (.int .i64 x.2.Kind),.v (.int .u64 x.2.Bits),.v (.string x.2.Text),.sl (List.map C0 x.2.List_) .no,.sl (List.map B4 x.2.Pairs) .no,.sl (List.map B3 x.2.Slots) .no,.sl (List.map T1 x.2.Raws) .no]
def W2 (x:(Int × A0)):List AV:=[.v (.int .i64 x.1),.v (.int .i64 x.2.Kind),.v (.int .u64 x.2.Bits),.v (.string x.2.Text),.sl (List.map C0 x.2.List_) .no,.sl (List.map B4 x.2.Pairs) .no,.sl (List.map B3 x.2.Slots) .no,.sl (List.map T1 x.2.Raws) .no]
theorem T8 (x:A0):C0 x=B0 x:=by cases x; simp only [C0,B0,b5g,b74,b62]
theorem b00 (x:(A0 × A0)):B4 x=U4 x:=by simp only [B4,U4,T8,B0,List.cons_append,List.nil_append]
theorem b0x (x:(Int × A0)):B3 x=W2 x:=by simp only [B3,W2,T8,B0,List.cons_append,List.nil_append]
mutual
theorem b8v:∀x,plainL (C0 x)=true
 |⟨f0,f1,f2,f3,f4,f5,f6⟩=>by simp [C0,plainL,plain,pl_eGValue'L f3,pl_eGPair'L f4,pl_eGSlot'L f5,K8,G3,G8,F9,K1,H3,G5,G4,L7,T7,a0m,T6,a1o,O7,T4,G1,H7,T5,K3]
theorem pl_eGValue'L:∀l,plainLL (eGValue'L l)=true
 |[]=>rfl
 |x::l=>by simp [eGValue'L,plainLL,plainL,plain,a98,b8v x,pl_eGValue'L l]
theorem pl_eGPair'L:∀l,plainLL (eGPair'L l)=true
 |[]=>rfl
 |(z0,z1)::l=>by simp [eGPair'L,plainLL,plainL,plain,a98,b8v z0,b8v z1,pl_eGPair'L l]
theorem pl_eGSlot'L:∀l,plainLL (eGSlot'L l)=true
 |[]=>rfl
 |(z0,z1)::l=>by simp [eGSlot'L,plainLL,plainL,plain,a98,b8v z1,pl_eGSlot'L l]
end
theorem F1 (l:List A0):plainLL (l.map C0)=true:=by rw [<-b5g]; exact pl_eGValue'L l
theorem B5 (x:A0):plainL (B0 x)=true:=by have:=F1 [x]; simpa [plainLL,T8] using this
theorem E5 (l:List (A0 × A0)):plainLL (l.map B4)=true:=by rw [<-b74]; exact pl_eGPair'L l
theorem O6 (x:(A0 × A0)):plainL (U4 x)=true:=by have:=E5 [x]; simpa [plainLL,b00] using this
theorem E6 (l:List (Int × A0)):plainLL (l.map B3)=true:=by rw [<-b62]; exact pl_eGSlot'L l
theorem O2 (x:(Int × A0)):plainL (W2 x)=true:=by have:=E6 [x]; simpa [plainLL,b0x] using this
structure b1x where
 Name:ByteArray
 Val:A0
def a7d (x:b1x):List AV:=[.v (.string x.Name),.v (.int .i64 x.Val.Kind),.v (.int .u64 x.Val.Bits),.v (.string x.Val.Text),.sl (List.map C0 x.Val.List_) .no,.sl (List.map B4 x.Val.Pairs) .no,.sl (List.map B3 x.Val.Slots) .no,.sl (List.map T1 x.Val.Raws) .no]
theorem P6 (x:b1x):plainL (a7d x)=true:=by simp [a7d,plainL,plain,K8,G3,G8,F9,K1,H3,G5,G4,L7,T7,a0m,T6,a1o,O7,T4,G1,H7,T5,K3,B5,F1,O6,E5,O2,E6]
theorem K7 (l:List b1x):plainLL (l.map a7d)=true:=D4 _ _ fun x _=>P6 x
structure b24 where
 Name:ByteArray
 Num:Int
 Notes:(List b1x)
def a2e (x:b24):List AV:=[.v (.string x.Name),.v (.int .i64 x.Num),.sl (List.map a7d x.Notes) .no]
theorem S0 (x:b24):plainL (a2e x)=true:=by simp [a2e,plainL,plain,K8,G3,G8,F9,K1,H3,G5,G4,L7,T7,a0m,T6,a1o,O7,T4,G1,H7,T5,K3,B5,F1,O6,E5,O2,E6,P6,K7]
theorem K6 (l:List b24):plainLL (l.map a2e)=true:=D4 _ _ fun x _=>S0 x
structure b9b where
 From:Int
 To:Int
def b1b (x:b9b):List AV:=[.v (.int .i64 x.From),.v (.int .i64 x.To)]
theorem U8 (x:b9b):plainL (b1b x)=true:=by simp [b1b,plainL,plain,K8,G3,G8,F9,K1,H3,G5,G4,L7,T7,a0m,T6,a1o,O7,T4,G1,H7,T5,K3,B5,F1,O6,E5,O2,E6,P6,K7,S0,K6]
theorem N9 (l:List b9b):plainLL (l.map b1b)=true:=D4 _ _ fun x _=>U8 x
structure V5 where
 Name:ByteArray
 Open:Bool
 Items:(List b24)
 Reserved:(List b9b)
 Notes:(List b1x)
def Q4 (x:V5):List AV:=[.v (.string x.Name),.v (.bool x.Open),.sl (List.map a2e x.Items) .no,.sl (List.map b1b x.Reserved) .no,.sl (List.map a7d x.Notes) .no]
theorem W0 (x:V5):plainL (Q4 x)=true:=by simp [Q4,plainL,plain,K8,G3,G8,F9,K1,H3,G5,G4,L7,T7,a0m,T6,a1o,O7,T4,G1,H7,T5,K3,B5,F1,O6,E5,O2,E6,P6,K7,S0,K6,U8,N9]
theorem Q5 (l:List V5):plainLL (l.map Q4)=true:=D4 _ _ fun x _=>W0 x
structure A5 where
 Progs:(List B6)
 Enums:(List V5)
def B7 (x:A5):List AV:=[.sl (List.map E2 x.Progs) .no,.sl (List.map Q4 x.Enums) .no]
theorem F2 (x:A5):plainL (B7 x)=true:=by simp [B7,plainL,plain,K8,G3,G8,F9,K1,H3,G5,G4,L7,T7,a0m,T6,a1o,O7,T4,G1,H7,T5,K3,B5,F1,O6,E5,O2,E6,P6,K7,S0,K6,U8,N9,W0,Q5]
theorem S5 (l:List A5):plainLL (l.map B7)=true:=D4 _ _ fun x _=>F2 x
structure b8z where
 a0:Int
 a1:Int
def b3j (x:b8z):List AV:=[.v (.int .i64 x.a0),.v (.int .i64 x.a1)]
theorem K5 (x:b8z):plainL (b3j x)=true:=by simp [b3j,plainL,plain,K8,G3,G8,F9,K1,H3,G5,G4,L7,T7,a0m,T6,a1o,O7,T4,G1,H7,T5,K3,B5,F1,O6,E5,O2,E6,P6,K7,S0,K6,U8,N9,W0,Q5,F2,S5]
theorem H8 (l:List b8z):plainLL (l.map b3j)=true:=D4 _ _ fun x _=>K5 x
structure A3 where
 Data:ByteArray
 At:Int
 End:Int
 Depth:Int
 Nodes:Int
 Text:Int
def D3 (x:A3):List AV:=[.v (.string x.Data),.v (.int .i64 x.At),.v (.int .i64 x.End),.v (.int .i64 x.Depth),.v (.int .i64 x.Nodes),.v (.int .i64 x.Text)]
theorem C5 (x:A3):plainL (D3 x)=true:=by simp [D3,plainL,plain,K8,G3,G8,F9,K1,H3,G5,G4,L7,T7,a0m,T6,a1o,O7,T4,G1,H7,T5,K3,B5,F1,O6,E5,O2,E6,P6,K7,S0,K6,U8,N9,W0,Q5,F2,S5,K5,H8]
theorem M4 (l:List A3):plainLL (l.map D3)=true:=D4 _ _ fun x _=>C5 x
structure Y3 where
 Bytes:Int
 Depth:Int
 Nodes:Int
 Text:Int
def a6p (x:Y3):List AV:=[.v (.int .i64 x.Bytes),.v (.int .i64 x.Depth),.v (.int .i64 x.Nodes),.v (.int .i64 x.Text)]
theorem N8 (x:Y3):plainL (a6p x)=true:=by simp [a6p,plainL,plain,K8,G3,G8,F9,K1,H3,G5,G4,L7,T7,a0m,T6,a1o,O7,T4,G1,H7,T5,K3,B5,F1,O6,E5,O2,E6,P6,K7,S0,K6,U8,N9,W0,Q5,F2,S5,K5,H8,C5,M4]
theorem O9 (l:List Y3):plainLL (l.map a6p)=true:=D4 _ _ fun x _=>N8 x
structure a1c where
 a0:Int
 a1:Int
def a0z (x:a1c):List AV:=[.v (.int .u16 x.a0),.v (.int .u16 x.a1)]
theorem H4 (x:a1c):plainL (a0z x)=true:=by simp [a0z,plainL,plain,K8,G3,G8,F9,K1,H3,G5,G4,L7,T7,a0m,T6,a1o,O7,T4,G1,H7,T5,K3,B5,F1,O6,E5,O2,E6,P6,K7,S0,K6,U8,N9,W0,Q5,F2,S5,K5,H8,C5,M4,N8,O9]
theorem F7 (l:List a1c):plainLL (l.map a0z)=true:=D4 _ _ fun x _=>H4 x
structure E0 where
 p:A5
 out:(List Int)
def b8y (x:E0):List AV:=[.sl (List.map E2 x.p.Progs) .no,.sl (List.map Q4 x.p.Enums) .no,.sl (List.map b0q x.out) .no]
theorem X1 (x:E0):plainL (b8y x)=true:=by simp [b8y,plainL,plain,K8,G3,G8,F9,K1,H3,G5,G4,L7,T7,a0m,T6,a1o,O7,T4,G1,H7,T5,K3,B5,F1,O6,E5,O2,E6,P6,K7,S0,K6,U8,N9,W0,Q5,F2,S5,K5,H8,C5,M4,N8,O9,H4,F7]
theorem U1 (l:List E0):plainLL (l.map b8y)=true:=D4 _ _ fun x _=>X1 x
structure A7 where
 p:A5
 c:A3
def b77 (x:A7):List AV:=[.sl (List.map E2 x.p.Progs) .no,.sl (List.map Q4 x.p.Enums) .no,.v (.string x.c.Data),.v (.int .i64 x.c.At),.v (.int .i64 x.c.End),.v (.int .i64 x.c.Depth),.v (.int .i64 x.c.Nodes),.v (.int .i64 x.c.Text)]
theorem Z1 (x:A7):plainL (b77 x)=true:=by simp [b77,plainL,plain,K8,G3,G8,F9,K1,H3,G5,G4,L7,T7,a0m,T6,a1o,O7,T4,G1,H7,T5,K3,B5,F1,O6,E5,O2,E6,P6,K7,S0,K6,U8,N9,W0,Q5,F2,S5,K5,H8,C5,M4,N8,O9,H4,F7,X1,U1]
theorem W1 (l:List A7):plainLL (l.map b77)=true:=D4 _ _ fun x _=>Z1 x
structure C9 where
 p:A5
def J8 (x:C9):List AV:=[.sl (List.map E2 x.p.Progs) .no,.sl (List.map Q4 x.p.Enums) .no]
theorem G0 (x:C9):plainL (J8 x)=true:=by simp [J8,plainL,plain,K8,G3,G8,F9,K1,H3,G5,G4,L7,T7,a0m,T6,a1o,O7,T4,G1,H7,T5,K3,B5,F1,O6,E5,O2,E6,P6,K7,S0,K6,U8,N9,W0,Q5,F2,S5,K5,H8,C5,M4,N8,O9,H4,F7,X1,U1,Z1,W1]
theorem Q7 (l:List C9):plainLL (l.map J8)=true:=D4 _ _ fun x _=>G0 x
structure b20 where
 is:GFn
def b2w (x:b20):List AV:=[.clo (.func x.is.fn) x.is.fi x.is.cap]
theorem a0n (x:b20):plainL (b2w x)=true:=by simp [b2w,plainL,plain,K8,G3,G8,F9,K1,H3,G5,G4,L7,T7,a0m,T6,a1o,O7,T4,G1,H7,T5,K3,B5,F1,O6,E5,O2,E6,P6,K7,S0,K6,U8,N9,W0,Q5,F2,S5,K5,H8,C5,M4,N8,O9,H4,F7,X1,U1,Z1,W1,G0,Q7]
theorem a0c (l:List b20):plainLL (l.map b2w)=true:=D4 _ _ fun x _=>a0n x
structure b9j where
 slots:(List (Int × A0))
 raws:(List Q0)
def b5i (x:b9j):List AV:=[.sl (List.map B3 x.slots) .no,.sl (List.map T1 x.raws) .no]
theorem a57 (x:b9j):plainL (b5i x)=true:=by simp [b5i,plainL,plain,K8,G3,G8,F9,K1,H3,G5,G4,L7,T7,a0m,T6,a1o,O7,T4,G1,H7,T5,K3,B5,F1,O6,E5,O2,E6,P6,K7,S0,K6,U8,N9,W0,Q5,F2,S5,K5,H8,C5,M4,N8,O9,H4,F7,X1,U1,Z1,W1,G0,Q7,a0n,a0c]
theorem a3c (l:List b9j):plainLL (l.map b5i)=true:=D4 _ _ fun x _=>a57 x
theorem c4j (m:List Bool) (n:Nat) (x:GOp):lowL m n (W3 x)=true:=lowL_plain _ _ _ (O7 x)
theorem b3p (m:List Bool) (n:Nat) (x:B6):lowL m n (E2 x)=true:=lowL_plain _ _ _ (G1 x)
theorem b8q (m:List Bool) (n:Nat) (x:Q0):lowL m n (T1 x)=true:=lowL_plain _ _ _ (T5 x)
theorem b0u (m:List Bool) (n:Nat) (x:A0):lowL m n (B0 x)=true:=lowL_plain _ _ _ (B5 x)
theorem b4k (m:List Bool) (n:Nat) (x:(A0 × A0)):lowL m n (U4 x)=true:=lowL_plain _ _ _ (O6 x)
theorem b36 (m:List Bool) (n:Nat) (x:(Int × A0)):lowL m n (W2 x)=true:=lowL_plain _ _ _ (O2 x)
theorem b3h (m:List Bool) (n:Nat) (x:b1x):lowL m n (a7d x)=true:=lowL_plain _ _ _ (P6 x)
theorem b4t (m:List Bool) (n:Nat) (x:b24):lowL m n (a2e x)=true:=lowL_plain _ _ _ (S0 x)
theorem b4f (m:List Bool) (n:Nat) (x:b9b):lowL m n (b1b x)=true:=lowL_plain _ _ _ (U8 x)
theorem b42 (m:List Bool) (n:Nat) (x:V5):lowL m n (Q4 x)=true:=lowL_plain _ _ _ (W0 x)
theorem b4s (m:List Bool) (n:Nat) (x:A5):lowL m n (B7 x)=true:=lowL_plain _ _ _ (F2 x)
theorem a5j (m:List Bool) (n:Nat) (x:b8z):lowL m n (b3j x)=true:=lowL_plain _ _ _ (K5 x)
theorem a7i (m:List Bool) (n:Nat) (x:A3):lowL m n (D3 x)=true:=lowL_plain _ _ _ (C5 x)
theorem a7w (m:List Bool) (n:Nat) (x:Y3):lowL m n (a6p x)=true:=lowL_plain _ _ _ (N8 x)
theorem a0t (m:List Bool) (n:Nat) (x:a1c):lowL m n (a0z x)=true:=lowL_plain _ _ _ (H4 x)
theorem a74 (m:List Bool) (n:Nat) (x:E0):lowL m n (b8y x)=true:=lowL_plain _ _ _ (X1 x)
theorem a7n (m:List Bool) (n:Nat) (x:A7):lowL m n (b77 x)=true:=lowL_plain _ _ _ (Z1 x)
theorem a3h (m:List Bool) (n:Nat) (x:C9):lowL m n (J8 x)=true:=lowL_plain _ _ _ (G0 x)
theorem a72 (m:List Bool) (n:Nat) (x:b20):lowL m n (b2w x)=true:=lowL_plain _ _ _ (a0n x)
theorem b02 (m:List Bool) (n:Nat) (x:b9j):lowL m n (b5i x)=true:=lowL_plain _ _ _ (a57 x)
theorem b8j (m:List Bool) (n:Nat) (l:List Int):lowLL m n (l.map d58)=true:=lowLL_plain _ _ _ (K8 l)
theorem b4j (m:List Bool) (n:Nat) (l:List Int):lowLL m n (l.map c7s)=true:=lowLL_plain _ _ _ (G3 l)
theorem b43 (m:List Bool) (n:Nat) (l:List Int):lowLL m n (l.map c7e)=true:=lowLL_plain _ _ _ (G8 l)
theorem b3z (m:List Bool) (n:Nat) (l:List Int):lowLL m n (l.map a87)=true:=lowLL_plain _ _ _ (F9 l)
theorem b8f (m:List Bool) (n:Nat) (l:List Int):lowLL m n (l.map b0q)=true:=lowLL_plain _ _ _ (K1 l)
theorem b3f (m:List Bool) (n:Nat) (l:List Int):lowLL m n (l.map c8j)=true:=lowLL_plain _ _ _ (H3 l)
theorem b4d (m:List Bool) (n:Nat) (l:List Int):lowLL m n (l.map c8d)=true:=lowLL_plain _ _ _ (G5 l)
theorem b4u (m:List Bool) (n:Nat) (l:List Int):lowLL m n (l.map b66)=true:=lowLL_plain _ _ _ (G4 l)
theorem b8t (m:List Bool) (n:Nat) (l:List Bool):lowLL m n (l.map c1n)=true:=lowLL_plain _ _ _ (L7 l)
theorem c4i (m:List Bool) (n:Nat) (l:List ByteArray):lowLL m n (l.map e5m)=true:=lowLL_plain _ _ _ (T7 l)
theorem c26 (m:List Bool) (n:Nat) (l:List GOp):lowLL m n (l.map W3)=true:=lowLL_plain _ _ _ (T4 l)
theorem b4v (m:List Bool) (n:Nat) (l:List B6):lowLL m n (l.map E2)=true:=lowLL_plain _ _ _ (H7 l)
theorem b8s (m:List Bool) (n:Nat) (l:List Q0):lowLL m n (l.map T1)=true:=lowLL_plain _ _ _ (K3 l)
theorem b0t (m:List Bool) (n:Nat) (l:List A0):lowLL m n (l.map C0)=true:=lowLL_plain _ _ _ (F1 l)
theorem b4r (m:List Bool) (n:Nat) (l:List (A0 × A0)):lowLL m n (l.map B4)=true:=lowLL_plain _ _ _ (E5 l)
theorem b3x (m:List Bool) (n:Nat) (l:List (Int × A0)):lowLL m n (l.map B3)=true:=lowLL_plain _ _ _ (E6 l)
theorem b3l (m:List Bool) (n:Nat) (l:List b1x):lowLL m n (l.map a7d)=true:=lowLL_plain _ _ _ (K7 l)
theorem b4y (m:List Bool) (n:Nat) (l:List b24):lowLL m n (l.map a2e)=true:=lowLL_plain _ _ _ (K6 l)
theorem b4q (m:List Bool) (n:Nat) (l:List b9b):lowLL m n (l.map b1b)=true:=lowLL_plain _ _ _ (N9 l)
theorem b41 (m:List Bool) (n:Nat) (l:List V5):lowLL m n (l.map Q4)=true:=lowLL_plain _ _ _ (Q5 l)
theorem b45 (m:List Bool) (n:Nat) (l:List A5):lowLL m n (l.map B7)=true:=lowLL_plain _ _ _ (S5 l)
theorem a5r (m:List Bool) (n:Nat) (l:List b8z):lowLL m n (l.map b3j)=true:=lowLL_plain _ _ _ (H8 l)
theorem a7h (m:List Bool) (n:Nat) (l:List A3):lowLL m n (l.map D3)=true:=lowLL_plain _ _ _ (M4 l)
theorem a7l (m:List Bool) (n:Nat) (l:List Y3):lowLL m n (l.map a6p)=true:=lowLL_plain _ _ _ (O9 l)
theorem a0p (m:List Bool) (n:Nat) (l:List a1c):lowLL m n (l.map a0z)=true:=lowLL_plain _ _ _ (F7 l)
theorem a7x (m:List Bool) (n:Nat) (l:List E0):lowLL m n (l.map b8y)=true:=lowLL_plain _ _ _ (U1 l)
theorem a71 (m:List Bool) (n:Nat) (l:List A7):lowLL m n (l.map b77)=true:=lowLL_plain _ _ _ (W1 l)
theorem a3b (m:List Bool) (n:Nat) (l:List C9):lowLL m n (l.map J8)=true:=lowLL_plain _ _ _ (Q7 l)
theorem a7y (m:List Bool) (n:Nat) (l:List b20):lowLL m n (l.map b2w)=true:=lowLL_plain _ _ _ (a0c l)
theorem b03 (m:List Bool) (n:Nat) (l:List b9j):lowLL m n (l.map b5i)=true:=lowLL_plain _ _ _ (a3c l)
theorem b8u (m:List Bool) (n:Nat) (l:List Int):lowL m n (cellsOf d58 l)=true:=lowL_plain _ _ _ (B8 _ (K8 l))
theorem b3y (m:List Bool) (n:Nat) (l:List Int):lowL m n (cellsOf c7s l)=true:=lowL_plain _ _ _ (B8 _ (G3 l))
theorem b39 (m:List Bool) (n:Nat) (l:List Int):lowL m n (cellsOf c7e l)=true:=lowL_plain _ _ _ (B8 _ (G8 l))
theorem b3k (m:List Bool) (n:Nat) (l:List Int):lowL m n (cellsOf a87 l)=true:=lowL_plain _ _ _ (B8 _ (F9 l))
theorem b84 (m:List Bool) (n:Nat) (l:List Int):lowL m n (cellsOf b0q l)=true:=lowL_plain _ _ _ (B8 _ (K1 l))
theorem b40 (m:List Bool) (n:Nat) (l:List Int):lowL m n (cellsOf c8j l)=true:=lowL_plain _ _ _ (B8 _ (H3 l))
theorem b3o (m:List Bool) (n:Nat) (l:List Int):lowL m n (cellsOf c8d l)=true:=lowL_plain _ _ _ (B8 _ (G5 l))
theorem b4e (m:List Bool) (n:Nat) (l:List Int):lowL m n (cellsOf b66 l)=true:=lowL_plain _ _ _ (B8 _ (G4 l))
theorem b80 (m:List Bool) (n:Nat) (l:List Bool):lowL m n (cellsOf c1n l)=true:=lowL_plain _ _ _ (B8 _ (L7 l))
theorem c21 (m:List Bool) (n:Nat) (l:List ByteArray):lowL m n (cellsOf e5m l)=true:=lowL_plain _ _ _ (B8 _ (T7 l))
theorem c4n (m:List Bool) (n:Nat) (l:List GOp):lowL m n (cellsOf W3 l)=true:=lowL_plain _ _ _ (B8 _ (T4 l))
theorem b30 (m:List Bool) (n:Nat) (l:List B6):lowL m n (cellsOf E2 l)=true:=lowL_plain _ _ _ (B8 _ (H7 l))
theorem b82 (m:List Bool) (n:Nat) (l:List Q0):lowL m n (cellsOf T1 l)=true:=lowL_plain _ _ _ (B8 _ (K3 l))
theorem b0y (m:List Bool) (n:Nat) (l:List A0):lowL m n (cellsOf C0 l)=true:=lowL_plain _ _ _ (B8 _ (F1 l))
theorem b33 (m:List Bool) (n:Nat) (l:List (A0 × A0)):lowL m n (cellsOf B4 l)=true:=lowL_plain _ _ _ (B8 _ (E5 l))
theorem b34 (m:List Bool) (n:Nat) (l:List (Int × A0)):lowL m n (cellsOf B3 l)=true:=lowL_plain _ _ _ (B8 _ (E6 l))
theorem b4h (m:List Bool) (n:Nat) (l:List b1x):lowL m n (cellsOf a7d l)=true:=lowL_plain _ _ _ (B8 _ (K7 l))
theorem b4o (m:List Bool) (n:Nat) (l:List b24):lowL m n (cellsOf a2e l)=true:=lowL_plain _ _ _ (B8 _ (K6 l))
theorem b4c (m:List Bool) (n:Nat) (l:List b9b):lowL m n (cellsOf b1b l)=true:=lowL_plain _ _ _ (B8 _ (N9 l))
theorem b4m (m:List Bool) (n:Nat) (l:List V5):lowL m n (cellsOf Q4 l)=true:=lowL_plain _ _ _ (B8 _ (Q5 l))
theorem b3s (m:List Bool) (n:Nat) (l:List A5):lowL m n (cellsOf B7 l)=true:=lowL_plain _ _ _ (B8 _ (S5 l))
theorem a5s (m:List Bool) (n:Nat) (l:List b8z):lowL m n (cellsOf b3j l)=true:=lowL_plain _ _ _ (B8 _ (H8 l))
theorem a7v (m:List Bool) (n:Nat) (l:List A3):lowL m n (cellsOf D3 l)=true:=lowL_plain _ _ _ (B8 _ (M4 l))
theorem a7t (m:List Bool) (n:Nat) (l:List Y3):lowL m n (cellsOf a6p l)=true:=lowL_plain _ _ _ (B8 _ (O9 l))
theorem a0l (m:List Bool) (n:Nat) (l:List a1c):lowL m n (cellsOf a0z l)=true:=lowL_plain _ _ _ (B8 _ (F7 l))
theorem a7j (m:List Bool) (n:Nat) (l:List E0):lowL m n (cellsOf b8y l)=true:=lowL_plain _ _ _ (B8 _ (U1 l))
theorem a7g (m:List Bool) (n:Nat) (l:List A7):lowL m n (cellsOf b77 l)=true:=lowL_plain _ _ _ (B8 _ (W1 l))
theorem a29 (m:List Bool) (n:Nat) (l:List C9):lowL m n (cellsOf J8 l)=true:=lowL_plain _ _ _ (B8 _ (Q7 l))
theorem a75 (m:List Bool) (n:Nat) (l:List b20):lowL m n (cellsOf b2w l)=true:=lowL_plain _ _ _ (B8 _ (a0c l))
theorem b0w (m:List Bool) (n:Nat) (l:List b9j):lowL m n (cellsOf b5i l)=true:=lowL_plain _ _ _ (B8 _ (a3c l))
inductive b81 where
 |nil
 |a_order_one (x:A0)
 |a_order_list (x:(List A0))
 |a_order_pairs (x:(List (A0 × A0)))
 |a_order_parts (x:b9j)
def c78:b81 ->AV
 |.nil=>.v .nilIface
 |.a_order_one x=>.iface 200 (.agg (B0 x))
 |.a_order_list x=>.iface 201 (.sl (List.map C0 x) .no)
 |.a_order_pairs x=>.iface 203 (.sl (List.map B4 x) .no)
 |.a_order_parts x=>.iface 206 (.agg (b5i x))
theorem c5a (x:b81):plain (c78 x)=true:=by cases x<;>simp [c78,plain,plainL,K8,G3,G8,F9,K1,H3,G5,G4,L7,T7,a0m,T6,a1o,O7,T4,G1,H7,T5,K3,B5,F1,O6,E5,O2,E6,P6,K7,S0,K6,U8,N9,W0,Q5,F2,S5,K5,H8,C5,M4,N8,O9,H4,F7,X1,U1,Z1,W1,G0,Q7,a0n,a0c,a57,a3c]
theorem d0c (m:List Bool) (n:Nat) (x:b81):low m n (c78 x)=true:=by
 have h:=lowL_plain m n [c78 x] (by simp [plainL,c5a])
 simpa [lowL] using h
theorem g30 {P:Program} {f:Nat} {R:Rm} {s:Mc} (m:Nat) {y:b81} {A:A0 ->Prop} {B:Prop} (hw:(∀z,y=.a_order_one z ->A z) /\ ((∀z,y≠.a_order_one z) ->B)) (h1:∀z,A z ->Ok P f R (put (run m s) (.tuple [.agg (B0 z),.v (.bool true)]))) (h2:B ->Ok P f R (put (run m s) (.tuple [oZ (op (run m s)),.v (.bool false)]))) (hc:okS (run m s)=true:=by kernel_rfl) (ho:op (run m s)=.assertT 200 true (oZ (op (run m s))) (oX (op (run m s))):=by kernel_rfl) (hx:xv (run m s)=some (c78 y):=by kernel_rfl):Ok P f R s:=by
 cases y with
 |a_order_one z=>exact ev0 m (fun h K hk=>by rw [ho]; simp only [aop]; change wv (xv _) _; simp only [hx,wv,c78,Z7]; exact hk) (h1 z (hw.1 z rfl)) hc
 |_=>exact ev0 m (fun h K hk=>by rw [ho]; simp only [aop]; change wv (xv _) _; simp only [hx,wv,c78,Z7]; first|exact ⟨trivial,hk⟩|exact ⟨rfl,hk⟩) (h2 (hw.2 fun z hz=>by cases hz)) hc
theorem g03 {P:Program} {f:Nat} {R:Rm} {s:Mc} (m:Nat) {y:b81} {A:(List A0) ->Prop} {B:Prop} (hw:(∀z,y=.a_order_list z ->A z) /\ ((∀z,y≠.a_order_list z) ->B)) (h1:∀z,A z ->Ok P f R (put (run m s) (.tuple [.sl (List.map C0 z) .no,.v (.bool true)]))) (h2:B ->Ok P f R (put (run m s) (.tuple [oZ (op (run m s)),.v (.bool false)]))) (hc:okS (run m s)=true:=by kernel_rfl) (ho:op (run m s)=.assertT 201 true (oZ (op (run m s))) (oX (op (run m s))):=by kernel_rfl) (hx:xv (run m s)=some (c78 y):=by kernel_rfl):Ok P f R s:=by
 cases y with
 |a_order_list z=>exact ev0 m (fun h K hk=>by rw [ho]; simp only [aop]; change wv (xv _) _; simp only [hx,wv,c78,Z7]; exact hk) (h1 z (hw.1 z rfl)) hc
 |_=>exact ev0 m (fun h K hk=>by rw [ho]; simp only [aop]; change wv (xv _) _; simp only [hx,wv,c78,Z7]; first|exact ⟨trivial,hk⟩|exact ⟨rfl,hk⟩) (h2 (hw.2 fun z hz=>by cases hz)) hc
theorem f8f {P:Program} {f:Nat} {R:Rm} {s:Mc} (m:Nat) {y:b81} {W:(List A0) ->Prop} (hw:∃z,y=b81.a_order_list z /\ W z) (hk:∀z,W z ->Ok P f R (put (run m s) (.sl (List.map C0 z) .no))) (hc:okS (run m s)=true:=by kernel_rfl) (ho:op (run m s)=.assertT 201 false (oZ (op (run m s))) (oX (op (run m s))):=by kernel_rfl) (hx:xv (run m s)=some (c78 y):=by kernel_rfl):Ok P f R s:=by
 obtain ⟨z,rfl,hw⟩:=hw
 exact ev0 m (fun h K hk=>by rw [ho]; simp only [aop]; change wv (xv _) _; simp only [hx,wv,c78,Z7]; exact hk) (hk z hw) hc
theorem g3d {P:Program} {f:Nat} {R:Rm} {s:Mc} (m:Nat) {y:b81} {A:(List (A0 × A0)) ->Prop} {B:Prop} (hw:(∀z,y=.a_order_pairs z ->A z) /\ ((∀z,y≠.a_order_pairs z) ->B)) (h1:∀z,A z ->Ok P f R (put (run m s) (.tuple [.sl (List.map B4 z) .no,.v (.bool true)]))) (h2:B ->Ok P f R (put (run m s) (.tuple [oZ (op (run m s)),.v (.bool false)]))) (hc:okS (run m s)=true:=by kernel_rfl) (ho:op (run m s)=.assertT 203 true (oZ (op (run m s))) (oX (op (run m s))):=by kernel_rfl) (hx:xv (run m s)=some (c78 y):=by kernel_rfl):Ok P f R s:=by
 cases y with
 |a_order_pairs z=>exact ev0 m (fun h K hk=>by rw [ho]; simp only [aop]; change wv (xv _) _; simp only [hx,wv,c78,Z7]; exact hk) (h1 z (hw.1 z rfl)) hc
 |_=>exact ev0 m (fun h K hk=>by rw [ho]; simp only [aop]; change wv (xv _) _; simp only [hx,wv,c78,Z7]; first|exact ⟨trivial,hk⟩|exact ⟨rfl,hk⟩) (h2 (hw.2 fun z hz=>by cases hz)) hc
theorem f4t {P:Program} {f:Nat} {R:Rm} {s:Mc} (m:Nat) {y:b81} {W:(List (A0 × A0)) ->Prop} (hw:∃z,y=b81.a_order_pairs z /\ W z) (hk:∀z,W z ->Ok P f R (put (run m s) (.sl (List.map B4 z) .no))) (hc:okS (run m s)=true:=by kernel_rfl) (ho:op (run m s)=.assertT 203 false (oZ (op (run m s))) (oX (op (run m s))):=by kernel_rfl) (hx:xv (run m s)=some (c78 y):=by kernel_rfl):Ok P f R s:=by
 obtain ⟨z,rfl,hw⟩:=hw
 exact ev0 m (fun h K hk=>by rw [ho]; simp only [aop]; change wv (xv _) _; simp only [hx,wv,c78,Z7]; exact hk) (hk z hw) hc
theorem g25 {P:Program} {f:Nat} {R:Rm} {s:Mc} (m:Nat) {y:b81} {A:b9j ->Prop} {B:Prop} (hw:(∀z,y=.a_order_parts z ->A z) /\ ((∀z,y≠.a_order_parts z) ->B)) (h1:∀z,A z ->Ok P f R (put (run m s) (.tuple [.agg (b5i z),.v (.bool true)]))) (h2:B ->Ok P f R (put (run m s) (.tuple [oZ (op (run m s)),.v (.bool false)]))) (hc:okS (run m s)=true:=by kernel_rfl) (ho:op (run m s)=.assertT 206 true (oZ (op (run m s))) (oX (op (run m s))):=by kernel_rfl) (hx:xv (run m s)=some (c78 y):=by kernel_rfl):Ok P f R s:=by
 cases y with
 |a_order_parts z=>exact ev0 m (fun h K hk=>by rw [ho]; simp only [aop]; change wv (xv _) _; simp only [hx,wv,c78,Z7]; exact hk) (h1 z (hw.1 z rfl)) hc
 |_=>exact ev0 m (fun h K hk=>by rw [ho]; simp only [aop]; change wv (xv _) _; simp only [hx,wv,c78,Z7]; first|exact ⟨trivial,hk⟩|exact ⟨rfl,hk⟩) (h2 (hw.2 fun z hz=>by cases hz)) hc
theorem f6c {P:Program} {f:Nat} {R:Rm} {s:Mc} (m:Nat) {y:b81} {W:b9j ->Prop} (hw:∃z,y=b81.a_order_parts z /\ W z) (hk:∀z,W z ->Ok P f R (put (run m s) (.agg (b5i z)))) (hc:okS (run m s)=true:=by kernel_rfl) (ho:op (run m s)=.assertT 206 false (oZ (op (run m s))) (oX (op (run m s))):=by kernel_rfl) (hx:xv (run m s)=some (c78 y):=by kernel_rfl):Ok P f R s:=by
 obtain ⟨z,rfl,hw⟩:=hw
 exact ev0 m (fun h K hk=>by rw [ho]; simp only [aop]; change wv (xv _) _; simp only [hx,wv,c78,Z7]; exact hk) (hk z hw) hc
def M6 (x:E0):List AV:=[.sl (List.map E2 x.p.Progs) .no,.sl (List.map Q4 x.p.Enums) .no,.sl (List.map b0q x.out) (.own 0)]
def a3j (x:E0):List (Nat × Nat):=[(x.out.length,1)]
theorem a3m (x:E0):(M6 x).all ok1=true:=by simp [M6,ok1,plain,K8,G3,G8,F9,K1,H3,G5,G4,L7,T7,a0m,T6,a1o,O7,T4,G1,H7,T5,K3,B5,F1,O6,E5,O2,E6,P6,K7,S0,K6,U8,N9,W0,Q5,F2,S5,K5,H8,C5,M4,N8,O9,H4,F7,X1,U1,Z1,W1,G0,Q7,a0n,a0c,a57,a3c,c5a]
theorem c0u (x:E0):lowL [true] 1 (M6 x)=true:=by first|rfl|(simp only [M6,low,lowL,b8u,b3y,b39,b3k,b84,b40,b3o,b4e,b80,c21,c4n,b30,b82,b0y,b33,b34,b4h,b4o,b4c,b4m,b3s,a5s,a7v,a7t,a0l,a7j,a7g,a29,a75,b0w,c4c,b8h,b8j,b4j,b43,b3z,b8f,b3f,b4d,b4u,b8t,c4i,c26,b4v,b8s,b0t,b4r,b3x,b3l,b4y,b4q,b41,b45,a5r,a7h,a7l,a0p,a7x,a71,a3b,a7y,b03,c4j,b3p,b8q,b0u,b4k,b36,b3h,b4t,b4f,b42,b4s,a5j,a7i,a7w,a0t,a74,a7n,a3h,a72,b02,d0c]; rfl)
def D0 (x:A7):List AV:=[.sl (List.map E2 x.p.Progs) .no,.sl (List.map Q4 x.p.Enums) .no,.v (.string x.c.Data),.v (.int .i64 x.c.At),.v (.int .i64 x.c.End),.v (.int .i64 x.c.Depth),.v (.int .i64 x.c.Nodes),.v (.int .i64 x.c.Text)]
def J5 (x:A7):List (Nat × Nat):=[]
theorem I8 (x:A7):(D0 x).all ok1=true:=by simp [D0,ok1,plain,K8,G3,G8,F9,K1,H3,G5,G4,L7,T7,a0m,T6,a1o,O7,T4,G1,H7,T5,K3,B5,F1,O6,E5,O2,E6,P6,K7,S0,K6,U8,N9,W0,Q5,F2,S5,K5,H8,C5,M4,N8,O9,H4,F7,X1,U1,Z1,W1,G0,Q7,a0n,a0c,a57,a3c,c5a]
theorem a42 (x:A7):lowL [true] 0 (D0 x)=true:=by first|rfl|(simp only [D0,low,lowL,b8u,b3y,b39,b3k,b84,b40,b3o,b4e,b80,c21,c4n,b30,b82,b0y,b33,b34,b4h,b4o,b4c,b4m,b3s,a5s,a7v,a7t,a0l,a7j,a7g,a29,a75,b0w,c4c,b8h,b8j,b4j,b43,b3z,b8f,b3f,b4d,b4u,b8t,c4i,c26,b4v,b8s,b0t,b4r,b3x,b3l,b4y,b4q,b41,b45,a5r,a7h,a7l,a0p,a7x,a71,a3b,a7y,b03,c4j,b3p,b8q,b0u,b4k,b36,b3h,b4t,b4f,b42,b4s,a5j,a7i,a7w,a0t,a74,a7n,a3h,a72,b02,d0c]; rfl)
theorem e16:c2u c1n 1:=⟨fun y=>rfl,fun y=>rfl,fun y=>rfl,fun y=>rfl⟩
def f81:En Bool:=⟨c1n,c1n,1,fun _=>rfl,fun _=>rfl,e16⟩
theorem e0j:c2u Q4 5:=⟨fun y=>rfl,fun y=>rfl,fun y=>W0 y,fun y=>rfl⟩
def a0i:En V5:=⟨Q4,Q4,5,fun _=>rfl,fun _=>rfl,e0j⟩
theorem e08:c2u a2e 3:=⟨fun y=>rfl,fun y=>rfl,fun y=>S0 y,fun y=>rfl⟩
def b1s:En b24:=⟨a2e,a2e,3,fun _=>rfl,fun _=>rfl,e08⟩
theorem e0g:c2u a7d 8:=⟨fun y=>rfl,fun y=>rfl,fun y=>P6 y,fun y=>rfl⟩
def b3w:En b1x:=⟨a7d,a7d,8,fun _=>rfl,fun _=>rfl,e0g⟩
theorem f0i:c2u W3 8:=⟨fun y=>rfl,fun y=>rfl,fun y=>O7 y,fun y=>rfl⟩
def c0n:En GOp:=⟨W3,W3,8,fun _=>rfl,fun _=>rfl,f0i⟩
theorem e1l:c2u B4 14:=⟨fun y=>by rw [b00]; rfl,fun y=>by rw [b00]; rfl,fun y=>by rw [b00]; exact O6 y,fun y=>by rw [b00]; rfl⟩
def C7:En (A0 × A0):=⟨U4,B4,14,fun y=>b00 y,fun _=>rfl,e1l⟩
theorem e1j:c2u E2 3:=⟨fun y=>rfl,fun y=>rfl,fun y=>G1 y,fun y=>rfl⟩
def P3:En B6:=⟨E2,E2,3,fun _=>rfl,fun _=>rfl,e1j⟩
theorem e6a:c2u T1 4:=⟨fun y=>rfl,fun y=>rfl,fun y=>T5 y,fun y=>rfl⟩
def b5a:En Q0:=⟨T1,T1,4,fun _=>rfl,fun _=>rfl,e6a⟩
theorem e03:c2u B3 8:=⟨fun y=>by rw [b0x]; rfl,fun y=>by rw [b0x]; rfl,fun y=>by rw [b0x]; exact O2 y,fun y=>by rw [b0x]; rfl⟩
def C4:En (Int × A0):=⟨W2,B3,8,fun y=>b0x y,fun _=>rfl,e03⟩
theorem e0y:c2u b1b 2:=⟨fun y=>rfl,fun y=>rfl,fun y=>U8 y,fun y=>rfl⟩
def c83:En b9b:=⟨b1b,b1b,2,fun _=>rfl,fun _=>rfl,e0y⟩
theorem d57:c2u C0 7:=⟨fun y=>by rw [T8]; rfl,fun y=>by rw [T8]; rfl,fun y=>by rw [T8]; exact B5 y,fun y=>by rw [T8]; rfl⟩
def M5:En A0:=⟨B0,C0,7,fun y=>T8 y,fun _=>rfl,d57⟩
theorem e0l:c2u a87 1:=⟨fun y=>rfl,fun y=>rfl,fun y=>rfl,fun y=>rfl⟩
def f3l:En Int:=⟨a87,a87,1,fun _=>rfl,fun _=>rfl,e0l⟩
theorem e4z:c2u b0q 1:=⟨fun y=>rfl,fun y=>rfl,fun y=>rfl,fun y=>rfl⟩
def c9u:En Int:=⟨b0q,b0q,1,fun _=>rfl,fun _=>rfl,e4z⟩
end Go.Proofs.YtidmmngcijapcaaGreat.Lift
