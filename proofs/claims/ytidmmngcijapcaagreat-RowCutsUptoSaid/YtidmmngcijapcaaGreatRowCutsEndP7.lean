/- Part 8 of the texts that prove RowCutsEnd. -/
import Derived.Test.YtidmmngcijapcaaGreatRowCutsEndP6
import Derived.Test.YtidmmngcijapcaaGreatRowCutsEndP3
import Derived.Test.YtidmmngcijapcaaGreatRowCutsEndP4
import Derived.Test.YtidmmngcijapcaaGreatRowCutsEndP5
import Derived.Test.YtidmmngcijapcaaGreatRows
namespace Go.Proofs.YtidmmngcijapcaaGreat.Lift
open Go.RowKit
set_option linter.unusedVariables false
set_option linter.unusedSimpArgs false
set_option linter.unnecessarySimpa false
set_option linter.unusedSectionVars false
set_option maxRecDepth 100000
theorem b1i (a b:ByteArray):bI (a++b)=bI a++bI b:=by simp [bI]
def c69:List ByteArray ->ByteArray
 |[]=>⟨#[]⟩
 |x::l=>x++c69 l
theorem b2x (a b c:ByteArray):(a++b)++c=a++(b++c):=ByteArray.append_assoc
theorem c8y (a:ByteArray):a++(⟨#[]⟩:ByteArray)=a:=ByteArray.append_empty
theorem d3p (l:List ByteArray):(c69 l).size=a1j ByteArray.size l:=by
 induction l with
 |nil=>rfl
 |cons x l ih=>simp only [c69,a1j,I3,ih]
theorem b5v {α β:Type} (f:β ->Nat) (g:α ->β):∀l:List α,a1j f (l.map g)=a1j (fun x=>f (g x)) l
 |[]=>rfl
 |x::l=>by simp only [List.map_cons,a1j,b5v f g l]
theorem b9w {α:Type} {f g:α ->Nat}:∀{l:List α},(∀x∈l,f x<=g x) ->a1j f l<=a1j g l
 |[],_=>by simp [a1j]
 |x::l,h=>by
  have h1:=h x (by simp)
  have h2:=b9w (l:=l) fun y hy=>h y (by simp [hy])
  simp only [a1j]
  omega
theorem d14 {α:Type} (k:Nat) (f:α ->Nat):∀l:List α,a1j (fun x=>k*f x) l=k*a1j f l
 |[]=>by simp [a1j]
 |x::l=>by simp only [a1j,d14 k f l,Nat.mul_add]
abbrev c9t:=Int ->A0 ->ByteArray
def b3c (W:c9t) (o:GOp) (v:A0):ByteArray:=if o.Kind=10 then W o.Target v else d24 v
def c33 (W:c9t) (o:GOp) (x:A0 × A0):ByteArray:=d24 x.1++b3c W o x.2
def b6f (W:c9t) (o:GOp) (x:A0) (set:Bool):ByteArray:=
 if o.Card=4 then b3e x.List_.length++c69 (x.List_.map (b3c W o))
 else if o.Card=5 then b3e x.Pairs.length++c69 (x.Pairs.map (c33 W o))
 else if o.Card=1 then b3c W o x
 else if set=true then (⟨#[1]⟩:ByteArray)++b3c W o x else ⟨#[0]⟩
def b1k (W:c9t):List GOp ->List (Int × A0) ->ByteArray
 |[],_=>⟨#[]⟩
 |o::ops,[]=>b6f W o V0 false++b1k W ops []
 |o::ops,s::S=>if s.1=o.Num then b6f W o s.2 true++b1k W ops S else b6f W o V0 false++b1k W ops (s::S)
def a3s (p:A5):Nat ->c9t
 |0,_,_=>⟨#[]⟩
 |n+1,t,v=>match p.Progs[t.toNat]? with
  |none=>⟨#[]⟩
  |some g=>b1k (a3s p n) g.Ops v.Slots
def b6q (R:GOp ->A0 ->Prop):List GOp ->List (Int × A0) ->Prop
 |[],S=>S=[]
 |o::ops,[]=>o.Card≠1 /\ b6q R ops []
 |o::ops,s::S=>(s.1=o.Num ->R o s.2 /\ b6q R ops S) /\ (s.1≠o.Num ->o.Card≠1 /\ b6q R ops (s::S))
def NfF (B:Int ->A0 ->Prop) (o:GOp) (z:A0):Prop:=
 OkD z /\ (o.Card=4 ->∀y∈z.List_,o.Kind=10 ->B o.Target y) /\ (o.Card=5 ->∀y∈z.Pairs,o.Kind=10 ->B o.Target y.2) /\ (o.Card≠4 ->o.Card≠5 ->o.Kind=10 ->B o.Target z)
def NfV (p:A5):Nat ->Int ->A0 ->Prop
 |0,_,_=>False
 |n+1,t,x=>∃g,p.Progs[t.toNat]? =some g /\ 0<=t /\ OkD x /\ b6q (NfF (NfV p n)) g.Ops x.Slots
theorem d3h (v:A0) (hv:OkV v):(d24 v).size<=10+v.Text.size:=by
 have ht:=hv.t
 have hb:=hv.b1
 have hn:=hv.b0
 unfold d24
 split
 ·split
  ·rw [b14]; simp; omega
  split
  ·have:=a8o (e8s (wI v.Bits)) (d53 (d2y _))
   omega
  split
  ·rw [d2m]; omega
  split
  ·rw [I3]
   have:=a8o v.Text.size (by omega)
   omega
  ·have:=a8o v.Bits.toNat (by omega)
   omega
 ·show 0<=_; omega
section
variable {W:c9t} {B:Int ->A0 ->Prop} (hS:∀t x,B t x ->(W t x).size<=1000000*wtV x)
 include hS
theorem c3j (o:GOp) (y:A0) (hy:OkV y) (hb:o.Kind=10 ->B o.Target y):(b3c W o y).size<=1000000*wtV y:=by
 unfold b3c
 split
 ·rename_i h; exact hS _ _ (hb h)
 ·have h1:=d3h y hy
  have h2:=b6z y
  omega
theorem e04 (o:GOp) (z:A0) (hz:NfF B o z):(b6f W o z true).size<=11+1000000*wtV z:=by
 obtain ⟨hd,h4,h5,h6⟩:=hz
 obtain ⟨_,_,⟨la,pa,sa,ra⟩,hl,hp,hs⟩:=hd.inv
 have b1:=E4 la; have b2:=E4 pa
 have e:=b6z z
 unfold b6f
 split
 ·rename_i hc
  rw [I3,d3p,b5v]
  have h1:=a8o z.List_.length (by omega)
  have h2:=b9w (l:=z.List_) (f:=fun y=>(b3c W o y).size) (g:=fun y=>1000000*wtV y) fun y hy=>c3j hS o y (hl y hy).okv (h4 hc y hy)
  rw [d14] at h2
  omega
 split
 ·rename_i hc
  rw [I3,d3p,b5v]
  have h1:=a8o z.Pairs.length (by omega)
  have h2:=b9w (l:=z.Pairs) (f:=fun y=>(c33 W o y).size) (g:=fun y=>1000000*wtP y) fun y hy=>by
   have a:=c3j hS o y.2 (hp y hy).2.okv (h5 hc y hy)
   have b:=d3h y.1 (hp y hy).1.okv
   have c:=b6z y.1
   simp only [c33,I3,wtP]
   omega
  rw [d14] at h2
  omega
 ·rename_i n4 n5
  have h1:=c3j hS o z hd.okv (h6 n4 n5)
  split
  ·omega
  ·rw [if_pos rfl,I3]
   have:(⟨#[1]⟩:ByteArray).size=1:=rfl
   omega
theorem d0p (o:GOp) (h1:o.Card≠1):(b6f W o V0 false).size<=11:=by
 have e:(b3e 0).size<=10:=a8o 0 (by omega)
 unfold b6f
 by_cases h4:o.Card=4
 ·rw [if_pos h4,I3]
  have:(c69 (V0.List_.map (b3c W o))).size=0:=rfl
  have:(b3e V0.List_.length)=b3e 0:=rfl
  rw [this]; omega
 by_cases h5:o.Card=5
 ·rw [if_neg h4,if_pos h5,I3]
  have:(c69 (V0.Pairs.map (c33 W o))).size=0:=rfl
  have:(b3e V0.Pairs.length)=b3e 0:=rfl
  rw [this]; omega
 ·rw [if_neg h4,if_neg h5,if_neg h1,if_neg (by decide)]
  show 1<=11
  omega
theorem b8b:∀(ops:List GOp) (S:List (Int × A0)),b6q (NfF B) ops S ->(b1k W ops S).size<=11*ops.length+1000000*a1j wtS S
 |[],S,_=>by show 0<=_; omega
 |o::ops,[],h=>by
  have h1:=d0p (W:=W) hS o h.1
  have h2:=b8b ops [] h.2
  simp only [b1k,I3,List.length_cons]
  omega
 |o::ops,s::S,h=>by
  simp only [b1k]
  split
  ·rename_i he
   obtain ⟨hr,hm⟩:=h.1 he
   have h1:=e04 hS o s.2 hr
   have h2:=b8b ops S hm
   simp only [I3,List.length_cons,a1j,wtS]
   omega
  ·rename_i he
   obtain ⟨hr,hm⟩:=h.2 he
   have h1:=d0p (W:=W) hS o hr
   have h2:=b8b ops (s::S) hm
   simp only [I3,List.length_cons]
   omega
end
theorem e7u {p:A5} (hp:OkX p) {g:B6} (hg:g∈p.Progs):g.Ops.length<=65535:=by
 have h:=c6y (hp.va.asc g hg)
 have hn:=hp.va.num g hg
 rcases Nat.lt_or_ge 65535 g.Ops.length with hlt|hge
 ·have key:∀i (hi:i<g.Ops.length),(i:Int)+1<=g.Ops[i].Num:=by
   intro i
   induction i with
   |zero=>intro hi; have:=(hn _ (List.getElem_mem hi)).1; simpa using this
   |succ i ih=>
    intro hi
    have h1:=ih (by omega)
    have h2:=List.pairwise_iff_getElem.1 h i (i+1) (by omega) hi (by omega)
    omega
  have h1:=key 65535 hlt
  have h2:=(hn _ (List.getElem_mem hlt)).2
  omega
 ·exact hge
theorem d3b {p:A5} (hp:OkX p):∀(n:Nat) (t:Int) (x:A0),NfV p n t x ->(a3s p n t x).size<=1000000*wtV x
 |0,t,x,h=>h.elim
 |n+1,t,x,⟨g,hgt,ht,hx,hm⟩=>by
  have hg:g∈p.Progs:=List.mem_of_getElem? hgt
  have h1:=b8b (d3b hp n) g.Ops x.Slots hm
  have h2:=e7u hp hg
  have e:=b6z x
  simp only [a3s,hgt]
  omega
section
variable {p:A5} (hp:OkX p)
variable {W:c9t} {B:Int ->A0 ->Prop} (hW:∀(t:Int) (x:A0) (out:List Int),B t x ->out.length+(W t x).size<=140737488355328 ->Z6 ⟨p,out⟩ t x ⟨p,out++bI (W t x)⟩)
theorem c4g (out:List Int) (s:ByteArray) (h:out.length+s.size<=140737488355328):W6 ⟨p,out⟩ s ⟨p,out++bI s⟩:=
 c0b _ _ _ ⟨by rw [a9o]; simpa using h,rfl⟩
 include hW
theorem d1z (out:List Int) (o:GOp) (y:A0) (hy:OkV y) (hb:o.Kind=10 ->B o.Target y) (h:out.length+(b3c W o y).size<=140737488355328):Z0 ⟨p,out⟩ o y ⟨p,out++bI (b3c W o y)⟩:=by
 unfold b3c at h ⊢
 refine b6u _ _ _ _ ⟨fun hk=> ?_,fun hk=>⟨_,d45 y hy, ?_⟩⟩
 ·have hk':o.Kind=10:=by simpa using hk
  rw [if_pos hk'] at h ⊢
  exact ⟨_,hW _ y out (hb hk') h,rfl⟩
 ·have hk':¬o.Kind=10:=by simpa using hk
  rw [if_neg hk'] at h ⊢
  exact ⟨_,c4g out _ h,rfl⟩
variable {g:B6} {x:A0} {r:E0}
theorem f0o (i at_:Nat) (hi:i<=140737488351232) (o:GOp) (l:List A0) (hl:l.length<=140737488351232) (hv:∀y∈l,OkV y /\ (o.Kind=10 ->B o.Target y)):∀d k (out:List Int),l.length - k<=d ->k<=l.length ->out.length+(c69 ((l.drop k).map (b3c W o))).size<=140737488355328 ->C8 ((i+1:Nat):Int) g at_ p.Progs p.Enums (out++bI (c69 ((l.drop k).map (b3c W o)))) x r ->S9 k l at_ i g p.Progs p.Enums out x o r:=by
 have e0:wI ((i:Int)+1)=((i+1:Nat):Int):=by rw [wI,D5 (by omega)]; omega
 have fin:∀(out:List Int),C8 ((i+1:Nat):Int) g at_ p.Progs p.Enums (out++bI (c69 ((l.drop l.length).map (b3c W o)))) x r ->S9 (l.length:Nat) l at_ i g p.Progs p.Enums out x o r:=by
  intro out h
  rw [List.drop_length] at h
  refine a2d _ _ _ _ _ _ _ _ _ _ _ ⟨fun h=>by simp at h,fun _=> ?_⟩
  rw [e0]
  have e:bI (c69 (List.map (b3c W o) []))=[]:=rfl
  rw [e,List.append_nil] at h
  exact h
 intro d
 induction d with
 |zero=>
  intro k out hd hk _ h
  have e:k=l.length:=by omega
  subst e
  exact fin out h
 |succ d ih=>
  intro k out hd hk hsz h
  rcases Nat.lt_or_ge k l.length with hlt|hge
  ·have e1:wI ((k:Int)+1)=((k+1:Nat):Int):=by rw [wI,D5 (by omega)]; omega
   have dl:l.drop k=l[k]::l.drop (k+1):=List.drop_eq_getElem_cons hlt
   have hx:=hv _ (List.getElem_mem hlt)
   rw [dl,List.map_cons,c69] at h hsz
   rw [I3] at hsz
   rw [b1i,<-List.append_assoc] at h
   refine a2d _ _ _ _ _ _ _ _ _ _ _ ⟨fun _=>⟨l[k],by simp,by omega,_,d1z hW out o _ hx.1 hx.2 (by omega), ?_⟩,fun h=>by simp at h; omega⟩
   rw [e1]
   exact ih (k+1) _ (by omega) (by omega) (by rw [List.length_append,a9o]; omega) h
  ·have e:k=l.length:=by omega
   subst e
   exact fin out h
theorem e3w (i at_:Nat) (hi:i<=140737488351232) (o:GOp) (l:List (A0 × A0)) (hl:l.length<=140737488351232) (hv:∀y∈l,OkV y.1 /\ OkV y.2 /\ (o.Kind=10 ->B o.Target y.2)):∀d k (out:List Int),l.length - k<=d ->k<=l.length ->out.length+(c69 ((l.drop k).map (c33 W o))).size<=140737488355328 ->C8 ((i+1:Nat):Int) g at_ p.Progs p.Enums (out++bI (c69 ((l.drop k).map (c33 W o)))) x r ->T0 k l at_ i g p.Progs p.Enums out x o r:=by
 have e0:wI ((i:Int)+1)=((i+1:Nat):Int):=by rw [wI,D5 (by omega)]; omega
 have fin:∀(out:List Int),C8 ((i+1:Nat):Int) g at_ p.Progs p.Enums (out++bI (c69 ((l.drop l.length).map (c33 W o)))) x r ->T0 (l.length:Nat) l at_ i g p.Progs p.Enums out x o r:=by
  intro out h
  rw [List.drop_length] at h
  refine a2x _ _ _ _ _ _ _ _ _ _ _ ⟨fun h=>by simp at h,fun _=> ?_⟩
  rw [e0]
  have e:bI (c69 (List.map (c33 W o) []))=[]:=rfl
  rw [e,List.append_nil] at h
  exact h
 intro d
 induction d with
 |zero=>
  intro k out hd hk _ h
  have e:k=l.length:=by omega
  subst e
  exact fin out h
 |succ d ih=>
  intro k out hd hk hsz h
  rcases Nat.lt_or_ge k l.length with hlt|hge
  ·have e1:wI ((k:Int)+1)=((k+1:Nat):Int):=by rw [wI,D5 (by omega)]; omega
   have dl:l.drop k=l[k]::l.drop (k+1):=List.drop_eq_getElem_cons hlt
   have hx:=hv _ (List.getElem_mem hlt)
   rw [dl,List.map_cons,c69,c33,b2x] at h hsz
   rw [I3,I3] at hsz
   rw [b1i,b1i,<-List.append_assoc,<-List.append_assoc] at h
   refine a2x _ _ _ _ _ _ _ _ _ _ _ ⟨fun _=>⟨l[k],by simp,by omega,_,d45 _ hx.1,_,c4g out _ (by omega),_,d1z hW _ o _ hx.2.1 hx.2.2 (by rw [List.length_append,a9o]; omega), ?_⟩,fun h=>by simp at h; omega⟩
   rw [e1]
   exact ih (k+1) _ (by omega) (by omega) (by rw [List.length_append,List.length_append,a9o,a9o]; omega) h
  ·have e:k=l.length:=by omega
   subst e
   exact fin out h
theorem g1f (i at_:Nat) (hi:i<=140737488351232) (o:GOp) (z:A0) (set:Bool) (hz:set=true ->NfF B o z) (h0:set=false ->z=V0 /\ o.Card≠1) (out:List Int) (hsz:out.length+(b6f W o z set).size<=140737488355328) (h:C8 ((i+1:Nat):Int) g at_ p.Progs p.Enums (out++bI (b6f W o z set)) x r):S7 at_ set i g p.Progs p.Enums out x o z.Kind z.Bits z.Text z.List_ z.Pairs z.Slots z.Raws r:=by
 have e0:wI ((i:Int)+1)=((i+1:Nat):Int):=by rw [wI,D5 (by omega)]; omega
 have hok:OkD z:=by
  rcases Bool.eq_false_or_eq_true set with q|q
  ·exact (hz q).1
  ·rw [(h0 q).1]
   have zz:Sz 0:=Nat.zero_le _
   exact .mk _ (show I64 0 from ⟨by decide,by decide⟩) (show U64 0 from ⟨by decide,by decide⟩) zz zz zz zz zz (fun x hx=>by cases hx) (fun x hx=>by cases hx) (fun x hx=>by cases hx) (fun x hx=>by cases hx) (fun x hx=>by cases hx) (fun x hx=>by cases hx) ⟨zz,zz,zz,zz⟩
 obtain ⟨_,_,⟨la,pa,sa,ra⟩,hl,hps,hs⟩:=hok.inv
 have b1:=E4 la; have b2:=E4 pa
 unfold b6f at hsz h
 have ev1:a3l (wU (z.List_.length:Int)) (b3e z.List_.length):=by
  have:=d4a z.List_.length (by omega)
  rwa [show ((z.List_.length:Nat):Int)=wU (z.List_.length:Int) by rw [wU,b5u (by omega)]] at this
 have ev2:a3l (wU (z.Pairs.length:Int)) (b3e z.Pairs.length):=by
  have:=d4a z.Pairs.length (by omega)
  rwa [show ((z.Pairs.length:Nat):Int)=wU (z.Pairs.length:Int) by rw [wU,b5u (by omega)]] at this
 refine b1l _ _ _ _ _ _ _ _ _ _ _ _ _ _ _ _ _ ⟨fun h1=> ?_,fun h1=>⟨fun h4=>⟨_,ev1, ?_⟩,fun h4=>⟨fun h5=>⟨_,ev2, ?_⟩,fun h5=>⟨fun hs=> ?_,fun hs=> ?_⟩⟩⟩⟩
 ·have hc:o.Card=1:=by simpa using h1
  rw [if_neg (by omega),if_neg (by omega),if_pos hc] at hsz h
  have hset:set=true:=by
   rcases Bool.eq_false_or_eq_true set with q|q
   ·exact q
   ·exact absurd hc (h0 q).2
  refine ⟨_,d1z hW out o z hok.okv ((hz hset).2.2.2 (by omega) (by omega)) hsz, ?_⟩
  rw [e0]; exact h
 all_goals (have h1':¬o.Card=1:=by simpa using h1)
 ·have hc:o.Card=4:=by simpa using h4
  rw [if_pos hc] at hsz h
  rw [I3] at hsz
  rw [b1i,<-List.append_assoc] at h
  have hv:∀y∈z.List_,OkV y /\ (o.Kind=10 ->B o.Target y):=fun y hy=>⟨(hl y hy).okv,fun hk=>by
   rcases Bool.eq_false_or_eq_true set with q|q
   ·exact (hz q).2.1 hc y hy hk
   ·rw [(h0 q).1] at hy; cases hy⟩
  refine ⟨_,c4g out _ (by omega), ?_⟩
  exact f0o hW i at_ hi o z.List_ b1 hv _ 0 _ (Nat.le_refl _) (by omega) (by rw [List.length_append,a9o,List.drop_zero]; omega) (by rw [List.drop_zero]; exact h)
 all_goals (have h4':¬o.Card=4:=by simpa using h4)
 ·have hc:o.Card=5:=by simpa using h5
  rw [if_neg h4',if_pos hc] at hsz h
  rw [I3] at hsz
  rw [b1i,<-List.append_assoc] at h
  have hv:∀y∈z.Pairs,OkV y.1 /\ OkV y.2 /\ (o.Kind=10 ->B o.Target y.2):=fun y hy=>⟨(hps y hy).1.okv,(hps y hy).2.okv,fun hk=>by
   rcases Bool.eq_false_or_eq_true set with q|q
   ·exact (hz q).2.2.1 hc y hy hk
   ·rw [(h0 q).1] at hy; cases hy⟩
  refine ⟨_,c4g out _ (by omega), ?_⟩
  exact e3w hW i at_ hi o z.Pairs b2 hv _ 0 _ (Nat.le_refl _) (by omega) (by rw [List.length_append,a9o,List.drop_zero]; omega) (by rw [List.drop_zero]; exact h)
 all_goals (have h5':¬o.Card=5:=by simpa using h5)
 all_goals rw [if_neg h4',if_neg h5',if_neg h1'] at hsz h
 ·have q:set=false:=by simpa using hs
  rw [if_neg (by simp [q])] at hsz h
  refine ⟨_,c4g out _ hsz, ?_⟩
  rw [e0]; exact h
 ·have q:set=true:=by simpa using hs
  rw [if_pos q] at hsz h
  rw [I3] at hsz
  rw [b1i,<-List.append_assoc] at h
  refine ⟨_,c4g out _ (by omega),_,d1z hW _ o z hok.okv ((hz q).2.2.2 h4' h5') (by rw [List.length_append,a9o]; omega), ?_⟩
  rw [e0]; exact h
theorem f5g (hg:g.Ops.length<=140737488351232) (hxs:x.Slots.length<=140737488351232):∀d i at_ (out:List Int),g.Ops.length - i<=d ->i<=g.Ops.length ->at_<=x.Slots.length ->b6q (NfF B) (g.Ops.drop i) (x.Slots.drop at_) ->out.length+(b1k W (g.Ops.drop i) (x.Slots.drop at_)).size<=140737488355328 ->r=⟨p,out++bI (b1k W (g.Ops.drop i) (x.Slots.drop at_))⟩ ->C8 i g at_ p.Progs p.Enums out x r:=by
 have fin:∀at_ (out:List Int),r=⟨p,out++bI (b1k W (g.Ops.drop g.Ops.length) (x.Slots.drop at_))⟩ ->C8 (g.Ops.length:Nat) g at_ p.Progs p.Enums out x r:=by
  intro at_ out h
  rw [List.drop_length] at h
  have e:bI (b1k W [] (x.Slots.drop at_))=[]:=by cases x.Slots.drop at_<;>rfl
  rw [e,List.append_nil] at h
  exact X5 _ _ _ _ _ _ _ _ ⟨fun h=>by simp at h,fun _=>h⟩
 intro d
 induction d with
 |zero=>
  intro i at_ out hd hi _ _ _ h
  have e:i=g.Ops.length:=by omega
  subst e
  exact fin at_ out h
 |succ d ih=>
  intro i at_ out hd hi hat hm hsz h
  rcases Nat.lt_or_ge i g.Ops.length with hlt|hge
  ·have dl:g.Ops.drop i=g.Ops[i]::g.Ops.drop (i+1):=List.drop_eq_getElem_cons hlt
   rw [dl] at hm hsz h
   -- what lies there,set or not
   have key:∀(at2:Nat) (z:A0) (set:Bool),at2<=x.Slots.length ->(set=true ->NfF B g.Ops[i] z) ->(set=false ->z=V0 /\ g.Ops[i].Card≠1) ->b6q (NfF B) (g.Ops.drop (i+1)) (x.Slots.drop at2) ->b1k W (g.Ops[i]::g.Ops.drop (i+1)) (x.Slots.drop at_)=b6f W g.Ops[i] z set++b1k W (g.Ops.drop (i+1)) (x.Slots.drop at2) ->S7 at2 set i g p.Progs p.Enums out x g.Ops[i] z.Kind z.Bits z.Text z.List_ z.Pairs z.Slots z.Raws r:=by
    intro at2 z set h1 h2 h3 h4 h5
    rw [h5,I3] at hsz
    rw [h5,b1i,<-List.append_assoc] at h
    refine g1f hW i at2 (by omega) g.Ops[i] z set h2 h3 out (by omega) ?_
    exact ih (i+1) at2 _ (by omega) (by omega) h1 h4 (by rw [List.length_append,a9o]; omega) h
   have e1:wI ((at_:Int)+1)=((at_+1:Nat):Int):=by rw [wI,D5 (by omega)]; omega
   rcases Nat.lt_or_ge at_ x.Slots.length with hs|hs
   ·have ds:x.Slots.drop at_=x.Slots[at_]::x.Slots.drop (at_+1):=List.drop_eq_getElem_cons hs
    rw [ds] at hm
    refine X5 _ _ _ _ _ _ _ _ ⟨fun _=>⟨g.Ops[i],by simp,by omega,fun b=>b=(x.Slots[at_].1==g.Ops[i].Num),fun b hb=>⟨fun h6=>⟨x.Slots[at_],by simp,by omega, ?_⟩,fun h6=> ?_⟩,fun _=>⟨x.Slots[at_],by simp,by omega,rfl⟩,fun h6=>by simp at h6; omega⟩,fun h=>by simp at h; omega⟩
    ·have he:x.Slots[at_].1=g.Ops[i].Num:=by rw [h6] at hb; simpa using hb.symm
     obtain ⟨q1,q2⟩:=hm.1 he
     rw [e1]
     subst h6
     refine key (at_+1) x.Slots[at_].2 true hs (fun _=>q1) (fun h=>by cases h) q2 ?_
     rw [ds]; simp only [b1k]; rw [if_pos he]
    ·have he:x.Slots[at_].1≠g.Ops[i].Num:=by rw [h6] at hb; simpa using hb.symm
     obtain ⟨q1,q2⟩:=hm.2 he
     subst h6
     refine key at_ V0 false hat (fun h=>by cases h) (fun _=>⟨rfl,q1⟩) (by rw [ds]; exact q2) ?_
     rw [ds]; simp only [b1k]; rw [if_neg he]
   ·have ds:x.Slots.drop at_=[]:=List.drop_eq_nil_of_le hs
    rw [ds] at hm
    refine X5 _ _ _ _ _ _ _ _ ⟨fun _=>⟨g.Ops[i],by simp,by omega,fun b=>b=false,fun b hb=>⟨fun h6=> ?_,fun h6=> ?_⟩,fun h6=>by simp at h6; omega,fun _=>rfl⟩,fun h=>by simp at h; omega⟩
    ·rw [h6] at hb; cases hb
    ·subst hb
     refine key at_ V0 false hat (fun h=>by cases h) (fun _=>⟨rfl,hm.1⟩) (by rw [ds]; exact hm.2) ?_
     rw [ds]; simp only [b1k]
  ·have e:i=g.Ops.length:=by omega
   subst e
   exact fin at_ out h
end
theorem d5m {p:A5} (hp:OkX p):∀(n:Nat) (t:Int) (x:A0) (out:List Int),NfV p n t x ->out.length+(a3s p n t x).size<=140737488355328 ->Z6 ⟨p,out⟩ t x ⟨p,out++bI (a3s p n t x)⟩
 |0,t,x,out,h,_=>h.elim
 |n+1,t,x,out,⟨g,hgt,ht,hx,hm⟩,hsz=>by
  have hg:g∈p.Progs:=List.mem_of_getElem? hgt
  have e:a3s p (n+1) t x=b1k (a3s p n) g.Ops x.Slots:=by simp only [a3s,hgt]
  rw [e] at hsz ⊢
  refine b48 _ _ _ _ ⟨g,hgt,ht, ?_⟩
  exact f5g (B:=NfV p n) (fun t x out hb hs=>d5m hp n t x out hb hs) (hp.ops hg) (E4 hx.okv.s) _ 0 0 out (Nat.le_refl _) (by omega) (by omega) (by rw [List.drop_zero,List.drop_zero]; exact hm) (by rw [List.drop_zero,List.drop_zero]; exact hsz) (by rw [List.drop_zero,List.drop_zero])
theorem d11 {R:GOp ->A0 ->Prop}:∀{ops:List GOp} {S:List (Int × A0)},b6q R ops S ->∀s∈S,∃q∈ops,q.Num=s.1
 |[],S,h,s,hs=>by rw [h] at hs; cases hs
 |o::ops,[],h,s,hs=>by cases hs
 |o::ops,x::S,h,s,hs=>by
  by_cases e:x.1=o.Num
  ·rcases List.mem_cons.1 hs with h1|h1
   ·subst h1; exact ⟨o,by simp,e.symm⟩
   ·obtain ⟨q,hq,he⟩:=d11 (h.1 e).2 s h1
    exact ⟨q,by simp [hq],he⟩
  ·obtain ⟨q,hq,he⟩:=d11 (h.2 e).2 s hs
   exact ⟨q,by simp [hq],he⟩
section
variable {p:A5} (hp:OkX p)
variable {W:c9t} {B:Int ->A0 ->Prop} (hW:∀(t:Int) (x:A0),B t x ->e0h p t x (W t x))
 include hW
variable {t:Int} {x:A0} {r:ByteArray}
variable {g:B6} (hgt:p.Progs[t.toNat]? =some g) (ht:0<=t) (hg:g.Ops.length<=140737488351232) (hxs:x.Slots.length<=140737488351232)
 include hgt ht hg hxs
end
theorem c55 {R R':GOp ->A0 ->Prop}:∀{ops:List GOp} {S:List (Int × A0)},(∀s∈S,∀o,R o s.2 ->R' o s.2) ->b6q R ops S ->b6q R' ops S
 |[],S,_,h=>h
 |o::ops,[],hr,h=>⟨h.1,c55 hr h.2⟩
 |o::ops,x::S,hr,h=>⟨fun e=>⟨hr x (by simp) o (h.1 e).1,c55 (fun s hs=>hr s (by simp [hs])) (h.1 e).2⟩,fun e=>⟨(h.2 e).1,c55 hr (h.2 e).2⟩⟩
theorem e1z {R:GOp ->A0 ->Prop} (F:GOp ->List (Int × A0)):∀(ops:List GOp),ops.Pairwise (fun a b=>a.Num<b.Num) ->(∀o∈ops,(F o=[] /\ o.Card≠1)\/∃z,F o=[(o.Num,z)] /\ R o z) ->b6q R ops (ops.flatMap F)
 |[],_,_=>rfl
 |o::ops,hasc,h=>by
  obtain ⟨h1,h2⟩:=List.pairwise_cons.1 hasc
  have ih:=e1z F ops h2 fun q hq=>h q (by simp [hq])
  rw [List.flatMap_cons]
  rcases h o (by simp) with ⟨e,hc⟩|⟨z,e,hr⟩
  ·rw [e,List.nil_append]
   have hsub:=d11 ih
   generalize ops.flatMap F=S at ih hsub
   cases S with
   |nil=>exact ⟨hc,ih⟩
   |cons s S=>
    obtain ⟨q,hq,hn⟩:=hsub s (by simp)
    have:=h1 q hq
    exact ⟨fun he=>by omega,fun _=>⟨hc,ih⟩⟩
  ·rw [e]
   exact ⟨fun _=>⟨hr,ih⟩,fun he=>absurd rfl he⟩
theorem d2v {β:Type} (G:GOp ->Int × A0 ->List β) {o:GOp} {x:Int × A0}:∀{l:List (Int × A0)},g1v l ->x∈l ->x.1=o.Num ->c9q G l o=G o x
 |[],_,hx,_=>by cases hx
 |y::l,hd,hx,he=>by
  obtain ⟨h1,h2⟩:=List.pairwise_cons.1 hd
  rcases List.mem_cons.1 hx with h3|h3
  ·subst h3
   have:c9q G l o=[]:=b75 G fun z hz=>by have:=h1 z hz; omega
   unfold c9q at this ⊢
   rw [List.flatMap_cons,this,if_pos he,List.append_nil]
  ·have:=h1 x h3
   have ih:=d2v G h2 h3 he
   unfold c9q at ih ⊢
   rw [List.flatMap_cons,if_neg (by omega),List.nil_append]
   exact ih
section
variable {p:A5} (hp:OkX p)
 include hp
theorem e5b:∀(n:Nat) (t:Int) (g:B6) (v:A0) (lev:Int),p.Progs[t.toNat]? =some g ->0<=t ->OkD v ->SizeOf.sizeOf v<=n ->b6i p n t v lev=0 ->NfV p n t (J2 p n t v)
 |0,t,g,v,lev,_,_,_,h,_=>by have:=szV v; omega
 |n+1,t,g,v,lev,hgt,ht,hv,hn,hm=>by
  have hg:g∈p.Progs:=List.mem_of_getElem? hgt
  have hok:=d3k hp (n+1) t v hv
  obtain ⟨_,_,_,_,_,hs⟩:=hv.inv
  have e:J2 p (n+1) t v=c2i (J2 p n) g v:=by simp only [J2,hgt]
  simp only [b6i,hgt] at hm
  have hf:=e4u hm
  refine ⟨g,hgt,ht,hok, ?_⟩
  have hasc:=c6y (hp.va.asc g hg)
  have hT:=c43 (fun o x=>b31 (J2 p n) o x.1 x.2) g.Ops v.Slots hasc hf.diff fun x hx=>by
   obtain ⟨h1,h2⟩:=d1l (hf.known x hx)
   exact ⟨_,h2,h1⟩
  have es:(J2 p (n+1) t v).Slots=g.Ops.flatMap (c9q (fun o x=>b31 (J2 p n) o x.1 x.2) v.Slots):=by
   rw [e,hT]; rfl
  rw [es]
  refine e1z _ _ hasc fun o ho=> ?_
  by_cases hex:∃x∈v.Slots,x.1=o.Num
  ·obtain ⟨x,hx,he⟩:=hex
   rw [d2v _ hf.diff hx he]
   have h1:=hf.field x hx
   rw [he,e3f hp hg ho] at h1
   obtain ⟨f4,f5,f6⟩:=c85 h1
   have z1:=szS hx
   obtain ⟨_,_,_,q1,q2,_⟩:=(hs x hx).inv
   have ho':∀hk:o.Kind=10,∃g',p.Progs[o.Target.toNat]? =some g' /\ 0<=o.Target:=fun hk=>by
    obtain ⟨t0,t1,_⟩:=((hp.va.pro g hg).2 _ ho).msg hk
    have hlt:o.Target.toNat<p.Progs.length:=by omega
    exact ⟨_,List.getElem?_eq_getElem hlt,t0⟩
   have elem:∀y,OkD y ->SizeOf.sizeOf y<=n ->b71 (b6i p n) p o y lev=0 ->o.Kind=10 ->NfV p n o.Target (a9f (J2 p n) o y):=fun y hy hz h hk=>by
    obtain ⟨g',h1,h2⟩:=ho' hk
    rw [a9f,if_pos hk]
    exact e5b n o.Target g' y _ h1 h2 hy hz (d5v hp h hk)
   simp only [b31]
   split
   ·refine .inr ⟨_,by rw [he],d27 (N:=J2 p n) (B:=fun _=>False) hp (fun _ _ _ _ _ hf=>hf.elim) (fun t v=>d3k hp n t v) o _ (hs x hx),fun hc y hy hk=> ?_,fun hc y hy hk=> ?_,fun h4 h5 hk=> ?_⟩
    ·rw [b1y,if_pos hc] at hy
     obtain ⟨y',hy',rfl⟩:=List.mem_map.1 hy
     have:=elem y' (q1 y' hy') (by have:=szL hy'; omega) ((f4 hc).2.2 y' hy') hk
     rwa [a9f,if_pos hk] at this ⊢
    ·rw [b1y,if_neg (by omega),if_pos hc] at hy
     obtain ⟨y',hy',rfl⟩:=List.mem_map.1 hy
     have hy2:=a7k hy'
     have:=elem y'.2 (q2 y' hy2).2 (by have:=szP hy2; omega) ((f5 hc).2.2.1 y' hy2).2 hk
     exact this
    ·have:=elem x.2 (hs x hx) (by omega) (f6 h4 h5) hk
     rw [b1y,if_neg h4,if_neg h5]
     exact this
   ·rename_i hb
    refine .inl ⟨rfl,fun hc=>hb ?_⟩
    have:e0d o=false:=by unfold e0d; simp [hc]
    rw [this]; rfl
  ·refine .inl ⟨b75 _ fun x hx he=>hex ⟨x,hx,he⟩,fun hc=> ?_⟩
   obtain ⟨x,hx,he⟩:=hf.need o ho hc
   exact hex ⟨x,hx,he⟩
end
theorem c8u {α:Type} {c:α ->α ->Int} (f:α ->Nat) (x:α):∀l:List α,a1j f (b6n c x l)=f x+a1j f l
 |[]=>by simp [b6n,a1j]
 |y::l=>by
  simp only [b6n]
  split
  ·simp only [a1j,c8u f x l]; omega
  ·simp only [a1j]
theorem b3g {α:Type} {c:α ->α ->Int} (f:α ->Nat):∀l:List α,a1j f (V6 c l)<=a1j f l
 |[]=>by simp [V6,a1j]
 |x::l=>by
  have ih:=b3g (c:=c) f l
  simp only [V6]
  split
  ·rw [c8u]; simp only [a1j]; omega
  ·simp only [a1j]; omega
theorem e7w {α:Type} {c:α ->α ->Int} (f:α ->Nat):∀l:List α,a1j f (sC c l)=a1j f l
 |[]=>rfl
 |x::l=>by rw [sC,c8u,e7w f l]; rfl
theorem c7t {α:Type} (f:α ->Nat):∀l m:List α,a1j f (l++m)=a1j f l+a1j f m
 |[],m=>by simp [a1j]
 |x::l,m=>by simp only [List.cons_append,a1j,c7t f l m]; omega
theorem c7d {α β:Type} {f:β ->Nat} {g:α ->Nat} {h:α ->List β}:∀{l:List α},(∀x∈l,a1j f (h x)<=g x) ->a1j f (l.flatMap h)<=a1j g l
 |[],_=>by simp [a1j]
 |x::l,hh=>by
  have h1:=hh x (by simp)
  have h2:=c7d (l:=l) fun y hy=>hh y (by simp [hy])
  rw [List.flatMap_cons,c7t]
  simp only [a1j]
  omega
theorem d7w (v:A0):wtV (a1e v)=wtV v:=by
 unfold a1e
 split
 ·rw [b6z,b6z]
 ·rfl
section
variable {N:c9o} (hN:∀t v,wtV (N t v)<=wtV v)
 include hN
theorem d1b (o:GOp) (v:A0):wtV (a9f N o v)<=wtV v:=by
 unfold a9f
 split
 ·exact hN _ _
 ·rw [d7w]; omega
theorem f0k (o:GOp) (v:A0):wtV (b1y N o v)<=wtV v:=by
 have e:=b6z v
 unfold b1y
 split
 ·rw [b6z ⟨11,_,_,_,_,_,_⟩]
  have h:=b9w (l:=v.List_) (f:=fun x=>wtV (a9f N o x)) (g:=wtV) fun x _=>d1b hN o x
  have hs:(⟨#[]⟩:ByteArray).size=0:=rfl
  simp only [b5v,a1j,hs]
  omega
 split
 ·rw [b6z ⟨12,_,_,_,_,_,_⟩]
  have h:=b9w (l:=b58 v.Pairs) (f:=fun x=>wtP (a1e x.1,a9f N o x.2)) (g:=wtP) fun x _=>by
   have a:=d1b hN o x.2
   have b:=d7w x.1
   simp only [wtP]; omega
  have h2:=b3g (c:=kc (SizeOf.sizeOf v.Pairs)) wtP v.Pairs
  have hs:(⟨#[]⟩:ByteArray).size=0:=rfl
  simp only [b5v,a1j,hs]
  have e2:a1j wtP (b58 v.Pairs)<=a1j wtP v.Pairs:=h2
  omega
 ·exact d1b hN o v
theorem e87 (g:B6) (v:A0):wtV (c2i N g v)<=wtV v:=by
 have e:=b6z v
 have h:=c7d (l:=V6 kn v.Slots) (f:=wtS) (g:=wtS) (h:=fun x=>b31 N (opV g x.1).1 x.1 x.2) fun x _=>by
  have a:=f0k hN (opV g x.1).1 x.2
  simp only [b31]
  split
  ·simp only [a1j,wtS]; omega
  ·simp [a1j]
 have h2:=b3g (c:=kn) wtS v.Slots
 have h3:=e7w (c:=kr) wtR v.Raws
 have hs:(⟨#[]⟩:ByteArray).size=0:=rfl
 rw [c2i,b6z ⟨10,_,_,_,_,_,_⟩]
 simp only [a1j,hs]
 omega
end
theorem e5g (p:A5):∀(n:Nat) (t:Int) (v:A0),wtV (J2 p n t v)<=wtV v
 |0,t,v=>by
  have e:=b6z v
  have:wtV (J2 p 0 t v)=7:=rfl
  omega
 |n+1,t,v=>by
  simp only [J2]
  split
  ·have e:=b6z v
   have:wtV (⟨0,0,⟨#[]⟩,[],[],[],[]⟩:A0)=7:=rfl
   omega
  ·exact e87 (e5g p n) _ v
abbrev Rs (α:Type):=Except Int (α × A3)
def E1 {α β:Type} (a:Rs α) (f:α ->A3 ->Rs β):Rs β:=
 match a with
 |.error e=>.error e
 |.ok x=>f x.1 x.2
def adv (c:A3) (k n:Int):A3:=⟨c.Data,c.At+k,c.End,c.Depth,c.Nodes - n,c.Text⟩
structure Snd (c:A3):Prop where
 sz:c.Data.size<=140737488351232
 a0:0<=c.At
 a1:c.At<=c.End
 a2:c.End<=(c.Data.size:Int)
 d0:0<=c.Depth
 d1:c.Depth<=4611686018427387904
 n0:0<=c.Nodes
 n1:c.Nodes<=4611686018427387904
theorem Snd.okc {c:A3} (h:Snd c):OkC c:=⟨h.sz,by have:=h.a0; omega,by have:=h.a1; have:=h.a2; have:=h.sz; omega⟩
theorem Snd.left {c:A3} (h:Snd c):a07 c.Data c.At c.End=c.End - c.At:=by
 have:b1h c.Data c.At c.End=true:=by
  have:=h.a0; have:=h.a1; have:=h.a2
  simp [b1h]; omega
 rw [a07,if_pos this]
theorem Snd.rest {c:A3} (h:Snd c):O4 c=c.Data.extract c.At.toNat c.End.toNat:=by
 have:=h.a0; have:=h.a1
 rw [O4,h.left]
 congr 1
 omega
theorem Snd.size {c:A3} (h:Snd c):((O4 c).size:Int)=c.End - c.At:=by rw [a8w,h.left]
theorem Snd.adv {c:A3} (h:Snd c) {k n:Int} (hk:0<=k /\ k<=c.End - c.At) (hn:0<=n /\ n<=c.Nodes):Snd (adv c k n):=by
 have a0:=h.a0; have a1:=h.a1; have a2:=h.a2; have n0:=h.n0; have n1:=h.n1
 refine ⟨h.sz, ?_, ?_,a2,h.d0,h.d1, ?_, ?_⟩<;>simp only [Lift.adv]<;>omega
theorem e19 (a:ByteArray):(⟨#[]⟩:ByteArray)++a=a:=ByteArray.empty_append
theorem d77 (l:List UInt8):(⟨l.toArray⟩:ByteArray).data.toList=l:=by simp
theorem d37 {a b:ByteArray} (h:a.data.toList=b.data.toList):a=b:=ByteArray.ext (Array.ext' h)
theorem b7l (a b:ByteArray):(a++b).data.toList=a.data.toList++b.data.toList:=by simp [ByteArray.data_append]
theorem e9a {a b c d:ByteArray} (h:a++b=c++d):(∃s,c=a++s /\ b=s++d)\/∃s,a=c++s /\ d=s++b:=by
 have e:=congrArg (fun x:ByteArray=>x.data.toList) h
 simp only [b7l] at e
 rcases List.append_eq_append_iff.1 e with ⟨l,h1,h2⟩|⟨l,h1,h2⟩
 ·exact .inl ⟨⟨l.toArray⟩,d37 (by rw [b7l,d77]; exact h1),d37 (by rw [b7l,d77]; exact h2)⟩
 ·exact .inr ⟨⟨l.toArray⟩,d37 (by rw [b7l,d77]; exact h1),d37 (by rw [b7l,d77]; exact h2)⟩
theorem c2k {a b c:ByteArray} (h:a++b=a++c):b=c:=by
 have e:=congrArg (fun x:ByteArray=>x.data.toList) h
 simp only [b7l] at e
 exact d37 (List.append_cancel_left e)
theorem f0z {c:A3} (h:Snd c) {b t:ByteArray} (hr:O4 c=b++t) {n:Int} (hn:0<=n /\ n<=c.Nodes):Snd (adv c b.size n) /\ O4 (adv c b.size n)=t:=by
 have hs:=h.size
 rw [hr,I3] at hs
 have a0:=h.a0; have a1:=h.a1; have a2:=h.a2
 have h2:=h.adv (k:=b.size) (n:=n) ⟨by omega,by omega⟩ hn
 refine ⟨h2, ?_⟩
 have e1:b++O4 (adv c b.size n)=O4 c:=by
  rw [h.rest,h2.rest]
  refine d9g ?_ fun i hi=> ?_
  ·rw [I3,U6 _ (by simp only [adv]; omega),U6 _ (by omega)]
   simp only [adv]; omega
  ·rw [I3,U6 _ (by simp only [adv]; omega)] at hi
   simp only [adv] at hi ⊢
   rw [Z4 _ (by omega)]
   rcases Nat.lt_or_ge i b.size with q|q
   ·rw [a5m _ _ q]
    have e:=congrArg (fun s=>H5 s i) hr
    simp only [h.rest] at e
    rw [Z4 _ (by omega),a5m _ _ q] at e
    exact e.symm
   ·have e:H5 (b++c.Data.extract (c.At+↑b.size).toNat c.End.toNat) i=H5 (c.Data.extract (c.At+↑b.size).toNat c.End.toNat) (i - b.size):=by
     unfold H5 F0
     have hl:b.data.toList.length=b.size:=Array.length_toList
     rw [b7l,List.getD_eq_getElem?_getD,List.getElem?_append_right (by omega),hl,<-List.getD_eq_getElem?_getD]
    rw [e,Z4 _ (by omega)]
    congr 1
    omega
 rw [hr] at e1
 exact c2k e1
def Ahd (c:A3) (b:ByteArray):Prop:=(∃t,O4 c=b++t)\/∃t,b=O4 c++t
theorem Ahd.left {c:A3} {a b:ByteArray} (h:Ahd c (a++b)):Ahd c a:=by
 rcases h with ⟨t,h⟩|⟨t,h⟩
 ·exact .inl ⟨b++t,by rw [h,b2x]⟩
 ·rcases e9a h with ⟨s,h1,_⟩|⟨s,h1,_⟩
  ·exact .inl ⟨s,h1⟩
  ·exact .inr ⟨s,h1⟩
theorem Ahd.right {c c':A3} {a b t:ByteArray} (h:Ahd c (a++b)) (h1:O4 c=a++t) (h2:O4 c'=t):Ahd c' b:=by
 rcases h with ⟨u,h⟩|⟨u,h⟩
 ·rw [h1,b2x] at h
  exact .inl ⟨u,by rw [h2]; exact c2k h⟩
 ·rw [h1,b2x] at h
  exact .inr ⟨u,by rw [h2]; exact c2k h⟩
structure a01 where
 d:Nat
 n:Nat
 l:Nat
def a01.add (a b:a01):a01:=⟨max a.d b.d,a.n+b.n,max a.l b.l⟩
def a01.none:a01:=⟨0,0,0⟩
theorem a01.add_none (a:a01):a.add .none=a:=by cases a; simp [a01.add,a01.none]
theorem a01.none_add (a:a01):a01.none.add a=a:=by cases a; simp [a01.add,a01.none]
theorem a01.add_assoc (a b c:a01):(a.add b).add c=a.add (b.add c):=by
 simp only [a01.add,a01.mk.injEq]; omega
def Whl (c:A3) (b:ByteArray):Prop:=∃t,O4 c=b++t
def Got {α:Type} (c:A3) (b:ByteArray) (k:a01) (x:α) (r:Rs α):Prop:=
 match r with
 |.ok y=>y=(x,adv c b.size k.n) /\ Whl c b /\ (k.d:Int)<=c.Depth /\ (k.n:Int)<=c.Nodes /\ (k.l:Int)<=c.Text
 |.error e=>(e=4 /\ ¬Whl c b)\/(e=17 /\ c.Depth<k.d)\/(e=3 /\ (c.Nodes<k.n\/c.Text<k.l))
def Rds {α:Type} (m:Nat) (b:ByteArray) (k:a01) (x:α) (f:A3 ->Rs α):Prop:=∀c,Snd c ->0<=c.Text ->c.Depth<=m ->Ahd c b ->Got c b k x (f c)
theorem f7p (c:A3) (a b n k:Int):adv (adv c a n) b k=adv c (a+b) (n+k):=by
 simp only [adv,A3.mk.injEq,true_and,and_true]; omega
section
variable {α β:Type} {m:Nat}
theorem Rds.bind {b b':ByteArray} {k k':a01} {x:α} {y:β} {f:A3 ->Rs α} {g:α ->A3 ->Rs β} (h:Rds m b k x f) (h2:Rds m b' k' y (g x)):Rds m (b++b') (k.add k') y (fun c=>E1 (f c) g):=by
 intro c hc ht hm hp
 have h1:=h c hc ht hm hp.left
 have cut:¬Whl c b ->¬Whl c (b++b'):=fun q ⟨t,e⟩=>q ⟨b'++t,by rw [e,b2x]⟩
 show Got c _ _ _ (E1 (f c) g)
 cases hf:f c with
 |error e=>
  rw [hf] at h1
  simp only [Got,E1,a01.add] at h1 ⊢
  rcases h1 with ⟨e1,q⟩|⟨e1,q⟩|⟨e1,q⟩
  ·exact .inl ⟨e1,cut q⟩
  ·exact .inr (.inl ⟨e1,by omega⟩)
  ·exact .inr (.inr ⟨e1,by omega⟩)
 |ok z=>
  rw [hf] at h1
  obtain ⟨rfl,⟨t,ha⟩,q1,q2,q3⟩:=h1
  obtain ⟨s1,s2⟩:=f0z hc ha (n:=k.n) ⟨by omega,q2⟩
  have hp2:=hp.right ha s2
  have h3:=h2 _ s1 ht hm hp2
  simp only [E1]
  cases hg:g x (adv c b.size k.n) with
  |error e=>
   rw [hg] at h3
   simp only [Got,a01.add,adv] at h3 ⊢
   rcases h3 with ⟨e1,q⟩|⟨e1,q⟩|⟨e1,q⟩
   ·refine .inl ⟨e1,fun ⟨u,hu⟩=>q ⟨u, ?_⟩⟩
    rw [ha,b2x] at hu
    have:=c2k hu
    rw [<-this]; exact s2
   ·exact .inr (.inl ⟨e1,by omega⟩)
   ·exact .inr (.inr ⟨e1,by omega⟩)
  |ok z=>
   rw [hg] at h3
   obtain ⟨rfl,⟨u,hu⟩,p1,p2,p3⟩:=h3
   simp only [adv] at p1 p2 p3
   simp only [Got,a01.add]
   refine ⟨?_,⟨u, ?_⟩,by omega,by omega,by omega⟩
   ·rw [f7p,I3]; simp
   ·rw [ha,b2x,<-hu,s2]
theorem Rds.pure (x:α):Rds m ⟨#[]⟩ .none x (fun c=>.ok (x,c)):=by
 intro c hc ht hm hp
 have:=hc.n0; have:=hc.d0
 refine ⟨?_,⟨O4 c,(e19 _).symm⟩,by simp [a01.none]; omega,by simp [a01.none]; omega,by simp [a01.none]; omega⟩
 have:((⟨#[]⟩:ByteArray).size:Int)=0:=rfl
 simp [adv,a01.none,this]
theorem Rds.of {b b':ByteArray} {k k':a01} {x:α} {f:A3 ->Rs α} (h:Rds m b k x f) (hb:b=b') (hk:k=k'):Rds m b' k' x f:=by subst hb hk; exact h
theorem Rds.map {b:ByteArray} {k:a01} {x:α} {y:β} {f:A3 ->Rs α} (h:Rds m b k x f) (g:α ->β) (e:g x=y):Rds m b k y (fun c=>E1 (f c) fun x c=>.ok (g x,c)):=by
 subst e
 exact (Rds.bind h (Rds.pure (g x))).of (c8y b) (a01.add_none k)
end
abbrev RdM:=Int ->A3 ->Rs A0
def spR (c:A3):Rs Unit:=if c.Nodes<1 then .error 3 else .ok ((),adv c 0 1)
def toR {α:Type} (r:α × A3 × Int):Rs α:=if r.2.2≠0 then .error r.2.2 else .ok (r.1,r.2.1)
def scR (p:A5) (k t:Int) (c:A3):Rs A0:=toR (b44 p k t c)
def elR (M:RdM) (p:A5) (k t:Int) (c:A3):Rs A0:=if k=10 then M t c else E1 (spR c) fun _ c=>scR p k t c
def cnR (c:A3):Rs Int:=E1 (toR (T3 c)) fun u c=>if 4096<u then .error 3 else if 0<u then E1 (spR c) fun _ c=>.ok (u,c) else .ok (u,c)
def lsR (M:RdM) (p:A5) (k t:Int):Nat ->A3 ->Rs (List A0)
 |0,c=>.ok ([],c)
 |n+1,c=>E1 (elR M p k t c) fun x c=>E1 (lsR M p k t n c) fun l c=>.ok (x::l,c)
noncomputable def upB (a:Option A0) (k:A0):Bool:=match a with
 |none=>true
 |some b=>decide (a1z (SizeOf.sizeOf b) b k<0)
abbrev upK (a:Option A0) (k:A0):Prop:=upB a k=true
noncomputable def prR (M:RdM) (p:A5) (key k t:Int):Nat ->Option A0 ->A3 ->Rs (List (A0 × A0))
 |0,_,c=>.ok ([],c)
 |n+1,a,c=>E1 (elR M p key (-1) c) fun x c=>if upK a x then E1 (elR M p k t c) fun y c=>E1 (prR M p key k t n (some x) c) fun l c=>.ok ((x,y)::l,c) else .error 5
def c5u (g:B6) (sl:List (Int × A0)) (o:GOp):Bool:=sl.any fun s=>(opV g s.1).2&&(decide (0<=o.Union)&&decide ((opV g s.1).1.Union=o.Union))
def myR (M:RdM) (p:A5) (g:B6) (sl:List (Int × A0)) (o:GOp) (c:A3):Rs (A0 × Bool):=
 E1 (toR (a3k c)) fun b c=>if 1<b then .error 5 else if b=0 then .ok ((V0,false),c) else if c5u g sl o=true then .error 15
  else E1 (elR M p o.Kind o.Target c) fun x c=>if o.Card=3 /\ b7g x=true then .error 5 else .ok ((x,true),c)
noncomputable def fdR (M:RdM) (p:A5) (g:B6) (sl:List (Int × A0)) (o:GOp) (c:A3):Rs (A0 × Bool):=
 if o.Card=1 then E1 (elR M p o.Kind o.Target c) fun x c=>.ok ((x,true),c)
 else if o.Card=4 then E1 (cnR c) fun n c=>E1 (lsR M p o.Kind o.Target n.toNat c) fun l c=>.ok ((⟨11,0,⟨#[]⟩,l,[],[],[]⟩, !l.isEmpty),c)
 else if o.Card=5 then E1 (cnR c) fun n c=>E1 (prR M p o.Key o.Kind o.Target n.toNat none c) fun l c=>.ok ((⟨12,0,⟨#[]⟩,[],l,[],[]⟩, !l.isEmpty),c)
 else myR M p g sl o c
noncomputable def c7p (M:RdM) (p:A5) (g:B6):List GOp ->List (Int × A0) ->A3 ->Rs (List (Int × A0))
 |[],sl,c=>.ok (sl,c)
 |o::ops,sl,c=>E1 (fdR M p g sl o c) fun x c=>c7p M p g ops (if x.2=true then sl++[(o.Num,x.1)] else sl) c
def a7z (c:A3) (n:Int):A3:=⟨c.Data,c.At,c.End,c.Depth - n,c.Nodes,c.Text⟩
noncomputable def msR (p:A5):Nat ->RdM
 |0,_,_=>.error 17
 |n+1,t,c=>if c.Depth<1 then .error 17 else E1 (spR c) fun _ c=>match p.Progs[t.toNat]? with
  |none=>.error 17
  |some g=>E1 (c7p (msR p n) p g g.Ops [] (a7z c 1)) fun sl c=>.ok (⟨10,0,⟨#[]⟩,[],[],sl,[]⟩,a7z c (-1))
theorem Rds.spend {m:Nat}:Rds m ⟨#[]⟩ ⟨0,1,0⟩ () spR:=by
 intro c hc ht hm hp
 have:=hc.n0; have:=hc.d0
 unfold spR
 split
 ·exact .inr (.inr ⟨rfl,by simp; omega⟩)
 ·refine ⟨?_,⟨O4 c,(e19 _).symm⟩,by simp; omega,by simp; omega,by simp; omega⟩
  have:((⟨#[]⟩:ByteArray).size:Int)=0:=rfl
  simp [adv,this]
theorem b3u (c:A3) (n:Int):a2j c n=adv c n 0:=by simp [a2j,adv]
theorem e5c (s:ByteArray) (u:Nat):∀i acc:Nat,i<=9 ->u*128 ^ i<18446744073709551616 ->i<=s.size ->s.size<i+(b26 u).length ->(∀j x,i+j<s.size ->(b26 u)[j]? =some x ->((H5 s (i+j):Nat):Int)=x) ->W4 s i acc=(0,0,4):=by
 induction u using Nat.strongRecOn with
 |_ u ih=>
  intro i acc hi hb hl hl2 hx
  rw [W4.eq_def,if_neg (by omega)]
  rcases Nat.lt_or_ge i s.size with hlt|hge
  ·rw [if_neg (by omega)]
   by_cases h:u<128
   ·have hu:b26 u=[(u:Int)]:=by rw [b26,if_pos h]
    rw [hu] at hl2; simp at hl2; omega
   ·have hu:b26 u=((u % 128+128:Nat):Int)::b26 (u / 128):=by rw [b26,if_neg h]
    have h0:H5 s i=u % 128+128:=by
     have:=hx 0 _ (by omega) (by rw [hu]; rfl)
     rw [Nat.add_zero] at this
     omega
    have h9:i<=8:=by
     rcases Nat.lt_or_ge i 9 with h9|h9
     ·omega
     ·obtain rfl:i=9:=by omega
      have:(128:Nat) ^ 9=9223372036854775808:=by decide
      rw [this] at hb
      omega
    have e2:u*128 ^ i=u % 128*128 ^ i+u / 128*128 ^ (i+1):=by
     rw [Nat.pow_succ,Nat.mul_comm (128 ^ i) 128,<-Nat.mul_assoc,<-Nat.add_mul]
     congr 1
     omega
    rw [h0,if_neg (by omega),if_neg (by omega)]
    rw [hu] at hl2
    exact ih (u / 128) (by omega) (i+1) _ (by omega) (by omega) (by omega) (by simp at hl2; omega) (fun j x hj hjx=>by
     have:=hx (j+1) x (by omega) (by rw [hu]; simpa using hjx)
     rw [show i+1+j=i+(j+1) by omega]; exact this)
  ·rw [if_pos hge]
theorem e94 (u:Nat) (hu:u<18446744073709551616) (s t:ByteArray) (h:b3e u=s++t) (ht:t.size≠0):W4 s 0 0=(0,0,4):=by
 have hz:(b3e u).size=(b26 u).length:=b14 _
 have hz2:s.size+t.size=(b26 u).length:=by rw [<-hz,h,I3]
 refine e5c s u 0 0 (by omega) (by simpa using hu) (by omega) (by omega) (fun j x hj hjx=> ?_)
 rw [Nat.zero_add]
 have:=c2n (c98 u) hjx
 have e:H5 (ofI (b26 u)) j=H5 s j:=by
  have:ofI (b26 u)=s++t:=h
  rw [this,a5m _ _ (by omega)]
 rw [<-e]; exact this
theorem d1g {c:A3} {b t:ByteArray} (h:b=O4 c++t) (ht:t.size≠0):¬Whl c b:=fun ⟨u,hu⟩=>by
 have:=congrArg ByteArray.size hu
 rw [I3] at this
 have e:=congrArg ByteArray.size h
 rw [I3] at e
 omega
theorem Ahd.two {c:A3} {b:ByteArray} (h:Ahd c b):Whl c b\/∃t,b=O4 c++t /\ t.size≠0:=by
 rcases h with h|⟨t,h⟩
 ·exact .inl h
 ·by_cases e:t.size=0
  ·have:t=⟨#[]⟩:=f48 e
   subst this
   exact .inl ⟨⟨#[]⟩,by rw [h,c8y,c8y]⟩
  ·exact .inr ⟨t,h,e⟩
theorem Rds.num {m:Nat} (u:Nat) (hu:u<18446744073709551616):Rds m (b3e u) .none (u:Int) (fun c=>toR (T3 c)):=by
 intro c hc ht hm hp
 have:=hc.n0; have:=hc.d0
 show Got c _ _ _ (toR _)
 rcases hp.two with ⟨t,h⟩|⟨t,h,h0⟩
 ·rw [f74 c u hu t h]
  refine ⟨?_,⟨t,h⟩,by simp [a01.none]; omega,by simp [a01.none]; omega,by simp [a01.none]; omega⟩
  simp [b3u,a01.none]
 ·have e:=e94 u hu _ t h h0
  have e2:T3 c=(0,c,4):=by
   unfold T3
   rw [e]
   simp
  rw [e2]
  exact .inl ⟨rfl,d1g h h0⟩
theorem Rds.byte {m:Nat} (b:Int) (hb:0<=b /\ b<256):Rds m (ofI [b]) .none b (fun c=>toR (a3k c)):=by
 intro c hc ht hm hp
 have:=hc.n0; have:=hc.d0
 show Got c _ _ _ (toR _)
 have hz:(ofI [b]).size=1:=b14 _
 have hs:=hc.size
 rcases hp.two with ⟨t,h⟩|⟨t,h,h0⟩
 ·have e:a3k c=(b,a2j c 1,0):=by
   have h1:(H5 (O4 c) 0:Int)=b:=by
    rw [h,a5m _ _ (by omega)]
    exact c2n (a0w hb) rfl
   have h2:=congrArg ByteArray.size h
   rw [I3] at h2
   rw [hc.rest,Z4 _ (by have:=hc.a0; omega),Nat.add_zero] at h1
   rw [a3k,hc.left,if_pos (by omega),(b2v _ _).1,h1]
  rw [e]
  refine ⟨?_,⟨t,h⟩,by simp [a01.none]; omega,by simp [a01.none]; omega,by simp [a01.none]; omega⟩
  simp [b3u,a01.none,hz]
 ·have h2:=congrArg ByteArray.size h
  rw [I3,hz] at h2
  have e:a3k c=(0,c,4):=by rw [a3k,hc.left,if_neg (by omega)]
  rw [e]
  exact .inl ⟨rfl,d1g h h0⟩
theorem Rds.fix {m:Nat} (u:Nat) (hu:u<18446744073709551616):Rds m (d7v u) .none (u:Int) (fun c=>toR (c4w c)):=by
 intro c hc ht hm hp
 have:=hc.n0; have:=hc.d0
 show Got c _ _ _ (toR _)
 have hz:=d2m u
 rcases hp.two with ⟨t,h⟩|⟨t,h,h0⟩
 ·rw [f58 c u hu t h]
  refine ⟨?_,⟨t,h⟩,by simp [a01.none]; omega,by simp [a01.none]; omega,by simp [a01.none]; omega⟩
  simp [b3u,a01.none,hz]
 ·have h2:=congrArg ByteArray.size h
  rw [I3,hz] at h2
  have e:c4w c=(0,c,4):=by rw [c4w,if_neg (by omega)]
  rw [e]
  exact .inl ⟨rfl,d1g h h0⟩
theorem Rds.txt {m:Nat} (s:ByteArray):Rds m s ⟨0,0,s.size⟩ s (fun c=>toR (a65 c s.size)):=by
 intro c hc ht hm hp
 have:=hc.n0; have:=hc.d0
 show Got c _ _ _ (toR _)
 have hs:=hc.size
 rcases hp.two with ⟨t,h⟩|⟨t,h,h0⟩
 ·have h2:=congrArg ByteArray.size h
  rw [I3] at h2
  by_cases hl:c.Text<s.size
  ·have e:a65 c s.size=(⟨#[]⟩,c,3):=by rw [a65,if_neg (by omega),hc.left,if_neg (by omega),if_pos hl]
   rw [e]
   exact .inr (.inr ⟨rfl,.inr hl⟩)
  ·have e:a65 c s.size=(s,a2j c s.size,0):=by
    rw [a65,if_neg (by omega),hc.left,if_neg (by omega),if_neg hl]
    refine Prod.ext (show c.Data.extract c.At.toNat (c.At.toNat+((s.size:Nat):Int).toNat)=s from ?_) rfl
    have a0:=hc.a0; have a1:=hc.a1; have a2:=hc.a2
    refine d9g ?_ fun i hi=> ?_
    ·rw [U6 _ (by omega)]; omega
    ·rw [U6 _ (by omega)] at hi
     rw [Z4 _ (by omega)]
     have e:=congrArg (fun s=>H5 s i) h
     simp only [hc.rest] at e
     rw [Z4 _ (by omega),a5m _ _ (by omega)] at e
     exact e
   rw [e]
   refine ⟨?_,⟨t,h⟩,by simp; omega,by simp; omega,by simp; omega⟩
   simp [b3u]
 ·have h2:=congrArg ByteArray.size h
  rw [I3] at h2
  have e:a65 c s.size=(⟨#[]⟩,c,4):=by rw [a65,if_neg (by omega),hc.left,if_pos (by omega)]
  rw [e]
  exact .inl ⟨rfl,d1g h h0⟩
structure ScO (p:A5) (k t:Int) (y:A0):Prop where
 fit:a9h k y=true
 kind:y.Kind=k
 nrm:a1e y=y
 acc:k=9 ->d7t p t y.Bits=true
 b:0<=y.Bits /\ y.Bits<18446744073709551616
 lone:y.List_=[] /\ y.Pairs=[] /\ y.Slots=[] /\ y.Raws=[]
theorem b0f {α β:Type} (a:α × A3 × Int) (f:α ->A3 ->Rs β):E1 (toR a) f=if a.2.2≠0 then .error a.2.2 else f a.1 a.2.1:=by
 unfold toR E1
 by_cases h:a.2.2=0<;>simp [h]
theorem f8y (p:A5) (t:Int) (c:A3):scR p 1 t c=E1 (toR (a3k c)) fun b c=>if 1<b then .error 5 else .ok (d1o 1 b,c):=by
 rw [b0f,scR,b44,if_pos rfl]
 by_cases h:(a3k c).2.2≠0
 ·rw [if_pos h,if_pos h,toR,if_pos h]
 ·rw [if_neg h,if_neg h]
  by_cases h2:1<(a3k c).1
  ·rw [if_pos h2,if_pos h2]; rfl
  ·rw [if_neg h2,if_neg h2]; rfl
theorem f8r (p:A5) (t:Int) (c:A3):scR p 6 t c=E1 (toR (c4w c)) fun u c=>if (a1e ⟨6,u,⟨#[]⟩,[],[],[],[]⟩).Bits≠u then .error 5 else .ok (⟨6,u,⟨#[]⟩,[],[],[],[]⟩,c):=by
 rw [b0f,scR,b44,if_neg (by decide),if_pos rfl,e1c]
 by_cases h:(c4w c).2.2≠0
 ·rw [if_pos h,if_pos h,toR,if_pos h]
 ·rw [if_neg h,if_neg h]
  by_cases h2:(a1e ⟨6,(c4w c).1,⟨#[]⟩,[],[],[],[]⟩).Bits≠(c4w c).1
  ·rw [if_pos h2,if_pos h2]; rfl
  ·rw [if_neg h2,if_neg h2]; rfl
def txR (u:Int) (c:A3):Rs ByteArray:=if a07 c.Data c.At c.End<u then .error 4 else toR (a65 c u)
theorem f8h (p:A5) (k t:Int) (hk:k=7\/k=8) (c:A3):scR p k t c=E1 (toR (T3 c)) fun u c=>E1 (txR u c) fun s c=>if k=7 /\ b2u s=false then .error 7 else .ok (⟨k,0,s,[],[],[],[]⟩,c):=by
 rw [b0f,scR,b44,if_neg (by omega),if_neg (by omega),if_pos hk,d6e]
 by_cases h:(T3 c).2.2≠0
 ·rw [if_pos h,if_pos h,toR,if_pos h]
 ·rw [if_neg h,if_neg h,txR]
  by_cases h2:a07 (T3 c).2.1.Data (T3 c).2.1.At (T3 c).2.1.End<(T3 c).1
  ·rw [if_pos h2,if_pos h2]; rfl
  ·rw [if_neg h2,if_neg h2,b0f]
   by_cases h3:(a65 (T3 c).2.1 (T3 c).1).2.2≠0
   ·rw [if_pos h3,if_pos h3,toR,if_pos h3]
   ·rw [if_neg h3,if_neg h3]
    by_cases h4:k=7 /\ b2u (a65 (T3 c).2.1 (T3 c).1).1=false
    ·rw [if_pos h4,if_pos h4]; rfl
    ·rw [if_neg h4,if_neg h4]; rfl
theorem f7r (p:A5) (k t:Int) (hk:k=2\/k=3\/k=4\/k=5\/k=9) (c:A3):scR p k t c=E1 (toR (T3 c)) fun u c=>if a9h k (d1o k (d1y k u))=false then .error 6 else if k=9 /\ d7t p t u=false then .error 16 else .ok (d1o k (d1y k u),c):=by
 rw [b0f,scR,b44,if_neg (by omega),if_neg (by omega),if_neg (by omega),if_pos hk]
 by_cases h:(T3 c).2.2≠0
 ·rw [if_pos h,if_pos h,toR,if_pos h]
 ·rw [if_neg h,if_neg h]
  by_cases h2:a9h k (d1o k (d1y k (T3 c).1))=false
  ·rw [if_pos h2,if_pos h2]; rfl
  ·rw [if_neg h2,if_neg h2]
   by_cases h3:k=9 /\ d7t p t (T3 c).1=false
   ·rw [if_pos h3,if_pos h3]; rfl
   ·rw [if_neg h3,if_neg h3]; rfl
theorem Rds.tx {m:Nat} (s:ByteArray):Rds m s ⟨0,0,s.size⟩ s (txR s.size):=by
 intro c hc ht hm hp
 unfold txR
 split
 ·rename_i h
  rw [hc.left] at h
  refine .inl ⟨rfl,fun ⟨t,e⟩=> ?_⟩
  have h2:=congrArg ByteArray.size e
  rw [I3] at h2
  have:=hc.size
  omega
 ·exact Rds.txt s c hc ht hm hp
section
variable {α β:Type} {m:Nat}
theorem Rds.fin {b:ByteArray} {k:a01} {x:α} {y:β} {f:A3 ->Rs α} (h:Rds m b k x f) (g:α ->A3 ->Rs β) (e:∀c,g x c=.ok (y,c)):Rds m b k y (fun c=>E1 (f c) g):=by
 have e2:g x=fun c=>.ok (y,c):=funext e
 have h2:=Rds.bind (m:=m) (b':=⟨#[]⟩) (k':=.none) (y:=y) (g:=g) h (by rw [e2]; exact Rds.pure y)
 exact h2.of (c8y b) (a01.add_none k)
end
theorem Rds.scal {m:Nat} {p:A5} {k t:Int} {y:A0} (h:ScO p k t y):Rds m (d24 y) ⟨0,0,y.Text.size⟩ y (scR p k t):=by
 obtain ⟨f,hk,hn,ha,hb,l1,l2,l3,l4⟩:=h
 obtain ⟨K,B,T,L,P,S,R⟩:=y
 simp only at hk hb ha l1 l2 l3 l4 ⊢
 subst hk l1 l2 l3 l4
 have f':a9h K ⟨K,B,T,[],[],[],[]⟩=true:=f
 obtain ⟨k1,k2,k3,k4⟩:=d06 ⟨K,B,T,[],[],[],[]⟩ f'
 simp only at k1 k2 k3 k4
 have tx:¬(K=7\/K=8) ->T=⟨#[]⟩:=fun hk=>by
  unfold a9h at f'
  rw [if_neg hk] at f'
  simp only [Bool.and_eq_true,decide_eq_true_eq] at f'
  exact f'.2.1
 have key:∀u:Nat,u<18446744073709551616 ->¬(K=7\/K=8) ->d24 ⟨K,B,T,[],[],[],[]⟩=b3e u ->(K=2\/K=3\/K=4\/K=5\/K=9) ->d1y K u=B ->(K=9 ->(u:Int)=B) ->Rds m (d24 ⟨K,B,T,[],[],[],[]⟩) ⟨0,0,T.size⟩ ⟨K,B,T,[],[],[],[]⟩ (scR p K t):=by
  intro u hu hk hp hk2 hv hv9
  have et:=tx hk
  subst et
  rw [hp]
  have e:scR p K t=fun c=>E1 (toR (T3 c)) fun u c=>if a9h K (d1o K (d1y K u))=false then .error 6 else if K=9 /\ d7t p t u=false then .error 16 else .ok (d1o K (d1y K u),c):=funext (f7r p K t hk2)
  rw [e]
  refine (Rds.fin (Rds.num u hu) _ fun c=> ?_).of rfl rfl
  have f2:a9h K (d1o K B)=true:=f'
  rw [hv,if_neg (by rw [f2]; simp),if_neg]
  ·rfl
  ·rintro ⟨q1,q2⟩
   rw [hv9 q1,ha q1] at q2
   cases q2
 by_cases e1:K=1
 ·subst e1
  have hw:B<=1:=by
   have:=k4 (by decide)
   rw [a2i,if_pos rfl] at this
   simpa using this
  have et:=tx (by decide)
  subst et
  have hp:d24 ⟨1,B,⟨#[]⟩,[],[],[],[]⟩=ofI [B]:=by
   unfold d24; rw [if_pos f',if_pos rfl]
   simp only [show B % 256=B by omega]
  rw [hp]
  have e:scR p 1 t=fun c=>E1 (toR (a3k c)) fun b c=>if 1<b then .error 5 else .ok (d1o 1 b,c):=funext (f8y p t)
  rw [e]
  refine (Rds.fin (Rds.byte B (by omega)) _ fun c=> ?_).of rfl rfl
  rw [if_neg (by omega)]; rfl
 by_cases e23:K=2\/K=3
 ·have hw:=d2y B
  refine key (e8s (wI B)) (d53 hw) (by omega) (by unfold d24; rw [if_pos f',if_neg e1,if_pos e23]) (by omega) ?_ (by omega)
  unfold d1y
  rw [if_pos e23,Int.toNat_natCast,f8v,g50 hb]
 by_cases e6:K=6
 ·subst e6
  have et:=tx (by decide)
  subst et
  have hp:d24 ⟨6,B,⟨#[]⟩,[],[],[],[]⟩=d7v B.toNat:=by
   unfold d24; rw [if_pos f',if_neg e1,if_neg e23,if_pos rfl,hn]
  rw [hp]
  have e:scR p 6 t=fun c=>E1 (toR (c4w c)) fun u c=>if (a1e ⟨6,u,⟨#[]⟩,[],[],[],[]⟩).Bits≠u then .error 5 else .ok (⟨6,u,⟨#[]⟩,[],[],[],[]⟩,c):=funext (f8r p t)
  rw [e]
  have eb:((B.toNat:Nat):Int)=B:=by omega
  refine (Rds.fin (Rds.fix B.toNat (by omega)) _ fun c=> ?_).of rfl rfl
  rw [eb,hn,if_neg (by simp)]
 by_cases e78:K=7\/K=8
 ·obtain ⟨k5,k6,k7⟩:=k3 e78
  subst k5
  have hp:d24 ⟨K,0,T,[],[],[],[]⟩=b3e T.size++T:=by unfold d24; rw [if_pos f',if_neg e1,if_neg e23,if_neg e6,if_pos e78]
  rw [hp]
  have e:scR p K t=fun c=>E1 (toR (T3 c)) fun u c=>E1 (txR u c) fun s c=>if K=7 /\ b2u s=false then .error 7 else .ok (⟨K,0,s,[],[],[],[]⟩,c):=funext (f8h p K t e78)
  rw [e]
  refine (Rds.bind (Rds.num T.size (by omega)) (Rds.fin (Rds.tx T) _ fun c=> ?_)).of rfl (a01.none_add _)
  rw [if_neg]
  rintro ⟨q1,q2⟩
  rw [k7 q1] at q2; cases q2
 ·refine key B.toNat (by omega) e78 (by unfold d24; rw [if_pos f',if_neg e1,if_neg e23,if_neg e6,if_neg e78]) (by omega) ?_ (by omega)
  unfold d1y
  rw [if_neg e23]; omega
def b6m {α:Type} (f:α ->a01):List α ->a01
 |[]=>.none
 |x::l=>(f x).add (b6m f l)
def e7g (v:A0) (k:a01):a01:=⟨if v.Kind=10 then k.d+1 else k.d,k.n+1+v.Raws.length,max v.Text.size k.l⟩
def d2n:Nat ->A0 ->a01
 |0,_=>.none
 |n+1,v=>e7g v ((b6m (d2n n) v.List_).add ((b6m (fun x=>(d2n n x.1).add (d2n n x.2)) v.Pairs).add (b6m (fun x=>d2n n x.2) v.Slots)))
theorem a7m {α:Type} {f g:α ->a01}:∀{l:List α},(∀x∈l,f x=g x) ->b6m f l=b6m g l
 |[],_=>rfl
 |x::l,h=>by rw [b6m,b6m,h x (by simp),a7m fun y hy=>h y (by simp [hy])]
theorem b19:∀(n m:Nat) (v:A0),SizeOf.sizeOf v<=n ->SizeOf.sizeOf v<=m ->d2n n v=d2n m v
 |0,_,v,h,_=>by have:=szV v; omega
 |_+1,0,v,_,h=>by have:=szV v; omega
 |n+1,m+1,v,h1,h2=>by
  simp only [d2n]
  rw [a7m (l:=v.List_) fun x hx=>b19 n m x (by have:=szL hx; omega) (by have:=szL hx; omega)]
  rw [a7m (l:=v.Pairs) fun x hx=>by rw [b19 n m x.1 (by have:=szP hx; omega) (by have:=szP hx; omega),b19 n m x.2 (by have:=szP hx; omega) (by have:=szP hx; omega)]]
  rw [a7m (l:=v.Slots) fun x hx=>b19 n m x.2 (by have:=szS hx; omega) (by have:=szS hx; omega)]
noncomputable def cV (v:A0):a01:=d2n (SizeOf.sizeOf v) v
noncomputable abbrev cP (x:A0 × A0):a01:=(cV x.1).add (cV x.2)
noncomputable abbrev cS (x:Int × A0):a01:=cV x.2
theorem d3q (v:A0):cV v=e7g v ((b6m cV v.List_).add ((b6m cP v.Pairs).add (b6m cS v.Slots))):=by
 have h0:=szV v
 obtain ⟨n,hn⟩:∃n,SizeOf.sizeOf v=n+1:=⟨SizeOf.sizeOf v - 1,by omega⟩
 rw [cV,hn]
 simp only [d2n]
 rw [a7m (l:=v.List_) (g:=cV) fun x hx=>b19 n _ x (by have:=szL hx; omega) (Nat.le_refl _)]
 rw [a7m (l:=v.Pairs) (g:=cP) fun x hx=>by rw [b19 n _ x.1 (by have:=szP hx; omega) (Nat.le_refl _),b19 n _ x.2 (by have:=szP hx; omega) (Nat.le_refl _)]; rfl]
 rw [a7m (l:=v.Slots) (g:=cS) fun x hx=>b19 n _ x.2 (by have:=szS hx; omega) (Nat.le_refl _)]
theorem ScO.cost {p:A5} {k t:Int} {y:A0} (h:ScO p k t y):cV y=⟨0,1,y.Text.size⟩:=by
 obtain ⟨a,b,c,d⟩:=h.lone
 have hk:=h.kind
 have hf:=h.fit
 have hn:y.Kind≠10:=by
  rw [<-hk] at hf
  have:=(d06 y hf).2.1
  omega
 rw [d3q,a,b,c,e7g,if_neg hn,d]
 simp [b6m,a01.add,a01.none]
def ElO (p:A5) (B:Int ->A0 ->Prop) (k t:Int) (y:A0):Prop:=(k=10 ->B t y) /\ (k≠10 ->ScO p k t y)
section
variable {m:Nat} {p:A5} {W:c9t} {B:Int ->A0 ->Prop} {M:RdM} (hM:∀t y,B t y ->Rds m (W t y) (cV y) y (M t))
theorem Rds.sc {k t:Int} {y:A0} (h:ScO p k t y) (hk:k≠10):Rds m (d24 y) (cV y) y (elR M p k t):=by
 have e:elR M p k t=fun c=>E1 (spR c) fun _ c=>scR p k t c:=by funext c; rw [elR,if_neg hk]
 rw [e]
 refine (Rds.bind Rds.spend (Rds.scal h)).of (e19 _) ?_
 rw [h.cost]; simp [a01.add]
 include hM
theorem Rds.el {o:GOp} {y:A0} (h:ElO p B o.Kind o.Target y):Rds m (b3c W o y) (cV y) y (elR M p o.Kind o.Target):=by
 unfold b3c
 split
 ·rename_i hk
  have e:elR M p o.Kind o.Target=M o.Target:=by funext c; rw [elR,if_pos hk]
  rw [e]
  exact hM _ _ (h.1 hk)
 ·rename_i hk
  exact Rds.sc (h.2 hk) hk
theorem Rds.ls {o:GOp}:∀l:List A0,(∀y∈l,ElO p B o.Kind o.Target y) ->Rds m (c69 (l.map (b3c W o))) (b6m cV l) l (lsR M p o.Kind o.Target l.length)
 |[],_=>Rds.pure []
 |x::l,h=>by
  have e:lsR M p o.Kind o.Target (x::l).length=fun c=>E1 (elR M p o.Kind o.Target c) fun x c=>E1 (lsR M p o.Kind o.Target l.length c) fun l c=>.ok (x::l,c):=by funext c; rw [List.length_cons,lsR]
  rw [e]
  exact Rds.bind (Rds.el hM (h x (by simp))) (Rds.map (Rds.ls l fun y hy=>h y (by simp [hy])) (fun l=>x::l) rfl)
theorem Rds.pr {o:GOp} (hk:o.Key≠10):∀(l:List (A0 × A0)) (a:Option A0),(∀x∈l,ScO p o.Key (-1) x.1 /\ ElO p B o.Kind o.Target x.2) ->(∀b,a=some b ->∀x∈l,a1z (SizeOf.sizeOf b) b x.1<0) ->l.Pairwise (fun x y=>a1z (SizeOf.sizeOf x.1) x.1 y.1<0) ->Rds m (c69 (l.map (c33 W o))) (b6m cP l) l (prR M p o.Key o.Kind o.Target l.length a)
 |[],a,_,_,_=>by
  have e:prR M p o.Key o.Kind o.Target ([]:List (A0 × A0)).length a=fun c=>.ok ([],c):=by funext c; rw [List.length_nil,prR]
  rw [e]
  exact Rds.pure []
 |x::l,a,h,ha,hl=>by
  obtain ⟨h1,h2⟩:=h x (by simp)
  obtain ⟨q1,q2⟩:=List.pairwise_cons.1 hl
  have hu:upK a x.1:=by
   cases a with
   |none=>rfl
   |some b=>exact decide_eq_true (ha b rfl x (by simp))
  have e:prR M p o.Key o.Kind o.Target (x::l).length a=fun c=>E1 (elR M p o.Key (-1) c) fun x c=>if upK a x then E1 (elR M p o.Kind o.Target c) fun y c=>E1 (prR M p o.Key o.Kind o.Target l.length (some x) c) fun l c=>.ok ((x,y)::l,c) else .error 5:=by funext c; rw [List.length_cons,prR]
  rw [e]
  have ih:=Rds.pr hk l (some x.1) (fun y hy=>h y (by simp [hy])) (fun b hb y hy=>by cases hb; exact q1 y hy) q2
  have h3:=Rds.bind (Rds.el hM h2) (g:=fun y c=>E1 (prR M p o.Key o.Kind o.Target l.length (some x.1) c) fun l c=>.ok ((x.1,y)::l,c)) (Rds.map ih (fun l=>x::l) rfl)
  refine (Rds.bind (Rds.sc h1 hk) (b':=b3c W o x.2++c69 (l.map (c33 W o))) (k':=(cV x.2).add (b6m cP l)) ?_).of ?_ (a01.add_assoc _ _ _).symm
  ·have e2:(fun c=>if upK a x.1 then E1 (elR M p o.Kind o.Target c) fun y c=>E1 (prR M p o.Key o.Kind o.Target l.length (some x.1) c) fun l c=>.ok ((x.1,y)::l,c) else .error 5)=fun c=>E1 (elR M p o.Kind o.Target c) fun y c=>E1 (prR M p o.Key o.Kind o.Target l.length (some x.1) c) fun l c=>.ok ((x.1,y)::l,c):=by funext c; rw [if_pos hu]
   rw [e2]; exact h3
  ·rw [List.map_cons,c69,c33,b2x]
end
theorem Rds.cn {m:Nat} (u:Nat) (hu:u<=4096):Rds m (b3e u) ⟨0,if 0<u then 1 else 0,0⟩ (u:Int) cnR:=by
 have e:cnR=fun c=>E1 (toR (T3 c)) fun u c=>if 4096<u then .error 3 else if 0<u then E1 (spR c) fun _ c=>.ok (u,c) else .ok (u,c):=rfl
 rw [e]
 by_cases h:0<u
 ·rw [if_pos h]
  refine (Rds.bind (Rds.num u (by omega)) (b':=⟨#[]⟩) (k':=⟨0,1,0⟩) (y:=(u:Int)) ?_).of (c8y _) (a01.none_add _)
  have e2:(fun c=>if 4096<(u:Int) then .error 3 else if 0<(u:Int) then E1 (spR c) fun _ c=>.ok ((u:Int),c) else .ok ((u:Int),c):A3 ->Rs Int)=fun c=>E1 (spR c) fun _ c=>.ok ((u:Int),c):=by
   funext c; rw [if_neg (by omega),if_pos (by omega)]
  rw [e2]
  exact Rds.fin Rds.spend _ fun c=>rfl
 ·rw [if_neg h]
  refine Rds.fin (Rds.num u (by omega)) _ fun c=> ?_
  rw [if_neg (by omega),if_neg (by omega)]
def RfF (p:A5) (B:Int ->A0 ->Prop) (o:GOp) (z:A0):Prop:=
 (o.Card=4 ->z=⟨11,0,⟨#[]⟩,z.List_,[],[],[]⟩ /\ z.List_≠[] /\ z.List_.length<=4096 /\ ∀y∈z.List_,ElO p B o.Kind o.Target y) /\
 (o.Card=5 ->z=⟨12,0,⟨#[]⟩,[],z.Pairs,[],[]⟩ /\ z.Pairs≠[] /\ z.Pairs.length<=4096 /\ o.Key≠10 /\ (∀x∈z.Pairs,ScO p o.Key (-1) x.1 /\ ElO p B o.Kind o.Target x.2) /\ z.Pairs.Pairwise (fun x y=>a1z (SizeOf.sizeOf x.1) x.1 y.1<0)) /\
 (o.Card≠4 ->o.Card≠5 ->ElO p B o.Kind o.Target z /\ (o.Card=3 ->b7g z=false))
theorem d91 (b:UInt8):(⟨#[b]⟩:ByteArray)=ofI [(b.toNat:Int)]:=by
 unfold ofI
 simp
section
variable {m:Nat} {p:A5} {W:c9t} {B:Int ->A0 ->Prop} {M:RdM} (hM:∀t y,B t y ->Rds m (W t y) (cV y) y (M t)) {g:B6}
theorem Rds.unset (sl:List (Int × A0)) (o:GOp) (h1:o.Card≠1):∃z,Rds m (b6f W o V0 false) .none (z,false) (fdR M p g sl o):=by
 by_cases h4:o.Card=4
 ·have e:fdR M p g sl o=fun c=>E1 (cnR c) fun n c=>E1 (lsR M p o.Kind o.Target n.toNat c) fun l c=>.ok ((⟨11,0,⟨#[]⟩,l,[],[],[]⟩, !l.isEmpty),c):=by funext c; rw [fdR,if_neg h1,if_pos h4]
  refine ⟨⟨11,0,⟨#[]⟩,[],[],[],[]⟩, ?_⟩
  rw [e]
  refine (Rds.fin (Rds.cn 0 (by omega)) _ fun c=>rfl).of ?_ rfl
  unfold b6f
  rw [if_pos h4]
  exact (c8y _).symm
 by_cases h5:o.Card=5
 ·have e:fdR M p g sl o=fun c=>E1 (cnR c) fun n c=>E1 (prR M p o.Key o.Kind o.Target n.toNat none c) fun l c=>.ok ((⟨12,0,⟨#[]⟩,[],l,[],[]⟩, !l.isEmpty),c):=by funext c; rw [fdR,if_neg h1,if_neg h4,if_pos h5]
  refine ⟨⟨12,0,⟨#[]⟩,[],[],[],[]⟩, ?_⟩
  rw [e]
  refine (Rds.fin (Rds.cn 0 (by omega)) _ fun c=> ?_).of ?_ rfl
  ·rw [Int.toNat_natCast,prR]; rfl
  unfold b6f
  rw [if_neg h4,if_pos h5]
  exact (c8y _).symm
 ·have e:fdR M p g sl o=fun c=>E1 (toR (a3k c)) fun b c=>if 1<b then .error 5 else if b=0 then .ok ((V0,false),c) else if c5u g sl o=true then .error 15
   else E1 (elR M p o.Kind o.Target c) fun x c=>if o.Card=3 /\ b7g x=true then .error 5 else .ok ((x,true),c):=by funext c; rw [fdR,if_neg h1,if_neg h4,if_neg h5,myR]
  refine ⟨V0, ?_⟩
  rw [e]
  refine (Rds.fin (Rds.byte 0 (by omega)) _ fun c=>rfl).of ?_ rfl
  unfold b6f
  rw [if_neg h4,if_neg h5,if_neg h1,if_neg (by decide)]
  exact (d91 0).symm
 include hM
theorem Rds.set (sl:List (Int × A0)) (o:GOp) (z:A0) (h:RfF p B o z) (hj:c5u g sl o=false):Rds m (b6f W o z true) (cV z) (z,true) (fdR M p g sl o):=by
 obtain ⟨h4,h5,h6⟩:=h
 unfold b6f
 by_cases c4:o.Card=4
 ·obtain ⟨ez,hne,hlen,hel⟩:=h4 c4
  rw [if_pos c4]
  have e:fdR M p g sl o=fun c=>E1 (cnR c) fun n c=>E1 (lsR M p o.Kind o.Target n.toNat c) fun l c=>.ok ((⟨11,0,⟨#[]⟩,l,[],[],[]⟩, !l.isEmpty),c):=by funext c; rw [fdR,if_neg (by omega),if_pos c4]
  rw [e]
  generalize z.List_=l at*
  subst ez
  have hl:0<l.length:=List.length_pos_iff.2 hne
  refine (Rds.bind (Rds.cn l.length hlen) (b':=c69 (l.map (b3c W o))) (k':=b6m cV l) ?_).of rfl ?_
  ·refine Rds.fin (Rds.ls hM l hel) (f:=lsR M p o.Kind o.Target l.length) _ fun c=> ?_
   have:l.isEmpty=false:=by cases l<;>simp_all
   rw [this]; rfl
  ·rw [d3q,e7g]
   simp only [a01.add,b6m,a01.none,if_pos hl,a01.mk.injEq]
   refine ⟨?_, ?_, ?_⟩
   ·rw [if_neg (by decide)]; omega
   ·simp; omega
   ·have:(⟨#[]⟩:ByteArray).size=0:=rfl
    omega
 by_cases c5:o.Card=5
 ·obtain ⟨ez,hne,hlen,hk,hel,hup⟩:=h5 c5
  rw [if_neg c4,if_pos c5]
  have e:fdR M p g sl o=fun c=>E1 (cnR c) fun n c=>E1 (prR M p o.Key o.Kind o.Target n.toNat none c) fun l c=>.ok ((⟨12,0,⟨#[]⟩,[],l,[],[]⟩, !l.isEmpty),c):=by funext c; rw [fdR,if_neg (by omega),if_neg c4,if_pos c5]
  rw [e]
  generalize z.Pairs=l at*
  subst ez
  have hl:0<l.length:=List.length_pos_iff.2 hne
  refine (Rds.bind (Rds.cn l.length hlen) (b':=c69 (l.map (c33 W o))) (k':=b6m cP l) ?_).of rfl ?_
  ·refine Rds.fin (Rds.pr hM hk l none hel (fun b hb=>by cases hb) hup) (f:=prR M p o.Key o.Kind o.Target l.length none) _ fun c=> ?_
   have:l.isEmpty=false:=by cases l<;>simp_all
   rw [this]; rfl
  ·rw [d3q,e7g]
   simp only [a01.add,b6m,a01.none,if_pos hl,a01.mk.injEq]
   refine ⟨?_, ?_, ?_⟩
   ·rw [if_neg (by decide)]; omega
   ·simp; omega
   ·have:(⟨#[]⟩:ByteArray).size=0:=rfl
    omega
 obtain ⟨hel,hz⟩:=h6 c4 c5
 rw [if_neg c4,if_neg c5]
 by_cases c1:o.Card=1
 ·rw [if_pos c1]
  have e:fdR M p g sl o=fun c=>E1 (elR M p o.Kind o.Target c) fun x c=>.ok ((x,true),c):=by funext c; rw [fdR,if_pos c1]
  rw [e]
  exact Rds.fin (Rds.el hM hel) _ fun c=>rfl
 ·rw [if_neg c1,if_pos rfl]
  have e:fdR M p g sl o=fun c=>E1 (toR (a3k c)) fun b c=>if 1<b then .error 5 else if b=0 then .ok ((V0,false),c) else if c5u g sl o=true then .error 15
   else E1 (elR M p o.Kind o.Target c) fun x c=>if o.Card=3 /\ b7g x=true then .error 5 else .ok ((x,true),c):=by funext c; rw [fdR,if_neg c1,if_neg c4,if_neg c5,myR]
  rw [e]
  refine (Rds.bind (Rds.byte 1 (by omega)) (b':=b3c W o z) (k':=cV z) ?_).of (by rw [d91 1]; rfl) (a01.none_add _)
  have e2:(fun c=>if (1:Int)<1 then .error 5 else if (1:Int)=0 then .ok ((V0,false),c) else if c5u g sl o=true then .error 15
   else E1 (elR M p o.Kind o.Target c) fun x c=>if o.Card=3 /\ b7g x=true then .error 5 else .ok ((x,true),c):A3 ->Rs (A0 × Bool))=fun c=>E1 (elR M p o.Kind o.Target c) fun x c=>if o.Card=3 /\ b7g x=true then .error 5 else .ok ((x,true),c):=by
   funext c; rw [if_neg (by decide),if_neg (by decide),if_neg (by rw [hj]; simp)]
  rw [e2]
  refine Rds.fin (Rds.el hM hel) _ fun c=> ?_
  rw [if_neg]
  rintro ⟨q1,q2⟩
  rw [hz q1] at q2; cases q2
def Uni (g:B6) (a b:Int × A0):Prop:=0<=(opV g b.1).1.Union ->(opV g a.1).1.Union≠(opV g b.1).1.Union
theorem Rds.ops (hop:∀o∈g.Ops,opV g o.Num=(o,true)):∀(ops:List GOp) (sl S:List (Int × A0)),(∀o∈ops,o∈g.Ops) ->b6q (RfF p B) ops S ->(sl++S).Pairwise (Uni g) ->Rds m (b1k W ops S) (b6m cS S) (sl++S) (c7p M p g ops sl)
 |[],sl,S,_,h,_=>by
  have e:S=[]:=h
  subst e
  have e2:c7p M p g [] sl=fun c=>.ok (sl,c):=by funext c; rw [c7p]
  rw [e2,List.append_nil]
  exact Rds.pure sl
 |o::ops,sl,S,ho,h,hu=>by
  have e:c7p M p g (o::ops) sl=fun c=>E1 (fdR M p g sl o c) fun x c=>c7p M p g ops (if x.2=true then sl++[(o.Num,x.1)] else sl) c:=by funext c; rw [c7p]
  rw [e]
  have ho':∀q∈ops,q∈g.Ops:=fun q hq=>ho q (by simp [hq])
  have not:∀S,b6q (RfF p B) ops S ->o.Card≠1 ->(sl++S).Pairwise (Uni g) ->Rds m (b6f W o V0 false++b1k W ops S) (b6m cS S) (sl++S) fun c=>E1 (fdR M p g sl o c) fun x c=>c7p M p g ops (if x.2=true then sl++[(o.Num,x.1)] else sl) c:=fun S hS h1 hu=>by
   obtain ⟨z,hz⟩:=Rds.unset (m:=m) (p:=p) (W:=W) (M:=M) (g:=g) sl o h1
   refine (Rds.bind hz (b':=b1k W ops S) (k':=b6m cS S) ?_).of rfl (a01.none_add _)
   exact Rds.ops hop ops sl S ho' hS hu
  cases S with
  |nil=>exact not [] h.2 h.1 hu
  |cons s S=>
   simp only [b1k]
   split
   ·rename_i he
    obtain ⟨h1,h2⟩:=h.1 he
    have hj:c5u g sl o=false:=by
     rw [c5u,List.any_eq_false]
     intro a ha hb
     have hp:=(List.pairwise_append.1 hu).2.2 a ha s (by simp)
     unfold Uni at hp
     rw [he,hop o (ho o (by simp))] at hp
     simp only [Bool.and_eq_true,decide_eq_true_eq] at hb
     exact hp hb.2.1 hb.2.2
    refine (Rds.bind (Rds.set hM sl o s.2 h1 hj) (b':=b1k W ops S) (k':=b6m cS S) (y:=sl++s::S) ?_).of rfl rfl
    have e3:sl++s::S=(sl++[(o.Num,s.2)])++S:=by rw [<-he]; simp
    rw [e3] at hu ⊢
    exact Rds.ops hop ops (sl++[(o.Num,s.2)]) S ho' h2 hu
   ·rename_i he
    obtain ⟨h1,h2⟩:=h.2 he
    exact not (s::S) h2 h1 hu
end
def RfV (p:A5):Nat ->Int ->A0 ->Prop
 |0,_,_=>False
 |n+1,t,x=>∃g,p.Progs[t.toNat]? =some g /\ 0<=t /\ x=⟨10,0,⟨#[]⟩,[],[],x.Slots,[]⟩ /\ b6q (RfF p (RfV p n)) g.Ops x.Slots /\ x.Slots.Pairwise (Uni g)
theorem c62 {c:A3} (h:Snd c) (hd:1<=c.Depth):Snd (a7z c 1):=by
 have:=h.d1
 exact ⟨h.sz,h.a0,h.a1,h.a2,by simp only [a7z]; omega,by simp only [a7z]; omega,h.n0,h.n1⟩
theorem f3h {p:A5} (hp:OkX p):∀(n m:Nat) (t:Int) (x:A0),RfV p n t x ->Rds m (a3s p n t x) (cV x) x (msR p m t)
 |0,_,_,_,h=>h.elim
 |n+1,m,t,x,⟨g,hgt,ht,ex,hm,hu⟩=>by
  have hg:g∈p.Progs:=List.mem_of_getElem? hgt
  have eb:a3s p (n+1) t x=b1k (a3s p n) g.Ops x.Slots:=by simp only [a3s,hgt]
  rw [eb]
  have ec:cV x=⟨(b6m cS x.Slots).d+1,(b6m cS x.Slots).n+1,(b6m cS x.Slots).l⟩:=by
   rw [ex,d3q]
   have:(⟨#[]⟩:ByteArray).size=0:=rfl
   simp [e7g,b6m,a01.none,a01.add,this]
  intro c hc htx hd hpre
  have d0:=hc.d0; have n0:=hc.n0
  cases m with
  |zero=>exact .inr (.inl ⟨rfl,by rw [ec]; simp only; omega⟩)
  |succ m=>
   rw [msR]
   by_cases h1:c.Depth<1
   ·rw [if_pos h1]
    exact .inr (.inl ⟨rfl,by rw [ec]; simp only; omega⟩)
   rw [if_neg h1,spR]
   by_cases h2:c.Nodes<1
   ·rw [if_pos h2]
    exact .inr (.inr ⟨rfl,by rw [ec]; simp only; omega⟩)
   rw [if_neg h2]
   simp only [E1,hgt]
   have s1:=c62 (hc.adv (k:=0) (n:=1) (by have:=hc.a1; omega) (by omega)) (show 1<=(adv c 0 1).Depth by simp only [adv]; omega)
   have er:O4 (a7z (adv c 0 1) 1)=O4 c:=by
    simp only [O4,a7z,adv,Int.add_zero]
   have h3:=Rds.ops (m:=m) (p:=p) (W:=a3s p n) (M:=msR p m) (g:=g) (fun t y h=>f3h hp n m t y h) (fun o ho=>e3f hp hg ho) g.Ops [] x.Slots (fun o h=>h) hm (by simpa using hu) (a7z (adv c 0 1) 1) s1 htx (by simp only [a7z,adv]; omega) (by unfold Ahd at hpre ⊢; rw [er]; exact hpre)
   unfold Whl at*
   cases hr:c7p (msR p m) p g g.Ops [] (a7z (adv c 0 1) 1) with
   |error e=>
    rw [hr] at h3
    simp only [Got,Whl,er] at h3 ⊢
    rw [ec]
    simp only [a7z,adv] at h3 ⊢
    rcases h3 with ⟨e1,q⟩|⟨e1,q⟩|⟨e1,q⟩
    ·exact .inl ⟨e1,q⟩
    ·exact .inr (.inl ⟨e1,by omega⟩)
    ·exact .inr (.inr ⟨e1,by omega⟩)
   |ok y=>
    rw [hr] at h3
    simp only [Got,Whl,er] at h3 ⊢
    obtain ⟨rfl,q1,q2,q3,q4⟩:=h3
    rw [ec]
    simp only [a7z,adv] at q2 q3 q4 ⊢
    refine ⟨?_,q1,by omega,by omega,by omega⟩
    refine Prod.ext ex.symm ?_
    simp only [A3.mk.injEq,true_and,and_true]
    omega
theorem d3s {p:A5} {k t:Int} {y:A0} (h:d29 p k t y=0):y.Kind=k /\ y.Text.size<=4096 /\ a9h k y=true /\ (k=9 ->d7t p t y.Bits=true):=by
 unfold d29 at h
 split at h
 ·exact absurd h (by decide)
 rename_i h1
 split at h
 ·exact absurd h (by decide)
 rename_i h2
 split at h
 ·exact absurd h (by decide)
 split at h
 ·exact absurd h (by decide)
 rename_i h4
 split at h
 ·exact absurd h (by decide)
 rename_i h5
 simp only [Bool.or_eq_true,bne_iff_ne,ne_eq,not_or,Decidable.not_not] at h1
 refine ⟨h1.1,by omega,by simpa using h4,fun hk=> ?_⟩
 subst hk
 simpa using h5
theorem e7z {k:Int} {y:A0} (h:a9h k y=true):y.List_=[] /\ y.Pairs=[] /\ y.Slots=[] /\ y.Raws=[]:=by
 unfold a9h at h
 simp only [Bool.and_eq_true] at h
 have h2:=h.1.2
 simp only [c34,decide_eq_true_eq,List.length_eq_zero_iff] at h2
 exact h2
theorem e6c {p:A5} {k t:Int} {y:A0} (h:d29 p k t y=0) (hy:OkV y):ScO p k t (a1e y) /\ (a1e y).Text.size<=4096:=by
 obtain ⟨h1,h2,h3,h4⟩:=d3s h
 have hl:=e7z h3
 have hb:=d0b y hy
 by_cases hc:y.Kind=6 /\ f84 y.Bits.toNat=0
 ·have k6:k=6:=by omega
  subst k6
  have e:a1e y=⟨y.Kind,9221120237041090560,y.Text,y.List_,y.Pairs,y.Slots,y.Raws⟩:=by unfold a1e; rw [if_pos hc]
  rw [e]
  refine ⟨⟨?_,h1, ?_,fun h=>absurd h (by decide),⟨show (0:Int)<=9221120237041090560 by decide,show (9221120237041090560:Int)<18446744073709551616 by decide⟩,hl⟩,h2⟩
  ·unfold a9h at h3 ⊢
   rw [if_neg (by decide)] at h3 ⊢
   simp only [Bool.and_eq_true] at h3 ⊢
   exact ⟨h3.1,h3.2.1,rfl⟩
  ·unfold a1e
   rw [if_pos ⟨h1,g1p⟩]
 ·have e:a1e y=y:=by unfold a1e; rw [if_neg hc]
  rw [e]
  exact ⟨⟨h3,h1,e,h4,⟨hy.b0,hy.b1⟩,hl⟩,h2⟩
theorem e29 {y:A0} (h:y.Kind≠6):a1e y=y:=by unfold a1e; rw [if_neg (fun q=>h q.1)]
theorem f0v {n:Nat} (a b:A0) (ha:isS a.Kind=true):a1z (n+1) a b=a1z (SizeOf.sizeOf a) a b:=by
 have h0:=szV a
 obtain ⟨m,hm⟩:∃m,SizeOf.sizeOf a=m+1:=⟨SizeOf.sizeOf a - 1,by omega⟩
 rw [hm,a1z,a1z,if_pos ha,if_pos ha]
theorem d5z {R:GOp ->A0 ->Prop} {T:A0 ->Prop} (hT:∀o z,R o z ->T z):∀{ops:List GOp} {S:List (Int × A0)},b6q R ops S ->∀s∈S,T s.2
 |[],S,h,s,hs=>by have e:S=[]:=h; rw [e] at hs; cases hs
 |o::ops,[],_,s,hs=>by cases hs
 |o::ops,x::S,h,s,hs=>by
  by_cases he:x.1=o.Num
  ·obtain ⟨h1,h2⟩:=h.1 he
   rcases List.mem_cons.1 hs with q|q
   ·subst q; exact hT _ _ h1
   ·exact d5z hT h2 s q
  ·exact d5z hT (h.2 he).2 s hs
theorem d6w {R:GOp ->A0 ->Prop}:∀{ops:List GOp} {S:List (Int × A0)},ops.Pairwise (fun a b=>a.Num<b.Num) ->b6q R ops S ->S.Pairwise (fun a b=>a.1<b.1)
 |[],S,_,h=>by have e:S=[]:=h; rw [e]; exact List.Pairwise.nil
 |o::ops,[],_,_=>List.Pairwise.nil
 |o::ops,x::S,ha,h=>by
  obtain ⟨q1,q2⟩:=List.pairwise_cons.1 ha
  by_cases he:x.1=o.Num
  ·obtain ⟨_,h2⟩:=h.1 he
   refine List.pairwise_cons.2 ⟨fun s hs=> ?_,d6w q2 h2⟩
   obtain ⟨q,hq,hn⟩:=d11 h2 s hs
   have:=q1 q hq
   omega
  ·exact d6w q2 (h.2 he).2
theorem d82 {α:Type} (f:α ->a01):∀l:List α,(b6m f l).n=a1j (fun x=>(f x).n) l
 |[]=>rfl
 |x::l=>by simp only [b6m,a01.add,a1j,d82 f l]
noncomputable abbrev nV (v:A0):Nat:=(cV v).n
noncomputable abbrev nP (x:A0 × A0):Nat:=nV x.1+nV x.2
noncomputable abbrev nS (x:Int × A0):Nat:=nV x.2
theorem c0t (v:A0):nV v=1+v.Raws.length+a1j nV v.List_+a1j nP v.Pairs+a1j nS v.Slots:=by
 have h1:(b6m cV v.List_).n=a1j nV v.List_:=d82 _ _
 have h2:(b6m cP v.Pairs).n=a1j nP v.Pairs:=d82 _ _
 have h3:(b6m cS v.Slots).n=a1j nS v.Slots:=d82 _ _
 show (cV v).n=_
 rw [d3q]
 simp only [e7g,a01.add]
 omega
theorem f29 (v:A0):1<=nV v:=by rw [c0t]; omega
theorem f23 (v:A0):(∀x∈v.List_,nV x<=nV v) /\ (∀x∈v.Pairs,nV x.1+nV x.2<=nV v) /\ (∀x∈v.Slots,nV x.2<=nV v):=by
 have e:=c0t v
 refine ⟨fun x hx=> ?_,fun x hx=> ?_,fun x hx=> ?_⟩
 ·have:=b85 nV hx; omega
 ·have:=b85 nP hx; simp only [nP] at this; omega
 ·have:=b85 nS hx; simp only [nS] at this; omega
theorem f6h (v:A0):v.List_.length<=nV v /\ v.Pairs.length<=nV v:=by
 have e:=c0t v
 have h1:=b2j nV 1 (l:=v.List_) fun x _=>f29 x
 have h2:=b2j nP 1 (l:=v.Pairs) fun x _=>by have:=f29 x.1; simp only [nP]; omega
 omega
theorem d3g:∀(n:Nat) (v:A0),SizeOf.sizeOf v<=n ->a2u n v=(nV v:Int)
 |0,v,h=>by have:=szV v; omega
 |n+1,v,h=>by
  have key:∀{α:Type} (f:α ->Int) (g:α ->Nat) (l:List α),(∀x∈l,f x=(g x:Int)) ->(l.map f).sum=(a1j g l:Int):=by
   intro α f g l
   induction l with
   |nil=>intro _; rfl
   |cons x l ih=>
    intro h
    have h1:=h x (by simp)
    have h2:=ih fun y hy=>h y (by simp [hy])
    simp only [List.map_cons,List.sum_cons,a1j]
    omega
  have h1:=key (a2u n) nV v.List_ fun x hx=>d3g n x (by have:=szL hx; omega)
  have h2:=key (fun x:A0 × A0=>a2u n x.1+a2u n x.2) nP v.Pairs fun x hx=>by
   have a:=d3g n x.1 (by have:=szP hx; omega)
   have b:=d3g n x.2 (by have:=szP hx; omega)
   simp only [nP]; omega
  have h3:=key (fun x:Int × A0=>a2u n x.2) nS v.Slots fun x hx=>d3g n x.2 (by have:=szS hx; omega)
  have e:=c0t v
  simp only [a2u]
  omega
theorem d8p (v:A0):nV (a1e v)=nV v:=by
 unfold a1e
 split
 ·rw [c0t,c0t]
 ·rfl
section
variable {N:c9o} (hN:∀t v,nV (N t v)<=nV v)
 include hN
theorem d28 (o:GOp) (v:A0):nV (a9f N o v)<=nV v:=by
 unfold a9f
 split
 ·exact hN _ _
 ·rw [d8p]; omega
theorem e9q (o:GOp) (v:A0):nV (b1y N o v)<=nV v:=by
 have e:=c0t v
 unfold b1y
 split
 ·rw [c0t ⟨11,_,_,_,_,_,_⟩]
  have h:=b9w (l:=v.List_) (f:=fun x=>nV (a9f N o x)) (g:=nV) fun x _=>d28 hN o x
  simp only [b5v,a1j,List.length_nil]
  omega
 split
 ·rw [c0t ⟨12,_,_,_,_,_,_⟩]
  have h:=b9w (l:=b58 v.Pairs) (f:=fun x=>nP (a1e x.1,a9f N o x.2)) (g:=nP) fun x _=>by
   have a:=d28 hN o x.2
   have b:=d8p x.1
   simp only [nP]; omega
  have h2:=b3g (c:=kc (SizeOf.sizeOf v.Pairs)) nP v.Pairs
  simp only [b5v,a1j,List.length_nil]
  have e2:a1j nP (b58 v.Pairs)<=a1j nP v.Pairs:=h2
  omega
 ·exact d28 hN o v
theorem f14 (g:B6) (v:A0):nV (c2i N g v)<=nV v:=by
 have e:=c0t v
 have h:=c7d (l:=V6 kn v.Slots) (f:=nS) (g:=nS) (h:=fun x=>b31 N (opV g x.1).1 x.1 x.2) fun x _=>by
  have a:=e9q hN (opV g x.1).1 x.2
  simp only [b31]
  split
  ·simp only [a1j,nS]; omega
  ·simp [a1j]
 have h2:=b3g (c:=kn) nS v.Slots
 have h3:(sC kr v.Raws).length=v.Raws.length:=(c8s v.Raws).length_eq
 rw [c2i,c0t ⟨10,_,_,_,_,_,_⟩]
 simp only [a1j]
 omega
end
theorem e53 (p:A5):∀(n:Nat) (t:Int) (v:A0),nV (J2 p n t v)<=nV v
 |0,t,v=>by
  have e:=c0t v
  have:nV (J2 p 0 t v)=1:=by rw [c0t]; rfl
  omega
 |n+1,t,v=>by
  simp only [J2]
  split
  ·have e:=c0t v
   have:nV (⟨0,0,⟨#[]⟩,[],[],[],[]⟩:A0)=1:=by rw [c0t]; rfl
   omega
  ·exact f14 (e53 p n) _ v
def Lim (lev:Int) (k:a01):Prop:=(k.d:Int)+lev<=17 /\ k.l<=4096
theorem Lim.add {e:Int} {a b:a01} (h:Lim e a) (h2:Lim e b):Lim e (a.add b):=by
 unfold Lim at*
 simp only [a01.add]
 omega
theorem Lim.none {e:Int} (h:e<=17):Lim e .none:=⟨by simp only [a01.none]; omega,by simp only [a01.none]; omega⟩
theorem Lim.sum {α:Type} {e:Int} (he:e<=17) {f:α ->a01}:∀{l:List α},(∀x∈l,Lim e (f x)) ->Lim e (b6m f l)
 |[],_=>Lim.none he
 |x::l,h=>(h x (by simp)).add (Lim.sum he fun y hy=>h y (by simp [hy]))
theorem Lim.sc {e:Int} (he:e<=17) {p:A5} {k t:Int} {y:A0} (h:ScO p k t y) (hs:y.Text.size<=4096):Lim e (cV y):=by
 rw [h.cost]; exact ⟨by simp only; omega,hs⟩
theorem c8k:(⟨#[]⟩:ByteArray).size=0:=rfl
theorem Lim.top {e:Int} (v:A0) (hk:v.Kind≠10) (ht:v.Text.size<=4096) {k:a01} (h:Lim e k):Lim e (e7g v k):=by
 unfold Lim at*
 simp only [e7g,if_neg hk]
 omega
theorem e4d {M:d90} {p:A5} {g:B6} {v:A0} {lev:Int} (h:e8p M p g v lev=0):v.Slots.Pairwise fun a b=>¬((opV g a.1).1.Union=(opV g b.1).1.Union /\ (opV g b.1).1.Union≠ -1):=by
 unfold e8p at h
 split at h
 ·exact absurd h (by decide)
 split at h
 ·exact absurd h (by decide)
 obtain ⟨h3,_⟩:=b8k h
 rw [List.pairwise_iff_getElem]
 intro i j hi hj hij ⟨e1,e2⟩
 have:=b61 0 h3 j (Nat.zero_le _) hj
 simp only [d1e,List.getElem?_eq_getElem hj] at this
 split at this
 ·exact absurd this (by decide)
 split at this
 ·exact absurd this (by decide)
 split at this
 ·exact absurd this (by decide)
 rename_i q
 refine q (List.any_eq_true.2 ⟨v.Slots[i], ?_, ?_⟩)
 ·rw [List.mem_take_iff_getElem]
  exact ⟨i,by omega,rfl⟩
 ·simp only [Bool.and_eq_true,bne_iff_ne,ne_eq,beq_iff_eq]
  exact ⟨e2,e1⟩
section
variable {p:A5} (hp:OkX p)
 include hp
theorem e4x:∀(n:Nat) (t:Int) (g:B6) (v:A0) (lev:Int),p.Progs[t.toNat]? =some g ->0<=t ->OkD v ->SizeOf.sizeOf v<=n ->b6i p n t v lev=0 ->NoX v ->nV v<=4096 ->RfV p n t (J2 p n t v) /\ Lim lev (cV (J2 p n t v))
 |0,t,g,v,lev,_,_,_,h,_,_,_=>by have:=szV v; omega
 |n+1,t,g,v,lev,hgt,ht,hv,hn,hm,hx,hc=>by
  have hg:g∈p.Progs:=List.mem_of_getElem? hgt
  obtain ⟨_,_,_,_,_,hs⟩:=hv.inv
  have e:J2 p (n+1) t v=c2i (J2 p n) g v:=by simp only [J2,hgt]
  simp only [b6i,hgt] at hm
  have hf:=e4u hm
  have hlev:=hf.deep
  have hasc:=c6y (hp.va.asc g hg)
  have hT:=c43 (fun o x=>b31 (J2 p n) o x.1 x.2) g.Ops v.Slots hasc hf.diff fun x hx=>by
   obtain ⟨h1,h2⟩:=d1l (hf.known x hx)
   exact ⟨_,h2,h1⟩
  have es:(J2 p (n+1) t v).Slots=g.Ops.flatMap (c9q (fun o x=>b31 (J2 p n) o x.1 x.2) v.Slots):=by
   rw [e,hT]; rfl
  obtain ⟨x1,x2,_,_⟩:=hx.inv
  have nm:=f23 v
  have hmrg:b6q (fun o z=>RfF p (RfV p n) o z /\ Lim (lev+1) (cV z)) g.Ops (J2 p (n+1) t v).Slots:=by
   rw [es]
   refine e1z _ _ hasc fun o ho=> ?_
   by_cases hex:∃x∈v.Slots,x.1=o.Num
   ·obtain ⟨x,hx,he⟩:=hex
    rw [d2v _ hf.diff hx he]
    have h1:=hf.field x hx
    rw [he,e3f hp hg ho] at h1
    have h1:b1o (b6i p n) p o x.2 lev=0:=h1
    obtain ⟨f4,f5,f6⟩:=c85 h1
    have z1:=szS hx
    have zn:=nm.2.2 x hx
    have hof:=(hp.va.pro g hg).2 _ ho
    obtain ⟨_,_,_,q1,q2,_⟩:=(hs x hx).inv
    obtain ⟨_,_,y2,y3⟩:=(x2 x hx).inv
    have zl:=f6h x.2
    have zm:=f23 x.2
    have elem:∀y,OkD y ->SizeOf.sizeOf y<=n ->b71 (b6i p n) p o y lev=0 ->NoX y ->nV y<=4096 ->ElO p (RfV p n) o.Kind o.Target (a9f (J2 p n) o y) /\ Lim (lev+1) (cV (a9f (J2 p n) o y)):=fun y hy hz h hX hN=>by
     by_cases hk:o.Kind=10
     ·obtain ⟨t0,t1,_⟩:=hof.msg hk
      have hlt:o.Target.toNat<p.Progs.length:=by omega
      have:=e4x n o.Target _ y (lev+1) (List.getElem?_eq_getElem hlt) t0 hy hz (d5v hp h hk) hX hN
      rw [a9f,if_pos hk]
      exact ⟨⟨fun _=>this.1,fun q=>absurd hk q⟩,this.2⟩
     ·rw [b71,if_neg hk] at h
      obtain ⟨s1,s2⟩:=e6c h hy.okv
      rw [a9f,if_neg hk]
      exact ⟨⟨fun q=>absurd q hk,fun _=>s1⟩,Lim.sc (by omega) s1 s2⟩
    simp only [b31]
    split
    ·rename_i hmay
     refine .inr ⟨_,by rw [he],⟨fun hc4=> ?_,fun hc5=> ?_,fun h4 h5=> ?_⟩, ?_⟩
     ·have em:e0d o=true:=by unfold e0d; simp [hc4]
      rw [em] at hmay
      rw [b1y,if_pos hc4] at hmay ⊢
      refine ⟨rfl,fun q=> ?_,by simp only [List.length_map]; omega,fun y hy=> ?_⟩
      ·simp only at q
       rw [q] at hmay
       exact absurd hmay (by decide)
      ·obtain ⟨y',hy',rfl⟩:=List.mem_map.1 hy
       exact (elem y' (q1 y' hy') (by have:=szL hy'; omega) ((f4 hc4).2.2 y' hy') (y2 y' hy') (by have:=zm.1 y' hy'; omega)).1
     ·have em:e0d o=true:=by unfold e0d; simp [hc5]
      rw [em] at hmay
      rw [b1y,if_neg (by omega),if_pos hc5] at hmay ⊢
      have hkey:=hof.key.2 hc5
      have hk6:∀x'∈b58 x.2.Pairs,a1e x'.1=x'.1 /\ isS x'.1.Kind=true:=fun x' hx'=>by
       obtain ⟨a1,a2,a3,a4⟩:=d3s ((f5 hc5).2.2.1 x' (a7k hx')).1
       refine ⟨e29 (by omega), ?_⟩
       unfold isS
       simp only [Bool.and_eq_true,decide_eq_true_eq]
       omega
      refine ⟨rfl,fun q=> ?_, ?_,by omega,fun y hy=> ?_, ?_⟩
      ·simp only at q
       rw [q] at hmay
       exact absurd hmay (by decide)
      ·simp only [List.length_map]
       have:=c4b x.2.Pairs
       omega
      ·obtain ⟨y',hy',rfl⟩:=List.mem_map.1 hy
       have hy2:=a7k hy'
       have hf5:=(f5 hc5).2.2.1 y' hy2
       exact ⟨(e6c hf5.1 (q2 y' hy2).1.okv).1,(elem y'.2 (q2 y' hy2).2 (by have:=szP hy2; omega) hf5.2 (y3 y' hy2) (by have:=zm.2.1 y' hy2; omega)).1⟩
      ·refine List.pairwise_map.2 ?_
       have hst:(b58 x.2.Pairs).Pairwise fun a b=>kc (SizeOf.sizeOf x.2.Pairs) a b<0:=b0g (b10 (g4m _) fun x:A0 × A0=>x.1) _
       refine hst.imp_of_mem fun {a b} ha hb hab=> ?_
       obtain ⟨e1,e2⟩:=hk6 a ha
       obtain ⟨e3,_⟩:=hk6 b hb
       simp only
       rw [e1,e3]
       obtain ⟨m,hm⟩:∃m,SizeOf.sizeOf x.2.Pairs=m+1:=⟨SizeOf.sizeOf x.2.Pairs - 1,by cases x.2.Pairs<;>simp<;>omega⟩
       rw [hm] at hab
       rw [<-f0v (n:=m) _ _ e2]
       exact hab
     ·have hel:=elem x.2 (hs x hx) (by omega) (f6 h4 h5) (x2 x hx) (by omega)
      rw [b1y,if_neg h4,if_neg h5] at hmay ⊢
      refine ⟨hel.1,fun h3=> ?_⟩
      have em:e0d o=true:=by unfold e0d; simp [h3]
      rw [em] at hmay
      have hz:b7n (a9f (J2 p n) o x.2)=false:=by simpa using hmay
      by_cases hk:o.Kind=10
      ·exact absurd h3 (hof.msg hk).2.2
      have hkk:=(hel.1.2 hk).kind
      have hk12:=hof.kind
      unfold b7n at hz
      rw [if_neg (by omega),if_neg (by omega)] at hz
      exact hz
     ·
      unfold b1y
      split
      ·rename_i hc4
       rw [d3q]
       refine Lim.top _ (show (11:Int)≠10 by decide) (show (⟨#[]⟩:ByteArray).size<=4096 by rw [c8k]; omega) ?_
       refine (Lim.sum (by omega) fun y hy=> ?_).add ((Lim.none (by omega)).add (Lim.none (by omega)))
       obtain ⟨y',hy',rfl⟩:=List.mem_map.1 hy
       exact (elem y' (q1 y' hy') (by have:=szL hy'; omega) ((f4 hc4).2.2 y' hy') (y2 y' hy') (by have:=zm.1 y' hy'; omega)).2
      split
      ·rename_i hc5
       rw [d3q]
       refine Lim.top _ (show (12:Int)≠10 by decide) (show (⟨#[]⟩:ByteArray).size<=4096 by rw [c8k]; omega) ?_
       refine (Lim.none (by omega)).add ((Lim.sum (by omega) fun y hy=> ?_).add (Lim.none (by omega)))
       obtain ⟨y',hy',rfl⟩:=List.mem_map.1 hy
       have hy2:=a7k hy'
       have hf5:=(f5 hc5).2.2.1 y' hy2
       obtain ⟨s1,s2⟩:=e6c hf5.1 (q2 y' hy2).1.okv
       exact (Lim.sc (by omega) s1 s2).add (elem y'.2 (q2 y' hy2).2 (by have:=szP hy2; omega) hf5.2 (y3 y' hy2) (by have:=zm.2.1 y' hy2; omega)).2
      ·rename_i h4 h5
       exact (elem x.2 (hs x hx) (by omega) (f6 h4 h5) (x2 x hx) (by omega)).2
    ·rename_i hb
     refine .inl ⟨rfl,fun hc=>hb ?_⟩
     have:e0d o=false:=by unfold e0d; simp [hc]
     rw [this]; rfl
   ·refine .inl ⟨b75 _ fun x hx he=>hex ⟨x,hx,he⟩,fun hc=> ?_⟩
    obtain ⟨x,hx,he⟩:=hf.need o ho hc
    exact hex ⟨x,hx,he⟩
  have er:(J2 p (n+1) t v)=⟨10,0,⟨#[]⟩,[],[],(J2 p (n+1) t v).Slots,[]⟩:=by
   rw [e]; simp only [c2i,x1]; rfl
  refine ⟨⟨g,hgt,ht,er,c55 (fun s _ o h=>h.1) hmrg, ?_⟩, ?_⟩
  ·have ha:=d6w hasc hmrg
   have hu:=e4d hm
   have hany:∀x∈v.Slots,∀y∈v.Slots,x.1≠y.1 ->¬((opV g x.1).1.Union=(opV g y.1).1.Union /\ (opV g y.1).1.Union≠ -1):=by
    intro x hx y hy hne
    obtain ⟨i,hi,rfl⟩:=List.mem_iff_getElem.1 hx
    obtain ⟨j,hj,rfl⟩:=List.mem_iff_getElem.1 hy
    have hp2:=List.pairwise_iff_getElem.1 hu
    rcases Nat.lt_trichotomy i j with q|q|q
    ·exact hp2 i j hi hj q
    ·subst q; exact absurd rfl hne
    ·have:=hp2 j i hj hi q
     intro ⟨a1,a2⟩
     exact this ⟨a1.symm,by omega⟩
   have hmem:∀s∈(J2 p (n+1) t v).Slots,∃x∈v.Slots,x.1=s.1:=by
    intro s hs
    rw [e] at hs
    simp only [c2i] at hs
    obtain ⟨x,hx,h⟩:=List.mem_flatMap.1 hs
    refine ⟨x,a73 _ _ hx, ?_⟩
    unfold b31 at h
    split at h
    ·have:=List.mem_singleton.1 h
     subst this; rfl
    ·cases h
   refine ha.imp_of_mem fun {a b} hA hB hab=> ?_
   obtain ⟨x,hx,e1⟩:=hmem a hA
   obtain ⟨y,hy,e2⟩:=hmem b hB
   have:=hany x hx y hy (by omega)
   rw [e1,e2] at this
   intro h0 h3
   exact this ⟨h3,by omega⟩
  ·rw [er,d3q]
   have h1:=Lim.sum (e:=lev+1) (by omega) (f:=cS) (l:=(J2 p (n+1) t v).Slots) (d5z (fun o z h=>h.2) hmrg)
   have h2:Lim (lev+1) ((b6m cV ([]:List A0)).add ((b6m cP ([]:List (A0 × A0))).add (b6m cS (J2 p (n+1) t v).Slots))):=(Lim.none (by omega)).add ((Lim.none (by omega)).add h1)
   obtain ⟨a1,a2⟩:=h2
   refine ⟨?_, ?_⟩
   ·simp only [e7g,if_pos]; omega
   ·simp only [e7g,c8k]; omega
end
def Fwd {α:Type} (c:A3) (r:Rs α):Prop:=match r with
 |.ok x=>Snd x.2 /\ x.2.Depth=c.Depth
 |.error e=>e≠0
theorem b5x {α β:Type} {r:Rs α} {f:α ->A3 ->Rs β} {z:β × A3} (h:E1 r f=.ok z):∃x c',r=.ok (x,c') /\ f x c'=.ok z:=by
 cases r with
 |error e=>cases h
 |ok x=>exact ⟨x.1,x.2,rfl,h⟩
theorem a2h {α β γ:Type} (r:Rs α) (f:α ->A3 ->Rs β) (g:β ->A3 ->Rs γ):E1 (E1 r f) g=E1 r fun x c=>E1 (f x c) g:=by
 cases r<;>rfl
theorem a3a {α β:Type} (x:α × A3) (f:α ->A3 ->Rs β):E1 (.ok x) f=f x.1 x.2:=rfl
theorem d33 {α:Type} {a:α × A3 × Int} {z:α × A3} (h:toR a=.ok z):a=(z.1,z.2,0):=by
 unfold toR at h
 split at h
 ·cases h
 ·rename_i q
  cases h
  exact Prod.ext rfl (Prod.ext rfl (by simpa using q))
section
variable {α β:Type} {c:A3}
theorem Fwd.bind {r:Rs α} {f:α ->A3 ->Rs β} (h:Fwd c r) (k:∀x c',r=.ok (x,c') ->Snd c' ->c'.Depth=c.Depth ->Fwd c' (f x c')):Fwd c (E1 r f):=by
 cases r with
 |error e=>exact h
 |ok x=>
  have h2:=k x.1 x.2 rfl h.1 h.2
  have hd:=h.2
  show Fwd c (f x.1 x.2)
  cases hf:f x.1 x.2 with
  |error e=>rw [hf] at h2; exact h2
  |ok z=>rw [hf] at h2; exact ⟨h2.1,by rw [h2.2,hd]⟩
theorem Fwd.err {e:Int} (h:e≠0):Fwd (α:=α) c (.error e):=h
theorem Fwd.ret (x:α) (h:Snd c):Fwd c (.ok (x,c)):=⟨h,rfl⟩
theorem Fwd.to {a:α × A3 × Int} (h:a.2.2=0 ->∃k:Int,a.2.1=a2j c k /\ 0<=k /\ k<=c.End - c.At) (hc:Snd c):Fwd c (toR a):=by
 unfold toR
 split
 ·rename_i q; exact q
 ·rename_i q
  obtain ⟨k,e,h1,h2⟩:=h (by simpa using q)
  have n0:=hc.n0
  rw [e,b3u]
  exact ⟨hc.adv ⟨h1,h2⟩ ⟨by omega,n0⟩,rfl⟩
end
section
variable {c:A3} (hc:Snd c)
 include hc
theorem Fwd.sp:Fwd c (spR c):=by
 unfold spR
 split
 ·exact Fwd.err (by decide)
 ·exact ⟨hc.adv (by have:=hc.a1; omega) (by omega),rfl⟩
theorem Fwd.num:Fwd c (toR (T3 c)):=by
 refine Fwd.to (fun h=> ?_) hc
 have hr:=(c3c (O4 c) 10 0 0 rfl).1
 have hs:=hc.size
 unfold T3 at h ⊢
 split
 ·rename_i h1
  rw [if_pos h1] at h
  split
  ·exact ⟨_,rfl,by omega,by omega⟩
  ·rename_i h2
   rw [if_neg h2] at h
   exact absurd h (show ¬((5:Int)=0) by decide)
 ·rename_i h1
  rw [if_neg h1] at h
  simp only at h
  omega
theorem Fwd.byte:Fwd c (toR (a3k c)):=by
 refine Fwd.to (fun h=> ?_) hc
 unfold a3k at h ⊢
 split
 ·rename_i h1
  rw [hc.left] at h1
  exact ⟨1,rfl,by decide,by omega⟩
 ·rename_i h1
  rw [if_neg h1] at h
  exact absurd h (show ¬((4:Int)=0) by decide)
theorem Fwd.fix:Fwd c (toR (c4w c)):=by
 refine Fwd.to (fun h=> ?_) hc
 have hs:=hc.size
 unfold c4w at h ⊢
 split
 ·rename_i h1
  exact ⟨8,rfl,by decide,by omega⟩
 ·rename_i h1
  rw [if_neg h1] at h
  exact absurd h (show ¬((4:Int)=0) by decide)
theorem Fwd.tx (u:Int):Fwd c (txR u c):=by
 unfold txR
 split
 ·exact Fwd.err (by decide)
 rename_i h0
 rw [hc.left] at h0
 refine Fwd.to (fun h=> ?_) hc
 unfold a65 at h ⊢
 split
 ·rename_i h1; rw [if_pos h1] at h; exact absurd h (show ¬((1:Int)=0) by decide)
 rename_i h1
 rw [if_neg h1] at h
 split
 ·rename_i h2; rw [if_pos h2] at h; exact absurd h (show ¬((4:Int)=0) by decide)
 rename_i h2
 rw [if_neg h2] at h
 split
 ·rename_i h3; rw [if_pos h3] at h; exact absurd h (show ¬((3:Int)=0) by decide)
 ·exact ⟨u,rfl,by omega,by omega⟩
theorem f3x (p:A5) {k:Int} (t:Int) (h1:k≠1) (h6:k≠6) (h78:¬(k=7\/k=8)) (hn:¬(k=2\/k=3\/k=4\/k=5\/k=9)):scR p k t c=.error 12:=by
 rw [scR,b44,if_neg h1,if_neg h6,if_neg h78,if_neg hn]; rfl
theorem Fwd.sc (p:A5) (k t:Int):Fwd c (scR p k t c):=by
 by_cases h1:k=1
 ·subst h1
  rw [f8y]
  refine Fwd.bind (Fwd.byte hc) fun b c' _ q _=> ?_
  split
  ·exact Fwd.err (by decide)
  ·exact Fwd.ret _ q
 by_cases h6:k=6
 ·subst h6
  rw [f8r]
  refine Fwd.bind (Fwd.fix hc) fun b c' _ q _=> ?_
  split
  ·exact Fwd.err (by decide)
  ·exact Fwd.ret _ q
 by_cases h78:k=7\/k=8
 ·rw [f8h p k t h78]
  refine Fwd.bind (Fwd.num hc) fun b c' _ q _=>Fwd.bind (Fwd.tx q b) fun s c'' _ q2 _=> ?_
  split
  ·exact Fwd.err (by decide)
  ·exact Fwd.ret _ q2
 by_cases hn:k=2\/k=3\/k=4\/k=5\/k=9
 ·rw [f7r p k t hn]
  refine Fwd.bind (Fwd.num hc) fun b c' _ q _=> ?_
  split
  ·exact Fwd.err (by decide)
  split
  ·exact Fwd.err (by decide)
  ·exact Fwd.ret _ q
 ·rw [f3x hc p t h1 h6 h78 hn]
  exact Fwd.err (by decide)
theorem d2b {k b:Int} {s:ByteArray} (hk:0<=k /\ k<=12) (hb:0<=b /\ b<18446744073709551616) (hs:s.size<=140737488351232):OkD ⟨k,b,s,[],[],[],[]⟩:=by
 have z:Sz 0:=Nat.zero_le _
 exact .mk _ (show I64 k from ⟨by omega,by omega⟩) (show U64 b from ⟨by omega,by omega⟩) hs z z z z (fun x hx=>by cases hx) (fun x hx=>by cases hx) (fun x hx=>by cases hx) (fun x hx=>by cases hx) (fun x hx=>by cases hx) (fun x hx=>by cases hx) ⟨z,z,z,z⟩
theorem e4v {p:A5} {k t:Int} {y:A0} {c':A3} (h:scR p k t c=.ok (y,c')):OkD y /\ y.Kind=k /\ 1<=k /\ k<=9:=by
 have hk:=hc.okc
 have h0:=h
 unfold scR at h
 by_cases h1:k=1
 ·subst h1
  rw [f8y] at h0
  obtain ⟨x,c1,q1,q2⟩:=b5x h0
  have br:=c0o c
  rw [d33 q1] at br
  simp only at br
  split at q2
  ·cases q2
  ·cases q2
   exact ⟨d2b hc (by decide) (by omega) (by decide),rfl,by decide,by decide⟩
 by_cases h6:k=6
 ·subst h6
  rw [f8r] at h0
  obtain ⟨x,c1,q1,q2⟩:=b5x h0
  have br:=d5l c
  rw [d33 q1] at br
  simp only at br
  split at q2
  ·cases q2
  ·cases q2
   exact ⟨d2b hc (by decide) (by omega) (by decide),rfl,by decide,by decide⟩
 by_cases h78:k=7\/k=8
 ·rw [f8h p k t h78] at h0
  obtain ⟨x,c1,q1,q2⟩:=b5x h0
  obtain ⟨s,c2,q3,q4⟩:=b5x q2
  have hs1:Snd c1:=by have:=Fwd.num hc; rw [q1] at this; exact this.1
  split at q4
  ·cases q4
  ·cases q4
   unfold txR at q3
   split at q3
   ·cases q3
   have e3:=d33 q3
   have hz:=d0y c1 hs1.okc x
   rw [e3] at hz
   exact ⟨d2b hc (by omega) (by decide) hz,rfl,by omega,by omega⟩
 by_cases hn:k=2\/k=3\/k=4\/k=5\/k=9
 ·rw [f7r p k t hn] at h0
  obtain ⟨x,c1,q1,q2⟩:=b5x h0
  have br:=d0u k c
  rw [d33 q1] at br
  simp only at br
  split at q2
  ·cases q2
  split at q2
  ·cases q2
  ·cases q2
   exact ⟨d2b hc (by omega) br (by decide),rfl,by omega,by omega⟩
 ·rw [f3x hc p t h1 h6 h78 hn] at h0
  cases h0
end
def d5w {α:Type} (p:A5) (r:Rs α) (y:A7 × (α × Int)):Prop:=match r with
 |.ok x=>y=(⟨p,x.2⟩,x.1,0)
 |.error e=>e≠0 /\ y.2.2=e
def g62 (p:A5) (r:Rs (A0 × Bool)) (y:A7 × (A0 × Bool × Int)):Prop:=match r with
 |.ok x=>y=(⟨p,x.2⟩,x.1.1,x.1.2,0)
 |.error e=>e≠0 /\ y.2.2.2=e
theorem ne0 {e:Int} (h:e≠0):(e !=0)=true:=by simpa using h
section
variable {p:A5} (hp:OkX p)
variable {c:A3} (hc:Snd c)
 include hc
theorem d2s:Ex (fun y:A7 × Int=>match spR c with|.ok x=>y=(⟨p,x.2⟩,0)|.error e=>e≠0 /\ y.2=e) (a1l ⟨p,c⟩ 1):=by
 have n0:=hc.n0; have n1:=hc.n1
 unfold spR
 by_cases h:c.Nodes<1
 ·rw [if_pos h]
  exact ⟨_,a80 _ _ _ ⟨_,b3i _ _ _ ⟨fun h=>by simp at h,fun _=>⟨fun _=>rfl,fun q=>absurd h (of_decide_eq_false q)⟩⟩,rfl⟩,by decide,rfl⟩
 ·rw [if_neg h]
  refine ⟨_,a80 _ _ _ ⟨_,b3i _ _ _ ⟨fun h=>by simp at h,fun _=>⟨fun q=>absurd (of_decide_eq_true q) h,fun _=>rfl⟩⟩,rfl⟩, ?_⟩
  simp only [adv,Int.add_zero]
  rw [wI,D5 (by omega)]
theorem d8a:Ex (d5w p (cnR c)) (a4s ⟨p,c⟩):=by
 have hn:=c8l c hc.okc
 have hr:=b4z c
 have e:cnR c=E1 (toR (T3 c)) fun u c=>if 4096<u then .error 3 else if 0<u then E1 (spR c) fun _ c=>.ok (u,c) else .ok (u,c):=rfl
 have hf:=Fwd.num hc
 refine A9 (b7a _) (c1u hn (A8 _ (fun h=>D6 ?_) fun h=>E7 (fun h2=>D6 ?_) fun h2=>E7 (fun h3=> ?_) fun h3=>D6 ?_))
 ·have q:(T3 c).2.2≠0:=by simpa using h
  rw [e,b0f,if_pos q]
  exact ⟨q,rfl⟩
 all_goals
  have q:¬(T3 c).2.2≠0:=by simpa using h
  rw [e,b0f,if_neg q]
 ·rw [if_pos h2]; exact ⟨by decide,rfl⟩
 ·rw [if_neg h2,if_pos h3]
  have hs:Snd (T3 c).2.1:=by
   unfold toR at hf; rw [if_neg q] at hf; exact hf.1
  refine D8 (d2s (p:=p) hs) fun y hy=>D6 ?_
  cases hsp:spR (T3 c).2.1 with
  |error e=>rw [hsp] at hy; exact ⟨hy.1,hy.2⟩
  |ok x=>
   rw [hsp] at hy
   simp only at hy
   rw [hy]
   show _=_
   rw [wI,D5 (by omega)]
 ·rw [if_neg h2,if_neg h3]
  show _=_
  rw [wI,D5 (by omega)]
  have:(T3 c).2.2=0:=by simpa using h
  rw [this]
end
section
variable {p:A5} (hp:OkX p) {m:Nat} {M:RdM}
variable (hM:∀(t:Int) (g:B6) (c:A3),p.Progs[t.toNat]? =some g ->0<=t ->Snd c ->c.Depth<=m ->Ex (d5w p (M t c)) (V9 ⟨p,c⟩ t))
variable (hF:∀(t:Int) (g:B6) (c:A3),p.Progs[t.toNat]? =some g ->0<=t ->Snd c ->Fwd c (M t c))
 include hp hM
theorem c2s {c:A3} (hc:Snd c) (hd:c.Depth<=m) (o:GOp) (ho:OpG p o):Ex (d5w p (elR M p o.Kind o.Target c)) (G2 ⟨p,c⟩ o):=by
 refine A9 (b7o _ _) (A8 _ (fun h=> ?_) fun h=>D8 (d2s (p:=p) hc) fun y hy=> ?_)
 ·have hk:o.Kind=10:=by simpa using h
  obtain ⟨g,hg,t0⟩:=ho hk
  refine D8 (hM _ g c hg t0 hc hd) fun y hy=>D6 ?_
  rw [elR,if_pos hk]; exact hy
 ·have hk:¬o.Kind=10:=by simpa using h
  have hs:=Fwd.sp hc
  rw [elR,if_neg hk]
  cases hsp:spR c with
  |error e=>
   rw [hsp] at hy
   refine A8 _ (fun _=>D6 ⟨hy.1,hy.2⟩) fun q=> ?_
   rw [hy.2] at q; exact absurd (ne0 hy.1) (by rw [q]; simp)
  |ok x=>
   rw [hsp] at hy hs
   simp only at hy
   subst hy
   refine A8 _ (fun q=>by simp at q) fun _=>c1u (e5z p hp.e o x.2 hs.1.okc) (D6 ?_)
   simp only [E1,scR,toR]
   split
   ·rename_i q; exact ⟨q,rfl⟩
   ·rename_i q
    have q':(b44 p o.Kind o.Target x.2).2.2=0:=by simpa using q
    show _=_
    rw [q']
 include hF
 omit hp hM in
theorem c4z {c:A3} (hc:Snd c) (o:GOp) (ho:OpG p o):Fwd c (elR M p o.Kind o.Target c):=by
  unfold elR
  split
  · rename_i hk
    obtain ⟨g,hg,t0⟩:=ho hk
    exact hF _ g c hg t0 hc
  · exact Fwd.bind (Fwd.sp hc) fun _ c' _ q _=>Fwd.sc q p _ _
theorem e7b (o:GOp) (ho:OpG p o) (y1:A7 × (Int × Int)) (n:Nat) (hn:y1.2.1=n) (hn2:n<=4096):∀(d i:Nat) (acc:List A0) (c:A3),i+d=n ->acc.length=i ->Snd c ->c.Depth<=m ->Ex (d5w p (E1 (lsR M p o.Kind o.Target d c) fun l c=>.ok (⟨11,0,⟨#[]⟩,acc++l,[],[],[]⟩,c))) (a15 i y1 p.Progs p.Enums c.Data c.At c.End c.Depth c.Nodes c.Text o acc):=by
 intro d
 induction d with
 |zero=>
  intro i acc c hi ha hc hd
  refine A9 (a6f _ _ _ _ _ _ _ _ _ _ _ _) (E7 (fun h=> ?_) fun _=>D6 ?_)
  ·rw [hn] at h; omega
  ·simp only [lsR,E1,d5w,List.append_nil]
 |succ d ih=>
  intro i acc c hi ha hc hd
  refine A9 (a6f _ _ _ _ _ _ _ _ _ _ _ _) (E7 (fun _=>D8 (c2s hp hM hc hd o ho) fun y hy=> ?_) fun h=> ?_)
  ·rw [lsR,a2h]
   have hf:=c4z hF hc o ho
   cases he:elR M p o.Kind o.Target c with
   |error e=>
    rw [he] at hy
    refine A8 _ (fun _=>D6 ⟨hy.1,hy.2⟩) fun q=> ?_
    rw [hy.2] at q; exact absurd (ne0 hy.1) (by rw [q]; simp)
   |ok x=>
    rw [he] at hy hf
    have hy:y=(⟨p,x.2⟩,x.1,0):=hy
    subst hy
    refine A8 _ (fun q=>by simp at q) fun _=>D7 (by simp; omega) ?_
    have e1:wI ((i:Int)+1)=((i+1:Nat):Int):=by rw [wI,D5 (by omega)]; omega
    rw [e1]
    have:=ih (i+1) (acc++[x.1]) x.2 (by omega) (by simp; omega) hf.1 (by rw [hf.2]; exact hd)
    rw [a3a,a2h]
    simp only [a3a,List.append_assoc,List.singleton_append] at this ⊢
    exact this
  ·rw [hn] at h; omega
 omit hp hM hF in
theorem d85 {c:A3} (hc:Snd c):Fwd c (cnR c) /\ ∀z,cnR c=.ok z ->0<=z.1 /\ z.1<=4096:=by
  have hr:=b4z c
  have e:cnR c=E1 (toR (T3 c)) fun u c=>if 4096<u then .error 3 else if 0<u then E1 (spR c) fun _ c=>.ok (u,c) else .ok (u,c):=rfl
  refine ⟨?_,fun z hz=> ?_⟩
  · rw [e]
    refine Fwd.bind (Fwd.num hc) fun u c' _ q _=> ?_
    split
    · exact Fwd.err (by decide)
    split
    · exact Fwd.bind (Fwd.sp q) fun _ c'' _ q2 _=>Fwd.ret _ q2
    · exact Fwd.ret _ q
  · rw [e] at hz
    obtain ⟨u,c',h1,h2⟩:=b5x hz
    have h3:=d33 h1
    rw [h3] at hr
    simp only at hr
    split at h2
    · cases h2
    split at h2
    · obtain ⟨_,c2,_,h4⟩:=b5x h2
      cases h4
      simp only; omega
    · cases h2
      simp only; omega
theorem f64 {c:A3} (hc:Snd c) (hd:c.Depth<=m) (o:GOp) (ho:OpG p o):Ex (d5w p (E1 (cnR c) fun n c=>E1 (lsR M p o.Kind o.Target n.toNat c) fun l c=>.ok (⟨11,0,⟨#[]⟩,l,[],[],[]⟩,c))) (a0q ⟨p,c⟩ o):=by
 refine A9 (b9a _ _) (D8 (d8a hc) fun y hy=> ?_)
 obtain ⟨hf,hl⟩:=d85 hc
 cases he:cnR c with
 |error e=>
  rw [he] at hy
  refine A8 _ (fun _=>D6 ⟨hy.1,hy.2⟩) fun q=> ?_
  rw [hy.2] at q; exact absurd (ne0 hy.1) (by rw [q]; simp)
 |ok x=>
  rw [he] at hy hf
  have hy:y=(⟨p,x.2⟩,x.1,0):=hy
  have hx:=hl x he
  subst hy
  refine A8 _ (fun q=>by simp at q) fun _=> ?_
  have:=e7b hp hM hF o ho (⟨p,x.2⟩,x.1,0) x.1.toNat (by simp only; omega) (by omega) x.1.toNat 0 [] x.2 (by omega) rfl hf.1 (by rw [hf.2]; exact hd)
  rw [a3a]
  simp only [List.nil_append] at this
  exact this
def g57 (a:Option A0) (acc:List (A0 × A0)):Prop:=match a with
 |none=>acc=[]
 |some k=>OkD k /\ acc≠[] /\ ∃z,acc[acc.length - 1]? =some z /\ z.1=k
theorem e0u (o:GOp) (ho:OpG p o) (hkey:o.Key≠10) (y1:A7 × (Int × Int)) (n:Nat) (hn:y1.2.1=n) (hn2:n<=4096):∀(d i:Nat) (a:Option A0) (acc:List (A0 × A0)) (c:A3),i+d=n ->acc.length=i ->g57 a acc ->Snd c ->c.Depth<=m ->Ex (d5w p (E1 (prR M p o.Key o.Kind o.Target d a c) fun l c=>.ok (⟨12,0,⟨#[]⟩,[],acc++l,[],[]⟩,c))) (X2 i y1 p.Progs p.Enums c.Data c.At c.End c.Depth c.Nodes c.Text o acc):=by
 intro d
 induction d with
 |zero=>
  intro i a acc c hi ha hk hc hd
  refine A9 (a5n _ _ _ _ _ _ _ _ _ _ _ _) (E7 (fun h=> ?_) fun _=>D6 ?_)
  ·rw [hn] at h; omega
  ·simp only [prR,E1,d5w,List.append_nil]
 |succ d ih=>
  intro i a acc c hi ha hk hc hd
  have hok:OpG p (⟨0,⟨#[]⟩,⟨#[]⟩,0,0,o.Key, -1,0⟩:GOp):=fun h=>absurd h hkey
  refine A9 (a5n _ _ _ _ _ _ _ _ _ _ _ _) (E7 (fun _=>D8 (c2s hp hM hc hd _ hok) fun y hy=> ?_) fun h=> ?_)
  rotate_left
  ·rw [hn] at h; omega
  rw [prR,a2h]
  have hf:=c4z (p:=p) hF hc _ hok
  simp only at hy hf
  cases he:elR M p o.Key (-1) c with
  |error e=>
   rw [he] at hy
   refine A8 _ (fun _=>D6 ⟨hy.1,hy.2⟩) fun q=> ?_
   rw [hy.2] at q; exact absurd (ne0 hy.1) (by rw [q]; simp)
  |ok x=>
   rw [he] at hy hf
   have hy:y=(⟨p,x.2⟩,x.1,0):=hy
   subst hy
   have hv:OkD x.1:=by
    rw [elR,if_neg hkey] at he
    obtain ⟨_,c1,h1,h2⟩:=b5x he
    have h3:=Fwd.sp hc
    rw [h1] at h3
    exact (e4v h3.1 h2).1
   have hd2:x.2.Depth<=m:=by rw [hf.2]; exact hd
   refine A8 _ (fun q=>by simp at q) fun _=> ?_
   -- whether the key ascends
   have good:upK a x.1 ->Ex (d5w p (E1 (E1 (elR M p o.Kind o.Target x.2) fun y c=>E1 (prR M p o.Key o.Kind o.Target d (some x.1) c) fun l c=>.ok ((x.1,y)::l,c)) fun l c=>.ok (⟨12,0,⟨#[]⟩,[],acc++l,[],[]⟩,c))) fun r=>∃y8,G2 ⟨p,x.2⟩ o y8 /\ (((y8.2.2 !=0)=true ->r=(y8.1,(⟨12,0,(⟨#[]⟩:ByteArray),([]:(List A0)),acc,([]:(List (Int × A0))),([]:(List Q0))⟩:A0),y8.2.2)) /\ ((y8.2.2 !=0)=false ->(acc.length+[(x.1,y8.2.1)].length)*256<=140737488355328 /\ (X2 (wI (i+1)) y1 y8.1.p.Progs y8.1.p.Enums y8.1.c.Data y8.1.c.At y8.1.c.End y8.1.c.Depth y8.1.c.Nodes y8.1.c.Text o (acc++[(x.1,y8.2.1)]) r))):=by
    intro _
    refine D8 (c2s hp hM hf.1 hd2 o ho) fun y8 hy8=> ?_
    have hf2:=c4z hF hf.1 o ho
    rw [a2h]
    cases he2:elR M p o.Kind o.Target x.2 with
    |error e=>
     rw [he2] at hy8
     refine A8 _ (fun _=>D6 ⟨hy8.1,hy8.2⟩) fun q=> ?_
     rw [hy8.2] at q; exact absurd (ne0 hy8.1) (by rw [q]; simp)
    |ok z=>
     rw [he2] at hy8 hf2
     have hy8:y8=(⟨p,z.2⟩,z.1,0):=hy8
     subst hy8
     refine A8 _ (fun q=>by simp at q) fun _=>D7 (by simp; omega) ?_
     have e1:wI ((i:Int)+1)=((i+1:Nat):Int):=by rw [wI,D5 (by omega)]; omega
     rw [e1]
     have:=ih (i+1) (some x.1) (acc++[(x.1,z.1)]) z.2 (by omega) (by simp; omega) ⟨hv,by simp,(x.1,z.1),by simp,rfl⟩ hf2.1 (by rw [hf2.2]; exact hd2)
     rw [a3a,a2h]
     simp only [a3a,List.append_assoc,List.singleton_append] at this ⊢
     exact this
   have bad:¬upK a x.1 ->d5w p (E1 (.error 5:Rs (List (A0 × A0))) fun l c=>.ok ((⟨12,0,⟨#[]⟩,[],acc++l,[],[]⟩:A0),c)) (⟨p,x.2⟩,(⟨12,0,⟨#[]⟩,[],acc,[],[]⟩:A0),5):=fun _=>⟨by decide,rfl⟩
   refine C6 ?_
   rw [a3a]
   cases a with
   |none=>
    have hk:acc=[]:=hk
    have e0:i=0:=by rw [<-ha,hk]; rfl
    refine E7 (fun h=>by omega) fun _=> ?_
    refine A8 false (fun q=>by cases q) fun _=> ?_
    have hu:upK none x.1:=rfl
    rw [if_pos hu]
    exact good hu
   |some b=>
    obtain ⟨hb,hne,z,hz,ez⟩:=hk
    have hpos:0<acc.length:=List.length_pos_iff.2 hne
    have e1:wI ((i:Int) - 1)=((acc.length - 1:Nat):Int):=by rw [wI,D5 (by omega)]; omega
    refine E7 (fun _=> ?_) fun h=>by omega
    rw [e1]
    refine a3d z (by simpa using hz) (by omega) ?_
    rw [ez]
    refine c1u (c46 _ b x.1 hb hv (Nat.le_refl _)) ?_
    by_cases hu:upK (some b) x.1
    ·have hu':a1z (SizeOf.sizeOf b) b x.1<0:=of_decide_eq_true hu
     rw [if_pos hu]
     refine E7 (fun q=>by omega) fun _=>good hu
    ·have hu':¬a1z (SizeOf.sizeOf b) b x.1<0:=fun w=>hu (decide_eq_true w)
     rw [if_neg hu]
     refine E7 (fun _=>D6 ⟨by decide,rfl⟩) fun q=>by omega
theorem f00 {c:A3} (hc:Snd c) (hd:c.Depth<=m) (o:GOp) (ho:OpG p o) (hkey:o.Key≠10):Ex (d5w p (E1 (cnR c) fun n c=>E1 (prR M p o.Key o.Kind o.Target n.toNat none c) fun l c=>.ok (⟨12,0,⟨#[]⟩,[],l,[],[]⟩,c))) (Y8 ⟨p,c⟩ o):=by
 refine A9 (b7d _ _) (D8 (d8a hc) fun y hy=> ?_)
 obtain ⟨hf,hl⟩:=d85 hc
 cases he:cnR c with
 |error e=>
  rw [he] at hy
  refine A8 _ (fun _=>D6 ⟨hy.1,hy.2⟩) fun q=> ?_
  rw [hy.2] at q; exact absurd (ne0 hy.1) (by rw [q]; simp)
 |ok x=>
  rw [he] at hy hf
  have hy:y=(⟨p,x.2⟩,x.1,0):=hy
  have hx:=hl x he
  subst hy
  refine A8 _ (fun q=>by simp at q) fun _=> ?_
  have:=e0u hp hM hF o ho hkey (⟨p,x.2⟩,x.1,0) x.1.toNat (by simp only; omega) (by omega) x.1.toNat 0 none [] x.2 (by omega) rfl rfl hf.1 (by rw [hf.2]; exact hd)
  rw [a3a]
  simp only [List.nil_append] at this
  exact this
theorem e0z {g:B6} (hg:g∈p.Progs) (o:GOp) (ho:OpG p o) (hm3:o.Kind=10 ->o.Card≠3) (v:A0) (c0 c:A3) (b e:Int) (hc:Snd c) (hd:c.Depth<=m):∀(d i:Nat),v.Slots.length - i<=d ->i<=v.Slots.length ->v.Slots.length<=140737488351232 ->Ex (g62 p (if c5u g (v.Slots.drop i) o=true then .error 15 else E1 (elR M p o.Kind o.Target c) fun x c=>if o.Card=3 /\ b7g x=true then .error 5 else .ok ((x,true),c))) (a06 i v ⟨p,c0⟩ (b,c,e) g o):=by
 have fin:Ex (g62 p (E1 (elR M p o.Kind o.Target c) fun x c=>if o.Card=3 /\ b7g x=true then .error 5 else .ok ((x,true),c))) fun r=>∃y6,G2 (⟨p,c⟩:A7) o y6 /\ (∃R2:Bool ->Prop,(∀bz2:Bool,R2 bz2 ->((bz2=true ->r=(y6.1,y6.2.1,true,5)) /\ (bz2=false ->r=(y6.1,y6.2.1,true,y6.2.2)))) /\ ((((y6.2.2==0)&&(o.Card==3))=true ->∃y7,a6t y6.2.1 y7 /\ (R2 y7)) /\ (((y6.2.2==0)&&(o.Card==3))=false ->R2 false))):=by
  refine D8 (c2s hp hM hc hd o ho) fun y hy=>C6 ?_
  cases he:elR M p o.Kind o.Target c with
  |error e=>
   rw [he] at hy
   refine A8 _ (fun q=> ?_) fun _=>A8 false (fun q=>by cases q) fun _=>D6 ⟨hy.1,hy.2⟩
   simp only [Bool.and_eq_true,beq_iff_eq] at q
   exact absurd (hy.2.symm.trans q.1) hy.1
  |ok x=>
   rw [he] at hy
   have hy:y=(⟨p,x.2⟩,x.1,0):=hy
   subst hy
   rw [a3a]
   refine A8 _ (fun q=> ?_) fun q=>A8 false (fun q=>by cases q) fun _=>D6 ?_
   ·have h3:o.Card=3:=by simpa using q
    have hk:o.Kind≠10:=fun hk=>hm3 hk h3
    have hv:OkD x.1:=by
     rw [elR,if_neg hk] at he
     obtain ⟨_,c1,h1,h2⟩:=b5x he
     have h4:=Fwd.sp hc
     rw [h1] at h4
     exact (e4v h4.1 h2).1
    refine c1u (e5e x.1 hv.okv) (A8 _ (fun z=>D6 ?_) fun z=>D6 ?_)
    ·rw [if_pos ⟨h3,z⟩]; exact ⟨by decide,rfl⟩
    ·rw [if_neg (fun w=>by rw [z] at w; exact absurd w.2 (by decide))]; rfl
   ·have h3:¬o.Card=3:=by simpa using q
    rw [if_neg (fun w=>h3 w.1)]; rfl
 intro d
 induction d with
 |zero=>
  intro i hi hle hz
  refine A9 (a5o _ _ _ _ _ _) (E7 (fun h=>by omega) fun _=> ?_)
  rw [List.drop_eq_nil_of_le (by omega)]
  exact fin
 |succ d ih=>
  intro i hi hle hz
  refine A9 (a5o _ _ _ _ _ _) (E7 (fun h=> ?_) fun h=> ?_)
  ·have hlt:i<v.Slots.length:=by omega
   have dl:v.Slots.drop i=v.Slots[i]::v.Slots.drop (i+1):=List.drop_eq_getElem_cons hlt
   have e1:wI ((i:Int)+1)=((i+1:Nat):Int):=by rw [wI,D5 (by omega)]; omega
   refine a3d v.Slots[i] (by simp) (by omega) (c1u (e8a g (hp.ops hg) _) (A8 _ (fun q=>D6 ?_) fun q=> ?_))
   ·rw [if_pos]
    ·exact ⟨by decide,rfl⟩
    ·rw [dl,c5u,List.any_cons,Bool.or_eq_true]
     refine .inl ?_
     simp only [Bool.and_eq_true,decide_eq_true_eq,beq_iff_eq] at q ⊢
     exact ⟨q.1.1,q.1.2,q.2⟩
   ·rw [e1]
    have:=ih (i+1) (by omega) (by omega) hz
    have ej:c5u g (v.Slots.drop i) o=c5u g (v.Slots.drop (i+1)) o:=by
     rw [dl,c5u,List.any_cons]
     have:((opV g v.Slots[i].1).2&&(decide (0<=o.Union)&&decide ((opV g v.Slots[i].1).1.Union=o.Union)))=false:=by
      rw [<-q,Bool.and_assoc]
      congr 2
     rw [this,Bool.false_or]; rfl
    rw [ej]
    exact this
  ·rw [List.drop_eq_nil_of_le (by omega)]
   exact fin
theorem f0r {g:B6} (hg:g∈p.Progs) (o:GOp) (ho:OpG p o) (hm3:o.Kind=10 ->o.Card≠3) (sl:List (Int × A0)) (hsl:sl.length<=140737488351232) {c:A3} (hc:Snd c) (hd:c.Depth<=m):Ex (g62 p (myR M p g sl o c)) (Y6 ⟨p,c⟩ g ⟨10,0,⟨#[]⟩,[],[],sl,[]⟩ o):=by
 have hb:=e8m c hc.okc
 have hf:=Fwd.byte hc
 have hr:=c0o c
 refine A9 (b6s _ _ _ _) (c1u hb (A8 _ (fun h=>D6 ?_) fun h=>E7 (fun h2=>D6 ?_) fun h2=>A8 _ (fun h3=>D6 ?_) fun h3=> ?_))
 ·have q:(a3k c).2.2≠0:=by simpa using h
  rw [myR,b0f,if_pos q]
  exact ⟨q,rfl⟩
 all_goals
  have q:¬(a3k c).2.2≠0:=by simpa using h
  rw [myR,b0f,if_neg q]
 ·rw [if_pos h2]; exact ⟨by decide,rfl⟩
 ·have h3':(a3k c).1=0:=by simpa using h3
  rw [if_neg h2,if_pos h3']; rfl
 ·have h3':¬(a3k c).1=0:=by simpa using h3
  rw [if_neg h2,if_neg h3']
  unfold toR at hf
  rw [if_neg q] at hf
  exact e0z hp hM hF hg o ho hm3 ⟨10,0,⟨#[]⟩,[],[],sl,[]⟩ c (a3k c).2.1 (a3k c).1 (a3k c).2.2 hf.1 (by rw [hf.2]; exact hd) _ 0 (Nat.le_refl _) (by omega) hsl
theorem d2a {α:Type} {Q:α ->Prop} {g:B6} (hg:g∈p.Progs) (o:GOp) (ho:o∈g.Ops) (sl:List (Int × A0)) (hsl:sl.length<=140737488351232) {c:A3} (hc:Snd c) (hd:c.Depth<=m) (G:Bool ->Int ->A7 ->A0 ->α ->Prop)
  (h1:∀x,fdR M p g sl o c=.ok x ->Ex Q (G x.1.2 0 ⟨p,x.2⟩ x.1.1)) (h2:∀e,fdR M p g sl o c=.error e ->e≠0 ->∀b y z,Ex Q (G b e y z)):
  Ex Q (fun r=>((o.Card==1)=true ->∃y,G2 ⟨p,c⟩ o y /\ G true y.2.2 y.1 y.2.1 r) /\ ((o.Card==1)=false ->((o.Card==4)=true ->∃y,a0q ⟨p,c⟩ o y /\ G (decide (0<(y.2.1.List_.length:Int))) y.2.2 y.1 y.2.1 r) /\ ((o.Card==4)=false ->((o.Card==5)=true ->∃y,Y8 ⟨p,c⟩ o y /\ G (decide (0<(y.2.1.Pairs.length:Int))) y.2.2 y.1 y.2.1 r) /\ ((o.Card==5)=false ->∃y,Y6 ⟨p,c⟩ g ⟨10,0,⟨#[]⟩,[],[],sl,[]⟩ o y /\ G y.2.2.1 y.2.2.2 y.1 y.2.1 r)))):=by
 have hof:=(hp.va.pro g hg).2 _ ho
 have hog:OpG p o:=fun hk=>by
  obtain ⟨t0,t1,_⟩:=hof.msg hk
  exact ⟨_,List.getElem?_eq_getElem (show o.Target.toNat<p.Progs.length by omega),t0⟩
 refine A8 _ (fun k1=> ?_) fun k1=>A8 _ (fun k4=> ?_) fun k4=>A8 _ (fun k5=> ?_) fun k5=> ?_
 ·have c1:o.Card=1:=by simpa using k1
  refine D8 (c2s hp hM hc hd o hog) fun y hy=> ?_
  have ef:fdR M p g sl o c=E1 (elR M p o.Kind o.Target c) fun x c=>.ok ((x,true),c):=by rw [fdR,if_pos c1]
  cases he:elR M p o.Kind o.Target c with
  |error e=>
   rw [he] at hy ef
   have:=h2 e ef hy.1 true y.1 y.2.1
   rw [hy.2]; exact this
  |ok x=>
   rw [he] at hy ef
   have hy:y=(⟨p,x.2⟩,x.1,0):=hy
   subst hy
   exact h1 _ ef
 all_goals have c1:¬o.Card=1:=by simpa using k1
 ·have c4:o.Card=4:=by simpa using k4
  refine D8 (f64 hp hM hF hc hd o hog) fun y hy=> ?_
  have ef:fdR M p g sl o c=E1 (E1 (cnR c) fun n c=>E1 (lsR M p o.Kind o.Target n.toNat c) fun l c=>.ok ((⟨11,0,⟨#[]⟩,l,[],[],[]⟩:A0),c)) fun x c=>.ok ((x,decide (0<(x.List_.length:Int))),c):=by
   rw [fdR,if_neg c1,if_pos c4,a2h]
   congr 1
   funext n c
   rw [a2h]
   congr 1
   funext l c
   simp only [E1,d1q]
  cases he:E1 (cnR c) fun n c=>E1 (lsR M p o.Kind o.Target n.toNat c) fun l c=>.ok ((⟨11,0,⟨#[]⟩,l,[],[],[]⟩:A0),c) with
  |error e=>
   rw [he] at hy ef
   have:=h2 e ef hy.1 (decide (0<(y.2.1.List_.length:Int))) y.1 y.2.1
   rw [hy.2]; exact this
  |ok x=>
   rw [he] at hy ef
   have hy:y=(⟨p,x.2⟩,x.1,0):=hy
   subst hy
   exact h1 _ ef
 all_goals have c4:¬o.Card=4:=by simpa using k4
 ·have c5:o.Card=5:=by simpa using k5
  have hkey:o.Key≠10:=by have:=hof.key.2 c5; omega
  refine D8 (f00 hp hM hF hc hd o hog hkey) fun y hy=> ?_
  have ef:fdR M p g sl o c=E1 (E1 (cnR c) fun n c=>E1 (prR M p o.Key o.Kind o.Target n.toNat none c) fun l c=>.ok ((⟨12,0,⟨#[]⟩,[],l,[],[]⟩:A0),c)) fun x c=>.ok ((x,decide (0<(x.Pairs.length:Int))),c):=by
   rw [fdR,if_neg c1,if_neg c4,if_pos c5,a2h]
   congr 1
   funext n c
   rw [a2h]
   congr 1
   funext l c
   simp only [E1,d1q]
  cases he:E1 (cnR c) fun n c=>E1 (prR M p o.Key o.Kind o.Target n.toNat none c) fun l c=>.ok ((⟨12,0,⟨#[]⟩,[],l,[],[]⟩:A0),c) with
  |error e=>
   rw [he] at hy ef
   have:=h2 e ef hy.1 (decide (0<(y.2.1.Pairs.length:Int))) y.1 y.2.1
   rw [hy.2]; exact this
  |ok x=>
   rw [he] at hy ef
   have hy:y=(⟨p,x.2⟩,x.1,0):=hy
   subst hy
   exact h1 _ ef
 ·have c5:¬o.Card=5:=by simpa using k5
  have ef:fdR M p g sl o c=myR M p g sl o c:=by rw [fdR,if_neg c1,if_neg c4,if_neg c5]
  refine D8 (f0r hp hM hF hg o hog (fun hk=>(hof.msg hk).2.2) sl hsl hc hd) fun y hy=> ?_
  cases he:myR M p g sl o c with
  |error e=>
   rw [he] at hy ef
   have:=h2 e ef hy.1 y.2.2.1 y.1 y.2.1
   rw [hy.2]; exact this
  |ok x=>
   rw [he] at hy ef
   have hy:y=(⟨p,x.2⟩,x.1.1,x.1.2,0):=hy
   subst hy
   exact h1 _ ef
end
theorem f2n {α:Type} (f:α ->Bool):∀(l:List α) (i:Int),0<=i ->c59 f l i<i+l.length
 |[],i,h=>by simp [c59]; omega
 |x::l,i,h=>by
  have ih:=f2n f l (i+1) (by omega)
  by_cases e:f x=true
  ·have:c59 f (x::l) i=i:=by simp only [c59]; rw [if_pos e]
   rw [this]; simp; omega
  ·have:c59 f (x::l) i=c59 f l (i+1):=by simp only [c59]; rw [if_neg e]
   rw [this]; simp; omega
theorem d6j (p:A5) (name:ByteArray) (h:(Y0 p name).2=true):0<=(Y0 p name).1 /\ ∃g,p.Progs[(Y0 p name).1.toNat]? =some g:=by
 have h1:0<=c59 (fun g:B6=>decide (g.Name=name)) p.Progs 0:=by simpa [Y0] using h
 have h2:=f2n (fun g:B6=>decide (g.Name=name)) p.Progs 0 (Int.le_refl _)
 have h3:(Y0 p name).1=c59 (fun g:B6=>decide (g.Name=name)) p.Progs 0:=by simp only [Y0]; omega
 rw [h3]
 have hlt:(c59 (fun g:B6=>decide (g.Name=name)) p.Progs 0).toNat<p.Progs.length:=by omega
 exact ⟨h1,_,List.getElem?_eq_getElem hlt⟩
noncomputable def b8g (p:A5) (name:ByteArray) (v:A0):ByteArray × Int:=
 if (Y0 p name).2=false then (⟨#[]⟩,10)
 else if c9z p (SizeOf.sizeOf v) (Y0 p name).1 v≠0 then (⟨#[]⟩,c9z p (SizeOf.sizeOf v) (Y0 p name).1 v)
 else if a70 (SizeOf.sizeOf v) v=true then (⟨#[]⟩,18)
 else if 65536<(a3s p (SizeOf.sizeOf v) (Y0 p name).1 (J2 p (SizeOf.sizeOf v) (Y0 p name).1 v)).size then (⟨#[]⟩,3)
 else (a3s p (SizeOf.sizeOf v) (Y0 p name).1 (J2 p (SizeOf.sizeOf v) (Y0 p name).1 v),0)
section
variable {p:A5} (hp:OkX p) (name:ByteArray) {v:A0} (hv:OkD v) (hw:wtV v<=134217728)
 include hp hv hw
theorem g8h (t:Int) (g:B6) (hgt:p.Progs[t.toNat]? =some g) (ht:0<=t) (h:c9z p (SizeOf.sizeOf v) t v=0):NfV p (SizeOf.sizeOf v) t (J2 p (SizeOf.sizeOf v) t v) /\ b6i p (SizeOf.sizeOf v) t v 1=0 /\ (a3s p (SizeOf.sizeOf v) t (J2 p (SizeOf.sizeOf v) t v)).size<=140737488355328:=by
 obtain ⟨h1,h2⟩:=b8k h
 have h3:=e5b hp _ t g v 1 hgt ht hv (Nat.le_refl _) h1
 have h4:=d3b hp _ _ _ h3
 have h5:=e5g p (SizeOf.sizeOf v) t v
 exact ⟨h3,h1,by omega⟩
theorem f96:c24 p name v (b8g p name v):=by
 have hpl:=E4 hp.pl.np
 refine c8q _ _ _ _ ⟨_,c8h p hpl name,fun h=> ?_,fun h=> ?_⟩
 ·rw [b8g,if_pos (by simpa using h)]
 have hf:(Y0 p name).2=true:=by simpa using h
 obtain ⟨t0,g,hgt⟩:=d6j p name hf
 refine ⟨_,e9p hp _ _ g v hgt t0 hv (Nat.le_refl _) (by omega),fun h2=> ?_,fun h2=> ?_⟩
 ·rw [b8g,if_neg (by simp [hf]),if_pos (by simpa using h2)]
 have h2':c9z p (SizeOf.sizeOf v) (Y0 p name).1 v=0:=by simpa using h2
 refine ⟨_,c6i _ v hv (Nat.le_refl _),fun h3=> ?_,fun h3=> ?_⟩
 ·rw [b8g,if_neg (by simp [hf]),if_neg (by omega),if_pos h3]
 obtain ⟨hnf,hmsg,hsz⟩:=g8h hp hv hw _ g hgt t0 h2'
 refine ⟨_,e92 hp _ _ g v hgt t0 hv (Nat.le_refl _) ⟨_,Nat.le_refl _,by simpa using h3⟩,_,d5m hp _ _ _ [] hnf (by simpa using hsz),fun h4=> ?_,fun h4=>⟨_,by rw [List.nil_append], ?_⟩⟩
 ·rw [b8g,if_neg (by simp [hf]),if_neg (by omega),if_neg (nt h3),if_pos]
  simp only [List.nil_append,a9o,decide_eq_true_eq] at h4
  omega
 ·rw [b8g,if_neg (by simp [hf]),if_neg (by omega),if_neg (nt h3),if_neg]
  simp only [List.nil_append,a9o,decide_eq_false_iff_not] at h4
  omega
end
theorem b7z.oke {p:A5} (h:b7z p):OkE p:=⟨E4 h.ne,fun y hy=>⟨E4 (h.enums y hy).ni,fun it hit=>⟨((h.enums y hy).items it hit).num.1,((h.enums y hy).items it hit).num.2⟩⟩⟩
theorem d6a (p:A5) (hp:b7z p):∃b,b7j p b /\ (b=true ->OkX p):=by
 obtain ⟨y,h1,h2⟩:=f7z p hp
 rcases Bool.eq_false_or_eq_true ((decide ((p.Progs.length:Int)<=8))&&(decide ((p.Enums.length:Int)<=8))) with h|h
 ·exact ⟨_,b4p _ _ ⟨fun _=>⟨y,h1,rfl⟩,fun q=>(by rw [h] at q; cases q)⟩,fun hb=>⟨hp.oke,hp,h2 (by simpa using hb)⟩⟩
 ·exact ⟨false,b4p _ _ ⟨fun q=>(by rw [h] at q; cases q),fun _=>rfl⟩,fun hb=>by cases hb⟩
theorem f0m (v:A0) (hv:OkD v):c0m v (decide (wI (a2u (SizeOf.sizeOf v) v)<=5000)):=c53 _ _ ⟨_,b7i _ v hv (Nat.le_refl _),rfl⟩
theorem g8z (z:A0):(⟨z.Kind,z.Bits,z.Text,z.List_,z.Pairs,z.Slots,z.Raws⟩:A0)=z:=by cases z; rfl
section
variable {p:A5} (hp:OkX p) {M:RdM}
variable (hF:∀(t:Int) (g:B6) (c:A3),p.Progs[t.toNat]? =some g ->0<=t ->Snd c ->Fwd c (M t c))
 include hF
theorem f3p (o:GOp) (ho:OpG p o):∀(n:Nat) (c:A3),Snd c ->Fwd c (lsR M p o.Kind o.Target n c)
 |0,c,hc=>Fwd.ret _ hc
 |n+1,c,hc=>by
  rw [lsR]
  exact Fwd.bind (c4z hF hc o ho) fun _ c' _ q _=>Fwd.bind (f3p o ho n c' q) fun _ c'' _ q2 _=>Fwd.ret _ q2
theorem f36 (o:GOp) (ho:OpG p o) (hkey:o.Key≠10):∀(n:Nat) (a:Option A0) (c:A3),Snd c ->Fwd c (prR M p o.Key o.Kind o.Target n a c)
 |0,a,c,hc=>by rw [prR]; exact Fwd.ret _ hc
 |n+1,a,c,hc=>by
  rw [prR]
  have hk:=c4z (p:=p) hF hc (⟨0,⟨#[]⟩,⟨#[]⟩,0,0,o.Key, -1,0⟩:GOp) (fun h=>absurd h hkey)
  refine Fwd.bind hk fun x c' _ q _=> ?_
  split
  ·exact Fwd.bind (c4z hF q o ho) fun _ c2 _ q2 _=>Fwd.bind (f36 o ho hkey n _ c2 q2) fun _ c3 _ q3 _=>Fwd.ret _ q3
  ·exact Fwd.err (by decide)
theorem g2w (g:B6) (o:GOp) (ho:OpG p o) (sl:List (Int × A0)) {c:A3} (hc:Snd c):Fwd c (myR M p g sl o c):=by
 unfold myR
 refine Fwd.bind (Fwd.byte hc) fun b c' _ q _=> ?_
 split
 ·exact Fwd.err (by decide)
 split
 ·exact Fwd.ret _ q
 split
 ·exact Fwd.err (by decide)
 refine Fwd.bind (c4z hF q o ho) fun x c2 _ q2 _=> ?_
 split
 ·exact Fwd.err (by decide)
 ·exact Fwd.ret _ q2
 include hp
theorem d8u {g:B6} (hg:g∈p.Progs) (o:GOp) (ho:o∈g.Ops) (sl:List (Int × A0)) {c:A3} (hc:Snd c):Fwd c (fdR M p g sl o c):=by
 have hof:=(hp.va.pro g hg).2 _ ho
 have hog:OpG p o:=fun hk=>by
  obtain ⟨t0,t1,_⟩:=hof.msg hk
  exact ⟨_,List.getElem?_eq_getElem (show o.Target.toNat<p.Progs.length by omega),t0⟩
 unfold fdR
 split
 ·exact Fwd.bind (c4z hF hc o hog) fun _ c' _ q _=>Fwd.ret _ q
 split
 ·exact Fwd.bind (d85 hc).1 fun _ c' _ q _=>Fwd.bind (f3p hF o hog _ _ q) fun _ c2 _ q2 _=>Fwd.ret _ q2
 split
 ·rename_i h5
  have hkey:o.Key≠10:=by have:=hof.key.2 h5; omega
  exact Fwd.bind (d85 hc).1 fun _ c' _ q _=>Fwd.bind (f36 hF o hog hkey _ _ _ q) fun _ c2 _ q2 _=>Fwd.ret _ q2
 ·exact g2w hF g o hog sl hc
theorem e5v {g:B6} (hg:g∈p.Progs):∀(ops:List GOp) (sl:List (Int × A0)) (c:A3),(∀o∈ops,o∈g.Ops) ->Snd c ->Fwd c (c7p M p g ops sl c)
 |[],sl,c,_,hc=>by rw [c7p]; exact Fwd.ret _ hc
 |o::ops,sl,c,ho,hc=>by
  rw [c7p]
  exact Fwd.bind (d8u hp hF hg o (ho o (by simp)) sl hc) fun x c' _ q _=>e5v hg ops _ c' (fun o h=>ho o (by simp [h])) q
end
theorem e3i {p:A5} (hp:OkX p):∀(n:Nat) (t:Int) (g:B6) (c:A3),p.Progs[t.toNat]? =some g ->0<=t ->Snd c ->Fwd c (msR p n t c)
 |0,t,g,c,_,_,_=>Fwd.err (by decide)
 |n+1,t,g,c,hgt,ht,hc=>by
  have hg:g∈p.Progs:=List.mem_of_getElem? hgt
  rw [msR]
  split
  ·exact Fwd.err (by decide)
  rename_i h1
  refine Fwd.bind (Fwd.sp hc) fun _ c' _ q hd=> ?_
  rw [hgt]
  simp only
  have hl:=c62 q (by omega)
  have:=e5v (M:=msR p n) hp (fun t g c h0 h1 h2=>e3i hp n t g c h0 h1 h2) hg g.Ops [] (a7z c' 1) (fun o h=>h) hl
  cases he:c7p (msR p n) p g g.Ops [] (a7z c' 1) with
  |error e=>rw [he] at this; exact this
  |ok x=>
   rw [he] at this
   obtain ⟨s,d⟩:=this
   have d1:=q.d1
   have d0:=q.d0
   simp only [a7z] at d
   exact ⟨⟨s.sz,s.a0,s.a1,s.a2,by simp only [a7z]; omega,by simp only [a7z]; omega,s.n0,s.n1⟩,by simp only [a7z]; omega⟩
section
variable {p:A5} (hp:OkX p) {m:Nat} {M:RdM}
variable (hM:∀(t:Int) (g:B6) (c:A3),p.Progs[t.toNat]? =some g ->0<=t ->Snd c ->c.Depth<=m ->Ex (d5w p (M t c)) (V9 ⟨p,c⟩ t))
variable (hF:∀(t:Int) (g:B6) (c:A3),p.Progs[t.toNat]? =some g ->0<=t ->Snd c ->Fwd c (M t c))
 include hp hM hF
abbrev g5a (sl:List (Int × A0)) (c:A3):Rs A0:=.ok (⟨10,0,⟨#[]⟩,[],[],sl,[]⟩,a7z c (-1))
theorem f7q {g:B6} (hg:g∈p.Progs) (hgl:g.Ops.length<=65535):∀(d i:Nat) (sl:List (Int × A0)) (c:A3) (o:GOp) (z:A0),i+d=g.Ops.length ->sl.length<=i ->Snd c ->c.Depth<=m ->Ex (d5w p (E1 (c7p M p g (g.Ops.drop i) sl c) g5a)) (S4 i p.Progs p.Enums c.Data c.At c.End c.Depth c.Nodes c.Text sl g o.Num o.Name o.Alias o.Card o.Key o.Kind o.Target o.Union z.Kind z.Bits z.Text z.List_ z.Pairs z.Slots z.Raws):=by
 intro d
 induction d with
 |zero=>
  intro i sl c o z hi hs hc hd
  have e:i=g.Ops.length:=by omega
  subst e
  have d0:=hc.d0; have d1:=hc.d1
  refine A9 (a2z _ _ _ _ _ _ _ _ _ _ _ _ _ _ _ _ _ _ _ _ _ _ _ _ _ _) (A8 _ (fun _=>D6 ?_) fun h=>by simp at h)
  rw [List.drop_length,c7p]
  show _=_
  simp only [a7z]
  rw [wI,D5 (by omega)]
  simp
 |succ d ih=>
  intro i sl c o z hi hs hc hd
  have hlt:i<g.Ops.length:=by omega
  have dl:g.Ops.drop i=g.Ops[i]::g.Ops.drop (i+1):=List.drop_eq_getElem_cons hlt
  have hop:g.Ops[i]∈g.Ops:=List.getElem_mem hlt
  have e1:wI ((i:Int)+1)=((i+1:Nat):Int):=by rw [wI,D5 (by omega)]; omega
  refine A9 (a2z _ _ _ _ _ _ _ _ _ _ _ _ _ _ _ _ _ _ _ _ _ _ _ _ _ _) (A8 _ (fun h=>by simp at h; omega) fun _=>a3d g.Ops[i] (by simp) (by omega) ?_)
  rw [dl,c7p,a2h]
  have hf:=d8u hp hF hg g.Ops[i] hop sl hc
  refine d2a hp hM hF hg g.Ops[i] hop sl (by omega) hc hd (fun b e y z r=>N6 b e i y.p.Progs y.p.Enums y.c.Data y.c.At y.c.End y.c.Depth y.c.Nodes y.c.Text sl g g.Ops[i] z.Kind z.Bits z.Text z.List_ z.Pairs z.Slots z.Raws r) (fun x hx=> ?_) fun e he h0 b y z=> ?_
  ·rw [hx] at hf
   rw [hx,a3a]
   have hd2:x.2.Depth<=m:=by rw [hf.2]; exact hd
   refine A9 (a2g _ _ _ _ _ _ _ _ _ _ _ _ _ _ _ _ _ _ _ _ _) (A8 _ (fun q=>by simp at q) fun _=>A8 _ (fun hb=>D7 (by simp; omega) ?_) fun hb=> ?_)
   ·rw [if_pos hb,e1,g8z]
    exact ih (i+1) (sl++[(g.Ops[i].Num,x.1.1)]) x.2 g.Ops[i] x.1.1 (by omega) (by simp; omega) hf.1 hd2
   ·rw [if_neg (by rw [hb]; simp),e1]
    exact ih (i+1) sl x.2 g.Ops[i] x.1.1 (by omega) (by omega) hf.1 hd2
  ·rw [he]
   refine A9 (a2g _ _ _ _ _ _ _ _ _ _ _ _ _ _ _ _ _ _ _ _ _) (A8 _ (fun _=>D6 ⟨h0,rfl⟩) fun q=> ?_)
   exact absurd (ne0 h0) (by rw [q]; simp)
theorem f4z {g:B6} (hg:g∈p.Progs) (hgl:g.Ops.length<=65535):∀(d i:Nat) (sl:List (Int × A0)) (c:A3) (o:GOp) (z:A0),i+d=g.Ops.length ->sl.length<=i ->Snd c ->c.Depth<=m ->Ex (d5w p (E1 (c7p M p g (g.Ops.drop i) sl c) g5a)) (S3 i p.Progs p.Enums c.Data c.At c.End c.Depth c.Nodes c.Text sl g o.Num o.Name o.Alias o.Card o.Key o.Kind o.Target o.Union z.Kind z.Bits z.Text z.List_ z.Pairs z.Slots z.Raws):=by
 intro d
 induction d with
 |zero=>
  intro i sl c o z hi hs hc hd
  have e:i=g.Ops.length:=by omega
  subst e
  have d0:=hc.d0; have d1:=hc.d1
  refine A9 (a2n _ _ _ _ _ _ _ _ _ _ _ _ _ _ _ _ _ _ _ _ _ _ _ _ _ _) (A8 _ (fun _=>D6 ?_) fun h=>by simp at h)
  rw [List.drop_length,c7p]
  show _=_
  simp only [a7z]
  rw [wI,D5 (by omega)]
  simp
 |succ d ih=>
  intro i sl c o z hi hs hc hd
  have hlt:i<g.Ops.length:=by omega
  have dl:g.Ops.drop i=g.Ops[i]::g.Ops.drop (i+1):=List.drop_eq_getElem_cons hlt
  have hop:g.Ops[i]∈g.Ops:=List.getElem_mem hlt
  have e1:wI ((i:Int)+1)=((i+1:Nat):Int):=by rw [wI,D5 (by omega)]; omega
  refine A9 (a2n _ _ _ _ _ _ _ _ _ _ _ _ _ _ _ _ _ _ _ _ _ _ _ _ _ _) (A8 _ (fun h=>by simp at h; omega) fun _=>a3d g.Ops[i] (by simp) (by omega) ?_)
  rw [dl,c7p,a2h]
  have hf:=d8u hp hF hg g.Ops[i] hop sl hc
  refine d2a hp hM hF hg g.Ops[i] hop sl (by omega) hc hd (fun b e y z r=>N7 b e i y.p.Progs y.p.Enums y.c.Data y.c.At y.c.End y.c.Depth y.c.Nodes y.c.Text sl g g.Ops[i] z.Kind z.Bits z.Text z.List_ z.Pairs z.Slots z.Raws r) (fun x hx=> ?_) fun e he h0 b y z=> ?_
  ·rw [hx] at hf
   rw [hx,a3a]
   have hd2:x.2.Depth<=m:=by rw [hf.2]; exact hd
   refine A9 (a2c _ _ _ _ _ _ _ _ _ _ _ _ _ _ _ _ _ _ _ _ _) (A8 _ (fun q=>by simp at q) fun _=>A8 _ (fun hb=>D7 (by simp; omega) ?_) fun hb=> ?_)
   ·rw [if_pos hb,e1,g8z]
    exact ih (i+1) (sl++[(g.Ops[i].Num,x.1.1)]) x.2 g.Ops[i] x.1.1 (by omega) (by simp; omega) hf.1 hd2
   ·rw [if_neg (by rw [hb]; simp),e1]
    exact ih (i+1) sl x.2 g.Ops[i] x.1.1 (by omega) (by omega) hf.1 hd2
  ·rw [he]
   refine A9 (a2c _ _ _ _ _ _ _ _ _ _ _ _ _ _ _ _ _ _ _ _ _) (A8 _ (fun _=>D6 ⟨h0,rfl⟩) fun q=> ?_)
   exact absurd (ne0 h0) (by rw [q]; simp)
end
theorem d07 {p:A5} (hp:OkX p):∀(m:Nat) (t:Int) (g:B6) (c:A3),p.Progs[t.toNat]? =some g ->0<=t ->Snd c ->c.Depth<=m ->Ex (d5w p (msR p m t c)) (V9 ⟨p,c⟩ t)
 |0,t,g,c,hgt,ht,hc,hd=>by
  have d0:=hc.d0
  refine A9 (a56 _ _) (E7 (fun _=>D6 ⟨by decide,rfl⟩) fun h=> ?_)
  simp only at h
  omega
 |m+1,t,g,c,hgt,ht,hc,hd=>by
  have hg:g∈p.Progs:=List.mem_of_getElem? hgt
  have hgl:=e7u hp hg
  have hM:=fun (t:Int) (g:B6) (c:A3) h0 h1 h2 h3=>d07 hp m t g c h0 h1 h2 h3
  have hF:=fun (t:Int) (g:B6) (c:A3) h0 h1 h2=>e3i hp m t g c h0 h1 h2
  have d0:=hc.d0; have d1:=hc.d1
  refine A9 (a56 _ _) (E7 (fun h=>D6 ?_) fun h=>D8 (d2s (p:=p) hc) fun y hy=> ?_)
  ·rw [msR,if_pos h]; exact ⟨by decide,rfl⟩
  have h1:¬c.Depth<1:=h
  rw [msR,if_neg h1]
  have hs:=Fwd.sp hc
  cases hsp:spR c with
  |error e=>
   rw [hsp] at hy
   refine A8 _ (fun _=>D6 ⟨hy.1,hy.2⟩) fun q=> ?_
   rw [hy.2] at q; exact absurd (ne0 hy.1) (by rw [q]; simp)
  |ok x=>
   rw [hsp] at hy hs
   have hy:y=(⟨p,x.2⟩,0):=hy
   subst hy
   obtain ⟨s1,s2⟩:=hs
   have e0:wI (x.2.Depth - 1)=x.2.Depth - 1:=by rw [s2,wI,D5 (by omega)]
   refine A8 _ (fun q=>by simp at q) fun _=>a3d g hgt ht ?_
   simp only [a3a,hgt]
   have hl:=c62 s1 (by omega)
   have hcl:(⟨x.2.Data,x.2.At,x.2.End,wI (x.2.Depth - 1),x.2.Nodes,x.2.Text⟩:A3)=a7z x.2 1:=by simp only [a7z]; rw [e0]
   have hdl:(a7z x.2 1).Depth<=m:=by simp only [a7z]; omega
   cases hops:g.Ops with
   |nil=>
    refine A8 _ (fun _=>D6 ?_) fun h=>by simp at h
    rw [c7p,a3a]
    show _=_
    simp only [a7z]
    rw [e0,wI,D5 (by omega)]
    simp
   |cons o ops=>
    have hop:o∈g.Ops:=by rw [hops]; simp
    have hdrop:g.Ops.drop 1=ops:=by rw [hops]; rfl
    refine A8 _ (fun h=>by simp at h; omega) fun _=>a3d o (by simp) (by omega) ?_
    rw [c7p,hcl]
    have hf:=d8u hp hF hg o hop [] hl
    have key:=d2a (Q:=d5w p (E1 (E1 (fdR (msR p m) p g [] o (a7z x.2 1)) fun x c=>c7p (msR p m) p g ops (if x.2=true then []++[(o.Num,x.1)] else []) c) g5a)) hp hM hF hg o hop [] (by simp) hl hdl (fun b e y z r=>P5 b e y.p.Progs y.p.Enums y.c.Data y.c.At y.c.End y.c.Depth y.c.Nodes y.c.Text g o z.Kind z.Bits z.Text z.List_ z.Pairs z.Slots z.Raws r) (fun z hz=> ?_) fun e he h0 b y z=> ?_
    ·exact key
    ·rw [hz] at hf
     rw [hz,a3a]
     have hd2:z.2.Depth<=m:=by rw [hf.2]; exact hdl
     refine A9 (a3r _ _ _ _ _ _ _ _ _ _ _ _ _ _ _ _ _ _ _) (A8 _ (fun q=>by simp at q) fun _=>A8 _ (fun hb=>D7 (by simp) ?_) fun hb=> ?_)
     ·rw [if_pos hb,List.nil_append,g8z]
      have:=f7q hp hM hF hg hgl (g.Ops.length - 1) 1 [(o.Num,z.1.1)] z.2 o z.1.1 (by rw [hops]; simp; omega) (by simp) hf.1 hd2
      rw [hdrop] at this
      exact this
     ·rw [if_neg (by rw [hb]; simp)]
      have:=f4z hp hM hF hg hgl (g.Ops.length - 1) 1 [] z.2 o z.1.1 (by rw [hops]; simp; omega) (by simp) hf.1 hd2
      rw [hdrop] at this
      exact this
    ·rw [he]
     refine A9 (a3r _ _ _ _ _ _ _ _ _ _ _ _ _ _ _ _ _ _ _) (A8 _ (fun _=>D6 ⟨h0,rfl⟩) fun q=> ?_)
     exact absurd (ne0 h0) (by rw [q]; simp)
noncomputable def e8o (p:A5) (name data:ByteArray) (l:Y3):A0 × Int:=
 if (Y0 p name).2=false then (V0,10)
 else if l.Bytes<0\/l.Depth<0\/l.Nodes<0\/l.Text<0 then (V0,1)
 else if l.Bytes<(data.size:Int) then (V0,3)
 else match msR p l.Depth.toNat (Y0 p name).1 ⟨data,0,data.size,l.Depth,l.Nodes,l.Text⟩ with
  |.error e=>(V0,e)
  |.ok x=>if 0<a07 x.2.Data x.2.At x.2.End then (V0,18) else (x.1,0)
theorem f2v {p:A5} (hp:OkX p) (name data:ByteArray) (l:Y3) (hz:data.size<=140737488351232) (hd:l.Depth<=4611686018427387904) (hn:l.Nodes<=4611686018427387904):b79 p name data l (e8o p name data l):=by
 have hpl:=E4 hp.pl.np
 have neg:((((decide (l.Bytes<0))||(decide (l.Depth<0)))||(decide (l.Nodes<0)))||(decide (l.Text<0)))=decide (l.Bytes<0\/l.Depth<0\/l.Nodes<0\/l.Text<0):=by
  rw [Bool.eq_iff_iff]
  simp only [Bool.or_eq_true,decide_eq_true_eq]
  omega
 by_cases hf:(Y0 p name).2=true
 rotate_left
 ·have hf':(Y0 p name).2=false:=by simpa using hf
  refine a6u _ _ _ _ _ ⟨_,c8h p hpl name,fun _=> ?_,fun h=>by rw [hf'] at h; simp at h⟩
  rw [e8o,if_pos hf']; rfl
 have nf:¬(Y0 p name).2=false:=by simp [hf]
 by_cases hneg:l.Bytes<0\/l.Depth<0\/l.Nodes<0\/l.Text<0
 ·refine a6u _ _ _ _ _ ⟨_,c8h p hpl name,fun h=>by simp [hf] at h,fun _=>⟨_,a9n _ _ _ ⟨fun _=>rfl,fun h=>by rw [neg] at h; exact absurd hneg (of_decide_eq_false h)⟩,fun _=> ?_,fun h=>by simp at h⟩⟩
  rw [e8o,if_neg nf,if_pos hneg]; rfl
 by_cases hby:l.Bytes<(data.size:Int)
 ·refine a6u _ _ _ _ _ ⟨_,c8h p hpl name,fun h=>by simp [hf] at h,fun _=>⟨_,a9n _ _ _ ⟨fun h=>by rw [neg] at h; exact absurd (of_decide_eq_true h) hneg,fun _=>⟨fun _=>rfl,fun h=>absurd hby (of_decide_eq_false h)⟩⟩,fun _=> ?_,fun h=>by simp at h⟩⟩
  rw [e8o,if_neg nf,if_neg hneg,if_pos hby]; rfl
 obtain ⟨t0,g,hgt⟩:=d6j p name hf
 have hc:Snd ⟨data,0,data.size,l.Depth,l.Nodes,l.Text⟩:=⟨hz,by simp,by simp,by simp,by simp only; omega,by simp only; omega,by simp only; omega,by simp only; omega⟩
 obtain ⟨y,hy,hs⟩:=d07 hp l.Depth.toNat _ g _ hgt t0 hc (by simp only; omega)
 have hfw:=e3i hp l.Depth.toNat _ g _ hgt t0 hc
 refine a6u _ _ _ _ _ ⟨_,c8h p hpl name,fun h=>by simp [hf] at h,fun _=>⟨_,a9n _ _ _ ⟨fun h=>by rw [neg] at h; exact absurd (of_decide_eq_true h) hneg,fun _=>⟨fun h=>absurd (of_decide_eq_true h) hby,fun _=>rfl⟩⟩,fun h=>by simp at h,fun _=>⟨y,hy, ?_⟩⟩⟩
 have ed:e8o p name data l=match msR p l.Depth.toNat (Y0 p name).1 ⟨data,0,data.size,l.Depth,l.Nodes,l.Text⟩ with
  |.error e=>(V0,e)
  |.ok x=>if 0<a07 x.2.Data x.2.At x.2.End then (V0,18) else (x.1,0):=by rw [e8o,if_neg nf,if_neg hneg,if_neg hby]
 cases he:msR p l.Depth.toNat (Y0 p name).1 ⟨data,0,data.size,l.Depth,l.Nodes,l.Text⟩ with
 |error e=>
  rw [he] at hs ed
  rw [ed]
  refine ⟨fun _=>by rw [hs.2]; rfl,fun h=> ?_⟩
  rw [hs.2] at h
  exact absurd (ne0 hs.1) (by rw [h]; simp)
 |ok x=>
  rw [he] at hs ed hfw
  have hs:y=(⟨p,x.2⟩,x.1,0):=hs
  subst hs
  rw [ed]
  simp only
  refine ⟨fun h=>by simp at h,fun _=>⟨_,d1n x.2 hfw.1.okc,fun h=> ?_,fun h=> ?_⟩⟩
  ·rw [if_pos (of_decide_eq_true h)]; rfl
  ·rw [if_neg (of_decide_eq_false h)]
theorem c7f (d:ByteArray) (D N T:Int):O4 ⟨d,0,d.size,D,N,T⟩=d:=f5y d
theorem d8g {p:A5} (hp:OkX p) {n:Nat} {t:Int} {x:A0} (h:RfV p n t x) (d:ByteArray) (hz:d.size<=140737488351232) {D N T:Int} (hD:0<=D /\ D<=4611686018427387904) (hN:0<=N /\ N<=4611686018427387904) (hT:0<=T) (hpre:(∃u,d=a3s p n t x++u)\/∃u,a3s p n t x=d++u):Got ⟨d,0,d.size,D,N,T⟩ (a3s p n t x) (cV x) x (msR p D.toNat t ⟨d,0,d.size,D,N,T⟩):=by
 have hc:Snd ⟨d,0,d.size,D,N,T⟩:=⟨hz,by simp,by simp,by simp,hD.1,hD.2,hN.1,hN.2⟩
 refine f3h hp n D.toNat t x h _ hc hT (by simp only; omega) ?_
 unfold Ahd
 rw [c7f]
 exact hpre
structure Enc (p:A5) (name:ByteArray) (v:A0) (x:A0):Prop where
 find:(Y0 p name).2=true
 body:(b8g p name v).1=a3s p (SizeOf.sizeOf v) (Y0 p name).1 x
 rf:RfV p (SizeOf.sizeOf v) (Y0 p name).1 x
 lim:Lim 1 (cV x)
 n:(cV x).n<=4096
 sz:(b8g p name v).1.size<=65536
 eq:x=J2 p (SizeOf.sizeOf v) (Y0 p name).1 v
 at_:∃g,p.Progs[(Y0 p name).1.toNat]? =some g /\ 0<=(Y0 p name).1
 msg:b6i p (SizeOf.sizeOf v) (Y0 p name).1 v 1=0
 nox:NoX v
theorem e3c {p:A5} (hp:OkX p) (name:ByteArray) {v:A0} (hv:OkD v) (hw:wtV v<=134217728) (h:(b8g p name v).2=0):Enc p name v (J2 p (SizeOf.sizeOf v) (Y0 p name).1 v):=by
 by_cases hf:(Y0 p name).2=true
 rotate_left
 ·have hf':(Y0 p name).2=false:=by simpa using hf
  rw [b8g,if_pos hf'] at h; exact absurd h (by decide)
 have nf:¬(Y0 p name).2=false:=by simp [hf]
 obtain ⟨t0,g,hgt⟩:=d6j p name hf
 by_cases hfit:c9z p (SizeOf.sizeOf v) (Y0 p name).1 v=0
 rotate_left
 ·rw [b8g,if_neg nf,if_pos hfit] at h; exact absurd h hfit
 have nfit:¬c9z p (SizeOf.sizeOf v) (Y0 p name).1 v≠0:=by omega
 by_cases hx:a70 (SizeOf.sizeOf v) v=true
 ·rw [b8g,if_neg nf,if_neg nfit,if_pos hx] at h; exact absurd h (by decide)
 by_cases hs:65536<(a3s p (SizeOf.sizeOf v) (Y0 p name).1 (J2 p (SizeOf.sizeOf v) (Y0 p name).1 v)).size
 ·rw [b8g,if_neg nf,if_neg nfit,if_neg hx,if_pos hs] at h; exact absurd h (by decide)
 have e:b8g p name v=(a3s p (SizeOf.sizeOf v) (Y0 p name).1 (J2 p (SizeOf.sizeOf v) (Y0 p name).1 v),0):=by rw [b8g,if_neg nf,if_neg nfit,if_neg hx,if_neg hs]
 obtain ⟨m1,m2⟩:=b8k hfit
 have hc:=d3g (SizeOf.sizeOf v) v (Nat.le_refl _)
 have hle:=d3d (SizeOf.sizeOf v) v
 have hn:nV v<=4096:=by
  split at m2
  ·exact absurd m2 (by decide)
  ·rename_i q
   rw [wI,D5 (by omega)] at q
   omega
 obtain ⟨r1,r2⟩:=e4x hp _ _ g v 1 hgt t0 hv (Nat.le_refl _) m1 ⟨_,Nat.le_refl _,by simpa using hx⟩ hn
 have hnn:=e53 p (SizeOf.sizeOf v) (Y0 p name).1 v
 exact ⟨hf,by rw [e],r1,r2,Nat.le_trans hnn hn,by rw [e]; simp only; omega,rfl,⟨g,hgt,t0⟩,m1,⟨_,Nat.le_refl _,by simpa using hx⟩⟩
theorem d8l {p:A5} {name d:ByteArray} {l:Y3} (hf:(Y0 p name).2=true) (h0:¬(l.Bytes<0\/l.Depth<0\/l.Nodes<0\/l.Text<0)) (hb:(d.size:Int)<=l.Bytes):e8o p name d l=match msR p l.Depth.toNat (Y0 p name).1 ⟨d,0,d.size,l.Depth,l.Nodes,l.Text⟩ with
  |.error e=>(V0,e)
  |.ok x=>if 0<a07 x.2.Data x.2.At x.2.End then (V0,18) else (x.1,0):=by
 (rw [e8o,if_neg (by simp [hf]),if_neg h0,if_neg (by omega)])<;>(cases msR p l.Depth.toNat (Y0 p name).1 ⟨d,0,d.size,l.Depth,l.Nodes,l.Text⟩<;>rfl)
section
variable {p:A5} (hp:OkX p) {name:ByteArray} {v x:A0} (h:Enc p name v x)
 include hp h
theorem f0g (d:ByteArray) (D N T k n:Int) (hk:0<=k /\ k<=d.size):a07 (adv ⟨d,0,d.size,D,N,T⟩ k n).Data (adv ⟨d,0,d.size,D,N,T⟩ k n).At (adv ⟨d,0,d.size,D,N,T⟩ k n).End=d.size - k:=by
 simp only [adv,Int.zero_add]
 rw [a07,if_pos (by simp [b1h]; omega)]
theorem f08 (u:ByteArray) (hu:0<u.size) (hu2:u.size<=100000) (l:Y3) (hb:((b8g p name v).1.size+u.size:Int)<=l.Bytes) (hd:l.Depth=16) (hn:l.Nodes=4096) (ht:l.Text=4096):e8o p name ((b8g p name v).1++u) l=(V0,18):=by
 obtain ⟨l1,l2⟩:=h.lim
 have hs:=h.sz
 have hn2:=h.n
 have esz:((b8g p name v).1++u).size=(b8g p name v).1.size+u.size:=I3 _ _
 rw [d8l h.find (by omega) (by rw [esz]; omega)]
 have g:=d8g hp h.rf ((b8g p name v).1++u) (by rw [esz]; omega) (D:=l.Depth) (N:=l.Nodes) (T:=l.Text) (by omega) (by omega) (by omega) (.inl ⟨u,by rw [h.body]⟩)
 rw [<-h.body] at g
 generalize hr:msR p l.Depth.toNat (Y0 p name).1 ⟨(b8g p name v).1++u,0,((b8g p name v).1++u).size,l.Depth,l.Nodes,l.Text⟩=r at g ⊢
 cases r with
 |error e=>
  simp only [Got] at g
  rcases g with ⟨_,q⟩|⟨_,q⟩|⟨_,q⟩
  ·exact absurd ⟨u,by rw [c7f]⟩ q
  ·omega
  ·omega
 |ok y=>
  obtain ⟨rfl,_⟩:=g
  simp only
  rw [f0g hp h _ _ _ _ _ _ (by rw [esz]; omega),if_pos (by rw [esz]; omega)]
theorem f6i (d u:ByteArray) (hd:(b8g p name v).1=d++u) (hu:u.size≠0) (l:Y3) (hb:(d.size:Int)<=l.Bytes) (hd2:l.Depth=16) (hn:l.Nodes=4096) (ht:l.Text=4096):e8o p name d l=(V0,4):=by
 obtain ⟨l1,l2⟩:=h.lim
 have hs:=h.sz
 have hn2:=h.n
 have esz:(b8g p name v).1.size=d.size+u.size:=by rw [hd,I3]
 rw [d8l h.find (by omega) hb]
 have g:=d8g hp h.rf d (by omega) (D:=l.Depth) (N:=l.Nodes) (T:=l.Text) (by omega) (by omega) (by omega) (.inr ⟨u,by rw [<-h.body,hd]⟩)
 rw [<-h.body] at g
 generalize hr:msR p l.Depth.toNat (Y0 p name).1 ⟨d,0,d.size,l.Depth,l.Nodes,l.Text⟩=r at g ⊢
 cases r with
 |error e=>
  simp only [Got] at g
  rcases g with ⟨q,_⟩|⟨_,q⟩|⟨_,q⟩
  ·rw [q]
  ·omega
  ·omega
 |ok y=>
  obtain ⟨_,⟨w,hw⟩,_⟩:=g
  rw [c7f] at hw
  have:=congrArg ByteArray.size hw
  rw [I3] at this
  omega
end
theorem d83:b5o ⟨65536,16,4096,4096⟩:=c5e _ rfl
theorem f56 (s:ByteArray) (k:Nat) (hk:k<=s.size):s=s.extract 0 k++s.extract k s.size:=by
 refine d9g ?_ fun i hi=> ?_
 ·rw [I3,U6 _ hk,U6 _ (Nat.le_refl _)]; omega
 ·rcases Nat.lt_or_ge i k with q|q
  ·rw [a5m _ _ (by rw [U6 _ hk]; omega),Z4 _ (by omega),Nat.zero_add]
  ·have e:H5 (s.extract 0 k++s.extract k s.size) i=H5 (s.extract k s.size) (i - k):=by
    unfold H5 F0
    have hl:(s.extract 0 k).data.toList.length=k:=by
     have:(s.extract 0 k).data.toList.length=(s.extract 0 k).size:=Array.length_toList
     rw [this,U6 _ hk]; omega
    rw [b7l,List.getD_eq_getElem?_getD,List.getElem?_append_right (by omega),hl,<-List.getD_eq_getElem?_getD]
   rw [e,Z4 _ (by omega)]
   congr 1
   omega
theorem e2f (aw:b09 true) (p:A5) (hp:b7z p) (name:ByteArray) (v:A0) (hv:OkD v) (hw:wtV v<=134217728) (q:a1c) (hq:0<=q.a0 /\ q.a0<=65535):c1w p name v q true:=by
 obtain ⟨b,h1,h2⟩:=d6a p hp
 refine c2a _ _ _ _ _ ⟨b,h1,fun z=>z=(!b|| !decide (wI (a2u (SizeOf.sizeOf v) v)<=5000)),fun z hz=>⟨fun _=>rfl,fun hz2=> ?_⟩,fun hb=>by rw [hb,Bool.true_or],fun hb=>⟨_,f0m v hv,by rw [hb,Bool.false_or]⟩⟩
 rw [hz2] at hz
 have hb:b=true:=by
  cases b with
  |true=>rfl
  |false=>simp at hz
 have hx:=h2 hb
 refine ⟨_,f96 hx name hv hw,fun _=>⟨_,aw,rfl⟩,fun h=> ?_⟩
 simp only [Bool.or_eq_false_iff,bne_eq_false_iff_eq,decide_eq_false_iff_not] at h
 have e:=e3c hx name hv hw h.1
 have hs:(b8g p name v).1.size<=3000:=by omega
 have hbl:b64 [IntKind.u8.wrap q.a1]:=a0w (by simp only [IntKind.wrap,IntKind.signed,IntKind.bits]; simp; omega)
 have hz1:(ofI [IntKind.u8.wrap q.a1]).size=1:=b14 _
 refine ⟨_,c66 hbl,by rw [hz1]; omega,_,d83,_,f2v hx name _ _ (by rw [I3,hz1]; omega) (by decide) (by decide), ?_⟩
 rw [f08 hx e _ (by rw [hz1]; omega) (by rw [hz1]; omega) ⟨65536,16,4096,4096⟩ (by rw [hz1]; simp only; omega) rfl rfl rfl]
 refine ⟨fun h=>by simp at h,fun _=>⟨fun _=>⟨_,aw,rfl⟩,fun hne=> ?_⟩⟩
 have hne:(b8g p name v).1≠⟨#[]⟩:=of_decide_eq_false hne
 have hpos:(b8g p name v).1.size≠0:=fun h=>hne (f48 h)
 have ew:wI q.a0=q.a0:=by rw [wI,D5 (by omega)]
 have et:(wI q.a0).tmod ((b8g p name v).1.size:Int)=((q.a0.toNat % (b8g p name v).1.size:Nat):Int):=by
  have e0:((q.a0.toNat:Nat):Int)=q.a0:=by omega
  rw [ew,Int.tmod_eq_emod_of_nonneg hq.1,Int.natCast_emod,e0]
 have hlt:q.a0.toNat % (b8g p name v).1.size<(b8g p name v).1.size:=Nat.mod_lt _ (by omega)
 rw [et]
 refine ⟨by omega,⟨by omega,by omega,by omega⟩,_,d83,_,f2v hx name _ _ (by rw [Int.toNat_natCast,U6 _ (by omega)]; omega) (by decide) (by decide), ?_⟩
 rw [Int.toNat_natCast,Int.toNat_zero]
 rw [f6i hx e _ ((b8g p name v).1.extract (q.a0.toNat % (b8g p name v).1.size) (b8g p name v).1.size) (f56 _ _ (by omega)) (by rw [U6 _ (Nat.le_refl _)]; omega) ⟨65536,16,4096,4096⟩ (by rw [U6 _ (by omega)]; simp only; omega) rfl rfl rfl]
 exact ⟨fun _=>⟨_,aw,rfl⟩,fun h=>by simp at h⟩
section
variable {n:Nat} {av:AV}
theorem h18 (h:TyV Tryz.prog n 67 av):∃x,av=.agg (a0z x) /\ 0<=x.a0 /\ x.a0<=65535:=by
 obtain ⟨avs,rfl,g⟩:=f7i (k:=2) (e:=66) (by kernel_rfl) h
 obtain ⟨m,parts,rfl,rfl,hl,hp⟩:=g3z (k:=2) (e:=66) (by kernel_rfl) g
 match parts,hl,hp with
 |[a,b],_,hp=>
  obtain ⟨x1,rfl,k1⟩:=f4g (by kernel_rfl) (hp a (by simp))
  obtain ⟨x2,rfl,k2⟩:=f4g (by kernel_rfl) (hp b (by simp))
  exact ⟨⟨x1,x2⟩,rfl,k1.1,by simp only; omega⟩
end
noncomputable def tbl:Tbl:=h0v Tryz.prog [10,12,15,18,20,21,31,34,36,47,50,55,56,57,58,59,60,61,62,76,79,80,81,82,83,84,99,100,101,102,103,104,105,106,107,108,110,113,114,117,118,137,139,140,141,152,153,154,157,158,159,161,162,163,166,168,181,186,187,188,189,190,195,214,216,224]
theorem g15:c94 Tryz.prog tbl:=f9j (by kernel_rfl)
def g1w:Nat ->Bool ->Bool:=fun _ _=>false
theorem e3d:(e8r tbl g1w false (evC tbl g1w 100000) 15 [] ⟨[],[],[]⟩).map (fun r=>e1q r.2 r.1)=some (.v (.bool true)):=by kernel_rfl
theorem f1j:b09 true:=by
 have h:=run_pure (P:=Tryz.prog) g15 100000 e3d rfl
 exact ⟨h.1,fun w outer cargs ho hg hr=>(h.2 w outer cargs ho hg hr).mono fun e w' ⟨av,x,a,b,c,d⟩=>⟨av,x,a,b,c,by rw [d]; rfl⟩⟩
section
open Go.RowKit Go.ChangeShapes Go.WideShapes Go.ChangeAt
open _root_.Go.Proofs.YtidmmngcijapcaaGreat.Rows (uptoBulk uptoBulkAll uptoBulkEntries uptoBulkEntry)
section
variable {H:Type} {enc:TypeId × Value ->H} {P:Program} {W:World} {base b0:Nat} {spare:Nat ->Bool} {held:Bool}
theorem d8b:∀(els:List (List AV)) (ds:List (DataW H)),ds.length=els.length ->(∀(i:Nat) (el:List AV) (d:DataW H),els[i]? =some el ->ds[i]? =some d ->bL el<=uptoBulk d) ->bLL els<=uptoBulkAll ds
 |[],ds,_,_=>by simp [bLL]
 |el::els,[],h,_=>by simp at h
 |el::els,d::ds,h,hh=>by
  have h1:=hh 0 el d rfl rfl
  have h2:=d8b els ds (by simpa using h) fun i e d hi hd=>hh (i+1) e d (by simpa using hi) (by simpa using hd)
  simp only [bLL,uptoBulkAll]
  omega
theorem d5k {ts:List TypeId} (ok:d6x P ts=true):∀(n:Nat) (t:TypeId) (cs:List Value) (z:DataW H × List MemPlace),t∈ts ->DataW.trod enc P W base spare held n t cs=some z ->a0a P t z.1 ->
  ∃avs,F3 (bare W b5w) avs cs /\ Ty P n t avs /\ plainL avs=true /\ bL avs<=uptoBulk z.1:=by
 intro n
 induction n with
 |zero=>intro t cs z ht h; simp [DataW.trod] at h
 |succ n ih=>
  intro t cs z ht h hw
  have hok:=List.all_eq_true.1 ok t ht
  unfold okT at hok
  split at hok
  ·rename_i k hu
   obtain ⟨m,rfl,hz,hwf⟩:=DataW.trod_int hu h
   exact ⟨[.v (.int k m)],F3.one (.v _ rfl) rfl,by unfold Ty; rw [hu]; exact ⟨m,rfl,hwf⟩,rfl,by rw [hz]; simp [bL,bA,uptoBulk]⟩
  ·rename_i hu
   obtain ⟨b,rfl,hz⟩:=DataW.trod_bool hu h
   exact ⟨[.v (.bool b)],F3.one (.v _ rfl) rfl,by unfold Ty; rw [hu]; exact ⟨b,rfl⟩,rfl,by rw [hz]; simp [bL,bA,uptoBulk]⟩
  ·rename_i hu
   obtain ⟨s,rfl,rfl,_⟩:=DataW.trod_string hu h
   have:s.size<=140737488351232:=hw s.size (by simp [DataW.weights])
   exact ⟨[.v (.string s)],F3.one (.v _ rfl) rfl,by unfold Ty; rw [hu]; exact ⟨s,rfl,this⟩,rfl,by simp [bL,bA,uptoBulk]⟩
  ·rename_i e hu
   simp only [Bool.and_eq_true,decide_eq_true_eq,List.contains_iff_mem] at hok
   obtain ⟨⟨he,hk0⟩,hb1⟩:=hok
   rcases DataW.trod_slice hu h with ⟨hc,hx0⟩|⟨a,len,cap,elems,rest,m,hm,hc,hy,hb,hl,hmx,hlen,helem,_⟩
   ·subst hc
    exact ⟨[.sl [] .no],F3.one (.sl0 _ trivial) rfl,by unfold Ty; rw [hu]; exact ⟨[],rfl,by simp,fun el h=>by cases h⟩,rfl,by rw [hx0]; simp [bL,bA,bLL,uptoBulk]⟩
   ·subst hc hy
    obtain rfl:m=n:=by omega
    have hsh:=a0a.short hu hw
    rw [List.length_map,hlen] at hsh
    have key:∀i,i<len ->∃avs:List AV,∃vs:List Value,vs.length=P.cellsOf e /\ (∀j,j<P.cellsOf e ->W.cell? ((a.add (i*P.cellsOf e)).add j)=vs[j]?) /\ F3 (bare W b5w) avs vs /\ Ty P m e avs /\ plainL avs=true /\ ∀q,elems[i]? =some q ->bL avs<=uptoBulk q.1:=by
     intro i hi
     have h1:=helem i hi
     rw [List.getElem?_eq_getElem (by omega),Option.bind_eq_some_iff] at h1
     obtain ⟨vs,hc1,hc2⟩:=h1
     obtain ⟨_,hl1,hc3⟩:=World.cells?_some hc1
     obtain ⟨avs,h2,h3,h4,h5⟩:=ih e vs _ he hc2 (a0a.elem hu hw (i:=i) (by rw [List.getElem?_map,List.getElem?_eq_getElem (by omega)]; rfl))
     exact ⟨avs,vs,hl1,hc3,h2,h3,h4,fun q hq=>by rw [List.getElem?_eq_getElem (by omega)] at hq; cases hq; exact h5⟩
    obtain ⟨els,hel,hels⟩:=c6p len key
    have hty:∀el∈els,Ty P m e el /\ plainL el=true:=by
     intro el hmem
     obtain ⟨i,hi⟩:=List.mem_iff_getElem?.1 hmem
     obtain ⟨vs,_,_,_,q1,q2,_⟩:=hels i el hi
     exact ⟨q1,q2⟩
    refine ⟨[.sl els .no],F3.one ?_ rfl,by unfold Ty; rw [hu]; exact ⟨els,rfl,by rw [hel]; exact hsh,fun el h=>(hty el h).1⟩,by simp only [plainL,plain,Bool.true_and,Bool.and_true]; exact d01 fun p hp=>(hty p hp).2, ?_⟩
    rotate_left
    ·simp only [bL,bA,uptoBulk,Nat.add_zero]
     have hz:bLL els<=uptoBulkAll (elems.map (·.1)):=d8b els _ (by rw [List.length_map,hel,hlen]) fun i el d hi hd=>by
      obtain ⟨vs,_,_,_,_,_,q3⟩:=hels i el hi
      rw [List.getElem?_map,Option.map_eq_some_iff] at hd
      obtain ⟨q,hq,rfl⟩:=hd
      exact q3 q hq
     omega
    by_cases h0:len=0
    ·subst h0
     have:els=[]:=List.eq_nil_of_length_eq_zero hel
     subst this
     exact .slx _ a cap trivial (.inl rfl)
    ·obtain ⟨b,o,sp⟩:=a
     obtain ⟨avs0,vs0,hl0,hc0,_⟩:=key 0 (by omega)
     have hz:=hc0 0 hk0
     rw [List.getElem?_eq_getElem (by omega)] at hz
     have hspot:sp=none:=by
      have:=World.cell?_spot hz
      simpa [Addr.add] using this
     subst hspot
     have:=Rel.sl (σ:=bare W b5w) els .no b o cap (P.cellsOf e) (fun i j=>((W.cell? ⟨b,o+i*P.cellsOf e+j,none⟩).getD undef)) (fun i el hi=>by
       obtain ⟨vs,q1,_,q3,_⟩:=hels i el hi
       rw [<-q3.1,q1]) (by omega) trivial (fun id e h=>by cases h) (fun i el hi j av hj=>by
       obtain ⟨vs,q1,q2,q3,_⟩:=hels i el hi
       obtain ⟨c1,x,hx,hr⟩:=q3.2 j av hj
       have hjl:j<P.cellsOf e:=by rw [<-q1]; exact (List.getElem?_eq_some_iff.1 hx).1
       have:=q2 j hjl
       rw [Z9,Z9,hx] at this
       exact ⟨by show W.cell? _=_; rw [this]; rfl,fun h=>(b63 _ _ _ _).1 h,c1⟩) (fun i el hi j av hj=>by
       obtain ⟨vs,q1,q2,q3,_⟩:=hels i el hi
       obtain ⟨c1,x,hx,hr⟩:=q3.2 j av hj
       have hjl:j<P.cellsOf e:=by rw [<-q1]; exact (List.getElem?_eq_some_iff.1 hx).1
       have:=q2 j hjl
       rw [Z9,Z9,hx] at this
       rw [this]; exact hr)
     rw [hel] at this
     exact this
  ·rename_i fs hu
   simp only [Bool.and_eq_true,List.all_eq_true,List.contains_iff_mem] at hok
   obtain ⟨hfs,hcg⟩:=hok
   obtain ⟨xs,m,hm,rfl,hcl,hxl,hf⟩:=DataW.trod_struct hu h
   obtain rfl:m=n:=by omega
   have key:∀i,i<fs.size ->∃avs:List AV,∀f,fs[i]? =some f ->F3 (bare W b5w) avs ((cs.drop f.offset).take (P.cellsOf f.type)) /\ Ty P m f.type avs /\ plainL avs=true /\ ∀q,xs[i]? =some q ->bL avs<=uptoBulk q.1:=by
    intro i hi
    have hfi:fs[i]? =some fs[i]:=Array.getElem?_eq_getElem hi
    have e:xs[i]? =some xs[i]:=List.getElem?_eq_getElem (by omega)
    obtain ⟨avs,h2,h3,h4,h5⟩:=ih fs[i].type _ _ (hfs _ (by simp)) ((hf i _ hfi).trans e) (a0a.part hu hw hfi (by rw [List.getElem?_map,e]; rfl))
    refine ⟨avs,fun f hf'=> ?_⟩
    rw [hfi] at hf'; cases hf'
    exact ⟨h2,h3,h4,fun q hq=>by rw [e] at hq; cases hq; exact h5⟩
   obtain ⟨parts,hpl,hparts⟩:=c6p fs.size key
   have hcells:=c4u (P:=P) (bare W b5w) fs.toList 0 (P.cellsOf t) cs parts hcg hcl (by simpa using hpl) (fun i f p hfi hpi=>(hparts i p hpi f (by simpa using hfi)).1)
   refine ⟨parts.flatten,by simpa using hcells, ?_,b3d fun p hp=> ?_, ?_⟩
   ·unfold Ty; rw [hu]
    refine ⟨parts,rfl,hpl,fun i f hfi=> ?_⟩
    have hi:i<parts.length:=by rw [hpl]; exact (Array.getElem?_eq_some_iff.1 hfi).1
    exact ⟨parts[i],List.getElem?_eq_getElem hi,(hparts i _ (List.getElem?_eq_getElem hi) f hfi).2.1⟩
   ·obtain ⟨i,hi⟩:=List.mem_iff_getElem?.1 hp
    have hlt:i<fs.size:=by rw [<-hpl]; exact (List.getElem?_eq_some_iff.1 hi).1
    exact (hparts i p hi fs[i] (Array.getElem?_eq_getElem hlt)).2.2.1
   ·rw [c3k]
    simp only [uptoBulk]
    have hz:bLL parts<=uptoBulkAll (xs.map (·.1)):=d8b parts _ (by rw [List.length_map,hpl,hxl]) fun i p d hi hd=>by
     have hlt:i<fs.size:=by rw [<-hpl]; exact (List.getElem?_eq_some_iff.1 hi).1
     rw [List.getElem?_map,Option.map_eq_some_iff] at hd
     obtain ⟨q,hq,rfl⟩:=hd
     exact (hparts i p hi fs[i] (Array.getElem?_eq_getElem hlt)).2.2.2 q hq
    omega
  ·rename_i k e hu
   simp only [Bool.and_eq_true,decide_eq_true_eq,List.contains_iff_mem] at hok
   obtain ⟨he,hke⟩:=hok
   obtain ⟨xs,m,hm,rfl,hcl,hxl,hf⟩:=DataW.trod_array hu h
   obtain rfl:m=n:=by omega
   have key:∀i,i<k ->∃avs:List AV,F3 (bare W b5w) avs ((cs.drop (i*P.cellsOf e)).take (P.cellsOf e)) /\ Ty P m e avs /\ plainL avs=true /\ ∀q,xs[i]? =some q ->bL avs<=uptoBulk q.1:=by
    intro i hi
    have e1:xs[i]? =some xs[i]:=List.getElem?_eq_getElem (by omega)
    obtain ⟨avs,h2,h3,h4,h5⟩:=ih e _ _ he ((hf i hi).trans e1) (a0a.at_ hu hw (by rw [List.getElem?_map,e1]; rfl))
    exact ⟨avs,h2,h3,h4,fun q hq=>by rw [e1] at hq; cases hq; exact h5⟩
   obtain ⟨parts,hpl,hparts⟩:=c6p k key
   have hall:∀p∈parts,Ty P m e p /\ plainL p=true:=by
    intro p hp
    obtain ⟨i,hi⟩:=List.mem_iff_getElem?.1 hp
    exact ⟨(hparts i p hi).2.1,(hparts i p hi).2.2.1⟩
   refine ⟨parts.flatten,d0g _ (P.cellsOf e) parts cs (by rw [hcl,hpl,hke]) (fun i p hi=>(hparts i p hi).1), ?_,b3d fun p hp=>(hall p hp).2, ?_⟩
   ·unfold Ty; rw [hu]
    exact ⟨parts,rfl,hpl,fun p hp=>(hall p hp).1⟩
   ·rw [c3k]
    simp only [uptoBulk]
    have hz:bLL parts<=uptoBulkAll (xs.map (·.1)):=d8b parts _ (by rw [List.length_map,hpl,hxl]) fun i p d hi hd=>by
     rw [List.getElem?_map,Option.map_eq_some_iff] at hd
     obtain ⟨q,hq,rfl⟩:=hd
     exact (hparts i p hi).2.2.2 q hq
    omega
  ·cases hok
theorem b5h {ts:List TypeId} (ok:d6x P ts=true) {t:TypeId} (ht:t∈ts) {v:Value} {d:DataW H} {p:List MemPlace} (hval:Value.okWide P W .any b0 t v) (h:DataW.Trod enc P W base spare held t v d p) (hw:a0a P t d):
  ∃n av,Rel (bare W b5w) av v /\ TyV P n t av /\ plain av=true /\ bA av<=uptoBulk d+1:=by
 obtain ⟨m,hm⟩:=h
 obtain ⟨avs,hc,hty,hpl,hbk⟩:=d5k ok m t _ _ ht hm hw
 cases m with
 |zero=>simp [DataW.trod] at hm
 |succ m=>
  have hok:=List.all_eq_true.1 ok t ht
  unfold okT at hok
  unfold TyV
  unfold Value.okWide at hval
  split at hok
  ·rename_i k hu
   rw [hu] at hval
   simp only [Cell.okWide,hu,Cell.ok] at hval
   have h2:=hty; unfold Ty at h2; rw [hu] at h2
   obtain ⟨x,rfl,_⟩:=h2
   refine ⟨m+1,_,c1j hc (fun cs he=>by subst he; simp at hval),by rw [hu]; exact hty,rfl,by simp only [bL] at hbk; omega⟩
  ·rename_i hu
   rw [hu] at hval
   simp only [Cell.okWide,hu,Cell.ok] at hval
   have h2:=hty; unfold Ty at h2; rw [hu] at h2
   obtain ⟨x,rfl⟩:=h2
   refine ⟨m+1,_,c1j hc (fun cs he=>by subst he; simp at hval),by rw [hu]; exact hty,rfl,by simp only [bL] at hbk; omega⟩
  ·rename_i hu
   rw [hu] at hval
   simp only [Cell.okWide,hu,Cell.ok] at hval
   have h2:=hty; unfold Ty at h2; rw [hu] at h2
   obtain ⟨x,rfl,_⟩:=h2
   refine ⟨m+1,_,c1j hc (fun cs he=>by subst he; simp at hval),by rw [hu]; exact hty,rfl,by simp only [bL] at hbk; omega⟩
  ·rename_i e hu
   rw [hu] at hval
   simp only [Cell.okWide,hu,Cell.ok] at hval
   have h2:=hty; unfold Ty at h2; rw [hu] at h2
   obtain ⟨x,rfl,_⟩:=h2
   refine ⟨m+1,_,c1j hc (fun cs he=>by subst he; simp at hval),by rw [hu]; exact hty,by simpa [plainL] using hpl,by simp only [bL] at hbk; omega⟩
  ·rename_i fs hu
   rw [hu] at hval
   obtain ⟨cs,rfl,_⟩:=hval
   exact ⟨m+1,.agg avs,d41 hc,by rw [hu]; exact ⟨avs,rfl,hty⟩,hpl,by simp only [bA]; have:uptoBulk (d,p).1=uptoBulk d:=rfl; omega⟩
  ·rename_i k e hu
   rw [hu] at hval
   obtain ⟨cs,rfl,_⟩:=hval
   exact ⟨m+1,.agg avs,d41 hc,by rw [hu]; exact ⟨avs,rfl,hty⟩,hpl,by simp only [bA]; have:uptoBulk (d,p).1=uptoBulk d:=rfl; omega⟩
  ·cases hok
end
end
end Go.Proofs.YtidmmngcijapcaaGreat.Lift
