/- Part 8 of the texts that prove RowCanonicalEnd. -/
import Derived.Test.YtidmmngcijapcaaGreatRowCanonicalEndP6
import Derived.Test.YtidmmngcijapcaaGreatRowCanonicalEndP3
import Derived.Test.YtidmmngcijapcaaGreatRowCanonicalEndP4
import Derived.Test.YtidmmngcijapcaaGreatRowCanonicalEndP5
namespace Go.Proofs.YtidmmngcijapcaaGreat.Lift
open Go.RowKit
set_option linter.unusedVariables false
set_option linter.unusedSimpArgs false
set_option linter.unnecessarySimpa false
set_option linter.unusedSectionVars false
set_option maxRecDepth 100000
theorem b39(a b:ByteArray):bI (a++b)=bI a++bI b:=by simp[bI]
def c7v:List ByteArray->ByteArray
 |[]=>⟨#[]⟩
 |x::l=>x++c7v l
theorem b18(a b c:ByteArray):(a++b)++c=a++(b++c):=ByteArray.append_assoc
theorem b9c(a:ByteArray):a++(⟨#[]⟩:ByteArray)=a:=ByteArray.append_empty
theorem d8g(l:List ByteArray):(c7v l).size=a3a ByteArray.size l:=by
 induction l with
 |nil=>rfl
 |cons x l ih=>simp only[c7v,a3a,K3,ih]
theorem c4m{α β:Type}(f:β->Nat)(g:α->β):∀l:List α,a3a f (l.map g)=a3a (fun x=>f (g x)) l
 |[]=>rfl
 |x::l=>by simp only[List.map_cons,a3a,c4m f g l]
theorem b81{α:Type}{f g:α->Nat}:∀{l:List α},(∀x∈l,f x<=g x)->a3a f l<=a3a g l
 |[],_=>by simp[a3a]
 |x::l,h=>by
  have h1:=h x (by simp);have h2:=b81 (l:=l) fun y hy=>h y (by simp[hy])
  simp only[a3a];omega
theorem c0b{α:Type}(k:Nat)(f:α->Nat):∀l:List α,a3a (fun x=>k*f x) l=k*a3a f l
 |[]=>by simp[a3a]
 |x::l=>by simp only[a3a,c0b k f l,Nat.mul_add]
abbrev c5o:=Int->A0->ByteArray
def a6b(W:c5o)(o:GOp)(v:A0):ByteArray:=if o.Kind=10 then W o.Target v else c2o v
def b8y(W:c5o)(o:GOp)(x:A0 × A0):ByteArray:=c2o x.1++a6b W o x.2
def a0t(W:c5o)(o:GOp)(x:A0)(set:Bool):ByteArray:=
 if o.Card=4 then b1l x.List_.length++c7v (x.List_.map (a6b W o))
 else if o.Card=5 then b1l x.Pairs.length++c7v (x.Pairs.map (b8y W o))
 else if o.Card=1 then a6b W o x
 else if set=true then(⟨#[1]⟩:ByteArray)++a6b W o x else⟨#[0]⟩
def a4v(W:c5o):List GOp->List (Int × A0)->ByteArray
 |[],_=>⟨#[]⟩
 |o::ops,[]=>a0t W o V0 false++a4v W ops []
 |o::ops,s::S=>if s.1=o.Num then a0t W o s.2 true++a4v W ops S else a0t W o V0 false++a4v W ops (s::S)
def O7(p:A6):Nat->c5o
 |0,_,_=>⟨#[]⟩
 |n+1,t,v=>match p.Progs[t.toNat]? with
  |none=>⟨#[]⟩
  |some g=>a4v (O7 p n) g.Ops v.Slots
def b5q(R:GOp->A0->Prop):List GOp->List (Int × A0)->Prop
 |[],S=>S=[]
 |o::ops,[]=>o.Card≠1/\b5q R ops []
 |o::ops,s::S=>(s.1=o.Num->R o s.2/\b5q R ops S)/\(s.1≠o.Num->o.Card≠1/\b5q R ops (s::S))
def NfF(B:Int->A0->Prop)(o:GOp)(z:A0):Prop:=
 OkD z/\(o.Card=4->∀y∈z.List_,o.Kind=10->B o.Target y)/\(o.Card=5->∀y∈z.Pairs,o.Kind=10->B o.Target y.2)/\(o.Card≠4->o.Card≠5->o.Kind=10->B o.Target z)
def NfV(p:A6):Nat->Int->A0->Prop
 |0,_,_=>False
 |n+1,t,x=>∃g,p.Progs[t.toNat]? =some g/\0<=t/\OkD x/\b5q (NfF (NfV p n)) g.Ops x.Slots
theorem d7g(v:A0)(hv:OkV v):(c2o v).size<=10+v.Text.size:=by
 have ht:=hv.t;have hb:=hv.b1;have hn:=hv.b0;unfold c2o;split
 ·split
  ·rw[b1w];simp;omega
  split
  ·have:=a90 (e5w (wI v.Bits)) (d98 (d45 _));omega
  split
  ·rw[c9j];omega
  split
  ·rw[K3];have:=a90 v.Text.size (by omega);omega
  ·have:=a90 v.Bits.toNat (by omega);omega
 ·show 0<=_;omega
section
variable {W:c5o}{B:Int->A0->Prop}(hS:∀t x,B t x->(W t x).size<=1000000*wtV x)
 include hS
theorem c63(o:GOp)(y:A0)(hy:OkV y)(hb:o.Kind=10->B o.Target y):(a6b W o y).size<=1000000*wtV y:=by
 unfold a6b;split
 ·rename_i h;exact hS _ _ (hb h)
 ·have h1:=d7g y hy;have h2:=b6l y;omega
theorem e4w(o:GOp)(z:A0)(hz:NfF B o z):(a0t W o z true).size<=11+1000000*wtV z:=by
 obtain⟨hd,h4,h5,h6⟩:=hz;obtain⟨_,_,⟨la,pa,sa,ra⟩,hl,hp,hs⟩:=hd.inv;have b1:=D8 la;have b2:=D8 pa;have e:=b6l z;unfold a0t;split
 ·rename_i hc;rw[K3,d8g,c4m];have h1:=a90 z.List_.length (by omega);have h2:=b81 (l:=z.List_) (f:=fun y=>(a6b W o y).size) (g:=fun y=>1000000*wtV y) fun y hy=>c63 hS o y (hl y hy).okv (h4 hc y hy)
  rw[c0b]at h2;omega
 split
 ·rename_i hc;rw[K3,d8g,c4m];have h1:=a90 z.Pairs.length (by omega)
  have h2:=b81 (l:=z.Pairs) (f:=fun y=>(b8y W o y).size) (g:=fun y=>1000000*wtP y) fun y hy=>by
   have a:=c63 hS o y.2 (hp y hy).2.okv (h5 hc y hy);have b:=d7g y.1 (hp y hy).1.okv;have c:=b6l y.1;simp only[b8y,K3,wtP];omega
  rw[c0b]at h2;omega
 ·rename_i n4 n5;have h1:=c63 hS o z hd.okv (h6 n4 n5);split
  ·omega
  ·rw[if_pos rfl,K3];have:(⟨#[1]⟩:ByteArray).size=1:=rfl;omega
theorem d3k(o:GOp)(h1:o.Card≠1):(a0t W o V0 false).size<=11:=by
 have e:(b1l 0).size<=10:=a90 0 (by omega);unfold a0t
 by_cases h4:o.Card=4
 ·rw[if_pos h4,K3];have:(c7v (V0.List_.map (a6b W o))).size=0:=rfl;have:(b1l V0.List_.length)=b1l 0:=rfl;rw[this];omega
 by_cases h5:o.Card=5
 ·rw[if_neg h4,if_pos h5,K3];have:(c7v (V0.Pairs.map (b8y W o))).size=0:=rfl;have:(b1l V0.Pairs.length)=b1l 0:=rfl;rw[this];omega
 ·rw[if_neg h4,if_neg h5,if_neg h1,if_neg (by decide)];show 1<=11;omega
theorem c0f:∀(ops:List GOp) (S:List (Int × A0)),b5q (NfF B) ops S->(a4v W ops S).size<=11*ops.length+1000000*a3a wtS S
 |[],S,_=>by show 0<=_;omega
 |o::ops,[],h=>by
  have h1:=d3k (W:=W) hS o h.1;have h2:=c0f ops [] h.2;simp only[a4v,K3,List.length_cons];omega
 |o::ops,s::S,h=>by
  simp only[a4v];split
  ·rename_i he;obtain⟨hr,hm⟩:=h.1 he;have h1:=e4w hS o s.2 hr;have h2:=c0f ops S hm;simp only[K3,List.length_cons,a3a,wtS];omega
  ·rename_i he;obtain⟨hr,hm⟩:=h.2 he;have h1:=d3k (W:=W) hS o hr;have h2:=c0f ops (s::S) hm;simp only[K3,List.length_cons];omega
end
theorem e0h{p:A6}(hp:OkX p){g:B7}(hg:g∈p.Progs):g.Ops.length<=65535:=by
 have h:=b99 (hp.va.asc g hg);have hn:=hp.va.num g hg;rcases Nat.lt_or_ge 65535 g.Ops.length with hlt|hge
 ·have key:∀i (hi:i<g.Ops.length),(i:Int)+1<=g.Ops[i].Num:=by
   intro i
   induction i with
   |zero=>intro hi;have:=(hn _ (List.getElem_mem hi)).1;simpa using this
   |succ i ih=>
    intro hi;have h1:=ih (by omega);have h2:=List.pairwise_iff_getElem.1 h i (i+1) (by omega) hi (by omega);omega
  have h1:=key 65535 hlt;have h2:=(hn _ (List.getElem_mem hlt)).2;omega
 ·exact hge
theorem d8q{p:A6}(hp:OkX p):∀(n:Nat) (t:Int) (x:A0),NfV p n t x->(O7 p n t x).size<=1000000*wtV x
 |0,t,x,h=>h.elim
 |n+1,t,x,⟨g,hgt,ht,hx,hm⟩=>by
  have hg:g∈p.Progs:=List.mem_of_getElem? hgt;have h1:=c0f (d8q hp n) g.Ops x.Slots hm;have h2:=e0h hp hg;have e:=b6l x;simp only[O7,hgt];omega
section
variable {p:A6}(hp:OkX p)
variable {W:c5o}{B:Int->A0->Prop}(hW:∀(t:Int) (x:A0) (out:List Int),B t x->out.length+(W t x).size<=140737488355328->a0k ⟨p,out⟩ t x ⟨p,out++bI (W t x)⟩)
theorem c61(out:List Int)(s:ByteArray)(h:out.length+s.size<=140737488355328):X4 ⟨p,out⟩ s ⟨p,out++bI s⟩:=
 c1x _ _ _ ⟨by rw[b0w];simpa using h,rfl⟩
 include hW
theorem d6c(out:List Int)(o:GOp)(y:A0)(hy:OkV y)(hb:o.Kind=10->B o.Target y)(h:out.length+(a6b W o y).size<=140737488355328):Z6 ⟨p,out⟩ o y ⟨p,out++bI (a6b W o y)⟩:=by
 unfold a6b at h ⊢;refine b9h _ _ _ _ ⟨fun hk=>?_,fun hk=>⟨_,d78 y hy,?_⟩⟩
 ·have hk':o.Kind=10:=by simpa using hk
  rw[if_pos hk']at h ⊢;exact⟨_,hW _ y out (hb hk') h,rfl⟩
 ·have hk':¬o.Kind=10:=by simpa using hk
  rw[if_neg hk']at h ⊢;exact⟨_,c61 out _ h,rfl⟩
variable {g:B7}{x:A0}{r:E4}
theorem f4z(i at_:Nat)(hi:i<=140737488351232)(o:GOp)(l:List A0)(hl:l.length<=140737488351232)(hv:∀y∈l,OkV y/\(o.Kind=10->B o.Target y)):∀d k (out:List Int),l.length - k<=d->k<=l.length->out.length+(c7v ((l.drop k).map (a6b W o))).size<=140737488355328->C6 ((i+1:Nat):Int) g at_ p.Progs p.Enums (out++bI (c7v ((l.drop k).map (a6b W o)))) x r->U2 k l at_ i g p.Progs p.Enums out x o r:=by
 have e0:wI ((i:Int)+1)=((i+1:Nat):Int):=by rw[wI,C7 (by omega)];omega
 have fin:∀(out:List Int),C6 ((i+1:Nat):Int) g at_ p.Progs p.Enums (out++bI (c7v ((l.drop l.length).map (a6b W o)))) x r->U2 (l.length:Nat) l at_ i g p.Progs p.Enums out x o r:=by
  intro out h;rw[List.drop_length]at h;refine a29 _ _ _ _ _ _ _ _ _ _ _ ⟨fun h=>by simp at h,fun _=>?_⟩;rw[e0];have e:bI (c7v (List.map (a6b W o) []))=[]:=rfl;rw[e,List.append_nil]at h;exact h
 intro d
 induction d with
 |zero=>
  intro k out hd hk _ h;have e:k=l.length:=by omega
  subst e;exact fin out h
 |succ d ih=>
  intro k out hd hk hsz h;rcases Nat.lt_or_ge k l.length with hlt|hge
  ·have e1:wI ((k:Int)+1)=((k+1:Nat):Int):=by rw[wI,C7 (by omega)];omega
   have dl:l.drop k=l[k]::l.drop (k+1):=List.drop_eq_getElem_cons hlt;have hx:=hv _ (List.getElem_mem hlt);rw[dl,List.map_cons,c7v]at h hsz;rw[K3]at hsz;rw[b39,<-List.append_assoc]at h;refine a29 _ _ _ _ _ _ _ _ _ _ _ ⟨fun _=>⟨l[k],by simp,by omega,_,d6c hW out o _ hx.1 hx.2 (by omega),?_⟩,fun h=>by simp at h;omega⟩;rw[e1];exact ih (k+1) _ (by omega) (by omega) (by rw[List.length_append,b0w];omega) h
  ·have e:k=l.length:=by omega
   subst e;exact fin out h
theorem e7m(i at_:Nat)(hi:i<=140737488351232)(o:GOp)(l:List (A0 × A0))(hl:l.length<=140737488351232)(hv:∀y∈l,OkV y.1/\OkV y.2/\(o.Kind=10->B o.Target y.2)):∀d k (out:List Int),l.length - k<=d->k<=l.length->out.length+(c7v ((l.drop k).map (b8y W o))).size<=140737488355328->C6 ((i+1:Nat):Int) g at_ p.Progs p.Enums (out++bI (c7v ((l.drop k).map (b8y W o)))) x r->T8 k l at_ i g p.Progs p.Enums out x o r:=by
 have e0:wI ((i:Int)+1)=((i+1:Nat):Int):=by rw[wI,C7 (by omega)];omega
 have fin:∀(out:List Int),C6 ((i+1:Nat):Int) g at_ p.Progs p.Enums (out++bI (c7v ((l.drop l.length).map (b8y W o)))) x r->T8 (l.length:Nat) l at_ i g p.Progs p.Enums out x o r:=by
  intro out h;rw[List.drop_length]at h;refine a3i _ _ _ _ _ _ _ _ _ _ _ ⟨fun h=>by simp at h,fun _=>?_⟩;rw[e0];have e:bI (c7v (List.map (b8y W o) []))=[]:=rfl;rw[e,List.append_nil]at h;exact h
 intro d
 induction d with
 |zero=>
  intro k out hd hk _ h;have e:k=l.length:=by omega
  subst e;exact fin out h
 |succ d ih=>
  intro k out hd hk hsz h;rcases Nat.lt_or_ge k l.length with hlt|hge
  ·have e1:wI ((k:Int)+1)=((k+1:Nat):Int):=by rw[wI,C7 (by omega)];omega
   have dl:l.drop k=l[k]::l.drop (k+1):=List.drop_eq_getElem_cons hlt;have hx:=hv _ (List.getElem_mem hlt);rw[dl,List.map_cons,c7v,b8y,b18]at h hsz;rw[K3,K3]at hsz;rw[b39,b39,<-List.append_assoc,<-List.append_assoc]at h;refine a3i _ _ _ _ _ _ _ _ _ _ _ ⟨fun _=>⟨l[k],by simp,by omega,_,d78 _ hx.1,_,c61 out _ (by omega),_,d6c hW _ o _ hx.2.1 hx.2.2 (by rw[List.length_append,b0w];omega),?_⟩,fun h=>by simp at h;omega⟩;rw[e1];exact ih (k+1) _ (by omega) (by omega) (by rw[List.length_append,List.length_append,b0w,b0w];omega) h
  ·have e:k=l.length:=by omega
   subst e;exact fin out h
theorem g75(i at_:Nat)(hi:i<=140737488351232)(o:GOp)(z:A0)(set:Bool)(hz:set=true->NfF B o z)(h0:set=false->z=V0/\o.Card≠1)(out:List Int)(hsz:out.length+(a0t W o z set).size<=140737488355328)(h:C6 ((i+1:Nat):Int) g at_ p.Progs p.Enums (out++bI (a0t W o z set)) x r):U1 at_ set i g p.Progs p.Enums out x o z.Kind z.Bits z.Text z.List_ z.Pairs z.Slots z.Raws r:=by
 have e0:wI ((i:Int)+1)=((i+1:Nat):Int):=by rw[wI,C7 (by omega)];omega
 have hok:OkD z:=by
  rcases Bool.eq_false_or_eq_true set with q|q
  ·exact(hz q).1
  ·rw[(h0 q).1];have zz:Sz 0:=Nat.zero_le _;exact .mk _ (show I64 0 from⟨by decide,by decide⟩) (show U64 0 from⟨by decide,by decide⟩) zz zz zz zz zz (fun x hx=>by cases hx) (fun x hx=>by cases hx) (fun x hx=>by cases hx) (fun x hx=>by cases hx) (fun x hx=>by cases hx) (fun x hx=>by cases hx) ⟨zz,zz,zz,zz⟩
 obtain⟨_,_,⟨la,pa,sa,ra⟩,hl,hps,hs⟩:=hok.inv;have b1:=D8 la;have b2:=D8 pa;unfold a0t at hsz h
 have ev1:a3x (wU (z.List_.length:Int)) (b1l z.List_.length):=by
  have:=d7m z.List_.length (by omega)
  rwa [show((z.List_.length:Nat):Int)=wU (z.List_.length:Int) by rw[wU,b4j (by omega)]]at this
 have ev2:a3x (wU (z.Pairs.length:Int)) (b1l z.Pairs.length):=by
  have:=d7m z.Pairs.length (by omega)
  rwa [show((z.Pairs.length:Nat):Int)=wU (z.Pairs.length:Int) by rw[wU,b4j (by omega)]]at this
 refine b3z _ _ _ _ _ _ _ _ _ _ _ _ _ _ _ _ _ ⟨fun h1=>?_,fun h1=>⟨fun h4=>⟨_,ev1,?_⟩,fun h4=>⟨fun h5=>⟨_,ev2,?_⟩,fun h5=>⟨fun hs=>?_,fun hs=>?_⟩⟩⟩⟩
 ·have hc:o.Card=1:=by simpa using h1
  rw[if_neg (by omega),if_neg (by omega),if_pos hc]at hsz h
  have hset:set=true:=by
   rcases Bool.eq_false_or_eq_true set with q|q
   ·exact q
   ·exact absurd hc (h0 q).2
  refine⟨_,d6c hW out o z hok.okv ((hz hset).2.2.2 (by omega) (by omega)) hsz,?_⟩;rw[e0];exact h
 all_goals (have h1':¬o.Card=1:=by simpa using h1)
 ·have hc:o.Card=4:=by simpa using h4
  rw[if_pos hc]at hsz h;rw[K3]at hsz;rw[b39,<-List.append_assoc]at h
  have hv:∀y∈z.List_,OkV y/\(o.Kind=10->B o.Target y):=fun y hy=>⟨(hl y hy).okv,fun hk=>by
   rcases Bool.eq_false_or_eq_true set with q|q
   ·exact(hz q).2.1 hc y hy hk
   ·rw[(h0 q).1]at hy;cases hy⟩
  refine⟨_,c61 out _ (by omega),?_⟩;exact f4z hW i at_ hi o z.List_ b1 hv _ 0 _ (Nat.le_refl _) (by omega) (by rw[List.length_append,b0w,List.drop_zero];omega) (by rw[List.drop_zero];exact h)
 all_goals (have h4':¬o.Card=4:=by simpa using h4)
 ·have hc:o.Card=5:=by simpa using h5
  rw[if_neg h4',if_pos hc]at hsz h;rw[K3]at hsz;rw[b39,<-List.append_assoc]at h
  have hv:∀y∈z.Pairs,OkV y.1/\OkV y.2/\(o.Kind=10->B o.Target y.2):=fun y hy=>⟨(hps y hy).1.okv,(hps y hy).2.okv,fun hk=>by
   rcases Bool.eq_false_or_eq_true set with q|q
   ·exact(hz q).2.2.1 hc y hy hk
   ·rw[(h0 q).1]at hy;cases hy⟩
  refine⟨_,c61 out _ (by omega),?_⟩;exact e7m hW i at_ hi o z.Pairs b2 hv _ 0 _ (Nat.le_refl _) (by omega) (by rw[List.length_append,b0w,List.drop_zero];omega) (by rw[List.drop_zero];exact h)
 all_goals (have h5':¬o.Card=5:=by simpa using h5)
 all_goals rw[if_neg h4',if_neg h5',if_neg h1']at hsz h
 ·have q:set=false:=by simpa using hs
  rw[if_neg (by simp[q])]at hsz h;refine⟨_,c61 out _ hsz,?_⟩;rw[e0];exact h
 ·have q:set=true:=by simpa using hs
  rw[if_pos q]at hsz h;rw[K3]at hsz;rw[b39,<-List.append_assoc]at h;refine⟨_,c61 out _ (by omega),_,d6c hW _ o z hok.okv ((hz q).2.2.2 h4' h5') (by rw[List.length_append,b0w];omega),?_⟩;rw[e0];exact h
theorem f94(hg:g.Ops.length<=140737488351232)(hxs:x.Slots.length<=140737488351232):∀d i at_ (out:List Int),g.Ops.length - i<=d->i<=g.Ops.length->at_<=x.Slots.length->b5q (NfF B) (g.Ops.drop i) (x.Slots.drop at_)->out.length+(a4v W (g.Ops.drop i) (x.Slots.drop at_)).size<=140737488355328->r=⟨p,out++bI (a4v W (g.Ops.drop i) (x.Slots.drop at_))⟩->C6 i g at_ p.Progs p.Enums out x r:=by
 have fin:∀at_ (out:List Int),r=⟨p,out++bI (a4v W (g.Ops.drop g.Ops.length) (x.Slots.drop at_))⟩->C6 (g.Ops.length:Nat) g at_ p.Progs p.Enums out x r:=by
  intro at_ out h;rw[List.drop_length]at h;have e:bI (a4v W [] (x.Slots.drop at_))=[]:=by cases x.Slots.drop at_<;>rfl
  rw[e,List.append_nil]at h;exact Y9 _ _ _ _ _ _ _ _ ⟨fun h=>by simp at h,fun _=>h⟩
 intro d
 induction d with
 |zero=>
  intro i at_ out hd hi _ _ _ h;have e:i=g.Ops.length:=by omega
  subst e;exact fin at_ out h
 |succ d ih=>
  intro i at_ out hd hi hat hm hsz h;rcases Nat.lt_or_ge i g.Ops.length with hlt|hge
  ·have dl:g.Ops.drop i=g.Ops[i]::g.Ops.drop (i+1):=List.drop_eq_getElem_cons hlt;rw[dl]at hm hsz h
   -- what lies there,set or not
   have key:∀(at2:Nat) (z:A0) (set:Bool),at2<=x.Slots.length->(set=true->NfF B g.Ops[i] z)->(set=false->z=V0/\g.Ops[i].Card≠1)->b5q (NfF B) (g.Ops.drop (i+1)) (x.Slots.drop at2)->a4v W (g.Ops[i]::g.Ops.drop (i+1)) (x.Slots.drop at_)=a0t W g.Ops[i] z set++a4v W (g.Ops.drop (i+1)) (x.Slots.drop at2)->U1 at2 set i g p.Progs p.Enums out x g.Ops[i] z.Kind z.Bits z.Text z.List_ z.Pairs z.Slots z.Raws r:=by
    intro at2 z set h1 h2 h3 h4 h5;rw[h5,K3]at hsz;rw[h5,b39,<-List.append_assoc]at h;refine g75 hW i at2 (by omega) g.Ops[i] z set h2 h3 out (by omega) ?_;exact ih (i+1) at2 _ (by omega) (by omega) h1 h4 (by rw[List.length_append,b0w];omega) h
   have e1:wI ((at_:Int)+1)=((at_+1:Nat):Int):=by rw[wI,C7 (by omega)];omega
   rcases Nat.lt_or_ge at_ x.Slots.length with hs|hs
   ·have ds:x.Slots.drop at_=x.Slots[at_]::x.Slots.drop (at_+1):=List.drop_eq_getElem_cons hs;rw[ds]at hm;refine Y9 _ _ _ _ _ _ _ _ ⟨fun _=>⟨g.Ops[i],by simp,by omega,fun b=>b=(x.Slots[at_].1==g.Ops[i].Num),fun b hb=>⟨fun h6=>⟨x.Slots[at_],by simp,by omega,?_⟩,fun h6=>?_⟩,fun _=>⟨x.Slots[at_],by simp,by omega,rfl⟩,fun h6=>by simp at h6;omega⟩,fun h=>by simp at h;omega⟩
    ·have he:x.Slots[at_].1=g.Ops[i].Num:=by rw[h6]at hb;simpa using hb.symm
     obtain⟨q1,q2⟩:=hm.1 he;rw[e1];subst h6;refine key (at_+1) x.Slots[at_].2 true hs (fun _=>q1) (fun h=>by cases h) q2 ?_;rw[ds];simp only[a4v];rw[if_pos he]
    ·have he:x.Slots[at_].1≠g.Ops[i].Num:=by rw[h6]at hb;simpa using hb.symm
     obtain⟨q1,q2⟩:=hm.2 he;subst h6;refine key at_ V0 false hat (fun h=>by cases h) (fun _=>⟨rfl,q1⟩) (by rw[ds];exact q2) ?_;rw[ds];simp only[a4v];rw[if_neg he]
   ·have ds:x.Slots.drop at_=[]:=List.drop_eq_nil_of_le hs;rw[ds]at hm;refine Y9 _ _ _ _ _ _ _ _ ⟨fun _=>⟨g.Ops[i],by simp,by omega,fun b=>b=false,fun b hb=>⟨fun h6=>?_,fun h6=>?_⟩,fun h6=>by simp at h6;omega,fun _=>rfl⟩,fun h=>by simp at h;omega⟩
    ·rw[h6]at hb;cases hb
    ·subst hb;refine key at_ V0 false hat (fun h=>by cases h) (fun _=>⟨rfl,hm.1⟩) (by rw[ds];exact hm.2) ?_;rw[ds];simp only[a4v]
  ·have e:i=g.Ops.length:=by omega
   subst e;exact fin at_ out h
end
theorem d79{p:A6}(hp:OkX p):∀(n:Nat) (t:Int) (x:A0) (out:List Int),NfV p n t x->out.length+(O7 p n t x).size<=140737488355328->a0k ⟨p,out⟩ t x ⟨p,out++bI (O7 p n t x)⟩
 |0,t,x,out,h,_=>h.elim
 |n+1,t,x,out,⟨g,hgt,ht,hx,hm⟩,hsz=>by
  have hg:g∈p.Progs:=List.mem_of_getElem? hgt;have e:O7 p (n+1) t x=a4v (O7 p n) g.Ops x.Slots:=by simp only[O7,hgt]
  rw[e]at hsz ⊢;refine b7a _ _ _ _ ⟨g,hgt,ht,?_⟩;exact f94 (B:=NfV p n) (fun t x out hb hs=>d79 hp n t x out hb hs) (hp.ops hg) (D8 hx.okv.s) _ 0 0 out (Nat.le_refl _) (by omega) (by omega) (by rw[List.drop_zero,List.drop_zero];exact hm) (by rw[List.drop_zero,List.drop_zero];exact hsz) (by rw[List.drop_zero,List.drop_zero])
theorem d08{R:GOp->A0->Prop}:∀{ops:List GOp}{S:List (Int × A0)},b5q R ops S->∀s∈S,∃q∈ops,q.Num=s.1
 |[],S,h,s,hs=>by rw[h]at hs;cases hs
 |o::ops,[],h,s,hs=>by cases hs
 |o::ops,x::S,h,s,hs=>by
  by_cases e:x.1=o.Num
  ·rcases List.mem_cons.1 hs with h1|h1
   ·subst h1;exact⟨o,by simp,e.symm⟩
   ·obtain⟨q,hq,he⟩:=d08 (h.1 e).2 s h1;exact⟨q,by simp[hq],he⟩
  ·obtain⟨q,hq,he⟩:=d08 (h.2 e).2 s hs;exact⟨q,by simp[hq],he⟩
section
variable {p:A6}(hp:OkX p)
variable {W:c5o}{B:Int->A0->Prop}(hW:∀(t:Int) (x:A0),B t x->e4p p t x (W t x))
 include hW
variable {t:Int}{x:A0}{r:ByteArray}
variable {g:B7}(hgt:p.Progs[t.toNat]? =some g) (ht:0<=t) (hg:g.Ops.length<=140737488351232) (hxs:x.Slots.length<=140737488351232)
 include hgt ht hg hxs
end
theorem f86{R:GOp->A0->Prop}(F:GOp->List (Int × A0)):∀(ops:List GOp),ops.Pairwise (fun a b=>a.Num<b.Num)->(∀o∈ops,(F o=[]/\o.Card≠1)\/∃z,F o=[(o.Num,z)]/\R o z)->b5q R ops (ops.flatMap F)
 |[],_,_=>rfl
 |o::ops,hasc,h=>by
  obtain⟨h1,h2⟩:=List.pairwise_cons.1 hasc;have ih:=f86 F ops h2 fun q hq=>h q (by simp[hq])
  rw[List.flatMap_cons];rcases h o (by simp) with⟨e,hc⟩|⟨z,e,hr⟩
  ·rw[e,List.nil_append];have hsub:=d08 ih;generalize ops.flatMap F=S at ih hsub;cases S with
   |nil=>exact⟨hc,ih⟩
   |cons s S=>
    obtain⟨q,hq,hn⟩:=hsub s (by simp);have:=h1 q hq;exact⟨fun he=>by omega,fun _=>⟨hc,ih⟩⟩
  ·rw[e];exact⟨fun _=>⟨hr,ih⟩,fun he=>absurd rfl he⟩
theorem e1v{β:Type}(G:GOp->Int × A0->List β){o:GOp}{x:Int × A0}:∀{l:List (Int × A0)},g46 l->x∈l->x.1=o.Num->c7a G l o=G o x
 |[],_,hx,_=>by cases hx
 |y::l,hd,hx,he=>by
  obtain⟨h1,h2⟩:=List.pairwise_cons.1 hd;rcases List.mem_cons.1 hx with h3|h3
  ·subst h3;have:c7a G l o=[]:=c3o G fun z hz=>by have:=h1 z hz;omega
   unfold c7a at this ⊢;rw[List.flatMap_cons,this,if_pos he,List.append_nil]
  ·have:=h1 x h3;have ih:=e1v G h2 h3 he;unfold c7a at ih ⊢;rw[List.flatMap_cons,if_neg (by omega),List.nil_append];exact ih
section
variable {p:A6}(hp:OkX p)
 include hp
theorem e7u:∀(n:Nat) (t:Int) (g:B7) (v:A0) (lev:Int),p.Progs[t.toNat]? =some g->0<=t->OkD v->SizeOf.sizeOf v<=n->a9c p n t v lev=0->NfV p n t (U4 p n t v)
 |0,t,g,v,lev,_,_,_,h,_=>by have:=szV v;omega
 |n+1,t,g,v,lev,hgt,ht,hv,hn,hm=>by
  have hg:g∈p.Progs:=List.mem_of_getElem? hgt;have hok:=c3s hp (n+1) t v hv;obtain⟨_,_,_,_,_,hs⟩:=hv.inv;have e:U4 p (n+1) t v=c25 (U4 p n) g v:=by simp only[U4,hgt]
  simp only[a9c,hgt]at hm;have hf:=e8g hm;refine⟨g,hgt,ht,hok,?_⟩;have hasc:=b99 (hp.va.asc g hg)
  have hT:=c7x (fun o x=>a98 (U4 p n) o x.1 x.2) g.Ops v.Slots hasc hf.diff fun x hx=>by
   obtain⟨h1,h2⟩:=b9n (hf.known x hx);exact⟨_,h2,h1⟩
  have es:(U4 p (n+1) t v).Slots=g.Ops.flatMap (c7a (fun o x=>a98 (U4 p n) o x.1 x.2) v.Slots):=by
   rw[e,hT];rfl
  rw[es];refine f86 _ _ hasc fun o ho=>?_
  by_cases hex:∃x∈v.Slots,x.1=o.Num
  ·obtain⟨x,hx,he⟩:=hex;rw[e1v _ hf.diff hx he];have h1:=hf.field x hx;rw[he,d4e hp hg ho]at h1;obtain⟨f4,f5,f6⟩:=d1v h1;have z1:=szS hx;obtain⟨_,_,_,q1,q2,_⟩:=(hs x hx).inv
   have ho':∀hk:o.Kind=10,∃g',p.Progs[o.Target.toNat]? =some g'/\0<=o.Target:=fun hk=>by
    obtain⟨t0,t1,_⟩:=((hp.va.pro g hg).2 _ ho).msg hk;have hlt:o.Target.toNat<p.Progs.length:=by omega
    exact⟨_,List.getElem?_eq_getElem hlt,t0⟩
   have elem:∀y,OkD y->SizeOf.sizeOf y<=n->b3u (a9c p n) p o y lev=0->o.Kind=10->NfV p n o.Target (b0y (U4 p n) o y):=fun y hy hz h hk=>by
    obtain⟨g',h1,h2⟩:=ho' hk;rw[b0y,if_pos hk];exact e7u n o.Target g' y _ h1 h2 hy hz (c4k hp h hk)
   simp only[a98];split
   ·refine .inr ⟨_,by rw[he],c9c (N:=U4 p n) (B:=fun _=>False) hp (fun _ _ _ _ _ hf=>hf.elim) (fun t v=>c3s hp n t v) o _ (hs x hx),fun hc y hy hk=>?_,fun hc y hy hk=>?_,fun h4 h5 hk=>?_⟩
    ·rw[a8t,if_pos hc]at hy;obtain⟨y',hy',rfl⟩:=List.mem_map.1 hy;have:=elem y' (q1 y' hy') (by have:=szL hy';omega) ((f4 hc).2.2 y' hy') hk
     rwa [b0y,if_pos hk]at this ⊢
    ·rw[a8t,if_neg (by omega),if_pos hc]at hy;obtain⟨y',hy',rfl⟩:=List.mem_map.1 hy;have hy2:=b5z hy';have:=elem y'.2 (q2 y' hy2).2 (by have:=szP hy2;omega) ((f5 hc).2.2.1 y' hy2).2 hk;exact this
    ·have:=elem x.2 (hs x hx) (by omega) (f6 h4 h5) hk;rw[a8t,if_neg h4,if_neg h5];exact this
   ·rename_i hb;refine .inl ⟨rfl,fun hc=>hb ?_⟩;have:e5g o=false:=by unfold e5g;simp[hc]
    rw[this];rfl
  ·refine .inl ⟨c3o _ fun x hx he=>hex ⟨x,hx,he⟩,fun hc=>?_⟩;obtain⟨x,hx,he⟩:=hf.need o ho hc;exact hex ⟨x,hx,he⟩
end
theorem d1b{α:Type}{c:α->α->Int}(f:α->Nat)(x:α):∀l:List α,a3a f (a78 c x l)=f x+a3a f l
 |[]=>by simp[a78,a3a]
 |y::l=>by
  simp only[a78];split
  ·simp only[a3a,d1b f x l];omega
  ·simp only[a3a]
theorem c5a{α:Type}{c:α->α->Int}(f:α->Nat):∀l:List α,a3a f (S3 c l)<=a3a f l
 |[]=>by simp[S3,a3a]
 |x::l=>by
  have ih:=c5a (c:=c) f l;simp only[S3];split
  ·rw[d1b];simp only[a3a];omega
  ·simp only[a3a];omega
theorem e8f{α:Type}{c:α->α->Int}(f:α->Nat):∀l:List α,a3a f (sC c l)=a3a f l
 |[]=>rfl
 |x::l=>by rw[sC,d1b,e8f f l];rfl
theorem d16{α:Type}(f:α->Nat):∀l m:List α,a3a f (l++m)=a3a f l+a3a f m
 |[],m=>by simp[a3a]
 |x::l,m=>by simp only[List.cons_append,a3a,d16 f l m];omega
theorem d81{α β:Type}{f:β->Nat}{g:α->Nat}{h:α->List β}:∀{l:List α},(∀x∈l,a3a f (h x)<=g x)->a3a f (l.flatMap h)<=a3a g l
 |[],_=>by simp[a3a]
 |x::l,hh=>by
  have h1:=hh x (by simp);have h2:=d81 (l:=l) fun y hy=>hh y (by simp[hy])
  rw[List.flatMap_cons,d16];simp only[a3a];omega
theorem e2d(v:A0):wtV (a2o v)=wtV v:=by
 unfold a2o;split
 ·rw[b6l,b6l]
 ·rfl
section
variable {N:d2o}(hN:∀t v,wtV (N t v)<=wtV v)
 include hN
theorem d5h(o:GOp)(v:A0):wtV (b0y N o v)<=wtV v:=by
 unfold b0y;split
 ·exact hN _ _
 ·rw[e2d];omega
theorem f5c(o:GOp)(v:A0):wtV (a8t N o v)<=wtV v:=by
 have e:=b6l v;unfold a8t;split
 ·rw[b6l ⟨11,_,_,_,_,_,_⟩];have h:=b81 (l:=v.List_) (f:=fun x=>wtV (b0y N o x)) (g:=wtV) fun x _=>d5h hN o x
  have hs:(⟨#[]⟩:ByteArray).size=0:=rfl;simp only[c4m,a3a,hs];omega
 split
 ·rw[b6l ⟨12,_,_,_,_,_,_⟩]
  have h:=b81 (l:=b58 v.Pairs) (f:=fun x=>wtP (a2o x.1,b0y N o x.2)) (g:=wtP) fun x _=>by
   have a:=d5h hN o x.2;have b:=e2d x.1;simp only[wtP];omega
  have h2:=c5a (c:=kc (SizeOf.sizeOf v.Pairs)) wtP v.Pairs;have hs:(⟨#[]⟩:ByteArray).size=0:=rfl;simp only[c4m,a3a,hs];have e2:a3a wtP (b58 v.Pairs)<=a3a wtP v.Pairs:=h2;omega
 ·exact d5h hN o v
theorem f46(g:B7)(v:A0):wtV (c25 N g v)<=wtV v:=by
 have e:=b6l v
 have h:=d81 (l:=S3 kn v.Slots) (f:=wtS) (g:=wtS) (h:=fun x=>a98 N (opV g x.1).1 x.1 x.2) fun x _=>by
  have a:=f5c hN (opV g x.1).1 x.2;simp only[a98];split
  ·simp only[a3a,wtS];omega
  ·simp[a3a]
 have h2:=c5a (c:=kn) wtS v.Slots;have h3:=e8f (c:=kr) wtR v.Raws;have hs:(⟨#[]⟩:ByteArray).size=0:=rfl;rw[c25,b6l ⟨10,_,_,_,_,_,_⟩];simp only[a3a,hs];omega
end
theorem e9o(p:A6):∀(n:Nat) (t:Int) (v:A0),wtV (U4 p n t v)<=wtV v
 |0,t,v=>by
  have e:=b6l v;have:wtV (U4 p 0 t v)=7:=rfl;omega
 |n+1,t,v=>by
  simp only[U4];split
  ·have e:=b6l v;have:wtV (⟨0,0,⟨#[]⟩,[],[],[],[]⟩:A0)=7:=rfl;omega
  ·exact f46 (e9o p n) _ v
abbrev Rs(α:Type):=Except Int (α × A3)
def E1{α β:Type}(a:Rs α)(f:α->A3->Rs β):Rs β:=
 match a with
 |.error e=>.error e
 |.ok x=>f x.1 x.2
def adv(c:A3)(k n:Int):A3:=⟨c.Data,c.At+k,c.End,c.Depth,c.Nodes - n,c.Text⟩
structure Snd(c:A3):Prop where
 sz:c.Data.size<=140737488351232
 a0:0<=c.At
 a1:c.At<=c.End
 a2:c.End<=(c.Data.size:Int)
 d0:0<=c.Depth
 d1:c.Depth<=4611686018427387904
 n0:0<=c.Nodes
 n1:c.Nodes<=4611686018427387904
theorem Snd.okc{c:A3}(h:Snd c):OkC c:=⟨h.sz,by have:=h.a0;omega,by have:=h.a1;have:=h.a2;have:=h.sz;omega⟩
theorem Snd.left{c:A3}(h:Snd c):a2b c.Data c.At c.End=c.End - c.At:=by
 have:b4p c.Data c.At c.End=true:=by
  have:=h.a0;have:=h.a1;have:=h.a2;simp[b4p];omega
 rw[a2b,if_pos this]
theorem Snd.rest{c:A3}(h:Snd c):G0 c=c.Data.extract c.At.toNat c.End.toNat:=by
 have:=h.a0;have:=h.a1;rw[G0,h.left]
 congr 1
 omega
theorem Snd.size{c:A3}(h:Snd c):((G0 c).size:Int)=c.End - c.At:=by rw[b0r,h.left]
theorem Snd.adv{c:A3}(h:Snd c){k n:Int}(hk:0<=k/\k<=c.End - c.At)(hn:0<=n/\n<=c.Nodes):Snd (adv c k n):=by
 have a0:=h.a0;have a1:=h.a1;have a2:=h.a2;have n0:=h.n0;have n1:=h.n1;refine⟨h.sz,?_,?_,a2,h.d0,h.d1,?_,?_⟩<;>simp only[Lift.adv]<;>omega
theorem d4j(a:ByteArray):(⟨#[]⟩:ByteArray)++a=a:=ByteArray.empty_append
theorem e2k(l:List UInt8):(⟨l.toArray⟩:ByteArray).data.toList=l:=by simp
theorem d8t{a b:ByteArray}(h:a.data.toList=b.data.toList):a=b:=ByteArray.ext (Array.ext' h)
theorem b85(a b:ByteArray):(a++b).data.toList=a.data.toList++b.data.toList:=by simp[ByteArray.data_append]
theorem f4j{a b c d:ByteArray}(h:a++b=c++d):(∃s,c=a++s/\b=s++d)\/∃s,a=c++s/\d=s++b:=by
 have e:=congrArg (fun x:ByteArray=>x.data.toList) h;simp only[b85]at e;rcases List.append_eq_append_iff.1 e with⟨l,h1,h2⟩|⟨l,h1,h2⟩
 ·exact .inl ⟨⟨l.toArray⟩,d8t (by rw[b85,e2k];exact h1),d8t (by rw[b85,e2k];exact h2)⟩
 ·exact .inr ⟨⟨l.toArray⟩,d8t (by rw[b85,e2k];exact h1),d8t (by rw[b85,e2k];exact h2)⟩
theorem c3b{a b c:ByteArray}(h:a++b=a++c):b=c:=by
 have e:=congrArg (fun x:ByteArray=>x.data.toList) h;simp only[b85]at e;exact d8t (List.append_cancel_left e)
theorem d49{c:A3}(h:Snd c){b t:ByteArray}(hr:G0 c=b++t){n:Int}(hn:0<=n/\n<=c.Nodes):Snd (adv c b.size n)/\G0 (adv c b.size n)=t:=by
 have hs:=h.size;rw[hr,K3]at hs;have a0:=h.a0;have a1:=h.a1;have a2:=h.a2;have h2:=h.adv (k:=b.size) (n:=n) ⟨by omega,by omega⟩ hn;refine⟨h2,?_⟩
 have e1:b++G0 (adv c b.size n)=G0 c:=by
  rw[h.rest,h2.rest];refine d8k ?_ fun i hi=>?_
  ·rw[K3,W4 _ (by simp only[adv];omega),W4 _ (by omega)];simp only[adv];omega
  ·rw[K3,W4 _ (by simp only[adv];omega)]at hi;simp only[adv]at hi ⊢;rw[U0 _ (by omega)];rcases Nat.lt_or_ge i b.size with q|q
   ·rw[a6j _ _ q];have e:=congrArg (fun s=>F6 s i) hr;simp only[h.rest]at e;rw[U0 _ (by omega),a6j _ _ q]at e;exact e.symm
   ·have e:F6 (b++c.Data.extract (c.At+↑b.size).toNat c.End.toNat) i=F6 (c.Data.extract (c.At+↑b.size).toNat c.End.toNat) (i - b.size):=by
     unfold F6 E9;have hl:b.data.toList.length=b.size:=Array.length_toList;rw[b85,List.getD_eq_getElem?_getD,List.getElem?_append_right (by omega),hl,<-List.getD_eq_getElem?_getD]
    rw[e,U0 _ (by omega)]
    congr 1
    omega
 rw[hr]at e1;exact c3b e1
def Ahd(c:A3)(b:ByteArray):Prop:=(∃t,G0 c=b++t)\/∃t,b=G0 c++t
theorem Ahd.left{c:A3}{a b:ByteArray}(h:Ahd c (a++b)):Ahd c a:=by
 rcases h with⟨t,h⟩|⟨t,h⟩
 ·exact .inl ⟨b++t,by rw[h,b18]⟩
 ·rcases f4j h with⟨s,h1,_⟩|⟨s,h1,_⟩
  ·exact .inl ⟨s,h1⟩
  ·exact .inr ⟨s,h1⟩
theorem Ahd.right{c c':A3}{a b t:ByteArray}(h:Ahd c (a++b))(h1:G0 c=a++t)(h2:G0 c'=t):Ahd c' b:=by
 rcases h with⟨u,h⟩|⟨u,h⟩
 ·rw[h1,b18]at h;exact .inl ⟨u,by rw[h2];exact c3b h⟩
 ·rw[h1,b18]at h;exact .inr ⟨u,by rw[h2];exact c3b h⟩
structure P8 where
 d:Nat
 n:Nat
 l:Nat
def P8.add(a b:P8):P8:=⟨max a.d b.d,a.n+b.n,max a.l b.l⟩
def P8.none:P8:=⟨0,0,0⟩
theorem P8.add_none(a:P8):a.add .none=a:=by cases a;simp[P8.add,P8.none]
theorem P8.none_add(a:P8):P8.none.add a=a:=by cases a;simp[P8.add,P8.none]
theorem P8.add_assoc(a b c:P8):(a.add b).add c=a.add (b.add c):=by
 simp only[P8.add,P8.mk.injEq];omega
def Whl(c:A3)(b:ByteArray):Prop:=∃t,G0 c=b++t
def Got{α:Type}(c:A3)(b:ByteArray)(k:P8)(x:α)(r:Rs α):Prop:=
 match r with
 |.ok y=>y=(x,adv c b.size k.n)/\Whl c b/\(k.d:Int)<=c.Depth/\(k.n:Int)<=c.Nodes/\(k.l:Int)<=c.Text
 |.error e=>(e=4/\¬Whl c b)\/(e=17/\c.Depth<k.d)\/(e=3/\(c.Nodes<k.n\/c.Text<k.l))
def Rds{α:Type}(m:Nat)(b:ByteArray)(k:P8)(x:α)(f:A3->Rs α):Prop:=∀c,Snd c->0<=c.Text->c.Depth<=m->Ahd c b->Got c b k x (f c)
theorem e6w(c:A3)(a b n k:Int):adv (adv c a n) b k=adv c (a+b) (n+k):=by
 simp only[adv,A3.mk.injEq,true_and,and_true];omega
section
variable {α β:Type}{m:Nat}
theorem Rds.bind{b b':ByteArray}{k k':P8}{x:α}{y:β}{f:A3->Rs α}{g:α->A3->Rs β}(h:Rds m b k x f)(h2:Rds m b' k' y (g x)):Rds m (b++b') (k.add k') y (fun c=>E1 (f c) g):=by
 intro c hc ht hm hp;have h1:=h c hc ht hm hp.left;have cut:¬Whl c b->¬Whl c (b++b'):=fun q ⟨t,e⟩=>q ⟨b'++t,by rw[e,b18]⟩
 show Got c _ _ _ (E1 (f c) g);cases hf:f c with
 |error e=>
  rw[hf]at h1;simp only[Got,E1,P8.add]at h1 ⊢;rcases h1 with⟨e1,q⟩|⟨e1,q⟩|⟨e1,q⟩
  ·exact .inl ⟨e1,cut q⟩
  ·exact .inr (.inl ⟨e1,by omega⟩)
  ·exact .inr (.inr ⟨e1,by omega⟩)
 |ok z=>
  rw[hf]at h1;obtain⟨rfl,⟨t,ha⟩,q1,q2,q3⟩:=h1;obtain⟨s1,s2⟩:=d49 hc ha (n:=k.n) ⟨by omega,q2⟩;have hp2:=hp.right ha s2;have h3:=h2 _ s1 ht hm hp2;simp only[E1];cases hg:g x (adv c b.size k.n) with
  |error e=>
   rw[hg]at h3;simp only[Got,P8.add,adv]at h3 ⊢;rcases h3 with⟨e1,q⟩|⟨e1,q⟩|⟨e1,q⟩
   ·refine .inl ⟨e1,fun⟨u,hu⟩=>q ⟨u,?_⟩⟩;rw[ha,b18]at hu;have:=c3b hu;rw[<-this];exact s2
   ·exact .inr (.inl ⟨e1,by omega⟩)
   ·exact .inr (.inr ⟨e1,by omega⟩)
  |ok z=>
   rw[hg]at h3;obtain⟨rfl,⟨u,hu⟩,p1,p2,p3⟩:=h3;simp only[adv]at p1 p2 p3;simp only[Got,P8.add];refine⟨?_,⟨u,?_⟩,by omega,by omega,by omega⟩
   ·rw[e6w,K3];simp
   ·rw[ha,b18,<-hu,s2]
theorem Rds.pure(x:α):Rds m ⟨#[]⟩ .none x (fun c=>.ok (x,c)):=by
 intro c hc ht hm hp;have:=hc.n0;have:=hc.d0;refine⟨?_,⟨G0 c,(d4j _).symm⟩,by simp[P8.none];omega,by simp[P8.none];omega,by simp[P8.none];omega⟩;have:((⟨#[]⟩:ByteArray).size:Int)=0:=rfl;simp[adv,P8.none,this]
theorem Rds.of{b b':ByteArray}{k k':P8}{x:α}{f:A3->Rs α}(h:Rds m b k x f)(hb:b=b')(hk:k=k'):Rds m b' k' x f:=by subst hb hk;exact h
theorem Rds.map{b:ByteArray}{k:P8}{x:α}{y:β}{f:A3->Rs α}(h:Rds m b k x f)(g:α->β)(e:g x=y):Rds m b k y (fun c=>E1 (f c) fun x c=>.ok (g x,c)):=by
 subst e;exact(Rds.bind h (Rds.pure (g x))).of (b9c b) (P8.add_none k)
end
abbrev RdM:=Int->A3->Rs A0
def spR(c:A3):Rs Unit:=if c.Nodes<1 then .error 3 else .ok ((),adv c 0 1)
def toR{α:Type}(r:α × A3 × Int):Rs α:=if r.2.2≠0 then .error r.2.2 else .ok (r.1,r.2.1)
def scR(p:A6)(k t:Int)(c:A3):Rs A0:=toR (b55 p k t c)
def elR(M:RdM)(p:A6)(k t:Int)(c:A3):Rs A0:=if k=10 then M t c else E1 (spR c) fun _ c=>scR p k t c
def cnR(c:A3):Rs Int:=E1 (toR (T2 c)) fun u c=>if 4096<u then .error 3 else if 0<u then E1 (spR c) fun _ c=>.ok (u,c) else .ok (u,c)
def lsR(M:RdM)(p:A6)(k t:Int):Nat->A3->Rs (List A0)
 |0,c=>.ok ([],c)
 |n+1,c=>E1 (elR M p k t c) fun x c=>E1 (lsR M p k t n c) fun l c=>.ok (x::l,c)
noncomputable def upB(a:Option A0)(k:A0):Bool:=match a with
 |none=>true
 |some b=>decide (W8 (SizeOf.sizeOf b) b k<0)
abbrev upK(a:Option A0)(k:A0):Prop:=upB a k=true
noncomputable def prR(M:RdM)(p:A6)(key k t:Int):Nat->Option A0->A3->Rs (List (A0 × A0))
 |0,_,c=>.ok ([],c)
 |n+1,a,c=>E1 (elR M p key (-1) c) fun x c=>if upK a x then E1 (elR M p k t c) fun y c=>E1 (prR M p key k t n (some x) c) fun l c=>.ok ((x,y)::l,c) else .error 5
def c4j(g:B7)(sl:List (Int × A0))(o:GOp):Bool:=sl.any fun s=>(opV g s.1).2&&(decide (0<=o.Union)&&decide ((opV g s.1).1.Union=o.Union))
def myR(M:RdM)(p:A6)(g:B7)(sl:List (Int × A0))(o:GOp)(c:A3):Rs (A0 × Bool):=
 E1 (toR (a2m c)) fun b c=>if 1<b then .error 5 else if b=0 then .ok ((V0,false),c) else if c4j g sl o=true then .error 15
  else E1 (elR M p o.Kind o.Target c) fun x c=>if o.Card=3/\b8j x=true then .error 5 else .ok ((x,true),c)
noncomputable def fdR(M:RdM)(p:A6)(g:B7)(sl:List (Int × A0))(o:GOp)(c:A3):Rs (A0 × Bool):=
 if o.Card=1 then E1 (elR M p o.Kind o.Target c) fun x c=>.ok ((x,true),c)
 else if o.Card=4 then E1 (cnR c) fun n c=>E1 (lsR M p o.Kind o.Target n.toNat c) fun l c=>.ok ((⟨11,0,⟨#[]⟩,l,[],[],[]⟩, !l.isEmpty),c)
 else if o.Card=5 then E1 (cnR c) fun n c=>E1 (prR M p o.Key o.Kind o.Target n.toNat none c) fun l c=>.ok ((⟨12,0,⟨#[]⟩,[],l,[],[]⟩, !l.isEmpty),c)
 else myR M p g sl o c
noncomputable def c7b(M:RdM)(p:A6)(g:B7):List GOp->List (Int × A0)->A3->Rs (List (Int × A0))
 |[],sl,c=>.ok (sl,c)
 |o::ops,sl,c=>E1 (fdR M p g sl o c) fun x c=>c7b M p g ops (if x.2=true then sl++[(o.Num,x.1)] else sl) c
def a3m(c:A3)(n:Int):A3:=⟨c.Data,c.At,c.End,c.Depth - n,c.Nodes,c.Text⟩
noncomputable def msR(p:A6):Nat->RdM
 |0,_,_=>.error 17
 |n+1,t,c=>if c.Depth<1 then .error 17 else E1 (spR c) fun _ c=>match p.Progs[t.toNat]? with
  |none=>.error 17
  |some g=>E1 (c7b (msR p n) p g g.Ops [] (a3m c 1)) fun sl c=>.ok (⟨10,0,⟨#[]⟩,[],[],sl,[]⟩,a3m c (-1))
theorem Rds.spend{m:Nat}:Rds m ⟨#[]⟩ ⟨0,1,0⟩ () spR:=by
 intro c hc ht hm hp;have:=hc.n0;have:=hc.d0;unfold spR;split
 ·exact .inr (.inr ⟨rfl,by simp;omega⟩)
 ·refine⟨?_,⟨G0 c,(d4j _).symm⟩,by simp;omega,by simp;omega,by simp;omega⟩;have:((⟨#[]⟩:ByteArray).size:Int)=0:=rfl;simp[adv,this]
theorem b2j(c:A3)(n:Int):a0p c n=adv c n 0:=by simp[a0p,adv]
theorem f1a(s:ByteArray)(u:Nat):∀i acc:Nat,i<=9->u*128 ^ i<18446744073709551616->i<=s.size->s.size<i+(a8z u).length->(∀j x,i+j<s.size->(a8z u)[j]? =some x->((F6 s (i+j):Nat):Int)=x)->U5 s i acc=(0,0,4):=by
 induction u using Nat.strongRecOn with
 |_ u ih=>
  intro i acc hi hb hl hl2 hx;rw[U5.eq_def,if_neg (by omega)];rcases Nat.lt_or_ge i s.size with hlt|hge
  ·rw[if_neg (by omega)]
   by_cases h:u<128
   ·have hu:a8z u=[(u:Int)]:=by rw[a8z,if_pos h]
    rw[hu]at hl2;simp at hl2;omega
   ·have hu:a8z u=((u % 128+128:Nat):Int)::a8z (u / 128):=by rw[a8z,if_neg h]
    have h0:F6 s i=u % 128+128:=by
     have:=hx 0 _ (by omega) (by rw[hu];rfl);rw[Nat.add_zero]at this;omega
    have h9:i<=8:=by
     rcases Nat.lt_or_ge i 9 with h9|h9
     ·omega
     ·obtain rfl:i=9:=by omega
      have:(128:Nat) ^ 9=9223372036854775808:=by decide
      rw[this]at hb;omega
    have e2:u*128 ^ i=u % 128*128 ^ i+u / 128*128 ^ (i+1):=by
     rw[Nat.pow_succ,Nat.mul_comm (128 ^ i) 128,<-Nat.mul_assoc,<-Nat.add_mul]
     congr 1
     omega
    rw[h0,if_neg (by omega),if_neg (by omega)];rw[hu]at hl2
    exact ih (u / 128) (by omega) (i+1) _ (by omega) (by omega) (by omega) (by simp at hl2;omega) (fun j x hj hjx=>by
     have:=hx (j+1) x (by omega) (by rw[hu];simpa using hjx);rw[show i+1+j=i+(j+1) by omega];exact this)
  ·rw[if_pos hge]
theorem f5g(u:Nat)(hu:u<18446744073709551616)(s t:ByteArray)(h:b1l u=s++t)(ht:t.size≠0):U5 s 0 0=(0,0,4):=by
 have hz:(b1l u).size=(a8z u).length:=b1w _;have hz2:s.size+t.size=(a8z u).length:=by rw[<-hz,h,K3]
 refine f1a s u 0 0 (by omega) (by simpa using hu) (by omega) (by omega) (fun j x hj hjx=>?_);rw[Nat.zero_add];have:=b56 (c55 u) hjx
 have e:F6 (ofI (a8z u)) j=F6 s j:=by
  have:ofI (a8z u)=s++t:=h;rw[this,a6j _ _ (by omega)]
 rw[<-e];exact this
theorem d48{c:A3}{b t:ByteArray}(h:b=G0 c++t)(ht:t.size≠0):¬Whl c b:=fun⟨u,hu⟩=>by
 have:=congrArg ByteArray.size hu;rw[K3]at this;have e:=congrArg ByteArray.size h;rw[K3]at e;omega
theorem Ahd.two{c:A3}{b:ByteArray}(h:Ahd c b):Whl c b\/∃t,b=G0 c++t/\t.size≠0:=by
 rcases h with h|⟨t,h⟩
 ·exact .inl h
 ·by_cases e:t.size=0
  ·have:t=⟨#[]⟩:=g2l e;subst this;exact .inl ⟨⟨#[]⟩,by rw[h,b9c,b9c]⟩
  ·exact .inr ⟨t,h,e⟩
theorem Rds.num{m:Nat}(u:Nat)(hu:u<18446744073709551616):Rds m (b1l u) .none (u:Int) (fun c=>toR (T2 c)):=by
 intro c hc ht hm hp;have:=hc.n0;have:=hc.d0;show Got c _ _ _ (toR _);rcases hp.two with⟨t,h⟩|⟨t,h,h0⟩
 ·rw[g0d c u hu t h];refine⟨?_,⟨t,h⟩,by simp[P8.none];omega,by simp[P8.none];omega,by simp[P8.none];omega⟩;simp[b2j,P8.none]
 ·have e:=f5g u hu _ t h h0
  have e2:T2 c=(0,c,4):=by
   unfold T2;rw[e];simp
  rw[e2];exact .inl ⟨rfl,d48 h h0⟩
theorem Rds.byte{m:Nat}(b:Int)(hb:0<=b/\b<256):Rds m (ofI [b]) .none b (fun c=>toR (a2m c)):=by
 intro c hc ht hm hp;have:=hc.n0;have:=hc.d0;show Got c _ _ _ (toR _);have hz:(ofI [b]).size=1:=b1w _;have hs:=hc.size;rcases hp.two with⟨t,h⟩|⟨t,h,h0⟩
 ·have e:a2m c=(b,a0p c 1,0):=by
   have h1:(F6 (G0 c) 0:Int)=b:=by
    rw[h,a6j _ _ (by omega)];exact b56 (a0y hb) rfl
   have h2:=congrArg ByteArray.size h;rw[K3]at h2;rw[hc.rest,U0 _ (by have:=hc.a0;omega),Nat.add_zero]at h1;rw[a2m,hc.left,if_pos (by omega),(a49 _ _).1,h1]
  rw[e];refine⟨?_,⟨t,h⟩,by simp[P8.none];omega,by simp[P8.none];omega,by simp[P8.none];omega⟩;simp[b2j,P8.none,hz]
 ·have h2:=congrArg ByteArray.size h;rw[K3,hz]at h2;have e:a2m c=(0,c,4):=by rw[a2m,hc.left,if_neg (by omega)]
  rw[e];exact .inl ⟨rfl,d48 h h0⟩
theorem Rds.fix{m:Nat}(u:Nat)(hu:u<18446744073709551616):Rds m (d84 u) .none (u:Int) (fun c=>toR (c48 c)):=by
 intro c hc ht hm hp;have:=hc.n0;have:=hc.d0;show Got c _ _ _ (toR _);have hz:=c9j u;rcases hp.two with⟨t,h⟩|⟨t,h,h0⟩
 ·rw[g1c c u hu t h];refine⟨?_,⟨t,h⟩,by simp[P8.none];omega,by simp[P8.none];omega,by simp[P8.none];omega⟩;simp[b2j,P8.none,hz]
 ·have h2:=congrArg ByteArray.size h;rw[K3,hz]at h2;have e:c48 c=(0,c,4):=by rw[c48,if_neg (by omega)]
  rw[e];exact .inl ⟨rfl,d48 h h0⟩
theorem Rds.txt{m:Nat}(s:ByteArray):Rds m s ⟨0,0,s.size⟩ s (fun c=>toR (a64 c s.size)):=by
 intro c hc ht hm hp;have:=hc.n0;have:=hc.d0;show Got c _ _ _ (toR _);have hs:=hc.size;rcases hp.two with⟨t,h⟩|⟨t,h,h0⟩
 ·have h2:=congrArg ByteArray.size h;rw[K3]at h2
  by_cases hl:c.Text<s.size
  ·have e:a64 c s.size=(⟨#[]⟩,c,3):=by rw[a64,if_neg (by omega),hc.left,if_neg (by omega),if_pos hl]
   rw[e];exact .inr (.inr ⟨rfl,.inr hl⟩)
  ·have e:a64 c s.size=(s,a0p c s.size,0):=by
    rw[a64,if_neg (by omega),hc.left,if_neg (by omega),if_neg hl];refine Prod.ext (show c.Data.extract c.At.toNat (c.At.toNat+((s.size:Nat):Int).toNat)=s from ?_) rfl;have a0:=hc.a0;have a1:=hc.a1;have a2:=hc.a2;refine d8k ?_ fun i hi=>?_
    ·rw[W4 _ (by omega)];omega
    ·rw[W4 _ (by omega)]at hi;rw[U0 _ (by omega)];have e:=congrArg (fun s=>F6 s i) h;simp only[hc.rest]at e;rw[U0 _ (by omega),a6j _ _ (by omega)]at e;exact e
   rw[e];refine⟨?_,⟨t,h⟩,by simp;omega,by simp;omega,by simp;omega⟩;simp[b2j]
 ·have h2:=congrArg ByteArray.size h;rw[K3]at h2;have e:a64 c s.size=(⟨#[]⟩,c,4):=by rw[a64,if_neg (by omega),hc.left,if_pos (by omega)]
  rw[e];exact .inl ⟨rfl,d48 h h0⟩
structure ScO(p:A6)(k t:Int)(y:A0):Prop where
 fit:a2k k y=true
 kind:y.Kind=k
 nrm:a2o y=y
 acc:k=9->d2n p t y.Bits=true
 b:0<=y.Bits/\y.Bits<18446744073709551616
 lone:y.List_=[]/\y.Pairs=[]/\y.Slots=[]/\y.Raws=[]
theorem b15{α β:Type}(a:α × A3 × Int)(f:α->A3->Rs β):E1 (toR a) f=if a.2.2≠0 then .error a.2.2 else f a.1 a.2.1:=by
 unfold toR E1
 by_cases h:a.2.2=0<;>simp[h]
theorem f48(p:A6)(t:Int)(c:A3):scR p 1 t c=E1 (toR (a2m c)) fun b c=>if 1<b then .error 5 else .ok (b6q 1 b,c):=by
 rw[b15,scR,b55,if_pos rfl]
 by_cases h:(a2m c).2.2≠0
 ·rw[if_pos h,if_pos h,toR,if_pos h]
 ·rw[if_neg h,if_neg h]
  by_cases h2:1<(a2m c).1
  ·rw[if_pos h2,if_pos h2];rfl
  ·rw[if_neg h2,if_neg h2];rfl
theorem f6f(p:A6)(t:Int)(c:A3):scR p 6 t c=E1 (toR (c48 c)) fun u c=>if(a2o ⟨6,u,⟨#[]⟩,[],[],[],[]⟩).Bits≠u then .error 5 else .ok (⟨6,u,⟨#[]⟩,[],[],[],[]⟩,c):=by
 rw[b15,scR,b55,if_neg (by decide),if_pos rfl,e4e]
 by_cases h:(c48 c).2.2≠0
 ·rw[if_pos h,if_pos h,toR,if_pos h]
 ·rw[if_neg h,if_neg h]
  by_cases h2:(a2o ⟨6,(c48 c).1,⟨#[]⟩,[],[],[],[]⟩).Bits≠(c48 c).1
  ·rw[if_pos h2,if_pos h2];rfl
  ·rw[if_neg h2,if_neg h2];rfl
def txR(u:Int)(c:A3):Rs ByteArray:=if a2b c.Data c.At c.End<u then .error 4 else toR (a64 c u)
theorem f4g(p:A6)(k t:Int)(hk:k=7\/k=8)(c:A3):scR p k t c=E1 (toR (T2 c)) fun u c=>E1 (txR u c) fun s c=>if k=7/\a7e s=false then .error 7 else .ok (⟨k,0,s,[],[],[],[]⟩,c):=by
 rw[b15,scR,b55,if_neg (by omega),if_neg (by omega),if_pos hk,e0w]
 by_cases h:(T2 c).2.2≠0
 ·rw[if_pos h,if_pos h,toR,if_pos h]
 ·rw[if_neg h,if_neg h,txR]
  by_cases h2:a2b (T2 c).2.1.Data (T2 c).2.1.At (T2 c).2.1.End<(T2 c).1
  ·rw[if_pos h2,if_pos h2];rfl
  ·rw[if_neg h2,if_neg h2,b15]
   by_cases h3:(a64 (T2 c).2.1 (T2 c).1).2.2≠0
   ·rw[if_pos h3,if_pos h3,toR,if_pos h3]
   ·rw[if_neg h3,if_neg h3]
    by_cases h4:k=7/\a7e (a64 (T2 c).2.1 (T2 c).1).1=false
    ·rw[if_pos h4,if_pos h4];rfl
    ·rw[if_neg h4,if_neg h4];rfl
theorem f5w(p:A6)(k t:Int)(hk:k=2\/k=3\/k=4\/k=5\/k=9)(c:A3):scR p k t c=E1 (toR (T2 c)) fun u c=>if a2k k (b6q k (b8a k u))=false then .error 6 else if k=9/\d2n p t u=false then .error 16 else .ok (b6q k (b8a k u),c):=by
 rw[b15,scR,b55,if_neg (by omega),if_neg (by omega),if_neg (by omega),if_pos hk]
 by_cases h:(T2 c).2.2≠0
 ·rw[if_pos h,if_pos h,toR,if_pos h]
 ·rw[if_neg h,if_neg h]
  by_cases h2:a2k k (b6q k (b8a k (T2 c).1))=false
  ·rw[if_pos h2,if_pos h2];rfl
  ·rw[if_neg h2,if_neg h2]
   by_cases h3:k=9/\d2n p t (T2 c).1=false
   ·rw[if_pos h3,if_pos h3];rfl
   ·rw[if_neg h3,if_neg h3];rfl
theorem Rds.tx{m:Nat}(s:ByteArray):Rds m s ⟨0,0,s.size⟩ s (txR s.size):=by
 intro c hc ht hm hp;unfold txR;split
 ·rename_i h;rw[hc.left]at h;refine .inl ⟨rfl,fun⟨t,e⟩=>?_⟩;have h2:=congrArg ByteArray.size e;rw[K3]at h2;have:=hc.size;omega
 ·exact Rds.txt s c hc ht hm hp
section
variable {α β:Type}{m:Nat}
theorem Rds.fin{b:ByteArray}{k:P8}{x:α}{y:β}{f:A3->Rs α}(h:Rds m b k x f)(g:α->A3->Rs β)(e:∀c,g x c=.ok (y,c)):Rds m b k y (fun c=>E1 (f c) g):=by
 have e2:g x=fun c=>.ok (y,c):=funext e
 have h2:=Rds.bind (m:=m) (b':=⟨#[]⟩) (k':=.none) (y:=y) (g:=g) h (by rw[e2];exact Rds.pure y);exact h2.of (b9c b) (P8.add_none k)
end
theorem Rds.scal{m:Nat}{p:A6}{k t:Int}{y:A0}(h:ScO p k t y):Rds m (c2o y) ⟨0,0,y.Text.size⟩ y (scR p k t):=by
 obtain⟨f,hk,hn,ha,hb,l1,l2,l3,l4⟩:=h;obtain⟨K,B,T,L,P,S,R⟩:=y;simp only at hk hb ha l1 l2 l3 l4 ⊢;subst hk l1 l2 l3 l4;have f':a2k K ⟨K,B,T,[],[],[],[]⟩=true:=f;obtain⟨k1,k2,k3,k4⟩:=b2f ⟨K,B,T,[],[],[],[]⟩ f';simp only at k1 k2 k3 k4
 have tx:¬(K=7\/K=8)->T=⟨#[]⟩:=fun hk=>by
  unfold a2k at f';rw[if_neg hk]at f';simp only[Bool.and_eq_true,decide_eq_true_eq]at f';exact f'.2.1
 have key:∀u:Nat,u<18446744073709551616->¬(K=7\/K=8)->c2o ⟨K,B,T,[],[],[],[]⟩=b1l u->(K=2\/K=3\/K=4\/K=5\/K=9)->b8a K u=B->(K=9->(u:Int)=B)->Rds m (c2o ⟨K,B,T,[],[],[],[]⟩) ⟨0,0,T.size⟩ ⟨K,B,T,[],[],[],[]⟩ (scR p K t):=by
  intro u hu hk hp hk2 hv hv9;have et:=tx hk;subst et;rw[hp];have e:scR p K t=fun c=>E1 (toR (T2 c)) fun u c=>if a2k K (b6q K (b8a K u))=false then .error 6 else if K=9/\d2n p t u=false then .error 16 else .ok (b6q K (b8a K u),c):=funext (f5w p K t hk2)
  rw[e];refine(Rds.fin (Rds.num u hu) _ fun c=>?_).of rfl rfl;have f2:a2k K (b6q K B)=true:=f';rw[hv,if_neg (by rw[f2];simp),if_neg]
  ·rfl
  ·rintro⟨q1,q2⟩;rw[hv9 q1,ha q1]at q2;cases q2
 by_cases e1:K=1
 ·subst e1
  have hw:B<=1:=by
   have:=k4 (by decide);rw[a06,if_pos rfl]at this;simpa using this
  have et:=tx (by decide);subst et
  have hp:c2o ⟨1,B,⟨#[]⟩,[],[],[],[]⟩=ofI [B]:=by
   unfold c2o;rw[if_pos f',if_pos rfl];simp only[show B % 256=B by omega]
  rw[hp];have e:scR p 1 t=fun c=>E1 (toR (a2m c)) fun b c=>if 1<b then .error 5 else .ok (b6q 1 b,c):=funext (f48 p t)
  rw[e];refine(Rds.fin (Rds.byte B (by omega)) _ fun c=>?_).of rfl rfl;rw[if_neg (by omega)];rfl
 by_cases e23:K=2\/K=3
 ·have hw:=d45 B;refine key (e5w (wI B)) (d98 hw) (by omega) (by unfold c2o;rw[if_pos f',if_neg e1,if_pos e23]) (by omega) ?_ (by omega);unfold b8a;rw[if_pos e23,Int.toNat_natCast,f96,h3p hb]
 by_cases e6:K=6
 ·subst e6;have et:=tx (by decide);subst et
  have hp:c2o ⟨6,B,⟨#[]⟩,[],[],[],[]⟩=d84 B.toNat:=by
   unfold c2o;rw[if_pos f',if_neg e1,if_neg e23,if_pos rfl,hn]
  rw[hp];have e:scR p 6 t=fun c=>E1 (toR (c48 c)) fun u c=>if(a2o ⟨6,u,⟨#[]⟩,[],[],[],[]⟩).Bits≠u then .error 5 else .ok (⟨6,u,⟨#[]⟩,[],[],[],[]⟩,c):=funext (f6f p t)
  rw[e];have eb:((B.toNat:Nat):Int)=B:=by omega
  refine(Rds.fin (Rds.fix B.toNat (by omega)) _ fun c=>?_).of rfl rfl;rw[eb,hn,if_neg (by simp)]
 by_cases e78:K=7\/K=8
 ·obtain⟨k5,k6,k7⟩:=k3 e78;subst k5;have hp:c2o ⟨K,0,T,[],[],[],[]⟩=b1l T.size++T:=by unfold c2o;rw[if_pos f',if_neg e1,if_neg e23,if_neg e6,if_pos e78]
  rw[hp];have e:scR p K t=fun c=>E1 (toR (T2 c)) fun u c=>E1 (txR u c) fun s c=>if K=7/\a7e s=false then .error 7 else .ok (⟨K,0,s,[],[],[],[]⟩,c):=funext (f4g p K t e78)
  rw[e];refine(Rds.bind (Rds.num T.size (by omega)) (Rds.fin (Rds.tx T) _ fun c=>?_)).of rfl (P8.none_add _);rw[if_neg];rintro⟨q1,q2⟩;rw[k7 q1]at q2;cases q2
 ·refine key B.toNat (by omega) e78 (by unfold c2o;rw[if_pos f',if_neg e1,if_neg e23,if_neg e6,if_neg e78]) (by omega) ?_ (by omega);unfold b8a;rw[if_neg e23];omega
def a9h{α:Type}(f:α->P8):List α->P8
 |[]=>.none
 |x::l=>(f x).add (a9h f l)
def d5w(v:A0)(k:P8):P8:=⟨if v.Kind=10 then k.d+1 else k.d,k.n+1+v.Raws.length,max v.Text.size k.l⟩
def d6a:Nat->A0->P8
 |0,_=>.none
 |n+1,v=>d5w v ((a9h (d6a n) v.List_).add ((a9h (fun x=>(d6a n x.1).add (d6a n x.2)) v.Pairs).add (a9h (fun x=>d6a n x.2) v.Slots)))
theorem a8x{α:Type}{f g:α->P8}:∀{l:List α},(∀x∈l,f x=g x)->a9h f l=a9h g l
 |[],_=>rfl
 |x::l,h=>by rw[a9h,a9h,h x (by simp),a8x fun y hy=>h y (by simp[hy])]
theorem b4s:∀(n m:Nat) (v:A0),SizeOf.sizeOf v<=n->SizeOf.sizeOf v<=m->d6a n v=d6a m v
 |0,_,v,h,_=>by have:=szV v;omega
 |_+1,0,v,_,h=>by have:=szV v;omega
 |n+1,m+1,v,h1,h2=>by
  simp only[d6a];rw[a8x (l:=v.List_) fun x hx=>b4s n m x (by have:=szL hx;omega) (by have:=szL hx;omega)];rw[a8x (l:=v.Pairs) fun x hx=>by rw[b4s n m x.1 (by have:=szP hx;omega) (by have:=szP hx;omega),b4s n m x.2 (by have:=szP hx;omega) (by have:=szP hx;omega)]];rw[a8x (l:=v.Slots) fun x hx=>b4s n m x.2 (by have:=szS hx;omega) (by have:=szS hx;omega)]
noncomputable def cV(v:A0):P8:=d6a (SizeOf.sizeOf v) v
noncomputable abbrev cP(x:A0 × A0):P8:=(cV x.1).add (cV x.2)
noncomputable abbrev cS(x:Int × A0):P8:=cV x.2
theorem c5n(v:A0):cV v=d5w v ((a9h cV v.List_).add ((a9h cP v.Pairs).add (a9h cS v.Slots))):=by
 have h0:=szV v;obtain⟨n,hn⟩:∃n,SizeOf.sizeOf v=n+1:=⟨SizeOf.sizeOf v - 1,by omega⟩
 rw[cV,hn];simp only[d6a];rw[a8x (l:=v.List_) (g:=cV) fun x hx=>b4s n _ x (by have:=szL hx;omega) (Nat.le_refl _)];rw[a8x (l:=v.Pairs) (g:=cP) fun x hx=>by rw[b4s n _ x.1 (by have:=szP hx;omega) (Nat.le_refl _),b4s n _ x.2 (by have:=szP hx;omega) (Nat.le_refl _)];rfl];rw[a8x (l:=v.Slots) (g:=cS) fun x hx=>b4s n _ x.2 (by have:=szS hx;omega) (Nat.le_refl _)]
theorem ScO.cost{p:A6}{k t:Int}{y:A0}(h:ScO p k t y):cV y=⟨0,1,y.Text.size⟩:=by
 obtain⟨a,b,c,d⟩:=h.lone;have hk:=h.kind;have hf:=h.fit
 have hn:y.Kind≠10:=by
  rw[<-hk]at hf;have:=(b2f y hf).2.1;omega
 rw[c5n,a,b,c,d5w,if_neg hn,d];simp[a9h,P8.add,P8.none]
def ElO(p:A6)(B:Int->A0->Prop)(k t:Int)(y:A0):Prop:=(k=10->B t y)/\(k≠10->ScO p k t y)
section
variable {m:Nat}{p:A6}{W:c5o}{B:Int->A0->Prop}{M:RdM}(hM:∀t y,B t y->Rds m (W t y) (cV y) y (M t))
theorem Rds.sc{k t:Int}{y:A0}(h:ScO p k t y)(hk:k≠10):Rds m (c2o y) (cV y) y (elR M p k t):=by
 have e:elR M p k t=fun c=>E1 (spR c) fun _ c=>scR p k t c:=by funext c;rw[elR,if_neg hk]
 rw[e];refine(Rds.bind Rds.spend (Rds.scal h)).of (d4j _) ?_;rw[h.cost];simp[P8.add]
 include hM
theorem Rds.el{o:GOp}{y:A0}(h:ElO p B o.Kind o.Target y):Rds m (a6b W o y) (cV y) y (elR M p o.Kind o.Target):=by
 unfold a6b;split
 ·rename_i hk;have e:elR M p o.Kind o.Target=M o.Target:=by funext c;rw[elR,if_pos hk]
  rw[e];exact hM _ _ (h.1 hk)
 ·rename_i hk;exact Rds.sc (h.2 hk) hk
theorem Rds.ls{o:GOp}:∀l:List A0,(∀y∈l,ElO p B o.Kind o.Target y)->Rds m (c7v (l.map (a6b W o))) (a9h cV l) l (lsR M p o.Kind o.Target l.length)
 |[],_=>Rds.pure []
 |x::l,h=>by
  have e:lsR M p o.Kind o.Target (x::l).length=fun c=>E1 (elR M p o.Kind o.Target c) fun x c=>E1 (lsR M p o.Kind o.Target l.length c) fun l c=>.ok (x::l,c):=by funext c;rw[List.length_cons,lsR]
  rw[e];exact Rds.bind (Rds.el hM (h x (by simp))) (Rds.map (Rds.ls l fun y hy=>h y (by simp[hy])) (fun l=>x::l) rfl)
theorem Rds.pr{o:GOp}(hk:o.Key≠10):∀(l:List (A0 × A0)) (a:Option A0),(∀x∈l,ScO p o.Key (-1) x.1/\ElO p B o.Kind o.Target x.2)->(∀b,a=some b->∀x∈l,W8 (SizeOf.sizeOf b) b x.1<0)->l.Pairwise (fun x y=>W8 (SizeOf.sizeOf x.1) x.1 y.1<0)->Rds m (c7v (l.map (b8y W o))) (a9h cP l) l (prR M p o.Key o.Kind o.Target l.length a)
 |[],a,_,_,_=>by
  have e:prR M p o.Key o.Kind o.Target ([]:List (A0 × A0)).length a=fun c=>.ok ([],c):=by funext c;rw[List.length_nil,prR]
  rw[e];exact Rds.pure []
 |x::l,a,h,ha,hl=>by
  obtain⟨h1,h2⟩:=h x (by simp);obtain⟨q1,q2⟩:=List.pairwise_cons.1 hl
  have hu:upK a x.1:=by
   cases a with
   |none=>rfl
   |some b=>exact decide_eq_true (ha b rfl x (by simp))
  have e:prR M p o.Key o.Kind o.Target (x::l).length a=fun c=>E1 (elR M p o.Key (-1) c) fun x c=>if upK a x then E1 (elR M p o.Kind o.Target c) fun y c=>E1 (prR M p o.Key o.Kind o.Target l.length (some x) c) fun l c=>.ok ((x,y)::l,c) else .error 5:=by funext c;rw[List.length_cons,prR]
  rw[e];have ih:=Rds.pr hk l (some x.1) (fun y hy=>h y (by simp[hy])) (fun b hb y hy=>by cases hb;exact q1 y hy) q2;have h3:=Rds.bind (Rds.el hM h2) (g:=fun y c=>E1 (prR M p o.Key o.Kind o.Target l.length (some x.1) c) fun l c=>.ok ((x.1,y)::l,c)) (Rds.map ih (fun l=>x::l) rfl);refine(Rds.bind (Rds.sc h1 hk) (b':=a6b W o x.2++c7v (l.map (b8y W o))) (k':=(cV x.2).add (a9h cP l)) ?_).of ?_ (P8.add_assoc _ _ _).symm
  ·have e2:(fun c=>if upK a x.1 then E1 (elR M p o.Kind o.Target c) fun y c=>E1 (prR M p o.Key o.Kind o.Target l.length (some x.1) c) fun l c=>.ok ((x.1,y)::l,c) else .error 5)=fun c=>E1 (elR M p o.Kind o.Target c) fun y c=>E1 (prR M p o.Key o.Kind o.Target l.length (some x.1) c) fun l c=>.ok ((x.1,y)::l,c):=by funext c;rw[if_pos hu]
   rw[e2];exact h3
  ·rw[List.map_cons,c7v,b8y,b18]
end
theorem Rds.cn{m:Nat}(u:Nat)(hu:u<=4096):Rds m (b1l u) ⟨0,if 0<u then 1 else 0,0⟩ (u:Int) cnR:=by
 have e:cnR=fun c=>E1 (toR (T2 c)) fun u c=>if 4096<u then .error 3 else if 0<u then E1 (spR c) fun _ c=>.ok (u,c) else .ok (u,c):=rfl
 rw[e]
 by_cases h:0<u
 ·rw[if_pos h];refine(Rds.bind (Rds.num u (by omega)) (b':=⟨#[]⟩) (k':=⟨0,1,0⟩) (y:=(u:Int)) ?_).of (b9c _) (P8.none_add _)
  have e2:(fun c=>if 4096<(u:Int) then .error 3 else if 0<(u:Int) then E1 (spR c) fun _ c=>.ok ((u:Int),c) else .ok ((u:Int),c):A3->Rs Int)=fun c=>E1 (spR c) fun _ c=>.ok ((u:Int),c):=by
   funext c;rw[if_neg (by omega),if_pos (by omega)]
  rw[e2];exact Rds.fin Rds.spend _ fun c=>rfl
 ·rw[if_neg h];refine Rds.fin (Rds.num u (by omega)) _ fun c=>?_
  rw[if_neg (by omega),if_neg (by omega)]
def RfF(p:A6)(B:Int->A0->Prop)(o:GOp)(z:A0):Prop:=
 (o.Card=4->z=⟨11,0,⟨#[]⟩,z.List_,[],[],[]⟩/\z.List_≠[]/\z.List_.length<=4096/\∀y∈z.List_,ElO p B o.Kind o.Target y)/\
 (o.Card=5->z=⟨12,0,⟨#[]⟩,[],z.Pairs,[],[]⟩/\z.Pairs≠[]/\z.Pairs.length<=4096/\o.Key≠10/\(∀x∈z.Pairs,ScO p o.Key (-1) x.1/\ElO p B o.Kind o.Target x.2)/\z.Pairs.Pairwise (fun x y=>W8 (SizeOf.sizeOf x.1) x.1 y.1<0))/\
 (o.Card≠4->o.Card≠5->ElO p B o.Kind o.Target z/\(o.Card=3->b8j z=false))
theorem d5x(b:UInt8):(⟨#[b]⟩:ByteArray)=ofI [(b.toNat:Int)]:=by
 unfold ofI;simp
section
variable {m:Nat}{p:A6}{W:c5o}{B:Int->A0->Prop}{M:RdM}(hM:∀t y,B t y->Rds m (W t y) (cV y) y (M t)) {g:B7}
theorem Rds.unset(sl:List (Int × A0))(o:GOp)(h1:o.Card≠1):∃z,Rds m (a0t W o V0 false) .none (z,false) (fdR M p g sl o):=by
 by_cases h4:o.Card=4
 ·have e:fdR M p g sl o=fun c=>E1 (cnR c) fun n c=>E1 (lsR M p o.Kind o.Target n.toNat c) fun l c=>.ok ((⟨11,0,⟨#[]⟩,l,[],[],[]⟩, !l.isEmpty),c):=by funext c;rw[fdR,if_neg h1,if_pos h4]
  refine⟨⟨11,0,⟨#[]⟩,[],[],[],[]⟩,?_⟩;rw[e];refine(Rds.fin (Rds.cn 0 (by omega)) _ fun c=>rfl).of ?_ rfl;unfold a0t;rw[if_pos h4];exact(b9c _).symm
 by_cases h5:o.Card=5
 ·have e:fdR M p g sl o=fun c=>E1 (cnR c) fun n c=>E1 (prR M p o.Key o.Kind o.Target n.toNat none c) fun l c=>.ok ((⟨12,0,⟨#[]⟩,[],l,[],[]⟩, !l.isEmpty),c):=by funext c;rw[fdR,if_neg h1,if_neg h4,if_pos h5]
  refine⟨⟨12,0,⟨#[]⟩,[],[],[],[]⟩,?_⟩;rw[e];refine(Rds.fin (Rds.cn 0 (by omega)) _ fun c=>?_).of ?_ rfl
  ·rw[Int.toNat_natCast,prR];rfl
  unfold a0t;rw[if_neg h4,if_pos h5];exact(b9c _).symm
 ·have e:fdR M p g sl o=fun c=>E1 (toR (a2m c)) fun b c=>if 1<b then .error 5 else if b=0 then .ok ((V0,false),c) else if c4j g sl o=true then .error 15
   else E1 (elR M p o.Kind o.Target c) fun x c=>if o.Card=3/\b8j x=true then .error 5 else .ok ((x,true),c):=by funext c;rw[fdR,if_neg h1,if_neg h4,if_neg h5,myR]
  refine⟨V0,?_⟩;rw[e];refine(Rds.fin (Rds.byte 0 (by omega)) _ fun c=>rfl).of ?_ rfl;unfold a0t;rw[if_neg h4,if_neg h5,if_neg h1,if_neg (by decide)];exact(d5x 0).symm
 include hM
theorem Rds.set(sl:List (Int × A0))(o:GOp)(z:A0)(h:RfF p B o z)(hj:c4j g sl o=false):Rds m (a0t W o z true) (cV z) (z,true) (fdR M p g sl o):=by
 obtain⟨h4,h5,h6⟩:=h;unfold a0t
 by_cases c4:o.Card=4
 ·obtain⟨ez,hne,hlen,hel⟩:=h4 c4;rw[if_pos c4];have e:fdR M p g sl o=fun c=>E1 (cnR c) fun n c=>E1 (lsR M p o.Kind o.Target n.toNat c) fun l c=>.ok ((⟨11,0,⟨#[]⟩,l,[],[],[]⟩, !l.isEmpty),c):=by funext c;rw[fdR,if_neg (by omega),if_pos c4]
  rw[e];generalize z.List_=l at*;subst ez;have hl:0<l.length:=List.length_pos_iff.2 hne;refine(Rds.bind (Rds.cn l.length hlen) (b':=c7v (l.map (a6b W o))) (k':=a9h cV l) ?_).of rfl ?_
  ·refine Rds.fin (Rds.ls hM l hel) (f:=lsR M p o.Kind o.Target l.length) _ fun c=>?_
   have:l.isEmpty=false:=by cases l<;>simp_all
   rw[this];rfl
  ·rw[c5n,d5w];simp only[P8.add,a9h,P8.none,if_pos hl,P8.mk.injEq];refine⟨?_,?_,?_⟩
   ·rw[if_neg (by decide)];omega
   ·simp;omega
   ·have:(⟨#[]⟩:ByteArray).size=0:=rfl;omega
 by_cases c5:o.Card=5
 ·obtain⟨ez,hne,hlen,hk,hel,hup⟩:=h5 c5;rw[if_neg c4,if_pos c5];have e:fdR M p g sl o=fun c=>E1 (cnR c) fun n c=>E1 (prR M p o.Key o.Kind o.Target n.toNat none c) fun l c=>.ok ((⟨12,0,⟨#[]⟩,[],l,[],[]⟩, !l.isEmpty),c):=by funext c;rw[fdR,if_neg (by omega),if_neg c4,if_pos c5]
  rw[e];generalize z.Pairs=l at*;subst ez;have hl:0<l.length:=List.length_pos_iff.2 hne;refine(Rds.bind (Rds.cn l.length hlen) (b':=c7v (l.map (b8y W o))) (k':=a9h cP l) ?_).of rfl ?_
  ·refine Rds.fin (Rds.pr hM hk l none hel (fun b hb=>by cases hb) hup) (f:=prR M p o.Key o.Kind o.Target l.length none) _ fun c=>?_
   have:l.isEmpty=false:=by cases l<;>simp_all
   rw[this];rfl
  ·rw[c5n,d5w];simp only[P8.add,a9h,P8.none,if_pos hl,P8.mk.injEq];refine⟨?_,?_,?_⟩
   ·rw[if_neg (by decide)];omega
   ·simp;omega
   ·have:(⟨#[]⟩:ByteArray).size=0:=rfl;omega
 obtain⟨hel,hz⟩:=h6 c4 c5;rw[if_neg c4,if_neg c5]
 by_cases c1:o.Card=1
 ·rw[if_pos c1];have e:fdR M p g sl o=fun c=>E1 (elR M p o.Kind o.Target c) fun x c=>.ok ((x,true),c):=by funext c;rw[fdR,if_pos c1]
  rw[e];exact Rds.fin (Rds.el hM hel) _ fun c=>rfl
 ·rw[if_neg c1,if_pos rfl]
  have e:fdR M p g sl o=fun c=>E1 (toR (a2m c)) fun b c=>if 1<b then .error 5 else if b=0 then .ok ((V0,false),c) else if c4j g sl o=true then .error 15
   else E1 (elR M p o.Kind o.Target c) fun x c=>if o.Card=3/\b8j x=true then .error 5 else .ok ((x,true),c):=by funext c;rw[fdR,if_neg c1,if_neg c4,if_neg c5,myR]
  rw[e];refine(Rds.bind (Rds.byte 1 (by omega)) (b':=a6b W o z) (k':=cV z) ?_).of (by rw[d5x 1];rfl) (P8.none_add _)
  have e2:(fun c=>if(1:Int)<1 then .error 5 else if(1:Int)=0 then .ok ((V0,false),c) else if c4j g sl o=true then .error 15
   else E1 (elR M p o.Kind o.Target c) fun x c=>if o.Card=3/\b8j x=true then .error 5 else .ok ((x,true),c):A3->Rs (A0 × Bool))=fun c=>E1 (elR M p o.Kind o.Target c) fun x c=>if o.Card=3/\b8j x=true then .error 5 else .ok ((x,true),c):=by
   funext c;rw[if_neg (by decide),if_neg (by decide),if_neg (by rw[hj];simp)]
  rw[e2];refine Rds.fin (Rds.el hM hel) _ fun c=>?_
  rw[if_neg];rintro⟨q1,q2⟩;rw[hz q1]at q2;cases q2
def Uni(g:B7)(a b:Int × A0):Prop:=0<=(opV g b.1).1.Union->(opV g a.1).1.Union≠(opV g b.1).1.Union
theorem Rds.ops(hop:∀o∈g.Ops,opV g o.Num=(o,true)):∀(ops:List GOp) (sl S:List (Int × A0)),(∀o∈ops,o∈g.Ops)->b5q (RfF p B) ops S->(sl++S).Pairwise (Uni g)->Rds m (a4v W ops S) (a9h cS S) (sl++S) (c7b M p g ops sl)
 |[],sl,S,_,h,_=>by
  have e:S=[]:=h;subst e;have e2:c7b M p g [] sl=fun c=>.ok (sl,c):=by funext c;rw[c7b]
  rw[e2,List.append_nil];exact Rds.pure sl
 |o::ops,sl,S,ho,h,hu=>by
  have e:c7b M p g (o::ops) sl=fun c=>E1 (fdR M p g sl o c) fun x c=>c7b M p g ops (if x.2=true then sl++[(o.Num,x.1)] else sl) c:=by funext c;rw[c7b]
  rw[e];have ho':∀q∈ops,q∈g.Ops:=fun q hq=>ho q (by simp[hq])
  have not:∀S,b5q (RfF p B) ops S->o.Card≠1->(sl++S).Pairwise (Uni g)->Rds m (a0t W o V0 false++a4v W ops S) (a9h cS S) (sl++S) fun c=>E1 (fdR M p g sl o c) fun x c=>c7b M p g ops (if x.2=true then sl++[(o.Num,x.1)] else sl) c:=fun S hS h1 hu=>by
   obtain⟨z,hz⟩:=Rds.unset (m:=m) (p:=p) (W:=W) (M:=M) (g:=g) sl o h1;refine(Rds.bind hz (b':=a4v W ops S) (k':=a9h cS S) ?_).of rfl (P8.none_add _);exact Rds.ops hop ops sl S ho' hS hu
  cases S with
  |nil=>exact not [] h.2 h.1 hu
  |cons s S=>
   simp only[a4v];split
   ·rename_i he;obtain⟨h1,h2⟩:=h.1 he
    have hj:c4j g sl o=false:=by
     rw[c4j,List.any_eq_false];intro a ha hb;have hp:=(List.pairwise_append.1 hu).2.2 a ha s (by simp);unfold Uni at hp;rw[he,hop o (ho o (by simp))]at hp;simp only[Bool.and_eq_true,decide_eq_true_eq]at hb;exact hp hb.2.1 hb.2.2
    refine(Rds.bind (Rds.set hM sl o s.2 h1 hj) (b':=a4v W ops S) (k':=a9h cS S) (y:=sl++s::S) ?_).of rfl rfl;have e3:sl++s::S=(sl++[(o.Num,s.2)])++S:=by rw[<-he];simp
    rw[e3]at hu ⊢;exact Rds.ops hop ops (sl++[(o.Num,s.2)]) S ho' h2 hu
   ·rename_i he;obtain⟨h1,h2⟩:=h.2 he;exact not (s::S) h2 h1 hu
end
def RfV(p:A6):Nat->Int->A0->Prop
 |0,_,_=>False
 |n+1,t,x=>∃g,p.Progs[t.toNat]? =some g/\0<=t/\x=⟨10,0,⟨#[]⟩,[],[],x.Slots,[]⟩/\b5q (RfF p (RfV p n)) g.Ops x.Slots/\x.Slots.Pairwise (Uni g)
theorem c4b{c:A3}(h:Snd c)(hd:1<=c.Depth):Snd (a3m c 1):=by
 have:=h.d1;exact⟨h.sz,h.a0,h.a1,h.a2,by simp only[a3m];omega,by simp only[a3m];omega,h.n0,h.n1⟩
theorem f8a{p:A6}(hp:OkX p):∀(n m:Nat) (t:Int) (x:A0),RfV p n t x->Rds m (O7 p n t x) (cV x) x (msR p m t)
 |0,_,_,_,h=>h.elim
 |n+1,m,t,x,⟨g,hgt,ht,ex,hm,hu⟩=>by
  have hg:g∈p.Progs:=List.mem_of_getElem? hgt;have eb:O7 p (n+1) t x=a4v (O7 p n) g.Ops x.Slots:=by simp only[O7,hgt]
  rw[eb]
  have ec:cV x=⟨(a9h cS x.Slots).d+1,(a9h cS x.Slots).n+1,(a9h cS x.Slots).l⟩:=by
   rw[ex,c5n];have:(⟨#[]⟩:ByteArray).size=0:=rfl;simp[d5w,a9h,P8.none,P8.add,this]
  intro c hc htx hd hpre;have d0:=hc.d0;have n0:=hc.n0;cases m with
  |zero=>exact .inr (.inl ⟨rfl,by rw[ec];simp only;omega⟩)
  |succ m=>
   rw[msR]
   by_cases h1:c.Depth<1
   ·rw[if_pos h1];exact .inr (.inl ⟨rfl,by rw[ec];simp only;omega⟩)
   rw[if_neg h1,spR]
   by_cases h2:c.Nodes<1
   ·rw[if_pos h2];exact .inr (.inr ⟨rfl,by rw[ec];simp only;omega⟩)
   rw[if_neg h2];simp only[E1,hgt];have s1:=c4b (hc.adv (k:=0) (n:=1) (by have:=hc.a1;omega) (by omega)) (show 1<=(adv c 0 1).Depth by simp only[adv];omega)
   have er:G0 (a3m (adv c 0 1) 1)=G0 c:=by
    simp only[G0,a3m,adv,Int.add_zero]
   have h3:=Rds.ops (m:=m) (p:=p) (W:=O7 p n) (M:=msR p m) (g:=g) (fun t y h=>f8a hp n m t y h) (fun o ho=>d4e hp hg ho) g.Ops [] x.Slots (fun o h=>h) hm (by simpa using hu) (a3m (adv c 0 1) 1) s1 htx (by simp only[a3m,adv];omega) (by unfold Ahd at hpre ⊢;rw[er];exact hpre);unfold Whl at*;cases hr:c7b (msR p m) p g g.Ops [] (a3m (adv c 0 1) 1) with
   |error e=>
    rw[hr]at h3;simp only[Got,Whl,er]at h3 ⊢;rw[ec];simp only[a3m,adv]at h3 ⊢;rcases h3 with⟨e1,q⟩|⟨e1,q⟩|⟨e1,q⟩
    ·exact .inl ⟨e1,q⟩
    ·exact .inr (.inl ⟨e1,by omega⟩)
    ·exact .inr (.inr ⟨e1,by omega⟩)
   |ok y=>
    rw[hr]at h3;simp only[Got,Whl,er]at h3 ⊢;obtain⟨rfl,q1,q2,q3,q4⟩:=h3;rw[ec];simp only[a3m,adv]at q2 q3 q4 ⊢;refine⟨?_,q1,by omega,by omega,by omega⟩;refine Prod.ext ex.symm ?_;simp only[A3.mk.injEq,true_and,and_true];omega
theorem b9m{y:A0}(h:y.Kind≠6):a2o y=y:=by unfold a2o;rw[if_neg (fun q=>h q.1)]
theorem d4z{n:Nat}(a b:A0)(ha:isS a.Kind=true):W8 (n+1) a b=W8 (SizeOf.sizeOf a) a b:=by
 have h0:=szV a;obtain⟨m,hm⟩:∃m,SizeOf.sizeOf a=m+1:=⟨SizeOf.sizeOf a - 1,by omega⟩
 rw[hm,W8,W8,if_pos ha,if_pos ha]
theorem d5s{R:GOp->A0->Prop}:∀{ops:List GOp}{S:List (Int × A0)},ops.Pairwise (fun a b=>a.Num<b.Num)->b5q R ops S->S.Pairwise (fun a b=>a.1<b.1)
 |[],S,_,h=>by have e:S=[]:=h;rw[e];exact List.Pairwise.nil
 |o::ops,[],_,_=>List.Pairwise.nil
 |o::ops,x::S,ha,h=>by
  obtain⟨q1,q2⟩:=List.pairwise_cons.1 ha
  by_cases he:x.1=o.Num
  ·obtain⟨_,h2⟩:=h.1 he;refine List.pairwise_cons.2 ⟨fun s hs=>?_,d5s q2 h2⟩;obtain⟨q,hq,hn⟩:=d08 h2 s hs;have:=q1 q hq;omega
  ·exact d5s q2 (h.2 he).2
theorem e1x{α:Type}(f:α->P8):∀l:List α,(a9h f l).n=a3a (fun x=>(f x).n) l
 |[]=>rfl
 |x::l=>by simp only[a9h,P8.add,a3a,e1x f l]
noncomputable abbrev nV(v:A0):Nat:=(cV v).n
noncomputable abbrev nP(x:A0 × A0):Nat:=nV x.1+nV x.2
noncomputable abbrev nS(x:Int × A0):Nat:=nV x.2
theorem f0x(v:A0):nV v=1+v.Raws.length+a3a nV v.List_+a3a nP v.Pairs+a3a nS v.Slots:=by
 have h1:(a9h cV v.List_).n=a3a nV v.List_:=e1x _ _;have h2:(a9h cP v.Pairs).n=a3a nP v.Pairs:=e1x _ _;have h3:(a9h cS v.Slots).n=a3a nS v.Slots:=e1x _ _;show(cV v).n=_;rw[c5n];simp only[d5w,P8.add];omega
theorem d4c:∀(n:Nat) (v:A0),SizeOf.sizeOf v<=n->b07 n v=(nV v:Int)
 |0,v,h=>by have:=szV v;omega
 |n+1,v,h=>by
  have key:∀{α:Type}(f:α->Int) (g:α->Nat) (l:List α),(∀x∈l,f x=(g x:Int))->(l.map f).sum=(a3a g l:Int):=by
   intro α f g l
   induction l with
   |nil=>intro _;rfl
   |cons x l ih=>
    intro h;have h1:=h x (by simp);have h2:=ih fun y hy=>h y (by simp[hy])
    simp only[List.map_cons,List.sum_cons,a3a];omega
  have h1:=key (b07 n) nV v.List_ fun x hx=>d4c n x (by have:=szL hx;omega)
  have h2:=key (fun x:A0 × A0=>b07 n x.1+b07 n x.2) nP v.Pairs fun x hx=>by
   have a:=d4c n x.1 (by have:=szP hx;omega);have b:=d4c n x.2 (by have:=szP hx;omega);simp only[nP];omega
  have h3:=key (fun x:Int × A0=>b07 n x.2) nS v.Slots fun x hx=>d4c n x.2 (by have:=szS hx;omega)
  have e:=f0x v;simp only[b07];omega
section
variable {N:d2o}(hN:∀t v,nV (N t v)<=nV v)
 include hN
end
def Lim(lev:Int)(k:P8):Prop:=(k.d:Int)+lev<=17/\k.l<=4096
theorem Lim.add{e:Int}{a b:P8}(h:Lim e a)(h2:Lim e b):Lim e (a.add b):=by
 unfold Lim at*;simp only[P8.add];omega
theorem Lim.none{e:Int}(h:e<=17):Lim e .none:=⟨by simp only[P8.none];omega,by simp only[P8.none];omega⟩
theorem Lim.sum{α:Type}{e:Int}(he:e<=17){f:α->P8}:∀{l:List α},(∀x∈l,Lim e (f x))->Lim e (a9h f l)
 |[],_=>Lim.none he
 |x::l,h=>(h x (by simp)).add (Lim.sum he fun y hy=>h y (by simp[hy]))
theorem Lim.sc{e:Int}(he:e<=17){p:A6}{k t:Int}{y:A0}(h:ScO p k t y)(hs:y.Text.size<=4096):Lim e (cV y):=by
 rw[h.cost];exact⟨by simp only;omega,hs⟩
theorem e7a:(⟨#[]⟩:ByteArray).size=0:=rfl
theorem Lim.top{e:Int}(v:A0)(hk:v.Kind≠10)(ht:v.Text.size<=4096){k:P8}(h:Lim e k):Lim e (d5w v k):=by
 unfold Lim at*;simp only[d5w,if_neg hk];omega
section
variable {p:A6}(hp:OkX p)
 include hp
end
def Fwd{α:Type}(c:A3)(r:Rs α):Prop:=match r with
 |.ok x=>Snd x.2/\x.2.Depth=c.Depth
 |.error e=>e≠0
theorem O8{α β:Type}{r:Rs α}{f:α->A3->Rs β}{z:β × A3}(h:E1 r f=.ok z):∃x c',r=.ok (x,c')/\f x c'=.ok z:=by
 cases r with
 |error e=>cases h
 |ok x=>exact⟨x.1,x.2,rfl,h⟩
theorem a3c{α β γ:Type}(r:Rs α)(f:α->A3->Rs β)(g:β->A3->Rs γ):E1 (E1 r f) g=E1 r fun x c=>E1 (f x c) g:=by
 cases r<;>rfl
theorem a3o{α β:Type}(x:α × A3)(f:α->A3->Rs β):E1 (.ok x) f=f x.1 x.2:=rfl
theorem c35{α:Type}{a:α × A3 × Int}{z:α × A3}(h:toR a=.ok z):a=(z.1,z.2,0):=by
 unfold toR at h;split at h
 ·cases h
 ·rename_i q;cases h;exact Prod.ext rfl (Prod.ext rfl (by simpa using q))
section
variable {α β:Type}{c:A3}
theorem Fwd.bind{r:Rs α}{f:α->A3->Rs β}(h:Fwd c r)(k:∀x c',r=.ok (x,c')->Snd c'->c'.Depth=c.Depth->Fwd c' (f x c')):Fwd c (E1 r f):=by
 cases r with
 |error e=>exact h
 |ok x=>
  have h2:=k x.1 x.2 rfl h.1 h.2;have hd:=h.2;show Fwd c (f x.1 x.2);cases hf:f x.1 x.2 with
  |error e=>rw[hf]at h2;exact h2
  |ok z=>rw[hf]at h2;exact⟨h2.1,by rw[h2.2,hd]⟩
theorem Fwd.err{e:Int}(h:e≠0):Fwd (α:=α) c (.error e):=h
theorem Fwd.ret(x:α)(h:Snd c):Fwd c (.ok (x,c)):=⟨h,rfl⟩
theorem Fwd.to{a:α × A3 × Int}(h:a.2.2=0->∃k:Int,a.2.1=a0p c k/\0<=k/\k<=c.End - c.At)(hc:Snd c):Fwd c (toR a):=by
 unfold toR;split
 ·rename_i q;exact q
 ·rename_i q;obtain⟨k,e,h1,h2⟩:=h (by simpa using q);have n0:=hc.n0;rw[e,b2j];exact⟨hc.adv ⟨h1,h2⟩ ⟨by omega,n0⟩,rfl⟩
end
section
variable {c:A3}(hc:Snd c)
 include hc
theorem Fwd.sp:Fwd c (spR c):=by
 unfold spR;split
 ·exact Fwd.err (by decide)
 ·exact⟨hc.adv (by have:=hc.a1;omega) (by omega),rfl⟩
theorem Fwd.num:Fwd c (toR (T2 c)):=by
 refine Fwd.to (fun h=>?_) hc;have hr:=(c5u (G0 c) 10 0 0 rfl).1;have hs:=hc.size;unfold T2 at h ⊢;split
 ·rename_i h1;rw[if_pos h1]at h;split
  ·exact⟨_,rfl,by omega,by omega⟩
  ·rename_i h2;rw[if_neg h2]at h;exact absurd h (show ¬((5:Int)=0) by decide)
 ·rename_i h1;rw[if_neg h1]at h;simp only at h;omega
theorem Fwd.byte:Fwd c (toR (a2m c)):=by
 refine Fwd.to (fun h=>?_) hc;unfold a2m at h ⊢;split
 ·rename_i h1;rw[hc.left]at h1;exact⟨1,rfl,by decide,by omega⟩
 ·rename_i h1;rw[if_neg h1]at h;exact absurd h (show ¬((4:Int)=0) by decide)
theorem Fwd.fix:Fwd c (toR (c48 c)):=by
 refine Fwd.to (fun h=>?_) hc;have hs:=hc.size;unfold c48 at h ⊢;split
 ·rename_i h1;exact⟨8,rfl,by decide,by omega⟩
 ·rename_i h1;rw[if_neg h1]at h;exact absurd h (show ¬((4:Int)=0) by decide)
theorem Fwd.tx(u:Int):Fwd c (txR u c):=by
 unfold txR;split
 ·exact Fwd.err (by decide)
 rename_i h0;rw[hc.left]at h0;refine Fwd.to (fun h=>?_) hc;unfold a64 at h ⊢;split
 ·rename_i h1;rw[if_pos h1]at h;exact absurd h (show ¬((1:Int)=0) by decide)
 rename_i h1;rw[if_neg h1]at h;split
 ·rename_i h2;rw[if_pos h2]at h;exact absurd h (show ¬((4:Int)=0) by decide)
 rename_i h2;rw[if_neg h2]at h;split
 ·rename_i h3;rw[if_pos h3]at h;exact absurd h (show ¬((3:Int)=0) by decide)
 ·exact⟨u,rfl,by omega,by omega⟩
theorem e6h(p:A6){k:Int}(t:Int)(h1:k≠1)(h6:k≠6)(h78:¬(k=7\/k=8))(hn:¬(k=2\/k=3\/k=4\/k=5\/k=9)):scR p k t c=.error 12:=by
 rw[scR,b55,if_neg h1,if_neg h6,if_neg h78,if_neg hn];rfl
theorem Fwd.sc(p:A6)(k t:Int):Fwd c (scR p k t c):=by
 by_cases h1:k=1
 ·subst h1;rw[f48];refine Fwd.bind (Fwd.byte hc) fun b c' _ q _=>?_
  split
  ·exact Fwd.err (by decide)
  ·exact Fwd.ret _ q
 by_cases h6:k=6
 ·subst h6;rw[f6f];refine Fwd.bind (Fwd.fix hc) fun b c' _ q _=>?_
  split
  ·exact Fwd.err (by decide)
  ·exact Fwd.ret _ q
 by_cases h78:k=7\/k=8
 ·rw[f4g p k t h78];refine Fwd.bind (Fwd.num hc) fun b c' _ q _=>Fwd.bind (Fwd.tx q b) fun s c'' _ q2 _=>?_
  split
  ·exact Fwd.err (by decide)
  ·exact Fwd.ret _ q2
 by_cases hn:k=2\/k=3\/k=4\/k=5\/k=9
 ·rw[f5w p k t hn];refine Fwd.bind (Fwd.num hc) fun b c' _ q _=>?_
  split
  ·exact Fwd.err (by decide)
  split
  ·exact Fwd.err (by decide)
  ·exact Fwd.ret _ q
 ·rw[e6h hc p t h1 h6 h78 hn];exact Fwd.err (by decide)
theorem d5u{k b:Int}{s:ByteArray}(hk:0<=k/\k<=12)(hb:0<=b/\b<18446744073709551616)(hs:s.size<=140737488351232):OkD ⟨k,b,s,[],[],[],[]⟩:=by
 have z:Sz 0:=Nat.zero_le _;exact .mk _ (show I64 k from⟨by omega,by omega⟩) (show U64 b from⟨by omega,by omega⟩) hs z z z z (fun x hx=>by cases hx) (fun x hx=>by cases hx) (fun x hx=>by cases hx) (fun x hx=>by cases hx) (fun x hx=>by cases hx) (fun x hx=>by cases hx) ⟨z,z,z,z⟩
theorem e02{p:A6}{k t:Int}{y:A0}{c':A3}(h:scR p k t c=.ok (y,c')):OkD y/\y.Kind=k/\1<=k/\k<=9:=by
 have hk:=hc.okc;have h0:=h;unfold scR at h
 by_cases h1:k=1
 ·subst h1;rw[f48]at h0;obtain⟨x,c1,q1,q2⟩:=O8 h0;have br:=b7n c;rw[c35 q1]at br;simp only at br;split at q2
  ·cases q2
  ·cases q2;exact⟨d5u hc (by decide) (by omega) (by decide),rfl,by decide,by decide⟩
 by_cases h6:k=6
 ·subst h6;rw[f6f]at h0;obtain⟨x,c1,q1,q2⟩:=O8 h0;have br:=d09 c;rw[c35 q1]at br;simp only at br;split at q2
  ·cases q2
  ·cases q2;exact⟨d5u hc (by decide) (by omega) (by decide),rfl,by decide,by decide⟩
 by_cases h78:k=7\/k=8
 ·rw[f4g p k t h78]at h0;obtain⟨x,c1,q1,q2⟩:=O8 h0;obtain⟨s,c2,q3,q4⟩:=O8 q2;have hs1:Snd c1:=by have:=Fwd.num hc;rw[q1]at this;exact this.1
  split at q4
  ·cases q4
  ·cases q4;unfold txR at q3;split at q3
   ·cases q3
   have e3:=c35 q3;have hz:=d3a c1 hs1.okc x;rw[e3]at hz;exact⟨d5u hc (by omega) (by decide) hz,rfl,by omega,by omega⟩
 by_cases hn:k=2\/k=3\/k=4\/k=5\/k=9
 ·rw[f5w p k t hn]at h0;obtain⟨x,c1,q1,q2⟩:=O8 h0;have br:=d4d k c;rw[c35 q1]at br;simp only at br;split at q2
  ·cases q2
  split at q2
  ·cases q2
  ·cases q2;exact⟨d5u hc (by omega) br (by decide),rfl,by omega,by omega⟩
 ·rw[e6h hc p t h1 h6 h78 hn]at h0;cases h0
end
def d87{α:Type}(p:A6)(r:Rs α)(y:B0 × (α × Int)):Prop:=match r with
 |.ok x=>y=(⟨p,x.2⟩,x.1,0)
 |.error e=>e≠0/\y.2.2=e
def g90(p:A6)(r:Rs (A0 × Bool))(y:B0 × (A0 × Bool × Int)):Prop:=match r with
 |.ok x=>y=(⟨p,x.2⟩,x.1.1,x.1.2,0)
 |.error e=>e≠0/\y.2.2.2=e
theorem ne0{e:Int}(h:e≠0):(e !=0)=true:=by simpa using h
section
variable {p:A6}(hp:OkX p)
variable {c:A3}(hc:Snd c)
 include hc
theorem d4y:Ex (fun y:B0 × Int=>match spR c with|.ok x=>y=(⟨p,x.2⟩,0)|.error e=>e≠0/\y.2=e) (a1w ⟨p,c⟩ 1):=by
 have n0:=hc.n0;have n1:=hc.n1;unfold spR
 by_cases h:c.Nodes<1
 ·rw[if_pos h];exact⟨_,a91 _ _ _ ⟨_,b6e _ _ _ ⟨fun h=>by simp at h,fun _=>⟨fun _=>rfl,fun q=>absurd h (of_decide_eq_false q)⟩⟩,rfl⟩,by decide,rfl⟩
 ·rw[if_neg h];refine⟨_,a91 _ _ _ ⟨_,b6e _ _ _ ⟨fun h=>by simp at h,fun _=>⟨fun q=>absurd (of_decide_eq_true q) h,fun _=>rfl⟩⟩,rfl⟩,?_⟩;simp only[adv,Int.add_zero];rw[wI,C7 (by omega)]
theorem e2l:Ex (d87 p (cnR c)) (a48 ⟨p,c⟩):=by
 have hn:=d03 c hc.okc;have hr:=b6m c;have e:cnR c=E1 (toR (T2 c)) fun u c=>if 4096<u then .error 3 else if 0<u then E1 (spR c) fun _ c=>.ok (u,c) else .ok (u,c):=rfl
 have hf:=Fwd.num hc;refine B5 (b9b _) (c3i hn (B4 _ (fun h=>D9 ?_) fun h=>F0 (fun h2=>D9 ?_) fun h2=>F0 (fun h3=>?_) fun h3=>D9 ?_))
 ·have q:(T2 c).2.2≠0:=by simpa using h
  rw[e,b15,if_pos q];exact⟨q,rfl⟩
 all_goals
  have q:¬(T2 c).2.2≠0:=by simpa using h
  rw[e,b15,if_neg q]
 ·rw[if_pos h2];exact⟨by decide,rfl⟩
 ·rw[if_neg h2,if_pos h3]
  have hs:Snd (T2 c).2.1:=by
   unfold toR at hf;rw[if_neg q]at hf;exact hf.1
  refine E3 (d4y (p:=p) hs) fun y hy=>D9 ?_
  cases hsp:spR (T2 c).2.1 with
  |error e=>rw[hsp]at hy;exact⟨hy.1,hy.2⟩
  |ok x=>
   rw[hsp]at hy;simp only at hy;rw[hy];show _=_;rw[wI,C7 (by omega)]
 ·rw[if_neg h2,if_neg h3];show _=_;rw[wI,C7 (by omega)];have:(T2 c).2.2=0:=by simpa using h
  rw[this]
end
section
variable {p:A6}(hp:OkX p) {m:Nat}{M:RdM}
variable (hM:∀(t:Int) (g:B7) (c:A3),p.Progs[t.toNat]? =some g->0<=t->Snd c->c.Depth<=m->Ex (d87 p (M t c)) (W3 ⟨p,c⟩ t))
variable (hF:∀(t:Int) (g:B7) (c:A3),p.Progs[t.toNat]? =some g->0<=t->Snd c->Fwd c (M t c))
 include hp hM
theorem c44{c:A3}(hc:Snd c)(hd:c.Depth<=m)(o:GOp)(ho:OpG p o):Ex (d87 p (elR M p o.Kind o.Target c)) (H3 ⟨p,c⟩ o):=by
 refine B5 (b8z _ _) (B4 _ (fun h=>?_) fun h=>E3 (d4y (p:=p) hc) fun y hy=>?_)
 ·have hk:o.Kind=10:=by simpa using h
  obtain⟨g,hg,t0⟩:=ho hk;refine E3 (hM _ g c hg t0 hc hd) fun y hy=>D9 ?_
  rw[elR,if_pos hk];exact hy
 ·have hk:¬o.Kind=10:=by simpa using h
  have hs:=Fwd.sp hc;rw[elR,if_neg hk];cases hsp:spR c with
  |error e=>
   rw[hsp]at hy;refine B4 _ (fun _=>D9 ⟨hy.1,hy.2⟩) fun q=>?_
   rw[hy.2]at q;exact absurd (ne0 hy.1) (by rw[q];simp)
  |ok x=>
   rw[hsp]at hy hs;simp only at hy;subst hy;refine B4 _ (fun q=>by simp at q) fun _=>c3i (f0m p hp.e o x.2 hs.1.okc) (D9 ?_)
   simp only[E1,scR,toR];split
   ·rename_i q;exact⟨q,rfl⟩
   ·rename_i q;have q':(b55 p o.Kind o.Target x.2).2.2=0:=by simpa using q
    show _=_;rw[q']
 include hF
 omit hp hM in
theorem c7f{c:A3}(hc:Snd c)(o:GOp)(ho:OpG p o):Fwd c (elR M p o.Kind o.Target c):=by
  unfold elR;split
  · rename_i hk
    obtain⟨g,hg,t0⟩:=ho hk;exact hF _ g c hg t0 hc
  · exact Fwd.bind (Fwd.sp hc) fun _ c' _ q _=>Fwd.sc q p _ _
theorem e9y(o:GOp)(ho:OpG p o)(y1:B0 × (Int × Int))(n:Nat)(hn:y1.2.1=n)(hn2:n<=4096):∀(d i:Nat) (acc:List A0) (c:A3),i+d=n->acc.length=i->Snd c->c.Depth<=m->Ex (d87 p (E1 (lsR M p o.Kind o.Target d c) fun l c=>.ok (⟨11,0,⟨#[]⟩,acc++l,[],[],[]⟩,c))) (a2g i y1 p.Progs p.Enums c.Data c.At c.End c.Depth c.Nodes c.Text o acc):=by
 intro d
 induction d with
 |zero=>
  intro i acc c hi ha hc hd;refine B5 (a72 _ _ _ _ _ _ _ _ _ _ _ _) (F0 (fun h=>?_) fun _=>D9 ?_)
  ·rw[hn]at h;omega
  ·simp only[lsR,E1,d87,List.append_nil]
 |succ d ih=>
  intro i acc c hi ha hc hd;refine B5 (a72 _ _ _ _ _ _ _ _ _ _ _ _) (F0 (fun _=>E3 (c44 hp hM hc hd o ho) fun y hy=>?_) fun h=>?_)
  ·rw[lsR,a3c];have hf:=c7f hF hc o ho;cases he:elR M p o.Kind o.Target c with
   |error e=>
    rw[he]at hy;refine B4 _ (fun _=>D9 ⟨hy.1,hy.2⟩) fun q=>?_
    rw[hy.2]at q;exact absurd (ne0 hy.1) (by rw[q];simp)
   |ok x=>
    rw[he]at hy hf;have hy:y=(⟨p,x.2⟩,x.1,0):=hy;subst hy;refine B4 _ (fun q=>by simp at q) fun _=>E0 (by simp;omega) ?_
    have e1:wI ((i:Int)+1)=((i+1:Nat):Int):=by rw[wI,C7 (by omega)];omega
    rw[e1];have:=ih (i+1) (acc++[x.1]) x.2 (by omega) (by simp;omega) hf.1 (by rw[hf.2];exact hd);rw[a3o,a3c];simp only[a3o,List.append_assoc,List.singleton_append]at this ⊢;exact this
  ·rw[hn]at h;omega
 omit hp hM hF in
theorem e2g{c:A3}(hc:Snd c):Fwd c (cnR c)/\∀z,cnR c=.ok z->0<=z.1/\z.1<=4096:=by
  have hr:=b6m c;have e:cnR c=E1 (toR (T2 c)) fun u c=>if 4096<u then .error 3 else if 0<u then E1 (spR c) fun _ c=>.ok (u,c) else .ok (u,c):=rfl
  refine⟨?_,fun z hz=>?_⟩
  · rw[e]
    refine Fwd.bind (Fwd.num hc) fun u c' _ q _=>?_
    split
    · exact Fwd.err (by decide)
    split
    · exact Fwd.bind (Fwd.sp q) fun _ c'' _ q2 _=>Fwd.ret _ q2
    · exact Fwd.ret _ q
  · rw[e]at hz
    obtain⟨u,c',h1,h2⟩:=O8 hz;have h3:=c35 h1;rw[h3]at hr;simp only at hr;split at h2
    · cases h2
    split at h2
    · obtain⟨_,c2,_,h4⟩:=O8 h2
      cases h4;simp only;omega
    · cases h2
      simp only;omega
theorem g0w{c:A3}(hc:Snd c)(hd:c.Depth<=m)(o:GOp)(ho:OpG p o):Ex (d87 p (E1 (cnR c) fun n c=>E1 (lsR M p o.Kind o.Target n.toNat c) fun l c=>.ok (⟨11,0,⟨#[]⟩,l,[],[],[]⟩,c))) (a0w ⟨p,c⟩ o):=by
 refine B5 (c0x _ _) (E3 (e2l hc) fun y hy=>?_);obtain⟨hf,hl⟩:=e2g hc;cases he:cnR c with
 |error e=>
  rw[he]at hy;refine B4 _ (fun _=>D9 ⟨hy.1,hy.2⟩) fun q=>?_
  rw[hy.2]at q;exact absurd (ne0 hy.1) (by rw[q];simp)
 |ok x=>
  rw[he]at hy hf;have hy:y=(⟨p,x.2⟩,x.1,0):=hy;have hx:=hl x he;subst hy;refine B4 _ (fun q=>by simp at q) fun _=>?_
  have:=e9y hp hM hF o ho (⟨p,x.2⟩,x.1,0) x.1.toNat (by simp only;omega) (by omega) x.1.toNat 0 [] x.2 (by omega) rfl hf.1 (by rw[hf.2];exact hd);rw[a3o];simp only[List.nil_append]at this;exact this
def h1y(a:Option A0)(acc:List (A0 × A0)):Prop:=match a with
 |none=>acc=[]
 |some k=>OkD k/\acc≠[]/\∃z,acc[acc.length - 1]? =some z/\z.1=k
theorem e5j(o:GOp)(ho:OpG p o)(hkey:o.Key≠10)(y1:B0 × (Int × Int))(n:Nat)(hn:y1.2.1=n)(hn2:n<=4096):∀(d i:Nat) (a:Option A0) (acc:List (A0 × A0)) (c:A3),i+d=n->acc.length=i->h1y a acc->Snd c->c.Depth<=m->Ex (d87 p (E1 (prR M p o.Key o.Kind o.Target d a c) fun l c=>.ok (⟨12,0,⟨#[]⟩,[],acc++l,[],[]⟩,c))) (X8 i y1 p.Progs p.Enums c.Data c.At c.End c.Depth c.Nodes c.Text o acc):=by
 intro d
 induction d with
 |zero=>
  intro i a acc c hi ha hk hc hd;refine B5 (a6i _ _ _ _ _ _ _ _ _ _ _ _) (F0 (fun h=>?_) fun _=>D9 ?_)
  ·rw[hn]at h;omega
  ·simp only[prR,E1,d87,List.append_nil]
 |succ d ih=>
  intro i a acc c hi ha hk hc hd;have hok:OpG p (⟨0,⟨#[]⟩,⟨#[]⟩,0,0,o.Key, -1,0⟩:GOp):=fun h=>absurd h hkey
  refine B5 (a6i _ _ _ _ _ _ _ _ _ _ _ _) (F0 (fun _=>E3 (c44 hp hM hc hd _ hok) fun y hy=>?_) fun h=>?_)
  rotate_left
  ·rw[hn]at h;omega
  rw[prR,a3c];have hf:=c7f (p:=p) hF hc _ hok;simp only at hy hf;cases he:elR M p o.Key (-1) c with
  |error e=>
   rw[he]at hy;refine B4 _ (fun _=>D9 ⟨hy.1,hy.2⟩) fun q=>?_
   rw[hy.2]at q;exact absurd (ne0 hy.1) (by rw[q];simp)
  |ok x=>
   rw[he]at hy hf;have hy:y=(⟨p,x.2⟩,x.1,0):=hy;subst hy
   have hv:OkD x.1:=by
    rw[elR,if_neg hkey]at he;obtain⟨_,c1,h1,h2⟩:=O8 he;have h3:=Fwd.sp hc;rw[h1]at h3;exact(e02 h3.1 h2).1
   have hd2:x.2.Depth<=m:=by rw[hf.2];exact hd
   refine B4 _ (fun q=>by simp at q) fun _=>?_
   -- whether the key ascends
   have good:upK a x.1->Ex (d87 p (E1 (E1 (elR M p o.Kind o.Target x.2) fun y c=>E1 (prR M p o.Key o.Kind o.Target d (some x.1) c) fun l c=>.ok ((x.1,y)::l,c)) fun l c=>.ok (⟨12,0,⟨#[]⟩,[],acc++l,[],[]⟩,c))) fun r=>∃y8,H3 ⟨p,x.2⟩ o y8/\(((y8.2.2 !=0)=true->r=(y8.1,(⟨12,0,(⟨#[]⟩:ByteArray),([]:(List A0)),acc,([]:(List (Int × A0))),([]:(List H1))⟩:A0),y8.2.2))/\((y8.2.2 !=0)=false->(acc.length+[(x.1,y8.2.1)].length)*256<=140737488355328/\(X8 (wI (i+1)) y1 y8.1.p.Progs y8.1.p.Enums y8.1.c.Data y8.1.c.At y8.1.c.End y8.1.c.Depth y8.1.c.Nodes y8.1.c.Text o (acc++[(x.1,y8.2.1)]) r))):=by
    intro _;refine E3 (c44 hp hM hf.1 hd2 o ho) fun y8 hy8=>?_
    have hf2:=c7f hF hf.1 o ho;rw[a3c];cases he2:elR M p o.Kind o.Target x.2 with
    |error e=>
     rw[he2]at hy8;refine B4 _ (fun _=>D9 ⟨hy8.1,hy8.2⟩) fun q=>?_
     rw[hy8.2]at q;exact absurd (ne0 hy8.1) (by rw[q];simp)
    |ok z=>
     rw[he2]at hy8 hf2;have hy8:y8=(⟨p,z.2⟩,z.1,0):=hy8;subst hy8;refine B4 _ (fun q=>by simp at q) fun _=>E0 (by simp;omega) ?_
     have e1:wI ((i:Int)+1)=((i+1:Nat):Int):=by rw[wI,C7 (by omega)];omega
     rw[e1];have:=ih (i+1) (some x.1) (acc++[(x.1,z.1)]) z.2 (by omega) (by simp;omega) ⟨hv,by simp,(x.1,z.1),by simp,rfl⟩ hf2.1 (by rw[hf2.2];exact hd2);rw[a3o,a3c];simp only[a3o,List.append_assoc,List.singleton_append]at this ⊢;exact this
   have bad:¬upK a x.1->d87 p (E1 (.error 5:Rs (List (A0 × A0))) fun l c=>.ok ((⟨12,0,⟨#[]⟩,[],acc++l,[],[]⟩:A0),c)) (⟨p,x.2⟩,(⟨12,0,⟨#[]⟩,[],acc,[],[]⟩:A0),5):=fun _=>⟨by decide,rfl⟩
   refine C5 ?_;rw[a3o];cases a with
   |none=>
    have hk:acc=[]:=hk;have e0:i=0:=by rw[<-ha,hk];rfl
    refine F0 (fun h=>by omega) fun _=>?_
    refine B4 false (fun q=>by cases q) fun _=>?_
    have hu:upK none x.1:=rfl;rw[if_pos hu];exact good hu
   |some b=>
    obtain⟨hb,hne,z,hz,ez⟩:=hk;have hpos:0<acc.length:=List.length_pos_iff.2 hne;have e1:wI ((i:Int) - 1)=((acc.length - 1:Nat):Int):=by rw[wI,C7 (by omega)];omega
    refine F0 (fun _=>?_) fun h=>by omega
    rw[e1];refine a3p z (by simpa using hz) (by omega) ?_;rw[ez];refine c3i (c7r _ b x.1 hb hv (Nat.le_refl _)) ?_
    by_cases hu:upK (some b) x.1
    ·have hu':W8 (SizeOf.sizeOf b) b x.1<0:=of_decide_eq_true hu;rw[if_pos hu];refine F0 (fun q=>by omega) fun _=>good hu
    ·have hu':¬W8 (SizeOf.sizeOf b) b x.1<0:=fun w=>hu (decide_eq_true w)
     rw[if_neg hu];refine F0 (fun _=>D9 ⟨by decide,rfl⟩) fun q=>by omega
theorem f3n{c:A3}(hc:Snd c)(hd:c.Depth<=m)(o:GOp)(ho:OpG p o)(hkey:o.Key≠10):Ex (d87 p (E1 (cnR c) fun n c=>E1 (prR M p o.Key o.Kind o.Target n.toNat none c) fun l c=>.ok (⟨12,0,⟨#[]⟩,[],l,[],[]⟩,c))) (Z9 ⟨p,c⟩ o):=by
 refine B5 (b9r _ _) (E3 (e2l hc) fun y hy=>?_);obtain⟨hf,hl⟩:=e2g hc;cases he:cnR c with
 |error e=>
  rw[he]at hy;refine B4 _ (fun _=>D9 ⟨hy.1,hy.2⟩) fun q=>?_
  rw[hy.2]at q;exact absurd (ne0 hy.1) (by rw[q];simp)
 |ok x=>
  rw[he]at hy hf;have hy:y=(⟨p,x.2⟩,x.1,0):=hy;have hx:=hl x he;subst hy;refine B4 _ (fun q=>by simp at q) fun _=>?_
  have:=e5j hp hM hF o ho hkey (⟨p,x.2⟩,x.1,0) x.1.toNat (by simp only;omega) (by omega) x.1.toNat 0 none [] x.2 (by omega) rfl rfl hf.1 (by rw[hf.2];exact hd);rw[a3o];simp only[List.nil_append]at this;exact this
theorem e4g{g:B7}(hg:g∈p.Progs)(o:GOp)(ho:OpG p o)(hm3:o.Kind=10->o.Card≠3)(v:A0)(c0 c:A3)(b e:Int)(hc:Snd c)(hd:c.Depth<=m):∀(d i:Nat),v.Slots.length - i<=d->i<=v.Slots.length->v.Slots.length<=140737488351232->Ex (g90 p (if c4j g (v.Slots.drop i) o=true then .error 15 else E1 (elR M p o.Kind o.Target c) fun x c=>if o.Card=3/\b8j x=true then .error 5 else .ok ((x,true),c))) (a1f i v ⟨p,c0⟩ (b,c,e) g o):=by
 have fin:Ex (g90 p (E1 (elR M p o.Kind o.Target c) fun x c=>if o.Card=3/\b8j x=true then .error 5 else .ok ((x,true),c))) fun r=>∃y6,H3 (⟨p,c⟩:B0) o y6/\(∃R2:Bool->Prop,(∀bz2:Bool,R2 bz2->((bz2=true->r=(y6.1,y6.2.1,true,5))/\(bz2=false->r=(y6.1,y6.2.1,true,y6.2.2))))/\((((y6.2.2==0)&&(o.Card==3))=true->∃y7,a7m y6.2.1 y7/\(R2 y7))/\(((y6.2.2==0)&&(o.Card==3))=false->R2 false))):=by
  refine E3 (c44 hp hM hc hd o ho) fun y hy=>C5 ?_
  cases he:elR M p o.Kind o.Target c with
  |error e=>
   rw[he]at hy;refine B4 _ (fun q=>?_) fun _=>B4 false (fun q=>by cases q) fun _=>D9 ⟨hy.1,hy.2⟩
   simp only[Bool.and_eq_true,beq_iff_eq]at q;exact absurd (hy.2.symm.trans q.1) hy.1
  |ok x=>
   rw[he]at hy;have hy:y=(⟨p,x.2⟩,x.1,0):=hy;subst hy;rw[a3o];refine B4 _ (fun q=>?_) fun q=>B4 false (fun q=>by cases q) fun _=>D9 ?_
   ·have h3:o.Card=3:=by simpa using q
    have hk:o.Kind≠10:=fun hk=>hm3 hk h3
    have hv:OkD x.1:=by
     rw[elR,if_neg hk]at he;obtain⟨_,c1,h1,h2⟩:=O8 he;have h4:=Fwd.sp hc;rw[h1]at h4;exact(e02 h4.1 h2).1
    refine c3i (f1z x.1 hv.okv) (B4 _ (fun z=>D9 ?_) fun z=>D9 ?_)
    ·rw[if_pos ⟨h3,z⟩];exact⟨by decide,rfl⟩
    ·rw[if_neg (fun w=>by rw[z]at w;exact absurd w.2 (by decide))];rfl
   ·have h3:¬o.Card=3:=by simpa using q
    rw[if_neg (fun w=>h3 w.1)];rfl
 intro d
 induction d with
 |zero=>
  intro i hi hle hz;refine B5 (a6p _ _ _ _ _ _) (F0 (fun h=>by omega) fun _=>?_);rw[List.drop_eq_nil_of_le (by omega)];exact fin
 |succ d ih=>
  intro i hi hle hz;refine B5 (a6p _ _ _ _ _ _) (F0 (fun h=>?_) fun h=>?_)
  ·have hlt:i<v.Slots.length:=by omega
   have dl:v.Slots.drop i=v.Slots[i]::v.Slots.drop (i+1):=List.drop_eq_getElem_cons hlt;have e1:wI ((i:Int)+1)=((i+1:Nat):Int):=by rw[wI,C7 (by omega)];omega
   refine a3p v.Slots[i] (by simp) (by omega) (c3i (e6j g (hp.ops hg) _) (B4 _ (fun q=>D9 ?_) fun q=>?_))
   ·rw[if_pos]
    ·exact⟨by decide,rfl⟩
    ·rw[dl,c4j,List.any_cons,Bool.or_eq_true];refine .inl ?_;simp only[Bool.and_eq_true,decide_eq_true_eq,beq_iff_eq]at q ⊢;exact⟨q.1.1,q.1.2,q.2⟩
   ·rw[e1];have:=ih (i+1) (by omega) (by omega) hz
    have ej:c4j g (v.Slots.drop i) o=c4j g (v.Slots.drop (i+1)) o:=by
     rw[dl,c4j,List.any_cons]
     have:((opV g v.Slots[i].1).2&&(decide (0<=o.Union)&&decide ((opV g v.Slots[i].1).1.Union=o.Union)))=false:=by
      rw[<-q,Bool.and_assoc]
      congr 2
     rw[this,Bool.false_or];rfl
    rw[ej];exact this
  ·rw[List.drop_eq_nil_of_le (by omega)];exact fin
theorem f3o{g:B7}(hg:g∈p.Progs)(o:GOp)(ho:OpG p o)(hm3:o.Kind=10->o.Card≠3)(sl:List (Int × A0))(hsl:sl.length<=140737488351232){c:A3}(hc:Snd c)(hd:c.Depth<=m):Ex (g90 p (myR M p g sl o c)) (Z8 ⟨p,c⟩ g ⟨10,0,⟨#[]⟩,[],[],sl,[]⟩ o):=by
 have hb:=f21 c hc.okc;have hf:=Fwd.byte hc;have hr:=b7n c;refine B5 (b9e _ _ _ _) (c3i hb (B4 _ (fun h=>D9 ?_) fun h=>F0 (fun h2=>D9 ?_) fun h2=>B4 _ (fun h3=>D9 ?_) fun h3=>?_))
 ·have q:(a2m c).2.2≠0:=by simpa using h
  rw[myR,b15,if_pos q];exact⟨q,rfl⟩
 all_goals
  have q:¬(a2m c).2.2≠0:=by simpa using h
  rw[myR,b15,if_neg q]
 ·rw[if_pos h2];exact⟨by decide,rfl⟩
 ·have h3':(a2m c).1=0:=by simpa using h3
  rw[if_neg h2,if_pos h3'];rfl
 ·have h3':¬(a2m c).1=0:=by simpa using h3
  rw[if_neg h2,if_neg h3'];unfold toR at hf;rw[if_neg q]at hf;exact e4g hp hM hF hg o ho hm3 ⟨10,0,⟨#[]⟩,[],[],sl,[]⟩ c (a2m c).2.1 (a2m c).1 (a2m c).2.2 hf.1 (by rw[hf.2];exact hd) _ 0 (Nat.le_refl _) (by omega) hsl
theorem d5f{α:Type}{Q:α->Prop}{g:B7}(hg:g∈p.Progs)(o:GOp)(ho:o∈g.Ops)(sl:List (Int × A0))(hsl:sl.length<=140737488351232){c:A3}(hc:Snd c)(hd:c.Depth<=m)(G:Bool->Int->B0->A0->α->Prop)
  (h1:∀x,fdR M p g sl o c=.ok x->Ex Q (G x.1.2 0 ⟨p,x.2⟩ x.1.1)) (h2:∀e,fdR M p g sl o c=.error e->e≠0->∀b y z,Ex Q (G b e y z)):
  Ex Q (fun r=>((o.Card==1)=true->∃y,H3 ⟨p,c⟩ o y/\G true y.2.2 y.1 y.2.1 r)/\((o.Card==1)=false->((o.Card==4)=true->∃y,a0w ⟨p,c⟩ o y/\G (decide (0<(y.2.1.List_.length:Int))) y.2.2 y.1 y.2.1 r)/\((o.Card==4)=false->((o.Card==5)=true->∃y,Z9 ⟨p,c⟩ o y/\G (decide (0<(y.2.1.Pairs.length:Int))) y.2.2 y.1 y.2.1 r)/\((o.Card==5)=false->∃y,Z8 ⟨p,c⟩ g ⟨10,0,⟨#[]⟩,[],[],sl,[]⟩ o y/\G y.2.2.1 y.2.2.2 y.1 y.2.1 r)))):=by
 have hof:=(hp.va.pro g hg).2 _ ho
 have hog:OpG p o:=fun hk=>by
  obtain⟨t0,t1,_⟩:=hof.msg hk;exact⟨_,List.getElem?_eq_getElem (show o.Target.toNat<p.Progs.length by omega),t0⟩
 refine B4 _ (fun k1=>?_) fun k1=>B4 _ (fun k4=>?_) fun k4=>B4 _ (fun k5=>?_) fun k5=>?_
 ·have c1:o.Card=1:=by simpa using k1
  refine E3 (c44 hp hM hc hd o hog) fun y hy=>?_
  have ef:fdR M p g sl o c=E1 (elR M p o.Kind o.Target c) fun x c=>.ok ((x,true),c):=by rw[fdR,if_pos c1]
  cases he:elR M p o.Kind o.Target c with
  |error e=>
   rw[he]at hy ef;have:=h2 e ef hy.1 true y.1 y.2.1;rw[hy.2];exact this
  |ok x=>
   rw[he]at hy ef;have hy:y=(⟨p,x.2⟩,x.1,0):=hy;subst hy;exact h1 _ ef
 all_goals have c1:¬o.Card=1:=by simpa using k1
 ·have c4:o.Card=4:=by simpa using k4
  refine E3 (g0w hp hM hF hc hd o hog) fun y hy=>?_
  have ef:fdR M p g sl o c=E1 (E1 (cnR c) fun n c=>E1 (lsR M p o.Kind o.Target n.toNat c) fun l c=>.ok ((⟨11,0,⟨#[]⟩,l,[],[],[]⟩:A0),c)) fun x c=>.ok ((x,decide (0<(x.List_.length:Int))),c):=by
   rw[fdR,if_neg c1,if_pos c4,a3c]
   congr 1
   funext n c
   rw[a3c]
   congr 1
   funext l c
   simp only[E1,c5l]
  cases he:E1 (cnR c) fun n c=>E1 (lsR M p o.Kind o.Target n.toNat c) fun l c=>.ok ((⟨11,0,⟨#[]⟩,l,[],[],[]⟩:A0),c) with
  |error e=>
   rw[he]at hy ef;have:=h2 e ef hy.1 (decide (0<(y.2.1.List_.length:Int))) y.1 y.2.1;rw[hy.2];exact this
  |ok x=>
   rw[he]at hy ef;have hy:y=(⟨p,x.2⟩,x.1,0):=hy;subst hy;exact h1 _ ef
 all_goals have c4:¬o.Card=4:=by simpa using k4
 ·have c5:o.Card=5:=by simpa using k5
  have hkey:o.Key≠10:=by have:=hof.key.2 c5;omega
  refine E3 (f3n hp hM hF hc hd o hog hkey) fun y hy=>?_
  have ef:fdR M p g sl o c=E1 (E1 (cnR c) fun n c=>E1 (prR M p o.Key o.Kind o.Target n.toNat none c) fun l c=>.ok ((⟨12,0,⟨#[]⟩,[],l,[],[]⟩:A0),c)) fun x c=>.ok ((x,decide (0<(x.Pairs.length:Int))),c):=by
   rw[fdR,if_neg c1,if_neg c4,if_pos c5,a3c]
   congr 1
   funext n c
   rw[a3c]
   congr 1
   funext l c
   simp only[E1,c5l]
  cases he:E1 (cnR c) fun n c=>E1 (prR M p o.Key o.Kind o.Target n.toNat none c) fun l c=>.ok ((⟨12,0,⟨#[]⟩,[],l,[],[]⟩:A0),c) with
  |error e=>
   rw[he]at hy ef;have:=h2 e ef hy.1 (decide (0<(y.2.1.Pairs.length:Int))) y.1 y.2.1;rw[hy.2];exact this
  |ok x=>
   rw[he]at hy ef;have hy:y=(⟨p,x.2⟩,x.1,0):=hy;subst hy;exact h1 _ ef
 ·have c5:¬o.Card=5:=by simpa using k5
  have ef:fdR M p g sl o c=myR M p g sl o c:=by rw[fdR,if_neg c1,if_neg c4,if_neg c5]
  refine E3 (f3o hp hM hF hg o hog (fun hk=>(hof.msg hk).2.2) sl hsl hc hd) fun y hy=>?_
  cases he:myR M p g sl o c with
  |error e=>
   rw[he]at hy ef;have:=h2 e ef hy.1 y.2.2.1 y.1 y.2.1;rw[hy.2];exact this
  |ok x=>
   rw[he]at hy ef;have hy:y=(⟨p,x.2⟩,x.1.1,x.1.2,0):=hy;subst hy;exact h1 _ ef
end
theorem f6x{α:Type}(f:α->Bool):∀(l:List α) (i:Int),0<=i->c46 f l i<i+l.length
 |[],i,h=>by simp[c46];omega
 |x::l,i,h=>by
  have ih:=f6x f l (i+1) (by omega)
  by_cases e:f x=true
  ·have:c46 f (x::l) i=i:=by simp only[c46];rw[if_pos e]
   rw[this];simp;omega
  ·have:c46 f (x::l) i=c46 f l (i+1):=by simp only[c46];rw[if_neg e]
   rw[this];simp;omega
theorem d9f(p:A6)(name:ByteArray)(h:(Z1 p name).2=true):0<=(Z1 p name).1/\∃g,p.Progs[(Z1 p name).1.toNat]? =some g:=by
 have h1:0<=c46 (fun g:B7=>decide (g.Name=name)) p.Progs 0:=by simpa[Z1]using h
 have h2:=f6x (fun g:B7=>decide (g.Name=name)) p.Progs 0 (Int.le_refl _);have h3:(Z1 p name).1=c46 (fun g:B7=>decide (g.Name=name)) p.Progs 0:=by simp only[Z1];omega
 rw[h3];have hlt:(c46 (fun g:B7=>decide (g.Name=name)) p.Progs 0).toNat<p.Progs.length:=by omega
 exact⟨h1,_,List.getElem?_eq_getElem hlt⟩
noncomputable def e5y(p:A6)(name:ByteArray)(v:A0):ByteArray × Int:=
 if(Z1 p name).2=false then(⟨#[]⟩,10)
 else if b8n p (SizeOf.sizeOf v) (Z1 p name).1 v≠0 then(⟨#[]⟩,b8n p (SizeOf.sizeOf v) (Z1 p name).1 v)
 else if Y8 (SizeOf.sizeOf v) v=true then(⟨#[]⟩,18)
 else if 65536<(O7 p (SizeOf.sizeOf v) (Z1 p name).1 (U4 p (SizeOf.sizeOf v) (Z1 p name).1 v)).size then(⟨#[]⟩,3)
 else(O7 p (SizeOf.sizeOf v) (Z1 p name).1 (U4 p (SizeOf.sizeOf v) (Z1 p name).1 v),0)
section
variable {p:A6}(hp:OkX p) (name:ByteArray) {v:A0}(hv:OkD v) (hw:wtV v<=134217728)
 include hp hv hw
theorem h3g(t:Int)(g:B7)(hgt:p.Progs[t.toNat]? =some g)(ht:0<=t)(h:b8n p (SizeOf.sizeOf v) t v=0):NfV p (SizeOf.sizeOf v) t (U4 p (SizeOf.sizeOf v) t v)/\a9c p (SizeOf.sizeOf v) t v 1=0/\(O7 p (SizeOf.sizeOf v) t (U4 p (SizeOf.sizeOf v) t v)).size<=140737488355328:=by
 obtain⟨h1,h2⟩:=c9d h;have h3:=e7u hp _ t g v 1 hgt ht hv (Nat.le_refl _) h1;have h4:=d8q hp _ _ _ h3;have h5:=e9o p (SizeOf.sizeOf v) t v;exact⟨h3,h1,by omega⟩
theorem f8e:c62 p name v (e5y p name v):=by
 have hpl:=D8 hp.pl.np;refine d07 _ _ _ _ ⟨_,c9r p hpl name,fun h=>?_,fun h=>?_⟩
 ·rw[e5y,if_pos (by simpa using h)]
 have hf:(Z1 p name).2=true:=by simpa using h
 obtain⟨t0,g,hgt⟩:=d9f p name hf;refine⟨_,f4c hp _ _ g v hgt t0 hv (Nat.le_refl _) (by omega),fun h2=>?_,fun h2=>?_⟩
 ·rw[e5y,if_neg (by simp[hf]),if_pos (by simpa using h2)]
 have h2':b8n p (SizeOf.sizeOf v) (Z1 p name).1 v=0:=by simpa using h2
 refine⟨_,c9g _ v hv (Nat.le_refl _),fun h3=>?_,fun h3=>?_⟩
 ·rw[e5y,if_neg (by simp[hf]),if_neg (by omega),if_pos h3]
 obtain⟨hnf,hmsg,hsz⟩:=h3g hp hv hw _ g hgt t0 h2';refine⟨_,f3l hp _ _ g v hgt t0 hv (Nat.le_refl _) ⟨_,Nat.le_refl _,by simpa using h3⟩,_,d79 hp _ _ _ [] hnf (by simpa using hsz),fun h4=>?_,fun h4=>⟨_,by rw[List.nil_append],?_⟩⟩
 ·rw[e5y,if_neg (by simp[hf]),if_neg (by omega),if_neg (nt h3),if_pos];simp only[List.nil_append,b0w,decide_eq_true_eq]at h4;omega
 ·rw[e5y,if_neg (by simp[hf]),if_neg (by omega),if_neg (nt h3),if_neg];simp only[List.nil_append,b0w,decide_eq_false_iff_not]at h4;omega
end
theorem b8f.oke{p:A6}(h:b8f p):OkE p:=⟨D8 h.ne,fun y hy=>⟨D8 (h.enums y hy).ni,fun it hit=>⟨((h.enums y hy).items it hit).num.1,((h.enums y hy).items it hit).num.2⟩⟩⟩
theorem d9b(p:A6)(hp:b8f p):∃b,b8m p b/\(b=true->OkX p):=by
 obtain⟨y,h1,h2⟩:=f9b p hp;rcases Bool.eq_false_or_eq_true ((decide ((p.Progs.length:Int)<=8))&&(decide ((p.Enums.length:Int)<=8))) with h|h
 ·exact⟨_,b5w _ _ ⟨fun _=>⟨y,h1,rfl⟩,fun q=>(by rw[h]at q;cases q)⟩,fun hb=>⟨hp.oke,hp,h2 (by simpa using hb)⟩⟩
 ·exact⟨false,b5w _ _ ⟨fun q=>(by rw[h]at q;cases q),fun _=>rfl⟩,fun hb=>by cases hb⟩
theorem h2g(z:A0):(⟨z.Kind,z.Bits,z.Text,z.List_,z.Pairs,z.Slots,z.Raws⟩:A0)=z:=by cases z;rfl
section
variable {p:A6}(hp:OkX p) {M:RdM}
variable (hF:∀(t:Int) (g:B7) (c:A3),p.Progs[t.toNat]? =some g->0<=t->Snd c->Fwd c (M t c))
 include hF
theorem f76(o:GOp)(ho:OpG p o):∀(n:Nat) (c:A3),Snd c->Fwd c (lsR M p o.Kind o.Target n c)
 |0,c,hc=>Fwd.ret _ hc
 |n+1,c,hc=>by
  rw[lsR];exact Fwd.bind (c7f hF hc o ho) fun _ c' _ q _=>Fwd.bind (f76 o ho n c' q) fun _ c'' _ q2 _=>Fwd.ret _ q2
theorem f8b(o:GOp)(ho:OpG p o)(hkey:o.Key≠10):∀(n:Nat) (a:Option A0) (c:A3),Snd c->Fwd c (prR M p o.Key o.Kind o.Target n a c)
 |0,a,c,hc=>by rw[prR];exact Fwd.ret _ hc
 |n+1,a,c,hc=>by
  rw[prR];have hk:=c7f (p:=p) hF hc (⟨0,⟨#[]⟩,⟨#[]⟩,0,0,o.Key, -1,0⟩:GOp) (fun h=>absurd h hkey);refine Fwd.bind hk fun x c' _ q _=>?_
  split
  ·exact Fwd.bind (c7f hF q o ho) fun _ c2 _ q2 _=>Fwd.bind (f8b o ho hkey n _ c2 q2) fun _ c3 _ q3 _=>Fwd.ret _ q3
  ·exact Fwd.err (by decide)
theorem g4j(g:B7)(o:GOp)(ho:OpG p o)(sl:List (Int × A0)){c:A3}(hc:Snd c):Fwd c (myR M p g sl o c):=by
 unfold myR;refine Fwd.bind (Fwd.byte hc) fun b c' _ q _=>?_
 split
 ·exact Fwd.err (by decide)
 split
 ·exact Fwd.ret _ q
 split
 ·exact Fwd.err (by decide)
 refine Fwd.bind (c7f hF q o ho) fun x c2 _ q2 _=>?_
 split
 ·exact Fwd.err (by decide)
 ·exact Fwd.ret _ q2
 include hp
theorem e1n{g:B7}(hg:g∈p.Progs)(o:GOp)(ho:o∈g.Ops)(sl:List (Int × A0)){c:A3}(hc:Snd c):Fwd c (fdR M p g sl o c):=by
 have hof:=(hp.va.pro g hg).2 _ ho
 have hog:OpG p o:=fun hk=>by
  obtain⟨t0,t1,_⟩:=hof.msg hk;exact⟨_,List.getElem?_eq_getElem (show o.Target.toNat<p.Progs.length by omega),t0⟩
 unfold fdR;split
 ·exact Fwd.bind (c7f hF hc o hog) fun _ c' _ q _=>Fwd.ret _ q
 split
 ·exact Fwd.bind (e2g hc).1 fun _ c' _ q _=>Fwd.bind (f76 hF o hog _ _ q) fun _ c2 _ q2 _=>Fwd.ret _ q2
 split
 ·rename_i h5;have hkey:o.Key≠10:=by have:=hof.key.2 h5;omega
  exact Fwd.bind (e2g hc).1 fun _ c' _ q _=>Fwd.bind (f8b hF o hog hkey _ _ _ q) fun _ c2 _ q2 _=>Fwd.ret _ q2
 ·exact g4j hF g o hog sl hc
theorem f1i{g:B7}(hg:g∈p.Progs):∀(ops:List GOp) (sl:List (Int × A0)) (c:A3),(∀o∈ops,o∈g.Ops)->Snd c->Fwd c (c7b M p g ops sl c)
 |[],sl,c,_,hc=>by rw[c7b];exact Fwd.ret _ hc
 |o::ops,sl,c,ho,hc=>by
  rw[c7b];exact Fwd.bind (e1n hp hF hg o (ho o (by simp)) sl hc) fun x c' _ q _=>f1i hg ops _ c' (fun o h=>ho o (by simp[h])) q
end
theorem e3u{p:A6}(hp:OkX p):∀(n:Nat) (t:Int) (g:B7) (c:A3),p.Progs[t.toNat]? =some g->0<=t->Snd c->Fwd c (msR p n t c)
 |0,t,g,c,_,_,_=>Fwd.err (by decide)
 |n+1,t,g,c,hgt,ht,hc=>by
  have hg:g∈p.Progs:=List.mem_of_getElem? hgt;rw[msR];split
  ·exact Fwd.err (by decide)
  rename_i h1;refine Fwd.bind (Fwd.sp hc) fun _ c' _ q hd=>?_
  rw[hgt];simp only;have hl:=c4b q (by omega);have:=f1i (M:=msR p n) hp (fun t g c h0 h1 h2=>e3u hp n t g c h0 h1 h2) hg g.Ops [] (a3m c' 1) (fun o h=>h) hl;cases he:c7b (msR p n) p g g.Ops [] (a3m c' 1) with
  |error e=>rw[he]at this;exact this
  |ok x=>
   rw[he]at this;obtain⟨s,d⟩:=this;have d1:=q.d1;have d0:=q.d0;simp only[a3m]at d;exact⟨⟨s.sz,s.a0,s.a1,s.a2,by simp only[a3m];omega,by simp only[a3m];omega,s.n0,s.n1⟩,by simp only[a3m];omega⟩
section
variable {p:A6}(hp:OkX p) {m:Nat}{M:RdM}
variable (hM:∀(t:Int) (g:B7) (c:A3),p.Progs[t.toNat]? =some g->0<=t->Snd c->c.Depth<=m->Ex (d87 p (M t c)) (W3 ⟨p,c⟩ t))
variable (hF:∀(t:Int) (g:B7) (c:A3),p.Progs[t.toNat]? =some g->0<=t->Snd c->Fwd c (M t c))
 include hp hM hF
abbrev h1a(sl:List (Int × A0))(c:A3):Rs A0:=.ok (⟨10,0,⟨#[]⟩,[],[],sl,[]⟩,a3m c (-1))
theorem g1g{g:B7}(hg:g∈p.Progs)(hgl:g.Ops.length<=65535):∀(d i:Nat) (sl:List (Int × A0)) (c:A3) (o:GOp) (z:A0),i+d=g.Ops.length->sl.length<=i->Snd c->c.Depth<=m->Ex (d87 p (E1 (c7b M p g (g.Ops.drop i) sl c) h1a)) (U3 i p.Progs p.Enums c.Data c.At c.End c.Depth c.Nodes c.Text sl g o.Num o.Name o.Alias o.Card o.Key o.Kind o.Target o.Union z.Kind z.Bits z.Text z.List_ z.Pairs z.Slots z.Raws):=by
 intro d
 induction d with
 |zero=>
  intro i sl c o z hi hs hc hd;have e:i=g.Ops.length:=by omega
  subst e;have d0:=hc.d0;have d1:=hc.d1;refine B5 (a3d _ _ _ _ _ _ _ _ _ _ _ _ _ _ _ _ _ _ _ _ _ _ _ _ _ _) (B4 _ (fun _=>D9 ?_) fun h=>by simp at h);rw[List.drop_length,c7b];show _=_;simp only[a3m];rw[wI,C7 (by omega)];simp
 |succ d ih=>
  intro i sl c o z hi hs hc hd;have hlt:i<g.Ops.length:=by omega
  have dl:g.Ops.drop i=g.Ops[i]::g.Ops.drop (i+1):=List.drop_eq_getElem_cons hlt;have hop:g.Ops[i]∈g.Ops:=List.getElem_mem hlt;have e1:wI ((i:Int)+1)=((i+1:Nat):Int):=by rw[wI,C7 (by omega)];omega
  refine B5 (a3d _ _ _ _ _ _ _ _ _ _ _ _ _ _ _ _ _ _ _ _ _ _ _ _ _ _) (B4 _ (fun h=>by simp at h;omega) fun _=>a3p g.Ops[i] (by simp) (by omega) ?_);rw[dl,c7b,a3c];have hf:=e1n hp hF hg g.Ops[i] hop sl hc;refine d5f hp hM hF hg g.Ops[i] hop sl (by omega) hc hd (fun b e y z r=>O5 b e i y.p.Progs y.p.Enums y.c.Data y.c.At y.c.End y.c.Depth y.c.Nodes y.c.Text sl g g.Ops[i] z.Kind z.Bits z.Text z.List_ z.Pairs z.Slots z.Raws r) (fun x hx=>?_) fun e he h0 b y z=>?_
  ·rw[hx]at hf;rw[hx,a3o];have hd2:x.2.Depth<=m:=by rw[hf.2];exact hd
   refine B5 (a3h _ _ _ _ _ _ _ _ _ _ _ _ _ _ _ _ _ _ _ _ _) (B4 _ (fun q=>by simp at q) fun _=>B4 _ (fun hb=>E0 (by simp;omega) ?_) fun hb=>?_)
   ·rw[if_pos hb,e1,h2g];exact ih (i+1) (sl++[(g.Ops[i].Num,x.1.1)]) x.2 g.Ops[i] x.1.1 (by omega) (by simp;omega) hf.1 hd2
   ·rw[if_neg (by rw[hb];simp),e1];exact ih (i+1) sl x.2 g.Ops[i] x.1.1 (by omega) (by omega) hf.1 hd2
  ·rw[he];refine B5 (a3h _ _ _ _ _ _ _ _ _ _ _ _ _ _ _ _ _ _ _ _ _) (B4 _ (fun _=>D9 ⟨h0,rfl⟩) fun q=>?_);exact absurd (ne0 h0) (by rw[q];simp)
theorem g2y{g:B7}(hg:g∈p.Progs)(hgl:g.Ops.length<=65535):∀(d i:Nat) (sl:List (Int × A0)) (c:A3) (o:GOp) (z:A0),i+d=g.Ops.length->sl.length<=i->Snd c->c.Depth<=m->Ex (d87 p (E1 (c7b M p g (g.Ops.drop i) sl c) h1a)) (T6 i p.Progs p.Enums c.Data c.At c.End c.Depth c.Nodes c.Text sl g o.Num o.Name o.Alias o.Card o.Key o.Kind o.Target o.Union z.Kind z.Bits z.Text z.List_ z.Pairs z.Slots z.Raws):=by
 intro d
 induction d with
 |zero=>
  intro i sl c o z hi hs hc hd;have e:i=g.Ops.length:=by omega
  subst e;have d0:=hc.d0;have d1:=hc.d1;refine B5 (a3g _ _ _ _ _ _ _ _ _ _ _ _ _ _ _ _ _ _ _ _ _ _ _ _ _ _) (B4 _ (fun _=>D9 ?_) fun h=>by simp at h);rw[List.drop_length,c7b];show _=_;simp only[a3m];rw[wI,C7 (by omega)];simp
 |succ d ih=>
  intro i sl c o z hi hs hc hd;have hlt:i<g.Ops.length:=by omega
  have dl:g.Ops.drop i=g.Ops[i]::g.Ops.drop (i+1):=List.drop_eq_getElem_cons hlt;have hop:g.Ops[i]∈g.Ops:=List.getElem_mem hlt;have e1:wI ((i:Int)+1)=((i+1:Nat):Int):=by rw[wI,C7 (by omega)];omega
  refine B5 (a3g _ _ _ _ _ _ _ _ _ _ _ _ _ _ _ _ _ _ _ _ _ _ _ _ _ _) (B4 _ (fun h=>by simp at h;omega) fun _=>a3p g.Ops[i] (by simp) (by omega) ?_);rw[dl,c7b,a3c];have hf:=e1n hp hF hg g.Ops[i] hop sl hc;refine d5f hp hM hF hg g.Ops[i] hop sl (by omega) hc hd (fun b e y z r=>O6 b e i y.p.Progs y.p.Enums y.c.Data y.c.At y.c.End y.c.Depth y.c.Nodes y.c.Text sl g g.Ops[i] z.Kind z.Bits z.Text z.List_ z.Pairs z.Slots z.Raws r) (fun x hx=>?_) fun e he h0 b y z=>?_
  ·rw[hx]at hf;rw[hx,a3o];have hd2:x.2.Depth<=m:=by rw[hf.2];exact hd
   refine B5 (a25 _ _ _ _ _ _ _ _ _ _ _ _ _ _ _ _ _ _ _ _ _) (B4 _ (fun q=>by simp at q) fun _=>B4 _ (fun hb=>E0 (by simp;omega) ?_) fun hb=>?_)
   ·rw[if_pos hb,e1,h2g];exact ih (i+1) (sl++[(g.Ops[i].Num,x.1.1)]) x.2 g.Ops[i] x.1.1 (by omega) (by simp;omega) hf.1 hd2
   ·rw[if_neg (by rw[hb];simp),e1];exact ih (i+1) sl x.2 g.Ops[i] x.1.1 (by omega) (by omega) hf.1 hd2
  ·rw[he];refine B5 (a25 _ _ _ _ _ _ _ _ _ _ _ _ _ _ _ _ _ _ _ _ _) (B4 _ (fun _=>D9 ⟨h0,rfl⟩) fun q=>?_);exact absurd (ne0 h0) (by rw[q];simp)
end
theorem d3f{p:A6}(hp:OkX p):∀(m:Nat) (t:Int) (g:B7) (c:A3),p.Progs[t.toNat]? =some g->0<=t->Snd c->c.Depth<=m->Ex (d87 p (msR p m t c)) (W3 ⟨p,c⟩ t)
 |0,t,g,c,hgt,ht,hc,hd=>by
  have d0:=hc.d0;refine B5 (a7w _ _) (F0 (fun _=>D9 ⟨by decide,rfl⟩) fun h=>?_);simp only at h;omega
 |m+1,t,g,c,hgt,ht,hc,hd=>by
  have hg:g∈p.Progs:=List.mem_of_getElem? hgt;have hgl:=e0h hp hg;have hM:=fun(t:Int) (g:B7) (c:A3) h0 h1 h2 h3=>d3f hp m t g c h0 h1 h2 h3
  have hF:=fun(t:Int) (g:B7) (c:A3) h0 h1 h2=>e3u hp m t g c h0 h1 h2
  have d0:=hc.d0;have d1:=hc.d1;refine B5 (a7w _ _) (F0 (fun h=>D9 ?_) fun h=>E3 (d4y (p:=p) hc) fun y hy=>?_)
  ·rw[msR,if_pos h];exact⟨by decide,rfl⟩
  have h1:¬c.Depth<1:=h;rw[msR,if_neg h1];have hs:=Fwd.sp hc;cases hsp:spR c with
  |error e=>
   rw[hsp]at hy;refine B4 _ (fun _=>D9 ⟨hy.1,hy.2⟩) fun q=>?_
   rw[hy.2]at q;exact absurd (ne0 hy.1) (by rw[q];simp)
  |ok x=>
   rw[hsp]at hy hs;have hy:y=(⟨p,x.2⟩,0):=hy;subst hy;obtain⟨s1,s2⟩:=hs;have e0:wI (x.2.Depth - 1)=x.2.Depth - 1:=by rw[s2,wI,C7 (by omega)]
   refine B4 _ (fun q=>by simp at q) fun _=>a3p g hgt ht ?_
   simp only[a3o,hgt];have hl:=c4b s1 (by omega);have hcl:(⟨x.2.Data,x.2.At,x.2.End,wI (x.2.Depth - 1),x.2.Nodes,x.2.Text⟩:A3)=a3m x.2 1:=by simp only[a3m];rw[e0]
   have hdl:(a3m x.2 1).Depth<=m:=by simp only[a3m];omega
   cases hops:g.Ops with
   |nil=>
    refine B4 _ (fun _=>D9 ?_) fun h=>by simp at h
    rw[c7b,a3o];show _=_;simp only[a3m];rw[e0,wI,C7 (by omega)];simp
   |cons o ops=>
    have hop:o∈g.Ops:=by rw[hops];simp
    have hdrop:g.Ops.drop 1=ops:=by rw[hops];rfl
    refine B4 _ (fun h=>by simp at h;omega) fun _=>a3p o (by simp) (by omega) ?_
    rw[c7b,hcl];have hf:=e1n hp hF hg o hop [] hl;have key:=d5f (Q:=d87 p (E1 (E1 (fdR (msR p m) p g [] o (a3m x.2 1)) fun x c=>c7b (msR p m) p g ops (if x.2=true then []++[(o.Num,x.1)] else []) c) h1a)) hp hM hF hg o hop [] (by simp) hl hdl (fun b e y z r=>Q3 b e y.p.Progs y.p.Enums y.c.Data y.c.At y.c.End y.c.Depth y.c.Nodes y.c.Text g o z.Kind z.Bits z.Text z.List_ z.Pairs z.Slots z.Raws r) (fun z hz=>?_) fun e he h0 b y z=>?_
    ·exact key
    ·rw[hz]at hf;rw[hz,a3o];have hd2:z.2.Depth<=m:=by rw[hf.2];exact hdl
     refine B5 (a37 _ _ _ _ _ _ _ _ _ _ _ _ _ _ _ _ _ _ _) (B4 _ (fun q=>by simp at q) fun _=>B4 _ (fun hb=>E0 (by simp) ?_) fun hb=>?_)
     ·rw[if_pos hb,List.nil_append,h2g];have:=g1g hp hM hF hg hgl (g.Ops.length - 1) 1 [(o.Num,z.1.1)] z.2 o z.1.1 (by rw[hops];simp;omega) (by simp) hf.1 hd2;rw[hdrop]at this;exact this
     ·rw[if_neg (by rw[hb];simp)];have:=g2y hp hM hF hg hgl (g.Ops.length - 1) 1 [] z.2 o z.1.1 (by rw[hops];simp;omega) (by simp) hf.1 hd2;rw[hdrop]at this;exact this
    ·rw[he];refine B5 (a37 _ _ _ _ _ _ _ _ _ _ _ _ _ _ _ _ _ _ _) (B4 _ (fun _=>D9 ⟨h0,rfl⟩) fun q=>?_);exact absurd (ne0 h0) (by rw[q];simp)
noncomputable def e3c(p:A6)(name data:ByteArray)(l:a04):A0 × Int:=
 if(Z1 p name).2=false then(V0,10)
 else if l.Bytes<0\/l.Depth<0\/l.Nodes<0\/l.Text<0 then(V0,1)
 else if l.Bytes<(data.size:Int) then(V0,3)
 else match msR p l.Depth.toNat (Z1 p name).1 ⟨data,0,data.size,l.Depth,l.Nodes,l.Text⟩ with
  |.error e=>(V0,e)
  |.ok x=>if 0<a2b x.2.Data x.2.At x.2.End then(V0,18) else(x.1,0)
theorem f87{p:A6}(hp:OkX p)(name data:ByteArray)(l:a04)(hz:data.size<=140737488351232)(hd:l.Depth<=4611686018427387904)(hn:l.Nodes<=4611686018427387904):c6r p name data l (e3c p name data l):=by
 have hpl:=D8 hp.pl.np
 have neg:((((decide (l.Bytes<0))||(decide (l.Depth<0)))||(decide (l.Nodes<0)))||(decide (l.Text<0)))=decide (l.Bytes<0\/l.Depth<0\/l.Nodes<0\/l.Text<0):=by
  rw[Bool.eq_iff_iff];simp only[Bool.or_eq_true,decide_eq_true_eq];omega
 by_cases hf:(Z1 p name).2=true
 rotate_left
 ·have hf':(Z1 p name).2=false:=by simpa using hf
  refine a7z _ _ _ _ _ ⟨_,c9r p hpl name,fun _=>?_,fun h=>by rw[hf']at h;simp at h⟩;rw[e3c,if_pos hf'];rfl
 have nf:¬(Z1 p name).2=false:=by simp[hf]
 by_cases hneg:l.Bytes<0\/l.Depth<0\/l.Nodes<0\/l.Text<0
 ·refine a7z _ _ _ _ _ ⟨_,c9r p hpl name,fun h=>by simp[hf]at h,fun _=>⟨_,b00 _ _ _ ⟨fun _=>rfl,fun h=>by rw[neg]at h;exact absurd hneg (of_decide_eq_false h)⟩,fun _=>?_,fun h=>by simp at h⟩⟩;rw[e3c,if_neg nf,if_pos hneg];rfl
 by_cases hby:l.Bytes<(data.size:Int)
 ·refine a7z _ _ _ _ _ ⟨_,c9r p hpl name,fun h=>by simp[hf]at h,fun _=>⟨_,b00 _ _ _ ⟨fun h=>by rw[neg]at h;exact absurd (of_decide_eq_true h) hneg,fun _=>⟨fun _=>rfl,fun h=>absurd hby (of_decide_eq_false h)⟩⟩,fun _=>?_,fun h=>by simp at h⟩⟩;rw[e3c,if_neg nf,if_neg hneg,if_pos hby];rfl
 obtain⟨t0,g,hgt⟩:=d9f p name hf;have hc:Snd ⟨data,0,data.size,l.Depth,l.Nodes,l.Text⟩:=⟨hz,by simp,by simp,by simp,by simp only;omega,by simp only;omega,by simp only;omega,by simp only;omega⟩;obtain⟨y,hy,hs⟩:=d3f hp l.Depth.toNat _ g _ hgt t0 hc (by simp only;omega);have hfw:=e3u hp l.Depth.toNat _ g _ hgt t0 hc;refine a7z _ _ _ _ _ ⟨_,c9r p hpl name,fun h=>by simp[hf]at h,fun _=>⟨_,b00 _ _ _ ⟨fun h=>by rw[neg]at h;exact absurd (of_decide_eq_true h) hneg,fun _=>⟨fun h=>absurd (of_decide_eq_true h) hby,fun _=>rfl⟩⟩,fun h=>by simp at h,fun _=>⟨y,hy,?_⟩⟩⟩
 have ed:e3c p name data l=match msR p l.Depth.toNat (Z1 p name).1 ⟨data,0,data.size,l.Depth,l.Nodes,l.Text⟩ with
  |.error e=>(V0,e)
  |.ok x=>if 0<a2b x.2.Data x.2.At x.2.End then(V0,18) else(x.1,0):=by rw[e3c,if_neg nf,if_neg hneg,if_neg hby]
 cases he:msR p l.Depth.toNat (Z1 p name).1 ⟨data,0,data.size,l.Depth,l.Nodes,l.Text⟩ with
 |error e=>
  rw[he]at hs ed;rw[ed];refine⟨fun _=>by rw[hs.2];rfl,fun h=>?_⟩;rw[hs.2]at h;exact absurd (ne0 hs.1) (by rw[h];simp)
 |ok x=>
  rw[he]at hs ed hfw;have hs:y=(⟨p,x.2⟩,x.1,0):=hs;subst hs;rw[ed];simp only;refine⟨fun h=>by simp at h,fun _=>⟨_,d5r x.2 hfw.1.okc,fun h=>?_,fun h=>?_⟩⟩
  ·rw[if_pos (of_decide_eq_true h)];rfl
  ·rw[if_neg (of_decide_eq_false h)]
theorem d0u(d:ByteArray)(D N T:Int):G0 ⟨d,0,d.size,D,N,T⟩=d:=f99 d
theorem f5u{p:A6}(hp:OkX p){n:Nat}{t:Int}{x:A0}(h:RfV p n t x)(d:ByteArray)(hz:d.size<=140737488351232){D N T:Int}(hD:0<=D/\D<=4611686018427387904)(hN:0<=N/\N<=4611686018427387904)(hT:0<=T)(hpre:(∃u,d=O7 p n t x++u)\/∃u,O7 p n t x=d++u):Got ⟨d,0,d.size,D,N,T⟩ (O7 p n t x) (cV x) x (msR p D.toNat t ⟨d,0,d.size,D,N,T⟩):=by
 have hc:Snd ⟨d,0,d.size,D,N,T⟩:=⟨hz,by simp,by simp,by simp,hD.1,hD.2,hN.1,hN.2⟩;refine f8a hp n D.toNat t x h _ hc hT (by simp only;omega) ?_;unfold Ahd;rw[d0u];exact hpre
structure Enc(p:A6)(name:ByteArray)(v:A0)(x:A0):Prop where
 find:(Z1 p name).2=true
 body:(e5y p name v).1=O7 p (SizeOf.sizeOf v) (Z1 p name).1 x
 rf:RfV p (SizeOf.sizeOf v) (Z1 p name).1 x
 lim:Lim 1 (cV x)
 n:(cV x).n<=4096
 sz:(e5y p name v).1.size<=65536
 eq:x=U4 p (SizeOf.sizeOf v) (Z1 p name).1 v
 at_:∃g,p.Progs[(Z1 p name).1.toNat]? =some g/\0<=(Z1 p name).1
 msg:a9c p (SizeOf.sizeOf v) (Z1 p name).1 v 1=0
 nox:NoX v
theorem e1o{p:A6}{name d:ByteArray}{l:a04}(hf:(Z1 p name).2=true)(h0:¬(l.Bytes<0\/l.Depth<0\/l.Nodes<0\/l.Text<0))(hb:(d.size:Int)<=l.Bytes):e3c p name d l=match msR p l.Depth.toNat (Z1 p name).1 ⟨d,0,d.size,l.Depth,l.Nodes,l.Text⟩ with
  |.error e=>(V0,e)
  |.ok x=>if 0<a2b x.2.Data x.2.At x.2.End then(V0,18) else(x.1,0):=by
 (rw[e3c,if_neg (by simp[hf]),if_neg h0,if_neg (by omega)])<;>(cases msR p l.Depth.toNat (Z1 p name).1 ⟨d,0,d.size,l.Depth,l.Nodes,l.Text⟩<;>rfl)
section
variable {p:A6}(hp:OkX p) {name:ByteArray}{v x:A0}(h:Enc p name v x)
 include hp h
end
theorem e2i:b7c ⟨65536,16,4096,4096⟩:=c8d _ rfl
theorem g1h(s:ByteArray)(k:Nat)(hk:k<=s.size):s=s.extract 0 k++s.extract k s.size:=by
 refine d8k ?_ fun i hi=>?_
 ·rw[K3,W4 _ hk,W4 _ (Nat.le_refl _)];omega
 ·rcases Nat.lt_or_ge i k with q|q
  ·rw[a6j _ _ (by rw[W4 _ hk];omega),U0 _ (by omega),Nat.zero_add]
  ·have e:F6 (s.extract 0 k++s.extract k s.size) i=F6 (s.extract k s.size) (i - k):=by
    unfold F6 E9
    have hl:(s.extract 0 k).data.toList.length=k:=by
     have:(s.extract 0 k).data.toList.length=(s.extract 0 k).size:=Array.length_toList;rw[this,W4 _ hk];omega
    rw[b85,List.getD_eq_getElem?_getD,List.getElem?_append_right (by omega),hl,<-List.getD_eq_getElem?_getD]
   rw[e,U0 _ (by omega)]
   congr 1
   omega
section
variable {n:Nat}{av:AV}
end
structure c0p(c c':A3)(b:ByteArray)(k:P8):Prop where
 rest:G0 c=b++G0 c'
 eq:c'=adv c b.size k.n
 d:(k.d:Int)<=c.Depth
 n:(k.n:Int)<=c.Nodes
 l:(k.l:Int)<=c.Text
theorem c0p.trans{c c1 c2:A3}{b b':ByteArray}{k k':P8}(h:c0p c c1 b k)(h2:c0p c1 c2 b' k'):c0p c c2 (b++b') (k.add k'):=by
 have e:=h.eq;have n2:=h2.n;have d2:=h2.d;have l2:=h2.l;rw[e]at n2 d2 l2;simp only[adv]at n2 d2 l2;have:=h.d;have:=h.n;have:=h.l;refine⟨by rw[h.rest,h2.rest,b18],?_,by simp only[P8.add];omega,by simp only[P8.add];omega,by simp only[P8.add];omega⟩;rw[h2.eq,e,e6w,K3];simp[P8.add]
theorem c0p.same{c:A3}(hc:Snd c)(ht:0<=c.Text):c0p c c ⟨#[]⟩ .none:=by
 have:=hc.d0;have:=hc.n0;refine⟨(d4j _).symm,?_,by simp only[P8.none];omega,by simp only[P8.none];omega,by simp only[P8.none];omega⟩;have:((⟨#[]⟩:ByteArray).size:Int)=0:=rfl;simp[adv,P8.none,this]
theorem c0p.of{c c':A3}{b b':ByteArray}{k k':P8}(h:c0p c c' b k)(hb:b=b')(hk:k=k'):c0p c c' b' k':=by subst hb hk;exact h
theorem c0p.snd{c c':A3}{b:ByteArray}{k:P8}(h:c0p c c' b k)(hc:Snd c):Snd c'/\c'.Text=c.Text/\c'.Depth=c.Depth:=by
 rw[h.eq];exact⟨(d49 hc h.rest ⟨by omega,h.n⟩).1,rfl,rfl⟩
theorem e1z{c:A3}(hc:Snd c)(ht:0<=c.Text){b:ByteArray}{k:Nat}{l:Nat}(hk:k<=(G0 c).size)(hl:(l:Int)<=c.Text)(hb:b.size=k)(h:∀i,i<k->F6 b i=F6 (G0 c) i):c0p c (a0p c k) b ⟨0,0,l⟩:=by
 have d0:=hc.d0;have n0:=hc.n0
 have e:b=(G0 c).extract 0 k:=by
  refine d8k ?_ fun i hi=>?_
  ·rw[W4 _ hk];omega
  ·rw[U0 _ (by omega),Nat.zero_add];exact h i (by omega)
 have hr:G0 c=b++(G0 c).extract k (G0 c).size:=by rw[e];exact g1h _ _ hk
 obtain⟨_,s2⟩:=d49 hc hr (n:=0) ⟨by omega,n0⟩;have e2:a0p c k=adv c b.size 0:=by rw[b2j,hb]
 refine⟨?_,by rw[e2];simp,by simp only;omega,by simp only;omega,hl⟩;rw[e2,s2];exact hr
theorem g3w{α:Type}{a x:α}{c c':A3}{k:Int}(h:(a,c,k)=(x,c',0)):k=0:=congrArg (fun z:α × A3 × Int=>z.2.2) h
theorem d7t(s:ByteArray):∀(d i acc v e:Nat),10 - i<=d->U5 s i acc=(v,e,0)->∃w L,v=acc+w*128 ^ i/\e=i+L/\1<=L/\i+L<=s.size/\(L=(a8z w).length->∀j x,(a8z w)[j]? =some x->((F6 s (i+j):Nat):Int)=x)
 |0,i,acc,v,e,hd,h=>by
  rw[U5.eq_def,if_pos (by omega)]at h;cases h
 |d+1,i,acc,v,e,hd,h=>by
  have hb:=(a49 s i).2;rw[U5.eq_def]at h;split at h
  ·cases h
  split at h
  ·cases h
  rename_i h1 h2;split at h
  ·cases h
  split at h
  ·rename_i h3 h4;cases h;refine⟨F6 s i,1,rfl,rfl,by omega,by omega,fun _ j x hj=>?_⟩;rw[a8z,if_pos h4]at hj;cases j with
   |zero=>simp at hj;rw[Nat.add_zero];exact hj
   |succ j=>simp at hj
  ·rename_i h3 h4;obtain⟨w,L,q1,q2,q3,q4,q5⟩:=d7t s d (i+1) _ v e (by omega) h;refine⟨F6 s i % 128+128*w,L+1,?_,by omega,by omega,by omega,fun hl j x hj=>?_⟩
   ·rw[q1,Nat.pow_succ,Nat.add_mul,Nat.add_assoc,Nat.mul_comm (128 ^ i) 128,<-Nat.mul_assoc,Nat.mul_comm w 128]
   ·have hw:¬F6 s i % 128+128*w<128:=fun q=>by
     rw[a8z,if_pos q]at hl;simp at hl;omega
    have ew:a8z (F6 s i % 128+128*w)=((F6 s i % 128+128:Nat):Int)::a8z w:=by
     rw[a8z,if_neg hw];have a1:(F6 s i % 128+128*w) % 128=F6 s i % 128:=by omega
     have a2:(F6 s i % 128+128*w) / 128=w:=by omega
     rw[a1,a2]
    rw[ew]at hl hj;cases j with
    |zero=>
     simp at hj;rw[Nat.add_zero,<-hj];omega
    |succ j=>
     have:=q5 (by simpa using hl) j x (by simpa using hj);rw[show i+(j+1)=i+1+j by omega];exact this
section
variable {c:A3}(hc:Snd c) (ht:0<=c.Text)
 include hc ht
theorem e0d{u:Int}{c':A3}(h:toR (T2 c)=.ok (u,c')):∃n:Nat,u=n/\n<18446744073709551616/\c0p c c' (b1l n) .none:=by
 have hl:=c86 (G0 c) 10 0 0 rfl (by omega) (by decide);have e:=c35 h;unfold T2 at e;split at e
 ·rename_i h1;split at e
  ·rename_i h2;have e1:=congrArg (fun z=>z.1) e;have e2:=congrArg (fun z=>z.2.1) e;simp only at e1 e2;subst e1 e2;generalize hv:(U5 (G0 c) 0 0).1=n at*;generalize hs:(U5 (G0 c) 0 0).2.1=k at*;have e2:U5 (G0 c) 0 0=(n,k,0):=Prod.ext hv (Prod.ext hs h1);obtain⟨w,L,q1,q2,q3,q4,q5⟩:=d7t (G0 c) 10 0 0 n k (by omega) e2;have ew:w=n:=by simp at q1;omega
   subst ew;have hz:(b1l w).size=(a8z w).length:=b1w _;have hb:=q5 (by omega);refine⟨w,rfl,hl,e1z (l:=0) hc ht (by omega) (by omega) (by omega) fun i hi=>?_⟩;have hx:(a8z w)[i]? =some (a8z w)[i]:=List.getElem?_eq_getElem (by omega);have a1:=hb i _ hx;have a2:=b56 (c55 w) hx;rw[Nat.zero_add]at a1;have:((F6 (b1l w) i:Nat):Int)=(a8z w)[i]:=a2;omega
  ·exact absurd (g3w e) (by decide)
 ·rename_i h1;have:=congrArg (fun z:Int × A3 × Int=>z.2.2) e;simp only at this;omega
theorem e1r{b:Int}{c':A3}(h:toR (a2m c)=.ok (b,c')):0<=b/\b<256/\c0p c c' (ofI [b]) .none:=by
 have hr:=b7n c;have e:=c35 h;have hs:=hc.size;rw[e]at hr;unfold a2m at e;split at e
 ·rename_i h1;rw[hc.left]at h1;have e1:=congrArg (fun z=>z.1) e;have e2:=congrArg (fun z=>z.2.1) e;simp only at e1 e2;subst e1 e2;simp only at hr;refine⟨hr.1,hr.2,e1z (k:=1) (l:=0) hc ht (by omega) (by omega) (b1w _) fun i hi=>?_⟩;have e0:i=0:=by omega
  subst e0;have a2:((F6 (ofI [E9 c.Data c.At.toNat]) 0:Nat):Int)=E9 c.Data c.At.toNat:=b56 (a0y hr) rfl;rw[hc.rest,U0 _ (by have:=hc.a0;omega),Nat.add_zero];have:=(a49 c.Data c.At.toNat).1;omega
 ·exact absurd (g3w e) (by decide)
theorem g2f{u:Int}{c':A3}(h:toR (c48 c)=.ok (u,c')):0<=u/\u<18446744073709551616/\c0p c c' (d84 u.toNat) .none:=by
 have hr:=d09 c;have e:=c35 h;rw[e]at hr;unfold c48 at e;split at e
 ·rename_i h1;have e1:=congrArg (fun z=>z.1) e;have e2:=congrArg (fun z=>z.2.1) e;simp only at e1 e2;subst e1 e2;simp only at hr;refine⟨hr.1,hr.2,e1z (k:=8) (l:=0) hc ht h1 (by omega) (c9j _) fun i hi=>?_⟩;rw[Int.toNat_natCast];have a1:=e0s (leS (G0 c) 8) 8 (Nat.le_refl _)
  have a2:leS (G0 c) 8 % 256 ^ 8=leS (G0 c) 8:=Nat.mod_eq_of_lt (by
   have:(256:Nat) ^ 8=18446744073709551616:=by decide
   omega)
  rw[a2]at a1;generalize d84 (leS (G0 c) 8)=t at*;generalize G0 c=s at*;have b1:=fun j=>(a49 s j).2
  have b2:=fun j=>(a49 t j).2
  simp only[leS,Nat.reducePow]at a1;have c0:=b1 0;have c1:=b1 1;have c2:=b1 2;have c3:=b1 3;have c4:=b1 4;have c5:=b1 5;have c6:=b1 6;have c7:=b1 7;have d0:=b2 0;have d1:=b2 1;have d2:=b2 2;have d3:=b2 3;have d4:=b2 4;have d5:=b2 5;have d6:=b2 6;have d7:=b2 7;have:i=0\/i=1\/i=2\/i=3\/i=4\/i=5\/i=6\/i=7:=by omega
  rcases this with rfl|rfl|rfl|rfl|rfl|rfl|rfl|rfl<;>omega
 ·exact absurd (g3w e) (by decide)
theorem g1o{u:Int}(hu:0<=u){s:ByteArray}{c':A3}(h:txR u c=.ok (s,c')):(s.size:Int)=u/\c0p c c' s ⟨0,0,s.size⟩:=by
 unfold txR at h;split at h
 ·cases h
 rename_i h0;rw[hc.left]at h0;have e:=c35 h;have hs:=hc.size;have a0:=hc.a0;have a2:=hc.a2;unfold a64 at e;split at e
 ·exact absurd (g3w e) (by decide)
 split at e
 ·exact absurd (g3w e) (by decide)
 split at e
 ·exact absurd (g3w e) (by decide)
 rename_i h3;have e1:=congrArg (fun z=>z.1) e;have e2:=congrArg (fun z=>z.2.1) e;simp only at e1 e2;subst e1 e2;have ez:(c.Data.extract c.At.toNat (c.At.toNat+u.toNat)).size=u.toNat:=by rw[W4 _ (by omega)];omega
 have eu:a0p c u=a0p c ((u.toNat:Nat):Int):=by congr 1;omega
 refine⟨by omega,?_⟩;rw[eu];refine e1z hc ht (by omega) (by omega) ez fun i hi=>?_
 rw[U0 _ (by omega),hc.rest,U0 _ (by omega)]
theorem h38{n:Int}(h: -9223372036854775808<=n/\n<=9223372036854775807):wI (wU n)=n:=by simp only[wU,wI,IntKind.wrap,IntKind.signed,IntKind.bits];simp;omega
theorem g2h(u:Nat)(h:u<18446744073709551616):e5w (wI (wU (e4b u)))=u:=by
 rw[h38 hc ht (by unfold e4b;split<;>omega)];unfold e5w e4b;split<;>split<;>omega
theorem f9w(h4:c.Text<=4096){p:A6}{k t:Int}{y:A0}{c':A3}(h:scR p k t c=.ok (y,c')):ScO p k t y/\c0p c c' (c2o y) ⟨0,0,y.Text.size⟩:=by
 have hv:=e02 hc h;have z0:((⟨#[]⟩:ByteArray).size)=0:=rfl;have bits:∀b:Int,a2k k (b6q k b)=true->(k≠7/\k≠8)->True:=fun _ _ _=>trivial
 by_cases h1:k=1
 ·subst h1;rw[f48]at h;obtain⟨b,c1,q1,q2⟩:=O8 h;obtain⟨b0,b1,cn⟩:=e1r hc ht q1;split at q2
  ·cases q2
  rename_i q3;cases q2
  have f:a2k 1 (b6q 1 b)=true:=by
   have hw:a06 1 b=true:=by rw[a06,if_pos rfl];exact decide_eq_true (by omega)
   unfold a2k;rw[if_neg (by decide)];simp[b6q,c19,hw]
  refine⟨⟨f,rfl,b9m (show(1:Int)≠6 by decide),fun h=>absurd h (by decide),⟨b0,by simp only[b6q];omega⟩,rfl,rfl,rfl,rfl⟩,cn.of ?_ rfl⟩;have f':a2k (b6q 1 b).Kind (b6q 1 b)=true:=f;unfold c2o;rw[if_pos f',if_pos (show(b6q 1 b).Kind=1 from rfl)];simp only[b6q,show b % 256=b by omega]
 by_cases h6:k=6
 ·subst h6;rw[f6f]at h;obtain⟨u,c1,q1,q2⟩:=O8 h;obtain⟨b0,b1,cn⟩:=g2f hc ht q1;split at q2
  ·cases q2
  rename_i q3;cases q2
  have hn:a2o ⟨6,u,⟨#[]⟩,[],[],[],[]⟩=⟨6,u,⟨#[]⟩,[],[],[],[]⟩:=by
   have q4:(a2o ⟨6,u,⟨#[]⟩,[],[],[],[]⟩).Bits=u:=by simpa using q3
   unfold a2o at q4 ⊢;split
   ·rename_i q5;rw[if_pos q5]at q4;simp only at q4;rw[q4]
   ·rfl
  have f:a2k 6 ⟨6,u,⟨#[]⟩,[],[],[],[]⟩=true:=by
   unfold a2k;rw[if_neg (by decide)];simp[c19,a06]
  refine⟨⟨f,rfl,hn,fun h=>absurd h (by decide),⟨b0,b1⟩,rfl,rfl,rfl,rfl⟩,cn.of ?_ rfl⟩;unfold c2o;rw[if_pos f,if_neg (show ¬(6:Int)=1 by decide),if_neg (show ¬((6:Int)=2\/(6:Int)=3) by decide),if_pos rfl,hn]
 by_cases h78:k=7\/k=8
 ·rw[f4g p k t h78]at h;obtain⟨u,c1,q1,q2⟩:=O8 h;obtain⟨n,rfl,hn,cn⟩:=e0d hc ht q1;obtain⟨s,c2,q3,q4⟩:=O8 q2;obtain⟨s1,s2,s3⟩:=cn.snd hc;obtain⟨hz,cn2⟩:=g1o s1 (by rw[s2];exact ht) (by omega) q3;split at q4
  ·cases q4
  rename_i q5;cases q4;have hsz:s.size<=4096:=by have:=cn2.l;simp only at this;omega
  have f:a2k k ⟨k,0,s,[],[],[],[]⟩=true:=by
   unfold a2k;rw[if_pos h78]
   have:(!decide (k=7)||a7e s)=true:=by
    by_cases e7:k=7
    ·have:¬a7e s=false:=fun q=>q5 ⟨e7,q⟩
     simp[e7];simpa using this
    ·simp[e7]
   simp only[this,Bool.and_true,Bool.and_eq_true,decide_eq_true_eq,c19];exact⟨⟨⟨by omega,by omega,trivial⟩,by simp⟩,trivial,hsz⟩
  refine⟨⟨f,rfl,b9m (show k≠6 by omega),fun h=>by omega,⟨by simp,by simp⟩,rfl,rfl,rfl,rfl⟩,(cn.trans cn2).of ?_ (P8.none_add _)⟩;unfold c2o;rw[if_pos f,if_neg h1,if_neg (show ¬(k=2\/k=3) by omega),if_neg h6,if_pos h78];have:n=s.size:=by omega
  rw[this]
 by_cases hn:k=2\/k=3\/k=4\/k=5\/k=9
 ·rw[f5w p k t hn]at h;obtain⟨u,c1,q1,q2⟩:=O8 h;obtain⟨n,rfl,hn2,cn⟩:=e0d hc ht q1;split at q2
  ·cases q2
  rename_i q3;split at q2
  ·cases q2
  rename_i q4;cases q2;have f:a2k k (b6q k (b8a k n))=true:=by simpa using q3
  have hb:0<=b8a k n/\b8a k n<18446744073709551616:=by
   unfold b8a;split
   ·exact e1s _
   ·omega
  refine⟨⟨f,rfl,b9m (show k≠6 by omega),fun h9=>?_,hb,rfl,rfl,rfl,rfl⟩,cn.of ?_ rfl⟩
  ·have e9:b8a k n=n:=by unfold b8a;rw[if_neg (by omega)]
   show d2n p t (b8a k n)=true;rw[e9];have:¬d2n p t n=false:=fun q=>q4 ⟨h9,q⟩
   simpa using this
  ·have f':a2k (b6q k (b8a k n)).Kind (b6q k (b8a k n))=true:=f;unfold c2o;rw[if_pos f',if_neg (show ¬(b6q k (b8a k n)).Kind=1 from h1)]
   by_cases h23:k=2\/k=3
   ·rw[if_pos (show(b6q k (b8a k n)).Kind=2\/(b6q k (b8a k n)).Kind=3 from h23)];simp only[b6q,b8a,if_pos h23,Int.toNat_natCast];rw[g2h hc ht n hn2]
   ·rw[if_neg (show ¬((b6q k (b8a k n)).Kind=2\/(b6q k (b8a k n)).Kind=3) from h23),if_neg (show ¬(b6q k (b8a k n)).Kind=6 from h6),if_neg (show ¬((b6q k (b8a k n)).Kind=7\/(b6q k (b8a k n)).Kind=8) from h78)];simp only[b6q,b8a,if_neg h23,Int.toNat_natCast]
 ·rw[e6h hc p t h1 h6 h78 hn]at h;cases h
end
structure Us(c:A3):Prop where
 s:Snd c
 t0:0<=c.Text
 t4:c.Text<=4096
theorem c0p.us{c c':A3}{b:ByteArray}{k:P8}(h:c0p c c' b k)(hc:Us c):Us c':=by
 obtain⟨a,b,_⟩:=h.snd hc.s;exact⟨a,by rw[b];exact hc.t0,by rw[b];exact hc.t4⟩
theorem f0i{c c':A3}{x:Unit}(hc:Us c)(h:spR c=.ok (x,c')):c0p c c' ⟨#[]⟩ ⟨0,1,0⟩:=by
 have:=hc.s.d0;have:=hc.t0;unfold spR at h;split at h
 ·cases h
 ·rename_i h1;cases h;have e:G0 (adv c 0 1)=G0 c:=by simp only[G0,adv,Int.add_zero]
  exact⟨by rw[e,d4j],by rw[show((⟨#[]⟩:ByteArray).size)=0 from rfl];rfl,by simp only;omega,by simp only;omega,by simp only;omega⟩
theorem f83{c c':A3}(hc:Us c){M:RdM}{p:A6}{k t:Int}{y:A0}(hk:k≠10)(h:elR M p k t c=.ok (y,c')):ScO p k t y/\c0p c c' (c2o y) (cV y):=by
 rw[elR,if_neg hk]at h;obtain⟨_,c1,q1,q2⟩:=O8 h;have h1:=f0i hc q1;have hc1:=h1.us hc;obtain⟨h2,h3⟩:=f9w hc1.s hc1.t0 hc1.t4 q2;refine⟨h2,(h1.trans h3).of (d4j _) ?_⟩;rw[h2.cost];simp[P8.add]
theorem f8n{c c':A3}(hc:Us c){u:Int}(h:cnR c=.ok (u,c')):∃n:Nat,u=n/\n<=4096/\c0p c c' (b1l n) ⟨0,if 0<n then 1 else 0,0⟩:=by
 have e:cnR c=E1 (toR (T2 c)) fun u c=>if 4096<u then .error 3 else if 0<u then E1 (spR c) fun _ c=>.ok (u,c) else .ok (u,c):=rfl
 rw[e]at h;obtain⟨v,c1,q1,q2⟩:=O8 h;obtain⟨n,rfl,hn,cn⟩:=e0d hc.s hc.t0 q1;split at q2
 ·cases q2
 rename_i h1;split at q2
 ·rename_i h2;obtain⟨_,c2,q3,q4⟩:=O8 q2;cases q4;refine⟨n,rfl,by omega,(cn.trans (f0i (cn.us hc) q3)).of (b9c _) ?_⟩;rw[if_pos (by omega)];exact P8.none_add _
 ·rename_i h2;cases q2;refine⟨n,rfl,by omega,cn.of rfl ?_⟩;rw[if_neg (by omega)];rfl
section
variable {p:A6}{W:c5o}{B:Int->A0->Prop}{M:RdM}(hM:∀t y c c',0<=t->Us c->M t c=.ok (y,c')->B t y/\c0p c c' (W t y) (cV y))
 include hM
theorem e1j{c c':A3}(hc:Us c){o:GOp}(ho:o.Kind=10->0<=o.Target){y:A0}(h:elR M p o.Kind o.Target c=.ok (y,c')):ElO p B o.Kind o.Target y/\c0p c c' (a6b W o y) (cV y):=by
 by_cases hk:o.Kind=10
 ·rw[elR,if_pos hk]at h;obtain⟨h1,h2⟩:=hM _ _ _ _ (ho hk) hc h;refine⟨⟨fun _=>h1,fun q=>absurd hk q⟩,h2.of ?_ rfl⟩;rw[a6b,if_pos hk]
 ·obtain⟨h1,h2⟩:=f83 hc hk h;refine⟨⟨fun q=>absurd q hk,fun _=>h1⟩,h2.of ?_ rfl⟩;rw[a6b,if_neg hk]
theorem f81{o:GOp}(ho:o.Kind=10->0<=o.Target):∀(n:Nat) (c c':A3) (l:List A0),Us c->lsR M p o.Kind o.Target n c=.ok (l,c')->l.length=n/\(∀y∈l,ElO p B o.Kind o.Target y)/\c0p c c' (c7v (l.map (a6b W o))) (a9h cV l)
 |0,c,c',l,hc,h=>by
  cases h;exact⟨rfl,fun y hy=>(by cases hy),c0p.same hc.s hc.t0⟩
 |n+1,c,c',l,hc,h=>by
  rw[lsR]at h;obtain⟨x,c1,q1,q2⟩:=O8 h;obtain⟨m,c2,q3,q4⟩:=O8 q2;cases q4;obtain⟨h1,h2⟩:=e1j hM hc ho q1;obtain⟨h3,h4,h5⟩:=f81 ho n c1 c' m (h2.us hc) q3;exact⟨by rw[List.length_cons,h3],fun y hy=>(List.mem_cons.1 hy).elim (fun e=>by rw[e];exact h1) (h4 y),h2.trans h5⟩
def Bel(a b:A0):Prop:=W8 (SizeOf.sizeOf a) a b<0
 omit hM in
theorem e7w{a b c:A0}(ha:isS a.Kind=true)(hb:isS b.Kind=true)(h1:Bel a b)(h2:Bel b c):Bel a c:=by
  unfold Bel at*;rw[<-d4z (n:=0) _ _ ha]at h1 ⊢;rw[<-d4z (n:=0) _ _ hb]at h2;have t:Tp (W8 (0+1)):=g2q _;have s1:=t.s a b;have s2:=t.s b c;have s3:=t.s a c;have t1:=t.t a b c;have t2:=t.t c a b;have s4:=t.s b a;have s5:=t.s c b;have s6:=t.s c a;omega
theorem f8v{o:GOp}(ho:o.Kind=10->0<=o.Target)(hkey:o.Key≠10):∀(n:Nat) (a:Option A0) (c c':A3) (l:List (A0 × A0)),Us c->(∀b,a=some b->isS b.Kind=true)->prR M p o.Key o.Kind o.Target n a c=.ok (l,c')->l.length=n/\(∀x∈l,ScO p o.Key (-1) x.1/\ElO p B o.Kind o.Target x.2)/\l.Pairwise (fun x y=>W8 (SizeOf.sizeOf x.1) x.1 y.1<0)/\(∀b,a=some b->∀x∈l,Bel b x.1)/\c0p c c' (c7v (l.map (b8y W o))) (a9h cP l)
 |0,a,c,c',l,hc,ha,h=>by
  rw[prR]at h;cases h;exact⟨rfl,fun y hy=>(by cases hy),.nil,fun _ _ y hy=>(by cases hy),c0p.same hc.s hc.t0⟩
 |n+1,a,c,c',l,hc,ha,h=>by
  rw[prR]at h;obtain⟨x,c1,q1,q2⟩:=O8 h;obtain⟨h1,h2⟩:=f83 hc hkey q1;have hc1:=h2.us hc;split at q2
  rotate_left
  ·cases q2
  rename_i hu;obtain⟨y,c2,q3,q4⟩:=O8 q2;obtain⟨m,c3,q5,q6⟩:=O8 q4;cases q6
  have hx:isS x.Kind=true:=by
   have hf:=h1.fit;have hk:=h1.kind;have:=b2f x (by rw[hk];exact hf);unfold isS;simp only[Bool.and_eq_true,decide_eq_true_eq];omega
  obtain⟨h3,h4⟩:=e1j hM hc1 ho q3;obtain⟨h5,h6,h7,h8,h9⟩:=f8v ho hkey n (some x) c2 c' m (h4.us hc1) (fun b hb=>by cases hb;exact hx) q5
  have hbel:∀b,a=some b->Bel b x:=fun b hb=>by
   subst hb;show W8 (SizeOf.sizeOf b) b x<0;exact of_decide_eq_true hu
  refine⟨by rw[List.length_cons,h5],fun z hz=>?_,List.pairwise_cons.2 ⟨fun z hz=>h8 x rfl z hz,h7⟩,fun b hb z hz=>?_,?_⟩
  ·rcases List.mem_cons.1 hz with q|q
   ·subst q;exact⟨h1,h3⟩
   ·exact h6 z q
  ·rcases List.mem_cons.1 hz with q|q
   ·subst q;exact hbel b hb
   ·exact e7w (ha b hb) hx (hbel b hb) (h8 x rfl z q)
  ·refine((h2.trans h4).trans h9).of ?_ rfl;rw[List.map_cons,c7v,b8y]
theorem g4s{g:B7}(hx:OkX p)(hg:g∈p.Progs){o:GOp}(hop:o∈g.Ops)(sl:List (Int × A0)){c c':A3}(hc:Us c){z:A0}{b:Bool}(h:fdR M p g sl o c=.ok ((z,b),c')):
  (b=true->RfF p B o z/\c0p c c' (a0t W o z true) (cV z)/\(c4j g sl o=false\/o.Union= -1))/\(b=false->o.Card≠1/\c0p c c' (a0t W o V0 false) .none):=by
 have hof:=(hx.va.pro g hg).2 _ hop;have ho:o.Kind=10->0<=o.Target:=fun hk=>(hof.msg hk).1
 have hun:o.Card≠2->o.Union= -1:=fun q=>hof.union.resolve_right q
 unfold fdR at h;unfold a0t
 by_cases c1:o.Card=1
 ·rw[if_pos c1]at h;obtain⟨x,c2,q1,q2⟩:=O8 h;cases q2;obtain⟨h1,h2⟩:=e1j hM hc ho q1;refine⟨fun _=>⟨⟨fun q=>by omega,fun q=>by omega,fun _ _=>⟨h1,fun q=>by omega⟩⟩,?_,.inr (hun (by omega))⟩,fun q=>by cases q⟩;rw[if_neg (by omega),if_neg (by omega),if_pos c1];exact h2
 rw[if_neg c1]at h
 by_cases c4:o.Card=4
 ·rw[if_pos c4]at h;obtain⟨u,c2,q1,q2⟩:=O8 h;obtain⟨l,c3,q3,q4⟩:=O8 q2;cases q4;obtain⟨n,rfl,hn,h1⟩:=f8n hc q1;rw[Int.toNat_natCast]at q3;obtain⟨h2,h3,h4⟩:=f81 hM ho n c2 c' l (h1.us hc) q3;subst h2;refine⟨fun q=>?_,fun q=>?_⟩
  ·have hne:l≠[]:=fun e=>by subst e;cases q
   have hl:0<l.length:=List.length_pos_iff.2 hne;refine⟨⟨fun _=>⟨rfl,hne,hn,h3⟩,fun q=>by omega,fun q=>absurd c4 q⟩,?_,.inr (hun (by omega))⟩;rw[if_pos c4];refine(h1.trans h4).of rfl ?_;rw[c5n,d5w,if_pos hl];simp only[P8.add,a9h,P8.none,P8.mk.injEq];refine⟨?_,?_,?_⟩
   ·rw[if_neg (show ¬(11:Int)=10 by decide)];omega
   ·simp;omega
   ·have:(⟨#[]⟩:ByteArray).size=0:=rfl;omega
  ·have hl:l=[]:=by cases l with
    |nil=>rfl
    |cons a l=>cases q
   subst hl;refine⟨c1,?_⟩;rw[if_pos c4];exact(h1.trans h4).of rfl rfl
 rw[if_neg c4]at h
 by_cases c5:o.Card=5
 ·rw[if_pos c5]at h;have hkey:o.Key≠10:=by have:=hof.key.2 c5;omega
  obtain⟨u,c2,q1,q2⟩:=O8 h;obtain⟨l,c3,q3,q4⟩:=O8 q2;cases q4;obtain⟨n,rfl,hn,h1⟩:=f8n hc q1;rw[Int.toNat_natCast]at q3;obtain⟨h2,h3,h5,_,h4⟩:=f8v hM ho hkey n none c2 c' l (h1.us hc) (fun b hb=>by cases hb) q3;subst h2;refine⟨fun q=>?_,fun q=>?_⟩
  ·have hne:l≠[]:=fun e=>by subst e;cases q
   have hl:0<l.length:=List.length_pos_iff.2 hne;refine⟨⟨fun q=>absurd q c4,fun _=>⟨rfl,hne,hn,hkey,h3,h5⟩,fun _ q=>absurd c5 q⟩,?_,.inr (hun (by omega))⟩;rw[if_neg c4,if_pos c5];refine(h1.trans h4).of rfl ?_;rw[c5n,d5w,if_pos hl];simp only[P8.add,a9h,P8.none,P8.mk.injEq];refine⟨?_,?_,?_⟩
   ·rw[if_neg (show ¬(12:Int)=10 by decide)];omega
   ·simp;omega
   ·have:(⟨#[]⟩:ByteArray).size=0:=rfl;omega
  ·have hl:l=[]:=by cases l with
    |nil=>rfl
    |cons a l=>cases q
   subst hl;refine⟨c1,?_⟩;rw[if_neg c4,if_pos c5];exact(h1.trans h4).of rfl rfl
 rw[if_neg c5,myR]at h;obtain⟨u,c2,q1,q2⟩:=O8 h;obtain⟨u0,u1,h1⟩:=e1r hc.s hc.t0 q1;split at q2
 ·cases q2
 split at q2
 ·rename_i e0;cases q2;refine⟨fun q=>(by cases q),fun _=>⟨c1,?_⟩⟩;rw[if_neg c4,if_neg c5,if_neg c1,if_neg (by decide)];refine h1.of ?_ rfl;rw[e0];exact(d5x 0).symm
 split at q2
 ·cases q2
 rename_i n1 n2 n3;obtain⟨x,c3,q3,q4⟩:=O8 q2;obtain⟨h2,h3⟩:=e1j hM (h1.us hc) ho q3;split at q4
 ·cases q4
 rename_i n4;cases q4;have e1:u=1:=by omega
 refine⟨fun _=>⟨⟨fun q=>absurd q c4,fun q=>absurd q c5,fun _ _=>⟨h2,fun q=>?_⟩⟩,?_,.inl (by simpa using n3)⟩,fun q=>by cases q⟩
 ·have:¬b8j z=true:=fun w=>n4 ⟨q,w⟩
  simpa using this
 ·rw[if_neg c4,if_neg c5,if_neg c1,if_pos rfl];refine(h1.trans h3).of ?_ (P8.none_add _);rw[e1];congr 1
theorem d96{g:B7}(hx:OkX p)(hg:g∈p.Progs):∀(ops:List GOp) (sl S:List (Int × A0)) (c c':A3),(∀o∈ops,o∈g.Ops)->ops.Pairwise (fun a b=>a.Num<b.Num)->(∀a∈sl,(opV g a.1).2=true)->Us c->c7b M p g ops sl c=.ok (S,c')->
  ∃T,S=sl++T/\b5q (RfF p B) ops T/\c0p c c' (a4v W ops T) (a9h cS T)/\(sl.Pairwise (Uni g)->S.Pairwise (Uni g))
 |[],sl,S,c,c',_,_,_,hc,h=>by
  rw[c7b]at h;cases h;exact⟨[],by rw[List.append_nil],rfl,c0p.same hc.s hc.t0,fun q=>q⟩
 |o::ops,sl,S,c,c',ho,ha,hk,hc,h=>by
  obtain⟨a1,a2⟩:=List.pairwise_cons.1 ha;have hop:=ho o (by simp);have ho':∀q∈ops,q∈g.Ops:=fun q hq=>ho q (by simp[hq])
  have hov:=d4e hx hg hop;rw[c7b]at h;obtain⟨⟨z,b⟩,c1,q1,q2⟩:=O8 h;obtain⟨f1,f2⟩:=g4s hM hx hg hop sl hc q1;simp only at q2;cases b with
  |true=>
   obtain⟨g1,g2,g3⟩:=f1 rfl;rw[if_pos rfl]at q2
   obtain⟨T,e1,e2,e3,e4⟩:=d96 hx hg ops (sl++[(o.Num,z)]) S c1 c' ho' a2 (fun a hm=>by
    rcases List.mem_append.1 hm with q|q
    ·exact hk a q
    ·have:=List.mem_singleton.1 q;subst this;rw[hov]) (g2.us hc) q2
   refine⟨(o.Num,z)::T,by rw[e1];simp,⟨fun _=>⟨g1,e2⟩,fun q=>absurd rfl q⟩,?_,fun hs=>e4 (List.pairwise_append.2 ⟨hs,List.pairwise_singleton _ _,fun a hm b hb=>?_⟩)⟩
   ·refine(g2.trans e3).of ?_ rfl;show a0t W o z true++a4v W ops T=if o.Num=o.Num then a0t W o z true++a4v W ops T else _
    rw[if_pos rfl]
   ·have:=List.mem_singleton.1 hb;subst this;intro h0 he;rw[hov]at h0 he;simp only at h0 he;rcases g3 with g3|g3
    ·rw[c4j,List.any_eq_false]at g3;refine g3 a hm ?_;simp only[Bool.and_eq_true,decide_eq_true_eq];exact⟨hk a hm,h0,he⟩
    ·omega
  |false=>
   obtain⟨g1,g2⟩:=f2 rfl;rw[if_neg (by decide)]at q2;obtain⟨T,e1,e2,e3,e4⟩:=d96 hx hg ops sl S c1 c' ho' a2 hk (g2.us hc) q2;have hsub:=d08 e2;refine⟨T,e1,?_,?_,e4⟩
   ·cases T with
    |nil=>exact⟨g1,e2⟩
    |cons s T=>
     obtain⟨q,hq,hn⟩:=hsub s (by simp);have:=a1 q hq;exact⟨fun he=>by omega,fun _=>⟨g1,e2⟩⟩
   ·refine(g2.trans e3).of ?_ (P8.none_add _);cases T with
    |nil=>rfl
    |cons s T=>
     obtain⟨q,hq,hn⟩:=hsub s (by simp);have:=a1 q hq;simp only[a4v];rw[if_neg (by omega)]
end
theorem f7j{p:A6}(hx:OkX p):∀(n:Nat) (t:Int) (y:A0) (c c':A3),0<=t->Us c->msR p n t c=.ok (y,c')->RfV p n t y/\c0p c c' (O7 p n t y) (cV y)
 |0,t,y,c,c',_,_,h=>by cases h
 |n+1,t,y,c,c',ht,hc,h=>by
  rw[msR]at h;split at h
  ·cases h
  rename_i hd;obtain⟨_,c1,q1,q2⟩:=O8 h;have h1:=f0i hc q1;have hc1:=h1.us hc;split at q2
  ·cases q2
  rename_i g hgt;have hg:g∈p.Progs:=List.mem_of_getElem? hgt;obtain⟨S,c2,q3,q4⟩:=O8 q2;cases q4;have e1:=h1.eq;have hd1:c1.Depth=c.Depth:=by rw[e1];rfl
  have hl:Us (a3m c1 1):=⟨c4b hc1.s (by omega),hc1.t0,hc1.t4⟩;obtain⟨T,r1,r2,r3,r4⟩:=d96 (W:=O7 p n) (B:=RfV p n) (fun t y c c' h0 h1 h2=>f7j hx n t y c c' h0 h1 h2) hx hg g.Ops [] S (a3m c1 1) c2 (fun o h=>h) (b99 (hx.va.asc g hg)) (fun a ha=>by cases ha) hl q3;rw[List.nil_append]at r1;subst r1;refine⟨⟨g,hgt,ht,rfl,r2,r4 .nil⟩,?_⟩;have eb:O7 p (n+1) t ⟨10,0,⟨#[]⟩,[],[],S,[]⟩=a4v (O7 p n) g.Ops S:=by simp only[O7,hgt]
  have ec:cV ⟨10,0,⟨#[]⟩,[],[],S,[]⟩=⟨(a9h cS S).d+1,(a9h cS S).n+1,(a9h cS S).l⟩:=by
   rw[c5n];have:(⟨#[]⟩:ByteArray).size=0:=rfl;simp[d5w,a9h,P8.none,P8.add,this]
  rw[eb,ec];have er:G0 (a3m c1 1)=G0 c:=by rw[e1];simp only[G0,a3m,adv,show((⟨#[]⟩:ByteArray).size)=0 from rfl,Int.natCast_zero,Int.add_zero]
  have k1:=r3.rest;have k2:=r3.eq;have k3:=r3.d;have k4:=r3.n;have k5:=r3.l;rw[er]at k1;have en:c1.Nodes=c.Nodes - 1:=by rw[e1];rfl
  have et:c1.Text=c.Text:=by rw[e1];rfl
  simp only[a3m]at k3 k4 k5;refine⟨?_,?_,by simp only;omega,by simp only;omega,by simp only;omega⟩
  ·rw[k1];simp only[G0,a3m]
  ·rw[k2,e1];simp only[a3m,adv,show((⟨#[]⟩:ByteArray).size)=0 from rfl,A3.mk.injEq,true_and,and_true];omega
theorem f4y(n:Nat)(a:A0):W8 n a a=0:=by
 have h:=(g2q n).s a a;omega
theorem d8l{a:A0}(h:OkD a):b5y a a true:=d1p _ _ _ ⟨_,d6y a a h h,by rw[f4y];rfl⟩
section
variable {p:A6}(hp:OkX p) {name:ByteArray}{v x:A0}(hv:OkD v) (h:Enc p name v x)
 include hp hv h
theorem Enc.ok:OkD x:=by
 rw[h.eq];exact c3s hp _ _ v hv
end
theorem d5c(π:P8->Nat)(ha:∀a b:P8,π a<=π (a.add b)/\π b<=π (a.add b)){α:Type}(G:α->P8):∀(l:List α),∀x∈l,π (G x)<=π (a9h G l)
 |[],x,h=>by cases h
 |y::l,x,h=>by
  have h1:=ha (G y) (a9h G l);rcases List.mem_cons.1 h with q|q
  ·subst q;exact h1.1
  ·exact Nat.le_trans (d5c π ha G l x q) h1.2
theorem d71{R:GOp->A0->Prop}:∀{ops:List GOp}{S:List (Int × A0)},b5q R ops S->∀s∈S,∃o∈ops,o.Num=s.1/\R o s.2
 |[],S,h,s,hs=>by have e:S=[]:=h;rw[e]at hs;cases hs
 |o::ops,[],_,s,hs=>by cases hs
 |o::ops,x::S,h,s,hs=>by
  by_cases he:x.1=o.Num
  ·obtain⟨h1,h2⟩:=h.1 he;rcases List.mem_cons.1 hs with q|q
   ·subst q;exact⟨o,by simp,he.symm,h1⟩
   ·obtain⟨o',a,b⟩:=d71 h2 s q;exact⟨o',by simp[a],b⟩
  ·obtain⟨o',a,b⟩:=d71 (h.2 he).2 s hs;exact⟨o',by simp[a],b⟩
theorem c9k{R:GOp->A0->Prop}:∀{ops:List GOp}{S:List (Int × A0)},b5q R ops S->∀o∈ops,o.Card=1->∃s∈S,s.1=o.Num
 |[],S,h,o,ho,_=>by cases ho
 |q::ops,[],h,o,ho,hc=>by
  rcases List.mem_cons.1 ho with e|e
  ·subst e;exact absurd hc h.1
  ·exact c9k h.2 o e hc
 |q::ops,x::S,h,o,ho,hc=>by
  by_cases he:x.1=q.Num
  ·rcases List.mem_cons.1 ho with e|e
   ·subst e;exact⟨x,by simp,he⟩
   ·obtain⟨s,a,b⟩:=c9k (h.1 he).2 o e hc;exact⟨s,by simp[a],b⟩
  ·rcases List.mem_cons.1 ho with e|e
   ·subst e;exact absurd hc (h.2 he).1
   ·exact c9k (h.2 he).2 o e hc
theorem d91{R:GOp->A0->Prop}:∀{ops:List GOp}{S:List (Int × A0)},b5q R ops S->S.length<=ops.length
 |[],S,h=>by have e:S=[]:=h;rw[e];simp
 |o::ops,[],_=>by simp
 |o::ops,x::S,h=>by
  by_cases he:x.1=o.Num
  ·have:=d91 (h.1 he).2;simp;omega
  ·have:=d91 (h.2 he).2;simp only[List.length_cons]at this ⊢;omega
theorem d7v{W W':c5o}{o:GOp}(h1:o.Card≠1):a0t W o V0 false=a0t W' o V0 false:=by
 unfold a0t;split
 ·rfl
 split
 ·rfl
 simp[h1]
theorem b95{R:GOp->A0->Prop}{W W':c5o}:∀{ops:List GOp}{S:List (Int × A0)},b5q R ops S->(∀o z,R o z->a0t W o z true=a0t W' o z true)->a4v W ops S=a4v W' ops S
 |[],_,_,_=>rfl
 |o::ops,[],h,hf=>by
  simp only[a4v];rw[b95 h.2 hf,d7v h.1]
 |o::ops,x::S,h,hf=>by
  simp only[a4v];split
  ·rename_i he;obtain⟨h1,h2⟩:=h.1 he;rw[b95 h2 hf,hf o x.2 h1]
  ·rename_i he;obtain⟨h1,h2⟩:=h.2 he;rw[b95 h2 hf,d7v h1]
theorem c3q{f:Nat->Int}{n:Nat}(h:∀k,k<n->f k=0):∀i,b1x f i n=0:=by
 have key:∀d i,n - i<=d->b1x f i n=0:=by
  intro d
  induction d with
  |zero=>intro i hd;rw[f1f,if_neg (by omega)]
  |succ d ih=>
   intro i hd;rw[f1f]
   by_cases hi:i<n
   ·rw[if_pos hi,if_neg (by rw[h i hi];simp)];exact ih (i+1) (by omega)
   ·rw[if_neg hi]
 exact fun i=>key _ i (Nat.le_refl _)
theorem f8z{p:A6}{k t:Int}{y:A0}(h:ScO p k t y)(hs:y.Text.size<=4096):c49 p k t y=0:=by
 obtain⟨l1,l2,l3,l4⟩:=h.lone;have hk:=h.kind;have hf:=h.fit;obtain⟨k1,k2,k3,k4⟩:=b2f y (by rw[hk];exact hf);rw[hk]at k1 k2 k3 k4
 have tx:¬(k=7\/k=8)->y.Text=⟨#[]⟩:=fun q=>by
  unfold a2k at hf;rw[if_neg q]at hf;simp only[Bool.and_eq_true,decide_eq_true_eq]at hf;exact hf.2.1
 have ho:Z3 y=false:=by
  unfold Z3;rw[l1,l2,l3,l4,hk]
  by_cases q:k=7\/k=8
  ·rw[(k3 q).1];rcases q with rfl|rfl<;>simp
  ·rw[tx q];have a1:(k==7)=false:=by simp;omega
   have a2:(k==8)=false:=by simp;omega
   have a3:(k==10)=false:=by simp;omega
   have a4:(k==11)=false:=by simp;omega
   have a5:(k==12)=false:=by simp;omega
   simp[a1,a2,a3,a4,a5]
 have c1:((y.Kind !=k)||Z3 y)=false:=by rw[ho,hk];simp
 have c3:((k==7)&& !a7e y.Text)=false:=by
  by_cases q:k=7
  ·rw[(k3 (.inl q)).2.2 q];simp
  ·simp[q]
 have c5:((k==9)&& !d2n p t y.Bits)=false:=by
  by_cases q:k=9
  ·rw[h.acc q];simp
  ·simp[q]
 rw[c49,if_neg (by rw[c1];simp),if_neg (by omega),if_neg (by rw[c3];simp),if_neg (by rw[hf];simp),if_neg (by rw[c5];simp)]
theorem c90{α:Type}{c:α->α->Int}(h:Tp c):∀{l:List α},l.Pairwise (fun a b=>c a b<0)->S3 c l=l
 |[],_=>rfl
 |x::l,hl=>by
  obtain⟨h1,h2⟩:=List.pairwise_cons.1 hl;rw[S3,c90 h h2,if_pos,d35 fun w hw=>?_]
  ·have a:=h1 w hw;have b:=h.s x w;omega
  ·rw[lone,List.all_eq_true];intro y hy;have:=h1 y hy;simp;omega
theorem f0v{α:Type}{f:α->List α}:∀{l:List α},(∀x∈l,f x=[x])->l.flatMap f=l
 |[],_=>rfl
 |x::l,h=>by rw[List.flatMap_cons,h x (by simp),f0v fun y hy=>h y (by simp[hy])];rfl
theorem d9r{α:Type}{f:α->α}:∀{l:List α},(∀x∈l,f x=x)->l.map f=l
 |[],_=>rfl
 |x::l,h=>by rw[List.map_cons,h x (by simp),d9r fun y hy=>h y (by simp[hy])]
theorem d95{α β:Type}{f g:α->β}:∀{l:List α},(∀x∈l,f x=g x)->l.map f=l.map g
 |[],_=>rfl
 |x::l,h=>by rw[List.map_cons,List.map_cons,h x (by simp),d95 fun y hy=>h y (by simp[hy])]
theorem Lim.mem{α:Type}{e:Int}{f:α->P8}:∀{l:List α},Lim e (a9h f l)->∀x∈l,Lim e (f x)
 |[],_,x,hx=>by cases hx
 |y::l,h,x,hx=>by
  simp only[Lim,a9h,P8.add]at h;rcases List.mem_cons.1 hx with q|q
  ·subst q;exact⟨by omega,by omega⟩
  ·exact Lim.mem (l:=l) ⟨by omega,by omega⟩ x q
theorem Lim.pair{e:Int}{a b:P8}(h:Lim e (a.add b)):Lim e a/\Lim e b:=by
 simp only[Lim,P8.add]at h ⊢;omega
theorem Lim.untop{e:Int}{v:A0}(hk:v.Kind≠10){k:P8}(h:Lim e (d5w v k)):Lim e k:=by
 simp only[Lim,d5w,if_neg hk]at h ⊢;omega
theorem ScO.ok{p:A6}{k t:Int}{y:A0}(h:ScO p k t y)(hs:y.Text.size<=4096):OkD y/\wtV y+1<=4200*nV y/\∀N,Y8 N y=false:=by
 obtain⟨l1,l2,l3,l4⟩:=h.lone;have hk:=h.kind;have hf:=h.fit;obtain⟨k1,k2,_,_⟩:=b2f y (by rw[hk];exact hf);have hb:=h.b;have hw:=b6l y;have hn:=f0x y;rw[l1,l2,l3,l4]at hw hn;simp only[a3a,List.length_nil]at hw hn;refine⟨?_,by omega,fun N=>?_⟩
 ·obtain⟨K,B,T,L,P,S,R⟩:=y;simp only at l1 l2 l3 l4 k1 k2 hb hs ⊢;subst l1 l2 l3 l4;have z:Sz 0:=Nat.zero_le _;exact .mk _ (show I64 K from⟨by omega,by omega⟩) (show U64 B from hb) (show T.size<=140737488351232 by omega) z z z z (fun x hx=>by cases hx) (fun x hx=>by cases hx) (fun x hx=>by cases hx) (fun x hx=>by cases hx) (fun x hx=>by cases hx) (fun x hx=>by cases hx) ⟨z,z,z,z⟩
 ·cases N with
  |zero=>rfl
  |succ N=>simp[Y8,l1,l2,l3,l4]
section
variable {p:A6}(hx:OkX p)
 include hx
theorem g23:∀(n:Nat) (t:Int) (x:A0),RfV p n t x->(cV x).l<=4096->OkD x/\wtV x+1<=4200*nV x/\∀N,Y8 N x=false
 |0,_,_,h,_=>h.elim
 |n+1,t,x,⟨g,hgt,ht,ex,hm,hu⟩,hl=>by
  have hg:g∈p.Progs:=List.mem_of_getElem? hgt;have z:Sz 0:=Nat.zero_le _;have L0:Lim 17 (⟨0,0,(cV x).l⟩:P8):=⟨by simp,hl⟩
  have hcl:(cV x).l=(a9h cS x.Slots).l:=by
   rw[ex,c5n];have:(⟨#[]⟩:ByteArray).size=0:=rfl;simp[d5w,a9h,P8.none,P8.add,this]
  have smem:=fun(s:Int × A0) (hs:s∈x.Slots)=>d5c (fun c=>c.l) (fun a b=>by simp only[P8.add];omega) cS x.Slots s hs
  have elem:∀(o:GOp) (y:A0),ElO p (RfV p n) o.Kind o.Target y->(cV y).l<=4096->OkD y/\wtV y+1<=4200*nV y/\∀N,Y8 N y=false:=fun o y h hly=>by
   by_cases hk:o.Kind=10
   ·exact g23 n o.Target y (h.1 hk) hly
   ·have hs:=h.2 hk;rw[hs.cost]at hly;exact hs.ok hly
  have field:∀s∈x.Slots,OkD s.2/\wtV s.2+1<=4200*nV s.2/\∀N,Y8 N s.2=false:=fun s hs=>by
   obtain⟨o,ho,he,h4,h5,h6⟩:=d71 hm s hs;have hls:(cV s.2).l<=4096:=by have:=smem s hs;simp only[cS]at this;omega
   obtain⟨num,v⟩:=s;simp only at h4 h5 h6 hls ⊢;have e:=c5n v
   by_cases c4:o.Card=4
   ·obtain⟨ez,hne,hlen,hel⟩:=h4 c4;generalize v.List_=l at*;subst ez
    have hi:∀y∈l,(cV y).l<=4096:=fun y hy=>by
     have:=d5c (fun c=>c.l) (fun a b=>by simp only[P8.add];omega) cV l y hy;rw[e]at hls;simp only[d5w,P8.add]at hls;omega
    have H:=fun y hy=>elem o y (hel y hy) (hi y hy)
    have w:=b6l ⟨11,0,⟨#[]⟩,l,[],[],[]⟩;have nn:=f0x ⟨11,0,⟨#[]⟩,l,[],[],[]⟩;have hs:=b81 (l:=l) (f:=wtV) (g:=fun y=>4200*nV y) fun y hy=>by have:=(H y hy).2.1;omega
    rw[c0b]at hs;have e0:(⟨#[]⟩:ByteArray).size=0:=rfl;simp only[a3a,e0,List.length_nil]at w nn;refine⟨.mk _ (show I64 11 from⟨by decide,by decide⟩) (show U64 0 from⟨by decide,by decide⟩) z (show l.length<=140737488351232 by omega) z z z (fun y hy=>(H y hy).1) (fun x hx=>by cases hx) (fun x hx=>by cases hx) (fun x hx=>by cases hx) (fun x hx=>by cases hx) (fun x hx=>by cases hx) ⟨show l.length*128<=140737488351232 by omega,z,z,z⟩,by omega,fun N=>?_⟩;cases N with
    |zero=>rfl
    |succ N=>
     have:l.any (Y8 N)=false:=List.any_eq_false.2 fun y hy=>by rw[(H y hy).2.2 N];simp
     simp[Y8,this]
   by_cases c5:o.Card=5
   ·obtain⟨ez,hne,hlen,hk,hel,hup⟩:=h5 c5;generalize v.Pairs=l at*;subst ez
    have hi:∀y∈l,(cV y.1).l<=4096/\(cV y.2).l<=4096:=fun y hy=>by
     have:=d5c (fun c=>c.l) (fun a b=>by simp only[P8.add];omega) cP l y hy;rw[e]at hls;simp only[d5w,P8.add,cP]at hls this;omega
    have H:=fun y hy=>elem o y.2 (hel y hy).2 (hi y hy).2
    have K:=fun(y:A0 × A0) (hy:y∈l)=>(hel y hy).1.ok (by have:=(hi y hy).1;rw[(hel y hy).1.cost]at this;exact this)
    have w:=b6l ⟨12,0,⟨#[]⟩,[],l,[],[]⟩;have nn:=f0x ⟨12,0,⟨#[]⟩,[],l,[],[]⟩
    have hs:=b81 (l:=l) (f:=wtP) (g:=fun y=>4200*nP y) fun y hy=>by
     have a:=(H y hy).2.1;have b:=(K y hy).2.1;simp only[wtP,nP];omega
    rw[c0b]at hs;have e0:(⟨#[]⟩:ByteArray).size=0:=rfl;simp only[a3a,e0,List.length_nil]at w nn;refine⟨.mk _ (show I64 12 from⟨by decide,by decide⟩) (show U64 0 from⟨by decide,by decide⟩) z z (show l.length<=140737488351232 by omega) z z (fun x hx=>by cases hx) (fun y hy=>(K y hy).1) (fun y hy=>(H y hy).1) (fun x hx=>by cases hx) (fun x hx=>by cases hx) (fun x hx=>by cases hx) ⟨z,show l.length*256<=140737488351232 by omega,z,z⟩,by omega,fun N=>?_⟩;cases N with
    |zero=>rfl
    |succ N=>
     have:l.any (fun y=>Y8 N y.2)=false:=List.any_eq_false.2 fun y hy=>by rw[(H y hy).2.2 N];simp
     simp[Y8,this]
   ·exact elem o v (h6 c4 c5).1 hls
  have hlen:=d91 hm;have hfew:=e0h hx hg;have w:=b6l x;have nn:=f0x x
  have hs:=b81 (l:=x.Slots) (f:=wtS) (g:=fun s=>4200*nS s) fun s hs=>by
   have a:=(field s hs).2.1;simp only[wtS,nS];omega
  rw[c0b]at hs;have e0:(⟨#[]⟩:ByteArray).size=0:=rfl;generalize x.Slots=S at*;subst ex;simp only[a3a,e0,List.length_nil]at w nn;refine⟨.mk _ (show I64 10 from⟨by decide,by decide⟩) (show U64 0 from⟨by decide,by decide⟩) z z z (show S.length<=140737488351232 by omega) z (fun x hx=>by cases hx) (fun x hx=>by cases hx) (fun x hx=>by cases hx) (fun s hs=>?_) (fun s hs=>(field s hs).1) (fun x hx=>by cases hx) ⟨z,z,show S.length*136<=140737488351232 by omega,z⟩,by omega,fun N=>?_⟩
  ·obtain⟨o,ho,he,_⟩:=d71 hm s hs;have:=hx.va.num g hg o ho;rw[<-he];exact⟨by have:=this.1;omega,by have:=this.2;omega⟩
  ·cases N with
   |zero=>rfl
   |succ N=>
    have:S.any (fun s=>Y8 N s.2)=false:=List.any_eq_false.2 fun s hs=>by rw[(field s hs).2.2 N];simp
    simp[Y8,this]
theorem f2k:∀(n:Nat) (t:Int) (x:A0) (lev:Int),RfV p n t x->Lim lev (cV x)->∀N,SizeOf.sizeOf x<=N->a9c p N t x lev=0/\U4 p N t x=x/\O7 p N t x=O7 p n t x
 |0,_,_,_,h,_,_,_=>h.elim
 |n+1,t,x,lev,⟨g,hgt,ht,ex,hm,hu⟩,hL,0,hN=>by have:=szV x;omega
 |n+1,t,x,lev,⟨g,hgt,ht,ex,hm,hu⟩,hL,N+1,hN=>by
  have hg:g∈p.Progs:=List.mem_of_getElem? hgt;have hasc:=b99 (hx.va.asc g hg);have e0:(⟨#[]⟩:ByteArray).size=0:=rfl
  have ec:cV x=⟨(a9h cS x.Slots).d+1,(a9h cS x.Slots).n+1,(a9h cS x.Slots).l⟩:=by
   rw[ex,c5n];simp[d5w,a9h,P8.none,P8.add,e0]
  have hL1:Lim (lev+1) (a9h cS x.Slots):=by
   rw[ec]at hL;simp only[Lim]at hL ⊢;omega
  have hlev:lev<=16:=by rw[ec]at hL;simp only[Lim]at hL;omega
  have elem:∀(o:GOp) (y:A0),ElO p (RfV p n) o.Kind o.Target y->Lim (lev+1) (cV y)->SizeOf.sizeOf y<=N->b3u (a9c p N) p o y lev=0/\b0y (U4 p N) o y=y/\a6b (O7 p N) o y=a6b (O7 p n) o y:=fun o y h hl hs=>by
   by_cases hk:o.Kind=10
   ·obtain⟨a,b,c⟩:=f2k n o.Target y (lev+1) (h.1 hk) hl N hs;refine⟨by rw[b3u,if_pos hk];exact a,by rw[b0y,if_pos hk];exact b,?_⟩;rw[a6b,if_pos hk,a6b,if_pos hk];exact c
   ·have hs2:=h.2 hk;have hl2:=hl.2;rw[hs2.cost]at hl2;refine⟨by rw[b3u,if_neg hk];exact f8z hs2 hl2,by rw[b0y,if_neg hk];exact hs2.nrm,?_⟩;rw[a6b,if_neg hk,a6b,if_neg hk]
  -- a field
  have field:∀s∈x.Slots,∃o,opV g s.1=(o,true)/\o∈g.Ops/\a1s (a9c p N) p o s.2 lev=0/\a8t (U4 p N) o s.2=s.2/\(!e5g o|| !a9x s.2)=true/\a0t (O7 p N) o s.2 true=a0t (O7 p n) o s.2 true:=fun s hs=>by
   obtain⟨o,ho,he,h4,h5,h6⟩:=d71 hm s hs;have hof:=(hx.va.pro g hg).2 _ ho;have hl:=hL1.mem s hs;have hsz:=szS hs;have hov:=d4e hx hg ho;rw[he]at hov;refine⟨o,hov,ho,?_⟩;obtain⟨num,v⟩:=s;simp only[cS]at h4 h5 h6 hl hsz ⊢;have e:=c5n v
   by_cases c4:o.Card=4
   ·obtain⟨ez,hne,hlen,hel⟩:=h4 c4
    have hi:∀y∈v.List_,Lim (lev+1) (cV y):=fun y hy=>by
     rw[e]at hl;exact((hl.untop (by rw[ez];exact show(11:Int)≠10 by decide)).pair).1.mem y hy
    have H:=fun y hy=>elem o y (hel y hy) (hi y hy) (by have:=szL hy;omega)
    have k1:v.Kind=11:=by rw[ez]
    have k2:Z3 v=false:=by rw[ez];simp[Z3]
    refine⟨?_,?_,?_,?_⟩
    ·rw[a1s,if_pos c4,if_neg (by rw[k1,k2];simp)];refine c3q (fun k hk=>?_) 0;simp only[d6h,List.getElem?_eq_getElem hk];exact(H _ (List.getElem_mem hk)).1
    ·rw[a8t,if_pos c4,d9r fun y hy=>(H y hy).2.1];exact ez.symm
    ·have:a9x v=false:=by
      unfold a9x;rw[if_pos k1];cases hv:v.List_ with
      |nil=>exact absurd hv hne
      |cons a l=>rfl
     rw[this];simp
    ·rw[a0t,if_pos c4,a0t,if_pos c4,d95 fun y hy=>(H y hy).2.2]
   by_cases c5:o.Card=5
   ·obtain⟨ez,hne,hlen,hkey,hel,hup⟩:=h5 c5
    have hi:∀y∈v.Pairs,Lim (lev+1) (cV y.1)/\Lim (lev+1) (cV y.2):=fun y hy=>by
     rw[e]at hl;exact((((hl.untop (by rw[ez];exact show(12:Int)≠10 by decide)).pair).2.pair).1.mem y hy).pair
    have H:=fun y hy=>elem o y.2 (hel y hy).2 (hi y hy).2 (by have:=szP hy;omega)
    have K:=fun(y:A0 × A0) (hy:y∈v.Pairs)=>f8z (hel y hy).1 (by have:=(hi y hy).1.2;rw[(hel y hy).1.cost]at this;exact this)
    have k1:v.Kind=12:=by rw[ez]
    have k2:Z3 v=false:=by rw[ez];simp[Z3]
    have hst:v.Pairs.Pairwise fun a b=>kc (SizeOf.sizeOf v.Pairs) a b<0:=by
     refine hup.imp_of_mem fun {a b} ha hb hab=>?_
     have h1:=(hel a ha).1
     have hs:isS a.1.Kind=true:=by
      have:=b2f a.1 (by rw[h1.kind];exact h1.fit);unfold isS;simp only[Bool.and_eq_true,decide_eq_true_eq];omega
     obtain⟨m,hm⟩:∃m,SizeOf.sizeOf v.Pairs=m+1:=⟨SizeOf.sizeOf v.Pairs - 1,by cases v.Pairs<;>simp<;>omega⟩
     rw[hm,kc,d4z (n:=m) _ _ hs];exact hab
    refine⟨?_,?_,?_,?_⟩
    ·rw[a1s,if_neg c4,if_pos c5,if_neg (by rw[k1,k2];simp)];refine c3q (fun k hk=>?_) 0;have hmem:=List.getElem_mem hk
     have hkB:d9o v.Pairs[k] (v.Pairs.take k)=false:=by
      rw[d9o,List.any_eq_false];intro q hq;obtain⟨i,hi2,rfl⟩:=List.mem_take_iff_getElem.1 hq;have:=List.pairwise_iff_getElem.1 hup i k (by omega) hk (by omega);simp;omega
     simp only[b52,List.getElem?_eq_getElem hk];rw[orE,if_neg (by rw[K _ hmem];simp),if_neg (by rw[hkB];simp)];exact(H _ hmem).1
    ·rw[a8t,if_neg c4,if_pos c5,b58,c90 (b3l (g2q _) fun x:A0 × A0=>x.1) hst,d9r fun y hy=>by rw[(hel y hy).1.nrm,(H y hy).2.1]];exact ez.symm
    ·have:a9x v=false:=by
      unfold a9x;rw[if_neg (by omega),if_pos k1];cases hv:v.Pairs with
      |nil=>exact absurd hv hne
      |cons a l=>rfl
     rw[this];simp
    ·rw[a0t,if_neg c4,if_pos c5,a0t,if_neg c4,if_pos c5,d95 (g:=b8y (O7 p n) o) fun y hy=>by simp only[b8y,(H y hy).2.2]]
   obtain⟨h1,h2⟩:=h6 c4 c5;obtain⟨a,b,c⟩:=elem o v h1 hl (by omega);refine⟨by rw[a1s,if_neg c4,if_neg c5];exact a,by rw[a8t,if_neg c4,if_neg c5];exact b,?_,?_⟩
   ·by_cases c3:o.Card=3
    ·have hk:o.Kind≠10:=fun q=>(hof.msg q).2.2 c3
     have hkk:=(h1.2 hk).kind;have:=hof.kind
     have:a9x v=false:=by
      unfold a9x;rw[if_neg (by omega),if_neg (by omega)];exact h2 c3
     rw[this];simp
    ·have:e5g o=false:=by unfold e5g;simp[c3,c4,c5]
     rw[this];rfl
   ·rw[a0t,if_neg c4,if_neg c5,a0t,if_neg c4,if_neg c5,c]
  have hup:x.Slots.Pairwise fun a b=>kn a b<0:=(d5s hasc hm).imp fun {a b} h=>by
   rcases Q0 a.1 b.1 with q|q|q
   ·have:kn a b=a4i a.1 b.1:=rfl;omega
   ·omega
   ·omega
  refine⟨?_,?_,?_⟩
  ·simp only[a9c,hgt];have k1:x.Kind=10:=by rw[ex]
   have k2:Z3 x=false:=by rw[ex];simp[Z3]
   have k3:x.Raws=[]:=by rw[ex]
   rw[e2s,if_neg (by rw[k1,k2];simp),if_neg (by omega),k3]
   have s1:b1x (c1n (a9c p N) p g x.Slots lev) 0 x.Slots.length=0:=by
    refine c3q (fun k hk=>?_) 0;have hmem:=List.getElem_mem hk;obtain⟨o,q1,q2,q3,_⟩:=field _ hmem;simp only[c1n,List.getElem?_eq_getElem hk,q1]
    have n1:((x.Slots.take k).any fun y=>y.1==x.Slots[k].1)=false:=by
     rw[List.any_eq_false];intro y hy;obtain⟨i,hi2,rfl⟩:=List.mem_take_iff_getElem.1 hy;have:=List.pairwise_iff_getElem.1 (d5s hasc hm) i k (by omega) hk (by omega);simp;omega
    have n2:((x.Slots.take k).any fun y=>(o.Union !=(-1))&&((opV g y.1).1.Union==o.Union))=false:=by
     rw[List.any_eq_false];intro y hy;obtain⟨i,hi2,rfl⟩:=List.mem_take_iff_getElem.1 hy;have hu2:=List.pairwise_iff_getElem.1 hu i k (by omega) hk (by omega);unfold Uni at hu2;rw[q1]at hu2;simp only at hu2;have:=(hx.va.pro g hg).1 _ q2;unfold e2y at this;simp only[Bool.and_eq_true,bne_iff_ne,ne_eq,beq_iff_eq];rintro⟨w1,w2⟩;exact hu2 (by omega) w2
    rw[if_neg (by decide),if_neg (by rw[n1];simp),if_neg (by rw[n2];simp)];exact q3
   have s2:b1x (c0w g x) 0 g.Ops.length=0:=by
    refine c3q (fun k hk=>?_) 0;simp only[c0w,List.getElem?_eq_getElem hk];rw[if_neg];rintro⟨w1,w2⟩;obtain⟨s,a,b⟩:=c9k hm _ (List.getElem_mem hk) w1;rw[List.any_eq_false]at w2;exact w2 s a (by simpa using b)
   rw[orE,if_neg (by rw[s1];simp),orE,if_neg (by rw[s2];simp)];exact c3q (fun k hk=>by simp at hk) 0
  ·have e:U4 p (N+1) t x=c25 (U4 p N) g x:=by simp only[U4,hgt]
   have k3:x.Raws=[]:=by rw[ex]
   rw[e,c25,c90 e8z hup,f0v fun s hs=>?_,k3]
   ·exact ex.symm
   ·obtain⟨o,q1,_,_,q4,q5,_⟩:=field s hs;rw[q1];simp only[a98];rw[q4,if_pos q5]
  ·simp only[O7,hgt]
   have hm2:b5q (fun o z=>∃s∈x.Slots,s.1=o.Num/\s.2=z/\o∈g.Ops) g.Ops x.Slots:=by
    have key:∀(ops:List GOp) (S:List (Int × A0)),(∀o∈ops,o∈g.Ops)->(∀s∈S,s∈x.Slots)->b5q (RfF p (RfV p n)) ops S->b5q (fun o z=>∃s∈x.Slots,s.1=o.Num/\s.2=z/\o∈g.Ops) ops S:=by
     intro ops
     induction ops with
     |nil=>intro S _ _ h;exact h
     |cons o ops ih=>
      intro S ho hS h;cases S with
      |nil=>exact⟨h.1,ih [] (fun q hq=>ho q (by simp[hq])) hS h.2⟩
      |cons s S=>exact⟨fun he=>⟨⟨s,hS s (by simp),he,rfl,ho o (by simp)⟩,ih S (fun q hq=>ho q (by simp[hq])) (fun q hq=>hS q (by simp[hq])) (h.1 he).2⟩,fun he=>⟨(h.2 he).1,ih (s::S) (fun q hq=>ho q (by simp[hq])) hS (h.2 he).2⟩⟩
    exact key g.Ops x.Slots (fun o h=>h) (fun s h=>h) hm
   refine b95 hm2 fun o z ⟨s,hs,h1,h2,h3⟩=>?_
   obtain⟨o',q1,_,_,_,_,q6⟩:=field s hs;have:=d4e hx hg h3;rw[<-h1,q1]at this;have eo:o'=o:=congrArg Prod.fst this;rw[<-h2,<-eo];exact q6
end
theorem g2t{p:A6}(hx:OkX p){name data:ByteArray}(hz:data.size<=3000){x:A0}(h:e3c p name data ⟨65536,16,4096,4096⟩=(x,0)):e5y p name x=(data,0)/\b8n p (SizeOf.sizeOf x) (Z1 p name).1 x=0/\U4 p (SizeOf.sizeOf x) (Z1 p name).1 x=x/\OkD x/\wtV x<=134217728/\NoX x/\a9c p (SizeOf.sizeOf x) (Z1 p name).1 x 1=0/\∃g,p.Progs[(Z1 p name).1.toNat]? =some g/\0<=(Z1 p name).1:=by
 by_cases hf:(Z1 p name).2=true
 rotate_left
 ·have hf':(Z1 p name).2=false:=by simpa using hf
  rw[e3c,if_pos hf']at h;cases h
 obtain⟨t0,g,hgt⟩:=d9f p name hf;rw[e1o hf (by simp) (by simp only;omega)]at h;have hc:Us ⟨data,0,data.size,16,4096,4096⟩:=⟨⟨by simp only;omega,by simp,by simp,by simp,by simp,by simp,by simp,by simp⟩,by simp,by simp⟩;simp only at h;split at h
 ·rename_i e he;have h2:e=0:=congrArg Prod.snd h;have:=e3u hx (16:Int).toNat _ g _ hgt t0 hc.s;rw[he]at this;exact absurd h2 this
 rename_i y he;split at h
 ·cases h
 rename_i hl;obtain rfl:y.1=x:=congrArg Prod.fst h;obtain⟨r1,r2⟩:=f7j hx _ _ _ _ _ t0 hc he;obtain⟨s1,_,_⟩:=r2.snd hc.s
 have hrest:G0 y.2=⟨#[]⟩:=by
  refine g2l ?_;have:=s1.size;rw[s1.left]at hl;omega
 have hd:=r2.d;have hn:=r2.n;have ht:=r2.l;simp only at hd hn ht;have hr:=r2.rest;rw[hrest,b9c,d0u]at hr;have hL:Lim 1 (cV y.1):=⟨by omega,by omega⟩;obtain⟨o1,o2,o3⟩:=g23 hx _ _ _ r1 hL.2;obtain⟨m1,m2,m3⟩:=f2k hx _ _ _ 1 r1 hL (SizeOf.sizeOf y.1) (Nat.le_refl _);have hN:nV y.1<=4096:=by show(cV y.1).n<=4096;omega
 have hw:wtV y.1<=134217728:=by omega
 have hcnt:=d4c (SizeOf.sizeOf y.1) y.1 (Nat.le_refl _)
 have hfit:b8n p (SizeOf.sizeOf y.1) (Z1 p name).1 y.1=0:=by
  rw[b8n,orE,if_neg (by rw[m1];simp),hcnt,wI,C7 (by omega),if_neg (by omega)]
 refine⟨?_,hfit,m2,o1,hw,⟨_,Nat.le_refl _,o3 _⟩,m1,g,hgt,t0⟩;rw[e5y,if_neg (by simp[hf]),if_neg (by rw[hfit];simp),if_neg (by rw[o3];simp),m2,m3,<-hr,if_neg (by omega)]
theorem d2x(aw:b2r true)(p:A6)(hp:b8f p)(name data:ByteArray):b4x p name data true:=by
 obtain⟨b,h1,h2⟩:=d9b p hp;refine b6u _ _ _ _ ⟨b,h1,fun _=>rfl,fun h=>?_⟩;simp only[Bool.or_eq_false_iff,Bool.not_eq_false',decide_eq_false_iff_not]at h;have hx:=h2 h.1;have hz:data.size<=3000:=by omega
 have hpl:=D8 hx.pl.np;have hd:=f87 hx name data ⟨65536,16,4096,4096⟩ (by omega) (by decide) (by decide);generalize hr:e3c p name data ⟨65536,16,4096,4096⟩=r at hd;refine⟨_,e2i,r,hd,fun he=>?_,fun he=>?_⟩
 ·have e0:r.1=V0:=by
   have he':r.2≠0:=by simpa using he
   rw[<-hr]at he' ⊢;unfold e3c at he' ⊢;split
   ·rfl
   split
   ·rfl
   split
   ·rfl
   rename_i n1 n2 n3;rw[if_neg n1,if_neg n2,if_neg n3]at he';split
   ·rfl
   ·rename_i y hy;rw[hy]at he';simp only at he';split
    ·rfl
    ·rename_i n4;rw[if_neg n4]at he';exact absurd rfl he'
  have hs:b5y r.1 ⟨0,0,⟨#[]⟩,[],[],[],[]⟩ true:=by
   rw[e0];exact d8l (d4w hx)
  exact⟨_,hs,fun z=>z=true,fun z hz=>hz.symm,fun _=>⟨_,aw,rfl⟩,fun q=>by cases q⟩
 ·have he':r.2=0:=by simpa using he
  have er:e3c p name data ⟨65536,16,4096,4096⟩=(r.1,0):=by rw[hr,<-he']
  obtain⟨q1,q2,q3,q4,q5,q6,q7,g,hgt,t0⟩:=g2t hx hz er;have en:=f8e hx name q4 q5;rw[q1]at en;have hfit:=e9k hx (SizeOf.sizeOf r.1) (Z1 p name).1 g r.1 hgt t0 q4 (Nat.le_refl _);rw[q2]at hfit;have hnrm:=d3x hx (SizeOf.sizeOf r.1) (Z1 p name).1 g r.1 hgt t0 ⟨q4,Nat.le_refl _,q6,1,q7⟩;rw[q3]at hnrm;exact⟨_,f4a p hpl name,_,en,fun z=>z=true,fun z hz=>⟨fun _=>⟨_,hnrm,_,d8l q4,fun _=>⟨_,aw,rfl⟩,fun q=>by cases q⟩,fun q=>by rw[hz]at q;cases q⟩,fun _=>⟨_,hfit,rfl⟩,fun q=>by simp at q⟩
section
attribute [local irreducible] Ok run put d2l br jn pos dr0 dr1 So
attribute [-simp] List.map_take List.map_drop List.map_append List.map_set List.map_replicate List.map_cons List.map_map
attribute [local simp] plain plainL a7y a4l a0e low lowL lowLL L6 G7 G9 G2 J4 G6 G5 G8 L3 S8 a0s T0 a1a J5 S9 F5 H5 P7 H2 A8 E7 N7 D7 O0 E2 P4 K1 Q9 K0 T4 N1 V5 P9 D2 S6 J3 H0 C3 L8 K8 N2 G4 F4 W7 S0 X6 U8 G3 P3 a0b Y4 a45 a19 c4r d8z c7y c7o a8r b05 c7t c7d b76 c1o e5z eFn b70 b4a b29 b4g b7h b3s b4d b2s b6v c1s c2g b2t b7i a84 b4e b23 b3g b2y b31 b3h b3j a2p a5r a5f Y2 a5q a5k a1k a5g a85 c1y b6w b6z b3k b4c b36 b7g b4f b35 b2v b62 c16 c1q b3w b7f a80 b3p b3t b3c b24 b3y b25 b3e a3k a5l a6h Y3 a58 a51 a1j a5t a8u c15 b2p b74 a83 b3i b2w b3q b22 b27 b28 b2x a3j a5m a5o X9 a5i a5y a1l a5p a82 c93
theorem g7f(r:Bool):plain (e15 r)=true:=rfl
theorem c8c(r:Bool)(hw:∃y1,B8 Tryz.prog [] 18 [.agg [.sl [[aS (⟨#[77]⟩:ByteArray),.sl [[aI 1,aS (⟨#[97]⟩:ByteArray),aE,aI 2,aI 0,aI 4,aI (-1),aI (-1)],[aI 2,aS (⟨#[98]⟩:ByteArray),aE,aI 2,aI 0,aI 7,aI (-1),aI (-1)]] .full,aI 0]] .no,.sl [] .no],aS (⟨#[77]⟩:ByteArray),.agg [aI 10,aU 0,aE,.sl [] .no,.sl [] .no,.sl [[aI 2,aI 7,aU 0,aS (⟨#[97]⟩:ByteArray),.nil,.nil,.nil,.nil]] .no,.sl [] .no]] (e18 y1)/\(∃y2,b7c y2/\(∃y3,B8 Tryz.prog [] 20 [.agg [.sl [[aS (⟨#[77]⟩:ByteArray),.sl [[aI 1,aS (⟨#[97]⟩:ByteArray),aE,aI 2,aI 0,aI 4,aI (-1),aI (-1)],[aI 2,aS (⟨#[98]⟩:ByteArray),aE,aI 2,aI 0,aI 7,aI (-1),aI (-1)]] .full,aI 0]] .no,.sl [] .no],aS (⟨#[77]⟩:ByteArray),aS (⟨#[1,5,0]⟩:ByteArray),.agg (a3r y2)] (e20 y3)/\((((((y1.2==0)&&(decide (y1.1=(⟨#[0,1,1,97]⟩:ByteArray))))&&(y3.2==0))&&((y3.1.Slots.length:Int)==1))=true->∃y5,y3.1.Slots[(0:Int).toNat]? =some y5/\0<=(0:Int)/\(r=(y5.2.Bits==5)))/\(((((y1.2==0)&&(decide (y1.1=(⟨#[0,1,1,97]⟩:ByteArray))))&&(y3.2==0))&&((y3.1.Slots.length:Int)==1))=false->r=false))))):b2r r:=
 fP (KC 31 hw rfl fun y1 hw=>KD 8 [1]<|KC 1 hw h5q fun _ hw=>KC 0 hw (A4 rfl (A4 rfl (A4 rfl (A4 (K8 _) rfl)))) fun y3 hw=>KV 4<|KT 9 3<|KT 1 3<|KT2 1 5 (((y1.2==0)&&(decide (y1.1=(⟨#[0,1,1,97]⟩:ByteArray))))&&(y3.2==0)) (fun z=>aB (z&&((y3.1.Slots.length:Int)==1))) (fun _ key=>KL 2 C0 y3.1.Slots<|KE2 2 key) (fun _ key=>KE2 5 key)<|KW 1 hw (fun _ hw=>KI 2 C0 hw fun _ hw=>KR 9 hw g7f) fun _ hw=>KR 12 hw g7f)
end
mutual
def nzD:AV->AV
 |.nil=>.sl [] .no
 |.sl els _=>.sl (nzE els) .no
 |.agg cs=>.agg (nzC cs)
 |x=>x
def nzC:List AV->List AV
 |[]=>[]
 |a::l=>nzD a::nzC l
def nzE:List (List AV)->List (List AV)
 |[]=>[]
 |a::l=>nzC a::nzE l
end
theorem d4n:∀l:List AV,nzC l=l.map nzD
 |[]=>rfl
 |a::l=>by rw[nzC,d4n l];rfl
theorem d9s:∀l:List (List AV),nzE l=l.map nzC
 |[]=>rfl
 |a::l=>by rw[nzE,d9s l];rfl
theorem e1t(a:AV):(nzD a).isCell=a.isCell:=by cases a<;>rfl
theorem d6t{l:List AV}{i:Nat}{b:AV}(h:(nzC l)[i]? =some b):∃a,l[i]? =some a/\b=nzD a:=by
 rw[d4n,List.getElem?_map]at h;obtain⟨a,h1,h2⟩:=Option.map_eq_some_iff.1 h;exact⟨a,h1,h2.symm⟩
theorem f20{l:List (List AV)}{i:Nat}{b:List AV}(h:(nzE l)[i]? =some b):∃a,l[i]? =some a/\b=nzC a:=by
 rw[d9s,List.getElem?_map]at h;obtain⟨a,h1,h2⟩:=Option.map_eq_some_iff.1 h;exact⟨a,h1,h2.symm⟩
theorem Rel.nzD{σ:Sg}{a:AV}{x:Value}(hr:Rel σ a x):Rel σ (Lift.nzD a) x:=by
 induction hr with
 |v x h=>exact .v x h
 |ptr n off b h=>exact .ptr n off b h
 |elt cells off b o xs hc hr _=>exact .elt cells off b o xs hc hr
 |nil=>exact .sl0 _ trivial
 |glob n=>exact .glob n
 |row n off size len capm b cap h hc hm hx=>exact .row n off size len capm b cap h hc hm hx
 |sl0 tok ht=>exact .sl0 _ trivial
 |slx tok a cap ht hc=>exact .slx _ a cap trivial (.inl rfl)
 |sl els tok b o cap size xs hs hcap ht hz hc hr ih=>
  have hl:(nzE els).length=els.length:=by rw[d9s,List.length_map]
  rw[<-hl];refine .sl (nzE els) .no b o cap size xs (fun i el h=>?_) (by rw[hl];exact hcap) trivial (fun id e h=>by cases h) (fun i el h j av h2=>?_) (fun i el h j av h2=>?_)
  ·obtain⟨e,h1,rfl⟩:=f20 h;rw[d4n,List.length_map];exact hs i e h1
  ·obtain⟨e,h1,rfl⟩:=f20 h;obtain⟨a,h3,rfl⟩:=d6t h2;rw[e1t];exact hc i e h1 j a h3
  ·obtain⟨e,h1,rfl⟩:=f20 h;obtain⟨a,h3,rfl⟩:=d6t h2;exact ih i e h1 j a h3
 |agg cells xs hn hc x hx hr ih=>
  refine .agg (nzC cells) xs (by rw[d4n,List.length_map];exact hn) (fun i av h=>?_) x (fun i av h=>?_) (fun i av h=>?_)
  ·obtain⟨a,h3,rfl⟩:=d6t h;rw[e1t];exact hc i a h3
  ·obtain⟨a,h3,rfl⟩:=d6t h;exact hx i a h3
  ·obtain⟨a,h3,rfl⟩:=d6t h;exact ih i a h3
 |tuple vs xs hn x hx hr _=>exact .tuple vs xs hn x hx hr
 |iface t av x h _=>exact .iface t av x h
 |clo fn first captured fs cs hn hm x y hx hy hr hq _ _=>exact .clo fn first captured fs cs hn hm x y hx hy hr hq
theorem e3e{P:Program}{gl:List (Nat × List AV)}{f:FuncId}{args args':List AV}{r:AV}(h:B8 P gl f args r)(e:args'.map nzD=args):B8 P gl f args' r:=by
 subst e;refine⟨h.1,fun w outer cargs ho hg hr=>h.2 w outer cargs ho hg ⟨by rw[List.length_map];exact hr.1,fun i av hi=>?_⟩⟩;rw[List.getElem?_map]at hi;obtain⟨a,h1,rfl⟩:=Option.map_eq_some_iff.1 hi;obtain⟨x,h2,h3⟩:=hr.2 i a h1;exact⟨x,h2,h3.nzD⟩
def exA:GOp:=⟨1,⟨#[97]⟩,⟨#[]⟩,2,0,4, -1, -1⟩
def exB:GOp:=⟨2,⟨#[98]⟩,⟨#[]⟩,2,0,7, -1, -1⟩
def exG:B7:=⟨⟨#[77]⟩,[exA,exB],0⟩
def exP:A6:=⟨[exG],[]⟩
def exS:A0:=⟨7,0,⟨#[97]⟩,[],[],[],[]⟩
def exN:A0:=⟨4,5,⟨#[]⟩,[],[],[],[]⟩
def exV:A0:=⟨10,0,⟨#[]⟩,[],[],[(2,exS)],[]⟩
def exX:A0:=⟨10,0,⟨#[]⟩,[],[],[(1,exN)],[]⟩
theorem f3y(o:GOp)(h:o∈[exA,exB]):g5r o/\f24 o/\e2y o/\OpF exP o:=by
 have i:∀n:Int, -1<=n->n<=10->I64 n:=fun n h1 h2=>⟨by omega,by omega⟩
 have z:∀n:Nat,n<=10->Sz n:=fun n h=>show n<=140737488351232 by omega
 simp only[List.mem_cons,List.mem_nil_iff,or_false]at h;rcases h with rfl|rfl
 ·exact⟨⟨i _ (by decide) (by decide),z _ (by decide),z _ (by decide),i _ (by decide) (by decide),i _ (by decide) (by decide),i _ (by decide) (by decide),i _ (by decide) (by decide),i _ (by decide) (by decide)⟩,⟨by decide,by decide⟩,by unfold e2y;decide,⟨by decide,by decide,⟨fun _=>rfl,fun h=>absurd h (by decide)⟩,fun h=>absurd h (by decide),fun h=>absurd h (by decide),fun _ _=>rfl,.inl rfl⟩⟩
 ·exact⟨⟨i _ (by decide) (by decide),z _ (by decide),z _ (by decide),i _ (by decide) (by decide),i _ (by decide) (by decide),i _ (by decide) (by decide),i _ (by decide) (by decide),i _ (by decide) (by decide)⟩,⟨by decide,by decide⟩,by unfold e2y;decide,⟨by decide,by decide,⟨fun _=>rfl,fun h=>absurd h (by decide)⟩,fun h=>absurd h (by decide),fun h=>absurd h (by decide),fun _ _=>rfl,.inl rfl⟩⟩
theorem e9q:OkX exP:=by
 have z:∀n:Nat,n<=10->Sz n:=fun n h=>show n<=140737488351232 by omega
 have one:∀g∈exP.Progs,g=exG:=fun g h=>List.mem_singleton.1 h
 have pl:b8f exP:=⟨z _ (by decide),fun g hg=>by rw[one g hg];exact⟨z _ (by decide),z _ (by decide),fun o ho=>(f3y o ho).1,⟨by decide,by decide⟩⟩,z _ (by decide),fun y hy=>by cases hy⟩;refine⟨pl.oke,pl,⟨fun g hg=>?_,fun g hg o ho=>?_,fun g hg=>?_⟩⟩
 ·rw[one g hg];intro m x y h1 h2 h3;have e:m=0:=by have:m+1<2:=h1;omega
  subst e;cases h2;cases h3;decide
 ·rw[one g hg]at ho;exact(f3y o ho).2.1
 ·rw[one g hg];exact⟨fun o ho=>(f3y o ho).2.2.1,fun o ho=>(f3y o ho).2.2.2⟩
theorem h12:ScO exP 7 (-1) exS:=by
 have hv:a7e exS.Text=true:=by decide+kernel
 refine⟨?_,rfl,b9m (by decide),fun h=>absurd h (by decide),⟨by decide,by decide⟩,rfl,rfl,rfl,rfl⟩;unfold a2k;rw[if_pos (.inl rfl),hv];decide
theorem h3m:ScO exP 4 (-1) exN:=⟨by decide,rfl,b9m (by decide),fun h=>absurd h (by decide),⟨by decide,by decide⟩,rfl,rfl,rfl,rfl⟩
theorem h4y{o:GOp}{k:Int}{y:A0}(hc:o.Card=2)(hk:o.Kind=k)(h10:k≠10)(ht:o.Target= -1)(h:ScO exP k (-1) y)(B:Int->A0->Prop):RfF exP B o y:=
 ⟨fun q=>by omega,fun q=>by omega,fun _ _=>⟨⟨fun q=>absurd (hk▸q) h10,fun _=>by rw[hk,ht];exact h⟩,fun q=>by omega⟩⟩
theorem h6p:RfV exP 1 0 exV:=⟨exG,rfl,by decide,rfl,⟨fun h=>absurd h (by decide),fun _=>⟨by decide,fun _=>⟨h4y rfl rfl (by decide) rfl h12 _,rfl⟩,fun h=>absurd rfl h⟩⟩,List.pairwise_singleton _ _⟩
theorem h7r:RfV exP 1 0 exX:=⟨exG,rfl,by decide,rfl,⟨fun _=>⟨h4y rfl rfl (by decide) rfl h3m _,by decide,rfl⟩,fun h=>absurd rfl h⟩,List.pairwise_singleton _ _⟩
theorem d77(n:Nat)(h:n<128):b1l n=ofI [(n:Int)]:=by rw[b1l,a8z,if_pos h]
theorem h0m:O7 exP 1 0 exV=⟨#[0,1,1,97]⟩:=by
 have e:c2o exS=b1l 1++⟨#[97]⟩:=by
  unfold c2o;rw[if_pos (show a2k exS.Kind exS=true from h12.fit),if_neg (by decide),if_neg (by decide),if_neg (by decide),if_pos (by decide)];rfl
 rw[d77 1 (by decide)]at e;have e2:O7 exP 1 0 exV=a0t (O7 exP 0) exA V0 false++(a0t (O7 exP 0) exB exS true++⟨#[]⟩):=rfl;have e3:a0t (O7 exP 0) exB exS true=⟨#[1]⟩++c2o exS:=rfl;rw[e2,e3,e];rfl
theorem g7o:O7 exP 1 0 exX=⟨#[1,5,0]⟩:=by
 have e:c2o exN=b1l 5:=by
  unfold c2o;rw[if_pos (show a2k exN.Kind exN=true from h3m.fit),if_neg (by decide),if_neg (by decide),if_neg (by decide),if_neg (by decide)];rfl
 rw[d77 5 (by decide)]at e;have e2:O7 exP 1 0 exX=a0t (O7 exP 0) exA exN true++(a0t (O7 exP 0) exB V0 false++⟨#[]⟩):=rfl;have e3:a0t (O7 exP 0) exA exN true=⟨#[1]⟩++c2o exN:=rfl;rw[e2,e3,e];rfl
theorem f2l{num:Int}{y:A0}{k:Int}(h:ScO exP k (-1) y):cV ⟨10,0,⟨#[]⟩,[],[],[(num,y)],[]⟩=⟨1,2,y.Text.size⟩:=by
 rw[c5n];simp[d5w,a9h,P8.none,P8.add,h.cost,e7a]
theorem e0u:Z1 exP ⟨#[77]⟩=(0,true):=by decide
theorem g6g:e5y exP ⟨#[77]⟩ exV=(⟨#[0,1,1,97]⟩,0)/\OkD exV/\wtV exV<=134217728:=by
 have hc:cV exV=⟨1,2,1⟩:=f2l h12;have hL:Lim 1 (cV exV):=by rw[hc];exact⟨by decide,by decide⟩
 have hn:nV exV=2:=by show(cV exV).n=2;rw[hc]
 obtain⟨o1,o2,o3⟩:=g23 e9q _ _ _ h6p hL.2;obtain⟨m1,m2,m3⟩:=f2k e9q _ _ _ 1 h6p hL (SizeOf.sizeOf exV) (Nat.le_refl _);have hcnt:=d4c (SizeOf.sizeOf exV) exV (Nat.le_refl _)
 have hfit:b8n exP (SizeOf.sizeOf exV) 0 exV=0:=by
  rw[b8n,orE,if_neg (by rw[m1];simp),hcnt,wI,C7 (by omega),if_neg (by omega)]
 refine⟨?_,o1,by omega⟩;rw[e5y,e0u];simp only;rw[if_neg (by decide),if_neg (by rw[hfit];simp),if_neg (by rw[o3];simp),m2,m3,h0m,if_neg (by decide)]
theorem g64:e3c exP ⟨#[77]⟩ ⟨#[1,5,0]⟩ ⟨65536,16,4096,4096⟩=(exX,0):=by
 have hc:cV exX=⟨1,2,0⟩:=f2l h3m;rw[e1o (by rw[e0u]) (by simp) (by decide)];have g:=f5u e9q h7r ⟨#[1,5,0]⟩ (by decide) (D:=16) (N:=4096) (T:=4096) (by decide) (by decide) (by decide) (.inl ⟨⟨#[]⟩,by rw[g7o,b9c]⟩);rw[g7o,hc]at g;rw[e0u];simp only;generalize msR exP (16:Int).toNat 0 ⟨⟨#[1,5,0]⟩,0,(⟨#[1,5,0]⟩:ByteArray).size,16,4096,4096⟩=r at g ⊢;cases r with
 |error e=>
  simp only[Got]at g;rcases g with⟨_,q⟩|⟨_,q⟩|⟨_,q⟩
  ·exact absurd ⟨⟨#[]⟩,by rw[d0u,b9c]⟩ q
  ·omega
  ·omega
 |ok y=>
  obtain⟨rfl,_⟩:=g;rfl
theorem f2h:b2r true:=by
 obtain⟨e1,e2,e3⟩:=g6g;have h:=f8e e9q ⟨#[77]⟩ e2 e3;rw[e1]at h;have hd:=f87 e9q ⟨#[77]⟩ ⟨#[1,5,0]⟩ ⟨65536,16,4096,4096⟩ (by decide) (by decide) (by decide);rw[g64]at hd;refine c8c _ ⟨_,e3e (h:B8 Tryz.prog [] 18 [.agg (B6 exP),.v (.string ⟨#[77]⟩),.agg (A5 exV)] _) (by kernel_rfl),_,e2i,_,e3e (hd:B8 Tryz.prog [] 20 [.agg (B6 exP),.v (.string ⟨#[77]⟩),.v (.string ⟨#[1,5,0]⟩),.agg (a3r ⟨65536,16,4096,4096⟩)] _) (by kernel_rfl),fun _=>⟨_,rfl,by decide,rfl⟩,fun q=>?_⟩;exact absurd q (by decide)
end Go.Proofs.YtidmmngcijapcaaGreat.Lift
