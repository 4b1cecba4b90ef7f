/- Part 8 of the texts that prove VerifyDepthEnd. -/
import Derived.Test.YtlcmiciojnnlnaaGreatDoorVerifyDepthEndP6
import Derived.Test.YtlcmiciojnnlnaaGreatDoorProg
import Derived.Test.YtlcmiciojnnlnaaGreatDoorVerifyDepthEndP4
import Derived.WalkKit
import Derived.ProofKit
import Derived.Lib.Builder
import Derived.Laws.Externs
namespace Go.Proofs.YtlcmiciojnnlnaaGreatDoor.Lift
open Go.RowKit
set_option linter.unusedVariables false
set_option linter.unusedSimpArgs false
set_option linter.unnecessarySimpa false
set_option linter.unusedSectionVars false
set_option maxRecDepth 100000
structure eV(p:A8)(o:A7):Prop where
 card:1<=o.C8/\o.C8<=5
 kind:1<=o.Kind/\o.Kind<=10
 key:(o.C8≠5->o.Key=0)/\(o.C8=5->(1<=o.Key/\o.Key<=5)\/o.Key=7)
 msg:o.Kind=10->0<=o.Target/\o.Target<p.B3.length/\o.C8≠3
 enum:o.Kind=9->0<=o.Target/\o.Target<p.D8.length
 other:o.Kind≠9->o.Kind≠10->o.Target= -1
 union:o.Union= -1\/o.C8=2
theorem D1{n:Nat}(h:Sz n):n<=140737488351232:=h
theorem F1.okv{v:A0}(h:F1 v):GB v:=by
 cases h with
 |mk _ k b t l p s r=>exact⟨l,p,s,r,t,b.1,b.2⟩
theorem GV{α:Type}{l:b5l α}{i:Nat}(h:i<l.length):∃y,l[((i:Int)).toNat]? =some y/\y∈l:=⟨l[i],by simp[h],List.getElem_mem h⟩
def Asc(l:b5l A7)(n:Nat):Prop:=∀m x y,m+1<n->l[m]? =some x->l[m+1]? =some y->x.Num<y.Num
theorem a27{l:b5l A7}{i:Nat}{x y:A7}(h:Asc l i)(hx:l[i - 1]? =some x)(hy:l[i]? =some y)(hlt:x.Num<y.Num):Asc l (i+1):=by
 intro m x' y' hm h1 h2
 by_cases e:m+1=i
 ·have:m=i - 1:=by omega
  subst this;rw[hx]at h1;cases h1;rw[e,hy]at h2;cases h2;exact hlt
 ·exact h m x' y' (by omega) h1 h2
theorem HY{α:Type}{l:b5l α}{T:α->Prop}{k:Nat}{g:α}(h:∀j g,j<k->l[j]? =some g->T g)(hg:l[k]? =some g)(ht:T g):∀j g,j<k+1->l[j]? =some g->T g:=by
 intro j g' hj hj2
 by_cases e:j=k
 ·subst e;rw[hg]at hj2;cases hj2;exact ht
 ·exact h j g' (by omega) hj2
theorem MJ{α:Type}{l:b5l α}{T:α->Prop}{k:Nat}(h:∀j g,j<k->l[j]? =some g->T g)(hk:l.length<=k):∀g∈l,T g:=by
 intro g hg;obtain⟨j,hj⟩:=List.mem_iff_getElem?.1 hg;exact h j g (by have:=(List.getElem?_eq_some_iff.1 hj).1;omega) hj
section
variable (p:A8) (hp:FO p)
 include hp
theorem iX:∀i:Nat,∀b,Ex yes (Pe (i:Int) b p):=by
 have b1:=D1 hp.np;have b2:=D1 hp.ne;refine N8 (p.D8.length) (λi hi ih b=>?_) (λi hi b=>?_)
 ·refine D5 (nG _ _ _) ?_
  try rw[H8 (by omega)]
  repeat' first|exact E7 trivial|exact ih|assumption|exact ih _|refine G2 ?_|refine E6 (λh=>?_) (λh=>?_)|refine G9 (λh=>?_) (λh=>?_)|refine E4 _ (λh=>?_) (λh=>?_)|refine F4 (by omega) (λy hy hm=>?_)|refine F6 (by omega) ?_
 ·refine D5 (nG _ _ _) ?_
  repeat' first|exact E7 trivial|exact ih|assumption|exact ih _|exact absurd ‹_› (by omega)|(exfalso;omega)|refine G2 ?_|refine E6 (λh=>?_) (λh=>?_)|refine G9 (λh=>?_) (λh=>?_)|refine E4 _ (λh=>?_) (λh=>?_)|refine F4 (by omega) (λy hy hm=>?_)|refine F6 (by omega) ?_
theorem yQ:∀i:Nat,∀b,Ex yes (QA (i:Int) b p):=by
 have b1:=D1 hp.np;have b2:=D1 hp.ne;refine N8 (p.B3.length) (λi hi ih b=>?_) (λi hi b=>?_)
 ·refine D5 (iY _ _ _) ?_
  try rw[H8 (by omega)]
  repeat' first|exact E7 trivial|exact ih|assumption|exact ih _|exact iX p hp 0 _|refine G2 ?_|refine E6 (λh=>?_) (λh=>?_)|refine G9 (λh=>?_) (λh=>?_)|refine E4 _ (λh=>?_) (λh=>?_)|refine F4 (by omega) (λy hy hm=>?_)|refine F6 (by omega) ?_
 ·refine D5 (iY _ _ _) ?_
  repeat' first|exact E7 trivial|exact ih|assumption|exact ih _|exact iX p hp 0 _|exact absurd ‹_› (by omega)|(exfalso;omega)|refine G2 ?_|refine E6 (λh=>?_) (λh=>?_)|refine G9 (λh=>?_) (λh=>?_)|refine E4 _ (λh=>?_) (λh=>?_)|refine F4 (by omega) (λy hy hm=>?_)|refine F6 (by omega) ?_
theorem sb:Ex yes (ZK p):=by
 refine D5 (ye _) ?_;exact yQ p hp 0 _
theorem pU(k:Nat)(hk:k<p.D8.length)(g:N4)(hg:p.D8[((k:Int)).toNat]? =some g)(og:Eb g)(H:∀b,Ex yes (NV ((k+1:Nat):Int) b p)):∀i:Nat,∀b,Ex yes (Np (i:Int) b (k:Int) p):=by
 have b1:=D1 hp.np;have b2:=D1 hp.ne;have b3:=D1 og.ni;have b4:=D1 og.nr;refine N8 (g.Items.length) (λi hi ih b=>?_) (λi hi b=>?_)
 ·refine D5 (pk _ _ _ _) ?_
  try rw[H8 (by omega)]
  repeat' first|exact E7 trivial|exact ih|assumption|exact ih _|exact H _|refine Q7 g hg (by omega) ?_|rw[H8 (by omega)]|refine G2 ?_|refine E6 (λh=>?_) (λh=>?_)|refine G9 (λh=>?_) (λh=>?_)|refine E4 _ (λh=>?_) (λh=>?_)|refine F4 (by omega) (λy hy hm=>?_)|refine F6 (by omega) ?_|refine L0 (Rh _ (og.items _ (by assumption)).name) (λy hq=>?_)
 ·refine D5 (pk _ _ _ _) ?_
  repeat' first|exact E7 trivial|exact ih|assumption|exact ih _|exact H _|refine Q7 g hg (by omega) ?_|rw[H8 (by omega)]|exact absurd ‹_› (by omega)|(exfalso;omega)|refine G2 ?_|refine E6 (λh=>?_) (λh=>?_)|refine G9 (λh=>?_) (λh=>?_)|refine E4 _ (λh=>?_) (λh=>?_)|refine F4 (by omega) (λy hy hm=>?_)|refine F6 (by omega) ?_|refine L0 (Rh _ (og.items _ (by assumption)).name) (λy hq=>?_)
theorem jr:∀i:Nat,∀b,Ex yes (NV (i:Int) b p):=by
 have b1:=D1 hp.np;have b2:=D1 hp.ne;refine N8 (p.D8.length) (λi hi ih b=>?_) (λi hi b=>?_)
 ·obtain⟨g,hg,gm⟩:=GV hi;refine D5 (ii _ _ _) ?_
  try rw[H8 (by omega)]
  repeat' first|exact E7 trivial|exact ih|assumption|exact ih _|exact pU p hp i hi g hg (hp.enums g gm) ih 0 _|refine Q7 g hg (by omega) ?_|refine G2 ?_|refine E6 (λh=>?_) (λh=>?_)|refine G9 (λh=>?_) (λh=>?_)|refine E4 _ (λh=>?_) (λh=>?_)|refine F4 (by omega) (λy hy hm=>?_)|refine F6 (by omega) ?_|refine L0 (TO _ (hp.enums g gm).name) (λy hq=>?_)
 ·refine D5 (ii _ _ _) ?_
  repeat' first|exact E7 trivial|exact ih|assumption|exact ih _|exact pU p hp i hi g hg (hp.enums g gm) ih 0 _|refine Q7 g hg (by omega) ?_|exact absurd ‹_› (by omega)|(exfalso;omega)|refine G2 ?_|refine E6 (λh=>?_) (λh=>?_)|refine G9 (λh=>?_) (λh=>?_)|refine E4 _ (λh=>?_) (λh=>?_)|refine F4 (by omega) (λy hy hm=>?_)|refine F6 (by omega) ?_|refine L0 (TO _ (hp.enums g gm).name) (λy hq=>?_)
theorem nD(k:Nat)(hk:k<p.B3.length)(g:B7)(hg:p.B3[((k:Int)).toNat]? =some g)(og:Dg g)(H:∀b,Ex yes (PM ((k+1:Nat):Int) b p)):∀i:Nat,∀b,Ex yes (OP (i:Int) b (k:Int) p):=by
 have b1:=D1 hp.np;have b2:=D1 hp.ne;have b3:=D1 og.n;refine N8 (g.Ops.length) (λi hi ih b=>?_) (λi hi b=>?_)
 ·refine D5 (mh _ _ _ _) ?_
  try rw[H8 (by omega)]
  repeat' first|exact E7 trivial|exact ih|assumption|exact ih _|exact H _|refine Q7 g hg (by omega) ?_|rw[H8 (by omega)]|refine G2 ?_|refine E6 (λh=>?_) (λh=>?_)|refine G9 (λh=>?_) (λh=>?_)|refine E4 _ (λh=>?_) (λh=>?_)|refine F4 (by omega) (λy hy hm=>?_)|refine F6 (by omega) ?_|refine L0 (Rh _ (og.ops _ (by assumption)).name) (λy hq=>?_)
 ·refine D5 (mh _ _ _ _) ?_
  repeat' first|exact E7 trivial|exact ih|assumption|exact ih _|exact H _|refine Q7 g hg (by omega) ?_|rw[H8 (by omega)]|exact absurd ‹_› (by omega)|(exfalso;omega)|refine G2 ?_|refine E6 (λh=>?_) (λh=>?_)|refine G9 (λh=>?_) (λh=>?_)|refine E4 _ (λh=>?_) (λh=>?_)|refine F4 (by omega) (λy hy hm=>?_)|refine F6 (by omega) ?_|refine L0 (Rh _ (og.ops _ (by assumption)).name) (λy hq=>?_)
theorem a46:∀i:Nat,∀b,Ex yes (PM (i:Int) b p):=by
 have b1:=D1 hp.np;have b2:=D1 hp.ne;refine N8 (p.B3.length) (λi hi ih b=>?_) (λi hi b=>?_)
 ·obtain⟨g,hg,gm⟩:=GV hi;refine D5 (km _ _ _) ?_
  try rw[H8 (by omega)]
  repeat' first|exact E7 trivial|exact ih|assumption|exact ih _|exact nD p hp i hi g hg (hp.CE g gm) ih 0 _|exact jr p hp 0 _|refine Q7 g hg (by omega) ?_|refine G2 ?_|refine E6 (λh=>?_) (λh=>?_)|refine G9 (λh=>?_) (λh=>?_)|refine E4 _ (λh=>?_) (λh=>?_)|refine F4 (by omega) (λy hy hm=>?_)|refine F6 (by omega) ?_|refine L0 (TO _ (hp.CE g gm).name) (λy hq=>?_)
 ·refine D5 (km _ _ _) ?_
  repeat' first|exact E7 trivial|exact ih|assumption|exact ih _|exact nD p hp i hi g hg (hp.CE g gm) ih 0 _|exact jr p hp 0 _|refine Q7 g hg (by omega) ?_|exact absurd ‹_› (by omega)|(exfalso;omega)|refine G2 ?_|refine E6 (λh=>?_) (λh=>?_)|refine G9 (λh=>?_) (λh=>?_)|refine E4 _ (λh=>?_) (λh=>?_)|refine F4 (by omega) (λy hy hm=>?_)|refine F6 (by omega) ?_|refine L0 (TO _ (hp.CE g gm).name) (λy hq=>?_)
theorem td:Ex yes (YH p):=by
 refine D5 (m8 _) ?_;exact a46 p hp 0 _
theorem mz(A:Prop)(k:Nat)(hk:k<p.D8.length)(g:N4)(hg:p.D8[((k:Int)).toNat]? =some g)(og:Eb g)(H:∀b,(b=true->A)->Ex (λr=>r=true->A) (Ow ((k+1:Nat):Int) b p)):∀i:Nat,1<=i->∀b,(b=true->A)->Ex (λr=>r=true->A) (Nx (i:Int) b (k:Int) p):=by
 have b1:=D1 hp.np;have b2:=D1 hp.ne;have b3:=D1 og.ni;have b4:=D1 og.nr;refine N8 (g.Items.length) (λi hi ih h1 b hA=>?_) (λi hi h1 b hA=>?_)
 ·refine D5 (kO _ _ _ _) ?_
  try rw[H8 (by omega)]
  repeat' first|exact E7 (λh=>by first|exact hA ‹_›|exact hA h|cases h)|exact ih|assumption|exact ih (by omega) _ (λh=>by first|exact hA ‹_›|cases h)|exact H _ hA|refine Q7 g hg (by omega) ?_|rw[H8 (by omega)]|rw[Ds (by omega)]|refine G2 ?_|refine E6 (λh=>?_) (λh=>?_)|refine G9 (λh=>?_) (λh=>?_)|refine E4 _ (λh=>?_) (λh=>?_)|refine F4 (by omega) (λy hy hm=>?_)|refine F6 (by omega) ?_
 ·refine D5 (kO _ _ _ _) ?_
  repeat' first|exact E7 (λh=>by first|exact hA ‹_›|exact hA h|cases h)|exact ih|assumption|exact ih (by omega) _ (λh=>by first|exact hA ‹_›|cases h)|exact H _ hA|refine Q7 g hg (by omega) ?_|rw[H8 (by omega)]|rw[Ds (by omega)]|exact absurd ‹_› (by omega)|(exfalso;omega)|refine G2 ?_|refine E6 (λh=>?_) (λh=>?_)|refine G9 (λh=>?_) (λh=>?_)|refine E4 _ (λh=>?_) (λh=>?_)|refine F4 (by omega) (λy hy hm=>?_)|refine F6 (by omega) ?_
theorem a08(A:Prop):∀i:Nat,∀b,(b=true->A)->Ex (λr=>r=true->A) (Ow (i:Int) b p):=by
 have b1:=D1 hp.np;have b2:=D1 hp.ne;refine N8 (p.D8.length) (λi hi ih b hA=>?_) (λi hi b hA=>?_)
 ·obtain⟨g,hg,gm⟩:=GV hi;refine D5 (nj _ _ _) ?_
  try rw[H8 (by omega)]
  repeat' first|exact E7 (λh=>by first|exact hA ‹_›|exact hA h|cases h)|exact ih|assumption|exact mz p hp A i hi g hg (hp.enums g gm) ih 1 (Nat.le_refl _) _ (λh=>by first|exact hA ‹_›|cases h)|rw[Ds (by omega)]|refine G2 ?_|refine E6 (λh=>?_) (λh=>?_)|refine G9 (λh=>?_) (λh=>?_)|refine E4 _ (λh=>?_) (λh=>?_)|refine F4 (by omega) (λy hy hm=>?_)|refine F6 (by omega) ?_
 ·refine D5 (nj _ _ _) ?_
  repeat' first|exact E7 (λh=>by first|exact hA ‹_›|exact hA h|cases h)|exact ih|assumption|exact mz p hp A i hi g hg (hp.enums g gm) ih 1 (Nat.le_refl _) _ (λh=>by first|exact hA ‹_›|cases h)|rw[Ds (by omega)]|exact absurd ‹_› (by omega)|(exfalso;omega)|refine G2 ?_|refine E6 (λh=>?_) (λh=>?_)|refine G9 (λh=>?_) (λh=>?_)|refine E4 _ (λh=>?_) (λh=>?_)|refine F4 (by omega) (λy hy hm=>?_)|refine F6 (by omega) ?_
theorem wQ(k:Nat)(hk:k<p.B3.length)(g:B7)(hg:p.B3[((k:Int)).toNat]? =some g)(og:Dg g)(H:∀b,(b=true->∀j g,j<k+1->p.B3[j]? =some g->Asc g.Ops g.Ops.length)->Ex (λr=>r=true->∀g∈p.B3,Asc g.Ops g.Ops.length) (Ou ((k+1:Nat):Int) b p)):
  ∀i:Nat,1<=i->(i=1\/i<=g.Ops.length)->∀b,(b=true->(∀j g,j<k->p.B3[j]? =some g->Asc g.Ops g.Ops.length)/\Asc g.Ops i)->Ex (λr=>r=true->∀g∈p.B3,Asc g.Ops g.Ops.length) (Ml (i:Int) b (k:Int) p):=by
 have b1:=D1 hp.np;have b2:=D1 hp.ne;have b3:=D1 og.n;have e3:((k:Int)).toNat=k:=by omega
 refine N8 g.Ops.length (λi hi ih h1 hi2 b hA=>?_) (λi hi h1 hi2 b hA=>?_)
 ·refine D5 (gW _ _ _ _) (Q7 g hg (by omega) (E6 (λ_=>E4 _ (λhb=>?_) (λhb=>?_)) λh=>absurd (show(i:Int)<g.Ops.length by omega) h))
  ·rw[Ds (by omega),H8 (by omega)];refine Q7 g hg (by omega) (F4 (by omega) λx hx hm=>Q7 g hg (by omega) (F4 (by omega) λy hy hm2=>ih (by omega) (by omega) _ λh=>⟨(hA hb).1,?_⟩));have e1:(((i - 1:Nat):Int)).toNat=i - 1:=by omega
   have e2:((i:Int)).toNat=i:=by omega
   rw[e1]at hx;rw[e2]at hy;exact a27 (hA hb).2 hx hy (of_decide_eq_true h)
  ·rw[H8 (by omega)];exact ih (by omega) (by omega) _ λh=>by cases h
 ·refine D5 (gW _ _ _ _) (Q7 g hg (by omega) (E6 (λh=>absurd h (by omega)) λ_=>?_));rw[H8 (by omega)];refine H _ λh=>HY (hA h).1 (by rw[<-e3];exact hg) ?_
  rcases hi2 with e|e
  ·intro m x y hm;omega
  ·have:i=g.Ops.length:=by omega
   rw[<-this];exact(hA h).2
theorem rB:∀i:Nat,i<=p.B3.length->∀b,(b=true->∀j g,j<i->p.B3[j]? =some g->Asc g.Ops g.Ops.length)->Ex (λr=>r=true->∀g∈p.B3,Asc g.Ops g.Ops.length) (Ou (i:Int) b p):=by
 have b1:=D1 hp.np;have b2:=D1 hp.ne;have b1:=D1 hp.np;have b2:=D1 hp.ne;refine N8 p.B3.length (λi hi ih hle b hA=>?_) (λi hi hle b hA=>?_)
 ·obtain⟨g,hg,gm⟩:=GV hi;have fin:∀b',(b'=true->b=true)->Ex (λr=>r=true->∀g∈p.B3,Asc g.Ops g.Ops.length) (Ml 1 b' (i:Int) p):=λb' hb'=>wQ p hp i hi g hg (hp.CE g gm) (λb h=>ih (by omega) b h) 1 (Nat.le_refl _) (.inl rfl) b' λh=>⟨hA (hb' h),λm x y hm=>by omega⟩
  refine D5 (pG _ _ _) (E6 (λ_=>G2 (E4 _ (λhb=>G2 ?_) λhb=>fin _ (λh=>by cases h))) λh=>absurd (show(i:Int)<p.B3.length by omega) h);refine E4 _ (λh=>fin _ λ_=>hb) λh=>?_
  have:0<i:=by simp at h;omega
  rw[Ds (by omega)];exact F4 (by omega) λ_ _ _=>F4 (by omega) λ_ _ _=>fin _ λ_=>hb
 ·refine D5 (pG _ _ _) (E6 (λh=>absurd h (by omega)) λ_=>a08 p hp _ 0 b λh=>MJ (hA h) hi)
theorem uo:Ex (λr=>r=true->∀g∈p.B3,Asc g.Ops g.Ops.length) (bd p):=
 D5 (xZ _) (rB p hp 0 (Nat.zero_le _) true λ_ j g h=>by omega)
end
section
variable (p:A8) (hp:FO p)
 include hp
theorem lC(k:Nat)(g:N4)(og:Eb g)(m:Nat)(hm:m<g.Items.length)(H:∀b,Ex yes (Ny ((m+1:Nat):Int) g (k:Int) b p)):∀i:Nat,∀b,Ex yes (PQ (i:Int) (m:Int) g (k:Int) b p):=by
 have b1:=D1 hp.np;have b2:=D1 hp.ne;have b3:=D1 og.ni;have b4:=D1 og.nr;refine N8 (m) (λi hi ih b=>?_) (λi hi b=>?_)
 ·refine D5 (ia _ _ _ _ _ _) ?_
  try rw[H8 (by omega)]
  repeat' first|exact E7 trivial|exact ih|assumption|exact ih _|rw[H8 (by omega)]|exact H _|refine G2 ?_|refine E6 (λh=>?_) (λh=>?_)|refine G9 (λh=>?_) (λh=>?_)|refine E4 _ (λh=>?_) (λh=>?_)|refine F4 (by omega) (λy hy hm=>?_)|refine F6 (by omega) ?_
 ·refine D5 (ia _ _ _ _ _ _) ?_
  repeat' first|exact E7 trivial|exact ih|assumption|exact ih _|rw[H8 (by omega)]|exact H _|exact absurd ‹_› (by omega)|(exfalso;omega)|refine G2 ?_|refine E6 (λh=>?_) (λh=>?_)|refine G9 (λh=>?_) (λh=>?_)|refine E4 _ (λh=>?_) (λh=>?_)|refine F4 (by omega) (λy hy hm=>?_)|refine F6 (by omega) ?_
theorem fD(k:Nat)(g:N4)(og:Eb g)(H:∀b,Ex yes (PE ((k+1:Nat):Int) b p))(hk:k<p.D8.length):∀i:Nat,∀b,Ex yes (Ny (i:Int) g (k:Int) b p):=by
 have b1:=D1 hp.np;have b2:=D1 hp.ne;have b3:=D1 og.ni;have b4:=D1 og.nr;refine N8 (g.Items.length) (λi hi ih b=>?_) (λi hi b=>?_)
 ·refine D5 (iy _ _ _ _ _) ?_
  try rw[H8 (by omega)]
  repeat' first|exact E7 trivial|exact ih|assumption|exact ih _|exact lC p hp k g og i hi ih 0 _|rw[H8 (by omega)]|exact H _|refine G2 ?_|refine E6 (λh=>?_) (λh=>?_)|refine G9 (λh=>?_) (λh=>?_)|refine E4 _ (λh=>?_) (λh=>?_)|refine F4 (by omega) (λy hy hm=>?_)|refine F6 (by omega) ?_
 ·refine D5 (iy _ _ _ _ _) ?_
  repeat' first|exact E7 trivial|exact ih|assumption|exact ih _|exact lC p hp k g og i hi ih 0 _|rw[H8 (by omega)]|exact H _|exact absurd ‹_› (by omega)|(exfalso;omega)|refine G2 ?_|refine E6 (λh=>?_) (λh=>?_)|refine G9 (λh=>?_) (λh=>?_)|refine E4 _ (λh=>?_) (λh=>?_)|refine F4 (by omega) (λy hy hm=>?_)|refine F6 (by omega) ?_
theorem mT:∀i:Nat,∀b,Ex yes (PE (i:Int) b p):=by
 have b1:=D1 hp.np;have b2:=D1 hp.ne;refine N8 (p.D8.length) (λi hi ih b=>?_) (λi hi b=>?_)
 ·refine D5 (jC _ _ _) ?_
  try rw[H8 (by omega)]
  repeat' first|exact E7 trivial|exact ih|assumption|exact ih _|exact fD p hp i _ (hp.enums _ ‹_›) ih hi 0 _|refine G2 ?_|refine E6 (λh=>?_) (λh=>?_)|refine G9 (λh=>?_) (λh=>?_)|refine E4 _ (λh=>?_) (λh=>?_)|refine F4 (by omega) (λy hy hm=>?_)|refine F6 (by omega) ?_
 ·refine D5 (jC _ _ _) ?_
  repeat' first|exact E7 trivial|exact ih|assumption|exact ih _|exact fD p hp i _ (hp.enums _ ‹_›) ih hi 0 _|exact absurd ‹_› (by omega)|(exfalso;omega)|refine G2 ?_|refine E6 (λh=>?_) (λh=>?_)|refine G9 (λh=>?_) (λh=>?_)|refine E4 _ (λh=>?_) (λh=>?_)|refine F4 (by omega) (λy hy hm=>?_)|refine F6 (by omega) ?_
theorem hZ(k:Nat)(g:B7)(og:Dg g)(m:Nat)(hm:m<g.Ops.length)(H:∀b,Ex yes (NP ((m+1:Nat):Int) g (k:Int) b p)):∀i:Nat,∀b,Ex yes (OO (i:Int) (m:Int) g (k:Int) b p):=by
 have b1:=D1 hp.np;have b2:=D1 hp.ne;have b3:=D1 og.n;refine N8 (m) (λi hi ih b=>?_) (λi hi b=>?_)
 ·refine D5 (jv _ _ _ _ _ _) ?_
  try rw[H8 (by omega)]
  repeat' first|exact E7 trivial|exact ih|assumption|exact ih _|rw[H8 (by omega)]|exact H _|refine G2 ?_|refine E6 (λh=>?_) (λh=>?_)|refine G9 (λh=>?_) (λh=>?_)|refine E4 _ (λh=>?_) (λh=>?_)|refine F4 (by omega) (λy hy hm=>?_)|refine F6 (by omega) ?_
 ·refine D5 (jv _ _ _ _ _ _) ?_
  repeat' first|exact E7 trivial|exact ih|assumption|exact ih _|rw[H8 (by omega)]|exact H _|exact absurd ‹_› (by omega)|(exfalso;omega)|refine G2 ?_|refine E6 (λh=>?_) (λh=>?_)|refine G9 (λh=>?_) (λh=>?_)|refine E4 _ (λh=>?_) (λh=>?_)|refine F4 (by omega) (λy hy hm=>?_)|refine F6 (by omega) ?_
theorem lT(k:Nat)(g:B7)(og:Dg g)(H:∀b,Ex yes (Mp ((k+1:Nat):Int) b p))(hk:k<p.B3.length):∀i:Nat,∀b,Ex yes (NP (i:Int) g (k:Int) b p):=by
 have b1:=D1 hp.np;have b2:=D1 hp.ne;have b3:=D1 og.n;refine N8 (g.Ops.length) (λi hi ih b=>?_) (λi hi b=>?_)
 ·refine D5 (fa _ _ _ _ _) ?_
  try rw[H8 (by omega)]
  repeat' first|exact E7 trivial|exact ih|assumption|exact ih _|exact hZ p hp k g og i hi ih 0 _|rw[H8 (by omega)]|exact H _|refine G2 ?_|refine E6 (λh=>?_) (λh=>?_)|refine G9 (λh=>?_) (λh=>?_)|refine E4 _ (λh=>?_) (λh=>?_)|refine F4 (by omega) (λy hy hm=>?_)|refine F6 (by omega) ?_
 ·refine D5 (fa _ _ _ _ _) ?_
  repeat' first|exact E7 trivial|exact ih|assumption|exact ih _|exact hZ p hp k g og i hi ih 0 _|rw[H8 (by omega)]|exact H _|exact absurd ‹_› (by omega)|(exfalso;omega)|refine G2 ?_|refine E6 (λh=>?_) (λh=>?_)|refine G9 (λh=>?_) (λh=>?_)|refine E4 _ (λh=>?_) (λh=>?_)|refine F4 (by omega) (λy hy hm=>?_)|refine F6 (by omega) ?_
theorem jE(k:Nat)(hk:k<p.B3.length)(H:∀b,Ex yes (Mp ((k+1:Nat):Int) b p)):∀i:Nat,∀b,Ex yes (Nq (i:Int) (k:Int) b p):=by
 have b1:=D1 hp.np;have b2:=D1 hp.ne;refine N8 (p.D8.length) (λi hi ih b=>?_) (λi hi b=>?_)
 ·refine D5 (ku _ _ _ _) ?_
  try rw[H8 (by omega)]
  repeat' first|exact E7 trivial|exact ih|assumption|exact ih _|exact lT p hp k _ (hp.CE _ ‹_›) H hk 0 _|refine G2 ?_|refine E6 (λh=>?_) (λh=>?_)|refine G9 (λh=>?_) (λh=>?_)|refine E4 _ (λh=>?_) (λh=>?_)|refine F4 (by omega) (λy hy hm=>?_)|refine F6 (by omega) ?_
 ·refine D5 (ku _ _ _ _) ?_
  repeat' first|exact E7 trivial|exact ih|assumption|exact ih _|exact lT p hp k _ (hp.CE _ ‹_›) H hk 0 _|exact absurd ‹_› (by omega)|(exfalso;omega)|refine G2 ?_|refine E6 (λh=>?_) (λh=>?_)|refine G9 (λh=>?_) (λh=>?_)|refine E4 _ (λh=>?_) (λh=>?_)|refine F4 (by omega) (λy hy hm=>?_)|refine F6 (by omega) ?_
theorem o7:∀i:Nat,∀b,Ex yes (Mp (i:Int) b p):=by
 have b1:=D1 hp.np;have b2:=D1 hp.ne;refine N8 (p.B3.length) (λi hi ih b=>?_) (λi hi b=>?_)
 ·refine D5 (fN _ _ _) ?_
  try rw[H8 (by omega)]
  repeat' first|exact E7 trivial|exact ih|assumption|exact ih _|exact jE p hp i hi ih 0 _|exact mT p hp 0 _|refine G2 ?_|refine E6 (λh=>?_) (λh=>?_)|refine G9 (λh=>?_) (λh=>?_)|refine E4 _ (λh=>?_) (λh=>?_)|refine F4 (by omega) (λy hy hm=>?_)|refine F6 (by omega) ?_
 ·refine D5 (fN _ _ _) ?_
  repeat' first|exact E7 trivial|exact ih|assumption|exact ih _|exact jE p hp i hi ih 0 _|exact mT p hp 0 _|exact absurd ‹_› (by omega)|(exfalso;omega)|refine G2 ?_|refine E6 (λh=>?_) (λh=>?_)|refine G9 (λh=>?_) (λh=>?_)|refine E4 _ (λh=>?_) (λh=>?_)|refine F4 (by omega) (λy hy hm=>?_)|refine F6 (by omega) ?_
theorem b3p:Ex yes (ZN p):=D5 (rH _) (o7 p hp 0 _)
theorem b2p(l:b5l Be)(hl:Sz l.length)(n:Int):∀i:Nat,Ex yes (PG (i:Int) l n):=by
 have b1:=D1 hp.np;have b2:=D1 hp.ne;have b1:=D1 hl;refine N8 (l.length) (λi hi ih=>?_) (λi hi=>?_)
 ·refine D5 (kM _ _ _) ?_;rw[H8 (by omega)]
  repeat' first|exact E7 trivial|exact ih|assumption|refine G2 ?_|refine E6 (λh=>?_) (λh=>?_)|refine G9 (λh=>?_) (λh=>?_)|refine E4 _ (λh=>?_) (λh=>?_)|refine F4 (by omega) (λy hy hm=>?_)|refine F6 (by omega) ?_
 ·refine D5 (kM _ _ _) ?_
  repeat' first|exact E7 trivial|exact ih|assumption|exact absurd ‹_› (by omega)|(exfalso;omega)|refine G2 ?_|refine E6 (λh=>?_) (λh=>?_)|refine G9 (λh=>?_) (λh=>?_)|refine E4 _ (λh=>?_) (λh=>?_)|refine F4 (by omega) (λy hy hm=>?_)|refine F6 (by omega) ?_
theorem oM(l:b5l Be)(hl:Sz l.length)(n:Int):Ex yes (cC l n):=D5 (tR _ _) (b2p p hp l hl n 0)
theorem oW(A:Prop)(k:Nat)(hk:k<p.D8.length)(g:N4)(og:Eb g)(H:∀b,(b=true->A)->Ex (λr=>r=true->A) (Lc ((k+1:Nat):Int) b p)):∀i:Nat,∀b,(b=true->A)->Ex (λr=>r=true->A) (LX (i:Int) (k:Int) b p g):=by
 have b1:=D1 hp.np;have b2:=D1 hp.ne;have b3:=D1 og.ni;have b4:=D1 og.nr;refine N8 (g.Reserved.length) (λi hi ih b hA=>?_) (λi hi b hA=>?_)
 ·refine D5 (fR _ _ _ _ _) ?_
  try rw[H8 (by omega)]
  repeat' first|exact E7 (λh=>by first|exact hA ‹_›|exact hA h|cases h)|exact ih|assumption|exact ih _ (λh=>hA (by simp only[b47]at*;simp[*]))|exact ih _ (λh=>by cases h)|rw[H8 (by omega)]|exact H _ hA|rw[Ds (by omega)]|refine G2 ?_|refine E6 (λh=>?_) (λh=>?_)|refine G9 (λh=>?_) (λh=>?_)|refine E4 _ (λh=>?_) (λh=>?_)|refine F4 (by omega) (λy hy hm=>?_)|refine F6 (by omega) ?_
 ·refine D5 (fR _ _ _ _ _) ?_
  repeat' first|exact E7 (λh=>by first|exact hA ‹_›|exact hA h|cases h)|exact ih|assumption|exact ih _ (λh=>hA (by simp only[b47]at*;simp[*]))|exact ih _ (λh=>by cases h)|rw[H8 (by omega)]|exact H _ hA|rw[Ds (by omega)]|exact absurd ‹_› (by omega)|(exfalso;omega)|refine G2 ?_|refine E6 (λh=>?_) (λh=>?_)|refine G9 (λh=>?_) (λh=>?_)|refine E4 _ (λh=>?_) (λh=>?_)|refine F4 (by omega) (λy hy hm=>?_)|refine F6 (by omega) ?_
theorem lG(A:Prop)(k:Nat)(hk:k<p.D8.length)(g:N4)(og:Eb g)(H:∀b,(b=true->A)->Ex (λr=>r=true->A) (Lc ((k+1:Nat):Int) b p)):∀i:Nat,∀b,(b=true->A)->Ex (λr=>r=true->A) (QW (i:Int) (k:Int) b p g):=by
 have b1:=D1 hp.np;have b2:=D1 hp.ne;have b3:=D1 og.ni;have b4:=D1 og.nr;refine N8 (g.Items.length) (λi hi ih b hA=>?_) (λi hi b hA=>?_)
 ·refine D5 (jm _ _ _ _ _) ?_
  try rw[H8 (by omega)]
  repeat' first|exact E7 (λh=>by first|exact hA ‹_›|exact hA h|cases h)|exact ih|assumption|exact ih _ (λh=>hA (by simp only[b47]at*;simp[*]))|exact ih _ (λh=>by cases h)|exact oW p hp A k hk g og H 0 _ hA|refine G2 ?_|refine E6 (λh=>?_) (λh=>?_)|refine G9 (λh=>?_) (λh=>?_)|refine E4 _ (λh=>?_) (λh=>?_)|refine F4 (by omega) (λy hy hm=>?_)|refine F6 (by omega) ?_|refine L0 (oM p hp _ og.nr _) (λy hq=>?_)
 ·refine D5 (jm _ _ _ _ _) ?_
  repeat' first|exact E7 (λh=>by first|exact hA ‹_›|exact hA h|cases h)|exact ih|assumption|exact ih _ (λh=>hA (by simp only[b47]at*;simp[*]))|exact ih _ (λh=>by cases h)|exact oW p hp A k hk g og H 0 _ hA|exact absurd ‹_› (by omega)|(exfalso;omega)|refine G2 ?_|refine E6 (λh=>?_) (λh=>?_)|refine G9 (λh=>?_) (λh=>?_)|refine E4 _ (λh=>?_) (λh=>?_)|refine F4 (by omega) (λy hy hm=>?_)|refine F6 (by omega) ?_|refine L0 (oM p hp _ og.nr _) (λy hq=>?_)
theorem p9(A:Prop):∀i:Nat,∀b,(b=true->A)->Ex (λr=>r=true->A) (Lc (i:Int) b p):=by
 have b1:=D1 hp.np;have b2:=D1 hp.ne;refine N8 (p.D8.length) (λi hi ih b hA=>?_) (λi hi b hA=>?_)
 ·refine D5 (ga _ _ _) ?_
  try rw[H8 (by omega)]
  repeat' first|exact E7 (λh=>by first|exact hA ‹_›|exact hA h|cases h)|exact ih|assumption|exact lG p hp A i hi _ (hp.enums _ ‹_›) ih 0 _ hA|refine G2 ?_|refine E6 (λh=>?_) (λh=>?_)|refine G9 (λh=>?_) (λh=>?_)|refine E4 _ (λh=>?_) (λh=>?_)|refine F4 (by omega) (λy hy hm=>?_)|refine F6 (by omega) ?_
 ·refine D5 (ga _ _ _) ?_
  repeat' first|exact E7 (λh=>by first|exact hA ‹_›|exact hA h|cases h)|exact ih|assumption|exact lG p hp A i hi _ (hp.enums _ ‹_›) ih 0 _ hA|exact absurd ‹_› (by omega)|(exfalso;omega)|refine G2 ?_|refine E6 (λh=>?_) (λh=>?_)|refine G9 (λh=>?_) (λh=>?_)|refine E4 _ (λh=>?_) (λh=>?_)|refine F4 (by omega) (λy hy hm=>?_)|refine F6 (by omega) ?_
def Fo(o:A7):Prop:=1<=o.Num/\o.Num<=65535
theorem b0t(k:Nat)(hk:k<p.B3.length)(g:B7)(hg:p.B3[((k:Int)).toNat]? =some g)(og:Dg g)(H:∀b,(b=true->∀j g,j<k+1->p.B3[j]? =some g->∀o∈g.Ops,Fo o)->Ex (λr=>r=true->∀g∈p.B3,∀o∈g.Ops,Fo o) (OA ((k+1:Nat):Int) b p)):
  ∀i:Nat,∀b,(b=true->(∀j g,j<k->p.B3[j]? =some g->∀o∈g.Ops,Fo o)/\∀j o,j<i->g.Ops[j]? =some o->Fo o)->Ex (λr=>r=true->∀g∈p.B3,∀o∈g.Ops,Fo o) (RN (i:Int) (k:Int) b p):=by
 have b1:=D1 hp.np;have b2:=D1 hp.ne;have b3:=D1 og.n;have e3:((k:Int)).toNat=k:=by omega
 refine N8 g.Ops.length (λi hi ih b hA=>?_) (λi hi b hA=>?_)
 ·refine D5 (fH _ _ _ _) (Q7 g hg (by omega) (E6 (λ_=>Q7 g hg (by omega) (F4 (by omega) λy hy hm=>?_)) λh=>absurd (show(i:Int)<g.Ops.length by omega) h));rw[H8 (by omega)];refine ih _ λh=>?_
  simp only[b47,b45]at h;have e2:((i:Int)).toNat=i:=by omega
  rw[e2]at hy;exact⟨(hA h.1.1).1,HY (hA h.1.1).2 hy ⟨h.1.2,h.2⟩⟩
 ·refine D5 (fH _ _ _ _) (Q7 g hg (by omega) (E6 (λh=>absurd h (by omega)) λ_=>?_));rw[H8 (by omega)];exact H _ λh=>HY (hA h).1 (by rw[<-e3];exact hg) (MJ (hA h).2 hi)
theorem l6:∀i:Nat,∀b,(b=true->∀j g,j<i->p.B3[j]? =some g->∀o∈g.Ops,Fo o)->Ex (λr=>r=true->∀g∈p.B3,∀o∈g.Ops,Fo o) (OA (i:Int) b p):=by
 have b1:=D1 hp.np;have b2:=D1 hp.ne;have b1:=D1 hp.np;have b2:=D1 hp.ne;refine N8 p.B3.length (λi hi ih b hA=>?_) (λi hi b hA=>?_)
 ·obtain⟨g,hg,gm⟩:=GV hi;exact D5 (iE _ _ _) (E6 (λ_=>b0t p hp i hi g hg (hp.CE g gm) ih 0 b λh=>⟨hA h,λj o hj=>by omega⟩) λh=>absurd (show(i:Int)<p.B3.length by omega) h)
 ·exact D5 (iE _ _ _) (E6 (λh=>absurd h (by omega)) λ_=>p9 p hp _ 0 b λh=>MJ (hA h) hi)
theorem a1l:Ex (λr=>r=true->∀g∈p.B3,∀o∈g.Ops,Fo o) (Xu p):=D5 (a6c _) (l6 p hp 0 true λ_ j g h=>by omega)
end
theorem vI(b:b5n)(s:b5k):Ex yes (Li b s):=by
 refine D5 (a5r _ _) ?_
 repeat' first|exact E7 trivial|exact ih|assumption|refine G2 ?_|refine E6 (λh=>?_) (λh=>?_)|refine G9 (λh=>?_) (λh=>?_)|refine E4 _ (λh=>?_) (λh=>?_)|refine F4 (by omega) (λy hy hm=>?_)|refine F6 (by omega) ?_
theorem tU(b:b5n)(s:b5k):Ex yes (LZ b s):=by
 refine D5 (b28 _ _) ?_
 repeat' first|exact E7 trivial|exact ih|assumption|exact vI _ s|refine G2 ?_|refine E6 (λh=>?_) (λh=>?_)|refine G9 (λh=>?_) (λh=>?_)|refine E4 _ (λh=>?_) (λh=>?_)|refine F4 (by omega) (λy hy hm=>?_)|refine F6 (by omega) ?_
theorem uh(b:b5n)(s:b5k):Ex yes (PH b s):=by
 refine D5 (a1t _ _) ?_
 repeat' first|exact E7 trivial|exact ih|assumption|exact tU _ s|refine G2 ?_|refine E6 (λh=>?_) (λh=>?_)|refine G9 (λh=>?_) (λh=>?_)|refine E4 _ (λh=>?_) (λh=>?_)|refine F4 (by omega) (λy hy hm=>?_)|refine F6 (by omega) ?_
theorem ZJ(s:b5k):Ex yes (Ru s):=by
 refine D5 (rz _) ?_
 repeat' first|exact E7 trivial|exact ih|assumption|exact uh _ s|refine G2 ?_|refine E6 (λh=>?_) (λh=>?_)|refine G9 (λh=>?_) (λh=>?_)|refine E4 _ (λh=>?_) (λh=>?_)|refine F4 (by omega) (λy hy hm=>?_)|refine F6 (by omega) ?_
theorem a0o(b:b5n)(t:Int):Ex yes (QI b t):=by
 refine D5 (ri _ _) ?_
 repeat' first|exact E7 trivial|exact ih|assumption|refine G2 ?_|refine E6 (λh=>?_) (λh=>?_)|refine G9 (λh=>?_) (λh=>?_)|refine E4 _ (λh=>?_) (λh=>?_)|refine F4 (by omega) (λy hy hm=>?_)|refine F6 (by omega) ?_
theorem a23(b:b5n)(s:b5k)(t:Int):Ex yes (LP b s t):=by
 refine D5 (a04 _ _ _) ?_
 repeat' first|exact E7 trivial|exact ih|assumption|exact a0o _ t|refine G2 ?_|refine E6 (λh=>?_) (λh=>?_)|refine G9 (λh=>?_) (λh=>?_)|refine E4 _ (λh=>?_) (λh=>?_)|refine F4 (by omega) (λy hy hm=>?_)|refine F6 (by omega) ?_
theorem rL(b:b5n)(s:b5k)(t:Int):Ex yes (PP b s t):=by
 refine D5 (rq _ _ _) ?_
 repeat' first|exact E7 trivial|exact ih|assumption|exact a23 _ s t|refine G2 ?_|refine E6 (λh=>?_) (λh=>?_)|refine G9 (λh=>?_) (λh=>?_)|refine E4 _ (λh=>?_) (λh=>?_)|refine F4 (by omega) (λy hy hm=>?_)|refine F6 (by omega) ?_
theorem yh(b:b5n)(s:b5k)(t:Int):Ex yes (Sm b s t):=by
 refine D5 (b32 _ _ _) ?_
 repeat' first|exact E7 trivial|exact ih|assumption|exact rL _ s t|refine G2 ?_|refine E6 (λh=>?_) (λh=>?_)|refine G9 (λh=>?_) (λh=>?_)|refine E4 _ (λh=>?_) (λh=>?_)|refine F4 (by omega) (λy hy hm=>?_)|refine F6 (by omega) ?_
theorem kQ(s:b5k)(t:Int):Ex yes (Yu s t):=by
 refine D5 (rm _ _) ?_
 repeat' first|exact E7 trivial|exact ih|assumption|exact yh _ s t|refine G2 ?_|refine E6 (λh=>?_) (λh=>?_)|refine G9 (λh=>?_) (λh=>?_)|refine E4 _ (λh=>?_) (λh=>?_)|refine F4 (by omega) (λy hy hm=>?_)|refine F6 (by omega) ?_
theorem pb(n:AB)(hn:JQ n):Ex yes (dY n):=by
 refine D5 (a26 _) ?_
 repeat' first|exact E7 trivial|exact ih|assumption|refine ap (oH _ _ hn.val.okv) ?_|refine G2 ?_|refine E6 (λh=>?_) (λh=>?_)|refine G9 (λh=>?_) (λh=>?_)|refine E4 _ (λh=>?_) (λh=>?_)|refine F4 (by omega) (λy hy hm=>?_)|refine F6 (by omega) ?_|refine L0 (ZJ _) (λy hq=>?_)
theorem a9n(l:b5l AB)(hl:Sz l.length)(hn:∀n∈l,JQ n)(t:Int):∀i:Nat,Ex yes (QV (i:Int) l t):=by
 have b1:=D1 hl;refine N8 (l.length) (λi hi ih=>?_) (λi hi=>?_)
 ·refine D5 (ix _ _ _) ?_;rw[H8 (by omega)]
  repeat' first|exact E7 trivial|exact ih|assumption|rw[Ds (by omega)]|refine G2 ?_|refine E6 (λh=>?_) (λh=>?_)|refine G9 (λh=>?_) (λh=>?_)|refine E4 _ (λh=>?_) (λh=>?_)|refine F4 (by omega) (λy hy hm=>?_)|refine F6 (by omega) ?_|refine L0 (ZJ _) (λy hq=>?_)|refine L0 (kQ _ _) (λy hq=>?_)|refine L0 (pb _ (hn _ (by assumption))) (λy hq=>?_)
 ·refine D5 (ix _ _ _) ?_
  repeat' first|exact E7 trivial|exact ih|assumption|rw[Ds (by omega)]|exact absurd ‹_› (by omega)|(exfalso;omega)|refine G2 ?_|refine E6 (λh=>?_) (λh=>?_)|refine G9 (λh=>?_) (λh=>?_)|refine E4 _ (λh=>?_) (λh=>?_)|refine F4 (by omega) (λy hy hm=>?_)|refine F6 (by omega) ?_|refine L0 (ZJ _) (λy hq=>?_)|refine L0 (kQ _ _) (λy hq=>?_)|refine L0 (pb _ (hn _ (by assumption))) (λy hq=>?_)
theorem lS(l:b5l AB)(hl:Sz l.length)(hn:∀n∈l,JQ n)(t:Int):Ex yes (ax l t):=by
 refine D5 (vW _ _) ?_
 repeat' first|exact E7 trivial|exact ih|assumption|exact a9n l hl hn t 0|refine G2 ?_|refine E6 (λh=>?_) (λh=>?_)|refine G9 (λh=>?_) (λh=>?_)|refine E4 _ (λh=>?_) (λh=>?_)|refine F4 (by omega) (λy hy hm=>?_)|refine F6 (by omega) ?_
theorem a6l(p:A8)(o:A7):Ex (λr=>r=true->(o.Kind=10->0<=o.Target/\o.Target<p.B3.length/\o.C8≠3)/\(o.Kind=9->0<=o.Target/\o.Target<p.D8.length)/\(o.Kind≠9->o.Kind≠10->o.Target= -1)) (YR p o):=by
 refine D5 (b1h _ _) (E4 _ (λh=>E7 λh2=>?_) λh=>E4 _ (λh3=>E7 λh2=>?_) λh3=>E7 λh2=>?_)
 all_goals simp only[b47,b45,bne_iff_ne,beq_iff_eq,beq_eq_false_iff_ne,ne_eq]at*
 ·exact⟨λ_=>⟨h2.1.1,h2.1.2,h2.2⟩,λh=>by omega,λh=>by omega⟩
 ·exact⟨λh=>by omega,λ_=>h2,λh=>by omega⟩
 ·exact⟨λh=>by omega,λh=>by omega,λ_ _=>h2⟩
theorem oU(p:A8)(o:A7)(b:b5n):Ex (λr=>r=true->b=true/\(o.Kind=10->0<=o.Target/\o.Target<p.B3.length/\o.C8≠3)/\(o.Kind=9->0<=o.Target/\o.Target<p.D8.length)/\(o.Kind≠9->o.Kind≠10->o.Target= -1)/\(o.Union= -1\/o.C8=2)) (TT b p o):=by
 refine D5 (tE _ _ _) (G2 (E4 _ (λh=>L0 (a6l p o) λy hy=>E7 λh2=>?_) λh=>E7 λh2=>?_))
 ·simp only[b47,Bool.or_eq_true,beq_iff_eq]at h2;obtain⟨a1,a2,a3⟩:=hy h2.1;exact⟨h,a1,a2,a3,h2.2⟩
 ·simp at h2
theorem b2f(p:A8)(o:A7)(ho:TH o):Ex (λr=>r=true->eV p o) (Yx p o):=by
 refine D5 (ud _ _) (ap (bQ _ ho.b4x) (E4 _ (λh=>E7 λh2=>by cases h2) λh=>E4 _ (λh2=>nB (oU p o _) λr hr h3=>?_) λh2=>nB (oU p o _) λr hr h3=>?_))
 all_goals
  obtain⟨a0,a1,a2,a3,a4⟩:=hr h3;simp only[Bool.or_eq_false_iff,b46,bne_iff_ne,bne_eq_false_iff_eq,ne_eq,Bool.or_eq_true,b47,b45,beq_iff_eq]at h h2 a0;refine⟨by omega,by omega,⟨λ_=>by omega,λ_=>by omega⟩,a1,a2,a3,a4⟩
def Dh(o:A7):Prop:= -1<=o.Union
theorem zu(g:B7)(hg:Dg g):∀i:Nat,∀n:Nat,n<=i/\i<=g.Ops.length->(∀j o,j<i->g.Ops[j]? =some o->Dh o)->Ex (λr=>r=true->∀o∈g.Ops,Dh o) (Mh (i:Int) (n:Int) g):=by
 have b1:=D1 hg.n;refine N8 g.Ops.length (λi hi ih n hn hA=>?_) (λi hi n hn hA=>?_)
 ·have e2:((i:Int)).toNat=i:=by omega
  refine D5 (gk _ _ _) (E6 (λ_=>F4 (by omega) λy hy hm=>?_) λh=>absurd (show(i:Int)<g.Ops.length by omega) h);rw[H8 (by omega),H8 (by omega)];have hy':=hy;rw[e2]at hy';refine E4 _ (λh=>ih _ (by omega) (HY hA hy' ?_)) λh=>G2 ?_
  ·simp only[beq_iff_eq]at h;unfold Dh;omega
  have no:∀b,(b=false->Dh y)->Ex (α:=b5n) (λr=>r=true->∀o∈g.Ops,Dh o) (λr=>(b=true->r=false)/\(b=false->Mh ((i+1:Nat):Int) (n:Int) g r)):=λb hb=>E4 b (λ_=>E7 λh=>by cases h) λh=>ih _ (by omega) (HY hA hy' (hb h))
  refine E4 _ (λh2=>E4 _ (λh3=>no _ λh=>by cases h) λh3=>?_) λh2=>no _ λ_=>?_
  ·have:0<i:=by simp only[beq_eq_false_iff_ne]at h3;omega
   rw[Ds (by omega)];refine F4 (by omega) λz hz _=>no _ λh=>?_
   have e3:(((i - 1:Nat):Int)).toNat=i - 1:=by omega
   rw[e3]at hz;have:=hA (i - 1) z (by omega) hz;simp only[bne_eq_false_iff_eq]at h;unfold Dh at*;omega
  ·simp only[bne_eq_false_iff_eq]at h2;unfold Dh;omega
 ·exact D5 (gk _ _ _) (E6 (λh=>absurd h (by omega)) λ_=>E7 λ_=>MJ hA hi)
theorem rr(g:B7)(hg:Dg g):Ex (λr=>r=true->∀o∈g.Ops,Dh o) (bL g):=D5 (a1c _) (zu g hg 0 0 (by omega) λj o h=>by omega)
section
variable (p:A8) (hp:FO p)
 include hp
def DE(g:B7):Prop:=(∀o∈g.Ops,Dh o)/\∀o∈g.Ops,eV p o
theorem a30(k:Nat)(hk:k<p.B3.length)(g:B7)(hg:p.B3[((k:Int)).toNat]? =some g)(og:Dg g)(H:∀b,(b=true->∀j g,j<k+1->p.B3[j]? =some g->DE p g)->Ex (λr=>r=true->∀g∈p.B3,DE p g) (OZ ((k+1:Nat):Int) b p)):
  ∀i:Nat,∀b,(b=true->(∀j g,j<k->p.B3[j]? =some g->DE p g)/\(∀o∈g.Ops,Dh o)/\∀j o,j<i->g.Ops[j]? =some o->eV p o)->Ex (λr=>r=true->∀g∈p.B3,DE p g) (OB (i:Int) b (k:Int) p):=by
 have b1:=D1 hp.np;have b2:=D1 hp.ne;have b3:=D1 og.n;have e3:((k:Int)).toNat=k:=by omega
 refine N8 g.Ops.length (λi hi ih b hA=>?_) (λi hi b hA=>?_)
 ·refine D5 (ff _ _ _ _) (Q7 g hg (by omega) (E6 (λ_=>?_) λh=>absurd (show(i:Int)<g.Ops.length by omega) h));rw[H8 (by omega)];refine E4 _ (λhb=>Q7 g hg (by omega) (F4 (by omega) λy hy hm=>L0 (b2f p y (og.ops y hm)) λz hz=>ih _ λh=>?_)) λhb=>ih _ λh=>by cases h
  have e2:((i:Int)).toNat=i:=by omega
  rw[e2]at hy;exact⟨(hA hb).1,(hA hb).2.1,HY (hA hb).2.2 hy (hz h)⟩
 ·refine D5 (ff _ _ _ _) (Q7 g hg (by omega) (E6 (λh=>absurd h (by omega)) λ_=>?_));rw[H8 (by omega)];exact H _ λh=>HY (hA h).1 (by rw[<-e3];exact hg) ⟨(hA h).2.1,MJ (hA h).2.2 hi⟩
theorem gX:∀i:Nat,∀b,(b=true->∀j g,j<i->p.B3[j]? =some g->DE p g)->Ex (λr=>r=true->∀g∈p.B3,DE p g) (OZ (i:Int) b p):=by
 have b1:=D1 hp.np;have b2:=D1 hp.ne;refine N8 p.B3.length (λi hi ih b hA=>?_) (λi hi b hA=>?_)
 ·obtain⟨g,hg,gm⟩:=GV hi;have go:=a30 p hp i hi g hg (hp.CE g gm) ih 0;exact D5 (gj _ _ _) (E6 (λ_=>G2 (E4 _ (λhb=>Q7 g hg (by omega) (L0 (rr g (hp.CE g gm)) λy hy=>go _ λh=>⟨hA hb,hy h,λj o hj=>by omega⟩)) λhb=>go _ λh=>by cases h)) λh=>absurd (show(i:Int)<p.B3.length by omega) h)
 ·exact D5 (gj _ _ _) (E6 (λh=>absurd h (by omega)) λ_=>E7 λh=>MJ (hA h) hi)
theorem gv(k:Nat)(hk:k<p.D8.length)(g:N4)(hg:p.D8[((k:Int)).toNat]? =some g)(og:Eb g)(H:∀b,Ex (λr=>r=true->∀g∈p.B3,DE p g) (PD ((k+1:Nat):Int) b p)):∀i:Nat,∀b,Ex (λr=>r=true->∀g∈p.B3,DE p g) (Jz (i:Int) b (k:Int) p):=by
 have b1:=D1 hp.np;have b2:=D1 hp.ne;have b3:=D1 og.ni;refine N8 (g.Items.length) (λi hi ih b=>?_) (λi hi b=>?_)
 ·refine D5 (mc _ _ _ _) ?_
  try rw[H8 (by omega)]
  repeat' first|exact E7 trivial|exact ih|assumption|exact ih _|exact H _|refine Q7 g hg (by omega) ?_|rw[H8 (by omega)]|refine G2 ?_|refine E6 (λh=>?_) (λh=>?_)|refine G9 (λh=>?_) (λh=>?_)|refine E4 _ (λh=>?_) (λh=>?_)|refine F4 (by first|omega|(simp only[beq_iff_eq]at*;omega)) (λy hy hm=>?_)|refine F6 (by first|omega|(simp only[beq_iff_eq]at*;omega)) ?_|refine L0 (lS _ (og.items _ ‹_›).nn (og.items _ ‹_›).notes _) (λy hq=>?_)
 ·refine D5 (mc _ _ _ _) ?_
  repeat' first|exact E7 trivial|exact ih|assumption|exact ih _|exact H _|refine Q7 g hg (by omega) ?_|rw[H8 (by omega)]|exact absurd ‹_› (by omega)|(exfalso;omega)|refine G2 ?_|refine E6 (λh=>?_) (λh=>?_)|refine G9 (λh=>?_) (λh=>?_)|refine E4 _ (λh=>?_) (λh=>?_)|refine F4 (by first|omega|(simp only[beq_iff_eq]at*;omega)) (λy hy hm=>?_)|refine F6 (by first|omega|(simp only[beq_iff_eq]at*;omega)) ?_|refine L0 (lS _ (og.items _ ‹_›).nn (og.items _ ‹_›).notes _) (λy hq=>?_)
theorem u7:∀i:Nat,∀b,Ex (λr=>r=true->∀g∈p.B3,DE p g) (PD (i:Int) b p):=by
 have b1:=D1 hp.np;have b2:=D1 hp.ne;refine N8 (p.D8.length) (λi hi ih b=>?_) (λi hi b=>?_)
 ·obtain⟨g,hg,gm⟩:=GV hi;refine D5 (je _ _ _) ?_
  try rw[H8 (by omega)]
  repeat' first|exact E7 trivial|exact ih|assumption|exact ih _|exact gv p hp i hi g hg (hp.enums g gm) ih 0 _|exact gX p hp 0 _ (λ_ j g h=>by omega)|refine Q7 g hg (by omega) ?_|refine G2 ?_|refine E6 (λh=>?_) (λh=>?_)|refine G9 (λh=>?_) (λh=>?_)|refine E4 _ (λh=>?_) (λh=>?_)|refine F4 (by omega) (λy hy hm=>?_)|refine F6 (by omega) ?_
 ·refine D5 (je _ _ _) ?_
  repeat' first|exact E7 trivial|exact ih|assumption|exact ih _|exact gv p hp i hi g hg (hp.enums g gm) ih 0 _|exact gX p hp 0 _ (λ_ j g h=>by omega)|refine Q7 g hg (by omega) ?_|exact absurd ‹_› (by omega)|(exfalso;omega)|refine G2 ?_|refine E6 (λh=>?_) (λh=>?_)|refine G9 (λh=>?_) (λh=>?_)|refine E4 _ (λh=>?_) (λh=>?_)|refine F4 (by omega) (λy hy hm=>?_)|refine F6 (by omega) ?_
theorem a7v:Ex (λr=>r=true->∀g∈p.B3,DE p g) (dT p):=D5 (yw _) (u7 p hp 0 _)
variable (hF:∀g∈p.B3,DE p g)
 include hF
theorem a4p(k:Nat)(hk:k<p.B3.length)(g:B7)(hg:p.B3[((k:Int)).toNat]? =some g)(gm:g∈p.B3)(m:Int)(c:b5n)(H:∀b (l:b5l b5n),l.length=p.B3.length->Ex yes (Nv ((k+1:Nat):Int) b m p l)):
  ∀i:Nat,∀b (l:b5l b5n),l.length=p.B3.length->Ex yes (LF (i:Int) b (k:Int) c m p l):=by
 have b1:=D1 hp.np;have b2:=D1 hp.ne;have b3:=D1 (hp.CE g gm).n;refine N8 g.Ops.length (λi hi ih b l hl=>?_) (λi hi b l hl=>?_)
 ·refine D5 (jo _ _ _ _ _ _ _) (Q7 g hg (by omega) (E6 (λ_=>Q7 g hg (by omega) (F4 (by omega) λy hy hm=>?_)) λh=>absurd (show(i:Int)<g.Ops.length by omega) h));rw[H8 (by omega)];refine E4 _ (λhb=>E4 _ (λh=>ih _ l hl) λh=>?_) λhb=>ih _ l hl
  have h10:y.Kind=10:=by simp only[Bool.or_eq_false_iff,bne_eq_false_iff_eq]at h;exact h.2
  have ht:=((hF g gm).2 y hm).msg h10;refine F6 (by omega) (ap (b48 (show y.Target.toNat<l.length by omega)) (ih _ l hl))
 ·refine D5 (jo _ _ _ _ _ _ _) (Q7 g hg (by omega) (E6 (λh=>absurd h (by omega)) λ_=>F6 (by omega) (F6 (by omega) ?_)));rw[H8 (by omega)];exact H _ _ (by simpa using hl)
theorem sK(m:Nat)(hm:m<p.B3.length)(H:∀b (l:b5l b5n),l.length=p.B3.length->Ex yes (NS ((m+1:Nat):Int) p b l)):
  ∀i:Nat,∀b (l:b5l b5n),l.length=p.B3.length->Ex yes (Nv (i:Int) b (m:Int) p l):=by
 have b1:=D1 hp.np;refine N8 p.B3.length (λi hi ih b l hl=>?_) (λi hi b l hl=>?_)
 ·obtain⟨g,hg,gm⟩:=GV hi;exact D5 (jl _ _ _ _ _) (E6 (λ_=>a4p p hp hF i hi g hg gm m b ih 0 true l hl) λh=>absurd (show(i:Int)<p.B3.length by omega) h)
 ·refine D5 (jl _ _ _ _ _) (E6 (λh=>absurd h (by omega)) λ_=>?_);rw[H8 (by omega)];exact H _ l hl
theorem ta:∀i:Nat,∀b (l:b5l b5n),l.length=p.B3.length->Ex yes (NS (i:Int) p b l):=by
 refine N8 p.B3.length (λi hi ih b l hl=>?_) (λi hi b l hl=>?_)
 ·exact D5 (pn _ _ _ _) (E6 (λ_=>sK p hp hF i hi ih 0 true l hl) λh=>absurd (show(i:Int)<p.B3.length by omega) h)
 ·exact D5 (pn _ _ _ _) (E6 (λh=>absurd h (by omega)) λ_=>E7 trivial)
theorem tO:Ex yes (bm p):=by
 have b1:=D1 hp.np;exact D5 (a17 _) (F6 (by omega) (ta p hp hF 0 _ _ (by simp)))
end
structure Xq(p:A8):Prop where
 qh:∀g∈p.B3,Asc g.Ops g.Ops.length
 num:∀g∈p.B3,∀o∈g.Ops,Fo o
 XA:∀g∈p.B3,DE p g
theorem zz(p:A8)(hp:FO p):Ex (λr=>r=0->Xq p) (aa p):=by
 have no:∀{n:Int},n≠0->Ex (α:=Int) (λr=>r=0->Xq p) (λr=>r=n):=λhn=>E7 λh=>absurd h hn
 refine D5 (a9w _) (L0 (sb p hp) λy1 _=>E4 _ (λ_=>no (by decide)) λ_=>?_);refine L0 (td p hp) λy1 _=>E4 _ (λ_=>no (by decide)) λ_=>?_
 refine L0 (uo p hp) λy3 h3=>E4 _ (λ_=>no (by decide)) λk3=>?_
 refine L0 (b3p p hp) λy1 _=>E4 _ (λ_=>no (by decide)) λ_=>?_
 refine L0 (a1l p hp) λy5 h5=>E4 _ (λ_=>no (by decide)) λk5=>?_
 refine L0 (a7v p hp) λy6 h6=>E4 _ (λ_=>no (by decide)) λk6=>?_
 have hF:=h6 (by simpa using k6);exact L0 (tO p hp hF) λy1 _=>E4 _ (λ_=>no (by decide)) λ_=>E7 λ_=>⟨h3 (by simpa using k3),h5 (by simpa using k5),hF⟩
theorem Yh{num:Int}:∀{l:b5l A7},(J9 num l).2->(J9 num l).1.Num=num/\(J9 num l).1∈l
 |[],h=>by simp[J9]at h
 |o::l,h=>by
  by_cases e:(o.Num==num)=true
  ·have q:J9 num (o::l)=(o,true):=by simp only[J9];rw[if_pos e]
   rw[q];exact⟨by simpa using e,by simp⟩
  ·have q:J9 num (o::l)=J9 num l:=by simp only[J9];rw[if_neg e]
   rw[q]at h ⊢;exact⟨(Yh h).1,List.mem_cons_of_mem _ (Yh h).2⟩
theorem OW{g:B7}{num:Int}(h:(I5 g num).2):(I5 g num).1.Num=num/\(I5 g num).1∈g.Ops:=Yh h
theorem F1.Qt{v:A0}(h:F1 v):∀x∈v.C4,Jt x:=by
 cases h with
 |mk _ _ _ _ _ _ _ _ _ _ _ _ _ hr _=>exact hr
structure BD(p:A8):Prop where
 e:HR p
 pl:FO p
 va:Xq p
theorem BD.ops{p:A8}(h:BD p){g:B7}(hg:g∈p.B3):g.Ops.length<=140737488351232:=(h.pl.CE g hg).n
section
variable {p:A8}(hp:BD p)
 include hp
section
end
end
section
variable {α:Type}{c:α->α->Int}
theorem pH{x y:α}{l:b5l α}:y∈I0 c x l↔y=x\/y∈l:=by
 rw[(Oa x l).mem_iff];simp
theorem FM:∀(l:b5l α),∀y∈K1 c l,y∈l
 |[],y,h=>h
 |x::l,y,h=>by
  simp only[K1]at h;split at h
  ·rcases pH.1 h with h|h
   ·simp[h]
   ·exact List.mem_cons_of_mem _ (FM l y h)
  ·exact List.mem_cons_of_mem _ (FM l y h)
theorem Ja:∀(l:b5l α),(K1 c l).length<=l.length
 |[]=>by simp[K1]
 |x::l=>by
  have:=Ja l;simp only[K1];split
  ·rw[Yo];simp;omega
  ·simp;omega
theorem jD(h:Tp c)(x:α):∀S:b5l α,(∀y∈S,c x y≠0)->S.Pairwise (λa b=>c a b<0)->(I0 c x S).Pairwise (λa b=>c a b<0)
 |[],_,_=>by simp[I0]
 |y::S,hne,hs=>by
  obtain⟨hy,hS⟩:=List.pairwise_cons.1 hs;simp only[I0];split
  ·rename_i e;refine List.pairwise_cons.2 ⟨λz hz=>?_,jD h x S (λy hy=>hne y (by simp[hy])) hS⟩;rcases pH.1 hz with h2|h2
   ·rw[h2];exact e
   ·exact hy z h2
  ·rename_i e;have s1:=h.s y x;have s2:=h.s x y;have n1:=hne y (by simp);have e2:c x y<0:=by omega
   refine List.pairwise_cons.2 ⟨λz hz=>?_,hs⟩;rcases List.mem_cons.1 hz with h2|h2
   ·rw[h2];exact e2
   ·have q1:=hy z h2;have q2:=hne z (by simp[h2]);have:=h.t x y z (by omega) (by omega);omega
theorem a7r{x:α}{l:b5l α}(h:lone c x l):∀y∈l,c x y≠0:=λy hy=>by
 have:=List.all_eq_true.1 h y hy;simpa using this
theorem TI(h:Tp c):∀l:b5l α,(K1 c l).Pairwise (λa b=>c a b<0)
 |[]=>.nil
 |x::l=>by
  simp only[K1];split
  ·rename_i e;exact jD h x _ (λy hy=>a7r e y (FM l y hy)) (TI h l)
  ·exact TI h l
end
theorem FN{α β:Type}{J:Nat->b5l β->Prop}{E:b5l β->Prop}(s:b5l α)(g:α->b5l β)(step:∀i (hi:i<s.length) acc,acc.length<=i->J (i+1) (acc++g s[i])->J i acc)(hg:∀x∈s,(g x).length<=1)(fin:∀acc,acc.length<=s.length->E acc->J s.length acc)(h:E (s.flatMap g)):J 0 []:=by
 have key:∀d i (acc:b5l β),s.length - i<=d->i<=s.length->acc.length<=i->E (acc++(s.drop i).flatMap g)->J i acc:=by
  intro d
  induction d with
  |zero=>
   intro i acc hd hi ha hE;have e:i=s.length:=by omega
   subst e;rw[List.drop_length]at hE;exact fin acc ha (by simpa using hE)
  |succ d ih=>
   intro i acc hd hi ha hE;rcases Nat.lt_or_ge i s.length with hlt|hge
   ·have dl:s.drop i=s[i]::s.drop (i+1):=b5c hlt;rw[dl,List.flatMap_cons,<-List.append_assoc]at hE;refine step i hlt acc ha (ih (i+1) _ (by omega) (by omega) ?_ hE);have:=hg _ (List.getElem_mem hlt);simp;omega
   ·have e:i=s.length:=by omega
    subst e;rw[List.drop_length]at hE;exact fin acc ha (by simpa using hE)
 exact key s.length 0 [] (by omega) (by omega) (by simp) (by simpa using h)
theorem bB{α β:Type}(s:b5l α)(g:α->b5l β)(hg:∀x∈s,(g x).length<=1):(s.flatMap g).length<=s.length:=by
 induction s with
 |nil=>simp
 |cons x s ih=>
  have h1:=hg x (by simp);have h2:=ih λy hy=>hg y (by simp[hy])
  simp only[List.flatMap_cons,b5i,List.length_cons];omega
theorem MP{α β:Type}(f:α->β):∀s:b5l α,s.flatMap (λx=>[f x])=s.map f
 |[]=>rfl
 |x::s=>by simp[MP f s]
abbrev Du:=Int->A0->A0
def Av(N:Du)(o:A7)(v:A0):A0:=if o.Kind=10 then N o.Target v else Z9 v
noncomputable def Ed(l:b5l (A0 × A0)):b5l (A0 × A0):=K1 (kc (SizeOf.sizeOf l)) l
noncomputable def W5(N:Du)(o:A7)(v:A0):A0:=
 if o.C8=4 then⟨11,0,⟨#[]⟩,v.B8.map (Av N o),[],[],[]⟩
 else if o.C8=5 then⟨12,0,⟨#[]⟩,[],(Ed v.Pairs).map (λx=>(Z9 x.1,Av N o x.2)),[],[]⟩
 else Av N o v
def FX(o:A7):b5n:=((o.C8==3)||(o.C8==4))||(o.C8==5)
noncomputable def O6(N:Du)(o:A7)(num:Int)(v:A0):b5l (Int × A0):=if(!FX o|| !Dj (W5 N o v))=true then [(num,W5 N o v)] else []
noncomputable def Cx(N:Du)(g:B7)(v:A0):A0:=⟨10,0,⟨#[]⟩,[],[],(K1 kn v.Slots).flatMap λx=>O6 N (I5 g x.1).1 x.1 x.2,sC kr v.C4⟩
noncomputable def BL(p:A8):Nat->Du
 |0,_,_=>⟨0,0,⟨#[]⟩,[],[],[],[]⟩
 |n+1,t,v=>match p.B3[t.toNat]? with
  |none=>⟨0,0,⟨#[]⟩,[],[],[],[]⟩
  |some g=>Cx (BL p n) g v
theorem Pd(N:Du)(o:A7)(num:Int)(v:A0):(O6 N o num v).length<=1:=by
 unfold O6;split<;>simp
theorem gU(l:b5l (A0 × A0))(h:∀x∈l,F1 x.1/\F1 x.2):∀x∈l,Cn (SizeOf.sizeOf l) x:=λx hx=>by
 have:=List.sizeOf_lt_of_mem hx;refine⟨(h x hx).1,?_⟩;cases x;simp at this ⊢;omega
theorem Qh{l:b5l (A0 × A0)}{x:A0 × A0}(h:x∈Ed l):x∈l:=FM l x h
theorem RI(l:b5l (A0 × A0)):(Ed l).length<=l.length:=Ja l
theorem GB.bits{v:A0}(h:GB v):0<=v.Bits/\v.Bits<18446744073709551616:=⟨h.b0,h.b1⟩
theorem VZ{v:A0}(h:F1 v):F1 (Z9 v):=by
 unfold Z9;split
 ·cases h with
  |mk _ k b t l p s r hl hk hv hn hs hr w=>exact .mk _ k (show AJ 9221120237041090560 from⟨by decide,by decide⟩) t l p s r hl hk hv hn hs hr w
 ·exact h
theorem kI{num:Int}:∀{l:b5l A7},(J9 num l).2=false->(J9 num l).1=XB
 |[],_=>rfl
 |o::l,h=>by
  by_cases e:(o.Num==num)=true
  ·have q:J9 num (o::l)=(o,true):=by simp only[J9];rw[if_pos e]
   rw[q]at h;cases h
  ·have q:J9 num (o::l)=J9 num l:=by simp only[J9];rw[if_neg e]
   rw[q]at h ⊢;exact kI h
def Fs(p:A8)(o:A7):Prop:=o.Kind=10->∃g,p.B3[o.Target.toNat]? =some g/\0<=o.Target
theorem Nj{p:A8}(hp:BD p){g:B7}(hg:g∈p.B3)(num:Int):Fs p (I5 g num).1:=by
 intro h;rcases Bool.eq_false_or_eq_true (I5 g num).2 with q|q
 ·obtain⟨_,hop⟩:=OW q;obtain⟨t0,t1,_⟩:=((hp.va.XA g hg).2 _ hop).msg h;have hlt:(I5 g num).1.Target.toNat<p.B3.length:=by omega
  exact⟨_,b48 hlt,t0⟩
 ·have:(I5 g num).1=XB:=kI q;rw[this]at h;exact absurd h (by decide)
section
variable {p:A8}(hp:BD p)
 include hp
section
variable {N:Du}{B:A0->Prop}(hN:∀(t:Int) (g:B7) (v:A0),p.B3[t.toNat]? =some g->0<=t->B v->Ie p t v (N t v))
 include hN
theorem XZ(o:A7)(ho:Fs p o)(v:A0)(hv:F1 v)(hb:B v):Pz p o v (Av N o v):=by
 refine a6p _ _ _ _ ⟨λh=>?_,λh=>⟨_,cG v hv.okv.bits,?_⟩⟩
 ·have hk:o.Kind=10:=by simpa using h
  obtain⟨g,hg,t0⟩:=ho hk;exact⟨_,hN _ g v hg t0 hb,by rw[Av,if_pos hk]⟩
 ·rw[Av,if_neg (by simpa using h)]
theorem kw(o:A7)(ho:Fs p o)(v:A0)(hv:F1 v)(hb:B v)(hbl:∀x∈v.B8,B x)(hbp:∀x∈v.Pairs,B x.2):Rg p o v (W5 N o v):=by
 obtain⟨_,_,⟨la,pa,sa,ra⟩,hl,hps,hs⟩:=hv.inv;have b1:=D1 la;have b2:=D1 pa;have w1:=D1 hv.w.1;have w2:=D1 hv.w.2.1;refine a7d _ _ _ _ ⟨λh=>?_,λh=>⟨λh4=>⟨_,gV _ v.Pairs (by omega) (gU _ hps),?_⟩,λh4=>⟨_,XZ hp hN o ho v hv hb,?_⟩⟩⟩
 ·have hc:o.C8=4:=by simpa using h
  refine FN (J:=λi acc=>WA i v p o acc _) (E:=λacc=>W5 N o v=⟨11,0,⟨#[]⟩,acc,[],[],[]⟩) v.B8 (λx=>[Av N o x]) (λi hi acc ha hj=>?_) (λx hx=>by simp) (λacc ha he=>?_) ?_
  ·have e1:wI ((i:Int)+1)=((i+1:Nat):Int):=by rw[wI,C7 (by omega)];omega
   have hx:=List.getElem_mem hi;refine mL _ _ _ _ _ _ ⟨λ_=>⟨v.B8[i],by simp,by omega,_,XZ hp hN o ho _ (hl _ hx) (hbl _ hx),by simp;omega,?_⟩,λh=>by simp at h;omega⟩;rw[e1];exact hj
  ·exact mL _ _ _ _ _ _ ⟨λh=>by simp at h,λ_=>he⟩
  ·rw[MP,W5,if_pos hc]
 ·have hc:o.C8=5:=by simpa using h4
  have hc4:¬o.C8=4:=by simpa using h
  have b3:=RI v.Pairs;refine FN (J:=λi acc=>Ro i (Ed v.Pairs) p o acc _) (E:=λacc=>W5 N o v=⟨12,0,⟨#[]⟩,[],acc,[],[]⟩) (Ed v.Pairs) (λx=>[(Z9 x.1,Av N o x.2)]) (λi hi acc ha hj=>?_) (λx hx=>by simp) (λacc ha he=>?_) ?_
  ·have e1:wI ((i:Int)+1)=((i+1:Nat):Int):=by rw[wI,C7 (by omega)];omega
   have hx:=Qh (List.getElem_mem hi);refine oa _ _ _ _ _ _ ⟨λ_=>⟨(Ed v.Pairs)[i],by simp,by omega,_,cG _ (hps _ hx).1.okv.bits,_,XZ hp hN o ho _ (hps _ hx).2 (hbp _ hx),by simp;omega,?_⟩,λh=>by simp at h;omega⟩;rw[e1];exact hj
  ·exact oa _ _ _ _ _ _ ⟨λh=>by simp at h,λ_=>he⟩
  ·rw[MP,W5,if_neg hc4,if_pos hc]
 ·rw[W5,if_neg (by simpa using h),if_neg (by simpa using h4)]
theorem RW(hNok:∀t v,F1 v->F1 (N t v))(o:A7)(v:A0)(hv:F1 v):F1 (W5 N o v):=by
 have key:∀v,F1 v->F1 (Av N o v):=λv hv=>by
  unfold Av;split
  ·exact hNok _ _ hv
  ·exact VZ hv
 obtain⟨_,_,⟨la,pa,sa,ra⟩,hl,hps,hs⟩:=hv.inv;obtain⟨w1,w2,_,_⟩:=hv.w;have z:Sz 0:=Nat.zero_le _;have b3:=RI v.Pairs;unfold W5;split
 ·refine .mk _ (show I64 11 from⟨by decide,by decide⟩) (show AJ 0 from⟨by decide,by decide⟩) z (by simpa using la) z z z (λx hx=>?_) (λx hx=>by cases hx) (λx hx=>by cases hx) (λx hx=>by cases hx) (λx hx=>by cases hx) (λx hx=>by cases hx) ⟨by simpa using w1,z,z,z⟩;obtain⟨y,hy,rfl⟩:=List.mem_map.1 hx;exact key y (hl y hy)
 split
 ·refine .mk _ (show I64 12 from⟨by decide,by decide⟩) (show AJ 0 from⟨by decide,by decide⟩) z z ?_ z z (λx hx=>by cases hx) (λx hx=>?_) (λx hx=>?_) (λx hx=>by cases hx) (λx hx=>by cases hx) (λx hx=>by cases hx) ⟨z,?_,z,z⟩
  ·simp only[List.length_map];exact Nat.le_trans b3 pa
  ·obtain⟨y,hy,rfl⟩:=List.mem_map.1 hx;exact VZ (hps y (Qh hy)).1
  ·obtain⟨y,hy,rfl⟩:=List.mem_map.1 hx;exact key _ (hps y (Qh hy)).2
  ·simp only[List.length_map];exact Nat.le_trans (Nat.mul_le_mul_right _ b3) w2
 ·exact key v hv
theorem sB(hNok:∀t v,F1 v->F1 (N t v))(t:Int)(ht:0<=t)(g:B7)(hgt:p.B3[t.toNat]? =some g)(v:A0)(hv:F1 v)(hb:∀x∈v.Slots,B x.2/\(∀y∈x.2.B8,B y)/\∀y∈x.2.Pairs,B y.2):Ie p t v (Cx N g v):=by
 have hg:g∈p.B3:=b5g hgt;have hlt:t.toNat<p.B3.length:=(List.getElem?_eq_some_iff.1 hgt).1;obtain⟨_,_,⟨la,pa,sa,ra⟩,hl,hps,hs⟩:=hv.inv;have b1:=D1 sa;have w3:=D1 hv.w.2.2.1;have w4:=D1 hv.w.2.2.2;have b3:=Ja (c:=kn) v.Slots;have so:=a84 v.Slots (by omega);have off:((decide (t<0))||(decide ((p.B3.length:Int)<=t)))=false:=by simp;omega
 have may:∀(o:A7),FX o=(((o.C8==3)||(o.C8==4))||(o.C8==5)):=λ_=>rfl
 refine a0c _ _ _ _ ⟨λh0=>⟨yg _ _ ⟨h0,by rfl⟩,λh=>(by rw[off]at h;cases h),λ_=>⟨_,so,?_⟩⟩,λh0=>⟨zy _ ⟨h0,by omega⟩,λh=>(by rw[off]at h;cases h),λ_=>⟨_,so,?_⟩⟩⟩
 ·refine FN (J:=λi acc=>PU i (K1 kn v.Slots) t p acc _) (E:=λacc=>Cx N g v=⟨10,0,⟨#[]⟩,[],[],acc,[]⟩) (K1 kn v.Slots) (λx=>O6 N (I5 g x.1).1 x.1 x.2) (λi hi acc ha hj=>?_) (λx hx=>Pd _ _ _ _) (λacc ha he=>?_) ?_
  ·have e1:wI ((i:Int)+1)=((i+1:Nat):Int):=by rw[wI,C7 (by omega)];omega
   have hx:=FM _ _ (List.getElem_mem hi);have oz:=RW hp hN hNok (I5 g (K1 kn v.Slots)[i].1).1 _ (hs _ hx);refine fB _ _ _ _ _ _ ⟨λ_=>⟨(K1 kn v.Slots)[i],by simp,by omega,g,hgt,ht,_,ck g (hp.ops hg) _,_,kw hp hN _ (Nj hp hg _) _ (hs _ hx) (hb _ hx).1 (hb _ hx).2.1 (hb _ hx).2.2,λb=>b=(!FX (I5 g (K1 kn v.Slots)[i].1).1|| !Dj (W5 N (I5 g (K1 kn v.Slots)[i].1).1 (K1 kn v.Slots)[i].2)),λb hbb=>⟨λh=>?_,λh=>?_⟩,λh=>?_,λh=>⟨_,nh _ oz.okv,?_⟩⟩,λh=>by simp at h;omega⟩
   ·subst hbb;refine⟨by simp;omega,?_⟩;rw[O6,if_pos h]at hj;rw[e1];exact hj
   ·subst hbb;rw[O6,if_neg (nt h)]at hj;rw[e1];simpa using hj
   ·rw[may,h,Bool.true_or]
   ·rw[may,h,Bool.false_or]
  ·exact fB _ _ _ _ _ _ ⟨λh=>by simp at h,λ_=>⟨a85 _,he⟩⟩
  ·rw[Cx,h0];rfl
 ·obtain⟨r1,r2,r3⟩:=a37 v.C4 h0 (D1 ra);refine FN (J:=λi acc=>QR i (K1 kn v.Slots) t p v acc _) (E:=λacc=>Cx N g v=⟨10,0,⟨#[]⟩,[],[],acc,sC kr v.C4⟩) (K1 kn v.Slots) (λx=>O6 N (I5 g x.1).1 x.1 x.2) (λi hi acc ha hj=>?_) (λx hx=>Pd _ _ _ _) (λacc ha he=>?_) ?_
  ·have e1:wI ((i:Int)+1)=((i+1:Nat):Int):=by rw[wI,C7 (by omega)];omega
   have hx:=FM _ _ (List.getElem_mem hi);have oz:=RW hp hN hNok (I5 g (K1 kn v.Slots)[i].1).1 _ (hs _ hx);refine pi _ _ _ _ _ _ _ ⟨λ_=>⟨(K1 kn v.Slots)[i],by simp,by omega,g,hgt,ht,_,ck g (hp.ops hg) _,_,kw hp hN _ (Nj hp hg _) _ (hs _ hx) (hb _ hx).1 (hb _ hx).2.1 (hb _ hx).2.2,λb=>b=(!FX (I5 g (K1 kn v.Slots)[i].1).1|| !Dj (W5 N (I5 g (K1 kn v.Slots)[i].1).1 (K1 kn v.Slots)[i].2)),λb hbb=>⟨λh=>?_,λh=>?_⟩,λh=>?_,λh=>⟨_,nh _ oz.okv,?_⟩⟩,λh=>by simp at h;omega⟩
   ·subst hbb;refine⟨by simp;omega,?_⟩;rw[O6,if_pos h]at hj;rw[e1];exact hj
   ·subst hbb;rw[O6,if_neg (nt h)]at hj;rw[e1];simpa using hj
   ·rw[may,h,Bool.true_or]
   ·rw[may,h,Bool.false_or]
  ·exact pi _ _ _ _ _ _ _ ⟨λh=>by simp at h,λ_=>⟨_,r1,⟨h0,r2⟩,r3,he⟩⟩
  ·rw[Cx]
theorem vK(hNok:∀t v,F1 v->F1 (N t v))(g:B7)(v:A0)(hv:F1 v):F1 (Cx N g v):=by
 have z:Sz 0:=Nat.zero_le _;obtain⟨_,_,⟨la,pa,sa,ra⟩,hl,hps,hs⟩:=hv.inv;obtain⟨_,_,w3,w4⟩:=hv.w;have hlen:((K1 kn v.Slots).flatMap λx=>O6 N (I5 g x.1).1 x.1 x.2).length<=v.Slots.length:=Nat.le_trans (bB _ _ λx hx=>Pd _ _ _ _) (Ja _);have hr:(sC kr v.C4).length=v.C4.length:=(Jp v.C4).length_eq;have hi:∀x∈v.Slots,I64 x.1:=by cases hv with|mk _ _ _ _ _ _ _ _ _ _ _ hn _ _ _=>exact hn
 have mem:∀x∈(K1 kn v.Slots).flatMap λx=>O6 N (I5 g x.1).1 x.1 x.2,I64 x.1/\F1 x.2:=λx hx=>by
  obtain⟨y,hy,h⟩:=List.mem_flatMap.1 hx;unfold O6 at h;split at h
  ·have:=List.mem_singleton.1 h;subst this;have hy':=FM _ _ hy;exact⟨hi y hy',RW hp hN hNok _ _ (hs y hy')⟩
  ·cases h
 refine .mk _ (show I64 10 from⟨by decide,by decide⟩) (show AJ 0 from⟨by decide,by decide⟩) z z z (Nat.le_trans hlen sa) (show Sz (sC kr v.C4).length by rw[hr];exact ra) (λx hx=>by cases hx) (λx hx=>by cases hx) (λx hx=>by cases hx) (λx hx=>(mem x hx).1) (λx hx=>(mem x hx).2) (λx hx=>hv.Qt x ((Jp v.C4).mem_iff.1 hx)) ⟨z,z,Nat.le_trans (Nat.mul_le_mul_right _ hlen) w3,show Sz ((sC kr v.C4).length*40) by rw[hr];exact w4⟩
end
theorem gn:F1 ⟨0,0,⟨#[]⟩,[],[],[],[]⟩:=by
 have z:Sz 0:=Nat.zero_le _;exact .mk _ ⟨by decide,by decide⟩ ⟨by decide,by decide⟩ z z z z z (λx hx=>by cases hx) (λx hx=>by cases hx) (λx hx=>by cases hx) (λx hx=>by cases hx) (λx hx=>by cases hx) (λx hx=>by cases hx) ⟨z,z,z,z⟩
theorem Xw:∀(n:Nat),(∀(t:Int) (g:B7) (v:A0),p.B3[t.toNat]? =some g->0<=t->F1 v/\SizeOf.sizeOf v<=n->Ie p t v (BL p n t v))/\∀t v,F1 v->F1 (BL p n t v)
 |0=>⟨λt g v _ _ h=>by have:=Ky v;omega,λt v _=>gn hp⟩
 |n+1=>by
  obtain⟨h1,h2⟩:=Xw n;refine⟨λt g v hgt ht ⟨hv,hn⟩=>?_,λt v hv=>?_⟩
  ·obtain⟨_,_,_,_,_,hs⟩:=hv.inv
   have hB:∀x∈v.Slots,(F1 x.2/\SizeOf.sizeOf x.2<=n)/\(∀y∈x.2.B8,F1 y/\SizeOf.sizeOf y<=n)/\∀y∈x.2.Pairs,F1 y.2/\SizeOf.sizeOf y.2<=n:=λx hx=>by
    have z1:=Kx hx;obtain⟨_,_,_,q1,q2,_⟩:=(hs x hx).inv;exact⟨⟨hs x hx,by omega⟩,λy hy=>⟨q1 y hy,by have:=Kp hy;omega⟩,λy hy=>⟨(q2 y hy).2,by have:=Kt hy;omega⟩⟩
   have e:BL p (n+1) t v=Cx (BL p n) g v:=by simp only[BL,hgt]
   rw[e];exact sB hp h1 h2 t ht g hgt v hv hB
  ·simp only[BL];split
   ·exact gn hp
   ·exact vK hp h1 h2 _ v hv
theorem d4(n:Nat)(t:Int)(g:B7)(v:A0)(hgt:p.B3[t.toNat]? =some g)(ht:0<=t)(hv:F1 v)(hn:SizeOf.sizeOf v<=n):Ie p t v (BL p n t v):=(Xw hp n).1 t g v hgt ht ⟨hv,hn⟩
theorem tq(n:Nat)(t:Int)(v:A0)(hv:F1 v):F1 (BL p n t v):=(Xw hp n).2 t v hv
end
theorem Rb{α β:Type}{s:b5l α}{f g:α->b5l β}(h:∀x∈s,f x=g x):s.flatMap f=s.flatMap g:=by
 induction s with
 |nil=>rfl
 |cons x s ih=>rw[List.flatMap_cons,List.flatMap_cons,h x (by simp),ih λy hy=>h y (by simp[hy])]
section
variable {β:Type}(G:A7->Int × A0->b5l β)
def Z3(l:b5l (Int × A0))(o:A7):b5l β:=l.flatMap λx=>if x.1=o.Num then G o x else []
theorem hY{l:b5l (Int × A0)}{o:A7}(h:∀x∈l,x.1≠o.Num):Z3 G l o=[]:=by
 unfold Z3;rw[List.flatMap_eq_nil_iff];intro x hx;rw[if_neg (h x hx)]
def Mo(l:b5l (Int × A0)):Prop:=l.Pairwise λx y=>x.1≠y.1
theorem uC{l m:b5l (Int × A0)}(h:l.Perm m)(hd:Mo l)(o:A7):Z3 G l o=Z3 G m o:=by
 induction h with
 |nil=>rfl
 |cons x h ih=>
  have:=ih (List.pairwise_cons.1 hd).2;unfold Z3 at this ⊢;rw[List.flatMap_cons,List.flatMap_cons,this]
 |swap x y l=>
  have h1:=(List.pairwise_cons.1 hd).1 x (by simp);unfold Z3;simp only[List.flatMap_cons]
  by_cases e:y.1=o.Num
  ·rw[if_neg (show ¬x.1=o.Num by omega)];simp
  ·rw[if_neg e];simp
 |trans h1 h2 ih1 ih2=>exact(ih1 hd).trans (ih2 (h1.pairwise hd λh=>h.symm))
theorem cD:∀(ops:b5l A7) (S:b5l (Int × A0)),ops.Pairwise (λa b=>a.Num<b.Num)->S.Pairwise (λx y=>x.1<y.1)->(∀x∈S,∃o∈ops,o.Num=x.1)->ops.flatMap (Z3 G S)=S.flatMap λx=>G (J9 x.1 ops).1 x
 |[],S,_,_,hs=>by
  cases S with
  |nil=>rfl
  |cons x S=>obtain⟨o,ho,_⟩:=hs x (by simp);cases ho
 |o::ops,S,hops,hS,hs=>by
  obtain⟨h1,h2⟩:=List.pairwise_cons.1 hops;cases S with
  |nil=>simp[Z3]
  |cons x S=>
   obtain⟨h3,h4⟩:=List.pairwise_cons.1 hS;rw[List.flatMap_cons]
   by_cases e:x.1=o.Num
   ·have hin:∀y∈S,∃q∈ops,q.Num=y.1:=λy hy=>by
     obtain⟨q,hq,hn⟩:=hs y (by simp[hy]);rcases List.mem_cons.1 hq with h5|h5
     ·rw[h5]at hn;have:=h3 y hy;omega
     ·exact⟨q,h5,hn⟩
    have ih:=cD ops S h2 h4 hin
    have e1:Z3 G (x::S) o=G o x:=by
     have:Z3 G S o=[]:=hY G λy hy=>by have:=h3 y hy;omega
     unfold Z3 at this ⊢;rw[List.flatMap_cons,this,if_pos e,List.append_nil]
    have e2:ops.flatMap (Z3 G (x::S))=ops.flatMap (Z3 G S):=by
     refine Rb λq hq=>?_
     have:=h1 q hq;unfold Z3;rw[List.flatMap_cons,if_neg (by omega),List.nil_append]
    rw[e1,e2,ih,List.flatMap_cons];have e3:J9 x.1 (o::ops)=(o,true):=by simp only[J9];rw[if_pos (by simp[e])]
    rw[e3]
    congr 1
    refine Rb λy hy=>?_
    have:=h3 y hy;simp only[J9];rw[if_neg (by simp;omega)]
   ·have hin:∀y∈x::S,∃q∈ops,q.Num=y.1:=λy hy=>by
     obtain⟨q0,hq0,hn0⟩:=hs x (by simp)
     have hx:o.Num<x.1:=by
      rcases List.mem_cons.1 hq0 with h5|h5
      ·rw[h5]at hn0;omega
      ·have:=h1 q0 h5;omega
     obtain⟨q,hq,hn⟩:=hs y hy;rcases List.mem_cons.1 hq with h5|h5
     ·rw[h5]at hn;rcases List.mem_cons.1 hy with h6|h6
      ·rw[h6]at hn;omega
      ·have:=h3 y h6;omega
     ·exact⟨q,h5,hn⟩
    have hne:∀y∈x::S,y.1≠o.Num:=λy hy=>by
     obtain⟨q,hq,hn⟩:=hin y hy;have:=h1 q hq;omega
    have ih:=cD ops (x::S) h2 hS hin;rw[hY G hne,List.nil_append,ih];refine Rb λy hy=>?_
    have:=hne y hy;simp only[J9];rw[if_neg (by simp;omega)]
end
theorem iK{α:Type}{c:α->α->Int}:∀(l:b5l α),l.Pairwise (λx y=>c x y≠0)->(K1 c l).Perm l
 |[],_=>.refl _
 |x::l,h=>by
  obtain⟨h1,h2⟩:=List.pairwise_cons.1 h
  have:lone c x l:=by
   rw[lone,b5e];intro y hy;simpa using h1 y hy
  simp only[K1];rw[if_pos this];exact(Oa x _).trans ((iK l h2).cons x)
theorem a7z{β:Type}(G:A7->Int × A0->b5l β)(ops:b5l A7)(l:b5l (Int × A0))(hops:ops.Pairwise (λa b=>a.Num<b.Num))(hd:Mo l)(hs:∀x∈l,∃o∈ops,o.Num=x.1):ops.flatMap (Z3 G l)=(K1 kn l).flatMap λx=>G (J9 x.1 ops).1 x:=by
 have hp:(K1 kn l).Perm l:=iK l (hd.imp λ{x y} h=>Uf.2 h)
 have hS:(K1 kn l).Pairwise (λx y=>x.1<y.1):=(TI Qg l).imp λ{x y} h=>by
  rcases Z8 x.1 y.1 with q|q|q<;>simp only[kn]at h<;>omega
 rw[<-cD G ops (K1 kn l) hops hS λx hx=>hs x (hp.mem_iff.1 hx)];exact Rb λo _=>uC G hp.symm hd o
theorem lP{l:b5l A7}(h:Asc l l.length):l.Pairwise λa b=>a.Num<b.Num:=by
 rw[List.pairwise_iff_getElem]
 have key:∀d i (hi:i<l.length) (hj:i+d+1<l.length),l[i].Num<l[i+d+1].Num:=by
  intro d
  induction d with
  |zero=>intro i hi hj;exact h i _ _ hj (b48 hi) (b48 hj)
  |succ d ih=>
   intro i hi hj;have h1:=ih i hi (by omega);have h2:=h (i+d+1) _ _ (by omega) (b48 (by omega)) (b48 (show i+d+1+1<l.length by omega));have e:l[i+(d+1)+1]=l[i+d+1+1]:=rfl;rw[e];omega
 intro i j hi hj hij;have:=key (j - i - 1) i hi (by omega);have e:i+(j - i - 1)+1=j:=by omega
 simp only[e]at this;exact this
section
variable {p:A8}(hp:BD p)
 include hp
section
variable {N:Du}{B:Int->A0->Prop}(hN:∀(t:Int) (g:B7) (v:A0),p.B3[t.toNat]? =some g->0<=t->B t v->LS p t v (N t v))
 include hN
theorem XY(o:A7)(ho:Fs p o)(v:A0)(hv:F1 v)(hb:o.Kind=10->B o.Target v):On p o v (Av N o v):=by
 refine a2f _ _ _ _ ⟨λh=>?_,λh=>⟨_,ak v hv.okv.bits,?_⟩⟩
 ·have hk:o.Kind=10:=by simpa using h
  obtain⟨g,hg,t0⟩:=ho hk;exact⟨_,hN _ g v hg t0 (hb hk),by rw[Av,if_pos hk]⟩
 ·rw[Av,if_neg (by simpa using h)]
theorem wb(o:A7)(ho:Fs p o)(v:A0)(hv:F1 v)(hb:o.C8≠4->o.C8≠5->o.Kind=10->B o.Target v)(hbl:o.C8=4->o.Kind=10->∀x∈v.B8,B o.Target x)(hbp:o.C8=5->o.Kind=10->∀x∈v.Pairs,B o.Target x.2):bX p o v (W5 N o v):=by
 obtain⟨_,_,⟨la,pa,sa,ra⟩,hl,hps,hs⟩:=hv.inv;have b1:=D1 la;have b2:=D1 pa;have w1:=D1 hv.w.1;have w2:=D1 hv.w.2.1;refine a4x _ _ _ _ ⟨λh=>?_,λh=>⟨λh4=>⟨_,mq _ v.Pairs (by omega) (gU _ hps),?_⟩,λh4=>⟨_,XY hp hN o ho v hv (hb (by simpa using h) (by simpa using h4)),?_⟩⟩⟩
 ·have hc:o.C8=4:=by simpa using h
  refine FN (J:=λi acc=>VY i p o v acc _) (E:=λacc=>W5 N o v=⟨11,0,⟨#[]⟩,acc,[],[],[]⟩) v.B8 (λx=>[Av N o x]) (λi hi acc ha hj=>?_) (λx hx=>by simp) (λacc ha he=>?_) ?_
  ·have e1:wI ((i:Int)+1)=((i+1:Nat):Int):=by rw[wI,C7 (by omega)];omega
   have hx:=List.getElem_mem hi;refine mB _ _ _ _ _ _ ⟨λ_=>⟨v.B8[i],by simp,by omega,_,XY hp hN o ho _ (hl _ hx) (λhk=>hbl hc hk _ hx),by simp;omega,?_⟩,λh=>by simp at h;omega⟩;rw[e1];exact hj
  ·exact mB _ _ _ _ _ _ ⟨λh=>by simp at h,λ_=>he⟩
  ·rw[MP,W5,if_pos hc]
 ·have hc:o.C8=5:=by simpa using h4
  have hc4:¬o.C8=4:=by simpa using h
  have b3:=RI v.Pairs;refine FN (J:=λi acc=>SK i (Ed v.Pairs) p o acc _) (E:=λacc=>W5 N o v=⟨12,0,⟨#[]⟩,[],acc,[],[]⟩) (Ed v.Pairs) (λx=>[(Z9 x.1,Av N o x.2)]) (λi hi acc ha hj=>?_) (λx hx=>by simp) (λacc ha he=>?_) ?_
  ·have e1:wI ((i:Int)+1)=((i+1:Nat):Int):=by rw[wI,C7 (by omega)];omega
   have hx:=Qh (List.getElem_mem hi);refine lr _ _ _ _ _ _ ⟨λ_=>⟨(Ed v.Pairs)[i],by simp,by omega,_,ak _ (hps _ hx).1.okv.bits,(Ed v.Pairs)[i],by simp,by omega,_,XY hp hN o ho _ (hps _ hx).2 (λhk=>hbp hc hk _ hx),by simp;omega,?_⟩,λh=>by simp at h;omega⟩;rw[e1];exact hj
  ·exact lr _ _ _ _ _ _ ⟨λh=>by simp at h,λ_=>he⟩
  ·rw[MP,W5,if_neg hc4,if_pos hc]
 ·rw[W5,if_neg (by simpa using h),if_neg (by simpa using h4)]
theorem a7j(t:Int)(v:A0)(y1:b5l A6)(r:A0)(hv:F1 v)(hNok:∀t v,F1 v->F1 (N t v))(i:Nat)(hi:i<140737488351232)(o:A7)(ho:Fs p o)(hc:1<=o.C8/\o.C8<=5)(hb:∀x∈v.Slots,x.1=o.Num->(o.C8≠4->o.C8≠5->o.Kind=10->B o.Target x.2)/\(o.C8=4->o.Kind=10->∀y∈x.2.B8,B o.Target y)/\(o.C8=5->o.Kind=10->∀y∈x.2.Pairs,B o.Target y.2))(T R:b5l (Int × A0))(hT:T.length<=v.Slots.length)(next:∀acc,acc++R=T->QZ ((i+1:Nat):Int) t p v acc y1 r):∀d k (acc:b5l (Int × A0)),v.Slots.length - k<=d->k<=v.Slots.length->acc++(v.Slots.drop k).flatMap (λx=>if x.1=o.Num then O6 N o x.1 x.2 else [])++R=T->JX k i t p v acc y1 o r:=by
 obtain⟨_,_,⟨la,pa,sa,ra⟩,hl,hps,hs⟩:=hv.inv;have b1:=D1 sa;have w3:=D1 hv.w.2.2.1;have e0:wI ((i:Int)+1)=((i+1:Nat):Int):=by rw[wI,C7 (by omega)];omega
 have fin:∀(acc:b5l (Int × A0)),acc++(v.Slots.drop v.Slots.length).flatMap (λx=>if x.1=o.Num then O6 N o x.1 x.2 else [])++R=T->JX (v.Slots.length:Nat) i t p v acc y1 o r:=by
  intro acc h;rw[List.drop_length]at h;refine js _ _ _ _ _ _ _ _ _ ⟨λh=>by simp at h,λ_=>?_⟩;rw[e0];exact next acc (by simpa using h)
 intro d
 induction d with
 |zero=>
  intro k acc hd hk h;have e:k=v.Slots.length:=by omega
  subst e;exact fin acc h
 |succ d ih=>
  intro k acc hd hk h;rcases Nat.lt_or_ge k v.Slots.length with hlt|hge
  ·have e1:wI ((k:Int)+1)=((k+1:Nat):Int):=by rw[wI,C7 (by omega)];omega
   have dl:v.Slots.drop k=v.Slots[k]::v.Slots.drop (k+1):=b5c hlt;have hx:=List.getElem_mem hlt;rw[dl,List.flatMap_cons,<-List.append_assoc]at h;refine js _ _ _ _ _ _ _ _ _ ⟨λ_=>⟨v.Slots[k],by simp,by omega,λhn=>?_,λhn=>?_⟩,λh=>by simp at h;omega⟩
   ·have hne:¬v.Slots[k].1=o.Num:=by simpa using hn
    rw[if_neg hne,List.append_nil]at h;rw[e1];exact ih (k+1) acc (by omega) (by omega) h
   ·have he:v.Slots[k].1=o.Num:=by simpa using hn
    obtain⟨b1',b2',b3'⟩:=hb _ hx he;have oz:=RW (p:=p) (N:=N) (B:=λ_=>False) hp (λt g v _ _ hf=>hf.elim) hNok o _ (hs _ hx);rw[if_pos he]at h;refine⟨v.Slots[k],by simp,by omega,_,wb hp hN o ho _ (hs _ hx) b1' b2' b3',λb=>b=(!FX o|| !Dj (W5 N o v.Slots[k].2)),λb hbb=>⟨λh2=>?_,λh2=>?_⟩,λh2=>?_,λh2=>⟨_,b14 _,?_⟩⟩
    ·subst hbb;rw[O6,if_pos h2,he]at h;have hlen:=congrArg List.length h;simp at hlen;refine⟨by simp;omega,?_⟩;rw[e1];exact ih (k+1) _ (by omega) (by omega) h
    ·subst hbb;rw[O6,if_neg (nt h2),List.append_nil]at h;rw[e1];exact ih (k+1) _ (by omega) (by omega) h
    ·have:FX o=false:=by
      unfold FX;simp at h2 ⊢;omega
     rw[this];rfl
    ·have:FX o:=by
      unfold FX;simp at h2 ⊢;omega
     rw[this];rfl
  ·have e:k=v.Slots.length:=by omega
   subst e;exact fin acc h
theorem sV(hNok:∀t v,F1 v->F1 (N t v))(t:Int)(ht:0<=t)(g:B7)(hgt:p.B3[t.toNat]? =some g)(v:A0)(hv:F1 v)(hdf:Mo v.Slots)(hkn:∀x∈v.Slots,(I5 g x.1).2)(hb:∀x∈v.Slots,∀o∈g.Ops,o.Num=x.1->(o.C8≠4->o.C8≠5->o.Kind=10->B o.Target x.2)/\(o.C8=4->o.Kind=10->∀y∈x.2.B8,B o.Target y)/\(o.C8=5->o.Kind=10->∀y∈x.2.Pairs,B o.Target y.2)):LS p t v (Cx N g v):=by
 have hg:g∈p.B3:=b5g hgt;have hlt:t.toNat<p.B3.length:=(List.getElem?_eq_some_iff.1 hgt).1;obtain⟨_,_,⟨la,pa,sa,ra⟩,hl,hps,hs⟩:=hv.inv;have b1:=D1 sa;have w3:=D1 hv.w.2.2.1;have w4:=D1 hv.w.2.2.2;have bo:=hp.ops hg;have off:((decide (t<0))||(decide ((p.B3.length:Int)<=t)))=false:=by simp;omega
 have hT:=a7z (λo x=>O6 N o x.1 x.2) g.Ops v.Slots (lP (hp.va.qh g hg)) hdf λx hx=>by
  obtain⟨h1,h2⟩:=OW (hkn x hx);exact⟨_,h2,h1⟩
 have hlen:(g.Ops.flatMap (Z3 (λo x=>O6 N o x.1 x.2) v.Slots)).length<=v.Slots.length:=by
  rw[hT];exact Nat.le_trans (bB _ _ λx hx=>Pd _ _ _ _) (Ja _)
 refine wL _ _ _ _ ⟨λh=>(by rw[off]at h;cases h),λ_=>⟨_,zU (l:=v.C4) (by omega),?_⟩⟩
 have e:Cx N g v=⟨10,0,⟨#[]⟩,[],[],g.Ops.flatMap (Z3 (λo x=>O6 N o x.1 x.2) v.Slots),sC kr v.C4⟩:=by
  rw[hT];rfl
 rw[e]
 have go:∀d i (acc:b5l (Int × A0)),g.Ops.length - i<=d->i<=g.Ops.length->acc++(g.Ops.drop i).flatMap (Z3 (λo x=>O6 N o x.1 x.2) v.Slots)=g.Ops.flatMap (Z3 (λo x=>O6 N o x.1 x.2) v.Slots)->QZ i t p v acc (sC kr v.C4) ⟨10,0,⟨#[]⟩,[],[],g.Ops.flatMap (Z3 (λo x=>O6 N o x.1 x.2) v.Slots),sC kr v.C4⟩:=by
  intro d
  induction d with
  |zero=>
   intro i acc hd hi h;have e:i=g.Ops.length:=by omega
   subst e;rw[List.drop_length]at h;exact dH _ _ _ _ _ _ _ ⟨g,hgt,ht,λh=>by simp at h,λ_=>by rw[<-h];simp⟩
  |succ d ih=>
   intro i acc hd hi h;rcases Nat.lt_or_ge i g.Ops.length with hlt2|hge
   ·have dl:g.Ops.drop i=g.Ops[i]::g.Ops.drop (i+1):=b5c hlt2;have ho:=List.getElem_mem hlt2;have oF:=(hp.va.XA g hg).2 _ ho;rw[dl,List.flatMap_cons]at h;refine dH _ _ _ _ _ _ _ ⟨g,hgt,ht,λ_=>⟨g,hgt,ht,g.Ops[i],by simp,by omega,?_⟩,λh=>by simp at h;omega⟩;refine a7j hp hN t v _ _ hv hNok i (by omega) g.Ops[i] (λhk=>?_) oF.card (λx hx he=>hb x hx _ ho he.symm) _ ((g.Ops.drop (i+1)).flatMap (Z3 (λo x=>O6 N o x.1 x.2) v.Slots)) hlen (λacc' h'=>ih (i+1) acc' (by omega) (by omega) h') v.Slots.length 0 acc (by omega) (by omega) ?_
    ·obtain⟨t0,t1,_⟩:=oF.msg hk;have hlt:g.Ops[i].Target.toNat<p.B3.length:=by omega
     exact⟨_,b48 hlt,t0⟩
    ·rw[List.drop_zero,List.append_assoc];exact h
   ·have e:i=g.Ops.length:=by omega
    subst e;rw[List.drop_length]at h;exact dH _ _ _ _ _ _ _ ⟨g,hgt,ht,λh=>by simp at h,λ_=>by rw[<-h];simp⟩
 exact go _ 0 [] (Nat.le_refl _) (by omega) (by simp)
end
theorem kX{g:B7}(hg:g∈p.B3){o:A7}(ho:o∈g.Ops):I5 g o.Num=(o,true):=by
 have h:=lP (hp.va.qh g hg);unfold I5;generalize g.Ops=l at h ho
 induction l with
 |nil=>cases ho
 |cons q l ih=>
  obtain⟨h1,h2⟩:=List.pairwise_cons.1 h;rcases List.mem_cons.1 ho with h3|h3
  ·subst h3;simp only[J9];rw[if_pos (by simp)]
  ·have:=h1 o h3;simp only[J9];rw[if_neg (by simp;omega)];exact ih h2 h3
end
def El:A0:=⟨0,0,⟨#[]⟩,[],[],[],[]⟩
def Et(b:b5n)(k:Int):Int:=if b=true then 3 else if k=10 then 4 else -1
def w12(b:b5n)(k:Int):Int:=if b=true then 1 else if k=6 then 2 else Et (k==7||k==8) k
def w8(b:b5n)(k:Int):Int:=if b=true then 0 else w12 (k==2||k==3) k
theorem lN(k:Int):w8 (k==1||k==4||k==5||k==9) k=De k:=by
 unfold w8 w12 Et De;simp only[Bool.or_eq_true,beq_iff_eq]
 repeat' split
 all_goals first|rfl|omega
def X8(num:Int):b5l (Int × A0)->A0 × b5n
 |[]=>(El,false)
 |s::l=>if(s.1==num)=true then(s.2,true) else X8 num l
def H2(v:A0)(num:Int):A0 × b5n:=X8 num v.Slots
theorem Lx{num:Int}:∀{l:b5l (Int × A0)},(X8 num l).2->(num,(X8 num l).1)∈l
 |[],h=>by cases h
 |s::l,h=>by
  by_cases e:(s.1==num)=true
  ·have q:X8 num (s::l)=(s.2,true):=by simp only[X8];rw[if_pos e]
   rw[q];have e:s.1=num:=eq_of_beq e;rw[<-e];exact List.mem_cons_self ..
  ·have q:X8 num (s::l)=X8 num l:=by simp only[X8];rw[if_neg e]
   rw[q]at h ⊢;exact List.mem_cons_of_mem _ (Lx h)
theorem Va{num:Int}:∀{l:b5l (Int × A0)},(X8 num l).2=false->(X8 num l).1=El
 |[],h=>rfl
 |s::l,h=>by
  by_cases e:(s.1==num)=true
  ·have q:X8 num (s::l)=(s.2,true):=by simp only[X8];rw[if_pos e]
   rw[q]at h;cases h
  ·have q:X8 num (s::l)=X8 num l:=by simp only[X8];rw[if_neg e]
   rw[q]at h ⊢;exact Va h
def Bl(g:B7)(o:A7)(s:Int × A0):b5n:= !(s.1==o.Num)&& !(decide (0<=o.Union)&&((I5 g s.1).1.Union==o.Union))
def Ge(g:B7)(v:A0)(o:A7)(x:A0):A0:=⟨10,0,⟨#[]⟩,[],[],v.Slots.filter (Bl g o)++[(o.Num,x)],v.C4⟩
def LG(v:A0)(f:A6):A0:=⟨v.Kind,v.Bits,v.Text,v.B8,v.Pairs,v.Slots,v.C4++[f]⟩
def Ur(l x:A0):A0:=⟨11,0,⟨#[]⟩,l.B8++[x],[],[],[]⟩
theorem Xh{α:Type}(p:α->b5n):∀s:b5l α,s.flatMap (λx=>if p x=true then [x] else [])=s.filter p
 |[]=>rfl
 |x::s=>by
  rw[List.flatMap_cons,Xh p s];cases h:p x<;>simp[h]
theorem mD(a b u w:Int)(hu:u= -1\/0<=u):((a !=b)&&((u==(-1))||(w !=u)))=(!(a==b)&& !(decide (0<=u)&&(w==u))):=by
 rcases hu with rfl|hu
 ·simp[bne]
 ·have:(u==(-1))=false:=by simp;omega
  rw[this,decide_eq_true hu,Bool.false_or,Bool.true_and];rfl
theorem PC{α:Type}(l:b5l α):((l.take (l.length:Int).toNat).drop (0:Int).toNat)=l:=by
 rw[Int.toNat_natCast,List.take_length];rfl
def CR(p:A8)(o:A7)(b:Int):A0 × Int:=
 if FH o.Kind ⟨o.Kind,b,⟨#[]⟩,[],[],[],[]⟩=false then(El,6) else if o.Kind=9/\ER p o.Target b=false then(El,16) else(Z9 ⟨o.Kind,b,⟨#[]⟩,[],[],[],[]⟩,0)
def Aa(p:A8)(o:A7)(f:A6):A0 × Int:=
 if((decide (1<=o.Kind))&&(decide (o.Kind<=9)))=false then(El,12) else if f.L9≠De o.Kind then(El,13)
 else if f.L9=3 then(if o.Kind=7/\Eu f.Data=false then(El,7) else(⟨o.Kind,0,f.Data,[],[],[],[]⟩,0))
 else if f.L9=1 then CR p o (wU (DD f.Bits.toNat)) else CR p o f.Bits
theorem mR(k b:Int)(h:0<=b/\b<18446744073709551616):GB ⟨k,b,⟨#[]⟩,[],[],[],[]⟩:=⟨by simp,by simp,by simp,by simp,Nat.zero_le _,h.1,h.2⟩
theorem yS(b:b5n)(o:A7):SG b o (Et b o.Kind):=a74 _ _ _ ⟨λh=>by rw[Et,if_pos h],λh=>⟨λh2=>by rw[Et,if_neg (nt h),if_pos (by simpa using h2)],λh2=>by rw[Et,if_neg (nt h),if_neg (by simpa using h2)]⟩⟩
theorem rU(b:b5n)(o:A7):Tw b o (w12 b o.Kind):=by
 refine xh _ _ _ ⟨λh=>by rw[w12,if_pos h],λh=>⟨λh2=>by rw[w12,if_neg (nt h),if_pos (by simpa using h2)],λh2=>⟨λh3=>?_,λh3=>?_⟩⟩⟩
 all_goals
  rw[w12,if_neg (nt h),if_neg (by simpa using h2)];have:=yS (o.Kind==7||o.Kind==8) o;rw[h3]at this ⊢;simpa using this
theorem pj8(b:b5n)(o:A7):Lw b o (w8 b o.Kind):=by
 refine tK _ _ _ ⟨λh=>by rw[w8,if_pos h],λh=>⟨λh2=>?_,λh2=>?_⟩⟩
 all_goals
  rw[w8,if_neg (nt h)];have:=rU (o.Kind==2||o.Kind==3) o;rw[h2]at this ⊢;simpa using this
theorem jh(o:A7):TE o (CL o):=a1k _ _ rfl
theorem a07(o:A7)(hc:o.C8=2):bV o (De o.Kind):=by
 have hp:CL o=false:=by rw[CL,hc];rfl
 refine w0 _ _ (J6 (by rw[hc];rfl) ⟨_,jh o,J6 hp ?_⟩);have h8:=pj8 (o.Kind==1||o.Kind==4||o.Kind==5||o.Kind==9) o;rw[lN]at h8;refine⟨λh=>?_,λh=>⟨λh2=>?_,λh2=>⟨λh3=>?_,λh3=>?_⟩⟩⟩
 ·rw[h]at h8 ⊢;simpa using h8
 ·rw[h,h2]at h8;rw[h2];simpa using h8
 ·rw[h,h2,h3]at h8;rw[h3];simpa using h8
 ·rw[h,h2,h3]at h8;simpa using h8
theorem MR(o:A7):Gr o (De o.Kind):=zH _ _ ⟨_,a07 _ rfl,rfl⟩
theorem HE(v:A0)(hs:v.Slots.length<=1000000)(num:Int):IE v num (H2 v num):=by
 have key:∀d i:Nat,v.Slots.length - i<=d->i<=v.Slots.length->Vq i v num (X8 num (v.Slots.drop i)):=by
  intro d
  induction d with
  |zero=>intro i hd hi;exact dE _ _ _ _ ⟨λh=>by simp at h;omega,λ_=>by rw[b5d (by omega)];rfl⟩
  |succ d ih=>
   intro i hd hi;rcases Nat.lt_or_ge i v.Slots.length with hlt|hge
   ·have e1:wI ((i:Int)+1)=((i+1:Nat):Int):=by rw[wI,C7 (by omega)];omega
    have dl:v.Slots.drop i=v.Slots[i]::v.Slots.drop (i+1):=b5c hlt;refine dE _ _ _ _ ⟨λ_=>⟨v.Slots[i],by simp,by omega,λh=>?_,λh=>?_⟩,λh=>by simp at h;omega⟩
    ·rw[dl,X8,if_pos h]
    ·rw[dl,X8,if_neg (nt h),e1];exact ih (i+1) (by omega) (by omega)
   ·exact dE _ _ _ _ ⟨λh=>by simp at h;omega,λ_=>by rw[b5d hge];rfl⟩
 exact zL _ _ _ (by simpa[H2]using key v.Slots.length 0 (by omega) (by omega))
theorem lY(p:A8)(hp:HR p)(o:A7)(b:Int)(hb:0<=b/\b<18446744073709551616):Ws p o b (CR p o b):=by
 have hv:=mR o.Kind b hb;refine rW _ _ _ _ ⟨_,tJ o.Kind _ hv,λh=>?_,λh=>⟨λz=>z=(o.Kind==9&& !ER p o.Target b),λz hz=>⟨λh2=>?_,λh2=>⟨_,cG _ hb,?_⟩⟩,λh2=>⟨_,b1f p hp o.Target b hb.1,by rw[h2];rfl⟩,λh2=>by rw[h2];rfl⟩⟩
 ·rw[CR,if_pos (by simpa using h)];rfl
 ·rw[hz]at h2;simp only[b47,beq_iff_eq,b5f]at h2;rw[CR,if_neg (by simpa using h),if_pos h2];rfl
 ·rw[hz]at h2;rw[CR,if_neg (by simpa using h),if_neg];intro h3;rw[h3.1,h3.2]at h2;cases h2
theorem Xe(p:A8)(hp:HR p)(o:A7)(f:A6)(hf:0<=f.Bits/\f.Bits<18446744073709551616)(hd:f.Data.size<=65536):Tc p o f (Aa p o f):=by
 have hw:=MR o;have eb:f.Bits=(f.Bits.toNat:Int):=by omega
 refine vG _ _ _ _ ⟨_,PR _ _ rfl,λh=>?_,λh=>⟨_,hw,λh2=>?_,λh2=>⟨λh3=>⟨λz=>z=(o.Kind==7&& !Eu f.Data),λz hz=>⟨λh4=>?_,λh4=>?_⟩,λh4=>⟨_,fM f.Data (by omega),by rw[h4];rfl⟩,λh4=>by rw[h4];rfl⟩,λh3=>⟨λh4=>⟨DD f.Bits.toNat,?_,?_⟩,λh4=>?_⟩⟩⟩⟩
 ·rw[Aa,if_pos (by rw[b5f]at h;exact h)];rfl
 all_goals have h:¬((decide (1<=o.Kind))&&(decide (o.Kind<=9)))=false:=by rw[Bool.not_eq_false']at h;rw[h];decide
 ·rw[Aa,if_neg h,if_pos (by simpa using h2)];rfl
 all_goals have h2:¬f.L9≠De o.Kind:=by simpa using h2
 ·rw[hz]at h4;simp only[b47,beq_iff_eq,b5f]at h4;rw[Aa,if_neg h,if_neg h2,if_pos (by simpa using h3),if_pos h4];rfl
 ·rw[hz]at h4;rw[Aa,if_neg h,if_neg h2,if_pos (by simpa using h3),if_neg];intro h5;rw[h5.1,h5.2]at h4;cases h4
 ·have:=a1s f.Bits.toNat (by omega)
  rwa [<-eb]at this
 ·rw[Aa,if_neg h,if_neg h2,if_neg (by simpa using h3),if_pos (by simpa using h4)];refine lY p hp o _ ?_
  have:0<=wU (DD f.Bits.toNat)/\wU (DD f.Bits.toNat)<18446744073709551616:=by
   simp only[wU,IntKind.wrap,IntKind.signed,IntKind.bits];simp;omega
  exact this
 ·rw[Aa,if_neg h,if_neg h2,if_neg (by simpa using h3),if_neg (by simpa using h4)];exact lY p hp o _ hf
theorem yf(b:b5n)(o:A7):VN b o (Et b o.Kind):=b3e _ _ _ ⟨λh=>by rw[Et,if_pos h],λh=>⟨λh2=>by rw[Et,if_neg (nt h),if_pos (by simpa using h2)],λh2=>by rw[Et,if_neg (nt h),if_neg (by simpa using h2)]⟩⟩
theorem ux(b:b5n)(o:A7):Rw b o (w12 b o.Kind):=by
 refine we _ _ _ ⟨λh=>by rw[w12,if_pos h],λh=>⟨λh2=>by rw[w12,if_neg (nt h),if_pos (by simpa using h2)],λh2=>⟨λh3=>?_,λh3=>?_⟩⟩⟩
 all_goals
  rw[w12,if_neg (nt h),if_neg (by simpa using h2)];have:=yf (o.Kind==7||o.Kind==8) o;rw[h3]at this ⊢;simpa using this
theorem rj8(b:b5n)(o:A7):Mq b o (w8 b o.Kind):=by
 refine s8 _ _ _ ⟨λh=>by rw[w8,if_pos h],λh=>⟨λh2=>?_,λh2=>?_⟩⟩
 all_goals
  rw[w8,if_neg (nt h)];have:=ux (o.Kind==2||o.Kind==3) o;rw[h2]at this ⊢;simpa using this
theorem Yf(o:A7):PL o (CL o):=a4k _ _ rfl
theorem b0x(o:A7)(hc:o.C8=2):dX o (De o.Kind):=by
 have hp:CL o=false:=by rw[CL,hc];rfl
 refine zt _ _ (J6 (by rw[hc];rfl) ⟨_,Yf o,J6 hp ?_⟩);have h8:=rj8 (o.Kind==1||o.Kind==4||o.Kind==5||o.Kind==9) o;rw[lN]at h8;refine⟨λh=>?_,λh=>⟨λh2=>?_,λh2=>⟨λh3=>?_,λh3=>?_⟩⟩⟩
 ·rw[h]at h8 ⊢;simpa using h8
 ·rw[h,h2]at h8;rw[h2];simpa using h8
 ·rw[h,h2,h3]at h8;rw[h3];simpa using h8
 ·rw[h,h2,h3]at h8;simpa using h8
theorem NC(o:A7):FC o (De o.Kind):=a3w _ _ ⟨_,XN _ _ rfl,_,b0x _ rfl,rfl⟩
theorem LV(v:A0)(hs:v.Slots.length<=1000000)(num:Int):Gt v num (H2 v num):=by
 have key:∀d i:Nat,v.Slots.length - i<=d->i<=v.Slots.length->Tj i num v (X8 num (v.Slots.drop i)):=by
  intro d
  induction d with
  |zero=>intro i hd hi;exact YP _ _ _ _ ⟨λh=>by simp at h;omega,λ_=>by rw[b5d (by omega)];rfl⟩
  |succ d ih=>
   intro i hd hi;rcases Nat.lt_or_ge i v.Slots.length with hlt|hge
   ·have e1:wI ((i:Int)+1)=((i+1:Nat):Int):=by rw[wI,C7 (by omega)];omega
    have dl:v.Slots.drop i=v.Slots[i]::v.Slots.drop (i+1):=b5c hlt;refine YP _ _ _ _ ⟨λ_=>⟨v.Slots[i],by simp,by omega,λh=>⟨v.Slots[i],by simp,by omega,?_⟩,λh=>?_⟩,λh=>by simp at h;omega⟩
    ·rw[dl,X8,if_pos h]
    ·rw[dl,X8,if_neg (nt h),e1];exact ih (i+1) (by omega) (by omega)
   ·exact YP _ _ _ _ ⟨λh=>by simp at h;omega,λ_=>by rw[b5d hge];rfl⟩
 exact b30 _ _ _ (by simpa[H2]using key v.Slots.length 0 (by omega) (by omega))
theorem me(p:A8)(hp:HR p)(o:A7)(b:Int)(hb:0<=b/\b<18446744073709551616):Tl p o b (CR p o b):=by
 have hv:=mR o.Kind b hb;refine a4t _ _ _ _ ⟨_,oH o.Kind _ hv,λh=>?_,λh=>⟨λz=>z=(o.Kind==9&& !ER p o.Target b),λz hz=>⟨λh2=>?_,λh2=>⟨_,ak _ hb,?_⟩⟩,λh2=>⟨_,qw p hp o.Target b hb.1,by rw[h2];rfl⟩,λh2=>by rw[h2];rfl⟩⟩
 ·rw[CR,if_pos (by simpa using h)];rfl
 ·rw[hz]at h2;simp only[b47,beq_iff_eq,b5f]at h2;rw[CR,if_neg (by simpa using h),if_pos h2];rfl
 ·rw[hz]at h2;rw[CR,if_neg (by simpa using h),if_neg];intro h3;rw[h3.1,h3.2]at h2;cases h2
theorem Zj(p:A8)(hp:HR p)(o:A7)(f:A6)(hf:0<=f.Bits/\f.Bits<18446744073709551616)(hd:f.Data.size<=65536):Sv p o f (Aa p o f):=by
 have hw:=NC o;have eb:f.Bits=(f.Bits.toNat:Int):=by omega
 refine zN _ _ _ _ ⟨_,Wd _ _ rfl,λh=>?_,λh=>⟨_,hw,λh2=>?_,λh2=>⟨λh3=>⟨λz=>z=(o.Kind==7&& !Eu f.Data),λz hz=>⟨λh4=>?_,λh4=>?_⟩,λh4=>⟨_,bQ f.Data (by omega),by rw[h4];rfl⟩,λh4=>by rw[h4];rfl⟩,λh3=>⟨λh4=>⟨DD f.Bits.toNat,?_,?_⟩,λh4=>?_⟩⟩⟩⟩
 ·rw[Aa,if_pos (by rw[b5f]at h;exact h)];rfl
 all_goals have h:¬((decide (1<=o.Kind))&&(decide (o.Kind<=9)))=false:=by rw[Bool.not_eq_false']at h;rw[h];decide
 ·rw[Aa,if_neg h,if_pos (by simpa using h2)];rfl
 all_goals have h2:¬f.L9≠De o.Kind:=by simpa using h2
 ·rw[hz]at h4;simp only[b47,beq_iff_eq,b5f]at h4;rw[Aa,if_neg h,if_neg h2,if_pos (by simpa using h3),if_pos h4];rfl
 ·rw[hz]at h4;rw[Aa,if_neg h,if_neg h2,if_pos (by simpa using h3),if_neg];intro h5;rw[h5.1,h5.2]at h4;cases h4
 ·have:=yl f.Bits.toNat (by omega)
  rwa [<-eb]at this
 ·rw[Aa,if_neg h,if_neg h2,if_neg (by simpa using h3),if_pos (by simpa using h4)];refine me p hp o _ ?_
  have:0<=wU (DD f.Bits.toNat)/\wU (DD f.Bits.toNat)<18446744073709551616:=by
   simp only[wU,IntKind.wrap,IntKind.signed,IntKind.bits];simp;omega
  exact this
 ·rw[Aa,if_neg h,if_neg h2,if_neg (by simpa using h3),if_neg (by simpa using h4)];exact me p hp o _ hf
section
variable {g:B7}(hg:g.Ops.length<=140737488351232) (v:A0) (hs:v.Slots.length<=1000000) (o:A7) (x:A0)
 include hg hs
theorem KP(hk:∀s∈v.Slots,(I5 g s.1).2):EY g v o x (Ge g v o x):=by
 refine b1k _ _ _ _ _ (FN (J:=λi acc=>Mf i v g o x acc _) (E:=λacc=>Ge g v o x=⟨10,0,⟨#[]⟩,[],[],acc++[(o.Num,x)],v.C4⟩) v.Slots (λs=>if Bl g o s=true then [s] else []) (λi hi acc ha hj=>?_) (λs hs=>by split<;>simp) (λacc ha he=>?_) ?_)
 ·have e1:wI ((i:Int)+1)=((i+1:Nat):Int):=by rw[wI,C7 (by omega)];omega
  have hm:=hk _ (List.getElem_mem hi);refine oV _ _ _ _ _ _ _ ⟨λ_=>⟨v.Slots[i],by simp,by omega,λh=>?_,λh=>⟨_,ck g hg _,λh2=>?_,λh2=>?_⟩⟩,λh=>by simp at h;omega⟩
  ·have k:Bl g o v.Slots[i]=false:=by rw[Bl,h];rfl
   rw[k,if_neg (by decide),List.append_nil]at hj;rw[e1];exact hj
  ·rw[hm,Bool.true_and]at h2;have k:Bl g o v.Slots[i]=false:=by rw[Bl,h,h2];rfl
   rw[k,if_neg (by decide),List.append_nil]at hj;rw[e1];exact hj
  ·rw[hm,Bool.true_and]at h2;have k:Bl g o v.Slots[i]:=by rw[Bl,h,h2];rfl
   rw[k,if_pos rfl]at hj;rw[e1];exact⟨by simp;omega,hj⟩
 ·exact oV _ _ _ _ _ _ _ ⟨λh=>by simp at h,λ_=>⟨by simp;omega,he⟩⟩
 ·rw[Xh];rfl
theorem Iq(hu:o.Union= -1\/0<=o.Union):DZ g v o x (Ge g v o x):=by
 refine zd _ _ _ _ _ (FN (J:=λi acc=>Nc i g v o x acc _) (E:=λacc=>Ge g v o x=⟨10,0,⟨#[]⟩,[],[],acc++[(o.Num,x)],v.C4⟩) v.Slots (λs=>if Bl g o s=true then [s] else []) (λi hi acc ha hj=>?_) (λs hs=>by split<;>simp) (λacc ha he=>?_) ?_)
 ·have e1:wI ((i:Int)+1)=((i+1:Nat):Int):=by rw[wI,C7 (by omega)];omega
  refine iG _ _ _ _ _ _ _ ⟨λ_=>⟨v.Slots[i],by simp,by omega,_,SH g hg _,v.Slots[i],by simp,by omega,λh=>?_,λh=>?_⟩,λh=>by simp at h;omega⟩
  ·rw[mD _ _ _ _ hu]at h;have k:Bl g o v.Slots[i]:=h;rw[k,if_pos rfl]at hj;exact⟨v.Slots[i],by simp,by omega,by simp;omega,by rw[e1];exact hj⟩
  ·rw[mD _ _ _ _ hu]at h;have k:Bl g o v.Slots[i]=false:=h;rw[k,if_neg (by decide),List.append_nil]at hj;rw[e1];exact hj
 ·exact iG _ _ _ _ _ _ _ ⟨λh=>by simp at h,λ_=>⟨by simp;omega,he⟩⟩
 ·rw[Xh];rfl
theorem aW(hu:o.Union= -1\/0<=o.Union)(hl:(H2 v o.Num).1.B8.length<=1000000):Pb g v o x (Ge g v o (Ur (H2 v o.Num).1 x)):=by
 refine wP _ _ _ _ _ ⟨_,LV v hs _,λh=>⟨by simp,by simp,by simp,_,Iq hg v hs o _ hu,?_⟩,λh=>⟨by simp;omega,h,by simp;omega,_,Iq hg v hs o _ hu,?_⟩⟩
 ·rw[Ur,h]
 ·rfl
end
theorem Yz(l x:A0)(hl:l.B8.length<=1000000):Qf l x (Ur l x):=vk _ _ _ ⟨⟨by omega,by omega,by omega⟩,by rw[PC];simp;omega,by simp,by rw[PC];rfl⟩
theorem lm(v:A0)(f:A6)(hl:v.C4.length<=1000000):UU v f (LG v f):=a3f _ _ _ ⟨⟨by omega,by omega,by omega⟩,by rw[PC];simp;omega,by simp,by rw[PC];rfl⟩
theorem iA(v:A0)(f:A6)(hl:v.C4.length<=1000000):WH v f (LG v f):=zD _ _ _ ⟨λh=>⟨by simp,by simp,by simp,by rw[LG,h]⟩,λh=>⟨by simp;omega,h,by simp;omega,rfl⟩⟩
def LT:A6:=⟨0,0,0,⟨#[]⟩⟩
def X5(most:Int)(c:A4):b5k × A4 × Int:=
 if(C1 c).2.2≠0 then(⟨#[]⟩,c,(C1 c).2.2) else if H7 (C1 c).2.1.Data (C1 c).2.1.At (C1 c).2.1.End<(C1 c).1 then(⟨#[]⟩,c,4) else if most<(C1 c).1 then(⟨#[]⟩,c,3)
 else((C1 c).2.1.Data.extract (C1 c).2.1.At.toNat ((C1 c).2.1.At+(C1 c).1).toNat,CI (C1 c).2.1 (C1 c).1 0,0)
theorem um(most:Int){c:A4}(hc:F8 c)(h:(X5 most c).2.2=0):Fw 1 c (X5 most c).2.1/\(X5 most c).1.size<=65536:=by
 unfold X5 at h ⊢
 by_cases h0:(C1 c).2.2≠0
 ·rw[if_pos h0]at h;exact absurd h h0
 rw[if_neg h0]at h ⊢;obtain⟨k,u0,u1⟩:=EF hc (Classical.not_not.1 h0);have e:=k.snd.left
 by_cases h1:H7 (C1 c).2.1.Data (C1 c).2.1.At (C1 c).2.1.End<(C1 c).1
 ·rw[if_pos h1]at h;exact(by simp at h)
 rw[if_neg h1]at h ⊢
 by_cases h2:most<(C1 c).1
 ·rw[if_pos h2]at h;exact(by simp at h)
 rw[if_neg h2];have a2:=k.snd.a2;have a0:=k.snd.a0;have sz:=k.snd.sz;have n0:=k.snd.n0;refine⟨(k.trans (k.snd.CI ⟨u0,by omega⟩ ⟨Int.le_refl _,n0⟩)).less (by omega),?_⟩;simp only;rw[EB _ (by omega)];omega
theorem lV{c:A4}(hc:F8 c)(h0:(C1 c).2.2=0)(h1:¬H7 (C1 c).2.1.Data (C1 c).2.1.At (C1 c).2.1.End<(C1 c).1):wI (C1 c).1=(C1 c).1/\wI ((C1 c).2.1.At+(C1 c).1)=(C1 c).2.1.At+(C1 c).1/\(0<=(C1 c).2.1.At/\(C1 c).2.1.At<=(C1 c).2.1.At+(C1 c).1/\(C1 c).2.1.At+(C1 c).1<=((C1 c).2.1.Data.size:Int)):=by
 obtain⟨k,u0,u1⟩:=EF hc h0;rw[k.snd.left]at h1;have a2:=k.snd.a2;have a0:=k.snd.a0;have sz:=k.snd.sz;rw[wI,wI,C7 (by omega),C7 (by omega)];exact⟨rfl,rfl,a0,by omega,by omega⟩
theorem jj(most:Int){c:A4}(hc:F8 c)(h0:(C1 c).2.2=0):Ta most (C1 c) c (X5 most c):=by
 obtain⟨k,u0,u1⟩:=EF hc h0;obtain⟨e1,e2,e3⟩:=cM k.snd;refine yu _ _ _ _ ⟨_,Dd _ k.snd.okc,?_⟩;rw[e1];refine⟨λh1=>?_,λh1=>?_⟩
 ·rw[X5,if_neg (by omega),if_pos (of_decide_eq_true h1)]
 have h1:=of_decide_eq_false h1;obtain⟨w1,w2,w3⟩:=lV hc h0 h1;rw[w1,w2];refine⟨λh2=>?_,λh2=>⟨w3,?_⟩⟩
 ·rw[X5,if_neg (by omega),if_neg h1,if_pos (of_decide_eq_true h2)]
 ·rw[X5,if_neg (by omega),if_neg h1,if_neg (of_decide_eq_false h2)];simp only[CI,Int.sub_zero]
theorem yN{c:A4}(hc:F8 c)(w:Int):eO c w (X5 (if w=3 then c.Text else 65536) c):=by
 refine wE _ _ _ ⟨_,ME c hc.okc,λh=>?_,λh=>⟨λh3=>?_,λh3=>?_⟩⟩
 ·rw[X5,if_pos (by simpa using h)]
 ·rw[if_pos (by simpa using h3)];exact jj _ hc (by simpa using h)
 ·rw[if_neg (by simpa using h3)];exact jj _ hc (by simpa using h)
def An(c0:A4)(num w:Int)(c:A4):A6 × A4 × Int:=
 if w=0\/w=1 then(if(C1 c).2.2≠0 then(LT,c0,(C1 c).2.2) else(⟨num,w,(C1 c).1,⟨#[]⟩⟩,(C1 c).2.1,0))
 else if w=2 then(if(Z1 c).2.2≠0 then(LT,c0,(Z1 c).2.2) else(⟨num,w,(Z1 c).1,⟨#[]⟩⟩,(Z1 c).2.1,0))
 else if(X5 (if w=3 then c.Text else 65536) c).2.2≠0 then(LT,c0,(X5 (if w=3 then c.Text else 65536) c).2.2) else(⟨num,w,0,(X5 (if w=3 then c.Text else 65536) c).1⟩,(X5 (if w=3 then c.Text else 65536) c).2.1,0)
def AI(c:A4):A6 × A4 × Int:=
 if(G3 c).2.2.2≠0 then(LT,c,(G3 c).2.2.2) else if(O9 1 (G3 c).2.2.1).2≠0 then(LT,c,(O9 1 (G3 c).2.2.1).2) else An c (G3 c).1 (G3 c).2.1 (O9 1 (G3 c).2.2.1).1
theorem pnx{c:A4}(hc:F8 c):dF c (AI c):=by
 refine tM _ _ ⟨_,bC hc,λh=>?_,λh=>?_⟩
 ·rw[AI,if_pos (by simpa using h)];rfl
 have h0:(G3 c).2.2.2=0:=by simpa using h
 obtain⟨k1,_,_⟩:=Oe hc h0;refine⟨_,mJ 1 k1.snd (by decide),λh=>?_,λh=>?_⟩
 ·rw[AI,if_neg (by omega),if_pos (by simpa using h)];rfl
 have h1:(O9 1 (G3 c).2.2.1).2=0:=by simpa using h
 have k2:=FR 1 k1.snd (by decide) h1;rw[AI,if_neg (by omega),if_neg (by omega)];refine⟨λh2=>⟨_,ME _ k2.snd.okc,λh3=>?_,λh3=>?_⟩,λh2=>⟨λh4=>⟨_,ME _ k2.snd.okc,λh3=>?_,λh3=>?_⟩,λh4=>⟨λh5=>⟨_,ko _ k2.snd.okc,λh3=>?_,λh3=>?_⟩,λh5=>⟨_,yN k2.snd _,λh3=>?_,λh3=>?_⟩⟩⟩⟩
 ·rw[An,if_pos (.inl (by simpa using h2)),if_pos (by simpa using h3)];rfl
 ·rw[An,if_pos (.inl (by simpa using h2)),if_neg (by simpa using h3)]
 ·rw[An,if_pos (.inr (by simpa using h4)),if_pos (by simpa using h3)];rfl
 ·rw[An,if_pos (.inr (by simpa using h4)),if_neg (by simpa using h3)]
 all_goals
  have hn:¬((G3 c).2.1=0\/(G3 c).2.1=1):=by
   have a:¬(G3 c).2.1=0:=by simpa using h2
   have b:¬(G3 c).2.1=1:=by simpa using h4
   exact λq=>q.elim a b
 ·rw[An,if_neg hn,if_pos (by simpa using h5),if_pos (by simpa using h3)];rfl
 ·rw[An,if_neg hn,if_pos (by simpa using h5),if_neg (by simpa using h3)]
 ·rw[An,if_neg hn,if_neg (by simpa using h5),if_pos (by simpa using h3)];rfl
 ·rw[An,if_neg hn,if_neg (by simpa using h5),if_neg (by simpa using h3)]
theorem xg(c:A4):(C1 c).2.1.Text=c.Text:=by
 unfold C1;split<;>rfl
theorem rcn{c:A4}(hc:F8 c)(c0:A4)(num w:Int)(hw:0<=w):∃z,Vu ⟨num,w,0,⟨#[]⟩⟩ c z/\((z.2.2≠0/\An c0 num w c=(LT,c0,z.2.2))\/(z.2.2=0/\An c0 num w c=z)):=by
 by_cases h2:w=2
 ·have hn:¬(w=0\/w=1):=by omega
  refine⟨(⟨num,w,(Z1 c).1,⟨#[]⟩⟩,(Z1 c).2.1,(Z1 c).2.2),Rp _ _ _ (U0 (by simpa using h2) ⟨_,qF c hc.okc,rfl⟩),?_⟩;rw[An,if_neg hn,if_pos h2]
  by_cases q:(Z1 c).2.2=0
  ·rw[if_neg (by omega)];exact .inr ⟨q,by simp only[q]⟩
  ·rw[if_pos q];exact .inl ⟨q,rfl⟩
 have b2:(w==2)=false:=by simpa using h2
 by_cases h1:w=0\/w=1
 ·refine⟨(⟨num,w,(C1 c).1,⟨#[]⟩⟩,(C1 c).2.1,(C1 c).2.2),Rp _ _ _ (J6 b2 ⟨_,La c hc.okc,λz=>z=true,λz hz=>U0 hz rfl,λ_=>rfl,λ_=>⟨_,oD _ _ rfl,?_⟩⟩),?_⟩
  ·rcases h1 with rfl|rfl<;>rfl
  ·rw[An,if_pos h1]
   by_cases q:(C1 c).2.2=0
   ·rw[if_neg (by omega)];exact .inr ⟨q,by simp only[q]⟩
   ·rw[if_pos q];exact .inl ⟨q,rfl⟩
 have nb:(((w==0)||(w==1))||(w==2))=false:=by
  simp only[Bool.or_eq_false_iff,beq_eq_false_iff_ne,ne_eq];omega
 by_cases q:(C1 c).2.2=0
 rotate_left
 ·refine⟨(⟨num,w,(C1 c).1,⟨#[]⟩⟩,(C1 c).2.1,(C1 c).2.2),Rp _ _ _ (J6 b2 ⟨_,La c hc.okc,λz=>z=true,λz hz=>U0 hz rfl,λ_=>rfl,λh=>absurd (by simpa using h) q⟩),.inl ⟨q,?_⟩⟩;rw[An,if_neg h1,if_neg h2,X5,if_pos q,if_pos q]
 obtain⟨k,u0,u1⟩:=EF hc q;obtain⟨e1,e2,e3⟩:=cM k.snd
 have go:∀z:A6 × A4 × Int,(∃y4,FV (C1 c).2.1 y4/\(ID ((wU y4)<(C1 c).1) (z=((⟨num,w,0,⟨#[]⟩⟩:A6),c,4)) (IF (((w==3)&&(decide ((C1 c).2.1.Text<(wI (C1 c).1))))||((w !=3)&&(decide (65536<(C1 c).1)))) (z=((⟨num,w,0,⟨#[]⟩⟩:A6),c,3)) (SS (C1 c).2.1.Data (C1 c).2.1.At (wI ((C1 c).2.1.At+(wI (C1 c).1))) (z=((⟨num,w,0,((C1 c).2.1.Data.extract (C1 c).2.1.At.toNat (wI ((C1 c).2.1.At+(wI (C1 c).1))).toNat)⟩:A6),(⟨(C1 c).2.1.Data,(wI ((C1 c).2.1.At+(wI (C1 c).1))),(C1 c).2.1.End,(C1 c).2.1.E5,(C1 c).2.1.Nodes,(C1 c).2.1.Text⟩:A4),0))))))->Vu ⟨num,w,0,⟨#[]⟩⟩ c z:=λz hz=>
  Rp _ _ _ (J6 b2 ⟨_,La c hc.okc,λz=>z=false,λb hb=>J6 hb hz,λh=>absurd q (by simpa using h),λ_=>⟨_,oD _ _ rfl,nb⟩⟩)
 by_cases l1:H7 (C1 c).2.1.Data (C1 c).2.1.At (C1 c).2.1.End<(C1 c).1
 ·refine⟨_,go _ ⟨_,Dx _,U0 (by rw[e1];exact decide_eq_true l1) rfl⟩,.inl ⟨by simp,?_⟩⟩;have ed:X5 (if w=3 then c.Text else 65536) c=(⟨#[]⟩,c,4):=by rw[X5,if_neg (by omega),if_pos l1]
  rw[An,if_neg h1,if_neg h2,ed,if_pos (by simp)]
 obtain⟨w1,w2,w3⟩:=lV hc q l1
 have eB:(((w==3)&&(decide ((C1 c).2.1.Text<(wI (C1 c).1))))||((w !=3)&&(decide (65536<(C1 c).1))))=decide ((if w=3 then c.Text else 65536)<(C1 c).1):=by
  rw[w1,xg]
  by_cases h3:w=3
  ·rw[if_pos h3,h3];simp
  ·rw[if_neg h3];have:(w==3)=false:=by simpa using h3
   rw[this,bne,this];simp
 by_cases l2:(if w=3 then c.Text else 65536)<(C1 c).1
 ·refine⟨_,go _ ⟨_,Dx _,J6 (by rw[e1];exact decide_eq_false l1) (U0 (by rw[eB];exact decide_eq_true l2) rfl)⟩,.inl ⟨by simp,?_⟩⟩;have ed:X5 (if w=3 then c.Text else 65536) c=(⟨#[]⟩,c,3):=by rw[X5,if_neg (by omega),if_neg l1,if_pos l2]
  rw[An,if_neg h1,if_neg h2,ed,if_pos (by simp)]
 ·refine⟨_,go _ ⟨_,Dx _,J6 (by rw[e1];exact decide_eq_false l1) (J6 (by rw[eB];exact decide_eq_false l2) ⟨by rw[w1,w2];exact w3,rfl⟩)⟩,.inr ⟨rfl,?_⟩⟩;have ed:X5 (if w=3 then c.Text else 65536) c=((C1 c).2.1.Data.extract (C1 c).2.1.At.toNat ((C1 c).2.1.At+(C1 c).1).toNat,CI (C1 c).2.1 (C1 c).1 0,0):=by rw[X5,if_neg (by omega),if_neg l1,if_neg l2]
  rw[An,if_neg h1,if_neg h2,ed,if_neg (by simp),w1,w2];simp only[CI,Int.sub_zero]
theorem qo{c:A4}(hc:F8 c):aM c (AI c):=by
 refine b09 _ _ ⟨_,MN hc,λh=>?_,λh=>?_⟩
 ·rw[AI,if_pos (by simpa using h)];rfl
 have h0:(G3 c).2.2.2=0:=by simpa using h
 obtain⟨k1,_,hw,_⟩:=Oe hc h0;refine⟨_,JI 1 k1.snd (by decide),λh=>?_,λh=>?_⟩
 ·rw[AI,if_neg (by omega),if_pos (by simpa using h)];rfl
 have h1:(O9 1 (G3 c).2.2.1).2=0:=by simpa using h
 have k2:=FR 1 k1.snd (by decide) h1;obtain⟨z,hz,h2⟩:=rcn k2.snd c (G3 c).1 (G3 c).2.1 hw;rw[AI,if_neg (by omega),if_neg (by omega)];refine⟨z,hz,λh3=>?_,λh3=>?_⟩
 ·rcases h2 with⟨q,e⟩|⟨q,e⟩
  ·exact e
  ·rw[q]at h3;cases h3
 ·rcases h2 with⟨q,e⟩|⟨q,e⟩
  ·exact absurd (by simpa using h3) q
  ·rw[e,<-q]
theorem xS{c:A4}(hc:F8 c)(h:(AI c).2.2=0):Fw 1 c (AI c).2.1/\Jt (AI c).1:=by
 unfold AI at h ⊢
 by_cases h0:(G3 c).2.2.2≠0
 ·rw[if_pos h0]at h;exact absurd h h0
 rw[if_neg h0]at h ⊢;obtain⟨k1,n1,w1⟩:=Oe hc (Classical.not_not.1 h0)
 by_cases h1:(O9 1 (G3 c).2.2.1).2≠0
 ·rw[if_pos h1]at h;exact absurd h h1
 rw[if_neg h1]at h ⊢;have k2:=FR 1 k1.snd (by decide) (Classical.not_not.1 h1);have k3:=k1.trans k2;have iN:I64 (G3 c).1:=⟨by omega,by omega⟩;have iW:I64 (G3 c).2.1:=⟨by omega,by omega⟩;have z0:Sz (⟨#[]⟩:b5k).size:=Nat.zero_le _;unfold An at h ⊢
 by_cases h2:(G3 c).2.1=0\/(G3 c).2.1=1
 ·rw[if_pos h2]at h ⊢
  by_cases h3:(C1 (O9 1 (G3 c).2.2.1).1).2.2≠0
  ·rw[if_pos h3]at h;exact absurd h h3
  rw[if_neg h3];obtain⟨k4,u0,u1⟩:=EF k2.snd (Classical.not_not.1 h3);exact⟨(k3.trans k4).less (by decide),iN,iW,⟨u0,u1⟩,z0⟩
 rw[if_neg h2]at h ⊢
 by_cases h4:(G3 c).2.1=2
 ·rw[if_pos h4]at h ⊢
  by_cases h3:(Z1 (O9 1 (G3 c).2.2.1).1).2.2≠0
  ·rw[if_pos h3]at h;exact absurd h h3
  rw[if_neg h3];have k4:=ou k2.snd (Classical.not_not.1 h3);exact⟨(k3.trans k4).less (by decide),iN,iW,jw _,z0⟩
 rw[if_neg h4]at h ⊢
 by_cases h3:(X5 (if(G3 c).2.1=3 then(O9 1 (G3 c).2.2.1).1.Text else 65536) (O9 1 (G3 c).2.2.1).1).2.2≠0
 ·rw[if_pos h3]at h;exact absurd h h3
 rw[if_neg h3];obtain⟨k4,k5⟩:=um _ k2.snd (Classical.not_not.1 h3);refine⟨(k3.trans k4).less (by decide),iN,iW,⟨Int.le_refl _,by simp⟩,?_⟩;show _<=140737488351232;simp only;omega
def Lf(v:A0):Prop:=F1 v/\v.B8=[]/\v.Pairs=[]/\v.Slots=[]/\v.C4=[]
abbrev O3:=Int->A0->Prop
def Ev(M:O3)(o:A7)(x:A0):Prop:=if o.Kind=10 then M o.Target x else Lf x
def Fv(k:Nat)(M:O3)(o:A7)(x:A0):Prop:=
 if o.C8=4 then x.Kind=11/\x.Bits=0/\x.Text=⟨#[]⟩/\x.Pairs=[]/\x.Slots=[]/\x.C4=[]/\x.B8.length<=k/\∀y∈x.B8,Ev M o y
 else if o.C8=5 then x.Kind=12/\x.Bits=0/\x.Text=⟨#[]⟩/\x.B8=[]/\x.Slots=[]/\x.C4=[]/\x.Pairs.length<=k/\∀y∈x.Pairs,Lf y.1/\Ev M o y.2
 else Ev M o x
structure Mv(k:Nat)(M:O3)(g:B7)(v:A0):Prop where
 kd:v.Kind=10
 bt:v.Bits=0
 tx:v.Text=⟨#[]⟩
 ls:v.B8=[]
 ps:v.Pairs=[]
 sl:v.Slots.length<=k
 rl:v.C4.length<=k
 Qy:∀x∈v.C4,Jt x
 df:Mo v.Slots
 kn:∀x∈v.Slots,(I5 g x.1).2=true
 fv:∀x∈v.Slots,Fv k M (I5 g x.1).1 x.2
def Kh:A0:=⟨10,0,⟨#[]⟩,[],[],[],[]⟩
def Rv(p:A8)(k:Nat):Nat->O3
 |0,t,v=>(0<=t/\∃g,p.B3[t.toNat]? =some g)/\v=Kh
 |n+1,t,v=>0<=t/\∃g,p.B3[t.toNat]? =some g/\Mv k (Rv p k n) g v
theorem Ev.mono{M M':O3}(hM:∀t v,M t v->M' t v){o:A7}{x:A0}(h:Ev M o x):Ev M' o x:=by
 unfold Ev at h ⊢;split
 ·rename_i q;rw[if_pos q]at h;exact hM _ _ h
 ·rename_i q;rw[if_neg q]at h;exact h
theorem Fv.mono{k k':Nat}(hk:k<=k'){M M':O3}(hM:∀t v,M t v->M' t v){o:A7}{x:A0}(h:Fv k M o x):Fv k' M' o x:=by
 unfold Fv at h ⊢;split
 ·rename_i q;rw[if_pos q]at h;obtain⟨h1,h2,h3,h4,h5,h6,h7,h8⟩:=h;exact⟨h1,h2,h3,h4,h5,h6,Nat.le_trans h7 hk,λy hy=>(h8 y hy).mono hM⟩
 rename_i q;rw[if_neg q]at h;split
 ·rename_i q;rw[if_pos q]at h;obtain⟨h1,h2,h3,h4,h5,h6,h7,h8⟩:=h;exact⟨h1,h2,h3,h4,h5,h6,Nat.le_trans h7 hk,λy hy=>⟨(h8 y hy).1,(h8 y hy).2.mono hM⟩⟩
 ·rename_i q;rw[if_neg q]at h;exact h.mono hM
theorem Mv.mono{k k':Nat}(hk:k<=k'){M M':O3}(hM:∀t v,M t v->M' t v){g:B7}{v:A0}(h:Mv k M g v):Mv k' M' g v:=
 ⟨h.kd,h.bt,h.tx,h.ls,h.ps,Nat.le_trans h.sl hk,Nat.le_trans h.rl hk,h.Qy,h.df,h.kn,λx hx=>(h.fv x hx).mono hk hM⟩
theorem Rv.mono{p:A8}{k k':Nat}(hk:k<=k'):∀{n:Nat}{t:Int}{v:A0},Rv p k n t v->Rv p k' n t v
 |0,_,_,h=>h
 |n+1,t,v,⟨h0,g,hg,h⟩=>⟨h0,g,hg,h.mono hk λt v h=>Rv.mono hk h⟩
theorem Vx(k:Nat)(M:O3)(g:B7):Mv k M g Kh:=⟨rfl,rfl,rfl,rfl,rfl,Nat.zero_le _,Nat.zero_le _,λx hx=>(by cases hx),List.Pairwise.nil,λx hx=>(by cases hx),λx hx=>(by cases hx)⟩
theorem YY{p:A8}(k:Nat){t:Int}(h:0<=t/\∃g,p.B3[t.toNat]? =some g):∀n,Rv p k n t Kh
 |0=>⟨h,rfl⟩
 |n+1=>by
  obtain⟨h0,g,hg⟩:=h;exact⟨h0,g,hg,Vx _ _ _⟩
theorem Hu(k b:Int)(t:b5k)(hk:I64 k)(hb:AJ b)(ht:Sz t.size):Lf ⟨k,b,t,[],[],[],[]⟩:=
 ⟨.mk _ hk hb ht (Nat.zero_le _) (Nat.zero_le _) (Nat.zero_le _) (Nat.zero_le _) (λx hx=>by cases hx) (λx hx=>by cases hx) (λx hx=>by cases hx) (λx hx=>by cases hx) (λx hx=>by cases hx) (λx hx=>by cases hx) ⟨Nat.zero_le _,Nat.zero_le _,Nat.zero_le _,Nat.zero_le _⟩,rfl,rfl,rfl,rfl⟩
theorem dN(p:A8)(o:A7)(f:A6)(hf:0<=f.Bits/\f.Bits<18446744073709551616)(hd:f.Data.size<=65536)(h:(Aa p o f).2=0):Lf (Aa p o f).1:=by
 have s2:∀b:Int,AJ b->I64 o.Kind->(CR p o b).2=0->Lf (CR p o b).1:=by
  intro b hb hk h;unfold CR at h ⊢
  by_cases h1:FH o.Kind ⟨o.Kind,b,⟨#[]⟩,[],[],[],[]⟩=false
  ·rw[if_pos h1]at h;exact(by simp at h)
  rw[if_neg h1]at h ⊢
  by_cases h2:o.Kind=9/\ER p o.Target b=false
  ·rw[if_pos h2]at h;exact(by simp at h)
  rw[if_neg h2];show Lf (Z9 _);unfold Z9;split
  ·exact Hu _ _ _ hk ⟨by decide,by decide⟩ (Nat.zero_le _)
  ·exact Hu _ _ _ hk hb (Nat.zero_le _)
 unfold Aa at h ⊢
 by_cases h1:((decide (1<=o.Kind))&&(decide (o.Kind<=9)))=false
 ·rw[if_pos h1]at h;exact(by simp at h)
 rw[if_neg h1]at h ⊢
 have hk:I64 o.Kind:=by
  simp only[Bool.and_eq_false_iff,b46,not_or,Classical.not_not]at h1;exact⟨by omega,by omega⟩
 by_cases h2:f.L9≠De o.Kind
 ·rw[if_pos h2]at h;exact(by simp at h)
 rw[if_neg h2]at h ⊢
 by_cases h3:f.L9=3
 ·rw[if_pos h3]at h ⊢
  by_cases h4:o.Kind=7/\Eu f.Data=false
  ·rw[if_pos h4]at h;exact(by simp at h)
  rw[if_neg h4];exact Hu _ _ _ hk ⟨Int.le_refl _,by decide⟩ (show _<=140737488351232 by omega)
 rw[if_neg h3]at h ⊢
 by_cases h4:f.L9=1
 ·rw[if_pos h4]at h ⊢;refine s2 _ ?_ hk h;show 0<=wU _/\wU _<18446744073709551616;simp only[wU,IntKind.wrap,IntKind.signed,IntKind.bits];simp;omega
 ·rw[if_neg h4]at h ⊢;exact s2 _ hf hk h
theorem Xb{α:Type}{p:A8}{S:α->A4->Prop}{x:α}{c':A4}{e:Int}(h:e=0->S x c'):Rl p S (⟨p,c'⟩,x,e) (x,c',e):=by
 by_cases q:e=0
 ·subst q;exact .inr ⟨x,c',rfl,rfl,h rfl⟩
 ·exact .inl ⟨q,rfl⟩
def tn(c:A4)(f:A6)(c':A4):Prop:=Fw 1 c c'/\(0<=f.Bits/\f.Bits<18446744073709551616)/\f.Data.size<=65536
theorem dC(p:A8)(w:Int){c:A4}(hc:F8 c):H0 (Rl p (tn c)) (TP ⟨p,c⟩ w) (TW w c):=by
 have z0:(⟨#[]⟩:b5k).size<=65536:=by decide
 refine V9 (λr=>xi _ _ r) (λr=>zK _ _ r) ?_
 by_cases h3:w=3
 ·subst h3;refine N3 _ (λ_=>M3 _ (λh=>by cases h) λ_=>M3 _ (λ_=>?_) (λh=>by cases h)) (λh=>by cases h);refine I8 (TV p hc) (WE hc) ?_;refine M7 rfl (λh=>I1 (.inl ⟨by simpa using h,rfl⟩)) λh=>?_
  obtain⟨k1,k2,k3⟩:=VR hc (by simpa using h);refine I8 (b3s _ k1.snd.okc _) (xI _ k1.snd.okc _) (I1 (Xb λq=>?_));obtain⟨t1,t2⟩:=a99 k1.snd _ q;exact⟨(k1.trans t1).less (by decide),⟨Int.le_refl _,by simp⟩,t2⟩
 have b3:(w==3)=false:=by simpa using h3
 refine N3 _ (λh=>by rw[b3]at h;cases h) λ_=>?_
 by_cases h2:w=2
 ·subst h2;refine M7 rfl (λ_=>?_) (λh=>by cases h);refine I8 (ko _ hc.okc) (qF _ hc.okc) (I1 (Xb λq=>?_));exact⟨ou hc q,jw _,z0⟩
 have b2:(w==2)=false:=by simpa using h2
 refine M7 rfl (λh=>by rw[b2]at h;cases h) λ_=>M3 _ (λh=>by rw[b3]at h;cases h) λ_=>?_
 refine I8 (ME _ hc.okc) (La _ hc.okc) (I1 (Xb λq=>?_));obtain⟨k,u0,u1⟩:=EF hc q;exact⟨k,⟨u0,u1⟩,z0⟩
theorem b1c{g:B7}{v:A0}{o:A7}{x:A0}(h:Mo v.Slots):Mo (Ge g v o x).Slots:=by
 show(v.Slots.filter (Bl g o)++[(o.Num,x)]).Pairwise _;refine List.pairwise_append.2 ⟨h.filter _,List.pairwise_singleton _ _,λa ha b hb=>?_⟩;rw[List.mem_singleton]at hb;subst hb;have:=(List.mem_filter.1 ha).2;simp only[Bl,b47,b5f,beq_eq_false_iff_ne,ne_eq]at this;exact this.1
theorem IV{k k':Nat}(hk:k+1<=k'){M M':O3}(hM:∀t v,M t v->M' t v){g:B7}{v:A0}(h:Mv k M g v){o:A7}{x:A0}(ho:I5 g o.Num=(o,true))(hx:Fv k' M' o x):Mv k' M' g (Ge g v o x):=by
 have hl:(v.Slots.filter (Bl g o)).length<=v.Slots.length:=List.length_filter_le _ _;have sl:=h.sl;refine⟨rfl,rfl,rfl,rfl,rfl,?_,Nat.le_trans h.rl (by omega),h.Qy,b1c h.df,λs hs=>?_,λs hs=>?_⟩
 ·show(v.Slots.filter (Bl g o)++[(o.Num,x)]).length<=k';rw[b5i,List.length_singleton];omega
 ·rcases List.mem_append.1 hs with hs|hs
  ·exact h.kn s (List.mem_filter.1 hs).1
  ·rw[List.mem_singleton]at hs;subst hs;simp only[ho]
 ·rcases List.mem_append.1 hs with hs|hs
  ·exact(h.fv s (List.mem_filter.1 hs).1).mono (by omega) hM
  ·rw[List.mem_singleton]at hs;subst hs;simp only[ho];exact hx
theorem fp{k k':Nat}(hk:k+1<=k'){M M':O3}(hM:∀t v,M t v->M' t v){g:B7}{v:A0}(h:Mv k M g v){f:A6}(hf:Jt f):Mv k' M' g (LG v f):=by
 have m:=h.mono (show k<=k' by omega) hM;have rl:=h.rl;refine⟨h.kd,h.bt,h.tx,h.ls,h.ps,m.sl,?_,λx hx=>?_,h.df,h.kn,m.fv⟩
 ·show(v.C4++[f]).length<=k';rw[b5i,List.length_singleton];omega
 ·rcases List.mem_append.1 hx with hx|hx
  ·exact h.Qy x hx
  ·rw[List.mem_singleton]at hx;subst hx;exact hf
theorem de{k k':Nat}(hk:k+1<=k'){M M':O3}(hM:∀t v,M t v->M' t v){g:B7}{v:A0}(h:Mv k M g v){o:A7}{x:A0}(ho:I5 g o.Num=(o,true))(hc:o.C8=4)(hx:Ev M' o x):Fv k' M' o (Ur (H2 v o.Num).1 x):=by
 unfold Fv;rw[if_pos hc]
 have old:(H2 v o.Num).1.B8.length<=k/\∀y∈(H2 v o.Num).1.B8,Ev M o y:=by
  cases hg:(H2 v o.Num).2 with
  |true=>
   have hm:=h.fv _ (Lx hg);simp only[ho]at hm;unfold Fv at hm;rw[if_pos hc]at hm;obtain⟨_,_,_,_,_,_,h7,h8⟩:=hm;exact⟨h7,h8⟩
  |false=>
   have e:(H2 v o.Num).1=El:=Va hg;rw[e];exact⟨Nat.zero_le _,λy hy=>by cases hy⟩
 refine⟨rfl,rfl,rfl,rfl,rfl,rfl,?_,λy hy=>?_⟩
 ·show((H2 v o.Num).1.B8++[x]).length<=k';rw[b5i,List.length_singleton];omega
 ·rcases List.mem_append.1 hy with hy|hy
  ·exact(old.2 y hy).mono hM
  ·rw[List.mem_singleton]at hy;subst hy;exact hx
theorem nM{k:Nat}{M:O3}{g:B7}{v:A0}(h:Mv k M g v){o:A7}(ho:I5 g o.Num=(o,true))(hc:o.C8=4):(H2 v o.Num).1.B8.length<=k:=by
 cases hg:(H2 v o.Num).2 with
 |true=>
  have hm:=h.fv _ (Lx hg);simp only[ho]at hm;unfold Fv at hm;rw[if_pos hc]at hm;exact hm.2.2.2.2.2.2.1
 |false=>
  have e:(H2 v o.Num).1=El:=Va hg;rw[e];exact Nat.zero_le _
def Am(n:Int)(c:A4):A4 × Int:=if c.E5<1 then(c,17) else(⟨c.Data,c.At,c.At+n,c.E5 - 1,c.Nodes,c.Text⟩,0)
theorem qg{c:A4}(hc:F8 c){n:Int}(h:0<=n/\n<=c.End - c.At):ID (H7 c.Data c.At c.End<n) (Am n c=(c,4)) (ID (c.E5<1) (Am n c=(c,17)) (Am n c=((⟨c.Data,c.At,(wI (c.At+n)),(wI (c.E5 - 1)),c.Nodes,c.Text⟩:A4),0))):=by
 have a0:=hc.a0;have a1:=hc.a1;have a2:=hc.a2;have sz:=hc.sz;have d0:=hc.d0;have d1:=hc.d1;refine J6 (decide_eq_false (by rw[hc.left];omega)) ⟨λh=>?_,λh=>?_⟩
 ·rw[Am,if_pos (of_decide_eq_true h)]
 ·rw[Am,if_neg (of_decide_eq_false h),wI,wI,C7 (by omega),C7 (by omega)]
theorem pen{c:A4}(hc:F8 c){n:Int}(h:0<=n/\n<=c.End - c.At):dV c n (Am n c):=a72 _ _ _ (J6 (decide_eq_false (by omega)) ⟨_,Dd _ hc.okc,qg hc h⟩)
theorem ren{c:A4}(hc:F8 c){n:Int}(h:0<=n/\n<=c.End - c.At):ZL c n (Am n c):=b2s _ _ _ (J6 (decide_eq_false (by omega)) ⟨_,Dx _,qg hc h⟩)
theorem rf{c:A4}(hc:F8 c){n:Int}(h:0<=n/\n<=c.End - c.At)(he:(Am n c).2=0):1<=c.E5/\(Am n c).1=⟨c.Data,c.At,c.At+n,c.E5 - 1,c.Nodes,c.Text⟩/\F8 (Am n c).1:=by
 have a0:=hc.a0;have a1:=hc.a1;have a2:=hc.a2;have sz:=hc.sz;have d0:=hc.d0;have d1:=hc.d1;unfold Am at he ⊢
 by_cases h1:c.E5<1
 ·rw[if_pos h1]at he;exact(by simp at he)
 rw[if_neg h1];exact⟨by omega,rfl,⟨sz,a0,by simp only;omega,by simp only;omega,by simp only;omega,by simp only;omega,hc.n0,hc.n1⟩⟩
def Cl(c i:A4):A4:=⟨c.Data,i.End,c.End,c.E5,i.Nodes,c.Text⟩
theorem qk{c i:A4}(hc:F8 c)(h1:c.At<=i.End)(h2:i.End<=c.End)(h3:0<=i.Nodes)(h4:i.Nodes<=c.Nodes):(((((!(AY c.Data c.At c.End))||(decide (i.End<c.At)))||(decide (c.End<i.End)))||(decide (i.Nodes<0)))||(decide (c.Nodes<i.Nodes)))=false:=by
 have a0:=hc.a0;have a1:=hc.a1;have a2:=hc.a2;have:AY c.Data c.At c.End:=by simp[AY];omega
 rw[this];simp only[Bool.not_true,Bool.false_or,Bool.or_eq_false_iff,b46];omega
theorem plv{c i:A4}(hc:F8 c)(h1:c.At<=i.End)(h2:i.End<=c.End)(h3:0<=i.Nodes)(h4:i.Nodes<=c.Nodes):YO c i (Cl c i):=sj _ _ _ ⟨_,XQ c,J6 (qk hc h1 h2 h3 h4) rfl⟩
theorem rlv{c i:A4}(hc:F8 c)(h1:c.At<=i.End)(h2:i.End<=c.End)(h3:0<=i.Nodes)(h4:i.Nodes<=c.Nodes):Zc c i (Cl c i):=a6a _ _ _ ⟨_,oN c,J6 (qk hc h1 h2 h3 h4) rfl⟩
theorem TD{c c1 i:A4}{s:Int}(k:Fw s c c1)(hi:F8 i)(h1:c1.At<=i.End)(h2:i.End<=c1.End)(h4:i.Nodes<=c1.Nodes):Fw s c (Cl c1 i):=by
 have a0:=k.snd.a0;have a2:=k.snd.a2;have:=k.at_;have:=k.nd;exact⟨⟨k.snd.sz,by show 0<=i.End;omega,h2,a2,k.snd.d0,k.snd.d1,hi.n0,hi.n1⟩,k.en,k.dp,k.dt,by show c.At+s<=i.End;omega,by show i.Nodes<=c.Nodes;omega⟩
def Ql(p:A8)(d:Nat):Prop:=∀(c:A4) (t:Int) (g:B7) (v:A0),p.B3[t.toNat]? =some g->0<=t->F8 c->c.E5+1<=(d:Int)->Mv c.At.toNat (Rv p c.At.toNat (d - 1)) g v->
 H0 (Rl p λv' c'=>Fw 0 c c'/\Mv c'.At.toNat (Rv p c'.At.toNat (d - 1)) g v') (Vn ⟨p,c⟩ t v) (Ts p t v c)
theorem Ss{a b:Int}(h:a<=b):a.toNat<=b.toNat:=by omega
section
variable {p:A8}(hp:BD p) {d:Nat}(hM:Ql p d)
 include hp hM
theorem Xz{c:A4}(hc:F8 c)(hd:c.E5<=d)(o:A7)(ho:0<=o.Target/\∃g,p.B3[o.Target.toNat]? =some g){base:A0}(hb:Rv p c.At.toNat d o.Target base){cost:Int}(hcost:0<=cost/\cost<=10):
  H0 (Rl p λv' c'=>Fw 1 c c'/\Rv p c'.At.toNat d o.Target v') (QM ⟨p,c⟩ o.Target base cost) (UM p o base cost c):=by
 refine V9 (λr=>n9 _ _ _ _ r) (λr=>a4v _ _ _ _ _ r) ?_;refine I8 (TV p hc) (WE hc) (M7 rfl (λh=>I1 (.inl ⟨by simpa using h,rfl⟩)) λh=>?_);obtain⟨k1,n0,n1⟩:=VR hc (by simpa using h);refine I8 (pen k1.snd ⟨n0,n1⟩) (ren k1.snd ⟨n0,n1⟩) (M7 rfl (λh=>I1 (.inl ⟨by simpa using h,rfl⟩)) λh=>?_);obtain⟨d1,e2,s2⟩:=rf k1.snd ⟨n0,n1⟩ (by simpa using h);refine I8 (Lh p cost s2 hcost) (JI cost s2 hcost) (M7 rfl (λh=>I1 (.inl ⟨by simpa using h,rfl⟩)) λh=>?_);have k3:=FR cost s2 hcost.1 (by simpa using h);have dp:=k1.dp;obtain⟨t0,g,hg⟩:=ho;have a2:=k3.at_;have en2:=k3.en;have dp2:=k3.dp;have nd2:=k3.nd;have eA:(Am (F2 c).1 (F2 c).2.1).1.At=(F2 c).2.1.At:=by rw[e2]
 have eE:(Am (F2 c).1 (F2 c).2.1).1.End=(F2 c).2.1.At+(F2 c).1:=by rw[e2]
 have eD:(Am (F2 c).1 (F2 c).2.1).1.E5=(F2 c).2.1.E5 - 1:=by rw[e2]
 have eN:(Am (F2 c).1 (F2 c).2.1).1.Nodes=(F2 c).2.1.Nodes:=by rw[e2]
 have at1:=k1.at_;cases d with
 |zero=>exact absurd hd (by have:((0:Nat):Int)=0:=rfl;omega)
 |succ d=>
 have hd1:c.E5<=(d:Int)+1:=by have:((d+1:Nat):Int)=(d:Int)+1:=(by omega);omega
 obtain⟨_,g',hg',hm⟩:=hb;rw[hg]at hg';cases hg';have hle:c.At.toNat<=(O9 cost (Am (F2 c).1 (F2 c).2.1).1).1.At.toNat:=by omega
 have hm':Mv (O9 cost (Am (F2 c).1 (F2 c).2.1).1).1.At.toNat (Rv p (O9 cost (Am (F2 c).1 (F2 c).2.1).1).1.At.toNat d) g base:=hm.mono hle λt v h=>Rv.mono hle h
 dsimp only
 refine Fc (hM _ _ g _ hg t0 k3.snd (by have:((d+1:Nat):Int)=(d:Int)+1:=(by omega);omega) hm') (λy z h1 h2=>.inl ⟨h1,h2⟩) λv' c4 ⟨f4,m4⟩=>?_
 have en4:=f4.en;have nd4:=f4.nd;have s4:=f4.snd.a1;have l1:(F2 c).2.1.At<=c4.End:=by omega
 have l2:c4.End<=(F2 c).2.1.End:=by omega
 have l4:c4.Nodes<=(F2 c).2.1.Nodes:=by omega
 refine I8 (plv k1.snd l1 l2 f4.snd.n0 l4) (rlv k1.snd l1 l2 f4.snd.n0 l4) (I1 (.inr ⟨v',_,rfl,rfl,TD k1 f4.snd l1 l2 l4,t0,g,hg,?_⟩));have hle2:c4.At.toNat<=(Cl (F2 c).2.1 c4).At.toNat:=Ss s4;exact m4.mono hle2 λt v h=>Rv.mono hle2 h
end
section
variable {p:A8}(hp:BD p) {d:Nat}{g:B7}(hg:g∈p.B3)
 include hp hg
abbrev CF(p:A8)(d:Nat)(g:B7)(s:Int)(c:A4)(v':A0)(c':A4):Prop:=Fw s c c'/\Mv c'.At.toNat (Rv p c'.At.toNat d) g v'
theorem Pn{o:A7}(ho:I5 g o.Num=(o,true)):o∈g.Ops/\(o.Union= -1\/0<=o.Union):=by
 have h:=OW (g:=g) (num:=o.Num) (by rw[ho]);rw[ho]at h;have hu:=(hp.va.XA g hg).1 o h.2;exact⟨h.2,by unfold Dh at hu;omega⟩
theorem LA{c:A4}(hc:F8 c){M:O3}{v:A0}(h:Mv c.At.toNat M g v):v.Slots.length<=65536/\v.C4.length<=65536:=by
 have:=h.sl;have:=h.rl;have:=hc.a1;have:=hc.a2;have:=hc.sz;omega
theorem pR{c:A4}(hc:F8 c){v:A0}(hv:Mv c.At.toNat (Rv p c.At.toNat d) g v){o:A7}(ho:I5 g o.Num=(o,true))(hk:o.Kind≠10)(h5:o.C8≠5):
  H0 (Rl p (CF p d g 1 c)) (Nd ⟨p,c⟩ g v o) (Ls p g v o c):=by
 have ops:=hp.ops hg;obtain⟨om,hu⟩:=Pn hp hg ho;obtain⟨b1,b2⟩:=LA hp hg hc hv;refine V9 (λr=>p7 _ _ _ _ r) (λr=>k9 _ _ _ _ _ r) ?_;refine I8 (Lh p 1 hc (by decide)) (JI 1 hc (by decide)) (M7 rfl (λh=>I1 (.inl ⟨by simpa using h,rfl⟩)) λh=>?_);have k1:=FR 1 hc (by decide) (by simpa using h);refine I8 (MR o) (NC o) ?_;refine Fc (dC p (De o.Kind) k1.snd) (λy z h1 h2=>.inl ⟨h1,h2⟩) λf c2 ⟨k2,fb,fd⟩=>?_
 have k3:=k1.trans k2;have hle:c.At.toNat+1<=c2.At.toNat:=by have:=k3.at_;have:=hc.a0;omega
 have mon:∀t v,Rv p c.At.toNat d t v->Rv p c2.At.toNat d t v:=λt v h=>Rv.mono (by omega) h
 refine I8 (Xe p hp.e o f fb fd) (Zj p hp.e o f fb fd) ?_;refine M7 rfl (λh16=>?_) λh16=>M7 rfl (λh=>I1 (.inl ⟨by simpa using h,rfl⟩)) λh0=>?_
 ·refine I8 (lm v _ (by omega)) (iA v _ (by omega)) (I1 (.inr ⟨_,_,rfl,rfl,k3.less (by decide),?_⟩));have hn:=((hp.pl.CE g hg).ops o om).num;exact fp hle mon hv ⟨hn,⟨by simp,by simp⟩,fb,Nat.zero_le _⟩
 have lf:=dN p o f fb fd (by simpa using h0);have ev:Ev (Rv p c2.At.toNat d) o (Aa p o f).1:=by unfold Ev;rw[if_neg hk];exact lf
 refine M7 rfl (λh4=>?_) λh4=>?_
 ·refine I8 (KP ops v (by omega) o _ hv.kn) (Iq ops v (by omega) o _ hu) (I1 (.inr ⟨_,_,rfl,rfl,k3.less (by decide),IV hle mon hv ho ?_⟩));unfold Fv;rw[if_neg (by simpa using h4),if_neg h5];exact ev
 have c4:o.C8=4:=by simpa using h4
 have gl:=nM hv ho c4;have gl':(H2 v o.Num).1.B8.length<=1000000:=by have:=hc.a1;have:=hc.a2;have:=hc.sz;omega
 refine I8 (HE v (by omega) o.Num) (LV v (by omega) o.Num) (M7 rfl (λh=>?_) λh=>?_)
 ·refine I8 (Lh p 1 k3.snd (by decide)) (JI 1 k3.snd (by decide)) (M7 rfl (λh=>I1 (.inl ⟨by simpa using h,rfl⟩)) λh=>?_);have k4:=FR 1 k3.snd (by decide) (by simpa using h);have hle4:c.At.toNat+1<=(O9 1 c2).1.At.toNat:=by have:=k4.at_;have:=k3.snd.a0;omega
  have mon4:∀t v,Rv p c.At.toNat d t v->Rv p (O9 1 c2).1.At.toNat d t v:=λt v h=>Rv.mono (by omega) h
  have ev4:Ev (Rv p (O9 1 c2).1.At.toNat d) o (Aa p o f).1:=by unfold Ev;rw[if_neg hk];exact lf
  refine Cs (Yz _ _ gl') (I8 (KP ops v (by omega) o _ hv.kn) (aW ops v (by omega) o _ hu gl') (I1 (.inr ⟨_,_,rfl,rfl,(k3.trans k4).less (by decide),IV hle4 mon4 hv ho (de hle4 mon4 hv ho c4 ev4)⟩)))
 ·refine Cs (Yz _ _ gl') (I8 (KP ops v (by omega) o _ hv.kn) (aW ops v (by omega) o _ hu gl') (I1 (.inr ⟨_,_,rfl,rfl,k3.less (by decide),IV hle mon hv ho (de hle mon hv ho c4 ev)⟩)))
end
section
variable {p:A8}(hp:BD p) {d:Nat}(hM:Ql p d) {g:B7}(hg:g∈p.B3)
 include hp hM hg
theorem a42{c:A4}(hc:F8 c)(hd:c.E5<=d){v:A0}(hv:Mv c.At.toNat (Rv p c.At.toNat d) g v){o:A7}(ho:I5 g o.Num=(o,true))(hk:o.Kind=10)(h5:o.C8≠5):
  H0 (Rl p (CF p d g 1 c)) (Vw ⟨p,c⟩ g v o) (ON p g v o c):=by
 have ops:=hp.ops hg;obtain⟨om,hu⟩:=Pn hp hg ho;obtain⟨b1,b2⟩:=LA hp hg hc hv
 have hG:0<=o.Target/\∃g,p.B3[o.Target.toNat]? =some g:=by
  have:=Nj hp hg o.Num;rw[ho]at this;obtain⟨g',h1,h2⟩:=this hk;exact⟨h2,g',h1⟩
 have em:Rv p c.At.toNat d o.Target ⟨10,0,⟨#[]⟩,[],[],[],[]⟩:=YY _ hG d;refine V9 (λr=>wW _ _ _ _ r) (λr=>t8 _ _ _ _ _ r) ?_;refine I8 (HE v (by omega) o.Num) (LV v (by omega) o.Num) ?_
 by_cases c4:o.C8=4
 ·have bc:(o.C8==4):=by simpa using c4
  have gl:=nM hv ho c4;have gl':(H2 v o.Num).1.B8.length<=1000000:=by have:=hc.a1;have:=hc.a2;have:=hc.sz;omega
  have go:∀cost:Int,0<=cost/\cost<=10->H0 (Rl p (CF p d g 1 c)) (UN cost ⟨p,c⟩ g v o (H2 v o.Num)) (WK cost (H2 v o.Num) p g v o c):=by
   intro cost hcost;refine V9 (λr=>f8 _ _ _ _ _ _ r) (λr=>mV _ _ _ _ _ _ _ r) ?_;refine M3 _ (λh=>by rw[bne,bc]at h;cases h) λ_=>CN (λr=>pO _ _ _ _ _ _ _ _ _ _ _ _ _ r) ?_
   refine Fc (Xz hp hM hc hd o hG em hcost) (λy z h1 h2=>.inl ⟨h1,h2⟩) λx c2 ⟨k2,rv⟩=>?_
   have hle:c.At.toNat+1<=c2.At.toNat:=by have:=k2.at_;have:=hc.a0;omega
   have mon:∀t v,Rv p c.At.toNat d t v->Rv p c2.At.toNat d t v:=λt v h=>Rv.mono (by omega) h
   have ev:Ev (Rv p c2.At.toNat d) o x:=by unfold Ev;rw[if_pos hk];exact rv
   refine M3 _ (λ_=>?_) (λh=>by rw[bc]at h;cases h);exact Cs (Yz _ _ gl') (I8 (KP ops v (by omega) o _ hv.kn) (aW ops v (by omega) o _ hu gl') (I1 (.inr ⟨_,_,rfl,rfl,k2,IV hle mon hv ho (de hle mon hv ho c4 ev)⟩)))
  refine N3 _ (λ_=>?_) (λh=>by rw[bc]at h;cases h);rcases Bool.eq_false_or_eq_true (H2 v o.Num).2 with hq|hq
  ·exact N3 _ (λh=>by rw[hq]at h;cases h) λ_=>M3 _ (λh=>by rw[hq,Bool.not_true,Bool.and_false]at h;cases h) λ_=>go 1 (by decide)
  ·exact N3 _ (λ_=>M3 _ (λ_=>go 2 (by decide)) λh=>by rw[hq,bc]at h;cases h) λh=>by rw[hq]at h;cases h
 ·have bc:(o.C8==4)=false:=by simpa using c4
  have go:∀base:A0,Rv p c.At.toNat d o.Target base->H0 (Rl p (CF p d g 1 c)) (VL ⟨p,c⟩ g v o base.Kind base.Bits base.Text base.B8 base.Pairs base.Slots base.C4) (UX 1 p g v o c base.Kind base.Bits base.Text base.B8 base.Pairs base.Slots base.C4):=by
   intro base hbase;refine V9 (λr=>uU _ _ _ _ _ _ _ _ _ _ _ r) (λr=>pO _ _ _ _ _ _ _ _ _ _ _ _ _ r) ?_;have eb:(⟨base.Kind,base.Bits,base.Text,base.B8,base.Pairs,base.Slots,base.C4⟩:A0)=base:=by cases base;rfl
   rw[eb];refine Fc (Xz hp hM hc hd o hG hbase (by decide)) (λy z h1 h2=>.inl ⟨h1,h2⟩) λx c2 ⟨k2,rv⟩=>?_
   have hle:c.At.toNat+1<=c2.At.toNat:=by have:=k2.at_;have:=hc.a0;omega
   have mon:∀t v,Rv p c.At.toNat d t v->Rv p c2.At.toNat d t v:=λt v h=>Rv.mono (by omega) h
   have ev:Ev (Rv p c2.At.toNat d) o x:=by unfold Ev;rw[if_pos hk];exact rv
   refine M3 _ (λh=>by rw[bc]at h;cases h) λ_=>?_
   refine I8 (KP ops v (by omega) o _ hv.kn) (Iq ops v (by omega) o _ hu) (I1 (.inr ⟨_,_,rfl,rfl,k2,IV hle mon hv ho ?_⟩));unfold Fv;rw[if_neg c4,if_neg h5];exact ev
  refine N3 _ (λh=>by rw[bc]at h;cases h) λ_=>M3 _ (λh=>by rw[bc,Bool.false_and]at h;cases h) λ_=>CN (λr=>mV _ _ _ _ _ _ _ r) ?_
  rcases Bool.eq_false_or_eq_true (H2 v o.Num).2 with hq|hq
  ·refine N3 _ (λh=>by rw[hq]at h;cases h) λ_=>M3 _ (λ_=>?_) λh=>by rw[hq,bne,bc]at h;cases h
   refine go _ ?_;have hm:=hv.fv _ (Lx hq);simp only[ho]at hm;unfold Fv at hm;rw[if_neg c4,if_neg h5]at hm;unfold Ev at hm;rw[if_pos hk]at hm;exact hm
  ·exact N3 _ (λ_=>M3 _ (λh=>by rw[hq,Bool.and_false]at h;cases h) λ_=>go ⟨10,0,⟨#[]⟩,[],[],[],[]⟩ em) λh=>by rw[hq]at h;cases h
end
theorem Dp(z:A0):(⟨z.Kind,z.Bits,z.Text,z.B8,z.Pairs,z.Slots,z.C4⟩:A0)=z:=by cases z;rfl
theorem YU(p:A8)(c1 c:A4):Nn ⟨p,c⟩ c1 ⟨p,Cl c1 c⟩:=a8o _ _ _ rfl
theorem Te(c1 c:A4):Iz c1 c (Cl c1 c):=m6 _ _ _ rfl
theorem cf{c:A4}(hc:F8 c):decide (0<H7 c.Data c.At c.End)=decide (c.At<c.End):=by
 rw[hc.left];exact decide_eq_decide.2 (by omega)
def Bk(n:Int)(c:A4):A4:=⟨c.Data,c.At,c.At+n,c.E5,c.Nodes,c.Text⟩
theorem jL{c:A4}(hc:F8 c){n:Int}(h:0<=n/\n<=c.End - c.At):F8 (Bk n c):=by
 have a0:=hc.a0;have a1:=hc.a1;have a2:=hc.a2;exact⟨hc.sz,a0,by show c.At<=c.At+n;omega,by show c.At+n<=_;show c.At+n<=(c.Data.size:Int);omega,hc.d0,hc.d1,hc.n0,hc.n1⟩
theorem oe{c:A4}(hc:F8 c){n:Int}(h:0<=n/\n<=c.End - c.At):wI (c.At+n)=c.At+n:=by
 have a0:=hc.a0;have a1:=hc.a1;have a2:=hc.a2;have sz:=hc.sz;rw[wI,C7 (by omega)]
theorem pm(p:A8){c:A4}(hc:F8 c){n:Int}(h:0<=n/\n<=c.End - c.At):Sx ⟨p,c⟩ n (⟨p,Bk n c⟩,c):=ry _ _ _ (by rw[oe hc h];rfl)
theorem ox{c:A4}(hc:F8 c){n:Int}(h:0<=n/\n<=c.End - c.At):Uj c n (Bk n c):=vY _ _ _ (by rw[oe hc h];rfl)
section
variable {p:A8}(hp:BD p) {d:Nat}{g:B7}(hg:g∈p.B3)
 include hp hg
theorem pQ{o:A7}(ho:I5 g o.Num=(o,true))(hk:o.Kind≠10)(h5:o.C8≠5)(c0 c1:A4)(k1:Fw 1 c0 c1)(y2:B6 × A4)(e2:y2.2=c1)(n0 e0:Int):∀(n:Nat) (c:A4) (v:A0),(c.End - c.At).toNat<=n->F8 c->c1.At<=c.At->c.End<=c1.End->c.Nodes<=c1.Nodes->Mv c.At.toNat (Rv p c.At.toNat d) g v->
  H0 (Rl p (CF p d g 1 c0)) (RK p.B3 p.D8 c.Data c.At c.End c.E5 c.Nodes c.Text g v.Kind v.Bits v.Text v.B8 v.Pairs v.Slots v.C4 o y2) (Ul p g v.Kind v.Bits v.Text v.B8 v.Pairs v.Slots v.C4 o c0 (n0,c1,e0) c.Data c.At c.End c.E5 c.Nodes c.Text):=by
 intro n
 induction n with
 |zero=>
  intro c v hn hc h1 h2 h3 hv;refine V9 (λr=>ma _ _ _ _ _ _ _ _ _ _ _ _ _ _ _ _ _ _ r) (λr=>oL _ _ _ _ _ _ _ _ _ _ _ _ _ _ _ _ _ _ r) ?_;refine I8 (Dd c hc.okc) (Dx c) ?_;have hd:decide (0<H7 c.Data c.At c.End)=false:=by rw[cf hc];exact decide_eq_false (by omega)
  refine N3 _ (λh=>by rw[hd]at h;cases h) λ_=>M3 _ (λh=>by rw[hd]at h;cases h) λ_=>?_
  have a1:=hc.a1;rw[Dp,e2];refine I8 (YU p c1 c) (Te c1 c) (I1 (.inr ⟨v,_,rfl,rfl,TD k1 hc (by omega) h2 h3,?_⟩));have hle:c.At.toNat<=(Cl c1 c).At.toNat:=Ss a1;exact hv.mono hle λt v h=>Rv.mono hle h
 |succ n ih=>
  intro c v hn hc h1 h2 h3 hv;refine V9 (λr=>ma _ _ _ _ _ _ _ _ _ _ _ _ _ _ _ _ _ _ r) (λr=>oL _ _ _ _ _ _ _ _ _ _ _ _ _ _ _ _ _ _ r) ?_;refine I8 (Dd c hc.okc) (Dx c) (M7 rfl (λh=>?_) λh=>?_)
  ·rw[Dp];refine Fc (pR hp hg hc hv ho hk h5) (λy z h1 h2=>.inl ⟨h1,h2⟩) λx c2 ⟨k2,m2⟩=>?_
   have a:=k2.at_;have b:=k2.en;have e:=k2.nd;exact ih c2 x (by omega) k2.snd (by omega) (by omega) (by omega) m2
  ·have a1:=hc.a1;rw[Dp,e2];refine I8 (YU p c1 c) (Te c1 c) (I1 (.inr ⟨v,_,rfl,rfl,TD k1 hc (by omega) h2 h3,?_⟩));have hle:c.At.toNat<=(Cl c1 c).At.toNat:=Ss a1;exact hv.mono hle λt v h=>Rv.mono hle h
theorem sL(k:Nat)(M:O3){o:A7}(h4:o.C8=4):Fv k M o ⟨11,0,⟨#[]⟩,[],[],[],[]⟩:=by
 unfold Fv;rw[if_pos h4];exact⟨rfl,rfl,rfl,rfl,rfl,rfl,Nat.zero_le _,λy hy=>by cases hy⟩
theorem wF{c:A4}(hc:F8 c){v:A0}(hv:Mv c.At.toNat (Rv p c.At.toNat d) g v){o:A7}(ho:I5 g o.Num=(o,true))(hk:o.Kind≠10)(h4:o.C8=4):
  H0 (Rl p (CF p d g 1 c)) (XT ⟨p,c⟩ g v o) (Qb p g v o c):=by
 have ops:=hp.ops hg;have h5:o.C8≠5:=by omega
 obtain⟨om,hu⟩:=Pn hp hg ho;obtain⟨b1,b2⟩:=LA hp hg hc hv;refine V9 (λr=>l5 _ _ _ _ r) (λr=>a60 _ _ _ _ _ r) ?_;refine I8 (TV p hc) (WE hc) (M7 rfl (λh=>I1 (.inl ⟨by simpa using h,rfl⟩)) λh=>?_);obtain⟨k1,n0,n1⟩:=VR hc (by simpa using h);have sp:=jL k1.snd ⟨n0,n1⟩;refine I8 (pm p k1.snd ⟨n0,n1⟩) (ox k1.snd ⟨n0,n1⟩) ?_;refine I8 (a57 _ sp.okc) (d7 _ sp.okc) (M7 rfl (λh=>I1 (.inl ⟨by simpa using h,rfl⟩)) λh=>?_);obtain⟨k2,u0,u1⟩:=l7 sp (by simpa using h);have a1:=k1.at_;have a2:=k2.at_;have a3:=k2.en;have a4:=k2.nd;have a0:=hc.a0;have p1:(Bk (F2 c).1 (F2 c).2.1).At=(F2 c).2.1.At:=rfl;have p2:(Bk (F2 c).1 (F2 c).2.1).End=(F2 c).2.1.At+(F2 c).1:=rfl;have p3:(Bk (F2 c).1 (F2 c).2.1).Nodes=(F2 c).2.1.Nodes:=rfl;refine I8 (MR o) (NC o) (M7 rfl (λh=>I1 (.inl ⟨by simp,rfl⟩)) λh=>?_);refine I8 (HE v (by omega) o.Num) (LV v (by omega) o.Num) (M7 rfl (λh=>?_) λh=>?_)
 ·refine I8 (Lh p 1 k2.snd (by decide)) (JI 1 k2.snd (by decide)) (M7 rfl (λh=>I1 (.inl ⟨by simpa using h,rfl⟩)) λh=>?_);have k3:=FR 1 k2.snd (by decide) (by simpa using h);have b3:=k3.at_;have b4:=k3.en;have b5:=k3.nd;have hle:c.At.toNat+1<=(O9 1 (Ch (Bk (F2 c).1 (F2 c).2.1)).2.1).1.At.toNat:=by omega
  refine I8 (KP ops v (by omega) o _ hv.kn) (Iq ops v (by omega) o _ hu) ?_;refine V9 (λr=>fh _ _ _ _ _ _ _ _ _ _ _ _ _ _ _ _ _ _ r) (λr=>mb _ _ _ _ _ _ _ _ _ _ _ _ _ _ _ _ _ _ r) ?_;dsimp only;exact pQ hp hg ho hk h5 c _ k1 _ rfl _ _ _ _ (Ge g v o ⟨11,0,⟨#[]⟩,[],[],[],[]⟩) (Nat.le_refl _) k3.snd (by omega) (by omega) (by omega) (IV hle (λt v h=>Rv.mono (by omega) h) hv ho (sL hp hg _ _ h4))
 ·have hle:c.At.toNat<=(Ch (Bk (F2 c).1 (F2 c).2.1)).2.1.At.toNat:=by omega
  refine V9 (λr=>fh _ _ _ _ _ _ _ _ _ _ _ _ _ _ _ _ _ _ r) (λr=>mb _ _ _ _ _ _ _ _ _ _ _ _ _ _ _ _ _ _ r) ?_;dsimp only;exact pQ hp hg ho hk h5 c _ k1 _ rfl _ _ _ _ v (Nat.le_refl _) k2.snd (by omega) (by omega) (by omega) (hv.mono hle λt v h=>Rv.mono hle h)
end
theorem Lk(c:A4):(⟨c.Data,c.At,c.End,c.E5,c.Nodes,c.Text⟩:A4)=c:=rfl
def Wy(p:A8)(f:A0->A0 × A0)(S:A0->A4->Prop)(y:B6 × (A0 × Int))(z:(A0 × A0) × A4 × Int):Prop:=(y.2.2≠0/\z.2.2=y.2.2)\/∃x c',y=(⟨p,c'⟩,x,0)/\z=(f x,c',0)/\S x c'
theorem lh{p:A8}{f:A0->A0 × A0}{S:A0->A4->Prop}{x:A0}{c':A4}{e:Int}(h:e=0->S x c'):Wy p f S (⟨p,c'⟩,x,e) (f x,c',e):=by
 by_cases q:e=0
 ·subst q;exact .inr ⟨x,c',rfl,rfl,h rfl⟩
 ·exact .inl ⟨q,rfl⟩
theorem nP{γ δ:Type}{p:A8}{f:A0->A0 × A0}{S:A0->A4->Prop}{R:γ->δ->Prop}{F:B6 × (A0 × Int)->Prop}{G:(A0 × A0) × A4 × Int->Prop}{E:B6 × (A0 × Int)->γ}{E':(A0 × A0) × A4 × Int->δ}{F':B6 × (A0 × Int)->γ->Prop}{G':(A0 × A0) × A4 × Int->δ->Prop}(h:H0 (Wy p f S) F G)(he:∀y z,y.2.2≠0->z.2.2=y.2.2->R (E y) (E' z))(k:∀x c',S x c'->H0 R (F' (⟨p,c'⟩,x,0)) (G' (f x,c',0))):H0 R (λr=>∃y,F y/\IF (y.2.2 !=0) (r=E y) (F' y r)) (λr=>∃z,G z/\IF (z.2.2 !=0) (r=E' z) (G' z r)):=by
 refine Ni h λy z hyz=>?_
 rcases hyz with⟨h1,h2⟩|⟨x,c',rfl,rfl,h3⟩
 ·exact N3 _ (λ_=>M3 _ (λ_=>I1 (he y z h1 h2)) λh=>by rw[h2,Ki h1]at h;cases h) λh=>by rw[Ki h1]at h;cases h
 ·exact N3 _ (λh=>by cases h) λ_=>M3 _ (λh=>by cases h) λ_=>k x c' h3
theorem s7{α β γ:Type}{R:α->β->Prop}{F:α->Prop}{p q:β->Prop}(l:b5l γ)(h1:l=[]->H0 R F p)(h2:l≠[]->H0 R F q):H0 R F (λr=>(l=[]->p r)/\(l≠[]->q r)):=by
 by_cases h:l=[]
 ·exact CN (λr hr=>⟨λ_=>hr,λh'=>absurd h h'⟩) (h1 h)
 ·exact CN (λr hr=>⟨λh'=>absurd h' h,λ_=>hr⟩) (h2 h)
theorem t7(l:b5l (A0 × A0))(h:∀x∈l,F1 x.1):∀x∈l,Cn (SizeOf.sizeOf l) x:=λx hx=>by
 have:=List.sizeOf_lt_of_mem hx;refine⟨h x hx,?_⟩;cases x;simp at this ⊢;omega
theorem qx{k:Nat}{M:O3}{g:B7}{v:A0}(h:Mv k M g v){o:A7}(ho:I5 g o.Num=(o,true))(hc:o.C8=5):(H2 v o.Num).1.Pairs.length<=k/\∀y∈(H2 v o.Num).1.Pairs,Lf y.1/\Ev M o y.2:=by
 rcases Bool.eq_false_or_eq_true (H2 v o.Num).2 with hg|hg
 ·have hm:=h.fv _ (Lx hg);simp only[ho]at hm;unfold Fv at hm;rw[if_neg (by omega),if_pos hc]at hm;obtain⟨_,_,_,_,_,_,h7,h8⟩:=hm;exact⟨h7,h8⟩
 ·have e:(H2 v o.Num).1=El:=Va hg;rw[e];exact⟨Nat.zero_le _,λy hy=>by cases hy⟩
section
variable {p:A8}(hp:BD p) {d:Nat}(hM:Ql p d)
 include hp
theorem b0g{c:A4}(hc:F8 c)(o:A7)(hk:o.Key≠10)(w:Int)(x:A0 × A0):H0 (Wy p (λk=>(k,x.2)) λk c'=>Fw 1 c c'/\Lf k) (QL ⟨p,c⟩ ⟨0,⟨#[]⟩,⟨#[]⟩,0,0,o.Key, -1,0⟩ w) (VA p o x 1 w c):=by
 refine V9 (λr=>jH _ _ _ r) (λr=>jY _ _ _ _ _ _ r) ?_;refine AX (XN _ _ rfl) (M3 _ (λ_=>?_) λh=>by cases h);refine CN (λr=>fX _ _ _ _ _ _ _ _ _ _ _ _ _ _ r) ?_;refine I8 (MR _) (NC _) (M7 rfl (λh=>I1 (.inl ⟨by simp,rfl⟩)) λh=>?_);refine N3 _ (λh=>absurd (by simpa using h) hk) λ_=>M3 _ (λh=>by cases h) λ_=>?_
 refine Fc (dC p w hc) (λy z h1 h2=>.inl ⟨h1,h2⟩) λf c2 ⟨k2,fb,fd⟩=>?_
 refine I8 (Xe p hp.e _ f fb fd) (Zj p hp.e _ f fb fd) (M3 _ (λ_=>I1 ?_) λh=>by cases h);exact lh (f:=λk=>(k,x.2)) λq=>⟨k2,dN p _ f fb fd q⟩
 include hM
theorem a9e{c:A4}(hc:F8 c)(hd:c.E5<=d)(o:A7)(hG:Fs p o)(w:Int)(x:A0 × A0):H0 (Wy p (λk=>(x.1,k)) λk c'=>Fw 1 c c'/\Ev (Rv p c'.At.toNat d) o k) (QL ⟨p,c⟩ o w) (VA p o x 2 w c):=by
 refine V9 (λr=>jH _ _ _ r) (λr=>jY _ _ _ _ _ _ r) ?_;refine AX (XN _ _ rfl) (M3 _ (λh=>by cases h) λ_=>?_);refine CN (λr=>fX _ _ _ _ _ _ _ _ _ _ _ _ _ _ r) ?_;refine I8 (MR _) (NC _) (M7 rfl (λh=>I1 (.inl ⟨by simp,rfl⟩)) λh=>?_)
 by_cases hk:o.Kind=10
 ·obtain⟨g,hg,t0⟩:=hG hk;refine N3 _ (λ_=>M3 _ (λ_=>?_) λh=>by rw[hk]at h;cases h) λh=>by rw[hk]at h;cases h
  have eb:(⟨o.Kind,0,⟨#[]⟩,[],[],[],[]⟩:A0)=Kh:=by rw[hk];rfl
  refine AX (mU _ _ rfl) ?_;rw[eb];refine Ni (Xz hp hM hc hd o ⟨t0,g,hg⟩ (YY _ ⟨t0,g,hg⟩ d) (by decide)) λy z hyz=>I1 ?_
  rcases hyz with⟨h1,h2⟩|⟨v,c',rfl,rfl,k2,rv⟩
  ·exact .inl ⟨h1,h2⟩
  ·refine .inr ⟨v,c',rfl,rfl,k2,?_⟩;unfold Ev;rw[if_pos hk];exact rv
 ·have bk:(o.Kind==10)=false:=by simpa using hk
  refine N3 _ (λh=>by rw[bk]at h;cases h) λ_=>M3 _ (λh=>by rw[bk]at h;cases h) λ_=>?_
  refine Fc (dC p w hc) (λy z h1 h2=>.inl ⟨h1,h2⟩) λf c2 ⟨k2,fb,fd⟩=>?_
  refine I8 (Xe p hp.e _ f fb fd) (Zj p hp.e _ f fb fd) (M3 _ (λh=>by cases h) λ_=>I1 ?_);refine lh (f:=λk=>(x.1,k)) λq=>⟨k2,?_⟩
  unfold Ev;rw[if_neg hk];exact dN p _ f fb fd q
variable {g:B7}(hg:g∈p.B3)
 include hg
theorem b35{o:A7}(ho:I5 g o.Num=(o,true))(h5:o.C8=5)(hkey:o.Key≠10){c0 c1:A4}(k1:Fw 1 c0 c1)(hc0:F8 c0){v:A0}(hv:Mv c0.At.toNat (Rv p c0.At.toNat d) g v)(y3:B6 × A4)(e3:y3.2=c1)(n0 e0:Int):∀(n:Nat) (c:A4) (kx vx:A0) (kb vb:b5n),(c.End - c.At).toNat<=n->F8 c->c.E5<=d->c1.At<=c.At->c.End<=c1.End->c.Nodes<=c1.Nodes->Lf kx->Ev (Rv p c.At.toNat d) o vx->
  H0 (Rl p (CF p d g 1 c0)) (Nr vb kb p.B3 p.D8 c.Data c.At c.End c.E5 c.Nodes c.Text g v o (H2 v o.Num) y3 kx.Kind kx.Bits kx.Text kx.B8 kx.Pairs kx.Slots kx.C4 vx.Kind vx.Bits vx.Text vx.B8 vx.Pairs vx.Slots vx.C4)
   (Vy p g v o c0 (n0,c1,e0) (H2 v o.Num) c.Data c.At c.End c.E5 c.Nodes c.Text kx.Kind kx.Bits kx.Text kx.B8 kx.Pairs kx.Slots kx.C4 vx.Kind vx.Bits vx.Text vx.B8 vx.Pairs vx.Slots vx.C4 [false,kb,vb]):=by
 have ops:=hp.ops hg;obtain⟨om,hu⟩:=Pn hp hg ho;obtain⟨b1,b2⟩:=LA hp hg hc0 hv;obtain⟨g1,g2⟩:=qx hv ho h5;have hG:Fs p o:=by have:=Nj hp hg o.Num;rwa [ho]at this
 have fin:∀(c:A4) (kx vx:A0),F8 c->c1.At<=c.At->c.End<=c1.End->c.Nodes<=c1.Nodes->Lf kx->Ev (Rv p c.At.toNat d) o vx->
   H0 (Rl p (CF p d g 1 c0)) (λr=>∃y28,Nn (⟨p,c⟩:B6) y3.2 y28/\((0<=(0:Int)/\(0:Int)<=((H2 v o.Num).1.Pairs.length:Int)/\((H2 v o.Num).1.Pairs.length:Int)<=((H2 v o.Num).1.Pairs.length:Int))/\(((((H2 v o.Num).1.Pairs.take ((H2 v o.Num).1.Pairs.length:Int).toNat).drop (0:Int).toNat).length+[(kx,vx)].length)*256<=140737488355328/\[(kx,vx)]≠[]/\(∃y29,Lj ((((H2 v o.Num).1.Pairs.take ((H2 v o.Num).1.Pairs.length:Int).toNat).drop (0:Int).toNat)++[(kx,vx)]) y29/\(∃y30,EY g v o (⟨12,0,⟨#[]⟩,[],y29,[],[]⟩:A0) y30/\(r=(y28,y30,0)))))))
    (λr=>((H2 v o.Num).1.Pairs=[]->([]:b5l (A0 × A0)).length*256<=140737488355328/\((([]:b5l (A0 × A0)).length+[(kx,vx)].length)*256<=140737488355328/\[(kx,vx)]≠[]/\(∃y40,GR (([]:b5l (A0 × A0))++[(kx,vx)]) y40/\(∃y41,DZ g v o (⟨12,0,⟨#[]⟩,[],y40,[],[]⟩:A0) y41/\(∃y42,Iz c1 c y42/\(r=(y41,y42,0)))))))/\((H2 v o.Num).1.Pairs≠[]->(([]:b5l (A0 × A0)).length+(H2 v o.Num).1.Pairs.length)*256<=140737488355328/\(H2 v o.Num).1.Pairs≠[]/\(((([]:b5l (A0 × A0))++(H2 v o.Num).1.Pairs).length+[(kx,vx)].length)*256<=140737488355328/\(∃y43,GR ((([]:b5l (A0 × A0))++(H2 v o.Num).1.Pairs)++[(kx,vx)]) y43/\(∃y44,DZ g v o (⟨12,0,⟨#[]⟩,[],y43,[],[]⟩:A0) y44/\(∃y45,Iz c1 c y45/\(r=(y44,y45,0)))))))):=by
  intro c kx vx hc h1 h2 h3 lk ev;have a0:=hc0.a0;have a1:=hc.a1;have a2:=k1.at_;have a3:=hc0.a1;have a4:=hc0.a2;have a5:=hc0.sz
  have hL:∀x∈(H2 v o.Num).1.Pairs++[(kx,vx)],Lf x.1/\(Ev (Rv p c0.At.toNat d) o x.2\/Ev (Rv p c.At.toNat d) o x.2):=λx hx=>by
   rcases List.mem_append.1 hx with hx|hx
   ·exact⟨(g2 x hx).1,.inl (g2 x hx).2⟩
   ·rw[List.mem_singleton]at hx;subst hx;exact⟨lk,.inr ev⟩
  have ok:=t7 _ λx hx=>(hL x hx).1.1
  have len:((H2 v o.Num).1.Pairs++[(kx,vx)]).length*256<=140737488355328:=by rw[b5i,List.length_singleton];omega
  have P1:=gV _ _ len ok;have P2:=mq _ _ len ok;have hle:c0.At.toNat+1<=(Cl c1 c).At.toNat:=by show _<=c.End.toNat;omega
  have mon:∀t v,Rv p c0.At.toNat d t v->Rv p (Cl c1 c).At.toNat d t v:=λt v h=>Rv.mono (by omega) h
  have hle2:c.At.toNat<=(Cl c1 c).At.toNat:=Ss a1
  have hF:Fv (Cl c1 c).At.toNat (Rv p (Cl c1 c).At.toNat d) o ⟨12,0,⟨#[]⟩,[],K1 (kc (SizeOf.sizeOf ((H2 v o.Num).1.Pairs++[(kx,vx)]))) ((H2 v o.Num).1.Pairs++[(kx,vx)]),[],[]⟩:=by
   unfold Fv;rw[if_neg (by omega),if_pos h5];refine⟨rfl,rfl,rfl,rfl,rfl,rfl,?_,λy hy=>?_⟩
   ·refine Nat.le_trans (Ja _) ?_;rw[b5i,List.length_singleton];omega
   ·obtain⟨q1,q2⟩:=hL y (FM _ y hy);exact⟨q1,q2.elim (λq=>q.mono mon) λq=>q.mono λt v h=>Rv.mono hle2 h⟩
  have M:=IV hle mon hv ho hF;have F:=TD k1 hc (by omega) h2 h3;rw[e3,PC];refine Cs (YU p c1 c) (cr ⟨by omega,by omega,by omega⟩ (cr (by simpa using len) (cr (by simp) (Cs P1 (Cs (KP ops v (by omega) o _ hv.kn) ?_)))));refine s7 _ (λq=>?_) λq=>?_
  ·have q':([]:b5l (A0 × A0))++[(kx,vx)]=(H2 v o.Num).1.Pairs++[(kx,vx)]:=by rw[q]
   refine Ct (by simp) (Ct (by simp) (Ct (by simp) ?_));rw[q'];exact AX P2 (AX (Iq ops v (by omega) o _ hu) (AX (Te c1 c) (I1 (.inr ⟨_,_,rfl,rfl,F,M⟩))))
  ·refine Ct (by simp;omega) (Ct q (Ct (by simp;omega) ?_));rw[List.nil_append];exact AX P2 (AX (Iq ops v (by omega) o _ hu) (AX (Te c1 c) (I1 (.inr ⟨_,_,rfl,rfl,F,M⟩))))
 intro n
 induction n with
 |zero=>
  intro c kx vx kb vb hn hc hd h1 h2 h3 lk ev;refine V9 (λr=>qX _ _ _ _ _ _ _ _ _ _ _ _ _ _ _ _ _ _ _ _ _ _ _ _ _ _ _ _ _ r) (λr=>gL _ _ _ _ _ _ _ _ _ _ _ _ _ _ _ _ _ _ _ _ _ _ _ _ _ _ _ _ r) ?_;refine I8 (Dd c hc.okc) (Dx c) ?_;have hd:decide (0<H7 c.Data c.At c.End)=false:=by rw[cf hc];exact decide_eq_false (by omega)
  refine N3 _ (λh=>by rw[hd]at h;cases h) λ_=>M3 _ (λh=>by rw[hd]at h;cases h) λ_=>?_
  simp only[Dp];exact fin c kx vx hc h1 h2 h3 lk ev
 |succ n ih=>
  intro c kx vx kb vb hn hc hd h1 h2 h3 lk ev;refine V9 (λr=>qX _ _ _ _ _ _ _ _ _ _ _ _ _ _ _ _ _ _ _ _ _ _ _ _ _ _ _ _ _ r) (λr=>gL _ _ _ _ _ _ _ _ _ _ _ _ _ _ _ _ _ _ _ _ _ _ _ _ _ _ _ _ r) ?_;refine I8 (Dd c hc.okc) (Dx c) (M7 rfl (λhl=>?_) λ_=>?_)
  rotate_left
  ·simp only[Dp];exact fin c kx vx hc h1 h2 h3 lk ev
  refine I8 (bC hc) (MN hc) (M7 rfl (λh=>I1 (.inl ⟨by simpa using h,rfl⟩)) λh=>?_);obtain⟨k2,t1,t2⟩:=Oe hc (by simpa using h);have a:=k2.at_;have b:=k2.en;have e:=k2.nd;have dd:=k2.dp;refine M7 rfl (λh=>I1 (.inl ⟨by simp,rfl⟩)) λh=>?_
  have hnum:(G3 c).1=1\/(G3 c).1=2:=by
   simp only[Bool.and_eq_false_iff,bne_eq_false_iff_eq]at h;exact h
  simp only[Dp,Lk];refine Ct ⟨by omega,by omega⟩ ?_;rcases hnum with hnum|hnum
  ·rw[hnum];refine AX (v:=kb) rfl (M7 (by cases kb<;>cases vb<;>rfl) (λh=>I1 (.inl ⟨by simp,rfl⟩)) λhf=>?_);refine N3 _ (λ_=>?_) λh=>by cases h
   refine Ct (by decide) (Ct (by simp) ?_);refine nP (b0g hp k2.snd o hkey _ _) (λy z h1 h2=>.inl ⟨h1,h2⟩) λx c2 ⟨k3,lx⟩=>?_
   have a':=k3.at_;have b':=k3.en;have e':=k3.nd;have d':=k3.dp;exact ih c2 x vx true vb (by omega) k3.snd (by omega) (by omega) (by omega) (by omega) lx (ev.mono λt v h=>Rv.mono (by omega) h)
  ·rw[hnum];refine AX (v:=vb) rfl (M7 (by cases kb<;>cases vb<;>rfl) (λh=>I1 (.inl ⟨by simp,rfl⟩)) λhf=>?_);refine N3 _ (λh=>by cases h) λ_=>?_
   refine Ct (by decide) (Ct (by simp) ?_);refine nP (a9e hp hM k2.snd (by omega) o hG _ _) (λy z h1 h2=>.inl ⟨h1,h2⟩) λx c2 ⟨k3,lx⟩=>?_
   have a':=k3.at_;have b':=k3.en;have e':=k3.nd;have d':=k3.dp;exact ih c2 kx x kb true (by omega) k3.snd (by omega) (by omega) (by omega) (by omega) lk lx
theorem a28{c:A4}(hc:F8 c)(hd:c.E5<=d){v:A0}(hv:Mv c.At.toNat (Rv p c.At.toNat d) g v){o:A7}(ho:I5 g o.Num=(o,true))(h5:o.C8=5):
  H0 (Rl p (CF p d g 1 c)) (aL ⟨p,c⟩ g v o) (Wn p g v o c):=by
 obtain⟨om,hu⟩:=Pn hp hg ho;obtain⟨b1,b2⟩:=LA hp hg hc hv;have oF:=(hp.va.XA g hg).2 _ om;have ik:1<=o.Key/\o.Key<=7:=by have:=oF.key.2 h5;omega
 have ikd:=oF.kind;have hG:Fs p o:=by have:=Nj hp hg o.Num;rwa [ho]at this
 refine V9 (λr=>zn _ _ _ _ r) (λr=>b1a _ _ _ _ _ r) ?_;refine I8 (TV p hc) (WE hc) (M7 rfl (λh=>I1 (.inl ⟨by simpa using h,rfl⟩)) λh=>?_);obtain⟨k1,n0,n1⟩:=VR hc (by simpa using h);have sp:=jL k1.snd ⟨n0,n1⟩;refine I8 (HE v (by omega) o.Num) (LV v (by omega) o.Num) (Cs (pm p k1.snd ⟨n0,n1⟩) ?_)
 have go:∀cost:Int,0<=cost/\cost<=10->H0 (Rl p (CF p d g 1 c)) (Sr cost (⟨p,Bk (F2 c).1 (F2 c).2.1⟩,(F2 c).2.1) g v o (H2 v o.Num)) (WT cost (F2 c) p g v o c (H2 v o.Num)):=by
  intro cost hcost;refine V9 (λr=>b2q _ _ _ _ _ _ r) (λr=>j3 _ _ _ _ _ _ _ _ r) ?_;refine AX (ox k1.snd ⟨n0,n1⟩) (I8 (Lh p cost sp hcost) (JI cost sp hcost) (M7 rfl (λh=>I1 (.inl ⟨by simpa using h,rfl⟩)) λh=>?_));have k3:=FR cost sp hcost.1 (by simpa using h);have a:=k3.at_;have b:=k3.en;have e:=k3.nd;have dd:=k3.dp;have dd1:=k1.dp;have p1:(Bk (F2 c).1 (F2 c).2.1).At=(F2 c).2.1.At:=rfl;have p2:(Bk (F2 c).1 (F2 c).2.1).End=(F2 c).2.1.At+(F2 c).1:=rfl;have p3:(Bk (F2 c).1 (F2 c).2.1).Nodes=(F2 c).2.1.Nodes:=rfl;have p4:(Bk (F2 c).1 (F2 c).2.1).E5=(F2 c).2.1.E5:=rfl;refine AX (mU _ _ rfl) (Ct ⟨by decide,by decide,by decide⟩ ?_);have lk:Lf ⟨o.Key,0,⟨#[]⟩,[],[],[],[]⟩:=Hu _ _ _ ⟨by omega,by omega⟩ ⟨Int.le_refl _,by decide⟩ (Nat.zero_le _)
  have ev:Ev (Rv p (O9 cost (Bk (F2 c).1 (F2 c).2.1)).1.At.toNat d) o ⟨o.Kind,0,⟨#[]⟩,[],[],[],[]⟩:=by
   unfold Ev;split
   ·rename_i hk;obtain⟨g',hg',t0⟩:=hG hk;have:=YY (p:=p) (O9 cost (Bk (F2 c).1 (F2 c).2.1)).1.At.toNat ⟨t0,g',hg'⟩ d;rw[hk];exact this
   ·exact Hu _ _ _ ⟨by omega,by omega⟩ ⟨Int.le_refl _,by decide⟩ (Nat.zero_le _)
  dsimp only;exact b35 hp hM hg ho h5 (by omega) k1 hc hv _ rfl _ _ _ _ ⟨o.Key,0,⟨#[]⟩,[],[],[],[]⟩ ⟨o.Kind,0,⟨#[]⟩,[],[],[],[]⟩ false false (Nat.le_refl _) k3.snd (by omega) (by omega) (by omega) (by omega) lk ev
 rcases Bool.eq_false_or_eq_true (H2 v o.Num).2 with hq|hq
 ·exact N3 _ (λh=>by rw[hq]at h;cases h) λ_=>M3 _ (λ_=>go 2 (by decide)) λh=>by rw[hq]at h;cases h
 ·exact N3 _ (λ_=>M3 _ (λh=>by rw[hq]at h;cases h) λ_=>go 3 (by decide)) λh=>by rw[hq]at h;cases h
end
theorem TZ{α:Type}{p:A8}{S:α->A4->Prop}{F:B6 × (α × Int)->Prop}{G:α × A4 × Int->Prop}(h:H0 (Rl p S) F G):H0 (Rl p S) (λr=>∃y,F y/\(r=(y.1,y.2.1,y.2.2))) (λr=>∃z,G z/\(r=(z.1,z.2.1,z.2.2))):=Ni h λy z hyz=>I1 hyz
theorem pj{J:Int->Prop}{B:A7->Prop}{E:Prop}(num:Int)(s:b5l A7)(hs:s.length<=140737488351232)(step:∀i:Int,ID (i<(s.length:Int)) (IX s i λy=>IF (y.Num !=num) (J (wI (i+1))) (B y)) E->J i)(h1:(J9 num s).2->B (J9 num s).1)(h2:(J9 num s).2=false->E):J 0:=by
 have key:∀(d i:Nat),s.length - i<=d->i<=s.length->((J9 num (s.drop i)).2=true->B (J9 num (s.drop i)).1)->((J9 num (s.drop i)).2=false->E)->J i:=by
  intro d
  induction d with
  |zero=>
   intro i hd hi _ k2;exact step _ ⟨λh=>by simp at h;omega,λ_=>k2 (by rw[b5d (by omega)];rfl)⟩
  |succ d ih=>
   intro i hd hi k1 k2;rcases Nat.lt_or_ge i s.length with hlt|hge
   ·have e1:wI ((i:Int)+1)=((i+1:Nat):Int):=by rw[wI,C7 (by omega)];omega
    have dl:s.drop i=s[i]::s.drop (i+1):=b5c hlt;refine step _ ⟨λ_=>⟨s[i],by simp,by omega,λh=>?_,λh=>?_⟩,λh=>by simp at h;omega⟩
    ·have hn:¬(s[i].Num==num):=by simpa[bne]using h
     have q:J9 num (s.drop i)=J9 num (s.drop (i+1)):=by rw[dl];simp only[J9];rw[if_neg hn]
     rw[q]at k1 k2;rw[e1];exact ih (i+1) (by omega) (by omega) k1 k2
    ·have hn:(s[i].Num==num):=by simpa[bne]using h
     have q:J9 num (s.drop i)=(s[i],true):=by rw[dl];simp only[J9];rw[if_pos hn]
     rw[q]at k1;exact k1 rfl
   ·exact step _ ⟨λh=>by simp at h;omega,λ_=>k2 (by rw[b5d hge];rfl)⟩
 exact key s.length 0 (by omega) (by omega) (by simpa using h1) (by simpa using h2)
section
variable {p:A8}(hp:BD p) {d:Nat}(hM:Ql p d) {g:B7}(hg:g∈p.B3)
 include hp hM hg
theorem zE{c:A4}(hc:F8 c)(hd:c.E5<=d){v:A0}(hv:Mv c.At.toNat (Rv p c.At.toNat d) g v){o:A7}(ho:I5 g o.Num=(o,true))(w:Int)(c0:A4):
  H0 (Rl p (CF p d g 1 c)) (VG ⟨p,c⟩ g v o w) (λr=>IF ((o.C8==5)&&(w==6)) (∃y5,Wn p g v o c y5/\(r=(y5.1,y5.2.1,y5.2.2))) (∃y6,PL o y6/\(IF (y6&&(w==5)) (∃y7,Qb p g v o c y7/\(r=(y7.1,y7.2.1,y7.2.2))) (JN (λbz1:b5n=>IF bz1 (r=(v,c0,13)) (IF (o.Kind==10) (∃y9,ON p g v o c y9/\(r=(y9.1,y9.2.1,y9.2.2))) (∃y10,Ls p g v o c y10/\(r=(y10.1,y10.2.1,y10.2.2))))) λR1=>IF (o.C8==5) (R1 true) (∃y8,FC o y8/\(R1 (w !=y8))))))):=by
 refine Gb (λr=>a5x _ _ _ _ _ r) ?_
 by_cases h5:o.C8=5
 ·have b5:(o.C8==5):=by simpa using h5
  have np:CL o=false:=by rw[CL,h5];rfl
  refine N3 _ (λ_=>?_) λh=>by rw[b5]at h;cases h
  by_cases hw:w=6
  ·have b6:(w==6):=by simpa using hw
   refine N3 _ (λh=>by rw[bne,b6]at h;cases h) λ_=>M3 _ (λ_=>?_) λh=>by rw[b5,b6]at h;cases h
   exact TZ (a28 hp hM hg hc hd hv ho h5)
  ·have b6:(w==6)=false:=by simpa using hw
   refine N3 _ (λ_=>?_) λh=>by rw[bne,b6]at h;cases h
   refine M3 _ (λh=>by rw[b6,Bool.and_false]at h;cases h) λ_=>AX (Yf o) (M3 _ (λh=>by rw[np]at h;cases h) λ_=>kN ?_)
   exact M3 _ (λ_=>M3 _ (λ_=>I1 (.inl ⟨by simp,rfl⟩)) λh=>by cases h) λh=>by rw[b5]at h;cases h
 have b5:(o.C8==5)=false:=by simpa using h5
 refine N3 _ (λh=>by rw[b5]at h;cases h) λ_=>M3 _ (λh=>by rw[b5]at h;cases h) λ_=>tm ?_
 refine AX (Yf o) ?_
 have rest:¬(CL o&&(w==5))->H0 (Rl p (CF p d g 1 c)) (λr=>∃y4,Gr o y4/\(IF (w !=y4) (r=((⟨p,c⟩:B6),v,13)) (IF (o.Kind==10) (∃y5,Vw ⟨p,c⟩ g v o y5/\(r=(y5.1,y5.2.1,y5.2.2))) (∃y6,Nd ⟨p,c⟩ g v o y6/\(r=(y6.1,y6.2.1,y6.2.2))))))
   (λr=>IF (CL o&&(w==5)) (∃y7,Qb p g v o c y7/\(r=(y7.1,y7.2.1,y7.2.2))) (JN (λbz1:b5n=>IF bz1 (r=(v,c0,13)) (IF (o.Kind==10) (∃y9,ON p g v o c y9/\(r=(y9.1,y9.2.1,y9.2.2))) (∃y10,Ls p g v o c y10/\(r=(y10.1,y10.2.1,y10.2.2))))) λR1=>IF (o.C8==5) (R1 true) (∃y8,FC o y8/\(R1 (w !=y8))))):=by
  intro hn;refine M3 _ (λh=>absurd h hn) λ_=>kN (M3 _ (λh=>by rw[b5]at h;cases h) λ_=>?_)
  refine I8 (MR o) (NC o) (M7 rfl (λh=>I1 (.inl ⟨by simp,rfl⟩)) λh=>M7 rfl (λhk=>?_) λhk=>?_)
  ·exact TZ (a42 hp hM hg hc hd hv ho (by simpa using hk) h5)
  ·exact TZ (pR hp hg hc hv ho (by simpa using hk) h5)
 by_cases hw:w=5
 ·have b6:(w==5):=by simpa using hw
  refine N3 _ (λ_=>Cs (jh o) ?_) λh=>by rw[b6]at h;cases h
  by_cases hq:CL o=true
  ·have q:=hq;unfold CL at q;simp only[b47,Bool.or_eq_true,beq_iff_eq,b45]at q;refine N3 _ (λ_=>M3 _ (λ_=>?_) λh=>by rw[hq,b6]at h;cases h) λh=>by rw[hq]at h;cases h
   exact TZ (wF hp hg hc hv ho (by omega) q.1)
  ·have hq':CL o=false:=by simpa using hq
   exact N3 _ (λh=>absurd h hq) λ_=>rest (by rw[hq'];simp)
 ·have b6:(w==5)=false:=by simpa using hw
  refine N3 _ (λh=>by rw[b6]at h;cases h) λ_=>N3 _ (λh=>by cases h) λ_=>rest (by rw[b6,Bool.and_false];simp)
theorem b34{t:Int}(hgt:p.B3[t.toNat]? =some g)(ht:0<=t)(c00:A4):∀(n:Nat) (c:A4) (v:A0),(c.End - c.At).toNat<=n->Fw 0 c00 c->c.E5<=d->Mv c.At.toNat (Rv p c.At.toNat d) g v->
  H0 (Rl p (CF p d g 0 c00)) (Pq p.B3 p.D8 c.Data c.At c.End c.E5 c.Nodes c.Text v.Kind v.Bits v.Text v.B8 v.Pairs v.Slots v.C4 g) (Tt t p v.Kind v.Bits v.Text v.B8 v.Pairs v.Slots v.C4 c.Data c.At c.End c.E5 c.Nodes c.Text):=by
 have ops:=hp.ops hg;intro n
 induction n with
 |zero=>
  intro c v hn k0 hd hv;have hc:=k0.snd;refine V9 (λr=>ny _ _ _ _ _ _ _ _ _ _ _ _ _ _ _ _ r) (λr=>pB _ _ _ _ _ _ _ _ _ _ _ _ _ _ _ r) ?_;refine I8 (Dd c hc.okc) (Dx c) ?_;have hd:decide (0<H7 c.Data c.At c.End)=false:=by rw[cf hc];exact decide_eq_false (by omega)
  refine N3 _ (λh=>by rw[hd]at h;cases h) λ_=>M3 _ (λh=>by rw[hd]at h;cases h) λ_=>?_
  simp only[Dp,Lk];exact I1 (.inr ⟨v,c,rfl,rfl,k0,hv⟩)
 |succ n ih=>
  intro c v hn k0 hd hv;have hc:=k0.snd;have a0:=hc.a0;obtain⟨b1,b2⟩:=LA hp hg hc hv;refine V9 (λr=>ny _ _ _ _ _ _ _ _ _ _ _ _ _ _ _ _ r) (λr=>pB _ _ _ _ _ _ _ _ _ _ _ _ _ _ _ r) ?_;refine I8 (Dd c hc.okc) (Dx c) (M7 rfl (λhl=>?_) λ_=>?_)
  rotate_left
  ·simp only[Dp,Lk];exact I1 (.inr ⟨v,c,rfl,rfl,k0,hv⟩)
  simp only[Dp,Lk];refine CN (λr hr=>⟨g,hgt,ht,hr⟩) ?_;refine Cs (bC hc) ?_
  by_cases he:(G3 c).2.2.2≠0
  ·have hF:LN p g v c (v,c,(G3 c).2.2.2):=RV _ _ _ _ _ ⟨_,MN hc,U0 (Ki he) rfl⟩;exact N3 _ (λ_=>AX hF (M3 _ (λ_=>I1 (.inl ⟨he,rfl⟩)) λh=>absurd (by simpa using h) he)) λh=>absurd (by simpa using h) he
  have he0:(G3 c).2.2.2=0:=Classical.not_not.1 he;have bF:((G3 c).2.2.2 !=0)=false:=by rw[he0];rfl
  obtain⟨k2,t1,t2⟩:=Oe hc he0;have ka:=k2.at_;have kb:=k2.en;have kd:=k2.dp;have ke:=k2.nd;refine N3 _ (λh=>by rw[bF]at h;cases h) λ_=>?_
  rcases Bool.eq_false_or_eq_true (I5 g (G3 c).1).2 with hq|hq
  ·obtain⟨hnum,hop⟩:=OW hq;have ho:I5 g (I5 g (G3 c).1).1.Num=((I5 g (G3 c).1).1,true):=by rw[hnum];exact Prod.ext rfl hq
   refine Gb (λr hr=>pj (J:=λi=>Ol i g (G3 c) p.B3 p.D8 c.Data c.At c.End c.E5 c.Nodes c.Text v.Kind v.Bits v.Text v.B8 v.Pairs v.Slots v.C4 r) (G3 c).1 g.Ops ops (λi hw=>iV _ _ _ _ _ _ _ _ _ _ _ _ _ _ _ _ _ _ _ hw) (λ_=>hr) (λh=>by rw[show(J9 (G3 c).1 g.Ops).2=true from hq]at h;cases h)) ?_;simp only[Dp,Lk];have hle:c.At.toNat<=(G3 c).2.2.1.At.toNat:=by omega
   have hv2:Mv (G3 c).2.2.1.At.toNat (Rv p (G3 c).2.2.1.At.toNat d) g v:=hv.mono hle λt v h=>Rv.mono hle h
   have hB:=zE hp hM hg k2.snd (by omega) hv2 ho (G3 c).2.1 c
   have hB2:H0 (Rl p (CF p d g 1 (G3 c).2.2.1)) (VG ⟨p,(G3 c).2.2.1⟩ g v (I5 g (G3 c).1).1 (G3 c).2.1) (LN p g v c):=
    CN (λr hr=>RV _ _ _ _ _ ⟨_,MN hc,J6 bF ⟨_,SH g ops _,J6 (by rw[hq];rfl) hr⟩⟩) hB
   refine Fc hB2 (λy z h1 h2=>.inl ⟨h1,h2⟩) λx c2 ⟨k3,m3⟩=>?_
   have a':=k3.at_;have b':=k3.en;have d':=k3.dp;exact ih c2 x (by omega) ((k0.trans (k2.trans k3)).less (by decide)) (by omega) m3
  ·refine Gb (λr hr=>pj (J:=λi=>Ol i g (G3 c) p.B3 p.D8 c.Data c.At c.End c.E5 c.Nodes c.Text v.Kind v.Bits v.Text v.B8 v.Pairs v.Slots v.C4 r) (G3 c).1 g.Ops ops (λi hw=>iV _ _ _ _ _ _ _ _ _ _ _ _ _ _ _ _ _ _ _ hw) (λh=>by rw[show(J9 (G3 c).1 g.Ops).2=false from hq]at h;cases h) (λ_=>hr)) ?_;simp only[Dp,Lk];refine Cs (pnx hc) ?_
   by_cases hx:(AI c).2.2≠0
   ·have hF:LN p g v c (v,c,(AI c).2.2):=RV _ _ _ _ _ ⟨_,MN hc,J6 bF ⟨_,SH g ops _,U0 (by rw[hq];rfl) ⟨_,qo hc,U0 (Ki hx) rfl⟩⟩⟩;exact N3 _ (λ_=>AX hF (M3 _ (λ_=>I1 (.inl ⟨hx,rfl⟩)) λh=>absurd (by simpa using h) hx)) λh=>absurd (by simpa using h) hx
   have hx0:(AI c).2.2=0:=Classical.not_not.1 hx;have bx:((AI c).2.2 !=0)=false:=by rw[hx0];rfl
   obtain⟨k3,rk⟩:=xS hc hx0;have a':=k3.at_;have b':=k3.en;have d':=k3.dp;have hF:LN p g v c (LG v (AI c).1,(AI c).2.1,0):=RV _ _ _ _ _ ⟨_,MN hc,J6 bF ⟨_,SH g ops _,U0 (by rw[hq];rfl) ⟨_,qo hc,J6 bx ⟨_,iA v _ (by omega),rfl⟩⟩⟩⟩;refine N3 _ (λh=>by rw[bx]at h;cases h) λ_=>Cs (lm v _ (by omega)) (AX hF (M3 _ (λh=>by cases h) λ_=>?_))
   exact ih (AI c).2.1 (LG v (AI c).1) (by omega) ((k0.trans k3).less (by decide)) (by omega) (fp (by omega) (λt v h=>Rv.mono (by omega) h) hv rk)
end
theorem iJ{p:A8}(hp:BD p):∀d:Nat,Ql p d
 |0=>λc t g v _ _ hc hd=>by have:=hc.d0;have:((0:Nat):Int)=0:=rfl;omega
 |d+1=>λc t g v hgt ht hc hd hv=>by
  have hg:g∈p.B3:=b5g hgt
  have hd1:c.E5<=(d:Int):=by have:((d+1:Nat):Int)=(d:Int)+1:=(by omega);omega
  refine V9 (λr hr=>xo _ _ _ _ ⟨g,hgt,ht,hr⟩) (λr=>a9d _ _ _ _ r) ?_;exact b34 hp (iJ hp d) hg hgt ht c _ c v (Nat.le_refl _) (Fw.refl hc) hd1 hv
theorem ba{M:O3}(hM:∀t v,M t v->F1 v){o:A7}{x:A0}(h:Ev M o x):F1 x:=by
 unfold Ev at h;split at h
 ·exact hM _ _ h
 ·exact h.1
theorem tQ{k:Nat}(hk:k<=65536){M:O3}(hM:∀t v,M t v->F1 v){o:A7}{x:A0}(h:Fv k M o x):F1 x:=by
 have z:Sz 0:=Nat.zero_le _;unfold Fv at h;split at h
 ·obtain⟨h1,h2,h3,h4,h5,h6,h7,h8⟩:=h;refine .mk _ (by rw[h1];exact⟨by decide,by decide⟩) (by rw[h2];exact⟨by decide,by decide⟩) (by rw[h3];exact z) (show _<=_ by omega) (by rw[h4];exact z) (by rw[h5];exact z) (by rw[h6];exact z) (λy hy=>ba hM (h8 y hy)) (λy hy=>?_) (λy hy=>?_) (λy hy=>?_) (λy hy=>?_) (λy hy=>?_) ⟨show _<=_ by omega,by rw[h4];exact z,by rw[h5];exact z,by rw[h6];exact z⟩
  ·rw[h4]at hy;cases hy
  ·rw[h4]at hy;cases hy
  ·rw[h5]at hy;cases hy
  ·rw[h5]at hy;cases hy
  ·rw[h6]at hy;cases hy
 split at h
 ·obtain⟨h1,h2,h3,h4,h5,h6,h7,h8⟩:=h;refine .mk _ (by rw[h1];exact⟨by decide,by decide⟩) (by rw[h2];exact⟨by decide,by decide⟩) (by rw[h3];exact z) (by rw[h4];exact z) (show _<=_ by omega) (by rw[h5];exact z) (by rw[h6];exact z) (λy hy=>?_) (λy hy=>(h8 y hy).1.1) (λy hy=>ba hM (h8 y hy).2) (λy hy=>?_) (λy hy=>?_) (λy hy=>?_) ⟨by rw[h4];exact z,show _<=_ by omega,by rw[h5];exact z,by rw[h6];exact z⟩
  ·rw[h4]at hy;cases hy
  ·rw[h5]at hy;cases hy
  ·rw[h5]at hy;cases hy
  ·rw[h6]at hy;cases hy
 ·exact ba hM h
theorem HZ{k:Nat}{M:O3}{o:A7}{x:A0}(h:Fv k M o x)(h4:o.C8≠4)(h5:o.C8≠5):Ev M o x:=by
 unfold Fv at h
 rwa [if_neg h4,if_neg h5]at h
theorem JS{k:Nat}{M:O3}{o:A7}{x:A0}(h:Fv k M o x)(h4:o.C8=4):x.Kind=11/\x.Bits=0/\x.Text=⟨#[]⟩/\x.Pairs=[]/\x.Slots=[]/\x.C4=[]/\x.B8.length<=k/\∀y∈x.B8,Ev M o y:=by
 unfold Fv at h
 rwa [if_pos h4]at h
theorem Kb{k:Nat}{M:O3}{o:A7}{x:A0}(h:Fv k M o x)(h5:o.C8=5):x.Kind=12/\x.Bits=0/\x.Text=⟨#[]⟩/\x.B8=[]/\x.Slots=[]/\x.C4=[]/\x.Pairs.length<=k/\∀y∈x.Pairs,Lf y.1/\Ev M o y.2:=by
 unfold Fv at h
 rwa [if_neg (by omega),if_pos h5]at h
theorem Ew{M:O3}{o:A7}{x:A0}(h:Ev M o x)(hk:o.Kind=10):M o.Target x:=by
 unfold Ev at h
 rwa [if_pos hk]at h
section
variable {p:A8}(hp:BD p)
 include hp
theorem uK{g:B7}(hg:g∈p.B3){k:Nat}(hk:k<=65536){M:O3}(hM:∀t v,M t v->F1 v){v:A0}(h:Mv k M g v):F1 v:=by
 have z:Sz 0:=Nat.zero_le _;have sl:=h.sl;have rl:=h.rl;refine .mk _ (by rw[h.kd];exact⟨by decide,by decide⟩) (by rw[h.bt];exact⟨by decide,by decide⟩) (by rw[h.tx];exact z) (by rw[h.ls];exact z) (by rw[h.ps];exact z) (show _<=_ by omega) (show _<=_ by omega) (λy hy=>?_) (λy hy=>?_) (λy hy=>?_) (λy hy=>?_) (λy hy=>tQ hk hM (h.fv y hy)) h.Qy ⟨by rw[h.ls];exact z,by rw[h.ps];exact z,show _<=_ by omega,show _<=_ by omega⟩
 ·rw[h.ls]at hy;cases hy
 ·rw[h.ps]at hy;cases hy
 ·rw[h.ps]at hy;cases hy
 ·obtain⟨h1,h2⟩:=OW (h.kn y hy);rw[<-h1];exact((hp.pl.CE g hg).ops _ h2).num
theorem Rk{k:Nat}(hk:k<=65536):∀(m:Nat) (t:Int) (v:A0),Rv p k m t v->F1 v
 |0,t,v,⟨_,e⟩=>by rw[e];exact(Hu 10 0 ⟨#[]⟩ ⟨by decide,by decide⟩ ⟨by decide,by decide⟩ (Nat.zero_le _)).1
 |m+1,t,v,⟨h0,g,hgt,h⟩=>uK hp (b5g hgt) hk (Rk hk m) h
theorem YK{M:O3}{N:Du}{o:A7}{x:A0}(h:Ev M o x)(hN:∀t,M t x->M t (N t x)):Ev M o (Av N o x):=by
 unfold Ev Av at*;split
 ·rename_i q;rw[if_pos q]at h;exact hN _ h
 ·rename_i q;rw[if_neg q]at h;obtain⟨h1,h2,h3,h4,h5⟩:=h;refine⟨VZ h1,?_⟩;unfold Z9;split
  ·exact⟨h2,h3,h4,h5⟩
  ·exact⟨h2,h3,h4,h5⟩
theorem a5d{x:A0}(h:Lf x):Lf (Z9 x):=by
 obtain⟨h1,h2,h3,h4,h5⟩:=h;refine⟨VZ h1,?_⟩;unfold Z9;split
 ·exact⟨h2,h3,h4,h5⟩
 ·exact⟨h2,h3,h4,h5⟩
theorem vF{k:Nat}{M:O3}{N:Du}{o:A7}{x:A0}(h:Fv k M o x)(hN:∀t y,SizeOf.sizeOf y<=SizeOf.sizeOf x->M t y->M t (N t y)):Fv k M o (W5 N o x):=by
 by_cases h4:o.C8=4
 ·obtain⟨a1,a2,a3,a4,a5,a6,a7,a8⟩:=JS h h4;unfold Fv W5;rw[if_pos h4,if_pos h4];refine⟨rfl,rfl,rfl,rfl,rfl,rfl,by simpa using a7,λy hy=>?_⟩;obtain⟨w,hw,rfl⟩:=List.mem_map.1 hy;exact YK hp (a8 w hw) λt q=>hN t w (by have:=Kp hw;omega) q
 by_cases h5:o.C8=5
 ·obtain⟨a1,a2,a3,a4,a5,a6,a7,a8⟩:=Kb h h5;unfold Fv W5;rw[if_neg h4,if_pos h5,if_neg h4,if_pos h5];refine⟨rfl,rfl,rfl,rfl,rfl,rfl,?_,λy hy=>?_⟩
  ·have:=RI x.Pairs;simp only[List.length_map];omega
  obtain⟨w,hw,rfl⟩:=List.mem_map.1 hy;have hw:=Qh hw;exact⟨a5d hp (a8 w hw).1,YK hp (a8 w hw).2 λt q=>hN t w.2 (by have:=Kt hw;omega) q⟩
 ·unfold Fv W5;rw[if_neg h4,if_neg h5,if_neg h4,if_neg h5];exact YK hp (HZ h h4 h5) λt q=>hN t x (Nat.le_refl _) q
theorem a0h{k:Nat}{M:O3}{N:Du}{g:B7}{v:A0}(h:Mv k M g v)(hN:∀t y,SizeOf.sizeOf y<SizeOf.sizeOf v->M t y->M t (N t y)):Mv k M g (Cx N g v):=by
 have hlen:((K1 kn v.Slots).flatMap λx=>O6 N (I5 g x.1).1 x.1 x.2).length<=v.Slots.length:=Nat.le_trans (bB _ _ λx hx=>Pd _ _ _ _) (Ja _);have hr:(sC kr v.C4).length=v.C4.length:=(Jp v.C4).length_eq;have sl:=h.sl;have rl:=h.rl
 have mem:∀x∈(K1 kn v.Slots).flatMap λx=>O6 N (I5 g x.1).1 x.1 x.2,(I5 g x.1).2/\Fv k M (I5 g x.1).1 x.2:=λx hx=>by
  obtain⟨y,hy,q⟩:=List.mem_flatMap.1 hx;unfold O6 at q;split at q
  ·have:=List.mem_singleton.1 q;subst this;have hy':=FM _ _ hy;exact⟨h.kn y hy',vF hp (h.fv y hy') λt z hz=>hN t z (by have:=Kx hy';omega)⟩
  ·cases q
 refine⟨rfl,rfl,rfl,rfl,rfl,Nat.le_trans hlen sl,by show(sC kr v.C4).length<=k;omega,λx hx=>h.Qy x ((Jp v.C4).mem_iff.1 hx),?_,λx hx=>(mem x hx).1,λx hx=>(mem x hx).2⟩
 have hS:(K1 kn v.Slots).Pairwise (λx y=>x.1≠y.1):=(TI Qg v.Slots).imp λ{x y} h=>by
  rcases Z8 x.1 y.1 with q|q|q<;>simp only[kn]at h<;>omega
 show(((K1 kn v.Slots).flatMap λx=>O6 N (I5 g x.1).1 x.1 x.2)).Pairwise _
 have key:∀l:b5l (Int × A0),l.Pairwise (λx y=>x.1≠y.1)->(l.flatMap λx=>O6 N (I5 g x.1).1 x.1 x.2).Pairwise (λx y=>x.1≠y.1):=by
  intro l
  induction l with
  |nil=>intro _;exact List.Pairwise.nil
  |cons x l ih=>
   intro hl;obtain⟨q1,q2⟩:=List.pairwise_cons.1 hl;rw[List.flatMap_cons]
   have num:∀(y:Int × A0) a,a∈O6 N (I5 g y.1).1 y.1 y.2->a.1=y.1:=λy a ha=>by
    unfold O6 at ha;split at ha
    ·rw[List.mem_singleton.1 ha]
    ·cases ha
   refine List.pairwise_append.2 ⟨?_,ih q2,λa ha b hb=>?_⟩
   ·unfold O6;split
    ·exact List.pairwise_singleton _ _
    ·exact List.Pairwise.nil
   ·obtain⟨y,hy,hb⟩:=List.mem_flatMap.1 hb;rw[num x a ha,num y b hb];exact q1 y hy
 exact key _ hS
theorem pV{k:Nat}:∀(m n:Nat) (t:Int) (v:A0),SizeOf.sizeOf v<=n->Rv p k m t v->Rv p k m t (BL p n t v)
 |m,0,t,v,hn,_=>by have:=Ky v;omega
 |0,n+1,t,v,hn,⟨⟨h0,g,hgt⟩,e⟩=>by
  subst e;refine⟨⟨h0,g,hgt⟩,?_⟩;simp only[BL,hgt];rfl
 |m+1,n+1,t,v,hn,⟨h0,g,hgt,h⟩=>by
  refine⟨h0,g,hgt,?_⟩;simp only[BL,hgt];exact a0h hp h λt y hy q=>pV m n t y (by omega) q
theorem na{k:Nat}(hk:k<=65536):∀(n:Nat) (t:Int) (g:B7) (v:A0),p.B3[t.toNat]? =some g->0<=t->((∃m,Rv p k m t v)/\SizeOf.sizeOf v<=n)->LS p t v (BL p n t v)
 |0,t,g,v,_,_,h=>by have:=Ky v;omega
 |n+1,t,g,v,hgt,ht,⟨⟨m,hm⟩,hn⟩=>by
  have hg:g∈p.B3:=b5g hgt;have hv:=Rk hp hk m t v hm;have e:BL p (n+1) t v=Cx (BL p n) g v:=by simp only[BL,hgt]
  rw[e]
  have mv:∃m,Mv k (Rv p k m) g v:=by
   cases m with
   |zero=>obtain⟨_,q⟩:=hm;subst q;exact⟨0,Vx _ _ _⟩
   |succ m=>
    obtain⟨_,g',hg',q⟩:=hm;rw[hgt]at hg';cases hg';exact⟨m,q⟩
  obtain⟨m,mv⟩:=mv;refine sV hp (B:=λt v=>(∃m,Rv p k m t v)/\SizeOf.sizeOf v<=n) (na hk n) (λt v=>tq hp n t v) t ht g hgt v hv mv.df mv.kn λx hx o ho he=>?_
  have z1:=Kx hx;have h1:=mv.fv x hx;rw[<-he,kX hp hg ho]at h1;refine⟨λh4 h5 hk=>⟨⟨m,Ew (HZ h1 h4 h5) hk⟩,by omega⟩,λh4 hk y hy=>?_,λh5 hk y hy=>?_⟩
  ·obtain⟨_,_,_,_,_,_,_,q⟩:=JS h1 h4;exact⟨⟨m,Ew (q y hy) hk⟩,by have:=Kp hy;omega⟩
  ·obtain⟨_,_,_,_,_,_,_,q⟩:=Kb h1 h5;exact⟨⟨m,Ew (q y hy).2 hk⟩,by have:=Kt hy;omega⟩
end
theorem NZ{α:Type}{J:Nat->Prop}(f:α->b5n)(s:b5l α)(E:b5n->Prop)(step:∀i x,s[i]? =some x->(f x=true->J (i+1))->(f x=false->E false)->J i)(fin:E true->J s.length)(h:E (s.all f)):J 0:=by
 have key:∀d i,s.length - i<=d->i<=s.length->E ((s.drop i).all f)->J i:=by
  intro d
  induction d with
  |zero=>
   intro i hd hi hE;have e:i=s.length:=by omega
   subst e;rw[List.drop_length]at hE;exact fin hE
  |succ d ih=>
   intro i hd hi hE;rcases Nat.lt_or_ge i s.length with hlt|hge
   ·have dl:s.drop i=s[i]::s.drop (i+1):=b5c hlt;rw[dl,List.all_cons]at hE;refine step i s[i] (b48 hlt) (λq=>ih (i+1) (by omega) (by omega) ?_) λq=>?_
    ·rwa [q,Bool.true_and]at hE
    ·rwa [q,Bool.false_and]at hE
   ·have e:i=s.length:=by omega
    subst e;rw[List.drop_length]at hE;exact fin hE
 exact key s.length 0 (by omega) (by omega) (by simpa using h)
def AW(x:A0):b5l A0:=if x.Kind=11 then x.B8 else if x.Kind=12 then x.Pairs.map (λy=>y.2) else [x]
def BV(C:Int->A0->b5n)(v:A0)(o:A7):b5n:=
 if(H2 v o.Num).2=false then o.C8 !=1 else if o.Kind≠10 then true else(AW (H2 v o.Num).1).all (C o.Target)
def PZ(p:A8):Nat->Int->A0->b5n
 |0,t,v=>match p.B3[t.toNat]? with
  |none=>true
  |some g=>g.Ops.all (BV (λ_ _=>true) v)
 |m+1,t,v=>match p.B3[t.toNat]? with
  |none=>true
  |some g=>g.Ops.all (BV (PZ p m) v)
theorem tC(x:A0)(h1:x.Pairs.length<=1000000):bn x (AW x):=by
 unfold AW;refine a70 _ _ ⟨λh=>?_,λh=>⟨λh2=>?_,λh2=>?_⟩⟩
 ·rw[if_pos (by simpa using h)]
 ·rw[if_neg (by simpa using h),if_pos (by simpa using h2)];refine FN (J:=λi acc=>Tb i x acc _) (E:=λacc=>x.Pairs.map (λy=>y.2)=acc) x.Pairs (λy=>[y.2]) (λi hi acc ha hj=>?_) (λy hy=>by simp) (λacc ha he=>?_) (MP _ _).symm
  ·have e1:wI ((i:Int)+1)=((i+1:Nat):Int):=by rw[wI,C7 (by omega)];omega
   refine fV _ _ _ _ ⟨λ_=>⟨x.Pairs[i],by simp,by omega,by simp;omega,?_⟩,λh=>by simp at h;omega⟩;rw[e1];exact hj
  ·exact fV _ _ _ _ ⟨λh=>by simp at h,λ_=>he⟩
 ·rw[if_neg (by simpa using h),if_neg (by simpa using h2)]
theorem pX{k:Nat}{M:O3}(hM:∀t y,M t y->y.Kind=10/\y.Pairs=[]){o:A7}{x:A0}(h:Fv k M o x)(hk:o.Kind=10):∀y∈AW x,M o.Target y:=by
 intro y hy;unfold AW at hy
 by_cases h4:o.C8=4
 ·obtain⟨e,_,_,_,_,_,_,q⟩:=JS h h4;rw[if_pos e]at hy;exact Ew (q y hy) hk
 by_cases h5:o.C8=5
 ·obtain⟨e,_,_,_,_,_,_,q⟩:=Kb h h5;rw[if_neg (by omega),if_pos e]at hy;obtain⟨z,hz,rfl⟩:=List.mem_map.1 hy;exact Ew (q z hz).2 hk
 ·have m:=Ew (HZ h h4 h5) hk;have e:=(hM _ _ m).1;rw[if_neg (by omega),if_neg (by omega)]at hy;rw[List.mem_singleton.1 hy];exact m
theorem a6y{k:Nat}{M:O3}(hM:∀t y,M t y->y.Kind=10/\y.Pairs=[]){o:A7}{x:A0}(h:Fv k M o x)(hk:o.Kind=10):x.Pairs.length<=k:=by
 by_cases h4:o.C8=4
 ·obtain⟨_,_,_,e,_,_,_,q⟩:=JS h h4;rw[e];exact Nat.zero_le _
 by_cases h5:o.C8=5
 ·obtain⟨_,_,_,_,_,_,q,_⟩:=Kb h h5;exact q
 ·rw[(hM _ _ (Ew (HZ h h4 h5) hk)).2];exact Nat.zero_le _
theorem gd{p:A8}{o:A7}{y:A0}{b:b5n}(hk:o.Kind=10)(hy:y.Kind=10)(h:Gn p o.Target y b):Io p o y b:=
 Uk _ _ _ _ (J6 (by simpa using hk) (U0 (by simpa using hy) ⟨_,h,rfl⟩))
theorem yx{p:A8}{k:Nat}(hk:k<=65536){M:O3}{C:Int->A0->b5n}(hM:∀t y,M t y->y.Kind=10/\y.Pairs=[])(hC:∀t y,M t y->Gn p t y (!C t y)){o:A7}{x:A0}(h:Fv k M o x)(ho:o.Kind=10):Io p o x (!(AW x).all (C o.Target)):=by
 have hel:=pX hM h ho;have one:∀y∈AW x,Io p o y (!C o.Target y):=λy hy=>gd ho (hM _ _ (hel y hy)).1 (hC _ _ (hel y hy))
 by_cases h4:o.C8=4
 ·obtain⟨e,_,_,ep,_,_,el,q⟩:=JS h h4;have ee:AW x=x.B8:=by unfold AW;rw[if_pos e]
  rw[ee]at one ⊢;refine Uk _ _ _ _ (J6 (by simpa using ho) (J6 (by simp;omega) ?_));refine NZ (J:=λi=>TC i p o x (!x.B8.all (C o.Target))) (C o.Target) x.B8 (λb=>(!x.B8.all (C o.Target))= !b) (λi y hi k1 k2=>?_) (λhe=>?_) rfl
  ·have hlt:i<x.B8.length:=(List.getElem?_eq_some_iff.1 hi).1;have e1:wI ((i:Int)+1)=((i+1:Nat):Int):=by rw[wI,C7 (by omega)];omega
   refine eM _ _ _ _ _ ⟨λ_=>⟨y,by simpa using hi,by omega,_,one y (b5g hi),?_⟩,λh=>by simp at h;omega⟩;rw[e1];rcases Bool.eq_false_or_eq_true (C o.Target y) with hq|hq
   ·exact J6 (by rw[hq];rfl) (k1 hq)
   ·exact U0 (by rw[hq];rfl) (k2 hq)
  ·exact eM _ _ _ _ _ ⟨λh=>by simp at h,λ_=>Xc _ _ _ _ _ ⟨λh=>by rw[ep]at h;simp at h,λ_=>he⟩⟩
 by_cases h5:o.C8=5
 ·obtain⟨e,_,_,ep,_,_,el,q⟩:=Kb h h5;have ee:AW x=x.Pairs.map (λy=>y.2):=by unfold AW;rw[if_neg (by omega),if_pos e]
  rw[ee]at one ⊢;rw[List.all_map];refine Uk _ _ _ _ (J6 (by simpa using ho) (J6 (by simp;omega) ?_));refine eM _ _ _ _ _ ⟨λh=>by rw[ep]at h;simp at h,λ_=>?_⟩;refine NZ (J:=λi=>UA i p o x (!x.Pairs.all (C o.Target ∘ λy=>y.2))) (C o.Target ∘ λy=>y.2) x.Pairs (λb=>(!x.Pairs.all (C o.Target ∘ λy=>y.2))= !b) (λi y hi k1 k2=>?_) (λhe=>?_) rfl
  ·have hlt:i<x.Pairs.length:=(List.getElem?_eq_some_iff.1 hi).1;have e1:wI ((i:Int)+1)=((i+1:Nat):Int):=by rw[wI,C7 (by omega)];omega
   refine Xc _ _ _ _ _ ⟨λ_=>⟨y,by simpa using hi,by omega,_,one y.2 (List.mem_map.2 ⟨y,b5g hi,rfl⟩),?_⟩,λh=>by simp at h;omega⟩;rw[e1];rcases Bool.eq_false_or_eq_true (C o.Target y.2) with hq|hq
   ·exact J6 (by rw[hq];rfl) (k1 hq)
   ·exact U0 (by rw[hq];rfl) (k2 hq)
  ·exact Xc _ _ _ _ _ ⟨λh=>by simp at h,λ_=>he⟩
 ·have m:=Ew (HZ h h4 h5) ho;have e:=(hM _ _ m).1;have ee:AW x=[x]:=by unfold AW;rw[if_neg (by omega),if_neg (by omega)]
  rw[ee];have:=gd ho e (hC _ _ m);simpa using this
section
variable {p:A8}(hp:BD p)
 include hp
theorem jz{k:Nat}(hk:k<=65536){M:O3}{C:Int->A0->b5n}(hM:∀t y,M t y->y.Kind=10/\y.Pairs=[])(hC:∀t y,M t y->MB p t y (C t y)/\Gn p t y (!C t y)){t:Int}(ht:0<=t){g:B7}(hgt:p.B3[t.toNat]? =some g){v:A0}(h:Mv k M g v):
  MB p t v (g.Ops.all (BV C v))/\Gn p t v (!g.Ops.all (BV C v)):=by
 have hg:g∈p.B3:=b5g hgt;have ho:=hp.ops hg;have sl:=h.sl
 have hfv:∀o∈g.Ops,(H2 v o.Num).2->Fv k M o (H2 v o.Num).1:=λo hm hq=>by
  have:=h.fv _ (Lx hq);simp only[kX hp hg hm]at this;exact this
 constructor
 ·refine a62 _ _ _ _ ⟨g,hgt,ht,?_⟩;refine NZ (J:=λi=>Hi i g p v (g.Ops.all (BV C v))) (BV C v) g.Ops (λb=>g.Ops.all (BV C v)=b) (λi o hi k1 k2=>?_) (λhe=>mZ _ _ _ _ _ ⟨λh=>by simp at h,λ_=>he⟩) rfl;have hm:o∈g.Ops:=b5g hi;have hlt:i<g.Ops.length:=(List.getElem?_eq_some_iff.1 hi).1;have e1:wI ((i:Int)+1)=((i+1:Nat):Int):=by rw[wI,C7 (by omega)];omega
  refine mZ _ _ _ _ _ ⟨λ_=>⟨o,by simpa using hi,by omega,_,HE v (by omega) o.Num,?_⟩,λh=>by simp at h;omega⟩;unfold BV at k1 k2;rw[e1];rcases Bool.eq_false_or_eq_true (H2 v o.Num).2 with hq|hq
  ·rw[if_neg (by rw[hq];decide)]at k1 k2;refine J6 (by rw[hq];rfl) ?_
   by_cases hk10:o.Kind=10
   ·rw[if_neg (by simpa using hk10)]at k1 k2;refine J6 (by simpa using hk10) ?_;have fv:=hfv o hm hq;have few:=a6y hM fv hk10;have hel:=pX hM fv hk10;refine⟨_,tC _ (by omega),?_⟩
    have hl:(AW (H2 v o.Num).1).length<=1000000:=by
     have ok:=fv;unfold AW;split
     ·by_cases h4:o.C8=4
      ·have:=(JS fv h4).2.2.2.2.2.2.1;omega
      by_cases h5:o.C8=5
      ·rw[(Kb fv h5).2.2.2.1];exact Nat.zero_le _
      ·have:=(hM _ _ (Ew (HZ fv h4 h5) hk10)).1;omega
     split
     ·simp only[List.length_map];omega
     ·simp
    refine NZ (J:=λj=>SR j (AW (H2 v o.Num).1) i g p v o (g.Ops.all (BV C v))) (C o.Target) (AW (H2 v o.Num).1) (λb=>(b=true->Hi ((i+1:Nat):Int) g p v (g.Ops.all (BV C v)))/\(b=false->g.Ops.all (BV C v)=false)) (λj y hj q1 q2=>?_) (λhe=>?_) ⟨k1,k2⟩
    ·have hlt2:j<(AW (H2 v o.Num).1).length:=(List.getElem?_eq_some_iff.1 hj).1;have e2:wI ((j:Int)+1)=((j+1:Nat):Int):=by rw[wI,C7 (by omega)];omega
     refine fm _ _ _ _ _ _ _ _ ⟨λ_=>⟨y,by simpa using hj,by omega,_,(hC _ _ (hel y (b5g hj))).1,?_⟩,λh=>by simp at h;omega⟩;rw[e2];rcases Bool.eq_false_or_eq_true (C o.Target y) with hq2|hq2
     ·exact J6 (by rw[hq2];rfl) (q1 hq2)
     ·exact U0 (by rw[hq2];rfl) ((q2 hq2).2 rfl)
    ·refine fm _ _ _ _ _ _ _ _ ⟨λh=>by simp at h,λ_=>?_⟩;rw[e1];exact he.1 rfl
   ·rw[if_pos hk10]at k1 k2;exact U0 (by simpa using hk10) (k1 rfl)
  ·rw[if_pos hq]at k1 k2;refine U0 (by rw[hq];rfl) ?_
   by_cases hc:o.C8=1
   ·exact U0 (by simpa using hc) (k2 (by simpa using hc))
   ·exact J6 (by simpa using hc) (k1 (by simpa using hc))
 ·refine a8j _ _ _ _ ?_;refine NZ (J:=λi=>Tx i t p v (!g.Ops.all (BV C v))) (BV C v) g.Ops (λb=>(!g.Ops.all (BV C v))= !b) (λi o hi k1 k2=>?_) (λhe=>fU _ _ _ _ _ ⟨g,hgt,ht,λh=>by simp at h,λ_=>he⟩) rfl;have hm:o∈g.Ops:=b5g hi;have hlt:i<g.Ops.length:=(List.getElem?_eq_some_iff.1 hi).1;have e1:wI ((i:Int)+1)=((i+1:Nat):Int):=by rw[wI,C7 (by omega)];omega
  refine fU _ _ _ _ _ ⟨g,hgt,ht,λ_=>⟨g,hgt,ht,o,by simpa using hi,by omega,_,LV v (by omega) o.Num,?_⟩,λh=>by simp at h;omega⟩;unfold BV at k1 k2;rw[e1];rcases Bool.eq_false_or_eq_true (H2 v o.Num).2 with hq|hq
  ·rw[if_neg (by rw[hq];decide)]at k1 k2;refine J6 (by rw[hq];rfl) ⟨_,λz h=>h,U0 hq ?_⟩
   by_cases hk10:o.Kind=10
   ·rw[if_neg (by simpa using hk10)]at k1 k2;refine⟨_,yx hk hM (λt y h=>(hC t y h).2) (hfv o hm hq) hk10,?_⟩;rcases Bool.eq_false_or_eq_true ((AW (H2 v o.Num).1).all (C o.Target)) with hq2|hq2
    ·exact J6 (by rw[hq2];rfl) (k1 hq2)
    ·exact U0 (by rw[hq2];rfl) (k2 hq2)
   ·rw[if_pos hk10]at k1 k2;exact⟨false,Uk _ _ _ _ (U0 (by simpa using hk10) rfl),J6 rfl (k1 rfl)⟩
  ·rw[if_pos hq]at k1 k2
   by_cases hc:o.C8=1
   ·exact U0 (by rw[hq];simpa using hc) (k2 (by simpa using hc))
   ·exact J6 (by rw[hq];simpa using hc) ⟨_,λz h=>h,J6 hq (J6 rfl (k1 (by simpa using hc)))⟩
theorem a6o{k:Nat}:∀(m:Nat) (t:Int) (y:A0),Rv p k m t y->y.Kind=10/\y.Pairs=[]
 |0,t,y,⟨_,e⟩=>by subst e;exact⟨rfl,rfl⟩
 |m+1,t,y,⟨_,g,_,h⟩=>⟨h.kd,h.ps⟩
theorem nL{k:Nat}(hk:k<=65536):∀(m:Nat) (t:Int) (v:A0),Rv p k m t v->MB p t v (PZ p m t v)/\Gn p t v (!PZ p m t v)
 |0,t,v,⟨⟨h0,g,hgt⟩,e⟩=>by
  subst e;simp only[PZ,hgt];exact jz hp hk (M:=λ_ _=>False) (λ_ _ h=>h.elim) (λ_ _ h=>h.elim) h0 hgt (Vx k _ g)
 |m+1,t,v,⟨h0,g,hgt,h⟩=>by
  simp only[PZ,hgt];exact jz hp hk (a6o hp m) (nL hk m) h0 hgt h
end
inductive CG:A0->Prop
 |mk (v:A0) (l:v.B8.length<=65536) (p:v.Pairs.length<=65536) (s:v.Slots.length<=65536) (hl:∀x∈v.B8,CG x) (hk:∀x∈v.Pairs,CG x.1) (hv:∀x∈v.Pairs,CG x.2) (hs:∀x∈v.Slots,CG x.2):CG v
theorem eK{x:A0}(h:Lf x):CG x:=by
 obtain⟨_,h1,h2,h3,_⟩:=h;refine .mk _ (by rw[h1];exact Nat.zero_le _) (by rw[h2];exact Nat.zero_le _) (by rw[h3];exact Nat.zero_le _) (λy hy=>?_) (λy hy=>?_) (λy hy=>?_) (λy hy=>?_)
 ·rw[h1]at hy;cases hy
 ·rw[h2]at hy;cases hy
 ·rw[h2]at hy;cases hy
 ·rw[h3]at hy;cases hy
theorem Ze{M:O3}(hM:∀t v,M t v->CG v){o:A7}{x:A0}(h:Ev M o x):CG x:=by
 unfold Ev at h;split at h
 ·exact hM _ _ h
 ·exact eK h
theorem xA{k:Nat}(hk:k<=65536){M:O3}(hM:∀t v,M t v->CG v){o:A7}{x:A0}(h:Fv k M o x):CG x:=by
 by_cases h4:o.C8=4
 ·obtain⟨_,_,_,e1,e2,_,hl,q⟩:=JS h h4;refine .mk _ (by omega) (by rw[e1];exact Nat.zero_le _) (by rw[e2];exact Nat.zero_le _) (λy hy=>Ze hM (q y hy)) (λy hy=>?_) (λy hy=>?_) (λy hy=>?_)
  ·rw[e1]at hy;cases hy
  ·rw[e1]at hy;cases hy
  ·rw[e2]at hy;cases hy
 by_cases h5:o.C8=5
 ·obtain⟨_,_,_,e1,e2,_,hl,q⟩:=Kb h h5;refine .mk _ (by rw[e1];exact Nat.zero_le _) (by omega) (by rw[e2];exact Nat.zero_le _) (λy hy=>?_) (λy hy=>eK (q y hy).1) (λy hy=>Ze hM (q y hy).2) (λy hy=>?_)
  ·rw[e1]at hy;cases hy
  ·rw[e2]at hy;cases hy
 ·exact Ze hM (HZ h h4 h5)
theorem a32{k:Nat}(hk:k<=65536){M:O3}(hM:∀t v,M t v->CG v){g:B7}{v:A0}(h:Mv k M g v):CG v:=by
 have sl:=h.sl;refine .mk _ (by rw[h.ls];exact Nat.zero_le _) (by rw[h.ps];exact Nat.zero_le _) (by omega) (λy hy=>?_) (λy hy=>?_) (λy hy=>?_) (λy hy=>xA hk hM (h.fv y hy))
 ·rw[h.ls]at hy;cases hy
 ·rw[h.ps]at hy;cases hy
 ·rw[h.ps]at hy;cases hy
theorem iL{p:A8}{k:Nat}(hk:k<=65536):∀(m:Nat) (t:Int) (v:A0),Rv p k m t v->CG v
 |0,t,v,⟨_,e⟩=>by subst e;exact eK (Hu 10 0 ⟨#[]⟩ ⟨by decide,by decide⟩ ⟨by decide,by decide⟩ (Nat.zero_le _))
 |m+1,t,v,⟨h0,g,hgt,h⟩=>a32 hk (iL hk m) h
def Fg(v:A0):b5l A0:=v.B8++(v.Pairs.flatMap λx=>[x.1,x.2])++v.Slots.map λx=>x.2
theorem o0(v:A0)(l:v.B8.length<=65536)(pa:v.Pairs.length<=65536)(sa:v.Slots.length<=65536):ZU v (Fg v):=by
 refine b16 _ _ ⟨a2a _ (by omega),?_⟩
 have j6:∀d i (acc:b5l A0),v.Slots.length - i<=d->i<=v.Slots.length->acc.length+(v.Slots.length - i)<=549755813888->Un i v acc (acc++(v.Slots.drop i).map λx=>x.2):=by
  intro d
  induction d with
  |zero=>
   intro i acc hd hi ha;have e:i=v.Slots.length:=by omega
   subst e;exact ZI _ _ _ _ ⟨λh=>by simp at h,λ_=>by simp⟩
  |succ d ih=>
   intro i acc hd hi ha;rcases Nat.lt_or_ge i v.Slots.length with hlt|hge
   ·have e1:wI ((i:Int)+1)=((i+1:Nat):Int):=by rw[wI,C7 (by omega)];omega
    have dl:v.Slots.drop i=v.Slots[i]::v.Slots.drop (i+1):=b5c hlt;refine ZI _ _ _ _ ⟨λ_=>⟨v.Slots[i],by simp,by omega,by simp;omega,?_⟩,λh=>by simp at h;omega⟩;rw[e1,dl];have:=ih (i+1) (acc++[v.Slots[i].2]) (by omega) (by omega) (by simp;omega);rw[List.append_assoc]at this;exact this
   ·have e:i=v.Slots.length:=by omega
    subst e;exact ZI _ _ _ _ ⟨λh=>by simp at h,λ_=>by simp⟩
 have j4:∀d i (acc:b5l A0),v.Pairs.length - i<=d->i<=v.Pairs.length->acc.length+2*(v.Pairs.length - i)+v.Slots.length<=549755813888->Tr i v acc (acc++((v.Pairs.drop i).flatMap λx=>[x.1,x.2])++v.Slots.map λx=>x.2):=by
  intro d
  induction d with
  |zero=>
   intro i acc hd hi ha;have e:i=v.Pairs.length:=by omega
   subst e;refine dx _ _ _ _ ⟨λh=>by simp at h,λ_=>?_⟩;have:=j6 v.Slots.length 0 acc (by omega) (by omega) (by omega);simpa using this
  |succ d ih=>
   intro i acc hd hi ha;rcases Nat.lt_or_ge i v.Pairs.length with hlt|hge
   ·have e1:wI ((i:Int)+1)=((i+1:Nat):Int):=by rw[wI,C7 (by omega)];omega
    have dl:v.Pairs.drop i=v.Pairs[i]::v.Pairs.drop (i+1):=b5c hlt;refine dx _ _ _ _ ⟨λ_=>⟨v.Pairs[i],by simp,by omega,by simp;omega,?_⟩,λh=>by simp at h;omega⟩;rw[e1,dl];have:=ih (i+1) (acc++[v.Pairs[i].1,v.Pairs[i].2]) (by omega) (by omega) (by simp;omega);rw[List.flatMap_cons,<-List.append_assoc acc];exact this
   ·have e:i=v.Pairs.length:=by omega
    subst e;refine dx _ _ _ _ ⟨λh=>by simp at h,λ_=>?_⟩;have:=j6 v.Slots.length 0 acc (by omega) (by omega) (by omega);simpa using this
 have h:=j4 v.Pairs.length 0 v.B8 (by omega) (by omega) (by omega);simpa[Fg]using h
theorem dU{α:Type}(f:α->Int):∀(l m:b5l α) (a:Int),BJ f a (l++m)=BJ f (BJ f a l) m
 |[],m,a=>rfl
 |x::l,m,a=>dU f l m _
theorem nN(f:A0->Int):∀(l:b5l (A0 × A0)) (a:Int),BJ f a (l.flatMap λx=>[x.1,x.2])=BJ (λx:A0 × A0=>max (f x.1) (f x.2)) a l
 |[],a=>rfl
 |x::l,a=>by
  have e:max (max a (f x.1)) (f x.2)=max a (max (f x.1) (f x.2)):=by omega
  show BJ f (max (max a (f x.1)) (f x.2)) _=BJ _ (max a (max (f x.1) (f x.2))) l;rw[e];exact nN f l _
theorem pS{β:Type}(f:A0->Int)(h:β->A0):∀(l:b5l β) (a:Int),BJ f a (l.map h)=BJ (λx=>f (h x)) a l
 |[],a=>rfl
 |x::l,a=>pS f h l _
theorem rN(f:A0->Int)(a:Int)(v:A0):BJ f a (Fg v)=UQ f a v:=by
 unfold Fg UQ;rw[dU,dU,nN,pS]
theorem QS:∀(n:Nat) (v:A0),CG v->SizeOf.sizeOf v<=n->Ly v (Y5 n v)
 |0,v,_,h=>by have:=Ky v;omega
 |n+1,v,hv,hn=>by
  cases hv with
  |mk _ l p s hl hk hv hs=>
  have hfl:(v.Pairs.flatMap λx=>[x.1,x.2]).length=2*v.Pairs.length:=by
   induction v.Pairs with
   |nil=>rfl
   |cons x l ih=>simp only[List.flatMap_cons,b5i,List.length_cons,List.length_nil,ih];omega
  have hlen:(Fg v).length<=140737488351232:=by
   unfold Fg;simp only[b5i,List.length_map,hfl];omega
  refine zS _ _ ⟨_,o0 v l p s,?_⟩;refine VP (J:=λi a=>Si i (Fg v) a v (Y5 (n+1) v)) (C:=λ(x:A0) b=>Ly x b) (Y5 n) (Fg v) (E:=λa=>((v.Kind==10)=true->Y5 (n+1) v=wI (a+1))/\((v.Kind==10)=false->Y5 (n+1) v=a)) (λi a hw=>a6b i _ a v _ hw) hlen (λx hx=>?_) _ ?_
  ·unfold Fg at hx;rcases List.mem_append.1 hx with hx|hx
   ·rcases List.mem_append.1 hx with hx|hx
    ·exact QS n x (hl x hx) (by have:=Kp hx;omega)
    ·obtain⟨y,hy,hx⟩:=List.mem_flatMap.1 hx;have hz:=Kt hy;rcases List.mem_cons.1 hx with rfl|hx
     ·exact QS n _ (hk y hy) (by omega)
     ·rw[List.mem_singleton.1 hx];exact QS n _ (hv y hy) (by omega)
   ·obtain⟨y,hy,rfl⟩:=List.mem_map.1 hx;exact QS n _ (hs y hy) (by have:=Kx hy;omega)
  ·rw[rN];exact⟨λh=>by rw[Y5,if_pos h],λh=>by rw[Y5,if_neg (nt h)]⟩
abbrev Gg:T2:=⟨65536,16,4096,4096⟩
def Ko(d:b5k):A4 × Int:=if(65536:Int)<(d.size:Int) then(⟨⟨#[]⟩,0,0,0,0,0⟩,3) else(⟨d,0,(d.size:Int),16,4096,4096⟩,0)
theorem a53(d:b5k):eT d Gg (Ko d):=by
 refine a6g _ _ _ (J6 (by decide) ⟨λh=>?_,λh=>?_⟩)
 ·rw[Ko,if_pos (of_decide_eq_true h)]
 ·rw[Ko,if_neg (of_decide_eq_false h)]
theorem a1b(d:b5k):aP d Gg (Ko d):=by
 refine a9k _ _ _ (J6 (by decide) ⟨λh=>?_,λh=>?_⟩)
 ·rw[Ko,if_pos (of_decide_eq_true h)]
 ·rw[Ko,if_neg (of_decide_eq_false h)]
theorem fj{α:Type}(f:α->b5n):∀(l:b5l α) (i:Int),0<=i->Bp f l i<i+l.length
 |[],i,h=>by simp only[Bp,List.length_nil];omega
 |x::l,i,h=>by
  have ih:=fj f l (i+1) (by omega);simp only[Bp,List.length_cons];split<;>omega
theorem a94{p:A8}{name:b5k}(h:(FK p name).2):0<=(FK p name).1/\∃g,p.B3[(FK p name).1.toNat]? =some g:=by
 unfold FK at h ⊢;have h0:=of_decide_eq_true h;have h1:=fj (λg:B7=>decide (g.Name=name)) p.B3 0 (Int.le_refl _);refine⟨by simp only;omega,_,b48 (by simp only;omega)⟩
section
variable {p:A8}(hp:BD p)
 include hp
theorem b2g(name data:b5k):H0 (λ(y z:A0 × Int)=>y=z/\(y.2=0->∃m,Rv p 65536 m (FK p name).1 y.1)) (Xa p name Kh data Gg) (Yv p name Kh data Gg):=by
 have hn:p.B3.length<=140737488351232:=D1 hp.pl.np;refine V9 (λr=>i4 _ _ _ _ _ r) (λr=>a91 _ _ _ _ _ r) ?_;refine I8 (lD p hn name) (kW p hn name) (M7 rfl (λh=>I1 ⟨rfl,λh=>by simp at h⟩) λhf=>?_);obtain⟨ht,g,hgt⟩:=a94 (p:=p) (name:=name) (by simpa using hf);have hg:g∈p.B3:=b5g hgt;refine M7 rfl (λh=>by cases h) λ_=>?_
 refine I8 (a53 data) (a1b data) ?_;unfold Ko
 by_cases hd:(65536:Int)<(data.size:Int)
 ·rw[if_pos hd];exact M7 rfl (λh=>I1 ⟨rfl,λh=>by simp at h⟩) λh=>by cases h
 rw[if_neg hd];refine M7 rfl (λh=>by cases h) λ_=>M7 rfl (λh=>by cases h) λ_=>?_
 have hc:F8 (⟨data,0,(data.size:Int),wI ((16:Int) - 1),4096,4096⟩:A4):=⟨by simp only;omega,Int.le_refl _,by simp only;omega,Int.le_refl _,show(0:Int)<=wI (16 - 1) by decide,show wI (16 - 1)<=(1000:Int) by decide,show(0:Int)<=4096 by decide,show(4096:Int)<=1000000 by decide⟩;refine I8 (Lh p 1 hc (by decide)) (JI 1 hc (by decide)) (M7 rfl (λh=>I1 ⟨rfl,λh'=>by simp only at h';rw[h']at h;cases h⟩) λh=>?_);have k1:=FR 1 hc (by decide) (by simpa using h);have kd:=k1.dp;have ke:=k1.en;have ka:=k1.at_;have e15:wI ((16:Int) - 1)=15:=by decide
 refine Fc (iJ hp 16 _ _ g Kh hgt ht k1.snd (by rw[kd];simp only[e15];decide) (Vx _ _ _)) (λy z h1 h2=>⟨by rw[h2],λh=>absurd h h1⟩) λx c' ⟨f,m⟩=>?_
 have fe:=f.en;have fs:=f.snd.a1
 have hk:c'.At.toNat<=65536:=by
  have:c'.End=(data.size:Int):=by rw[fe,ke]
  omega
 have rv:Rv p 65536 16 (FK p name).1 x:=⟨ht,g,hgt,m.mono hk λt v h=>Rv.mono hk h⟩;have ok:=Rk hp (Nat.le_refl _) _ _ _ rv;refine I8 (d4 hp _ _ g x hgt ht ok (Nat.le_refl _)) (na hp (Nat.le_refl 65536) _ _ g x hgt ht ⟨⟨_,rv⟩,Nat.le_refl _⟩) (I1 ⟨rfl,λ_=>⟨_,pV hp _ _ _ _ (Nat.le_refl _) rv⟩⟩)
theorem d5(name data:b5k):H0 (λ(y z:A0 × Int)=>y=z/\(y.2=0->∃m t,Rv p 65536 m t y.1)) (TN p name data Gg) (eH p name data Gg):=by
 have hn:p.B3.length<=140737488351232:=D1 hp.pl.np;refine V9 (λr=>a1m _ _ _ _ r) (λr=>a3u _ _ _ _ r) ?_;refine Ni (b2g hp name data) λy z ⟨e,hy⟩=>?_
 subst e;refine M7 rfl (λh=>I1 ⟨rfl,λh'=>by simp only at h';rw[h']at h;cases h⟩) λh=>?_
 obtain⟨m,rv⟩:=hy (by simpa using h);refine I8 (lD p hn name) (kW p hn name) ?_;obtain⟨c1,c2⟩:=nL hp (Nat.le_refl 65536) m _ _ rv;refine I8 c1 c2 ?_;exact M7 rfl (λh=>I1 ⟨rfl,λh=>by simp at h⟩) λh=>I1 ⟨rfl,λ_=>⟨_,_,rv⟩⟩
end
theorem a1q{p:A8}(h:FO p):HR p:=⟨D1 h.ne,λy hy=>⟨D1 (h.enums y hy).ni,λit hit=>⟨((h.enums y hy).items it hit).num.1,((h.enums y hy).items it hit).num.2⟩⟩⟩
theorem xG(p:A8)(hpl:FO p)(name data:b5k)(aw:QD true):jc p name data true:=by
 obtain⟨r,hr,hv⟩:=zz p hpl;refine a3v _ _ _ _ ⟨r,hr,λ_=>⟨_,aw,rfl⟩,λh=>?_⟩;have hp:BD p:=⟨a1q hpl,hpl,hv (by simpa using h)⟩;obtain⟨y,z,hy,hz,e,good⟩:=d5 hp name data;subst e;have u1:SJ Gg:=v4 _ rfl;have u2:YL Gg:=a36 _ rfl
 by_cases he:y.2=0
 ·obtain⟨m,t,rv⟩:=good he;have pd:=QS _ _ (iL (Nat.le_refl _) _ _ _ rv) (Nat.le_refl (SizeOf.sizeOf y.1));have rd:=Oi _ _ (Rk hp (Nat.le_refl _) _ _ _ rv) (Nat.le_refl (SizeOf.sizeOf y.1));have b:(y.2 !=0)=false:=by rw[he];rfl
  refine⟨_,nE _ _ _ _ ⟨_,u1,_,hy,J6 b ⟨_,pd,rfl⟩⟩,_,iO _ _ _ _ ⟨_,u2,_,hz,J6 b ⟨_,rd,rfl⟩⟩,J6 (by simp) ⟨_,u1,_,hy,J6 b ⟨_,pd,U0 (by simp) ⟨_,aw,rfl⟩⟩⟩⟩
 ·have b:=Ki he;exact⟨_,nE _ _ _ _ ⟨_,u1,_,hy,U0 b rfl⟩,_,iO _ _ _ _ ⟨_,u2,_,hz,U0 b rfl⟩,J6 (by decide) ⟨_,u1,_,hy,U0 b ⟨_,λz h=>h,U0 rfl ⟨_,aw,rfl⟩⟩⟩⟩
set_option maxHeartbeats 1000000 in
set_option maxRecDepth 100000 in
theorem rI(b:Nat)(w:World)(h0:w.cell? ⟨b,0,none⟩=some (.pointer (some ⟨b,0,none⟩))):
  Calls Tryz.prog 230 #[.pointer (some ⟨b,0,none⟩)] w λe w'=>e=.returned (.tuple #[])/\w'=w:=by
 obtain⟨j,hj,_⟩:=Option.map_eq_some_iff.1 (show((Tryz.prog).info? 168).map (·.size)=some 2 by kernel_rfl)
 go_enter Tryz.func230,Tryz.ntmps230
 go_wp2
 rw[Lib.run_neq_ptr_same w _ Tryz.underlying165 hj]
 go_wp2
 go_end0
 exact⟨rfl,rfl⟩
set_option maxHeartbeats 1000000 in
set_option maxRecDepth 100000 in
theorem a9(b:Nat)(w:World)(h0:w.cell? ⟨b,0,none⟩=some (.pointer none))(hsh:w.shape? b=some (168,2))(hfz:w.frozen? ⟨b,0,none⟩=false):
  Calls Tryz.prog 230 #[.pointer (some ⟨b,0,none⟩)] w λe w'=>e=.returned (.tuple #[])/\w'=w.setCell ⟨b,0,none⟩ (.pointer (some ⟨b,0,none⟩)):=by
 obtain⟨j,hj,hjs⟩:=Option.map_eq_some_iff.1 (show((Tryz.prog).info? 168).map (·.size)=some 2 by kernel_rfl);have hlies:liesAt Tryz.prog (Tryz.prog).depth 168 (2 / (Tryz.prog).cellsOf 168) 0 168 1:=by kernel_rfl
 go_enter Tryz.func230,Tryz.ntmps230
 go_wp2
 rw[Lib.run_to_unsafe w ⟨b,0,none⟩ Tryz.underlying165 Tryz.underlying277 hj (by rw[hjs];decide) hsh (Nat.zero_lt_succ 1)];simp only[Result.andThen];rw[Oper.upon_value]
 go_wp2
 rw[run_callFunc_extern Tryz.func309 (by kernel_rfl) (by kernel_rfl) (by kernel_rfl) (e:=Extern.AbiNoEscape.same) (by kernel_rfl)];rw[Lib.run_noEscape];simp only[Result.andThen];rw[Oper.upon_value]
 go_wp2
 rw[Lib.run_from_unsafe w ⟨b,0,none⟩ Tryz.underlying277 Tryz.underlying165 hj hsh hlies];simp only[Result.andThen];rw[Oper.upon_value]
 go_wp2
 go_end0
 exact⟨rfl,rfl⟩
theorem a0d:Xo Tryz.prog 230 168:=by
 intro h n r hb K hk;refine⟨⟨_,Tryz.func230,by kernel_rfl,by kernel_rfl⟩,λσ cargs hi hr=>?_⟩;obtain⟨hl,hx⟩:=hr;obtain⟨x0,h0,r0⟩:=hx 0 _ rfl;obtain⟨b,k1,k2⟩:=hi.blk n _ hb;cases r0 with
 |ptr _ _ b' hb'=>
 rw[k1]at hb';cases hb'
 obtain rfl:cargs=#[.pointer (some ⟨b,0,none⟩)]:=by
  apply Array.ext'
  match hc:cargs.toList,hl,h0 with
  |[a],_,h0=>simp at h0;simp[h0]
 obtain⟨cs,rest,elem,hh,hc⟩:=k2.plain rfl;obtain⟨_,x,hx0,hrx⟩:=hc.2 0 _ rfl
 have hcell:σ.w.cell? ⟨b,0,none⟩=some x:=by
  rw[BH hh,<-Array.getElem?_toList,List.toList_toArray,b49 (List.getElem?_eq_some_iff.1 hx0).1];exact hx0
 cases hrx with
 |ps _ _ b2 p hb2 hs hp=>
 rw[k1]at hb2;cases hb2;rcases hp with rfl|rfl
 ·refine(a9 b σ.w hcell hs (a80 hh 0)).mono λe w' ⟨he,hw⟩=>?_
  subst he hw;have hlt:b<σ.w.heap.size:=Rd hh;obtain⟨q1,q2,q3,q4,q5⟩:=NR b [.pointer (some ⟨b,0,none⟩)] 0 σ.w;have q6:=Rx b elem (0,0) [.pointer (some ⟨b,0,none⟩)] 0 σ.w (cs++rest) hh (by have:=(List.getElem?_eq_some_iff.1 hx0).1;simp;omega);have hw:σ.w.setCells b 0 [.pointer (some ⟨b,0,none⟩)]=σ.w.setCell ⟨b,0,none⟩ (.pointer (some ⟨b,0,none⟩)):=rfl
  obtain⟨c0,cs,rfl⟩:∃c0 cs',cs=c0::cs':=by
   cases cs with
   |nil=>simp at hx0
   |cons c0 cs'=>exact⟨c0,cs',rfl⟩
  obtain⟨hle,hinv⟩:=OR (w':=σ.w.setCells b 0 [.pointer (some ⟨b,0,none⟩)]) (cells':=.ps n 168::r) hi k1 hb (by simp) q1 q2 q3 q4 q5 (λo ho=>OM b _ 0 σ.w _ ho) (λhle=>by
   refine .cells _ (.pointer (some ⟨b,0,none⟩)::cs) rest elem (by rw[q6];simp) ⟨by simpa using hc.1,λi av hi=>?_⟩;cases i with
   |zero=>simp at hi;subst hi;exact⟨rfl,_,rfl,.ps _ _ b _ k1 (LW b _ 0 _ b hs) (.inr rfl)⟩
   |succ i=>
    obtain⟨g1,y,g2,g3⟩:=hc.2 (i+1) av (by simpa using hi);exact⟨g1,y,by simpa using g2,g3.mono hle⟩) (λ_=>⟨_,_,q6⟩) (by simp) (λx hx=>LW b _ 0 _ b hx)
  have e1:h.A5.set n (some (.ps n 168::r))=h.A5:=by
   apply List.ext_getElem?;intro i
   by_cases hni:n=i
   ·subst hni;rw[List.getElem?_set_self (List.getElem?_eq_some_iff.1 hb).1,hb]
   ·rw[List.getElem?_set_ne hni]
  rw[e1]at hinv;exact⟨_,h,.tuple [],_,rfl,hw,hle,hinv,Rel.tuple_mk rfl λi av hi=>by simp at hi,hk⟩
 ·refine(rI b σ.w hcell).mono λe w' ⟨he,hw⟩=>?_
  subst he hw;exact⟨σ,h,.tuple [],_,rfl,rfl,Le.refl σ,hi,Rel.tuple_mk rfl λi av hi=>by simp at hi,hk⟩
end Go.Proofs.YtlcmiciojnnlnaaGreatDoor.Lift
