/- Part 5 of the texts that prove VerifyDepthEnd. -/
import Derived.Test.YtlcmiciojnnlnaaGreatDoorVerifyDepthEndP3
import Derived.Test.YtlcmiciojnnlnaaGreatDoorVerifyDepthEndP1
import Derived.OpenShut
import Derived.ProofKit
import Derived.Test.YtlcmiciojnnlnaaGreatDoorProg
namespace Go.Proofs.YtlcmiciojnnlnaaGreatDoor.Lift
open Go.RowKit
set_option linter.unusedVariables false
set_option linter.unusedSimpArgs false
set_option linter.unnecessarySimpa false
set_option linter.unusedSectionVars false
set_option maxRecDepth 100000
def gT(s:Mc):Nat:=match (XF s).guard with
 |some (t,_)=>t
 |none=>0
def cv(s:Mc):b5m AV:=match s.pc with
 |.c (.cond c _ _)=>c.ev s.env
 |.v (⟨_,_,some (t,_)⟩::_)=>get s.env t
 |.s _ (⟨_,_,some (t,_)⟩::_) _ _ _ _=>get s.env t
 |_=>none
def br(s:Mc)(b:b5n):Mc:=match s.pc with
 |.c (.cond _ x y)=>⟨.c (if b=true then x else y),s.k,s.env,s.h⟩
 |.v (⟨d,o,some (t,w)⟩::L)=>⟨.v (⟨d,o,some (t,w)⟩::L),s.k,(t,.v (.bool b))::s.env,s.h⟩
 |.s b' (⟨d,o,some (t,w)⟩::L) S gl q tl=>⟨.s b' (⟨d,o,some (t,w)⟩::L) S gl q tl,s.k,(t,.v (.bool b))::s.env,s.h⟩
 |_=>s
section
variable {P:Program}{f:Nat}{R:Rm}{s:Mc}
theorem Qd{B:b5n}(hv:cv s=some (.v (.bool B)))(h1:B=true->Ok P f R (br s true))(h2:B=false->Ok P f R (br s false)):Ok P f R s:=by
 obtain⟨pc,k,env,h⟩:=s;simp only[cv]at hv;split at hv
 ·exact WZ hv h1 h2
 ·cases hB:B with
  |true=>exact PK (Wm hB hv) rfl (h1 hB)
  |false=>exact PK (Wm hB hv) rfl (h2 hB)
 ·cases hB:B with
  |true=>exact PK (Wm hB hv) rfl (h1 hB)
  |false=>exact PK (Wm hB hv) rfl (h2 hB)
 ·cases hv
theorem W9(m:Nat){B:b5n}{p q:Prop}(h1:B=true->Wk P f R (br (run m s) true) p)(h2:B=false->Wk P f R (br (run m s) false) q)(hv:cv (run m s)=some (.v (.bool B)):=by kernel_rfl):Wk P f R s (IF B p q):=λhw=>J5 m (Qd hv (λh=>h1 h (hw.1 h)) λh=>h2 h (hw.2 h))
theorem KW(m:Nat){B:b5n}{p q:Prop}(h1:Wk P f R (br (run m s) true) p)(h2:Wk P f R (br (run m s) false) q)(hv:cv (run m s)=some (.v (.bool B)):=by kernel_rfl):Wk P f R s (IF B p q):=W9 m (λ_=>h1) (λ_=>h2) hv
theorem O8{V:Prop}(m:Nat){B b:b5n}(hB:B=b)(hk:Wk P f R (br (run m s) b) V)(hv:cv (run m s)=some (.v (.bool B)):=by kernel_rfl):Wk P f R s V:=λhw=>by
 subst hB
 replace hk:=hk hw
 exact J5 m (Qd hv (λh=>by rw[h]at hk;exact hk) λh=>by rw[h]at hk;exact hk)
def qi(n:Nat):Pc->Pc
 |.v L=>.v (L.drop n)
 |.s b L S gl w tl=>if Nat.ble n L.length=true then .s b (L.drop n) S gl w tl else .v (tl.drop (n - L.length - 1))
 |x=>x
def GA(s:Mc)(n:Nat):Nat:=match s.pc with
 |.v L=>(((L[n - 1]?).bind λo=>o.dst)).getD 0
 |.s _ L _ _ _ tl=>if Nat.ble n L.length=true then(((L[n - 1]?).bind λo=>o.dst)).getD 0 else(((tl[n - L.length - 2]?).bind λo=>o.dst)).getD 0
 |_=>0
def jn(s:Mc)(n:Nat)(a:AV):Mc:=⟨qi n s.pc,s.k,(GA s n,a)::drop (gT s) s.env,s.h⟩
def Dw(s:Mc):Mc:=⟨s.pc,s.k,[],s.h⟩
def po(d t:Nat)(e env:Env):b5n:=(e.take (e.length - env.length)).all λp=>p.1==t||p.1==d||(get env p.1).isNone
theorem a5c{d t:Nat}{a:AV}{e env:Env}(h1:get e d=some a)(h2:e.drop (e.length - env.length)=env)(h3:po d t e env):P9 ((d,a)::drop t env) e:=by
 intro u b hu;simp only[get]at hu;split at hu
 ·rename_i hd;subst hd;cases hu;exact h1
 ·rename_i hd
  have h4:u≠t:=by
   rintro rfl
   have:∀{e:Env},get (drop u e) u=none:=by
    intro e
    induction e with
    |nil=>rfl
    |cons q e ih=>
     obtain⟨v,c⟩:=q;simp only[drop];split
     ·exact ih
     ·rename_i hv;simp only[get];rw[if_neg hv];exact ih
   rw[this]at hu;cases hu
  have h5:get env u=some b:=by
   have:∀{e:Env},get (drop t e) u=get e u:=by
    intro e
    induction e with
    |nil=>rfl
    |cons q e ih=>
     obtain⟨v,c⟩:=q;simp only[drop];split
     ·rename_i hv;subst hv;simp only[get];rw[if_neg (λh=>h4 h.symm)];exact ih
     ·simp only[get];rw[ih]
   rw[<-this];exact hu
  rw[<-List.take_append_drop (e.length - env.length) e,cq,h2];split
  ·rename_i c hc;have hm:=VQ hc;have h6:=List.all_eq_true.1 h3 _ hm;simp only[Bool.or_eq_true,beq_iff_eq]at h6;rcases h6 with(h6|h6)|h6
   ·exact absurd h6 h4
   ·exact absurd h6.symm hd
   ·rw[h5]at h6;cases h6
  ·exact h5
def eY(s:Mc)(n:Nat):b5m (b5n × AV × AV × AV):=match cv s,get (run n (br s true)).env (GA s n),get (run n (br s false)).env (GA s n) with
 |some (.v (.bool B)),some (.v (.bool x)),some (.v (.bool y))=>some (B,.v (.bool (bif B then x else y)),.v (.bool x),.v (.bool y))
 |some (.v (.bool B)),some (.v (.int k x)),some (.v (.int _ y))=>some (B,.v (.int k (bif B then x else y)),.v (.int k x),.v (.int k y))
 |some (.v (.bool B)),some (.v (.string x)),some (.v (.string y))=>some (B,.v (.string (bif B then x else y)),.v (.string x),.v (.string y))
 |_,_,_=>none
def et(s:Mc)(n:Nat):AV:=((eY s n).map λp=>p.2.1).getD .nil
def met(s s1:Mc)(n:Nat):b5n:=po (GA s n) (gT s) s1.env s.env&&(match s.pc with|.v _=>true|.s _ _ _ _ _ _=>true|_=>false)
theorem WP{s s1:Mc}{n:Nat}{a:AV}(hk:Ok P f R (jn s n a))(ha:get s1.env (GA s n)=some a)(hb:Dw s1=Dw (jn s n a))(hd:s1.env.drop (s1.env.length - s.env.length)=s.env)(hf:met s s1 n):Ok P f R s1:=by
 obtain⟨pc1,k1,env1,h1⟩:=s1;obtain⟨pc,k,env,h⟩:=s;simp only[Dw,jn,Mc.mk.injEq]at hb;obtain⟨rfl,rfl, -,rfl⟩:=hb;simp only[met,b47]at hf;refine PK (a5c ha hd hf.1) ?_ hk;cases pc with
 |s b L S gl w tl=>by_cases hq:Nat.ble n L.length=true<;>simp[qi,hq]
 |v L=>rfl
 |_=>cases hf.2
theorem KT{V:Prop}(m n:Nat)(hk:Wk P f R (jn (run m s) n (et (run m s) n)) V)(h0:((eY (run m s) n).map λp=>(some p.2.2.1,some p.2.2.2))=some (get (run n (br (run m s) true)).env (GA (run m s) n),get (run n (br (run m s) false)).env (GA (run m s) n)):=by kernel_rfl)(hb:(Dw (run n (br (run m s) true)),Dw (run n (br (run m s) false)))=(Dw (jn (run m s) n .nil),Dw (jn (run m s) n .nil)):=by kernel_rfl)(hd:((run n (br (run m s) true)).env.drop ((run n (br (run m s) true)).env.length - (run m s).env.length),(run n (br (run m s) false)).env.drop ((run n (br (run m s) false)).env.length - (run m s).env.length))=((run m s).env,(run m s).env):=by kernel_rfl)(hf:(met (run m s) (run n (br (run m s) true)) n&&met (run m s) (run n (br (run m s) false)) n):=by kernel_rfl):Wk P f R s V:=λhw=>by
 replace hk:=hk hw
 refine J5 m ?_;generalize run m s=s0 at*;obtain⟨⟨B,a,x,y⟩,h1,h2⟩:=Option.map_eq_some_iff.1 h0;have hV:et s0 n=a:=by unfold et;rw[h1];rfl
 rw[hV]at hk
 have hc:cv s0=some (.v (.bool B))/\a=bif B then x else y:=by
  unfold eY at h1;split at h1
  ·rename_i h _ _;cases h1;exact⟨h,by cases B<;>rfl⟩
  ·rename_i h _ _;cases h1;exact⟨h,by cases B<;>rfl⟩
  ·rename_i h _ _;cases h1;exact⟨h,by cases B<;>rfl⟩
  ·cases h1
 simp only[Prod.mk.injEq]at h2 hb hd;simp only[b47]at hf;refine Qd hc.1 (λhB=>?_) (λhB=>?_)
 ·have ha:=hc.2;rw[hB]at ha;subst ha;exact J5 n (WP hk h2.1.symm hb.1 hd.1 hf.1)
 ·have ha:=hc.2;rw[hB]at ha;subst ha;exact J5 n (WP hk h2.2.symm hb.2 hd.2 hf.2)
theorem KQh(m n:Nat){T:Type}(C:T->AV){B:b5n}{W:T->Prop}{p q:(T->Prop)->Prop}(hk:∀{z},Wk P f R (jn (run m s) n (C z)) (W z))(h1:∀{U:T->Prop},(∀z,Wk P f R (jn (run m s) n (C z)) (U z))->B=true->Wk P f R (br (run m s) true) (p U))(h2:∀{U:T->Prop},(∀z,Wk P f R (jn (run m s) n (C z)) (U z))->B=false->Wk P f R (br (run m s) false) (q U))(hv:cv (run m s)=some (.v (.bool B)):=by kernel_rfl):Wk P f R s (JN W λR=>IF B (p R) (q R)):=λhw=>by
 obtain⟨U,hU,h3,h4⟩:=hw;exact J5 m (Qd hv (λh=>h1 (λz hz=>hk (hU z hz)) h (h3 h)) λh=>h2 (λz hz=>hk (hU z hz)) h (h4 h))
theorem KQ(m n:Nat){T:Type}(C:T->AV){B:b5n}{W:T->Prop}{p q:(T->Prop)->Prop}(hk:∀{z},Wk P f R (jn (run m s) n (C z)) (W z))(h1:∀{U:T->Prop},(∀z,Wk P f R (jn (run m s) n (C z)) (U z))->Wk P f R (br (run m s) true) (p U))(h2:∀{U:T->Prop},(∀z,Wk P f R (jn (run m s) n (C z)) (U z))->Wk P f R (br (run m s) false) (q U))(hv:cv (run m s)=some (.v (.bool B)):=by kernel_rfl):Wk P f R s (JN W λR=>IF B (p R) (q R)):=KQh m n C hk (λk _=>h1 k) (λk _=>h2 k) hv
theorem KE(m:Nat){T:Type}{U:T->Prop}{C:T->AV}{s0:Mc}{n:Nat}{z:T}(key:∀z,Wk P f R (jn s0 n (C z)) (U z))(ha:get (run m s).env (GA s0 n)=some (C z):=by kernel_rfl)(hb:Dw (run m s)=Dw (jn s0 n (C z)):=by kernel_rfl)(hd:(run m s).env.drop ((run m s).env.length - s0.env.length)=s0.env:=by kernel_rfl)(hf:met s0 (run m s) n:=by kernel_rfl):Wk P f R s (U z):=λhw=>J5 m (WP (key z hw) ha hb hd hf)
abbrev kB(b:b5n):AV:=.v (.bool b)
def So(I:b5l Nat)(h:A3):b5l (Nat × b5l AV):=I.map λi=>(i,((h.A5[i]?).bind id).getD [])
def HO(s:Mc)(S:b5l (Nat × b5l AV)):Mc:=match s.pc with
 |.c (.drawn _ a t)=>⟨.s true a S s.h.B0 none t,s.k,s.env,s.h⟩
 |_=>s
def li(s:Mc):b5n:=match s.pc with
 |.c (.drawn o a _)=>AK a&&Hr (clo o) a
 |_=>false
theorem KD{V:Prop}(m:Nat)(I:b5l Nat)(hk:Wk P f R (HO (run m s) (So I (run m s).h)) V)(hc:li (run m s):=by kernel_rfl)(hS:DQ (So I (run m s).h) (run m s).h=(So I (run m s).h).map (λp=>some (some p.2)):=by kernel_rfl):Wk P f R s V:=λhw=>by
 replace hk:=hk hw
 refine J5 m ?_;generalize run m s=s0 at*;obtain⟨pc,k,env,h⟩:=s0;simp only[li]at hc;split at hc
 ·rw[b47]at hc;exact dS _ hk hc.1 hc.2 hS
 ·cases hc
def GH(s:Mc)(S:b5l (Nat × b5l AV)):Mc:=match s.pc with
 |.c (.drawn _ a t)=>⟨.s false (a.take (a.length - 1)) S s.h.B0 a[a.length - 1]? t,s.k,s.env,s.h⟩
 |_=>s
def nC(s:Mc):b5n:=match s.pc with
 |.c (.drawn o a _)=>AK a&&Oo (clo o) a (a.length - 1)&&(match a[a.length - 1]? with|some w=>w.guard.isNone&&w.dst.isNone|none=>false)
 |_=>false
theorem DN{V:Prop}(m:Nat)(I:b5l Nat)(hk:Wk P f R (GH (run m s) (So I (run m s).h)) V)(hc:nC (run m s):=by kernel_rfl)(hS:DQ (So I (run m s).h) (run m s).h=(So I (run m s).h).map (λp=>some (some p.2)):=by kernel_rfl):Wk P f R s V:=λhw=>by
 replace hk:=hk hw
 refine J5 m ?_;generalize run m s=s0 at*;obtain⟨pc,k,env,h⟩:=s0;simp only[nC]at hc;split at hc
 ·rename_i o a t;simp only[b47]at hc;obtain⟨⟨h1,h2⟩,h3⟩:=hc;simp only[GH]at hk;split at h3
  ·rename_i w hwq;rw[hwq]at hk;rw[b47]at h3
   have hlen:a.length=(a.length - 1)+1:=by
    have:=(List.getElem?_eq_some_iff.1 hwq).1;omega
   exact dL (a.length - 1) _ hwq hk hlen (Option.isNone_iff_eq_none.1 h3.1) (Option.isNone_iff_eq_none.1 h3.2) h1 h2 hS
  ·cases h3
 ·cases hc
def DW(s:Mc):AV × A3:=(opn (XF s) s.env s.h).getD (.nil,s.h)
theorem KV{V:Prop}(m:Nat)(hk:Wk P f R (W1 (run m s) (DW (run m s)).1 (DW (run m s)).2) V)(ho:(opn (XF (run m s)) (run m s).env (run m s).h).isSome:=by kernel_rfl)(hc:Bi (run m s):=by kernel_rfl)(hs:EL (run m s) (DW (run m s)).2=BR (run m s):=by kernel_rfl):Wk P f R s V:=λhw=>by
 replace hk:=hk hw
 obtain⟨p,hp⟩:=Option.isSome_iff_exists.1 ho;have hq:DW (run m s)=p:=by unfold DW;rw[hp];rfl
 rw[hq]at hk hs;exact J5 m (Cb (nZ hp) hk hc hs)
def FW:F7->b5l Fr->b5l (Pc × b5l Fr)
 |.seq a b,k=>(.c b,k)::(FW a (.sq b::k)++FW b k)
 |.cond _ a b,k=>FW a k++FW b k
 |.block i a,k=>FW a (.bk i::k)
 |.loop a,k=>(.l a,k)::FW a (.lp a::k)
 |.scope a,k=>match FS a with
  |some l=>(.g l a,k)::FW a (.sc l a::k)
  |none=>FW a (.sn::k)
 |_,_=>[]
def pos(P:Program)(f i:Nat):Pc × b5l Fr:=((FW (BB P f) [])[i]?).getD (.n .normal,[])
def J(P:Program)(f:Nat)(R:Rm)(i:Nat)(e:Env)(h:A3):Prop:=Ok P f R ⟨(pos P f i).1,(pos P f i).2,e,h⟩
def HG(s:Mc):b5n:=match s.pc with
 |.c _=>true
 |.l _=>true
 |.g _ _=>true
 |_=>false
theorem Vs(hc:HG s)(hg:∀(σ:Sg) (a:Act),St σ s.h s.env (BA P f) a->∃σ' h' env',σ'.w=σ.w/\Le σ σ'/\St σ' h' env' (BA P f) a/\Ok P f R ⟨s.pc,s.k,env',h'⟩):Ok P f R s:=by
 obtain⟨pc,k,env,h⟩:=s;cases pc with
 |c x=>exact Sq hg
 |l x=>exact gF hg
 |g l x=>exact l9 hg
 |_=>cases hc
def ES(Z:b5l Nat)(env:Env)(p:Nat × AV):b5m AV:=if Z.contains p.1=true then(get env p.1).map nz else get env p.1
theorem a31{σ:Sg}{h:A3}{env e:Env}{N:Nat}{a:Act}{Z:b5l Nat}(he:e.map (ES Z env)=e.map λp=>some p.2)(hs:St σ h env N a):St σ h e N a:=⟨hs.inv,λt b ht=>by
 obtain⟨i,hi⟩:=List.mem_iff_getElem?.1 (VQ ht);have h1:=congrArg (λl=>l[i]?) he;simp only[b5b,hi,Option.map_some,b5j]at h1;unfold ES at h1;split at h1
 ·obtain⟨c,h2,rfl⟩:=Option.map_eq_some_iff.1 h1;obtain⟨y,h3,h4⟩:=hs.env t c h2;exact⟨y,h3,h4.nz⟩
 ·exact hs.env t b h1,hs.size,hs.defers⟩
theorem dD{e:Env}(Z:b5l Nat)(hc:HG s)(he:e.map (ES Z s.env)=e.map λp=>some p.2)(hk:Ok P f R ⟨s.pc,s.k,e,s.h⟩):Ok P f R s:=Vs hc λσ a hs=>⟨σ,s.h,e,rfl,Le.refl σ,a31 he hs,hk⟩
theorem eU(m:Nat)(Z:b5l Nat){i:Nat}{e:Env}{h:A3}(hp:((run m s).pc,(run m s).k,(run m s).h)=((pos P f i).1,(pos P f i).2,h):=by kernel_rfl)(hc:HG (run m s):=by kernel_rfl)(he:e.map (ES Z (run m s).env)=e.map (λp=>some p.2):=by kernel_rfl):Wk P f R s (J P f R i e h):=λhw=>by
 simp only[Prod.mk.injEq]at hp;refine J5 m (dD Z hc he ?_);rw[hp.1,hp.2.1,hp.2.2];exact hw
theorem KJ(m:Nat){i:Nat}{e:Env}{h:A3}(hp:((run m s).pc,(run m s).k,(run m s).h)=((pos P f i).1,(pos P f i).2,h):=by kernel_rfl)(hc:HG (run m s):=by kernel_rfl)(he:e.map (ES [] (run m s).env)=e.map (λp=>some p.2):=by kernel_rfl):Wk P f R s (J P f R i e h):=eU m [] hp hc he
theorem fJ{V:Prop}{i:Nat}{e:Env}{h:A3}(hw:V)(hk:Wk P f R ⟨(pos P f i).1,(pos P f i).2,e,h⟩ V):J P f R i e h:=hk hw
theorem vE{α:Type}{A B:Prop}(l:b5l α)(h1:l=[]->Wk P f R s A)(h2:l≠[]->Wk P f R s B):Wk P f R s ((l=[]->A)/\(l≠[]->B)):=λhw=>(Classical.em (l=[])).elim (λh=>h1 h (hw.1 h)) λh=>h2 h (hw.2 h)
def Gx(h:A3):b5l b5n:=h.A5.map Option.isSome
theorem D9(m:Nat)(Z:b5l Nat){i:Nat}{e:Env}{h:A3}(hp:((run m s).pc,(run m s).k,K2 (Gx h) (run m s).h.A5,(run m s).h.A9.take h.A9.length,(run m s).h.B0)=((pos P f i).1,(pos P f i).2,h.A5,h.A9,h.B0):=by kernel_rfl)(hc:HG (run m s):=by kernel_rfl)(he:e.map (ES Z (run m s).env)=e.map (λp=>some p.2):=by kernel_rfl)(hm:((List.range R.kb).all (λk=>(Gx h).getD k false)&&Nat.ble R.kf h.A9.length&&M6 h.B0):=by kernel_rfl)(hlow:Y4 (Gx h) h.A9.length e/\S9 (Gx h) h.A9.length h.A5:=by constructor<;>first|rfl|simp[Gx]):Wk P f R s (J P f R i e h):=λhw=>by
 simp only[Prod.mk.injEq]at hp;simp only[b47,b5e,List.mem_range]at hm;refine J5 m (dD Z hc he ?_);generalize run m s=s0 at*;obtain⟨pc,k,env,h0⟩:=s0;obtain⟨h1,h2,h3,h4,h5⟩:=hp;simp only at h1 h2 h3 h4 h5
 have hw':Ok P f R ⟨pc,k,e,⟨K2 (Gx h) h0.A5,h0.A9.take h.A9.length,h0.B0⟩⟩:=by
  rw[h3,h4,h5,h1,h2];exact hw
 have hl2:S9 (Gx h) h.A9.length (K2 (Gx h) h0.A5):=by rw[h3];exact hlow.2
 have hg:M6 h0.B0:=by rw[h5];exact hm.2
 cases pc with
 |c x=>exact xP _ _ hm.1.1 (b5h hm.1.2) hlow.1 hl2 hg hw'
 |l x=>exact yi _ _ hm.1.1 (b5h hm.1.2) hlow.1 hl2 hg hw'
 |g l x=>exact wS _ _ hm.1.1 (b5h hm.1.2) hlow.1 hl2 hg hw'
 |_=>cases hc
theorem KO{V:Prop}(m t sz:Nat)(hk:Wk P f R ⟨(run m s).pc,(run m s).k,(t,.sl [] (.own (run m s).h.A9.length))::(run m s).env,⟨(run m s).h.A5,(run m s).h.A9++[(0,sz)],(run m s).h.B0⟩⟩ V)(hc:HG (run m s):=by kernel_rfl)(hg:get (run m s).env t=some .nil:=by kernel_rfl):Wk P f R s V:=λhw=>J5 m (Vs hc λσ a hs=>by
 obtain⟨σ',h1,h2,h3⟩:=gJ sz hg hs;exact⟨σ',_,_,h1,h2,h3,(hk hw)⟩)
def Z4(s:Mc)(i:Nat):b5l AV:=((s.h.A5[i]?).bind id).getD []
theorem GG{V:Prop}(m i j sz:Nat)(hk:Wk P f R ⟨(run m s).pc,(run m s).k,(run m s).env,⟨(run m s).h.A5.set i (some ((Z4 (run m s) i).set j (.sl [] (.own (run m s).h.A9.length)))),(run m s).h.A9++[(0,sz)],(run m s).h.B0⟩⟩ V)(hc:HG (run m s):=by kernel_rfl)(hg:(run m s).h.A5[i]? =some (some (Z4 (run m s) i)):=by kernel_rfl)(hj:(Z4 (run m s) i)[j]? =some .nil:=by kernel_rfl):Wk P f R s V:=λhw=>J5 m (Vs hc λσ a hs=>by
 obtain⟨σ',h1,h2,h3⟩:=a8k sz hg hj hs;exact⟨σ',_,_,h1,h2,h3,(hk hw)⟩)
theorem AO{V:Prop}(m i j:Nat)(hk:Wk P f R ⟨(run m s).pc,(run m s).k,(run m s).env,⟨(run m s).h.A5.set i (some ((Z4 (run m s) i).set j (L8 (NO (Z4 (run m s) i) j)))),(run m s).h.A9,(run m s).h.B0⟩⟩ V)(hc:HG (run m s):=by kernel_rfl)(hg:(run m s).h.A5[i]? =some (some (Z4 (run m s) i)):=by kernel_rfl)(hj:(Z4 (run m s) i)[j]? =some (NO (Z4 (run m s) i) j):=by kernel_rfl)(hi:(I4 (Z4 (run m s) i)&&I4 ((Z4 (run m s) i).set j (L8 (NO (Z4 (run m s) i) j)))):=by kernel_rfl):Wk P f R s V:=λhw=>by
 replace hk:=hk hw
 rw[b47]at hi;exact J5 m (Vs hc λσ a hs=>⟨σ,_,_,rfl,Le.refl σ,a9v hg hj rfl hi.1 hi.2 hs,hk⟩)
def done(s:Mc):b5n:=match s.pc,s.k with
 |.n .ret,[]=>true
 |.n .normal,[]=>true
 |_,_=>false
theorem PI(hd:done s)(hk:R.Q (DO P f) .ret s.env s.h):Ok P f R s:=by
 obtain⟨pc,k,env,h⟩:=s;simp only[done]at hd;split at hd
 ·exact hk
 ·cases R<;>exact hk
 ·cases hd
theorem KR(m:Nat){T:Type}{e:T->AV}{r r0:T}(hd:done (run m s):=by kernel_rfl)(he:(BF (run m s).env (run m s).h (DO P f)).map (λl=>nz (S7 l))=some (e r0):=by kernel_rfl)(hp:∀r,plain (e r):=by intro;first|rfl|simp):Wk P f (.ret (e r)) s (r=r0):=λhw=>J5 m (PI hd (rx hw (hp r0) he))
theorem H6(m:Nat){T:Type}{gl:b5l (Nat × b5l AV)}{k:Nat}{e:T->AV}{fc:T->b5l AV}{fb:T->b5l (Nat × Nat)}{r r0:T}(hp:∀r,plain (e r)/\(fc r).all ok1/\E0 [true] k (fc r)/\(fb r).length=k)(hd:done (run m s):=by kernel_rfl)(he:(BF (run m s).env (run m s).h (DO P f)).map (λl=>nz (S7 l))=some (e r0):=by kernel_rfl)(hb:(run m s).h.A5[0]? =some (some (Z4 (run m s) 0)):=by kernel_rfl)(hit:I4 (Z4 (run m s) 0):=by kernel_rfl)(hc:(Z4 (run m s) 0).map (K4 0 (some 0))=fc r0:=by kernel_rfl)(hf:(run m s).h.A9.take k=fb r0:=by kernel_rfl)(hg:(run m s).h.B0=gl:=by kernel_rfl):Wk P f (.io gl k (e r) (fc r) (fb r)) s (r=r0):=λhw=>J5 m (PI hd (qt hw ⟨(hp r0).1,(hp r0).2.1,(hp r0).2.2.1⟩ _ he hb hit hc hf hg))
theorem T5(m:Nat){α:Type}(E:En α){r l:b5l α}(hd:done (run m s):=by kernel_rfl)(hr:DO P f=[]:=by kernel_rfl)(hb:(run m s).h.A5[0]? =some (some (cellsOf E.f l)):=by kernel_rfl)(hf:(run m s).h.A9.take 0=[]:=by kernel_rfl)(hg:(run m s).h.B0=[]:=by kernel_rfl):Wk P f (.io [] 0 (.tuple []) (cellsOf E.f r) []) s (l≠[]/\r=l):=λhw=>J5 m (PI hd (by rw[hr];exact b2b E.ro hw hb hf hg))
theorem Oh(h:(P0 P f).isSome):P0 P f=some (BA P f,BB P f,DO P f):=by
 unfold BA BB DO;cases hg:P0 P f with
 |none=>rw[hg]at h;cases h
 |some p=>rfl
def s0(P:Program)(f:Nat)(args:b5l AV)(h:A3):Mc:=⟨.c (BB P f),[],AG 0 args,h⟩
theorem fP{V:Prop}{gl:b5l (Nat × b5l AV)}{args:b5l AV}{r:AV}(hw:V)(hk:Wk P f (.ret r) (s0 P f args ⟨[],[],gl⟩) V)(hf:((P0 P f).isSome&&Nat.ble args.length (BA P f)):=by kernel_rfl):B4 P gl f args r:=by
 rw[b47]at hf;exact b2u (Oh hf.1) (b5h hf.2) rfl (hk hw)
theorem CB{V:Prop}{gl:b5l (Nat × b5l AV)}{k:Nat}{args c:b5l AV}{bf:b5l (Nat × Nat)}{r:AV}{c':b5l AV}{bf':b5l (Nat × Nat)}(hw:V)(hk:Wk P f (.io gl k r c' bf') (s0 P f args ⟨[some c],bf,gl⟩) V)(hb:bf.length=k:=by kernel_rfl)(hf:((P0 P f).isSome&&Nat.ble args.length (BA P f)):=by kernel_rfl)(hpg:M6 gl:=by kernel_rfl):AC P gl f args c bf r c' bf':=by
 rw[b47]at hf;exact sg (Oh hf.1) k hb (b5h hf.2) rfl (hk hw) hpg
theorem Ap{V:Prop}{α:Type}{e:α->b5l AV}{sz len:Nat}{args:b5l AV}{l r:b5l α}(hw:V)(hk:Wk P f (.io [] 0 (.tuple []) (cellsOf e r) []) (s0 P f (.row 0 0 sz len len::args) ⟨[some (cellsOf e l)],[],[]⟩) V)(hf:((P0 P f).isSome&&Nat.ble (AV.row 0 0 sz len len::args).length (BA P f)):=by kernel_rfl):Y8 P e sz f len args l r:=CB hw hk rfl hf
def Sy(s:Mc):b5n:=match s.pc with
 |.v (o::_)=>M4 s.env o.guard==some true
 |_=>false
theorem KN(m:Nat){α:Type}(E:En α){l:b5l α}{c:b5n}{W:b5n->Prop}(hk:∀{b},Wk P f R (put (run m s) (.v (.bool b))) (W b))(hc:Sy (run m s):=by kernel_rfl)(ho:op (run m s)=.eq .slice (!c) (oX (op (run m s))) (oY (op (run m s))):=by kernel_rfl)(hx:Ah (xv (run m s))=some (List.map E.f l):=by kernel_rfl)(hy:yv (run m s)=some .nil:=by kernel_rfl):Wk P f R s (∀b:b5n,(l≠[]->b=c)->W b):=λhw=>by
 refine J5 m ?_;generalize run m s=s0 at*;obtain⟨pc,k,env,h⟩:=s0;obtain⟨tok,hx⟩:=FU hx;cases pc with
 |v L=>
  cases L with
  |nil=>cases hc
  |cons o L=>
   refine .inr (.inr ⟨by simpa[Sy]using hc,λav h'=>(∃b:b5n,av=.v (.bool b)/\(l≠[]->b=c))/\h'=h,λK' hK'=>?_,λav h' hav=>?_⟩)
   ·change o.op=_ at ho;rw[ho];simp only[E9];change wv (xv _) _;rw[hx];simp only[wv];change wv (yv _) _;rw[hy];simp only[wv,Ee];rcases Classical.em (l=[]) with h0|h0
    ·right;subst h0;exact⟨rfl,hK' _ _ ⟨⟨_,rfl,λhn=>absurd rfl hn⟩,rfl⟩,hK' _ _ ⟨⟨_,rfl,λhn=>absurd rfl hn⟩,rfl⟩⟩
    ·left;refine⟨by simpa using h0,hK' _ _ ⟨⟨_,rfl,λ_=>?_⟩,rfl⟩⟩;cases c<;>rfl
   ·obtain⟨⟨b,rfl,hb⟩,rfl⟩:=hav;exact hk (hw b hb)
 |_=>cases hc
theorem Nf{s:Mc}{h:A3}(hs:BR s=none):EL s h=none:=by
 obtain⟨pc,k,env,h⟩:=s;cases pc with
 |s b L S gl w tl=>cases L<;>first|rfl|cases hs
 |_=>rfl
theorem KX(m:Nat){t:b5k}{p:Nat}{A B:Prop}(h1:Wk P f R (W1 (run m s) (.tuple [.v (.bool true),.v (.int .i64 p),.v (.int .i32 (Utf8.decode t p).1)]) ⟨(run m s).h.A5.set (Cc (xv (run m s))) (some [.it t (p+(Utf8.decode t p).2)]),(run m s).h.A9,(run m s).h.B0⟩) A)(h2:Wk P f R (W1 (run m s) (.tuple [.v (.bool false)]) (run m s).h) B)(hc:Bi (run m s):=by kernel_rfl)(ho:op (run m s)=.next (oX (op (run m s))):=by kernel_rfl)(hx:xv (run m s)=some (.ptr (Cc (xv (run m s))) 0):=by kernel_rfl)(hb:(run m s).h.A5[Cc (xv (run m s))]? =some (some [.it t p]):=by kernel_rfl)(hs:BR (run m s)=none:=by kernel_rfl):Wk P f R s ((p<t.size->A)/\(¬p<t.size->B)):=λhw=>by
 have hsn:∀h',EL (run m s) h'=BR (run m s):=λh'=>by rw[hs];exact Nf hs
 rcases Nat.lt_or_ge p t.size with hp|hp
 ·refine J5 m (Cb (λK hk=>?_) (h1 (hw.1 hp)) hc (hsn _));rw[ho];simp only[E9];change wv (xv _) _;rw[hx];simp only[wv,Lu,hb];exact⟨λ_=>hk,λhn=>(hn hp).elim⟩
 ·refine J5 m (Cb (λK hk=>?_) (h2 (hw.2 (Nat.not_lt.2 hp))) hc (hsn _));rw[ho];simp only[E9];change wv (xv _) _;rw[hx];simp only[wv,Lu,hb];exact⟨λhn=>(Nat.not_lt.2 hp hn).elim,λ_=>hk⟩
end
abbrev JP(P:Program)(f:Nat)(r:AV)(i:Nat)(e:Env):Prop:=J P f (.ret r) i e ⟨[],[],[]⟩
section
variable {P:Program}{f:Nat}{R:Rm}{s:Mc}{α:Type}{W:α->Prop}{p:Prop}
theorem DK(m:Nat){g:FuncId}{args:b5l AV}{r:AV}(hk:Wk P f R (put (run m s) r) p)(hc:okS (run m s):=by kernel_rfl)(ho:op (run m s)=.call (.c (.clo (.func g) [] [])) (oA (op (run m s))):=by kernel_rfl)(ha:(evs (run m s).env (oA (op (run m s)))).map (List.map nz)=some args:=by kernel_rfl)(hgl:M6 (Lb (run m s)):=by kernel_rfl)(hp:C3 args:=by first|rfl|simp):Wk P f R s (B4 P [] g args r/\p):=λhw=>KC (W:=λ_:Unit=>p) (e:=λ_=>r) m hk hc ho ha hgl hp ⟨(),hw⟩
def EJ(s:Mc):Nat:=match evs s.env (oA (op s)) with
 |some (.ptr n _::_)=>n
 |some (.row n _ _ _ _::_)=>n
 |_=>0
def Gz(s:Mc):b5l AV:=(evs s.env (oA (op s))).getD []
theorem Q3(m:Nat){g:FuncId}{gl:b5l (Nat × b5l AV)}{small c:b5l AV}{bf:b5l (Nat × Nat)}{e:α->AV}{c':α->b5l AV}{bf':α->b5l (Nat × Nat)}(hp:∀{y:α},c.all ok1/\(c' y).all ok1/\small.all okA/\plain (e y))(hk:∀{y},Wk P f R (W1 (run m s) (e y) ⟨(run m s).h.A5.set (EJ (run m s)) (some ((c' y).map (Aj (EJ (run m s)) none))),(run m s).h.A9,(run m s).h.B0⟩) (W y))(hc:Bi (run m s):=by kernel_rfl)(ho:op (run m s)=.call (.c (.clo (.func g) [] [])) (oA (op (run m s))):=by kernel_rfl)(hb:(bf,bf')=([],λ_=>[]):=by kernel_rfl)(ha:evs (run m s).env (oA (op (run m s)))=some (Gz (run m s)):=by kernel_rfl)(hn:(run m s).h.A5[EJ (run m s)]? =some (some (Z4 (run m s) (EJ (run m s)))):=by kernel_rfl)(hit:I4 (Z4 (run m s) (EJ (run m s))):=by kernel_rfl)(hit':(λy=>I4 (c' y))=(λ_=>true):=by kernel_rfl)(hcc:(Z4 (run m s) (EJ (run m s))).map (K4 (EJ (run m s)) none)=c:=by kernel_rfl)(hargs:(Gz (run m s)).map (BQ (EJ (run m s)) none)=small:=by kernel_rfl)(hg:(run m s).h.B0=gl:=by kernel_rfl)(hgl:M6 gl:=by kernel_rfl)(hs:BR (run m s)=none:=by kernel_rfl):Wk P f R s (∃y,AC P gl g small c bf (e y) (c' y) (bf' y)/\W y):=λhw=>by
 obtain⟨y,h1,hw⟩:=hw;subst hg;simp only[Prod.mk.injEq]at hb;refine J5 m (Cb ?_ (hk hw) hc (by rw[hs];exact Nf hs));rw[ho];exact oI _ none _ _ _ h1 hp (.inl ⟨rfl,hb.1,congrFun hb.2 y,rfl⟩) ha hn hit (congrFun hit' y) hcc hargs rfl hgl
theorem N2(m:Nat)(E:En α){g:FuncId}{len:Nat}{small:b5l AV}{l:b5l α}{W:b5l α->Prop}(hp:small.all okA)(hk:∀{y},Wk P f R (W1 (run m s) (.tuple []) ⟨(run m s).h.A5.set (EJ (run m s)) (some (cellsOf E.f y)),(run m s).h.A9,(run m s).h.B0⟩) (W y))(hc:Bi (run m s):=by kernel_rfl)(ho:op (run m s)=.call (.c (.clo (.func g) [] [])) (oA (op (run m s))):=by kernel_rfl)(ha:evs (run m s).env (oA (op (run m s)))=some (Gz (run m s)):=by kernel_rfl)(hn:(run m s).h.A5[EJ (run m s)]? =some (some (cellsOf E.f l)):=by kernel_rfl)(hargs:(Gz (run m s)).map (BQ (EJ (run m s)) none)=.row 0 0 E.sz len len::small:=by kernel_rfl)(hg:(run m s).h.B0=[]:=by kernel_rfl)(hs:BR (run m s)=none:=by kernel_rfl):Wk P f R s (∃y,Y8 P E.f E.sz g len small l y/\(l≠[]/\y≠[])/\W y):=λhw=>by
 obtain⟨y,h1,h0,hw⟩:=hw;refine J5 m (Cb ?_ (hk hw) hc (by rw[hs];exact Nf hs));rw[ho];exact b3m _ _ E.ro h1 h0 hp ha hn hargs hg
theorem ez(m:Nat)(E:En α){g:FuncId}{l:b5l α}(h0:l≠[])(hk:Wk P f R (W1 (run m s) (.row (run m s).h.A5.length 0 E.sz l.length l.length) ⟨(run m s).h.A5++[some (cellsOf E.f l)],(run m s).h.A9,(run m s).h.B0⟩) p)(hc:Bi (run m s):=by kernel_rfl)(ho:op (run m s)=.call (.c (.clo (.func g) [] [])) (oA (op (run m s))):=by kernel_rfl)(ha:(evs (run m s).env (oA (op (run m s)))).map (List.map nz)=some [.sl (l.map E.f) .no]:=by kernel_rfl)(hs:BR (run m s)=none:=by kernel_rfl):Wk P f R s (Gp P E.f E.sz g l/\p):=λhw=>J5 m (Cb (by rw[ho];exact wK hw.1 E.ro h0 ha) (hk hw.2) hc (by rw[hs];exact Nf hs))
theorem KNB(m:Nat)(E:En α){g:FuncId}{l:b5l α}(hk:Wk P f R (W1 (run m s) (.sl (l.map E.f) (.own (run m s).h.A9.length)) ⟨(run m s).h.A5,(run m s).h.A9++[(l.length,E.sz)],(run m s).h.B0⟩) p)(hc:Bi (run m s):=by kernel_rfl)(ho:op (run m s)=.call (.c (.clo (.func g) [] [])) (oA (op (run m s))):=by kernel_rfl)(ha:(evs (run m s).env (oA (op (run m s)))).map (List.map nz)=some [.sl (l.map E.f) .no]:=by kernel_rfl)(hs:BR (run m s)=none:=by kernel_rfl):Wk P f R s (MW P E.f E.sz g l/\p):=λhw=>J5 m (Cb (by rw[ho];exact vR hw.1 E.ro.hp ha) (hk hw.2) hc (by rw[hs];exact Nf hs))
theorem U4{V:Prop}(m n:Nat)(B:b5n)(C:b5n->AV)(h1:Wk P f R (jn (run m s) n (C true)) V->Wk P f R (br (run m s) true) V)(h2:Wk P f R (jn (run m s) n (C false)) V->Wk P f R (br (run m s) false) V)(hk:Wk P f R (jn (run m s) n (C B)) V)(hv:cv (run m s)=some (.v (.bool B)):=by kernel_rfl):Wk P f R s V:=λhw=>J5 m (Qd hv (λh=>h1 (by rw[h]at hk;exact hk) hw) λh=>h2 (by rw[h]at hk;exact hk) hw)
theorem J0{V:Prop}(m:Nat){a:AV}{s0:Mc}{n:Nat}(key:Wk P f R (jn s0 n a) V)(ha:get (run m s).env (GA s0 n)=some a:=by kernel_rfl)(hb:Dw (run m s)=Dw (jn s0 n a):=by kernel_rfl)(hd:(run m s).env.drop ((run m s).env.length - s0.env.length)=s0.env:=by kernel_rfl)(hf:met s0 (run m s) n:=by kernel_rfl):Wk P f R s V:=λhw=>J5 m (WP (key hw) ha hb hd hf)
def RX(s:Mc):b5n:=match s.pc with
 |.c _=>true
 |_=>false
def cut(e env:Env):Env:=e.map λp=>(p.1,(get env p.1).getD .nil)
theorem Zo{e:Env}(hc:RX s)(he:(cut e s.env).map (ES [] s.env)=(cut e s.env).map λp=>some p.2)(hk:∀x,s.pc=.c x->D P (BA P f) R.kb R.kf x (Qs P f R s.k) (cut e s.env) s.h):Ok P f R s:=by
 refine dD [] ?_ he ?_
 ·obtain⟨pc,k,env,h⟩:=s;cases pc<;>first|rfl|cases hc
 ·obtain⟨pc,k,env,h⟩:=s;cases pc<;>first|exact hk _ rfl|cases hc
theorem er{V:Prop}(m n:Nat)(mk:b5l b5n)(k:Nat)(e:Env)(bs:b5l (b5m (b5l AV)))(hk:Wk P f R ⟨(run m s).pc,(run m s).k,e,⟨bs,(run m s).h.A9.take k,(run m s).h.B0⟩⟩ V)(hc:RX (run m s):=by kernel_rfl)(he:(cut e (run m s).env).map (ES [] (run m s).env)=(cut e (run m s).env).map (λp=>some p.2):=by kernel_rfl)(hb:(run m s).h.A5[n]? =some (some (Z4 (run m s) n)):=by kernel_rfl)(h1:(I4 (Z4 (run m s) n)&& !mk.getD n false&&CP mk (run m s).h.A5&&(List.range R.kb).all (λk=>mk.getD k false)&&Nat.ble R.kf k&&M6 (run m s).h.B0):=by kernel_rfl)(hE:Qv n (Z4 (run m s) n) (cut e (run m s).env)=e:=by kernel_rfl)(hbs:K2 mk (run m s).h.A5=bs:=by kernel_rfl)(hl:Y4 mk k e/\S9 mk k bs:=by constructor<;>first|rfl|simp):Wk P f R s V:=λhw=>by
 replace hk:=hk hw
 simp only[b47,b5e,List.mem_range,b5f]at h1;obtain⟨⟨⟨⟨⟨a1,a2⟩,a3⟩,a4⟩,a5⟩,a6⟩:=h1;refine J5 m (Zo hc he λx hx=>?_);rw[hx]at hk;subst hbs;exact vZ n mk k _ hb a1 a2 a3 a4 (b5h a5) hE hl.1 hl.2 a6 hk
theorem qn(m:Nat)(E:En α)(n:Nat)(mk:b5l b5n)(k c:Nat)(e:Env)(bs:b5l (b5m (b5l AV))){l:b5l α}{len:Nat}(hk:Wk P f R ⟨(run m s).pc,(run m s).k,e,⟨bs,(run m s).h.A9.take k,(run m s).h.B0⟩⟩ p)(hc:RX (run m s):=by kernel_rfl)(he:(cut e (run m s).env).map (ES [] (run m s).env)=(cut e (run m s).env).map (λp=>some p.2):=by kernel_rfl)(hb:(run m s).h.A5[n]? =some (some (cellsOf E.f l)):=by kernel_rfl)(h1:(Nat.ble 1 E.sz&& !mk.getD n false&&CP mk (run m s).h.A5&&(List.range R.kb).all (λk=>mk.getD k false)&&Nat.ble R.kf k&&M6 (run m s).h.B0):=by kernel_rfl)(hr:Db n (cut e (run m s).env)=List.replicate c (0,E.sz,len):=by kernel_rfl)(hE:GQ n (List.map E.f l) (cut e (run m s).env)=e:=by kernel_rfl)(hbs:K2 mk (run m s).h.A5=bs:=by kernel_rfl)(hl:Y4 mk k e/\S9 mk k bs:=by constructor<;>first|rfl|simp):Wk P f R s (l.length=len/\p):=λhw=>by
 simp only[b47,b5e,List.mem_range,b5f]at h1;obtain⟨⟨⟨⟨⟨a1,a2⟩,a3⟩,a4⟩,a5⟩,a6⟩:=h1;refine J5 m (Zo hc he λx hx=>?_);have hk:=hk hw.2;rw[hx]at hk;exact drf n mk k c l len e bs E.ro.hs E.ro.hn hw.1 hl hk hb a1 hr a2 a3 a4 a5 hE hbs a6
theorem qY(m:Nat)(E:En α)(n:Nat)(mk:b5l b5n)(k c c':Nat)(e:Env)(bs:b5l (b5m (b5l AV))){l:b5l α}{len:Nat}(hk:Wk P f R ⟨(run m s).pc,(run m s).k,e,⟨bs,(run m s).h.A9.take k,(run m s).h.B0⟩⟩ p)(hc:RX (run m s):=by kernel_rfl)(he:(cut e (run m s).env).map (ES [] (run m s).env)=(cut e (run m s).env).map (λp=>some p.2):=by kernel_rfl)(hb:(run m s).h.A5[n]? =some (some (cellsOf E.f l)):=by kernel_rfl)(h1:(!mk.getD n false&&CP mk (run m s).h.A5&&(List.range R.kb).all (λk=>mk.getD k false)&&Nat.ble R.kf k&&M6 (run m s).h.B0):=by kernel_rfl)(hr:Db n (cut e (run m s).env)=List.replicate c (0,E.sz,len):=by kernel_rfl)(hr2:Ot n (K2 mk (run m s).h.A5)=List.replicate c' (0,E.sz,len):=by kernel_rfl)(hE:GQ n (List.map E.f l) (cut e (run m s).env)=e:=by kernel_rfl)(hbs:Jd n (List.map E.f l) (K2 mk (run m s).h.A5)=bs:=by kernel_rfl)(hl:Y4 mk k e/\S9 mk k bs:=by constructor<;>first|rfl|simp):Wk P f R s (l.length=len/\p):=λhw=>by
 simp only[b47,b5e,List.mem_range,b5f]at h1;obtain⟨⟨⟨⟨a2,a3⟩,a4⟩,a5⟩,a6⟩:=h1;refine J5 m (Zo hc he λx hx=>?_);have hk:=hk hw.2;rw[hx]at hk;exact uw n mk k c c' l len e bs E.ro.hs E.ro.hn hw.1 hl hk hb hr hr2 a2 a3 a4 a5 hE hbs a6
end
def lI(P:Program)(l:b5l Nat):N1:=l.map λg=>(g,BA P g,BB P g,DO P g)
theorem zq{P:Program}{l:b5l Nat}(h:l.all (λg=>(P0 P g).isSome&& !Mu (BB P g)&&(Gs (BB P g)).isNone)):T4 P (lI P l):=by
 intro g x hm;obtain⟨k,hk,he⟩:=List.mem_map.1 hm;cases he;have h1:=List.all_eq_true.1 h g hk;simp only[b47,b5f,Option.isNone_iff_eq_none]at h1;unfold Wo;simp only[h1.2,h1.1.2,Bool.false_eq_true,if_false];exact Oh h1.1.1
def gN:F7->TypeId
 |.seq _ (.seq _ (.seq (.region [_,_,⟨_,.append e _ _ _ _,_⟩,_]) _))=>e
 |_=>0
def ig(e sz b:Nat):F7:=.seq (.region [o 2 (.mv (.c .nil))]) (.seq (.seq (.region [o 3 (mv 0),o 4 (.eq .slice true (T 3) (.c .nil))]) (.cond (T 4) (.seq (.region [o 2 (.mv (.c .nil))]) .ret) .skip)) (.seq (.region [o 5 (.Ep sz 0 [] []),o 6 (mv 0),o 7 (.append e sz b (T 5) (T 6)),o 2 (mv 7)]) .ret))
theorem bh{P:Program}{sz:Nat}{env:Env}{h:A3}:F3 P (.Ep sz 0 [] []) env h (.sl [] .full) h:=gZ (by simp[Z6,X9,Bf,DJ])
theorem dG{P:Program}{g b:Nat}{α:Type}(E:En α){s:b5l α}(hw:s≠[]/\s.length*b<=140737488355328)(hf:P0 P g=some (8,ig (gN (BB P g)) E.sz b,[.tmp 2]):=by kernel_rfl):Gp P E.f E.sz g s:=by
 refine zi hf rfl rfl (ds (va 1 [] (ve (Ra (ds (va 1 [(3,.sl (List.map E.f s) .no)] (vn rfl s E.f (λbj1 hb0=>?_))))))));refine ve (dkf (hb0 hw.1) ?_);refine UW (ds (vo rfl bh rfl (va 1 [(6,.sl (List.map E.f s) .no)] ?_)));exact vo rfl (zY E.f s hw.1 hw.2 E.ro.hs (by kernel_rfl)) rfl (va 1 [(2,.row 0 0 E.sz s.length s.length)] (ve (No (zx rfl))))
theorem a9p{P:Program}{e0:TypeId}{size byt:Nat}{x y:B9}{env:Env}{h:A3}(hx:x.ev env=some (.sl [] .full):=by kernel_rfl)(hy:y.ev env=some (.sl [] .no):=by kernel_rfl):F3 P (.append e0 size byt x y) env h (.sl [] .full) h:=by
 intro K hk;simp only[E9,hx,hy,wv];refine .inl ?_;simp only[EV,S0];exact⟨by simp,by simp,by simp,λ_=>hk,λh=>absurd rfl h⟩
theorem a6n{P:Program}{g b:Nat}{α:Type}(E:En α){s:b5l α}(hw:s.length*b<=140737488355328)(hf:P0 P g=some (8,ig (gN (BB P g)) E.sz b,[.tmp 2]):=by kernel_rfl):MW P E.f E.sz g s:=by
 refine yd hf rfl rfl (ds (va 1 [] (ve (Ra (ds (va 1 [(3,.sl (List.map E.f s) .no)] (vn rfl s E.f (λbj1 hb0=>?_))))))));refine ve (dw (B:=bj1) (p:=s=[]) (q:=True) ⟨λh=>Classical.byContradiction λhn=>(by rw[hb0 hn]at h;cases h),λ_=>trivial⟩ (λ_ h0=>?_) (λ_ _=>?_))
 ·subst h0;exact ds (va 1 [(2,.nil)] (ve (a11 (t:=2) E.sz (by kernel_rfl) (No (dy rfl)))))
 by_cases h0:s=[]
 ·subst h0;refine UW (ds (vo rfl bh rfl (va 1 [(6,.sl [] .no)] ?_)));exact vo rfl a9p rfl (va 1 [(2,.sl [] .full)] (ve (a6v (t:=2) E.sz (by kernel_rfl) (No (dy rfl)))))
 refine UW (ds (vo rfl bh rfl (va 1 [(6,.sl (List.map E.f s) .no)] ?_)));exact vo rfl (jP E.f ([]:b5l α) s (by simpa using hw) E.ro.hs h0 (by kernel_rfl) (by kernel_rfl)) rfl (va 1 [(2,.sl (List.map E.f (([]:b5l α)++s)) (.own 0))] (ve (No (dy (l2:=([]:b5l α)++s) rfl))))
abbrev Rws:=b5l (Nat × b5l (b5l AV) × Nat)
section
variable {σ:Sg}{h:A3}{m:b5l b5n}{k:Nat}{rs:Rws}
end
section
variable {P:Program}{f:Nat}{R:Rm}{s:Mc}{α β γ:Type}{p:Prop}
theorem ef{V:Prop}(m:Nat){b sz:Nat}(hk:Wk P f R (W1 (run m s) (.sl [] .full) (run m s).h) V)(hc:Bi (run m s):=by kernel_rfl)(hs:EL (run m s) (run m s).h=BR (run m s):=by kernel_rfl)(ho:op (run m s)=.append (oE (op (run m s))) sz b (oX (op (run m s))) (oY (op (run m s))):=by kernel_rfl)(hx:xv (run m s)=some (.sl [] .full):=by kernel_rfl)(hy:yv (run m s)=some (.sl [] .no):=by kernel_rfl):Wk P f R s V:=λhw=>J5 m (Cb (by
 rw[ho];intro K hk1;have hx':(oX (op (run m s))).ev (run m s).env=some (.sl [] .full):=hx;have hy':(oY (op (run m s))).ev (run m s).env=some (.sl [] .no):=hy;simp only[E9,hx',hy',wv];refine .inl ?_;simp only[EV,S0];exact⟨by simp,by simp,by simp,λ_=>hk1,λh=>absurd rfl h⟩) (hk hw) hc hs)
end
section
variable {P:Program}{f:Nat}{R:Rm}{s:Mc}{p:Prop}
theorem KIl{V:Prop}(m:Nat)(g:FuncId)(hk:Wk P g (.inl (run m s).h.A5.length (run m s).h.A9.length λav h'=>Ok P f R (W1 (run m s) av h')) ⟨.c (BB P g),[],AG 0 (Gz (run m s)),(run m s).h⟩ V)(hc:Sy (run m s):=by kernel_rfl)(ho:op (run m s)=.call (.c (.clo (.func g) [] [])) (oA (op (run m s))):=by kernel_rfl)(ha:evs (run m s).env (oA (op (run m s)))=some (Gz (run m s)):=by kernel_rfl)(hf:((P0 P g).isSome&&Nat.ble (Gz (run m s)).length (BA P g)):=by kernel_rfl):Wk P f R s V:=λhw=>by
 rw[b47]at hf
 replace hk:=hk hw
 refine J5 m ?_;generalize Gz (run m s)=args at*;generalize run m s=s0 at*;obtain⟨pc,k,env,h⟩:=s0;cases pc with
 |v L=>
  cases L with
  |nil=>cases hc
  |cons o L=>
   refine .inr (.inr ⟨by simpa[Sy]using hc,λav h'=>Ok P f R (W1 ⟨.v (o::L),k,env,h⟩ av h'),λK' hK'=>?_,λav h' hav=>hav⟩);change o.op=_ at ho;rw[ho]
   have hcall:AF P g args h K':=by
    refine⟨OX (Oh hf.1),λσ cargs hi hr=>?_⟩
    have hb:L4 P (BA P g) (BB P g) (Gh (DO P g) K') (AG 0 args) h:=by
     refine Ob (OI (Nat.le_refl _) (Nat.le_refl _) hk) λe env h hq=>?_
     cases e<;>first|exact hq.elim|exact gS (λl=>hK' _ _) hq
    exact Nl (Oh hf.1) (b5h hf.2) hb σ cargs hi hr
   exact(Or rfl ha hcall).out
 |_=>cases hc
theorem Bh(m:Nat){α:Type}(E:En α){l l2:b5l α}{b:Nat}(h0:l2=[])(hm:HM (run m s).h (yv (run m s)) E l2)(hX:HX (xv (run m s)) E l)(hk:Wk P f R (W1 (run m s) (.sl (List.map E.f l) .full) (run m s).h) p)(hc:Bi (run m s):=by kernel_rfl)(hs:EL (run m s) (run m s).h=BR (run m s):=by kernel_rfl)(ho:op (run m s)=.append (oE (op (run m s))) E.sz b (oX (op (run m s))) (oY (op (run m s))):=by kernel_rfl)(hx:af (xv (run m s))=some .full:=by kernel_rfl):Wk P f R s (l.length*b<=140737488355328/\p):=λhw=>by
 replace hk:=hk hw.2
 refine J5 m (Cb (λK hK=>?_) hk hc hs);clear hs hk;generalize run m s=s0 at*;obtain⟨Y,h1,h2⟩:=Option.bind_eq_some_iff.1 hm;obtain⟨tok,h3⟩:=FU hX;rw[h3]at hx;cases hx;rw[ho];simp only[E9];change wv (xv s0) _;rw[h3];change wv (yv s0) _;rw[h1];refine .inl ?_;subst h0;simp only[EV,h2];exact⟨by simp,λel hel=>by obtain⟨y,_,rfl⟩:=List.mem_map.1 hel;exact E.ro.hs y,by simpa using hw.1,λ_=>hK,λh=>absurd rfl h⟩
def cT(s:Mc)(P:Program)(g:Nat):AV:=S7 ((BF s.env s.h (DO P g)).getD [])
theorem Wx{V:Prop}(m:Nat){kb kf:Nat}{K:AV->A3->Prop}(hk:V->K (cT (run m s) P f) (run m s).h)(hd:done (run m s):=by kernel_rfl)(he:(BF (run m s).env (run m s).h (DO P f)).isSome:=by kernel_rfl):Wk P f (.inl kb kf K) s V:=λhw=>by
 replace hk:=hk hw
 refine J5 m (PI hd ?_);obtain⟨l,hl⟩:=Option.isSome_iff_exists.1 he
 have hk':K (S7 l) (run m s).h:=by
  have:cT (run m s) P f=S7 l:=by unfold cT;rw[hl];rfl
  rw[<-this];exact hk
 exact Ey (K:=λl=>K (S7 l) (run m s).h) hl hk'
end
def LC(ord:b5l (b5l Nat))(al:b5l C2)(n:Nat):b5n:=
 (ord.getD (n+1) []).contains n&&(List.range n).all λi=>match al[i]? with
  |some o=> !Fd o&&((Dy o.op&& !Bc o)||((ord.getD n []).contains i&&(ord.getD (n+1) []).contains i))
  |none=>false
theorem bW{ord:b5l (b5l Nat)}{al:b5l C2}{n i:Nat}{o:C2}(h:LC ord al n)(hi:i<n)(ho:al[i]? =some o):Fd o=false/\((Dy o.op=true/\Bc o=false)\/(i∈ord.getD n []/\i∈ord.getD (n+1) [])):=by
 simp only[LC,b47,b5e,List.mem_range]at h;have:=h.2 i hi;rw[ho]at this;simpa[b47,Bool.or_eq_true]using this
theorem a71{P:Program}{I:A3->Prop}{ord:b5l (b5l Nat)}{al:b5l C2}{w1 w2:C2}{n:Nat}{env:Env}{h:A3}{K K0:Env->A3->Prop}(hn:al.length=n+2)(hw1:al[n]? =some w1)(hw2:al[n+1]? =some w2)(hg1:w1.guard=none)(hg2:w2.guard=none)(hd1:w1.dst=none)(hd2:w2.dst=none)(hok:AK al)(hst:LC ord al n)(hI:∀h2:A3,(∃ext,h2.A5=h.A5++ext)->h2.A9=h.A9->h2.B0=h.B0->I h2)(hv:vs P I true (al.take n) env h K0)(hK:∀F h0,K0 F h0->∃a1 h1,F3 P w1.op F h0 a1 h1/\∃a2 h2,F3 P w2.op F h1 a2 h2/\K F h2):∃F h' az hs fl,Md P ord al env F h h' az hs fl/\K F h':=by
 have hal:al=al.take n++[w1,w2]:=by
  have h1:=List.take_append_drop n al
  have h2:al.drop n=[w1,w2]:=by
   rw[b5c (by omega),b5c (by omega),b5d (by omega)];have e1:=b48 (show n<al.length by omega);have e2:=b48 (show n+1<al.length by omega);rw[hw1]at e1;rw[hw2]at e2;cases e1;cases e2;rfl
  rw[h2]at h1;exact h1.symm
 have hlen:(al.take n).length=n:=by simp;omega
 obtain⟨F,az,hs,fl,h0,ps,hk0,_⟩:=IZ (i0:=0) (j:=0) (gz (b:=[w1,w2]) (by rw[<-hal];exact hok)) hv;obtain⟨a1,h1,hdo1,a2,h2,hdo2,hk⟩:=hK F h0 hk0;have hget:∀i,i<n->∃o,al[i]? =some o/\(al.take n)[i]? =some o:=λi hi=>⟨al[i],b48 (by omega),by rw[List.getElem?_take,if_pos hi];exact b48 (by omega)⟩
 have hflen:fl.length=n:=by rw[ps.len,hlen]
 have hnone:∀i,i<n->fl[i]? =some none:=by
  intro i hi;have e:fl[i]? =some fl[i]:=b48 (by omega);cases hf:fl[i]with
  |none=>rw[e,hf]
  |some m=>
   rw[hf]at e;obtain⟨o,g1,g2⟩:=hget i hi;obtain⟨g3,g4⟩:=ps.DW i m o e g2;have g5:=(bW hst hi g1).1;unfold Fd at g5;rw[g3,g4]at g5;cases g5
 obtain⟨m,hm1,hm2⟩:=ps.last
 have hone:m=0:=by
  rcases Nat.eq_zero_or_pos m with g1|g1
  ·exact g1
  ·obtain⟨i,hi⟩:=ps.onto 0 (Nat.zero_le _) (by omega);have hlt:i<n:=by rw[<-hflen];exact(List.getElem?_eq_some_iff.1 hi).1
   rw[hnone i hlt]at hi;cases hi
 subst hone;have hf0:=ps.first;rw[hm2]at hf0
 have h00:h0=hA h az λ_=>true:=by
  have:=Option.some.inj hf0;rw[this];simp[hA]
 have hpos:∀(q:Nat) (p:Nat × b5l AV),az[q]? =some p->p.1<n/\∃o,al[p.1]? =some o/\Bc o/\o.op=.alloc p.2/\o.guard=none/\∀d,o.dst=some d->get F d=some (.ptr (h.A5.length+q) 0):=by
  intro q p hqp;obtain⟨i,o,e1,e2,e3,e4,e5,e6⟩:=ps.pos q p hqp;have e7:p.1=i:=by omega
  have hlt:i<n:=by rw[<-hlen];exact(List.getElem?_eq_some_iff.1 e2).1
  obtain⟨o',g1,g2⟩:=hget i hlt;rw[e2]at g2;cases g2;rw[e7];exact⟨hlt,o,g1,by unfold Bc;rw[e3,e4],e3,e4,e6⟩
 have hfl:∀i x,(fl++[some 0,some 1])[i]? =some x->(i<n/\x=none)\/(i=n/\x=some 0)\/(i=n+1/\x=some 1):=by
  intro i x hx;rcases Nat.lt_or_ge i n with g1|g1
  ·rw[b49 (by omega),hnone i g1]at hx;cases hx;exact .inl ⟨g1,rfl⟩
  ·rw[b5a (by omega),hflen]at hx
   match hj:i - n with
   |0=>rw[hj]at hx;cases hx;exact .inr (.inl ⟨by omega,rfl⟩)
   |1=>rw[hj]at hx;cases hx;exact .inr (.inr ⟨by omega,rfl⟩)
   |k+2=>rw[hj]at hx;simp at hx
 have hl1:(fl++[some 0,some 1])[n]? =some (some 0):=by rw[b5a (by omega),hflen,Nat.sub_self];rfl
 have hl2:(fl++[some 0,some 1])[n+1]? =some (some 1):=by rw[b5a (by omega),hflen,show n+1 - n=1 by omega];rfl
 have h12:n∈ord.getD (n+1) []:=by
  simp only[LC,b47]at hst;simpa using hst.1
 refine⟨F,h2,az,[h0,h1,h2],fl++[some 0,some 1],?_,hk⟩;refine⟨by simp[hflen,hn],λi k a b hik hi hk=>?_,λj hj=>?_,by rw[h00];rfl,⟨2,rfl,rfl⟩,λi x hi=>?_,λt ht=>?_,λq p hq=>?_,λq r p s hqp hrs hps=>?_,λk x hk p hp=>?_,λi o x hi hx=>?_⟩
 ·rcases hfl i _ hi with⟨_,g1⟩|⟨g1,g2⟩|⟨g1,g2⟩
  ·cases g1
  ·rcases hfl k _ hk with⟨_,g3⟩|⟨g3,g4⟩|⟨g3,g4⟩
   ·cases g3
   ·omega
   ·cases g2;cases g4;subst g1 g3;exact⟨by omega,h12⟩
  ·rcases hfl k _ hk with⟨_,g3⟩|⟨g3,g4⟩|⟨g3,g4⟩
   ·cases g3
   ·omega
   ·omega
 ·match j,hj with
  |0,_=>exact⟨n,hl1⟩
  |1,_=>exact⟨n+1,hl2⟩
  |j+2,hj=>exact absurd (show j+2+1<3 from hj) (by omega)
 ·rcases hfl i _ hi with⟨_,g1⟩|⟨_,g1⟩|⟨_,g1⟩
  ·cases g1
  ·cases g1;simp
  ·cases g1;simp
 ·refine ps.keep t ?_;rw[hal]at ht;simp only[I2,List.any_append,Bool.or_eq_false_iff]at ht ⊢;exact ht.1
 ·obtain⟨e0,o,e1,_,e2,e3,e4⟩:=hpos q p hq;exact⟨o,e1,e2,e3,by rw[b49 (by omega)];exact hnone _ e0,e4⟩
 ·rcases Nat.lt_trichotomy q r with hlt|heq|hgt
  ·have:=ps.NN q r p s hlt hqp hrs;omega
  ·exact heq
  ·have:=ps.NN r q s p hgt hrs hqp;omega
 ·obtain⟨q,hq⟩:=List.mem_iff_getElem?.1 hp;obtain⟨e0,o,e1,e2,_⟩:=hpos q p hq;rcases (bW hst e0 e1).2 with⟨_,g1⟩|⟨g1,g2⟩
  ·rw[e2]at g1;cases g1
  ·rcases hfl k _ hk with⟨_,g3⟩|⟨g3,_⟩|⟨g3,_⟩
   ·cases g3
   ·subst g3;exact g1
   ·subst g3;exact g2
 ·rcases hfl i _ hx with⟨g1,rfl⟩|⟨rfl,rfl⟩|⟨rfl,rfl⟩
  ·obtain⟨o',e1,e2⟩:=hget i g1;rw[hi]at e1;cases e1;rcases ps.fact i o none e2 (hnone i g1) with⟨q,p,e3,e4⟩|hf
   ·exact .inl ⟨q,p,e3,by omega⟩
   right;have hIA:∀lst,I (hA h az lst):=λlst=>hI _ ⟨_,rfl⟩ rfl rfl
   have conv:Lq P I F hs 0 o none->Mm P F h az [h0,h1,h2] ord (fl++[some 0,some 1]) i o none:=by
    rintro⟨a,hqa,hfd⟩;rcases (bW hst g1 hi).2 with⟨hp,_⟩|⟨hp,_⟩
    ·exact⟨a,0,2,by simp,λj lst hj _ _ _=>Wc hp (hqa _ (hIA λ_=>true)),λk x _ hx=>by omega,.inl (by simp),hfd⟩
    ·refine⟨a,0,0,by simp,λj lst hj g3 g4 g5=>?_,λk x _ hx=>by omega,.inr ⟨n,hl1,hp⟩,hfd⟩;have:j=0:=by omega
     subst this;have g6:hA h az lst=hj:=Option.some.inj g5;rw[<-g6];exact hqa _ (hIA lst)
   unfold Gk;unfold Mi at hf;cases hgd:o.guard with
   |none=>rw[hgd]at hf;exact conv hf
   |some g=>
    obtain⟨t,want⟩:=g;rw[hgd]at hf;rcases hf with⟨b,k1,k2,k3⟩|hf
    ·exact .inl ⟨b,k1,λhb=>conv (k2 hb),k3⟩
    ·exact .inr hf
  ·rw[hw1]at hi;cases hi;right;unfold Gk;rw[hg1];simp only;exact⟨a1,h0,h1,rfl,rfl,hdo1 _ ⟨rfl,rfl⟩,λd hd'=>by rw[hd1]at hd';cases hd'⟩
  ·rw[hw2]at hi;cases hi;right;unfold Gk;rw[hg2];simp only;exact⟨a2,h1,h2,rfl,rfl,hdo2 _ ⟨rfl,rfl⟩,λd hd'=>by rw[hd2]at hd';cases hd'⟩
def Sl:I7->b5n
 |.store _ _ _=>true
 |_=>false
theorem zm{P:Program}{o:I7}(ho:Sl o){env:Env}{h:A3}{S:AV->A3->Prop}(hs:E9 P o env h S):∃h',F3 P o env h (.tuple []) h'/\S (.tuple []) h':=by
 unfold Sl at ho;split at ho
 ·rename_i n p x;simp only[E9]at hs;cases hp:p.ev env with
  |none=>rw[hp]at hs;exact hs.elim
  |some pv=>
   cases hx:x.ev env with
   |none=>rw[hp,hx]at hs;exact hs.elim
   |some xv=>
    rw[hp,hx]at hs;have hs:Da h n pv xv λh'=>S (.tuple []) h':=hs
    have key:∀K:AV->A3->Prop,E9 P (.store n p x) env h K=Da h n pv xv λh'=>K (.tuple []) h':=λK=>by simp only[E9,hp,hx,wv]
    unfold Da at hs;split at hs
    ·split at hs
     ·rename_i cells hc;rcases hs with⟨h1,h2⟩|⟨h1,h2⟩
      ·refine⟨_,λK hK=>?_,h2⟩;rw[key];unfold Da;simp only[hc];exact .inl ⟨h1,hK⟩
      ·refine⟨_,λK hK=>?_,h2⟩;rw[key];unfold Da;simp only[hc];exact .inr ⟨h1,hK⟩
     ·exact hs.elim
    ·exact hs.elim
 ·cases ho
theorem dM{P:Program}{N kb kf:Nat}{Q:Exit->Env->A3->Prop}{env:Env}{h:A3}(n:Nat)(S:b5l (Nat × b5l AV)){ord:b5l (b5l Nat)}{al tl:b5l C2}{w1 w2:C2}(hw1:al[n]? =some w1)(hw2:al[n+1]? =some w2)(hv:Sp P S h.B0 true (al.take n) 0 env h λF h0=>∃av h',F3 P w1.op F h0 av h'/\vd P (w2::tl) F h' λenv' h''=>Q .normal env' h'')(hn:al.length=n+2)(hg1:w1.guard=none)(hg2:w2.guard=none)(hd1:w1.dst=none)(hd2:w2.dst=none)(h2s:Sl w2.op)(hok:AK al)(hst:LC (clo ord) al n)(hS:DQ S h=S.map (λp=>some (some p.2))):D P N kb kf (.drawn ord al tl) Q env h:=by
 have hI:∀h2:A3,(∃ext,h2.A5=h.A5++ext)->h2.A9=h.A9->h2.B0=h.B0->DT S h.B0 h2:=by
  intro h2 ⟨ext,he⟩ _ hg;refine⟨λb c hbc=>?_,hg⟩;have h3:=(TX hS rfl).1 b c hbc;rw[he,b49 (List.getElem?_eq_some_iff.1 h3).1];exact h3
 obtain⟨F,h',az,hs,fl,hn',hk⟩:=a71 (I:=DT S h.B0) (K:=λF h'=>vd P tl F h' λenv' h''=>Q .normal env' h'') hn hw1 hw2 hg1 hg2 hd1 hd2 hok hst hI hv λF h0 ⟨a1,h1,hdo,hvd⟩=>by
  refine⟨a1,h1,hdo,?_⟩;rcases hvd with⟨hg,_⟩|⟨_,av,h',hd,hv⟩|⟨_,S,hd,hv⟩
  ·rw[hg2]at hg;cases hg
  ·exact⟨av,h',hd,by rw[hd2]at hv;exact hv⟩
  ·obtain⟨h',hd',hs'⟩:=zm h2s (hd S λ_ _ h=>h);have:=hv _ _ hs';rw[hd2]at this;exact⟨_,h',hd',this⟩
 exact Ff ⟨ZR hn' (It hk)⟩
def DU(s:Mc)(S:b5l (Nat × b5l AV)):Mc:=match s.pc with
 |.c (.drawn _ a t)=>⟨.s true (a.take (a.length - 2)) S s.h.B0 a[a.length - 2]? (a.drop (a.length - 1)++t),s.k,s.env,s.h⟩
 |_=>s
def cJ(w:C2):b5n:=w.guard.isNone&&w.dst.isNone
def kG(s:Mc):b5n:=match s.pc with
 |.c (.drawn o a _)=>AK a&&LC (clo o) a (a.length - 2)&&Nat.ble 2 a.length&&(match a[a.length - 2]? with|some w=>cJ w|none=>false)&&(match a[a.length - 1]? with|some w=>cJ w&&Sl w.op|none=>false)
 |_=>false
section
variable {P:Program}{f:Nat}{R:Rm}{s:Mc}
theorem qs{V:Prop}(m:Nat)(I:b5l Nat)(hk:Wk P f R (DU (run m s) (So I (run m s).h)) V)(hc:kG (run m s):=by kernel_rfl)(hS:DQ (So I (run m s).h) (run m s).h=(So I (run m s).h).map (λp=>some (some p.2)):=by kernel_rfl):Wk P f R s V:=λhw=>by
 replace hk:=hk hw
 refine J5 m ?_;generalize run m s=s0 at*;obtain⟨pc,k,env,h⟩:=s0;simp only[kG]at hc;split at hc
 ·rename_i o a t;simp only[b47]at hc;obtain⟨⟨⟨⟨h1,h2⟩,h3⟩,h4⟩,h5⟩:=hc;have h3:=b5h h3;simp only[DU]at hk;split at h4
  ·rename_i w1 hw1;split at h5
   ·rename_i w2 hw2;simp only[cJ,b47]at h4 h5;obtain⟨⟨h5,h6⟩,h7⟩:=h5;rw[hw1]at hk
    have e:a.drop (a.length - 1)=[w2]:=by
     rw[b5c (by omega),b5d (by omega)];have:=b48 (show a.length - 1<a.length by omega);rw[hw2]at this;cases this;rfl
    rw[e]at hk;have e2:a.length - 2+1=a.length - 1:=by omega
    exact dM (a.length - 2) _ hw1 (by rw[e2];exact hw2) hk (by omega) (Option.isNone_iff_eq_none.1 h4.1) (Option.isNone_iff_eq_none.1 h5) (Option.isNone_iff_eq_none.1 h4.2) (Option.isNone_iff_eq_none.1 h6) h7 h1 h2 hS
   ·cases h5
  ·cases h4
 ·cases hc
theorem KRL(m:Nat){α:Type}(E:En α){e:b5l α->AV}{r l:b5l α}(hd:done (run m s):=by kernel_rfl)(he:(BF (run m s).env (run m s).h (DO P f)).map (λl=>nz (S7 l))=some (.sl (List.map E.e l) .no):=by kernel_rfl)(hE:∀l,e l=.sl (List.map E.f l) .no:=by intro;rfl)(hp:∀r,plain (e r):=by intro;first|rfl|simp):Wk P f (.ret (e r)) s (r=l):=λhw=>J5 m (PI hd (rx hw (hp l) (by
 rw[he,hE]
 congr 2
 exact List.map_congr_left λy _=>(E.eq y).symm)))
end
section
open Go.RowKit Go.ChangeShapes Go.WideShapes Go.ChangeAt
theorem SQ{α:Type}{P:Nat->α->Prop}:∀n:Nat,(∀i,i<n->∃x,P i x)->∃xs:b5l α,xs.length=n/\∀(i:Nat) x,xs[i]? =some x->P i x
 |0,_=>⟨[],rfl,λi x h=>by simp at h⟩
 |n+1,h=>by
  obtain⟨xs,hl,hx⟩:=SQ n (λi hi=>h i (by omega));obtain⟨y,hy⟩:=h n (by omega);refine⟨xs++[y],by simp[hl],λi x hi=>?_⟩
  by_cases hin:i<n
  ·rw[b49 (by omega)]at hi;exact hx i x hi
  ·rw[b5a (by omega)]at hi
   by_cases e:i=n
   ·subst e;rw[hl]at hi;simp at hi;subst hi;exact hy
   ·rw[List.getElem?_eq_none (by simp;omega)]at hi;cases hi
def Ty(P:Program):Nat->TypeId->b5l AV->Prop
 |0,_,_=>False
 |n+1,t,avs=>match P.underlying t with
  |some (.int k)=>∃m,avs=[.v (.int k m)]/\(Lit.int k m).wf=true
  |some .bool=>∃b,avs=[.v (.bool b)]
  |some .string=>∃s,avs=[.v (.string s)]/\s.size<=140737488351232
  |some (.slice e)=>∃els:b5l (b5l AV),avs=[.sl els .no]/\els.length*P.bytesOf e<=140737488351232/\∀el∈els,Ty P n e el
  |some (.struct fs)=>∃parts:b5l (b5l AV),avs=parts.flatten/\parts.length=fs.size/\∀(i:Nat) (f:Field),fs[i]? =some f->∃p,parts[i]? =some p/\Ty P n f.type p
  |some (.array k e)=>∃parts:b5l (b5l AV),avs=parts.flatten/\parts.length=k/\∀p∈parts,Ty P n e p
  |_=>False
def OQ(P:Program):Nat->b5l Field->Nat->b5n
 |off,[],tot=>off==tot
 |off,f::fs,tot=>f.offset==off&&OQ P (off+P.cellsOf f.type) fs tot
def eX(P:Program)(ts:b5l TypeId)(t:TypeId):b5n:=
 match P.underlying t with
 |some (.int _)|some .bool|some .string=>true
 |some (.slice e)=>ts.contains e&&decide (0<P.cellsOf e)&&decide (1<=P.bytesOf e)
 |some (.struct fs)=>fs.toList.all (λf=>ts.contains f.type)&&OQ P 0 fs.toList (P.cellsOf t)
 |some (.array k e)=>ts.contains e&&decide (k*P.cellsOf e=P.cellsOf t)
 |_=>false
def Yt(P:Program)(ts:b5l TypeId):b5n:=ts.all (eX P ts)
def FA:Nat->Nat->Prop:=λ_ _=>False
section
variable {H:Type}{enc:TypeId × Value->H}{P:Program}{W:World}{base:Nat}{spare:Nat->b5n}{held:b5n}
def Z5(P:Program)(t:TypeId)(d:DataW H):Prop:=∀x∈DataW.weights P t d,x<=140737488351232
theorem gC:∀(ts:b5l TypeId) (ds:b5l (DataW H)) (i:Nat) (t:TypeId) (d:DataW H),ts[i]? =some t->ds[i]? =some d->∀x∈DataW.weights P t d,x∈DataW.weightsEach P ts ds
 |[],_,i,_,_,h,_,_,_=>by simp at h
 |_::_,[],i,_,_,_,h,_,_=>by simp at h
 |t'::ts,d'::ds,0,t,d,h1,h2,x,hx=>by
  simp at h1 h2;subst h1;subst h2;simp only[DataW.weightsEach,List.mem_append];exact .inl hx
 |t'::ts,d'::ds,i+1,t,d,h1,h2,x,hx=>by
  simp only[DataW.weightsEach,List.mem_append];exact .inr (gC ts ds i t d (by simpa using h1) (by simpa using h2) x hx)
theorem am(e:TypeId):∀(ds:b5l (DataW H)) (i:Nat) (d:DataW H),ds[i]? =some d->∀x∈DataW.weights P e d,x∈DataW.weightsAll P e ds
 |[],i,_,h,_,_=>by simp at h
 |d'::ds,0,d,h2,x,hx=>by
  simp at h2;subst h2;simp only[DataW.weightsAll,List.mem_append];exact .inl hx
 |d'::ds,i+1,d,h2,x,hx=>by
  simp only[DataW.weightsAll,List.mem_append];exact .inr (am e ds i d (by simpa using h2) x hx)
theorem Z5.part{t:TypeId}{fs:Array Field}{ps:b5l (DataW H)}(ht:P.underlying t=some (.struct fs))(h:Z5 P t (.agg ps)){i:Nat}{f:Field}{d:DataW H}(hf:fs[i]? =some f)(hd:ps[i]? =some d):Z5 P f.type d:=by
 intro x hx;refine h x ?_;simp only[DataW.weights,ht];exact gC _ _ i f.type d (by simp[hf]) hd x hx
theorem Z5.elem{t e:TypeId}{es sp:b5l (DataW H)}(ht:P.underlying t=some (.slice e))(h:Z5 P t (.slice es sp)){i:Nat}{d:DataW H}(hd:es[i]? =some d):Z5 P e d:=by
 intro x hx;refine h x ?_;simp only[DataW.weights,ht,List.mem_cons,List.mem_append];exact .inr (.inl (am e es i d hd x hx))
theorem Z5.short{t e:TypeId}{es sp:b5l (DataW H)}(ht:P.underlying t=some (.slice e))(h:Z5 P t (.slice es sp)):es.length*P.bytesOf e<=140737488351232:=by
 have:=h ((es.length+sp.length)*P.bytesOf e) (by simp only[DataW.weights,ht,List.mem_cons,true_or]);rw[Nat.add_mul]at this;omega
theorem Z5.at_{t e:TypeId}{k:Nat}{ps:b5l (DataW H)}(ht:P.underlying t=some (.array k e))(h:Z5 P t (.agg ps)){i:Nat}{d:DataW H}(hd:ps[i]? =some d):Z5 P e d:=by
 intro x hx;refine h x ?_;simp only[DataW.weights,ht];exact am e ps i d hd x hx
theorem nX(σ:Sg):∀(fs:b5l Field) (off tot:Nat) (cs:b5l Value) (parts:b5l (b5l AV)),OQ P off fs tot->cs.length=tot->parts.length=fs.length->
  (∀(i:Nat) (f:Field) (p:b5l AV),fs[i]? =some f->parts[i]? =some p->D3 σ p ((cs.drop f.offset).take (P.cellsOf f.type)))->D3 σ parts.flatten (cs.drop off)
 |[],off,tot,cs,parts,hc,hl,hp,_=>by
  simp only[OQ,beq_iff_eq]at hc;have:parts=[]:=List.eq_nil_of_length_eq_zero (by simpa using hp);subst this;rw[List.drop_of_length_le (by omega)];exact D3.nil σ
 |f::fs,off,tot,cs,[],hc,hl,hp,_=>by simp at hp
 |f::fs,off,tot,cs,p::parts,hc,hl,hp,h=>by
  simp only[OQ,b47,beq_iff_eq]at hc;obtain⟨h1,h2⟩:=hc;have h3:=h 0 f p rfl rfl;have h4:=nX σ fs (off+P.cellsOf f.type) tot cs parts h2 hl (by simpa using hp) (λi g q hg hq=>h (i+1) g q (by simpa using hg) (by simpa using hq));have:=h3.append h4;rw[h1,<-List.drop_drop,List.take_append_drop]at this;simpa using this
theorem mQ(σ:Sg)(k:Nat):∀(parts:b5l (b5l AV)) (cs:b5l Value),cs.length=parts.length*k->
  (∀(i:Nat) (p:b5l AV),parts[i]? =some p->D3 σ p ((cs.drop (i*k)).take k))->D3 σ parts.flatten cs
 |[],cs,hl,_=>by
  have:cs=[]:=List.eq_nil_of_length_eq_zero (by simpa using hl);subst this;exact D3.nil σ
 |p::parts,cs,hl,h=>by
  have h3:=h 0 p rfl;rw[List.length_cons,Nat.add_mul]at hl
  have h4:=mQ σ k parts (cs.drop k) (by simp;omega) (λi q hq=>by
   have:=h (i+1) q (by simpa using hq);rw[List.drop_drop,show k+i*k=(i+1)*k by rw[Nat.add_mul];omega];exact this)
  have:=h3.append h4;simp only[Nat.zero_mul,List.drop_zero,List.take_append_drop]at this;simpa using this
theorem Rj{a b:b5l AV}:C3 (a++b)=(C3 a&&C3 b):=by
 induction a with
 |nil=>simp[C3]
 |cons x a ih=>simp[C3,ih,Bool.and_assoc]
theorem XP:∀{l:b5l (b5l AV)},(∀p∈l,C3 p=true)->C3 l.flatten=true
 |[],_=>rfl
 |p::l,h=>by rw[List.flatten_cons,Rj,h p (by simp),XP (λq hq=>h q (by simp[hq]))];rfl
theorem oo:∀{l:b5l (b5l AV)},(∀p∈l,C3 p=true)->H9 l=true
 |[],_=>rfl
 |p::l,h=>by simp only[H9,b47];exact⟨h p (by simp),oo λq hq=>h q (by simp[hq])⟩
theorem a5g{ts:b5l TypeId}(ok:Yt P ts):∀(n:Nat) (t:TypeId) (cs:b5l Value) (z:DataW H × b5l MemPlace),t∈ts->DataW.trod enc P W base spare held n t cs=some z->Z5 P t z.1->
  ∃avs,D3 (bare W FA) avs cs/\Ty P n t avs/\C3 avs:=by
 intro n
 induction n with
 |zero=>intro t cs z ht h;simp[DataW.trod]at h
 |succ n ih=>
  intro t cs z ht h hw;have hok:=List.all_eq_true.1 ok t ht;unfold eX at hok;split at hok
  ·rename_i k hu;obtain⟨m,rfl,_,hwf⟩:=DataW.trod_int hu h;exact⟨[.v (.int k m)],D3.one (.v _ rfl) rfl,by unfold Ty;rw[hu];exact⟨m,rfl,hwf⟩,rfl⟩
  ·rename_i hu;obtain⟨b,rfl,_⟩:=DataW.trod_bool hu h;exact⟨[.v (.bool b)],D3.one (.v _ rfl) rfl,by unfold Ty;rw[hu];exact⟨b,rfl⟩,rfl⟩
  ·rename_i hu;obtain⟨s,rfl,rfl,_⟩:=DataW.trod_string hu h;have:s.size<=140737488351232:=hw s.size (by simp[DataW.weights]);exact⟨[.v (.string s)],D3.one (.v _ rfl) rfl,by unfold Ty;rw[hu];exact⟨s,rfl,this⟩,rfl⟩
  ·rename_i e hu;simp only[b47,b45,List.contains_iff_mem]at hok;obtain⟨⟨he,hk0⟩,hb1⟩:=hok;rcases DataW.trod_slice hu h with⟨hc,_⟩|⟨a,len,cap,elems,rest,m,hm,hc,hy,hb,hl,hmx,hlen,helem,_⟩
   ·subst hc;exact⟨[.sl [] .no],D3.one (.sl0 _ trivial) rfl,by unfold Ty;rw[hu];exact⟨[],rfl,by simp,λel h=>by cases h⟩,rfl⟩
   ·subst hc hy;obtain rfl:m=n:=by omega
    have hsh:=Z5.short hu hw;rw[List.length_map,hlen]at hsh
    have key:∀i,i<len->∃avs:b5l AV,∃vs:b5l Value,vs.length=P.cellsOf e/\(∀j,j<P.cellsOf e->W.cell? ((a.add (i*P.cellsOf e)).add j)=vs[j]?)/\D3 (bare W FA) avs vs/\Ty P m e avs/\C3 avs:=by
     intro i hi;have h1:=helem i hi;rw[b48 (by omega),b44]at h1;obtain⟨vs,hc1,hc2⟩:=h1;obtain⟨_,hl1,hc3⟩:=World.cells?_some hc1;obtain⟨avs,h2,h3,h4⟩:=ih e vs _ he hc2 (Z5.elem hu hw (i:=i) (by rw[b5b,b48 (by omega)];rfl));exact⟨avs,vs,hl1,hc3,h2,h3,h4⟩
    obtain⟨els,hel,hels⟩:=SQ len key
    have hty:∀el∈els,Ty P m e el/\C3 el:=by
     intro el hmem;obtain⟨i,hi⟩:=List.mem_iff_getElem?.1 hmem;obtain⟨vs,_,_,_,q1,q2⟩:=hels i el hi;exact⟨q1,q2⟩
    refine⟨[.sl els .no],D3.one ?_ rfl,by unfold Ty;rw[hu];exact⟨els,rfl,by rw[hel];exact hsh,λel h=>(hty el h).1⟩,by simp only[C3,plain,Bool.true_and,Bool.and_true];exact oo λp hp=>(hty p hp).2⟩
    by_cases h0:len=0
    ·subst h0;have:els=[]:=List.eq_nil_of_length_eq_zero hel;subst this;exact .L3 _ a cap trivial (.inl rfl)
    ·obtain⟨b,o,sp⟩:=a;obtain⟨avs0,vs0,hl0,hc0,_⟩:=key 0 (by omega);have hz:=hc0 0 hk0;rw[b48 (by omega)]at hz
     have hspot:sp=none:=by
      have:=World.cell?_spot hz;simpa[Addr.add]using this
     subst hspot
     have:=Rel.sl (σ:=bare W FA) els .no b o cap (P.cellsOf e) (λi j=>((W.cell? ⟨b,o+i*P.cellsOf e+j,none⟩).getD undef)) (λi el hi=>by
       obtain⟨vs,q1,_,q3,_⟩:=hels i el hi;rw[<-q3.1,q1]) (by omega) trivial (λid e h=>by cases h) (λi el hi j av hj=>by
       obtain⟨vs,q1,q2,q3,_⟩:=hels i el hi;obtain⟨c1,x,hx,hr⟩:=q3.2 j av hj;have hjl:j<P.cellsOf e:=by rw[<-q1];exact(List.getElem?_eq_some_iff.1 hx).1
       have:=q2 j hjl;rw[AS,AS,hx]at this;exact⟨by show W.cell? _=_;rw[this];rfl,λh=>(Pp _ _ _ _).1 h,c1⟩) (λi el hi j av hj=>by
       obtain⟨vs,q1,q2,q3,_⟩:=hels i el hi;obtain⟨c1,x,hx,hr⟩:=q3.2 j av hj;have hjl:j<P.cellsOf e:=by rw[<-q1];exact(List.getElem?_eq_some_iff.1 hx).1
       have:=q2 j hjl;rw[AS,AS,hx]at this;rw[this];exact hr)
     rw[hel]at this;exact this
  ·rename_i fs hu;simp only[b47,b5e,List.contains_iff_mem]at hok;obtain⟨hfs,hcg⟩:=hok;obtain⟨xs,m,hm,rfl,hcl,hxl,hf⟩:=DataW.trod_struct hu h;obtain rfl:m=n:=by omega
   have key:∀i,i<fs.size->∃avs:b5l AV,∀f,fs[i]? =some f->D3 (bare W FA) avs ((cs.drop f.offset).take (P.cellsOf f.type))/\Ty P m f.type avs/\C3 avs:=by
    intro i hi;have hfi:fs[i]? =some fs[i]:=Array.getElem?_eq_getElem hi;have e:xs[i]? =some xs[i]:=b48 (by omega);obtain⟨avs,h2,h3,h4⟩:=ih fs[i].type _ _ (hfs _ (by simp)) ((hf i _ hfi).trans e) (Z5.part hu hw hfi (by rw[b5b,e];rfl));refine⟨avs,λf hf'=>?_⟩;rw[hfi]at hf';cases hf';exact⟨h2,h3,h4⟩
   obtain⟨parts,hpl,hparts⟩:=SQ fs.size key;have hcells:=nX (P:=P) (bare W FA) fs.toList 0 (P.cellsOf t) cs parts hcg hcl (by simpa using hpl) (λi f p hfi hpi=>(hparts i p hpi f (by simpa using hfi)).1);refine⟨parts.flatten,by simpa using hcells,?_,XP λp hp=>?_⟩
   ·unfold Ty;rw[hu];refine⟨parts,rfl,hpl,λi f hfi=>?_⟩;have hi:i<parts.length:=by rw[hpl];exact(Array.getElem?_eq_some_iff.1 hfi).1
    exact⟨parts[i],b48 hi,(hparts i _ (b48 hi) f hfi).2.1⟩
   ·obtain⟨i,hi⟩:=List.mem_iff_getElem?.1 hp;have hlt:i<fs.size:=by rw[<-hpl];exact(List.getElem?_eq_some_iff.1 hi).1
    exact(hparts i p hi fs[i] (Array.getElem?_eq_getElem hlt)).2.2
  ·rename_i k e hu;simp only[b47,b45,List.contains_iff_mem]at hok;obtain⟨he,hke⟩:=hok;obtain⟨xs,m,hm,rfl,hcl,hxl,hf⟩:=DataW.trod_array hu h;obtain rfl:m=n:=by omega
   have key:∀i,i<k->∃avs:b5l AV,D3 (bare W FA) avs ((cs.drop (i*P.cellsOf e)).take (P.cellsOf e))/\Ty P m e avs/\C3 avs:=by
    intro i hi;have e1:xs[i]? =some xs[i]:=b48 (by omega);exact ih e _ _ he ((hf i hi).trans e1) (Z5.at_ hu hw (by rw[b5b,e1];rfl))
   obtain⟨parts,hpl,hparts⟩:=SQ k key
   have hall:∀p∈parts,Ty P m e p/\C3 p:=by
    intro p hp;obtain⟨i,hi⟩:=List.mem_iff_getElem?.1 hp;exact(hparts i p hi).2
   refine⟨parts.flatten,mQ _ (P.cellsOf e) parts cs (by rw[hcl,hpl,hke]) (λi p hi=>(hparts i p hi).1),?_,XP λp hp=>(hall p hp).2⟩;unfold Ty;rw[hu];exact⟨parts,rfl,hpl,λp hp=>(hall p hp).1⟩
  ·cases hok
end
end
def eL{α:Type}(e:α->b5l AV)(x:b5l α):b5l AV:=[.sl (List.map e x) .no]
def FY(x:Int):b5l AV:=[.v (.int .i8 x)]
theorem V0(l:b5l Int):H9 (l.map FY):=T1 _ _ λx _=>rfl
def FL(x:Int):b5l AV:=[.v (.int .i16 x)]
theorem U6(l:b5l Int):H9 (l.map FL):=T1 _ _ λx _=>rfl
def Fq(x:Int):b5l AV:=[.v (.int .i32 x)]
theorem U9(l:b5l Int):H9 (l.map Fq):=T1 _ _ λx _=>rfl
def Al(x:Int):b5l AV:=[.v (.int .i64 x)]
theorem V8(l:b5l Int):H9 (l.map Al):=T1 _ _ λx _=>rfl
def CY(x:Int):b5l AV:=[.v (.int .u8 x)]
theorem U8(l:b5l Int):H9 (l.map CY):=T1 _ _ λx _=>rfl
def FQ(x:Int):b5l AV:=[.v (.int .u16 x)]
theorem V4(l:b5l Int):H9 (l.map FQ):=T1 _ _ λx _=>rfl
def Fk(x:Int):b5l AV:=[.v (.int .u32 x)]
theorem V5(l:b5l Int):H9 (l.map Fk):=T1 _ _ λx _=>rfl
def CJ(x:Int):b5l AV:=[.v (.int .u64 x)]
theorem U7(l:b5l Int):H9 (l.map CJ):=T1 _ _ λx _=>rfl
def BP(x:b5n):b5l AV:=[.v (.bool x)]
theorem V1(l:b5l b5n):H9 (l.map BP):=T1 _ _ λx _=>rfl
def CW(x:b5k):b5l AV:=[.v (.string x)]
theorem V7(l:b5l b5k):H9 (l.map CW):=T1 _ _ λx _=>rfl
structure A7 where
 Num:Int
 Name:ByteArray
 Alias:ByteArray
 C8:Int
 Key:Int
 Kind:Int
 Target:Int
 Union:Int
def E2(x:A7):b5l AV:=[.v (.int .i64 x.Num),.v (.string x.Name),.v (.string x.Alias),.v (.int .i64 x.C8),.v (.int .i64 x.Key),.v (.int .i64 x.Kind),.v (.int .i64 x.Target),.v (.int .i64 x.Union)]
theorem P3(x:A7):C3 (E2 x):=by simp[E2,C3,plain,V0,U6,U9,V8,U8,V4,V5,U7,V1,V7,V3,V6,X1]
theorem W7(l:b5l A7):H9 (l.map E2):=T1 _ _ λx _=>P3 x
structure B7 where
 Name:ByteArray
 Ops:(List A7)
 eh:Int
def F9(x:B7):b5l AV:=[.v (.string x.Name),.sl (List.map E2 x.Ops) .no,.v (.int .i64 x.eh)]
theorem Q5(x:B7):C3 (F9 x):=by simp[F9,C3,plain,V0,U6,U9,V8,U8,V4,V5,U7,V1,V7,V3,V6,X1,P3,W7]
theorem X4(l:b5l B7):H9 (l.map F9):=T1 _ _ λx _=>Q5 x
structure A6 where
 Num:Int
 L9:Int
 Bits:Int
 Data:ByteArray
def C6(x:A6):b5l AV:=[.v (.int .i64 x.Num),.v (.int .i64 x.L9),.v (.int .u64 x.Bits),.v (.string x.Data)]
theorem U2(x:A6):C3 (C6 x):=by simp[C6,C3,plain,V0,U6,U9,V8,U8,V4,V5,U7,V1,V7,V3,V6,X1,P3,W7,Q5,X4]
theorem Y7(l:b5l A6):H9 (l.map C6):=T1 _ _ λx _=>U2 x
structure A0 where
 Kind:Int
 Bits:Int
 Text:ByteArray
 B8:(List A0)
 Pairs:(List (A0 × A0))
 Slots:(List (Int × A0))
 C4:(List A6)
mutual
def H1:A0->List AV
 |⟨f0,f1,f2,f3,f4,f5,f6⟩=>[.v (.int .i64 f0),.v (.int .u64 f1),.v (.string f2),.sl (LR f3) .no,.sl (LD f4) .no,.sl (LE f5) .no,.sl (List.map C6 f6) .no]
def LR:List A0->List (List AV)
 |[]=>[]
 |x::l=>(H1 x)::LR l
def LD:List (A0 × A0)->List (List AV)
 |[]=>[]
 |(z0,z1)::l=>(H1 z0++H1 z1)::LD l
def LE:List (Int × A0)->List (List AV)
 |[]=>[]
 |(z0,z1)::l=>([.v (.int .i64 z0)]++H1 z1)::LE l
end
def D6(x:A0 × A0):b5l AV:=H1 x.1++H1 x.2
def D7(x:Int × A0):b5l AV:=[.v (.int .i64 x.1)]++H1 x.2
theorem YQ:∀l,LR l=List.map H1 l
 |[]=>rfl
 |x::l=>by simp only[LR,List.map_cons,YQ l]
theorem XW:∀l,LD l=List.map D6 l
 |[]=>rfl
 |x::l=>by simp only[LD,List.map_cons,XW l,D6]
theorem ZH:∀l,LE l=List.map D7 l
 |[]=>rfl
 |x::l=>by simp only[LE,List.map_cons,ZH l,D7]
def C0(x:A0):b5l AV:=[.v (.int .i64 x.Kind),.v (.int .u64 x.Bits),.v (.string x.Text),.sl (List.map H1 x.B8) .no,.sl (List.map D6 x.Pairs) .no,.sl (List.map D7 x.Slots) .no,.sl (List.map C6 x.C4) .no]
def Q6(x:A0 × A0):b5l AV:=[.v (.int .i64 x.1.Kind),.v (.int .u64 x.1.Bits),.v (.string x.1.Text),.sl (List.map H1 x.1.B8) .no,.sl (List.map D6 x.1.Pairs) .no,.sl (List.map D7 x.1.Slots) .no,.sl (List.map C6 x.1.C4) .no,.v (.int .i64 x.2.Kind),.v (.int .u64 x.2.Bits),.v (.string x.2.Text),.sl (List.map H1 x.2.B8) .no,.sl (List.map D6 x.2.Pairs) .no,.sl (List.map D7 x.2.Slots) .no,.sl (List.map C6 x.2.C4) .no]
def T9(x:Int × A0):b5l AV:=[.v (.int .i64 x.1),.v (.int .i64 x.2.Kind),.v (.int .u64 x.2.Bits),.v (.string x.2.Text),.sl (List.map H1 x.2.B8) .no,.sl (List.map D6 x.2.Pairs) .no,.sl (List.map D7 x.2.Slots) .no,.sl (List.map C6 x.2.C4) .no]
theorem EM(x:A0):H1 x=C0 x:=by cases x;simp only[H1,C0,YQ,XW,ZH]
theorem My(x:A0 × A0):D6 x=Q6 x:=by simp only[D6,Q6,EM,C0,List.cons_append,List.nil_append]
theorem MY(x:Int × A0):D7 x=T9 x:=by simp only[D7,T9,EM,C0,List.cons_append,List.nil_append]
mutual
theorem WU:∀x,C3 (H1 x)=true
 |⟨f0,f1,f2,f3,f4,f5,f6⟩=>by simp[H1,C3,plain,ct f3,bH f4,Zb f5,V0,U6,U9,V8,U8,V4,V5,U7,V1,V7,V3,V6,X1,P3,W7,Q5,X4,U2,Y7]
theorem ct:∀l,H9 (LR l)=true
 |[]=>rfl
 |x::l=>by simp[LR,H9,C3,plain,Rj,WU x,ct l]
theorem bH:∀l,H9 (LD l)=true
 |[]=>rfl
 |(z0,z1)::l=>by simp[LD,H9,C3,plain,Rj,WU z0,WU z1,bH l]
theorem Zb:∀l,H9 (LE l)=true
 |[]=>rfl
 |(z0,z1)::l=>by simp[LE,H9,C3,plain,Rj,WU z1,Zb l]
end
theorem Y1(l:b5l A0):H9 (l.map H1):=by rw[<-YQ];exact ct l
theorem N0(x:A0):C3 (C0 x):=by have:=Y1 [x];simpa[H9,EM]using this
theorem Y3(l:b5l (A0 × A0)):H9 (l.map D6):=by rw[<-XW];exact bH l
theorem X0(x:A0 × A0):C3 (Q6 x):=by have:=Y3 [x];simpa[H9,My]using this
theorem Y9(l:b5l (Int × A0)):H9 (l.map D7):=by rw[<-ZH];exact Zb l
theorem X3(x:Int × A0):C3 (T9 x):=by have:=Y9 [x];simpa[H9,MY]using this
structure AB where
 Name:ByteArray
 Val:A0
def BG(x:AB):b5l AV:=[.v (.string x.Name),.v (.int .i64 x.Val.Kind),.v (.int .u64 x.Val.Bits),.v (.string x.Val.Text),.sl (List.map H1 x.Val.B8) .no,.sl (List.map D6 x.Val.Pairs) .no,.sl (List.map D7 x.Val.Slots) .no,.sl (List.map C6 x.Val.C4) .no]
theorem Z7(x:AB):C3 (BG x):=by simp[BG,C3,plain,V0,U6,U9,V8,U8,V4,V5,U7,V1,V7,V3,V6,X1,P3,W7,Q5,X4,U2,Y7,N0,Y1,X0,Y3,X3,Y9]
theorem AZ(l:b5l AB):H9 (l.map BG):=T1 _ _ λx _=>Z7 x
structure AU where
 Name:ByteArray
 Num:Int
 Notes:(List AB)
def Z0(x:AU):b5l AV:=[.v (.string x.Name),.v (.int .i64 x.Num),.sl (List.map BG x.Notes) .no]
theorem AP(x:AU):C3 (Z0 x):=by simp[Z0,C3,plain,V0,U6,U9,V8,U8,V4,V5,U7,V1,V7,V3,V6,X1,P3,W7,Q5,X4,U2,Y7,N0,Y1,X0,Y3,X3,Y9,Z7,AZ]
theorem Af(l:b5l AU):H9 (l.map Z0):=T1 _ _ λx _=>AP x
structure Be where
 From:Int
 To:Int
def Bn(x:Be):b5l AV:=[.v (.int .i64 x.From),.v (.int .i64 x.To)]
theorem Ac(x:Be):C3 (Bn x):=by simp[Bn,C3,plain,V0,U6,U9,V8,U8,V4,V5,U7,V1,V7,V3,V6,X1,P3,W7,Q5,X4,U2,Y7,N0,Y1,X0,Y3,X3,Y9,Z7,AZ,AP,Af]
theorem Au(l:b5l Be):H9 (l.map Bn):=T1 _ _ λx _=>Ac x
structure N4 where
 Name:ByteArray
 Open:Bool
 Items:(List AU)
 Reserved:(List Be)
 Notes:(List AB)
def U1(x:N4):b5l AV:=[.v (.string x.Name),.v (.bool x.Open),.sl (List.map Z0 x.Items) .no,.sl (List.map Bn x.Reserved) .no,.sl (List.map BG x.Notes) .no]
theorem Ar(x:N4):C3 (U1 x):=by simp[U1,C3,plain,V0,U6,U9,V8,U8,V4,V5,U7,V1,V7,V3,V6,X1,P3,W7,Q5,X4,U2,Y7,N0,Y1,X0,Y3,X3,Y9,Z7,AZ,AP,Af,Ac,Au]
theorem BO(l:b5l N4):H9 (l.map U1):=T1 _ _ λx _=>Ar x
structure A8 where
 B3:(List B7)
 D8:(List N4)
def D0(x:A8):b5l AV:=[.sl (List.map F9 x.B3) .no,.sl (List.map U1 x.D8) .no]
theorem Bb(x:A8):C3 (D0 x):=by simp[D0,C3,plain,V0,U6,U9,V8,U8,V4,V5,U7,V1,V7,V3,V6,X1,P3,W7,Q5,X4,U2,Y7,N0,Y1,X0,Y3,X3,Y9,Z7,AZ,AP,Af,Ac,Au,Ar,BO]
theorem Bd(l:b5l A8):H9 (l.map D0):=T1 _ _ λx _=>Bb x
structure T2 where
 Bytes:Int
 E5:Int
 Nodes:Int
 Text:Int
def Bt(x:T2):b5l AV:=[.v (.int .i64 x.Bytes),.v (.int .i64 x.E5),.v (.int .i64 x.Nodes),.v (.int .i64 x.Text)]
theorem Bu(x:T2):C3 (Bt x):=by simp[Bt,C3,plain,V0,U6,U9,V8,U8,V4,V5,U7,V1,V7,V3,V6,X1,P3,W7,Q5,X4,U2,Y7,N0,Y1,X0,Y3,X3,Y9,Z7,AZ,AP,Af,Ac,Au,Ar,BO,Bb,Bd]
theorem Bv(l:b5l T2):H9 (l.map Bt):=T1 _ _ λx _=>Bu x
structure A4 where
 Data:ByteArray
 At:Int
 End:Int
 E5:Int
 Nodes:Int
 Text:Int
def C9(x:A4):b5l AV:=[.v (.string x.Data),.v (.int .i64 x.At),.v (.int .i64 x.End),.v (.int .i64 x.E5),.v (.int .i64 x.Nodes),.v (.int .i64 x.Text)]
theorem Ba(x:A4):C3 (C9 x):=by simp[C9,C3,plain,V0,U6,U9,V8,U8,V4,V5,U7,V1,V7,V3,V6,X1,P3,W7,Q5,X4,U2,Y7,N0,Y1,X0,Y3,X3,Y9,Z7,AZ,AP,Af,Ac,Au,Ar,BO,Bb,Bd,Bu,Bv]
theorem Cd(l:b5l A4):H9 (l.map C9):=T1 _ _ λx _=>Ba x
structure B6 where
 p:A8
 c:A4
def MS(x:B6):b5l AV:=[.sl (List.map F9 x.p.B3) .no,.sl (List.map U1 x.p.D8) .no,.v (.string x.c.Data),.v (.int .i64 x.c.At),.v (.int .i64 x.c.End),.v (.int .i64 x.c.E5),.v (.int .i64 x.c.Nodes),.v (.int .i64 x.c.Text)]
theorem DB(x:B6):C3 (MS x):=by simp[MS,C3,plain,V0,U6,U9,V8,U8,V4,V5,U7,V1,V7,V3,V6,X1,P3,W7,Q5,X4,U2,Y7,N0,Y1,X0,Y3,X3,Y9,Z7,AZ,AP,Af,Ac,Au,Ar,BO,Bb,Bd,Bu,Bv,Ba,Cd]
theorem DF(l:b5l B6):H9 (l.map MS):=T1 _ _ λx _=>DB x
structure Fa where
 is:B5
def Jf(x:Fa):b5l AV:=[.clo (.func x.is.fn) x.is.fi x.is.cap]
theorem DX(x:Fa):C3 (Jf x):=by simp[Jf,C3,plain,V0,U6,U9,V8,U8,V4,V5,U7,V1,V7,V3,V6,X1,P3,W7,Q5,X4,U2,Y7,N0,Y1,X0,Y3,X3,Y9,Z7,AZ,AP,Af,Ac,Au,Ar,BO,Bb,Bd,Bu,Bv,Ba,Cd,DB,DF]
theorem Dr(l:b5l Fa):H9 (l.map Jf):=T1 _ _ λx _=>DX x
structure Eg where
 slots:(List (Int × A0))
 Qt:(List A6)
def FD(x:Eg):b5l AV:=[.sl (List.map D7 x.slots) .no,.sl (List.map C6 x.Qt) .no]
theorem EX(x:Eg):C3 (FD x):=by simp[FD,C3,plain,V0,U6,U9,V8,U8,V4,V5,U7,V1,V7,V3,V6,X1,P3,W7,Q5,X4,U2,Y7,N0,Y1,X0,Y3,X3,Y9,Z7,AZ,AP,Af,Ac,Au,Ar,BO,Bb,Bd,Bu,Bv,Ba,Cd,DB,DF,DX,Dr]
theorem EZ(l:b5l Eg):H9 (l.map FD):=T1 _ _ λx _=>EX x
inductive M8 where
 |nil
 |b4m (x:ByteArray)
 |GK (x:A0)
 |DV (x:(List A0))
 |DS (x:(List (A0 × A0)))
 |DP (x:Eg)
def U5:M8->AV
 |.nil=>.v .nilIface
 |.b4m x=>.iface 9 (.v (.string x))
 |.GK x=>.iface 295 (.agg (C0 x))
 |.DV x=>.iface 296 (.sl (List.map H1 x) .no)
 |.DS x=>.iface 298 (.sl (List.map D6 x) .no)
 |.DP x=>.iface 301 (.agg (FD x))
theorem Fb(x:M8):plain (U5 x):=by cases x<;>simp[U5,plain,C3,V0,U6,U9,V8,U8,V4,V5,U7,V1,V7,V3,V6,X1,P3,W7,Q5,X4,U2,Y7,N0,Y1,X0,Y3,X3,Y9,Z7,AZ,AP,Af,Ac,Au,Ar,BO,Bb,Bd,Bu,Bv,Ba,Cd,DB,DF,DX,Dr,EX,EZ]
theorem Ke(m:b5l b5n)(n:Nat)(x:M8):low m n (U5 x):=by
 have h:=H5 m n [U5 x] (by simp[C3,Fb]);simpa[E0]using h
def Vj(x:M8):b5l AV:=[U5 x]
theorem FE(l:b5l M8):H9 (l.map Vj):=T1 _ _ λx _=>by simp[Vj,C3,Fb]
theorem Iy(m:b5l b5n)(n:Nat)(x:A7):E0 m n (E2 x):=H5 _ _ _ (P3 x)
theorem Js(m:b5l b5n)(n:Nat)(x:B7):E0 m n (F9 x):=H5 _ _ _ (Q5 x)
theorem Jn(m:b5l b5n)(n:Nat)(x:A6):E0 m n (C6 x):=H5 _ _ _ (U2 x)
theorem IG(m:b5l b5n)(n:Nat)(x:A0):E0 m n (C0 x):=H5 _ _ _ (N0 x)
theorem Il(m:b5l b5n)(n:Nat)(x:A0 × A0):E0 m n (Q6 x):=H5 _ _ _ (X0 x)
theorem Jm(m:b5l b5n)(n:Nat)(x:Int × A0):E0 m n (T9 x):=H5 _ _ _ (X3 x)
theorem IR(m:b5l b5n)(n:Nat)(x:AB):E0 m n (BG x):=H5 _ _ _ (Z7 x)
theorem Hl(m:b5l b5n)(n:Nat)(x:AU):E0 m n (Z0 x):=H5 _ _ _ (AP x)
theorem JC(m:b5l b5n)(n:Nat)(x:Be):E0 m n (Bn x):=H5 _ _ _ (Ac x)
theorem JG(m:b5l b5n)(n:Nat)(x:N4):E0 m n (U1 x):=H5 _ _ _ (Ar x)
theorem IU(m:b5l b5n)(n:Nat)(x:A8):E0 m n (D0 x):=H5 _ _ _ (Bb x)
theorem JF(m:b5l b5n)(n:Nat)(x:T2):E0 m n (Bt x):=H5 _ _ _ (Bu x)
theorem Hs(m:b5l b5n)(n:Nat)(x:A4):E0 m n (C9 x):=H5 _ _ _ (Ba x)
theorem II(m:b5l b5n)(n:Nat)(x:B6):E0 m n (MS x):=H5 _ _ _ (DB x)
theorem JO(m:b5l b5n)(n:Nat)(x:Fa):E0 m n (Jf x):=H5 _ _ _ (DX x)
theorem Jc(m:b5l b5n)(n:Nat)(x:Eg):E0 m n (FD x):=H5 _ _ _ (EX x)
theorem Ii(m:b5l b5n)(n:Nat)(l:b5l Int):K7 m n (l.map FY):=P8 _ _ _ (V0 l)
theorem HV(m:b5l b5n)(n:Nat)(l:b5l Int):K7 m n (l.map FL):=P8 _ _ _ (U6 l)
theorem Ji(m:b5l b5n)(n:Nat)(l:b5l Int):K7 m n (l.map Fq):=P8 _ _ _ (U9 l)
theorem Hc(m:b5l b5n)(n:Nat)(l:b5l Int):K7 m n (l.map Al):=P8 _ _ _ (V8 l)
theorem IS(m:b5l b5n)(n:Nat)(l:b5l Int):K7 m n (l.map CY):=P8 _ _ _ (U8 l)
theorem Ir(m:b5l b5n)(n:Nat)(l:b5l Int):K7 m n (l.map FQ):=P8 _ _ _ (V4 l)
theorem Jr(m:b5l b5n)(n:Nat)(l:b5l Int):K7 m n (l.map Fk):=P8 _ _ _ (V5 l)
theorem Hx(m:b5l b5n)(n:Nat)(l:b5l Int):K7 m n (l.map CJ):=P8 _ _ _ (U7 l)
theorem Iu(m:b5l b5n)(n:Nat)(l:b5l b5n):K7 m n (l.map BP):=P8 _ _ _ (V1 l)
theorem Kd(m:b5l b5n)(n:Nat)(l:b5l b5k):K7 m n (l.map CW):=P8 _ _ _ (V7 l)
theorem Hp(m:b5l b5n)(n:Nat)(l:b5l A7):K7 m n (l.map E2):=P8 _ _ _ (W7 l)
theorem Hy(m:b5l b5n)(n:Nat)(l:b5l B7):K7 m n (l.map F9):=P8 _ _ _ (X4 l)
theorem KH(m:b5l b5n)(n:Nat)(l:b5l A6):K7 m n (l.map C6):=P8 _ _ _ (Y7 l)
theorem JJ(m:b5l b5n)(n:Nat)(l:b5l A0):K7 m n (l.map H1):=P8 _ _ _ (Y1 l)
theorem Iv(m:b5l b5n)(n:Nat)(l:b5l (A0 × A0)):K7 m n (l.map D6):=P8 _ _ _ (Y3 l)
theorem JW(m:b5l b5n)(n:Nat)(l:b5l (Int × A0)):K7 m n (l.map D7):=P8 _ _ _ (Y9 l)
theorem Jl(m:b5l b5n)(n:Nat)(l:b5l AB):K7 m n (l.map BG):=P8 _ _ _ (AZ l)
theorem Hm(m:b5l b5n)(n:Nat)(l:b5l AU):K7 m n (l.map Z0):=P8 _ _ _ (Af l)
theorem IJ(m:b5l b5n)(n:Nat)(l:b5l Be):K7 m n (l.map Bn):=P8 _ _ _ (Au l)
theorem IN(m:b5l b5n)(n:Nat)(l:b5l N4):K7 m n (l.map U1):=P8 _ _ _ (BO l)
theorem Jy(m:b5l b5n)(n:Nat)(l:b5l A8):K7 m n (l.map D0):=P8 _ _ _ (Bd l)
theorem JE(m:b5l b5n)(n:Nat)(l:b5l T2):K7 m n (l.map Bt):=P8 _ _ _ (Bv l)
theorem If(m:b5l b5n)(n:Nat)(l:b5l A4):K7 m n (l.map C9):=P8 _ _ _ (Cd l)
theorem JM(m:b5l b5n)(n:Nat)(l:b5l B6):K7 m n (l.map MS):=P8 _ _ _ (DF l)
theorem Jg(m:b5l b5n)(n:Nat)(l:b5l Fa):K7 m n (l.map Jf):=P8 _ _ _ (Dr l)
theorem Ka(m:b5l b5n)(n:Nat)(l:b5l Eg):K7 m n (l.map FD):=P8 _ _ _ (EZ l)
theorem Je(m:b5l b5n)(n:Nat)(l:b5l M8):K7 m n (l.map Vj):=P8 _ _ _ (FE l)
theorem Ho(m:b5l b5n)(n:Nat)(l:b5l Int):E0 m n (cellsOf FY l):=H5 _ _ _ (S8 _ (V0 l))
theorem Hn(m:b5l b5n)(n:Nat)(l:b5l Int):E0 m n (cellsOf FL l):=H5 _ _ _ (S8 _ (U6 l))
theorem Hk(m:b5l b5n)(n:Nat)(l:b5l Int):E0 m n (cellsOf Fq l):=H5 _ _ _ (S8 _ (U9 l))
theorem Ix(m:b5l b5n)(n:Nat)(l:b5l Int):E0 m n (cellsOf Al l):=H5 _ _ _ (S8 _ (V8 l))
theorem Jh(m:b5l b5n)(n:Nat)(l:b5l Int):E0 m n (cellsOf CY l):=H5 _ _ _ (S8 _ (U8 l))
theorem Hh(m:b5l b5n)(n:Nat)(l:b5l Int):E0 m n (cellsOf FQ l):=H5 _ _ _ (S8 _ (V4 l))
theorem Ip(m:b5l b5n)(n:Nat)(l:b5l Int):E0 m n (cellsOf Fk l):=H5 _ _ _ (S8 _ (V5 l))
theorem Hd(m:b5l b5n)(n:Nat)(l:b5l Int):E0 m n (cellsOf CJ l):=H5 _ _ _ (S8 _ (U7 l))
theorem JZ(m:b5l b5n)(n:Nat)(l:b5l b5n):E0 m n (cellsOf BP l):=H5 _ _ _ (S8 _ (V1 l))
theorem IQ(m:b5l b5n)(n:Nat)(l:b5l b5k):E0 m n (cellsOf CW l):=H5 _ _ _ (S8 _ (V7 l))
theorem Ig(m:b5l b5n)(n:Nat)(l:b5l A7):E0 m n (cellsOf E2 l):=H5 _ _ _ (S8 _ (W7 l))
theorem Hq(m:b5l b5n)(n:Nat)(l:b5l B7):E0 m n (cellsOf F9 l):=H5 _ _ _ (S8 _ (X4 l))
theorem JY(m:b5l b5n)(n:Nat)(l:b5l A6):E0 m n (cellsOf C6 l):=H5 _ _ _ (S8 _ (Y7 l))
theorem JR(m:b5l b5n)(n:Nat)(l:b5l A0):E0 m n (cellsOf H1 l):=H5 _ _ _ (S8 _ (Y1 l))
theorem Jv(m:b5l b5n)(n:Nat)(l:b5l (A0 × A0)):E0 m n (cellsOf D6 l):=H5 _ _ _ (S8 _ (Y3 l))
theorem Ha(m:b5l b5n)(n:Nat)(l:b5l (Int × A0)):E0 m n (cellsOf D7 l):=H5 _ _ _ (S8 _ (Y9 l))
theorem IC(m:b5l b5n)(n:Nat)(l:b5l AB):E0 m n (cellsOf BG l):=H5 _ _ _ (S8 _ (AZ l))
theorem IM(m:b5l b5n)(n:Nat)(l:b5l AU):E0 m n (cellsOf Z0 l):=H5 _ _ _ (S8 _ (Af l))
theorem Hf(m:b5l b5n)(n:Nat)(l:b5l Be):E0 m n (cellsOf Bn l):=H5 _ _ _ (S8 _ (Au l))
theorem Jo(m:b5l b5n)(n:Nat)(l:b5l N4):E0 m n (cellsOf U1 l):=H5 _ _ _ (S8 _ (BO l))
theorem Jj(m:b5l b5n)(n:Nat)(l:b5l A8):E0 m n (cellsOf D0 l):=H5 _ _ _ (S8 _ (Bd l))
theorem He(m:b5l b5n)(n:Nat)(l:b5l T2):E0 m n (cellsOf Bt l):=H5 _ _ _ (S8 _ (Bv l))
theorem Hz(m:b5l b5n)(n:Nat)(l:b5l A4):E0 m n (cellsOf C9 l):=H5 _ _ _ (S8 _ (Cd l))
theorem KG(m:b5l b5n)(n:Nat)(l:b5l B6):E0 m n (cellsOf MS l):=H5 _ _ _ (S8 _ (DF l))
theorem Hv(m:b5l b5n)(n:Nat)(l:b5l Fa):E0 m n (cellsOf Jf l):=H5 _ _ _ (S8 _ (Dr l))
theorem JL(m:b5l b5n)(n:Nat)(l:b5l Eg):E0 m n (cellsOf FD l):=H5 _ _ _ (S8 _ (EZ l))
theorem Kc(m:b5l b5n)(n:Nat)(l:b5l M8):E0 m n (cellsOf Vj l):=H5 _ _ _ (S8 _ (FE l))
theorem sY{P:Program}{f:Nat}{R:Rm}{s:Mc}(m:Nat){y:M8}{A:A0->Prop}{B:Prop}(h1:∀{z},Wk P f R (put (run m s) (.tuple [.agg (C0 z),.v (.bool true)])) (A z))(h2:Wk P f R (put (run m s) (.tuple [oZ (op (run m s)),.v (.bool false)])) B)(hc:okS (run m s):=by kernel_rfl)(ho:op (run m s)=.BC 295 true (oZ (op (run m s))) (oX (op (run m s))):=by kernel_rfl)(hx:xv (run m s)=some (U5 y):=by kernel_rfl):Wk P f R s ((∀z,y=.GK z->A z)/\((∀z,y≠.GK z)->B)):=λhw=>by
 cases y with
 |GK z=>exact ev0 m (λh K hk=>by rw[ho];simp only[E9];change wv (xv _) _;simp only[hx,wv,U5,Ay];exact hk) (h1 (hw.1 z rfl)) hc
 |_=>exact ev0 m (λh K hk=>by rw[ho];simp only[E9];change wv (xv _) _;simp only[hx,wv,U5,Ay];first|exact⟨trivial,hk⟩|exact⟨rfl,hk⟩) (h2 (hw.2 λz hz=>by cases hz)) hc
theorem l0{P:Program}{f:Nat}{R:Rm}{s:Mc}(m:Nat){y:M8}{A:(b5l A0)->Prop}{B:Prop}(h1:∀{z},Wk P f R (put (run m s) (.tuple [.sl (List.map H1 z) .no,.v (.bool true)])) (A z))(h2:Wk P f R (put (run m s) (.tuple [oZ (op (run m s)),.v (.bool false)])) B)(hc:okS (run m s):=by kernel_rfl)(ho:op (run m s)=.BC 296 true (oZ (op (run m s))) (oX (op (run m s))):=by kernel_rfl)(hx:xv (run m s)=some (U5 y):=by kernel_rfl):Wk P f R s ((∀z,y=.DV z->A z)/\((∀z,y≠.DV z)->B)):=λhw=>by
 cases y with
 |DV z=>exact ev0 m (λh K hk=>by rw[ho];simp only[E9];change wv (xv _) _;simp only[hx,wv,U5,Ay];exact hk) (h1 (hw.1 z rfl)) hc
 |_=>exact ev0 m (λh K hk=>by rw[ho];simp only[E9];change wv (xv _) _;simp only[hx,wv,U5,Ay];first|exact⟨trivial,hk⟩|exact⟨rfl,hk⟩) (h2 (hw.2 λz hz=>by cases hz)) hc
theorem a5t{P:Program}{f:Nat}{R:Rm}{s:Mc}(m:Nat){y:M8}{W:(b5l A0)->Prop}(hk:∀{z},Wk P f R (put (run m s) (.sl (List.map H1 z) .no)) (W z))(hc:okS (run m s):=by kernel_rfl)(ho:op (run m s)=.BC 296 false (oZ (op (run m s))) (oX (op (run m s))):=by kernel_rfl)(hx:xv (run m s)=some (U5 y):=by kernel_rfl):Wk P f R s (∃z,y=M8.DV z/\W z):=λhw=>by
 obtain⟨z,rfl,hw⟩:=hw;exact ev0 m (λh K hk=>by rw[ho];simp only[E9];change wv (xv _) _;simp only[hx,wv,U5,Ay];exact hk) (hk hw) hc
theorem uI{P:Program}{f:Nat}{R:Rm}{s:Mc}(m:Nat){y:M8}{A:(b5l (A0 × A0))->Prop}{B:Prop}(h1:∀{z},Wk P f R (put (run m s) (.tuple [.sl (List.map D6 z) .no,.v (.bool true)])) (A z))(h2:Wk P f R (put (run m s) (.tuple [oZ (op (run m s)),.v (.bool false)])) B)(hc:okS (run m s):=by kernel_rfl)(ho:op (run m s)=.BC 298 true (oZ (op (run m s))) (oX (op (run m s))):=by kernel_rfl)(hx:xv (run m s)=some (U5 y):=by kernel_rfl):Wk P f R s ((∀z,y=.DS z->A z)/\((∀z,y≠.DS z)->B)):=λhw=>by
 cases y with
 |DS z=>exact ev0 m (λh K hk=>by rw[ho];simp only[E9];change wv (xv _) _;simp only[hx,wv,U5,Ay];exact hk) (h1 (hw.1 z rfl)) hc
 |_=>exact ev0 m (λh K hk=>by rw[ho];simp only[E9];change wv (xv _) _;simp only[hx,wv,U5,Ay];first|exact⟨trivial,hk⟩|exact⟨rfl,hk⟩) (h2 (hw.2 λz hz=>by cases hz)) hc
theorem a6d{P:Program}{f:Nat}{R:Rm}{s:Mc}(m:Nat){y:M8}{W:(b5l (A0 × A0))->Prop}(hk:∀{z},Wk P f R (put (run m s) (.sl (List.map D6 z) .no)) (W z))(hc:okS (run m s):=by kernel_rfl)(ho:op (run m s)=.BC 298 false (oZ (op (run m s))) (oX (op (run m s))):=by kernel_rfl)(hx:xv (run m s)=some (U5 y):=by kernel_rfl):Wk P f R s (∃z,y=M8.DS z/\W z):=λhw=>by
 obtain⟨z,rfl,hw⟩:=hw;exact ev0 m (λh K hk=>by rw[ho];simp only[E9];change wv (xv _) _;simp only[hx,wv,U5,Ay];exact hk) (hk hw) hc
theorem wi{P:Program}{f:Nat}{R:Rm}{s:Mc}(m:Nat){y:M8}{A:Eg->Prop}{B:Prop}(h1:∀{z},Wk P f R (put (run m s) (.tuple [.agg (FD z),.v (.bool true)])) (A z))(h2:Wk P f R (put (run m s) (.tuple [oZ (op (run m s)),.v (.bool false)])) B)(hc:okS (run m s):=by kernel_rfl)(ho:op (run m s)=.BC 301 true (oZ (op (run m s))) (oX (op (run m s))):=by kernel_rfl)(hx:xv (run m s)=some (U5 y):=by kernel_rfl):Wk P f R s ((∀z,y=.DP z->A z)/\((∀z,y≠.DP z)->B)):=λhw=>by
 cases y with
 |DP z=>exact ev0 m (λh K hk=>by rw[ho];simp only[E9];change wv (xv _) _;simp only[hx,wv,U5,Ay];exact hk) (h1 (hw.1 z rfl)) hc
 |_=>exact ev0 m (λh K hk=>by rw[ho];simp only[E9];change wv (xv _) _;simp only[hx,wv,U5,Ay];first|exact⟨trivial,hk⟩|exact⟨rfl,hk⟩) (h2 (hw.2 λz hz=>by cases hz)) hc
theorem v9{P:Program}{f:Nat}{R:Rm}{s:Mc}(m:Nat){y:M8}{W:Eg->Prop}(hk:∀{z},Wk P f R (put (run m s) (.agg (FD z))) (W z))(hc:okS (run m s):=by kernel_rfl)(ho:op (run m s)=.BC 301 false (oZ (op (run m s))) (oX (op (run m s))):=by kernel_rfl)(hx:xv (run m s)=some (U5 y):=by kernel_rfl):Wk P f R s (∃z,y=M8.DP z/\W z):=λhw=>by
 obtain⟨z,rfl,hw⟩:=hw;exact ev0 m (λh K hk=>by rw[ho];simp only[E9];change wv (xv _) _;simp only[hx,wv,U5,Ay];exact hk) (hk hw) hc
def E3(x:B6):b5l AV:=[.sl (List.map F9 x.p.B3) .no,.sl (List.map U1 x.p.D8) .no,.v (.string x.c.Data),.v (.int .i64 x.c.At),.v (.int .i64 x.c.End),.v (.int .i64 x.c.E5),.v (.int .i64 x.c.Nodes),.v (.int .i64 x.c.Text)]
def J4(x:B6):b5l (Nat × Nat):=[]
theorem M2(x:B6):(E3 x).all ok1:=by simp[E3,ok1,plain,V0,U6,U9,V8,U8,V4,V5,U7,V1,V7,V3,V6,X1,P3,W7,Q5,X4,U2,Y7,N0,Y1,X0,Y3,X3,Y9,Z7,AZ,AP,Af,Ac,Au,Ar,BO,Bb,Bd,Bu,Bv,Ba,Cd,DB,DF,DX,Dr,EX,EZ,Fb,FE]
theorem Cf(x:B6):E0 [true] 0 (E3 x):=by first|rfl|(simp only[E3,low,E0,Ho,Hn,Hk,Ix,Jh,Hh,Ip,Hd,JZ,IQ,Ig,Hq,JY,JR,Jv,Ha,IC,IM,Hf,Jo,Jj,He,Hz,KG,Hv,JL,Kc,Ih,IL,Ii,HV,Ji,Hc,IS,Ir,Jr,Hx,Iu,Kd,Hp,Hy,KH,JJ,Iv,JW,Jl,Hm,IJ,IN,Jy,JE,If,JM,Jg,Ka,Je,Iy,Js,Jn,IG,Il,Jm,IR,Hl,JC,JG,IU,JF,Hs,II,JO,Jc,Ke];rfl)
theorem b1n:Q8 BP 1:=⟨λy=>rfl,λy=>rfl,λy=>rfl,λy=>rfl⟩
def MT:En b5n:=⟨BP,BP,1,λ_=>rfl,λ_=>rfl,b1n⟩
theorem yU:Q8 U1 5:=⟨λy=>rfl,λy=>rfl,λy=>Ar y,λy=>rfl⟩
def O7:En N4:=⟨U1,U1,5,λ_=>rfl,λ_=>rfl,yU⟩
theorem a2z:Q8 Z0 3:=⟨λy=>rfl,λy=>rfl,λy=>AP y,λy=>rfl⟩
def Aw:En AU:=⟨Z0,Z0,3,λ_=>rfl,λ_=>rfl,a2z⟩
theorem a88:Q8 BG 8:=⟨λy=>rfl,λy=>rfl,λy=>Z7 y,λy=>rfl⟩
def CV:En AB:=⟨BG,BG,8,λ_=>rfl,λ_=>rfl,a88⟩
theorem a9c:Q8 E2 8:=⟨λy=>rfl,λy=>rfl,λy=>P3 y,λy=>rfl⟩
def O2:En A7:=⟨E2,E2,8,λ_=>rfl,λ_=>rfl,a9c⟩
theorem b2v:Q8 D6 14:=⟨λy=>by rw[My];rfl,λy=>by rw[My];rfl,λy=>by rw[My];exact X0 y,λy=>by rw[My];rfl⟩
def C5:En (A0 × A0):=⟨Q6,D6,14,λy=>My y,λ_=>rfl,b2v⟩
theorem a9u:Q8 F9 3:=⟨λy=>rfl,λy=>rfl,λy=>Q5 y,λy=>rfl⟩
def J7:En B7:=⟨F9,F9,3,λ_=>rfl,λ_=>rfl,a9u⟩
theorem yG:Q8 C6 4:=⟨λy=>rfl,λy=>rfl,λy=>U2 y,λy=>rfl⟩
def D4:En A6:=⟨C6,C6,4,λ_=>rfl,λ_=>rfl,yG⟩
theorem a0n:Q8 D7 8:=⟨λy=>by rw[MY];rfl,λy=>by rw[MY];rfl,λy=>by rw[MY];exact X3 y,λy=>by rw[MY];rfl⟩
def D2:En (Int × A0):=⟨T9,D7,8,λy=>MY y,λ_=>rfl,a0n⟩
theorem yo:Q8 Bn 2:=⟨λy=>rfl,λy=>rfl,λy=>Ac y,λy=>rfl⟩
def JH:En Be:=⟨Bn,Bn,2,λ_=>rfl,λ_=>rfl,yo⟩
theorem wq:Q8 H1 7:=⟨λy=>by rw[EM];rfl,λy=>by rw[EM];rfl,λy=>by rw[EM];exact N0 y,λy=>by rw[EM];rfl⟩
def K6:En A0:=⟨C0,H1,7,λy=>EM y,λ_=>rfl,wq⟩
theorem vm:Q8 Al 1:=⟨λy=>rfl,λy=>rfl,λy=>rfl,λy=>rfl⟩
def kk:En Int:=⟨Al,Al,1,λ_=>rfl,λ_=>rfl,vm⟩
theorem b1l:Q8 CY 1:=⟨λy=>rfl,λy=>rfl,λy=>rfl,λy=>rfl⟩
def uW:En Int:=⟨CY,CY,1,λ_=>rfl,λ_=>rfl,b1l⟩
noncomputable abbrev Pg:Program:=Tryz.prog
abbrev e4(r:b5n):AV:=.v (.bool r)
def jc(p:A8)(name data:b5k)(r:b5n):Prop:=B4 Pg [] 4 [.agg (D0 p),.v (.string name),.v (.string data)] (e4 r)
abbrev e5(r:Int):AV:=.v (.int .i64 r)
def aa(p:A8)(r:Int):Prop:=B4 Pg [] 5 [.agg (D0 p)] (e5 r)
abbrev e6(r:b5n):AV:=.v (.bool r)
def QD(r:b5n):Prop:=B4 Pg [] 6 [] (e6 r)
abbrev e11(r:Int):AV:=.v (.int .i64 r)
def iB(p:A8)(name data:b5k)(r:Int):Prop:=B4 Pg [] 11 [.agg (D0 p),.v (.string name),.v (.string data)] (e11 r)
abbrev e12(r:Int):AV:=.v (.int .i64 r)
def ly(p:A8)(name data:b5k)(r:Int):Prop:=B4 Pg [] 12 [.agg (D0 p),.v (.string name),.v (.string data)] (e12 r)
abbrev e13(r:A0 × Int):AV:=.tuple [.agg (C0 r.1),.v (.int .i64 r.2)]
def TN(p:A8)(name data:b5k)(l:T2)(r:A0 × Int):Prop:=B4 Pg [] 13 [.agg (D0 p),.v (.string name),.v (.string data),.agg (Bt l)] (e13 r)
abbrev e14(r:T2):AV:=.agg (Bt r)
def SJ(r:T2):Prop:=B4 Pg [] 14 [] (e14 r)
abbrev e15(r:Int):AV:=.v (.int .i64 r)
def Ly(v:A0)(r:Int):Prop:=B4 Pg [] 15 [.agg (C0 v)] (e15 r)
abbrev e16(r:b5n):AV:=.v (.bool r)
def ZK(p:A8)(r:b5n):Prop:=B4 Pg [] 16 [.agg (D0 p)] (e16 r)
abbrev e17(r:b5n):AV:=.v (.bool r)
def YH(p:A8)(r:b5n):Prop:=B4 Pg [] 17 [.agg (D0 p)] (e17 r)
abbrev e18(r:b5n):AV:=.v (.bool r)
def bd(p:A8)(r:b5n):Prop:=B4 Pg [] 18 [.agg (D0 p)] (e18 r)
abbrev e19(r:b5n):AV:=.v (.bool r)
def ZN(p:A8)(r:b5n):Prop:=B4 Pg [] 19 [.agg (D0 p)] (e19 r)
abbrev e20(r:b5n):AV:=.v (.bool r)
def Xu(p:A8)(r:b5n):Prop:=B4 Pg [] 20 [.agg (D0 p)] (e20 r)
abbrev e21(r:b5n):AV:=.v (.bool r)
def dT(p:A8)(r:b5n):Prop:=B4 Pg [] 21 [.agg (D0 p)] (e21 r)
abbrev e22(r:b5n):AV:=.v (.bool r)
def bm(p:A8)(r:b5n):Prop:=B4 Pg [] 22 [.agg (D0 p)] (e22 r)
abbrev e24(r:T2):AV:=.agg (Bt r)
def YL(r:T2):Prop:=B4 Pg [] 24 [] (e24 r)
abbrev e27(r:A0 × Int):AV:=.tuple [.agg (C0 r.1),.v (.int .i64 r.2)]
def eH(p:A8)(name data:b5k)(l:T2)(r:A0 × Int):Prop:=B4 Pg [] 27 [.agg (D0 p),.v (.string name),.v (.string data),.agg (Bt l)] (e27 r)
abbrev e29(r:Int):AV:=.v (.int .i64 r)
def EA(v:A0)(r:Int):Prop:=B4 Pg [] 29 [.agg (C0 v)] (e29 r)
abbrev e30(r:A0 × Int):AV:=.tuple [.agg (C0 r.1),.v (.int .i64 r.2)]
def Xa(p:A8)(name:b5k)(base:A0)(data:b5k)(l:T2)(r:A0 × Int):Prop:=B4 Pg [] 30 [.agg (D0 p),.v (.string name),.agg (C0 base),.v (.string data),.agg (Bt l)] (e30 r)
abbrev e31(r:Int × b5n):AV:=.tuple [.v (.int .i64 r.1),.v (.bool r.2)]
def UR(p:A8)(name:b5k)(r:Int × b5n):Prop:=B4 Pg [] 31 [.agg (D0 p),.v (.string name)] (e31 r)
abbrev e32(r:b5n):AV:=.v (.bool r)
def MB(p:A8)(prog:Int)(v:A0)(r:b5n):Prop:=B4 Pg [] 32 [.agg (D0 p),.v (.int .i64 prog),.agg (C0 v)] (e32 r)
abbrev e33(r:b5l A0):AV:=.sl (List.map H1 r) .no
def ZU(v:A0)(r:b5l A0):Prop:=B4 Pg [] 33 [.agg (C0 v)] (e33 r)
abbrev e34(r:b5n):AV:=.v (.bool r)
def SA(s:b5k)(r:b5n):Prop:=B4 Pg [] 34 [.v (.string s)] (e34 r)
abbrev e35(r:b5n):AV:=.v (.bool r)
def Ux(s:b5k)(r:b5n):Prop:=B4 Pg [] 35 [.v (.string s)] (e35 r)
abbrev e36(r:b5n):AV:=.v (.bool r)
def cC(l:b5l Be)(n:Int)(r:b5n):Prop:=B4 Pg [] 36 [.sl (List.map Bn l) .no,.v (.int .i64 n)] (e36 r)
abbrev e37(r:Int):AV:=.v (.int .i64 r)
def ax(l:b5l AB)(target r:Int):Prop:=B4 Pg [] 37 [.sl (List.map BG l) .no,.v (.int .i64 target)] (e37 r)
abbrev e38(r:b5n):AV:=.v (.bool r)
def bL(g:B7)(r:b5n):Prop:=B4 Pg [] 38 [.agg (F9 g)] (e38 r)
abbrev e39(r:b5n):AV:=.v (.bool r)
def Yx(p:A8)(o_:A7)(r:b5n):Prop:=B4 Pg [] 39 [.agg (D0 p),.agg (E2 o_)] (e39 r)
abbrev e40(r:A4 × Int):AV:=.tuple [.agg (C9 r.1),.v (.int .i64 r.2)]
def eT(data:b5k)(l:T2)(r:A4 × Int):Prop:=B4 Pg [] 40 [.v (.string data),.agg (Bt l)] (e40 r)
abbrev e48(r:A0 × Int):AV:=.tuple [.agg (C0 r.1),.v (.int .i64 r.2)]
def Yv(p:A8)(name:b5k)(base:A0)(data:b5k)(l:T2)(r:A0 × Int):Prop:=B4 Pg [] 48 [.agg (D0 p),.v (.string name),.agg (C0 base),.v (.string data),.agg (Bt l)] (e48 r)
abbrev e49(r:Int × b5n):AV:=.tuple [.v (.int .i64 r.1),.v (.bool r.2)]
def WG(p:A8)(name:b5k)(r:Int × b5n):Prop:=B4 Pg [] 49 [.agg (D0 p),.v (.string name)] (e49 r)
abbrev e50(r:b5n):AV:=.v (.bool r)
def Gn(p:A8)(prog:Int)(v:A0)(r:b5n):Prop:=B4 Pg [] 50 [.agg (D0 p),.v (.int .i64 prog),.agg (C0 v)] (e50 r)
abbrev e53(r:B6 × Int):AV:=.v (.int .i64 r.2)
theorem iC(r:B6 × Int):plain (e53 r):=rfl
def GS(r_:B6)(n:Int)(r:B6 × Int):Prop:=AC Pg [] 53 [.ptr 0 0,.v (.int .i64 n)] (E3 r_) (J4 r_) (e53 r) (E3 r.1) (J4 r.1)
abbrev e54(r:B6 × (A0 × Int)):AV:=.tuple [.agg (C0 r.2.1),.v (.int .i64 r.2.2)]
theorem jU(r:B6 × (A0 × Int)):plain (e54 r):=(Ef (AA (N0 r.2.1) (AA rfl rfl)))
def Vn(r_:B6)(prog:Int)(v:A0)(r:B6 × (A0 × Int)):Prop:=AC Pg [] 54 [.ptr 0 0,.v (.int .i64 prog),.agg (C0 v)] (E3 r_) (J4 r_) (e54 r) (E3 r.1) (J4 r.1)
abbrev e55(r:A0):AV:=.agg (C0 r)
def Ie(p:A8)(prog:Int)(v r:A0):Prop:=B4 Pg [] 55 [.agg (D0 p),.v (.int .i64 prog),.agg (C0 v)] (e55 r)
abbrev e56(r:Int):AV:=.v (.int .i64 r)
def kR(s:b5l B7)(f:B5)(r:Int):Prop:=B4 Pg [] 56 [.sl (List.map F9 s) .no,.clo (.func f.fn) f.fi f.cap] (e56 r)
abbrev e57(r:b5n):AV:=.v (.bool r)
def gE(g:B7)(c1_:b5k)(r:b5n):Prop:=B4 Pg [] 57 [.agg (F9 g),.G6 (CW c1_) 0] (e57 r)
abbrev e58(r:A0 × b5n):AV:=.tuple [.agg (C0 r.1),.v (.bool r.2)]
def IE(v:A0)(num:Int)(r:A0 × b5n):Prop:=B4 Pg [] 58 [.agg (C0 v),.v (.int .i64 num)] (e58 r)
abbrev e59(r:b5l A0):AV:=.sl (List.map H1 r) .no
def bn(x:A0)(r:b5l A0):Prop:=B4 Pg [] 59 [.agg (C0 x)] (e59 r)
def ml(s:b5l A0):Prop:=MW Pg H1 7 60 s
abbrev e61(r:b5n):AV:=.v (.bool r)
def dq(s:b5k)(r:b5n):Prop:=B4 Pg [] 61 [.v (.string s)] (e61 r)
abbrev e62(r:b5k × b5k):AV:=.tuple [.v (.string r.1),.v (.string r.2)]
def bY(full:b5k)(r:b5k × b5k):Prop:=B4 Pg [] 62 [.v (.string full)] (e62 r)
abbrev e63(r:b5n):AV:=.v (.bool r)
def UE(s:b5k)(r:b5n):Prop:=B4 Pg [] 63 [.v (.string s)] (e63 r)
abbrev e64(r:b5n):AV:=.v (.bool r)
def QC(s:b5k)(r:b5n):Prop:=B4 Pg [] 64 [.v (.string s)] (e64 r)
abbrev e65(r:Int):AV:=.v (.int .i64 r)
def Ru(name:b5k)(r:Int):Prop:=B4 Pg [] 65 [.v (.string name)] (e65 r)
abbrev Qq(r:b5n):AV:=.v (.bool r)
def Yu(name:b5k)(target:Int)(r:b5n):Prop:=B4 Pg [] 66 [.v (.string name),.v (.int .i64 target)] (Qq r)
abbrev e67(r:b5n):AV:=.v (.bool r)
def dY(n:AB)(r:b5n):Prop:=B4 Pg [] 67 [.agg (BG n)] (e67 r)
abbrev e68(r:b5n):AV:=.v (.bool r)
def Nu(s:b5k)(r:b5n):Prop:=B4 Pg [] 68 [.v (.string s)] (e68 r)
abbrev e69(r:b5n):AV:=.v (.bool r)
def YR(p:A8)(o_:A7)(r:b5n):Prop:=B4 Pg [] 69 [.agg (D0 p),.agg (E2 o_)] (e69 r)
abbrev e70(r:A4 × Int):AV:=.tuple [.agg (C9 r.1),.v (.int .i64 r.2)]
def Sn(c:A4)(n:Int)(r:A4 × Int):Prop:=B4 Pg [] 70 [.agg (C9 c),.v (.int .i64 n)] (e70 r)
abbrev e71(r:Int):AV:=.v (.int .i64 r)
def Di(c:A4)(r:Int):Prop:=B4 Pg [] 71 [.agg (C9 c)] (e71 r)
abbrev e78(r:A4 × Int):AV:=.tuple [.agg (C9 r.1),.v (.int .i64 r.2)]
def aP(data:b5k)(l:T2)(r:A4 × Int):Prop:=B4 Pg [] 78 [.v (.string data),.agg (Bt l)] (e78 r)
abbrev e79(r:A4 × Int):AV:=.tuple [.agg (C9 r.1),.v (.int .i64 r.2)]
def FG(c:A4)(n:Int)(r:A4 × Int):Prop:=B4 Pg [] 79 [.agg (C9 c),.v (.int .i64 n)] (e79 r)
abbrev qp(r:A0 × A4 × Int):AV:=.tuple [.agg (C0 r.1),.agg (C9 r.2.1),.v (.int .i64 r.2.2)]
def Ts(p:A8)(prog:Int)(v:A0)(c:A4)(r:A0 × A4 × Int):Prop:=B4 Pg [] 80 [.agg (D0 p),.v (.int .i64 prog),.agg (C0 v),.agg (C9 c)] (qp r)
abbrev ec(r:A0):AV:=.agg (C0 r)
def LS(p:A8)(prog:Int)(v r:A0):Prop:=B4 Pg [] 81 [.agg (D0 p),.v (.int .i64 prog),.agg (C0 v)] (ec r)
abbrev qZ(r:A0 × b5n):AV:=.tuple [.agg (C0 r.1),.v (.bool r.2)]
def Gt(v:A0)(num:Int)(r:A0 × b5n):Prop:=B4 Pg [] 82 [.agg (C0 v),.v (.int .i64 num)] (qZ r)
abbrev eg(r:b5n):AV:=.v (.bool r)
def Io(p:A8)(o_:A7)(v:A0)(r:b5n):Prop:=B4 Pg [] 83 [.agg (D0 p),.agg (E2 o_),.agg (C0 v)] (eg r)
abbrev e88(r:Int × Int × A4 × Int):AV:=.tuple [.v (.int .i64 r.1),.v (.int .i64 r.2.1),.agg (C9 r.2.2.1),.v (.int .i64 r.2.2.2)]
def Pl(c:A4)(r:Int × Int × A4 × Int):Prop:=B4 Pg [] 88 [.agg (C9 c)] (e88 r)
abbrev XD(r:B6 × (A0 × Int)):AV:=.tuple [.agg (C0 r.2.1),.v (.int .i64 r.2.2)]
theorem gu(r:B6 × (A0 × Int)):plain (XD r):=(Ef (AA (N0 r.2.1) (AA rfl rfl)))
def VG(r_:B6)(g:B7)(v:A0)(o_:A7)(w:Int)(r:B6 × (A0 × Int)):Prop:=AC Pg [] 89 [.ptr 0 0,.agg (F9 g),.agg (C0 v),.agg (E2 o_),.v (.int .i64 w)] (E3 r_) (J4 r_) (XD r) (E3 r.1) (J4 r.1)
abbrev e90(r:A6 × A4 × Int):AV:=.tuple [.agg (C6 r.1),.agg (C9 r.2.1),.v (.int .i64 r.2.2)]
def dF(c:A4)(r:A6 × A4 × Int):Prop:=B4 Pg [] 90 [.agg (C9 c)] (e90 r)
abbrev e91(r:A0):AV:=.agg (C0 r)
def UU(v:A0)(f:A6)(r:A0):Prop:=B4 Pg [] 91 [.agg (C0 v),.agg (C6 f)] (e91 r)
abbrev e92(r:b5l A6):AV:=.sl (List.map C6 r) .no
def mG(s r:b5l A6):Prop:=B4 Pg [] 92 [.sl (List.map C6 s) .no] (e92 r)
def ot(s:b5l A6):Prop:=Gp Pg C6 4 92 s
abbrev eZ(r:b5l (Int × A0)):AV:=.sl (List.map D7 r) .no
def PO(l r:b5l (Int × A0)):Prop:=B4 Pg [] 93 [.sl (List.map D7 l) .no] (eZ r)
abbrev e94(r:A7 × b5n):AV:=.tuple [.agg (E2 r.1),.v (.bool r.2)]
def OF(g:B7)(num:Int)(r:A7 × b5n):Prop:=B4 Pg [] 94 [.agg (F9 g),.v (.int .i64 num)] (e94 r)
abbrev ej(r:A0):AV:=.agg (C0 r)
def Rg(p:A8)(o_:A7)(v r:A0):Prop:=B4 Pg [] 95 [.agg (D0 p),.agg (E2 o_),.agg (C0 v)] (ej r)
abbrev e96(r:b5n):AV:=.v (.bool r)
def VJ(v:A0)(r:b5n):Prop:=B4 Pg [] 96 [.agg (C0 v)] (e96 r)
def VC(n0:Nat)(x:b5l A6)(cmp:B5)(r:b5l A6):Prop:=Y8 Pg C6 4 97 n0 [.clo (.func cmp.fn) cmp.fi cmp.cap] x r
def gK(x1:B5):Prop:=B4 Pg [] 97 [.sl [] .no,.clo (.func x1.fn) x1.fi x1.cap] (.tuple [])
abbrev e98(r:Int):AV:=.v (.int .i64 r)
def a6h(a b:A6)(r:Int):Prop:=B4 Pg [] 98 [.agg (C6 a),.agg (C6 b)] (e98 r)
abbrev e99(r:Int):AV:=.v (.int .i64 r)
def ET(x y r:Int):Prop:=B4 Pg [] 99 [.v (.int .i64 x),.v (.int .i64 y)] (e99 r)
abbrev a98(r:b5n):AV:=.v (.bool r)
def US(b:Int)(r:b5n):Prop:=B4 Pg [] 100 [.v (.int .u8 b)] (a98 r)
abbrev a86(r:b5n):AV:=.v (.bool r)
def Up(b:Int)(r:b5n):Prop:=B4 Pg [] 101 [.v (.int .u8 b)] (a86 r)
abbrev a90(r:b5n):AV:=.v (.bool r)
def WR(kind:Int)(v:A0)(r:b5n):Prop:=B4 Pg [] 102 [.v (.int .i64 kind),.agg (C0 v)] (a90 r)
abbrev ja(r:Int):AV:=.v (.int .i64 r)
def mf(s:b5k)(r:Int):Prop:=B4 Pg [] 103 [.v (.string s)] (ja r)
abbrev a1v(r:b5n):AV:=.v (.bool r)
def PW(c:A4)(r:b5n):Prop:=B4 Pg [] 104 [.agg (C9 c)] (a1v r)
abbrev a7k(r:b5n):AV:=.v (.bool r)
def TE(o_:A7)(r:b5n):Prop:=B4 Pg [] 106 [.agg (E2 o_)] (a7k r)
abbrev Vo(r:Int):AV:=.v (.int .i64 r)
def bV(o_:A7)(r:Int):Prop:=B4 Pg [] 108 [.agg (E2 o_)] (Vo r)
abbrev a6x(r:Int):AV:=.v (.int .i64 r)
def FV(c:A4)(r:Int):Prop:=B4 Pg [] 132 [.agg (C9 c)] (a6x r)
abbrev a25(r:A0 × A4 × Int):AV:=.tuple [.agg (C0 r.1),.agg (C9 r.2.1),.v (.int .i64 r.2.2)]
def LN(p:A8)(g:B7)(v:A0)(c:A4)(r:A0 × A4 × Int):Prop:=B4 Pg [] 133 [.agg (D0 p),.agg (F9 g),.agg (C0 v),.agg (C9 c)] (a25 r)
abbrev YN(r:b5l A6):AV:=.sl (List.map C6 r) .no
def Yd(l r:b5l A6):Prop:=B4 Pg [] 134 [.sl (List.map C6 l) .no] (YN r)
abbrev Zk(r:A0):AV:=.agg (C0 r)
def bX(p:A8)(o_:A7)(v r:A0):Prop:=B4 Pg [] 135 [.agg (D0 p),.agg (E2 o_),.agg (C0 v)] (Zk r)
abbrev a4w(r:b5n):AV:=.v (.bool r)
def ca(v:A0)(r:b5n):Prop:=B4 Pg [] 136 [.agg (C0 v)] (a4w r)
abbrev fS(r:A7 × b5n):AV:=.tuple [.agg (E2 r.1),.v (.bool r.2)]
def WV(g:B7)(num:Int)(r:A7 × b5n):Prop:=B4 Pg [] 139 [.agg (F9 g),.v (.int .i64 num)] (fS r)
abbrev a0m(r:b5n):AV:=.v (.bool r)
def lQ(wire:Int)(r:b5n):Prop:=B4 Pg [] 146 [.v (.int .i64 wire)] (a0m r)
abbrev a7a(r:Int × A4 × Int):AV:=.tuple [.v (.int .u64 r.1),.agg (C9 r.2.1),.v (.int .i64 r.2.2)]
def Gf(c:A4)(r:Int × A4 × Int):Prop:=B4 Pg [] 149 [.agg (C9 c)] (a7a r)
abbrev Mj(r:B6 × (A0 × Int)):AV:=.tuple [.agg (C0 r.2.1),.v (.int .i64 r.2.2)]
theorem kD(r:B6 × (A0 × Int)):plain (Mj r):=(Ef (AA (N0 r.2.1) (AA rfl rfl)))
def aL(r_:B6)(g:B7)(v:A0)(o_:A7)(r:B6 × (A0 × Int)):Prop:=AC Pg [] 150 [.ptr 0 0,.agg (F9 g),.agg (C0 v),.agg (E2 o_)] (E3 r_) (J4 r_) (Mj r) (E3 r.1) (J4 r.1)
abbrev MQ(r:B6 × (A0 × Int)):AV:=.tuple [.agg (C0 r.2.1),.v (.int .i64 r.2.2)]
theorem kj(r:B6 × (A0 × Int)):plain (MQ r):=(Ef (AA (N0 r.2.1) (AA rfl rfl)))
def XT(r_:B6)(g:B7)(v:A0)(o_:A7)(r:B6 × (A0 × Int)):Prop:=AC Pg [] 151 [.ptr 0 0,.agg (F9 g),.agg (C0 v),.agg (E2 o_)] (E3 r_) (J4 r_) (MQ r) (E3 r.1) (J4 r.1)
abbrev a5q(r:Int):AV:=.v (.int .i64 r)
def Gr(o_:A7)(r:Int):Prop:=B4 Pg [] 152 [.agg (E2 o_)] (a5q r)
abbrev ND(r:B6 × (A0 × Int)):AV:=.tuple [.agg (C0 r.2.1),.v (.int .i64 r.2.2)]
theorem qJ(r:B6 × (A0 × Int)):plain (ND r):=(Ef (AA (N0 r.2.1) (AA rfl rfl)))
def Vw(r_:B6)(g:B7)(v:A0)(o_:A7)(r:B6 × (A0 × Int)):Prop:=AC Pg [] 153 [.ptr 0 0,.agg (F9 g),.agg (C0 v),.agg (E2 o_)] (E3 r_) (J4 r_) (ND r) (E3 r.1) (J4 r.1)
abbrev RF(r:B6 × (A0 × Int)):AV:=.tuple [.agg (C0 r.2.1),.v (.int .i64 r.2.2)]
theorem mu(r:B6 × (A0 × Int)):plain (RF r):=(Ef (AA (N0 r.2.1) (AA rfl rfl)))
def Nd(r_:B6)(g:B7)(v:A0)(o_:A7)(r:B6 × (A0 × Int)):Prop:=AC Pg [] 154 [.ptr 0 0,.agg (F9 g),.agg (C0 v),.agg (E2 o_)] (E3 r_) (J4 r_) (RF r) (E3 r.1) (J4 r.1)
abbrev i7(r:b5l (Int × A0)):AV:=.sl (List.map D7 r) .no
def nT(s r:b5l (Int × A0)):Prop:=B4 Pg [] 156 [.sl (List.map D7 s) .no] (i7 r)
def mY(s:b5l (Int × A0)):Prop:=Gp Pg D7 8 156 s
def Xs(n0:Nat)(x:b5l (Int × A0))(cmp:B5)(r:b5l (Int × A0)):Prop:=Y8 Pg D7 8 157 n0 [.clo (.func cmp.fn) cmp.fi cmp.cap] x r
def fC(x1:B5):Prop:=B4 Pg [] 157 [.sl [] .no,.clo (.func x1.fn) x1.fi x1.cap] (.tuple [])
abbrev m7(r:Int):AV:=.v (.int .i64 r)
def gg(a b:Int × A0)(r:Int):Prop:=B4 Pg [] 158 [.agg (T9 a),.agg (T9 b)] (m7 r)
abbrev a6r(r:b5n):AV:=.v (.bool r)
def nK(o_:A7)(c1_:Int)(r:b5n):Prop:=B4 Pg [] 159 [.agg (E2 o_),.G6 (Al c1_) 0] (a6r r)
abbrev wm(r:A7 × b5n):AV:=.tuple [.agg (E2 r.1),.v (.bool r.2)]
def pJ(x:Fa)(g:B7)(r:A7 × b5n):Prop:=B4 Pg [] 160 [.agg (Jf x),.agg (F9 g)] (wm r)
abbrev a12(r:A0):AV:=.agg (C0 r)
def Pz(p:A8)(o_:A7)(v r:A0):Prop:=B4 Pg [] 161 [.agg (D0 p),.agg (E2 o_),.agg (C0 v)] (a12 r)
abbrev XS(r:b5l (A0 × A0)):AV:=.sl (List.map D6 r) .no
def Lj(l r:b5l (A0 × A0)):Prop:=B4 Pg [] 162 [.sl (List.map D6 l) .no] (XS r)
abbrev a22(r:A0):AV:=.agg (C0 r)
def Nk(v r:A0):Prop:=B4 Pg [] 163 [.agg (C0 v)] (a22 r)
abbrev vL(r:b5n):AV:=.v (.bool r)
def bT(v:A0)(r:b5n):Prop:=B4 Pg [] 164 [.agg (C0 v)] (vL r)
def cI(n0:Nat)(data:b5l A6)(n:Int)(cmp:B5)(r:b5l A6):Prop:=Y8 Pg C6 4 165 n0 [.v (.int .i64 n),.clo (.func cmp.fn) cmp.fi cmp.cap] data r
abbrev b26(r:b5n):AV:=.v (.bool r)
def dZ(x:Int)(r:b5n):Prop:=B4 Pg [] 166 [.v (.int .i64 x)] (b26 r)
abbrev xY(r:b5n):AV:=.v (.bool r)
def QK(kind:Int)(r:b5n):Prop:=B4 Pg [] 167 [.v (.int .i64 kind)] (xY r)
abbrev zG(r:b5n):AV:=.v (.bool r)
def RG(v:A0)(r:b5n):Prop:=B4 Pg [] 168 [.agg (C0 v)] (zG r)
abbrev a5h(r:b5n):AV:=.v (.bool r)
def MK(kind:Int)(r:b5n):Prop:=B4 Pg [] 169 [.v (.int .i64 kind)] (a5h r)
abbrev a68(r:Int):AV:=.v (.int .i64 r)
def cp(s:b5k)(i r:Int):Prop:=B4 Pg [] 170 [.v (.string s),.v (.int .i64 i)] (a68 r)
abbrev rb(r:Int × A4 × Int):AV:=.tuple [.v (.int .u8 r.1),.agg (C9 r.2.1),.v (.int .i64 r.2.2)]
def cH(c:A4)(r:Int × A4 × Int):Prop:=B4 Pg [] 177 [.agg (C9 c)] (rb r)
abbrev rS(r:b5n):AV:=.v (.bool r)
def UD(s:b5k)(r:b5n):Prop:=B4 Pg [] 214 [.v (.string s)] (rS r)
abbrev a8x(r:b5n):AV:=.v (.bool r)
def ZF(p:A8)(enum num:Int)(r:b5n):Prop:=B4 Pg [] 225 [.agg (D0 p),.v (.int .i64 enum),.v (.int .u64 num)] (a8x r)
abbrev a7h(r:b5k):AV:=.v (.string r)
def Jw(c:A4)(r:b5k):Prop:=B4 Pg [] 231 [.agg (C9 c)] (a7h r)
abbrev a0e(r:Int × Int × A4 × Int):AV:=.tuple [.v (.int .i64 r.1),.v (.int .i64 r.2.1),.agg (C9 r.2.2.1),.v (.int .i64 r.2.2.2)]
def QO(c:A4)(r:Int × Int × A4 × Int):Prop:=B4 Pg [] 232 [.agg (C9 c)] (a0e r)
abbrev zZ(r:A6 × A4 × Int):AV:=.tuple [.agg (C6 r.1),.agg (C9 r.2.1),.v (.int .i64 r.2.2)]
def aM(c:A4)(r:A6 × A4 × Int):Prop:=B4 Pg [] 233 [.agg (C9 c)] (zZ r)
abbrev b1u(r:A0):AV:=.agg (C0 r)
def WH(v:A0)(f:A6)(r:A0):Prop:=B4 Pg [] 234 [.agg (C0 v),.agg (C6 f)] (b1u r)
abbrev aC(r:A0 × A4 × Int):AV:=.tuple [.agg (C0 r.1),.agg (C9 r.2.1),.v (.int .i64 r.2.2)]
def Wn(p:A8)(g:B7)(v:A0)(o_:A7)(c:A4)(r:A0 × A4 × Int):Prop:=B4 Pg [] 235 [.agg (D0 p),.agg (F9 g),.agg (C0 v),.agg (E2 o_),.agg (C9 c)] (aC r)
abbrev m5(r:b5n):AV:=.v (.bool r)
def PL(o_:A7)(r:b5n):Prop:=B4 Pg [] 236 [.agg (E2 o_)] (m5 r)
abbrev eC(r:A0 × A4 × Int):AV:=.tuple [.agg (C0 r.1),.agg (C9 r.2.1),.v (.int .i64 r.2.2)]
def Qb(p:A8)(g:B7)(v:A0)(o_:A7)(c:A4)(r:A0 × A4 × Int):Prop:=B4 Pg [] 237 [.agg (D0 p),.agg (F9 g),.agg (C0 v),.agg (E2 o_),.agg (C9 c)] (eC r)
abbrev v8(r:Int):AV:=.v (.int .i64 r)
def FC(o_:A7)(r:Int):Prop:=B4 Pg [] 238 [.agg (E2 o_)] (v8 r)
abbrev Za(r:A0 × A4 × Int):AV:=.tuple [.agg (C0 r.1),.agg (C9 r.2.1),.v (.int .i64 r.2.2)]
def ON(p:A8)(g:B7)(v:A0)(o_:A7)(c:A4)(r:A0 × A4 × Int):Prop:=B4 Pg [] 239 [.agg (D0 p),.agg (F9 g),.agg (C0 v),.agg (E2 o_),.agg (C9 c)] (Za r)
abbrev tH(r:A0 × A4 × Int):AV:=.tuple [.agg (C0 r.1),.agg (C9 r.2.1),.v (.int .i64 r.2.2)]
def Ls(p:A8)(g:B7)(v:A0)(o_:A7)(c:A4)(r:A0 × A4 × Int):Prop:=B4 Pg [] 240 [.agg (D0 p),.agg (F9 g),.agg (C0 v),.agg (E2 o_),.agg (C9 c)] (tH r)
abbrev a2q(r:A0):AV:=.agg (C0 r)
def On(p:A8)(o_:A7)(v r:A0):Prop:=B4 Pg [] 241 [.agg (D0 p),.agg (E2 o_),.agg (C0 v)] (a2q r)
abbrev VH(r:b5l (A0 × A0)):AV:=.sl (List.map D6 r) .no
def GR(l r:b5l (A0 × A0)):Prop:=B4 Pg [] 242 [.sl (List.map D6 l) .no] (VH r)
abbrev a0q(r:A0):AV:=.agg (C0 r)
def PY(v r:A0):Prop:=B4 Pg [] 243 [.agg (C0 v)] (a0q r)
abbrev uk(r:b5n):AV:=.v (.bool r)
def YF(v:A0)(r:b5n):Prop:=B4 Pg [] 244 [.agg (C0 v)] (uk r)
abbrev lu(r:b5n):AV:=.v (.bool r)
def YX(p:A8)(enum num:Int)(r:b5n):Prop:=B4 Pg [] 247 [.agg (D0 p),.v (.int .i64 enum),.v (.int .u64 num)] (lu r)
abbrev jG(r:Int × Int × Int):AV:=.tuple [.v (.int .u64 r.1),.v (.int .i64 r.2.1),.v (.int .i64 r.2.2)]
def aV(s:b5k)(r:Int × Int × Int):Prop:=B4 Pg [] 251 [.v (.string s)] (jG r)
abbrev a09(r:b5k):AV:=.v (.string r)
def TU(c:A4)(n:Int)(r:b5k):Prop:=B4 Pg [] 252 [.agg (C9 c),.v (.int .i64 n)] (a09 r)
abbrev yj(r:A4):AV:=.agg (C9 r)
def Ll(c:A4)(n:Int)(r:A4):Prop:=B4 Pg [] 253 [.agg (C9 c),.v (.int .i64 n)] (yj r)
abbrev RT(r:B6 × (Int × Int)):AV:=.tuple [.v (.int .i64 r.2.1),.v (.int .i64 r.2.2)]
theorem qR(r:B6 × (Int × Int)):plain (RT r):=(Ef (AA rfl (AA rfl rfl)))
def LK(r_:B6)(r:B6 × (Int × Int)):Prop:=AC Pg [] 254 [.ptr 0 0] (E3 r_) (J4 r_) (RT r) (E3 r.1) (J4 r.1)
abbrev Ue(r:B6 × A4):AV:=.agg (C9 r.2)
theorem nS(r:B6 × A4):plain (Ue r):=(Ba r.2)
def Sx(r_:B6)(n:Int)(r:B6 × A4):Prop:=AC Pg [] 255 [.ptr 0 0,.v (.int .i64 n)] (E3 r_) (J4 r_) (Ue r) (E3 r.1) (J4 r.1)
abbrev Vm(r:B6 × (A0 × Int)):AV:=.tuple [.agg (C0 r.2.1),.v (.int .i64 r.2.2)]
theorem ob(r:B6 × (A0 × Int)):plain (Vm r):=(Ef (AA (N0 r.2.1) (AA rfl rfl)))
def QL(r_:B6)(o_:A7)(w:Int)(r:B6 × (A0 × Int)):Prop:=AC Pg [] 256 [.ptr 0 0,.agg (E2 o_),.v (.int .i64 w)] (E3 r_) (J4 r_) (Vm r) (E3 r.1) (J4 r.1)
abbrev Uq(r:B6):AV:=.tuple []
theorem pT(r:B6):plain (Uq r):=rfl
def Nn(r_:B6)(outer:A4)(r:B6):Prop:=AC Pg [] 257 [.ptr 0 0,.agg (C9 outer)] (E3 r_) (J4 r_) (Uq r) (E3 r) (J4 r)
abbrev il(r:A0):AV:=.agg (C0 r)
def EY(g:B7)(v:A0)(o_:A7)(x r:A0):Prop:=B4 Pg [] 258 [.agg (F9 g),.agg (C0 v),.agg (E2 o_),.agg (C0 x)] (il r)
abbrev Rr(r:B6 × (A0 × Int)):AV:=.tuple [.agg (C0 r.2.1),.v (.int .i64 r.2.2)]
theorem iD(r:B6 × (A0 × Int)):plain (Rr r):=(Ef (AA (N0 r.2.1) (AA rfl rfl)))
def QM(r_:B6)(prog:Int)(base:A0)(cost:Int)(r:B6 × (A0 × Int)):Prop:=AC Pg [] 259 [.ptr 0 0,.v (.int .i64 prog),.agg (C0 base),.v (.int .i64 cost)] (E3 r_) (J4 r_) (Rr r) (E3 r.1) (J4 r.1)
abbrev a1i(r:A0):AV:=.agg (C0 r)
def Qf(l x r:A0):Prop:=B4 Pg [] 260 [.agg (C0 l),.agg (C0 x)] (a1i r)
abbrev Rn(r:B6 × (A6 × Int)):AV:=.tuple [.agg (C6 r.2.1),.v (.int .i64 r.2.2)]
theorem jq(r:B6 × (A6 × Int)):plain (Rn r):=(Ef (AA (U2 r.2.1) (AA rfl rfl)))
def TP(r_:B6)(wire:Int)(r:B6 × (A6 × Int)):Prop:=AC Pg [] 261 [.ptr 0 0,.v (.int .i64 wire)] (E3 r_) (J4 r_) (Rn r) (E3 r.1) (J4 r.1)
abbrev gG(r:A0 × Int):AV:=.tuple [.agg (C0 r.1),.v (.int .i64 r.2)]
def Tc(p:A8)(o_:A7)(f:A6)(r:A0 × Int):Prop:=B4 Pg [] 262 [.agg (D0 p),.agg (E2 o_),.agg (C6 f)] (gG r)
abbrev wR(r:Int × A4 × Int):AV:=.tuple [.v (.int .u64 r.1),.agg (C9 r.2.1),.v (.int .i64 r.2.2)]
def TM(c:A4)(r:Int × A4 × Int):Prop:=B4 Pg [] 263 [.agg (C9 c)] (wR r)
abbrev qM(r:b5k × A4 × Int):AV:=.tuple [.v (.string r.1),.agg (C9 r.2.1),.v (.int .i64 r.2.2)]
def eO(c:A4)(wire:Int)(r:b5k × A4 × Int):Prop:=B4 Pg [] 264 [.agg (C9 c),.v (.int .i64 wire)] (qM r)
def aK(n0:Nat)(data:b5l (Int × A0))(n:Int)(cmp:B5)(r:b5l (Int × A0)):Prop:=Y8 Pg D7 8 265 n0 [.v (.int .i64 n),.clo (.func cmp.fn) cmp.fi cmp.cap] data r
abbrev pM(r:Int):AV:=.v (.int .i64 r)
def lJ(s:b5l A7)(f:B5)(r:Int):Prop:=B4 Pg [] 266 [.sl (List.map E2 s) .no,.clo (.func f.fn) f.fi f.cap] (pM r)
abbrev b29(r:b5l (A0 × A0)):AV:=.sl (List.map D6 r) .no
def oP(s r:b5l (A0 × A0)):Prop:=B4 Pg [] 267 [.sl (List.map D6 s) .no] (b29 r)
def jR(s:b5l (A0 × A0)):Prop:=Gp Pg D6 14 267 s
def Zd(n0:Nat)(x:b5l (A0 × A0))(cmp:B5)(r:b5l (A0 × A0)):Prop:=Y8 Pg D6 14 268 n0 [.clo (.func cmp.fn) cmp.fi cmp.cap] x r
def jf(x1:B5):Prop:=B4 Pg [] 268 [.sl [] .no,.clo (.func x1.fn) x1.fi x1.cap] (.tuple [])
abbrev yk(r:Int):AV:=.v (.int .i64 r)
def vQ(a b:A0 × A0)(r:Int):Prop:=B4 Pg [] 269 [.agg (Q6 a),.agg (Q6 b)] (yk r)
abbrev b0a(r:Int):AV:=.v (.int .i64 r)
def IP(a b:A0)(r:Int):Prop:=B4 Pg [] 270 [.agg (C0 a),.agg (C0 b)] (b0a r)
abbrev yp(r:b5n):AV:=.v (.bool r)
def bA(a b:A0)(r:b5n):Prop:=B4 Pg [] 271 [.agg (C0 a),.agg (C0 b)] (yp r)
abbrev yr(r:Int):AV:=.v (.int .i64 r)
def We(bits r:Int):Prop:=B4 Pg [] 272 [.v (.int .u64 bits)] (yr r)
abbrev a83(r:b5n):AV:=.v (.bool r)
def Mk(kind:Int)(r:b5n):Prop:=B4 Pg [] 273 [.v (.int .i64 kind)] (a83 r)
abbrev a9o(r:b5n):AV:=.v (.bool r)
def VK(v:A0)(r:b5n):Prop:=B4 Pg [] 274 [.agg (C0 v)] (a9o r)
def TJ(n0:Nat)(data:b5l A6)(a b:Int)(cmp:B5)(r:b5l A6):Prop:=Y8 Pg C6 4 275 n0 [.v (.int .i64 a),.v (.int .i64 b),.clo (.func cmp.fn) cmp.fi cmp.cap] data r
def MI(n0:Nat)(data:b5l A6)(a m b:Int)(cmp:B5)(r:b5l A6):Prop:=Y8 Pg C6 4 276 n0 [.v (.int .i64 a),.v (.int .i64 m),.v (.int .i64 b),.clo (.func cmp.fn) cmp.fi cmp.cap] data r
abbrev qA(r:b5n):AV:=.v (.bool r)
def FT(s:b5k)(i n:Int)(r:b5n):Prop:=B4 Pg [] 277 [.v (.string s),.v (.int .i64 i),.v (.int .i64 n)] (qA r)
abbrev b1g(r:b5n):AV:=.v (.bool r)
def Jx(s:b5k)(i lo hi:Int)(r:b5n):Prop:=B4 Pg [] 278 [.v (.string s),.v (.int .i64 i),.v (.int .u8 lo),.v (.int .u8 hi)] (b1g r)
abbrev a06(r:b5k × A4 × Int):AV:=.tuple [.v (.string r.1),.agg (C9 r.2.1),.v (.int .i64 r.2.2)]
def XO(c:A4)(n:Int)(r:b5k × A4 × Int):Prop:=B4 Pg [] 280 [.agg (C9 c),.v (.int .i64 n)] (a06 r)
abbrev yt(r:b5n):AV:=.v (.bool r)
def dI(kind:Int)(v:A0)(r:b5n):Prop:=B4 Pg [] 281 [.v (.int .i64 kind),.agg (C0 v)] (yt r)
abbrev t9(r:A4 × Int):AV:=.tuple [.agg (C9 r.1),.v (.int .i64 r.2)]
def dV(c:A4)(n:Int)(r:A4 × Int):Prop:=B4 Pg [] 285 [.agg (C9 c),.v (.int .i64 n)] (t9 r)
abbrev a73(r:A4):AV:=.agg (C9 r)
def YO(c inner r:A4):Prop:=B4 Pg [] 286 [.agg (C9 c),.agg (C9 inner)] (a73 r)
abbrev a05(r:b5n):AV:=.v (.bool r)
def pZ(s:b5l AU)(f:B5)(r:b5n):Prop:=B4 Pg [] 295 [.sl (List.map Z0 s) .no,.clo (.func f.fn) f.fi f.cap] (a05 r)
abbrev gr(r:Int):AV:=.v (.int .i64 r)
def gB(s:b5k)(r:Int):Prop:=B4 Pg [] 300 [.v (.string s)] (gr r)
abbrev xM(r:b5n):AV:=.v (.bool r)
def iZ(it:AU)(c1_:Int)(r:b5n):Prop:=B4 Pg [] 305 [.agg (Z0 it),.G6 (CJ c1_) 0] (xM r)
abbrev a0i(r:b5n):AV:=.v (.bool r)
def WI(c:A4)(r:b5n):Prop:=B4 Pg [] 310 [.agg (C9 c)] (a0i r)
abbrev vj(r:Int × A4 × Int):AV:=.tuple [.v (.int .u64 r.1),.agg (C9 r.2.1),.v (.int .i64 r.2.2)]
def LB(c:A4)(r:Int × A4 × Int):Prop:=B4 Pg [] 311 [.agg (C9 c)] (vj r)
abbrev a58(r:A6 × A4 × Int):AV:=.tuple [.agg (C6 r.1),.agg (C9 r.2.1),.v (.int .i64 r.2.2)]
def Vu(f:A6)(c:A4)(r:A6 × A4 × Int):Prop:=B4 Pg [] 312 [.agg (C6 f),.agg (C9 c)] (a58 r)
abbrev uX(r:Int × A4 × Int):AV:=.tuple [.v (.int .i64 r.1),.agg (C9 r.2.1),.v (.int .i64 r.2.2)]
def MO(c:A4)(r:Int × A4 × Int):Prop:=B4 Pg [] 313 [.agg (C9 c)] (uX r)
abbrev a8u(r:A4):AV:=.agg (C9 r)
def Uj(c:A4)(n:Int)(r:A4):Prop:=B4 Pg [] 314 [.agg (C9 c),.v (.int .i64 n)] (a8u r)
abbrev a6j(r:A0):AV:=.agg (C0 r)
def ZE(o_:A7)(r:A0):Prop:=B4 Pg [] 315 [.agg (E2 o_)] (a6j r)
abbrev mj(r:(A0 × A0) × A4 × Int):AV:=.tuple [.agg (Q6 r.1),.agg (C9 r.2.1),.v (.int .i64 r.2.2)]
def VA(p:A8)(o_:A7)(x:A0 × A0)(num wire:Int)(c:A4)(r:(A0 × A0) × A4 × Int):Prop:=B4 Pg [] 316 [.agg (D0 p),.agg (E2 o_),.agg (Q6 x),.v (.int .i64 num),.v (.int .i64 wire),.agg (C9 c)] (mj r)
abbrev jK(r:A0):AV:=.agg (C0 r)
def DZ(g:B7)(v:A0)(o_:A7)(x r:A0):Prop:=B4 Pg [] 317 [.agg (F9 g),.agg (C0 v),.agg (E2 o_),.agg (C0 x)] (jK r)
abbrev b03(r:A4):AV:=.agg (C9 r)
def Iz(c in_ r:A4):Prop:=B4 Pg [] 318 [.agg (C9 c),.agg (C9 in_)] (b03 r)
abbrev b2k(r:Int × A4 × Int):AV:=.tuple [.v (.int .u8 r.1),.agg (C9 r.2.1),.v (.int .i64 r.2.2)]
def YJ(c:A4)(r:Int × A4 × Int):Prop:=B4 Pg [] 319 [.agg (C9 c)] (b2k r)
abbrev WJ(r:Int):AV:=.v (.int .i64 r)
def dX(o_:A7)(r:Int):Prop:=B4 Pg [] 320 [.agg (E2 o_)] (WJ r)
abbrev uY(r:A7):AV:=.agg (E2 r)
def Xj(o_ r:A7):Prop:=B4 Pg [] 321 [.agg (E2 o_)] (uY r)
abbrev a5l(r:A0 × A4 × Int):AV:=.tuple [.agg (C0 r.1),.agg (C9 r.2.1),.v (.int .i64 r.2.2)]
def UM(p:A8)(o_:A7)(base:A0)(cost:Int)(c:A4)(r:A0 × A4 × Int):Prop:=B4 Pg [] 322 [.agg (D0 p),.agg (E2 o_),.agg (C0 base),.v (.int .i64 cost),.agg (C9 c)] (a5l r)
abbrev tA(r:A0):AV:=.agg (C0 r)
def Pb(g:B7)(v:A0)(o_:A7)(x r:A0):Prop:=B4 Pg [] 323 [.agg (F9 g),.agg (C0 v),.agg (E2 o_),.agg (C0 x)] (tA r)
abbrev se(r:A6 × A4 × Int):AV:=.tuple [.agg (C6 r.1),.agg (C9 r.2.1),.v (.int .i64 r.2.2)]
def TW(wire:Int)(c:A4)(r:A6 × A4 × Int):Prop:=B4 Pg [] 324 [.v (.int .i64 wire),.agg (C9 c)] (se r)
abbrev pq(r:A0 × Int):AV:=.tuple [.agg (C0 r.1),.v (.int .i64 r.2)]
def Sv(p:A8)(o_:A7)(f:A6)(r:A0 × Int):Prop:=B4 Pg [] 325 [.agg (D0 p),.agg (E2 o_),.agg (C6 f)] (pq r)
abbrev qy(r:Int):AV:=.v (.int .i64 r)
def Dl(a b:A0)(r:Int):Prop:=B4 Pg [] 326 [.agg (C0 a),.agg (C0 b)] (qy r)
abbrev zP(r:Int):AV:=.v (.int .i64 r)
def Uh(bits r:Int):Prop:=B4 Pg [] 327 [.v (.int .u64 bits)] (zP r)
abbrev xl(r:Int):AV:=.v (.int .i64 r)
def db(u r:Int):Prop:=B4 Pg [] 331 [.v (.int .u64 u)] (xl r)
abbrev jS(r:Int × Int):AV:=.tuple [.v (.int .u64 r.1),.v (.int .i64 r.2)]
def ZZ(s:b5k)(r:Int × Int):Prop:=B4 Pg [] 332 [.v (.string s)] (jS r)
def Wl(n0:Nat)(data:b5l (Int × A0))(a b:Int)(cmp:B5)(r:b5l (Int × A0)):Prop:=Y8 Pg D7 8 333 n0 [.v (.int .i64 a),.v (.int .i64 b),.clo (.func cmp.fn) cmp.fi cmp.cap] data r
def Ln(n0:Nat)(data:b5l (Int × A0))(a m b:Int)(cmp:B5)(r:b5l (Int × A0)):Prop:=Y8 Pg D7 8 334 n0 [.v (.int .i64 a),.v (.int .i64 m),.v (.int .i64 b),.clo (.func cmp.fn) cmp.fi cmp.cap] data r
def cl(n0:Nat)(data:b5l (A0 × A0))(n:Int)(cmp:B5)(r:b5l (A0 × A0)):Prop:=Y8 Pg D6 14 335 n0 [.v (.int .i64 n),.clo (.func cmp.fn) cmp.fi cmp.cap] data r
abbrev a7c(r:M8):AV:=U5 r
def Tq(v:A0)(r:M8):Prop:=B4 Pg [] 336 [.agg (C0 v)] (a7c r)
abbrev xR(r:Int):AV:=.v (.int .i64 r)
def ag(a b:A0)(r:Int):Prop:=B4 Pg [] 337 [.agg (C0 a),.agg (C0 b)] (xR r)
abbrev my(r:Int):AV:=.v (.int .i64 r)
def lE(s1_ s2_:b5l A0)(cmp:B5)(r:Int):Prop:=B4 Pg [] 338 [.sl (List.map H1 s1_) .no,.sl (List.map H1 s2_) .no,.clo (.func cmp.fn) cmp.fi cmp.cap] (my r)
abbrev nk(r:Int):AV:=.v (.int .i64 r)
def gP(s1_ s2_:b5l (A0 × A0))(cmp:B5)(r:Int):Prop:=B4 Pg [] 339 [.sl (List.map D6 s1_) .no,.sl (List.map D6 s2_) .no,.clo (.func cmp.fn) cmp.fi cmp.cap] (nk r)
abbrev a9l(r:Int):AV:=.v (.int .i64 r)
def b3i(a b:A0 × A0)(r:Int):Prop:=B4 Pg [] 340 [.agg (Q6 a),.agg (Q6 b)] (a9l r)
abbrev mH(r:Int):AV:=.v (.int .i64 r)
def Me(vals:b5l Int)(r:Int):Prop:=B4 Pg [] 341 [.sl (List.map Al vals) .no] (mH r)
abbrev nY(r:Int):AV:=.v (.int .i64 r)
def oG(s1_ s2_:b5l (Int × A0))(cmp:B5)(r:Int):Prop:=B4 Pg [] 342 [.sl (List.map D7 s1_) .no,.sl (List.map D7 s2_) .no,.clo (.func cmp.fn) cmp.fi cmp.cap] (nY r)
abbrev b0o(r:Int):AV:=.v (.int .i64 r)
def a2e(a b:Int × A0)(r:Int):Prop:=B4 Pg [] 343 [.agg (T9 a),.agg (T9 b)] (b0o r)
abbrev pu(r:Int):AV:=.v (.int .i64 r)
def iw(s1_ s2_:b5l A6)(cmp:B5)(r:Int):Prop:=B4 Pg [] 344 [.sl (List.map C6 s1_) .no,.sl (List.map C6 s2_) .no,.clo (.func cmp.fn) cmp.fi cmp.cap] (pu r)
abbrev a4n(r:Int):AV:=.v (.int .i64 r)
def nq(a b:A6)(r:Int):Prop:=B4 Pg [] 345 [.agg (C6 a),.agg (C6 b)] (a4n r)
abbrev xm(r:b5n):AV:=.v (.bool r)
def cS(kind:Int)(r:b5n):Prop:=B4 Pg [] 346 [.v (.int .i64 kind)] (xm r)
def XR(n0:Nat)(data:b5l A6)(a m b:Int)(cmp:B5)(r:b5l A6):Prop:=Y8 Pg C6 4 347 n0 [.v (.int .i64 a),.v (.int .i64 m),.v (.int .i64 b),.clo (.func cmp.fn) cmp.fi cmp.cap] data r
abbrev a24(r:b5l Int):AV:=.sl (List.map CY r) .no
def fk(c:A4)(n:Int)(r:b5l Int):Prop:=B4 Pg [] 348 [.agg (C9 c),.v (.int .i64 n)] (a24 r)
abbrev a1y(r:b5n):AV:=.v (.bool r)
def be(kind bits:Int)(r:b5n):Prop:=B4 Pg [] 349 [.v (.int .i64 kind),.v (.int .u64 bits)] (a1y r)
abbrev kp(r:Int):AV:=.v (.int .i64 r)
def fL(s:b5l AU)(f:B5)(r:Int):Prop:=B4 Pg [] 355 [.sl (List.map Z0 s) .no,.clo (.func f.fn) f.fi f.cap] (kp r)
abbrev b1z(r:b5n):AV:=.v (.bool r)
def eP(s:b5k)(at_ c:Int)(r:b5n):Prop:=B4 Pg [] 358 [.v (.string s),.v (.int .i64 at_),.v (.int .i32 c)] (b1z r)
abbrev lj(r:Int × Int × Int):AV:=.tuple [.v (.int .u64 r.1),.v (.int .i64 r.2.1),.v (.int .i64 r.2.2)]
def aQ(s:b5k)(r:Int × Int × Int):Prop:=B4 Pg [] 365 [.v (.string s)] (lj r)
abbrev b0n(r:A4):AV:=.agg (C9 r)
def Mn(c:A4)(n:Int)(r:A4):Prop:=B4 Pg [] 366 [.agg (C9 c),.v (.int .i64 n)] (b0n r)
abbrev iP(r:Int × A4 × Int):AV:=.tuple [.v (.int .u64 r.1),.agg (C9 r.2.1),.v (.int .i64 r.2.2)]
def TK(c:A4)(r:Int × A4 × Int):Prop:=B4 Pg [] 367 [.agg (C9 c)] (iP r)
abbrev uz(r:A4 × Int):AV:=.tuple [.agg (C9 r.1),.v (.int .i64 r.2)]
def ZL(c:A4)(n:Int)(r:A4 × Int):Prop:=B4 Pg [] 368 [.agg (C9 c),.v (.int .i64 n)] (uz r)
abbrev a6f(r:A4):AV:=.agg (C9 r)
def Zc(c inner r:A4):Prop:=B4 Pg [] 369 [.agg (C9 c),.agg (C9 inner)] (a6f r)
abbrev uG(r:b5k × A4 × Int):AV:=.tuple [.v (.string r.1),.agg (C9 r.2.1),.v (.int .i64 r.2.2)]
def ai(c:A4)(n:Int)(r:b5k × A4 × Int):Prop:=B4 Pg [] 370 [.agg (C9 c),.v (.int .i64 n)] (uG r)
abbrev a3q(r:Int):AV:=.v (.int .i64 r)
def ZW(u r:Int):Prop:=B4 Pg [] 371 [.v (.int .u64 u)] (a3q r)
abbrev a0k(r:Int):AV:=.v (.int .i64 r)
def Cv(a b r:Int):Prop:=B4 Pg [] 372 [.v (.int .i64 a),.v (.int .i64 b)] (a0k r)
abbrev jX(r:Int):AV:=.v (.int .i64 r)
def pW(a b:b5l A0)(r:Int):Prop:=B4 Pg [] 373 [.sl (List.map H1 a) .no,.sl (List.map H1 b) .no] (jX r)
abbrev oO(r:Int):AV:=.v (.int .i64 r)
def ir(a b:b5l (A0 × A0))(r:Int):Prop:=B4 Pg [] 374 [.sl (List.map D6 a) .no,.sl (List.map D6 b) .no] (oO r)
abbrev kl(r:Int):AV:=.v (.int .i64 r)
def mA(a b:b5l (Int × A0))(r:Int):Prop:=B4 Pg [] 375 [.sl (List.map D7 a) .no,.sl (List.map D7 b) .no] (kl r)
abbrev pI(r:Int):AV:=.v (.int .i64 r)
def iS(a b:b5l A6)(r:Int):Prop:=B4 Pg [] 376 [.sl (List.map C6 a) .no,.sl (List.map C6 b) .no] (pI r)
abbrev a4z(r:Int):AV:=.v (.int .i64 r)
def YD(a b:A0)(r:Int):Prop:=B4 Pg [] 377 [.agg (C0 a),.agg (C0 b)] (a4z r)
def bp(n0:Nat)(data:b5l (Int × A0))(a m b:Int)(cmp:B5)(r:b5l (Int × A0)):Prop:=Y8 Pg D7 8 378 n0 [.v (.int .i64 a),.v (.int .i64 m),.v (.int .i64 b),.clo (.func cmp.fn) cmp.fi cmp.cap] data r
def VO(n0:Nat)(data:b5l (A0 × A0))(a b:Int)(cmp:B5)(r:b5l (A0 × A0)):Prop:=Y8 Pg D6 14 379 n0 [.v (.int .i64 a),.v (.int .i64 b),.clo (.func cmp.fn) cmp.fi cmp.cap] data r
def LO(n0:Nat)(data:b5l (A0 × A0))(a m b:Int)(cmp:B5)(r:b5l (A0 × A0)):Prop:=Y8 Pg D6 14 380 n0 [.v (.int .i64 a),.v (.int .i64 m),.v (.int .i64 b),.clo (.func cmp.fn) cmp.fi cmp.cap] data r
abbrev i6(r:Int):AV:=.v (.int .i64 r)
def WS(x y:b5k)(r:Int):Prop:=B4 Pg [] 381 [.v (.string x),.v (.string y)] (i6 r)
abbrev a9g(r:Int):AV:=.v (.int .i64 r)
def QB(x y r:Int):Prop:=B4 Pg [] 382 [.v (.int .u64 x),.v (.int .u64 y)] (a9g r)
abbrev tB(r:Int):AV:=.v (.int .u64 r)
def WX(bits r:Int):Prop:=B4 Pg [] 383 [.v (.int .u64 bits)] (tB r)
def OY(n0:Nat)(data:b5l A6)(a b n:Int)(cmp:B5)(r:b5l A6):Prop:=Y8 Pg C6 4 384 n0 [.v (.int .i64 a),.v (.int .i64 b),.v (.int .i64 n),.clo (.func cmp.fn) cmp.fi cmp.cap] data r
abbrev a7s(r:b5n):AV:=.v (.bool r)
def cz(s prefix_:b5k)(r:b5n):Prop:=B4 Pg [] 391 [.v (.string s),.v (.string prefix_)] (a7s r)
abbrev a4s(r:Int):AV:=.v (.int .i64 r)
def dg(a b:A6)(r:Int):Prop:=B4 Pg [] 394 [.agg (C6 a),.agg (C6 b)] (a4s r)
abbrev tY(r:Int):AV:=.v (.int .u64 r)
def Mg(v:A0)(r:Int):Prop:=B4 Pg [] 395 [.agg (C0 v)] (tY r)
def Ox(n0:Nat)(data:b5l (Int × A0))(a b n:Int)(cmp:B5)(r:b5l (Int × A0)):Prop:=Y8 Pg D7 8 396 n0 [.v (.int .i64 a),.v (.int .i64 b),.v (.int .i64 n),.clo (.func cmp.fn) cmp.fi cmp.cap] data r
def bi(n0:Nat)(data:b5l (A0 × A0))(a m b:Int)(cmp:B5)(r:b5l (A0 × A0)):Prop:=Y8 Pg D6 14 397 n0 [.v (.int .i64 a),.v (.int .i64 m),.v (.int .i64 b),.clo (.func cmp.fn) cmp.fi cmp.cap] data r
abbrev a2n(r:b5n):AV:=.v (.bool r)
def cO(x:b5k)(r:b5n):Prop:=B4 Pg [] 398 [.v (.string x)] (a2n r)
abbrev a63(r:b5n):AV:=.v (.bool r)
def eG(x:Int)(r:b5n):Prop:=B4 Pg [] 399 [.v (.int .u64 x)] (a63 r)
abbrev qu(r:b5n):AV:=.v (.bool r)
def mi(s prefix_:b5k)(r:b5n):Prop:=B4 Pg [] 405 [.v (.string s),.v (.string prefix_)] (qu r)
abbrev b1s(r:b5n):AV:=.v (.bool r)
def mC(kind:Int)(r:b5n):Prop:=B4 Pg [] 406 [.v (.int .i64 kind)] (b1s r)
def OT(n0:Nat)(data:b5l (A0 × A0))(a b n:Int)(cmp:B5)(r:b5l (A0 × A0)):Prop:=Y8 Pg D6 14 407 n0 [.v (.int .i64 a),.v (.int .i64 b),.v (.int .i64 n),.clo (.func cmp.fn) cmp.fi cmp.cap] data r
theorem Ms{x0:B6}{x1:Int}{r:B6 × Int}:(E3 x0).all ok1/\(E3 r.1).all ok1/\List.all [.ptr 0 0,.v (.int .i64 x1)] okA/\plain (e53 r):=⟨M2 _,M2 _,E1 rfl (E1 (E8 rfl) rfl),iC r⟩
theorem kF{x0:B6}{x1:Int}{x2:A0}{r:B6 × (A0 × Int)}:(E3 x0).all ok1/\(E3 r.1).all ok1/\List.all [.ptr 0 0,.v (.int .i64 x1),.agg (C0 x2)] okA/\plain (e54 r):=⟨M2 _,M2 _,E1 rfl (E1 (E8 rfl) (E1 (E8 (N0 x2)) rfl)),jU r⟩
theorem p6{x0:B6}{x1:B7}{x2:A0}{x3:A7}{x4:Int}{r:B6 × (A0 × Int)}:(E3 x0).all ok1/\(E3 r.1).all ok1/\List.all [.ptr 0 0,.agg (F9 x1),.agg (C0 x2),.agg (E2 x3),.v (.int .i64 x4)] okA/\plain (XD r):=⟨M2 _,M2 _,E1 rfl (E1 (E8 (Q5 x1)) (E1 (E8 (N0 x2)) (E1 (E8 (P3 x3)) (E1 (E8 rfl) rfl)))),gu r⟩
theorem xH{x1:B5}:List.all [.clo (.func x1.fn) x1.fi x1.cap] okA:=(E1 (E8 (Ag x1)) rfl)
theorem a8m{x0:B6}{x1:B7}{x2:A0}{x3:A7}{r:B6 × (A0 × Int)}:(E3 x0).all ok1/\(E3 r.1).all ok1/\List.all [.ptr 0 0,.agg (F9 x1),.agg (C0 x2),.agg (E2 x3)] okA/\plain (Mj r):=⟨M2 _,M2 _,E1 rfl (E1 (E8 (Q5 x1)) (E1 (E8 (N0 x2)) (E1 (E8 (P3 x3)) rfl))),kD r⟩
theorem vf{x0:B6}{x1:B7}{x2:A0}{x3:A7}{r:B6 × (A0 × Int)}:(E3 x0).all ok1/\(E3 r.1).all ok1/\List.all [.ptr 0 0,.agg (F9 x1),.agg (C0 x2),.agg (E2 x3)] okA/\plain (MQ r):=⟨M2 _,M2 _,E1 rfl (E1 (E8 (Q5 x1)) (E1 (E8 (N0 x2)) (E1 (E8 (P3 x3)) rfl))),kj r⟩
theorem zM{x0:B6}{x1:B7}{x2:A0}{x3:A7}{r:B6 × (A0 × Int)}:(E3 x0).all ok1/\(E3 r.1).all ok1/\List.all [.ptr 0 0,.agg (F9 x1),.agg (C0 x2),.agg (E2 x3)] okA/\plain (ND r):=⟨M2 _,M2 _,E1 rfl (E1 (E8 (Q5 x1)) (E1 (E8 (N0 x2)) (E1 (E8 (P3 x3)) rfl))),qJ r⟩
theorem pE{x0:B6}{x1:B7}{x2:A0}{x3:A7}{r:B6 × (A0 × Int)}:(E3 x0).all ok1/\(E3 r.1).all ok1/\List.all [.ptr 0 0,.agg (F9 x1),.agg (C0 x2),.agg (E2 x3)] okA/\plain (RF r):=⟨M2 _,M2 _,E1 rfl (E1 (E8 (Q5 x1)) (E1 (E8 (N0 x2)) (E1 (E8 (P3 x3)) rfl))),mu r⟩
theorem a41{x1:B5}:List.all [.clo (.func x1.fn) x1.fi x1.cap] okA:=(E1 (E8 (Ag x1)) rfl)
theorem tX{x1:Int}{x2:B5}:List.all [.v (.int .i64 x1),.clo (.func x2.fn) x2.fi x2.cap] okA:=(E1 (E8 rfl) (E1 (E8 (Ag x2)) rfl))
theorem Ri{x0:B6}{r:B6 × (Int × Int)}:(E3 x0).all ok1/\(E3 r.1).all ok1/\List.all [.ptr 0 0] okA/\plain (RT r):=⟨M2 _,M2 _,E1 rfl rfl,qR r⟩
theorem fy{x0:B6}{x1:Int}{r:B6 × A4}:(E3 x0).all ok1/\(E3 r.1).all ok1/\List.all [.ptr 0 0,.v (.int .i64 x1)] okA/\plain (Ue r):=⟨M2 _,M2 _,E1 rfl (E1 (E8 rfl) rfl),nS r⟩
theorem nU{x0:B6}{x1:A7}{x2:Int}{r:B6 × (A0 × Int)}:(E3 x0).all ok1/\(E3 r.1).all ok1/\List.all [.ptr 0 0,.agg (E2 x1),.v (.int .i64 x2)] okA/\plain (Vm r):=⟨M2 _,M2 _,E1 rfl (E1 (E8 (P3 x1)) (E1 (E8 rfl) rfl)),ob r⟩
theorem qK{x0:B6}{x1:A4}{r:B6}:(E3 x0).all ok1/\(E3 r).all ok1/\List.all [.ptr 0 0,.agg (C9 x1)] okA/\plain (Uq r):=⟨M2 _,M2 _,E1 rfl (E1 (E8 (Ba x1)) rfl),pT r⟩
theorem aJ{x0:B6}{x1:Int}{x2:A0}{x3:Int}{r:B6 × (A0 × Int)}:(E3 x0).all ok1/\(E3 r.1).all ok1/\List.all [.ptr 0 0,.v (.int .i64 x1),.agg (C0 x2),.v (.int .i64 x3)] okA/\plain (Rr r):=⟨M2 _,M2 _,E1 rfl (E1 (E8 rfl) (E1 (E8 (N0 x2)) (E1 (E8 rfl) rfl))),iD r⟩
theorem pr{x0:B6}{x1:Int}{r:B6 × (A6 × Int)}:(E3 x0).all ok1/\(E3 r.1).all ok1/\List.all [.ptr 0 0,.v (.int .i64 x1)] okA/\plain (Rn r):=⟨M2 _,M2 _,E1 rfl (E1 (E8 rfl) rfl),jq r⟩
theorem a4m{x1:Int}{x2:B5}:List.all [.v (.int .i64 x1),.clo (.func x2.fn) x2.fi x2.cap] okA:=(E1 (E8 rfl) (E1 (E8 (Ag x2)) rfl))
theorem vV{x1:B5}:List.all [.clo (.func x1.fn) x1.fi x1.cap] okA:=(E1 (E8 (Ag x1)) rfl)
theorem iM{x1 x2:Int}{x3:B5}:List.all [.v (.int .i64 x1),.v (.int .i64 x2),.clo (.func x3.fn) x3.fi x3.cap] okA:=(E1 (E8 rfl) (E1 (E8 rfl) (E1 (E8 (Ag x3)) rfl)))
theorem RC{x1 x2 x3:Int}{x4:B5}:List.all [.v (.int .i64 x1),.v (.int .i64 x2),.v (.int .i64 x3),.clo (.func x4.fn) x4.fi x4.cap] okA:=(E1 (E8 rfl) (E1 (E8 rfl) (E1 (E8 rfl) (E1 (E8 (Ag x4)) rfl))))
theorem gO{x1 x2:Int}{x3:B5}:List.all [.v (.int .i64 x1),.v (.int .i64 x2),.clo (.func x3.fn) x3.fi x3.cap] okA:=(E1 (E8 rfl) (E1 (E8 rfl) (E1 (E8 (Ag x3)) rfl)))
theorem Ua{x1 x2 x3:Int}{x4:B5}:List.all [.v (.int .i64 x1),.v (.int .i64 x2),.v (.int .i64 x3),.clo (.func x4.fn) x4.fi x4.cap] okA:=(E1 (E8 rfl) (E1 (E8 rfl) (E1 (E8 rfl) (E1 (E8 (Ag x4)) rfl))))
theorem b3y{x1:Int}{x2:B5}:List.all [.v (.int .i64 x1),.clo (.func x2.fn) x2.fi x2.cap] okA:=(E1 (E8 rfl) (E1 (E8 (Ag x2)) rfl))
theorem a9q{x1 x2 x3:Int}{x4:B5}:List.all [.v (.int .i64 x1),.v (.int .i64 x2),.v (.int .i64 x3),.clo (.func x4.fn) x4.fi x4.cap] okA:=(E1 (E8 rfl) (E1 (E8 rfl) (E1 (E8 rfl) (E1 (E8 (Ag x4)) rfl))))
theorem a6u{x1 x2 x3:Int}{x4:B5}:List.all [.v (.int .i64 x1),.v (.int .i64 x2),.v (.int .i64 x3),.clo (.func x4.fn) x4.fi x4.cap] okA:=(E1 (E8 rfl) (E1 (E8 rfl) (E1 (E8 rfl) (E1 (E8 (Ag x4)) rfl))))
theorem qS{x1 x2:Int}{x3:B5}:List.all [.v (.int .i64 x1),.v (.int .i64 x2),.clo (.func x3.fn) x3.fi x3.cap] okA:=(E1 (E8 rfl) (E1 (E8 rfl) (E1 (E8 (Ag x3)) rfl)))
theorem Rz{x1 x2 x3:Int}{x4:B5}:List.all [.v (.int .i64 x1),.v (.int .i64 x2),.v (.int .i64 x3),.clo (.func x4.fn) x4.fi x4.cap] okA:=(E1 (E8 rfl) (E1 (E8 rfl) (E1 (E8 rfl) (E1 (E8 (Ag x4)) rfl))))
theorem ZT{x1 x2 x3:Int}{x4:B5}:List.all [.v (.int .i64 x1),.v (.int .i64 x2),.v (.int .i64 x3),.clo (.func x4.fn) x4.fi x4.cap] okA:=(E1 (E8 rfl) (E1 (E8 rfl) (E1 (E8 rfl) (E1 (E8 (Ag x4)) rfl))))
theorem Yg{x1 x2 x3:Int}{x4:B5}:List.all [.v (.int .i64 x1),.v (.int .i64 x2),.v (.int .i64 x3),.clo (.func x4.fn) x4.fi x4.cap] okA:=(E1 (E8 rfl) (E1 (E8 rfl) (E1 (E8 rfl) (E1 (E8 (Ag x4)) rfl))))
theorem zr{x1 x2 x3:Int}{x4:B5}:List.all [.v (.int .i64 x1),.v (.int .i64 x2),.v (.int .i64 x3),.clo (.func x4.fn) x4.fi x4.cap] okA:=(E1 (E8 rfl) (E1 (E8 rfl) (E1 (E8 rfl) (E1 (E8 (Ag x4)) rfl))))
theorem Xi{x1 x2 x3:Int}{x4:B5}:List.all [.v (.int .i64 x1),.v (.int .i64 x2),.v (.int .i64 x3),.clo (.func x4.fn) x4.fi x4.cap] okA:=(E1 (E8 rfl) (E1 (E8 rfl) (E1 (E8 rfl) (E1 (E8 (Ag x4)) rfl))))
section
attribute [local irreducible] Ok run put W1 br jn pos HO GH DU So
attribute [-simp] List.map_take List.map_drop List.map_append List.map_set List.map_replicate List.map_cons List.map_map
attribute [local simp] plain C3 Y4 S9 K2 low E0 K7 V0 U6 U9 V8 U8 V4 V5 U7 V1 V7 V3 V6 X1 P3 W7 Q5 X4 U2 Y7 N0 Y1 X0 Y3 X3 Y9 Z7 AZ AP Af Ac Au Ar BO Bb Bd Bu Bv Ba Cd DB DF DX Dr EX EZ Fb FE FY FL Fq Al CY FQ Fk CJ BP CW Ft Ho Hn Hk Ix Jh Hh Ip Hd JZ IQ Ig Hq JY JR Jv Ha IC IM Hf Jo Jj He Hz KG Hv JL Kc Ih IL Ii HV Ji Hc IS Ir Jr Hx Iu Kd Hp Hy KH JJ Iv JW Jl Hm IJ IN Jy JE If JM Jg Ka Je Iy Js Jn IG Il Jm IR Hl JC JG IU JF Hs II JO Jc Ke
theorem a3v(p:A8)(name data:b5k)(r:b5n)(hw:∃y1,aa p y1/\(IF (y1 !=0) (∃y2,QD y2/\(r=y2)) (∃y3,iB p name data y3/\(∃y4,ly p name data y4/\(IF (y3 !=y4) (r=false) (∃y5,SJ y5/\(∃y6,TN p name data y5 y6/\(IF (y6.2 !=0) (JN (λbz1:b5n=>r=bz1) λR1=>IF (y3==0) (∃y7,QD y7/\(R1 y7)) (R1 false)) (∃y8,Ly y6.1 y8/\(IF (y3==y8) (∃y9,QD y9/\(r=y9)) (r=false))))))))))):jc p name data r:=
 fP hw<|KC 10<|KW 3 (KC 2<|KR 5)<|KC 7<|KC 10<|KW 3 (KR 7)<|KD 3 [0]<|KC 3<|KC 0<|KV 4<|KW 11 (KQ 5 2 kB (KR 5) (λkey=>KC 0<|KE 1 key) λkey=>KE 2 key)<|KC 6<|KW 2 (KC 0<|KR 5)<|KR 6
theorem a9w(p:A8)(r:Int)(hw:∃y1,ZK p y1/\(IF (!y1) (r=3) (∃y2,YH p y2/\(IF (!y2) (r=8) (∃y3,bd p y3/\(IF (!y3) (r=11) (∃y4,ZN p y4/\(IF (!y4) (r=9) (∃y5,Xu p y5/\(IF (!y5) (r=6) (∃y6,dT p y6/\(IF (!y6) (r=1) (∃y7,bm p y7/\(IF (!y7) (r=19) (r=0))))))))))))))):aa p r:=
 fP hw<|KC 11<|KW 4 (KR 8)<|KC 3<|KW 4 (KR 8)<|KC 3<|KW 4 (KR 8)<|KC 3<|KW 4 (KR 8)<|KC 3<|KW 4 (KR 8)<|KC 3<|KW 4 (KR 8)<|KC 3<|KW 4 (KR 8)<|KR 9
theorem nE(p:A8)(name data:b5k)(r:Int)(hw:∃y1,SJ y1/\(∃y2,TN p name data y1 y2/\(IF (y2.2 !=0) (r=0) (∃y3,Ly y2.1 y3/\(r=y3))))):iB p name data r:=
 fP hw<|KD 7 [0]<|KC 3<|KC 0<|KV 4<|KW 11 (KR 7)<|KC 5<|KR 4
theorem iO(p:A8)(name data:b5k)(r:Int)(hw:∃y1,YL y1/\(∃y2,eH p name data y1 y2/\(IF (y2.2 !=0) (r=0) (∃y3,EA y2.1 y3/\(r=y3))))):ly p name data r:=
 fP hw<|KD 7 [0]<|KC 3<|KC 0<|KV 4<|KW 11 (KR 7)<|KC 5<|KR 4
theorem a1m(p:A8)(name data:b5k)(l:T2)(r:A0 × Int)(hw:∃y1,Xa p name (⟨10,0,⟨#[]⟩,[],[],[],[]⟩:A0) data l y1/\(IF (y1.2 !=0) (r=((⟨0,0,⟨#[]⟩,[],[],[],[]⟩:A0),y1.2)) (∃y2,UR p name y2/\(∃y3,MB p y2.1 y1.1 y3/\(IF (!y3) (r=((⟨0,0,⟨#[]⟩,[],[],[],[]⟩:A0),14)) (r=(y1.1,0))))))):TN p name data l r:=
 fP hw<|KC 15<|KW 15 (KR 10)<|KC 6<|KC 13<|KW 3 (KR 9)<|KR 10
theorem v4(r:T2)(hw:r=(⟨65536,16,4096,4096⟩:T2)):SJ r:=
 fP hw<|KR 12
def Si(ij1:Int)(y1:b5l A0)(ij2:Int)(v:A0)(r:Int):Prop:=J Pg 15 (.ret (e15 r)) 4 [(9,aI ij1),(8,aI (y1.length:Int)),(7,.sl (List.map H1 y1) .no),(3,aI ij2),(1,.ptr 0 0)] ⟨[some (C0 v)],[],[]⟩
theorem a6b(ij1:Int)(y1:b5l A0)(ij2:Int)(v:A0)(r:Int)(hw:ID (ij1<(y1.length:Int)) (IX y1 ij1 λy4=>∃y5,Ly y4 y5/\(Si (wI (ij1+1)) y1 (max ij2 y5) v r)) (IF (v.Kind==10) (r=(wI (ij2+1))) (r=ij2))):Si ij1 y1 ij2 v r:=
 fJ hw<|KW 7 (KI 6 K6<|KC 8<|D9 10 [])<|KW 13 (KR 13)<|KR 9
theorem zS(v:A0)(r:Int)(hw:∃y1,ZU v y1/\(Si 0 y1 0 v r)):Ly v r:=
 fP hw<|KC 15 λ{y1}=>KL 0 K6 y1<|KJ 5
def Pe(ij5:Int)(bj6:b5n)(p:A8)(r:b5n):Prop:=J Pg 16 (.ret (e16 r)) 10 [(5,aI ij5),(3,aB bj6),(1,.ptr 0 0)] ⟨[some (D0 p)],[],[]⟩
def QA(ij3:Int)(bj4:b5n)(p:A8)(r:b5n):Prop:=J Pg 16 (.ret (e16 r)) 4 [(4,aI ij3),(3,aB bj4),(1,.ptr 0 0)] ⟨[some (D0 p)],[],[]⟩
theorem nG(ij5:Int)(bj6:b5n)(p:A8)(r:b5n)(hw:ID (ij5<(p.D8.length:Int)) (IX p.D8 ij5 λy12=>IF ((bj6&&(decide (1<=(y12.Items.length:Int))))&&(decide ((y12.Items.length:Int)<=64))) (IX p.D8 ij5 λy14=>Pe (wI (ij5+1)) (decide ((y14.Reserved.length:Int)<=16)) p r) (Pe (wI (ij5+1)) false p r)) (r=bj6)):Pe ij5 bj6 p r:=
 fJ hw<|KL 7 O7 p.D8<|KW 3 (KI 9 O7 λ{y12}=>KL 2 Aw y12.Items<|KT 6 3<|KT 1 3<|KW 1 (KI 3 O7 λ{y14}=>KL 2 JH y14.Reserved<|KJ 12)<|KJ 19)<|KR 12
theorem iY(ij3:Int)(bj4:b5n)(p:A8)(r:b5n)(hw:ID (ij3<(p.B3.length:Int)) (IF bj4 (IX p.B3 ij3 λy16=>QA (wI (ij3+1)) (decide ((y16.Ops.length:Int)<=64)) p r) (QA (wI (ij3+1)) false p r)) (Pe 0 bj4 p r)):QA ij3 bj4 p r:=
 fJ hw<|KL 7 J7 p.B3<|KW 3 (KW 7 (KI 3 J7 λ{y16}=>KL 2 O2 y16.Ops<|KJ 12)<|KJ 19)<|KJ 13
theorem ye(p:A8)(r:b5n)(hw:QA 0 ((decide ((p.B3.length:Int)<=64))&&(decide ((p.D8.length:Int)<=64))) p r):ZK p r:=
 fP hw<|KL 10 J7 p.B3<|U4 2 5 (decide ((p.B3.length:Int)<=64)) (λz=>aB (z&&(decide ((p.D8.length:Int)<=64)))) (λkey=>KL 2 O7 p.D8<|J0 2 key) (λkey=>J0 5 key)<|KJ 11
def Np(ij15:Int)(bj16:b5n)(ij13:Int)(p:A8)(r:b5n):Prop:=J Pg 17 (.ret (e17 r)) 22 [(7,aI ij15),(3,aB bj16),(6,aI ij13),(1,.ptr 0 0)] ⟨[some (D0 p)],[],[]⟩
def NV(ij13:Int)(bj14:b5n)(p:A8)(r:b5n):Prop:=J Pg 17 (.ret (e17 r)) 16 [(6,aI ij13),(3,aB bj14),(1,.ptr 0 0)] ⟨[some (D0 p)],[],[]⟩
def OP(ij17:Int)(bj18:b5n)(ij9:Int)(p:A8)(r:b5n):Prop:=J Pg 17 (.ret (e17 r)) 10 [(5,aI ij17),(3,aB bj18),(4,aI ij9),(1,.ptr 0 0)] ⟨[some (D0 p)],[],[]⟩
def PM(ij9:Int)(bj10:b5n)(p:A8)(r:b5n):Prop:=J Pg 17 (.ret (e17 r)) 4 [(4,aI ij9),(3,aB bj10),(1,.ptr 0 0)] ⟨[some (D0 p)],[],[]⟩
theorem pk(ij15:Int)(bj16:b5n)(ij13:Int)(p:A8)(r:b5n)(hw:IX p.D8 ij13 λy59=>ID (ij15<(y59.Items.length:Int)) (IF bj16 (IX p.D8 ij13 λy61=>IX y61.Items ij15 λy62=>∃y63,Ux y62.Name y63/\(Np (wI (ij15+1)) y63 ij13 p r)) (Np (wI (ij15+1)) false ij13 p r)) (NV (wI (ij13+1)) bj16 p r)):Np ij15 bj16 ij13 p r:=
 fJ hw<|KI 8 O7 λ{y59}=>KL 2 Aw y59.Items<|KW 3 (KW 7 (KI 3 O7<|KI 3 Aw<|KC 2<|KJ 11)<|KJ 22)<|KJ 12
theorem ii(ij13:Int)(bj14:b5n)(p:A8)(r:b5n)(hw:ID (ij13<(p.D8.length:Int)) (JN (λbz3:b5n=>Np 0 bz3 ij13 p r) λR3=>IF bj14 (IX p.D8 ij13 λy52=>∃y53,SA y52.Name y53/\(R3 y53)) (R3 false)) (r=bj14)):NV ij13 bj14 p r:=
 fJ hw<|KL 7 O7 p.D8<|KW 3 (KQ 8 8 kB (KJ 10) (λkey=>KI 3 O7<|KC 2<|KE 1 key) λkey=>KE 8 key)<|KR 12
theorem mh(ij17:Int)(bj18:b5n)(ij9:Int)(p:A8)(r:b5n)(hw:IX p.B3 ij9 λy72=>ID (ij17<(y72.Ops.length:Int)) (IF bj18 (IX p.B3 ij9 λy74=>IX y74.Ops ij17 λy75=>∃y76,Ux y75.Name y76/\(OP (wI (ij17+1)) y76 ij9 p r)) (OP (wI (ij17+1)) false ij9 p r)) (PM (wI (ij9+1)) bj18 p r)):OP ij17 bj18 ij9 p r:=
 fJ hw<|KI 8 J7 λ{y72}=>KL 2 O2 y72.Ops<|KW 3 (KW 7 (KI 3 J7<|KI 3 O2<|KC 2<|KJ 11)<|KJ 22)<|KJ 12
theorem km(ij9:Int)(bj10:b5n)(p:A8)(r:b5n)(hw:ID (ij9<(p.B3.length:Int)) (JN (λbz4:b5n=>OP 0 bz4 ij9 p r) λR4=>IF bj10 (IX p.B3 ij9 λy65=>∃y66,SA y65.Name y66/\(R4 y66)) (R4 false)) (NV 0 bj10 p r)):PM ij9 bj10 p r:=
 fJ hw<|KL 7 J7 p.B3<|KW 3 (KQ 8 8 kB (KJ 10) (λkey=>KI 3 J7<|KC 2<|KE 1 key) λkey=>KE 8 key)<|KJ 13
theorem m8(p:A8)(r:b5n)(hw:PM 0 true p r):YH p r:=
 fP hw<|KJ 19
def Nx(ij15:Int)(bj16:b5n)(ij13:Int)(p:A8)(r:b5n):Prop:=J Pg 18 (.ret (e18 r)) 22 [(7,aI ij15),(3,aB bj16),(6,aI ij13),(1,.ptr 0 0)] ⟨[some (D0 p)],[],[]⟩
def Ow(ij13:Int)(bj14:b5n)(p:A8)(r:b5n):Prop:=J Pg 18 (.ret (e18 r)) 16 [(6,aI ij13),(3,aB bj14),(1,.ptr 0 0)] ⟨[some (D0 p)],[],[]⟩
def Ml(ij17:Int)(bj18:b5n)(ij9:Int)(p:A8)(r:b5n):Prop:=J Pg 18 (.ret (e18 r)) 10 [(5,aI ij17),(3,aB bj18),(4,aI ij9),(1,.ptr 0 0)] ⟨[some (D0 p)],[],[]⟩
def Ou(ij9:Int)(bj10:b5n)(p:A8)(r:b5n):Prop:=J Pg 18 (.ret (e18 r)) 4 [(4,aI ij9),(3,aB bj10),(1,.ptr 0 0)] ⟨[some (D0 p)],[],[]⟩
theorem kO(ij15:Int)(bj16:b5n)(ij13:Int)(p:A8)(r:b5n)(hw:IX p.D8 ij13 λy61=>ID (ij15<(y61.Items.length:Int)) (IF bj16 (IX p.D8 ij13 λy63=>IX y63.Items (wI (ij15 - 1)) λy64=>IX p.D8 ij13 λy65=>IX y65.Items ij15 λy66=>Nx (wI (ij15+1)) (decide (y64.Num<y66.Num)) ij13 p r) (Nx (wI (ij15+1)) false ij13 p r)) (Ow (wI (ij13+1)) bj16 p r)):Nx ij15 bj16 ij13 p r:=
 fJ hw<|KI 8 O7 λ{y61}=>KL 2 Aw y61.Items<|KW 3 (KD 4 [0]<|KW 2 (KI 3 O7<|KI 4 Aw<|KI 5 O7<|KI 3 Aw<|KJ 15)<|KJ 34)<|KJ 12
theorem nj(ij13:Int)(bj14:b5n)(p:A8)(r:b5n)(hw:ID (ij13<(p.D8.length:Int)) (JN (λbz3:b5n=>Nx 1 bz3 ij13 p r) λR3=>IF bj14 (JN (λbz4:b5n=>R3 bz4) λR4=>IF (ij13==0) (R4 true) (IX p.D8 (wI (ij13 - 1)) λy53=>IX p.D8 ij13 λy54=>R4 (Op.bytesLess y53.Name.toList y54.Name.toList))) (R3 false)) (r=bj14)):Ow ij13 bj14 p r:=
 fJ hw<|KL 7 O7 p.D8<|KW 3 (KD 5 [0]<|KQ 2 20 kB (KJ 10) (λkey=>KQ 3 16 kB (KE 1 key) (λkey=>KE 16 key) λkey=>KI 4 O7<|KI 5 O7<|KE 5 key) λkey=>KE 20 key)<|KR 12
theorem gW(ij17:Int)(bj18:b5n)(ij9:Int)(p:A8)(r:b5n)(hw:IX p.B3 ij9 λy77=>ID (ij17<(y77.Ops.length:Int)) (IF bj18 (IX p.B3 ij9 λy79=>IX y79.Ops (wI (ij17 - 1)) λy80=>IX p.B3 ij9 λy81=>IX y81.Ops ij17 λy82=>Ml (wI (ij17+1)) (decide (y80.Num<y82.Num)) ij9 p r) (Ml (wI (ij17+1)) false ij9 p r)) (Ou (wI (ij9+1)) bj18 p r)):Ml ij17 bj18 ij9 p r:=
 fJ hw<|KI 8 J7 λ{y77}=>KL 2 O2 y77.Ops<|KW 3 (KD 4 [0]<|KW 2 (KI 3 J7<|KI 4 O2<|KI 5 J7<|KI 3 O2<|KJ 15)<|KJ 34)<|KJ 12
theorem pG(ij9:Int)(bj10:b5n)(p:A8)(r:b5n)(hw:ID (ij9<(p.B3.length:Int)) (JN (λbz5:b5n=>Ml 1 bz5 ij9 p r) λR5=>IF bj10 (JN (λbz6:b5n=>R5 bz6) λR6=>IF (ij9==0) (R6 true) (IX p.B3 (wI (ij9 - 1)) λy69=>IX p.B3 ij9 λy70=>R6 (Op.bytesLess y69.Name.toList y70.Name.toList))) (R5 false)) (Ow 0 bj10 p r)):Ou ij9 bj10 p r:=
 fJ hw<|KL 7 J7 p.B3<|KW 3 (KD 5 [0]<|KQ 2 20 kB (KJ 10) (λkey=>KQ 3 16 kB (KE 1 key) (λkey=>KE 16 key) λkey=>KI 4 J7<|KI 5 J7<|KE 5 key) λkey=>KE 20 key)<|KJ 13
theorem xZ(p:A8)(r:b5n)(hw:Ou 0 true p r):bd p r:=
 fP hw<|KJ 19
def PQ(ij49 ij47:Int)(y69:N4)(ij42:Int)(bj50:b5n)(p:A8)(r:b5n):Prop:=J Pg 19 (.ret (e19 r)) 38 [(12,aI ij49),(11,aI ij47),(10,.sl (List.map Z0 y69.Items) .no),(9,aI ij42),(3,aB bj50),(1,.ptr 0 0)] ⟨[some (D0 p)],[],[]⟩
def Ny(ij47:Int)(y69:N4)(ij42:Int)(bj48:b5n)(p:A8)(r:b5n):Prop:=J Pg 19 (.ret (e19 r)) 33 [(11,aI ij47),(10,.sl (List.map Z0 y69.Items) .no),(9,aI ij42),(3,aB bj48),(1,.ptr 0 0)] ⟨[some (D0 p)],[],[]⟩
def PE(ij42:Int)(bj43:b5n)(p:A8)(r:b5n):Prop:=J Pg 19 (.ret (e19 r)) 27 [(9,aI ij42),(3,aB bj43),(1,.ptr 0 0)] ⟨[some (D0 p)],[],[]⟩
def OO(ij65 ij63:Int)(y98:B7)(ij33:Int)(bj66:b5n)(p:A8)(r:b5n):Prop:=J Pg 19 (.ret (e19 r)) 21 [(8,aI ij65),(7,aI ij63),(6,.sl (List.map E2 y98.Ops) .no),(4,aI ij33),(3,aB bj66),(1,.ptr 0 0)] ⟨[some (D0 p)],[],[]⟩
def NP(ij63:Int)(y98:B7)(ij33:Int)(bj64:b5n)(p:A8)(r:b5n):Prop:=J Pg 19 (.ret (e19 r)) 16 [(7,aI ij63),(6,.sl (List.map E2 y98.Ops) .no),(4,aI ij33),(3,aB bj64),(1,.ptr 0 0)] ⟨[some (D0 p)],[],[]⟩
def Nq(ij58 ij33:Int)(bj59:b5n)(p:A8)(r:b5n):Prop:=J Pg 19 (.ret (e19 r)) 10 [(5,aI ij58),(4,aI ij33),(3,aB bj59),(1,.ptr 0 0)] ⟨[some (D0 p)],[],[]⟩
def Mp(ij33:Int)(bj34:b5n)(p:A8)(r:b5n):Prop:=J Pg 19 (.ret (e19 r)) 4 [(4,aI ij33),(3,aB bj34),(1,.ptr 0 0)] ⟨[some (D0 p)],[],[]⟩
theorem ia(ij49 ij47:Int)(y69:N4)(ij42:Int)(bj50:b5n)(p:A8)(r:b5n)(hw:ID (ij49<ij47) (IF bj50 (IX y69.Items ij49 λy80=>IX y69.Items ij47 λy81=>PQ (wI (ij49+1)) ij47 y69 ij42 (!(decide (y80.Name=y81.Name))) p r) (PQ (wI (ij49+1)) ij47 y69 ij42 false p r)) (Ny (wI (ij47+1)) y69 ij42 bj50 p r)):PQ ij49 ij47 y69 ij42 bj50 p r:=
 fJ hw<|KW 9 (KD 4 []<|KW 2 (KI 2 Aw<|KI 4 Aw<|KJ 15)<|KJ 23)<|KJ 12
theorem iy(ij47:Int)(y69:N4)(ij42:Int)(bj48:b5n)(p:A8)(r:b5n)(hw:ID (ij47<(y69.Items.length:Int)) (PQ 0 ij47 y69 ij42 bj48 p r) (PE (wI (ij42+1)) bj48 p r)):Ny ij47 y69 ij42 bj48 p r:=
 fJ hw<|KL 6 Aw y69.Items<|KW 3 (KJ 11)<|KJ 12
theorem jC(ij42:Int)(bj43:b5n)(p:A8)(r:b5n)(hw:ID (ij42<(p.D8.length:Int)) (IX p.D8 ij42 λy69=>Ny 0 y69 ij42 bj43 p r) (r=bj43)):PE ij42 bj43 p r:=
 fJ hw<|KL 7 O7 p.D8<|KW 3 (KI 9 O7<|KJ 12)<|KR 12
theorem jv(ij65 ij63:Int)(y98:B7)(ij33:Int)(bj66:b5n)(p:A8)(r:b5n)(hw:ID (ij65<ij63) (IF bj66 (IX y98.Ops ij65 λy109=>IX y98.Ops ij63 λy110=>OO (wI (ij65+1)) ij63 y98 ij33 (!(decide (y109.Name=y110.Name))) p r) (OO (wI (ij65+1)) ij63 y98 ij33 false p r)) (NP (wI (ij63+1)) y98 ij33 bj66 p r)):OO ij65 ij63 y98 ij33 bj66 p r:=
 fJ hw<|KW 9 (KD 4 []<|KW 2 (KI 2 O2<|KI 4 O2<|KJ 15)<|KJ 23)<|KJ 12
theorem fa(ij63:Int)(y98:B7)(ij33:Int)(bj64:b5n)(p:A8)(r:b5n)(hw:ID (ij63<(y98.Ops.length:Int)) (OO 0 ij63 y98 ij33 bj64 p r) (Mp (wI (ij33+1)) bj64 p r)):NP ij63 y98 ij33 bj64 p r:=
 fJ hw<|KL 6 O2 y98.Ops<|KW 3 (KJ 11)<|KJ 12
theorem ku(ij58 ij33:Int)(bj59:b5n)(p:A8)(r:b5n)(hw:ID (ij58<(p.D8.length:Int)) (IF bj59 (IX p.B3 ij33 λy112=>IX p.D8 ij58 λy113=>Nq (wI (ij58+1)) ij33 (!(decide (y112.Name=y113.Name))) p r) (Nq (wI (ij58+1)) ij33 false p r)) (IX p.B3 ij33 λy98=>NP 0 y98 ij33 bj59 p r)):Nq ij58 ij33 bj59 p r:=
 fJ hw<|KL 7 O7 p.D8<|KW 3 (KD 4 [0]<|KW 2 (KI 3 J7<|KI 5 O7<|KJ 15)<|KJ 25)<|KI 10 J7<|KJ 12
theorem fN(ij33:Int)(bj34:b5n)(p:A8)(r:b5n)(hw:ID (ij33<(p.B3.length:Int)) (Nq 0 ij33 bj34 p r) (PE 0 bj34 p r)):Mp ij33 bj34 p r:=
 fJ hw<|KL 7 J7 p.B3<|KW 3 (KJ 12)<|KJ 13
theorem rH(p:A8)(r:b5n)(hw:Mp 0 true p r):ZN p r:=
 fP hw<|KJ 19
def LX(ij31 ij25:Int)(bj32:b5n)(p:A8)(y52:N4)(r:b5n):Prop:=J Pg 20 (.ret (e20 r)) 29 [(11,aI ij31),(8,.ptr 1 0),(7,aI ij25),(3,aB bj32),(1,.ptr 0 0)] ⟨[some (D0 p),some (U1 y52)],[],[]⟩
def QW(ij29 ij25:Int)(bj30:b5n)(p:A8)(y52:N4)(r:b5n):Prop:=J Pg 20 (.ret (e20 r)) 23 [(9,aI ij29),(8,.ptr 1 0),(7,aI ij25),(3,aB bj30),(1,.ptr 0 0)] ⟨[some (D0 p),some (U1 y52)],[],[]⟩
def Lc(ij25:Int)(bj26:b5n)(p:A8)(r:b5n):Prop:=J Pg 20 (.ret (e20 r)) 16 [(7,aI ij25),(3,aB bj26),(1,.ptr 0 0)] ⟨[some (D0 p)],[],[]⟩
def RN(ij33 ij17:Int)(bj34:b5n)(p:A8)(r:b5n):Prop:=J Pg 20 (.ret (e20 r)) 9 [(5,aI ij33),(4,aI ij17),(3,aB bj34),(1,.ptr 0 0)] ⟨[some (D0 p)],[],[]⟩
def OA(ij17:Int)(bj18:b5n)(p:A8)(r:b5n):Prop:=J Pg 20 (.ret (e20 r)) 4 [(4,aI ij17),(3,aB bj18),(1,.ptr 0 0)] ⟨[some (D0 p)],[],[]⟩
theorem fR(ij31 ij25:Int)(bj32:b5n)(p:A8)(y52:N4)(r:b5n)(hw:ID (ij31<(y52.Reserved.length:Int)) (IX y52.Reserved ij31 λy61=>IF (((bj32&&(decide (0<=y61.From)))&&(decide (y61.To<=2147483647)))&&(decide (y61.From<=y61.To))) (IF (ij31==0) (LX (wI (ij31+1)) ij25 true p y52 r) (IX y52.Reserved (wI (ij31 - 1)) λy64=>LX (wI (ij31+1)) ij25 (decide (y64.To<y61.From)) p y52 r)) (LX (wI (ij31+1)) ij25 false p y52 r)) (Lc (wI (ij25+1)) bj32 p r)):LX ij31 ij25 bj32 p y52 r:=
 fJ hw<|KL 7 JH y52.Reserved<|KW 3 (KI 9 JH<|KD 5 [1,2]<|KT 2 4<|KT 1 4<|KT 1 6<|KW 1 (KW 3 (D9 23 [])<|KI 6 JH<|D9 16 [])<|D9 26 [])<|D9 12 []
theorem jm(ij29 ij25:Int)(bj30:b5n)(p:A8)(y52:N4)(r:b5n)(hw:ID (ij29<(y52.Items.length:Int)) (IX y52.Items ij29 λy65=>IF ((bj30&&(decide (y65.Num<=2147483647)))&&((decide (0<ij29))||(y65.Num==0))) (∃y66,cC y52.Reserved y65.Num y66/\(QW (wI (ij29+1)) ij25 (!y66) p y52 r)) (QW (wI (ij29+1)) ij25 false p y52 r)) (LX 0 ij25 bj30 p y52 r)):QW ij29 ij25 bj30 p y52 r:=
 fJ hw<|KL 7 Aw y52.Items<|KW 3 (KI 9 Aw λ{y65}=>KT 8 3<|U4 1 7 (bj30&&(decide (y65.Num<=2147483647))) (λz=>aB (z&&((decide (0<ij29))||(y65.Num==0)))) (λkey=>KT 3 3<|J0 1 key) (λkey=>J0 7 key)<|KW 1 (KC 3<|KJ 12)<|KJ 16)<|KJ 12
theorem ga(ij25:Int)(bj26:b5n)(p:A8)(r:b5n)(hw:ID (ij25<(p.D8.length:Int)) (IX p.D8 ij25 λy52=>QW 0 ij25 bj26 p y52 r) (r=bj26)):Lc ij25 bj26 p r:=
 fJ hw<|KL 7 O7 p.D8<|KW 3 (KI 9 O7<|KJ 13)<|KR 12
theorem fH(ij33 ij17:Int)(bj34:b5n)(p:A8)(r:b5n)(hw:IX p.B3 ij17 λy70=>ID (ij33<(y70.Ops.length:Int)) (IX p.B3 ij17 λy71=>IX y71.Ops ij33 λy72=>RN (wI (ij33+1)) ij17 ((bj34&&(decide (1<=y72.Num)))&&(decide (y72.Num<=65535))) p r) (OA (wI (ij17+1)) bj34 p r)):RN ij33 ij17 bj34 p r:=
 fJ hw<|KI 8 J7 λ{y70}=>KL 2 O2 y70.Ops<|KW 3 (KI 9 J7<|KI 3 O2<|KT 8 3<|KT 1 3<|KJ 10)<|KJ 12
theorem iE(ij17:Int)(bj18:b5n)(p:A8)(r:b5n)(hw:ID (ij17<(p.B3.length:Int)) (RN 0 ij17 bj18 p r) (Lc 0 bj18 p r)):OA ij17 bj18 p r:=
 fJ hw<|KL 7 J7 p.B3<|KW 3 (KJ 11)<|KJ 13
theorem a6c(p:A8)(r:b5n)(hw:OA 0 true p r):Xu p r:=
 fP hw<|KJ 19
def OB(ij15:Int)(bj16:b5n)(ij13:Int)(p:A8)(r:b5n):Prop:=J Pg 21 (.ret (e21 r)) 23 [(8,aI ij15),(3,aB bj16),(7,aI ij13),(1,.ptr 0 0)] ⟨[some (D0 p)],[],[]⟩
def OZ(ij13:Int)(bj14:b5n)(p:A8)(r:b5n):Prop:=J Pg 21 (.ret (e21 r)) 17 [(7,aI ij13),(3,aB bj14),(1,.ptr 0 0)] ⟨[some (D0 p)],[],[]⟩
def Jz(ij17:Int)(bj18:b5n)(ij9:Int)(p:A8)(r:b5n):Prop:=J Pg 21 (.ret (e21 r)) 10 [(5,aI ij17),(3,aB bj18),(4,aI ij9),(1,.ptr 0 0)] ⟨[some (D0 p)],[],[]⟩
def PD(ij9:Int)(bj10:b5n)(p:A8)(r:b5n):Prop:=J Pg 21 (.ret (e21 r)) 4 [(4,aI ij9),(3,aB bj10),(1,.ptr 0 0)] ⟨[some (D0 p)],[],[]⟩
theorem ff(ij15:Int)(bj16:b5n)(ij13:Int)(p:A8)(r:b5n)(hw:IX p.B3 ij13 λy64=>ID (ij15<(y64.Ops.length:Int)) (IF bj16 (IX p.B3 ij13 λy66=>IX y66.Ops ij15 λy67=>∃y68,Yx p y67 y68/\(OB (wI (ij15+1)) y68 ij13 p r)) (OB (wI (ij15+1)) false ij13 p r)) (OZ (wI (ij13+1)) bj16 p r)):OB ij15 bj16 ij13 p r:=
 fJ hw<|KI 8 J7 λ{y64}=>KL 2 O2 y64.Ops<|KW 3 (KD 4 [0]<|KW 2 (KI 4 J7<|KI 3 O2<|KC 2<|KJ 11)<|KJ 23)<|KJ 12
theorem gj(ij13:Int)(bj14:b5n)(p:A8)(r:b5n)(hw:ID (ij13<(p.B3.length:Int)) (JN (λbz5:b5n=>OB 0 bz5 ij13 p r) λR5=>IF bj14 (IX p.B3 ij13 λy57=>∃y58,bL y57 y58/\(R5 y58)) (R5 false)) (r=bj14)):OZ ij13 bj14 p r:=
 fJ hw<|KL 7 J7 p.B3<|KW 3 (KQ 8 7 kB (KJ 10) (λkey=>KI 3 J7<|KC 1<|KE 1 key) λkey=>KE 7 key)<|KR 12
theorem mc(ij17:Int)(bj18:b5n)(ij9:Int)(p:A8)(r:b5n)(hw:IX p.D8 ij9 λy79=>ID (ij17<(y79.Items.length:Int)) (IX p.D8 ij9 λy80=>IX y80.Items ij17 λy81=>IF bj18 (IF ((y81.Notes.length:Int)==0) (Jz (wI (ij17+1)) true ij9 p r) (JN (λbz8:b5n=>IF bz8 (∃y86,ax y81.Notes 4 y86/\(Jz (wI (ij17+1)) (y86==0) ij9 p r)) (Jz (wI (ij17+1)) false ij9 p r)) λR8=>IF ((y81.Notes.length:Int)==1) (IX y81.Notes (0:Int) λy85=>R8 (decide (y85.Name=(⟨#[97,108,105,97,115]⟩:b5k)))) (R8 false))) (Jz (wI (ij17+1)) false ij9 p r)) (PD (wI (ij9+1)) bj18 p r)):Jz ij17 bj18 ij9 p r:=
 fJ hw<|KI 8 O7 λ{y79}=>KL 2 Aw y79.Items<|KW 3 (KI 9 O7<|KI 3 Aw λ{y81}=>KW 8 (KL 1 CV y81.Notes<|KW 2 (KJ 27)<|KL 1 CV y81.Notes<|KQ 2 6 kB (KW 1 (KC 1<|KJ 14)<|KJ 16) (λkey=>KI 1 CV<|KE 4 key) λkey=>KE 6 key)<|KJ 31)<|KJ 12
theorem je(ij9:Int)(bj10:b5n)(p:A8)(r:b5n)(hw:ID (ij9<(p.D8.length:Int)) (JN (λbz6:b5n=>Jz 0 bz6 ij9 p r) λR6=>IF bj10 (IX p.D8 ij9 λy70=>R6 ((y70.Notes.length:Int)==0)) (R6 false)) (OZ 0 bj10 p r)):PD ij9 bj10 p r:=
 fJ hw<|KL 7 O7 p.D8<|KW 3 (KQ 8 9 kB (KJ 10) (λkey=>KI 3 O7 λ{y70}=>KL 2 CV y70.Notes<|KE 2 key) λkey=>KE 9 key)<|KJ 13
theorem yw(p:A8)(r:b5n)(hw:PD 0 true p r):dT p r:=
 fP hw<|KJ 19
def LF(ij16:Int)(bj17:b5n)(ij13:Int)(bj15:b5n)(ij8:Int)(p:A8)(lj14:b5l b5n)(r:b5n):Prop:=J Pg 22 (.ret (e22 r)) 18 [(7,aI ij16),(6,aB bj17),(5,aI ij13),(4,aB bj15),(20,aI ij8),(19,aI (p.B3.length:Int)),(3,.row 1 0 1 (p.B3.length:Int).toNat (p.B3.length:Int).toNat),(1,.ptr 0 0)] ⟨[some (D0 p),some (cellsOf BP lj14)],[],[]⟩
def Nv(ij13:Int)(bj15:b5n)(ij8:Int)(p:A8)(lj14:b5l b5n)(r:b5n):Prop:=J Pg 22 (.ret (e22 r)) 11 [(5,aI ij13),(4,aB bj15),(20,aI ij8),(19,aI (p.B3.length:Int)),(3,.row 1 0 1 (p.B3.length:Int).toNat (p.B3.length:Int).toNat),(1,.ptr 0 0)] ⟨[some (D0 p),some (cellsOf BP lj14)],[],[]⟩
def NS(ij8:Int)(p:A8)(bj9:b5n)(lj10:b5l b5n)(r:b5n):Prop:=J Pg 22 (.ret (e22 r)) 5 [(20,aI ij8),(19,aI (p.B3.length:Int)),(4,aB bj9),(3,.row 1 0 1 (p.B3.length:Int).toNat (p.B3.length:Int).toNat),(1,.ptr 0 0)] ⟨[some (D0 p),some (cellsOf BP lj10)],[],[]⟩
theorem jo(ij16:Int)(bj17:b5n)(ij13:Int)(bj15:b5n)(ij8:Int)(p:A8)(lj14:b5l b5n)(r:b5n)(hw:IX p.B3 ij13 λy29=>ID (ij16<(y29.Ops.length:Int)) (IX p.B3 ij13 λy30=>IX y30.Ops ij16 λy31=>IF bj17 (IF ((y31.C8 !=1)||(y31.Kind !=10)) (LF (wI (ij16+1)) true ij13 bj15 ij8 p lj14 r) ((0<=y31.Target/\y31.Target<((p.B3.length:Int).toNat:Int))/\(∃y32,lj14[y31.Target.toNat]? =some y32/\(LF (wI (ij16+1)) y32 ij13 bj15 ij8 p lj14 r)))) (LF (wI (ij16+1)) false ij13 bj15 ij8 p lj14 r)) ((0<=ij13/\ij13<((p.B3.length:Int).toNat:Int))/\(ij13.toNat<lj14.length/\(Nv (wI (ij13+1)) (bj15&&bj17) ij8 p (lj14.set ij13.toNat bj17) r)))):LF ij16 bj17 ij13 bj15 ij8 p lj14 r:=
 fJ hw<|KI 8 J7 λ{y29}=>KL 2 O2 y29.Ops<|KW 3 (KI 9 J7<|KI 3 O2<|KW 8 (KT 4 4<|KW 1 (D9 17 [])<|F0 3 1<|qm 0 MT 0<|D9 12 [])<|D9 26 [])<|F0 10 1<|T8 0 MT bj17<|KT 5 2<|KJ 10
theorem jl(ij13:Int)(bj15:b5n)(ij8:Int)(p:A8)(lj14:b5l b5n)(r:b5n)(hw:ID (ij13<(p.B3.length:Int)) (LF 0 true ij13 bj15 ij8 p lj14 r) (NS (wI (ij8+1)) p bj15 lj14 r)):Nv ij13 bj15 ij8 p lj14 r:=
 fJ hw<|KL 7 J7 p.B3<|KW 3 (KJ 17)<|KJ 11
theorem pn(ij8:Int)(p:A8)(bj9:b5n)(lj10:b5l b5n)(r:b5n)(hw:ID (ij8<(p.B3.length:Int)) (Nv 0 true ij8 p lj10 r) (r=bj9)):NS ij8 p bj9 lj10 r:=
 fJ hw<|KW 7 (KJ 16)<|KR 12
theorem a17(p:A8)(r:b5n)(hw:(0<=(p.B3.length:Int)/\(p.B3.length:Int)<=(p.B3.length:Int)/\(p.B3.length:Int)*1<=140737488355328)/\(NS 0 p ((p.B3.length:Int)==0) (List.replicate (p.B3.length:Int).toNat false) r)):bm p r:=
 fP hw<|KL 10 J7 p.B3<|KM 0 MT false<|KL 7 J7 p.B3<|KL 9 J7 p.B3<|KJ 5
theorem a36(r:T2)(hw:r=(⟨65536,16,4096,4096⟩:T2)):YL r:=
 fP hw<|KR 12
theorem a3u(p:A8)(name data:b5k)(l:T2)(r:A0 × Int)(hw:∃y1,Yv p name (⟨10,0,⟨#[]⟩,[],[],[],[]⟩:A0) data l y1/\(IF (y1.2 !=0) (r=((⟨0,0,⟨#[]⟩,[],[],[],[]⟩:A0),y1.2)) (∃y2,WG p name y2/\(∃y3,Gn p y2.1 y1.1 y3/\(IF y3 (r=((⟨0,0,⟨#[]⟩,[],[],[],[]⟩:A0),14)) (r=(y1.1,0))))))):eH p name data l r:=
 fP hw<|KC 15<|KW 15 (KR 10)<|KC 6<|KC 13<|KW 2 (KR 9)<|KR 10
def TF(ij13 ij14:Int)(v:A0)(r:Int):Prop:=J Pg 29 (.ret (e29 r)) 16 [(6,aI ij13),(3,aI ij14),(1,.ptr 0 0)] ⟨[some (C0 v)],[],[]⟩
def Uv(ij11 ij12:Int)(v:A0)(r:Int):Prop:=J Pg 29 (.ret (e29 r)) 10 [(5,aI ij11),(3,aI ij12),(1,.ptr 0 0)] ⟨[some (C0 v)],[],[]⟩
def TR(ij7 ij8:Int)(v:A0)(r:Int):Prop:=J Pg 29 (.ret (e29 r)) 4 [(4,aI ij7),(3,aI ij8),(1,.ptr 0 0)] ⟨[some (C0 v)],[],[]⟩
theorem xc(ij13 ij14:Int)(v:A0)(r:Int)(hw:ID (ij13<(v.Slots.length:Int)) (IX v.Slots ij13 λy29=>∃y30,EA y29.2 y30/\(TF (wI (ij13+1)) (max ij14 y30) v r)) (IF (v.Kind==10) (r=(wI (ij14+1))) (r=ij14))):TF ij13 ij14 v r:=
 fJ hw<|KL 7 D2 v.Slots<|KW 3 (KI 9 D2<|KC 2<|KJ 11)<|KW 13 (KR 13)<|KR 9
theorem tT(ij11 ij12:Int)(v:A0)(r:Int)(hw:ID (ij11<(v.Pairs.length:Int)) (IX v.Pairs ij11 λy31=>∃y32,EA y31.1 y32/\(IX v.Pairs ij11 λy33=>∃y34,EA y33.2 y34/\(Uv (wI (ij11+1)) (max (max ij12 y32) y34) v r))) (TF 0 ij12 v r)):Uv ij11 ij12 v r:=
 fJ hw<|KL 7 C5 v.Pairs<|KW 3 (KD 4 [0]<|KI 4 C5<|KC 2<|KI 3 C5<|KC 2<|KJ 12)<|KJ 13
theorem z9(ij7 ij8:Int)(v:A0)(r:Int)(hw:ID (ij7<(v.B8.length:Int)) (IX v.B8 ij7 λy35=>∃y36,EA y35 y36/\(TR (wI (ij7+1)) (max ij8 y36) v r)) (Uv 0 ij8 v r)):TR ij7 ij8 v r:=
 fJ hw<|KL 7 K6 v.B8<|KW 3 (KI 9 K6<|KC 1<|KJ 11)<|KJ 13
theorem b2y(v:A0)(r:Int)(hw:TR 0 0 v r):EA v r:=
 fP hw<|KJ 19
theorem i4(p:A8)(name:b5k)(base:A0)(data:b5k)(l:T2)(r:A0 × Int)(hw:∃y1,UR p name y1/\(IF (!y1.2) (r=((⟨0,0,⟨#[]⟩,[],[],[],[]⟩:A0),10)) (IF (base.Kind !=10) (r=((⟨0,0,⟨#[]⟩,[],[],[],[]⟩:A0),12)) (∃y2,eT data l y2/\(IF (y2.2 !=0) (r=((⟨0,0,⟨#[]⟩,[],[],[],[]⟩:A0),y2.2)) (ID (y2.1.E5<1) (r=((⟨0,0,⟨#[]⟩,[],[],[],[]⟩:A0),17)) (∃y3,GS (⟨p,(⟨y2.1.Data,y2.1.At,y2.1.End,(wI (y2.1.E5 - 1)),y2.1.Nodes,y2.1.Text⟩:A4)⟩:B6) 1 y3/\(IF (y3.2 !=0) (r=((⟨0,0,⟨#[]⟩,[],[],[],[]⟩:A0),y3.2)) (∃y4,Vn y3.1 y1.1 base y4/\(IF (y4.2.2 !=0) (r=((⟨0,0,⟨#[]⟩,[],[],[],[]⟩:A0),y4.2.2)) (∃y5,Ie p y1.1 y4.2.1 y5/\(r=(y5,0))))))))))))):Xa p name base data l r:=
 fP hw<|KC 13<|KW 14 (KR 9)<|KW 10 (KR 9)<|KC 6<|KW 15 (KR 10)<|KW 10 (KR 9)<|Q3 24 Ms<|KW 9 (KR 10)<|Q3 7 kF<|KW 15 (KR 10)<|KC 7<|KR 5
theorem a1h(p:A8)(name:b5k)(r:Int × b5n)(hw:∃y1,kR p.B3 (⟨57,[],[.G6 [aS name] 0],by simp⟩:B5) y1/\(r=((max y1 0),(decide (0<=y1))))):UR p name r:=
 fP hw<|er 9 1 [true,false] 0 [(3,.G6 [aS name] 0),(2,.ptr 0 0)] [some (D0 p),none]<|KC 4<|KR 14
def SR(ij3:Int)(y11:b5l A0)(ij2:Int)(y1:B7)(p:A8)(v:A0)(y9:A7)(r:b5n):Prop:=J Pg 32 (.ret (e32 r)) 17 [(42,aI ij3),(41,aI (y11.length:Int)),(40,.sl (List.map H1 y11) .no),(8,.ptr 2 0),(20,aI ij2),(19,aI (y1.Ops.length:Int)),(18,.sl (List.map E2 y1.Ops) .no),(5,.ptr 1 0),(3,.ptr 0 0)] ⟨[some (D0 p),some (C0 v),some (E2 y9)],[],[]⟩
def Hi(ij2:Int)(y1:B7)(p:A8)(v:A0)(r:b5n):Prop:=J Pg 32 (.ret (e32 r)) 3 [(20,aI ij2),(19,aI (y1.Ops.length:Int)),(18,.sl (List.map E2 y1.Ops) .no),(5,.ptr 1 0),(3,.ptr 0 0)] ⟨[some (D0 p),some (C0 v)],[],[]⟩
theorem fm(ij3:Int)(y11:b5l A0)(ij2:Int)(y1:B7)(p:A8)(v:A0)(y9:A7)(r:b5n)(hw:ID (ij3<(y11.length:Int)) (IX y11 ij3 λy14=>∃y15,MB p y9.Target y14 y15/\(IF (!y15) (r=false) (SR (wI (ij3+1)) y11 ij2 y1 p v y9 r))) (Hi (wI (ij2+1)) y1 p v r)):SR ij3 y11 ij2 y1 p v y9 r:=
 fJ hw<|KW 7 (KI 6 K6<|KC 11<|KW 3 (KR 15)<|D9 8 [])<|D9 11 []
theorem mZ(ij2:Int)(y1:B7)(p:A8)(v:A0)(r:b5n)(hw:ID (ij2<(y1.Ops.length:Int)) (IX y1.Ops ij2 λy9=>∃y10,IE v y9.Num y10/\(IF (!y10.2) (IF (y9.C8==1) (r=false) (Hi (wI (ij2+1)) y1 p v r)) (IF (y9.Kind !=10) (Hi (wI (ij2+1)) y1 p v r) (∃y11,bn y10.1 y11/\(SR 0 y11 ij2 y1 p v y9 r))))) (r=true)):Hi ij2 y1 p v r:=
 fJ hw<|KW 7 (KI 6 O2<|KC 10<|KW 15 (KW 8 (KR 13)<|D9 11 [])<|KW 10 (D9 9 [])<|KC 5 λ{y11}=>KL 0 K6 y11<|D9 5 [])<|KR 11
theorem a62(p:A8)(prog:Int)(v:A0)(r:b5n)(hw:IX p.B3 prog λy1=>Hi 0 y1 p v r):MB p prog v r:=
 fP hw<|KI 13 J7 λ{y1}=>KL 2 O2 y1.Ops<|KJ 5
def Un(ij5:Int)(v:A0)(lj6 r:b5l A0):Prop:=J Pg 33 (.ret (e33 r)) 11 [(29,aI ij5),(28,aI (v.Slots.length:Int)),(27,.sl (List.map D7 v.Slots) .no),(3,.sl (List.map H1 lj6) (.own 0))] ⟨[],[(lj6.length,7)],[]⟩
def Tr(ij3:Int)(v:A0)(lj4 r:b5l A0):Prop:=J Pg 33 (.ret (e33 r)) 4 [(14,aI ij3),(13,aI (v.Pairs.length:Int)),(12,.sl (List.map D6 v.Pairs) .no),(3,.sl (List.map H1 lj4) (.own 0)),(1,.ptr 0 0)] ⟨[some (C0 v)],[(lj4.length,7)],[]⟩
theorem ZI(ij5:Int)(v:A0)(lj6 r:b5l A0)(hw:ID (ij5<(v.Slots.length:Int)) (IX v.Slots ij5 λy5=>(lj6.length+[y5.2].length)*128<=140737488355328/\(Un (wI (ij5+1)) v (lj6++[y5.2]) r)) (r=lj6)):Un ij5 v lj6 r:=
 fJ hw<|KW 7 (KI 6 D2<|KA 10 K6 mE<|D9 9 [])<|KR 12
theorem dx(ij3:Int)(v:A0)(lj4 r:b5l A0)(hw:ID (ij3<(v.Pairs.length:Int)) (IX v.Pairs ij3 λy6=>(lj4.length+[y6.1,y6.2].length)*128<=140737488355328/\(Tr (wI (ij3+1)) v (lj4++[y6.1,y6.2]) r)) (Un 0 v lj4 r)):Tr ij3 v lj4 r:=
 fJ hw<|KW 7 (KI 6 C5<|KA 12 K6 mE<|D9 9 [])<|KL 10 D2 v.Slots<|D9 5 []
theorem b16(v:A0)(r:b5l A0)(hw:ml v.B8/\(Tr 0 v v.B8 r)):ZU v r:=
 fP hw<|KNB 10 K6<|KL 8 C5 v.Pairs<|KJ 5
def RY(sj1:b5k)(r:b5n):Prop:=JP Pg 34 (e34 r) 5 [(0,aS sj1)]
theorem gQ(sj1:b5k)(r:b5n)(hw:IF (!(decide (sj1=(⟨#[]⟩:b5k)))) (∃y4,bY sj1 y4/\(∃y5,UE y4.2 y5/\(IF y5 (r=false) (RY y4.1 r)))) (r=true)):RY sj1 r:=
 fJ hw<|KW 8 (KC 6<|KC 11<|KW 2 (KR 11)<|KJ 8)<|KR 11
theorem a33(s:b5k)(r:b5n)(hw:∃y1,dq s y1/\(IF (!y1) (r=false) (RY s r))):SA s r:=
 fP hw<|KC 9<|KW 3 (KR 7)<|KJ 5
theorem b9(s:b5k)(r:b5n)(hw:∃y1,QC s y1/\(IF y1 (∃y2,UE s y2/\(r=(!y2))) (r=false))):Ux s r:=
 fP hw<|KC 8<|KW 1 (KC 1<|KR 6)<|KR 8
def PG(ij1:Int)(l:b5l Be)(n:Int)(r:b5n):Prop:=JP Pg 36 (e36 r) 3 [(5,aI ij1),(0,.sl (List.map Bn l) .no),(1,aI n)]
theorem kM(ij1:Int)(l:b5l Be)(n:Int)(r:b5n)(hw:ID (ij1<(l.length:Int)) (IX l ij1 λy4=>ID (y4.From<=n) (IX l ij1 λy6=>ID (n<=y6.To) (r=true) (PG (wI (ij1+1)) l n r)) (PG (wI (ij1+1)) l n r)) (r=false)):PG ij1 l n r:=
 fJ hw<|KL 6 JH l<|KW 3 (KI 8 JH<|KW 5 (KI 3 JH<|KW 6 (KR 11)<|KJ 9)<|KJ 20)<|KR 11
theorem tR(l:b5l Be)(n:Int)(r:b5n)(hw:PG 0 l n r):cC l n r:=
 fP hw<|KJ 13
def QV(ij1:Int)(l:b5l AB)(target r:Int):Prop:=JP Pg 37 (e37 r) 6 [(5,aI ij1),(0,.sl (List.map BG l) .no),(1,aI target)]
theorem ix(ij1:Int)(l:b5l AB)(target r:Int)(hw:ID (ij1<(l.length:Int)) (IX l ij1 λy7=>∃y8,Ru y7.Name y8/\(IF (y8==0) (r=8) (IX l ij1 λy9=>∃y10,Yu y9.Name target y10/\(IF (!y10) (r=1) (IX l ij1 λy11=>∃y12,dY y11 y12/\(IF (!y12) (r=12) (JN (λbz1:b5n=>IF bz1 (r=11) (ID (0<ij1) (IX l ij1 λy17=>IX l (wI (ij1 - 1)) λy18=>ID (y17.Name=y18.Name) (r=9) (QV (wI (ij1+1)) l target r)) (QV (wI (ij1+1)) l target r))) λR1=>ID (0<ij1) (IX l ij1 λy14=>IX l (wI (ij1 - 1)) λy15=>R1 (Op.bytesLess y14.Name.toList y15.Name.toList)) (R1 false)))))))) (r=0)):QV ij1 l target r:=
 fJ hw<|KL 6 CV l<|KW 3 (KI 9 CV<|KC 2<|KW 3 (KR 12)<|KI 7 CV<|KC 3<|KW 3 (KR 12)<|KI 7 CV<|KC 1<|KW 3 (KR 12)<|KD 4 []<|KQ 3 14 kB (KW 2 (KR 12)<|KD 3 []<|KW 3 (KI 2 CV<|KI 5 CV<|KW 7 (KR 11)<|KJ 9)<|KJ 26) (λkey=>KI 2 CV<|KI 5 CV<|KE 5 key) λkey=>KE 14 key)<|KR 11
theorem vW(l:b5l AB)(target r:Int)(hw:ID (8<(l.length:Int)) (r=3) (QV 0 l target r)):ax l target r:=
 fP hw<|KL 9 CV l<|KW 3 (KR 7)<|KJ 10
def Mh(ij1 ij2:Int)(g:B7)(r:b5n):Prop:=J Pg 38 (.ret (e38 r)) 4 [(4,aI ij1),(3,aI ij2),(1,.ptr 0 0)] ⟨[some (F9 g)],[],[]⟩
theorem gk(ij1 ij2:Int)(g:B7)(r:b5n)(hw:ID (ij1<(g.Ops.length:Int)) (IX g.Ops ij1 λy2=>IF (y2.Union==ij2) (Mh (wI (ij1+1)) (wI (ij2+1)) g r) (JN (λbz1:b5n=>IF bz1 (r=false) (Mh (wI (ij1+1)) ij2 g r)) λR1=>IF (y2.Union !=(-1)) (IF (ij1==0) (R1 true) (IX g.Ops (wI (ij1 - 1)) λy5=>R1 (y5.Union !=y2.Union))) (R1 false))) (r=(g.eh==ij2))):Mh ij1 ij2 g r:=
 fJ hw<|KL 7 O2 g.Ops<|KW 3 (KI 9 O2<|KW 14 (KJ 14)<|KQ 5 14 kB (KW 3 (KR 12)<|KJ 10) (λkey=>KW 3 (KE 11 key)<|KI 4 O2<|KE 6 key) λkey=>KE 14 key)<|KR 15
theorem a1c(g:B7)(r:b5n)(hw:Mh 0 0 g r):bL g r:=
 fP hw<|KJ 19
def TT(bj1:b5n)(p:A8)(o_:A7)(r:b5n):Prop:=J Pg 39 (.ret (e39 r)) 5 [(5,aB bj1),(3,.ptr 1 0),(2,.ptr 0 0)] ⟨[some (D0 p),some (E2 o_)],[],[]⟩
theorem tE(bj1:b5n)(p:A8)(o_:A7)(r:b5n)(hw:JN (λbz2:b5n=>r=(bz2&&((o_.Union==(-1))||(o_.C8==2)))) λR2=>IF bj1 (∃y3,YR p o_ y3/\(R2 y3)) (R2 false)):TT bj1 p o_ r:=
 fJ hw<|KQ 4 4 kB (λ{bz2}=>U4 1 9 bz2 (λz=>aB (z&&((o_.Union==(-1))||(o_.C8==2)))) (λkey=>KT 4 4<|J0 1 key) (λkey=>J0 9 key)<|KR 4) (λkey=>KC 2<|KE 1 key) λkey=>KE 4 key
theorem ud(p:A8)(o_:A7)(r:b5n)(hw:∃y1,Nu o_.Alias y1/\(IF ((((((!y1)||(decide (4096<(o_.Alias.size:Int))))||(decide (o_.C8<1)))||(decide (5<o_.C8)))||(decide (o_.Kind<1)))||(decide (10<o_.Kind))) (r=false) (IF (o_.C8 !=5) (TT (o_.Key==0) p o_ r) (TT (((decide (1<=o_.Key))&&(decide (o_.Key<=5)))||(o_.Key==7)) p o_ r)))):Yx p o_ r:=
 fP hw<|KC 12<|KT 2 5<|KT 1 4<|KT 1 4<|KT 1 4<|KT 1 4<|KW 2 (KR 7)<|KT 8 4<|KT 1 4<|KW 11 (KJ 7)<|KJ 2
theorem a6g(data:b5k)(l:T2)(r:A4 × Int)(hw:IF ((((decide (l.Bytes<0))||(decide (l.E5<0)))||(decide (l.Nodes<0)))||(decide (l.Text<0))) (r=((⟨⟨#[]⟩,0,0,0,0,0⟩:A4),1)) (ID (l.Bytes<(data.size:Int)) (r=((⟨⟨#[]⟩,0,0,0,0,0⟩:A4),3)) (r=((⟨data,0,(data.size:Int),l.E5,l.Nodes,l.Text⟩:A4),0)))):eT data l r:=
 fP hw<|KT 15 4<|KT 1 4<|KT 1 4<|KW 3 (KR 10)<|KW 10 (KR 10)<|KR 20
theorem a91(p:A8)(name:b5k)(base:A0)(data:b5k)(l:T2)(r:A0 × Int)(hw:∃y1,WG p name y1/\(IF (!y1.2) (r=((⟨0,0,⟨#[]⟩,[],[],[],[]⟩:A0),10)) (IF (base.Kind !=10) (r=((⟨0,0,⟨#[]⟩,[],[],[],[]⟩:A0),12)) (∃y2,aP data l y2/\(IF (y2.2 !=0) (r=((⟨0,0,⟨#[]⟩,[],[],[],[]⟩:A0),y2.2)) (ID (y2.1.E5<1) (r=((⟨0,0,⟨#[]⟩,[],[],[],[]⟩:A0),17)) (∃y3,FG (⟨y2.1.Data,y2.1.At,y2.1.End,(wI (y2.1.E5 - 1)),y2.1.Nodes,y2.1.Text⟩:A4) 1 y3/\(IF (y3.2 !=0) (r=((⟨0,0,⟨#[]⟩,[],[],[],[]⟩:A0),y3.2)) (∃y4,Ts p y1.1 base y3.1 y4/\(IF (y4.2.2 !=0) (r=((⟨0,0,⟨#[]⟩,[],[],[],[]⟩:A0),y4.2.2)) (∃y5,LS p y1.1 y4.1 y5/\(r=(y5,0))))))))))))):Yv p name base data l r:=
 fP hw<|KC 13<|KW 14 (KR 9)<|KW 10 (KR 9)<|KC 6<|KW 15 (KR 10)<|KW 10 (KR 9)<|KC 14<|KW 14 (KR 10)<|KC 8<|KW 18 (KR 10)<|KC 7<|KR 5
def VI(ij1:Int)(name:b5k)(p:A8)(r:Int × b5n):Prop:=J Pg 49 (.ret (e49 r)) 3 [(6,aI ij1),(2,.ptr 0 0),(1,aS name)] ⟨[some (D0 p)],[],[]⟩
theorem bj(ij1:Int)(name:b5k)(p:A8)(r:Int × b5n)(hw:ID (ij1<(p.B3.length:Int)) (IX p.B3 ij1 λy2=>ID (y2.Name=name) (r=(ij1,true)) (VI (wI (ij1+1)) name p r)) (r=(0,false))):VI ij1 name p r:=
 fJ hw<|KL 7 J7 p.B3<|KW 3 (KI 9 J7<|KW 6 (KR 13)<|KJ 9)<|KR 12
theorem yB(p:A8)(name:b5k)(r:Int × b5n)(hw:VI 0 name p r):WG p name r:=
 fP hw<|KJ 15
def Tx(ij1 prog:Int)(p:A8)(v:A0)(r:b5n):Prop:=J Pg 50 (.ret (e50 r)) 3 [(7,aI ij1),(5,.ptr 1 0),(3,.ptr 0 0),(1,aI prog)] ⟨[some (D0 p),some (C0 v)],[],[]⟩
theorem fU(ij1 prog:Int)(p:A8)(v:A0)(r:b5n)(hw:IX p.B3 prog λy6=>ID (ij1<(y6.Ops.length:Int)) (IX p.B3 prog λy7=>IX y7.Ops ij1 λy8=>∃y9,Gt v y8.Num y9/\(IF ((!y9.2)&&(y8.C8==1)) (r=true) (JN (λbz2:b5n=>IF bz2 (r=true) (Tx (wI (ij1+1)) prog p v r)) λR2=>IF y9.2 (∃y10,Io p y8 y9.1 y10/\(R2 y10)) (R2 false)))) (r=false)):Tx ij1 prog p v r:=
 fJ hw<|KI 8 J7 λ{y6}=>KL 2 O2 y6.Ops<|KW 3 (KI 9 J7<|KI 3 O2<|KC 10<|KT 13 4<|KW 1 (KR 22)<|KQ 2 5 kB (KW 3 (KR 11)<|D9 9 []) (λkey=>KC 3<|KE 1 key) λkey=>KE 5 key)<|KR 11
theorem a8j(p:A8)(prog:Int)(v:A0)(r:b5n)(hw:Tx 0 prog p v r):Gn p prog v r:=
 fP hw<|KJ 15
theorem b2r(r:B6 × Int):plain (e53 r)/\(E3 r.1).all ok1/\E0 [true] 0 (E3 r.1)/\(J4 r.1).length=0:=⟨iC r,M2 _,Cf _,rfl⟩
theorem a8v(r_:B6)(n:Int)(r:B6 × Int)(hw:∃y1,Sn r_.c n y1/\(r=((⟨r_.p,y1.1⟩:B6),y1.2))):GS r_ n r:=
 CB hw<|KC 12<|H6 24 b2r
theorem SE(r:B6 × (A0 × Int)):plain (e54 r)/\(E3 r.1).all ok1/\E0 [true] 0 (E3 r.1)/\(J4 r.1).length=0:=⟨jU r,M2 _,Cf _,rfl⟩
def Ol(ij17:Int)(y1:B7)(y13:Int × Int × A4 × Int)(lj15:b5l B7)(lj16:b5l N4)(sj2:b5k)(ij3 ij4 ij5 ij6 ij7 ij8 ij9:Int)(sj10:b5k)(lj11:b5l A0)(lj12:b5l (A0 × A0))(lj13:b5l (Int × A0))(lj14:b5l A6)(r:B6 × (A0 × Int)):Prop:=J Pg 54 (.io [] 0 (e54 r) (E3 r.1) (J4 r.1)) 14 [(49,aI ij17),(48,aI (y1.Ops.length:Int)),(47,.sl (List.map E2 y1.Ops) .no),(11,aI y13.2.1),(10,aI y13.1),(12,.ptr 5 0),(9,.ptr 4 0),(8,.ptr 3 0),(6,.ptr 2 0),(5,.ptr 1 0),(0,.ptr 0 0)] ⟨[some [.sl (List.map F9 lj15) .no,.sl (List.map U1 lj16) .no,aS sj2,aI ij3,aI ij4,aI ij5,aI ij6,aI ij7],some [aI ij8,aU ij9,aS sj10,.sl (List.map H1 lj11) .no,.sl (List.map D6 lj12) .no,.sl (List.map D7 lj13) .no,.sl (List.map C6 lj14) .no],some zV,some (F9 y1),some [aS sj2,aI ij3,aI ij4,aI ij5,aI ij6,aI ij7],some (C9 y13.2.2.1)],[],[]⟩
def Pq(lj15:b5l B7)(lj16:b5l N4)(sj2:b5k)(ij3 ij4 ij5 ij6 ij7 ij8 ij9:Int)(sj10:b5k)(lj11:b5l A0)(lj12:b5l (A0 × A0))(lj13:b5l (Int × A0))(lj14:b5l A6)(y1:B7)(r:B6 × (A0 × Int)):Prop:=J Pg 54 (.io [] 0 (e54 r) (E3 r.1) (J4 r.1)) 4 [(8,.ptr 3 0),(6,.ptr 2 0),(5,.ptr 1 0),(0,.ptr 0 0)] ⟨[some [.sl (List.map F9 lj15) .no,.sl (List.map U1 lj16) .no,aS sj2,aI ij3,aI ij4,aI ij5,aI ij6,aI ij7],some [aI ij8,aU ij9,aS sj10,.sl (List.map H1 lj11) .no,.sl (List.map D6 lj12) .no,.sl (List.map D7 lj13) .no,.sl (List.map C6 lj14) .no],some zV,some (F9 y1)],[],[]⟩
theorem iV(ij17:Int)(y1:B7)(y13:Int × Int × A4 × Int)(lj15:b5l B7)(lj16:b5l N4)(sj2:b5k)(ij3 ij4 ij5 ij6 ij7 ij8 ij9:Int)(sj10:b5k)(lj11:b5l A0)(lj12:b5l (A0 × A0))(lj13:b5l (Int × A0))(lj14:b5l A6)(r:B6 × (A0 × Int))(hw:ID (ij17<(y1.Ops.length:Int)) (IX y1.Ops ij17 λy20=>IF (y20.Num !=y13.1) (Ol (wI (ij17+1)) y1 y13 lj15 lj16 sj2 ij3 ij4 ij5 ij6 ij7 ij8 ij9 sj10 lj11 lj12 lj13 lj14 r) (∃y21,VG (⟨⟨lj15,lj16⟩,y13.2.2.1⟩:B6) y1 (⟨ij8,ij9,sj10,lj11,lj12,lj13,lj14⟩:A0) y20 y13.2.1 y21/\(IF (y21.2.2 !=0) (r=(y21.1,y21.2.1,y21.2.2)) (Pq y21.1.p.B3 y21.1.p.D8 y21.1.c.Data y21.1.c.At y21.1.c.End y21.1.c.E5 y21.1.c.Nodes y21.1.c.Text y21.2.1.Kind y21.2.1.Bits y21.2.1.Text y21.2.1.B8 y21.2.1.Pairs y21.2.1.Slots y21.2.1.C4 y1 r)))) (∃y18,dF (⟨sj2,ij3,ij4,ij5,ij6,ij7⟩:A4) y18/\(IF (y18.2.2 !=0) (r=((⟨⟨lj15,lj16⟩,⟨sj2,ij3,ij4,ij5,ij6,ij7⟩⟩:B6),(⟨ij8,ij9,sj10,lj11,lj12,lj13,lj14⟩:A0),y18.2.2)) (∃y19,UU (⟨ij8,ij9,sj10,lj11,lj12,lj13,lj14⟩:A0) y18.1 y19/\(Pq lj15 lj16 y18.2.1.Data y18.2.1.At y18.2.1.End y18.2.1.E5 y18.2.1.Nodes y18.2.1.Text y19.Kind y19.Bits y19.Text y19.B8 y19.Pairs y19.Slots y19.C4 y1 r))))):Ol ij17 y1 y13 lj15 lj16 sj2 ij3 ij4 ij5 ij6 ij7 ij8 ij9 sj10 lj11 lj12 lj13 lj14 r:=
 fJ hw<|KW 7 (KI 6 O2<|KW 14 (D9 9 [])<|Q3 18 p6<|KW 14 (H6 20 SE)<|D9 10 [])<|KC 8<|KW 17 (H6 15 SE)<|KC 14<|D9 4 []
theorem ny(lj15:b5l B7)(lj16:b5l N4)(sj2:b5k)(ij3 ij4 ij5 ij6 ij7 ij8 ij9:Int)(sj10:b5k)(lj11:b5l A0)(lj12:b5l (A0 × A0))(lj13:b5l (Int × A0))(lj14:b5l A6)(y1:B7)(r:B6 × (A0 × Int))(hw:∃y12,Di (⟨sj2,ij3,ij4,ij5,ij6,ij7⟩:A4) y12/\(ID (0<y12) (∃y13,Pl (⟨sj2,ij3,ij4,ij5,ij6,ij7⟩:A4) y13/\(IF (y13.2.2.2 !=0) (r=((⟨⟨lj15,lj16⟩,⟨sj2,ij3,ij4,ij5,ij6,ij7⟩⟩:B6),(⟨ij8,ij9,sj10,lj11,lj12,lj13,lj14⟩:A0),y13.2.2.2)) (Ol 0 y1 y13 lj15 lj16 sj2 ij3 ij4 ij5 ij6 ij7 ij8 ij9 sj10 lj11 lj12 lj13 lj14 r))) (r=((⟨⟨lj15,lj16⟩,⟨sj2,ij3,ij4,ij5,ij6,ij7⟩⟩:B6),(⟨ij8,ij9,sj10,lj11,lj12,lj13,lj14⟩:A0),0)))):Pq lj15 lj16 sj2 ij3 ij4 ij5 ij6 ij7 ij8 ij9 sj10 lj11 lj12 lj13 lj14 y1 r:=
 fJ hw<|KC 8<|KW 3 (KC 16<|KW 19 (H6 15 SE)<|KL 7 O2 y1.Ops<|KJ 5)<|H6 14 SE
theorem xo(r_:B6)(prog:Int)(v:A0)(r:B6 × (A0 × Int))(hw:IX r_.p.B3 prog λy1=>Pq r_.p.B3 r_.p.D8 r_.c.Data r_.c.At r_.c.End r_.c.E5 r_.c.Nodes r_.c.Text v.Kind v.Bits v.Text v.B8 v.Pairs v.Slots v.C4 y1 r):Vn r_ prog v r:=
 CB hw<|KI 16 J7<|KJ 11
def PU(ij1:Int)(y1:b5l (Int × A0))(prog:Int)(p:A8)(lj2:b5l (Int × A0))(r:A0):Prop:=J Pg 55 (.ret (e55 r)) 7 [(32,aI ij1),(31,aI (y1.length:Int)),(30,.sl (List.map D7 y1) .no),(7,.ptr 3 0),(6,.ptr 2 0),(3,.ptr 0 0),(1,aI prog)] ⟨[some (D0 p),none,some zV,some [aI 10,aU 0,aE,.nil,.nil,.sl (List.map D7 lj2) (.own 0),.sl (List.map C6 ([]:b5l A6)) .no]],[(lj2.length,8)],[]⟩
def QR(ij3:Int)(y12:b5l (Int × A0))(prog:Int)(p:A8)(v:A0)(lj4:b5l (Int × A0))(r:A0):Prop:=J Pg 55 (.ret (e55 r)) 7 [(32,aI ij3),(31,aI (y12.length:Int)),(30,.sl (List.map D7 y12) .no),(7,.ptr 4 0),(6,.ptr 2 0),(3,.ptr 0 0),(1,aI prog)] ⟨[some (D0 p),none,some zV,some (cellsOf C6 v.C4),some [aI 10,aU 0,aE,.nil,.nil,.sl (List.map D7 lj4) (.own 0),.row 3 0 4 v.C4.length v.C4.length]],[(lj4.length,8)],[]⟩
theorem fB(ij1:Int)(y1:b5l (Int × A0))(prog:Int)(p:A8)(lj2:b5l (Int × A0))(r:A0)(hw:ID (ij1<(y1.length:Int)) (IX y1 ij1 λy7=>IX p.B3 prog λy8=>∃y9,OF y8 y7.1 y9/\(∃y10,Rg p y9.1 y7.2 y10/\(JN (λbz2:b5n=>IF bz2 ((lj2.length+[(y7.1,y10)].length)*136<=140737488355328/\(PU (wI (ij1+1)) y1 prog p (lj2++[(y7.1,y10)]) r)) (PU (wI (ij1+1)) y1 prog p lj2 r)) λR2=>IF (!(((y9.1.C8==3)||(y9.1.C8==4))||(y9.1.C8==5))) (R2 true) (∃y11,VJ y10 y11/\(R2 (!y11)))))) (gK (⟨98,[],[],rfl⟩:B5)/\(r=(⟨10,0,⟨#[]⟩,[],[],lj2,[]⟩:A0)))):PU ij1 y1 prog p lj2 r:=
 fJ hw<|KW 7 (KI 6 D2<|KD 6 [0,4]<|KI 3 J7<|KC 3<|KV 4<|KT 10 4<|KT 1 4<|KC 9<|KQ 9 4 kB (KW 2 (KA 8 D2 mE<|D9 10 [])<|D9 8 []) (λkey=>KE 4 key) λkey=>KC 1<|KE 2 key)<|DK 9<|KR 9
theorem pi(ij3:Int)(y12:b5l (Int × A0))(prog:Int)(p:A8)(v:A0)(lj4:b5l (Int × A0))(r:A0)(hw:ID (ij3<(y12.length:Int)) (IX y12 ij3 λy20=>IX p.B3 prog λy21=>∃y22,OF y21 y20.1 y22/\(∃y23,Rg p y22.1 y20.2 y23/\(JN (λbz4:b5n=>IF bz4 ((lj4.length+[(y20.1,y23)].length)*136<=140737488355328/\(QR (wI (ij3+1)) y12 prog p v (lj4++[(y20.1,y23)]) r)) (QR (wI (ij3+1)) y12 prog p v lj4 r)) λR4=>IF (!(((y22.1.C8==3)||(y22.1.C8==4))||(y22.1.C8==5))) (R4 true) (∃y24,VJ y23 y24/\(R4 (!y24)))))) (∃y19,VC v.C4.length v.C4 (⟨98,[],[],rfl⟩:B5) y19/\(v.C4≠[]/\y19≠[])/\(y19.length=v.C4.length/\(r=(⟨10,0,⟨#[]⟩,[],[],lj4,y19⟩:A0))))):QR ij3 y12 prog p v lj4 r:=
 fJ hw<|KW 7 (KI 6 D2<|KD 6 [0,5]<|KI 3 J7<|KC 3<|KV 4<|KT 10 4<|KT 1 4<|KC 9<|KQ 9 4 kB (KW 2 (KA 8 D2 mE<|D9 10 [])<|D9 8 []) (λkey=>KE 4 key) λkey=>KC 1<|KE 2 key)<|N2 9 D4 xH λ{y19}=>qY 2 D4 3 [true,false,true,false,true] 1 0 1 [(7,.ptr 4 0),(6,.ptr 2 0)] [some (D0 p),none,some zV,none,some [aI 10,aU 0,aE,.nil,.nil,.sl (List.map D7 lj4) (.own 0),.sl (List.map C6 y19) .no]]<|KR 7
theorem a0c(p:A8)(prog:Int)(v r:A0)(hw:(v.C4=[]->mG v.C4 ([]:b5l A6)/\(IF ((decide (prog<0))||(decide ((p.B3.length:Int)<=prog))) (r=(⟨10,0,⟨#[]⟩,[],[],[],[]⟩:A0)) (∃y1,PO v.Slots y1/\(PU 0 y1 prog p ([]:b5l (Int × A0)) r))))/\(v.C4≠[]->ot v.C4/\(IF ((decide (prog<0))||(decide ((p.B3.length:Int)<=prog))) (v.C4.length=v.C4.length/\(r=(⟨10,0,⟨#[]⟩,[],[],[],v.C4⟩:A0))) (∃y12,PO v.Slots y12/\(QR 0 y12 prog p v ([]:b5l (Int × A0)) r))))):Ie p prog v r:=
 fP hw<|vE v.C4 (λhb1=>DK 11<|U4 11 6 (decide (prog<0)) (λz=>aB (z||(decide ((p.B3.length:Int)<=prog)))) (λkey=>J0 6 key) (λkey=>KL 3 J7 p.B3<|J0 2 key)<|KW 2 (KR 8)<|KC 7 λ{y1}=>KL 0 D2 y1<|GG 5 3 5 8<|D9 0 []) λhb1=>ez 11 D4 hb1<|U4 11 6 (decide (prog<0)) (λz=>aB (z||(decide ((p.B3.length:Int)<=prog)))) (λkey=>J0 6 key) (λkey=>KL 3 J7 p.B3<|J0 2 key)<|KW 2 (qY 6 D4 3 [true,true,true,false,true] 0 0 2 [(6,.ptr 2 0)] [some (D0 p),some (C0 v),some [aI 10,aU 0,aE,.nil,.nil,.nil,.sl (List.map C6 v.C4) .no],none,some [aI 10,aU 0,aE,.nil,.nil,.nil,.sl (List.map C6 v.C4) .no]]<|KR 2)<|KC 7 λ{y12}=>KL 0 D2 y12<|GG 5 4 5 8<|D9 0 []
def SV(ij1:Int)(s:b5l B7)(f:B5)(r:Int):Prop:=JP Pg 56 (e56 r) 3 [(8,aI ij1),(7,aI (s.length:Int)),(0,.sl (List.map F9 s) .no),(1,.clo (.func f.fn) f.fi f.cap)]
theorem xJ(ij1:Int)(s:b5l B7)(f:B5)(r:Int)(hw:ID (ij1<(s.length:Int)) (IX s ij1 λy3=>∃y4,Q4 Pg [] (.clo (.func f.fn) f.fi f.cap) [.agg (F9 y3)] (aB y4)/\(IF y4 (r=ij1) (SV (wI (ij1+1)) s f r))) (r=(-1))):SV ij1 s f r:=
 fJ hw<|KW 7 (KI 15 J7<|KF 1<|KW 2 (KR 12)<|KJ 8)<|KR 11
theorem xj(s:b5l B7)(f:B5)(r:Int)(hw:SV 0 s f r):kR s f r:=
 fP hw<|KL 9 J7 s<|KJ 5
def Vq(ij1:Int)(v:A0)(num:Int)(r:A0 × b5n):Prop:=J Pg 58 (.ret (e58 r)) 3 [(11,aI ij1),(10,aI (v.Slots.length:Int)),(9,.sl (List.map D7 v.Slots) .no),(4,.ptr 1 0),(1,aI num)] ⟨[none,some zV],[],[]⟩
theorem dE(ij1:Int)(v:A0)(num:Int)(r:A0 × b5n)(hw:ID (ij1<(v.Slots.length:Int)) (IX v.Slots ij1 λy2=>IF (y2.1==num) (r=(y2.2,true)) (Vq (wI (ij1+1)) v num r)) (r=((⟨0,0,⟨#[]⟩,[],[],[],[]⟩:A0),false))):Vq ij1 v num r:=
 fJ hw<|KW 7 (KI 6 D2<|KW 13 (KR 14)<|D9 8 [])<|KR 13
theorem zL(v:A0)(num:Int)(r:A0 × b5n)(hw:Vq 0 v num r):IE v num r:=
 fP hw<|KL 12 D2 v.Slots<|D9 5 []
def Tb(ij1:Int)(x:A0)(lj2 r:b5l A0):Prop:=J Pg 59 (.ret (e59 r)) 9 [(17,aI ij1),(16,aI (x.Pairs.length:Int)),(15,.sl (List.map D6 x.Pairs) .no),(3,.sl (List.map H1 lj2) (.own 0))] ⟨[],[(lj2.length,7)],[]⟩
theorem fV(ij1:Int)(x:A0)(lj2 r:b5l A0)(hw:ID (ij1<(x.Pairs.length:Int)) (IX x.Pairs ij1 λy2=>(lj2.length+[y2.2].length)*128<=140737488355328/\(Tb (wI (ij1+1)) x (lj2++[y2.2]) r)) (r=lj2)):Tb ij1 x lj2 r:=
 fJ hw<|KW 7 (KI 6 C5<|KA 10 K6 mE<|D9 9 [])<|KR 14
theorem a70(x:A0)(r:b5l A0)(hw:IF (x.Kind==11) (r=x.B8) (IF (x.Kind==12) (Tb 0 x ([]:b5l A0) r) (r=([x]:(b5l A0))))):bn x r:=
 fP hw<|KW 20 (KR 10)<|KW 6 (KL 10 C5 x.Pairs<|KO 5 3 7<|D9 0 [])<|KRL 11 K6
theorem a2a(s:b5l A0)(hw:s.length*128<=140737488355328):ml s:=a6n K6 hw
def PS(ij1:Int)(sj2 s:b5k)(r:b5n):Prop:=JP Pg 61 (e61 r) 7 [(4,aI ij1),(3,aS sj2),(0,aS s)]
theorem pf(ij1:Int)(sj2 s:b5k)(r:b5n)(hw:ID (ij1<(s.size:Int)) (SI s ij1 (IF ((I9 s ij1.toNat) !=46) (SS s ij1 (wI (ij1+1)) (CT sj2 (s.extract ij1.toNat (wI (ij1+1)).toNat) (PS (wI (ij1+1)) (sj2++(s.extract ij1.toNat (wI (ij1+1)).toNat)) s r))) (∃y4,QC sj2 y4/\(IF (!y4) (r=false) (PS (wI (ij1+1)) (⟨#[]⟩:b5k) s r))))) (∃y3,QC sj2 y3/\(r=y3))):PS ij1 sj2 s r:=
 fJ hw<|KW 10 (Aq 9<|KW 3 (EK 7<|tI 0<|KJ 13)<|KC 6<|KW 3 (KR 12)<|KJ 13)<|KC 8<|KR 4
theorem a3k(s:b5k)(r:b5n)(hw:ID (120<(s.size:Int)) (r=false) (PS 0 (⟨#[]⟩:b5k) s r)):dq s r:=
 fP hw<|KW 13 (KR 7)<|KJ 15
def Uo(ij1:Int)(full:b5k)(r:b5k × b5k):Prop:=JP Pg 62 (e62 r) 3 [(4,aI ij1),(0,aS full)]
theorem oj(ij1:Int)(full:b5k)(r:b5k × b5k)(hw:ID (0<=ij1) (SI full ij1 (IF ((I9 full ij1.toNat)==46) (SS full (0:Int) ij1 (SS full (wI (ij1+1)) (full.size:Int) (r=((full.extract (0:Int).toNat ij1.toNat),(full.extract (wI (ij1+1)).toNat (full.size:Int).toNat))))) (Uo (wI (ij1 - 1)) full r))) (r=((⟨#[]⟩:b5k),full))):Uo ij1 full r:=
 fJ hw<|KW 8 (Aq 8<|KW 3 (KD 1 []<|EK 2<|EK 3<|KR 11)<|KJ 9)<|KR 13
theorem b1m(full:b5k)(r:b5k × b5k)(hw:Uo (wI ((full.size:Int) - 1)) full r):bY full r:=
 fP hw<|KJ 17
end
end Go.Proofs.YtlcmiciojnnlnaaGreatDoor.Lift
