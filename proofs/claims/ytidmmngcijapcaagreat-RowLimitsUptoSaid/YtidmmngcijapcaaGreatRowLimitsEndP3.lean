/- Part 4 of the texts that prove RowLimitsEnd. -/
import Derived.Test.YtidmmngcijapcaaGreatRowLimitsEndP2
import Derived.Test.YtidmmngcijapcaaGreatRowLimitsEndP1
import Derived.OpenShut
import Derived.ProofKit
import Derived.Test.YtidmmngcijapcaaGreatProg
namespace Go.Proofs.YtidmmngcijapcaaGreat.Lift
open Go.RowKit
set_option linter.unusedVariables false
set_option linter.unusedSimpArgs false
set_option linter.unnecessarySimpa false
set_option linter.unusedSectionVars false
set_option maxRecDepth 100000
def gT(s:Mc):Nat:=match (opS s).guard with
 |some (t,_)=>t
 |none=>0
def cv(s:Mc):Option AV:=match s.pc with
 |.c (.cond c _ _)=>c.ev s.env
 |.v (⟨_,_,some (t,_)⟩::_)=>get s.env t
 |.s _ (⟨_,_,some (t,_)⟩::_) _ _ _ _=>get s.env t
 |_=>none
def br(s:Mc)(b:Bool):Mc:=match s.pc with
 |.c (.cond _ x y)=>⟨.c (if b=true then x else y),s.k,s.env,s.h⟩
 |.v (⟨d,o,some (t,w)⟩::L)=>⟨.v (⟨d,o,some (t,w)⟩::L),s.k,(t,.v (.bool b))::s.env,s.h⟩
 |.s b' (⟨d,o,some (t,w)⟩::L) S gl q tl=>⟨.s b' (⟨d,o,some (t,w)⟩::L) S gl q tl,s.k,(t,.v (.bool b))::s.env,s.h⟩
 |_=>s
section
variable {P:Program}{f:Nat}{R:Rm}{s:Mc}
theorem f1s{B:Bool}(hv:cv s=some (.v (.bool B)))(h1:B=true->Ok P f R (br s true))(h2:B=false->Ok P f R (br s false)):Ok P f R s:=by
 obtain⟨pc,k,env,h⟩:=s;simp only[cv]at hv;split at hv
 ·exact e2x hv h1 h2
 ·cases hB:B with
  |true=>exact c9o (c26 hB hv) rfl (h1 hB)
  |false=>exact c9o (c26 hB hv) rfl (h2 hB)
 ·cases hB:B with
  |true=>exact c9o (c26 hB hv) rfl (h1 hB)
  |false=>exact c9o (c26 hB hv) rfl (h2 hB)
 ·cases hv
theorem KW(m:Nat){B:Bool}{p q:Prop}(hw:(B=true->p)/\(B=false->q))(h1:B=true->p->Ok P f R (br (run m s) true))(h2:B=false->q->Ok P f R (br (run m s) false))(hv:cv (run m s)=some (.v (.bool B)):=by kernel_rfl):Ok P f R s:=N8 m (f1s hv (fun h=>h1 h (hw.1 h)) fun h=>h2 h (hw.2 h))
theorem KKn(m:Nat){B b:Bool}(hB:B=b)(hk:Ok P f R (br (run m s) b))(hv:cv (run m s)=some (.v (.bool B)):=by kernel_rfl):Ok P f R s:=by
 subst hB;exact N8 m (f1s hv (fun h=>by rw[h]at hk;exact hk) fun h=>by rw[h]at hk;exact hk)
def dpc(n:Nat):Pc->Pc
 |.v L=>.v (L.drop n)
 |.s b L S gl w tl=>.s b (L.drop n) S gl w tl
 |x=>x
def jnD(s:Mc)(n:Nat):Nat:=match s.pc with
 |.v L=>(((L[n - 1]?).bind fun o=>o.dst)).getD 0
 |.s _ L _ _ _ _=>(((L[n - 1]?).bind fun o=>o.dst)).getD 0
 |_=>0
def jn(s:Mc)(n:Nat)(a:AV):Mc:=⟨dpc n s.pc,s.k,(jnD s n,a)::drop (gT s) s.env,s.h⟩
def d02(s:Mc):Mc:=⟨s.pc,s.k,[],s.h⟩
def g5i(d t:Nat)(e env:Env):Bool:=(e.take (e.length - env.length)).all fun p=>p.1==t||p.1==d||(get env p.1).isNone
theorem g1y{d t:Nat}{a:AV}{e env:Env}(h1:get e d=some a)(h2:e.drop (e.length - env.length)=env)(h3:g5i d t e env=true):c33 ((d,a)::drop t env) e:=by
 intro u b hu;simp only[get]at hu;split at hu
 ·rename_i hd;subst hd;cases hu;exact h1
 ·rename_i hd
  have h4:u≠t:=by
   rintro rfl
   have:∀{e:Env},get (drop u e) u=none:=by
    intro e
    induction e with
    |nil=>rfl
    |cons q e ih=>
     obtain⟨v,c⟩:=q;simp only[drop];split
     ·exact ih
     ·rename_i hv;simp only[get];rw[if_neg hv];exact ih
   rw[this]at hu;cases hu
  have h5:get env u=some b:=by
   have:∀{e:Env},get (drop t e) u=get e u:=by
    intro e
    induction e with
    |nil=>rfl
    |cons q e ih=>
     obtain⟨v,c⟩:=q;simp only[drop];split
     ·rename_i hv;subst hv;simp only[get];rw[if_neg (fun h=>h4 h.symm)];exact ih
     ·simp only[get];rw[ih]
   rw[<-this];exact hu
  rw[<-List.take_append_drop (e.length - env.length) e,e0i,h2];split
  ·rename_i c hc;have hm:=d51 hc;have h6:=List.all_eq_true.1 h3 _ hm;simp only[Bool.or_eq_true,beq_iff_eq]at h6;rcases h6 with(h6|h6)|h6
   ·exact absurd h6 h4
   ·exact absurd h6.symm hd
   ·rw[h5]at h6;cases h6
  ·exact h5
def jnv(s:Mc)(n:Nat):Option (Bool × AV × AV × AV):=match cv s,get (run n (br s true)).env (jnD s n),get (run n (br s false)).env (jnD s n) with
 |some (.v (.bool B)),some (.v (.bool x)),some (.v (.bool y))=>some (B,.v (.bool (bif B then x else y)),.v (.bool x),.v (.bool y))
 |some (.v (.bool B)),some (.v (.int k x)),some (.v (.int _ y))=>some (B,.v (.int k (bif B then x else y)),.v (.int k x),.v (.int k y))
 |some (.v (.bool B)),some (.v (.string x)),some (.v (.string y))=>some (B,.v (.string (bif B then x else y)),.v (.string x),.v (.string y))
 |_,_,_=>none
def jnV(s:Mc)(n:Nat):AV:=((jnv s n).map fun p=>p.2.1).getD .nil
def met(s s1:Mc)(n:Nat):Bool:=g5i (jnD s n) (gT s) s1.env s.env&&(match s.pc with|.v _=>true|.s _ _ _ _ _ _=>true|_=>false)
theorem e3m{s s1:Mc}{n:Nat}{a:AV}(hk:Ok P f R (jn s n a))(ha:get s1.env (jnD s n)=some a)(hb:d02 s1=d02 (jn s n a))(hd:s1.env.drop (s1.env.length - s.env.length)=s.env)(hf:met s s1 n=true):Ok P f R s1:=by
 obtain⟨pc1,k1,env1,h1⟩:=s1;obtain⟨pc,k,env,h⟩:=s;simp only[d02,jn,Mc.mk.injEq]at hb;obtain⟨rfl,rfl, -,rfl⟩:=hb;simp only[met,Bool.and_eq_true]at hf;refine c9o (g1y ha hd hf.1) ?_ hk;cases pc<;>first|rfl|(cases hf.2)
theorem KT(m n:Nat)(hk:Ok P f R (jn (run m s) n (jnV (run m s) n)))(h0:((jnv (run m s) n).map fun p=>(some p.2.2.1,some p.2.2.2))=some (get (run n (br (run m s) true)).env (jnD (run m s) n),get (run n (br (run m s) false)).env (jnD (run m s) n)):=by kernel_rfl)(hb:(d02 (run n (br (run m s) true)),d02 (run n (br (run m s) false)))=(d02 (jn (run m s) n .nil),d02 (jn (run m s) n .nil)):=by kernel_rfl)(hd:((run n (br (run m s) true)).env.drop ((run n (br (run m s) true)).env.length - (run m s).env.length),(run n (br (run m s) false)).env.drop ((run n (br (run m s) false)).env.length - (run m s).env.length))=((run m s).env,(run m s).env):=by kernel_rfl)(hf:(met (run m s) (run n (br (run m s) true)) n&&met (run m s) (run n (br (run m s) false)) n)=true:=by kernel_rfl):Ok P f R s:=by
 refine N8 m ?_;generalize run m s=s0 at*;obtain⟨⟨B,a,x,y⟩,h1,h2⟩:=Option.map_eq_some_iff.1 h0;have hV:jnV s0 n=a:=by unfold jnV;rw[h1];rfl
 rw[hV]at hk
 have hc:cv s0=some (.v (.bool B))/\a=bif B then x else y:=by
  unfold jnv at h1;split at h1
  ·rename_i h _ _;cases h1;exact⟨h,by cases B<;>rfl⟩
  ·rename_i h _ _;cases h1;exact⟨h,by cases B<;>rfl⟩
  ·rename_i h _ _;cases h1;exact⟨h,by cases B<;>rfl⟩
  ·cases h1
 simp only[Prod.mk.injEq]at h2 hb hd;simp only[Bool.and_eq_true]at hf;refine f1s hc.1 (fun hB=>?_) (fun hB=>?_)
 ·have ha:=hc.2;rw[hB]at ha;subst ha;exact N8 n (e3m hk h2.1.symm hb.1 hd.1 hf.1)
 ·have ha:=hc.2;rw[hB]at ha;subst ha;exact N8 n (e3m hk h2.2.symm hb.2 hd.2 hf.2)
theorem KQ(m n:Nat){T:Type}(C:T->AV){B:Bool}{W:T->Prop}{p q:(T->Prop)->Prop}(hw:∃R:T->Prop,(∀z,R z->W z)/\((B=true->p R)/\(B=false->q R)))(hk:∀z,W z->Ok P f R (jn (run m s) n (C z)))(h1:∀U:T->Prop,(∀z,U z->Ok P f R (jn (run m s) n (C z)))->B=true->p U->Ok P f R (br (run m s) true))(h2:∀U:T->Prop,(∀z,U z->Ok P f R (jn (run m s) n (C z)))->B=false->q U->Ok P f R (br (run m s) false))(hv:cv (run m s)=some (.v (.bool B)):=by kernel_rfl):Ok P f R s:=by
 obtain⟨U,hU,h3,h4⟩:=hw;exact N8 m (f1s hv (fun h=>h1 U (fun z hz=>hk z (hU z hz)) h (h3 h)) fun h=>h2 U (fun z hz=>hk z (hU z hz)) h (h4 h))
theorem KE(m:Nat){T:Type}{U:T->Prop}{C:T->AV}{s0:Mc}{n:Nat}{z:T}(key:∀z,U z->Ok P f R (jn s0 n (C z)))(hw:U z)(ha:get (run m s).env (jnD s0 n)=some (C z):=by kernel_rfl)(hb:d02 (run m s)=d02 (jn s0 n (C z)):=by kernel_rfl)(hd:(run m s).env.drop ((run m s).env.length - s0.env.length)=s0.env:=by kernel_rfl)(hf:met s0 (run m s) n=true:=by kernel_rfl):Ok P f R s:=N8 m (e3m (key z hw) ha hb hd hf)
abbrev kB(b:Bool):AV:=.v (.bool b)
def So(I:List Nat)(h:A4):List (Nat × List AV):=I.map fun i=>(i,((h.blks[i]?).bind id).getD [])
def dr0(s:Mc)(S:List (Nat × List AV)):Mc:=match s.pc with
 |.c (.drawn _ a t)=>⟨.s true a S s.h.globs none t,s.k,s.env,s.h⟩
 |_=>s
def h5p(s:Mc):Bool:=match s.pc with
 |.c (.drawn o a _)=>okq a&&e0r (clo o) a
 |_=>false
theorem KD(m:Nat)(I:List Nat)(hk:Ok P f R (dr0 (run m s) (So I (run m s).h)))(hc:h5p (run m s)=true:=by kernel_rfl)(hS:inS (So I (run m s).h) (run m s).h=(So I (run m s).h).map (fun p=>some (some p.2)):=by kernel_rfl):Ok P f R s:=by
 refine N8 m ?_;generalize run m s=s0 at*;obtain⟨pc,k,env,h⟩:=s0;simp only[h5p]at hc;split at hc
 ·rw[Bool.and_eq_true]at hc;exact dS _ hk hc.1 hc.2 hS
 ·cases hc
def dr1(s:Mc)(S:List (Nat × List AV)):Mc:=match s.pc with
 |.c (.drawn _ a t)=>⟨.s false (a.take (a.length - 1)) S s.h.globs a[a.length - 1]? t,s.k,s.env,s.h⟩
 |_=>s
def h4a(s:Mc):Bool:=match s.pc with
 |.c (.drawn o a _)=>okq a&&e9h (clo o) a (a.length - 1)&&(match a[a.length - 1]? with|some w=>w.guard.isNone&&w.dst.isNone|none=>false)
 |_=>false
theorem KDL(m:Nat)(I:List Nat)(hk:Ok P f R (dr1 (run m s) (So I (run m s).h)))(hc:h4a (run m s)=true:=by kernel_rfl)(hS:inS (So I (run m s).h) (run m s).h=(So I (run m s).h).map (fun p=>some (some p.2)):=by kernel_rfl):Ok P f R s:=by
 refine N8 m ?_;generalize run m s=s0 at*;obtain⟨pc,k,env,h⟩:=s0;simp only[h4a]at hc;split at hc
 ·rename_i o a t;simp only[Bool.and_eq_true]at hc;obtain⟨⟨h1,h2⟩,h3⟩:=hc;simp only[dr1]at hk;split at h3
  ·rename_i w hwq;rw[hwq]at hk;rw[Bool.and_eq_true]at h3
   have hlen:a.length=(a.length - 1)+1:=by
    have:=(List.getElem?_eq_some_iff.1 hwq).1;omega
   exact dL (a.length - 1) _ hwq hk hlen (Option.isNone_iff_eq_none.1 h3.1) (Option.isNone_iff_eq_none.1 h3.2) h1 h2 hS
  ·cases h3
 ·cases hc
def chg(s:Mc):AV × A4:=(opn (opS s) s.env s.h).getD (.nil,s.h)
theorem KV(m:Nat)(hk:Ok P f R (d2b (run m s) (chg (run m s)).1 (chg (run m s)).2))(ho:(opn (opS (run m s)) (run m s).env (run m s).h).isSome=true:=by kernel_rfl)(hc:okH (run m s)=true:=by kernel_rfl)(hs:seS (run m s) (chg (run m s)).2=seE (run m s):=by kernel_rfl):Ok P f R s:=by
 obtain⟨p,hp⟩:=Option.isSome_iff_exists.1 ho;have hq:chg (run m s)=p:=by unfold chg;rw[hp];rfl
 rw[hq]at hk hs;exact N8 m (a6h (e07 hp) hk hc hs)
def f5x:W3->List Fr->List (Pc × List Fr)
 |.seq a b,k=>(.c b,k)::(f5x a (.sq b::k)++f5x b k)
 |.cond _ a b,k=>f5x a k++f5x b k
 |.block i a,k=>f5x a (.bk i::k)
 |.loop a,k=>(.l a,k)::f5x a (.lp a::k)
 |.scope a,k=>match c40 a with
  |some l=>(.g l a,k)::f5x a (.sc l a::k)
  |none=>f5x a (.sn::k)
 |_,_=>[]
def pos(P:Program)(f i:Nat):Pc × List Fr:=((f5x (cdC P f) [])[i]?).getD (.n .normal,[])
def J(P:Program)(f:Nat)(R:Rm)(i:Nat)(e:Env)(h:A4):Prop:=Ok P f R ⟨(pos P f i).1,(pos P f i).2,e,h⟩
def atC(s:Mc):Bool:=match s.pc with
 |.c _=>true
 |.l _=>true
 |.g _ _=>true
 |_=>false
theorem c9b(hc:atC s=true)(hg:∀(σ:Sg) (a:Act),St σ s.h s.env (cdN P f) a->∃σ' h' env',σ'.w=σ.w/\Le σ σ'/\St σ' h' env' (cdN P f) a/\Ok P f R ⟨s.pc,s.k,env',h'⟩):Ok P f R s:=by
 obtain⟨pc,k,env,h⟩:=s;cases pc with
 |c x=>exact d9j hg
 |l x=>exact e1f hg
 |g l x=>exact e2b hg
 |_=>cases hc
def f4c(Z:List Nat)(env:Env)(p:Nat × AV):Option AV:=if Z.contains p.1=true then(get env p.1).map nz else get env p.1
theorem f5b{σ:Sg}{h:A4}{env e:Env}{N:Nat}{a:Act}{Z:List Nat}(he:e.map (f4c Z env)=e.map fun p=>some p.2)(hs:St σ h env N a):St σ h e N a:=⟨hs.inv,fun t b ht=>by
 obtain⟨i,hi⟩:=List.mem_iff_getElem?.1 (d51 ht);have h1:=congrArg (fun l=>l[i]?) he;simp only[List.getElem?_map,hi,Option.map_some,Option.some.injEq]at h1;unfold f4c at h1;split at h1
 ·obtain⟨c,h2,rfl⟩:=Option.map_eq_some_iff.1 h1;obtain⟨y,h3,h4⟩:=hs.env t c h2;exact⟨y,h3,h4.nz⟩
 ·exact hs.env t b h1,hs.size,hs.defers⟩
theorem e0k{e:Env}(Z:List Nat)(hc:atC s=true)(he:e.map (f4c Z s.env)=e.map fun p=>some p.2)(hk:Ok P f R ⟨s.pc,s.k,e,s.h⟩):Ok P f R s:=c9b hc fun σ a hs=>⟨σ,s.h,e,rfl,Le.refl σ,f5b he hs,hk⟩
theorem KJ(m:Nat)(Z:List Nat){i:Nat}{e:Env}{h:A4}(hw:J P f R i e h)(hp:((run m s).pc,(run m s).k,(run m s).h)=((pos P f i).1,(pos P f i).2,h):=by kernel_rfl)(hc:atC (run m s)=true:=by kernel_rfl)(he:e.map (f4c Z (run m s).env)=e.map (fun p=>some p.2):=by kernel_rfl):Ok P f R s:=by
 simp only[Prod.mk.injEq]at hp;refine N8 m (e0k Z hc he ?_);rw[hp.1,hp.2.1,hp.2.2];exact hw
def c90(h:A4):List Bool:=h.blks.map Option.isSome
theorem KJl(m:Nat)(Z:List Nat){i:Nat}{e:Env}{h:A4}(hw:J P f R i e h)(hlow:a77 (c90 h) h.bufs.length e=true/\a5d (c90 h) h.bufs.length h.blks=true)(hp:((run m s).pc,(run m s).k,Z7 (c90 h) (run m s).h.blks,(run m s).h.bufs.take h.bufs.length,(run m s).h.globs)=((pos P f i).1,(pos P f i).2,h.blks,h.bufs,h.globs):=by kernel_rfl)(hc:atC (run m s)=true:=by kernel_rfl)(he:e.map (f4c Z (run m s).env)=e.map (fun p=>some p.2):=by kernel_rfl)(hm:((List.range R.kb).all (fun k=>(c90 h).getD k false)&&Nat.ble R.kf h.bufs.length&&X3 h.globs)=true:=by kernel_rfl):Ok P f R s:=by
 simp only[Prod.mk.injEq]at hp;simp only[Bool.and_eq_true,List.all_eq_true,List.mem_range]at hm;refine N8 m (e0k Z hc he ?_);generalize run m s=s0 at*;obtain⟨pc,k,env,h0⟩:=s0;obtain⟨h1,h2,h3,h4,h5⟩:=hp;simp only at h1 h2 h3 h4 h5
 have hw':Ok P f R ⟨pc,k,e,⟨Z7 (c90 h) h0.blks,h0.bufs.take h.bufs.length,h0.globs⟩⟩:=by
  rw[h3,h4,h5,h1,h2];exact hw
 have hl2:a5d (c90 h) h.bufs.length (Z7 (c90 h) h0.blks)=true:=by rw[h3];exact hlow.2
 have hg:X3 h0.globs=true:=by rw[h5];exact hm.2
 cases pc with
 |c x=>exact g6s _ _ hm.1.1 (Nat.le_of_ble_eq_true hm.1.2) hlow.1 hl2 hg hw'
 |l x=>exact g2b _ _ hm.1.1 (Nat.le_of_ble_eq_true hm.1.2) hlow.1 hl2 hg hw'
 |g l x=>exact f2b _ _ hm.1.1 (Nat.le_of_ble_eq_true hm.1.2) hlow.1 hl2 hg hw'
 |_=>cases hc
theorem KO(m t sz:Nat)(hk:Ok P f R ⟨(run m s).pc,(run m s).k,(t,.sl [] (.own (run m s).h.bufs.length))::(run m s).env,⟨(run m s).h.blks,(run m s).h.bufs++[(0,sz)],(run m s).h.globs⟩⟩)(hc:atC (run m s)=true:=by kernel_rfl)(hg:get (run m s).env t=some .nil:=by kernel_rfl):Ok P f R s:=N8 m (c9b hc fun σ a hs=>by
 obtain⟨σ',h1,h2,h3⟩:=f65 sz hg hs;exact⟨σ',_,_,h1,h2,h3,hk⟩)
def c5r(s:Mc)(i:Nat):List AV:=((s.h.blks[i]?).bind id).getD []
theorem KOb(m i j sz:Nat)(hk:Ok P f R ⟨(run m s).pc,(run m s).k,(run m s).env,⟨(run m s).h.blks.set i (some ((c5r (run m s) i).set j (.sl [] (.own (run m s).h.bufs.length)))),(run m s).h.bufs++[(0,sz)],(run m s).h.globs⟩⟩)(hc:atC (run m s)=true:=by kernel_rfl)(hg:(run m s).h.blks[i]? =some (some (c5r (run m s) i)):=by kernel_rfl)(hj:(c5r (run m s) i)[j]? =some .nil:=by kernel_rfl):Ok P f R s:=N8 m (c9b hc fun σ a hs=>by
 obtain⟨σ',h1,h2,h3⟩:=f03 sz hg hj hs;exact⟨σ',_,_,h1,h2,h3,hk⟩)
theorem KNb(m i j:Nat)(hk:Ok P f R ⟨(run m s).pc,(run m s).k,(run m s).env,⟨(run m s).h.blks.set i (some ((c5r (run m s) i).set j (nz1 (atE (c5r (run m s) i) j)))),(run m s).h.bufs,(run m s).h.globs⟩⟩)(hc:atC (run m s)=true:=by kernel_rfl)(hg:(run m s).h.blks[i]? =some (some (c5r (run m s) i)):=by kernel_rfl)(hj:(c5r (run m s) i)[j]? =some (atE (c5r (run m s) i) j):=by kernel_rfl)(hi:(a8s (c5r (run m s) i)&&a8s ((c5r (run m s) i).set j (nz1 (atE (c5r (run m s) i) j))))=true:=by kernel_rfl):Ok P f R s:=by
 rw[Bool.and_eq_true]at hi;exact N8 m (c9b hc fun σ a hs=>⟨σ,_,_,rfl,Le.refl σ,g5n hg hj rfl hi.1 hi.2 hs,hk⟩)
def done(s:Mc):Bool:=match s.pc,s.k with
 |.n .ret,[]=>true
 |.n .normal,[]=>true
 |_,_=>false
theorem d9g(hd:done s=true)(hk:R.Q (cdR P f) .ret s.env s.h):Ok P f R s:=by
 obtain⟨pc,k,env,h⟩:=s;simp only[done]at hd;split at hd
 ·exact hk
 ·cases R<;>exact hk
 ·cases hd
theorem KR(m:Nat){T:Type}{e:T->AV}{r r0:T}(hw:r=r0)(hp:∀r,plain (e r)=true)(hd:done (run m s)=true:=by kernel_rfl)(he:(c7t (run m s).env (run m s).h (cdR P f)).map (fun l=>nz (d4x l))=some (e r0):=by kernel_rfl):Ok P f (.ret (e r)) s:=N8 m (d9g hd (rx hw (hp r0) he))
theorem KRi(m:Nat){T:Type}{k:Nat}{e:T->AV}{fc:T->List AV}{fb:T->List (Nat × Nat)}{r r0:T}(hw:r=r0)(hp:∀r,plain (e r)=true/\(fc r).all ok1=true/\lowL [true] k (fc r)=true/\(fb r).length=k)(hd:done (run m s)=true:=by kernel_rfl)(he:(c7t (run m s).env (run m s).h (cdR P f)).map (fun l=>nz (d4x l))=some (e r0):=by kernel_rfl)(hb:(run m s).h.blks[0]? =some (some (c5r (run m s) 0)):=by kernel_rfl)(hit:a8s (c5r (run m s) 0)=true:=by kernel_rfl)(hc:(c5r (run m s) 0).map (a2f 0 (some 0))=fc r0:=by kernel_rfl)(hf:(run m s).h.bufs.take k=fb r0:=by kernel_rfl)(hg:(run m s).h.globs=[]:=by kernel_rfl):Ok P f (.io k (e r) (fc r) (fb r)) s:=N8 m (d9g hd (rio hw ⟨(hp r0).1,(hp r0).2.1,(hp r0).2.2.1⟩ _ he hb hit hc hf hg))
theorem KRr(m:Nat){α:Type}(E:En α){r l:List α}(hw:l≠[]/\r=l)(hd:done (run m s)=true:=by kernel_rfl)(hr:cdR P f=[]:=by kernel_rfl)(hb:(run m s).h.blks[0]? =some (some (cellsOf E.f l)):=by kernel_rfl)(hf:(run m s).h.bufs.take 0=[]:=by kernel_rfl)(hg:(run m s).h.globs=[]:=by kernel_rfl):Ok P f (.io 0 (.tuple []) (cellsOf E.f r) []) s:=N8 m (d9g hd (by rw[hr];exact h7f E.ro hw hb hf hg))
theorem e1k(h:(b37 P f).isSome=true):b37 P f=some (cdN P f,cdC P f,cdR P f):=by
 unfold cdN cdC cdR;cases hg:b37 P f with
 |none=>rw[hg]at h;cases h
 |some p=>rfl
def s0(P:Program)(f:Nat)(args:List AV)(h:A4):Mc:=⟨.c (cdC P f),[],c2u 0 args,h⟩
theorem fP{gl:List (Nat × List AV)}{args:List AV}{r:AV}(hk:Ok P f (.ret r) (s0 P f args ⟨[],[],gl⟩))(hf:((b37 P f).isSome&&Nat.ble args.length (cdN P f))=true:=by kernel_rfl):B8 P gl f args r:=by
 rw[Bool.and_eq_true]at hf;exact g0n (e1k hf.1) (Nat.le_of_ble_eq_true hf.2) rfl hk
theorem fIO{k:Nat}{args c:List AV}{bf:List (Nat × Nat)}{r:AV}{c':List AV}{bf':List (Nat × Nat)}(hk:Ok P f (.io k r c' bf') (s0 P f args ⟨[some c],bf,[]⟩))(hb:bf.length=k:=by kernel_rfl)(hf:((b37 P f).isSome&&Nat.ble args.length (cdN P f))=true:=by kernel_rfl):b5x P [] f args c bf r c' bf':=by
 rw[Bool.and_eq_true]at hf;exact h6m (e1k hf.1) k hb (Nat.le_of_ble_eq_true hf.2) rfl hk
theorem fRO{α:Type}{e:α->List AV}{sz len:Nat}{args:List AV}{l r:List α}(hk:Ok P f (.io 0 (.tuple []) (cellsOf e r) []) (s0 P f (.row 0 0 sz len len::args) ⟨[some (cellsOf e l)],[],[]⟩))(hf:((b37 P f).isSome&&Nat.ble (AV.row 0 0 sz len len::args).length (cdN P f))=true:=by kernel_rfl):c2z P e sz f len args l r:=fIO hk rfl hf
def h32(s:Mc):Bool:=match s.pc with
 |.v (o::_)=>W7 s.env o.guard==some true
 |_=>false
theorem KN(m:Nat){α:Type}(E:En α){l:List α}{c:Bool}{W:Bool->Prop}(hw:∀b:Bool,(l≠[]->b=c)->W b)(hk:∀b,W b->Ok P f R (put (run m s) (.v (.bool b))))(hc:h32 (run m s)=true:=by kernel_rfl)(ho:op (run m s)=.eq .slice (!c) (oX (op (run m s))) (oY (op (run m s))):=by kernel_rfl)(hx:b9r (xv (run m s))=some (List.map E.f l):=by kernel_rfl)(hy:yv (run m s)=some .nil:=by kernel_rfl):Ok P f R s:=by
 refine N8 m ?_;generalize run m s=s0 at*;obtain⟨pc,k,env,h⟩:=s0;obtain⟨tok,hx⟩:=a6t hx;cases pc with
 |v L=>
  cases L with
  |nil=>cases hc
  |cons o L=>
   refine .inr (.inr ⟨by simpa[h32]using hc,fun av=>∃b:Bool,av=.v (.bool b)/\(l≠[]->b=c),fun K' hK'=>?_,fun av hav=>?_⟩)
   ·change o.op=_ at ho;rw[ho];simp only[aop];change wv (xv _) _;rw[hx];simp only[wv];change wv (yv _) _;rw[hy];simp only[wv,f21];rcases Classical.em (l=[]) with h0|h0
    ·right;subst h0;exact⟨rfl,hK' _ ⟨_,rfl,fun hn=>absurd rfl hn⟩,hK' _ ⟨_,rfl,fun hn=>absurd rfl hn⟩⟩
    ·left;refine⟨by simpa using h0,hK' _ ⟨_,rfl,fun _=>?_⟩⟩;cases c<;>rfl
   ·obtain⟨b,rfl,hb⟩:=hav;exact hk b (hw b hb)
 |_=>cases hc
theorem b6v{s:Mc}{h:A4}(hs:seE s=none):seS s h=none:=by
 obtain⟨pc,k,env,h⟩:=s;cases pc with
 |s b L S gl w tl=>cases L<;>first|rfl|cases hs
 |_=>rfl
theorem KX(m:Nat){t:ByteArray}{p:Nat}{A B:Prop}(hw:(p<t.size->A)/\(¬p<t.size->B))(h1:p<t.size->A->Ok P f R (d2b (run m s) (.tuple [.v (.bool true),.v (.int .i64 p),.v (.int .i32 (Utf8.decode t p).1)]) ⟨(run m s).h.blks.set (e38 (xv (run m s))) (some [.it t (p+(Utf8.decode t p).2)]),(run m s).h.bufs,(run m s).h.globs⟩))(h2:¬p<t.size->B->Ok P f R (d2b (run m s) (.tuple [.v (.bool false)]) (run m s).h))(hc:okH (run m s)=true:=by kernel_rfl)(ho:op (run m s)=.next (oX (op (run m s))):=by kernel_rfl)(hx:xv (run m s)=some (.ptr (e38 (xv (run m s))) 0):=by kernel_rfl)(hb:(run m s).h.blks[e38 (xv (run m s))]? =some (some [.it t p]):=by kernel_rfl)(hs:seE (run m s)=none:=by kernel_rfl):Ok P f R s:=by
 have hsn:∀h',seS (run m s) h'=seE (run m s):=fun h'=>by rw[hs];exact b6v hs
 rcases Nat.lt_or_ge p t.size with hp|hp
 ·refine N8 m (a6h (fun K hk=>?_) (h1 hp (hw.1 hp)) hc (hsn _));rw[ho];simp only[aop];change wv (xv _) _;rw[hx];simp only[wv,c6y,hb];exact⟨fun _=>hk,fun hn=>(hn hp).elim⟩
 ·refine N8 m (a6h (fun K hk=>?_) (h2 (Nat.not_lt.2 hp) (hw.2 (Nat.not_lt.2 hp))) hc (hsn _));rw[ho];simp only[aop];change wv (xv _) _;rw[hx];simp only[wv,c6y,hb];exact⟨fun hn=>(Nat.not_lt.2 hp hn).elim,fun _=>hk⟩
end
abbrev JP(P:Program)(f:Nat)(r:AV)(i:Nat)(e:Env):Prop:=J P f (.ret r) i e ⟨[],[],[]⟩
section
variable {P:Program}{f:Nat}{R:Rm}{s:Mc}{α:Type}{W:α->Prop}{p:Prop}
theorem mS{h:A4}{y:Option AV}{E:En Int}{t:ByteArray}(hy:y=some (.v (.string t)):=by kernel_rfl)(hE:E.f=(fun n=>[AV.v (.int .u8 n)]):=by kernel_rfl):HM h y E (bI t):=by
 unfold HM;rw[hE];exact g6d hy
theorem KC0(m:Nat){g:FuncId}{gl:List (Nat × List AV)}{args:List AV}{r:AV}(hw:B8 P gl g args r/\p)(hp:plainL args=true)(hk:p->Ok P f R (put (run m s) r))(hc:okS (run m s)=true:=by kernel_rfl)(ho:op (run m s)=.call (.c (.clo (.func g) [] [])) (oA (op (run m s))):=by kernel_rfl)(ha:(evs (run m s).env (oA (op (run m s)))).map (List.map nz)=some args:=by kernel_rfl)(hg:e9k (run m s)=gl:=by kernel_rfl)(hgl:X3 gl=true:=by kernel_rfl):Ok P f R s:=KC (W:=fun _:Unit=>p) (e:=fun _=>r) m ⟨(),hw⟩ hp (fun _=>hk) hc ho ha hg hgl
def ioN(s:Mc):Nat:=match evs s.env (oA (op s)) with
 |some (.ptr n _::_)=>n
 |some (.row n _ _ _ _::_)=>n
 |_=>0
def ioA(s:Mc):List AV:=(evs s.env (oA (op s))).getD []
theorem KIO(m:Nat){g:FuncId}{gl:List (Nat × List AV)}{small c:List AV}{bf:List (Nat × Nat)}{e:α->AV}{c':α->List AV}{bf':α->List (Nat × Nat)}(hw:∃y,b5x P gl g small c bf (e y) (c' y) (bf' y)/\W y)(hp:∀{y:α},c.all ok1=true/\(c' y).all ok1=true/\small.all okA=true/\plain (e y)=true)(hk:∀y,W y->Ok P f R (d2b (run m s) (e y) ⟨(run m s).h.blks.set (ioN (run m s)) (some ((c' y).map (d4c (ioN (run m s)) none))),(run m s).h.bufs,(run m s).h.globs⟩))(hc:okH (run m s)=true:=by kernel_rfl)(ho:op (run m s)=.call (.c (.clo (.func g) [] [])) (oA (op (run m s))):=by kernel_rfl)(hb:(bf,bf')=([],fun _=>[]):=by kernel_rfl)(ha:evs (run m s).env (oA (op (run m s)))=some (ioA (run m s)):=by kernel_rfl)(hn:(run m s).h.blks[ioN (run m s)]? =some (some (c5r (run m s) (ioN (run m s)))):=by kernel_rfl)(hit:a8s (c5r (run m s) (ioN (run m s)))=true:=by kernel_rfl)(hit':(fun y=>a8s (c' y))=(fun _=>true):=by kernel_rfl)(hcc:(c5r (run m s) (ioN (run m s))).map (a2f (ioN (run m s)) none)=c:=by kernel_rfl)(hargs:(ioA (run m s)).map (smol (ioN (run m s)) none)=small:=by kernel_rfl)(hg:(run m s).h.globs=gl:=by kernel_rfl)(hgl:X3 gl=true:=by kernel_rfl)(hs:seE (run m s)=none:=by kernel_rfl):Ok P f R s:=by
 obtain⟨y,h1,hw⟩:=hw;subst hg;simp only[Prod.mk.injEq]at hb;refine N8 m (a6h ?_ (hk y hw) hc (by rw[hs];exact b6v hs));rw[ho];exact h2z _ none _ _ _ h1 hp (.inl ⟨rfl,hb.1,congrFun hb.2 y,rfl⟩) ha hn hit (congrFun hit' y) hcc hargs rfl hgl
theorem h2u{l:List (Nat × Nat)}(h:l.length=1):∃x,l=[x]:=by
 match l,h with
 |[x],_=>exact⟨x,rfl⟩
theorem KI1(m:Nat){g:FuncId}{gl:List (Nat × List AV)}{small c:List AV}{bf:List (Nat × Nat)}{e:α->AV}{c':α->List AV}{bf':α->List (Nat × Nat)}(hw:∃y,b5x P gl g small c bf (e y) (c' y) (bf' y)/\W y)(hp:∀{y:α},c.all ok1=true/\(c' y).all ok1=true/\small.all okA=true/\plain (e y)=true)(hk:∀y,W y->Ok P f R (d2b (run m s) (e y) ⟨(run m s).h.blks.set (ioN (run m s)) (some ((c' y).map (d4c (ioN (run m s)) (some 0)))),bf' y,(run m s).h.globs⟩))(hc:okH (run m s)=true:=by kernel_rfl)(ho:op (run m s)=.call (.c (.clo (.func g) [] [])) (oA (op (run m s))):=by kernel_rfl)(hb:(bf.length,fun y=>(bf' y).length)=(1,fun _=>1):=by kernel_rfl)(hb2:(run m s).h.bufs=bf:=by kernel_rfl)(ha:evs (run m s).env (oA (op (run m s)))=some (ioA (run m s)):=by kernel_rfl)(hn:(run m s).h.blks[ioN (run m s)]? =some (some (c5r (run m s) (ioN (run m s)))):=by kernel_rfl)(hit:a8s (c5r (run m s) (ioN (run m s)))=true:=by kernel_rfl)(hit':(fun y=>a8s (c' y))=(fun _=>true):=by kernel_rfl)(hcc:(c5r (run m s) (ioN (run m s))).map (a2f (ioN (run m s)) (some 0))=c:=by kernel_rfl)(hargs:(ioA (run m s)).map (smol (ioN (run m s)) (some 0))=small:=by kernel_rfl)(hg:(run m s).h.globs=gl:=by kernel_rfl)(hgl:X3 gl=true:=by kernel_rfl)(hs:seE (run m s)=none:=by kernel_rfl):Ok P f R s:=by
 obtain⟨y,h1,hw⟩:=hw;subst hg;simp only[Prod.mk.injEq]at hb;obtain⟨x,hx⟩:=h2u hb.1;obtain⟨x',hx'⟩:=h2u (congrFun hb.2 y);refine N8 m (a6h ?_ (hk y hw) hc (by rw[hs];exact b6v hs));rw[ho];exact h2z _ (some 0) _ _ _ h1 hp (.inr ⟨x,x',rfl,hx,hx',hb2.trans hx,hx'⟩) ha hn hit (congrFun hit' y) hcc hargs rfl hgl
theorem KIN(m j sz:Nat){g:FuncId}{gl:List (Nat × List AV)}{small c:List AV}{bf:List (Nat × Nat)}{e:α->AV}{c':α->List AV}{bf':α->List (Nat × Nat)}(hw:∃y,b5x P gl g small c bf (e y) (c' y) (bf' y)/\W y)(hp:∀{y:α},c.all ok1=true/\(c' y).all ok1=true/\small.all okA=true/\plain (e y)=true)(hk:∀y,W y->Ok P f R (d2b (run m s) (e y) ⟨(run m s).h.blks.set (ioN (run m s)) (some ((c' y).map (d4c (ioN (run m s)) (some 0)))),bf' y,(run m s).h.globs⟩))(hc:okH (run m s)=true:=by kernel_rfl)(ho:op (run m s)=.call (.c (.clo (.func g) [] [])) (oA (op (run m s))):=by kernel_rfl)(hb:(bf,fun y=>(bf' y).length)=([(0,sz)],fun _=>1):=by kernel_rfl)(hb2:(run m s).h.bufs=[]:=by kernel_rfl)(ha:evs (run m s).env (oA (op (run m s)))=some (ioA (run m s)):=by kernel_rfl)(hn:(run m s).h.blks[ioN (run m s)]? =some (some (c5r (run m s) (ioN (run m s)))):=by kernel_rfl)(hj:(c5r (run m s) (ioN (run m s)))[j]? =some .nil:=by kernel_rfl)(hit:a8s ((c5r (run m s) (ioN (run m s))).set j (.sl [] (.own 0)))=true:=by kernel_rfl)(hit':(fun y=>a8s (c' y))=(fun _=>true):=by kernel_rfl)(hcc:((c5r (run m s) (ioN (run m s))).set j (.sl [] (.own 0))).map (a2f (ioN (run m s)) (some 0))=c:=by kernel_rfl)(hargs:(ioA (run m s)).map (smol (ioN (run m s)) (some 0))=small:=by kernel_rfl)(hg:(run m s).h.globs=gl:=by kernel_rfl)(hgl:X3 gl=true:=by kernel_rfl)(hs:seE (run m s)=none:=by kernel_rfl):Ok P f R s:=by
 obtain⟨y,h1,hw⟩:=hw;subst hg;simp only[Prod.mk.injEq]at hb;obtain⟨x',hx'⟩:=h2u (congrFun hb.2 y);refine N8 m (a6h ?_ (hk y hw) hc (by rw[hs];exact b6v hs));rw[ho,hx'];exact h1e _ j sz _ _ _ h1 hp ⟨hb.1,hx'⟩ ha hn hj hb2 hit (congrFun hit' y) hcc hargs rfl hgl
theorem KRO(m:Nat)(E:En α){g:FuncId}{len:Nat}{small:List AV}{l:List α}{W:List α->Prop}(hw:∃y,c2z P E.f E.sz g len small l y/\(l≠[]/\y≠[])/\W y)(hp:small.all okA=true)(hk:∀y,W y->Ok P f R (d2b (run m s) (.tuple []) ⟨(run m s).h.blks.set (ioN (run m s)) (some (cellsOf E.f y)),(run m s).h.bufs,(run m s).h.globs⟩))(hc:okH (run m s)=true:=by kernel_rfl)(ho:op (run m s)=.call (.c (.clo (.func g) [] [])) (oA (op (run m s))):=by kernel_rfl)(ha:evs (run m s).env (oA (op (run m s)))=some (ioA (run m s)):=by kernel_rfl)(hn:(run m s).h.blks[ioN (run m s)]? =some (some (cellsOf E.f l)):=by kernel_rfl)(hargs:(ioA (run m s)).map (smol (ioN (run m s)) none)=.row 0 0 E.sz len len::small:=by kernel_rfl)(hg:(run m s).h.globs=[]:=by kernel_rfl)(hs:seE (run m s)=none:=by kernel_rfl):Ok P f R s:=by
 obtain⟨y,h1,h0,hw⟩:=hw;refine N8 m (a6h ?_ (hk y hw) hc (by rw[hs];exact b6v hs));rw[ho];exact h2i _ _ E.ro h1 h0 hp ha hn hargs hg
theorem KNw(m:Nat)(E:En α){g:FuncId}{l:List α}(h0:l≠[])(hw:f6g P E.f E.sz g l/\p)(hk:p->Ok P f R (d2b (run m s) (.row (run m s).h.blks.length 0 E.sz l.length l.length) ⟨(run m s).h.blks++[some (cellsOf E.f l)],(run m s).h.bufs,(run m s).h.globs⟩))(hc:okH (run m s)=true:=by kernel_rfl)(ho:op (run m s)=.call (.c (.clo (.func g) [] [])) (oA (op (run m s))):=by kernel_rfl)(ha:(evs (run m s).env (oA (op (run m s)))).map (List.map nz)=some [.sl (l.map E.f) .no]:=by kernel_rfl)(hs:seE (run m s)=none:=by kernel_rfl):Ok P f R s:=N8 m (a6h (by rw[ho];exact h0d hw.1 E.ro h0 ha) (hk hw.2) hc (by rw[hs];exact b6v hs))
theorem KNB(m:Nat)(E:En α){g:FuncId}{l:List α}(hw:g29 P E.f E.sz g l/\p)(hk:p->Ok P f R (d2b (run m s) (.sl (l.map E.f) (.own (run m s).h.bufs.length)) ⟨(run m s).h.blks,(run m s).h.bufs++[(l.length,E.sz)],(run m s).h.globs⟩))(hc:okH (run m s)=true:=by kernel_rfl)(ho:op (run m s)=.call (.c (.clo (.func g) [] [])) (oA (op (run m s))):=by kernel_rfl)(ha:(evs (run m s).env (oA (op (run m s)))).map (List.map nz)=some [.sl (l.map E.f) .no]:=by kernel_rfl)(hs:seE (run m s)=none:=by kernel_rfl):Ok P f R s:=N8 m (a6h (by rw[ho];exact g7i hw.1 E.ro.hp ha) (hk hw.2) hc (by rw[hs];exact b6v hs))
theorem KT2(m n:Nat)(B:Bool)(C:Bool->AV)(h1:B=true->Ok P f R (jn (run m s) n (C true))->Ok P f R (br (run m s) true))(h2:B=false->Ok P f R (jn (run m s) n (C false))->Ok P f R (br (run m s) false))(hk:Ok P f R (jn (run m s) n (C B)))(hv:cv (run m s)=some (.v (.bool B)):=by kernel_rfl):Ok P f R s:=N8 m (f1s hv (fun h=>h1 h (by rw[h]at hk;exact hk)) fun h=>h2 h (by rw[h]at hk;exact hk))
theorem KE2(m:Nat){a:AV}{s0:Mc}{n:Nat}(key:Ok P f R (jn s0 n a))(ha:get (run m s).env (jnD s0 n)=some a:=by kernel_rfl)(hb:d02 (run m s)=d02 (jn s0 n a):=by kernel_rfl)(hd:(run m s).env.drop ((run m s).env.length - s0.env.length)=s0.env:=by kernel_rfl)(hf:met s0 (run m s) n=true:=by kernel_rfl):Ok P f R s:=N8 m (e3m key ha hb hd hf)
def g8d(s:Mc):Bool:=match s.pc with
 |.c _=>true
 |_=>false
def cut(e:Env)(env:Env):Env:=e.map fun p=>(p.1,(get env p.1).getD .nil)
theorem e7a{e:Env}(hc:g8d s=true)(he:(cut e s.env).map (f4c [] s.env)=(cut e s.env).map fun p=>some p.2)(hk:∀x,s.pc=.c x->D P (cdN P f) R.kb R.kf x (Qs P f R s.k) (cut e s.env) s.h):Ok P f R s:=by
 refine e0k [] ?_ he ?_
 ·obtain⟨pc,k,env,h⟩:=s;cases pc<;>first|rfl|cases hc
 ·obtain⟨pc,k,env,h⟩:=s;cases pc<;>first|exact hk _ rfl|cases hc
theorem KFz(m n:Nat)(mk:List Bool)(k:Nat)(e:Env)(bs:List (Option (List AV)))(hl:a77 mk k e=true/\a5d mk k bs=true)(hk:Ok P f R ⟨(run m s).pc,(run m s).k,e,⟨bs,(run m s).h.bufs.take k,(run m s).h.globs⟩⟩)(hc:g8d (run m s)=true:=by kernel_rfl)(he:(cut e (run m s).env).map (f4c [] (run m s).env)=(cut e (run m s).env).map (fun p=>some p.2):=by kernel_rfl)(hb:(run m s).h.blks[n]? =some (some (c5r (run m s) n)):=by kernel_rfl)(h1:(a8s (c5r (run m s) n)&& !mk.getD n false&&c48 mk (run m s).h.blks&&(List.range R.kb).all (fun k=>mk.getD k false)&&Nat.ble R.kf k&&X3 (run m s).h.globs)=true:=by kernel_rfl)(hE:fzE n (c5r (run m s) n) (cut e (run m s).env)=e:=by kernel_rfl)(hbs:Z7 mk (run m s).h.blks=bs:=by kernel_rfl):Ok P f R s:=by
 simp only[Bool.and_eq_true,List.all_eq_true,List.mem_range,Bool.not_eq_true']at h1;obtain⟨⟨⟨⟨⟨a1,a2⟩,a3⟩,a4⟩,a5⟩,a6⟩:=h1;refine N8 m (e7a hc he fun x hx=>?_);rw[hx]at hk;subst hbs;exact f5a n mk k _ hb a1 a2 a3 a4 (Nat.le_of_ble_eq_true a5) hE hl.1 hl.2 a6 hk
theorem KDf(m:Nat)(E:En α)(n:Nat)(mk:List Bool)(k c:Nat)(e:Env)(bs:List (Option (List AV)))(hl:a77 mk k e=true/\a5d mk k bs=true){l:List α}{len:Nat}(hw:l.length=len/\p)(hk:p->Ok P f R ⟨(run m s).pc,(run m s).k,e,⟨bs,(run m s).h.bufs.take k,(run m s).h.globs⟩⟩)(hc:g8d (run m s)=true:=by kernel_rfl)(he:(cut e (run m s).env).map (f4c [] (run m s).env)=(cut e (run m s).env).map (fun p=>some p.2):=by kernel_rfl)(hb:(run m s).h.blks[n]? =some (some (cellsOf E.f l)):=by kernel_rfl)(h1:(Nat.ble 1 E.sz&& !mk.getD n false&&c48 mk (run m s).h.blks&&(List.range R.kb).all (fun k=>mk.getD k false)&&Nat.ble R.kf k&&X3 (run m s).h.globs)=true:=by kernel_rfl)(hr:b8t n (cut e (run m s).env)=List.replicate c (0,E.sz,len):=by kernel_rfl)(hE:f62 n (List.map E.f l) (cut e (run m s).env)=e:=by kernel_rfl)(hbs:Z7 mk (run m s).h.blks=bs:=by kernel_rfl):Ok P f R s:=by
 simp only[Bool.and_eq_true,List.all_eq_true,List.mem_range,Bool.not_eq_true']at h1;obtain⟨⟨⟨⟨⟨a1,a2⟩,a3⟩,a4⟩,a5⟩,a6⟩:=h1;refine N8 m (e7a hc he fun x hx=>?_);have hk:=hk hw.2;rw[hx]at hk;exact drf n mk k c l len e bs E.ro.hs E.ro.hn hw.1 hl hk hb a1 hr a2 a3 a4 a5 hE hbs a6
theorem KDg(m:Nat)(E:En α)(n:Nat)(mk:List Bool)(k c c':Nat)(e:Env)(bs:List (Option (List AV)))(hl:a77 mk k e=true/\a5d mk k bs=true){l:List α}{len:Nat}(hw:l.length=len/\p)(hk:p->Ok P f R ⟨(run m s).pc,(run m s).k,e,⟨bs,(run m s).h.bufs.take k,(run m s).h.globs⟩⟩)(hc:g8d (run m s)=true:=by kernel_rfl)(he:(cut e (run m s).env).map (f4c [] (run m s).env)=(cut e (run m s).env).map (fun p=>some p.2):=by kernel_rfl)(hb:(run m s).h.blks[n]? =some (some (cellsOf E.f l)):=by kernel_rfl)(h1:(!mk.getD n false&&c48 mk (run m s).h.blks&&(List.range R.kb).all (fun k=>mk.getD k false)&&Nat.ble R.kf k&&X3 (run m s).h.globs)=true:=by kernel_rfl)(hr:b8t n (cut e (run m s).env)=List.replicate c (0,E.sz,len):=by kernel_rfl)(hr2:f01 n (Z7 mk (run m s).h.blks)=List.replicate c' (0,E.sz,len):=by kernel_rfl)(hE:f62 n (List.map E.f l) (cut e (run m s).env)=e:=by kernel_rfl)(hbs:f99 n (List.map E.f l) (Z7 mk (run m s).h.blks)=bs:=by kernel_rfl):Ok P f R s:=by
 simp only[Bool.and_eq_true,List.all_eq_true,List.mem_range,Bool.not_eq_true']at h1;obtain⟨⟨⟨⟨a2,a3⟩,a4⟩,a5⟩,a6⟩:=h1;refine N8 m (e7a hc he fun x hx=>?_);have hk:=hk hw.2;rw[hx]at hk;exact h6n n mk k c c' l len e bs E.ro.hs E.ro.hn hw.1 hl hk hb hr hr2 a2 a3 a4 a5 hE hbs a6
end
def f71(sz b:Nat):W3:=.seq (.region [o 2 (.mv (.c .nil))]) (.seq (.seq (.region [o 3 (mv 0),o 4 (.eq .slice true (T 3) (.c .nil))]) (.cond (T 4) (.seq (.region [o 2 (.mv (.c .nil))]) .ret) .skip)) (.seq (.region [o 5 (.sliceLit sz 0 [] []),o 6 (mv 0),o 7 (.append sz b (T 5) (T 6)),o 2 (mv 7)]) .ret))
theorem e9s{P:Program}{sz:Nat}{env:Env}{h:A4}:a2g P (.sliceLit sz 0 [] []) env h (.sl [] .full) h:=f7h (by simp[e5u,evp,d2v,c7z])
theorem d6b{P:Program}{g b:Nat}{α:Type}(E:En α){s:List α}(hw:s≠[]/\s.length*b<=140737488355328)(hf:b37 P g=some (8,f71 E.sz b,[.tmp 2]):=by kernel_rfl):f6g P E.f E.sz g s:=by
 refine h2v hf rfl rfl (ds (va 1 [] (ve (e2g (ds (va 1 [(3,.sl (List.map E.f s) .no)] (vn rfl s E.f (fun bj1 hb0=>?_))))))));refine ve (dkf (hb0 hw.1) ?_);refine f2h (ds (vo rfl e9s rfl (va 1 [(6,.sl (List.map E.f s) .no)] ?_)));exact vo rfl (g5z E.f s hw.1 hw.2 E.ro.hs (by kernel_rfl)) rfl (va 1 [(2,.row 0 0 E.sz s.length s.length)] (ve (f3f (h6p rfl))))
theorem e6t{P:Program}{g b:Nat}{α:Type}(E:En α){s:List α}(hw:s.length*b<=140737488355328)(hf:b37 P g=some (8,f71 E.sz b,[.tmp 2]):=by kernel_rfl):g29 P E.f E.sz g s:=by
 refine g7t hf rfl rfl (ds (va 1 [] (ve (e2g (ds (va 1 [(3,.sl (List.map E.f s) .no)] (vn rfl s E.f (fun bj1 hb0=>?_))))))));refine ve (dw (B:=bj1) (p:=s=[]) (q:=True) ⟨fun h=>Classical.byContradiction fun hn=>(by rw[hb0 hn]at h;cases h),fun _=>trivial⟩ (fun _ h0=>?_) (fun _ _=>?_))
 ·subst h0;exact ds (va 1 [(2,.nil)] (ve (h2b (t:=2) E.sz (by kernel_rfl) (f3f (g7l rfl)))))
 refine f2h (ds (vo rfl e9s rfl (va 1 [(6,.sl (List.map E.f s) .no)] ?_)));exact vo rfl (f68 E.f ([]:List α) s (by simpa using hw) E.ro.hs (by kernel_rfl) (by kernel_rfl)) rfl (va 1 [(2,.sl (List.map E.f (([]:List α)++s)) (.own 0))] (ve (f3f (g7l (l2:=([]:List α)++s) rfl))))
section
open Go.RowKit Go.ChangeShapes Go.WideShapes Go.ChangeAt
theorem c9a{α:Type}{P:Nat->α->Prop}:∀n:Nat,(∀i,i<n->∃x,P i x)->∃xs:List α,xs.length=n/\∀(i:Nat) x,xs[i]? =some x->P i x
 |0,_=>⟨[],rfl,fun i x h=>by simp at h⟩
 |n+1,h=>by
  obtain⟨xs,hl,hx⟩:=c9a n (fun i hi=>h i (by omega));obtain⟨y,hy⟩:=h n (by omega);refine⟨xs++[y],by simp[hl],fun i x hi=>?_⟩
  by_cases hin:i<n
  ·rw[List.getElem?_append_left (by omega)]at hi;exact hx i x hi
  ·rw[List.getElem?_append_right (by omega)]at hi
   by_cases e:i=n
   ·subst e;rw[hl]at hi;simp at hi;subst hi;exact hy
   ·rw[List.getElem?_eq_none (by simp;omega)]at hi;cases hi
def Ty(P:Program):Nat->TypeId->List AV->Prop
 |0,_,_=>False
 |n+1,t,avs=>match P.underlying t with
  |some (.int k)=>∃m,avs=[.v (.int k m)]/\(Lit.int k m).wf=true
  |some .bool=>∃b,avs=[.v (.bool b)]
  |some .string=>∃s,avs=[.v (.string s)]/\s.size<=140737488351232
  |some (.slice e)=>∃els:List (List AV),avs=[.sl els .no]/\els.length*P.bytesOf e<=140737488351232/\∀el∈els,Ty P n e el
  |some (.struct fs)=>∃parts:List (List AV),avs=parts.flatten/\parts.length=fs.size/\∀(i:Nat) (f:Field),fs[i]? =some f->∃p,parts[i]? =some p/\Ty P n f.type p
  |some (.array k e)=>∃parts:List (List AV),avs=parts.flatten/\parts.length=k/\∀p∈parts,Ty P n e p
  |_=>False
def d7a(P:Program):Nat->List Field->Nat->Bool
 |off,[],tot=>off==tot
 |off,f::fs,tot=>f.offset==off&&d7a P (off+P.cellsOf f.type) fs tot
def okT(P:Program)(ts:List TypeId)(t:TypeId):Bool:=
 match P.underlying t with
 |some (.int _)|some .bool|some .string=>true
 |some (.slice e)=>ts.contains e&&decide (0<P.cellsOf e)&&decide (1<=P.bytesOf e)
 |some (.struct fs)=>fs.toList.all (fun f=>ts.contains f.type)&&d7a P 0 fs.toList (P.cellsOf t)
 |some (.array k e)=>ts.contains e&&decide (k*P.cellsOf e=P.cellsOf t)
 |_=>false
def d9h(P:Program)(ts:List TypeId):Bool:=ts.all (okT P ts)
def b7b:Nat->Nat->Prop:=fun _ _=>False
section
variable {H:Type}{enc:TypeId × Value->H}{P:Program}{W:World}{base:Nat}{spare:Nat->Bool}{held:Bool}
def a0w(P:Program)(t:TypeId)(d:DataW H):Prop:=∀x∈DataW.weights P t d,x<=140737488351232
theorem b70:∀(ts:List TypeId) (ds:List (DataW H)) (i:Nat) (t:TypeId) (d:DataW H),ts[i]? =some t->ds[i]? =some d->∀x∈DataW.weights P t d,x∈DataW.weightsEach P ts ds
 |[],_,i,_,_,h,_,_,_=>by simp at h
 |_::_,[],i,_,_,_,h,_,_=>by simp at h
 |t'::ts,d'::ds,0,t,d,h1,h2,x,hx=>by
  simp at h1 h2;subst h1;subst h2;simp only[DataW.weightsEach,List.mem_append];exact .inl hx
 |t'::ts,d'::ds,i+1,t,d,h1,h2,x,hx=>by
  simp only[DataW.weightsEach,List.mem_append];exact .inr (b70 ts ds i t d (by simpa using h1) (by simpa using h2) x hx)
theorem b3z(e:TypeId):∀(ds:List (DataW H)) (i:Nat) (d:DataW H),ds[i]? =some d->∀x∈DataW.weights P e d,x∈DataW.weightsAll P e ds
 |[],i,_,h,_,_=>by simp at h
 |d'::ds,0,d,h2,x,hx=>by
  simp at h2;subst h2;simp only[DataW.weightsAll,List.mem_append];exact .inl hx
 |d'::ds,i+1,d,h2,x,hx=>by
  simp only[DataW.weightsAll,List.mem_append];exact .inr (b3z e ds i d (by simpa using h2) x hx)
theorem a0w.part{t:TypeId}{fs:Array Field}{ps:List (DataW H)}(ht:P.underlying t=some (.struct fs))(h:a0w P t (.agg ps)){i:Nat}{f:Field}{d:DataW H}(hf:fs[i]? =some f)(hd:ps[i]? =some d):a0w P f.type d:=by
 intro x hx;refine h x ?_;simp only[DataW.weights,ht];exact b70 _ _ i f.type d (by simp[hf]) hd x hx
theorem a0w.elem{t e:TypeId}{es sp:List (DataW H)}(ht:P.underlying t=some (.slice e))(h:a0w P t (.slice es sp)){i:Nat}{d:DataW H}(hd:es[i]? =some d):a0w P e d:=by
 intro x hx;refine h x ?_;simp only[DataW.weights,ht,List.mem_cons,List.mem_append];exact .inr (.inl (b3z e es i d hd x hx))
theorem a0w.short{t e:TypeId}{es sp:List (DataW H)}(ht:P.underlying t=some (.slice e))(h:a0w P t (.slice es sp)):es.length*P.bytesOf e<=140737488351232:=by
 have:=h ((es.length+sp.length)*P.bytesOf e) (by simp only[DataW.weights,ht,List.mem_cons,true_or]);rw[Nat.add_mul]at this;omega
theorem a0w.at_{t e:TypeId}{k:Nat}{ps:List (DataW H)}(ht:P.underlying t=some (.array k e))(h:a0w P t (.agg ps)){i:Nat}{d:DataW H}(hd:ps[i]? =some d):a0w P e d:=by
 intro x hx;refine h x ?_;simp only[DataW.weights,ht];exact b3z e ps i d hd x hx
theorem c63(σ:Sg):∀(fs:List Field) (off tot:Nat) (cs:List Value) (parts:List (List AV)),d7a P off fs tot=true->cs.length=tot->parts.length=fs.length->
  (∀(i:Nat) (f:Field) (p:List AV),fs[i]? =some f->parts[i]? =some p->F3 σ p ((cs.drop f.offset).take (P.cellsOf f.type)))->F3 σ parts.flatten (cs.drop off)
 |[],off,tot,cs,parts,hc,hl,hp,_=>by
  simp only[d7a,beq_iff_eq]at hc;have:parts=[]:=List.eq_nil_of_length_eq_zero (by simpa using hp);subst this;rw[List.drop_of_length_le (by omega)];exact F3.nil σ
 |f::fs,off,tot,cs,[],hc,hl,hp,_=>by simp at hp
 |f::fs,off,tot,cs,p::parts,hc,hl,hp,h=>by
  simp only[d7a,Bool.and_eq_true,beq_iff_eq]at hc;obtain⟨h1,h2⟩:=hc;have h3:=h 0 f p rfl rfl;have h4:=c63 σ fs (off+P.cellsOf f.type) tot cs parts h2 hl (by simpa using hp) (fun i g q hg hq=>h (i+1) g q (by simpa using hg) (by simpa using hq));have:=h3.append h4;rw[h1,<-List.drop_drop,List.take_append_drop]at this;simpa using this
theorem d3w(σ:Sg)(k:Nat):∀(parts:List (List AV)) (cs:List Value),cs.length=parts.length*k->
  (∀(i:Nat) (p:List AV),parts[i]? =some p->F3 σ p ((cs.drop (i*k)).take k))->F3 σ parts.flatten cs
 |[],cs,hl,_=>by
  have:cs=[]:=List.eq_nil_of_length_eq_zero (by simpa using hl);subst this;exact F3.nil σ
 |p::parts,cs,hl,h=>by
  have h3:=h 0 p rfl;rw[List.length_cons,Nat.add_mul]at hl
  have h4:=d3w σ k parts (cs.drop k) (by simp;omega) (fun i q hq=>by
   have:=h (i+1) q (by simpa using hq);rw[List.drop_drop,show k+i*k=(i+1)*k by rw[Nat.add_mul];omega];exact this)
  have:=h3.append h4;simp only[Nat.zero_mul,List.drop_zero,List.take_append_drop]at this;simpa using this
theorem b1y{a b:List AV}:plainL (a++b)=(plainL a&&plainL b):=by
 induction a with
 |nil=>simp[plainL]
 |cons x a ih=>simp[plainL,ih,Bool.and_assoc]
theorem b5g:∀{l:List (List AV)},(∀p∈l,plainL p=true)->plainL l.flatten=true
 |[],_=>rfl
 |p::l,h=>by rw[List.flatten_cons,b1y,h p (by simp),b5g (fun q hq=>h q (by simp[hq]))];rfl
theorem d3n:∀{l:List (List AV)},(∀p∈l,plainL p=true)->plainLL l=true
 |[],_=>rfl
 |p::l,h=>by simp only[plainLL,Bool.and_eq_true];exact⟨h p (by simp),d3n fun q hq=>h q (by simp[hq])⟩
end
end
def eL{α:Type}(e:α->List AV)(x:List α):List AV:=[.sl (List.map e x) .no]
def d65(x:Int):List AV:=[.v (.int .i8 x)]
theorem K8(l:List Int):plainLL (l.map d65)=true:=D4 _ _ fun x _=>rfl
def c64(x:Int):List AV:=[.v (.int .i16 x)]
theorem G7(l:List Int):plainLL (l.map c64)=true:=D4 _ _ fun x _=>rfl
def c7e(x:Int):List AV:=[.v (.int .i32 x)]
theorem G5(l:List Int):plainLL (l.map c7e)=true:=D4 _ _ fun x _=>rfl
def a8r(x:Int):List AV:=[.v (.int .i64 x)]
theorem F9(l:List Int):plainLL (l.map a8r)=true:=D4 _ _ fun x _=>rfl
def b01(x:Int):List AV:=[.v (.int .u8 x)]
theorem J4(l:List Int):plainLL (l.map b01)=true:=D4 _ _ fun x _=>rfl
def c66(x:Int):List AV:=[.v (.int .u16 x)]
theorem G6(l:List Int):plainLL (l.map c66)=true:=D4 _ _ fun x _=>rfl
def c7l(x:Int):List AV:=[.v (.int .u32 x)]
theorem G8(l:List Int):plainLL (l.map c7l)=true:=D4 _ _ fun x _=>rfl
def b73(x:Int):List AV:=[.v (.int .u64 x)]
theorem G4(l:List Int):plainLL (l.map b73)=true:=D4 _ _ fun x _=>rfl
def c2m(x:Bool):List AV:=[.v (.bool x)]
theorem K7(l:List Bool):plainLL (l.map c2m)=true:=D4 _ _ fun x _=>rfl
def e5t(x:ByteArray):List AV:=[.v (.string x)]
theorem T3(l:List ByteArray):plainLL (l.map e5t)=true:=D4 _ _ fun x _=>rfl
structure GOp where
 Num:Int
 Name:ByteArray
 Alias:ByteArray
 Card:Int
 Key:Int
 Kind:Int
 Target:Int
 Union:Int
def V6(x:GOp):List AV:=[.v (.int .i64 x.Num),.v (.string x.Name),.v (.string x.Alias),.v (.int .i64 x.Card),.v (.int .i64 x.Key),.v (.int .i64 x.Kind),.v (.int .i64 x.Target),.v (.int .i64 x.Union)]
theorem N0(x:GOp):plainL (V6 x)=true:=by simp[V6,plainL,plain,K8,G7,G5,F9,J4,G6,G8,G4,K7,T3,a0s,T1,a08]
theorem T2(l:List GOp):plainLL (l.map V6)=true:=D4 _ _ fun x _=>N0 x
structure B9 where
 Name:ByteArray
 Ops:(List GOp)
 Unions:Int
def E3(x:B9):List AV:=[.v (.string x.Name),.sl (List.map V6 x.Ops) .no,.v (.int .i64 x.Unions)]
theorem G3(x:B9):plainL (E3 x)=true:=by simp[E3,plainL,plain,K8,G7,G5,F9,J4,G6,G8,G4,K7,T3,a0s,T1,a08,N0,T2]
theorem H8(l:List B9):plainLL (l.map E3)=true:=D4 _ _ fun x _=>G3 x
structure H9 where
 Num:Int
 Wire:Int
 Bits:Int
 Data:ByteArray
def J0(x:H9):List AV:=[.v (.int .i64 x.Num),.v (.int .i64 x.Wire),.v (.int .u64 x.Bits),.v (.string x.Data)]
theorem Q6(x:H9):plainL (J0 x)=true:=by simp[J0,plainL,plain,K8,G7,G5,F9,J4,G6,G8,G4,K7,T3,a0s,T1,a08,N0,T2,G3,H8]
theorem H0(l:List H9):plainLL (l.map J0)=true:=D4 _ _ fun x _=>Q6 x
structure A0 where
 Kind:Int
 Bits:Int
 Text:ByteArray
 List_:(List A0)
 Pairs:(List (A0 × A0))
 Slots:(List (Int × A0))
 Raws:(List H9)
mutual
def C0:A0->List AV
 |⟨f0,f1,f2,f3,f4,f5,f6⟩=>[.v (.int .i64 f0),.v (.int .u64 f1),.v (.string f2),.sl (eGValue'L f3) .no,.sl (eGPair'L f4) .no,.sl (eGSlot'L f5) .no,.sl (List.map J0 f6) .no]
def eGValue'L:List A0->List (List AV)
 |[]=>[]
 |x::l=>(C0 x)::eGValue'L l
def eGPair'L:List (A0 × A0)->List (List AV)
 |[]=>[]
 |(z0,z1)::l=>(C0 z0++C0 z1)::eGPair'L l
def eGSlot'L:List (Int × A0)->List (List AV)
 |[]=>[]
 |(z0,z1)::l=>([.v (.int .i64 z0)]++C0 z1)::eGSlot'L l
end
def A8(x:(A0 × A0)):List AV:=C0 x.1++C0 x.2
def B4(x:(Int × A0)):List AV:=[.v (.int .i64 x.1)]++C0 x.2
theorem b7s:∀l,eGValue'L l=List.map C0 l
 |[]=>rfl
 |x::l=>by simp only[eGValue'L,List.map_cons,b7s l]
theorem b9v:∀l,eGPair'L l=List.map A8 l
 |[]=>rfl
 |x::l=>by simp only[eGPair'L,List.map_cons,b9v l,A8]
theorem b9u:∀l,eGSlot'L l=List.map B4 l
 |[]=>rfl
 |x::l=>by simp only[eGSlot'L,List.map_cons,b9u l,B4]
def A5(x:A0):List AV:=[.v (.int .i64 x.Kind),.v (.int .u64 x.Bits),.v (.string x.Text),.sl (List.map C0 x.List_) .no,.sl (List.map A8 x.Pairs) .no,.sl (List.map B4 x.Slots) .no,.sl (List.map J0 x.Raws) .no]
def V3(x:(A0 × A0)):List AV:=[.v (.int .i64 x.1.Kind),.v (.int .u64 x.1.Bits),.v (.string x.1.Text),.sl (List.map C0 x.1.List_) .no,.sl (List.map A8 x.1.Pairs) .no,.sl (List.map B4 x.1.Slots) .no,.sl (List.map J0 x.1.Raws) .no,.v (.int .i64 x.2.Kind),.v (.int .u64 x.2.Bits),.v (.string x.2.Text),.sl (List.map C0 x.2.List_) .no,.sl (List.map A8 x.2.Pairs) .no,.sl (List.map B4 x.2.Slots) .no,.sl (List.map J0 x.2.Raws) .no]
def X4(x:(Int × A0)):List AV:=[.v (.int .i64 x.1),.v (.int .i64 x.2.Kind),.v (.int .u64 x.2.Bits),.v (.string x.2.Text),.sl (List.map C0 x.2.List_) .no,.sl (List.map A8 x.2.Pairs) .no,.sl (List.map B4 x.2.Slots) .no,.sl (List.map J0 x.2.Raws) .no]
theorem V1(x:A0):C0 x=A5 x:=by cases x;simp only[C0,A5,b7s,b9v,b9u]
theorem b2c(x:(A0 × A0)):A8 x=V3 x:=by simp only[A8,V3,V1,A5,List.cons_append,List.nil_append]
theorem b2e(x:(Int × A0)):B4 x=X4 x:=by simp only[B4,X4,V1,A5,List.cons_append,List.nil_append]
mutual
theorem c0a:∀x,plainL (C0 x)=true
 |⟨f0,f1,f2,f3,f4,f5,f6⟩=>by simp[C0,plainL,plain,pl_eGValue'L f3,pl_eGPair'L f4,pl_eGSlot'L f5,K8,G7,G5,F9,J4,G6,G8,G4,K7,T3,a0s,T1,a08,N0,T2,G3,H8,Q6,H0]
theorem pl_eGValue'L:∀l,plainLL (eGValue'L l)=true
 |[]=>rfl
 |x::l=>by simp[eGValue'L,plainLL,plainL,plain,b1y,c0a x,pl_eGValue'L l]
theorem pl_eGPair'L:∀l,plainLL (eGPair'L l)=true
 |[]=>rfl
 |(z0,z1)::l=>by simp[eGPair'L,plainLL,plainL,plain,b1y,c0a z0,c0a z1,pl_eGPair'L l]
theorem pl_eGSlot'L:∀l,plainLL (eGSlot'L l)=true
 |[]=>rfl
 |(z0,z1)::l=>by simp[eGSlot'L,plainLL,plainL,plain,b1y,c0a z1,pl_eGSlot'L l]
end
theorem E8(l:List A0):plainLL (l.map C0)=true:=by rw[<-b7s];exact pl_eGValue'L l
theorem A9(x:A0):plainL (A5 x)=true:=by have:=E8 [x];simpa[plainLL,V1]using this
theorem D7(l:List (A0 × A0)):plainLL (l.map A8)=true:=by rw[<-b9v];exact pl_eGPair'L l
theorem N4(x:(A0 × A0)):plainL (V3 x)=true:=by have:=D7 [x];simpa[plainLL,b2c]using this
theorem E4(l:List (Int × A0)):plainLL (l.map B4)=true:=by rw[<-b9u];exact pl_eGSlot'L l
theorem O4(x:(Int × A0)):plainL (X4 x)=true:=by have:=E4 [x];simpa[plainLL,b2e]using this
structure b4b where
 Name:ByteArray
 Val:A0
def a8k(x:b4b):List AV:=[.v (.string x.Name),.v (.int .i64 x.Val.Kind),.v (.int .u64 x.Val.Bits),.v (.string x.Val.Text),.sl (List.map C0 x.Val.List_) .no,.sl (List.map A8 x.Val.Pairs) .no,.sl (List.map B4 x.Val.Slots) .no,.sl (List.map J0 x.Val.Raws) .no]
theorem P4(x:b4b):plainL (a8k x)=true:=by simp[a8k,plainL,plain,K8,G7,G5,F9,J4,G6,G8,G4,K7,T3,a0s,T1,a08,N0,T2,G3,H8,Q6,H0,A9,E8,N4,D7,O4,E4]
theorem K0(l:List b4b):plainLL (l.map a8k)=true:=D4 _ _ fun x _=>P4 x
structure b5j where
 Name:ByteArray
 Num:Int
 Notes:(List b4b)
def a3j(x:b5j):List AV:=[.v (.string x.Name),.v (.int .i64 x.Num),.sl (List.map a8k x.Notes) .no]
theorem R0(x:b5j):plainL (a3j x)=true:=by simp[a3j,plainL,plain,K8,G7,G5,F9,J4,G6,G8,G4,K7,T3,a0s,T1,a08,N0,T2,G3,H8,Q6,H0,A9,E8,N4,D7,O4,E4,P4,K0]
theorem J6(l:List b5j):plainLL (l.map a3j)=true:=D4 _ _ fun x _=>R0 x
structure c0v where
 From:Int
 To:Int
def b2u(x:c0v):List AV:=[.v (.int .i64 x.From),.v (.int .i64 x.To)]
theorem T5(x:c0v):plainL (b2u x)=true:=by simp[b2u,plainL,plain,K8,G7,G5,F9,J4,G6,G8,G4,K7,T3,a0s,T1,a08,N0,T2,G3,H8,Q6,H0,A9,E8,N4,D7,O4,E4,P4,K0,R0,J6]
theorem N1(l:List c0v):plainLL (l.map b2u)=true:=D4 _ _ fun x _=>T5 x
structure W4 where
 Name:ByteArray
 Open:Bool
 Items:(List b5j)
 Reserved:(List c0v)
 Notes:(List b4b)
def S0(x:W4):List AV:=[.v (.string x.Name),.v (.bool x.Open),.sl (List.map a3j x.Items) .no,.sl (List.map b2u x.Reserved) .no,.sl (List.map a8k x.Notes) .no]
theorem V7(x:W4):plainL (S0 x)=true:=by simp[S0,plainL,plain,K8,G7,G5,F9,J4,G6,G8,G4,K7,T3,a0s,T1,a08,N0,T2,G3,H8,Q6,H0,A9,E8,N4,D7,O4,E4,P4,K0,R0,J6,T5,N1]
theorem Q0(l:List W4):plainLL (l.map S0)=true:=D4 _ _ fun x _=>V7 x
structure A6 where
 Progs:(List B9)
 Enums:(List W4)
def B6(x:A6):List AV:=[.sl (List.map E3 x.Progs) .no,.sl (List.map S0 x.Enums) .no]
theorem E7(x:A6):plainL (B6 x)=true:=by simp[B6,plainL,plain,K8,G7,G5,F9,J4,G6,G8,G4,K7,T3,a0s,T1,a08,N0,T2,G3,H8,Q6,H0,A9,E8,N4,D7,O4,E4,P4,K0,R0,J6,T5,N1,V7,Q0]
theorem S8(l:List A6):plainLL (l.map B6)=true:=D4 _ _ fun x _=>E7 x
structure c0m where
 a0:Int
 a1:Int
def b6g(x:c0m):List AV:=[.v (.int .i64 x.a0),.v (.int .i64 x.a1)]
theorem J3(x:c0m):plainL (b6g x)=true:=by simp[b6g,plainL,plain,K8,G7,G5,F9,J4,G6,G8,G4,K7,T3,a0s,T1,a08,N0,T2,G3,H8,Q6,H0,A9,E8,N4,D7,O4,E4,P4,K0,R0,J6,T5,N1,V7,Q0,E7,S8]
theorem G9(l:List c0m):plainLL (l.map b6g)=true:=D4 _ _ fun x _=>J3 x
structure A3 where
 Data:ByteArray
 At:Int
 End:Int
 Depth:Int
 Nodes:Int
 Text:Int
def D3(x:A3):List AV:=[.v (.string x.Data),.v (.int .i64 x.At),.v (.int .i64 x.End),.v (.int .i64 x.Depth),.v (.int .i64 x.Nodes),.v (.int .i64 x.Text)]
theorem C3(x:A3):plainL (D3 x)=true:=by simp[D3,plainL,plain,K8,G7,G5,F9,J4,G6,G8,G4,K7,T3,a0s,T1,a08,N0,T2,G3,H8,Q6,H0,A9,E8,N4,D7,O4,E4,P4,K0,R0,J6,T5,N1,V7,Q0,E7,S8,J3,G9]
theorem L4(l:List A3):plainLL (l.map D3)=true:=D4 _ _ fun x _=>C3 x
structure U7 where
 Bytes:Int
 Depth:Int
 Nodes:Int
 Text:Int
def a3x(x:U7):List AV:=[.v (.int .i64 x.Bytes),.v (.int .i64 x.Depth),.v (.int .i64 x.Nodes),.v (.int .i64 x.Text)]
theorem K3(x:U7):plainL (a3x x)=true:=by simp[a3x,plainL,plain,K8,G7,G5,F9,J4,G6,G8,G4,K7,T3,a0s,T1,a08,N0,T2,G3,H8,Q6,H0,A9,E8,N4,D7,O4,E4,P4,K0,R0,J6,T5,N1,V7,Q0,E7,S8,J3,G9,C3,L4]
theorem N2(l:List U7):plainLL (l.map a3x)=true:=D4 _ _ fun x _=>K3 x
structure a82 where
 a0:Int
 a1:Int
def a6s(x:a82):List AV:=[.v (.int .u16 x.a0),.v (.int .u16 x.a1)]
theorem G2(x:a82):plainL (a6s x)=true:=by simp[a6s,plainL,plain,K8,G7,G5,F9,J4,G6,G8,G4,K7,T3,a0s,T1,a08,N0,T2,G3,H8,Q6,H0,A9,E8,N4,D7,O4,E4,P4,K0,R0,J6,T5,N1,V7,Q0,E7,S8,J3,G9,C3,L4,K3,N2]
theorem F4(l:List a82):plainLL (l.map a6s)=true:=D4 _ _ fun x _=>G2 x
structure E0 where
 p:A6
 out:(List Int)
def c0e(x:E0):List AV:=[.sl (List.map E3 x.p.Progs) .no,.sl (List.map S0 x.p.Enums) .no,.sl (List.map b01 x.out) .no]
theorem W8(x:E0):plainL (c0e x)=true:=by simp[c0e,plainL,plain,K8,G7,G5,F9,J4,G6,G8,G4,K7,T3,a0s,T1,a08,N0,T2,G3,H8,Q6,H0,A9,E8,N4,D7,O4,E4,P4,K0,R0,J6,T5,N1,V7,Q0,E7,S8,J3,G9,C3,L4,K3,N2,G2,F4]
theorem S7(l:List E0):plainLL (l.map c0e)=true:=D4 _ _ fun x _=>W8 x
structure B0 where
 p:A6
 c:A3
def b91(x:B0):List AV:=[.sl (List.map E3 x.p.Progs) .no,.sl (List.map S0 x.p.Enums) .no,.v (.string x.c.Data),.v (.int .i64 x.c.At),.v (.int .i64 x.c.End),.v (.int .i64 x.c.Depth),.v (.int .i64 x.c.Nodes),.v (.int .i64 x.c.Text)]
theorem Y1(x:B0):plainL (b91 x)=true:=by simp[b91,plainL,plain,K8,G7,G5,F9,J4,G6,G8,G4,K7,T3,a0s,T1,a08,N0,T2,G3,H8,Q6,H0,A9,E8,N4,D7,O4,E4,P4,K0,R0,J6,T5,N1,V7,Q0,E7,S8,J3,G9,C3,L4,K3,N2,G2,F4,W8,S7]
theorem U6(l:List B0):plainLL (l.map b91)=true:=D4 _ _ fun x _=>Y1 x
structure C7 where
 p:A6
def K6(x:C7):List AV:=[.sl (List.map E3 x.p.Progs) .no,.sl (List.map S0 x.p.Enums) .no]
theorem G1(x:C7):plainL (K6 x)=true:=by simp[K6,plainL,plain,K8,G7,G5,F9,J4,G6,G8,G4,K7,T3,a0s,T1,a08,N0,T2,G3,H8,Q6,H0,A9,E8,N4,D7,O4,E4,P4,K0,R0,J6,T5,N1,V7,Q0,E7,S8,J3,G9,C3,L4,K3,N2,G2,F4,W8,S7,Y1,U6]
theorem P3(l:List C7):plainLL (l.map K6)=true:=D4 _ _ fun x _=>G1 x
structure b5f where
 is:GFn
def b4v(x:b5f):List AV:=[.clo (.func x.is.fn) x.is.fi x.is.cap]
theorem a0c(x:b5f):plainL (b4v x)=true:=by simp[b4v,plainL,plain,K8,G7,G5,F9,J4,G6,G8,G4,K7,T3,a0s,T1,a08,N0,T2,G3,H8,Q6,H0,A9,E8,N4,D7,O4,E4,P4,K0,R0,J6,T5,N1,V7,Q0,E7,S8,J3,G9,C3,L4,K3,N2,G2,F4,W8,S7,Y1,U6,G1,P3]
theorem Z0(l:List b5f):plainLL (l.map b4v)=true:=D4 _ _ fun x _=>a0c x
structure c1e where
 slots:(List (Int × A0))
 raws:(List H9)
def b7i(x:c1e):List AV:=[.sl (List.map B4 x.slots) .no,.sl (List.map J0 x.raws) .no]
theorem a4p(x:c1e):plainL (b7i x)=true:=by simp[b7i,plainL,plain,K8,G7,G5,F9,J4,G6,G8,G4,K7,T3,a0s,T1,a08,N0,T2,G3,H8,Q6,H0,A9,E8,N4,D7,O4,E4,P4,K0,R0,J6,T5,N1,V7,Q0,E7,S8,J3,G9,C3,L4,K3,N2,G2,F4,W8,S7,Y1,U6,G1,P3,a0c,Z0]
theorem a2c(l:List c1e):plainLL (l.map b7i)=true:=D4 _ _ fun x _=>a4p x
theorem c15(m:List Bool)(n:Nat)(x:GOp):lowL m n (V6 x)=true:=lowL_plain _ _ _ (N0 x)
theorem b22(m:List Bool)(n:Nat)(x:B9):lowL m n (E3 x)=true:=lowL_plain _ _ _ (G3 x)
theorem b7d(m:List Bool)(n:Nat)(x:H9):lowL m n (J0 x)=true:=lowL_plain _ _ _ (Q6 x)
theorem a85(m:List Bool)(n:Nat)(x:A0):lowL m n (A5 x)=true:=lowL_plain _ _ _ (A9 x)
theorem b27(m:List Bool)(n:Nat)(x:(A0 × A0)):lowL m n (V3 x)=true:=lowL_plain _ _ _ (N4 x)
theorem b3w(m:List Bool)(n:Nat)(x:(Int × A0)):lowL m n (X4 x)=true:=lowL_plain _ _ _ (O4 x)
theorem b3v(m:List Bool)(n:Nat)(x:b4b):lowL m n (a8k x)=true:=lowL_plain _ _ _ (P4 x)
theorem b3n(m:List Bool)(n:Nat)(x:b5j):lowL m n (a3j x)=true:=lowL_plain _ _ _ (R0 x)
theorem b2w(m:List Bool)(n:Nat)(x:c0v):lowL m n (b2u x)=true:=lowL_plain _ _ _ (T5 x)
theorem b3t(m:List Bool)(n:Nat)(x:W4):lowL m n (S0 x)=true:=lowL_plain _ _ _ (V7 x)
theorem b2l(m:List Bool)(n:Nat)(x:A6):lowL m n (B6 x)=true:=lowL_plain _ _ _ (E7 x)
theorem a2t(m:List Bool)(n:Nat)(x:c0m):lowL m n (b6g x)=true:=lowL_plain _ _ _ (J3 x)
theorem a6i(m:List Bool)(n:Nat)(x:A3):lowL m n (D3 x)=true:=lowL_plain _ _ _ (C3 x)
theorem a5t(m:List Bool)(n:Nat)(x:U7):lowL m n (a3x x)=true:=lowL_plain _ _ _ (K3 x)
theorem Y6(m:List Bool)(n:Nat)(x:a82):lowL m n (a6s x)=true:=lowL_plain _ _ _ (G2 x)
theorem a6d(m:List Bool)(n:Nat)(x:E0):lowL m n (c0e x)=true:=lowL_plain _ _ _ (W8 x)
theorem a5h(m:List Bool)(n:Nat)(x:B0):lowL m n (b91 x)=true:=lowL_plain _ _ _ (Y1 x)
theorem a1d(m:List Bool)(n:Nat)(x:C7):lowL m n (K6 x)=true:=lowL_plain _ _ _ (G1 x)
theorem a6g(m:List Bool)(n:Nat)(x:b5f):lowL m n (b4v x)=true:=lowL_plain _ _ _ (a0c x)
theorem a9c(m:List Bool)(n:Nat)(x:c1e):lowL m n (b7i x)=true:=lowL_plain _ _ _ (a4p x)
theorem b6x(m:List Bool)(n:Nat)(l:List Int):lowLL m n (l.map d65)=true:=lowLL_plain _ _ _ (K8 l)
theorem b23(m:List Bool)(n:Nat)(l:List Int):lowLL m n (l.map c64)=true:=lowLL_plain _ _ _ (G7 l)
theorem b3f(m:List Bool)(n:Nat)(l:List Int):lowLL m n (l.map c7e)=true:=lowLL_plain _ _ _ (G5 l)
theorem b2y(m:List Bool)(n:Nat)(l:List Int):lowLL m n (l.map a8r)=true:=lowLL_plain _ _ _ (F9 l)
theorem b67(m:List Bool)(n:Nat)(l:List Int):lowLL m n (l.map b01)=true:=lowLL_plain _ _ _ (J4 l)
theorem b21(m:List Bool)(n:Nat)(l:List Int):lowLL m n (l.map c66)=true:=lowLL_plain _ _ _ (G6 l)
theorem b3e(m:List Bool)(n:Nat)(l:List Int):lowLL m n (l.map c7l)=true:=lowLL_plain _ _ _ (G8 l)
theorem b2n(m:List Bool)(n:Nat)(l:List Int):lowLL m n (l.map b73)=true:=lowLL_plain _ _ _ (G4 l)
theorem b6l(m:List Bool)(n:Nat)(l:List Bool):lowLL m n (l.map c2m)=true:=lowLL_plain _ _ _ (K7 l)
theorem c1g(m:List Bool)(n:Nat)(l:List ByteArray):lowLL m n (l.map e5t)=true:=lowLL_plain _ _ _ (T3 l)
theorem c2q(m:List Bool)(n:Nat)(l:List GOp):lowLL m n (l.map V6)=true:=lowLL_plain _ _ _ (T2 l)
theorem b32(m:List Bool)(n:Nat)(l:List B9):lowLL m n (l.map E3)=true:=lowLL_plain _ _ _ (H8 l)
theorem b7o(m:List Bool)(n:Nat)(l:List H9):lowLL m n (l.map J0)=true:=lowLL_plain _ _ _ (H0 l)
theorem a80(m:List Bool)(n:Nat)(l:List A0):lowLL m n (l.map C0)=true:=lowLL_plain _ _ _ (E8 l)
theorem b2s(m:List Bool)(n:Nat)(l:List (A0 × A0)):lowLL m n (l.map A8)=true:=lowLL_plain _ _ _ (D7 l)
theorem b3x(m:List Bool)(n:Nat)(l:List (Int × A0)):lowLL m n (l.map B4)=true:=lowLL_plain _ _ _ (E4 l)
theorem b3q(m:List Bool)(n:Nat)(l:List b4b):lowLL m n (l.map a8k)=true:=lowLL_plain _ _ _ (K0 l)
theorem b3g(m:List Bool)(n:Nat)(l:List b5j):lowLL m n (l.map a3j)=true:=lowLL_plain _ _ _ (J6 l)
theorem b2m(m:List Bool)(n:Nat)(l:List c0v):lowLL m n (l.map b2u)=true:=lowLL_plain _ _ _ (N1 l)
theorem b2x(m:List Bool)(n:Nat)(l:List W4):lowLL m n (l.map S0)=true:=lowLL_plain _ _ _ (Q0 l)
theorem b2q(m:List Bool)(n:Nat)(l:List A6):lowLL m n (l.map B6)=true:=lowLL_plain _ _ _ (S8 l)
theorem a29(m:List Bool)(n:Nat)(l:List c0m):lowLL m n (l.map b6g)=true:=lowLL_plain _ _ _ (G9 l)
theorem a5s(m:List Bool)(n:Nat)(l:List A3):lowLL m n (l.map D3)=true:=lowLL_plain _ _ _ (L4 l)
theorem a5r(m:List Bool)(n:Nat)(l:List U7):lowLL m n (l.map a3x)=true:=lowLL_plain _ _ _ (N2 l)
theorem Z2(m:List Bool)(n:Nat)(l:List a82):lowLL m n (l.map a6s)=true:=lowLL_plain _ _ _ (F4 l)
theorem a6a(m:List Bool)(n:Nat)(l:List E0):lowLL m n (l.map c0e)=true:=lowLL_plain _ _ _ (S7 l)
theorem a54(m:List Bool)(n:Nat)(l:List B0):lowLL m n (l.map b91)=true:=lowLL_plain _ _ _ (U6 l)
theorem a1n(m:List Bool)(n:Nat)(l:List C7):lowLL m n (l.map K6)=true:=lowLL_plain _ _ _ (P3 l)
theorem a5k(m:List Bool)(n:Nat)(l:List b5f):lowLL m n (l.map b4v)=true:=lowLL_plain _ _ _ (Z0 l)
theorem a88(m:List Bool)(n:Nat)(l:List c1e):lowLL m n (l.map b7i)=true:=lowLL_plain _ _ _ (a2c l)
theorem b6m(m:List Bool)(n:Nat)(l:List Int):lowL m n (cellsOf d65 l)=true:=lowL_plain _ _ _ (C2 _ (K8 l))
theorem b2i(m:List Bool)(n:Nat)(l:List Int):lowL m n (cellsOf c64 l)=true:=lowL_plain _ _ _ (C2 _ (G7 l))
theorem b2z(m:List Bool)(n:Nat)(l:List Int):lowL m n (cellsOf c7e l)=true:=lowL_plain _ _ _ (C2 _ (G5 l))
theorem b3k(m:List Bool)(n:Nat)(l:List Int):lowL m n (cellsOf a8r l)=true:=lowL_plain _ _ _ (C2 _ (F9 l))
theorem b6t(m:List Bool)(n:Nat)(l:List Int):lowL m n (cellsOf b01 l)=true:=lowL_plain _ _ _ (C2 _ (J4 l))
theorem b3d(m:List Bool)(n:Nat)(l:List Int):lowL m n (cellsOf c66 l)=true:=lowL_plain _ _ _ (C2 _ (G6 l))
theorem b3s(m:List Bool)(n:Nat)(l:List Int):lowL m n (cellsOf c7l l)=true:=lowL_plain _ _ _ (C2 _ (G8 l))
theorem b3a(m:List Bool)(n:Nat)(l:List Int):lowL m n (cellsOf b73 l)=true:=lowL_plain _ _ _ (C2 _ (G4 l))
theorem b7e(m:List Bool)(n:Nat)(l:List Bool):lowL m n (cellsOf c2m l)=true:=lowL_plain _ _ _ (C2 _ (K7 l))
theorem c2e(m:List Bool)(n:Nat)(l:List ByteArray):lowL m n (cellsOf e5t l)=true:=lowL_plain _ _ _ (C2 _ (T3 l))
theorem c24(m:List Bool)(n:Nat)(l:List GOp):lowL m n (cellsOf V6 l)=true:=lowL_plain _ _ _ (C2 _ (T2 l))
theorem b3m(m:List Bool)(n:Nat)(l:List B9):lowL m n (cellsOf E3 l)=true:=lowL_plain _ _ _ (C2 _ (H8 l))
theorem b62(m:List Bool)(n:Nat)(l:List H9):lowL m n (cellsOf J0 l)=true:=lowL_plain _ _ _ (C2 _ (H0 l))
theorem a8w(m:List Bool)(n:Nat)(l:List A0):lowL m n (cellsOf C0 l)=true:=lowL_plain _ _ _ (C2 _ (E8 l))
theorem b3j(m:List Bool)(n:Nat)(l:List (A0 × A0)):lowL m n (cellsOf A8 l)=true:=lowL_plain _ _ _ (C2 _ (D7 l))
theorem b3y(m:List Bool)(n:Nat)(l:List (Int × A0)):lowL m n (cellsOf B4 l)=true:=lowL_plain _ _ _ (C2 _ (E4 l))
theorem b3h(m:List Bool)(n:Nat)(l:List b4b):lowL m n (cellsOf a8k l)=true:=lowL_plain _ _ _ (C2 _ (K0 l))
theorem b20(m:List Bool)(n:Nat)(l:List b5j):lowL m n (cellsOf a3j l)=true:=lowL_plain _ _ _ (C2 _ (J6 l))
theorem b30(m:List Bool)(n:Nat)(l:List c0v):lowL m n (cellsOf b2u l)=true:=lowL_plain _ _ _ (C2 _ (N1 l))
theorem b2r(m:List Bool)(n:Nat)(l:List W4):lowL m n (cellsOf S0 l)=true:=lowL_plain _ _ _ (C2 _ (Q0 l))
theorem b2j(m:List Bool)(n:Nat)(l:List A6):lowL m n (cellsOf B6 l)=true:=lowL_plain _ _ _ (C2 _ (S8 l))
theorem a3n(m:List Bool)(n:Nat)(l:List c0m):lowL m n (cellsOf b6g l)=true:=lowL_plain _ _ _ (C2 _ (G9 l))
theorem a5z(m:List Bool)(n:Nat)(l:List A3):lowL m n (cellsOf D3 l)=true:=lowL_plain _ _ _ (C2 _ (L4 l))
theorem a5o(m:List Bool)(n:Nat)(l:List U7):lowL m n (cellsOf a3x l)=true:=lowL_plain _ _ _ (C2 _ (N2 l))
theorem Y5(m:List Bool)(n:Nat)(l:List a82):lowL m n (cellsOf a6s l)=true:=lowL_plain _ _ _ (C2 _ (F4 l))
theorem a51(m:List Bool)(n:Nat)(l:List E0):lowL m n (cellsOf c0e l)=true:=lowL_plain _ _ _ (C2 _ (S7 l))
theorem a5n(m:List Bool)(n:Nat)(l:List B0):lowL m n (cellsOf b91 l)=true:=lowL_plain _ _ _ (C2 _ (U6 l))
theorem a1e(m:List Bool)(n:Nat)(l:List C7):lowL m n (cellsOf K6 l)=true:=lowL_plain _ _ _ (C2 _ (P3 l))
theorem a5m(m:List Bool)(n:Nat)(l:List b5f):lowL m n (cellsOf b4v l)=true:=lowL_plain _ _ _ (C2 _ (Z0 l))
theorem a8y(m:List Bool)(n:Nat)(l:List c1e):lowL m n (cellsOf b7i l)=true:=lowL_plain _ _ _ (C2 _ (a2c l))
inductive c0g where
 |nil
 |a_order_one (x:A0)
 |a_order_list (x:(List A0))
 |a_order_pairs (x:(List (A0 × A0)))
 |a_order_parts (x:c1e)
def c93:c0g->AV
 |.nil=>.v .nilIface
 |.a_order_one x=>.iface 200 (.agg (A5 x))
 |.a_order_list x=>.iface 201 (.sl (List.map C0 x) .no)
 |.a_order_pairs x=>.iface 203 (.sl (List.map A8 x) .no)
 |.a_order_parts x=>.iface 206 (.agg (b7i x))
theorem c4y(x:c0g):plain (c93 x)=true:=by cases x<;>simp[c93,plain,plainL,K8,G7,G5,F9,J4,G6,G8,G4,K7,T3,a0s,T1,a08,N0,T2,G3,H8,Q6,H0,A9,E8,N4,D7,O4,E4,P4,K0,R0,J6,T5,N1,V7,Q0,E7,S8,J3,G9,C3,L4,K3,N2,G2,F4,W8,S7,Y1,U6,G1,P3,a0c,Z0,a4p,a2c]
theorem c9m(m:List Bool)(n:Nat)(x:c0g):low m n (c93 x)=true:=by
 have h:=lowL_plain m n [c93 x] (by simp[plainL,c4y]);simpa[lowL]using h
theorem g4q{P:Program}{f:Nat}{R:Rm}{s:Mc}(m:Nat){y:c0g}{A:A0->Prop}{B:Prop}(hw:(∀z,y=.a_order_one z->A z)/\((∀z,y≠.a_order_one z)->B))(h1:∀z,A z->Ok P f R (put (run m s) (.tuple [.agg (A5 z),.v (.bool true)])))(h2:B->Ok P f R (put (run m s) (.tuple [oZ (op (run m s)),.v (.bool false)])))(hc:okS (run m s)=true:=by kernel_rfl)(ho:op (run m s)=.assertT 200 true (oZ (op (run m s))) (oX (op (run m s))):=by kernel_rfl)(hx:xv (run m s)=some (c93 y):=by kernel_rfl):Ok P f R s:=by
 cases y with
 |a_order_one z=>exact ev0 m (fun h K hk=>by rw[ho];simp only[aop];change wv (xv _) _;simp only[hx,wv,c93,a0h];exact hk) (h1 z (hw.1 z rfl)) hc
 |_=>exact ev0 m (fun h K hk=>by rw[ho];simp only[aop];change wv (xv _) _;simp only[hx,wv,c93,a0h];first|exact⟨trivial,hk⟩|exact⟨rfl,hk⟩) (h2 (hw.2 fun z hz=>by cases hz)) hc
theorem g4i{P:Program}{f:Nat}{R:Rm}{s:Mc}(m:Nat){y:c0g}{A:(List A0)->Prop}{B:Prop}(hw:(∀z,y=.a_order_list z->A z)/\((∀z,y≠.a_order_list z)->B))(h1:∀z,A z->Ok P f R (put (run m s) (.tuple [.sl (List.map C0 z) .no,.v (.bool true)])))(h2:B->Ok P f R (put (run m s) (.tuple [oZ (op (run m s)),.v (.bool false)])))(hc:okS (run m s)=true:=by kernel_rfl)(ho:op (run m s)=.assertT 201 true (oZ (op (run m s))) (oX (op (run m s))):=by kernel_rfl)(hx:xv (run m s)=some (c93 y):=by kernel_rfl):Ok P f R s:=by
 cases y with
 |a_order_list z=>exact ev0 m (fun h K hk=>by rw[ho];simp only[aop];change wv (xv _) _;simp only[hx,wv,c93,a0h];exact hk) (h1 z (hw.1 z rfl)) hc
 |_=>exact ev0 m (fun h K hk=>by rw[ho];simp only[aop];change wv (xv _) _;simp only[hx,wv,c93,a0h];first|exact⟨trivial,hk⟩|exact⟨rfl,hk⟩) (h2 (hw.2 fun z hz=>by cases hz)) hc
theorem g0p{P:Program}{f:Nat}{R:Rm}{s:Mc}(m:Nat){y:c0g}{W:(List A0)->Prop}(hw:∃z,y=c0g.a_order_list z/\W z)(hk:∀z,W z->Ok P f R (put (run m s) (.sl (List.map C0 z) .no)))(hc:okS (run m s)=true:=by kernel_rfl)(ho:op (run m s)=.assertT 201 false (oZ (op (run m s))) (oX (op (run m s))):=by kernel_rfl)(hx:xv (run m s)=some (c93 y):=by kernel_rfl):Ok P f R s:=by
 obtain⟨z,rfl,hw⟩:=hw;exact ev0 m (fun h K hk=>by rw[ho];simp only[aop];change wv (xv _) _;simp only[hx,wv,c93,a0h];exact hk) (hk z hw) hc
theorem g4h{P:Program}{f:Nat}{R:Rm}{s:Mc}(m:Nat){y:c0g}{A:(List (A0 × A0))->Prop}{B:Prop}(hw:(∀z,y=.a_order_pairs z->A z)/\((∀z,y≠.a_order_pairs z)->B))(h1:∀z,A z->Ok P f R (put (run m s) (.tuple [.sl (List.map A8 z) .no,.v (.bool true)])))(h2:B->Ok P f R (put (run m s) (.tuple [oZ (op (run m s)),.v (.bool false)])))(hc:okS (run m s)=true:=by kernel_rfl)(ho:op (run m s)=.assertT 203 true (oZ (op (run m s))) (oX (op (run m s))):=by kernel_rfl)(hx:xv (run m s)=some (c93 y):=by kernel_rfl):Ok P f R s:=by
 cases y with
 |a_order_pairs z=>exact ev0 m (fun h K hk=>by rw[ho];simp only[aop];change wv (xv _) _;simp only[hx,wv,c93,a0h];exact hk) (h1 z (hw.1 z rfl)) hc
 |_=>exact ev0 m (fun h K hk=>by rw[ho];simp only[aop];change wv (xv _) _;simp only[hx,wv,c93,a0h];first|exact⟨trivial,hk⟩|exact⟨rfl,hk⟩) (h2 (hw.2 fun z hz=>by cases hz)) hc
theorem f8x{P:Program}{f:Nat}{R:Rm}{s:Mc}(m:Nat){y:c0g}{W:(List (A0 × A0))->Prop}(hw:∃z,y=c0g.a_order_pairs z/\W z)(hk:∀z,W z->Ok P f R (put (run m s) (.sl (List.map A8 z) .no)))(hc:okS (run m s)=true:=by kernel_rfl)(ho:op (run m s)=.assertT 203 false (oZ (op (run m s))) (oX (op (run m s))):=by kernel_rfl)(hx:xv (run m s)=some (c93 y):=by kernel_rfl):Ok P f R s:=by
 obtain⟨z,rfl,hw⟩:=hw;exact ev0 m (fun h K hk=>by rw[ho];simp only[aop];change wv (xv _) _;simp only[hx,wv,c93,a0h];exact hk) (hk z hw) hc
theorem g7g{P:Program}{f:Nat}{R:Rm}{s:Mc}(m:Nat){y:c0g}{A:c1e->Prop}{B:Prop}(hw:(∀z,y=.a_order_parts z->A z)/\((∀z,y≠.a_order_parts z)->B))(h1:∀z,A z->Ok P f R (put (run m s) (.tuple [.agg (b7i z),.v (.bool true)])))(h2:B->Ok P f R (put (run m s) (.tuple [oZ (op (run m s)),.v (.bool false)])))(hc:okS (run m s)=true:=by kernel_rfl)(ho:op (run m s)=.assertT 206 true (oZ (op (run m s))) (oX (op (run m s))):=by kernel_rfl)(hx:xv (run m s)=some (c93 y):=by kernel_rfl):Ok P f R s:=by
 cases y with
 |a_order_parts z=>exact ev0 m (fun h K hk=>by rw[ho];simp only[aop];change wv (xv _) _;simp only[hx,wv,c93,a0h];exact hk) (h1 z (hw.1 z rfl)) hc
 |_=>exact ev0 m (fun h K hk=>by rw[ho];simp only[aop];change wv (xv _) _;simp only[hx,wv,c93,a0h];first|exact⟨trivial,hk⟩|exact⟨rfl,hk⟩) (h2 (hw.2 fun z hz=>by cases hz)) hc
theorem f9r{P:Program}{f:Nat}{R:Rm}{s:Mc}(m:Nat){y:c0g}{W:c1e->Prop}(hw:∃z,y=c0g.a_order_parts z/\W z)(hk:∀z,W z->Ok P f R (put (run m s) (.agg (b7i z))))(hc:okS (run m s)=true:=by kernel_rfl)(ho:op (run m s)=.assertT 206 false (oZ (op (run m s))) (oX (op (run m s))):=by kernel_rfl)(hx:xv (run m s)=some (c93 y):=by kernel_rfl):Ok P f R s:=by
 obtain⟨z,rfl,hw⟩:=hw;exact ev0 m (fun h K hk=>by rw[ho];simp only[aop];change wv (xv _) _;simp only[hx,wv,c93,a0h];exact hk) (hk z hw) hc
def N6(x:E0):List AV:=[.sl (List.map E3 x.p.Progs) .no,.sl (List.map S0 x.p.Enums) .no,.sl (List.map b01 x.out) (.own 0)]
def a30(x:E0):List (Nat × Nat):=[(x.out.length,1)]
theorem a3v(x:E0):(N6 x).all ok1=true:=by simp[N6,ok1,plain,K8,G7,G5,F9,J4,G6,G8,G4,K7,T3,a0s,T1,a08,N0,T2,G3,H8,Q6,H0,A9,E8,N4,D7,O4,E4,P4,K0,R0,J6,T5,N1,V7,Q0,E7,S8,J3,G9,C3,L4,K3,N2,G2,F4,W8,S7,Y1,U6,G1,P3,a0c,Z0,a4p,a2c,c4y]
theorem c13(x:E0):lowL [true] 1 (N6 x)=true:=by first|rfl|(simp only[N6,low,lowL,b6m,b2i,b2z,b3k,b6t,b3d,b3s,b3a,b7e,c2e,c24,b3m,b62,a8w,b3j,b3y,b3h,b20,b30,b2r,b2j,a3n,a5z,a5o,Y5,a51,a5n,a1e,a5m,a8y,c1k,b7t,b6x,b23,b3f,b2y,b67,b21,b3e,b2n,b6l,c1g,c2q,b32,b7o,a80,b2s,b3x,b3q,b3g,b2m,b2x,b2q,a29,a5s,a5r,Z2,a6a,a54,a1n,a5k,a88,c15,b22,b7d,a85,b27,b3w,b3v,b3n,b2w,b3t,b2l,a2t,a6i,a5t,Y6,a6d,a5h,a1d,a6g,a9c,c9m];rfl)
def C8(x:B0):List AV:=[.sl (List.map E3 x.p.Progs) .no,.sl (List.map S0 x.p.Enums) .no,.v (.string x.c.Data),.v (.int .i64 x.c.At),.v (.int .i64 x.c.End),.v (.int .i64 x.c.Depth),.v (.int .i64 x.c.Nodes),.v (.int .i64 x.c.Text)]
def J8(x:B0):List (Nat × Nat):=[]
theorem J2(x:B0):(C8 x).all ok1=true:=by simp[C8,ok1,plain,K8,G7,G5,F9,J4,G6,G8,G4,K7,T3,a0s,T1,a08,N0,T2,G3,H8,Q6,H0,A9,E8,N4,D7,O4,E4,P4,K0,R0,J6,T5,N1,V7,Q0,E7,S8,J3,G9,C3,L4,K3,N2,G2,F4,W8,S7,Y1,U6,G1,P3,a0c,Z0,a4p,a2c,c4y]
theorem a57(x:B0):lowL [true] 0 (C8 x)=true:=by first|rfl|(simp only[C8,low,lowL,b6m,b2i,b2z,b3k,b6t,b3d,b3s,b3a,b7e,c2e,c24,b3m,b62,a8w,b3j,b3y,b3h,b20,b30,b2r,b2j,a3n,a5z,a5o,Y5,a51,a5n,a1e,a5m,a8y,c1k,b7t,b6x,b23,b3f,b2y,b67,b21,b3e,b2n,b6l,c1g,c2q,b32,b7o,a80,b2s,b3x,b3q,b3g,b2m,b2x,b2q,a29,a5s,a5r,Z2,a6a,a54,a1n,a5k,a88,c15,b22,b7d,a85,b27,b3w,b3v,b3n,b2w,b3t,b2l,a2t,a6i,a5t,Y6,a6d,a5h,a1d,a6g,a9c,c9m];rfl)
theorem f1y:c42 c2m 1:=⟨fun y=>rfl,fun y=>rfl,fun y=>rfl,fun y=>rfl⟩
def f8y:En Bool:=⟨c2m,c2m,1,fun _=>rfl,fun _=>rfl,f1y⟩
theorem e4l:c42 S0 5:=⟨fun y=>rfl,fun y=>rfl,fun y=>V7 y,fun y=>rfl⟩
def a0t:En W4:=⟨S0,S0,5,fun _=>rfl,fun _=>rfl,e4l⟩
theorem e4p:c42 a3j 3:=⟨fun y=>rfl,fun y=>rfl,fun y=>R0 y,fun y=>rfl⟩
def b2g:En b5j:=⟨a3j,a3j,3,fun _=>rfl,fun _=>rfl,e4p⟩
theorem e4u:c42 a8k 8:=⟨fun y=>rfl,fun y=>rfl,fun y=>P4 y,fun y=>rfl⟩
def b5q:En b4b:=⟨a8k,a8k,8,fun _=>rfl,fun _=>rfl,e4u⟩
theorem f5c:c42 V6 8:=⟨fun y=>rfl,fun y=>rfl,fun y=>N0 y,fun y=>rfl⟩
def c0w:En GOp:=⟨V6,V6,8,fun _=>rfl,fun _=>rfl,f5c⟩
theorem e4i:c42 A8 14:=⟨fun y=>by rw[b2c];rfl,fun y=>by rw[b2c];rfl,fun y=>by rw[b2c];exact N4 y,fun y=>by rw[b2c];rfl⟩
def B7:En (A0 × A0):=⟨V3,A8,14,fun y=>b2c y,fun _=>rfl,e4i⟩
theorem e5h:c42 E3 3:=⟨fun y=>rfl,fun y=>rfl,fun y=>G3 y,fun y=>rfl⟩
def L7:En B9:=⟨E3,E3,3,fun _=>rfl,fun _=>rfl,e5h⟩
theorem f04:c42 J0 4:=⟨fun y=>rfl,fun y=>rfl,fun y=>Q6 y,fun y=>rfl⟩
def a8u:En H9:=⟨J0,J0,4,fun _=>rfl,fun _=>rfl,f04⟩
theorem e4e:c42 B4 8:=⟨fun y=>by rw[b2e];rfl,fun y=>by rw[b2e];rfl,fun y=>by rw[b2e];exact O4 y,fun y=>by rw[b2e];rfl⟩
def C1:En (Int × A0):=⟨X4,B4,8,fun y=>b2e y,fun _=>rfl,e4e⟩
theorem e5j:c42 b2u 2:=⟨fun y=>rfl,fun y=>rfl,fun y=>T5 y,fun y=>rfl⟩
def c9w:En c0v:=⟨b2u,b2u,2,fun _=>rfl,fun _=>rfl,e5j⟩
theorem d85:c42 C0 7:=⟨fun y=>by rw[V1];rfl,fun y=>by rw[V1];rfl,fun y=>by rw[V1];exact A9 y,fun y=>by rw[V1];rfl⟩
def F5:En A0:=⟨A5,C0,7,fun y=>V1 y,fun _=>rfl,d85⟩
theorem e40:c42 a8r 1:=⟨fun y=>rfl,fun y=>rfl,fun y=>rfl,fun y=>rfl⟩
def f7k:En Int:=⟨a8r,a8r,1,fun _=>rfl,fun _=>rfl,e40⟩
theorem f0n:c42 b01 1:=⟨fun y=>rfl,fun y=>rfl,fun y=>rfl,fun y=>rfl⟩
def d2f:En Int:=⟨b01,b01,1,fun _=>rfl,fun _=>rfl,f0n⟩
def e3(r:Bool):AV:=.v (.bool r)
def e4(r:Bool):AV:=.v (.bool r)
def b75(p:A6)(name:ByteArray)(v:A0)(r:Bool):Prop:=B8 Tryz.prog [] 4 [.agg (B6 p),.v (.string name),.agg (A5 v)] (e4 r)
def e5(r:Bool):AV:=.v (.bool r)
def e6(r:Bool):AV:=.v (.bool r)
def b83(p:A6)(name:ByteArray)(v:A0)(r:Bool):Prop:=B8 Tryz.prog [] 6 [.agg (B6 p),.v (.string name),.agg (A5 v)] (e6 r)
def e7(r:Bool):AV:=.v (.bool r)
def e8(r:Bool):AV:=.v (.bool r)
def e9(r:Bool):AV:=.v (.bool r)
def b4d(p:A6)(r:Bool):Prop:=B8 Tryz.prog [] 9 [.agg (B6 p)] (e9 r)
def e10(r:(A0 × A3 × Int)):AV:=.tuple [.agg (A5 r.1),.agg (D3 r.2.1),.v (.int .i64 r.2.2)]
def c6o(p:A6)(o_:GOp)(c:A3)(r:(A0 × A3 × Int)):Prop:=B8 Tryz.prog [] 10 [.agg (B6 p),.agg (V6 o_),.agg (D3 c)] (e10 r)
def e12(r:ByteArray):AV:=.v (.string r)
def d37(v:A0)(r:ByteArray):Prop:=B8 Tryz.prog [] 12 [.agg (A5 v)] (e12 r)
def e13(r:Bool):AV:=.v (.bool r)
def b9x(a:A0)(b:A0)(r:Bool):Prop:=B8 Tryz.prog [] 13 [.agg (A5 a),.agg (A5 b)] (e13 r)
def e14(r:ByteArray):AV:=.v (.string r)
def e15(r:Bool):AV:=.v (.bool r)
def a3g(r:Bool):Prop:=B8 Tryz.prog [] 15 [] (e15 r)
def e17(r:Bool):AV:=.v (.bool r)
def b6k(v:A0)(r:Bool):Prop:=B8 Tryz.prog [] 17 [.agg (A5 v)] (e17 r)
def e18(r:(ByteArray × Int)):AV:=.tuple [.v (.string r.1),.v (.int .i64 r.2)]
def b9z(p:A6)(name:ByteArray)(v:A0)(r:(ByteArray × Int)):Prop:=B8 Tryz.prog [] 18 [.agg (B6 p),.v (.string name),.agg (A5 v)] (e18 r)
def e19(r:(Int × Bool)):AV:=.tuple [.v (.int .i64 r.1),.v (.bool r.2)]
def c0i(p:A6)(name:ByteArray)(r:(Int × Bool)):Prop:=B8 Tryz.prog [] 19 [.agg (B6 p),.v (.string name)] (e19 r)
def e20(r:(A0 × Int)):AV:=.tuple [.agg (A5 r.1),.v (.int .i64 r.2)]
def b6f(p:A6)(name:ByteArray)(data:ByteArray)(l:U7)(r:(A0 × Int)):Prop:=B8 Tryz.prog [] 20 [.agg (B6 p),.v (.string name),.v (.string data),.agg (a3x l)] (e20 r)
def e21(r:U7):AV:=.agg (a3x r)
def b6n(r:U7):Prop:=B8 Tryz.prog [] 21 [] (e21 r)
def e22(r:A0):AV:=.agg (A5 r)
def a6q(p:A6)(prog:Int)(v:A0)(r:A0):Prop:=B8 Tryz.prog [] 22 [.agg (B6 p),.v (.int .i64 prog),.agg (A5 v)] (e22 r)
def e23(r:Int):AV:=.v (.int .i64 r)
def e24(r:Int):AV:=.v (.int .i64 r)
def Y3(v:A0)(r:Int):Prop:=B8 Tryz.prog [] 24 [.agg (A5 v)] (e24 r)
def e25(r:Int):AV:=.v (.int .i64 r)
def X1(v:A0)(r:Int):Prop:=B8 Tryz.prog [] 25 [.agg (A5 v)] (e25 r)
def e26(r:Int):AV:=.v (.int .i64 r)
def S3(v:A0)(r:Int):Prop:=B8 Tryz.prog [] 26 [.agg (A5 v)] (e26 r)
def e30(r:Int):AV:=.v (.int .i64 r)
def c2y(p:A6)(r:Int):Prop:=B8 Tryz.prog [] 30 [.agg (B6 p)] (e30 r)
def e31(r:(Int × A3 × Int)):AV:=.tuple [.v (.int .u8 r.1),.agg (D3 r.2.1),.v (.int .i64 r.2.2)]
def b6w(c:A3)(r:(Int × A3 × Int)):Prop:=B8 Tryz.prog [] 31 [.agg (D3 c)] (e31 r)
def e32(r:(A0 × A3 × Int)):AV:=.tuple [.agg (A5 r.1),.agg (D3 r.2.1),.v (.int .i64 r.2.2)]
def c5i(c:A3)(r:(A0 × A3 × Int)):Prop:=B8 Tryz.prog [] 32 [.agg (D3 c)] (e32 r)
def e33(r:(A0 × A3 × Int)):AV:=.tuple [.agg (A5 r.1),.agg (D3 r.2.1),.v (.int .i64 r.2.2)]
def d4l(kind:Int)(c:A3)(r:(A0 × A3 × Int)):Prop:=B8 Tryz.prog [] 33 [.v (.int .i64 kind),.agg (D3 c)] (e33 r)
def e34(r:(Int × A3 × Int)):AV:=.tuple [.v (.int .u64 r.1),.agg (D3 r.2.1),.v (.int .i64 r.2.2)]
def b6c(c:A3)(r:(Int × A3 × Int)):Prop:=B8 Tryz.prog [] 34 [.agg (D3 c)] (e34 r)
def e35(r:Int):AV:=.v (.int .i64 r)
def c0p(u:Int)(r:Int):Prop:=B8 Tryz.prog [] 35 [.v (.int .u64 u)] (e35 r)
def e36(r:Bool):AV:=.v (.bool r)
def b3i(kind:Int)(v:A0)(r:Bool):Prop:=B8 Tryz.prog [] 36 [.v (.int .i64 kind),.agg (A5 v)] (e36 r)
def e37(r:Bool):AV:=.v (.bool r)
def b0f(p:A6)(enum:Int)(num:Int)(r:Bool):Prop:=B8 Tryz.prog [] 37 [.agg (B6 p),.v (.int .i64 enum),.v (.int .u64 num)] (e37 r)
def e41(r:A0):AV:=.agg (A5 r)
def c0f(v:A0)(r:A0):Prop:=B8 Tryz.prog [] 41 [.agg (A5 v)] (e41 r)
def e42(r:Bool):AV:=.v (.bool r)
def c87(kind:Int)(r:Bool):Prop:=B8 Tryz.prog [] 42 [.v (.int .i64 kind)] (e42 r)
def e44(r:Int):AV:=.v (.int .i64 r)
def d06(u:Int)(r:Int):Prop:=B8 Tryz.prog [] 44 [.v (.int .u64 u)] (e44 r)
def e45(r:Bool):AV:=.v (.bool r)
def c6f(kind:Int)(v:A0)(r:Bool):Prop:=B8 Tryz.prog [] 45 [.v (.int .i64 kind),.agg (A5 v)] (e45 r)
def e47(r:ByteArray):AV:=.v (.string r)
def a3w(u:Int)(r:ByteArray):Prop:=B8 Tryz.prog [] 47 [.v (.int .u64 u)] (e47 r)
def e48(r:Int):AV:=.v (.int .u64 r)
def c59(n:Int)(r:Int):Prop:=B8 Tryz.prog [] 48 [.v (.int .i64 n)] (e48 r)
def e49(r:ByteArray):AV:=.v (.string r)
def b8p(u:Int)(r:ByteArray):Prop:=B8 Tryz.prog [] 49 [.v (.int .u64 u)] (e49 r)
def e50(r:A0):AV:=.agg (A5 r)
def a84(v:A0)(r:A0):Prop:=B8 Tryz.prog [] 50 [.agg (A5 v)] (e50 r)
def e51(r:Bool):AV:=.v (.bool r)
def c2x(a:A0)(b:A0)(r:Bool):Prop:=B8 Tryz.prog [] 51 [.agg (A5 a),.agg (A5 b)] (e51 r)
def e52(r:ByteArray):AV:=.v (.string r)
def c36(u:Int)(r:ByteArray):Prop:=B8 Tryz.prog [] 52 [.v (.int .u64 u)] (e52 r)
def e55(r:(Int × Bool)):AV:=.tuple [.v (.int .i64 r.1),.v (.bool r.2)]
def c3f(p:A6)(name:ByteArray)(r:(Int × Bool)):Prop:=B8 Tryz.prog [] 55 [.agg (B6 p),.v (.string name)] (e55 r)
def e56(r:Int):AV:=.v (.int .i64 r)
def d01(p:A6)(prog:Int)(v:A0)(r:Int):Prop:=B8 Tryz.prog [] 56 [.agg (B6 p),.v (.int .i64 prog),.agg (A5 v)] (e56 r)
def e57(r:Bool):AV:=.v (.bool r)
def a7x(v:A0)(r:Bool):Prop:=B8 Tryz.prog [] 57 [.agg (A5 v)] (e57 r)
def e58(r:E0):AV:=.tuple []
theorem g7o(r:E0):plain (e58 r)=true:=rfl
def a0i(w:E0)(prog:Int)(v:A0)(r:E0):Prop:=b5x Tryz.prog [] 58 [.ptr 0 0,.v (.int .i64 prog),.agg (A5 v)] (N6 w) (a30 w) (e58 r) (N6 r) (a30 r)
def e59(r:A0):AV:=.agg (A5 r)
def b2h(p:A6)(prog:Int)(v:A0)(r:A0):Prop:=B8 Tryz.prog [] 59 [.agg (B6 p),.v (.int .i64 prog),.agg (A5 v)] (e59 r)
def e60(r:(A3 × Int)):AV:=.tuple [.agg (D3 r.1),.v (.int .i64 r.2)]
def d2a(data:ByteArray)(l:U7)(r:(A3 × Int)):Prop:=B8 Tryz.prog [] 60 [.v (.string data),.agg (a3x l)] (e60 r)
def e61(r:(B0 × (A0 × Int))):AV:=.tuple [.agg (A5 r.2.1),.v (.int .i64 r.2.2)]
theorem g7r(r:(B0 × (A0 × Int))):plain (e61 r)=true:=(c8h (A7 (A9 r.2.1) (A7 rfl rfl)))
def X0(r_:B0)(prog:Int)(r:(B0 × (A0 × Int))):Prop:=b5x Tryz.prog [] 61 [.ptr 0 0,.v (.int .i64 prog)] (C8 r_) (J8 r_) (e61 r) (C8 r.1) (J8 r.1)
def e62(r:Int):AV:=.v (.int .i64 r)
def a81(c:A3)(r:Int):Prop:=B8 Tryz.prog [] 62 [.agg (D3 c)] (e62 r)
def e63(r:(List H9)):AV:=.sl (List.map J0 r) .no
def c5p(l:(List H9))(r:(List H9)):Prop:=B8 Tryz.prog [] 63 [.sl (List.map J0 l) .no] (e63 r)
def e64(r:A0):AV:=.agg (A5 r)
def b9p(p:A6)(o_:GOp)(v:A0)(r:A0):Prop:=B8 Tryz.prog [] 64 [.agg (B6 p),.agg (V6 o_),.agg (A5 v)] (e64 r)
def e65(r:Bool):AV:=.v (.bool r)
def c17(v:A0)(r:Bool):Prop:=B8 Tryz.prog [] 65 [.agg (A5 v)] (e65 r)
def e66(r:Int):AV:=.v (.int .i64 r)
def d5z(p:A6)(prog:Int)(v:A0)(level:Int)(r:Int):Prop:=B8 Tryz.prog [] 66 [.agg (B6 p),.v (.int .i64 prog),.agg (A5 v),.v (.int .i64 level)] (e66 r)
def e68(r:ByteArray):AV:=.v (.string r)
def e4o(p:A6)(prog:Int)(v:A0)(r:ByteArray):Prop:=B8 Tryz.prog [] 68 [.agg (B6 p),.v (.int .i64 prog),.agg (A5 v)] (e68 r)
def e69(r:Bool):AV:=.v (.bool r)
def b8o(p:A6)(r:Bool):Prop:=B8 Tryz.prog [] 69 [.agg (B6 p)] (e69 r)
def e70(r:Bool):AV:=.v (.bool r)
def c2w(p:A6)(r:Bool):Prop:=B8 Tryz.prog [] 70 [.agg (B6 p)] (e70 r)
def e71(r:Bool):AV:=.v (.bool r)
def b7h(p:A6)(r:Bool):Prop:=B8 Tryz.prog [] 71 [.agg (B6 p)] (e71 r)
def e72(r:Bool):AV:=.v (.bool r)
def b9o(p:A6)(r:Bool):Prop:=B8 Tryz.prog [] 72 [.agg (B6 p)] (e72 r)
def e73(r:Bool):AV:=.v (.bool r)
def b80(p:A6)(r:Bool):Prop:=B8 Tryz.prog [] 73 [.agg (B6 p)] (e73 r)
def e74(r:Bool):AV:=.v (.bool r)
def b3l(p:A6)(r:Bool):Prop:=B8 Tryz.prog [] 74 [.agg (B6 p)] (e74 r)
def e75(r:Bool):AV:=.v (.bool r)
def b9g(p:A6)(r:Bool):Prop:=B8 Tryz.prog [] 75 [.agg (B6 p)] (e75 r)
def e76(r:A3):AV:=.agg (D3 r)
def a6x(c:A3)(n:Int)(r:A3):Prop:=B8 Tryz.prog [] 76 [.agg (D3 c),.v (.int .i64 n)] (e76 r)
def e77(r:(Int × A3 × Int)):AV:=.tuple [.v (.int .u64 r.1),.agg (D3 r.2.1),.v (.int .i64 r.2.2)]
def b8s(c:A3)(r:(Int × A3 × Int)):Prop:=B8 Tryz.prog [] 77 [.agg (D3 c)] (e77 r)
def e78(r:(ByteArray × A3 × Int)):AV:=.tuple [.v (.string r.1),.agg (D3 r.2.1),.v (.int .i64 r.2.2)]
def c2n(c:A3)(n:Int)(r:(ByteArray × A3 × Int)):Prop:=B8 Tryz.prog [] 78 [.agg (D3 c),.v (.int .i64 n)] (e78 r)
def e79(r:Bool):AV:=.v (.bool r)
def b9l(s:ByteArray)(r:Bool):Prop:=B8 Tryz.prog [] 79 [.v (.string s)] (e79 r)
def e80(r:(Int × A3 × Int)):AV:=.tuple [.v (.int .u64 r.1),.agg (D3 r.2.1),.v (.int .i64 r.2.2)]
def b6s(c:A3)(r:(Int × A3 × Int)):Prop:=B8 Tryz.prog [] 80 [.agg (D3 c)] (e80 r)
def e81(r:Int):AV:=.v (.int .i64 r)
def c5g(u:Int)(r:Int):Prop:=B8 Tryz.prog [] 81 [.v (.int .u64 u)] (e81 r)
def e82(r:Bool):AV:=.v (.bool r)
def b8z(kind:Int)(r:Bool):Prop:=B8 Tryz.prog [] 82 [.v (.int .i64 kind)] (e82 r)
def e83(r:Bool):AV:=.v (.bool r)
def b7u(v:A0)(r:Bool):Prop:=B8 Tryz.prog [] 83 [.agg (A5 v)] (e83 r)
def e84(r:Bool):AV:=.v (.bool r)
def b60(kind:Int)(bits:Int)(r:Bool):Prop:=B8 Tryz.prog [] 84 [.v (.int .i64 kind),.v (.int .u64 bits)] (e84 r)
def e85(r:Bool):AV:=.v (.bool r)
def a1b(s:(List b5j))(f:GFn)(r:Bool):Prop:=B8 Tryz.prog [] 85 [.sl (List.map a3j s) .no,.clo (.func f.fn) f.fi f.cap] (e85 r)
def e86(r:Bool):AV:=.v (.bool r)
def c04(it:b5j)(c1_:Int)(r:Bool):Prop:=B8 Tryz.prog [] 86 [.agg (a3j it),.elt (b73 c1_) 0] (e86 r)
def e89(r:Bool):AV:=.v (.bool r)
def b6r(s:ByteArray)(r:Bool):Prop:=B8 Tryz.prog [] 89 [.v (.string s)] (e89 r)
def e92(r:Int):AV:=.v (.int .i64 r)
def b7j(bits:Int)(r:Int):Prop:=B8 Tryz.prog [] 92 [.v (.int .u64 bits)] (e92 r)
def e95(r:Bool):AV:=.v (.bool r)
def b92(v:A0)(r:Bool):Prop:=B8 Tryz.prog [] 95 [.agg (A5 v)] (e95 r)
def e96(r:Bool):AV:=.v (.bool r)
def a9f(kind:Int)(r:Bool):Prop:=B8 Tryz.prog [] 96 [.v (.int .i64 kind)] (e96 r)
def e97(r:Int):AV:=.v (.int .i64 r)
def b4t(bits:Int)(r:Int):Prop:=B8 Tryz.prog [] 97 [.v (.int .u64 bits)] (e97 r)
def e98(r:Int):AV:=.v (.int .i64 r)
def a1r(a:A0)(b:A0)(r:Int):Prop:=B8 Tryz.prog [] 98 [.agg (A5 a),.agg (A5 b)] (e98 r)
def e99(r:Int):AV:=.v (.int .i64 r)
def a27(s:(List B9))(f:GFn)(r:Int):Prop:=B8 Tryz.prog [] 99 [.sl (List.map E3 s) .no,.clo (.func f.fn) f.fi f.cap] (e99 r)
def h53(r:Bool):AV:=.v (.bool r)
def d0w(g:B9)(c1_:ByteArray)(r:Bool):Prop:=B8 Tryz.prog [] 100 [.agg (E3 g),.elt (e5t c1_) 0] (h53 r)
def g8b(r:Int):AV:=.v (.int .i64 r)
def P8(x:C7)(g:B9)(v:A0)(level:Int)(r:Int):Prop:=B8 Tryz.prog [] 101 [.agg (K6 x),.agg (E3 g),.agg (A5 v),.v (.int .i64 level)] (g8b r)
def h0e(r:Int):AV:=.v (.int .i64 r)
def b2t(v:A0)(r:Int):Prop:=B8 Tryz.prog [] 102 [.agg (A5 v)] (h0e r)
def g8g(r:E0):AV:=.tuple []
theorem f6t(r:E0):plain (g8g r)=true:=rfl
def a0a(w:E0)(o_:GOp)(v:A0)(r:E0):Prop:=b5x Tryz.prog [] 103 [.ptr 0 0,.agg (V6 o_),.agg (A5 v)] (N6 w) (a30 w) (g8g r) (N6 r) (a30 r)
def g8o(r:E0):AV:=.tuple []
theorem f6a(r:E0):plain (g8o r)=true:=rfl
def Y0(w:E0)(s:ByteArray)(r:E0):Prop:=b5x Tryz.prog [] 104 [.ptr 0 0,.v (.string s)] (N6 w) (a30 w) (g8o r) (N6 r) (a30 r)
def h5e(r:(List H9)):AV:=.sl (List.map J0 r) .no
def b0d(s:(List H9))(r:(List H9)):Prop:=B8 Tryz.prog [] 105 [.sl (List.map J0 s) .no] (h5e r)
def b5b(s:(List H9)):Prop:=f6g Tryz.prog J0 4 105 s
def g8v(r:(List (Int × A0))):AV:=.sl (List.map B4 r) .no
def b3p(l:(List (Int × A0)))(r:(List (Int × A0))):Prop:=B8 Tryz.prog [] 106 [.sl (List.map B4 l) .no] (g8v r)
def h47(r:(GOp × Bool)):AV:=.tuple [.agg (V6 r.1),.v (.bool r.2)]
def c2s(g:B9)(num:Int)(r:(GOp × Bool)):Prop:=B8 Tryz.prog [] 107 [.agg (E3 g),.v (.int .i64 num)] (h47 r)
def g8r(r:A0):AV:=.agg (A5 r)
def b49(p:A6)(o_:GOp)(v:A0)(r:A0):Prop:=B8 Tryz.prog [] 108 [.agg (B6 p),.agg (V6 o_),.agg (A5 v)] (g8r r)
def h33(r:Bool):AV:=.v (.bool r)
def c6l(v:A0)(r:Bool):Prop:=B8 Tryz.prog [] 109 [.agg (A5 v)] (h33 r)
def Z5(x1:GFn):Prop:=B8 Tryz.prog [] 110 [.sl [] .no,.clo (.func x1.fn) x1.fi x1.cap] (.tuple [])
def h4y(r:Int):AV:=.v (.int .i64 r)
def S4(x:Int)(y:Int)(r:Int):Prop:=B8 Tryz.prog [] 112 [.v (.int .i64 x),.v (.int .i64 y)] (h4y r)
def g8n(r:(B0 × Int)):AV:=.v (.int .i64 r.2)
theorem f8h(r:(B0 × Int)):plain (g8n r)=true:=rfl
def a1z(r_:B0)(n:Int)(r:(B0 × Int)):Prop:=b5x Tryz.prog [] 113 [.ptr 0 0,.v (.int .i64 n)] (C8 r_) (J8 r_) (g8n r) (C8 r.1) (J8 r.1)
def g8f(r:(B0 × (A0 × Int))):AV:=.tuple [.agg (A5 r.2.1),.v (.int .i64 r.2.2)]
theorem f7i(r:(B0 × (A0 × Int))):plain (g8f r)=true:=(c8h (A7 (A9 r.2.1) (A7 rfl rfl)))
def H1(r_:B0)(o_:GOp)(r:(B0 × (A0 × Int))):Prop:=b5x Tryz.prog [] 114 [.ptr 0 0,.agg (V6 o_)] (C8 r_) (J8 r_) (g8f r) (C8 r.1) (J8 r.1)
def g56(r:(B0 × (A0 × Int))):AV:=.tuple [.agg (A5 r.2.1),.v (.int .i64 r.2.2)]
theorem f7q(r:(B0 × (A0 × Int))):plain (g56 r)=true:=(c8h (A7 (A9 r.2.1) (A7 rfl rfl)))
def a0x(r_:B0)(o_:GOp)(r:(B0 × (A0 × Int))):Prop:=b5x Tryz.prog [] 115 [.ptr 0 0,.agg (V6 o_)] (C8 r_) (J8 r_) (g56 r) (C8 r.1) (J8 r.1)
def g5y(r:(B0 × (A0 × Int))):AV:=.tuple [.agg (A5 r.2.1),.v (.int .i64 r.2.2)]
theorem f8e(r:(B0 × (A0 × Int))):plain (g5y r)=true:=(c8h (A7 (A9 r.2.1) (A7 rfl rfl)))
def Z8(r_:B0)(o_:GOp)(r:(B0 × (A0 × Int))):Prop:=b5x Tryz.prog [] 116 [.ptr 0 0,.agg (V6 o_)] (C8 r_) (J8 r_) (g5y r) (C8 r.1) (J8 r.1)
def g6t(r:(B0 × (A0 × Bool × Int))):AV:=.tuple [.agg (A5 r.2.1),.v (.bool r.2.2.1),.v (.int .i64 r.2.2.2)]
theorem f6z(r:(B0 × (A0 × Bool × Int))):plain (g6t r)=true:=(c8h (A7 (A9 r.2.1) (A7 rfl (A7 rfl rfl))))
def Z9(r_:B0)(g:B9)(v:A0)(o_:GOp)(r:(B0 × (A0 × Bool × Int))):Prop:=b5x Tryz.prog [] 117 [.ptr 0 0,.agg (E3 g),.agg (A5 v),.agg (V6 o_)] (C8 r_) (J8 r_) (g6t r) (C8 r.1) (J8 r.1)
def h4r(r:Bool):AV:=.v (.bool r)
def b4e(c:A3)(r:Bool):Prop:=B8 Tryz.prog [] 118 [.agg (D3 c)] (h4r r)
def h45(r:A0):AV:=.agg (A5 r)
def b0u(p:A6)(o_:GOp)(v:A0)(r:A0):Prop:=B8 Tryz.prog [] 119 [.agg (B6 p),.agg (V6 o_),.agg (A5 v)] (h45 r)
def g53(r:(List (A0 × A0))):AV:=.sl (List.map A8 r) .no
def b7c(l:(List (A0 × A0)))(r:(List (A0 × A0))):Prop:=B8 Tryz.prog [] 120 [.sl (List.map A8 l) .no] (g53 r)
def h5u(r:Bool):AV:=.v (.bool r)
def b84(v:A0)(r:Bool):Prop:=B8 Tryz.prog [] 121 [.agg (A5 v)] (h5u r)
def h1l(r:Bool):AV:=.v (.bool r)
def b16(s:ByteArray)(r:Bool):Prop:=B8 Tryz.prog [] 130 [.v (.string s)] (h1l r)
def h5x(r:Bool):AV:=.v (.bool r)
def b4x(s:ByteArray)(r:Bool):Prop:=B8 Tryz.prog [] 131 [.v (.string s)] (h5x r)
def h25(r:Bool):AV:=.v (.bool r)
def b5d(l:(List c0v))(n:Int)(r:Bool):Prop:=B8 Tryz.prog [] 132 [.sl (List.map b2u l) .no,.v (.int .i64 n)] (h25 r)
def h1j(r:Int):AV:=.v (.int .i64 r)
def c1l(l:(List b4b))(target:Int)(r:Int):Prop:=B8 Tryz.prog [] 133 [.sl (List.map a8k l) .no,.v (.int .i64 target)] (h1j r)
def h3k(r:Bool):AV:=.v (.bool r)
def b8i(g:B9)(r:Bool):Prop:=B8 Tryz.prog [] 134 [.agg (E3 g)] (h3k r)
def h0g(r:Bool):AV:=.v (.bool r)
def b3r(p:A6)(o_:GOp)(r:Bool):Prop:=B8 Tryz.prog [] 135 [.agg (B6 p),.agg (V6 o_)] (h0g r)
def h1f(r:(Int × Int)):AV:=.tuple [.v (.int .u64 r.1),.v (.int .i64 r.2)]
def b00(s:ByteArray)(r:(Int × Int)):Prop:=B8 Tryz.prog [] 136 [.v (.string s)] (h1f r)
def h5b(r:ByteArray):AV:=.v (.string r)
def b6z(c:A3)(n:Int)(r:ByteArray):Prop:=B8 Tryz.prog [] 137 [.agg (D3 c),.v (.int .i64 n)] (h5b r)
def h4g(r:(List Int)):AV:=.sl (List.map b01 r) .no
def c7i(c:A3)(n:Int)(r:(List Int)):Prop:=B8 Tryz.prog [] 138 [.agg (D3 c),.v (.int .i64 n)] (h4g r)
def h0y(r:Int):AV:=.v (.int .i64 r)
def e7m(s:ByteArray)(r:Int):Prop:=B8 Tryz.prog [] 139 [.v (.string s)] (h0y r)
def h2g(r:(Int × Int × Int)):AV:=.tuple [.v (.int .u64 r.1),.v (.int .i64 r.2.1),.v (.int .i64 r.2.2)]
def c2i(s:ByteArray)(r:(Int × Int × Int)):Prop:=B8 Tryz.prog [] 140 [.v (.string s)] (h2g r)
def h5k(r:Bool):AV:=.v (.bool r)
def b9n(kind:Int)(r:Bool):Prop:=B8 Tryz.prog [] 141 [.v (.int .i64 kind)] (h5k r)
def g99(r:Int):AV:=.v (.int .i64 r)
def a2w(s:(List b5j))(f:GFn)(r:Int):Prop:=B8 Tryz.prog [] 142 [.sl (List.map a3j s) .no,.clo (.func f.fn) f.fi f.cap] (g99 r)
def h07(r:Int):AV:=.v (.int .i64 r)
def d8i(s:ByteArray)(r:Int):Prop:=B8 Tryz.prog [] 143 [.v (.string s)] (h07 r)
def h30(r:Int):AV:=.v (.int .i64 r)
def S9(a:Int)(b:Int)(r:Int):Prop:=B8 Tryz.prog [] 146 [.v (.int .i64 a),.v (.int .i64 b)] (h30 r)
def g9c(r:Int):AV:=.v (.int .i64 r)
def c9q(a:(List A0))(b:(List A0))(r:Int):Prop:=B8 Tryz.prog [] 147 [.sl (List.map C0 a) .no,.sl (List.map C0 b) .no] (g9c r)
def g83(r:Int):AV:=.v (.int .i64 r)
def d0p(a:(List (A0 × A0)))(b:(List (A0 × A0)))(r:Int):Prop:=B8 Tryz.prog [] 148 [.sl (List.map A8 a) .no,.sl (List.map A8 b) .no] (g83 r)
def h2w(r:Int):AV:=.v (.int .i64 r)
def c9r(a:(List (Int × A0)))(b:(List (Int × A0)))(r:Int):Prop:=B8 Tryz.prog [] 149 [.sl (List.map B4 a) .no,.sl (List.map B4 b) .no] (h2w r)
def h08(r:Int):AV:=.v (.int .i64 r)
def d25(a:(List H9))(b:(List H9))(r:Int):Prop:=B8 Tryz.prog [] 150 [.sl (List.map J0 a) .no,.sl (List.map J0 b) .no] (h08 r)
def h5a(r:Int):AV:=.v (.int .i64 r)
def d1x(a:A0)(b:A0)(r:Int):Prop:=B8 Tryz.prog [] 151 [.agg (A5 a),.agg (A5 b)] (h5a r)
def h58(r:Bool):AV:=.v (.bool r)
def b2b(v:A0)(r:Bool):Prop:=B8 Tryz.prog [] 152 [.agg (A5 v)] (h58 r)
def h1v(r:Int):AV:=.v (.int .i64 r)
def a7k(x:C7)(g:B9)(l:(List (Int × A0)))(i:Int)(level:Int)(r:Int):Prop:=B8 Tryz.prog [] 153 [.agg (K6 x),.agg (E3 g),.sl (List.map B4 l) .no,.v (.int .i64 i),.v (.int .i64 level)] (h1v r)
def h5o(r:Bool):AV:=.v (.bool r)
def N7(s:(List (Int × A0)))(f:GFn)(r:Bool):Prop:=B8 Tryz.prog [] 154 [.sl (List.map B4 s) .no,.clo (.func f.fn) f.fi f.cap] (h5o r)
def h5l(r:Bool):AV:=.v (.bool r)
def a7n(y:(Int × A0))(c1_:GOp)(r:Bool):Prop:=B8 Tryz.prog [] 155 [.agg (X4 y),.elt (V6 c1_) 0] (h5l r)
def h4o(r:Int):AV:=.v (.int .i64 r)
def a8v(x:C7)(g:B9)(f:H9)(r:Int):Prop:=B8 Tryz.prog [] 156 [.agg (K6 x),.agg (E3 g),.agg (J0 f)] (h4o r)
def g8q(r:(List A0)):AV:=.sl (List.map C0 r) .no
def c14(v:A0)(r:(List A0)):Prop:=B8 Tryz.prog [] 157 [.agg (A5 v)] (g8q r)
def h57(r:(List (Int × A0))):AV:=.sl (List.map B4 r) .no
def a67(s:(List (Int × A0)))(r:(List (Int × A0))):Prop:=B8 Tryz.prog [] 158 [.sl (List.map B4 s) .no] (h57 r)
def a3l(s:(List (Int × A0))):Prop:=f6g Tryz.prog B4 8 158 s
def T0(n0:Nat)(x:(List (Int × A0)))(cmp:GFn)(r:(List (Int × A0))):Prop:=c2z Tryz.prog B4 8 159 n0 [.clo (.func cmp.fn) cmp.fi cmp.cap] x r
def X9(x1:GFn):Prop:=B8 Tryz.prog [] 159 [.sl [] .no,.clo (.func x1.fn) x1.fi x1.cap] (.tuple [])
def h35(r:Int):AV:=.v (.int .i64 r)
def c3n(a:(Int × A0))(b:(Int × A0))(r:Int):Prop:=B8 Tryz.prog [] 160 [.agg (X4 a),.agg (X4 b)] (h35 r)
def h37(r:Bool):AV:=.v (.bool r)
def d59(o_:GOp)(c1_:Int)(r:Bool):Prop:=B8 Tryz.prog [] 161 [.agg (V6 o_),.elt (a8r c1_) 0] (h37 r)
def h5c(r:(GOp × Bool)):AV:=.tuple [.agg (V6 r.1),.v (.bool r.2)]
def c1a(x:b5f)(g:B9)(r:(GOp × Bool)):Prop:=B8 Tryz.prog [] 162 [.agg (b4v x),.agg (E3 g)] (h5c r)
def h5n(r:A0):AV:=.agg (A5 r)
def a65(p:A6)(o_:GOp)(v:A0)(r:A0):Prop:=B8 Tryz.prog [] 163 [.agg (B6 p),.agg (V6 o_),.agg (A5 v)] (h5n r)
def g8i(r:(List (A0 × A0))):AV:=.sl (List.map A8 r) .no
def b7g(l:(List (A0 × A0)))(r:(List (A0 × A0))):Prop:=B8 Tryz.prog [] 164 [.sl (List.map A8 l) .no] (g8i r)
def h4d(r:Bool):AV:=.v (.bool r)
def a7d(v:A0)(r:Bool):Prop:=B8 Tryz.prog [] 165 [.agg (A5 v)] (h4d r)
def h4q(r:Bool):AV:=.v (.bool r)
def b6i(x:Int)(r:Bool):Prop:=B8 Tryz.prog [] 167 [.v (.int .i64 x)] (h4q r)
def h4i(r:(A3 × Int)):AV:=.tuple [.agg (D3 r.1),.v (.int .i64 r.2)]
def c7d(c:A3)(n:Int)(r:(A3 × Int)):Prop:=B8 Tryz.prog [] 168 [.agg (D3 c),.v (.int .i64 n)] (h4i r)
def g8s(r:(B0 × (Int × Int))):AV:=.tuple [.v (.int .i64 r.2.1),.v (.int .i64 r.2.2)]
theorem f7y(r:(B0 × (Int × Int))):plain (g8s r)=true:=(c8h (A7 rfl (A7 rfl rfl)))
def a5b(r_:B0)(r:(B0 × (Int × Int))):Prop:=b5x Tryz.prog [] 169 [.ptr 0 0] (C8 r_) (J8 r_) (g8s r) (C8 r.1) (J8 r.1)
def h36(r:Int):AV:=.v (.int .i64 r)
def b0b(a:A0)(b:A0)(r:Int):Prop:=B8 Tryz.prog [] 170 [.agg (A5 a),.agg (A5 b)] (h36 r)
def g90(r:Bool):AV:=.v (.bool r)
def b8y(s:ByteArray)(r:Bool):Prop:=B8 Tryz.prog [] 173 [.v (.string s)] (g90 r)
def g91(r:(ByteArray × ByteArray)):AV:=.tuple [.v (.string r.1),.v (.string r.2)]
def c12(full:ByteArray)(r:(ByteArray × ByteArray)):Prop:=B8 Tryz.prog [] 174 [.v (.string full)] (g91 r)
def h5f(r:Bool):AV:=.v (.bool r)
def b4g(s:ByteArray)(r:Bool):Prop:=B8 Tryz.prog [] 175 [.v (.string s)] (h5f r)
def g9g(r:Bool):AV:=.v (.bool r)
def b0o(s:ByteArray)(r:Bool):Prop:=B8 Tryz.prog [] 176 [.v (.string s)] (g9g r)
def g5r(r:Int):AV:=.v (.int .i64 r)
def b98(name:ByteArray)(r:Int):Prop:=B8 Tryz.prog [] 177 [.v (.string name)] (g5r r)
def g3a(r:Bool):AV:=.v (.bool r)
def c5o(name:ByteArray)(target:Int)(r:Bool):Prop:=B8 Tryz.prog [] 178 [.v (.string name),.v (.int .i64 target)] (g3a r)
def h59(r:Bool):AV:=.v (.bool r)
def c1v(n:b4b)(r:Bool):Prop:=B8 Tryz.prog [] 179 [.agg (a8k n)] (h59 r)
def h5r(r:Bool):AV:=.v (.bool r)
def b8j(p:A6)(o_:GOp)(r:Bool):Prop:=B8 Tryz.prog [] 180 [.agg (B6 p),.agg (V6 o_)] (h5r r)
def h4k(r:Bool):AV:=.v (.bool r)
def d0s(s:ByteArray)(at_:Int)(c:Int)(r:Bool):Prop:=B8 Tryz.prog [] 181 [.v (.string s),.v (.int .i64 at_),.v (.int .i32 c)] (h4k r)
def h56(r:Int):AV:=.v (.int .i64 r)
def c6j(s:ByteArray)(i:Int)(r:Int):Prop:=B8 Tryz.prog [] 182 [.v (.string s),.v (.int .i64 i)] (h56 r)
def h52(r:Int):AV:=.v (.int .i64 r)
def d04(a:H9)(b:H9)(r:Int):Prop:=B8 Tryz.prog [] 183 [.agg (J0 a),.agg (J0 b)] (h52 r)
def h4b(r:Int):AV:=.v (.int .u64 r)
def b2f(v:A0)(r:Int):Prop:=B8 Tryz.prog [] 184 [.agg (A5 v)] (h4b r)
def h49(r:Bool):AV:=.v (.bool r)
def b09(y:(Int × A0))(c1_:GOp)(r:Bool):Prop:=B8 Tryz.prog [] 185 [.agg (X4 y),.elt (V6 c1_) 0] (h49 r)
def h27(r:Int):AV:=.v (.int .i64 r)
def a52(x:C7)(o_:GOp)(v:A0)(level:Int)(r:Int):Prop:=B8 Tryz.prog [] 186 [.agg (K6 x),.agg (V6 o_),.agg (A5 v),.v (.int .i64 level)] (h27 r)
def h06(r:Int):AV:=.v (.int .i64 r)
def a20(s:(List (Int × A0)))(f:GFn)(r:Int):Prop:=B8 Tryz.prog [] 187 [.sl (List.map B4 s) .no,.clo (.func f.fn) f.fi f.cap] (h06 r)
def a16(s:(List A0)):Prop:=g29 Tryz.prog C0 7 188 s
def a0p(n0:Nat)(data:(List (Int × A0)))(n:Int)(cmp:GFn)(r:(List (Int × A0))):Prop:=c2z Tryz.prog B4 8 189 n0 [.v (.int .i64 n),.clo (.func cmp.fn) cmp.fi cmp.cap] data r
def h3r(r:Int):AV:=.v (.int .i64 r)
def a74(s:(List GOp))(f:GFn)(r:Int):Prop:=B8 Tryz.prog [] 190 [.sl (List.map V6 s) .no,.clo (.func f.fn) f.fi f.cap] (h3r r)
def h4j(r:(List (A0 × A0))):AV:=.sl (List.map A8 r) .no
def a70(s:(List (A0 × A0)))(r:(List (A0 × A0))):Prop:=B8 Tryz.prog [] 191 [.sl (List.map A8 s) .no] (h4j r)
def a21(s:(List (A0 × A0))):Prop:=f6g Tryz.prog A8 14 191 s
def T4(n0:Nat)(x:(List (A0 × A0)))(cmp:GFn)(r:(List (A0 × A0))):Prop:=c2z Tryz.prog A8 14 192 n0 [.clo (.func cmp.fn) cmp.fi cmp.cap] x r
def X7(x1:GFn):Prop:=B8 Tryz.prog [] 192 [.sl [] .no,.clo (.func x1.fn) x1.fi x1.cap] (.tuple [])
def h43(r:Int):AV:=.v (.int .i64 r)
def d4y(a:(A0 × A0))(b:(A0 × A0))(r:Int):Prop:=B8 Tryz.prog [] 193 [.agg (V3 a),.agg (V3 b)] (h43 r)
def h5d(r:Bool):AV:=.v (.bool r)
def b26(a:A0)(b:A0)(r:Bool):Prop:=B8 Tryz.prog [] 194 [.agg (A5 a),.agg (A5 b)] (h5d r)
def h5t(r:c0g):AV:=c93 r
def a9k(v:A0)(r:c0g):Prop:=B8 Tryz.prog [] 197 [.agg (A5 v)] (h5t r)
def h3v(r:Int):AV:=.v (.int .i64 r)
def c5n(a:A0)(b:A0)(r:Int):Prop:=B8 Tryz.prog [] 198 [.agg (A5 a),.agg (A5 b)] (h3v r)
def h21(r:Int):AV:=.v (.int .i64 r)
def K2(s1_:(List A0))(s2_:(List A0))(cmp:GFn)(r:Int):Prop:=B8 Tryz.prog [] 199 [.sl (List.map C0 s1_) .no,.sl (List.map C0 s2_) .no,.clo (.func cmp.fn) cmp.fi cmp.cap] (h21 r)
def h2t(r:Int):AV:=.v (.int .i64 r)
def K5(s1_:(List (A0 × A0)))(s2_:(List (A0 × A0)))(cmp:GFn)(r:Int):Prop:=B8 Tryz.prog [] 200 [.sl (List.map A8 s1_) .no,.sl (List.map A8 s2_) .no,.clo (.func cmp.fn) cmp.fi cmp.cap] (h2t r)
def h4u(r:Int):AV:=.v (.int .i64 r)
def d5b(a:(A0 × A0))(b:(A0 × A0))(r:Int):Prop:=B8 Tryz.prog [] 201 [.agg (V3 a),.agg (V3 b)] (h4u r)
def g9d(r:Int):AV:=.v (.int .i64 r)
def b19(vals:(List Int))(r:Int):Prop:=B8 Tryz.prog [] 202 [.sl (List.map a8r vals) .no] (g9d r)
def h0t(r:Int):AV:=.v (.int .i64 r)
def V4(s1_:(List (Int × A0)))(s2_:(List (Int × A0)))(cmp:GFn)(r:Int):Prop:=B8 Tryz.prog [] 203 [.sl (List.map B4 s1_) .no,.sl (List.map B4 s2_) .no,.clo (.func cmp.fn) cmp.fi cmp.cap] (h0t r)
def h4p(r:Int):AV:=.v (.int .i64 r)
def d5h(a:(Int × A0))(b:(Int × A0))(r:Int):Prop:=B8 Tryz.prog [] 204 [.agg (X4 a),.agg (X4 b)] (h4p r)
def g9n(r:Int):AV:=.v (.int .i64 r)
def X8(s1_:(List H9))(s2_:(List H9))(cmp:GFn)(r:Int):Prop:=B8 Tryz.prog [] 205 [.sl (List.map J0 s1_) .no,.sl (List.map J0 s2_) .no,.clo (.func cmp.fn) cmp.fi cmp.cap] (g9n r)
def h5g(r:Int):AV:=.v (.int .i64 r)
def c67(a:H9)(b:H9)(r:Int):Prop:=B8 Tryz.prog [] 206 [.agg (J0 a),.agg (J0 b)] (h5g r)
def h3x(r:Bool):AV:=.v (.bool r)
def b7p(b:Int)(r:Bool):Prop:=B8 Tryz.prog [] 208 [.v (.int .u8 b)] (h3x r)
def h5i(r:Bool):AV:=.v (.bool r)
def b1m(b:Int)(r:Bool):Prop:=B8 Tryz.prog [] 209 [.v (.int .u8 b)] (h5i r)
def h54(r:Bool):AV:=.v (.bool r)
def a86(s:ByteArray)(prefix_:ByteArray)(r:Bool):Prop:=B8 Tryz.prog [] 210 [.v (.string s),.v (.string prefix_)] (h54 r)
def g9s(r:Bool):AV:=.v (.bool r)
def a3t(s:ByteArray)(i:Int)(n:Int)(r:Bool):Prop:=B8 Tryz.prog [] 211 [.v (.string s),.v (.int .i64 i),.v (.int .i64 n)] (g9s r)
def h3z(r:Bool):AV:=.v (.bool r)
def a1j(s:ByteArray)(i:Int)(lo:Int)(hi:Int)(r:Bool):Prop:=B8 Tryz.prog [] 212 [.v (.string s),.v (.int .i64 i),.v (.int .u8 lo),.v (.int .u8 hi)] (h3z r)
def h5w(r:Bool):AV:=.v (.bool r)
def c7f(kind:Int)(r:Bool):Prop:=B8 Tryz.prog [] 213 [.v (.int .i64 kind)] (h5w r)
def h3y(r:Int):AV:=.v (.int .i64 r)
def a0j(x:C7)(o_:GOp)(v:A0)(level:Int)(r:Int):Prop:=B8 Tryz.prog [] 214 [.agg (K6 x),.agg (V6 o_),.agg (A5 v),.v (.int .i64 level)] (h3y r)
def h19(r:Int):AV:=.v (.int .i64 r)
def a2r(x:C7)(o_:GOp)(l:(List (A0 × A0)))(level:Int)(r:Int):Prop:=B8 Tryz.prog [] 215 [.agg (K6 x),.agg (V6 o_),.sl (List.map A8 l) .no,.v (.int .i64 level)] (h19 r)
def L3(n0:Nat)(data:(List (Int × A0)))(a:Int)(b:Int)(cmp:GFn)(r:(List (Int × A0))):Prop:=c2z Tryz.prog B4 8 216 n0 [.v (.int .i64 a),.v (.int .i64 b),.clo (.func cmp.fn) cmp.fi cmp.cap] data r
def H2(n0:Nat)(data:(List (Int × A0)))(a:Int)(m:Int)(b:Int)(cmp:GFn)(r:(List (Int × A0))):Prop:=c2z Tryz.prog B4 8 217 n0 [.v (.int .i64 a),.v (.int .i64 m),.v (.int .i64 b),.clo (.func cmp.fn) cmp.fi cmp.cap] data r
def a0q(n0:Nat)(data:(List (A0 × A0)))(n:Int)(cmp:GFn)(r:(List (A0 × A0))):Prop:=c2z Tryz.prog A8 14 218 n0 [.v (.int .i64 n),.clo (.func cmp.fn) cmp.fi cmp.cap] data r
def h50(r:Int):AV:=.v (.int .i64 r)
def a2j(x:ByteArray)(y:ByteArray)(r:Int):Prop:=B8 Tryz.prog [] 220 [.v (.string x),.v (.string y)] (h50 r)
def h4w(r:Int):AV:=.v (.int .i64 r)
def a0k(x:Int)(y:Int)(r:Int):Prop:=B8 Tryz.prog [] 221 [.v (.int .u64 x),.v (.int .u64 y)] (h4w r)
def h5z(r:Int):AV:=.v (.int .u64 r)
def b43(bits:Int)(r:Int):Prop:=B8 Tryz.prog [] 222 [.v (.int .u64 bits)] (h5z r)
def h5v(r:Bool):AV:=.v (.bool r)
def a1c(s:ByteArray)(prefix_:ByteArray)(r:Bool):Prop:=B8 Tryz.prog [] 223 [.v (.string s),.v (.string prefix_)] (h5v r)
def h5q(r:Int):AV:=.v (.int .i64 r)
def a3r(x:C7)(kind:Int)(enum:Int)(v:A0)(r:Int):Prop:=B8 Tryz.prog [] 224 [.agg (K6 x),.v (.int .i64 kind),.v (.int .i64 enum),.agg (A5 v)] (h5q r)
def h4l(r:Bool):AV:=.v (.bool r)
def W2(s:(List (A0 × A0)))(f:GFn)(r:Bool):Prop:=B8 Tryz.prog [] 225 [.sl (List.map A8 s) .no,.clo (.func f.fn) f.fi f.cap] (h4l r)
def h4n(r:Bool):AV:=.v (.bool r)
def a7s(q:(A0 × A0))(c1_:(A0 × A0))(r:Bool):Prop:=B8 Tryz.prog [] 226 [.agg (V3 q),.elt (V3 c1_) 0] (h4n r)
def a0n(n0:Nat)(data:(List (Int × A0)))(a:Int)(m:Int)(b:Int)(cmp:GFn)(r:(List (Int × A0))):Prop:=c2z Tryz.prog B4 8 227 n0 [.v (.int .i64 a),.v (.int .i64 m),.v (.int .i64 b),.clo (.func cmp.fn) cmp.fi cmp.cap] data r
def K9(n0:Nat)(data:(List (A0 × A0)))(a:Int)(b:Int)(cmp:GFn)(r:(List (A0 × A0))):Prop:=c2z Tryz.prog A8 14 228 n0 [.v (.int .i64 a),.v (.int .i64 b),.clo (.func cmp.fn) cmp.fi cmp.cap] data r
def H5(n0:Nat)(data:(List (A0 × A0)))(a:Int)(m:Int)(b:Int)(cmp:GFn)(r:(List (A0 × A0))):Prop:=c2z Tryz.prog A8 14 229 n0 [.v (.int .i64 a),.v (.int .i64 m),.v (.int .i64 b),.clo (.func cmp.fn) cmp.fi cmp.cap] data r
def h4f(r:Bool):AV:=.v (.bool r)
def b0v(x:ByteArray)(r:Bool):Prop:=B8 Tryz.prog [] 231 [.v (.string x)] (h4f r)
def h42(r:Bool):AV:=.v (.bool r)
def b0w(x:Int)(r:Bool):Prop:=B8 Tryz.prog [] 232 [.v (.int .u64 x)] (h42 r)
def h2e(r:Int):AV:=.v (.int .i64 r)
def a3k(s:(List (A0 × A0)))(f:GFn)(r:Int):Prop:=B8 Tryz.prog [] 233 [.sl (List.map A8 s) .no,.clo (.func f.fn) f.fi f.cap] (h2e r)
def J9(n0:Nat)(data:(List (Int × A0)))(a:Int)(b:Int)(n:Int)(cmp:GFn)(r:(List (Int × A0))):Prop:=c2z Tryz.prog B4 8 234 n0 [.v (.int .i64 a),.v (.int .i64 b),.v (.int .i64 n),.clo (.func cmp.fn) cmp.fi cmp.cap] data r
def a0r(n0:Nat)(data:(List (A0 × A0)))(a:Int)(m:Int)(b:Int)(cmp:GFn)(r:(List (A0 × A0))):Prop:=c2z Tryz.prog A8 14 235 n0 [.v (.int .i64 a),.v (.int .i64 m),.v (.int .i64 b),.clo (.func cmp.fn) cmp.fi cmp.cap] data r
def J5(n0:Nat)(data:(List (A0 × A0)))(a:Int)(b:Int)(n:Int)(cmp:GFn)(r:(List (A0 × A0))):Prop:=c2z Tryz.prog A8 14 236 n0 [.v (.int .i64 a),.v (.int .i64 b),.v (.int .i64 n),.clo (.func cmp.fn) cmp.fi cmp.cap] data r
theorem pl9{x0:A6}:plainL [.agg (B6 x0)]=true:=(A7 (E7 x0) rfl)
theorem h6l{x0:A6}{x1:GOp}{x2:A3}:plainL [.agg (B6 x0),.agg (V6 x1),.agg (D3 x2)]=true:=(A7 (E7 x0) (A7 (N0 x1) (A7 (C3 x2) rfl)))
theorem h4s{x0:A0}:plainL [.agg (A5 x0)]=true:=(A7 (A9 x0) rfl)
theorem h51{x0:A0}{x1:A0}:plainL [.agg (A5 x0),.agg (A5 x1)]=true:=(A7 (A9 x0) (A7 (A9 x1) rfl))
theorem g8y:plainL []=true:=rfl
theorem h40{x0:A0}:plainL [.agg (A5 x0)]=true:=(A7 (A9 x0) rfl)
theorem h4h{x0:A6}{x1:ByteArray}{x2:A0}:plainL [.agg (B6 x0),.v (.string x1),.agg (A5 x2)]=true:=(A7 (E7 x0) (A7 rfl (A7 (A9 x2) rfl)))
theorem h39{x0:A6}{x1:ByteArray}:plainL [.agg (B6 x0),.v (.string x1)]=true:=(A7 (E7 x0) (A7 rfl rfl))
theorem g81{x0:A6}{x1:ByteArray}{x2:ByteArray}{x3:U7}:plainL [.agg (B6 x0),.v (.string x1),.v (.string x2),.agg (a3x x3)]=true:=(A7 (E7 x0) (A7 rfl (A7 rfl (A7 (K3 x3) rfl))))
theorem h55:plainL []=true:=rfl
theorem h2d{x0:A6}{x1:Int}{x2:A0}:plainL [.agg (B6 x0),.v (.int .i64 x1),.agg (A5 x2)]=true:=(A7 (E7 x0) (A7 rfl (A7 (A9 x2) rfl)))
theorem g3s{x0:A0}:plainL [.agg (A5 x0)]=true:=(A7 (A9 x0) rfl)
theorem g28{x0:A0}:plainL [.agg (A5 x0)]=true:=(A7 (A9 x0) rfl)
theorem g71{x0:A0}:plainL [.agg (A5 x0)]=true:=(A7 (A9 x0) rfl)
theorem h6c{x0:A6}:plainL [.agg (B6 x0)]=true:=(A7 (E7 x0) rfl)
theorem h5y{x0:A3}:plainL [.agg (D3 x0)]=true:=(A7 (C3 x0) rfl)
theorem h6r{x0:A3}:plainL [.agg (D3 x0)]=true:=(A7 (C3 x0) rfl)
theorem h60{x0:Int}{x1:A3}:plainL [.v (.int .i64 x0),.agg (D3 x1)]=true:=(A7 rfl (A7 (C3 x1) rfl))
theorem g9h{x0:A3}:plainL [.agg (D3 x0)]=true:=(A7 (C3 x0) rfl)
theorem h6o{x0:Int}:plainL [.v (.int .u64 x0)]=true:=(A7 rfl rfl)
theorem h0b{x0:Int}{x1:A0}:plainL [.v (.int .i64 x0),.agg (A5 x1)]=true:=(A7 rfl (A7 (A9 x1) rfl))
theorem h1m{x0:A6}{x1:Int}{x2:Int}:plainL [.agg (B6 x0),.v (.int .i64 x1),.v (.int .u64 x2)]=true:=(A7 (E7 x0) (A7 rfl (A7 rfl rfl)))
theorem h44{x0:A0}:plainL [.agg (A5 x0)]=true:=(A7 (A9 x0) rfl)
theorem g92{x0:Int}:plainL [.v (.int .i64 x0)]=true:=(A7 rfl rfl)
theorem h61{x0:Int}{x1:A0}:plainL [.v (.int .i64 x0),.agg (A5 x1)]=true:=(A7 rfl (A7 (A9 x1) rfl))
theorem g61{x0:Int}:plainL [.v (.int .u64 x0)]=true:=(A7 rfl rfl)
theorem h66{x0:Int}:plainL [.v (.int .i64 x0)]=true:=(A7 rfl rfl)
theorem h68{x0:Int}:plainL [.v (.int .u64 x0)]=true:=(A7 rfl rfl)
theorem g8j{x0:A0}:plainL [.agg (A5 x0)]=true:=(A7 (A9 x0) rfl)
theorem h6h{x0:A0}{x1:A0}:plainL [.agg (A5 x0),.agg (A5 x1)]=true:=(A7 (A9 x0) (A7 (A9 x1) rfl))
theorem h4e{x0:Int}:plainL [.v (.int .u64 x0)]=true:=(A7 rfl rfl)
theorem h46{x0:A6}{x1:ByteArray}:plainL [.agg (B6 x0),.v (.string x1)]=true:=(A7 (E7 x0) (A7 rfl rfl))
theorem h6j{x0:A6}{x1:Int}{x2:A0}:plainL [.agg (B6 x0),.v (.int .i64 x1),.agg (A5 x2)]=true:=(A7 (E7 x0) (A7 rfl (A7 (A9 x2) rfl)))
theorem g8p{x0:A0}:plainL [.agg (A5 x0)]=true:=(A7 (A9 x0) rfl)
theorem g37{x0:E0}{x1:Int}{x2:A0}{r:E0}:(N6 x0).all ok1=true/\(N6 r).all ok1=true/\List.all [.ptr 0 0,.v (.int .i64 x1),.agg (A5 x2)] okA=true/\plain (e58 r)=true:=⟨a3v _,a3v _,F8 rfl (F8 (C4 rfl) (F8 (C4 (A9 x2)) rfl)),g7o r⟩
theorem h4m{x0:A6}{x1:Int}{x2:A0}:plainL [.agg (B6 x0),.v (.int .i64 x1),.agg (A5 x2)]=true:=(A7 (E7 x0) (A7 rfl (A7 (A9 x2) rfl)))
theorem h6b{x0:ByteArray}{x1:U7}:plainL [.v (.string x0),.agg (a3x x1)]=true:=(A7 rfl (A7 (K3 x1) rfl))
theorem g3h{x0:B0}{x1:Int}{r:(B0 × (A0 × Int))}:(C8 x0).all ok1=true/\(C8 r.1).all ok1=true/\List.all [.ptr 0 0,.v (.int .i64 x1)] okA=true/\plain (e61 r)=true:=⟨J2 _,J2 _,F8 rfl (F8 (C4 rfl) rfl),g7r r⟩
theorem g8w{x0:A3}:plainL [.agg (D3 x0)]=true:=(A7 (C3 x0) rfl)
theorem h7b{x0:(List H9)}:plainL [.sl (List.map J0 x0) .no]=true:=(A7 (psl (H0 x0)) rfl)
theorem h6v{x0:A6}{x1:GOp}{x2:A0}:plainL [.agg (B6 x0),.agg (V6 x1),.agg (A5 x2)]=true:=(A7 (E7 x0) (A7 (N0 x1) (A7 (A9 x2) rfl)))
theorem h67{x0:A0}:plainL [.agg (A5 x0)]=true:=(A7 (A9 x0) rfl)
theorem h6x{x0:A6}:plainL [.agg (B6 x0)]=true:=(A7 (E7 x0) rfl)
theorem h6k{x0:A6}:plainL [.agg (B6 x0)]=true:=(A7 (E7 x0) rfl)
theorem h7h{x0:A6}:plainL [.agg (B6 x0)]=true:=(A7 (E7 x0) rfl)
theorem h6d{x0:A6}:plainL [.agg (B6 x0)]=true:=(A7 (E7 x0) rfl)
theorem h6w{x0:A6}:plainL [.agg (B6 x0)]=true:=(A7 (E7 x0) rfl)
theorem h7g{x0:A6}:plainL [.agg (B6 x0)]=true:=(A7 (E7 x0) rfl)
theorem h6e{x0:A6}:plainL [.agg (B6 x0)]=true:=(A7 (E7 x0) rfl)
theorem g8e{x0:A3}{x1:Int}:plainL [.agg (D3 x0),.v (.int .i64 x1)]=true:=(A7 (C3 x0) (A7 rfl rfl))
theorem h7j{x0:A3}:plainL [.agg (D3 x0)]=true:=(A7 (C3 x0) rfl)
theorem h7d{x0:A3}{x1:Int}:plainL [.agg (D3 x0),.v (.int .i64 x1)]=true:=(A7 (C3 x0) (A7 rfl rfl))
theorem h0m{x0:ByteArray}:plainL [.v (.string x0)]=true:=(A7 rfl rfl)
theorem h6g{x0:A3}:plainL [.agg (D3 x0)]=true:=(A7 (C3 x0) rfl)
theorem h6t{x0:Int}:plainL [.v (.int .u64 x0)]=true:=(A7 rfl rfl)
theorem g8t{x0:Int}:plainL [.v (.int .i64 x0)]=true:=(A7 rfl rfl)
theorem h4z{x0:A0}:plainL [.agg (A5 x0)]=true:=(A7 (A9 x0) rfl)
theorem h7e{x0:Int}{x1:Int}:plainL [.v (.int .i64 x0),.v (.int .u64 x1)]=true:=(A7 rfl (A7 rfl rfl))
theorem h65{x0:(List b5j)}{x1:GFn}:plainL [.sl (List.map a3j x0) .no,.clo (.func x1.fn) x1.fi x1.cap]=true:=(A7 (psl (J6 x0)) (A7 (a02 x1) rfl))
theorem h31{x0:ByteArray}:plainL [.v (.string x0)]=true:=(A7 rfl rfl)
theorem h5j{x0:Int}:plainL [.v (.int .u64 x0)]=true:=(A7 rfl rfl)
theorem h4c{x0:A0}:plainL [.agg (A5 x0)]=true:=(A7 (A9 x0) rfl)
theorem g80{x0:Int}:plainL [.v (.int .i64 x0)]=true:=(A7 rfl rfl)
theorem h5h{x0:Int}:plainL [.v (.int .u64 x0)]=true:=(A7 rfl rfl)
theorem g02{x0:A0}{x1:A0}:plainL [.agg (A5 x0),.agg (A5 x1)]=true:=(A7 (A9 x0) (A7 (A9 x1) rfl))
theorem h6a{x0:(List B9)}{x1:GFn}:plainL [.sl (List.map E3 x0) .no,.clo (.func x1.fn) x1.fi x1.cap]=true:=(A7 (psl (H8 x0)) (A7 (a02 x1) rfl))
theorem g5p{x0:C7}{x1:B9}{x2:A0}{x3:Int}:plainL [.agg (K6 x0),.agg (E3 x1),.agg (A5 x2),.v (.int .i64 x3)]=true:=(A7 (G1 x0) (A7 (G3 x1) (A7 (A9 x2) (A7 rfl rfl))))
theorem g6p{x0:A0}:plainL [.agg (A5 x0)]=true:=(A7 (A9 x0) rfl)
theorem e1q{x0:E0}{x1:GOp}{x2:A0}{r:E0}:(N6 x0).all ok1=true/\(N6 r).all ok1=true/\List.all [.ptr 0 0,.agg (V6 x1),.agg (A5 x2)] okA=true/\plain (g8g r)=true:=⟨a3v _,a3v _,F8 rfl (F8 (C4 (N0 x1)) (F8 (C4 (A9 x2)) rfl)),f6t r⟩
theorem d24{x0:E0}{x1:ByteArray}{r:E0}:(N6 x0).all ok1=true/\(N6 r).all ok1=true/\List.all [.ptr 0 0,.v (.string x1)] okA=true/\plain (g8o r)=true:=⟨a3v _,a3v _,F8 rfl (F8 (C4 rfl) rfl),f6a r⟩
theorem h29{x0:(List H9)}:plainL [.sl (List.map J0 x0) .no]=true:=(A7 (psl (H0 x0)) rfl)
theorem g3g{x0:(List (Int × A0))}:plainL [.sl (List.map B4 x0) .no]=true:=(A7 (psl (E4 x0)) rfl)
theorem e91{x0:B9}{x1:Int}:plainL [.agg (E3 x0),.v (.int .i64 x1)]=true:=(A7 (G3 x0) (A7 rfl rfl))
theorem h0w{x0:A6}{x1:GOp}{x2:A0}:plainL [.agg (B6 x0),.agg (V6 x1),.agg (A5 x2)]=true:=(A7 (E7 x0) (A7 (N0 x1) (A7 (A9 x2) rfl)))
theorem h2r{x0:A0}:plainL [.agg (A5 x0)]=true:=(A7 (A9 x0) rfl)
theorem g4a{x1:GFn}:plainL [.sl [] .no,.clo (.func x1.fn) x1.fi x1.cap]=true:=(A7 rfl (A7 (a02 x1) rfl))
theorem e0p{x0:Int}{x1:Int}:plainL [.v (.int .i64 x0),.v (.int .i64 x1)]=true:=(A7 rfl (A7 rfl rfl))
theorem e7q{x0:B0}{x1:Int}{r:(B0 × Int)}:(C8 x0).all ok1=true/\(C8 r.1).all ok1=true/\List.all [.ptr 0 0,.v (.int .i64 x1)] okA=true/\plain (g8n r)=true:=⟨J2 _,J2 _,F8 rfl (F8 (C4 rfl) rfl),f8h r⟩
theorem c91{x0:B0}{x1:GOp}{r:(B0 × (A0 × Int))}:(C8 x0).all ok1=true/\(C8 r.1).all ok1=true/\List.all [.ptr 0 0,.agg (V6 x1)] okA=true/\plain (g8f r)=true:=⟨J2 _,J2 _,F8 rfl (F8 (C4 (N0 x1)) rfl),f7i r⟩
theorem e67{x0:B0}{x1:GOp}{r:(B0 × (A0 × Int))}:(C8 x0).all ok1=true/\(C8 r.1).all ok1=true/\List.all [.ptr 0 0,.agg (V6 x1)] okA=true/\plain (g56 r)=true:=⟨J2 _,J2 _,F8 rfl (F8 (C4 (N0 x1)) rfl),f7q r⟩
theorem f17{x0:B0}{x1:GOp}{r:(B0 × (A0 × Int))}:(C8 x0).all ok1=true/\(C8 r.1).all ok1=true/\List.all [.ptr 0 0,.agg (V6 x1)] okA=true/\plain (g5y r)=true:=⟨J2 _,J2 _,F8 rfl (F8 (C4 (N0 x1)) rfl),f8e r⟩
theorem e8i{x0:B0}{x1:B9}{x2:A0}{x3:GOp}{r:(B0 × (A0 × Bool × Int))}:(C8 x0).all ok1=true/\(C8 r.1).all ok1=true/\List.all [.ptr 0 0,.agg (E3 x1),.agg (A5 x2),.agg (V6 x3)] okA=true/\plain (g6t r)=true:=⟨J2 _,J2 _,F8 rfl (F8 (C4 (G3 x1)) (F8 (C4 (A9 x2)) (F8 (C4 (N0 x3)) rfl))),f6z r⟩
theorem g5s{x0:A3}:plainL [.agg (D3 x0)]=true:=(A7 (C3 x0) rfl)
theorem g05{x0:A6}{x1:GOp}{x2:A0}:plainL [.agg (B6 x0),.agg (V6 x1),.agg (A5 x2)]=true:=(A7 (E7 x0) (A7 (N0 x1) (A7 (A9 x2) rfl)))
theorem h3o{x0:(List (A0 × A0))}:plainL [.sl (List.map A8 x0) .no]=true:=(A7 (psl (D7 x0)) rfl)
theorem h3s{x0:A0}:plainL [.agg (A5 x0)]=true:=(A7 (A9 x0) rfl)
theorem g3y{x0:ByteArray}:plainL [.v (.string x0)]=true:=(A7 rfl rfl)
theorem g60{x0:ByteArray}:plainL [.v (.string x0)]=true:=(A7 rfl rfl)
theorem g93{x0:(List c0v)}{x1:Int}:plainL [.sl (List.map b2u x0) .no,.v (.int .i64 x1)]=true:=(A7 (psl (N1 x0)) (A7 rfl rfl))
theorem h2a{x0:(List b4b)}{x1:Int}:plainL [.sl (List.map a8k x0) .no,.v (.int .i64 x1)]=true:=(A7 (psl (K0 x0)) (A7 rfl rfl))
theorem g9y{x0:B9}:plainL [.agg (E3 x0)]=true:=(A7 (G3 x0) rfl)
theorem h3n{x0:A6}{x1:GOp}:plainL [.agg (B6 x0),.agg (V6 x1)]=true:=(A7 (E7 x0) (A7 (N0 x1) rfl))
theorem h0h{x0:ByteArray}:plainL [.v (.string x0)]=true:=(A7 rfl rfl)
theorem g65{x0:A3}{x1:Int}:plainL [.agg (D3 x0),.v (.int .i64 x1)]=true:=(A7 (C3 x0) (A7 rfl rfl))
theorem h0p{x0:A3}{x1:Int}:plainL [.agg (D3 x0),.v (.int .i64 x1)]=true:=(A7 (C3 x0) (A7 rfl rfl))
theorem h2q{x0:ByteArray}:plainL [.v (.string x0)]=true:=(A7 rfl rfl)
theorem h3e{x0:ByteArray}:plainL [.v (.string x0)]=true:=(A7 rfl rfl)
theorem g3w{x0:Int}:plainL [.v (.int .i64 x0)]=true:=(A7 rfl rfl)
theorem h1y{x0:(List b5j)}{x1:GFn}:plainL [.sl (List.map a3j x0) .no,.clo (.func x1.fn) x1.fi x1.cap]=true:=(A7 (psl (J6 x0)) (A7 (a02 x1) rfl))
theorem h0v{x0:ByteArray}:plainL [.v (.string x0)]=true:=(A7 rfl rfl)
theorem d77{x0:Int}{x1:Int}:plainL [.v (.int .i64 x0),.v (.int .i64 x1)]=true:=(A7 rfl (A7 rfl rfl))
theorem h0r{x0:(List A0)}{x1:(List A0)}:plainL [.sl (List.map C0 x0) .no,.sl (List.map C0 x1) .no]=true:=(A7 (psl (E8 x0)) (A7 (psl (E8 x1)) rfl))
theorem h1g{x0:(List (A0 × A0))}{x1:(List (A0 × A0))}:plainL [.sl (List.map A8 x0) .no,.sl (List.map A8 x1) .no]=true:=(A7 (psl (D7 x0)) (A7 (psl (D7 x1)) rfl))
theorem g9o{x0:(List (Int × A0))}{x1:(List (Int × A0))}:plainL [.sl (List.map B4 x0) .no,.sl (List.map B4 x1) .no]=true:=(A7 (psl (E4 x0)) (A7 (psl (E4 x1)) rfl))
theorem h2c{x0:(List H9)}{x1:(List H9)}:plainL [.sl (List.map J0 x0) .no,.sl (List.map J0 x1) .no]=true:=(A7 (psl (H0 x0)) (A7 (psl (H0 x1)) rfl))
theorem h2o{x0:A0}{x1:A0}:plainL [.agg (A5 x0),.agg (A5 x1)]=true:=(A7 (A9 x0) (A7 (A9 x1) rfl))
theorem f3r{x0:A0}:plainL [.agg (A5 x0)]=true:=(A7 (A9 x0) rfl)
theorem h0u{x0:C7}{x1:B9}{x2:(List (Int × A0))}{x3:Int}{x4:Int}:plainL [.agg (K6 x0),.agg (E3 x1),.sl (List.map B4 x2) .no,.v (.int .i64 x3),.v (.int .i64 x4)]=true:=(A7 (G1 x0) (A7 (G3 x1) (A7 (psl (E4 x2)) (A7 rfl (A7 rfl rfl)))))
theorem g78{x0:(List (Int × A0))}{x1:GFn}:plainL [.sl (List.map B4 x0) .no,.clo (.func x1.fn) x1.fi x1.cap]=true:=(A7 (psl (E4 x0)) (A7 (a02 x1) rfl))
theorem h2l{x0:C7}{x1:B9}{x2:H9}:plainL [.agg (K6 x0),.agg (E3 x1),.agg (J0 x2)]=true:=(A7 (G1 x0) (A7 (G3 x1) (A7 (Q6 x2) rfl)))
theorem g9v{x0:A0}:plainL [.agg (A5 x0)]=true:=(A7 (A9 x0) rfl)
theorem h01{x0:(List (Int × A0))}:plainL [.sl (List.map B4 x0) .no]=true:=(A7 (psl (E4 x0)) rfl)
theorem g6y{x1:GFn}:List.all [.clo (.func x1.fn) x1.fi x1.cap] okA=true:=(F8 (C4 (a02 x1)) rfl)
theorem g7e{x1:GFn}:plainL [.sl [] .no,.clo (.func x1.fn) x1.fi x1.cap]=true:=(A7 rfl (A7 (a02 x1) rfl))
theorem h1x{x0:b5f}{x1:B9}:plainL [.agg (b4v x0),.agg (E3 x1)]=true:=(A7 (a0c x0) (A7 (G3 x1) rfl))
theorem f87{x0:A6}{x1:GOp}{x2:A0}:plainL [.agg (B6 x0),.agg (V6 x1),.agg (A5 x2)]=true:=(A7 (E7 x0) (A7 (N0 x1) (A7 (A9 x2) rfl)))
theorem h2x{x0:(List (A0 × A0))}:plainL [.sl (List.map A8 x0) .no]=true:=(A7 (psl (D7 x0)) rfl)
theorem g7u{x0:A0}:plainL [.agg (A5 x0)]=true:=(A7 (A9 x0) rfl)
theorem g3u{x0:Int}:plainL [.v (.int .i64 x0)]=true:=(A7 rfl rfl)
theorem g95{x0:A3}{x1:Int}:plainL [.agg (D3 x0),.v (.int .i64 x1)]=true:=(A7 (C3 x0) (A7 rfl rfl))
theorem f8n{x0:B0}{r:(B0 × (Int × Int))}:(C8 x0).all ok1=true/\(C8 r.1).all ok1=true/\List.all [.ptr 0 0] okA=true/\plain (g8s r)=true:=⟨J2 _,J2 _,F8 rfl rfl,f7y r⟩
theorem e4s{x0:A0}{x1:A0}:plainL [.agg (A5 x0),.agg (A5 x1)]=true:=(A7 (A9 x0) (A7 (A9 x1) rfl))
theorem h16{x0:ByteArray}:plainL [.v (.string x0)]=true:=(A7 rfl rfl)
theorem g9z{x0:ByteArray}:plainL [.v (.string x0)]=true:=(A7 rfl rfl)
theorem g4b{x0:ByteArray}:plainL [.v (.string x0)]=true:=(A7 rfl rfl)
theorem f96{x0:ByteArray}:plainL [.v (.string x0)]=true:=(A7 rfl rfl)
theorem g79{x0:ByteArray}:plainL [.v (.string x0)]=true:=(A7 rfl rfl)
theorem h12{x0:ByteArray}{x1:Int}:plainL [.v (.string x0),.v (.int .i64 x1)]=true:=(A7 rfl (A7 rfl rfl))
theorem h1t{x0:b4b}:plainL [.agg (a8k x0)]=true:=(A7 (P4 x0) rfl)
theorem g84{x0:A6}{x1:GOp}:plainL [.agg (B6 x0),.agg (V6 x1)]=true:=(A7 (E7 x0) (A7 (N0 x1) rfl))
theorem h0o{x0:ByteArray}{x1:Int}{x2:Int}:plainL [.v (.string x0),.v (.int .i64 x1),.v (.int .i32 x2)]=true:=(A7 rfl (A7 rfl (A7 rfl rfl)))
theorem g9m{x0:ByteArray}{x1:Int}:plainL [.v (.string x0),.v (.int .i64 x1)]=true:=(A7 rfl (A7 rfl rfl))
theorem h3f{x0:H9}{x1:H9}:plainL [.agg (J0 x0),.agg (J0 x1)]=true:=(A7 (Q6 x0) (A7 (Q6 x1) rfl))
theorem f4r{x0:A0}:plainL [.agg (A5 x0)]=true:=(A7 (A9 x0) rfl)
theorem h2k{x0:C7}{x1:GOp}{x2:A0}{x3:Int}:plainL [.agg (K6 x0),.agg (V6 x1),.agg (A5 x2),.v (.int .i64 x3)]=true:=(A7 (G1 x0) (A7 (N0 x1) (A7 (A9 x2) (A7 rfl rfl))))
theorem h3c{x0:(List (Int × A0))}{x1:GFn}:plainL [.sl (List.map B4 x0) .no,.clo (.func x1.fn) x1.fi x1.cap]=true:=(A7 (psl (E4 x0)) (A7 (a02 x1) rfl))
theorem g69{x1:Int}{x2:GFn}:List.all [.v (.int .i64 x1),.clo (.func x2.fn) x2.fi x2.cap] okA=true:=(F8 (C4 rfl) (F8 (C4 (a02 x2)) rfl))
theorem h1c{x0:(List GOp)}{x1:GFn}:plainL [.sl (List.map V6 x0) .no,.clo (.func x1.fn) x1.fi x1.cap]=true:=(A7 (psl (T2 x0)) (A7 (a02 x1) rfl))
theorem h15{x0:(List (A0 × A0))}:plainL [.sl (List.map A8 x0) .no]=true:=(A7 (psl (D7 x0)) rfl)
theorem g68{x1:GFn}:List.all [.clo (.func x1.fn) x1.fi x1.cap] okA=true:=(F8 (C4 (a02 x1)) rfl)
theorem g3n{x1:GFn}:plainL [.sl [] .no,.clo (.func x1.fn) x1.fi x1.cap]=true:=(A7 rfl (A7 (a02 x1) rfl))
theorem g2j{x0:A0}{x1:A0}:plainL [.agg (A5 x0),.agg (A5 x1)]=true:=(A7 (A9 x0) (A7 (A9 x1) rfl))
theorem g6z{x0:A0}:plainL [.agg (A5 x0)]=true:=(A7 (A9 x0) rfl)
theorem h0j{x0:A0}{x1:A0}:plainL [.agg (A5 x0),.agg (A5 x1)]=true:=(A7 (A9 x0) (A7 (A9 x1) rfl))
theorem h14{x0:(List A0)}{x1:(List A0)}{x2:GFn}:plainL [.sl (List.map C0 x0) .no,.sl (List.map C0 x1) .no,.clo (.func x2.fn) x2.fi x2.cap]=true:=(A7 (psl (E8 x0)) (A7 (psl (E8 x1)) (A7 (a02 x2) rfl)))
theorem h3t{x0:(List (A0 × A0))}{x1:(List (A0 × A0))}{x2:GFn}:plainL [.sl (List.map A8 x0) .no,.sl (List.map A8 x1) .no,.clo (.func x2.fn) x2.fi x2.cap]=true:=(A7 (psl (D7 x0)) (A7 (psl (D7 x1)) (A7 (a02 x2) rfl)))
theorem f4q{x0:(List Int)}:plainL [.sl (List.map a8r x0) .no]=true:=(A7 (psl (F9 x0)) rfl)
theorem g9k{x0:(List (Int × A0))}{x1:(List (Int × A0))}{x2:GFn}:plainL [.sl (List.map B4 x0) .no,.sl (List.map B4 x1) .no,.clo (.func x2.fn) x2.fi x2.cap]=true:=(A7 (psl (E4 x0)) (A7 (psl (E4 x1)) (A7 (a02 x2) rfl)))
theorem h2p{x0:(List H9)}{x1:(List H9)}{x2:GFn}:plainL [.sl (List.map J0 x0) .no,.sl (List.map J0 x1) .no,.clo (.func x2.fn) x2.fi x2.cap]=true:=(A7 (psl (H0 x0)) (A7 (psl (H0 x1)) (A7 (a02 x2) rfl)))
theorem g6k{x0:Int}:plainL [.v (.int .u8 x0)]=true:=(A7 rfl rfl)
theorem g38{x0:Int}:plainL [.v (.int .u8 x0)]=true:=(A7 rfl rfl)
theorem h3b{x0:ByteArray}{x1:ByteArray}:plainL [.v (.string x0),.v (.string x1)]=true:=(A7 rfl (A7 rfl rfl))
theorem e0b{x0:ByteArray}{x1:Int}{x2:Int}:plainL [.v (.string x0),.v (.int .i64 x1),.v (.int .i64 x2)]=true:=(A7 rfl (A7 rfl (A7 rfl rfl)))
theorem e54{x0:ByteArray}{x1:Int}{x2:Int}{x3:Int}:plainL [.v (.string x0),.v (.int .i64 x1),.v (.int .u8 x2),.v (.int .u8 x3)]=true:=(A7 rfl (A7 rfl (A7 rfl (A7 rfl rfl))))
theorem h1u{x0:Int}:plainL [.v (.int .i64 x0)]=true:=(A7 rfl rfl)
theorem f81{x0:C7}{x1:GOp}{x2:A0}{x3:Int}:plainL [.agg (K6 x0),.agg (V6 x1),.agg (A5 x2),.v (.int .i64 x3)]=true:=(A7 (G1 x0) (A7 (N0 x1) (A7 (A9 x2) (A7 rfl rfl))))
theorem h1d{x0:C7}{x1:GOp}{x2:(List (A0 × A0))}{x3:Int}:plainL [.agg (K6 x0),.agg (V6 x1),.sl (List.map A8 x2) .no,.v (.int .i64 x3)]=true:=(A7 (G1 x0) (A7 (N0 x1) (A7 (psl (D7 x2)) (A7 rfl rfl))))
theorem f6w{x1:Int}{x2:Int}{x3:GFn}:List.all [.v (.int .i64 x1),.v (.int .i64 x2),.clo (.func x3.fn) x3.fi x3.cap] okA=true:=(F8 (C4 rfl) (F8 (C4 rfl) (F8 (C4 (a02 x3)) rfl)))
theorem e2t{x1:Int}{x2:Int}{x3:Int}{x4:GFn}:List.all [.v (.int .i64 x1),.v (.int .i64 x2),.v (.int .i64 x3),.clo (.func x4.fn) x4.fi x4.cap] okA=true:=(F8 (C4 rfl) (F8 (C4 rfl) (F8 (C4 rfl) (F8 (C4 (a02 x4)) rfl))))
theorem g3d{x1:Int}{x2:GFn}:List.all [.v (.int .i64 x1),.clo (.func x2.fn) x2.fi x2.cap] okA=true:=(F8 (C4 rfl) (F8 (C4 (a02 x2)) rfl))
theorem g6v{x0:ByteArray}{x1:ByteArray}:plainL [.v (.string x0),.v (.string x1)]=true:=(A7 rfl (A7 rfl rfl))
theorem g0m{x0:Int}{x1:Int}:plainL [.v (.int .u64 x0),.v (.int .u64 x1)]=true:=(A7 rfl (A7 rfl rfl))
theorem g6c{x0:Int}:plainL [.v (.int .u64 x0)]=true:=(A7 rfl rfl)
theorem h3m{x0:ByteArray}{x1:ByteArray}:plainL [.v (.string x0),.v (.string x1)]=true:=(A7 rfl (A7 rfl rfl))
theorem g7w{x0:C7}{x1:Int}{x2:Int}{x3:A0}:plainL [.agg (K6 x0),.v (.int .i64 x1),.v (.int .i64 x2),.agg (A5 x3)]=true:=(A7 (G1 x0) (A7 rfl (A7 rfl (A7 (A9 x3) rfl))))
theorem h2j{x0:(List (A0 × A0))}{x1:GFn}:plainL [.sl (List.map A8 x0) .no,.clo (.func x1.fn) x1.fi x1.cap]=true:=(A7 (psl (D7 x0)) (A7 (a02 x1) rfl))
theorem g6h{x1:Int}{x2:Int}{x3:Int}{x4:GFn}:List.all [.v (.int .i64 x1),.v (.int .i64 x2),.v (.int .i64 x3),.clo (.func x4.fn) x4.fi x4.cap] okA=true:=(F8 (C4 rfl) (F8 (C4 rfl) (F8 (C4 rfl) (F8 (C4 (a02 x4)) rfl))))
theorem f69{x1:Int}{x2:Int}{x3:GFn}:List.all [.v (.int .i64 x1),.v (.int .i64 x2),.clo (.func x3.fn) x3.fi x3.cap] okA=true:=(F8 (C4 rfl) (F8 (C4 rfl) (F8 (C4 (a02 x3)) rfl)))
theorem e29{x1:Int}{x2:Int}{x3:Int}{x4:GFn}:List.all [.v (.int .i64 x1),.v (.int .i64 x2),.v (.int .i64 x3),.clo (.func x4.fn) x4.fi x4.cap] okA=true:=(F8 (C4 rfl) (F8 (C4 rfl) (F8 (C4 rfl) (F8 (C4 (a02 x4)) rfl))))
theorem g6w{x0:ByteArray}:plainL [.v (.string x0)]=true:=(A7 rfl rfl)
theorem g36{x0:Int}:plainL [.v (.int .u64 x0)]=true:=(A7 rfl rfl)
theorem h0c{x0:(List (A0 × A0))}{x1:GFn}:plainL [.sl (List.map A8 x0) .no,.clo (.func x1.fn) x1.fi x1.cap]=true:=(A7 (psl (D7 x0)) (A7 (a02 x1) rfl))
theorem e6b{x1:Int}{x2:Int}{x3:Int}{x4:GFn}:List.all [.v (.int .i64 x1),.v (.int .i64 x2),.v (.int .i64 x3),.clo (.func x4.fn) x4.fi x4.cap] okA=true:=(F8 (C4 rfl) (F8 (C4 rfl) (F8 (C4 rfl) (F8 (C4 (a02 x4)) rfl))))
theorem g5o{x1:Int}{x2:Int}{x3:Int}{x4:GFn}:List.all [.v (.int .i64 x1),.v (.int .i64 x2),.v (.int .i64 x3),.clo (.func x4.fn) x4.fi x4.cap] okA=true:=(F8 (C4 rfl) (F8 (C4 rfl) (F8 (C4 rfl) (F8 (C4 (a02 x4)) rfl))))
theorem e8e{x1:Int}{x2:Int}{x3:Int}{x4:GFn}:List.all [.v (.int .i64 x1),.v (.int .i64 x2),.v (.int .i64 x3),.clo (.func x4.fn) x4.fi x4.cap] okA=true:=(F8 (C4 rfl) (F8 (C4 rfl) (F8 (C4 rfl) (F8 (C4 (a02 x4)) rfl))))
section
attribute [local irreducible] Ok run put d2b br jn pos dr0 dr1 So
attribute [-simp] List.map_take List.map_drop List.map_append List.map_set List.map_replicate List.map_cons List.map_map
attribute [local simp] plain plainL a77 a5d Z7 low lowL lowLL K8 G7 G5 F9 J4 G6 G8 G4 K7 T3 a0s T1 a08 N0 T2 G3 H8 Q6 H0 A9 E8 N4 D7 O4 E4 P4 K0 R0 J6 T5 N1 V7 Q0 E7 S8 J3 G9 C3 L4 K3 N2 G2 F4 W8 S7 Y1 U6 G1 P3 a0c Z0 a4p a2c c4y d65 c64 c7e a8r b01 c66 c7l b73 c2m e5t eFn b6m b2i b2z b3k b6t b3d b3s b3a b7e c2e c24 b3m b62 a8w b3j b3y b3h b20 b30 b2r b2j a3n a5z a5o Y5 a51 a5n a1e a5m a8y c1k b7t b6x b23 b3f b2y b67 b21 b3e b2n b6l c1g c2q b32 b7o a80 b2s b3x b3q b3g b2m b2x b2q a29 a5s a5r Z2 a6a a54 a1n a5k a88 c15 b22 b7d a85 b27 b3w b3v b3n b2w b3t b2l a2t a6i a5t Y6 a6d a5h a1d a6g a9c c9m
theorem g3t(r:Bool):plain (e4 r)=true:=rfl
theorem b9c(p:A6)(name:ByteArray)(v:A0)(r:Bool)(hw:∃y1,b4d p y1/\(∃R1:Bool->Prop,(∀bz1:Bool,R1 bz1->((bz1=true->r=true)/\(bz1=false->∃y3,b9z p name v y3/\((((y3.2 !=0)||(decide (20000<(y3.1.size:Int))))=true->∃y4,a3g y4/\(r=y4))/\(((y3.2 !=0)||(decide (20000<(y3.1.size:Int))))=false->∃y5,c0i p name y5/\(∃y6,b6n y6/\(∃y7,b6f p name y3.1 y6 y7/\(((y7.2==0)=true->∃y8,a6q p y5.1 v y8/\(∃y9,b9x y7.1 y8 y9/\((y9=true->∃y10,a3g y10/\(r=y10))/\(y9=false->r=false))))/\((y7.2==0)=false->r=false)))))))))/\(((!y1)=true->R1 true)/\((!y1)=false->∃y2,b6k v y2/\(R1 (!y2)))))):b75 p name v r:=
 fP (KC 11 hw pl9 fun _ hw=>KQ 2 4 kB hw (fun _ hw=>KW 2 hw (fun _ hw=>KR 7 hw g3t) fun _ hw=>KC 7 hw h4h fun _ hw=>KT 13 4<|KW 2 hw (fun _ hw=>KC 2 hw g8y fun _ hw=>KR 5 hw g3t) fun _ hw=>KC 6 hw h39 fun _ hw=>KD 8 [0]<|KC 3 hw h55 fun _ hw=>KC 0 hw g81 fun _ hw=>KV 4<|KD 5 [0,1,2]<|KW 3 hw (fun _ hw=>KC 4 hw h2d fun _ hw=>KC 0 hw h51 fun _ hw=>KW 2 hw (fun _ hw=>KC 0 hw g8y fun _ hw=>KR 6 hw g3t) fun _ hw=>KR 7 hw g3t) fun _ hw=>KR 15 hw g3t) (fun _ key _ hw=>KE 4 key hw) fun _ key _ hw=>KC 1 hw h40 fun _ hw=>KE 2 key hw)
theorem g31(r:Bool):plain (e6 r)=true:=rfl
def a1f(ij9:Int)(ij2:Int)(y3:(ByteArray × Int))(name:ByteArray)(p:A6)(y7:Int)(y8:Int)(y9:Int)(ij5:Int)(ij6:Int)(ij7:Int)(ij8:Int)(r:Bool):Prop:=J Tryz.prog 6 (.ret (e6 r)) 28 [(16,aI ij9),(15,.ptr 4 0),(14,aI ij2),(12,.ptr 3 0),(7,aS y3.1),(3,.ptr 0 0),(1,aS name)] ⟨[some (B6 p),none,none,some [aI (y3.1.size:Int),aI y7,aI y8,aI y9],some [aI ij5,aI ij6,aI ij7,aI ij8]],[],[]⟩
def W5(ij4:Int)(ij2:Int)(y3:(ByteArray × Int))(name:ByteArray)(p:A6)(y7:Int)(y8:Int)(y9:Int)(ij5:Int)(ij6:Int)(ij7:Int)(ij8:Int)(r:Bool):Prop:=J Tryz.prog 6 (.ret (e6 r)) 22 [(16,aI ij4),(15,.ptr 4 0),(14,aI ij2),(12,.ptr 3 0),(7,aS y3.1),(3,.ptr 0 0),(1,aS name)] ⟨[some (B6 p),none,none,some [aI (y3.1.size:Int),aI y7,aI y8,aI y9],some [aI ij5,aI ij6,aI ij7,aI ij8]],[],[]⟩
def O2(ij2:Int)(y3:(ByteArray × Int))(name:ByteArray)(p:A6)(y7:Int)(y8:Int)(y9:Int)(r:Bool):Prop:=J Tryz.prog 6 (.ret (e6 r)) 17 [(14,aI ij2),(12,.ptr 3 0),(7,aS y3.1),(3,.ptr 0 0),(1,aS name)] ⟨[some (B6 p),none,none,some [aI (y3.1.size:Int),aI y7,aI y8,aI y9]],[],[]⟩
theorem a8n{ij2:Int}{y3:(ByteArray × Int)}{name:ByteArray}{p:A6}{y7:Int}{y8:Int}{y9:Int}:a77 [true,false,false,true] 0 [(14,aI ij2),(12,.ptr 3 0),(7,aS y3.1),(3,.ptr 0 0),(1,aS name)]=true/\a5d [true,false,false,true] 0 [some (B6 p),none,none,some [aI (y3.1.size:Int),aI y7,aI y8,aI y9]]=true:=⟨by first|rfl|simp,by first|rfl|simp⟩
theorem b59(ij9:Int)(ij2:Int)(y3:(ByteArray × Int))(name:ByteArray)(p:A6)(y7:Int)(y8:Int)(y9:Int)(ij5:Int)(ij6:Int)(ij7:Int)(ij8:Int)(r:Bool)(hw:∃y18,b6f p name y3.1 (⟨ij5,ij6,ij7,ij8⟩:U7) y18/\(((y18.2 !=ij9)=true->r=false)/\((y18.2 !=ij9)=false->O2 (wI (ij2+1)) y3 name p y7 y8 y9 r))):a1f ij9 ij2 y3 name p y7 y8 y9 ij5 ij6 ij7 ij8 r:=
 KC 6 hw g81 fun _ hw=>KW 15 hw (fun _ hw=>KR 11 hw g31) fun _ hw=>KJl 9 [] hw a8n
theorem b7w(ij4:Int)(ij2:Int)(y3:(ByteArray × Int))(name:ByteArray)(p:A6)(y7:Int)(y8:Int)(y9:Int)(ij5:Int)(ij6:Int)(ij7:Int)(ij8:Int)(r:Bool)(hw:(((decide (ij5<0))||(decide (ij8<0)))=true->a1f 1 ij2 y3 name p y7 y8 y9 ij5 ij6 ij7 ij8 r)/\(((decide (ij5<0))||(decide (ij8<0)))=false->a1f ij4 ij2 y3 name p y7 y8 y9 ij5 ij6 ij7 ij8 r)):W5 ij4 ij2 y3 name p y7 y8 y9 ij5 ij6 ij7 ij8 r:=
 KT 7 4<|KW 2 hw (fun _ hw=>KJ 4 [] hw) fun _ hw=>KJ 2 [] hw
theorem S6(ij2:Int)(y3:(ByteArray × Int))(name:ByteArray)(p:A6)(y7:Int)(y8:Int)(y9:Int)(r:Bool)(hw:((decide (ij2<4))=true->((ij2==0)=true->W5 3 ij2 y3 name p y7 y8 y9 (wI ((y3.1.size:Int) - 1)) y7 y8 y9 r)/\((ij2==0)=false->((ij2==1)=true->W5 17 ij2 y3 name p y7 y8 y9 (y3.1.size:Int) (wI (y7 - 1)) y8 y9 r)/\((ij2==1)=false->((ij2==2)=true->W5 3 ij2 y3 name p y7 y8 y9 (y3.1.size:Int) y7 (wI (y8 - 1)) y9 r)/\((ij2==2)=false->W5 3 ij2 y3 name p y7 y8 y9 (y3.1.size:Int) y7 y8 (wI (y9 - 1)) r))))/\((decide (ij2<4))=false->∃y14,a3g y14/\(r=y14))):O2 ij2 y3 name p y7 y8 y9 r:=
 KW 8 hw (fun _ hw=>KW 25 hw (fun _ hw=>KJ 9 [] hw) fun _ hw=>KW 6 hw (fun _ hw=>KJ 14 [] hw) fun _ hw=>KW 6 hw (fun _ hw=>KJ 9 [] hw) fun _ hw=>KJ 9 [] hw) fun _ hw=>KC 7 hw g8y fun _ hw=>KR 4 hw g31
theorem c0x(p:A6)(name:ByteArray)(v:A0)(r:Bool)(hw:∃y1,b4d p y1/\(∃R1:Bool->Prop,(∀bz1:Bool,R1 bz1->((bz1=true->r=true)/\(bz1=false->∃y3,b9z p name v y3/\((((y3.2 !=0)||(decide (3000<(y3.1.size:Int))))=true->∃y4,a3g y4/\(r=y4))/\(((y3.2 !=0)||(decide (3000<(y3.1.size:Int))))=false->∃y5,c0i p name y5/\(∃y6,a6q p y5.1 v y6/\(∃y7,Y3 y6 y7/\(∃y8,X1 y6 y8/\(∃y9,S3 y6 y9/\(∃y10,b6f p name y3.1 (⟨(y3.1.size:Int),y7,y8,y9⟩:U7) y10/\(∃R2:Bool->Prop,(∀bz2:Bool,R2 bz2->((bz2=true->r=false)/\(bz2=false->O2 0 y3 name p y7 y8 y9 r)))/\(((y10.2 !=0)=true->R2 true)/\((y10.2 !=0)=false->∃y11,b9x y10.1 y6 y11/\(R2 (!y11)))))))))))))))/\(((!y1)=true->R1 true)/\((!y1)=false->∃y2,b6k v y2/\(R1 (!y2)))))):b83 p name v r:=
 fP (KC 11 hw pl9 fun _ hw=>KQ 2 4 kB hw (fun _ hw=>KW 2 hw (fun _ hw=>KR 7 hw g31) fun _ hw=>KC 7 hw h4h fun _ hw=>KT 13 4<|KW 2 hw (fun _ hw=>KC 2 hw g8y fun _ hw=>KR 5 hw g31) fun _ hw=>KC 6 hw h39 fun _ hw=>KC 12 hw h2d fun _ hw=>KD 5 [2]<|KC 3 hw g3s fun _ hw=>KC 1 hw g28 fun _ hw=>KC 1 hw g71 fun _ hw=>KC 12 hw g81 fun _ hw=>KQ 14 5 kB hw (fun _ hw=>KW 2 hw (fun _ hw=>KR 7 hw g31) fun _ hw=>KJl 10 [] hw a8n) (fun _ key _ hw=>KE 5 key hw) fun _ key _ hw=>KC 2 hw h51 fun _ hw=>KE 2 key hw) (fun _ key _ hw=>KE 4 key hw) fun _ key _ hw=>KC 1 hw h40 fun _ hw=>KE 2 key hw)
theorem h5s(r:Bool):plain (e9 r)=true:=rfl
theorem b6b(p:A6)(r:Bool)(hw:(((decide ((p.Progs.length:Int)<=8))&&(decide ((p.Enums.length:Int)<=8)))=true->∃y1,c2y p y1/\(r=(y1==0)))/\(((decide ((p.Progs.length:Int)<=8))&&(decide ((p.Enums.length:Int)<=8)))=false->r=false)):b4d p r:=
 fP (KL 10 L7 p.Progs<|KT2 2 5 (decide ((p.Progs.length:Int)<=8)) (fun z=>aB (z&&(decide ((p.Enums.length:Int)<=8)))) (fun _ key=>KL 2 a0t p.Enums<|KE2 2 key) (fun _ key=>KE2 5 key)<|KW 1 hw (fun _ hw=>KC 1 hw h6c fun _ hw=>KR 6 hw h5s) fun _ hw=>KR 8 hw h5s)
theorem d2y(r:(A0 × A3 × Int)):plain (e10 r)=true:=(c8h (A7 (A9 r.1) (A7 (C3 r.2.1) (A7 rfl rfl))))
def a9i(y17:(Int × A3 × Int))(p:A6)(o_:GOp)(c:A3)(ij5:Int)(r:(A0 × A3 × Int)):Prop:=J Tryz.prog 10 (.ret (e10 r)) 28 [(15,.ptr 6 0),(12,aU y17.1),(13,.ptr 5 0),(7,.ptr 4 0),(6,.ptr 3 0),(5,.ptr 2 0),(4,.ptr 1 0),(3,.ptr 0 0)] ⟨[some (B6 p),some (V6 o_),some (D3 c),some zV,some [aE,aI 0,aI 0,aI 0,aI 0,aI 0],some (D3 y17.2.1),some [aI o_.Kind,aU ij5,aE,.nil,.nil,.nil,.nil]],[],[]⟩
def a1i(bj4:Bool)(p:A6)(o_:GOp)(c:A3)(r:(A0 × A3 × Int)):Prop:=J Tryz.prog 10 (.ret (e10 r)) 17 [(60,aB bj4),(7,.ptr 4 0),(6,.ptr 3 0),(5,.ptr 2 0),(4,.ptr 1 0),(3,.ptr 0 0)] ⟨[some (B6 p),some (V6 o_),some (D3 c),some zV,some [aE,aI 0,aI 0,aI 0,aI 0,aI 0]],[],[]⟩
def b1l(bj3:Bool)(o_:GOp)(p:A6)(c:A3)(r:(A0 × A3 × Int)):Prop:=J Tryz.prog 10 (.ret (e10 r)) 14 [(50,aB bj3),(17,aI o_.Kind),(7,.ptr 4 0),(6,.ptr 3 0),(5,.ptr 2 0),(4,.ptr 1 0),(3,.ptr 0 0)] ⟨[some (B6 p),some (V6 o_),some (D3 c),some zV,some [aE,aI 0,aI 0,aI 0,aI 0,aI 0]],[],[]⟩
theorem c2f(y17:(Int × A3 × Int))(p:A6)(o_:GOp)(c:A3)(ij5:Int)(r:(A0 × A3 × Int))(hw:∃y21,b3i o_.Kind (⟨o_.Kind,ij5,(⟨#[]⟩:ByteArray),([]:(List A0)),([]:(List (A0 × A0))),([]:(List (Int × A0))),([]:(List H9))⟩:A0) y21/\(((!y21)=true->r=((⟨0,0,(⟨#[]⟩:ByteArray),([]:(List A0)),([]:(List (A0 × A0))),([]:(List (Int × A0))),([]:(List H9))⟩:A0),c,6))/\((!y21)=false->∃R4:Bool->Prop,(∀bz4:Bool,R4 bz4->((bz4=true->r=((⟨0,0,(⟨#[]⟩:ByteArray),([]:(List A0)),([]:(List (A0 × A0))),([]:(List (Int × A0))),([]:(List H9))⟩:A0),c,16))/\(bz4=false->r=((⟨o_.Kind,ij5,(⟨#[]⟩:ByteArray),([]:(List A0)),([]:(List (A0 × A0))),([]:(List (Int × A0))),([]:(List H9))⟩:A0),y17.2.1,0))))/\(((o_.Kind==9)=true->∃y22,b0f p o_.Target y17.1 y22/\(R4 (!y22)))/\((o_.Kind==9)=false->R4 false))))):a9i y17 p o_ c ij5 r:=
 KC 6 hw h0b fun _ hw=>KW 3 hw (fun _ hw=>KD 1 [2]<|KV 2<|KR 7 hw d2y) fun _ hw=>KQ 9 7 kB hw (fun _ hw=>KW 2 hw (fun _ hw=>KD 1 [2]<|KV 2<|KR 7 hw d2y) fun _ hw=>KD 3 [5,6]<|KV 2<|KR 6 hw d2y) (fun _ key _ hw=>KC 4 hw h1m fun _ hw=>KE 2 key hw) fun _ key _ hw=>KE 7 key hw
theorem c4s(bj4:Bool)(p:A6)(o_:GOp)(c:A3)(r:(A0 × A3 × Int))(hw:(bj4=true->∃y17,b6c c y17/\(((y17.2.2 !=0)=true->r=((⟨0,0,(⟨#[]⟩:ByteArray),([]:(List A0)),([]:(List (A0 × A0))),([]:(List (Int × A0))),([]:(List H9))⟩:A0),c,y17.2.2))/\((y17.2.2 !=0)=false->(((o_.Kind==2)||(o_.Kind==3))=true->∃y18,c0p y17.1 y18/\(a9i y17 p o_ c (wU y18) r))/\(((o_.Kind==2)||(o_.Kind==3))=false->a9i y17 p o_ c y17.1 r))))/\(bj4=false->r=((⟨0,0,(⟨#[]⟩:ByteArray),([]:(List A0)),([]:(List (A0 × A0))),([]:(List (Int × A0))),([]:(List H9))⟩:A0),c,12))):a1i bj4 p o_ c r:=
 KW 0 hw (fun _ hw=>KC 6 hw g9h fun _ hw=>KW 17 hw (fun _ hw=>KD 1 [2]<|KV 3<|KV 0<|KR 6 hw d2y) fun _ hw=>KT 19 4<|KW 2 hw (fun _ hw=>KC 2 hw h6o fun _ hw=>KJ 5 [] hw) fun _ hw=>KJ 2 [] hw) fun _ hw=>KD 1 [2]<|KV 2<|KR 8 hw d2y
theorem c3h(bj3:Bool)(o_:GOp)(p:A6)(c:A3)(r:(A0 × A3 × Int))(hw:(bj3=true->∃y13,d4l o_.Kind c y13/\(r=(y13.1,y13.2.1,y13.2.2)))/\(bj3=false->((o_.Kind==2)=true->a1i (o_.Kind==2) p o_ c r)/\((o_.Kind==2)=false->((o_.Kind==3)=true->a1i (o_.Kind==3) p o_ c r)/\((o_.Kind==3)=false->((o_.Kind==4)=true->a1i (o_.Kind==4) p o_ c r)/\((o_.Kind==4)=false->((o_.Kind==5)=true->a1i (o_.Kind==5) p o_ c r)/\((o_.Kind==5)=false->a1i (o_.Kind==9) p o_ c r)))))):b1l bj3 o_ p c r:=
 KW 0 hw (fun _ hw=>KC 5 hw h60 fun _ hw=>KR 11 hw d2y) fun _ hw=>KW 7 hw (fun _ hw=>KJ 2 [] hw) fun _ hw=>KW 6 hw (fun _ hw=>KJ 2 [] hw) fun _ hw=>KW 6 hw (fun _ hw=>KJ 2 [] hw) fun _ hw=>KW 6 hw (fun _ hw=>KJ 2 [] hw) fun _ hw=>KJ 5 [] hw
theorem d1c(p:A6)(o_:GOp)(c:A3)(r:(A0 × A3 × Int))(hw:((o_.Kind==1)=true->∃y1,b6w c y1/\(((y1.2.2 !=0)=true->r=((⟨0,0,(⟨#[]⟩:ByteArray),([]:(List A0)),([]:(List (A0 × A0))),([]:(List (Int × A0))),([]:(List H9))⟩:A0),c,y1.2.2))/\((y1.2.2 !=0)=false->((decide (1<y1.1))=true->r=((⟨0,0,(⟨#[]⟩:ByteArray),([]:(List A0)),([]:(List (A0 × A0))),([]:(List (Int × A0))),([]:(List H9))⟩:A0),c,5))/\((decide (1<y1.1))=false->r=((⟨o_.Kind,(wU y1.1),(⟨#[]⟩:ByteArray),([]:(List A0)),([]:(List (A0 × A0))),([]:(List (Int × A0))),([]:(List H9))⟩:A0),y1.2.1,0)))))/\((o_.Kind==1)=false->((o_.Kind==6)=true->∃y2,c5i c y2/\(r=(y2.1,y2.2.1,y2.2.2)))/\((o_.Kind==6)=false->((o_.Kind==7)=true->b1l (o_.Kind==7) o_ p c r)/\((o_.Kind==7)=false->b1l (o_.Kind==8) o_ p c r)))):c6o p o_ c r:=
 fP (KW 24 hw (fun _ hw=>KC 3 hw h5y fun _ hw=>KW 17 hw (fun _ hw=>KD 1 [2]<|KV 3<|KV 0<|KR 8 hw d2y) fun _ hw=>KW 9 hw (fun _ hw=>KD 1 [2]<|KV 2<|KR 9 hw d2y) fun _ hw=>KD 3 [1,5]<|KV 6<|KR 8 hw d2y) fun _ hw=>KW 6 hw (fun _ hw=>KC 3 hw h6r fun _ hw=>KR 11 hw d2y) fun _ hw=>KW 7 hw (fun _ hw=>KJ 2 [] hw) fun _ hw=>KJ 5 [] hw)
theorem e4g(r:ByteArray):plain (e12 r)=true:=rfl
def b9w(bj3:Bool)(v:A0)(r:ByteArray):Prop:=J Tryz.prog 12 (.ret (e12 r)) 13 [(31,aB bj3),(1,.ptr 0 0)] ⟨[some (A5 v)],[],[]⟩
def c0n(bj2:Bool)(v:A0)(r:ByteArray):Prop:=J Tryz.prog 12 (.ret (e12 r)) 8 [(17,aB bj2),(9,aI v.Kind),(1,.ptr 0 0)] ⟨[some (A5 v)],[],[]⟩
theorem d1z(bj3:Bool)(v:A0)(r:ByteArray)(hw:(bj3=true->∃y17,a3w (wU (v.Text.size:Int)) y17/\(((y17.size+v.Text.size:Nat):Int)<=9223372036854775807/\(r=(y17++v.Text))))/\(bj3=false->∃y18,a3w v.Bits y18/\(r=y18))):b9w bj3 v r:=
 KW 0 hw (fun _ hw=>KD 1 [0]<|KC 4 hw g61 fun _ hw=>g9l 2 hw fun hw=>KR 7 hw e4g) fun _ hw=>KC 7 hw g61 fun _ hw=>KR 4 hw e4g
theorem d18(bj2:Bool)(v:A0)(r:ByteArray)(hw:(bj2=true->∃y11,c59 (wI v.Bits) y11/\(∃y12,a3w y11 y12/\(r=y12)))/\(bj2=false->((v.Kind==6)=true->∃y13,a84 v y13/\(∃y14,b8p y13.Bits y14/\(r=y14)))/\((v.Kind==6)=false->((v.Kind==7)=true->b9w (v.Kind==7) v r)/\((v.Kind==7)=false->b9w (v.Kind==8) v r)))):c0n bj2 v r:=
 KW 0 hw (fun _ hw=>KC 5 hw h66 fun _ hw=>KC 0 hw g61 fun _ hw=>KR 6 hw e4g) fun _ hw=>KW 6 hw (fun _ hw=>KC 3 hw g8j fun _ hw=>KC 1 hw h68 fun _ hw=>KR 6 hw e4g) fun _ hw=>KW 7 hw (fun _ hw=>KJ 2 [] hw) fun _ hw=>KJ 5 [] hw
theorem d78(v:A0)(r:ByteArray)(hw:∃y1,b3i v.Kind v y1/\(((!y1)=true->r=(⟨#[]⟩:ByteArray))/\((!y1)=false->((v.Kind==1)=true->∃y2,([(IntKind.u8.wrap v.Bits)]:List Int)=bI y2/\(r=y2))/\((v.Kind==1)=false->((v.Kind==2)=true->c0n (v.Kind==2) v r)/\((v.Kind==2)=false->c0n (v.Kind==3) v r))))):d37 v r:=
 fP (KC 12 hw h0b fun _ hw=>KW 3 hw (fun _ hw=>KR 7 hw e4g) fun _ hw=>KW 16 hw (fun _ hw=>KS 6 hw fun _ hw=>KR 6 hw e4g) fun _ hw=>KW 7 hw (fun _ hw=>KJ 2 [] hw) fun _ hw=>KJ 5 [] hw)
theorem h3j(r:Bool):plain (e13 r)=true:=rfl
theorem d17(a:A0)(b:A0)(r:Bool)(hw:∃y1,c2x a b y1/\(r=y1)):b9x a b r:=
 fP (KC 11 hw h6h fun _ hw=>KR 4 hw h3j)
theorem g4j(r:ByteArray):plain (e14 r)=true:=rfl
def c61(bj3:Bool)(v:A0)(r:ByteArray):Prop:=J Tryz.prog 14 (.ret (e14 r)) 13 [(31,aB bj3),(1,.ptr 0 0)] ⟨[some (A5 v)],[],[]⟩
theorem c6r(bj3:Bool)(v:A0)(r:ByteArray)(hw:(bj3=true->∃y17,c36 (wU (v.Text.size:Int)) y17/\(((y17.size+v.Text.size:Nat):Int)<=9223372036854775807/\(r=(y17++v.Text))))/\(bj3=false->∃y18,c36 v.Bits y18/\(r=y18))):c61 bj3 v r:=
 KW 0 hw (fun _ hw=>KD 1 [0]<|KC 4 hw h4e fun _ hw=>g9l 2 hw fun hw=>KR 7 hw g4j) fun _ hw=>KC 7 hw h4e fun _ hw=>KR 4 hw g4j
theorem g9i(r:Bool):plain (e17 r)=true:=rfl
theorem c79(v:A0)(r:Bool)(hw:∃y1,X1 v y1/\(r=(decide (y1<=5000)))):b6k v r:=
 fP (KC 9 hw g28 fun _ hw=>KR 5 hw g9i)
theorem e6x(r:(ByteArray × Int)):plain (e18 r)=true:=(c8h (A7 rfl (A7 rfl rfl)))
theorem d1f(p:A6)(name:ByteArray)(v:A0)(r:(ByteArray × Int))(hw:∃y1,c3f p name y1/\(((!y1.2)=true->r=((⟨#[]⟩:ByteArray),10))/\((!y1.2)=false->∃y2,d01 p y1.1 v y2/\(((y2 !=0)=true->r=((⟨#[]⟩:ByteArray),y2))/\((y2 !=0)=false->∃y3,a7x v y3/\((y3=true->r=((⟨#[]⟩:ByteArray),18))/\(y3=false->∃y4,b2h p y1.1 v y4/\(∃y5,a0i (⟨p,([]:(List Int))⟩:E0) y1.1 y4 y5/\(((decide (65536<(y5.out.length:Int)))=true->r=((⟨#[]⟩:ByteArray),3))/\((decide (65536<(y5.out.length:Int)))=false->∃y6,y5.out=bI y6/\(r=(y6,0)))))))))))):b9z p name v r:=
 fP (KC 12 hw h46 fun _ hw=>KW 14 hw (fun _ hw=>KR 8 hw e6x) fun _ hw=>KC 8 hw h6j fun _ hw=>KW 9 hw (fun _ hw=>KR 9 hw e6x) fun _ hw=>KC 6 hw g8p fun _ hw=>KW 2 hw (fun _ hw=>KR 8 hw e6x) fun _ hw=>KC 17 hw h4m fun _ hw=>KIN 0 2 1 hw g37 fun y5 hw=>KL 9 d2f y5.out<|KW 3 hw (fun _ hw=>KR 8 hw e6x) fun _ hw=>KS 8 hw fun _ hw=>KR 5 hw e6x)
theorem g5w(r:(Int × Bool)):plain (e19 r)=true:=(c8h (A7 rfl (A7 rfl rfl)))
def b10(ij1:Int)(name:ByteArray)(p:A6)(r:(Int × Bool)):Prop:=J Tryz.prog 19 (.ret (e19 r)) 3 [(6,aI ij1),(2,.ptr 0 0),(1,aS name)] ⟨[some (B6 p)],[],[]⟩
theorem a7z(ij1:Int)(name:ByteArray)(p:A6)(r:(Int × Bool))(hw:((decide (ij1<(p.Progs.length:Int)))=true->∃y2,p.Progs[ij1.toNat]? =some y2/\0<=ij1/\(((decide (y2.Name=name))=true->r=(ij1,true))/\((decide (y2.Name=name))=false->b10 (wI (ij1+1)) name p r)))/\((decide (ij1<(p.Progs.length:Int)))=false->r=(0,false))):b10 ij1 name p r:=
 KL 7 L7 p.Progs<|KW 3 hw (fun _ hw=>KI 9 L7 hw fun _ hw=>KW 6 hw (fun _ hw=>KR 13 hw g5w) fun _ hw=>KJ 9 [] hw) fun _ hw=>KR 12 hw g5w
theorem d1d(p:A6)(name:ByteArray)(r:(Int × Bool))(hw:b10 0 name p r):c0i p name r:=
 fP (KJ 15 [] hw)
theorem e9g(r:(A0 × Int)):plain (e20 r)=true:=(c8h (A7 (A9 r.1) (A7 rfl rfl)))
theorem a7e(p:A6)(name:ByteArray)(data:ByteArray)(l:U7)(r:(A0 × Int))(hw:∃y1,c3f p name y1/\(((!y1.2)=true->r=((⟨0,0,(⟨#[]⟩:ByteArray),([]:(List A0)),([]:(List (A0 × A0))),([]:(List (Int × A0))),([]:(List H9))⟩:A0),10))/\((!y1.2)=false->∃y2,d2a data l y2/\(((y2.2 !=0)=true->r=((⟨0,0,(⟨#[]⟩:ByteArray),([]:(List A0)),([]:(List (A0 × A0))),([]:(List (Int × A0))),([]:(List H9))⟩:A0),y2.2))/\((y2.2 !=0)=false->∃y3,X0 (⟨p,y2.1⟩:B0) y1.1 y3/\(((y3.2.2 !=0)=true->r=((⟨0,0,(⟨#[]⟩:ByteArray),([]:(List A0)),([]:(List (A0 × A0))),([]:(List (Int × A0))),([]:(List H9))⟩:A0),y3.2.2))/\((y3.2.2 !=0)=false->∃y4,a81 y3.1.c y4/\(((decide (0<y4))=true->r=((⟨0,0,(⟨#[]⟩:ByteArray),([]:(List A0)),([]:(List (A0 × A0))),([]:(List (Int × A0))),([]:(List H9))⟩:A0),18))/\((decide (0<y4))=false->r=(y3.2.1,0)))))))))):b6f p name data l r:=
 fP (KC 12 hw h46 fun _ hw=>KW 14 hw (fun _ hw=>KR 9 hw e9g) fun _ hw=>KC 6 hw h6b fun _ hw=>KW 15 hw (fun _ hw=>KR 10 hw e9g) fun _ hw=>KIO 15 hw g3h fun _ hw=>KW 15 hw (fun _ hw=>KR 10 hw e9g) fun _ hw=>KC 9 hw g8w fun _ hw=>KW 3 hw (fun _ hw=>KR 9 hw e9g) fun _ hw=>KR 10 hw e9g)
theorem h04(r:U7):plain (e21 r)=true:=(K3 r)
theorem c8k(r:U7)(hw:r=(⟨65536,16,4096,4096⟩:U7)):b6n r:=
 fP (KR 12 hw h04)
theorem g6x(r:A0):plain (e22 r)=true:=(A9 r)
def a1h(ij5:Int)(ij3:Int)(prog:Int)(p:A6)(v:A0)(lj6:(List (Int × A0)))(y1:(List H9))(y15:GOp)(r:A0):Prop:=J Tryz.prog 22 (.ret (e22 r)) 13 [(10,aI ij5),(9,.ptr 4 0),(8,aI ij3),(7,.ptr 3 0),(6,.ptr 2 0),(5,.ptr 1 0),(3,.ptr 0 0),(1,aI prog)] ⟨[some (B6 p),some (A5 v),some zV,some [aI 10,aU 0,aE,.nil,.nil,.sl (List.map B4 lj6) (.own 0),.sl (List.map J0 y1) .no],some (V6 y15)],[(lj6.length,8)],[]⟩
def a66(ij3:Int)(prog:Int)(p:A6)(v:A0)(lj4:(List (Int × A0)))(y1:(List H9))(r:A0):Prop:=J Tryz.prog 22 (.ret (e22 r)) 7 [(8,aI ij3),(7,.ptr 3 0),(6,.ptr 2 0),(5,.ptr 1 0),(3,.ptr 0 0),(1,aI prog)] ⟨[some (B6 p),some (A5 v),some zV,some [aI 10,aU 0,aE,.nil,.nil,.sl (List.map B4 lj4) (.own 0),.sl (List.map J0 y1) .no]],[(lj4.length,8)],[]⟩
theorem b5v{ij5:Int}{ij3:Int}{prog:Int}{p:A6}{v:A0}{lj6:(List (Int × A0))}{y1:(List H9)}{y15:GOp}:a77 [true,true,true,true,true] 1 [(10,aI ij5),(9,.ptr 4 0),(8,aI ij3),(7,.ptr 3 0),(6,.ptr 2 0),(5,.ptr 1 0),(3,.ptr 0 0),(1,aI prog)]=true/\a5d [true,true,true,true,true] 1 [some (B6 p),some (A5 v),some zV,some [aI 10,aU 0,aE,.nil,.nil,.sl (List.map B4 lj6) (.own 0),.sl (List.map J0 y1) .no],some (V6 y15)]=true:=⟨by first|rfl|simp,by first|rfl|simp⟩
theorem c5l{ij3:Int}{prog:Int}{p:A6}{v:A0}{lj4:(List (Int × A0))}{y1:(List H9)}:a77 [true,true,true,true] 1 [(8,aI ij3),(7,.ptr 3 0),(6,.ptr 2 0),(5,.ptr 1 0),(3,.ptr 0 0),(1,aI prog)]=true/\a5d [true,true,true,true] 1 [some (B6 p),some (A5 v),some zV,some [aI 10,aU 0,aE,.nil,.nil,.sl (List.map B4 lj4) (.own 0),.sl (List.map J0 y1) .no]]=true:=⟨by first|rfl|simp,by first|rfl|simp⟩
theorem b44(ij5:Int)(ij3:Int)(prog:Int)(p:A6)(v:A0)(lj6:(List (Int × A0)))(y1:(List H9))(y15:GOp)(r:A0)(hw:((decide (ij5<(v.Slots.length:Int)))=true->∃y20,v.Slots[ij5.toNat]? =some y20/\0<=ij5/\(((y20.1 !=y15.Num)=true->a1h (wI (ij5+1)) ij3 prog p v lj6 y1 y15 r)/\((y20.1 !=y15.Num)=false->∃y21,v.Slots[ij5.toNat]? =some y21/\0<=ij5/\(∃y22,b9p p y15 y21.2 y22/\(∃R4:Bool->Prop,(∀bz4:Bool,R4 bz4->((bz4=true->(lj6.length+[(y15.Num,y22)].length)*136<=140737488355328/\(a1h (wI (ij5+1)) ij3 prog p v (lj6++[(y15.Num,y22)]) y1 y15 r))/\(bz4=false->a1h (wI (ij5+1)) ij3 prog p v lj6 y1 y15 r)))/\(((decide (y15.Card<3))=true->R4 true)/\((decide (y15.Card<3))=false->∃y23,c17 y22 y23/\(R4 (!y23)))))))))/\((decide (ij5<(v.Slots.length:Int)))=false->a66 (wI (ij3+1)) prog p v lj6 y1 r)):a1h ij5 ij3 prog p v lj6 y1 y15 r:=
 KL 7 C1 v.Slots<|KW 3 hw (fun _ hw=>KD 6 [1,4]<|KI 3 C1 hw fun _ hw=>KW 8 hw (fun _ hw=>KJ 10 [] hw) fun _ hw=>KD 3 [0,1,4]<|KI 5 C1 hw fun _ hw=>KC 2 hw h6v fun _ hw=>KQ 11 4 kB hw (fun _ hw=>KW 2 hw (fun _ hw=>KA 8 C1 hw mE fun hw=>KJl 11 [] hw b5v) fun _ hw=>KJl 9 [] hw b5v) (fun _ key _ hw=>KE 4 key hw) fun _ key _ hw=>KC 1 hw h67 fun _ hw=>KE 2 key hw) fun _ hw=>KJl 12 [] hw c5l
theorem a7b(ij3:Int)(prog:Int)(p:A6)(v:A0)(lj4:(List (Int × A0)))(y1:(List H9))(r:A0)(hw:∃y13,p.Progs[prog.toNat]? =some y13/\0<=prog/\(((decide (ij3<(y13.Ops.length:Int)))=true->∃y14,p.Progs[prog.toNat]? =some y14/\0<=prog/\(∃y15,y14.Ops[ij3.toNat]? =some y15/\0<=ij3/\(a1h 0 ij3 prog p v lj4 y1 y15 r)))/\((decide (ij3<(y13.Ops.length:Int)))=false->r=(⟨10,0,(⟨#[]⟩:ByteArray),([]:(List A0)),([]:(List (A0 × A0))),lj4,y1⟩:A0)))):a66 ij3 prog p v lj4 y1 r:=
 KI 8 L7 hw fun y13 hw=>KL 2 c0w y13.Ops<|KW 3 hw (fun _ hw=>KI 9 L7 hw fun _ hw=>KI 3 c0w hw fun _ hw=>KJ 12 [] hw) fun _ hw=>KR 12 hw g6x
theorem d1i(p:A6)(prog:Int)(v:A0)(r:A0)(hw:(((decide (prog<0))||(decide ((p.Progs.length:Int)<=prog)))=true->r=(⟨0,0,(⟨#[]⟩:ByteArray),([]:(List A0)),([]:(List (A0 × A0))),([]:(List (Int × A0))),([]:(List H9))⟩:A0))/\(((decide (prog<0))||(decide ((p.Progs.length:Int)<=prog)))=false->∃y1,c5p v.Raws y1/\(a66 0 prog p v ([]:List (Int × A0)) y1 r))):a6q p prog v r:=
 fP (KT2 13 6 (decide (prog<0)) (fun z=>aB (z||(decide ((p.Progs.length:Int)<=prog)))) (fun _ key=>KE2 6 key) (fun _ key=>KL 3 L7 p.Progs<|KE2 2 key)<|KW 2 hw (fun _ hw=>KR 8 hw g6x) fun _ hw=>KC 6 hw h7b fun _ hw=>KOb 13 3 5 8<|KJ 0 [] hw)
theorem g45(r:Int):plain (e24 r)=true:=rfl
def a7u(ij13:Int)(ij14:Int)(v:A0)(r:Int):Prop:=J Tryz.prog 24 (.ret (e24 r)) 16 [(6,aI ij13),(3,aI ij14),(1,.ptr 0 0)] ⟨[some (A5 v)],[],[]⟩
def a72(ij11:Int)(ij12:Int)(v:A0)(r:Int):Prop:=J Tryz.prog 24 (.ret (e24 r)) 10 [(5,aI ij11),(3,aI ij12),(1,.ptr 0 0)] ⟨[some (A5 v)],[],[]⟩
def a9g(ij7:Int)(ij8:Int)(v:A0)(r:Int):Prop:=J Tryz.prog 24 (.ret (e24 r)) 4 [(4,aI ij7),(3,aI ij8),(1,.ptr 0 0)] ⟨[some (A5 v)],[],[]⟩
theorem c0t(ij13:Int)(ij14:Int)(v:A0)(r:Int)(hw:((decide (ij13<(v.Slots.length:Int)))=true->∃y29,v.Slots[ij13.toNat]? =some y29/\0<=ij13/\(∃y30,Y3 y29.2 y30/\(a7u (wI (ij13+1)) (max ij14 y30) v r)))/\((decide (ij13<(v.Slots.length:Int)))=false->((v.Kind==10)=true->r=(wI (ij14+1)))/\((v.Kind==10)=false->r=ij14))):a7u ij13 ij14 v r:=
 KL 7 C1 v.Slots<|KW 3 hw (fun _ hw=>KI 9 C1 hw fun _ hw=>KC 2 hw g3s fun _ hw=>KJ 11 [] hw) fun _ hw=>KW 13 hw (fun _ hw=>KR 13 hw g45) fun _ hw=>KR 9 hw g45
theorem c0y(ij11:Int)(ij12:Int)(v:A0)(r:Int)(hw:((decide (ij11<(v.Pairs.length:Int)))=true->∃y31,v.Pairs[ij11.toNat]? =some y31/\0<=ij11/\(∃y32,Y3 y31.1 y32/\(∃y33,v.Pairs[ij11.toNat]? =some y33/\0<=ij11/\(∃y34,Y3 y33.2 y34/\(a72 (wI (ij11+1)) (max (max ij12 y32) y34) v r)))))/\((decide (ij11<(v.Pairs.length:Int)))=false->a7u 0 ij12 v r)):a72 ij11 ij12 v r:=
 KL 7 B7 v.Pairs<|KW 3 hw (fun _ hw=>KD 4 [0]<|KI 4 B7 hw fun _ hw=>KC 2 hw g3s fun _ hw=>KI 3 B7 hw fun _ hw=>KC 2 hw g3s fun _ hw=>KJ 12 [] hw) fun _ hw=>KJ 13 [] hw
theorem c1o(ij7:Int)(ij8:Int)(v:A0)(r:Int)(hw:((decide (ij7<(v.List_.length:Int)))=true->∃y35,v.List_[ij7.toNat]? =some y35/\0<=ij7/\(∃y36,Y3 y35 y36/\(a9g (wI (ij7+1)) (max ij8 y36) v r)))/\((decide (ij7<(v.List_.length:Int)))=false->a72 0 ij8 v r)):a9g ij7 ij8 v r:=
 KL 7 F5 v.List_<|KW 3 hw (fun _ hw=>KI 9 F5 hw fun _ hw=>KC 1 hw g3s fun _ hw=>KJ 11 [] hw) fun _ hw=>KJ 13 [] hw
theorem c74(v:A0)(r:Int)(hw:a9g 0 0 v r):Y3 v r:=
 fP (KJ 19 [] hw)
theorem h1b(r:Int):plain (e25 r)=true:=rfl
def a7y(ij13:Int)(ij14:Int)(v:A0)(r:Int):Prop:=J Tryz.prog 25 (.ret (e25 r)) 16 [(6,aI ij13),(3,aI ij14),(1,.ptr 0 0)] ⟨[some (A5 v)],[],[]⟩
def a7w(ij11:Int)(ij12:Int)(v:A0)(r:Int):Prop:=J Tryz.prog 25 (.ret (e25 r)) 10 [(5,aI ij11),(3,aI ij12),(1,.ptr 0 0)] ⟨[some (A5 v)],[],[]⟩
def a9s(ij7:Int)(ij8:Int)(v:A0)(r:Int):Prop:=J Tryz.prog 25 (.ret (e25 r)) 4 [(4,aI ij7),(3,aI ij8),(1,.ptr 0 0)] ⟨[some (A5 v)],[],[]⟩
theorem c0s(ij13:Int)(ij14:Int)(v:A0)(r:Int)(hw:((decide (ij13<(v.Slots.length:Int)))=true->∃y29,v.Slots[ij13.toNat]? =some y29/\0<=ij13/\(∃y30,X1 y29.2 y30/\(a7y (wI (ij13+1)) (wI (ij14+y30)) v r)))/\((decide (ij13<(v.Slots.length:Int)))=false->r=ij14)):a7y ij13 ij14 v r:=
 KL 7 C1 v.Slots<|KW 3 hw (fun _ hw=>KI 9 C1 hw fun _ hw=>KC 2 hw g28 fun _ hw=>KJ 11 [] hw) fun _ hw=>KR 12 hw h1b
theorem c00(ij11:Int)(ij12:Int)(v:A0)(r:Int)(hw:((decide (ij11<(v.Pairs.length:Int)))=true->∃y31,v.Pairs[ij11.toNat]? =some y31/\0<=ij11/\(∃y32,X1 y31.1 y32/\(∃y33,v.Pairs[ij11.toNat]? =some y33/\0<=ij11/\(∃y34,X1 y33.2 y34/\(a7w (wI (ij11+1)) (wI (ij12+(wI (y32+y34)))) v r)))))/\((decide (ij11<(v.Pairs.length:Int)))=false->a7y 0 ij12 v r)):a7w ij11 ij12 v r:=
 KL 7 B7 v.Pairs<|KW 3 hw (fun _ hw=>KD 4 [0]<|KI 4 B7 hw fun _ hw=>KC 2 hw g28 fun _ hw=>KI 3 B7 hw fun _ hw=>KC 2 hw g28 fun _ hw=>KJ 13 [] hw) fun _ hw=>KJ 13 [] hw
theorem c1i(ij7:Int)(ij8:Int)(v:A0)(r:Int)(hw:((decide (ij7<(v.List_.length:Int)))=true->∃y35,v.List_[ij7.toNat]? =some y35/\0<=ij7/\(∃y36,X1 y35 y36/\(a9s (wI (ij7+1)) (wI (ij8+y36)) v r)))/\((decide (ij7<(v.List_.length:Int)))=false->a7w 0 ij8 v r)):a9s ij7 ij8 v r:=
 KL 7 F5 v.List_<|KW 3 hw (fun _ hw=>KI 9 F5 hw fun _ hw=>KC 1 hw g28 fun _ hw=>KJ 11 [] hw) fun _ hw=>KJ 13 [] hw
theorem c8g(v:A0)(r:Int)(hw:a9s 0 (wI (1+(v.Raws.length:Int))) v r):X1 v r:=
 fP (KL 10 a8u v.Raws<|KJ 12 [] hw)
theorem g9w(r:Int):plain (e26 r)=true:=rfl
def a32(ij13:Int)(ij14:Int)(v:A0)(r:Int):Prop:=J Tryz.prog 26 (.ret (e26 r)) 16 [(6,aI ij13),(3,aI ij14),(1,.ptr 0 0)] ⟨[some (A5 v)],[],[]⟩
def a3p(ij11:Int)(ij12:Int)(v:A0)(r:Int):Prop:=J Tryz.prog 26 (.ret (e26 r)) 10 [(5,aI ij11),(3,aI ij12),(1,.ptr 0 0)] ⟨[some (A5 v)],[],[]⟩
def a5c(ij7:Int)(ij8:Int)(v:A0)(r:Int):Prop:=J Tryz.prog 26 (.ret (e26 r)) 4 [(4,aI ij7),(3,aI ij8),(1,.ptr 0 0)] ⟨[some (A5 v)],[],[]⟩
theorem b8b(ij13:Int)(ij14:Int)(v:A0)(r:Int)(hw:((decide (ij13<(v.Slots.length:Int)))=true->∃y29,v.Slots[ij13.toNat]? =some y29/\0<=ij13/\(∃y30,S3 y29.2 y30/\(a32 (wI (ij13+1)) (max ij14 y30) v r)))/\((decide (ij13<(v.Slots.length:Int)))=false->r=ij14)):a32 ij13 ij14 v r:=
 KL 7 C1 v.Slots<|KW 3 hw (fun _ hw=>KI 9 C1 hw fun _ hw=>KC 2 hw g71 fun _ hw=>KJ 11 [] hw) fun _ hw=>KR 12 hw g9w
theorem b8f(ij11:Int)(ij12:Int)(v:A0)(r:Int)(hw:((decide (ij11<(v.Pairs.length:Int)))=true->∃y31,v.Pairs[ij11.toNat]? =some y31/\0<=ij11/\(∃y32,S3 y31.1 y32/\(∃y33,v.Pairs[ij11.toNat]? =some y33/\0<=ij11/\(∃y34,S3 y33.2 y34/\(a3p (wI (ij11+1)) (max (max ij12 y32) y34) v r)))))/\((decide (ij11<(v.Pairs.length:Int)))=false->a32 0 ij12 v r)):a3p ij11 ij12 v r:=
 KL 7 B7 v.Pairs<|KW 3 hw (fun _ hw=>KD 4 [0]<|KI 4 B7 hw fun _ hw=>KC 2 hw g71 fun _ hw=>KI 3 B7 hw fun _ hw=>KC 2 hw g71 fun _ hw=>KJ 12 [] hw) fun _ hw=>KJ 13 [] hw
theorem b9k(ij7:Int)(ij8:Int)(v:A0)(r:Int)(hw:((decide (ij7<(v.List_.length:Int)))=true->∃y35,v.List_[ij7.toNat]? =some y35/\0<=ij7/\(∃y36,S3 y35 y36/\(a5c (wI (ij7+1)) (max ij8 y36) v r)))/\((decide (ij7<(v.List_.length:Int)))=false->a3p 0 ij8 v r)):a5c ij7 ij8 v r:=
 KL 7 F5 v.List_<|KW 3 hw (fun _ hw=>KI 9 F5 hw fun _ hw=>KC 1 hw g71 fun _ hw=>KJ 11 [] hw) fun _ hw=>KJ 13 [] hw
theorem c4b(v:A0)(r:Int)(hw:a5c 0 (v.Text.size:Int) v r):S3 v r:=
 fP (KJ 22 [] hw)
theorem d8b(r:Int):plain (e30 r)=true:=rfl
theorem c8e(p:A6)(r:Int)(hw:∃y1,b8o p y1/\(((!y1)=true->r=3)/\((!y1)=false->∃y2,c2w p y2/\(((!y2)=true->r=8)/\((!y2)=false->∃y3,b7h p y3/\(((!y3)=true->r=11)/\((!y3)=false->∃y4,b9o p y4/\(((!y4)=true->r=9)/\((!y4)=false->∃y5,b80 p y5/\(((!y5)=true->r=6)/\((!y5)=false->∃y6,b3l p y6/\(((!y6)=true->r=1)/\((!y6)=false->∃y7,b9g p y7/\(((!y7)=true->r=19)/\((!y7)=false->r=0))))))))))))))):c2y p r:=
 fP (KC 11 hw h6x fun _ hw=>KW 4 hw (fun _ hw=>KR 8 hw d8b) fun _ hw=>KC 3 hw h6k fun _ hw=>KW 4 hw (fun _ hw=>KR 8 hw d8b) fun _ hw=>KC 3 hw h7h fun _ hw=>KW 4 hw (fun _ hw=>KR 8 hw d8b) fun _ hw=>KC 3 hw h6d fun _ hw=>KW 4 hw (fun _ hw=>KR 8 hw d8b) fun _ hw=>KC 3 hw h6w fun _ hw=>KW 4 hw (fun _ hw=>KR 8 hw d8b) fun _ hw=>KC 3 hw h7g fun _ hw=>KW 4 hw (fun _ hw=>KR 8 hw d8b) fun _ hw=>KC 3 hw h6e fun _ hw=>KW 4 hw (fun _ hw=>KR 8 hw d8b) fun _ hw=>KR 9 hw d8b)
theorem g3v(r:(Int × A3 × Int)):plain (e31 r)=true:=(c8h (A7 rfl (A7 (C3 r.2.1) (A7 rfl rfl))))
theorem c7w(c:A3)(r:(Int × A3 × Int))(hw:∃y1,a81 c y1/\(((decide (y1<1))=true->r=(0,c,4))/\((decide (y1<1))=false->(0<=c.At/\c.At<(c.Data.size:Int))/\(∃y2,a6x c 1 y2/\(r=((F2 c.Data c.At.toNat),y2,0)))))):b6w c r:=
 fP (KC 12 hw g8w fun _ hw=>KW 3 hw (fun _ hw=>KD 1 [0]<|KR 9 hw g3v) fun _ hw=>KD 3 [0]<|KIS 4 hw fun hw=>KC 1 hw g8e fun _ hw=>KR 7 hw g3v)
theorem g2f(r:(A0 × A3 × Int)):plain (e32 r)=true:=(c8h (A7 (A9 r.1) (A7 (C3 r.2.1) (A7 rfl rfl))))
theorem d1b(c:A3)(r:(A0 × A3 × Int))(hw:∃y1,b8s c y1/\(((y1.2.2 !=0)=true->r=((⟨0,0,(⟨#[]⟩:ByteArray),([]:(List A0)),([]:(List (A0 × A0))),([]:(List (Int × A0))),([]:(List H9))⟩:A0),c,y1.2.2))/\((y1.2.2 !=0)=false->∃y2,a84 (⟨6,y1.1,(⟨#[]⟩:ByteArray),([]:(List A0)),([]:(List (A0 × A0))),([]:(List (Int × A0))),([]:(List H9))⟩:A0) y2/\(((y2.Bits !=y1.1)=true->r=((⟨0,0,(⟨#[]⟩:ByteArray),([]:(List A0)),([]:(List (A0 × A0))),([]:(List (Int × A0))),([]:(List H9))⟩:A0),c,5))/\((y2.Bits !=y1.1)=false->r=((⟨6,y1.1,(⟨#[]⟩:ByteArray),([]:(List A0)),([]:(List (A0 × A0))),([]:(List (Int × A0))),([]:(List H9))⟩:A0),y1.2.1,0)))))):c5i c r:=
 fP (KC 11 hw h7j fun _ hw=>KW 17 hw (fun _ hw=>KD 1 [0]<|KV 3<|KV 0<|KR 6 hw g2f) fun _ hw=>KC 14 hw g8j fun _ hw=>KW 5 hw (fun _ hw=>KD 1 [0]<|KV 2<|KR 7 hw g2f) fun _ hw=>KD 3 [3,4]<|KV 2<|KR 6 hw g2f)
theorem e8w(r:(A0 × A3 × Int)):plain (e33 r)=true:=(c8h (A7 (A9 r.1) (A7 (C3 r.2.1) (A7 rfl rfl))))
theorem d5c(kind:Int)(c:A3)(r:(A0 × A3 × Int))(hw:∃y1,b6c c y1/\(((y1.2.2 !=0)=true->r=((⟨0,0,(⟨#[]⟩:ByteArray),([]:(List A0)),([]:(List (A0 × A0))),([]:(List (Int × A0))),([]:(List H9))⟩:A0),c,y1.2.2))/\((y1.2.2 !=0)=false->∃y2,a81 y1.2.1 y2/\(((decide ((wU y2)<y1.1))=true->r=((⟨0,0,(⟨#[]⟩:ByteArray),([]:(List A0)),([]:(List (A0 × A0))),([]:(List (Int × A0))),([]:(List H9))⟩:A0),c,4))/\((decide ((wU y2)<y1.1))=false->∃y3,c2n y1.2.1 (wI y1.1) y3/\(((y3.2.2 !=0)=true->r=((⟨0,0,(⟨#[]⟩:ByteArray),([]:(List A0)),([]:(List (A0 × A0))),([]:(List (Int × A0))),([]:(List H9))⟩:A0),c,y3.2.2))/\((y3.2.2 !=0)=false->∃R1:Bool->Prop,(∀bz1:Bool,R1 bz1->((bz1=true->r=((⟨0,0,(⟨#[]⟩:ByteArray),([]:(List A0)),([]:(List (A0 × A0))),([]:(List (Int × A0))),([]:(List H9))⟩:A0),c,7))/\(bz1=false->r=((⟨kind,0,y3.1,([]:(List A0)),([]:(List (A0 × A0))),([]:(List (Int × A0))),([]:(List H9))⟩:A0),y3.2.1,0))))/\(((kind==7)=true->∃y4,b9l y3.1 y4/\(R1 (!y4)))/\((kind==7)=false->R1 false))))))))):d4l kind c r:=
 fP (KC 11 hw g9h fun _ hw=>KW 17 hw (fun _ hw=>KD 1 [0]<|KV 3<|KV 0<|KR 6 hw e8w) fun _ hw=>KC 7 hw g8w fun _ hw=>KW 4 hw (fun _ hw=>KD 1 [0]<|KV 2<|KR 7 hw e8w) fun _ hw=>KC 7 hw h7d fun _ hw=>KW 16 hw (fun _ hw=>KD 1 [0]<|KV 3<|KV 0<|KR 6 hw e8w) fun _ hw=>KQ 8 4 kB hw (fun _ hw=>KW 2 hw (fun _ hw=>KD 1 [0]<|KV 2<|KR 7 hw e8w) fun _ hw=>KD 3 [3]<|KV 4<|KR 6 hw e8w) (fun _ key _ hw=>KC 1 hw h0m fun _ hw=>KE 2 key hw) fun _ key _ hw=>KE 4 key hw)
theorem g0z(r:(Int × A3 × Int)):plain (e34 r)=true:=(c8h (A7 rfl (A7 (C3 r.2.1) (A7 rfl rfl))))
theorem d1v(c:A3)(r:(Int × A3 × Int))(hw:∃y1,b6s c y1/\(((y1.2.2 !=0)=true->r=(0,c,y1.2.2))/\((y1.2.2 !=0)=false->∃y2,c5g y1.1 y2/\((((wI (y1.2.1.At - c.At)) !=y2)=true->r=(0,c,5))/\(((wI (y1.2.1.At - c.At)) !=y2)=false->r=(y1.1,y1.2.1,0)))))):b6c c r:=
 fP (KC 11 hw h6g fun _ hw=>KW 17 hw (fun _ hw=>KD 1 [0]<|KV 3<|KR 6 hw g0z) fun _ hw=>KD 4 [0,2]<|KC 6 hw h6t fun _ hw=>KW 4 hw (fun _ hw=>KD 1 [0]<|KR 9 hw g0z) fun _ hw=>KD 3 [2]<|KR 9 hw g0z)
theorem g9x(r:Int):plain (e35 r)=true:=rfl
theorem c9u(u:Int)(r:Int)(hw:r=(F0 .xor .i64 (wI (u.fdiv (2 ^ min (1:Int).toNat IntKind.u64.bits))) (wI (0 - (wI (F0 .and .u64 u 1)))))):c0p u r:=
 fP (KR 19 hw g9x)
theorem g2e(r:Bool):plain (e36 r)=true:=rfl
theorem c8n(kind:Int)(v:A0)(r:Bool)(hw:∃y1,b8z kind y1/\(∃R1:Bool->Prop,(∀bz1:Bool,R1 bz1->(∃R2:Bool->Prop,(∀bz2:Bool,R2 bz2->(((bz2||(decide (4096<(v.Text.size:Int))))=true->r=false)/\((bz2||(decide (4096<(v.Text.size:Int))))=false->((kind !=7)=true->r=true)/\((kind !=7)=false->∃y4,b9l v.Text y4/\(r=y4)))))/\((bz1=true->R2 true)/\(bz1=false->∃y3,b60 kind v.Bits y3/\(R2 (!y3))))))/\((((!y1)||(v.Kind !=kind))=true->R1 true)/\(((!y1)||(v.Kind !=kind))=false->∃y2,b7u v y2/\(R1 (!y2)))))):b3i kind v r:=
 fP (KC 10 hw g8t fun _ hw=>KT 2 5<|KQ 1 4 kB hw (fun _ hw=>KQ 1 6 kB hw (fun _ hw=>KT 1 5<|KW 2 hw (fun _ hw=>KR 7 hw g2e) fun _ hw=>KW 7 hw (fun _ hw=>KR 8 hw g2e) fun _ hw=>KC 2 hw h0m fun _ hw=>KR 5 hw g2e) (fun _ key _ hw=>KE 6 key hw) fun _ key _ hw=>KC 3 hw h7e fun _ hw=>KE 2 key hw) (fun _ key _ hw=>KE 4 key hw) fun _ key _ hw=>KC 1 hw h4z fun _ hw=>KE 2 key hw)
theorem f98(r:Bool):plain (e37 r)=true:=rfl
theorem c5w(p:A6)(enum:Int)(num:Int)(r:Bool)(hw:((((decide (enum<0))||(decide ((p.Enums.length:Int)<=enum)))||(decide (2147483647<num)))=true->r=false)/\((((decide (enum<0))||(decide ((p.Enums.length:Int)<=enum)))||(decide (2147483647<num)))=false->∃y1,p.Enums[enum.toNat]? =some y1/\0<=enum/\((y1.Open=true->r=true)/\(y1.Open=false->∃y2,a1b y1.Items (⟨86,[],[.elt [aU num] 0],by simp⟩:GFn) y2/\(r=y2))))):b0f p enum num r:=
 fP (KT2 13 6 (decide (enum<0)) (fun z=>aB (z||(decide ((p.Enums.length:Int)<=enum)))) (fun _ key=>KE2 6 key) (fun _ key=>KL 3 a0t p.Enums<|KE2 2 key)<|KT 1 3<|KW 2 hw (fun _ hw=>KR 7 hw f98) fun _ hw=>KI 7 a0t hw fun y1 hw=>KFz 6 1 [true,false,true] 0 [(7,.ptr 2 0),(5,.elt [aU num] 0)] [some (B6 p),none,some (S0 y1)] ⟨by first|rfl|simp,by first|rfl|simp⟩<|KW 4 hw (fun _ hw=>KR 9 hw f98) fun _ hw=>KC 3 hw h65 fun _ hw=>KR 5 hw f98)
theorem g2c(r:A0):plain (e41 r)=true:=(A9 r)
theorem d13(v:A0)(r:A0)(hw:((v.Kind==6)=true->∃y1,b7j v.Bits y1/\(((y1==0)=true->r=(⟨v.Kind,9221120237041090560,v.Text,v.List_,v.Pairs,v.Slots,v.Raws⟩:A0))/\((y1==0)=false->r=v)))/\((v.Kind==6)=false->r=v)):c0f v r:=
 fP (KW 13 hw (fun _ hw=>KC 2 hw h5j fun _ hw=>KW 4 hw (fun _ hw=>KR 12 hw g2c) fun _ hw=>KR 9 hw g2c) fun _ hw=>KR 17 hw g2c)
theorem h1h(r:Bool):plain (e42 r)=true:=rfl
theorem b7n(kind:Int)(r:Bool)(hw:r=((decide (1<=kind))&&(decide (kind<=9)))):c87 kind r:=
 fP (KT 10 3<|KR 4 hw h1h)
theorem g4n(r:Int):plain (e44 r)=true:=rfl
theorem d2g(u:Int)(r:Int)(hw:(((u.tmod 2)==0)=true->r=(wI (wU (u.tdiv 2))))/\(((u.tmod 2)==0)=false->r=(wI ((wI (0 - (wI (wU (u.tdiv 2))))) - 1)))):d06 u r:=
 fP (KW 13 hw (fun _ hw=>KR 10 hw g4n) fun _ hw=>KR 13 hw g4n)
theorem d6c(r:Bool):plain (e45 r)=true:=rfl
theorem d0r(kind:Int)(v:A0)(r:Bool)(hw:∃y1,c87 kind y1/\(∃R1:Bool->Prop,(∀bz1:Bool,R1 bz1->((bz1=true->r=false)/\(bz1=false->∃y3,a9f kind y3/\((y3=true->∃R2:Bool->Prop,(∀bz2:Bool,R2 bz2->(r=bz2))/\((((v.Bits==0)&&(decide ((v.Text.size:Int)<=4096)))=true->∃R3:Bool->Prop,(∀bz3:Bool,R3 bz3->(R2 bz3))/\(((kind==8)=true->R3 true)/\((kind==8)=false->∃y4,b6r v.Text y4/\(R3 y4))))/\(((v.Bits==0)&&(decide ((v.Text.size:Int)<=4096)))=false->R2 false)))/\(y3=false->((!(decide (v.Text=(⟨#[]⟩:ByteArray))))=true->r=false)/\((!(decide (v.Text=(⟨#[]⟩:ByteArray))))=false->((kind==1)=true->r=(decide (v.Bits<=1)))/\((kind==1)=false->((kind==2)=true->r=((decide ((-2147483648)<=(wI v.Bits)))&&(decide ((wI v.Bits)<=2147483647))))/\((kind==2)=false->((kind==4)=true->r=(decide (v.Bits<4294967296)))/\((kind==4)=false->((kind==9)=true->r=(decide (v.Bits<2147483648)))/\((kind==9)=false->r=true))))))))))/\((((!y1)||(v.Kind !=kind))=true->R1 true)/\(((!y1)||(v.Kind !=kind))=false->∃y2,b92 v y2/\(R1 (!y2)))))):c6f kind v r:=
 fP (KC 10 hw g92 fun _ hw=>KT 2 5<|KQ 1 4 kB hw (fun _ hw=>KW 2 hw (fun _ hw=>KR 7 hw d6c) fun _ hw=>KC 6 hw g80 fun _ hw=>KW 2 hw (fun _ hw=>KT 6 5<|KQ 1 8 kB hw (fun _ hw=>KR 5 hw d6c) (fun _ key _ hw=>KQ 3 4 kB hw (fun _ hw=>KE 1 key hw) (fun _ key _ hw=>KE 4 key hw) fun _ key _ hw=>KC 2 hw h31 fun _ hw=>KE 1 key hw) fun _ key _ hw=>KE 8 key hw) fun _ hw=>KW 10 hw (fun _ hw=>KR 7 hw d6c) fun _ hw=>KW 15 hw (fun _ hw=>KR 11 hw d6c) fun _ hw=>KW 6 hw (fun _ hw=>KT 13 3<|KR 6 hw d6c) fun _ hw=>KW 6 hw (fun _ hw=>KR 11 hw d6c) fun _ hw=>KW 6 hw (fun _ hw=>KR 11 hw d6c) fun _ hw=>KR 9 hw d6c) (fun _ key _ hw=>KE 4 key hw) fun _ key _ hw=>KC 1 hw h4c fun _ hw=>KE 2 key hw)
theorem g9r(r:ByteArray):plain (e47 r)=true:=rfl
def b1v(lj1:(List Int))(ij2:Int)(r:ByteArray):Prop:=J Tryz.prog 47 (.ret (e47 r)) 3 [(3,.sl (List.map b01 lj1) (.own 0)),(0,aU ij2)] ⟨[],[(lj1.length,1)],[]⟩
theorem b4s(lj1:(List Int))(ij2:Int)(r:ByteArray)(hw:((decide (128<=ij2))=true->(lj1.length+[(F0 .or .u8 (IntKind.u8.wrap ij2) 128)].length)*1<=140737488355328/\(b1v (lj1++[(F0 .or .u8 (IntKind.u8.wrap ij2) 128)]) (ij2.fdiv (2 ^ min (7:Int).toNat IntKind.u64.bits)) r))/\((decide (128<=ij2))=false->(lj1.length+[(IntKind.u8.wrap ij2)].length)*1<=140737488355328/\(∃y2,(lj1++[(IntKind.u8.wrap ij2)])=bI y2/\(r=y2)))):b1v lj1 ij2 r:=
 KW 8 hw (fun _ hw=>KA 10 d2f hw mE fun hw=>KJ 10 [] hw) fun _ hw=>KA 11 d2f hw mE fun hw=>KS 0 hw fun _ hw=>KR 4 hw g9r
theorem d0o(u:Int)(r:ByteArray)(hw:b1v ([]:List Int) u r):a3w u r:=
 fP (KO 13 3 1<|KJ 0 [] hw)
theorem g96(r:Int):plain (e48 r)=true:=rfl
theorem c99(n:Int)(r:Int)(hw:r=(F0 .xor .u64 (wU ((wU n)*2 ^ min (1:Int).toNat IntKind.u64.bits)) (wU (n.fdiv (2 ^ min (63:Int).toNat IntKind.i64.bits))))):c59 n r:=
 fP (KR 18 hw g96)
theorem h2y(r:ByteArray):plain (e49 r)=true:=rfl
def a7a(ij1:Int)(u:Int)(lj2:(List Int))(r:ByteArray):Prop:=J Tryz.prog 49 (.ret (e49 r)) 4 [(8,aI ij1),(7,aI (8:Int)),(3,.row 0 0 1 8 8),(0,aU u)] ⟨[some (cellsOf b01 lj2)],[],[]⟩
theorem b1j(ij1:Int)(u:Int)(lj2:(List Int))(r:ByteArray)(hw:((decide (ij1<(8:Int)))=true->0<=(wI (8*ij1))/\((0<=ij1/\ij1<(8:Int))/\(ij1.toNat<lj2.length/\(a7a (wI (ij1+1)) u (lj2.set ij1.toNat (IntKind.u8.wrap (u.fdiv (2 ^ min (wI (8*ij1)).toNat IntKind.u64.bits)))) r))))/\((decide (ij1<(8:Int)))=false->lj2.length=8/\(∃y2,lj2=bI y2/\(r=y2)))):a7a ij1 u lj2 r:=
 KW 7 hw (fun _ hw=>KB 16 hw fun hw=>KRI 1 1 hw fun hw=>KRS 0 d2f (IntKind.u8.wrap (u.fdiv (2 ^ min (wI (8*ij1)).toNat IntKind.u64.bits))) hw fun hw=>KJ 8 [] hw) fun _ hw=>KDf 6 d2f 0 [false] 0 1 [(3,.sl (List.map b01 lj2) .no)] [none] ⟨by first|rfl|simp,by first|rfl|simp⟩ hw fun hw=>KS 2 hw fun _ hw=>KR 4 hw h2y
theorem c6i(u:Int)(r:ByteArray)(hw:(0<=(8:Int)/\(8:Int)<=(8:Int)/\(8:Int)*1<=140737488355328)/\(a7a 0 u (List.replicate 8 0) r)):b8p u r:=
 fP (KM 7 d2f 0 hw fun hw=>KJ 13 [] hw)
theorem g1r(r:A0):plain (e50 r)=true:=(A9 r)
theorem c8o(v:A0)(r:A0)(hw:((v.Kind==6)=true->∃y1,b4t v.Bits y1/\(((y1==0)=true->r=(⟨v.Kind,9221120237041090560,v.Text,v.List_,v.Pairs,v.Slots,v.Raws⟩:A0))/\((y1==0)=false->r=v)))/\((v.Kind==6)=false->r=v)):a84 v r:=
 fP (KW 13 hw (fun _ hw=>KC 2 hw h5h fun _ hw=>KW 4 hw (fun _ hw=>KR 12 hw g1r) fun _ hw=>KR 9 hw g1r) fun _ hw=>KR 17 hw g1r)
theorem g9e(r:Bool):plain (e51 r)=true:=rfl
theorem c7u(a:A0)(b:A0)(r:Bool)(hw:∃y1,a1r a b y1/\(r=(y1==0))):c2x a b r:=
 fP (KC 11 hw g02 fun _ hw=>KR 5 hw g9e)
theorem h28(r:ByteArray):plain (e52 r)=true:=rfl
def b4z(lj1:(List Int))(ij2:Int)(r:ByteArray):Prop:=J Tryz.prog 52 (.ret (e52 r)) 3 [(3,.sl (List.map b01 lj1) (.own 0)),(0,aU ij2)] ⟨[],[(lj1.length,1)],[]⟩
theorem b6a(lj1:(List Int))(ij2:Int)(r:ByteArray)(hw:((decide (128<=ij2))=true->(lj1.length+[(IntKind.u8.wrap (wU ((ij2.tmod 128)+128)))].length)*1<=140737488355328/\(b4z (lj1++[(IntKind.u8.wrap (wU ((ij2.tmod 128)+128)))]) (wU (ij2.tdiv 128)) r))/\((decide (128<=ij2))=false->(lj1.length+[(IntKind.u8.wrap ij2)].length)*1<=140737488355328/\(∃y2,(lj1++[(IntKind.u8.wrap ij2)])=bI y2/\(r=y2)))):b4z lj1 ij2 r:=
 KW 8 hw (fun _ hw=>KA 11 d2f hw mE fun hw=>KJ 10 [] hw) fun _ hw=>KA 11 d2f hw mE fun hw=>KS 0 hw fun _ hw=>KR 4 hw h28
theorem d2w(u:Int)(r:ByteArray)(hw:b4z ([]:List Int) u r):c36 u r:=
 fP (KO 13 3 1<|KJ 0 [] hw)
theorem h3i(r:(Int × Bool)):plain (e55 r)=true:=(c8h (A7 rfl (A7 rfl rfl)))
theorem d2p(p:A6)(name:ByteArray)(r:(Int × Bool))(hw:∃y1,a27 p.Progs (⟨100,[],[.elt [aS name] 0],by simp⟩:GFn) y1/\(r=((max y1 0),(decide (0<=y1))))):c3f p name r:=
 fP (KFz 9 1 [true,false] 0 [(3,.elt [aS name] 0),(2,.ptr 0 0)] [some (B6 p),none] ⟨by first|rfl|simp,by first|rfl|simp⟩<|KC 4 hw h6a fun _ hw=>KR 14 hw h3i)
theorem f4s(r:Int):plain (e56 r)=true:=rfl
theorem d2s(p:A6)(prog:Int)(v:A0)(r:Int)(hw:(((decide (prog<0))||(decide ((p.Progs.length:Int)<=prog)))=true->r=10)/\(((decide (prog<0))||(decide ((p.Progs.length:Int)<=prog)))=false->∃y1,p.Progs[prog.toNat]? =some y1/\0<=prog/\(∃y2,P8 (⟨p⟩:C7) y1 v 1 y2/\(((y2 !=0)=true->r=y2)/\((y2 !=0)=false->∃y3,b2t v y3/\(((decide (4096<y3))=true->r=3)/\((decide (4096<y3))=false->r=0))))))):d01 p prog v r:=
 fP (KT2 13 6 (decide (prog<0)) (fun z=>aB (z||(decide ((p.Progs.length:Int)<=prog)))) (fun _ key=>KE2 6 key) (fun _ key=>KL 3 L7 p.Progs<|KE2 2 key)<|KW 2 hw (fun _ hw=>KR 7 hw f4s) fun _ hw=>KD 4 [0,1]<|KI 5 L7 hw fun _ hw=>KC 2 hw g5p fun _ hw=>KW 10 hw (fun _ hw=>KR 8 hw f4s) fun _ hw=>KC 6 hw g6p fun _ hw=>KW 3 hw (fun _ hw=>KR 7 hw f4s) fun _ hw=>KR 8 hw f4s)
theorem e6v(r:Bool):plain (e57 r)=true:=rfl
def b7r(ij7:Int)(v:A0)(r:Bool):Prop:=JP Tryz.prog 57 (e57 r) 24 [(37,aI ij7),(36,aI (v.Pairs.length:Int)),(35,.sl (List.map A8 v.Pairs) .no)]
def b7v(ij6:Int)(v:A0)(r:Bool):Prop:=J Tryz.prog 57 (.ret (e57 r)) 15 [(27,aI ij6),(26,aI (v.List_.length:Int)),(25,.sl (List.map C0 v.List_) .no),(1,.ptr 0 0)] ⟨[some (A5 v)],[],[]⟩
def b88(ij4:Int)(v:A0)(r:Bool):Prop:=J Tryz.prog 57 (.ret (e57 r)) 6 [(16,aI ij4),(15,aI (v.Slots.length:Int)),(14,.sl (List.map B4 v.Slots) .no),(1,.ptr 0 0)] ⟨[some (A5 v)],[],[]⟩
theorem b6e{ij7:Int}{v:A0}:a77 [] 0 [(37,aI ij7),(36,aI (v.Pairs.length:Int)),(35,.sl (List.map A8 v.Pairs) .no)]=true/\a5d [] 0 []=true:=⟨by first|rfl|simp,by first|rfl|simp⟩
theorem c5e{ij6:Int}{v:A0}:a77 [true] 0 [(27,aI ij6),(26,aI (v.List_.length:Int)),(25,.sl (List.map C0 v.List_) .no),(1,.ptr 0 0)]=true/\a5d [true] 0 [some (A5 v)]=true:=⟨by first|rfl|simp,by first|rfl|simp⟩
theorem c7q{ij4:Int}{v:A0}:a77 [true] 0 [(16,aI ij4),(15,aI (v.Slots.length:Int)),(14,.sl (List.map B4 v.Slots) .no),(1,.ptr 0 0)]=true/\a5d [true] 0 [some (A5 v)]=true:=⟨by first|rfl|simp,by first|rfl|simp⟩
theorem c4d(ij7:Int)(v:A0)(r:Bool)(hw:((decide (ij7<(v.Pairs.length:Int)))=true->∃y23,v.Pairs[ij7.toNat]? =some y23/\0<=ij7/\(∃y24,a7x y23.2 y24/\((y24=true->r=true)/\(y24=false->b7r (wI (ij7+1)) v r))))/\((decide (ij7<(v.Pairs.length:Int)))=false->r=false)):b7r ij7 v r:=
 KW 7 hw (fun _ hw=>KI 6 B7 hw fun _ hw=>KC 9 hw g8p fun _ hw=>KW 2 hw (fun _ hw=>KR 11 hw e6v) fun _ hw=>KJl 8 [] hw b6e) fun _ hw=>KR 11 hw e6v
theorem c3m(ij6:Int)(v:A0)(r:Bool)(hw:((decide (ij6<(v.List_.length:Int)))=true->∃y25,v.List_[ij6.toNat]? =some y25/\0<=ij6/\(∃y26,a7x y25 y26/\((y26=true->r=true)/\(y26=false->b7v (wI (ij6+1)) v r))))/\((decide (ij6<(v.List_.length:Int)))=false->b7r 0 v r)):b7v ij6 v r:=
 KW 7 hw (fun _ hw=>KI 6 F5 hw fun _ hw=>KC 8 hw g8p fun _ hw=>KW 2 hw (fun _ hw=>KR 11 hw e6v) fun _ hw=>KJl 8 [] hw c5e) fun _ hw=>KL 10 B7 v.Pairs<|KJl 5 [] hw b6e
theorem c6d(ij4:Int)(v:A0)(r:Bool)(hw:((decide (ij4<(v.Slots.length:Int)))=true->∃y27,v.Slots[ij4.toNat]? =some y27/\0<=ij4/\(∃y28,a7x y27.2 y28/\((y28=true->r=true)/\(y28=false->b88 (wI (ij4+1)) v r))))/\((decide (ij4<(v.Slots.length:Int)))=false->b7v 0 v r)):b88 ij4 v r:=
 KW 7 hw (fun _ hw=>KI 6 C1 hw fun _ hw=>KC 9 hw g8p fun _ hw=>KW 2 hw (fun _ hw=>KR 11 hw e6v) fun _ hw=>KJl 8 [] hw c7q) fun _ hw=>KL 10 F5 v.List_<|KJ 5 [] hw
theorem d2x(v:A0)(r:Bool)(hw:((decide (0<(v.Raws.length:Int)))=true->r=true)/\((decide (0<(v.Raws.length:Int)))=false->b88 0 v r)):a7x v r:=
 fP (KL 11 a8u v.Raws<|KW 3 hw (fun _ hw=>KR 7 hw e6v) fun _ hw=>KL 7 C1 v.Slots<|KJ 5 [] hw)
theorem g88(r:E0):plain (e58 r)=true/\(N6 r).all ok1=true/\lowL [true] 1 (N6 r)=true/\(a30 r).length=1:=⟨g7o r,a3v _,c13 _,rfl⟩
def T9(ij46:Int)(lj42:(List A0))(ij38:Int)(ij25:Int)(y1:B9)(lj47:(List B9))(lj48:(List W4))(lj49:(List Int))(v:A0)(y46:GOp)(r:E0):Prop:=J Tryz.prog 58 (.io 1 (e58 r) (N6 r) (a30 r)) 18 [(84,aI ij46),(83,aI (lj42.length:Int)),(82,.sl (List.map C0 lj42) .no),(6,aI ij38),(8,.ptr 2 0),(25,aI ij25),(24,aI (y1.Ops.length:Int)),(23,.sl (List.map V6 y1.Ops) .no),(5,.ptr 1 0),(0,.ptr 0 0)] ⟨[some [.sl (List.map E3 lj47) .no,.sl (List.map S0 lj48) .no,.sl (List.map b01 lj49) (.own 0)],some (A5 v),some (V6 y46)],[(lj49.length,1)],[]⟩
def T7(ij50:Int)(lj43:(List (A0 × A0)))(ij38:Int)(ij25:Int)(y1:B9)(lj51:(List B9))(lj52:(List W4))(lj53:(List Int))(v:A0)(y46:GOp)(r:E0):Prop:=J Tryz.prog 58 (.io 1 (e58 r) (N6 r) (a30 r)) 26 [(105,aI ij50),(104,aI (lj43.length:Int)),(103,.sl (List.map A8 lj43) .no),(6,aI ij38),(8,.ptr 2 0),(25,aI ij25),(24,aI (y1.Ops.length:Int)),(23,.sl (List.map V6 y1.Ops) .no),(5,.ptr 1 0),(0,.ptr 0 0)] ⟨[some [.sl (List.map E3 lj51) .no,.sl (List.map S0 lj52) .no,.sl (List.map b01 lj53) (.own 0)],some (A5 v),some (V6 y46)],[(lj53.length,1)],[]⟩
def U1(ij38:Int)(bz4:Bool)(ij25:Int)(y1:B9)(lj27:(List B9))(lj28:(List W4))(lj29:(List Int))(v:A0)(y46:GOp)(ij39:Int)(ij40:Int)(sj41:ByteArray)(lj42:(List A0))(lj43:(List (A0 × A0)))(lj44:(List (Int × A0)))(lj45:(List H9))(r:E0):Prop:=J Tryz.prog 58 (.io 1 (e58 r) (N6 r) (a30 r)) 10 [(6,aI ij38),(10,.ptr 3 0),(9,aB bz4),(8,.ptr 2 0),(25,aI ij25),(24,aI (y1.Ops.length:Int)),(23,.sl (List.map V6 y1.Ops) .no),(5,.ptr 1 0),(0,.ptr 0 0)] ⟨[some [.sl (List.map E3 lj27) .no,.sl (List.map S0 lj28) .no,.sl (List.map b01 lj29) (.own 0)],some (A5 v),some (V6 y46),some [aI ij39,aU ij40,aS sj41,.sl (List.map C0 lj42) .no,.sl (List.map A8 lj43) .no,.sl (List.map B4 lj44) .no,.sl (List.map J0 lj45) .no]],[(lj29.length,1)],[]⟩
def C6(ij25:Int)(y1:B9)(ij26:Int)(lj27:(List B9))(lj28:(List W4))(lj29:(List Int))(v:A0)(r:E0):Prop:=J Tryz.prog 58 (.io 1 (e58 r) (N6 r) (a30 r)) 3 [(25,aI ij25),(24,aI (y1.Ops.length:Int)),(23,.sl (List.map V6 y1.Ops) .no),(6,aI ij26),(5,.ptr 1 0),(0,.ptr 0 0)] ⟨[some [.sl (List.map E3 lj27) .no,.sl (List.map S0 lj28) .no,.sl (List.map b01 lj29) (.own 0)],some (A5 v)],[(lj29.length,1)],[]⟩
theorem a4a{ij46:Int}{lj42:(List A0)}{ij38:Int}{ij25:Int}{y1:B9}{lj47:(List B9)}{lj48:(List W4)}{lj49:(List Int)}{v:A0}{y46:GOp}:a77 [true,true,true] 1 [(84,aI ij46),(83,aI (lj42.length:Int)),(82,.sl (List.map C0 lj42) .no),(6,aI ij38),(8,.ptr 2 0),(25,aI ij25),(24,aI (y1.Ops.length:Int)),(23,.sl (List.map V6 y1.Ops) .no),(5,.ptr 1 0),(0,.ptr 0 0)]=true/\a5d [true,true,true] 1 [some [.sl (List.map E3 lj47) .no,.sl (List.map S0 lj48) .no,.sl (List.map b01 lj49) (.own 0)],some (A5 v),some (V6 y46)]=true:=⟨by first|rfl|simp,by first|rfl|simp⟩
theorem a33{ij50:Int}{lj43:(List (A0 × A0))}{ij38:Int}{ij25:Int}{y1:B9}{lj51:(List B9)}{lj52:(List W4)}{lj53:(List Int)}{v:A0}{y46:GOp}:a77 [true,true,true] 1 [(105,aI ij50),(104,aI (lj43.length:Int)),(103,.sl (List.map A8 lj43) .no),(6,aI ij38),(8,.ptr 2 0),(25,aI ij25),(24,aI (y1.Ops.length:Int)),(23,.sl (List.map V6 y1.Ops) .no),(5,.ptr 1 0),(0,.ptr 0 0)]=true/\a5d [true,true,true] 1 [some [.sl (List.map E3 lj51) .no,.sl (List.map S0 lj52) .no,.sl (List.map b01 lj53) (.own 0)],some (A5 v),some (V6 y46)]=true:=⟨by first|rfl|simp,by first|rfl|simp⟩
theorem M9{ij25:Int}{y1:B9}{ij26:Int}{lj27:(List B9)}{lj28:(List W4)}{lj29:(List Int)}{v:A0}:a77 [true,true] 1 [(25,aI ij25),(24,aI (y1.Ops.length:Int)),(23,.sl (List.map V6 y1.Ops) .no),(6,aI ij26),(5,.ptr 1 0),(0,.ptr 0 0)]=true/\a5d [true,true] 1 [some [.sl (List.map E3 lj27) .no,.sl (List.map S0 lj28) .no,.sl (List.map b01 lj29) (.own 0)],some (A5 v)]=true:=⟨by first|rfl|simp,by first|rfl|simp⟩
theorem a2s(ij46:Int)(lj42:(List A0))(ij38:Int)(ij25:Int)(y1:B9)(lj47:(List B9))(lj48:(List W4))(lj49:(List Int))(v:A0)(y46:GOp)(r:E0)(hw:((decide (ij46<(lj42.length:Int)))=true->∃y75,lj42[ij46.toNat]? =some y75/\0<=ij46/\(∃y76,a0a (⟨(⟨lj47,lj48⟩:A6),lj49⟩:E0) y46 y75 y76/\(T9 (wI (ij46+1)) lj42 ij38 ij25 y1 y76.p.Progs y76.p.Enums y76.out v y46 r)))/\((decide (ij46<(lj42.length:Int)))=false->C6 (wI (ij25+1)) y1 ij38 lj47 lj48 lj49 v r)):T9 ij46 lj42 ij38 ij25 y1 lj47 lj48 lj49 v y46 r:=
 KW 7 hw (fun _ hw=>KI 6 F5 hw fun _ hw=>KI1 9 hw e1q fun _ hw=>KJl 8 [] hw a4a) fun _ hw=>KJl 12 [] hw M9
theorem a3b(ij50:Int)(lj43:(List (A0 × A0)))(ij38:Int)(ij25:Int)(y1:B9)(lj51:(List B9))(lj52:(List W4))(lj53:(List Int))(v:A0)(y46:GOp)(r:E0)(hw:((decide (ij50<(lj43.length:Int)))=true->∃y83,lj43[ij50.toNat]? =some y83/\0<=ij50/\(∃y84,d37 y83.1 y84/\(∃y85,Y0 (⟨(⟨lj51,lj52⟩:A6),lj53⟩:E0) y84 y85/\(∃y86,a0a y85 y46 y83.2 y86/\(T7 (wI (ij50+1)) lj43 ij38 ij25 y1 y86.p.Progs y86.p.Enums y86.out v y46 r)))))/\((decide (ij50<(lj43.length:Int)))=false->C6 (wI (ij25+1)) y1 ij38 lj51 lj52 lj53 v r)):T7 ij50 lj43 ij38 ij25 y1 lj51 lj52 lj53 v y46 r:=
 KW 7 hw (fun _ hw=>KI 6 B7 hw fun _ hw=>KC 10 hw h4s fun _ hw=>KI1 0 hw d24 fun _ hw=>KI1 7 hw e1q fun _ hw=>KJl 8 [] hw a33) fun _ hw=>KJl 12 [] hw M9
theorem b2k(ij38:Int)(bz4:Bool)(ij25:Int)(y1:B9)(lj27:(List B9))(lj28:(List W4))(lj29:(List Int))(v:A0)(y46:GOp)(ij39:Int)(ij40:Int)(sj41:ByteArray)(lj42:(List A0))(lj43:(List (A0 × A0)))(lj44:(List (Int × A0)))(lj45:(List H9))(r:E0)(hw:((y46.Card==1)=true->∃y70,a0a (⟨(⟨lj27,lj28⟩:A6),lj29⟩:E0) y46 (⟨ij39,ij40,sj41,lj42,lj43,lj44,lj45⟩:A0) y70/\(C6 (wI (ij25+1)) y1 ij38 y70.p.Progs y70.p.Enums y70.out v r))/\((y46.Card==1)=false->((y46.Card==4)=true->∃y71,a3w (wU (lj42.length:Int)) y71/\(∃y72,Y0 (⟨(⟨lj27,lj28⟩:A6),lj29⟩:E0) y71 y72/\(T9 0 lj42 ij38 ij25 y1 y72.p.Progs y72.p.Enums y72.out v y46 r)))/\((y46.Card==4)=false->((y46.Card==5)=true->∃y77,a3w (wU (lj43.length:Int)) y77/\(∃y78,Y0 (⟨(⟨lj27,lj28⟩:A6),lj29⟩:E0) y77 y78/\(T7 0 lj43 ij38 ij25 y1 y78.p.Progs y78.p.Enums y78.out v y46 r)))/\((y46.Card==5)=false->((!bz4)=true->∃y87,Y0 (⟨(⟨lj27,lj28⟩:A6),lj29⟩:E0) (⟨#[0]⟩:ByteArray) y87/\(C6 (wI (ij25+1)) y1 ij38 y87.p.Progs y87.p.Enums y87.out v r))/\((!bz4)=false->∃y88,Y0 (⟨(⟨lj27,lj28⟩:A6),lj29⟩:E0) (⟨#[1]⟩:ByteArray) y88/\(∃y89,a0a y88 y46 (⟨ij39,ij40,sj41,lj42,lj43,lj44,lj45⟩:A0) y89/\(C6 (wI (ij25+1)) y1 ij38 y89.p.Progs y89.p.Enums y89.out v r))))))):U1 ij38 bz4 ij25 y1 lj27 lj28 lj29 v y46 ij39 ij40 sj41 lj42 lj43 lj44 lj45 r:=
 KW 13 hw (fun _ hw=>KI1 4 hw e1q fun _ hw=>KJl 9 [] hw M9) fun _ hw=>KW 6 hw (fun _ hw=>KL 5 F5 lj42<|KC 1 hw g61 fun _ hw=>KI1 0 hw d24 fun _ hw=>KL 6 F5 lj42<|KJl 5 [] hw a4a) fun _ hw=>KW 6 hw (fun _ hw=>KL 5 B7 lj43<|KC 1 hw g61 fun _ hw=>KI1 0 hw d24 fun _ hw=>KL 6 B7 lj43<|KJl 5 [] hw a33) fun _ hw=>KW 7 hw (fun _ hw=>KI1 3 hw d24 fun _ hw=>KJl 12 [] hw M9) fun _ hw=>KI1 5 hw d24 fun _ hw=>KI1 6 hw e1q fun _ hw=>KJl 9 [] hw M9
theorem Y9(ij25:Int)(y1:B9)(ij26:Int)(lj27:(List B9))(lj28:(List W4))(lj29:(List Int))(v:A0)(r:E0)(hw:((decide (ij25<(y1.Ops.length:Int)))=true->∃y46,y1.Ops[ij25.toNat]? =some y46/\0<=ij25/\(∃R4:Bool->Prop,(∀bz4:Bool,R4 bz4->((bz4=true->∃y49,v.Slots[ij26.toNat]? =some y49/\0<=ij26/\(U1 (wI (ij26+1)) bz4 ij25 y1 lj27 lj28 lj29 v y46 y49.2.Kind y49.2.Bits y49.2.Text y49.2.List_ y49.2.Pairs y49.2.Slots y49.2.Raws r))/\(bz4=false->U1 ij26 bz4 ij25 y1 lj27 lj28 lj29 v y46 0 0 (⟨#[]⟩:ByteArray) ([]:(List A0)) ([]:(List (A0 × A0))) ([]:(List (Int × A0))) ([]:(List H9)) r)))/\(((decide (ij26<(v.Slots.length:Int)))=true->∃y48,v.Slots[ij26.toNat]? =some y48/\0<=ij26/\(R4 (y48.1==y46.Num)))/\((decide (ij26<(v.Slots.length:Int)))=false->R4 false))))/\((decide (ij25<(y1.Ops.length:Int)))=false->r=(⟨(⟨lj27,lj28⟩:A6),lj29⟩:E0))):C6 ij25 y1 ij26 lj27 lj28 lj29 v r:=
 KW 7 hw (fun _ hw=>KI 6 c0w hw fun _ hw=>KD 6 [1,2]<|KL 3 C1 v.Slots<|KQ 2 10 kB hw (fun _ hw=>KW 15 hw (fun _ hw=>KI 5 C1 hw fun _ hw=>KJ 11 [] hw) fun _ hw=>KNb 2 3 3<|KNb 0 3 4<|KNb 0 3 5<|KNb 0 3 6<|KJ 0 [] hw) (fun _ key _ hw=>KI 3 C1 hw fun _ hw=>KE 6 key hw) fun _ key _ hw=>KE 10 key hw) fun _ hw=>KRi 4 hw g88
theorem b65(w:E0)(prog:Int)(v:A0)(r:E0)(hw:∃y1,w.p.Progs[prog.toNat]? =some y1/\0<=prog/\(C6 0 y1 0 w.p.Progs w.p.Enums w.out v r)):a0i w prog v r:=
 fIO (KI 18 L7 hw fun y1 hw=>KL 2 c0w y1.Ops<|KJ 5 [] hw)
theorem g16(r:A0):plain (e59 r)=true:=(A9 r)
def a91(ij1:Int)(y1:(List (Int × A0)))(prog:Int)(p:A6)(lj2:(List (Int × A0)))(r:A0):Prop:=J Tryz.prog 59 (.ret (e59 r)) 7 [(32,aI ij1),(31,aI (y1.length:Int)),(30,.sl (List.map B4 y1) .no),(7,.ptr 3 0),(6,.ptr 2 0),(3,.ptr 0 0),(1,aI prog)] ⟨[some (B6 p),none,some zV,some [aI 10,aU 0,aE,.nil,.nil,.sl (List.map B4 lj2) (.own 0),.sl (List.map J0 ([]:List H9)) .no]],[(lj2.length,8)],[]⟩
def d8g(ij3:Int)(y12:(List (Int × A0)))(prog:Int)(p:A6)(v:A0)(lj4:(List (Int × A0)))(r:A0):Prop:=J Tryz.prog 59 (.ret (e59 r)) 7 [(32,aI ij3),(31,aI (y12.length:Int)),(30,.sl (List.map B4 y12) .no),(7,.ptr 4 0),(6,.ptr 2 0),(3,.ptr 0 0),(1,aI prog)] ⟨[some (B6 p),none,some zV,some (cellsOf J0 v.Raws),some [aI 10,aU 0,aE,.nil,.nil,.sl (List.map B4 lj4) (.own 0),.row 3 0 4 v.Raws.length v.Raws.length]],[(lj4.length,8)],[]⟩
theorem b02{ij1:Int}{y1:(List (Int × A0))}{prog:Int}{p:A6}{lj2:(List (Int × A0))}:a77 [true,false,true,true] 1 [(32,aI ij1),(31,aI (y1.length:Int)),(30,.sl (List.map B4 y1) .no),(7,.ptr 3 0),(6,.ptr 2 0),(3,.ptr 0 0),(1,aI prog)]=true/\a5d [true,false,true,true] 1 [some (B6 p),none,some zV,some [aI 10,aU 0,aE,.nil,.nil,.sl (List.map B4 lj2) (.own 0),.sl (List.map J0 ([]:List H9)) .no]]=true:=⟨by first|rfl|simp,by first|rfl|simp⟩
theorem c8p{ij3:Int}{y12:(List (Int × A0))}{prog:Int}{p:A6}{v:A0}{lj4:(List (Int × A0))}:a77 [true,false,true,true,true] 1 [(32,aI ij3),(31,aI (y12.length:Int)),(30,.sl (List.map B4 y12) .no),(7,.ptr 4 0),(6,.ptr 2 0),(3,.ptr 0 0),(1,aI prog)]=true/\a5d [true,false,true,true,true] 1 [some (B6 p),none,some zV,some (cellsOf J0 v.Raws),some [aI 10,aU 0,aE,.nil,.nil,.sl (List.map B4 lj4) (.own 0),.row 3 0 4 v.Raws.length v.Raws.length]]=true:=⟨by first|rfl|simp,by first|rfl|simp⟩
theorem b52(ij1:Int)(y1:(List (Int × A0)))(prog:Int)(p:A6)(lj2:(List (Int × A0)))(r:A0)(hw:((decide (ij1<(y1.length:Int)))=true->∃y7,y1[ij1.toNat]? =some y7/\0<=ij1/\(∃y8,p.Progs[prog.toNat]? =some y8/\0<=prog/\(∃y9,c2s y8 y7.1 y9/\(∃y10,b49 p y9.1 y7.2 y10/\(∃R2:Bool->Prop,(∀bz2:Bool,R2 bz2->((bz2=true->(lj2.length+[(y7.1,y10)].length)*136<=140737488355328/\(a91 (wI (ij1+1)) y1 prog p (lj2++[(y7.1,y10)]) r))/\(bz2=false->a91 (wI (ij1+1)) y1 prog p lj2 r)))/\(((!(((y9.1.Card==3)||(y9.1.Card==4))||(y9.1.Card==5)))=true->R2 true)/\((!(((y9.1.Card==3)||(y9.1.Card==4))||(y9.1.Card==5)))=false->∃y11,c6l y10 y11/\(R2 (!y11)))))))))/\((decide (ij1<(y1.length:Int)))=false->Z5 (⟨111,[],[],rfl⟩:GFn)/\(r=(⟨10,0,(⟨#[]⟩:ByteArray),([]:(List A0)),([]:(List (A0 × A0))),lj2,([]:List H9)⟩:A0)))):a91 ij1 y1 prog p lj2 r:=
 KW 7 hw (fun _ hw=>KI 6 C1 hw fun _ hw=>KD 6 [0,4]<|KI 3 L7 hw fun _ hw=>KC 3 hw e91 fun _ hw=>KV 4<|KT 10 4<|KT 1 4<|KC 9 hw h0w fun _ hw=>KQ 9 4 kB hw (fun _ hw=>KW 2 hw (fun _ hw=>KA 8 C1 hw mE fun hw=>KJl 10 [] hw b02) fun _ hw=>KJl 8 [] hw b02) (fun _ key _ hw=>KE 4 key hw) fun _ key _ hw=>KC 1 hw h2r fun _ hw=>KE 2 key hw) fun _ hw=>KC0 9 hw g4a fun hw=>KR 9 hw g16
theorem d2t(p:A6)(prog:Int)(v:A0)(r:A0)(hw:(v.Raws=[]->b0d v.Raws ([]:List H9)/\((((decide (prog<0))||(decide ((p.Progs.length:Int)<=prog)))=true->r=(⟨10,0,(⟨#[]⟩:ByteArray),([]:(List A0)),([]:(List (A0 × A0))),([]:(List (Int × A0))),([]:List H9)⟩:A0))/\(((decide (prog<0))||(decide ((p.Progs.length:Int)<=prog)))=false->∃y1,b3p v.Slots y1/\(a91 0 y1 prog p ([]:List (Int × A0)) r))))/\(v.Raws≠[]->b5b v.Raws/\((((decide (prog<0))||(decide ((p.Progs.length:Int)<=prog)))=true->v.Raws.length=v.Raws.length/\(r=(⟨10,0,(⟨#[]⟩:ByteArray),([]:(List A0)),([]:(List (A0 × A0))),([]:(List (Int × A0))),v.Raws⟩:A0)))/\(((decide (prog<0))||(decide ((p.Progs.length:Int)<=prog)))=false->∃y12,b3p v.Slots y12/\(d8g 0 y12 prog p v ([]:List (Int × A0)) r))))):b2h p prog v r:=
 fP (h2h v.Raws (fun hb1=>KC0 11 (hw.1 hb1) h29 fun hw=>KT2 11 6 (decide (prog<0)) (fun z=>aB (z||(decide ((p.Progs.length:Int)<=prog)))) (fun _ key=>KE2 6 key) (fun _ key=>KL 3 L7 p.Progs<|KE2 2 key)<|KW 2 hw (fun _ hw=>KR 8 hw g16) fun _ hw=>KC 7 hw g3g fun y1 hw=>KL 0 C1 y1<|KOb 5 3 5 8<|KJl 0 [] hw b02) fun hb1=>KNw 11 a8u hb1 (hw.2 hb1) fun hw=>KT2 11 6 (decide (prog<0)) (fun z=>aB (z||(decide ((p.Progs.length:Int)<=prog)))) (fun _ key=>KE2 6 key) (fun _ key=>KL 3 L7 p.Progs<|KE2 2 key)<|KW 2 hw (fun _ hw=>KDg 6 a8u 3 [true,true,true,false,true] 0 0 2 [(6,.ptr 2 0)] [some (B6 p),some (A5 v),some [aI 10,aU 0,aE,.nil,.nil,.nil,.sl (List.map J0 v.Raws) .no],none,some [aI 10,aU 0,aE,.nil,.nil,.nil,.sl (List.map J0 v.Raws) .no]] ⟨by first|rfl|simp,by first|rfl|simp⟩ hw fun hw=>KR 2 hw g16) fun _ hw=>KC 7 hw g3g fun y12 hw=>KL 0 C1 y12<|KOb 5 4 5 8<|KJl 0 [] hw c8p)
theorem f8z(r:(A3 × Int)):plain (e60 r)=true:=(c8h (A7 (C3 r.1) (A7 rfl rfl)))
theorem b0y(data:ByteArray)(l:U7)(r:(A3 × Int))(hw:(((((decide (l.Bytes<0))||(decide (l.Depth<0)))||(decide (l.Nodes<0)))||(decide (l.Text<0)))=true->r=((⟨(⟨#[]⟩:ByteArray),0,0,0,0,0⟩:A3),1))/\(((((decide (l.Bytes<0))||(decide (l.Depth<0)))||(decide (l.Nodes<0)))||(decide (l.Text<0)))=false->((decide (l.Bytes<(data.size:Int)))=true->r=((⟨(⟨#[]⟩:ByteArray),0,0,0,0,0⟩:A3),3))/\((decide (l.Bytes<(data.size:Int)))=false->r=((⟨data,0,(data.size:Int),l.Depth,l.Nodes,l.Text⟩:A3),0)))):d2a data l r:=
 fP (KT 15 4<|KT 1 4<|KT 1 4<|KW 3 hw (fun _ hw=>KR 10 hw f8z) fun _ hw=>KW 10 hw (fun _ hw=>KR 10 hw f8z) fun _ hw=>KR 20 hw f8z)
end
end Go.Proofs.YtidmmngcijapcaaGreat.Lift
