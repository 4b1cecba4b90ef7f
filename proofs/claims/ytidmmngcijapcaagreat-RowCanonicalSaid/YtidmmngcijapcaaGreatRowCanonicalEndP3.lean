/- Part 4 of the texts that prove RowCanonicalEnd. -/
import Derived.Test.YtidmmngcijapcaaGreatRowCanonicalEndP2
import Derived.Test.YtidmmngcijapcaaGreatRowCanonicalEndP1
import Derived.OpenShut
import Derived.ProofKit
import Derived.Test.YtidmmngcijapcaaGreatProg
namespace Go.Proofs.YtidmmngcijapcaaGreat.Lift
open Go.RowKit
set_option linter.unusedVariables false
set_option linter.unusedSimpArgs false
set_option linter.unnecessarySimpa false
set_option linter.unusedSectionVars false
set_option maxRecDepth 100000
def gT(s:Mc):Nat:=match (opS s).guard with
 |some (t,_)=>t
 |none=>0
def cv(s:Mc):Option AV:=match s.pc with
 |.c (.cond c _ _)=>c.ev s.env
 |.v (⟨_,_,some (t,_)⟩::_)=>get s.env t
 |.s _ (⟨_,_,some (t,_)⟩::_) _ _ _ _=>get s.env t
 |_=>none
def br(s:Mc)(b:Bool):Mc:=match s.pc with
 |.c (.cond _ x y)=>⟨.c (if b=true then x else y),s.k,s.env,s.h⟩
 |.v (⟨d,o,some (t,w)⟩::L)=>⟨.v (⟨d,o,some (t,w)⟩::L),s.k,(t,.v (.bool b))::s.env,s.h⟩
 |.s b' (⟨d,o,some (t,w)⟩::L) S gl q tl=>⟨.s b' (⟨d,o,some (t,w)⟩::L) S gl q tl,s.k,(t,.v (.bool b))::s.env,s.h⟩
 |_=>s
section
variable {P:Program}{f:Nat}{R:Rm}{s:Mc}
theorem e9z{B:Bool}(hv:cv s=some (.v (.bool B)))(h1:B=true->Ok P f R (br s true))(h2:B=false->Ok P f R (br s false)):Ok P f R s:=by
 obtain⟨pc,k,env,h⟩:=s;simp only[cv]at hv;split at hv
 ·exact e1f hv h1 h2
 ·cases hB:B with
  |true=>exact d0d (c4g hB hv) rfl (h1 hB)
  |false=>exact d0d (c4g hB hv) rfl (h2 hB)
 ·cases hB:B with
  |true=>exact d0d (c4g hB hv) rfl (h1 hB)
  |false=>exact d0d (c4g hB hv) rfl (h2 hB)
 ·cases hv
theorem KW(m:Nat){B:Bool}{p q:Prop}(hw:(B=true->p)/\(B=false->q))(h1:B=true->p->Ok P f R (br (run m s) true))(h2:B=false->q->Ok P f R (br (run m s) false))(hv:cv (run m s)=some (.v (.bool B)):=by kernel_rfl):Ok P f R s:=N5 m (e9z hv (fun h=>h1 h (hw.1 h)) fun h=>h2 h (hw.2 h))
theorem KKn(m:Nat){B b:Bool}(hB:B=b)(hk:Ok P f R (br (run m s) b))(hv:cv (run m s)=some (.v (.bool B)):=by kernel_rfl):Ok P f R s:=by
 subst hB;exact N5 m (e9z hv (fun h=>by rw[h]at hk;exact hk) fun h=>by rw[h]at hk;exact hk)
def dpc(n:Nat):Pc->Pc
 |.v L=>.v (L.drop n)
 |.s b L S gl w tl=>.s b (L.drop n) S gl w tl
 |x=>x
def jnD(s:Mc)(n:Nat):Nat:=match s.pc with
 |.v L=>(((L[n - 1]?).bind fun o=>o.dst)).getD 0
 |.s _ L _ _ _ _=>(((L[n - 1]?).bind fun o=>o.dst)).getD 0
 |_=>0
def jn(s:Mc)(n:Nat)(a:AV):Mc:=⟨dpc n s.pc,s.k,(jnD s n,a)::drop (gT s) s.env,s.h⟩
def d13(s:Mc):Mc:=⟨s.pc,s.k,[],s.h⟩
def g8q(d t:Nat)(e env:Env):Bool:=(e.take (e.length - env.length)).all fun p=>p.1==t||p.1==d||(get env p.1).isNone
theorem g1u{d t:Nat}{a:AV}{e env:Env}(h1:get e d=some a)(h2:e.drop (e.length - env.length)=env)(h3:g8q d t e env=true):c4s ((d,a)::drop t env) e:=by
 intro u b hu;simp only[get]at hu;split at hu
 ·rename_i hd;subst hd;cases hu;exact h1
 ·rename_i hd
  have h4:u≠t:=by
   rintro rfl
   have:∀{e:Env},get (drop u e) u=none:=by
    intro e
    induction e with
    |nil=>rfl
    |cons q e ih=>
     obtain⟨v,c⟩:=q;simp only[drop];split
     ·exact ih
     ·rename_i hv;simp only[get];rw[if_neg hv];exact ih
   rw[this]at hu;cases hu
  have h5:get env u=some b:=by
   have:∀{e:Env},get (drop t e) u=get e u:=by
    intro e
    induction e with
    |nil=>rfl
    |cons q e ih=>
     obtain⟨v,c⟩:=q;simp only[drop];split
     ·rename_i hv;subst hv;simp only[get];rw[if_neg (fun h=>h4 h.symm)];exact ih
     ·simp only[get];rw[ih]
   rw[<-this];exact hu
  rw[<-List.take_append_drop (e.length - env.length) e,d9m,h2];split
  ·rename_i c hc;have hm:=d55 hc;have h6:=List.all_eq_true.1 h3 _ hm;simp only[Bool.or_eq_true,beq_iff_eq]at h6;rcases h6 with(h6|h6)|h6
   ·exact absurd h6 h4
   ·exact absurd h6.symm hd
   ·rw[h5]at h6;cases h6
  ·exact h5
def jnv(s:Mc)(n:Nat):Option (Bool × AV × AV × AV):=match cv s,get (run n (br s true)).env (jnD s n),get (run n (br s false)).env (jnD s n) with
 |some (.v (.bool B)),some (.v (.bool x)),some (.v (.bool y))=>some (B,.v (.bool (bif B then x else y)),.v (.bool x),.v (.bool y))
 |some (.v (.bool B)),some (.v (.int k x)),some (.v (.int _ y))=>some (B,.v (.int k (bif B then x else y)),.v (.int k x),.v (.int k y))
 |some (.v (.bool B)),some (.v (.string x)),some (.v (.string y))=>some (B,.v (.string (bif B then x else y)),.v (.string x),.v (.string y))
 |_,_,_=>none
def jnV(s:Mc)(n:Nat):AV:=((jnv s n).map fun p=>p.2.1).getD .nil
def met(s s1:Mc)(n:Nat):Bool:=g8q (jnD s n) (gT s) s1.env s.env&&(match s.pc with|.v _=>true|.s _ _ _ _ _ _=>true|_=>false)
theorem e2o{s s1:Mc}{n:Nat}{a:AV}(hk:Ok P f R (jn s n a))(ha:get s1.env (jnD s n)=some a)(hb:d13 s1=d13 (jn s n a))(hd:s1.env.drop (s1.env.length - s.env.length)=s.env)(hf:met s s1 n=true):Ok P f R s1:=by
 obtain⟨pc1,k1,env1,h1⟩:=s1;obtain⟨pc,k,env,h⟩:=s;simp only[d13,jn,Mc.mk.injEq]at hb;obtain⟨rfl,rfl, -,rfl⟩:=hb;simp only[met,Bool.and_eq_true]at hf;refine d0d (g1u ha hd hf.1) ?_ hk;cases pc<;>first|rfl|(cases hf.2)
theorem KT(m n:Nat)(hk:Ok P f R (jn (run m s) n (jnV (run m s) n)))(h0:((jnv (run m s) n).map fun p=>(some p.2.2.1,some p.2.2.2))=some (get (run n (br (run m s) true)).env (jnD (run m s) n),get (run n (br (run m s) false)).env (jnD (run m s) n)):=by kernel_rfl)(hb:(d13 (run n (br (run m s) true)),d13 (run n (br (run m s) false)))=(d13 (jn (run m s) n .nil),d13 (jn (run m s) n .nil)):=by kernel_rfl)(hd:((run n (br (run m s) true)).env.drop ((run n (br (run m s) true)).env.length - (run m s).env.length),(run n (br (run m s) false)).env.drop ((run n (br (run m s) false)).env.length - (run m s).env.length))=((run m s).env,(run m s).env):=by kernel_rfl)(hf:(met (run m s) (run n (br (run m s) true)) n&&met (run m s) (run n (br (run m s) false)) n)=true:=by kernel_rfl):Ok P f R s:=by
 refine N5 m ?_;generalize run m s=s0 at*;obtain⟨⟨B,a,x,y⟩,h1,h2⟩:=Option.map_eq_some_iff.1 h0;have hV:jnV s0 n=a:=by unfold jnV;rw[h1];rfl
 rw[hV]at hk
 have hc:cv s0=some (.v (.bool B))/\a=bif B then x else y:=by
  unfold jnv at h1;split at h1
  ·rename_i h _ _;cases h1;exact⟨h,by cases B<;>rfl⟩
  ·rename_i h _ _;cases h1;exact⟨h,by cases B<;>rfl⟩
  ·rename_i h _ _;cases h1;exact⟨h,by cases B<;>rfl⟩
  ·cases h1
 simp only[Prod.mk.injEq]at h2 hb hd;simp only[Bool.and_eq_true]at hf;refine e9z hc.1 (fun hB=>?_) (fun hB=>?_)
 ·have ha:=hc.2;rw[hB]at ha;subst ha;exact N5 n (e2o hk h2.1.symm hb.1 hd.1 hf.1)
 ·have ha:=hc.2;rw[hB]at ha;subst ha;exact N5 n (e2o hk h2.2.symm hb.2 hd.2 hf.2)
theorem KQ(m n:Nat){T:Type}(C:T->AV){B:Bool}{W:T->Prop}{p q:(T->Prop)->Prop}(hw:∃R:T->Prop,(∀z,R z->W z)/\((B=true->p R)/\(B=false->q R)))(hk:∀z,W z->Ok P f R (jn (run m s) n (C z)))(h1:∀U:T->Prop,(∀z,U z->Ok P f R (jn (run m s) n (C z)))->B=true->p U->Ok P f R (br (run m s) true))(h2:∀U:T->Prop,(∀z,U z->Ok P f R (jn (run m s) n (C z)))->B=false->q U->Ok P f R (br (run m s) false))(hv:cv (run m s)=some (.v (.bool B)):=by kernel_rfl):Ok P f R s:=by
 obtain⟨U,hU,h3,h4⟩:=hw;exact N5 m (e9z hv (fun h=>h1 U (fun z hz=>hk z (hU z hz)) h (h3 h)) fun h=>h2 U (fun z hz=>hk z (hU z hz)) h (h4 h))
theorem KE(m:Nat){T:Type}{U:T->Prop}{C:T->AV}{s0:Mc}{n:Nat}{z:T}(key:∀z,U z->Ok P f R (jn s0 n (C z)))(hw:U z)(ha:get (run m s).env (jnD s0 n)=some (C z):=by kernel_rfl)(hb:d13 (run m s)=d13 (jn s0 n (C z)):=by kernel_rfl)(hd:(run m s).env.drop ((run m s).env.length - s0.env.length)=s0.env:=by kernel_rfl)(hf:met s0 (run m s) n=true:=by kernel_rfl):Ok P f R s:=N5 m (e2o (key z hw) ha hb hd hf)
abbrev kB(b:Bool):AV:=.v (.bool b)
def So(I:List Nat)(h:A7):List (Nat × List AV):=I.map fun i=>(i,((h.blks[i]?).bind id).getD [])
def dr0(s:Mc)(S:List (Nat × List AV)):Mc:=match s.pc with
 |.c (.drawn _ a t)=>⟨.s true a S s.h.globs none t,s.k,s.env,s.h⟩
 |_=>s
def h57(s:Mc):Bool:=match s.pc with
 |.c (.drawn o a _)=>okq a&&d9v (clo o) a
 |_=>false
theorem KD(m:Nat)(I:List Nat)(hk:Ok P f R (dr0 (run m s) (So I (run m s).h)))(hc:h57 (run m s)=true:=by kernel_rfl)(hS:inS (So I (run m s).h) (run m s).h=(So I (run m s).h).map (fun p=>some (some p.2)):=by kernel_rfl):Ok P f R s:=by
 refine N5 m ?_;generalize run m s=s0 at*;obtain⟨pc,k,env,h⟩:=s0;simp only[h57]at hc;split at hc
 ·rw[Bool.and_eq_true]at hc;exact dS _ hk hc.1 hc.2 hS
 ·cases hc
def dr1(s:Mc)(S:List (Nat × List AV)):Mc:=match s.pc with
 |.c (.drawn _ a t)=>⟨.s false (a.take (a.length - 1)) S s.h.globs a[a.length - 1]? t,s.k,s.env,s.h⟩
 |_=>s
def h5x(s:Mc):Bool:=match s.pc with
 |.c (.drawn o a _)=>okq a&&f2v (clo o) a (a.length - 1)&&(match a[a.length - 1]? with|some w=>w.guard.isNone&&w.dst.isNone|none=>false)
 |_=>false
theorem KDL(m:Nat)(I:List Nat)(hk:Ok P f R (dr1 (run m s) (So I (run m s).h)))(hc:h5x (run m s)=true:=by kernel_rfl)(hS:inS (So I (run m s).h) (run m s).h=(So I (run m s).h).map (fun p=>some (some p.2)):=by kernel_rfl):Ok P f R s:=by
 refine N5 m ?_;generalize run m s=s0 at*;obtain⟨pc,k,env,h⟩:=s0;simp only[h5x]at hc;split at hc
 ·rename_i o a t;simp only[Bool.and_eq_true]at hc;obtain⟨⟨h1,h2⟩,h3⟩:=hc;simp only[dr1]at hk;split at h3
  ·rename_i w hwq;rw[hwq]at hk;rw[Bool.and_eq_true]at h3
   have hlen:a.length=(a.length - 1)+1:=by
    have:=(List.getElem?_eq_some_iff.1 hwq).1;omega
   exact dL (a.length - 1) _ hwq hk hlen (Option.isNone_iff_eq_none.1 h3.1) (Option.isNone_iff_eq_none.1 h3.2) h1 h2 hS
  ·cases h3
 ·cases hc
def chg(s:Mc):AV × A7:=(opn (opS s) s.env s.h).getD (.nil,s.h)
theorem KV(m:Nat)(hk:Ok P f R (d2l (run m s) (chg (run m s)).1 (chg (run m s)).2))(ho:(opn (opS (run m s)) (run m s).env (run m s).h).isSome=true:=by kernel_rfl)(hc:okH (run m s)=true:=by kernel_rfl)(hs:seS (run m s) (chg (run m s)).2=seE (run m s):=by kernel_rfl):Ok P f R s:=by
 obtain⟨p,hp⟩:=Option.isSome_iff_exists.1 ho;have hq:chg (run m s)=p:=by unfold chg;rw[hp];rfl
 rw[hq]at hk hs;exact N5 m (a6a (e3d hp) hk hc hs)
def f6i:W2->List Fr->List (Pc × List Fr)
 |.seq a b,k=>(.c b,k)::(f6i a (.sq b::k)++f6i b k)
 |.cond _ a b,k=>f6i a k++f6i b k
 |.block i a,k=>f6i a (.bk i::k)
 |.loop a,k=>(.l a,k)::f6i a (.lp a::k)
 |.scope a,k=>match c45 a with
  |some l=>(.g l a,k)::f6i a (.sc l a::k)
  |none=>f6i a (.sn::k)
 |_,_=>[]
def pos(P:Program)(f i:Nat):Pc × List Fr:=((f6i (cdC P f) [])[i]?).getD (.n .normal,[])
def J(P:Program)(f:Nat)(R:Rm)(i:Nat)(e:Env)(h:A7):Prop:=Ok P f R ⟨(pos P f i).1,(pos P f i).2,e,h⟩
def atC(s:Mc):Bool:=match s.pc with
 |.c _=>true
 |.l _=>true
 |.g _ _=>true
 |_=>false
theorem c89(hc:atC s=true)(hg:∀(σ:Sg) (a:Act),St σ s.h s.env (cdN P f) a->∃σ' h' env',σ'.w=σ.w/\Le σ σ'/\St σ' h' env' (cdN P f) a/\Ok P f R ⟨s.pc,s.k,env',h'⟩):Ok P f R s:=by
 obtain⟨pc,k,env,h⟩:=s;cases pc with
 |c x=>exact d97 hg
 |l x=>exact e3o hg
 |g l x=>exact f4h hg
 |_=>cases hc
def f5h(Z:List Nat)(env:Env)(p:Nat × AV):Option AV:=if Z.contains p.1=true then(get env p.1).map nz else get env p.1
theorem f5r{σ:Sg}{h:A7}{env e:Env}{N:Nat}{a:Act}{Z:List Nat}(he:e.map (f5h Z env)=e.map fun p=>some p.2)(hs:St σ h env N a):St σ h e N a:=⟨hs.inv,fun t b ht=>by
 obtain⟨i,hi⟩:=List.mem_iff_getElem?.1 (d55 ht);have h1:=congrArg (fun l=>l[i]?) he;simp only[List.getElem?_map,hi,Option.map_some,Option.some.injEq]at h1;unfold f5h at h1;split at h1
 ·obtain⟨c,h2,rfl⟩:=Option.map_eq_some_iff.1 h1;obtain⟨y,h3,h4⟩:=hs.env t c h2;exact⟨y,h3,h4.nz⟩
 ·exact hs.env t b h1,hs.size,hs.defers⟩
theorem d9h{e:Env}(Z:List Nat)(hc:atC s=true)(he:e.map (f5h Z s.env)=e.map fun p=>some p.2)(hk:Ok P f R ⟨s.pc,s.k,e,s.h⟩):Ok P f R s:=c89 hc fun σ a hs=>⟨σ,s.h,e,rfl,Le.refl σ,f5r he hs,hk⟩
theorem KJ(m:Nat)(Z:List Nat){i:Nat}{e:Env}{h:A7}(hw:J P f R i e h)(hp:((run m s).pc,(run m s).k,(run m s).h)=((pos P f i).1,(pos P f i).2,h):=by kernel_rfl)(hc:atC (run m s)=true:=by kernel_rfl)(he:e.map (f5h Z (run m s).env)=e.map (fun p=>some p.2):=by kernel_rfl):Ok P f R s:=by
 simp only[Prod.mk.injEq]at hp;refine N5 m (d9h Z hc he ?_);rw[hp.1,hp.2.1,hp.2.2];exact hw
def d0o(h:A7):List Bool:=h.blks.map Option.isSome
theorem KJl(m:Nat)(Z:List Nat){i:Nat}{e:Env}{h:A7}(hw:J P f R i e h)(hlow:a7y (d0o h) h.bufs.length e=true/\a4l (d0o h) h.bufs.length h.blks=true)(hp:((run m s).pc,(run m s).k,a0e (d0o h) (run m s).h.blks,(run m s).h.bufs.take h.bufs.length,(run m s).h.globs)=((pos P f i).1,(pos P f i).2,h.blks,h.bufs,h.globs):=by kernel_rfl)(hc:atC (run m s)=true:=by kernel_rfl)(he:e.map (f5h Z (run m s).env)=e.map (fun p=>some p.2):=by kernel_rfl)(hm:((List.range R.kb).all (fun k=>(d0o h).getD k false)&&Nat.ble R.kf h.bufs.length&&X1 h.globs)=true:=by kernel_rfl):Ok P f R s:=by
 simp only[Prod.mk.injEq]at hp;simp only[Bool.and_eq_true,List.all_eq_true,List.mem_range]at hm;refine N5 m (d9h Z hc he ?_);generalize run m s=s0 at*;obtain⟨pc,k,env,h0⟩:=s0;obtain⟨h1,h2,h3,h4,h5⟩:=hp;simp only at h1 h2 h3 h4 h5
 have hw':Ok P f R ⟨pc,k,e,⟨a0e (d0o h) h0.blks,h0.bufs.take h.bufs.length,h0.globs⟩⟩:=by
  rw[h3,h4,h5,h1,h2];exact hw
 have hl2:a4l (d0o h) h.bufs.length (a0e (d0o h) h0.blks)=true:=by rw[h3];exact hlow.2
 have hg:X1 h0.globs=true:=by rw[h5];exact hm.2
 cases pc with
 |c x=>exact g7e _ _ hm.1.1 (Nat.le_of_ble_eq_true hm.1.2) hlow.1 hl2 hg hw'
 |l x=>exact g2k _ _ hm.1.1 (Nat.le_of_ble_eq_true hm.1.2) hlow.1 hl2 hg hw'
 |g l x=>exact g3e _ _ hm.1.1 (Nat.le_of_ble_eq_true hm.1.2) hlow.1 hl2 hg hw'
 |_=>cases hc
theorem KO(m t sz:Nat)(hk:Ok P f R ⟨(run m s).pc,(run m s).k,(t,.sl [] (.own (run m s).h.bufs.length))::(run m s).env,⟨(run m s).h.blks,(run m s).h.bufs++[(0,sz)],(run m s).h.globs⟩⟩)(hc:atC (run m s)=true:=by kernel_rfl)(hg:get (run m s).env t=some .nil:=by kernel_rfl):Ok P f R s:=N5 m (c89 hc fun σ a hs=>by
 obtain⟨σ',h1,h2,h3⟩:=f88 sz hg hs;exact⟨σ',_,_,h1,h2,h3,hk⟩)
def c5y(s:Mc)(i:Nat):List AV:=((s.h.blks[i]?).bind id).getD []
theorem KOb(m i j sz:Nat)(hk:Ok P f R ⟨(run m s).pc,(run m s).k,(run m s).env,⟨(run m s).h.blks.set i (some ((c5y (run m s) i).set j (.sl [] (.own (run m s).h.bufs.length)))),(run m s).h.bufs++[(0,sz)],(run m s).h.globs⟩⟩)(hc:atC (run m s)=true:=by kernel_rfl)(hg:(run m s).h.blks[i]? =some (some (c5y (run m s) i)):=by kernel_rfl)(hj:(c5y (run m s) i)[j]? =some .nil:=by kernel_rfl):Ok P f R s:=N5 m (c89 hc fun σ a hs=>by
 obtain⟨σ',h1,h2,h3⟩:=f17 sz hg hj hs;exact⟨σ',_,_,h1,h2,h3,hk⟩)
theorem KNb(m i j:Nat)(hk:Ok P f R ⟨(run m s).pc,(run m s).k,(run m s).env,⟨(run m s).h.blks.set i (some ((c5y (run m s) i).set j (nz1 (atE (c5y (run m s) i) j)))),(run m s).h.bufs,(run m s).h.globs⟩⟩)(hc:atC (run m s)=true:=by kernel_rfl)(hg:(run m s).h.blks[i]? =some (some (c5y (run m s) i)):=by kernel_rfl)(hj:(c5y (run m s) i)[j]? =some (atE (c5y (run m s) i) j):=by kernel_rfl)(hi:(a8n (c5y (run m s) i)&&a8n ((c5y (run m s) i).set j (nz1 (atE (c5y (run m s) i) j))))=true:=by kernel_rfl):Ok P f R s:=by
 rw[Bool.and_eq_true]at hi;exact N5 m (c89 hc fun σ a hs=>⟨σ,_,_,rfl,Le.refl σ,g6z hg hj rfl hi.1 hi.2 hs,hk⟩)
def done(s:Mc):Bool:=match s.pc,s.k with
 |.n .ret,[]=>true
 |.n .normal,[]=>true
 |_,_=>false
theorem e0f(hd:done s=true)(hk:R.Q (cdR P f) .ret s.env s.h):Ok P f R s:=by
 obtain⟨pc,k,env,h⟩:=s;simp only[done]at hd;split at hd
 ·exact hk
 ·cases R<;>exact hk
 ·cases hd
theorem KR(m:Nat){T:Type}{e:T->AV}{r r0:T}(hw:r=r0)(hp:∀r,plain (e r)=true)(hd:done (run m s)=true:=by kernel_rfl)(he:(c8u (run m s).env (run m s).h (cdR P f)).map (fun l=>nz (d5i l))=some (e r0):=by kernel_rfl):Ok P f (.ret (e r)) s:=N5 m (e0f hd (rx hw (hp r0) he))
theorem KRi(m:Nat){T:Type}{k:Nat}{e:T->AV}{fc:T->List AV}{fb:T->List (Nat × Nat)}{r r0:T}(hw:r=r0)(hp:∀r,plain (e r)=true/\(fc r).all ok1=true/\lowL [true] k (fc r)=true/\(fb r).length=k)(hd:done (run m s)=true:=by kernel_rfl)(he:(c8u (run m s).env (run m s).h (cdR P f)).map (fun l=>nz (d5i l))=some (e r0):=by kernel_rfl)(hb:(run m s).h.blks[0]? =some (some (c5y (run m s) 0)):=by kernel_rfl)(hit:a8n (c5y (run m s) 0)=true:=by kernel_rfl)(hc:(c5y (run m s) 0).map (a2c 0 (some 0))=fc r0:=by kernel_rfl)(hf:(run m s).h.bufs.take k=fb r0:=by kernel_rfl)(hg:(run m s).h.globs=[]:=by kernel_rfl):Ok P f (.io k (e r) (fc r) (fb r)) s:=N5 m (e0f hd (rio hw ⟨(hp r0).1,(hp r0).2.1,(hp r0).2.2.1⟩ _ he hb hit hc hf hg))
theorem KRr(m:Nat){α:Type}(E:En α){r l:List α}(hw:l≠[]/\r=l)(hd:done (run m s)=true:=by kernel_rfl)(hr:cdR P f=[]:=by kernel_rfl)(hb:(run m s).h.blks[0]? =some (some (cellsOf E.f l)):=by kernel_rfl)(hf:(run m s).h.bufs.take 0=[]:=by kernel_rfl)(hg:(run m s).h.globs=[]:=by kernel_rfl):Ok P f (.io 0 (.tuple []) (cellsOf E.f r) []) s:=N5 m (e0f hd (by rw[hr];exact h7y E.ro hw hb hf hg))
theorem e1d(h:(b4o P f).isSome=true):b4o P f=some (cdN P f,cdC P f,cdR P f):=by
 unfold cdN cdC cdR;cases hg:b4o P f with
 |none=>rw[hg]at h;cases h
 |some p=>rfl
def s0(P:Program)(f:Nat)(args:List AV)(h:A7):Mc:=⟨.c (cdC P f),[],c17 0 args,h⟩
theorem fP{gl:List (Nat × List AV)}{args:List AV}{r:AV}(hk:Ok P f (.ret r) (s0 P f args ⟨[],[],gl⟩))(hf:((b4o P f).isSome&&Nat.ble args.length (cdN P f))=true:=by kernel_rfl):B8 P gl f args r:=by
 rw[Bool.and_eq_true]at hf;exact g3k (e1d hf.1) (Nat.le_of_ble_eq_true hf.2) rfl hk
theorem fIO{k:Nat}{args c:List AV}{bf:List (Nat × Nat)}{r:AV}{c':List AV}{bf':List (Nat × Nat)}(hk:Ok P f (.io k r c' bf') (s0 P f args ⟨[some c],bf,[]⟩))(hb:bf.length=k:=by kernel_rfl)(hf:((b4o P f).isSome&&Nat.ble args.length (cdN P f))=true:=by kernel_rfl):b6h P [] f args c bf r c' bf':=by
 rw[Bool.and_eq_true]at hf;exact h7o (e1d hf.1) k hb (Nat.le_of_ble_eq_true hf.2) rfl hk
theorem fRO{α:Type}{e:α->List AV}{sz len:Nat}{args:List AV}{l r:List α}(hk:Ok P f (.io 0 (.tuple []) (cellsOf e r) []) (s0 P f (.row 0 0 sz len len::args) ⟨[some (cellsOf e l)],[],[]⟩))(hf:((b4o P f).isSome&&Nat.ble (AV.row 0 0 sz len len::args).length (cdN P f))=true:=by kernel_rfl):c18 P e sz f len args l r:=fIO hk rfl hf
def h55(s:Mc):Bool:=match s.pc with
 |.v (o::_)=>a0i s.env o.guard==some true
 |_=>false
theorem KN(m:Nat){α:Type}(E:En α){l:List α}{c:Bool}{W:Bool->Prop}(hw:∀b:Bool,(l≠[]->b=c)->W b)(hk:∀b,W b->Ok P f R (put (run m s) (.v (.bool b))))(hc:h55 (run m s)=true:=by kernel_rfl)(ho:op (run m s)=.eq .slice (!c) (oX (op (run m s))) (oY (op (run m s))):=by kernel_rfl)(hx:b9g (xv (run m s))=some (List.map E.f l):=by kernel_rfl)(hy:yv (run m s)=some .nil:=by kernel_rfl):Ok P f R s:=by
 refine N5 m ?_;generalize run m s=s0 at*;obtain⟨pc,k,env,h⟩:=s0;obtain⟨tok,hx⟩:=a6l hx;cases pc with
 |v L=>
  cases L with
  |nil=>cases hc
  |cons o L=>
   refine .inr (.inr ⟨by simpa[h55]using hc,fun av=>∃b:Bool,av=.v (.bool b)/\(l≠[]->b=c),fun K' hK'=>?_,fun av hav=>?_⟩)
   ·change o.op=_ at ho;rw[ho];simp only[aop];change wv (xv _) _;rw[hx];simp only[wv];change wv (yv _) _;rw[hy];simp only[wv,f26];rcases Classical.em (l=[]) with h0|h0
    ·right;subst h0;exact⟨rfl,hK' _ ⟨_,rfl,fun hn=>absurd rfl hn⟩,hK' _ ⟨_,rfl,fun hn=>absurd rfl hn⟩⟩
    ·left;refine⟨by simpa using h0,hK' _ ⟨_,rfl,fun _=>?_⟩⟩;cases c<;>rfl
   ·obtain⟨b,rfl,hb⟩:=hav;exact hk b (hw b hb)
 |_=>cases hc
theorem b69{s:Mc}{h:A7}(hs:seE s=none):seS s h=none:=by
 obtain⟨pc,k,env,h⟩:=s;cases pc with
 |s b L S gl w tl=>cases L<;>first|rfl|cases hs
 |_=>rfl
theorem KX(m:Nat){t:ByteArray}{p:Nat}{A B:Prop}(hw:(p<t.size->A)/\(¬p<t.size->B))(h1:p<t.size->A->Ok P f R (d2l (run m s) (.tuple [.v (.bool true),.v (.int .i64 p),.v (.int .i32 (Utf8.decode t p).1)]) ⟨(run m s).h.blks.set (e5l (xv (run m s))) (some [.it t (p+(Utf8.decode t p).2)]),(run m s).h.bufs,(run m s).h.globs⟩))(h2:¬p<t.size->B->Ok P f R (d2l (run m s) (.tuple [.v (.bool false)]) (run m s).h))(hc:okH (run m s)=true:=by kernel_rfl)(ho:op (run m s)=.next (oX (op (run m s))):=by kernel_rfl)(hx:xv (run m s)=some (.ptr (e5l (xv (run m s))) 0):=by kernel_rfl)(hb:(run m s).h.blks[e5l (xv (run m s))]? =some (some [.it t p]):=by kernel_rfl)(hs:seE (run m s)=none:=by kernel_rfl):Ok P f R s:=by
 have hsn:∀h',seS (run m s) h'=seE (run m s):=fun h'=>by rw[hs];exact b69 hs
 rcases Nat.lt_or_ge p t.size with hp|hp
 ·refine N5 m (a6a (fun K hk=>?_) (h1 hp (hw.1 hp)) hc (hsn _));rw[ho];simp only[aop];change wv (xv _) _;rw[hx];simp only[wv,d3r,hb];exact⟨fun _=>hk,fun hn=>(hn hp).elim⟩
 ·refine N5 m (a6a (fun K hk=>?_) (h2 (Nat.not_lt.2 hp) (hw.2 (Nat.not_lt.2 hp))) hc (hsn _));rw[ho];simp only[aop];change wv (xv _) _;rw[hx];simp only[wv,d3r,hb];exact⟨fun hn=>(Nat.not_lt.2 hp hn).elim,fun _=>hk⟩
end
abbrev JP(P:Program)(f:Nat)(r:AV)(i:Nat)(e:Env):Prop:=J P f (.ret r) i e ⟨[],[],[]⟩
section
variable {P:Program}{f:Nat}{R:Rm}{s:Mc}{α:Type}{W:α->Prop}{p:Prop}
theorem mS{h:A7}{y:Option AV}{E:En Int}{t:ByteArray}(hy:y=some (.v (.string t)):=by kernel_rfl)(hE:E.f=(fun n=>[AV.v (.int .u8 n)]):=by kernel_rfl):HM h y E (bI t):=by
 unfold HM;rw[hE];exact g5j hy
theorem KC0(m:Nat){g:FuncId}{gl:List (Nat × List AV)}{args:List AV}{r:AV}(hw:B8 P gl g args r/\p)(hp:plainL args=true)(hk:p->Ok P f R (put (run m s) r))(hc:okS (run m s)=true:=by kernel_rfl)(ho:op (run m s)=.call (.c (.clo (.func g) [] [])) (oA (op (run m s))):=by kernel_rfl)(ha:(evs (run m s).env (oA (op (run m s)))).map (List.map nz)=some args:=by kernel_rfl)(hg:f0j (run m s)=gl:=by kernel_rfl)(hgl:X1 gl=true:=by kernel_rfl):Ok P f R s:=KC (W:=fun _:Unit=>p) (e:=fun _=>r) m ⟨(),hw⟩ hp (fun _=>hk) hc ho ha hg hgl
def ioN(s:Mc):Nat:=match evs s.env (oA (op s)) with
 |some (.ptr n _::_)=>n
 |some (.row n _ _ _ _::_)=>n
 |_=>0
def ioA(s:Mc):List AV:=(evs s.env (oA (op s))).getD []
theorem KIO(m:Nat){g:FuncId}{gl:List (Nat × List AV)}{small c:List AV}{bf:List (Nat × Nat)}{e:α->AV}{c':α->List AV}{bf':α->List (Nat × Nat)}(hw:∃y,b6h P gl g small c bf (e y) (c' y) (bf' y)/\W y)(hp:∀{y:α},c.all ok1=true/\(c' y).all ok1=true/\small.all okA=true/\plain (e y)=true)(hk:∀y,W y->Ok P f R (d2l (run m s) (e y) ⟨(run m s).h.blks.set (ioN (run m s)) (some ((c' y).map (d47 (ioN (run m s)) none))),(run m s).h.bufs,(run m s).h.globs⟩))(hc:okH (run m s)=true:=by kernel_rfl)(ho:op (run m s)=.call (.c (.clo (.func g) [] [])) (oA (op (run m s))):=by kernel_rfl)(hb:(bf,bf')=([],fun _=>[]):=by kernel_rfl)(ha:evs (run m s).env (oA (op (run m s)))=some (ioA (run m s)):=by kernel_rfl)(hn:(run m s).h.blks[ioN (run m s)]? =some (some (c5y (run m s) (ioN (run m s)))):=by kernel_rfl)(hit:a8n (c5y (run m s) (ioN (run m s)))=true:=by kernel_rfl)(hit':(fun y=>a8n (c' y))=(fun _=>true):=by kernel_rfl)(hcc:(c5y (run m s) (ioN (run m s))).map (a2c (ioN (run m s)) none)=c:=by kernel_rfl)(hargs:(ioA (run m s)).map (smol (ioN (run m s)) none)=small:=by kernel_rfl)(hg:(run m s).h.globs=gl:=by kernel_rfl)(hgl:X1 gl=true:=by kernel_rfl)(hs:seE (run m s)=none:=by kernel_rfl):Ok P f R s:=by
 obtain⟨y,h1,hw⟩:=hw;subst hg;simp only[Prod.mk.injEq]at hb;refine N5 m (a6a ?_ (hk y hw) hc (by rw[hs];exact b69 hs));rw[ho];exact h1g _ none _ _ _ h1 hp (.inl ⟨rfl,hb.1,congrFun hb.2 y,rfl⟩) ha hn hit (congrFun hit' y) hcc hargs rfl hgl
theorem h3n{l:List (Nat × Nat)}(h:l.length=1):∃x,l=[x]:=by
 match l,h with
 |[x],_=>exact⟨x,rfl⟩
theorem KI1(m:Nat){g:FuncId}{gl:List (Nat × List AV)}{small c:List AV}{bf:List (Nat × Nat)}{e:α->AV}{c':α->List AV}{bf':α->List (Nat × Nat)}(hw:∃y,b6h P gl g small c bf (e y) (c' y) (bf' y)/\W y)(hp:∀{y:α},c.all ok1=true/\(c' y).all ok1=true/\small.all okA=true/\plain (e y)=true)(hk:∀y,W y->Ok P f R (d2l (run m s) (e y) ⟨(run m s).h.blks.set (ioN (run m s)) (some ((c' y).map (d47 (ioN (run m s)) (some 0)))),bf' y,(run m s).h.globs⟩))(hc:okH (run m s)=true:=by kernel_rfl)(ho:op (run m s)=.call (.c (.clo (.func g) [] [])) (oA (op (run m s))):=by kernel_rfl)(hb:(bf.length,fun y=>(bf' y).length)=(1,fun _=>1):=by kernel_rfl)(hb2:(run m s).h.bufs=bf:=by kernel_rfl)(ha:evs (run m s).env (oA (op (run m s)))=some (ioA (run m s)):=by kernel_rfl)(hn:(run m s).h.blks[ioN (run m s)]? =some (some (c5y (run m s) (ioN (run m s)))):=by kernel_rfl)(hit:a8n (c5y (run m s) (ioN (run m s)))=true:=by kernel_rfl)(hit':(fun y=>a8n (c' y))=(fun _=>true):=by kernel_rfl)(hcc:(c5y (run m s) (ioN (run m s))).map (a2c (ioN (run m s)) (some 0))=c:=by kernel_rfl)(hargs:(ioA (run m s)).map (smol (ioN (run m s)) (some 0))=small:=by kernel_rfl)(hg:(run m s).h.globs=gl:=by kernel_rfl)(hgl:X1 gl=true:=by kernel_rfl)(hs:seE (run m s)=none:=by kernel_rfl):Ok P f R s:=by
 obtain⟨y,h1,hw⟩:=hw;subst hg;simp only[Prod.mk.injEq]at hb;obtain⟨x,hx⟩:=h3n hb.1;obtain⟨x',hx'⟩:=h3n (congrFun hb.2 y);refine N5 m (a6a ?_ (hk y hw) hc (by rw[hs];exact b69 hs));rw[ho];exact h1g _ (some 0) _ _ _ h1 hp (.inr ⟨x,x',rfl,hx,hx',hb2.trans hx,hx'⟩) ha hn hit (congrFun hit' y) hcc hargs rfl hgl
theorem KIN(m j sz:Nat){g:FuncId}{gl:List (Nat × List AV)}{small c:List AV}{bf:List (Nat × Nat)}{e:α->AV}{c':α->List AV}{bf':α->List (Nat × Nat)}(hw:∃y,b6h P gl g small c bf (e y) (c' y) (bf' y)/\W y)(hp:∀{y:α},c.all ok1=true/\(c' y).all ok1=true/\small.all okA=true/\plain (e y)=true)(hk:∀y,W y->Ok P f R (d2l (run m s) (e y) ⟨(run m s).h.blks.set (ioN (run m s)) (some ((c' y).map (d47 (ioN (run m s)) (some 0)))),bf' y,(run m s).h.globs⟩))(hc:okH (run m s)=true:=by kernel_rfl)(ho:op (run m s)=.call (.c (.clo (.func g) [] [])) (oA (op (run m s))):=by kernel_rfl)(hb:(bf,fun y=>(bf' y).length)=([(0,sz)],fun _=>1):=by kernel_rfl)(hb2:(run m s).h.bufs=[]:=by kernel_rfl)(ha:evs (run m s).env (oA (op (run m s)))=some (ioA (run m s)):=by kernel_rfl)(hn:(run m s).h.blks[ioN (run m s)]? =some (some (c5y (run m s) (ioN (run m s)))):=by kernel_rfl)(hj:(c5y (run m s) (ioN (run m s)))[j]? =some .nil:=by kernel_rfl)(hit:a8n ((c5y (run m s) (ioN (run m s))).set j (.sl [] (.own 0)))=true:=by kernel_rfl)(hit':(fun y=>a8n (c' y))=(fun _=>true):=by kernel_rfl)(hcc:((c5y (run m s) (ioN (run m s))).set j (.sl [] (.own 0))).map (a2c (ioN (run m s)) (some 0))=c:=by kernel_rfl)(hargs:(ioA (run m s)).map (smol (ioN (run m s)) (some 0))=small:=by kernel_rfl)(hg:(run m s).h.globs=gl:=by kernel_rfl)(hgl:X1 gl=true:=by kernel_rfl)(hs:seE (run m s)=none:=by kernel_rfl):Ok P f R s:=by
 obtain⟨y,h1,hw⟩:=hw;subst hg;simp only[Prod.mk.injEq]at hb;obtain⟨x',hx'⟩:=h3n (congrFun hb.2 y);refine N5 m (a6a ?_ (hk y hw) hc (by rw[hs];exact b69 hs));rw[ho,hx'];exact h1c _ j sz _ _ _ h1 hp ⟨hb.1,hx'⟩ ha hn hj hb2 hit (congrFun hit' y) hcc hargs rfl hgl
theorem KRO(m:Nat)(E:En α){g:FuncId}{len:Nat}{small:List AV}{l:List α}{W:List α->Prop}(hw:∃y,c18 P E.f E.sz g len small l y/\(l≠[]/\y≠[])/\W y)(hp:small.all okA=true)(hk:∀y,W y->Ok P f R (d2l (run m s) (.tuple []) ⟨(run m s).h.blks.set (ioN (run m s)) (some (cellsOf E.f y)),(run m s).h.bufs,(run m s).h.globs⟩))(hc:okH (run m s)=true:=by kernel_rfl)(ho:op (run m s)=.call (.c (.clo (.func g) [] [])) (oA (op (run m s))):=by kernel_rfl)(ha:evs (run m s).env (oA (op (run m s)))=some (ioA (run m s)):=by kernel_rfl)(hn:(run m s).h.blks[ioN (run m s)]? =some (some (cellsOf E.f l)):=by kernel_rfl)(hargs:(ioA (run m s)).map (smol (ioN (run m s)) none)=.row 0 0 E.sz len len::small:=by kernel_rfl)(hg:(run m s).h.globs=[]:=by kernel_rfl)(hs:seE (run m s)=none:=by kernel_rfl):Ok P f R s:=by
 obtain⟨y,h1,h0,hw⟩:=hw;refine N5 m (a6a ?_ (hk y hw) hc (by rw[hs];exact b69 hs));rw[ho];exact h1t _ _ E.ro h1 h0 hp ha hn hargs hg
theorem KNw(m:Nat)(E:En α){g:FuncId}{l:List α}(h0:l≠[])(hw:f84 P E.f E.sz g l/\p)(hk:p->Ok P f R (d2l (run m s) (.row (run m s).h.blks.length 0 E.sz l.length l.length) ⟨(run m s).h.blks++[some (cellsOf E.f l)],(run m s).h.bufs,(run m s).h.globs⟩))(hc:okH (run m s)=true:=by kernel_rfl)(ho:op (run m s)=.call (.c (.clo (.func g) [] [])) (oA (op (run m s))):=by kernel_rfl)(ha:(evs (run m s).env (oA (op (run m s)))).map (List.map nz)=some [.sl (l.map E.f) .no]:=by kernel_rfl)(hs:seE (run m s)=none:=by kernel_rfl):Ok P f R s:=N5 m (a6a (by rw[ho];exact h2v hw.1 E.ro h0 ha) (hk hw.2) hc (by rw[hs];exact b69 hs))
theorem KNB(m:Nat)(E:En α){g:FuncId}{l:List α}(hw:g3u P E.f E.sz g l/\p)(hk:p->Ok P f R (d2l (run m s) (.sl (l.map E.f) (.own (run m s).h.bufs.length)) ⟨(run m s).h.blks,(run m s).h.bufs++[(l.length,E.sz)],(run m s).h.globs⟩))(hc:okH (run m s)=true:=by kernel_rfl)(ho:op (run m s)=.call (.c (.clo (.func g) [] [])) (oA (op (run m s))):=by kernel_rfl)(ha:(evs (run m s).env (oA (op (run m s)))).map (List.map nz)=some [.sl (l.map E.f) .no]:=by kernel_rfl)(hs:seE (run m s)=none:=by kernel_rfl):Ok P f R s:=N5 m (a6a (by rw[ho];exact g8f hw.1 E.ro.hp ha) (hk hw.2) hc (by rw[hs];exact b69 hs))
theorem KT2(m n:Nat)(B:Bool)(C:Bool->AV)(h1:B=true->Ok P f R (jn (run m s) n (C true))->Ok P f R (br (run m s) true))(h2:B=false->Ok P f R (jn (run m s) n (C false))->Ok P f R (br (run m s) false))(hk:Ok P f R (jn (run m s) n (C B)))(hv:cv (run m s)=some (.v (.bool B)):=by kernel_rfl):Ok P f R s:=N5 m (e9z hv (fun h=>h1 h (by rw[h]at hk;exact hk)) fun h=>h2 h (by rw[h]at hk;exact hk))
theorem KE2(m:Nat){a:AV}{s0:Mc}{n:Nat}(key:Ok P f R (jn s0 n a))(ha:get (run m s).env (jnD s0 n)=some a:=by kernel_rfl)(hb:d13 (run m s)=d13 (jn s0 n a):=by kernel_rfl)(hd:(run m s).env.drop ((run m s).env.length - s0.env.length)=s0.env:=by kernel_rfl)(hf:met s0 (run m s) n=true:=by kernel_rfl):Ok P f R s:=N5 m (e2o key ha hb hd hf)
def g9c(s:Mc):Bool:=match s.pc with
 |.c _=>true
 |_=>false
def cut(e:Env)(env:Env):Env:=e.map fun p=>(p.1,(get env p.1).getD .nil)
theorem f0o{e:Env}(hc:g9c s=true)(he:(cut e s.env).map (f5h [] s.env)=(cut e s.env).map fun p=>some p.2)(hk:∀x,s.pc=.c x->D P (cdN P f) R.kb R.kf x (Qs P f R s.k) (cut e s.env) s.h):Ok P f R s:=by
 refine d9h [] ?_ he ?_
 ·obtain⟨pc,k,env,h⟩:=s;cases pc<;>first|rfl|cases hc
 ·obtain⟨pc,k,env,h⟩:=s;cases pc<;>first|exact hk _ rfl|cases hc
theorem KFz(m n:Nat)(mk:List Bool)(k:Nat)(e:Env)(bs:List (Option (List AV)))(hl:a7y mk k e=true/\a4l mk k bs=true)(hk:Ok P f R ⟨(run m s).pc,(run m s).k,e,⟨bs,(run m s).h.bufs.take k,(run m s).h.globs⟩⟩)(hc:g9c (run m s)=true:=by kernel_rfl)(he:(cut e (run m s).env).map (f5h [] (run m s).env)=(cut e (run m s).env).map (fun p=>some p.2):=by kernel_rfl)(hb:(run m s).h.blks[n]? =some (some (c5y (run m s) n)):=by kernel_rfl)(h1:(a8n (c5y (run m s) n)&& !mk.getD n false&&c67 mk (run m s).h.blks&&(List.range R.kb).all (fun k=>mk.getD k false)&&Nat.ble R.kf k&&X1 (run m s).h.globs)=true:=by kernel_rfl)(hE:fzE n (c5y (run m s) n) (cut e (run m s).env)=e:=by kernel_rfl)(hbs:a0e mk (run m s).h.blks=bs:=by kernel_rfl):Ok P f R s:=by
 simp only[Bool.and_eq_true,List.all_eq_true,List.mem_range,Bool.not_eq_true']at h1;obtain⟨⟨⟨⟨⟨a1,a2⟩,a3⟩,a4⟩,a5⟩,a6⟩:=h1;refine N5 m (f0o hc he fun x hx=>?_);rw[hx]at hk;subst hbs;exact f31 n mk k _ hb a1 a2 a3 a4 (Nat.le_of_ble_eq_true a5) hE hl.1 hl.2 a6 hk
theorem KDf(m:Nat)(E:En α)(n:Nat)(mk:List Bool)(k c:Nat)(e:Env)(bs:List (Option (List AV)))(hl:a7y mk k e=true/\a4l mk k bs=true){l:List α}{len:Nat}(hw:l.length=len/\p)(hk:p->Ok P f R ⟨(run m s).pc,(run m s).k,e,⟨bs,(run m s).h.bufs.take k,(run m s).h.globs⟩⟩)(hc:g9c (run m s)=true:=by kernel_rfl)(he:(cut e (run m s).env).map (f5h [] (run m s).env)=(cut e (run m s).env).map (fun p=>some p.2):=by kernel_rfl)(hb:(run m s).h.blks[n]? =some (some (cellsOf E.f l)):=by kernel_rfl)(h1:(Nat.ble 1 E.sz&& !mk.getD n false&&c67 mk (run m s).h.blks&&(List.range R.kb).all (fun k=>mk.getD k false)&&Nat.ble R.kf k&&X1 (run m s).h.globs)=true:=by kernel_rfl)(hr:b87 n (cut e (run m s).env)=List.replicate c (0,E.sz,len):=by kernel_rfl)(hE:f8i n (List.map E.f l) (cut e (run m s).env)=e:=by kernel_rfl)(hbs:a0e mk (run m s).h.blks=bs:=by kernel_rfl):Ok P f R s:=by
 simp only[Bool.and_eq_true,List.all_eq_true,List.mem_range,Bool.not_eq_true']at h1;obtain⟨⟨⟨⟨⟨a1,a2⟩,a3⟩,a4⟩,a5⟩,a6⟩:=h1;refine N5 m (f0o hc he fun x hx=>?_);have hk:=hk hw.2;rw[hx]at hk;exact drf n mk k c l len e bs E.ro.hs E.ro.hn hw.1 hl hk hb a1 hr a2 a3 a4 a5 hE hbs a6
theorem KDg(m:Nat)(E:En α)(n:Nat)(mk:List Bool)(k c c':Nat)(e:Env)(bs:List (Option (List AV)))(hl:a7y mk k e=true/\a4l mk k bs=true){l:List α}{len:Nat}(hw:l.length=len/\p)(hk:p->Ok P f R ⟨(run m s).pc,(run m s).k,e,⟨bs,(run m s).h.bufs.take k,(run m s).h.globs⟩⟩)(hc:g9c (run m s)=true:=by kernel_rfl)(he:(cut e (run m s).env).map (f5h [] (run m s).env)=(cut e (run m s).env).map (fun p=>some p.2):=by kernel_rfl)(hb:(run m s).h.blks[n]? =some (some (cellsOf E.f l)):=by kernel_rfl)(h1:(!mk.getD n false&&c67 mk (run m s).h.blks&&(List.range R.kb).all (fun k=>mk.getD k false)&&Nat.ble R.kf k&&X1 (run m s).h.globs)=true:=by kernel_rfl)(hr:b87 n (cut e (run m s).env)=List.replicate c (0,E.sz,len):=by kernel_rfl)(hr2:f2f n (a0e mk (run m s).h.blks)=List.replicate c' (0,E.sz,len):=by kernel_rfl)(hE:f8i n (List.map E.f l) (cut e (run m s).env)=e:=by kernel_rfl)(hbs:g0m n (List.map E.f l) (a0e mk (run m s).h.blks)=bs:=by kernel_rfl):Ok P f R s:=by
 simp only[Bool.and_eq_true,List.all_eq_true,List.mem_range,Bool.not_eq_true']at h1;obtain⟨⟨⟨⟨a2,a3⟩,a4⟩,a5⟩,a6⟩:=h1;refine N5 m (f0o hc he fun x hx=>?_);have hk:=hk hw.2;rw[hx]at hk;exact h7f n mk k c c' l len e bs E.ro.hs E.ro.hn hw.1 hl hk hb hr hr2 a2 a3 a4 a5 hE hbs a6
end
def f68(sz b:Nat):W2:=.seq (.region [o 2 (.mv (.c .nil))]) (.seq (.seq (.region [o 3 (mv 0),o 4 (.eq .slice true (T 3) (.c .nil))]) (.cond (T 4) (.seq (.region [o 2 (.mv (.c .nil))]) .ret) .skip)) (.seq (.region [o 5 (.sliceLit sz 0 [] []),o 6 (mv 0),o 7 (.append sz b (T 5) (T 6)),o 2 (mv 7)]) .ret))
theorem e8c{P:Program}{sz:Nat}{env:Env}{h:A7}:a22 P (.sliceLit sz 0 [] []) env h (.sl [] .full) h:=f8t (by simp[e8b,evp,d2z,c74])
theorem d8u{P:Program}{g b:Nat}{α:Type}(E:En α){s:List α}(hw:s≠[]/\s.length*b<=140737488355328)(hf:b4o P g=some (8,f68 E.sz b,[.tmp 2]):=by kernel_rfl):f84 P E.f E.sz g s:=by
 refine g9s hf rfl rfl (ds (va 1 [] (ve (e1b (ds (va 1 [(3,.sl (List.map E.f s) .no)] (vn rfl s E.f (fun bj1 hb0=>?_))))))));refine ve (dkf (hb0 hw.1) ?_);refine e8v (ds (vo rfl e8c rfl (va 1 [(6,.sl (List.map E.f s) .no)] ?_)));exact vo rfl (g51 E.f s hw.1 hw.2 E.ro.hs (by kernel_rfl)) rfl (va 1 [(2,.row 0 0 E.sz s.length s.length)] (ve (f4f (h7u rfl))))
theorem f1d{P:Program}{g b:Nat}{α:Type}(E:En α){s:List α}(hw:s.length*b<=140737488355328)(hf:b4o P g=some (8,f68 E.sz b,[.tmp 2]):=by kernel_rfl):g3u P E.f E.sz g s:=by
 refine g48 hf rfl rfl (ds (va 1 [] (ve (e1b (ds (va 1 [(3,.sl (List.map E.f s) .no)] (vn rfl s E.f (fun bj1 hb0=>?_))))))));refine ve (dw (B:=bj1) (p:=s=[]) (q:=True) ⟨fun h=>Classical.byContradiction fun hn=>(by rw[hb0 hn]at h;cases h),fun _=>trivial⟩ (fun _ h0=>?_) (fun _ _=>?_))
 ·subst h0;exact ds (va 1 [(2,.nil)] (ve (h27 (t:=2) E.sz (by kernel_rfl) (f4f (g4c rfl)))))
 refine e8v (ds (vo rfl e8c rfl (va 1 [(6,.sl (List.map E.f s) .no)] ?_)));exact vo rfl (f6q E.f ([]:List α) s (by simpa using hw) E.ro.hs (by kernel_rfl) (by kernel_rfl)) rfl (va 1 [(2,.sl (List.map E.f (([]:List α)++s)) (.own 0))] (ve (f4f (g4c (l2:=([]:List α)++s) rfl))))
section
open Go.RowKit Go.ChangeShapes Go.WideShapes Go.ChangeAt
theorem c84{α:Type}{P:Nat->α->Prop}:∀n:Nat,(∀i,i<n->∃x,P i x)->∃xs:List α,xs.length=n/\∀(i:Nat) x,xs[i]? =some x->P i x
 |0,_=>⟨[],rfl,fun i x h=>by simp at h⟩
 |n+1,h=>by
  obtain⟨xs,hl,hx⟩:=c84 n (fun i hi=>h i (by omega));obtain⟨y,hy⟩:=h n (by omega);refine⟨xs++[y],by simp[hl],fun i x hi=>?_⟩
  by_cases hin:i<n
  ·rw[List.getElem?_append_left (by omega)]at hi;exact hx i x hi
  ·rw[List.getElem?_append_right (by omega)]at hi
   by_cases e:i=n
   ·subst e;rw[hl]at hi;simp at hi;subst hi;exact hy
   ·rw[List.getElem?_eq_none (by simp;omega)]at hi;cases hi
def Ty(P:Program):Nat->TypeId->List AV->Prop
 |0,_,_=>False
 |n+1,t,avs=>match P.underlying t with
  |some (.int k)=>∃m,avs=[.v (.int k m)]/\(Lit.int k m).wf=true
  |some .bool=>∃b,avs=[.v (.bool b)]
  |some .string=>∃s,avs=[.v (.string s)]/\s.size<=140737488351232
  |some (.slice e)=>∃els:List (List AV),avs=[.sl els .no]/\els.length*P.bytesOf e<=140737488351232/\∀el∈els,Ty P n e el
  |some (.struct fs)=>∃parts:List (List AV),avs=parts.flatten/\parts.length=fs.size/\∀(i:Nat) (f:Field),fs[i]? =some f->∃p,parts[i]? =some p/\Ty P n f.type p
  |some (.array k e)=>∃parts:List (List AV),avs=parts.flatten/\parts.length=k/\∀p∈parts,Ty P n e p
  |_=>False
def d6u(P:Program):Nat->List Field->Nat->Bool
 |off,[],tot=>off==tot
 |off,f::fs,tot=>f.offset==off&&d6u P (off+P.cellsOf f.type) fs tot
def okT(P:Program)(ts:List TypeId)(t:TypeId):Bool:=
 match P.underlying t with
 |some (.int _)|some .bool|some .string=>true
 |some (.slice e)=>ts.contains e&&decide (0<P.cellsOf e)&&decide (1<=P.bytesOf e)
 |some (.struct fs)=>fs.toList.all (fun f=>ts.contains f.type)&&d6u P 0 fs.toList (P.cellsOf t)
 |some (.array k e)=>ts.contains e&&decide (k*P.cellsOf e=P.cellsOf t)
 |_=>false
def d9z(P:Program)(ts:List TypeId):Bool:=ts.all (okT P ts)
def b7u:Nat->Nat->Prop:=fun _ _=>False
section
variable {H:Type}{enc:TypeId × Value->H}{P:Program}{W:World}{base:Nat}{spare:Nat->Bool}{held:Bool}
def a0v(P:Program)(t:TypeId)(d:DataW H):Prop:=∀x∈DataW.weights P t d,x<=140737488351232
theorem b77:∀(ts:List TypeId) (ds:List (DataW H)) (i:Nat) (t:TypeId) (d:DataW H),ts[i]? =some t->ds[i]? =some d->∀x∈DataW.weights P t d,x∈DataW.weightsEach P ts ds
 |[],_,i,_,_,h,_,_,_=>by simp at h
 |_::_,[],i,_,_,_,h,_,_=>by simp at h
 |t'::ts,d'::ds,0,t,d,h1,h2,x,hx=>by
  simp at h1 h2;subst h1;subst h2;simp only[DataW.weightsEach,List.mem_append];exact .inl hx
 |t'::ts,d'::ds,i+1,t,d,h1,h2,x,hx=>by
  simp only[DataW.weightsEach,List.mem_append];exact .inr (b77 ts ds i t d (by simpa using h1) (by simpa using h2) x hx)
theorem b3x(e:TypeId):∀(ds:List (DataW H)) (i:Nat) (d:DataW H),ds[i]? =some d->∀x∈DataW.weights P e d,x∈DataW.weightsAll P e ds
 |[],i,_,h,_,_=>by simp at h
 |d'::ds,0,d,h2,x,hx=>by
  simp at h2;subst h2;simp only[DataW.weightsAll,List.mem_append];exact .inl hx
 |d'::ds,i+1,d,h2,x,hx=>by
  simp only[DataW.weightsAll,List.mem_append];exact .inr (b3x e ds i d (by simpa using h2) x hx)
theorem a0v.part{t:TypeId}{fs:Array Field}{ps:List (DataW H)}(ht:P.underlying t=some (.struct fs))(h:a0v P t (.agg ps)){i:Nat}{f:Field}{d:DataW H}(hf:fs[i]? =some f)(hd:ps[i]? =some d):a0v P f.type d:=by
 intro x hx;refine h x ?_;simp only[DataW.weights,ht];exact b77 _ _ i f.type d (by simp[hf]) hd x hx
theorem a0v.elem{t e:TypeId}{es sp:List (DataW H)}(ht:P.underlying t=some (.slice e))(h:a0v P t (.slice es sp)){i:Nat}{d:DataW H}(hd:es[i]? =some d):a0v P e d:=by
 intro x hx;refine h x ?_;simp only[DataW.weights,ht,List.mem_cons,List.mem_append];exact .inr (.inl (b3x e es i d hd x hx))
theorem a0v.short{t e:TypeId}{es sp:List (DataW H)}(ht:P.underlying t=some (.slice e))(h:a0v P t (.slice es sp)):es.length*P.bytesOf e<=140737488351232:=by
 have:=h ((es.length+sp.length)*P.bytesOf e) (by simp only[DataW.weights,ht,List.mem_cons,true_or]);rw[Nat.add_mul]at this;omega
theorem a0v.at_{t e:TypeId}{k:Nat}{ps:List (DataW H)}(ht:P.underlying t=some (.array k e))(h:a0v P t (.agg ps)){i:Nat}{d:DataW H}(hd:ps[i]? =some d):a0v P e d:=by
 intro x hx;refine h x ?_;simp only[DataW.weights,ht];exact b3x e ps i d hd x hx
theorem c7s(σ:Sg):∀(fs:List Field) (off tot:Nat) (cs:List Value) (parts:List (List AV)),d6u P off fs tot=true->cs.length=tot->parts.length=fs.length->
  (∀(i:Nat) (f:Field) (p:List AV),fs[i]? =some f->parts[i]? =some p->F3 σ p ((cs.drop f.offset).take (P.cellsOf f.type)))->F3 σ parts.flatten (cs.drop off)
 |[],off,tot,cs,parts,hc,hl,hp,_=>by
  simp only[d6u,beq_iff_eq]at hc;have:parts=[]:=List.eq_nil_of_length_eq_zero (by simpa using hp);subst this;rw[List.drop_of_length_le (by omega)];exact F3.nil σ
 |f::fs,off,tot,cs,[],hc,hl,hp,_=>by simp at hp
 |f::fs,off,tot,cs,p::parts,hc,hl,hp,h=>by
  simp only[d6u,Bool.and_eq_true,beq_iff_eq]at hc;obtain⟨h1,h2⟩:=hc;have h3:=h 0 f p rfl rfl;have h4:=c7s σ fs (off+P.cellsOf f.type) tot cs parts h2 hl (by simpa using hp) (fun i g q hg hq=>h (i+1) g q (by simpa using hg) (by simpa using hq));have:=h3.append h4;rw[h1,<-List.drop_drop,List.take_append_drop]at this;simpa using this
theorem d37(σ:Sg)(k:Nat):∀(parts:List (List AV)) (cs:List Value),cs.length=parts.length*k->
  (∀(i:Nat) (p:List AV),parts[i]? =some p->F3 σ p ((cs.drop (i*k)).take k))->F3 σ parts.flatten cs
 |[],cs,hl,_=>by
  have:cs=[]:=List.eq_nil_of_length_eq_zero (by simpa using hl);subst this;exact F3.nil σ
 |p::parts,cs,hl,h=>by
  have h3:=h 0 p rfl;rw[List.length_cons,Nat.add_mul]at hl
  have h4:=d37 σ k parts (cs.drop k) (by simp;omega) (fun i q hq=>by
   have:=h (i+1) q (by simpa using hq);rw[List.drop_drop,show k+i*k=(i+1)*k by rw[Nat.add_mul];omega];exact this)
  have:=h3.append h4;simp only[Nat.zero_mul,List.drop_zero,List.take_append_drop]at this;simpa using this
theorem b1r{a b:List AV}:plainL (a++b)=(plainL a&&plainL b):=by
 induction a with
 |nil=>simp[plainL]
 |cons x a ih=>simp[plainL,ih,Bool.and_assoc]
theorem b5m:∀{l:List (List AV)},(∀p∈l,plainL p=true)->plainL l.flatten=true
 |[],_=>rfl
 |p::l,h=>by rw[List.flatten_cons,b1r,h p (by simp),b5m (fun q hq=>h q (by simp[hq]))];rfl
theorem d4i:∀{l:List (List AV)},(∀p∈l,plainL p=true)->plainLL l=true
 |[],_=>rfl
 |p::l,h=>by simp only[plainLL,Bool.and_eq_true];exact⟨h p (by simp),d4i fun q hq=>h q (by simp[hq])⟩
theorem e5k{ts:List TypeId}(ok:d9z P ts=true):∀(n:Nat) (t:TypeId) (cs:List Value) (z:DataW H × List MemPlace),t∈ts->DataW.trod enc P W base spare held n t cs=some z->a0v P t z.1->
  ∃avs,F3 (bare W b7u) avs cs/\Ty P n t avs/\plainL avs=true:=by
 intro n
 induction n with
 |zero=>intro t cs z ht h;simp[DataW.trod]at h
 |succ n ih=>
  intro t cs z ht h hw;have hok:=List.all_eq_true.1 ok t ht;unfold okT at hok;split at hok
  ·rename_i k hu;obtain⟨m,rfl,_,hwf⟩:=DataW.trod_int hu h;exact⟨[.v (.int k m)],F3.one (.v _ rfl) rfl,by unfold Ty;rw[hu];exact⟨m,rfl,hwf⟩,rfl⟩
  ·rename_i hu;obtain⟨b,rfl,_⟩:=DataW.trod_bool hu h;exact⟨[.v (.bool b)],F3.one (.v _ rfl) rfl,by unfold Ty;rw[hu];exact⟨b,rfl⟩,rfl⟩
  ·rename_i hu;obtain⟨s,rfl,rfl,_⟩:=DataW.trod_string hu h;have:s.size<=140737488351232:=hw s.size (by simp[DataW.weights]);exact⟨[.v (.string s)],F3.one (.v _ rfl) rfl,by unfold Ty;rw[hu];exact⟨s,rfl,this⟩,rfl⟩
  ·rename_i e hu;simp only[Bool.and_eq_true,decide_eq_true_eq,List.contains_iff_mem]at hok;obtain⟨⟨he,hk0⟩,hb1⟩:=hok;rcases DataW.trod_slice hu h with⟨hc,_⟩|⟨a,len,cap,elems,rest,m,hm,hc,hy,hb,hl,hmx,hlen,helem,_⟩
   ·subst hc;exact⟨[.sl [] .no],F3.one (.sl0 _ trivial) rfl,by unfold Ty;rw[hu];exact⟨[],rfl,by simp,fun el h=>by cases h⟩,rfl⟩
   ·subst hc hy;obtain rfl:m=n:=by omega
    have hsh:=a0v.short hu hw;rw[List.length_map,hlen]at hsh
    have key:∀i,i<len->∃avs:List AV,∃vs:List Value,vs.length=P.cellsOf e/\(∀j,j<P.cellsOf e->W.cell? ((a.add (i*P.cellsOf e)).add j)=vs[j]?)/\F3 (bare W b7u) avs vs/\Ty P m e avs/\plainL avs=true:=by
     intro i hi;have h1:=helem i hi;rw[List.getElem?_eq_getElem (by omega),Option.bind_eq_some_iff]at h1;obtain⟨vs,hc1,hc2⟩:=h1;obtain⟨_,hl1,hc3⟩:=World.cells?_some hc1;obtain⟨avs,h2,h3,h4⟩:=ih e vs _ he hc2 (a0v.elem hu hw (i:=i) (by rw[List.getElem?_map,List.getElem?_eq_getElem (by omega)];rfl));exact⟨avs,vs,hl1,hc3,h2,h3,h4⟩
    obtain⟨els,hel,hels⟩:=c84 len key
    have hty:∀el∈els,Ty P m e el/\plainL el=true:=by
     intro el hmem;obtain⟨i,hi⟩:=List.mem_iff_getElem?.1 hmem;obtain⟨vs,_,_,_,q1,q2⟩:=hels i el hi;exact⟨q1,q2⟩
    refine⟨[.sl els .no],F3.one ?_ rfl,by unfold Ty;rw[hu];exact⟨els,rfl,by rw[hel];exact hsh,fun el h=>(hty el h).1⟩,by simp only[plainL,plain,Bool.true_and,Bool.and_true];exact d4i fun p hp=>(hty p hp).2⟩
    by_cases h0:len=0
    ·subst h0;have:els=[]:=List.eq_nil_of_length_eq_zero hel;subst this;exact .slx _ a cap trivial (.inl rfl)
    ·obtain⟨b,o,sp⟩:=a;obtain⟨avs0,vs0,hl0,hc0,_⟩:=key 0 (by omega);have hz:=hc0 0 hk0;rw[List.getElem?_eq_getElem (by omega)]at hz
     have hspot:sp=none:=by
      have:=World.cell?_spot hz;simpa[Addr.add]using this
     subst hspot
     have:=Rel.sl (σ:=bare W b7u) els .no b o cap (P.cellsOf e) (fun i j=>((W.cell? ⟨b,o+i*P.cellsOf e+j,none⟩).getD undef)) (fun i el hi=>by
       obtain⟨vs,q1,_,q3,_⟩:=hels i el hi;rw[<-q3.1,q1]) (by omega) trivial (fun id e h=>by cases h) (fun i el hi j av hj=>by
       obtain⟨vs,q1,q2,q3,_⟩:=hels i el hi;obtain⟨c1,x,hx,hr⟩:=q3.2 j av hj;have hjl:j<P.cellsOf e:=by rw[<-q1];exact(List.getElem?_eq_some_iff.1 hx).1
       have:=q2 j hjl;rw[a0g,a0g,hx]at this;exact⟨by show W.cell? _=_;rw[this];rfl,fun h=>(b8r _ _ _ _).1 h,c1⟩) (fun i el hi j av hj=>by
       obtain⟨vs,q1,q2,q3,_⟩:=hels i el hi;obtain⟨c1,x,hx,hr⟩:=q3.2 j av hj;have hjl:j<P.cellsOf e:=by rw[<-q1];exact(List.getElem?_eq_some_iff.1 hx).1
       have:=q2 j hjl;rw[a0g,a0g,hx]at this;rw[this];exact hr)
     rw[hel]at this;exact this
  ·rename_i fs hu;simp only[Bool.and_eq_true,List.all_eq_true,List.contains_iff_mem]at hok;obtain⟨hfs,hcg⟩:=hok;obtain⟨xs,m,hm,rfl,hcl,hxl,hf⟩:=DataW.trod_struct hu h;obtain rfl:m=n:=by omega
   have key:∀i,i<fs.size->∃avs:List AV,∀f,fs[i]? =some f->F3 (bare W b7u) avs ((cs.drop f.offset).take (P.cellsOf f.type))/\Ty P m f.type avs/\plainL avs=true:=by
    intro i hi;have hfi:fs[i]? =some fs[i]:=Array.getElem?_eq_getElem hi;have e:xs[i]? =some xs[i]:=List.getElem?_eq_getElem (by omega);obtain⟨avs,h2,h3,h4⟩:=ih fs[i].type _ _ (hfs _ (by simp)) ((hf i _ hfi).trans e) (a0v.part hu hw hfi (by rw[List.getElem?_map,e];rfl));refine⟨avs,fun f hf'=>?_⟩;rw[hfi]at hf';cases hf';exact⟨h2,h3,h4⟩
   obtain⟨parts,hpl,hparts⟩:=c84 fs.size key;have hcells:=c7s (P:=P) (bare W b7u) fs.toList 0 (P.cellsOf t) cs parts hcg hcl (by simpa using hpl) (fun i f p hfi hpi=>(hparts i p hpi f (by simpa using hfi)).1);refine⟨parts.flatten,by simpa using hcells,?_,b5m fun p hp=>?_⟩
   ·unfold Ty;rw[hu];refine⟨parts,rfl,hpl,fun i f hfi=>?_⟩;have hi:i<parts.length:=by rw[hpl];exact(Array.getElem?_eq_some_iff.1 hfi).1
    exact⟨parts[i],List.getElem?_eq_getElem hi,(hparts i _ (List.getElem?_eq_getElem hi) f hfi).2.1⟩
   ·obtain⟨i,hi⟩:=List.mem_iff_getElem?.1 hp;have hlt:i<fs.size:=by rw[<-hpl];exact(List.getElem?_eq_some_iff.1 hi).1
    exact(hparts i p hi fs[i] (Array.getElem?_eq_getElem hlt)).2.2
  ·rename_i k e hu;simp only[Bool.and_eq_true,decide_eq_true_eq,List.contains_iff_mem]at hok;obtain⟨he,hke⟩:=hok;obtain⟨xs,m,hm,rfl,hcl,hxl,hf⟩:=DataW.trod_array hu h;obtain rfl:m=n:=by omega
   have key:∀i,i<k->∃avs:List AV,F3 (bare W b7u) avs ((cs.drop (i*P.cellsOf e)).take (P.cellsOf e))/\Ty P m e avs/\plainL avs=true:=by
    intro i hi;have e1:xs[i]? =some xs[i]:=List.getElem?_eq_getElem (by omega);exact ih e _ _ he ((hf i hi).trans e1) (a0v.at_ hu hw (by rw[List.getElem?_map,e1];rfl))
   obtain⟨parts,hpl,hparts⟩:=c84 k key
   have hall:∀p∈parts,Ty P m e p/\plainL p=true:=by
    intro p hp;obtain⟨i,hi⟩:=List.mem_iff_getElem?.1 hp;exact(hparts i p hi).2
   refine⟨parts.flatten,d37 _ (P.cellsOf e) parts cs (by rw[hcl,hpl,hke]) (fun i p hi=>(hparts i p hi).1),?_,b5m fun p hp=>(hall p hp).2⟩;unfold Ty;rw[hu];exact⟨parts,rfl,hpl,fun p hp=>(hall p hp).1⟩
  ·cases hok
end
end
def eL{α:Type}(e:α->List AV)(x:List α):List AV:=[.sl (List.map e x) .no]
def d8z(x:Int):List AV:=[.v (.int .i8 x)]
theorem L6(l:List Int):plainLL (l.map d8z)=true:=D6 _ _ fun x _=>rfl
def c7y(x:Int):List AV:=[.v (.int .i16 x)]
theorem G7(l:List Int):plainLL (l.map c7y)=true:=D6 _ _ fun x _=>rfl
def c7o(x:Int):List AV:=[.v (.int .i32 x)]
theorem G9(l:List Int):plainLL (l.map c7o)=true:=D6 _ _ fun x _=>rfl
def a8r(x:Int):List AV:=[.v (.int .i64 x)]
theorem G2(l:List Int):plainLL (l.map a8r)=true:=D6 _ _ fun x _=>rfl
def b05(x:Int):List AV:=[.v (.int .u8 x)]
theorem J4(l:List Int):plainLL (l.map b05)=true:=D6 _ _ fun x _=>rfl
def c7t(x:Int):List AV:=[.v (.int .u16 x)]
theorem G6(l:List Int):plainLL (l.map c7t)=true:=D6 _ _ fun x _=>rfl
def c7d(x:Int):List AV:=[.v (.int .u32 x)]
theorem G5(l:List Int):plainLL (l.map c7d)=true:=D6 _ _ fun x _=>rfl
def b76(x:Int):List AV:=[.v (.int .u64 x)]
theorem G8(l:List Int):plainLL (l.map b76)=true:=D6 _ _ fun x _=>rfl
def c1o(x:Bool):List AV:=[.v (.bool x)]
theorem L3(l:List Bool):plainLL (l.map c1o)=true:=D6 _ _ fun x _=>rfl
def e5z(x:ByteArray):List AV:=[.v (.string x)]
theorem S8(l:List ByteArray):plainLL (l.map e5z)=true:=D6 _ _ fun x _=>rfl
structure GOp where
 Num:Int
 Name:ByteArray
 Alias:ByteArray
 Card:Int
 Key:Int
 Kind:Int
 Target:Int
 Union:Int
def Q8(x:GOp):List AV:=[.v (.int .i64 x.Num),.v (.string x.Name),.v (.string x.Alias),.v (.int .i64 x.Card),.v (.int .i64 x.Key),.v (.int .i64 x.Kind),.v (.int .i64 x.Target),.v (.int .i64 x.Union)]
theorem J5(x:GOp):plainL (Q8 x)=true:=by simp[Q8,plainL,plain,L6,G7,G9,G2,J4,G6,G5,G8,L3,S8,a0s,T0,a1a]
theorem S9(l:List GOp):plainLL (l.map Q8)=true:=D6 _ _ fun x _=>J5 x
structure B7 where
 Name:ByteArray
 Ops:(List GOp)
 Unions:Int
def D1(x:B7):List AV:=[.v (.string x.Name),.sl (List.map Q8 x.Ops) .no,.v (.int .i64 x.Unions)]
theorem F5(x:B7):plainL (D1 x)=true:=by simp[D1,plainL,plain,L6,G7,G9,G2,J4,G6,G5,G8,L3,S8,a0s,T0,a1a,J5,S9]
theorem H5(l:List B7):plainLL (l.map D1)=true:=D6 _ _ fun x _=>F5 x
structure H1 where
 Num:Int
 Wire:Int
 Bits:Int
 Data:ByteArray
def I3(x:H1):List AV:=[.v (.int .i64 x.Num),.v (.int .i64 x.Wire),.v (.int .u64 x.Bits),.v (.string x.Data)]
theorem P7(x:H1):plainL (I3 x)=true:=by simp[I3,plainL,plain,L6,G7,G9,G2,J4,G6,G5,G8,L3,S8,a0s,T0,a1a,J5,S9,F5,H5]
theorem H2(l:List H1):plainLL (l.map I3)=true:=D6 _ _ fun x _=>P7 x
structure A0 where
 Kind:Int
 Bits:Int
 Text:ByteArray
 List_:(List A0)
 Pairs:(List (A0 × A0))
 Slots:(List (Int × A0))
 Raws:(List H1)
mutual
def C1:A0->List AV
 |⟨f0,f1,f2,f3,f4,f5,f6⟩=>[.v (.int .i64 f0),.v (.int .u64 f1),.v (.string f2),.sl (eGValue'L f3) .no,.sl (eGPair'L f4) .no,.sl (eGSlot'L f5) .no,.sl (List.map I3 f6) .no]
def eGValue'L:List A0->List (List AV)
 |[]=>[]
 |x::l=>(C1 x)::eGValue'L l
def eGPair'L:List (A0 × A0)->List (List AV)
 |[]=>[]
 |(z0,z1)::l=>(C1 z0++C1 z1)::eGPair'L l
def eGSlot'L:List (Int × A0)->List (List AV)
 |[]=>[]
 |(z0,z1)::l=>([.v (.int .i64 z0)]++C1 z1)::eGSlot'L l
end
def A9(x:(A0 × A0)):List AV:=C1 x.1++C1 x.2
def B3(x:(Int × A0)):List AV:=[.v (.int .i64 x.1)]++C1 x.2
theorem b61:∀l,eGValue'L l=List.map C1 l
 |[]=>rfl
 |x::l=>by simp only[eGValue'L,List.map_cons,b61 l]
theorem b8w:∀l,eGPair'L l=List.map A9 l
 |[]=>rfl
 |x::l=>by simp only[eGPair'L,List.map_cons,b8w l,A9]
theorem b84:∀l,eGSlot'L l=List.map B3 l
 |[]=>rfl
 |x::l=>by simp only[eGSlot'L,List.map_cons,b84 l,B3]
def A5(x:A0):List AV:=[.v (.int .i64 x.Kind),.v (.int .u64 x.Bits),.v (.string x.Text),.sl (List.map C1 x.List_) .no,.sl (List.map A9 x.Pairs) .no,.sl (List.map B3 x.Slots) .no,.sl (List.map I3 x.Raws) .no]
def V3(x:(A0 × A0)):List AV:=[.v (.int .i64 x.1.Kind),.v (.int .u64 x.1.Bits),.v (.string x.1.Text),.sl (List.map C1 x.1.List_) .no,.sl (List.map A9 x.1.Pairs) .no,.sl (List.map B3 x.1.Slots) .no,.sl (List.map I3 x.1.Raws) .no,.v (.int .i64 x.2.Kind),.v (.int .u64 x.2.Bits),.v (.string x.2.Text),.sl (List.map C1 x.2.List_) .no,.sl (List.map A9 x.2.Pairs) .no,.sl (List.map B3 x.2.Slots) .no,.sl (List.map I3 x.2.Raws) .no]
def W9(x:(Int × A0)):List AV:=[.v (.int .i64 x.1),.v (.int .i64 x.2.Kind),.v (.int .u64 x.2.Bits),.v (.string x.2.Text),.sl (List.map C1 x.2.List_) .no,.sl (List.map A9 x.2.Pairs) .no,.sl (List.map B3 x.2.Slots) .no,.sl (List.map I3 x.2.Raws) .no]
theorem Y7(x:A0):C1 x=A5 x:=by cases x;simp only[C1,A5,b61,b8w,b84]
theorem b2n(x:(A0 × A0)):A9 x=V3 x:=by simp only[A9,V3,Y7,A5,List.cons_append,List.nil_append]
theorem b2i(x:(Int × A0)):B3 x=W9 x:=by simp only[B3,W9,Y7,A5,List.cons_append,List.nil_append]
mutual
theorem c0h:∀x,plainL (C1 x)=true
 |⟨f0,f1,f2,f3,f4,f5,f6⟩=>by simp[C1,plainL,plain,pl_eGValue'L f3,pl_eGPair'L f4,pl_eGSlot'L f5,L6,G7,G9,G2,J4,G6,G5,G8,L3,S8,a0s,T0,a1a,J5,S9,F5,H5,P7,H2]
theorem pl_eGValue'L:∀l,plainLL (eGValue'L l)=true
 |[]=>rfl
 |x::l=>by simp[eGValue'L,plainLL,plainL,plain,b1r,c0h x,pl_eGValue'L l]
theorem pl_eGPair'L:∀l,plainLL (eGPair'L l)=true
 |[]=>rfl
 |(z0,z1)::l=>by simp[eGPair'L,plainLL,plainL,plain,b1r,c0h z0,c0h z1,pl_eGPair'L l]
theorem pl_eGSlot'L:∀l,plainLL (eGSlot'L l)=true
 |[]=>rfl
 |(z0,z1)::l=>by simp[eGSlot'L,plainLL,plainL,plain,b1r,c0h z1,pl_eGSlot'L l]
end
theorem E7(l:List A0):plainLL (l.map C1)=true:=by rw[<-b61];exact pl_eGValue'L l
theorem A8(x:A0):plainL (A5 x)=true:=by have:=E7 [x];simpa[plainLL,Y7]using this
theorem D7(l:List (A0 × A0)):plainLL (l.map A9)=true:=by rw[<-b8w];exact pl_eGPair'L l
theorem N7(x:(A0 × A0)):plainL (V3 x)=true:=by have:=D7 [x];simpa[plainLL,b2n]using this
theorem E2(l:List (Int × A0)):plainLL (l.map B3)=true:=by rw[<-b84];exact pl_eGSlot'L l
theorem O0(x:(Int × A0)):plainL (W9 x)=true:=by have:=E2 [x];simpa[plainLL,b2i]using this
structure b4h where
 Name:ByteArray
 Val:A0
def a8s(x:b4h):List AV:=[.v (.string x.Name),.v (.int .i64 x.Val.Kind),.v (.int .u64 x.Val.Bits),.v (.string x.Val.Text),.sl (List.map C1 x.Val.List_) .no,.sl (List.map A9 x.Val.Pairs) .no,.sl (List.map B3 x.Val.Slots) .no,.sl (List.map I3 x.Val.Raws) .no]
theorem P4(x:b4h):plainL (a8s x)=true:=by simp[a8s,plainL,plain,L6,G7,G9,G2,J4,G6,G5,G8,L3,S8,a0s,T0,a1a,J5,S9,F5,H5,P7,H2,A8,E7,N7,D7,O0,E2]
theorem K1(l:List b4h):plainLL (l.map a8s)=true:=D6 _ _ fun x _=>P4 x
structure b5u where
 Name:ByteArray
 Num:Int
 Notes:(List b4h)
def a3f(x:b5u):List AV:=[.v (.string x.Name),.v (.int .i64 x.Num),.sl (List.map a8s x.Notes) .no]
theorem Q9(x:b5u):plainL (a3f x)=true:=by simp[a3f,plainL,plain,L6,G7,G9,G2,J4,G6,G5,G8,L3,S8,a0s,T0,a1a,J5,S9,F5,H5,P7,H2,A8,E7,N7,D7,O0,E2,P4,K1]
theorem K0(l:List b5u):plainLL (l.map a3f)=true:=D6 _ _ fun x _=>Q9 x
structure c0q where
 From:Int
 To:Int
def b2u(x:c0q):List AV:=[.v (.int .i64 x.From),.v (.int .i64 x.To)]
theorem T4(x:c0q):plainL (b2u x)=true:=by simp[b2u,plainL,plain,L6,G7,G9,G2,J4,G6,G5,G8,L3,S8,a0s,T0,a1a,J5,S9,F5,H5,P7,H2,A8,E7,N7,D7,O0,E2,P4,K1,Q9,K0]
theorem N1(l:List c0q):plainLL (l.map b2u)=true:=D6 _ _ fun x _=>T4 x
structure V6 where
 Name:ByteArray
 Open:Bool
 Items:(List b5u)
 Reserved:(List c0q)
 Notes:(List b4h)
def S5(x:V6):List AV:=[.v (.string x.Name),.v (.bool x.Open),.sl (List.map a3f x.Items) .no,.sl (List.map b2u x.Reserved) .no,.sl (List.map a8s x.Notes) .no]
theorem V5(x:V6):plainL (S5 x)=true:=by simp[S5,plainL,plain,L6,G7,G9,G2,J4,G6,G5,G8,L3,S8,a0s,T0,a1a,J5,S9,F5,H5,P7,H2,A8,E7,N7,D7,O0,E2,P4,K1,Q9,K0,T4,N1]
theorem P9(l:List V6):plainLL (l.map S5)=true:=D6 _ _ fun x _=>V5 x
structure A6 where
 Progs:(List B7)
 Enums:(List V6)
def B6(x:A6):List AV:=[.sl (List.map D1 x.Progs) .no,.sl (List.map S5 x.Enums) .no]
theorem D2(x:A6):plainL (B6 x)=true:=by simp[B6,plainL,plain,L6,G7,G9,G2,J4,G6,G5,G8,L3,S8,a0s,T0,a1a,J5,S9,F5,H5,P7,H2,A8,E7,N7,D7,O0,E2,P4,K1,Q9,K0,T4,N1,V5,P9]
theorem S6(l:List A6):plainLL (l.map B6)=true:=D6 _ _ fun x _=>D2 x
structure b98 where
 a0:Int
 a1:Int
def b6g(x:b98):List AV:=[.v (.int .i64 x.a0),.v (.int .i64 x.a1)]
theorem J3(x:b98):plainL (b6g x)=true:=by simp[b6g,plainL,plain,L6,G7,G9,G2,J4,G6,G5,G8,L3,S8,a0s,T0,a1a,J5,S9,F5,H5,P7,H2,A8,E7,N7,D7,O0,E2,P4,K1,Q9,K0,T4,N1,V5,P9,D2,S6]
theorem H0(l:List b98):plainLL (l.map b6g)=true:=D6 _ _ fun x _=>J3 x
structure A3 where
 Data:ByteArray
 At:Int
 End:Int
 Depth:Int
 Nodes:Int
 Text:Int
def D5(x:A3):List AV:=[.v (.string x.Data),.v (.int .i64 x.At),.v (.int .i64 x.End),.v (.int .i64 x.Depth),.v (.int .i64 x.Nodes),.v (.int .i64 x.Text)]
theorem C3(x:A3):plainL (D5 x)=true:=by simp[D5,plainL,plain,L6,G7,G9,G2,J4,G6,G5,G8,L3,S8,a0s,T0,a1a,J5,S9,F5,H5,P7,H2,A8,E7,N7,D7,O0,E2,P4,K1,Q9,K0,T4,N1,V5,P9,D2,S6,J3,H0]
theorem L8(l:List A3):plainLL (l.map D5)=true:=D6 _ _ fun x _=>C3 x
structure a04 where
 Bytes:Int
 Depth:Int
 Nodes:Int
 Text:Int
def a3r(x:a04):List AV:=[.v (.int .i64 x.Bytes),.v (.int .i64 x.Depth),.v (.int .i64 x.Nodes),.v (.int .i64 x.Text)]
theorem K8(x:a04):plainL (a3r x)=true:=by simp[a3r,plainL,plain,L6,G7,G9,G2,J4,G6,G5,G8,L3,S8,a0s,T0,a1a,J5,S9,F5,H5,P7,H2,A8,E7,N7,D7,O0,E2,P4,K1,Q9,K0,T4,N1,V5,P9,D2,S6,J3,H0,C3,L8]
theorem N2(l:List a04):plainLL (l.map a3r)=true:=D6 _ _ fun x _=>K8 x
structure a9a where
 a0:Int
 a1:Int
def a6q(x:a9a):List AV:=[.v (.int .u16 x.a0),.v (.int .u16 x.a1)]
theorem G4(x:a9a):plainL (a6q x)=true:=by simp[a6q,plainL,plain,L6,G7,G9,G2,J4,G6,G5,G8,L3,S8,a0s,T0,a1a,J5,S9,F5,H5,P7,H2,A8,E7,N7,D7,O0,E2,P4,K1,Q9,K0,T4,N1,V5,P9,D2,S6,J3,H0,C3,L8,K8,N2]
theorem F4(l:List a9a):plainLL (l.map a6q)=true:=D6 _ _ fun x _=>G4 x
structure E4 where
 p:A6
 out:(List Int)
def b92(x:E4):List AV:=[.sl (List.map D1 x.p.Progs) .no,.sl (List.map S5 x.p.Enums) .no,.sl (List.map b05 x.out) .no]
theorem W7(x:E4):plainL (b92 x)=true:=by simp[b92,plainL,plain,L6,G7,G9,G2,J4,G6,G5,G8,L3,S8,a0s,T0,a1a,J5,S9,F5,H5,P7,H2,A8,E7,N7,D7,O0,E2,P4,K1,Q9,K0,T4,N1,V5,P9,D2,S6,J3,H0,C3,L8,K8,N2,G4,F4]
theorem S0(l:List E4):plainLL (l.map b92)=true:=D6 _ _ fun x _=>W7 x
structure B0 where
 p:A6
 c:A3
def c0j(x:B0):List AV:=[.sl (List.map D1 x.p.Progs) .no,.sl (List.map S5 x.p.Enums) .no,.v (.string x.c.Data),.v (.int .i64 x.c.At),.v (.int .i64 x.c.End),.v (.int .i64 x.c.Depth),.v (.int .i64 x.c.Nodes),.v (.int .i64 x.c.Text)]
theorem X6(x:B0):plainL (c0j x)=true:=by simp[c0j,plainL,plain,L6,G7,G9,G2,J4,G6,G5,G8,L3,S8,a0s,T0,a1a,J5,S9,F5,H5,P7,H2,A8,E7,N7,D7,O0,E2,P4,K1,Q9,K0,T4,N1,V5,P9,D2,S6,J3,H0,C3,L8,K8,N2,G4,F4,W7,S0]
theorem U8(l:List B0):plainLL (l.map c0j)=true:=D6 _ _ fun x _=>X6 x
structure C8 where
 p:A6
def K4(x:C8):List AV:=[.sl (List.map D1 x.p.Progs) .no,.sl (List.map S5 x.p.Enums) .no]
theorem G3(x:C8):plainL (K4 x)=true:=by simp[K4,plainL,plain,L6,G7,G9,G2,J4,G6,G5,G8,L3,S8,a0s,T0,a1a,J5,S9,F5,H5,P7,H2,A8,E7,N7,D7,O0,E2,P4,K1,Q9,K0,T4,N1,V5,P9,D2,S6,J3,H0,C3,L8,K8,N2,G4,F4,W7,S0,X6,U8]
theorem P3(l:List C8):plainLL (l.map K4)=true:=D6 _ _ fun x _=>G3 x
structure b5i where
 is:GFn
def b43(x:b5i):List AV:=[.clo (.func x.is.fn) x.is.fi x.is.cap]
theorem a0b(x:b5i):plainL (b43 x)=true:=by simp[b43,plainL,plain,L6,G7,G9,G2,J4,G6,G5,G8,L3,S8,a0s,T0,a1a,J5,S9,F5,H5,P7,H2,A8,E7,N7,D7,O0,E2,P4,K1,Q9,K0,T4,N1,V5,P9,D2,S6,J3,H0,C3,L8,K8,N2,G4,F4,W7,S0,X6,U8,G3,P3]
theorem Y4(l:List b5i):plainLL (l.map b43)=true:=D6 _ _ fun x _=>a0b x
structure c1b where
 slots:(List (Int × A0))
 raws:(List H1)
def b7w(x:c1b):List AV:=[.sl (List.map B3 x.slots) .no,.sl (List.map I3 x.raws) .no]
theorem a45(x:c1b):plainL (b7w x)=true:=by simp[b7w,plainL,plain,L6,G7,G9,G2,J4,G6,G5,G8,L3,S8,a0s,T0,a1a,J5,S9,F5,H5,P7,H2,A8,E7,N7,D7,O0,E2,P4,K1,Q9,K0,T4,N1,V5,P9,D2,S6,J3,H0,C3,L8,K8,N2,G4,F4,W7,S0,X6,U8,G3,P3,a0b,Y4]
theorem a19(l:List c1b):plainLL (l.map b7w)=true:=D6 _ _ fun x _=>a45 x
theorem c15(m:List Bool)(n:Nat)(x:GOp):lowL m n (Q8 x)=true:=lowL_plain _ _ _ (J5 x)
theorem b2p(m:List Bool)(n:Nat)(x:B7):lowL m n (D1 x)=true:=lowL_plain _ _ _ (F5 x)
theorem b74(m:List Bool)(n:Nat)(x:H1):lowL m n (I3 x)=true:=lowL_plain _ _ _ (P7 x)
theorem a83(m:List Bool)(n:Nat)(x:A0):lowL m n (A5 x)=true:=lowL_plain _ _ _ (A8 x)
theorem b3i(m:List Bool)(n:Nat)(x:(A0 × A0)):lowL m n (V3 x)=true:=lowL_plain _ _ _ (N7 x)
theorem b2w(m:List Bool)(n:Nat)(x:(Int × A0)):lowL m n (W9 x)=true:=lowL_plain _ _ _ (O0 x)
theorem b3q(m:List Bool)(n:Nat)(x:b4h):lowL m n (a8s x)=true:=lowL_plain _ _ _ (P4 x)
theorem b22(m:List Bool)(n:Nat)(x:b5u):lowL m n (a3f x)=true:=lowL_plain _ _ _ (Q9 x)
theorem b27(m:List Bool)(n:Nat)(x:c0q):lowL m n (b2u x)=true:=lowL_plain _ _ _ (T4 x)
theorem b28(m:List Bool)(n:Nat)(x:V6):lowL m n (S5 x)=true:=lowL_plain _ _ _ (V5 x)
theorem b2x(m:List Bool)(n:Nat)(x:A6):lowL m n (B6 x)=true:=lowL_plain _ _ _ (D2 x)
theorem a3j(m:List Bool)(n:Nat)(x:b98):lowL m n (b6g x)=true:=lowL_plain _ _ _ (J3 x)
theorem a5m(m:List Bool)(n:Nat)(x:A3):lowL m n (D5 x)=true:=lowL_plain _ _ _ (C3 x)
theorem a5o(m:List Bool)(n:Nat)(x:a04):lowL m n (a3r x)=true:=lowL_plain _ _ _ (K8 x)
theorem X9(m:List Bool)(n:Nat)(x:a9a):lowL m n (a6q x)=true:=lowL_plain _ _ _ (G4 x)
theorem a5i(m:List Bool)(n:Nat)(x:E4):lowL m n (b92 x)=true:=lowL_plain _ _ _ (W7 x)
theorem a5y(m:List Bool)(n:Nat)(x:B0):lowL m n (c0j x)=true:=lowL_plain _ _ _ (X6 x)
theorem a1l(m:List Bool)(n:Nat)(x:C8):lowL m n (K4 x)=true:=lowL_plain _ _ _ (G3 x)
theorem a5p(m:List Bool)(n:Nat)(x:b5i):lowL m n (b43 x)=true:=lowL_plain _ _ _ (a0b x)
theorem a82(m:List Bool)(n:Nat)(x:c1b):lowL m n (b7w x)=true:=lowL_plain _ _ _ (a45 x)
theorem b6z(m:List Bool)(n:Nat)(l:List Int):lowLL m n (l.map d8z)=true:=lowLL_plain _ _ _ (L6 l)
theorem b3k(m:List Bool)(n:Nat)(l:List Int):lowLL m n (l.map c7y)=true:=lowLL_plain _ _ _ (G7 l)
theorem b4c(m:List Bool)(n:Nat)(l:List Int):lowLL m n (l.map c7o)=true:=lowLL_plain _ _ _ (G9 l)
theorem b36(m:List Bool)(n:Nat)(l:List Int):lowLL m n (l.map a8r)=true:=lowLL_plain _ _ _ (G2 l)
theorem b7g(m:List Bool)(n:Nat)(l:List Int):lowLL m n (l.map b05)=true:=lowLL_plain _ _ _ (J4 l)
theorem b4f(m:List Bool)(n:Nat)(l:List Int):lowLL m n (l.map c7t)=true:=lowLL_plain _ _ _ (G6 l)
theorem b35(m:List Bool)(n:Nat)(l:List Int):lowLL m n (l.map c7d)=true:=lowLL_plain _ _ _ (G5 l)
theorem b2v(m:List Bool)(n:Nat)(l:List Int):lowLL m n (l.map b76)=true:=lowLL_plain _ _ _ (G8 l)
theorem b62(m:List Bool)(n:Nat)(l:List Bool):lowLL m n (l.map c1o)=true:=lowLL_plain _ _ _ (L3 l)
theorem c16(m:List Bool)(n:Nat)(l:List ByteArray):lowLL m n (l.map e5z)=true:=lowLL_plain _ _ _ (S8 l)
theorem c1q(m:List Bool)(n:Nat)(l:List GOp):lowLL m n (l.map Q8)=true:=lowLL_plain _ _ _ (S9 l)
theorem b3w(m:List Bool)(n:Nat)(l:List B7):lowLL m n (l.map D1)=true:=lowLL_plain _ _ _ (H5 l)
theorem b7f(m:List Bool)(n:Nat)(l:List H1):lowLL m n (l.map I3)=true:=lowLL_plain _ _ _ (H2 l)
theorem a80(m:List Bool)(n:Nat)(l:List A0):lowLL m n (l.map C1)=true:=lowLL_plain _ _ _ (E7 l)
theorem b3p(m:List Bool)(n:Nat)(l:List (A0 × A0)):lowLL m n (l.map A9)=true:=lowLL_plain _ _ _ (D7 l)
theorem b3t(m:List Bool)(n:Nat)(l:List (Int × A0)):lowLL m n (l.map B3)=true:=lowLL_plain _ _ _ (E2 l)
theorem b3c(m:List Bool)(n:Nat)(l:List b4h):lowLL m n (l.map a8s)=true:=lowLL_plain _ _ _ (K1 l)
theorem b24(m:List Bool)(n:Nat)(l:List b5u):lowLL m n (l.map a3f)=true:=lowLL_plain _ _ _ (K0 l)
theorem b3y(m:List Bool)(n:Nat)(l:List c0q):lowLL m n (l.map b2u)=true:=lowLL_plain _ _ _ (N1 l)
theorem b25(m:List Bool)(n:Nat)(l:List V6):lowLL m n (l.map S5)=true:=lowLL_plain _ _ _ (P9 l)
theorem b3e(m:List Bool)(n:Nat)(l:List A6):lowLL m n (l.map B6)=true:=lowLL_plain _ _ _ (S6 l)
theorem a3k(m:List Bool)(n:Nat)(l:List b98):lowLL m n (l.map b6g)=true:=lowLL_plain _ _ _ (H0 l)
theorem a5l(m:List Bool)(n:Nat)(l:List A3):lowLL m n (l.map D5)=true:=lowLL_plain _ _ _ (L8 l)
theorem a6h(m:List Bool)(n:Nat)(l:List a04):lowLL m n (l.map a3r)=true:=lowLL_plain _ _ _ (N2 l)
theorem Y3(m:List Bool)(n:Nat)(l:List a9a):lowLL m n (l.map a6q)=true:=lowLL_plain _ _ _ (F4 l)
theorem a58(m:List Bool)(n:Nat)(l:List E4):lowLL m n (l.map b92)=true:=lowLL_plain _ _ _ (S0 l)
theorem a51(m:List Bool)(n:Nat)(l:List B0):lowLL m n (l.map c0j)=true:=lowLL_plain _ _ _ (U8 l)
theorem a1j(m:List Bool)(n:Nat)(l:List C8):lowLL m n (l.map K4)=true:=lowLL_plain _ _ _ (P3 l)
theorem a5t(m:List Bool)(n:Nat)(l:List b5i):lowLL m n (l.map b43)=true:=lowLL_plain _ _ _ (Y4 l)
theorem a8u(m:List Bool)(n:Nat)(l:List c1b):lowLL m n (l.map b7w)=true:=lowLL_plain _ _ _ (a19 l)
theorem b70(m:List Bool)(n:Nat)(l:List Int):lowL m n (cellsOf d8z l)=true:=lowL_plain _ _ _ (C2 _ (L6 l))
theorem b4a(m:List Bool)(n:Nat)(l:List Int):lowL m n (cellsOf c7y l)=true:=lowL_plain _ _ _ (C2 _ (G7 l))
theorem b29(m:List Bool)(n:Nat)(l:List Int):lowL m n (cellsOf c7o l)=true:=lowL_plain _ _ _ (C2 _ (G9 l))
theorem b4g(m:List Bool)(n:Nat)(l:List Int):lowL m n (cellsOf a8r l)=true:=lowL_plain _ _ _ (C2 _ (G2 l))
theorem b7h(m:List Bool)(n:Nat)(l:List Int):lowL m n (cellsOf b05 l)=true:=lowL_plain _ _ _ (C2 _ (J4 l))
theorem b3s(m:List Bool)(n:Nat)(l:List Int):lowL m n (cellsOf c7t l)=true:=lowL_plain _ _ _ (C2 _ (G6 l))
theorem b4d(m:List Bool)(n:Nat)(l:List Int):lowL m n (cellsOf c7d l)=true:=lowL_plain _ _ _ (C2 _ (G5 l))
theorem b2s(m:List Bool)(n:Nat)(l:List Int):lowL m n (cellsOf b76 l)=true:=lowL_plain _ _ _ (C2 _ (G8 l))
theorem b6v(m:List Bool)(n:Nat)(l:List Bool):lowL m n (cellsOf c1o l)=true:=lowL_plain _ _ _ (C2 _ (L3 l))
theorem c1s(m:List Bool)(n:Nat)(l:List ByteArray):lowL m n (cellsOf e5z l)=true:=lowL_plain _ _ _ (C2 _ (S8 l))
theorem c2g(m:List Bool)(n:Nat)(l:List GOp):lowL m n (cellsOf Q8 l)=true:=lowL_plain _ _ _ (C2 _ (S9 l))
theorem b2t(m:List Bool)(n:Nat)(l:List B7):lowL m n (cellsOf D1 l)=true:=lowL_plain _ _ _ (C2 _ (H5 l))
theorem b7i(m:List Bool)(n:Nat)(l:List H1):lowL m n (cellsOf I3 l)=true:=lowL_plain _ _ _ (C2 _ (H2 l))
theorem a84(m:List Bool)(n:Nat)(l:List A0):lowL m n (cellsOf C1 l)=true:=lowL_plain _ _ _ (C2 _ (E7 l))
theorem b4e(m:List Bool)(n:Nat)(l:List (A0 × A0)):lowL m n (cellsOf A9 l)=true:=lowL_plain _ _ _ (C2 _ (D7 l))
theorem b23(m:List Bool)(n:Nat)(l:List (Int × A0)):lowL m n (cellsOf B3 l)=true:=lowL_plain _ _ _ (C2 _ (E2 l))
theorem b3g(m:List Bool)(n:Nat)(l:List b4h):lowL m n (cellsOf a8s l)=true:=lowL_plain _ _ _ (C2 _ (K1 l))
theorem b2y(m:List Bool)(n:Nat)(l:List b5u):lowL m n (cellsOf a3f l)=true:=lowL_plain _ _ _ (C2 _ (K0 l))
theorem b31(m:List Bool)(n:Nat)(l:List c0q):lowL m n (cellsOf b2u l)=true:=lowL_plain _ _ _ (C2 _ (N1 l))
theorem b3h(m:List Bool)(n:Nat)(l:List V6):lowL m n (cellsOf S5 l)=true:=lowL_plain _ _ _ (C2 _ (P9 l))
theorem b3j(m:List Bool)(n:Nat)(l:List A6):lowL m n (cellsOf B6 l)=true:=lowL_plain _ _ _ (C2 _ (S6 l))
theorem a2p(m:List Bool)(n:Nat)(l:List b98):lowL m n (cellsOf b6g l)=true:=lowL_plain _ _ _ (C2 _ (H0 l))
theorem a5r(m:List Bool)(n:Nat)(l:List A3):lowL m n (cellsOf D5 l)=true:=lowL_plain _ _ _ (C2 _ (L8 l))
theorem a5f(m:List Bool)(n:Nat)(l:List a04):lowL m n (cellsOf a3r l)=true:=lowL_plain _ _ _ (C2 _ (N2 l))
theorem Y2(m:List Bool)(n:Nat)(l:List a9a):lowL m n (cellsOf a6q l)=true:=lowL_plain _ _ _ (C2 _ (F4 l))
theorem a5q(m:List Bool)(n:Nat)(l:List E4):lowL m n (cellsOf b92 l)=true:=lowL_plain _ _ _ (C2 _ (S0 l))
theorem a5k(m:List Bool)(n:Nat)(l:List B0):lowL m n (cellsOf c0j l)=true:=lowL_plain _ _ _ (C2 _ (U8 l))
theorem a1k(m:List Bool)(n:Nat)(l:List C8):lowL m n (cellsOf K4 l)=true:=lowL_plain _ _ _ (C2 _ (P3 l))
theorem a5g(m:List Bool)(n:Nat)(l:List b5i):lowL m n (cellsOf b43 l)=true:=lowL_plain _ _ _ (C2 _ (Y4 l))
theorem a85(m:List Bool)(n:Nat)(l:List c1b):lowL m n (cellsOf b7w l)=true:=lowL_plain _ _ _ (C2 _ (a19 l))
inductive c0d where
 |nil
 |a_order_one (x:A0)
 |a_order_list (x:(List A0))
 |a_order_pairs (x:(List (A0 × A0)))
 |a_order_parts (x:c1b)
def d0q:c0d->AV
 |.nil=>.v .nilIface
 |.a_order_one x=>.iface 200 (.agg (A5 x))
 |.a_order_list x=>.iface 201 (.sl (List.map C1 x) .no)
 |.a_order_pairs x=>.iface 203 (.sl (List.map A9 x) .no)
 |.a_order_parts x=>.iface 206 (.agg (b7w x))
theorem c4r(x:c0d):plain (d0q x)=true:=by cases x<;>simp[d0q,plain,plainL,L6,G7,G9,G2,J4,G6,G5,G8,L3,S8,a0s,T0,a1a,J5,S9,F5,H5,P7,H2,A8,E7,N7,D7,O0,E2,P4,K1,Q9,K0,T4,N1,V5,P9,D2,S6,J3,H0,C3,L8,K8,N2,G4,F4,W7,S0,X6,U8,G3,P3,a0b,Y4,a45,a19]
theorem c93(m:List Bool)(n:Nat)(x:c0d):low m n (d0q x)=true:=by
 have h:=lowL_plain m n [d0q x] (by simp[plainL,c4r]);simpa[lowL]using h
theorem g8a{P:Program}{f:Nat}{R:Rm}{s:Mc}(m:Nat){y:c0d}{A:A0->Prop}{B:Prop}(hw:(∀z,y=.a_order_one z->A z)/\((∀z,y≠.a_order_one z)->B))(h1:∀z,A z->Ok P f R (put (run m s) (.tuple [.agg (A5 z),.v (.bool true)])))(h2:B->Ok P f R (put (run m s) (.tuple [oZ (op (run m s)),.v (.bool false)])))(hc:okS (run m s)=true:=by kernel_rfl)(ho:op (run m s)=.assertT 200 true (oZ (op (run m s))) (oX (op (run m s))):=by kernel_rfl)(hx:xv (run m s)=some (d0q y):=by kernel_rfl):Ok P f R s:=by
 cases y with
 |a_order_one z=>exact ev0 m (fun h K hk=>by rw[ho];simp only[aop];change wv (xv _) _;simp only[hx,wv,d0q,a0j];exact hk) (h1 z (hw.1 z rfl)) hc
 |_=>exact ev0 m (fun h K hk=>by rw[ho];simp only[aop];change wv (xv _) _;simp only[hx,wv,d0q,a0j];first|exact⟨trivial,hk⟩|exact⟨rfl,hk⟩) (h2 (hw.2 fun z hz=>by cases hz)) hc
theorem g7m{P:Program}{f:Nat}{R:Rm}{s:Mc}(m:Nat){y:c0d}{A:(List A0)->Prop}{B:Prop}(hw:(∀z,y=.a_order_list z->A z)/\((∀z,y≠.a_order_list z)->B))(h1:∀z,A z->Ok P f R (put (run m s) (.tuple [.sl (List.map C1 z) .no,.v (.bool true)])))(h2:B->Ok P f R (put (run m s) (.tuple [oZ (op (run m s)),.v (.bool false)])))(hc:okS (run m s)=true:=by kernel_rfl)(ho:op (run m s)=.assertT 201 true (oZ (op (run m s))) (oX (op (run m s))):=by kernel_rfl)(hx:xv (run m s)=some (d0q y):=by kernel_rfl):Ok P f R s:=by
 cases y with
 |a_order_list z=>exact ev0 m (fun h K hk=>by rw[ho];simp only[aop];change wv (xv _) _;simp only[hx,wv,d0q,a0j];exact hk) (h1 z (hw.1 z rfl)) hc
 |_=>exact ev0 m (fun h K hk=>by rw[ho];simp only[aop];change wv (xv _) _;simp only[hx,wv,d0q,a0j];first|exact⟨trivial,hk⟩|exact⟨rfl,hk⟩) (h2 (hw.2 fun z hz=>by cases hz)) hc
theorem g18{P:Program}{f:Nat}{R:Rm}{s:Mc}(m:Nat){y:c0d}{W:(List A0)->Prop}(hw:∃z,y=c0d.a_order_list z/\W z)(hk:∀z,W z->Ok P f R (put (run m s) (.sl (List.map C1 z) .no)))(hc:okS (run m s)=true:=by kernel_rfl)(ho:op (run m s)=.assertT 201 false (oZ (op (run m s))) (oX (op (run m s))):=by kernel_rfl)(hx:xv (run m s)=some (d0q y):=by kernel_rfl):Ok P f R s:=by
 obtain⟨z,rfl,hw⟩:=hw;exact ev0 m (fun h K hk=>by rw[ho];simp only[aop];change wv (xv _) _;simp only[hx,wv,d0q,a0j];exact hk) (hk z hw) hc
theorem g65{P:Program}{f:Nat}{R:Rm}{s:Mc}(m:Nat){y:c0d}{A:(List (A0 × A0))->Prop}{B:Prop}(hw:(∀z,y=.a_order_pairs z->A z)/\((∀z,y≠.a_order_pairs z)->B))(h1:∀z,A z->Ok P f R (put (run m s) (.tuple [.sl (List.map A9 z) .no,.v (.bool true)])))(h2:B->Ok P f R (put (run m s) (.tuple [oZ (op (run m s)),.v (.bool false)])))(hc:okS (run m s)=true:=by kernel_rfl)(ho:op (run m s)=.assertT 203 true (oZ (op (run m s))) (oX (op (run m s))):=by kernel_rfl)(hx:xv (run m s)=some (d0q y):=by kernel_rfl):Ok P f R s:=by
 cases y with
 |a_order_pairs z=>exact ev0 m (fun h K hk=>by rw[ho];simp only[aop];change wv (xv _) _;simp only[hx,wv,d0q,a0j];exact hk) (h1 z (hw.1 z rfl)) hc
 |_=>exact ev0 m (fun h K hk=>by rw[ho];simp only[aop];change wv (xv _) _;simp only[hx,wv,d0q,a0j];first|exact⟨trivial,hk⟩|exact⟨rfl,hk⟩) (h2 (hw.2 fun z hz=>by cases hz)) hc
theorem g15{P:Program}{f:Nat}{R:Rm}{s:Mc}(m:Nat){y:c0d}{W:(List (A0 × A0))->Prop}(hw:∃z,y=c0d.a_order_pairs z/\W z)(hk:∀z,W z->Ok P f R (put (run m s) (.sl (List.map A9 z) .no)))(hc:okS (run m s)=true:=by kernel_rfl)(ho:op (run m s)=.assertT 203 false (oZ (op (run m s))) (oX (op (run m s))):=by kernel_rfl)(hx:xv (run m s)=some (d0q y):=by kernel_rfl):Ok P f R s:=by
 obtain⟨z,rfl,hw⟩:=hw;exact ev0 m (fun h K hk=>by rw[ho];simp only[aop];change wv (xv _) _;simp only[hx,wv,d0q,a0j];exact hk) (hk z hw) hc
theorem g62{P:Program}{f:Nat}{R:Rm}{s:Mc}(m:Nat){y:c0d}{A:c1b->Prop}{B:Prop}(hw:(∀z,y=.a_order_parts z->A z)/\((∀z,y≠.a_order_parts z)->B))(h1:∀z,A z->Ok P f R (put (run m s) (.tuple [.agg (b7w z),.v (.bool true)])))(h2:B->Ok P f R (put (run m s) (.tuple [oZ (op (run m s)),.v (.bool false)])))(hc:okS (run m s)=true:=by kernel_rfl)(ho:op (run m s)=.assertT 206 true (oZ (op (run m s))) (oX (op (run m s))):=by kernel_rfl)(hx:xv (run m s)=some (d0q y):=by kernel_rfl):Ok P f R s:=by
 cases y with
 |a_order_parts z=>exact ev0 m (fun h K hk=>by rw[ho];simp only[aop];change wv (xv _) _;simp only[hx,wv,d0q,a0j];exact hk) (h1 z (hw.1 z rfl)) hc
 |_=>exact ev0 m (fun h K hk=>by rw[ho];simp only[aop];change wv (xv _) _;simp only[hx,wv,d0q,a0j];first|exact⟨trivial,hk⟩|exact⟨rfl,hk⟩) (h2 (hw.2 fun z hz=>by cases hz)) hc
theorem f9n{P:Program}{f:Nat}{R:Rm}{s:Mc}(m:Nat){y:c0d}{W:c1b->Prop}(hw:∃z,y=c0d.a_order_parts z/\W z)(hk:∀z,W z->Ok P f R (put (run m s) (.agg (b7w z))))(hc:okS (run m s)=true:=by kernel_rfl)(ho:op (run m s)=.assertT 206 false (oZ (op (run m s))) (oX (op (run m s))):=by kernel_rfl)(hx:xv (run m s)=some (d0q y):=by kernel_rfl):Ok P f R s:=by
 obtain⟨z,rfl,hw⟩:=hw;exact ev0 m (fun h K hk=>by rw[ho];simp only[aop];change wv (xv _) _;simp only[hx,wv,d0q,a0j];exact hk) (hk z hw) hc
def N8(x:E4):List AV:=[.sl (List.map D1 x.p.Progs) .no,.sl (List.map S5 x.p.Enums) .no,.sl (List.map b05 x.out) (.own 0)]
def a3v(x:E4):List (Nat × Nat):=[(x.out.length,1)]
theorem a3q(x:E4):(N8 x).all ok1=true:=by simp[N8,ok1,plain,L6,G7,G9,G2,J4,G6,G5,G8,L3,S8,a0s,T0,a1a,J5,S9,F5,H5,P7,H2,A8,E7,N7,D7,O0,E2,P4,K1,Q9,K0,T4,N1,V5,P9,D2,S6,J3,H0,C3,L8,K8,N2,G4,F4,W7,S0,X6,U8,G3,P3,a0b,Y4,a45,a19,c4r]
theorem c1h(x:E4):lowL [true] 1 (N8 x)=true:=by first|rfl|(simp only[N8,low,lowL,b70,b4a,b29,b4g,b7h,b3s,b4d,b2s,b6v,c1s,c2g,b2t,b7i,a84,b4e,b23,b3g,b2y,b31,b3h,b3j,a2p,a5r,a5f,Y2,a5q,a5k,a1k,a5g,a85,c1y,b6w,b6z,b3k,b4c,b36,b7g,b4f,b35,b2v,b62,c16,c1q,b3w,b7f,a80,b3p,b3t,b3c,b24,b3y,b25,b3e,a3k,a5l,a6h,Y3,a58,a51,a1j,a5t,a8u,c15,b2p,b74,a83,b3i,b2w,b3q,b22,b27,b28,b2x,a3j,a5m,a5o,X9,a5i,a5y,a1l,a5p,a82,c93];rfl)
def C9(x:B0):List AV:=[.sl (List.map D1 x.p.Progs) .no,.sl (List.map S5 x.p.Enums) .no,.v (.string x.c.Data),.v (.int .i64 x.c.At),.v (.int .i64 x.c.End),.v (.int .i64 x.c.Depth),.v (.int .i64 x.c.Nodes),.v (.int .i64 x.c.Text)]
def J8(x:B0):List (Nat × Nat):=[]
theorem J2(x:B0):(C9 x).all ok1=true:=by simp[C9,ok1,plain,L6,G7,G9,G2,J4,G6,G5,G8,L3,S8,a0s,T0,a1a,J5,S9,F5,H5,P7,H2,A8,E7,N7,D7,O0,E2,P4,K1,Q9,K0,T4,N1,V5,P9,D2,S6,J3,H0,C3,L8,K8,N2,G4,F4,W7,S0,X6,U8,G3,P3,a0b,Y4,a45,a19,c4r]
theorem a6f(x:B0):lowL [true] 0 (C9 x)=true:=by first|rfl|(simp only[C9,low,lowL,b70,b4a,b29,b4g,b7h,b3s,b4d,b2s,b6v,c1s,c2g,b2t,b7i,a84,b4e,b23,b3g,b2y,b31,b3h,b3j,a2p,a5r,a5f,Y2,a5q,a5k,a1k,a5g,a85,c1y,b6w,b6z,b3k,b4c,b36,b7g,b4f,b35,b2v,b62,c16,c1q,b3w,b7f,a80,b3p,b3t,b3c,b24,b3y,b25,b3e,a3k,a5l,a6h,Y3,a58,a51,a1j,a5t,a8u,c15,b2p,b74,a83,b3i,b2w,b3q,b22,b27,b28,b2x,a3j,a5m,a5o,X9,a5i,a5y,a1l,a5p,a82,c93];rfl)
theorem e54:c47 c1o 1:=⟨fun y=>rfl,fun y=>rfl,fun y=>rfl,fun y=>rfl⟩
def g1w:En Bool:=⟨c1o,c1o,1,fun _=>rfl,fun _=>rfl,e54⟩
theorem e5v:c47 S5 5:=⟨fun y=>rfl,fun y=>rfl,fun y=>V5 y,fun y=>rfl⟩
def X0:En V6:=⟨S5,S5,5,fun _=>rfl,fun _=>rfl,e5v⟩
theorem e4z:c47 a3f 3:=⟨fun y=>rfl,fun y=>rfl,fun y=>Q9 y,fun y=>rfl⟩
def b0j:En b5u:=⟨a3f,a3f,3,fun _=>rfl,fun _=>rfl,e4z⟩
theorem e4m:c47 a8s 8:=⟨fun y=>rfl,fun y=>rfl,fun y=>P4 y,fun y=>rfl⟩
def b6k:En b4h:=⟨a8s,a8s,8,fun _=>rfl,fun _=>rfl,e4m⟩
theorem f5q:c47 Q8 8:=⟨fun y=>rfl,fun y=>rfl,fun y=>J5 y,fun y=>rfl⟩
def b7p:En GOp:=⟨Q8,Q8,8,fun _=>rfl,fun _=>rfl,f5q⟩
theorem e4t:c47 A9 14:=⟨fun y=>by rw[b2n];rfl,fun y=>by rw[b2n];rfl,fun y=>by rw[b2n];exact N7 y,fun y=>by rw[b2n];rfl⟩
def B9:En (A0 × A0):=⟨V3,A9,14,fun y=>b2n y,fun _=>rfl,e4t⟩
theorem e5u:c47 D1 3:=⟨fun y=>rfl,fun y=>rfl,fun y=>F5 y,fun y=>rfl⟩
def K7:En B7:=⟨D1,D1,3,fun _=>rfl,fun _=>rfl,e5u⟩
theorem f2s:c47 I3 4:=⟨fun y=>rfl,fun y=>rfl,fun y=>P7 y,fun y=>rfl⟩
def a6w:En H1:=⟨I3,I3,4,fun _=>rfl,fun _=>rfl,f2s⟩
theorem e38:c47 B3 8:=⟨fun y=>by rw[b2i];rfl,fun y=>by rw[b2i];rfl,fun y=>by rw[b2i];exact O0 y,fun y=>by rw[b2i];rfl⟩
def C0:En (Int × A0):=⟨W9,B3,8,fun y=>b2i y,fun _=>rfl,e38⟩
theorem e4d:c47 b2u 2:=⟨fun y=>rfl,fun y=>rfl,fun y=>T4 y,fun y=>rfl⟩
def d06:En c0q:=⟨b2u,b2u,2,fun _=>rfl,fun _=>rfl,e4d⟩
theorem e0o:c47 C1 7:=⟨fun y=>by rw[Y7];rfl,fun y=>by rw[Y7];rfl,fun y=>by rw[Y7];exact A8 y,fun y=>by rw[Y7];rfl⟩
def F7:En A0:=⟨A5,C1,7,fun y=>Y7 y,fun _=>rfl,e0o⟩
theorem e39:c47 a8r 1:=⟨fun y=>rfl,fun y=>rfl,fun y=>rfl,fun y=>rfl⟩
def f72:En Int:=⟨a8r,a8r,1,fun _=>rfl,fun _=>rfl,e39⟩
theorem e6x:c47 b05 1:=⟨fun y=>rfl,fun y=>rfl,fun y=>rfl,fun y=>rfl⟩
def d2y:En Int:=⟨b05,b05,1,fun _=>rfl,fun _=>rfl,e6x⟩
def e3(r:Bool):AV:=.v (.bool r)
def e4(r:Bool):AV:=.v (.bool r)
def e5(r:Bool):AV:=.v (.bool r)
def b4x(p:A6)(name:ByteArray)(data:ByteArray)(r:Bool):Prop:=B8 Tryz.prog [] 5 [.agg (B6 p),.v (.string name),.v (.string data)] (e5 r)
def e6(r:Bool):AV:=.v (.bool r)
def e7(r:Bool):AV:=.v (.bool r)
def e8(r:Bool):AV:=.v (.bool r)
def e9(r:Bool):AV:=.v (.bool r)
def b8m(p:A6)(r:Bool):Prop:=B8 Tryz.prog [] 9 [.agg (B6 p)] (e9 r)
def e10(r:(A0 × A3 × Int)):AV:=.tuple [.agg (A5 r.1),.agg (D5 r.2.1),.v (.int .i64 r.2.2)]
def c5x(p:A6)(o_:GOp)(c:A3)(r:(A0 × A3 × Int)):Prop:=B8 Tryz.prog [] 10 [.agg (B6 p),.agg (Q8 o_),.agg (D5 c)] (e10 r)
def e11(r:(A0 × A3 × Int)):AV:=.tuple [.agg (A5 r.1),.agg (D5 r.2.1),.v (.int .i64 r.2.2)]
def e12(r:ByteArray):AV:=.v (.string r)
def d4p(v:A0)(r:ByteArray):Prop:=B8 Tryz.prog [] 12 [.agg (A5 v)] (e12 r)
def e13(r:Bool):AV:=.v (.bool r)
def b5y(a:A0)(b:A0)(r:Bool):Prop:=B8 Tryz.prog [] 13 [.agg (A5 a),.agg (A5 b)] (e13 r)
def e14(r:ByteArray):AV:=.v (.string r)
def e15(r:Bool):AV:=.v (.bool r)
def b2r(r:Bool):Prop:=B8 Tryz.prog [] 15 [] (e15 r)
def e18(r:(ByteArray × Int)):AV:=.tuple [.v (.string r.1),.v (.int .i64 r.2)]
def c62(p:A6)(name:ByteArray)(v:A0)(r:(ByteArray × Int)):Prop:=B8 Tryz.prog [] 18 [.agg (B6 p),.v (.string name),.agg (A5 v)] (e18 r)
def e19(r:(Int × Bool)):AV:=.tuple [.v (.int .i64 r.1),.v (.bool r.2)]
def c5v(p:A6)(name:ByteArray)(r:(Int × Bool)):Prop:=B8 Tryz.prog [] 19 [.agg (B6 p),.v (.string name)] (e19 r)
def e20(r:(A0 × Int)):AV:=.tuple [.agg (A5 r.1),.v (.int .i64 r.2)]
def c6r(p:A6)(name:ByteArray)(data:ByteArray)(l:a04)(r:(A0 × Int)):Prop:=B8 Tryz.prog [] 20 [.agg (B6 p),.v (.string name),.v (.string data),.agg (a3r l)] (e20 r)
def e21(r:a04):AV:=.agg (a3r r)
def b7c(r:a04):Prop:=B8 Tryz.prog [] 21 [] (e21 r)
def e22(r:A0):AV:=.agg (A5 r)
def b2c(p:A6)(prog:Int)(v:A0)(r:A0):Prop:=B8 Tryz.prog [] 22 [.agg (B6 p),.v (.int .i64 prog),.agg (A5 v)] (e22 r)
def e23(r:Int):AV:=.v (.int .i64 r)
def c54(p:A6)(prog:Int)(v:A0)(r:Int):Prop:=B8 Tryz.prog [] 23 [.agg (B6 p),.v (.int .i64 prog),.agg (A5 v)] (e23 r)
def e25(r:Int):AV:=.v (.int .i64 r)
def Y1(v:A0)(r:Int):Prop:=B8 Tryz.prog [] 25 [.agg (A5 v)] (e25 r)
def e30(r:Int):AV:=.v (.int .i64 r)
def c2s(p:A6)(r:Int):Prop:=B8 Tryz.prog [] 30 [.agg (B6 p)] (e30 r)
def e31(r:(Int × A3 × Int)):AV:=.tuple [.v (.int .u8 r.1),.agg (D5 r.2.1),.v (.int .i64 r.2.2)]
def b7s(c:A3)(r:(Int × A3 × Int)):Prop:=B8 Tryz.prog [] 31 [.agg (D5 c)] (e31 r)
def e32(r:(A0 × A3 × Int)):AV:=.tuple [.agg (A5 r.1),.agg (D5 r.2.1),.v (.int .i64 r.2.2)]
def c5z(c:A3)(r:(A0 × A3 × Int)):Prop:=B8 Tryz.prog [] 32 [.agg (D5 c)] (e32 r)
def e33(r:(A0 × A3 × Int)):AV:=.tuple [.agg (A5 r.1),.agg (D5 r.2.1),.v (.int .i64 r.2.2)]
def d4l(kind:Int)(c:A3)(r:(A0 × A3 × Int)):Prop:=B8 Tryz.prog [] 33 [.v (.int .i64 kind),.agg (D5 c)] (e33 r)
def e34(r:(Int × A3 × Int)):AV:=.tuple [.v (.int .u64 r.1),.agg (D5 r.2.1),.v (.int .i64 r.2.2)]
def b6j(c:A3)(r:(Int × A3 × Int)):Prop:=B8 Tryz.prog [] 34 [.agg (D5 c)] (e34 r)
def e35(r:Int):AV:=.v (.int .i64 r)
def c0i(u:Int)(r:Int):Prop:=B8 Tryz.prog [] 35 [.v (.int .u64 u)] (e35 r)
def e36(r:Bool):AV:=.v (.bool r)
def b34(kind:Int)(v:A0)(r:Bool):Prop:=B8 Tryz.prog [] 36 [.v (.int .i64 kind),.agg (A5 v)] (e36 r)
def e37(r:Bool):AV:=.v (.bool r)
def b0i(p:A6)(enum:Int)(num:Int)(r:Bool):Prop:=B8 Tryz.prog [] 37 [.agg (B6 p),.v (.int .i64 enum),.v (.int .u64 num)] (e37 r)
def e41(r:A0):AV:=.agg (A5 r)
def c0l(v:A0)(r:A0):Prop:=B8 Tryz.prog [] 41 [.agg (A5 v)] (e41 r)
def e42(r:Bool):AV:=.v (.bool r)
def c9o(kind:Int)(r:Bool):Prop:=B8 Tryz.prog [] 42 [.v (.int .i64 kind)] (e42 r)
def e44(r:Int):AV:=.v (.int .i64 r)
def c9v(u:Int)(r:Int):Prop:=B8 Tryz.prog [] 44 [.v (.int .u64 u)] (e44 r)
def e45(r:Bool):AV:=.v (.bool r)
def c0g(kind:Int)(v:A0)(r:Bool):Prop:=B8 Tryz.prog [] 45 [.v (.int .i64 kind),.agg (A5 v)] (e45 r)
def e46(r:Bool):AV:=.v (.bool r)
def b1s(p:A6)(enum:Int)(num:Int)(r:Bool):Prop:=B8 Tryz.prog [] 46 [.agg (B6 p),.v (.int .i64 enum),.v (.int .u64 num)] (e46 r)
def e47(r:ByteArray):AV:=.v (.string r)
def a3x(u:Int)(r:ByteArray):Prop:=B8 Tryz.prog [] 47 [.v (.int .u64 u)] (e47 r)
def e48(r:Int):AV:=.v (.int .u64 r)
def c6e(n:Int)(r:Int):Prop:=B8 Tryz.prog [] 48 [.v (.int .i64 n)] (e48 r)
def e49(r:ByteArray):AV:=.v (.string r)
def b9o(u:Int)(r:ByteArray):Prop:=B8 Tryz.prog [] 49 [.v (.int .u64 u)] (e49 r)
def e50(r:A0):AV:=.agg (A5 r)
def a89(v:A0)(r:A0):Prop:=B8 Tryz.prog [] 50 [.agg (A5 v)] (e50 r)
def e51(r:Bool):AV:=.v (.bool r)
def b7r(a:A0)(b:A0)(r:Bool):Prop:=B8 Tryz.prog [] 51 [.agg (A5 a),.agg (A5 b)] (e51 r)
def e52(r:ByteArray):AV:=.v (.string r)
def c36(u:Int)(r:ByteArray):Prop:=B8 Tryz.prog [] 52 [.v (.int .u64 u)] (e52 r)
def e55(r:(Int × Bool)):AV:=.tuple [.v (.int .i64 r.1),.v (.bool r.2)]
def c3g(p:A6)(name:ByteArray)(r:(Int × Bool)):Prop:=B8 Tryz.prog [] 55 [.agg (B6 p),.v (.string name)] (e55 r)
def e56(r:Int):AV:=.v (.int .i64 r)
def d2a(p:A6)(prog:Int)(v:A0)(r:Int):Prop:=B8 Tryz.prog [] 56 [.agg (B6 p),.v (.int .i64 prog),.agg (A5 v)] (e56 r)
def e57(r:Bool):AV:=.v (.bool r)
def a7j(v:A0)(r:Bool):Prop:=B8 Tryz.prog [] 57 [.agg (A5 v)] (e57 r)
def e58(r:E4):AV:=.tuple []
theorem g7q(r:E4):plain (e58 r)=true:=rfl
def a0k(w:E4)(prog:Int)(v:A0)(r:E4):Prop:=b6h Tryz.prog [] 58 [.ptr 0 0,.v (.int .i64 prog),.agg (A5 v)] (N8 w) (a3v w) (e58 r) (N8 r) (a3v r)
def e59(r:A0):AV:=.agg (A5 r)
def b3a(p:A6)(prog:Int)(v:A0)(r:A0):Prop:=B8 Tryz.prog [] 59 [.agg (B6 p),.v (.int .i64 prog),.agg (A5 v)] (e59 r)
def e60(r:(A3 × Int)):AV:=.tuple [.agg (D5 r.1),.v (.int .i64 r.2)]
def d0h(data:ByteArray)(l:a04)(r:(A3 × Int)):Prop:=B8 Tryz.prog [] 60 [.v (.string data),.agg (a3r l)] (e60 r)
def e61(r:(B0 × (A0 × Int))):AV:=.tuple [.agg (A5 r.2.1),.v (.int .i64 r.2.2)]
theorem g34(r:(B0 × (A0 × Int))):plain (e61 r)=true:=(c7q (A4 (A8 r.2.1) (A4 rfl rfl)))
def W3(r_:B0)(prog:Int)(r:(B0 × (A0 × Int))):Prop:=b6h Tryz.prog [] 61 [.ptr 0 0,.v (.int .i64 prog)] (C9 r_) (J8 r_) (e61 r) (C9 r.1) (J8 r.1)
def e62(r:Int):AV:=.v (.int .i64 r)
def a81(c:A3)(r:Int):Prop:=B8 Tryz.prog [] 62 [.agg (D5 c)] (e62 r)
def e63(r:(List H1)):AV:=.sl (List.map I3 r) .no
def c64(l:(List H1))(r:(List H1)):Prop:=B8 Tryz.prog [] 63 [.sl (List.map I3 l) .no] (e63 r)
def e64(r:A0):AV:=.agg (A5 r)
def b8t(p:A6)(o_:GOp)(v:A0)(r:A0):Prop:=B8 Tryz.prog [] 64 [.agg (B6 p),.agg (Q8 o_),.agg (A5 v)] (e64 r)
def e65(r:Bool):AV:=.v (.bool r)
def c2u(v:A0)(r:Bool):Prop:=B8 Tryz.prog [] 65 [.agg (A5 v)] (e65 r)
def e66(r:Int):AV:=.v (.int .i64 r)
def a3n(p:A6)(prog:Int)(v:A0)(level:Int)(r:Int):Prop:=B8 Tryz.prog [] 66 [.agg (B6 p),.v (.int .i64 prog),.agg (A5 v),.v (.int .i64 level)] (e66 r)
def e68(r:ByteArray):AV:=.v (.string r)
def e4p(p:A6)(prog:Int)(v:A0)(r:ByteArray):Prop:=B8 Tryz.prog [] 68 [.agg (B6 p),.v (.int .i64 prog),.agg (A5 v)] (e68 r)
def e69(r:Bool):AV:=.v (.bool r)
def b9q(p:A6)(r:Bool):Prop:=B8 Tryz.prog [] 69 [.agg (B6 p)] (e69 r)
def e70(r:Bool):AV:=.v (.bool r)
def c1j(p:A6)(r:Bool):Prop:=B8 Tryz.prog [] 70 [.agg (B6 p)] (e70 r)
def e71(r:Bool):AV:=.v (.bool r)
def b7k(p:A6)(r:Bool):Prop:=B8 Tryz.prog [] 71 [.agg (B6 p)] (e71 r)
def e72(r:Bool):AV:=.v (.bool r)
def b9v(p:A6)(r:Bool):Prop:=B8 Tryz.prog [] 72 [.agg (B6 p)] (e72 r)
def e73(r:Bool):AV:=.v (.bool r)
def b9j(p:A6)(r:Bool):Prop:=B8 Tryz.prog [] 73 [.agg (B6 p)] (e73 r)
def e74(r:Bool):AV:=.v (.bool r)
def b3v(p:A6)(r:Bool):Prop:=B8 Tryz.prog [] 74 [.agg (B6 p)] (e74 r)
def e75(r:Bool):AV:=.v (.bool r)
def b9l(p:A6)(r:Bool):Prop:=B8 Tryz.prog [] 75 [.agg (B6 p)] (e75 r)
def e76(r:A3):AV:=.agg (D5 r)
def a6u(c:A3)(n:Int)(r:A3):Prop:=B8 Tryz.prog [] 76 [.agg (D5 c),.v (.int .i64 n)] (e76 r)
def e77(r:(Int × A3 × Int)):AV:=.tuple [.v (.int .u64 r.1),.agg (D5 r.2.1),.v (.int .i64 r.2.2)]
def b82(c:A3)(r:(Int × A3 × Int)):Prop:=B8 Tryz.prog [] 77 [.agg (D5 c)] (e77 r)
def e78(r:(ByteArray × A3 × Int)):AV:=.tuple [.v (.string r.1),.agg (D5 r.2.1),.v (.int .i64 r.2.2)]
def c2y(c:A3)(n:Int)(r:(ByteArray × A3 × Int)):Prop:=B8 Tryz.prog [] 78 [.agg (D5 c),.v (.int .i64 n)] (e78 r)
def e79(r:Bool):AV:=.v (.bool r)
def b8x(s:ByteArray)(r:Bool):Prop:=B8 Tryz.prog [] 79 [.v (.string s)] (e79 r)
def e80(r:(Int × A3 × Int)):AV:=.tuple [.v (.int .u64 r.1),.agg (D5 r.2.1),.v (.int .i64 r.2.2)]
def b68(c:A3)(r:(Int × A3 × Int)):Prop:=B8 Tryz.prog [] 80 [.agg (D5 c)] (e80 r)
def e81(r:Int):AV:=.v (.int .i64 r)
def c6s(u:Int)(r:Int):Prop:=B8 Tryz.prog [] 81 [.v (.int .u64 u)] (e81 r)
def e82(r:Bool):AV:=.v (.bool r)
def b89(kind:Int)(r:Bool):Prop:=B8 Tryz.prog [] 82 [.v (.int .i64 kind)] (e82 r)
def e83(r:Bool):AV:=.v (.bool r)
def b65(v:A0)(r:Bool):Prop:=B8 Tryz.prog [] 83 [.agg (A5 v)] (e83 r)
def e84(r:Bool):AV:=.v (.bool r)
def b6r(kind:Int)(bits:Int)(r:Bool):Prop:=B8 Tryz.prog [] 84 [.v (.int .i64 kind),.v (.int .u64 bits)] (e84 r)
def e85(r:Bool):AV:=.v (.bool r)
def a1d(s:(List b5u))(f:GFn)(r:Bool):Prop:=B8 Tryz.prog [] 85 [.sl (List.map a3f s) .no,.clo (.func f.fn) f.fi f.cap] (e85 r)
def e86(r:Bool):AV:=.v (.bool r)
def c06(it:b5u)(c1_:Int)(r:Bool):Prop:=B8 Tryz.prog [] 86 [.agg (a3f it),.elt (b76 c1_) 0] (e86 r)
def e89(r:Bool):AV:=.v (.bool r)
def b2o(s:ByteArray)(r:Bool):Prop:=B8 Tryz.prog [] 89 [.v (.string s)] (e89 r)
def e92(r:Int):AV:=.v (.int .i64 r)
def b71(bits:Int)(r:Int):Prop:=B8 Tryz.prog [] 92 [.v (.int .u64 bits)] (e92 r)
def e95(r:Bool):AV:=.v (.bool r)
def b97(v:A0)(r:Bool):Prop:=B8 Tryz.prog [] 95 [.agg (A5 v)] (e95 r)
def e96(r:Bool):AV:=.v (.bool r)
def a9b(kind:Int)(r:Bool):Prop:=B8 Tryz.prog [] 96 [.v (.int .i64 kind)] (e96 r)
def e97(r:Int):AV:=.v (.int .i64 r)
def b5b(bits:Int)(r:Int):Prop:=B8 Tryz.prog [] 97 [.v (.int .u64 bits)] (e97 r)
def e98(r:Int):AV:=.v (.int .i64 r)
def a15(a:A0)(b:A0)(r:Int):Prop:=B8 Tryz.prog [] 98 [.agg (A5 a),.agg (A5 b)] (e98 r)
def e99(r:Int):AV:=.v (.int .i64 r)
def a2v(s:(List B7))(f:GFn)(r:Int):Prop:=B8 Tryz.prog [] 99 [.sl (List.map D1 s) .no,.clo (.func f.fn) f.fi f.cap] (e99 r)
def h63(r:Bool):AV:=.v (.bool r)
def d2d(g:B7)(c1_:ByteArray)(r:Bool):Prop:=B8 Tryz.prog [] 100 [.agg (D1 g),.elt (e5z c1_) 0] (h63 r)
def g5d(r:Int):AV:=.v (.int .i64 r)
def Q4(x:C8)(g:B7)(v:A0)(level:Int)(r:Int):Prop:=B8 Tryz.prog [] 101 [.agg (K4 x),.agg (D1 g),.agg (A5 v),.v (.int .i64 level)] (g5d r)
def h3i(r:Int):AV:=.v (.int .i64 r)
def b38(v:A0)(r:Int):Prop:=B8 Tryz.prog [] 102 [.agg (A5 v)] (h3i r)
def g8z(r:E4):AV:=.tuple []
theorem f80(r:E4):plain (g8z r)=true:=rfl
def Z6(w:E4)(o_:GOp)(v:A0)(r:E4):Prop:=b6h Tryz.prog [] 103 [.ptr 0 0,.agg (Q8 o_),.agg (A5 v)] (N8 w) (a3v w) (g8z r) (N8 r) (a3v r)
def g87(r:E4):AV:=.tuple []
theorem f7d(r:E4):plain (g87 r)=true:=rfl
def X4(w:E4)(s:ByteArray)(r:E4):Prop:=b6h Tryz.prog [] 104 [.ptr 0 0,.v (.string s)] (N8 w) (a3v w) (g87 r) (N8 r) (a3v r)
def h44(r:(List H1)):AV:=.sl (List.map I3 r) .no
def a9u(s:(List H1))(r:(List H1)):Prop:=B8 Tryz.prog [] 105 [.sl (List.map I3 s) .no] (h44 r)
def b5s(s:(List H1)):Prop:=f84 Tryz.prog I3 4 105 s
def g88(r:(List (Int × A0))):AV:=.sl (List.map B3 r) .no
def b33(l:(List (Int × A0)))(r:(List (Int × A0))):Prop:=B8 Tryz.prog [] 106 [.sl (List.map B3 l) .no] (g88 r)
def h5s(r:(GOp × Bool)):AV:=.tuple [.agg (Q8 r.1),.v (.bool r.2)]
def c11(g:B7)(num:Int)(r:(GOp × Bool)):Prop:=B8 Tryz.prog [] 107 [.agg (D1 g),.v (.int .i64 num)] (h5s r)
def g9d(r:A0):AV:=.agg (A5 r)
def b5v(p:A6)(o_:GOp)(v:A0)(r:A0):Prop:=B8 Tryz.prog [] 108 [.agg (B6 p),.agg (Q8 o_),.agg (A5 v)] (g9d r)
def h5h(r:Bool):AV:=.v (.bool r)
def c59(v:A0)(r:Bool):Prop:=B8 Tryz.prog [] 109 [.agg (A5 v)] (h5h r)
def Z2(x1:GFn):Prop:=B8 Tryz.prog [] 110 [.sl [] .no,.clo (.func x1.fn) x1.fi x1.cap] (.tuple [])
def h56(r:Int):AV:=.v (.int .i64 r)
def S4(x:Int)(y:Int)(r:Int):Prop:=B8 Tryz.prog [] 112 [.v (.int .i64 x),.v (.int .i64 y)] (h56 r)
def g80(r:(B0 × Int)):AV:=.v (.int .i64 r.2)
theorem f7v(r:(B0 × Int)):plain (g80 r)=true:=rfl
def a1w(r_:B0)(n:Int)(r:(B0 × Int)):Prop:=b6h Tryz.prog [] 113 [.ptr 0 0,.v (.int .i64 n)] (C9 r_) (J8 r_) (g80 r) (C9 r.1) (J8 r.1)
def g9k(r:(B0 × (A0 × Int))):AV:=.tuple [.agg (A5 r.2.1),.v (.int .i64 r.2.2)]
theorem f7u(r:(B0 × (A0 × Int))):plain (g9k r)=true:=(c7q (A4 (A8 r.2.1) (A4 rfl rfl)))
def H3(r_:B0)(o_:GOp)(r:(B0 × (A0 × Int))):Prop:=b6h Tryz.prog [] 114 [.ptr 0 0,.agg (Q8 o_)] (C9 r_) (J8 r_) (g9k r) (C9 r.1) (J8 r.1)
def g6u(r:(B0 × (A0 × Int))):AV:=.tuple [.agg (A5 r.2.1),.v (.int .i64 r.2.2)]
theorem f8c(r:(B0 × (A0 × Int))):plain (g6u r)=true:=(c7q (A4 (A8 r.2.1) (A4 rfl rfl)))
def a0w(r_:B0)(o_:GOp)(r:(B0 × (A0 × Int))):Prop:=b6h Tryz.prog [] 115 [.ptr 0 0,.agg (Q8 o_)] (C9 r_) (J8 r_) (g6u r) (C9 r.1) (J8 r.1)
def g47(r:(B0 × (A0 × Int))):AV:=.tuple [.agg (A5 r.2.1),.v (.int .i64 r.2.2)]
theorem f79(r:(B0 × (A0 × Int))):plain (g47 r)=true:=(c7q (A4 (A8 r.2.1) (A4 rfl rfl)))
def Z9(r_:B0)(o_:GOp)(r:(B0 × (A0 × Int))):Prop:=b6h Tryz.prog [] 116 [.ptr 0 0,.agg (Q8 o_)] (C9 r_) (J8 r_) (g47 r) (C9 r.1) (J8 r.1)
def g74(r:(B0 × (A0 × Bool × Int))):AV:=.tuple [.agg (A5 r.2.1),.v (.bool r.2.2.1),.v (.int .i64 r.2.2.2)]
theorem f69(r:(B0 × (A0 × Bool × Int))):plain (g74 r)=true:=(c7q (A4 (A8 r.2.1) (A4 rfl (A4 rfl rfl))))
def Z8(r_:B0)(g:B7)(v:A0)(o_:GOp)(r:(B0 × (A0 × Bool × Int))):Prop:=b6h Tryz.prog [] 117 [.ptr 0 0,.agg (D1 g),.agg (A5 v),.agg (Q8 o_)] (C9 r_) (J8 r_) (g74 r) (C9 r.1) (J8 r.1)
def h60(r:Bool):AV:=.v (.bool r)
def b4q(c:A3)(r:Bool):Prop:=B8 Tryz.prog [] 118 [.agg (D5 c)] (h60 r)
def h6k(r:A0):AV:=.agg (A5 r)
def b0h(p:A6)(o_:GOp)(v:A0)(r:A0):Prop:=B8 Tryz.prog [] 119 [.agg (B6 p),.agg (Q8 o_),.agg (A5 v)] (h6k r)
def g72(r:(List (A0 × A0))):AV:=.sl (List.map A9 r) .no
def b6x(l:(List (A0 × A0)))(r:(List (A0 × A0))):Prop:=B8 Tryz.prog [] 120 [.sl (List.map A9 l) .no] (g72 r)
def h6i(r:Bool):AV:=.v (.bool r)
def b9k(v:A0)(r:Bool):Prop:=B8 Tryz.prog [] 121 [.agg (A5 v)] (h6i r)
def h6v(r:Bool):AV:=.v (.bool r)
def a8y(v:A0)(r:Bool):Prop:=B8 Tryz.prog [] 122 [.agg (A5 v)] (h6v r)
def g9v(r:Int):AV:=.v (.int .i64 r)
def c6q(g:B7)(l:(List (Int × A0)))(i:Int)(r:Int):Prop:=B8 Tryz.prog [] 123 [.agg (D1 g),.sl (List.map B3 l) .no,.v (.int .i64 i)] (g9v r)
def h3v(r:(GOp × Bool)):AV:=.tuple [.agg (Q8 r.1),.v (.bool r.2)]
def b9z(g:B7)(num:Int)(r:(GOp × Bool)):Prop:=B8 Tryz.prog [] 124 [.agg (D1 g),.v (.int .i64 num)] (h3v r)
def h4h(r:Int):AV:=.v (.int .i64 r)
def b5n(p:A6)(o_:GOp)(v:A0)(level:Int)(r:Int):Prop:=B8 Tryz.prog [] 125 [.agg (B6 p),.agg (Q8 o_),.agg (A5 v),.v (.int .i64 level)] (h4h r)
def h14(r:Bool):AV:=.v (.bool r)
def d18(v:A0)(num:Int)(r:Bool):Prop:=B8 Tryz.prog [] 126 [.agg (A5 v),.v (.int .i64 num)] (h14 r)
def h47(r:Bool):AV:=.v (.bool r)
def b4b(p:A6)(g:B7)(x:H1)(r:Bool):Prop:=B8 Tryz.prog [] 127 [.agg (B6 p),.agg (D1 g),.agg (I3 x)] (h47 r)
def h35(r:Bool):AV:=.v (.bool r)
def b1p(s:ByteArray)(r:Bool):Prop:=B8 Tryz.prog [] 130 [.v (.string s)] (h35 r)
def h6r(r:Bool):AV:=.v (.bool r)
def b49(s:ByteArray)(r:Bool):Prop:=B8 Tryz.prog [] 131 [.v (.string s)] (h6r r)
def g9y(r:Bool):AV:=.v (.bool r)
def b5p(l:(List c0q))(n:Int)(r:Bool):Prop:=B8 Tryz.prog [] 132 [.sl (List.map b2u l) .no,.v (.int .i64 n)] (g9y r)
def h16(r:Int):AV:=.v (.int .i64 r)
def c1f(l:(List b4h))(target:Int)(r:Int):Prop:=B8 Tryz.prog [] 133 [.sl (List.map a8s l) .no,.v (.int .i64 target)] (h16 r)
def h20(r:Bool):AV:=.v (.bool r)
def b8v(g:B7)(r:Bool):Prop:=B8 Tryz.prog [] 134 [.agg (D1 g)] (h20 r)
def h3j(r:Bool):AV:=.v (.bool r)
def b2q(p:A6)(o_:GOp)(r:Bool):Prop:=B8 Tryz.prog [] 135 [.agg (B6 p),.agg (Q8 o_)] (h3j r)
def h1v(r:(Int × Int)):AV:=.tuple [.v (.int .u64 r.1),.v (.int .i64 r.2)]
def b01(s:ByteArray)(r:(Int × Int)):Prop:=B8 Tryz.prog [] 136 [.v (.string s)] (h1v r)
def h40(r:ByteArray):AV:=.v (.string r)
def b64(c:A3)(n:Int)(r:ByteArray):Prop:=B8 Tryz.prog [] 137 [.agg (D5 c),.v (.int .i64 n)] (h40 r)
def h5a(r:(List Int)):AV:=.sl (List.map b05 r) .no
def c7m(c:A3)(n:Int)(r:(List Int)):Prop:=B8 Tryz.prog [] 138 [.agg (D5 c),.v (.int .i64 n)] (h5a r)
def g9q(r:Int):AV:=.v (.int .i64 r)
def f1c(s:ByteArray)(r:Int):Prop:=B8 Tryz.prog [] 139 [.v (.string s)] (g9q r)
def h0s(r:(Int × Int × Int)):AV:=.tuple [.v (.int .u64 r.1),.v (.int .i64 r.2.1),.v (.int .i64 r.2.2)]
def c13(s:ByteArray)(r:(Int × Int × Int)):Prop:=B8 Tryz.prog [] 140 [.v (.string s)] (h0s r)
def h68(r:Bool):AV:=.v (.bool r)
def b9y(kind:Int)(r:Bool):Prop:=B8 Tryz.prog [] 141 [.v (.int .i64 kind)] (h68 r)
def h2y(r:Int):AV:=.v (.int .i64 r)
def a2x(s:(List b5u))(f:GFn)(r:Int):Prop:=B8 Tryz.prog [] 142 [.sl (List.map a3f s) .no,.clo (.func f.fn) f.fi f.cap] (h2y r)
def h0u(r:Int):AV:=.v (.int .i64 r)
def d80(s:ByteArray)(r:Int):Prop:=B8 Tryz.prog [] 143 [.v (.string s)] (h0u r)
def h5c(r:Int):AV:=.v (.int .i64 r)
def S7(a:Int)(b:Int)(r:Int):Prop:=B8 Tryz.prog [] 146 [.v (.int .i64 a),.v (.int .i64 b)] (h5c r)
def h1k(r:Int):AV:=.v (.int .i64 r)
def d2g(a:(List A0))(b:(List A0))(r:Int):Prop:=B8 Tryz.prog [] 147 [.sl (List.map C1 a) .no,.sl (List.map C1 b) .no] (h1k r)
def h1f(r:Int):AV:=.v (.int .i64 r)
def d1n(a:(List (A0 × A0)))(b:(List (A0 × A0)))(r:Int):Prop:=B8 Tryz.prog [] 148 [.sl (List.map A9 a) .no,.sl (List.map A9 b) .no] (h1f r)
def h0v(r:Int):AV:=.v (.int .i64 r)
def c9x(a:(List (Int × A0)))(b:(List (Int × A0)))(r:Int):Prop:=B8 Tryz.prog [] 149 [.sl (List.map B3 a) .no,.sl (List.map B3 b) .no] (h0v r)
def h3z(r:Int):AV:=.v (.int .i64 r)
def d4g(a:(List H1))(b:(List H1))(r:Int):Prop:=B8 Tryz.prog [] 150 [.sl (List.map I3 a) .no,.sl (List.map I3 b) .no] (h3z r)
def h4m(r:Int):AV:=.v (.int .i64 r)
def d1t(a:A0)(b:A0)(r:Int):Prop:=B8 Tryz.prog [] 151 [.agg (A5 a),.agg (A5 b)] (h4m r)
def h5k(r:Bool):AV:=.v (.bool r)
def b2m(v:A0)(r:Bool):Prop:=B8 Tryz.prog [] 152 [.agg (A5 v)] (h5k r)
def h4b(r:Int):AV:=.v (.int .i64 r)
def a66(x:C8)(g:B7)(l:(List (Int × A0)))(i:Int)(level:Int)(r:Int):Prop:=B8 Tryz.prog [] 153 [.agg (K4 x),.agg (D1 g),.sl (List.map B3 l) .no,.v (.int .i64 i),.v (.int .i64 level)] (h4b r)
def h6y(r:Bool):AV:=.v (.bool r)
def N4(s:(List (Int × A0)))(f:GFn)(r:Bool):Prop:=B8 Tryz.prog [] 154 [.sl (List.map B3 s) .no,.clo (.func f.fn) f.fi f.cap] (h6y r)
def h6w(r:Bool):AV:=.v (.bool r)
def a7u(y:(Int × A0))(c1_:GOp)(r:Bool):Prop:=B8 Tryz.prog [] 155 [.agg (W9 y),.elt (Q8 c1_) 0] (h6w r)
def h6b(r:Int):AV:=.v (.int .i64 r)
def a88(x:C8)(g:B7)(f:H1)(r:Int):Prop:=B8 Tryz.prog [] 156 [.agg (K4 x),.agg (D1 g),.agg (I3 f)] (h6b r)
def g8y(r:(List A0)):AV:=.sl (List.map C1 r) .no
def c14(v:A0)(r:(List A0)):Prop:=B8 Tryz.prog [] 157 [.agg (A5 v)] (g8y r)
def h50(r:(List (Int × A0))):AV:=.sl (List.map B3 r) .no
def a7o(s:(List (Int × A0)))(r:(List (Int × A0))):Prop:=B8 Tryz.prog [] 158 [.sl (List.map B3 s) .no] (h50 r)
def a2u(s:(List (Int × A0))):Prop:=f84 Tryz.prog B3 8 158 s
def T3(n0:Nat)(x:(List (Int × A0)))(cmp:GFn)(r:(List (Int × A0))):Prop:=c18 Tryz.prog B3 8 159 n0 [.clo (.func cmp.fn) cmp.fi cmp.cap] x r
def X5(x1:GFn):Prop:=B8 Tryz.prog [] 159 [.sl [] .no,.clo (.func x1.fn) x1.fi x1.cap] (.tuple [])
def h5l(r:Int):AV:=.v (.int .i64 r)
def c3y(a:(Int × A0))(b:(Int × A0))(r:Int):Prop:=B8 Tryz.prog [] 160 [.agg (W9 a),.agg (W9 b)] (h5l r)
def h6t(r:Bool):AV:=.v (.bool r)
def d7o(o_:GOp)(c1_:Int)(r:Bool):Prop:=B8 Tryz.prog [] 161 [.agg (Q8 o_),.elt (a8r c1_) 0] (h6t r)
def h6f(r:(GOp × Bool)):AV:=.tuple [.agg (Q8 r.1),.v (.bool r.2)]
def c05(x:b5i)(g:B7)(r:(GOp × Bool)):Prop:=B8 Tryz.prog [] 162 [.agg (b43 x),.agg (D1 g)] (h6f r)
def h4n(r:A0):AV:=.agg (A5 r)
def a7f(p:A6)(o_:GOp)(v:A0)(r:A0):Prop:=B8 Tryz.prog [] 163 [.agg (B6 p),.agg (Q8 o_),.agg (A5 v)] (h4n r)
def g9j(r:(List (A0 × A0))):AV:=.sl (List.map A9 r) .no
def b60(l:(List (A0 × A0)))(r:(List (A0 × A0))):Prop:=B8 Tryz.prog [] 164 [.sl (List.map A9 l) .no] (g9j r)
def h6u(r:Bool):AV:=.v (.bool r)
def a7m(v:A0)(r:Bool):Prop:=B8 Tryz.prog [] 165 [.agg (A5 v)] (h6u r)
def h4s(r:Bool):AV:=.v (.bool r)
def b7j(x:Int)(r:Bool):Prop:=B8 Tryz.prog [] 167 [.v (.int .i64 x)] (h4s r)
def h4u(r:(A3 × Int)):AV:=.tuple [.agg (D5 r.1),.v (.int .i64 r.2)]
def c7n(c:A3)(n:Int)(r:(A3 × Int)):Prop:=B8 Tryz.prog [] 168 [.agg (D5 c),.v (.int .i64 n)] (h4u r)
def g9g(r:(B0 × (Int × Int))):AV:=.tuple [.v (.int .i64 r.2.1),.v (.int .i64 r.2.2)]
theorem f6y(r:(B0 × (Int × Int))):plain (g9g r)=true:=(c7q (A4 rfl (A4 rfl rfl)))
def a48(r_:B0)(r:(B0 × (Int × Int))):Prop:=b6h Tryz.prog [] 169 [.ptr 0 0] (C9 r_) (J8 r_) (g9g r) (C9 r.1) (J8 r.1)
def h5f(r:Int):AV:=.v (.int .i64 r)
def a96(a:A0)(b:A0)(r:Int):Prop:=B8 Tryz.prog [] 170 [.agg (A5 a),.agg (A5 b)] (h5f r)
def g9e(r:Int):AV:=.v (.int .i64 r)
def c1v(p:A6)(o_:GOp)(l:(List (A0 × A0)))(level:Int)(r:Int):Prop:=B8 Tryz.prog [] 171 [.agg (B6 p),.agg (Q8 o_),.sl (List.map A9 l) .no,.v (.int .i64 level)] (g9e r)
def h6o(r:Int):AV:=.v (.int .i64 r)
def a62(p:A6)(o_:GOp)(v:A0)(level:Int)(r:Int):Prop:=B8 Tryz.prog [] 172 [.agg (B6 p),.agg (Q8 o_),.agg (A5 v),.v (.int .i64 level)] (h6o r)
def h3f(r:Bool):AV:=.v (.bool r)
def b8u(s:ByteArray)(r:Bool):Prop:=B8 Tryz.prog [] 173 [.v (.string s)] (h3f r)
def h13(r:(ByteArray × ByteArray)):AV:=.tuple [.v (.string r.1),.v (.string r.2)]
def c1z(full:ByteArray)(r:(ByteArray × ByteArray)):Prop:=B8 Tryz.prog [] 174 [.v (.string full)] (h13 r)
def h58(r:Bool):AV:=.v (.bool r)
def b5e(s:ByteArray)(r:Bool):Prop:=B8 Tryz.prog [] 175 [.v (.string s)] (h58 r)
def g9w(r:Bool):AV:=.v (.bool r)
def b0s(s:ByteArray)(r:Bool):Prop:=B8 Tryz.prog [] 176 [.v (.string s)] (g9w r)
def g6m(r:Int):AV:=.v (.int .i64 r)
def b93(name:ByteArray)(r:Int):Prop:=B8 Tryz.prog [] 177 [.v (.string name)] (g6m r)
def g3v(r:Bool):AV:=.v (.bool r)
def c6y(name:ByteArray)(target:Int)(r:Bool):Prop:=B8 Tryz.prog [] 178 [.v (.string name),.v (.int .i64 target)] (g3v r)
def h45(r:Bool):AV:=.v (.bool r)
def c2h(n:b4h)(r:Bool):Prop:=B8 Tryz.prog [] 179 [.agg (a8s n)] (h45 r)
def h42(r:Bool):AV:=.v (.bool r)
def b8q(p:A6)(o_:GOp)(r:Bool):Prop:=B8 Tryz.prog [] 180 [.agg (B6 p),.agg (Q8 o_)] (h42 r)
def h5p(r:Bool):AV:=.v (.bool r)
def d0w(s:ByteArray)(at_:Int)(c:Int)(r:Bool):Prop:=B8 Tryz.prog [] 181 [.v (.string s),.v (.int .i64 at_),.v (.int .i32 c)] (h5p r)
def h6m(r:Int):AV:=.v (.int .i64 r)
def c5m(s:ByteArray)(i:Int)(r:Int):Prop:=B8 Tryz.prog [] 182 [.v (.string s),.v (.int .i64 i)] (h6m r)
def h5v(r:Int):AV:=.v (.int .i64 r)
def d19(a:H1)(b:H1)(r:Int):Prop:=B8 Tryz.prog [] 183 [.agg (I3 a),.agg (I3 b)] (h5v r)
def h6j(r:Int):AV:=.v (.int .u64 r)
def b2e(v:A0)(r:Int):Prop:=B8 Tryz.prog [] 184 [.agg (A5 v)] (h6j r)
def h4z(r:Bool):AV:=.v (.bool r)
def b1f(y:(Int × A0))(c1_:GOp)(r:Bool):Prop:=B8 Tryz.prog [] 185 [.agg (W9 y),.elt (Q8 c1_) 0] (h4z r)
def h2f(r:Int):AV:=.v (.int .i64 r)
def a5z(x:C8)(o_:GOp)(v:A0)(level:Int)(r:Int):Prop:=B8 Tryz.prog [] 186 [.agg (K4 x),.agg (Q8 o_),.agg (A5 v),.v (.int .i64 level)] (h2f r)
def h2w(r:Int):AV:=.v (.int .i64 r)
def a2w(s:(List (Int × A0)))(f:GFn)(r:Int):Prop:=B8 Tryz.prog [] 187 [.sl (List.map B3 s) .no,.clo (.func f.fn) f.fi f.cap] (h2w r)
def a1v(s:(List A0)):Prop:=g3u Tryz.prog C1 7 188 s
def a0l(n0:Nat)(data:(List (Int × A0)))(n:Int)(cmp:GFn)(r:(List (Int × A0))):Prop:=c18 Tryz.prog B3 8 189 n0 [.v (.int .i64 n),.clo (.func cmp.fn) cmp.fi cmp.cap] data r
def h0e(r:Int):AV:=.v (.int .i64 r)
def a69(s:(List GOp))(f:GFn)(r:Int):Prop:=B8 Tryz.prog [] 190 [.sl (List.map Q8 s) .no,.clo (.func f.fn) f.fi f.cap] (h0e r)
def h4q(r:(List (A0 × A0))):AV:=.sl (List.map A9 r) .no
def a7r(s:(List (A0 × A0)))(r:(List (A0 × A0))):Prop:=B8 Tryz.prog [] 191 [.sl (List.map A9 s) .no] (h4q r)
def a2s(s:(List (A0 × A0))):Prop:=f84 Tryz.prog A9 14 191 s
def T1(n0:Nat)(x:(List (A0 × A0)))(cmp:GFn)(r:(List (A0 × A0))):Prop:=c18 Tryz.prog A9 14 192 n0 [.clo (.func cmp.fn) cmp.fi cmp.cap] x r
def X3(x1:GFn):Prop:=B8 Tryz.prog [] 192 [.sl [] .no,.clo (.func x1.fn) x1.fi x1.cap] (.tuple [])
def h6z(r:Int):AV:=.v (.int .i64 r)
def d5m(a:(A0 × A0))(b:(A0 × A0))(r:Int):Prop:=B8 Tryz.prog [] 193 [.agg (V3 a),.agg (V3 b)] (h6z r)
def h51(r:Bool):AV:=.v (.bool r)
def b3o(a:A0)(b:A0)(r:Bool):Prop:=B8 Tryz.prog [] 194 [.agg (A5 a),.agg (A5 b)] (h51 r)
def h4t(r:c0d):AV:=d0q r
def a9i(v:A0)(r:c0d):Prop:=B8 Tryz.prog [] 197 [.agg (A5 v)] (h4t r)
def h5d(r:Int):AV:=.v (.int .i64 r)
def c5r(a:A0)(b:A0)(r:Int):Prop:=B8 Tryz.prog [] 198 [.agg (A5 a),.agg (A5 b)] (h5d r)
def g98(r:Int):AV:=.v (.int .i64 r)
def K5(s1_:(List A0))(s2_:(List A0))(cmp:GFn)(r:Int):Prop:=B8 Tryz.prog [] 199 [.sl (List.map C1 s1_) .no,.sl (List.map C1 s2_) .no,.clo (.func cmp.fn) cmp.fi cmp.cap] (g98 r)
def h0j(r:Int):AV:=.v (.int .i64 r)
def K6(s1_:(List (A0 × A0)))(s2_:(List (A0 × A0)))(cmp:GFn)(r:Int):Prop:=B8 Tryz.prog [] 200 [.sl (List.map A9 s1_) .no,.sl (List.map A9 s2_) .no,.clo (.func cmp.fn) cmp.fi cmp.cap] (h0j r)
def h6c(r:Int):AV:=.v (.int .i64 r)
def d5n(a:(A0 × A0))(b:(A0 × A0))(r:Int):Prop:=B8 Tryz.prog [] 201 [.agg (V3 a),.agg (V3 b)] (h6c r)
def h3y(r:Int):AV:=.v (.int .i64 r)
def b2k(vals:(List Int))(r:Int):Prop:=B8 Tryz.prog [] 202 [.sl (List.map a8r vals) .no] (h3y r)
def h39(r:Int):AV:=.v (.int .i64 r)
def V2(s1_:(List (Int × A0)))(s2_:(List (Int × A0)))(cmp:GFn)(r:Int):Prop:=B8 Tryz.prog [] 203 [.sl (List.map B3 s1_) .no,.sl (List.map B3 s2_) .no,.clo (.func cmp.fn) cmp.fi cmp.cap] (h39 r)
def h62(r:Int):AV:=.v (.int .i64 r)
def d5v(a:(Int × A0))(b:(Int × A0))(r:Int):Prop:=B8 Tryz.prog [] 204 [.agg (W9 a),.agg (W9 b)] (h62 r)
def h2b(r:Int):AV:=.v (.int .i64 r)
def X2(s1_:(List H1))(s2_:(List H1))(cmp:GFn)(r:Int):Prop:=B8 Tryz.prog [] 205 [.sl (List.map I3 s1_) .no,.sl (List.map I3 s2_) .no,.clo (.func cmp.fn) cmp.fi cmp.cap] (h2b r)
def h6s(r:Int):AV:=.v (.int .i64 r)
def c7u(a:H1)(b:H1)(r:Int):Prop:=B8 Tryz.prog [] 206 [.agg (I3 a),.agg (I3 b)] (h6s r)
def h52(r:Int):AV:=.v (.int .i64 r)
def b4v(p:A6)(kind:Int)(target:Int)(v:A0)(r:Int):Prop:=B8 Tryz.prog [] 207 [.agg (B6 p),.v (.int .i64 kind),.v (.int .i64 target),.agg (A5 v)] (h52 r)
def h6e(r:Bool):AV:=.v (.bool r)
def b72(b:Int)(r:Bool):Prop:=B8 Tryz.prog [] 208 [.v (.int .u8 b)] (h6e r)
def h54(r:Bool):AV:=.v (.bool r)
def b1t(b:Int)(r:Bool):Prop:=B8 Tryz.prog [] 209 [.v (.int .u8 b)] (h54 r)
def h6d(r:Bool):AV:=.v (.bool r)
def a8w(s:ByteArray)(prefix_:ByteArray)(r:Bool):Prop:=B8 Tryz.prog [] 210 [.v (.string s),.v (.string prefix_)] (h6d r)
def h1m(r:Bool):AV:=.v (.bool r)
def a3w(s:ByteArray)(i:Int)(n:Int)(r:Bool):Prop:=B8 Tryz.prog [] 211 [.v (.string s),.v (.int .i64 i),.v (.int .i64 n)] (h1m r)
def h4r(r:Bool):AV:=.v (.bool r)
def a1i(s:ByteArray)(i:Int)(lo:Int)(hi:Int)(r:Bool):Prop:=B8 Tryz.prog [] 212 [.v (.string s),.v (.int .i64 i),.v (.int .u8 lo),.v (.int .u8 hi)] (h4r r)
def h6q(r:Bool):AV:=.v (.bool r)
def c7l(kind:Int)(r:Bool):Prop:=B8 Tryz.prog [] 213 [.v (.int .i64 kind)] (h6q r)
def h6g(r:Int):AV:=.v (.int .i64 r)
def a0h(x:C8)(o_:GOp)(v:A0)(level:Int)(r:Int):Prop:=B8 Tryz.prog [] 214 [.agg (K4 x),.agg (Q8 o_),.agg (A5 v),.v (.int .i64 level)] (h6g r)
def h3o(r:Int):AV:=.v (.int .i64 r)
def a27(x:C8)(o_:GOp)(l:(List (A0 × A0)))(level:Int)(r:Int):Prop:=B8 Tryz.prog [] 215 [.agg (K4 x),.agg (Q8 o_),.sl (List.map A9 l) .no,.v (.int .i64 level)] (h3o r)
def K9(n0:Nat)(data:(List (Int × A0)))(a:Int)(b:Int)(cmp:GFn)(r:(List (Int × A0))):Prop:=c18 Tryz.prog B3 8 216 n0 [.v (.int .i64 a),.v (.int .i64 b),.clo (.func cmp.fn) cmp.fi cmp.cap] data r
def I0(n0:Nat)(data:(List (Int × A0)))(a:Int)(m:Int)(b:Int)(cmp:GFn)(r:(List (Int × A0))):Prop:=c18 Tryz.prog B3 8 217 n0 [.v (.int .i64 a),.v (.int .i64 m),.v (.int .i64 b),.clo (.func cmp.fn) cmp.fi cmp.cap] data r
def a0o(n0:Nat)(data:(List (A0 × A0)))(n:Int)(cmp:GFn)(r:(List (A0 × A0))):Prop:=c18 Tryz.prog A9 14 218 n0 [.v (.int .i64 n),.clo (.func cmp.fn) cmp.fi cmp.cap] data r
def h6l(r:Int):AV:=.v (.int .i64 r)
def a2h(x:ByteArray)(y:ByteArray)(r:Int):Prop:=B8 Tryz.prog [] 220 [.v (.string x),.v (.string y)] (h6l r)
def h61(r:Int):AV:=.v (.int .i64 r)
def a0f(x:Int)(y:Int)(r:Int):Prop:=B8 Tryz.prog [] 221 [.v (.int .u64 x),.v (.int .u64 y)] (h61 r)
def h5m(r:Int):AV:=.v (.int .u64 r)
def b4r(bits:Int)(r:Int):Prop:=B8 Tryz.prog [] 222 [.v (.int .u64 bits)] (h5m r)
def h66(r:Bool):AV:=.v (.bool r)
def a1c(s:ByteArray)(prefix_:ByteArray)(r:Bool):Prop:=B8 Tryz.prog [] 223 [.v (.string s),.v (.string prefix_)] (h66 r)
def h5i(r:Int):AV:=.v (.int .i64 r)
def a3y(x:C8)(kind:Int)(enum:Int)(v:A0)(r:Int):Prop:=B8 Tryz.prog [] 224 [.agg (K4 x),.v (.int .i64 kind),.v (.int .i64 enum),.agg (A5 v)] (h5i r)
def h4v(r:Bool):AV:=.v (.bool r)
def V9(s:(List (A0 × A0)))(f:GFn)(r:Bool):Prop:=B8 Tryz.prog [] 225 [.sl (List.map A9 s) .no,.clo (.func f.fn) f.fi f.cap] (h4v r)
def h6h(r:Bool):AV:=.v (.bool r)
def a7i(q:(A0 × A0))(c1_:(A0 × A0))(r:Bool):Prop:=B8 Tryz.prog [] 226 [.agg (V3 q),.elt (V3 c1_) 0] (h6h r)
def a0q(n0:Nat)(data:(List (Int × A0)))(a:Int)(m:Int)(b:Int)(cmp:GFn)(r:(List (Int × A0))):Prop:=c18 Tryz.prog B3 8 227 n0 [.v (.int .i64 a),.v (.int .i64 m),.v (.int .i64 b),.clo (.func cmp.fn) cmp.fi cmp.cap] data r
def L4(n0:Nat)(data:(List (A0 × A0)))(a:Int)(b:Int)(cmp:GFn)(r:(List (A0 × A0))):Prop:=c18 Tryz.prog A9 14 228 n0 [.v (.int .i64 a),.v (.int .i64 b),.clo (.func cmp.fn) cmp.fi cmp.cap] data r
def H9(n0:Nat)(data:(List (A0 × A0)))(a:Int)(m:Int)(b:Int)(cmp:GFn)(r:(List (A0 × A0))):Prop:=c18 Tryz.prog A9 14 229 n0 [.v (.int .i64 a),.v (.int .i64 m),.v (.int .i64 b),.clo (.func cmp.fn) cmp.fi cmp.cap] data r
def h5z(r:Bool):AV:=.v (.bool r)
def b02(x:ByteArray)(r:Bool):Prop:=B8 Tryz.prog [] 231 [.v (.string x)] (h5z r)
def h5n(r:Bool):AV:=.v (.bool r)
def b06(x:Int)(r:Bool):Prop:=B8 Tryz.prog [] 232 [.v (.int .u64 x)] (h5n r)
def h17(r:Int):AV:=.v (.int .i64 r)
def a2t(s:(List (A0 × A0)))(f:GFn)(r:Int):Prop:=B8 Tryz.prog [] 233 [.sl (List.map A9 s) .no,.clo (.func f.fn) f.fi f.cap] (h17 r)
def K2(n0:Nat)(data:(List (Int × A0)))(a:Int)(b:Int)(n:Int)(cmp:GFn)(r:(List (Int × A0))):Prop:=c18 Tryz.prog B3 8 234 n0 [.v (.int .i64 a),.v (.int .i64 b),.v (.int .i64 n),.clo (.func cmp.fn) cmp.fi cmp.cap] data r
def a0n(n0:Nat)(data:(List (A0 × A0)))(a:Int)(m:Int)(b:Int)(cmp:GFn)(r:(List (A0 × A0))):Prop:=c18 Tryz.prog A9 14 235 n0 [.v (.int .i64 a),.v (.int .i64 m),.v (.int .i64 b),.clo (.func cmp.fn) cmp.fi cmp.cap] data r
def J7(n0:Nat)(data:(List (A0 × A0)))(a:Int)(b:Int)(n:Int)(cmp:GFn)(r:(List (A0 × A0))):Prop:=c18 Tryz.prog A9 14 236 n0 [.v (.int .i64 a),.v (.int .i64 b),.v (.int .i64 n),.clo (.func cmp.fn) cmp.fi cmp.cap] data r
theorem pl9{x0:A6}:plainL [.agg (B6 x0)]=true:=(A4 (D2 x0) rfl)
theorem h7b{x0:A6}{x1:GOp}{x2:A3}:plainL [.agg (B6 x0),.agg (Q8 x1),.agg (D5 x2)]=true:=(A4 (D2 x0) (A4 (J5 x1) (A4 (C3 x2) rfl)))
theorem h5y{x0:A0}:plainL [.agg (A5 x0)]=true:=(A4 (A8 x0) rfl)
theorem h5t{x0:A0}{x1:A0}:plainL [.agg (A5 x0),.agg (A5 x1)]=true:=(A4 (A8 x0) (A4 (A8 x1) rfl))
theorem h6n:plainL []=true:=rfl
theorem h7s{x0:A6}{x1:ByteArray}{x2:A0}:plainL [.agg (B6 x0),.v (.string x1),.agg (A5 x2)]=true:=(A4 (D2 x0) (A4 rfl (A4 (A8 x2) rfl)))
theorem h8h{x0:A6}{x1:ByteArray}:plainL [.agg (B6 x0),.v (.string x1)]=true:=(A4 (D2 x0) (A4 rfl rfl))
theorem h7k{x0:A6}{x1:ByteArray}{x2:ByteArray}{x3:a04}:plainL [.agg (B6 x0),.v (.string x1),.v (.string x2),.agg (a3r x3)]=true:=(A4 (D2 x0) (A4 rfl (A4 rfl (A4 (K8 x3) rfl))))
theorem h5q:plainL []=true:=rfl
theorem h6a{x0:A6}{x1:Int}{x2:A0}:plainL [.agg (B6 x0),.v (.int .i64 x1),.agg (A5 x2)]=true:=(A4 (D2 x0) (A4 rfl (A4 (A8 x2) rfl)))
theorem h7m{x0:A6}{x1:Int}{x2:A0}:plainL [.agg (B6 x0),.v (.int .i64 x1),.agg (A5 x2)]=true:=(A4 (D2 x0) (A4 rfl (A4 (A8 x2) rfl)))
theorem g6w{x0:A0}:plainL [.agg (A5 x0)]=true:=(A4 (A8 x0) rfl)
theorem h8b{x0:A6}:plainL [.agg (B6 x0)]=true:=(A4 (D2 x0) rfl)
theorem h67{x0:A3}:plainL [.agg (D5 x0)]=true:=(A4 (C3 x0) rfl)
theorem h7t{x0:A3}:plainL [.agg (D5 x0)]=true:=(A4 (C3 x0) rfl)
theorem h8g{x0:Int}{x1:A3}:plainL [.v (.int .i64 x0),.agg (D5 x1)]=true:=(A4 rfl (A4 (C3 x1) rfl))
theorem h0i{x0:A3}:plainL [.agg (D5 x0)]=true:=(A4 (C3 x0) rfl)
theorem h8d{x0:Int}:plainL [.v (.int .u64 x0)]=true:=(A4 rfl rfl)
theorem h26{x0:Int}{x1:A0}:plainL [.v (.int .i64 x0),.agg (A5 x1)]=true:=(A4 rfl (A4 (A8 x1) rfl))
theorem h0h{x0:A6}{x1:Int}{x2:Int}:plainL [.agg (B6 x0),.v (.int .i64 x1),.v (.int .u64 x2)]=true:=(A4 (D2 x0) (A4 rfl (A4 rfl rfl)))
theorem h59{x0:A0}:plainL [.agg (A5 x0)]=true:=(A4 (A8 x0) rfl)
theorem h31{x0:Int}:plainL [.v (.int .i64 x0)]=true:=(A4 rfl rfl)
theorem h41{x0:Int}{x1:A0}:plainL [.v (.int .i64 x0),.agg (A5 x1)]=true:=(A4 rfl (A4 (A8 x1) rfl))
theorem h53{x0:A6}{x1:Int}{x2:Int}:plainL [.agg (B6 x0),.v (.int .i64 x1),.v (.int .u64 x2)]=true:=(A4 (D2 x0) (A4 rfl (A4 rfl rfl)))
theorem g30{x0:Int}:plainL [.v (.int .u64 x0)]=true:=(A4 rfl rfl)
theorem h79{x0:Int}:plainL [.v (.int .i64 x0)]=true:=(A4 rfl rfl)
theorem h71{x0:Int}:plainL [.v (.int .u64 x0)]=true:=(A4 rfl rfl)
theorem g85{x0:A0}:plainL [.agg (A5 x0)]=true:=(A4 (A8 x0) rfl)
theorem h65{x0:A0}{x1:A0}:plainL [.agg (A5 x0),.agg (A5 x1)]=true:=(A4 (A8 x0) (A4 (A8 x1) rfl))
theorem h5e{x0:Int}:plainL [.v (.int .u64 x0)]=true:=(A4 rfl rfl)
theorem h5r{x0:A6}{x1:ByteArray}:plainL [.agg (B6 x0),.v (.string x1)]=true:=(A4 (D2 x0) (A4 rfl rfl))
theorem h77{x0:A6}{x1:Int}{x2:A0}:plainL [.agg (B6 x0),.v (.int .i64 x1),.agg (A5 x2)]=true:=(A4 (D2 x0) (A4 rfl (A4 (A8 x2) rfl)))
theorem g9a{x0:A0}:plainL [.agg (A5 x0)]=true:=(A4 (A8 x0) rfl)
theorem g6k{x0:E4}{x1:Int}{x2:A0}{r:E4}:(N8 x0).all ok1=true/\(N8 r).all ok1=true/\List.all [.ptr 0 0,.v (.int .i64 x1),.agg (A5 x2)] okA=true/\plain (e58 r)=true:=⟨a3q _,a3q _,F9 rfl (F9 (C4 rfl) (F9 (C4 (A8 x2)) rfl)),g7q r⟩
theorem h6x{x0:A6}{x1:Int}{x2:A0}:plainL [.agg (B6 x0),.v (.int .i64 x1),.agg (A5 x2)]=true:=(A4 (D2 x0) (A4 rfl (A4 (A8 x2) rfl)))
theorem h7w{x0:ByteArray}{x1:a04}:plainL [.v (.string x0),.agg (a3r x1)]=true:=(A4 rfl (A4 (K8 x1) rfl))
theorem g5l{x0:B0}{x1:Int}{r:(B0 × (A0 × Int))}:(C9 x0).all ok1=true/\(C9 r.1).all ok1=true/\List.all [.ptr 0 0,.v (.int .i64 x1)] okA=true/\plain (e61 r)=true:=⟨J2 _,J2 _,F9 rfl (F9 (C4 rfl) rfl),g34 r⟩
theorem g86{x0:A3}:plainL [.agg (D5 x0)]=true:=(A4 (C3 x0) rfl)
theorem h74{x0:(List H1)}:plainL [.sl (List.map I3 x0) .no]=true:=(A4 (psl (H2 x0)) rfl)
theorem h8c{x0:A6}{x1:GOp}{x2:A0}:plainL [.agg (B6 x0),.agg (Q8 x1),.agg (A5 x2)]=true:=(A4 (D2 x0) (A4 (J5 x1) (A4 (A8 x2) rfl)))
theorem h73{x0:A0}:plainL [.agg (A5 x0)]=true:=(A4 (A8 x0) rfl)
theorem h5u{x0:A6}{x1:Int}{x2:A0}{x3:Int}:plainL [.agg (B6 x0),.v (.int .i64 x1),.agg (A5 x2),.v (.int .i64 x3)]=true:=(A4 (D2 x0) (A4 rfl (A4 (A8 x2) (A4 rfl rfl))))
theorem h7g{x0:A6}:plainL [.agg (B6 x0)]=true:=(A4 (D2 x0) rfl)
theorem h75{x0:A6}:plainL [.agg (B6 x0)]=true:=(A4 (D2 x0) rfl)
theorem h7j{x0:A6}:plainL [.agg (B6 x0)]=true:=(A4 (D2 x0) rfl)
theorem h70{x0:A6}:plainL [.agg (B6 x0)]=true:=(A4 (D2 x0) rfl)
theorem h8f{x0:A6}:plainL [.agg (B6 x0)]=true:=(A4 (D2 x0) rfl)
theorem h7x{x0:A6}:plainL [.agg (B6 x0)]=true:=(A4 (D2 x0) rfl)
theorem h8e{x0:A6}:plainL [.agg (B6 x0)]=true:=(A4 (D2 x0) rfl)
theorem g9i{x0:A3}{x1:Int}:plainL [.agg (D5 x0),.v (.int .i64 x1)]=true:=(A4 (C3 x0) (A4 rfl rfl))
theorem h7a{x0:A3}:plainL [.agg (D5 x0)]=true:=(A4 (C3 x0) rfl)
theorem h7v{x0:A3}{x1:Int}:plainL [.agg (D5 x0),.v (.int .i64 x1)]=true:=(A4 (C3 x0) (A4 rfl rfl))
theorem h2k{x0:ByteArray}:plainL [.v (.string x0)]=true:=(A4 rfl rfl)
theorem h7l{x0:A3}:plainL [.agg (D5 x0)]=true:=(A4 (C3 x0) rfl)
theorem h7c{x0:Int}:plainL [.v (.int .u64 x0)]=true:=(A4 rfl rfl)
theorem g89{x0:Int}:plainL [.v (.int .i64 x0)]=true:=(A4 rfl rfl)
theorem h5b{x0:A0}:plainL [.agg (A5 x0)]=true:=(A4 (A8 x0) rfl)
theorem h7p{x0:Int}{x1:Int}:plainL [.v (.int .i64 x0),.v (.int .u64 x1)]=true:=(A4 rfl (A4 rfl rfl))
theorem h7e{x0:(List b5u)}{x1:GFn}:plainL [.sl (List.map a3f x0) .no,.clo (.func x1.fn) x1.fi x1.cap]=true:=(A4 (psl (K0 x0)) (A4 (a07 x1) rfl))
theorem h08{x0:ByteArray}:plainL [.v (.string x0)]=true:=(A4 rfl rfl)
theorem h43{x0:Int}:plainL [.v (.int .u64 x0)]=true:=(A4 rfl rfl)
theorem h4w{x0:A0}:plainL [.agg (A5 x0)]=true:=(A4 (A8 x0) rfl)
theorem g8x{x0:Int}:plainL [.v (.int .i64 x0)]=true:=(A4 rfl rfl)
theorem h5w{x0:Int}:plainL [.v (.int .u64 x0)]=true:=(A4 rfl rfl)
theorem g1s{x0:A0}{x1:A0}:plainL [.agg (A5 x0),.agg (A5 x1)]=true:=(A4 (A8 x0) (A4 (A8 x1) rfl))
theorem h7n{x0:(List B7)}{x1:GFn}:plainL [.sl (List.map D1 x0) .no,.clo (.func x1.fn) x1.fi x1.cap]=true:=(A4 (psl (H5 x0)) (A4 (a07 x1) rfl))
theorem g4t{x0:C8}{x1:B7}{x2:A0}{x3:Int}:plainL [.agg (K4 x0),.agg (D1 x1),.agg (A5 x2),.v (.int .i64 x3)]=true:=(A4 (G3 x0) (A4 (F5 x1) (A4 (A8 x2) (A4 rfl rfl))))
theorem g56{x0:A0}:plainL [.agg (A5 x0)]=true:=(A4 (A8 x0) rfl)
theorem e2w{x0:E4}{x1:GOp}{x2:A0}{r:E4}:(N8 x0).all ok1=true/\(N8 r).all ok1=true/\List.all [.ptr 0 0,.agg (Q8 x1),.agg (A5 x2)] okA=true/\plain (g8z r)=true:=⟨a3q _,a3q _,F9 rfl (F9 (C4 (J5 x1)) (F9 (C4 (A8 x2)) rfl)),f80 r⟩
theorem d3y{x0:E4}{x1:ByteArray}{r:E4}:(N8 x0).all ok1=true/\(N8 r).all ok1=true/\List.all [.ptr 0 0,.v (.string x1)] okA=true/\plain (g87 r)=true:=⟨a3q _,a3q _,F9 rfl (F9 (C4 rfl) rfl),f7d r⟩
theorem h0w{x0:(List H1)}:plainL [.sl (List.map I3 x0) .no]=true:=(A4 (psl (H2 x0)) rfl)
theorem g4d{x0:(List (Int × A0))}:plainL [.sl (List.map B3 x0) .no]=true:=(A4 (psl (E2 x0)) rfl)
theorem f2w{x0:B7}{x1:Int}:plainL [.agg (D1 x0),.v (.int .i64 x1)]=true:=(A4 (F5 x0) (A4 rfl rfl))
theorem h0y{x0:A6}{x1:GOp}{x2:A0}:plainL [.agg (B6 x0),.agg (Q8 x1),.agg (A5 x2)]=true:=(A4 (D2 x0) (A4 (J5 x1) (A4 (A8 x2) rfl)))
theorem g9p{x0:A0}:plainL [.agg (A5 x0)]=true:=(A4 (A8 x0) rfl)
theorem g8r{x1:GFn}:plainL [.sl [] .no,.clo (.func x1.fn) x1.fi x1.cap]=true:=(A4 rfl (A4 (a07 x1) rfl))
theorem d9c{x0:Int}{x1:Int}:plainL [.v (.int .i64 x0),.v (.int .i64 x1)]=true:=(A4 rfl (A4 rfl rfl))
theorem f2i{x0:B0}{x1:Int}{r:(B0 × Int)}:(C9 x0).all ok1=true/\(C9 r.1).all ok1=true/\List.all [.ptr 0 0,.v (.int .i64 x1)] okA=true/\plain (g80 r)=true:=⟨J2 _,J2 _,F9 rfl (F9 (C4 rfl) rfl),f7v r⟩
theorem d1h{x0:B0}{x1:GOp}{r:(B0 × (A0 × Int))}:(C9 x0).all ok1=true/\(C9 r.1).all ok1=true/\List.all [.ptr 0 0,.agg (Q8 x1)] okA=true/\plain (g9k r)=true:=⟨J2 _,J2 _,F9 rfl (F9 (C4 (J5 x1)) rfl),f7u r⟩
theorem f1e{x0:B0}{x1:GOp}{r:(B0 × (A0 × Int))}:(C9 x0).all ok1=true/\(C9 r.1).all ok1=true/\List.all [.ptr 0 0,.agg (Q8 x1)] okA=true/\plain (g6u r)=true:=⟨J2 _,J2 _,F9 rfl (F9 (C4 (J5 x1)) rfl),f8c r⟩
theorem e7p{x0:B0}{x1:GOp}{r:(B0 × (A0 × Int))}:(C9 x0).all ok1=true/\(C9 r.1).all ok1=true/\List.all [.ptr 0 0,.agg (Q8 x1)] okA=true/\plain (g47 r)=true:=⟨J2 _,J2 _,F9 rfl (F9 (C4 (J5 x1)) rfl),f79 r⟩
theorem e9j{x0:B0}{x1:B7}{x2:A0}{x3:GOp}{r:(B0 × (A0 × Bool × Int))}:(C9 x0).all ok1=true/\(C9 r.1).all ok1=true/\List.all [.ptr 0 0,.agg (D1 x1),.agg (A5 x2),.agg (Q8 x3)] okA=true/\plain (g74 r)=true:=⟨J2 _,J2 _,F9 rfl (F9 (C4 (F5 x1)) (F9 (C4 (A8 x2)) (F9 (C4 (J5 x3)) rfl))),f69 r⟩
theorem g4g{x0:A3}:plainL [.agg (D5 x0)]=true:=(A4 (C3 x0) rfl)
theorem f9v{x0:A6}{x1:GOp}{x2:A0}:plainL [.agg (B6 x0),.agg (Q8 x1),.agg (A5 x2)]=true:=(A4 (D2 x0) (A4 (J5 x1) (A4 (A8 x2) rfl)))
theorem h0l{x0:(List (A0 × A0))}:plainL [.sl (List.map A9 x0) .no]=true:=(A4 (psl (D7 x0)) rfl)
theorem g97{x0:A0}:plainL [.agg (A5 x0)]=true:=(A4 (A8 x0) rfl)
theorem f3h{x0:A0}:plainL [.agg (A5 x0)]=true:=(A4 (A8 x0) rfl)
theorem h3q{x0:B7}{x1:(List (Int × A0))}{x2:Int}:plainL [.agg (D1 x0),.sl (List.map B3 x1) .no,.v (.int .i64 x2)]=true:=(A4 (F5 x0) (A4 (psl (E2 x1)) (A4 rfl rfl)))
theorem f4l{x0:B7}{x1:Int}:plainL [.agg (D1 x0),.v (.int .i64 x1)]=true:=(A4 (F5 x0) (A4 rfl rfl))
theorem h2l{x0:A6}{x1:GOp}{x2:A0}{x3:Int}:plainL [.agg (B6 x0),.agg (Q8 x1),.agg (A5 x2),.v (.int .i64 x3)]=true:=(A4 (D2 x0) (A4 (J5 x1) (A4 (A8 x2) (A4 rfl rfl))))
theorem h02{x0:A0}{x1:Int}:plainL [.agg (A5 x0),.v (.int .i64 x1)]=true:=(A4 (A8 x0) (A4 rfl rfl))
theorem h29{x0:A6}{x1:B7}{x2:H1}:plainL [.agg (B6 x0),.agg (D1 x1),.agg (I3 x2)]=true:=(A4 (D2 x0) (A4 (F5 x1) (A4 (P7 x2) rfl)))
theorem g58{x0:ByteArray}:plainL [.v (.string x0)]=true:=(A4 rfl rfl)
theorem g71{x0:ByteArray}:plainL [.v (.string x0)]=true:=(A4 rfl rfl)
theorem g9x{x0:(List c0q)}{x1:Int}:plainL [.sl (List.map b2u x0) .no,.v (.int .i64 x1)]=true:=(A4 (psl (N1 x0)) (A4 rfl rfl))
theorem h0q{x0:(List b4h)}{x1:Int}:plainL [.sl (List.map a8s x0) .no,.v (.int .i64 x1)]=true:=(A4 (psl (K1 x0)) (A4 rfl rfl))
theorem h3d{x0:B7}:plainL [.agg (D1 x0)]=true:=(A4 (F5 x0) rfl)
theorem h3h{x0:A6}{x1:GOp}:plainL [.agg (B6 x0),.agg (Q8 x1)]=true:=(A4 (D2 x0) (A4 (J5 x1) rfl))
theorem h06{x0:ByteArray}:plainL [.v (.string x0)]=true:=(A4 rfl rfl)
theorem g7j{x0:A3}{x1:Int}:plainL [.agg (D5 x0),.v (.int .i64 x1)]=true:=(A4 (C3 x0) (A4 rfl rfl))
theorem h22{x0:A3}{x1:Int}:plainL [.agg (D5 x0),.v (.int .i64 x1)]=true:=(A4 (C3 x0) (A4 rfl rfl))
theorem h4f{x0:ByteArray}:plainL [.v (.string x0)]=true:=(A4 rfl rfl)
theorem h2r{x0:ByteArray}:plainL [.v (.string x0)]=true:=(A4 rfl rfl)
theorem g59{x0:Int}:plainL [.v (.int .i64 x0)]=true:=(A4 rfl rfl)
theorem g9o{x0:(List b5u)}{x1:GFn}:plainL [.sl (List.map a3f x0) .no,.clo (.func x1.fn) x1.fi x1.cap]=true:=(A4 (psl (K0 x0)) (A4 (a07 x1) rfl))
theorem h30{x0:ByteArray}:plainL [.v (.string x0)]=true:=(A4 rfl rfl)
theorem d8c{x0:Int}{x1:Int}:plainL [.v (.int .i64 x0),.v (.int .i64 x1)]=true:=(A4 rfl (A4 rfl rfl))
theorem h0x{x0:(List A0)}{x1:(List A0)}:plainL [.sl (List.map C1 x0) .no,.sl (List.map C1 x1) .no]=true:=(A4 (psl (E7 x0)) (A4 (psl (E7 x1)) rfl))
theorem h0z{x0:(List (A0 × A0))}{x1:(List (A0 × A0))}:plainL [.sl (List.map A9 x0) .no,.sl (List.map A9 x1) .no]=true:=(A4 (psl (D7 x0)) (A4 (psl (D7 x1)) rfl))
theorem h1u{x0:(List (Int × A0))}{x1:(List (Int × A0))}:plainL [.sl (List.map B3 x0) .no,.sl (List.map B3 x1) .no]=true:=(A4 (psl (E2 x0)) (A4 (psl (E2 x1)) rfl))
theorem h1q{x0:(List H1)}{x1:(List H1)}:plainL [.sl (List.map I3 x0) .no,.sl (List.map I3 x1) .no]=true:=(A4 (psl (H2 x0)) (A4 (psl (H2 x1)) rfl))
theorem h3x{x0:A0}{x1:A0}:plainL [.agg (A5 x0),.agg (A5 x1)]=true:=(A4 (A8 x0) (A4 (A8 x1) rfl))
theorem f3j{x0:A0}:plainL [.agg (A5 x0)]=true:=(A4 (A8 x0) rfl)
theorem g96{x0:C8}{x1:B7}{x2:(List (Int × A0))}{x3:Int}{x4:Int}:plainL [.agg (K4 x0),.agg (D1 x1),.sl (List.map B3 x2) .no,.v (.int .i64 x3),.v (.int .i64 x4)]=true:=(A4 (G3 x0) (A4 (F5 x1) (A4 (psl (E2 x2)) (A4 rfl (A4 rfl rfl)))))
theorem g52{x0:(List (Int × A0))}{x1:GFn}:plainL [.sl (List.map B3 x0) .no,.clo (.func x1.fn) x1.fi x1.cap]=true:=(A4 (psl (E2 x0)) (A4 (a07 x1) rfl))
theorem h18{x0:C8}{x1:B7}{x2:H1}:plainL [.agg (K4 x0),.agg (D1 x1),.agg (I3 x2)]=true:=(A4 (G3 x0) (A4 (F5 x1) (A4 (P7 x2) rfl)))
theorem h2t{x0:A0}:plainL [.agg (A5 x0)]=true:=(A4 (A8 x0) rfl)
theorem h2o{x0:(List (Int × A0))}:plainL [.sl (List.map B3 x0) .no]=true:=(A4 (psl (E2 x0)) rfl)
theorem g3x{x1:GFn}:List.all [.clo (.func x1.fn) x1.fi x1.cap] okA=true:=(F9 (C4 (a07 x1)) rfl)
theorem g4v{x1:GFn}:plainL [.sl [] .no,.clo (.func x1.fn) x1.fi x1.cap]=true:=(A4 rfl (A4 (a07 x1) rfl))
theorem h2i{x0:b5i}{x1:B7}:plainL [.agg (b43 x0),.agg (D1 x1)]=true:=(A4 (a0b x0) (A4 (F5 x1) rfl))
theorem g3a{x0:A6}{x1:GOp}{x2:A0}:plainL [.agg (B6 x0),.agg (Q8 x1),.agg (A5 x2)]=true:=(A4 (D2 x0) (A4 (J5 x1) (A4 (A8 x2) rfl)))
theorem g99{x0:(List (A0 × A0))}:plainL [.sl (List.map A9 x0) .no]=true:=(A4 (psl (D7 x0)) rfl)
theorem g63{x0:A0}:plainL [.agg (A5 x0)]=true:=(A4 (A8 x0) rfl)
theorem g5e{x0:Int}:plainL [.v (.int .i64 x0)]=true:=(A4 rfl rfl)
theorem h15{x0:A3}{x1:Int}:plainL [.agg (D5 x0),.v (.int .i64 x1)]=true:=(A4 (C3 x0) (A4 rfl rfl))
theorem f66{x0:B0}{r:(B0 × (Int × Int))}:(C9 x0).all ok1=true/\(C9 r.1).all ok1=true/\List.all [.ptr 0 0] okA=true/\plain (g9g r)=true:=⟨J2 _,J2 _,F9 rfl rfl,f6y r⟩
theorem e5c{x0:A0}{x1:A0}:plainL [.agg (A5 x0),.agg (A5 x1)]=true:=(A4 (A8 x0) (A4 (A8 x1) rfl))
theorem h3c{x0:A6}{x1:GOp}{x2:(List (A0 × A0))}{x3:Int}:plainL [.agg (B6 x0),.agg (Q8 x1),.sl (List.map A9 x2) .no,.v (.int .i64 x3)]=true:=(A4 (D2 x0) (A4 (J5 x1) (A4 (psl (D7 x2)) (A4 rfl rfl))))
theorem g0p{x0:A6}{x1:GOp}{x2:A0}{x3:Int}:plainL [.agg (B6 x0),.agg (Q8 x1),.agg (A5 x2),.v (.int .i64 x3)]=true:=(A4 (D2 x0) (A4 (J5 x1) (A4 (A8 x2) (A4 rfl rfl))))
theorem h1l{x0:ByteArray}:plainL [.v (.string x0)]=true:=(A4 rfl rfl)
theorem h1j{x0:ByteArray}:plainL [.v (.string x0)]=true:=(A4 rfl rfl)
theorem g8v{x0:ByteArray}:plainL [.v (.string x0)]=true:=(A4 rfl rfl)
theorem g0t{x0:ByteArray}:plainL [.v (.string x0)]=true:=(A4 rfl rfl)
theorem g7t{x0:ByteArray}:plainL [.v (.string x0)]=true:=(A4 rfl rfl)
theorem h0f{x0:ByteArray}{x1:Int}:plainL [.v (.string x0),.v (.int .i64 x1)]=true:=(A4 rfl (A4 rfl rfl))
theorem h2u{x0:b4h}:plainL [.agg (a8s x0)]=true:=(A4 (P4 x0) rfl)
theorem h2m{x0:A6}{x1:GOp}:plainL [.agg (B6 x0),.agg (Q8 x1)]=true:=(A4 (D2 x0) (A4 (J5 x1) rfl))
theorem h2c{x0:ByteArray}{x1:Int}{x2:Int}:plainL [.v (.string x0),.v (.int .i64 x1),.v (.int .i32 x2)]=true:=(A4 rfl (A4 rfl (A4 rfl rfl)))
theorem h3e{x0:ByteArray}{x1:Int}:plainL [.v (.string x0),.v (.int .i64 x1)]=true:=(A4 rfl (A4 rfl rfl))
theorem h4a{x0:H1}{x1:H1}:plainL [.agg (I3 x0),.agg (I3 x1)]=true:=(A4 (P7 x0) (A4 (P7 x1) rfl))
theorem f4b{x0:A0}:plainL [.agg (A5 x0)]=true:=(A4 (A8 x0) rfl)
theorem h24{x0:C8}{x1:GOp}{x2:A0}{x3:Int}:plainL [.agg (K4 x0),.agg (Q8 x1),.agg (A5 x2),.v (.int .i64 x3)]=true:=(A4 (G3 x0) (A4 (J5 x1) (A4 (A8 x2) (A4 rfl rfl))))
theorem h2j{x0:(List (Int × A0))}{x1:GFn}:plainL [.sl (List.map B3 x0) .no,.clo (.func x1.fn) x1.fi x1.cap]=true:=(A4 (psl (E2 x0)) (A4 (a07 x1) rfl))
theorem g6r{x1:Int}{x2:GFn}:List.all [.v (.int .i64 x1),.clo (.func x2.fn) x2.fi x2.cap] okA=true:=(F9 (C4 rfl) (F9 (C4 (a07 x2)) rfl))
theorem h2z{x0:(List GOp)}{x1:GFn}:plainL [.sl (List.map Q8 x0) .no,.clo (.func x1.fn) x1.fi x1.cap]=true:=(A4 (psl (S9 x0)) (A4 (a07 x1) rfl))
theorem h07{x0:(List (A0 × A0))}:plainL [.sl (List.map A9 x0) .no]=true:=(A4 (psl (D7 x0)) rfl)
theorem g35{x1:GFn}:List.all [.clo (.func x1.fn) x1.fi x1.cap] okA=true:=(F9 (C4 (a07 x1)) rfl)
theorem g67{x1:GFn}:plainL [.sl [] .no,.clo (.func x1.fn) x1.fi x1.cap]=true:=(A4 rfl (A4 (a07 x1) rfl))
theorem g3p{x0:A0}{x1:A0}:plainL [.agg (A5 x0),.agg (A5 x1)]=true:=(A4 (A8 x0) (A4 (A8 x1) rfl))
theorem g7r{x0:A0}:plainL [.agg (A5 x0)]=true:=(A4 (A8 x0) rfl)
theorem h05{x0:A0}{x1:A0}:plainL [.agg (A5 x0),.agg (A5 x1)]=true:=(A4 (A8 x0) (A4 (A8 x1) rfl))
theorem h34{x0:(List A0)}{x1:(List A0)}{x2:GFn}:plainL [.sl (List.map C1 x0) .no,.sl (List.map C1 x1) .no,.clo (.func x2.fn) x2.fi x2.cap]=true:=(A4 (psl (E7 x0)) (A4 (psl (E7 x1)) (A4 (a07 x2) rfl)))
theorem h2x{x0:(List (A0 × A0))}{x1:(List (A0 × A0))}{x2:GFn}:plainL [.sl (List.map A9 x0) .no,.sl (List.map A9 x1) .no,.clo (.func x2.fn) x2.fi x2.cap]=true:=(A4 (psl (D7 x0)) (A4 (psl (D7 x1)) (A4 (a07 x2) rfl)))
theorem f6a{x0:(List Int)}:plainL [.sl (List.map a8r x0) .no]=true:=(A4 (psl (G2 x0)) rfl)
theorem h4d{x0:(List (Int × A0))}{x1:(List (Int × A0))}{x2:GFn}:plainL [.sl (List.map B3 x0) .no,.sl (List.map B3 x1) .no,.clo (.func x2.fn) x2.fi x2.cap]=true:=(A4 (psl (E2 x0)) (A4 (psl (E2 x1)) (A4 (a07 x2) rfl)))
theorem h1e{x0:(List H1)}{x1:(List H1)}{x2:GFn}:plainL [.sl (List.map I3 x0) .no,.sl (List.map I3 x1) .no,.clo (.func x2.fn) x2.fi x2.cap]=true:=(A4 (psl (H2 x0)) (A4 (psl (H2 x1)) (A4 (a07 x2) rfl)))
theorem g8k{x0:A6}{x1:Int}{x2:Int}{x3:A0}:plainL [.agg (B6 x0),.v (.int .i64 x1),.v (.int .i64 x2),.agg (A5 x3)]=true:=(A4 (D2 x0) (A4 rfl (A4 rfl (A4 (A8 x3) rfl))))
theorem g7i{x0:Int}:plainL [.v (.int .u8 x0)]=true:=(A4 rfl rfl)
theorem g8b{x0:Int}:plainL [.v (.int .u8 x0)]=true:=(A4 rfl rfl)
theorem h0t{x0:ByteArray}{x1:ByteArray}:plainL [.v (.string x0),.v (.string x1)]=true:=(A4 rfl (A4 rfl rfl))
theorem d90{x0:ByteArray}{x1:Int}{x2:Int}:plainL [.v (.string x0),.v (.int .i64 x1),.v (.int .i64 x2)]=true:=(A4 rfl (A4 rfl (A4 rfl rfl)))
theorem f1u{x0:ByteArray}{x1:Int}{x2:Int}{x3:Int}:plainL [.v (.string x0),.v (.int .i64 x1),.v (.int .u8 x2),.v (.int .u8 x3)]=true:=(A4 rfl (A4 rfl (A4 rfl (A4 rfl rfl))))
theorem g95{x0:Int}:plainL [.v (.int .i64 x0)]=true:=(A4 rfl rfl)
theorem g22{x0:C8}{x1:GOp}{x2:A0}{x3:Int}:plainL [.agg (K4 x0),.agg (Q8 x1),.agg (A5 x2),.v (.int .i64 x3)]=true:=(A4 (G3 x0) (A4 (J5 x1) (A4 (A8 x2) (A4 rfl rfl))))
theorem h2d{x0:C8}{x1:GOp}{x2:(List (A0 × A0))}{x3:Int}:plainL [.agg (K4 x0),.agg (Q8 x1),.sl (List.map A9 x2) .no,.v (.int .i64 x3)]=true:=(A4 (G3 x0) (A4 (J5 x1) (A4 (psl (D7 x2)) (A4 rfl rfl))))
theorem f7h{x1:Int}{x2:Int}{x3:GFn}:List.all [.v (.int .i64 x1),.v (.int .i64 x2),.clo (.func x3.fn) x3.fi x3.cap] okA=true:=(F9 (C4 rfl) (F9 (C4 rfl) (F9 (C4 (a07 x3)) rfl)))
theorem e1c{x1:Int}{x2:Int}{x3:Int}{x4:GFn}:List.all [.v (.int .i64 x1),.v (.int .i64 x2),.v (.int .i64 x3),.clo (.func x4.fn) x4.fi x4.cap] okA=true:=(F9 (C4 rfl) (F9 (C4 rfl) (F9 (C4 rfl) (F9 (C4 (a07 x4)) rfl))))
theorem g8d{x1:Int}{x2:GFn}:List.all [.v (.int .i64 x1),.clo (.func x2.fn) x2.fi x2.cap] okA=true:=(F9 (C4 rfl) (F9 (C4 (a07 x2)) rfl))
theorem g4k{x0:ByteArray}{x1:ByteArray}:plainL [.v (.string x0),.v (.string x1)]=true:=(A4 rfl (A4 rfl rfl))
theorem g1b{x0:Int}{x1:Int}:plainL [.v (.int .u64 x0),.v (.int .u64 x1)]=true:=(A4 rfl (A4 rfl rfl))
theorem g7u{x0:Int}:plainL [.v (.int .u64 x0)]=true:=(A4 rfl rfl)
theorem h3k{x0:ByteArray}{x1:ByteArray}:plainL [.v (.string x0),.v (.string x1)]=true:=(A4 rfl (A4 rfl rfl))
theorem g8l{x0:C8}{x1:Int}{x2:Int}{x3:A0}:plainL [.agg (K4 x0),.v (.int .i64 x1),.v (.int .i64 x2),.agg (A5 x3)]=true:=(A4 (G3 x0) (A4 rfl (A4 rfl (A4 (A8 x3) rfl))))
theorem g9m{x0:(List (A0 × A0))}{x1:GFn}:plainL [.sl (List.map A9 x0) .no,.clo (.func x1.fn) x1.fi x1.cap]=true:=(A4 (psl (D7 x0)) (A4 (a07 x1) rfl))
theorem g6j{x1:Int}{x2:Int}{x3:Int}{x4:GFn}:List.all [.v (.int .i64 x1),.v (.int .i64 x2),.v (.int .i64 x3),.clo (.func x4.fn) x4.fi x4.cap] okA=true:=(F9 (C4 rfl) (F9 (C4 rfl) (F9 (C4 rfl) (F9 (C4 (a07 x4)) rfl))))
theorem f67{x1:Int}{x2:Int}{x3:GFn}:List.all [.v (.int .i64 x1),.v (.int .i64 x2),.clo (.func x3.fn) x3.fi x3.cap] okA=true:=(F9 (C4 rfl) (F9 (C4 rfl) (F9 (C4 (a07 x3)) rfl)))
theorem e1k{x1:Int}{x2:Int}{x3:Int}{x4:GFn}:List.all [.v (.int .i64 x1),.v (.int .i64 x2),.v (.int .i64 x3),.clo (.func x4.fn) x4.fi x4.cap] okA=true:=(F9 (C4 rfl) (F9 (C4 rfl) (F9 (C4 rfl) (F9 (C4 (a07 x4)) rfl))))
theorem g5s{x0:ByteArray}:plainL [.v (.string x0)]=true:=(A4 rfl rfl)
theorem g5a{x0:Int}:plainL [.v (.int .u64 x0)]=true:=(A4 rfl rfl)
theorem h4l{x0:(List (A0 × A0))}{x1:GFn}:plainL [.sl (List.map A9 x0) .no,.clo (.func x1.fn) x1.fi x1.cap]=true:=(A4 (psl (D7 x0)) (A4 (a07 x1) rfl))
theorem e6a{x1:Int}{x2:Int}{x3:Int}{x4:GFn}:List.all [.v (.int .i64 x1),.v (.int .i64 x2),.v (.int .i64 x3),.clo (.func x4.fn) x4.fi x4.cap] okA=true:=(F9 (C4 rfl) (F9 (C4 rfl) (F9 (C4 rfl) (F9 (C4 (a07 x4)) rfl))))
theorem g6s{x1:Int}{x2:Int}{x3:Int}{x4:GFn}:List.all [.v (.int .i64 x1),.v (.int .i64 x2),.v (.int .i64 x3),.clo (.func x4.fn) x4.fi x4.cap] okA=true:=(F9 (C4 rfl) (F9 (C4 rfl) (F9 (C4 rfl) (F9 (C4 (a07 x4)) rfl))))
theorem e6g{x1:Int}{x2:Int}{x3:Int}{x4:GFn}:List.all [.v (.int .i64 x1),.v (.int .i64 x2),.v (.int .i64 x3),.clo (.func x4.fn) x4.fi x4.cap] okA=true:=(F9 (C4 rfl) (F9 (C4 rfl) (F9 (C4 rfl) (F9 (C4 (a07 x4)) rfl))))
section
attribute [local irreducible] Ok run put d2l br jn pos dr0 dr1 So
attribute [-simp] List.map_take List.map_drop List.map_append List.map_set List.map_replicate List.map_cons List.map_map
attribute [local simp] plain plainL a7y a4l a0e low lowL lowLL L6 G7 G9 G2 J4 G6 G5 G8 L3 S8 a0s T0 a1a J5 S9 F5 H5 P7 H2 A8 E7 N7 D7 O0 E2 P4 K1 Q9 K0 T4 N1 V5 P9 D2 S6 J3 H0 C3 L8 K8 N2 G4 F4 W7 S0 X6 U8 G3 P3 a0b Y4 a45 a19 c4r d8z c7y c7o a8r b05 c7t c7d b76 c1o e5z eFn b70 b4a b29 b4g b7h b3s b4d b2s b6v c1s c2g b2t b7i a84 b4e b23 b3g b2y b31 b3h b3j a2p a5r a5f Y2 a5q a5k a1k a5g a85 c1y b6w b6z b3k b4c b36 b7g b4f b35 b2v b62 c16 c1q b3w b7f a80 b3p b3t b3c b24 b3y b25 b3e a3k a5l a6h Y3 a58 a51 a1j a5t a8u c15 b2p b74 a83 b3i b2w b3q b22 b27 b28 b2x a3j a5m a5o X9 a5i a5y a1l a5p a82 c93
theorem g5b(r:Bool):plain (e5 r)=true:=rfl
theorem b6u(p:A6)(name:ByteArray)(data:ByteArray)(r:Bool)(hw:∃y1,b8m p y1/\((((!y1)||(decide (3000<(data.size:Int))))=true->r=true)/\(((!y1)||(decide (3000<(data.size:Int))))=false->∃y2,b7c y2/\(∃y3,c6r p name data y2 y3/\(((y3.2 !=0)=true->∃y4,b5y y3.1 (⟨0,0,(⟨#[]⟩:ByteArray),([]:(List A0)),([]:(List (A0 × A0))),([]:(List (Int × A0))),([]:(List H1))⟩:A0) y4/\(∃R1:Bool->Prop,(∀bz1:Bool,R1 bz1->(r=bz1))/\((y4=true->∃y5,b2r y5/\(R1 y5))/\(y4=false->R1 false))))/\((y3.2 !=0)=false->∃y6,c5v p name y6/\(∃y7,c62 p name y3.1 y7/\(∃R3:Bool->Prop,(∀bz3:Bool,R3 bz3->((bz3=true->∃y9,b2c p y6.1 y3.1 y9/\(∃y10,b5y y9 y3.1 y10/\((y10=true->∃y11,b2r y11/\(r=y11))/\(y10=false->r=false))))/\(bz3=false->r=false)))/\((((y7.2==0)&&(decide (y7.1=data)))=true->∃y8,c54 p y6.1 y3.1 y8/\(R3 (y8==0)))/\(((y7.2==0)&&(decide (y7.1=data)))=false->R3 false)))))))))):b4x p name data r:=
 fP (KC 10 hw pl9 fun _ hw=>KT 2 4<|KW 2 hw (fun _ hw=>KR 7 hw g5b) fun _ hw=>KD 3 [0]<|KC 3 hw h5q fun _ hw=>KC 0 hw h7k fun _ hw=>KV 4<|KW 11 hw (fun _ hw=>KC 4 hw h5t fun _ hw=>KQ 1 2 kB hw (fun _ hw=>KR 5 hw g5b) (fun _ key _ hw=>KC 0 hw h6n fun _ hw=>KE 1 key hw) fun _ key _ hw=>KE 2 key hw) fun _ hw=>KC 6 hw h8h fun _ hw=>KC 12 hw h7s fun _ hw=>KD 8 [0,1]<|KT 3 4<|KQ 1 6 kB hw (fun _ hw=>KW 1 hw (fun _ hw=>KC 3 hw h6a fun _ hw=>KC 1 hw h5t fun _ hw=>KW 2 hw (fun _ hw=>KC 0 hw h6n fun _ hw=>KR 6 hw g5b) fun _ hw=>KR 7 hw g5b) fun _ hw=>KR 15 hw g5b) (fun _ key _ hw=>KC 3 hw h7m fun _ hw=>KE 2 key hw) fun _ key _ hw=>KE 6 key hw)
theorem h4o(r:Bool):plain (e9 r)=true:=rfl
theorem b5w(p:A6)(r:Bool)(hw:(((decide ((p.Progs.length:Int)<=8))&&(decide ((p.Enums.length:Int)<=8)))=true->∃y1,c2s p y1/\(r=(y1==0)))/\(((decide ((p.Progs.length:Int)<=8))&&(decide ((p.Enums.length:Int)<=8)))=false->r=false)):b8m p r:=
 fP (KL 10 K7 p.Progs<|KT2 2 5 (decide ((p.Progs.length:Int)<=8)) (fun z=>aB (z&&(decide ((p.Enums.length:Int)<=8)))) (fun _ key=>KL 2 X0 p.Enums<|KE2 2 key) (fun _ key=>KE2 5 key)<|KW 1 hw (fun _ hw=>KC 1 hw h8b fun _ hw=>KR 6 hw h4o) fun _ hw=>KR 8 hw h4o)
theorem d26(r:(A0 × A3 × Int)):plain (e10 r)=true:=(c7q (A4 (A8 r.1) (A4 (C3 r.2.1) (A4 rfl rfl))))
def a9d(y17:(Int × A3 × Int))(p:A6)(o_:GOp)(c:A3)(ij5:Int)(r:(A0 × A3 × Int)):Prop:=J Tryz.prog 10 (.ret (e10 r)) 28 [(15,.ptr 6 0),(12,aU y17.1),(13,.ptr 5 0),(7,.ptr 4 0),(6,.ptr 3 0),(5,.ptr 2 0),(4,.ptr 1 0),(3,.ptr 0 0)] ⟨[some (B6 p),some (Q8 o_),some (D5 c),some zV,some [aE,aI 0,aI 0,aI 0,aI 0,aI 0],some (D5 y17.2.1),some [aI o_.Kind,aU ij5,aE,.nil,.nil,.nil,.nil]],[],[]⟩
def a1o(bj4:Bool)(p:A6)(o_:GOp)(c:A3)(r:(A0 × A3 × Int)):Prop:=J Tryz.prog 10 (.ret (e10 r)) 17 [(60,aB bj4),(7,.ptr 4 0),(6,.ptr 3 0),(5,.ptr 2 0),(4,.ptr 1 0),(3,.ptr 0 0)] ⟨[some (B6 p),some (Q8 o_),some (D5 c),some zV,some [aE,aI 0,aI 0,aI 0,aI 0,aI 0]],[],[]⟩
def b2b(bj3:Bool)(o_:GOp)(p:A6)(c:A3)(r:(A0 × A3 × Int)):Prop:=J Tryz.prog 10 (.ret (e10 r)) 14 [(50,aB bj3),(17,aI o_.Kind),(7,.ptr 4 0),(6,.ptr 3 0),(5,.ptr 2 0),(4,.ptr 1 0),(3,.ptr 0 0)] ⟨[some (B6 p),some (Q8 o_),some (D5 c),some zV,some [aE,aI 0,aI 0,aI 0,aI 0,aI 0]],[],[]⟩
theorem c2x(y17:(Int × A3 × Int))(p:A6)(o_:GOp)(c:A3)(ij5:Int)(r:(A0 × A3 × Int))(hw:∃y21,b34 o_.Kind (⟨o_.Kind,ij5,(⟨#[]⟩:ByteArray),([]:(List A0)),([]:(List (A0 × A0))),([]:(List (Int × A0))),([]:(List H1))⟩:A0) y21/\(((!y21)=true->r=((⟨0,0,(⟨#[]⟩:ByteArray),([]:(List A0)),([]:(List (A0 × A0))),([]:(List (Int × A0))),([]:(List H1))⟩:A0),c,6))/\((!y21)=false->∃R4:Bool->Prop,(∀bz4:Bool,R4 bz4->((bz4=true->r=((⟨0,0,(⟨#[]⟩:ByteArray),([]:(List A0)),([]:(List (A0 × A0))),([]:(List (Int × A0))),([]:(List H1))⟩:A0),c,16))/\(bz4=false->r=((⟨o_.Kind,ij5,(⟨#[]⟩:ByteArray),([]:(List A0)),([]:(List (A0 × A0))),([]:(List (Int × A0))),([]:(List H1))⟩:A0),y17.2.1,0))))/\(((o_.Kind==9)=true->∃y22,b0i p o_.Target y17.1 y22/\(R4 (!y22)))/\((o_.Kind==9)=false->R4 false))))):a9d y17 p o_ c ij5 r:=
 KC 6 hw h26 fun _ hw=>KW 3 hw (fun _ hw=>KD 1 [2]<|KV 2<|KR 7 hw d26) fun _ hw=>KQ 9 7 kB hw (fun _ hw=>KW 2 hw (fun _ hw=>KD 1 [2]<|KV 2<|KR 7 hw d26) fun _ hw=>KD 3 [5,6]<|KV 2<|KR 6 hw d26) (fun _ key _ hw=>KC 4 hw h0h fun _ hw=>KE 2 key hw) fun _ key _ hw=>KE 7 key hw
theorem c3r(bj4:Bool)(p:A6)(o_:GOp)(c:A3)(r:(A0 × A3 × Int))(hw:(bj4=true->∃y17,b6j c y17/\(((y17.2.2 !=0)=true->r=((⟨0,0,(⟨#[]⟩:ByteArray),([]:(List A0)),([]:(List (A0 × A0))),([]:(List (Int × A0))),([]:(List H1))⟩:A0),c,y17.2.2))/\((y17.2.2 !=0)=false->(((o_.Kind==2)||(o_.Kind==3))=true->∃y18,c0i y17.1 y18/\(a9d y17 p o_ c (wU y18) r))/\(((o_.Kind==2)||(o_.Kind==3))=false->a9d y17 p o_ c y17.1 r))))/\(bj4=false->r=((⟨0,0,(⟨#[]⟩:ByteArray),([]:(List A0)),([]:(List (A0 × A0))),([]:(List (Int × A0))),([]:(List H1))⟩:A0),c,12))):a1o bj4 p o_ c r:=
 KW 0 hw (fun _ hw=>KC 6 hw h0i fun _ hw=>KW 17 hw (fun _ hw=>KD 1 [2]<|KV 3<|KV 0<|KR 6 hw d26) fun _ hw=>KT 19 4<|KW 2 hw (fun _ hw=>KC 2 hw h8d fun _ hw=>KJ 5 [] hw) fun _ hw=>KJ 2 [] hw) fun _ hw=>KD 1 [2]<|KV 2<|KR 8 hw d26
theorem c32(bj3:Bool)(o_:GOp)(p:A6)(c:A3)(r:(A0 × A3 × Int))(hw:(bj3=true->∃y13,d4l o_.Kind c y13/\(r=(y13.1,y13.2.1,y13.2.2)))/\(bj3=false->((o_.Kind==2)=true->a1o (o_.Kind==2) p o_ c r)/\((o_.Kind==2)=false->((o_.Kind==3)=true->a1o (o_.Kind==3) p o_ c r)/\((o_.Kind==3)=false->((o_.Kind==4)=true->a1o (o_.Kind==4) p o_ c r)/\((o_.Kind==4)=false->((o_.Kind==5)=true->a1o (o_.Kind==5) p o_ c r)/\((o_.Kind==5)=false->a1o (o_.Kind==9) p o_ c r)))))):b2b bj3 o_ p c r:=
 KW 0 hw (fun _ hw=>KC 5 hw h8g fun _ hw=>KR 11 hw d26) fun _ hw=>KW 7 hw (fun _ hw=>KJ 2 [] hw) fun _ hw=>KW 6 hw (fun _ hw=>KJ 2 [] hw) fun _ hw=>KW 6 hw (fun _ hw=>KJ 2 [] hw) fun _ hw=>KW 6 hw (fun _ hw=>KJ 2 [] hw) fun _ hw=>KJ 5 [] hw
theorem d11(p:A6)(o_:GOp)(c:A3)(r:(A0 × A3 × Int))(hw:((o_.Kind==1)=true->∃y1,b7s c y1/\(((y1.2.2 !=0)=true->r=((⟨0,0,(⟨#[]⟩:ByteArray),([]:(List A0)),([]:(List (A0 × A0))),([]:(List (Int × A0))),([]:(List H1))⟩:A0),c,y1.2.2))/\((y1.2.2 !=0)=false->((decide (1<y1.1))=true->r=((⟨0,0,(⟨#[]⟩:ByteArray),([]:(List A0)),([]:(List (A0 × A0))),([]:(List (Int × A0))),([]:(List H1))⟩:A0),c,5))/\((decide (1<y1.1))=false->r=((⟨o_.Kind,(wU y1.1),(⟨#[]⟩:ByteArray),([]:(List A0)),([]:(List (A0 × A0))),([]:(List (Int × A0))),([]:(List H1))⟩:A0),y1.2.1,0)))))/\((o_.Kind==1)=false->((o_.Kind==6)=true->∃y2,c5z c y2/\(r=(y2.1,y2.2.1,y2.2.2)))/\((o_.Kind==6)=false->((o_.Kind==7)=true->b2b (o_.Kind==7) o_ p c r)/\((o_.Kind==7)=false->b2b (o_.Kind==8) o_ p c r)))):c5x p o_ c r:=
 fP (KW 24 hw (fun _ hw=>KC 3 hw h67 fun _ hw=>KW 17 hw (fun _ hw=>KD 1 [2]<|KV 3<|KV 0<|KR 8 hw d26) fun _ hw=>KW 9 hw (fun _ hw=>KD 1 [2]<|KV 2<|KR 9 hw d26) fun _ hw=>KD 3 [1,5]<|KV 6<|KR 8 hw d26) fun _ hw=>KW 6 hw (fun _ hw=>KC 3 hw h7t fun _ hw=>KR 11 hw d26) fun _ hw=>KW 7 hw (fun _ hw=>KJ 2 [] hw) fun _ hw=>KJ 5 [] hw)
theorem e3z(r:ByteArray):plain (e12 r)=true:=rfl
def c0m(bj3:Bool)(v:A0)(r:ByteArray):Prop:=J Tryz.prog 12 (.ret (e12 r)) 13 [(31,aB bj3),(1,.ptr 0 0)] ⟨[some (A5 v)],[],[]⟩
def c0n(bj2:Bool)(v:A0)(r:ByteArray):Prop:=J Tryz.prog 12 (.ret (e12 r)) 8 [(17,aB bj2),(9,aI v.Kind),(1,.ptr 0 0)] ⟨[some (A5 v)],[],[]⟩
theorem c98(bj3:Bool)(v:A0)(r:ByteArray)(hw:(bj3=true->∃y17,a3x (wU (v.Text.size:Int)) y17/\(((y17.size+v.Text.size:Nat):Int)<=9223372036854775807/\(r=(y17++v.Text))))/\(bj3=false->∃y18,a3x v.Bits y18/\(r=y18))):c0m bj3 v r:=
 KW 0 hw (fun _ hw=>KD 1 [0]<|KC 4 hw g30 fun _ hw=>h25 2 hw fun hw=>KR 7 hw e3z) fun _ hw=>KC 7 hw g30 fun _ hw=>KR 4 hw e3z
theorem c97(bj2:Bool)(v:A0)(r:ByteArray)(hw:(bj2=true->∃y11,c6e (wI v.Bits) y11/\(∃y12,a3x y11 y12/\(r=y12)))/\(bj2=false->((v.Kind==6)=true->∃y13,a89 v y13/\(∃y14,b9o y13.Bits y14/\(r=y14)))/\((v.Kind==6)=false->((v.Kind==7)=true->c0m (v.Kind==7) v r)/\((v.Kind==7)=false->c0m (v.Kind==8) v r)))):c0n bj2 v r:=
 KW 0 hw (fun _ hw=>KC 5 hw h79 fun _ hw=>KC 0 hw g30 fun _ hw=>KR 6 hw e3z) fun _ hw=>KW 6 hw (fun _ hw=>KC 3 hw g85 fun _ hw=>KC 1 hw h71 fun _ hw=>KR 6 hw e3z) fun _ hw=>KW 7 hw (fun _ hw=>KJ 2 [] hw) fun _ hw=>KJ 5 [] hw
theorem d8o(v:A0)(r:ByteArray)(hw:∃y1,b34 v.Kind v y1/\(((!y1)=true->r=(⟨#[]⟩:ByteArray))/\((!y1)=false->((v.Kind==1)=true->∃y2,([(IntKind.u8.wrap v.Bits)]:List Int)=bI y2/\(r=y2))/\((v.Kind==1)=false->((v.Kind==2)=true->c0n (v.Kind==2) v r)/\((v.Kind==2)=false->c0n (v.Kind==3) v r))))):d4p v r:=
 fP (KC 12 hw h26 fun _ hw=>KW 3 hw (fun _ hw=>KR 7 hw e3z) fun _ hw=>KW 16 hw (fun _ hw=>KS 6 hw fun _ hw=>KR 6 hw e3z) fun _ hw=>KW 7 hw (fun _ hw=>KJ 2 [] hw) fun _ hw=>KJ 5 [] hw)
theorem h3l(r:Bool):plain (e13 r)=true:=rfl
theorem d1p(a:A0)(b:A0)(r:Bool)(hw:∃y1,b7r a b y1/\(r=y1)):b5y a b r:=
 fP (KC 11 hw h65 fun _ hw=>KR 4 hw h3l)
theorem g5y(r:ByteArray):plain (e14 r)=true:=rfl
def c7i(bj3:Bool)(v:A0)(r:ByteArray):Prop:=J Tryz.prog 14 (.ret (e14 r)) 13 [(31,aB bj3),(1,.ptr 0 0)] ⟨[some (A5 v)],[],[]⟩
theorem c6a(bj3:Bool)(v:A0)(r:ByteArray)(hw:(bj3=true->∃y17,c36 (wU (v.Text.size:Int)) y17/\(((y17.size+v.Text.size:Nat):Int)<=9223372036854775807/\(r=(y17++v.Text))))/\(bj3=false->∃y18,c36 v.Bits y18/\(r=y18))):c7i bj3 v r:=
 KW 0 hw (fun _ hw=>KD 1 [0]<|KC 4 hw h5e fun _ hw=>h25 2 hw fun hw=>KR 7 hw g5y) fun _ hw=>KC 7 hw h5e fun _ hw=>KR 4 hw g5y
theorem f2b(r:(ByteArray × Int)):plain (e18 r)=true:=(c7q (A4 rfl (A4 rfl rfl)))
theorem d07(p:A6)(name:ByteArray)(v:A0)(r:(ByteArray × Int))(hw:∃y1,c3g p name y1/\(((!y1.2)=true->r=((⟨#[]⟩:ByteArray),10))/\((!y1.2)=false->∃y2,d2a p y1.1 v y2/\(((y2 !=0)=true->r=((⟨#[]⟩:ByteArray),y2))/\((y2 !=0)=false->∃y3,a7j v y3/\((y3=true->r=((⟨#[]⟩:ByteArray),18))/\(y3=false->∃y4,b3a p y1.1 v y4/\(∃y5,a0k (⟨p,([]:(List Int))⟩:E4) y1.1 y4 y5/\(((decide (65536<(y5.out.length:Int)))=true->r=((⟨#[]⟩:ByteArray),3))/\((decide (65536<(y5.out.length:Int)))=false->∃y6,y5.out=bI y6/\(r=(y6,0)))))))))))):c62 p name v r:=
 fP (KC 12 hw h5r fun _ hw=>KW 14 hw (fun _ hw=>KR 8 hw f2b) fun _ hw=>KC 8 hw h77 fun _ hw=>KW 9 hw (fun _ hw=>KR 9 hw f2b) fun _ hw=>KC 6 hw g9a fun _ hw=>KW 2 hw (fun _ hw=>KR 8 hw f2b) fun _ hw=>KC 17 hw h6x fun _ hw=>KIN 0 2 1 hw g6k fun y5 hw=>KL 9 d2y y5.out<|KW 3 hw (fun _ hw=>KR 8 hw f2b) fun _ hw=>KS 8 hw fun _ hw=>KR 5 hw f2b)
theorem g6e(r:(Int × Bool)):plain (e19 r)=true:=(c7q (A4 rfl (A4 rfl rfl)))
def b1y(ij1:Int)(name:ByteArray)(p:A6)(r:(Int × Bool)):Prop:=J Tryz.prog 19 (.ret (e19 r)) 3 [(6,aI ij1),(2,.ptr 0 0),(1,aS name)] ⟨[some (B6 p)],[],[]⟩
theorem a7d(ij1:Int)(name:ByteArray)(p:A6)(r:(Int × Bool))(hw:((decide (ij1<(p.Progs.length:Int)))=true->∃y2,p.Progs[ij1.toNat]? =some y2/\0<=ij1/\(((decide (y2.Name=name))=true->r=(ij1,true))/\((decide (y2.Name=name))=false->b1y (wI (ij1+1)) name p r)))/\((decide (ij1<(p.Progs.length:Int)))=false->r=(0,false))):b1y ij1 name p r:=
 KL 7 K7 p.Progs<|KW 3 hw (fun _ hw=>KI 9 K7 hw fun _ hw=>KW 6 hw (fun _ hw=>KR 13 hw g6e) fun _ hw=>KJ 9 [] hw) fun _ hw=>KR 12 hw g6e
theorem d0g(p:A6)(name:ByteArray)(r:(Int × Bool))(hw:b1y 0 name p r):c5v p name r:=
 fP (KJ 15 [] hw)
theorem f1t(r:(A0 × Int)):plain (e20 r)=true:=(c7q (A4 (A8 r.1) (A4 rfl rfl)))
theorem a7z(p:A6)(name:ByteArray)(data:ByteArray)(l:a04)(r:(A0 × Int))(hw:∃y1,c3g p name y1/\(((!y1.2)=true->r=((⟨0,0,(⟨#[]⟩:ByteArray),([]:(List A0)),([]:(List (A0 × A0))),([]:(List (Int × A0))),([]:(List H1))⟩:A0),10))/\((!y1.2)=false->∃y2,d0h data l y2/\(((y2.2 !=0)=true->r=((⟨0,0,(⟨#[]⟩:ByteArray),([]:(List A0)),([]:(List (A0 × A0))),([]:(List (Int × A0))),([]:(List H1))⟩:A0),y2.2))/\((y2.2 !=0)=false->∃y3,W3 (⟨p,y2.1⟩:B0) y1.1 y3/\(((y3.2.2 !=0)=true->r=((⟨0,0,(⟨#[]⟩:ByteArray),([]:(List A0)),([]:(List (A0 × A0))),([]:(List (Int × A0))),([]:(List H1))⟩:A0),y3.2.2))/\((y3.2.2 !=0)=false->∃y4,a81 y3.1.c y4/\(((decide (0<y4))=true->r=((⟨0,0,(⟨#[]⟩:ByteArray),([]:(List A0)),([]:(List (A0 × A0))),([]:(List (Int × A0))),([]:(List H1))⟩:A0),18))/\((decide (0<y4))=false->r=(y3.2.1,0)))))))))):c6r p name data l r:=
 fP (KC 12 hw h5r fun _ hw=>KW 14 hw (fun _ hw=>KR 9 hw f1t) fun _ hw=>KC 6 hw h7w fun _ hw=>KW 15 hw (fun _ hw=>KR 10 hw f1t) fun _ hw=>KIO 15 hw g5l fun _ hw=>KW 15 hw (fun _ hw=>KR 10 hw f1t) fun _ hw=>KC 9 hw g86 fun _ hw=>KW 3 hw (fun _ hw=>KR 9 hw f1t) fun _ hw=>KR 10 hw f1t)
theorem h1w(r:a04):plain (e21 r)=true:=(K8 r)
theorem c8d(r:a04)(hw:r=(⟨65536,16,4096,4096⟩:a04)):b7c r:=
 fP (KR 12 hw h1w)
theorem g40(r:A0):plain (e22 r)=true:=(A8 r)
def a1h(ij5:Int)(ij3:Int)(prog:Int)(p:A6)(v:A0)(lj6:(List (Int × A0)))(y1:(List H1))(y15:GOp)(r:A0):Prop:=J Tryz.prog 22 (.ret (e22 r)) 13 [(10,aI ij5),(9,.ptr 4 0),(8,aI ij3),(7,.ptr 3 0),(6,.ptr 2 0),(5,.ptr 1 0),(3,.ptr 0 0),(1,aI prog)] ⟨[some (B6 p),some (A5 v),some zV,some [aI 10,aU 0,aE,.nil,.nil,.sl (List.map B3 lj6) (.own 0),.sl (List.map I3 y1) .no],some (Q8 y15)],[(lj6.length,8)],[]⟩
def a7a(ij3:Int)(prog:Int)(p:A6)(v:A0)(lj4:(List (Int × A0)))(y1:(List H1))(r:A0):Prop:=J Tryz.prog 22 (.ret (e22 r)) 7 [(8,aI ij3),(7,.ptr 3 0),(6,.ptr 2 0),(5,.ptr 1 0),(3,.ptr 0 0),(1,aI prog)] ⟨[some (B6 p),some (A5 v),some zV,some [aI 10,aU 0,aE,.nil,.nil,.sl (List.map B3 lj4) (.own 0),.sl (List.map I3 y1) .no]],[(lj4.length,8)],[]⟩
theorem b6i{ij5:Int}{ij3:Int}{prog:Int}{p:A6}{v:A0}{lj6:(List (Int × A0))}{y1:(List H1)}{y15:GOp}:a7y [true,true,true,true,true] 1 [(10,aI ij5),(9,.ptr 4 0),(8,aI ij3),(7,.ptr 3 0),(6,.ptr 2 0),(5,.ptr 1 0),(3,.ptr 0 0),(1,aI prog)]=true/\a4l [true,true,true,true,true] 1 [some (B6 p),some (A5 v),some zV,some [aI 10,aU 0,aE,.nil,.nil,.sl (List.map B3 lj6) (.own 0),.sl (List.map I3 y1) .no],some (Q8 y15)]=true:=⟨by first|rfl|simp,by first|rfl|simp⟩
theorem c6k{ij3:Int}{prog:Int}{p:A6}{v:A0}{lj4:(List (Int × A0))}{y1:(List H1)}:a7y [true,true,true,true] 1 [(8,aI ij3),(7,.ptr 3 0),(6,.ptr 2 0),(5,.ptr 1 0),(3,.ptr 0 0),(1,aI prog)]=true/\a4l [true,true,true,true] 1 [some (B6 p),some (A5 v),some zV,some [aI 10,aU 0,aE,.nil,.nil,.sl (List.map B3 lj4) (.own 0),.sl (List.map I3 y1) .no]]=true:=⟨by first|rfl|simp,by first|rfl|simp⟩
theorem b46(ij5:Int)(ij3:Int)(prog:Int)(p:A6)(v:A0)(lj6:(List (Int × A0)))(y1:(List H1))(y15:GOp)(r:A0)(hw:((decide (ij5<(v.Slots.length:Int)))=true->∃y20,v.Slots[ij5.toNat]? =some y20/\0<=ij5/\(((y20.1 !=y15.Num)=true->a1h (wI (ij5+1)) ij3 prog p v lj6 y1 y15 r)/\((y20.1 !=y15.Num)=false->∃y21,v.Slots[ij5.toNat]? =some y21/\0<=ij5/\(∃y22,b8t p y15 y21.2 y22/\(∃R4:Bool->Prop,(∀bz4:Bool,R4 bz4->((bz4=true->(lj6.length+[(y15.Num,y22)].length)*136<=140737488355328/\(a1h (wI (ij5+1)) ij3 prog p v (lj6++[(y15.Num,y22)]) y1 y15 r))/\(bz4=false->a1h (wI (ij5+1)) ij3 prog p v lj6 y1 y15 r)))/\(((decide (y15.Card<3))=true->R4 true)/\((decide (y15.Card<3))=false->∃y23,c2u y22 y23/\(R4 (!y23)))))))))/\((decide (ij5<(v.Slots.length:Int)))=false->a7a (wI (ij3+1)) prog p v lj6 y1 r)):a1h ij5 ij3 prog p v lj6 y1 y15 r:=
 KL 7 C0 v.Slots<|KW 3 hw (fun _ hw=>KD 6 [1,4]<|KI 3 C0 hw fun _ hw=>KW 8 hw (fun _ hw=>KJ 10 [] hw) fun _ hw=>KD 3 [0,1,4]<|KI 5 C0 hw fun _ hw=>KC 2 hw h8c fun _ hw=>KQ 11 4 kB hw (fun _ hw=>KW 2 hw (fun _ hw=>KA 8 C0 hw mE fun hw=>KJl 11 [] hw b6i) fun _ hw=>KJl 9 [] hw b6i) (fun _ key _ hw=>KE 4 key hw) fun _ key _ hw=>KC 1 hw h73 fun _ hw=>KE 2 key hw) fun _ hw=>KJl 12 [] hw c6k
theorem a65(ij3:Int)(prog:Int)(p:A6)(v:A0)(lj4:(List (Int × A0)))(y1:(List H1))(r:A0)(hw:∃y13,p.Progs[prog.toNat]? =some y13/\0<=prog/\(((decide (ij3<(y13.Ops.length:Int)))=true->∃y14,p.Progs[prog.toNat]? =some y14/\0<=prog/\(∃y15,y14.Ops[ij3.toNat]? =some y15/\0<=ij3/\(a1h 0 ij3 prog p v lj4 y1 y15 r)))/\((decide (ij3<(y13.Ops.length:Int)))=false->r=(⟨10,0,(⟨#[]⟩:ByteArray),([]:(List A0)),([]:(List (A0 × A0))),lj4,y1⟩:A0)))):a7a ij3 prog p v lj4 y1 r:=
 KI 8 K7 hw fun y13 hw=>KL 2 b7p y13.Ops<|KW 3 hw (fun _ hw=>KI 9 K7 hw fun _ hw=>KI 3 b7p hw fun _ hw=>KJ 12 [] hw) fun _ hw=>KR 12 hw g40
theorem d2h(p:A6)(prog:Int)(v:A0)(r:A0)(hw:(((decide (prog<0))||(decide ((p.Progs.length:Int)<=prog)))=true->r=(⟨0,0,(⟨#[]⟩:ByteArray),([]:(List A0)),([]:(List (A0 × A0))),([]:(List (Int × A0))),([]:(List H1))⟩:A0))/\(((decide (prog<0))||(decide ((p.Progs.length:Int)<=prog)))=false->∃y1,c64 v.Raws y1/\(a7a 0 prog p v ([]:List (Int × A0)) y1 r))):b2c p prog v r:=
 fP (KT2 13 6 (decide (prog<0)) (fun z=>aB (z||(decide ((p.Progs.length:Int)<=prog)))) (fun _ key=>KE2 6 key) (fun _ key=>KL 3 K7 p.Progs<|KE2 2 key)<|KW 2 hw (fun _ hw=>KR 8 hw g40) fun _ hw=>KC 6 hw h74 fun _ hw=>KOb 13 3 5 8<|KJ 0 [] hw)
theorem f5x(r:Int):plain (e23 r)=true:=rfl
theorem d0v(p:A6)(prog:Int)(v:A0)(r:Int)(hw:(((decide (prog<0))||(decide ((p.Progs.length:Int)<=prog)))=true->r=10)/\(((decide (prog<0))||(decide ((p.Progs.length:Int)<=prog)))=false->∃y1,a3n p prog v 1 y1/\(((y1 !=0)=true->r=y1)/\((y1 !=0)=false->∃y2,Y1 v y2/\(((decide (4096<y2))=true->r=3)/\((decide (4096<y2))=false->r=0)))))):c54 p prog v r:=
 fP (KT2 13 6 (decide (prog<0)) (fun z=>aB (z||(decide ((p.Progs.length:Int)<=prog)))) (fun _ key=>KE2 6 key) (fun _ key=>KL 3 K7 p.Progs<|KE2 2 key)<|KW 2 hw (fun _ hw=>KR 7 hw f5x) fun _ hw=>KC 8 hw h5u fun _ hw=>KW 9 hw (fun _ hw=>KR 8 hw f5x) fun _ hw=>KC 6 hw g6w fun _ hw=>KW 3 hw (fun _ hw=>KR 7 hw f5x) fun _ hw=>KR 8 hw f5x)
theorem h2a(r:Int):plain (e25 r)=true:=rfl
def a7c(ij13:Int)(ij14:Int)(v:A0)(r:Int):Prop:=J Tryz.prog 25 (.ret (e25 r)) 16 [(6,aI ij13),(3,aI ij14),(1,.ptr 0 0)] ⟨[some (A5 v)],[],[]⟩
def a75(ij11:Int)(ij12:Int)(v:A0)(r:Int):Prop:=J Tryz.prog 25 (.ret (e25 r)) 10 [(5,aI ij11),(3,aI ij12),(1,.ptr 0 0)] ⟨[some (A5 v)],[],[]⟩
def a9t(ij7:Int)(ij8:Int)(v:A0)(r:Int):Prop:=J Tryz.prog 25 (.ret (e25 r)) 4 [(4,aI ij7),(3,aI ij8),(1,.ptr 0 0)] ⟨[some (A5 v)],[],[]⟩
theorem c0z(ij13:Int)(ij14:Int)(v:A0)(r:Int)(hw:((decide (ij13<(v.Slots.length:Int)))=true->∃y29,v.Slots[ij13.toNat]? =some y29/\0<=ij13/\(∃y30,Y1 y29.2 y30/\(a7c (wI (ij13+1)) (wI (ij14+y30)) v r)))/\((decide (ij13<(v.Slots.length:Int)))=false->r=ij14)):a7c ij13 ij14 v r:=
 KL 7 C0 v.Slots<|KW 3 hw (fun _ hw=>KI 9 C0 hw fun _ hw=>KC 2 hw g6w fun _ hw=>KJ 11 [] hw) fun _ hw=>KR 12 hw h2a
theorem c0u(ij11:Int)(ij12:Int)(v:A0)(r:Int)(hw:((decide (ij11<(v.Pairs.length:Int)))=true->∃y31,v.Pairs[ij11.toNat]? =some y31/\0<=ij11/\(∃y32,Y1 y31.1 y32/\(∃y33,v.Pairs[ij11.toNat]? =some y33/\0<=ij11/\(∃y34,Y1 y33.2 y34/\(a75 (wI (ij11+1)) (wI (ij12+(wI (y32+y34)))) v r)))))/\((decide (ij11<(v.Pairs.length:Int)))=false->a7c 0 ij12 v r)):a75 ij11 ij12 v r:=
 KL 7 B9 v.Pairs<|KW 3 hw (fun _ hw=>KD 4 [0]<|KI 4 B9 hw fun _ hw=>KC 2 hw g6w fun _ hw=>KI 3 B9 hw fun _ hw=>KC 2 hw g6w fun _ hw=>KJ 13 [] hw) fun _ hw=>KJ 13 [] hw
theorem c2b(ij7:Int)(ij8:Int)(v:A0)(r:Int)(hw:((decide (ij7<(v.List_.length:Int)))=true->∃y35,v.List_[ij7.toNat]? =some y35/\0<=ij7/\(∃y36,Y1 y35 y36/\(a9t (wI (ij7+1)) (wI (ij8+y36)) v r)))/\((decide (ij7<(v.List_.length:Int)))=false->a75 0 ij8 v r)):a9t ij7 ij8 v r:=
 KL 7 F7 v.List_<|KW 3 hw (fun _ hw=>KI 9 F7 hw fun _ hw=>KC 1 hw g6w fun _ hw=>KJ 11 [] hw) fun _ hw=>KJ 13 [] hw
theorem c8a(v:A0)(r:Int)(hw:a9t 0 (wI (1+(v.Raws.length:Int))) v r):Y1 v r:=
 fP (KL 10 a6w v.Raws<|KJ 12 [] hw)
theorem d7n(r:Int):plain (e30 r)=true:=rfl
theorem c8n(p:A6)(r:Int)(hw:∃y1,b9q p y1/\(((!y1)=true->r=3)/\((!y1)=false->∃y2,c1j p y2/\(((!y2)=true->r=8)/\((!y2)=false->∃y3,b7k p y3/\(((!y3)=true->r=11)/\((!y3)=false->∃y4,b9v p y4/\(((!y4)=true->r=9)/\((!y4)=false->∃y5,b9j p y5/\(((!y5)=true->r=6)/\((!y5)=false->∃y6,b3v p y6/\(((!y6)=true->r=1)/\((!y6)=false->∃y7,b9l p y7/\(((!y7)=true->r=19)/\((!y7)=false->r=0))))))))))))))):c2s p r:=
 fP (KC 11 hw h7g fun _ hw=>KW 4 hw (fun _ hw=>KR 8 hw d7n) fun _ hw=>KC 3 hw h75 fun _ hw=>KW 4 hw (fun _ hw=>KR 8 hw d7n) fun _ hw=>KC 3 hw h7j fun _ hw=>KW 4 hw (fun _ hw=>KR 8 hw d7n) fun _ hw=>KC 3 hw h70 fun _ hw=>KW 4 hw (fun _ hw=>KR 8 hw d7n) fun _ hw=>KC 3 hw h8f fun _ hw=>KW 4 hw (fun _ hw=>KR 8 hw d7n) fun _ hw=>KC 3 hw h7x fun _ hw=>KW 4 hw (fun _ hw=>KR 8 hw d7n) fun _ hw=>KC 3 hw h8e fun _ hw=>KW 4 hw (fun _ hw=>KR 8 hw d7n) fun _ hw=>KR 9 hw d7n)
theorem g4u(r:(Int × A3 × Int)):plain (e31 r)=true:=(c7q (A4 rfl (A4 (C3 r.2.1) (A4 rfl rfl))))
theorem c8p(c:A3)(r:(Int × A3 × Int))(hw:∃y1,a81 c y1/\(((decide (y1<1))=true->r=(0,c,4))/\((decide (y1<1))=false->(0<=c.At/\c.At<(c.Data.size:Int))/\(∃y2,a6u c 1 y2/\(r=((E9 c.Data c.At.toNat),y2,0)))))):b7s c r:=
 fP (KC 12 hw g86 fun _ hw=>KW 3 hw (fun _ hw=>KD 1 [0]<|KR 9 hw g4u) fun _ hw=>KD 3 [0]<|KIS 4 hw fun hw=>KC 1 hw g9i fun _ hw=>KR 7 hw g4u)
theorem g3l(r:(A0 × A3 × Int)):plain (e32 r)=true:=(c7q (A4 (A8 r.1) (A4 (C3 r.2.1) (A4 rfl rfl))))
theorem d01(c:A3)(r:(A0 × A3 × Int))(hw:∃y1,b82 c y1/\(((y1.2.2 !=0)=true->r=((⟨0,0,(⟨#[]⟩:ByteArray),([]:(List A0)),([]:(List (A0 × A0))),([]:(List (Int × A0))),([]:(List H1))⟩:A0),c,y1.2.2))/\((y1.2.2 !=0)=false->∃y2,a89 (⟨6,y1.1,(⟨#[]⟩:ByteArray),([]:(List A0)),([]:(List (A0 × A0))),([]:(List (Int × A0))),([]:(List H1))⟩:A0) y2/\(((y2.Bits !=y1.1)=true->r=((⟨0,0,(⟨#[]⟩:ByteArray),([]:(List A0)),([]:(List (A0 × A0))),([]:(List (Int × A0))),([]:(List H1))⟩:A0),c,5))/\((y2.Bits !=y1.1)=false->r=((⟨6,y1.1,(⟨#[]⟩:ByteArray),([]:(List A0)),([]:(List (A0 × A0))),([]:(List (Int × A0))),([]:(List H1))⟩:A0),y1.2.1,0)))))):c5z c r:=
 fP (KC 11 hw h7a fun _ hw=>KW 17 hw (fun _ hw=>KD 1 [0]<|KV 3<|KV 0<|KR 6 hw g3l) fun _ hw=>KC 14 hw g85 fun _ hw=>KW 5 hw (fun _ hw=>KD 1 [0]<|KV 2<|KR 7 hw g3l) fun _ hw=>KD 3 [3,4]<|KV 2<|KR 6 hw g3l)
theorem e9h(r:(A0 × A3 × Int)):plain (e33 r)=true:=(c7q (A4 (A8 r.1) (A4 (C3 r.2.1) (A4 rfl rfl))))
theorem d40(kind:Int)(c:A3)(r:(A0 × A3 × Int))(hw:∃y1,b6j c y1/\(((y1.2.2 !=0)=true->r=((⟨0,0,(⟨#[]⟩:ByteArray),([]:(List A0)),([]:(List (A0 × A0))),([]:(List (Int × A0))),([]:(List H1))⟩:A0),c,y1.2.2))/\((y1.2.2 !=0)=false->∃y2,a81 y1.2.1 y2/\(((decide ((wU y2)<y1.1))=true->r=((⟨0,0,(⟨#[]⟩:ByteArray),([]:(List A0)),([]:(List (A0 × A0))),([]:(List (Int × A0))),([]:(List H1))⟩:A0),c,4))/\((decide ((wU y2)<y1.1))=false->∃y3,c2y y1.2.1 (wI y1.1) y3/\(((y3.2.2 !=0)=true->r=((⟨0,0,(⟨#[]⟩:ByteArray),([]:(List A0)),([]:(List (A0 × A0))),([]:(List (Int × A0))),([]:(List H1))⟩:A0),c,y3.2.2))/\((y3.2.2 !=0)=false->∃R1:Bool->Prop,(∀bz1:Bool,R1 bz1->((bz1=true->r=((⟨0,0,(⟨#[]⟩:ByteArray),([]:(List A0)),([]:(List (A0 × A0))),([]:(List (Int × A0))),([]:(List H1))⟩:A0),c,7))/\(bz1=false->r=((⟨kind,0,y3.1,([]:(List A0)),([]:(List (A0 × A0))),([]:(List (Int × A0))),([]:(List H1))⟩:A0),y3.2.1,0))))/\(((kind==7)=true->∃y4,b8x y3.1 y4/\(R1 (!y4)))/\((kind==7)=false->R1 false))))))))):d4l kind c r:=
 fP (KC 11 hw h0i fun _ hw=>KW 17 hw (fun _ hw=>KD 1 [0]<|KV 3<|KV 0<|KR 6 hw e9h) fun _ hw=>KC 7 hw g86 fun _ hw=>KW 4 hw (fun _ hw=>KD 1 [0]<|KV 2<|KR 7 hw e9h) fun _ hw=>KC 7 hw h7v fun _ hw=>KW 16 hw (fun _ hw=>KD 1 [0]<|KV 3<|KV 0<|KR 6 hw e9h) fun _ hw=>KQ 8 4 kB hw (fun _ hw=>KW 2 hw (fun _ hw=>KD 1 [0]<|KV 2<|KR 7 hw e9h) fun _ hw=>KD 3 [3]<|KV 4<|KR 6 hw e9h) (fun _ key _ hw=>KC 1 hw h2k fun _ hw=>KE 2 key hw) fun _ key _ hw=>KE 4 key hw)
theorem g3r(r:(Int × A3 × Int)):plain (e34 r)=true:=(c7q (A4 rfl (A4 (C3 r.2.1) (A4 rfl rfl))))
theorem d00(c:A3)(r:(Int × A3 × Int))(hw:∃y1,b68 c y1/\(((y1.2.2 !=0)=true->r=(0,c,y1.2.2))/\((y1.2.2 !=0)=false->∃y2,c6s y1.1 y2/\((((wI (y1.2.1.At - c.At)) !=y2)=true->r=(0,c,5))/\(((wI (y1.2.1.At - c.At)) !=y2)=false->r=(y1.1,y1.2.1,0)))))):b6j c r:=
 fP (KC 11 hw h7l fun _ hw=>KW 17 hw (fun _ hw=>KD 1 [0]<|KV 3<|KR 6 hw g3r) fun _ hw=>KD 4 [0,2]<|KC 6 hw h7c fun _ hw=>KW 4 hw (fun _ hw=>KD 1 [0]<|KR 9 hw g3r) fun _ hw=>KD 3 [2]<|KR 9 hw g3r)
theorem h36(r:Int):plain (e35 r)=true:=rfl
theorem c99(u:Int)(r:Int)(hw:r=(F1 .xor .i64 (wI (u.fdiv (2 ^ min (1:Int).toNat IntKind.u64.bits))) (wI (0 - (wI (F1 .and .u64 u 1)))))):c0i u r:=
 fP (KR 19 hw h36)
theorem g0o(r:Bool):plain (e36 r)=true:=rfl
theorem c80(kind:Int)(v:A0)(r:Bool)(hw:∃y1,b89 kind y1/\(∃R1:Bool->Prop,(∀bz1:Bool,R1 bz1->(∃R2:Bool->Prop,(∀bz2:Bool,R2 bz2->(((bz2||(decide (4096<(v.Text.size:Int))))=true->r=false)/\((bz2||(decide (4096<(v.Text.size:Int))))=false->((kind !=7)=true->r=true)/\((kind !=7)=false->∃y4,b8x v.Text y4/\(r=y4)))))/\((bz1=true->R2 true)/\(bz1=false->∃y3,b6r kind v.Bits y3/\(R2 (!y3))))))/\((((!y1)||(v.Kind !=kind))=true->R1 true)/\(((!y1)||(v.Kind !=kind))=false->∃y2,b65 v y2/\(R1 (!y2)))))):b34 kind v r:=
 fP (KC 10 hw g89 fun _ hw=>KT 2 5<|KQ 1 4 kB hw (fun _ hw=>KQ 1 6 kB hw (fun _ hw=>KT 1 5<|KW 2 hw (fun _ hw=>KR 7 hw g0o) fun _ hw=>KW 7 hw (fun _ hw=>KR 8 hw g0o) fun _ hw=>KC 2 hw h2k fun _ hw=>KR 5 hw g0o) (fun _ key _ hw=>KE 6 key hw) fun _ key _ hw=>KC 3 hw h7p fun _ hw=>KE 2 key hw) (fun _ key _ hw=>KE 4 key hw) fun _ key _ hw=>KC 1 hw h5b fun _ hw=>KE 2 key hw)
theorem g01(r:Bool):plain (e37 r)=true:=rfl
theorem c6p(p:A6)(enum:Int)(num:Int)(r:Bool)(hw:((((decide (enum<0))||(decide ((p.Enums.length:Int)<=enum)))||(decide (2147483647<num)))=true->r=false)/\((((decide (enum<0))||(decide ((p.Enums.length:Int)<=enum)))||(decide (2147483647<num)))=false->∃y1,p.Enums[enum.toNat]? =some y1/\0<=enum/\((y1.Open=true->r=true)/\(y1.Open=false->∃y2,a1d y1.Items (⟨86,[],[.elt [aU num] 0],by simp⟩:GFn) y2/\(r=y2))))):b0i p enum num r:=
 fP (KT2 13 6 (decide (enum<0)) (fun z=>aB (z||(decide ((p.Enums.length:Int)<=enum)))) (fun _ key=>KE2 6 key) (fun _ key=>KL 3 X0 p.Enums<|KE2 2 key)<|KT 1 3<|KW 2 hw (fun _ hw=>KR 7 hw g01) fun _ hw=>KI 7 X0 hw fun y1 hw=>KFz 6 1 [true,false,true] 0 [(7,.ptr 2 0),(5,.elt [aU num] 0)] [some (B6 p),none,some (S5 y1)] ⟨by first|rfl|simp,by first|rfl|simp⟩<|KW 4 hw (fun _ hw=>KR 9 hw g01) fun _ hw=>KC 3 hw h7e fun _ hw=>KR 5 hw g01)
theorem g1i(r:A0):plain (e41 r)=true:=(A8 r)
theorem c92(v:A0)(r:A0)(hw:((v.Kind==6)=true->∃y1,b71 v.Bits y1/\(((y1==0)=true->r=(⟨v.Kind,9221120237041090560,v.Text,v.List_,v.Pairs,v.Slots,v.Raws⟩:A0))/\((y1==0)=false->r=v)))/\((v.Kind==6)=false->r=v)):c0l v r:=
 fP (KW 13 hw (fun _ hw=>KC 2 hw h43 fun _ hw=>KW 4 hw (fun _ hw=>KR 12 hw g1i) fun _ hw=>KR 9 hw g1i) fun _ hw=>KR 17 hw g1i)
theorem h1h(r:Bool):plain (e42 r)=true:=rfl
theorem b6y(kind:Int)(r:Bool)(hw:r=((decide (1<=kind))&&(decide (kind<=9)))):c9o kind r:=
 fP (KT 10 3<|KR 4 hw h1h)
theorem g8n(r:Int):plain (e44 r)=true:=rfl
theorem d24(u:Int)(r:Int)(hw:(((u.tmod 2)==0)=true->r=(wI (wU (u.tdiv 2))))/\(((u.tmod 2)==0)=false->r=(wI ((wI (0 - (wI (wU (u.tdiv 2))))) - 1)))):c9v u r:=
 fP (KW 13 hw (fun _ hw=>KR 10 hw g8n) fun _ hw=>KR 13 hw g8n)
theorem d7w(r:Bool):plain (e45 r)=true:=rfl
theorem d2c(kind:Int)(v:A0)(r:Bool)(hw:∃y1,c9o kind y1/\(∃R1:Bool->Prop,(∀bz1:Bool,R1 bz1->((bz1=true->r=false)/\(bz1=false->∃y3,a9b kind y3/\((y3=true->∃R2:Bool->Prop,(∀bz2:Bool,R2 bz2->(r=bz2))/\((((v.Bits==0)&&(decide ((v.Text.size:Int)<=4096)))=true->∃R3:Bool->Prop,(∀bz3:Bool,R3 bz3->(R2 bz3))/\(((kind==8)=true->R3 true)/\((kind==8)=false->∃y4,b2o v.Text y4/\(R3 y4))))/\(((v.Bits==0)&&(decide ((v.Text.size:Int)<=4096)))=false->R2 false)))/\(y3=false->((!(decide (v.Text=(⟨#[]⟩:ByteArray))))=true->r=false)/\((!(decide (v.Text=(⟨#[]⟩:ByteArray))))=false->((kind==1)=true->r=(decide (v.Bits<=1)))/\((kind==1)=false->((kind==2)=true->r=((decide ((-2147483648)<=(wI v.Bits)))&&(decide ((wI v.Bits)<=2147483647))))/\((kind==2)=false->((kind==4)=true->r=(decide (v.Bits<4294967296)))/\((kind==4)=false->((kind==9)=true->r=(decide (v.Bits<2147483648)))/\((kind==9)=false->r=true))))))))))/\((((!y1)||(v.Kind !=kind))=true->R1 true)/\(((!y1)||(v.Kind !=kind))=false->∃y2,b97 v y2/\(R1 (!y2)))))):c0g kind v r:=
 fP (KC 10 hw h31 fun _ hw=>KT 2 5<|KQ 1 4 kB hw (fun _ hw=>KW 2 hw (fun _ hw=>KR 7 hw d7w) fun _ hw=>KC 6 hw g8x fun _ hw=>KW 2 hw (fun _ hw=>KT 6 5<|KQ 1 8 kB hw (fun _ hw=>KR 5 hw d7w) (fun _ key _ hw=>KQ 3 4 kB hw (fun _ hw=>KE 1 key hw) (fun _ key _ hw=>KE 4 key hw) fun _ key _ hw=>KC 2 hw h08 fun _ hw=>KE 1 key hw) fun _ key _ hw=>KE 8 key hw) fun _ hw=>KW 10 hw (fun _ hw=>KR 7 hw d7w) fun _ hw=>KW 15 hw (fun _ hw=>KR 11 hw d7w) fun _ hw=>KW 6 hw (fun _ hw=>KT 13 3<|KR 6 hw d7w) fun _ hw=>KW 6 hw (fun _ hw=>KR 11 hw d7w) fun _ hw=>KW 6 hw (fun _ hw=>KR 11 hw d7w) fun _ hw=>KR 9 hw d7w) (fun _ key _ hw=>KE 4 key hw) fun _ key _ hw=>KC 1 hw h4w fun _ hw=>KE 2 key hw)
theorem g6t(r:Bool):plain (e46 r)=true:=rfl
def a1z(ij1:Int)(bj2:Bool)(enum:Int)(num:Int)(p:A6)(r:Bool):Prop:=J Tryz.prog 46 (.ret (e46 r)) 7 [(8,aI ij1),(7,aB bj2),(3,.ptr 0 0),(1,aI enum),(2,aU num)] ⟨[some (B6 p)],[],[]⟩
theorem a9y(ij1:Int)(bj2:Bool)(enum:Int)(num:Int)(p:A6)(r:Bool)(hw:∃y6,p.Enums[enum.toNat]? =some y6/\0<=enum/\(((decide (ij1<(y6.Items.length:Int)))=true->(bj2=true->a1z (wI (ij1+1)) true enum num p r)/\(bj2=false->∃y8,p.Enums[enum.toNat]? =some y8/\0<=enum/\(∃y9,y8.Items[ij1.toNat]? =some y9/\0<=ij1/\(a1z (wI (ij1+1)) (y9.Num==(wI num)) enum num p r))))/\((decide (ij1<(y6.Items.length:Int)))=false->r=bj2))):a1z ij1 bj2 enum num p r:=
 KI 8 X0 hw fun y6 hw=>KL 2 b0j y6.Items<|KW 3 hw (fun _ hw=>KW 7 hw (fun _ hw=>KJ 24 [] hw) fun _ hw=>KI 3 X0 hw fun _ hw=>KI 3 b0j hw fun _ hw=>KJ 16 [] hw) fun _ hw=>KR 12 hw g6t
theorem c27(p:A6)(enum:Int)(num:Int)(r:Bool)(hw:((((decide (enum<0))||(decide ((p.Enums.length:Int)<=enum)))||(decide (2147483647<num)))=true->r=false)/\((((decide (enum<0))||(decide ((p.Enums.length:Int)<=enum)))||(decide (2147483647<num)))=false->∃y1,p.Enums[enum.toNat]? =some y1/\0<=enum/\(a1z 0 y1.Open enum num p r))):b1s p enum num r:=
 fP (KT2 12 6 (decide (enum<0)) (fun z=>aB (z||(decide ((p.Enums.length:Int)<=enum)))) (fun _ key=>KE2 6 key) (fun _ key=>KL 3 X0 p.Enums<|KE2 2 key)<|KT 1 3<|KW 2 hw (fun _ hw=>KR 7 hw g6t) fun _ hw=>KI 7 X0 hw fun _ hw=>KJ 13 [] hw)
theorem h4g(r:ByteArray):plain (e47 r)=true:=rfl
def b1q(lj1:(List Int))(ij2:Int)(r:ByteArray):Prop:=J Tryz.prog 47 (.ret (e47 r)) 3 [(3,.sl (List.map b05 lj1) (.own 0)),(0,aU ij2)] ⟨[],[(lj1.length,1)],[]⟩
theorem b42(lj1:(List Int))(ij2:Int)(r:ByteArray)(hw:((decide (128<=ij2))=true->(lj1.length+[(F1 .or .u8 (IntKind.u8.wrap ij2) 128)].length)*1<=140737488355328/\(b1q (lj1++[(F1 .or .u8 (IntKind.u8.wrap ij2) 128)]) (ij2.fdiv (2 ^ min (7:Int).toNat IntKind.u64.bits)) r))/\((decide (128<=ij2))=false->(lj1.length+[(IntKind.u8.wrap ij2)].length)*1<=140737488355328/\(∃y2,(lj1++[(IntKind.u8.wrap ij2)])=bI y2/\(r=y2)))):b1q lj1 ij2 r:=
 KW 8 hw (fun _ hw=>KA 10 d2y hw mE fun hw=>KJ 10 [] hw) fun _ hw=>KA 11 d2y hw mE fun hw=>KS 0 hw fun _ hw=>KR 4 hw h4g
theorem d15(u:Int)(r:ByteArray)(hw:b1q ([]:List Int) u r):a3x u r:=
 fP (KO 13 3 1<|KJ 0 [] hw)
theorem h3a(r:Int):plain (e48 r)=true:=rfl
theorem d14(n:Int)(r:Int)(hw:r=(F1 .xor .u64 (wU ((wU n)*2 ^ min (1:Int).toNat IntKind.u64.bits)) (wU (n.fdiv (2 ^ min (63:Int).toNat IntKind.i64.bits))))):c6e n r:=
 fP (KR 18 hw h3a)
theorem h32(r:ByteArray):plain (e49 r)=true:=rfl
def a7x(ij1:Int)(u:Int)(lj2:(List Int))(r:ByteArray):Prop:=J Tryz.prog 49 (.ret (e49 r)) 4 [(8,aI ij1),(7,aI (8:Int)),(3,.row 0 0 1 8 8),(0,aU u)] ⟨[some (cellsOf b05 lj2)],[],[]⟩
theorem b1d(ij1:Int)(u:Int)(lj2:(List Int))(r:ByteArray)(hw:((decide (ij1<(8:Int)))=true->0<=(wI (8*ij1))/\((0<=ij1/\ij1<(8:Int))/\(ij1.toNat<lj2.length/\(a7x (wI (ij1+1)) u (lj2.set ij1.toNat (IntKind.u8.wrap (u.fdiv (2 ^ min (wI (8*ij1)).toNat IntKind.u64.bits)))) r))))/\((decide (ij1<(8:Int)))=false->lj2.length=8/\(∃y2,lj2=bI y2/\(r=y2)))):a7x ij1 u lj2 r:=
 KW 7 hw (fun _ hw=>KB 16 hw fun hw=>KRI 1 1 hw fun hw=>KRS 0 d2y (IntKind.u8.wrap (u.fdiv (2 ^ min (wI (8*ij1)).toNat IntKind.u64.bits))) hw fun hw=>KJ 8 [] hw) fun _ hw=>KDf 6 d2y 0 [false] 0 1 [(3,.sl (List.map b05 lj2) .no)] [none] ⟨by first|rfl|simp,by first|rfl|simp⟩ hw fun hw=>KS 2 hw fun _ hw=>KR 4 hw h32
theorem c66(u:Int)(r:ByteArray)(hw:(0<=(8:Int)/\(8:Int)<=(8:Int)/\(8:Int)*1<=140737488355328)/\(a7x 0 u (List.replicate 8 0) r)):b9o u r:=
 fP (KM 7 d2y 0 hw fun hw=>KJ 13 [] hw)
theorem g3s(r:A0):plain (e50 r)=true:=(A8 r)
theorem c8q(v:A0)(r:A0)(hw:((v.Kind==6)=true->∃y1,b5b v.Bits y1/\(((y1==0)=true->r=(⟨v.Kind,9221120237041090560,v.Text,v.List_,v.Pairs,v.Slots,v.Raws⟩:A0))/\((y1==0)=false->r=v)))/\((v.Kind==6)=false->r=v)):a89 v r:=
 fP (KW 13 hw (fun _ hw=>KC 2 hw h5w fun _ hw=>KW 4 hw (fun _ hw=>KR 12 hw g3s) fun _ hw=>KR 9 hw g3s) fun _ hw=>KR 17 hw g3s)
theorem h4i(r:Bool):plain (e51 r)=true:=rfl
theorem c75(a:A0)(b:A0)(r:Bool)(hw:∃y1,a15 a b y1/\(r=(y1==0))):b7r a b r:=
 fP (KC 11 hw g1s fun _ hw=>KR 5 hw h4i)
theorem h4e(r:ByteArray):plain (e52 r)=true:=rfl
def b5a(lj1:(List Int))(ij2:Int)(r:ByteArray):Prop:=J Tryz.prog 52 (.ret (e52 r)) 3 [(3,.sl (List.map b05 lj1) (.own 0)),(0,aU ij2)] ⟨[],[(lj1.length,1)],[]⟩
theorem b6c(lj1:(List Int))(ij2:Int)(r:ByteArray)(hw:((decide (128<=ij2))=true->(lj1.length+[(IntKind.u8.wrap (wU ((ij2.tmod 128)+128)))].length)*1<=140737488355328/\(b5a (lj1++[(IntKind.u8.wrap (wU ((ij2.tmod 128)+128)))]) (wU (ij2.tdiv 128)) r))/\((decide (128<=ij2))=false->(lj1.length+[(IntKind.u8.wrap ij2)].length)*1<=140737488355328/\(∃y2,(lj1++[(IntKind.u8.wrap ij2)])=bI y2/\(r=y2)))):b5a lj1 ij2 r:=
 KW 8 hw (fun _ hw=>KA 11 d2y hw mE fun hw=>KJ 10 [] hw) fun _ hw=>KA 11 d2y hw mE fun hw=>KS 0 hw fun _ hw=>KR 4 hw h4e
theorem d29(u:Int)(r:ByteArray)(hw:b5a ([]:List Int) u r):c36 u r:=
 fP (KO 13 3 1<|KJ 0 [] hw)
theorem g91(r:(Int × Bool)):plain (e55 r)=true:=(c7q (A4 rfl (A4 rfl rfl)))
theorem d2u(p:A6)(name:ByteArray)(r:(Int × Bool))(hw:∃y1,a2v p.Progs (⟨100,[],[.elt [aS name] 0],by simp⟩:GFn) y1/\(r=((max y1 0),(decide (0<=y1))))):c3g p name r:=
 fP (KFz 9 1 [true,false] 0 [(3,.elt [aS name] 0),(2,.ptr 0 0)] [some (B6 p),none] ⟨by first|rfl|simp,by first|rfl|simp⟩<|KC 4 hw h7n fun _ hw=>KR 14 hw g91)
theorem f52(r:Int):plain (e56 r)=true:=rfl
theorem d28(p:A6)(prog:Int)(v:A0)(r:Int)(hw:(((decide (prog<0))||(decide ((p.Progs.length:Int)<=prog)))=true->r=10)/\(((decide (prog<0))||(decide ((p.Progs.length:Int)<=prog)))=false->∃y1,p.Progs[prog.toNat]? =some y1/\0<=prog/\(∃y2,Q4 (⟨p⟩:C8) y1 v 1 y2/\(((y2 !=0)=true->r=y2)/\((y2 !=0)=false->∃y3,b38 v y3/\(((decide (4096<y3))=true->r=3)/\((decide (4096<y3))=false->r=0))))))):d2a p prog v r:=
 fP (KT2 13 6 (decide (prog<0)) (fun z=>aB (z||(decide ((p.Progs.length:Int)<=prog)))) (fun _ key=>KE2 6 key) (fun _ key=>KL 3 K7 p.Progs<|KE2 2 key)<|KW 2 hw (fun _ hw=>KR 7 hw f52) fun _ hw=>KD 4 [0,1]<|KI 5 K7 hw fun _ hw=>KC 2 hw g4t fun _ hw=>KW 10 hw (fun _ hw=>KR 8 hw f52) fun _ hw=>KC 6 hw g56 fun _ hw=>KW 3 hw (fun _ hw=>KR 7 hw f52) fun _ hw=>KR 8 hw f52)
theorem e8w(r:Bool):plain (e57 r)=true:=rfl
def b7q(ij7:Int)(v:A0)(r:Bool):Prop:=JP Tryz.prog 57 (e57 r) 24 [(37,aI ij7),(36,aI (v.Pairs.length:Int)),(35,.sl (List.map A9 v.Pairs) .no)]
def b7d(ij6:Int)(v:A0)(r:Bool):Prop:=J Tryz.prog 57 (.ret (e57 r)) 15 [(27,aI ij6),(26,aI (v.List_.length:Int)),(25,.sl (List.map C1 v.List_) .no),(1,.ptr 0 0)] ⟨[some (A5 v)],[],[]⟩
def b9w(ij4:Int)(v:A0)(r:Bool):Prop:=J Tryz.prog 57 (.ret (e57 r)) 6 [(16,aI ij4),(15,aI (v.Slots.length:Int)),(14,.sl (List.map B3 v.Slots) .no),(1,.ptr 0 0)] ⟨[some (A5 v)],[],[]⟩
theorem b54{ij7:Int}{v:A0}:a7y [] 0 [(37,aI ij7),(36,aI (v.Pairs.length:Int)),(35,.sl (List.map A9 v.Pairs) .no)]=true/\a4l [] 0 []=true:=⟨by first|rfl|simp,by first|rfl|simp⟩
theorem c6b{ij6:Int}{v:A0}:a7y [true] 0 [(27,aI ij6),(26,aI (v.List_.length:Int)),(25,.sl (List.map C1 v.List_) .no),(1,.ptr 0 0)]=true/\a4l [true] 0 [some (A5 v)]=true:=⟨by first|rfl|simp,by first|rfl|simp⟩
theorem c8m{ij4:Int}{v:A0}:a7y [true] 0 [(16,aI ij4),(15,aI (v.Slots.length:Int)),(14,.sl (List.map B3 v.Slots) .no),(1,.ptr 0 0)]=true/\a4l [true] 0 [some (A5 v)]=true:=⟨by first|rfl|simp,by first|rfl|simp⟩
theorem c3k(ij7:Int)(v:A0)(r:Bool)(hw:((decide (ij7<(v.Pairs.length:Int)))=true->∃y23,v.Pairs[ij7.toNat]? =some y23/\0<=ij7/\(∃y24,a7j y23.2 y24/\((y24=true->r=true)/\(y24=false->b7q (wI (ij7+1)) v r))))/\((decide (ij7<(v.Pairs.length:Int)))=false->r=false)):b7q ij7 v r:=
 KW 7 hw (fun _ hw=>KI 6 B9 hw fun _ hw=>KC 9 hw g9a fun _ hw=>KW 2 hw (fun _ hw=>KR 11 hw e8w) fun _ hw=>KJl 8 [] hw b54) fun _ hw=>KR 11 hw e8w
theorem c39(ij6:Int)(v:A0)(r:Bool)(hw:((decide (ij6<(v.List_.length:Int)))=true->∃y25,v.List_[ij6.toNat]? =some y25/\0<=ij6/\(∃y26,a7j y25 y26/\((y26=true->r=true)/\(y26=false->b7d (wI (ij6+1)) v r))))/\((decide (ij6<(v.List_.length:Int)))=false->b7q 0 v r)):b7d ij6 v r:=
 KW 7 hw (fun _ hw=>KI 6 F7 hw fun _ hw=>KC 8 hw g9a fun _ hw=>KW 2 hw (fun _ hw=>KR 11 hw e8w) fun _ hw=>KJl 8 [] hw c6b) fun _ hw=>KL 10 B9 v.Pairs<|KJl 5 [] hw b54
theorem c60(ij4:Int)(v:A0)(r:Bool)(hw:((decide (ij4<(v.Slots.length:Int)))=true->∃y27,v.Slots[ij4.toNat]? =some y27/\0<=ij4/\(∃y28,a7j y27.2 y28/\((y28=true->r=true)/\(y28=false->b9w (wI (ij4+1)) v r))))/\((decide (ij4<(v.Slots.length:Int)))=false->b7d 0 v r)):b9w ij4 v r:=
 KW 7 hw (fun _ hw=>KI 6 C0 hw fun _ hw=>KC 9 hw g9a fun _ hw=>KW 2 hw (fun _ hw=>KR 11 hw e8w) fun _ hw=>KJl 8 [] hw c8m) fun _ hw=>KL 10 F7 v.List_<|KJ 5 [] hw
theorem d25(v:A0)(r:Bool)(hw:((decide (0<(v.Raws.length:Int)))=true->r=true)/\((decide (0<(v.Raws.length:Int)))=false->b9w 0 v r)):a7j v r:=
 fP (KL 11 a6w v.Raws<|KW 3 hw (fun _ hw=>KR 7 hw e8w) fun _ hw=>KL 7 C0 v.Slots<|KJ 5 [] hw)
theorem h03(r:E4):plain (e58 r)=true/\(N8 r).all ok1=true/\lowL [true] 1 (N8 r)=true/\(a3v r).length=1:=⟨g7q r,a3q _,c1h _,rfl⟩
def U2(ij46:Int)(lj42:(List A0))(ij38:Int)(ij25:Int)(y1:B7)(lj47:(List B7))(lj48:(List V6))(lj49:(List Int))(v:A0)(y46:GOp)(r:E4):Prop:=J Tryz.prog 58 (.io 1 (e58 r) (N8 r) (a3v r)) 18 [(84,aI ij46),(83,aI (lj42.length:Int)),(82,.sl (List.map C1 lj42) .no),(6,aI ij38),(8,.ptr 2 0),(25,aI ij25),(24,aI (y1.Ops.length:Int)),(23,.sl (List.map Q8 y1.Ops) .no),(5,.ptr 1 0),(0,.ptr 0 0)] ⟨[some [.sl (List.map D1 lj47) .no,.sl (List.map S5 lj48) .no,.sl (List.map b05 lj49) (.own 0)],some (A5 v),some (Q8 y46)],[(lj49.length,1)],[]⟩
def T8(ij50:Int)(lj43:(List (A0 × A0)))(ij38:Int)(ij25:Int)(y1:B7)(lj51:(List B7))(lj52:(List V6))(lj53:(List Int))(v:A0)(y46:GOp)(r:E4):Prop:=J Tryz.prog 58 (.io 1 (e58 r) (N8 r) (a3v r)) 26 [(105,aI ij50),(104,aI (lj43.length:Int)),(103,.sl (List.map A9 lj43) .no),(6,aI ij38),(8,.ptr 2 0),(25,aI ij25),(24,aI (y1.Ops.length:Int)),(23,.sl (List.map Q8 y1.Ops) .no),(5,.ptr 1 0),(0,.ptr 0 0)] ⟨[some [.sl (List.map D1 lj51) .no,.sl (List.map S5 lj52) .no,.sl (List.map b05 lj53) (.own 0)],some (A5 v),some (Q8 y46)],[(lj53.length,1)],[]⟩
def U1(ij38:Int)(bz4:Bool)(ij25:Int)(y1:B7)(lj27:(List B7))(lj28:(List V6))(lj29:(List Int))(v:A0)(y46:GOp)(ij39:Int)(ij40:Int)(sj41:ByteArray)(lj42:(List A0))(lj43:(List (A0 × A0)))(lj44:(List (Int × A0)))(lj45:(List H1))(r:E4):Prop:=J Tryz.prog 58 (.io 1 (e58 r) (N8 r) (a3v r)) 10 [(6,aI ij38),(10,.ptr 3 0),(9,aB bz4),(8,.ptr 2 0),(25,aI ij25),(24,aI (y1.Ops.length:Int)),(23,.sl (List.map Q8 y1.Ops) .no),(5,.ptr 1 0),(0,.ptr 0 0)] ⟨[some [.sl (List.map D1 lj27) .no,.sl (List.map S5 lj28) .no,.sl (List.map b05 lj29) (.own 0)],some (A5 v),some (Q8 y46),some [aI ij39,aU ij40,aS sj41,.sl (List.map C1 lj42) .no,.sl (List.map A9 lj43) .no,.sl (List.map B3 lj44) .no,.sl (List.map I3 lj45) .no]],[(lj29.length,1)],[]⟩
def C6(ij25:Int)(y1:B7)(ij26:Int)(lj27:(List B7))(lj28:(List V6))(lj29:(List Int))(v:A0)(r:E4):Prop:=J Tryz.prog 58 (.io 1 (e58 r) (N8 r) (a3v r)) 3 [(25,aI ij25),(24,aI (y1.Ops.length:Int)),(23,.sl (List.map Q8 y1.Ops) .no),(6,aI ij26),(5,.ptr 1 0),(0,.ptr 0 0)] ⟨[some [.sl (List.map D1 lj27) .no,.sl (List.map S5 lj28) .no,.sl (List.map b05 lj29) (.own 0)],some (A5 v)],[(lj29.length,1)],[]⟩
theorem a31{ij46:Int}{lj42:(List A0)}{ij38:Int}{ij25:Int}{y1:B7}{lj47:(List B7)}{lj48:(List V6)}{lj49:(List Int)}{v:A0}{y46:GOp}:a7y [true,true,true] 1 [(84,aI ij46),(83,aI (lj42.length:Int)),(82,.sl (List.map C1 lj42) .no),(6,aI ij38),(8,.ptr 2 0),(25,aI ij25),(24,aI (y1.Ops.length:Int)),(23,.sl (List.map Q8 y1.Ops) .no),(5,.ptr 1 0),(0,.ptr 0 0)]=true/\a4l [true,true,true] 1 [some [.sl (List.map D1 lj47) .no,.sl (List.map S5 lj48) .no,.sl (List.map b05 lj49) (.own 0)],some (A5 v),some (Q8 y46)]=true:=⟨by first|rfl|simp,by first|rfl|simp⟩
theorem a34{ij50:Int}{lj43:(List (A0 × A0))}{ij38:Int}{ij25:Int}{y1:B7}{lj51:(List B7)}{lj52:(List V6)}{lj53:(List Int)}{v:A0}{y46:GOp}:a7y [true,true,true] 1 [(105,aI ij50),(104,aI (lj43.length:Int)),(103,.sl (List.map A9 lj43) .no),(6,aI ij38),(8,.ptr 2 0),(25,aI ij25),(24,aI (y1.Ops.length:Int)),(23,.sl (List.map Q8 y1.Ops) .no),(5,.ptr 1 0),(0,.ptr 0 0)]=true/\a4l [true,true,true] 1 [some [.sl (List.map D1 lj51) .no,.sl (List.map S5 lj52) .no,.sl (List.map b05 lj53) (.own 0)],some (A5 v),some (Q8 y46)]=true:=⟨by first|rfl|simp,by first|rfl|simp⟩
theorem N0{ij25:Int}{y1:B7}{ij26:Int}{lj27:(List B7)}{lj28:(List V6)}{lj29:(List Int)}{v:A0}:a7y [true,true] 1 [(25,aI ij25),(24,aI (y1.Ops.length:Int)),(23,.sl (List.map Q8 y1.Ops) .no),(6,aI ij26),(5,.ptr 1 0),(0,.ptr 0 0)]=true/\a4l [true,true] 1 [some [.sl (List.map D1 lj27) .no,.sl (List.map S5 lj28) .no,.sl (List.map b05 lj29) (.own 0)],some (A5 v)]=true:=⟨by first|rfl|simp,by first|rfl|simp⟩
theorem a29(ij46:Int)(lj42:(List A0))(ij38:Int)(ij25:Int)(y1:B7)(lj47:(List B7))(lj48:(List V6))(lj49:(List Int))(v:A0)(y46:GOp)(r:E4)(hw:((decide (ij46<(lj42.length:Int)))=true->∃y75,lj42[ij46.toNat]? =some y75/\0<=ij46/\(∃y76,Z6 (⟨(⟨lj47,lj48⟩:A6),lj49⟩:E4) y46 y75 y76/\(U2 (wI (ij46+1)) lj42 ij38 ij25 y1 y76.p.Progs y76.p.Enums y76.out v y46 r)))/\((decide (ij46<(lj42.length:Int)))=false->C6 (wI (ij25+1)) y1 ij38 lj47 lj48 lj49 v r)):U2 ij46 lj42 ij38 ij25 y1 lj47 lj48 lj49 v y46 r:=
 KW 7 hw (fun _ hw=>KI 6 F7 hw fun _ hw=>KI1 9 hw e2w fun _ hw=>KJl 8 [] hw a31) fun _ hw=>KJl 12 [] hw N0
theorem a3i(ij50:Int)(lj43:(List (A0 × A0)))(ij38:Int)(ij25:Int)(y1:B7)(lj51:(List B7))(lj52:(List V6))(lj53:(List Int))(v:A0)(y46:GOp)(r:E4)(hw:((decide (ij50<(lj43.length:Int)))=true->∃y83,lj43[ij50.toNat]? =some y83/\0<=ij50/\(∃y84,d4p y83.1 y84/\(∃y85,X4 (⟨(⟨lj51,lj52⟩:A6),lj53⟩:E4) y84 y85/\(∃y86,Z6 y85 y46 y83.2 y86/\(T8 (wI (ij50+1)) lj43 ij38 ij25 y1 y86.p.Progs y86.p.Enums y86.out v y46 r)))))/\((decide (ij50<(lj43.length:Int)))=false->C6 (wI (ij25+1)) y1 ij38 lj51 lj52 lj53 v r)):T8 ij50 lj43 ij38 ij25 y1 lj51 lj52 lj53 v y46 r:=
 KW 7 hw (fun _ hw=>KI 6 B9 hw fun _ hw=>KC 10 hw h5y fun _ hw=>KI1 0 hw d3y fun _ hw=>KI1 7 hw e2w fun _ hw=>KJl 8 [] hw a34) fun _ hw=>KJl 12 [] hw N0
theorem b3z(ij38:Int)(bz4:Bool)(ij25:Int)(y1:B7)(lj27:(List B7))(lj28:(List V6))(lj29:(List Int))(v:A0)(y46:GOp)(ij39:Int)(ij40:Int)(sj41:ByteArray)(lj42:(List A0))(lj43:(List (A0 × A0)))(lj44:(List (Int × A0)))(lj45:(List H1))(r:E4)(hw:((y46.Card==1)=true->∃y70,Z6 (⟨(⟨lj27,lj28⟩:A6),lj29⟩:E4) y46 (⟨ij39,ij40,sj41,lj42,lj43,lj44,lj45⟩:A0) y70/\(C6 (wI (ij25+1)) y1 ij38 y70.p.Progs y70.p.Enums y70.out v r))/\((y46.Card==1)=false->((y46.Card==4)=true->∃y71,a3x (wU (lj42.length:Int)) y71/\(∃y72,X4 (⟨(⟨lj27,lj28⟩:A6),lj29⟩:E4) y71 y72/\(U2 0 lj42 ij38 ij25 y1 y72.p.Progs y72.p.Enums y72.out v y46 r)))/\((y46.Card==4)=false->((y46.Card==5)=true->∃y77,a3x (wU (lj43.length:Int)) y77/\(∃y78,X4 (⟨(⟨lj27,lj28⟩:A6),lj29⟩:E4) y77 y78/\(T8 0 lj43 ij38 ij25 y1 y78.p.Progs y78.p.Enums y78.out v y46 r)))/\((y46.Card==5)=false->((!bz4)=true->∃y87,X4 (⟨(⟨lj27,lj28⟩:A6),lj29⟩:E4) (⟨#[0]⟩:ByteArray) y87/\(C6 (wI (ij25+1)) y1 ij38 y87.p.Progs y87.p.Enums y87.out v r))/\((!bz4)=false->∃y88,X4 (⟨(⟨lj27,lj28⟩:A6),lj29⟩:E4) (⟨#[1]⟩:ByteArray) y88/\(∃y89,Z6 y88 y46 (⟨ij39,ij40,sj41,lj42,lj43,lj44,lj45⟩:A0) y89/\(C6 (wI (ij25+1)) y1 ij38 y89.p.Progs y89.p.Enums y89.out v r))))))):U1 ij38 bz4 ij25 y1 lj27 lj28 lj29 v y46 ij39 ij40 sj41 lj42 lj43 lj44 lj45 r:=
 KW 13 hw (fun _ hw=>KI1 4 hw e2w fun _ hw=>KJl 9 [] hw N0) fun _ hw=>KW 6 hw (fun _ hw=>KL 5 F7 lj42<|KC 1 hw g30 fun _ hw=>KI1 0 hw d3y fun _ hw=>KL 6 F7 lj42<|KJl 5 [] hw a31) fun _ hw=>KW 6 hw (fun _ hw=>KL 5 B9 lj43<|KC 1 hw g30 fun _ hw=>KI1 0 hw d3y fun _ hw=>KL 6 B9 lj43<|KJl 5 [] hw a34) fun _ hw=>KW 7 hw (fun _ hw=>KI1 3 hw d3y fun _ hw=>KJl 12 [] hw N0) fun _ hw=>KI1 5 hw d3y fun _ hw=>KI1 6 hw e2w fun _ hw=>KJl 9 [] hw N0
theorem Y9(ij25:Int)(y1:B7)(ij26:Int)(lj27:(List B7))(lj28:(List V6))(lj29:(List Int))(v:A0)(r:E4)(hw:((decide (ij25<(y1.Ops.length:Int)))=true->∃y46,y1.Ops[ij25.toNat]? =some y46/\0<=ij25/\(∃R4:Bool->Prop,(∀bz4:Bool,R4 bz4->((bz4=true->∃y49,v.Slots[ij26.toNat]? =some y49/\0<=ij26/\(U1 (wI (ij26+1)) bz4 ij25 y1 lj27 lj28 lj29 v y46 y49.2.Kind y49.2.Bits y49.2.Text y49.2.List_ y49.2.Pairs y49.2.Slots y49.2.Raws r))/\(bz4=false->U1 ij26 bz4 ij25 y1 lj27 lj28 lj29 v y46 0 0 (⟨#[]⟩:ByteArray) ([]:(List A0)) ([]:(List (A0 × A0))) ([]:(List (Int × A0))) ([]:(List H1)) r)))/\(((decide (ij26<(v.Slots.length:Int)))=true->∃y48,v.Slots[ij26.toNat]? =some y48/\0<=ij26/\(R4 (y48.1==y46.Num)))/\((decide (ij26<(v.Slots.length:Int)))=false->R4 false))))/\((decide (ij25<(y1.Ops.length:Int)))=false->r=(⟨(⟨lj27,lj28⟩:A6),lj29⟩:E4))):C6 ij25 y1 ij26 lj27 lj28 lj29 v r:=
 KW 7 hw (fun _ hw=>KI 6 b7p hw fun _ hw=>KD 6 [1,2]<|KL 3 C0 v.Slots<|KQ 2 10 kB hw (fun _ hw=>KW 15 hw (fun _ hw=>KI 5 C0 hw fun _ hw=>KJ 11 [] hw) fun _ hw=>KNb 2 3 3<|KNb 0 3 4<|KNb 0 3 5<|KNb 0 3 6<|KJ 0 [] hw) (fun _ key _ hw=>KI 3 C0 hw fun _ hw=>KE 6 key hw) fun _ key _ hw=>KE 10 key hw) fun _ hw=>KRi 4 hw h03
theorem b7a(w:E4)(prog:Int)(v:A0)(r:E4)(hw:∃y1,w.p.Progs[prog.toNat]? =some y1/\0<=prog/\(C6 0 y1 0 w.p.Progs w.p.Enums w.out v r)):a0k w prog v r:=
 fIO (KI 18 K7 hw fun y1 hw=>KL 2 b7p y1.Ops<|KJ 5 [] hw)
theorem g16(r:A0):plain (e59 r)=true:=(A8 r)
def b0m(ij1:Int)(y1:(List (Int × A0)))(prog:Int)(p:A6)(lj2:(List (Int × A0)))(r:A0):Prop:=J Tryz.prog 59 (.ret (e59 r)) 7 [(32,aI ij1),(31,aI (y1.length:Int)),(30,.sl (List.map B3 y1) .no),(7,.ptr 3 0),(6,.ptr 2 0),(3,.ptr 0 0),(1,aI prog)] ⟨[some (B6 p),none,some zV,some [aI 10,aU 0,aE,.nil,.nil,.sl (List.map B3 lj2) (.own 0),.sl (List.map I3 ([]:List H1)) .no]],[(lj2.length,8)],[]⟩
def d76(ij3:Int)(y12:(List (Int × A0)))(prog:Int)(p:A6)(v:A0)(lj4:(List (Int × A0)))(r:A0):Prop:=J Tryz.prog 59 (.ret (e59 r)) 7 [(32,aI ij3),(31,aI (y12.length:Int)),(30,.sl (List.map B3 y12) .no),(7,.ptr 4 0),(6,.ptr 2 0),(3,.ptr 0 0),(1,aI prog)] ⟨[some (B6 p),none,some zV,some (cellsOf I3 v.Raws),some [aI 10,aU 0,aE,.nil,.nil,.sl (List.map B3 lj4) (.own 0),.row 3 0 4 v.Raws.length v.Raws.length]],[(lj4.length,8)],[]⟩
theorem b03{ij1:Int}{y1:(List (Int × A0))}{prog:Int}{p:A6}{lj2:(List (Int × A0))}:a7y [true,false,true,true] 1 [(32,aI ij1),(31,aI (y1.length:Int)),(30,.sl (List.map B3 y1) .no),(7,.ptr 3 0),(6,.ptr 2 0),(3,.ptr 0 0),(1,aI prog)]=true/\a4l [true,false,true,true] 1 [some (B6 p),none,some zV,some [aI 10,aU 0,aE,.nil,.nil,.sl (List.map B3 lj2) (.own 0),.sl (List.map I3 ([]:List H1)) .no]]=true:=⟨by first|rfl|simp,by first|rfl|simp⟩
theorem c8r{ij3:Int}{y12:(List (Int × A0))}{prog:Int}{p:A6}{v:A0}{lj4:(List (Int × A0))}:a7y [true,false,true,true,true] 1 [(32,aI ij3),(31,aI (y12.length:Int)),(30,.sl (List.map B3 y12) .no),(7,.ptr 4 0),(6,.ptr 2 0),(3,.ptr 0 0),(1,aI prog)]=true/\a4l [true,false,true,true,true] 1 [some (B6 p),none,some zV,some (cellsOf I3 v.Raws),some [aI 10,aU 0,aE,.nil,.nil,.sl (List.map B3 lj4) (.own 0),.row 3 0 4 v.Raws.length v.Raws.length]]=true:=⟨by first|rfl|simp,by first|rfl|simp⟩
theorem b5x(ij1:Int)(y1:(List (Int × A0)))(prog:Int)(p:A6)(lj2:(List (Int × A0)))(r:A0)(hw:((decide (ij1<(y1.length:Int)))=true->∃y7,y1[ij1.toNat]? =some y7/\0<=ij1/\(∃y8,p.Progs[prog.toNat]? =some y8/\0<=prog/\(∃y9,c11 y8 y7.1 y9/\(∃y10,b5v p y9.1 y7.2 y10/\(∃R2:Bool->Prop,(∀bz2:Bool,R2 bz2->((bz2=true->(lj2.length+[(y7.1,y10)].length)*136<=140737488355328/\(b0m (wI (ij1+1)) y1 prog p (lj2++[(y7.1,y10)]) r))/\(bz2=false->b0m (wI (ij1+1)) y1 prog p lj2 r)))/\(((!(((y9.1.Card==3)||(y9.1.Card==4))||(y9.1.Card==5)))=true->R2 true)/\((!(((y9.1.Card==3)||(y9.1.Card==4))||(y9.1.Card==5)))=false->∃y11,c59 y10 y11/\(R2 (!y11)))))))))/\((decide (ij1<(y1.length:Int)))=false->Z2 (⟨111,[],[],rfl⟩:GFn)/\(r=(⟨10,0,(⟨#[]⟩:ByteArray),([]:(List A0)),([]:(List (A0 × A0))),lj2,([]:List H1)⟩:A0)))):b0m ij1 y1 prog p lj2 r:=
 KW 7 hw (fun _ hw=>KI 6 C0 hw fun _ hw=>KD 6 [0,4]<|KI 3 K7 hw fun _ hw=>KC 3 hw f2w fun _ hw=>KV 4<|KT 10 4<|KT 1 4<|KC 9 hw h0y fun _ hw=>KQ 9 4 kB hw (fun _ hw=>KW 2 hw (fun _ hw=>KA 8 C0 hw mE fun hw=>KJl 10 [] hw b03) fun _ hw=>KJl 8 [] hw b03) (fun _ key _ hw=>KE 4 key hw) fun _ key _ hw=>KC 1 hw g9p fun _ hw=>KE 2 key hw) fun _ hw=>KC0 9 hw g8r fun hw=>KR 9 hw g16
theorem d2v(p:A6)(prog:Int)(v:A0)(r:A0)(hw:(v.Raws=[]->a9u v.Raws ([]:List H1)/\((((decide (prog<0))||(decide ((p.Progs.length:Int)<=prog)))=true->r=(⟨10,0,(⟨#[]⟩:ByteArray),([]:(List A0)),([]:(List (A0 × A0))),([]:(List (Int × A0))),([]:List H1)⟩:A0))/\(((decide (prog<0))||(decide ((p.Progs.length:Int)<=prog)))=false->∃y1,b33 v.Slots y1/\(b0m 0 y1 prog p ([]:List (Int × A0)) r))))/\(v.Raws≠[]->b5s v.Raws/\((((decide (prog<0))||(decide ((p.Progs.length:Int)<=prog)))=true->v.Raws.length=v.Raws.length/\(r=(⟨10,0,(⟨#[]⟩:ByteArray),([]:(List A0)),([]:(List (A0 × A0))),([]:(List (Int × A0))),v.Raws⟩:A0)))/\(((decide (prog<0))||(decide ((p.Progs.length:Int)<=prog)))=false->∃y12,b33 v.Slots y12/\(d76 0 y12 prog p v ([]:List (Int × A0)) r))))):b3a p prog v r:=
 fP (g9r v.Raws (fun hb1=>KC0 11 (hw.1 hb1) h0w fun hw=>KT2 11 6 (decide (prog<0)) (fun z=>aB (z||(decide ((p.Progs.length:Int)<=prog)))) (fun _ key=>KE2 6 key) (fun _ key=>KL 3 K7 p.Progs<|KE2 2 key)<|KW 2 hw (fun _ hw=>KR 8 hw g16) fun _ hw=>KC 7 hw g4d fun y1 hw=>KL 0 C0 y1<|KOb 5 3 5 8<|KJl 0 [] hw b03) fun hb1=>KNw 11 a6w hb1 (hw.2 hb1) fun hw=>KT2 11 6 (decide (prog<0)) (fun z=>aB (z||(decide ((p.Progs.length:Int)<=prog)))) (fun _ key=>KE2 6 key) (fun _ key=>KL 3 K7 p.Progs<|KE2 2 key)<|KW 2 hw (fun _ hw=>KDg 6 a6w 3 [true,true,true,false,true] 0 0 2 [(6,.ptr 2 0)] [some (B6 p),some (A5 v),some [aI 10,aU 0,aE,.nil,.nil,.nil,.sl (List.map I3 v.Raws) .no],none,some [aI 10,aU 0,aE,.nil,.nil,.nil,.sl (List.map I3 v.Raws) .no]] ⟨by first|rfl|simp,by first|rfl|simp⟩ hw fun hw=>KR 2 hw g16) fun _ hw=>KC 7 hw g4d fun y12 hw=>KL 0 C0 y12<|KOb 5 4 5 8<|KJl 0 [] hw c8r)
theorem g3b(r:(A3 × Int)):plain (e60 r)=true:=(c7q (A4 (C3 r.1) (A4 rfl rfl)))
theorem b00(data:ByteArray)(l:a04)(r:(A3 × Int))(hw:(((((decide (l.Bytes<0))||(decide (l.Depth<0)))||(decide (l.Nodes<0)))||(decide (l.Text<0)))=true->r=((⟨(⟨#[]⟩:ByteArray),0,0,0,0,0⟩:A3),1))/\(((((decide (l.Bytes<0))||(decide (l.Depth<0)))||(decide (l.Nodes<0)))||(decide (l.Text<0)))=false->((decide (l.Bytes<(data.size:Int)))=true->r=((⟨(⟨#[]⟩:ByteArray),0,0,0,0,0⟩:A3),3))/\((decide (l.Bytes<(data.size:Int)))=false->r=((⟨data,0,(data.size:Int),l.Depth,l.Nodes,l.Text⟩:A3),0)))):d0h data l r:=
 fP (KT 15 4<|KT 1 4<|KT 1 4<|KW 3 hw (fun _ hw=>KR 10 hw g3b) fun _ hw=>KW 10 hw (fun _ hw=>KR 10 hw g3b) fun _ hw=>KR 20 hw g3b)
end
end Go.Proofs.YtidmmngcijapcaaGreat.Lift
