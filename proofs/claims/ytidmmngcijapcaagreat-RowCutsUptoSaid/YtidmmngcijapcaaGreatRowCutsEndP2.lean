/- Part 3 of the texts that prove RowCutsEnd. -/
import Derived.Test.YtidmmngcijapcaaGreatRowCutsEndP1
import Derived.LoopN
namespace Go.Proofs.YtidmmngcijapcaaGreat.Lift
open Go.RowKit
set_option linter.unusedVariables false
set_option linter.unusedSimpArgs false
set_option linter.unnecessarySimpa false
set_option linter.unusedSectionVars false
set_option maxRecDepth 100000
def nz1:AV ->AV
 |.nil=>.sl [] .no
 |.sl els _=>.sl els .no
 |x=>x
def nzA:AV ->AV
 |.agg cs=>.agg (cs.map nz1)
 |x=>nz1 x
def nz:AV ->AV
 |.tuple vs=>.tuple (vs.map nzA)
 |x=>nzA x
theorem d9j (av:AV):(nz1 av).isCell=av.isCell:=by cases av<;>rfl
theorem Rel.nz1 {σ:Sg} {av:AV} {x:Value} (hr:Rel σ av x):Rel σ (nz1 av) x:=by
 cases av with
 |nil=>cases hr; exact .sl0 _ trivial
 |sl els tok=>
  show Rel σ (.sl els .no) x
  cases hr with
  |sl0 _ _=>exact .sl0 _ trivial
  |slx _ a cap _ _=>exact .slx _ a cap trivial (.inl rfl)
  |sl _ _ b o cap size xs hs hcap ht hz hc hr=>exact .sl _ _ b o cap size xs hs hcap trivial (fun id e h=>by cases h) hc hr
 |_=>exact hr
theorem F3.nz {σ:Sg} {cells:List AV} {vs:List Value} (hc:F3 σ cells vs):F3 σ (cells.map nz1) vs:=by
 refine ⟨by simp [hc.1],fun i av hi=> ?_⟩
 simp only [List.getElem?_map,Option.map_eq_some_iff] at hi
 obtain ⟨b,hb,rfl⟩:=hi
 obtain ⟨h1,x,h2,h3⟩:=hc.2 i b hb
 exact ⟨by rw [d9j]; exact h1,x,h2,h3.nz1⟩
theorem Rel.nzA {σ:Sg} {av:AV} {x:Value} (hr:Rel σ av x):Rel σ (nzA av) x:=by
 unfold Lift.nzA
 split
 ·obtain ⟨xs,rfl,hc⟩:=hr.agg_inv
  exact Rel.agg_mk' hc.nz
 ·exact hr.nz1
theorem Rel.nz {σ:Sg} {av:AV} {x:Value} (hr:Rel σ av x):Rel σ (nz av) x:=by
 unfold Lift.nz
 split
 ·cases hr with
  |tuple vs xs hn y hx hr=>
   refine .tuple _ _ (by simp [hn]) y (fun i av hi=> ?_) (fun i av hi=> ?_)
   ·simp only [List.getElem?_map,Option.map_eq_some_iff] at hi
    obtain ⟨b,hb,rfl⟩:=hi
    exact hx i b hb
   ·simp only [List.getElem?_map,Option.map_eq_some_iff] at hi
    obtain ⟨b,hb,rfl⟩:=hi
    exact (hr i b hb).nzA
 ·exact hr.nzA
theorem e4y (a:AV) (h:plain (nz1 a)=true):plain (wk1 a)=true:=by
 cases a with
 |sl els tok=>cases tok<;>simpa [nz1,wk1,plain] using h
 |_=>first|rfl|exact h
theorem d5e:∀(l:List AV),plainL (l.map nz1)=true ->plainL (l.map wk1)=true
 |[],_=>rfl
 |a::r,h=>by
  simp only [List.map_cons,plainL,Bool.and_eq_true] at h ⊢
  exact ⟨e4y a h.1,d5e r h.2⟩
theorem c7h (a:AV) (h:plain (nzA a)=true):plain (wkA a)=true:=by
 cases a with
 |agg cs=>simp only [nzA,wkA,plain] at h ⊢; exact d5e cs h
 |sl els tok=>cases tok<;>simpa [nzA,wkA,nz1,wk1,plain] using h
 |_=>first|rfl|exact h
theorem c99:∀(l:List AV),plainL (l.map nzA)=true ->plainL (l.map wkA)=true
 |[],_=>rfl
 |a::r,h=>by
  simp only [List.map_cons,plainL,Bool.and_eq_true] at h ⊢
  exact ⟨c7h a h.1,c99 r h.2⟩
theorem f1a (a:AV) (h:plain (nz a)=true):plain (wk a)=true:=by
 cases a with
 |tuple vs=>simp only [nz,wk,plain] at h ⊢; exact c99 vs h
 |agg cs=>exact c7h (.agg cs) h
 |sl els tok=>exact c7h (.sl els tok) h
 |_=>first|rfl|exact h
theorem g0z (a:AV):nz1 (wk1 a)=nz1 a:=by
 cases a with
 |sl els tok=>cases tok<;>rfl
 |_=>rfl
theorem f4l (a:AV):nzA (wkA a)=nzA a:=by
 cases a with
 |agg cs=>simp only [wkA,nzA,List.map_map]; congr 1; exact List.map_congr_left fun x _=>g0z x
 |sl els tok=>cases tok<;>rfl
 |_=>rfl
theorem g71 (a:AV):nz (wk a)=nz a:=by
 cases a with
 |tuple vs=>simp only [wk,nz,List.map_map]; congr 1; exact List.map_congr_left fun x _=>f4l x
 |agg cs=>exact f4l (.agg cs)
 |sl els tok=>cases tok<;>rfl
 |_=>rfl
def C1 (P:Program) (gl:List (Nat × List AV)) (f:FuncId) (args:List AV) (r:AV):Prop:=d7h P gl f args fun a=>nz a=r
theorem c64 {P:Program} {f:FuncId} {args args':List AV} {r:AV} {h:A4} {K:AV ->A4 ->Prop} (hf:C1 P h.globs f args r) (hgl:S6 h.globs=true) (ha:args'.map nz=args) (hp:plainL args=true) (hk:K r h):b73 P f args' h K:=by
 refine ⟨hf.1,fun σ cargs hi hr=> ?_⟩
 have hopen:∀b o,σ.open_ b o ->b<σ.w.heap.size:=by
  rintro b o (ho|⟨n,hn⟩|⟨id,e,he,hs⟩)
  ·exact (hi.outer b o ho).1
  ·exact hi.lt hn
  ·obtain ⟨v,hv⟩:=Option.isSome_iff_exists.1 (hi.bufat id e b o he hs).1
   exact a27 hv
 have hrels:c6c (bare σ.w σ.open_) args cargs.toList:=by
  refine ⟨by rw [hr.1,<-ha]; simp,fun i av hav=> ?_⟩
  have hav':=hav
  rw [<-ha] at hav
  simp only [List.getElem?_map,Option.map_eq_some_iff] at hav
  obtain ⟨b,hb,rfl⟩:=hav
  obtain ⟨x,h1,h2⟩:=hr.2 i b hb
  exact ⟨x,h1,h2.nz.down (P0 hp i _ hav') rfl fun _ _ h=>h⟩
 have hglobs:d54 σ.w σ.open_ h.globs:=fun g cells hg=>(hi.glob g cells hg).down (by simp only [plain]; exact List.all_eq_true.1 hgl _ hg) rfl fun _ _ h=>h
 refine (hf.2 σ.w σ.open_ cargs hopen hglobs hrels).mono fun e w' hq=> ?_
 obtain ⟨av,x,rfl,hpast,hrel,hR⟩:=hq
 exact ⟨{σ with w:=w'},h,nz av,x,rfl,rfl,Le.world hpast,hi.world hpast,(hrel.nz).up (fun _=>rfl) (fun _=>rfl) rfl (fun b o ho=>.inl ho),by rw [hR]; exact hk⟩
def f87 (rs:List b6o) (r:AV):Exit ->Env ->A4 ->Prop
 |.normal,env,h=>d15 env h rs fun l=>plain (wk (c9d l))=true /\ nz (wk (c9d l))=r
 |.ret,env,h=>d15 env h rs fun l=>plain (wk (c9d l))=true /\ nz (wk (c9d l))=r
 |_,_,_=>False
section
variable {P:Program} {h h':A4} {env env':Env} {N:Nat} {Q:Exit ->Env ->A4 ->Prop} {K:Env ->A4 ->Prop} {L:List C2} {k:Nat}
theorem f6d {gl:List (Nat × List AV)} {f:FuncId} {ac:O1} {rs:List b6o} (hf:a8m P f=some (N,ac,rs)) {args:List AV} {r:AV} {e₀:Env} (hn:args.length<=N) (he:b6h 0 args=e₀)
  (hbody:C P N ac (f87 rs r) e₀ ⟨[],[],gl⟩):C1 P gl f args r:=by
 subst he
 refine e7t hf hn (c1m hbody.out fun e env h hq=> ?_)
 cases e<;>first|exact hq|exact hq.elim
theorem g6h {rs:List b6o} {r:AV} {l:List AV} (hl:c22 env h rs=some l) (hr:nz (c9d l)=r) (hp:plain r=true):f87 rs r .ret env h:=by
 refine b2m hl ⟨f1a _ (by rw [hr]; exact hp),by rw [g71]; exact hr⟩
def a12 (P:Program) (o:AOp) (env:Env) (h:A4) (av:AV) (h':A4):Prop:=∀K:AV ->A4 ->Prop,K av h' ->aop P o env h K
theorem a12.q {P:Program} {o:AOp} {env:Env} {h:A4} {av:AV} (hd:a12 P o env h av h):c9m P o env h av:=hd _ ⟨rfl,rfl⟩
def c2h (e env:Env):Prop:=∀t a,get e t=some a ->get env t=some a
theorem c2h.put {e env:Env} (he:c2h e env) (d:Option Nat) (av:AV):c2h (b22 e d av) (b22 env d av):=by
 intro t a h
 rw [Q6] at h ⊢
 split at h
 ·rename_i hd; rw [if_pos hd]; exact h
 ·rename_i hd; rw [if_neg hd]; exact he t a h
theorem c2h.drop {e env:Env} (he:c2h e env) (d:Option Nat):c2h (b38 e d) (b38 env d):=by
 intro t a h
 rw [X4] at h ⊢
 split at h
 ·rename_i hd; rw [if_pos hd]; exact h
 ·rename_i hd; rw [if_neg hd]; exact he t a h
theorem c2h.ev {e env:Env} (he:c2h e env) {x:J6} {a:AV} (h:x.ev e=some a):x.ev env=some a:=by
 cases x with
 |t n=>exact he n a h
 |c b=>exact h
theorem c2h.wv {e env:Env} (he:c2h e env) {x:J6} {J J':AV ->Prop} (hj:wv (x.ev e) J) (h:∀a,J a ->J' a):wv (x.ev env) J':=by
 obtain ⟨a,h1,h2⟩:=b5b hj
 rw [he.ev h1]; exact h a h2
theorem c2h.evs {e env:Env} (he:c2h e env):∀{l:List J6} {r:List AV},evs e l=some r ->evs env l=some r
 |[],r,h=>h
 |x::l,r,h=>by
  simp only [Lift.evs] at h ⊢
  split at h
  ·rename_i a l' h1 h2
   rw [he.ev h1,he.evs h2]; exact h
  ·cases h
theorem c2h.evp {e env:Env} (he:c2h e env):∀{l:List ((Nat × Nat) × J6)} {r:List ((Nat × Nat) × AV)},evp e l=some r ->evp env l=some r
 |[],r,h=>h
 |(k,x)::l,r,h=>by
  simp only [Lift.evp] at h ⊢
  split at h
  ·rename_i a l' h1 h2
   rw [he.ev h1,he.evp h2]; exact h
  ·cases h
theorem c2h.evo {e env:Env} (he:c2h e env) {x:Option J6} {r:Option AV} (h:evo e x=some r):evo env x=some r:=by
 cases x with
 |none=>exact h
 |some x=>
  simp only [Lift.evo] at h ⊢
  split at h
  ·rename_i a h1; rw [he.ev h1]; exact h
  ·cases h
theorem d1r {P:Program} {o:AOp} {e env:Env} (he:c2h e env) {h:A4} {K:AV ->A4 ->Prop} (ha:aop P o e h K):aop P o env h K:=by
 cases o<;>simp only [aop] at ha ⊢
 case mv=>exact he.wv ha fun _ h=>h
 case pick=>
  refine he.wv ha fun c hc=> ?_
  unfold c42 at hc ⊢
  split at hc
  ·exact ⟨fun ht=>he.wv (hc.1 ht) fun _ h=>h,fun ht=>he.wv (hc.2 ht) fun _ h=>h⟩
  ·exact hc.elim
 case alloc=>exact ha
 case box=>exact he.wv ha fun _ h=>h
 case build=>
  split at ha
  ·rename_i ps h1; rw [he.evp h1]; exact ha
  ·exact ha.elim
 case sliceLit=>
  split at ha
  ·rename_i ps h1; rw [he.evp h1]; exact ha
  ·exact ha.elim
 case load=>exact he.wv ha fun _ h=>h
 case store=>exact he.wv ha fun _ h=>he.wv h fun _ h=>h
 case nilCheck=>exact he.wv ha fun _ h=>h
 case bin=>exact he.wv ha fun _ h=>he.wv h fun _ h=>h
 case eq=>exact he.wv ha fun _ h=>he.wv h fun _ h=>h
 case un=>exact he.wv ha fun _ h=>h
 case conv=>exact he.wv ha fun _ h=>h
 case iface=>exact he.wv ha fun _ h=>h
 case func=>
  split at ha
  ·rename_i f c h1 h2; rw [he.evs h1,he.evs h2]; exact ha
  ·exact ha.elim
 case sliceS=>
  refine he.wv ha fun x hx=> ?_
  split at hx
  ·rename_i lo hi h1 h2; rw [he.evo h1,he.evo h2]; exact hx
  ·exact hx.elim
 case sliceV=>
  refine he.wv ha fun x hx=> ?_
  split at hx
  ·rename_i lo hi mx h1 h2 h3; rw [he.evo h1,he.evo h2,he.evo h3]; exact hx
  ·exact hx.elim
 case fieldAddr=>exact he.wv ha fun _ h=>h
 case field=>exact he.wv ha fun _ h=>h
 case idxS=>exact he.wv ha fun _ h=>he.wv h fun _ h=>h
 case idxV=>exact he.wv ha fun _ h=>he.wv h fun _ h=>h
 case idxSl=>exact he.wv ha fun _ h=>he.wv h fun _ h=>h
 case idxA=>exact he.wv ha fun _ h=>he.wv h fun _ h=>h
 case assertT=>exact he.wv ha fun _ h=>h
 case extract=>exact he.wv ha fun _ h=>h
 case len=>exact he.wv ha fun _ h=>h
 case append=>exact he.wv ha fun _ h=>he.wv h fun _ h=>h
 case call f args=>
  refine he.wv ha fun f hf=> ?_
  unfold d0r at hf ⊢
  split at hf
  ·rename_i g first captured l h1; rw [he.evs h1]; exact hf
  ·exact hf.elim
 case bytes=>exact he.wv ha fun _ h=>h
 case minmax=>
  split at ha
  ·rename_i l h1; rw [he.evs h1]; exact ha
  ·exact ha.elim
 case make=>exact he.wv ha fun _ h=>he.wv h fun _ h=>h
 case range=>exact he.wv ha fun _ h=>h
 case next=>exact he.wv ha fun _ h=>h
theorem a12.less {P:Program} {o:AOp} {e env:Env} {h h':A4} {av:AV} (hd:a12 P o e h av h') (he:c2h e env):a12 P o env h av h':=fun K hk=>d1r he (hd K hk)
theorem c2h.guard {e env:Env} (he:c2h e env) {g:Option (Nat × Bool)} {b:Bool} (h:I9 e g=some b):I9 env g=some b:=by
 cases g with
 |none=>exact h
 |some p=>
  obtain ⟨t,want⟩:=p
  simp only [I9,Option.bind_eq_some_iff] at h ⊢
  obtain ⟨v,h1,h2⟩:=h
  exact ⟨v,he t v h1,h2⟩
def vd (P:Program):List C2 ->Env ->A4 ->(Env ->A4 ->Prop) ->Prop
 |[],env,h,K=>K env h
 |o::r,env,h,K=>(I9 env o.guard=some false /\ vd P r (b38 env o.dst) h K)\/(I9 env o.guard=some true /\ ∃av h',a12 P o.op env h av h' /\ vd P r (b22 env o.dst av) h' K)\/
  (I9 env o.guard=some true /\ ∃S:AV ->Prop,(∀K':AV ->A4 ->Prop,(∀av,S av ->K' av h) ->aop P o.op env h K') /\ ∀av,S av ->vd P r (b22 env o.dst av) h K)
theorem c3d {P:Program}:∀{l:List C2} {env:Env} {h:A4} {K:Env ->A4 ->Prop},vd P l env h K ->d6u P l env h K
 |[],env,h,K,hv=>hv
 |o::r,env,h,K,hv=>by
  rcases hv with ⟨hg,hv⟩|⟨hg,av,h',hd,hv⟩|⟨hg,S,hd,hv⟩
  ·exact b7y (b:=false) hg (by simpa using c3d hv)
  ·refine b7y (b:=true) hg ?_
   simp only [if_true]
   exact hd _ (c3d hv)
  ·refine b7y (b:=true) hg ?_
   simp only [if_true]
   exact hd _ fun av hav=>c3d (hv av hav)
def c4l (K:Env ->A4 ->Prop):Prop:=∀e env h,c2h e env ->K e h ->K env h
theorem c0h {P:Program} {K:Env ->A4 ->Prop} (hK:c4l K):∀{l:List C2} {e env:Env} {h:A4},c2h e env ->vd P l e h K ->vd P l env h K
 |[],e,env,h,he,hv=>hK e env h he hv
 |o::r,e,env,h,he,hv=>by
  rcases hv with ⟨hg,hv⟩|⟨hg,av,h',hd,hv⟩|⟨hg,S,hd,hv⟩
  ·exact .inl ⟨he.guard hg,c0h hK (he.drop _) hv⟩
  ·exact .inr (.inl ⟨he.guard hg,av,h',hd.less he,c0h hK (he.put _ _) hv⟩)
  ·exact .inr (.inr ⟨he.guard hg,S,fun K' hK'=>d1r he (hd K' hK'),fun av hav=>c0h hK (he.put _ _) (hv av hav)⟩)
def Vp (P:Program) (L:List C2) (k:Nat) (env:Env) (h:A4) (K:Env ->A4 ->Prop):Prop:=vd P (L.drop k) env h K
def noC:a2r:=fun _ _ _=>none
theorem e2e {P:Program}:b2e P noC:=fun f args h a h' he=>by cases he
theorem c7k {b:List C2}:∀{a:List C2} {env:Env} {h:A4} {r:Env × A4} {K:Env ->A4 ->Prop},c3z false noC a env h=some r ->vd P b r.1 r.2 K ->vd P (a++b) env h K
 |[],env,h,r,K,he,hk=>by cases he; exact hk
 |o::l,env,h,r,K,he,hk=>by
  simp only [c3z,Option.bind_eq_some_iff] at he
  obtain ⟨g,h1,h2⟩:=he
  cases g with
  |true=>
   simp only [Option.bind_eq_some_iff] at h2
   obtain ⟨⟨a,h'⟩,h3,h4⟩:=h2
   exact .inr (.inl ⟨h1,a,h',fun K hk=>b21 e2e h3 hk,c7k h4 hk⟩)
  |false=>exact .inl ⟨h1,c7k h2 hk⟩
theorem f1x (hk:Vp P L 0 env h K):V P L env h K:=⟨c3d hk⟩
theorem f0a (m:Nat) (env':Env) (h':A4) (he:c3z false noC ((L.drop k).take m) env h=some (env',h')) {k':Nat} (hk':k+m=k') (hk:Vp P L k' env' h' K):Vp P L k env h K:=by
 subst hk'
 show vd P (L.drop k) env h K
 rw [<-List.take_append_drop m (L.drop k),List.drop_drop]
 exact c7k he hk
theorem e2p {o:C2} (hl:L[k]? =some o) (hg:I9 env o.guard=some true) {av:AV} {env1:Env} (ha:a12 P o.op env h av h') {k':Nat} (hk':k+1=k') (he:b22 env o.dst av=env1) (hk:Vp P L k' env1 h' K):Vp P L k env h K:=by
 subst hk' he
 obtain ⟨hlt,rfl⟩:=List.getElem?_eq_some_iff.1 hl
 show vd P (L.drop k) env h K
 rw [List.drop_eq_getElem_cons hlt]
 exact .inr (.inl ⟨hg,av,h',ha,hk⟩)
theorem g0i {o:C2} (hl:L[k]? =some o) (hg:I9 env o.guard=some true) (S:AV ->Prop) (ha:∀K':AV ->A4 ->Prop,(∀av,S av ->K' av h) ->aop P o.op env h K') (hk:∀av,S av ->Vp P L (k+1) (b22 env o.dst av) h K):Vp P L k env h K:=by
 obtain ⟨hlt,rfl⟩:=List.getElem?_eq_some_iff.1 hl
 show vd P (L.drop k) env h K
 rw [List.drop_eq_getElem_cons hlt]
 exact .inr (.inr ⟨hg,S,ha,hk⟩)
theorem g3i (hl:L.drop k=[]) (hk:K env h):Vp P L k env h K:=by
 show vd P (L.drop k) env h K
 rw [hl]; exact hk
theorem d6y {l:List C2} (hK:c4l K):c4l fun F h'=>vd P l F h' K:=fun e env h he hv=>c0h hK he hv
theorem f44 {g:FuncId} {f:J6} {args:List J6} {l l':List AV} {r:AV} (hf:f.ev env=some (.clo (.func g) [] [])) (ha:evs env args=some l) (hl:l.map nz=l') (hgl:S6 h.globs=true) (hp:plainL l'=true) (hc:C1 P h.globs g l' r):a12 P (.call f args) env h r h:=
 fun K hk=>(d3z hf ha (c64 hc hgl hl hp hk)).out
theorem f7f {g:FuncId} {f:J6} {args:List J6} {l l' first captured:List AV} {r:AV} (hf:f.ev env=some (.clo (.func g) first captured)) (ha:evs env args=some l) (hl:(first++l++captured).map nz=l') (hgl:S6 h.globs=true) (hp:plainL l'=true) (hc:C1 P h.globs g l' r):a12 P (.call f args) env h r h:=
 fun K hk=>(f5p hf ha (c64 hc hgl hl hp hk)).out
theorem d4z:∀(e:Env),e.map (fun p=>get env p.1)=e.map (fun p=>some p.2) ->c61 e env
 |[],_=>trivial
 |(t,a)::e,h=>by
  simp only [List.map_cons,List.cons.injEq] at h
  exact ⟨h.1,d4z e h.2⟩
end
def d7l (P:Program) (c:Code) (Q:Exit ->Act ->World ->Prop) (a:Act) (w:World):Prop:=∀b k cs,∃e a' w',Q e a' w' /\ Arrives P (lone (b.at a (.code c::.inLoop c::k)) cs w) b k cs e a' w'
theorem d4s {P:Program} {Q:Exit ->Act ->World ->Prop} {a:Act} {w:World} {c:Code} (hx:c.wp P (Exit.then (d7l P c Q) Q) a w):d7l P c Q a w:=by
 intro b k cs
 obtain ⟨e,a₁,w₁,hq,harr⟩:=hx b (.inLoop c::k) cs
 cases e with
 |normal=>
  obtain ⟨e₂,a₂,w₂,hq₂,harr₂⟩:=hq b k cs
  exact ⟨e₂,a₂,w₂,hq₂,.of_steps (Steps.trans harr (.one step_inLoop)) harr₂⟩
 |exit id=>exact ⟨_,a₁,w₁,hq,.pass (x:=.inLoop c) rfl (fun _ _=>.inl (by simp)) harr⟩
 |goto l=>exact ⟨_,a₁,w₁,hq,.pass (x:=.inLoop c) rfl (fun _ _=>.inl (by simp)) harr⟩
 |ret=>exact ⟨_,a₁,w₁,hq,.pass (x:=.inLoop c) rfl (fun _ _=>.inl (by simp)) harr⟩
 |panic ch=>exact ⟨_,a₁,w₁,hq,.pass (x:=.inLoop c) rfl (fun _ _=>.inl (by simp)) harr⟩
 |outgrown=>exact ⟨_,a₁,w₁,hq,.pass (x:=.inLoop c) rfl (fun _ _=>.inl (by simp)) harr⟩
theorem f0t {P:Program} {Q:Exit ->Act ->World ->Prop} {a:Act} {w:World} {c:Code} (hx:d7l P c Q a w):(Code.loop c).wp P Q a w:=by
 intro b k cs
 obtain ⟨e,a',w',hq,harr⟩:=hx b k cs
 exact ⟨e,a',w',hq,.of_steps (.one step_loop) harr⟩
theorem d7l.mono {P:Program} {Q Q':Exit ->Act ->World ->Prop} {a:Act} {w:World} {c:Code} (hq:∀e a w,Q e a w ->Q' e a w) (hx:d7l P c Q a w):d7l P c Q' a w:=by
 intro b k cs
 obtain ⟨e,a',w',h1,harr⟩:=hx b k cs
 exact ⟨e,a',w',hq _ _ _ h1,harr⟩
section
variable {P:Program} {h h':A4} {env env':Env} {N:Nat} {Q:Exit ->Env ->A4 ->Prop} {x:O1}
end
section
variable {P:Program} {h:A4} {env:Env} {α:Type}
def bI (s:ByteArray):List Int:=s.data.toList.map fun b=>(b.toNat:Int)
theorem f9w {x:J6} {s:ByteArray} (hx:x.ev env=some (.v (.string s))):a12 P (.len true x) env h (.v (.int .i64 s.size)) h:=fun K hk=>by
 simp only [aop,hx,wv,d0z]; exact hk
theorem g7a {x:J6} {l:List α} {e:α ->List AV} {tok:Tok} (hx:x.ev env=some (.sl (List.map e l) tok)):a12 P (.len false x) env h (.v (.int .i64 l.length)) h:=fun K hk=>by
 simp only [aop,hx,wv,d0z,List.length_map]; exact hk
theorem f5m {size:Nat} {x i:J6} {l:List α} {e' e:α ->List AV} {tok:Tok} {k:IntKind} {n:Int} {y:α} (hx:x.ev env=some (.sl (List.map e' l) tok)) (hi:i.ev env=some (.v (.int k n))) (h0:0<=n) (hy:l[n.toNat]? =some y) (he:e' y=e y) (hs:(e y).length=size):a12 P (.idxSl size x i) env h (.elt (e y) 0) h:=fun K hk=>by
 simp only [aop,hx,hi,wv,c3m]
 obtain ⟨hlt,rfl⟩:=List.getElem?_eq_some_iff.1 hy
 have hg:(List.map e' l).getD n.toNat []=e l[n.toNat]:=by
  rw [List.getD_eq_getElem?_getD,List.getElem?_map,hy]; simpa using he
 rw [hg,List.length_map]
 exact ⟨⟨h0,by omega⟩,hs,hk⟩
theorem g3s {x i:J6} {s:ByteArray} {k:IntKind} {n:Int} (hx:x.ev env=some (.v (.string s))) (hi:i.ev env=some (.v (.int k n))) (h0:0<=n /\ n<(s.size:Int)):a12 P (.idxS x i) env h (.v (.int .u8 (F0 s n.toNat))) h:=fun K hk=>by
 simp only [aop,hx,hi,wv,c2l]; exact ⟨h0,hk⟩
theorem f07 {x:J6} {lo hi:Option J6} {s:ByteArray} {lv hv:Option AV} {l u:Int} (hx:x.ev env=some (.v (.string s))) (h1:evo env lo=some lv) (h2:evo env hi=some hv) (h3:F5 0 lv=some l) (h4:F5 s.size hv=some u) (h0:0<=l /\ l<=u /\ u<=(s.size:Int)):a12 P (.sliceS x lo hi) env h (.v (.string (s.extract l.toNat u.toNat))) h:=fun K hk=>by
 simp only [aop,hx,h1,h2,wv,c3u,h3,h4]; exact ⟨h0,hk⟩
theorem d3x {e':α ->List AV} {l:List α} {hv:Option AV}:F5 (List.map e' l).length hv=F5 l.length hv:=by rw [List.length_map]
theorem e9w {size:Nat} {x:J6} {lo hi:Option J6} {l:List α} {e':α ->List AV} {tok:Tok} {lv hv:Option AV} {a u:Int} (hx:x.ev env=some (.sl (List.map e' l) tok)) (h1:evo env lo=some lv) (h2:evo env hi=some hv) (h3:F5 0 lv=some a) (h4:F5 l.length hv=some u) (h0:0<=a /\ a<=u /\ u<=(l.length:Int)) (hs:∀y,(e' y).length=size):a12 P (.sliceV size x lo hi none) env h (.sl (List.map e' ((l.take u.toNat).drop a.toNat)) (match lv,hv with|none,none=>tok|_,_=>.no)) h:=fun K hk=>by
 have h5:evo env none=some none:=rfl
 simp only [aop,hx,h1,h2,h5,wv,b06,h3,d3x,h4,List.length_map]
 refine ⟨h0,fun el hel=> ?_, ?_⟩
 ·obtain ⟨y,_,rfl⟩:=List.mem_map.1 hel; exact hs y
 ·rw [<-List.map_take,<-List.map_drop]; cases lv<;>cases hv<;>exact hk
theorem e2j {size:Nat} {x m:J6} {lo hi:Option J6} {l:List α} {e':α ->List AV} {tok:Tok} {lv hv:Option AV} {k:IntKind} {a u:Int} (hx:x.ev env=some (.sl (List.map e' l) tok)) (h1:evo env lo=some lv) (h2:evo env hi=some hv) (h3:F5 0 lv=some a) (h4:F5 l.length hv=some u) (h5:m.ev env=some (.v (.int k u))) (h6:hv.isSome=true) (h0:0<=a /\ a<=u /\ u<=(l.length:Int)) (hs:∀y,(e' y).length=size):a12 P (.sliceV size x lo hi (some m)) env h (.sl (List.map e' ((l.take u.toNat).drop a.toNat)) .full) h:=fun K hk=>by
 have h7:evo env (some m)=some (some (.v (.int k u))):=by simp only [evo,h5]
 simp only [aop,hx,h1,h2,h7,wv,b06,h3,d3x,h4,List.length_map]
 refine ⟨h0,fun el hel=> ?_,trivial,fun hn=>(by rw [hn] at h6; cases h6), ?_⟩
 ·obtain ⟨y,_,rfl⟩:=List.mem_map.1 hel; exact hs y
 ·rw [<-List.map_take,<-List.map_drop]; exact hk
theorem d4r {op:BinOp} {x y:J6} {a b r:Value} {c:Prop} (hx:x.ev env=some (.v a)) (hy:y.ev env=some (.v b)) (hp:d6p op a b=some (c,r)) (hc:c):a12 P (.bin op x y) env h (.v r) h:=fun K hk=>by
 simp only [aop,hx,hy,wv,d0e,hp]; exact ⟨hc,hk⟩
theorem g1m {x y:J6} {a b:ByteArray} (hx:x.ev env=some (.v (.string a))) (hy:y.ev env=some (.v (.string b))) (h0:((a.size+b.size:Nat):Int)<=9223372036854775807):a12 P (.bin .add x y) env h (.v (.string (a++b))) h:=d4r hx hy rfl (by omega)
theorem d86 {a b:ByteArray}:(a.toList==b.toList)=decide (a=b):=by
 rw [ByteArray.toList_eq,ByteArray.toList_eq]
 by_cases h:a=b
 ·subst h; simp
 ·rw [decide_eq_false h,beq_eq_false_iff_ne]
  intro he
  exact h (ByteArray.ext (Array.ext' he))
theorem g5s {x y:J6} {a b:ByteArray} (hx:x.ev env=some (.v (.string a))) (hy:y.ev env=some (.v (.string b))):a12 P (.bin .eql x y) env h (.v (.bool (decide (a=b)))) h:=by rw [<-d86]; exact d4r hx hy (c:=True) rfl trivial
theorem g5y {x y:J6} {a b:ByteArray} (hx:x.ev env=some (.v (.string a))) (hy:y.ev env=some (.v (.string b))):a12 P (.bin .neq x y) env h (.v (.bool (!decide (a=b)))) h:=by rw [<-d86]; exact d4r hx hy (c:=True) rfl trivial
theorem f5x {c x y:J6} {t a b:Bool} (hc:c.ev env=some (.v (.bool t))) (hx:x.ev env=some (.v (.bool a))) (hy:y.ev env=some (.v (.bool b))):a12 P (.pick c x y) env h (.v (.bool (bif t then a else b))) h:=fun K hk=>by
 simp only [aop,hc,hx,hy,wv,c42]; cases t<;>simp_all
theorem f7d {c x y:J6} {t:Bool} {k:IntKind} {a b:Int} (hc:c.ev env=some (.v (.bool t))) (hx:x.ev env=some (.v (.int k a))) (hy:y.ev env=some (.v (.int k b))):a12 P (.pick c x y) env h (.v (.int k (bif t then a else b))) h:=fun K hk=>by
 simp only [aop,hc,hx,hy,wv,c42]; cases t<;>simp_all
theorem f6t {c x y:J6} {t:Bool} {a b:ByteArray} (hc:c.ev env=some (.v (.bool t))) (hx:x.ev env=some (.v (.string a))) (hy:y.ev env=some (.v (.string b))):a12 P (.pick c x y) env h (.v (.string (bif t then a else b))) h:=fun K hk=>by
 simp only [aop,hc,hx,hy,wv,c42]; cases t<;>simp_all
theorem g1j {x y:J6} {k k':IntKind} {a b:Int} (hx:x.ev env=some (.v (.int k a))) (hy:y.ev env=some (.v (.int k' b))):a12 P (.minmax false [x,y]) env h (.v (.int k (min a b))) h:=fun K hk=>
 (g0l hx hy (by rw [show (if b<a then b else a)=min a b by omega]; exact hk)).out
theorem f9n {x y:J6} {k k':IntKind} {a b:Int} (hx:x.ev env=some (.v (.int k a))) (hy:y.ev env=some (.v (.int k' b))):a12 P (.minmax true [x,y]) env h (.v (.int k (max a b))) h:=fun K hk=>
 (g31 hx hy (by rw [show (if a<b then b else a)=max a b by omega]; exact hk)).out
theorem f6w (s:ByteArray) (size:Nat) {h:A4}:c4t h size (.v (.string s))=some (List.map (fun n=>[AV.v (.int .u8 n)]) (bI s)):=by
 simp only [c4t,Y2,bI,List.map_map]; rfl
theorem d4j {size byt:Nat} {x y:J6} {Y:AV} {e':α ->List AV} {m:List α} (hx:x.ev env=some .nil) (hy:y.ev env=some Y) (hm:c4t h size Y=some (List.map e' m)) (hs:∀y,(e' y).length=size) (h0:m.length*byt<=140737488355328):a12 P (.append size byt x y) env h (.sl (List.map e' m) (.own h.bufs.length)) ⟨h.blks,h.bufs++[(m.length,size)],h.globs⟩:=fun K hk=>by
 simp only [aop,hx,hy,wv]
 refine .inl ?_
 simp only [b2z,hm,List.length_map]
 exact ⟨fun el hel=>by obtain ⟨y,_,rfl⟩:=List.mem_map.1 hel; exact hs y,h0,hk⟩
theorem d5j {size byt id:Nat} {x y:J6} {Y:AV} {e':α ->List AV} {l m:List α} (hx:x.ev env=some (.sl (List.map e' l) (.own id))) (hy:y.ev env=some Y) (hm:c4t h size Y=some (List.map e' m)) (hb:h.bufs[id]? =some (l.length,size)) (hs:∀y,(e' y).length=size) (h0:(l.length+m.length)*byt<=140737488355328):a12 P (.append size byt x y) env h (.sl (List.map e' (l++m)) (.own id)) ⟨h.blks,h.bufs.set id ((l++m).length,size),h.globs⟩:=fun K hk=>by
 simp only [aop,hx,hy,wv]
 refine .inl ?_
 simp only [b2z,hm,List.length_map]
 refine ⟨fun el hel=>by obtain ⟨y,_,rfl⟩:=List.mem_map.1 hel; exact hs y,fun el hel=>by obtain ⟨y,_,rfl⟩:=List.mem_map.1 hel; exact hs y,hb,h0, ?_⟩
 rw [<-List.map_append,<-List.length_append]; exact hk
theorem d2h {size byt:Nat} {x y:J6} {X Y:AV} {e':α ->List AV} {l m:List α} {els:List (List AV)} (hx:x.ev env=some (.sl els .full)) (hy:y.ev env=some Y) (hX:els=List.map e' l) (hm:c4t h size Y=some (List.map e' m)) (hs:∀y,(e' y).length=size) (h0:(l.length+m.length)*byt<=140737488355328):a12 P (.append size byt x y) env h (.sl (List.map e' (l++m)) (.own h.bufs.length)) ⟨h.blks,h.bufs++[((l++m).length,size)],h.globs⟩:=fun K hk=>by
 subst hX
 simp only [aop,hx,hy,wv]
 refine .inl ?_
 simp only [b2z,hm,List.length_map]
 refine ⟨fun el hel=>by obtain ⟨y,_,rfl⟩:=List.mem_map.1 hel; exact hs y,fun el hel=>by obtain ⟨y,_,rfl⟩:=List.mem_map.1 hel; exact hs y,h0, ?_⟩
 rw [<-List.map_append,<-List.length_append]; exact hk
theorem f6x {x:J6} {s:ByteArray} (hx:x.ev env=some (.v (.string s))):a12 P (.bytes x) env h (.sl (List.map (fun n=>[AV.v (.int .u8 n)]) (bI s)) (.own h.bufs.length)) ⟨h.blks,h.bufs++[((bI s).length,1)],h.globs⟩:=fun K hk=>by
 simp only [aop,hx,wv,d5y]
 have e:Y2 s.data.toList=List.map (fun n=>[AV.v (.int .u8 n)]) (bI s):=by simp only [Y2,bI,List.map_map]; rfl
 have e2:s.data.toList.length=(bI s).length:=by simp only [bI,List.length_map]
 rw [e,e2]; exact hk
theorem g60 {x:J6} {l:List Int} {t:ByteArray} {tok:Tok} (hx:x.ev env=some (.sl (List.map (fun n=>[AV.v (.int .u8 n)]) l) tok)) (hl:l=bI t):a12 P (.conv .str x) env h (.v (.string t)) h:=fun K hk=>by
 subst hl
 simp only [aop,hx,wv,d47]
 refine ⟨t.data.toList,by simp only [Y2,bI,List.map_map]; rfl, ?_⟩
 have:(⟨t.data.toList.toArray⟩:ByteArray)=t:=by
  apply ByteArray.ext; apply Array.ext'; simp
 rw [this]; exact hk
end
def vs (P:Program) (I:A4 ->Prop):Bool ->List C2 ->Env ->A4 ->(Env ->A4 ->Prop) ->Prop
 |_,[],env,h,K=>K env h
 |b,o::r,env,h,K=>
  (I9 env o.guard=some false /\ vs P I b r (b38 env o.dst) h K)\/
  (I9 env o.guard=some true /\ V3 o.op=true /\ ∃av,(∀h2,I h2 ->c9m P o.op env h2 av) /\ vs P I b r (b22 env o.dst av) h K)\/
  (I9 env o.guard=some true /\ V3 o.op=false /\ c2x o=false /\ ∃av h',a12 P o.op env h av h' /\ I h' /\ vs P I false r (b22 env o.dst av) h' K)\/
  (b=true /\ ∃cells,o.op=.alloc cells /\ o.guard=none /\ vs P I b r (b22 env o.dst (.ptr h.blks.length 0)) ⟨h.blks++[some cells],h.bufs,h.globs⟩ K)
def e4m (P:Program) (I:A4 ->Prop) (F:Env) (hs:List A4) (j:Nat) (o:C2):Option Nat ->Prop
 |some n=>∃av h1 h2,hs[n - j]? =some h1 /\ hs[n - j+1]? =some h2 /\ aop P o.op F h1 (fun a b=>a=av /\ b=h2) /\ ∀d,o.dst=some d ->get F d=some av
 |none=>∃av,(∀h2,I h2 ->c9m P o.op F h2 av) /\ ∀d,o.dst=some d ->get F d=some av
def GF (F:Env) (D S:Prop):Option (Nat × Bool) ->Prop
 |none=>D
 |some (t,want)=>(∃b,get F t=some (.v (.bool b)) /\ (b=want ->D) /\ (b≠want ->S))\/(get F t=some (.tuple []) /\ S)
def e38 (P:Program) (I:A4 ->Prop) (F:Env) (hs:List A4) (j:Nat) (o:C2) (n:Option Nat):Prop:=
 GF F (e4m P I F hs j o n) (n=none /\ ∀d,o.dst=some d ->get F d=some (.tuple [])) o.guard
structure f7k (P:Program) (I:A4 ->Prop) (l:List C2) (env F:Env) (cur h':A4) (i0:Nat) (az:List (Nat × List AV)) (hs:List A4) (fl:List (Option Nat)) (j:Nat):Prop where
 len:fl.length=l.length
 first:hs[0]? =some ⟨cur.blks++az.map (fun p=>some p.2),cur.bufs,cur.globs⟩
 last:∃n,hs.length=n+1 /\ hs[n]? =some h'
 bound:∀i n:Nat,fl[i]? =some (some n) ->j<=n /\ n+1<j+hs.length
 mono:∀i k a b:Nat,i<k ->fl[i]? =some (some a) ->fl[k]? =some (some b) ->a<b
 onto:∀n:Nat,j<=n ->n+1<j+hs.length ->∃i:Nat,fl[i]? =some (some n)
 keep:∀t,E8 t l=false ->get F t=get env t
 pos:∀(q:Nat) (p:Nat × List AV),az[q]? =some p ->∃i o,p.1=i0+i /\ l[i]? =some o /\ o.op=.alloc p.2 /\ o.guard=none /\ fl[i]? =some none /\ ∀d,o.dst=some d ->get F d=some (.ptr (cur.blks.length+q) 0)
 incr:∀(q r:Nat) (p s:Nat × List AV),q<r ->az[q]? =some p ->az[r]? =some s ->p.1<s.1
 inv:∀(m:Nat) hm,0<m ->hs[m]? =some hm ->I hm
 chg:∀(i n:Nat) (o:C2),fl[i]? =some (some n) ->l[i]? =some o ->V3 o.op=false /\ c2x o=false
 fact:∀(i:Nat) (o:C2) (n:Option Nat),l[i]? =some o ->fl[i]? =some n ->(∃(q:Nat) (p:Nat × List AV),az[q]? =some p /\ p.1=i0+i)\/e38 P I F hs j o n
theorem d03 {F env:Env} {g:Option (Nat × Bool)} {D S:Prop} (hg:I9 env g=some true) (hl:∀t w,g=some (t,w) ->get F t=get env t) (hD:D):GF F D S g:=by
 cases g with
 |none=>exact hD
 |some p=>
  obtain ⟨t,want⟩:=p
  simp only [I9,Option.bind_eq_some_iff] at hg
  obtain ⟨v,h1,h2⟩:=hg
  split at h2
  ·rename_i b
   simp only [Option.some.injEq,beq_iff_eq] at h2
   exact .inl ⟨b,by rw [hl t want rfl]; exact h1,fun _=>hD,fun hn=>absurd h2 hn⟩
  ·cases h2
  ·cases h2
theorem e09 {F env:Env} {g:Option (Nat × Bool)} {D S:Prop} (hg:I9 env g=some false) (hl:∀t w,g=some (t,w) ->get F t=get env t) (hS:S):GF F D S g:=by
 cases g with
 |none=>simp [I9] at hg
 |some p=>
  obtain ⟨t,want⟩:=p
  simp only [I9,Option.bind_eq_some_iff] at hg
  obtain ⟨v,h1,h2⟩:=hg
  split at h2
  ·rename_i b
   simp only [Option.some.injEq,beq_eq_false_iff_ne] at h2
   exact .inl ⟨b,by rw [hl t want rfl]; exact h1,fun h=>absurd h h2,fun _=>hS⟩
  ·exact .inr ⟨by rw [hl t want rfl]; exact h1,hS⟩
  ·cases h2
theorem c3i {P:Program} {I:A4 ->Prop}:∀{l:List C2} {b:Bool} {env:Env} {cur:A4} {i0 j:Nat} {K:Env ->A4 ->Prop},okq l=true ->vs P I b l env cur K ->∃F az hs fl h',f7k P I l env F cur h' i0 az hs fl j /\ K F h' /\ (b=false ->az=[])
 |[],b,env,cur,i0,j,K,_,hk=>⟨env,[],[cur],[],cur,⟨rfl,by simp,⟨0,rfl,rfl⟩,fun i n hi=>by simp at hi,fun i k a b _ hi=>by simp at hi,fun n h1 h2=>by simp at h2; omega,fun _ _=>rfl,fun q p hq=>by simp at hq,fun q r p s _ hq=>by simp at hq,fun m hm h0 h1=>by cases m<;>simp at h0 h1,fun i n o hi=>by simp at hi,fun i o n hi=>by simp at hi⟩,hk,fun _=>rfl⟩
 |o::r,b,env,cur,i0,j,K,hok,hv=>by
  have hok0:=hok
  simp only [okq,Bool.and_eq_true,List.all_eq_true] at hok
  obtain ⟨⟨hlook,hdst⟩,hokr⟩:=hok
  have hwr:∀t,E8 t (o::r)=false ->o.dst≠some t /\ E8 t r=false:=by
   intro t ht
   simp only [E8,List.any_cons,Bool.or_eq_false_iff] at ht ⊢
   exact ⟨by simpa using ht.1,ht.2⟩
  have hd:∀d,o.dst=some d ->E8 d r=false:=by
   intro d hd
   rw [hd] at hdst
   simpa using hdst
  have hl:∀(F:Env),(∀t,E8 t (o::r)=false ->get F t=get env t) ->∀t∈o.looks,get F t=get env t:=fun F hF t ht=>hF t (by simpa using hlook t ht)
  have hcong:∀(F:Env),(∀t,E8 t (o::r)=false ->get F t=get env t) ->∀(h:A4) (K:AV ->A4 ->Prop),aop P o.op env h K ->aop P o.op F h K:=by
   intro F hF h K hq
   rw [<-b3m (e1:=env) (e2:=F)]
   ·exact hq
   ·intro x hx
    cases x with
    |c a=>rfl
    |t n=>
     refine (hl F hF n ?_).symm
     simp only [C2.looks,List.mem_append,List.mem_filterMap]
     exact .inl ⟨.t n,hx,rfl⟩
  have hgl:∀(F:Env),(∀t,E8 t (o::r)=false ->get F t=get env t) ->∀t w,o.guard=some (t,w) ->get F t=get env t:=fun F hF t w hg=>hl F hF t (by simp [C2.looks,hg])
  -- an operation that leaves the heap
  have still:∀(env' F:Env) (az:List (Nat × List AV)) (hs:List A4) (fl:List (Option Nat)) (h':A4),f7k P I r env' F cur h' (i0+1) az hs fl j ->(∀t,o.dst≠some t ->get env' t=get env t) ->((∀t,E8 t (o::r)=false ->get F t=get env t) ->e38 P I F hs j o none) ->f7k P I (o::r) env F cur h' i0 az hs (none::fl) j:=by
   intro env' F az hs fl h' hp henv hf
   have hF:∀t,E8 t (o::r)=false ->get F t=get env t:=fun t ht=>by
    obtain ⟨h1,h2⟩:=hwr t ht
    rw [hp.keep t h2,henv t h1]
   refine ⟨by simp [hp.len],hp.first,hp.last,fun i n hi=> ?_,fun i k a b hik hi hk=> ?_,fun n h1 h2=> ?_,hF,fun q p hqp=> ?_,hp.incr,hp.inv,fun i n o' hi ho=> ?_,fun i o' n hi hn=> ?_⟩
   ·cases i with
    |zero=>simp at hi
    |succ i=>exact hp.bound i n (by simpa using hi)
   ·cases i with
    |zero=>simp at hi
    |succ i=>cases k with
     |zero=>omega
     |succ k=>exact hp.mono i k a b (by omega) (by simpa using hi) (by simpa using hk)
   ·obtain ⟨i,hi⟩:=hp.onto n h1 h2
    exact ⟨i+1,by simpa using hi⟩
   ·obtain ⟨i,o',e1,e2,e3⟩:=hp.pos q p hqp
    exact ⟨i+1,o',by omega,by simpa using e2,by simpa using e3⟩
   ·cases i with
    |zero=>simp at hi
    |succ i=>exact hp.chg i n o' (by simpa using hi) (by simpa using ho)
   ·cases i with
    |zero=>simp at hi hn; subst hi hn; exact .inr (hf hF)
    |succ i=>
     rcases hp.fact i o' n (by simpa using hi) (by simpa using hn) with ⟨q,p,e1,e2⟩|h
     ·exact .inl ⟨q,p,e1,by omega⟩
     ·exact .inr h
  have hputF:∀(av:AV) (F:Env),(∀t,E8 t r=false ->get F t=get (b22 env o.dst av) t) ->∀d,o.dst=some d ->get F d=some av:=fun av F hF d hd'=>by rw [hF d (hd d hd'),Q6,if_pos hd']
  rcases hv with ⟨hg,hv⟩|⟨hg,hq,av,ha,hv⟩|⟨hg,hq,hnew,av,h1,ha,hI,hv⟩|⟨hb,cells,hop,hgd,hv⟩
  ·obtain ⟨F,az,hs,fl,h',hp,hk,has⟩:=c3i (i0:=i0+1) (j:=j) hokr hv
   refine ⟨F,az,hs,none::fl,h',still _ F az hs fl h' hp (fun t ht=>by rw [X4,if_neg ht]) fun hF=> ?_,hk,has⟩
   exact e09 hg (hgl F hF) ⟨rfl,fun d hd'=>by rw [hp.keep d (hd d hd'),X4,if_pos hd']⟩
  ·obtain ⟨F,az,hs,fl,h',hp,hk,has⟩:=c3i (i0:=i0+1) (j:=j) hokr hv
   refine ⟨F,az,hs,none::fl,h',still _ F az hs fl h' hp (fun t ht=>by rw [Q6,if_neg ht]) fun hF=> ?_,hk,has⟩
   exact d03 hg (hgl F hF) ⟨av,fun h2 hi=>hcong F hF h2 _ (ha h2 hi),hputF av F hp.keep⟩
  ·obtain ⟨F,az,hs,fl,h',hp,hk,has⟩:=c3i (i0:=i0+1) (j:=j+1) hokr hv
   have has0:=has rfl
   subst has0
   have hF:∀t,E8 t (o::r)=false ->get F t=get env t:=fun t ht=>by
    obtain ⟨g1,g2⟩:=hwr t ht
    rw [hp.keep t g2,Q6,if_neg g1]
   have hfirst:hs[0]? =some h1:=by rw [hp.first]; simp
   obtain ⟨nl,hnl,hlast⟩:=hp.last
   refine ⟨F,[],cur::hs,some j::fl,h',⟨by simp [hp.len],by simp,⟨nl+1,by simp [hnl],by simpa using hlast⟩,fun i n hi=> ?_,fun i k a b hik hi hk=> ?_,fun n h1 h2=> ?_,hF,fun q p hqp=>by simp at hqp,fun q r p s _ hqp=>by simp at hqp,fun m hm h0 hmm=> ?_,fun i n o' hi ho=> ?_,fun i o' n hi hn=> ?_⟩,hk,fun _=>rfl⟩
   ·cases i with
    |zero=>simp at hi; subst hi; exact ⟨Nat.le_refl _,by simp; omega⟩
    |succ i=>have:=hp.bound i n (by simpa using hi); simp; omega
   ·cases i with
    |zero=>
     simp at hi
     cases k with
     |zero=>omega
     |succ k=>have:=(hp.bound k b (by simpa using hk)).1; omega
    |succ i=>cases k with
     |zero=>omega
     |succ k=>exact hp.mono i k a b (by omega) (by simpa using hi) (by simpa using hk)
   ·by_cases hnj:n=j
    ·subst hnj; exact ⟨0,rfl⟩
    ·obtain ⟨i,hi⟩:=hp.onto n (by omega) (by simp at h2; omega)
     exact ⟨i+1,by simpa using hi⟩
   ·cases m with
    |zero=>omega
    |succ m=>
     cases m with
     |zero=>simp only [Nat.zero_add,List.getElem?_cons_succ] at hmm; rw [hfirst] at hmm; cases hmm; exact hI
     |succ m=>exact hp.inv (m+1) hm (by omega) (by simpa using hmm)
   ·cases i with
    |zero=>simp at hi ho; subst ho; exact ⟨hq,hnew⟩
    |succ i=>exact hp.chg i n o' (by simpa using hi) (by simpa using ho)
   ·cases i with
    |zero=>
     simp at hi hn; subst hi hn
     refine .inr (d03 hg (hgl F hF) ⟨av,cur,h1,by simp,by simpa using hfirst,hcong F hF _ _ (ha _ ⟨rfl,rfl⟩),hputF av F hp.keep⟩)
    |succ i=>
     rcases hp.fact i o' n (by simpa using hi) (by simpa using hn) with ⟨q,p,e1,e2⟩|h
     ·simp at e1
     ·refine .inr ?_
      have up:e4m P I F hs (j+1) o' n ->e4m P I F (cur::hs) j o' n:=by
       intro hdo
       cases n with
       |none=>exact hdo
       |some n=>
        have hb:=(hp.bound i n (by simpa using hn)).1
        obtain ⟨av',g1,g2,e1,e2,e3⟩:=hdo
        have q1:n - j=(n - (j+1))+1:=by omega
        exact ⟨av',g1,g2,by rw [q1]; simpa using e1,by rw [q1]; simpa using e2,e3⟩
      unfold e38 at h ⊢
      cases hgd:o'.guard with
      |none=>rw [hgd] at h; exact up h
      |some g=>
       rw [hgd] at h
       rcases h with ⟨b',q1,q2,q3⟩|h
       ·exact .inl ⟨b',q1,fun hb'=>up (q2 hb'),q3⟩
       ·exact .inr h
  ·obtain ⟨F,az,hs,fl,h',hp,hk,has⟩:=c3i (i0:=i0+1) (j:=j) hokr hv
   have hF:∀t,E8 t (o::r)=false ->get F t=get env t:=fun t ht=>by
    obtain ⟨g1,g2⟩:=hwr t ht
    rw [hp.keep t g2,Q6,if_neg g1]
   refine ⟨F,(i0,cells)::az,hs,none::fl,h',⟨by simp [hp.len],by rw [hp.first]; simp,hp.last,fun i n hi=> ?_,fun i k a b hik hi hk=> ?_,fun n h1 h2=> ?_,hF,fun q p hqp=> ?_,fun q s p t hqs hqp hst=> ?_,hp.inv,fun i n o' hi ho=> ?_,fun i o' n hi hn=> ?_⟩,hk,fun h=>by rw [hb] at h; cases h⟩
   ·cases i with
    |zero=>simp at hi
    |succ i=>exact hp.bound i n (by simpa using hi)
   ·cases i with
    |zero=>simp at hi
    |succ i=>cases k with
     |zero=>omega
     |succ k=>exact hp.mono i k a b (by omega) (by simpa using hi) (by simpa using hk)
   ·obtain ⟨i,hi⟩:=hp.onto n h1 h2
    exact ⟨i+1,by simpa using hi⟩
   ·cases q with
    |zero=>
     simp at hqp; subst hqp
     refine ⟨0,o,rfl,rfl,hop,hgd,rfl,fun d hd'=> ?_⟩
     rw [hputF _ F hp.keep d hd']; simp
    |succ q=>
     obtain ⟨i,o',e1,e2,e3,e4,e5,e6⟩:=hp.pos q p (by simpa using hqp)
     refine ⟨i+1,o',by omega,by simpa using e2,e3,e4,by simpa using e5,fun d hd'=> ?_⟩
     rw [e6 d hd']; simp; omega
   ·cases s with
    |zero=>omega
    |succ s=>
     obtain ⟨i,o',e1,_⟩:=hp.pos s t (by simpa using hst)
     cases q with
     |zero=>simp at hqp; subst hqp; simp; omega
     |succ q=>exact hp.incr q s p t (by omega) (by simpa using hqp) (by simpa using hst)
   ·cases i with
    |zero=>simp at hi
    |succ i=>exact hp.chg i n o' (by simpa using hi) (by simpa using ho)
   ·cases i with
    |zero=>simp at hi; subst hi; exact .inl ⟨0,_,rfl,by simp⟩
    |succ i=>
     rcases hp.fact i o' n (by simpa using hi) (by simpa using hn) with ⟨q,p,e1,e2⟩|h
     ·exact .inl ⟨q+1,p,by simpa using e1,by omega⟩
     ·exact .inr h
def d7p (ord:List (List Nat)) (al:List C2):Bool:=
 (List.range al.length).all fun k=>match al[k]? with
  |some o=> !b8n o||(List.range al.length).all fun i=>match al[i]? with
   |some p=>(!(b8n p&&decide (i<k))||(ord.getD k []).contains i)&&(!c2x p||(ord.getD k []).contains i)
   |none=>true
  |none=>true
theorem d43 {ord:List (List Nat)} {al:List C2} (h:d7p ord al=true) {k i:Nat} {o p:C2} (hk:al[k]? =some o) (hi:al[i]? =some p) (hc:b8n o=true):
  (b8n p=true ->i<k ->i∈ord.getD k []) /\ (c2x p=true ->i∈ord.getD k []):=by
 simp only [d7p,List.all_eq_true,List.mem_range] at h
 have h1:=h k (List.getElem?_eq_some_iff.1 hk).1
 rw [hk] at h1
 simp only [hc,Bool.not_true,Bool.false_or,List.all_eq_true,List.mem_range] at h1
 have h2:=h1 i (List.getElem?_eq_some_iff.1 hi).1
 rw [hi] at h2
 simp only [Bool.and_eq_true,Bool.or_eq_true,Bool.not_eq_true',Bool.and_eq_false_iff,decide_eq_false_iff_not,List.contains_iff_mem] at h2
 refine ⟨fun a b=> ?_,fun a=> ?_⟩
 ·rcases h2.1 with (h3|h3)|h3
  ·rw [a] at h3; cases h3
  ·exact absurd b h3
  ·exact h3
 ·rcases h2.2 with h3|h3
  ·rw [a] at h3; cases h3
  ·exact h3
theorem f42 {P:Program} {I:A4 ->Prop} {ord:List (List Nat)} {al:List C2} {env:Env} {h:A4} {K:Env ->A4 ->Prop} (hok:okq al=true) (hst:d7p ord al=true) (hI:∀h2:A4,(∃ext,h2.blks=h.blks++ext) ->h2.bufs=h.bufs ->h2.globs=h.globs ->I h2) (hv:vs P I true al env h K):
  ∃F h' az hs fl,c92 P ord al env F h h' az hs fl /\ K F h':=by
 obtain ⟨F,az,hs,fl,h',ps,hk,_⟩:=c3i (i0:=0) (j:=0) hok hv
 refine ⟨F,h',az,hs,fl, ?_,hk⟩
 obtain ⟨nl,hnl,hlast⟩:=ps.last
 have hget:∀k n:Nat,fl[k]? =some (some n) ->∃o,al[k]? =some o /\ b8n o=true:=by
  intro k n hkn
  have hkl:k<al.length:=by rw [<-ps.len]; exact (List.getElem?_eq_some_iff.1 hkn).1
  have ho:al[k]? =some al[k]:=List.getElem?_eq_getElem hkl
  obtain ⟨h1,h2⟩:=ps.chg k n _ hkn ho
  exact ⟨_,ho,by unfold b8n; rw [h1,h2]; rfl⟩
 have hpos:∀(q:Nat) (p:Nat × List AV),az[q]? =some p ->∃o,al[p.1]? =some o /\ c2x o=true /\ o.op=.alloc p.2 /\ o.guard=none /\ fl[p.1]? =some none /\ ∀d,o.dst=some d ->get F d=some (.ptr (h.blks.length+q) 0):=by
  intro q p hqp
  obtain ⟨i,o,e1,e2,e3,e4,e5,e6⟩:=ps.pos q p hqp
  have:p.1=i:=by omega
  rw [this]
  exact ⟨o,e2,by unfold c2x; rw [e3,e4],e3,e4,e5,e6⟩
 refine ⟨ps.len,fun i k a b hik hi hk=>⟨ps.mono i k a b hik hi hk, ?_⟩,fun j hj=>ps.onto j (by omega) (by omega), ?_,ps.last,fun i n hi=>by have:=ps.bound i n hi; omega,ps.keep,fun q p hqp=> ?_,fun q r p s hqp hrs hps=> ?_,fun k n hk p hp=> ?_,fun i o n hi hn=> ?_⟩
 ·obtain ⟨o1,h1,h2⟩:=hget i a hi
  obtain ⟨o2,h3,h4⟩:=hget k b hk
  exact (d43 hst h3 h1 h4).1 h2 hik
 ·rw [ps.first]; simp [hA]
 ·obtain ⟨o,e1,_,e2⟩:=hpos q p hqp
  exact ⟨o,e1,e2⟩
 ·rcases Nat.lt_trichotomy q r with hlt|heq|hgt
  ·have:=ps.incr q r p s hlt hqp hrs; omega
  ·exact heq
  ·have:=ps.incr r q s p hgt hrs hqp; omega
 ·obtain ⟨o2,h3,h4⟩:=hget k n hk
  obtain ⟨q,hq⟩:=List.mem_iff_getElem?.1 hp
  obtain ⟨o,e1,e2,_⟩:=hpos q p hq
  exact (d43 hst h3 e1 h4).2 e2
 ·rcases ps.fact i o n hi hn with ⟨q,p,e1,e2⟩|hf
  ·exact .inl ⟨q,p,e1,by omega⟩
  right
  have conv:e4m P I F hs 0 o n ->d1c P F h az hs ord fl i o n:=by
   intro hd
   cases n with
   |some n=>obtain ⟨av,h1,h2,e1,e2,e3⟩:=hd; exact ⟨av,h1,h2,by simpa using e1,by simpa using e2,e3⟩
   |none=>
    obtain ⟨av,hqa,hfd⟩:=hd
    refine ⟨av,0,hs.length - 1,by omega,fun j lst hj _ _ h3=>hqa hj ?_,fun k n _ h=>by omega,.inl (by omega),hfd⟩
    cases j with
    |zero=>
     have:hA h az lst=hj:=Option.some.inj h3
     subst this
     exact hI _ ⟨_,rfl⟩ rfl rfl
    |succ j=>exact ps.inv (j+1) hj (by omega) h3
  unfold d6f
  unfold e38 at hf
  cases hgd:o.guard with
  |none=>rw [hgd] at hf; simp only [hgd]; exact conv hf
  |some g=>
   obtain ⟨t,want⟩:=g
   rw [hgd] at hf
   simp only [hgd]
   rcases hf with ⟨b,h1,h2,h3⟩|hf
   ·exact .inl ⟨b,h1,fun hb=>conv (h2 hb),h3⟩
   ·exact .inr hf
def InS (S:List (Nat × List AV)) (gl:List (Nat × List AV)) (h:A4):Prop:=(∀b c,(b,c)∈S ->h.blks[b]? =some (some c)) /\ h.globs=gl
def inS (S:List (Nat × List AV)) (h:A4):List (Option (Option (List AV))):=S.map fun p=>h.blks[p.1]?
theorem d96 {S gl:List (Nat × List AV)} {h:A4} (h1:inS S h=S.map fun p=>some (some p.2)) (h2:h.globs=gl):InS S gl h:=by
 refine ⟨fun b c hbc=> ?_,h2⟩
 obtain ⟨i,hi⟩:=List.mem_iff_getElem?.1 hbc
 have:=congrArg (fun l=>l[i]?) h1
 simpa [inS,List.getElem?_map,hi] using this
def Sp (P:Program) (S gl:List (Nat × List AV)) (b:Bool) (L:List C2) (k:Nat) (env:Env) (h:A4) (K:Env ->A4 ->Prop):Prop:=vs P (InS S gl) b (L.drop k) env h K
def d51:Nat ->List (Nat × List AV) ->List (Option (List AV))
 |0,_=>[]
 |n+1,S=>d51 n S++[(S.find? fun p=>p.1==n).map (·.2)]
theorem c6q:∀(n:Nat) (S:List (Nat × List AV)),(d51 n S).length=n
 |0,_=>rfl
 |n+1,S=>by simp [d51,c6q n S]
theorem d8j:∀(n:Nat) (S:List (Nat × List AV)) (k:Nat) (c:List AV),(d51 n S)[k]? =some (some c) ->(k,c)∈S
 |0,_,k,c,h=>by simp [d51] at h
 |n+1,S,k,c,h=>by
  by_cases hk:k<n
  ·refine d8j n S k c ?_
   rw [d51,List.getElem?_append_left (by rw [c6q]; exact hk)] at h
   exact h
  ·rw [d51,List.getElem?_append_right (by rw [c6q]; omega),c6q] at h
   by_cases he:k=n
   ·subst he
    simp only [Nat.sub_self,List.getElem?_cons_zero,Option.some.injEq,Option.map_eq_some_iff] at h
    obtain ⟨p,h1,rfl⟩:=h
    have h2:=List.find?_some h1
    have h3:=List.mem_of_find?_eq_some h1
    have:p.1=k:=by simpa using h2
    subst this
    exact h3
   ·rw [List.getElem?_eq_none (by simp; omega)] at h; cases h
theorem d7e {S gl:List (Nat × List AV)} {n:Nat} {h:A4} (hi:InS S gl h) {m:Option Nat} {p a:AV} (hl:b28 ⟨d51 n S,[],gl⟩ m p=some a):b28 h m p=some a:=by
 have hp:∀q,a3e ⟨d51 n S,[],gl⟩ p=some q ->a3e h p=some q:=by
  intro q hq
  cases p with
  |ptr k off=>
   simp only [a3e] at hq ⊢
   split at hq
   ·rename_i cells hc
    rw [hi.1 k cells (d8j n S k cells hc)]
    exact hq
   ·cases hq
  |glob k=>simp only [a3e] at hq ⊢; rw [hi.2]; exact hq
  |elt c o=>exact hq
  |_=>simp [a3e] at hq
 unfold b28 at hl ⊢
 cases hq:a3e ⟨d51 n S,[],gl⟩ p with
 |none=>rw [hq] at hl; cases hl
 |some q=>rw [hq] at hl; rw [hp q hq]; exact hl
def vsC (n:Nat) (S gl:List (Nat × List AV)) (b:Bool):List C2 ->Env ->A4 ->Option (Env × A4)
 |[],env,h=>some (env,h)
 |o::r,env,h=>(I9 env o.guard).bind fun g=>match g with
  |false=>vsC n S gl b r (b38 env o.dst) h
  |true=>match o.op,o.guard with
   |.alloc cells,none=>if b=true then vsC n S gl b r (b22 env o.dst (.ptr h.blks.length 0)) ⟨h.blks++[some cells],h.bufs,h.globs⟩ else none
   |_,_=>if V3 o.op=true then (c91 false noC o.op env ⟨d51 n S,[],gl⟩).bind fun p=>vsC n S gl b r (b22 env o.dst p.1) h else none
theorem d31 {P:Program} {n:Nat} {S gl:List (Nat × List AV)} {o:AOp} {env:Env} {a:AV} {h1:A4} (hq:V3 o=true) (he:c91 false noC o env ⟨d51 n S,[],gl⟩=some (a,h1)):∀h2,InS S gl h2 ->c9m P o env h2 a:=by
 intro h2 hi
 have hsame:h1=⟨d51 n S,[],gl⟩:=b4w (fun f args h a h' he=>by cases he) hq he
 subst hsame
 by_cases hp:c44 o=true
 ·exact b7h hp (b21 (K:=fun x y=>x=a /\ y=_) e2e he ⟨rfl,rfl⟩)
 ·cases o<;>first|(exact absurd rfl hp)|(cases hq; done)|skip
  case load m x=>
   simp only [c91,Option.bind_eq_some_iff] at he
   obtain ⟨p,h1,h3⟩:=he
   obtain ⟨h4,_⟩:=D9 h3
   show wv (x.ev env) _
   rw [h1]
   exact b8i (K:=fun x=>x=a /\ h2=h2) (d7e hi h4) ⟨rfl,rfl⟩
  case call f args=>
   simp only [c91,Option.bind_eq_some_iff] at he
   obtain ⟨fv,h1,l,h3,h4⟩:=he
   split at h4<;>cases h4
theorem d87 {P:Program} {n:Nat} {S gl:List (Nat × List AV)} {b:Bool} {t:List C2} {K:Env ->A4 ->Prop}:∀{a:List C2} {env:Env} {h:A4} {r:Env × A4},vsC n S gl b a env h=some r ->vs P (InS S gl) b t r.1 r.2 K ->vs P (InS S gl) b (a++t) env h K
 |[],env,h,r,he,hk=>by cases he; exact hk
 |o::a,env,h,r,he,hk=>by
  simp only [vsC,Option.bind_eq_some_iff] at he
  obtain ⟨g,h1,h2⟩:=he
  cases g with
  |false=>exact .inl ⟨h1,d87 h2 hk⟩
  |true=>
   simp only at h2
   split at h2
   ·rename_i cells ho hgd
    split at h2
    ·rename_i hb
     exact .inr (.inr (.inr ⟨hb,cells,ho,hgd,d87 h2 hk⟩))
    ·cases h2
   ·split at h2
    ·rename_i hq
     simp only [Option.bind_eq_some_iff] at h2
     obtain ⟨⟨av,hx⟩,h3,h4⟩:=h2
     exact .inr (.inl ⟨h1,hq,av,d31 hq h3,d87 h4 hk⟩)
    ·cases h2
section
variable {P:Program} {h h':A4} {env:Env} {N:Nat} {Q:Exit ->Env ->A4 ->Prop} {K:Env ->A4 ->Prop} {L:List C2} {k:Nat} {S gl:List (Nat × List AV)} {b:Bool}
theorem d74 (n m:Nat) (env':Env) (h':A4) (he:vsC n S gl b ((L.drop k).take m) env h=some (env',h')) {k':Nat} (hk':k+m=k') (hk:Sp P S gl b L k' env' h' K):Sp P S gl b L k env h K:=by
 subst hk'
 show vs P _ b (L.drop k) env h K
 rw [<-List.take_append_drop m (L.drop k),List.drop_drop]
 exact d87 he hk
theorem h1k {o:C2} (hl:L[k]? =some o) (hg:I9 env o.guard=some true) (hq:V3 o.op=true) {av:AV} {env1:Env} (ha:∀h2,InS S gl h2 ->a12 P o.op env h2 av h2) {k':Nat} (hk':k+1=k') (he:b22 env o.dst av=env1) (hk:Sp P S gl b L k' env1 h K):Sp P S gl b L k env h K:=by
 subst hk' he
 obtain ⟨hlt,rfl⟩:=List.getElem?_eq_some_iff.1 hl
 show vs P _ b (L.drop k) env h K
 rw [List.drop_eq_getElem_cons hlt]
 exact .inr (.inl ⟨hg,hq,av,fun h2 hi=>(ha h2 hi).q,hk⟩)
theorem f9d {o:C2} (hl:L[k]? =some o) (hg:I9 env o.guard=some true) (hq:V3 o.op=false) (hn:c2x o=false) {av:AV} {env1:Env} (ha:a12 P o.op env h av h') (hi:inS S h'=S.map fun p=>some (some p.2)) (hgl:h'.globs=gl) {k':Nat} (hk':k+1=k') (he:b22 env o.dst av=env1) (hk:Sp P S gl false L k' env1 h' K):Sp P S gl b L k env h K:=by
 subst hk' he
 obtain ⟨hlt,rfl⟩:=List.getElem?_eq_some_iff.1 hl
 show vs P _ b (L.drop k) env h K
 rw [List.drop_eq_getElem_cons hlt]
 exact .inr (.inr (.inl ⟨hg,hq,hn,av,h',ha,d96 hi hgl,hk⟩))
theorem c3x {I:A4 ->Prop} {K:Env ->A4 ->Prop} (hK:c4l K):∀{l:List C2} {b:Bool} {e env:Env} {h:A4},c2h e env ->vs P I b l e h K ->vs P I b l env h K
 |[],b,e,env,h,he,hv=>hK e env h he hv
 |o::r,b,e,env,h,he,hv=>by
  rcases hv with ⟨hg,hv⟩|⟨hg,hq,av,ha,hv⟩|⟨hg,hq,hn,av,h',ha,hi,hv⟩|⟨hb,cells,ho,hg,hv⟩
  ·exact .inl ⟨he.guard hg,c3x hK (he.drop _) hv⟩
  ·exact .inr (.inl ⟨he.guard hg,hq,av,fun h2 hi=>d1r he (ha h2 hi),c3x hK (he.put _ _) hv⟩)
  ·exact .inr (.inr (.inl ⟨he.guard hg,hq,hn,av,h',ha.less he,hi,c3x hK (he.put _ _) hv⟩))
  ·exact .inr (.inr (.inr ⟨hb,cells,ho,hg,c3x hK (he.put _ _) hv⟩))
theorem f0f (S:List (Nat × List AV)) {ord:List (List Nat)} {al tl:List C2} (hok:okq al=true) (hst:d7p (clo ord) al=true) (hS:inS S h=S.map fun p=>some (some p.2)) (hv:Sp P S h.globs true al 0 env h fun F h'=>vd P tl F h' fun env' h'=>Q .normal env' h'):C P N (.drawn ord al tl) Q env h:=by
 have hv':vs P (InS S h.globs) true al env h fun F h'=>vd P tl F h' fun env' h'=>Q .normal env' h':=hv
 obtain ⟨F,h',az,hs,fl,hn,hk⟩:=f42 hok hst (fun h2 ⟨ext,he⟩ _ hgl=>⟨fun b c hbc=>by
  have:=(d96 hS rfl:InS S h.globs h).1 b c hbc
  rw [he,List.getElem?_append_left (List.getElem?_eq_some_iff.1 this).1]; exact this,hgl⟩) hv'
 exact ⟨c0k hn (c3d hk)⟩
end
mutual
def low (m:List Bool) (n:Nat):AV ->Bool
 |.v _=>true
 |.ptr k _=>m.getD k false
 |.elt cells _=>lowL m n cells
 |.nil=>true
 |.sl els tok=>(match tok with|.own id=>decide (id<n)|_=>true)&&lowLL m n els
 |.agg cells=>lowL m n cells
 |.tuple vs=>lowL m n vs
 |.iface _ x=>low m n x
 |.clo _ first captured=>lowL m n first&&lowL m n captured
 |.glob _=>true
 |.row k _ _ _ _=>m.getD k false
 |.it _ _=>true
def lowL (m:List Bool) (n:Nat):List AV ->Bool
 |[]=>true
 |a::r=>low m n a&&lowL m n r
def lowLL (m:List Bool) (n:Nat):List (List AV) ->Bool
 |[]=>true
 |a::r=>lowL m n a&&lowLL m n r
end
mutual
theorem d3j (m:List Bool) (n:Nat):∀a,plain a=true ->low m n a=true
 |.v _,_=>rfl
 |.ptr _ _,h=>by cases h
 |.elt cells _,h=>by simp only [plain,low] at h ⊢; exact lowL_plain m n cells h
 |.nil,_=>rfl
 |.sl els tok,h=>by
  simp only [plain,low,Bool.and_eq_true] at h ⊢
  refine ⟨?_,lowLL_plain m n els h.2⟩
  cases tok<;>first|rfl|(simp at h)
 |.agg cells,h=>by simp only [plain,low] at h ⊢; exact lowL_plain m n cells h
 |.tuple cells,h=>by simp only [plain,low] at h ⊢; exact lowL_plain m n cells h
 |.iface _ x,h=>by simp only [plain,low] at h ⊢; exact d3j m n x h
 |.clo _ a b,h=>by simp only [plain,low,Bool.and_eq_true] at h ⊢; exact ⟨lowL_plain m n a h.1,lowL_plain m n b h.2⟩
 |.glob _,_=>rfl
 |.row _ _ _ _ _,h=>by cases h
 |.it _ _,h=>by cases h
theorem lowL_plain (m:List Bool) (n:Nat):∀l,plainL l=true ->lowL m n l=true
 |[],_=>rfl
 |a::r,h=>by simp only [plainL,lowL,Bool.and_eq_true] at h ⊢; exact ⟨d3j m n a h.1,lowL_plain m n r h.2⟩
theorem lowLL_plain (m:List Bool) (n:Nat):∀l,plainLL l=true ->lowLL m n l=true
 |[],_=>rfl
 |a::r,h=>by simp only [plainLL,lowLL,Bool.and_eq_true] at h ⊢; exact ⟨lowL_plain m n a h.1,lowLL_plain m n r h.2⟩
end
theorem a4t {m:List Bool} {n:Nat}:∀{l:List AV},lowL m n l=true ->∀(i:Nat) (av:AV),l[i]? =some av ->low m n av=true
 |[],_,i,av,h=>by simp at h
 |a::r,hp,i,av,h=>by
  simp only [lowL,Bool.and_eq_true] at hp
  cases i with
  |zero=>simp at h; subst h; exact hp.1
  |succ i=>exact a4t hp.2 i av (by simpa using h)
theorem c2e {m:List Bool} {n:Nat}:∀{l:List (List AV)},lowLL m n l=true ->∀(i:Nat) (el:List AV),l[i]? =some el ->lowL m n el=true
 |[],_,i,av,h=>by simp at h
 |a::r,hp,i,av,h=>by
  simp only [lowLL,Bool.and_eq_true] at hp
  cases i with
  |zero=>simp at h; subst h; exact hp.1
  |succ i=>exact c2e hp.2 i av (by simpa using h)
def Sg.cut (σ:Sg) (m:List Bool) (n:Nat):Sg:={σ with blk:=fun k=>if m.getD k false=true then σ.blk k else none,buf:=fun id=>if id<n then σ.buf id else none}
theorem d1x {σ:Sg} {m:List Bool} {n b o:Nat} (h:(σ.cut m n).own b o):σ.own b o:=by
 rcases h with ⟨k,hk⟩|⟨id,e,he,hs⟩
 ·simp only [Sg.cut] at hk; split at hk
  ·exact .inl ⟨k,hk⟩
  ·cases hk
 ·simp only [Sg.cut] at he; split at he
  ·exact .inr ⟨id,e,he,hs⟩
  ·cases he
theorem d25 {σ:Sg} {m:List Bool} {n b o:Nat} (h:(σ.cut m n).open_ b o):σ.open_ b o:=h.elim .inl fun h=>.inr (d1x h)
theorem Rel.cut {σ:Sg} {m:List Bool} {n:Nat} {av:AV} {x:Value} (hr:Rel σ av x):low m n av=true ->Rel (σ.cut m n) av x:=by
 induction hr with
 |v x h=>intro _; exact .v x h
 |ptr k off b h=>intro hl; exact .ptr k off b (by simp only [Sg.cut]; rw [if_pos (by simpa [low] using hl)]; exact h)
 |elt cells off b o xs hc hr ih=>
  intro hl
  exact .elt cells off b o xs (fun i av hi=>⟨(hc i av hi).1,fun h=>(hc i av hi).2.1 (d25 h),(hc i av hi).2.2⟩) fun i av hi=>ih i av hi (a4t (by simpa [low] using hl) i av hi)
 |nil=>intro _; exact .nil
 |glob k=>intro _; exact .glob k
 |row k off size len capm b cap h hc hm hx=>intro hl; exact .row k off size len capm b cap (by simp only [Sg.cut]; rw [if_pos (by simpa [low] using hl)]; exact h) hc hm hx
 |sl0 tok ht=>
  intro hl
  refine .sl0 tok ?_
  cases tok with
  |own id=>
   obtain ⟨e,h1,h2⟩:=ht
   refine ⟨e, ?_,h2⟩
   simp only [low,Bool.and_eq_true,decide_eq_true_eq] at hl
   simp only [Sg.cut]; rw [if_pos hl.1]; exact h1
  |_=>exact ht
 |slx tok a cap ht hc=>
  intro hl
  refine .slx tok a cap ?_ hc
  cases tok with
  |own id=>
   obtain ⟨e,h1,h2⟩:=ht
   refine ⟨e, ?_,h2⟩
   simp only [low,Bool.and_eq_true,decide_eq_true_eq] at hl
   simp only [Sg.cut]; rw [if_pos hl.1]; exact h1
  |_=>exact ht
 |sl els tok b o cap size xs hs hcap ht hz hc hr ih=>
  intro hl
  simp only [low,Bool.and_eq_true] at hl
  refine .sl els tok b o cap size xs hs hcap ?_ (fun id e h1 h2=> ?_) (fun i el hi j av hj=>⟨(hc i el hi j av hj).1,fun h=>(hc i el hi j av hj).2.1 (d25 h),(hc i el hi j av hj).2.2⟩) fun i el hi j av hj=>ih i el hi j av hj (a4t (c2e hl.2 i el hi) j av hj)
  ·cases tok with
   |own id=>
    obtain ⟨e,h1,h2⟩:=ht
    refine ⟨e, ?_,h2⟩
    simp only [Sg.cut]; rw [if_pos (by simpa using hl.1)]; exact h1
   |_=>exact ht
  ·simp only [Sg.cut] at h2; split at h2
   ·exact hz id e h1 h2
   ·cases h2
 |agg cells xs hn hc x hx hr ih=>intro hl; exact .agg cells xs hn hc x hx fun i av hi=>ih i av hi (a4t (by simpa [low] using hl) i av hi)
 |tuple vs xs hn x hx hr ih=>intro hl; exact .tuple vs xs hn x hx fun i av hi=>ih i av hi (a4t (by simpa [low] using hl) i av hi)
 |iface t av x h ih=>intro hl; exact .iface t av x (ih (by simpa [low] using hl))
 |clo fn first captured fs cs hn hm x y hx hy hr hq ih1 ih2=>
  intro hl
  simp only [low,Bool.and_eq_true] at hl
  exact .clo fn first captured fs cs hn hm x y hx hy (fun i av hi=>ih1 i av hi (a4t hl.1 i av hi)) fun i av hi=>ih2 i av hi (a4t hl.2 i av hi)
theorem F3.cut {σ:Sg} {m:List Bool} {n:Nat} {cells:List AV} {vs:List Value} (hc:F3 σ cells vs) (hl:lowL m n cells=true):F3 (σ.cut m n) cells vs:=by
 refine ⟨hc.1,fun i av hi=> ?_⟩
 obtain ⟨h1,x,h2,h3⟩:=hc.2 i av hi
 exact ⟨h1,x,h2,h3.cut (a4t hl i av hi)⟩
def a9l (m:List Bool) (n:Nat):Env ->Bool
 |[]=>true
 |(_,a)::e=>low m n a&&a9l m n e
def a6x (m:List Bool) (n:Nat):List (Option (List AV)) ->Bool
 |[]=>true
 |some c::r=>lowL m n c&&a6x m n r
 |none::r=>a6x m n r
theorem c01 {m:List Bool} {n:Nat}:∀{e:Env} {t:Nat} {a:AV},a9l m n e=true ->get e t=some a ->low m n a=true
 |[],_,_,_,h=>by cases h
 |(u,b)::e,t,a,hl,h=>by
  simp only [a9l,Bool.and_eq_true] at hl
  simp only [get] at h
  split at h
  ·cases h; exact hl.1
  ·exact c01 hl.2 h
theorem d23 {m:List Bool} {n:Nat}:∀{l:List (Option (List AV))} {i:Nat} {c:List AV},a6x m n l=true ->l[i]? =some (some c) ->lowL m n c=true
 |[],_,_,_,h=>by simp at h
 |o::r,i,c,hl,h=>by
  cases i with
  |zero=>simp at h; subst h; simp only [a6x,Bool.and_eq_true] at hl; exact hl.1
  |succ i=>
   refine d23 (l:=r) (i:=i) ?_ (by simpa using h)
   cases o with
   |none=>exact hl
   |some c'=>simp only [a6x,Bool.and_eq_true] at hl; exact hl.2
def Z8:List Bool ->List (Option (List AV)) ->List (Option (List AV))
 |b::m,x::l=>(if b=true then x else none)::Z8 m l
 |_,_=>[]
theorem b1t:∀{m:List Bool} {l:List (Option (List AV))} {k:Nat} {c:List AV},(Z8 m l)[k]? =some (some c) ->m.getD k false=true /\ l[k]? =some (some c)
 |[],l,k,c,h=>by simp [Z8] at h
 |b::m,[],k,c,h=>by simp [Z8] at h
 |b::m,x::l,k,c,h=>by
  cases k with
  |zero=>
   simp only [Z8,List.getElem?_cons_zero,Option.some.injEq] at h
   split at h
   ·rename_i hb; subst h; exact ⟨hb,rfl⟩
   ·cases h
  |succ k=>exact b1t (m:=m) (l:=l) (k:=k) (by simpa [Z8] using h)
theorem d2u:∀{m:List Bool} {l:List (Option (List AV))} {k:Nat} {c:List AV},m.getD k false=true ->l[k]? =some (some c) ->(Z8 m l)[k]? =some (some c)
 |[],l,k,c,h,_=>by simp at h
 |b::m,[],k,c,_,h=>by simp at h
 |b::m,x::l,k,c,h1,h2=>by
  cases k with
  |zero=>
   have h1':b=true:=h1
   simp only [List.getElem?_cons_zero,Option.some.injEq] at h2
   simp [Z8,h1',h2]
  |succ k=>simpa [Z8] using d2u (m:=m) (l:=l) (k:=k) (by simpa using h1) (by simpa using h2)
theorem Inv.cut {σ:Sg} {h:A4} (hi:Inv h σ) (m:List Bool) (n:Nat) (hb:a6x m n (Z8 m h.blks)=true) (hg:S6 h.globs=true):Inv ⟨Z8 m h.blks,h.bufs.take n,h.globs⟩ (σ.cut m n):=by
 have hblk:∀{k b:Nat},(σ.cut m n).blk k=some b ->m.getD k false=true /\ σ.blk k=some b:=by
  intro k b hk
  simp only [Sg.cut] at hk
  split at hk
  ·rename_i h1; exact ⟨h1,hk⟩
  ·cases hk
 have hbuf:∀{k:Nat} {e:Buf},(σ.cut m n).buf k=some e ->k<n /\ σ.buf k=some e:=by
  intro k b hk
  simp only [Sg.cut] at hk
  split at hk
  ·rename_i h1; exact ⟨h1,hk⟩
  ·cases hk
 refine ⟨fun k cells hk=> ?_,fun k b hk=> ?_,fun k l b c c' hk hl hc hc' h1 h2=> ?_,fun id c hc=> ?_,fun id e he=> ?_,fun id e he=>hi.bufle id e (hbuf he).2,fun id e b o he hs=>hi.bufat id e b o (hbuf he).2 hs,fun i j e f b o he hf h1 h2=>hi.bufinj i j e f b o (hbuf he).2 (hbuf hf).2 h1 h2,fun id e k b o he hs hk=>hi.bufblk id e k b o (hbuf he).2 hs (hblk hk).2,fun b o ho=>⟨(hi.outer b o ho).1,fun h=>(hi.outer b o ho).2 (d1x h)⟩,fun g cells hgl=> ?_⟩
 ·obtain ⟨h1,h2⟩:=b1t hk
  obtain ⟨b,h3,h4⟩:=hi.blk k cells h2
  refine ⟨b,by simp only [Sg.cut]; rw [if_pos h1]; exact h3, ?_⟩
  have hlow:=d23 hb hk
  cases h4 with
  |cells _ cs rest elem h5 h6=>exact .cells cells cs rest elem h5 (h6.cut hlow)
  |it s p h5=>exact .it s p h5
 ·obtain ⟨h1,h2⟩:=hblk hk
  obtain ⟨c,h3⟩:=hi.dom k b h2
  exact ⟨c,d2u h1 h3⟩
 ·exact hi.inj k l b c c' (b1t hk).2 (b1t hl).2 hc hc' (hblk h1).2 (hblk h2).2
 ·rw [List.getElem?_take] at hc
  split at hc
  ·rename_i h1
   obtain ⟨e,h2,h3⟩:=hi.buf id c hc
   exact ⟨e,by simp only [Sg.cut]; rw [if_pos h1]; exact h2,h3⟩
  ·cases hc
 ·obtain ⟨h1,h2⟩:=hbuf he
  rw [List.getElem?_take,if_pos h1]
  exact hi.bufdom id e h2
 ·exact (hi.glob g cells hgl).cut (by simp only [low]; exact lowL_plain m n cells (List.all_eq_true.1 hg _ hgl))
def Low (σ:Sg) (kb kf:Nat):Prop:=(∀k b,σ.blk k=some b ->k<kb) /\ ∀id e,σ.buf id=some e ->id<kf
theorem Le.cut {σ0 σ:Sg} {kb kf n:Nat} {m:List Bool} (hle:Le σ0 σ) (hl:Low σ0 kb kf) (hm:∀k,k<kb ->m.getD k false=true) (hn:kf<=n):Le σ0 (σ.cut m n) where
 blk k b hk:=by
  simp only [Sg.cut]; rw [if_pos (hm k (hl.1 k b hk))]; exact hle.blk k b hk
 buf id e he:=by
  obtain ⟨e',h1,h2⟩:=hle.buf id e he
  exact ⟨e',by simp only [Sg.cut]; rw [if_pos (by have:=hl.2 id e he; omega)]; exact h1,h2⟩
 outer:=hle.outer
 cell:=hle.cell
 ext:=hle.ext
 whole:=hle.whole
 own b o hb ho:=hle.own b o hb (d1x ho)
 size:=hle.size
 os:=hle.os
 tape:=hle.tape
 output:=hle.output
structure D (P:Program) (N kb kf:Nat) (x:O1) (Q:Exit ->Env ->A4 ->Prop) (env:Env) (h:A4):Prop where
 out:∀c,B9 P N c=some x ->∀(σ0 σ:Sg) (a:Act),St σ h env N a ->Le σ0 σ ->Low σ0 kb kf ->c.wp P (b6b σ0 N Q) a σ.w
structure DL (P:Program) (N kb kf:Nat) (x:O1) (Q:Exit ->Env ->A4 ->Prop) (env:Env) (h:A4):Prop where
 out:∀c,B9 P N c=some x ->∀(σ0 σ:Sg) (a:Act),St σ h env N a ->Le σ0 σ ->Low σ0 kb kf ->d7l P c (b6b σ0 N Q) a σ.w
def h2d (P:Program) (c rest:Code) (Q:Exit ->Act ->World ->Prop) (a:Act) (w:World):Prop:=∀b k cs,∃e a' w',Q e a' w' /\ Arrives P (lone (b.at a (.code rest::.inScope c::k)) cs w) b k cs e a' w'
structure DG (P:Program) (N kb kf:Nat) (x:O1) (l:Nat) (Q:Exit ->Env ->A4 ->Prop) (env:Env) (h:A4):Prop where
 out:∀c rest,B9 P N c=some x ->findLabel c l=some rest ->∀(σ0 σ:Sg) (a:Act),St σ h env N a ->Le σ0 σ ->Low σ0 kb kf ->h2d P c rest (b6b σ0 N Q) a σ.w
section
variable {P:Program} {h h':A4} {env env':Env} {N kb kf:Nat} {Q:Exit ->Env ->A4 ->Prop} {x y:O1}
theorem c47 (hx:C P N x Q env h):D P N kb kf x Q env h:=⟨fun c hc σ0 σ a hs hle hl=>Code.wp_mono (fun e a' w hh=>hh.up hle) (hx.out c hc σ a hs)⟩
theorem Inv.low {σ:Sg} (hi:Inv h σ) (h1:h.blks.length<=kb) (h2:h.bufs.length<=kf):Low σ kb kf:=by
 refine ⟨fun k b hk=> ?_,fun id e he=> ?_⟩
 ·have:=hi.name hk; omega
 ·have:=(List.getElem?_eq_some_iff.1 (hi.bufdom id e he)).1; omega
theorem c19 (h1:h.blks.length<=kb) (h2:h.bufs.length<=kf) (hx:D P N kb kf x Q env h):b5z P N x Q env h:=fun c hc σ a hs=>hx.out c hc σ σ a hs (Le.refl σ) (hs.inv.low h1 h2)
theorem f7v {gl:List (Nat × List AV)} {f:FuncId} {ac:O1} {rs:List b6o} (hf:a8m P f=some (N,ac,rs)) {args:List AV} {r:AV} {e₀:Env} (hn:args.length<=N) (he:b6h 0 args=e₀)
  (hbody:D P N 0 0 ac (f87 rs r) e₀ ⟨[],[],gl⟩):C1 P gl f args r:=f6d hf hn he ⟨c19 (Nat.le_refl _) (Nat.le_refl _) hbody⟩
theorem f2a {ops:List C2} (hv:V P ops env h fun env' h'=>Q .normal env' h'):D P N kb kf (.region ops) Q env h:=c47 (f2b hv)
theorem f1i (S:List (Nat × List AV)) {ord:List (List Nat)} {al tl:List C2} (hok:okq al=true) (hst:d7p (clo ord) al=true) (hS:inS S h=S.map fun p=>some (some p.2)) (hv:Sp P S h.globs true al 0 env h fun F h'=>vd P tl F h' fun env' h'=>Q .normal env' h'):D P N kb kf (.drawn ord al tl) Q env h:=c47 (f0f S hok hst hS hv)
theorem e4c (hq:Q .normal env h):D P N kb kf .skip Q env h:=c47 (g06 hq)
theorem f9m {id:Nat} (hq:Q (.exit id) env h):D P N kb kf (.exit id) Q env h:=c47 (g2k hq)
theorem e8z (hq:Q .ret env h):D P N kb kf .ret Q env h:=c47 (g7q hq)
theorem f57 {l:Nat} (hq:Q .normal env h):D P N kb kf (.label l) Q env h:=c47 (f6s hq)
theorem g1c {l:Nat} (hq:Q (.goto l) env h):D P N kb kf (.goto l) Q env h:=c47 (g2r hq)
theorem d67 (hg:∀(σ:Sg) (a:Act),St σ h env N a ->∃σ' h' env',σ'.w=σ.w /\ Le σ σ' /\ St σ' h' env' N a /\ D P N kb kf x Q env' h'):D P N kb kf x Q env h:=⟨by
 intro c hc σ0 σ a hs hle hl
 obtain ⟨σ',h',env',hw,l1,s1,hx⟩:=hg σ a hs
 rw [<-hw]
 exact hx.out c hc σ0 σ' a s1 (hle.trans l1) hl⟩
theorem d9w (hg:∀(σ:Sg) (a:Act),St σ h env N a ->∃σ' h' env',σ'.w=σ.w /\ Le σ σ' /\ St σ' h' env' N a /\ DL P N kb kf x Q env' h'):DL P N kb kf x Q env h:=⟨by
 intro c hc σ0 σ a hs hle hl
 obtain ⟨σ',h',env',hw,l1,s1,hx⟩:=hg σ a hs
 rw [<-hw]
 exact hx.out c hc σ0 σ' a s1 (hle.trans l1) hl⟩
theorem d7z {l:Nat} (hg:∀(σ:Sg) (a:Act),St σ h env N a ->∃σ' h' env',σ'.w=σ.w /\ Le σ σ' /\ St σ' h' env' N a /\ DG P N kb kf x l Q env' h'):DG P N kb kf x l Q env h:=⟨by
 intro c rest hc hr σ0 σ a hs hle hl
 obtain ⟨σ',h',env',hw,l1,s1,hx⟩:=hg σ a hs
 rw [<-hw]
 exact hx.out c rest hc hr σ0 σ' a s1 (hle.trans l1) hl⟩
theorem f78 (e:Env) (he:e.map (fun p=>get env p.1)=e.map fun p=>some p.2) {σ:Sg} {a:Act} (hs:St σ h env N a):St σ h e N a:=⟨hs.inv,fun t av hg=>hs.env t av ((d4z e he).get t av hg),hs.size,hs.defers⟩
theorem f5j {l:Nat} (e:Env) (he:e.map (fun p=>get env p.1)=e.map fun p=>some p.2) (hx:DG P N kb kf x l Q e h):DG P N kb kf x l Q env h:=d7z fun σ a hs=>⟨σ,h,e,rfl,Le.refl σ,f78 e he hs,hx⟩
theorem f2r {t:Nat} (size:Nat) (hg:get env t=some .nil) {σ:Sg} {a:Act} (hs:St σ h env N a):∃σ',σ'.w=σ.w /\ Le σ σ' /\ St σ' ⟨h.blks,h.bufs++[(0,size)],h.globs⟩ ((t,.sl [] (.own h.bufs.length))::env) N a:=by
 obtain ⟨σ1,w1,l1,i1,b1⟩:=c6b hs.inv ⟨0,size,none,0⟩ rfl (fun _=>rfl)
 refine ⟨σ1,w1,l1,i1, ?_,hs.size,hs.defers⟩
 intro u av hu
 simp only [get] at hu
 split at hu
 ·rename_i htu
  subst htu
  cases hu
  obtain ⟨y,h1,h2⟩:=hs.env t _ hg
  cases h2
  exact ⟨_,h1,.sl0 _ ⟨_,b1,Nat.le_refl _,fun _=>⟨rfl,rfl⟩⟩⟩
 ·exact (hs.env.mono l1) u av hu
theorem g59 {t:Nat} (size:Nat) (hg:get env t=some .nil) (hx:D P N kb kf x Q ((t,.sl [] (.own h.bufs.length))::env) ⟨h.blks,h.bufs++[(0,size)],h.globs⟩):D P N kb kf x Q env h:=d67 fun σ a hs=>by
 obtain ⟨σ',h1,h2,h3⟩:=f2r size hg hs
 exact ⟨σ',_,_,h1,h2,h3,hx⟩
theorem e2l {k j:Nat} (size:Nat) {cells:List AV} (hk:h.blks[k]? =some (some cells)) (hj:cells[j]? =some .nil) {σ:Sg} {a:Act} (hs:St σ h env N a):∃σ',σ'.w=σ.w /\ Le σ σ' /\ St σ' ⟨h.blks.set k (some (cells.set j (.sl [] (.own h.bufs.length)))),h.bufs++[(0,size)],h.globs⟩ env N a:=by
 obtain ⟨σ1,w1,l1,i1,b1⟩:=c6b hs.inv ⟨0,size,none,0⟩ rfl (fun _=>rfl)
 refine ⟨σ1,w1,l1, ?_,hs.env.mono l1,hs.size,hs.defers⟩
 obtain ⟨b,hb,hat⟩:=i1.blk k cells hk
 have hkl:k<h.blks.length:=(List.getElem?_eq_some_iff.1 hk).1
 have hjl:j<cells.length:=(List.getElem?_eq_some_iff.1 hj).1
 have hat':a9s σ1 b (cells.set j (.sl [] (.own h.bufs.length))):=by
  cases hat with
  |cells _ cs rest elem h5 h6=>
   refine .cells _ cs rest elem h5 ⟨by rw [h6.1]; simp,fun i av hi=> ?_⟩
   rw [List.getElem?_set] at hi
   split at hi
   ·rename_i hij
    subst hij
    cases hi
    obtain ⟨_,y,h7,h8⟩:=h6.2 j _ hj
    cases h8
    exact ⟨rfl,_,h7,.sl0 _ ⟨_,b1,Nat.le_refl _,fun _=>⟨rfl,rfl⟩⟩⟩
   ·exact h6.2 i av hi
  |it s p h5=>
   cases j with
   |zero=>simp at hj
   |succ j=>simp at hj
 have hne:∀c,(cells.set j (.sl [] (.own h.bufs.length))=c) ->c≠[]:=by
  rintro c rfl he
  have:=congrArg List.length he
  simp at this
  subst this
  simp at hjl
 refine ⟨fun n c hn=> ?_,fun n b' hn=> ?_,fun n m b' c c' hn hm hc hc' h1 h2=> ?_,i1.buf,i1.bufdom,i1.bufle,i1.bufat,i1.bufinj,i1.bufblk,i1.outer,i1.glob⟩
 ·rw [List.getElem?_set] at hn
  split at hn
  ·rename_i hkn
   subst hkn
   cases hn
   exact ⟨b,hb,hat'⟩
  ·exact i1.blk n c hn
 ·obtain ⟨c,hc⟩:=i1.dom n b' hn
  rw [List.getElem?_set]
  split
  ·rename_i hkn; exact ⟨_,rfl⟩
  ·exact ⟨c,hc⟩
 ·have old:∀{n:Nat} {c:List AV},(h.blks.set k (some (cells.set j (.sl [] (.own h.bufs.length)))))[n]? =some (some c) ->c≠[] ->∃d,h.blks[n]? =some (some d) /\ d≠[]:=by
   intro n c hn hc
   rw [List.getElem?_set] at hn
   split at hn
   ·rename_i hkn
    subst hkn
    exact ⟨cells,hk,by rintro rfl; simp at hj⟩
   ·exact ⟨c,hn,hc⟩
  obtain ⟨d,hd,hd0⟩:=old hn hc
  obtain ⟨d',hd',hd0'⟩:=old hm hc'
  exact i1.inj n m b' d d' hd hd' hd0 hd0' h1 h2
theorem g0q {k j:Nat} {cells:List AV} {av b:AV} (hk:h.blks[k]? =some (some cells)) (hj:cells[j]? =some av) (hav:nz1 av=b) (hit:a7f cells=true) (hit2:a7f (cells.set j b)=true) {σ:Sg} {a:Act} (hs:St σ h env N a):St σ ⟨h.blks.set k (some (cells.set j b)),h.bufs,h.globs⟩ env N a:=by
 subst hav
 have i1:=hs.inv
 refine ⟨?_,hs.env,hs.size,hs.defers⟩
 obtain ⟨b,hb,hat⟩:=i1.blk k cells hk
 have hjl:j<cells.length:=(List.getElem?_eq_some_iff.1 hj).1
 have hkl:k<h.blks.length:=(List.getElem?_eq_some_iff.1 hk).1
 have hat':a9s σ b (cells.set j (nz1 av)):=by
  cases hat with
  |cells _ cs rest elem h5 h6=>
   refine .cells _ cs rest elem h5 ⟨by rw [h6.1]; simp,fun i av' hi=> ?_⟩
   rw [List.getElem?_set] at hi
   split at hi
   ·rename_i hij
    subst hij
    cases hi
    obtain ⟨h1,y,h7,h8⟩:=h6.2 j _ hj
    exact ⟨by rw [d9j]; exact h1,y,h7,h8.nz1⟩
   ·exact h6.2 i av' hi
  |it s p h5=>cases hit
 refine ⟨fun n c hn=> ?_,fun n b' hn=> ?_,fun n m b' c c' hn hm hc hc' h1 h2=> ?_,i1.buf,i1.bufdom,i1.bufle,i1.bufat,i1.bufinj,i1.bufblk,i1.outer,i1.glob⟩
 ·rw [List.getElem?_set] at hn
  split at hn
  ·rename_i hkn
   subst hkn
   cases hn
   exact ⟨b,hb,hat'⟩
  ·exact i1.blk n c hn
 ·obtain ⟨c,hc⟩:=i1.dom n b' hn
  rw [List.getElem?_set]
  split
  ·rename_i hkn; subst hkn; exact ⟨_,rfl⟩
  ·exact ⟨c,hc⟩
 ·have old:∀{n:Nat} {c:List AV},(h.blks.set k (some (cells.set j (nz1 av))))[n]? =some (some c) ->c≠[] ->∃d,h.blks[n]? =some (some d) /\ d≠[]:=by
   intro n c hn hc
   rw [List.getElem?_set] at hn
   split at hn
   ·rename_i hkn
    subst hkn
    exact ⟨cells,hk,by rintro rfl; simp at hj⟩
   ·exact ⟨c,hn,hc⟩
  obtain ⟨d,hd,hd0⟩:=old hn hc
  obtain ⟨d',hd',hd0'⟩:=old hm hc'
  exact i1.inj n m b' d d' hd hd' hd0 hd0' h1 h2
theorem d59 (m:List Bool) (n:Nat) {σ0 σ:Sg} {a:Act} (hs:St σ h env N a) (hle:Le σ0 σ) (hl:Low σ0 kb kf) (hm:∀k,k<kb ->m.getD k false=true) (hn:kf<=n) (he:a9l m n env=true) (hb:a6x m n (Z8 m h.blks)=true) (hg:S6 h.globs=true):
  St (σ.cut m n) ⟨Z8 m h.blks,h.bufs.take n,h.globs⟩ env N a /\ Le σ0 (σ.cut m n):=
 ⟨⟨hs.inv.cut m n hb hg,fun t av ht=>by obtain ⟨y,h1,h2⟩:=hs.env t av ht; exact ⟨y,h1,h2.cut (c01 he ht)⟩,hs.size,hs.defers⟩,hle.cut hl hm hn⟩
theorem f7a (m:List Bool) (n:Nat) (hm:∀k,k<kb ->m.getD k false=true) (hn:kf<=n) (he:a9l m n env=true) (hb:a6x m n (Z8 m h.blks)=true) (hg:S6 h.globs=true) (hx:DL P N kb kf x Q env ⟨Z8 m h.blks,h.bufs.take n,h.globs⟩):DL P N kb kf x Q env h:=⟨by
 intro c hc σ0 σ a hs hle hl
 obtain ⟨h1,h2⟩:=d59 m n hs hle hl hm hn he hb hg
 exact hx.out c hc σ0 (σ.cut m n) a h1 h2 hl⟩
theorem e6s {l:Nat} (m:List Bool) (n:Nat) (hm:∀k,k<kb ->m.getD k false=true) (hn:kf<=n) (he:a9l m n env=true) (hb:a6x m n (Z8 m h.blks)=true) (hg:S6 h.globs=true) (hx:DG P N kb kf x l Q env ⟨Z8 m h.blks,h.bufs.take n,h.globs⟩):DG P N kb kf x l Q env h:=⟨by
 intro c rest hc hr σ0 σ a hs hle hl
 obtain ⟨h1,h2⟩:=d59 m n hs hle hl hm hn he hb hg
 exact hx.out c rest hc hr σ0 (σ.cut m n) a h1 h2 hl⟩
theorem f90 (m:List Bool) (n:Nat) (hm:∀k,k<kb ->m.getD k false=true) (hn:kf<=n) (he:a9l m n env=true) (hb:a6x m n (Z8 m h.blks)=true) (hg:S6 h.globs=true) (hx:D P N kb kf x Q env ⟨Z8 m h.blks,h.bufs.take n,h.globs⟩):D P N kb kf x Q env h:=⟨by
 intro c hc σ0 σ a hs hle hl
 obtain ⟨h1,h2⟩:=d59 m n hs hle hl hm hn he hb hg
 exact hx.out c hc σ0 (σ.cut m n) a h1 h2 hl⟩
theorem f8m {c:Code} (hc:B9 P N c=some (.seq x y)):∃cx cy,c=.seq cx cy /\ B9 P N cx=some x /\ B9 P N cy=some y:=by
 cases c<;>(try simp only [B9,Option.bind_eq_some_iff,Option.map_eq_some_iff] at hc)
 case seq cx cy=>obtain ⟨x',hx',y',hy',he⟩:=hc; cases he; exact ⟨cx,cy,rfl,hx',hy'⟩
 case region id ops d=>
  cases d<;>simp only [B9,Option.bind_eq_some_iff,Option.map_eq_some_iff] at hc
  ·obtain ⟨_,_,hx⟩:=hc; cases hx
  ·obtain ⟨_,_,_,_,hx⟩:=hc; split at hx<;>cases hx
 all_goals first
  |(cases hc; done)
  |(obtain ⟨_,_,hx⟩:=hc; cases hx; done)
  |(obtain ⟨_,_,_,_,hx⟩:=hc; cases hx; done)
  |(obtain ⟨_,_,_,_,_,_,hx⟩:=hc; cases hx; done)
theorem e6y {c:Code} {id:Nat} (hc:B9 P N c=some (.block id x)):∃cx,c=.block id cx /\ B9 P N cx=some x:=by
 cases c<;>(try simp only [B9,Option.bind_eq_some_iff,Option.map_eq_some_iff] at hc)
 case block i cx=>obtain ⟨x',hx',he⟩:=hc; cases he; exact ⟨cx,rfl,hx'⟩
 case region id ops d=>
  cases d<;>simp only [B9,Option.bind_eq_some_iff,Option.map_eq_some_iff] at hc
  ·obtain ⟨_,_,hx⟩:=hc; cases hx
  ·obtain ⟨_,_,_,_,hx⟩:=hc; split at hx<;>cases hx
 all_goals first
  |(cases hc; done)
  |(obtain ⟨_,_,hx⟩:=hc; cases hx; done)
  |(obtain ⟨_,_,_,_,hx⟩:=hc; cases hx; done)
  |(obtain ⟨_,_,_,_,_,_,hx⟩:=hc; cases hx; done)
theorem f2e {c:Code} (hc:B9 P N c=some (.loop x)):∃cx,c=.loop cx /\ B9 P N cx=some x:=by
 cases c<;>(try simp only [B9,Option.bind_eq_some_iff,Option.map_eq_some_iff] at hc)
 case loop cx=>obtain ⟨x',hx',he⟩:=hc; cases he; exact ⟨cx,rfl,hx'⟩
 case region id ops d=>
  cases d<;>simp only [B9,Option.bind_eq_some_iff,Option.map_eq_some_iff] at hc
  ·obtain ⟨_,_,hx⟩:=hc; cases hx
  ·obtain ⟨_,_,_,_,hx⟩:=hc; split at hx<;>cases hx
 all_goals first
  |(cases hc; done)
  |(obtain ⟨_,_,hx⟩:=hc; cases hx; done)
  |(obtain ⟨_,_,_,_,hx⟩:=hc; cases hx; done)
  |(obtain ⟨_,_,_,_,_,_,hx⟩:=hc; cases hx; done)
theorem d8d (hx:D P N kb kf x (d7d (fun e h=>D P N kb kf y Q e h) Q) env h):D P N kb kf (.seq x y) Q env h:=⟨by
 intro c hc σ0 σ a hs hle hl
 obtain ⟨cx,cy,rfl,hcx,hcy⟩:=f8m hc
 refine wp_seq (Code.wp_mono (fun e a' w' hh=> ?_) (hx.out cx hcx σ0 σ a hs hle hl))
 obtain ⟨h1,σ2,h2,env2,rfl,q2,q3,q4⟩:=hh
 cases e with
 |normal=>exact q4.out cy hcy σ0 σ2 a' q3 q2 hl
 |panic _=>exact h1.elim
 |outgrown=>exact h1.elim
 |exit _=>exact ⟨trivial,σ2,h2,env2,rfl,q2,q3,q4⟩
 |goto _=>exact ⟨trivial,σ2,h2,env2,rfl,q2,q3,q4⟩
 |ret=>exact ⟨trivial,σ2,h2,env2,rfl,q2,q3,q4⟩⟩
theorem f0b {id:Nat} (hx:D P N kb kf x (c06 id Q) env h):D P N kb kf (.block id x) Q env h:=⟨by
 intro c hc σ0 σ a hs hle hl
 obtain ⟨cx,rfl,hcx⟩:=e6y hc
 refine wp_block (Code.wp_mono (fun e a' w' hh=> ?_) (hx.out cx hcx σ0 σ a hs hle hl))
 obtain ⟨h1,σ2,h2,env2,rfl,q2,q3,q4⟩:=hh
 cases e with
 |panic _=>exact h1.elim
 |outgrown=>exact h1.elim
 |normal=>exact ⟨trivial,σ2,h2,env2,rfl,q2,q3,q4⟩
 |goto _=>exact ⟨trivial,σ2,h2,env2,rfl,q2,q3,q4⟩
 |ret=>exact ⟨trivial,σ2,h2,env2,rfl,q2,q3,q4⟩
 |exit i=>
  simp only [c06] at q4
  simp only [Exit.inBlock]
  split
  ·rename_i hi; rw [if_pos hi] at q4; exact ⟨trivial,σ2,h2,env2,rfl,q2,q3,q4⟩
  ·rename_i hi; rw [if_neg hi] at q4; exact ⟨trivial,σ2,h2,env2,rfl,q2,q3,q4⟩⟩
theorem f45 (hx:DL P N kb kf x Q env h):D P N kb kf (.loop x) Q env h:=⟨by
 intro c hc σ0 σ a hs hle hl
 obtain ⟨cx,rfl,hcx⟩:=f2e hc
 exact f0t (hx.out cx hcx σ0 σ a hs hle hl)⟩
theorem e28 (hx:D P N kb kf x (d7d (fun e h=>DL P N kb kf x Q e h) Q) env h):DL P N kb kf x Q env h:=⟨by
 intro c hc σ0 σ a hs hle hl
 refine d4s (Code.wp_mono (fun e a' w' hh=> ?_) (hx.out c hc σ0 σ a hs hle hl))
 obtain ⟨h1,σ2,h2,env2,q1,q2,q3,q4⟩:=hh
 cases e with
 |panic _=>exact h1.elim
 |outgrown=>exact h1.elim
 |normal=>subst q1; exact q4.out c hc σ0 σ2 a' q3 q2 hl
 |goto _=>exact ⟨trivial,σ2,h2,env2,q1,q2,q3,q4⟩
 |ret=>exact ⟨trivial,σ2,h2,env2,q1,q2,q3,q4⟩
 |exit i=>exact ⟨trivial,σ2,h2,env2,q1,q2,q3,q4⟩⟩
theorem d9r {c:J6} {b:Bool} (hc:c.ev env=some (.v (.bool b))) (h1:b=true ->D P N kb kf x Q env h) (h2:b=false ->D P N kb kf y Q env h):D P N kb kf (.cond c x y) Q env h:=⟨by
 intro cc hcc σ0 σ a hs hle hl
 cases cc<;>(try simp only [B9,Option.bind_eq_some_iff,Option.map_eq_some_iff] at hcc)
 case cond co cx cy=>
  obtain ⟨c',hc',x',hx',y',hy',he⟩:=hcc
  cases he
  obtain ⟨av,hr,hk⟩:=opd (K:=fun v=>v=.v (.bool b)) hs.env hc' (by rw [hc]; rfl)
  subst hk
  generalize hce:a.eval co=ce at hr
  cases hr with
  |v _ _=>
  cases b with
  |true=>exact wp_cond_true hce ((h1 rfl).out cx hx' σ0 σ a hs hle hl)
  |false=>exact wp_cond_false hce ((h2 rfl).out cy hy' σ0 σ a hs hle hl)
 case region id ops d=>
  cases d<;>simp only [B9,Option.bind_eq_some_iff,Option.map_eq_some_iff] at hcc
  ·obtain ⟨_,_,hx⟩:=hcc; cases hx
  ·obtain ⟨_,_,_,_,hx⟩:=hcc; split at hx<;>cases hx
 all_goals first
  |(cases hcc; done)
  |(obtain ⟨_,_,hx⟩:=hcc; cases hx; done)
  |(obtain ⟨_,_,_,_,hx⟩:=hcc; cases hx; done)
  |(obtain ⟨_,_,_,_,_,_,hx⟩:=hcc; cases hx; done)⟩
theorem d84 {c:J6} {b:Bool} (hc:c.ev env=some (.v (.bool b))) (hb:b=true) (h1:D P N kb kf x Q env h):D P N kb kf (.cond c x y) Q env h:=d9r hc (fun _=>h1) (fun h=>by rw [hb] at h; cases h)
theorem d8e {c:J6} {b:Bool} (hc:c.ev env=some (.v (.bool b))) (hb:b=false) (h1:D P N kb kf y Q env h):D P N kb kf (.cond c x y) Q env h:=d9r hc (fun h=>by rw [hb] at h; cases h) (fun _=>h1)
theorem f1v {l:Nat} {rest:O1} (hf:b37 x l=some rest) (hx:D P N kb kf x (e4j l (fun e h=>DG P N kb kf x l Q e h) Q) env h):D P N kb kf (.scope x) Q env h:=⟨by
 intro c hc σ0 σ a hs hle hl
 obtain ⟨c',rfl,hc'⟩:=c2m hc
 obtain ⟨r,hr,hrc⟩:=(d2r l hc').1 rest hf
 intro b k cs
 have hg:gotoIn l (.inScope c'::k)=some (.code r::.inScope c'::k):=by simp [gotoIn,hr]
 obtain ⟨e,a₁,w₁,hq,harr⟩:=hx.out c' hc' σ0 σ a hs hle hl b (.inScope c'::k) cs
 obtain ⟨h1,σ2,h2,env2,rfl,q2,q3,q4⟩:=hq
 cases e with
 |normal=>exact ⟨.normal,a₁,_,⟨trivial,σ2,h2,env2,rfl,q2,q3,q4⟩,.head step_scope (Steps.trans harr (.one step_inScope))⟩
 |exit id=>exact ⟨.exit id,a₁,_,⟨trivial,σ2,h2,env2,rfl,q2,q3,q4⟩,fun k' hk=>.head step_scope (harr k' (by simp [exitTo,hk]))⟩
 |goto l'=>
  obtain ⟨rfl,hJ⟩:=q4
  obtain ⟨e₂,a₂,w₂,hq₂,harr₂⟩:=hJ.out c' r hc' hr σ0 σ2 a₁ q3 q2 hl b k cs
  exact ⟨e₂,a₂,w₂,hq₂,.of_steps (.head step_scope (harr _ hg)) harr₂⟩
 |ret=>exact ⟨_,a₁,_,⟨trivial,σ2,h2,env2,rfl,q2,q3,q4⟩,.of_steps (.one step_scope) harr⟩
 |panic ch=>exact h1.elim
 |outgrown=>exact h1.elim⟩
theorem e6t {l:Nat} {rest:O1} (hf:b37 x l=some rest) (hx:D P N kb kf rest (e4j l (fun e h=>DG P N kb kf x l Q e h) Q) env h):DG P N kb kf x l Q env h:=⟨by
 intro c' r0 hc' hr0 σ0 σ a hs hle hl
 obtain ⟨r,hr,hrc⟩:=(d2r l hc').1 rest hf
 obtain rfl:r=r0:=by rw [hr] at hr0; exact Option.some.inj hr0
 intro b k cs
 have hg:gotoIn l (.inScope c'::k)=some (.code r::.inScope c'::k):=by simp [gotoIn,hr]
 obtain ⟨e,a₁,w₁,hq,harr⟩:=hx.out r hrc σ0 σ a hs hle hl b (.inScope c'::k) cs
 obtain ⟨h1,σ2,h2,env2,rfl,q2,q3,q4⟩:=hq
 cases e with
 |normal=>exact ⟨.normal,a₁,_,⟨trivial,σ2,h2,env2,rfl,q2,q3,q4⟩,Steps.trans harr (.one step_inScope)⟩
 |exit id=>exact ⟨.exit id,a₁,_,⟨trivial,σ2,h2,env2,rfl,q2,q3,q4⟩,fun k' hk=>harr k' (by simp [exitTo,hk])⟩
 |goto l'=>
  obtain ⟨rfl,hJ⟩:=q4
  obtain ⟨e₂,a₂,w₂,hq₂,harr₂⟩:=hJ.out c' r hc' hr σ0 σ2 a₁ q3 q2 hl b k cs
  exact ⟨e₂,a₂,w₂,hq₂,.of_steps (harr _ hg) harr₂⟩
 |ret=>exact ⟨_,a₁,_,⟨trivial,σ2,h2,env2,rfl,q2,q3,q4⟩,harr⟩
 |panic ch=>exact h1.elim
 |outgrown=>exact h1.elim⟩
theorem f0j (hx:D P N kb kf x (d7i Q) env h):D P N kb kf (.scope x) Q env h:=⟨by
 intro c hc σ0 σ a hs hle hl
 obtain ⟨c',rfl,hc'⟩:=c2m hc
 refine wp_scope_straight (Code.wp_mono (fun e a' w' hh=> ?_) (hx.out c' hc' σ0 σ a hs hle hl))
 obtain ⟨h1,σ2,h2,env2,rfl,q2,q3,q4⟩:=hh
 cases e with
 |panic _=>exact h1.elim
 |outgrown=>exact h1.elim
 |goto _=>exact q4.elim
 |normal=>exact ⟨trivial,σ2,h2,env2,rfl,q2,q3,q4⟩
 |ret=>exact ⟨trivial,σ2,h2,env2,rfl,q2,q3,q4⟩
 |exit i=>exact ⟨trivial,σ2,h2,env2,rfl,q2,q3,q4⟩⟩
end
theorem f4h {P:Program} {o:AOp} {env:Env} {h h':A4} {av:AV} (he:c91 false noC o env h=some (av,h')):a12 P o env h av h':=fun K hk=>b21 e2e he hk
def fz (n:Nat) (cells:List AV):AV ->AV
 |.ptr k off=>if k=n then .elt cells off else .ptr k off
 |a=>a
def fzE (n:Nat) (cells:List AV):Env ->Env
 |[]=>[]
 |(t,a)::e=>(t,fz n cells a)::fzE n cells e
theorem e2m {n:Nat} {cells:List AV}:∀{e:Env} {t:Nat} {b:AV},get (fzE n cells e) t=some b ->∃a,get e t=some a /\ b=fz n cells a
 |[],_,_,h=>by cases h
 |(u,a)::e,t,b,h=>by
  simp only [fzE,get] at h ⊢
  split at h
  ·rename_i hu; rw [if_pos hu]; cases h; exact ⟨a,rfl,rfl⟩
  ·rename_i hu; rw [if_neg hu]; exact e2m h
def c4a:List Bool ->List (Option (List AV)) ->Bool
 |b::m,x::l=>(match b,x with|true,some []=>false|_,_=>true)&&c4a m l
 |_,_=>true
theorem c08:∀{m:List Bool} {l:List (Option (List AV))} {k:Nat} {c:List AV},c4a m l=true ->m.getD k false=true ->l[k]? =some (some c) ->c≠[]
 |[],_,_,_,_,h,_=>by simp at h
 |b::m,[],_,_,_,_,h=>by simp at h
 |b::m,x::l,0,c,h,h1,h2=>by
  have h1':b=true:=h1
  simp only [List.getElem?_cons_zero,Option.some.injEq] at h2
  subst h1' h2
  rintro rfl
  simp [c4a] at h
 |b::m,x::l,k+1,c,h,h1,h2=>by
  simp only [c4a,Bool.and_eq_true] at h
  exact c08 h.2 (by simpa using h1) (by simpa using h2)
theorem f02 {P:Program} {h:A4} {env:Env} {N kb kf:Nat} {Q:Exit ->Env ->A4 ->Prop} {x:O1} (n:Nat) (m:List Bool) (k:Nat) (cells:List AV) (hb:h.blks[n]? =some (some cells)) (hit:a7f cells=true) (hmn:m.getD n false=false) (hal:c4a m h.blks=true) (hm:∀k,k<kb ->m.getD k false=true) (hn:kf<=k)
  {e:Env} (hE:fzE n cells env=e) (he:a9l m k e=true) (hB:a6x m k (Z8 m h.blks)=true) (hg:S6 h.globs=true) (hx:D P N kb kf x Q e ⟨Z8 m h.blks,h.bufs.take k,h.globs⟩):D P N kb kf x Q env h:=⟨by
 subst hE
 intro c hc σ0 σ a hs hle hl
 refine hx.out c hc σ0 (σ.cut m k) a ⟨hs.inv.cut m k hB hg,fun t av ht=> ?_,hs.size,hs.defers⟩ (hle.cut hl hm hn) hl
 have hlow:=c01 he ht
 obtain ⟨a0,h1,rfl⟩:=e2m ht
 obtain ⟨y,h2,h3⟩:=hs.env t a0 h1
 refine ⟨y,h2, ?_⟩
 cases a0 with
 |ptr j off=>
  simp only [fz] at hlow ⊢
  split at hlow
  ·rename_i hj
   subst hj
   rw [if_pos rfl]
   cases h3 with
   |ptr _ _ b hblk=>
   obtain ⟨b',h4,h5⟩:=hs.inv.blk j cells hb
   rw [hblk] at h4; cases h4
   cases h5 with
   |it s p h6=>cases hit
   |cells _ cs rest elem h6 h7=>
   have hlc:lowL m k cells=true:=by simpa [low] using hlow
   have key:∀(i:Nat) (av:AV),cells[i]? =some av ->∃xv,σ.w.cell? ⟨b,i,none⟩=some xv /\ Rel σ av xv /\ av.isCell=true:=by
    intro i av hi
    obtain ⟨q1,xv,q2,q3⟩:=h7.2 i av hi
    refine ⟨xv, ?_,q3,q1⟩
    have hlt:i<cs.length:=(List.getElem?_eq_some_iff.1 q2).1
    simp [World.cell?,h6,List.getElem?_append_left hlt,q2]
   have hne:cells≠[]:=by rintro rfl; cases hit
   have:=Rel.elt (σ:=σ.cut m k) cells off b 0 (fun i=>(σ.w.cell? ⟨b,i,none⟩).getD undef) (fun i av hi=>by
    obtain ⟨xv,q1,q2,q3⟩:=key i av hi
    refine ⟨by show σ.w.cell? _=_; rw [Nat.zero_add,q1]; rfl, ?_,q3⟩
    rintro (ho|⟨j',hj'⟩|⟨id,eb,he1,he2⟩)
    ·exact (hs.inv.outer _ _ ho).2 (.inl ⟨j,hblk⟩)
    ·simp only [Sg.cut] at hj'
     split at hj'
     ·rename_i hmj
      obtain ⟨c',hc'⟩:=hs.inv.dom j' b hj'
      have:=hs.inv.inj j' j b c' cells hc' hb (c08 hal hmj hc') hne hj' hblk
      subst this
      rw [hmn] at hmj; cases hmj
     ·cases hj'
    ·simp only [Sg.cut] at he1
     split at he1
     ·exact hs.inv.bufblk id eb j b _ he1 he2 hblk
     ·cases he1) (fun i av hi=>by
    obtain ⟨xv,q1,q2,q3⟩:=key i av hi
    rw [q1]
    exact q2.cut (a4t hlc i av hi))
   simpa using this
  ·rename_i hj
   rw [if_neg hj]
   exact h3.cut hlow
 |_=>exact h3.cut hlow⟩
theorem f7t (a:AV):nz1 (nz1 a)=nz1 a:=by cases a<;>rfl
theorem e7v (a:AV):nzA (nzA a)=nzA a:=by
 cases a with
 |agg cs=>simp only [nzA,List.map_map]; congr 1; exact List.map_congr_left fun x _=>f7t x
 |_=>rfl
theorem g3j (a:AV):nz (nz a)=nz a:=by
 cases a with
 |tuple vs=>simp only [nz,List.map_map]; congr 1; exact List.map_congr_left fun x _=>e7v x
 |agg cs=>exact e7v (.agg cs)
 |_=>rfl
def a50 (P:Program) (gl:List (Nat × List AV)) (f:AV) (args:List AV) (r:AV):Prop:=∃g a b,f=.clo (.func g) a b /\ plainL ((a++args++b).map nz)=true /\ C1 P gl g ((a++args++b).map nz) r
theorem f43 {P:Program} {h:A4} {env:Env} {f:J6} {args:List J6} {F:AV} {l l':List AV} {r:AV} (hf:f.ev env=some F) (ha:evs env args=some l) (hl:l.map nz=l') (hgl:S6 h.globs=true) (hc:a50 P h.globs F l' r):a12 P (.call f args) env h r h:=by
 obtain ⟨g,a,b,rfl,hp,hn⟩:=hc
 refine f7f hf ha ?_ hgl hp hn
 subst hl
 simp only [List.map_append,List.map_map]
 congr 2
 exact List.map_congr_left fun x _=>(g3j x).symm
theorem f9r {P:Program} {h:A4} {env:Env} {x y z:J6} {k k' k'':IntKind} {a b c:Int} (hx:x.ev env=some (.v (.int k a))) (hy:y.ev env=some (.v (.int k' b))) (hz:z.ev env=some (.v (.int k'' c))):a12 P (.minmax true [x,y,z]) env h (.v (.int k (max (max a b) c))) h:=fun K hk=>
 (c6d (l:=[.v (.int k a),.v (.int k' b),.v (.int k'' c)]) (v:=.int k (max (max a b) c)) (by simp [evs,hx,hy,hz]) (by simp only [mmx,if_true]; congr 2; (repeat' split)<;>omega) hk).out
theorem f99 {P:Program} {h:A4} {env:Env} {x y z:J6} {k k' k'':IntKind} {a b c:Int} (hx:x.ev env=some (.v (.int k a))) (hy:y.ev env=some (.v (.int k' b))) (hz:z.ev env=some (.v (.int k'' c))):a12 P (.minmax false [x,y,z]) env h (.v (.int k (min (min a b) c))) h:=fun K hk=>
 (c6d (l:=[.v (.int k a),.v (.int k' b),.v (.int k'' c)]) (v:=.int k (min (min a b) c)) (by simp [evs,hx,hy,hz]) (by simp only [mmx,Bool.false_eq_true,if_false]; congr 2; (repeat' split)<;>omega) hk).out
theorem A6 {a:AV} {r:List AV} (h1:plain a=true) (h2:plainL r=true):plainL (a::r)=true:=by simp only [plainL,h1,h2]; rfl
theorem psl {els:List (List AV)} (h:plainLL els=true):plain (.sl els .no)=true:=by simp only [plain,h]; rfl
theorem c6m {l:List AV} (h:plainL l=true):plain (.tuple l)=true:=h
theorem e4o {h:A4} {e env:Env} {N:Nat} (he:c2h e env) {σ:Sg} {a:Act} (hs:St σ h env N a):St σ h e N a:=⟨hs.inv,fun t av hg=>hs.env t av (he t av hg),hs.size,hs.defers⟩
theorem f86 {P:Program} {N kb kf:Nat} {x:O1} {Q:Exit ->Env ->A4 ->Prop}:c4l fun e h=>D P N kb kf x Q e h:=fun e env h he hx=>d67 fun σ a hs=>⟨σ,h,e,rfl,Le.refl σ,e4o he hs,hx⟩
theorem e0a {P:Program} {N kb kf:Nat} {x:O1} {Q:Exit ->Env ->A4 ->Prop}:c4l fun e h=>DL P N kb kf x Q e h:=fun e env h he hx=>d9w fun σ a hs=>⟨σ,h,e,rfl,Le.refl σ,e4o he hs,hx⟩
theorem b7t {e env:Env} (he:c2h e env) {h:A4}:∀{rs:List b6o} {K:List AV ->Prop},d15 e h rs K ->d15 env h rs K
 |[],_,hk=>hk
 |.tmp t::r,K,hk=>he.wv (x:=.t t) hk fun a ha=>b7t he ha
 |.cell t n::r,K,hk=>by
  obtain ⟨p,h1,h2⟩:=b5b hk
  show wv (get env t) _
  rw [he t p h1]
  simp only [wv,b6e] at h2 ⊢
  split at h2
  ·split at h2
   ·split at h2
    ·exact b7t he h2
    ·exact h2.elim
   ·exact ⟨h2.1,b7t he h2.2⟩
  ·exact h2.elim
theorem d34 {rs:List b6o} {r:AV}:c4l fun e h=>f87 rs r .normal e h:=fun e env h he hx=>b7t he hx
abbrev T (n:Nat):J6:=.t n
abbrev cb (b:Bool):J6:=.c (.v (.bool b))
abbrev o (d:Nat) (x:AOp):C2:=⟨some d,x,none⟩
abbrev og (d:Nat) (x:AOp) (t:Nat) (b:Bool):C2:=⟨some d,x,some (t,b)⟩
abbrev on (x:AOp):C2:=⟨none,x,none⟩
abbrev mv (n:Nat):AOp:=.mv (.t n)
abbrev ln (n t:Nat):AOp:=.load (some n) (.t t)
abbrev st (n p x:Nat):AOp:=.store n (.t p) (.t x)
abbrev wI (n:Int):Int:=IntKind.i64.wrap n
abbrev wU (n:Int):Int:=IntKind.u64.wrap n
theorem c0r {t u:Nat} (hne:u≠t):∀{e:Env} {a:AV},get e t=some a ->get (drop u e) t=some a
 |[],_,h=>by cases h
 |(k,b)::e,a,h=>by
  simp only [get] at h
  simp only [drop]
  split at h
  ·rename_i hk
   subst hk
   rw [if_neg (fun h=>hne h.symm)]
   simp only [get,if_true]; exact h
  ·rename_i hk
   split
   ·exact c0r hne h
   ·simp only [get]; rw [if_neg hk]; exact c0r hne h
theorem e8l:∀{e:Env} {t:Nat} {a:AV},get e t=some a ->get (b95 e) t=some a
 |[],_,_,h=>by cases h
 |(u,b)::e,t,a,h=>by
  simp only [get] at h
  simp only [b95,get]
  split at h
  ·rename_i hu; rw [if_pos hu]; exact h
  ·rename_i hu; rw [if_neg hu]; exact c0r hu (e8l h)
theorem c14 {env:Env} {t:Nat} {B b:Bool} (hB:B=b) (hg:get env t=some (.v (.bool B))):c2h ((t,.v (.bool b))::env) env:=by
 subst hB
 intro u a h
 simp only [get] at h
 split at h
 ·rename_i hu; subst hu; cases h; exact hg
 ·exact h
def b60:Option AV ->Option (List (List AV))
 |some (.sl els _)=>some els
 |_=>none
theorem a5v {x:Option AV} {els:List (List AV)} (h:b60 x=some els):∃tok,x=some (.sl els tok):=by
 unfold b60 at h
 split at h
 ·cases h; exact ⟨_,rfl⟩
 ·cases h
structure GFn where
 fn:FuncId
 fi:List AV
 cap:List AV
 hp:(plainL fi&&plainL cap)=true
theorem a0m (g:GFn):plainL g.fi=true:=(Bool.and_eq_true _ _▸g.hp).1
theorem T6 (g:GFn):plainL g.cap=true:=(Bool.and_eq_true _ _▸g.hp).2
theorem c4c (m:List Bool) (n:Nat) (g:GFn):lowL m n g.fi=true:=lowL_plain _ _ _ (a0m g)
theorem b8h (m:List Bool) (n:Nat) (g:GFn):lowL m n g.cap=true:=lowL_plain _ _ _ (T6 g)
theorem a0r (g:GFn):plain (.clo (.func g.fn) g.fi g.cap)=true:=g.hp
def eFn (g:GFn):List AV:=[.clo (.func g.fn) g.fi g.cap]
theorem g5w (g:GFn):plainL (eFn g)=true:=by simp only [eFn,plainL,plain,a0m,T6]; rfl
theorem a1o (l:List GFn):plainLL (l.map eFn)=true:=D4 _ _ fun x _=>g5w x
section
variable {P:Program} {h h':A4} {env e:Env} {N kb kf:Nat} {Q:Exit ->Env ->A4 ->Prop} {K:Env ->A4 ->Prop} {L:List C2} {k:Nat} {S gl:List (Nat × List AV)} {b:Bool} {x y:O1}
theorem vo {o:C2} {av:AV} {d:Nat} (hl:L[k]? =some o) (ha:a12 P o.op env h av h') (hd:o.dst=some d) (hk:Vp P L (k+1) ((d,av)::env) h' K) (hg:I9 env o.guard=some true:=by kernel_rfl):Vp P L k env h K:=e2p hl hg ha rfl (by rw [hd]; rfl) hk
theorem vn {d:Nat} {x y:J6} {yes:Bool} {α:Type} (hl:L[k]? =some ⟨some d,.eq .slice yes x y,none⟩) (l:List α) (f:α ->List AV) (hk:∀b:Bool,(l≠[] ->b= !yes) ->Vp P L (k+1) ((d,.v (.bool b))::env) h K) (hx:b60 (x.ev env)=some (List.map f l):=by kernel_rfl) (hy:y.ev env=some .nil:=by kernel_rfl):Vp P L k env h K:=by
 obtain ⟨tok,hx⟩:=a5v hx
 refine g0i hl rfl (fun av=>∃b:Bool,av=.v (.bool b) /\ (l≠[] ->b= !yes)) (fun K' hK'=> ?_) fun av hav=> ?_
 ·simp only [aop,hx,hy,wv,e8w]
  rcases Classical.em (l=[]) with h0|h0
  ·right
   subst h0
   exact ⟨rfl,hK' _ ⟨_,rfl,fun hn=>absurd rfl hn⟩,hK' _ ⟨_,rfl,fun hn=>absurd rfl hn⟩⟩
  ·left
   refine ⟨by simpa using h0,hK' _ ⟨_,rfl,fun _=> ?_⟩⟩
   cases yes<;>rfl
 ·obtain ⟨b,rfl,hb⟩:=hav
  exact hk b hb
theorem h2h (hk:K env h) (hl:L.drop k=[]:=by kernel_rfl):Vp P L k env h K:=g3i hl hk
def e6x (nl env:Env) (ops:List C2):Bool:=ops.all fun o=>match o.dst with
 |some t=>(get nl t).isSome||(get env t).isNone
 |none=>true
theorem d2k:∀{e:Env} {t:Nat} {a:AV},get e t=some a ->(t,a)∈e
 |[],_,_,h=>by cases h
 |(u,b)::e,t,a,h=>by
  simp only [get] at h
  split at h
  ·rename_i hu; subst hu; cases h; exact List.mem_cons_self
  ·exact List.mem_cons_of_mem _ (d2k h)
theorem d7o:∀{e f:Env} {t:Nat},get (e++f) t=match get e t with|some a=>some a|none=>get f t
 |[],_,_=>rfl
 |(u,b)::e,f,t=>by
  simp only [List.cons_append,get]
  split
  ·rfl
  ·exact d7o
theorem b87 {env:Env} {d:Option Tmp} {t:Nat} {a:AV} (h:d≠some t):get (b22 env d a) t=get env t:=by
 cases d with
 |none=>rfl
 |some d=>
  simp only [b22,get]
  rw [if_neg]
  intro e; exact h (by rw [e])
theorem c45 {env:Env} {d:Option Tmp} {t:Nat} (h:d≠some t):get (b38 env d) t=get env t:=by
 cases d with
 |none=>rfl
 |some d=>
  simp only [b38]
  first
   |exact b87 (d:=some d) h
   |(simp only [get]; rw [if_neg (fun e=>h (by rw [e]))])
theorem c60 {md:Bool} {call:a2r}:∀{l:List C2} {env:Env} {h:A4} {r:Env × A4} {t:Nat},c3z md call l env h=some r ->(∀o∈l,o.dst≠some t) ->get r.1 t=get env t
 |[],env,h,r,t,he,_=>by cases he; rfl
 |o::l,env,h,r,t,he,hn=>by
  simp only [c3z,Option.bind_eq_some_iff] at he
  obtain ⟨b,h1,h2⟩:=he
  have ho:=hn o List.mem_cons_self
  have hl:=fun o' h'=>hn o' (List.mem_cons_of_mem _ h')
  cases b with
  |true=>
   simp only [Option.bind_eq_some_iff] at h2
   obtain ⟨p,h3,h4⟩:=h2
   exact (c60 h4 hl).trans (b87 ho)
  |false=>exact (c60 h2 hl).trans (c45 ho)
theorem d2e {n:Nat} {S gl:List (Nat × List AV)} {b:Bool}:∀{l:List C2} {env:Env} {h:A4} {r:Env × A4} {t:Nat},vsC n S gl b l env h=some r ->(∀o∈l,o.dst≠some t) ->get r.1 t=get env t
 |[],env,h,r,t,he,_=>by cases he; rfl
 |o::l,env,h,r,t,he,hn=>by
  simp only [vsC,Option.bind_eq_some_iff] at he
  obtain ⟨g,h1,h2⟩:=he
  have ho:=hn o List.mem_cons_self
  have hl:=fun o' h'=>hn o' (List.mem_cons_of_mem _ h')
  cases g with
  |false=>exact (d2e h2 hl).trans (c45 ho)
  |true=>
   simp only at h2
   split at h2
   ·split at h2
    ·exact (d2e h2 hl).trans (b87 ho)
    ·cases h2
   ·split at h2
    ·simp only [Option.bind_eq_some_iff] at h2
     obtain ⟨p,h3,h4⟩:=h2
     exact (d2e h4 hl).trans (b87 ho)
    ·cases h2
theorem d3v {nl env e:Env} {ops:List C2} (h1:nl.map (fun q=>get e q.1)=nl.map fun q=>some q.2) (h2:e6x nl env ops=true) (h3:∀t,(∀o∈ops,o.dst≠some t) ->get e t=get env t):c2h (nl++env) e:=by
 intro t a h
 rw [d7o] at h
 cases hn:get nl t with
 |some b=>
  rw [hn] at h; cases h
  have hm:=d2k hn
  obtain ⟨i,hi⟩:=List.mem_iff_getElem?.1 hm
  have:=congrArg (fun l=>l[i]?) h1
  simpa [List.getElem?_map,hi] using this
 |none=>
  rw [hn] at h
  rw [h3 t fun o ho hd=> ?_]
  ·exact h
  ·have:=List.all_eq_true.1 h2 o ho
   rw [hd] at this
   simp [hn,h] at this
def chk (nl env:Env) (ops:List C2) (p:Env × A4):List (Option AV) × A4 × Bool:=(nl.map (fun q=>get p.1 q.1),p.2,e6x nl env ops)
theorem d7u {nl env:Env} {ops:List C2} {x:Option (Env × A4)} {h':A4} (h:x.map (chk nl env ops)=some (nl.map (fun q=>some q.2),h',true)):∃e,x=some (e,h') /\ nl.map (fun q=>get e q.1)=nl.map (fun q=>some q.2) /\ e6x nl env ops=true:=by
 cases x with
 |none=>cases h
 |some p=>
  simp only [Option.map_some,chk,Option.some.injEq,Prod.mk.injEq] at h
  exact ⟨p.1,by rw [<-h.2.1],h.1,h.2.2⟩
theorem va (m:Nat) (nl:Env) (hk:Vp P L (k+m) (nl++env) h K) (hK:c4l K:=by first|exact f86|exact d6y f86|exact e0a|exact d34|exact d6y e0a|exact d6y d34) (he:(c3z false noC ((L.drop k).take m) env h).map (chk nl env ((L.drop k).take m))=some (nl.map (fun q=>some q.2),h,true):=by kernel_rfl):Vp P L k env h K:=by
 obtain ⟨e,h1,h2,h3⟩:=d7u he
 exact f0a m _ _ h1 rfl (c0h hK (d3v h2 h3 fun t ht=>c60 h1 ht) hk)
theorem sa (n m:Nat) (nl:Env) (hk:Sp P S gl b L (k+m) (nl++env) h K) (hK:c4l K:=by first|exact f86|exact d6y f86|exact e0a|exact d34|exact d6y e0a|exact d6y d34) (he:(vsC n S gl b ((L.drop k).take m) env h).map (chk nl env ((L.drop k).take m))=some (nl.map (fun q=>some q.2),h,true):=by kernel_rfl):Sp P S gl b L k env h K:=by
 obtain ⟨e,h1,h2,h3⟩:=d7u he
 exact d74 n m _ _ h1 rfl (c3x hK (d3v h2 h3 fun t ht=>d2e h1 ht) hk)
theorem sc (n m:Nat) (new:Env) (hk:Sp P S gl b L (k+m) (new++env) h K) (he:vsC n S gl b ((L.drop k).take m) env h=some (new++env,h):=by kernel_rfl):Sp P S gl b L k env h K:=d74 n m _ _ he rfl hk
theorem sq {o:C2} {av:AV} {d:Nat} (hl:L[k]? =some o) (ha:∀h2,InS S gl h2 ->a12 P o.op env h2 av h2) (hd:o.dst=some d) (hk:Sp P S gl b L (k+1) ((d,av)::env) h K) (hg:I9 env o.guard=some true:=by kernel_rfl) (hq:V3 o.op=true:=by kernel_rfl):Sp P S gl b L k env h K:=h1k hl hg hq ha rfl (by rw [hd]; rfl) hk
theorem sw {o:C2} {av:AV} (new:Env) (hl:L[k]? =some o) (ha:a12 P o.op env h av h') (hk:Sp P S gl false L (k+1) (new++env) h' K) (hd:b22 env o.dst av=new++env:=by kernel_rfl) (hg:I9 env o.guard=some true:=by kernel_rfl) (hq:V3 o.op=false:=by kernel_rfl) (hn:c2x o=false:=by kernel_rfl) (hi:inS S h'=S.map (fun p=>some (some p.2)):=by kernel_rfl) (hgl:h'.globs=gl:=by kernel_rfl):Sp P S gl b L k env h K:=f9d hl hg hq hn ha hi hgl rfl hd hk
abbrev aI (n:Int):AV:=.v (.int .i64 n)
abbrev aU (n:Int):AV:=.v (.int .u64 n)
abbrev aB (b:Bool):AV:=.v (.bool b)
abbrev aS (s:ByteArray):AV:=.v (.string s)
abbrev aE:AV:=.v (.string ⟨#[]⟩)
abbrev zV:List AV:=[aI 0,aU 0,aE,.nil,.nil,.nil,.nil]
theorem dr {ops:List C2} (hv:Vp P ops 0 env h fun env' h'=>Q .normal env' h'):D P N kb kf (.region ops) Q env h:=f2a (f1x hv)
theorem dS (S:List (Nat × List AV)) {ord:List (List Nat)} {al tl:List C2} (hv:Sp P S h.globs true al 0 env h fun F h'=>vd P tl F h' fun env' h'=>Q .normal env' h') (hok:okq al=true:=by kernel_rfl) (hst:d7p (clo ord) al=true:=by kernel_rfl) (hS:inS S h=S.map (fun p=>some (some p.2)):=by kernel_rfl):D P N kb kf (.drawn ord al tl) Q env h:=f1i S hok hst hS hv
theorem dc {c:J6} (B:Bool) (h1:B=true ->D P N kb kf x Q env h) (h2:B=false ->D P N kb kf y Q env h) (hc:c.ev env=some (.v (.bool B)):=by kernel_rfl):D P N kb kf (.cond c x y) Q env h:=d9r hc h1 h2
theorem dw {c:J6} {B:Bool} {p q:Prop} (hw:(B=true ->p) /\ (B=false ->q)) (h1:B=true ->p ->D P N kb kf x Q env h) (h2:B=false ->q ->D P N kb kf y Q env h) (hc:c.ev env=some (.v (.bool B)):=by kernel_rfl):D P N kb kf (.cond c x y) Q env h:=dc B (fun z=>h1 z (hw.1 z)) (fun z=>h2 z (hw.2 z)) hc
theorem dkf {c:J6} {B:Bool} (hB:B=false) (h1:D P N kb kf y Q env h) (hc:c.ev env=some (.v (.bool B)):=by kernel_rfl):D P N kb kf (.cond c x y) Q env h:=d8e hc hB h1
theorem dt {c:J6} (h1:D P N kb kf x Q env h) (hc:c.ev env=some (.v (.bool true)):=by kernel_rfl):D P N kb kf (.cond c x y) Q env h:=d84 hc rfl h1
theorem rx {rs:List b6o} {R:Type} {f:R ->AV} {r r0:R} (hw:r=r0) (hp:plain (f r0)=true) (he:(c22 env h rs).map (fun l=>nz (c9d l))=some (f r0):=by kernel_rfl):f87 rs (f r) .ret env h:=by
 subst hw
 simp only [Option.map_eq_some_iff] at he
 obtain ⟨l,h1,h2⟩:=he
 exact g6h h1 h2 hp
theorem jg {l:Nat} {m:List Bool} {n:Nat} (hlow:a9l m n e=true /\ a6x m n h'.blks=true) (hx:DG P N 0 0 x l Q e h') (he:e.map (fun p=>get env p.1)=e.map (fun p=>some p.2):=by kernel_rfl) (hh:(⟨Z8 m h.blks,h.bufs.take n,h.globs⟩:A4)=h':=by kernel_rfl) (hg:S6 h.globs=true:=by kernel_rfl):DG P N 0 0 x l Q env h:=by
 subst hh
 exact f5j e he (e6s m n (fun _ h=>absurd h (Nat.not_lt_zero _)) (Nat.zero_le _) hlow.1 hlow.2 hg hx)
abbrev tl (P:Program) (N:Nat) (y:O1) (Q:Exit ->Env ->A4 ->Prop):Exit ->Env ->A4 ->Prop:=d7d (fun e h=>DL P N 0 0 y Q e h) Q
theorem ds {P:Program} {N kb kf:Nat} {ops:List C2} {y:O1} {Q:Exit ->Env ->A4 ->Prop} {env:Env} {h:A4} (hv:Vp P ops 0 env h fun env' h'=>D P N kb kf y Q env' h'):D P N kb kf (.seq (.region ops) y) Q env h:=d8d (dr hv)
theorem ve {P:Program} {L:List C2} {k:Nat} {env:Env} {h:A4} {K:Env ->A4 ->Prop} (hk:K env h) (hl:L.drop k=[]:=by kernel_rfl):Vp P L k env h K:=h2h hk hl
def c2f:Option AV ->Option Int
 |some (.v (.int _ n))=>some n
 |_=>none
theorem b0z {x:Option AV} {n:Int} (h:c2f x=some n):∃k,x=some (.v (.int k n)):=by
 unfold c2f at h
 split at h
 ·cases h; exact ⟨_,rfl⟩
 ·cases h
variable {α:Type}
theorem g56 {x:J6} (l:List α) (e:α ->List AV) (hx:b60 (x.ev env)=some (List.map e l):=by kernel_rfl):a12 P (.len false x) env h (.v (.int .i64 l.length)) h:=by
 obtain ⟨tok,hx⟩:=a5v hx
 exact g7a hx
theorem g8n {size:Nat} {x i:J6} {l:List α} {e' e:α ->List AV} {n:Int} {y:α} (h0:0<=n) (hy:l[n.toNat]? =some y) (he:e' y=e y) (hx:b60 (x.ev env)=some (List.map e' l):=by kernel_rfl) (hi:c2f (i.ev env)=some n:=by kernel_rfl) (hs:(e y).length=size:=by kernel_rfl):a12 P (.idxSl size x i) env h (.elt (e y) 0) h:=by
 obtain ⟨tok,hx⟩:=a5v hx
 obtain ⟨k,hi⟩:=b0z hi
 exact f5m hx hi h0 hy he hs
theorem g2a {x i:J6} {s:ByteArray} {n:Int} (h0:0<=n /\ n<(s.size:Int)) (hx:x.ev env=some (.v (.string s)):=by kernel_rfl) (hi:c2f (i.ev env)=some n:=by kernel_rfl):a12 P (.idxS x i) env h (.v (.int .u8 (F0 s n.toNat))) h:=by
 obtain ⟨k,hi⟩:=b0z hi
 exact g3s hx hi h0
theorem f0n {x:J6} {lo hi:Option J6} {s:ByteArray} {l u:Int} (h0:0<=l /\ l<=u /\ u<=(s.size:Int)) (hx:x.ev env=some (.v (.string s)):=by kernel_rfl) (h3:(evo env lo).bind (F5 0)=some l:=by kernel_rfl) (h4:(evo env hi).bind (F5 s.size)=some u:=by kernel_rfl):a12 P (.sliceS x lo hi) env h (.v (.string (s.extract l.toNat u.toNat))) h:=by
 obtain ⟨lv,h1,h3⟩:=Option.bind_eq_some_iff.1 h3
 obtain ⟨hv,h2,h4⟩:=Option.bind_eq_some_iff.1 h4
 exact f07 hx h1 h2 h3 h4 h0
def g1i:Option AV ->Option Tok
 |some (.sl _ t)=>some t
 |_=>none
theorem f6e {size:Nat} {x:J6} {lo hi:Option J6} {l:List α} {e':α ->List AV} {a u:Int} (h0:0<=a /\ a<=u /\ u<=(l.length:Int)) (hs:∀y,(e' y).length=size) (hx:b60 (x.ev env)=some (List.map e' l):=by kernel_rfl) (h3:(evo env lo).bind (F5 0)=some a:=by kernel_rfl) (h4:(evo env hi).bind (F5 l.length)=some u:=by kernel_rfl) (hc:(lo.isSome||hi.isSome)=true:=by kernel_rfl):a12 P (.sliceV size x lo hi none) env h (.sl (List.map e' ((l.take u.toNat).drop a.toNat)) .no) h:=by
 obtain ⟨tok,hx⟩:=a5v hx
 obtain ⟨lv,h1,h3⟩:=Option.bind_eq_some_iff.1 h3
 obtain ⟨hv,h2,h4⟩:=Option.bind_eq_some_iff.1 h4
 have:=e9w (P:=P) (h:=h) hx h1 h2 h3 h4 h0 hs
 cases lo with
 |none=>
  cases hi with
  |none=>cases hc
  |some hi=>
   have e2:∃z,hv=some z:=by
    simp only [evo] at h2
    split at h2
    ·cases h2; exact ⟨_,rfl⟩
    ·cases h2
   obtain ⟨z,rfl⟩:=e2
   cases h1
   exact this
 |some lo=>
  have e1:∃z,lv=some z:=by
   simp only [evo] at h1
   split at h1
   ·cases h1; exact ⟨_,rfl⟩
   ·cases h1
  obtain ⟨z,rfl⟩:=e1
  exact this
theorem f0q {size:Nat} {x m:J6} {lo hi:Option J6} {l:List α} {e':α ->List AV} {a u:Int} (h0:0<=a /\ a<=u /\ u<=(l.length:Int)) (hs:∀y,(e' y).length=size) (hx:b60 (x.ev env)=some (List.map e' l):=by kernel_rfl) (h3:(evo env lo).bind (F5 0)=some a:=by kernel_rfl) (h4:(evo env hi).bind (F5 l.length)=some u:=by kernel_rfl) (h5:c2f (m.ev env)=some u:=by kernel_rfl) (hc:hi.isSome=true:=by kernel_rfl):a12 P (.sliceV size x lo hi (some m)) env h (.sl (List.map e' ((l.take u.toNat).drop a.toNat)) .full) h:=by
 obtain ⟨tok,hx⟩:=a5v hx
 obtain ⟨k,h5⟩:=b0z h5
 obtain ⟨lv,h1,h3⟩:=Option.bind_eq_some_iff.1 h3
 obtain ⟨hv,h2,h4⟩:=Option.bind_eq_some_iff.1 h4
 refine e2j hx h1 h2 h3 h4 h5 ?_ h0 hs
 cases hi with
 |none=>cases hc
 |some hi=>
  simp only [evo] at h2
  split at h2
  ·cases h2; rfl
  ·cases h2
def g4k (op:BinOp) (x y:Option AV):Option (Prop × Value):=
 match x,y with
 |some (.v a),some (.v b)=>d6p op a b
 |_,_=>none
theorem g7o {op:BinOp} {x y:J6} {c:Prop} (r:Value) (hc:c) (hp:g4k op (x.ev env) (y.ev env)=some (c,r):=by kernel_rfl):a12 P (.bin op x y) env h (.v r) h:=by
 unfold g4k at hp
 split at hp
 ·rename_i a b h1 h2; exact d4r h1 h2 hp hc
 ·cases hp
theorem g6a {x y:J6} {a b:ByteArray} (h0:((a.size+b.size:Nat):Int)<=9223372036854775807) (hx:x.ev env=some (.v (.string a)):=by kernel_rfl) (hy:y.ev env=some (.v (.string b)):=by kernel_rfl):a12 P (.bin .add x y) env h (.v (.string (a++b))) h:=g1m hx hy h0
theorem g2s {g:FuncId} {args:List J6} {l':List AV} {r:AV} (hc:C1 P h.globs g l' r) (hp:plainL l'=true) (ha:(evs env args).map (List.map nz)=some l':=by kernel_rfl) (hgl:S6 h.globs=true:=by kernel_rfl):a12 P (.call (.c (.clo (.func g) [] [])) args) env h r h:=by
 obtain ⟨l,h1,h2⟩:=Option.map_eq_some_iff.1 ha
 exact f44 rfl h1 h2 hgl hp hc
theorem f4x {f:J6} {args:List J6} {F:AV} {l':List AV} {r:AV} (hc:a50 P h.globs F l' r) (hf:f.ev env=some F:=by kernel_rfl) (ha:(evs env args).map (List.map nz)=some l':=by kernel_rfl) (hgl:S6 h.globs=true:=by kernel_rfl):a12 P (.call f args) env h r h:=by
 obtain ⟨l,h1,h2⟩:=Option.map_eq_some_iff.1 ha
 exact f43 hf h1 h2 hgl hc
theorem g3n {size byt:Nat} {x y:J6} (e':α ->List AV) (m:List α) (h0:m.length*byt<=140737488355328) (hs:∀y,(e' y).length=size) (hm:(y.ev env).bind (c4t h size)=some (List.map e' m)) (hx:x.ev env=some .nil:=by kernel_rfl):a12 P (.append size byt x y) env h (.sl (List.map e' m) (.own h.bufs.length)) ⟨h.blks,h.bufs++[(m.length,size)],h.globs⟩:=by
 obtain ⟨Y,h1,h2⟩:=Option.bind_eq_some_iff.1 hm
 exact d4j hx h1 h2 hs h0
theorem g6w {size byt:Nat} {x y:J6} (id:Nat) (e':α ->List AV) (l m:List α) (h0:(l.length+m.length)*byt<=140737488355328) (hs:∀y,(e' y).length=size) (hm:(y.ev env).bind (c4t h size)=some (List.map e' m)) (hx:x.ev env=some (.sl (List.map e' l) (.own id)):=by kernel_rfl) (hb:h.bufs[id]? =some (l.length,size):=by kernel_rfl):a12 P (.append size byt x y) env h (.sl (List.map e' (l++m)) (.own id)) ⟨h.blks,h.bufs.set id ((l++m).length,size),h.globs⟩:=by
 obtain ⟨Y,h1,h2⟩:=Option.bind_eq_some_iff.1 hm
 exact d5j hx h1 h2 hb hs h0
theorem f2s {size byt:Nat} {x y:J6} (e':α ->List AV) (l m:List α) (h0:(l.length+m.length)*byt<=140737488355328) (hs:∀y,(e' y).length=size) (hm:(y.ev env).bind (c4t h size)=some (List.map e' m)) (hX:b60 (x.ev env)=some (List.map e' l)) (hx:g1i (x.ev env)=some .full:=by kernel_rfl):a12 P (.append size byt x y) env h (.sl (List.map e' (l++m)) (.own h.bufs.length)) ⟨h.blks,h.bufs++[((l++m).length,size)],h.globs⟩:=by
 obtain ⟨Y,h1,h2⟩:=Option.bind_eq_some_iff.1 hm
 obtain ⟨tok,h3⟩:=a5v hX
 rw [h3] at hx
 cases hx
 exact d2h (X:=.nil) h3 h1 rfl h2 hs h0
theorem f72 {x:J6} (s:ByteArray) (hx:x.ev env=some (.v (.string s)):=by kernel_rfl):a12 P (.bytes x) env h (.sl (List.map (fun n=>[AV.v (.int .u8 n)]) (bI s)) (.own h.bufs.length)) ⟨h.blks,h.bufs++[((bI s).length,1)],h.globs⟩:=f6x hx
theorem g5u {x:J6} {l:List Int} {t:ByteArray} (hl:l=bI t) (hx:b60 (x.ev env)=some (List.map (fun n=>[AV.v (.int .u8 n)]) l):=by kernel_rfl):a12 P (.conv .str x) env h (.v (.string t)) h:=by
 obtain ⟨tok,hx⟩:=a5v hx
 exact g60 hx hl
theorem g1z {Y:Option AV} {s:ByteArray} {size:Nat} (hy:Y=some (.v (.string s))):Y.bind (c4t h size)=some (List.map (fun n=>[AV.v (.int .u8 n)]) (bI s)):=by
 subst hy; exact f6w s size (h:=h)
end
def a10 (n:Nat) (β:Option Nat):AV ->AV
 |.nil=>.sl [] .no
 |.sl els (.own id)=>if β=some id then .sl els (.own 0) else .sl els .no
 |.sl els .no=>.sl els .no
 |.sl els .full=>.sl els .no
 |.ptr k off=>if k=n then .ptr 0 off else .it ⟨#[]⟩ 0
 |.row k off size len cap=>if k=n then .row 0 off size len cap else .it ⟨#[]⟩ 0
 |x=>x
def smol (n:Nat) (β:Option Nat):AV ->AV
 |.agg cs=>.agg (cs.map (a10 n β))
 |x=>a10 n β x
def ok1:AV ->Bool
 |.ptr 0 _=>true
 |.row 0 _ _ _ _=>true
 |.sl els (.own 0)=>plainLL els
 |x=>plain x
def okA:AV ->Bool
 |.agg cs=>cs.all ok1
 |x=>ok1 x
def d18 (n:Nat) (β:Option Nat):AV ->AV
 |.ptr _ off=>.ptr n off
 |.row _ off size len cap=>.row n off size len cap
 |.sl els (.own _)=>match β with
  |some id=>.sl els (.own id)
  |none=>.sl els .no
 |x=>x
theorem c23 (n:Nat) (β:Option Nat) (a:AV) (h:ok1 (a10 n β a)=true):(a10 n β a).isCell=a.isCell:=by
 cases a with
 |sl els tok=>cases tok<;>simp only [a10]<;>(try split)<;>rfl
 |ptr k off=>simp only [a10] at h ⊢; split at h<;>simp_all [ok1,plain,AV.isCell]
 |row k off size len cap=>simp only [a10] at h ⊢; split at h<;>simp_all [ok1,plain,AV.isCell]
 |_=>rfl
theorem e3s (n:Nat) (β:Option Nat) (a:AV):(d18 n β a).isCell=a.isCell:=by
 cases a with
 |sl els tok=>cases tok<;>simp only [d18]<;>(try split)<;>rfl
 |_=>rfl
def Sg.mine (σ:Sg) (b0:Nat) (β:Option Nat):Sg:=⟨σ.w,fun i=>if i=0 then some b0 else none,fun j=>if j=0 then β.bind σ.buf else none,fun _ _=>False⟩
def Sg.small (σ:Sg) (b0:Nat) (β:Option Nat):Sg:={σ.mine b0 β with outer:=fun b o=>σ.open_ b o /\ ¬(σ.mine b0 β).own b o}
theorem b8e {σ:Sg} {b0:Nat} {β:Option Nat} {b o:Nat}:(σ.mine b0 β).own b o↔b=b0\/∃id e,β=some id /\ σ.buf id=some e /\ e.spare b o:=by
 constructor
 ·rintro (⟨k,hk⟩|⟨j,e,he,hs⟩)
  ·simp only [Sg.mine] at hk; split at hk
   ·cases hk; exact .inl rfl
   ·cases hk
  ·simp only [Sg.mine] at he; split at he
   ·obtain ⟨id,h1,h2⟩:=Option.bind_eq_some_iff.1 he
    exact .inr ⟨id,e,h1,h2,hs⟩
   ·cases he
 ·rintro (rfl|⟨id,e,h1,h2,hs⟩)
  ·exact .inl ⟨0,rfl⟩
  ·exact .inr ⟨0,e,by simp [Sg.mine,h1,h2],hs⟩
theorem b4l {σ:Sg} {b0:Nat} {β:Option Nat} {b o:Nat}:(σ.small b0 β).own b o↔(σ.mine b0 β).own b o:=Iff.rfl
theorem d30 {σ:Sg} {b0 n:Nat} {β:Option Nat} (hn:σ.blk n=some b0) {b o:Nat} (h:(σ.small b0 β).own b o):σ.own b o:=by
 rcases b8e.1 (b4l.1 h) with rfl|⟨id,e,h1,h2,hs⟩
 ·exact .inl ⟨n,hn⟩
 ·exact .inr ⟨id,e,h2,hs⟩
theorem d0f {σ:Sg} {b0 n:Nat} {β:Option Nat} (hn:σ.blk n=some b0) {b o:Nat}:(σ.small b0 β).open_ b o↔σ.open_ b o:=by
 constructor
 ·rintro (h|h)
  ·exact h.1
  ·exact .inr (d30 hn h)
 ·intro h
  rcases Classical.em ((σ.mine b0 β).own b o) with hm|hm
  ·exact .inr hm
  ·exact .inl ⟨h,hm⟩
theorem Rel.move {σ σ':Sg} {a:AV} {x:Value} (hr:Rel σ a x) (hp:plain a=true) (hw:σ'.w=σ.w) (ho:∀b o,σ'.open_ b o ->σ.open_ b o):Rel σ' a x:=
 (hr.down (w:=σ.w) (outer:=σ.open_) hp rfl fun _ _ h=>h).up (fun _=>rfl) (fun _=>rfl) hw.symm fun b o h=>.inl (ho b o h)
theorem b1m {σ:Sg} {b0 n:Nat} {β:Option Nat} (hn:σ.blk n=some b0) {a:AV} {x:Value} (hr:Rel σ a x) (hok:ok1 (a10 n β a)=true):Rel (σ.small b0 β) (a10 n β a) x:=by
 have hop:∀b o,(σ.small b0 β).open_ b o ->σ.open_ b o:=fun b o h=>(d0f hn).1 h
 have pl:∀{a:AV},Rel σ a x ->plain a=true ->Rel (σ.small b0 β) a x:=fun h hp=>h.move hp rfl hop
 cases a with
 |nil=>exact pl hr.nz1 rfl
 |sl els tok=>
  cases tok with
  |no=>exact pl hr.nz1 hok
  |full=>exact pl hr.nz1 hok
  |own id=>
   simp only [a10] at hok ⊢
   split at hok
   ·rename_i hb
    rw [if_pos hb]
    have hbuf:(σ.small b0 β).buf 0=σ.buf id:=by simp [Sg.small,Sg.mine,hb]
    simp only [ok1] at hok
    have tk:∀{len:Nat} {a:Option Addr} {cap:Nat},c1q σ (.own id) len a cap ->c1q (σ.small b0 β) (.own 0) len a cap:=by
     rintro len a cap ⟨e,h1,h2⟩
     exact ⟨e,by rw [hbuf]; exact h1,h2⟩
    cases hr with
    |sl0 _ ht=>exact .sl0 _ (tk ht)
    |slx _ a cap ht hc=>exact .slx _ a cap (tk ht) (hc.elim (fun h=>by cases h) .inr)
    |sl _ _ b o cap size xs hs hcap ht hz hc hr=>
     refine .sl _ _ b o cap size xs hs hcap (tk ht) (fun j e hj he=> ?_) (fun i el hi j av hj=> ?_) fun i el hi j av hj=> ?_
     ·cases hj; rw [hbuf] at he; exact hz id e rfl he
     ·obtain ⟨h1,h2,h3⟩:=hc i el hi j av hj
      exact ⟨h1,fun h=>h2 (hop _ _ h),h3⟩
     ·exact (hr i el hi j av hj).move (P0 (a4y hok i el hi) j av hj) rfl hop
   ·rename_i hb
    rw [if_neg hb]
    exact pl hr.nz1 hok
 |ptr k off=>
  simp only [a10] at hok ⊢
  split at hok
  ·rename_i hk
   subst hk
   rw [if_pos rfl]
   cases hr with
   |ptr _ _ b h=>rw [hn] at h; cases h; exact .ptr 0 off b0 rfl
  ·simp [ok1,plain] at hok
 |row k off size len cap=>
  simp only [a10] at hok ⊢
  split at hok
  ·rename_i hk
   subst hk
   rw [if_pos rfl]
   cases hr with
   |row _ _ _ _ _ b cap' h hc hm hx=>rw [hn] at h; cases h; exact .row 0 off size len cap b0 cap' rfl hc hm hx
  ·simp [ok1,plain] at hok
 |_=>exact pl hr (by simpa [a10,ok1] using hok)
theorem e06 {σ:Sg} {b0 n:Nat} {β:Option Nat} (hn:σ.blk n=some b0) {a:AV} {x:Value} (hr:Rel σ a x) (hok:okA (smol n β a)=true):Rel (σ.small b0 β) (smol n β a) x:=by
 cases a with
 |agg cs=>
  simp only [smol,okA] at hok ⊢
  obtain ⟨xs,rfl,hc⟩:=hr.agg_inv
  refine Rel.agg_mk' ⟨by simp [hc.1],fun i av hi=> ?_⟩
  have hok1:=List.all_eq_true.1 hok av (List.mem_of_getElem? hi)
  simp only [List.getElem?_map,Option.map_eq_some_iff] at hi
  obtain ⟨b,hb,rfl⟩:=hi
  obtain ⟨h1,x,h2,h3⟩:=hc.2 i b hb
  exact ⟨by rw [c23 n β b hok1]; exact h1,x,h2,b1m hn h3 hok1⟩
 |sl els tok=>cases tok with
  |own id=>
   refine b1m hn hr ?_
   simp only [smol,a10] at hok ⊢
   split at hok<;>rename_i hb<;>simp only [hb,if_true,if_false]<;>exact hok
  |_=>exact b1m hn hr hok
 |ptr k off=>
  refine b1m hn hr ?_
  simp only [smol,a10] at hok ⊢
  split at hok<;>rename_i hb<;>simp only [hb,if_true,if_false]<;>exact hok
 |row k off size len cap=>
  refine b1m hn hr ?_
  simp only [smol,a10] at hok ⊢
  split at hok<;>rename_i hb<;>simp only [hb,if_true,if_false]<;>exact hok
 |_=>exact b1m hn hr hok
def Sg.big (σ σ1:Sg) (β:Option Nat):Sg:=⟨σ1.w,σ.blk,fun id=>if β=some id then σ1.buf 0 else σ.buf id,σ.outer⟩
theorem f5h {σ σ1:Sg} {b0 n:Nat} {β:Option Nat} (hn:σ.blk n=some b0) (h1:σ1.blk 0=some b0) (ho:∀b o,(σ.big σ1 β).open_ b o ->σ1.open_ b o) {a:AV} {x:Value} (hr:Rel σ1 a x) (hok:ok1 a=true):Rel (σ.big σ1 β) (d18 n β a) x:=by
 have pl:∀{a:AV},Rel σ1 a x ->plain a=true ->Rel (σ.big σ1 β) a x:=fun h hp=>h.move hp rfl ho
 cases a with
 |sl els tok=>
  cases tok with
  |no=>exact pl hr hok
  |full=>exact pl hr hok
  |own j=>
   cases j with
   |succ j=>simp [ok1,plain] at hok
   |zero=>
    simp only [ok1] at hok
    cases β with
    |none=>exact (show Rel σ1 (.sl els .no) x from hr.nz1).move (by simpa [plain] using hok) rfl ho
    |some id=>
     have hbuf:(σ.big σ1 (some id)).buf id=σ1.buf 0:=by simp [Sg.big]
     have tk:∀{len:Nat} {a:Option Addr} {cap:Nat},c1q σ1 (.own 0) len a cap ->c1q (σ.big σ1 (some id)) (.own id) len a cap:=by
      rintro len a cap ⟨e,h1,h2⟩
      exact ⟨e,by rw [hbuf]; exact h1,h2⟩
     simp only [d18]
     cases hr with
     |sl0 _ ht=>exact .sl0 _ (tk ht)
     |slx _ a cap ht hc=>exact .slx _ a cap (tk ht) (hc.elim (fun h=>by cases h) .inr)
     |sl _ _ b o cap size xs hs hcap ht hz hc hr=>
      refine .sl _ _ b o cap size xs hs hcap (tk ht) (fun j e hj he=> ?_) (fun i el hi j av hj=> ?_) fun i el hi j av hj=> ?_
      ·cases hj; rw [hbuf] at he; exact hz 0 e rfl he
      ·obtain ⟨g1,g2,g3⟩:=hc i el hi j av hj
       exact ⟨g1,fun h=>g2 (ho _ _ h),g3⟩
      ·exact (hr i el hi j av hj).move (P0 (a4y hok i el hi) j av hj) rfl ho
 |ptr k off=>
  cases k with
  |succ k=>simp [ok1,plain] at hok
  |zero=>cases hr with
   |ptr _ _ b h=>rw [h1] at h; cases h; exact .ptr n off b0 hn
 |row k off size len cap=>
  cases k with
  |succ k=>simp [ok1,plain] at hok
  |zero=>cases hr with
   |row _ _ _ _ _ b cap' h hc hm hx=>rw [h1] at h; cases h; exact .row n off size len cap b0 cap' hn hc hm hx
 |_=>have h:=pl hr (by simpa [ok1] using hok); exact h
def b4b (P:Program) (gl:List (Nat × List AV)) (f:FuncId) (args c:List AV) (bf:List (Nat × Nat)) (r:AV) (c':List AV) (bf':List (Nat × Nat)):Prop:=
 b73 P f args ⟨[some c],bf,gl⟩ fun av h=>nz av=r /\ h=⟨[some c'],bf',gl⟩
theorem f0u {f:AV ->AV} (hf:∀a,(f a).isIt=a.isIt):∀{l:List AV},a7f l=true ->a7f (l.map f)=true
 |[],h=>h
 |a::_,h=>by simpa [a7f,hf] using h
theorem f53 (n:Nat) (β:Option Nat) (a:AV):(d18 n β a).isIt=a.isIt:=by
 cases a with
 |sl els tok=>cases tok<;>simp only [d18]<;>(try split)<;>rfl
 |_=>rfl
theorem e6f {h:A4} {σ:Sg} (hi:Inv h σ) {n b0:Nat} {β:Option Nat} {cb c:List AV} {bf:List (Nat × Nat)} (hn:h.blks[n]? =some (some cb)) (hb0:σ.blk n=some b0) (hit:a7f cb=true) (hc:cb.map (a10 n β)=c) (hok:c.all ok1=true)
  (hbf:(β=none /\ bf=[])\/∃id x,β=some id /\ bf=[x] /\ h.bufs[id]? =some x) (hgl:S6 h.globs=true):Inv ⟨[some c],bf,h.globs⟩ (σ.small b0 β):=by
 have hblk:∀{k b:Nat},(σ.small b0 β).blk k=some b ->k=0 /\ b=b0:=by
  intro k b hk
  simp only [Sg.small,Sg.mine] at hk
  split at hk
  ·rename_i h0; cases hk; exact ⟨h0,rfl⟩
  ·cases hk
 have hbuf:∀{j:Nat} {e:Buf},(σ.small b0 β).buf j=some e ->j=0 /\ ∃id,β=some id /\ σ.buf id=some e:=by
  intro j e he
  simp only [Sg.small,Sg.mine] at he
  split at he
  ·rename_i h0; obtain ⟨id,h1,h2⟩:=Option.bind_eq_some_iff.1 he; exact ⟨h0,id,h1,h2⟩
  ·cases he
 have hopen:∀b o,σ.open_ b o ->b<σ.w.heap.size:=by
  rintro b o (ho|⟨n,hn⟩|⟨id,e,he,hs⟩)
  ·exact (hi.outer b o ho).1
  ·exact hi.lt hn
  ·obtain ⟨v,hv⟩:=Option.isSome_iff_exists.1 (hi.bufat id e b o he hs).1
   exact a27 hv
 refine ⟨fun k cells hk=> ?_,fun k b hk=> ?_,fun k m b c1 c2 hk hm _ _ _ _=> ?_,fun j x hj=> ?_,fun j e he=> ?_,fun j e he=> ?_,fun j e b o he hs=> ?_,fun i j e f b o he hf _ _=> ?_,fun j e k b o he hs hk=> ?_,fun b o ho=> ?_,fun g cells hg=> ?_⟩
 ·cases k with
  |succ k=>simp at hk
  |zero=>
   simp only [List.getElem?_cons_zero,Option.some.injEq] at hk
   subst hk
   refine ⟨b0,rfl, ?_⟩
   obtain ⟨b',h1,h2⟩:=hi.blk n cb hn
   rw [hb0] at h1; cases h1
   obtain ⟨cs,rest,elem,g1,g2⟩:=h2.plain hit
   refine .cells _ cs rest elem g1 ⟨by rw [g2.1,<-hc]; simp,fun i av hav=> ?_⟩
   have hok1:=List.all_eq_true.1 hok av (List.mem_of_getElem? hav)
   rw [<-hc] at hav
   simp only [List.getElem?_map,Option.map_eq_some_iff] at hav
   obtain ⟨a,ha,rfl⟩:=hav
   obtain ⟨k1,x,k2,k3⟩:=g2.2 i a ha
   exact ⟨by rw [c23 n β a hok1]; exact k1,x,k2,b1m hb0 k3 hok1⟩
 ·obtain ⟨rfl,_⟩:=hblk hk; exact ⟨c,rfl⟩
 ·have h1:=(List.getElem?_eq_some_iff.1 hk).1
  have h2:=(List.getElem?_eq_some_iff.1 hm).1
  simp at h1 h2; omega
 ·rcases hbf with ⟨_,rfl⟩|⟨id,y,rfl,rfl,hy⟩
  ·simp at hj
  ·cases j with
   |succ j=>simp at hj
   |zero=>
    simp at hj; subst hj
    obtain ⟨e,h1,h2⟩:=hi.buf id y hy
    exact ⟨e,by simp [Sg.small,Sg.mine,h1],h2⟩
 ·obtain ⟨rfl,id,hβ,h1⟩:=hbuf he
  rcases hbf with ⟨h0,_⟩|⟨id',y,h0,rfl,hy⟩
  ·rw [h0] at hβ; cases hβ
  ·rw [h0] at hβ; cases hβ
   have:=hi.bufdom id e h1
   rw [hy] at this
   simpa using this
 ·obtain ⟨_,id,hβ,h1⟩:=hbuf he; exact hi.bufle id e h1
 ·obtain ⟨_,id,hβ,h1⟩:=hbuf he; exact hi.bufat id e b o h1 hs
 ·exact (hbuf he).1.trans (hbuf hf).1.symm
 ·obtain ⟨_,id,hβ,h1⟩:=hbuf he
  obtain ⟨_,rfl⟩:=hblk hk
  exact hi.bufblk id e n _ o h1 hs hb0
 ·exact ⟨hopen b o ho.1,fun h=>ho.2 h⟩
 ·exact (hi.glob g cells hg).move (by simp only [plain]; exact List.all_eq_true.1 hgl _ hg) rfl fun b o h=>(d0f hb0).1 h
theorem e8e {P:Program} {f:FuncId} {args args' c cb c':List AV} {bf bf' bs:List (Nat × Nat)} {r:AV} {h:A4} {n:Nat} {β:Option Nat} {K:AV ->A4 ->Prop} (hf:b4b P h.globs f args c bf r c' bf') (hgl:S6 h.globs=true)
  (hn:h.blks[n]? =some (some cb)) (hit:a7f cb=true) (hc:cb.map (a10 n β)=c) (hok:c.all ok1=true) (hit':a7f c'=true) (hok':c'.all ok1=true) (hargs:args'.map (smol n β)=args) (hoka:args.all okA=true) (hr:plain r=true)
  (hbf:(β=none /\ bf=[] /\ bf'=[] /\ bs=h.bufs)\/∃x x',β=some 0 /\ bf=[x] /\ bf'=[x'] /\ h.bufs=[x] /\ bs=[x']) (hk:K r ⟨h.blks.set n (some (c'.map (d18 n β))),bs,h.globs⟩):b73 P f args' h K:=by
 refine ⟨hf.1,fun σ cargs hi hrel=> ?_⟩
 obtain ⟨b0,hb0,hat⟩:=hi.blk n cb hn
 have hinv:=e6f hi hn hb0 hit hc hok (bf:=bf) (by
  rcases hbf with ⟨h1,h2,_⟩|⟨x,x',h1,h2,_,h4,_⟩
  ·exact .inl ⟨h1,h2⟩
  ·exact .inr ⟨0,x,h1,h2,by rw [h4]; rfl⟩) hgl
 have hrels:c6c (σ.small b0 β) args cargs.toList:=by
  refine ⟨by rw [hrel.1,<-hargs]; simp,fun i av hav=> ?_⟩
  have hoka1:=List.all_eq_true.1 hoka av (List.mem_of_getElem? hav)
  rw [<-hargs] at hav
  simp only [List.getElem?_map,Option.map_eq_some_iff] at hav
  obtain ⟨a,ha,rfl⟩:=hav
  obtain ⟨x,h1,h2⟩:=hrel.2 i a ha
  exact ⟨x,h1,e06 hb0 h2 hoka1⟩
 refine (hf.2 (σ.small b0 β) cargs hinv hrels).mono fun e w' hq=> ?_
 obtain ⟨σ1,h1,av,x,rfl,rfl,hle,hi1,hrx,hav,rfl⟩:=hq
 have hb1:σ1.blk 0=some b0:=hle.blk 0 b0 rfl
 have hsub:∀b o,(σ.small b0 β).own b o ->σ.own b o:=fun b o h=>d30 hb0 h
 -- the growing row,of both
 have hbuf1:∀{id:Nat} {e:Buf},(σ.big σ1 β).buf id=some e ->(β=some id /\ σ1.buf 0=some e)\/(β≠some id /\ σ.buf id=some e):=by
  intro id e he
  simp only [Sg.big] at he
  split at he
  ·rename_i h0; exact .inl ⟨h0,he⟩
  ·rename_i h0; exact .inr ⟨h0,he⟩
 have hbufs:∀id e,β≠some id ->σ.buf id=some e ->β=none:=by
  intro id e h0 he
  rcases hbf with ⟨h1,_⟩|⟨x,x',h1,_,_,h4,_⟩
  ·exact h1
  ·have:=hi.bufdom id e he
   rw [h4] at this
   have hlt:=(List.getElem?_eq_some_iff.1 this).1
   simp at hlt; subst hlt
   exact (h0 h1).elim
 have hown:∀b o,b<σ.w.heap.size ->(σ.big σ1 β).own b o ->σ.own b o:=by
  rintro b o hb (⟨k,hk⟩|⟨id,e,he,hs⟩)
  ·exact .inl ⟨k,hk⟩
  ·rcases hbuf1 he with ⟨_,h2⟩|⟨_,h2⟩
   ·exact hsub b o (hle.own b o hb (.inr ⟨0,e,h2,hs⟩))
   ·exact .inr ⟨id,e,h2,hs⟩
 have hsize:=hle.size
 have hopen:∀b o,(σ.big σ1 β).open_ b o ->σ1.open_ b o:=by
  have side:∀b o,σ.open_ b o ->¬(σ.small b0 β).own b o ->σ1.open_ b o:=fun b o h1 h2=>.inl (by rw [hle.outer]; exact ⟨h1,h2⟩)
  rintro b o (ho|⟨k,hk⟩|⟨id,e,he,hs⟩)
  ·exact side b o (.inl ho) fun h=>(hi.outer b o ho).2 (hsub b o h)
  ·rcases Classical.em (b=b0) with rfl|hne
   ·exact .inr (.inl ⟨0,hb1⟩)
   ·refine side b o (.inr (.inl ⟨k,hk⟩)) fun h=> ?_
    rcases b8e.1 (b4l.1 h) with h|⟨id,e,_,he,hs⟩
    ·exact hne h
    ·exact hi.bufblk id e k b o he hs hk
  ·rcases hbuf1 he with ⟨_,h2⟩|⟨h1,h2⟩
   ·exact .inr (.inr ⟨0,e,h2,hs⟩)
   ·refine side b o (.inr (.inr ⟨id,e,h2,hs⟩)) fun h=> ?_
    rcases b8e.1 (b4l.1 h) with rfl|⟨id',e',h1',he',hs'⟩
    ·exact hi.bufblk id e n _ o h2 hs hb0
    ·have:=hi.bufinj id id' e e' b o h2 he' hs hs'
     subst this; exact h1 h1'
 have hLe:Le σ (σ.big σ1 β):=by
  refine ⟨fun k b hk=>hk,fun id e he=> ?_,rfl,fun b o hb ho=>hle.cell b o hb fun h=>ho (hsub b o h),hle.ext,fun b hb ho=>hle.whole b hb fun o h=>ho o (hsub b o h),hown,hsize,hle.os,hle.tape,hle.output⟩
  simp only [Sg.big]
  split
  ·rename_i h0
   exact hle.buf 0 e (by simp [Sg.small,Sg.mine,h0,he])
  ·exact ⟨e,he,Nat.le_refl _,rfl,fun _=>rfl⟩
 have hcb:cb≠[]:=b29 hit
 have hnlt:n<h.blks.length:=(List.getElem?_eq_some_iff.1 hn).1
 have hnew:a9s (σ.big σ1 β) b0 (c'.map (d18 n β)):=by
  obtain ⟨b',g1,g2⟩:=hi1.blk 0 c' rfl
  rw [hb1] at g1; cases g1
  obtain ⟨cs,rest,elem,g3,g4⟩:=g2.plain hit'
  refine .cells _ cs rest elem g3 ⟨by rw [g4.1]; simp,fun i a hi=> ?_⟩
  simp only [List.getElem?_map,Option.map_eq_some_iff] at hi
  obtain ⟨a',ha,rfl⟩:=hi
  obtain ⟨k1,y,k2,k3⟩:=g4.2 i a' ha
  exact ⟨by rw [e3s]; exact k1,y,k2,f5h hb0 hb1 hopen k3 (List.all_eq_true.1 hok' a' (List.mem_of_getElem? ha))⟩
 have hitn:a7f (c'.map (d18 n β))=true:=f0u (f53 n β) hit'
 -- a box of the new heap,in the old one
 have hold:∀{k:Nat} {cells:List AV},(h.blks.set n (some (c'.map (d18 n β))))[k]? =some (some cells) ->(k=n /\ cells=c'.map (d18 n β))\/(k≠n /\ h.blks[k]? =some (some cells)):=by
  intro k cells hk
  rcases Classical.em (n=k) with h0|h0
  ·subst h0
   rw [List.getElem?_set_self hnlt] at hk
   simp only [Option.some.injEq] at hk
   exact .inl ⟨rfl,hk.symm⟩
  ·rw [List.getElem?_set_ne h0] at hk
   exact .inr ⟨fun h=>h0 h.symm,hk⟩
 have hinv':Inv ⟨h.blks.set n (some (c'.map (d18 n β))),bs,h.globs⟩ (σ.big σ1 β):=by
  refine ⟨fun k cells hk=> ?_,fun k b hk=> ?_,fun k m b c1 c2 hk hm hc1 hc2 hbk hbm=> ?_,fun id y hy=> ?_,fun id e he=> ?_,fun id e he=> ?_,fun id e b o he hs=> ?_,fun i j e f b o he hf hs hs'=> ?_,fun id e k b o he hs hk=> ?_,fun b o ho=> ?_,fun g cells hg=> ?_⟩
  ·rcases hold hk with ⟨rfl,rfl⟩|⟨hne,hk'⟩
   ·exact ⟨b0,hb0,hnew⟩
   ·obtain ⟨b,g1,g2⟩:=hi.blk k cells hk'
    refine ⟨b,g1, ?_⟩
    rcases Classical.em (b=b0) with rfl|hb
    ·rcases Classical.em (cells=[]) with rfl|hce
     ·exact hnew.nil hitn
     ·exact (hne (hi.inj k n _ cells cb hk' hn hce hcb g1 hb0)).elim
    ·refine g2.keep hLe (hle.whole b (hi.lt g1) fun o h=> ?_)
     rcases b8e.1 (b4l.1 h) with h|⟨id,e,_,he,hs⟩
     ·exact hb h
     ·exact hi.bufblk id e k b o he hs g1
  ·obtain ⟨cc,g1⟩:=hi.dom k b hk
   show ∃c,(h.blks.set n _)[k]? =some (some c)
   rcases Classical.em (n=k) with h0|h0
   ·subst h0; rw [List.getElem?_set_self hnlt]; exact ⟨_,rfl⟩
   ·rw [List.getElem?_set_ne h0]; exact ⟨cc,g1⟩
  ·rcases hold hk with ⟨rfl,rfl⟩|⟨hne,hk'⟩<;>rcases hold hm with ⟨rfl,rfl⟩|⟨hne2,hm'⟩
   ·rfl
   ·exact hi.inj _ _ b cb c2 hn hm' hcb hc2 hbk hbm
   ·exact hi.inj _ _ b c1 cb hk' hn hc1 hcb hbk hbm
   ·exact hi.inj _ _ b c1 c2 hk' hm' hc1 hc2 hbk hbm
  ·rcases hbf with ⟨h1,h2,h3,rfl⟩|⟨z,z',h1,h2,h3,h4,rfl⟩
   ·obtain ⟨e,g1,g2⟩:=hi.buf id y hy
    exact ⟨e,by simp only [Sg.big]; rw [if_neg (by rw [h1]; exact fun h=>by cases h)]; exact g1,g2⟩
   ·cases id with
    |succ id=>simp at hy
    |zero=>
     simp at hy; subst hy
     obtain ⟨e,g1,g2⟩:=hi1.buf 0 z' (by rw [h3]; rfl)
     exact ⟨e,by simp only [Sg.big]; rw [if_pos h1]; exact g1,g2⟩
  ·rcases hbuf1 he with ⟨g1,g2⟩|⟨g1,g2⟩
   ·have:=hi1.bufdom 0 e g2
    rcases hbf with ⟨h1,_⟩|⟨z,z',h1,h2,h3,h4,rfl⟩
    ·rw [h1] at g1; cases g1
    ·rw [h1] at g1; cases g1
     subst h3
     exact this
   ·have hb:=hbufs id e g1 g2
    rcases hbf with ⟨h1,h2,h3,rfl⟩|⟨z,z',h1,_⟩
    ·exact hi.bufdom id e g2
    ·rw [h1] at hb; cases hb
  ·rcases hbuf1 he with ⟨g1,g2⟩|⟨g1,g2⟩
   ·exact hi1.bufle 0 e g2
   ·exact hi.bufle id e g2
  ·rcases hbuf1 he with ⟨g1,g2⟩|⟨g1,g2⟩
   ·exact hi1.bufat 0 e b o g2 hs
   ·obtain ⟨g3,g4⟩:=hi.bufat id e b o g2 hs
    have hbn:=hbufs id e g1 g2
    obtain ⟨v,hv⟩:=Option.isSome_iff_exists.1 g3
    have hw:=hle.whole b (a27 hv) fun o' h=>by
     rcases b8e.1 (b4l.1 h) with rfl|⟨id',e',h1',_⟩
     ·exact hi.bufblk id e n _ o g2 hs hb0
     ·rw [hbn] at h1'; cases h1'
    refine ⟨hle.ext b o g3, ?_⟩
    have hw':σ1.w.heap[b]? =σ.w.heap[b]? :=hw
    show σ1.w.frozen? ⟨b,o,none⟩=false
    unfold World.frozen? at g4 ⊢
    simp only at g4 ⊢
    rw [hw']
    exact g4
  ·rcases hbuf1 he with ⟨g1,g2⟩|⟨g1,g2⟩<;>rcases hbuf1 hf with ⟨k1,k2⟩|⟨k1,k2⟩
   ·rw [g1] at k1; cases k1; rfl
   ·have:=hbufs j f k1 k2; rw [this] at g1; cases g1
   ·have:=hbufs i e g1 g2; rw [this] at k1; cases k1
   ·exact hi.bufinj i j e f b o g2 k2 hs hs'
  ·have hk':σ.blk k=some b:=hk
   rcases hbuf1 he with ⟨g1,g2⟩|⟨g1,g2⟩
   ·rcases Classical.em (b=b0) with rfl|hne
    ·exact hi1.bufblk 0 e 0 _ o g2 hs hb1
    ·rcases b8e.1 (b4l.1 (hle.own b o (hi.lt hk') (.inr ⟨0,e,g2,hs⟩))) with h|⟨id',e',_,he',hs'⟩
     ·exact hne h
     ·exact hi.bufblk id' e' k b o he' hs' hk'
   ·exact hi.bufblk id e k b o g2 hs hk'
  ·have hb:=(hi.outer b o ho).1
   exact ⟨Nat.lt_of_lt_of_le hb hsize,fun h=>(hi.outer b o ho).2 (hown b o hb h)⟩
  ·exact (hi.glob g cells hg).mono hLe
 refine ⟨σ.big σ1 β,_,nz av,x,rfl,rfl,hLe,hinv', ?_,by rw [hav]; exact hk⟩
 exact hrx.nz.move (by rw [hav]; exact hr) rfl hopen
theorem Inv.reset {h:A4} {σ:Sg} (i1:Inv h σ) {k:Nat} {c c':List AV} (hk:h.blks[k]? =some (some c)) (hne:c≠[]) (hat:∀b,a9s σ b c ->a9s σ b c'):Inv ⟨h.blks.set k (some c'),h.bufs,h.globs⟩ σ:=by
 have hkl:k<h.blks.length:=(List.getElem?_eq_some_iff.1 hk).1
 have hold:∀{j:Nat} {x:List AV},(h.blks.set k (some c'))[j]? =some (some x) ->(j=k /\ x=c')\/(j≠k /\ h.blks[j]? =some (some x)):=by
  intro j x hj
  rcases Classical.em (k=j) with h0|h0
  ·subst h0
   rw [List.getElem?_set_self hkl] at hj
   simp only [Option.some.injEq] at hj
   exact .inl ⟨rfl,hj.symm⟩
  ·rw [List.getElem?_set_ne h0] at hj
   exact .inr ⟨fun h=>h0 h.symm,hj⟩
 refine ⟨fun n x hn=> ?_,fun n b' hn=> ?_,fun n m b' x y hn hm hx hy h1 h2=> ?_,i1.buf,i1.bufdom,i1.bufle,i1.bufat,i1.bufinj,i1.bufblk,i1.outer,i1.glob⟩
 ·rcases hold hn with ⟨rfl,rfl⟩|⟨_,hn'⟩
  ·obtain ⟨b,h1,h2⟩:=i1.blk _ c hk
   exact ⟨b,h1,hat b h2⟩
  ·exact i1.blk n x hn'
 ·obtain ⟨x,hx⟩:=i1.dom n b' hn
  show ∃y,(h.blks.set k _)[n]? =some (some y)
  rcases Classical.em (k=n) with h0|h0
  ·subst h0; rw [List.getElem?_set_self hkl]; exact ⟨_,rfl⟩
  ·rw [List.getElem?_set_ne h0]; exact ⟨x,hx⟩
 ·rcases hold hn with ⟨rfl,rfl⟩|⟨_,hn'⟩<;>rcases hold hm with ⟨rfl,rfl⟩|⟨_,hm'⟩
  ·rfl
  ·exact i1.inj _ _ b' c y hk hm' hne hy h1 h2
  ·exact i1.inj _ _ b' x c hn' hk hx hne h1 h2
  ·exact i1.inj _ _ b' x y hn' hm' hx hy h1 h2
theorem f8l {σ:Sg} {a:AV} {x:Value} (hr:Rel σ a x) (hok:ok1 (a10 0 (some 0) a)=true):Rel σ (a10 0 (some 0) a) x:=by
 cases a with
 |nil=>exact hr.nz1
 |sl els tok=>
  cases tok with
  |no=>exact hr.nz1
  |full=>exact hr.nz1
  |own id=>
   simp only [a10]
   split
   ·rename_i hb; cases hb; exact hr
   ·exact hr.nz1
 |ptr k off=>
  simp only [a10] at hok ⊢
  split at hok
  ·rename_i hk; subst hk; rw [if_pos rfl]; exact hr
  ·simp [ok1,plain] at hok
 |row k off size len cap=>
  simp only [a10] at hok ⊢
  split at hok
  ·rename_i hk; subst hk; rw [if_pos rfl]; exact hr
  ·simp [ok1,plain] at hok
 |_=>exact hr
theorem f7b {h:A4} {σ:Sg} (hi:Inv h σ) {k:Nat} {c0 c':List AV} (hk:h.blks[0]? =some (some c0)) (hit:a7f c0=true) (hc:c0.map (a10 0 (some 0))=c') (hok:c'.all ok1=true) (hlow:lowL [true] k c'=true) (hgl:S6 h.globs=true):Inv ⟨[some c'],h.bufs.take k,h.globs⟩ (σ.cut [true] k):=by
 have h1:=hi.reset hk (b29 hit) (c':=c') fun b hb=>by
  obtain ⟨cs,rest,elem,g1,g2⟩:=hb.plain hit
  refine .cells _ cs rest elem g1 ⟨by rw [g2.1,<-hc]; simp,fun i av hav=> ?_⟩
  have hok1:=List.all_eq_true.1 hok av (List.mem_of_getElem? hav)
  rw [<-hc] at hav
  simp only [List.getElem?_map,Option.map_eq_some_iff] at hav
  obtain ⟨a,ha,rfl⟩:=hav
  obtain ⟨k1,x,k2,k3⟩:=g2.2 i a ha
  exact ⟨by rw [c23 0 _ a hok1]; exact k1,x,k2,f8l k3 hok1⟩
 have hkeep:Z8 [true] (h.blks.set 0 (some c'))=[some c']:=by
  cases hb:h.blks with
  |nil=>rw [hb] at hk; cases hk
  |cons x l=>rfl
 have h2:=h1.cut [true] k (by rw [hkeep]; simpa [a6x] using hlow) hgl
 simp only [hkeep] at h2
 exact h2
def qio (k:Nat) (rs:List b6o) (r:AV) (c':List AV) (bf':List (Nat × Nat)):Exit ->Env ->A4 ->Prop
 |.normal,env,h=>d15 env h rs (fun l=>nz (c9d l)=r) /\ plain r=true /\ ∃c0,h.blks[0]? =some (some c0) /\ a7f c0=true /\ c0.map (a10 0 (some 0))=c' /\ c'.all ok1=true /\ lowL [true] k c'=true /\ h.bufs.take k=bf' /\ h.globs=[]
 |.ret,env,h=>d15 env h rs (fun l=>nz (c9d l)=r) /\ plain r=true /\ ∃c0,h.blks[0]? =some (some c0) /\ a7f c0=true /\ c0.map (a10 0 (some 0))=c' /\ c'.all ok1=true /\ lowL [true] k c'=true /\ h.bufs.take k=bf' /\ h.globs=[]
 |_,_,_=>False
theorem f1q {env:Env} {h:A4} {p:Prop} (hp:p):∀{rs:List b6o} {K:List AV ->Prop},d15 env h rs K ->d15 env h rs fun l=>K l /\ p:=by
 intro rs
 induction rs with
 |nil=>intro K hk; exact ⟨hk,hp⟩
 |cons x r ih=>
  intro K hk
  cases x with
  |tmp t=>
   obtain ⟨a,h1,h2⟩:=b5b hk
   show wv (get env t) _
   rw [h1]
   exact ih h2
  |cell t n=>
   obtain ⟨p,h1,h2⟩:=b5b hk
   show wv (get env t) _
   rw [h1]
   simp only [wv,b6e] at h2 ⊢
   split at h2
   ·split at h2
    ·split at h2
     ·exact ih h2
     ·exact h2.elim
    ·exact ⟨h2.1,ih h2.2⟩
   ·exact h2.elim
theorem h2b {P:Program} {N:Nat} {f:FuncId} {ac:O1} {rs:List b6o} (hf:a8m P f=some (N,ac,rs)) {args c:List AV} {bf:List (Nat × Nat)} {r:AV} {c':List AV} {bf':List (Nat × Nat)} {e₀:Env} (k:Nat) (hk:bf.length=k) (hn:args.length<=N) (he:b6h 0 args=e₀)
  (hbody:D P N 1 k ac (qio k rs r c' bf') e₀ ⟨[some c],bf,[]⟩):b4b P [] f args c bf r c' bf':=by
 subst he hk
 refine ⟨b5p hf,fun σ cargs hi hr=> ?_⟩
 have hlow:Low σ 1 bf.length:=hi.low (Nat.le_refl _) (Nat.le_refl _)
 have hb:b5z P N ac (c97 rs fun av h=>nz av=r /\ plain r=true /\ ∃c0,h.blks[0]? =some (some c0) /\ a7f c0=true /\ c0.map (a10 0 (some 0))=c' /\ c'.all ok1=true /\ lowL [true] bf.length c'=true /\ h.bufs.take bf.length=bf' /\ h.globs=[]) (b6h 0 args) ⟨[some c],bf,[]⟩:=by
  refine c1m (c19 (Nat.le_refl _) (Nat.le_refl _) hbody) fun e env h hq=> ?_
  cases e<;>first|exact hq.elim|exact f1q hq.2 hq.1
 refine (c6a hf hn hb σ cargs hi hr).mono fun e w' hq=> ?_
 obtain ⟨σ',h',av,x,rfl,rfl,g2,g3,g4,g5,g6,c0,g7,g8,g9,g10,g11,g12,g13⟩:=hq
 refine ⟨σ'.cut [true] bf.length,⟨[some c'],bf',[]⟩,nz av,x,rfl,rfl,g2.cut hlow (fun k hk=> ?_) (Nat.le_refl _), ?_, ?_,by rw [g3j]; exact g5,rfl⟩
 ·cases k with
  |zero=>rfl
  |succ k=>omega
 ·have:=f7b g3 (k:=bf.length) g7 g8 g9 g10 g11 (by rw [g13]; rfl)
  rw [g12,g13] at this
  exact this
 ·exact g4.nz.move (by rw [g5]; exact g6) rfl fun b o h=>d25 h
theorem rio {rs:List b6o} {k:Nat} {R:Type} {f:R ->AV} {fc:R ->List AV} {fb:R ->List (Nat × Nat)} {r r0:R} {env:Env} {h:A4} (hw:r=r0) (hp:plain (f r0)=true /\ (fc r0).all ok1=true /\ lowL [true] k (fc r0)=true) (c0:List AV) (he:(c22 env h rs).map (fun l=>nz (c9d l))=some (f r0):=by kernel_rfl) (hb:h.blks[0]? =some (some c0):=by kernel_rfl) (hit:a7f c0=true:=by kernel_rfl) (hc:c0.map (a10 0 (some 0))=fc r0:=by kernel_rfl) (hf:h.bufs.take k=fb r0:=by kernel_rfl) (hg:h.globs=[]:=by kernel_rfl):qio k rs (f r) (fc r) (fb r) .ret env h:=by
 subst hw
 obtain ⟨l,h1,h2⟩:=Option.map_eq_some_iff.1 he
 exact ⟨b2m h1 h2,hp.1,c0,hb,hit,hc,hp.2.1,hp.2.2,hf,hg⟩
theorem g6r {k:Nat} {rs:List b6o} {r:AV} {c':List AV} {bf':List (Nat × Nat)}:c4l fun e h=>qio k rs r c' bf' .normal e h:=fun e env h he hx=>⟨b7t he hx.1,hx.2⟩
theorem g8p {P:Program} {g:FuncId} {env:Env} {args:List J6} {h:A4} {small c c':List AV} {bf bf' bs:List (Nat × Nat)} {r:AV} (n:Nat) (β:Option Nat) (args' cb cn:List AV) (hf:b4b P h.globs g small c bf r c' bf') (hp:c.all ok1=true /\ c'.all ok1=true /\ small.all okA=true /\ plain r=true)
  (hbf:(β=none /\ bf=[] /\ bf'=[] /\ bs=h.bufs)\/∃x x',β=some 0 /\ bf=[x] /\ bf'=[x'] /\ h.bufs=[x] /\ bs=[x'])
  (ha:evs env args=some args':=by kernel_rfl) (hn:h.blks[n]? =some (some cb):=by kernel_rfl) (hit:a7f cb=true:=by kernel_rfl) (hit':a7f c'=true:=by kernel_rfl) (hc:cb.map (a10 n β)=c:=by kernel_rfl) (hargs:args'.map (smol n β)=small:=by kernel_rfl) (hcn:c'.map (d18 n β)=cn:=by kernel_rfl) (hgl:S6 h.globs=true:=by kernel_rfl):
  a12 P (.call (.c (.clo (.func g) [] [])) args) env h r ⟨h.blks.set n (some cn),bs,h.globs⟩:=by
 subst hcn
 exact fun K hk=>(d3z rfl ha (e8e hf hgl hn hit hc hp.1 hit' hp.2.1 hargs hp.2.2.1 hp.2.2.2 hbf hk)).out
theorem C3 {a:AV} (h:plain a=true):okA a=true:=by
 have one:∀{a:AV},plain a=true ->ok1 a=true:=by
  intro a h
  cases a with
  |sl els tok=>cases tok with
   |own id=>simp [plain] at h
   |_=>exact h
  |ptr k off=>cases h
  |row k off size len cap=>cases h
  |_=>exact h
 cases a with
 |agg cs=>
  simp only [plain] at h
  exact List.all_eq_true.2 fun x hx=>by
   obtain ⟨i,hi⟩:=List.mem_iff_getElem?.1 hx
   exact one (P0 h i x hi)
 |sl els tok=>exact one h
 |ptr k off=>cases h
 |row k off size len cap=>cases h
 |v x=>exact one h
 |elt c o=>exact one h
 |nil=>exact one h
 |tuple vs=>exact one h
 |iface t x=>exact one h
 |clo f a b=>exact one h
 |glob n=>exact one h
 |it s p=>exact one h
theorem F6 {a:AV} {l:List AV} (h1:okA a=true) (h2:l.all okA=true):(a::l).all okA=true:=by simp only [List.all_cons,h1,h2]; rfl
theorem g1s {P:Program} {f:FuncId} {args:List AV} {h:A4} {K:AV ->A4 ->Prop} {k j:Nat} {cells:List AV} (size:Nat) (hk:h.blks[k]? =some (some cells)) (hj:cells[j]? =some .nil)
  (hc:b73 P f args ⟨h.blks.set k (some (cells.set j (.sl [] (.own h.bufs.length)))),h.bufs++[(0,size)],h.globs⟩ K):b73 P f args h K:=by
 refine ⟨hc.1,fun σ cargs hi hr=> ?_⟩
 obtain ⟨σ1,w1,l1,s1⟩:=e2l (env:=[]) (N:=0) size hk hj (a:={tmps:=#[],defers:=[]}) ⟨hi,fun t av hg=>(by cases hg),rfl,rfl⟩
 have:=hc.2 σ1 cargs s1.inv ⟨hr.1,fun i av hi=>let ⟨x,g1,g2⟩:=hr.2 i av hi; ⟨x,g1,g2.mono l1⟩⟩
 rw [w1] at this
 refine this.mono fun e w' hq=> ?_
 obtain ⟨σ',h',av,x,g1,g2,g3,g4⟩:=hq
 exact ⟨σ',h',av,x,g1,g2,l1.trans g3,g4⟩
theorem g5k {P:Program} {g:FuncId} {env:Env} {args:List J6} {h:A4} {small c c':List AV} {bf bf':List (Nat × Nat)} {x':Nat × Nat} {r:AV} (n j size:Nat) (args' cb cn:List AV) (hf:b4b P h.globs g small c bf r c' bf') (hp:c.all ok1=true /\ c'.all ok1=true /\ small.all okA=true /\ plain r=true)
  (hbf:bf=[(0,size)] /\ bf'=[x'])
  (ha:evs env args=some args':=by kernel_rfl) (hn:h.blks[n]? =some (some cb):=by kernel_rfl) (hj:cb[j]? =some .nil:=by kernel_rfl) (hb:h.bufs=[]:=by kernel_rfl) (hit:a7f (cb.set j (.sl [] (.own 0)))=true:=by kernel_rfl) (hit':a7f c'=true:=by kernel_rfl) (hc:(cb.set j (.sl [] (.own 0))).map (a10 n (some 0))=c:=by kernel_rfl) (hargs:args'.map (smol n (some 0))=small:=by kernel_rfl) (hcn:c'.map (d18 n (some 0))=cn:=by kernel_rfl) (hgl:S6 h.globs=true:=by kernel_rfl):
  a12 P (.call (.c (.clo (.func g) [] [])) args) env h r ⟨h.blks.set n (some cn),[x'],h.globs⟩:=by
 subst hcn
 have hnl:n<h.blks.length:=(List.getElem?_eq_some_iff.1 hn).1
 intro K hk
 refine (d3z rfl ha (g1s size hn hj ?_)).out
 have:=e8e (h:=⟨h.blks.set n (some (cb.set j (.sl [] (.own 0)))),[(0,size)],h.globs⟩) (n:=n) (β:=some 0) (bs:=[x']) (K:=K) hf hgl (List.getElem?_set_self hnl) hit hc hp.1 hit' hp.2.1 hargs hp.2.2.1 hp.2.2.2 (.inr ⟨_,_,rfl,hbf.1,hbf.2,rfl,rfl⟩) (by rw [List.set_set]; exact hk)
 rw [hb]
 exact this
section
variable {P:Program} {h h':A4} {env e:Env} {N kf:Nat} {Q:Exit ->Env ->A4 ->Prop} {x:O1}
theorem g1k {m:List Bool} (hm:m.getD 0 false=true):∀k,k<1 ->m.getD k false=true:=fun k hk=>by
 cases k with
 |zero=>exact hm
 |succ k=>omega
end
theorem c9s {a b:List AV}:plainL (a++b)=(plainL a&&plainL b):=by
 induction a with
 |nil=>rfl
 |cons x r ih=>simp only [List.cons_append,plainL,ih,Bool.and_assoc]
def cellsOf {α:Type} (e:α ->List AV) (l:List α):List AV:=(l.map e).flatten
section
variable {α:Type} {e:α ->List AV} {sz:Nat}
theorem b86 (hs:∀y,(e y).length=sz) {l:List α}:∀r∈l.map e,r.length=sz:=by
 intro r hr
 obtain ⟨y,_,rfl⟩:=List.mem_map.1 hr
 exact hs y
theorem d6h (hs:∀y,(e y).length=sz) {l:List α} {i k:Nat} {y:α} (hy:l[i]? =some y) (hk:k<sz):(cellsOf e l)[i*sz+k]? =(e y)[k]? :=by
 rw [cellsOf,b2n _ (b86 hs) i k hk,List.getElem?_map,hy]
 rfl
theorem b9y (hs:∀y,(e y).length=sz):∀(l:List α),(cellsOf e l).length=l.length*sz
 |[]=>by simp [cellsOf]
 |y::l=>by
  have:=b9y hs l
  simp only [cellsOf,List.map_cons,List.flatten_cons,List.length_append,List.length_cons,Nat.add_mul] at this ⊢
  rw [hs,this]; omega
theorem a5u (hn:∀y,a7f (e y)=true):∀{l:List α},l≠[] ->a7f (cellsOf e l)=true
 |[],h=>(h rfl).elim
 |y::l,_=>by
  have:=hn y
  cases hy:e y with
  |nil=>rw [hy] at this; cases this
  |cons a r=>rw [hy] at this; simp only [cellsOf,List.map_cons,List.flatten_cons,hy,List.cons_append,a7f] at this ⊢; exact this
theorem B8 (e:α ->List AV) {l:List α} (h:plainLL (l.map e)=true):plainL (cellsOf e l)=true:=by
 unfold cellsOf
 revert h
 generalize l.map e=x
 intro h
 induction x with
 |nil=>rfl
 |cons a r ih=>simp only [plainLL,Bool.and_eq_true] at h; rw [List.flatten_cons,c9s,h.1,ih h.2]; rfl
theorem e4f {l:List α} {i:Nat} {y:α} (hy:l[i]? =some y):l≠[]:=by rintro rfl; simp at hy
theorem c48 (hs:∀y,(e y).length=sz):∀{l:List α} {i:Nat} {y:α},l[i]? =some y ->((cellsOf e l).drop (i*sz)).take sz=e y
 |[],i,y,h=>by simp at h
 |z::l,0,y,h=>by
  simp at h; subst h
  simp only [cellsOf,List.map_cons,List.flatten_cons,Nat.zero_mul,List.drop_zero]
  rw [List.take_append_of_le_length (by rw [hs]; exact Nat.le_refl _),List.take_of_length_le (by rw [hs]; exact Nat.le_refl _)]
 |z::l,i+1,y,h=>by
  have:=c48 hs (l:=l) (i:=i) (y:=y) (by simpa using h)
  simp only [cellsOf,List.map_cons,List.flatten_cons] at this ⊢
  have h2:(e z++(List.map e l).flatten).drop ((i+1)*sz)=((List.map e l).flatten).drop (i*sz):=by
   have h3:=hs z
   rw [List.drop_append,h3,List.drop_of_length_le (by rw [h3,Nat.add_mul]; omega),List.nil_append]
   congr 1
   rw [Nat.add_mul]; omega
  rw [h2]
  exact this
theorem c77 (hs:∀y,(e y).length=sz):∀{l:List α} {i:Nat} {z:α},i<l.length ->splice (cellsOf e l) (i*sz) (e z)=cellsOf e (l.set i z)
 |[],i,z,h=>by simp at h
 |y::l,0,z,h=>by
  simp only [splice,cellsOf,List.map_cons,List.flatten_cons,Nat.zero_mul,List.take_zero,List.nil_append,Nat.zero_add,List.set_cons_zero]
  rw [hs,List.drop_append_of_le_length (by rw [hs]; exact Nat.le_refl _),List.drop_of_length_le (by rw [hs]; exact Nat.le_refl _),List.nil_append]
 |y::l,i+1,z,h=>by
  have:=c77 hs (l:=l) (i:=i) (z:=z) (by simpa using h)
  simp only [splice,cellsOf,List.map_cons,List.flatten_cons,List.set_cons_succ] at this ⊢
  rw [<-this,Nat.add_mul,Nat.one_mul,Nat.add_comm (i*sz) sz]
  have h1:(e y++(List.map e l).flatten).take (sz+i*sz)=e y++((List.map e l).flatten).take (i*sz):=by
   have:=hs y
   rw [List.take_append,this,List.take_of_length_le (by omega)]; congr 2; omega
  have h2:(e y++(List.map e l).flatten).drop (sz+i*sz+(e z).length)=((List.map e l).flatten).drop (i*sz+(e z).length):=by
   have:=hs y
   rw [List.drop_append,this,List.drop_of_length_le (by omega),List.nil_append]; congr 1; omega
  rw [h1,h2]; simp [List.append_assoc]
theorem e0i (z:α) (hs:(e z).length=sz) (n:Nat):a4z sz n (e z)=cellsOf e (List.replicate n z):=by
 have hl:(a4z sz n (e z)).length=n*sz:=by simp [a4z]
 have hl2:(cellsOf e (List.replicate n z)).length=n*sz:=by
  simp only [cellsOf,List.map_replicate,List.length_flatten,List.map_replicate,List.sum_replicate_nat,hs]
 refine List.ext_getElem? fun i=> ?_
 rcases Nat.lt_or_ge i (n*sz) with hi|hi
 ·have h0:0<sz:=by
   rcases Nat.eq_zero_or_pos sz with h|h
   ·subst h; simp at hi
   ·exact h
  have hm:i % sz<sz:=Nat.mod_lt _ h0
  have hd:i / sz<n:=(Nat.div_lt_iff_lt_mul h0).2 hi
  have e1:(a4z sz n (e z))[i]? =some ((e z).getD (i % sz) .nil):=by
   simp [a4z,List.getElem?_range,hi]
  have e2:(cellsOf e (List.replicate n z))[i]? =(e z)[i % sz]? :=by
   have hh:=b2n (List.map e (List.replicate n z)) (size:=sz) (by
    intro r hr
    simp only [List.map_replicate,List.mem_replicate] at hr
    rw [hr.2,hs]) (i / sz) (i % sz) hm
   rw [Nat.mul_comm,Nat.div_add_mod] at hh
   rw [cellsOf,hh]
   simp [List.getElem?_replicate,hd]
  rw [e1,e2,List.getD_eq_getElem?_getD]
  rw [List.getElem?_eq_getElem (by rw [hs]; exact hm)]
  rfl
 ·rw [List.getElem?_eq_none (by omega),List.getElem?_eq_none (by omega)]
end
section
variable {P:Program} {h h':A4} {env:Env} {α:Type} {e:α ->List AV} {sz:Nat}
theorem f9e {x y:J6} {bytes:Nat} {zero:List AV} (e:α ->List AV) (z:α) (L C:Int) (h0:0<=L /\ L<=C /\ C*bytes<=140737488355328) (hx:c2f (x.ev env)=some L:=by kernel_rfl) (hy:c2f (y.ev env)=some C:=by kernel_rfl) (hz:zero=e z:=by kernel_rfl) (hs:(e z).length=sz:=by kernel_rfl):a12 P (.make sz bytes zero x y) env h (.row h.blks.length 0 sz L.toNat C.toNat) ⟨h.blks++[some (cellsOf e (List.replicate C.toNat z))],h.bufs,h.globs⟩:=by
 obtain ⟨k1,hx⟩:=b0z hx
 obtain ⟨k2,hy⟩:=b0z hy
 subst hz
 intro K hk
 simp only [aop,hx,hy,wv,g04]
 rw [e0i z hs]
 exact ⟨h0,hk⟩
theorem g05 {x i:J6} (r len cap:Nat) {n:Int} (h0:0<=n /\ n<(len:Int)) (hx:x.ev env=some (.row r 0 sz len cap):=by kernel_rfl) (hi:c2f (i.ev env)=some n:=by kernel_rfl):a12 P (.idxSl sz x i) env h (.ptr r (0+n.toNat*sz)) h:=by
 obtain ⟨k,hi⟩:=b0z hi
 intro K hk
 simp only [aop,hx,hi,wv,c3m]
 exact ⟨h0,trivial,hk⟩
theorem d4i {r off:Nat} {l:List α} (hn:∀y,a7f (e y)=true) (hb:h.blks[r]? =some (some (cellsOf e l))) (hl:l≠[]):a3e h (.ptr r off)=some (cellsOf e l,off):=by
 simp only [a3e,hb,a5u hn hl,if_true]
theorem g2v {x:J6} {r off i k:Nat} {l:List α} {y:α} {av:AV} (hs:∀y,(e y).length=sz) (hn:∀y,a7f (e y)=true) (hy:l[i]? =some y) (hk:k<sz) (hav:(e y)[k]? =some av) (hoff:off=i*sz+k) (hx:x.ev env=some (.ptr r off):=by kernel_rfl) (hb:h.blks[r]? =some (some (cellsOf e l)):=by kernel_rfl):a12 P (.load none x) env h av h:=by
 intro K hK
 simp only [aop,hx,wv,b6e,d4i hn hb (e4f hy)]
 rw [hoff,d6h hs hy hk,hav]
 exact hK
theorem g0j {x:J6} {r off i:Nat} {l:List α} {y:α} {cs:List AV} (hs:∀y,(e y).length=sz) (hn:∀y,a7f (e y)=true) (hy:l[i]? =some y) (hcs:e y=cs) (hoff:off=i*sz) (hx:x.ev env=some (.ptr r off):=by kernel_rfl) (hb:h.blks[r]? =some (some (cellsOf e l)):=by kernel_rfl):a12 P (.load (some sz) x) env h (.agg cs) h:=by
 intro K hK
 subst hcs
 simp only [aop,hx,wv,b6e,d4i hn hb (e4f hy)]
 rw [hoff,c48 hs hy]
 refine ⟨?_,hK⟩
 rw [b9y hs,<-Nat.succ_mul]
 exact Nat.mul_le_mul_right sz (List.getElem?_eq_some_iff.1 hy).1
theorem g7v {p x:J6} {r off i:Nat} {l:List α} {av:AV} (z:α) (hs:∀y,(e y).length=sz) (hn:∀y,a7f (e y)=true) (hi:i<l.length) (hav:e z=av.cells) (hoff:off=i*sz) (hp:p.ev env=some (.ptr r off):=by kernel_rfl) (hx:x.ev env=some av:=by kernel_rfl) (ht:av.isTuple=false:=by kernel_rfl) (hb:h.blks[r]? =some (some (cellsOf e l)):=by kernel_rfl):a12 P (.store sz p x) env h (.tuple []) ⟨h.blks.set r (some (cellsOf e (l.set i z))),h.bufs,h.globs⟩:=by
 intro K hK
 have hne:l≠[]:=by rintro rfl; simp at hi
 simp only [aop,hp,hx,wv,d0t,hb,a5u hn hne]
 rw [<-c77 hs hi,hav,<-hoff] at hK
 refine ⟨⟨trivial,by rw [<-hav]; exact hs z, ?_,ht⟩,hK⟩
 rw [hoff,b9y hs,<-Nat.succ_mul]
 exact Nat.mul_le_mul_right sz hi
end
section
variable {P:Program} {h:A4} {env:Env} {K:Env ->A4 ->Prop} {L:List C2} {k:Nat}
theorem vx {d:Nat} {x:J6} (hl:L[k]? =some ⟨some d,.next x,none⟩) (n:Nat) (s:ByteArray) (p:Nat) (h1:p<s.size ->Vp P L (k+1) ((d,.tuple [.v (.bool true),.v (.int .i64 p),.v (.int .i32 (Utf8.decode s p).1)])::env) ⟨h.blks.set n (some [.it s (p+(Utf8.decode s p).2)]),h.bufs,h.globs⟩ K) (h2:¬p<s.size ->Vp P L (k+1) ((d,.tuple [.v (.bool false)])::env) h K) (hx:x.ev env=some (.ptr n 0):=by kernel_rfl) (hb:h.blks[n]? =some (some [.it s p]):=by kernel_rfl):Vp P L k env h K:=by
 rcases Nat.lt_or_ge p s.size with hp|hp
 ·refine e2p hl rfl (h':=⟨h.blks.set n (some [.it s (p+(Utf8.decode s p).2)]),h.bufs,h.globs⟩) (fun K hk=> ?_) rfl rfl (h1 hp)
  simp only [aop,hx,wv,c4y,hb]
  exact ⟨fun _=>hk,fun hn=>(hn hp).elim⟩
 ·refine e2p hl rfl (h':=h) (fun K hk=> ?_) rfl rfl (h2 (Nat.not_lt.2 hp))
  simp only [aop,hx,wv,c4y,hb]
  exact ⟨fun hn=>(Nat.not_lt.2 hp hn).elim,fun _=>hk⟩
end
def rfz (n:Nat) (els:List (List AV)):AV ->AV
 |.row k off size len cap=>if k=n then .sl els .no else .row k off size len cap
 |a=>a
def f4o (n:Nat) (els:List (List AV)):Env ->Env
 |[]=>[]
 |(t,a)::e=>(t,rfz n els a)::f4o n els e
theorem d12 {n:Nat} {els:List (List AV)}:∀{e:Env} {t:Nat} {b:AV},get (f4o n els e) t=some b ->∃a,get e t=some a /\ b=rfz n els a
 |[],_,_,h=>by cases h
 |(u,a)::e,t,b,h=>by
  simp only [f4o,get] at h ⊢
  split at h
  ·rename_i hu; rw [if_pos hu]; cases h; exact ⟨a,rfl,rfl⟩
  ·rename_i hu; rw [if_neg hu]; exact d12 h
def b7k (n:Nat):Env ->List (Nat × Nat × Nat)
 |[]=>[]
 |(_,.row k off size len _)::e=>if k=n then (off,size,len)::b7k n e else b7k n e
 |_::e=>b7k n e
theorem c3a {n:Nat}:∀{e:Env} {t off size len cap:Nat},get e t=some (.row n off size len cap) ->(off,size,len)∈b7k n e
 |[],_,_,_,_,_,h=>by cases h
 |(u,a)::e,t,off,size,len,cap,h=>by
  simp only [get] at h
  split at h
  ·cases h; simp [b7k]
  ·have:=c3a h
   unfold b7k
   split
   ·rename_i heq; cases heq
   ·rename_i heq; cases heq; split
    ·exact List.mem_cons_of_mem _ this
    ·exact this
   ·rename_i heq; cases heq; exact this
theorem e6p {P:Program} {h:A4} {env:Env} {N kb kf:Nat} {Q:Exit ->Env ->A4 ->Prop} {x:O1} (n:Nat) (m:List Bool) (k:Nat) (cells:List AV) (els:List (List AV)) (sz len c:Nat) (hb:h.blks[n]? =some (some cells)) (hce:els.flatten=cells) (hsz:∀el∈els,el.length=sz) (hlen:els.length=len) (hpos:0<sz) (hit:els≠[] ->a7f cells=true) (hrow:b7k n env=List.replicate c (0,sz,len)) (hmn:m.getD n false=false) (hal:c4a m h.blks=true) (hm:∀k,k<kb ->m.getD k false=true) (hn:kf<=k)
  {e:Env} (hE:f4o n els env=e) (he:a9l m k e=true) (hB:a6x m k (Z8 m h.blks)=true) (hg:S6 h.globs=true) (hx:D P N kb kf x Q e ⟨Z8 m h.blks,h.bufs.take k,h.globs⟩):D P N kb kf x Q env h:=⟨by
 subst hE
 intro co hc σ0 σ a hs hle hl
 refine hx.out co hc σ0 (σ.cut m k) a ⟨hs.inv.cut m k hB hg,fun t av ht=> ?_,hs.size,hs.defers⟩ (hle.cut hl hm hn) hl
 have hlow:=c01 he ht
 obtain ⟨a0,h1,rfl⟩:=d12 ht
 obtain ⟨y,h2,h3⟩:=hs.env t a0 h1
 refine ⟨y,h2, ?_⟩
 cases a0 with
 |row j off size len' cap=>
  simp only [rfz] at hlow ⊢
  split at hlow
  ·rename_i hj
   subst hj
   rw [if_pos rfl]
   have hrr:=c3a h1
   rw [hrow] at hrr
   obtain ⟨rfl,rfl,rfl⟩:off=0 /\ size=sz /\ len'=len:=by simpa using (List.mem_replicate.1 hrr).2
   cases h3 with
   |row _ _ _ _ _ b cap' hblk hcap _ _=>
   obtain ⟨b',h4,h5⟩:=hs.inv.blk j cells hb
   rw [hblk] at h4; cases h4
   subst hlen
   rcases Classical.em (els=[]) with h0|h0
   ·subst h0; exact .slx _ ⟨b,0,none⟩ cap' trivial (.inl rfl)
   have hni:=hit h0
   obtain ⟨cs,rest,elem,h6,h7⟩:=h5.plain hni
   have hlc:lowLL m k els=true:=by simpa [low] using hlow
   have key:∀(i:Nat) (el:List AV),els[i]? =some el ->∀(q:Nat) (av:AV),el[q]? =some av ->∃xv,σ.w.cell? ⟨b,0+i*size+q,none⟩=some xv /\ Rel σ av xv /\ av.isCell=true:=by
    intro i el hi q av hq
    have hql:q<size:=by rw [<-hsz el (List.mem_of_getElem? hi)]; exact (List.getElem?_eq_some_iff.1 hq).1
    have hf:=b2n els hsz i q hql
    rw [hi,Option.bind_some,hq,hce] at hf
    obtain ⟨q1,xv,q2,q3⟩:=h7.2 _ av hf
    refine ⟨xv, ?_,q3,q1⟩
    have hlt:=(List.getElem?_eq_some_iff.1 q2).1
    rw [Nat.zero_add]
    simp [World.cell?,h6,List.getElem?_append_left hlt,q2]
   have hne:cells≠[]:=b29 hni
   refine Rel.sl (σ:=σ.cut m k) els .no b 0 cap' size (fun i q=>(σ.w.cell? ⟨b,0+i*size+q,none⟩).getD undef) (fun i el hi=>hsz el (List.mem_of_getElem? hi)) hcap trivial (fun id e hid=>by cases hid) (fun i el hi q av hq=> ?_) fun i el hi q av hq=> ?_
   ·obtain ⟨xv,q1,q2,q3⟩:=key i el hi q av hq
    refine ⟨by show σ.w.cell? _=_; rw [q1]; rfl, ?_,q3⟩
    rintro (ho|⟨j',hj'⟩|⟨id,eb,he1,he2⟩)
    ·exact (hs.inv.outer _ _ ho).2 (.inl ⟨j,hblk⟩)
    ·simp only [Sg.cut] at hj'
     split at hj'
     ·rename_i hmj
      obtain ⟨c',hc'⟩:=hs.inv.dom j' b hj'
      have:=hs.inv.inj j' j b c' cells hc' hb (c08 hal hmj hc') hne hj' hblk
      subst this
      rw [hmn] at hmj; cases hmj
     ·cases hj'
    ·simp only [Sg.cut] at he1
     split at he1
     ·exact hs.inv.bufblk id eb j b _ he1 he2 hblk
     ·cases he1
   ·obtain ⟨xv,q1,q2,q3⟩:=key i el hi q av hq
    rw [q1]
    exact q2.cut (a4t (c2e hlc i el hi) q av hq)
  ·rename_i hj
   rw [if_neg hj]
   exact h3.cut hlow
 |_=>exact h3.cut hlow⟩
theorem drf {P:Program} {h:A4} {env:Env} {N kb kf:Nat} {Q:Exit ->Env ->A4 ->Prop} {x:O1} {α:Type} {f:α ->List AV} {sz:Nat} (n:Nat) (m:List Bool) (k c:Nat) (l:List α) (len:Nat) (e:Env) (bs:List (Option (List AV))) (hs:∀y,(f y).length=sz) (hni:∀y,a7f (f y)=true) (hlen:l.length=len) (hw:a9l m k e=true /\ a6x m k bs=true) (hx:D P N kb kf x Q e ⟨bs,h.bufs.take k,h.globs⟩) (hb:h.blks[n]? =some (some (cellsOf f l)):=by kernel_rfl) (hpos:Nat.ble 1 sz=true:=by kernel_rfl) (hrow:b7k n env=List.replicate c (0,sz,len):=by kernel_rfl) (hmn:m.getD n false=false:=by kernel_rfl) (hal:c4a m h.blks=true:=by kernel_rfl) (hm:∀k,k<kb ->m.getD k false=true:=by intro k hk; first|exact absurd hk (Nat.not_lt_zero _)|exact g1k rfl k hk) (hkf:Nat.ble kf k=true:=by kernel_rfl) (hE:f4o n (List.map f l) env=e:=by kernel_rfl) (hbs:Z8 m h.blks=bs:=by kernel_rfl) (hg:S6 h.globs=true:=by kernel_rfl):D P N kb kf x Q env h:=by
 subst hbs
 exact e6p n m k _ (List.map f l) sz len c hb rfl (b86 hs) (by rw [List.length_map]; exact hlen) (Nat.le_of_ble_eq_true hpos) (fun h0=>a5u hni (fun h=>h0 (by rw [h]; rfl))) hrow hmn hal hm (Nat.le_of_ble_eq_true hkf) hE hw.1 hw.2 hg hx
def e40 (ord:List (List Nat)) (al:List C2) (n:Nat):Bool:=
 (List.range n).all fun i=>match al[i]? with
  |some o=>V3 o.op&& !c2x o&&(c44 o.op||(ord.getD n []).contains i)
  |none=>false
theorem d3n {ord:List (List Nat)} {al:List C2} {n i:Nat} {o:C2} (h:e40 ord al n=true) (hi:i<n) (ho:al[i]? =some o):V3 o.op=true /\ c2x o=false /\ (c44 o.op=true\/i∈ord.getD n []):=by
 simp only [e40,List.all_eq_true,List.mem_range] at h
 have:=h i hi
 rw [ho] at this
 simpa [Bool.and_eq_true,Bool.or_eq_true,and_assoc] using this
theorem e9u {a b:List C2} (h:okq (a++b)=true):okq a=true:=by
 induction a with
 |nil=>rfl
 |cons o a ih=>
  simp only [List.cons_append,okq,Bool.and_eq_true,List.all_eq_true] at h ⊢
  have sub:∀t,E8 t (o::a)=true ->E8 t (o::(a++b))=true:=by
   intro t ht
   simp only [E8,List.any_cons,List.any_append,Bool.or_eq_true] at ht ⊢
   rcases ht with h1|h1
   ·exact .inl h1
   ·exact .inr (.inl h1)
  have sub2:∀t,E8 t a=true ->E8 t (a++b)=true:=by
   intro t ht
   simp only [E8,List.any_append,Bool.or_eq_true] at ht ⊢
   exact .inl ht
  refine ⟨⟨fun t ht=> ?_, ?_⟩,ih h.2⟩
  ·have:=h.1.1 t ht
   cases hw:E8 t (o::a) with
   |true=>rw [sub t hw] at this; exact this
   |false=>rfl
  ·cases hd:o.dst with
   |none=>rfl
   |some d=>
    have h2:=h.1.2
    rw [hd] at h2
    simp only at h2 ⊢
    cases hw:E8 d a with
    |true=>rw [sub2 d hw] at h2; exact h2
    |false=>rfl
theorem f3k (h:A4) (lst:Nat ->Bool):hA h [] lst=h:=by simp [hA]
theorem f4u {P:Program} {I:A4 ->Prop} {ord:List (List Nat)} {al:List C2} {w:C2} {n:Nat} {env:Env} {h:A4} {K:Env ->A4 ->Prop} (hn:al.length=n+1) (hw:al[n]? =some w) (hg:w.guard=none) (hd:w.dst=none) (hok:okq al=true) (hst:e40 ord al n=true) (hI:I h)
  (hv:vs P I false (al.take n) env h fun F h0=>∃av h',a12 P w.op F h0 av h' /\ K F h'):∃F h' fl,c92 P ord al env F h h' [] [h,h'] fl /\ K F h':=by
 have hal:al=al.take n++[w]:=by
  have h1:=List.take_append_drop n al
  have h2:al.drop n=[w]:=by
   have:n<al.length:=by omega
   rw [List.drop_eq_getElem_cons this]
   have h3:=List.getElem?_eq_getElem this
   rw [hw] at h3; cases h3
   rw [List.drop_eq_nil_of_le (by omega)]
  rw [h2] at h1; exact h1.symm
 have hlen:(al.take n).length=n:=by simp; omega
 obtain ⟨F,az,hs,fl,h0,ps,⟨av,h',hdoes,hk⟩,hnil⟩:=c3i (i0:=0) (j:=0) (e9u (b:=[w]) (by rw [<-hal]; exact hok)) hv
 have has:az=[]:=hnil rfl
 subst has
 have hget:∀i,i<n ->∃o,al[i]? =some o /\ (al.take n)[i]? =some o:=fun i hi=>⟨al[i],List.getElem?_eq_getElem (by omega),by rw [List.getElem?_take,if_pos hi]; exact List.getElem?_eq_getElem (by omega)⟩
 have hflen:fl.length=n:=by rw [ps.len,hlen]
 have hnone:∀i,i<n ->fl[i]? =some none:=by
  intro i hi
  have e:fl[i]? =some fl[i]:=List.getElem?_eq_getElem (by omega)
  cases hf:fl[i] with
  |none=>rw [e,hf]
  |some m=>
   rw [hf] at e
   obtain ⟨o,h1,h2⟩:=hget i hi
   have h3:=(ps.chg i m o e h2).1
   have h4:=(d3n hst hi h1).1
   rw [h3] at h4; cases h4
 obtain ⟨m,hm1,hm2⟩:=ps.last
 have hone:m=0:=by
  rcases Nat.eq_zero_or_pos m with h1|h1
  ·exact h1
  ·obtain ⟨i,hi⟩:=ps.onto 0 (Nat.zero_le _) (by omega)
   have hlt:i<n:=by rw [<-hflen]; exact (List.getElem?_eq_some_iff.1 hi).1
   rw [hnone i hlt] at hi; cases hi
 subst hone
 have hf0:=ps.first
 rw [hm2] at hf0
 have h00:h0=h:=by
  have:=Option.some.inj hf0
  rw [this]; simp
 subst h00
 refine ⟨F,h',fl++[some 0], ?_,hk⟩
 have hfl:∀i x,(fl++[some 0])[i]? =some x ->(i<n /\ x=none)\/(i=n /\ x=some 0):=by
  intro i x hx
  rcases Nat.lt_trichotomy i n with h1|h1|h1
  ·rw [List.getElem?_append_left (by omega),hnone i h1] at hx
   cases hx; exact .inl ⟨h1,rfl⟩
  ·subst h1
   rw [List.getElem?_append_right (by omega),hflen,Nat.sub_self] at hx
   cases hx; exact .inr ⟨rfl,rfl⟩
  ·rw [List.getElem?_eq_none (by simp; omega)] at hx; cases hx
 have hlast:(fl++[some 0])[n]? =some (some 0):=by rw [List.getElem?_append_right (by omega),hflen,Nat.sub_self]; rfl
 refine ⟨by simp [hflen,hn],fun i k a b hik hi hk=> ?_,fun j hj=> ?_, ?_,⟨1,rfl,rfl⟩,fun i x hi=> ?_,fun t ht=> ?_,fun q p hq=>(by simp at hq),fun q r p s hq=>(by simp at hq),fun k x hk p hp=>(by cases hp),fun i o x hi hx=> ?_⟩
 ·rcases hfl i _ hi with ⟨_,h1⟩|⟨h1,_⟩
  ·cases h1
  ·rcases hfl k _ hk with ⟨_,h2⟩|⟨h2,_⟩
   ·cases h2
   ·omega
 ·obtain rfl:j=0:=by
   have:j+1<2:=hj
   omega
  exact ⟨n,hlast⟩
 ·rw [f3k]; rfl
 ·rcases hfl i _ hi with ⟨_,h1⟩|⟨_,h1⟩
  ·cases h1
  ·cases h1; simp
 ·refine ps.keep t ?_
  rw [hal] at ht
  simp only [E8,List.any_append,Bool.or_eq_false_iff] at ht ⊢
  exact ht.1
 ·right
  rcases hfl i _ hx with ⟨h1,rfl⟩|⟨rfl,rfl⟩
  ·obtain ⟨o',e1,e2⟩:=hget i h1
   rw [hi] at e1; cases e1
   obtain ⟨hq,hnew,hp⟩:=d3n hst h1 hi
   rcases ps.fact i o none e2 (hnone i h1) with ⟨q,p,e3,_⟩|hf
   ·simp at e3
   have conv:e4m P I F hs 0 o none ->d1c P F h0 [] [h0,h'] ord (fl++[some 0]) i o none:=by
    rintro ⟨a,hqa,hfd⟩
    rcases hp with hp|hp
    ·exact ⟨a,0,1,by simp,fun j lst hj _ _ _=>b7h hp (hqa h0 hI),fun k x _ hx=>by omega,.inl (by simp),hfd⟩
    ·refine ⟨a,0,0,by simp,fun j lst hj h3 h4 h5=> ?_,fun k x _ hx=>by omega,.inr ⟨n,hlast,hp⟩,hfd⟩
     have:j=0:=by omega
     subst this
     have h6:hA h0 [] lst=hj:=Option.some.inj h5
     rw [f3k] at h6
     rw [<-h6]; exact hqa h0 hI
   unfold d6f
   unfold e38 at hf
   cases hgd:o.guard with
   |none=>rw [hgd] at hf; exact conv hf
   |some g=>
    obtain ⟨t,want⟩:=g
    rw [hgd] at hf
    rcases hf with ⟨b,k1,k2,k3⟩|hf
    ·exact .inl ⟨b,k1,fun hb=>conv (k2 hb),k3⟩
    ·exact .inr hf
  ·rw [hw] at hi; cases hi
   unfold d6f
   rw [hg]
   simp only
   exact ⟨av,h0,h',rfl,rfl,hdoes _ ⟨rfl,rfl⟩,fun d hd'=>by rw [hd] at hd'; cases hd'⟩
theorem dL {P:Program} {N kb kf:Nat} {Q:Exit ->Env ->A4 ->Prop} {env:Env} {h:A4} (n:Nat) (S:List (Nat × List AV)) {ord:List (List Nat)} {al tl:List C2} {w:C2} (hw:al[n]? =some w)
  (hv:Sp P S h.globs false (al.take n) 0 env h fun F h0=>∃av h',a12 P w.op F h0 av h' /\ Vp P tl 0 F h' fun env' h''=>Q .normal env' h'')
  (hn:al.length=n+1:=by kernel_rfl) (hg:w.guard=none:=by kernel_rfl) (hd:w.dst=none:=by kernel_rfl) (hok:okq al=true:=by kernel_rfl) (hst:e40 (clo ord) al n=true:=by kernel_rfl) (hS:inS S h=S.map (fun p=>some (some p.2)):=by kernel_rfl):D P N kb kf (.drawn ord al tl) Q env h:=by
 obtain ⟨F,h',fl,hn',hk⟩:=f4u (I:=InS S h.globs) (K:=fun F h'=>vd P tl F h' fun env' h''=>Q .normal env' h'') hn hw hg hd hok hst (d96 hS rfl) hv
 exact c47 ⟨c0k hn' (c3d hk)⟩
structure c2u {α:Type} (e:α ->List AV) (sz:Nat):Prop where
 hs:∀y,(e y).length=sz
 hn:∀y,a7f (e y)=true
 hp:∀y,plainL (e y)=true
 hz:∀y,(e y).map nz1=e y
section
variable {α:Type} {e:α ->List AV} {sz:Nat}
theorem d0d:∀{l:List AV},plainL l=true ->∀a∈l,plain a=true
 |[],_,a,h=>by cases h
 |b::l,hp,a,h=>by
  simp only [plainL,Bool.and_eq_true] at hp
  rcases List.mem_cons.1 h with h|h
  ·rw [h]; exact hp.1
  ·exact d0d hp.2 a h
theorem e0c {n:Nat} {β:Option Nat} {a:AV} (hp:plain a=true) (hz:nz1 a=a):a10 n β a=a:=by
 cases a with
 |nil=>simp [nz1] at hz
 |sl els tok=>cases tok<;>simp_all [nz1,a10]
 |ptr _ _=>simp [plain] at hp
 |row _ _ _ _ _=>simp [plain] at hp
 |_=>rfl
theorem e2z {n:Nat} {β:Option Nat} {a:AV} (hp:plain a=true):d18 n β a=a:=by
 cases a with
 |sl els tok=>cases tok<;>first|rfl|simp_all [plain]
 |ptr _ _=>simp [plain] at hp
 |row _ _ _ _ _=>simp [plain] at hp
 |_=>rfl
theorem e2q {a:AV} (hp:plain a=true):ok1 a=true:=by
 cases a with
 |sl els tok=>cases tok<;>first|exact hp|simp_all [plain,ok1]
 |ptr _ _=>simp [plain] at hp
 |row _ _ _ _ _=>simp [plain] at hp
 |_=>exact hp
theorem c2u.mem (he:c2u e sz) {l:List α} {a:AV} (h:a∈cellsOf e l):plain a=true /\ nz1 a=a:=by
 unfold cellsOf at h
 obtain ⟨c,hc,ha⟩:=List.mem_flatten.1 h
 obtain ⟨y,_,rfl⟩:=List.mem_map.1 hc
 refine ⟨d0d (he.hp y) a ha, ?_⟩
 obtain ⟨i,hi⟩:=List.mem_iff_getElem?.1 ha
 have:=congrArg (fun l=>l[i]?) (he.hz y)
 simpa [List.getElem?_map,hi] using this
theorem d8w {f:AV ->AV} {l:List AV} (h:∀a∈l,f a=a):l.map f=l:=by
 induction l with
 |nil=>rfl
 |cons a l ih=>rw [List.map_cons,h a List.mem_cons_self,ih fun b hb=>h b (List.mem_cons_of_mem _ hb)]
theorem c2u.smol (he:c2u e sz) (n:Nat) (β:Option Nat) (l:List α):(cellsOf e l).map (a10 n β)=cellsOf e l:=d8w fun a ha=>e0c (he.mem ha).1 (he.mem ha).2
theorem c2u.big (he:c2u e sz) (n:Nat) (β:Option Nat) (l:List α):(cellsOf e l).map (d18 n β)=cellsOf e l:=d8w fun a ha=>e2z (he.mem ha).1
theorem c2u.ok (he:c2u e sz) (l:List α):(cellsOf e l).all ok1=true:=List.all_eq_true.2 fun a ha=>e2q (he.mem ha).1
theorem d2i (m:List Bool) (n:Nat):∀{l:List AV},plainL l=true ->lowL m n l=true:=fun h=>lowL_plain m n _ h
theorem e7l {l:List AV} (h:∀a∈l,plain a=true):plainL l=true:=by
 induction l with
 |nil=>rfl
 |cons a l ih=>simp only [plainL,Bool.and_eq_true]; exact ⟨h a List.mem_cons_self,ih fun b hb=>h b (List.mem_cons_of_mem _ hb)⟩
theorem c2u.plain (he:c2u e sz) (l:List α):plainL (cellsOf e l)=true:=e7l fun a ha=>(he.mem ha).1
def b96 (P:Program) (e:α ->List AV) (sz:Nat) (f:FuncId) (len:Nat) (args:List AV) (l r:List α):Prop:=b4b P [] f (.row 0 0 sz len len::args) (cellsOf e l) [] (.tuple []) (cellsOf e r) []
theorem h17 {l r:List α} {env:Env} {h:A4} (he:c2u e sz) (hw:l≠[] /\ r=l) (hb:h.blks[0]? =some (some (cellsOf e l)):=by kernel_rfl) (hf:h.bufs.take 0=[]:=by kernel_rfl) (hg:h.globs=[]:=by kernel_rfl):qio 0 [] (.tuple []) (cellsOf e r) [] .ret env h:=by
 obtain ⟨h1,rfl⟩:=hw
 exact rio (f:=fun _=>.tuple []) (fc:=fun r=>cellsOf e r) (fb:=fun _=>[]) (r:=r) rfl ⟨rfl,he.ok r,d2i _ _ (he.plain r)⟩ (cellsOf e r) rfl hb (a5u he.hn h1) (he.smol _ _ _) hf hg
theorem g7t {P:Program} {g:FuncId} {env:Env} {args:List J6} {h:A4} {len:Nat} {small:List AV} {l r:List α} (n:Nat) (args':List AV) (he:c2u e sz) (hf:b96 P e sz g len small l r) (h0:l≠[] /\ r≠[]) (hok:small.all okA=true)
  (ha:evs env args=some args':=by kernel_rfl) (hn:h.blks[n]? =some (some (cellsOf e l)):=by kernel_rfl) (hargs:args'.map (smol n none)=.row 0 0 sz len len::small:=by kernel_rfl) (hgl:h.globs=[]:=by kernel_rfl):
  a12 P (.call (.c (.clo (.func g) [] [])) args) env h (.tuple []) ⟨h.blks.set n (some (cellsOf e r)),h.bufs,h.globs⟩:=by
 have hf':b4b P h.globs g (.row 0 0 sz len len::small) (cellsOf e l) [] (.tuple []) (cellsOf e r) []:=by rw [hgl]; exact hf
 exact g8p n none args' (cellsOf e l) (cellsOf e r) hf' ⟨he.ok l,he.ok r,F6 rfl hok,rfl⟩ (.inl ⟨rfl,rfl,rfl,rfl⟩) ha hn (a5u he.hn h0.1) (a5u he.hn h0.2) (he.smol _ _ _) hargs (he.big _ _ _) (by rw [hgl]; rfl)
end
theorem g17 (c:Nat) (h:c<256):F4 .and .u8 (c:Int) 127=((c % 128:Nat):Int):=by
 have:∀c:Fin 256,F4 .and .u8 ((c.val:Nat):Int) 127=((c.val % 128:Nat):Int):=by decide+kernel
 exact this ⟨c,h⟩
theorem c7w (a b:Nat) (ha:a<18446744073709551616) (hb:b<18446744073709551616):F4 .or .u64 (a:Int) (b:Int)=((a|||b:Nat):Int):=by
 have h:=Nat.or_lt_two_pow (n:=64) (x:=a) (y:=b) (by simpa using ha) (by simpa using hb)
 have e1:((a:Int) % (2 ^ 64:Nat)).toNat=a:=by omega
 have e2:((b:Int) % (2 ^ 64:Nat)).toNat=b:=by omega
 have e3:F4 .or .u64 (a:Int) (b:Int)=IntKind.u64.wrap (((BitVec.ofInt 64 (a:Int)|||BitVec.ofInt 64 (b:Int)).toNat:Nat):Int):=rfl
 rw [e3,BitVec.toNat_or,BitVec.toNat_ofInt,BitVec.toNat_ofInt,e1,e2]
 simp only [IntKind.wrap,IntKind.signed,IntKind.bits,Bool.false_and,Bool.false_eq_true,if_false]
 omega
theorem f3f (u x k:Nat) (hu:u<2 ^ k):u|||x*2 ^ k=u+x*2 ^ k:=by
 have:=Nat.two_pow_add_eq_or_of_lt (i:=k) (b:=u) hu x
 rw [Nat.or_comm,Nat.add_comm,Nat.mul_comm]; exact this.symm
theorem D5 {n:Int} (h: -9223372036854775808<=n /\ n<=9223372036854775807):IntKind.i64.wrap n=n:=by simp [IntKind.wrap,IntKind.signed,IntKind.bits]; omega
def b1h (data:ByteArray) (at_ end_:Int):Bool:=decide (0<=at_ /\ at_<=end_ /\ end_<=(data.size:Int))
def a07 (data:ByteArray) (at_ end_:Int):Int:=if b1h data at_ end_=true then end_ - at_ else 0
theorem b4i {data:ByteArray} {at_ end_:Int} (h:0<a07 data at_ end_):0<=at_ /\ at_<end_ /\ end_<=(data.size:Int) /\ a07 data at_ end_=end_ - at_:=by
 unfold a07 at h ⊢
 split at h
 ·rename_i hs
  rw [if_pos hs]
  simp only [b1h,decide_eq_true_eq] at hs
  omega
 ·omega
def H5 (s:ByteArray) (i:Nat):Nat:=(F0 s i).toNat
theorem b2v (s:ByteArray) (i:Nat):F0 s i=(H5 s i:Int) /\ H5 s i<256:=by
 have h:0<=F0 s i /\ F0 s i<256:=by
  unfold F0
  have:=(s.data.toList.getD i 0).toNat_lt
  omega
 unfold H5
 omega
def W4 (s:ByteArray) (i u:Nat):Nat × Nat × Nat:=
 if 10<=i then (0,0,6) else if s.size<=i then (0,0,4) else if i=9 /\ 1<H5 s i then (0,0,6) else if H5 s i<128 then (u+H5 s i*128 ^ i,i+1,0) else W4 s (i+1) (u+H5 s i % 128*128 ^ i)
 termination_by 10 - i
theorem b5u {n:Int} (h:0<=n /\ n<=18446744073709551615):IntKind.u64.wrap n=n:=by simp [IntKind.wrap,IntKind.signed,IntKind.bits]; omega
theorem e8k {i:Nat} (h:i<=9):128 ^ i<=9223372036854775808 /\ 1<=128 ^ i /\ (i<=8 ->128 ^ (i+1)<=9223372036854775808):=by
 have:i=0\/i=1\/i=2\/i=3\/i=4\/i=5\/i=6\/i=7\/i=8\/i=9:=by omega
 rcases this with rfl|rfl|rfl|rfl|rfl|rfl|rfl|rfl|rfl|rfl<;>decide
theorem Z4 (s:ByteArray) {l u i:Nat} (h:l+i<u):H5 (s.extract l u) i=H5 s (l+i):=by
 unfold H5 F0
 rw [d1h]
 simp only [List.getD_eq_getElem?_getD,List.getElem?_drop,List.getElem?_take,if_pos h]
theorem U6 (s:ByteArray) {l u:Nat} (h:u<=s.size):(s.extract l u).size=u - l:=by
 rw [ByteArray.size_extract]; omega
theorem c6x (s:ByteArray) (l:Nat):s.extract l l=⟨#[]⟩:=by
 rw [d1h]
 congr 2
 apply List.drop_eq_nil_of_le
 simp
 omega
theorem d6n (s t:ByteArray) (h1:∀i,i<10 ->(s.size<=i↔t.size<=i)) (h2:∀i,i<10 ->i<s.size ->H5 s i=H5 t i) (n:Nat):∀i u,10 - i=n ->W4 s i u=W4 t i u:=by
 induction n with
 |zero=>
  intro i u h
  rw [W4.eq_def,W4.eq_def t,if_pos (show 10<=i by omega),if_pos (show 10<=i by omega)]
 |succ n ih=>
  intro i u h
  have a1:=h1 i (by omega)
  rw [W4.eq_def,W4.eq_def t,if_neg (show ¬10<=i by omega),if_neg (show ¬10<=i by omega)]
  by_cases hs:s.size<=i
  ·rw [if_pos hs,if_pos (a1.1 hs)]
  ·have a2:=h2 i (by omega) (by omega)
   rw [if_neg hs,if_neg (fun h=>hs (a1.2 h)),a2]
   split
   ·rfl
   split
   ·rfl
   exact ih _ _ (by omega)
theorem c3c (s:ByteArray) (n:Nat):∀i u,10 - i=n ->(W4 s i u).2.1<=s.size /\ ((W4 s i u).2.2≠0 ->(W4 s i u).1=0 /\ (W4 s i u).2.1=0) /\ ((W4 s i u).2.2=0 ->0<(W4 s i u).2.1):=by
 induction n with
 |zero=>
  intro i u h
  rw [W4.eq_def,if_pos (by omega)]
  simp
 |succ n ih=>
  intro i u h
  rw [W4.eq_def,if_neg (by omega)]
  split
  ·simp
  split
  ·simp
  split
  ·simp; omega
  exact ih _ _ (by omega)
def leS (s:ByteArray):Nat ->Nat
 |0=>0
 |i+1=>leS s i+H5 s i*256 ^ i
theorem g2z {i:Nat} (h:i<=7):256 ^ i<=72057594037927936 /\ 1<=256 ^ i /\ 256 ^ i=2 ^ (8*i):=by
 have:i=0\/i=1\/i=2\/i=3\/i=4\/i=5\/i=6\/i=7:=by omega
 rcases this with rfl|rfl|rfl|rfl|rfl|rfl|rfl|rfl<;>decide
theorem e2s (s:ByteArray):∀i,leS s i<256 ^ i
 |0=>by simp [leS]
 |i+1=>by
  have h1:=e2s s i
  have h2:=(b2v s i).2
  have h3:(H5 s i+1)*256 ^ i<=256*256 ^ i:=Nat.mul_le_mul_right _ (by omega)
  rw [Nat.add_mul] at h3
  rw [Nat.pow_succ]
  simp only [leS]
  omega
theorem c7b (s t:ByteArray):∀n,(∀i,i<n ->H5 s i=H5 t i) ->leS s n=leS t n
 |0,_=>rfl
 |n+1,h=>by simp only [leS]; rw [c7b s t n (fun i hi=>h i (by omega)),h n (by omega)]
def f3n (s:ByteArray):Nat × Nat:=if s.size<8 then (0,4) else (leS s 8,0)
theorem f6a (a:Nat):a&&&9218868437227405312=a % 9223372036854775808 / 4503599627370496*4503599627370496:=by
 apply Nat.eq_of_testBit_eq
 intro i
 have e:(9223372036854775808:Nat)=2 ^ 63:=by decide
 have e2:(4503599627370496:Nat)=2 ^ 52:=by decide
 have e3:(9218868437227405312:Nat)=(2^11 - 1)*2 ^ 52:=by decide
 rw [e3,e,e2,Nat.testBit_and,Nat.testBit_mul_two_pow,Nat.testBit_mul_two_pow,Nat.testBit_two_pow_sub_one,Nat.testBit_div_two_pow,Nat.testBit_mod_two_pow]
 by_cases h2:52<=i
 ·rw [show i - 52+52=i by omega]
  by_cases h3:i<63
  ·have:i - 52<11:=by omega
   simp [h2,h3,this]
  ·have:¬i - 52<11:=by omega
   simp [h3,this]
 ·simp [h2]
theorem b6x (a b:Nat) (ha:a<18446744073709551616) (hb:b<18446744073709551616):F4 .and .u64 (a:Int) (b:Int)=((a&&&b:Nat):Int):=by
 have h:a&&&b<=a:=Nat.and_le_left
 have e1:((a:Int) % (2 ^ 64:Nat)).toNat=a:=by omega
 have e2:((b:Int) % (2 ^ 64:Nat)).toNat=b:=by omega
 have e3:F4 .and .u64 (a:Int) (b:Int)=IntKind.u64.wrap (((BitVec.ofInt 64 (a:Int)&&&BitVec.ofInt 64 (b:Int)).toNat:Nat):Int):=rfl
 rw [e3,BitVec.toNat_and,BitVec.toNat_ofInt,BitVec.toNat_ofInt,e1,e2]
 simp only [IntKind.wrap,IntKind.signed,IntKind.bits,Bool.false_and,Bool.false_eq_true,if_false]
 omega
def f84 (z:Nat):Nat:=if 9218868437227405312<z % 9223372036854775808 then 0 else if z % 9223372036854775808=9218868437227405312 then 1 else if z % 9223372036854775808=0 then 2 else if z % 9223372036854775808<4503599627370496 then 3 else 4
theorem d3e (a:Nat) (h:a<18446744073709551616):F4 .xor .u64 (a:Int) 0=a:=by
 have e3:F4 .xor .u64 (a:Int) 0=IntKind.u64.wrap (((BitVec.ofInt 64 (a:Int) ^^^ 0#64).toNat:Nat):Int):=rfl
 have e1:((a:Int) % (2 ^ 64:Nat)).toNat=a:=by omega
 rw [e3,BitVec.xor_zero,BitVec.toNat_ofInt,e1,b5u (by omega)]
theorem d3l (a:Nat) (h:a<18446744073709551616):F4 .xor .u64 (a:Int) 18446744073709551615=((18446744073709551615 - a:Nat):Int):=by
 have e3:F4 .xor .u64 (a:Int) 18446744073709551615=IntKind.u64.wrap (((BitVec.ofInt 64 (a:Int) ^^^ BitVec.allOnes 64).toNat:Nat):Int):=rfl
 have e1:((a:Int) % (2 ^ 64:Nat)).toNat=a:=by omega
 rw [e3,BitVec.xor_allOnes,BitVec.toNat_not,BitVec.toNat_ofInt,e1,b5u (by omega)]
theorem d35 (a:Nat) (h:a<9223372036854775808):F4 .xor .i64 (a:Int) 0=a:=by
 have e3:F4 .xor .i64 (a:Int) 0=IntKind.i64.wrap (((BitVec.ofInt 64 (a:Int) ^^^ 0#64).toNat:Nat):Int):=rfl
 have e1:((a:Int) % (2 ^ 64:Nat)).toNat=a:=by omega
 rw [e3,BitVec.xor_zero,BitVec.toNat_ofInt,e1,D5 (by omega)]
theorem d4g (a:Nat) (h:a<9223372036854775808):F4 .xor .i64 (a:Int) (-1)= -(a:Int) - 1:=by
 have e3:F4 .xor .i64 (a:Int) (-1)=IntKind.i64.wrap (((BitVec.ofInt 64 (a:Int) ^^^ BitVec.allOnes 64).toNat:Nat):Int):=rfl
 have e1:((a:Int) % (2 ^ 64:Nat)).toNat=a:=by omega
 rw [e3,BitVec.xor_allOnes,BitVec.toNat_not,BitVec.toNat_ofInt,e1]
 simp [IntKind.wrap,IntKind.signed,IntKind.bits]
 omega
abbrev hI (x y:Int):Int:=wI ((wU (wI (x+y))).fdiv (2 ^ min (1:Int).toNat IntKind.u64.bits))
structure d1k (α:Type) (C:α ->α ->Int ->Prop) where
 swj:Int ->Nat ->Int ->Int ->Int ->List α ->List α ->Prop
 sw:Nat ->List α ->Int ->Int ->Int ->List α ->Prop
 roj:Int ->Int ->Nat ->Int ->List α ->List α ->Prop
 ro:Nat ->List α ->Int ->Int ->Int ->List α ->Prop
 in6:Int ->Int ->Nat ->Int ->Int ->List α ->List α ->Prop
 in4:Int ->Nat ->Int ->Int ->List α ->List α ->Prop
 ins:Nat ->List α ->Int ->Int ->List α ->Prop
 sy6:Int ->Int ->Nat ->List α ->List α ->Prop
 sy4:Int ->Int ->Nat ->Int ->List α ->List α ->Prop
 sy12:Int ->Int ->Nat ->List α ->List α ->Prop
 sy10:Int ->Int ->Nat ->Int ->List α ->List α ->Prop
 sy42:Int ->Int ->Int ->Int ->Nat ->List α ->List α ->Prop
 sy40:Int ->Int ->Int ->Int ->Nat ->List α ->List α ->Prop
 sy36:Int ->Int ->Int ->Int ->Int ->Nat ->List α ->List α ->Prop
 sy28:Int ->Int ->Int ->Int ->Int ->Nat ->List α ->List α ->Prop
 sy:Nat ->List α ->Int ->Int ->Int ->List α ->Prop
 st14:Int ->Int ->Int ->Nat ->Int ->List α ->List α ->Prop
 st12:Int ->Nat ->Int ->List α ->List α ->Prop
 st8:Int ->Int ->Nat ->Int ->List α ->List α ->Prop
 st:Nat ->List α ->Int ->List α ->Prop
 so:Nat ->List α ->List α ->Prop
 h_swj:∀i (n0:Nat) a b n l r,((decide (i<n))=true ->(0<=(wI (b+i)) /\ (wI (b+i))<(n0:Int)) /\ (∃y3,l[(wI (b+i)).toNat]? =some y3 /\ ((0<=(wI (a+i)) /\ (wI (a+i))<(n0:Int)) /\ (∃y4,l[(wI (a+i)).toNat]? =some y4 /\ ((0<=(wI (a+i)) /\ (wI (a+i))<(n0:Int)) /\ ((wI (a+i)).toNat<l.length /\ ((0<=(wI (b+i)) /\ (wI (b+i))<(n0:Int)) /\ ((wI (b+i)).toNat<(l.set (wI (a+i)).toNat y3).length /\ (swj (wI (i+1)) n0 a b n ((l.set (wI (a+i)).toNat y3).set (wI (b+i)).toNat y4) r))))))))) /\ ((decide (i<n))=false ->l≠[] /\ r=l) ->swj i n0 a b n l r
 h_sw:∀(n0:Nat) data a b n r,swj 0 n0 a b n data r ->sw n0 data a b n r
 h_roj:∀j i (n0:Nat) m l r,((i !=j)=true ->((decide (j<i))=true ->∃y5,sw n0 l (wI (m - i)) m j y5 /\ (l≠[] /\ y5≠[]) /\ (roj j (wI (i - j)) n0 m y5 r)) /\ ((decide (j<i))=false ->∃y6,sw n0 l (wI (m - i)) (wI ((wI (m+j)) - i)) i y6 /\ (l≠[] /\ y6≠[]) /\ (roj (wI (j - i)) i n0 m y6 r))) /\ ((i !=j)=false ->∃y4,sw n0 l (wI (m - i)) m i y4 /\ (l≠[] /\ y4≠[]) /\ (y4≠[] /\ r=y4)) ->roj j i n0 m l r
 h_ro:∀(n0:Nat) data a m b r,roj (wI (b - m)) (wI (m - a)) n0 m data r ->ro n0 data a m b r
 h_in6:∀j i (n0:Nat) a b l r,(∃R8:Bool ->Prop,(∀z:Bool,R8 z ->((z=true ->(0<=(wI (j - 1)) /\ (wI (j - 1))<(n0:Int)) /\ (∃y19,l[(wI (j - 1)).toNat]? =some y19 /\ ((0<=j /\ j<(n0:Int)) /\ (∃y20,l[j.toNat]? =some y20 /\ ((0<=j /\ j<(n0:Int)) /\ (j.toNat<l.length /\ ((0<=(wI (j - 1)) /\ (wI (j - 1))<(n0:Int)) /\ ((wI (j - 1)).toNat<(l.set j.toNat y19).length /\ (in6 (wI (j - 1)) i n0 a b ((l.set j.toNat y19).set (wI (j - 1)).toNat y20) r))))))))) /\ (z=false ->in4 (wI (i+1)) n0 a b l r))) /\ (((decide (a<j))=true ->(0<=j /\ j<(n0:Int)) /\ (∃y16,l[j.toNat]? =some y16 /\ ((0<=(wI (j - 1)) /\ (wI (j - 1))<(n0:Int)) /\ (∃y17,l[(wI (j - 1)).toNat]? =some y17 /\ (∃y18,C y16 y17 y18 /\ (R8 (decide (y18<0)))))))) /\ ((decide (a<j))=false ->R8 false))) ->in6 j i n0 a b l r
 h_in4:∀i (n0:Nat) a b l r,((decide (i<b))=true ->in6 i i n0 a b l r) /\ ((decide (i<b))=false ->l≠[] /\ r=l) ->in4 i n0 a b l r
 h_ins:∀(n0:Nat) data a b r,in4 (wI (a+1)) n0 a b data r ->ins n0 data a b r
 h_sy6:∀k i (n0:Nat) l r,((decide (k<(wI (i - 1))))=true ->(0<=(wI (k+1)) /\ (wI (k+1))<(n0:Int)) /\ (∃y10,l[(wI (k+1)).toNat]? =some y10 /\ ((0<=k /\ k<(n0:Int)) /\ (∃y11,l[k.toNat]? =some y11 /\ ((0<=k /\ k<(n0:Int)) /\ (k.toNat<l.length /\ ((0<=(wI (k+1)) /\ (wI (k+1))<(n0:Int)) /\ ((wI (k+1)).toNat<(l.set k.toNat y10).length /\ (sy6 (wI (k+1)) i n0 ((l.set k.toNat y10).set (wI (k+1)).toNat y11) r))))))))) /\ ((decide (k<(wI (i - 1))))=false ->l≠[] /\ r=l) ->sy6 k i n0 l r
 h_sy4:∀j i (n0:Nat) a data r,((decide (i<j))=true ->(0<=(hI i j) /\ (hI i j)<(n0:Int)) /\ (∃y12,data[(hI i j).toNat]? =some y12 /\ ((0<=a /\ a<(n0:Int)) /\ (∃y13,data[a.toNat]? =some y13 /\ (∃y14,C y12 y13 y14 /\ (((decide (y14<0))=true ->sy4 j (wI ((hI i j)+1)) n0 a data r) /\ ((decide (y14<0))=false ->sy4 (hI i j) i n0 a data r))))))) /\ ((decide (i<j))=false ->sy6 a i n0 data r) ->sy4 j i n0 a data r
 h_sy12:∀k i (n0:Nat) l r,((decide (i<k))=true ->(0<=(wI (k - 1)) /\ (wI (k - 1))<(n0:Int)) /\ (∃y24,l[(wI (k - 1)).toNat]? =some y24 /\ ((0<=k /\ k<(n0:Int)) /\ (∃y25,l[k.toNat]? =some y25 /\ ((0<=k /\ k<(n0:Int)) /\ (k.toNat<l.length /\ ((0<=(wI (k - 1)) /\ (wI (k - 1))<(n0:Int)) /\ ((wI (k - 1)).toNat<(l.set k.toNat y24).length /\ (sy12 (wI (k - 1)) i n0 ((l.set k.toNat y24).set (wI (k - 1)).toNat y25) r))))))))) /\ ((decide (i<k))=false ->l≠[] /\ r=l) ->sy12 k i n0 l r
 h_sy10:∀j i (n0:Nat) m data r,((decide (i<j))=true ->(0<=m /\ m<(n0:Int)) /\ (∃y26,data[m.toNat]? =some y26 /\ ((0<=(hI i j) /\ (hI i j)<(n0:Int)) /\ (∃y27,data[(hI i j).toNat]? =some y27 /\ (∃y28,C y26 y27 y28 /\ (((!(decide (y28<0)))=true ->sy10 j (wI ((hI i j)+1)) n0 m data r) /\ ((!(decide (y28<0)))=false ->sy10 (hI i j) i n0 m data r))))))) /\ ((decide (i<j))=false ->sy12 m i n0 data r) ->sy10 j i n0 m data r
 h_sy42:∀a b m s (n0:Nat) l r,(((decide ((hI a b)<(wI ((wI ((hI a b)+m)) - s))))&&(decide ((wI ((wI ((hI a b)+m)) - s))<b)))=true ->∃y65,sy n0 l (hI a b) (wI ((wI ((hI a b)+m)) - s)) b y65 /\ (l≠[] /\ y65≠[]) /\ (y65≠[] /\ r=y65)) /\ (((decide ((hI a b)<(wI ((wI ((hI a b)+m)) - s))))&&(decide ((wI ((wI ((hI a b)+m)) - s))<b)))=false ->l≠[] /\ r=l) ->sy42 a b m s n0 l r
 h_sy40:∀a b m s (n0:Nat) l r,(((decide (a<s))&&(decide (s<(hI a b))))=true ->∃y63,sy n0 l a s (hI a b) y63 /\ (l≠[] /\ y63≠[]) /\ (sy42 a b m s n0 y63 r)) /\ (((decide (a<s))&&(decide (s<(hI a b))))=false ->sy42 a b m s n0 l r) ->sy40 a b m s n0 l r
 h_sy36:∀a b m t s (n0:Nat) data r,((decide (s<t))=true ->(0<=(wI ((wI ((wI ((hI a b)+m)) - 1)) - (hI s t))) /\ (wI ((wI ((wI ((hI a b)+m)) - 1)) - (hI s t)))<(n0:Int)) /\ (∃y66,data[(wI ((wI ((wI ((hI a b)+m)) - 1)) - (hI s t))).toNat]? =some y66 /\ ((0<=(hI s t) /\ (hI s t)<(n0:Int)) /\ (∃y67,data[(hI s t).toNat]? =some y67 /\ (∃y68,C y66 y67 y68 /\ (((!(decide (y68<0)))=true ->sy36 a b m t (wI ((hI s t)+1)) n0 data r) /\ ((!(decide (y68<0)))=false ->sy36 a b m (hI s t) s n0 data r))))))) /\ ((decide (s<t))=false ->(((decide (s<m))&&(decide (m<(wI ((wI ((hI a b)+m)) - s)))))=true ->∃y59,ro n0 data s m (wI ((wI ((hI a b)+m)) - s)) y59 /\ (data≠[] /\ y59≠[]) /\ (sy40 a b m s n0 y59 r)) /\ (((decide (s<m))&&(decide (m<(wI ((wI ((hI a b)+m)) - s)))))=false ->sy40 a b m s n0 data r)) ->sy36 a b m t s n0 data r
 h_sy28:∀t s a b m (n0:Nat) data r,sy36 a b m t s n0 data r ->sy28 t s a b m n0 data r
 h_sy:∀(n0:Nat) data a m b r,(((wI (m - a))==1)=true ->sy4 b m n0 a data r) /\ (((wI (m - a))==1)=false ->(((wI (b - m))==1)=true ->sy10 m a n0 m data r) /\ (((wI (b - m))==1)=false ->((decide ((hI a b)<m))=true ->sy28 (hI a b) (wI ((wI ((hI a b)+m)) - b)) a b m n0 data r) /\ ((decide ((hI a b)<m))=false ->sy28 m a a b m n0 data r))) ->sy n0 data a m b r
 h_st14:∀e a k (n0:Nat) n l r,((decide (e<=n))=true ->∃y19,sy n0 l a (wI (a+k)) e y19 /\ (l≠[] /\ y19≠[]) /\ (st14 (wI (e+(wI (2*k)))) e k n0 n y19 r)) /\ ((decide (e<=n))=false ->((decide ((wI (a+k))<n))=true ->∃y18,sy n0 l a (wI (a+k)) n y18 /\ (l≠[] /\ y18≠[]) /\ (st12 (wI (k*2)) n0 n y18 r)) /\ ((decide ((wI (a+k))<n))=false ->st12 (wI (k*2)) n0 n l r)) ->st14 e a k n0 n l r
 h_st12:∀k (n0:Nat) n l r,((decide (k<n))=true ->st14 (wI (2*k)) 0 k n0 n l r) /\ ((decide (k<n))=false ->l≠[] /\ r=l) ->st12 k n0 n l r
 h_st8:∀e a (n0:Nat) n l r,((decide (e<=n))=true ->∃y20,ins n0 l a e y20 /\ (l≠[] /\ y20≠[]) /\ (st8 (wI (e+20)) e n0 n y20 r)) /\ ((decide (e<=n))=false ->∃y11,ins n0 l a n y11 /\ (l≠[] /\ y11≠[]) /\ (st12 20 n0 n y11 r)) ->st8 e a n0 n l r
 h_st:∀(n0:Nat) data n r,st8 20 0 n0 n data r ->st n0 data n r
 h_so:∀(n0:Nat) x r,(∃y1,st n0 x (n0:Int) y1 /\ (x≠[] /\ y1≠[]) /\ (y1≠[] /\ r=y1)) ->so n0 x r
section
variable {α:Type} {C:α ->α ->Int ->Prop}
theorem d1d (A B D:List α) (p q:α) {i j:Nat} (hi:i=A.length) (hj:j=A.length+1+B.length):(A++p::(B++q::D))[i]? =some p /\ (A++p::(B++q::D))[j]? =some q /\ ((A++p::(B++q::D)).set i q).set j p=A++q::(B++p::D) /\ ((A++p::(B++q::D)).set j p).set i q=A++q::(B++p::D):=by
 subst hi hj
 have e1:(A++p::(B++q::D))[A.length]? =some p:=by simp
 have e2:∀x:α,(A++x::(B++q::D))[A.length+1+B.length]? =some q:=by
  intro x
  rw [List.getElem?_append_right (by omega),show A.length+1+B.length - A.length=B.length+1 by omega,List.getElem?_cons_succ]
  simp
 have s1:∀(x y:α) (Z:List α),(A++x::Z).set A.length y=A++y::Z:=by
  intro x y Z
  rw [List.set_append_right _ _ (Nat.le_refl _),Nat.sub_self]; rfl
 have s2:∀(x y z:α),(A++x::(B++y::D)).set (A.length+1+B.length) z=A++x::(B++z::D):=by
  intro x y z
  rw [List.set_append_right _ _ (by omega),show A.length+1+B.length - A.length=B.length+1 by omega,List.set_cons_succ,List.set_append_right _ _ (Nat.le_refl _),Nat.sub_self]; rfl
 exact ⟨e1,e2 p,by rw [s1,s2],by rw [s2,s1]⟩
variable (F:d1k α C)
theorem e8n (n0:Nat) (hn:n0<=1125899906842624) (X M Y:List α) (a b n:Nat) (ha:a=X.length):∀(P2 Q2 P1 Q1:List α),P2.length=Q2.length ->P1.length=Q1.length ->n=P1.length+P2.length ->b=a+n+M.length ->n0=b+n+Y.length ->0<n0 ->
  F.swj (P1.length:Nat) n0 a b n (X++Q1++P2++M++P1++Q2++Y) (X++Q1++Q2++M++P1++P2++Y)
 |[],Q2,P1,Q1,h1,h2,h3,h4,h5,h6=>by
  have:Q2=[]:=List.eq_nil_of_length_eq_zero (by simpa using h1.symm)
  subst this
  have h7:([]:List α).length=0:=rfl
  rw [h7] at h3
  refine F.h_swj _ _ _ _ _ _ _ ⟨fun h=> ?_,fun _=>⟨?_,by simp⟩⟩
  ·have:=of_decide_eq_true h; omega
  ·intro h0
   have:=congrArg List.length h0
   simp only [List.length_append,h7] at this h2
   omega
 |p::P2,Q2,P1,Q1,h1,h2,h3,h4,h5,h6=>by
  obtain ⟨q,Q2,rfl⟩:∃q Q,Q2=q::Q:=by
   cases Q2 with
   |nil=>simp at h1
   |cons q Q=>exact ⟨q,Q,rfl⟩
  simp only [List.length_cons] at h1 h3
  have e1:wI ((a:Int)+(P1.length:Nat))=((a+P1.length:Nat):Int):=by rw [wI,D5 (by omega)]; omega
  have e2:wI ((b:Int)+(P1.length:Nat))=((b+P1.length:Nat):Int):=by rw [wI,D5 (by omega)]; omega
  have e3:wI (((P1.length:Nat):Int)+1)=(((P1++[p]).length:Nat):Int):=by rw [wI,D5 (by omega)]; simp
  have hl:X++Q1++(p::P2)++M++P1++(q::Q2)++Y=(X++Q1)++p::((P2++M++P1)++q::(Q2++Y)):=by simp
  obtain ⟨s1,s2,s3,_⟩:=d1d (X++Q1) (P2++M++P1) (Q2++Y) p q (i:=a+P1.length) (j:=b+P1.length) (by simp; omega) (by simp; omega)
  have ih:=e8n n0 hn X M Y a b n ha P2 Q2 (P1++[p]) (Q1++[q]) (by omega) (by simp; omega) (by simp; omega) h4 h5 h6
  have hlen:(X++Q1++(p::P2)++M++P1++(q::Q2)++Y).length=n0:=by simp; omega
  refine F.h_swj _ _ _ _ _ _ _ ⟨fun _=> ?_,fun h=>by simp at h; omega⟩
  rw [e1,e2,e3,Int.toNat_natCast,Int.toNat_natCast]
  refine ⟨by omega,q,by rw [hl]; exact s2,by omega,p,by rw [hl]; exact s1,by omega,by rw [hlen]; omega,by omega,by rw [List.length_set,hlen]; omega, ?_⟩
  rw [hl,s3]
  have g1:(X++Q1)++q::((P2++M++P1)++p::(Q2++Y))=X++(Q1++[q])++P2++M++(P1++[p])++Q2++Y:=by simp
  have g2:X++Q1++(q::Q2)++M++P1++(p::P2)++Y=X++(Q1++[q])++Q2++M++(P1++[p])++P2++Y:=by simp
  rw [g1,g2]
  exact ih
theorem e7p {n0:Nat} (hn:n0<=1125899906842624) (X P M Q Y:List α) {a b n:Nat} (ha:a=X.length) (hp:n=P.length) (hq:n=Q.length) (hb:b=a+n+M.length) (h0:n0=b+n+Y.length) (h1:0<n0):F.sw n0 (X++P++M++Q++Y) a b n (X++Q++M++P++Y):=by
 have:=e8n F n0 hn X M Y a b n ha P Q [] [] (by omega) rfl (by simp; omega) hb h0 h1
 exact F.h_sw _ _ _ _ _ _ (by simpa using this)
theorem f67 (n0:Nat) (hn:n0<=1125899906842624):∀(k:Nat) (X A B Y:List α) (m:Nat),A.length+B.length<=k ->A≠[] ->B≠[] ->m=X.length+A.length ->n0=m+B.length+Y.length ->F.roj (B.length:Nat) (A.length:Nat) n0 m (X++A++B++Y) (X++B++A++Y):=by
 intro k
 induction k with
 |zero=>
  intro X A B Y m h hA
  exact absurd (List.eq_nil_of_length_eq_zero (by omega)) hA
 |succ k ih=>
  intro X A B Y m hk hA hB hm h0
  have a0:=List.length_pos_iff.2 hA
  have b0:=List.length_pos_iff.2 hB
  have ne:∀{l:List α},l.length=n0 ->l≠[]:=fun h h'=>by rw [h'] at h; simp at h; omega
  have e1:wI ((m:Int) - (A.length:Nat))=((X.length:Nat):Int):=by rw [wI,D5 (by omega)]; omega
  rcases Nat.lt_trichotomy A.length B.length with hlt|heq|hgt
  ·
   have hB2:B=B.take (B.length - A.length)++B.drop (B.length - A.length):=(List.take_append_drop _ _).symm
   generalize hb1:B.take (B.length - A.length)=B1 at hB2
   generalize hb2:B.drop (B.length - A.length)=B2 at hB2
   have l1:B1.length=B.length - A.length:=by rw [<-hb1]; simp
   have l2:B2.length=A.length:=by rw [<-hb2]; simp; omega
   have e2:wI (wI ((m:Int)+(B.length:Nat)) - (A.length:Nat))=((m+B1.length:Nat):Int):=by
    have:wI ((m:Int)+(B.length:Nat))=(m:Int)+(B.length:Nat):=by rw [wI,D5 (by omega)]
    rw [this,wI,D5 (by omega)]; omega
   have e3:wI (((B.length:Nat):Int) - (A.length:Nat))=((B1.length:Nat):Int):=by rw [wI,D5 (by omega)]; omega
   have hs:=e7p F hn X A B1 B2 Y (a:=X.length) (b:=m+B1.length) (n:=A.length) rfl rfl l2.symm (by omega) (by omega) (by omega)
   have ih':=ih X B2 B1 (A++Y) m (by omega) (fun h=>by rw [h] at l2; simp at l2; omega) (fun h=>by rw [h] at l1; simp at l1; omega) (by omega) (by simp; omega)
   refine F.h_roj _ _ _ _ _ _ ⟨fun _=>⟨fun h=>by simp at h; omega,fun _=> ?_⟩,fun h=>by simp at h; omega⟩
   rw [e1,e2,e3]
   refine ⟨X++B2++B1++A++Y,by rw [hB2]; simpa using hs,⟨ne (by simp; omega),ne (by simp; omega)⟩, ?_⟩
   rw [l2] at ih'
   have g1:X++B2++B1++A++Y=X++B2++B1++(A++Y):=by simp
   have g2:X++B++A++Y=X++B1++B2++(A++Y):=by rw [hB2]; simp
   rw [g1,g2]; exact ih'
  ·have hs:=e7p F hn X A [] B Y (a:=X.length) (b:=m) (n:=A.length) rfl rfl heq (by simp; omega) (by omega) (by omega)
   refine F.h_roj _ _ _ _ _ _ ⟨fun h=>by simp at h; omega,fun _=>⟨X++B++A++Y, ?_,⟨ne (by simp; omega),ne (by simp; omega)⟩,ne (by simp; omega),rfl⟩⟩
   rw [e1]; simpa using hs
  ·have hA2:A=A.take B.length++A.drop B.length:=(List.take_append_drop _ _).symm
   generalize ha1:A.take B.length=A1 at hA2
   generalize ha2:A.drop B.length=A2 at hA2
   have l1:A1.length=B.length:=by rw [<-ha1]; simp; omega
   have l2:A2.length=A.length - B.length:=by rw [<-ha2]; simp
   have e3:wI (((A.length:Nat):Int) - (B.length:Nat))=((A2.length:Nat):Int):=by rw [wI,D5 (by omega)]; omega
   have hs:=e7p F hn X A1 A2 B Y (a:=X.length) (b:=m) (n:=B.length) rfl l1.symm rfl (by omega) (by omega) (by omega)
   have ih':=ih (X++B) A2 A1 Y m (by omega) (fun h=>by rw [h] at l2; simp at l2; omega) (fun h=>by rw [h] at l1; simp at l1; omega) (by simp; omega) (by omega)
   refine F.h_roj _ _ _ _ _ _ ⟨fun _=>⟨fun _=> ?_,fun h=>by simp at h; omega⟩,fun h=>by simp at h; omega⟩
   rw [e1,e3]
   refine ⟨X++B++A2++A1++Y,by rw [hA2]; simpa using hs,⟨ne (by simp; omega),ne (by simp; omega)⟩, ?_⟩
   rw [l1] at ih'
   have g2:X++B++A++Y=X++B++A1++A2++Y:=by rw [hA2]; simp
   rw [g2]; exact ih'
theorem f9o {n0:Nat} (hn:n0<=1125899906842624) (X A B Y:List α) {a m b:Nat} (ha:a=X.length) (hm:m=a+A.length) (hb:b=m+B.length) (h0:n0=b+Y.length) (hA:A≠[]) (hB:B≠[]):F.ro n0 (X++A++B++Y) a m b (X++B++A++Y):=by
 have e1:wI ((b:Int) - m)=((B.length:Nat):Int):=by rw [wI,D5 (by omega)]; omega
 have e2:wI ((m:Int) - a)=((A.length:Nat):Int):=by rw [wI,D5 (by omega)]; omega
 refine F.h_ro _ _ _ _ _ _ ?_
 rw [e1,e2]
 exact f67 F n0 hn _ X A B Y m (Nat.le_refl _) hA hB (by omega) (by omega)
end
structure Pre {α:Type} (cm:α ->α ->Int) (Dm:α ->Prop):Prop where
 sym:∀x y,Dm x ->Dm y ->(cm x y<0↔0<cm y x)
 trans:∀x y z,Dm x ->Dm y ->Dm z ->cm x y<=0 ->cm y z<=0 ->cm x z<=0
def Rt {α:Type} (cm:α ->α ->Int) (x y:α × Nat):Prop:=cm x.1 y.1<0\/(cm x.1 y.1=0 /\ x.2<y.2)
section
variable {α:Type} {C:α ->α ->Int ->Prop} {cm:α ->α ->Int} {Dm:α ->Prop}
theorem Pre.zero (hp:Pre cm Dm) {x y:α} (hx:Dm x) (hy:Dm y):cm x y=0↔cm y x=0:=by
 have h1:=hp.sym x y hx hy
 have h2:=hp.sym y x hy hx
 omega
theorem Pre.lt (hp:Pre cm Dm) {x y z:α} (hx:Dm x) (hy:Dm y) (hz:Dm z) (h1:cm x y<=0) (h2:cm y z<=0) (h3:cm x y<0\/cm y z<0):cm x z<0:=by
 have h4:=hp.trans x y z hx hy hz h1 h2
 rcases Int.lt_or_le (cm x z) 0 with h5|h5
 ·exact h5
 have h6:cm x z=0:=by omega
 have h7:=(hp.zero hx hz).1 h6
 rcases h3 with h3|h3
 ·have h8:=hp.trans y z x hy hz hx h2 (by omega)
  have:=(hp.sym x y hx hy).1 h3
  omega
 ·have h8:=hp.trans z x y hz hx hy (by omega) h1
  have:=(hp.sym y z hy hz).1 h3
  omega
theorem Rt.trans (hp:Pre cm Dm) {x y z:α × Nat} (hx:Dm x.1) (hy:Dm y.1) (hz:Dm z.1) (h1:Rt cm x y) (h2:Rt cm y z):Rt cm x z:=by
 unfold Rt at*
 rcases h1 with h1|⟨h1,h1'⟩
 ·rcases h2 with h2|⟨h2,_⟩
  ·exact .inl (hp.lt hx hy hz (by omega) (by omega) (.inl h1))
  ·exact .inl (hp.lt hx hy hz (by omega) (by omega) (.inl h1))
 ·rcases h2 with h2|⟨h2,h2'⟩
  ·exact .inl (hp.lt hx hy hz (by omega) (by omega) (.inr h2))
  ·right
   have h3:=hp.trans _ _ _ hx hy hz (by omega:cm x.1 y.1<=0) (by omega:cm y.1 z.1<=0)
   have h4:=hp.trans _ _ _ hz hy hx (by have:=(hp.zero hy hz).1 h2; omega) (by have:=(hp.zero hx hy).1 h1; omega)
   have h5:=hp.sym z.1 x.1 hz hx
   have h6:=hp.sym x.1 z.1 hx hz
   omega
theorem Rt.of_not (hp:Pre cm Dm) {x y:α × Nat} (hx:Dm x.1) (hy:Dm y.1) (h:¬cm x.1 y.1<0) (ht:y.2<x.2):Rt cm y x:=by
 have h1:=hp.sym y.1 x.1 hy hx
 have h2:=hp.zero hx hy
 unfold Rt
 omega
abbrev Srt (cm:α ->α ->Int) (l:List (α × Nat)):Prop:=l.Pairwise (Rt cm)
abbrev fs (l:List (α × Nat)):List α:=l.map Prod.fst
variable (F:d1k α C) (hp:Pre cm Dm) (hC:∀x y,Dm x ->Dm y ->C x y (cm x y))
 include hp hC
theorem f8g {n0:Nat} (hn:n0<=1125899906842624) (X:List (α × Nat)) (s:α × Nat) (i:Int) (b:Nat):∀(k:Nat) (U V T:List (α × Nat)),U.length=k ->n0=X.length+U.length+1+V.length+T.length ->(∀x∈U++s::V,Dm x.1) ->Srt cm (U++V) ->(∀v∈V,Rt cm s v) ->(∀u∈U,u.2<s.2) ->
  ∃S,Srt cm S /\ S.Perm (U++s::V) /\ ∀r,F.in4 (wI (i+1)) n0 X.length b (fs (X++S++T)) r ->F.in6 ((X.length+U.length:Nat):Int) i n0 X.length b (fs (X++U++s::V++T)) r:=by
 intro k
 induction k with
 |zero=>
  intro U V T hU h0 hD hs hv ht
  have:U=[]:=List.eq_nil_of_length_eq_zero hU
  subst this
  refine ⟨s::V,List.pairwise_cons.2 ⟨hv,by simpa using hs⟩,by simp,fun r hr=> ?_⟩
  refine F.h_in6 _ _ _ _ _ _ _ ⟨fun z=>z=false,fun z hz=>⟨fun h=>(by rw [hz] at h; cases h),fun _=>by simpa using hr⟩,fun h=> ?_,fun _=>rfl⟩
  simp at h
 |succ k ih=>
  intro U V T hU h0 hD hs hv ht
  obtain ⟨U',u,rfl⟩:∃U' u,U=U'++[u]:=by
   rcases List.eq_nil_or_concat U with h|⟨U',u,h⟩
   ·rw [h] at hU; simp at hU
   ·exact ⟨U',u,by simpa using h⟩
  have hl':U'.length=k:=by simpa using hU
  have hDs:Dm s.1:=hD s (by simp)
  have hDu:Dm u.1:=hD u (by simp)
  have hj:X.length+(U'++[u]).length=X.length+U'.length+1:=by simp; omega
  have e1:wI (((X.length+U'.length+1:Nat):Int) - 1)=((X.length+U'.length:Nat):Int):=by
   simp only [List.length_append,List.length_cons,List.length_nil] at h0
   rw [wI,D5 (by omega)]; omega
  have hlist:fs (X++(U'++[u])++s::V++T)=fs (X++U')++u.1::(fs ([]:List (α × Nat))++s.1::fs (V++T)):=by simp [fs]
  obtain ⟨s1,s2,_,s4⟩:=d1d (fs (X++U')) (fs ([]:List (α × Nat))) (fs (V++T)) u.1 s.1 (i:=X.length+U'.length) (j:=X.length+U'.length+1) (by simp [fs]) (by simp [fs])
  have hlen:(fs (X++(U'++[u])++s::V++T)).length=n0:=by simp [fs] at h0 ⊢; omega
  simp only [List.length_append,List.length_cons,List.length_nil] at h0
  have cmpS:C s.1 u.1 (cm s.1 u.1):=hC _ _ hDs hDu
  by_cases hlt:cm s.1 u.1<0
  ·obtain ⟨S,q1,q2,q3⟩:=ih U' (u::V) T hl' (by simp; omega) (fun x hx=>hD x (by simp at hx ⊢; grind)) (by simpa using hs) (fun v hv'=>by
    rcases List.mem_cons.1 hv' with h|h
    ·rw [h]; exact .inl hlt
    ·exact hv v h) (fun x hx=>ht x (by simp [hx]))
   refine ⟨S,q1,q2.trans (by simp; exact List.Perm.swap _ _ _|>.append_left U'),fun r hr=> ?_⟩
   refine F.h_in6 _ _ _ _ _ _ _ ⟨fun z=>z=true,fun z hz=>⟨fun _=> ?_,fun h=>by rw [hz] at h; cases h⟩,fun _=> ?_,fun h=> ?_⟩
   ·simp only [hj,e1,Int.toNat_natCast]
    refine ⟨by omega,u.1,by rw [hlist]; exact s1,by simp; omega,s.1,by rw [hlist]; exact s2,by simp; omega,by rw [hlen]; omega,by omega,by rw [List.length_set,hlen]; omega, ?_⟩
    have g:((fs (X++(U'++[u])++s::V++T)).set (X.length+U'.length+1) u.1).set (X.length+U'.length) s.1=fs (X++U'++s::(u::V)++T):=by rw [hlist,s4]; simp [fs]
    rw [g]
    exact q3 r hr
   ·simp only [hj,e1,Int.toNat_natCast]
    exact ⟨by simp; omega,s.1,by rw [hlist]; exact s2,by omega,u.1,by rw [hlist]; exact s1,_,cmpS,decide_eq_true hlt⟩
   ·simp at h; omega
  ·have hus:Rt cm u s:=Rt.of_not hp hDs hDu hlt (ht u (by simp))
   have hall:∀x∈U'++[u],Rt cm x s:=by
    intro x hx
    rcases List.mem_append.1 hx with h|h
    ·have hxu:Rt cm x u:=by
      have h2:Srt cm (U'++[u]):=(List.pairwise_append.1 hs).1
      exact (List.pairwise_append.1 h2).2.2 x h u (by simp)
     exact Rt.trans hp (hD x (by simp [h])) hDu hDs hxu hus
    ·simp at h; rw [h]; exact hus
   refine ⟨U'++[u]++s::V, ?_,.refl _,fun r hr=> ?_⟩
   ·obtain ⟨h1,h2,h3⟩:=List.pairwise_append.1 hs
    refine List.pairwise_append.2 ⟨h1,List.pairwise_cons.2 ⟨hv,h2⟩,fun x hx y hy=> ?_⟩
    rcases List.mem_cons.1 hy with h|h
    ·rw [h]; exact hall x hx
    ·exact h3 x hx y h
   ·refine F.h_in6 _ _ _ _ _ _ _ ⟨fun z=>z=false,fun z hz=>⟨fun h=>(by rw [hz] at h; cases h),fun _=> ?_⟩,fun _=> ?_,fun h=> ?_⟩
    ·have g:X++(U'++[u])++s::V++T=X++(U'++[u]++s::V)++T:=by simp
     rw [g]; exact hr
    ·simp only [hj,e1,Int.toNat_natCast]
     exact ⟨by simp; omega,s.1,by rw [hlist]; exact s2,by omega,u.1,by rw [hlist]; exact s1,_,cmpS,decide_eq_false hlt⟩
    ·rfl
theorem e8c {n0:Nat} (hn:n0<=1125899906842624) (X Y:List (α × Nat)) (b:Nat):∀(S2 S1:List (α × Nat)),b=X.length+S1.length+S2.length ->n0=b+Y.length ->0<n0 ->(∀x∈S1++S2,Dm x.1) ->Srt cm S1 ->(∀x∈S1,∀y∈S2,x.2<y.2) ->S2.Pairwise (fun x y=>x.2<y.2) ->
  ∃S,Srt cm S /\ S.Perm (S1++S2) /\ F.in4 ((X.length+S1.length:Nat):Int) n0 X.length b (fs (X++S1++S2++Y)) (fs (X++S++Y))
 |[],S1,hb,h0,hpos,hD,hs,ht,hp2=>by
  refine ⟨S1,hs,by simp,F.h_in4 _ _ _ _ _ _ ⟨fun h=> ?_,fun _=>⟨fun h=> ?_,by simp⟩⟩⟩
  ·simp at h hb; omega
  ·have:=congrArg List.length h
   simp only [fs,List.length_map,List.length_append,List.length_nil] at this hb
   omega
 |s::S2,S1,hb,h0,hpos,hD,hs,ht,hp2=>by
  simp only [List.length_cons] at hb
  obtain ⟨S',q1,q2,q3⟩:=f8g F hp hC hn X s ((X.length+S1.length:Nat):Int) b S1.length S1 [] (S2++Y) rfl (by simp; omega) (fun x hx=>hD x (by simp at hx ⊢; grind)) (by simpa using hs) (fun v hv=>by cases hv) (fun u hu=>ht u hu s (by simp))
  have hl:S'.length=S1.length+1:=by rw [q2.length_eq]; simp
  have mem:∀x,x∈S'↔x∈S1\/x=s:=fun x=>by rw [q2.mem_iff]; simp
  obtain ⟨S,p1,p2,p3⟩:=e8c hn X Y b S2 S' (by omega) h0 hpos (fun x hx=>hD x (by
    rcases List.mem_append.1 hx with h|h
    ·rcases (mem x).1 h with h|h<;>simp [h]
    ·simp [h])) q1 (fun x hx y hy=>by
    rcases (mem x).1 hx with h|h
    ·exact ht x h y (by simp [hy])
    ·rw [h]; exact (List.pairwise_cons.1 hp2).1 y hy) (List.pairwise_cons.1 hp2).2
  refine ⟨S,p1,p2.trans ?_,F.h_in4 _ _ _ _ _ _ ⟨fun _=> ?_,fun h=>by simp at h; omega⟩⟩
  ·exact (q2.append_right S2).trans (by simp)
  ·have e:wI (((X.length+S1.length:Nat):Int)+1)=((X.length+S'.length:Nat):Int):=by rw [wI,D5 (by omega)]; omega
   have:=q3 _ (by rw [e]; simpa using p3)
   simpa using this
theorem d7n {n0:Nat} (hn:n0<=1125899906842624) (X S Y:List (α × Nat)) {a b:Nat} (ha:a=X.length) (hb:b=a+S.length) (h0:n0=b+Y.length) (hpos:0<n0) (hD:∀x∈S,Dm x.1) (ht:S.Pairwise (fun x y=>x.2<y.2)):
  ∃S',Srt cm S' /\ S'.Perm S /\ F.ins n0 (fs (X++S++Y)) a b (fs (X++S'++Y)):=by
 subst ha
 have e:wI ((X.length:Int)+1)=((X.length+1:Nat):Int):=by rw [wI,D5 (by omega)]; omega
 cases S with
 |nil=>
  refine ⟨[],.nil,.refl _,F.h_ins _ _ _ _ _ ?_⟩
  rw [e]
  refine F.h_in4 _ _ _ _ _ _ ⟨fun h=> ?_,fun _=>⟨fun h=> ?_,rfl⟩⟩
  ·simp at h hb; omega
  ·have:=congrArg List.length h
   simp only [fs,List.length_map,List.length_append,List.length_nil] at this hb
   omega
 |cons s S2=>
  obtain ⟨S,q1,q2,q3⟩:=e8c F hp hC hn X Y b S2 [s] (by simp at hb ⊢; omega) h0 hpos (by simpa using hD) (by simp) (fun x hx y hy=>by simp at hx; rw [hx]; exact (List.pairwise_cons.1 ht).1 y hy) (List.pairwise_cons.1 ht).2
  refine ⟨S,q1,by simpa using q2,F.h_ins _ _ _ _ _ ?_⟩
  rw [e]
  simpa using q3
end
theorem c87 {a b:Nat} (ha:a<=1125899906842624) (hb:b<=1125899906842624):hI (a:Int) (b:Int)=(((a+b) / 2:Nat):Int):=by
 have e1:wI ((a:Int)+b)=((a+b:Nat):Int):=by rw [wI,D5 (by omega)]; omega
 have e2:wU ((a+b:Nat):Int)=((a+b:Nat):Int):=b5u (by omega)
 have e3:(2:Int) ^ min (1:Int).toNat IntKind.u64.bits=2:=by decide+kernel
 unfold hI
 rw [e1,e2,e3,Int.fdiv_eq_ediv_of_nonneg _ (by omega),wI,D5 (by omega)]
 omega
section
variable {α:Type} {C:α ->α ->Int ->Prop} {cm:α ->α ->Int} {Dm:α ->Prop}
theorem g4f (X:List α) (L R:List α) {i:Nat} (h:i<L.length):(X++L++R)[X.length+i]? =L[i]? :=by
 rw [List.append_assoc,List.getElem?_append_right (by omega),show X.length+i - X.length=i by omega,List.getElem?_append_left h]
variable (F:d1k α C)
theorem e8g {n0:Nat} (hn:n0<=1125899906842624) (X R:List α) (x:α) (i:Nat):∀(B2 B1:List α),i=X.length+B1.length+B2.length+1 ->n0=i+R.length ->F.sy6 ((X.length+B1.length:Nat):Int) i n0 (X++B1++x::B2++R) (X++B1++B2++x::R)
 |[],B1,hi,h0=>by
  have e:wI ((i:Int) - 1)=((X.length+B1.length:Nat):Int):=by simp at hi; rw [wI,D5 (by omega)]; omega
  refine F.h_sy6 _ _ _ _ _ ⟨fun h=> ?_,fun _=>⟨by simp,by simp⟩⟩
  rw [e] at h; simp at h
 |y::B2,B1,hi,h0=>by
  simp only [List.length_cons] at hi
  have e:wI ((i:Int) - 1)=((X.length+B1.length+B2.length+1:Nat):Int):=by rw [wI,D5 (by omega)]; omega
  have e2:wI (((X.length+B1.length:Nat):Int)+1)=((X.length+(B1++[y]).length:Nat):Int):=by rw [wI,D5 (by omega)]; simp; omega
  have e3:((X.length+(B1++[y]).length:Nat):Int).toNat=X.length+B1.length+1:=by simp; omega
  have hl:X++B1++x::(y::B2)++R=(X++B1)++x::(([]:List α)++y::(B2++R)):=by simp
  obtain ⟨s1,s2,s3,s4⟩:=d1d (X++B1) [] (B2++R) x y (i:=X.length+B1.length) (j:=X.length+B1.length+1) (by simp) (by simp)
  have ih:=e8g hn X R x i B2 (B1++[y]) (by simp; omega) h0
  have hlen:(X++B1++x::(y::B2)++R).length=n0:=by simp; omega
  refine F.h_sy6 _ _ _ _ _ ⟨fun _=> ?_,fun h=>by rw [e] at h; simp at h; omega⟩
  rw [e2,e3,Int.toNat_natCast]
  refine ⟨by simp; omega,y,by rw [hl]; exact s2,by omega,x,by rw [hl]; exact s1,by omega,by rw [hlen]; omega,by simp; omega,by rw [List.length_set,hlen]; omega, ?_⟩
  rw [hl,s3]
  have g1:(X++B1)++y::(([]:List α)++x::(B2++R))=X++(B1++[y])++x::B2++R:=by simp
  have g2:X++B1++(y::B2)++x::R=X++(B1++[y])++B2++x::R:=by simp
  rw [g1,g2]; exact ih
theorem e9y {n0:Nat} (hn:n0<=1125899906842624) (X R:List α) (y:α) (i:Nat) (hi:i=X.length):∀(k:Nat) (A1 A2:List α),A1.length=k ->n0=X.length+A1.length+1+A2.length+R.length ->F.sy12 ((X.length+A1.length:Nat):Int) i n0 (X++A1++y::A2++R) (X++y::A1++A2++R):=by
 intro k
 induction k with
 |zero=>
  intro A1 A2 h1 h0
  have:A1=[]:=List.eq_nil_of_length_eq_zero h1
  subst this
  refine F.h_sy12 _ _ _ _ _ ⟨fun h=> ?_,fun _=>⟨by simp,by simp⟩⟩
  simp at h; omega
 |succ k ih=>
  intro A1 A2 h1 h0
  obtain ⟨A1',z,rfl⟩:∃U' u,A1=U'++[u]:=by
   rcases List.eq_nil_or_concat A1 with h|⟨U',u,h⟩
   ·rw [h] at h1; simp at h1
   ·exact ⟨U',u,by simpa using h⟩
  have hl':A1'.length=k:=by simpa using h1
  have hlen:(X++(A1'++[z])++y::A2++R).length=n0:=by simp at h0 ⊢; omega
  simp only [List.length_append,List.length_cons,List.length_nil] at h0
  have e2:wI (((X.length+(A1'++[z]).length:Nat):Int) - 1)=((X.length+A1'.length:Nat):Int):=by
   simp only [List.length_append,List.length_cons,List.length_nil]
   rw [wI,D5 (by omega)]; omega
  have e3:((X.length+(A1'++[z]).length:Nat):Int).toNat=X.length+A1'.length+1:=by simp; omega
  have hl:X++(A1'++[z])++y::A2++R=(X++A1')++z::(([]:List α)++y::(A2++R)):=by simp
  obtain ⟨s1,s2,s3,s4⟩:=d1d (X++A1') [] (A2++R) z y (i:=X.length+A1'.length) (j:=X.length+A1'.length+1) (by simp) (by simp)
  have ih':=ih A1' (z::A2) hl' (by simp; omega)
  refine F.h_sy12 _ _ _ _ _ ⟨fun _=> ?_,fun h=>by simp at h; omega⟩
  rw [e2,e3,Int.toNat_natCast]
  refine ⟨by omega,z,by rw [hl]; exact s1,by simp; omega,y,by rw [hl]; exact s2,by simp; omega,by rw [hlen]; omega,by omega,by rw [List.length_set,hlen]; omega, ?_⟩
  rw [hl,s4]
  have g1:(X++A1')++y::(([]:List α)++z::(A2++R))=X++A1'++y::(z::A2)++R:=by simp
  have g2:X++y::(A1'++[z])++A2++R=X++y::A1'++(z::A2)++R:=by simp
  rw [g1,g2]; exact ih'
variable (hp:Pre cm Dm) (hC:∀x y,Dm x ->Dm y ->C x y (cm x y))
 include hp hC
theorem f8o {n0:Nat} (hn:n0<=1125899906842624) (X B Y:List (α × Nat)) (x:α × Nat) (hx:Dm x.1) (hB:∀y∈B,Dm y.1) (hs:Srt cm B) (ht:∀y∈B,x.2<y.2) (h0:n0=X.length+1+B.length+Y.length):∀(k p q:Nat),q - p<=k ->p<=q ->q<=B.length ->(∀y∈B.take p,Rt cm y x) ->(∀y∈B.drop q,Rt cm x y) ->
  ∃S,Srt cm S /\ S.Perm (x::B) /\ F.sy4 ((X.length+1+q:Nat):Int) ((X.length+1+p:Nat):Int) n0 X.length (fs (X++x::B++Y)) (fs (X++S++Y)):=by
 intro k
 induction k with
 |zero=>
  intro p q h1 h2 h3 hP hQ
  obtain rfl:p=q:=by omega
  refine ⟨B.take p++x::B.drop p, ?_, ?_, ?_⟩
  ·refine List.pairwise_append.2 ⟨hs.sublist (List.take_sublist _ _),List.pairwise_cons.2 ⟨hQ,hs.sublist (List.drop_sublist _ _)⟩,fun a ha b hb=> ?_⟩
   rcases List.mem_cons.1 hb with h|h
   ·rw [h]; exact hP a ha
   ·exact Rt.trans hp (hB a (List.mem_of_mem_take ha)) hx (hB b (List.mem_of_mem_drop h)) (hP a ha) (hQ b h)
  ·exact List.perm_middle.trans (by rw [List.take_append_drop])
  ·refine F.h_sy4 _ _ _ _ _ _ ⟨fun h=>by simp at h,fun _=> ?_⟩
   have hlt:(B.take p).length=p:=by simp; omega
   have:=e8g F hn (fs X) (fs (B.drop p++Y)) x.1 (X.length+1+p) (fs (B.take p)) [] (by simp [fs]; omega) (by simp [fs]; omega)
   have g1:fs X++[]++x.1::fs (B.take p)++fs (B.drop p++Y)=fs (X++x::B++Y):=by
    have e:B.take p++(B.drop p++Y)=B++Y:=by rw [<-List.append_assoc,List.take_append_drop]
    have e2:fs (X++x::B++Y)=fs X++x.1::fs (B++Y):=by simp [fs]
    rw [e2,<-e]
    simp only [fs,List.map_append,List.append_nil,List.cons_append,List.append_assoc]
   have g2:fs X++[]++fs (B.take p)++x.1::fs (B.drop p++Y)=fs (X++(B.take p++x::B.drop p)++Y):=by simp [fs]
   rw [g1,g2] at this
   simpa [fs] using this
 |succ k ih=>
  intro p q h1 h2 h3 hP hQ
  by_cases hpq:p=q
  ·exact ih p q (by omega) h2 h3 hP hQ
  ·have hh:hI ((X.length+1+p:Nat):Int) ((X.length+1+q:Nat):Int)=((X.length+1+(X.length+1+p+(X.length+1+q)) / 2 - (X.length+1):Nat):Int):=by
    rw [c87 (by omega) (by omega)]; congr 1; omega
   generalize hm:(X.length+1+p+(X.length+1+q)) / 2 - (X.length+1)=m at hh
   have hm1:p<=m /\ m<q:=by omega
   have hh':hI ((X.length+1+p:Nat):Int) ((X.length+1+q:Nat):Int)=((X.length+1+m:Nat):Int):=by rw [hh]; congr 1; omega
   have hy:B[m]? =some B[m]:=List.getElem?_eq_getElem (by omega)
   generalize B[m]=y at hy
   have hyB:y∈B:=List.mem_of_getElem? hy
   have gx:(fs (X++x::B++Y))[X.length]? =some x.1:=by simp [fs]
   have gy:(fs (X++x::B++Y))[X.length+1+m]? =some y.1:=by
    have:fs (X++x::B++Y)=fs (X++[x])++fs B++fs Y:=by simp [fs]
    rw [this,show X.length+1+m=(fs (X++[x])).length+m by simp [fs],g4f _ _ _ (by simp [fs]; omega)]
    simp [fs,hy]
   have e1:wI (((X.length+1+m:Nat):Int)+1)=((X.length+1+(m+1):Nat):Int):=by rw [wI,D5 (by omega)]; omega
   have cmpS:C y.1 x.1 (cm y.1 x.1):=hC _ _ (hB y hyB) hx
   by_cases hlt:cm y.1 x.1<0
   ·obtain ⟨S,q1,q2,q3⟩:=ih (m+1) q (by omega) (by omega) h3 (fun z hz=>by
     obtain ⟨t,ht1⟩:=List.mem_iff_getElem?.1 hz
     rw [List.getElem?_take] at ht1
     split at ht1
     ·rename_i htm
      by_cases e:t=m
      ·subst e; rw [hy] at ht1; cases ht1; exact .inl hlt
      ·have hzy:Rt cm z y:=by
        obtain ⟨l1,g1⟩:=List.getElem?_eq_some_iff.1 ht1
        obtain ⟨l2,g2⟩:=List.getElem?_eq_some_iff.1 hy
        rw [<-g1,<-g2]
        exact List.pairwise_iff_getElem.1 hs t m l1 l2 (by omega)
       exact Rt.trans hp (hB z (List.mem_of_getElem? ht1)) (hB y hyB) hx hzy (.inl hlt)
     ·cases ht1) hQ
    refine ⟨S,q1,q2,F.h_sy4 _ _ _ _ _ _ ⟨fun _=> ?_,fun h=>by simp at h; omega⟩⟩
    rw [hh',e1]
    exact ⟨by omega,y.1,by rw [Int.toNat_natCast]; exact gy,by omega,x.1,by rw [Int.toNat_natCast]; exact gx,_,cmpS,fun _=>q3,fun h=>by simp at h; omega⟩
   ·obtain ⟨S,q1,q2,q3⟩:=ih p m (by omega) (by omega) (by omega) hP (fun z hz=>by
     have hxy:Rt cm x y:=Rt.of_not hp (hB y hyB) hx hlt (ht y hyB)
     obtain ⟨t,ht1⟩:=List.mem_iff_getElem?.1 hz
     rw [List.getElem?_drop] at ht1
     by_cases e:t=0
     ·subst e; rw [Nat.add_zero,hy] at ht1; cases ht1; exact hxy
     ·have hyz:Rt cm y z:=by
       obtain ⟨l1,g1⟩:=List.getElem?_eq_some_iff.1 ht1
       obtain ⟨l2,g2⟩:=List.getElem?_eq_some_iff.1 hy
       rw [<-g1,<-g2]
       exact List.pairwise_iff_getElem.1 hs m (m+t) l2 l1 (by omega)
      exact Rt.trans hp hx (hB y hyB) (hB z (List.mem_of_getElem? ht1)) hxy hyz)
    refine ⟨S,q1,q2,F.h_sy4 _ _ _ _ _ _ ⟨fun _=> ?_,fun h=>by simp at h; omega⟩⟩
    rw [hh']
    exact ⟨by omega,y.1,by rw [Int.toNat_natCast]; exact gy,by omega,x.1,by rw [Int.toNat_natCast]; exact gx,_,cmpS,fun h=>absurd (of_decide_eq_true h) hlt,fun _=>q3⟩
theorem f18 {n0:Nat} (hn:n0<=1125899906842624) (X A Y:List (α × Nat)) (y:α × Nat) (hy':Dm y.1) (hA:∀x∈A,Dm x.1) (hs:Srt cm A) (ht:∀x∈A,x.2<y.2) (h0:n0=X.length+A.length+1+Y.length):∀(k p q:Nat),q - p<=k ->p<=q ->q<=A.length ->(∀x∈A.take p,Rt cm x y) ->(∀x∈A.drop q,Rt cm y x) ->
  ∃S,Srt cm S /\ S.Perm (A++[y]) /\ F.sy10 ((X.length+q:Nat):Int) ((X.length+p:Nat):Int) n0 ((X.length+A.length:Nat):Int) (fs (X++A++y::Y)) (fs (X++S++Y)):=by
 intro k
 induction k with
 |zero=>
  intro p q h1 h2 h3 hP hQ
  obtain rfl:p=q:=by omega
  refine ⟨A.take p++y::A.drop p, ?_, ?_, ?_⟩
  ·refine List.pairwise_append.2 ⟨hs.sublist (List.take_sublist _ _),List.pairwise_cons.2 ⟨hQ,hs.sublist (List.drop_sublist _ _)⟩,fun a ha b hb=> ?_⟩
   rcases List.mem_cons.1 hb with h|h
   ·rw [h]; exact hP a ha
   ·exact Rt.trans hp (hA a (List.mem_of_mem_take ha)) hy' (hA b (List.mem_of_mem_drop h)) (hP a ha) (hQ b h)
  ·exact List.perm_middle.trans (by rw [List.take_append_drop]; exact (List.perm_append_singleton y A).symm)
  ·refine F.h_sy10 _ _ _ _ _ _ ⟨fun h=>by simp at h,fun _=> ?_⟩
   have hlt:(A.take p).length=p:=by simp; omega
   have hld:(A.drop p).length=A.length - p:=by simp
   have:=e9y F hn (fs (X++A.take p)) (fs Y) y.1 (X.length+p) (by simp [fs]; omega) _ (fs (A.drop p)) [] rfl (by simp [fs]; omega)
   have g0:(fs (X++A.take p)).length+(fs (A.drop p)).length=X.length+A.length:=by simp [fs]; omega
   have g1:fs (X++A.take p)++fs (A.drop p)++y.1::[]++fs Y=fs (X++A++y::Y):=by
    conv=>rhs; rw [<-List.take_append_drop p A]
    simp [fs]
   have g2:fs (X++A.take p)++y.1::fs (A.drop p)++[]++fs Y=fs (X++(A.take p++y::A.drop p)++Y):=by simp [fs]
   rw [g0,g1,g2] at this
   exact this
 |succ k ih=>
  intro p q h1 h2 h3 hP hQ
  by_cases hpq:p=q
  ·exact ih p q (by omega) h2 h3 hP hQ
  ·have hh:hI ((X.length+p:Nat):Int) ((X.length+q:Nat):Int)=(((X.length+p+(X.length+q)) / 2:Nat):Int):=c87 (by omega) (by omega)
   generalize hm:(X.length+p+(X.length+q)) / 2 - X.length=m
   have hm1:p<=m /\ m<q:=by omega
   have hh':hI ((X.length+p:Nat):Int) ((X.length+q:Nat):Int)=((X.length+m:Nat):Int):=by rw [hh]; congr 1; omega
   have hx:A[m]? =some A[m]:=List.getElem?_eq_getElem (by omega)
   generalize A[m]=x at hx
   have hxA:x∈A:=List.mem_of_getElem? hx
   have gy:(fs (X++A++y::Y))[X.length+A.length]? =some y.1:=by
    have:fs (X++A++y::Y)=fs (X++A)++y.1::fs Y:=by simp [fs]
    rw [this,show X.length+A.length=(fs (X++A)).length by simp [fs]]
    simp
   have gx:(fs (X++A++y::Y))[X.length+m]? =some x.1:=by
    have:fs (X++A++y::Y)=fs X++fs A++fs (y::Y):=by simp [fs]
    rw [this,show X.length+m=(fs X).length+m by simp [fs],g4f _ _ _ (by simp [fs]; omega)]
    simp [fs,hx]
   have e1:wI (((X.length+m:Nat):Int)+1)=((X.length+(m+1):Nat):Int):=by rw [wI,D5 (by omega)]; omega
   have cmpS:C y.1 x.1 (cm y.1 x.1):=hC _ _ hy' (hA x hxA)
   by_cases hlt:cm y.1 x.1<0
   ·obtain ⟨S,q1,q2,q3⟩:=ih p m (by omega) (by omega) (by omega) hP (fun z hz=>by
     obtain ⟨t,ht1⟩:=List.mem_iff_getElem?.1 hz
     rw [List.getElem?_drop] at ht1
     by_cases e:t=0
     ·subst e; rw [Nat.add_zero,hx] at ht1; cases ht1; exact .inl hlt
     ·have hxz:Rt cm x z:=by
       obtain ⟨l1,g1⟩:=List.getElem?_eq_some_iff.1 ht1
       obtain ⟨l2,g2⟩:=List.getElem?_eq_some_iff.1 hx
       rw [<-g1,<-g2]
       exact List.pairwise_iff_getElem.1 hs m (m+t) l2 l1 (by omega)
      exact Rt.trans hp hy' (hA x hxA) (hA z (List.mem_of_getElem? ht1)) (.inl hlt) hxz)
    refine ⟨S,q1,q2,F.h_sy10 _ _ _ _ _ _ ⟨fun _=> ?_,fun h=>by simp at h; omega⟩⟩
    rw [hh']
    exact ⟨by omega,y.1,by rw [Int.toNat_natCast]; exact gy,by omega,x.1,by rw [Int.toNat_natCast]; exact gx,_,cmpS,fun h=>by simp at h; omega,fun _=>q3⟩
   ·obtain ⟨S,q1,q2,q3⟩:=ih (m+1) q (by omega) (by omega) h3 (fun z hz=>by
     have hxy:Rt cm x y:=Rt.of_not hp hy' (hA x hxA) hlt (ht x hxA)
     obtain ⟨t,ht1⟩:=List.mem_iff_getElem?.1 hz
     rw [List.getElem?_take] at ht1
     split at ht1
     ·rename_i htm
      by_cases e:t=m
      ·subst e; rw [hx] at ht1; cases ht1; exact hxy
      ·have hzx:Rt cm z x:=by
        obtain ⟨l1,g1⟩:=List.getElem?_eq_some_iff.1 ht1
        obtain ⟨l2,g2⟩:=List.getElem?_eq_some_iff.1 hx
        rw [<-g1,<-g2]
        exact List.pairwise_iff_getElem.1 hs t m l1 l2 (by omega)
       exact Rt.trans hp (hA z (List.mem_of_getElem? ht1)) (hA x hxA) hy' hzx hxy
     ·cases ht1) hQ
    refine ⟨S,q1,q2,F.h_sy10 _ _ _ _ _ _ ⟨fun _=> ?_,fun h=>by simp at h; omega⟩⟩
    rw [hh',e1]
    exact ⟨by omega,y.1,by rw [Int.toNat_natCast]; exact gy,by omega,x.1,by rw [Int.toNat_natCast]; exact gx,_,cmpS,fun _=>q3,fun h=>by simp at h; omega⟩
end
end Go.Proofs.YtidmmngcijapcaaGreat.Lift
