/- Part 4 of the texts that prove TextformPrintsEnd. -/
import Derived.Test.YtdpomombdeccpaaGreatDoorTextformPrintsEndP2
import Derived.Test.YtdpomombdeccpaaGreatDoorTextformPrintsEndP1
import Derived.OpenShut
import Derived.ProofKit
namespace Go.Proofs.YtdpomombdeccpaaGreatDoor.Lift
open Go.RowKit
set_option linter.unusedVariables false
set_option linter.unusedSimpArgs false
set_option linter.unnecessarySimpa false
set_option linter.unusedSectionVars false
set_option maxRecDepth 100000
def H9(n:Nat)(β:b4d Nat):AV->AV
 |.nil=>.sl [] .no
 |.sl els (.own id)=>if β=some id then .sl els (.own 0) else .sl els .no
 |.sl els .no=>.sl els .no
 |.sl els .full=>.sl els .no
 |.ptr k off=>if k=n then .ptr 0 off else .it ⟨#[]⟩ 0
 |.row k off size len cap=>if k=n then .row 0 off size len cap else .it ⟨#[]⟩ 0
 |.ps k t=>if k=n then .ps 0 t else .it ⟨#[]⟩ 0
 |.bb (.own id) els u=>if β=some id then .bb (.own 0) els u else .it ⟨#[]⟩ 0
 |x=>x
def Al(n:Nat)(β:b4d Nat):AV->AV
 |.agg cs=>.agg (cs.map (H9 n β))
 |x=>H9 n β x
def ok1:AV->b4e
 |.ptr 0 _=>true
 |.row 0 _ _ _ _=>true
 |.sl els (.own 0)=>F9 els
 |.ps 0 _=>true
 |.bb (.own 0) els _=>F9 els
 |x=>plain x
def okA:AV->b4e
 |.agg cs=>cs.all ok1
 |x=>ok1 x
def AB(n:Nat)(β:b4d Nat):AV->AV
 |.ptr _ off=>.ptr n off
 |.row _ off size len cap=>.row n off size len cap
 |.sl els (.own _)=>match β with
  |some id=>.sl els (.own id)
  |none=>.sl els .no
 |.ps _ t=>.ps n t
 |.bb (.own _) els u=>match β with
  |some id=>.bb (.own id) els u
  |none=>.sl els .no
 |x=>x
theorem ZF(n:Nat)(β:b4d Nat)(a:AV)(h:ok1 (H9 n β a)):(H9 n β a).isCell=a.isCell:=by
 cases a with
 |sl els tok=>cases tok<;>simp only[H9]<;>(try split)<;>rfl
 |ptr k off=>simp only[H9]at h ⊢;split at h<;>simp_all [ok1,plain,AV.isCell]
 |row k off size len cap=>simp only[H9]at h ⊢;split at h<;>simp_all [ok1,plain,AV.isCell]
 |ps k t=>simp only[H9]at h ⊢;split at h<;>simp_all [ok1,plain,AV.isCell]
 |bb k els u=>cases k<;>simp only[H9]at h ⊢<;>(try split at h)<;>simp_all [ok1,plain,AV.isCell]
 |_=>rfl
theorem a87(n:Nat)(β:b4d Nat)(a:AV):(AB n β a).isCell=a.isCell:=by
 cases a with
 |sl els tok=>cases tok<;>simp only[AB]<;>(try split)<;>rfl
 |bb k els u=>cases k<;>simp only[AB]<;>(try split)<;>rfl
 |_=>rfl
def Sg.mine(σ:Sg)(b0:Nat)(β:b4d Nat):Sg:=⟨σ.w,λi=>if i=0 then some b0 else none,λj=>if j=0 then β.bind σ.buf else none,λ_ _=>False⟩
def Sg.small(σ:Sg)(b0:Nat)(β:b4d Nat):Sg:={σ.mine b0 β with outer:=λb o=>σ.open_ b o/\¬(σ.mine b0 β).own b o}
theorem MM{σ:Sg}{b0:Nat}{β:b4d Nat}{b o:Nat}:(σ.mine b0 β).own b o↔b=b0\/∃id e,β=some id/\σ.buf id=some e/\e.tail b o:=by
 constructor
 ·rintro (⟨k,hk⟩|⟨j,e,he,hs⟩)
  ·simp only[Sg.mine]at hk;split at hk
   ·cases hk;exact .inl rfl
   ·cases hk
  ·simp only[Sg.mine]at he;split at he
   ·obtain⟨id,h1,h2⟩:=Option.bind_eq_some_iff.1 he;exact .inr ⟨id,e,h1,h2,hs⟩
   ·cases he
 ·rintro (rfl|⟨id,e,h1,h2,hs⟩)
  ·exact .inl ⟨0,rfl⟩
  ·exact .inr ⟨0,e,by simp[Sg.mine,h1,h2],hs⟩
theorem Lm{σ:Sg}{b0:Nat}{β:b4d Nat}{b o:Nat}:(σ.small b0 β).own b o↔(σ.mine b0 β).own b o:=Iff.rfl
theorem jP{σ:Sg}{b0 n:Nat}{β:b4d Nat}(hn:σ.blk n=some b0){b o:Nat}(h:(σ.small b0 β).own b o):σ.own b o:=by
 rcases MM.1 (Lm.1 h) with rfl|⟨id,e,h1,h2,hs⟩
 ·exact .inl ⟨n,hn⟩
 ·exact .inr ⟨id,e,h2,hs⟩
theorem bF{σ:Sg}{b0 n:Nat}{β:b4d Nat}(hn:σ.blk n=some b0){b o:Nat}:(σ.small b0 β).open_ b o↔σ.open_ b o:=by
 constructor
 ·rintro (h|h)
  ·exact h.1
  ·exact .inr (jP hn h)
 ·intro h;rcases Classical.em ((σ.mine b0 β).own b o) with hm|hm
  ·exact .inr hm
  ·exact .inl ⟨h,hm⟩
theorem Rel.move{σ σ':Sg}{a:AV}{x:Value}(hr:Rel σ a x)(hp:plain a)(hw:σ'.w=σ.w)(ho:∀b o,σ'.open_ b o->σ.open_ b o):Rel σ' a x:=
 (hr.down (w:=σ.w) (outer:=σ.open_) hp rfl λ_ _ h=>h).up (λ_=>rfl) (λ_=>rfl) hw.symm λb o h=>.inl (ho b o h)
theorem ki{σ:Sg}{b0 n id:Nat}{β:b4d Nat}(hn:σ.blk n=some b0)(hb:β=some id){els:b4c (b4c AV)}{x:Value}(hr:Rel σ (.sl els (.own id)) x)(hok:F9 els):Rel (σ.small b0 β) (.sl els (.own 0)) x:=by
 have hop:∀b o,(σ.small b0 β).open_ b o->σ.open_ b o:=λb o h=>(bF hn).1 h
 have hbuf:(σ.small b0 β).buf 0=σ.buf id:=by simp[Sg.small,Sg.mine,hb]
 have tk:∀{len:Nat}{a:b4d Addr}{cap:Nat},BT σ (.own id) len a cap->BT (σ.small b0 β) (.own 0) len a cap:=by
  rintro len a cap ⟨e,h1,h2⟩;exact⟨e,by rw[hbuf];exact h1,h2⟩
 cases hr with
 |sl0 _ ht=>exact .sl0 _ (tk ht)
 |I5 _ a cap ht hc=>exact .I5 _ a cap (tk ht) (hc.elim (λh=>by cases h) .inr)
 |sl _ _ b o cap size xs hs hcap ht hz hc hr=>
  refine .sl _ _ b o cap size xs hs hcap (tk ht) (λj e hj he=>?_) (λi el hi j av hj=>?_) λi el hi j av hj=>?_
  ·cases hj;rw[hbuf]at he;exact hz id e rfl he
  ·obtain⟨h1,h2,h3⟩:=hc i el hi j av hj;exact⟨h1,λh=>h2 (hop _ _ h),h3⟩
  ·exact(hr i el hi j av hj).move (Aw (Jv hok i el hi) j av hj) rfl hop
theorem FT{σ:Sg}{b0 n:Nat}{β:b4d Nat}(hn:σ.blk n=some b0){a:AV}{x:Value}(hr:Rel σ a x)(hok:ok1 (H9 n β a)):Rel (σ.small b0 β) (H9 n β a) x:=by
 have hop:∀b o,(σ.small b0 β).open_ b o->σ.open_ b o:=λb o h=>(bF hn).1 h
 have pl:∀{a:AV},Rel σ a x->plain a->Rel (σ.small b0 β) a x:=λh hp=>h.move hp rfl hop
 cases a with
 |nil=>exact pl hr.K1 rfl
 |sl els tok=>
  cases tok with
  |no=>exact pl hr.K1 hok
  |full=>exact pl hr.K1 hok
  |own id=>
   simp only[H9]at hok ⊢;split at hok
   ·rename_i hb;rw[if_pos hb];exact ki hn hb hr (by simpa only[ok1]using hok)
   ·rename_i hb;rw[if_neg hb];exact pl hr.K1 hok
 |ptr k off=>
  simp only[H9]at hok ⊢;split at hok
  ·rename_i hk;subst hk;rw[if_pos rfl];cases hr with
   |ptr _ _ b h=>rw[hn]at h;cases h;exact .ptr 0 off b0 rfl
  ·simp[ok1,plain]at hok
 |row k off size len cap=>
  simp only[H9]at hok ⊢;split at hok
  ·rename_i hk;subst hk;rw[if_pos rfl];cases hr with
   |row _ _ _ _ _ b cap' h hc hm hx=>rw[hn]at h;cases h;exact .row 0 off size len cap b0 cap' rfl hc hm hx
  ·simp[ok1,plain]at hok
 |ps k t=>
  simp only[H9]at hok ⊢;split at hok
  ·rename_i hk;subst hk;rw[if_pos rfl];cases hr with
   |ps _ _ b p h hs hp=>rw[hn]at h;cases h;exact .ps 0 t b0 p rfl hs hp
  ·simp[ok1,plain]at hok
 |bb k els u=>
  cases k with
  |own id=>
   simp only[H9]at hok ⊢;split at hok
   ·rename_i hb;rw[if_pos hb];simp only[ok1]at hok;cases hr with
    |AK _ _ _ a m cap h hu=>
     exact .AK 0 els u a m cap (ki hn hb h hok) hu
   ·simp[ok1,plain]at hok
  |nil=>simp[H9,ok1,plain]at hok
  |data id=>simp[H9,ok1,plain]at hok
  |raw id m=>simp[H9,ok1,plain]at hok
 |_=>exact pl hr (by simpa[H9,ok1]using hok)
theorem uN{σ:Sg}{b0 n:Nat}{β:b4d Nat}(hn:σ.blk n=some b0){a:AV}{x:Value}(hr:Rel σ a x)(hok:okA (Al n β a)):Rel (σ.small b0 β) (Al n β a) x:=by
 cases a with
 |agg cs=>
  simp only[Al,okA]at hok ⊢;obtain⟨xs,rfl,hc⟩:=hr.agg_inv;refine Rel.agg_mk' ⟨by simp[hc.1],λi av hi=>?_⟩;have hok1:=List.all_eq_true.1 hok av (b36 hi);simp only[b31,b3t]at hi;obtain⟨b,hb,rfl⟩:=hi;obtain⟨h1,x,h2,h3⟩:=hc.2 i b hb;exact⟨by rw[ZF n β b hok1];exact h1,x,h2,FT hn h3 hok1⟩
 |sl els tok=>cases tok with
  |own id=>
   refine FT hn hr ?_;simp only[Al,H9]at hok ⊢;split at hok<;>rename_i hb<;>simp only[hb,if_true,if_false]<;>exact hok
  |_=>exact FT hn hr hok
 |ptr k off=>
  refine FT hn hr ?_;simp only[Al,H9]at hok ⊢;split at hok<;>rename_i hb<;>simp only[hb,if_true,if_false]<;>exact hok
 |row k off size len cap=>
  refine FT hn hr ?_;simp only[Al,H9]at hok ⊢;split at hok<;>rename_i hb<;>simp only[hb,if_true,if_false]<;>exact hok
 |ps k t=>
  refine FT hn hr ?_;simp only[Al,H9]at hok ⊢;split at hok<;>rename_i hb<;>simp only[hb,if_true,if_false]<;>exact hok
 |bb k els u=>
  refine FT hn hr ?_;cases k with
  |own id=>
   simp only[Al,H9]at hok ⊢;split at hok<;>rename_i hb<;>simp only[hb,if_true,if_false]<;>exact hok
  |_=>exact hok
 |_=>exact FT hn hr hok
def Sg.big(σ σ1:Sg)(β:b4d Nat):Sg:=⟨σ1.w,σ.blk,λid=>if β=some id then σ1.buf 0 else σ.buf id,σ.outer⟩
theorem lL{σ σ1:Sg}{id:Nat}(ho:∀b o,(σ.big σ1 (some id)).open_ b o->σ1.open_ b o){els:b4c (b4c AV)}{x:Value}(hr:Rel σ1 (.sl els (.own 0)) x)(hok:F9 els):Rel (σ.big σ1 (some id)) (.sl els (.own id)) x:=by
 have hbuf:(σ.big σ1 (some id)).buf id=σ1.buf 0:=by simp[Sg.big]
 have tk:∀{len:Nat}{a:b4d Addr}{cap:Nat},BT σ1 (.own 0) len a cap->BT (σ.big σ1 (some id)) (.own id) len a cap:=by
  rintro len a cap ⟨e,h1,h2⟩;exact⟨e,by rw[hbuf];exact h1,h2⟩
 cases hr with
 |sl0 _ ht=>exact .sl0 _ (tk ht)
 |I5 _ a cap ht hc=>exact .I5 _ a cap (tk ht) (hc.elim (λh=>by cases h) .inr)
 |sl _ _ b o cap size xs hs hcap ht hz hc hr=>
  refine .sl _ _ b o cap size xs hs hcap (tk ht) (λj e hj he=>?_) (λi el hi j av hj=>?_) λi el hi j av hj=>?_
  ·cases hj;rw[hbuf]at he;exact hz 0 e rfl he
  ·obtain⟨g1,g2,g3⟩:=hc i el hi j av hj;exact⟨g1,λh=>g2 (ho _ _ h),g3⟩
  ·exact(hr i el hi j av hj).move (Aw (Jv hok i el hi) j av hj) rfl ho
theorem tv{σ σ1:Sg}{b0 n:Nat}{β:b4d Nat}(hn:σ.blk n=some b0)(h1:σ1.blk 0=some b0)(ho:∀b o,(σ.big σ1 β).open_ b o->σ1.open_ b o){a:AV}{x:Value}(hr:Rel σ1 a x)(hok:ok1 a):Rel (σ.big σ1 β) (AB n β a) x:=by
 have pl:∀{a:AV},Rel σ1 a x->plain a->Rel (σ.big σ1 β) a x:=λh hp=>h.move hp rfl ho
 cases a with
 |sl els tok=>
  cases tok with
  |no=>exact pl hr hok
  |full=>exact pl hr hok
  |own j=>
   cases j with
   |succ j=>simp[ok1,plain]at hok
   |zero=>
    simp only[ok1]at hok;cases β with
    |none=>exact(show Rel σ1 (.sl els .no) x from hr.K1).move (by simpa[plain]using hok) rfl ho
    |some id=>
     simp only[AB];exact lL ho hr hok
 |ptr k off=>
  cases k with
  |succ k=>simp[ok1,plain]at hok
  |zero=>cases hr with
   |ptr _ _ b h=>rw[h1]at h;cases h;exact .ptr n off b0 hn
 |row k off size len cap=>
  cases k with
  |succ k=>simp[ok1,plain]at hok
  |zero=>cases hr with
   |row _ _ _ _ _ b cap' h hc hm hx=>rw[h1]at h;cases h;exact .row n off size len cap b0 cap' hn hc hm hx
 |ps k t=>
  cases k with
  |succ k=>simp[ok1,plain]at hok
  |zero=>cases hr with
   |ps _ _ b p h hs hp=>rw[h1]at h;cases h;exact .ps n t b0 p hn hs hp
 |bb k els u=>
  cases k with
  |own j=>
   cases j with
   |succ j=>simp[ok1,plain]at hok
   |zero=>
    simp only[ok1]at hok;cases hr with
    |AK _ _ _ a m cap h hu=>
     cases β with
     |none=>exact(show Rel σ1 (.sl els .no) _ from h.K1).move (by simpa[plain]using hok) rfl ho
     |some id=>exact .AK id els u a m cap (lL ho h hok) hu
  |nil=>simp[ok1,plain]at hok
  |data id=>simp[ok1,plain]at hok
  |raw id m=>simp[ok1,plain]at hok
 |_=>have h:=pl hr (by simpa[ok1]using hok);exact h
def De(P:Program)(gl:b4c (Nat × b4c AV))(f:FuncId)(args c:b4c AV)(bf:b4c (Nat × Nat))(r:AV)(c':b4c AV)(bf':b4c (Nat × Nat)):Prop:=
 W9 P f args ⟨[some c],bf,gl⟩ λav h=>nz av=r/\h=⟨[some c'],bf',gl⟩
theorem a9i{f:AV->AV}(hf:∀a,(f a).isIt=a.isIt):∀{l:b4c AV},G4 l->G4 (l.map f)=true
 |[],h=>h
 |a::_,h=>by simpa[G4,hf]using h
theorem sI(n:Nat)(β:b4d Nat)(a:AV):(AB n β a).isIt=a.isIt:=by
 cases a with
 |sl els tok=>cases tok<;>simp only[AB]<;>(try split)<;>rfl
 |bb k els u=>cases k<;>simp only[AB]<;>(try split)<;>rfl
 |_=>rfl
theorem rT{h:A3}{σ:Sg}(hi:Inv h σ){n b0:Nat}{β:b4d Nat}{cb c:b4c AV}{bf:b4c (Nat × Nat)}(hn:h.A4[n]? =some (some cb))(hb0:σ.blk n=some b0)(hit:G4 cb)(hc:cb.map (H9 n β)=c)(hok:c.all ok1)(hbf:(β=none/\bf=[])\/∃id x,β=some id/\bf=[x]/\h.A6[id]? =some x)(hgl:J3 h.A8):Inv ⟨[some c],bf,h.A8⟩ (σ.small b0 β):=by
 have hblk:∀{k b:Nat},(σ.small b0 β).blk k=some b->k=0/\b=b0:=by
  intro k b hk;simp only[Sg.small,Sg.mine]at hk;split at hk
  ·rename_i h0;cases hk;exact⟨h0,rfl⟩
  ·cases hk
 have hbuf:∀{j:Nat}{e:Buf},(σ.small b0 β).buf j=some e->j=0/\∃id,β=some id/\σ.buf id=some e:=by
  intro j e he;simp only[Sg.small,Sg.mine]at he;split at he
  ·rename_i h0;obtain⟨id,h1,h2⟩:=Option.bind_eq_some_iff.1 he;exact⟨h0,id,h1,h2⟩
  ·cases he
 have hopen:∀b o,σ.open_ b o->b<σ.w.heap.size:=by
  rintro b o (ho|⟨n,hn⟩|⟨id,e,he,hs⟩)
  ·exact(hi.outer b o ho).1
  ·exact hi.lt hn
  ·exact hi.G2 id e b o he hs
 refine⟨λk cells hk=>?_,λk b hk=>?_,λk m b c1 c2 hk hm _ _ _ _=>?_,λj x hj=>?_,λj e he=>?_,λj e he=>?_,λj e b o he hs=>?_,λj e b o he hs=>?_,λj e b o he hs=>?_,λi j e f b o he hf _ _=>?_,λj e k b o he hs hk=>?_,λb o ho=>?_,λg cells hg=>?_⟩
 ·cases k with
  |succ k=>simp at hk
  |zero=>
   simp only[List.getElem?_cons_zero,b4a]at hk;subst hk;refine⟨b0,rfl,?_⟩;obtain⟨b',h1,h2⟩:=hi.blk n cb hn;rw[hb0]at h1;cases h1;obtain⟨cs,rest,elem,g1,g2⟩:=h2.plain hit;refine .cells _ cs rest elem g1 ⟨by rw[g2.1,<-hc];simp,λi av hav=>?_⟩;have hok1:=List.all_eq_true.1 hok av (b36 hav);rw[<-hc]at hav;simp only[b31,b3t]at hav;obtain⟨a,ha,rfl⟩:=hav;obtain⟨k1,x,k2,k3⟩:=g2.2 i a ha;exact⟨by rw[ZF n β a hok1];exact k1,x,k2,FT hb0 k3 hok1⟩
 ·obtain⟨rfl,_⟩:=hblk hk;exact⟨c,rfl⟩
 ·have h1:=(List.getElem?_eq_some_iff.1 hk).1;have h2:=(List.getElem?_eq_some_iff.1 hm).1;simp at h1 h2;omega
 ·rcases hbf with⟨_,rfl⟩|⟨id,y,rfl,rfl,hy⟩
  ·simp at hj
  ·cases j with
   |succ j=>simp at hj
   |zero=>
    simp at hj;subst hj;obtain⟨e,h1,h2⟩:=hi.buf id y hy;exact⟨e,by simp[Sg.small,Sg.mine,h1],h2⟩
 ·obtain⟨rfl,id,hβ,h1⟩:=hbuf he;rcases hbf with⟨h0,_⟩|⟨id',y,h0,rfl,hy⟩
  ·rw[h0]at hβ;cases hβ
  ·rw[h0]at hβ;cases hβ;have:=hi.I6 id e h1;rw[hy]at this;simpa using this
 ·obtain⟨_,id,hβ,h1⟩:=hbuf he;exact hi.I9 id e h1
 ·obtain⟨_,id,hβ,h1⟩:=hbuf he;exact hi.K0 id e b o h1 hs
 ·obtain⟨_,id,hβ,h1⟩:=hbuf he;exact hi.J7 id e b o h1 hs
 ·obtain⟨_,id,hβ,h1⟩:=hbuf he;exact hi.G2 id e b o h1 hs
 ·exact(hbuf he).1.trans (hbuf hf).1.symm
 ·obtain⟨_,id,hβ,h1⟩:=hbuf he;obtain⟨_,rfl⟩:=hblk hk;exact hi.G9 id e n _ o h1 hs hb0
 ·exact⟨hopen b o ho.1,λh=>ho.2 h⟩
 ·exact(hi.E6 g cells hg).move (by simp only[plain];exact List.all_eq_true.1 hgl _ hg) rfl λb o h=>(bF hb0).1 h
theorem ij{P:Program}{f:FuncId}{args args' c cb c':b4c AV}{bf bf' bs:b4c (Nat × Nat)}{r:AV}{h:A3}{n:Nat}{β:b4d Nat}{K:AV->A3->Prop}(hf:De P h.A8 f args c bf r c' bf')(hgl:J3 h.A8)(hn:h.A4[n]? =some (some cb))(hit:G4 cb)(hc:cb.map (H9 n β)=c)(hok:c.all ok1)(hit':G4 c'=true)(hok':c'.all ok1)(hargs:args'.map (Al n β)=args)(hoka:args.all okA)(hr:plain r)(hbf:(β=none/\bf=[]/\bf'=[]/\bs=h.A6)\/∃x x',β=some 0/\bf=[x]/\bf'=[x']/\h.A6=[x]/\bs=[x'])(hk:K r ⟨h.A4.set n (some (c'.map (AB n β))),bs,h.A8⟩):W9 P f args' h K:=by
 refine⟨hf.1,λσ cargs hi hrel=>?_⟩;obtain⟨b0,hb0,hat⟩:=hi.blk n cb hn
 have hinv:=rT hi hn hb0 hit hc hok (bf:=bf) (by
  rcases hbf with⟨h1,h2,_⟩|⟨x,x',h1,h2,_,h4,_⟩
  ·exact .inl ⟨h1,h2⟩
  ·exact .inr ⟨0,x,h1,h2,by rw[h4];rfl⟩) hgl
 have hrels:P7 (σ.small b0 β) args cargs.toList:=by
  refine⟨by rw[hrel.1,<-hargs];simp,λi av hav=>?_⟩;have hoka1:=List.all_eq_true.1 hoka av (b36 hav);rw[<-hargs]at hav;simp only[b31,b3t]at hav;obtain⟨a,ha,rfl⟩:=hav;obtain⟨x,h1,h2⟩:=hrel.2 i a ha;exact⟨x,h1,uN hb0 h2 hoka1⟩
 refine(hf.2 (σ.small b0 β) cargs hinv hrels).mono λe w' hq=>?_
 obtain⟨σ1,h1,av,x,rfl,rfl,hle,hi1,hrx,hav,rfl⟩:=hq;have hb1:σ1.blk 0=some b0:=hle.blk 0 b0 rfl;have hsub:∀b o,(σ.small b0 β).own b o->σ.own b o:=λb o h=>jP hb0 h
 have hbuf1:∀{id:Nat}{e:Buf},(σ.big σ1 β).buf id=some e->(β=some id/\σ1.buf 0=some e)\/(β≠some id/\σ.buf id=some e):=by
  intro id e he;simp only[Sg.big]at he;split at he
  ·rename_i h0;exact .inl ⟨h0,he⟩
  ·rename_i h0;exact .inr ⟨h0,he⟩
 have hbufs:∀id e,β≠some id->σ.buf id=some e->β=none:=by
  intro id e h0 he;rcases hbf with⟨h1,_⟩|⟨x,x',h1,_,_,h4,_⟩
  ·exact h1
  ·have:=hi.I6 id e he;rw[h4]at this;have hlt:=(List.getElem?_eq_some_iff.1 this).1;simp at hlt;subst hlt;exact(h0 h1).elim
 have hown:∀b o,b<σ.w.heap.size->(σ.big σ1 β).own b o->σ.own b o:=by
  rintro b o hb (⟨k,hk⟩|⟨id,e,he,hs⟩)
  ·exact .inl ⟨k,hk⟩
  ·rcases hbuf1 he with⟨_,h2⟩|⟨_,h2⟩
   ·exact hsub b o (hle.own b o hb (.inr ⟨0,e,h2,hs⟩))
   ·exact .inr ⟨id,e,h2,hs⟩
 have hsize:=hle.size
 have hopen:∀b o,(σ.big σ1 β).open_ b o->σ1.open_ b o:=by
  have side:∀b o,σ.open_ b o->¬(σ.small b0 β).own b o->σ1.open_ b o:=λb o h1 h2=>.inl (by rw[hle.outer];exact⟨h1,h2⟩)
  rintro b o (ho|⟨k,hk⟩|⟨id,e,he,hs⟩)
  ·exact side b o (.inl ho) λh=>(hi.outer b o ho).2 (hsub b o h)
  ·rcases Classical.em (b=b0) with rfl|hne
   ·exact .inr (.inl ⟨0,hb1⟩)
   ·refine side b o (.inr (.inl ⟨k,hk⟩)) λh=>?_
    rcases MM.1 (Lm.1 h) with h|⟨id,e,_,he,hs⟩
    ·exact hne h
    ·exact hi.G9 id e k b o he hs hk
  ·rcases hbuf1 he with⟨_,h2⟩|⟨h1,h2⟩
   ·exact .inr (.inr ⟨0,e,h2,hs⟩)
   ·refine side b o (.inr (.inr ⟨id,e,h2,hs⟩)) λh=>?_
    rcases MM.1 (Lm.1 h) with rfl|⟨id',e',h1',he',hs'⟩
    ·exact hi.G9 id e n _ o h2 hs hb0
    ·have:=hi.J5 id id' e e' b o h2 he' hs hs';subst this;exact h1 h1'
 have hLe:Le σ (σ.big σ1 β):=by
  refine⟨λk b hk=>hk,λid e he=>?_,rfl,λb o hb ho=>hle.cell b o hb λh=>ho (hsub b o h),hle.ext,λb hb ho=>hle.whole b hb λo h=>ho o (hsub b o h),λb x hx=>hle.shape b x hx,hown,hsize,hle.os,hle.tape,hle.output⟩;simp only[Sg.big];split
  ·rename_i h0;exact hle.buf 0 e (by simp[Sg.small,Sg.mine,h0,he])
  ·exact⟨e,he,Nat.le_refl _,rfl,λ_=>rfl⟩
 have hcb:cb≠[]:=EI hit;have hnlt:n<h.A4.length:=(List.getElem?_eq_some_iff.1 hn).1
 have hnew:Q7 (σ.big σ1 β) b0 (c'.map (AB n β)):=by
  obtain⟨b',g1,g2⟩:=hi1.blk 0 c' rfl;rw[hb1]at g1;cases g1;obtain⟨cs,rest,elem,g3,g4⟩:=g2.plain hit';refine .cells _ cs rest elem g3 ⟨by rw[g4.1];simp,λi a hi=>?_⟩;simp only[b31,b3t]at hi;obtain⟨a',ha,rfl⟩:=hi;obtain⟨k1,y,k2,k3⟩:=g4.2 i a' ha;exact⟨by rw[a87];exact k1,y,k2,tv hb0 hb1 hopen k3 (List.all_eq_true.1 hok' a' (b36 ha))⟩
 have hitn:G4 (c'.map (AB n β)):=a9i (sI n β) hit'
 have hold:∀{k:Nat}{cells:b4c AV},(h.A4.set n (some (c'.map (AB n β))))[k]? =some (some cells)->(k=n/\cells=c'.map (AB n β))\/(k≠n/\h.A4[k]? =some (some cells)):=by
  intro k cells hk;rcases Classical.em (n=k) with h0|h0
  ·subst h0;rw[List.getElem?_set_self hnlt]at hk;simp only[b4a]at hk;exact .inl ⟨rfl,hk.symm⟩
  ·rw[List.getElem?_set_ne h0]at hk;exact .inr ⟨λh=>h0 h.symm,hk⟩
 have hinv':Inv ⟨h.A4.set n (some (c'.map (AB n β))),bs,h.A8⟩ (σ.big σ1 β):=by
  refine⟨λk cells hk=>?_,λk b hk=>?_,λk m b c1 c2 hk hm hc1 hc2 hbk hbm=>?_,λid y hy=>?_,λid e he=>?_,λid e he=>?_,λid e b o he hs=>?_,λid e b o he hs=>?_,λid e b o he hs=>?_,λi j e f b o he hf hs hs'=>?_,λid e k b o he hs hk=>?_,λb o ho=>?_,λg cells hg=>?_⟩
  ·rcases hold hk with⟨rfl,rfl⟩|⟨hne,hk'⟩
   ·exact⟨b0,hb0,hnew⟩
   ·obtain⟨b,g1,g2⟩:=hi.blk k cells hk';refine⟨b,g1,?_⟩;rcases Classical.em (b=b0) with rfl|hb
    ·rcases Classical.em (cells=[]) with rfl|hce
     ·exact hnew.nil hitn
     ·exact(hne (hi.inj k n _ cells cb hk' hn hce hcb g1 hb0)).elim
    ·refine g2.keep hLe (hle.whole b (hi.lt g1) λo h=>?_);rcases MM.1 (Lm.1 h) with h|⟨id,e,_,he,hs⟩
     ·exact hb h
     ·exact hi.G9 id e k b o he hs g1
  ·obtain⟨cc,g1⟩:=hi.dom k b hk;show ∃c,(h.A4.set n _)[k]? =some (some c)
   rcases Classical.em (n=k) with h0|h0
   ·subst h0;rw[List.getElem?_set_self hnlt];exact⟨_,rfl⟩
   ·rw[List.getElem?_set_ne h0];exact⟨cc,g1⟩
  ·rcases hold hk with⟨rfl,rfl⟩|⟨hne,hk'⟩<;>rcases hold hm with⟨rfl,rfl⟩|⟨hne2,hm'⟩
   ·rfl
   ·exact hi.inj _ _ b cb c2 hn hm' hcb hc2 hbk hbm
   ·exact hi.inj _ _ b c1 cb hk' hn hc1 hcb hbk hbm
   ·exact hi.inj _ _ b c1 c2 hk' hm' hc1 hc2 hbk hbm
  ·rcases hbf with⟨h1,h2,h3,rfl⟩|⟨z,z',h1,h2,h3,h4,rfl⟩
   ·obtain⟨e,g1,g2⟩:=hi.buf id y hy;exact⟨e,by simp only[Sg.big];rw[if_neg (by rw[h1];exact λh=>by cases h)];exact g1,g2⟩
   ·cases id with
    |succ id=>simp at hy
    |zero=>
     simp at hy;subst hy;obtain⟨e,g1,g2⟩:=hi1.buf 0 z' (by rw[h3];rfl);exact⟨e,by simp only[Sg.big];rw[if_pos h1];exact g1,g2⟩
  ·rcases hbuf1 he with⟨g1,g2⟩|⟨g1,g2⟩
   ·have:=hi1.I6 0 e g2;rcases hbf with⟨h1,_⟩|⟨z,z',h1,h2,h3,h4,rfl⟩
    ·rw[h1]at g1;cases g1
    ·rw[h1]at g1;cases g1;subst h3;exact this
   ·have hb:=hbufs id e g1 g2;rcases hbf with⟨h1,h2,h3,rfl⟩|⟨z,z',h1,_⟩
    ·exact hi.I6 id e g2
    ·rw[h1]at hb;cases hb
  ·rcases hbuf1 he with⟨g1,g2⟩|⟨g1,g2⟩
   ·exact hi1.I9 0 e g2
   ·exact hi.I9 id e g2
  ·rcases hbuf1 he with⟨g1,g2⟩|⟨g1,g2⟩
   ·exact hi1.K0 0 e b o g2 hs
   ·exact hle.ext b o (hi.K0 id e b o g2 hs)
  ·rcases hbuf1 he with⟨g1,g2⟩|⟨g1,g2⟩
   ·exact hi1.J7 0 e b o g2 hs
   ·have g4:=hi.J7 id e b o g2 hs;have hbn:=hbufs id e g1 g2
    have hw:=hle.whole b (hi.G2 id e b o g2 hs) λo' h=>by
     rcases MM.1 (Lm.1 h) with rfl|⟨id',e',h1',_⟩
     ·exact hi.G9 id e n _ o g2 hs hb0
     ·rw[hbn]at h1';cases h1'
    show Y4 σ1.w b o=true;rw[LH (show σ1.w.heap[b]? =σ.w.heap[b]? from hw)];exact g4
  ·rcases hbuf1 he with⟨g1,g2⟩|⟨g1,g2⟩
   ·exact hi1.G2 0 e b o g2 hs
   ·exact Nat.lt_of_lt_of_le (hi.G2 id e b o g2 hs) hsize
  ·rcases hbuf1 he with⟨g1,g2⟩|⟨g1,g2⟩<;>rcases hbuf1 hf with⟨k1,k2⟩|⟨k1,k2⟩
   ·rw[g1]at k1;cases k1;rfl
   ·have:=hbufs j f k1 k2;rw[this]at g1;cases g1
   ·have:=hbufs i e g1 g2;rw[this]at k1;cases k1
   ·exact hi.J5 i j e f b o g2 k2 hs hs'
  ·have hk':σ.blk k=some b:=hk;rcases hbuf1 he with⟨g1,g2⟩|⟨g1,g2⟩
   ·rcases Classical.em (b=b0) with rfl|hne
    ·exact hi1.G9 0 e 0 _ o g2 hs hb1
    ·rcases MM.1 (Lm.1 (hle.own b o (hi.lt hk') (.inr ⟨0,e,g2,hs⟩))) with h|⟨id',e',_,he',hs'⟩
     ·exact hne h
     ·exact hi.G9 id' e' k b o he' hs' hk'
   ·exact hi.G9 id e k b o g2 hs hk'
  ·have hb:=(hi.outer b o ho).1;exact⟨Nat.lt_of_lt_of_le hb hsize,λh=>(hi.outer b o ho).2 (hown b o hb h)⟩
  ·exact(hi.E6 g cells hg).mono hLe
 refine⟨σ.big σ1 β,_,nz av,x,rfl,rfl,hLe,hinv',?_,by rw[hav];exact hk⟩;exact hrx.nz.move (by rw[hav];exact hr) rfl hopen
theorem a0s{σ:Sg}{a:AV}{x:Value}(hr:Rel σ a x)(hok:ok1 (H9 0 (some 0) a)):Rel σ (H9 0 (some 0) a) x:=by
 cases a with
 |nil=>exact hr.K1
 |sl els tok=>
  cases tok with
  |no=>exact hr.K1
  |full=>exact hr.K1
  |own id=>
   simp only[H9];split
   ·rename_i hb;cases hb;exact hr
   ·exact hr.K1
 |ptr k off=>
  simp only[H9]at hok ⊢;split at hok
  ·rename_i hk;subst hk;rw[if_pos rfl];exact hr
  ·simp[ok1,plain]at hok
 |row k off size len cap=>
  simp only[H9]at hok ⊢;split at hok
  ·rename_i hk;subst hk;rw[if_pos rfl];exact hr
  ·simp[ok1,plain]at hok
 |ps k t=>
  simp only[H9]at hok ⊢;split at hok
  ·rename_i hk;subst hk;rw[if_pos rfl];exact hr
  ·simp[ok1,plain]at hok
 |bb k els u=>
  cases k with
  |own id=>
   simp only[H9]at hok ⊢;split at hok
   ·rename_i hb;rw[if_pos hb];cases hb;exact hr
   ·simp[ok1,plain]at hok
  |_=>exact hr
 |_=>exact hr
theorem b2e{h:A3}{σ:Sg}(hi:Inv h σ){k:Nat}{c0 c':b4c AV}(hk:h.A4[0]? =some (some c0))(hit:G4 c0)(hc:c0.map (H9 0 (some 0))=c')(hok:c'.all ok1)(hlow:D4 [true] k c'=true)(hgl:J3 h.A8):Inv ⟨[some c'],h.A6.take k,h.A8⟩ (σ.cut [true] k):=by
 have h1:=hi.reset hk (EI hit) (c':=c') λb hb=>by
  obtain⟨cs,rest,elem,g1,g2⟩:=hb.plain hit;refine .cells _ cs rest elem g1 ⟨by rw[g2.1,<-hc];simp,λi av hav=>?_⟩;have hok1:=List.all_eq_true.1 hok av (b36 hav);rw[<-hc]at hav;simp only[b31,b3t]at hav;obtain⟨a,ha,rfl⟩:=hav;obtain⟨k1,x,k2,k3⟩:=g2.2 i a ha;exact⟨by rw[ZF 0 _ a hok1];exact k1,x,k2,a0s k3 hok1⟩
 have hkeep:I0 [true] (h.A4.set 0 (some c'))=[some c']:=by
  cases hb:h.A4 with
  |nil=>rw[hb]at hk;cases hk
  |cons x l=>rfl
 have h2:=h1.cut [true] k (by rw[hkeep];simpa[Q5]using hlow) hgl;simp only[hkeep]at h2;exact h2
def QM(gl:b4c (Nat × b4c AV))(k:Nat)(rs:b4c K5)(r:AV)(c':b4c AV)(bf':b4c (Nat × Nat)):Exit->Env->A3->Prop
 |.normal,env,h=>Z0 env h rs (λl=>nz (U0 l)=r)/\plain r/\∃c0,h.A4[0]? =some (some c0)/\G4 c0/\c0.map (H9 0 (some 0))=c'/\c'.all ok1/\D4 [true] k c'=true/\h.A6.take k=bf'/\h.A8=gl
 |.ret,env,h=>Z0 env h rs (λl=>nz (U0 l)=r)/\plain r/\∃c0,h.A4[0]? =some (some c0)/\G4 c0/\c0.map (H9 0 (some 0))=c'/\c'.all ok1/\D4 [true] k c'=true/\h.A6.take k=bf'/\h.A8=gl
 |_,_,_=>False
theorem oT{env:Env}{h:A3}:∀{rs:b4c K5}{K K':b4c AV->Prop},(∀l,K l->K' l)->Z0 env h rs K->Z0 env h rs K':=by
 intro rs
 induction rs with
 |nil=>intro K K' hm hk;exact hm _ hk
 |cons x r ih=>
  intro K K' hm hk;cases x with
  |tmp t=>
   obtain⟨a,h1,h2⟩:=Fj hk;show wv (get env t) _;rw[h1];exact ih (λl=>hm _) h2
  |cell t n=>
   obtain⟨p,h1,h2⟩:=Fj hk;show wv (get env t) _;rw[h1];simp only[wv,DR]at h2 ⊢;split at h2
   ·split at h2
    ·split at h2
     ·exact ih (λl=>hm _) h2
     ·exact h2.elim
    ·exact⟨h2.1,ih (λl=>hm _) h2.2⟩
   ·exact h2.elim
theorem a8o{env:Env}{h:A3}{p:Prop}(hp:p){rs:b4c K5}{K:b4c AV->Prop}(hk:Z0 env h rs K):Z0 env h rs λl=>K l/\p:=oT (λl h=>⟨h,hp⟩) hk
theorem p6{P:Program}{gl:b4c (Nat × b4c AV)}{N:Nat}{f:FuncId}{ac:E8}{rs:b4c K5}(hf:T3 P f=some (N,ac,rs)){args c:b4c AV}{bf:b4c (Nat × Nat)}{r:AV}{c':b4c AV}{bf':b4c (Nat × Nat)}{e₀:Env}(k:Nat)(hk:bf.length=k)(hn:args.length<=N)(he:AC 0 args=e₀)(hbody:D P N 1 k ac (QM gl k rs r c' bf') e₀ ⟨[some c],bf,gl⟩)(hpg:J3 gl:=by rfl):De P gl f args c bf r c' bf':=by
 subst he hk;refine⟨Po hf,λσ cargs hi hr=>?_⟩;have hlow:Low σ 1 bf.length:=hi.low (Nat.le_refl _) (Nat.le_refl _)
 have hb:J4 P N ac (Gp rs λav h=>nz av=r/\plain r/\∃c0,h.A4[0]? =some (some c0)/\G4 c0/\c0.map (H9 0 (some 0))=c'/\c'.all ok1/\D4 [true] bf.length c'=true/\h.A6.take bf.length=bf'/\h.A8=gl) (AC 0 args) ⟨[some c],bf,gl⟩:=by
  refine Od (PJ (Nat.le_refl _) (Nat.le_refl _) hbody) λe env h hq=>?_
  cases e<;>first|exact hq.elim|exact a8o hq.2 hq.1
 refine(PB hf hn hb σ cargs hi hr).mono λe w' hq=>?_
 obtain⟨σ',h',av,x,rfl,rfl,g2,g3,g4,g5,g6,c0,g7,g8,g9,g10,g11,g12,g13⟩:=hq;refine⟨σ'.cut [true] bf.length,⟨[some c'],bf',gl⟩,nz av,x,rfl,rfl,g2.cut hlow (λk hk=>?_) (Nat.le_refl _),?_,?_,by rw[pB];exact g5,rfl⟩
 ·cases k with
  |zero=>rfl
  |succ k=>omega
 ·have:=b2e g3 (k:=bf.length) g7 g8 g9 g10 g11 (by rw[g13];exact hpg);rw[g12,g13]at this;exact this
 ·exact g4.nz.move (by rw[g5];exact g6) rfl λb o h=>cN h
theorem qs{gl:b4c (Nat × b4c AV)}{rs:b4c K5}{k:Nat}{R:Type}{f:R->AV}{fc:R->b4c AV}{fb:R->b4c (Nat × Nat)}{r r0:R}{env:Env}{h:A3}(hw:r=r0)(hp:plain (f r0)/\(fc r0).all ok1/\D4 [true] k (fc r0))(c0:b4c AV)(he:(Bb env h rs).map (λl=>nz (U0 l))=some (f r0):=by kernel_rfl)(hb:h.A4[0]? =some (some c0):=by kernel_rfl)(hit:G4 c0:=by kernel_rfl)(hc:c0.map (H9 0 (some 0))=fc r0:=by kernel_rfl)(hf:h.A6.take k=fb r0:=by kernel_rfl)(hg:h.A8=gl:=by kernel_rfl):QM gl k rs (f r) (fc r) (fb r) .ret env h:=by
 subst hw;obtain⟨l,h1,h2⟩:=Option.map_eq_some_iff.1 he;exact⟨FE h1 h2,hp.1,c0,hb,hit,hc,hp.2.1,hp.2.2,hf,hg⟩
theorem tg{gl:b4c (Nat × b4c AV)}{k:Nat}{rs:b4c K5}{r:AV}{c':b4c AV}{bf':b4c (Nat × Nat)}:DF λe h=>QM gl k rs r c' bf' .normal e h:=λe env h he hx=>⟨LO he hx.1,hx.2⟩
theorem mO{P:Program}{g:FuncId}{env:Env}{args:b4c B6}{h:A3}{small c c':b4c AV}{bf bf' bs:b4c (Nat × Nat)}{r:AV}(n:Nat)(β:b4d Nat)(args' cb cn:b4c AV)(hf:De P h.A8 g small c bf r c' bf')(hp:c.all ok1/\c'.all ok1/\small.all okA/\plain r)(hbf:(β=none/\bf=[]/\bf'=[]/\bs=h.A6)\/∃x x',β=some 0/\bf=[x]/\bf'=[x']/\h.A6=[x]/\bs=[x'])(ha:evs env args=some args':=by kernel_rfl)(hn:h.A4[n]? =some (some cb):=by kernel_rfl)(hit:G4 cb:=by kernel_rfl)(hit':G4 c'=true:=by kernel_rfl)(hc:cb.map (H9 n β)=c:=by kernel_rfl)(hargs:args'.map (Al n β)=small:=by kernel_rfl)(hcn:c'.map (AB n β)=cn:=by kernel_rfl)(hgl:J3 h.A8:=by kernel_rfl):
  F1 P (.call (.c (.clo (.func g) [] [])) args) env h r ⟨h.A4.set n (some cn),bs,h.A8⟩:=by
 subst hcn;exact λK hk=>(Jk rfl ha (ij hf hgl hn hit hc hp.1 hit' hp.2.1 hargs hp.2.2.1 hp.2.2.2 hbf hk)).out
theorem J2{a:AV}(h:plain a):okA a:=by
 have one:∀{a:AV},plain a->ok1 a:=by
  intro a h;cases a with
  |sl els tok=>cases tok with
   |own id=>simp[plain]at h
   |_=>exact h
  |ptr k off=>cases h
  |row k off size len cap=>cases h
  |ps k t=>cases h
  |bb k els u=>cases h
  |_=>exact h
 cases a with
 |agg cs=>
  simp only[plain]at h
  exact List.all_eq_true.2 λx hx=>by
   obtain⟨i,hi⟩:=List.mem_iff_getElem?.1 hx;exact one (Aw h i x hi)
 |sl els tok=>exact one h
 |ptr k off=>cases h
 |row k off size len cap=>cases h
 |v x=>exact one h
 |D3 c o=>exact one h
 |nil=>exact one h
 |tuple vs=>exact one h
 |iface t x=>exact one h
 |clo f a b=>exact one h
 |E6 n=>exact one h
 |it s p=>exact one h
 |mp n=>exact one h
 |ps k t=>cases h
 |bb k els u=>cases h
theorem I3{a:AV}{l:b4c AV}(h1:okA a)(h2:l.all okA):(a::l).all okA:=by simp only[List.all_cons,h1,h2];rfl
theorem b13{P:Program}{f:FuncId}{args:b4c AV}{h:A3}{K:AV->A3->Prop}{k j:Nat}{cells:b4c AV}(size:Nat)(hk:h.A4[k]? =some (some cells))(hj:cells[j]? =some .nil)(hc:W9 P f args ⟨h.A4.set k (some (cells.set j (.sl [] (.own h.A6.length)))),h.A6++[(0,size)],h.A8⟩ K):W9 P f args h K:=by
 refine⟨hc.1,λσ cargs hi hr=>?_⟩;obtain⟨σ1,w1,l1,s1⟩:=qR (env:=[]) (N:=0) size hk hj (a:={tmps:=#[],defers:=[]}) ⟨hi,λt av hg=>(by cases hg),rfl,rfl⟩;have:=hc.2 σ1 cargs s1.inv ⟨hr.1,λi av hi=>let ⟨x,g1,g2⟩:=hr.2 i av hi;⟨x,g1,g2.mono l1⟩⟩;rw[w1]at this;refine this.mono λe w' hq=>?_
 obtain⟨σ',h',av,x,g1,g2,g3,g4⟩:=hq;exact⟨σ',h',av,x,g1,g2,l1.trans g3,g4⟩
theorem yj{P:Program}{g:FuncId}{env:Env}{args:b4c B6}{h:A3}{small c c':b4c AV}{bf bf':b4c (Nat × Nat)}{x':Nat × Nat}{r:AV}(n j size:Nat)(args' cb cn:b4c AV)(hf:De P h.A8 g small c bf r c' bf')(hp:c.all ok1/\c'.all ok1/\small.all okA/\plain r)(hbf:bf=[(0,size)]/\bf'=[x'])(ha:evs env args=some args':=by kernel_rfl)(hn:h.A4[n]? =some (some cb):=by kernel_rfl)(hj:cb[j]? =some .nil:=by kernel_rfl)(hb:h.A6=[]:=by kernel_rfl)(hit:G4 (cb.set j (.sl [] (.own 0))):=by kernel_rfl)(hit':G4 c'=true:=by kernel_rfl)(hc:(cb.set j (.sl [] (.own 0))).map (H9 n (some 0))=c:=by kernel_rfl)(hargs:args'.map (Al n (some 0))=small:=by kernel_rfl)(hcn:c'.map (AB n (some 0))=cn:=by kernel_rfl)(hgl:J3 h.A8:=by kernel_rfl):
  F1 P (.call (.c (.clo (.func g) [] [])) args) env h r ⟨h.A4.set n (some cn),[x'],h.A8⟩:=by
 subst hcn;have hnl:n<h.A4.length:=(List.getElem?_eq_some_iff.1 hn).1;intro K hk;refine(Jk rfl ha (b13 size hn hj ?_)).out;have:=ij (h:=⟨h.A4.set n (some (cb.set j (.sl [] (.own 0)))),[(0,size)],h.A8⟩) (n:=n) (β:=some 0) (bs:=[x']) (K:=K) hf hgl (List.getElem?_set_self hnl) hit hc hp.1 hit' hp.2.1 hargs hp.2.2.1 hp.2.2.2 (.inr ⟨_,_,rfl,hbf.1,hbf.2,rfl,rfl⟩) (by rw[List.set_set];exact hk);rw[hb];exact this
section
variable {P:Program}{h h':A3}{env e:Env}{N kf:Nat}{Q:Exit->Env->A3->Prop}{x:E8}
theorem nd{m:b4c b4e}(hm:m.getD 0 false):∀k,k<1->m.getD k false:=λk hk=>by
 cases k with
 |zero=>exact hm
 |succ k=>omega
end
theorem vO{a b:b4c AV}:B7 (a++b)=(B7 a&&B7 b):=by
 induction a with
 |nil=>rfl
 |cons x r ih=>simp only[List.cons_append,B7,ih,Bool.and_assoc]
def cellsOf{α:Type}(e:α->b4c AV)(l:b4c α):b4c AV:=(l.map e).flatten
section
variable {α:Type}{e:α->b4c AV}{sz:Nat}
theorem VU(hs:∀y,(e y).length=sz){l:b4c α}:∀r∈l.map e,r.length=sz:=by
 intro r hr;obtain⟨y,_,rfl⟩:=List.mem_map.1 hr;exact hs y
theorem a1u(hs:∀y,(e y).length=sz){l:b4c α}{i k:Nat}{y:α}(hy:l[i]? =some y)(hk:k<sz):(cellsOf e l)[i*sz+k]? =(e y)[k]? :=by
 rw[cellsOf,Gf _ (VU hs) i k hk,b31,hy];rfl
theorem Yt(hs:∀y,(e y).length=sz):∀(l:b4c α),(cellsOf e l).length=l.length*sz
 |[]=>by simp[cellsOf]
 |y::l=>by
  have:=Yt hs l;simp only[cellsOf,List.map_cons,List.flatten_cons,b39,List.length_cons,Nat.add_mul]at this ⊢;rw[hs,this];omega
theorem GZ(hn:∀y,G4 (e y)):∀{l:b4c α},l≠[]->G4 (cellsOf e l)=true
 |[],h=>(h rfl).elim
 |y::l,_=>by
  have:=hn y;cases hy:e y with
  |nil=>rw[hy]at this;cases this
  |cons a r=>rw[hy]at this;simp only[cellsOf,List.map_cons,List.flatten_cons,hy,List.cons_append,G4]at this ⊢;exact this
theorem N6(e:α->b4c AV){l:b4c α}(h:F9 (l.map e)):B7 (cellsOf e l):=by
 unfold cellsOf;revert h;generalize l.map e=x;intro h
 induction x with
 |nil=>rfl
 |cons a r ih=>simp only[F9,b3x]at h;rw[List.flatten_cons,vO,h.1,ih h.2];rfl
theorem nc{l:b4c α}{i:Nat}{y:α}(hy:l[i]? =some y):l≠[]:=by rintro rfl;simp at hy
theorem iH(hs:∀y,(e y).length=sz):∀{l:b4c α}{i:Nat}{y:α},l[i]? =some y->((cellsOf e l).drop (i*sz)).take sz=e y
 |[],i,y,h=>by simp at h
 |z::l,0,y,h=>by
  simp at h;subst h;simp only[cellsOf,List.map_cons,List.flatten_cons,Nat.zero_mul,List.drop_zero];rw[List.take_append_of_le_length (by rw[hs];exact Nat.le_refl _),List.take_of_length_le (by rw[hs];exact Nat.le_refl _)]
 |z::l,i+1,y,h=>by
  have:=iH hs (l:=l) (i:=i) (y:=y) (by simpa using h);simp only[cellsOf,List.map_cons,List.flatten_cons]at this ⊢
  have h2:(e z++(List.map e l).flatten).drop ((i+1)*sz)=((List.map e l).flatten).drop (i*sz):=by
   have h3:=hs z;rw[List.drop_append,h3,List.drop_of_length_le (by rw[h3,Nat.add_mul];omega),List.nil_append]
   congr 1
   rw[Nat.add_mul];omega
  rw[h2];exact this
theorem lg(hs:∀y,(e y).length=sz):∀{l:b4c α}{i:Nat}{z:α},i<l.length->splice (cellsOf e l) (i*sz) (e z)=cellsOf e (l.set i z)
 |[],i,z,h=>by simp at h
 |y::l,0,z,h=>by
  simp only[splice,cellsOf,List.map_cons,List.flatten_cons,Nat.zero_mul,List.take_zero,List.nil_append,Nat.zero_add,List.set_cons_zero];rw[hs,List.drop_append_of_le_length (by rw[hs];exact Nat.le_refl _),List.drop_of_length_le (by rw[hs];exact Nat.le_refl _),List.nil_append]
 |y::l,i+1,z,h=>by
  have:=lg hs (l:=l) (i:=i) (z:=z) (by simpa using h);simp only[splice,cellsOf,List.map_cons,List.flatten_cons,List.set_cons_succ]at this ⊢;rw[<-this,Nat.add_mul,Nat.one_mul,Nat.add_comm (i*sz) sz]
  have h1:(e y++(List.map e l).flatten).take (sz+i*sz)=e y++((List.map e l).flatten).take (i*sz):=by
   have:=hs y;rw[List.take_append,this,List.take_of_length_le (by omega)];congr 2;omega
  have h2:(e y++(List.map e l).flatten).drop (sz+i*sz+(e z).length)=((List.map e l).flatten).drop (i*sz+(e z).length):=by
   have:=hs y;rw[List.drop_append,this,List.drop_of_length_le (by omega),List.nil_append];congr 1;omega
  rw[h1,h2];simp[List.append_assoc]
theorem a57(z:α)(hs:(e z).length=sz)(n:Nat):Be sz n (e z)=cellsOf e (List.replicate n z):=by
 have hl:(Be sz n (e z)).length=n*sz:=by simp[Be]
 have hl2:(cellsOf e (List.replicate n z)).length=n*sz:=by
  simp only[cellsOf,List.map_replicate,List.length_flatten,List.map_replicate,List.sum_replicate_nat,hs]
 refine List.ext_getElem? λi=>?_
 rcases Nat.lt_or_ge i (n*sz) with hi|hi
 ·have h0:0<sz:=by
   rcases Nat.eq_zero_or_pos sz with h|h
   ·subst h;simp at hi
   ·exact h
  have hm:i % sz<sz:=Nat.mod_lt _ h0;have hd:i / sz<n:=(Nat.div_lt_iff_lt_mul h0).2 hi
  have e1:(Be sz n (e z))[i]? =some ((e z).getD (i % sz) .nil):=by
   simp[Be,List.getElem?_range,hi]
  have e2:(cellsOf e (List.replicate n z))[i]? =(e z)[i % sz]? :=by
   have hh:=Gf (List.map e (List.replicate n z)) (size:=sz) (by
    intro r hr;simp only[List.map_replicate,List.mem_replicate]at hr;rw[hr.2,hs]) (i / sz) (i % sz) hm
   rw[Nat.mul_comm,Nat.div_add_mod]at hh;rw[cellsOf,hh];simp[List.getElem?_replicate,hd]
  rw[e1,e2,List.getD_eq_getElem?_getD];rw[b3y (by rw[hs];exact hm)];rfl
 ·rw[List.getElem?_eq_none (by omega),List.getElem?_eq_none (by omega)]
end
section
variable {P:Program}{h h':A3}{env:Env}{α:Type}{e:α->b4c AV}{sz:Nat}
theorem vB{x y:B6}{bytes:Nat}{zero:b4c AV}(e:α->b4c AV)(z:α)(L C:Int)(h0:0<=L/\L<=C/\C*bytes<=140737488355328)(hx:BN (x.ev env)=some L:=by kernel_rfl)(hy:BN (y.ev env)=some C:=by kernel_rfl)(hz:zero=e z:=by kernel_rfl)(hs:(e z).length=sz:=by kernel_rfl):F1 P (.make sz bytes zero x y) env h (.row h.A4.length 0 sz L.toNat C.toNat) ⟨h.A4++[some (cellsOf e (List.replicate C.toNat z))],h.A6,h.A8⟩:=by
 obtain⟨k1,hx⟩:=JU hx;obtain⟨k2,hy⟩:=JU hy;subst hz;intro K hk;simp only[E0,hx,hy,wv,Mr];rw[a57 z hs];exact .inl ⟨h0,hk⟩
theorem yF{x y:B6}{bytes:Nat}{zero:b4c AV}(C:Int)(h0:0<=C/\C*bytes<=140737488355328)(hx:BN (x.ev env)=some 0:=by kernel_rfl)(hy:BN (y.ev env)=some C:=by kernel_rfl):F1 P (.make 1 bytes zero x y) env h (.sl [] (.own h.A6.length)) ⟨h.A4,h.A6++[(0,1)],h.A8⟩:=by
 obtain⟨k1,hx⟩:=JU hx;obtain⟨k2,hy⟩:=JU hy;intro K hk;simp only[E0,hx,hy,wv];exact .inr ⟨⟨rfl,h0.1,h0.2,rfl⟩,hk⟩
theorem o0{x i:B6}(r len cap:Nat){n:Int}(h0:0<=n/\n<(len:Int))(hx:x.ev env=some (.row r 0 sz len cap):=by kernel_rfl)(hi:BN (i.ev env)=some n:=by kernel_rfl):F1 P (.Bn sz x i) env h (.ptr r (0+n.toNat*sz)) h:=by
 obtain⟨k,hi⟩:=JU hi;intro K hk;simp only[E0,hx,hi,wv,Ky];exact⟨h0,trivial,hk⟩
theorem nu{r off:Nat}{l:b4c α}(hn:∀y,G4 (e y))(hb:h.A4[r]? =some (some (cellsOf e l)))(hl:l≠[]):S3 h (.ptr r off)=some (cellsOf e l,off):=by
 simp only[S3,hb,GZ hn hl,if_true]
theorem xk{x:B6}{r off i k:Nat}{l:b4c α}{y:α}{av:AV}(hs:∀y,(e y).length=sz)(hn:∀y,G4 (e y))(hy:l[i]? =some y)(hk:k<sz)(hav:(e y)[k]? =some av)(hoff:off=i*sz+k)(hx:x.ev env=some (.ptr r off):=by kernel_rfl)(hb:h.A4[r]? =some (some (cellsOf e l)):=by kernel_rfl):F1 P (.load none x) env h av h:=by
 intro K hK;simp only[E0,hx,wv,DR,nu hn hb (nc hy)];rw[hoff,a1u hs hy hk,hav];exact hK
theorem b0m{x:B6}{r off i:Nat}{l:b4c α}{y:α}{cs:b4c AV}(hs:∀y,(e y).length=sz)(hn:∀y,G4 (e y))(hy:l[i]? =some y)(hcs:e y=cs)(hoff:off=i*sz)(hx:x.ev env=some (.ptr r off):=by kernel_rfl)(hb:h.A4[r]? =some (some (cellsOf e l)):=by kernel_rfl):F1 P (.load (some sz) x) env h (.agg cs) h:=by
 intro K hK;subst hcs;simp only[E0,hx,wv,DR,nu hn hb (nc hy)];rw[hoff,iH hs hy];refine⟨?_,hK⟩;rw[Yt hs,<-Nat.succ_mul];exact Nat.mul_le_mul_right sz (List.getElem?_eq_some_iff.1 hy).1
theorem b01{p x:B6}{r off i:Nat}{l:b4c α}{av:AV}(z:α)(hs:∀y,(e y).length=sz)(hn:∀y,G4 (e y))(hi:i<l.length)(hav:e z=av.cells)(hoff:off=i*sz)(hp:p.ev env=some (.ptr r off):=by kernel_rfl)(hx:x.ev env=some av:=by kernel_rfl)(ht:av.isTuple=false:=by kernel_rfl)(hb:h.A4[r]? =some (some (cellsOf e l)):=by kernel_rfl):F1 P (.store sz p x) env h (.tuple []) ⟨h.A4.set r (some (cellsOf e (l.set i z))),h.A6,h.A8⟩:=by
 intro K hK;have hne:l≠[]:=by rintro rfl;simp at hi
 simp only[E0,hp,hx,wv,LW,hb,GZ hn hne];rw[<-lg hs hi,hav,<-hoff]at hK;refine .inl ⟨⟨trivial,by rw[<-hav];exact hs z,?_,ht⟩,hK⟩;rw[hoff,Yt hs,<-Nat.succ_mul];exact Nat.mul_le_mul_right sz hi
end
section
variable {P:Program}{h:A3}{env:Env}{K:Env->A3->Prop}{L:b4c B9}{k:Nat}
end
def Ck(n:Nat)(els:b4c (b4c AV)):AV->AV
 |.row k off size len cap=>if k=n then .sl els .no else .row k off size len cap
 |a=>a
def Gu(n:Nat)(els:b4c (b4c AV)):Env->Env
 |[]=>[]
 |(t,a)::e=>(t,Ck n els a)::Gu n els e
theorem ba{n:Nat}{els:b4c (b4c AV)}:∀{e:Env}{t:Nat}{b:AV},get (Gu n els e) t=some b->∃a,get e t=some a/\b=Ck n els a
 |[],_,_,h=>by cases h
 |(u,a)::e,t,b,h=>by
  simp only[Gu,get]at h ⊢;split at h
  ·rename_i hu;rw[if_pos hu];cases h;exact⟨a,rfl,rfl⟩
  ·rename_i hu;rw[if_neg hu];exact ba h
def Dv(n:Nat):Env->b4c (Nat × Nat × Nat)
 |[]=>[]
 |(_,.row k off size len _)::e=>if k=n then(off,size,len)::Dv n e else Dv n e
 |_::e=>Dv n e
theorem Yw{n:Nat}:∀{e:Env}{t off size len cap:Nat},get e t=some (.row n off size len cap)->(off,size,len)∈Dv n e
 |[],_,_,_,_,_,h=>by cases h
 |(u,a)::e,t,off,size,len,cap,h=>by
  simp only[get]at h;split at h
  ·cases h;simp[Dv]
  ·have:=Yw h;unfold Dv;split
   ·rename_i heq;cases heq
   ·rename_i heq;cases heq;split
    ·exact List.mem_cons_of_mem _ this
    ·exact this
   ·rename_i heq;cases heq;exact this
theorem a5e{P:Program}{h:A3}{env:Env}{N kb kf:Nat}{Q:Exit->Env->A3->Prop}{x:E8}(n:Nat)(m:b4c b4e)(k:Nat)(cells:b4c AV)(els:b4c (b4c AV))(sz len c:Nat)(hb:h.A4[n]? =some (some cells))(hce:els.flatten=cells)(hsz:∀el∈els,el.length=sz)(hlen:els.length=len)(hpos:0<sz)(hit:els≠[]->G4 cells)(hrow:Dv n env=List.replicate c (0,sz,len))(hmn:m.getD n false=false)(hal:CX m h.A4)(hm:∀k,k<kb->m.getD k false)(hn:kf<=k){e:Env}(hE:Gu n els env=e)(he:X3 m k e)(hB:Q5 m k (I0 m h.A4))(hg:J3 h.A8)(hx:D P N kb kf x Q e ⟨I0 m h.A4,h.A6.take k,h.A8⟩):D P N kb kf x Q env h:=⟨by
 subst hE;intro co hc σ0 σ a hs hle hl;refine hx.out co hc σ0 (σ.cut m k) a ⟨hs.inv.cut m k hB hg,λt av ht=>?_,hs.size,hs.defers⟩ (hle.cut hl hm hn) hl;have hlow:=NM he ht;obtain⟨a0,h1,rfl⟩:=ba ht;obtain⟨y,h2,h3⟩:=hs.env t a0 h1;refine⟨y,h2,?_⟩;cases a0 with
 |row j off size len' cap=>
  simp only[Ck]at hlow ⊢;split at hlow
  ·rename_i hj;subst hj;rw[if_pos rfl];have hrr:=Yw h1;rw[hrow]at hrr;obtain⟨rfl,rfl,rfl⟩:off=0/\size=sz/\len'=len:=by simpa using (List.mem_replicate.1 hrr).2
   cases h3 with
   |row _ _ _ _ _ b cap' hblk hcap _ _=>
   obtain⟨b',h4,h5⟩:=hs.inv.blk j cells hb;rw[hblk]at h4;cases h4;subst hlen;rcases Classical.em (els=[]) with h0|h0
   ·subst h0;exact .I5 _ ⟨b,0,none⟩ cap' trivial (.inl rfl)
   have hni:=hit h0;obtain⟨cs,rest,elem,h6,h7⟩:=h5.plain hni;have hlc:H7 m k els:=by simpa[low]using hlow
   have key:∀(i:Nat) (el:b4c AV),els[i]? =some el->∀(q:Nat) (av:AV),el[q]? =some av->∃xv,σ.w.cell? ⟨b,0+i*size+q,none⟩=some xv/\Rel σ av xv/\av.isCell=true:=by
    intro i el hi q av hq;have hql:q<size:=by rw[<-hsz el (b36 hi)];exact(List.getElem?_eq_some_iff.1 hq).1
    have hf:=Gf els hsz i q hql;rw[hi,Option.bind_some,hq,hce]at hf;obtain⟨q1,xv,q2,q3⟩:=h7.2 _ av hf;refine⟨xv,?_,q3,q1⟩;have hlt:=(List.getElem?_eq_some_iff.1 q2).1;rw[Nat.zero_add];simp[World.cell?,h6,b3z hlt,q2]
   have hne:cells≠[]:=EI hni;refine Rel.sl (σ:=σ.cut m k) els .no b 0 cap' size (λi q=>(σ.w.cell? ⟨b,0+i*size+q,none⟩).getD undef) (λi el hi=>hsz el (b36 hi)) hcap trivial (λid e hid=>by cases hid) (λi el hi q av hq=>?_) λi el hi q av hq=>?_
   ·obtain⟨xv,q1,q2,q3⟩:=key i el hi q av hq;refine⟨by show σ.w.cell? _=_;rw[q1];rfl,?_,q3⟩;rintro (ho|⟨j',hj'⟩|⟨id,eb,he1,he2⟩)
    ·exact(hs.inv.outer _ _ ho).2 (.inl ⟨j,hblk⟩)
    ·simp only[Sg.cut]at hj';split at hj'
     ·rename_i hmj;obtain⟨c',hc'⟩:=hs.inv.dom j' b hj';have:=hs.inv.inj j' j b c' cells hc' hb (Vb hal hmj hc') hne hj' hblk;subst this;rw[hmn]at hmj;cases hmj
     ·cases hj'
    ·simp only[Sg.cut]at he1;split at he1
     ·exact hs.inv.G9 id eb j b _ he1 he2 hblk
     ·cases he1
   ·obtain⟨xv,q1,q2,q3⟩:=key i el hi q av hq;rw[q1];exact q2.cut (Cp (Us hlc i el hi) q av hq)
  ·rename_i hj;rw[if_neg hj];exact h3.cut hlow
 |_=>exact h3.cut hlow⟩
theorem drf{P:Program}{h:A3}{env:Env}{N kb kf:Nat}{Q:Exit->Env->A3->Prop}{x:E8}{α:Type}{f:α->b4c AV}{sz:Nat}(n:Nat)(m:b4c b4e)(k c:Nat)(l:b4c α)(len:Nat)(e:Env)(bs:b4c (b4d (b4c AV)))(hs:∀y,(f y).length=sz)(hni:∀y,G4 (f y))(hlen:l.length=len)(hw:X3 m k e/\Q5 m k bs)(hx:D P N kb kf x Q e ⟨bs,h.A6.take k,h.A8⟩)(hb:h.A4[n]? =some (some (cellsOf f l)):=by kernel_rfl)(hpos:Nat.ble 1 sz:=by kernel_rfl)(hrow:Dv n env=List.replicate c (0,sz,len):=by kernel_rfl)(hmn:m.getD n false=false:=by kernel_rfl)(hal:CX m h.A4:=by kernel_rfl)(hm:∀k,k<kb->m.getD k false:=by intro k hk;first|exact absurd hk (Nat.not_lt_zero _)|exact nd rfl k hk)(hkf:Nat.ble kf k:=by kernel_rfl)(hE:Gu n (List.map f l) env=e:=by kernel_rfl)(hbs:I0 m h.A4=bs:=by kernel_rfl)(hg:J3 h.A8:=by kernel_rfl):D P N kb kf x Q env h:=by
 subst hbs;exact a5e n m k _ (List.map f l) sz len c hb rfl (VU hs) (by rw[List.length_map];exact hlen) (b37 hpos) (λh0=>GZ hni (λh=>h0 (by rw[h];rfl))) hrow hmn hal hm (b37 hkf) hE hw.1 hw.2 hg hx
def Pv(ord:b4c (b4c Nat))(al:b4c B9)(n:Nat):b4e:=
 (List.range n).all λi=>match al[i]? with
  |some o=>AG o.op&& !Dl o&&(FH o.op||(ord.getD n []).contains i)
  |none=>false
theorem mt{ord:b4c (b4c Nat)}{al:b4c B9}{n i:Nat}{o:B9}(h:Pv ord al n)(hi:i<n)(ho:al[i]? =some o):AG o.op/\Dl o=false/\(FH o.op=true\/i∈ord.getD n []):=by
 simp only[Pv,b34,List.mem_range]at h;have:=h i hi;rw[ho]at this;simpa[b3x,Bool.or_eq_true,and_assoc]using this
theorem yr{a b:b4c B9}(h:BB (a++b)):BB a:=by
 induction a with
 |nil=>rfl
 |cons o a ih=>
  simp only[List.cons_append,BB,b3x,b34]at h ⊢
  have sub:∀t,H0 t (o::a)->H0 t (o::(a++b)):=by
   intro t ht;simp only[H0,List.any_cons,List.any_append,Bool.or_eq_true]at ht ⊢;rcases ht with h1|h1
   ·exact .inl h1
   ·exact .inr (.inl h1)
  have sub2:∀t,H0 t a->H0 t (a++b):=by
   intro t ht;simp only[H0,List.any_append,Bool.or_eq_true]at ht ⊢;exact .inl ht
  refine⟨⟨λt ht=>?_,?_⟩,ih h.2⟩
  ·have:=h.1.1 t ht;cases hw:H0 t (o::a) with
   |true=>rw[sub t hw]at this;exact this
   |false=>rfl
  ·cases hd:o.dst with
   |none=>rfl
   |some d=>
    have h2:=h.1.2;rw[hd]at h2;simp only at h2 ⊢;cases hw:H0 d a with
    |true=>rw[sub2 d hw]at h2;exact h2
    |false=>rfl
theorem mf(h:A3)(lst:Nat->b4e):hA h [] lst=h:=by simp[hA]
theorem tT{P:Program}{I:A3->Prop}{ord:b4c (b4c Nat)}{al:b4c B9}{w:B9}{n:Nat}{env:Env}{h:A3}{K:Env->A3->Prop}(hn:al.length=n+1)(hw:al[n]? =some w)(hg:w.guard=none)(hd:w.dst=none)(hok:BB al)(hst:Pv ord al n)(hI:I h)(hv:vs P I false (al.take n) env h λF h0=>∃av h',F1 P w.op F h0 av h'/\K F h'):∃F h' fl,Nq P ord al env F h h' [] [h,h'] fl/\K F h':=by
 have hal:al=al.take n++[w]:=by
  have h1:=List.take_append_drop n al
  have h2:al.drop n=[w]:=by
   have:n<al.length:=by omega
   rw[b32 this];have h3:=b3y this;rw[hw]at h3;cases h3;rw[b33 (by omega)]
  rw[h2]at h1;exact h1.symm
 have hlen:(al.take n).length=n:=by simp;omega
 obtain⟨F,az,hs,fl,h0,ps,⟨av,h',hdoes,hk⟩,hnil⟩:=MY (i0:=0) (j:=0) (yr (b:=[w]) (by rw[<-hal];exact hok)) hv;have has:az=[]:=hnil rfl;subst has;have hget:∀i,i<n->∃o,al[i]? =some o/\(al.take n)[i]? =some o:=λi hi=>⟨al[i],b3y (by omega),by rw[List.getElem?_take,if_pos hi];exact b3y (by omega)⟩
 have hflen:fl.length=n:=by rw[ps.len,hlen]
 have hnone:∀i,i<n->fl[i]? =some none:=by
  intro i hi;have e:fl[i]? =some fl[i]:=b3y (by omega);cases hf:fl[i]with
  |none=>rw[e,hf]
  |some m=>
   rw[hf]at e;obtain⟨o,h1,h2⟩:=hget i hi;have h3:=(ps.EB i m o e h2).1;have h4:=(mt hst hi h1).1;rw[h3]at h4;cases h4
 obtain⟨m,hm1,hm2⟩:=ps.last
 have hone:m=0:=by
  rcases Nat.eq_zero_or_pos m with h1|h1
  ·exact h1
  ·obtain⟨i,hi⟩:=ps.onto 0 (Nat.zero_le _) (by omega);have hlt:i<n:=by rw[<-hflen];exact(List.getElem?_eq_some_iff.1 hi).1
   rw[hnone i hlt]at hi;cases hi
 subst hone;have hf0:=ps.first;rw[hm2]at hf0
 have h00:h0=h:=by
  have:=Option.some.inj hf0;rw[this];simp
 subst h00;refine⟨F,h',fl++[some 0],?_,hk⟩
 have hfl:∀i x,(fl++[some 0])[i]? =some x->(i<n/\x=none)\/(i=n/\x=some 0):=by
  intro i x hx;rcases Nat.lt_trichotomy i n with h1|h1|h1
  ·rw[b3z (by omega),hnone i h1]at hx;cases hx;exact .inl ⟨h1,rfl⟩
  ·subst h1;rw[b30 (by omega),hflen,Nat.sub_self]at hx;cases hx;exact .inr ⟨rfl,rfl⟩
  ·rw[List.getElem?_eq_none (by simp;omega)]at hx;cases hx
 have hlast:(fl++[some 0])[n]? =some (some 0):=by rw[b30 (by omega),hflen,Nat.sub_self];rfl
 refine⟨by simp[hflen,hn],λi k a b hik hi hk=>?_,λj hj=>?_,?_,⟨1,rfl,rfl⟩,λi x hi=>?_,λt ht=>?_,λq p hq=>(by simp at hq),λq r p s hq=>(by simp at hq),λk x hk p hp=>(by cases hp),λi o x hi hx=>?_⟩
 ·rcases hfl i _ hi with⟨_,h1⟩|⟨h1,_⟩
  ·cases h1
  ·rcases hfl k _ hk with⟨_,h2⟩|⟨h2,_⟩
   ·cases h2
   ·omega
 ·obtain rfl:j=0:=by
   have:j+1<2:=hj;omega
  exact⟨n,hlast⟩
 ·rw[mf];rfl
 ·rcases hfl i _ hi with⟨_,h1⟩|⟨_,h1⟩
  ·cases h1
  ·cases h1;simp
 ·refine ps.keep t ?_;rw[hal]at ht;simp only[H0,List.any_append,Bool.or_eq_false_iff]at ht ⊢;exact ht.1
 ·right;rcases hfl i _ hx with⟨h1,rfl⟩|⟨rfl,rfl⟩
  ·obtain⟨o',e1,e2⟩:=hget i h1;rw[hi]at e1;cases e1;obtain⟨hq,hnew,hp⟩:=mt hst h1 hi;rcases ps.fact i o none e2 (hnone i h1) with⟨q,p,e3,_⟩|hf
   ·simp at e3
   have conv:Pa P I F hs 0 o none->NX P F h0 [] [h0,h'] ord (fl++[some 0]) i o none:=by
    rintro⟨a,hqa,hfd⟩;rcases hp with hp|hp
    ·exact⟨a,0,1,by simp,λj lst hj _ _ _=>cI hp (hqa h0 hI),λk x _ hx=>by omega,.inl (by simp),hfd⟩
    ·refine⟨a,0,0,by simp,λj lst hj h3 h4 h5=>?_,λk x _ hx=>by omega,.inr ⟨n,hlast,hp⟩,hfd⟩;have:j=0:=by omega
     subst this;have h6:hA h0 [] lst=hj:=Option.some.inj h5;rw[mf]at h6;rw[<-h6];exact hqa h0 hI
   unfold NW;unfold Nx at hf;cases hgd:o.guard with
   |none=>rw[hgd]at hf;exact conv hf
   |some g=>
    obtain⟨t,want⟩:=g;rw[hgd]at hf;rcases hf with⟨b,k1,k2,k3⟩|hf
    ·exact .inl ⟨b,k1,λhb=>conv (k2 hb),k3⟩
    ·exact .inr hf
  ·rw[hw]at hi;cases hi;unfold NW;rw[hg];simp only;exact⟨av,h0,h',rfl,rfl,hdoes _ ⟨rfl,rfl⟩,λd hd'=>by rw[hd]at hd';cases hd'⟩
theorem dL{P:Program}{N kb kf:Nat}{Q:Exit->Env->A3->Prop}{env:Env}{h:A3}(n:Nat)(S:b4c (Nat × b4c AV)){ord:b4c (b4c Nat)}{al tl:b4c B9}{w:B9}(hw:al[n]? =some w)(hv:Sp P S h.A8 false (al.take n) 0 env h λF h0=>∃av h',F1 P w.op F h0 av h'/\Vp P tl 0 F h' λenv' h''=>Q .normal env' h'')(hn:al.length=n+1:=by kernel_rfl)(hg:w.guard=none:=by kernel_rfl)(hd:w.dst=none:=by kernel_rfl)(hok:BB al:=by kernel_rfl)(hst:Pv (clo ord) al n:=by kernel_rfl)(hS:Ew S h=S.map (λp=>some (some p.2)):=by kernel_rfl):D P N kb kf (.drawn ord al tl) Q env h:=by
 obtain⟨F,h',fl,hn',hk⟩:=tT (I:=Ey S h.A8) (K:=λF h'=>vd P tl F h' λenv' h''=>Q .normal env' h'') hn hw hg hd hok hst (aL hS rfl) hv;exact Ii ⟨ir hn' (MO hk)⟩
structure O2{α:Type}(e:α->List AV)(sz:Nat):Prop where
 hs:∀y,(e y).length=sz
 hn:∀y,G4 (e y)=true
 hp:∀y,B7 (e y)=true
 hz:∀y,(e y).map K1=e y
section
variable {α:Type}{e:α->b4c AV}{sz:Nat}
theorem iI:∀{l:b4c AV},B7 l->∀a∈l,plain a=true
 |[],_,a,h=>by cases h
 |b::l,hp,a,h=>by
  simp only[B7,b3x]at hp;rcases List.mem_cons.1 h with h|h
  ·rw[h];exact hp.1
  ·exact iI hp.2 a h
theorem rU{n:Nat}{β:b4d Nat}{a:AV}(hp:plain a)(hz:K1 a=a):H9 n β a=a:=by
 cases a with
 |nil=>simp[K1]at hz
 |sl els tok=>cases tok<;>simp_all [K1,H9]
 |ptr _ _=>simp[plain]at hp
 |row _ _ _ _ _=>simp[plain]at hp
 |ps _ _=>simp[plain]at hp
 |bb _ _ _=>simp[plain]at hp
 |_=>rfl
theorem j5{n:Nat}{β:b4d Nat}{a:AV}(hp:plain a):AB n β a=a:=by
 cases a with
 |sl els tok=>cases tok<;>first|rfl|simp_all [plain]
 |ptr _ _=>simp[plain]at hp
 |row _ _ _ _ _=>simp[plain]at hp
 |ps _ _=>simp[plain]at hp
 |bb _ _ _=>simp[plain]at hp
 |_=>rfl
theorem uB{a:AV}(hp:plain a):ok1 a:=by
 cases a with
 |sl els tok=>cases tok<;>first|exact hp|simp_all [plain,ok1]
 |ptr _ _=>simp[plain]at hp
 |row _ _ _ _ _=>simp[plain]at hp
 |ps _ _=>simp[plain]at hp
 |bb _ _ _=>simp[plain]at hp
 |_=>exact hp
theorem O2.mem(he:O2 e sz){l:b4c α}{a:AV}(h:a∈cellsOf e l):plain a/\K1 a=a:=by
 unfold cellsOf at h;obtain⟨c,hc,ha⟩:=List.mem_flatten.1 h;obtain⟨y,_,rfl⟩:=List.mem_map.1 hc;refine⟨iI (he.hp y) a ha,?_⟩;obtain⟨i,hi⟩:=List.mem_iff_getElem?.1 ha;have:=congrArg (λl=>l[i]?) (he.hz y);simpa[b31,hi]using this
theorem gE{f:AV->AV}{l:b4c AV}(h:∀a∈l,f a=a):l.map f=l:=by
 induction l with
 |nil=>rfl
 |cons a l ih=>rw[List.map_cons,h a List.mem_cons_self,ih λb hb=>h b (List.mem_cons_of_mem _ hb)]
theorem O2.Al(he:O2 e sz)(n:Nat)(β:b4d Nat)(l:b4c α):(cellsOf e l).map (H9 n β)=cellsOf e l:=gE λa ha=>rU (he.mem ha).1 (he.mem ha).2
theorem O2.big(he:O2 e sz)(n:Nat)(β:b4d Nat)(l:b4c α):(cellsOf e l).map (AB n β)=cellsOf e l:=gE λa ha=>j5 (he.mem ha).1
theorem O2.ok(he:O2 e sz)(l:b4c α):(cellsOf e l).all ok1:=List.all_eq_true.2 λa ha=>uB (he.mem ha).1
theorem yp(m:b4c b4e)(n:Nat):∀{l:b4c AV},B7 l->D4 m n l:=λh=>F7 m n _ h
theorem b1f{l:b4c AV}(h:∀a∈l,plain a):B7 l:=by
 induction l with
 |nil=>rfl
 |cons a l ih=>simp only[B7,b3x];exact⟨h a List.mem_cons_self,ih λb hb=>h b (List.mem_cons_of_mem _ hb)⟩
theorem O2.plain(he:O2 e sz)(l:b4c α):B7 (cellsOf e l):=b1f λa ha=>(he.mem ha).1
def Bi(P:Program)(e:α->b4c AV)(sz:Nat)(f:FuncId)(len:Nat)(args:b4c AV)(l r:b4c α):Prop:=De P [] f (.row 0 0 sz len len::args) (cellsOf e l) [] (.tuple []) (cellsOf e r) []
theorem a5m{l r:b4c α}{env:Env}{h:A3}(he:O2 e sz)(hw:l≠[]/\r=l)(hb:h.A4[0]? =some (some (cellsOf e l)):=by kernel_rfl)(hf:h.A6.take 0=[]:=by kernel_rfl)(hg:h.A8=[]:=by kernel_rfl):QM [] 0 [] (.tuple []) (cellsOf e r) [] .ret env h:=by
 obtain⟨h1,rfl⟩:=hw;exact qs (f:=λ_=>.tuple []) (fc:=λr=>cellsOf e r) (fb:=λ_=>[]) (r:=r) rfl ⟨rfl,he.ok r,yp _ _ (he.plain r)⟩ (cellsOf e r) rfl hb (GZ he.hn h1) (he.Al _ _ _) hf hg
theorem a0q{P:Program}{g:FuncId}{env:Env}{args:b4c B6}{h:A3}{len:Nat}{small:b4c AV}{l r:b4c α}(n:Nat)(args':b4c AV)(he:O2 e sz)(hf:Bi P e sz g len small l r)(h0:l≠[]/\r≠[])(hok:small.all okA)(ha:evs env args=some args':=by kernel_rfl)(hn:h.A4[n]? =some (some (cellsOf e l)):=by kernel_rfl)(hargs:args'.map (Al n none)=.row 0 0 sz len len::small:=by kernel_rfl)(hgl:h.A8=[]:=by kernel_rfl):
  F1 P (.call (.c (.clo (.func g) [] [])) args) env h (.tuple []) ⟨h.A4.set n (some (cellsOf e r)),h.A6,h.A8⟩:=by
 have hf':De P h.A8 g (.row 0 0 sz len len::small) (cellsOf e l) [] (.tuple []) (cellsOf e r) []:=by rw[hgl];exact hf
 exact mO n none args' (cellsOf e l) (cellsOf e r) hf' ⟨he.ok l,he.ok r,I3 rfl hok,rfl⟩ (.inl ⟨rfl,rfl,rfl,rfl⟩) ha hn (GZ he.hn h0.1) (GZ he.hn h0.2) (he.Al _ _ _) hargs (he.big _ _ _) (by rw[hgl];rfl)
end
def Hk{α:Type}(P:Program)(e:α->b4c AV)(sz:Nat)(f:FuncId)(l:b4c α):Prop:=
 W9 P f [.sl (l.map e) .no] ⟨[],[],[]⟩ λa h=>a=.row 0 0 sz l.length l.length/\h=⟨[some (cellsOf e l)],[],[]⟩
section
variable {α:Type}{e:α->b4c AV}{sz:Nat}
theorem a97{P:Program}{f:FuncId}{l:b4c α}{args':b4c AV}{h:A3}{K:AV->A3->Prop}(hf:Hk P e sz f l)(he:O2 e sz)(h0:l≠[])(ha:args'.map nz=[.sl (l.map e) .no])(hk:K (.row h.A4.length 0 sz l.length l.length) ⟨h.A4++[some (cellsOf e l)],h.A6,h.A8⟩):W9 P f args' h K:=by
 refine⟨hf.1,λσ cargs hi hr=>?_⟩
 have hopen:∀b o,σ.open_ b o->b<σ.w.heap.size:=by
  rintro b o (ho|⟨n,hn⟩|⟨id,e,he,hs⟩)
  ·exact(hi.outer b o ho).1
  ·exact hi.lt hn
  ·exact hi.G2 id e b o he hs
 have hp:B7 [AV.sl (l.map e) .no]:=by
  simp only[B7,plain,Bool.and_true,Bool.true_and];exact N7 e l λy _=>he.hp y
 have hrels:P7 (bare σ.w σ.open_) [.sl (l.map e) .no] cargs.toList:=by
  refine⟨by rw[hr.1,<-ha];simp,λi av hav=>?_⟩;have hav':=hav;rw[<-ha]at hav;simp only[b31,b3t]at hav;obtain⟨b,hb,rfl⟩:=hav;obtain⟨x,h1,h2⟩:=hr.2 i b hb;exact⟨x,h1,h2.nz.down (Aw hp i _ hav') rfl λ_ _ h=>h⟩
 have hglobs:DI σ.w σ.open_ []:=λg cells hg=>by cases hg
 refine(hf.2 (bare σ.w σ.open_) cargs (RB hopen hglobs) hrels).mono λe1 w' hq=>?_
 obtain⟨σ1,h1,av,x,rfl,rfl,hle,hi1,hrx,rfl,rfl⟩:=hq;have hpast:I1 σ.w σ1.w:=⟨hle.size,λb hb=>hle.whole b hb λo=>FV σ.w σ.open_ b o,hle.os,hle.tape,hle.output⟩;obtain⟨b0,hb0,hat⟩:=hi1.blk 0 _ rfl
 have hge:σ.w.heap.size<=b0:=by
  rcases Nat.lt_or_ge b0 σ.w.heap.size with hlt|hge
  ·exact(FV σ.w σ.open_ b0 0 (hle.own b0 0 hlt (.inl ⟨0,hb0⟩))).elim
  ·exact hge
 let σ2:Sg:=⟨σ1.w,λn=>if n=h.A4.length then some b0 else σ.blk n,σ.buf,σ.outer⟩
 have hdom:∀n b,σ.blk n=some b->n<h.A4.length:=λn b hn=>hi.name hn
 have hblt:∀n b,σ.blk n=some b->b<σ.w.heap.size:=λn b hn=>hi.lt hn
 have hslt:∀id e b o,σ.buf id=some e->e.tail b o->b<σ.w.heap.size:=by
  intro id e b o he hs;exact hi.G2 id e b o he hs
 have hle2:Le σ σ2:={
  blk:=λn b hn=>by
   show(if n=h.A4.length then some b0 else σ.blk n)=some b;rw[if_neg (by have:=hdom n b hn;omega)];exact hn
  buf:=λ_ e h=>⟨e,h,Nat.le_refl _,rfl,λ_=>rfl⟩
  outer:=rfl
  cell:=λb o hb _=>BZ (hpast.old b hb) o
  ext:=(Le.world (σ:=σ) hpast).ext
  shape:=(Le.world (σ:=σ) hpast).shape
  whole:=λb hb _=>hpast.old b hb
  own:=λb o hb ho=>by
   rcases ho with⟨n,hn⟩|hx
   ·simp only[σ2]at hn;split at hn
    ·cases hn;omega
    ·exact .inl ⟨n,hn⟩
   ·exact .inr hx
  size:=hpast.size
  os:=hpast.os
  tape:=hpast.tape
  output:=hpast.output}
 have hop:∀b o,σ2.open_ b o->σ1.open_ b o:=by
  have side:∀b o,σ.open_ b o->σ1.open_ b o:=λb o h=>.inl (by rw[hle.outer];exact h)
  rintro b o (ho|⟨n,hn⟩|ho)
  ·exact side b o (.inl ho)
  ·simp only[σ2]at hn;split at hn
   ·cases hn;exact .inr (.inl ⟨0,hb0⟩)
   ·exact side b o (.inr (.inl ⟨n,hn⟩))
  ·exact side b o (.inr (.inr ho))
 have hni:G4 (cellsOf e l):=GZ he.hn h0
 have hat2:Q7 σ2 b0 (cellsOf e l):=by
  obtain⟨cs,rest,elem,g1,g2⟩:=hat.plain hni;refine .cells _ cs rest elem g1 ⟨g2.1,λi a hia=>?_⟩;obtain⟨k1,y,k2,k3⟩:=g2.2 i a hia;exact⟨k1,y,k2,k3.move (he.mem (b36 hia)).1 rfl hop⟩
 refine⟨σ2,_,_,x,rfl,rfl,hle2,?_,?_,hk⟩
 ·exact {
   blk:=λn cs hn=>by
    by_cases hl:n<h.A4.length
    ·rw[b3z hl]at hn;obtain⟨b,h1,h2⟩:=hi.blk n cs hn;exact⟨b,hle2.blk n b h1,h2.keep hle2 (hpast.old b h2.lt)⟩
    ·rw[b30 (by omega)]at hn
     have hz:n=h.A4.length:=by
      by_cases hz:n - h.A4.length=0
      ·omega
      ·rw[List.getElem?_eq_none (by simp;omega)]at hn;cases hn
     subst hz;simp at hn;subst hn;exact⟨b0,if_pos rfl,hat2⟩
   dom:=λn b hn=>by
    simp only[σ2]at hn;split at hn
    ·rename_i hz;subst hz;exact⟨cellsOf e l,by simp⟩
    ·obtain⟨cs,hcs⟩:=hi.dom n b hn;exact⟨cs,by rw[b3z (hdom n b hn)];exact hcs⟩
   inj:=λn m b c c' hc hc' hz hz' hn hm=>by
    simp only[σ2]at hn hm;split at hn<;>split at hm
    ·omega
    ·cases hn;have:=hblt m _ hm;omega
    ·cases hm;have:=hblt n _ hn;omega
    ·rw[b3z (hdom n b hn)]at hc;rw[b3z (hdom m b hm)]at hc';exact hi.inj n m b c c' hc hc' hz hz' hn hm
   buf:=hi.buf
   I6:=hi.I6
   I9:=hi.I9
   K0:=(hi.world hpast).K0
   J7:=(hi.world hpast).J7
   G2:=(hi.world hpast).G2
   J5:=hi.J5
   G9:=λid e n b o he hs hn=>by
    simp only[σ2]at hn;split at hn
    ·cases hn;have:=hslt id e _ o he hs;omega
    ·exact hi.G9 id e n b o he hs hn
   outer:=λb o ho=>by
    obtain⟨h1,h2⟩:=hi.outer b o ho;exact⟨Nat.lt_of_lt_of_le h1 hpast.size,λhx=>h2 (hle2.own b o h1 hx)⟩
   E6:=λg cells hg=>(hi.E6 g cells hg).mono hle2}
 ·cases hrx with
  |row _ _ _ _ _ b cap hb hc hm hx=>
   rw[hb0]at hb;cases hb;exact .row _ _ _ _ _ b0 cap (if_pos rfl) hc hm hx
theorem a3x{P:Program}{g:FuncId}{env:Env}{args:b4c B6}{h:A3}{l:b4c α}(hf:Hk P e sz g l)(he:O2 e sz)(h0:l≠[])(ha:(evs env args).map (List.map nz)=some [.sl (l.map e) .no]:=by kernel_rfl):
  F1 P (.call (.c (.clo (.func g) [] [])) args) env h (.row h.A4.length 0 sz l.length l.length) ⟨h.A4++[some (cellsOf e l)],h.A6,h.A8⟩:=by
 obtain⟨l',h1,h2⟩:=Option.map_eq_some_iff.1 ha;exact λK hk=>(Jk rfl h1 (a97 hf he h0 h2 hk)).out
def nw(e:α->b4c AV)(sz:Nat)(rs:b4c K5)(l:b4c α):Exit->Env->A3->Prop
 |.ret,env,h=>Z0 env h rs λl'=>U0 l'=.row 0 0 sz l.length l.length/\h=⟨[some (cellsOf e l)],[],[]⟩
 |_,_,_=>False
theorem rW{P:Program}{N:Nat}{f:FuncId}{ac:E8}{rs:b4c K5}(hf:T3 P f=some (N,ac,rs)){l:b4c α}{e₀:Env}(hn:Nat.ble 1 N)(he:AC 0 [.sl (l.map e) .no]=e₀)(hbody:D P N 0 0 ac (nw e sz rs l) e₀ ⟨[],[],[]⟩):Hk P e sz f l:=by
 subst he;refine bM hf (b37 hn) (Od (PJ (Nat.le_refl _) (Nat.le_refl _) hbody) λx env h hq=>?_);cases x<;>first|exact hq|exact hq.elim
theorem xI{rs:b4c K5}{l:b4c α}{env:Env}{h:A3}{c:b4c AV}(hc:c=cellsOf e l)(hh:h=⟨[some c],[],[]⟩:=by kernel_rfl)(ho:(Bb env h rs).map U0=some (.row 0 0 sz l.length l.length):=by kernel_rfl):nw e sz rs l .ret env h:=by
 subst hc;obtain⟨l',h1,h2⟩:=Option.map_eq_some_iff.1 ho;exact FE h1 ⟨h2,hh⟩
theorem a16{P:Program}{env:Env}{h:A3}{e0:TypeId}{size byt:Nat}{x y:B6}(e:α->b4c AV)(l:b4c α)(h0:l≠[])(hb:l.length*byt<=140737488355328)(hs:∀y,(e y).length=size)(hm:(y.ev env).bind (Q6 h size)=some (List.map e l))(hx:x.ev env=some (.sl [] .full):=by kernel_rfl):F1 P (.append e0 size byt x y) env h (.row h.A4.length 0 size l.length l.length) ⟨h.A4++[some (cellsOf e l)],h.A6,h.A8⟩:=by
 obtain⟨Y,h1,h2⟩:=Option.bind_eq_some_iff.1 hm;intro K hk;simp only[E0,hx,h1,wv];refine .inr (.inl ?_);simp only[LX,h2];refine⟨⟨VU hs,λhn=>h0 (List.map_eq_nil_iff.1 hn)⟩,?_,?_,?_⟩
 ·intro el hel;simp at hel
 ·simpa using hb
 ·simpa[cellsOf]using hk
end
def HA(n:Nat):b4c AV->b4c (Nat × Nat × Nat)
 |[]=>[]
 |.row k off size len _::r=>if k=n then(off,size,len)::HA n r else HA n r
 |_::r=>HA n r
theorem fG{n:Nat}:∀{l:b4c AV}{off size len cap:Nat},.row n off size len cap∈l->(off,size,len)∈HA n l
 |[],_,_,_,_,h=>by cases h
 |a::r,off,size,len,cap,h=>by
  rcases List.mem_cons.1 h with h|h
  ·subst h;simp[HA]
  ·have:=fG h;unfold HA;split
   ·rename_i heq;cases heq
   ·rename_i heq;cases heq;split
    ·exact List.mem_cons_of_mem _ this
    ·exact this
   ·rename_i heq;cases heq;exact this
def OE(n:Nat):b4c (b4d (b4c AV))->b4c (Nat × Nat × Nat)
 |[]=>[]
 |some c::r=>HA n c++OE n r
 |none::r=>OE n r
theorem oR{n:Nat}:∀{l:b4c (b4d (b4c AV))}{i:Nat}{c:b4c AV}{x:Nat × Nat × Nat},l[i]? =some (some c)->x∈HA n c->x∈OE n l
 |[],i,c,x,h,_=>by simp at h
 |o::r,i,c,x,h,hx=>by
  cases i with
  |zero=>simp at h;subst h;exact List.mem_append_left _ hx
  |succ i=>
   have:=oR (l:=r) (i:=i) (by simpa using h) hx;cases o with
   |none=>exact this
   |some c'=>exact List.mem_append_right _ this
def JT(n:Nat)(els:b4c (b4c AV))(bs:b4c (b4d (b4c AV))):b4c (b4d (b4c AV)):=bs.map (Option.map (List.map (Ck n els)))
theorem tr(n:Nat)(els:b4c (b4c AV))(a:AV):(Ck n els a).isCell=a.isCell:=by
 cases a with
 |row k off size len cap=>simp only[Ck];split<;>rfl
 |_=>rfl
section
variable {σ:Sg}{h:A3}{n:Nat}{m:b4c b4e}{k:Nat}{cells:b4c AV}{els:b4c (b4c AV)}{sz len:Nat}
theorem jG(hi:Inv h σ)(hb:h.A4[n]? =some (some cells))(hce:els.flatten=cells)(hsz:∀el∈els,el.length=sz)(hlen:els.length=len)(hit:els≠[]->G4 cells)(hmn:m.getD n false=false)(hal:CX m h.A4){a0:AV}{y:Value}(h3:Rel σ a0 y)(hrow:∀off size len' cap,a0=.row n off size len' cap->off=0/\size=sz/\len'=len)(hlow:low m k (Ck n els a0)):Rel (σ.cut m k) (Ck n els a0) y:=by
 cases a0 with
 |row j off size len' cap=>
  simp only[Ck]at hlow ⊢;split at hlow
  ·rename_i hj;subst hj;rw[if_pos rfl];obtain⟨rfl,rfl,rfl⟩:=hrow _ _ _ _ rfl;cases h3 with
   |row _ _ _ _ _ b cap' hblk hcap _ _=>
   obtain⟨b',h4,h5⟩:=hi.blk j cells hb;rw[hblk]at h4;cases h4;subst hlen;rcases Classical.em (els=[]) with h0|h0
   ·subst h0;exact .I5 _ ⟨b,0,none⟩ cap' trivial (.inl rfl)
   have hni:=hit h0;obtain⟨cs,rest,elem,h6,h7⟩:=h5.plain hni;have hlc:H7 m k els:=by simpa[low]using hlow
   have key:∀(i:Nat) (el:b4c AV),els[i]? =some el->∀(q:Nat) (av:AV),el[q]? =some av->∃xv,σ.w.cell? ⟨b,0+i*size+q,none⟩=some xv/\Rel σ av xv/\av.isCell=true:=by
    intro i el hie q av hq;have hql:q<size:=by rw[<-hsz el (b36 hie)];exact(List.getElem?_eq_some_iff.1 hq).1
    have hf:=Gf els hsz i q hql;rw[hie,Option.bind_some,hq,hce]at hf;obtain⟨q1,xv,q2,q3⟩:=h7.2 _ av hf;refine⟨xv,?_,q3,q1⟩;have hlt:=(List.getElem?_eq_some_iff.1 q2).1;rw[Nat.zero_add];simp[World.cell?,h6,b3z hlt,q2]
   have hne:cells≠[]:=EI hni;refine Rel.sl (σ:=σ.cut m k) els .no b 0 cap' size (λi q=>(σ.w.cell? ⟨b,0+i*size+q,none⟩).getD undef) (λi el hie=>hsz el (b36 hie)) hcap trivial (λid e hid=>by cases hid) (λi el hie q av hq=>?_) λi el hie q av hq=>?_
   ·obtain⟨xv,q1,q2,q3⟩:=key i el hie q av hq;refine⟨by show σ.w.cell? _=_;rw[q1];rfl,?_,q3⟩;rintro (ho|⟨j',hj'⟩|⟨id,eb,he1,he2⟩)
    ·exact(hi.outer _ _ ho).2 (.inl ⟨j,hblk⟩)
    ·simp only[Sg.cut]at hj';split at hj'
     ·rename_i hmj;obtain⟨c',hc'⟩:=hi.dom j' b hj';have:=hi.inj j' j b c' cells hc' hb (Vb hal hmj hc') hne hj' hblk;subst this;rw[hmn]at hmj;cases hmj
     ·cases hj'
    ·simp only[Sg.cut]at he1;split at he1
     ·exact hi.G9 id eb j b _ he1 he2 hblk
     ·cases he1
   ·obtain⟨xv,q1,q2,q3⟩:=key i el hie q av hq;rw[q1];exact q2.cut (Cp (Us hlc i el hie) q av hq)
  ·rename_i hj;rw[if_neg hj];exact h3.cut hlow
 |_=>exact h3.cut hlow
theorem Inv.cutR(hi:Inv h σ)(hb:h.A4[n]? =some (some cells))(hce:els.flatten=cells)(hsz:∀el∈els,el.length=sz)(hlen:els.length=len)(hit:els≠[]->G4 cells)(hmn:m.getD n false=false)(hal:CX m h.A4)(hrow:∀(i:Nat) (c:b4c AV),(I0 m h.A4)[i]? =some (some c)->∀off size len' cap,AV.row n off size len' cap∈c->off=0/\size=sz/\len'=len)(hB:Q5 m k (JT n els (I0 m h.A4)))(hg:J3 h.A8):Inv ⟨JT n els (I0 m h.A4),h.A6.take k,h.A8⟩ (σ.cut m k):=by
 have hblk:∀{j b:Nat},(σ.cut m k).blk j=some b->m.getD j false/\σ.blk j=some b:=by
  intro k b hk;simp only[Sg.cut]at hk;split at hk
  ·rename_i h1;exact⟨h1,hk⟩
  ·cases hk
 have hbuf:∀{j:Nat}{e:Buf},(σ.cut m k).buf j=some e->j<k/\σ.buf j=some e:=by
  intro k b hk;simp only[Sg.cut]at hk;split at hk
  ·rename_i h1;exact⟨h1,hk⟩
  ·cases hk
 have hget:∀{j:Nat}{c:b4c AV},(JT n els (I0 m h.A4))[j]? =some (some c)->∃c0,(I0 m h.A4)[j]? =some (some c0)/\c=c0.map (Ck n els):=by
  intro j c hj;simp only[JT,b31,b3t]at hj;obtain⟨o,h1,h2⟩:=hj;obtain⟨c0,rfl,h3⟩:=h2;exact⟨c0,h1,h3.symm⟩
 have hne:∀{c0:b4c AV},c0.map (Ck n els)≠[]->c0≠[]:=by rintro _ h rfl;exact h rfl
 refine⟨λj cs' hj=>?_,λj b hj=>?_,λj l b c c' hj hl hc hc' h1 h2=>?_,λid c hc=>?_,λid e he=>?_,λid e he=>hi.I9 id e (hbuf he).2,λid e b o he hs=>hi.K0 id e b o (hbuf he).2 hs,λid e b o he hs=>hi.J7 id e b o (hbuf he).2 hs,λid e b o he hs=>hi.G2 id e b o (hbuf he).2 hs,λi j e f b o he hf h1 h2=>hi.J5 i j e f b o (hbuf he).2 (hbuf hf).2 h1 h2,λid e k b o he hs hk=>hi.G9 id e k b o (hbuf he).2 hs (hblk hk).2,λb o ho=>⟨(hi.outer b o ho).1,λh=>(hi.outer b o ho).2 (Tm h)⟩,λg cells hgl=>?_⟩
 ·obtain⟨c0,h0,rfl⟩:=hget hj;obtain⟨h1,h2⟩:=KY h0;obtain⟨b,h3,h4⟩:=hi.blk j c0 h2;refine⟨b,by simp only[Sg.cut];rw[if_pos h1];exact h3,?_⟩;have hlow:=XJ hB hj;cases h4 with
  |cells _ cs rest elem h5 h6=>
   refine .cells _ cs rest elem h5 ⟨by rw[h6.1];simp,λi a hia=>?_⟩;have hla:=Cp hlow i a hia;simp only[b31,b3t]at hia;obtain⟨a0,q1,rfl⟩:=hia;obtain⟨q2,x,q3,q4⟩:=h6.2 i a0 q1;refine⟨by rw[tr];exact q2,x,q3,jG hi hb hce hsz hlen hit hmn hal q4 (λoff size len' cap he=>?_) hla⟩;subst he;exact hrow j c0 h0 _ _ _ _ (b36 q1)
  |it s p h5=>exact .it s p h5
  |map es clock l h5 h6=>
   have hll:D4 m k l:=by simpa[D4,Lift.low,Ck]using hlow
   exact .map es clock l h5 (h6.cut hll)
 ·obtain⟨h1,h2⟩:=hblk hj;obtain⟨c,h3⟩:=hi.dom j b h2;exact⟨c.map (Ck n els),by simp only[JT,b31,Yn h1 h3];rfl⟩
 ·obtain⟨c0,k0,rfl⟩:=hget hj;obtain⟨c1,k1,rfl⟩:=hget hl;exact hi.inj j l b c0 c1 (KY k0).2 (KY k1).2 (hne hc) (hne hc') (hblk h1).2 (hblk h2).2
 ·rw[List.getElem?_take]at hc;split at hc
  ·rename_i h1;obtain⟨e,h2,h3⟩:=hi.buf id c hc;exact⟨e,by simp only[Sg.cut];rw[if_pos h1];exact h2,h3⟩
  ·cases hc
 ·obtain⟨h1,h2⟩:=hbuf he;rw[List.getElem?_take,if_pos h1];exact hi.I6 id e h2
 ·have hl0:Lift.low m k (.D3 cells 0):=by simp only[Lift.low];exact F7 m k cells (List.all_eq_true.1 hg _ hgl)
  exact(hi.E6 g cells hgl).cut hl0
end
theorem xM{P:Program}{h:A3}{env:Env}{N kb kf:Nat}{Q:Exit->Env->A3->Prop}{x:E8}{α:Type}{f:α->b4c AV}{sz:Nat}(n:Nat)(m:b4c b4e)(k c c':Nat)(l:b4c α)(len:Nat)(e:Env)(bs:b4c (b4d (b4c AV)))(hs:∀y,(f y).length=sz)(hni:∀y,G4 (f y))(hlen:l.length=len)(hw:X3 m k e/\Q5 m k bs)(hx:D P N kb kf x Q e ⟨bs,h.A6.take k,h.A8⟩)(hb:h.A4[n]? =some (some (cellsOf f l)):=by kernel_rfl)(hrow:Dv n env=List.replicate c (0,sz,len):=by kernel_rfl)(hrowB:OE n (I0 m h.A4)=List.replicate c' (0,sz,len):=by kernel_rfl)(hmn:m.getD n false=false:=by kernel_rfl)(hal:CX m h.A4:=by kernel_rfl)(hm:∀k,k<kb->m.getD k false:=by intro k hk;first|exact absurd hk (Nat.not_lt_zero _)|exact nd rfl k hk)(hkf:Nat.ble kf k:=by kernel_rfl)(hE:Gu n (List.map f l) env=e:=by kernel_rfl)(hbs:JT n (List.map f l) (I0 m h.A4)=bs:=by kernel_rfl)(hg:J3 h.A8:=by kernel_rfl):D P N kb kf x Q env h:=⟨by
 subst hbs hE;intro co hc σ0 σ a hst hle hl;have h1:(List.map f l).flatten=cellsOf f l:=rfl;have h2:∀el∈List.map f l,el.length=sz:=VU hs
 have h3:(List.map f l).length=len:=by rw[List.length_map];exact hlen
 have h4:List.map f l≠[]->G4 (cellsOf f l):=λh0=>GZ hni (λh=>h0 (by rw[h];rfl))
 have inr:∀{c:Nat}{q:Nat × Nat × Nat},q∈List.replicate c (0,sz,len)->q.1=0/\q.2.1=sz/\q.2.2=len:=by
  intro c q hq;rw[(List.mem_replicate.1 hq).2];exact⟨rfl,rfl,rfl⟩
 refine hx.out co hc σ0 (σ.cut m k) a ⟨hst.inv.cutR hb h1 h2 h3 h4 hmn hal (λi c hc off size len' cap ha=>?_) hw.2 hg,λt av ht=>?_,hst.size,hst.defers⟩ (hle.cut hl hm (b37 hkf)) hl
 ·have:=oR hc (fG ha);rw[hrowB]at this;exact inr this
 ·have hlow:=NM hw.1 ht;obtain⟨a0,k1,rfl⟩:=ba ht;obtain⟨y,k2,k3⟩:=hst.env t a0 k1;refine⟨y,k2,jG hst.inv hb h1 h2 h3 h4 hmn hal k3 (λoff size len' cap he=>?_) hlow⟩;subst he;have:=Yw k1;rw[hrow]at this;exact inr this⟩
def MH{α:Type}(P:Program)(e:α->b4c AV)(sz:Nat)(f:FuncId)(l:b4c α):Prop:=
 W9 P f [.sl (l.map e) .no] ⟨[],[],[]⟩ λa h=>a=.sl (l.map e) (.own 0)/\h=⟨[],[(l.length,sz)],[]⟩
section
variable {α:Type}{e:α->b4c AV}{sz:Nat}
theorem b0j{P:Program}{f:FuncId}{l:b4c α}{args':b4c AV}{h:A3}{K:AV->A3->Prop}(hf:MH P e sz f l)(hpl:∀y,B7 (e y))(ha:args'.map nz=[.sl (l.map e) .no])(hk:K (.sl (l.map e) (.own h.A6.length)) ⟨h.A4,h.A6++[(l.length,sz)],h.A8⟩):W9 P f args' h K:=by
 refine⟨hf.1,λσ cargs hi hr=>?_⟩
 have hopen:∀b o,σ.open_ b o->b<σ.w.heap.size:=by
  rintro b o (ho|⟨n,hn⟩|⟨id,e,he,hs⟩)
  ·exact(hi.outer b o ho).1
  ·exact hi.lt hn
  ·exact hi.G2 id e b o he hs
 have hpp:F9 (l.map e):=N7 e l λy _=>hpl y
 have hp:B7 [AV.sl (l.map e) .no]:=by
  simp only[B7,plain,Bool.and_true,Bool.true_and];exact hpp
 have hrels:P7 (bare σ.w σ.open_) [.sl (l.map e) .no] cargs.toList:=by
  refine⟨by rw[hr.1,<-ha];simp,λi av hav=>?_⟩;have hav':=hav;rw[<-ha]at hav;simp only[b31,b3t]at hav;obtain⟨b,hb,rfl⟩:=hav;obtain⟨x,h1,h2⟩:=hr.2 i b hb;exact⟨x,h1,h2.nz.down (Aw hp i _ hav') rfl λ_ _ h=>h⟩
 have hglobs:DI σ.w σ.open_ []:=λg cells hg=>by cases hg
 refine(hf.2 (bare σ.w σ.open_) cargs (RB hopen hglobs) hrels).mono λe1 w' hq=>?_
 obtain⟨σ1,h1,av,x,rfl,rfl,hle,hi1,hrx,rfl,rfl⟩:=hq;have hpast:I1 σ.w σ1.w:=⟨hle.size,λb hb=>hle.whole b hb λo=>FV σ.w σ.open_ b o,hle.os,hle.tape,hle.output⟩;obtain⟨eb,heb,hec⟩:=hi1.buf 0 _ rfl
 have hsp:∀b o,eb.tail b o->σ.w.heap.size<=b:=by
  intro b o hs;rcases Nat.lt_or_ge b σ.w.heap.size with hlt|hge
  ·exact(FV σ.w σ.open_ b o (hle.own b o hlt (.inr ⟨0,eb,heb,hs⟩))).elim
  ·exact hge
 let σ2:Sg:=⟨σ1.w,σ.blk,λid=>if id=h.A6.length then some eb else σ.buf id,σ.outer⟩
 have hbn:∀id e,σ.buf id=some e->id<h.A6.length:=λid e he=>(List.getElem?_eq_some_iff.1 (hi.I6 id e he)).1
 have hblt:∀n b,σ.blk n=some b->b<σ.w.heap.size:=λn b hn=>hi.lt hn
 have hslt:∀id e b o,σ.buf id=some e->e.tail b o->b<σ.w.heap.size:=by
  intro id e b o he hs;exact hi.G2 id e b o he hs
 have hb2:∀{id:Nat}{f:Buf},σ2.buf id=some f->(id=h.A6.length/\f=eb)\/(id≠h.A6.length/\σ.buf id=some f):=by
  intro id f hf;simp only[σ2]at hf;split at hf
  ·rename_i h0;cases hf;exact .inl ⟨h0,rfl⟩
  ·rename_i h0;exact .inr ⟨h0,hf⟩
 have hle2:Le σ σ2:={
  blk:=λn b hn=>hn
  buf:=λid f hf=>⟨f,by show(if id=h.A6.length then some eb else σ.buf id)=some f;rw[if_neg (by have:=hbn id f hf;omega)];exact hf,Nat.le_refl _,rfl,λ_=>rfl⟩
  outer:=rfl
  cell:=λb o hb _=>BZ (hpast.old b hb) o
  ext:=(Le.world (σ:=σ) hpast).ext
  shape:=(Le.world (σ:=σ) hpast).shape
  whole:=λb hb _=>hpast.old b hb
  own:=λb o hb ho=>by
   rcases ho with⟨n,hn⟩|⟨id,f,hf,hs⟩
   ·exact .inl ⟨n,hn⟩
   ·rcases hb2 hf with⟨_,rfl⟩|⟨_,hf'⟩
    ·have:=hsp b o hs;omega
    ·exact .inr ⟨id,f,hf',hs⟩
  size:=hpast.size
  os:=hpast.os
  tape:=hpast.tape
  output:=hpast.output}
 have hop:∀b o,σ2.open_ b o->σ1.open_ b o:=by
  have side:∀b o,σ.open_ b o->σ1.open_ b o:=λb o h=>.inl (by rw[hle.outer];exact h)
  rintro b o (ho|⟨n,hn⟩|⟨id,f,hf,hs⟩)
  ·exact side b o (.inl ho)
  ·exact side b o (.inr (.inl ⟨n,hn⟩))
  ·rcases hb2 hf with⟨_,rfl⟩|⟨_,hf'⟩
   ·exact .inr (.inr ⟨0,f,heb,hs⟩)
   ·exact side b o (.inr (.inr ⟨id,f,hf',hs⟩))
 have hbuf2:σ2.buf h.A6.length=some eb:=if_pos rfl;refine⟨σ2,_,_,x,rfl,rfl,hle2,?_,?_,hk⟩
 ·exact {
   blk:=λn cs hn=>by
    obtain⟨b,h1,h2⟩:=hi.blk n cs hn;exact⟨b,h1,h2.keep hle2 (hpast.old b h2.lt)⟩
   dom:=hi.dom
   inj:=hi.inj
   buf:=λid c hc=>by
    by_cases hl:id<h.A6.length
    ·rw[b3z hl]at hc;obtain⟨f,h1,h2⟩:=hi.buf id c hc;exact⟨f,by show(if id=h.A6.length then some eb else σ.buf id)=some f;rw[if_neg (by omega)];exact h1,h2⟩
    ·rw[b30 (by omega)]at hc
     have hz:id=h.A6.length:=by
      by_cases hz:id - h.A6.length=0
      ·omega
      ·rw[List.getElem?_eq_none (by simp;omega)]at hc;cases hc
     subst hz;simp at hc;exact⟨eb,hbuf2,by rw[hec,<-hc]⟩
   I6:=λid f hf=>by
    rcases hb2 hf with⟨rfl,rfl⟩|⟨h0,hf'⟩
    ·rw[b30 (Nat.le_refl _),Nat.sub_self,hec];rfl
    ·rw[b3z (hbn id f hf')];exact hi.I6 id f hf'
   I9:=λid f hf=>by
    rcases hb2 hf with⟨_,rfl⟩|⟨_,hf'⟩
    ·exact hi1.I9 0 f heb
    ·exact hi.I9 id f hf'
   K0:=λid f b o hf hs=>by
    rcases hb2 hf with⟨_,rfl⟩|⟨_,hf'⟩
    ·exact hi1.K0 0 f b o heb hs
    ·exact(hi.world hpast).K0 id f b o hf' hs
   J7:=λid f b o hf hs=>by
    rcases hb2 hf with⟨_,rfl⟩|⟨_,hf'⟩
    ·exact hi1.J7 0 f b o heb hs
    ·exact(hi.world hpast).J7 id f b o hf' hs
   G2:=λid f b o hf hs=>by
    rcases hb2 hf with⟨_,rfl⟩|⟨_,hf'⟩
    ·exact hi1.G2 0 f b o heb hs
    ·exact(hi.world hpast).G2 id f b o hf' hs
   J5:=λi j f g b o hf hg h1 h2=>by
    rcases hb2 hf with⟨rfl,rfl⟩|⟨_,hf'⟩<;>rcases hb2 hg with⟨rfl,rfl⟩|⟨_,hg'⟩
    ·rfl
    ·have:=hsp b o h1;have:=hslt j g b o hg' h2;omega
    ·have:=hsp b o h2;have:=hslt i f b o hf' h1;omega
    ·exact hi.J5 i j f g b o hf' hg' h1 h2
   G9:=λid f n b o hf hs hn=>by
    rcases hb2 hf with⟨_,rfl⟩|⟨_,hf'⟩
    ·have:=hsp b o hs;have:=hblt n b hn;omega
    ·exact hi.G9 id f n b o hf' hs hn
   outer:=λb o ho=>by
    obtain⟨h1,h2⟩:=hi.outer b o ho;exact⟨Nat.lt_of_lt_of_le h1 hpast.size,λhx=>h2 (hle2.own b o h1 hx)⟩
   E6:=λg cells hg=>(hi.E6 g cells hg).mono hle2}
 ·have tk:∀{len:Nat}{a:b4d Addr}{cap:Nat},BT σ1 (.own 0) len a cap->BT σ2 (.own h.A6.length) len a cap:=by
   rintro len a cap ⟨f,h1,h2⟩;rw[heb]at h1;cases h1;exact⟨eb,hbuf2,h2⟩
  generalize hels:l.map e=els at hrx hpp ⊢;cases hrx with
  |sl0 _ ht=>exact .sl0 _ (tk ht)
  |I5 _ a cap ht hc=>exact .I5 _ a cap (tk ht) (hc.elim (λh=>by cases h) .inr)
  |sl _ _ b o cap size xs hs hcap ht hz hc hr=>
   refine .sl _ _ b o cap size xs hs hcap (tk ht) (λj f hj hf=>?_) (λi el hi j av hj=>?_) λi el hi j av hj=>?_
   ·cases hj;rw[hbuf2]at hf;cases hf;exact hz 0 eb rfl heb
   ·obtain⟨h1,h2,h3⟩:=hc i el hi j av hj;exact⟨h1,λh=>h2 (hop _ _ h),h3⟩
   ·exact(hr i el hi j av hj).move (Aw (Jv hpp i el hi) j av hj) rfl hop
theorem wn{P:Program}{g:FuncId}{env:Env}{args:b4c B6}{h:A3}{l:b4c α}(hf:MH P e sz g l)(hpl:∀y,B7 (e y))(ha:(evs env args).map (List.map nz)=some [.sl (l.map e) .no]:=by kernel_rfl):
  F1 P (.call (.c (.clo (.func g) [] [])) args) env h (.sl (l.map e) (.own h.A6.length)) ⟨h.A4,h.A6++[(l.length,sz)],h.A8⟩:=by
 obtain⟨l',h1,h2⟩:=Option.map_eq_some_iff.1 ha;exact λK hk=>(Jk rfl h1 (b0j hf hpl h2 hk)).out
def my(e:α->b4c AV)(sz:Nat)(rs:b4c K5)(l:b4c α):Exit->Env->A3->Prop
 |.ret,env,h=>Z0 env h rs λl'=>U0 l'=.sl (l.map e) (.own 0)/\h=⟨[],[(l.length,sz)],[]⟩
 |_,_,_=>False
theorem a42{P:Program}{N:Nat}{f:FuncId}{ac:E8}{rs:b4c K5}(hf:T3 P f=some (N,ac,rs)){l:b4c α}{e₀:Env}(hn:Nat.ble 1 N)(he:AC 0 [.sl (l.map e) .no]=e₀)(hbody:D P N 0 0 ac (my e sz rs l) e₀ ⟨[],[],[]⟩):MH P e sz f l:=by
 subst he;refine bM hf (b37 hn) (Od (PJ (Nat.le_refl _) (Nat.le_refl _) hbody) λx env h hq=>?_);cases x<;>first|exact hq|exact hq.elim
theorem aO{rs:b4c K5}{l l2:b4c α}{env:Env}{h:A3}(hl:l=l2)(hh:h=⟨[],[(l2.length,sz)],[]⟩:=by kernel_rfl)(ho:(Bb env h rs).map U0=some (.sl (l2.map e) (.own 0)):=by kernel_rfl):my e sz rs l .ret env h:=by
 subst hl;obtain⟨l',h1,h2⟩:=Option.map_eq_some_iff.1 ho;exact FE h1 ⟨h2,hh⟩
end
def BG(P:Program)(f:Nat):Nat:=((T3 P f).map λx=>x.1).getD 0
def EA(P:Program)(f:Nat):E8:=((T3 P f).map λx=>x.2.1).getD .skip
def EE(P:Program)(f:Nat):b4c K5:=((T3 P f).map λx=>x.2.2).getD []
def Zi(o:G7)(env:Env):b4d AV:=
 match o with
 |.len true x=>match x.ev env with
  |some (.v (.string s))=>some (.v (.int .i64 s.size))
  |_=>none
 |.bin .eql x y=>match x.ev env,y.ev env with
  |some (.v (.string a)),some (.v (.string b))=>some (.v (.bool (decide (a=b))))
  |_,_=>none
 |.bin .neq x y=>match x.ev env,y.ev env with
  |some (.v (.string a)),some (.v (.string b))=>some (.v (.bool (!decide (a=b))))
  |_,_=>none
 |.bin .lss x y=>match x.ev env,y.ev env with
  |some (.v (.string a)),some (.v (.string b))=>some (.v (.bool (Op.bytesLess a.toList b.toList)))
  |_,_=>none
 |.bin .leq x y=>match x.ev env,y.ev env with
  |some (.v (.string a)),some (.v (.string b))=>some (.v (.bool (Op.bytesLess a.toList b.toList||a.toList==b.toList)))
  |_,_=>none
 |.bin .gtr x y=>match x.ev env,y.ev env with
  |some (.v (.string a)),some (.v (.string b))=>some (.v (.bool (!(Op.bytesLess a.toList b.toList||a.toList==b.toList))))
  |_,_=>none
 |.bin .geq x y=>match x.ev env,y.ev env with
  |some (.v (.string a)),some (.v (.string b))=>some (.v (.bool (!(Op.bytesLess a.toList b.toList))))
  |_,_=>none
 |.pick c x y=>match c.ev env,x.ev env,y.ev env with
  |some (.v (.bool t)),some (.v (.bool a)),some (.v (.bool b))=>some (.v (.bool (bif t then a else b)))
  |some (.v (.bool t)),some (.v (.int k a)),some (.v (.int k2 b))=>if k=k2 then some (.v (.int k (bif t then a else b))) else none
  |some (.v (.bool t)),some (.v (.string a)),some (.v (.string b))=>some (.v (.string (bif t then a else b)))
  |_,_,_=>none
 |.AJ true [x,y]=>match x.ev env,y.ev env with
  |some (.v (.int k a)),some (.v (.int _ b))=>some (.v (.int k (max a b)))
  |_,_=>none
 |.AJ false [x,y]=>match x.ev env,y.ev env with
  |some (.v (.int k a)),some (.v (.int _ b))=>some (.v (.int k (min a b)))
  |_,_=>none
 |.AJ true [x,y,z]=>match x.ev env,y.ev env,z.ev env with
  |some (.v (.int k a)),some (.v (.int _ b)),some (.v (.int _ c))=>some (.v (.int k (max (max a b) c)))
  |_,_,_=>none
 |.AJ false [x,y,z]=>match x.ev env,y.ev env,z.ev env with
  |some (.v (.int k a)),some (.v (.int _ b)),some (.v (.int _ c))=>some (.v (.int k (min (min a b) c)))
  |_,_,_=>none
 |_=>none
theorem jF{P:Program}{o:G7}{env:Env}{av:AV}(he:Zi o env=some av)(h:A3):F1 P o env h av h:=by
 unfold Zi at he;split at he
 case h_1=>
  split at he
  ·rename_i hx;cases he;exact xX hx
  ·cases he
 case h_2=>
  split at he
  ·rename_i hx hy;cases he;exact tm hx hy
  ·cases he
 case h_3=>
  split at he
  ·rename_i hx hy;cases he;exact a2d hx hy
  ·cases he
 case h_4=>
  split at he
  ·rename_i hx hy;cases he;exact II hx hy (c:=True) rfl trivial
  ·cases he
 case h_5=>
  split at he
  ·rename_i hx hy;cases he;exact II hx hy (c:=True) rfl trivial
  ·cases he
 case h_6=>
  split at he
  ·rename_i hx hy;cases he;exact II hx hy (c:=True) rfl trivial
  ·cases he
 case h_7=>
  split at he
  ·rename_i hx hy;cases he;exact II hx hy (c:=True) rfl trivial
  ·cases he
 case h_8=>
  split at he
  ·rename_i hc hx hy;cases he;exact a62 hc hx hy
  ·rename_i hc hx hy;split at he
   ·rename_i hk;subst hk;cases he;exact a1y hc hx hy
   ·cases he
  ·rename_i hc hx hy;cases he;exact wC hc hx hy
  ·cases he
 case h_9=>
  split at he
  ·rename_i hx hy;cases he;exact zJ hx hy
  ·cases he
 case h_10=>
  split at he
  ·rename_i hx hy;cases he;exact a3b hx hy
  ·cases he
 case h_11=>
  split at he
  ·rename_i hx hy hz;cases he;exact b06 hx hy hz
  ·cases he
 case h_12=>
  split at he
  ·rename_i hx hy hz;cases he;exact a8h hx hy hz
  ·cases he
 case h_13=>cases he
inductive Fr where
 |sq (y:E8)
 |bk (i:Nat)
 |lp (x:E8)
 |sc (l:Nat) (x:E8)
 |sn
inductive Pc where
 |c (x:E8)
 |v (L:List B9)
 |s (b:Bool) (L:List B9) (S gl:List (Nat × List AV)) (w:Option B9) (tl:List B9)
 |n (e:Exit)
 |l (x:E8)
 |g (l:Nat) (x:E8)
structure Mc where
 pc:Pc
 k:List Fr
 env:Env
 h:A3
inductive Rm where
 |ret (r:AV)
 |io (gl:List (Nat × List AV)) (k:Nat) (r:AV) (c:List AV) (b:List (Nat × Nat))
 |inl (kb kf:Nat) (K:AV->A3->Prop)
def Rm.kb:Rm->Nat
 |.ret _=>0
 |.io _ _ _ _ _=>1
 |.inl b _ _=>b
def Rm.kf:Rm->Nat
 |.ret _=>0
 |.io _ k _ _ _=>k
 |.inl _ k _=>k
def Rm.Q(rs:b4c K5):Rm->Exit->Env->A3->Prop
 |.ret r=>LE rs r
 |.io gl k r c b=>QM gl k rs r c b
 |.inl _ _ K=>Gp rs K
section
variable (P:Program) (f:Nat) (R:Rm)
def Qs:b4c Fr->Exit->Env->A3->Prop
 |[]=>R.Q (EE P f)
 |.sq y::k=>KP (λe h=>D P (BG P f) R.kb R.kf y (Qs k) e h) (Qs k)
 |.bk i::k=>Ns i (Qs k)
 |.lp x::k=>KP (λe h=>DL P (BG P f) R.kb R.kf x (Qs k) e h) (Qs k)
 |.sc l x::k=>Pk l (λe h=>DG P (BG P f) R.kb R.kf x l (Qs k) e h) (Qs k)
 |.sn::k=>aW (Qs k)
def KK(w:b4d B9)(tl:b4c B9)(K:Env->A3->Prop):Env->A3->Prop:=match w with
 |none=>λe h=>vd P tl e h K
 |some w=>λe h=>∃av h',F1 P w.op e h av h'/\vd P tl e h' K
def Ok(s:Mc):Prop:=match s.pc with
 |.c x=>D P (BG P f) R.kb R.kf x (Qs P f R s.k) s.env s.h
 |.v L=>vd P L s.env s.h (λe h=>Qs P f R s.k .normal e h)
 |.s b L S gl w tl=>vs P (Ey S gl) b L s.env s.h (KK P w tl λe h=>Qs P f R s.k .normal e h)
 |.n e=>Qs P f R s.k e s.env s.h
 |.l x=>DL P (BG P f) R.kb R.kf x (Qs P f R s.k) s.env s.h
 |.g l x=>DG P (BG P f) R.kb R.kf x l (Qs P f R s.k) s.env s.h
end
def Wk(P:Program)(f:Nat)(R:Rm)(s:Mc)(W:Prop):Prop:=W->Ok P f R s
abbrev IF(c:b4e)(p q:Prop):Prop:=(c=true->p)/\(c=false->q)
abbrev ID(c:Prop)[Decidable c](p q:Prop):Prop:=IF (decide c) p q
abbrev IX{α:Type}(l:b4c α)(n:Int)(W:α->Prop):Prop:=∃y,l[n.toNat]? =some y/\0<=n/\W y
abbrev JN{T:Type}(W:T->Prop)(q:(T->Prop)->Prop):Prop:=∃R:T->Prop,(∀z,R z->W z)/\q R
abbrev SI(t:b4b)(n:Int)(p:Prop):Prop:=(0<=n/\n<(t.size:Int))/\p
abbrev SS(t:b4b)(a u:Int)(p:Prop):Prop:=(0<=a/\a<=u/\u<=(t.size:Int))/\p
abbrev CT(a b:b4b)(p:Prop):Prop:=((a.size+b.size:Nat):Int)<=9223372036854775807/\p
def FL:E8->b4d Nat
 |.goto l=>some l
 |.seq a b=>match FL a with
  |some l=>some l
  |none=>FL b
 |.cond _ a b=>match FL a with
  |some l=>some l
  |none=>FL b
 |.block _ a=>FL a
 |.loop a=>FL a
 |.scope a=>FL a
 |_=>none
def pop:Exit->b4c Fr->b4d (Pc × b4c Fr)
 |_,[]=>none
 |e,.sq y::k=>match e with
  |.normal=>some (.c y,k)
  |e=>some (.n e,k)
 |e,.lp x::k=>match e with
  |.normal=>some (.l x,k)
  |e=>some (.n e,k)
 |e,.bk j::k=>match e with
  |.exit i=>some (.n (if i=j then .normal else .exit i),k)
  |e=>some (.n e,k)
 |e,.sc l x::k=>match e with
  |.goto i=>if i=l then some (.g l x,k) else none
  |e=>some (.n e,k)
 |e,.sn::k=>match e with
  |.goto _=>none
  |e=>some (.n e,k)
def bnd(S:b4c (Nat × b4c AV)):Nat:=S.foldl (λn p=>max n (p.1+1)) 0
def opn(o:B9)(env:Env)(h:A3):b4d (AV × A3):=match Zi o.op env with
 |some a=>some (a,h)
 |none=>Z7 false Kj o.op env h
def step(s:Mc):Mc:=match s.pc with
 |.c x=>match x with
  |.skip=>⟨.n .normal,s.k,s.env,s.h⟩
  |.region L=>⟨.v L,s.k,s.env,s.h⟩
  |.seq a b=>⟨.c a,.sq b::s.k,s.env,s.h⟩
  |.block i a=>⟨.c a,.bk i::s.k,s.env,s.h⟩
  |.cond c a b=>match c.ev s.env with
   |some (.v (.bool true))=>⟨.c a,s.k,s.env,s.h⟩
   |some (.v (.bool false))=>⟨.c b,s.k,s.env,s.h⟩
   |_=>s
  |.loop a=>⟨.l a,s.k,s.env,s.h⟩
  |.exit i=>⟨.n (.exit i),s.k,s.env,s.h⟩
  |.ret=>⟨.n .ret,s.k,s.env,s.h⟩
  |.scope a=>match FL a with
   |none=>⟨.c a,.sn::s.k,s.env,s.h⟩
   |some l=>match AA a l with
    |some _=>⟨.c a,.sc l a::s.k,s.env,s.h⟩
    |none=>s
  |.label _=>⟨.n .normal,s.k,s.env,s.h⟩
  |.goto l=>⟨.n (.goto l),s.k,s.env,s.h⟩
  |_=>s
 |.v []=>⟨.n .normal,s.k,s.env,s.h⟩
 |.v (o::L)=>match K7 s.env o.guard with
  |some false=>⟨.v L,s.k,Af s.env o.dst,s.h⟩
  |some true=>match opn o s.env s.h with
   |some p=>⟨.v L,s.k,L3 s.env o.dst p.1,p.2⟩
   |none=>s
  |none=>s
 |.s _ [] _ _ none tl=>⟨.v tl,s.k,s.env,s.h⟩
 |.s _ [] _ _ (some _) _=>s
 |.s b (o::L) S gl w tl=>match K7 s.env o.guard with
  |some false=>⟨.s b L S gl w tl,s.k,Af s.env o.dst,s.h⟩
  |some true=>match o.op,o.guard,b with
   |.alloc cells,none,true=>⟨.s b L S gl w tl,s.k,L3 s.env o.dst (.ptr s.h.A4.length 0),⟨s.h.A4++[some cells],s.h.A6,s.h.A8⟩⟩
   |_,_,_=>if AG o.op=true then match opn o s.env ⟨BX (bnd S) S,[],gl⟩ with
    |some p=>⟨.s b L S gl w tl,s.k,L3 s.env o.dst p.1,s.h⟩
    |none=>s
    else s
  |none=>s
 |.n e=>match pop e s.k with
  |some p=>⟨p.1,p.2,s.env,s.h⟩
  |none=>s
 |.l x=>⟨.c x,.lp x::s.k,s.env,s.h⟩
 |.g l x=>match AA x l with
  |some y=>⟨.c y,.sc l x::s.k,s.env,s.h⟩
  |none=>s
def run:Nat->Mc->Mc
 |0,s=>s
 |n+1,s=>run n (step s)
section
variable {P:Program}{f:Nat}{R:Rm}{s:Mc}
theorem Pj:∀k,DF λe h=>Qs P f R k .normal e h
 |[]=>by cases R<;>first|exact Zy|exact tg|exact λe env h he hx=>LO he hx
 |.sq y::k=>UI
 |.bk i::k=>Pj k
 |.lp x::k=>RE
 |.sc l x::k=>Pj k
 |.sn::k=>Pj k
theorem wT{w:b4d B9}{tl:b4c B9}{K:Env->A3->Prop}(hK:DF K):DF (KK P w tl K):=by
 cases w with
 |none=>exact Ru hK
 |some w=>exact λe env h he ⟨av,h',hd,hv⟩=>⟨av,h',hd.less he,Jr hK he hv⟩
theorem a99{n:Nat}{S gl:b4c (Nat × b4c AV)}{o:B9}{env:Env}{p:AV × A3}(hq:AG o.op)(he:opn o env ⟨BX n S,[],gl⟩=some p):∀h2,Ey S gl h2->Ad P o.op env h2 p.1:=by
 unfold opn at he;split at he
 ·rename_i a ha;cases he;exact λh2 _=>(jF ha h2).q
 ·exact a1b hq he
theorem eV{o:B9}{env:Env}{h:A3}{p:AV × A3}(he:opn o env h=some p):F1 P o.op env h p.1 p.2:=by
 unfold opn at he;split at he
 ·rename_i a ha;cases he;exact jF ha h
 ·exact iL he
theorem a4b{e:Exit}{k:b4c Fr}{p:Pc × b4c Fr}{env:Env}{h:A3}(hp:pop e k=some p)(hk:Ok P f R ⟨p.1,p.2,env,h⟩):Qs P f R k e env h:=by
 cases k with
 |nil=>cases hp
 |cons fr k=>
  cases fr with
  |sq y=>cases e<;>(cases hp;exact hk)
  |lp x=>cases e<;>(cases hp;exact hk)
  |bk j=>
   cases e with
   |exit i=>
    cases hp;show(if i=j then Qs P f R k .normal env h else Qs P f R k (.exit i) env h);split
    ·rename_i hij;rw[if_pos hij]at hk;exact hk
    ·rename_i hij;rw[if_neg hij]at hk;exact hk
   |_=>cases hp;exact hk
  |sc l x=>
   cases e
   case goto i=>
    simp only[pop]at hp;split at hp
    ·rename_i hil;cases hp;exact⟨hil,hk⟩
    ·cases hp
   all_goals (cases hp;exact hk)
  |sn=>cases e<;>(cases hp;try exact hk)
theorem tC(hk:Ok P f R (step s)):Ok P f R s:=by
 obtain⟨pc,k,env,h⟩:=s;cases pc with
 |c x=>
  cases x with
  |skip=>exact Vj hk
  |region L=>exact dr hk
  |seq a b=>exact Rw hk
  |block i a=>exact uK hk
  |loop a=>exact yM hk
  |exit i=>exact b1k hk
  |ret=>exact Np hk
  |label _=>exact wq hk
  |goto l=>exact zP hk
  |cond c a b=>
   simp only[step]at hk;split at hk
   ·rename_i hc;exact fE hc rfl hk
   ·rename_i hc;exact jV hc rfl hk
   ·exact hk
  |scope a=>
   simp only[step]at hk;split at hk
   ·exact a2n hk
   ·split at hk
    ·rename_i hf;exact a9a hf hk
    ·exact hk
  |_=>exact hk
 |v L=>
  cases L with
  |nil=>exact hk
  |cons o L=>
   simp only[step]at hk;split at hk
   ·rename_i hg;exact .inl ⟨hg,hk⟩
   ·rename_i hg;split at hk
    ·rename_i p hp;exact .inr (.inl ⟨hg,p.1,p.2,eV hp,hk⟩)
    ·exact hk
   ·exact hk
 |s b L S gl w tl=>
  cases L with
  |nil=>cases w<;>exact hk
  |cons o L=>
   simp only[step]at hk;split at hk
   ·rename_i hg;exact .inl ⟨hg,hk⟩
   ·rename_i hg;split at hk
    ·rename_i cells h1 h2;exact .inr (.inr (.inr ⟨rfl,cells,h1,h2,hk⟩))
    ·split at hk
     ·rename_i hq;split at hk
      ·rename_i p hp;exact .inr (.inl ⟨hg,hq,p.1,a99 hq hp,hk⟩)
      ·exact hk
     ·exact hk
   ·exact hk
 |n e=>
  simp only[step]at hk;split at hk
  ·rename_i p hp;exact a4b hp hk
  ·exact hk
 |l x=>exact a2m hk
 |g l x=>
  simp only[step]at hk;split at hk
  ·rename_i hf;exact b0v hf hk
  ·exact hk
theorem H1:∀(n:Nat) {s:Mc},Ok P f R (run n s)->Ok P f R s
 |0,_,hk=>hk
 |n+1,_,hk=>tC (H1 n hk)
theorem Oq{e:Env}(he:O9 e s.env)(hc:(match s.pc with|.n _=>false|.g _ _=>false|_=>true))(hk:Ok P f R ⟨s.pc,s.k,e,s.h⟩):Ok P f R s:=by
 obtain⟨pc,k,env,h⟩:=s;cases pc with
 |c x=>exact UI e env h he hk
 |v L=>exact Jr (Pj k) he hk
 |s b L S gl w tl=>exact PU (wT (Pj k)) he hk
 |l x=>exact RE e env h he hk
 |_=>cases hc
end
structure En(α:Type) where
 e:α->List AV
 f:α->List AV
 sz:Nat
 eq:∀y,f y=e y
 len:∀y,(e y).length=sz
 ro:O2 f sz
def oX:G7->B6
 |.Bn _ x _=>x
 |.Cl x _=>x
 |.len _ x=>x
 |.bin _ x _=>x
 |.CM x _ _=>x
 |.CL _ x _ _ _=>x
 |.append _ _ _ x _=>x
 |.conv _ x=>x
 |.bytes x=>x
 |.load _ x=>x
 |.store _ p _=>p
 |.make _ _ _ x _=>x
 |.call f _=>f
 |.eq _ _ x _=>x
 |.next x=>x
 |.AL _ _ _ x=>x
 |_=>.t 0
def oY:G7->B6
 |.Bn _ _ i=>i
 |.Cl _ i=>i
 |.bin _ _ y=>y
 |.append _ _ _ _ y=>y
 |.store _ _ x=>x
 |.make _ _ _ _ y=>y
 |.eq _ _ _ y=>y
 |_=>.t 0
def oE:G7->TypeId
 |.append e _ _ _ _=>e
 |_=>0
def oA:G7->b4c B6
 |.call _ l=>l
 |_=>[]
def QQ:G7->b4d B6
 |.CM _ l _=>l
 |.CL _ _ l _ _=>l
 |_=>none
def QN:G7->b4d B6
 |.CM _ _ l=>l
 |.CL _ _ _ l _=>l
 |_=>none
def oZ:G7->AV
 |.AL _ _ z _=>z
 |_=>.nil
def oB:G7->BinOp
 |.bin b _ _=>b
 |_=>.add
def WR(s:Mc):B9:=match s.pc with
 |.v (o::_)=>o
 |.s _ (o::_) _ _ _ _=>o
 |.s _ [] _ _ (some w) _=>w
 |_=>⟨none,.alloc [],none⟩
def op(s:Mc):G7:=(WR s).op
def put(s:Mc)(av:AV):Mc:=match s.pc with
 |.v (o::L)=>⟨.v L,s.k,L3 s.env o.dst av,s.h⟩
 |.s b (o::L) S gl w tl=>⟨.s b L S gl w tl,s.k,L3 s.env o.dst av,s.h⟩
 |_=>s
def N0(s:Mc)(av:AV)(h:A3):Mc:=match s.pc with
 |.v (o::L)=>⟨.v L,s.k,L3 s.env o.dst av,h⟩
 |.s _ (o::L) S gl w tl=>⟨.s false L S gl w tl,s.k,L3 s.env o.dst av,h⟩
 |.s _ [] _ _ (some _) tl=>⟨.v tl,s.k,s.env,h⟩
 |_=>s
def okS(s:Mc):b4e:=match s.pc with
 |.v (o::_)=>K7 s.env o.guard==some true
 |.s _ (o::_) _ _ _ _=>K7 s.env o.guard==some true&&AG o.op
 |_=>false
def BD(s:Mc):b4e:=match s.pc with
 |.v (o::_)=>K7 s.env o.guard==some true
 |.s _ (o::_) _ _ _ _=>K7 s.env o.guard==some true&& !AG o.op&& !Dl o
 |.s _ [] _ _ (some _) _=>true
 |_=>false
def DY(s:Mc)(h:A3):b4d (b4c (b4d (b4d (b4c AV))) × b4c (Nat × b4c AV)):=match s.pc with
 |.s _ (_::_) S _ _ _=>some (Ew S h,h.A8)
 |_=>none
def Am(s:Mc):b4d (b4c (b4d (b4d (b4c AV))) × b4c (Nat × b4c AV)):=match s.pc with
 |.s _ (_::_) S gl _ _=>some (S.map (λp=>some (some p.2)),gl)
 |_=>none
def NZ(s:Mc)(h:A3):Prop:=match s.pc with
 |.s _ _ S gl _ _=>Ey S gl h
 |_=>h=s.h
def JK(s:Mc):b4c (Nat × b4c AV):=match s.pc with
 |.s _ _ _ gl _ _=>gl
 |_=>s.h.A8
def RO(s:Mc)(r:Nat):b4d (b4c AV):=match s.pc with
 |.s _ _ S _ _ _=>(S.find? λp=>p.1==r).map (·.2)
 |_=>(s.h.A4[r]?).bind id
def xv(s:Mc):b4d AV:=(oX (op s)).ev s.env
def yv(s:Mc):b4d AV:=(oY (op s)).ev s.env
def bz(s:Mc):Value:=((Rv (oB (op s)) (xv s) (yv s)).map (·.2)).getD (.bool true)
def OM(x:b4d AV):Nat:=match x with
 |some (.sl _ (.own i))=>i
 |_=>0
def CU(x:b4d AV):Nat:=match x with
 |some (.row r _ _ _ _)=>r
 |some (.ptr r _)=>r
 |_=>0
def yx(x:b4d AV):Nat:=match x with
 |some (.row _ _ _ _ c)=>c
 |_=>0
section
variable {P:Program}{f:Nat}{R:Rm}{s:Mc}
theorem lW{h:A3}(hs:NZ s h):h.A8=JK s:=by
 unfold NZ at hs;unfold JK;split at hs
 ·exact hs.2
 ·subst hs;rfl
theorem ju{h:A3}{r:Nat}{c:b4c AV}(hs:NZ s h)(hr:RO s r=some c):h.A4[r]? =some (some c):=by
 unfold NZ at hs;unfold RO at hr;split at hs
 ·rename_i hp;rw[hp]at hr;simp only[b3t]at hr;obtain⟨p,h1,rfl⟩:=hr;have h2:=List.find?_some h1;have h3:p.1=r:=by simpa using h2
  subst h3;exact hs.1 _ _ (List.mem_of_find?_eq_some h1)
 ·rename_i hp;subst hs;split at hr
  ·rename_i hq;exact absurd hq (hp _ _ _ _ _ _)
  ·obtain⟨x,h1,h2⟩:=Option.bind_eq_some_iff.1 hr;rw[h1];exact congrArg some h2
theorem NH{av:AV}(hd:∀h,NZ s h->F1 P (op s) s.env h av h)(hk:Ok P f R (put s av))(hc:okS s):Ok P f R s:=by
 obtain⟨pc,k,env,h⟩:=s;cases pc with
 |v L=>
  cases L with
  |nil=>cases hc
  |cons o L=>exact .inr (.inl ⟨by simpa[okS]using hc,av,h,hd h rfl,hk⟩)
 |s b L S gl w tl=>
  cases L with
  |nil=>cases hc
  |cons o L=>
   have hc':K7 env o.guard=some true/\AG o.op:=by simpa[okS]using hc
   exact .inr (.inl ⟨hc'.1,hc'.2,av,λh2 hi=>(hd h2 hi).q,hk⟩)
 |_=>cases hc
theorem Bl{av:AV}{h':A3}(hd:F1 P (op s) s.env s.h av h')(hk:Ok P f R (N0 s av h'))(hc:BD s)(hs:DY s h'=Am s):Ok P f R s:=by
 obtain⟨pc,k,env,h⟩:=s;cases pc with
 |v L=>
  cases L with
  |nil=>cases hc
  |cons o L=>exact .inr (.inl ⟨by simpa[BD]using hc,av,h',hd,hk⟩)
 |s b L S gl w tl=>
  cases L with
  |nil=>
   cases w with
   |none=>cases hc
   |some w=>exact⟨av,h',hd,hk⟩
  |cons o L=>
   have hc':(K7 env o.guard=some true/\AG o.op=false)/\Dl o=false:=by simpa[BD]using hc
   have hs':Ew S h'=S.map (λp=>some (some p.2))/\h'.A8=gl:=by simpa[DY,Am]using hs
   exact .inr (.inr (.inl ⟨hc'.1.1,hc'.1.2,hc'.2,av,h',hd,aL hs'.1 hs'.2,hk⟩))
 |_=>cases hc
theorem ev0(m:Nat){av:AV}(hd:∀h,F1 P (op (run m s)) (run m s).env h av h)(hk:Ok P f R (put (run m s) av))(hc:okS (run m s)):Ok P f R s:=H1 m (NH (λh _=>hd h) hk hc)
variable {α:Type}{W:α->Prop}{p q:Prop}
theorem KI(m:Nat)(E:En α){l:b4c α}{n:Int}(hk:∀{y},Wk P f R (put (run m s) (.D3 (E.e y) 0)) (W y))(hc:okS (run m s):=by kernel_rfl)(ho:op (run m s)=.Bn E.sz (oX (op (run m s))) (oY (op (run m s))):=by kernel_rfl)(hx:BU (xv (run m s))=some (List.map E.f l):=by kernel_rfl)(hi:BN (yv (run m s))=some n:=by kernel_rfl):Wk P f R s (IX l n W):=λhw=>by
 obtain⟨y,h1,h0,hw⟩:=hw;exact ev0 m (λh=>by rw[ho];exact xN h0 h1 (E.eq y) hx hi (E.len y)) (hk hw) hc
theorem KL{V:Prop}(m:Nat)(E:En α)(l:b4c α)(hk:Wk P f R (put (run m s) (.v (.int .i64 l.length))) V)(hc:okS (run m s):=by kernel_rfl)(ho:op (run m s)=.len false (oX (op (run m s))):=by kernel_rfl)(hx:BU (xv (run m s))=some (List.map E.f l):=by kernel_rfl):Wk P f R s V:=λhw=>ev0 m (λh=>by rw[ho];exact l5 l E.f hx) (hk hw) hc
theorem BW(m:Nat){g:FuncId}{gl:b4c (Nat × b4c AV)}{args:b4c AV}{e:α->AV}(hk:∀{y},Wk P f R (put (run m s) (e y)) (W y))(hc:okS (run m s):=by kernel_rfl)(ho:op (run m s)=.call (.c (.clo (.func g) [] [])) (oA (op (run m s))):=by kernel_rfl)(ha:(evs (run m s).env (oA (op (run m s)))).map (List.map nz)=some args:=by kernel_rfl)(hg:JK (run m s)=gl:=by kernel_rfl)(hgl:J3 gl:=by kernel_rfl)(hp:B7 args:=by first|rfl|simp):Wk P f R s (∃y,A9 P gl g args (e y)/\W y):=λhw=>by
 obtain⟨y,h1,hw⟩:=hw;subst hg;refine H1 m (NH (λh hs=>?_) (hk hw) hc);rw[ho];rw[<-lW hs]at h1 hgl;exact u5 h1 hp ha hgl
theorem pgA{P:Program}{gl:b4c (Nat × b4c AV)}{f:FuncId}{a:b4c AV}{r:AV}(h:A9 P [] f a r):A9 P gl f a r:=⟨h.1,λw outer cargs ho _ hr=>h.2 w outer cargs ho (λg cells hg=>by cases hg) hr⟩
theorem KC(m:Nat){g:FuncId}{args:b4c AV}{e:α->AV}(hk:∀{y},Wk P f R (put (run m s) (e y)) (W y))(hc:okS (run m s):=by kernel_rfl)(ho:op (run m s)=.call (.c (.clo (.func g) [] [])) (oA (op (run m s))):=by kernel_rfl)(ha:(evs (run m s).env (oA (op (run m s)))).map (List.map nz)=some args:=by kernel_rfl)(hgl:J3 (JK (run m s)):=by kernel_rfl)(hp:B7 args:=by first|rfl|simp):Wk P f R s (∃y,A9 P [] g args (e y)/\W y):=λhw=>by
 obtain⟨y,h1,hw⟩:=hw;exact BW m hk hc ho ha rfl hgl hp ⟨y,pgA h1,hw⟩
theorem KF(m:Nat){gl:b4c (Nat × b4c AV)}{args:b4c AV}{F:AV}{e:α->AV}(hk:∀{y},Wk P f R (put (run m s) (e y)) (W y))(hc:okS (run m s):=by kernel_rfl)(ho:op (run m s)=.call (oX (op (run m s))) (oA (op (run m s))):=by kernel_rfl)(hf:xv (run m s)=some F:=by kernel_rfl)(ha:(evs (run m s).env (oA (op (run m s)))).map (List.map nz)=some args:=by kernel_rfl)(hg:JK (run m s)=gl:=by kernel_rfl)(hgl:J3 gl:=by kernel_rfl):Wk P f R s (∃y,N8 P gl F args (e y)/\W y):=λhw=>by
 obtain⟨y,h1,hw⟩:=hw;subst hg;refine H1 m (NH (λh hs=>?_) (hk hw) hc);rw[ho];rw[<-lW hs]at h1 hgl;exact b0l h1 hf ha hgl
theorem Z2(m:Nat){t:b4b}{n:Int}(hk:Wk P f R (put (run m s) (.v (.int .u8 (E2 t n.toNat)))) p)(hc:okS (run m s):=by kernel_rfl)(ho:op (run m s)=.Cl (oX (op (run m s))) (oY (op (run m s))):=by kernel_rfl)(hx:xv (run m s)=some (.v (.string t)):=by kernel_rfl)(hi:BN (yv (run m s))=some n:=by kernel_rfl):Wk P f R s (SI t n p):=λhw=>ev0 m (λh=>by rw[ho];exact ud hw.1 hx hi) (hk hw.2) hc
theorem BF(m:Nat){t:b4b}{a u:Int}(hk:Wk P f R (put (run m s) (.v (.string (t.extract a.toNat u.toNat)))) p)(hc:okS (run m s):=by kernel_rfl)(ho:op (run m s)=.CM (oX (op (run m s))) (QQ (op (run m s))) (QN (op (run m s))):=by kernel_rfl)(hx:xv (run m s)=some (.v (.string t)):=by kernel_rfl)(h3:(J9 (run m s).env (QQ (op (run m s)))).bind (K2 0)=some a:=by kernel_rfl)(h4:(J9 (run m s).env (QN (op (run m s)))).bind (K2 t.size)=some u:=by kernel_rfl):Wk P f R s (SS t a u p):=λhw=>ev0 m (λh=>by rw[ho];exact k9 hw.1 hx h3 h4) (hk hw.2) hc
theorem ED(m:Nat)(E:En α){l:b4c α}{a u:Int}(hk:Wk P f R (put (run m s) (.sl (List.map E.f ((l.take u.toNat).drop a.toNat)) .no)) p)(hc:okS (run m s):=by kernel_rfl)(ho:op (run m s)=.CL E.sz (oX (op (run m s))) (QQ (op (run m s))) (QN (op (run m s))) none:=by kernel_rfl)(hx:BU (xv (run m s))=some (List.map E.f l):=by kernel_rfl)(h3:(J9 (run m s).env (QQ (op (run m s)))).bind (K2 0)=some a:=by kernel_rfl)(h4:(J9 (run m s).env (QN (op (run m s)))).bind (K2 l.length)=some u:=by kernel_rfl)(h5:((QQ (op (run m s))).isSome||(QN (op (run m s))).isSome):=by kernel_rfl):Wk P f R s ((0<=a/\a<=u/\u<=(l.length:Int))/\p):=λhw=>ev0 m (λh=>by rw[ho];exact a82 hw.1 E.ro.hs hx h3 h4 h5) (hk hw.2) hc
theorem KB(m:Nat){c:Prop}(hk:Wk P f R (put (run m s) (.v (bz (run m s)))) p)(hc:okS (run m s):=by kernel_rfl)(ho:op (run m s)=.bin (oB (op (run m s))) (oX (op (run m s))) (oY (op (run m s))):=by kernel_rfl)(hx:(Rv (oB (op (run m s))) (xv (run m s)) (yv (run m s))).map (·.1)=some c:=by kernel_rfl):Wk P f R s (c/\p):=λhw=>by
 obtain⟨⟨c',r⟩,h1,h2⟩:=Option.map_eq_some_iff.1 hx;have h3:bz (run m s)=r:=by unfold bz;rw[h1];rfl
 have h4:c'=c:=h2;subst h4;rw[h3]at hk;exact ev0 m (λh=>by rw[ho];exact a7d r hw.1 h1) (hk hw.2) hc
theorem I8(m:Nat){a b:b4b}(hk:Wk P f R (put (run m s) (.v (.string (a++b)))) p)(hc:okS (run m s):=by kernel_rfl)(ho:op (run m s)=.bin .add (oX (op (run m s))) (oY (op (run m s))):=by kernel_rfl)(hx:xv (run m s)=some (.v (.string a)):=by kernel_rfl)(hy:yv (run m s)=some (.v (.string b)):=by kernel_rfl):Wk P f R s (CT a b p):=λhw=>ev0 m (λh=>by rw[ho];exact ui hw.1 hx hy) (hk hw.2) hc
def HM(h:A3)(y:b4d AV)(E:En α)(m:b4c α):Prop:=y.bind (Q6 h E.sz)=some (List.map E.f m)
theorem mF{h:A3}{y:b4d AV}{E:En α}{l:b4c α}(hm:y.bind (Q6 h E.sz)=some (List.map E.f l):=by kernel_rfl):HM h y E l:=hm
theorem mE{h:A3}{y:b4d AV}{E:En α}{l:b4c α}(hm:y.bind (Q6 h E.sz)=some (List.map E.e l):=by kernel_rfl):HM h y E l:=by
 have:=funext E.eq;unfold HM;rw[this];exact hm
def HX(x:b4d AV)(E:En α)(l:b4c α):Prop:=BU x=some (List.map E.f l)
theorem xF{x:b4d AV}{E:En α}{l:b4c α}(h:BU x=some (List.map E.f l):=by kernel_rfl):HX x E l:=h
theorem xE{x:b4d AV}{E:En α}{l:b4c α}(h:BU x=some (List.map E.e l):=by kernel_rfl):HX x E l:=by
 have:=funext E.eq;unfold HX;rw[this];exact h
theorem KA(m:Nat)(E:En α){l l2:b4c α}{b:Nat}(hm:HM (run m s).h (yv (run m s)) E l2)(hk:Wk P f R (N0 (run m s) (.sl (List.map E.f (l++l2)) (.own (OM (xv (run m s))))) ⟨(run m s).h.A4,(run m s).h.A6.set (OM (xv (run m s))) ((l++l2).length,E.sz),(run m s).h.A8⟩) p)(hc:BD (run m s):=by kernel_rfl)(hs:DY (run m s) ⟨(run m s).h.A4,(run m s).h.A6.set (OM (xv (run m s))) ((l++l2).length,E.sz),(run m s).h.A8⟩=Am (run m s):=by kernel_rfl)(ho:op (run m s)=.append (oE (op (run m s))) E.sz b (oX (op (run m s))) (oY (op (run m s))):=by kernel_rfl)(hx:xv (run m s)=some (.sl (List.map E.f l) (.own (OM (xv (run m s))))):=by kernel_rfl)(hb:(run m s).h.A6[OM (xv (run m s))]? =some (l.length,E.sz):=by kernel_rfl):Wk P f R s ((l.length+l2.length)*b<=140737488355328/\p):=λhw=>H1 m (Bl (by rw[ho];exact f7 _ E.f l l2 hw.1 E.ro.hs hm hx hb) (hk hw.2) hc hs)
theorem Cm(m:Nat)(E:En α){l l2:b4c α}{b:Nat}(hm:HM (run m s).h (yv (run m s)) E l2)(hX:HX (xv (run m s)) E l)(hk:Wk P f R (N0 (run m s) (.sl (List.map E.f (l++l2)) (.own (run m s).h.A6.length)) ⟨(run m s).h.A4,(run m s).h.A6++[((l++l2).length,E.sz)],(run m s).h.A8⟩) p)(hc:BD (run m s):=by kernel_rfl)(hs:DY (run m s) ⟨(run m s).h.A4,(run m s).h.A6++[((l++l2).length,E.sz)],(run m s).h.A8⟩=Am (run m s):=by kernel_rfl)(ho:op (run m s)=.append (oE (op (run m s))) E.sz b (oX (op (run m s))) (oY (op (run m s))):=by kernel_rfl)(hx:XV (xv (run m s))=some .full:=by kernel_rfl):Wk P f R s ((l.length+l2.length)*b<=140737488355328/\l2≠[]/\p):=λhw=>H1 m (Bl (by rw[ho];exact pD E.f l l2 hw.1 E.ro.hs hw.2.1 hm hX hx) (hk hw.2.2) hc hs)
theorem KS(m:Nat){l:b4c Int}{W:b4b->Prop}(hk:∀{t},Wk P f R (put (run m s) (.v (.string t))) (W t))(hc:okS (run m s):=by kernel_rfl)(ho:op (run m s)=.conv .str (oX (op (run m s))):=by kernel_rfl)(hx:BU (xv (run m s))=some (List.map (λn=>[AV.v (.int .u8 n)]) l):=by kernel_rfl):Wk P f R s (∃t,l=bI t/\W t):=λhw=>by
 obtain⟨t,h1,hw⟩:=hw;exact ev0 m (λh=>by rw[ho];exact a9n h1 hx) (hk hw) hc
theorem H2(m:Nat){len:Nat}{n:Int}(sz:Nat)(hk:Wk P f R (put (run m s) (.ptr (CU (xv (run m s))) (0+n.toNat*sz))) p)(hc:okS (run m s):=by kernel_rfl)(ho:op (run m s)=.Bn sz (oX (op (run m s))) (oY (op (run m s))):=by kernel_rfl)(hx:xv (run m s)=some (.row (CU (xv (run m s))) 0 sz len (yx (xv (run m s)))):=by kernel_rfl)(hi:BN (yv (run m s))=some n:=by kernel_rfl):Wk P f R s ((0<=n/\n<(len:Int))/\p):=λhw=>ev0 m (λh=>by rw[ho];exact o0 _ len _ hw.1 hx hi) (hk hw.2) hc
theorem M9(m:Nat)(E:En α){l:b4c α}{i:Nat}(hk:∀{y},Wk P f R (put (run m s) (.agg (E.e y))) (W y))(hc:okS (run m s):=by kernel_rfl)(ho:op (run m s)=.load (some E.sz) (oX (op (run m s))):=by kernel_rfl)(hx:xv (run m s)=some (.ptr (CU (xv (run m s))) (0+i*E.sz)):=by kernel_rfl)(hr:RO (run m s) (CU (xv (run m s)))=some (cellsOf E.f l):=by kernel_rfl):Wk P f R s (∃y,l[i]? =some y/\W y):=λhw=>by
 obtain⟨y,h1,hw⟩:=hw;exact H1 m (NH (λh hs=>by rw[ho];exact b0m E.ro.hs E.ro.hn h1 (E.eq y) (Nat.zero_add _) hx (ju hs hr)) (hk hw) hc)
def Mm(l:b4c AV)(k:Nat):AV:=l[k]?.getD .nil
theorem KR1(m:Nat)(E:En α)(k:Nat){l:b4c α}{i:Nat}(hk:∀{y},Wk P f R (put (run m s) (Mm (E.e y) k)) (W y))(hc:okS (run m s):=by kernel_rfl)(ho:op (run m s)=.load none (oX (op (run m s))):=by kernel_rfl)(hx:xv (run m s)=some (.ptr (CU (xv (run m s))) (0+i*E.sz+k)):=by kernel_rfl)(hr:RO (run m s) (CU (xv (run m s)))=some (cellsOf E.f l):=by kernel_rfl)(hb:Nat.ble (k+1) E.sz:=by kernel_rfl):Wk P f R s (∃y,l[i]? =some y/\W y):=λhw=>by
 obtain⟨y,h1,hw⟩:=hw;have hlt:k<E.sz:=b37 hb
 have hg:(E.f y)[k]? =some (Mm (E.e y) k):=by
  rw[E.eq y];have:k<(E.e y).length:=by rw[E.len y];exact hlt
  simp[Mm,this]
 exact H1 m (NH (λh hs=>by rw[ho];exact xk E.ro.hs E.ro.hn h1 hlt hg (by omega) hx (ju hs hr)) (hk hw) hc)
theorem BA(m:Nat)(E:En α)(z:α){l:b4c α}{i:Nat}(hk:Wk P f R (N0 (run m s) (.tuple []) ⟨(run m s).h.A4.set (CU (xv (run m s))) (some (cellsOf E.f (l.set i z))),(run m s).h.A6,(run m s).h.A8⟩) p)(hc:BD (run m s):=by kernel_rfl)(hs:DY (run m s) ⟨(run m s).h.A4.set (CU (xv (run m s))) (some (cellsOf E.f (l.set i z))),(run m s).h.A6,(run m s).h.A8⟩=Am (run m s):=by kernel_rfl)(ho:op (run m s)=.store E.sz (oX (op (run m s))) (oY (op (run m s))):=by kernel_rfl)(hx:xv (run m s)=some (.ptr (CU (xv (run m s))) (0+i*E.sz)):=by kernel_rfl)(hy:(yv (run m s)).map (λa=>(a.isTuple,a.cells))=some (false,E.e z):=by kernel_rfl)(hr:(run m s).h.A4[CU (xv (run m s))]? =some (some (cellsOf E.f l)):=by kernel_rfl):Wk P f R s (i<l.length/\p):=λhw=>by
 obtain⟨a,h1,h2⟩:=Option.map_eq_some_iff.1 hy;have h3:=congrArg Prod.fst h2;have h4:=congrArg Prod.snd h2;exact H1 m (Bl (by rw[ho];exact b01 z E.ro.hs E.ro.hn hw.1 ((E.eq z).trans h4.symm) (Nat.zero_add _) hx h1 h3 hr) (hk hw.2) hc hs)
theorem KM(m:Nat)(E:En α)(z:α){L C:Int}{b:Nat}(hk:Wk P f R (N0 (run m s) (.row (run m s).h.A4.length 0 E.sz L.toNat C.toNat) ⟨(run m s).h.A4++[some (cellsOf E.f (List.replicate C.toNat z))],(run m s).h.A6,(run m s).h.A8⟩) p)(hc:BD (run m s):=by kernel_rfl)(hs:DY (run m s) ⟨(run m s).h.A4++[some (cellsOf E.f (List.replicate C.toNat z))],(run m s).h.A6,(run m s).h.A8⟩=Am (run m s):=by kernel_rfl)(ho:op (run m s)=.make E.sz b (E.e z) (oX (op (run m s))) (oY (op (run m s))):=by kernel_rfl)(hx:BN (xv (run m s))=some L:=by kernel_rfl)(hy:BN (yv (run m s))=some C:=by kernel_rfl):Wk P f R s ((0<=L/\L<=C/\C*b<=140737488355328)/\p):=λhw=>H1 m (Bl (by rw[ho];exact vB E.f z L C hw.1 hx hy (E.eq z).symm (E.ro.hs z)) (hk hw.2) hc hs)
def oZ0:G7->b4c AV
 |.make _ _ z _ _=>z
 |_=>[]
theorem KM0{f':Nat}(m:Nat){α:Type}(f:α->b4c AV){C:Int}{b:Nat}(hk:Wk P f' R (N0 (run m s) (.sl (List.map f ([]:b4c α)) (.own (run m s).h.A6.length)) ⟨(run m s).h.A4,(run m s).h.A6++[(([]:b4c α).length,1)],(run m s).h.A8⟩) p)(hc:BD (run m s):=by kernel_rfl)(hs:DY (run m s) ⟨(run m s).h.A4,(run m s).h.A6++[(0,1)],(run m s).h.A8⟩=Am (run m s):=by kernel_rfl)(ho:op (run m s)=G7.make 1 b (oZ0 (op (run m s))) (oX (op (run m s))) (oY (op (run m s))):=by kernel_rfl)(hx:BN (xv (run m s))=some 0:=by kernel_rfl)(hy:BN (yv (run m s))=some C:=by kernel_rfl):Wk P f' R s ((0<=C/\C*b<=140737488355328)/\p):=λhw=>H1 m (Bl (by rw[ho];exact yF C hw.1 hx hy) (hk hw.2) hc hs)
end
def gT(s:Mc):Nat:=match (WR s).guard with
 |some (t,_)=>t
 |none=>0
def cv(s:Mc):b4d AV:=match s.pc with
 |.c (.cond c _ _)=>c.ev s.env
 |.v (⟨_,_,some (t,_)⟩::_)=>get s.env t
 |.s _ (⟨_,_,some (t,_)⟩::_) _ _ _ _=>get s.env t
 |_=>none
def br(s:Mc)(b:b4e):Mc:=match s.pc with
 |.c (.cond _ x y)=>⟨.c (if b=true then x else y),s.k,s.env,s.h⟩
 |.v (⟨d,o,some (t,w)⟩::L)=>⟨.v (⟨d,o,some (t,w)⟩::L),s.k,(t,.v (.bool b))::s.env,s.h⟩
 |.s b' (⟨d,o,some (t,w)⟩::L) S gl q tl=>⟨.s b' (⟨d,o,some (t,w)⟩::L) S gl q tl,s.k,(t,.v (.bool b))::s.env,s.h⟩
 |_=>s
section
variable {P:Program}{f:Nat}{R:Rm}{s:Mc}
theorem Ps{B:b4e}(hv:cv s=some (.v (.bool B)))(h1:B=true->Ok P f R (br s true))(h2:B=false->Ok P f R (br s false)):Ok P f R s:=by
 obtain⟨pc,k,env,h⟩:=s;simp only[cv]at hv;split at hv
 ·exact Rs hv h1 h2
 ·cases hB:B with
  |true=>exact Oq (RW hB hv) rfl (h1 hB)
  |false=>exact Oq (RW hB hv) rfl (h2 hB)
 ·cases hB:B with
  |true=>exact Oq (RW hB hv) rfl (h1 hB)
  |false=>exact Oq (RW hB hv) rfl (h2 hB)
 ·cases hv
theorem Y0(m:Nat){B:b4e}{p q:Prop}(h1:B=true->Wk P f R (br (run m s) true) p)(h2:B=false->Wk P f R (br (run m s) false) q)(hv:cv (run m s)=some (.v (.bool B)):=by kernel_rfl):Wk P f R s (IF B p q):=λhw=>H1 m (Ps hv (λh=>h1 h (hw.1 h)) λh=>h2 h (hw.2 h))
theorem KW(m:Nat){B:b4e}{p q:Prop}(h1:Wk P f R (br (run m s) true) p)(h2:Wk P f R (br (run m s) false) q)(hv:cv (run m s)=some (.v (.bool B)):=by kernel_rfl):Wk P f R s (IF B p q):=Y0 m (λ_=>h1) (λ_=>h2) hv
theorem O8{V:Prop}(m:Nat){B b:b4e}(hB:B=b)(hk:Wk P f R (br (run m s) b) V)(hv:cv (run m s)=some (.v (.bool B)):=by kernel_rfl):Wk P f R s V:=λhw=>by
 subst hB
 replace hk:=hk hw
 exact H1 m (Ps hv (λh=>by rw[h]at hk;exact hk) λh=>by rw[h]at hk;exact hk)
def qz(n:Nat):Pc->Pc
 |.v L=>.v (L.drop n)
 |.s b L S gl w tl=>if Nat.ble n L.length=true then .s b (L.drop n) S gl w tl else .v (tl.drop (n - L.length - 1))
 |x=>x
def Fv(s:Mc)(n:Nat):Nat:=match s.pc with
 |.v L=>(((L[n - 1]?).bind λo=>o.dst)).getD 0
 |.s _ L _ _ _ tl=>if Nat.ble n L.length=true then(((L[n - 1]?).bind λo=>o.dst)).getD 0 else(((tl[n - L.length - 2]?).bind λo=>o.dst)).getD 0
 |_=>0
def jn(s:Mc)(n:Nat)(a:AV):Mc:=⟨qz n s.pc,s.k,(Fv s n,a)::drop (gT s) s.env,s.h⟩
def Dj(s:Mc):Mc:=⟨s.pc,s.k,[],s.h⟩
def pp(d t:Nat)(e env:Env):b4e:=(e.take (e.length - env.length)).all λp=>p.1==t||p.1==d||(get env p.1).isNone
theorem a9w{d t:Nat}{a:AV}{e env:Env}(h1:get e d=some a)(h2:e.drop (e.length - env.length)=env)(h3:pp d t e env):O9 ((d,a)::drop t env) e:=by
 intro u b hu;simp only[get]at hu;split at hu
 ·rename_i hd;subst hd;cases hu;exact h1
 ·rename_i hd
  have h4:u≠t:=by
   rintro rfl
   have:∀{e:Env},get (drop u e) u=none:=by
    intro e
    induction e with
    |nil=>rfl
    |cons q e ih=>
     obtain⟨v,c⟩:=q;simp only[drop];split
     ·exact ih
     ·rename_i hv;simp only[get];rw[if_neg hv];exact ih
   rw[this]at hu;cases hu
  have h5:get env u=some b:=by
   have:∀{e:Env},get (drop t e) u=get e u:=by
    intro e
    induction e with
    |nil=>rfl
    |cons q e ih=>
     obtain⟨v,c⟩:=q;simp only[drop];split
     ·rename_i hv;subst hv;simp only[get];rw[if_neg (λh=>h4 h.symm)];exact ih
     ·simp only[get];rw[ih]
   rw[<-this];exact hu
  rw[<-List.take_append_drop (e.length - env.length) e,bU,h2];split
  ·rename_i c hc;have hm:=TG hc;have h6:=List.all_eq_true.1 h3 _ hm;simp only[Bool.or_eq_true,beq_iff_eq]at h6;rcases h6 with(h6|h6)|h6
   ·exact absurd h6 h4
   ·exact absurd h6.symm hd
   ·rw[h5]at h6;cases h6
  ·exact h5
def df(s:Mc)(n:Nat):b4d (b4e × AV × AV × AV):=match cv s,get (run n (br s true)).env (Fv s n),get (run n (br s false)).env (Fv s n) with
 |some (.v (.bool B)),some (.v (.bool x)),some (.v (.bool y))=>some (B,.v (.bool (bif B then x else y)),.v (.bool x),.v (.bool y))
 |some (.v (.bool B)),some (.v (.int k x)),some (.v (.int _ y))=>some (B,.v (.int k (bif B then x else y)),.v (.int k x),.v (.int k y))
 |some (.v (.bool B)),some (.v (.string x)),some (.v (.string y))=>some (B,.v (.string (bif B then x else y)),.v (.string x),.v (.string y))
 |_,_,_=>none
def dh(s:Mc)(n:Nat):AV:=((df s n).map λp=>p.2.1).getD .nil
def met(s s1:Mc)(n:Nat):b4e:=pp (Fv s n) (gT s) s1.env s.env&&(match s.pc with|.v _=>true|.s _ _ _ _ _ _=>true|_=>false)
theorem Tb{s s1:Mc}{n:Nat}{a:AV}(hk:Ok P f R (jn s n a))(ha:get s1.env (Fv s n)=some a)(hb:Dj s1=Dj (jn s n a))(hd:s1.env.drop (s1.env.length - s.env.length)=s.env)(hf:met s s1 n):Ok P f R s1:=by
 obtain⟨pc1,k1,env1,h1⟩:=s1;obtain⟨pc,k,env,h⟩:=s;simp only[Dj,jn,Mc.mk.injEq]at hb;obtain⟨rfl,rfl, -,rfl⟩:=hb;simp only[met,b3x]at hf;refine Oq (a9w ha hd hf.1) ?_ hk;cases pc with
 |s b L S gl w tl=>by_cases hq:Nat.ble n L.length=true<;>simp[qz,hq]
 |v L=>rfl
 |_=>cases hf.2
theorem KT{V:Prop}(m n:Nat)(hk:Wk P f R (jn (run m s) n (dh (run m s) n)) V)(h0:((df (run m s) n).map λp=>(some p.2.2.1,some p.2.2.2))=some (get (run n (br (run m s) true)).env (Fv (run m s) n),get (run n (br (run m s) false)).env (Fv (run m s) n)):=by kernel_rfl)(hb:(Dj (run n (br (run m s) true)),Dj (run n (br (run m s) false)))=(Dj (jn (run m s) n .nil),Dj (jn (run m s) n .nil)):=by kernel_rfl)(hd:((run n (br (run m s) true)).env.drop ((run n (br (run m s) true)).env.length - (run m s).env.length),(run n (br (run m s) false)).env.drop ((run n (br (run m s) false)).env.length - (run m s).env.length))=((run m s).env,(run m s).env):=by kernel_rfl)(hf:(met (run m s) (run n (br (run m s) true)) n&&met (run m s) (run n (br (run m s) false)) n):=by kernel_rfl):Wk P f R s V:=λhw=>by
 replace hk:=hk hw
 refine H1 m ?_;generalize run m s=s0 at*;obtain⟨⟨B,a,x,y⟩,h1,h2⟩:=Option.map_eq_some_iff.1 h0;have hV:dh s0 n=a:=by unfold dh;rw[h1];rfl
 rw[hV]at hk
 have hc:cv s0=some (.v (.bool B))/\a=bif B then x else y:=by
  unfold df at h1;split at h1
  ·rename_i h _ _;cases h1;exact⟨h,by cases B<;>rfl⟩
  ·rename_i h _ _;cases h1;exact⟨h,by cases B<;>rfl⟩
  ·rename_i h _ _;cases h1;exact⟨h,by cases B<;>rfl⟩
  ·cases h1
 simp only[Prod.mk.injEq]at h2 hb hd;simp only[b3x]at hf;refine Ps hc.1 (λhB=>?_) (λhB=>?_)
 ·have ha:=hc.2;rw[hB]at ha;subst ha;exact H1 n (Tb hk h2.1.symm hb.1 hd.1 hf.1)
 ·have ha:=hc.2;rw[hB]at ha;subst ha;exact H1 n (Tb hk h2.2.symm hb.2 hd.2 hf.2)
theorem KQh(m n:Nat){T:Type}(C:T->AV){B:b4e}{W:T->Prop}{p q:(T->Prop)->Prop}(hk:∀{z},Wk P f R (jn (run m s) n (C z)) (W z))(h1:∀{U:T->Prop},(∀z,Wk P f R (jn (run m s) n (C z)) (U z))->B=true->Wk P f R (br (run m s) true) (p U))(h2:∀{U:T->Prop},(∀z,Wk P f R (jn (run m s) n (C z)) (U z))->B=false->Wk P f R (br (run m s) false) (q U))(hv:cv (run m s)=some (.v (.bool B)):=by kernel_rfl):Wk P f R s (JN W λR=>IF B (p R) (q R)):=λhw=>by
 obtain⟨U,hU,h3,h4⟩:=hw;exact H1 m (Ps hv (λh=>h1 (λz hz=>hk (hU z hz)) h (h3 h)) λh=>h2 (λz hz=>hk (hU z hz)) h (h4 h))
theorem KQ(m n:Nat){T:Type}(C:T->AV){B:b4e}{W:T->Prop}{p q:(T->Prop)->Prop}(hk:∀{z},Wk P f R (jn (run m s) n (C z)) (W z))(h1:∀{U:T->Prop},(∀z,Wk P f R (jn (run m s) n (C z)) (U z))->Wk P f R (br (run m s) true) (p U))(h2:∀{U:T->Prop},(∀z,Wk P f R (jn (run m s) n (C z)) (U z))->Wk P f R (br (run m s) false) (q U))(hv:cv (run m s)=some (.v (.bool B)):=by kernel_rfl):Wk P f R s (JN W λR=>IF B (p R) (q R)):=KQh m n C hk (λk _=>h1 k) (λk _=>h2 k) hv
theorem KE(m:Nat){T:Type}{U:T->Prop}{C:T->AV}{s0:Mc}{n:Nat}{z:T}(key:∀z,Wk P f R (jn s0 n (C z)) (U z))(ha:get (run m s).env (Fv s0 n)=some (C z):=by kernel_rfl)(hb:Dj (run m s)=Dj (jn s0 n (C z)):=by kernel_rfl)(hd:(run m s).env.drop ((run m s).env.length - s0.env.length)=s0.env:=by kernel_rfl)(hf:met s0 (run m s) n:=by kernel_rfl):Wk P f R s (U z):=λhw=>H1 m (Tb (key z hw) ha hb hd hf)
abbrev kB(b:b4e):AV:=.v (.bool b)
def So(I:b4c Nat)(h:A3):b4c (Nat × b4c AV):=I.map λi=>(i,((h.A4[i]?).bind id).getD [])
def Fo(s:Mc)(S:b4c (Nat × b4c AV)):Mc:=match s.pc with
 |.c (.drawn _ a t)=>⟨.s true a S s.h.A8 none t,s.k,s.env,s.h⟩
 |_=>s
def ix(s:Mc):b4e:=match s.pc with
 |.c (.drawn o a _)=>BB a&&Jg (clo o) a
 |_=>false
theorem KD{V:Prop}(m:Nat)(I:b4c Nat)(hk:Wk P f R (Fo (run m s) (So I (run m s).h)) V)(hc:ix (run m s):=by kernel_rfl)(hS:Ew (So I (run m s).h) (run m s).h=(So I (run m s).h).map (λp=>some (some p.2)):=by kernel_rfl):Wk P f R s V:=λhw=>by
 replace hk:=hk hw
 refine H1 m ?_;generalize run m s=s0 at*;obtain⟨pc,k,env,h⟩:=s0;simp only[ix]at hc;split at hc
 ·rw[b3x]at hc;exact dS _ hk hc.1 hc.2 hS
 ·cases hc
def Eu(s:Mc)(S:b4c (Nat × b4c AV)):Mc:=match s.pc with
 |.c (.drawn _ a t)=>⟨.s false (a.take (a.length - 1)) S s.h.A8 a[a.length - 1]? t,s.k,s.env,s.h⟩
 |_=>s
def oy(s:Mc):b4e:=match s.pc with
 |.c (.drawn o a _)=>BB a&&Pv (clo o) a (a.length - 1)&&(match a[a.length - 1]? with|some w=>w.guard.isNone&&w.dst.isNone|none=>false)
 |_=>false
theorem It{V:Prop}(m:Nat)(I:b4c Nat)(hk:Wk P f R (Eu (run m s) (So I (run m s).h)) V)(hc:oy (run m s):=by kernel_rfl)(hS:Ew (So I (run m s).h) (run m s).h=(So I (run m s).h).map (λp=>some (some p.2)):=by kernel_rfl):Wk P f R s V:=λhw=>by
 replace hk:=hk hw
 refine H1 m ?_;generalize run m s=s0 at*;obtain⟨pc,k,env,h⟩:=s0;simp only[oy]at hc;split at hc
 ·rename_i o a t;simp only[b3x]at hc;obtain⟨⟨h1,h2⟩,h3⟩:=hc;simp only[Eu]at hk;split at h3
  ·rename_i w hwq;rw[hwq]at hk;rw[b3x]at h3
   have hlen:a.length=(a.length - 1)+1:=by
    have:=(List.getElem?_eq_some_iff.1 hwq).1;omega
   exact dL (a.length - 1) _ hwq hk hlen (Option.isNone_iff_eq_none.1 h3.1) (Option.isNone_iff_eq_none.1 h3.2) h1 h2 hS
  ·cases h3
 ·cases hc
def EB(s:Mc):AV × A3:=(opn (WR s) s.env s.h).getD (.nil,s.h)
theorem KV{V:Prop}(m:Nat)(hk:Wk P f R (N0 (run m s) (EB (run m s)).1 (EB (run m s)).2) V)(ho:(opn (WR (run m s)) (run m s).env (run m s).h).isSome:=by kernel_rfl)(hc:BD (run m s):=by kernel_rfl)(hs:DY (run m s) (EB (run m s)).2=Am (run m s):=by kernel_rfl):Wk P f R s V:=λhw=>by
 replace hk:=hk hw
 obtain⟨p,hp⟩:=Option.isSome_iff_exists.1 ho;have hq:EB (run m s)=p:=by unfold EB;rw[hp];rfl
 rw[hq]at hk hs;exact H1 m (Bl (eV hp) hk hc hs)
def FM:E8->b4c Fr->b4c (Pc × b4c Fr)
 |.seq a b,k=>(.c b,k)::(FM a (.sq b::k)++FM b k)
 |.cond _ a b,k=>FM a k++FM b k
 |.block i a,k=>FM a (.bk i::k)
 |.loop a,k=>(.l a,k)::FM a (.lp a::k)
 |.scope a,k=>match FL a with
  |some l=>(.g l a,k)::FM a (.sc l a::k)
  |none=>FM a (.sn::k)
 |_,_=>[]
def pos(P:Program)(f i:Nat):Pc × b4c Fr:=((FM (EA P f) [])[i]?).getD (.n .normal,[])
def J(P:Program)(f:Nat)(R:Rm)(i:Nat)(e:Env)(h:A3):Prop:=Ok P f R ⟨(pos P f i).1,(pos P f i).2,e,h⟩
def GA(s:Mc):b4e:=match s.pc with
 |.c _=>true
 |.l _=>true
 |.g _ _=>true
 |_=>false
theorem Nn(hc:GA s)(hg:∀(σ:Sg) (a:Act),St σ s.h s.env (BG P f) a->∃σ' h' env',σ'.w=σ.w/\Le σ σ'/\St σ' h' env' (BG P f) a/\Ok P f R ⟨s.pc,s.k,env',h'⟩):Ok P f R s:=by
 obtain⟨pc,k,env,h⟩:=s;cases pc with
 |c x=>exact Ur hg
 |l x=>exact pk hg
 |g l x=>exact a3n hg
 |_=>cases hc
def Ed(Z:b4c Nat)(env:Env)(p:Nat × AV):b4d AV:=if Z.contains p.1=true then(get env p.1).map nz else get env p.1
theorem b1j{σ:Sg}{h:A3}{env e:Env}{N:Nat}{a:Act}{Z:b4c Nat}(he:e.map (Ed Z env)=e.map λp=>some p.2)(hs:St σ h env N a):St σ h e N a:=⟨hs.inv,λt b ht=>by
 obtain⟨i,hi⟩:=List.mem_iff_getElem?.1 (TG ht);have h1:=congrArg (λl=>l[i]?) he;simp only[b31,hi,Option.map_some,b4a]at h1;unfold Ed at h1;split at h1
 ·obtain⟨c,h2,rfl⟩:=Option.map_eq_some_iff.1 h1;obtain⟨y,h3,h4⟩:=hs.env t c h2;exact⟨y,h3,h4.nz⟩
 ·exact hs.env t b h1,hs.size,hs.defers⟩
theorem cp{e:Env}(Z:b4c Nat)(hc:GA s)(he:e.map (Ed Z s.env)=e.map λp=>some p.2)(hk:Ok P f R ⟨s.pc,s.k,e,s.h⟩):Ok P f R s:=Nn hc λσ a hs=>⟨σ,s.h,e,rfl,Le.refl σ,b1j he hs,hk⟩
theorem QI(m:Nat)(Z:b4c Nat){i:Nat}{e:Env}{h:A3}(hp:((run m s).pc,(run m s).k,(run m s).h)=((pos P f i).1,(pos P f i).2,h):=by kernel_rfl)(hc:GA (run m s):=by kernel_rfl)(he:e.map (Ed Z (run m s).env)=e.map (λp=>some p.2):=by kernel_rfl):Wk P f R s (J P f R i e h):=λhw=>by
 simp only[Prod.mk.injEq]at hp;refine H1 m (cp Z hc he ?_);rw[hp.1,hp.2.1,hp.2.2];exact hw
theorem KJ(m:Nat){i:Nat}{e:Env}{h:A3}(hp:((run m s).pc,(run m s).k,(run m s).h)=((pos P f i).1,(pos P f i).2,h):=by kernel_rfl)(hc:GA (run m s):=by kernel_rfl)(he:e.map (Ed [] (run m s).env)=e.map (λp=>some p.2):=by kernel_rfl):Wk P f R s (J P f R i e h):=QI m [] hp hc he
theorem fJ{V:Prop}{i:Nat}{e:Env}{h:A3}(hw:V)(hk:Wk P f R ⟨(pos P f i).1,(pos P f i).2,e,h⟩ V):J P f R i e h:=hk hw
theorem kF:Wk P f R s False:=False.elim
theorem vE{α:Type}{A B:Prop}(l:b4c α)(h1:l=[]->Wk P f R s A)(h2:l≠[]->Wk P f R s B):Wk P f R s ((l=[]->A)/\(l≠[]->B)):=λhw=>(Classical.em (l=[])).elim (λh=>h1 h (hw.1 h)) λh=>h2 h (hw.2 h)
theorem qp(m:Nat){α β:Type}{g:FuncId}{gl:b4c (Nat × b4c AV)}{args:b4c AV}{e:b4d α × β->AV}{A:α->β->Prop}{B:β->Prop}(h1:∀{x z},Wk P f R (put (run m s) (e (some x,z))) (A x z))(h0:∀{z},Wk P f R (put (run m s) (e (none,z))) (B z))(hc:okS (run m s):=by kernel_rfl)(ho:op (run m s)=.call (.c (.clo (.func g) [] [])) (oA (op (run m s))):=by kernel_rfl)(ha:(evs (run m s).env (oA (op (run m s)))).map (List.map nz)=some args:=by kernel_rfl)(hg:JK (run m s)=gl:=by kernel_rfl)(hgl:J3 gl:=by kernel_rfl)(hp:B7 args:=by first|rfl|simp):Wk P f R s (∃y,A9 P gl g args (e y)/\((∀x z,y=(some x,z)->A x z)/\(∀z,y=(none,z)->B z))):=BW m (λ{y} hw=>match y,hw with
 |(some x,z),hw=>h1 (hw.1 _ _ rfl)
 |(none,z),hw=>h0 (hw.2 _ rfl)) hc ho ha hg hgl hp
def Ik(h:A3):b4c b4e:=h.A4.map Option.isSome
theorem E1(m:Nat)(Z:b4c Nat){i:Nat}{e:Env}{h:A3}(hp:((run m s).pc,(run m s).k,I0 (Ik h) (run m s).h.A4,(run m s).h.A6.take h.A6.length,(run m s).h.A8)=((pos P f i).1,(pos P f i).2,h.A4,h.A6,h.A8):=by kernel_rfl)(hc:GA (run m s):=by kernel_rfl)(he:e.map (Ed Z (run m s).env)=e.map (λp=>some p.2):=by kernel_rfl)(hm:((List.range R.kb).all (λk=>(Ik h).getD k false)&&Nat.ble R.kf h.A6.length&&J3 h.A8):=by kernel_rfl)(hlow:X3 (Ik h) h.A6.length e/\Q5 (Ik h) h.A6.length h.A4:=by constructor<;>first|rfl|simp[Ik]):Wk P f R s (J P f R i e h):=λhw=>by
 simp only[Prod.mk.injEq]at hp;simp only[b3x,b34,List.mem_range]at hm;refine H1 m (cp Z hc he ?_);generalize run m s=s0 at*;obtain⟨pc,k,env,h0⟩:=s0;obtain⟨h1,h2,h3,h4,h5⟩:=hp;simp only at h1 h2 h3 h4 h5
 have hw':Ok P f R ⟨pc,k,e,⟨I0 (Ik h) h0.A4,h0.A6.take h.A6.length,h0.A8⟩⟩:=by
  rw[h3,h4,h5,h1,h2];exact hw
 have hl2:Q5 (Ik h) h.A6.length (I0 (Ik h) h0.A4):=by rw[h3];exact hlow.2
 have hg:J3 h0.A8:=by rw[h5];exact hm.2
 cases pc with
 |c x=>exact a7q _ _ hm.1.1 (b37 hm.1.2) hlow.1 hl2 hg hw'
 |l x=>exact a2o _ _ hm.1.1 (b37 hm.1.2) hlow.1 hl2 hg hw'
 |g l x=>exact tN _ _ hm.1.1 (b37 hm.1.2) hlow.1 hl2 hg hw'
 |_=>cases hc
theorem KO{V:Prop}(m t sz:Nat)(hk:Wk P f R ⟨(run m s).pc,(run m s).k,(t,.sl [] (.own (run m s).h.A6.length))::(run m s).env,⟨(run m s).h.A4,(run m s).h.A6++[(0,sz)],(run m s).h.A8⟩⟩ V)(hc:GA (run m s):=by kernel_rfl)(hg:get (run m s).env t=some .nil:=by kernel_rfl):Wk P f R s V:=λhw=>H1 m (Nn hc λσ a hs=>by
 obtain⟨σ',h1,h2,h3⟩:=ls sz hg hs;exact⟨σ',_,_,h1,h2,h3,(hk hw)⟩)
def O1(s:Mc)(i:Nat):b4c AV:=((s.h.A4[i]?).bind id).getD []
theorem Kf{V:Prop}(m i j sz:Nat)(hk:Wk P f R ⟨(run m s).pc,(run m s).k,(run m s).env,⟨(run m s).h.A4.set i (some ((O1 (run m s) i).set j (.sl [] (.own (run m s).h.A6.length)))),(run m s).h.A6++[(0,sz)],(run m s).h.A8⟩⟩ V)(hc:GA (run m s):=by kernel_rfl)(hg:(run m s).h.A4[i]? =some (some (O1 (run m s) i)):=by kernel_rfl)(hj:(O1 (run m s) i)[j]? =some .nil:=by kernel_rfl):Wk P f R s V:=λhw=>H1 m (Nn hc λσ a hs=>by
 obtain⟨σ',h1,h2,h3⟩:=qR sz hg hj hs;exact⟨σ',_,_,h1,h2,h3,(hk hw)⟩)
theorem KNb{V:Prop}(m i j:Nat)(hk:Wk P f R ⟨(run m s).pc,(run m s).k,(run m s).env,⟨(run m s).h.A4.set i (some ((O1 (run m s) i).set j (K1 (Mm (O1 (run m s) i) j)))),(run m s).h.A6,(run m s).h.A8⟩⟩ V)(hc:GA (run m s):=by kernel_rfl)(hg:(run m s).h.A4[i]? =some (some (O1 (run m s) i)):=by kernel_rfl)(hj:(O1 (run m s) i)[j]? =some (Mm (O1 (run m s) i) j):=by kernel_rfl)(hi:(G4 (O1 (run m s) i)&&G4 ((O1 (run m s) i).set j (K1 (Mm (O1 (run m s) i) j)))):=by kernel_rfl):Wk P f R s V:=λhw=>by
 replace hk:=hk hw
 rw[b3x]at hi;exact H1 m (Nn hc λσ a hs=>⟨σ,_,_,rfl,Le.refl σ,a2p hg hj rfl hi.1 hi.2 hs,hk⟩)
def done(s:Mc):b4e:=match s.pc,s.k with
 |.n .ret,[]=>true
 |.n .normal,[]=>true
 |_,_=>false
theorem TU(hd:done s)(hk:R.Q (EE P f) .ret s.env s.h):Ok P f R s:=by
 obtain⟨pc,k,env,h⟩:=s;simp only[done]at hd;split at hd
 ·exact hk
 ·cases R<;>exact hk
 ·cases hd
theorem KR(m:Nat){T:Type}{e:T->AV}{r r0:T}(hd:done (run m s):=by kernel_rfl)(he:(Bb (run m s).env (run m s).h (EE P f)).map (λl=>nz (U0 l))=some (e r0):=by kernel_rfl)(hp:∀r,plain (e r):=by intro;first|rfl|simp):Wk P f (.ret (e r)) s (r=r0):=λhw=>H1 m (TU hd (rx hw (hp r0) he))
theorem eD(m:Nat){T:Type}{gl:b4c (Nat × b4c AV)}{k:Nat}{e:T->AV}{fc:T->b4c AV}{fb:T->b4c (Nat × Nat)}{r r0:T}(hp:∀r,plain (e r)/\(fc r).all ok1/\D4 [true] k (fc r)/\(fb r).length=k)(hd:done (run m s):=by kernel_rfl)(he:(Bb (run m s).env (run m s).h (EE P f)).map (λl=>nz (U0 l))=some (e r0):=by kernel_rfl)(hb:(run m s).h.A4[0]? =some (some (O1 (run m s) 0)):=by kernel_rfl)(hit:G4 (O1 (run m s) 0):=by kernel_rfl)(hc:(O1 (run m s) 0).map (H9 0 (some 0))=fc r0:=by kernel_rfl)(hf:(run m s).h.A6.take k=fb r0:=by kernel_rfl)(hg:(run m s).h.A8=gl:=by kernel_rfl):Wk P f (.io gl k (e r) (fc r) (fb r)) s (r=r0):=λhw=>H1 m (TU hd (qs hw ⟨(hp r0).1,(hp r0).2.1,(hp r0).2.2.1⟩ _ he hb hit hc hf hg))
theorem An(m:Nat){α:Type}(E:En α){r l:b4c α}(hd:done (run m s):=by kernel_rfl)(hr:EE P f=[]:=by kernel_rfl)(hb:(run m s).h.A4[0]? =some (some (cellsOf E.f l)):=by kernel_rfl)(hf:(run m s).h.A6.take 0=[]:=by kernel_rfl)(hg:(run m s).h.A8=[]:=by kernel_rfl):Wk P f (.io [] 0 (.tuple []) (cellsOf E.f r) []) s (l≠[]/\r=l):=λhw=>H1 m (TU hd (by rw[hr];exact a5m E.ro hw hb hf hg))
theorem OS(h:(T3 P f).isSome):T3 P f=some (BG P f,EA P f,EE P f):=by
 unfold BG EA EE;cases hg:T3 P f with
 |none=>rw[hg]at h;cases h
 |some p=>rfl
def s0(P:Program)(f:Nat)(args:b4c AV)(h:A3):Mc:=⟨.c (EA P f),[],AC 0 args,h⟩
theorem fP{V:Prop}{gl:b4c (Nat × b4c AV)}{args:b4c AV}{r:AV}(hw:V)(hk:Wk P f (.ret r) (s0 P f args ⟨[],[],gl⟩) V)(hf:((T3 P f).isSome&&Nat.ble args.length (BG P f)):=by kernel_rfl):A9 P gl f args r:=by
 rw[b3x]at hf;exact a7e (OS hf.1) (b37 hf.2) rfl (hk hw)
theorem dj{V:Prop}{gl:b4c (Nat × b4c AV)}{k:Nat}{args c:b4c AV}{bf:b4c (Nat × Nat)}{r:AV}{c':b4c AV}{bf':b4c (Nat × Nat)}(hw:V)(hk:Wk P f (.io gl k r c' bf') (s0 P f args ⟨[some c],bf,gl⟩) V)(hb:bf.length=k:=by kernel_rfl)(hf:((T3 P f).isSome&&Nat.ble args.length (BG P f)):=by kernel_rfl)(hpg:J3 gl:=by kernel_rfl):De P gl f args c bf r c' bf':=by
 rw[b3x]at hf;exact p6 (OS hf.1) k hb (b37 hf.2) rfl (hk hw) hpg
theorem DU{V:Prop}{α:Type}{e:α->b4c AV}{sz len:Nat}{args:b4c AV}{l r:b4c α}(hw:V)(hk:Wk P f (.io [] 0 (.tuple []) (cellsOf e r) []) (s0 P f (.row 0 0 sz len len::args) ⟨[some (cellsOf e l)],[],[]⟩) V)(hf:((T3 P f).isSome&&Nat.ble (AV.row 0 0 sz len len::args).length (BG P f)):=by kernel_rfl):Bi P e sz f len args l r:=dj hw hk rfl hf
def Eo(s:Mc):b4e:=match s.pc with
 |.v (o::_)=>K7 s.env o.guard==some true
 |_=>false
theorem KN(m:Nat){α:Type}(E:En α){l:b4c α}{c:b4e}{W:b4e->Prop}(hk:∀{b},Wk P f R (put (run m s) (.v (.bool b))) (W b))(hc:Eo (run m s):=by kernel_rfl)(ho:op (run m s)=.eq .slice (!c) (oX (op (run m s))) (oY (op (run m s))):=by kernel_rfl)(hx:BU (xv (run m s))=some (List.map E.f l):=by kernel_rfl)(hy:yv (run m s)=some .nil:=by kernel_rfl):Wk P f R s (∀b:b4e,(l≠[]->b=c)->W b):=λhw=>by
 refine H1 m ?_;generalize run m s=s0 at*;obtain⟨pc,k,env,h⟩:=s0;obtain⟨tok,hx⟩:=Hz hx;cases pc with
 |v L=>
  cases L with
  |nil=>cases hc
  |cons o L=>
   refine .inr (.inr ⟨by simpa[Eo]using hc,λav h'=>(∃b:b4e,av=.v (.bool b)/\(l≠[]->b=c))/\h'=h,λK' hK'=>?_,λav h' hav=>?_⟩)
   ·change o.op=_ at ho;rw[ho];simp only[E0];change wv (xv _) _;rw[hx];simp only[wv];change wv (yv _) _;rw[hy];simp only[wv,EG];rcases Classical.em (l=[]) with h0|h0
    ·right;subst h0;exact⟨rfl,hK' _ _ ⟨⟨_,rfl,λhn=>absurd rfl hn⟩,rfl⟩,hK' _ _ ⟨⟨_,rfl,λhn=>absurd rfl hn⟩,rfl⟩⟩
    ·left;refine⟨by simpa using h0,hK' _ _ ⟨⟨_,rfl,λ_=>?_⟩,rfl⟩⟩;cases c<;>rfl
   ·obtain⟨⟨b,rfl,hb⟩,rfl⟩:=hav;exact hk (hw b hb)
 |_=>cases hc
theorem LF{s:Mc}{h:A3}(hs:Am s=none):DY s h=none:=by
 obtain⟨pc,k,env,h⟩:=s;cases pc with
 |s b L S gl w tl=>cases L<;>first|rfl|cases hs
 |_=>rfl
theorem KX(m:Nat){t:b4b}{p:Nat}{A B:Prop}(h1:Wk P f R (N0 (run m s) (.tuple [.v (.bool true),.v (.int .i64 p),.v (.int .i32 (Utf8.decode t p).1)]) ⟨(run m s).h.A4.set (CU (xv (run m s))) (some [.it t (p+(Utf8.decode t p).2)]),(run m s).h.A6,(run m s).h.A8⟩) A)(h2:Wk P f R (N0 (run m s) (.tuple [.v (.bool false)]) (run m s).h) B)(hc:BD (run m s):=by kernel_rfl)(ho:op (run m s)=.next (oX (op (run m s))):=by kernel_rfl)(hx:xv (run m s)=some (.ptr (CU (xv (run m s))) 0):=by kernel_rfl)(hb:(run m s).h.A4[CU (xv (run m s))]? =some (some [.it t p]):=by kernel_rfl)(hs:Am (run m s)=none:=by kernel_rfl):Wk P f R s ((p<t.size->A)/\(¬p<t.size->B)):=λhw=>by
 have hsn:∀h',DY (run m s) h'=Am (run m s):=λh'=>by rw[hs];exact LF hs
 rcases Nat.lt_or_ge p t.size with hp|hp
 ·refine H1 m (Bl (λK hk=>?_) (h1 (hw.1 hp)) hc (hsn _));rw[ho];simp only[E0];change wv (xv _) _;rw[hx];simp only[wv,Lv,hb];exact⟨λ_=>hk,λhn=>(hn hp).elim⟩
 ·refine H1 m (Bl (λK hk=>?_) (h2 (hw.2 (Nat.not_lt.2 hp))) hc (hsn _));rw[ho];simp only[E0];change wv (xv _) _;rw[hx];simp only[wv,Lv,hb];exact⟨λhn=>(Nat.not_lt.2 hp hn).elim,λ_=>hk⟩
end
abbrev JP(P:Program)(f:Nat)(r:AV)(i:Nat)(e:Env):Prop:=J P f (.ret r) i e ⟨[],[],[]⟩
section
variable {P:Program}{f:Nat}{R:Rm}{s:Mc}{α:Type}{W:α->Prop}{p:Prop}
theorem Db(m:Nat){g:FuncId}{args:b4c AV}{r:AV}(hk:Wk P f R (put (run m s) r) p)(hc:okS (run m s):=by kernel_rfl)(ho:op (run m s)=.call (.c (.clo (.func g) [] [])) (oA (op (run m s))):=by kernel_rfl)(ha:(evs (run m s).env (oA (op (run m s)))).map (List.map nz)=some args:=by kernel_rfl)(hgl:J3 (JK (run m s)):=by kernel_rfl)(hp:B7 args:=by first|rfl|simp):Wk P f R s (A9 P [] g args r/\p):=λhw=>KC (W:=λ_:Unit=>p) (e:=λ_=>r) m hk hc ho ha hgl hp ⟨(),hw⟩
def W6(s:Mc):Nat:=match evs s.env (oA (op s)) with
 |some (.ptr n _::_)=>n
 |some (.row n _ _ _ _::_)=>n
 |_=>0
def Ep(s:Mc):b4c AV:=(evs s.env (oA (op s))).getD []
theorem bm{l:b4c (Nat × Nat)}(h:l.length=1):∃x,l=[x]:=by
 match l,h with
 |[x],_=>exact⟨x,rfl⟩
theorem WH(m:Nat){g:FuncId}{gl:b4c (Nat × b4c AV)}{small c:b4c AV}{bf:b4c (Nat × Nat)}{e:α->AV}{c':α->b4c AV}{bf':α->b4c (Nat × Nat)}(hp:∀{y:α},c.all ok1/\(c' y).all ok1/\small.all okA/\plain (e y))(hk:∀{y},Wk P f R (N0 (run m s) (e y) ⟨(run m s).h.A4.set (W6 (run m s)) (some ((c' y).map (AB (W6 (run m s)) (some 0)))),bf' y,(run m s).h.A8⟩) (W y))(hc:BD (run m s):=by kernel_rfl)(ho:op (run m s)=.call (.c (.clo (.func g) [] [])) (oA (op (run m s))):=by kernel_rfl)(hb:(bf.length,λy=>(bf' y).length)=(1,λ_=>1):=by kernel_rfl)(hb2:(run m s).h.A6=bf:=by kernel_rfl)(ha:evs (run m s).env (oA (op (run m s)))=some (Ep (run m s)):=by kernel_rfl)(hn:(run m s).h.A4[W6 (run m s)]? =some (some (O1 (run m s) (W6 (run m s)))):=by kernel_rfl)(hit:G4 (O1 (run m s) (W6 (run m s))):=by kernel_rfl)(hit':(λy=>G4 (c' y))=(λ_=>true):=by kernel_rfl)(hcc:(O1 (run m s) (W6 (run m s))).map (H9 (W6 (run m s)) (some 0))=c:=by kernel_rfl)(hargs:(Ep (run m s)).map (Al (W6 (run m s)) (some 0))=small:=by kernel_rfl)(hg:(run m s).h.A8=gl:=by kernel_rfl)(hgl:J3 gl:=by kernel_rfl)(hs:Am (run m s)=none:=by kernel_rfl):Wk P f R s (∃y,De P gl g small c bf (e y) (c' y) (bf' y)/\W y):=λhw=>by
 obtain⟨y,h1,hw⟩:=hw;subst hg;simp only[Prod.mk.injEq]at hb;obtain⟨x,hx⟩:=bm hb.1;obtain⟨x',hx'⟩:=bm (congrFun hb.2 y);refine H1 m (Bl ?_ (hk hw) hc (by rw[hs];exact LF hs));rw[ho];exact mO _ (some 0) _ _ _ h1 hp (.inr ⟨x,x',rfl,hx,hx',hb2.trans hx,hx'⟩) ha hn hit (congrFun hit' y) hcc hargs rfl hgl
theorem KIN(m j sz:Nat){g:FuncId}{gl:b4c (Nat × b4c AV)}{small c:b4c AV}{bf:b4c (Nat × Nat)}{e:α->AV}{c':α->b4c AV}{bf':α->b4c (Nat × Nat)}(hp:∀{y:α},c.all ok1/\(c' y).all ok1/\small.all okA/\plain (e y))(hk:∀{y},Wk P f R (N0 (run m s) (e y) ⟨(run m s).h.A4.set (W6 (run m s)) (some ((c' y).map (AB (W6 (run m s)) (some 0)))),bf' y,(run m s).h.A8⟩) (W y))(hc:BD (run m s):=by kernel_rfl)(ho:op (run m s)=.call (.c (.clo (.func g) [] [])) (oA (op (run m s))):=by kernel_rfl)(hb:(bf,λy=>(bf' y).length)=([(0,sz)],λ_=>1):=by kernel_rfl)(hb2:(run m s).h.A6=[]:=by kernel_rfl)(ha:evs (run m s).env (oA (op (run m s)))=some (Ep (run m s)):=by kernel_rfl)(hn:(run m s).h.A4[W6 (run m s)]? =some (some (O1 (run m s) (W6 (run m s)))):=by kernel_rfl)(hj:(O1 (run m s) (W6 (run m s)))[j]? =some .nil:=by kernel_rfl)(hit:G4 ((O1 (run m s) (W6 (run m s))).set j (.sl [] (.own 0))):=by kernel_rfl)(hit':(λy=>G4 (c' y))=(λ_=>true):=by kernel_rfl)(hcc:((O1 (run m s) (W6 (run m s))).set j (.sl [] (.own 0))).map (H9 (W6 (run m s)) (some 0))=c:=by kernel_rfl)(hargs:(Ep (run m s)).map (Al (W6 (run m s)) (some 0))=small:=by kernel_rfl)(hg:(run m s).h.A8=gl:=by kernel_rfl)(hgl:J3 gl:=by kernel_rfl)(hs:Am (run m s)=none:=by kernel_rfl):Wk P f R s (∃y,De P gl g small c bf (e y) (c' y) (bf' y)/\W y):=λhw=>by
 obtain⟨y,h1,hw⟩:=hw;subst hg;simp only[Prod.mk.injEq]at hb;obtain⟨x',hx'⟩:=bm (congrFun hb.2 y);refine H1 m (Bl ?_ (hk hw) hc (by rw[hs];exact LF hs));rw[ho,hx'];exact yj _ j sz _ _ _ h1 hp ⟨hb.1,hx'⟩ ha hn hj hb2 hit (congrFun hit' y) hcc hargs rfl hgl
theorem V5(m:Nat)(E:En α){g:FuncId}{len:Nat}{small:b4c AV}{l:b4c α}{W:b4c α->Prop}(hp:small.all okA)(hk:∀{y},Wk P f R (N0 (run m s) (.tuple []) ⟨(run m s).h.A4.set (W6 (run m s)) (some (cellsOf E.f y)),(run m s).h.A6,(run m s).h.A8⟩) (W y))(hc:BD (run m s):=by kernel_rfl)(ho:op (run m s)=.call (.c (.clo (.func g) [] [])) (oA (op (run m s))):=by kernel_rfl)(ha:evs (run m s).env (oA (op (run m s)))=some (Ep (run m s)):=by kernel_rfl)(hn:(run m s).h.A4[W6 (run m s)]? =some (some (cellsOf E.f l)):=by kernel_rfl)(hargs:(Ep (run m s)).map (Al (W6 (run m s)) none)=.row 0 0 E.sz len len::small:=by kernel_rfl)(hg:(run m s).h.A8=[]:=by kernel_rfl)(hs:Am (run m s)=none:=by kernel_rfl):Wk P f R s (∃y,Bi P E.f E.sz g len small l y/\(l≠[]/\y≠[])/\W y):=λhw=>by
 obtain⟨y,h1,h0,hw⟩:=hw;refine H1 m (Bl ?_ (hk hw) hc (by rw[hs];exact LF hs));rw[ho];exact a0q _ _ E.ro h1 h0 hp ha hn hargs hg
theorem di(m:Nat)(E:En α){g:FuncId}{l:b4c α}(h0:l≠[])(hk:Wk P f R (N0 (run m s) (.row (run m s).h.A4.length 0 E.sz l.length l.length) ⟨(run m s).h.A4++[some (cellsOf E.f l)],(run m s).h.A6,(run m s).h.A8⟩) p)(hc:BD (run m s):=by kernel_rfl)(ho:op (run m s)=.call (.c (.clo (.func g) [] [])) (oA (op (run m s))):=by kernel_rfl)(ha:(evs (run m s).env (oA (op (run m s)))).map (List.map nz)=some [.sl (l.map E.f) .no]:=by kernel_rfl)(hs:Am (run m s)=none:=by kernel_rfl):Wk P f R s (Hk P E.f E.sz g l/\p):=λhw=>H1 m (Bl (by rw[ho];exact a3x hw.1 E.ro h0 ha) (hk hw.2) hc (by rw[hs];exact LF hs))
theorem KNB(m:Nat)(E:En α){g:FuncId}{l:b4c α}(hk:Wk P f R (N0 (run m s) (.sl (l.map E.f) (.own (run m s).h.A6.length)) ⟨(run m s).h.A4,(run m s).h.A6++[(l.length,E.sz)],(run m s).h.A8⟩) p)(hc:BD (run m s):=by kernel_rfl)(ho:op (run m s)=.call (.c (.clo (.func g) [] [])) (oA (op (run m s))):=by kernel_rfl)(ha:(evs (run m s).env (oA (op (run m s)))).map (List.map nz)=some [.sl (l.map E.f) .no]:=by kernel_rfl)(hs:Am (run m s)=none:=by kernel_rfl):Wk P f R s (MH P E.f E.sz g l/\p):=λhw=>H1 m (Bl (by rw[ho];exact wn hw.1 E.ro.hp ha) (hk hw.2) hc (by rw[hs];exact LF hs))
theorem J6{V:Prop}(m n:Nat)(B:b4e)(C:b4e->AV)(h1:Wk P f R (jn (run m s) n (C true)) V->Wk P f R (br (run m s) true) V)(h2:Wk P f R (jn (run m s) n (C false)) V->Wk P f R (br (run m s) false) V)(hk:Wk P f R (jn (run m s) n (C B)) V)(hv:cv (run m s)=some (.v (.bool B)):=by kernel_rfl):Wk P f R s V:=λhw=>H1 m (Ps hv (λh=>h1 (by rw[h]at hk;exact hk) hw) λh=>h2 (by rw[h]at hk;exact hk) hw)
theorem E3{V:Prop}(m:Nat){a:AV}{s0:Mc}{n:Nat}(key:Wk P f R (jn s0 n a) V)(ha:get (run m s).env (Fv s0 n)=some a:=by kernel_rfl)(hb:Dj (run m s)=Dj (jn s0 n a):=by kernel_rfl)(hd:(run m s).env.drop ((run m s).env.length - s0.env.length)=s0.env:=by kernel_rfl)(hf:met s0 (run m s) n:=by kernel_rfl):Wk P f R s V:=λhw=>H1 m (Tb (key hw) ha hb hd hf)
def Sk(s:Mc):b4e:=match s.pc with
 |.c _=>true
 |_=>false
def cut(e env:Env):Env:=e.map λp=>(p.1,(get env p.1).getD .nil)
theorem cX{e:Env}(hc:Sk s)(he:(cut e s.env).map (Ed [] s.env)=(cut e s.env).map λp=>some p.2)(hk:∀x,s.pc=.c x->D P (BG P f) R.kb R.kf x (Qs P f R s.k) (cut e s.env) s.h):Ok P f R s:=by
 refine cp [] ?_ he ?_
 ·obtain⟨pc,k,env,h⟩:=s;cases pc<;>first|rfl|cases hc
 ·obtain⟨pc,k,env,h⟩:=s;cases pc<;>first|exact hk _ rfl|cases hc
theorem Kb{V:Prop}(m n:Nat)(mk:b4c b4e)(k:Nat)(e:Env)(bs:b4c (b4d (b4c AV)))(hk:Wk P f R ⟨(run m s).pc,(run m s).k,e,⟨bs,(run m s).h.A6.take k,(run m s).h.A8⟩⟩ V)(hc:Sk (run m s):=by kernel_rfl)(he:(cut e (run m s).env).map (Ed [] (run m s).env)=(cut e (run m s).env).map (λp=>some p.2):=by kernel_rfl)(hb:(run m s).h.A4[n]? =some (some (O1 (run m s) n)):=by kernel_rfl)(h1:(G4 (O1 (run m s) n)&& !mk.getD n false&&CX mk (run m s).h.A4&&(List.range R.kb).all (λk=>mk.getD k false)&&Nat.ble R.kf k&&J3 (run m s).h.A8):=by kernel_rfl)(hE:QL n (O1 (run m s) n) (cut e (run m s).env)=e:=by kernel_rfl)(hbs:I0 mk (run m s).h.A4=bs:=by kernel_rfl)(hl:X3 mk k e/\Q5 mk k bs:=by constructor<;>first|rfl|simp):Wk P f R s V:=λhw=>by
 replace hk:=hk hw
 simp only[b3x,b34,List.mem_range,b35]at h1;obtain⟨⟨⟨⟨⟨a1,a2⟩,a3⟩,a4⟩,a5⟩,a6⟩:=h1;refine H1 m (cX hc he λx hx=>?_);rw[hx]at hk;subst hbs;exact b0c n mk k _ hb a1 a2 a3 a4 (b37 a5) hE hl.1 hl.2 a6 hk
theorem qo(m:Nat)(E:En α)(n:Nat)(mk:b4c b4e)(k c:Nat)(e:Env)(bs:b4c (b4d (b4c AV))){l:b4c α}{len:Nat}(hk:Wk P f R ⟨(run m s).pc,(run m s).k,e,⟨bs,(run m s).h.A6.take k,(run m s).h.A8⟩⟩ p)(hc:Sk (run m s):=by kernel_rfl)(he:(cut e (run m s).env).map (Ed [] (run m s).env)=(cut e (run m s).env).map (λp=>some p.2):=by kernel_rfl)(hb:(run m s).h.A4[n]? =some (some (cellsOf E.f l)):=by kernel_rfl)(h1:(Nat.ble 1 E.sz&& !mk.getD n false&&CX mk (run m s).h.A4&&(List.range R.kb).all (λk=>mk.getD k false)&&Nat.ble R.kf k&&J3 (run m s).h.A8):=by kernel_rfl)(hr:Dv n (cut e (run m s).env)=List.replicate c (0,E.sz,len):=by kernel_rfl)(hE:Gu n (List.map E.f l) (cut e (run m s).env)=e:=by kernel_rfl)(hbs:I0 mk (run m s).h.A4=bs:=by kernel_rfl)(hl:X3 mk k e/\Q5 mk k bs:=by constructor<;>first|rfl|simp):Wk P f R s (l.length=len/\p):=λhw=>by
 simp only[b3x,b34,List.mem_range,b35]at h1;obtain⟨⟨⟨⟨⟨a1,a2⟩,a3⟩,a4⟩,a5⟩,a6⟩:=h1;refine H1 m (cX hc he λx hx=>?_);have hk:=hk hw.2;rw[hx]at hk;exact drf n mk k c l len e bs E.ro.hs E.ro.hn hw.1 hl hk hb a1 hr a2 a3 a4 a5 hE hbs a6
theorem KDg(m:Nat)(E:En α)(n:Nat)(mk:b4c b4e)(k c c':Nat)(e:Env)(bs:b4c (b4d (b4c AV))){l:b4c α}{len:Nat}(hk:Wk P f R ⟨(run m s).pc,(run m s).k,e,⟨bs,(run m s).h.A6.take k,(run m s).h.A8⟩⟩ p)(hc:Sk (run m s):=by kernel_rfl)(he:(cut e (run m s).env).map (Ed [] (run m s).env)=(cut e (run m s).env).map (λp=>some p.2):=by kernel_rfl)(hb:(run m s).h.A4[n]? =some (some (cellsOf E.f l)):=by kernel_rfl)(h1:(!mk.getD n false&&CX mk (run m s).h.A4&&(List.range R.kb).all (λk=>mk.getD k false)&&Nat.ble R.kf k&&J3 (run m s).h.A8):=by kernel_rfl)(hr:Dv n (cut e (run m s).env)=List.replicate c (0,E.sz,len):=by kernel_rfl)(hr2:OE n (I0 mk (run m s).h.A4)=List.replicate c' (0,E.sz,len):=by kernel_rfl)(hE:Gu n (List.map E.f l) (cut e (run m s).env)=e:=by kernel_rfl)(hbs:JT n (List.map E.f l) (I0 mk (run m s).h.A4)=bs:=by kernel_rfl)(hl:X3 mk k e/\Q5 mk k bs:=by constructor<;>first|rfl|simp):Wk P f R s (l.length=len/\p):=λhw=>by
 simp only[b3x,b34,List.mem_range,b35]at h1;obtain⟨⟨⟨⟨a2,a3⟩,a4⟩,a5⟩,a6⟩:=h1;refine H1 m (cX hc he λx hx=>?_);have hk:=hk hw.2;rw[hx]at hk;exact xM n mk k c c' l len e bs E.ro.hs E.ro.hn hw.1 hl hk hb hr hr2 a2 a3 a4 a5 hE hbs a6
end
def lT(P:Program)(l:b4c Nat):X9:=l.map λg=>(g,BG P g,EA P g,EE P g)
theorem a7v{P:Program}{l:b4c Nat}(h:l.all (λg=>(T3 P g).isSome&& !ZZ (EA P g)&&(NP (EA P g)).isNone)):Cr P (lT P l):=by
 intro g x hm;obtain⟨k,hk,he⟩:=List.mem_map.1 hm;cases he;have h1:=List.all_eq_true.1 h g hk;simp only[b3x,b35,Option.isNone_iff_eq_none]at h1;unfold Rb;simp only[h1.2,h1.1.2,Bool.false_eq_true,if_false];exact OS h1.1.1
def eZ:E8->TypeId
 |.seq _ (.seq _ (.seq (.region [_,_,⟨_,.append e _ _ _ _,_⟩,_]) _))=>e
 |_=>0
def jD(e sz b:Nat):E8:=.seq (.region [o 2 (.mv (.c .nil))]) (.seq (.seq (.region [o 3 (mv 0),o 4 (.eq .slice true (T 3) (.c .nil))]) (.cond (T 4) (.seq (.region [o 2 (.mv (.c .nil))]) .ret) .skip)) (.seq (.region [o 5 (.Et sz 0 [] []),o 6 (mv 0),o 7 (.append e sz b (T 5) (T 6)),o 2 (mv 7)]) .ret))
theorem Xg{P:Program}{sz:Nat}{env:Env}{h:A3}:F1 P (.Et sz 0 [] []) env h (.sl [] .full) h:=iL (by simp[Z7,AY,Ea,DM])
theorem iB{P:Program}{g b:Nat}{α:Type}(E:En α){s:b4c α}(hw:s≠[]/\s.length*b<=140737488355328)(hf:T3 P g=some (8,jD (eZ (EA P g)) E.sz b,[.tmp 2]):=by kernel_rfl):Hk P E.f E.sz g s:=by
 refine rW hf rfl rfl (ds (va 1 [] (ve (Rw (ds (va 1 [(3,.sl (List.map E.f s) .no)] (vn rfl s E.f (λbj1 hb0=>?_))))))));refine ve (dkf (hb0 hw.1) ?_);refine Vj (ds (vo rfl Xg rfl (va 1 [(6,.sl (List.map E.f s) .no)] ?_)));exact vo rfl (a16 E.f s hw.1 hw.2 E.ro.hs (by kernel_rfl)) rfl (va 1 [(2,.row 0 0 E.sz s.length s.length)] (ve (Np (xI rfl))))
theorem zA{P:Program}{e0:TypeId}{size byt:Nat}{x y:B6}{env:Env}{h:A3}(hx:x.ev env=some (.sl [] .full):=by kernel_rfl)(hy:y.ev env=some (.sl [] .no):=by kernel_rfl):F1 P (.append e0 size byt x y) env h (.sl [] .full) h:=by
 intro K hk;simp only[E0,hx,hy,wv];refine .inl ?_;simp only[EW,Q6];exact⟨by simp,by simp,by simp,λ_=>hk,λh=>absurd rfl h⟩
theorem a18{P:Program}{g b:Nat}{α:Type}(E:En α){s:b4c α}(hw:s.length*b<=140737488355328)(hf:T3 P g=some (8,jD (eZ (EA P g)) E.sz b,[.tmp 2]):=by kernel_rfl):MH P E.f E.sz g s:=by
 refine a42 hf rfl rfl (ds (va 1 [] (ve (Rw (ds (va 1 [(3,.sl (List.map E.f s) .no)] (vn rfl s E.f (λbj1 hb0=>?_))))))));refine ve (dw (B:=bj1) (p:=s=[]) (q:=True) ⟨λh=>Classical.byContradiction λhn=>(by rw[hb0 hn]at h;cases h),λ_=>trivial⟩ (λ_ h0=>?_) (λ_ _=>?_))
 ·subst h0;exact ds (va 1 [(2,.nil)] (ve (yJ (t:=2) E.sz (by kernel_rfl) (Np (aO rfl)))))
 by_cases h0:s=[]
 ·subst h0;refine Vj (ds (vo rfl Xg rfl (va 1 [(6,.sl [] .no)] ?_)));exact vo rfl zA rfl (va 1 [(2,.sl [] .full)] (ve (a0a (t:=2) E.sz (by kernel_rfl) (Np (aO rfl)))))
 refine Vj (ds (vo rfl Xg rfl (va 1 [(6,.sl (List.map E.f s) .no)] ?_)));exact vo rfl (pD E.f ([]:b4c α) s (by simpa using hw) E.ro.hs h0 (by kernel_rfl) (by kernel_rfl)) rfl (va 1 [(2,.sl (List.map E.f (([]:b4c α)++s)) (.own 0))] (ve (Np (aO (l2:=([]:b4c α)++s) rfl))))
abbrev Rws:=b4c (Nat × b4c (b4c AV) × Nat)
section
variable {σ:Sg}{h:A3}{m:b4c b4e}{k:Nat}{rs:Rws}
end
section
variable {P:Program}{f:Nat}{R:Rm}{s:Mc}{α β γ:Type}{p:Prop}
theorem db{V:Prop}(m:Nat){b sz:Nat}(hk:Wk P f R (N0 (run m s) (.sl [] .full) (run m s).h) V)(hc:BD (run m s):=by kernel_rfl)(hs:DY (run m s) (run m s).h=Am (run m s):=by kernel_rfl)(ho:op (run m s)=.append (oE (op (run m s))) sz b (oX (op (run m s))) (oY (op (run m s))):=by kernel_rfl)(hx:xv (run m s)=some (.sl [] .full):=by kernel_rfl)(hy:yv (run m s)=some (.sl [] .no):=by kernel_rfl):Wk P f R s V:=λhw=>H1 m (Bl (by
 rw[ho];intro K hk1;have hx':(oX (op (run m s))).ev (run m s).env=some (.sl [] .full):=hx;have hy':(oY (op (run m s))).ev (run m s).env=some (.sl [] .no):=hy;simp only[E0,hx',hy',wv];refine .inl ?_;simp only[EW,Q6];exact⟨by simp,by simp,by simp,λ_=>hk1,λh=>absurd rfl h⟩) (hk hw) hc hs)
end
def bR(n:Nat)(b:UInt8):b4b:=⟨(List.replicate n b).toArray⟩
def bE(t:b4b):b4c (b4c AV):=P0 t.data.toList
theorem EJ(t:b4b):(bE t).length=t.size:=by simp[bE,P0]
theorem rK(s t:b4b):bE (s++t)=bE s++bE t:=by simp[bE,P0,ByteArray.data_append,Array.toList_append,List.map_append]
theorem fU{t:b4b}:∀el∈bE t,el.length=1:=by
 intro el h;simp only[bE,P0,List.mem_map]at h;obtain⟨n,_,rfl⟩:=h;rfl
def qk{α:Type}(e:α->b4c AV):b4d α->AV
 |some x=>.D3 (e x) 0
 |none=>.v (.pointer none)
theorem Jf{α:Type}{e:α->b4c AV}(h:∀x,B7 (e x)):∀o,plain (qk e o)=true
 |some x=>h x
 |none=>rfl
section
variable {P:Program}{f:Nat}{R:Rm}{s:Mc}{p:Prop}
theorem Va{av:AV}{h':A3}(hd:F1 P (op s) s.env s.h av h')(hk:Ok P f R (N0 s av h'))(hc:Eo s):Ok P f R s:=by
 obtain⟨pc,k,env,h⟩:=s;cases pc with
 |v L=>
  cases L with
  |nil=>cases hc
  |cons o L=>exact .inr (.inl ⟨by simpa[Eo]using hc,av,h',hd,hk⟩)
 |_=>cases hc
theorem W7{V:Prop}(m:Nat)(g:FuncId)(hk:Wk P g (.inl (run m s).h.A4.length (run m s).h.A6.length λav h'=>Ok P f R (N0 (run m s) av h')) ⟨.c (EA P g),[],AC 0 (Ep (run m s)),(run m s).h⟩ V)(hc:Eo (run m s):=by kernel_rfl)(ho:op (run m s)=.call (.c (.clo (.func g) [] [])) (oA (op (run m s))):=by kernel_rfl)(ha:evs (run m s).env (oA (op (run m s)))=some (Ep (run m s)):=by kernel_rfl)(hf:((T3 P g).isSome&&Nat.ble (Ep (run m s)).length (BG P g)):=by kernel_rfl):Wk P f R s V:=λhw=>by
 rw[b3x]at hf
 replace hk:=hk hw
 refine H1 m ?_;generalize Ep (run m s)=args at*;generalize run m s=s0 at*;obtain⟨pc,k,env,h⟩:=s0;cases pc with
 |v L=>
  cases L with
  |nil=>cases hc
  |cons o L=>
   refine .inr (.inr ⟨by simpa[Eo]using hc,λav h'=>Ok P f R (N0 ⟨.v (o::L),k,env,h⟩ av h'),λK' hK'=>?_,λav h' hav=>hav⟩);change o.op=_ at ho;rw[ho]
   have hcall:W9 P g args h K':=by
    refine⟨Po (OS hf.1),λσ cargs hi hr=>?_⟩
    have hb:J4 P (BG P g) (EA P g) (Gp (EE P g) K') (AC 0 args) h:=by
     refine Od (PJ (Nat.le_refl _) (Nat.le_refl _) hk) λe env h hq=>?_
     cases e<;>first|exact hq.elim|exact oT (λl=>hK' _ _) hq
    exact PB (OS hf.1) (b37 hf.2) hb σ cargs hi hr
   exact(Jk rfl ha hcall).out
 |_=>cases hc
theorem Kn(m:Nat){α:Type}(E:En α){l l2:b4c α}{b:Nat}(h0:l2=[])(hm:HM (run m s).h (yv (run m s)) E l2)(hX:HX (xv (run m s)) E l)(hk:Wk P f R (N0 (run m s) (.sl (List.map E.f l) .full) (run m s).h) p)(hc:Eo (run m s):=by kernel_rfl)(ho:op (run m s)=.append (oE (op (run m s))) E.sz b (oX (op (run m s))) (oY (op (run m s))):=by kernel_rfl)(hx:XV (xv (run m s))=some .full:=by kernel_rfl):Wk P f R s (l.length*b<=140737488355328/\p):=λhw=>by
 refine H1 m (Va (λK hK=>?_) (hk hw.2) hc);generalize run m s=s0 at*;obtain⟨Y,h1,h2⟩:=Option.bind_eq_some_iff.1 hm;obtain⟨tok,h3⟩:=Hz hX;rw[h3]at hx;cases hx;rw[ho];simp only[E0];change wv (xv s0) _;rw[h3];change wv (yv s0) _;rw[h1];refine .inl ?_;subst h0;simp only[EW,h2];exact⟨by simp,λel hel=>by obtain⟨y,_,rfl⟩:=List.mem_map.1 hel;exact E.ro.hs y,by simpa using hw.1,λ_=>hK,λh=>absurd rfl h⟩
def Wn(s:Mc)(P:Program)(g:Nat):AV:=U0 ((Bb s.env s.h (EE P g)).getD [])
theorem V2{V:Prop}(m:Nat){kb kf:Nat}{K:AV->A3->Prop}(hk:V->K (Wn (run m s) P f) (run m s).h)(hd:done (run m s):=by kernel_rfl)(he:(Bb (run m s).env (run m s).h (EE P f)).isSome:=by kernel_rfl):Wk P f (.inl kb kf K) s V:=λhw=>by
 replace hk:=hk hw
 refine H1 m (TU hd ?_);obtain⟨l,hl⟩:=Option.isSome_iff_exists.1 he
 have hk':K (U0 l) (run m s).h:=by
  have:Wn (run m s) P f=U0 l:=by unfold Wn;rw[hl];rfl
  rw[<-this];exact hk
 exact FE (K:=λl=>K (U0 l) (run m s).h) hl hk'
def oW(h:A3)(n t:Nat):b4e:=match h.A4[n]? with
 |some (some (.ps k u::_))=>k==n&&u==t
 |_=>false
theorem Cn{V:Prop}(m:Nat){g t:Nat}(hcc:Sl P g t)(hk:Wk P f R (N0 (run m s) (.tuple []) (run m s).h) V)(hc:Eo (run m s):=by kernel_rfl)(ho:op (run m s)=.call (.c (.clo (.func g) [] [])) (oA (op (run m s))):=by kernel_rfl)(ha:evs (run m s).env (oA (op (run m s)))=some [.ptr (W6 (run m s)) 0]:=by kernel_rfl)(hb:oW (run m s).h (W6 (run m s)) t:=by kernel_rfl):Wk P f R s V:=λhw=>by
 replace hk:=hk hw
 refine H1 m (Va (λK hK=>?_) hk hc);rw[ho];refine(Jk rfl ha ?_).out;generalize W6 (run m s)=n at*;unfold oW at hb;split at hb
 ·rename_i k u r hr;simp only[b3x,beq_iff_eq]at hb;obtain⟨rfl,rfl⟩:=hb;exact hcc _ _ _ hr K hK
 ·cases hb
def Md(x:b4d AV):Nat:=match x with
 |some (.bb (.own i) _ _)=>i
 |some (.bb (.data i) _ _)=>i
 |_=>0
theorem Dw(m:Nat){a t:b4b}(hk:Wk P f R (N0 (run m s) (.bb (.own (Md (xv (run m s)))) (bE (a++t)) (oE (op (run m s)))) ⟨(run m s).h.A4,(run m s).h.A6.set (Md (xv (run m s))) ((a++t).size,1),(run m s).h.A8⟩) p)(hc:Eo (run m s):=by kernel_rfl)(ho:op (run m s)=.append (oE (op (run m s))) 1 1 (oX (op (run m s))) (oY (op (run m s))):=by kernel_rfl)(hx:xv (run m s)=some (.bb (.own (Md (xv (run m s)))) (bE a) (oE (op (run m s)))):=by kernel_rfl)(hy:yv (run m s)=some (.v (.string t)):=by kernel_rfl)(hb:(run m s).h.A6[Md (xv (run m s))]? =some (a.size,1):=by kernel_rfl):Wk P f R s (a.size+t.size<=140737488355328/\p):=λhw=>by
 refine H1 m (Va (λK hK=>?_) (hk hw.2) hc);generalize hs0:run m s=s0 at*;rw[ho];simp only[E0];change wv (xv s0) _;rw[hx];change wv (yv s0) _;rw[hy];refine .inr (.inr ?_);unfold Ku;refine⟨⟨rfl,λel hel=>fU (t:=t) el hel⟩,rfl,λel hel=>fU (t:=a) el hel,by rw[EJ];exact hb,?_,?_⟩
 ·have:=EJ a;have h2:=EJ t;show((bE a).length+(bE t).length)*1<=_;omega
 ·rw[rK]at hK;have h3:((bE a).length+(bE t).length)=(a++t).size:=by rw[EJ,EJ,ByteArray.size_append]
  show K (.bb (.own _) (bE a++bE t) _) ⟨_,List.set _ _ ((bE a).length+(bE t).length,1),_⟩;rw[h3];exact hK
def uT:G7->TypeId
 |.Co u _ _=>u
 |.DW u _=>u
 |_=>0
def uX:G7->B6
 |.Co _ x _=>x
 |.DW _ x=>x
 |_=>.t 0
def uY:G7->B6
 |.Co _ _ y=>y
 |_=>.t 0
theorem qu(m:Nat){n:Int}(hk:Wk P f R (N0 (run m s) (.bb (.raw (run m s).h.A6.length n.toNat) [] (uT (op (run m s)))) ⟨(run m s).h.A4,(run m s).h.A6++[(0,1)],(run m s).h.A8⟩) p)(hc:BD (run m s):=by kernel_rfl)(hs:DY (run m s) ⟨(run m s).h.A4,(run m s).h.A6++[(0,1)],(run m s).h.A8⟩=Am (run m s):=by kernel_rfl)(ho:op (run m s)=.DW (uT (op (run m s))) (uX (op (run m s))):=by kernel_rfl)(hx:(uX (op (run m s))).ev (run m s).env=some (.v (.int .i64 n)):=by kernel_rfl):Wk P f R s ((0<n/\n<=140737488355328)/\p):=λhw=>by
 refine H1 m (Bl (λK hK=>?_) (hk hw.2) hc hs);generalize run m s=s0 at*;generalize uT (op s0)=u at*;generalize uX (op s0)=X at*;rw[ho];simp only[E0];rw[hx];exact⟨hw.1.1,hw.1.2,hK⟩
theorem QK(m:Nat){t:b4b}(hk:Wk P f R (N0 (run m s) (.v (.string t)) (run m s).h) p)(hc:Eo (run m s):=by kernel_rfl)(ho:op (run m s)=.Co (uT (op (run m s))) (uX (op (run m s))) (uY (op (run m s))):=by kernel_rfl)(hx:(uX (op (run m s))).ev (run m s).env=some (.bb (.data (Md ((uX (op (run m s))).ev (run m s).env))) (bE t) (uT (op (run m s)))):=by kernel_rfl)(hy:(uY (op (run m s))).ev (run m s).env=some (.v (.int .i64 (bE t).length)):=by kernel_rfl)(hb:(run m s).h.A6[Md ((uX (op (run m s))).ev (run m s).env)]? =some (t.size,1):=by kernel_rfl):Wk P f R s (t.size<=140737488355328/\p):=λhw=>by
 refine H1 m (Va (λK hK=>?_) (hk hw.2) hc);generalize run m s=s0 at*;generalize uT (op s0)=u at*;generalize uX (op s0)=X at*;generalize uY (op s0)=Y at*;rw[ho];simp only[E0];rw[hx];change wv (Y.ev _) _;rw[hy];exact⟨rfl,by rw[EJ];exact hb,t.data.toList,rfl,by simp[EJ],by simpa using hw.1,by simpa using hK⟩
def dy(x:b4d AV):TypeId:=match x with
 |some (.bb _ _ u)=>u
 |_=>0
theorem WD{V:Prop}(m i:Nat)(hk:Wk P f R ⟨(run m s).pc,(run m s).k,(run m s).env,⟨(run m s).h.A4.set i (some ((O1 (run m s) i).set 1 (.bb (.own (run m s).h.A6.length) (bE ⟨#[]⟩) (dy (O1 (run m s) i)[1]?)))),(run m s).h.A6++[(0,1)],(run m s).h.A8⟩⟩ V)(hc:GA (run m s):=by kernel_rfl)(hg:(run m s).h.A4[i]? =some (some (O1 (run m s) i)):=by kernel_rfl)(hj:(O1 (run m s) i)[1]? =some (.bb .nil [] (dy (O1 (run m s) i)[1]?)):=by kernel_rfl):Wk P f R s V:=λhw=>H1 m (Nn hc λσ a hs=>by
 generalize dy (O1 (run m s) i)[1]? =u at*;obtain⟨σ',h1,h2,h3⟩:=hZ (a1:=.bb (.own (run m s).h.A6.length) (bE ⟨#[]⟩) u) 1 (λhr=>by cases hr;rfl) (λhr=>.AK _ _ _ _ _ _ hr λad h=>by cases h) rfl ⟨by simp,by simp⟩ hg hj hs;exact⟨σ',_,_,h1,h2,h3,(hk hw)⟩)
end
section
open Go.RowKit Go.ChangeShapes Go.WideShapes Go.ChangeAt
theorem Ul{α:Type}{P:Nat->α->Prop}:∀n:Nat,(∀i,i<n->∃x,P i x)->∃xs:b4c α,xs.length=n/\∀(i:Nat) x,xs[i]? =some x->P i x
 |0,_=>⟨[],rfl,λi x h=>by simp at h⟩
 |n+1,h=>by
  obtain⟨xs,hl,hx⟩:=Ul n (λi hi=>h i (by omega));obtain⟨y,hy⟩:=h n (by omega);refine⟨xs++[y],by simp[hl],λi x hi=>?_⟩
  by_cases hin:i<n
  ·rw[b3z (by omega)]at hi;exact hx i x hi
  ·rw[b30 (by omega)]at hi
   by_cases e:i=n
   ·subst e;rw[hl]at hi;simp at hi;subst hi;exact hy
   ·rw[List.getElem?_eq_none (by simp;omega)]at hi;cases hi
def Ty(P:Program):Nat->TypeId->b4c AV->Prop
 |0,_,_=>False
 |n+1,t,avs=>match P.underlying t with
  |some (.int k)=>∃m,avs=[.v (.int k m)]/\(Lit.int k m).wf=true
  |some .bool=>∃b,avs=[.v (.bool b)]
  |some .string=>∃s,avs=[.v (.string s)]/\s.size<=140737488351232
  |some (.slice e)=>∃els:b4c (b4c AV),avs=[.sl els .no]/\els.length*P.bytesOf e<=140737488351232/\∀el∈els,Ty P n e el
  |some (.struct fs)=>∃parts:b4c (b4c AV),avs=parts.flatten/\parts.length=fs.size/\∀(i:Nat) (f:Field),fs[i]? =some f->∃p,parts[i]? =some p/\Ty P n f.type p
  |some (.array k e)=>∃parts:b4c (b4c AV),avs=parts.flatten/\parts.length=k/\∀p∈parts,Ty P n e p
  |_=>False
def OI(P:Program):Nat->b4c Field->Nat->b4e
 |off,[],tot=>off==tot
 |off,f::fs,tot=>f.offset==off&&OI P (off+P.cellsOf f.type) fs tot
def dm(P:Program)(ts:b4c TypeId)(t:TypeId):b4e:=
 match P.underlying t with
 |some (.int _)|some .bool|some .string=>true
 |some (.slice e)=>ts.contains e&&decide (0<P.cellsOf e)&&decide (1<=P.bytesOf e)
 |some (.struct fs)=>fs.toList.all (λf=>ts.contains f.type)&&OI P 0 fs.toList (P.cellsOf t)
 |some (.array k e)=>ts.contains e&&decide (k*P.cellsOf e=P.cellsOf t)
 |_=>false
def YR(P:Program)(ts:b4c TypeId):b4e:=ts.all (dm P ts)
def Cv:Nat->Nat->Prop:=λ_ _=>False
section
variable {H:Type}{enc:TypeId × Value->H}{P:Program}{W:World}{base:Nat}{spare:Nat->b4e}{held:b4e}
def AE(P:Program)(t:TypeId)(d:DataW H):Prop:=∀x∈DataW.weights P t d,x<=140737488351232
theorem oa:∀(ts:b4c TypeId) (ds:b4c (DataW H)) (i:Nat) (t:TypeId) (d:DataW H),ts[i]? =some t->ds[i]? =some d->∀x∈DataW.weights P t d,x∈DataW.weightsEach P ts ds
 |[],_,i,_,_,h,_,_,_=>by simp at h
 |_::_,[],i,_,_,_,h,_,_=>by simp at h
 |t'::ts,d'::ds,0,t,d,h1,h2,x,hx=>by
  simp at h1 h2;subst h1;subst h2;simp only[DataW.weightsEach,List.mem_append];exact .inl hx
 |t'::ts,d'::ds,i+1,t,d,h1,h2,x,hx=>by
  simp only[DataW.weightsEach,List.mem_append];exact .inr (oa ts ds i t d (by simpa using h1) (by simpa using h2) x hx)
theorem Xl(e:TypeId):∀(ds:b4c (DataW H)) (i:Nat) (d:DataW H),ds[i]? =some d->∀x∈DataW.weights P e d,x∈DataW.weightsAll P e ds
 |[],i,_,h,_,_=>by simp at h
 |d'::ds,0,d,h2,x,hx=>by
  simp at h2;subst h2;simp only[DataW.weightsAll,List.mem_append];exact .inl hx
 |d'::ds,i+1,d,h2,x,hx=>by
  simp only[DataW.weightsAll,List.mem_append];exact .inr (Xl e ds i d (by simpa using h2) x hx)
theorem AE.part{t:TypeId}{fs:Array Field}{ps:b4c (DataW H)}(ht:P.underlying t=some (.struct fs))(h:AE P t (.agg ps)){i:Nat}{f:Field}{d:DataW H}(hf:fs[i]? =some f)(hd:ps[i]? =some d):AE P f.type d:=by
 intro x hx;refine h x ?_;simp only[DataW.weights,ht];exact oa _ _ i f.type d (by simp[hf]) hd x hx
theorem AE.elem{t e:TypeId}{es sp:b4c (DataW H)}(ht:P.underlying t=some (.slice e))(h:AE P t (.slice es sp)){i:Nat}{d:DataW H}(hd:es[i]? =some d):AE P e d:=by
 intro x hx;refine h x ?_;simp only[DataW.weights,ht,b38,List.mem_append];exact .inr (.inl (Xl e es i d hd x hx))
theorem AE.short{t e:TypeId}{es sp:b4c (DataW H)}(ht:P.underlying t=some (.slice e))(h:AE P t (.slice es sp)):es.length*P.bytesOf e<=140737488351232:=by
 have:=h ((es.length+sp.length)*P.bytesOf e) (by simp only[DataW.weights,ht,b38,true_or]);rw[Nat.add_mul]at this;omega
theorem AE.at_{t e:TypeId}{k:Nat}{ps:b4c (DataW H)}(ht:P.underlying t=some (.array k e))(h:AE P t (.agg ps)){i:Nat}{d:DataW H}(hd:ps[i]? =some d):AE P e d:=by
 intro x hx;refine h x ?_;simp only[DataW.weights,ht];exact Xl e ps i d hd x hx
theorem nL(σ:Sg):∀(fs:b4c Field) (off tot:Nat) (cs:b4c Value) (parts:b4c (b4c AV)),OI P off fs tot->cs.length=tot->parts.length=fs.length->
  (∀(i:Nat) (f:Field) (p:b4c AV),fs[i]? =some f->parts[i]? =some p->D0 σ p ((cs.drop f.offset).take (P.cellsOf f.type)))->D0 σ parts.flatten (cs.drop off)
 |[],off,tot,cs,parts,hc,hl,hp,_=>by
  simp only[OI,beq_iff_eq]at hc;have:parts=[]:=List.eq_nil_of_length_eq_zero (by simpa using hp);subst this;rw[List.drop_of_length_le (by omega)];exact D0.nil σ
 |f::fs,off,tot,cs,[],hc,hl,hp,_=>by simp at hp
 |f::fs,off,tot,cs,p::parts,hc,hl,hp,h=>by
  simp only[OI,b3x,beq_iff_eq]at hc;obtain⟨h1,h2⟩:=hc;have h3:=h 0 f p rfl rfl;have h4:=nL σ fs (off+P.cellsOf f.type) tot cs parts h2 hl (by simpa using hp) (λi g q hg hq=>h (i+1) g q (by simpa using hg) (by simpa using hq));have:=h3.append h4;rw[h1,<-List.drop_drop,List.take_append_drop]at this;simpa using this
theorem jj(σ:Sg)(k:Nat):∀(parts:b4c (b4c AV)) (cs:b4c Value),cs.length=parts.length*k->
  (∀(i:Nat) (p:b4c AV),parts[i]? =some p->D0 σ p ((cs.drop (i*k)).take k))->D0 σ parts.flatten cs
 |[],cs,hl,_=>by
  have:cs=[]:=List.eq_nil_of_length_eq_zero (by simpa using hl);subst this;exact D0.nil σ
 |p::parts,cs,hl,h=>by
  have h3:=h 0 p rfl;rw[List.length_cons,Nat.add_mul]at hl
  have h4:=jj σ k parts (cs.drop k) (by simp;omega) (λi q hq=>by
   have:=h (i+1) q (by simpa using hq);rw[List.drop_drop,show k+i*k=(i+1)*k by rw[Nat.add_mul];omega];exact this)
  have:=h3.append h4;simp only[Nat.zero_mul,List.drop_zero,List.take_append_drop]at this;simpa using this
theorem Rf{a b:b4c AV}:B7 (a++b)=(B7 a&&B7 b):=by
 induction a with
 |nil=>simp[B7]
 |cons x a ih=>simp[B7,ih,Bool.and_assoc]
theorem Wv:∀{l:b4c (b4c AV)},(∀p∈l,B7 p=true)->B7 l.flatten=true
 |[],_=>rfl
 |p::l,h=>by rw[List.flatten_cons,Rf,h p (by simp),Wv (λq hq=>h q (by simp[hq]))];rfl
theorem gV:∀{l:b4c (b4c AV)},(∀p∈l,B7 p=true)->F9 l=true
 |[],_=>rfl
 |p::l,h=>by simp only[F9,b3x];exact⟨h p (by simp),gV λq hq=>h q (by simp[hq])⟩
end
end
def eL{α:Type}(e:α->b4c AV)(x:b4c α):b4c AV:=[.sl (List.map e x) .no]
def EN(x:Int):b4c AV:=[.v (.int .i8 x)]
theorem Q4(l:b4c Int):F9 (l.map EN):=N7 _ _ λx _=>rfl
def EU(x:Int):b4c AV:=[.v (.int .i16 x)]
theorem S8(l:b4c Int):F9 (l.map EU):=N7 _ _ λx _=>rfl
def Ei(x:Int):b4c AV:=[.v (.int .i32 x)]
theorem S7(l:b4c Int):F9 (l.map Ei):=N7 _ _ λx _=>rfl
def W0(x:Int):b4c AV:=[.v (.int .i64 x)]
theorem P8(l:b4c Int):F9 (l.map W0):=N7 _ _ λx _=>rfl
def BI(x:Int):b4c AV:=[.v (.int .u8 x)]
theorem P6(l:b4c Int):F9 (l.map BI):=N7 _ _ λx _=>rfl
def EX(x:Int):b4c AV:=[.v (.int .u16 x)]
theorem Q9(l:b4c Int):F9 (l.map EX):=N7 _ _ λx _=>rfl
def EY(x:Int):b4c AV:=[.v (.int .u32 x)]
theorem S4(l:b4c Int):F9 (l.map EY):=N7 _ _ λx _=>rfl
def CB(x:Int):b4c AV:=[.v (.int .u64 x)]
theorem R0(l:b4c Int):F9 (l.map CB):=N7 _ _ λx _=>rfl
def BL(x:b4e):b4c AV:=[.v (.bool x)]
theorem S6(l:b4c b4e):F9 (l.map BL):=N7 _ _ λx _=>rfl
def K8(x:b4b):b4c AV:=[.v (.string x)]
theorem P9(l:b4c b4b):F9 (l.map K8):=N7 _ _ λx _=>rfl
structure B0 where
 Num:Int
 Name:ByteArray
 Alias:ByteArray
 D6:Int
 Key:Int
 Kind:Int
 Target:Int
 Union:Int
def E7(x:B0):b4c AV:=[.v (.int .i64 x.Num),.v (.string x.Name),.v (.string x.Alias),.v (.int .i64 x.D6),.v (.int .i64 x.Key),.v (.int .i64 x.Kind),.v (.int .i64 x.Target),.v (.int .i64 x.Union)]
theorem P5(x:B0):B7 (E7 x):=by simp[E7,B7,plain,Q4,S8,S7,P8,P6,Q9,S4,R0,S6,P9,S0,S5,U5]
theorem T6(l:b4c B0):F9 (l.map E7):=N7 _ _ λx _=>P5 x
structure C2 where
 Name:ByteArray
 Ops:(List B0)
 de:Int
def H6(x:C2):b4c AV:=[.v (.string x.Name),.sl (List.map E7 x.Ops) .no,.v (.int .i64 x.de)]
theorem T1(x:C2):B7 (H6 x):=by simp[H6,B7,plain,Q4,S8,S7,P8,P6,Q9,S4,R0,S6,P9,S0,S5,U5,P5,T6]
theorem U1(l:b4c C2):F9 (l.map H6):=N7 _ _ λx _=>T1 x
structure D8 where
 Num:Int
 J0:Int
 Bits:Int
 Data:ByteArray
def G6(x:D8):b4c AV:=[.v (.int .i64 x.Num),.v (.int .i64 x.J0),.v (.int .u64 x.Bits),.v (.string x.Data)]
theorem T5(x:D8):B7 (G6 x):=by simp[G6,B7,plain,Q4,S8,S7,P8,P6,Q9,S4,R0,S6,P9,S0,S5,U5,P5,T6,T1,U1]
theorem U8(l:b4c D8):F9 (l.map G6):=N7 _ _ λx _=>T5 x
structure A0 where
 Kind:Int
 Bits:Int
 Text:ByteArray
 B4:(List A0)
 Pairs:(List (A0 × A0))
 Slots:(List (Int × A0))
 C1:(List D8)
mutual
def H3:A0->List AV
 |⟨f0,f1,f2,f3,f4,f5,f6⟩=>[.v (.int .i64 f0),.v (.int .u64 f1),.v (.string f2),.sl (MF f3) .no,.sl (Kw f4) .no,.sl (ML f5) .no,.sl (List.map G6 f6) .no]
def MF:List A0->List (List AV)
 |[]=>[]
 |x::l=>(H3 x)::MF l
def Kw:List (A0 × A0)->List (List AV)
 |[]=>[]
 |(z0,z1)::l=>(H3 z0++H3 z1)::Kw l
def ML:List (Int × A0)->List (List AV)
 |[]=>[]
 |(z0,z1)::l=>([.v (.int .i64 z0)]++H3 z1)::ML l
end
def D1(x:A0 × A0):b4c AV:=H3 x.1++H3 x.2
def D2(x:Int × A0):b4c AV:=[.v (.int .i64 x.1)]++H3 x.2
theorem bq:∀l,MF l=List.map H3 l
 |[]=>rfl
 |x::l=>by simp only[MF,List.map_cons,bq l]
theorem cu:∀l,Kw l=List.map D1 l
 |[]=>rfl
 |x::l=>by simp only[Kw,List.map_cons,cu l,D1]
theorem ZW:∀l,ML l=List.map D2 l
 |[]=>rfl
 |x::l=>by simp only[ML,List.map_cons,ZW l,D2]
def C4(x:A0):b4c AV:=[.v (.int .i64 x.Kind),.v (.int .u64 x.Bits),.v (.string x.Text),.sl (List.map H3 x.B4) .no,.sl (List.map D1 x.Pairs) .no,.sl (List.map D2 x.Slots) .no,.sl (List.map G6 x.C1) .no]
def L4(x:A0 × A0):b4c AV:=[.v (.int .i64 x.1.Kind),.v (.int .u64 x.1.Bits),.v (.string x.1.Text),.sl (List.map H3 x.1.B4) .no,.sl (List.map D1 x.1.Pairs) .no,.sl (List.map D2 x.1.Slots) .no,.sl (List.map G6 x.1.C1) .no,.v (.int .i64 x.2.Kind),.v (.int .u64 x.2.Bits),.v (.string x.2.Text),.sl (List.map H3 x.2.B4) .no,.sl (List.map D1 x.2.Pairs) .no,.sl (List.map D2 x.2.Slots) .no,.sl (List.map G6 x.2.C1) .no]
def M4(x:Int × A0):b4c AV:=[.v (.int .i64 x.1),.v (.int .i64 x.2.Kind),.v (.int .u64 x.2.Bits),.v (.string x.2.Text),.sl (List.map H3 x.2.B4) .no,.sl (List.map D1 x.2.Pairs) .no,.sl (List.map D2 x.2.Slots) .no,.sl (List.map G6 x.2.C1) .no]
theorem CS(x:A0):H3 x=C4 x:=by cases x;simp only[H3,C4,bq,cu,ZW]
theorem Ll(x:A0 × A0):D1 x=L4 x:=by simp only[D1,L4,CS,C4,List.cons_append,List.nil_append]
theorem Kr(x:Int × A0):D2 x=M4 x:=by simp only[D2,M4,CS,C4,List.cons_append,List.nil_append]
mutual
theorem UL:∀x,B7 (H3 x)=true
 |⟨f0,f1,f2,f3,f4,f5,f6⟩=>by simp[H3,B7,plain,cL f3,bc f4,dN f5,Q4,S8,S7,P8,P6,Q9,S4,R0,S6,P9,S0,S5,U5,P5,T6,T1,U1,T5,U8]
theorem cL:∀l,F9 (MF l)=true
 |[]=>rfl
 |x::l=>by simp[MF,F9,B7,plain,Rf,UL x,cL l]
theorem bc:∀l,F9 (Kw l)=true
 |[]=>rfl
 |(z0,z1)::l=>by simp[Kw,F9,B7,plain,Rf,UL z0,UL z1,bc l]
theorem dN:∀l,F9 (ML l)=true
 |[]=>rfl
 |(z0,z1)::l=>by simp[ML,F9,B7,plain,Rf,UL z1,dN l]
end
theorem V1(l:b4c A0):F9 (l.map H3):=by rw[<-bq];exact cL l
theorem T0(x:A0):B7 (C4 x):=by have:=V1 [x];simpa[F9,CS]using this
theorem U7(l:b4c (A0 × A0)):F9 (l.map D1):=by rw[<-cu];exact bc l
theorem T9(x:A0 × A0):B7 (L4 x):=by have:=U7 [x];simpa[F9,Ll]using this
theorem V0(l:b4c (Int × A0)):F9 (l.map D2):=by rw[<-ZW];exact dN l
theorem T8(x:Int × A0):B7 (M4 x):=by have:=V0 [x];simpa[F9,Kr]using this
structure Z5 where
 Name:ByteArray
 Val:A0
def BR(x:Z5):b4c AV:=[.v (.string x.Name),.v (.int .i64 x.Val.Kind),.v (.int .u64 x.Val.Bits),.v (.string x.Val.Text),.sl (List.map H3 x.Val.B4) .no,.sl (List.map D1 x.Val.Pairs) .no,.sl (List.map D2 x.Val.Slots) .no,.sl (List.map G6 x.Val.C1) .no]
theorem V3(x:Z5):B7 (BR x):=by simp[BR,B7,plain,Q4,S8,S7,P8,P6,Q9,S4,R0,S6,P9,S0,S5,U5,P5,T6,T1,U1,T5,U8,T0,V1,T9,U7,T8,V0]
theorem W3(l:b4c Z5):F9 (l.map BR):=N7 _ _ λx _=>V3 x
structure O5 where
 Name:ByteArray
 Num:Int
 Notes:(List Z5)
def V7(x:O5):b4c AV:=[.v (.string x.Name),.v (.int .i64 x.Num),.sl (List.map BR x.Notes) .no]
theorem W5(x:O5):B7 (V7 x):=by simp[V7,B7,plain,Q4,S8,S7,P8,P6,Q9,S4,R0,S6,P9,S0,S5,U5,P5,T6,T1,U1,T5,U8,T0,V1,T9,U7,T8,V0,V3,W3]
theorem X1(l:b4c O5):F9 (l.map V7):=N7 _ _ λx _=>W5 x
structure Ba where
 From:Int
 To:Int
def Br(x:Ba):b4c AV:=[.v (.int .i64 x.From),.v (.int .i64 x.To)]
theorem X6(x:Ba):B7 (Br x):=by simp[Br,B7,plain,Q4,S8,S7,P8,P6,Q9,S4,R0,S6,P9,S0,S5,U5,P5,T6,T1,U1,T5,U8,T0,V1,T9,U7,T8,V0,V3,W3,W5,X1]
theorem Y7(l:b4c Ba):F9 (l.map Br):=N7 _ _ λx _=>X6 x
structure I2 where
 Name:ByteArray
 Open:Bool
 Items:(List O5)
 Reserved:(List Ba)
 Notes:(List Z5)
def U9(x:I2):b4c AV:=[.v (.string x.Name),.v (.bool x.Open),.sl (List.map V7 x.Items) .no,.sl (List.map Br x.Reserved) .no,.sl (List.map BR x.Notes) .no]
theorem Y5(x:I2):B7 (U9 x):=by simp[U9,B7,plain,Q4,S8,S7,P8,P6,Q9,S4,R0,S6,P9,S0,S5,U5,P5,T6,T1,U1,T5,U8,T0,V1,T9,U7,T8,V0,V3,W3,W5,X1,X6,Y7]
theorem Z9(l:b4c I2):F9 (l.map U9):=N7 _ _ λx _=>Y5 x
structure A5 where
 A7:(List C2)
 C3:(List I2)
def C7(x:A5):b4c AV:=[.sl (List.map H6 x.A7) .no,.sl (List.map U9 x.C3) .no]
theorem AS(x:A5):B7 (C7 x):=by simp[C7,B7,plain,Q4,S8,S7,P8,P6,Q9,S4,R0,S6,P9,S0,S5,U5,P5,T6,T1,U1,T5,U8,T0,V1,T9,U7,T8,V0,V3,W3,W5,X1,X6,Y7,Y5,Z9]
theorem AO(l:b4c A5):F9 (l.map C7):=N7 _ _ λx _=>AS x
structure FY where
 Bytes:Int
 b23:Int
 Nodes:Int
 Text:Int
def Bp(x:FY):b4c AV:=[.v (.int .i64 x.Bytes),.v (.int .i64 x.b23),.v (.int .i64 x.Nodes),.v (.int .i64 x.Text)]
theorem Ae(x:FY):B7 (Bp x):=by simp[Bp,B7,plain,Q4,S8,S7,P8,P6,Q9,S4,R0,S6,P9,S0,S5,U5,P5,T6,T1,U1,T5,U8,T0,V1,T9,U7,T8,V0,V3,W3,W5,X1,X6,Y7,Y5,Z9,AS,AO]
theorem Ak(l:b4c FY):F9 (l.map Bp):=N7 _ _ λx _=>Ae x
structure FN where
 name:ByteArray
 val:ByteArray
def Gi(x:FN):b4c AV:=[.v (.string x.name),.v (.string x.val)]
theorem Au(x:FN):B7 (Gi x):=by simp[Gi,B7,plain,Q4,S8,S7,P8,P6,Q9,S4,R0,S6,P9,S0,S5,U5,P5,T6,T1,U1,T5,U8,T0,V1,T9,U7,T8,V0,V3,W3,W5,X1,X6,Y7,Y5,Z9,AS,AO,Ae,Ak]
theorem Ar(l:b4c FN):F9 (l.map Gi):=N7 _ _ λx _=>Au x
structure FJ where
 name:ByteArray
def Ih(x:FJ):b4c AV:=[.v (.string x.name)]
theorem BP(x:FJ):B7 (Ih x):=by simp[Ih,B7,plain,Q4,S8,S7,P8,P6,Q9,S4,R0,S6,P9,S0,S5,U5,P5,T6,T1,U1,T5,U8,T0,V1,T9,U7,T8,V0,V3,W3,W5,X1,X6,Y7,Y5,Z9,AS,AO,Ae,Ak,Au,Ar]
theorem BO(l:b4c FJ):F9 (l.map Ih):=N7 _ _ λx _=>BP x
structure Fg where
def GG(x:Fg):b4c AV:=[]
theorem Bj(x:Fg):B7 (GG x):=by simp[GG,B7,plain,Q4,S8,S7,P8,P6,Q9,S4,R0,S6,P9,S0,S5,U5,P5,T6,T1,U1,T5,U8,T0,V1,T9,U7,T8,V0,V3,W3,W5,X1,X6,Y7,Y5,Z9,AS,AO,Ae,Ak,Au,Ar,BP,BO]
theorem Bd(l:b4c Fg):F9 (l.map GG):=N7 _ _ λx _=>Bj x
structure Ec where
 slots:(List (Int × A0))
 Kc:(List D8)
def Fb(x:Ec):b4c AV:=[.sl (List.map D2 x.slots) .no,.sl (List.map G6 x.Kc) .no]
theorem Bw(x:Ec):B7 (Fb x):=by simp[Fb,B7,plain,Q4,S8,S7,P8,P6,Q9,S4,R0,S6,P9,S0,S5,U5,P5,T6,T1,U1,T5,U8,T0,V1,T9,U7,T8,V0,V3,W3,W5,X1,X6,Y7,Y5,Z9,AS,AO,Ae,Ak,Au,Ar,BP,BO,Bj,Bd]
theorem Bu(l:b4c Ec):F9 (l.map Fb):=N7 _ _ λx _=>Bw x
structure M6 where
 p:A5
def Cj(x:M6):b4c AV:=[.sl (List.map H6 x.p.A7) .no,.sl (List.map U9 x.p.C3) .no]
theorem CY(x:M6):B7 (Cj x):=by simp[Cj,B7,plain,Q4,S8,S7,P8,P6,Q9,S4,R0,S6,P9,S0,S5,U5,P5,T6,T1,U1,T5,U8,T0,V1,T9,U7,T8,V0,V3,W3,W5,X1,X6,Y7,Y5,Z9,AS,AO,Ae,Ak,Au,Ar,BP,BO,Bj,Bd,Bw,Bu]
theorem Cg(l:b4c M6):F9 (l.map Cj):=N7 _ _ λx _=>CY x
structure Fl where
 is:B3
def Jh(x:Fl):b4c AV:=[.clo (.func x.is.fn) x.is.fi x.is.cap]
theorem Cw(x:Fl):B7 (Jh x):=by simp[Jh,B7,plain,Q4,S8,S7,P8,P6,Q9,S4,R0,S6,P9,S0,S5,U5,P5,T6,T1,U1,T5,U8,T0,V1,T9,U7,T8,V0,V3,W3,W5,X1,X6,Y7,Y5,Z9,AS,AO,Ae,Ak,Au,Ar,BP,BO,Bj,Bd,Bw,Bu,CY,Cg]
theorem DP(l:b4c Fl):F9 (l.map Jh):=N7 _ _ λx _=>Cw x
inductive E5 where
 |nil
 |b29 (x:ByteArray)
 |EC (x:FN)
 |Dy (x:FJ)
 |Dx (x:Fg)
 |b2z (x:Int)
 |Fy (x:A0)
 |Da (x:(List A0))
 |DZ (x:(List (A0 × A0)))
 |DX (x:Ec)
def M1:E5->AV
 |.nil=>.v .nilIface
 |.b29 x=>.iface 9 (.v (.string x))
 |.EC x=>.iface 126 (.agg (Gi x))
 |.Dy x=>.iface 128 (.agg (Ih x))
 |.Dx x=>.iface 130 (.agg (GG x))
 |.b2z x=>.iface 261 (.v (.int .i64 x))
 |.Fy x=>.iface 275 (.agg (C4 x))
 |.Da x=>.iface 276 (.sl (List.map H3 x) .no)
 |.DZ x=>.iface 278 (.sl (List.map D1 x) .no)
 |.DX x=>.iface 281 (.agg (Fb x))
theorem DH(x:E5):plain (M1 x):=by cases x<;>simp[M1,plain,B7,Q4,S8,S7,P8,P6,Q9,S4,R0,S6,P9,S0,S5,U5,P5,T6,T1,U1,T5,U8,T0,V1,T9,U7,T8,V0,V3,W3,W5,X1,X6,Y7,Y5,Z9,AS,AO,Ae,Ak,Au,Ar,BP,BO,Bj,Bd,Bw,Bu,CY,Cg,Cw,DP]
theorem HL(m:b4c b4e)(n:Nat)(x:E5):low m n (M1 x):=by
 have h:=F7 m n [M1 x] (by simp[B7,DH]);simpa[D4]using h
def BQ(x:E5):b4c AV:=[M1 x]
theorem Df(l:b4c E5):F9 (l.map BQ):=N7 _ _ λx _=>by simp[BQ,B7,DH]
structure G3 where
 p:A5
 parts:(List E5)
def Hw(x:G3):b4c AV:=[.sl (List.map H6 x.p.A7) .no,.sl (List.map U9 x.p.C3) .no,.sl (List.map BQ x.parts) .no]
theorem Ef(x:G3):B7 (Hw x):=by simp[Hw,B7,plain,Q4,S8,S7,P8,P6,Q9,S4,R0,S6,P9,S0,S5,U5,P5,T6,T1,U1,T5,U8,T0,V1,T9,U7,T8,V0,V3,W3,W5,X1,X6,Y7,Y5,Z9,AS,AO,Ae,Ak,Au,Ar,BP,BO,Bj,Bd,Bw,Bu,CY,Cg,Cw,DP,DH,Df]
theorem Em(l:b4c G3):F9 (l.map Hw):=N7 _ _ λx _=>Ef x
theorem Gt(m:b4c b4e)(n:Nat)(x:B0):D4 m n (E7 x):=F7 _ _ _ (P5 x)
theorem Gc(m:b4c b4e)(n:Nat)(x:C2):D4 m n (H6 x):=F7 _ _ _ (T1 x)
theorem Gr(m:b4c b4e)(n:Nat)(x:D8):D4 m n (G6 x):=F7 _ _ _ (T5 x)
theorem Hq(m:b4c b4e)(n:Nat)(x:A0):D4 m n (C4 x):=F7 _ _ _ (T0 x)
theorem IP(m:b4c b4e)(n:Nat)(x:A0 × A0):D4 m n (L4 x):=F7 _ _ _ (T9 x)
theorem HI(m:b4c b4e)(n:Nat)(x:Int × A0):D4 m n (M4 x):=F7 _ _ _ (T8 x)
theorem Gq(m:b4c b4e)(n:Nat)(x:Z5):D4 m n (BR x):=F7 _ _ _ (V3 x)
theorem If(m:b4c b4e)(n:Nat)(x:O5):D4 m n (V7 x):=F7 _ _ _ (W5 x)
theorem IE(m:b4c b4e)(n:Nat)(x:Ba):D4 m n (Br x):=F7 _ _ _ (X6 x)
theorem GO(m:b4c b4e)(n:Nat)(x:I2):D4 m n (U9 x):=F7 _ _ _ (Y5 x)
theorem Hy(m:b4c b4e)(n:Nat)(x:A5):D4 m n (C7 x):=F7 _ _ _ (AS x)
theorem Hc(m:b4c b4e)(n:Nat)(x:FY):D4 m n (Bp x):=F7 _ _ _ (Ae x)
theorem Hd(m:b4c b4e)(n:Nat)(x:FN):D4 m n (Gi x):=F7 _ _ _ (Au x)
theorem GK(m:b4c b4e)(n:Nat)(x:FJ):D4 m n (Ih x):=F7 _ _ _ (BP x)
theorem GX(m:b4c b4e)(n:Nat)(x:Fg):D4 m n (GG x):=F7 _ _ _ (Bj x)
theorem HS(m:b4c b4e)(n:Nat)(x:Ec):D4 m n (Fb x):=F7 _ _ _ (Bw x)
theorem Hm(m:b4c b4e)(n:Nat)(x:M6):D4 m n (Cj x):=F7 _ _ _ (CY x)
theorem GH(m:b4c b4e)(n:Nat)(x:Fl):D4 m n (Jh x):=F7 _ _ _ (Cw x)
theorem GR(m:b4c b4e)(n:Nat)(x:G3):D4 m n (Hw x):=F7 _ _ _ (Ef x)
theorem GY(m:b4c b4e)(n:Nat)(l:b4c Int):H7 m n (l.map EN):=M8 _ _ _ (Q4 l)
theorem HZ(m:b4c b4e)(n:Nat)(l:b4c Int):H7 m n (l.map EU):=M8 _ _ _ (S8 l)
theorem Gl(m:b4c b4e)(n:Nat)(l:b4c Int):H7 m n (l.map Ei):=M8 _ _ _ (S7 l)
theorem IU(m:b4c b4e)(n:Nat)(l:b4c Int):H7 m n (l.map W0):=M8 _ _ _ (P8 l)
theorem GN(m:b4c b4e)(n:Nat)(l:b4c Int):H7 m n (l.map BI):=M8 _ _ _ (P6 l)
theorem IG(m:b4c b4e)(n:Nat)(l:b4c Int):H7 m n (l.map EX):=M8 _ _ _ (Q9 l)
theorem Ht(m:b4c b4e)(n:Nat)(l:b4c Int):H7 m n (l.map EY):=M8 _ _ _ (S4 l)
theorem Gk(m:b4c b4e)(n:Nat)(l:b4c Int):H7 m n (l.map CB):=M8 _ _ _ (R0 l)
theorem Gn(m:b4c b4e)(n:Nat)(l:b4c b4e):H7 m n (l.map BL):=M8 _ _ _ (S6 l)
theorem Gv(m:b4c b4e)(n:Nat)(l:b4c b4b):H7 m n (l.map K8):=M8 _ _ _ (P9 l)
theorem HH(m:b4c b4e)(n:Nat)(l:b4c B0):H7 m n (l.map E7):=M8 _ _ _ (T6 l)
theorem HJ(m:b4c b4e)(n:Nat)(l:b4c C2):H7 m n (l.map H6):=M8 _ _ _ (U1 l)
theorem Ga(m:b4c b4e)(n:Nat)(l:b4c D8):H7 m n (l.map G6):=M8 _ _ _ (U8 l)
theorem Hp(m:b4c b4e)(n:Nat)(l:b4c A0):H7 m n (l.map H3):=M8 _ _ _ (V1 l)
theorem GU(m:b4c b4e)(n:Nat)(l:b4c (A0 × A0)):H7 m n (l.map D1):=M8 _ _ _ (U7 l)
theorem IW(m:b4c b4e)(n:Nat)(l:b4c (Int × A0)):H7 m n (l.map D2):=M8 _ _ _ (V0 l)
theorem Ij(m:b4c b4e)(n:Nat)(l:b4c Z5):H7 m n (l.map BR):=M8 _ _ _ (W3 l)
theorem GS(m:b4c b4e)(n:Nat)(l:b4c O5):H7 m n (l.map V7):=M8 _ _ _ (X1 l)
theorem IJ(m:b4c b4e)(n:Nat)(l:b4c Ba):H7 m n (l.map Br):=M8 _ _ _ (Y7 l)
theorem IA(m:b4c b4e)(n:Nat)(l:b4c I2):H7 m n (l.map U9):=M8 _ _ _ (Z9 l)
theorem IR(m:b4c b4e)(n:Nat)(l:b4c A5):H7 m n (l.map C7):=M8 _ _ _ (AO l)
theorem Gg(m:b4c b4e)(n:Nat)(l:b4c FY):H7 m n (l.map Bp):=M8 _ _ _ (Ak l)
theorem Hu(m:b4c b4e)(n:Nat)(l:b4c FN):H7 m n (l.map Gi):=M8 _ _ _ (Ar l)
theorem Hn(m:b4c b4e)(n:Nat)(l:b4c FJ):H7 m n (l.map Ih):=M8 _ _ _ (BO l)
theorem GP(m:b4c b4e)(n:Nat)(l:b4c Fg):H7 m n (l.map GG):=M8 _ _ _ (Bd l)
theorem Gw(m:b4c b4e)(n:Nat)(l:b4c Ec):H7 m n (l.map Fb):=M8 _ _ _ (Bu l)
theorem GW(m:b4c b4e)(n:Nat)(l:b4c M6):H7 m n (l.map Cj):=M8 _ _ _ (Cg l)
theorem IM(m:b4c b4e)(n:Nat)(l:b4c Fl):H7 m n (l.map Jh):=M8 _ _ _ (DP l)
theorem HQ(m:b4c b4e)(n:Nat)(l:b4c E5):H7 m n (l.map BQ):=M8 _ _ _ (Df l)
theorem HG(m:b4c b4e)(n:Nat)(l:b4c G3):H7 m n (l.map Hw):=M8 _ _ _ (Em l)
theorem IY(m:b4c b4e)(n:Nat)(l:b4c Int):D4 m n (cellsOf EN l):=F7 _ _ _ (N6 _ (Q4 l))
theorem Ge(m:b4c b4e)(n:Nat)(l:b4c Int):D4 m n (cellsOf EU l):=F7 _ _ _ (N6 _ (S8 l))
theorem Gm(m:b4c b4e)(n:Nat)(l:b4c Int):D4 m n (cellsOf Ei l):=F7 _ _ _ (N6 _ (S7 l))
theorem He(m:b4c b4e)(n:Nat)(l:b4c Int):D4 m n (cellsOf W0 l):=F7 _ _ _ (N6 _ (P8 l))
theorem IV(m:b4c b4e)(n:Nat)(l:b4c Int):D4 m n (cellsOf BI l):=F7 _ _ _ (N6 _ (P6 l))
theorem Ia(m:b4c b4e)(n:Nat)(l:b4c Int):D4 m n (cellsOf EX l):=F7 _ _ _ (N6 _ (Q9 l))
theorem IZ(m:b4c b4e)(n:Nat)(l:b4c Int):D4 m n (cellsOf EY l):=F7 _ _ _ (N6 _ (S4 l))
theorem IK(m:b4c b4e)(n:Nat)(l:b4c Int):D4 m n (cellsOf CB l):=F7 _ _ _ (N6 _ (R0 l))
theorem Gy(m:b4c b4e)(n:Nat)(l:b4c b4e):D4 m n (cellsOf BL l):=F7 _ _ _ (N6 _ (S6 l))
theorem Hi(m:b4c b4e)(n:Nat)(l:b4c b4b):D4 m n (cellsOf K8 l):=F7 _ _ _ (N6 _ (P9 l))
theorem GM(m:b4c b4e)(n:Nat)(l:b4c B0):D4 m n (cellsOf E7 l):=F7 _ _ _ (N6 _ (T6 l))
theorem GC(m:b4c b4e)(n:Nat)(l:b4c C2):D4 m n (cellsOf H6 l):=F7 _ _ _ (N6 _ (U1 l))
theorem Hj(m:b4c b4e)(n:Nat)(l:b4c D8):D4 m n (cellsOf G6 l):=F7 _ _ _ (N6 _ (U8 l))
theorem Ib(m:b4c b4e)(n:Nat)(l:b4c A0):D4 m n (cellsOf H3 l):=F7 _ _ _ (N6 _ (V1 l))
theorem IS(m:b4c b4e)(n:Nat)(l:b4c (A0 × A0)):D4 m n (cellsOf D1 l):=F7 _ _ _ (N6 _ (U7 l))
theorem Hb(m:b4c b4e)(n:Nat)(l:b4c (Int × A0)):D4 m n (cellsOf D2 l):=F7 _ _ _ (N6 _ (V0 l))
theorem HC(m:b4c b4e)(n:Nat)(l:b4c Z5):D4 m n (cellsOf BR l):=F7 _ _ _ (N6 _ (W3 l))
theorem Gd(m:b4c b4e)(n:Nat)(l:b4c O5):D4 m n (cellsOf V7 l):=F7 _ _ _ (N6 _ (X1 l))
theorem GV(m:b4c b4e)(n:Nat)(l:b4c Ba):D4 m n (cellsOf Br l):=F7 _ _ _ (N6 _ (Y7 l))
theorem Hs(m:b4c b4e)(n:Nat)(l:b4c I2):D4 m n (cellsOf U9 l):=F7 _ _ _ (N6 _ (Z9 l))
theorem Ic(m:b4c b4e)(n:Nat)(l:b4c A5):D4 m n (cellsOf C7 l):=F7 _ _ _ (N6 _ (AO l))
theorem Hg(m:b4c b4e)(n:Nat)(l:b4c FY):D4 m n (cellsOf Bp l):=F7 _ _ _ (N6 _ (Ak l))
theorem Gj(m:b4c b4e)(n:Nat)(l:b4c FN):D4 m n (cellsOf Gi l):=F7 _ _ _ (N6 _ (Ar l))
theorem GT(m:b4c b4e)(n:Nat)(l:b4c FJ):D4 m n (cellsOf Ih l):=F7 _ _ _ (N6 _ (BO l))
theorem HB(m:b4c b4e)(n:Nat)(l:b4c Fg):D4 m n (cellsOf GG l):=F7 _ _ _ (N6 _ (Bd l))
theorem HU(m:b4c b4e)(n:Nat)(l:b4c Ec):D4 m n (cellsOf Fb l):=F7 _ _ _ (N6 _ (Bu l))
theorem Hr(m:b4c b4e)(n:Nat)(l:b4c M6):D4 m n (cellsOf Cj l):=F7 _ _ _ (N6 _ (Cg l))
theorem Hx(m:b4c b4e)(n:Nat)(l:b4c Fl):D4 m n (cellsOf Jh l):=F7 _ _ _ (N6 _ (DP l))
theorem HT(m:b4c b4e)(n:Nat)(l:b4c E5):D4 m n (cellsOf BQ l):=F7 _ _ _ (N6 _ (Df l))
theorem Gz(m:b4c b4e)(n:Nat)(l:b4c G3):D4 m n (cellsOf Hw l):=F7 _ _ _ (N6 _ (Em l))
theorem a7w{P:Program}{f:Nat}{R:Rm}{s:Mc}(m:Nat){y:E5}{A:FN->Prop}{B:Prop}(h1:∀{z},Wk P f R (put (run m s) (.tuple [.agg (Gi z),.v (.bool true)])) (A z))(h2:Wk P f R (put (run m s) (.tuple [oZ (op (run m s)),.v (.bool false)])) B)(hc:okS (run m s):=by kernel_rfl)(ho:op (run m s)=.AL 126 true (oZ (op (run m s))) (oX (op (run m s))):=by kernel_rfl)(hx:xv (run m s)=some (M1 y):=by kernel_rfl):Wk P f R s ((∀z,y=.EC z->A z)/\((∀z,y≠.EC z)->B)):=λhw=>by
 cases y with
 |EC z=>exact ev0 m (λh K hk=>by rw[ho];simp only[E0];change wv (xv _) _;simp only[hx,wv,M1,W2];exact hk) (h1 (hw.1 z rfl)) hc
 |_=>exact ev0 m (λh K hk=>by rw[ho];simp only[E0];change wv (xv _) _;simp only[hx,wv,M1,W2];first|exact⟨trivial,hk⟩|exact⟨rfl,hk⟩) (h2 (hw.2 λz hz=>by cases hz)) hc
theorem a8i{P:Program}{f:Nat}{R:Rm}{s:Mc}(m:Nat){y:E5}{A:FJ->Prop}{B:Prop}(h1:∀{z},Wk P f R (put (run m s) (.tuple [.agg (Ih z),.v (.bool true)])) (A z))(h2:Wk P f R (put (run m s) (.tuple [oZ (op (run m s)),.v (.bool false)])) B)(hc:okS (run m s):=by kernel_rfl)(ho:op (run m s)=.AL 128 true (oZ (op (run m s))) (oX (op (run m s))):=by kernel_rfl)(hx:xv (run m s)=some (M1 y):=by kernel_rfl):Wk P f R s ((∀z,y=.Dy z->A z)/\((∀z,y≠.Dy z)->B)):=λhw=>by
 cases y with
 |Dy z=>exact ev0 m (λh K hk=>by rw[ho];simp only[E0];change wv (xv _) _;simp only[hx,wv,M1,W2];exact hk) (h1 (hw.1 z rfl)) hc
 |_=>exact ev0 m (λh K hk=>by rw[ho];simp only[E0];change wv (xv _) _;simp only[hx,wv,M1,W2];first|exact⟨trivial,hk⟩|exact⟨rfl,hk⟩) (h2 (hw.2 λz hz=>by cases hz)) hc
theorem a6r{P:Program}{f:Nat}{R:Rm}{s:Mc}(m:Nat){y:E5}{A:Fg->Prop}{B:Prop}(h1:∀{z},Wk P f R (put (run m s) (.tuple [.agg (GG z),.v (.bool true)])) (A z))(h2:Wk P f R (put (run m s) (.tuple [oZ (op (run m s)),.v (.bool false)])) B)(hc:okS (run m s):=by kernel_rfl)(ho:op (run m s)=.AL 130 true (oZ (op (run m s))) (oX (op (run m s))):=by kernel_rfl)(hx:xv (run m s)=some (M1 y):=by kernel_rfl):Wk P f R s ((∀z,y=.Dx z->A z)/\((∀z,y≠.Dx z)->B)):=λhw=>by
 cases y with
 |Dx z=>exact ev0 m (λh K hk=>by rw[ho];simp only[E0];change wv (xv _) _;simp only[hx,wv,M1,W2];exact hk) (h1 (hw.1 z rfl)) hc
 |_=>exact ev0 m (λh K hk=>by rw[ho];simp only[E0];change wv (xv _) _;simp only[hx,wv,M1,W2];first|exact⟨trivial,hk⟩|exact⟨rfl,hk⟩) (h2 (hw.2 λz hz=>by cases hz)) hc
theorem rR{P:Program}{f:Nat}{R:Rm}{s:Mc}(m:Nat){y:E5}{A:A0->Prop}{B:Prop}(h1:∀{z},Wk P f R (put (run m s) (.tuple [.agg (C4 z),.v (.bool true)])) (A z))(h2:Wk P f R (put (run m s) (.tuple [oZ (op (run m s)),.v (.bool false)])) B)(hc:okS (run m s):=by kernel_rfl)(ho:op (run m s)=.AL 275 true (oZ (op (run m s))) (oX (op (run m s))):=by kernel_rfl)(hx:xv (run m s)=some (M1 y):=by kernel_rfl):Wk P f R s ((∀z,y=.Fy z->A z)/\((∀z,y≠.Fy z)->B)):=λhw=>by
 cases y with
 |Fy z=>exact ev0 m (λh K hk=>by rw[ho];simp only[E0];change wv (xv _) _;simp only[hx,wv,M1,W2];exact hk) (h1 (hw.1 z rfl)) hc
 |_=>exact ev0 m (λh K hk=>by rw[ho];simp only[E0];change wv (xv _) _;simp only[hx,wv,M1,W2];first|exact⟨trivial,hk⟩|exact⟨rfl,hk⟩) (h2 (hw.2 λz hz=>by cases hz)) hc
theorem zC{P:Program}{f:Nat}{R:Rm}{s:Mc}(m:Nat){y:E5}{A:(b4c A0)->Prop}{B:Prop}(h1:∀{z},Wk P f R (put (run m s) (.tuple [.sl (List.map H3 z) .no,.v (.bool true)])) (A z))(h2:Wk P f R (put (run m s) (.tuple [oZ (op (run m s)),.v (.bool false)])) B)(hc:okS (run m s):=by kernel_rfl)(ho:op (run m s)=.AL 276 true (oZ (op (run m s))) (oX (op (run m s))):=by kernel_rfl)(hx:xv (run m s)=some (M1 y):=by kernel_rfl):Wk P f R s ((∀z,y=.Da z->A z)/\((∀z,y≠.Da z)->B)):=λhw=>by
 cases y with
 |Da z=>exact ev0 m (λh K hk=>by rw[ho];simp only[E0];change wv (xv _) _;simp only[hx,wv,M1,W2];exact hk) (h1 (hw.1 z rfl)) hc
 |_=>exact ev0 m (λh K hk=>by rw[ho];simp only[E0];change wv (xv _) _;simp only[hx,wv,M1,W2];first|exact⟨trivial,hk⟩|exact⟨rfl,hk⟩) (h2 (hw.2 λz hz=>by cases hz)) hc
theorem a0d{P:Program}{f:Nat}{R:Rm}{s:Mc}(m:Nat){y:E5}{W:(b4c A0)->Prop}(hk:∀{z},Wk P f R (put (run m s) (.sl (List.map H3 z) .no)) (W z))(hc:okS (run m s):=by kernel_rfl)(ho:op (run m s)=.AL 276 false (oZ (op (run m s))) (oX (op (run m s))):=by kernel_rfl)(hx:xv (run m s)=some (M1 y):=by kernel_rfl):Wk P f R s (∃z,y=E5.Da z/\W z):=λhw=>by
 obtain⟨z,rfl,hw⟩:=hw;exact ev0 m (λh K hk=>by rw[ho];simp only[E0];change wv (xv _) _;simp only[hx,wv,M1,W2];exact hk) (hk hw) hc
theorem a4c{P:Program}{f:Nat}{R:Rm}{s:Mc}(m:Nat){y:E5}{A:(b4c (A0 × A0))->Prop}{B:Prop}(h1:∀{z},Wk P f R (put (run m s) (.tuple [.sl (List.map D1 z) .no,.v (.bool true)])) (A z))(h2:Wk P f R (put (run m s) (.tuple [oZ (op (run m s)),.v (.bool false)])) B)(hc:okS (run m s):=by kernel_rfl)(ho:op (run m s)=.AL 278 true (oZ (op (run m s))) (oX (op (run m s))):=by kernel_rfl)(hx:xv (run m s)=some (M1 y):=by kernel_rfl):Wk P f R s ((∀z,y=.DZ z->A z)/\((∀z,y≠.DZ z)->B)):=λhw=>by
 cases y with
 |DZ z=>exact ev0 m (λh K hk=>by rw[ho];simp only[E0];change wv (xv _) _;simp only[hx,wv,M1,W2];exact hk) (h1 (hw.1 z rfl)) hc
 |_=>exact ev0 m (λh K hk=>by rw[ho];simp only[E0];change wv (xv _) _;simp only[hx,wv,M1,W2];first|exact⟨trivial,hk⟩|exact⟨rfl,hk⟩) (h2 (hw.2 λz hz=>by cases hz)) hc
theorem yC{P:Program}{f:Nat}{R:Rm}{s:Mc}(m:Nat){y:E5}{W:(b4c (A0 × A0))->Prop}(hk:∀{z},Wk P f R (put (run m s) (.sl (List.map D1 z) .no)) (W z))(hc:okS (run m s):=by kernel_rfl)(ho:op (run m s)=.AL 278 false (oZ (op (run m s))) (oX (op (run m s))):=by kernel_rfl)(hx:xv (run m s)=some (M1 y):=by kernel_rfl):Wk P f R s (∃z,y=E5.DZ z/\W z):=λhw=>by
 obtain⟨z,rfl,hw⟩:=hw;exact ev0 m (λh K hk=>by rw[ho];simp only[E0];change wv (xv _) _;simp only[hx,wv,M1,W2];exact hk) (hk hw) hc
theorem zK{P:Program}{f:Nat}{R:Rm}{s:Mc}(m:Nat){y:E5}{A:Ec->Prop}{B:Prop}(h1:∀{z},Wk P f R (put (run m s) (.tuple [.agg (Fb z),.v (.bool true)])) (A z))(h2:Wk P f R (put (run m s) (.tuple [oZ (op (run m s)),.v (.bool false)])) B)(hc:okS (run m s):=by kernel_rfl)(ho:op (run m s)=.AL 281 true (oZ (op (run m s))) (oX (op (run m s))):=by kernel_rfl)(hx:xv (run m s)=some (M1 y):=by kernel_rfl):Wk P f R s ((∀z,y=.DX z->A z)/\((∀z,y≠.DX z)->B)):=λhw=>by
 cases y with
 |DX z=>exact ev0 m (λh K hk=>by rw[ho];simp only[E0];change wv (xv _) _;simp only[hx,wv,M1,W2];exact hk) (h1 (hw.1 z rfl)) hc
 |_=>exact ev0 m (λh K hk=>by rw[ho];simp only[E0];change wv (xv _) _;simp only[hx,wv,M1,W2];first|exact⟨trivial,hk⟩|exact⟨rfl,hk⟩) (h2 (hw.2 λz hz=>by cases hz)) hc
theorem td{P:Program}{f:Nat}{R:Rm}{s:Mc}(m:Nat){y:E5}{W:Ec->Prop}(hk:∀{z},Wk P f R (put (run m s) (.agg (Fb z))) (W z))(hc:okS (run m s):=by kernel_rfl)(ho:op (run m s)=.AL 281 false (oZ (op (run m s))) (oX (op (run m s))):=by kernel_rfl)(hx:xv (run m s)=some (M1 y):=by kernel_rfl):Wk P f R s (∃z,y=E5.DX z/\W z):=λhw=>by
 obtain⟨z,rfl,hw⟩:=hw;exact ev0 m (λh K hk=>by rw[ho];simp only[E0];change wv (xv _) _;simp only[hx,wv,M1,W2];exact hk) (hk hw) hc
def AR(x:G3):b4c AV:=[.sl (List.map H6 x.p.A7) .no,.sl (List.map U9 x.p.C3) .no,.sl (List.map BQ x.parts) (.own 0)]
def Fk(x:G3):b4c (Nat × Nat):=[(x.parts.length,1)]
theorem LS(x:G3):(AR x).all ok1:=by simp[AR,ok1,plain,Q4,S8,S7,P8,P6,Q9,S4,R0,S6,P9,S0,S5,U5,P5,T6,T1,U1,T5,U8,T0,V1,T9,U7,T8,V0,V3,W3,W5,X1,X6,Y7,Y5,Z9,AS,AO,Ae,Ak,Au,Ar,BP,BO,Bj,Bd,Bw,Bu,CY,Cg,Cw,DP,DH,Df,Ef,Em]
theorem pz(x:G3):D4 [true] 1 (AR x):=by first|rfl|(simp only[AR,low,D4,IY,Ge,Gm,He,IV,Ia,IZ,IK,Gy,Hi,GM,GC,Hj,Ib,IS,Hb,HC,Gd,GV,Hs,Ic,Hg,Gj,GT,HB,HU,Hr,Hx,HT,Gz,GL,Ie,GY,HZ,Gl,IU,GN,IG,Ht,Gk,Gn,Gv,HH,HJ,Ga,Hp,GU,IW,Ij,GS,IJ,IA,IR,Gg,Hu,Hn,GP,Gw,GW,IM,HQ,HG,Gt,Gc,Gr,Hq,IP,HI,Gq,If,IE,GO,Hy,Hc,Hd,GK,GX,HS,Hm,GH,GR,HL];rfl)
theorem wY:O2 BQ 1:=⟨λy=>by cases y<;>rfl,λy=>by cases y<;>rfl,λy=>by simp[BQ,B7,DH],λy=>by cases y<;>rfl⟩
def Oi:En E5:=⟨BQ,BQ,1,λ_=>rfl,λ_=>rfl,wY⟩
theorem zc:O2 BL 1:=⟨λy=>rfl,λy=>rfl,λy=>rfl,λy=>rfl⟩
def ZC:En b4e:=⟨BL,BL,1,λ_=>rfl,λ_=>rfl,zc⟩
theorem a6o:O2 U9 5:=⟨λy=>rfl,λy=>rfl,λy=>Y5 y,λy=>rfl⟩
def L0:En I2:=⟨U9,U9,5,λ_=>rfl,λ_=>rfl,a6o⟩
theorem sU:O2 V7 3:=⟨λy=>rfl,λy=>rfl,λy=>W5 y,λy=>rfl⟩
def W1:En O5:=⟨V7,V7,3,λ_=>rfl,λ_=>rfl,sU⟩
theorem a2e:O2 BR 8:=⟨λy=>rfl,λy=>rfl,λy=>V3 y,λy=>rfl⟩
def CQ:En Z5:=⟨BR,BR,8,λ_=>rfl,λ_=>rfl,a2e⟩
theorem yc:O2 E7 8:=⟨λy=>rfl,λy=>rfl,λy=>P5 y,λy=>rfl⟩
def N2:En B0:=⟨E7,E7,8,λ_=>rfl,λ_=>rfl,yc⟩
theorem a5u:O2 D1 14:=⟨λy=>by rw[Ll];rfl,λy=>by rw[Ll];rfl,λy=>by rw[Ll];exact T9 y,λy=>by rw[Ll];rfl⟩
def B8:En (A0 × A0):=⟨L4,D1,14,λy=>Ll y,λ_=>rfl,a5u⟩
theorem a4t:O2 H6 3:=⟨λy=>rfl,λy=>rfl,λy=>T1 y,λy=>rfl⟩
def H8:En C2:=⟨H6,H6,3,λ_=>rfl,λ_=>rfl,a4t⟩
theorem a5a:O2 G6 4:=⟨λy=>rfl,λy=>rfl,λy=>T5 y,λy=>rfl⟩
def N9:En D8:=⟨G6,G6,4,λ_=>rfl,λ_=>rfl,a5a⟩
theorem xo:O2 D2 8:=⟨λy=>by rw[Kr];rfl,λy=>by rw[Kr];rfl,λy=>by rw[Kr];exact T8 y,λy=>by rw[Kr];rfl⟩
def C6:En (Int × A0):=⟨M4,D2,8,λy=>Kr y,λ_=>rfl,xo⟩
theorem uV:O2 Br 2:=⟨λy=>rfl,λy=>rfl,λy=>X6 y,λy=>rfl⟩
def JG:En Ba:=⟨Br,Br,2,λ_=>rfl,λ_=>rfl,uV⟩
theorem a9u:O2 H3 7:=⟨λy=>by rw[CS];rfl,λy=>by rw[CS];rfl,λy=>by rw[CS];exact T0 y,λy=>by rw[CS];rfl⟩
def I4:En A0:=⟨C4,H3,7,λy=>CS y,λ_=>rfl,a9u⟩
theorem a7b:O2 W0 1:=⟨λy=>rfl,λy=>rfl,λy=>rfl,λy=>rfl⟩
def TC:En Int:=⟨W0,W0,1,λ_=>rfl,λ_=>rfl,a7b⟩
theorem a3v:O2 BI 1:=⟨λy=>rfl,λy=>rfl,λy=>rfl,λy=>rfl⟩
def XB:En Int:=⟨BI,BI,1,λ_=>rfl,λ_=>rfl,a3v⟩
theorem b2i:O2 K8 1:=⟨λy=>rfl,λy=>rfl,λy=>rfl,λy=>rfl⟩
def O4:En b4b:=⟨K8,K8,1,λ_=>rfl,λ_=>rfl,b2i⟩
end Go.Proofs.YtdpomombdeccpaaGreatDoor.Lift
