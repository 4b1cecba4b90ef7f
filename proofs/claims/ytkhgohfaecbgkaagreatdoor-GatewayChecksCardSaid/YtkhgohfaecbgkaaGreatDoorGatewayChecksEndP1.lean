/- Part 2 of the texts that prove GatewayChecksEnd. -/
import Derived.Test.YtkhgohfaecbgkaaGreatDoorGatewayChecksEndP0
import Derived.Orders
import Derived.ScopeJumps
namespace Go.Proofs.YtkhgohfaecbgkaaGreatDoor.Lift
open Go.RowKit
set_option linter.unusedVariables false
set_option linter.unusedSimpArgs false
set_option linter.unnecessarySimpa false
set_option linter.unusedSectionVars false
set_option maxRecDepth 100000
section
variable {P:Program}{σ:Sg}{h:A3}{env:Env}{N:Nat}{a:Act}
theorem c9c{v:Value}{av:AV}(h:l9l v=some av):Rel σ av v/\av.isCell=true:=by
 unfold l9l at h;split at h
 ·cases h;exact⟨.nil,rfl⟩
 ·split at h
  ·rename_i hz;cases h;exact⟨Rel.clo_mk hz.1 hz.2 (fun i av hi=>by simp at hi) (fun i av hi=>by simp at hi),rfl⟩
  ·cases h
 ·split at h
  ·rename_i ha;cases h;exact⟨.v _ ha,rfl⟩
  ·cases h
theorem V9:∀{l:List Value}{r:List AV},d3n l=some r->D4 σ r l
 |[],r,h=>by simp[d3n]at h;subst h;exact D4.nil σ
 |v::l,r,h=>by
  simp only[d3n,Option.bind_eq_some_iff,Option.map_eq_some_iff]at h;obtain⟨av,hv,r',hr,rfl⟩:=h;obtain⟨h1,h2⟩:=c9c (σ:=σ) hv;exact(D4.one h1 h2).append (V9 hr)
theorem c7r{v:Value}{av:AV}(h:ofV v=some av):Rel σ av v:=by
 unfold ofV at h;split at h
 ·simp only[Option.map_eq_some_iff]at h;obtain⟨r,hr,rfl⟩:=h;exact Rel.agg_mk' (V9 hr)
 ·exact(c9c h).1
theorem b60(he:W7 σ env a.tmps){x:Operand}{y:G2}(hx:W5 x=some y){av:AV}(hy:y.ev env=some av):Rel σ av (a.eval x):=by
 cases x with
 |tmp t=>
  simp only[W5,Option.some.injEq]at hx;subst hx;obtain⟨v,h1,h2⟩:=he t av hy;have:a.eval (.tmp t)=v:=by simp[Act.eval,h1]
  rw[this];exact h2
 |const v=>
  simp only[W5,Option.map_eq_some_iff]at hx;obtain⟨b,hb,rfl⟩:=hx;cases hy;exact c7r hb
 |func f=>
  simp only[W5,Option.some.injEq]at hx;subst hx;cases hy;exact Rel.clo_mk rfl rfl (fun i av hi=>by simp at hi) (fun i av hi=>by simp at hi)
 |global g=>
  simp only[W5,Option.some.injEq]at hx;subst hx;cases hy;exact .glob g
theorem a7i{o:Option AV}{K:AV->Prop}(h:wv o K):∃av,o=some av/\K av:=by
 cases o with
 |none=>exact h.elim
 |some av=>exact⟨av,rfl,h⟩
theorem opd(he:W7 σ env a.tmps){x:Operand}{y:G2}(hx:W5 x=some y){K:AV->Prop}(h:wv (y.ev env) K):∃av,Rel σ av (a.eval x)/\K av:=by
 obtain⟨av,h1,h2⟩:=a7i h;exact⟨av,b60 he hx h1,h2⟩
theorem opds(he:W7 σ env a.tmps):∀{l:List Operand}{l':List G2}{r:List AV},c3v l=some l'->evs env l'=some r->b7b σ r (l.map a.eval)
 |[],l',r,h1,h2=>by simp[c3v]at h1;subst h1;simp[evs]at h2;subst h2;exact⟨rfl,fun i av hi=>by simp at hi⟩
 |x::l,l',r,h1,h2=>by
  simp only[c3v,Option.bind_eq_some_iff,Option.map_eq_some_iff]at h1;obtain⟨y,hy,l2,hl,rfl⟩:=h1;simp only[evs]at h2;split at h2
  ·rename_i av r' hav hr;cases h2;obtain⟨g1,g2⟩:=opds he hl hr;refine⟨by simp[g1],fun i b hi=>?_⟩;cases i with
   |zero=>simp at hi;subst hi;exact⟨_,rfl,b60 he hy hav⟩
   |succ i=>exact g2 i b (by simpa using hi)
  ·cases h2
theorem g2f(he:W7 σ env a.tmps){x:Option Operand}{y:Option G2}(hx:c44 x=some y){r:Option AV}(hr:evo env y=some r):d7f σ r (x.map a.eval)/\(x.isSome=r.isSome):=by
 cases x with
 |none=>simp[c44]at hx;subst hx;simp[evo]at hr;subst hr;exact⟨.none,rfl⟩
 |some x=>
  simp only[c44,Option.map_eq_some_iff]at hx;obtain⟨z,hz,rfl⟩:=hx;simp only[evo]at hr;split at hr
  ·rename_i av hav;cases hr;exact⟨.some (b60 he hz hav),rfl⟩
  ·cases hr
theorem b68(he:W7 σ env a.tmps){V4:Nat->Option (Nat × Nat)}:∀{l:List (Nat × Operand)}{l':List ((Nat × Nat) × G2)}{r:List ((Nat × Nat) × AV)},b73 V4 l=some l'->evp env l'=some r->
  (l.map fun(i,x)=>(i,a.eval x)).length=r.length/\∀(i:Nat) (b:(Nat × Nat) × AV),r[i]? =some b->∃(k:Nat) (x:Value),(l.map fun(i,x)=>(i,a.eval x))[i]? =some (k,x)/\V4 k=some b.1/\Rel σ b.2 x
 |[],l',r,h1,h2=>by simp[b73]at h1;subst h1;simp[evp]at h2;subst h2;exact⟨rfl,fun i av hi=>by simp at hi⟩
 |(k,x)::l,l',r,h1,h2=>by
  simp only[b73,Option.bind_eq_some_iff,Option.map_eq_some_iff]at h1;obtain⟨pl,hpl,y,hy,l2,hl,rfl⟩:=h1;simp only[evp]at h2;split at h2
  ·rename_i av r' hav hr;cases h2;obtain⟨g1,g2⟩:=b68 he hl hr;refine⟨by simpa using g1,fun i b hi=>?_⟩;cases i with
   |zero=>simp at hi;subst hi;exact⟨k,_,rfl,hpl,b60 he hy hav⟩
   |succ i=>exact g2 i b (by simpa using hi)
  ·cases h2
theorem d2g{t:TypeId}(h:d9q P t=true):P.underlying t=some .string:=by
 unfold d9q at h;split at h
 ·assumption
 ·cases h
theorem c0f{kt:TypeId}(hk:P.underlying kt=some .string)(e:Bool)(n:Nat)(s:ByteArray)(w:World):(Instr.checkKey e (n+1) kt (.string s)).run P w=.ok () w:=by
 simp only[Instr.checkKey,Sem.run_bind,run_underlying hk,Result.andThen_ok,Sem.run_pure]
theorem a62{kt:TypeId}(hk:P.underlying kt=some .string){s:ByteArray}{es:List MapEntry}{q:Option (Nat × Value)}(hq:Instr.findNow .string (.string s) es 0=some q)(w:World):(Instr.findKey kt (.string s) es).run P w=.ok q w:=by
 simp only[Instr.findKey,Sem.run_bind,run_underlying hk,Result.andThen_ok,hq,Sem.run_pure]
theorem j0a{s t:ByteArray}(h:(s==t)=true):s=t:=by
 obtain⟨a⟩:=s;obtain⟨b⟩:=t;have h1:(a==b)=true:=h;have h2:=eq_of_beq h1;subst h2;rfl
theorem d44(s:ByteArray):(s==s)=true:=by
 obtain⟨a⟩:=s;show(a==a)=true;simp
theorem d52{s:ByteArray}:∀{es:List MapEntry}{l:List AV}{r:Option AV}(i:Nat),c8r σ es l->c7o s l=some r->
  ∃q,Instr.findNow .string (.string s) es i=some q/\((r=none/\q=none)\/∃av j v,r=some av/\q=some (j,v)/\Rel σ av v)
 |[],[],r,i,he,hf=>by simp only[c7o,Option.some.injEq]at hf;subst hf;exact⟨none,rfl,.inl ⟨rfl,rfl⟩⟩
 |[],_::_,r,i,he,hf=>he.elim
 |_::_,[],r,i,he,hf=>he.elim
 |e::es,p::l,r,i,⟨⟨k,v,h1,h2,h3⟩,he⟩,hf=>by
  subst h1;simp only[c7o]at hf;split at hf
  ·rename_i t v' heq;simp only[AV.tuple.injEq,List.cons.injEq,and_true]at heq;obtain⟨rfl,rfl⟩:=heq;generalize hek:e.key=ek at h2;cases h2 with
   |v _ _=>
   simp only[Instr.findNow,hek,Instr.sameNow];cases hst:(s==t) with
   |true=>
    rw[hst]at hf;simp only[if_true,Option.some.injEq]at hf;subst hf;exact⟨_,rfl,.inr ⟨_,_,_,rfl,rfl,h3⟩⟩
   |false=>
    rw[hst]at hf;simp only[Bool.false_eq_true,if_false]at hf;exact d52 (i+1) he hf
  ·cases hf
theorem e3b{s:ByteArray}{v:AV}{x:Value}(hv:Rel σ v x)(c:Nat):∀{es:List MapEntry}{l l':List AV}(i:Nat),c8r σ es l->g17 s v l=some l'->
  (∃j w e,Instr.findNow .string (.string s) es i=some (some (i+j,w))/\es[j]? =some e/\e.key=.string s/\c8r σ (es.modify j fun e=>{e with key:=.string s,val:=x}) l')\/
  (Instr.findNow .string (.string s) es i=some none/\c8r σ (es++[{key:=.string s,val:=x,born:=c}]) l')
 |[],[],l',i,he,hf=>by
  simp only[g17,Option.some.injEq]at hf;subst hf;exact .inr ⟨rfl,⟨_,_,rfl,.v _ rfl,hv⟩,trivial⟩
 |[],_::_,l',i,he,hf=>he.elim
 |_::_,[],l',i,he,hf=>he.elim
 |e::es,p::l,l',i,⟨⟨k,w,h1,h2,h3⟩,he⟩,hf=>by
  subst h1;simp only[g17]at hf;split at hf
  ·rename_i t v' heq;simp only[AV.tuple.injEq,List.cons.injEq,and_true]at heq;obtain⟨rfl,rfl⟩:=heq;generalize hek:e.key=ek at h2;cases h2 with
   |v _ _=>
   simp only[Instr.findNow,hek,Instr.sameNow];cases hst:(s==t) with
   |true=>
    rw[hst]at hf;simp only[if_true,Option.some.injEq]at hf;subst hf;have hts:s=t:=j0a hst;exact .inl ⟨0,_,e,rfl,rfl,by rw[hek,hts],⟨_,_,rfl,.v _ rfl,hv⟩,he⟩
   |false=>
    rw[hst]at hf;simp only[Bool.false_eq_true,if_false,Option.map_eq_some_iff]at hf;obtain⟨l2,hl2,rfl⟩:=hf;rcases e3b hv c (i+1) he hl2 with⟨j,w',e',g1,g2,g3,g4⟩|⟨g1,g2⟩
    ·refine .inl ⟨j+1,w',e',?_,by simpa using g2,g3,?_⟩
     ·simp only[g1];congr 3;omega
     ·simp only[List.modify_succ_cons];exact⟨⟨_,_,rfl,by rw[hek];exact .v _ rfl,h3⟩,g4⟩
    ·exact .inr ⟨g1,⟨_,_,rfl,by rw[hek];exact .v _ rfl,h3⟩,g2⟩
  ·cases hf
def a79(env:Env)(dst:Option Tmp)(av:AV):Env:=
 match dst with
 |some d=>(d,av)::env
 |none=>env
def c5m(σ:Sg)(N:Nat)(env:Env)(dst:Option Tmp)(K:AV->A3->Prop)(a':Act)(w':World):Prop:=
 ∃σ' h' av,σ'.w=w'/\Le σ σ'/\St σ' h' (a79 env dst av) N a'/\K av h'
theorem St.put(hs:St σ h env N a){σ':Sg}{h':A3}(hl:Le σ σ')(hi:Inv h' σ'){dst:Option Tmp}(hd:∀d,dst=some d->d<N){av:AV}{z:Value}(hr:Rel σ' av z):St σ' h' (a79 env dst av) N (a.put dst z):=by
 cases dst with
 |none=>exact⟨hi,hs.env.mono hl,hs.size,hs.defers⟩
 |some d=>
  refine⟨hi,(hs.env.mono hl).put (by rw[hs.size];exact hd d rfl) hr,?_,hs.defers⟩;show(a.tmps.setIfInBounds d z).size=N;simp[hs.size]
theorem F2{o:Oper}(hs:St σ h env N a)(hd:∀d,o.dst=some d->d<N){K:AV->A3->Prop}{σ':Sg}{h':A3}{av:AV}{z:Value}(hrun:(execOp a.eval o).run P σ.w=.ok (.value z) σ'.w)(hl:Le σ σ')(hi:Inv h' σ')(hr:Rel σ' av z)(hk:K av h')(Q:Exit->Act->World->Prop):
  o.wp P a σ.w (c5m σ N env o.dst K) Q:=by
 unfold Oper.wp;rw[hrun];exact⟨σ',h',av,rfl,hl,hs.put hl hi hd hr,hk⟩
theorem a1u{t:TypeId}{z:Value}(h:a23 P t=some z)(w:World):(zeroValue t).run P w=.ok z w:=by
 unfold a23 at h;simp only[Option.bind_eq_some_iff]at h;obtain⟨i,hi,hz⟩:=h;simp[zeroValue,typeInfo,hi,hz]
theorem a1w{t:TypeId}{z:Value}(h:a23 P t=some z){i:TypeInfo}(hi:P.info? t=some i):i.zero=some z:=by
 unfold a23 at h;simp only[hi,Option.bind_some]at h;exact h
theorem d1e(fs:List Field)(hf:∀f∈fs,(P.info? f.type).isSome=true)(w:World):
  (fs.mapM fun f=>(do pure (f.offset,<-sizeOf f.type):Sem (Nat × Nat))).run P w=.ok (fs.map fun f=>(f.offset,((P.info? f.type).map (·.size)).getD 0)) w:=by
 induction fs with
 |nil=>rfl
 |cons f fs ih=>
  obtain⟨i,hi⟩:=Option.isSome_iff_exists.1 (hf f (by simp));have:=ih (fun g hg=>hf g (by simp[hg]));simp only[List.mapM_cons,Sem.run_bind,sizeOf,typeInfo,run_program,Result.andThen_ok,hi,Sem.run_pure]at this ⊢;rw[this];simp[hi]
end
section
variable {P:Program}{σ:Sg}{h:A3}{env:Env}{N:Nat}{a:Act}
theorem K4{o:Oper}(hs:St σ h env N a)(hd:∀d,o.dst=some d->d<N){K:AV->A3->Prop}{s:Sem Value}(he:execOp a.eval o=(do pure (.value (<-s)):Sem Next))(hk:∃av z,K av h/\Rel σ av z/\s.run P σ.w=.ok z σ.w)(Q:Exit->Act->World->Prop):
  o.wp P a σ.w (c5m σ N env o.dst K) Q:=by
 obtain⟨av,z,k1,k2,k3⟩:=hk;exact F2 (σ':=σ) hs hd (by rw[he];simp[k3]) (Le.refl σ) hs.inv k2 k1 Q
theorem b7b.append{l1 l2:List AV}{x1 x2:List Value}(h1:b7b σ l1 x1)(h2:b7b σ l2 x2):b7b σ (l1++l2) (x1++x2):=by
 refine⟨by simp[h1.1,h2.1],fun i av hi=>?_⟩
 by_cases hl:i<l1.length
 ·rw[List.getElem?_append_left hl]at hi;rw[List.getElem?_append_left (by rw[h1.1];exact hl)];exact h1.2 i av hi
 ·rw[List.getElem?_append_right (by omega)]at hi;rw[List.getElem?_append_right (by rw[h1.1];omega),h1.1];exact h2.2 _ av hi
theorem a6y{size len:Nat}{z:Value}{zs:List AV}(hz:D4 σ zs z.cells.toList)(hzs:z.cells.size=size)(h0:size≠0):
  D4 σ (Z6 size len zs) ((Array.range (len*size)).map ((if len*size=0 then #[] else z.cells)[· % (if len*size=0 then #[] else z.cells).size]!)).toList:=by
 by_cases hn:len*size=0
 ·simp[Z6,hn];exact D4.nil σ
 ·rw[if_neg hn];refine⟨by simp[Z6],fun i av hi=>?_⟩
  have hlt:i<len*size:=by
   have:=(List.getElem?_eq_some_iff.1 hi).1;simpa[Z6]using this
  simp only[Z6,List.getElem?_map,List.getElem?_range hlt,Option.map_some,Option.some.injEq]at hi;have hm:i % size<zs.length:=by rw[<-hz.1];simp[hzs];exact Nat.mod_lt _ (by omega)
  obtain⟨c1,x,hx,hr⟩:=hz.2 (i % size) av (by rw[<-hi,List.getD_eq_getElem?_getD,List.getElem?_eq_getElem hm];rfl);refine⟨c1,x,?_,hr⟩;simp only[Array.getElem?_toList]at hx;have hlt2:i % z.cells.size<z.cells.size:=by rw[hzs];exact Nat.mod_lt _ (by omega)
  simp only[Array.toList_map,List.getElem?_map,Array.toList_range,List.getElem?_range hlt,Option.map_some];rw[hzs]at hlt2 ⊢;simp[getElem!_def,hx]
theorem h3r{t e:TypeId}{ie:TypeInfo}(hi:Inv h σ)(hu:P.underlying t=some (.slice e))(hie:P.info? e=some ie){z:Value}{zs:List AV}(hz:ie.zero=some z)(hzc:D4 σ zs z.cells.toList)(hzs:z.cells.size=ie.size)(hsz:ie.size≠0)(hb:ie.bytes≠0)
  {p q:AV}{x y:Value}(hp:Rel σ p x) (hq:Rel σ q y) {K:AV->A3->Prop}(hk:k93 h ie.size ie.bytes zs p q K):
  ∃σ' av h' v,(Instr.makeSlice t x y).run P σ.w=.ok v σ'.w/\Le σ σ'/\Inv h' σ'/\Rel σ' av v/\K av h':=by
 unfold k93 at hk;split at hk
 ·rename_i k l k' c;obtain⟨⟨h0,h1,h2⟩,hk⟩:=hk;cases hp with
  |v _ _=>
  cases hq with
  |v _ _=>
  have hb1:(1:Int)<=(ie.bytes:Int):=by omega
  have hc0:c<=140737488355328:=by
   have:c*1<=c*(ie.bytes:Int):=Int.mul_le_mul_of_nonneg_left hb1 (by omega);omega
  have wl:IntKind.i64.wrap l=l:=by simp[IntKind.wrap,IntKind.signed,IntKind.bits];omega
  have wc:IntKind.i64.wrap c=c:=by simp[IntKind.wrap,IntKind.signed,IntKind.bits];omega
  obtain⟨σ',g1,g2,g3,g4⟩:=b7a hi (a6y (size:=ie.size) (len:=c.toNat) hzc hzs hsz) e;have n1:¬(281474976710656<(ie.bytes:Int)*c):=by rw[Int.mul_comm];omega
  have n2:¬c<0:=by omega
  have n3:¬l<0:=by omega
  have n4:¬c<l:=by omega
  refine⟨σ',_,_,.slice (some ⟨σ.w.heap.size,0,none⟩) l.toNat c.toNat,?_,g2,g3,?_,hk⟩
  ·rw[g1];have a1:(asIntOf (.int k l)).run P σ.w=.ok (k,l) σ.w:=rfl;have a2:(asIntOf (.int k' c)).run P σ.w=.ok (k',c) σ.w:=rfl;simp only[Instr.makeSlice,Sem.run_bind,run_underlying hu,Result.andThen_ok,asInt,Sem.run_map,a1,a2,Sem.run_pure,typeInfo,run_program,hie,wl,wc]
   by_cases hn:c.toNat*ie.size=0
   ·simp[n1,n2,n3,n4,run_askRoom,sizeOf,typeInfo,hie,newRow,run_newObj,hn]
    congr 2
    apply Array.ext';simp
   ·simp[n1,n2,n3,n4,run_askRoom,sizeOf,typeInfo,hie,zeroValue,hz,newRow,run_newObj,hn]
    congr 2
    apply Array.ext';simp
  ·cases g4 with
   |ptr _ _ _ hb=>
    refine .row _ _ _ _ _ _ _ hb (by omega) (Nat.le_refl _) fun o ho=>?_
    rw[g1];rw[Q3 (heap_alloc_new σ.w _)];have hlen:(Z6 ie.size c.toNat zs).length=c.toNat*ie.size:=by simp[Z6]
    have hc2:=(a6y (σ:=σ) (size:=ie.size) (len:=c.toNat) hzc hzs hsz).1;have:o<c.toNat*ie.size:=by omega
    simp at hc2 ⊢;omega
 ·exact hk.elim
theorem b75(mx:Bool):∀(n:Nat) (l:List AV) (x:Value) (rest:List Value) (v:Value),l.length=n->mmx mx l=some v->b7b σ l (x::rest)->∀(w:World),e4q v=true/\
  (rest.foldlM (if mx then Builtin.max2 else Builtin.min2) x).run P w=.ok v w:=by
 intro n
 induction n using Nat.strongRecOn with
 |_ n ih=>
  intro l x rest v hn hm hr w;unfold mmx at hm;split at hm
  ·rename_i k y;cases hm
   match rest,hr.1 with
   |[],_=>
    obtain⟨z,h1,h2⟩:=hr.2 0 _ rfl;simp at h1;subst h1;cases h2;exact⟨rfl,rfl⟩
  ·rename_i k a k' b r
   match rest,hr.1 with
   |y1::rest,hl=>
    obtain⟨z,h1,h2⟩:=hr.2 0 _ rfl;simp at h1;subst h1;obtain⟨z2,h3,h4⟩:=hr.2 1 _ rfl;simp at h3;subst h3;cases h2;cases h4
    have:=ih (r.length+1) (by rw[<-hn];simp) _ (.int k (if mx then(if b>a then b else a) else(if b<a then b else a))) rest v (by simp) hm ⟨by simpa using hl,fun i av hi=>by
     cases i with
     |zero=>simp at hi;subst hi;exact⟨_,rfl,.v _ rfl⟩
     |succ i=>
      obtain⟨q,q1,q2⟩:=hr.2 (i+2) av (by simpa using hi);exact⟨q,by simpa using q1,q2⟩⟩ w
    refine⟨this.1,?_⟩;have h2:=this.2;cases mx
    ·simp only[List.foldlM_cons,Bool.false_eq_true,if_false,Builtin.min2,Sem.run_bind,Sem.run_pure,Result.andThen_ok]at h2 ⊢;exact h2
    ·simp only[List.foldlM_cons,if_true,Builtin.max2,Sem.run_bind,Sem.run_pure,Result.andThen_ok]at h2 ⊢;exact h2
  ·cases hm
theorem i7w{l:List AV}{v:Value}(hm:mmx false l=some v){xs:Array Value}(hr:b7b σ l xs.toList)(ats:Array TypeId)(ty:TypeId)(w:World):e4q v=true/\(Builtin.min_ ats ty xs).run P w=.ok v w:=by
 unfold Builtin.min_;cases hx:xs.toList with
 |nil=>
  rw[hx]at hr;have:l=[]:=List.eq_nil_of_length_eq_zero (by simpa using hr.1.symm);subst this;simp[mmx]at hm
 |cons x rest=>rw[hx]at hr;simpa using b75 (P:=P) false _ l x rest v rfl hm hr w
theorem l36{l:List AV}{v:Value}(hm:mmx true l=some v){xs:Array Value}(hr:b7b σ l xs.toList)(ats:Array TypeId)(ty:TypeId)(w:World):e4q v=true/\(Builtin.max_ ats ty xs).run P w=.ok v w:=by
 unfold Builtin.max_;cases hx:xs.toList with
 |nil=>
  rw[hx]at hr;have:l=[]:=List.eq_nil_of_length_eq_zero (by simpa using hr.1.symm);subst this;simp[mmx]at hm
 |cons x rest=>rw[hx]at hr;simpa using b75 (P:=P) true _ l x rest v rfl hm hr w
theorem d82(hi:Inv h σ){s d:TypeId}(hb:c69 P s d=true)(str:ByteArray):∃σ' z,(convert s d (.string str)).run P σ.w=.ok z σ'.w/\Le σ σ'/\Inv h σ'/\Rel σ' (.sl (J2 str.data.toList) .no) z:=by
 unfold c69 at hb;split at hb
 ·rename_i e hs hd;split at hb
  ·rename_i he;have hrun:=Lib.run_convert_string_bytes (P:=P) σ.w s d e str hs hd he;obtain⟨c,hcdef⟩:∃c,c=grownCap σ.w str.size 0 e:=⟨_,rfl⟩
   have hcge:str.size<=c:=by rw[hcdef];simp[grownCap,Question.cut]
   rw[<-hcdef]at hrun;have hp:a54 σ.w (Lib.bytesWorld σ.w e str):=⟨by rw[Lib.bytesWorld_size];omega,fun b hb=>Lib.bytesWorld_at_old σ.w e str b hb,rfl,rfl,rfl⟩;have hnew:=Lib.bytesWorld_at_new σ.w e str
   have hblt:∀m b,σ.blk m=some b->b<σ.w.heap.size:=by
    intro m b hm;exact hi.lt hm
   have hll:str.data.toList.length=str.size:=by simp
   have hle:=Le.world (σ:=σ) hp;refine⟨{σ with w:=Lib.bytesWorld σ.w e str},_,hrun,hle,hi.world hp,?_⟩
   have hlies:d4w {σ with w:=Lib.bytesWorld σ.w e str} σ.w.heap.size 0 (str.data.toList.map fun b=>Value.int .u8 b.toNat):=by
    intro k v hk
    have hlt':k<str.size:=by
     have:=(List.getElem?_eq_some_iff.1 hk).1;simpa using this
    refine⟨?_,?_⟩
    ·show(Lib.bytesWorld σ.w e str).cell? _=some v;rw[Q3 hnew,Nat.zero_add];unfold Lib.bytesCells;rw[Array.getElem?_append_left (by simpa using hlt')];simpa[<-Array.getElem?_toList]using hk
    ·rintro (hx|hx)
     ·have:=(hi.outer _ _ hx).1;omega
     ·rcases hx with⟨m,hm⟩|⟨i,g,hg,hs⟩
      ·have:=hblt m _ hm;omega
      ·have:=hi.buflt i g _ _ hg hs;omega
   have:=d4p (σ:={σ with w:=Lib.bytesWorld σ.w e str}) (tok:=.no) (cap:=c) (c5f str.data.toList) (b20 _ str.data.toList) hlies (by rw[a15];omega) trivial (fun i g hid hg=>by cases hid);rw[a15,hll]at this;exact this
  ·cases hb
 ·cases hb
theorem d0k(hi:Inv h σ){p:AV}{x:Value}(hr:Rel σ p x):Rel σ (b85 h p) x:=by
 unfold b85;split
 ·rename_i n;split
  ·rename_i q hq;have h1:=List.mem_of_find?_eq_some hq;have h2:=List.find?_some hq;have h3:q.1=n:=by simpa using h2
   cases hr with
   |glob _=>exact h3▸hi.glob q.1 q.2 h1
  ·exact hr
 ·exact hr
theorem b1u{ok:Bool}{b:Bool}{a:AV}{v:Value}(h:Rel σ a v):Rel σ (if ok=true then .tuple [a,.v (.bool b)] else a) (if ok=true then .tuple #[v,.bool b] else v):=by
 cases ok with
 |false=>exact h
 |true=>
  refine Rel.tuple_mk (by simp) fun i av hi=>?_
  match i with
  |0=>simp at hi;subst hi;exact⟨_,rfl,h⟩
  |1=>simp at hi;subst hi;exact⟨_,rfl,.v _ rfl⟩
  |k+2=>simp at hi
theorem d54(hi:Inv h σ){t kt vt:TypeId}(hu:P.underlying t=some (.map kt vt))(hks:P.underlying kt=some .string){z:Value}{za:AV}(hz:(zeroValue vt).run P σ.w=.ok z σ.w)(hza:Rel σ za z)
  {xv kv:AV}{x k:Value}(hx:Rel σ xv x) (hk:Rel σ kv k) {ok:Bool}{K:AV->Prop}(h1:c49 h ok za xv kv K):
  ∃av y,K av/\Rel σ av y/\(Instr.lookup t x k ok).run P σ.w=.ok y σ.w:=by
 unfold c49 at h1;split at h1
 ·rename_i s;cases hk with
  |v _ _=>
  split at h1
  ·rename_i n;split at h1
   ·rename_i l hl;split at h1
    ·rename_i r hr;cases hx with
     |mp _ b hb=>
     obtain⟨b',hb',hbk⟩:=hi.blk n _ hl;rw[hb]at hb';cases hb';obtain⟨es,clock,hit,hent⟩:=hbk.entries;obtain⟨q,hq,hqr⟩:=d52 0 hent hr;have c1:=c0f (P:=P) hks es.isEmpty 9999 s σ.w;have c2:=a62 (P:=P) hks hq σ.w;have c3:(getObj b).run P σ.w=.ok (.map es clock) σ.w:=by simp[getObj,Sem.run,hit,Result.andThen]
     rcases hqr with⟨rfl,rfl⟩|⟨av,j,v,rfl,rfl,hv⟩
     ·refine⟨_,_,h1,b1u (b:=false) hza,?_⟩;simp only[Instr.lookup,Sem.run_bind,run_underlying hu,Result.andThen_ok,c3,Sem.run_pure,c1,c2,hz]
     ·refine⟨_,_,h1,b1u (b:=true) hv,?_⟩;simp only[Instr.lookup,Sem.run_bind,run_underlying hu,Result.andThen_ok,c3,Sem.run_pure,c1,c2]
    ·exact h1.elim
   ·exact h1.elim
  ·cases hx with
   |v _ _=>
   have c1:=c0f (P:=P) hks (#[]:Array MapEntry).isEmpty 9999 s σ.w;have c2:=a62 (P:=P) hks (s:=s) (es:=(#[]:Array MapEntry).toList) rfl σ.w;refine⟨_,_,h1,b1u (b:=false) hza,?_⟩;simp only[Instr.lookup,Sem.run_bind,run_underlying hu,Result.andThen_ok,Sem.run_pure,c1,c2,hz]
  ·exact h1.elim
 ·exact h1.elim
theorem d2e(hi:Inv h σ){t kt vt:TypeId}(hu:P.underlying t=some (.map kt vt))(hks:P.underlying kt=some .string)
  {mv kv vv:AV}{m k x:Value}(hm:Rel σ mv m) (hk:Rel σ kv k) (hv:Rel σ vv x) {K:A3->Prop}(h1:b71 h mv kv vv K):
  ∃σ' h',(Instr.mapUpdate t m k x).run P σ.w=.ok () σ'.w/\Le σ σ'/\Inv h' σ'/\K h':=by
 unfold b71 at h1;split at h1
 ·rename_i s;cases hk with
  |v _ _=>
  split at h1
  ·rename_i n;split at h1
   ·rename_i l hl;split at h1
    ·rename_i l' hl';cases hm with
     |mp _ b hb=>
     obtain⟨b',hb',hbk⟩:=hi.blk n _ hl;rw[hb]at hb';cases hb';obtain⟨es,clock,hit,hent⟩:=hbk.entries;have hlt:=hbk.lt;have c1:=c0f (P:=P) hks false 9999 s σ.w;have c3:(getObj b).run P σ.w=.ok (.map es clock) σ.w:=by simp[getObj,Sem.run,hit,Result.andThen]
     have key:∀(es':Array MapEntry) (c':Nat),c8r σ es'.toList l'->(Instr.mapUpdate t (.map (some b)) (.string s) x).run P σ.w=.ok () {σ.w with heap:=σ.w.heap.setIfInBounds b (.map es' c')}->
       ∃σ' h',(Instr.mapUpdate t (.map (some b)) (.string s) x).run P σ.w=.ok () σ'.w/\Le σ σ'/\Inv h' σ'/\K h':=by
      intro es' c' hen hrun;obtain⟨hle,hinv⟩:=c4u (cells':=[.tuple l']) (w':={σ.w with heap:=σ.w.heap.setIfInBounds b (.map es' c')}) hi hb hl (by simp) (by simp) (fun i hi=>by simp[Array.getElem?_setIfInBounds_ne (Ne.symm hi)]) rfl rfl rfl (fun o ho=>by simp[World.cell?,hit]at ho) (fun hle=>.map es' c' l' (by simp[hlt]) (hen.mono hle)) (fun hz=>by cases hz with|cells _ cs rest elem hh _=>rw[hit]at hh;cases hh) (by simp) (fun x hx=>by simp[World.shape?,hit]at hx);exact⟨_,_,hrun,hle,hinv,h1⟩
     rcases e3b hv clock 0 hent hl' with⟨j,w',e,g1,g2,g3,g4⟩|⟨g1,g2⟩
     ·have c2:=a62 (P:=P) hks g1 σ.w;refine key (es.modify j fun e=>{e with key:=.string s,val:=x}) clock (by simpa using g4) ?_;have g5:es[j]? =some e:=by simpa[<-Array.getElem?_toList]using g2
      have c4:(Instr.keyThatStays (.string s) (.string s)).run P σ.w=.ok (.string s) σ.w:=by simp[Instr.keyThatStays,Instr.sameBits,d44]
      simp only[Instr.mapUpdate,Sem.run_bind,run_underlying hu,Result.andThen_ok,c3,c1,c2,Nat.zero_add,g5,Option.map_some,Option.getD_some,g3,c4];simp[setObj,Sem.run,hit,Result.andThen]
     ·have c2:=a62 (P:=P) hks g1 σ.w;refine key (es.push {key:=.string s,val:=x,born:=clock}) (clock+1) (by simpa using g2) ?_;simp only[Instr.mapUpdate,Sem.run_bind,run_underlying hu,Result.andThen_ok,c3,c1,c2];simp[setObj,Sem.run,hit,Result.andThen]
    ·exact h1.elim
   ·exact h1.elim
  ·exact h1.elim
 ·exact h1.elim
theorem d1i:Rel σ (.tuple []) (.tuple #[]):=Rel.tuple_mk rfl fun i av hi=>by simp at hi
theorem c83{fn:Func}{n:String}(h:fn.name=n){e:Array Value->Sem Value}(h1:Extern.allGenericRows.lookup n=none)(h2:Extern.allTypedRows.lookup n=none)(h3:Extern.allRows.lookup n=some e):Extern.find fn=some e:=by
 subst h;simp[Extern.find,h1,h2,h3]
theorem d1d{fn:Func}(h:fn.name= "internal/bytealg.IndexByteString"):Extern.find fn=some Extern.BytealgIndexByte.indexByte:=c83 h (by kernel_rfl) (by kernel_rfl) (by kernel_rfl)
theorem d0p{fn:Func}(h:fn.name= "internal/bytealg.CountString"):Extern.find fn=some Extern.BytealgCount.count:=c83 h (by kernel_rfl) (by kernel_rfl) (by kernel_rfl)
theorem d4z{fn:Func}(h:fn.name= "internal/bytealg.MakeNoZero"):Extern.find fn=some (Extern.BytealgMakeNoZero.makeNoZero fn.params fn.resultTypes):=by
 have h1:Extern.allGenericRows.lookup fn.name=none:=by rw[h];kernel_rfl
 have h2:Extern.allTypedRows.lookup fn.name=some Extern.BytealgMakeNoZero.makeNoZero:=by rw[h];kernel_rfl
 simp[Extern.find,h1,h2]
theorem b4j{f:Operand}{k:XK}(h:d0v P f=some k):∃g fn,f=.func g/\P.funcs[g]? =some fn/\fn.body.isNone=true/\Extern.findNext fn=none/\
  ((k=.find/\fn.name= "internal/bytealg.IndexByteString")\/(k=.cnt/\fn.name= "internal/bytealg.CountString")\/∃t u,k=.make u/\fn.name= "internal/bytealg.MakeNoZero"/\fn.resultTypes=#[t]/\P.underlying t=some (.slice u)):=by
 unfold d0v at h;split at h
 ·rename_i g;split at h
  ·rename_i fn hfn;split at h
   ·rename_i hc;refine⟨g,fn,rfl,hfn,hc.1,by simpa using hc.2,?_⟩;split at h
    ·rename_i hn;cases h;exact .inl ⟨rfl,hn⟩
    ·split at h
     ·rename_i hn;cases h;exact .inr (.inl ⟨rfl,hn⟩)
     ·split at h
      ·rename_i hn;split at h
       ·rename_i t ht;split at h
        ·rename_i u hu;cases h;exact .inr (.inr ⟨t,u,rfl,hn,by apply Array.ext';exact ht,hu⟩)
        ·cases h
       ·cases h
      ·cases h
   ·cases h
  ·cases h
 ·cases h
variable (P) in
theorem c99{f:Operand}(h:d0v P f=some .find):∃g fn,f=.func g/\P.funcs[g]? =some fn/\fn.body.isNone=true/\Extern.findNext fn=none/\fn.name= "internal/bytealg.IndexByteString":=by
 obtain⟨g,fn,h1,h2,h3,h4,⟨_,h5⟩|⟨h5,_⟩|⟨_,_,h5,_⟩⟩:=b4j h
 ·exact⟨g,fn,h1,h2,h3,h4,h5⟩
 ·cases h5
 ·cases h5
variable (P) in
theorem d3q{f:Operand}(h:d0v P f=some .cnt):∃g fn,f=.func g/\P.funcs[g]? =some fn/\fn.body.isNone=true/\Extern.findNext fn=none/\fn.name= "internal/bytealg.CountString":=by
 obtain⟨g,fn,h1,h2,h3,h4,⟨h5,_⟩|⟨_,h5⟩|⟨_,_,h5,_⟩⟩:=b4j h
 ·cases h5
 ·exact⟨g,fn,h1,h2,h3,h4,h5⟩
 ·cases h5
variable (P) in
theorem d0q{f:Operand}{u:TypeId}(h:d0v P f=some (.make u)):∃g fn t,f=.func g/\P.funcs[g]? =some fn/\fn.body.isNone=true/\Extern.findNext fn=none/\fn.name= "internal/bytealg.MakeNoZero"/\fn.resultTypes=#[t]/\P.underlying t=some (.slice u):=by
 obtain⟨g,fn,h1,h2,h3,h4,⟨h5,_⟩|⟨h5,_⟩|⟨t,u',h5,h6,h7,h8⟩⟩:=b4j h
 ·cases h5
 ·cases h5
 ·cases h5;exact⟨g,fn,t,h1,h2,h3,h4,h6,h7,h8⟩
set_option maxHeartbeats 4000000 in
theorem l8t{o:Oper}{ao:AOp}(hc:a7r P o=some ao)(hs:St σ h env N a)(hd:∀d,o.dst=some d->d<N){K:AV->A3->Prop}(hk:aop P ao env h K)(Q:Exit->Act->World->Prop):
  o.wp P a σ.w (c5m σ N env o.dst K) Q:=by
 obtain⟨dst,op,type,pos,after,guard⟩:=o;have he:=hs.env;cases op<;>simp only[a7r]at hc<;>(try (cases hc;done))
 case move x=>
  simp only[Option.map_eq_some_iff]at hc;obtain⟨y,hy,rfl⟩:=hc;obtain⟨av,hr,hk⟩:=opd he hy hk;exact F2 (σ':=σ) hs hd (by simp[execOp]) (Le.refl σ) hs.inv hr hk Q
 case assign x=>
  simp only[Option.map_eq_some_iff]at hc;obtain⟨y,hy,rfl⟩:=hc;obtain⟨av,hr,hk⟩:=opd he hy hk;exact F2 (σ':=σ) hs hd (by simp[execOp]) (Le.refl σ) hs.inv hr hk Q
 case pick c x y=>
  simp only[Option.bind_eq_some_iff,Option.map_eq_some_iff]at hc;obtain⟨c',hc',x',hx,y',hy,rfl⟩:=hc;obtain⟨cv,hr,hk⟩:=opd he hc' hk;unfold b5z at hk;split at hk
  ·rename_i t;generalize hce:a.eval c=ce at hr;cases hr with
   |v _ _=>
   cases t with
   |true=>
    obtain⟨av,hr,hk⟩:=opd he hx (hk.1 rfl);exact F2 (σ':=σ) hs hd (by simp[execOp,hce,asBool]) (Le.refl σ) hs.inv hr hk Q
   |false=>
    obtain⟨av,hr,hk⟩:=opd he hy (hk.2 rfl);exact F2 (σ':=σ) hs hd (by simp[execOp,hce,asBool]) (Le.refl σ) hs.inv hr hk Q
  ·exact hk.elim
 case alloc e=>
  split at hc
  ·rename_i u hbu;cases hc;obtain⟨σ',g1,g2,g3,g4⟩:=d4x hs.inv e u;refine F2 (σ':=σ') hs hd ?_ g2 g3 g4 hk Q;rw[g1];simp[execOp,Instr.alloc,a1u (c0s P hbu),newVar,newRow,Value.cells]
  simp only[Option.bind_eq_some_iff,Option.map_eq_some_iff]at hc;obtain⟨z,hz,zs,hzs,rfl⟩:=hc;obtain⟨σ',g1,g2,g3,g4⟩:=b7a hs.inv (V9 (σ:=σ) hzs) e;refine F2 (σ':=σ') hs hd ?_ g2 g3 g4 hk Q;rw[g1];simp[execOp,Instr.alloc,a1u hz,newVar,newRow]
 case box e x=>
  simp only[Option.map_eq_some_iff]at hc;obtain⟨y,hy,rfl⟩:=hc;obtain⟨av,hr,ht,hk⟩:=opd he hy hk;obtain⟨σ',g1,g2,g3,g4⟩:=b7a hs.inv (hr.cells (fun vs h=>by subst h;simp[AV.isTuple]at ht)) e;refine F2 (σ':=σ') hs hd ?_ g2 g3 g4 hk Q;rw[g1];simp[execOp,Instr.box,newVar,newRow]
 case build t parts=>
  split at hc
  ·rename_i fs hu;split at hc
   ·rename_i hall;simp only[Option.bind_eq_some_iff,Option.map_eq_some_iff]at hc;obtain⟨z,hz,zs,hzs,ps,hps,rfl⟩:=hc;simp only[aop]at hk;split at hk
    ·rename_i pv hpv;split at hk
     ·rename_i cells hf;obtain⟨q1,q2⟩:=b68 he hps hpv;have hpl:=d1e (P:=P) fs.toList (fun f hf=>by simpa using (List.all_eq_true.1 hall) f hf) σ.w
      obtain⟨cs,g1,g2⟩:=b69 (σ:=σ) (fun i=>(fs.toList.map fun f=>(f.offset,((P.info? f.type).map (·.size)).getD 0)).toArray[i]?) (parts.toList.map fun(i,x)=>(i,a.eval x)) pv zs z.cells cells (V9 hzs) q1 (fun i b hb=>by
       obtain⟨k,x,e1,e2,e3⟩:=q2 i b hb;refine⟨k,x,e1,?_,e3⟩;simp only[d5o,Option.bind_eq_some_iff,Option.map_eq_some_iff]at e2;obtain⟨f,hf,fi,hfi,e4⟩:=e2;rw[<-e4];simp[hf,hfi]) hf
      refine F2 (σ':=σ) hs hd ?_ (Le.refl σ) hs.inv (Rel.agg_mk' g2) hk Q;simp only[execOp,Instr.build,Sem.run_bind,a1u hz,Result.andThen_ok,run_underlying hu]
      have:(fs.mapM fun f=>(do pure (f.offset,<-sizeOf f.type):Sem (Nat × Nat))).run P σ.w=.ok (fs.toList.map fun f=>(f.offset,((P.info? f.type).map (·.size)).getD 0)).toArray σ.w:=by
       rw[Array.mapM_eq_mapM_toList];simp only[Sem.run_map,hpl,Result.andThen_ok]
      rw[this];simp only[Result.andThen_ok,Array.toList_map];rw[g1];simp
     ·exact hk.elim
    ·exact hk.elim
   ·cases hc
  ·rename_i n e hu;simp only[Option.bind_eq_some_iff,Option.map_eq_some_iff]at hc;obtain⟨ie,hie,z,hz,zs,hzs,ps,hps,rfl⟩:=hc;simp only[aop]at hk;split at hk
   ·rename_i pv hpv;split at hk
    ·rename_i cells hf;obtain⟨q1,q2⟩:=b68 he hps hpv;obtain⟨cs,g1,g2⟩:=b69 (σ:=σ) (fun i=>some (i*ie.size,ie.size)) (parts.toList.map fun(i,x)=>(i,a.eval x)) pv zs z.cells cells (V9 hzs) q1 q2 hf;refine F2 (σ':=σ) hs hd ?_ (Le.refl σ) hs.inv (Rel.agg_mk' g2) hk Q;simp[execOp,Instr.build,a1u hz,run_underlying hu,sizeOf,typeInfo,hie,g1]
    ·exact hk.elim
   ·exact hk.elim
  ·cases hc
 case buildSlice t len parts=>
  split at hc
  ·rename_i e hu;simp only[Option.bind_eq_some_iff]at hc;obtain⟨ie,hie,z,hz,zs,hzs,ps,hps,hc⟩:=hc;split at hc
   ·rename_i hcond;obtain⟨c1,c2,c3⟩:=hcond;cases hc;simp only[aop]at hk;split at hk
    ·rename_i pv hpv;split at hk
     ·rename_i cells hf;obtain⟨hlen,hk⟩:=hk;obtain⟨q1,q2⟩:=b68 he hps hpv
      obtain⟨σ',z',g1,g2,g3,g4⟩:=c6z (P:=P) (t:=t) hs.inv hu hie (a1w hz hie) c1 (a6y (V9 (σ:=σ) hzs) c2 c3) q1 (fun i b hb=>by
       obtain⟨k,x,e1,e2,e3⟩:=q2 i b hb;exact⟨k,x,e1,by simpa using e2,e3⟩) hf hlen
      refine F2 (σ':=σ') hs hd ?_ g2 g3 g4 hk Q;have:(parts.map fun(i,x)=>(i,a.eval x))=(parts.toList.map fun(i,x)=>(i,a.eval x)).toArray:=by apply Array.ext';simp
      simp only[execOp,this,Sem.run_bind,g1,Result.andThen_ok,Sem.run_pure]
     ·exact hk.elim
    ·exact hk.elim
   ·cases hc
  ·cases hc
 case range t x=>
  split at hc
  ·rename_i hu;simp only[Option.map_eq_some_iff]at hc;obtain⟨y,hy,rfl⟩:=hc;obtain⟨av,hr,hk⟩:=opd he hy hk;unfold d49 at hk;split at hk
   ·rename_i s;generalize hxe:a.eval x=xe at hr;cases hr with
    |v _ _=>
    obtain⟨σ',g1,g2,g3,g4⟩:=a8c hs.inv (cells:=[.it s 0]) (.stringIter s 0) fun σ' _ hb=>.it s 0 hb
    refine F2 (σ':=σ') hs hd ?_ g2 g3 g4 hk Q;rw[g1];simp[execOp,hxe,Instr.range,run_underlying hu,run_newObj]
   ·exact hk.elim
  ·cases hc
 case next x st=>
  split at hc
  ·rename_i hst;subst hst;simp only[Option.map_eq_some_iff]at hc;obtain⟨y,hy,rfl⟩:=hc;obtain⟨av,hr,hk⟩:=opd he hy hk;unfold c1w at hk;split at hk
   ·rename_i n;split at hk
    ·rename_i s p hcs;generalize hxe:a.eval x=xe at hr;cases hr with
     |ptr _ _ b hb=>
     obtain⟨b',hb',hbk⟩:=hs.inv.blk n _ hcs;rw[hb]at hb';cases hb';have hit:=hbk.iter
     by_cases hp:p<s.size
     ·have hlt:=hbk.lt;obtain⟨hle,hinv⟩:=c4u (cells':=[.it s (p+(Utf8.decode s p).2)]) (w':={σ.w with heap:=σ.w.heap.setIfInBounds b (.stringIter s (p+(Utf8.decode s p).2))}) hs.inv hb hcs (by simp) (by simp) (fun i hi=>by simp[Array.getElem?_setIfInBounds_ne (Ne.symm hi)]) rfl rfl rfl (fun o ho=>by simp[World.cell?,hit]at ho) (fun _=>.it _ _ (by simp[hlt])) (fun hz=>by cases hz with|cells _ cs rest elem hh _=>rw[hit]at hh;cases hh) (by simp) (fun x hx=>by simp[World.shape?,hit]at hx);refine F2 (σ':={σ with w:={σ.w with heap:=σ.w.heap.setIfInBounds b (.stringIter s (p+(Utf8.decode s p).2))}}) hs hd ?_ hle hinv (Rel.tuple_mk (xs:=#[.bool true,goInt p,.int .i32 (Utf8.decode s p).1]) (by simp) ?_) (hk.1 hp) Q
      ·have hrun:(Instr.next (.pointer (some ⟨b,0,none⟩)) true type).run P σ.w=.ok (.tuple #[.bool true,goInt p,.int .i32 (Utf8.decode s p).1]) {σ.w with heap:=σ.w.heap.setIfInBounds b (.stringIter s (p+(Utf8.decode s p).2))}:=by
        simp only[Instr.next,getObj,setObj,Sem.run_bind,Sem.run,hit,Result.andThen,hp,if_true];simp[hlt]
       simp only[execOp,hxe,Sem.run_bind,hrun,Result.andThen_ok,Sem.run_pure]
      ·intro i av hi
       match i with
       |0=>simp at hi;subst hi;exact⟨_,rfl,.v _ rfl⟩
       |1=>simp at hi;subst hi;exact⟨_,rfl,.v _ rfl⟩
       |2=>simp at hi;subst hi;exact⟨_,rfl,.v _ rfl⟩
       |k+3=>simp at hi
     ·refine F2 (σ':=σ) hs hd ?_ (Le.refl σ) hs.inv (Rel.tuple_mk (xs:=#[.bool false]) (by simp) ?_) (hk.2 hp) Q
      ·have hrun:(Instr.next (.pointer (some ⟨b,0,none⟩)) true type).run P σ.w=.ok (.tuple #[.bool false]) σ.w:=by
        simp only[Instr.next,getObj,setObj,Sem.run_bind,Sem.run,hit,Result.andThen,hp,if_false]
        try rfl
       simp only[execOp,hxe,Sem.run_bind,hrun,Result.andThen_ok,Sem.run_pure]
      ·intro i av hi
       match i with
       |0=>simp at hi;subst hi;exact⟨_,rfl,.v _ rfl⟩
       |k+1=>simp at hi
    ·exact hk.elim
   ·exact hk.elim
  ·cases hc
 case makeSlice t x y=>
  split at hc
  ·rename_i e hu;simp only[Option.bind_eq_some_iff]at hc;obtain⟨ie,hie,z,hz,zs,hzs,hc⟩:=hc;split at hc
   ·rename_i hcond;obtain⟨c2,c3,c4⟩:=hcond;simp only[Option.bind_eq_some_iff,Option.map_eq_some_iff]at hc;obtain⟨x',hx,y',hy,rfl⟩:=hc;obtain⟨xv,hxr,hk⟩:=opd he hx hk;obtain⟨yv,hyr,hk⟩:=opd he hy hk;obtain⟨σ',av,h',z',g1,g2,g3,g4,g5⟩:=h3r (P:=P) (t:=t) hs.inv hu hie (a1w hz hie) (V9 (σ:=σ) hzs) c2 c3 c4 hxr hyr hk;refine F2 (σ':=σ') hs hd ?_ g2 g3 g4 g5 Q;simp only[execOp,Sem.run_bind,g1,Result.andThen_ok,Sem.run_pure]
   ·cases hc
  ·cases hc
 case load t x=>
  simp only[Option.bind_eq_some_iff,Option.map_eq_some_iff]at hc;obtain⟨n,hn,y,hy,rfl⟩:=hc;obtain⟨av,hr,hk⟩:=opd he hy hk;exact K4 hs hd rfl (d3w (P:=P) hs.inv hn hr hk) Q
 case store t p x=>
  split at hc
  ·rename_i hdn;have hdn':dst=none:=hdn;subst hdn';simp only[Option.bind_eq_some_iff,Option.map_eq_some_iff]at hc;obtain⟨n,⟨ti,hti,rfl⟩,p',hp,x',hx,rfl⟩:=hc;obtain⟨pv,hpr,hk⟩:=opd he hp hk;obtain⟨xv,hxr,hk⟩:=opd he hx hk;obtain⟨σ',h',g1,g2,g3,g4⟩:=d1u (P:=P) (t:=t) hs.inv (by rw[hti];rfl) hpr hxr hk;unfold Oper.wp;rw[show(execOp a.eval ⟨none,.store t p x,type,pos,after,guard⟩).run P σ.w=.ok .skip σ'.w by simp[execOp,g1]];exact⟨σ',h',_,rfl,g2,⟨g3,hs.env.mono g2,hs.size,hs.defers⟩,g4⟩
  ·cases hc
 case nilCheck x=>
  simp only[Option.map_eq_some_iff]at hc;obtain⟨y,hy,rfl⟩:=hc;obtain⟨av,hr,hk⟩:=opd he hy hk;generalize hxe:a.eval x=xe at hr;unfold g0b at hk;split at hk
  ·have hr0:=hr;cases hr with
   |ptr _ _ b hb=>exact F2 (σ':=σ) hs hd (by simp[execOp,hxe]) (Le.refl σ) hs.inv hr0 hk Q
  ·have hr0:=hr;cases hr with
   |elt _ _ b o xs q1 q2=>exact F2 (σ':=σ) hs hd (by simp[execOp,hxe]) (Le.refl σ) hs.inv hr0 hk Q
  ·have hr0:=hr;cases hr with
   |clo _ _ _ fs cs q1 q2 x y q3 q4 q5 q6=>exact F2 (σ':=σ) hs hd (by simp[execOp,hxe]) (Le.refl σ) hs.inv hr0 hk Q
  ·exact hk.elim
 case binOp op t x y u=>
  split at hc
  ·rename_i c hcu;split at hc
   ·rename_i hcond;obtain⟨hop,hif⟩:=hcond;simp only[Option.bind_eq_some_iff,Option.map_eq_some_iff]at hc;obtain⟨x',hx,y',hy,rfl⟩:=hc;obtain⟨xv,hxr,hk⟩:=opd he hx hk;obtain⟨yv,hyr,hk⟩:=opd he hy hk;obtain⟨b,k1,k2⟩:=d7g (P:=P) hcu hxr hyr hk x y hif op hop;refine F2 (σ':=σ) (z:=.bool (if op=.eql then b else !b)) hs hd ?_ (Le.refl σ) hs.inv (.v _ rfl) ?_ Q
    ·simp only[execOp];rw[Sem.run_bind,k2];rfl
    ·by_cases hop2:op=.eql
     ·simpa[hop2]using k1
     ·simpa[hop2]using k1
   ·cases hc
  ·simp only[Option.bind_eq_some_iff,Option.map_eq_some_iff]at hc;obtain⟨x',hx,y',hy,rfl⟩:=hc;obtain⟨xv,hxr,hk⟩:=opd he hx hk;obtain⟨yv,hyr,hk⟩:=opd he hy hk;exact K4 hs hd rfl (d5u (P:=P) hxr hyr hk t x y) Q
 case unOp op t x=>
  simp only[Option.map_eq_some_iff]at hc;obtain⟨y,hy,rfl⟩:=hc;obtain⟨av,hr,hk⟩:=opd he hy hk;exact K4 hs hd rfl (d7q (P:=P) hr hk) Q
 case convert s d x=>
  split at hc
  ·rename_i hb;simp only[Option.map_eq_some_iff]at hc;obtain⟨y,hy,rfl⟩:=hc;obtain⟨av,hr,hk⟩:=opd he hy hk;unfold c7n at hk;split at hk
   ·rename_i str;cases hxe:a.eval x<;>rw[hxe]at hr<;>(try (cases hr;done))
    cases hr;obtain⟨σ',z,g1,g2,g3,g4⟩:=d82 (P:=P) hs.inv hb str;exact F2 (σ':=σ') hs hd (by simp[execOp,hxe,g1]) g2 g3 g4 hk Q
   ·exact hk.elim
  simp only[Option.bind_eq_some_iff,Option.map_eq_some_iff]at hc;obtain⟨c,hcc,y,hy,rfl⟩:=hc;obtain⟨av,hr,hk⟩:=opd he hy hk;exact K4 hs hd rfl (d3l (P:=P) hcc hr hk) Q
 case makeInterface t x=>
  split at hc
  ·cases hc
  ·rename_i d hu hni;simp only[Option.map_eq_some_iff]at hc;obtain⟨y,hy,rfl⟩:=hc;obtain⟨av,hr,hk⟩:=opd he hy hk;refine F2 (σ':=σ) (z:=.iface t (a.eval x)) hs hd ?_ (Le.refl σ) hs.inv (.iface t av _ hr) hk Q
   have:(Instr.makeInterface t (a.eval x)).run P σ.w=.ok (.iface t (a.eval x)) σ.w:=by
    simp only[Instr.makeInterface,Sem.run_bind,run_underlying hni,Result.andThen_ok];cases d<;>first|rfl|exact absurd hni (hu _)
   simp[execOp,this]
  ·cases hc
 case makeFunc fn first captured=>
  simp only[Option.bind_eq_some_iff,Option.map_eq_some_iff]at hc;obtain⟨f,hf,c,hcc,rfl⟩:=hc;simp only[aop]at hk;split at hk
  ·rename_i fv cv hfv hcv;obtain⟨q1,q2⟩:=opds he hf hfv;obtain⟨q3,q4⟩:=opds he hcc hcv;refine F2 (σ':=σ) (z:=.func fn (first.map a.eval) (captured.map a.eval)) hs hd (by simp[execOp,Instr.makeFunc]) (Le.refl σ) hs.inv (Rel.clo_mk (by simpa using q1) (by simpa using q3) (fun i av hi=>?_) (fun i av hi=>?_)) hk Q
   ·obtain⟨x,hx,hr⟩:=q2 i av hi;exact⟨x,by simpa using hx,hr⟩
   ·obtain⟨x,hx,hr⟩:=q4 i av hi;exact⟨x,by simpa using hx,hr⟩
  ·exact hk.elim
 case slice t x lo hi mx=>
  split at hc
  ·rename_i hu;split at hc
   ·rename_i hmx;simp only[Option.bind_eq_some_iff,Option.map_eq_some_iff]at hc;obtain⟨x',hx,lo',hlo,hi',hhi,rfl⟩:=hc;obtain⟨xv,hxr,hk⟩:=opd he hx hk;split at hk
    ·rename_i lv hv hlv hhv;have hm0:mx=none:=by simpa using hmx
     subst hm0;exact K4 hs hd rfl (d1g (P:=P) hu hxr (g2f he hlo hlv).1 (g2f he hhi hhv).1 hk) Q
    ·exact hk.elim
   ·cases hc
  ·rename_i e hu;split at hc
   ·rename_i hmx;simp only[Option.bind_eq_some_iff,Option.map_eq_some_iff]at hc;obtain⟨ie,hie,x',hx,lo',hlo,hi',hhi,mx',hmx',rfl⟩:=hc;obtain⟨xv,hxr,hk⟩:=opd he hx hk;split at hk
    ·rename_i lv hv mv hlv hhv hmv;refine K4 hs hd rfl (d03 (P:=P) hu hie hxr (g2f he hlo hlv).1 (g2f he hhi hhv).1 (g2f he hmx' hmv).1 hk ?_) Q;intro h1;have h2:=(g2f he hmx' hmv).2;have h3:=(g2f he hhi hhv).2;have h4:mv.isSome=true:=by cases mv<;>simp_all
     rw[h4]at h2;have:=hmx h2;rw[h3]at this;intro h5;rw[h5]at this;cases this
    ·exact hk.elim
   ·cases hc
  ·cases hc
 case fieldAddr t x f=>
  split at hc
  ·rename_i fs hu;simp only[Option.bind_eq_some_iff]at hc;obtain⟨fd,hfd,i,hi,hc⟩:=hc;split at hc
   ·rename_i hz;simp only[Option.map_eq_some_iff]at hc;obtain⟨y,hy,rfl⟩:=hc;obtain⟨av,hr,hk⟩:=opd he hy hk;exact K4 hs hd rfl (c5t (P:=P) hu hfd hi hz hr hk) Q
   ·cases hc
  ·cases hc
 case field t x f=>
  split at hc
  ·rename_i fs hu;simp only[Option.bind_eq_some_iff,Option.map_eq_some_iff]at hc;obtain⟨fd,hfd,n,hn,y,hy,rfl⟩:=hc;obtain⟨av,hr,hk⟩:=opd he hy hk;obtain⟨bv,z,xs,k1,k2,k3,k4⟩:=d3x (P:=P) hn hr hk σ.w;exact K4 hs hd rfl ⟨bv,z,k2,k3,by simp[Instr.field,run_underlying hu,hfd,k1,asAgg,k4]⟩ Q
  ·cases hc
 case indexAddr t x i=>
  split at hc
  ·rename_i e hu;simp only[Option.bind_eq_some_iff,Option.map_eq_some_iff]at hc;obtain⟨ie,hie,x',hx,i',hi,rfl⟩:=hc;obtain⟨xv,hxr,hk⟩:=opd he hx hk;obtain⟨iv,hir,hk⟩:=opd he hi hk;exact K4 hs hd rfl (d1c (P:=P) hu hie hxr hir hk) Q
  ·rename_i len e hu;simp only[Option.bind_eq_some_iff,Option.map_eq_some_iff]at hc;obtain⟨ie,hie,x',hx,i',hi,rfl⟩:=hc;obtain⟨xv,hxr,hk⟩:=opd he hx hk;obtain⟨iv,hir,hk⟩:=opd he hi hk;exact K4 hs hd rfl (c65 (P:=P) hu hie (d0k hs.inv hxr) hir hk) Q
  ·cases hc
 case index t x i=>
  split at hc
  ·rename_i hu;simp only[Option.bind_eq_some_iff,Option.map_eq_some_iff]at hc;obtain⟨x',hx,i',hi,rfl⟩:=hc;obtain⟨xv,hxr,hk⟩:=opd he hx hk;obtain⟨iv,hir,hk⟩:=opd he hi hk;exact K4 hs hd rfl (c62 (P:=P) hu hxr hir hk) Q
  ·rename_i len e hu;simp only[Option.bind_eq_some_iff,Option.map_eq_some_iff]at hc;obtain⟨ie,hie,n,hn,x',hx,i',hi,rfl⟩:=hc;obtain⟨xv,hxr,hk⟩:=opd he hx hk;obtain⟨iv,hir,hk⟩:=opd he hi hk;exact K4 hs hd rfl (c66 (P:=P) hu hie hn hxr hir hk) Q
  ·cases hc
 case typeAssert x xt t ok=>
  split at hc
  ·cases hc
  ·rename_i d hni hu;simp only[Option.bind_eq_some_iff,Option.map_eq_some_iff]at hc;obtain⟨z,hz,za,hza,y,hy,rfl⟩:=hc;obtain⟨av,hr,hk⟩:=opd he hy hk;exact K4 hs hd rfl (c6c (P:=P) hu (fun m hm=>hni m hm) (a1u hz σ.w) (c7r hza) hr hk) Q
  ·cases hc
 case extract x i=>
  simp only[Option.map_eq_some_iff]at hc;obtain⟨y,hy,rfl⟩:=hc;obtain⟨av,hr,hk⟩:=opd he hy hk;exact K4 hs hd rfl (c5b (P:=P) hr hk) Q
 case makeMap t r=>
  cases r with
  |some r=>cases hc
  |none=>
   cases hc;obtain⟨σ',g1,g2,g3,g4⟩:=a8c hs.inv (cells:=[.tuple []]) (.map #[] 0) fun σ' _ hb=>.map #[] 0 [] hb trivial
   have g5:Rel σ' (.mp h.blks.length) (.map (some σ.w.heap.size)):=by
    cases g4 with
    |ptr _ _ _ hb=>exact .mp _ _ hb
   refine F2 (σ':=σ') hs hd ?_ g2 g3 g5 hk Q;rw[g1];simp[execOp,Instr.makeMap,run_newObj]
 case lookup t x k ok=>
  split at hc
  ·rename_i kt vt hu;split at hc
   ·rename_i hks;simp only[Option.bind_eq_some_iff,Option.map_eq_some_iff]at hc;obtain⟨z,hz,za,hza,x',hx,k',hk',rfl⟩:=hc;obtain⟨xv,hxr,hk⟩:=opd he hx hk;obtain⟨kv,hkr,hk⟩:=opd he hk' hk;exact K4 hs hd rfl (d54 (P:=P) hs.inv hu (d2g hks) (a1u hz σ.w) (c7r hza) hxr hkr hk) Q
   ·cases hc
  ·cases hc
 case mapUpdate t m k x=>
  split at hc
  ·rename_i kt vt hu;split at hc
   ·rename_i hcond;obtain⟨hks,hdn⟩:=hcond;have hdn':dst=none:=hdn;subst hdn';simp only[Option.bind_eq_some_iff,Option.map_eq_some_iff]at hc;obtain⟨m',hm,k',hk',x',hx,rfl⟩:=hc;obtain⟨mv,hmr,hk⟩:=opd he hm hk;obtain⟨kv,hkr,hk⟩:=opd he hk' hk;obtain⟨xv,hxr,hk⟩:=opd he hx hk;obtain⟨σ',h',g1,g2,g3,g4⟩:=d2e (P:=P) hs.inv hu (d2g hks) hmr hkr hxr hk;unfold Oper.wp;rw[show(execOp a.eval ⟨none,.mapUpdate t m k x,type,pos,after,guard⟩).run P σ.w=.ok .skip σ'.w by simp[execOp,g1]];exact⟨σ',h',_,rfl,g2,⟨g3,hs.env.mono g2,hs.size,hs.defers⟩,g4⟩
   ·cases hc
  ·cases hc
 case call c=>
  obtain⟨callee,args,argTypes⟩:=c;unfold c2i at hc;split at hc
  ·rename_i heq;have heq':callee=.builtin .len:=heq;subst heq';split at hc
   ·rename_i x t hxl htl;simp only[Option.bind_eq_some_iff,Option.map_eq_some_iff]at hc;obtain⟨s,hs1,y,hy,rfl⟩:=hc;obtain⟨av,hr,hk⟩:=opd he hy hk;have ha:args=#[x]:=by apply Array.ext';exact hxl
    have hb:argTypes=#[t]:=by apply Array.ext';exact htl
    subst ha hb;refine K4 hs hd ?_ (d12 (P:=P) (ty:=type) hs1 hr hk) Q;simp[execOp,resolve,invoke,builtin]
   ·cases hc
  ·rename_i heq;have heq':callee=.builtin .append:=heq;subst heq';split at hc
   ·rename_i x y t u hxl htl;have ha:args=#[x,y]:=by apply Array.ext';exact hxl
    have hb:argTypes=#[t,u]:=by apply Array.ext';exact htl
    subst ha hb
    have key:∀(e:TypeId) (du:TypeDesc),P.underlying t=some (.slice e)->P.underlying u=some du->((∃e,du=.slice e)\/du=.string)->
      (((P.info? e).bind fun ie=>(a23 P e).bind fun z=>if z.cells.size=ie.size/\ie.bytes≠0 then(W5 x).bind fun x=>(W5 y).map fun y=>AOp.append e ie.size ie.bytes x y else none)=some ao)->
      Oper.wp P ⟨dst,.call ⟨.builtin .append,#[x,y],#[t,u]⟩,type,pos,after,guard⟩ a σ.w (c5m σ N env dst K) Q:=by
     intro e du hu1 hu2 hdu hc;simp only[Option.bind_eq_some_iff]at hc;obtain⟨ie,hie,z,hz,hc⟩:=hc;split at hc
     ·rename_i hcond;simp only[Option.bind_eq_some_iff,Option.map_eq_some_iff]at hc;obtain⟨x',hx,y',hy,rfl⟩:=hc;obtain⟨xv,hxr,hk⟩:=opd he hx hk;obtain⟨yv,hyr,hk⟩:=opd he hy hk;obtain⟨σ',h',av,z',g1,g2,g3,g4,g5⟩:=hk.elim (c76 (P:=P) (ty:=type) hs.inv hu1 hie (a1w hz hie) hcond.1 hcond.2 hu2 hdu hxr hyr) fun hk=>hk.elim (c47 (P:=P) (ty:=type) hs.inv hu1 hie (a1w hz hie) hcond.1 hcond.2 hu2 hdu hxr hyr) (c4p (P:=P) (ty:=type) hs.inv hu1 hie (a1w hz hie) hcond.1 hcond.2 hu2 hdu hxr hyr)
      exact F2 (σ':=σ') hs hd (by simp[execOp,resolve,invoke,builtin,g1]) g2 g3 g4 g5 Q
     ·cases hc
    split at hc
    ·rename_i e e2 hu1 hu2;exact key e _ hu1 hu2 (.inl ⟨_,rfl⟩) hc
    ·rename_i e hu1 hu2;exact key e _ hu1 hu2 (.inr rfl) hc
    ·cases hc
   ·cases hc
  ·rename_i heq;have heq':callee=.builtin .min:=heq;subst heq';simp only[Option.map_eq_some_iff]at hc;obtain⟨l',hl,rfl⟩:=hc;simp only[aop]at hk;split at hk
   ·rename_i l hlv;unfold c5o at hk;split at hk
    ·rename_i v hv;obtain⟨q1,q2⟩:=i7w (P:=P) (xs:=args.map a.eval) hv (by simpa using opds he hl hlv) argTypes type σ.w;exact F2 (σ':=σ) hs hd (by simp[execOp,resolve,invoke,builtin,q2]) (Le.refl σ) hs.inv (.v _ q1) hk Q
    ·exact hk.elim
   ·exact hk.elim
  ·rename_i heq;have heq':callee=.builtin .max:=heq;subst heq';simp only[Option.map_eq_some_iff]at hc;obtain⟨l',hl,rfl⟩:=hc;simp only[aop]at hk;split at hk
   ·rename_i l hlv;unfold c5o at hk;split at hk
    ·rename_i v hv;obtain⟨q1,q2⟩:=l36 (P:=P) (xs:=args.map a.eval) hv (by simpa using opds he hl hlv) argTypes type σ.w;exact F2 (σ':=σ) hs hd (by simp[execOp,resolve,invoke,builtin,q2]) (Le.refl σ) hs.inv (.v _ q1) hk Q
    ·exact hk.elim
   ·exact hk.elim
  ·rename_i heq;have heq':callee=.builtin .unsafeSliceData:=heq;subst heq';split at hc
   ·rename_i x hxl;simp only[Option.map_eq_some_iff]at hc;obtain⟨y,hy,rfl⟩:=hc;obtain⟨av,hr,hk⟩:=opd he hy hk;have ha:args=#[x]:=by apply Array.ext';exact hxl
    subst ha;refine K4 hs hd ?_ (c98 (P:=P) hr hk argTypes type) Q;simp[execOp,resolve,invoke,builtin]
   ·cases hc
  ·rename_i heq;have heq':callee=.builtin .unsafeString:=heq;subst heq';split at hc
   ·rename_i x y pt it hxl htl;have ha:args=#[x,y]:=by apply Array.ext';exact hxl
    have hb:argTypes=#[pt,it]:=by apply Array.ext';exact htl
    subst ha hb;split at hc
    ·rename_i u hpt;split at hc
     ·rename_i hcu;simp only[Option.bind_eq_some_iff,Option.map_eq_some_iff]at hc;obtain⟨p',hp,n',hn,rfl⟩:=hc;obtain⟨pv,hpr,hk⟩:=opd he hp hk;obtain⟨nv,hnr,hk⟩:=opd he hn hk;obtain⟨σ',av,z,g1,g2,g3,g4,g5⟩:=d5v (P:=P) (it:=it) (ty:=type) hs.inv hpt hcu hpr hnr hk;exact F2 (σ':=σ') hs hd (by simp[execOp,resolve,invoke,builtin,g1]) g2 g3 g4 g5 Q
     ·cases hc
    ·cases hc
   ·cases hc
  ·rename_i heq;have heq':callee=.builtin .cap:=heq;subst heq';split at hc
   ·rename_i x t hxl htl;have ha:args=#[x]:=by apply Array.ext';exact hxl
    have hb:argTypes=#[t]:=by apply Array.ext';exact htl
    subst ha hb;split at hc
    ·rename_i e hte;simp only[Option.map_eq_some_iff]at hc;obtain⟨y,hy,rfl⟩:=hc;obtain⟨av,hr,hk⟩:=opd he hy hk;refine K4 hs hd ?_ (d4e (P:=P) (ty:=type) hte hr hk) Q;simp[execOp,resolve,invoke,builtin]
    ·cases hc
   ·cases hc
  ·rename_i heq;have heq':callee=.builtin .copy:=heq;subst heq';split at hc
   ·rename_i x y t u hxl htl;have ha:args=#[x,y]:=by apply Array.ext';exact hxl
    have hb:argTypes=#[t,u]:=by apply Array.ext';exact htl
    subst ha hb;split at hc
    ·rename_i e hte;simp only[Option.bind_eq_some_iff,Option.map_eq_some_iff]at hc;obtain⟨ie,hie,x',hx,y',hy,rfl⟩:=hc;obtain⟨xv,hxr,hk⟩:=opd he hx hk;obtain⟨yv,hyr,hk⟩:=opd he hy hk;refine K4 hs hd ?_ (c93 (P:=P) (u:=u) (ty:=type) hte hie hxr hyr hk) Q;simp[execOp,resolve,invoke,builtin]
    ·cases hc
   ·cases hc
  ·rename_i heq;have heq':callee=.builtin .clear:=heq;subst heq';split at hc
   ·rename_i x t hxl htl;have ha:args=#[x]:=by apply Array.ext';exact hxl
    have hb:argTypes=#[t]:=by apply Array.ext';exact htl
    subst ha hb;split at hc
    ·rename_i e hte;simp only[Option.bind_eq_some_iff]at hc;obtain⟨ie,hie,z,hz,zs,hzs,hc⟩:=hc;split at hc
     ·rename_i hcond;simp only[Option.map_eq_some_iff]at hc;obtain⟨y,hy,rfl⟩:=hc;obtain⟨av,hr,hk⟩:=opd he hy hk;obtain⟨σ',h',g1,g2,g3,g4⟩:=d0e (P:=P) (ty:=type) hs.inv hte hie (a1w hz hie) hcond (V9 (σ:=σ) hzs) hr hk;exact F2 (σ':=σ') hs hd (by simp[execOp,resolve,invoke,builtin,g1]) g2 g3 d1i g4 Q
     ·cases hc
    ·cases hc
   ·cases hc
  ·rename_i f heq;have heq':callee=.value f:=heq;subst heq';split at hc
   ·rename_i hx;obtain⟨g,fn,rfl,hfn,hb,hn,hname⟩:=c99 P hx;split at hc
    ·rename_i s b hxl;have ha:args=#[s,b]:=by apply Array.ext';exact hxl
     subst ha;simp only[Option.bind_eq_some_iff,Option.map_eq_some_iff]at hc;obtain⟨s',hs',b',hb',rfl⟩:=hc;obtain⟨sv,hsr,hk⟩:=opd he hs' hk;obtain⟨bv,hbr,hk⟩:=opd he hb' hk;obtain⟨av,z,k1,k2,k3⟩:=e0i (P:=P) hsr hbr hk;refine F2 (σ':=σ) hs hd ?_ (Le.refl σ) hs.inv k2 k1 Q;have:=run_callFunc_extern hfn (by rw[hname];rfl) hb hn (d1d hname) #[a.eval s,a.eval b] σ.w;simp[execOp,resolve,show a.eval (.func g)=.func (.func g) #[] #[] from rfl,Deferred.ofValue,invoke,this,k3]
    ·cases hc
   ·rename_i hx;obtain⟨g,fn,rfl,hfn,hb,hn,hname⟩:=d3q P hx;split at hc
    ·rename_i s b hxl;have ha:args=#[s,b]:=by apply Array.ext';exact hxl
     subst ha;simp only[Option.bind_eq_some_iff,Option.map_eq_some_iff]at hc;obtain⟨s',hs',b',hb',rfl⟩:=hc;obtain⟨sv,hsr,hk⟩:=opd he hs' hk;obtain⟨bv,hbr,hk⟩:=opd he hb' hk;obtain⟨av,z,k1,k2,k3⟩:=g4u (P:=P) hsr hbr hk;refine F2 (σ':=σ) hs hd ?_ (Le.refl σ) hs.inv k2 k1 Q;have:=run_callFunc_extern hfn (by rw[hname];rfl) hb hn (d0p hname) #[a.eval s,a.eval b] σ.w;simp[execOp,resolve,show a.eval (.func g)=.func (.func g) #[] #[] from rfl,Deferred.ofValue,invoke,this,k3]
    ·cases hc
   ·rename_i u hx;obtain⟨g,fn,t,rfl,hfn,hb,hn,hname,hrt,hut⟩:=d0q P hx;split at hc
    ·rename_i n hxl;have ha:args=#[n]:=by apply Array.ext';exact hxl
     subst ha;simp only[Option.map_eq_some_iff]at hc;obtain⟨n',hn',rfl⟩:=hc;obtain⟨nv,hnr,hk⟩:=opd he hn' hk;obtain⟨σ',h',av,z,g1,g2,g3,g4,g5⟩:=d2a (P:=P) (ps:=fn.params) hs.inv hut hnr hk;refine F2 (σ':=σ') hs hd ?_ g2 g3 g4 g5 Q;have:=run_callFunc_extern hfn (by rw[hname];rfl) hb hn (d4z hname) #[a.eval n] σ.w;rw[hrt]at this;simp[execOp,resolve,show a.eval (.func g)=.func (.func g) #[] #[] from rfl,Deferred.ofValue,invoke,this,g1]
    ·cases hc
   simp only[Option.bind_eq_some_iff,Option.map_eq_some_iff]at hc;obtain⟨f',hf,l',hl,rfl⟩:=hc;obtain⟨fv,hfr,hk⟩:=opd he hf hk;generalize hfe:a.eval f=fe at hfr;unfold c1y at hk;split at hk
   ·rename_i _ _ g first captured l hlv;obtain⟨fs,cs,rfl,q1,q2,q3,q4⟩:=hfr.clo_inv;obtain⟨⟨fn,hfn,hbody,hname⟩,hcall⟩:=hk
    have hrels:b7b σ (first++l++captured) ((fs++args.map a.eval)++cs).toList:=by
     simp only[Array.toList_append,Array.toList_map];refine b7b.append (b7b.append ⟨by simpa using q1,fun i av hi=>?_⟩ (opds he hl hlv)) ⟨by simpa using q2,fun i av hi=>?_⟩
     ·obtain⟨x,hx,hr⟩:=q3 i av hi;exact⟨x,by simpa using hx,hr⟩
     ·obtain⟨x,hx,hr⟩:=q4 i av hi;exact⟨x,by simpa using hx,hr⟩
    have hrun:(execOp a.eval ⟨dst,.call ⟨.value f,args,argTypes⟩,type,pos,after,guard⟩).run P σ.w=.ok (.enter g ((fs++args.map a.eval)++cs)) σ.w:=by
     have hname':fn.name≠ "runtime.NumGoroutine":=by simpa using hname
     have hbody':fn.body≠none:=by intro hb;rw[hb]at hbody;cases hbody
     simp[execOp,resolve,hfe,Deferred.ofValue,invoke,callFunc,hfn,hbody',hname']
    unfold Oper.wp;rw[hrun,Oper.upon_enter];refine(hcall σ _ hs.inv hrels).mono fun e w' hq=>?_
    obtain⟨σ',h',av,x,rfl,rfl,g2,g3,g4,g5⟩:=hq;exact⟨σ',h',av,rfl,g2,hs.put g2 g3 hd g4,g5⟩
   ·exact hk.elim
  ·cases hc
end
structure C9 where
 dst:Option Nat
 op:AOp
 guard:Option (Nat × Bool)
def a9b(env:Env):Option Tmp->Env
 |some d=>(d,.tuple [])::env
 |none=>env
def b33(env:Env)(g:Option (Tmp × Bool))(yes no:Prop):Prop:=
 match g with
 |none=>yes
 |some (t,want)=>wv (get env t) fun v=>match v with
  |.v (.bool b)=>(b=want->yes)/\(b= !want->no)
  |.tuple []=>no
  |_=>False
def c9u(P:Program):List C9->Env->A3->(Env->A3->Prop)->Prop
 |[],env,h,K=>K env h
 |o::r,env,h,K=>b33 env o.guard (aop P o.op env h fun av h'=>c9u P r (a79 env o.dst av) h' K) (c9u P r (a9b env o.dst) h K)
inductive A0 where
 |skip
 |region (ops:List C9)
 |drawn (ord:List (List Nat)) (quiet tail:List C9)
 |seq (a b:A0)
 |cond (c:G2) (a b:A0)
 |block (id:Nat) (a:A0)
 |loop (a:A0)
 |exit (id:Nat)
 |ret
 |scope (a:A0)
 |label (l:Nat)
 |goto (l:Nat)
 |from_ (a:A0) (l:Nat)
def g23(N:Nat):Option Tmp->Bool
 |some d=>decide (d<N)
 |none=>true
theorem c3g{N:Nat}{o:Option Tmp}(h:g23 N o=true):∀d,o=some d->d<N:=by
 rintro d rfl;simpa[g23]using h
def b3z(P:Program)(N:Nat)(ops:Array Oper)(o:Oper):Option C9:=
 if g23 N o.dst then
  match o.guard with
  |none=>some ⟨o.dst,(a7r P o).getD .bad,none⟩
  |some (j,b)=>((ops[j]?).bind (·.dst)).map fun t=>⟨o.dst,(a7r P o).getD .bad,some (t,b)⟩
 else none
def W9(P:Program)(N:Nat)(ops:Array Oper):List Oper->Option (List C9)
 |[]=>some []
 |o::r=>(b3z P N ops o).bind fun a=>(W9 P N ops r).map fun l=>a::l
section
variable {P:Program}{σ:Sg}{h:A3}{env:Env}{N:Nat}{a:Act}
theorem W7.drop{tmps:Array Value}(he:W7 σ env tmps)(d:Nat)(x:Value):W7 σ (Lift.drop d env) (tmps.setIfInBounds d x):=by
 intro t av hg;obtain⟨h1,h2⟩:=d8v d t env av hg;obtain⟨y,h3,h4⟩:=he t av h2;exact⟨y,by rw[Array.getElem?_setIfInBounds_ne (Ne.symm h1)];exact h3,h4⟩
theorem d2r:Rel σ (.tuple []) undef:=Rel.tuple_mk rfl fun i av hi=>by simp at hi
theorem St.skipped(hs:St σ h env N a)(dst:Option Tmp)(hd:∀d,dst=some d->d<N):St σ h (a9b env dst) N (a.put dst undef):=by
 cases dst with
 |none=>exact hs
 |some d=>exact⟨hs.inv,hs.env.put (by rw[hs.size];exact hd d rfl) d2r,by show(a.tmps.setIfInBounds d undef).size=N;simp[hs.size],hs.defers⟩
theorem a8s{ops:Array Oper}{j:Nat}{t:Tmp}(hj:(ops[j]?).bind (·.dst)=some t)(he:W7 σ env a.tmps)(hg:get env t=some (.tuple [])):yielded ops a.tmps j=none:=by
 obtain⟨x,h1,h2⟩:=he t _ hg;obtain⟨xs,rfl,_⟩:=h2.tuple_inv;simp[yielded,hj,h1]
theorem b4k{ops:Array Oper}{j:Nat}{t:Tmp}(hj:(ops[j]?).bind (·.dst)=some t){b:Bool}(he:W7 σ env a.tmps)(hg:get env t=some (.v (.bool b))):yielded ops a.tmps j=some b:=by
 obtain⟨x,h1,h2⟩:=he t _ hg;cases h2;simp[yielded,hj,h1]
def a7p(σ:Sg)(N:Nat)(Q:Exit->Env->A3->Prop)(e:Exit)(a':Act)(w':World):Prop:=
 (match e with|.panic _|.outgrown=>False|_=>True)/\∃σ' h' env',σ'.w=w'/\Le σ σ'/\St σ' h' env' N a'/\Q e env' h'
theorem c2k{o:Oper}{ao:AOp}(hc:(a7r P o).getD .bad=ao)(hs:St σ h env N a)(hd:∀d,o.dst=some d->d<N){K:AV->A3->Prop}(hk:aop P ao env h K)(Q:Exit->Act->World->Prop):
  o.wp P a σ.w (c5m σ N env o.dst K) Q:=by
 cases hco:a7r P o with
 |none=>rw[hco]at hc;cases hc;exact hk.elim
 |some x=>rw[hco]at hc;cases hc;exact l8t hco hs hd hk Q
theorem a36{ops:Array Oper}{Q:Exit->Act->World->Prop}{σ₀:Sg}{K:Env->A3->Prop}(hQ:∀σ h env a,Le σ₀ σ->St σ h env N a->K env h->Q .normal a σ.w):
  ∀(l:List Oper) (k:Nat) (al:List C9) (σ:Sg) (h:A3) (env:Env) (a:Act),(∀j,j<l.length->l[j]? =ops[k+j]?)->W9 P N ops l=some al->Le σ₀ σ->St σ h env N a->c9u P al env h K->
   wpOps P ops Q ((List.range' k l.length)) a σ.w
 |[],k,al,σ,h,env,a,_,hc,hle,hs,hv=>by
  simp only[W9,Option.some.injEq]at hc;subst hc;exact hQ σ h env a hle hs hv
 |o::l,k,al,σ,h,env,a,hl,hc,hle,hs,hv=>by
  simp only[W9,Option.bind_eq_some_iff,Option.map_eq_some_iff]at hc;obtain⟨ao,hao,al',hal,rfl⟩:=hc;have h0:=hl 0 (by simp);simp only[List.getElem?_cons_zero,Nat.add_zero]at h0
  have hrest:∀j,j<l.length->l[j]? =ops[k+1+j]? :=by
   intro j hj;have:=hl (j+1) (by simp;omega);simp only[List.getElem?_cons_succ]at this;rw[this];congr 1;omega
  simp only[List.length_cons,List.range'_succ];rw[wpOps_cons];unfold wpOp;rw[<-h0];simp only;simp only[b3z]at hao;generalize hop:(a7r P o).getD .bad=op' at hao;split at hao
  ·rename_i hdst;have hd:=c3g hdst
   have run:∀(ao:C9),ao.dst=o.dst->ao.op=op'->aop P ao.op env h (fun av h'=>c9u P al' (a79 env ao.dst av) h' K)->o.wp P a σ.w (wpOps P ops Q (List.range' (k+1) l.length)) Q:=by
    intro ao h1 h2 h3;refine Oper.wp_mono (fun a' w' hb=>?_) (c2k hop hs hd (h2▸h3) Q);obtain⟨σ',h',av,rfl,q1,q2,q3⟩:=hb;rw[h1]at q3;exact a36 hQ l (k+1) al' σ' h' _ a' hrest hal (hle.trans q1) q2 q3
   split at hao
   ·rename_i hg;cases hao;have hw:Region.wanted o (yielded ops a.tmps)=true:=by simp[Region.wanted,hg]
    rw[if_pos hw];exact .inl (run _ rfl rfl hv)
   ·rename_i j b hg;simp only[Option.map_eq_some_iff]at hao;obtain⟨t,ht,rfl⟩:=hao;simp only[c9u,b33]at hv;obtain⟨v,hget,hv⟩:=a7i hv;split at hv
    ·rename_i c;have hy:=b4k ht hs.env hget
     by_cases hcb:c=b
     ·have hw:Region.wanted o (yielded ops a.tmps)=true:=by simp[Region.wanted,hg,hy,hcb]
      rw[if_pos hw];exact .inl (run ⟨o.dst,op',some (t,b)⟩ rfl rfl (hv.1 hcb))
     ·have hw:Region.wanted o (yielded ops a.tmps)=false:=by simp[Region.wanted,hg,hy,hcb]
      rw[hw];simp only[Bool.false_eq_true,if_false];exact a36 hQ l (k+1) al' σ h _ _ hrest hal hle (hs.skipped o.dst hd) (hv.2 (by cases c<;>cases b<;>simp_all))
    ·have hy:=a8s ht hs.env hget;have hw:Region.wanted o (yielded ops a.tmps)=false:=by simp[Region.wanted,hg,hy]
     rw[hw];simp only[Bool.false_eq_true,if_false];exact a36 hQ l (k+1) al' σ h _ _ hrest hal hle (hs.skipped o.dst hd) hv
    ·exact hv.elim
  ·cases hao
def AOp.opds:AOp->List G2
 |.mv x|.box x|.load _ x|.nilCheck x|.un _ x|.conv _ x|.iface _ x|.fieldAddr _ x|.field _ _ x|.assertT _ _ _ x|.extract _ x|.len _ x=>[x]
 |.pick c a b=>[c,a,b]
 |.alloc _=>[]
 |.build _ ps|.sliceLit _ _ _ ps=>ps.map (·.2)
 |.store _ x y|.bin _ x y|.eq _ _ x y|.idxS x y|.idxV _ _ _ x y|.idxSl _ x y|.idxA _ _ x y|.append _ _ _ x y=>[x,y]
 |.func _ f c=>f++c
 |.sliceS x lo hi=>x::(lo.toList++hi.toList)
 |.sliceV _ x lo hi mx=>x::(lo.toList++hi.toList++mx.toList)
 |.call f l=>f::l
 |.bytes x=>[x]
 |.make _ _ _ x y=>[x,y]
 |.minmax _ l=>l
 |.range x|.next x=>[x]
 |.bad|.mkmap=>[]
 |.lookup _ _ x k=>[x,k]
 |.mapset m k v=>[m,k,v]
 |.allocB _ _=>[]
 |.udata x|.cap0 x|.mknz _ x|.clear _ _ x=>[x]
 |.ustr _ x y|.seek _ x y|.copy0 x y=>[x,y]
theorem a9k{e1 e2:Env}:∀{l:List G2},(∀x∈l,x.ev e1=x.ev e2)->evs e1 l=evs e2 l
 |[],_=>rfl
 |x::l,h=>by simp only[evs];rw[h x (by simp),a9k (fun y hy=>h y (by simp[hy]))]
theorem b9h{e1 e2:Env}:∀{l:List ((Nat × Nat) × G2)},(∀x∈l.map (·.2),x.ev e1=x.ev e2)->evp e1 l=evp e2 l
 |[],_=>rfl
 |(k,x)::l,h=>by simp only[evp];rw[h x (by simp),b9h (fun y hy=>h y (by simp at hy ⊢;exact .inr hy))]
theorem a9m{e1 e2:Env}{x:Option G2}(h:∀y∈x.toList,y.ev e1=y.ev e2):evo e1 x=evo e2 x:=by
 cases x with
 |none=>rfl
 |some x=>simp only[evo];rw[h x (by simp)]
theorem a6d{o:AOp}{e1 e2:Env}(h':∀x∈o.opds,x.ev e1=x.ev e2){K:AV->A3->Prop}:aop P o e1 h K=aop P o e2 h K:=by
 cases o<;>simp only[AOp.opds,List.mem_cons,List.not_mem_nil,or_false,forall_eq_or_imp,forall_eq,List.mem_append]at h'<;>simp only[aop]
 case mv=>rw[h']
 case box=>rw[h']
 case load=>rw[h']
 case nilCheck=>rw[h']
 case un=>rw[h']
 case conv=>rw[h']
 case iface=>rw[h']
 case fieldAddr=>rw[h']
 case field=>rw[h']
 case assertT=>rw[h']
 case extract=>rw[h']
 case len=>rw[h']
 case pick=>rw[h'.1,h'.2.1,h'.2.2]
 case build=>rw[b9h h']
 case sliceLit=>rw[b9h h']
 case store=>rw[h'.1,h'.2]
 case bin=>rw[h'.1,h'.2]
 case eq=>rw[h'.1,h'.2]
 case idxS=>rw[h'.1,h'.2]
 case idxV=>rw[h'.1,h'.2]
 case idxSl=>rw[h'.1,h'.2]
 case idxA=>rw[h'.1,h'.2]
 case append=>rw[h'.1,h'.2]
 case make=>rw[h'.1,h'.2]
 case func=>rw[a9k (fun x hx=>h' x (.inl hx)),a9k (fun x hx=>h' x (.inr hx))]
 case sliceS=>rw[h'.1,a9m (fun x hx=>h'.2 x (.inl hx)),a9m (fun x hx=>h'.2 x (.inr hx))]
 case sliceV=>rw[h'.1,a9m (fun x hx=>h'.2 x (.inl (.inl hx))),a9m (fun x hx=>h'.2 x (.inl (.inr hx))),a9m (fun x hx=>h'.2 x (.inr hx))]
 case call=>rw[h'.1,a9k h'.2]
 case bytes=>rw[h']
 case minmax=>rw[a9k h']
 case range=>rw[h']
 case next=>rw[h']
 case lookup=>rw[h'.1,h'.2]
 case mapset=>rw[h'.1,h'.2.1,h'.2.2]
 case udata=>rw[h']
 case cap0=>rw[h']
 case mknz=>rw[h']
 case clear=>rw[h']
 case ustr=>rw[h'.1,h'.2]
 case seek=>rw[h'.1,h'.2]
 case copy0=>rw[h'.1,h'.2]
end
section
def c0n(P:Program)(o:AOp)(env:Env)(h:A3)(av:AV):Prop:=aop P o env h fun av' h'=>av'=av/\h'=h
def vq(P:Program):List C9->Env->A3->(Env->Prop)->Prop
 |[],env,_,K=>K env
 |o::r,env,h,K=>b33 env o.guard (∃av,c0n P o.op env h av/\vq P r (a79 env o.dst av) h K) (vq P r (a9b env o.dst) h K)
def E5(t:Tmp)(l:List C9):Bool:=l.any fun o=>o.dst==some t
def C9.looks(o:C9):List Tmp:=(o.op.opds.filterMap fun|.t n=>some n|.c _=>none)++(match o.guard with|some (t,_)=>[t]|none=>[])
def okq:List C9->Bool
 |[]=>true
 |o::r=>(o.looks.all fun t=> !E5 t (o::r))&&(match o.dst with|some d=> !E5 d r|none=>true)&&okq r
def d7p(P:Program)(F:Env)(h:A3)(o:C9):Prop:=
 let does:=∃av,c0n P o.op F h av/\∀d,o.dst=some d->get F d=some av
 match o.guard with
 |none=>does
 |some (t,want)=>(∃b,get F t=some (.v (.bool b))/\(b=want->does)/\(b≠want->∀d,o.dst=some d->get F d=some (.tuple [])))\/(get F t=some (.tuple [])/\∀d,o.dst=some d->get F d=some (.tuple []))
theorem I2(env:Env)(dst:Option Tmp)(av:AV)(t:Tmp):get (a79 env dst av) t=if dst=some t then some av else get env t:=by
 cases dst with
 |none=>simp[a79]
 |some d=>simp[a79,get]
theorem M0(env:Env)(dst:Option Tmp)(t:Tmp):get (a9b env dst) t=if dst=some t then some (.tuple []) else get env t:=by
 cases dst with
 |none=>simp[a9b]
 |some d=>simp[a9b,get]
section
variable {P:Program}{σ:Sg}{h:A3}{env:Env}{N:Nat}{a:Act}
theorem c32{K:Env->Prop}:∀(l:List C9) (env:Env),okq l=true->vq P l env h K->∃F,K F/\(∀t,E5 t l=false->get F t=get env t)/\∀o∈l,d7p P F h o
 |[],env,_,hv=>⟨env,hv,fun _ _=>rfl,fun o ho=>by cases ho⟩
 |o::r,env,hok,hv=>by
  simp only[okq,Bool.and_eq_true,List.all_eq_true]at hok;obtain⟨⟨hlook,hdst⟩,hokr⟩:=hok
  have hwr:∀t,E5 t (o::r)=false->o.dst≠some t/\E5 t r=false:=by
   intro t ht;simp only[E5,List.any_cons,Bool.or_eq_false_iff]at ht ⊢;exact⟨by simpa using ht.1,ht.2⟩
  have hd:∀d,o.dst=some d->E5 d r=false:=by
   intro d hd;rw[hd]at hdst;simpa using hdst
  have hl:∀(F:Env),(∀t,E5 t (o::r)=false->get F t=get env t)->∀t∈o.looks,get env t=get F t:=fun F hF t ht=>(hF t (by simpa using hlook t ht)).symm
  have hcong:∀(F:Env),(∀t,E5 t (o::r)=false->get F t=get env t)->∀av,c0n P o.op env h av->c0n P o.op F h av:=by
   intro F hF av hq;unfold c0n at hq ⊢;rw[<-a6d (e1:=env) (e2:=F)]
   ·exact hq
   ·intro x hx;cases x with
    |c a=>rfl
    |t n=>
     refine hl F hF n ?_;simp only[C9.looks,List.mem_append,List.mem_filterMap];exact .inl ⟨.t n,hx,rfl⟩
  have yes:(∃av,c0n P o.op env h av/\vq P r (a79 env o.dst av) h K)->∃F,K F/\(∀t,E5 t (o::r)=false->get F t=get env t)/\(∃av,c0n P o.op F h av/\∀d,o.dst=some d->get F d=some av)/\∀o'∈r,d7p P F h o':=by
   rintro⟨av,hq,hv⟩;obtain⟨F,k1,k2,k3⟩:=c32 r _ hokr hv
   have hF:∀t,E5 t (o::r)=false->get F t=get env t:=by
    intro t ht;obtain⟨h1,h2⟩:=hwr t ht;rw[k2 t h2,I2,if_neg h1]
   refine⟨F,k1,hF,⟨av,hcong F hF av hq,fun d hd'=>?_⟩,k3⟩;rw[k2 d (hd d hd'),I2,if_pos hd']
  have no:vq P r (a9b env o.dst) h K->∃F,K F/\(∀t,E5 t (o::r)=false->get F t=get env t)/\(∀d,o.dst=some d->get F d=some (.tuple []))/\∀o'∈r,d7p P F h o':=by
   intro hv;obtain⟨F,k1,k2,k3⟩:=c32 r _ hokr hv;refine⟨F,k1,fun t ht=>?_,fun d hd'=>?_,k3⟩
   ·obtain⟨h1,h2⟩:=hwr t ht;rw[k2 t h2,M0,if_neg h1]
   ·rw[k2 d (hd d hd'),M0,if_pos hd']
  simp only[vq,b33]at hv;split at hv
  ·rename_i hg;obtain⟨F,k1,k2,k3,k4⟩:=yes hv;refine⟨F,k1,k2,fun o' ho'=>?_⟩;rcases List.mem_cons.1 ho' with rfl|ho'
   ·unfold d7p;rw[hg];exact k3
   ·exact k4 o' ho'
  ·rename_i t want hg;obtain⟨v,hget,hv⟩:=a7i hv;split at hv
   ·rename_i b
    have ht:∀F:Env,(∀t,E5 t (o::r)=false->get F t=get env t)->get F t=some (.v (.bool b)):=by
     intro F hF;rw[<-hl F hF t (by simp[C9.looks,hg])];exact hget
    by_cases hb:b=want
    ·obtain⟨F,k1,k2,k3,k4⟩:=yes (hv.1 hb);refine⟨F,k1,k2,fun o' ho'=>?_⟩;rcases List.mem_cons.1 ho' with rfl|ho'
     ·unfold d7p;rw[hg];exact .inl ⟨b,ht F k2,fun _=>k3,fun hn=>absurd hb hn⟩
     ·exact k4 o' ho'
    ·obtain⟨F,k1,k2,k3,k4⟩:=no (hv.2 (by cases b<;>cases want<;>simp_all));refine⟨F,k1,k2,fun o' ho'=>?_⟩;rcases List.mem_cons.1 ho' with rfl|ho'
     ·unfold d7p;rw[hg];exact .inl ⟨b,ht F k2,fun hy=>absurd hy hb,fun _=>k3⟩
     ·exact k4 o' ho'
   ·obtain⟨F,k1,k2,k3,k4⟩:=no hv;refine⟨F,k1,k2,fun o' ho'=>?_⟩;rcases List.mem_cons.1 ho' with rfl|ho'
    ·unfold d7p;rw[hg];exact .inr ⟨by rw[<-hl F k2 t (by simp[C9.looks,hg])];exact hget,k3⟩
    ·exact k4 o' ho'
   ·exact hv.elim
def a89(ops:Array Oper)(i j:Nat):Bool:=match ops[i]? with
 |some o=>o.after.any fun e=>Region.binds .any e&&e.on==j
 |none=>false
def b0b(ops:Array Oper)(m:Nat):List (List Nat):=(List.range m).map fun i=>(List.range m).filter fun j=>a89 ops i j
theorem b21{ops:Array Oper}{m i k:Nat}(h:k∈(b0b ops m).getD i []):k<m/\a89 ops i k=true:=by
 unfold b0b at h;rw[List.getD_eq_getElem?_getD,List.getElem?_map]at h;cases hr:(List.range m)[i]? with
 |none=>rw[hr]at h;simp at h
 |some j=>
  have hi:i<m:=by
   have:=(List.getElem?_eq_some_iff.1 hr).1;simpa using this
  rw[List.getElem?_range hi]at hr;cases hr;rw[List.getElem?_range hi]at h;simp only[Option.map_some,Option.getD_some,List.mem_filter,List.mem_range]at h;exact h
def d59:List (List Nat)->List (List Nat)->List (List Nat)
 |acc,[]=>acc
 |acc,r::rs=>d59 (acc++[r++r.flatMap fun j=>acc.getD j []]) rs
def clo(ord:List (List Nat)):List (List Nat):=d59 [] ord
theorem c22:∀(rs acc:List (List Nat)) (i:Nat),i<acc.length->(d59 acc rs).getD i []=acc.getD i []
 |[],_,_,_=>rfl
 |r::rs,acc,i,h=>by
  simp only[d59];rw[c22 rs _ i (by simp;omega)];simp only[List.getD_eq_getElem?_getD,List.getElem?_append_left h]
theorem c9p:∀(rs acc:List (List Nat)),(d59 acc rs).length=acc.length+rs.length
 |[],_=>rfl
 |r::rs,acc=>by simp only[d59];rw[c9p rs];simp;omega
theorem c8y:∀(rs acc:List (List Nat)) (i:Nat),i<rs.length->∀k∈(d59 acc rs).getD (acc.length+i) [],k∈rs.getD i []\/∃j,j∈rs.getD i []/\j<acc.length+i/\k∈(d59 acc rs).getD j []
 |[],_,i,h=>by simp at h
 |r::rs,acc,0,h=>by
  intro k hk;simp only[d59]at hk ⊢;have h0:=c22 rs (acc++[r++r.flatMap fun j=>acc.getD j []]) (acc.length+0) (by simp);rw[h0]at hk;simp only[Nat.add_zero,List.getD_eq_getElem?_getD,List.getElem?_append_right (Nat.le_refl _),Nat.sub_self,List.getElem?_cons_zero,Option.getD_some,List.mem_append,List.mem_flatMap]at hk;rcases hk with hk|⟨j,hj,hk⟩
  ·exact .inl (by simpa using hk)
  ·have hlt:j<acc.length:=by
    by_cases hlt:j<acc.length
    ·exact hlt
    ·rw[List.getElem?_eq_none (by omega)]at hk;simp at hk
   refine .inr ⟨j,by simpa using hj,by omega,?_⟩;rw[c22 rs _ j (by simp;omega)];simpa[List.getD_eq_getElem?_getD,List.getElem?_append_left hlt]using hk
 |r::rs,acc,i+1,h=>by
  intro k hk;simp only[d59]at hk ⊢;have:=c8y rs (acc++[r++r.flatMap fun j=>acc.getD j []]) i (by simpa using h) k (by simpa[Nat.add_assoc,Nat.add_comm 1 i]using hk);rcases this with h1|⟨j,h1,h2,h3⟩
  ·exact .inl (by simpa using h1)
  ·exact .inr ⟨j,by simpa using h1,by simp at h2;omega,h3⟩
theorem d40{ord:List (List Nat)}{i k:Nat}(h:k∈(clo ord).getD i []):k∈ord.getD i []\/∃j,j∈ord.getD i []/\j<i/\k∈(clo ord).getD j []:=by
 by_cases hi:i<ord.length
 ·have:=c8y ord [] i hi k (by simpa[clo]using h);simpa[clo]using this
 ·have hl:=c9p ord [];rw[List.getD_eq_getElem?_getD,List.getElem?_eq_none (by unfold clo;simp at hl;omega)]at h;simp at h
theorem a9o{ops:Array Oper}{m:Nat}{L:Nat->Prop}(hc:∀k i,k<m->L k->i∈(b0b ops m).getD k []->L i):∀n k,k<n->k<m->L k->∀i∈(clo (b0b ops m)).getD k [],L i:=by
 intro n
 induction n with
 |zero=>intro k h;omega
 |succ n ih=>
  intro k hk hm hl i hi;rcases d40 hi with h1|⟨j,h1,h2,h3⟩
  ·exact hc k i hm hl h1
  ·exact ih j (by omega) (b21 h1).1 (hc k j hm hl h1) i h3
theorem d7j{ops:Array Oper}{m i k:Nat}(hi:i<m)(hk:k<m)(h:a89 ops i k=true):k∈(b0b ops m).getD i []:=by
 unfold b0b;rw[List.getD_eq_getElem?_getD,List.getElem?_map,List.getElem?_range hi];simp only[Option.map_some,Option.getD_some,List.mem_filter,List.mem_range];exact⟨hk,h⟩
def b2y(ops:Array Oper)(m:Nat):Bool:=(List.range m).all fun j=>((clo (b0b ops (m+1))).getD m []).contains j
def goes(md:Region.Mode)(ops:Array Oper):Bool:=
 let L:=Region.linearise md ops 0
 (List.range ops.size).all (fun i=>L.contains i)&&(List.range L.length).all fun k=>match L[k]? with
  |some i=>match ops[i]? with
   |some o=>o.after.all fun e=> !Region.binds md e||(L.take k).contains e.on
   |none=>false
  |none=>false
def c6g(ops:Array Oper)(m:Nat)(al:List C9):Bool:=
 (goes .any ops&&goes .text ops&&goes .gc ops)&&
 (List.range ops.size).all (fun i=>decide (i<m)||((List.range i).all fun j=>a89 ops i j)||(decide (m<i)&&a89 ops i (i - 1))||(decide (i=m)&&b2y ops m))&&
 (List.range m).all (fun i=>match al[i]? with
  |some o=>o.looks.all fun t=>(List.range m).all fun k=> !((ops[k]?).bind (·.dst)==some t)||a89 ops i k
  |none=>false)
theorem a1y{md:Region.Mode}{ops:Array Oper}{listed:Array Bool}{i:Nat}:i∈Region.ready md ops listed↔listed.getD i true=false/\∃o,ops[i]? =some o/\∀e∈o.after,Region.binds md e=true->listed.getD e.on false=true:=by
 unfold Region.ready;simp only[List.mem_filter,List.mem_range,Bool.and_eq_true,Bool.not_eq_true'];constructor
 ·rintro⟨_,h1,h2⟩;refine⟨h1,?_⟩;cases ho:ops[i]? with
  |none=>simp[ho]at h2
  |some o=>
   refine⟨o,rfl,fun e he hb=>?_⟩;simp only[ho,Option.map_some,Option.getD_some,Array.all_eq_true']at h2;have:=h2 e he;simpa[hb]using this
 ·rintro⟨h1,o,ho,h2⟩;refine⟨(Array.getElem?_eq_some_iff.1 ho).1,h1,?_⟩;simp only[ho,Option.map_some,Option.getD_some,Array.all_eq_true'];intro e he;cases hb:Region.binds md e with
  |false=>simp
  |true=>simp[h2 e he hb]
theorem W2{listed:Array Bool}{i j:Nat}{d:Bool}(hi:i<listed.size):(listed.setIfInBounds i true).getD j d=if i=j then true else listed.getD j d:=by
 simp only[Array.getD_eq_getD_getElem?,Array.getElem?_setIfInBounds]
 by_cases hij:i=j
 ·subst hij;simp[hi]
 ·simp[hij]
theorem b7g{listed:Array Bool}{j:Nat}(hj:j<listed.size)(d e:Bool):listed.getD j d=listed.getD j e:=by
 simp[Array.getD_eq_getD_getElem?,hj]
theorem f9q{listed:Array Bool}{j:Nat}(h:listed.getD j true=false):j<listed.size:=by
 by_cases hj:j<listed.size
 ·exact hj
 ·simp[Array.getD_eq_getD_getElem?,Array.getElem?_eq_none (Nat.le_of_not_lt hj)]at h
theorem c0a{md:Region.Mode}{e:Edge}(h:Region.binds .any e=true):Region.binds md e=true:=by
 unfold Region.binds at h ⊢;split at h<;>simp_all
theorem Y0{md:Region.Mode}{ops:Array Oper}{listed:Array Bool}{i j:Nat}(ha:a89 ops i j=true)(hj:listed.getD j true=false):i ∉ Region.ready md ops listed:=by
 intro hr;obtain⟨_,o,ho,h2⟩:=a1y.1 hr;unfold a89 at ha;rw[ho]at ha;simp only[Array.any_eq_true']at ha;obtain⟨e,he,hc⟩:=ha;simp only[Bool.and_eq_true,beq_iff_eq]at hc;have:=h2 e he (c0a hc.1);rw[hc.2,b7g (f9q hj) false true,hj]at this;cases this
structure d35(ops:Array Oper)(m:Nat)(al:List C9):Prop where
 back:∀md,goes md ops=true
 tail:∀i,i<ops.size->m<=i->(∀j,j<i->a89 ops i j=true)\/(m<i/\a89 ops i (i - 1)=true)\/(i=m/\b2y ops m=true)
 head:∀i o,i<m->al[i]? =some o->∀t∈o.looks,∀k,k<m->(ops[k]?).bind (·.dst)=some t->a89 ops i k=true
theorem c8p{ops:Array Oper}{m:Nat}{al:List C9}(h:c6g ops m al=true):d35 ops m al:=by
 simp only[c6g,Bool.and_eq_true,List.all_eq_true]at h;obtain⟨⟨h1,h2⟩,h3⟩:=h;refine⟨fun md=>by cases md<;>simp[h1],fun i hi hm=>?_,fun i o hi ho t ht k hkm hk=>?_⟩
 ·have:=h2 i (List.mem_range.2 hi);simp only[Bool.or_eq_true,Bool.and_eq_true,decide_eq_true_eq,List.all_eq_true]at this;rcases this with((h|h)|h)|h
  ·omega
  ·exact .inl fun j hj=>h j (List.mem_range.2 hj)
  ·exact .inr (.inl h)
  ·exact .inr (.inr h)
 ·have:=h3 i (List.mem_range.2 hi);rw[ho]at this;simp only[List.all_eq_true]at this;have:=this t ht k (List.mem_range.2 hkm);simpa[hk]using this
theorem b1c{md:Region.Mode}{ops:Array Oper}{m:Nat}{al:List C9}(ho:d35 ops m al){listed:Array Bool}(hsz:listed.size=ops.size)(hne:∃i,i<ops.size/\listed.getD i true=false):∃i,i∈Region.ready md ops listed:=by
 have hg:=ho.back md;simp only[goes,Bool.and_eq_true,List.all_eq_true]at hg;obtain⟨g1,g2⟩:=hg;generalize hL:Region.linearise md ops 0=L at g1 g2;obtain⟨i,hi,hf⟩:=hne;have hmem:i∈L:=by simpa using g1 i (List.mem_range.2 hi)
 obtain⟨k,hk⟩:=List.mem_iff_getElem?.1 hmem;obtain⟨k0,⟨i0,hk0,hf0⟩,hmin⟩:=exists_least (p:=fun k=>∃i,L[k]? =some i/\listed.getD i true=false) ⟨k,i,hk,hf⟩;have:=g2 k0 (List.mem_range.2 (List.getElem?_eq_some_iff.1 hk0).1);rw[hk0]at this;simp only at this;split at this
 ·rename_i o hoi;refine⟨i0,a1y.2 ⟨hf0,o,hoi,fun e he hb=>?_⟩⟩;simp only[Array.all_eq_true']at this;have:=this e he;rw[hb]at this;simp only[Bool.not_true,Bool.false_or,List.contains_iff_mem]at this;obtain⟨q,hq⟩:=List.mem_iff_getElem?.1 this;rw[List.getElem?_take]at hq;split at hq
  ·rename_i hqk;cases hc:listed.getD e.on true with
   |true=>
    have hlt:e.on<listed.size:=by
     have hmem2:e.on∈L:=List.mem_of_getElem? hq;have:=g2 q (List.mem_range.2 (List.getElem?_eq_some_iff.1 hq).1);rw[hq]at this;simp only at this;split at this
     ·rename_i o2 ho2;rw[hsz];exact(Array.getElem?_eq_some_iff.1 ho2).1
     ·cases this
    rw[b7g hlt false true];exact hc
   |false=>have:=hmin q ⟨e.on,hq,hc⟩;omega
  ·cases hq
 ·cases this
theorem c50{md:Region.Mode}{ops:Array Oper}{m i0:Nat}{listed:Array Bool}(h:b2y ops m=true)(hi0:i0<m)(hn:listed.getD i0 true=false)
  (hcl:∀k j,k<m->j<m->listed.getD k true=true->a89 ops k j=true->listed.getD j true=true):m ∉ Region.ready md ops listed:=by
 intro hr
 have hm:i0∈(clo (b0b ops (m+1))).getD m []:=by
  unfold b2y at h;have:=List.all_eq_true.1 h i0 (List.mem_range.2 hi0);simpa using this
 have:=a9o (ops:=ops) (m:=m+1) (L:=fun k=>k=m\/listed.getD k true=true) (fun k j hk hL hj=>?_) (m+1) m (by omega) (by omega) (.inl rfl) i0 hm
 ·rcases this with h1|h1
  ·omega
  ·rw[hn]at h1;cases h1
 ·obtain⟨h1,h2⟩:=b21 hj
  by_cases hjm:j=m
  ·exact .inl hjm
  refine .inr ?_;rcases hL with rfl|hL
  ·cases hb:listed.getD j true with
   |true=>rfl
   |false=>exact absurd hr (Y0 h2 hb)
  ·by_cases hkm:k=m
   ·subst hkm;cases hb:listed.getD j true with
    |true=>rfl
    |false=>exact absurd hr (Y0 h2 hb)
   ·exact hcl k j (by omega) (by omega) hL h2
theorem b62{md:Region.Mode}{ops:Array Oper}{m:Nat}{al:List C9}(ho:d35 ops m al){Q:Exit->Act->World->Prop}:∀(f j:Nat) (listed:Array Bool) (a:Act) (w:World),m<=j->j<=ops.size->ops.size - j<=f->listed.size=ops.size->
  (∀i,i<ops.size->listed.getD i true=decide (i<j))->wpOps P ops Q (List.range' j (ops.size - j)) a w->wpAny P md ops Q f listed a w:=by
 intro f
 induction f with
 |zero=>
  intro j listed a w hm hj hf hsz hl hw;have:ops.size - j=0:=by omega
  rw[this]at hw;refine⟨?_,hw⟩;apply List.eq_nil_iff_forall_not_mem.2;intro i hi;obtain⟨h1,o,h2,_⟩:=a1y.1 hi;have hlt:=(Array.getElem?_eq_some_iff.1 h2).1;rw[hl i hlt]at h1;simp at h1;omega
 |succ f ih=>
  intro j listed a w hm hj hf hsz hl hw
  have only:∀i∈Region.ready md ops listed,i=j:=by
   intro i hi;obtain⟨h1,o,h2,_⟩:=a1y.1 hi;have hlt:=(Array.getElem?_eq_some_iff.1 h2).1;rw[hl i hlt]at h1;simp at h1
   by_cases hij:i=j
   ·exact hij
   ·rcases ho.tail i hlt (by omega) with h|⟨hmi,h⟩|⟨hmi,h⟩
    ·refine absurd hi (Y0 (h j (by omega)) ?_);rw[hl j (by omega)];simp
    ·refine absurd hi (Y0 h ?_);rw[hl (i - 1) (by omega)];simp;omega
    ·omega
  refine⟨fun hnil=>?_,fun i hi=>?_⟩
  ·by_cases hjn:j=ops.size
   ·subst hjn;rw[show ops.size - ops.size=0 by omega]at hw;exact hw
   ·exfalso;obtain⟨i,hi⟩:=b1c (md:=md) ho hsz ⟨j,by omega,by rw[hl j (by omega)];simp⟩;rw[hnil]at hi;cases hi
  ·have:=only i hi;subst this
   have hlt:i<ops.size:=by
    obtain⟨h1,o,h2,_⟩:=a1y.1 hi;exact(Array.getElem?_eq_some_iff.1 h2).1
   rw[show ops.size - i=(ops.size - (i+1))+1 by omega,List.range'_succ,wpOps_cons]at hw;refine wpOp_mono (fun a' w' h'=>?_) hw;refine ih (i+1) _ a' w' (by omega) (by omega) (by omega) (by simp[hsz]) (fun k hk=>?_) h';rw[W2 (by omega),hl k hk]
   by_cases hik:i=k
   ·subst hik;simp
   ·rw[if_neg hik];simp;omega
def a3t(ops:Array Oper)(m:Nat)(listed:Array Bool)(t:Tmp):Prop:=∀k,k<m->(ops[k]?).bind (·.dst)=some t->listed.getD k true=true
open Classical in
noncomputable def c0l(p:Tmp->Prop):Env->Env
 |[]=>[]
 |(t,v)::e=>if p t then(t,v)::c0l p e else c0l p e
open Classical in
theorem P6(p:Tmp->Prop)(e:Env)(t:Tmp):get (c0l p e) t=if p t then get e t else none:=by
 induction e with
 |nil=>simp[c0l,get]
 |cons q e ih=>
  obtain⟨k,v⟩:=q
  by_cases hk:p k
  ·simp only[c0l,if_pos hk,get]
   by_cases hkt:k=t
   ·subst hkt;simp[hk]
   ·simp only[hkt,if_false,ih]
  ·simp only[c0l,if_neg hk,get,ih]
   by_cases hkt:k=t
   ·subst hkt;simp[hk]
   ·simp only[hkt,if_false]
end
end
section
variable {P:Program}{σ:Sg}{h:A3}{env:Env}{N:Nat}{a:Act}
theorem a4l{ops:Array Oper}:∀{l:List Oper}{al:List C9},W9 P N ops l=some al->al.length=l.length/\∀(i:Nat) (o:Oper),l[i]? =some o->∃ao,al[i]? =some ao/\b3z P N ops o=some ao
 |[],al,h=>by simp[W9]at h;subst h;exact⟨rfl,fun i o hi=>by simp at hi⟩
 |o::l,al,h=>by
  simp only[W9,Option.bind_eq_some_iff,Option.map_eq_some_iff]at h;obtain⟨ao,h1,r,h2,rfl⟩:=h;obtain⟨g1,g2⟩:=a4l h2;refine⟨by simp[g1],fun i o' hi=>?_⟩;cases i with
  |zero=>simp at hi;subst hi;exact⟨ao,rfl,h1⟩
  |succ i=>exact g2 i o' (by simpa using hi)
theorem a3r{ops:Array Oper}{o:Oper}{ao:C9}(h:b3z P N ops o=some ao):(a7r P o).getD .bad=ao.op/\(∀d,o.dst=some d->d<N)/\ao.dst=o.dst/\
  ((o.guard=none/\ao.guard=none)\/∃j b t,o.guard=some (j,b)/\ao.guard=some (t,b)/\(ops[j]?).bind (·.dst)=some t):=by
 simp only[b3z]at h;split at h
 ·rename_i hd;split at h
  ·rename_i hg;cases h;exact⟨rfl,c3g hd,rfl,.inl ⟨hg,rfl⟩⟩
  ·rename_i j b hg;simp only[Option.map_eq_some_iff]at h;obtain⟨t,ht,rfl⟩:=h;exact⟨rfl,c3g hd,rfl,.inr ⟨j,b,t,hg,rfl,ht⟩⟩
 ·cases h
structure o2m(ops:Array Oper)(m:Nat)(F:Env)(h:A3)(N:Nat)(listed:Array Bool)(σ:Sg)(a:Act):Prop where
 inv:Inv h σ
 env:W7 σ (c0l (a3t ops m listed) F) a.tmps
 size:a.tmps.size=N
 defers:a.defers=[]
theorem d75{md:Region.Mode}{ops:Array Oper}{al:List C9}{F:Env}(hq:W9 P N ops (ops.toList.take al.length)=some al)(hm:al.length<=ops.size)(ho:d35 ops al.length al)(hF:∀o∈al,d7p P F h o)
  (huniq:∀i j t,(ops[i]?).bind (·.dst)=some t->(ops[j]?).bind (·.dst)=some t->i<al.length->j<al.length->i=j)
  {Q:Exit->Act->World->Prop}{σ₀:Sg}(hend:∀σ a,Le σ₀ σ->St σ h F N a->wpOps P ops Q (List.range' al.length (ops.size - al.length)) a σ.w):
  ∀(f:Nat) (listed:Array Bool) (a:Act) (σ:Sg),listed.size=ops.size->(∀i,al.length<=i->i<ops.size->listed.getD i true=false)->(∀k j,k<al.length->j<al.length->listed.getD k true=true->a89 ops k j=true->listed.getD j true=true)->Le σ₀ σ->o2m ops al.length F h N listed σ a->listed.toList.count false<=f->wpAny P md ops Q f listed a σ.w:=by
 obtain⟨hlen,hget⟩:=a4l hq;intro f
 induction f with
 |zero=>
  intro listed a σ hsz htail hcl hle hh hc
  have hall:∀i,i<ops.size->listed.getD i true=true:=by
   intro i hi;cases hb:listed.getD i true with
   |true=>rfl
   |false=>
    exfalso
    have hmem:false∈listed.toList:=by
     rw[List.mem_iff_getElem?];refine⟨i,?_⟩;have:listed[i]? =some listed[i]:=Array.getElem?_eq_getElem (by omega);simp only[Array.getD_eq_getD_getElem?,this,Option.getD_some]at hb;simp only[Array.getElem?_toList,this,hb]
    have:=List.count_pos_iff.2 hmem;omega
  have hmn:al.length=ops.size:=by
   by_cases he:al.length=ops.size
   ·exact he
   ·have:=htail al.length (Nat.le_refl _) (by omega);rw[hall _ (by omega)]at this;cases this
  have hst:St σ h F N a:=⟨hh.inv,fun t av hg=>hh.env t av (by rw[P6,if_pos (show a3t ops al.length listed t from fun k hk _=>hall k (by omega))];exact hg),hh.size,hh.defers⟩;have:=hend σ a hle hst;refine b62 ho 0 al.length listed a σ.w (Nat.le_refl _) hm (by omega) hsz (fun i hi=>by rw[hall i hi];simp;omega) this
 |succ f ih=>
  intro listed a σ hsz htail hcl hle hh hc
  by_cases hall:∀i,i<al.length->listed.getD i true=true
  ·have hst:St σ h F N a:=⟨hh.inv,fun t av hg=>hh.env t av (by rw[P6,if_pos (show a3t ops al.length listed t from fun k hk _=>hall k hk)];exact hg),hh.size,hh.defers⟩;refine b62 ho (f+1) al.length listed a σ.w (Nat.le_refl _) hm ?_ hsz (fun i hi=>?_) (hend σ a hle hst)
   ·
    have hcnt:ops.size - al.length<=listed.toList.count false:=by
     have hsplit:listed.toList=listed.toList.take al.length++listed.toList.drop al.length:=(List.take_append_drop _ _).symm;rw[hsplit,List.count_append]
     have hd:listed.toList.drop al.length=List.replicate (ops.size - al.length) false:=by
      apply List.eq_replicate_iff.2;refine⟨by simp[hsz],fun b hb=>?_⟩;obtain⟨i,hi⟩:=List.mem_iff_getElem?.1 hb;rw[List.getElem?_drop]at hi;have hlt:=(List.getElem?_eq_some_iff.1 hi).1;have:=htail (al.length+i) (by omega) (by simpa[hsz]using hlt);simp only[Array.getElem?_toList]at hi;simp only[Array.getD_eq_getD_getElem?,hi,Option.getD_some]at this;exact this
     rw[hd,List.count_replicate];simp
    omega
   ·by_cases him:i<al.length
    ·rw[hall i him];simp[him]
    ·rw[htail i (by omega) hi];simp[him]
  ·obtain⟨i0,hi0,hn0⟩:∃i,i<al.length/\listed.getD i true=false:=by
    false_or_by_contra
    rename_i hcon
    exact hall fun i hi=>by
     cases hb:listed.getD i true with
     |true=>rfl
     |false=>exact absurd ⟨i,hi,hb⟩ hcon
   refine⟨fun hnil=>?_,fun i hi=>?_⟩
   ·obtain⟨i,hi⟩:=b1c (md:=md) ho hsz ⟨i0,by omega,hn0⟩;rw[hnil]at hi;cases hi
   ·obtain⟨hun,o,hoi,hdeps⟩:=a1y.1 hi;have hin:=(Array.getElem?_eq_some_iff.1 hoi).1
    have him:i<al.length:=by
     by_cases h':i<al.length
     ·exact h'
     ·rcases ho.tail i hin (by omega) with h|⟨hmi,h⟩|⟨hmi,h⟩
      ·exact absurd hi (Y0 (h i0 (by omega)) hn0)
      ·exact absurd hi (Y0 h (htail (i - 1) (by omega) (by omega)))
      ·subst hmi;exact absurd hi (c50 h hi0 hn0 hcl)
    obtain⟨ao,hao,hco⟩:=hget i o (by rw[List.getElem?_take,if_pos him];simpa using hoi);obtain⟨hop,hd,hdst,hguard⟩:=a3r hco;have hfact:=hF ao (List.mem_of_getElem? hao)
    have hsee:∀t∈ao.looks,a3t ops al.length listed t:=by
     intro t ht k hk hkd;have ha:=ho.head i ao him hao t ht k hk hkd;unfold a89 at ha;rw[hoi]at ha;simp only[Array.any_eq_true']at ha;obtain⟨e,he,hb⟩:=ha;simp only[Bool.and_eq_true,beq_iff_eq]at hb;have:=hdeps e he (c0a hb.1);rw[hb.2,b7g (by omega) false true]at this;exact this
    have hlook:∀t∈ao.looks,get (c0l (a3t ops al.length listed) F) t=get F t:=fun t ht=>by rw[P6,if_pos (hsee t ht)]
    have hst:St σ h (c0l (a3t ops al.length listed) F) N a:=⟨hh.inv,hh.env,hh.size,hh.defers⟩
    have hcount:(listed.setIfInBounds i true).toList.count false<=f:=by
     have hget':listed.toList[i]'(by simp;omega)=false:=by
      have:listed[i]? =some listed[i]:=Array.getElem?_eq_getElem (by omega);simp only[Array.getD_eq_getD_getElem?,this,Option.getD_some]at hun;simpa using hun
     have:=List.count_set (a:=true) (b:=false) (l:=listed.toList) (i:=i) (by simp;omega);simp only[Array.toList_setIfInBounds];rw[this,hget'];have hp:0<listed.toList.count false:=List.count_pos_iff.2 (by rw[List.mem_iff_getElem];exact⟨i,by simp;omega,hget'⟩);show listed.toList.count false - 1+0<=f;omega
    have hnext:∀(a':Act) (σ':Sg),Le σ σ'->o2m ops al.length F h N (listed.setIfInBounds i true) σ' a'->wpAny P md ops Q f (listed.setIfInBounds i true) a' σ'.w:=by
     intro a' σ' hl' hh';refine ih _ a' σ' (by simp[hsz]) (fun k hk1 hk2=>?_) (fun k j hk hj hlk hah=>?_) (hle.trans hl') hh' hcount
     ·rw[W2 (by omega),if_neg (by omega)];exact htail k hk1 hk2
     ·rw[W2 (by omega)]at hlk ⊢
      by_cases hij:i=j
      ·rw[if_pos hij]
      ·rw[if_neg hij]
       by_cases hik:i=k
       ·subst hik;cases hb:listed.getD j true with
        |true=>rfl
        |false=>exact absurd hi (Y0 hah hb)
       ·rw[if_neg hik]at hlk;exact hcl k j hk hj hlk hah
    have hseen':∀t,a3t ops al.length (listed.setIfInBounds i true) t->(ops[i]?).bind (·.dst)≠some t->a3t ops al.length listed t:=by
     intro t ht hne k hk hkd;have:=ht k hk hkd;rw[W2 (by omega)]at this
     by_cases hik:i=k
     ·subst hik;exact absurd hkd hne
     ·rwa [if_neg hik]at this
    have hbind:(ops[i]?).bind (·.dst)=o.dst:=by rw[hoi];rfl
    have does:(∃av,c0n P ao.op F h av/\∀d,ao.dst=some d->get F d=some av)->Oper.wp P o a σ.w (wpAny P md ops Q f (listed.setIfInBounds i true)) Q:=by
     rintro⟨av,hqa,hfd⟩
     have hqa':aop P ao.op (c0l (a3t ops al.length listed) F) h (fun av' h'=>av'=av/\h'=h):=by
      rw[a6d (e1:=c0l (a3t ops al.length listed) F) (e2:=F)]
      ·exact hqa
      ·intro x hx;cases x with
       |c a=>rfl
       |t n=>
        refine hlook n ?_;simp only[C9.looks,List.mem_append,List.mem_filterMap];exact .inl ⟨.t n,hx,rfl⟩
     refine Oper.wp_mono (fun a' w' hb=>?_) (c2k hop hst hd hqa' Q);obtain⟨σ',h',av',rfl,l1,s1,rfl,rfl⟩:=hb;refine hnext a' σ' l1 ⟨s1.inv,?_,s1.size,s1.defers⟩;intro t bv hg;rw[P6]at hg;split at hg
     ·rename_i hs
      by_cases hdt:o.dst=some t
      ·have:=hfd t (by rw[hdst];exact hdt);rw[this]at hg;cases hg;exact s1.env t av' (by rw[I2,if_pos hdt])
      ·exact s1.env t bv (by rw[I2,if_neg hdt,P6,if_pos (hseen' t hs (by rw[hbind];exact hdt))];exact hg)
     ·cases hg
    unfold wpOp;rw[hoi];simp only;unfold d7p at hfact;rcases hguard with⟨hg1,hg2⟩|⟨j,b,t,hg1,hg2,hg3⟩
    ·have hw:Region.wanted o (yielded ops a.tmps)=true:=by simp[Region.wanted,hg1]
     rw[if_pos hw];rw[hg2]at hfact;exact .inl (does hfact)
    ·rw[hg2]at hfact
     have skip:(∀d,ao.dst=some d->get F d=some (.tuple []))->wpAny P md ops Q f (listed.setIfInBounds i true) (a.put o.dst undef) σ.w:=by
      intro hno;have s1:=hst.skipped o.dst hd;refine hnext _ σ (Le.refl σ) ⟨s1.inv,?_,s1.size,s1.defers⟩;intro u bv hg;rw[P6]at hg;split at hg
      ·rename_i hs
       by_cases hdt:o.dst=some u
       ·have:=hno u (by rw[hdst];exact hdt);rw[this]at hg;cases hg;exact s1.env u _ (by rw[M0,if_pos hdt])
       ·exact s1.env u bv (by rw[M0,if_neg hdt,P6,if_pos (hseen' u hs (by rw[hbind];exact hdt))];exact hg)
      ·cases hg
     rcases hfact with⟨c,hgt,hyes,hno⟩|⟨hgt,hno⟩
     ·have hy:yielded ops a.tmps j=some c:=b4k (env:=c0l (a3t ops al.length listed) F) hg3 hh.env (by rw[hlook t (by simp[C9.looks,hg2])];exact hgt)
      by_cases hcb:c=b
      ·have hw:Region.wanted o (yielded ops a.tmps)=true:=by simp[Region.wanted,hg1,hy,hcb]
       rw[if_pos hw];exact .inl (does (hyes hcb))
      ·have hw:Region.wanted o (yielded ops a.tmps)=false:=by simp[Region.wanted,hg1,hy,hcb]
       rw[hw];simp only[Bool.false_eq_true,if_false];exact skip (hno hcb)
     ·have hy:yielded ops a.tmps j=none:=a8s (env:=c0l (a3t ops al.length listed) F) hg3 hh.env (by rw[hlook t (by simp[C9.looks,hg2])];exact hgt);have hw:Region.wanted o (yielded ops a.tmps)=false:=by simp[Region.wanted,hg1,hy]
      rw[hw];simp only[Bool.false_eq_true,if_false];exact skip hno
def c4f(ops:Array Oper)(al:List C9):Bool:=
 c6g ops al.length al&&okq al&&decide (al.length<=ops.size)&&
 (List.range al.length).all fun i=>(List.range i).all fun j=> !(((ops[i]?).bind (·.dst)).isSome&&(ops[i]?).bind (·.dst)==(ops[j]?).bind (·.dst))
theorem c7l{id:Nat}{ops:Array Oper}{al tl:List C9}(hq:W9 P N ops (ops.toList.take al.length)=some al)(ht:W9 P N ops (ops.toList.drop al.length)=some tl)(hok:c4f ops al=true)
  {Q:Exit->Env->A3->Prop}(hs:St σ h env N a) (hv:vq P al env h fun F=>c9u P tl F h fun env' h'=>Q .normal env' h'):(Code.region id ops true).wp P (a7p σ N Q) a σ.w:=by
 simp only[c4f,Bool.and_eq_true,decide_eq_true_eq]at hok;obtain⟨⟨⟨h1,h2⟩,h3⟩,h4⟩:=hok;have ho:=c8p h1;obtain⟨F,k1,k2,k3⟩:=c32 al env h2 hv
 have huniq:∀i j t,(ops[i]?).bind (·.dst)=some t->(ops[j]?).bind (·.dst)=some t->i<al.length->j<al.length->i=j:=by
  have key:∀i j t,(ops[i]?).bind (·.dst)=some t->(ops[j]?).bind (·.dst)=some t->i<al.length->j<i->False:=by
   intro i j t hi hj hil hji;have:=List.all_eq_true.1 (List.all_eq_true.1 h4 i (List.mem_range.2 hil)) j (List.mem_range.2 hji);simp[hi,hj]at this
  intro i j t hi hj hil hjl
  by_cases h':i=j
  ·exact h'
  ·rcases Nat.lt_or_ge i j with hlt|hge
   ·exact(key j i t hj hi hjl hlt).elim
   ·exact(key i j t hi hj hil (by omega)).elim
 have hd:a54 σ.w {σ.w with drawn:=σ.w.drawn+1}:=⟨Nat.le_refl _,fun _ _=>rfl,rfl,rfl,rfl⟩
 let σ1:Sg:={σ with w:={σ.w with drawn:=σ.w.drawn+1}}
 have hle1:Le σ σ1:=Le.world hd;have hi1:Inv h σ1:=hs.inv.world hd;obtain⟨hlen,hget⟩:=a4l hq
 have every:∀md:Region.Mode,wpAny P md ops (a7p σ N Q) ops.size (Array.replicate ops.size false) a {σ.w with drawn:=σ.w.drawn+1}:=by
  intro md;refine d75 (σ₀:=σ1) hq h3 ho k3 huniq ?_ ops.size _ a σ1 (by simp) (fun i _ hi=>by simp[hi]) (fun k j hk _ hl _=>by simp[Nat.lt_of_lt_of_le hk h3]at hl) (Le.refl _) ?_ ?_
  ·intro σ2 a2 l2 s2;have hlen2:(ops.toList.drop al.length).length=ops.size - al.length:=by simp
   rw[<-hlen2];refine a36 (σ₀:=σ1) (K:=fun env' h'=>Q .normal env' h') (fun σ3 h3 env3 a3 l3 s3 q3=>⟨trivial,σ3,h3,env3,rfl,hle1.trans l3,s3,q3⟩) _ _ tl σ2 h F a2 (fun j hj=>?_) ht l2 s2 k1;rw[List.getElem?_drop,Array.getElem?_toList]
  ·refine⟨hi1,?_,hs.size,hs.defers⟩;intro t av hg;rw[P6]at hg;split at hg
   ·rename_i hsn
    have hw:E5 t al=false:=by
     cases hwb:E5 t al with
     |false=>rfl
     |true=>
      exfalso;unfold E5 at hwb;rw[List.any_eq_true]at hwb;obtain⟨o,hmem,hod⟩:=hwb;obtain⟨i,hi⟩:=List.mem_iff_getElem?.1 hmem;have hil:i<al.length:=(List.getElem?_eq_some_iff.1 hi).1;have hops:ops[i]? =some ops[i]:=Array.getElem?_eq_getElem (by omega);obtain⟨ao,hao,hco⟩:=hget i ops[i] (by rw[List.getElem?_take,if_pos hil];simpa using hops);rw[hi]at hao;cases hao;have:=(a3r hco).2.2.1;have hf:=hsn i hil (by rw[hops];simp only[Option.bind_some];rw[<-this];simpa using hod);simp[Array.getD_eq_getD_getElem?,Array.getElem?_replicate,show i<ops.size by omega]at hf
    rw[k2 t hw]at hg;obtain⟨x,q1,q2⟩:=hs.env t av hg;exact⟨x,q1,q2.mono hle1⟩
   ·cases hg
  ·simp
 refine wp_region_draw fun t=>?_
 unfold Region.schedule;split
 ·exact wpAny_sound ops.size t _ a _ (every .any)
 ·exact wpAny_sound ops.size (t / 2) _ a _ (every _)
end
def hA(h:A3)(az:List (Nat × List AV))(lst:Nat->Bool):A3:=⟨h.blks++az.map (fun p=>if lst p.1=true then some p.2 else none),h.bufs,h.globs⟩
def l9j(h:A3)(az:List (Nat × List AV))(hs:List A3)(lst:Nat->Bool):Nat->Option A3
 |0=>some (hA h az lst)
 |j+1=>hs[j+1]?
def d3c(P:Program)(F:Env)(h0:A3)(az:List (Nat × List AV))(hs:List A3)(ord:List (List Nat))(fl:List (Option Nat))(i:Nat)(o:C9):Option Nat->Prop
 |some n=>∃av h h',hs[n]? =some h/\hs[n+1]? =some h'/\aop P o.op F h (fun a b=>a=av/\b=h')/\∀d,o.dst=some d->get F d=some av
 |none=>∃av j0 j1,j0<hs.length/\(∀j lst h,j0<=j->j<=j1->l9j h0 az hs lst j=some h->c0n P o.op F h av)/\(∀k n:Nat,fl[k]? =some (some n)->n<j0->k∈ord.getD i [])/\(hs.length<=j1+1\/∃k:Nat,fl[k]? =some (some j1)/\i∈ord.getD k [])/\
  ∀d,o.dst=some d->get F d=some av
def d6m(P:Program)(F:Env)(h0:A3)(az:List (Nat × List AV))(hs:List A3)(ord:List (List Nat))(fl:List (Option Nat))(i:Nat)(o:C9)(n:Option Nat):Prop:=
 let skip:=n=none/\∀d,o.dst=some d->get F d=some (.tuple [])
 match o.guard with
 |none=>d3c P F h0 az hs ord fl i o n
 |some (t,want)=>(∃b,get F t=some (.v (.bool b))/\(b=want->d3c P F h0 az hs ord fl i o n)/\(b≠want->skip))\/(get F t=some (.tuple [])/\skip)
structure d3t(P:Program)(ord:List (List Nat))(al:List C9)(env F:Env)(h h':A3)(az:List (Nat × List AV))(hs:List A3)(fl:List (Option Nat)):Prop where
 len:fl.length=al.length
 chain:∀i k a b:Nat,i<k->fl[i]? =some (some a)->fl[k]? =some (some b)->a<b/\i∈ord.getD k []
 onto:∀j:Nat,j+1<hs.length->∃i:Nat,fl[i]? =some (some j)
 first:hs[0]? =some (hA h az fun _=>true)
 last:∃n,hs.length=n+1/\hs[n]? =some h'
 bound:∀i n:Nat,fl[i]? =some (some n)->n+1<hs.length
 keep:∀t,E5 t al=false->get F t=get env t
 new:∀(q:Nat) (p:Nat × List AV),az[q]? =some p->∃o,al[p.1]? =some o/\o.op=.alloc p.2/\o.guard=none/\fl[p.1]? =some none/\∀d,o.dst=some d->get F d=some (.ptr (h.blks.length+q) 0)
 inj:∀(q r:Nat) (p s:Nat × List AV),az[q]? =some p->az[r]? =some s->p.1=s.1->q=r
 afirst:∀(k n:Nat),fl[k]? =some (some n)->∀p∈az,p.1∈ord.getD k []
 fact:∀(i:Nat) (o:C9) (n:Option Nat),al[i]? =some o->fl[i]? =some n->(∃(q:Nat) (p:Nat × List AV),az[q]? =some p/\p.1=i)\/d6m P F h az hs ord fl i o n
section
variable {P:Program}{σ:Sg}{h:A3}{env:Env}{N:Nat}{a:Act}
theorem d09(hi:Inv h σ)(n:Nat):Inv ⟨h.blks++List.replicate n none,h.bufs,h.globs⟩ σ:=by
 have hget:∀(k:Nat) (c:List AV),(h.blks++List.replicate n none)[k]? =some (some c)->h.blks[k]? =some (some c):=by
  intro k c hk
  by_cases hl:k<h.blks.length
  ·rwa [List.getElem?_append_left hl]at hk
  ·rw[List.getElem?_append_right (by omega),List.getElem?_replicate]at hk;split at hk<;>cases hk
 exact {
  blk:=fun k c hk=>hi.blk k c (hget k c hk)
  dom:=fun k c hk=>by
   obtain⟨x,hx⟩:=hi.dom k c hk;exact⟨x,by rw[List.getElem?_append_left (hi.name hk)];exact hx⟩
  inj:=fun k m c x y hx hy=>hi.inj k m c x y (hget k x hx) (hget m y hy)
  buf:=hi.buf
  bufdom:=hi.bufdom
  bufle:=hi.bufle
  bufat:=hi.bufat
  bufun:=hi.bufun
  buflt:=hi.buflt
  bufinj:=hi.bufinj
  bufblk:=hi.bufblk
  outer:=hi.outer
  glob:=hi.glob}
theorem d8f(hi:Inv h σ){n:Nat}(hn:h.blks[n]? =some none){cells:List AV}(obj:Obj)(hnew:∀σ',Le σ σ'->σ'.w.heap[σ.w.heap.size]? =some obj->a2g σ' σ.w.heap.size cells):
  ∃σ',σ'.w=σ.w.alloc obj/\Le σ σ'/\Inv ⟨h.blks.set n (some cells),h.bufs,h.globs⟩ σ'/\Rel σ' (.ptr n 0) (.pointer (some ⟨σ.w.heap.size,0,none⟩)):=by
 have hl:n<h.blks.length:=(List.getElem?_eq_some_iff.1 hn).1
 have hf:σ.blk n=none:=by
  cases hb:σ.blk n with
  |none=>rfl
  |some b=>obtain⟨c,hc⟩:=hi.dom n b hb;rw[hn]at hc;cases hc
 let σ':Sg:={σ with w:=σ.w.alloc obj,blk:=fun m=>if m=n then some σ.w.heap.size else σ.blk m}
 have hp:=a54.alloc σ.w obj;have hslt:=hi.buflt;have hne:∀m b,σ.blk m=some b->m≠n:=by rintro m b hm rfl;rw[hf]at hm;cases hm
 have hold:∀m b,σ.blk m=some b->σ'.blk m=some b:=by
  intro m b hm;show(if m=n then some σ.w.heap.size else σ.blk m)=some b;rw[if_neg (hne m b hm)];exact hm
 have hinv:∀m b,σ'.blk m=some b->(m=n/\b=σ.w.heap.size)\/(m≠n/\σ.blk m=some b):=by
  intro m b hm;simp only[σ']at hm;split at hm
  ·cases hm;exact .inl ⟨‹_›,rfl⟩
  ·exact .inr ⟨‹_›,hm⟩
 have hle:Le σ σ':={
  blk:=hold
  buf:=fun _ e h=>⟨e,h,Nat.le_refl _,rfl,fun _=>rfl⟩
  outer:=rfl
  cell:=fun b o hb _=>L3 (hp.old b hb) o
  ext:=(Le.world (σ:=σ) hp).ext
  shape:=(Le.world (σ:=σ) hp).shape
  whole:=fun b hb _=>hp.old b hb
  own:=fun b o hb ho=>by
   rcases ho with⟨m,hm⟩|hx
   ·rcases hinv m b hm with⟨_,rfl⟩|⟨_,hm⟩
    ·omega
    ·exact .inl ⟨m,hm⟩
   ·exact .inr hx
  size:=hp.size
  os:=hp.os
  tape:=hp.tape
  output:=hp.output}
 have hget:∀(m:Nat) (c:List AV),(h.blks.set n (some cells))[m]? =some (some c)->(m=n/\c=cells)\/(m≠n/\h.blks[m]? =some (some c)):=by
  intro m c hm
  by_cases hmn:m=n
  ·subst hmn;rw[List.getElem?_set_self hl]at hm;cases hm;exact .inl ⟨rfl,rfl⟩
  ·rw[List.getElem?_set_ne (Ne.symm hmn)]at hm;exact .inr ⟨hmn,hm⟩
 refine⟨σ',rfl,hle,?_,.ptr _ _ _ (if_pos rfl)⟩
 exact {
  blk:=fun m c hm=>by
   rcases hget m c hm with⟨rfl,rfl⟩|⟨hmn,hm⟩
   ·exact⟨σ.w.heap.size,if_pos rfl,hnew σ' hle (heap_alloc_new _ _)⟩
   ·obtain⟨b,h1,h2⟩:=hi.blk m c hm;exact⟨b,hold m b h1,h2.keep hle (hp.old b h2.lt)⟩
  dom:=fun m b hm=>by
   rcases hinv m b hm with⟨rfl,rfl⟩|⟨hmn,hm⟩
   ·exact⟨cells,List.getElem?_set_self hl⟩
   ·obtain⟨c,hc⟩:=hi.dom m b hm;exact⟨c,by rw[List.getElem?_set_ne (Ne.symm hmn)];exact hc⟩
  inj:=fun m k b x y hx hy hx0 hy0 hm hk=>by
   rcases hinv m b hm with⟨m0,m2⟩|⟨m1,hm2⟩<;>rcases hinv k b hk with⟨k0,k2⟩|⟨k1,hk2⟩
   ·omega
   ·have:=hi.lt hk2;omega
   ·have:=hi.lt hm2;omega
   ·rcases hget m x hx with⟨h,_⟩|⟨_,hx⟩
    ·exact absurd h m1
    ·rcases hget k y hy with⟨h,_⟩|⟨_,hy⟩
     ·exact absurd h k1
     ·exact hi.inj m k b x y hx hy hx0 hy0 hm2 hk2
  buf:=hi.buf
  bufdom:=hi.bufdom
  bufle:=hi.bufle
  bufat:=(hi.world hp).bufat
  bufun:=(hi.world hp).bufun
  buflt:=(hi.world hp).buflt
  bufinj:=hi.bufinj
  bufblk:=fun id e m b o he hs hm=>by
   rcases hinv m b hm with⟨_,rfl⟩|⟨_,hm⟩
   ·have:=hslt id e _ o he hs;omega
   ·exact hi.bufblk id e m b o he hs hm
  outer:=fun b o ho=>by
   obtain⟨h1,h2⟩:=hi.outer b o ho;exact⟨Nat.lt_of_lt_of_le h1 hp.size,fun hx=>h2 (hle.own b o h1 hx)⟩
  glob:=fun g cells hg=>(hi.glob g cells hg).mono hle}
theorem f03{x:Option AOp}{y:AOp}(h:x.getD .bad=y)(hy:y≠.bad):x=some y:=by
 cases x with
 |none=>exact absurd h.symm hy
 |some z=>exact congrArg some h
theorem c4c{o:Oper}{cells:List AV}(hc:a7r P o=some (.alloc cells)):∃e,o.op=.alloc e:=by
 unfold a7r at hc;split at hc
 case h_4 e he=>exact⟨e,he⟩
 all_goals
  exfalso
  (try simp only[c2i]at hc)
  (repeat' (first|(cases hc;done)|(simp only[Option.bind_eq_some_iff,Option.map_eq_some_iff]at hc;done)|(obtain⟨_,_,hc⟩:=hc)|(split at hc)|(simp only[Option.bind_eq_some_iff,Option.map_eq_some_iff]at hc)))
theorem e0d{o:Oper}{cells:List AV}(hc:a7r P o=some (.alloc cells))(hs:St σ h env N a)(hd:∀d,o.dst=some d->d<N){n:Nat}(hn:h.blks[n]? =some none)(Q:Exit->Act->World->Prop):
  o.wp P a σ.w (fun a' w'=>∃σ',σ'.w=w'/\Le σ σ'/\St σ' ⟨h.blks.set n (some cells),h.bufs,h.globs⟩ (a79 env o.dst (.ptr n 0)) N a') Q:=by
 obtain⟨e,he⟩:=c4c hc;obtain⟨dst,op,type,pos,after,guard⟩:=o;simp only at he;subst he;simp only[a7r]at hc;split at hc
 ·cases hc
 simp only[Option.bind_eq_some_iff,Option.map_eq_some_iff,AOp.alloc.injEq]at hc;obtain⟨z,hz,zs,hzs,rfl⟩:=hc;obtain⟨σ',g1,g2,g3,g4⟩:=d8f hs.inv hn (cells:=zs) (.cells z.cells e) fun σ' hle hb=>.cells _ z.cells.toList [] e (by simpa using hb) ((V9 (σ:=σ) hzs).mono hle)
 unfold Oper.wp
 have hrun:(execOp a.eval ⟨dst,.alloc e,type,pos,after,guard⟩).run P σ.w=.ok (.value (.pointer (some ⟨σ.w.heap.size,0,none⟩))) σ'.w:=by
  rw[g1];simp[execOp,Instr.alloc,a1u hz,newVar,newRow]
 rw[hrun];exact⟨σ',rfl,g2,hs.put g2 g3 hd g4⟩
structure f9t(ops:Array Oper)(m:Nat)(F:Env)(h0:A3)(az:List (Nat × List AV))(hs:List A3)(fl:List (Option Nat))(j:Nat)(N:Nat)(listed:Array Bool)(σ:Sg)(a:Act):Prop where
 inv:∃h,l9j h0 az hs (fun k=>listed.getD k true) j=some h/\Inv h σ
 env:W7 σ (c0l (a3t ops m listed) F) a.tmps
 size:a.tmps.size=N
 defers:a.defers=[]
 nums:∀i n:Nat,fl[i]? =some (some n)->(listed.getD i true=true↔n<j)
 closed:∀k i:Nat,k<m->listed.getD k true=true->i∈(b0b ops m).getD k []->listed.getD i true=true
set_option maxHeartbeats 1000000 in
theorem d18{md:Region.Mode}{ops:Array Oper}{al:List C9}{env F:Env}{h h':A3}{az:List (Nat × List AV)}{hs:List A3}{fl:List (Option Nat)}(hq:W9 P N ops (ops.toList.take al.length)=some al)(hm:al.length<=ops.size)(ho:d35 ops al.length al)
  (hF:d3t P (clo (b0b ops al.length)) al env F h h' az hs fl)
  {Q:Exit->Act->World->Prop}{σ₀:Sg}(hend:∀σ a,Le σ₀ σ->St σ h' F N a->wpOps P ops Q (List.range' al.length (ops.size - al.length)) a σ.w):
  ∀(f:Nat) (listed:Array Bool) (a:Act) (σ:Sg) (j:Nat),listed.size=ops.size->(∀i,al.length<=i->i<ops.size->listed.getD i true=false)->Le σ₀ σ->f9t ops al.length F h az hs fl j N listed σ a->listed.toList.count false<=f->wpAny P md ops Q f listed a σ.w:=by
 obtain⟨hlen,hget⟩:=a4l hq;obtain⟨nl,hnl,hnl2⟩:=hF.last
 have hfin:∀(listed:Array Bool) (a:Act) (σ:Sg) (j:Nat),f9t ops al.length F h az hs fl j N listed σ a->(∀i,i<al.length->listed.getD i true=true)->St σ h' F N a:=by
  intro listed a σ j hh hall;obtain⟨hj,h1,h2⟩:=hh.inv
  have hjl:j<hs.length:=by
   cases j with
   |zero=>omega
   |succ j=>exact(List.getElem?_eq_some_iff.1 h1).1
  have hjn:j=nl:=by
   by_cases hlt:j+1<hs.length
   ·obtain⟨i,hi⟩:=hF.onto j hlt;have hil:i<al.length:=by rw[<-hF.len];exact(List.getElem?_eq_some_iff.1 hi).1
    have:=(hh.nums i j hi).1 (hall i hil);omega
   ·omega
  subst hjn
  have h1':hs[j]? =some hj:=by
   cases j with
   |succ j=>exact h1
   |zero=>
    rw[hF.first,<-h1];show some _=some _
    congr 1
    unfold hA
    congr 2
    apply List.map_congr_left;intro p hp;obtain⟨q,hq⟩:=List.mem_iff_getElem?.1 hp;obtain⟨o,ho1,_⟩:=hF.new q p hq;have hil:p.1<al.length:=(List.getElem?_eq_some_iff.1 ho1).1;simp only[hall p.1 hil]
  rw[hnl2]at h1';cases h1';exact⟨h2,fun t av hg=>hh.env t av (by rw[P6,if_pos (show a3t ops al.length listed t from fun k hk _=>hall k hk)];exact hg),hh.size,hh.defers⟩
 intro f
 induction f with
 |zero=>
  intro listed a σ j hsz htail hle hh hc
  have hall:∀i,i<ops.size->listed.getD i true=true:=by
   intro i hi;cases hb:listed.getD i true with
   |true=>rfl
   |false=>
    exfalso
    have hmem:false∈listed.toList:=by
     rw[List.mem_iff_getElem?];refine⟨i,?_⟩;have:listed[i]? =some listed[i]:=Array.getElem?_eq_getElem (by omega);simp only[Array.getD_eq_getD_getElem?,this,Option.getD_some]at hb;simp only[Array.getElem?_toList,this,hb]
    have:=List.count_pos_iff.2 hmem;omega
  have hmn:al.length=ops.size:=by
   by_cases he:al.length=ops.size
   ·exact he
   ·have:=htail al.length (Nat.le_refl _) (by omega);rw[hall _ (by omega)]at this;cases this
  have:=hend σ a hle (hfin listed a σ j hh fun i hi=>hall i (by omega));refine b62 ho 0 al.length listed a σ.w (Nat.le_refl _) hm (by omega) hsz (fun i hi=>by rw[hall i hi];simp;omega) this
 |succ f ih=>
  intro listed a σ j hsz htail hle hh hc
  by_cases hall:∀i,i<al.length->listed.getD i true=true
  ·refine b62 ho (f+1) al.length listed a σ.w (Nat.le_refl _) hm ?_ hsz (fun i hi=>?_) (hend σ a hle (hfin listed a σ j hh hall))
   ·have hcnt:ops.size - al.length<=listed.toList.count false:=by
     have hsplit:listed.toList=listed.toList.take al.length++listed.toList.drop al.length:=(List.take_append_drop _ _).symm;rw[hsplit,List.count_append]
     have hd:listed.toList.drop al.length=List.replicate (ops.size - al.length) false:=by
      apply List.eq_replicate_iff.2;refine⟨by simp[hsz],fun b hb=>?_⟩;obtain⟨i,hi⟩:=List.mem_iff_getElem?.1 hb;rw[List.getElem?_drop]at hi;have hlt:=(List.getElem?_eq_some_iff.1 hi).1;have:=htail (al.length+i) (by omega) (by simpa[hsz]using hlt);simp only[Array.getElem?_toList]at hi;simp only[Array.getD_eq_getD_getElem?,hi,Option.getD_some]at this;exact this
     rw[hd,List.count_replicate];simp
    omega
   ·by_cases him:i<al.length
    ·rw[hall i him];simp[him]
    ·rw[htail i (by omega) hi];simp[him]
  ·obtain⟨i0,hi0,hn0⟩:∃i,i<al.length/\listed.getD i true=false:=by
    false_or_by_contra
    rename_i hcon
    exact hall fun i hi=>by
     cases hb:listed.getD i true with
     |true=>rfl
     |false=>exact absurd ⟨i,hi,hb⟩ hcon
   refine⟨fun hnil=>?_,fun i hi=>?_⟩
   ·obtain⟨i,hi⟩:=b1c (md:=md) ho hsz ⟨i0,by omega,hn0⟩;rw[hnil]at hi;cases hi
   ·obtain⟨hun,o,hoi,hdeps⟩:=a1y.1 hi;have hin:=(Array.getElem?_eq_some_iff.1 hoi).1
    have him:i<al.length:=by
     by_cases h':i<al.length
     ·exact h'
     ·rcases ho.tail i hin (by omega) with h|⟨hmi,h⟩|⟨hmi,h⟩
      ·exact absurd hi (Y0 (h i0 (by omega)) hn0)
      ·exact absurd hi (Y0 h (htail (i - 1) (by omega) (by omega)))
      ·subst hmi;exact absurd hi (c50 h hi0 hn0 fun k j hk hj hl hah=>hh.closed k j hk hl (d7j hk hj hah))
    obtain⟨ao,hao,hco⟩:=hget i o (by rw[List.getElem?_take,if_pos him];simpa using hoi);obtain⟨hop,hd,hdst,hguard⟩:=a3r hco;obtain⟨fn,hfn⟩:∃fn,fl[i]? =some fn:=⟨_,List.getElem?_eq_getElem (by rw[hF.len];exact him)⟩
    have hfact:=hF.fact i ao fn hao hfn;obtain⟨hj,hjs,hinv⟩:=hh.inv
    have hjl:j<hs.length:=by
     cases j with
     |zero=>omega
     |succ j=>exact(List.getElem?_eq_some_iff.1 hjs).1
    have hnew:0<j->∀p∈az,listed.getD p.1 true=true:=by
     intro hj0 p hp;obtain⟨k,hk⟩:=hF.onto 0 (by omega);have hkm:k<al.length:=by rw[<-hF.len];exact(List.getElem?_eq_some_iff.1 hk).1
     exact a9o (L:=fun k=>listed.getD k true=true) hh.closed (k+1) k (by omega) hkm ((hh.nums k 0 hk).2 hj0) _ (hF.afirst k 0 hk p hp)
    have hcur:∀i,(∀p∈az,p.1≠i)->l9j h az hs (fun k=>(listed.setIfInBounds i true).getD k true) j=l9j h az hs (fun k=>listed.getD k true) j:=by
     intro i hi;cases j with
     |succ j=>rfl
     |zero=>
      show some _=some _
      congr 1
      unfold hA
      congr 2
      apply List.map_congr_left;intro p hp
      by_cases hil:i<listed.size
      ·have:=W2 (listed:=listed) (i:=i) (j:=p.1) (d:=true) hil;rw[if_neg (fun e=>hi p hp e.symm)]at this;simp only[this]
      ·have:listed.setIfInBounds i true=listed:=by simp[Array.setIfInBounds,hil]
       simp only[this]
    have hahead0:∀k,k∈(b0b ops al.length).getD i []->listed.getD k true=true:=by
     intro k hk;have ha:=(b21 hk).2;cases hb:listed.getD k true with
     |true=>rfl
     |false=>exact absurd hi (Y0 ha hb)
    have hahead:∀k,k∈(clo (b0b ops al.length)).getD i []->listed.getD k true=true:=by
     intro k hk;rcases d40 hk with h1|⟨j,h1,h2,h3⟩
     ·exact hahead0 k h1
     ·exact a9o (L:=fun k=>listed.getD k true=true) hh.closed (j+1) j (by omega) (b21 h1).1 (hahead0 j h1) _ h3
    have hsee:∀t∈ao.looks,a3t ops al.length listed t:=by
     intro t ht k hk hkd;have ha:=ho.head i ao him hao t ht k hk hkd;unfold a89 at ha;rw[hoi]at ha;simp only[Array.any_eq_true']at ha;obtain⟨e,he,hb⟩:=ha;simp only[Bool.and_eq_true,beq_iff_eq]at hb;have:=hdeps e he (c0a hb.1);rw[hb.2,b7g (by omega) false true]at this;exact this
    have hlook:∀t∈ao.looks,get (c0l (a3t ops al.length listed) F) t=get F t:=fun t ht=>by rw[P6,if_pos (hsee t ht)]
    have hst:St σ hj (c0l (a3t ops al.length listed) F) N a:=⟨hinv,hh.env,hh.size,hh.defers⟩
    have hcount:(listed.setIfInBounds i true).toList.count false<=f:=by
     have hget':listed.toList[i]'(by simp;omega)=false:=by
      have:listed[i]? =some listed[i]:=Array.getElem?_eq_getElem (by omega);simp only[Array.getD_eq_getD_getElem?,this,Option.getD_some]at hun;simpa using hun
     have:=List.count_set (a:=true) (b:=false) (l:=listed.toList) (i:=i) (by simp;omega);simp only[Array.toList_setIfInBounds];rw[this,hget'];have hp:0<listed.toList.count false:=List.count_pos_iff.2 (by rw[List.mem_iff_getElem];exact⟨i,by simp;omega,hget'⟩);show listed.toList.count false - 1+0<=f;omega
    have hnext:∀(a':Act) (σ':Sg) (j':Nat),Le σ σ'->f9t ops al.length F h az hs fl j' N (listed.setIfInBounds i true) σ' a'->wpAny P md ops Q f (listed.setIfInBounds i true) a' σ'.w:=by
     intro a' σ' j' hl' hh';refine ih _ a' σ' j' (by simp[hsz]) (fun k hk1 hk2=>?_) (hle.trans hl') hh' hcount;rw[W2 (by omega),if_neg (by omega)];exact htail k hk1 hk2
    have hseen':∀t,a3t ops al.length (listed.setIfInBounds i true) t->(ops[i]?).bind (·.dst)≠some t->a3t ops al.length listed t:=by
     intro t ht hne k hk hkd;have:=ht k hk hkd;rw[W2 (by omega)]at this
     by_cases hik:i=k
     ·subst hik;exact absurd hkd hne
     ·rwa [if_neg hik]at this
    have hbind:(ops[i]?).bind (·.dst)=o.dst:=by rw[hoi];rfl
    have hclosed:∀k l:Nat,k<al.length->(listed.setIfInBounds i true).getD k true=true->l∈(b0b ops al.length).getD k []->(listed.setIfInBounds i true).getD l true=true:=by
     intro k l hk hkl hl;rw[W2 (by omega)]
     by_cases hil:i=l
     ·rw[if_pos hil]
     ·rw[if_neg hil]
      by_cases hik:i=k
      ·subst hik;exact hahead0 l hl
      ·rw[W2 (by omega),if_neg hik]at hkl;exact hh.closed k l hk hkl hl
    have quietNums:fl[i]? =some none->∀k n:Nat,fl[k]? =some (some n)->((listed.setIfInBounds i true).getD k true=true↔n<j):=by
     intro hnone k n hk;have hik:i≠k:=by rintro rfl;rw[hnone]at hk;cases hk
     rw[W2 (by omega),if_neg hik];exact hh.nums k n hk
    have cong:∀K:AV->A3->Prop,aop P ao.op F hj K->aop P ao.op (c0l (a3t ops al.length listed) F) hj K:=by
     intro K hk;rw[a6d (e1:=c0l (a3t ops al.length listed) F) (e2:=F)]
     ·exact hk
     ·intro x hx;cases x with
      |c a=>rfl
      |t n=>
       refine hlook n ?_;simp only[C9.looks,List.mem_append,List.mem_filterMap];exact .inl ⟨.t n,hx,rfl⟩
    have envOK:∀(σ':Sg) (a':Act) (av:AV),W7 σ' (a79 (c0l (a3t ops al.length listed) F) o.dst av) a'.tmps->(∀d,ao.dst=some d->get F d=some av)->W7 σ' (c0l (a3t ops al.length (listed.setIfInBounds i true)) F) a'.tmps:=by
     intro σ' a' av he hfd t bv hg;rw[P6]at hg;split at hg
     ·rename_i hs
      by_cases hdt:o.dst=some t
      ·have:=hfd t (by rw[hdst];exact hdt);rw[this]at hg;cases hg;exact he t av (by rw[I2,if_pos hdt])
      ·exact he t bv (by rw[I2,if_neg hdt,P6,if_pos (hseen' t hs (by rw[hbind];exact hdt))];exact hg)
     ·cases hg
    by_cases hisA:∃(q:Nat) (p:Nat × List AV),az[q]? =some p/\p.1=i
    ·obtain⟨q,p,hqp,hpi⟩:=hisA;obtain⟨o',ho1,ho2,ho3,ho4,ho5⟩:=hF.new q p hqp;subst hpi;rw[hao]at ho1;cases ho1
     have hj0:j=0:=by
      by_cases hz:j=0
      ·exact hz
      ·have:=hnew (by omega) p (List.mem_of_getElem? hqp);rw[hun]at this;cases this
     subst hj0;have hjs':hj=hA h az fun k=>listed.getD k true:=(Option.some.inj hjs).symm
     have hslot:hj.blks[h.blks.length+q]? =some none:=by
      rw[hjs'];simp only[hA];rw[List.getElem?_append_right (by omega),Nat.add_sub_cancel_left,List.getElem?_map,hqp];simp only[Option.map_some,hun,Bool.false_eq_true,if_false]
     have heq:(⟨hj.blks.set (h.blks.length+q) (some p.2),hj.bufs,hj.globs⟩:A3)=hA h az fun k=>(listed.setIfInBounds p.1 true).getD k true:=by
      rw[hjs'];simp only[hA]
      congr 1
      rw[List.set_append_right _ _ (by omega),Nat.add_sub_cancel_left]
      congr 1
      apply List.ext_getElem?;intro r
      by_cases hrq:q=r
      ·subst hrq;have hl:q<az.length:=(List.getElem?_eq_some_iff.1 hqp).1;rw[List.getElem?_set_self (by simpa using hl),List.getElem?_map,hqp];simp only[Option.map_some];have:=W2 (listed:=listed) (i:=p.1) (j:=p.1) (d:=true) (by omega);rw[if_pos rfl]at this;simp only[this,if_true]
      ·rw[List.getElem?_set_ne hrq,List.getElem?_map,List.getElem?_map];cases hr:az[r]? with
       |none=>rfl
       |some s=>
        have:=W2 (listed:=listed) (i:=p.1) (j:=s.1) (d:=true) (by omega);rw[if_neg (fun e=>hrq (hF.inj q r p s hqp hr e))]at this;simp only[Option.map_some,this]
     unfold wpOp;rw[hoi];simp only
     have hw:Region.wanted o (yielded ops a.tmps)=true:=by
      rcases hguard with⟨hg1,_⟩|⟨_,_,_,_,hg2,_⟩
      ·simp[Region.wanted,hg1]
      ·rw[ho3]at hg2;cases hg2
     rw[if_pos hw];refine .inl (Oper.wp_mono (fun a' w' hb=>?_) (e0d (f03 (ho2▸hop) (by simp)) hst hd hslot Q));obtain⟨σ',rfl,l1,s1⟩:=hb;exact hnext a' σ' 0 l1 ⟨⟨_,rfl,by rw[<-heq];exact s1.inv⟩,envOK σ' a' _ s1.env ho5,s1.size,s1.defers,quietNums ho4,hclosed⟩
    have hni:∀p∈az,p.1≠i:=by
     intro p hp hpi;obtain⟨q,hq⟩:=List.mem_iff_getElem?.1 hp;exact hisA ⟨q,p,hq,hpi⟩
    have hfact:=hfact.resolve_left hisA
    have does:d3c P F h az hs (clo (b0b ops al.length)) fl i ao fn->Oper.wp P o a σ.w (wpAny P md ops Q f (listed.setIfInBounds i true)) Q:=by
     intro hdo;cases fn with
     |none=>
      obtain⟨av,j0,j1,hj0,hqa,hlo,hhi,hfd⟩:=hdo
      have h0:j0<=j:=by
       by_cases hlt:j0<=j
       ·exact hlt
       ·exfalso;have hb:j+1<hs.length:=by omega
        obtain⟨k,hk⟩:=hF.onto j hb;have:=hahead k (hlo k j hk (by omega));have:=(hh.nums k j hk).1 this;omega
      have h1:j<=j1:=by
       rcases hhi with hhi|⟨k,hk,hik⟩
       ·omega
       ·by_cases hlt:j<=j1
        ·exact hlt
        ·exfalso;have hkl:=(hh.nums k j1 hk).2 (by omega);have hkm:k<al.length:=by rw[<-hF.len];exact(List.getElem?_eq_some_iff.1 hk).1
         have:=a9o (L:=fun k=>listed.getD k true=true) hh.closed (k+1) k (by omega) hkm hkl _ hik;rw[hun]at this;cases this
      have hqa':=cong _ (hqa j _ hj h0 h1 hjs);refine Oper.wp_mono (fun a' w' hb=>?_) (c2k hop hst hd hqa' Q);obtain⟨σ',h',av',rfl,l1,s1,rfl,rfl⟩:=hb;exact hnext a' σ' j l1 ⟨⟨_,by rw[hcur i hni];exact hjs,s1.inv⟩,envOK σ' a' av' s1.env hfd,s1.size,s1.defers,quietNums hfn,hclosed⟩
     |some n=>
      obtain⟨av,h1,h2,e1,e2,hqa,hfd⟩:=hdo
      have hnj:¬n<j:=fun hlt=>by
       have:=(hh.nums i n hfn).2 hlt;rw[hun]at this;cases this
      have hnj2:n=j:=by
       by_cases he:n=j
       ·exact he
       ·exfalso;have hb:j+1<hs.length:=by have:=(List.getElem?_eq_some_iff.1 e2).1;omega
        obtain⟨k,hk⟩:=hF.onto j hb;have hki:k≠i:=by rintro rfl;rw[hfn]at hk;cases hk;exact he rfl
        rcases Nat.lt_or_ge k i with hlt|hge
        ·have:=hahead k (hF.chain k i j n hlt hk hfn).2;have:=(hh.nums k j hk).1 this;omega
        ·have:=(hF.chain i k n j (by omega) hfn hk).1;omega
      subst hnj2
      have hjs':hs[n]? =some hj:=by
       cases n with
       |succ n=>exact hjs
       |zero=>
        rw[hF.first,<-hjs];show some _=some _
        congr 1
        unfold hA
        congr 2
        apply List.map_congr_left;intro p hp;simp only[hahead p.1 (hF.afirst i 0 hfn p hp)]
      rw[hjs']at e1;cases e1;have hqa':=cong _ hqa;refine Oper.wp_mono (fun a' w' hb=>?_) (c2k hop hst hd hqa' Q);obtain⟨σ',h',av',rfl,l1,s1,rfl,rfl⟩:=hb;refine hnext a' σ' (n+1) l1 ⟨⟨_,e2,s1.inv⟩,envOK σ' a' av' s1.env hfd,s1.size,s1.defers,?_,hclosed⟩;intro k n' hk;rw[W2 (by omega)]
      by_cases hik:i=k
      ·subst hik;rw[hfn]at hk;cases hk;rw[if_pos rfl];simp
      ·rw[if_neg hik,hh.nums k n' hk]
       have hne:n'≠n:=by
        rintro rfl;rcases Nat.lt_or_ge i k with hlt|hge
        ·have:=(hF.chain i k n' n' hlt hfn hk).1;omega
        ·have:=(hF.chain k i n' n' (Nat.lt_of_le_of_ne hge (fun e=>hik e.symm)) hk hfn).1;exact absurd this (Nat.lt_irrefl _)
       omega
    unfold wpOp;rw[hoi];simp only
    have skip:(fn=none/\∀d,ao.dst=some d->get F d=some (.tuple []))->wpAny P md ops Q f (listed.setIfInBounds i true) (a.put o.dst undef) σ.w:=by
     rintro⟨rfl,hno⟩;have s1:=hst.skipped o.dst hd;refine hnext _ σ j (Le.refl σ) ⟨⟨_,by rw[hcur i hni];exact hjs,s1.inv⟩,?_,s1.size,s1.defers,quietNums hfn,hclosed⟩;intro u bv hg;rw[P6]at hg;split at hg
     ·rename_i hs
      by_cases hdt:o.dst=some u
      ·have:=hno u (by rw[hdst];exact hdt);rw[this]at hg;cases hg;exact s1.env u _ (by rw[M0,if_pos hdt])
      ·exact s1.env u bv (by rw[M0,if_neg hdt,P6,if_pos (hseen' u hs (by rw[hbind];exact hdt))];exact hg)
     ·cases hg
    unfold d6m at hfact;rcases hguard with⟨hg1,hg2⟩|⟨jg,b,t,hg1,hg2,hg3⟩
    ·have hw:Region.wanted o (yielded ops a.tmps)=true:=by simp[Region.wanted,hg1]
     rw[if_pos hw];rw[hg2]at hfact;exact .inl (does hfact)
    ·rw[hg2]at hfact;rcases hfact with⟨c,hgt,hyes,hno⟩|⟨hgt,hno⟩
     ·have hy:yielded ops a.tmps jg=some c:=b4k (env:=c0l (a3t ops al.length listed) F) hg3 hh.env (by rw[hlook t (by simp[C9.looks,hg2])];exact hgt)
      by_cases hcb:c=b
      ·have hw:Region.wanted o (yielded ops a.tmps)=true:=by simp[Region.wanted,hg1,hy,hcb]
       rw[if_pos hw];exact .inl (does (hyes hcb))
      ·have hw:Region.wanted o (yielded ops a.tmps)=false:=by simp[Region.wanted,hg1,hy,hcb]
       rw[hw];simp only[Bool.false_eq_true,if_false];exact skip (hno hcb)
     ·have hy:yielded ops a.tmps jg=none:=a8s (env:=c0l (a3t ops al.length listed) F) hg3 hh.env (by rw[hlook t (by simp[C9.looks,hg2])];exact hgt);have hw:Region.wanted o (yielded ops a.tmps)=false:=by simp[Region.wanted,hg1,hy]
      rw[hw];simp only[Bool.false_eq_true,if_false];exact skip hno
theorem c58{id:Nat}{ops:Array Oper}{al tl:List C9}(hq:W9 P N ops (ops.toList.take al.length)=some al)(ht:W9 P N ops (ops.toList.drop al.length)=some tl)(hok:c4f ops al=true)
  {Q:Exit->Env->A3->Prop}(hs:St σ h env N a) {F:Env}{h':A3}{az:List (Nat × List AV)}{hl:List A3}{fl:List (Option Nat)}(hn:d3t P (clo (b0b ops al.length)) al env F h h' az hl fl) (hv:c9u P tl F h' fun env' h'=>Q .normal env' h'):(Code.region id ops true).wp P (a7p σ N Q) a σ.w:=by
 simp only[c4f,Bool.and_eq_true,decide_eq_true_eq]at hok;obtain⟨⟨⟨h1,h2⟩,h3⟩,h4⟩:=hok;have ho:=c8p h1;have hd:a54 σ.w {σ.w with drawn:=σ.w.drawn+1}:=⟨Nat.le_refl _,fun _ _=>rfl,rfl,rfl,rfl⟩
 let σ1:Sg:={σ with w:={σ.w with drawn:=σ.w.drawn+1}}
 have hle1:Le σ σ1:=Le.world hd;have hi1:Inv h σ1:=hs.inv.world hd;obtain⟨hlen,hget⟩:=a4l hq;have hrep:∀i,i<ops.size->(Array.replicate ops.size false).getD i true=false:=fun i hi=>by simp[Array.getD_eq_getD_getElem?,Array.getElem?_replicate,hi]
 have every:∀md:Region.Mode,wpAny P md ops (a7p σ N Q) ops.size (Array.replicate ops.size false) a {σ.w with drawn:=σ.w.drawn+1}:=by
  intro md;refine d18 (σ₀:=σ1) hq h3 ho hn ?_ ops.size _ a σ1 0 (by simp) (fun i _ hi=>hrep i hi) (Le.refl _) ?_ ?_
  ·intro σ2 a2 l2 s2;have hlen2:(ops.toList.drop al.length).length=ops.size - al.length:=by simp
   rw[<-hlen2];refine a36 (σ₀:=σ1) (K:=fun env' h'=>Q .normal env' h') (fun σ3 h3 env3 a3 l3 s3 q3=>⟨trivial,σ3,h3,env3,rfl,hle1.trans l3,s3,q3⟩) _ _ tl σ2 h' F a2 (fun j hj=>?_) ht l2 s2 hv;rw[List.getElem?_drop,Array.getElem?_toList]
  ·refine⟨⟨_,rfl,?_⟩,?_,hs.size,hs.defers,?_,?_⟩
   ·have:hA h az (fun k=>(Array.replicate ops.size false).getD k true)=⟨h.blks++List.replicate az.length none,h.bufs,h.globs⟩:=by
     unfold hA
     congr 2
     apply List.ext_getElem?;intro q;rw[List.getElem?_map,List.getElem?_replicate];cases hq:az[q]? with
     |none=>
      have:az.length<=q:=List.getElem?_eq_none_iff.1 hq;rw[if_neg (by omega)];rfl
     |some p=>
      have hql:q<az.length:=(List.getElem?_eq_some_iff.1 hq).1;obtain⟨o,ho1,_⟩:=hn.new q p hq;have hil:p.1<al.length:=(List.getElem?_eq_some_iff.1 ho1).1;rw[if_pos hql];simp only[Option.map_some,hrep p.1 (show p.1<ops.size by omega)];rfl
    rw[this];exact d09 hi1 az.length
   ·intro t av hg;rw[P6]at hg;split at hg
    ·rename_i hsn
     have hw:E5 t al=false:=by
      cases hwb:E5 t al with
      |false=>rfl
      |true=>
       exfalso;unfold E5 at hwb;rw[List.any_eq_true]at hwb;obtain⟨o,hmem,hod⟩:=hwb;obtain⟨i,hi⟩:=List.mem_iff_getElem?.1 hmem;have hil:i<al.length:=(List.getElem?_eq_some_iff.1 hi).1;have hops:ops[i]? =some ops[i]:=Array.getElem?_eq_getElem (by omega);obtain⟨ao,hao,hco⟩:=hget i ops[i] (by rw[List.getElem?_take,if_pos hil];simpa using hops);rw[hi]at hao;cases hao;have:=(a3r hco).2.2.1;have hf:=hsn i hil (by rw[hops];simp only[Option.bind_some];rw[<-this];simpa using hod);rw[hrep i (by omega)]at hf;cases hf
     rw[hn.keep t hw]at hg;obtain⟨x,q1,q2⟩:=hs.env t av hg;exact⟨x,q1,q2.mono hle1⟩
    ·cases hg
   ·intro i n hi;have hil:i<al.length:=by rw[<-hn.len];exact(List.getElem?_eq_some_iff.1 hi).1
    rw[hrep i (by omega)];simp
   ·intro k i hil hkl;rw[hrep k (by omega)]at hkl;cases hkl
  ·simp
 refine wp_region_draw fun t=>?_
 unfold Region.schedule;split
 ·exact wpAny_sound ops.size t _ a _ (every .any)
 ·exact wpAny_sound ops.size (t / 2) _ a _ (every _)
end
def c71(ops:Array Oper):Nat:=((List.range (ops.size+1)).find? fun m=>(List.range ops.size).all fun i=>decide (i<m)||((List.range i).all fun j=>a89 ops i j)||(decide (m<i)&&a89 ops i (i - 1))||(decide (i=m)&&b2y ops m)).getD ops.size
def B8(P:Program)(N:Nat):Code->Option A0
 |.skip=>some .skip
 |.region _ ops false=>(W9 P N ops ops.toList).map .region
 |.region _ ops true=>(W9 P N ops (ops.toList.take (c71 ops))).bind fun al=>(W9 P N ops (ops.toList.drop (c71 ops))).bind fun tl=>
  if c4f ops al=true/\al.length=c71 ops then some (.drawn (b0b ops al.length) al tl) else none
 |.seq a b=>(B8 P N a).bind fun a=>(B8 P N b).map fun b=>.seq a b
 |.cond c a b=>(W5 c).bind fun c=>(B8 P N a).bind fun a=>(B8 P N b).map fun b=>.cond c a b
 |.block id a=>(B8 P N a).map fun a=>.block id a
 |.loop a=>(B8 P N a).map fun a=>.loop a
 |.exit id=>some (.exit id)
 |.ret=>some .ret
 |.scope a=>(B8 P N a).map .scope
 |.label l=>some (.label l)
 |.goto l=>some (.goto l)
 |_=>none
def a7w(P:Program)(N:Nat)(ac:A0)(Q:Exit->Env->A3->Prop)(env:Env)(h:A3):Prop:=
 ∀c,B8 P N c=some ac->∀(σ:Sg) (a:Act),St σ h env N a->c.wp P (a7p σ N Q) a σ.w
def c6l(K:Env->A3->Prop)(Q:Exit->Env->A3->Prop):Exit->Env->A3->Prop
 |.normal,env,h=>K env h
 |e,env,h=>Q e env h
def b28(id:Nat)(Q:Exit->Env->A3->Prop):Exit->Env->A3->Prop
 |.exit i,env,h=>if i=id then Q .normal env h else Q (.exit i) env h
 |e,env,h=>Q e env h
def c0v:Env->Env->Prop
 |[],_=>True
 |(t,av)::e,env=>get env t=some av/\c0v e env
theorem c0v.get{env:Env}:∀{e:Env},c0v e env->∀t av,Lift.get e t=some av->Lift.get env t=some av
 |[],_,t,av,h=>by simp[Lift.get]at h
 |(u,b)::e,h,t,av,hg=>by
  simp only[Lift.get]at hg;split at hg
  ·rename_i hu;subst hu;cases hg;exact h.1
  ·exact c0v.get h.2 t av hg
section
variable {P:Program}{N:Nat}{Q:Exit->Env->A3->Prop}{env:Env}{h:A3}
theorem a7p.up{σ σ':Sg}(hl:Le σ σ'){e:Exit}{a:Act}{w:World}(hh:a7p σ' N Q e a w):a7p σ N Q e a w:=by
 obtain⟨h1,σ2,h2,env2,q1,q2,q3,q4⟩:=hh;exact⟨h1,σ2,h2,env2,q1,hl.trans q2,q3,q4⟩
theorem c5h(hq:Q .normal env h):a7w P N .skip Q env h:=by
 intro c hc σ a hs;cases c<;>(try simp only[B8,Option.bind_eq_some_iff,Option.map_eq_some_iff]at hc)
 case skip=>exact wp_skip ⟨trivial,σ,h,env,rfl,Le.refl σ,hs,hq⟩
 case region id ops d=>
  cases d<;>simp only[B8,Option.bind_eq_some_iff,Option.map_eq_some_iff]at hc
  ·obtain⟨_,_,hx⟩:=hc;cases hx
  ·obtain⟨_,_,_,_,hx⟩:=hc;split at hx<;>cases hx
 all_goals first
  |(cases hc;done)
  |(obtain⟨_,_,hx⟩:=hc;cases hx;done)
  |(obtain⟨_,_,_,_,hx⟩:=hc;cases hx;done)
  |(obtain⟨_,_,_,_,_,_,hx⟩:=hc;cases hx;done)
theorem c5x{id:Nat}(hq:Q (.exit id) env h):a7w P N (.exit id) Q env h:=by
 intro c hc σ a hs;cases c<;>(try simp only[B8,Option.bind_eq_some_iff,Option.map_eq_some_iff]at hc)
 case exit=>cases hc;exact wp_exit ⟨trivial,σ,h,env,rfl,Le.refl σ,hs,hq⟩
 case region id ops d=>
  cases d<;>simp only[B8,Option.bind_eq_some_iff,Option.map_eq_some_iff]at hc
  ·obtain⟨_,_,hx⟩:=hc;cases hx
  ·obtain⟨_,_,_,_,hx⟩:=hc;split at hx<;>cases hx
 all_goals first
  |(cases hc;done)
  |(obtain⟨_,_,hx⟩:=hc;cases hx;done)
  |(obtain⟨_,_,_,_,hx⟩:=hc;cases hx;done)
  |(obtain⟨_,_,_,_,_,_,hx⟩:=hc;cases hx;done)
theorem c9o(hq:Q .ret env h):a7w P N .ret Q env h:=by
 intro c hc σ a hs;cases c<;>(try simp only[B8,Option.bind_eq_some_iff,Option.map_eq_some_iff]at hc)
 case ret=>exact wp_ret ⟨trivial,σ,h,env,rfl,Le.refl σ,hs,hq⟩
 case region id ops d=>
  cases d<;>simp only[B8,Option.bind_eq_some_iff,Option.map_eq_some_iff]at hc
  ·obtain⟨_,_,hx⟩:=hc;cases hx
  ·obtain⟨_,_,_,_,hx⟩:=hc;split at hx<;>cases hx
 all_goals first
  |(cases hc;done)
  |(obtain⟨_,_,hx⟩:=hc;cases hx;done)
  |(obtain⟨_,_,_,_,hx⟩:=hc;cases hx;done)
  |(obtain⟨_,_,_,_,_,_,hx⟩:=hc;cases hx;done)
theorem b9q{ops:List C9}(hv:c9u P ops env h (fun env' h'=>Q .normal env' h')):a7w P N (.region ops) Q env h:=by
 intro c hc σ a hs;cases c<;>(try simp only[B8,Option.bind_eq_some_iff,Option.map_eq_some_iff]at hc)
 case region id ops' d=>
  cases d<;>simp only[B8,Option.bind_eq_some_iff,Option.map_eq_some_iff]at hc
  ·obtain⟨al,hal,hx⟩:=hc;cases hx;refine wp_region ?_;have:=a36 (Q:=a7p σ N Q) (σ₀:=σ) (K:=fun env' h'=>Q .normal env' h') (fun σ3 h3 env3 a3 l3 s3 q3=>⟨trivial,σ3,h3,env3,rfl,l3,s3,q3⟩) ops'.toList 0 ops σ h env a (fun j hj=>by simp) hal (Le.refl σ) hs hv;rw[List.range_eq_range'];simpa using this
  ·obtain⟨_,_,_,_,hx⟩:=hc;split at hx<;>cases hx
 all_goals first
  |(cases hc;done)
  |(obtain⟨_,_,hx⟩:=hc;cases hx;done)
  |(obtain⟨_,_,_,_,hx⟩:=hc;cases hx;done)
  |(obtain⟨_,_,_,_,_,_,hx⟩:=hc;cases hx;done)
theorem c95{ord:List (List Nat)}{al tl:List C9}(hv:vq P al env h fun F=>c9u P tl F h fun env' h'=>Q .normal env' h'):a7w P N (.drawn ord al tl) Q env h:=by
 intro c hc σ a hs;cases c<;>(try simp only[B8,Option.bind_eq_some_iff,Option.map_eq_some_iff]at hc)
 case region id ops' d=>
  cases d<;>simp only[B8,Option.bind_eq_some_iff,Option.map_eq_some_iff]at hc
  ·obtain⟨_,_,hx⟩:=hc;cases hx
  ·obtain⟨al',hal,tl',htl,hx⟩:=hc;split at hx
   ·rename_i hcond;cases hx;obtain⟨c2,c3⟩:=hcond;rw[<-c3]at hal htl;exact c7l hal htl c2 hs hv
   ·cases hx
 all_goals first
  |(cases hc;done)
  |(obtain⟨_,_,hx⟩:=hc;cases hx;done)
  |(obtain⟨_,_,_,_,hx⟩:=hc;cases hx;done)
  |(obtain⟨_,_,_,_,_,_,hx⟩:=hc;cases hx;done)
theorem b7v{ord:List (List Nat)}{al tl:List C9}{F:Env}{h':A3}{az:List (Nat × List AV)}{hl:List A3}{fl:List (Option Nat)}(hn:d3t P (clo ord) al env F h h' az hl fl)(hv:c9u P tl F h' fun env' h'=>Q .normal env' h'):a7w P N (.drawn ord al tl) Q env h:=by
 intro c hc σ a hs;cases c<;>(try simp only[B8,Option.bind_eq_some_iff,Option.map_eq_some_iff]at hc)
 case region id ops' d=>
  cases d<;>simp only[B8,Option.bind_eq_some_iff,Option.map_eq_some_iff]at hc
  ·obtain⟨_,_,hx⟩:=hc;cases hx
  ·obtain⟨al',hal,tl',htl,hx⟩:=hc;split at hx
   ·rename_i hcond;cases hx;obtain⟨c2,c3⟩:=hcond;rw[<-c3]at hal htl;exact c58 hal htl c2 hs hn hv
   ·cases hx
 all_goals first
  |(cases hc;done)
  |(obtain⟨_,_,hx⟩:=hc;cases hx;done)
  |(obtain⟨_,_,_,_,hx⟩:=hc;cases hx;done)
  |(obtain⟨_,_,_,_,_,_,hx⟩:=hc;cases hx;done)
theorem d9m{x y:A0}(hx:a7w P N x (c6l (a7w P N y Q) Q) env h):a7w P N (.seq x y) Q env h:=by
 intro c hc σ a hs;cases c<;>(try simp only[B8,Option.bind_eq_some_iff,Option.map_eq_some_iff]at hc)
 case seq cx cy=>
  obtain⟨x',hx',y',hy',he⟩:=hc;cases he;refine wp_seq (wp_mono (hx cx hx' σ a hs) ?_);intro e a' w' hh;obtain⟨h1,σ2,h2,env2,rfl,q2,q3,q4⟩:=hh;cases e with
  |normal=>exact wp_mono (q4 cy hy' σ2 a' q3) fun e a w hh=>hh.up q2
  |panic _=>exact h1.elim
  |outgrown=>exact h1.elim
  |exit _=>exact⟨trivial,σ2,h2,env2,rfl,q2,q3,q4⟩
  |goto _=>exact⟨trivial,σ2,h2,env2,rfl,q2,q3,q4⟩
  |ret=>exact⟨trivial,σ2,h2,env2,rfl,q2,q3,q4⟩
 case region id ops d=>
  cases d<;>simp only[B8,Option.bind_eq_some_iff,Option.map_eq_some_iff]at hc
  ·obtain⟨_,_,hx⟩:=hc;cases hx
  ·obtain⟨_,_,_,_,hx⟩:=hc;split at hx<;>cases hx
 all_goals first
  |(cases hc;done)
  |(obtain⟨_,_,hx⟩:=hc;cases hx;done)
  |(obtain⟨_,_,_,_,hx⟩:=hc;cases hx;done)
  |(obtain⟨_,_,_,_,_,_,hx⟩:=hc;cases hx;done)
theorem d3a{c:G2}{x y:A0}(hv:wv (c.ev env) fun v=>match v with
  |.v (.bool b)=>(b=true->a7w P N x Q env h)/\(b=false->a7w P N y Q env h)
  |_=>False):a7w P N (.cond c x y) Q env h:=by
 intro cc hc σ a hs;cases cc<;>(try simp only[B8,Option.bind_eq_some_iff,Option.map_eq_some_iff]at hc)
 case cond co cx cy=>
  obtain⟨c',hc',x',hx',y',hy',he⟩:=hc;cases he;obtain⟨av,hr,hk⟩:=opd hs.env hc' hv;generalize hce:a.eval co=ce at hr;split at hk
  ·rename_i b;cases hr with
   |v _ _=>
   cases b with
   |true=>exact wp_cond_true hce (hk.1 rfl cx hx' σ a hs)
   |false=>exact wp_cond_false hce (hk.2 rfl cy hy' σ a hs)
  ·exact hk.elim
 case region id ops d=>
  cases d<;>simp only[B8,Option.bind_eq_some_iff,Option.map_eq_some_iff]at hc
  ·obtain⟨_,_,hx⟩:=hc;cases hx
  ·obtain⟨_,_,_,_,hx⟩:=hc;split at hx<;>cases hx
 all_goals first
  |(cases hc;done)
  |(obtain⟨_,_,hx⟩:=hc;cases hx;done)
  |(obtain⟨_,_,_,_,hx⟩:=hc;cases hx;done)
  |(obtain⟨_,_,_,_,_,_,hx⟩:=hc;cases hx;done)
theorem d0s{id:Nat}{x:A0}(hx:a7w P N x (b28 id Q) env h):a7w P N (.block id x) Q env h:=by
 intro c hc σ a hs;cases c<;>(try simp only[B8,Option.bind_eq_some_iff,Option.map_eq_some_iff]at hc)
 case block i cx=>
  obtain⟨x',hx',he⟩:=hc;cases he;refine wp_block (wp_mono (hx cx hx' σ a hs) ?_);intro e a' w' hh;obtain⟨h1,σ2,h2,env2,rfl,q2,q3,q4⟩:=hh;cases e with
  |panic _=>exact h1.elim
  |outgrown=>exact h1.elim
  |normal=>exact⟨trivial,σ2,h2,env2,rfl,q2,q3,q4⟩
  |goto _=>exact⟨trivial,σ2,h2,env2,rfl,q2,q3,q4⟩
  |ret=>exact⟨trivial,σ2,h2,env2,rfl,q2,q3,q4⟩
  |exit i=>
   simp only[b28]at q4;simp only[Exit.inBlock];split
   ·rename_i hi;rw[if_pos hi]at q4;exact⟨trivial,σ2,h2,env2,rfl,q2,q3,q4⟩
   ·rename_i hi;rw[if_neg hi]at q4;exact⟨trivial,σ2,h2,env2,rfl,q2,q3,q4⟩
 case region id ops d=>
  cases d<;>simp only[B8,Option.bind_eq_some_iff,Option.map_eq_some_iff]at hc
  ·obtain⟨_,_,hx⟩:=hc;cases hx
  ·obtain⟨_,_,_,_,hx⟩:=hc;split at hx<;>cases hx
 all_goals first
  |(cases hc;done)
  |(obtain⟨_,_,hx⟩:=hc;cases hx;done)
  |(obtain⟨_,_,_,_,hx⟩:=hc;cases hx;done)
  |(obtain⟨_,_,_,_,_,_,hx⟩:=hc;cases hx;done)
theorem d43{x:A0}(I:Nat->Env->A3->Prop)(n₀:Nat)(e₀:Env)(h₀:c0v e₀ env/\I n₀ e₀ h)
  (round:∀n e h,I n e h->a7w P N x (c6l (fun env' h'=>∃n' e',n'<n/\c0v e' env'/\I n' e' h') Q) e h):a7w P N (.loop x) Q env h:=by
 intro c hc σ a hs;cases c<;>(try simp only[B8,Option.bind_eq_some_iff,Option.map_eq_some_iff]at hc)
 case loop cx=>
  obtain⟨x',hx',he⟩:=hc;cases he;refine wp_loop_ghost (fun n a w=>∃σ' e h',σ'.w=w/\Le σ σ'/\St σ' h' e N a/\I n e h') n₀ ⟨σ,e₀,h,rfl,Le.refl σ,⟨hs.inv,fun t av hg=>hs.env t av (h₀.1.get t av hg),hs.size,hs.defers⟩,h₀.2⟩ ?_;rintro n a w ⟨σ',e,h',rfl,l1,s1,hI⟩;refine wp_mono (round n e h' hI cx hx' σ' a s1) ?_;intro ex a' w' hh;obtain⟨h1,σ2,h2,env2,rfl,q2,q3,q4⟩:=hh;cases ex with
  |panic _=>exact h1.elim
  |outgrown=>exact h1.elim
  |normal=>
   obtain⟨n',e',hn,hel,hI'⟩:=q4;exact⟨n',hn,σ2,e',h2,rfl,l1.trans q2,⟨q3.inv,fun t av hg=>q3.env t av (hel.get t av hg),q3.size,q3.defers⟩,hI'⟩
  |goto _=>exact⟨trivial,σ2,h2,env2,rfl,l1.trans q2,q3,q4⟩
  |ret=>exact⟨trivial,σ2,h2,env2,rfl,l1.trans q2,q3,q4⟩
  |exit i=>exact⟨trivial,σ2,h2,env2,rfl,l1.trans q2,q3,q4⟩
 case region id ops d=>
  cases d<;>simp only[B8,Option.bind_eq_some_iff,Option.map_eq_some_iff]at hc
  ·obtain⟨_,_,hx⟩:=hc;cases hx
  ·obtain⟨_,_,_,_,hx⟩:=hc;split at hx<;>cases hx
 all_goals first
  |(cases hc;done)
  |(obtain⟨_,_,hx⟩:=hc;cases hx;done)
  |(obtain⟨_,_,_,_,hx⟩:=hc;cases hx;done)
  |(obtain⟨_,_,_,_,_,_,hx⟩:=hc;cases hx;done)
theorem c5s{x:A0}{Q':Exit->Env->A3->Prop}(hx:a7w P N x Q env h)(hq:∀e env h,Q e env h->Q' e env h):a7w P N x Q' env h:=by
 intro c hc σ a hs;refine wp_mono (hx c hc σ a hs) ?_;rintro e a' w' ⟨h1,σ2,h2,env2,q1,q2,q3,q4⟩;exact⟨h1,σ2,h2,env2,q1,q2,q3,hq _ _ _ q4⟩
end
theorem c02{P:Program}{a:Act}{w:World}{Q:Exit->Act->World->Prop}{c rest:Code}(l:Nat)(J:Nat->Act->World->Prop)(hf:findLabel c l=some rest)
  (first:c.wp P (Exit.jump l (fun a w=>∃n,J n a w) Q) a w)
  (pass:∀n a w,J n a w->rest.wp P (Exit.jump l (fun a' w'=>∃n',n'<n/\J n' a' w') Q) a w):(Code.scope c).wp P Q a w:=by
 intro b k cs;have hg:gotoIn l (.inScope c::k)=some (.code rest::.inScope c::k):=by simp[gotoIn,hf]
 have key:∀n a w,J n a w->∃e a' w',Q e a' w'/\Arrives P (lone (b.at a (.code rest::.inScope c::k)) cs w) b k cs e a' w':=by
  intro n
  induction n using Nat.strongRecOn with
  |_ n ih=>
   intro a w hJ;obtain⟨e,a₁,w₁,hq,harr⟩:=pass n a w hJ b (.inScope c::k) cs;cases e with
   |normal=>exact⟨.normal,a₁,w₁,hq,Steps.trans harr (.one step_inScope)⟩
   |exit id=>exact⟨.exit id,a₁,w₁,hq,fun k' hk=>harr k' (by simp[exitTo,hk])⟩
   |goto l'=>
    obtain⟨rfl,n',hlt,hJ'⟩:=hq;obtain⟨e₂,a₂,w₂,hq₂,harr₂⟩:=ih n' hlt a₁ w₁ hJ';exact⟨e₂,a₂,w₂,hq₂,.of_steps (harr _ hg) harr₂⟩
   |ret=>exact⟨_,a₁,w₁,hq,harr⟩
   |panic ch=>exact⟨_,a₁,w₁,hq,harr⟩
   |outgrown=>exact⟨_,a₁,w₁,hq,harr⟩
 obtain⟨e,a₁,w₁,hq,harr⟩:=first b (.inScope c::k) cs;cases e with
 |normal=>exact⟨.normal,a₁,w₁,hq,.head step_scope (Steps.trans harr (.one step_inScope))⟩
 |exit id=>exact⟨.exit id,a₁,w₁,hq,fun k' hk=>.head step_scope (harr k' (by simp[exitTo,hk]))⟩
 |goto l'=>
  obtain⟨rfl,n',hJ'⟩:=hq;obtain⟨e₂,a₂,w₂,hq₂,harr₂⟩:=key n' a₁ w₁ hJ';exact⟨e₂,a₂,w₂,hq₂,.of_steps (.head step_scope (harr _ hg)) harr₂⟩
 |ret=>exact⟨_,a₁,w₁,hq,.of_steps (.one step_scope) harr⟩
 |panic ch=>exact⟨_,a₁,w₁,hq,.of_steps (.one step_scope) harr⟩
 |outgrown=>exact⟨_,a₁,w₁,hq,.of_steps (.one step_scope) harr⟩
def a6v:A0->Nat->Option A0
 |.seq a b,l=>match a6v a l with
  |some rest=>some (.seq rest b)
  |none=>a6v b l
 |.label l',l=>if l'==l then some .skip else none
 |_,_=>none
theorem c20{P:Program}{N:Nat}(l:Nat):∀{c:Code}{ac:A0},B8 P N c=some ac->
  (∀ar,a6v ac l=some ar->∃r,findLabel c l=some r/\B8 P N r=some ar)/\(a6v ac l=none->findLabel c l=none):=by
 intro c
 induction c with
 |seq x y ihx ihy=>
  intro ac hc;simp only[B8,Option.bind_eq_some_iff,Option.map_eq_some_iff]at hc;obtain⟨x',hx,y',hy,rfl⟩:=hc;obtain⟨f1,f2⟩:=ihx hx;obtain⟨g1,g2⟩:=ihy hy;simp only[a6v,findLabel];cases hax:a6v x' l with
  |some rx=>
   obtain⟨r,h1,h2⟩:=f1 rx hax;simp only[h1];refine⟨fun ar h=>?_,fun h=>by cases h⟩;cases h;exact⟨_,rfl,by simp[B8,h2,hy]⟩
  |none=>
   simp only[f2 hax];exact⟨g1,g2⟩
 |label l'=>
  intro ac hc;simp only[B8]at hc;cases hc;simp only[a6v,findLabel];split
  ·exact⟨fun ar h=>by cases h;exact⟨_,rfl,rfl⟩,fun h=>by cases h⟩
  ·exact⟨(fun ar h=>by cases h),fun _=>rfl⟩
 |region id ops d=>
  intro ac hc;cases d<;>simp only[B8,Option.bind_eq_some_iff,Option.map_eq_some_iff]at hc
  ·obtain⟨_,_,rfl⟩:=hc;exact⟨(fun ar h=>by simp[a6v]at h),fun _=>rfl⟩
  ·obtain⟨_,_,_,_,hx⟩:=hc;split at hx<;>cases hx
   exact⟨(fun ar h=>by simp[a6v]at h),fun _=>rfl⟩
 |_=>
  intro ac hc;simp only[B8,Option.bind_eq_some_iff,Option.map_eq_some_iff]at hc
  first
   |(cases hc;done)
   |(cases hc;exact⟨(fun ar h=>by simp[a6v]at h),fun _=>rfl⟩)
   |(obtain⟨_,_,rfl⟩:=hc;exact⟨(fun ar h=>by simp[a6v]at h),fun _=>rfl⟩)
   |(obtain⟨_,_,_,_,rfl⟩:=hc;exact⟨(fun ar h=>by simp[a6v]at h),fun _=>rfl⟩)
   |(obtain⟨_,_,_,_,_,_,rfl⟩:=hc;exact⟨(fun ar h=>by simp[a6v]at h),fun _=>rfl⟩)
def d1p(l:Nat)(J:Env->A3->Prop)(Q:Exit->Env->A3->Prop):Exit->Env->A3->Prop
 |.goto l',env,h=>l'=l/\J env h
 |e,env,h=>Q e env h
def c7v(Q:Exit->Env->A3->Prop):Exit->Env->A3->Prop
 |.goto _,_,_=>False
 |e,env,h=>Q e env h
section
variable {P:Program}{N:Nat}{Q:Exit->Env->A3->Prop}{env:Env}{h:A3}
theorem b27{c:Code}{x:A0}(hc:B8 P N c=some (.scope x)):∃c',c=.scope c'/\B8 P N c'=some x:=by
 cases c<;>(try simp only[B8,Option.bind_eq_some_iff,Option.map_eq_some_iff]at hc)
 case scope c'=>obtain⟨x',h1,h2⟩:=hc;cases h2;exact⟨c',rfl,h1⟩
 case region id ops d=>
  cases d<;>simp only[B8,Option.bind_eq_some_iff,Option.map_eq_some_iff]at hc
  ·obtain⟨_,_,hx⟩:=hc;cases hx
  ·obtain⟨_,_,_,_,hx⟩:=hc;split at hx<;>cases hx
 all_goals first
  |(cases hc;done)
  |(obtain⟨_,_,hx⟩:=hc;cases hx;done)
  |(obtain⟨_,_,_,_,hx⟩:=hc;cases hx;done)
  |(obtain⟨_,_,_,_,_,_,hx⟩:=hc;cases hx;done)
theorem c1h{l:Nat}(hq:Q .normal env h):a7w P N (.label l) Q env h:=by
 intro c hc σ a hs;cases c<;>(try simp only[B8,Option.bind_eq_some_iff,Option.map_eq_some_iff]at hc)
 case label=>exact wp_label ⟨trivial,σ,h,env,rfl,Le.refl σ,hs,hq⟩
 case region id ops d=>
  cases d<;>simp only[B8,Option.bind_eq_some_iff,Option.map_eq_some_iff]at hc
  ·obtain⟨_,_,hx⟩:=hc;cases hx
  ·obtain⟨_,_,_,_,hx⟩:=hc;split at hx<;>cases hx
 all_goals first
  |(cases hc;done)
  |(obtain⟨_,_,hx⟩:=hc;cases hx;done)
  |(obtain⟨_,_,_,_,hx⟩:=hc;cases hx;done)
  |(obtain⟨_,_,_,_,_,_,hx⟩:=hc;cases hx;done)
theorem c5e{l:Nat}(hq:Q (.goto l) env h):a7w P N (.goto l) Q env h:=by
 intro c hc σ a hs;cases c<;>(try simp only[B8,Option.bind_eq_some_iff,Option.map_eq_some_iff]at hc)
 case goto=>cases hc;exact wp_goto ⟨trivial,σ,h,env,rfl,Le.refl σ,hs,hq⟩
 case region id ops d=>
  cases d<;>simp only[B8,Option.bind_eq_some_iff,Option.map_eq_some_iff]at hc
  ·obtain⟨_,_,hx⟩:=hc;cases hx
  ·obtain⟨_,_,_,_,hx⟩:=hc;split at hx<;>cases hx
 all_goals first
  |(cases hc;done)
  |(obtain⟨_,_,hx⟩:=hc;cases hx;done)
  |(obtain⟨_,_,_,_,hx⟩:=hc;cases hx;done)
  |(obtain⟨_,_,_,_,_,_,hx⟩:=hc;cases hx;done)
theorem d05{x:A0}(hx:a7w P N x (c7v Q) env h):a7w P N (.scope x) Q env h:=by
 intro c hc σ a hs;obtain⟨c',rfl,hc'⟩:=b27 hc;refine wp_scope_straight (wp_mono (hx c' hc' σ a hs) ?_);rintro e a' w' ⟨h1,σ2,h2,env2,rfl,q2,q3,q4⟩;cases e with
 |panic _=>exact h1.elim
 |outgrown=>exact h1.elim
 |goto _=>exact q4.elim
 |normal=>exact⟨trivial,σ2,h2,env2,rfl,q2,q3,q4⟩
 |ret=>exact⟨trivial,σ2,h2,env2,rfl,q2,q3,q4⟩
 |exit i=>exact⟨trivial,σ2,h2,env2,rfl,q2,q3,q4⟩
theorem d0x{x rest:A0}(l:Nat)(hf:a6v x l=some rest)(I:Nat->Env->A3->Prop)
  (first:a7w P N x (d1p l (fun env' h'=>∃n e,c0v e env'/\I n e h') Q) env h)
  (pass:∀n e h,I n e h->a7w P N rest (d1p l (fun env' h'=>∃n' e',n'<n/\c0v e' env'/\I n' e' h') Q) e h):a7w P N (.scope x) Q env h:=by
 intro c hc σ a hs;obtain⟨c',rfl,hc'⟩:=b27 hc;obtain⟨r,hr,hrc⟩:=(c20 l hc').1 rest hf;refine c02 l (fun n a w=>∃σ' e h',σ'.w=w/\Le σ σ'/\St σ' h' e N a/\I n e h') hr (wp_mono (first c' hc' σ a hs) ?_) ?_
 ·rintro e a' w' ⟨h1,σ2,h2,env2,rfl,q2,q3,q4⟩;cases e with
  |panic _=>exact h1.elim
  |outgrown=>exact h1.elim
  |goto l'=>
   obtain⟨rfl,n,e,hel,hI⟩:=q4;exact⟨rfl,n,σ2,e,h2,rfl,q2,⟨q3.inv,fun t av hg=>q3.env t av (hel.get t av hg),q3.size,q3.defers⟩,hI⟩
  |normal=>exact⟨trivial,σ2,h2,env2,rfl,q2,q3,q4⟩
  |ret=>exact⟨trivial,σ2,h2,env2,rfl,q2,q3,q4⟩
  |exit i=>exact⟨trivial,σ2,h2,env2,rfl,q2,q3,q4⟩
 ·rintro n a w ⟨σ',e,h',rfl,l1,s1,hI⟩;refine wp_mono (pass n e h' hI r hrc σ' a s1) ?_;rintro e a' w' ⟨h1,σ2,h2,env2,rfl,q2,q3,q4⟩;cases e with
  |panic _=>exact h1.elim
  |outgrown=>exact h1.elim
  |goto l'=>
   obtain⟨rfl,n',e',hn,hel,hI'⟩:=q4;exact⟨rfl,n',hn,σ2,e',h2,rfl,l1.trans q2,⟨q3.inv,fun t av hg=>q3.env t av (hel.get t av hg),q3.size,q3.defers⟩,hI'⟩
  |normal=>exact⟨trivial,σ2,h2,env2,rfl,l1.trans q2,q3,q4⟩
  |ret=>exact⟨trivial,σ2,h2,env2,rfl,l1.trans q2,q3,q4⟩
  |exit i=>exact⟨trivial,σ2,h2,env2,rfl,l1.trans q2,q3,q4⟩
end
mutual
def plain:AV->Bool
 |.v _=>true
 |.ptr _ _=>false
 |.elt cells _=>plainL cells
 |.nil=>true
 |.sl els tok=>(match tok with|.own _=>false|_=>true)&&plainLL els
 |.agg cells=>plainL cells
 |.tuple vs=>plainL vs
 |.iface _ x=>plain x
 |.clo _ first captured=>plainL first&&plainL captured
 |.glob _=>true
 |.row _ _ _ _ _=>false
 |.it _ _=>false
 |.mp _=>false
 |.bb _ _ _=>false
 |.ps _ _=>false
def plainL:List AV->Bool
 |[]=>true
 |a::r=>plain a&&plainL r
def plainLL:List (List AV)->Bool
 |[]=>true
 |a::r=>plainL a&&plainLL r
end
theorem J9:∀{l:List AV},plainL l=true->∀(i:Nat) (av:AV),l[i]? =some av->plain av=true
 |[],_,i,av,h=>by simp at h
 |a::r,hp,i,av,h=>by
  simp only[plainL,Bool.and_eq_true]at hp;cases i with
  |zero=>simp at h;subst h;exact hp.1
  |succ i=>exact J9 hp.2 i av (by simpa using h)
theorem a1s:∀{l:List (List AV)},plainLL l=true->∀(i:Nat) (el:List AV),l[i]? =some el->plainL el=true
 |[],_,i,av,h=>by simp at h
 |a::r,hp,i,av,h=>by
  simp only[plainLL,Bool.and_eq_true]at hp;cases i with
  |zero=>simp at h;subst h;exact hp.1
  |succ i=>exact a1s hp.2 i av (by simpa using h)
theorem D1{α:Type}(f:α->List AV)(l:List α)(h:∀x∈l,plainL (f x)=true):plainLL (l.map f)=true:=by
 induction l with
 |nil=>rfl
 |cons x l ih=>simp only[List.map_cons,plainLL,Bool.and_eq_true];exact⟨h x (by simp),ih fun y hy=>h y (by simp[hy])⟩
def bare(w:World)(outer:Nat->Nat->Prop):Sg:=⟨w,fun _=>none,fun _=>none,outer⟩
theorem a9s(w:World)(outer:Nat->Nat->Prop)(b o:Nat):¬(bare w outer).own b o:=by
 rintro (⟨n,h⟩|⟨id,e,h,_⟩)<;>cases h
theorem a84(w:World)(outer:Nat->Nat->Prop)(b o:Nat):(bare w outer).open_ b o↔outer b o:=⟨fun h=>h.elim id fun h=>(a9s w outer b o h).elim,.inl⟩
def c0x(w:World)(outer:Nat->Nat->Prop)(gl:List (Nat × List AV)):Prop:=∀g cells,(g,cells)∈gl->Rel (bare w outer) (.elt cells 0) (.pointer (some ⟨g,0,none⟩))
theorem c90{w:World}{outer:Nat->Nat->Prop}{gl:List (Nat × List AV)}(h:∀b o,outer b o->b<w.heap.size)(hg:c0x w outer gl):Inv ⟨[],[],gl⟩ (bare w outer) where
 blk n cells hn:=by simp at hn
 dom n b hn:=by cases hn
 inj n m b c c' hc hc' _ _ hn:=by cases hn
 buf id c hc:=by simp at hc
 bufdom id e he:=by cases he
 bufle id e he:=by cases he
 bufat id e b o he:=by cases he
 bufun id e b o he:=by cases he
 buflt id e b o he:=by cases he
 bufinj i j e f b o he:=by cases he
 bufblk id e n b o he:=by cases he
 outer b o ho:=⟨h b o ho,a9s w outer b o⟩
 glob:=hg
theorem Rel.down{σ:Sg}{av:AV}{x:Value}(hr:Rel σ av x):plain av=true->∀{w:World}{outer:Nat->Nat->Prop},w=σ.w->(∀b o,outer b o->σ.open_ b o)->Rel (bare w outer) av x:=by
 intro hp w outer hw ho;subst hw
 induction hr with
 |v x hx=>exact .v x hx
 |ptr n off b hb=>simp[plain]at hp
 |elt cells off b o xs hc _ ih=>
  simp only[plain]at hp;exact .elt cells off b o xs (fun i av hi=>⟨(hc i av hi).1,fun h=>(hc i av hi).2.1 (ho _ _ ((a84 _ _ _ _).1 h)),(hc i av hi).2.2⟩) fun i av hi=>ih i av hi (J9 hp i av hi)
 |nil=>exact .nil
 |glob n=>exact .glob n
 |mp n b hb=>simp[plain]at hp
 |bbn _=>simp[plain]at hp
 |bbo _ _ _ _ _ _ _ _=>simp[plain]at hp
 |bbd _ _ _ _ _ _ _ _ _ _=>simp[plain]at hp
 |bbr _ _ _ _ _ _ _ _=>simp[plain]at hp
 |ps _ _ _ _ _ _ _=>simp[plain]at hp
 |row n off size len capm b cap hb hc hm hx=>simp[plain]at hp
 |sl0 tok ht=>
  refine .sl0 tok ?_;cases tok with
  |no=>trivial
  |full=>exact ht
  |own id=>simp[plain]at hp
 |slx tok a cap ht hc=>
  refine .slx tok a cap ?_ hc;cases tok with
  |no=>trivial
  |full=>exact ht
  |own id=>simp[plain]at hp
 |sl els tok b o cap size xs hs hcap ht hz hc _ ih=>
  simp only[plain,Bool.and_eq_true]at hp;refine .sl els tok b o cap size xs hs hcap ?_ ?_ (fun i el hi j av hj=>⟨(hc i el hi j av hj).1,fun h=>(hc i el hi j av hj).2.1 (ho _ _ ((a84 _ _ _ _).1 h)),(hc i el hi j av hj).2.2⟩) fun i el hi j av hj=>ih i el hi j av hj (J9 (a1s hp.2 i el hi) j av hj)
  ·cases tok with
   |no=>trivial
   |full=>exact ht
   |own id=>simp at hp
  ·intro id e hid he;cases he
 |agg cells xs hn hc x hx _ ih=>simp only[plain]at hp;exact .agg cells xs hn hc x hx fun i av hi=>ih i av hi (J9 hp i av hi)
 |tuple vs xs hn x hx _ ih=>simp only[plain]at hp;exact .tuple vs xs hn x hx fun i av hi=>ih i av hi (J9 hp i av hi)
 |iface t av x _ ih=>simp only[plain]at hp;exact .iface t av x (ih hp)
 |clo fn first captured fs cs hn hm x y hx hy _ _ ih1 ih2=>
  simp only[plain,Bool.and_eq_true]at hp;exact .clo fn first captured fs cs hn hm x y hx hy (fun i av hi=>ih1 i av hi (J9 hp.1 i av hi)) fun i av hi=>ih2 i av hi (J9 hp.2 i av hi)
theorem Rel.up{σ σ₁:Sg}{av:AV}{x:Value}(hr:Rel σ₁ av x):(∀n,σ₁.blk n=none)->(∀n,σ₁.buf n=none)->σ₁.w=σ.w->(∀b o,σ.open_ b o->σ₁.open_ b o)->Rel σ av x:=by
 intro hb hbuf hw ho
 induction hr with
 |v x hx=>exact .v x hx
 |ptr n off b h=>rw[hb]at h;cases h
 |elt cells off b o xs hc _ ih=>exact .elt cells off b o xs (fun i av hi=>⟨by rw[<-hw];exact(hc i av hi).1,fun h=>(hc i av hi).2.1 (ho _ _ h),(hc i av hi).2.2⟩) ih
 |nil=>exact .nil
 |glob n=>exact .glob n
 |mp n b h=>rw[hb]at h;cases h
 |bbn u=>exact .bbn u
 |bbo id els u a n cap _ hu ih=>exact .bbo id els u a n cap ih (hw▸hu)
 |bbd id els u a p n cap _ hu hp ih=>exact .bbd id els u a p n cap ih (hw▸hu) hp
 |bbr id n u b cap hn he hu=>obtain⟨e,h,_⟩:=he;rw[hbuf]at h;cases h
 |ps n t b p h hs hp=>rw[hb]at h;cases h
 |row n off size len capm b cap h hc hm hx=>rw[hb]at h;cases h
 |sl0 tok ht=>
  refine .sl0 tok ?_;cases tok with
  |no=>trivial
  |full=>exact ht
  |own id=>obtain⟨e,h,_⟩:=ht;rw[hbuf]at h;cases h
 |slx tok a cap ht hc=>
  refine .slx tok a cap ?_ hc;cases tok with
  |no=>trivial
  |full=>exact ht
  |own id=>obtain⟨e,h,_⟩:=ht;rw[hbuf]at h;cases h
 |sl els tok b o cap size xs hs hcap ht hz hc _ ih=>
  refine .sl els tok b o cap size xs hs hcap ?_ ?_ (fun i el hi j av hj=>⟨by rw[<-hw];exact(hc i el hi j av hj).1,fun h=>(hc i el hi j av hj).2.1 (ho _ _ h),(hc i el hi j av hj).2.2⟩) ih
  ·cases tok with
   |no=>trivial
   |full=>exact ht
   |own id=>obtain⟨e,h,_⟩:=ht;rw[hbuf]at h;cases h
  ·intro id e hid he;subst hid;obtain⟨e',h,_⟩:=ht;rw[hbuf]at h;cases h
 |agg cells xs hn hc x hx _ ih=>exact .agg cells xs hn hc x hx ih
 |tuple vs xs hn x hx _ ih=>exact .tuple vs xs hn x hx ih
 |iface t av x _ ih=>exact .iface t av x ih
 |clo fn first captured fs cs hn hm x y hx hy _ _ ih1 ih2=>exact .clo fn first captured fs cs hn hm x y hx hy ih1 ih2
def N0:Nat->A3->AV->AV
 |0,_,a=>a
 |k+1,h,a=>match a with
  |.row n off size len cap=>match c0y h n off size len with
   |some els=>.sl (els.map fun el=>el.map fun c=>N0 k h (wk1 c)) .no
   |none=>a
  |.sl els tok=>.sl (els.map fun el=>el.map fun c=>N0 k h (wk1 c)) tok
  |.agg cells=>.agg (cells.map fun c=>N0 k h (wk1 c))
  |.tuple vs=>.tuple (vs.map fun c=>N0 k h (wkA c))
  |a=>a
theorem d06:∀(k:Nat) (h:A3) (a:AV),(N0 k h a).isCell=a.isCell
 |0,_,_=>rfl
 |k+1,h,a=>by
  cases a with
  |row n off size len cap=>
   simp only[N0];cases c0y h n off size len<;>rfl
  |_=>rfl
theorem S4{f:AV->AV}{l:List AV}(h:plainL (l.map f)=true){i:Nat}{a:AV}(ha:l[i]? =some a):plain (f a)=true:=J9 h i _ (by rw[List.getElem?_map,ha];rfl)
theorem Rel.thaw{h:A3}{σ:Sg}(hi:Inv h σ):∀(k:Nat) (av:AV) (x:Value),Rel σ av x->plain (N0 k h av)=true->Rel (bare σ.w σ.outer) (N0 k h av) x:=by
 have hout:∀b o,σ.outer b o->σ.open_ b o:=fun b o ho=>.inl ho
 intro k
 induction k with
 |zero=>intro av x hr hp;exact hr.down hp rfl hout
 |succ k ih=>
  intro av x hr hp;have cell:∀(c:AV) (y:Value),Rel σ c y->plain (N0 k h (Lift.wk1 c))=true->Rel (bare σ.w σ.outer) (N0 k h (Lift.wk1 c)) y:=fun c y hc hpc=>ih _ _ hc.wk1 hpc
  have iscell:∀c,(N0 k h (Lift.wk1 c)).isCell=c.isCell:=fun c=>by rw[d06,c79]
  cases hr with
  |row n off size len capm b cap hb hc hm hx=>
   simp only[N0]at hp ⊢;cases hra:c0y h n off size len with
   |none=>rw[hra]at hp;simp[plain]at hp
   |some els=>
    rw[hra]at hp;simp only[plain,Bool.true_and]at hp
    by_cases hlen:len=0
    ·subst hlen;simp only[c0y,if_true,Option.some.injEq]at hra;subst hra;exact .slx _ _ _ trivial (.inl rfl)
    simp only[c0y,if_neg hlen]at hra;split at hra
    ·rename_i cells hcs;split at hra
     ·rename_i hcond;obtain⟨hno,hle⟩:=hcond;simp only[Option.some.injEq]at hra;obtain⟨b',hb',hbk⟩:=hi.blk n cells hcs;rw[hb]at hb';cases hb';obtain⟨cs,rest,elem,hheap,hcc⟩:=hbk.plain hno;have hsub:=hcc.sub off (len*size) hle;have hl:((cells.drop off).take (len*size)).length=len*size:=by simp;omega
      obtain⟨c1,c2,c3⟩:=b4t size len _ hl;rw[hra]at c1 c2 c3
      have hown:∀o,¬(bare σ.w σ.outer).open_ b o:=by
       intro o ho;exact(hi.outer b o ((a84 _ _ _ _).1 ho)).2 (.inl ⟨n,hb⟩)
      have key:∀(i:Nat) (el:List AV),els[i]? =some el->∀(j:Nat) (av:AV),el[j]? =some av->∃y,σ.w.cell? ⟨b,off+i*size+j,none⟩=some y/\Rel σ av y/\av.isCell=true:=by
       intro i el hiel j av hj;have hel:el.length=size:=c2 el (List.mem_of_getElem? hiel);have hjl:j<size:=by rw[<-hel];exact(List.getElem?_eq_some_iff.1 hj).1
       have hf:=a68 els c2 i j hjl;rw[hiel,Option.bind_some,hj,c1]at hf;obtain⟨hcell,y,hy,hrel⟩:=hsub.2 _ av hf;refine⟨y,?_,hrel,hcell⟩;rw[List.getElem?_take]at hy;split at hy
       ·rw[List.getElem?_drop]at hy;have hlt:=(List.getElem?_eq_some_iff.1 hy).1;rw[Q3 hheap,<-Array.getElem?_toList,List.toList_toArray,Nat.add_assoc,List.getElem?_append_left hlt];exact hy
       ·cases hy
      have:=Rel.sl (σ:=bare σ.w σ.outer) (els.map fun el=>el.map fun c=>N0 k h (Lift.wk1 c)) .no b off cap size (fun i j=>(σ.w.cell? ⟨b,off+i*size+j,none⟩).getD undef)
       (fun i el hiel=>by
        simp only[List.getElem?_map,Option.map_eq_some_iff]at hiel;obtain⟨el',h1,rfl⟩:=hiel;rw[List.length_map];exact c2 el' (List.mem_of_getElem? h1))
       (by rw[List.length_map,c3];exact hc) trivial (fun id e hid=>by cases hid)
       (fun i el hiel j av hj=>by
        simp only[List.getElem?_map,Option.map_eq_some_iff]at hiel;obtain⟨el',h1,rfl⟩:=hiel;simp only[List.getElem?_map,Option.map_eq_some_iff]at hj;obtain⟨av',h2,rfl⟩:=hj;obtain⟨y,k1,k2,k3⟩:=key i el' h1 j av' h2;exact⟨by show σ.w.cell? _=_;rw[k1];rfl,hown _,by rw[iscell];exact k3⟩)
       (fun i el hiel j av hj=>by
        simp only[List.getElem?_map,Option.map_eq_some_iff]at hiel;obtain⟨el',h1,rfl⟩:=hiel;simp only[List.getElem?_map,Option.map_eq_some_iff]at hj;obtain⟨av',h2,rfl⟩:=hj;obtain⟨y,k1,k2,k3⟩:=key i el' h1 j av' h2;rw[k1];exact cell av' y k2 (S4 (f:=fun c=>N0 k h (Lift.wk1 c)) (a1s hp i _ (by rw[List.getElem?_map,h1];rfl)) h2))
      rw[List.length_map,c3]at this;exact this
     ·cases hra
    ·cases hra
  |sl0 tok ht=>
   simp only[N0,List.map_nil]at hp ⊢;exact(Rel.sl0 tok ht).down hp rfl hout
  |slx tok a cap ht hc=>
   simp only[N0,List.map_nil]at hp ⊢;exact(Rel.slx tok a cap ht hc).down hp rfl hout
  |sl els tok b o cap size xs hs hcap ht hz hc hr=>
   simp only[N0,plain,Bool.and_eq_true]at hp ⊢
   have:=Rel.sl (σ:=bare σ.w σ.outer) (els.map fun el=>el.map fun c=>N0 k h (Lift.wk1 c)) tok b o cap size xs
    (fun i el hiel=>by
     simp only[List.getElem?_map,Option.map_eq_some_iff]at hiel;obtain⟨el',h1,rfl⟩:=hiel;rw[List.length_map];exact hs i el' h1)
    (by rw[List.length_map];exact hcap)
    (by
     rw[List.length_map];cases tok with
     |no=>trivial
     |full=>exact ht
     |own id=>simp at hp)
    (fun id e hid he=>by cases he)
    (fun i el hiel j av hj=>by
     simp only[List.getElem?_map,Option.map_eq_some_iff]at hiel;obtain⟨el',h1,rfl⟩:=hiel;simp only[List.getElem?_map,Option.map_eq_some_iff]at hj;obtain⟨av',h2,rfl⟩:=hj;obtain⟨k1,k2,k3⟩:=hc i el' h1 j av' h2;exact⟨k1,fun h=>k2 (.inl ((a84 _ _ _ _).1 h)),by rw[iscell];exact k3⟩)
    (fun i el hiel j av hj=>by
     simp only[List.getElem?_map,Option.map_eq_some_iff]at hiel;obtain⟨el',h1,rfl⟩:=hiel;simp only[List.getElem?_map,Option.map_eq_some_iff]at hj;obtain⟨av',h2,rfl⟩:=hj;exact cell av' _ (hr i el' h1 j av' h2) (S4 (f:=fun c=>N0 k h (Lift.wk1 c)) (a1s hp.2 i _ (by rw[List.getElem?_map,h1];rfl)) h2))
   rw[List.length_map]at this;exact this
  |agg cells xs hn hc x hx hr=>
   simp only[N0,plain]at hp ⊢;refine .agg _ xs (by rw[List.length_map];exact hn) (fun i av hiv=>?_) x (fun i av hiv=>?_) (fun i av hiv=>?_)
   all_goals
    simp only[List.getElem?_map,Option.map_eq_some_iff]at hiv;obtain⟨av',h2,rfl⟩:=hiv
   ·rw[iscell];exact hc i av' h2
   ·exact hx i av' h2
   ·exact cell av' _ (hr i av' h2) (S4 hp h2)
  |tuple vs xs hn x hx hr=>
   simp only[N0,plain]at hp ⊢;refine .tuple _ xs (by rw[List.length_map];exact hn) x (fun i av hiv=>?_) (fun i av hiv=>?_)
   all_goals
    simp only[List.getElem?_map,Option.map_eq_some_iff]at hiv;obtain⟨av',h2,rfl⟩:=hiv
   ·exact hx i av' h2
   ·exact ih _ _ (hr i av' h2).wkA (S4 hp h2)
  |v x hx=>exact .v x hx
  |ptr n off b hb=>simp[N0,plain]at hp
  |mp n b hb=>simp[N0,plain]at hp
  |bbn _=>simp[N0,plain]at hp
  |bbo _ _ _ _ _ _ _ _=>simp[N0,plain]at hp
  |bbd _ _ _ _ _ _ _ _ _=>simp[N0,plain]at hp
  |bbr _ _ _ _ _ _ _ _=>simp[N0,plain]at hp
  |ps _ _ _ _ _ _ _=>simp[N0,plain]at hp
  |elt cells off b o xs hc hr=>exact(Rel.elt cells off b o xs hc hr).down hp rfl hout
  |nil=>exact .nil
  |glob n=>exact .glob n
  |iface t av x hr=>exact(Rel.iface t av x hr).down hp rfl hout
  |clo fn first captured fs cs hn hm x y hx hy h1 h2=>exact(Rel.clo fn first captured fs cs hn hm x y hx hy h1 h2).down hp rfl hout
def isV:AV->Bool
 |.v _=>true
 |.agg cells=>cells.all fun|.v _=>true|_=>false
 |_=>false
def e0r:AV->Bool
 |.tuple vs=>vs.all isV
 |a=>isV a
theorem d2b{σ σ':Sg}{av:AV}{x:Value}(hv:isV av=true)(hr:Rel σ av x):Rel σ' av x:=by
 cases hr<;>simp only[isV]at hv<;>(try (cases hv;done))
 case v hx=>exact .v _ hx
 case agg cells xs hn hc x hx hr=>
  refine .agg cells xs hn hc x hx fun i av hiv=>?_
  have:=List.all_eq_true.1 hv av (List.mem_of_getElem? hiv);have h1:=hr i av hiv;cases av<;>simp at this
  cases h1 with
  |v _ h=>exact .v _ h
theorem d1r{σ σ':Sg}{av:AV}{x:Value}(hv:e0r av=true)(hr:Rel σ av x):Rel σ' av x:=by
 by_cases ht:∃vs,av=.tuple vs
 ·obtain⟨vs,rfl⟩:=ht;cases hr with
  |tuple vs xs hn x hx hr=>
   simp only[e0r]at hv;exact .tuple vs xs hn x hx fun i av hiv=>d2b (List.all_eq_true.1 hv av (List.mem_of_getElem? hiv)) (hr i av hiv)
 ·refine d2b ?_ hr;cases av with
  |tuple vs=>exact absurd ⟨vs,rfl⟩ ht
  |_=>exact hv
def b6h(P:Program)(gl:List (Nat × List AV))(f:FuncId)(args:List AV)(R:AV->Prop):Prop:=
 c3o P f/\∀(w:World) (outer:Nat->Nat->Prop) (cargs:Array Value),(∀b o,outer b o->b<w.heap.size)->c0x w outer gl->b7b (bare w outer) args cargs.toList->
  Calls P f cargs w fun e w'=>∃av x,e=.returned x/\a54 w w'/\Rel (bare w' outer) av x/\R av
def J8(gl:List (Nat × List AV)):Bool:=gl.all fun p=>plainL p.2
theorem b2o{P:Program}{f:FuncId}{args args':List AV}{R:AV->Prop}{h:A3}{K:AV->A3->Prop}(hf:b6h P h.globs f args R)(hgl:J8 h.globs=true)(ha:args'.map wk=args)(hp:plainL args=true)(hk:∀av,R av->K av h):b0d P f args' h K:=by
 refine⟨hf.1,fun σ cargs hi hr=>?_⟩
 have hopen:∀b o,σ.open_ b o->b<σ.w.heap.size:=by
  rintro b o (ho|⟨n,hn⟩|⟨id,e,he,hs⟩)
  ·exact(hi.outer b o ho).1
  ·exact hi.lt hn
  ·exact hi.buflt id e b o he hs
 have hrels:b7b (bare σ.w σ.open_) args cargs.toList:=by
  refine⟨by rw[hr.1,<-ha];simp,fun i av hav=>?_⟩;have hav':=hav;rw[<-ha]at hav;simp only[List.getElem?_map,Option.map_eq_some_iff]at hav;obtain⟨b,hb,rfl⟩:=hav;obtain⟨x,h1,h2⟩:=hr.2 i b hb;exact⟨x,h1,h2.wk.down (J9 hp i _ hav') rfl fun _ _ h=>h⟩
 have hglobs:c0x σ.w σ.open_ h.globs:=fun g cells hg=>(hi.glob g cells hg).down (by simp only[plain];exact List.all_eq_true.1 hgl _ hg) rfl fun _ _ h=>h
 refine(hf.2 σ.w σ.open_ cargs hopen hglobs hrels).mono fun e w' hq=>?_
 obtain⟨av,x,rfl,hpast,hrel,hR⟩:=hq;exact⟨{σ with w:=w'},h,av,x,rfl,rfl,Le.world hpast,hi.world hpast,hrel.up (fun _=>rfl) (fun _=>rfl) rfl (fun b o ho=>.inl ho),hk av hR⟩
theorem b9f{P:Program}{f:FuncId}{args args':List AV}{R:AV->Prop}{h:A3}{K:AV->A3->Prop}(k:Nat)(hf:b6h P h.globs f args R)(hgl:J8 h.globs=true)(ha:args'.map (fun a=>N0 k h (wk a))=args)(hp:plainL args=true)(hv:∀av,R av->e0r av=true)(hk:∀av,R av->K av h):b0d P f args' h K:=by
 refine⟨hf.1,fun σ cargs hi hr=>?_⟩
 have hrels:b7b (bare σ.w σ.outer) args cargs.toList:=by
  refine⟨by rw[hr.1,<-ha];simp,fun i av hav=>?_⟩;have hav':=hav;rw[<-ha]at hav;simp only[List.getElem?_map,Option.map_eq_some_iff]at hav;obtain⟨b,hb,rfl⟩:=hav;obtain⟨x,h1,h2⟩:=hr.2 i b hb;exact⟨x,h1,Rel.thaw hi k _ _ h2.wk (J9 hp i _ hav')⟩
 have hglobs:c0x σ.w σ.outer h.globs:=fun g cells hg=>(hi.glob g cells hg).down (by simp only[plain];exact List.all_eq_true.1 hgl _ hg) rfl fun _ _ h=>.inl h
 refine(hf.2 σ.w σ.outer cargs (fun b o ho=>(hi.outer b o ho).1) hglobs hrels).mono fun e w' hq=>?_
 obtain⟨av,x,rfl,hpast,hrel,hR⟩:=hq;exact⟨{σ with w:=w'},h,av,x,rfl,rfl,Le.world hpast,hi.world hpast,d1r (hv av hR) hrel,hk av hR⟩
inductive b0j where
 |tmp (t:Nat)
 |cell (t:Nat) (n:Option Nat)
def a9c(P:Program):List ResultVar->Option (List b0j)
 |[]=>some []
 |.tmp t::r=>(a9c P r).map fun l=>.tmp t::l
 |.cell a t::r=>(a1v P t).bind fun n=>(a9c P r).map fun l=>.cell a n::l
def c4w(env:Env)(h:A3):List b0j->(List AV->Prop)->Prop
 |[],K=>K []
 |.tmp t::r,K=>wv (get env t) fun av=>c4w env h r fun l=>K (av::l)
 |.cell t n::r,K=>wv (get env t) fun p=>a8g h n p fun av=>c4w env h r fun l=>K (av::l)
def c36:List AV->AV
 |[a]=>a
 |l=>.tuple l
def B0(P:Program)(f:FuncId):Option (Nat × A0 × List b0j):=
 (P.funcs[f]?).bind fun fn=>fn.body.bind fun c=>(B8 P fn.ntmps c).bind fun ac=>(a9c P fn.results.toList).bind fun rs=>if fn.name== "runtime.NumGoroutine" then none else some (fn.ntmps,ac,rs)
theorem c18{P:Program}{f:FuncId}{N:Nat}{ac:A0}{rs:List b0j}(h:B0 P f=some (N,ac,rs)):
  ∃fn c,P.funcs[f]? =some fn/\fn.body=some c/\fn.ntmps=N/\B8 P N c=some ac/\a9c P fn.results.toList=some rs/\(fn.name== "runtime.NumGoroutine")=false:=by
 simp only[B0,Option.bind_eq_some_iff]at h;obtain⟨fn,h1,c,h2,ac',h3,rs',h4,h5⟩:=h;split at h5
 ·cases h5
 ·rename_i hn;cases h5;exact⟨fn,c,h1,h2,rfl,h3,h4,by simpa using hn⟩
def b0a:Nat->List AV->Env
 |_,[]=>[]
 |k,a::r=>(k,a)::b0a (k+1) r
theorem c5y:∀(l:List AV) (k t:Nat) (av:AV),get (b0a k l) t=some av->k<=t/\l[t - k]? =some av
 |[],k,t,av,h=>by simp[b0a,get]at h
 |a::r,k,t,av,h=>by
  simp only[b0a,get]at h;split at h
  ·rename_i hk;subst hk;cases h;simp
  ·rename_i hk;obtain⟨h1,h2⟩:=c5y r (k+1) t av h;refine⟨by omega,?_⟩;rw[show t - k=(t - (k+1))+1 by omega];simpa using h2
def c1a(rs:List b0j)(K:AV->A3->Prop)(e:Exit)(env:Env)(h:A3):Prop:=
 match e with
 |.normal|.ret=>c4w env h rs fun l=>K (c36 l) h
 |_=>False
section
variable {P:Program}{σ:Sg}{h:A3}{env:Env}{N:Nat}{a:Act}
theorem c72(hi:Inv h σ){tmps:Array Value}(he:W7 σ env tmps):∀{rl:List ResultVar}{rs:List b0j},a9c P rl=some rs->∀{K:List AV->Prop},c4w env h rs K->
  ∃l xs,K l/\xs.length=l.length/\(∀(i:Nat) (av:AV),l[i]? =some av->∃x,xs[i]? =some x/\Rel σ av x)/\
   (rl.mapM fun(r:ResultVar)=>(match r with|.tmp t=>pure (tmps.getD t undef)|.cell a t=>do loadVar t (<-asAddr (tmps.getD a undef)):Sem Value)).run P σ.w=.ok xs σ.w
 |[],rs,hc,K,hk=>by simp[a9c]at hc;subst hc;exact⟨[],[],hk,rfl,fun i av h=>by simp at h,rfl⟩
 |.tmp t::r,rs,hc,K,hk=>by
  simp only[a9c,Option.map_eq_some_iff]at hc;obtain⟨rs',hr,rfl⟩:=hc;obtain⟨av,hg,hk⟩:=a7i hk;obtain⟨x,h1,h2⟩:=he t av hg;obtain⟨l,xs,q1,q2,q3,q4⟩:=c72 hi he hr hk;refine⟨av::l,x::xs,q1,by simp[q2],fun i b hb=>?_,?_⟩
  ·cases i with
   |zero=>simp at hb;subst hb;exact⟨x,rfl,h2⟩
   |succ i=>exact q3 i b (by simpa using hb)
  ·have:tmps.getD t undef=x:=by simp[h1]
   simp only[List.mapM_cons,Sem.run_bind,Sem.run_pure,Result.andThen_ok,this];rw[q4];rfl
 |.cell a t::r,rs,hc,K,hk=>by
  simp only[a9c,Option.bind_eq_some_iff,Option.map_eq_some_iff]at hc;obtain⟨n,hn,rs',hr,rfl⟩:=hc;obtain⟨p,hg,hk⟩:=a7i hk;obtain⟨px,h1,h2⟩:=he a p hg;obtain⟨av,y,hk,hrel,hload⟩:=d3w (P:=P) hi hn h2 hk;obtain⟨l,xs,q1,q2,q3,q4⟩:=c72 hi he hr hk;refine⟨av::l,y::xs,q1,by simp[q2],fun i b hb=>?_,?_⟩
  ·cases i with
   |zero=>simp at hb;subst hb;exact⟨y,rfl,hrel⟩
   |succ i=>exact q3 i b (by simpa using hb)
  ·have hpx:tmps.getD a undef=px:=by simp[h1]
   have hp:∃ad,px=.pointer (some ad):=by
    cases h2<;>first|exact⟨_,rfl⟩|(simp[a8g,V4]at hk)|skip
    all_goals (rename_i hk0;simp[a8g,V4]at hk0)
   obtain⟨ad,rfl⟩:=hp;have hl2:(loadVar t ad).run P σ.w=.ok y σ.w:=by simpa[Instr.loadAt,Instr.sureAddr]using hload
   have ha2:(asAddr (.pointer (some ad))).run P σ.w=.ok ad σ.w:=rfl;simp only[List.mapM_cons,Sem.run_bind,hpx,ha2,Sem.run_pure,Result.andThen_ok,hl2];rw[q4];rfl
theorem b7j{f:FuncId}{ac:A0}{rs:List b0j}(hf:B0 P f=some (N,ac,rs)){args:List AV}{K:AV->A3->Prop}(hn:args.length<=N)
  (hbody:a7w P N ac (c1a rs K) (b0a 0 args) h):∀(σ:Sg) (cargs:Array Value),Inv h σ->b7b σ args cargs.toList->
  Calls P f cargs σ.w fun e w'=>∃σ' h' av x,e=.returned x/\σ'.w=w'/\Le σ σ'/\Inv h' σ'/\Rel σ' av x/\K av h':=by
 intro σ cargs hi hr;obtain⟨fn,c,h1,h2,h3,h4,h5,h6⟩:=c18 hf;have hsz:cargs.size=args.length:=by simpa using hr.1
 have hst:St σ h (b0a 0 args) N {tmps:=cargs++Array.replicate (fn.ntmps - cargs.size) undef,defers:=[]}:=by
  refine⟨hi,fun t av hg=>?_,by simp;omega,rfl⟩;obtain⟨_,g2⟩:=c5y args 0 t av hg;obtain⟨x,q1,q2⟩:=hr.2 _ av g2;refine⟨x,?_,q2⟩;simp only[Nat.sub_zero]at q1
  have hlt:t<cargs.size:=by
   have:=(List.getElem?_eq_some_iff.1 q1).1;simpa using this
  simp only[Array.getElem?_toList]at q1;simp[Array.getElem?_append_left hlt,q1]
 refine calls_of_wp h1 h2 (wp_mono (hbody c h4 σ _ hst) ?_);intro e a' w' hh;obtain⟨g1,σ2,h2',env2,rfl,q2,q3,q4⟩:=hh
 have fin:(c4w env2 h2' rs fun l=>K (c36 l) h2')->a'.defers=[]/\∃v,(results fn a'.tmps).run P σ2.w=.ok v σ2.w/\∃σ' h' av x,Ending.returned v=.returned x/\σ'.w=σ2.w/\Le σ σ'/\Inv h' σ'/\Rel σ' av x/\K av h':=by
  intro ho;obtain⟨l,xs,k1,k2,k3,k4⟩:=c72 (P:=P) q3.inv q3.env h5 ho
  have hrun:(fn.results.mapM fun(r:ResultVar)=>(match r with|.tmp t=>pure (a'.tmps.getD t undef)|.cell a t=>do loadVar t (<-asAddr (a'.tmps.getD a undef)):Sem Value)).run P σ2.w=.ok xs.toArray σ2.w:=by
   rw[Array.mapM_eq_mapM_toList];simp only[Sem.run_map,k4,Result.andThen_ok]
  have hres:(results fn a'.tmps).run P σ2.w=.ok (if hx:xs.toArray.size=1 then xs.toArray[0] else .tuple xs.toArray) σ2.w:=by
   unfold results;rw[Sem.run_bind];have:=hrun;refine Eq.trans (congrArg (fun r=>Result.andThen r _) this) ?_;simp only[Result.andThen_ok,Sem.run_pure]
  refine⟨q3.defers,_,hres,σ2,h2',c36 l,_,rfl,rfl,q2,q3.inv,?_,k1⟩
  match l,xs,k2,k3 with
  |[b],[y],_,k3=>
   obtain⟨x,e1,e2⟩:=k3 0 b rfl;simp at e1;subst e1;simpa[c36]using e2
  |[],[],_,_=>exact Rel.tuple_mk rfl fun i av hi=>by simp at hi
  |b1::b2::l,y1::y2::xs,k2,k3=>
   rw[dif_neg (by simp)]
   exact Rel.tuple_mk (by simpa using k2) fun i av hi=>by
    obtain⟨x,e1,e2⟩:=k3 i av hi;exact⟨x,by simpa using e1,e2⟩
 cases e with
 |normal=>exact fin q4
 |ret=>exact fin q4
 |panic _=>exact g1.elim
 |outgrown=>exact g1.elim
 |exit _=>exact q4.elim
 |goto _=>exact q4.elim
theorem a66{f:FuncId}{ac:A0}{rs:List b0j}(hf:B0 P f=some (N,ac,rs)):c3o P f:=by
 obtain⟨fn,c,h1,h2,_,_,_,h6⟩:=c18 hf;exact⟨fn,h1,by rw[h2];rfl,h6⟩
theorem f0l{f:FuncId}{ac:A0}{rs:List b0j}(hf:B0 P f=some (N,ac,rs)){args:List AV}{K:AV->A3->Prop}(hn:args.length<=N)
  (hbody:a7w P N ac (c1a rs K) (b0a 0 args) h):b0d P f args h K:=⟨a66 hf,b7j hf hn hbody⟩
theorem d5n{gl:List (Nat × List AV)}{f:FuncId}{ac:A0}{rs:List b0j}(hf:B0 P f=some (N,ac,rs)){args:List AV}{R:AV->Prop}(hn:args.length<=N)
  (hbody:a7w P N ac (c1a rs fun av _=>plain (wk av)=true/\R (wk av)) (b0a 0 args) ⟨[],[],gl⟩):b6h P gl f args R:=by
 refine⟨a66 hf,fun w outer cargs ho hg hr=>?_⟩;refine(b7j hf hn hbody (bare w outer) cargs (c90 ho hg) hr).mono fun e w' hq=>?_
 obtain⟨σ',h',av,x,rfl,rfl,g2,g3,g4,g5,g6⟩:=hq;refine⟨wk av,x,rfl,⟨g2.size,fun b hb=>g2.whole b hb (fun o=>a9s w outer b o),g2.os,g2.tape,g2.output⟩,?_,g6⟩;refine g4.wk.down g5 rfl fun b o hbo=>.inl ?_
 rw[g2.outer];exact hbo
theorem c5i{gl:List (Nat × List AV)}{f:FuncId}{ac:A0}{rs:List b0j}(k:Nat)(hf:B0 P f=some (N,ac,rs)){args:List AV}{R:AV->Prop}(hn:args.length<=N)
  (hbody:a7w P N ac (c1a rs fun av h=>plain (N0 k h (wk av))=true/\R (N0 k h (wk av))) (b0a 0 args) ⟨[],[],gl⟩):b6h P gl f args R:=by
 refine⟨a66 hf,fun w outer cargs ho hg hr=>?_⟩;refine(b7j hf hn hbody (bare w outer) cargs (c90 ho hg) hr).mono fun e w' hq=>?_
 obtain⟨σ',h',av,x,rfl,rfl,g2,g3,g4,g5,g6⟩:=hq;refine⟨_,x,rfl,⟨g2.size,fun b hb=>g2.whole b hb (fun o=>a9s w outer b o),g2.os,g2.tape,g2.output⟩,?_,g6⟩;have:=Rel.thaw g3 k _ _ g4.wk g5;rw[g2.outer]at this;exact this
theorem b8s{c:G2}{x y:A0}{Q:Exit->Env->A3->Prop}{b:Bool}(hc:c.ev env=some (.v (.bool b)))(h1:b=true->a7w P N x Q env h)(h2:b=false->a7w P N y Q env h):a7w P N (.cond c x y) Q env h:=by
 refine d3a ?_;rw[hc];exact⟨h1,h2⟩
end
structure A(P:Program)(o:AOp)(env:Env)(h:A3)(K:AV->A3->Prop):Prop where
 out:aop P o env h K
structure V(P:Program)(l:List C9)(env:Env)(h:A3)(K:Env->A3->Prop):Prop where
 out:c9u P l env h K
structure C(P:Program)(N:Nat)(ac:A0)(Q:Exit->Env->A3->Prop)(env:Env)(h:A3):Prop where
 out:a7w P N ac Q env h
section
variable {P:Program}{h:A3}{env:Env}{N:Nat}{K:AV->A3->Prop}{x y z:G2}{a b c:AV}
theorem c8w{g:FuncId}{f:G2}{args:List G2}{l:List AV}(hf:f.ev env=some (.clo (.func g) [] []))(ha:evs env args=some l)(hk:b0d P g l h K):A P (.call f args) env h K:=⟨by
 simp only[aop,hf,ha,wv,c1y,List.nil_append,List.append_nil];exact hk⟩
theorem h0s{g:FuncId}{f:G2}{args:List G2}{l r s:List AV}(hf:f.ev env=some (.clo (.func g) r s))(ha:evs env args=some l)(hk:b0d P g (r++l++s) h K):A P (.call f args) env h K:=⟨by
 simp only[aop,hf,ha,wv,c1y];exact hk⟩
theorem b65{mx:Bool}{args:List G2}{l:List AV}{v:Value}(ha:evs env args=some l)(hv:mmx mx l=some v)(hk:K (.v v) h):A P (.minmax mx args) env h K:=⟨by simp only[aop,ha,hv,c5o];exact hk⟩
end
section
variable {P:Program}{h:A3}{env:Env}{N:Nat}
variable {Q:Exit->Env->A3->Prop}
theorem d70{ops:List C9}(hv:V P ops env h fun env' h'=>Q .normal env' h'):C P N (.region ops) Q env h:=⟨b9q hv.out⟩
theorem j7r(hq:Q .normal env h):C P N .skip Q env h:=⟨c5h hq⟩
theorem l6v{id:Nat}(hv:Q (.exit id) env h):C P N (.exit id) Q env h:=⟨c5x hv⟩
theorem n7b(hv:Q .ret env h):C P N .ret Q env h:=⟨c9o hv⟩
theorem g2t{l:Nat}(hq:Q .normal env h):C P N (.label l) Q env h:=⟨c1h hq⟩
theorem h4r{l:Nat}(hq:Q (.goto l) env h):C P N (.goto l) Q env h:=⟨c5e hq⟩
end
def m6q(op:BinOp)(x y:Value):Option Value:=
 match op,x,y with
 |.eql,.string a,.string b=>some (.bool (a.data.toList==b.data.toList))
 |.neq,.string a,.string b=>some (.bool (!(a.data.toList==b.data.toList)))
 |.lss,.string a,.string b=>some (.bool (Op.bytesLess a.data.toList b.data.toList))
 |.add,.string a,.string b=>if a.data.toList.length+b.data.toList.length<=9223372036854775807 then some (.string ⟨⟨a.data.toList++b.data.toList⟩⟩) else none
 |.quo,.int k a,.int k' b=>if k=k'/\b≠0 then some (.int k (k.wrap (a.tdiv b))) else none
 |.rem,.int k a,.int k' b=>if k=k'/\b≠0 then some (.int k (a.tmod b)) else none
 |.shl,.int k a,.int _ b=>if 0<=b then some (.int k (k.wrap (a*2 ^ min b.toNat k.bits))) else none
 |.shr,.int k a,.int _ b=>if 0<=b then some (.int k (a.fdiv (2 ^ min b.toNat k.bits))) else none
 |.add,.int k a,.int k' b=>if k=k' then some (.int k (k.wrap (a+b))) else none
 |.sub,.int k a,.int k' b=>if k=k' then some (.int k (k.wrap (a - b))) else none
 |.mul,.int k a,.int k' b=>if k=k' then some (.int k (k.wrap (a*b))) else none
 |.and,.int k a,.int k' b=>if k=k' then some (.int k (a7y .and k a b)) else none
 |.or,.int k a,.int k' b=>if k=k' then some (.int k (a7y .or k a b)) else none
 |.xor,.int k a,.int k' b=>if k=k' then some (.int k (a7y .xor k a b)) else none
 |.andNot,.int k a,.int k' b=>if k=k' then some (.int k (a7y .andNot k a b)) else none
 |.eql,.int k a,.int k' b=>if k=k' then some (.bool (a==b)) else none
 |.neq,.int k a,.int k' b=>if k=k' then some (.bool (a !=b)) else none
 |.lss,.int k a,.int k' b=>if k=k' then some (.bool (decide (a<b))) else none
 |.leq,.int k a,.int k' b=>if k=k' then some (.bool (decide (a<=b))) else none
 |.gtr,.int k a,.int k' b=>if k=k' then some (.bool (decide (b<a))) else none
 |.geq,.int k a,.int k' b=>if k=k' then some (.bool (decide (b<=a))) else none
 |_,_,_=>none
theorem d9g(a b:ByteArray):a++b=⟨⟨a.data.toList++b.data.toList⟩⟩:=by
 apply ByteArray.ext;apply Array.ext';rw[ByteArray.data_append,Array.toList_append]
theorem f6o{op:BinOp}{x y r:Value}(h:m6q op x y=some r):∃c:Prop,c/\c8u op x y=some (c,r):=by
  unfold m6q at h;split at h
  · cases h;exact⟨True,trivial,by simp only[c8u,ByteArray.toList_eq]⟩
  · cases h;exact⟨True,trivial,by simp only[c8u,ByteArray.toList_eq]⟩
  · cases h;exact⟨True,trivial,by simp only[c8u,ByteArray.toList_eq]⟩
  · split at h
    · rename_i a b hc
      cases h;refine⟨_,hc,?_⟩;simp only[c8u];rw[d9g];rfl
    · cases h
  · split at h
    · rename_i hc;cases h;exact⟨_,hc.2,by simp only[c8u];rw[if_pos hc.1]⟩
    · cases h
  · split at h
    · rename_i hc;cases h;exact⟨_,hc.2,by simp only[c8u];rw[if_pos hc.1]⟩
    · cases h
  · split at h
    · rename_i hc;cases h;exact⟨_,hc,by simp only[c8u]⟩
    · cases h
  · split at h
    · rename_i hc;cases h;exact⟨_,hc,by simp only[c8u]⟩
    · cases h
  all_goals first
    |(cases h;done)
    |(split at h
      · rename_i hc;cases h;exact⟨True,trivial,by simp only[c8u];rw[if_pos hc]⟩
      · cases h)
def a52(h:A3)(n:Option Nat)(p:AV):Option AV:=
 (V4 h p).bind fun q=>match n with
  |none=>q.1[q.2]?
  |some n=>if q.2+n<=q.1.length then some (.agg ((q.1.drop q.2).take n)) else none
theorem a9n{h:A3}{n:Option Nat}{p a:AV}{K:AV->Prop}(he:a52 h n p=some a)(hk:K a):a8g h n p K:=by
 simp only[a52,Option.bind_eq_some_iff]at he;obtain⟨⟨cells,off⟩,h1,h2⟩:=he;simp only[a8g,h1];cases n with
 |none=>simp only at h2 ⊢;simp only[h2];exact hk
 |some n=>
  simp only at h2 ⊢;split at h2
  ·rename_i hc;cases h2;exact⟨hc,hk⟩
  ·cases h2
def c7q(h:A3)(size:Nat)(p x:AV):Option A3:=
 match p with
 |.ptr n off=>match h.blks[n]? with
  |some (some cells)=>if a4j cells=true/\x.cells.length=size/\off+size<=cells.length/\x.isTuple=false then some ⟨h.blks.set n (some (splice cells off x.cells)),h.bufs,h.globs⟩ else none
  |_=>none
 |_=>none
theorem c96{h h':A3}{n:Nat}{p x:AV}{K:A3->Prop}(he:c7q h n p x=some h')(hk:K h'):c17 h n p x K:=by
 unfold c7q at he;unfold c17;split at he
 ·split at he
  ·rename_i hb;simp only[hb];split at he
   ·rename_i hc;cases he;exact⟨hc,hk⟩
   ·cases he
  ·cases he
 ·cases he
def c7i(op:BinOp)(x y:AV):Option AV:=
 match x,y with
 |.v a,.v b=>(m6q op a b).map .v
 |_,_=>none
theorem d0u{op:BinOp}{x y a:AV}{K:AV->Prop}(he:c7i op x y=some a)(hk:K a):c1f op x y K:=by
 unfold c7i at he;split at he
 ·simp only[Option.map_eq_some_iff]at he;obtain⟨r,h1,rfl⟩:=he;obtain⟨c,hc,hp⟩:=f6o h1;simp only[c1f,hp];exact⟨hc,hk⟩
 ·cases he
def eqF(c:EqK)(x y:AV):Option Bool:=
 match c,x,y with
 |.bool,.v (.bool a),.v (.bool b)=>some (a==b)
 |.slice,.nil,.nil=>some true
 |.slice,.sl (_::_) _,.nil=>some false
 |.slice,.nil,.sl (_::_) _=>some false
 |.slice,.row _ _ _ _ _,.nil=>some false
 |.slice,.nil,.row _ _ _ _ _=>some false
 |.func,.clo _ _ _,.v .nilFunc=>some false
 |.func,.v .nilFunc,.clo _ _ _=>some false
 |.func,.v .nilFunc,.v .nilFunc=>some true
 |.ptr,.ptr _ _,.v (.pointer none)=>some false
 |.ptr,.elt _ _,.v (.pointer none)=>some false
 |.ptr,.v (.pointer none),.v (.pointer none)=>some true
 |.iface,.iface _ _,.v .nilIface=>some false
 |.iface,.v .nilIface,.iface _ _=>some false
 |.iface,.v .nilIface,.v .nilIface=>some true
 |.flat ks,.agg xs,.agg ys=>a2u ks xs ys
 |_,_,_=>none
theorem k58{c:EqK}{x y:AV}{b:Bool}{K:Bool->Prop}(he:eqF c x y=some b)(hk:K b):e1l c x y K:=by
 unfold eqF at he;split at he<;>first|(cases he;done)|(cases he;exact hk)|(cases he;exact .inl ⟨by simp,hk⟩)|(simp only[e1l,he,d5j];exact hk)
def unF(op:UnOp)(x:AV):Option AV:=
 match op,x with
 |.not,.v (.bool b)=>some (.v (.bool (!b)))
 |.neg,.v (.int k n)=>some (.v (.int k (k.wrap (0 - n))))
 |.xor,.v (.int k n)=>some (.v (.int k (a7y .xor k (if k.signed then -1 else k.max) n)))
 |_,_=>none
theorem l06{op:UnOp}{x a:AV}{K:AV->Prop}(he:unF op x=some a)(hk:K a):d9l op x K:=by
 unfold unF at he;split at he<;>first|(cases he;done)|(cases he;exact hk)
def b3r:List (List AV)->Option (List UInt8)
 |[]=>some []
 |[.v (.int .u8 n)]::r=>if 0<=n/\n<256 then(b3r r).map fun l=>UInt8.ofNat n.toNat::l else none
 |_=>none
theorem b1h:∀{els:List (List AV)}{l:List UInt8},b3r els=some l->els=J2 l
 |[],l,h=>by cases h;rfl
 |el::r,l,h=>by
  unfold b3r at h;split at h
  ·rename_i heq;cases heq
  ·rename_i n r' heq;cases heq;split at h
   ·rename_i hn;simp only[Option.map_eq_some_iff]at h;obtain⟨l',h1,rfl⟩:=h;rw[b1h h1]
    have:((UInt8.ofNat n.toNat).toNat:Int)=n:=by
     rw[UInt8.toNat_ofNat'];omega
    simp only[J2,List.map_cons,this]
   ·cases h
  ·cases h
def f7c(c:CK)(x:AV):Option AV:=
 match c,x with
 |.num k,.v (.int _ n)=>some (.v (.int k (k.wrap n)))
 |.chr,.v (.int _ n)=>some (.v (.string (Utf8.encode n)))
 |.same,.v (.string s)=>some (.v (.string s))
 |.str,.nil=>some (.v (.string ⟨⟨[]⟩⟩))
 |.str,.sl els _=>(b3r els).map fun l=>.v (.string ⟨⟨l⟩⟩)
 |_,_=>none
theorem d85{c:CK}{x a:AV}{K:AV->Prop}(he:f7c c x=some a)(hk:K a):c5k c x K:=by
 unfold f7c at he;split at he
 ·cases he;exact hk
 ·cases he;exact hk
 ·cases he;exact hk
 ·cases he;exact hk
 ·simp only[Option.map_eq_some_iff]at he;obtain⟨l,h1,rfl⟩:=he;exact⟨l,b1h h1,hk⟩
 ·cases he
def n99(p:AV)(lo hi:Option AV):Option AV:=
 match p with
 |.v (.string s)=>(E2 0 lo).bind fun l=>(E2 s.data.toList.length hi).bind fun u=>
  if 0<=l/\l<=u/\u<=(s.data.toList.length:Int) then some (.v (.string ⟨⟨(s.data.toList.take u.toNat).drop l.toNat⟩⟩)) else none
 |_=>none
theorem d6p(s:ByteArray)(l u:Nat):s.extract l u=⟨⟨(s.data.toList.take u).drop l⟩⟩:=by
 apply ByteArray.ext;apply Array.ext';rw[ByteArray.data_extract];simp[List.extract,List.drop_take]
theorem e8y{p a:AV}{lo hi:Option AV}{K:AV->Prop}(he:n99 p lo hi=some a)(hk:K a):b5a p lo hi K:=by
 unfold n99 at he;split at he
 ·rename_i s;simp only[Option.bind_eq_some_iff]at he;obtain⟨l,h1,u,h2,h3⟩:=he;split at h3
  ·rename_i hc;cases h3;have hs:s.data.toList.length=s.size:=Array.length_toList;rw[hs]at h2 hc;simp only[b5a,h1,h2];rw[d6p];exact⟨hc,hk⟩
  ·cases h3
 ·cases he
def b45(size:Nat):List (List AV)->Bool
 |[]=>true
 |el::r=>decide (el.length=size)&&b45 size r
theorem a1c{size:Nat}:∀{l:List (List AV)},b45 size l=true->∀el∈l,el.length=size
 |[],_,el,h=>by simp at h
 |a::r,hs,el,h=>by
  simp only[b45,Bool.and_eq_true,decide_eq_true_eq]at hs;rcases List.mem_cons.1 h with rfl|h
  ·exact hs.1
  ·exact a1c hs.2 el h
def n89(size:Nat)(p:AV)(lo hi mx:Option AV):Option AV:=
 match p,mx with
 |.nil,_=>(E2 0 lo).bind fun l=>(E2 0 hi).bind fun u=>(E2 0 mx).bind fun m=>if l=0/\u=0/\m=0 then some .nil else none
 |.sl els tok,none=>(E2 0 lo).bind fun l=>(E2 els.length hi).bind fun u=>
  if(0<=l/\l<=u/\u<=(els.length:Int))/\b45 size els=true then some (.sl ((els.take u.toNat).drop l.toNat) (match lo,hi with|none,none=>tok|_,_=>.no)) else none
 |.sl els tok,some (.v (.int _ m))=>(E2 0 lo).bind fun l=>(E2 els.length hi).bind fun u=>
  if(0<=l/\l<=u/\u<=(els.length:Int))/\b45 size els=true/\m=u/\hi.isSome=true then some (.sl ((els.take u.toNat).drop l.toNat) .full) else none
 |.row n off sz len cap,none=>(E2 0 lo).bind fun l=>(E2 len hi).bind fun u=>
  if(0<=l/\l<=u/\u<=(len:Int))/\sz=size then(if l<(len:Int) then some (.row n (off+l.toNat*size) size (u.toNat - l.toNat) (cap - l.toNat)) else some (.sl [] .no))
  else if(0<=l/\l<u/\u<=(cap:Int)/\hi.isSome=true)/\sz=size then some (.row n (off+l.toNat*size) size (u.toNat - l.toNat) (cap - l.toNat)) else none
 |.row n off sz len cap,some (.v (.int _ m))=>(E2 0 lo).bind fun l=>(E2 len hi).bind fun u=>
  if(0<=l/\l<=u/\u<=(len:Int))/\sz=size/\m=u/\hi.isSome=true then(if l<u then some (.row n (off+l.toNat*size) size (u.toNat - l.toNat) (u.toNat - l.toNat)) else some (.sl [] .full))
  else if(0<=l/\l<=u/\u<=(len:Int))/\sz=size/\u<m/\m<=(len:Int)/\hi.isSome=true then some (.row n (off+l.toNat*size) size (u.toNat - l.toNat) (m.toNat - l.toNat)) else none
 |.bb (.raw id n) [] u,none=>match lo,hi with
  |none,some (.v (.int .i64 0))=>if size=1 then some (.bb (.own id) [] u) else none
  |_,_=>none
 |_,_=>none
theorem g1x{size:Nat}{p a:AV}{lo hi mx:Option AV}{K:AV->Prop}(he:n89 size p lo hi mx=some a)(hk:K a):a1x size p lo hi mx K:=by
 unfold n89 at he;split at he
 ·simp only[Option.bind_eq_some_iff]at he;obtain⟨l,h1,u,h2,m,h3,h4⟩:=he;split at h4
  ·rename_i hc;cases h4;simp only[a1x,h1,h2,h3];exact⟨hc,hk⟩
  ·cases h4
 ·simp only[Option.bind_eq_some_iff]at he;obtain⟨l,h1,u,h2,h4⟩:=he;split at h4
  ·rename_i hc;cases h4;simp only[a1x,h1,h2];exact⟨hc.1,a1c hc.2,hk⟩
  ·cases h4
 ·simp only[Option.bind_eq_some_iff]at he;obtain⟨l,h1,u,h2,h4⟩:=he;split at h4
  ·rename_i hc;cases h4;simp only[a1x,h1,h2];refine⟨hc.1,a1c hc.2.1,hc.2.2.1,?_,hk⟩;intro hn;rw[hn]at hc;exact absurd hc.2.2.2 (by simp)
  ·cases h4
 ·simp only[Option.bind_eq_some_iff]at he;obtain⟨l,h1,u,h2,h4⟩:=he;split at h4
  ·rename_i hc;simp only[a1x,h1,h2];refine .inl ⟨hc.1,hc.2,?_⟩;split at h4
   ·rename_i hl;cases h4;rw[if_pos hl];exact hk
   ·rename_i hl;cases h4;rw[if_neg hl];exact hk
  ·split at h4
   ·rename_i hc;cases h4;simp only[a1x,h1,h2];exact .inr ⟨⟨hc.1.1,hc.1.2.1,hc.1.2.2.1,by trivial,fun hn=>by rw[hn]at hc;exact absurd hc.1.2.2.2 (by simp)⟩,hc.2,hk⟩
   ·cases h4
 ·simp only[Option.bind_eq_some_iff]at he;obtain⟨l,h1,u,h2,h4⟩:=he;split at h4
  ·rename_i hc;simp only[a1x,h1,h2];refine .inl ⟨hc.1,hc.2.1,.inl ⟨⟨hc.2.2.1,fun hn=>by rw[hn]at hc;exact absurd hc.2.2.2 (by simp)⟩,?_⟩⟩;split at h4
   ·rename_i hl;cases h4;rw[if_pos hl];exact hk
   ·rename_i hl;cases h4;rw[if_neg hl];exact hk
  ·split at h4
   ·rename_i hc;cases h4;simp only[a1x,h1,h2];exact .inl ⟨hc.1,hc.2.1,.inr ⟨⟨hc.2.2.1,hc.2.2.2.1,fun hn=>by rw[hn]at hc;exact absurd hc.2.2.2.2 (by simp)⟩,hk⟩⟩
   ·cases h4
 ·split at he
  ·split at he
   ·rename_i hs;cases he;exact⟨hs,rfl,rfl,rfl,hk⟩
   ·cases he
  ·cases he
 ·cases he
def d7t(n:Nat)(p:AV):Option AV:=
 match p with
 |.ptr k off=>some (.ptr k (off+n))
 |.elt cells off=>some (.elt cells (off+n))
 |_=>none
theorem c92{n:Nat}{p a:AV}{K:AV->Prop}(he:d7t n p=some a)(hk:K a):d5q n p K:=by
 unfold d7t at he;split at he<;>first|(cases he;done)|(cases he;exact hk)
def d8r(n:Option Nat)(off:Nat)(x:AV):Option AV:=
 match x,n with
 |.agg cells,none=>cells[off]?
 |.agg cells,some n=>if off+n<=cells.length then some (.agg ((cells.drop off).take n)) else none
 |_,_=>none
theorem c8n{n:Option Nat}{off:Nat}{x a:AV}{K:AV->Prop}(he:d8r n off x=some a)(hk:K a):c1b n off x K:=by
 unfold d8r at he;split at he
 ·simp only[c1b,he];exact hk
 ·split at he
  ·rename_i hc;cases he;exact⟨hc,hk⟩
  ·cases he
 ·cases he
def h3y(p i:AV):Option AV:=
 match p,i with
 |.v (.string s),.v (.int _ n)=>if 0<=n/\n<(s.data.toList.length:Int) then some (.v (.int .u8 (C7 s n.toNat))) else none
 |_,_=>none
theorem d9o{p i a:AV}{K:AV->Prop}(he:h3y p i=some a)(hk:K a):b2l p i K:=by
 unfold h3y at he;split at he
 ·rename_i s _ n;split at he
  ·rename_i hc;cases he;have hs:s.data.toList.length=s.size:=Array.length_toList;rw[hs]at hc;exact⟨hc,hk⟩
  ·cases he
 ·cases he
def g2v(len size:Nat)(n:Option Nat)(p i:AV):Option AV:=
 match i with
 |.v (.int _ j)=>if 0<=j/\j<(len:Int) then d8r n (j.toNat*size) p else none
 |_=>none
theorem d6j{len size:Nat}{n:Option Nat}{p i a:AV}{K:AV->Prop}(he:g2v len size n p i=some a)(hk:K a):b7k len size n p i K:=by
 unfold g2v at he;split at he
 ·split at he
  ·rename_i hc;exact⟨hc,c8n he hk⟩
  ·cases he
 ·cases he
def m93(size:Nat)(p i:AV):Option AV:=
 match p,i with
 |.sl els _,.v (.int _ n)=>if(0<=n/\n<(els.length:Int))/\(els.getD n.toNat []).length=size then some (.elt (els.getD n.toNat []) 0) else none
 |.row r off sz len _,.v (.int _ n)=>if(0<=n/\n<(len:Int))/\sz=size then some (.ptr r (off+n.toNat*size)) else none
 |_,_=>none
theorem f83{size:Nat}{p i a:AV}{K:AV->Prop}(he:m93 size p i=some a)(hk:K a):b4n size p i K:=by
 unfold m93 at he;split at he
 ·split at he
  ·rename_i hc;cases he;exact⟨hc.1,hc.2,hk⟩
  ·cases he
 ·split at he
  ·rename_i hc;cases he;exact⟨hc.1,hc.2,hk⟩
  ·cases he
 ·cases he
def f2s(len size:Nat)(p i:AV):Option AV:=
 match i with
 |.v (.int _ n)=>if 0<=n/\n<(len:Int) then d7t (n.toNat*size) p else none
 |_=>none
theorem c3s{len size:Nat}{p i a:AV}{K:AV->Prop}(he:f2s len size p i=some a)(hk:K a):b7h len size p i K:=by
 unfold f2s at he;split at he
 ·split at he
  ·rename_i hc;exact⟨hc,c92 he hk⟩
  ·cases he
 ·cases he
def c7w(t:TypeId)(ok:Bool)(zero x:AV):Option AV:=
 match x,ok with
 |.iface u y,true=>some (if u=t then .tuple [y,.v (.bool true)] else .tuple [zero,.v (.bool false)])
 |.iface u y,false=>if u=t then some y else none
 |.v .nilIface,true=>some (.tuple [zero,.v (.bool false)])
 |_,_=>none
theorem d0d{t:TypeId}{ok:Bool}{zero x a:AV}{K:AV->Prop}(he:c7w t ok zero x=some a)(hk:K a):a91 t ok zero x K:=by
 unfold c7w at he;split at he
 ·cases he;simp only[a91];split
  ·rename_i hu;rw[if_pos hu]at hk;exact hk
  ·rename_i hu;rw[if_neg hu]at hk;exact⟨by simp,hk⟩
 ·split at he
  ·rename_i hu;cases he;simp only[a91];rw[if_pos hu];exact hk
  ·cases he
 ·cases he;exact⟨rfl,hk⟩
 ·cases he
def c26(i:Nat)(x:AV):Option AV:=
 match x with
 |.tuple vs=>vs[i]?
 |_=>none
theorem c60{i:Nat}{x a:AV}{K:AV->Prop}(he:c26 i x=some a)(hk:K a):a8i i x K:=by
 unfold c26 at he;split at he
 ·simp only[a8i,he];exact hk
 ·cases he
def n69(str:Bool)(x:AV):Option AV:=
 match str,x with
 |true,.v (.string s)=>some (.v (.int .i64 s.data.toList.length))
 |false,.nil=>some (.v (.int .i64 0))
 |false,.sl els _=>some (.v (.int .i64 els.length))
 |false,.row _ _ _ len _=>some (.v (.int .i64 len))
 |false,.bb .nil [] _=>some (.v (.int .i64 0))
 |false,.bb (.own _) els _=>some (.v (.int .i64 els.length))
 |_,_=>none
theorem g1h{s:Bool}{x a:AV}{K:AV->Prop}(he:n69 s x=some a)(hk:K a):c16 s x K:=by
 unfold n69 at he;split at he
 ·cases he;rename_i s;have hs:s.data.toList.length=s.size:=Array.length_toList;rw[hs]at hk;exact hk
 ·cases he;exact hk
 ·cases he;exact hk
 ·cases he;exact hk
 ·cases he;exact hk
 ·cases he;exact hk
 ·cases he
def l9s(h:A3)(size bytes:Nat)(x y:AV):Option (AV × A3):=
 (b7t h size y).bind fun ys=>if b45 size ys=true then
  match x with
  |.nil=>if ys.length*bytes<=140737488355328 then some (.sl ys (.own h.bufs.length),⟨h.blks,h.bufs++[(ys.length,size)],h.globs⟩) else none
  |.sl els .full=>if b45 size els=true/\(els.length+ys.length)*bytes<=140737488355328 then(match ys with
   |[]=>some (.sl els .full,h)
   |_::_=>some (.sl (els++ys) (.own h.bufs.length),⟨h.blks,h.bufs++[(els.length+ys.length,size)],h.globs⟩)) else none
  |.sl els (.own id)=>if b45 size els=true/\h.bufs[id]? =some (els.length,size)/\(els.length+ys.length)*bytes<=140737488355328 then some (.sl (els++ys) (.own id),⟨h.blks,h.bufs.set id (els.length+ys.length,size),h.globs⟩) else none
  |.row n off sz len cap=>if sz=size/\(len+ys.length)*bytes<=140737488355328 then match h.blks[n]? with
   |some (some cells)=>if a4j cells=true/\off+len*size<=cells.length then
    if len+ys.length<=cap then some (.row n off size (len+ys.length) cap,⟨h.blks.set n (some (cells.take (off+len*size)++ys.flatten++cells.drop (off+len*size+ys.flatten.length))),h.bufs,h.globs⟩)
    else if off=0/\cells.length=len*size then some (.row h.blks.length 0 size (len+ys.length) (len+ys.length),⟨h.blks.set n (some [])++[some (cells++ys.flatten)],h.bufs,h.globs⟩) else none
    else none
   |_=>none
   else none
  |_=>none
 else none
theorem d11{h h':A3}{size bytes:Nat}{x y a:AV}{K:AV->A3->Prop}(he:l9s h size bytes x y=some (a,h'))(hk:K a h'):a9z h size bytes x y K:=by
 simp only[l9s,Option.bind_eq_some_iff]at he;obtain⟨ys,h1,h2⟩:=he;simp only[a9z,h1];split at h2
 ·rename_i hs;refine⟨a1c hs,?_⟩;split at h2
  ·split at h2
   ·rename_i hc;cases h2;exact⟨hc,hk⟩
   ·cases h2
  ·split at h2
   ·rename_i hc;refine⟨a1c hc.1,hc.2,?_⟩;split at h2
    ·cases h2;exact⟨fun _=>hk,fun h=>absurd rfl h⟩
    ·cases h2;exact⟨fun h=>by simp at h,fun _=>hk⟩
   ·cases h2
  ·split at h2
   ·rename_i hc;cases h2;exact⟨a1c hc.1,hc.2.1,hc.2.2,hk⟩
   ·cases h2
  ·split at h2
   ·rename_i hc;refine⟨hc.1,hc.2,?_⟩;split at h2
    ·rename_i hb;simp only[hb];split at h2
     ·rename_i hin;refine⟨hin,?_⟩;split at h2
      ·rename_i hl;cases h2;rw[if_pos hl];exact hk
      ·rename_i hl;rw[if_neg hl];split at h2
       ·rename_i hw;cases h2;exact⟨hw,hk⟩
       ·cases h2
     ·cases h2
    ·cases h2
   ·cases h2
  ·cases h2
 ·cases h2
def f89(h:A3)(size bytes:Nat)(x y:AV):Option (AV × A3):=
 (b7t h size y).bind fun ys=>if b45 size ys=true/\ys.length≠0 then
  match x with
  |.nil=>if ys.length*bytes<=140737488355328 then some (.row h.blks.length 0 size ys.length ys.length,⟨h.blks++[some ys.flatten],h.bufs,h.globs⟩) else none
  |.sl els .full=>if b45 size els=true/\(els.length+ys.length)*bytes<=140737488355328 then some (.row h.blks.length 0 size (els.length+ys.length) (els.length+ys.length),⟨h.blks++[some (els.flatten++ys.flatten)],h.bufs,h.globs⟩) else none
  |_=>none
 else none
theorem e0m{h h':A3}{size bytes:Nat}{x y a:AV}{K:AV->A3->Prop}(he:f89 h size bytes x y=some (a,h'))(hk:K a h'):a8b h size bytes x y K:=by
 simp only[f89,Option.bind_eq_some_iff]at he;obtain⟨ys,h1,h2⟩:=he;simp only[a8b,h1];split at h2
 ·rename_i hs;refine⟨⟨a1c hs.1,fun hn=>hs.2 (by rw[hn];rfl)⟩,?_⟩;split at h2
  ·split at h2
   ·rename_i hc;cases h2;exact⟨hc,hk⟩
   ·cases h2
  ·split at h2
   ·rename_i hc;cases h2;exact⟨a1c hc.1,hc.2,hk⟩
   ·cases h2
  ·cases h2
 ·cases h2
end Go.Proofs.YtkhgohfaecbgkaaGreatDoor.Lift
