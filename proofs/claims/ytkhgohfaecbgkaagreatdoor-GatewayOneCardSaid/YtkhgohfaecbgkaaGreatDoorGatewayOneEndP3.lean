/- Part 4 of the texts that prove GatewayOneEnd. -/
import Derived.Test.YtkhgohfaecbgkaaGreatDoorGatewayOneEndP2
import Derived.Test.YtkhgohfaecbgkaaGreatDoorGatewayOneEndP1
import Derived.OpenShut
import Derived.ProofKit
import Derived.Test.YtkhgohfaecbgkaaGreatDoorProg
namespace Go.Proofs.YtkhgohfaecbgkaaGreatDoor.Lift
open Go.RowKit
set_option linter.unusedVariables false
set_option linter.unusedSimpArgs false
set_option linter.unnecessarySimpa false
set_option linter.unusedSectionVars false
set_option maxRecDepth 100000
theorem b8c{a b:List AV}:plainL (a++b)=(plainL a&&plainL b):=by
 induction a with
 |nil=>rfl
 |cons x r ih=>simp only[List.cons_append,plainL,ih,Bool.and_assoc]
def cellsOf{α:Type}(e:α->List AV)(l:List α):List AV:=(l.map e).flatten
section
variable {α:Type}{e:α->List AV}{sz:Nat}
theorem b8r(hs:∀y,(e y).length=sz){l:List α}:∀r∈l.map e,r.length=sz:=by
 intro r hr;obtain⟨y,_,rfl⟩:=List.mem_map.1 hr;exact hs y
theorem c4j(hs:∀y,(e y).length=sz){l:List α}{i k:Nat}{y:α}(hy:l[i]? =some y)(hk:k<sz):(cellsOf e l)[i*sz+k]? =(e y)[k]? :=by
 rw[cellsOf,a5v _ (b8r hs) i k hk,List.getElem?_map,hy];rfl
theorem a6c(hs:∀y,(e y).length=sz):∀(l:List α),(cellsOf e l).length=l.length*sz
 |[]=>by simp[cellsOf]
 |y::l=>by
  have:=a6c hs l;simp only[cellsOf,List.map_cons,List.flatten_cons,List.length_append,List.length_cons,Nat.add_mul]at this ⊢;rw[hs,this];omega
theorem a8l(hn:∀y,a3f (e y)=true):∀{l:List α},l≠[]->a3f (cellsOf e l)=true
 |[],h=>(h rfl).elim
 |y::l,_=>by
  have:=hn y;cases hy:e y with
  |nil=>rw[hy]at this;cases this
  |cons a r=>rw[hy]at this;simp only[cellsOf,List.map_cons,List.flatten_cons,hy,List.cons_append,a3f]at this ⊢;exact this
theorem B6(e:α->List AV){l:List α}(h:plainLL (l.map e)=true):plainL (cellsOf e l)=true:=by
 unfold cellsOf;revert h;generalize l.map e=x;intro h
 induction x with
 |nil=>rfl
 |cons a r ih=>simp only[plainLL,Bool.and_eq_true]at h;rw[List.flatten_cons,b8c,h.1,ih h.2];rfl
theorem f7e{l:List α}{i:Nat}{y:α}(hy:l[i]? =some y):l≠[]:=by rintro rfl;simp at hy
theorem b32(hs:∀y,(e y).length=sz):∀{l:List α}{i:Nat}{y:α},l[i]? =some y->((cellsOf e l).drop (i*sz)).take sz=e y
 |[],i,y,h=>by simp at h
 |z::l,0,y,h=>by
  simp at h;subst h;simp only[cellsOf,List.map_cons,List.flatten_cons,Nat.zero_mul,List.drop_zero];rw[List.take_append_of_le_length (by rw[hs];exact Nat.le_refl _),List.take_of_length_le (by rw[hs];exact Nat.le_refl _)]
 |z::l,i+1,y,h=>by
  have:=b32 hs (l:=l) (i:=i) (y:=y) (by simpa using h);simp only[cellsOf,List.map_cons,List.flatten_cons]at this ⊢
  have h2:(e z++(List.map e l).flatten).drop ((i+1)*sz)=((List.map e l).flatten).drop (i*sz):=by
   have h3:=hs z;rw[List.drop_append,h3,List.drop_of_length_le (by rw[h3,Nat.add_mul];omega),List.nil_append]
   congr 1
   rw[Nat.add_mul];omega
  rw[h2];exact this
theorem b6e(hs:∀y,(e y).length=sz):∀{l:List α}{i:Nat}{z:α},i<l.length->splice (cellsOf e l) (i*sz) (e z)=cellsOf e (l.set i z)
 |[],i,z,h=>by simp at h
 |y::l,0,z,h=>by
  simp only[splice,cellsOf,List.map_cons,List.flatten_cons,Nat.zero_mul,List.take_zero,List.nil_append,Nat.zero_add,List.set_cons_zero];rw[hs,List.drop_append_of_le_length (by rw[hs];exact Nat.le_refl _),List.drop_of_length_le (by rw[hs];exact Nat.le_refl _),List.nil_append]
 |y::l,i+1,z,h=>by
  have:=b6e hs (l:=l) (i:=i) (z:=z) (by simpa using h);simp only[splice,cellsOf,List.map_cons,List.flatten_cons,List.set_cons_succ]at this ⊢;rw[<-this,Nat.add_mul,Nat.one_mul,Nat.add_comm (i*sz) sz]
  have h1:(e y++(List.map e l).flatten).take (sz+i*sz)=e y++((List.map e l).flatten).take (i*sz):=by
   have:=hs y;rw[List.take_append,this,List.take_of_length_le (by omega)];congr 2;omega
  have h2:(e y++(List.map e l).flatten).drop (sz+i*sz+(e z).length)=((List.map e l).flatten).drop (i*sz+(e z).length):=by
   have:=hs y;rw[List.drop_append,this,List.drop_of_length_le (by omega),List.nil_append];congr 1;omega
  rw[h1,h2];simp[List.append_assoc]
theorem c83(z:α)(hs:(e z).length=sz)(n:Nat):Y1 sz n (e z)=cellsOf e (List.replicate n z):=by
 have hl:(Y1 sz n (e z)).length=n*sz:=by simp[Y1]
 have hl2:(cellsOf e (List.replicate n z)).length=n*sz:=by
  simp only[cellsOf,List.map_replicate,List.length_flatten,List.map_replicate,List.sum_replicate_nat,hs]
 refine List.ext_getElem? fun i=>?_
 rcases Nat.lt_or_ge i (n*sz) with hi|hi
 ·have h0:0<sz:=by
   rcases Nat.eq_zero_or_pos sz with h|h
   ·subst h;simp at hi
   ·exact h
  have hm:i % sz<sz:=Nat.mod_lt _ h0;have hd:i / sz<n:=(Nat.div_lt_iff_lt_mul h0).2 hi
  have e1:(Y1 sz n (e z))[i]? =some ((e z).getD (i % sz) .nil):=by
   simp[Y1,List.getElem?_range,hi]
  have e2:(cellsOf e (List.replicate n z))[i]? =(e z)[i % sz]? :=by
   have hh:=a5v (List.map e (List.replicate n z)) (size:=sz) (by
    intro r hr;simp only[List.map_replicate,List.mem_replicate]at hr;rw[hr.2,hs]) (i / sz) (i % sz) hm
   rw[Nat.mul_comm,Nat.div_add_mod]at hh;rw[cellsOf,hh];simp[List.getElem?_replicate,hd]
  rw[e1,e2,List.getD_eq_getElem?_getD];rw[List.getElem?_eq_getElem (by rw[hs];exact hm)];rfl
 ·rw[List.getElem?_eq_none (by omega),List.getElem?_eq_none (by omega)]
end
section
variable {P:Program}{h h':A2}{env:Env}{α:Type}{e:α->List AV}{sz:Nat}
theorem h2n{x y:F7}{bytes:Nat}{zero:List AV}(e:α->List AV)(z:α)(L C:Int)(h0:0<=L/\L<=C/\C*bytes<=140737488355328)(hx:b1i (x.ev env)=some L:=by kernel_rfl)(hy:b1i (y.ev env)=some C:=by kernel_rfl)(hz:zero=e z:=by kernel_rfl)(hs:(e z).length=sz:=by kernel_rfl):Z3 P (.make sz bytes zero x y) env h (.row h.blks.length 0 sz L.toNat C.toNat) ⟨h.blks++[some (cellsOf e (List.replicate C.toNat z))],h.bufs,h.globs⟩:=by
 obtain⟨k1,hx⟩:=a23 hx;obtain⟨k2,hy⟩:=a23 hy;subst hz;intro K hk;simp only[aop,hx,hy,wv,h2l];rw[c83 z hs];exact⟨h0,hk⟩
theorem k97{x i:F7}(r len cap:Nat){n:Int}(h0:0<=n/\n<(len:Int))(hx:x.ev env=some (.row r 0 sz len cap):=by kernel_rfl)(hi:b1i (i.ev env)=some n:=by kernel_rfl):Z3 P (.idxSl sz x i) env h (.ptr r (0+n.toNat*sz)) h:=by
 obtain⟨k,hi⟩:=a23 hi;intro K hk;simp only[aop,hx,hi,wv,b3h];exact⟨h0,trivial,hk⟩
theorem d27{r off:Nat}{l:List α}(hn:∀y,a3f (e y)=true)(hb:h.blks[r]? =some (some (cellsOf e l)))(hl:l≠[]):U5 h (.ptr r off)=some (cellsOf e l,off):=by
 simp only[U5,hb,a8l hn hl,if_true]
theorem l55{x:F7}{r off i k:Nat}{l:List α}{y:α}{av:AV}(hs:∀y,(e y).length=sz)(hn:∀y,a3f (e y)=true)(hy:l[i]? =some y)(hk:k<sz)(hav:(e y)[k]? =some av)(hoff:off=i*sz+k)(hx:x.ev env=some (.ptr r off):=by kernel_rfl)(hb:h.blks[r]? =some (some (cellsOf e l)):=by kernel_rfl):Z3 P (.load none x) env h av h:=by
 intro K hK;simp only[aop,hx,wv,a8e,d27 hn hb (f7e hy)];rw[hoff,c4j hs hy hk,hav];exact hK
theorem m39{p x:F7}{r off i:Nat}{l:List α}{av:AV}(z:α)(hs:∀y,(e y).length=sz)(hn:∀y,a3f (e y)=true)(hi:i<l.length)(hav:e z=av.cells)(hoff:off=i*sz)(hp:p.ev env=some (.ptr r off):=by kernel_rfl)(hx:x.ev env=some av:=by kernel_rfl)(ht:av.isTuple=false:=by kernel_rfl)(hb:h.blks[r]? =some (some (cellsOf e l)):=by kernel_rfl):Z3 P (.store sz p x) env h (.tuple []) ⟨h.blks.set r (some (cellsOf e (l.set i z))),h.bufs,h.globs⟩:=by
 intro K hK;have hne:l≠[]:=by rintro rfl;simp at hi
 simp only[aop,hp,hx,wv,b9p,hb,a8l hn hne];rw[<-b6e hs hi,hav,<-hoff]at hK;refine⟨⟨trivial,by rw[<-hav];exact hs z,?_,ht⟩,hK⟩;rw[hoff,a6c hs,<-Nat.succ_mul];exact Nat.mul_le_mul_right sz hi
end
section
variable {P:Program}{h:A2}{env:Env}{K:Env->A2->Prop}{L:List C3}{k:Nat}
end
def rfz(n:Nat)(els:List (List AV)):AV->AV
 |.row k off size len cap=>if k=n then .sl els .no else .row k off size len cap
 |a=>a
def h1e(n:Nat)(els:List (List AV)):Env->Env
 |[]=>[]
 |(t,a)::e=>(t,rfz n els a)::h1e n els e
theorem c5o{n:Nat}{els:List (List AV)}:∀{e:Env}{t:Nat}{b:AV},get (h1e n els e) t=some b->∃a,get e t=some a/\b=rfz n els a
 |[],_,_,h=>by cases h
 |(u,a)::e,t,b,h=>by
  simp only[h1e,get]at h ⊢;split at h
  ·rename_i hu;rw[if_pos hu];cases h;exact⟨a,rfl,rfl⟩
  ·rename_i hu;rw[if_neg hu];exact c5o h
def b04(n:Nat):Env->List (Nat × Nat × Nat)
 |[]=>[]
 |(_,.row k off size len _)::e=>if k=n then(off,size,len)::b04 n e else b04 n e
 |_::e=>b04 n e
theorem b84{n:Nat}:∀{e:Env}{t off size len cap:Nat},get e t=some (.row n off size len cap)->(off,size,len)∈b04 n e
 |[],_,_,_,_,_,h=>by cases h
 |(u,a)::e,t,off,size,len,cap,h=>by
  simp only[get]at h;split at h
  ·cases h;simp[b04]
  ·have:=b84 h;unfold b04;split
   ·rename_i heq;cases heq
   ·rename_i heq;cases heq;split
    ·exact List.mem_cons_of_mem _ this
    ·exact this
   ·rename_i heq;cases heq;exact this
theorem d2a{P:Program}{h:A2}{env:Env}{N kb kf:Nat}{Q:Exit->Env->A2->Prop}{x:A0}(n:Nat)(m:List Bool)(k:Nat)(cells:List AV)(els:List (List AV))(sz len c:Nat)(hb:h.blks[n]? =some (some cells))(hce:els.flatten=cells)(hsz:∀el∈els,el.length=sz)(hlen:els.length=len)(hpos:0<sz)(hit:els≠[]->a3f cells=true)(hrow:b04 n env=List.replicate c (0,sz,len))(hmn:m.getD n false=false)(hal:c0r m h.blks=true)(hm:∀k,k<kb->m.getD k false=true)(hn:kf<=k)
  {e:Env}(hE:h1e n els env=e) (he:a6k m k e=true) (hB:a4t m k (W4 m h.blks)=true) (hg:J7 h.globs=true) (hx:D P N kb kf x Q e ⟨W4 m h.blks,h.bufs.take k,h.globs⟩):D P N kb kf x Q env h:=⟨by
 subst hE;intro co hc σ0 σ a hs hle hl;refine hx.out co hc σ0 (σ.cut m k) a ⟨hs.inv.cut m k hB hg,fun t av ht=>?_,hs.size,hs.defers⟩ (hle.cut hl hm hn) hl;have hlow:=b4w he ht;obtain⟨a0,h1,rfl⟩:=c5o ht;obtain⟨y,h2,h3⟩:=hs.env t a0 h1;refine⟨y,h2,?_⟩;cases a0 with
 |row j off size len' cap=>
  simp only[rfz]at hlow ⊢;split at hlow
  ·rename_i hj;subst hj;rw[if_pos rfl];have hrr:=b84 h1;rw[hrow]at hrr;obtain⟨rfl,rfl,rfl⟩:off=0/\size=sz/\len'=len:=by simpa using (List.mem_replicate.1 hrr).2
   cases h3 with
   |row _ _ _ _ _ b cap' hblk hcap _ _=>
   obtain⟨b',h4,h5⟩:=hs.inv.blk j cells hb;rw[hblk]at h4;cases h4;subst hlen;rcases Classical.em (els=[]) with h0|h0
   ·subst h0;exact .slx _ ⟨b,0,none⟩ cap' trivial (.inl rfl)
   have hni:=hit h0;obtain⟨cs,rest,elem,h6,h7⟩:=h5.plain hni;have hlc:lowLL m k els=true:=by simpa[low]using hlow
   have key:∀(i:Nat) (el:List AV),els[i]? =some el->∀(q:Nat) (av:AV),el[q]? =some av->∃xv,σ.w.cell? ⟨b,0+i*size+q,none⟩=some xv/\Rel σ av xv/\av.isCell=true:=by
    intro i el hi q av hq;have hql:q<size:=by rw[<-hsz el (List.mem_of_getElem? hi)];exact(List.getElem?_eq_some_iff.1 hq).1
    have hf:=a5v els hsz i q hql;rw[hi,Option.bind_some,hq,hce]at hf;obtain⟨q1,xv,q2,q3⟩:=h7.2 _ av hf;refine⟨xv,?_,q3,q1⟩;have hlt:=(List.getElem?_eq_some_iff.1 q2).1;rw[Nat.zero_add];simp[World.cell?,h6,List.getElem?_append_left hlt,q2]
   have hne:cells≠[]:=a5x hni;refine Rel.sl (σ:=σ.cut m k) els .no b 0 cap' size (fun i q=>(σ.w.cell? ⟨b,0+i*size+q,none⟩).getD undef) (fun i el hi=>hsz el (List.mem_of_getElem? hi)) hcap trivial (fun id e hid=>by cases hid) (fun i el hi q av hq=>?_) fun i el hi q av hq=>?_
   ·obtain⟨xv,q1,q2,q3⟩:=key i el hi q av hq;refine⟨by show σ.w.cell? _=_;rw[q1];rfl,?_,q3⟩;rintro (ho|⟨j',hj'⟩|⟨id,eb,he1,he2⟩)
    ·exact(hs.inv.outer _ _ ho).2 (.inl ⟨j,hblk⟩)
    ·simp only[Sg.cut]at hj';split at hj'
     ·rename_i hmj;obtain⟨c',hc'⟩:=hs.inv.dom j' b hj';have:=hs.inv.inj j' j b c' cells hc' hb (b54 hal hmj hc') hne hj' hblk;subst this;rw[hmn]at hmj;cases hmj
     ·cases hj'
    ·simp only[Sg.cut]at he1;split at he1
     ·exact hs.inv.bufblk id eb j b _ he1 he2 hblk
     ·cases he1
   ·obtain⟨xv,q1,q2,q3⟩:=key i el hi q av hq;rw[q1];exact q2.cut (a1g (b7n hlc i el hi) q av hq)
  ·rename_i hj;rw[if_neg hj];exact h3.cut hlow
 |_=>exact h3.cut hlow⟩
theorem drf{P:Program}{h:A2}{env:Env}{N kb kf:Nat}{Q:Exit->Env->A2->Prop}{x:A0}{α:Type}{f:α->List AV}{sz:Nat}(n:Nat)(m:List Bool)(k c:Nat)(l:List α)(len:Nat)(e:Env)(bs:List (Option (List AV)))(hs:∀y,(f y).length=sz)(hni:∀y,a3f (f y)=true)(hlen:l.length=len)(hw:a6k m k e=true/\a4t m k bs=true)(hx:D P N kb kf x Q e ⟨bs,h.bufs.take k,h.globs⟩)(hb:h.blks[n]? =some (some (cellsOf f l)):=by kernel_rfl)(hpos:Nat.ble 1 sz=true:=by kernel_rfl)(hrow:b04 n env=List.replicate c (0,sz,len):=by kernel_rfl)(hmn:m.getD n false=false:=by kernel_rfl)(hal:c0r m h.blks=true:=by kernel_rfl)(hm:∀k,k<kb->m.getD k false=true:=by intro k hk;first|exact absurd hk (Nat.not_lt_zero _)|exact l9j rfl k hk)(hkf:Nat.ble kf k=true:=by kernel_rfl)(hE:h1e n (List.map f l) env=e:=by kernel_rfl)(hbs:W4 m h.blks=bs:=by kernel_rfl)(hg:J7 h.globs=true:=by kernel_rfl):D P N kb kf x Q env h:=by
 subst hbs;exact d2a n m k _ (List.map f l) sz len c hb rfl (b8r hs) (by rw[List.length_map];exact hlen) (Nat.le_of_ble_eq_true hpos) (fun h0=>a8l hni (fun h=>h0 (by rw[h];rfl))) hrow hmn hal hm (Nat.le_of_ble_eq_true hkf) hE hw.1 hw.2 hg hx
structure b0a{α:Type}(e:α->List AV)(sz:Nat):Prop where
 hs:∀y,(e y).length=sz
 hn:∀y,a3f (e y)=true
 hp:∀y,plainL (e y)=true
 hz:∀y,(e y).map nz1=e y
section
variable {α:Type}{e:α->List AV}{sz:Nat}
theorem b9c:∀{l:List AV},plainL l=true->∀a∈l,plain a=true
 |[],_,a,h=>by cases h
 |b::l,hp,a,h=>by
  simp only[plainL,Bool.and_eq_true]at hp;rcases List.mem_cons.1 h with h|h
  ·rw[h];exact hp.1
  ·exact b9c hp.2 a h
theorem c72{n:Nat}{β:Option Nat}{a:AV}(hp:plain a=true)(hz:nz1 a=a):K9 n β a=a:=by
 cases a with
 |nil=>simp[nz1]at hz
 |sl els tok=>cases tok<;>simp_all [nz1,K9]
 |ptr _ _=>simp[plain]at hp
 |row _ _ _ _ _=>simp[plain]at hp
 |ps _ _=>simp[plain]at hp
 |bb _ _ _=>simp[plain]at hp
 |_=>rfl
theorem d3s{n:Nat}{β:Option Nat}{a:AV}(hp:plain a=true):b8t n β a=a:=by
 cases a with
 |sl els tok=>cases tok<;>first|rfl|simp_all [plain]
 |ptr _ _=>simp[plain]at hp
 |row _ _ _ _ _=>simp[plain]at hp
 |ps _ _=>simp[plain]at hp
 |bb _ _ _=>simp[plain]at hp
 |_=>rfl
theorem c9h{a:AV}(hp:plain a=true):ok1 a=true:=by
 cases a with
 |sl els tok=>cases tok<;>first|exact hp|simp_all [plain,ok1]
 |ptr _ _=>simp[plain]at hp
 |row _ _ _ _ _=>simp[plain]at hp
 |ps _ _=>simp[plain]at hp
 |bb _ _ _=>simp[plain]at hp
 |_=>exact hp
theorem b0a.mem(he:b0a e sz){l:List α}{a:AV}(h:a∈cellsOf e l):plain a=true/\nz1 a=a:=by
 unfold cellsOf at h;obtain⟨c,hc,ha⟩:=List.mem_flatten.1 h;obtain⟨y,_,rfl⟩:=List.mem_map.1 hc;refine⟨b9c (he.hp y) a ha,?_⟩;obtain⟨i,hi⟩:=List.mem_iff_getElem?.1 ha;have:=congrArg (fun l=>l[i]?) (he.hz y);simpa[List.getElem?_map,hi]using this
theorem c63{f:AV->AV}{l:List AV}(h:∀a∈l,f a=a):l.map f=l:=by
 induction l with
 |nil=>rfl
 |cons a l ih=>rw[List.map_cons,h a List.mem_cons_self,ih fun b hb=>h b (List.mem_cons_of_mem _ hb)]
theorem b0a.smol(he:b0a e sz)(n:Nat)(β:Option Nat)(l:List α):(cellsOf e l).map (K9 n β)=cellsOf e l:=c63 fun a ha=>c72 (he.mem ha).1 (he.mem ha).2
theorem b0a.big(he:b0a e sz)(n:Nat)(β:Option Nat)(l:List α):(cellsOf e l).map (b8t n β)=cellsOf e l:=c63 fun a ha=>d3s (he.mem ha).1
theorem b0a.ok(he:b0a e sz)(l:List α):(cellsOf e l).all ok1=true:=List.all_eq_true.2 fun a ha=>c9h (he.mem ha).1
theorem d1u{l:List AV}(h:∀a∈l,plain a=true):plainL l=true:=by
 induction l with
 |nil=>rfl
 |cons a l ih=>simp only[plainL,Bool.and_eq_true];exact⟨h a List.mem_cons_self,ih fun b hb=>h b (List.mem_cons_of_mem _ hb)⟩
theorem b0a.plain(he:b0a e sz)(l:List α):plainL (cellsOf e l)=true:=d1u fun a ha=>(he.mem ha).1
end
def cdN(P:Program)(f:Nat):Nat:=((A7 P f).map fun x=>x.1).getD 0
def cdC(P:Program)(f:Nat):A0:=((A7 P f).map fun x=>x.2.1).getD .skip
def cdR(P:Program)(f:Nat):List a9d:=((A7 P f).map fun x=>x.2.2).getD []
def m26(o:AOp)(env:Env):Option AV:=
 match o with
 |.len true x=>match x.ev env with
  |some (.v (.string s))=>some (.v (.int .i64 s.size))
  |_=>none
 |.bin .eql x y=>match x.ev env,y.ev env with
  |some (.v (.string a)),some (.v (.string b))=>some (.v (.bool (decide (a=b))))
  |_,_=>none
 |.bin .neq x y=>match x.ev env,y.ev env with
  |some (.v (.string a)),some (.v (.string b))=>some (.v (.bool (!decide (a=b))))
  |_,_=>none
 |.bin .lss x y=>match x.ev env,y.ev env with
  |some (.v (.string a)),some (.v (.string b))=>some (.v (.bool (Op.bytesLess a.toList b.toList)))
  |_,_=>none
 |.bin .leq x y=>match x.ev env,y.ev env with
  |some (.v (.string a)),some (.v (.string b))=>some (.v (.bool (Op.bytesLess a.toList b.toList||a.toList==b.toList)))
  |_,_=>none
 |.bin .gtr x y=>match x.ev env,y.ev env with
  |some (.v (.string a)),some (.v (.string b))=>some (.v (.bool (!(Op.bytesLess a.toList b.toList||a.toList==b.toList))))
  |_,_=>none
 |.bin .geq x y=>match x.ev env,y.ev env with
  |some (.v (.string a)),some (.v (.string b))=>some (.v (.bool (!(Op.bytesLess a.toList b.toList))))
  |_,_=>none
 |.pick c x y=>match c.ev env,x.ev env,y.ev env with
  |some (.v (.bool t)),some (.v (.bool a)),some (.v (.bool b))=>some (.v (.bool (bif t then a else b)))
  |some (.v (.bool t)),some (.v (.int k a)),some (.v (.int k2 b))=>if k=k2 then some (.v (.int k (bif t then a else b))) else none
  |some (.v (.bool t)),some (.v (.string a)),some (.v (.string b))=>some (.v (.string (bif t then a else b)))
  |_,_,_=>none
 |.minmax true [x,y]=>match x.ev env,y.ev env with
  |some (.v (.int k a)),some (.v (.int _ b))=>some (.v (.int k (max a b)))
  |_,_=>none
 |.minmax false [x,y]=>match x.ev env,y.ev env with
  |some (.v (.int k a)),some (.v (.int _ b))=>some (.v (.int k (min a b)))
  |_,_=>none
 |.minmax true [x,y,z]=>match x.ev env,y.ev env,z.ev env with
  |some (.v (.int k a)),some (.v (.int _ b)),some (.v (.int _ c))=>some (.v (.int k (max (max a b) c)))
  |_,_,_=>none
 |.minmax false [x,y,z]=>match x.ev env,y.ev env,z.ev env with
  |some (.v (.int k a)),some (.v (.int _ b)),some (.v (.int _ c))=>some (.v (.int k (min (min a b) c)))
  |_,_,_=>none
 |_=>none
theorem c6s{P:Program}{o:AOp}{env:Env}{av:AV}(he:m26 o env=some av)(h:A2):Z3 P o env h av h:=by
 unfold m26 at he;split at he
 case h_1=>
  split at he
  ·rename_i hx;cases he;exact i1m hx
  ·cases he
 case h_2=>
  split at he
  ·rename_i hx hy;cases he;exact m37 hx hy
  ·cases he
 case h_3=>
  split at he
  ·rename_i hx hy;cases he;exact n23 hx hy
  ·cases he
 case h_4=>
  split at he
  ·rename_i hx hy;cases he;exact c4p hx hy (c:=True) rfl trivial
  ·cases he
 case h_5=>
  split at he
  ·rename_i hx hy;cases he;exact c4p hx hy (c:=True) rfl trivial
  ·cases he
 case h_6=>
  split at he
  ·rename_i hx hy;cases he;exact c4p hx hy (c:=True) rfl trivial
  ·cases he
 case h_7=>
  split at he
  ·rename_i hx hy;cases he;exact c4p hx hy (c:=True) rfl trivial
  ·cases he
 case h_8=>
  split at he
  ·rename_i hc hx hy;cases he;exact g8n hc hx hy
  ·rename_i hc hx hy;split at he
   ·rename_i hk;subst hk;cases he;exact g6y hc hx hy
   ·cases he
  ·rename_i hc hx hy;cases he;exact f23 hc hx hy
  ·cases he
 case h_9=>
  split at he
  ·rename_i hx hy;cases he;exact i2i hx hy
  ·cases he
 case h_10=>
  split at he
  ·rename_i hx hy;cases he;exact i4b hx hy
  ·cases he
 case h_11=>
  split at he
  ·rename_i hx hy hz;cases he;exact h6g hx hy hz
  ·cases he
 case h_12=>
  split at he
  ·rename_i hx hy hz;cases he;exact h8c hx hy hz
  ·cases he
 case h_13=>cases he
inductive Fr where
 |sq (y:A0)
 |bk (i:Nat)
 |lp (x:A0)
 |sc (l:Nat) (x:A0)
 |sn
inductive Pc where
 |c (x:A0)
 |v (L:List C3)
 |s (b:Bool) (L:List C3) (S gl:List (Nat × List AV)) (w:Option C3) (tl:List C3)
 |n (e:Exit)
 |l (x:A0)
 |g (l:Nat) (x:A0)
structure Mc where
 pc:Pc
 k:List Fr
 env:Env
 h:A2
inductive Rm where
 |ret (r:AV)
 |io (k:Nat) (r:AV) (c:List AV) (b:List (Nat × Nat))
def Rm.kb:Rm->Nat
 |.ret _=>0
 |_=>1
def Rm.kf:Rm->Nat
 |.ret _=>0
 |.io k _ _ _=>k
def Rm.Q(rs:List a9d):Rm->Exit->Env->A2->Prop
 |.ret r=>h1h rs r
 |.io k r c b=>qio k rs r c b
section
variable (P:Program) (f:Nat) (R:Rm)
def Qs:List Fr->Exit->Env->A2->Prop
 |[]=>R.Q (cdR P f)
 |.sq y::k=>c3w (fun e h=>D P (cdN P f) R.kb R.kf y (Qs k) e h) (Qs k)
 |.bk i::k=>b1l i (Qs k)
 |.lp x::k=>c3w (fun e h=>DL P (cdN P f) R.kb R.kf x (Qs k) e h) (Qs k)
 |.sc l x::k=>d0n l (fun e h=>DG P (cdN P f) R.kb R.kf x l (Qs k) e h) (Qs k)
 |.sn::k=>c4l (Qs k)
def KK(w:Option C3)(tl:List C3)(K:Env->A2->Prop):Env->A2->Prop:=match w with
 |none=>fun e h=>vd P tl e h K
 |some w=>fun e h=>∃av h',Z3 P w.op e h av h'/\vd P tl e h' K
def Ok(s:Mc):Prop:=match s.pc with
 |.c x=>D P (cdN P f) R.kb R.kf x (Qs P f R s.k) s.env s.h
 |.v L=>vd P L s.env s.h (fun e h=>Qs P f R s.k .normal e h)
 |.s b L S gl w tl=>vs P (InS S gl) b L s.env s.h (KK P w tl fun e h=>Qs P f R s.k .normal e h)
 |.n e=>Qs P f R s.k e s.env s.h
 |.l x=>DL P (cdN P f) R.kb R.kf x (Qs P f R s.k) s.env s.h
 |.g l x=>DG P (cdN P f) R.kb R.kf x l (Qs P f R s.k) s.env s.h
end
def b1p:A0->Option Nat
 |.goto l=>some l
 |.seq a b=>match b1p a with
  |some l=>some l
  |none=>b1p b
 |.cond _ a b=>match b1p a with
  |some l=>some l
  |none=>b1p b
 |.block _ a=>b1p a
 |.loop a=>b1p a
 |.scope a=>b1p a
 |_=>none
def pop:Exit->List Fr->Option (Pc × List Fr)
 |_,[]=>none
 |e,.sq y::k=>match e with
  |.normal=>some (.c y,k)
  |e=>some (.n e,k)
 |e,.lp x::k=>match e with
  |.normal=>some (.l x,k)
  |e=>some (.n e,k)
 |e,.bk j::k=>match e with
  |.exit i=>some (.n (if i=j then .normal else .exit i),k)
  |e=>some (.n e,k)
 |e,.sc l x::k=>match e with
  |.goto i=>if i=l then some (.g l x,k) else none
  |e=>some (.n e,k)
 |e,.sn::k=>match e with
  |.goto _=>none
  |e=>some (.n e,k)
def bnd(S:List (Nat × List AV)):Nat:=S.foldl (fun n p=>max n (p.1+1)) 0
def opn(o:C3)(env:Env)(h:A2):Option (AV × A2):=match m26 o.op env with
 |some a=>some (a,h)
 |none=>b55 false noC o.op env h
def b8i(s:Mc):Mc:=match s.pc with
 |.c x=>match x with
  |.skip=>⟨.n .normal,s.k,s.env,s.h⟩
  |.region L=>⟨.v L,s.k,s.env,s.h⟩
  |.seq a b=>⟨.c a,.sq b::s.k,s.env,s.h⟩
  |.block i a=>⟨.c a,.bk i::s.k,s.env,s.h⟩
  |.cond c a b=>match c.ev s.env with
   |some (.v (.bool true))=>⟨.c a,s.k,s.env,s.h⟩
   |some (.v (.bool false))=>⟨.c b,s.k,s.env,s.h⟩
   |_=>s
  |.loop a=>⟨.l a,s.k,s.env,s.h⟩
  |.exit i=>⟨.n (.exit i),s.k,s.env,s.h⟩
  |.ret=>⟨.n .ret,s.k,s.env,s.h⟩
  |.scope a=>match b1p a with
   |none=>⟨.c a,.sn::s.k,s.env,s.h⟩
   |some l=>match a5m a l with
    |some _=>⟨.c a,.sc l a::s.k,s.env,s.h⟩
    |none=>s
  |.label _=>⟨.n .normal,s.k,s.env,s.h⟩
  |.goto l=>⟨.n (.goto l),s.k,s.env,s.h⟩
  |_=>s
 |.v []=>⟨.n .normal,s.k,s.env,s.h⟩
 |.v (o::L)=>match H1 s.env o.guard with
  |some false=>⟨.v L,s.k,a7z s.env o.dst,s.h⟩
  |some true=>match opn o s.env s.h with
   |some p=>⟨.v L,s.k,a7c s.env o.dst p.1,p.2⟩
   |none=>s
  |none=>s
 |.s _ [] _ _ none tl=>⟨.v tl,s.k,s.env,s.h⟩
 |.s _ [] _ _ (some _) _=>s
 |.s b (o::L) S gl w tl=>match H1 s.env o.guard with
  |some false=>⟨.s b L S gl w tl,s.k,a7z s.env o.dst,s.h⟩
  |some true=>match o.op,o.guard,b with
   |.alloc cells,none,true=>⟨.s b L S gl w tl,s.k,a7c s.env o.dst (.ptr s.h.blks.length 0),⟨s.h.blks++[some cells],s.h.bufs,s.h.globs⟩⟩
   |_,_,_=>if P5 o.op=true then match opn o s.env ⟨c38 (bnd S) S,[],gl⟩ with
    |some p=>⟨.s b L S gl w tl,s.k,a7c s.env o.dst p.1,s.h⟩
    |none=>s
    else s
  |none=>s
 |.n e=>match pop e s.k with
  |some p=>⟨p.1,p.2,s.env,s.h⟩
  |none=>s
 |.l x=>⟨.c x,.lp x::s.k,s.env,s.h⟩
 |.g l x=>match a5m x l with
  |some y=>⟨.c y,.sc l x::s.k,s.env,s.h⟩
  |none=>s
def run:Nat->Mc->Mc
 |0,s=>s
 |n+1,s=>run n (b8i s)
section
variable {P:Program}{f:Nat}{R:Rm}{s:Mc}
theorem c9i:∀k,b5p fun e h=>Qs P f R k .normal e h
 |[]=>by cases R<;>first|exact k21|exact m5x
 |.sq y::k=>n9i
 |.bk i::k=>c9i k
 |.lp x::k=>h8l
 |.sc l x::k=>c9i k
 |.sn::k=>c9i k
theorem m5s{w:Option C3}{tl:List C3}{K:Env->A2->Prop}(hK:b5p K):b5p (KK P w tl K):=by
 cases w with
 |none=>exact m4f hK
 |some w=>exact fun e env h he ⟨av,h',hd,hv⟩=>⟨av,h',hd.less he,b3d hK he hv⟩
theorem d1m{n:Nat}{S gl:List (Nat × List AV)}{o:C3}{env:Env}{p:AV × A2}(hq:P5 o.op=true)(he:opn o env ⟨c38 n S,[],gl⟩=some p):∀h2,InS S gl h2->b75 P o.op env h2 p.1:=by
 unfold opn at he;split at he
 ·rename_i a ha;cases he;exact fun h2 _=>(c6s ha h2).q
 ·exact d11 hq he
theorem c59{o:C3}{env:Env}{h:A2}{p:AV × A2}(he:opn o env h=some p):Z3 P o.op env h p.1 p.2:=by
 unfold opn at he;split at he
 ·rename_i a ha;cases he;exact c6s ha h
 ·exact j3y he
theorem j8n{e:Exit}{k:List Fr}{p:Pc × List Fr}{env:Env}{h:A2}(hp:pop e k=some p)(hk:Ok P f R ⟨p.1,p.2,env,h⟩):Qs P f R k e env h:=by
 cases k with
 |nil=>cases hp
 |cons fr k=>
  cases fr with
  |sq y=>cases e<;>(cases hp;exact hk)
  |lp x=>cases e<;>(cases hp;exact hk)
  |bk j=>
   cases e with
   |exit i=>
    cases hp;show(if i=j then Qs P f R k .normal env h else Qs P f R k (.exit i) env h);split
    ·rename_i hij;rw[if_pos hij]at hk;exact hk
    ·rename_i hij;rw[if_neg hij]at hk;exact hk
   |_=>cases hp;exact hk
  |sc l x=>
   cases e
   case goto i=>
    simp only[pop]at hp;split at hp
    ·rename_i hil;cases hp;exact⟨hil,hk⟩
    ·cases hp
   all_goals (cases hp;exact hk)
  |sn=>cases e<;>(cases hp;try exact hk)
theorem g8w(hk:Ok P f R (b8i s)):Ok P f R s:=by
 obtain⟨pc,k,env,h⟩:=s;cases pc with
 |c x=>
  cases x with
  |skip=>exact i7r hk
  |region L=>exact dr hk
  |seq a b=>exact e4r hk
  |block i a=>exact d4k hk
  |loop a=>exact f09 hk
  |exit i=>exact j53 hk
  |ret=>exact n8e hk
  |label _=>exact g9n hk
  |goto l=>exact l07 hk
  |cond c a b=>
   simp only[b8i]at hk;split at hk
   ·rename_i hc;exact d61 hc rfl hk
   ·rename_i hc;exact d4t hc rfl hk
   ·exact hk
  |scope a=>
   simp only[b8i]at hk;split at hk
   ·exact d5f hk
   ·split at hk
    ·rename_i hf;exact d8a hf hk
    ·exact hk
  |_=>exact hk
 |v L=>
  cases L with
  |nil=>exact hk
  |cons o L=>
   simp only[b8i]at hk;split at hk
   ·rename_i hg;exact .inl ⟨hg,hk⟩
   ·rename_i hg;split at hk
    ·rename_i p hp;exact .inr (.inl ⟨hg,p.1,p.2,c59 hp,hk⟩)
    ·exact hk
   ·exact hk
 |s b L S gl w tl=>
  cases L with
  |nil=>cases w<;>exact hk
  |cons o L=>
   simp only[b8i]at hk;split at hk
   ·rename_i hg;exact .inl ⟨hg,hk⟩
   ·rename_i hg;split at hk
    ·rename_i cells h1 h2;exact .inr (.inr (.inr ⟨rfl,cells,h1,h2,hk⟩))
    ·split at hk
     ·rename_i hq;split at hk
      ·rename_i p hp;exact .inr (.inl ⟨hg,hq,p.1,d1m hq hp,hk⟩)
      ·exact hk
     ·exact hk
   ·exact hk
 |n e=>
  simp only[b8i]at hk;split at hk
  ·rename_i p hp;exact j8n hp hk
  ·exact hk
 |l x=>exact d0t hk
 |g l x=>
  simp only[b8i]at hk;split at hk
  ·rename_i hf;exact c88 hf hk
  ·exact hk
theorem K0:∀(n:Nat) {s:Mc},Ok P f R (run n s)->Ok P f R s
 |0,_,hk=>hk
 |n+1,_,hk=>g8w (K0 n hk)
theorem b7y{e:Env}(he:b2d e s.env)(hc:(match s.pc with|.n _=>false|.g _ _=>false|_=>true)=true)(hk:Ok P f R ⟨s.pc,s.k,e,s.h⟩):Ok P f R s:=by
 obtain⟨pc,k,env,h⟩:=s;cases pc with
 |c x=>exact n9i e env h he hk
 |v L=>exact b3d (c9i k) he hk
 |s b L S gl w tl=>exact b7k (m5s (c9i k)) he hk
 |l x=>exact h8l e env h he hk
 |_=>cases hc
end
structure En(α:Type) where
 e:α->List AV
 f:α->List AV
 sz:Nat
 eq:∀y,f y=e y
 len:∀y,(e y).length=sz
 ro:b0a f sz
def oX:AOp->F7
 |.idxSl _ x _=>x
 |.idxS x _=>x
 |.len _ x=>x
 |.bin _ x _=>x
 |.sliceS x _ _=>x
 |.sliceV _ x _ _ _=>x
 |.append _ _ _ x _=>x
 |.conv _ x=>x
 |.bytes x=>x
 |.load _ x=>x
 |.store _ p _=>p
 |.make _ _ _ x _=>x
 |.call f _=>f
 |.eq _ _ x _=>x
 |.next x=>x
 |.assertT _ _ _ x=>x
 |_=>.t 0
def oY:AOp->F7
 |.idxSl _ _ i=>i
 |.idxS _ i=>i
 |.bin _ _ y=>y
 |.append _ _ _ _ y=>y
 |.store _ _ x=>x
 |.make _ _ _ _ y=>y
 |.eq _ _ _ y=>y
 |_=>.t 0
def oE:AOp->TypeId
 |.append e _ _ _ _=>e
 |_=>0
def oA:AOp->List F7
 |.call _ l=>l
 |_=>[]
def oLo:AOp->Option F7
 |.sliceS _ l _=>l
 |.sliceV _ _ l _ _=>l
 |_=>none
def oHi:AOp->Option F7
 |.sliceS _ _ l=>l
 |.sliceV _ _ _ l _=>l
 |_=>none
def oMx:AOp->F7
 |.sliceV _ _ _ _ (some m)=>m
 |_=>.t 0
def opS(s:Mc):C3:=match s.pc with
 |.v (o::_)=>o
 |.s _ (o::_) _ _ _ _=>o
 |.s _ [] _ _ (some w) _=>w
 |_=>⟨none,.alloc [],none⟩
def op(s:Mc):AOp:=(opS s).op
def put(s:Mc)(av:AV):Mc:=match s.pc with
 |.v (o::L)=>⟨.v L,s.k,a7c s.env o.dst av,s.h⟩
 |.s b (o::L) S gl w tl=>⟨.s b L S gl w tl,s.k,a7c s.env o.dst av,s.h⟩
 |_=>s
def c85(s:Mc)(av:AV)(h:A2):Mc:=match s.pc with
 |.v (o::L)=>⟨.v L,s.k,a7c s.env o.dst av,h⟩
 |.s _ (o::L) S gl w tl=>⟨.s false L S gl w tl,s.k,a7c s.env o.dst av,h⟩
 |.s _ [] _ _ (some _) tl=>⟨.v tl,s.k,s.env,h⟩
 |_=>s
def okS(s:Mc):Bool:=match s.pc with
 |.v (o::_)=>H1 s.env o.guard==some true
 |.s _ (o::_) _ _ _ _=>H1 s.env o.guard==some true&&P5 o.op
 |_=>false
def okH(s:Mc):Bool:=match s.pc with
 |.v (o::_)=>H1 s.env o.guard==some true
 |.s _ (o::_) _ _ _ _=>H1 s.env o.guard==some true&& !P5 o.op&& !b9z o
 |.s _ [] _ _ (some _) _=>true
 |_=>false
def seS(s:Mc)(h:A2):Option (List (Option (Option (List AV))) × List (Nat × List AV)):=match s.pc with
 |.s _ (_::_) S _ _ _=>some (inS S h,h.globs)
 |_=>none
def seE(s:Mc):Option (List (Option (Option (List AV))) × List (Nat × List AV)):=match s.pc with
 |.s _ (_::_) S gl _ _=>some (S.map (fun p=>some (some p.2)),gl)
 |_=>none
def k5k(s:Mc)(h:A2):Prop:=match s.pc with
 |.s _ _ S gl _ _=>InS S gl h
 |_=>h=s.h
def d3m(s:Mc):List (Nat × List AV):=match s.pc with
 |.s _ _ _ gl _ _=>gl
 |_=>s.h.globs
def l6g(s:Mc)(r:Nat):Option (List AV):=match s.pc with
 |.s _ _ S _ _ _=>(S.find? fun p=>p.1==r).map (·.2)
 |_=>(s.h.blks[r]?).bind id
def xv(s:Mc):Option AV:=(oX (op s)).ev s.env
def yv(s:Mc):Option AV:=(oY (op s)).ev s.env
def n9t(x:Option AV):ByteArray:=match x with
 |some (.v (.string t))=>t
 |_=>⟨#[]⟩
def j79(x:Option AV):Nat:=match x with
 |some (.sl _ (.own i))=>i
 |_=>0
def d1c(x:Option AV):Nat:=match x with
 |some (.row r _ _ _ _)=>r
 |some (.ptr r _)=>r
 |_=>0
def o3p(x:Option AV):Nat:=match x with
 |some (.row _ _ _ _ c)=>c
 |_=>0
section
variable {P:Program}{f:Nat}{R:Rm}{s:Mc}
theorem b6w{h:A2}(hs:k5k s h):h.globs=d3m s:=by
 unfold k5k at hs;unfold d3m;split at hs
 ·exact hs.2
 ·subst hs;rfl
theorem c51{h:A2}{r:Nat}{c:List AV}(hs:k5k s h)(hr:l6g s r=some c):h.blks[r]? =some (some c):=by
 unfold k5k at hs;unfold l6g at hr;split at hs
 ·rename_i hp;rw[hp]at hr;simp only[Option.map_eq_some_iff]at hr;obtain⟨p,h1,rfl⟩:=hr;have h2:=List.find?_some h1;have h3:p.1=r:=by simpa using h2
  subst h3;exact hs.1 _ _ (List.mem_of_find?_eq_some h1)
 ·rename_i hp;subst hs;split at hr
  ·rename_i hq;exact absurd hq (hp _ _ _ _ _ _)
  ·obtain⟨x,h1,h2⟩:=Option.bind_eq_some_iff.1 hr;rw[h1];exact congrArg some h2
theorem c1o{av:AV}(hd:∀h,k5k s h->Z3 P (op s) s.env h av h)(hk:Ok P f R (put s av))(hc:okS s=true):Ok P f R s:=by
 obtain⟨pc,k,env,h⟩:=s;cases pc with
 |v L=>
  cases L with
  |nil=>cases hc
  |cons o L=>exact .inr (.inl ⟨by simpa[okS]using hc,av,h,hd h rfl,hk⟩)
 |s b L S gl w tl=>
  cases L with
  |nil=>cases hc
  |cons o L=>
   have hc':H1 env o.guard=some true/\P5 o.op=true:=by simpa[okS]using hc
   exact .inr (.inl ⟨hc'.1,hc'.2,av,fun h2 hi=>(hd h2 hi).q,hk⟩)
 |_=>cases hc
theorem a6b{av:AV}{h':A2}(hd:Z3 P (op s) s.env s.h av h')(hk:Ok P f R (c85 s av h'))(hc:okH s=true)(hs:seS s h'=seE s):Ok P f R s:=by
 obtain⟨pc,k,env,h⟩:=s;cases pc with
 |v L=>
  cases L with
  |nil=>cases hc
  |cons o L=>exact .inr (.inl ⟨by simpa[okH]using hc,av,h',hd,hk⟩)
 |s b L S gl w tl=>
  cases L with
  |nil=>
   cases w with
   |none=>cases hc
   |some w=>exact⟨av,h',hd,hk⟩
  |cons o L=>
   have hc':(H1 env o.guard=some true/\P5 o.op=false)/\b9z o=false:=by simpa[okH]using hc
   have hs':inS S h'=S.map (fun p=>some (some p.2))/\h'.globs=gl:=by simpa[seS,seE]using hs
   exact .inr (.inr (.inl ⟨hc'.1.1,hc'.1.2,hc'.2,av,h',hd,d8u hs'.1 hs'.2,hk⟩))
 |_=>cases hc
theorem ev0(m:Nat){av:AV}(hd:∀h,Z3 P (op (run m s)) (run m s).env h av h)(hk:Ok P f R (put (run m s) av))(hc:okS (run m s)=true):Ok P f R s:=K0 m (c1o (fun h _=>hd h) hk hc)
variable {α:Type}{W:α->Prop}{p q:Prop}
theorem KI(m:Nat)(E:En α){l:List α}{n:Int}(hw:∃y,l[n.toNat]? =some y/\0<=n/\W y)(hk:∀y,W y->Ok P f R (put (run m s) (.elt (E.e y) 0)))(hc:okS (run m s)=true:=by kernel_rfl)(ho:op (run m s)=.idxSl E.sz (oX (op (run m s))) (oY (op (run m s))):=by kernel_rfl)(hx:b2w (xv (run m s))=some (List.map E.f l):=by kernel_rfl)(hi:b1i (yv (run m s))=some n:=by kernel_rfl):Ok P f R s:=by
 obtain⟨y,h1,h0,hw⟩:=hw;exact ev0 m (fun h=>by rw[ho];exact l9w h0 h1 (E.eq y) hx hi (E.len y)) (hk y hw) hc
theorem KL(m:Nat)(E:En α)(l:List α)(hk:Ok P f R (put (run m s) (.v (.int .i64 l.length))))(hc:okS (run m s)=true:=by kernel_rfl)(ho:op (run m s)=.len false (oX (op (run m s))):=by kernel_rfl)(hx:b2w (xv (run m s))=some (List.map E.f l):=by kernel_rfl):Ok P f R s:=ev0 m (fun h=>by rw[ho];exact n1k l E.f hx) hk hc
theorem KC(m:Nat){g:FuncId}{gl:List (Nat × List AV)}{args:List AV}{e:α->AV}(hw:∃y,C6 P gl g args (e y)/\W y)(hp:plainL args=true)(hk:∀y,W y->Ok P f R (put (run m s) (e y)))(hc:okS (run m s)=true:=by kernel_rfl)(ho:op (run m s)=.call (.c (.clo (.func g) [] [])) (oA (op (run m s))):=by kernel_rfl)(ha:(evs (run m s).env (oA (op (run m s)))).map (List.map nz)=some args:=by kernel_rfl)(hg:d3m (run m s)=gl:=by kernel_rfl)(hgl:J7 gl=true:=by kernel_rfl):Ok P f R s:=by
 obtain⟨y,h1,hw⟩:=hw;subst hg;refine K0 m (c1o (fun h hs=>?_) (hk y hw) hc);rw[ho];rw[<-b6w hs]at h1 hgl;exact j21 h1 hp ha hgl
theorem KF(m:Nat){gl:List (Nat × List AV)}{args:List AV}{F:AV}{e:α->AV}(hw:∃y,a5u P gl F args (e y)/\W y)(hk:∀y,W y->Ok P f R (put (run m s) (e y)))(hc:okS (run m s)=true:=by kernel_rfl)(ho:op (run m s)=.call (oX (op (run m s))) (oA (op (run m s))):=by kernel_rfl)(hf:xv (run m s)=some F:=by kernel_rfl)(ha:(evs (run m s).env (oA (op (run m s)))).map (List.map nz)=some args:=by kernel_rfl)(hg:d3m (run m s)=gl:=by kernel_rfl)(hgl:J7 gl=true:=by kernel_rfl):Ok P f R s:=by
 obtain⟨y,h1,hw⟩:=hw;subst hg;refine K0 m (c1o (fun h hs=>?_) (hk y hw) hc);rw[ho];rw[<-b6w hs]at h1 hgl;exact g2e h1 hf ha hgl
theorem KIS(m:Nat){t:ByteArray}{n:Int}(hw:(0<=n/\n<(t.size:Int))/\p)(hk:p->Ok P f R (put (run m s) (.v (.int .u8 (D0 t n.toNat)))))(hc:okS (run m s)=true:=by kernel_rfl)(ho:op (run m s)=.idxS (oX (op (run m s))) (oY (op (run m s))):=by kernel_rfl)(hx:xv (run m s)=some (.v (.string t)):=by kernel_rfl)(hi:b1i (yv (run m s))=some n:=by kernel_rfl):Ok P f R s:=ev0 m (fun h=>by rw[ho];exact l5l hw.1 hx hi) (hk hw.2) hc
theorem KSS(m:Nat){t:ByteArray}{a u:Int}(hw:(0<=a/\a<=u/\u<=(t.size:Int))/\p)(hk:p->Ok P f R (put (run m s) (.v (.string (t.extract a.toNat u.toNat)))))(hc:okS (run m s)=true:=by kernel_rfl)(ho:op (run m s)=.sliceS (oX (op (run m s))) (oLo (op (run m s))) (oHi (op (run m s))):=by kernel_rfl)(hx:xv (run m s)=some (.v (.string t)):=by kernel_rfl)(h3:(evo (run m s).env (oLo (op (run m s)))).bind (D5 0)=some a:=by kernel_rfl)(h4:(evo (run m s).env (oHi (op (run m s)))).bind (D5 t.size)=some u:=by kernel_rfl):Ok P f R s:=ev0 m (fun h=>by rw[ho];exact d4x hw.1 hx h3 h4) (hk hw.2) hc
theorem KSV(m:Nat)(E:En α){l:List α}{a u:Int}(hw:(0<=a/\a<=u/\u<=(l.length:Int))/\p)(hk:p->Ok P f R (put (run m s) (.sl (List.map E.f ((l.take u.toNat).drop a.toNat)) .no)))(hc:okS (run m s)=true:=by kernel_rfl)(ho:op (run m s)=.sliceV E.sz (oX (op (run m s))) (oLo (op (run m s))) (oHi (op (run m s))) none:=by kernel_rfl)(hx:b2w (xv (run m s))=some (List.map E.f l):=by kernel_rfl)(h3:(evo (run m s).env (oLo (op (run m s)))).bind (D5 0)=some a:=by kernel_rfl)(h4:(evo (run m s).env (oHi (op (run m s)))).bind (D5 l.length)=some u:=by kernel_rfl)(h5:((oLo (op (run m s))).isSome||(oHi (op (run m s))).isSome)=true:=by kernel_rfl):Ok P f R s:=ev0 m (fun h=>by rw[ho];exact f82 hw.1 E.ro.hs hx h3 h4 h5) (hk hw.2) hc
theorem KSF(m:Nat)(E:En α){l:List α}{a u:Int}(hw:(0<=a/\a<=u/\u<=(l.length:Int))/\p)(hk:p->Ok P f R (put (run m s) (.sl (List.map E.f ((l.take u.toNat).drop a.toNat)) .full)))(hc:okS (run m s)=true:=by kernel_rfl)(ho:op (run m s)=.sliceV E.sz (oX (op (run m s))) (oLo (op (run m s))) (oHi (op (run m s))) (some (oMx (op (run m s)))):=by kernel_rfl)(hx:b2w (xv (run m s))=some (List.map E.f l):=by kernel_rfl)(h3:(evo (run m s).env (oLo (op (run m s)))).bind (D5 0)=some a:=by kernel_rfl)(h4:(evo (run m s).env (oHi (op (run m s)))).bind (D5 l.length)=some u:=by kernel_rfl)(h5:b1i ((oMx (op (run m s))).ev (run m s).env)=some u:=by kernel_rfl)(h6:(oHi (op (run m s))).isSome=true:=by kernel_rfl):Ok P f R s:=ev0 m (fun h=>by rw[ho];exact d6q hw.1 E.ro.hs hx h3 h4 h5 h6) (hk hw.2) hc
theorem m2e(m:Nat){a b:ByteArray}(hw:((a.size+b.size:Nat):Int)<=9223372036854775807/\p)(hk:p->Ok P f R (put (run m s) (.v (.string (a++b)))))(hc:okS (run m s)=true:=by kernel_rfl)(ho:op (run m s)=.bin .add (oX (op (run m s))) (oY (op (run m s))):=by kernel_rfl)(hx:xv (run m s)=some (.v (.string a)):=by kernel_rfl)(hy:yv (run m s)=some (.v (.string b)):=by kernel_rfl):Ok P f R s:=ev0 m (fun h=>by rw[ho];exact n7k hw.1 hx hy) (hk hw.2) hc
def HM(h:A2)(y:Option AV)(E:En α)(m:List α):Prop:=y.bind (b4o h E.sz)=some (List.map E.f m)
theorem mF{h:A2}{y:Option AV}{E:En α}{l:List α}(hm:y.bind (b4o h E.sz)=some (List.map E.f l):=by kernel_rfl):HM h y E l:=hm
theorem mE{h:A2}{y:Option AV}{E:En α}{l:List α}(hm:y.bind (b4o h E.sz)=some (List.map E.e l):=by kernel_rfl):HM h y E l:=by
 have:=funext E.eq;unfold HM;rw[this];exact hm
def HX(x:Option AV)(E:En α)(l:List α):Prop:=b2w x=some (List.map E.f l)
theorem KA0(m:Nat)(E:En α){l:List α}{b:Nat}(hw:l.length*b<=140737488355328/\p)(hm:HM (run m s).h (yv (run m s)) E l)(hk:p->Ok P f R (c85 (run m s) (.sl (List.map E.f l) (.own (run m s).h.bufs.length)) ⟨(run m s).h.blks,(run m s).h.bufs++[(l.length,E.sz)],(run m s).h.globs⟩))(hc:okH (run m s)=true:=by kernel_rfl)(hs:seS (run m s) ⟨(run m s).h.blks,(run m s).h.bufs++[(l.length,E.sz)],(run m s).h.globs⟩=seE (run m s):=by kernel_rfl)(ho:op (run m s)=.append (oE (op (run m s))) E.sz b (oX (op (run m s))) (oY (op (run m s))):=by kernel_rfl)(hx:xv (run m s)=some .nil:=by kernel_rfl):Ok P f R s:=K0 m (a6b (by rw[ho];exact i01 E.f l hw.1 E.ro.hs hm hx) (hk hw.2) hc hs)
theorem KA(m:Nat)(E:En α){l l2:List α}{b:Nat}(hw:(l.length+l2.length)*b<=140737488355328/\p)(hm:HM (run m s).h (yv (run m s)) E l2)(hk:p->Ok P f R (c85 (run m s) (.sl (List.map E.f (l++l2)) (.own (j79 (xv (run m s))))) ⟨(run m s).h.blks,(run m s).h.bufs.set (j79 (xv (run m s))) ((l++l2).length,E.sz),(run m s).h.globs⟩))(hc:okH (run m s)=true:=by kernel_rfl)(hs:seS (run m s) ⟨(run m s).h.blks,(run m s).h.bufs.set (j79 (xv (run m s))) ((l++l2).length,E.sz),(run m s).h.globs⟩=seE (run m s):=by kernel_rfl)(ho:op (run m s)=.append (oE (op (run m s))) E.sz b (oX (op (run m s))) (oY (op (run m s))):=by kernel_rfl)(hx:xv (run m s)=some (.sl (List.map E.f l) (.own (j79 (xv (run m s))))):=by kernel_rfl)(hb:(run m s).h.bufs[j79 (xv (run m s))]? =some (l.length,E.sz):=by kernel_rfl):Ok P f R s:=K0 m (a6b (by rw[ho];exact m4e _ E.f l l2 hw.1 E.ro.hs hm hx hb) (hk hw.2) hc hs)
theorem KY(m:Nat)(hk:Ok P f R (put (run m s) (.sl (List.map (fun n=>[AV.v (.int .u8 n)]) (bI (n9t (xv (run m s))))) .no)))(hc:okS (run m s)=true:=by kernel_rfl)(ho:op (run m s)=.bytes (oX (op (run m s))):=by kernel_rfl)(hx:xv (run m s)=some (.v (.string (n9t (xv (run m s))))):=by kernel_rfl):Ok P f R s:=ev0 m (fun h=>by rw[ho];exact f5s _ hx) hk hc
theorem KS(m:Nat){l:List Int}{W:ByteArray->Prop}(hw:∃t,l=bI t/\W t)(hk:∀t,W t->Ok P f R (put (run m s) (.v (.string t))))(hc:okS (run m s)=true:=by kernel_rfl)(ho:op (run m s)=.conv .str (oX (op (run m s))):=by kernel_rfl)(hx:b2w (xv (run m s))=some (List.map (fun n=>[AV.v (.int .u8 n)]) l):=by kernel_rfl):Ok P f R s:=by
 obtain⟨t,h1,hw⟩:=hw;exact ev0 m (fun h=>by rw[ho];exact m7u h1 hx) (hk t hw) hc
theorem KRI(m:Nat){len:Nat}{n:Int}(sz:Nat)(hw:(0<=n/\n<(len:Int))/\p)(hk:p->Ok P f R (put (run m s) (.ptr (d1c (xv (run m s))) (0+n.toNat*sz))))(hc:okS (run m s)=true:=by kernel_rfl)(ho:op (run m s)=.idxSl sz (oX (op (run m s))) (oY (op (run m s))):=by kernel_rfl)(hx:xv (run m s)=some (.row (d1c (xv (run m s))) 0 sz len (o3p (xv (run m s)))):=by kernel_rfl)(hi:b1i (yv (run m s))=some n:=by kernel_rfl):Ok P f R s:=ev0 m (fun h=>by rw[ho];exact k97 _ len _ hw.1 hx hi) (hk hw.2) hc
def atE(l:List AV)(k:Nat):AV:=l[k]?.getD .nil
theorem KR1(m:Nat)(E:En α)(k:Nat){l:List α}{i:Nat}(hw:∃y,l[i]? =some y/\W y)(hk:∀y,W y->Ok P f R (put (run m s) (atE (E.e y) k)))(hc:okS (run m s)=true:=by kernel_rfl)(ho:op (run m s)=.load none (oX (op (run m s))):=by kernel_rfl)(hx:xv (run m s)=some (.ptr (d1c (xv (run m s))) (0+i*E.sz+k)):=by kernel_rfl)(hr:l6g (run m s) (d1c (xv (run m s)))=some (cellsOf E.f l):=by kernel_rfl)(hb:Nat.ble (k+1) E.sz=true:=by kernel_rfl):Ok P f R s:=by
 obtain⟨y,h1,hw⟩:=hw;have hlt:k<E.sz:=Nat.le_of_ble_eq_true hb
 have hg:(E.f y)[k]? =some (atE (E.e y) k):=by
  rw[E.eq y];have:k<(E.e y).length:=by rw[E.len y];exact hlt
  simp[atE,this]
 exact K0 m (c1o (fun h hs=>by rw[ho];exact l55 E.ro.hs E.ro.hn h1 hlt hg (by omega) hx (c51 hs hr)) (hk y hw) hc)
theorem KRS(m:Nat)(E:En α)(z:α){l:List α}{i:Nat}(hw:i<l.length/\p)(hk:p->Ok P f R (c85 (run m s) (.tuple []) ⟨(run m s).h.blks.set (d1c (xv (run m s))) (some (cellsOf E.f (l.set i z))),(run m s).h.bufs,(run m s).h.globs⟩))(hc:okH (run m s)=true:=by kernel_rfl)(hs:seS (run m s) ⟨(run m s).h.blks.set (d1c (xv (run m s))) (some (cellsOf E.f (l.set i z))),(run m s).h.bufs,(run m s).h.globs⟩=seE (run m s):=by kernel_rfl)(ho:op (run m s)=.store E.sz (oX (op (run m s))) (oY (op (run m s))):=by kernel_rfl)(hx:xv (run m s)=some (.ptr (d1c (xv (run m s))) (0+i*E.sz)):=by kernel_rfl)(hy:(yv (run m s)).map (fun a=>(a.isTuple,a.cells))=some (false,E.e z):=by kernel_rfl)(hr:(run m s).h.blks[d1c (xv (run m s))]? =some (some (cellsOf E.f l)):=by kernel_rfl):Ok P f R s:=by
 obtain⟨a,h1,h2⟩:=Option.map_eq_some_iff.1 hy;have h3:=congrArg Prod.fst h2;have h4:=congrArg Prod.snd h2;exact K0 m (a6b (by rw[ho];exact m39 z E.ro.hs E.ro.hn hw.1 ((E.eq z).trans h4.symm) (Nat.zero_add _) hx h1 h3 hr) (hk hw.2) hc hs)
theorem KM(m:Nat)(E:En α)(z:α){L C:Int}{b:Nat}(hw:(0<=L/\L<=C/\C*b<=140737488355328)/\p)(hk:p->Ok P f R (c85 (run m s) (.row (run m s).h.blks.length 0 E.sz L.toNat C.toNat) ⟨(run m s).h.blks++[some (cellsOf E.f (List.replicate C.toNat z))],(run m s).h.bufs,(run m s).h.globs⟩))(hc:okH (run m s)=true:=by kernel_rfl)(hs:seS (run m s) ⟨(run m s).h.blks++[some (cellsOf E.f (List.replicate C.toNat z))],(run m s).h.bufs,(run m s).h.globs⟩=seE (run m s):=by kernel_rfl)(ho:op (run m s)=.make E.sz b (E.e z) (oX (op (run m s))) (oY (op (run m s))):=by kernel_rfl)(hx:b1i (xv (run m s))=some L:=by kernel_rfl)(hy:b1i (yv (run m s))=some C:=by kernel_rfl):Ok P f R s:=K0 m (a6b (by rw[ho];exact h2n E.f z L C hw.1 hx hy (E.eq z).symm (E.ro.hs z)) (hk hw.2) hc hs)
end
def gT(s:Mc):Nat:=match (opS s).guard with
 |some (t,_)=>t
 |none=>0
def cv(s:Mc):Option AV:=match s.pc with
 |.c (.cond c _ _)=>c.ev s.env
 |.v (⟨_,_,some (t,_)⟩::_)=>get s.env t
 |.s _ (⟨_,_,some (t,_)⟩::_) _ _ _ _=>get s.env t
 |_=>none
def br(s:Mc)(b:Bool):Mc:=match s.pc with
 |.c (.cond _ x y)=>⟨.c (if b=true then x else y),s.k,s.env,s.h⟩
 |.v (⟨d,o,some (t,w)⟩::L)=>⟨.v (⟨d,o,some (t,w)⟩::L),s.k,(t,.v (.bool b))::s.env,s.h⟩
 |.s b' (⟨d,o,some (t,w)⟩::L) S gl q tl=>⟨.s b' (⟨d,o,some (t,w)⟩::L) S gl q tl,s.k,(t,.v (.bool b))::s.env,s.h⟩
 |_=>s
section
variable {P:Program}{f:Nat}{R:Rm}{s:Mc}
theorem d09{B:Bool}(hv:cv s=some (.v (.bool B)))(h1:B=true->Ok P f R (br s true))(h2:B=false->Ok P f R (br s false)):Ok P f R s:=by
 obtain⟨pc,k,env,h⟩:=s;simp only[cv]at hv;split at hv
 ·exact d12 hv h1 h2
 ·cases hB:B with
  |true=>exact b7y (b1o hB hv) rfl (h1 hB)
  |false=>exact b7y (b1o hB hv) rfl (h2 hB)
 ·cases hB:B with
  |true=>exact b7y (b1o hB hv) rfl (h1 hB)
  |false=>exact b7y (b1o hB hv) rfl (h2 hB)
 ·cases hv
theorem KW(m:Nat){B:Bool}{p q:Prop}(hw:(B=true->p)/\(B=false->q))(h1:B=true->p->Ok P f R (br (run m s) true))(h2:B=false->q->Ok P f R (br (run m s) false))(hv:cv (run m s)=some (.v (.bool B)):=by kernel_rfl):Ok P f R s:=K0 m (d09 hv (fun h=>h1 h (hw.1 h)) fun h=>h2 h (hw.2 h))
theorem KKn(m:Nat){B b:Bool}(hB:B=b)(hk:Ok P f R (br (run m s) b))(hv:cv (run m s)=some (.v (.bool B)):=by kernel_rfl):Ok P f R s:=by
 subst hB;exact K0 m (d09 hv (fun h=>by rw[h]at hk;exact hk) fun h=>by rw[h]at hk;exact hk)
def dpc(n:Nat):Pc->Pc
 |.v L=>.v (L.drop n)
 |.s b L S gl w tl=>.s b (L.drop n) S gl w tl
 |x=>x
def jnD(s:Mc)(n:Nat):Nat:=match s.pc with
 |.v L=>(((L[n - 1]?).bind fun o=>o.dst)).getD 0
 |.s _ L _ _ _ _=>(((L[n - 1]?).bind fun o=>o.dst)).getD 0
 |_=>0
def jn(s:Mc)(n:Nat)(a:AV):Mc:=⟨dpc n s.pc,s.k,(jnD s n,a)::drop (gT s) s.env,s.h⟩
def b6b(s:Mc):Mc:=⟨s.pc,s.k,[],s.h⟩
def h9b(d t:Nat)(e env:Env):Bool:=(e.take (e.length - env.length)).all fun p=>p.1==t||p.1==d||(get env p.1).isNone
theorem e8i{d t:Nat}{a:AV}{e env:Env}(h1:get e d=some a)(h2:e.drop (e.length - env.length)=env)(h3:h9b d t e env=true):b2d ((d,a)::drop t env) e:=by
 intro u b hu;simp only[get]at hu;split at hu
 ·rename_i hd;subst hd;cases hu;exact h1
 ·rename_i hd
  have h4:u≠t:=by
   rintro rfl
   have:∀{e:Env},get (drop u e) u=none:=by
    intro e
    induction e with
    |nil=>rfl
    |cons q e ih=>
     obtain⟨v,c⟩:=q;simp only[drop];split
     ·exact ih
     ·rename_i hv;simp only[get];rw[if_neg hv];exact ih
   rw[this]at hu;cases hu
  have h5:get env u=some b:=by
   have:∀{e:Env},get (drop t e) u=get e u:=by
    intro e
    induction e with
    |nil=>rfl
    |cons q e ih=>
     obtain⟨v,c⟩:=q;simp only[drop];split
     ·rename_i hv;subst hv;simp only[get];rw[if_neg (fun h=>h4 h.symm)];exact ih
     ·simp only[get];rw[ih]
   rw[<-this];exact hu
  rw[<-List.take_append_drop (e.length - env.length) e,d1e,h2];split
  ·rename_i c hc;have hm:=c41 hc;have h6:=List.all_eq_true.1 h3 _ hm;simp only[Bool.or_eq_true,beq_iff_eq]at h6;rcases h6 with(h6|h6)|h6
   ·exact absurd h6 h4
   ·exact absurd h6.symm hd
   ·rw[h5]at h6;cases h6
  ·exact h5
def jnv(s:Mc)(n:Nat):Option (Bool × AV × AV × AV):=match cv s,get (run n (br s true)).env (jnD s n),get (run n (br s false)).env (jnD s n) with
 |some (.v (.bool B)),some (.v (.bool x)),some (.v (.bool y))=>some (B,.v (.bool (bif B then x else y)),.v (.bool x),.v (.bool y))
 |some (.v (.bool B)),some (.v (.int k x)),some (.v (.int _ y))=>some (B,.v (.int k (bif B then x else y)),.v (.int k x),.v (.int k y))
 |some (.v (.bool B)),some (.v (.string x)),some (.v (.string y))=>some (B,.v (.string (bif B then x else y)),.v (.string x),.v (.string y))
 |_,_,_=>none
def jnV(s:Mc)(n:Nat):AV:=((jnv s n).map fun p=>p.2.1).getD .nil
def met(s s1:Mc)(n:Nat):Bool:=h9b (jnD s n) (gT s) s1.env s.env&&(match s.pc with|.v _=>true|.s _ _ _ _ _ _=>true|_=>false)
theorem c68{s s1:Mc}{n:Nat}{a:AV}(hk:Ok P f R (jn s n a))(ha:get s1.env (jnD s n)=some a)(hb:b6b s1=b6b (jn s n a))(hd:s1.env.drop (s1.env.length - s.env.length)=s.env)(hf:met s s1 n=true):Ok P f R s1:=by
 obtain⟨pc1,k1,env1,h1⟩:=s1;obtain⟨pc,k,env,h⟩:=s;simp only[b6b,jn,Mc.mk.injEq]at hb;obtain⟨rfl,rfl, -,rfl⟩:=hb;simp only[met,Bool.and_eq_true]at hf;refine b7y (e8i ha hd hf.1) ?_ hk;cases pc<;>first|rfl|(cases hf.2)
theorem KT(m n:Nat)(hk:Ok P f R (jn (run m s) n (jnV (run m s) n)))(h0:((jnv (run m s) n).map fun p=>(some p.2.2.1,some p.2.2.2))=some (get (run n (br (run m s) true)).env (jnD (run m s) n),get (run n (br (run m s) false)).env (jnD (run m s) n)):=by kernel_rfl)(hb:(b6b (run n (br (run m s) true)),b6b (run n (br (run m s) false)))=(b6b (jn (run m s) n .nil),b6b (jn (run m s) n .nil)):=by kernel_rfl)(hd:((run n (br (run m s) true)).env.drop ((run n (br (run m s) true)).env.length - (run m s).env.length),(run n (br (run m s) false)).env.drop ((run n (br (run m s) false)).env.length - (run m s).env.length))=((run m s).env,(run m s).env):=by kernel_rfl)(hf:(met (run m s) (run n (br (run m s) true)) n&&met (run m s) (run n (br (run m s) false)) n)=true:=by kernel_rfl):Ok P f R s:=by
 refine K0 m ?_;generalize run m s=s0 at*;obtain⟨⟨B,a,x,y⟩,h1,h2⟩:=Option.map_eq_some_iff.1 h0;have hV:jnV s0 n=a:=by unfold jnV;rw[h1];rfl
 rw[hV]at hk
 have hc:cv s0=some (.v (.bool B))/\a=bif B then x else y:=by
  unfold jnv at h1;split at h1
  ·rename_i h _ _;cases h1;exact⟨h,by cases B<;>rfl⟩
  ·rename_i h _ _;cases h1;exact⟨h,by cases B<;>rfl⟩
  ·rename_i h _ _;cases h1;exact⟨h,by cases B<;>rfl⟩
  ·cases h1
 simp only[Prod.mk.injEq]at h2 hb hd;simp only[Bool.and_eq_true]at hf;refine d09 hc.1 (fun hB=>?_) (fun hB=>?_)
 ·have ha:=hc.2;rw[hB]at ha;subst ha;exact K0 n (c68 hk h2.1.symm hb.1 hd.1 hf.1)
 ·have ha:=hc.2;rw[hB]at ha;subst ha;exact K0 n (c68 hk h2.2.symm hb.2 hd.2 hf.2)
theorem KQ(m n:Nat){T:Type}(C:T->AV){B:Bool}{W:T->Prop}{p q:(T->Prop)->Prop}(hw:∃R:T->Prop,(∀z,R z->W z)/\((B=true->p R)/\(B=false->q R)))(hk:∀z,W z->Ok P f R (jn (run m s) n (C z)))(h1:∀U:T->Prop,(∀z,U z->Ok P f R (jn (run m s) n (C z)))->B=true->p U->Ok P f R (br (run m s) true))(h2:∀U:T->Prop,(∀z,U z->Ok P f R (jn (run m s) n (C z)))->B=false->q U->Ok P f R (br (run m s) false))(hv:cv (run m s)=some (.v (.bool B)):=by kernel_rfl):Ok P f R s:=by
 obtain⟨U,hU,h3,h4⟩:=hw;exact K0 m (d09 hv (fun h=>h1 U (fun z hz=>hk z (hU z hz)) h (h3 h)) fun h=>h2 U (fun z hz=>hk z (hU z hz)) h (h4 h))
theorem KE(m:Nat){T:Type}{U:T->Prop}{C:T->AV}{s0:Mc}{n:Nat}{z:T}(key:∀z,U z->Ok P f R (jn s0 n (C z)))(hw:U z)(ha:get (run m s).env (jnD s0 n)=some (C z):=by kernel_rfl)(hb:b6b (run m s)=b6b (jn s0 n (C z)):=by kernel_rfl)(hd:(run m s).env.drop ((run m s).env.length - s0.env.length)=s0.env:=by kernel_rfl)(hf:met s0 (run m s) n=true:=by kernel_rfl):Ok P f R s:=K0 m (c68 (key z hw) ha hb hd hf)
abbrev kB(b:Bool):AV:=.v (.bool b)
def So(I:List Nat)(h:A2):List (Nat × List AV):=I.map fun i=>(i,((h.blks[i]?).bind id).getD [])
def dr0(s:Mc)(S:List (Nat × List AV)):Mc:=match s.pc with
 |.c (.drawn _ a t)=>⟨.s true a S s.h.globs none t,s.k,s.env,s.h⟩
 |_=>s
def n8x(s:Mc):Bool:=match s.pc with
 |.c (.drawn o a _)=>okq a&&c34 (clo o) a
 |_=>false
theorem KD(m:Nat)(I:List Nat)(hk:Ok P f R (dr0 (run m s) (So I (run m s).h)))(hc:n8x (run m s)=true:=by kernel_rfl)(hS:inS (So I (run m s).h) (run m s).h=(So I (run m s).h).map (fun p=>some (some p.2)):=by kernel_rfl):Ok P f R s:=by
 refine K0 m ?_;generalize run m s=s0 at*;obtain⟨pc,k,env,h⟩:=s0;simp only[n8x]at hc;split at hc
 ·rw[Bool.and_eq_true]at hc;exact dS _ hk hc.1 hc.2 hS
 ·cases hc
def chg(s:Mc):AV × A2:=(opn (opS s) s.env s.h).getD (.nil,s.h)
theorem KV(m:Nat)(hk:Ok P f R (c85 (run m s) (chg (run m s)).1 (chg (run m s)).2))(ho:(opn (opS (run m s)) (run m s).env (run m s).h).isSome=true:=by kernel_rfl)(hc:okH (run m s)=true:=by kernel_rfl)(hs:seS (run m s) (chg (run m s)).2=seE (run m s):=by kernel_rfl):Ok P f R s:=by
 obtain⟨p,hp⟩:=Option.isSome_iff_exists.1 ho;have hq:chg (run m s)=p:=by unfold chg;rw[hp];rfl
 rw[hq]at hk hs;exact K0 m (a6b (c59 hp) hk hc hs)
def d7z:A0->List Fr->List (Pc × List Fr)
 |.seq a b,k=>(.c b,k)::(d7z a (.sq b::k)++d7z b k)
 |.cond _ a b,k=>d7z a k++d7z b k
 |.block i a,k=>d7z a (.bk i::k)
 |.loop a,k=>(.l a,k)::d7z a (.lp a::k)
 |.scope a,k=>match b1p a with
  |some l=>(.g l a,k)::d7z a (.sc l a::k)
  |none=>d7z a (.sn::k)
 |_,_=>[]
def pos(P:Program)(f i:Nat):Pc × List Fr:=((d7z (cdC P f) [])[i]?).getD (.n .normal,[])
def J(P:Program)(f:Nat)(R:Rm)(i:Nat)(e:Env)(h:A2):Prop:=Ok P f R ⟨(pos P f i).1,(pos P f i).2,e,h⟩
def atC(s:Mc):Bool:=match s.pc with
 |.c _=>true
 |.l _=>true
 |.g _ _=>true
 |_=>false
theorem c09(hc:atC s=true)(hg:∀(σ:Sg) (a:Act),St σ s.h s.env (cdN P f) a->∃σ' h' env',σ'.w=σ.w/\Le σ σ'/\St σ' h' env' (cdN P f) a/\Ok P f R ⟨s.pc,s.k,env',h'⟩):Ok P f R s:=by
 obtain⟨pc,k,env,h⟩:=s;cases pc with
 |c x=>exact d2o hg
 |l x=>exact c5s hg
 |g l x=>exact d6l hg
 |_=>cases hc
def e17(Z:List Nat)(env:Env)(p:Nat × AV):Option AV:=if Z.contains p.1=true then(get env p.1).map nz else get env p.1
theorem d5q{σ:Sg}{h:A2}{env e:Env}{N:Nat}{a:Act}{Z:List Nat}(he:e.map (e17 Z env)=e.map fun p=>some p.2)(hs:St σ h env N a):St σ h e N a:=⟨hs.inv,fun t b ht=>by
 obtain⟨i,hi⟩:=List.mem_iff_getElem?.1 (c41 ht);have h1:=congrArg (fun l=>l[i]?) he;simp only[List.getElem?_map,hi,Option.map_some,Option.some.injEq]at h1;unfold e17 at h1;split at h1
 ·obtain⟨c,h2,rfl⟩:=Option.map_eq_some_iff.1 h1;obtain⟨y,h3,h4⟩:=hs.env t c h2;exact⟨y,h3,h4.nz⟩
 ·exact hs.env t b h1,hs.size,hs.defers⟩
theorem c35{e:Env}(Z:List Nat)(hc:atC s=true)(he:e.map (e17 Z s.env)=e.map fun p=>some p.2)(hk:Ok P f R ⟨s.pc,s.k,e,s.h⟩):Ok P f R s:=c09 hc fun σ a hs=>⟨σ,s.h,e,rfl,Le.refl σ,d5q he hs,hk⟩
theorem KJ(m:Nat)(Z:List Nat){i:Nat}{e:Env}{h:A2}(hw:J P f R i e h)(hp:((run m s).pc,(run m s).k,(run m s).h)=((pos P f i).1,(pos P f i).2,h):=by kernel_rfl)(hc:atC (run m s)=true:=by kernel_rfl)(he:e.map (e17 Z (run m s).env)=e.map (fun p=>some p.2):=by kernel_rfl):Ok P f R s:=by
 simp only[Prod.mk.injEq]at hp;refine K0 m (c35 Z hc he ?_);rw[hp.1,hp.2.1,hp.2.2];exact hw
def b7g(h:A2):List Bool:=h.blks.map Option.isSome
theorem KJl(m:Nat)(Z:List Nat){i:Nat}{e:Env}{h:A2}(hw:J P f R i e h)(hlow:a6k (b7g h) h.bufs.length e=true/\a4t (b7g h) h.bufs.length h.blks=true)(hp:((run m s).pc,(run m s).k,W4 (b7g h) (run m s).h.blks,(run m s).h.bufs.take h.bufs.length,(run m s).h.globs)=((pos P f i).1,(pos P f i).2,h.blks,h.bufs,h.globs):=by kernel_rfl)(hc:atC (run m s)=true:=by kernel_rfl)(he:e.map (e17 Z (run m s).env)=e.map (fun p=>some p.2):=by kernel_rfl)(hm:((List.range R.kb).all (fun k=>(b7g h).getD k false)&&Nat.ble R.kf h.bufs.length&&J7 h.globs)=true:=by kernel_rfl):Ok P f R s:=by
 simp only[Prod.mk.injEq]at hp;simp only[Bool.and_eq_true,List.all_eq_true,List.mem_range]at hm;refine K0 m (c35 Z hc he ?_);generalize run m s=s0 at*;obtain⟨pc,k,env,h0⟩:=s0;obtain⟨h1,h2,h3,h4,h5⟩:=hp;simp only at h1 h2 h3 h4 h5
 have hw':Ok P f R ⟨pc,k,e,⟨W4 (b7g h) h0.blks,h0.bufs.take h.bufs.length,h0.globs⟩⟩:=by
  rw[h3,h4,h5,h1,h2];exact hw
 have hl2:a4t (b7g h) h.bufs.length (W4 (b7g h) h0.blks)=true:=by rw[h3];exact hlow.2
 have hg:J7 h0.globs=true:=by rw[h5];exact hm.2
 cases pc with
 |c x=>exact h6h _ _ hm.1.1 (Nat.le_of_ble_eq_true hm.1.2) hlow.1 hl2 hg hw'
 |l x=>exact e8p _ _ hm.1.1 (Nat.le_of_ble_eq_true hm.1.2) hlow.1 hl2 hg hw'
 |g l x=>exact f2r _ _ hm.1.1 (Nat.le_of_ble_eq_true hm.1.2) hlow.1 hl2 hg hw'
 |_=>cases hc
theorem KO(m t sz:Nat)(hk:Ok P f R ⟨(run m s).pc,(run m s).k,(t,.sl [] (.own (run m s).h.bufs.length))::(run m s).env,⟨(run m s).h.blks,(run m s).h.bufs++[(0,sz)],(run m s).h.globs⟩⟩)(hc:atC (run m s)=true:=by kernel_rfl)(hg:get (run m s).env t=some .nil:=by kernel_rfl):Ok P f R s:=K0 m (c09 hc fun σ a hs=>by
 obtain⟨σ',h1,h2,h3⟩:=h9y sz hg hs;exact⟨σ',_,_,h1,h2,h3,hk⟩)
def c3r(s:Mc)(i:Nat):List AV:=((s.h.blks[i]?).bind id).getD []
theorem KOb(m i j sz:Nat)(hk:Ok P f R ⟨(run m s).pc,(run m s).k,(run m s).env,⟨(run m s).h.blks.set i (some ((c3r (run m s) i).set j (.sl [] (.own (run m s).h.bufs.length)))),(run m s).h.bufs++[(0,sz)],(run m s).h.globs⟩⟩)(hc:atC (run m s)=true:=by kernel_rfl)(hg:(run m s).h.blks[i]? =some (some (c3r (run m s) i)):=by kernel_rfl)(hj:(c3r (run m s) i)[j]? =some .nil:=by kernel_rfl):Ok P f R s:=K0 m (c09 hc fun σ a hs=>by
 obtain⟨σ',h1,h2,h3⟩:=c97 sz hg hj hs;exact⟨σ',_,_,h1,h2,h3,hk⟩)
def done(s:Mc):Bool:=match s.pc,s.k with
 |.n .ret,[]=>true
 |.n .normal,[]=>true
 |_,_=>false
theorem d2q(hd:done s=true)(hk:R.Q (cdR P f) .ret s.env s.h):Ok P f R s:=by
 obtain⟨pc,k,env,h⟩:=s;simp only[done]at hd;split at hd
 ·exact hk
 ·cases R<;>exact hk
 ·cases hd
theorem KR(m:Nat){T:Type}{e:T->AV}{r r0:T}(hw:r=r0)(hp:∀r,plain (e r)=true)(hd:done (run m s)=true:=by kernel_rfl)(he:(b69 (run m s).env (run m s).h (cdR P f)).map (fun l=>nz (c1i l))=some (e r0):=by kernel_rfl):Ok P f (.ret (e r)) s:=K0 m (d2q hd (rx hw (hp r0) he))
theorem KRi(m:Nat){T:Type}{k:Nat}{e:T->AV}{fc:T->List AV}{fb:T->List (Nat × Nat)}{r r0:T}(hw:r=r0)(hp:∀r,plain (e r)=true/\(fc r).all ok1=true/\lowL [true] k (fc r)=true/\(fb r).length=k)(hd:done (run m s)=true:=by kernel_rfl)(he:(b69 (run m s).env (run m s).h (cdR P f)).map (fun l=>nz (c1i l))=some (e r0):=by kernel_rfl)(hb:(run m s).h.blks[0]? =some (some (c3r (run m s) 0)):=by kernel_rfl)(hit:a3f (c3r (run m s) 0)=true:=by kernel_rfl)(hc:(c3r (run m s) 0).map (K9 0 (some 0))=fc r0:=by kernel_rfl)(hf:(run m s).h.bufs.take k=fb r0:=by kernel_rfl)(hg:(run m s).h.globs=[]:=by kernel_rfl):Ok P f (.io k (e r) (fc r) (fb r)) s:=K0 m (d2q hd (rio hw ⟨(hp r0).1,(hp r0).2.1,(hp r0).2.2.1⟩ _ he hb hit hc hf hg))
theorem c7e(h:(A7 P f).isSome=true):A7 P f=some (cdN P f,cdC P f,cdR P f):=by
 unfold cdN cdC cdR;cases hg:A7 P f with
 |none=>rw[hg]at h;cases h
 |some p=>rfl
def s0(P:Program)(f:Nat)(args:List AV)(h:A2):Mc:=⟨.c (cdC P f),[],a82 0 args,h⟩
theorem fP{gl:List (Nat × List AV)}{args:List AV}{r:AV}(hk:Ok P f (.ret r) (s0 P f args ⟨[],[],gl⟩))(hf:((A7 P f).isSome&&Nat.ble args.length (cdN P f))=true:=by kernel_rfl):C6 P gl f args r:=by
 rw[Bool.and_eq_true]at hf;exact g9p (c7e hf.1) (Nat.le_of_ble_eq_true hf.2) rfl hk
theorem fIO{k:Nat}{args c:List AV}{bf:List (Nat × Nat)}{r:AV}{c':List AV}{bf':List (Nat × Nat)}(hk:Ok P f (.io k r c' bf') (s0 P f args ⟨[some c],bf,[]⟩))(hb:bf.length=k:=by kernel_rfl)(hf:((A7 P f).isSome&&Nat.ble args.length (cdN P f))=true:=by kernel_rfl):b8d P [] f args c bf r c' bf':=by
 rw[Bool.and_eq_true]at hf;exact o3b (c7e hf.1) k hb (Nat.le_of_ble_eq_true hf.2) rfl hk
theorem b98{s:Mc}{h:A2}(hs:seE s=none):seS s h=none:=by
 obtain⟨pc,k,env,h⟩:=s;cases pc with
 |s b L S gl w tl=>cases L<;>first|rfl|cases hs
 |_=>rfl
theorem KX(m:Nat){t:ByteArray}{p:Nat}{A B:Prop}(hw:(p<t.size->A)/\(¬p<t.size->B))(h1:p<t.size->A->Ok P f R (c85 (run m s) (.tuple [.v (.bool true),.v (.int .i64 p),.v (.int .i32 (Utf8.decode t p).1)]) ⟨(run m s).h.blks.set (d1c (xv (run m s))) (some [.it t (p+(Utf8.decode t p).2)]),(run m s).h.bufs,(run m s).h.globs⟩))(h2:¬p<t.size->B->Ok P f R (c85 (run m s) (.tuple [.v (.bool false)]) (run m s).h))(hc:okH (run m s)=true:=by kernel_rfl)(ho:op (run m s)=.next (oX (op (run m s))):=by kernel_rfl)(hx:xv (run m s)=some (.ptr (d1c (xv (run m s))) 0):=by kernel_rfl)(hb:(run m s).h.blks[d1c (xv (run m s))]? =some (some [.it t p]):=by kernel_rfl)(hs:seE (run m s)=none:=by kernel_rfl):Ok P f R s:=by
 have hsn:∀h',seS (run m s) h'=seE (run m s):=fun h'=>by rw[hs];exact b98 hs
 rcases Nat.lt_or_ge p t.size with hp|hp
 ·refine K0 m (a6b (fun K hk=>?_) (h1 hp (hw.1 hp)) hc (hsn _));rw[ho];simp only[aop];change wv (xv _) _;rw[hx];simp only[wv,b8u,hb];exact⟨fun _=>hk,fun hn=>(hn hp).elim⟩
 ·refine K0 m (a6b (fun K hk=>?_) (h2 (Nat.not_lt.2 hp) (hw.2 (Nat.not_lt.2 hp))) hc (hsn _));rw[ho];simp only[aop];change wv (xv _) _;rw[hx];simp only[wv,b8u,hb];exact⟨fun hn=>(Nat.not_lt.2 hp hn).elim,fun _=>hk⟩
end
abbrev JP(P:Program)(f:Nat)(r:AV)(i:Nat)(e:Env):Prop:=J P f (.ret r) i e ⟨[],[],[]⟩
section
variable {P:Program}{f:Nat}{R:Rm}{s:Mc}{α:Type}{W:α->Prop}{p:Prop}
def ioN(s:Mc):Nat:=match evs s.env (oA (op s)) with
 |some (.ptr n _::_)=>n
 |some (.row n _ _ _ _::_)=>n
 |_=>0
def ioA(s:Mc):List AV:=(evs s.env (oA (op s))).getD []
theorem m73{l:List (Nat × Nat)}(h:l.length=1):∃x,l=[x]:=by
 match l,h with
 |[x],_=>exact⟨x,rfl⟩
theorem KI1(m:Nat){g:FuncId}{gl:List (Nat × List AV)}{small c:List AV}{bf:List (Nat × Nat)}{e:α->AV}{c':α->List AV}{bf':α->List (Nat × Nat)}(hw:∃y,b8d P gl g small c bf (e y) (c' y) (bf' y)/\W y)(hp:∀{y:α},c.all ok1=true/\(c' y).all ok1=true/\small.all okA=true/\plain (e y)=true)(hk:∀y,W y->Ok P f R (c85 (run m s) (e y) ⟨(run m s).h.blks.set (ioN (run m s)) (some ((c' y).map (b8t (ioN (run m s)) (some 0)))),bf' y,(run m s).h.globs⟩))(hc:okH (run m s)=true:=by kernel_rfl)(ho:op (run m s)=.call (.c (.clo (.func g) [] [])) (oA (op (run m s))):=by kernel_rfl)(hb:(bf.length,fun y=>(bf' y).length)=(1,fun _=>1):=by kernel_rfl)(hb2:(run m s).h.bufs=bf:=by kernel_rfl)(ha:evs (run m s).env (oA (op (run m s)))=some (ioA (run m s)):=by kernel_rfl)(hn:(run m s).h.blks[ioN (run m s)]? =some (some (c3r (run m s) (ioN (run m s)))):=by kernel_rfl)(hit:a3f (c3r (run m s) (ioN (run m s)))=true:=by kernel_rfl)(hit':(fun y=>a3f (c' y))=(fun _=>true):=by kernel_rfl)(hcc:(c3r (run m s) (ioN (run m s))).map (K9 (ioN (run m s)) (some 0))=c:=by kernel_rfl)(hargs:(ioA (run m s)).map (smol (ioN (run m s)) (some 0))=small:=by kernel_rfl)(hg:(run m s).h.globs=gl:=by kernel_rfl)(hgl:J7 gl=true:=by kernel_rfl)(hs:seE (run m s)=none:=by kernel_rfl):Ok P f R s:=by
 obtain⟨y,h1,hw⟩:=hw;subst hg;simp only[Prod.mk.injEq]at hb;obtain⟨x,hx⟩:=m73 hb.1;obtain⟨x',hx'⟩:=m73 (congrFun hb.2 y);refine K0 m (a6b ?_ (hk y hw) hc (by rw[hs];exact b98 hs));rw[ho];exact o2j _ (some 0) _ _ _ h1 hp (.inr ⟨x,x',rfl,hx,hx',hb2.trans hx,hx'⟩) ha hn hit (congrFun hit' y) hcc hargs rfl hgl
theorem KIN(m j sz:Nat){g:FuncId}{gl:List (Nat × List AV)}{small c:List AV}{bf:List (Nat × Nat)}{e:α->AV}{c':α->List AV}{bf':α->List (Nat × Nat)}(hw:∃y,b8d P gl g small c bf (e y) (c' y) (bf' y)/\W y)(hp:∀{y:α},c.all ok1=true/\(c' y).all ok1=true/\small.all okA=true/\plain (e y)=true)(hk:∀y,W y->Ok P f R (c85 (run m s) (e y) ⟨(run m s).h.blks.set (ioN (run m s)) (some ((c' y).map (b8t (ioN (run m s)) (some 0)))),bf' y,(run m s).h.globs⟩))(hc:okH (run m s)=true:=by kernel_rfl)(ho:op (run m s)=.call (.c (.clo (.func g) [] [])) (oA (op (run m s))):=by kernel_rfl)(hb:(bf,fun y=>(bf' y).length)=([(0,sz)],fun _=>1):=by kernel_rfl)(hb2:(run m s).h.bufs=[]:=by kernel_rfl)(ha:evs (run m s).env (oA (op (run m s)))=some (ioA (run m s)):=by kernel_rfl)(hn:(run m s).h.blks[ioN (run m s)]? =some (some (c3r (run m s) (ioN (run m s)))):=by kernel_rfl)(hj:(c3r (run m s) (ioN (run m s)))[j]? =some .nil:=by kernel_rfl)(hit:a3f ((c3r (run m s) (ioN (run m s))).set j (.sl [] (.own 0)))=true:=by kernel_rfl)(hit':(fun y=>a3f (c' y))=(fun _=>true):=by kernel_rfl)(hcc:((c3r (run m s) (ioN (run m s))).set j (.sl [] (.own 0))).map (K9 (ioN (run m s)) (some 0))=c:=by kernel_rfl)(hargs:(ioA (run m s)).map (smol (ioN (run m s)) (some 0))=small:=by kernel_rfl)(hg:(run m s).h.globs=gl:=by kernel_rfl)(hgl:J7 gl=true:=by kernel_rfl)(hs:seE (run m s)=none:=by kernel_rfl):Ok P f R s:=by
 obtain⟨y,h1,hw⟩:=hw;subst hg;simp only[Prod.mk.injEq]at hb;obtain⟨x',hx'⟩:=m73 (congrFun hb.2 y);refine K0 m (a6b ?_ (hk y hw) hc (by rw[hs];exact b98 hs));rw[ho,hx'];exact n32 _ j sz _ _ _ h1 hp ⟨hb.1,hx'⟩ ha hn hj hb2 hit (congrFun hit' y) hcc hargs rfl hgl
theorem KT2(m n:Nat)(B:Bool)(C:Bool->AV)(h1:B=true->Ok P f R (jn (run m s) n (C true))->Ok P f R (br (run m s) true))(h2:B=false->Ok P f R (jn (run m s) n (C false))->Ok P f R (br (run m s) false))(hk:Ok P f R (jn (run m s) n (C B)))(hv:cv (run m s)=some (.v (.bool B)):=by kernel_rfl):Ok P f R s:=K0 m (d09 hv (fun h=>h1 h (by rw[h]at hk;exact hk)) fun h=>h2 h (by rw[h]at hk;exact hk))
theorem KE2(m:Nat){a:AV}{s0:Mc}{n:Nat}(key:Ok P f R (jn s0 n a))(ha:get (run m s).env (jnD s0 n)=some a:=by kernel_rfl)(hb:b6b (run m s)=b6b (jn s0 n a):=by kernel_rfl)(hd:(run m s).env.drop ((run m s).env.length - s0.env.length)=s0.env:=by kernel_rfl)(hf:met s0 (run m s) n=true:=by kernel_rfl):Ok P f R s:=K0 m (c68 key ha hb hd hf)
def m3y(s:Mc):Bool:=match s.pc with
 |.c _=>true
 |_=>false
def cut(e:Env)(env:Env):Env:=e.map fun p=>(p.1,(get env p.1).getD .nil)
theorem e2c{e:Env}(hc:m3y s=true)(he:(cut e s.env).map (e17 [] s.env)=(cut e s.env).map fun p=>some p.2)(hk:∀x,s.pc=.c x->D P (cdN P f) R.kb R.kf x (Qs P f R s.k) (cut e s.env) s.h):Ok P f R s:=by
 refine c35 [] ?_ he ?_
 ·obtain⟨pc,k,env,h⟩:=s;cases pc<;>first|rfl|cases hc
 ·obtain⟨pc,k,env,h⟩:=s;cases pc<;>first|exact hk _ rfl|cases hc
theorem KFz(m n:Nat)(mk:List Bool)(k:Nat)(e:Env)(bs:List (Option (List AV)))(hl:a6k mk k e=true/\a4t mk k bs=true)(hk:Ok P f R ⟨(run m s).pc,(run m s).k,e,⟨bs,(run m s).h.bufs.take k,(run m s).h.globs⟩⟩)(hc:m3y (run m s)=true:=by kernel_rfl)(he:(cut e (run m s).env).map (e17 [] (run m s).env)=(cut e (run m s).env).map (fun p=>some p.2):=by kernel_rfl)(hb:(run m s).h.blks[n]? =some (some (c3r (run m s) n)):=by kernel_rfl)(h1:(a3f (c3r (run m s) n)&& !mk.getD n false&&c0r mk (run m s).h.blks&&(List.range R.kb).all (fun k=>mk.getD k false)&&Nat.ble R.kf k&&J7 (run m s).h.globs)=true:=by kernel_rfl)(hE:fzE n (c3r (run m s) n) (cut e (run m s).env)=e:=by kernel_rfl)(hbs:W4 mk (run m s).h.blks=bs:=by kernel_rfl):Ok P f R s:=by
 simp only[Bool.and_eq_true,List.all_eq_true,List.mem_range,Bool.not_eq_true']at h1;obtain⟨⟨⟨⟨⟨a1,a2⟩,a3⟩,a4⟩,a5⟩,a6⟩:=h1;refine K0 m (e2c hc he fun x hx=>?_);rw[hx]at hk;subst hbs;exact d6x n mk k _ hb a1 a2 a3 a4 (Nat.le_of_ble_eq_true a5) hE hl.1 hl.2 a6 hk
theorem KDf(m:Nat)(E:En α)(n:Nat)(mk:List Bool)(k c:Nat)(e:Env)(bs:List (Option (List AV)))(hl:a6k mk k e=true/\a4t mk k bs=true){l:List α}{len:Nat}(hw:l.length=len/\p)(hk:p->Ok P f R ⟨(run m s).pc,(run m s).k,e,⟨bs,(run m s).h.bufs.take k,(run m s).h.globs⟩⟩)(hc:m3y (run m s)=true:=by kernel_rfl)(he:(cut e (run m s).env).map (e17 [] (run m s).env)=(cut e (run m s).env).map (fun p=>some p.2):=by kernel_rfl)(hb:(run m s).h.blks[n]? =some (some (cellsOf E.f l)):=by kernel_rfl)(h1:(Nat.ble 1 E.sz&& !mk.getD n false&&c0r mk (run m s).h.blks&&(List.range R.kb).all (fun k=>mk.getD k false)&&Nat.ble R.kf k&&J7 (run m s).h.globs)=true:=by kernel_rfl)(hr:b04 n (cut e (run m s).env)=List.replicate c (0,E.sz,len):=by kernel_rfl)(hE:h1e n (List.map E.f l) (cut e (run m s).env)=e:=by kernel_rfl)(hbs:W4 mk (run m s).h.blks=bs:=by kernel_rfl):Ok P f R s:=by
 simp only[Bool.and_eq_true,List.all_eq_true,List.mem_range,Bool.not_eq_true']at h1;obtain⟨⟨⟨⟨⟨a1,a2⟩,a3⟩,a4⟩,a5⟩,a6⟩:=h1;refine K0 m (e2c hc he fun x hx=>?_);have hk:=hk hw.2;rw[hx]at hk;exact drf n mk k c l len e bs E.ro.hs E.ro.hn hw.1 hl hk hb a1 hr a2 a3 a4 a5 hE hbs a6
end
theorem c33{α:Type}{e:α->List AV}{sz:Nat}(hs:∀y,(e y).length=sz)(hn:∀y,a3f (e y)=true)(l:List α){h:A2}{n:Nat}(hb:h.blks[n]? =some (some (cellsOf e l))):b78 h n 0 sz l.length=some (l.map e):=by
 unfold b78
 by_cases h0:l.length=0
 ·rw[if_pos h0,List.eq_nil_of_length_eq_zero h0];rfl
 ·rw[if_neg h0,hb];have h1:l≠[]:=fun h=>h0 (by rw[h];rfl)
  simp only[];rw[if_pos ⟨a8l hn h1,by rw[a6c hs];omega⟩]
  congr 1
  unfold b35;rw[List.drop_zero,List.take_of_length_le (by rw[a6c hs];exact Nat.le_refl _)];apply List.ext_getElem
  ·simp
  ·intro i hi hj;simp only[List.getElem_map,List.getElem_range];exact b32 hs (List.getElem?_eq_getElem (by simpa using hj))
theorem d05{a:AV}(h:plain a=true):wk1 a=a:=by
 cases a with
 |sl els tok=>cases tok with
  |own id=>simp[plain]at h
  |_=>rfl
 |_=>rfl
def b9l:List AV->List (Nat × Nat × Nat × Nat)
 |[]=>[]
 |.row n o sz len _::r=>(n,o,sz,len)::b9l r
 |_::r=>b9l r
theorem b8w{n o sz len c:Nat}:∀{l:List AV},.row n o sz len c∈l->(n,o,sz,len)∈b9l l
 |a::l,h=>by
  rcases List.mem_cons.1 h with rfl|h
  ·simp[b9l]
  ·have:=b8w h;cases a<;>simp[b9l,this]
def thr(els:List (List AV)):AV->AV
 |.row _ _ _ _ _=>.sl els .no
 |a=>a
theorem c0w{h:A2}:∀{l:List AV},plainL l=true->(l.map fun c=>N2 0 h (wk1 c))=l
 |[],_=>rfl
 |a::l,hp=>by
  simp only[plainL,Bool.and_eq_true]at hp;rw[List.map_cons,c0w hp.2];show wk1 a::l=_;rw[d05 hp.1]
theorem b40{h:A2}:∀{l:List (List AV)},plainLL l=true->(l.map fun el=>el.map fun c=>N2 0 h (wk1 c))=l
 |[],_=>rfl
 |a::l,hp=>by
  simp only[plainLL,Bool.and_eq_true]at hp;rw[List.map_cons,b40 hp.2,c0w hp.1]
theorem c7o{h:A2}{a:AV}(hp:plain a=true)(ht:∀vs,a≠.tuple vs):N2 1 h (wk a)=a:=by
 cases a with
 |sl els tok=>cases tok with
  |own id=>simp[plain]at hp
  |no=>simp[plain]at hp;show AV.sl (els.map fun el=>el.map fun c=>N2 0 h (wk1 c)) .no=_;rw[b40 hp]
  |full=>simp[plain]at hp;show AV.sl (els.map fun el=>el.map fun c=>N2 0 h (wk1 c)) .full=_;rw[b40 hp]
 |agg cs=>simp only[plain]at hp;show AV.agg ((cs.map wk1).map fun c=>N2 0 h (wk1 c))=_;rw[show cs.map wk1=cs from c0w (h:=h) hp,c0w hp]
 |tuple vs=>exact absurd rfl (ht vs)
 |row=>simp[plain]at hp
 |_=>rfl
theorem d5r{h:A2}{n o sz len c:Nat}{els:List (List AV)}(hr:b78 h n o sz len=some els):N2 1 h (wk (.row n o sz len c))=.sl (els.map fun(el:List AV)=>el.map fun c=>N2 0 h (wk1 c)) .no:=by
 show N2 1 h (.row n o sz len c)=_;simp only[N2,hr]
def d0f:List AV->Bool
 |[]=>true
 |.tuple _::_=>false
 |_::r=>d0f r
theorem c13{vs:List AV}:∀{l:List AV},d0f l=true->.tuple vs ∉ l
 |[],_=>by simp
 |a::l,h=>by
  intro hm;rcases List.mem_cons.1 hm with rfl|hm
  ·simp[d0f]at h
  ·refine c13 (l:=l) ?_ hm;cases a<;>simp_all [d0f]
theorem KCr{α β:Type}{P:Program}{f:Nat}{R:Rm}{s:Mc}{W:β->Prop}(m:Nat)(E:En α)(n:Nat){g:FuncId}{gl:List (Nat × List AV)}{args:List AV}{l:List α}{len:Nat}{e:β->AV}(x:β->Value)
  (hw:l.length=len/\∃y,C6 P gl g args (e y)/\W y) (hp:plainL args=true) (hk:∀y,W y->Ok P f R (put (run m s) (e y))) (hx:∀y,e y=.v (x y))
  (hc:okS (run m s)=true:=by kernel_rfl) (ho:op (run m s)=.call (.c (.clo (.func g) [] [])) (oA (op (run m s))):=by kernel_rfl)
  (ha:(evs (run m s).env (oA (op (run m s)))).map (List.map (thr (l.map E.f)))=some args:=by kernel_rfl)
  (hq:(evs (run m s).env (oA (op (run m s)))).map (fun a=>(b9l a,d0f a))=some ([(n,0,E.sz,len)],true):=by kernel_rfl)
  (hr:l6g (run m s) n=some (cellsOf E.f l):=by kernel_rfl)
  (hg:d3m (run m s)=gl:=by kernel_rfl) (hgl:J7 gl=true:=by kernel_rfl):Ok P f R s:=by
 obtain⟨hl,y,h1,hw⟩:=hw;subst hg hl;refine K0 m (c1o (fun h hs=>?_) (hk y hw) hc);rw[ho];rw[<-b6w hs]at h1 hgl;obtain⟨args',e1,e2⟩:=Option.map_eq_some_iff.1 ha;rw[e1]at hq;simp only[Option.map_some,Option.some.injEq,Prod.mk.injEq]at hq;refine fun K hK=>(c5q rfl e1 (b6j 1 h1 hgl ?_ hp (fun av hav=>?_) fun av hav=>?_)).out
 ·rw[<-e2];refine List.map_congr_left fun a hm=>?_
  by_cases hrow:∃n' o sz len c,a=.row n' o sz len c
  ·obtain⟨n',o,sz,len,c,rfl⟩:=hrow;have:=b8w hm;rw[hq.1]at this;simp only[List.mem_singleton,Prod.mk.injEq]at this;obtain⟨rfl,rfl,rfl,rfl⟩:=this;rw[d5r (c33 E.ro.hs E.ro.hn l (c51 hs hr))];show AV.sl ((l.map E.f).map fun(el:List AV)=>el.map fun c=>N2 0 h (wk1 c)) .no=AV.sl (l.map E.f) .no;rw[b40]
   have:plain (thr (l.map E.f) (.row n' 0 E.sz l.length c))=true:=by
    rw[<-e2]at hp;exact Q8 hp (List.mem_iff_getElem?.1 hm).choose_spec
   simpa[thr,plain]using this
  ·have e3:thr (l.map E.f) a=a:=by
    cases a<;>first|rfl|exact absurd ⟨_,_,_,_,_,rfl⟩ hrow
   have:plain (thr (l.map E.f) a)=true:=by
    rw[<-e2]at hp;exact Q8 hp (List.mem_iff_getElem?.1 hm).choose_spec
   rw[e3]at this ⊢;exact c7o this fun vs hvs=>c13 hq.2 (hvs▸hm)
 ·rw[hx]at hav;cases av with
  |v z=>rfl
  |_=>simp[nz,nz1,nzA]at hav
 ·rw[hx]at hav;cases av with
  |v z=>rw[show nz (.v z)=.v z from rfl]at hav;rw[hx]at hK;rw[hav];exact hK
  |_=>simp[nz,nz1,nzA]at hav
section
open Go.RowKit Go.ChangeShapes Go.WideShapes Go.ChangeAt
theorem b49{α:Type}{P:Nat->α->Prop}:∀n:Nat,(∀i,i<n->∃x,P i x)->∃xs:List α,xs.length=n/\∀(i:Nat) x,xs[i]? =some x->P i x
 |0,_=>⟨[],rfl,fun i x h=>by simp at h⟩
 |n+1,h=>by
  obtain⟨xs,hl,hx⟩:=b49 n (fun i hi=>h i (by omega));obtain⟨y,hy⟩:=h n (by omega);refine⟨xs++[y],by simp[hl],fun i x hi=>?_⟩
  by_cases hin:i<n
  ·rw[List.getElem?_append_left (by omega)]at hi;exact hx i x hi
  ·rw[List.getElem?_append_right (by omega)]at hi
   by_cases e:i=n
   ·subst e;rw[hl]at hi;simp at hi;subst hi;exact hy
   ·rw[List.getElem?_eq_none (by simp;omega)]at hi;cases hi
def Ty(P:Program):Nat->TypeId->List AV->Prop
 |0,_,_=>False
 |n+1,t,avs=>match P.underlying t with
  |some (.int k)=>∃m,avs=[.v (.int k m)]/\(Lit.int k m).wf=true
  |some .bool=>∃b,avs=[.v (.bool b)]
  |some .string=>∃s,avs=[.v (.string s)]/\s.size<=140737488351232
  |some (.slice e)=>∃els:List (List AV),avs=[.sl els .no]/\els.length*P.bytesOf e<=140737488351232/\∀el∈els,Ty P n e el
  |some (.struct fs)=>∃parts:List (List AV),avs=parts.flatten/\parts.length=fs.size/\∀(i:Nat) (f:Field),fs[i]? =some f->∃p,parts[i]? =some p/\Ty P n f.type p
  |some (.array k e)=>∃parts:List (List AV),avs=parts.flatten/\parts.length=k/\∀p∈parts,Ty P n e p
  |_=>False
def c3d(P:Program):Nat->List Field->Nat->Bool
 |off,[],tot=>off==tot
 |off,f::fs,tot=>f.offset==off&&c3d P (off+P.cellsOf f.type) fs tot
def okT(P:Program)(ts:List TypeId)(t:TypeId):Bool:=
 match P.underlying t with
 |some (.int _)|some .bool|some .string=>true
 |some (.slice e)=>ts.contains e&&decide (0<P.cellsOf e)&&decide (1<=P.bytesOf e)
 |some (.struct fs)=>fs.toList.all (fun f=>ts.contains f.type)&&c3d P 0 fs.toList (P.cellsOf t)
 |some (.array k e)=>ts.contains e&&decide (k*P.cellsOf e=P.cellsOf t)
 |_=>false
def c39(P:Program)(ts:List TypeId):Bool:=ts.all (okT P ts)
def a0e:Nat->Nat->Prop:=fun _ _=>False
section
variable {H:Type}{enc:TypeId × Value->H}{P:Program}{W:World}{base:Nat}{spare:Nat->Bool}{held:Bool}
def N7(P:Program)(t:TypeId)(d:DataW H):Prop:=∀x∈DataW.weights P t d,x<=140737488351232
theorem a6i:∀(ts:List TypeId) (ds:List (DataW H)) (i:Nat) (t:TypeId) (d:DataW H),ts[i]? =some t->ds[i]? =some d->∀x∈DataW.weights P t d,x∈DataW.weightsEach P ts ds
 |[],_,i,_,_,h,_,_,_=>by simp at h
 |_::_,[],i,_,_,_,h,_,_=>by simp at h
 |t'::ts,d'::ds,0,t,d,h1,h2,x,hx=>by
  simp at h1 h2;subst h1;subst h2;simp only[DataW.weightsEach,List.mem_append];exact .inl hx
 |t'::ts,d'::ds,i+1,t,d,h1,h2,x,hx=>by
  simp only[DataW.weightsEach,List.mem_append];exact .inr (a6i ts ds i t d (by simpa using h1) (by simpa using h2) x hx)
theorem a3s(e:TypeId):∀(ds:List (DataW H)) (i:Nat) (d:DataW H),ds[i]? =some d->∀x∈DataW.weights P e d,x∈DataW.weightsAll P e ds
 |[],i,_,h,_,_=>by simp at h
 |d'::ds,0,d,h2,x,hx=>by
  simp at h2;subst h2;simp only[DataW.weightsAll,List.mem_append];exact .inl hx
 |d'::ds,i+1,d,h2,x,hx=>by
  simp only[DataW.weightsAll,List.mem_append];exact .inr (a3s e ds i d (by simpa using h2) x hx)
theorem N7.part{t:TypeId}{fs:Array Field}{ps:List (DataW H)}(ht:P.underlying t=some (.struct fs))(h:N7 P t (.agg ps)){i:Nat}{f:Field}{d:DataW H}(hf:fs[i]? =some f)(hd:ps[i]? =some d):N7 P f.type d:=by
 intro x hx;refine h x ?_;simp only[DataW.weights,ht];exact a6i _ _ i f.type d (by simp[hf]) hd x hx
theorem N7.elem{t e:TypeId}{es sp:List (DataW H)}(ht:P.underlying t=some (.slice e))(h:N7 P t (.slice es sp)){i:Nat}{d:DataW H}(hd:es[i]? =some d):N7 P e d:=by
 intro x hx;refine h x ?_;simp only[DataW.weights,ht,List.mem_cons,List.mem_append];exact .inr (.inl (a3s e es i d hd x hx))
theorem N7.short{t e:TypeId}{es sp:List (DataW H)}(ht:P.underlying t=some (.slice e))(h:N7 P t (.slice es sp)):es.length*P.bytesOf e<=140737488351232:=by
 have:=h ((es.length+sp.length)*P.bytesOf e) (by simp only[DataW.weights,ht,List.mem_cons,true_or]);rw[Nat.add_mul]at this;omega
theorem N7.at_{t e:TypeId}{k:Nat}{ps:List (DataW H)}(ht:P.underlying t=some (.array k e))(h:N7 P t (.agg ps)){i:Nat}{d:DataW H}(hd:ps[i]? =some d):N7 P e d:=by
 intro x hx;refine h x ?_;simp only[DataW.weights,ht];exact a3s e ps i d hd x hx
theorem b31(σ:Sg):∀(fs:List Field) (off tot:Nat) (cs:List Value) (parts:List (List AV)),c3d P off fs tot=true->cs.length=tot->parts.length=fs.length->
  (∀(i:Nat) (f:Field) (p:List AV),fs[i]? =some f->parts[i]? =some p->D2 σ p ((cs.drop f.offset).take (P.cellsOf f.type)))->D2 σ parts.flatten (cs.drop off)
 |[],off,tot,cs,parts,hc,hl,hp,_=>by
  simp only[c3d,beq_iff_eq]at hc;have:parts=[]:=List.eq_nil_of_length_eq_zero (by simpa using hp);subst this;rw[List.drop_of_length_le (by omega)];exact D2.nil σ
 |f::fs,off,tot,cs,[],hc,hl,hp,_=>by simp at hp
 |f::fs,off,tot,cs,p::parts,hc,hl,hp,h=>by
  simp only[c3d,Bool.and_eq_true,beq_iff_eq]at hc;obtain⟨h1,h2⟩:=hc;have h3:=h 0 f p rfl rfl;have h4:=b31 σ fs (off+P.cellsOf f.type) tot cs parts h2 hl (by simpa using hp) (fun i g q hg hq=>h (i+1) g q (by simpa using hg) (by simpa using hq));have:=h3.append h4;rw[h1,<-List.drop_drop,List.take_append_drop]at this;simpa using this
theorem b8v(σ:Sg)(k:Nat):∀(parts:List (List AV)) (cs:List Value),cs.length=parts.length*k->
  (∀(i:Nat) (p:List AV),parts[i]? =some p->D2 σ p ((cs.drop (i*k)).take k))->D2 σ parts.flatten cs
 |[],cs,hl,_=>by
  have:cs=[]:=List.eq_nil_of_length_eq_zero (by simpa using hl);subst this;exact D2.nil σ
 |p::parts,cs,hl,h=>by
  have h3:=h 0 p rfl;rw[List.length_cons,Nat.add_mul]at hl
  have h4:=b8v σ k parts (cs.drop k) (by simp;omega) (fun i q hq=>by
   have:=h (i+1) q (by simpa using hq);rw[List.drop_drop,show k+i*k=(i+1)*k by rw[Nat.add_mul];omega];exact this)
  have:=h3.append h4;simp only[Nat.zero_mul,List.drop_zero,List.take_append_drop]at this;simpa using this
theorem a2z{a b:List AV}:plainL (a++b)=(plainL a&&plainL b):=by
 induction a with
 |nil=>simp[plainL]
 |cons x a ih=>simp[plainL,ih,Bool.and_assoc]
theorem a4p:∀{l:List (List AV)},(∀p∈l,plainL p=true)->plainL l.flatten=true
 |[],_=>rfl
 |p::l,h=>by rw[List.flatten_cons,a2z,h p (by simp),a4p (fun q hq=>h q (by simp[hq]))];rfl
theorem b9i:∀{l:List (List AV)},(∀p∈l,plainL p=true)->plainLL l=true
 |[],_=>rfl
 |p::l,h=>by simp only[plainLL,Bool.and_eq_true];exact⟨h p (by simp),b9i fun q hq=>h q (by simp[hq])⟩
theorem c8t{ts:List TypeId}(ok:c39 P ts=true):∀(n:Nat) (t:TypeId) (cs:List Value) (z:DataW H × List MemPlace),t∈ts->DataW.trod enc P W base spare held n t cs=some z->N7 P t z.1->
  ∃avs,D2 (bare W a0e) avs cs/\Ty P n t avs/\plainL avs=true:=by
 intro n
 induction n with
 |zero=>intro t cs z ht h;simp[DataW.trod]at h
 |succ n ih=>
  intro t cs z ht h hw;have hok:=List.all_eq_true.1 ok t ht;unfold okT at hok;split at hok
  ·rename_i k hu;obtain⟨m,rfl,_,hwf⟩:=DataW.trod_int hu h;exact⟨[.v (.int k m)],D2.one (.v _ rfl) rfl,by unfold Ty;rw[hu];exact⟨m,rfl,hwf⟩,rfl⟩
  ·rename_i hu;obtain⟨b,rfl,_⟩:=DataW.trod_bool hu h;exact⟨[.v (.bool b)],D2.one (.v _ rfl) rfl,by unfold Ty;rw[hu];exact⟨b,rfl⟩,rfl⟩
  ·rename_i hu;obtain⟨s,rfl,rfl,_⟩:=DataW.trod_string hu h;have:s.size<=140737488351232:=hw s.size (by simp[DataW.weights]);exact⟨[.v (.string s)],D2.one (.v _ rfl) rfl,by unfold Ty;rw[hu];exact⟨s,rfl,this⟩,rfl⟩
  ·rename_i e hu;simp only[Bool.and_eq_true,decide_eq_true_eq,List.contains_iff_mem]at hok;obtain⟨⟨he,hk0⟩,hb1⟩:=hok;rcases DataW.trod_slice hu h with⟨hc,_⟩|⟨a,len,cap,elems,rest,m,hm,hc,hy,hb,hl,hmx,hlen,helem,_⟩
   ·subst hc;exact⟨[.sl [] .no],D2.one (.sl0 _ trivial) rfl,by unfold Ty;rw[hu];exact⟨[],rfl,by simp,fun el h=>by cases h⟩,rfl⟩
   ·subst hc hy;obtain rfl:m=n:=by omega
    have hsh:=N7.short hu hw;rw[List.length_map,hlen]at hsh
    have key:∀i,i<len->∃avs:List AV,∃vs:List Value,vs.length=P.cellsOf e/\(∀j,j<P.cellsOf e->W.cell? ((a.add (i*P.cellsOf e)).add j)=vs[j]?)/\D2 (bare W a0e) avs vs/\Ty P m e avs/\plainL avs=true:=by
     intro i hi;have h1:=helem i hi;rw[List.getElem?_eq_getElem (by omega),Option.bind_eq_some_iff]at h1;obtain⟨vs,hc1,hc2⟩:=h1;obtain⟨_,hl1,hc3⟩:=World.cells?_some hc1;obtain⟨avs,h2,h3,h4⟩:=ih e vs _ he hc2 (N7.elem hu hw (i:=i) (by rw[List.getElem?_map,List.getElem?_eq_getElem (by omega)];rfl));exact⟨avs,vs,hl1,hc3,h2,h3,h4⟩
    obtain⟨els,hel,hels⟩:=b49 len key
    have hty:∀el∈els,Ty P m e el/\plainL el=true:=by
     intro el hmem;obtain⟨i,hi⟩:=List.mem_iff_getElem?.1 hmem;obtain⟨vs,_,_,_,q1,q2⟩:=hels i el hi;exact⟨q1,q2⟩
    refine⟨[.sl els .no],D2.one ?_ rfl,by unfold Ty;rw[hu];exact⟨els,rfl,by rw[hel];exact hsh,fun el h=>(hty el h).1⟩,by simp only[plainL,plain,Bool.true_and,Bool.and_true];exact b9i fun p hp=>(hty p hp).2⟩
    by_cases h0:len=0
    ·subst h0;have:els=[]:=List.eq_nil_of_length_eq_zero hel;subst this;exact .slx _ a cap trivial (.inl rfl)
    ·obtain⟨b,o,sp⟩:=a;obtain⟨avs0,vs0,hl0,hc0,_⟩:=key 0 (by omega);have hz:=hc0 0 hk0;rw[List.getElem?_eq_getElem (by omega)]at hz
     have hspot:sp=none:=by
      have:=World.cell?_spot hz;simpa[Addr.add]using this
     subst hspot
     have:=Rel.sl (σ:=bare W a0e) els .no b o cap (P.cellsOf e) (fun i j=>((W.cell? ⟨b,o+i*P.cellsOf e+j,none⟩).getD undef)) (fun i el hi=>by
       obtain⟨vs,q1,_,q3,_⟩:=hels i el hi;rw[<-q3.1,q1]) (by omega) trivial (fun id e h=>by cases h) (fun i el hi j av hj=>by
       obtain⟨vs,q1,q2,q3,_⟩:=hels i el hi;obtain⟨c1,x,hx,hr⟩:=q3.2 j av hj;have hjl:j<P.cellsOf e:=by rw[<-q1];exact(List.getElem?_eq_some_iff.1 hx).1
       have:=q2 j hjl;rw[K5,K5,hx]at this;exact⟨by show W.cell? _=_;rw[this];rfl,fun h=>(a64 _ _ _ _).1 h,c1⟩) (fun i el hi j av hj=>by
       obtain⟨vs,q1,q2,q3,_⟩:=hels i el hi;obtain⟨c1,x,hx,hr⟩:=q3.2 j av hj;have hjl:j<P.cellsOf e:=by rw[<-q1];exact(List.getElem?_eq_some_iff.1 hx).1
       have:=q2 j hjl;rw[K5,K5,hx]at this;rw[this];exact hr)
     rw[hel]at this;exact this
  ·rename_i fs hu;simp only[Bool.and_eq_true,List.all_eq_true,List.contains_iff_mem]at hok;obtain⟨hfs,hcg⟩:=hok;obtain⟨xs,m,hm,rfl,hcl,hxl,hf⟩:=DataW.trod_struct hu h;obtain rfl:m=n:=by omega
   have key:∀i,i<fs.size->∃avs:List AV,∀f,fs[i]? =some f->D2 (bare W a0e) avs ((cs.drop f.offset).take (P.cellsOf f.type))/\Ty P m f.type avs/\plainL avs=true:=by
    intro i hi;have hfi:fs[i]? =some fs[i]:=Array.getElem?_eq_getElem hi;have e:xs[i]? =some xs[i]:=List.getElem?_eq_getElem (by omega);obtain⟨avs,h2,h3,h4⟩:=ih fs[i].type _ _ (hfs _ (by simp)) ((hf i _ hfi).trans e) (N7.part hu hw hfi (by rw[List.getElem?_map,e];rfl));refine⟨avs,fun f hf'=>?_⟩;rw[hfi]at hf';cases hf';exact⟨h2,h3,h4⟩
   obtain⟨parts,hpl,hparts⟩:=b49 fs.size key;have hcells:=b31 (P:=P) (bare W a0e) fs.toList 0 (P.cellsOf t) cs parts hcg hcl (by simpa using hpl) (fun i f p hfi hpi=>(hparts i p hpi f (by simpa using hfi)).1);refine⟨parts.flatten,by simpa using hcells,?_,a4p fun p hp=>?_⟩
   ·unfold Ty;rw[hu];refine⟨parts,rfl,hpl,fun i f hfi=>?_⟩;have hi:i<parts.length:=by rw[hpl];exact(Array.getElem?_eq_some_iff.1 hfi).1
    exact⟨parts[i],List.getElem?_eq_getElem hi,(hparts i _ (List.getElem?_eq_getElem hi) f hfi).2.1⟩
   ·obtain⟨i,hi⟩:=List.mem_iff_getElem?.1 hp;have hlt:i<fs.size:=by rw[<-hpl];exact(List.getElem?_eq_some_iff.1 hi).1
    exact(hparts i p hi fs[i] (Array.getElem?_eq_getElem hlt)).2.2
  ·rename_i k e hu;simp only[Bool.and_eq_true,decide_eq_true_eq,List.contains_iff_mem]at hok;obtain⟨he,hke⟩:=hok;obtain⟨xs,m,hm,rfl,hcl,hxl,hf⟩:=DataW.trod_array hu h;obtain rfl:m=n:=by omega
   have key:∀i,i<k->∃avs:List AV,D2 (bare W a0e) avs ((cs.drop (i*P.cellsOf e)).take (P.cellsOf e))/\Ty P m e avs/\plainL avs=true:=by
    intro i hi;have e1:xs[i]? =some xs[i]:=List.getElem?_eq_getElem (by omega);exact ih e _ _ he ((hf i hi).trans e1) (N7.at_ hu hw (by rw[List.getElem?_map,e1];rfl))
   obtain⟨parts,hpl,hparts⟩:=b49 k key
   have hall:∀p∈parts,Ty P m e p/\plainL p=true:=by
    intro p hp;obtain⟨i,hi⟩:=List.mem_iff_getElem?.1 hp;exact(hparts i p hi).2
   refine⟨parts.flatten,b8v _ (P.cellsOf e) parts cs (by rw[hcl,hpl,hke]) (fun i p hi=>(hparts i p hi).1),?_,a4p fun p hp=>(hall p hp).2⟩;unfold Ty;rw[hu];exact⟨parts,rfl,hpl,fun p hp=>(hall p hp).1⟩
  ·cases hok
end
end
def eL{α:Type}(e:α->List AV)(x:List α):List AV:=[.sl (List.map e x) .no]
def d3f(x:Int):List AV:=[.v (.int .i8 x)]
theorem I4(l:List Int):plainLL (l.map d3f)=true:=C8 _ _ fun x _=>rfl
def c1z(x:Int):List AV:=[.v (.int .i16 x)]
theorem G4(l:List Int):plainLL (l.map c1z)=true:=C8 _ _ fun x _=>rfl
def c2k(x:Int):List AV:=[.v (.int .i32 x)]
theorem G6(l:List Int):plainLL (l.map c2k)=true:=C8 _ _ fun x _=>rfl
def F9(x:Int):List AV:=[.v (.int .i64 x)]
theorem D3(l:List Int):plainLL (l.map F9)=true:=C8 _ _ fun x _=>rfl
def c1b(x:Int):List AV:=[.v (.int .u8 x)]
theorem I3(l:List Int):plainLL (l.map c1b)=true:=C8 _ _ fun x _=>rfl
def c2r(x:Int):List AV:=[.v (.int .u16 x)]
theorem G2(l:List Int):plainLL (l.map c2r)=true:=C8 _ _ fun x _=>rfl
def c11(x:Int):List AV:=[.v (.int .u32 x)]
theorem G3(l:List Int):plainLL (l.map c11)=true:=C8 _ _ fun x _=>rfl
def c2e(x:Int):List AV:=[.v (.int .u64 x)]
theorem G5(l:List Int):plainLL (l.map c2e)=true:=C8 _ _ fun x _=>rfl
def a28(x:Bool):List AV:=[.v (.bool x)]
theorem G9(l:List Bool):plainLL (l.map a28)=true:=C8 _ _ fun x _=>rfl
def L9(x:ByteArray):List AV:=[.v (.string x)]
theorem G1(l:List ByteArray):plainLL (l.map L9)=true:=C8 _ _ fun x _=>rfl
theorem d8h{α:Type}(e:α->List AV)(he:∀l:List α,plainLL (l.map e)=true)(l:List (List α)):plainLL (l.map (eL e))=true:=C8 _ _ fun x _=>by simp only[eL,plainL,plain,he];rfl
structure a9c where
 Kind:Int
 Name:ByteArray
def a9l(x:a9c):List AV:=[.v (.int .i64 x.Kind),.v (.string x.Name)]
theorem H0(x:a9c):plainL (a9l x)=true:=by simp[a9l,plainL,plain,I4,G4,G6,D3,I3,G2,G3,G5,G9,G1,V3,M1,Y7]
theorem F2(l:List a9c):plainLL (l.map a9l)=true:=C8 _ _ fun x _=>H0 x
structure c7z where
 Num:Int
 Wire:Int
 Bits:Int
 Data:ByteArray
def a6z(x:c7z):List AV:=[.v (.int .i64 x.Num),.v (.int .i64 x.Wire),.v (.int .u64 x.Bits),.v (.string x.Data)]
theorem N6(x:c7z):plainL (a6z x)=true:=by simp[a6z,plainL,plain,I4,G4,G6,D3,I3,G2,G3,G5,G9,G1,V3,M1,Y7,H0,F2]
theorem J4(l:List c7z):plainLL (l.map a6z)=true:=C8 _ _ fun x _=>N6 x
structure C0 where
 Kind:Int
 Bits:Int
 Text:ByteArray
 List_:(List C0)
 Pairs:(List (C0 × C0))
 Slots:(List (Int × C0))
 Raws:(List c7z)
mutual
def H2:C0->List AV
 |⟨f0,f1,f2,f3,f4,f5,f6⟩=>[.v (.int .i64 f0),.v (.int .u64 f1),.v (.string f2),.sl (eGValue'L f3) .no,.sl (eGPair'L f4) .no,.sl (eGSlot'L f5) .no,.sl (List.map a6z f6) .no]
def eGValue'L:List C0->List (List AV)
 |[]=>[]
 |x::l=>(H2 x)::eGValue'L l
def eGSlot'L:List (Int × C0)->List (List AV)
 |[]=>[]
 |(z0,z1)::l=>([.v (.int .i64 z0)]++H2 z1)::eGSlot'L l
def eGPair'L:List (C0 × C0)->List (List AV)
 |[]=>[]
 |(z0,z1)::l=>(H2 z0++H2 z1)::eGPair'L l
end
def T8(x:(Int × C0)):List AV:=[.v (.int .i64 x.1)]++H2 x.2
def S7(x:(C0 × C0)):List AV:=H2 x.1++H2 x.2
theorem a57:∀l,eGValue'L l=List.map H2 l
 |[]=>rfl
 |x::l=>by simp only[eGValue'L,List.map_cons,a57 l]
theorem a7n:∀l,eGSlot'L l=List.map T8 l
 |[]=>rfl
 |x::l=>by simp only[eGSlot'L,List.map_cons,a7n l,T8]
theorem a7r:∀l,eGPair'L l=List.map S7 l
 |[]=>rfl
 |x::l=>by simp only[eGPair'L,List.map_cons,a7r l,S7]
def M2(x:C0):List AV:=[.v (.int .i64 x.Kind),.v (.int .u64 x.Bits),.v (.string x.Text),.sl (List.map H2 x.List_) .no,.sl (List.map S7 x.Pairs) .no,.sl (List.map T8 x.Slots) .no,.sl (List.map a6z x.Raws) .no]
def c16(x:(Int × C0)):List AV:=[.v (.int .i64 x.1),.v (.int .i64 x.2.Kind),.v (.int .u64 x.2.Bits),.v (.string x.2.Text),.sl (List.map H2 x.2.List_) .no,.sl (List.map S7 x.2.Pairs) .no,.sl (List.map T8 x.2.Slots) .no,.sl (List.map a6z x.2.Raws) .no]
def c1n(x:(C0 × C0)):List AV:=[.v (.int .i64 x.1.Kind),.v (.int .u64 x.1.Bits),.v (.string x.1.Text),.sl (List.map H2 x.1.List_) .no,.sl (List.map S7 x.1.Pairs) .no,.sl (List.map T8 x.1.Slots) .no,.sl (List.map a6z x.1.Raws) .no,.v (.int .i64 x.2.Kind),.v (.int .u64 x.2.Bits),.v (.string x.2.Text),.sl (List.map H2 x.2.List_) .no,.sl (List.map S7 x.2.Pairs) .no,.sl (List.map T8 x.2.Slots) .no,.sl (List.map a6z x.2.Raws) .no]
theorem L4(x:C0):H2 x=M2 x:=by cases x;simp only[H2,M2,a57,a7n,a7r]
theorem a24(x:(Int × C0)):T8 x=c16 x:=by simp only[T8,c16,L4,M2,List.cons_append,List.nil_append]
theorem a25(x:(C0 × C0)):S7 x=c1n x:=by simp only[S7,c1n,L4,M2,List.cons_append,List.nil_append]
mutual
theorem a8q:∀x,plainL (H2 x)=true
 |⟨f0,f1,f2,f3,f4,f5,f6⟩=>by simp[H2,plainL,plain,pl_eGValue'L f3,pl_eGPair'L f4,pl_eGSlot'L f5,I4,G4,G6,D3,I3,G2,G3,G5,G9,G1,V3,M1,Y7,H0,F2,N6,J4]
theorem pl_eGValue'L:∀l,plainLL (eGValue'L l)=true
 |[]=>rfl
 |x::l=>by simp[eGValue'L,plainLL,plainL,plain,a2z,a8q x,pl_eGValue'L l]
theorem pl_eGSlot'L:∀l,plainLL (eGSlot'L l)=true
 |[]=>rfl
 |(z0,z1)::l=>by simp[eGSlot'L,plainLL,plainL,plain,a2z,a8q z1,pl_eGSlot'L l]
theorem pl_eGPair'L:∀l,plainLL (eGPair'L l)=true
 |[]=>rfl
 |(z0,z1)::l=>by simp[eGPair'L,plainLL,plainL,plain,a2z,a8q z0,a8q z1,pl_eGPair'L l]
end
theorem F6(l:List C0):plainLL (l.map H2)=true:=by rw[<-a57];exact pl_eGValue'L l
theorem E5(x:C0):plainL (M2 x)=true:=by have:=F6 [x];simpa[plainLL,L4]using this
theorem H5(l:List (Int × C0)):plainLL (l.map T8)=true:=by rw[<-a7n];exact pl_eGSlot'L l
theorem K4(x:(Int × C0)):plainL (c16 x)=true:=by have:=H5 [x];simpa[plainLL,a24]using this
theorem H4(l:List (C0 × C0)):plainLL (l.map S7)=true:=by rw[<-a7r];exact pl_eGPair'L l
theorem K2(x:(C0 × C0)):plainL (c1n x)=true:=by have:=H4 [x];simpa[plainLL,a25]using this
structure F4 where
 Name:ByteArray
 Val:C0
def E9(x:F4):List AV:=[.v (.string x.Name),.v (.int .i64 x.Val.Kind),.v (.int .u64 x.Val.Bits),.v (.string x.Val.Text),.sl (List.map H2 x.Val.List_) .no,.sl (List.map S7 x.Val.Pairs) .no,.sl (List.map T8 x.Val.Slots) .no,.sl (List.map a6z x.Val.Raws) .no]
theorem J8(x:F4):plainL (E9 x)=true:=by simp[E9,plainL,plain,I4,G4,G6,D3,I3,G2,G3,G5,G9,G1,V3,M1,Y7,H0,F2,N6,J4,E5,F6,K4,H5,K2,H4]
theorem F0(l:List F4):plainLL (l.map E9)=true:=C8 _ _ fun x _=>J8 x
structure B3 where
 Num:Int
 Name:ByteArray
 Card:Int
 Key:Int
 Type_:a9c
 Union:ByteArray
 HasDefault:Bool
 Default:C0
 Notes:(List F4)
def C2(x:B3):List AV:=[.v (.int .i64 x.Num),.v (.string x.Name),.v (.int .i64 x.Card),.v (.int .i64 x.Key),.v (.int .i64 x.Type_.Kind),.v (.string x.Type_.Name),.v (.string x.Union),.v (.bool x.HasDefault),.v (.int .i64 x.Default.Kind),.v (.int .u64 x.Default.Bits),.v (.string x.Default.Text),.sl (List.map H2 x.Default.List_) .no,.sl (List.map S7 x.Default.Pairs) .no,.sl (List.map T8 x.Default.Slots) .no,.sl (List.map a6z x.Default.Raws) .no,.sl (List.map E9 x.Notes) .no]
theorem E1(x:B3):plainL (C2 x)=true:=by simp[C2,plainL,plain,I4,G4,G6,D3,I3,G2,G3,G5,G9,G1,V3,M1,Y7,H0,F2,N6,J4,E5,F6,K4,H5,K2,H4,J8,F0]
theorem F5(l:List B3):plainLL (l.map C2)=true:=C8 _ _ fun x _=>E1 x
structure Y0 where
 From:Int
 To:Int
def S6(x:Y0):List AV:=[.v (.int .i64 x.From),.v (.int .i64 x.To)]
theorem N3(x:Y0):plainL (S6 x)=true:=by simp[S6,plainL,plain,I4,G4,G6,D3,I3,G2,G3,G5,G9,G1,V3,M1,Y7,H0,F2,N6,J4,E5,F6,K4,H5,K2,H4,J8,F0,E1,F5]
theorem I6(l:List Y0):plainLL (l.map S6)=true:=C8 _ _ fun x _=>N3 x
structure B2 where
 Name:ByteArray
 Fields:(List B3)
 Reserved:(List Y0)
 Gone:(List ByteArray)
 Notes:(List F4)
def C4(x:B2):List AV:=[.v (.string x.Name),.sl (List.map C2 x.Fields) .no,.sl (List.map S6 x.Reserved) .no,.sl (List.map L9 x.Gone) .no,.sl (List.map E9 x.Notes) .no]
theorem D6(x:B2):plainL (C4 x)=true:=by simp[C4,plainL,plain,I4,G4,G6,D3,I3,G2,G3,G5,G9,G1,V3,M1,Y7,H0,F2,N6,J4,E5,F6,K4,H5,K2,H4,J8,F0,E1,F5,N3,I6]
theorem F3(l:List B2):plainLL (l.map C4)=true:=C8 _ _ fun x _=>D6 x
structure b4s where
 Name:ByteArray
 Num:Int
 Notes:(List F4)
def a5n(x:b4s):List AV:=[.v (.string x.Name),.v (.int .i64 x.Num),.sl (List.map E9 x.Notes) .no]
theorem P7(x:b4s):plainL (a5n x)=true:=by simp[a5n,plainL,plain,I4,G4,G6,D3,I3,G2,G3,G5,G9,G1,V3,M1,Y7,H0,F2,N6,J4,E5,F6,K4,H5,K2,H4,J8,F0,E1,F5,N3,I6,D6,F3]
theorem M7(l:List b4s):plainLL (l.map a5n)=true:=C8 _ _ fun x _=>P7 x
structure a10 where
 Name:ByteArray
 Open:Bool
 Items:(List b4s)
 Reserved:(List Y0)
 Notes:(List F4)
def a0x(x:a10):List AV:=[.v (.string x.Name),.v (.bool x.Open),.sl (List.map a5n x.Items) .no,.sl (List.map S6 x.Reserved) .no,.sl (List.map E9 x.Notes) .no]
theorem P1(x:a10):plainL (a0x x)=true:=by simp[a0x,plainL,plain,I4,G4,G6,D3,I3,G2,G3,G5,G9,G1,V3,M1,Y7,H0,F2,N6,J4,E5,F6,K4,H5,K2,H4,J8,F0,E1,F5,N3,I6,D6,F3,P7,M7]
theorem O7(l:List a10):plainLL (l.map a0x)=true:=C8 _ _ fun x _=>P1 x
structure D8 where
 Name:ByteArray
 In:ByteArray
 Out:ByteArray
 Shape:Int
 Notes:(List F4)
def H6(x:D8):List AV:=[.v (.string x.Name),.v (.string x.In),.v (.string x.Out),.v (.int .i64 x.Shape),.sl (List.map E9 x.Notes) .no]
theorem H9(x:D8):plainL (H6 x)=true:=by simp[H6,plainL,plain,I4,G4,G6,D3,I3,G2,G3,G5,G9,G1,V3,M1,Y7,H0,F2,N6,J4,E5,F6,K4,H5,K2,H4,J8,F0,E1,F5,N3,I6,D6,F3,P7,M7,P1,O7]
theorem I7(l:List D8):plainLL (l.map H6)=true:=C8 _ _ fun x _=>H9 x
structure C7 where
 Name:ByteArray
 Methods:(List D8)
 Notes:(List F4)
def E0(x:C7):List AV:=[.v (.string x.Name),.sl (List.map H6 x.Methods) .no,.sl (List.map E9 x.Notes) .no]
theorem H3(x:C7):plainL (E0 x)=true:=by simp[E0,plainL,plain,I4,G4,G6,D3,I3,G2,G3,G5,G9,G1,V3,M1,Y7,H0,F2,N6,J4,E5,F6,K4,H5,K2,H4,J8,F0,E1,F5,N3,I6,D6,F3,P7,M7,P1,O7,H9,I7]
theorem I1(l:List C7):plainLL (l.map E0)=true:=C8 _ _ fun x _=>H3 x
structure A3 where
 Messages:(List B2)
 Enums:(List a10)
 Services:(List C7)
def A6(x:A3):List AV:=[.sl (List.map C4 x.Messages) .no,.sl (List.map a0x x.Enums) .no,.sl (List.map E0 x.Services) .no]
theorem C9(x:A3):plainL (A6 x)=true:=by simp[A6,plainL,plain,I4,G4,G6,D3,I3,G2,G3,G5,G9,G1,V3,M1,Y7,H0,F2,N6,J4,E5,F6,K4,H5,K2,H4,J8,F0,E1,F5,N3,I6,D6,F3,P7,M7,P1,O7,H9,I7,H3,I1]
theorem N5(l:List A3):plainLL (l.map A6)=true:=C8 _ _ fun x _=>C9 x
structure B5 where
 Verb:ByteArray
 Path:ByteArray
 Service:ByteArray
 Method:ByteArray
 Body:ByteArray
def C1(x:B5):List AV:=[.v (.string x.Verb),.v (.string x.Path),.v (.string x.Service),.v (.string x.Method),.v (.string x.Body)]
theorem I5(x:B5):plainL (C1 x)=true:=by simp[C1,plainL,plain,I4,G4,G6,D3,I3,G2,G3,G5,G9,G1,V3,M1,Y7,H0,F2,N6,J4,E5,F6,K4,H5,K2,H4,J8,F0,E1,F5,N3,I6,D6,F3,P7,M7,P1,O7,H9,I7,H3,I1,C9,N5]
theorem J0(l:List B5):plainLL (l.map C1)=true:=C8 _ _ fun x _=>I5 x
structure S3 where
 Key:ByteArray
 Val:ByteArray
def a33(x:S3):List AV:=[.v (.string x.Key),.v (.string x.Val)]
theorem a2m(x:S3):plainL (a33 x)=true:=by simp[a33,plainL,plain,I4,G4,G6,D3,I3,G2,G3,G5,G9,G1,V3,M1,Y7,H0,F2,N6,J4,E5,F6,K4,H5,K2,H4,J8,F0,E1,F5,N3,I6,D6,F3,P7,M7,P1,O7,H9,I7,H3,I1,C9,N5,I5,J0]
theorem W8(l:List S3):plainLL (l.map a33)=true:=C8 _ _ fun x _=>a2m x
structure h1f where
 Verb:ByteArray
 Path:ByteArray
 Query:(List S3)
 Body:ByteArray
def c8y(x:h1f):List AV:=[.v (.string x.Verb),.v (.string x.Path),.sl (List.map a33 x.Query) .no,.v (.string x.Body)]
theorem a99(x:h1f):plainL (c8y x)=true:=by simp[c8y,plainL,plain,I4,G4,G6,D3,I3,G2,G3,G5,G9,G1,V3,M1,Y7,H0,F2,N6,J4,E5,F6,K4,H5,K2,H4,J8,F0,E1,F5,N3,I6,D6,F3,P7,M7,P1,O7,H9,I7,H3,I1,C9,N5,I5,J0,a2m,W8]
theorem a5q(l:List h1f):plainLL (l.map c8y)=true:=C8 _ _ fun x _=>a99 x
structure A8 where
 Def:ByteArray
 Num:Int
 Err:Int
def D7(x:A8):List AV:=[.v (.string x.Def),.v (.int .i64 x.Num),.v (.int .i64 x.Err)]
theorem X9(x:A8):plainL (D7 x)=true:=by simp[D7,plainL,plain,I4,G4,G6,D3,I3,G2,G3,G5,G9,G1,V3,M1,Y7,H0,F2,N6,J4,E5,F6,K4,H5,K2,H4,J8,F0,E1,F5,N3,I6,D6,F3,P7,M7,P1,O7,H9,I7,H3,I1,C9,N5,I5,J0,a2m,W8,a99,a5q]
theorem K6(l:List A8):plainLL (l.map D7)=true:=C8 _ _ fun x _=>X9 x
structure G0 where
 def_:ByteArray
 l:(List A8)
def b80(x:G0):List AV:=[.v (.string x.def_),.sl (List.map D7 x.l) .no]
theorem b1y(x:G0):plainL (b80 x)=true:=by simp[b80,plainL,plain,I4,G4,G6,D3,I3,G2,G3,G5,G9,G1,V3,M1,Y7,H0,F2,N6,J4,E5,F6,K4,H5,K2,H4,J8,F0,E1,F5,N3,I6,D6,F3,P7,M7,P1,O7,H9,I7,H3,I1,C9,N5,I5,J0,a2m,W8,a99,a5q,X9,K6]
theorem a79(l:List G0):plainLL (l.map b80)=true:=C8 _ _ fun x _=>b1y x
theorem b2s(m:List Bool)(n:Nat)(x:a9c):lowL m n (a9l x)=true:=lowL_plain _ _ _ (H0 x)
theorem b92(m:List Bool)(n:Nat)(x:c7z):lowL m n (a6z x)=true:=lowL_plain _ _ _ (N6 x)
theorem b22(m:List Bool)(n:Nat)(x:C0):lowL m n (M2 x)=true:=lowL_plain _ _ _ (E5 x)
theorem b64(m:List Bool)(n:Nat)(x:(Int × C0)):lowL m n (c16 x)=true:=lowL_plain _ _ _ (K4 x)
theorem b7r(m:List Bool)(n:Nat)(x:(C0 × C0)):lowL m n (c1n x)=true:=lowL_plain _ _ _ (K2 x)
theorem b5t(m:List Bool)(n:Nat)(x:F4):lowL m n (E9 x)=true:=lowL_plain _ _ _ (J8 x)
theorem b2n(m:List Bool)(n:Nat)(x:B3):lowL m n (C2 x)=true:=lowL_plain _ _ _ (E1 x)
theorem b7p(m:List Bool)(n:Nat)(x:Y0):lowL m n (S6 x)=true:=lowL_plain _ _ _ (N3 x)
theorem a69(m:List Bool)(n:Nat)(x:B2):lowL m n (C4 x)=true:=lowL_plain _ _ _ (D6 x)
theorem b6a(m:List Bool)(n:Nat)(x:b4s):lowL m n (a5n x)=true:=lowL_plain _ _ _ (P7 x)
theorem b50(m:List Bool)(n:Nat)(x:a10):lowL m n (a0x x)=true:=lowL_plain _ _ _ (P1 x)
theorem b0d(m:List Bool)(n:Nat)(x:D8):lowL m n (H6 x)=true:=lowL_plain _ _ _ (H9 x)
theorem a68(m:List Bool)(n:Nat)(x:C7):lowL m n (E0 x)=true:=lowL_plain _ _ _ (H3 x)
theorem a9q(m:List Bool)(n:Nat)(x:A3):lowL m n (A6 x)=true:=lowL_plain _ _ _ (C9 x)
theorem b2e(m:List Bool)(n:Nat)(x:B5):lowL m n (C1 x)=true:=lowL_plain _ _ _ (I5 x)
theorem b6p(m:List Bool)(n:Nat)(x:S3):lowL m n (a33 x)=true:=lowL_plain _ _ _ (a2m x)
theorem c1g(m:List Bool)(n:Nat)(x:h1f):lowL m n (c8y x)=true:=lowL_plain _ _ _ (a99 x)
theorem a76(m:List Bool)(n:Nat)(x:A8):lowL m n (D7 x)=true:=lowL_plain _ _ _ (X9 x)
theorem b5y(m:List Bool)(n:Nat)(x:G0):lowL m n (b80 x)=true:=lowL_plain _ _ _ (b1y x)
theorem c0d(m:List Bool)(n:Nat)(l:List Int):lowLL m n (l.map d3f)=true:=lowLL_plain _ _ _ (I4 l)
theorem b7z(m:List Bool)(n:Nat)(l:List Int):lowLL m n (l.map c1z)=true:=lowLL_plain _ _ _ (G4 l)
theorem b7m(m:List Bool)(n:Nat)(l:List Int):lowLL m n (l.map c2k)=true:=lowLL_plain _ _ _ (G6 l)
theorem b5k(m:List Bool)(n:Nat)(l:List Int):lowLL m n (l.map F9)=true:=lowLL_plain _ _ _ (D3 l)
theorem c00(m:List Bool)(n:Nat)(l:List Int):lowLL m n (l.map c1b)=true:=lowLL_plain _ _ _ (I3 l)
theorem b5l(m:List Bool)(n:Nat)(l:List Int):lowLL m n (l.map c2r)=true:=lowLL_plain _ _ _ (G2 l)
theorem b5v(m:List Bool)(n:Nat)(l:List Int):lowLL m n (l.map c11)=true:=lowLL_plain _ _ _ (G3 l)
theorem b6h(m:List Bool)(n:Nat)(l:List Int):lowLL m n (l.map c2e)=true:=lowLL_plain _ _ _ (G5 l)
theorem b9t(m:List Bool)(n:Nat)(l:List Bool):lowLL m n (l.map a28)=true:=lowLL_plain _ _ _ (G9 l)
theorem c4z(m:List Bool)(n:Nat)(l:List ByteArray):lowLL m n (l.map L9)=true:=lowLL_plain _ _ _ (G1 l)
theorem b2i(m:List Bool)(n:Nat)(l:List a9c):lowLL m n (l.map a9l)=true:=lowLL_plain _ _ _ (F2 l)
theorem c0l(m:List Bool)(n:Nat)(l:List c7z):lowLL m n (l.map a6z)=true:=lowLL_plain _ _ _ (J4 l)
theorem b26(m:List Bool)(n:Nat)(l:List C0):lowLL m n (l.map H2)=true:=lowLL_plain _ _ _ (F6 l)
theorem b67(m:List Bool)(n:Nat)(l:List (Int × C0)):lowLL m n (l.map T8)=true:=lowLL_plain _ _ _ (H5 l)
theorem b7a(m:List Bool)(n:Nat)(l:List (C0 × C0)):lowLL m n (l.map S7)=true:=lowLL_plain _ _ _ (H4 l)
theorem b6q(m:List Bool)(n:Nat)(l:List F4):lowLL m n (l.map E9)=true:=lowLL_plain _ _ _ (F0 l)
theorem b24(m:List Bool)(n:Nat)(l:List B3):lowLL m n (l.map C2)=true:=lowLL_plain _ _ _ (F5 l)
theorem b6m(m:List Bool)(n:Nat)(l:List Y0):lowLL m n (l.map S6)=true:=lowLL_plain _ _ _ (I6 l)
theorem a77(m:List Bool)(n:Nat)(l:List B2):lowLL m n (l.map C4)=true:=lowLL_plain _ _ _ (F3 l)
theorem b6l(m:List Bool)(n:Nat)(l:List b4s):lowLL m n (l.map a5n)=true:=lowLL_plain _ _ _ (M7 l)
theorem b6n(m:List Bool)(n:Nat)(l:List a10):lowLL m n (l.map a0x)=true:=lowLL_plain _ _ _ (O7 l)
theorem b0l(m:List Bool)(n:Nat)(l:List D8):lowLL m n (l.map H6)=true:=lowLL_plain _ _ _ (I7 l)
theorem a71(m:List Bool)(n:Nat)(l:List C7):lowLL m n (l.map E0)=true:=lowLL_plain _ _ _ (I1 l)
theorem b0w(m:List Bool)(n:Nat)(l:List A3):lowLL m n (l.map A6)=true:=lowLL_plain _ _ _ (N5 l)
theorem b3n(m:List Bool)(n:Nat)(l:List B5):lowLL m n (l.map C1)=true:=lowLL_plain _ _ _ (J0 l)
theorem b6o(m:List Bool)(n:Nat)(l:List S3):lowLL m n (l.map a33)=true:=lowLL_plain _ _ _ (W8 l)
theorem c0i(m:List Bool)(n:Nat)(l:List h1f):lowLL m n (l.map c8y)=true:=lowLL_plain _ _ _ (a5q l)
theorem a7u(m:List Bool)(n:Nat)(l:List A8):lowLL m n (l.map D7)=true:=lowLL_plain _ _ _ (K6 l)
theorem b61(m:List Bool)(n:Nat)(l:List G0):lowLL m n (l.map b80)=true:=lowLL_plain _ _ _ (a79 l)
theorem c1c(m:List Bool)(n:Nat)(l:List Int):lowL m n (cellsOf d3f l)=true:=lowL_plain _ _ _ (B6 _ (I4 l))
theorem b5j(m:List Bool)(n:Nat)(l:List Int):lowL m n (cellsOf c1z l)=true:=lowL_plain _ _ _ (B6 _ (G4 l))
theorem b5z(m:List Bool)(n:Nat)(l:List Int):lowL m n (cellsOf c2k l)=true:=lowL_plain _ _ _ (B6 _ (G6 l))
theorem b5q(m:List Bool)(n:Nat)(l:List Int):lowL m n (cellsOf F9 l)=true:=lowL_plain _ _ _ (B6 _ (D3 l))
theorem c07(m:List Bool)(n:Nat)(l:List Int):lowL m n (cellsOf c1b l)=true:=lowL_plain _ _ _ (B6 _ (I3 l))
theorem b71(m:List Bool)(n:Nat)(l:List Int):lowL m n (cellsOf c2r l)=true:=lowL_plain _ _ _ (B6 _ (G2 l))
theorem b6v(m:List Bool)(n:Nat)(l:List Int):lowL m n (cellsOf c11 l)=true:=lowL_plain _ _ _ (B6 _ (G3 l))
theorem b51(m:List Bool)(n:Nat)(l:List Int):lowL m n (cellsOf c2e l)=true:=lowL_plain _ _ _ (B6 _ (G5 l))
theorem c08(m:List Bool)(n:Nat)(l:List Bool):lowL m n (cellsOf a28 l)=true:=lowL_plain _ _ _ (B6 _ (G9 l))
theorem c43(m:List Bool)(n:Nat)(l:List ByteArray):lowL m n (cellsOf L9 l)=true:=lowL_plain _ _ _ (B6 _ (G1 l))
theorem b2y(m:List Bool)(n:Nat)(l:List a9c):lowL m n (cellsOf a9l l)=true:=lowL_plain _ _ _ (B6 _ (F2 l))
theorem c0t(m:List Bool)(n:Nat)(l:List c7z):lowL m n (cellsOf a6z l)=true:=lowL_plain _ _ _ (B6 _ (J4 l))
theorem b3k(m:List Bool)(n:Nat)(l:List C0):lowL m n (cellsOf H2 l)=true:=lowL_plain _ _ _ (B6 _ (F6 l))
theorem b7d(m:List Bool)(n:Nat)(l:List (Int × C0)):lowL m n (cellsOf T8 l)=true:=lowL_plain _ _ _ (B6 _ (H5 l))
theorem b5u(m:List Bool)(n:Nat)(l:List (C0 × C0)):lowL m n (cellsOf S7 l)=true:=lowL_plain _ _ _ (B6 _ (H4 l))
theorem b59(m:List Bool)(n:Nat)(l:List F4):lowL m n (cellsOf E9 l)=true:=lowL_plain _ _ _ (B6 _ (F0 l))
theorem b2j(m:List Bool)(n:Nat)(l:List B3):lowL m n (cellsOf C2 l)=true:=lowL_plain _ _ _ (B6 _ (F5 l))
theorem b6z(m:List Bool)(n:Nat)(l:List Y0):lowL m n (cellsOf S6 l)=true:=lowL_plain _ _ _ (B6 _ (I6 l))
theorem a7m(m:List Bool)(n:Nat)(l:List B2):lowL m n (cellsOf C4 l)=true:=lowL_plain _ _ _ (B6 _ (F3 l))
theorem b5c(m:List Bool)(n:Nat)(l:List b4s):lowL m n (cellsOf a5n l)=true:=lowL_plain _ _ _ (B6 _ (M7 l))
theorem b5r(m:List Bool)(n:Nat)(l:List a10):lowL m n (cellsOf a0x l)=true:=lowL_plain _ _ _ (B6 _ (O7 l))
theorem b0k(m:List Bool)(n:Nat)(l:List D8):lowL m n (cellsOf H6 l)=true:=lowL_plain _ _ _ (B6 _ (I7 l))
theorem a8b(m:List Bool)(n:Nat)(l:List C7):lowL m n (cellsOf E0 l)=true:=lowL_plain _ _ _ (B6 _ (I1 l))
theorem b0b(m:List Bool)(n:Nat)(l:List A3):lowL m n (cellsOf A6 l)=true:=lowL_plain _ _ _ (B6 _ (N5 l))
theorem b23(m:List Bool)(n:Nat)(l:List B5):lowL m n (cellsOf C1 l)=true:=lowL_plain _ _ _ (B6 _ (J0 l))
theorem b5d(m:List Bool)(n:Nat)(l:List S3):lowL m n (cellsOf a33 l)=true:=lowL_plain _ _ _ (B6 _ (W8 l))
theorem b9v(m:List Bool)(n:Nat)(l:List h1f):lowL m n (cellsOf c8y l)=true:=lowL_plain _ _ _ (B6 _ (a5q l))
theorem a7l(m:List Bool)(n:Nat)(l:List A8):lowL m n (cellsOf D7 l)=true:=lowL_plain _ _ _ (B6 _ (K6 l))
theorem b7t(m:List Bool)(n:Nat)(l:List G0):lowL m n (cellsOf b80 l)=true:=lowL_plain _ _ _ (B6 _ (a79 l))
def T5(x:G0):List AV:=[.v (.string x.def_),.sl (List.map D7 x.l) (.own 0)]
def a9j(x:G0):List (Nat × Nat):=[(x.l.length,3)]
theorem a2t(x:G0):(T5 x).all ok1=true:=by simp[T5,ok1,plain,I4,G4,G6,D3,I3,G2,G3,G5,G9,G1,V3,M1,Y7,H0,F2,N6,J4,E5,F6,K4,H5,K2,H4,J8,F0,E1,F5,N3,I6,D6,F3,P7,M7,P1,O7,H9,I7,H3,I1,C9,N5,I5,J0,a2m,W8,a99,a5q,X9,K6,b1y,a79]
theorem b70(x:G0):lowL [true] 1 (T5 x)=true:=by first|rfl|(simp only[T5,low,lowL,c1c,b5j,b5z,b5q,c07,b71,b6v,b51,c08,c43,b2y,c0t,b3k,b7d,b5u,b59,b2j,b6z,a7m,b5c,b5r,b0k,a8b,b0b,b23,b5d,b9v,a7l,b7t,c4o,b96,c0d,b7z,b7m,b5k,c00,b5l,b5v,b6h,b9t,c4z,b2i,c0l,b26,b67,b7a,b6q,b24,b6m,a77,b6l,b6n,b0l,a71,b0w,b3n,b6o,c0i,a7u,b61,b2s,b92,b22,b64,b7r,b5t,b2n,b7p,a69,b6a,b50,b0d,a68,a9q,b2e,b6p,c1g,a76,b5y];rfl)
theorem d13:b0a a28 1:=⟨fun y=>rfl,fun y=>rfl,fun y=>rfl,fun y=>rfl⟩
def c8j:En Bool:=⟨a28,a28,1,fun _=>rfl,fun _=>rfl,d13⟩
theorem c8p:b0a a0x 5:=⟨fun y=>rfl,fun y=>rfl,fun y=>P1 y,fun y=>rfl⟩
def a6s:En a10:=⟨a0x,a0x,5,fun _=>rfl,fun _=>rfl,c8p⟩
theorem c30:b0a C2 16:=⟨fun y=>rfl,fun y=>rfl,fun y=>E1 y,fun y=>rfl⟩
def M0:En B3:=⟨C2,C2,16,fun _=>rfl,fun _=>rfl,c30⟩
theorem c7l:b0a a5n 3:=⟨fun y=>rfl,fun y=>rfl,fun y=>P7 y,fun y=>rfl⟩
def a5e:En b4s:=⟨a5n,a5n,3,fun _=>rfl,fun _=>rfl,c7l⟩
theorem c0b:b0a C4 5:=⟨fun y=>rfl,fun y=>rfl,fun y=>D6 y,fun y=>rfl⟩
def K1:En B2:=⟨C4,C4,5,fun _=>rfl,fun _=>rfl,c0b⟩
theorem c71:b0a a33 2:=⟨fun y=>rfl,fun y=>rfl,fun y=>a2m y,fun y=>rfl⟩
def e1r:En S3:=⟨a33,a33,2,fun _=>rfl,fun _=>rfl,c71⟩
theorem c1x:b0a H6 5:=⟨fun y=>rfl,fun y=>rfl,fun y=>H9 y,fun y=>rfl⟩
def Z9:En D8:=⟨H6,H6,5,fun _=>rfl,fun _=>rfl,c1x⟩
theorem c8x:b0a E9 8:=⟨fun y=>rfl,fun y=>rfl,fun y=>J8 y,fun y=>rfl⟩
def a17:En F4:=⟨E9,E9,8,fun _=>rfl,fun _=>rfl,c8x⟩
theorem c7y:b0a S7 14:=⟨fun y=>by rw[a25];rfl,fun y=>by rw[a25];rfl,fun y=>by rw[a25];exact K2 y,fun y=>by rw[a25];rfl⟩
def c5t:En (C0 × C0):=⟨c1n,S7,14,fun y=>a25 y,fun _=>rfl,c7y⟩
theorem b95:b0a D7 3:=⟨fun y=>rfl,fun y=>rfl,fun y=>X9 y,fun y=>rfl⟩
def a67:En A8:=⟨D7,D7,3,fun _=>rfl,fun _=>rfl,b95⟩
theorem c9v:b0a a6z 4:=⟨fun y=>rfl,fun y=>rfl,fun y=>N6 y,fun y=>rfl⟩
def d71:En c7z:=⟨a6z,a6z,4,fun _=>rfl,fun _=>rfl,c9v⟩
theorem c4g:b0a C1 5:=⟨fun y=>rfl,fun y=>rfl,fun y=>I5 y,fun y=>rfl⟩
def L5:En B5:=⟨C1,C1,5,fun _=>rfl,fun _=>rfl,c4g⟩
theorem c0h:b0a E0 3:=⟨fun y=>rfl,fun y=>rfl,fun y=>H3 y,fun y=>rfl⟩
def W2:En C7:=⟨E0,E0,3,fun _=>rfl,fun _=>rfl,c0h⟩
theorem c7v:b0a T8 8:=⟨fun y=>by rw[a24];rfl,fun y=>by rw[a24];rfl,fun y=>by rw[a24];exact K4 y,fun y=>by rw[a24];rfl⟩
def c6h:En (Int × C0):=⟨c16,T8,8,fun y=>a24 y,fun _=>rfl,c7v⟩
theorem c8d:b0a S6 2:=⟨fun y=>rfl,fun y=>rfl,fun y=>N3 y,fun y=>rfl⟩
def a4h:En Y0:=⟨S6,S6,2,fun _=>rfl,fun _=>rfl,c8d⟩
theorem c3z:b0a H2 7:=⟨fun y=>by rw[L4];rfl,fun y=>by rw[L4];rfl,fun y=>by rw[L4];exact E5 y,fun y=>by rw[L4];rfl⟩
def c0m:En C0:=⟨M2,H2,7,fun y=>L4 y,fun _=>rfl,c3z⟩
theorem c7n:b0a F9 1:=⟨fun y=>rfl,fun y=>rfl,fun y=>rfl,fun y=>rfl⟩
def b6g:En Int:=⟨F9,F9,1,fun _=>rfl,fun _=>rfl,c7n⟩
theorem d1p:b0a c1b 1:=⟨fun y=>rfl,fun y=>rfl,fun y=>rfl,fun y=>rfl⟩
def d4u:En Int:=⟨c1b,c1b,1,fun _=>rfl,fun _=>rfl,d1p⟩
theorem c2d:b0a (eL F9) 1:=⟨fun y=>rfl,fun y=>rfl,fun y=>by simp[eL,plainL,plain,D3,G9,G1],fun y=>rfl⟩
def c0c:En (List Int):=⟨(eL F9),(eL F9),1,fun _=>rfl,fun _=>rfl,c2d⟩
theorem d5c:b0a L9 1:=⟨fun y=>rfl,fun y=>rfl,fun y=>rfl,fun y=>rfl⟩
def a3u:En ByteArray:=⟨L9,L9,1,fun _=>rfl,fun _=>rfl,d5c⟩
theorem b0o(l:List (List Int)):plainLL (l.map (eL F9))=true:=d8h _ (fun l=>D3 l) l
theorem b68(m:List Bool)(n:Nat)(l:List (List Int)):lowLL m n (l.map (eL F9))=true:=lowLL_plain _ _ _ (b0o l)
def GLm(mg:Int):List (Nat × List AV):=[(2,[.v (.int .i64 mg)]),(1,[.v (.string ⟨#[111,107]⟩),.v (.string ⟨#[99,97,110,99,101,108,108,101,100]⟩),.v (.string ⟨#[105,110,118,97,108,105,100]⟩),.v (.string ⟨#[100,101,97,100,108,105,110,101]⟩),.v (.string ⟨#[110,111,116,95,102,111,117,110,100]⟩),.v (.string ⟨#[101,120,105,115,116,115]⟩),.v (.string ⟨#[100,101,110,105,101,100]⟩),.v (.string ⟨#[101,120,104,97,117,115,116,101,100]⟩),.v (.string ⟨#[102,97,105,108,101,100]⟩),.v (.string ⟨#[97,98,111,114,116,101,100]⟩),.v (.string ⟨#[117,110,105,109,112,108,101,109,101,110,116,101,100]⟩),.v (.string ⟨#[105,110,116,101,114,110,97,108]⟩),.v (.string ⟨#[117,110,97,118,97,105,108,97,98,108,101]⟩),.v (.string ⟨#[100,97,116,97,95,108,111,115,115]⟩)])]
theorem pg{P:Program}{gl:List (Nat × List AV)}{f:FuncId}{a:List AV}{r:AV}(h:C6 P [] f a r):C6 P gl f a r:=⟨h.1,fun w outer cargs ho _ hr=>h.2 w outer cargs ho (fun g cells hg=>by cases hg) hr⟩
theorem pgX{P:Program}{f:FuncId}{a:List AV}{α:Type}{e:α->AV}{W:α->Prop}(mg:Int)(h:∃y,C6 P [] f a (e y)/\W y):∃y,C6 P (GLm mg) f a (e y)/\W y:=h.imp fun _ h=>⟨pg h.1,h.2⟩
def e3(r:Bool):AV:=.v (.bool r)
def e4(r:Bool):AV:=.v (.bool r)
def e5(r:Bool):AV:=.v (.bool r)
def a6p(mg:Int)(s:A3)(l:(List B5))(verb:ByteArray)(path:ByteArray)(r:Bool):Prop:=C6 Tryz.prog (GLm mg) 5 [.agg (A6 s),.sl (List.map C1 l) .no,.v (.string verb),.v (.string path)] (e5 r)
def e6(r:Bool):AV:=.v (.bool r)
def b25(s:A3)(l:(List B5))(r:Bool):Prop:=C6 Tryz.prog [] 6 [.agg (A6 s),.sl (List.map C1 l) .no] (e6 r)
def e7(r:Bool):AV:=.v (.bool r)
def a54(mg:Int)(r:Bool):Prop:=C6 Tryz.prog (GLm mg) 7 [] (e7 r)
def e8(r:Int):AV:=.v (.int .i64 r)
def a6d(mg:Int)(s:A3)(l:(List B5))(r:Int):Prop:=C6 Tryz.prog (GLm mg) 8 [.agg (A6 s),.sl (List.map C1 l) .no] (e8 r)
def e10(r:Bool):AV:=.v (.bool r)
def a91(l:(List B5))(r:Bool):Prop:=C6 Tryz.prog [] 10 [.sl (List.map C1 l) .no] (e10 r)
def e11(r:(Int × (List S3) × Int)):AV:=.tuple [.v (.int .i64 r.1),.sl (List.map a33 r.2.1) .no,.v (.int .i64 r.2.2)]
def a5s(mg:Int)(l:(List B5))(verb:ByteArray)(path:ByteArray)(r:(Int × (List S3) × Int)):Prop:=C6 Tryz.prog (GLm mg) 11 [.sl (List.map C1 l) .no,.v (.string verb),.v (.string path)] (e11 r)
def e14(r:Bool):AV:=.v (.bool r)
def a97(s:A3)(r:Bool):Prop:=C6 Tryz.prog [] 14 [.agg (A6 s)] (e14 r)
def e15(r:Bool):AV:=.v (.bool r)
def a9z(s:A3)(r:Bool):Prop:=C6 Tryz.prog [] 15 [.agg (A6 s)] (e15 r)
def e19(r:(ByteArray × Int)):AV:=.tuple [.v (.string r.1),.v (.int .i64 r.2)]
def a6j(x0:ByteArray)(r:(ByteArray × Int)):Prop:=C6 Tryz.prog [] 19 [.v (.string x0)] (e19 r)
def e23(r:Int):AV:=.v (.int .i64 r)
def a0b(mg:Int)(s:A3)(r_:B5)(r:Int):Prop:=C6 Tryz.prog (GLm mg) 23 [.agg (A6 s),.agg (C1 r_)] (e23 r)
def e24(r:Bool):AV:=.v (.bool r)
def I2(mg:Int)(s:(List B5))(f:GFn)(r:Bool):Prop:=C6 Tryz.prog (GLm mg) 24 [.sl (List.map C1 s) .no,.clo (.func f.fn) f.fi f.cap] (e24 r)
def e25(r:Bool):AV:=.v (.bool r)
def a27(mg:Int)(old:B5)(c1_:B5)(r:Bool):Prop:=C6 Tryz.prog (GLm mg) 25 [.agg (C1 old),.elt (C1 c1_) 0] (e25 r)
def e26(r:Bool):AV:=.v (.bool r)
def a3h(mg:Int)(a:B5)(b:B5)(r:Bool):Prop:=C6 Tryz.prog (GLm mg) 26 [.agg (C1 a),.agg (C1 b)] (e26 r)
def e29(r:((List S3) × Bool)):AV:=.tuple [.sl (List.map a33 r.1) .no,.v (.bool r.2)]
def a6e(mg:Int)(r_:B5)(verb:ByteArray)(path:ByteArray)(r:((List S3) × Bool)):Prop:=C6 Tryz.prog (GLm mg) 29 [.agg (C1 r_),.v (.string verb),.v (.string path)] (e29 r)
def e31(r:Int):AV:=.v (.int .i64 r)
def K7(l:(List F4))(left:Int)(r:Int):Prop:=C6 Tryz.prog [] 31 [.sl (List.map E9 l) .no,.v (.int .i64 left)] (e31 r)
def e32(r:Int):AV:=.v (.int .i64 r)
def J1(l:(List ByteArray))(left:Int)(r:Int):Prop:=C6 Tryz.prog [] 32 [.sl (List.map L9 l) .no,.v (.int .i64 left)] (e32 r)
def e33(r:(List A8)):AV:=.sl (List.map D7 r) .no
def c2v(s:A3)(r:(List A8)):Prop:=C6 Tryz.prog [] 33 [.agg (A6 s)] (e33 r)
def e35(r:ByteArray):AV:=.v (.string r)
def b0s(service:ByteArray)(method:ByteArray)(r:ByteArray):Prop:=C6 Tryz.prog [] 35 [.v (.string service),.v (.string method)] (e35 r)
def e36(r:(D8 × Int)):AV:=.tuple [.agg (H6 r.1),.v (.int .i64 r.2)]
def b0z(mg:Int)(s:A3)(path:ByteArray)(r:(D8 × Int)):Prop:=C6 Tryz.prog (GLm mg) 36 [.agg (A6 s),.v (.string path)] (e36 r)
def e50(r:Bool):AV:=.v (.bool r)
def a2u(c:Int)(r:Bool):Prop:=C6 Tryz.prog [] 50 [.v (.int .u8 c)] (e50 r)
def e52(r:((List ByteArray) × Bool)):AV:=.tuple [.sl (List.map L9 r.1) .no,.v (.bool r.2)]
def L3(mg:Int)(path:ByteArray)(r:((List ByteArray) × Bool)):Prop:=C6 Tryz.prog (GLm mg) 52 [.v (.string path)] (e52 r)
def e53(r:Bool):AV:=.v (.bool r)
def J3(s:(List ByteArray))(v:ByteArray)(r:Bool):Prop:=C6 Tryz.prog [] 53 [.sl (List.map L9 s) .no,.v (.string v)] (e53 r)
def e54(r:((List (List Int)) × Int)):AV:=.tuple [.sl (List.map (eL F9) r.1) .no,.v (.int .i64 r.2)]
def S2(mg:Int)(s:A3)(in_:ByteArray)(r_:B5)(r:((List (List Int)) × Int)):Prop:=C6 Tryz.prog (GLm mg) 54 [.agg (A6 s),.v (.string in_),.agg (C1 r_)] (e54 r)
def e55(r:(B3 × Bool)):AV:=.tuple [.agg (C2 r.1),.v (.bool r.2)]
def a4u(s:A3)(in_:ByteArray)(r_:B5)(r:(B3 × Bool)):Prop:=C6 Tryz.prog [] 55 [.agg (A6 s),.v (.string in_),.agg (C1 r_)] (e55 r)
def e56(r:Bool):AV:=.v (.bool r)
def E4(s:(List (List Int)))(f:GFn)(r:Bool):Prop:=C6 Tryz.prog [] 56 [.sl (List.map (eL F9) s) .no,.clo (.func f.fn) f.fi f.cap] (e56 r)
def e57(r:Bool):AV:=.v (.bool r)
def V6(n:(List Int))(c1_:B3)(r:Bool):Prop:=C6 Tryz.prog [] 57 [.sl (List.map F9 n) .no,.elt (C2 c1_) 0] (e57 r)
def e58(r:Int):AV:=.v (.int .i64 r)
def Q4(mg:Int)(s:(List B5))(f:GFn)(r:Int):Prop:=C6 Tryz.prog (GLm mg) 58 [.sl (List.map C1 s) .no,.clo (.func f.fn) f.fi f.cap] (e58 r)
def e59(r:Bool):AV:=.v (.bool r)
def T7(segment:ByteArray)(r:Bool):Prop:=C6 Tryz.prog [] 59 [.v (.string segment)] (e59 r)
def e66(r:((List ByteArray) × Bool)):AV:=.tuple [.sl (List.map L9 r.1) .no,.v (.bool r.2)]
def X5(path:ByteArray)(r:((List ByteArray) × Bool)):Prop:=C6 Tryz.prog [] 66 [.v (.string path)] (e66 r)
def e67(r:(ByteArray × Bool)):AV:=.tuple [.v (.string r.1),.v (.bool r.2)]
def P8(mg:Int)(segment:ByteArray)(r:(ByteArray × Bool)):Prop:=C6 Tryz.prog (GLm mg) 67 [.v (.string segment)] (e67 r)
def e71(r:(List ByteArray)):AV:=.sl (List.map L9 r) .no
def a04(s:A3)(which:Int)(r:(List ByteArray)):Prop:=C6 Tryz.prog [] 71 [.agg (A6 s),.v (.int .i64 which)] (e71 r)
def e72(r:G0):AV:=.tuple []
theorem h6s(r:G0):plain (e72 r)=true:=rfl
def A9(p:G0)(bad:Bool)(num:Int)(e_:Int)(r:G0):Prop:=b8d Tryz.prog [] 72 [.ptr 0 0,.v (.bool bad),.v (.int .i64 num),.v (.int .i64 e_)] (T5 p) (a9j p) (e72 r) (T5 r) (a9j r)
def e73(r:Bool):AV:=.v (.bool r)
def a3a(l:(List ByteArray))(r:Bool):Prop:=C6 Tryz.prog [] 73 [.sl (List.map L9 l) .no] (e73 r)
def e74(r:Bool):AV:=.v (.bool r)
def a5c(a:(List ByteArray))(b:(List ByteArray))(r:Bool):Prop:=C6 Tryz.prog [] 74 [.sl (List.map L9 a) .no,.sl (List.map L9 b) .no] (e74 r)
def e75(r:(List Bool)):AV:=.sl (List.map a28 r) .no
def a7h(s:A3)(r:(List Bool)):Prop:=C6 Tryz.prog [] 75 [.agg (A6 s)] (e75 r)
def e76(r:(List A8)):AV:=.sl (List.map D7 r) .no
def a5y(s:A3)(m:B2)(finite:(List Bool))(r:(List A8)):Prop:=C6 Tryz.prog [] 76 [.agg (A6 s),.agg (C4 m),.sl (List.map a28 finite) .no] (e76 r)
def e77(r:(List A8)):AV:=.sl (List.map D7 r) .no
def b3a(e_:a10)(r:(List A8)):Prop:=C6 Tryz.prog [] 77 [.agg (a0x e_)] (e77 r)
def e78(r:(List A8)):AV:=.sl (List.map D7 r) .no
def a55(s:A3)(v:C7)(r:(List A8)):Prop:=C6 Tryz.prog [] 78 [.agg (A6 s),.agg (E0 v)] (e78 r)
def e79(r:(ByteArray × ByteArray × Bool)):AV:=.tuple [.v (.string r.1),.v (.string r.2.1),.v (.bool r.2.2)]
def strings_Cut(mg:Int)(x0:ByteArray)(x1:ByteArray)(r:(ByteArray × ByteArray × Bool)):Prop:=C6 Tryz.prog (GLm mg) 79 [.v (.string x0),.v (.string x1)] (e79 r)
def e80(r:Bool):AV:=.v (.bool r)
def a4j(mg:Int)(s:ByteArray)(r:Bool):Prop:=C6 Tryz.prog (GLm mg) 80 [.v (.string s)] (e80 r)
def e81(r:Bool):AV:=.v (.bool r)
def a30(s:ByteArray)(r:Bool):Prop:=C6 Tryz.prog [] 81 [.v (.string s)] (e81 r)
def e82(r:(D8 × Bool)):AV:=.tuple [.agg (H6 r.1),.v (.bool r.2)]
def b0e(mg:Int)(s:A3)(path:ByteArray)(r:(D8 × Bool)):Prop:=C6 Tryz.prog (GLm mg) 82 [.agg (A6 s),.v (.string path)] (e82 r)
def e86(r:((List B3) × Int)):AV:=.tuple [.sl (List.map C2 r.1) .no,.v (.int .i64 r.2)]
def b7w(mg:Int)(s:A3)(name:ByteArray)(path:ByteArray)(r:((List B3) × Int)):Prop:=C6 Tryz.prog (GLm mg) 86 [.agg (A6 s),.v (.string name),.v (.string path)] (e86 r)
def e87(r:(List Int)):AV:=.sl (List.map F9 r) .no
def a3q(l:(List B3))(r:(List Int)):Prop:=C6 Tryz.prog [] 87 [.sl (List.map C2 l) .no] (e87 r)
def e91(r:Bool):AV:=.v (.bool r)
def a4r(f:B3)(r:Bool):Prop:=C6 Tryz.prog [] 91 [.agg (C2 f)] (e91 r)
def e93(r:(B2 × Bool)):AV:=.tuple [.agg (C4 r.1),.v (.bool r.2)]
def a1j(s:A3)(name:ByteArray)(r:(B2 × Bool)):Prop:=C6 Tryz.prog [] 93 [.agg (A6 s),.v (.string name)] (e93 r)
def m5u(r:Int):AV:=.v (.int .i64 r)
def U0(s:(List ByteArray))(v:ByteArray)(r:Int):Prop:=C6 Tryz.prog [] 117 [.sl (List.map L9 s) .no,.v (.string v)] (m5u r)
def n3i(r:(List ByteArray)):AV:=.sl (List.map L9 r) .no
def a08(mg:Int)(path:ByteArray)(r:(List ByteArray)):Prop:=C6 Tryz.prog (GLm mg) 118 [.v (.string path)] (n3i r)
def n9x(r:Bool):AV:=.v (.bool r)
def a9f(f:B3)(r:Bool):Prop:=C6 Tryz.prog [] 119 [.agg (C2 f)] (n9x r)
def n80(r:Bool):AV:=.v (.bool r)
def Z1(old:(List Int))(c1_:(List Int))(r:Bool):Prop:=C6 Tryz.prog [] 120 [.sl (List.map F9 old) .no,.elt ((eL F9) c1_) 0] (n80 r)
def n3u(r:Bool):AV:=.v (.bool r)
def T4(s1_:(List Int))(s2_:(List Int))(r:Bool):Prop:=C6 Tryz.prog [] 121 [.sl (List.map F9 s1_) .no,.sl (List.map F9 s2_) .no] (n3u r)
def n9u(r:(B3 × Bool)):AV:=.tuple [.agg (C2 r.1),.v (.bool r.2)]
def a0g(m:B2)(name:ByteArray)(r:(B3 × Bool)):Prop:=C6 Tryz.prog [] 122 [.agg (C4 m),.v (.string name)] (n9u r)
def m65(r:Int):AV:=.v (.int .i64 r)
def T9(s:(List (List Int)))(f:GFn)(r:Int):Prop:=C6 Tryz.prog [] 123 [.sl (List.map (eL F9) s) .no,.clo (.func f.fn) f.fi f.cap] (m65 r)
def n1i(r:Bool):AV:=.v (.bool r)
def a65(s:ByteArray)(r:Bool):Prop:=C6 Tryz.prog [] 124 [.v (.string s)] (n1i r)
def n0u(r:Bool):AV:=.v (.bool r)
def Y5(s:ByteArray)(r:Bool):Prop:=C6 Tryz.prog [] 125 [.v (.string s)] (n0u r)
def m41(r:Bool):AV:=.v (.bool r)
def b1u(l:(List ByteArray))(s:ByteArray)(r:Bool):Prop:=C6 Tryz.prog [] 136 [.sl (List.map L9 l) .no,.v (.string s)] (m41 r)
def m94(r:Bool):AV:=.v (.bool r)
def a6f(s:A3)(m:B2)(finite:(List Bool))(r:Bool):Prop:=C6 Tryz.prog [] 137 [.agg (A6 s),.agg (C4 m),.sl (List.map a28 finite) .no] (m94 r)
def m82(r:Bool):AV:=.v (.bool r)
def a1w(s:ByteArray)(r:Bool):Prop:=C6 Tryz.prog [] 138 [.v (.string s)] (m82 r)
def n9q(r:Bool):AV:=.v (.bool r)
def M5(s:ByteArray)(r:Bool):Prop:=C6 Tryz.prog [] 139 [.v (.string s)] (n9q r)
def m6z(r:Bool):AV:=.v (.bool r)
def a1d(l:(List Y0))(n:Int)(r:Bool):Prop:=C6 Tryz.prog [] 140 [.sl (List.map S6 l) .no,.v (.int .i64 n)] (m6z r)
def n8y(r:Bool):AV:=.v (.bool r)
def b2o(f:B3)(r:Bool):Prop:=C6 Tryz.prog [] 141 [.agg (C2 f)] (n8y r)
def n9f(r:Bool):AV:=.v (.bool r)
def b7l(s:A3)(f:B3)(r:Bool):Prop:=C6 Tryz.prog [] 142 [.agg (A6 s),.agg (C2 f)] (n9f r)
def n73(r:Bool):AV:=.v (.bool r)
def a9n(m:B2)(at_:Int)(r:Bool):Prop:=C6 Tryz.prog [] 143 [.agg (C4 m),.v (.int .i64 at_)] (n73 r)
def l6f(r:Bool):AV:=.v (.bool r)
def a9x(s:A3)(f:B3)(r:Bool):Prop:=C6 Tryz.prog [] 144 [.agg (A6 s),.agg (C2 f)] (l6f r)
def l6m(r:G0):AV:=.tuple []
theorem d9f(r:G0):plain (l6m r)=true:=rfl
def I0(p:G0)(l:(List F4))(target:Int)(num:Int)(r:G0):Prop:=b8d Tryz.prog [] 145 [.ptr 0 0,.sl (List.map E9 l) .no,.v (.int .i64 target),.v (.int .i64 num)] (T5 p) (a9j p) (l6m r) (T5 r) (a9j r)
def j98(r:G0):AV:=.tuple []
theorem d9s(r:G0):plain (j98 r)=true:=rfl
def X3(p:G0)(l:(List Y0))(least:Int)(most:Int)(r:G0):Prop:=b8d Tryz.prog [] 146 [.ptr 0 0,.sl (List.map S6 l) .no,.v (.int .i64 least),.v (.int .i64 most)] (T5 p) (a9j p) (j98 r) (T5 r) (a9j r)
def n84(r:Bool):AV:=.v (.bool r)
def a5w(s:ByteArray)(r:Bool):Prop:=C6 Tryz.prog [] 147 [.v (.string s)] (n84 r)
def m3j(r:Int):AV:=.v (.int .i64 r)
def M4(s:A3)(name:ByteArray)(r:Int):Prop:=C6 Tryz.prog [] 148 [.agg (A6 s),.v (.string name)] (m3j r)
def o0k(r:(List ByteArray)):AV:=.sl (List.map L9 r) .no
def strings_Split(mg:Int)(x0:ByteArray)(x1:ByteArray)(r:(List ByteArray)):Prop:=C6 Tryz.prog (GLm mg) 150 [.v (.string x0),.v (.string x1)] (o0k r)
def n8p(r:Int):AV:=.v (.int .i64 r)
def b0j(c:Int)(r:Int):Prop:=C6 Tryz.prog [] 151 [.v (.int .i32 c)] (n8p r)
def n9k(r:(C7 × Bool)):AV:=.tuple [.agg (E0 r.1),.v (.bool r.2)]
def a7j(s:A3)(name:ByteArray)(r:(C7 × Bool)):Prop:=C6 Tryz.prog [] 152 [.agg (A6 s),.v (.string name)] (n9k r)
def m2b(r:(D8 × Bool)):AV:=.tuple [.agg (H6 r.1),.v (.bool r.2)]
def a41(l:(List D8))(is:GFn)(r:(D8 × Bool)):Prop:=C6 Tryz.prog [] 153 [.sl (List.map H6 l) .no,.clo (.func is.fn) is.fi is.cap] (m2b r)
def n89(r:Bool):AV:=.v (.bool r)
def b2a(m:D8)(c1_:ByteArray)(r:Bool):Prop:=C6 Tryz.prog [] 154 [.agg (H6 m),.elt (L9 c1_) 0] (n89 r)
def n9n(r:Bool):AV:=.v (.bool r)
def c1m(kind:Int)(r:Bool):Prop:=C6 Tryz.prog [] 164 [.v (.int .i64 kind)] (n9n r)
def l81(r:(B2 × Bool)):AV:=.tuple [.agg (C4 r.1),.v (.bool r.2)]
def a36(l:(List B2))(is:GFn)(r:(B2 × Bool)):Prop:=C6 Tryz.prog [] 165 [.sl (List.map C4 l) .no,.clo (.func is.fn) is.fi is.cap] (l81 r)
def n8v(r:Bool):AV:=.v (.bool r)
def a89(m:B2)(c1_:ByteArray)(r:Bool):Prop:=C6 Tryz.prog [] 166 [.agg (C4 m),.elt (L9 c1_) 0] (n8v r)
def n5v(r:(B3 × Bool)):AV:=.tuple [.agg (C2 r.1),.v (.bool r.2)]
def a13(l:(List B3))(is:GFn)(r:(B3 × Bool)):Prop:=C6 Tryz.prog [] 175 [.sl (List.map C2 l) .no,.clo (.func is.fn) is.fi is.cap] (n5v r)
def n9o(r:(C0 × Bool)):AV:=.tuple [.agg (M2 r.1),.v (.bool r.2)]
def b7e(l:(List F4))(name:ByteArray)(r:(C0 × Bool)):Prop:=C6 Tryz.prog [] 192 [.sl (List.map E9 l) .no,.v (.string name)] (n9o r)
def n9s(r:Bool):AV:=.v (.bool r)
def a5j(f:B3)(c1_:ByteArray)(r:Bool):Prop:=C6 Tryz.prog [] 198 [.agg (C2 f),.elt (L9 c1_) 0] (n9s r)
def n8n(r:Bool):AV:=.v (.bool r)
def a5f(f:B3)(c1_:ByteArray)(r:Bool):Prop:=C6 Tryz.prog [] 199 [.agg (C2 f),.elt (L9 c1_) 0] (n8n r)
def n9c(r:Bool):AV:=.v (.bool r)
def b30(l:(List F4))(name:ByteArray)(r:Bool):Prop:=C6 Tryz.prog [] 200 [.sl (List.map E9 l) .no,.v (.string name)] (n9c r)
def n87(r:Bool):AV:=.v (.bool r)
def a5p(b:Int)(r:Bool):Prop:=C6 Tryz.prog [] 201 [.v (.int .u8 b)] (n87 r)
def n86(r:Bool):AV:=.v (.bool r)
def a2y(b:Int)(r:Bool):Prop:=C6 Tryz.prog [] 202 [.v (.int .u8 b)] (n86 r)
def n9g(r:(ByteArray × ByteArray × Bool)):AV:=.tuple [.v (.string r.1),.v (.string r.2.1),.v (.bool r.2.2)]
def n9v(r:Bool):AV:=.v (.bool r)
def c7f(kind:Int)(r:Bool):Prop:=C6 Tryz.prog [] 207 [.v (.int .i64 kind)] (n9v r)
def n71(r:(ByteArray × ByteArray)):AV:=.tuple [.v (.string r.1),.v (.string r.2)]
def a93(full:ByteArray)(r:(ByteArray × ByteArray)):Prop:=C6 Tryz.prog [] 208 [.v (.string full)] (n71 r)
def n82(r:Bool):AV:=.v (.bool r)
def a4m(s:ByteArray)(r:Bool):Prop:=C6 Tryz.prog [] 209 [.v (.string s)] (n82 r)
def m0s(r:Int):AV:=.v (.int .i64 r)
def a2p(s:A3)(name:ByteArray)(r:Int):Prop:=C6 Tryz.prog [] 210 [.agg (A6 s),.v (.string name)] (m0s r)
def n8r(r:Bool):AV:=.v (.bool r)
def X7(a:C0)(b:C0)(r:Bool):Prop:=C6 Tryz.prog [] 211 [.agg (M2 a),.agg (M2 b)] (n8r r)
def n8z(r:Bool):AV:=.v (.bool r)
def a8o(kind:Int)(v:C0)(r:Bool):Prop:=C6 Tryz.prog [] 212 [.v (.int .i64 kind),.agg (M2 v)] (n8z r)
def n8s(r:C0):AV:=.agg (M2 r)
def b2z(v:C0)(r:C0):Prop:=C6 Tryz.prog [] 213 [.agg (M2 v)] (n8s r)
def l6o(r:Int):AV:=.v (.int .i64 r)
def a9s(l:(List F4))(target:Int)(r:Int):Prop:=C6 Tryz.prog [] 214 [.sl (List.map E9 l) .no,.v (.int .i64 target)] (l6o r)
def l7x(r:Int):AV:=.v (.int .i64 r)
def c3h(s:ByteArray)(r:Int):Prop:=C6 Tryz.prog [] 215 [.v (.string s)] (l7x r)
def l62(r:(C7 × Bool)):AV:=.tuple [.agg (E0 r.1),.v (.bool r.2)]
def a4f(l:(List C7))(is:GFn)(r:(C7 × Bool)):Prop:=C6 Tryz.prog [] 218 [.sl (List.map E0 l) .no,.clo (.func is.fn) is.fi is.cap] (l62 r)
def n9l(r:Bool):AV:=.v (.bool r)
def a88(v:C7)(c1_:ByteArray)(r:Bool):Prop:=C6 Tryz.prog [] 219 [.agg (E0 v),.elt (L9 c1_) 0] (n9l r)
def n88(r:Int):AV:=.v (.int .i64 r)
def b86(l:(List F4))(name:ByteArray)(r:Int):Prop:=C6 Tryz.prog [] 268 [.sl (List.map E9 l) .no,.v (.string name)] (n88 r)
def n81(r:Bool):AV:=.v (.bool r)
def b9n(v:C0)(r:Bool):Prop:=C6 Tryz.prog [] 277 [.agg (M2 v)] (n81 r)
def n9w(r:Bool):AV:=.v (.bool r)
def b7o(kind:Int)(r:Bool):Prop:=C6 Tryz.prog [] 278 [.v (.int .i64 kind)] (n9w r)
def n8t(r:Int):AV:=.v (.int .i64 r)
def b0x(bits:Int)(r:Int):Prop:=C6 Tryz.prog [] 279 [.v (.int .u64 bits)] (n8t r)
def j5z(r:Int):AV:=.v (.int .i64 r)
def a8j(name:ByteArray)(r:Int):Prop:=C6 Tryz.prog [] 280 [.v (.string name)] (j5z r)
def h1g(r:Bool):AV:=.v (.bool r)
def b3q(name:ByteArray)(target:Int)(r:Bool):Prop:=C6 Tryz.prog [] 281 [.v (.string name),.v (.int .i64 target)] (h1g r)
def n8m(r:Bool):AV:=.v (.bool r)
def b0n(n:F4)(r:Bool):Prop:=C6 Tryz.prog [] 282 [.agg (E9 n)] (n8m r)
def n9d(r:Int):AV:=.v (.int .i64 r)
def b2k(s:ByteArray)(i:Int)(r:Int):Prop:=C6 Tryz.prog [] 283 [.v (.string s),.v (.int .i64 i)] (n9d r)
def m5z(r:Int):AV:=.v (.int .i64 r)
def T1(s:(List F4))(f:GFn)(r:Int):Prop:=C6 Tryz.prog [] 344 [.sl (List.map E9 s) .no,.clo (.func f.fn) f.fi f.cap] (m5z r)
def n9p(r:Bool):AV:=.v (.bool r)
def b3y(n:F4)(c1_:ByteArray)(r:Bool):Prop:=C6 Tryz.prog [] 345 [.agg (E9 n),.elt (L9 c1_) 0] (n9p r)
def l9n(r:Bool):AV:=.v (.bool r)
def U4(s:ByteArray)(i:Int)(n:Int)(r:Bool):Prop:=C6 Tryz.prog [] 359 [.v (.string s),.v (.int .i64 i),.v (.int .i64 n)] (l9n r)
def n9a(r:Bool):AV:=.v (.bool r)
def P0(s:ByteArray)(i:Int)(lo:Int)(hi:Int)(r:Bool):Prop:=C6 Tryz.prog [] 360 [.v (.string s),.v (.int .i64 i),.v (.int .u8 lo),.v (.int .u8 hi)] (n9a r)
theorem pl6{x0:A3}{x1:(List B5)}:plainL [.agg (A6 x0),.sl (List.map C1 x1) .no]=true:=(B0 (C9 x0) (B0 (psl (J0 x1)) rfl))
theorem pl7:plainL []=true:=rfl
theorem pl8{x0:A3}{x1:(List B5)}:plainL [.agg (A6 x0),.sl (List.map C1 x1) .no]=true:=(B0 (C9 x0) (B0 (psl (J0 x1)) rfl))
theorem o2h{x0:(List B5)}:plainL [.sl (List.map C1 x0) .no]=true:=(B0 (psl (J0 x0)) rfl)
theorem n9m{x0:(List B5)}{x1:ByteArray}{x2:ByteArray}:plainL [.sl (List.map C1 x0) .no,.v (.string x1),.v (.string x2)]=true:=(B0 (psl (J0 x0)) (B0 rfl (B0 rfl rfl)))
theorem o0a{x0:A3}:plainL [.agg (A6 x0)]=true:=(B0 (C9 x0) rfl)
theorem o0o{x0:A3}:plainL [.agg (A6 x0)]=true:=(B0 (C9 x0) rfl)
theorem o0m{x0:ByteArray}:plainL [.v (.string x0)]=true:=(B0 rfl rfl)
theorem o07{x0:A3}{x1:B5}:plainL [.agg (A6 x0),.agg (C1 x1)]=true:=(B0 (C9 x0) (B0 (I5 x1) rfl))
theorem o10{x0:(List B5)}{x1:GFn}:plainL [.sl (List.map C1 x0) .no,.clo (.func x1.fn) x1.fi x1.cap]=true:=(B0 (psl (J0 x0)) (B0 (b1v x1) rfl))
theorem o23{x0:B5}{x1:B5}:plainL [.agg (C1 x0),.agg (C1 x1)]=true:=(B0 (I5 x0) (B0 (I5 x1) rfl))
theorem o0d{x0:B5}{x1:ByteArray}{x2:ByteArray}:plainL [.agg (C1 x0),.v (.string x1),.v (.string x2)]=true:=(B0 (I5 x0) (B0 rfl (B0 rfl rfl)))
theorem h1b{x0:(List F4)}{x1:Int}:plainL [.sl (List.map E9 x0) .no,.v (.int .i64 x1)]=true:=(B0 (psl (F0 x0)) (B0 rfl rfl))
theorem f6o{x0:(List ByteArray)}{x1:Int}:plainL [.sl (List.map L9 x0) .no,.v (.int .i64 x1)]=true:=(B0 (psl (G1 x0)) (B0 rfl rfl))
theorem n98{x0:A3}:plainL [.agg (A6 x0)]=true:=(B0 (C9 x0) rfl)
theorem o1b{x0:ByteArray}{x1:ByteArray}:plainL [.v (.string x0),.v (.string x1)]=true:=(B0 rfl (B0 rfl rfl))
theorem o0e{x0:A3}{x1:ByteArray}:plainL [.agg (A6 x0),.v (.string x1)]=true:=(B0 (C9 x0) (B0 rfl rfl))
theorem o1g{x0:Int}:plainL [.v (.int .u8 x0)]=true:=(B0 rfl rfl)
theorem j9t{x0:ByteArray}:plainL [.v (.string x0)]=true:=(B0 rfl rfl)
theorem o0z{x0:(List ByteArray)}{x1:ByteArray}:plainL [.sl (List.map L9 x0) .no,.v (.string x1)]=true:=(B0 (psl (G1 x0)) (B0 rfl rfl))
theorem o1w{x0:A3}{x1:ByteArray}{x2:B5}:plainL [.agg (A6 x0),.v (.string x1),.agg (C1 x2)]=true:=(B0 (C9 x0) (B0 rfl (B0 (I5 x2) rfl)))
theorem o1r{x0:A3}{x1:ByteArray}{x2:B5}:plainL [.agg (A6 x0),.v (.string x1),.agg (C1 x2)]=true:=(B0 (C9 x0) (B0 rfl (B0 (I5 x2) rfl)))
theorem n9b{x0:(List (List Int))}{x1:GFn}:plainL [.sl (List.map (eL F9) x0) .no,.clo (.func x1.fn) x1.fi x1.cap]=true:=(B0 (psl (d8h _ (fun l=>D3 l) x0)) (B0 (b1v x1) rfl))
theorem o25{x0:(List B5)}{x1:GFn}:plainL [.sl (List.map C1 x0) .no,.clo (.func x1.fn) x1.fi x1.cap]=true:=(B0 (psl (J0 x0)) (B0 (b1v x1) rfl))
theorem m1o{x0:ByteArray}:plainL [.v (.string x0)]=true:=(B0 rfl rfl)
theorem n90{x0:ByteArray}:plainL [.v (.string x0)]=true:=(B0 rfl rfl)
theorem m7d{x0:ByteArray}:plainL [.v (.string x0)]=true:=(B0 rfl rfl)
theorem l6r{x0:A3}{x1:Int}:plainL [.agg (A6 x0),.v (.int .i64 x1)]=true:=(B0 (C9 x0) (B0 rfl rfl))
theorem V0{x0:G0}{x1:Bool}{x2:Int}{x3:Int}{r:G0}:(T5 x0).all ok1=true/\(T5 r).all ok1=true/\List.all [.ptr 0 0,.v (.bool x1),.v (.int .i64 x2),.v (.int .i64 x3)] okA=true/\plain (e72 r)=true:=⟨a2t _,a2t _,a6r rfl (a6r (a0r rfl) (a6r (a0r rfl) (a6r (a0r rfl) rfl))),h6s r⟩
theorem o3q{x0:(List ByteArray)}:plainL [.sl (List.map L9 x0) .no]=true:=(B0 (psl (G1 x0)) rfl)
theorem m93{x0:(List ByteArray)}{x1:(List ByteArray)}:plainL [.sl (List.map L9 x0) .no,.sl (List.map L9 x1) .no]=true:=(B0 (psl (G1 x0)) (B0 (psl (G1 x1)) rfl))
theorem o0w{x0:A3}:plainL [.agg (A6 x0)]=true:=(B0 (C9 x0) rfl)
theorem o2i{x0:A3}{x1:B2}{x2:(List Bool)}:plainL [.agg (A6 x0),.agg (C4 x1),.sl (List.map a28 x2) .no]=true:=(B0 (C9 x0) (B0 (D6 x1) (B0 (psl (G9 x2)) rfl)))
theorem o2y{x0:a10}:plainL [.agg (a0x x0)]=true:=(B0 (P1 x0) rfl)
theorem o3k{x0:A3}{x1:C7}:plainL [.agg (A6 x0),.agg (E0 x1)]=true:=(B0 (C9 x0) (B0 (H3 x1) rfl))
theorem n8u{x0:ByteArray}{x1:ByteArray}:plainL [.v (.string x0),.v (.string x1)]=true:=(B0 rfl (B0 rfl rfl))
theorem n8l{x0:ByteArray}:plainL [.v (.string x0)]=true:=(B0 rfl rfl)
theorem n9j{x0:ByteArray}:plainL [.v (.string x0)]=true:=(B0 rfl rfl)
theorem o3m{x0:A3}{x1:ByteArray}:plainL [.agg (A6 x0),.v (.string x1)]=true:=(B0 (C9 x0) (B0 rfl rfl))
theorem o0p{x0:A3}{x1:ByteArray}{x2:ByteArray}:plainL [.agg (A6 x0),.v (.string x1),.v (.string x2)]=true:=(B0 (C9 x0) (B0 rfl (B0 rfl rfl)))
theorem o04{x0:(List B3)}:plainL [.sl (List.map C2 x0) .no]=true:=(B0 (psl (F5 x0)) rfl)
theorem o0l{x0:B3}:plainL [.agg (C2 x0)]=true:=(B0 (E1 x0) rfl)
theorem m3h{x0:A3}{x1:ByteArray}:plainL [.agg (A6 x0),.v (.string x1)]=true:=(B0 (C9 x0) (B0 rfl rfl))
theorem n70{x0:(List ByteArray)}{x1:ByteArray}:plainL [.sl (List.map L9 x0) .no,.v (.string x1)]=true:=(B0 (psl (G1 x0)) (B0 rfl rfl))
theorem n5e{x0:ByteArray}:plainL [.v (.string x0)]=true:=(B0 rfl rfl)
theorem l97{x0:B3}:plainL [.agg (C2 x0)]=true:=(B0 (E1 x0) rfl)
theorem n4a{x0:(List Int)}{x1:(List Int)}:plainL [.sl (List.map F9 x0) .no,.sl (List.map F9 x1) .no]=true:=(B0 (psl (D3 x0)) (B0 (psl (D3 x1)) rfl))
theorem l29{x0:B2}{x1:ByteArray}:plainL [.agg (C4 x0),.v (.string x1)]=true:=(B0 (D6 x0) (B0 rfl rfl))
theorem l7j{x0:(List (List Int))}{x1:GFn}:plainL [.sl (List.map (eL F9) x0) .no,.clo (.func x1.fn) x1.fi x1.cap]=true:=(B0 (psl (d8h _ (fun l=>D3 l) x0)) (B0 (b1v x1) rfl))
theorem n6n{x0:ByteArray}:plainL [.v (.string x0)]=true:=(B0 rfl rfl)
theorem e8d{x0:ByteArray}:plainL [.v (.string x0)]=true:=(B0 rfl rfl)
theorem k2q{x0:(List ByteArray)}{x1:ByteArray}:plainL [.sl (List.map L9 x0) .no,.v (.string x1)]=true:=(B0 (psl (G1 x0)) (B0 rfl rfl))
theorem j8c{x0:A3}{x1:B2}{x2:(List Bool)}:plainL [.agg (A6 x0),.agg (C4 x1),.sl (List.map a28 x2) .no]=true:=(B0 (C9 x0) (B0 (D6 x1) (B0 (psl (G9 x2)) rfl)))
theorem f1m{x0:ByteArray}:plainL [.v (.string x0)]=true:=(B0 rfl rfl)
theorem d6d{x0:ByteArray}:plainL [.v (.string x0)]=true:=(B0 rfl rfl)
theorem h72{x0:(List Y0)}{x1:Int}:plainL [.sl (List.map S6 x0) .no,.v (.int .i64 x1)]=true:=(B0 (psl (I6 x0)) (B0 rfl rfl))
theorem m25{x0:B3}:plainL [.agg (C2 x0)]=true:=(B0 (E1 x0) rfl)
theorem n2g{x0:A3}{x1:B3}:plainL [.agg (A6 x0),.agg (C2 x1)]=true:=(B0 (C9 x0) (B0 (E1 x1) rfl))
theorem m9c{x0:B2}{x1:Int}:plainL [.agg (C4 x0),.v (.int .i64 x1)]=true:=(B0 (D6 x0) (B0 rfl rfl))
theorem l9p{x0:A3}{x1:B3}:plainL [.agg (A6 x0),.agg (C2 x1)]=true:=(B0 (C9 x0) (B0 (E1 x1) rfl))
theorem b85{x0:G0}{x1:(List F4)}{x2:Int}{x3:Int}{r:G0}:(T5 x0).all ok1=true/\(T5 r).all ok1=true/\List.all [.ptr 0 0,.sl (List.map E9 x1) .no,.v (.int .i64 x2),.v (.int .i64 x3)] okA=true/\plain (l6m r)=true:=⟨a2t _,a2t _,a6r rfl (a6r (a0r (psl (F0 x1))) (a6r (a0r rfl) (a6r (a0r rfl) rfl))),d9f r⟩
theorem e2w{x0:G0}{x1:(List Y0)}{x2:Int}{x3:Int}{r:G0}:(T5 x0).all ok1=true/\(T5 r).all ok1=true/\List.all [.ptr 0 0,.sl (List.map S6 x1) .no,.v (.int .i64 x2),.v (.int .i64 x3)] okA=true/\plain (j98 r)=true:=⟨a2t _,a2t _,a6r rfl (a6r (a0r (psl (I6 x1))) (a6r (a0r rfl) (a6r (a0r rfl) rfl))),d9s r⟩
theorem j4j{x0:ByteArray}:plainL [.v (.string x0)]=true:=(B0 rfl rfl)
theorem d4j{x0:A3}{x1:ByteArray}:plainL [.agg (A6 x0),.v (.string x1)]=true:=(B0 (C9 x0) (B0 rfl rfl))
theorem h9o{x0:ByteArray}{x1:ByteArray}:plainL [.v (.string x0),.v (.string x1)]=true:=(B0 rfl (B0 rfl rfl))
theorem n6z{x0:Int}:plainL [.v (.int .i32 x0)]=true:=(B0 rfl rfl)
theorem n8a{x0:A3}{x1:ByteArray}:plainL [.agg (A6 x0),.v (.string x1)]=true:=(B0 (C9 x0) (B0 rfl rfl))
theorem n6a{x0:(List D8)}{x1:GFn}:plainL [.sl (List.map H6 x0) .no,.clo (.func x1.fn) x1.fi x1.cap]=true:=(B0 (psl (I7 x0)) (B0 (b1v x1) rfl))
theorem l7c{x0:Int}:plainL [.v (.int .i64 x0)]=true:=(B0 rfl rfl)
theorem m3x{x0:(List B2)}{x1:GFn}:plainL [.sl (List.map C4 x0) .no,.clo (.func x1.fn) x1.fi x1.cap]=true:=(B0 (psl (F3 x0)) (B0 (b1v x1) rfl))
theorem h3l{x0:(List B3)}{x1:GFn}:plainL [.sl (List.map C2 x0) .no,.clo (.func x1.fn) x1.fi x1.cap]=true:=(B0 (psl (F5 x0)) (B0 (b1v x1) rfl))
theorem l8g{x0:(List F4)}{x1:ByteArray}:plainL [.sl (List.map E9 x0) .no,.v (.string x1)]=true:=(B0 (psl (F0 x0)) (B0 rfl rfl))
theorem n1h{x0:(List F4)}{x1:ByteArray}:plainL [.sl (List.map E9 x0) .no,.v (.string x1)]=true:=(B0 (psl (F0 x0)) (B0 rfl rfl))
theorem i5y{x0:Int}:plainL [.v (.int .u8 x0)]=true:=(B0 rfl rfl)
theorem j5u{x0:Int}:plainL [.v (.int .u8 x0)]=true:=(B0 rfl rfl)
theorem n1p{x0:Int}:plainL [.v (.int .i64 x0)]=true:=(B0 rfl rfl)
theorem m1p{x0:ByteArray}:plainL [.v (.string x0)]=true:=(B0 rfl rfl)
theorem k6o{x0:ByteArray}:plainL [.v (.string x0)]=true:=(B0 rfl rfl)
theorem l3m{x0:A3}{x1:ByteArray}:plainL [.agg (A6 x0),.v (.string x1)]=true:=(B0 (C9 x0) (B0 rfl rfl))
theorem k51{x0:C0}{x1:C0}:plainL [.agg (M2 x0),.agg (M2 x1)]=true:=(B0 (E5 x0) (B0 (E5 x1) rfl))
theorem i2x{x0:Int}{x1:C0}:plainL [.v (.int .i64 x0),.agg (M2 x1)]=true:=(B0 rfl (B0 (E5 x1) rfl))
theorem n05{x0:C0}:plainL [.agg (M2 x0)]=true:=(B0 (E5 x0) rfl)
theorem m27{x0:(List F4)}{x1:Int}:plainL [.sl (List.map E9 x0) .no,.v (.int .i64 x1)]=true:=(B0 (psl (F0 x0)) (B0 rfl rfl))
theorem n4d{x0:ByteArray}:plainL [.v (.string x0)]=true:=(B0 rfl rfl)
theorem m5d{x0:(List C7)}{x1:GFn}:plainL [.sl (List.map E0 x0) .no,.clo (.func x1.fn) x1.fi x1.cap]=true:=(B0 (psl (I1 x0)) (B0 (b1v x1) rfl))
theorem n7n{x0:(List F4)}{x1:ByteArray}:plainL [.sl (List.map E9 x0) .no,.v (.string x1)]=true:=(B0 (psl (F0 x0)) (B0 rfl rfl))
theorem l60{x0:C0}:plainL [.agg (M2 x0)]=true:=(B0 (E5 x0) rfl)
theorem m9d{x0:Int}:plainL [.v (.int .i64 x0)]=true:=(B0 rfl rfl)
theorem m1v{x0:Int}:plainL [.v (.int .u64 x0)]=true:=(B0 rfl rfl)
theorem j8v{x0:ByteArray}:plainL [.v (.string x0)]=true:=(B0 rfl rfl)
theorem n0c{x0:ByteArray}{x1:Int}:plainL [.v (.string x0),.v (.int .i64 x1)]=true:=(B0 rfl (B0 rfl rfl))
theorem m9t{x0:F4}:plainL [.agg (E9 x0)]=true:=(B0 (J8 x0) rfl)
theorem l8m{x0:ByteArray}{x1:Int}:plainL [.v (.string x0),.v (.int .i64 x1)]=true:=(B0 rfl (B0 rfl rfl))
theorem n57{x0:(List F4)}{x1:GFn}:plainL [.sl (List.map E9 x0) .no,.clo (.func x1.fn) x1.fi x1.cap]=true:=(B0 (psl (F0 x0)) (B0 (b1v x1) rfl))
theorem c4i{x0:ByteArray}{x1:Int}{x2:Int}:plainL [.v (.string x0),.v (.int .i64 x1),.v (.int .i64 x2)]=true:=(B0 rfl (B0 rfl (B0 rfl rfl)))
theorem d2y{x0:ByteArray}{x1:Int}{x2:Int}{x3:Int}:plainL [.v (.string x0),.v (.int .i64 x1),.v (.int .u8 x2),.v (.int .u8 x3)]=true:=(B0 rfl (B0 rfl (B0 rfl (B0 rfl rfl))))
end Go.Proofs.YtkhgohfaecbgkaaGreatDoor.Lift
