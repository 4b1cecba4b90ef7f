/- Part 4 of the texts that prove GatewayChecksEnd. -/
import Derived.Test.YtkhgohfaecbgkaaGreatDoorGatewayChecksEndP2
import Derived.Test.YtkhgohfaecbgkaaGreatDoorGatewayChecksEndP1
import Derived.OpenShut
import Derived.ProofKit
import Derived.Test.YtkhgohfaecbgkaaGreatDoorProg
namespace Go.Proofs.YtkhgohfaecbgkaaGreatDoor.Lift
open Go.RowKit
set_option linter.unusedVariables false
set_option linter.unusedSimpArgs false
set_option linter.unnecessarySimpa false
set_option linter.unusedSectionVars false
set_option maxRecDepth 100000
theorem c00{a b:List AV}:plainL (a++b)=(plainL a&&plainL b):=by
 induction a with
 |nil=>rfl
 |cons x r ih=>simp only[List.cons_append,plainL,ih,Bool.and_assoc]
def cellsOf{α:Type}(e:α->List AV)(l:List α):List AV:=(l.map e).flatten
section
variable {α:Type}{e:α->List AV}{sz:Nat}
theorem c1z(hs:∀y,(e y).length=sz){l:List α}:∀r∈l.map e,r.length=sz:=by
 intro r hr;obtain⟨y,_,rfl⟩:=List.mem_map.1 hr;exact hs y
theorem c64(hs:∀y,(e y).length=sz){l:List α}{i k:Nat}{y:α}(hy:l[i]? =some y)(hk:k<sz):(cellsOf e l)[i*sz+k]? =(e y)[k]? :=by
 rw[cellsOf,a68 _ (c1z hs) i k hk,List.getElem?_map,hy];rfl
theorem a7c(hs:∀y,(e y).length=sz):∀(l:List α),(cellsOf e l).length=l.length*sz
 |[]=>by simp[cellsOf]
 |y::l=>by
  have:=a7c hs l;simp only[cellsOf,List.map_cons,List.flatten_cons,List.length_append,List.length_cons,Nat.add_mul]at this ⊢;rw[hs,this];omega
theorem a90(hn:∀y,a4j (e y)=true):∀{l:List α},l≠[]->a4j (cellsOf e l)=true
 |[],h=>(h rfl).elim
 |y::l,_=>by
  have:=hn y;cases hy:e y with
  |nil=>rw[hy]at this;cases this
  |cons a r=>rw[hy]at this;simp only[cellsOf,List.map_cons,List.flatten_cons,hy,List.cons_append,a4j]at this ⊢;exact this
theorem B7(e:α->List AV){l:List α}(h:plainLL (l.map e)=true):plainL (cellsOf e l)=true:=by
 unfold cellsOf;revert h;generalize l.map e=x;intro h
 induction x with
 |nil=>rfl
 |cons a r ih=>simp only[plainLL,Bool.and_eq_true]at h;rw[List.flatten_cons,c00,h.1,ih h.2];rfl
theorem f4d{l:List α}{i:Nat}{y:α}(hy:l[i]? =some y):l≠[]:=by rintro rfl;simp at hy
theorem b53(hs:∀y,(e y).length=sz):∀{l:List α}{i:Nat}{y:α},l[i]? =some y->((cellsOf e l).drop (i*sz)).take sz=e y
 |[],i,y,h=>by simp at h
 |z::l,0,y,h=>by
  simp at h;subst h;simp only[cellsOf,List.map_cons,List.flatten_cons,Nat.zero_mul,List.drop_zero];rw[List.take_append_of_le_length (by rw[hs];exact Nat.le_refl _),List.take_of_length_le (by rw[hs];exact Nat.le_refl _)]
 |z::l,i+1,y,h=>by
  have:=b53 hs (l:=l) (i:=i) (y:=y) (by simpa using h);simp only[cellsOf,List.map_cons,List.flatten_cons]at this ⊢
  have h2:(e z++(List.map e l).flatten).drop ((i+1)*sz)=((List.map e l).flatten).drop (i*sz):=by
   have h3:=hs z;rw[List.drop_append,h3,List.drop_of_length_le (by rw[h3,Nat.add_mul];omega),List.nil_append]
   congr 1
   rw[Nat.add_mul];omega
  rw[h2];exact this
theorem b9p(hs:∀y,(e y).length=sz):∀{l:List α}{i:Nat}{z:α},i<l.length->splice (cellsOf e l) (i*sz) (e z)=cellsOf e (l.set i z)
 |[],i,z,h=>by simp at h
 |y::l,0,z,h=>by
  simp only[splice,cellsOf,List.map_cons,List.flatten_cons,Nat.zero_mul,List.take_zero,List.nil_append,Nat.zero_add,List.set_cons_zero];rw[hs,List.drop_append_of_le_length (by rw[hs];exact Nat.le_refl _),List.drop_of_length_le (by rw[hs];exact Nat.le_refl _),List.nil_append]
 |y::l,i+1,z,h=>by
  have:=b9p hs (l:=l) (i:=i) (z:=z) (by simpa using h);simp only[splice,cellsOf,List.map_cons,List.flatten_cons,List.set_cons_succ]at this ⊢;rw[<-this,Nat.add_mul,Nat.one_mul,Nat.add_comm (i*sz) sz]
  have h1:(e y++(List.map e l).flatten).take (sz+i*sz)=e y++((List.map e l).flatten).take (i*sz):=by
   have:=hs y;rw[List.take_append,this,List.take_of_length_le (by omega)];congr 2;omega
  have h2:(e y++(List.map e l).flatten).drop (sz+i*sz+(e z).length)=((List.map e l).flatten).drop (i*sz+(e z).length):=by
   have:=hs y;rw[List.drop_append,this,List.drop_of_length_le (by omega),List.nil_append];congr 1;omega
  rw[h1,h2];simp[List.append_assoc]
theorem d01(z:α)(hs:(e z).length=sz)(n:Nat):Z6 sz n (e z)=cellsOf e (List.replicate n z):=by
 have hl:(Z6 sz n (e z)).length=n*sz:=by simp[Z6]
 have hl2:(cellsOf e (List.replicate n z)).length=n*sz:=by
  simp only[cellsOf,List.map_replicate,List.length_flatten,List.map_replicate,List.sum_replicate_nat,hs]
 refine List.ext_getElem? fun i=>?_
 rcases Nat.lt_or_ge i (n*sz) with hi|hi
 ·have h0:0<sz:=by
   rcases Nat.eq_zero_or_pos sz with h|h
   ·subst h;simp at hi
   ·exact h
  have hm:i % sz<sz:=Nat.mod_lt _ h0;have hd:i / sz<n:=(Nat.div_lt_iff_lt_mul h0).2 hi
  have e1:(Z6 sz n (e z))[i]? =some ((e z).getD (i % sz) .nil):=by
   simp[Z6,List.getElem?_range,hi]
  have e2:(cellsOf e (List.replicate n z))[i]? =(e z)[i % sz]? :=by
   have hh:=a68 (List.map e (List.replicate n z)) (size:=sz) (by
    intro r hr;simp only[List.map_replicate,List.mem_replicate]at hr;rw[hr.2,hs]) (i / sz) (i % sz) hm
   rw[Nat.mul_comm,Nat.div_add_mod]at hh;rw[cellsOf,hh];simp[List.getElem?_replicate,hd]
  rw[e1,e2,List.getD_eq_getElem?_getD];rw[List.getElem?_eq_getElem (by rw[hs];exact hm)];rfl
 ·rw[List.getElem?_eq_none (by omega),List.getElem?_eq_none (by omega)]
end
section
variable {P:Program}{h h':A3}{env:Env}{α:Type}{e:α->List AV}{sz:Nat}
theorem i5z{x y:G2}{bytes:Nat}{zero:List AV}(e:α->List AV)(z:α)(L C:Int)(h0:0<=L/\L<=C/\C*bytes<=140737488355328)(hx:b3p (x.ev env)=some L:=by kernel_rfl)(hy:b3p (y.ev env)=some C:=by kernel_rfl)(hz:zero=e z:=by kernel_rfl)(hs:(e z).length=sz:=by kernel_rfl):a1i P (.make sz bytes zero x y) env h (.row h.blks.length 0 sz L.toNat C.toNat) ⟨h.blks++[some (cellsOf e (List.replicate C.toNat z))],h.bufs,h.globs⟩:=by
 obtain⟨k1,hx⟩:=a35 hx;obtain⟨k2,hy⟩:=a35 hy;subst hz;intro K hk;simp only[aop,hx,hy,wv,k93];rw[d01 z hs];exact⟨h0,hk⟩
theorem i4n{x i:G2}(r len cap:Nat){n:Int}(h0:0<=n/\n<(len:Int))(hx:x.ev env=some (.row r 0 sz len cap):=by kernel_rfl)(hi:b3p (i.ev env)=some n:=by kernel_rfl):a1i P (.idxSl sz x i) env h (.ptr r (0+n.toNat*sz)) h:=by
 obtain⟨k,hi⟩:=a35 hi;intro K hk;simp only[aop,hx,hi,wv,b4n];exact⟨h0,trivial,hk⟩
theorem d3y{r off:Nat}{l:List α}(hn:∀y,a4j (e y)=true)(hb:h.blks[r]? =some (some (cellsOf e l)))(hl:l≠[]):V4 h (.ptr r off)=some (cellsOf e l,off):=by
 simp only[V4,hb,a90 hn hl,if_true]
theorem k0c{x:G2}{r off i k:Nat}{l:List α}{y:α}{av:AV}(hs:∀y,(e y).length=sz)(hn:∀y,a4j (e y)=true)(hy:l[i]? =some y)(hk:k<sz)(hav:(e y)[k]? =some av)(hoff:off=i*sz+k)(hx:x.ev env=some (.ptr r off):=by kernel_rfl)(hb:h.blks[r]? =some (some (cellsOf e l)):=by kernel_rfl):a1i P (.load none x) env h av h:=by
 intro K hK;simp only[aop,hx,wv,a8g,d3y hn hb (f4d hy)];rw[hoff,c64 hs hy hk,hav];exact hK
theorem n43{p x:G2}{r off i:Nat}{l:List α}{av:AV}(z:α)(hs:∀y,(e y).length=sz)(hn:∀y,a4j (e y)=true)(hi:i<l.length)(hav:e z=av.cells)(hoff:off=i*sz)(hp:p.ev env=some (.ptr r off):=by kernel_rfl)(hx:x.ev env=some av:=by kernel_rfl)(ht:av.isTuple=false:=by kernel_rfl)(hb:h.blks[r]? =some (some (cellsOf e l)):=by kernel_rfl):a1i P (.store sz p x) env h (.tuple []) ⟨h.blks.set r (some (cellsOf e (l.set i z))),h.bufs,h.globs⟩:=by
 intro K hK;have hne:l≠[]:=by rintro rfl;simp at hi
 simp only[aop,hp,hx,wv,c17,hb,a90 hn hne];rw[<-b9p hs hi,hav,<-hoff]at hK;refine⟨⟨trivial,by rw[<-hav];exact hs z,?_,ht⟩,hK⟩;rw[hoff,a7c hs,<-Nat.succ_mul];exact Nat.mul_le_mul_right sz hi
end
section
variable {P:Program}{h:A3}{env:Env}{K:Env->A3->Prop}{L:List C9}{k:Nat}
end
def rfz(n:Nat)(els:List (List AV)):AV->AV
 |.row k off size len cap=>if k=n then .sl els .no else .row k off size len cap
 |a=>a
def h4a(n:Nat)(els:List (List AV)):Env->Env
 |[]=>[]
 |(t,a)::e=>(t,rfz n els a)::h4a n els e
theorem c9z{n:Nat}{els:List (List AV)}:∀{e:Env}{t:Nat}{b:AV},get (h4a n els e) t=some b->∃a,get e t=some a/\b=rfz n els a
 |[],_,_,h=>by cases h
 |(u,a)::e,t,b,h=>by
  simp only[h4a,get]at h ⊢;split at h
  ·rename_i hu;rw[if_pos hu];cases h;exact⟨a,rfl,rfl⟩
  ·rename_i hu;rw[if_neg hu];exact c9z h
def b2x(n:Nat):Env->List (Nat × Nat × Nat)
 |[]=>[]
 |(_,.row k off size len _)::e=>if k=n then(off,size,len)::b2x n e else b2x n e
 |_::e=>b2x n e
theorem c1t{n:Nat}:∀{e:Env}{t off size len cap:Nat},get e t=some (.row n off size len cap)->(off,size,len)∈b2x n e
 |[],_,_,_,_,_,h=>by cases h
 |(u,a)::e,t,off,size,len,cap,h=>by
  simp only[get]at h;split at h
  ·cases h;simp[b2x]
  ·have:=c1t h;unfold b2x;split
   ·rename_i heq;cases heq
   ·rename_i heq;cases heq;split
    ·exact List.mem_cons_of_mem _ this
    ·exact this
   ·rename_i heq;cases heq;exact this
theorem d1n{P:Program}{h:A3}{env:Env}{N kb kf:Nat}{Q:Exit->Env->A3->Prop}{x:A0}(n:Nat)(m:List Bool)(k:Nat)(cells:List AV)(els:List (List AV))(sz len c:Nat)(hb:h.blks[n]? =some (some cells))(hce:els.flatten=cells)(hsz:∀el∈els,el.length=sz)(hlen:els.length=len)(hpos:0<sz)(hit:els≠[]->a4j cells=true)(hrow:b2x n env=List.replicate c (0,sz,len))(hmn:m.getD n false=false)(hal:c3b m h.blks=true)(hm:∀k,k<kb->m.getD k false=true)(hn:kf<=k)
  {e:Env}(hE:h4a n els env=e) (he:a55 m k e=true) (hB:a37 m k (X5 m h.blks)=true) (hg:J8 h.globs=true) (hx:D P N kb kf x Q e ⟨X5 m h.blks,h.bufs.take k,h.globs⟩):D P N kb kf x Q env h:=⟨by
 subst hE;intro co hc σ0 σ a hs hle hl;refine hx.out co hc σ0 (σ.cut m k) a ⟨hs.inv.cut m k hB hg,fun t av ht=>?_,hs.size,hs.defers⟩ (hle.cut hl hm hn) hl;have hlow:=b61 he ht;obtain⟨a0,h1,rfl⟩:=c9z ht;obtain⟨y,h2,h3⟩:=hs.env t a0 h1;refine⟨y,h2,?_⟩;cases a0 with
 |row j off size len' cap=>
  simp only[rfz]at hlow ⊢;split at hlow
  ·rename_i hj;subst hj;rw[if_pos rfl];have hrr:=c1t h1;rw[hrow]at hrr;obtain⟨rfl,rfl,rfl⟩:off=0/\size=sz/\len'=len:=by simpa using (List.mem_replicate.1 hrr).2
   cases h3 with
   |row _ _ _ _ _ b cap' hblk hcap _ _=>
   obtain⟨b',h4,h5⟩:=hs.inv.blk j cells hb;rw[hblk]at h4;cases h4;subst hlen;rcases Classical.em (els=[]) with h0|h0
   ·subst h0;exact .slx _ ⟨b,0,none⟩ cap' trivial (.inl rfl)
   have hni:=hit h0;obtain⟨cs,rest,elem,h6,h7⟩:=h5.plain hni;have hlc:lowLL m k els=true:=by simpa[low]using hlow
   have key:∀(i:Nat) (el:List AV),els[i]? =some el->∀(q:Nat) (av:AV),el[q]? =some av->∃xv,σ.w.cell? ⟨b,0+i*size+q,none⟩=some xv/\Rel σ av xv/\av.isCell=true:=by
    intro i el hi q av hq;have hql:q<size:=by rw[<-hsz el (List.mem_of_getElem? hi)];exact(List.getElem?_eq_some_iff.1 hq).1
    have hf:=a68 els hsz i q hql;rw[hi,Option.bind_some,hq,hce]at hf;obtain⟨q1,xv,q2,q3⟩:=h7.2 _ av hf;refine⟨xv,?_,q3,q1⟩;have hlt:=(List.getElem?_eq_some_iff.1 q2).1;rw[Nat.zero_add];simp[World.cell?,h6,List.getElem?_append_left hlt,q2]
   have hne:cells≠[]:=a7n hni;refine Rel.sl (σ:=σ.cut m k) els .no b 0 cap' size (fun i q=>(σ.w.cell? ⟨b,0+i*size+q,none⟩).getD undef) (fun i el hi=>hsz el (List.mem_of_getElem? hi)) hcap trivial (fun id e hid=>by cases hid) (fun i el hi q av hq=>?_) fun i el hi q av hq=>?_
   ·obtain⟨xv,q1,q2,q3⟩:=key i el hi q av hq;refine⟨by show σ.w.cell? _=_;rw[q1];rfl,?_,q3⟩;rintro (ho|⟨j',hj'⟩|⟨id,eb,he1,he2⟩)
    ·exact(hs.inv.outer _ _ ho).2 (.inl ⟨j,hblk⟩)
    ·simp only[Sg.cut]at hj';split at hj'
     ·rename_i hmj;obtain⟨c',hc'⟩:=hs.inv.dom j' b hj';have:=hs.inv.inj j' j b c' cells hc' hb (b9v hal hmj hc') hne hj' hblk;subst this;rw[hmn]at hmj;cases hmj
     ·cases hj'
    ·simp only[Sg.cut]at he1;split at he1
     ·exact hs.inv.bufblk id eb j b _ he1 he2 hblk
     ·cases he1
   ·obtain⟨xv,q1,q2,q3⟩:=key i el hi q av hq;rw[q1];exact q2.cut (a2b (b8m hlc i el hi) q av hq)
  ·rename_i hj;rw[if_neg hj];exact h3.cut hlow
 |_=>exact h3.cut hlow⟩
theorem drf{P:Program}{h:A3}{env:Env}{N kb kf:Nat}{Q:Exit->Env->A3->Prop}{x:A0}{α:Type}{f:α->List AV}{sz:Nat}(n:Nat)(m:List Bool)(k c:Nat)(l:List α)(len:Nat)(e:Env)(bs:List (Option (List AV)))(hs:∀y,(f y).length=sz)(hni:∀y,a4j (f y)=true)(hlen:l.length=len)(hw:a55 m k e=true/\a37 m k bs=true)(hx:D P N kb kf x Q e ⟨bs,h.bufs.take k,h.globs⟩)(hb:h.blks[n]? =some (some (cellsOf f l)):=by kernel_rfl)(hpos:Nat.ble 1 sz=true:=by kernel_rfl)(hrow:b2x n env=List.replicate c (0,sz,len):=by kernel_rfl)(hmn:m.getD n false=false:=by kernel_rfl)(hal:c3b m h.blks=true:=by kernel_rfl)(hm:∀k,k<kb->m.getD k false=true:=by intro k hk;first|exact absurd hk (Nat.not_lt_zero _)|exact m4u rfl k hk)(hkf:Nat.ble kf k=true:=by kernel_rfl)(hE:h4a n (List.map f l) env=e:=by kernel_rfl)(hbs:X5 m h.blks=bs:=by kernel_rfl)(hg:J8 h.globs=true:=by kernel_rfl):D P N kb kf x Q env h:=by
 subst hbs;exact d1n n m k _ (List.map f l) sz len c hb rfl (c1z hs) (by rw[List.length_map];exact hlen) (Nat.le_of_ble_eq_true hpos) (fun h0=>a90 hni (fun h=>h0 (by rw[h];rfl))) hrow hmn hal hm (Nat.le_of_ble_eq_true hkf) hE hw.1 hw.2 hg hx
structure b2k{α:Type}(e:α->List AV)(sz:Nat):Prop where
 hs:∀y,(e y).length=sz
 hn:∀y,a4j (e y)=true
 hp:∀y,plainL (e y)=true
 hz:∀y,(e y).map nz1=e y
section
variable {α:Type}{e:α->List AV}{sz:Nat}
theorem c1c:∀{l:List AV},plainL l=true->∀a∈l,plain a=true
 |[],_,a,h=>by cases h
 |b::l,hp,a,h=>by
  simp only[plainL,Bool.and_eq_true]at hp;rcases List.mem_cons.1 h with h|h
  ·rw[h];exact hp.1
  ·exact c1c hp.2 a h
theorem d0i{n:Nat}{β:Option Nat}{a:AV}(hp:plain a=true)(hz:nz1 a=a):M1 n β a=a:=by
 cases a with
 |nil=>simp[nz1]at hz
 |sl els tok=>cases tok<;>simp_all [nz1,M1]
 |ptr _ _=>simp[plain]at hp
 |row _ _ _ _ _=>simp[plain]at hp
 |ps _ _=>simp[plain]at hp
 |bb _ _ _=>simp[plain]at hp
 |_=>rfl
theorem d20{n:Nat}{β:Option Nat}{a:AV}(hp:plain a=true):c1l n β a=a:=by
 cases a with
 |sl els tok=>cases tok<;>first|rfl|simp_all [plain]
 |ptr _ _=>simp[plain]at hp
 |row _ _ _ _ _=>simp[plain]at hp
 |ps _ _=>simp[plain]at hp
 |bb _ _ _=>simp[plain]at hp
 |_=>rfl
theorem d38{a:AV}(hp:plain a=true):ok1 a=true:=by
 cases a with
 |sl els tok=>cases tok<;>first|exact hp|simp_all [plain,ok1]
 |ptr _ _=>simp[plain]at hp
 |row _ _ _ _ _=>simp[plain]at hp
 |ps _ _=>simp[plain]at hp
 |bb _ _ _=>simp[plain]at hp
 |_=>exact hp
theorem b2k.mem(he:b2k e sz){l:List α}{a:AV}(h:a∈cellsOf e l):plain a=true/\nz1 a=a:=by
 unfold cellsOf at h;obtain⟨c,hc,ha⟩:=List.mem_flatten.1 h;obtain⟨y,_,rfl⟩:=List.mem_map.1 hc;refine⟨c1c (he.hp y) a ha,?_⟩;obtain⟨i,hi⟩:=List.mem_iff_getElem?.1 ha;have:=congrArg (fun l=>l[i]?) (he.hz y);simpa[List.getElem?_map,hi]using this
theorem c88{f:AV->AV}{l:List AV}(h:∀a∈l,f a=a):l.map f=l:=by
 induction l with
 |nil=>rfl
 |cons a l ih=>rw[List.map_cons,h a List.mem_cons_self,ih fun b hb=>h b (List.mem_cons_of_mem _ hb)]
theorem b2k.smol(he:b2k e sz)(n:Nat)(β:Option Nat)(l:List α):(cellsOf e l).map (M1 n β)=cellsOf e l:=c88 fun a ha=>d0i (he.mem ha).1 (he.mem ha).2
theorem b2k.big(he:b2k e sz)(n:Nat)(β:Option Nat)(l:List α):(cellsOf e l).map (c1l n β)=cellsOf e l:=c88 fun a ha=>d20 (he.mem ha).1
theorem b2k.ok(he:b2k e sz)(l:List α):(cellsOf e l).all ok1=true:=List.all_eq_true.2 fun a ha=>d38 (he.mem ha).1
theorem d5p{l:List AV}(h:∀a∈l,plain a=true):plainL l=true:=by
 induction l with
 |nil=>rfl
 |cons a l ih=>simp only[plainL,Bool.and_eq_true];exact⟨h a List.mem_cons_self,ih fun b hb=>h b (List.mem_cons_of_mem _ hb)⟩
theorem b2k.plain(he:b2k e sz)(l:List α):plainL (cellsOf e l)=true:=d5p fun a ha=>(he.mem ha).1
end
def cdN(P:Program)(f:Nat):Nat:=((B0 P f).map fun x=>x.1).getD 0
def cdC(P:Program)(f:Nat):A0:=((B0 P f).map fun x=>x.2.1).getD .skip
def cdR(P:Program)(f:Nat):List b0j:=((B0 P f).map fun x=>x.2.2).getD []
def n0a(o:AOp)(env:Env):Option AV:=
 match o with
 |.len true x=>match x.ev env with
  |some (.v (.string s))=>some (.v (.int .i64 s.size))
  |_=>none
 |.bin .eql x y=>match x.ev env,y.ev env with
  |some (.v (.string a)),some (.v (.string b))=>some (.v (.bool (decide (a=b))))
  |_,_=>none
 |.bin .neq x y=>match x.ev env,y.ev env with
  |some (.v (.string a)),some (.v (.string b))=>some (.v (.bool (!decide (a=b))))
  |_,_=>none
 |.bin .lss x y=>match x.ev env,y.ev env with
  |some (.v (.string a)),some (.v (.string b))=>some (.v (.bool (Op.bytesLess a.toList b.toList)))
  |_,_=>none
 |.bin .leq x y=>match x.ev env,y.ev env with
  |some (.v (.string a)),some (.v (.string b))=>some (.v (.bool (Op.bytesLess a.toList b.toList||a.toList==b.toList)))
  |_,_=>none
 |.bin .gtr x y=>match x.ev env,y.ev env with
  |some (.v (.string a)),some (.v (.string b))=>some (.v (.bool (!(Op.bytesLess a.toList b.toList||a.toList==b.toList))))
  |_,_=>none
 |.bin .geq x y=>match x.ev env,y.ev env with
  |some (.v (.string a)),some (.v (.string b))=>some (.v (.bool (!(Op.bytesLess a.toList b.toList))))
  |_,_=>none
 |.pick c x y=>match c.ev env,x.ev env,y.ev env with
  |some (.v (.bool t)),some (.v (.bool a)),some (.v (.bool b))=>some (.v (.bool (bif t then a else b)))
  |some (.v (.bool t)),some (.v (.int k a)),some (.v (.int k2 b))=>if k=k2 then some (.v (.int k (bif t then a else b))) else none
  |some (.v (.bool t)),some (.v (.string a)),some (.v (.string b))=>some (.v (.string (bif t then a else b)))
  |_,_,_=>none
 |.minmax true [x,y]=>match x.ev env,y.ev env with
  |some (.v (.int k a)),some (.v (.int _ b))=>some (.v (.int k (max a b)))
  |_,_=>none
 |.minmax false [x,y]=>match x.ev env,y.ev env with
  |some (.v (.int k a)),some (.v (.int _ b))=>some (.v (.int k (min a b)))
  |_,_=>none
 |.minmax true [x,y,z]=>match x.ev env,y.ev env,z.ev env with
  |some (.v (.int k a)),some (.v (.int _ b)),some (.v (.int _ c))=>some (.v (.int k (max (max a b) c)))
  |_,_,_=>none
 |.minmax false [x,y,z]=>match x.ev env,y.ev env,z.ev env with
  |some (.v (.int k a)),some (.v (.int _ b)),some (.v (.int _ c))=>some (.v (.int k (min (min a b) c)))
  |_,_,_=>none
 |_=>none
theorem c85{P:Program}{o:AOp}{env:Env}{av:AV}(he:n0a o env=some av)(h:A3):a1i P o env h av h:=by
 unfold n0a at he;split at he
 case h_1=>
  split at he
  ·rename_i hx;cases he;exact j7l hx
  ·cases he
 case h_2=>
  split at he
  ·rename_i hx hy;cases he;exact m92 hx hy
  ·cases he
 case h_3=>
  split at he
  ·rename_i hx hy;cases he;exact n6w hx hy
  ·cases he
 case h_4=>
  split at he
  ·rename_i hx hy;cases he;exact c6y hx hy (c:=True) rfl trivial
  ·cases he
 case h_5=>
  split at he
  ·rename_i hx hy;cases he;exact c6y hx hy (c:=True) rfl trivial
  ·cases he
 case h_6=>
  split at he
  ·rename_i hx hy;cases he;exact c6y hx hy (c:=True) rfl trivial
  ·cases he
 case h_7=>
  split at he
  ·rename_i hx hy;cases he;exact c6y hx hy (c:=True) rfl trivial
  ·cases he
 case h_8=>
  split at he
  ·rename_i hc hx hy;cases he;exact g6w hc hx hy
  ·rename_i hc hx hy;split at he
   ·rename_i hk;subst hk;cases he;exact f9w hc hx hy
   ·cases he
  ·rename_i hc hx hy;cases he;exact g51 hc hx hy
  ·cases he
 case h_9=>
  split at he
  ·rename_i hx hy;cases he;exact h68 hx hy
  ·cases he
 case h_10=>
  split at he
  ·rename_i hx hy;cases he;exact h4z hx hy
  ·cases he
 case h_11=>
  split at he
  ·rename_i hx hy hz;cases he;exact h8o hx hy hz
  ·cases he
 case h_12=>
  split at he
  ·rename_i hx hy hz;cases he;exact k4t hx hy hz
  ·cases he
 case h_13=>cases he
inductive Fr where
 |sq (y:A0)
 |bk (i:Nat)
 |lp (x:A0)
 |sc (l:Nat) (x:A0)
 |sn
inductive Pc where
 |c (x:A0)
 |v (L:List C9)
 |s (b:Bool) (L:List C9) (S gl:List (Nat × List AV)) (w:Option C9) (tl:List C9)
 |n (e:Exit)
 |l (x:A0)
 |g (l:Nat) (x:A0)
structure Mc where
 pc:Pc
 k:List Fr
 env:Env
 h:A3
inductive Rm where
 |ret (r:AV)
 |io (k:Nat) (r:AV) (c:List AV) (b:List (Nat × Nat))
def Rm.kb:Rm->Nat
 |.ret _=>0
 |_=>1
def Rm.kf:Rm->Nat
 |.ret _=>0
 |.io k _ _ _=>k
def Rm.Q(rs:List b0j):Rm->Exit->Env->A3->Prop
 |.ret r=>h4b rs r
 |.io k r c b=>qio k rs r c b
section
variable (P:Program) (f:Nat) (R:Rm)
def Qs:List Fr->Exit->Env->A3->Prop
 |[]=>R.Q (cdR P f)
 |.sq y::k=>c6l (fun e h=>D P (cdN P f) R.kb R.kf y (Qs k) e h) (Qs k)
 |.bk i::k=>b28 i (Qs k)
 |.lp x::k=>c6l (fun e h=>DL P (cdN P f) R.kb R.kf x (Qs k) e h) (Qs k)
 |.sc l x::k=>d1p l (fun e h=>DG P (cdN P f) R.kb R.kf x l (Qs k) e h) (Qs k)
 |.sn::k=>c7v (Qs k)
def KK(w:Option C9)(tl:List C9)(K:Env->A3->Prop):Env->A3->Prop:=match w with
 |none=>fun e h=>vd P tl e h K
 |some w=>fun e h=>∃av h',a1i P w.op e h av h'/\vd P tl e h' K
def Ok(s:Mc):Prop:=match s.pc with
 |.c x=>D P (cdN P f) R.kb R.kf x (Qs P f R s.k) s.env s.h
 |.v L=>vd P L s.env s.h (fun e h=>Qs P f R s.k .normal e h)
 |.s b L S gl w tl=>vs P (InS S gl) b L s.env s.h (KK P w tl fun e h=>Qs P f R s.k .normal e h)
 |.n e=>Qs P f R s.k e s.env s.h
 |.l x=>DL P (cdN P f) R.kb R.kf x (Qs P f R s.k) s.env s.h
 |.g l x=>DG P (cdN P f) R.kb R.kf x l (Qs P f R s.k) s.env s.h
end
def b3b:A0->Option Nat
 |.goto l=>some l
 |.seq a b=>match b3b a with
  |some l=>some l
  |none=>b3b b
 |.cond _ a b=>match b3b a with
  |some l=>some l
  |none=>b3b b
 |.block _ a=>b3b a
 |.loop a=>b3b a
 |.scope a=>b3b a
 |_=>none
def pop:Exit->List Fr->Option (Pc × List Fr)
 |_,[]=>none
 |e,.sq y::k=>match e with
  |.normal=>some (.c y,k)
  |e=>some (.n e,k)
 |e,.lp x::k=>match e with
  |.normal=>some (.l x,k)
  |e=>some (.n e,k)
 |e,.bk j::k=>match e with
  |.exit i=>some (.n (if i=j then .normal else .exit i),k)
  |e=>some (.n e,k)
 |e,.sc l x::k=>match e with
  |.goto i=>if i=l then some (.g l x,k) else none
  |e=>some (.n e,k)
 |e,.sn::k=>match e with
  |.goto _=>none
  |e=>some (.n e,k)
def bnd(S:List (Nat × List AV)):Nat:=S.foldl (fun n p=>max n (p.1+1)) 0
def opn(o:C9)(env:Env)(h:A3):Option (AV × A3):=match n0a o.op env with
 |some a=>some (a,h)
 |none=>b8k false noC o.op env h
def c06(s:Mc):Mc:=match s.pc with
 |.c x=>match x with
  |.skip=>⟨.n .normal,s.k,s.env,s.h⟩
  |.region L=>⟨.v L,s.k,s.env,s.h⟩
  |.seq a b=>⟨.c a,.sq b::s.k,s.env,s.h⟩
  |.block i a=>⟨.c a,.bk i::s.k,s.env,s.h⟩
  |.cond c a b=>match c.ev s.env with
   |some (.v (.bool true))=>⟨.c a,s.k,s.env,s.h⟩
   |some (.v (.bool false))=>⟨.c b,s.k,s.env,s.h⟩
   |_=>s
  |.loop a=>⟨.l a,s.k,s.env,s.h⟩
  |.exit i=>⟨.n (.exit i),s.k,s.env,s.h⟩
  |.ret=>⟨.n .ret,s.k,s.env,s.h⟩
  |.scope a=>match b3b a with
   |none=>⟨.c a,.sn::s.k,s.env,s.h⟩
   |some l=>match a6v a l with
    |some _=>⟨.c a,.sc l a::s.k,s.env,s.h⟩
    |none=>s
  |.label _=>⟨.n .normal,s.k,s.env,s.h⟩
  |.goto l=>⟨.n (.goto l),s.k,s.env,s.h⟩
  |_=>s
 |.v []=>⟨.n .normal,s.k,s.env,s.h⟩
 |.v (o::L)=>match H6 s.env o.guard with
  |some false=>⟨.v L,s.k,a9b s.env o.dst,s.h⟩
  |some true=>match opn o s.env s.h with
   |some p=>⟨.v L,s.k,a79 s.env o.dst p.1,p.2⟩
   |none=>s
  |none=>s
 |.s _ [] _ _ none tl=>⟨.v tl,s.k,s.env,s.h⟩
 |.s _ [] _ _ (some _) _=>s
 |.s b (o::L) S gl w tl=>match H6 s.env o.guard with
  |some false=>⟨.s b L S gl w tl,s.k,a9b s.env o.dst,s.h⟩
  |some true=>match o.op,o.guard,b with
   |.alloc cells,none,true=>⟨.s b L S gl w tl,s.k,a79 s.env o.dst (.ptr s.h.blks.length 0),⟨s.h.blks++[some cells],s.h.bufs,s.h.globs⟩⟩
   |_,_,_=>if Q2 o.op=true then match opn o s.env ⟨c77 (bnd S) S,[],gl⟩ with
    |some p=>⟨.s b L S gl w tl,s.k,a79 s.env o.dst p.1,s.h⟩
    |none=>s
    else s
  |none=>s
 |.n e=>match pop e s.k with
  |some p=>⟨p.1,p.2,s.env,s.h⟩
  |none=>s
 |.l x=>⟨.c x,.lp x::s.k,s.env,s.h⟩
 |.g l x=>match a6v x l with
  |some y=>⟨.c y,.sc l x::s.k,s.env,s.h⟩
  |none=>s
def run:Nat->Mc->Mc
 |0,s=>s
 |n+1,s=>run n (c06 s)
section
variable {P:Program}{f:Nat}{R:Rm}{s:Mc}
theorem d48:∀k,b83 fun e h=>Qs P f R k .normal e h
 |[]=>by cases R<;>first|exact k2m|exact n8v
 |.sq y::k=>o28
 |.bk i::k=>d48 k
 |.lp x::k=>i4a
 |.sc l x::k=>d48 k
 |.sn::k=>d48 k
theorem m3y{w:Option C9}{tl:List C9}{K:Env->A3->Prop}(hK:b83 K):b83 (KK P w tl K):=by
 cases w with
 |none=>exact n0b hK
 |some w=>exact fun e env h he ⟨av,h',hd,hv⟩=>⟨av,h',hd.less he,b4y hK he hv⟩
theorem d3e{n:Nat}{S gl:List (Nat × List AV)}{o:C9}{env:Env}{p:AV × A3}(hq:Q2 o.op=true)(he:opn o env ⟨c77 n S,[],gl⟩=some p):∀h2,InS S gl h2->c0n P o.op env h2 p.1:=by
 unfold opn at he;split at he
 ·rename_i a ha;cases he;exact fun h2 _=>(c85 ha h2).q
 ·exact d3g hq he
theorem c8j{o:C9}{env:Env}{h:A3}{p:AV × A3}(he:opn o env h=some p):a1i P o.op env h p.1 p.2:=by
 unfold opn at he;split at he
 ·rename_i a ha;cases he;exact c85 ha h
 ·exact l9b he
theorem k6k{e:Exit}{k:List Fr}{p:Pc × List Fr}{env:Env}{h:A3}(hp:pop e k=some p)(hk:Ok P f R ⟨p.1,p.2,env,h⟩):Qs P f R k e env h:=by
 cases k with
 |nil=>cases hp
 |cons fr k=>
  cases fr with
  |sq y=>cases e<;>(cases hp;exact hk)
  |lp x=>cases e<;>(cases hp;exact hk)
  |bk j=>
   cases e with
   |exit i=>
    cases hp;show(if i=j then Qs P f R k .normal env h else Qs P f R k (.exit i) env h);split
    ·rename_i hij;rw[if_pos hij]at hk;exact hk
    ·rename_i hij;rw[if_neg hij]at hk;exact hk
   |_=>cases hp;exact hk
  |sc l x=>
   cases e
   case goto i=>
    simp only[pop]at hp;split at hp
    ·rename_i hil;cases hp;exact⟨hil,hk⟩
    ·cases hp
   all_goals (cases hp;exact hk)
  |sn=>cases e<;>(cases hp;try exact hk)
theorem h3e(hk:Ok P f R (c06 s)):Ok P f R s:=by
 obtain⟨pc,k,env,h⟩:=s;cases pc with
 |c x=>
  cases x with
  |skip=>exact k2b hk
  |region L=>exact dr hk
  |seq a b=>exact e2g hk
  |block i a=>exact d6c hk
  |loop a=>exact f8j hk
  |exit i=>exact i52 hk
  |ret=>exact n7f hk
  |label _=>exact h0i hk
  |goto l=>exact l30 hk
  |cond c a b=>
   simp only[c06]at hk;split at hk
   ·rename_i hc;exact d7i hc rfl hk
   ·rename_i hc;exact e0p hc rfl hk
   ·exact hk
  |scope a=>
   simp only[c06]at hk;split at hk
   ·exact d9h hk
   ·split at hk
    ·rename_i hf;exact d9k hf hk
    ·exact hk
  |_=>exact hk
 |v L=>
  cases L with
  |nil=>exact hk
  |cons o L=>
   simp only[c06]at hk;split at hk
   ·rename_i hg;exact .inl ⟨hg,hk⟩
   ·rename_i hg;split at hk
    ·rename_i p hp;exact .inr (.inl ⟨hg,p.1,p.2,c8j hp,hk⟩)
    ·exact hk
   ·exact hk
 |s b L S gl w tl=>
  cases L with
  |nil=>cases w<;>exact hk
  |cons o L=>
   simp only[c06]at hk;split at hk
   ·rename_i hg;exact .inl ⟨hg,hk⟩
   ·rename_i hg;split at hk
    ·rename_i cells h1 h2;exact .inr (.inr (.inr ⟨rfl,cells,h1,h2,hk⟩))
    ·split at hk
     ·rename_i hq;split at hk
      ·rename_i p hp;exact .inr (.inl ⟨hg,hq,p.1,d3e hq hp,hk⟩)
      ·exact hk
     ·exact hk
   ·exact hk
 |n e=>
  simp only[c06]at hk;split at hk
  ·rename_i p hp;exact k6k hp hk
  ·exact hk
 |l x=>exact d2c hk
 |g l x=>
  simp only[c06]at hk;split at hk
  ·rename_i hf;exact d1l hf hk
  ·exact hk
theorem K9:∀(n:Nat) {s:Mc},Ok P f R (run n s)->Ok P f R s
 |0,_,hk=>hk
 |n+1,_,hk=>h3e (K9 n hk)
theorem b99{e:Env}(he:b32 e s.env)(hc:(match s.pc with|.n _=>false|.g _ _=>false|_=>true)=true)(hk:Ok P f R ⟨s.pc,s.k,e,s.h⟩):Ok P f R s:=by
 obtain⟨pc,k,env,h⟩:=s;cases pc with
 |c x=>exact o28 e env h he hk
 |v L=>exact b4y (d48 k) he hk
 |s b L S gl w tl=>exact b9z (m3y (d48 k)) he hk
 |l x=>exact i4a e env h he hk
 |_=>cases hc
end
structure En(α:Type) where
 e:α->List AV
 f:α->List AV
 sz:Nat
 eq:∀y,f y=e y
 len:∀y,(e y).length=sz
 ro:b2k f sz
def oX:AOp->G2
 |.idxSl _ x _=>x
 |.idxS x _=>x
 |.len _ x=>x
 |.bin _ x _=>x
 |.sliceS x _ _=>x
 |.sliceV _ x _ _ _=>x
 |.append _ _ _ x _=>x
 |.conv _ x=>x
 |.bytes x=>x
 |.load _ x=>x
 |.store _ p _=>p
 |.make _ _ _ x _=>x
 |.call f _=>f
 |.eq _ _ x _=>x
 |.next x=>x
 |.assertT _ _ _ x=>x
 |_=>.t 0
def oY:AOp->G2
 |.idxSl _ _ i=>i
 |.idxS _ i=>i
 |.bin _ _ y=>y
 |.append _ _ _ _ y=>y
 |.store _ _ x=>x
 |.make _ _ _ _ y=>y
 |.eq _ _ _ y=>y
 |_=>.t 0
def oE:AOp->TypeId
 |.append e _ _ _ _=>e
 |_=>0
def oA:AOp->List G2
 |.call _ l=>l
 |_=>[]
def oLo:AOp->Option G2
 |.sliceS _ l _=>l
 |.sliceV _ _ l _ _=>l
 |_=>none
def oHi:AOp->Option G2
 |.sliceS _ _ l=>l
 |.sliceV _ _ _ l _=>l
 |_=>none
def oMx:AOp->G2
 |.sliceV _ _ _ _ (some m)=>m
 |_=>.t 0
def opS(s:Mc):C9:=match s.pc with
 |.v (o::_)=>o
 |.s _ (o::_) _ _ _ _=>o
 |.s _ [] _ _ (some w) _=>w
 |_=>⟨none,.alloc [],none⟩
def op(s:Mc):AOp:=(opS s).op
def put(s:Mc)(av:AV):Mc:=match s.pc with
 |.v (o::L)=>⟨.v L,s.k,a79 s.env o.dst av,s.h⟩
 |.s b (o::L) S gl w tl=>⟨.s b L S gl w tl,s.k,a79 s.env o.dst av,s.h⟩
 |_=>s
def d4b(s:Mc)(av:AV)(h:A3):Mc:=match s.pc with
 |.v (o::L)=>⟨.v L,s.k,a79 s.env o.dst av,h⟩
 |.s _ (o::L) S gl w tl=>⟨.s false L S gl w tl,s.k,a79 s.env o.dst av,h⟩
 |.s _ [] _ _ (some _) tl=>⟨.v tl,s.k,s.env,h⟩
 |_=>s
def okS(s:Mc):Bool:=match s.pc with
 |.v (o::_)=>H6 s.env o.guard==some true
 |.s _ (o::_) _ _ _ _=>H6 s.env o.guard==some true&&Q2 o.op
 |_=>false
def okH(s:Mc):Bool:=match s.pc with
 |.v (o::_)=>H6 s.env o.guard==some true
 |.s _ (o::_) _ _ _ _=>H6 s.env o.guard==some true&& !Q2 o.op&& !c31 o
 |.s _ [] _ _ (some _) _=>true
 |_=>false
def seS(s:Mc)(h:A3):Option (List (Option (Option (List AV))) × List (Nat × List AV)):=match s.pc with
 |.s _ (_::_) S _ _ _=>some (inS S h,h.globs)
 |_=>none
def seE(s:Mc):Option (List (Option (Option (List AV))) × List (Nat × List AV)):=match s.pc with
 |.s _ (_::_) S gl _ _=>some (S.map (fun p=>some (some p.2)),gl)
 |_=>none
def l1c(s:Mc)(h:A3):Prop:=match s.pc with
 |.s _ _ S gl _ _=>InS S gl h
 |_=>h=s.h
def d5d(s:Mc):List (Nat × List AV):=match s.pc with
 |.s _ _ _ gl _ _=>gl
 |_=>s.h.globs
def l9u(s:Mc)(r:Nat):Option (List AV):=match s.pc with
 |.s _ _ S _ _ _=>(S.find? fun p=>p.1==r).map (·.2)
 |_=>(s.h.blks[r]?).bind id
def xv(s:Mc):Option AV:=(oX (op s)).ev s.env
def yv(s:Mc):Option AV:=(oY (op s)).ev s.env
def o3n(x:Option AV):ByteArray:=match x with
 |some (.v (.string t))=>t
 |_=>⟨#[]⟩
def i8t(x:Option AV):Nat:=match x with
 |some (.sl _ (.own i))=>i
 |_=>0
def d2o(x:Option AV):Nat:=match x with
 |some (.row r _ _ _ _)=>r
 |some (.ptr r _)=>r
 |_=>0
def o7e(x:Option AV):Nat:=match x with
 |some (.row _ _ _ _ c)=>c
 |_=>0
section
variable {P:Program}{f:Nat}{R:Rm}{s:Mc}
theorem b9m{h:A3}(hs:l1c s h):h.globs=d5d s:=by
 unfold l1c at hs;unfold d5d;split at hs
 ·exact hs.2
 ·subst hs;rfl
theorem c8t{h:A3}{r:Nat}{c:List AV}(hs:l1c s h)(hr:l9u s r=some c):h.blks[r]? =some (some c):=by
 unfold l1c at hs;unfold l9u at hr;split at hs
 ·rename_i hp;rw[hp]at hr;simp only[Option.map_eq_some_iff]at hr;obtain⟨p,h1,rfl⟩:=hr;have h2:=List.find?_some h1;have h3:p.1=r:=by simpa using h2
  subst h3;exact hs.1 _ _ (List.mem_of_find?_eq_some h1)
 ·rename_i hp;subst hs;split at hr
  ·rename_i hq;exact absurd hq (hp _ _ _ _ _ _)
  ·obtain⟨x,h1,h2⟩:=Option.bind_eq_some_iff.1 hr;rw[h1];exact congrArg some h2
theorem c4q{av:AV}(hd:∀h,l1c s h->a1i P (op s) s.env h av h)(hk:Ok P f R (put s av))(hc:okS s=true):Ok P f R s:=by
 obtain⟨pc,k,env,h⟩:=s;cases pc with
 |v L=>
  cases L with
  |nil=>cases hc
  |cons o L=>exact .inr (.inl ⟨by simpa[okS]using hc,av,h,hd h rfl,hk⟩)
 |s b L S gl w tl=>
  cases L with
  |nil=>cases hc
  |cons o L=>
   have hc':H6 env o.guard=some true/\Q2 o.op=true:=by simpa[okS]using hc
   exact .inr (.inl ⟨hc'.1,hc'.2,av,fun h2 hi=>(hd h2 hi).q,hk⟩)
 |_=>cases hc
theorem a8q{av:AV}{h':A3}(hd:a1i P (op s) s.env s.h av h')(hk:Ok P f R (d4b s av h'))(hc:okH s=true)(hs:seS s h'=seE s):Ok P f R s:=by
 obtain⟨pc,k,env,h⟩:=s;cases pc with
 |v L=>
  cases L with
  |nil=>cases hc
  |cons o L=>exact .inr (.inl ⟨by simpa[okH]using hc,av,h',hd,hk⟩)
 |s b L S gl w tl=>
  cases L with
  |nil=>
   cases w with
   |none=>cases hc
   |some w=>exact⟨av,h',hd,hk⟩
  |cons o L=>
   have hc':(H6 env o.guard=some true/\Q2 o.op=false)/\c31 o=false:=by simpa[okH]using hc
   have hs':inS S h'=S.map (fun p=>some (some p.2))/\h'.globs=gl:=by simpa[seS,seE]using hs
   exact .inr (.inr (.inl ⟨hc'.1.1,hc'.1.2,hc'.2,av,h',hd,e2t hs'.1 hs'.2,hk⟩))
 |_=>cases hc
theorem ev0(m:Nat){av:AV}(hd:∀h,a1i P (op (run m s)) (run m s).env h av h)(hk:Ok P f R (put (run m s) av))(hc:okS (run m s)=true):Ok P f R s:=K9 m (c4q (fun h _=>hd h) hk hc)
variable {α:Type}{W:α->Prop}{p q:Prop}
theorem KI(m:Nat)(E:En α){l:List α}{n:Int}(hw:∃y,l[n.toNat]? =some y/\0<=n/\W y)(hk:∀y,W y->Ok P f R (put (run m s) (.elt (E.e y) 0)))(hc:okS (run m s)=true:=by kernel_rfl)(ho:op (run m s)=.idxSl E.sz (oX (op (run m s))) (oY (op (run m s))):=by kernel_rfl)(hx:b6d (xv (run m s))=some (List.map E.f l):=by kernel_rfl)(hi:b3p (yv (run m s))=some n:=by kernel_rfl):Ok P f R s:=by
 obtain⟨y,h1,h0,hw⟩:=hw;exact ev0 m (fun h=>by rw[ho];exact m0n h0 h1 (E.eq y) hx hi (E.len y)) (hk y hw) hc
theorem KL(m:Nat)(E:En α)(l:List α)(hk:Ok P f R (put (run m s) (.v (.int .i64 l.length))))(hc:okS (run m s)=true:=by kernel_rfl)(ho:op (run m s)=.len false (oX (op (run m s))):=by kernel_rfl)(hx:b6d (xv (run m s))=some (List.map E.f l):=by kernel_rfl):Ok P f R s:=ev0 m (fun h=>by rw[ho];exact m05 l E.f hx) hk hc
theorem KC(m:Nat){g:FuncId}{gl:List (Nat × List AV)}{args:List AV}{e:α->AV}(hw:∃y,C5 P gl g args (e y)/\W y)(hp:plainL args=true)(hk:∀y,W y->Ok P f R (put (run m s) (e y)))(hc:okS (run m s)=true:=by kernel_rfl)(ho:op (run m s)=.call (.c (.clo (.func g) [] [])) (oA (op (run m s))):=by kernel_rfl)(ha:(evs (run m s).env (oA (op (run m s)))).map (List.map nz)=some args:=by kernel_rfl)(hg:d5d (run m s)=gl:=by kernel_rfl)(hgl:J8 gl=true:=by kernel_rfl):Ok P f R s:=by
 obtain⟨y,h1,hw⟩:=hw;subst hg;refine K9 m (c4q (fun h hs=>?_) (hk y hw) hc);rw[ho];rw[<-b9m hs]at h1 hgl;exact i7a h1 hp ha hgl
theorem KF(m:Nat){gl:List (Nat × List AV)}{args:List AV}{F:AV}{e:α->AV}(hw:∃y,a7k P gl F args (e y)/\W y)(hk:∀y,W y->Ok P f R (put (run m s) (e y)))(hc:okS (run m s)=true:=by kernel_rfl)(ho:op (run m s)=.call (oX (op (run m s))) (oA (op (run m s))):=by kernel_rfl)(hf:xv (run m s)=some F:=by kernel_rfl)(ha:(evs (run m s).env (oA (op (run m s)))).map (List.map nz)=some args:=by kernel_rfl)(hg:d5d (run m s)=gl:=by kernel_rfl)(hgl:J8 gl=true:=by kernel_rfl):Ok P f R s:=by
 obtain⟨y,h1,hw⟩:=hw;subst hg;refine K9 m (c4q (fun h hs=>?_) (hk y hw) hc);rw[ho];rw[<-b9m hs]at h1 hgl;exact f7l h1 hf ha hgl
theorem KIS(m:Nat){t:ByteArray}{n:Int}(hw:(0<=n/\n<(t.size:Int))/\p)(hk:p->Ok P f R (put (run m s) (.v (.int .u8 (C7 t n.toNat)))))(hc:okS (run m s)=true:=by kernel_rfl)(ho:op (run m s)=.idxS (oX (op (run m s))) (oY (op (run m s))):=by kernel_rfl)(hx:xv (run m s)=some (.v (.string t)):=by kernel_rfl)(hi:b3p (yv (run m s))=some n:=by kernel_rfl):Ok P f R s:=ev0 m (fun h=>by rw[ho];exact l89 hw.1 hx hi) (hk hw.2) hc
theorem KSS(m:Nat){t:ByteArray}{a u:Int}(hw:(0<=a/\a<=u/\u<=(t.size:Int))/\p)(hk:p->Ok P f R (put (run m s) (.v (.string (t.extract a.toNat u.toNat)))))(hc:okS (run m s)=true:=by kernel_rfl)(ho:op (run m s)=.sliceS (oX (op (run m s))) (oLo (op (run m s))) (oHi (op (run m s))):=by kernel_rfl)(hx:xv (run m s)=some (.v (.string t)):=by kernel_rfl)(h3:(evo (run m s).env (oLo (op (run m s)))).bind (E2 0)=some a:=by kernel_rfl)(h4:(evo (run m s).env (oHi (op (run m s)))).bind (E2 t.size)=some u:=by kernel_rfl):Ok P f R s:=ev0 m (fun h=>by rw[ho];exact d7a hw.1 hx h3 h4) (hk hw.2) hc
theorem KSV(m:Nat)(E:En α){l:List α}{a u:Int}(hw:(0<=a/\a<=u/\u<=(l.length:Int))/\p)(hk:p->Ok P f R (put (run m s) (.sl (List.map E.f ((l.take u.toNat).drop a.toNat)) .no)))(hc:okS (run m s)=true:=by kernel_rfl)(ho:op (run m s)=.sliceV E.sz (oX (op (run m s))) (oLo (op (run m s))) (oHi (op (run m s))) none:=by kernel_rfl)(hx:b6d (xv (run m s))=some (List.map E.f l):=by kernel_rfl)(h3:(evo (run m s).env (oLo (op (run m s)))).bind (E2 0)=some a:=by kernel_rfl)(h4:(evo (run m s).env (oHi (op (run m s)))).bind (E2 l.length)=some u:=by kernel_rfl)(h5:((oLo (op (run m s))).isSome||(oHi (op (run m s))).isSome)=true:=by kernel_rfl):Ok P f R s:=ev0 m (fun h=>by rw[ho];exact g3e hw.1 E.ro.hs hx h3 h4 h5) (hk hw.2) hc
theorem KSF(m:Nat)(E:En α){l:List α}{a u:Int}(hw:(0<=a/\a<=u/\u<=(l.length:Int))/\p)(hk:p->Ok P f R (put (run m s) (.sl (List.map E.f ((l.take u.toNat).drop a.toNat)) .full)))(hc:okS (run m s)=true:=by kernel_rfl)(ho:op (run m s)=.sliceV E.sz (oX (op (run m s))) (oLo (op (run m s))) (oHi (op (run m s))) (some (oMx (op (run m s)))):=by kernel_rfl)(hx:b6d (xv (run m s))=some (List.map E.f l):=by kernel_rfl)(h3:(evo (run m s).env (oLo (op (run m s)))).bind (E2 0)=some a:=by kernel_rfl)(h4:(evo (run m s).env (oHi (op (run m s)))).bind (E2 l.length)=some u:=by kernel_rfl)(h5:b3p ((oMx (op (run m s))).ev (run m s).env)=some u:=by kernel_rfl)(h6:(oHi (op (run m s))).isSome=true:=by kernel_rfl):Ok P f R s:=ev0 m (fun h=>by rw[ho];exact d6g hw.1 E.ro.hs hx h3 h4 h5 h6) (hk hw.2) hc
theorem i4p(m:Nat){a b:ByteArray}(hw:((a.size+b.size:Nat):Int)<=9223372036854775807/\p)(hk:p->Ok P f R (put (run m s) (.v (.string (a++b)))))(hc:okS (run m s)=true:=by kernel_rfl)(ho:op (run m s)=.bin .add (oX (op (run m s))) (oY (op (run m s))):=by kernel_rfl)(hx:xv (run m s)=some (.v (.string a)):=by kernel_rfl)(hy:yv (run m s)=some (.v (.string b)):=by kernel_rfl):Ok P f R s:=ev0 m (fun h=>by rw[ho];exact n0n hw.1 hx hy) (hk hw.2) hc
def HM(h:A3)(y:Option AV)(E:En α)(m:List α):Prop:=y.bind (b7t h E.sz)=some (List.map E.f m)
theorem mF{h:A3}{y:Option AV}{E:En α}{l:List α}(hm:y.bind (b7t h E.sz)=some (List.map E.f l):=by kernel_rfl):HM h y E l:=hm
theorem mE{h:A3}{y:Option AV}{E:En α}{l:List α}(hm:y.bind (b7t h E.sz)=some (List.map E.e l):=by kernel_rfl):HM h y E l:=by
 have:=funext E.eq;unfold HM;rw[this];exact hm
theorem KA(m:Nat)(E:En α){l l2:List α}{b:Nat}(hw:(l.length+l2.length)*b<=140737488355328/\p)(hm:HM (run m s).h (yv (run m s)) E l2)(hk:p->Ok P f R (d4b (run m s) (.sl (List.map E.f (l++l2)) (.own (i8t (xv (run m s))))) ⟨(run m s).h.blks,(run m s).h.bufs.set (i8t (xv (run m s))) ((l++l2).length,E.sz),(run m s).h.globs⟩))(hc:okH (run m s)=true:=by kernel_rfl)(hs:seS (run m s) ⟨(run m s).h.blks,(run m s).h.bufs.set (i8t (xv (run m s))) ((l++l2).length,E.sz),(run m s).h.globs⟩=seE (run m s):=by kernel_rfl)(ho:op (run m s)=.append (oE (op (run m s))) E.sz b (oX (op (run m s))) (oY (op (run m s))):=by kernel_rfl)(hx:xv (run m s)=some (.sl (List.map E.f l) (.own (i8t (xv (run m s))))):=by kernel_rfl)(hb:(run m s).h.bufs[i8t (xv (run m s))]? =some (l.length,E.sz):=by kernel_rfl):Ok P f R s:=K9 m (a8q (by rw[ho];exact n0q _ E.f l l2 hw.1 E.ro.hs hm hx hb) (hk hw.2) hc hs)
theorem KY(m:Nat)(hk:Ok P f R (put (run m s) (.sl (List.map (fun n=>[AV.v (.int .u8 n)]) (bI (o3n (xv (run m s))))) .no)))(hc:okS (run m s)=true:=by kernel_rfl)(ho:op (run m s)=.bytes (oX (op (run m s))):=by kernel_rfl)(hx:xv (run m s)=some (.v (.string (o3n (xv (run m s))))):=by kernel_rfl):Ok P f R s:=ev0 m (fun h=>by rw[ho];exact f0y _ hx) hk hc
theorem KS(m:Nat){l:List Int}{W:ByteArray->Prop}(hw:∃t,l=bI t/\W t)(hk:∀t,W t->Ok P f R (put (run m s) (.v (.string t))))(hc:okS (run m s)=true:=by kernel_rfl)(ho:op (run m s)=.conv .str (oX (op (run m s))):=by kernel_rfl)(hx:b6d (xv (run m s))=some (List.map (fun n=>[AV.v (.int .u8 n)]) l):=by kernel_rfl):Ok P f R s:=by
 obtain⟨t,h1,hw⟩:=hw;exact ev0 m (fun h=>by rw[ho];exact m0y h1 hx) (hk t hw) hc
theorem KRI(m:Nat){len:Nat}{n:Int}(sz:Nat)(hw:(0<=n/\n<(len:Int))/\p)(hk:p->Ok P f R (put (run m s) (.ptr (d2o (xv (run m s))) (0+n.toNat*sz))))(hc:okS (run m s)=true:=by kernel_rfl)(ho:op (run m s)=.idxSl sz (oX (op (run m s))) (oY (op (run m s))):=by kernel_rfl)(hx:xv (run m s)=some (.row (d2o (xv (run m s))) 0 sz len (o7e (xv (run m s)))):=by kernel_rfl)(hi:b3p (yv (run m s))=some n:=by kernel_rfl):Ok P f R s:=ev0 m (fun h=>by rw[ho];exact i4n _ len _ hw.1 hx hi) (hk hw.2) hc
def atE(l:List AV)(k:Nat):AV:=l[k]?.getD .nil
theorem KR1(m:Nat)(E:En α)(k:Nat){l:List α}{i:Nat}(hw:∃y,l[i]? =some y/\W y)(hk:∀y,W y->Ok P f R (put (run m s) (atE (E.e y) k)))(hc:okS (run m s)=true:=by kernel_rfl)(ho:op (run m s)=.load none (oX (op (run m s))):=by kernel_rfl)(hx:xv (run m s)=some (.ptr (d2o (xv (run m s))) (0+i*E.sz+k)):=by kernel_rfl)(hr:l9u (run m s) (d2o (xv (run m s)))=some (cellsOf E.f l):=by kernel_rfl)(hb:Nat.ble (k+1) E.sz=true:=by kernel_rfl):Ok P f R s:=by
 obtain⟨y,h1,hw⟩:=hw;have hlt:k<E.sz:=Nat.le_of_ble_eq_true hb
 have hg:(E.f y)[k]? =some (atE (E.e y) k):=by
  rw[E.eq y];have:k<(E.e y).length:=by rw[E.len y];exact hlt
  simp[atE,this]
 exact K9 m (c4q (fun h hs=>by rw[ho];exact k0c E.ro.hs E.ro.hn h1 hlt hg (by omega) hx (c8t hs hr)) (hk y hw) hc)
theorem KRS(m:Nat)(E:En α)(z:α){l:List α}{i:Nat}(hw:i<l.length/\p)(hk:p->Ok P f R (d4b (run m s) (.tuple []) ⟨(run m s).h.blks.set (d2o (xv (run m s))) (some (cellsOf E.f (l.set i z))),(run m s).h.bufs,(run m s).h.globs⟩))(hc:okH (run m s)=true:=by kernel_rfl)(hs:seS (run m s) ⟨(run m s).h.blks.set (d2o (xv (run m s))) (some (cellsOf E.f (l.set i z))),(run m s).h.bufs,(run m s).h.globs⟩=seE (run m s):=by kernel_rfl)(ho:op (run m s)=.store E.sz (oX (op (run m s))) (oY (op (run m s))):=by kernel_rfl)(hx:xv (run m s)=some (.ptr (d2o (xv (run m s))) (0+i*E.sz)):=by kernel_rfl)(hy:(yv (run m s)).map (fun a=>(a.isTuple,a.cells))=some (false,E.e z):=by kernel_rfl)(hr:(run m s).h.blks[d2o (xv (run m s))]? =some (some (cellsOf E.f l)):=by kernel_rfl):Ok P f R s:=by
 obtain⟨a,h1,h2⟩:=Option.map_eq_some_iff.1 hy;have h3:=congrArg Prod.fst h2;have h4:=congrArg Prod.snd h2;exact K9 m (a8q (by rw[ho];exact n43 z E.ro.hs E.ro.hn hw.1 ((E.eq z).trans h4.symm) (Nat.zero_add _) hx h1 h3 hr) (hk hw.2) hc hs)
theorem KM(m:Nat)(E:En α)(z:α){L C:Int}{b:Nat}(hw:(0<=L/\L<=C/\C*b<=140737488355328)/\p)(hk:p->Ok P f R (d4b (run m s) (.row (run m s).h.blks.length 0 E.sz L.toNat C.toNat) ⟨(run m s).h.blks++[some (cellsOf E.f (List.replicate C.toNat z))],(run m s).h.bufs,(run m s).h.globs⟩))(hc:okH (run m s)=true:=by kernel_rfl)(hs:seS (run m s) ⟨(run m s).h.blks++[some (cellsOf E.f (List.replicate C.toNat z))],(run m s).h.bufs,(run m s).h.globs⟩=seE (run m s):=by kernel_rfl)(ho:op (run m s)=.make E.sz b (E.e z) (oX (op (run m s))) (oY (op (run m s))):=by kernel_rfl)(hx:b3p (xv (run m s))=some L:=by kernel_rfl)(hy:b3p (yv (run m s))=some C:=by kernel_rfl):Ok P f R s:=K9 m (a8q (by rw[ho];exact i5z E.f z L C hw.1 hx hy (E.eq z).symm (E.ro.hs z)) (hk hw.2) hc hs)
end
def gT(s:Mc):Nat:=match (opS s).guard with
 |some (t,_)=>t
 |none=>0
def cv(s:Mc):Option AV:=match s.pc with
 |.c (.cond c _ _)=>c.ev s.env
 |.v (⟨_,_,some (t,_)⟩::_)=>get s.env t
 |.s _ (⟨_,_,some (t,_)⟩::_) _ _ _ _=>get s.env t
 |_=>none
def br(s:Mc)(b:Bool):Mc:=match s.pc with
 |.c (.cond _ x y)=>⟨.c (if b=true then x else y),s.k,s.env,s.h⟩
 |.v (⟨d,o,some (t,w)⟩::L)=>⟨.v (⟨d,o,some (t,w)⟩::L),s.k,(t,.v (.bool b))::s.env,s.h⟩
 |.s b' (⟨d,o,some (t,w)⟩::L) S gl q tl=>⟨.s b' (⟨d,o,some (t,w)⟩::L) S gl q tl,s.k,(t,.v (.bool b))::s.env,s.h⟩
 |_=>s
section
variable {P:Program}{f:Nat}{R:Rm}{s:Mc}
theorem d45{B:Bool}(hv:cv s=some (.v (.bool B)))(h1:B=true->Ok P f R (br s true))(h2:B=false->Ok P f R (br s false)):Ok P f R s:=by
 obtain⟨pc,k,env,h⟩:=s;simp only[cv]at hv;split at hv
 ·exact d4l hv h1 h2
 ·cases hB:B with
  |true=>exact b99 (b3c hB hv) rfl (h1 hB)
  |false=>exact b99 (b3c hB hv) rfl (h2 hB)
 ·cases hB:B with
  |true=>exact b99 (b3c hB hv) rfl (h1 hB)
  |false=>exact b99 (b3c hB hv) rfl (h2 hB)
 ·cases hv
theorem KW(m:Nat){B:Bool}{p q:Prop}(hw:(B=true->p)/\(B=false->q))(h1:B=true->p->Ok P f R (br (run m s) true))(h2:B=false->q->Ok P f R (br (run m s) false))(hv:cv (run m s)=some (.v (.bool B)):=by kernel_rfl):Ok P f R s:=K9 m (d45 hv (fun h=>h1 h (hw.1 h)) fun h=>h2 h (hw.2 h))
theorem KKn(m:Nat){B b:Bool}(hB:B=b)(hk:Ok P f R (br (run m s) b))(hv:cv (run m s)=some (.v (.bool B)):=by kernel_rfl):Ok P f R s:=by
 subst hB;exact K9 m (d45 hv (fun h=>by rw[h]at hk;exact hk) fun h=>by rw[h]at hk;exact hk)
def dpc(n:Nat):Pc->Pc
 |.v L=>.v (L.drop n)
 |.s b L S gl w tl=>.s b (L.drop n) S gl w tl
 |x=>x
def jnD(s:Mc)(n:Nat):Nat:=match s.pc with
 |.v L=>(((L[n - 1]?).bind fun o=>o.dst)).getD 0
 |.s _ L _ _ _ _=>(((L[n - 1]?).bind fun o=>o.dst)).getD 0
 |_=>0
def jn(s:Mc)(n:Nat)(a:AV):Mc:=⟨dpc n s.pc,s.k,(jnD s n,a)::drop (gT s) s.env,s.h⟩
def b8i(s:Mc):Mc:=⟨s.pc,s.k,[],s.h⟩
def l04(d t:Nat)(e env:Env):Bool:=(e.take (e.length - env.length)).all fun p=>p.1==t||p.1==d||(get env p.1).isNone
theorem g7r{d t:Nat}{a:AV}{e env:Env}(h1:get e d=some a)(h2:e.drop (e.length - env.length)=env)(h3:l04 d t e env=true):b32 ((d,a)::drop t env) e:=by
 intro u b hu;simp only[get]at hu;split at hu
 ·rename_i hd;subst hd;cases hu;exact h1
 ·rename_i hd
  have h4:u≠t:=by
   rintro rfl
   have:∀{e:Env},get (drop u e) u=none:=by
    intro e
    induction e with
    |nil=>rfl
    |cons q e ih=>
     obtain⟨v,c⟩:=q;simp only[drop];split
     ·exact ih
     ·rename_i hv;simp only[get];rw[if_neg hv];exact ih
   rw[this]at hu;cases hu
  have h5:get env u=some b:=by
   have:∀{e:Env},get (drop t e) u=get e u:=by
    intro e
    induction e with
    |nil=>rfl
    |cons q e ih=>
     obtain⟨v,c⟩:=q;simp only[drop];split
     ·rename_i hv;subst hv;simp only[get];rw[if_neg (fun h=>h4 h.symm)];exact ih
     ·simp only[get];rw[ih]
   rw[<-this];exact hu
  rw[<-List.take_append_drop (e.length - env.length) e,d5c,h2];split
  ·rename_i c hc;have hm:=c6j hc;have h6:=List.all_eq_true.1 h3 _ hm;simp only[Bool.or_eq_true,beq_iff_eq]at h6;rcases h6 with(h6|h6)|h6
   ·exact absurd h6 h4
   ·exact absurd h6.symm hd
   ·rw[h5]at h6;cases h6
  ·exact h5
def jnv(s:Mc)(n:Nat):Option (Bool × AV × AV × AV):=match cv s,get (run n (br s true)).env (jnD s n),get (run n (br s false)).env (jnD s n) with
 |some (.v (.bool B)),some (.v (.bool x)),some (.v (.bool y))=>some (B,.v (.bool (bif B then x else y)),.v (.bool x),.v (.bool y))
 |some (.v (.bool B)),some (.v (.int k x)),some (.v (.int _ y))=>some (B,.v (.int k (bif B then x else y)),.v (.int k x),.v (.int k y))
 |some (.v (.bool B)),some (.v (.string x)),some (.v (.string y))=>some (B,.v (.string (bif B then x else y)),.v (.string x),.v (.string y))
 |_,_,_=>none
def jnV(s:Mc)(n:Nat):AV:=((jnv s n).map fun p=>p.2.1).getD .nil
def met(s s1:Mc)(n:Nat):Bool:=l04 (jnD s n) (gT s) s1.env s.env&&(match s.pc with|.v _=>true|.s _ _ _ _ _ _=>true|_=>false)
theorem c8h{s s1:Mc}{n:Nat}{a:AV}(hk:Ok P f R (jn s n a))(ha:get s1.env (jnD s n)=some a)(hb:b8i s1=b8i (jn s n a))(hd:s1.env.drop (s1.env.length - s.env.length)=s.env)(hf:met s s1 n=true):Ok P f R s1:=by
 obtain⟨pc1,k1,env1,h1⟩:=s1;obtain⟨pc,k,env,h⟩:=s;simp only[b8i,jn,Mc.mk.injEq]at hb;obtain⟨rfl,rfl, -,rfl⟩:=hb;simp only[met,Bool.and_eq_true]at hf;refine b99 (g7r ha hd hf.1) ?_ hk;cases pc<;>first|rfl|(cases hf.2)
theorem KT(m n:Nat)(hk:Ok P f R (jn (run m s) n (jnV (run m s) n)))(h0:((jnv (run m s) n).map fun p=>(some p.2.2.1,some p.2.2.2))=some (get (run n (br (run m s) true)).env (jnD (run m s) n),get (run n (br (run m s) false)).env (jnD (run m s) n)):=by kernel_rfl)(hb:(b8i (run n (br (run m s) true)),b8i (run n (br (run m s) false)))=(b8i (jn (run m s) n .nil),b8i (jn (run m s) n .nil)):=by kernel_rfl)(hd:((run n (br (run m s) true)).env.drop ((run n (br (run m s) true)).env.length - (run m s).env.length),(run n (br (run m s) false)).env.drop ((run n (br (run m s) false)).env.length - (run m s).env.length))=((run m s).env,(run m s).env):=by kernel_rfl)(hf:(met (run m s) (run n (br (run m s) true)) n&&met (run m s) (run n (br (run m s) false)) n)=true:=by kernel_rfl):Ok P f R s:=by
 refine K9 m ?_;generalize run m s=s0 at*;obtain⟨⟨B,a,x,y⟩,h1,h2⟩:=Option.map_eq_some_iff.1 h0;have hV:jnV s0 n=a:=by unfold jnV;rw[h1];rfl
 rw[hV]at hk
 have hc:cv s0=some (.v (.bool B))/\a=bif B then x else y:=by
  unfold jnv at h1;split at h1
  ·rename_i h _ _;cases h1;exact⟨h,by cases B<;>rfl⟩
  ·rename_i h _ _;cases h1;exact⟨h,by cases B<;>rfl⟩
  ·rename_i h _ _;cases h1;exact⟨h,by cases B<;>rfl⟩
  ·cases h1
 simp only[Prod.mk.injEq]at h2 hb hd;simp only[Bool.and_eq_true]at hf;refine d45 hc.1 (fun hB=>?_) (fun hB=>?_)
 ·have ha:=hc.2;rw[hB]at ha;subst ha;exact K9 n (c8h hk h2.1.symm hb.1 hd.1 hf.1)
 ·have ha:=hc.2;rw[hB]at ha;subst ha;exact K9 n (c8h hk h2.2.symm hb.2 hd.2 hf.2)
theorem KQ(m n:Nat){T:Type}(C:T->AV){B:Bool}{W:T->Prop}{p q:(T->Prop)->Prop}(hw:∃R:T->Prop,(∀z,R z->W z)/\((B=true->p R)/\(B=false->q R)))(hk:∀z,W z->Ok P f R (jn (run m s) n (C z)))(h1:∀U:T->Prop,(∀z,U z->Ok P f R (jn (run m s) n (C z)))->B=true->p U->Ok P f R (br (run m s) true))(h2:∀U:T->Prop,(∀z,U z->Ok P f R (jn (run m s) n (C z)))->B=false->q U->Ok P f R (br (run m s) false))(hv:cv (run m s)=some (.v (.bool B)):=by kernel_rfl):Ok P f R s:=by
 obtain⟨U,hU,h3,h4⟩:=hw;exact K9 m (d45 hv (fun h=>h1 U (fun z hz=>hk z (hU z hz)) h (h3 h)) fun h=>h2 U (fun z hz=>hk z (hU z hz)) h (h4 h))
theorem KE(m:Nat){T:Type}{U:T->Prop}{C:T->AV}{s0:Mc}{n:Nat}{z:T}(key:∀z,U z->Ok P f R (jn s0 n (C z)))(hw:U z)(ha:get (run m s).env (jnD s0 n)=some (C z):=by kernel_rfl)(hb:b8i (run m s)=b8i (jn s0 n (C z)):=by kernel_rfl)(hd:(run m s).env.drop ((run m s).env.length - s0.env.length)=s0.env:=by kernel_rfl)(hf:met s0 (run m s) n=true:=by kernel_rfl):Ok P f R s:=K9 m (c8h (key z hw) ha hb hd hf)
abbrev kB(b:Bool):AV:=.v (.bool b)
def So(I:List Nat)(h:A3):List (Nat × List AV):=I.map fun i=>(i,((h.blks[i]?).bind id).getD [])
def dr0(s:Mc)(S:List (Nat × List AV)):Mc:=match s.pc with
 |.c (.drawn _ a t)=>⟨.s true a S s.h.globs none t,s.k,s.env,s.h⟩
 |_=>s
def o2o(s:Mc):Bool:=match s.pc with
 |.c (.drawn o a _)=>okq a&&c67 (clo o) a
 |_=>false
theorem KD(m:Nat)(I:List Nat)(hk:Ok P f R (dr0 (run m s) (So I (run m s).h)))(hc:o2o (run m s)=true:=by kernel_rfl)(hS:inS (So I (run m s).h) (run m s).h=(So I (run m s).h).map (fun p=>some (some p.2)):=by kernel_rfl):Ok P f R s:=by
 refine K9 m ?_;generalize run m s=s0 at*;obtain⟨pc,k,env,h⟩:=s0;simp only[o2o]at hc;split at hc
 ·rw[Bool.and_eq_true]at hc;exact dS _ hk hc.1 hc.2 hS
 ·cases hc
def chg(s:Mc):AV × A3:=(opn (opS s) s.env s.h).getD (.nil,s.h)
theorem KV(m:Nat)(hk:Ok P f R (d4b (run m s) (chg (run m s)).1 (chg (run m s)).2))(ho:(opn (opS (run m s)) (run m s).env (run m s).h).isSome=true:=by kernel_rfl)(hc:okH (run m s)=true:=by kernel_rfl)(hs:seS (run m s) (chg (run m s)).2=seE (run m s):=by kernel_rfl):Ok P f R s:=by
 obtain⟨p,hp⟩:=Option.isSome_iff_exists.1 ho;have hq:chg (run m s)=p:=by unfold chg;rw[hp];rfl
 rw[hq]at hk hs;exact K9 m (a8q (c8j hp) hk hc hs)
def d7k:A0->List Fr->List (Pc × List Fr)
 |.seq a b,k=>(.c b,k)::(d7k a (.sq b::k)++d7k b k)
 |.cond _ a b,k=>d7k a k++d7k b k
 |.block i a,k=>d7k a (.bk i::k)
 |.loop a,k=>(.l a,k)::d7k a (.lp a::k)
 |.scope a,k=>match b3b a with
  |some l=>(.g l a,k)::d7k a (.sc l a::k)
  |none=>d7k a (.sn::k)
 |_,_=>[]
def pos(P:Program)(f i:Nat):Pc × List Fr:=((d7k (cdC P f) [])[i]?).getD (.n .normal,[])
def J(P:Program)(f:Nat)(R:Rm)(i:Nat)(e:Env)(h:A3):Prop:=Ok P f R ⟨(pos P f i).1,(pos P f i).2,e,h⟩
def atC(s:Mc):Bool:=match s.pc with
 |.c _=>true
 |.l _=>true
 |.g _ _=>true
 |_=>false
theorem c2x(hc:atC s=true)(hg:∀(σ:Sg) (a:Act),St σ s.h s.env (cdN P f) a->∃σ' h' env',σ'.w=σ.w/\Le σ σ'/\St σ' h' env' (cdN P f) a/\Ok P f R ⟨s.pc,s.k,env',h'⟩):Ok P f R s:=by
 obtain⟨pc,k,env,h⟩:=s;cases pc with
 |c x=>exact d31 hg
 |l x=>exact c78 hg
 |g l x=>exact d9b hg
 |_=>cases hc
def e2h(Z:List Nat)(env:Env)(p:Nat × AV):Option AV:=if Z.contains p.1=true then(get env p.1).map nz else get env p.1
theorem d6h{σ:Sg}{h:A3}{env e:Env}{N:Nat}{a:Act}{Z:List Nat}(he:e.map (e2h Z env)=e.map fun p=>some p.2)(hs:St σ h env N a):St σ h e N a:=⟨hs.inv,fun t b ht=>by
 obtain⟨i,hi⟩:=List.mem_iff_getElem?.1 (c6j ht);have h1:=congrArg (fun l=>l[i]?) he;simp only[List.getElem?_map,hi,Option.map_some,Option.some.injEq]at h1;unfold e2h at h1;split at h1
 ·obtain⟨c,h2,rfl⟩:=Option.map_eq_some_iff.1 h1;obtain⟨y,h3,h4⟩:=hs.env t c h2;exact⟨y,h3,h4.nz⟩
 ·exact hs.env t b h1,hs.size,hs.defers⟩
theorem c61{e:Env}(Z:List Nat)(hc:atC s=true)(he:e.map (e2h Z s.env)=e.map fun p=>some p.2)(hk:Ok P f R ⟨s.pc,s.k,e,s.h⟩):Ok P f R s:=c2x hc fun σ a hs=>⟨σ,s.h,e,rfl,Le.refl σ,d6h he hs,hk⟩
theorem KJ(m:Nat)(Z:List Nat){i:Nat}{e:Env}{h:A3}(hw:J P f R i e h)(hp:((run m s).pc,(run m s).k,(run m s).h)=((pos P f i).1,(pos P f i).2,h):=by kernel_rfl)(hc:atC (run m s)=true:=by kernel_rfl)(he:e.map (e2h Z (run m s).env)=e.map (fun p=>some p.2):=by kernel_rfl):Ok P f R s:=by
 simp only[Prod.mk.injEq]at hp;refine K9 m (c61 Z hc he ?_);rw[hp.1,hp.2.1,hp.2.2];exact hw
def b9y(h:A3):List Bool:=h.blks.map Option.isSome
theorem KJl(m:Nat)(Z:List Nat){i:Nat}{e:Env}{h:A3}(hw:J P f R i e h)(hlow:a55 (b9y h) h.bufs.length e=true/\a37 (b9y h) h.bufs.length h.blks=true)(hp:((run m s).pc,(run m s).k,X5 (b9y h) (run m s).h.blks,(run m s).h.bufs.take h.bufs.length,(run m s).h.globs)=((pos P f i).1,(pos P f i).2,h.blks,h.bufs,h.globs):=by kernel_rfl)(hc:atC (run m s)=true:=by kernel_rfl)(he:e.map (e2h Z (run m s).env)=e.map (fun p=>some p.2):=by kernel_rfl)(hm:((List.range R.kb).all (fun k=>(b9y h).getD k false)&&Nat.ble R.kf h.bufs.length&&J8 h.globs)=true:=by kernel_rfl):Ok P f R s:=by
 simp only[Prod.mk.injEq]at hp;simp only[Bool.and_eq_true,List.all_eq_true,List.mem_range]at hm;refine K9 m (c61 Z hc he ?_);generalize run m s=s0 at*;obtain⟨pc,k,env,h0⟩:=s0;obtain⟨h1,h2,h3,h4,h5⟩:=hp;simp only at h1 h2 h3 h4 h5
 have hw':Ok P f R ⟨pc,k,e,⟨X5 (b9y h) h0.blks,h0.bufs.take h.bufs.length,h0.globs⟩⟩:=by
  rw[h3,h4,h5,h1,h2];exact hw
 have hl2:a37 (b9y h) h.bufs.length (X5 (b9y h) h0.blks)=true:=by rw[h3];exact hlow.2
 have hg:J8 h0.globs=true:=by rw[h5];exact hm.2
 cases pc with
 |c x=>exact k8k _ _ hm.1.1 (Nat.le_of_ble_eq_true hm.1.2) hlow.1 hl2 hg hw'
 |l x=>exact f9f _ _ hm.1.1 (Nat.le_of_ble_eq_true hm.1.2) hlow.1 hl2 hg hw'
 |g l x=>exact f09 _ _ hm.1.1 (Nat.le_of_ble_eq_true hm.1.2) hlow.1 hl2 hg hw'
 |_=>cases hc
theorem KO(m t sz:Nat)(hk:Ok P f R ⟨(run m s).pc,(run m s).k,(t,.sl [] (.own (run m s).h.bufs.length))::(run m s).env,⟨(run m s).h.blks,(run m s).h.bufs++[(0,sz)],(run m s).h.globs⟩⟩)(hc:atC (run m s)=true:=by kernel_rfl)(hg:get (run m s).env t=some .nil:=by kernel_rfl):Ok P f R s:=K9 m (c2x hc fun σ a hs=>by
 obtain⟨σ',h1,h2,h3⟩:=i5f sz hg hs;exact⟨σ',_,_,h1,h2,h3,hk⟩)
def c59(s:Mc)(i:Nat):List AV:=((s.h.blks[i]?).bind id).getD []
theorem KOb(m i j sz:Nat)(hk:Ok P f R ⟨(run m s).pc,(run m s).k,(run m s).env,⟨(run m s).h.blks.set i (some ((c59 (run m s) i).set j (.sl [] (.own (run m s).h.bufs.length)))),(run m s).h.bufs++[(0,sz)],(run m s).h.globs⟩⟩)(hc:atC (run m s)=true:=by kernel_rfl)(hg:(run m s).h.blks[i]? =some (some (c59 (run m s) i)):=by kernel_rfl)(hj:(c59 (run m s) i)[j]? =some .nil:=by kernel_rfl):Ok P f R s:=K9 m (c2x hc fun σ a hs=>by
 obtain⟨σ',h1,h2,h3⟩:=d4y sz hg hj hs;exact⟨σ',_,_,h1,h2,h3,hk⟩)
def done(s:Mc):Bool:=match s.pc,s.k with
 |.n .ret,[]=>true
 |.n .normal,[]=>true
 |_,_=>false
theorem d51(hd:done s=true)(hk:R.Q (cdR P f) .ret s.env s.h):Ok P f R s:=by
 obtain⟨pc,k,env,h⟩:=s;simp only[done]at hd;split at hd
 ·exact hk
 ·cases R<;>exact hk
 ·cases hd
theorem KR(m:Nat){T:Type}{e:T->AV}{r r0:T}(hw:r=r0)(hp:∀r,plain (e r)=true)(hd:done (run m s)=true:=by kernel_rfl)(he:(b8o (run m s).env (run m s).h (cdR P f)).map (fun l=>nz (c36 l))=some (e r0):=by kernel_rfl):Ok P f (.ret (e r)) s:=K9 m (d51 hd (rx hw (hp r0) he))
theorem KRi(m:Nat){T:Type}{k:Nat}{e:T->AV}{fc:T->List AV}{fb:T->List (Nat × Nat)}{r r0:T}(hw:r=r0)(hp:∀r,plain (e r)=true/\(fc r).all ok1=true/\lowL [true] k (fc r)=true/\(fb r).length=k)(hd:done (run m s)=true:=by kernel_rfl)(he:(b8o (run m s).env (run m s).h (cdR P f)).map (fun l=>nz (c36 l))=some (e r0):=by kernel_rfl)(hb:(run m s).h.blks[0]? =some (some (c59 (run m s) 0)):=by kernel_rfl)(hit:a4j (c59 (run m s) 0)=true:=by kernel_rfl)(hc:(c59 (run m s) 0).map (M1 0 (some 0))=fc r0:=by kernel_rfl)(hf:(run m s).h.bufs.take k=fb r0:=by kernel_rfl)(hg:(run m s).h.globs=[]:=by kernel_rfl):Ok P f (.io k (e r) (fc r) (fb r)) s:=K9 m (d51 hd (rio hw ⟨(hp r0).1,(hp r0).2.1,(hp r0).2.2.1⟩ _ he hb hit hc hf hg))
theorem c8d(h:(B0 P f).isSome=true):B0 P f=some (cdN P f,cdC P f,cdR P f):=by
 unfold cdN cdC cdR;cases hg:B0 P f with
 |none=>rw[hg]at h;cases h
 |some p=>rfl
def s0(P:Program)(f:Nat)(args:List AV)(h:A3):Mc:=⟨.c (cdC P f),[],b0a 0 args,h⟩
theorem fP{gl:List (Nat × List AV)}{args:List AV}{r:AV}(hk:Ok P f (.ret r) (s0 P f args ⟨[],[],gl⟩))(hf:((B0 P f).isSome&&Nat.ble args.length (cdN P f))=true:=by kernel_rfl):C5 P gl f args r:=by
 rw[Bool.and_eq_true]at hf;exact g3t (c8d hf.1) (Nat.le_of_ble_eq_true hf.2) rfl hk
theorem fIO{k:Nat}{args c:List AV}{bf:List (Nat × Nat)}{r:AV}{c':List AV}{bf':List (Nat × Nat)}(hk:Ok P f (.io k r c' bf') (s0 P f args ⟨[some c],bf,[]⟩))(hb:bf.length=k:=by kernel_rfl)(hf:((B0 P f).isSome&&Nat.ble args.length (cdN P f))=true:=by kernel_rfl):c01 P [] f args c bf r c' bf':=by
 rw[Bool.and_eq_true]at hf;exact o5l (c8d hf.1) k hb (Nat.le_of_ble_eq_true hf.2) rfl hk
theorem c3e{s:Mc}{h:A3}(hs:seE s=none):seS s h=none:=by
 obtain⟨pc,k,env,h⟩:=s;cases pc with
 |s b L S gl w tl=>cases L<;>first|rfl|cases hs
 |_=>rfl
theorem KX(m:Nat){t:ByteArray}{p:Nat}{A B:Prop}(hw:(p<t.size->A)/\(¬p<t.size->B))(h1:p<t.size->A->Ok P f R (d4b (run m s) (.tuple [.v (.bool true),.v (.int .i64 p),.v (.int .i32 (Utf8.decode t p).1)]) ⟨(run m s).h.blks.set (d2o (xv (run m s))) (some [.it t (p+(Utf8.decode t p).2)]),(run m s).h.bufs,(run m s).h.globs⟩))(h2:¬p<t.size->B->Ok P f R (d4b (run m s) (.tuple [.v (.bool false)]) (run m s).h))(hc:okH (run m s)=true:=by kernel_rfl)(ho:op (run m s)=.next (oX (op (run m s))):=by kernel_rfl)(hx:xv (run m s)=some (.ptr (d2o (xv (run m s))) 0):=by kernel_rfl)(hb:(run m s).h.blks[d2o (xv (run m s))]? =some (some [.it t p]):=by kernel_rfl)(hs:seE (run m s)=none:=by kernel_rfl):Ok P f R s:=by
 have hsn:∀h',seS (run m s) h'=seE (run m s):=fun h'=>by rw[hs];exact c3e hs
 rcases Nat.lt_or_ge p t.size with hp|hp
 ·refine K9 m (a8q (fun K hk=>?_) (h1 hp (hw.1 hp)) hc (hsn _));rw[ho];simp only[aop];change wv (xv _) _;rw[hx];simp only[wv,c1w,hb];exact⟨fun _=>hk,fun hn=>(hn hp).elim⟩
 ·refine K9 m (a8q (fun K hk=>?_) (h2 (Nat.not_lt.2 hp) (hw.2 (Nat.not_lt.2 hp))) hc (hsn _));rw[ho];simp only[aop];change wv (xv _) _;rw[hx];simp only[wv,c1w,hb];exact⟨fun hn=>(Nat.not_lt.2 hp hn).elim,fun _=>hk⟩
end
abbrev JP(P:Program)(f:Nat)(r:AV)(i:Nat)(e:Env):Prop:=J P f (.ret r) i e ⟨[],[],[]⟩
section
variable {P:Program}{f:Nat}{R:Rm}{s:Mc}{α:Type}{W:α->Prop}{p:Prop}
def ioN(s:Mc):Nat:=match evs s.env (oA (op s)) with
 |some (.ptr n _::_)=>n
 |some (.row n _ _ _ _::_)=>n
 |_=>0
def ioA(s:Mc):List AV:=(evs s.env (oA (op s))).getD []
theorem o1g{l:List (Nat × Nat)}(h:l.length=1):∃x,l=[x]:=by
 match l,h with
 |[x],_=>exact⟨x,rfl⟩
theorem KI1(m:Nat){g:FuncId}{gl:List (Nat × List AV)}{small c:List AV}{bf:List (Nat × Nat)}{e:α->AV}{c':α->List AV}{bf':α->List (Nat × Nat)}(hw:∃y,c01 P gl g small c bf (e y) (c' y) (bf' y)/\W y)(hp:∀{y:α},c.all ok1=true/\(c' y).all ok1=true/\small.all okA=true/\plain (e y)=true)(hk:∀y,W y->Ok P f R (d4b (run m s) (e y) ⟨(run m s).h.blks.set (ioN (run m s)) (some ((c' y).map (c1l (ioN (run m s)) (some 0)))),bf' y,(run m s).h.globs⟩))(hc:okH (run m s)=true:=by kernel_rfl)(ho:op (run m s)=.call (.c (.clo (.func g) [] [])) (oA (op (run m s))):=by kernel_rfl)(hb:(bf.length,fun y=>(bf' y).length)=(1,fun _=>1):=by kernel_rfl)(hb2:(run m s).h.bufs=bf:=by kernel_rfl)(ha:evs (run m s).env (oA (op (run m s)))=some (ioA (run m s)):=by kernel_rfl)(hn:(run m s).h.blks[ioN (run m s)]? =some (some (c59 (run m s) (ioN (run m s)))):=by kernel_rfl)(hit:a4j (c59 (run m s) (ioN (run m s)))=true:=by kernel_rfl)(hit':(fun y=>a4j (c' y))=(fun _=>true):=by kernel_rfl)(hcc:(c59 (run m s) (ioN (run m s))).map (M1 (ioN (run m s)) (some 0))=c:=by kernel_rfl)(hargs:(ioA (run m s)).map (smol (ioN (run m s)) (some 0))=small:=by kernel_rfl)(hg:(run m s).h.globs=gl:=by kernel_rfl)(hgl:J8 gl=true:=by kernel_rfl)(hs:seE (run m s)=none:=by kernel_rfl):Ok P f R s:=by
 obtain⟨y,h1,hw⟩:=hw;subst hg;simp only[Prod.mk.injEq]at hb;obtain⟨x,hx⟩:=o1g hb.1;obtain⟨x',hx'⟩:=o1g (congrFun hb.2 y);refine K9 m (a8q ?_ (hk y hw) hc (by rw[hs];exact c3e hs));rw[ho];exact o60 _ (some 0) _ _ _ h1 hp (.inr ⟨x,x',rfl,hx,hx',hb2.trans hx,hx'⟩) ha hn hit (congrFun hit' y) hcc hargs rfl hgl
theorem KIN(m j sz:Nat){g:FuncId}{gl:List (Nat × List AV)}{small c:List AV}{bf:List (Nat × Nat)}{e:α->AV}{c':α->List AV}{bf':α->List (Nat × Nat)}(hw:∃y,c01 P gl g small c bf (e y) (c' y) (bf' y)/\W y)(hp:∀{y:α},c.all ok1=true/\(c' y).all ok1=true/\small.all okA=true/\plain (e y)=true)(hk:∀y,W y->Ok P f R (d4b (run m s) (e y) ⟨(run m s).h.blks.set (ioN (run m s)) (some ((c' y).map (c1l (ioN (run m s)) (some 0)))),bf' y,(run m s).h.globs⟩))(hc:okH (run m s)=true:=by kernel_rfl)(ho:op (run m s)=.call (.c (.clo (.func g) [] [])) (oA (op (run m s))):=by kernel_rfl)(hb:(bf,fun y=>(bf' y).length)=([(0,sz)],fun _=>1):=by kernel_rfl)(hb2:(run m s).h.bufs=[]:=by kernel_rfl)(ha:evs (run m s).env (oA (op (run m s)))=some (ioA (run m s)):=by kernel_rfl)(hn:(run m s).h.blks[ioN (run m s)]? =some (some (c59 (run m s) (ioN (run m s)))):=by kernel_rfl)(hj:(c59 (run m s) (ioN (run m s)))[j]? =some .nil:=by kernel_rfl)(hit:a4j ((c59 (run m s) (ioN (run m s))).set j (.sl [] (.own 0)))=true:=by kernel_rfl)(hit':(fun y=>a4j (c' y))=(fun _=>true):=by kernel_rfl)(hcc:((c59 (run m s) (ioN (run m s))).set j (.sl [] (.own 0))).map (M1 (ioN (run m s)) (some 0))=c:=by kernel_rfl)(hargs:(ioA (run m s)).map (smol (ioN (run m s)) (some 0))=small:=by kernel_rfl)(hg:(run m s).h.globs=gl:=by kernel_rfl)(hgl:J8 gl=true:=by kernel_rfl)(hs:seE (run m s)=none:=by kernel_rfl):Ok P f R s:=by
 obtain⟨y,h1,hw⟩:=hw;subst hg;simp only[Prod.mk.injEq]at hb;obtain⟨x',hx'⟩:=o1g (congrFun hb.2 y);refine K9 m (a8q ?_ (hk y hw) hc (by rw[hs];exact c3e hs));rw[ho,hx'];exact m7p _ j sz _ _ _ h1 hp ⟨hb.1,hx'⟩ ha hn hj hb2 hit (congrFun hit' y) hcc hargs rfl hgl
theorem KT2(m n:Nat)(B:Bool)(C:Bool->AV)(h1:B=true->Ok P f R (jn (run m s) n (C true))->Ok P f R (br (run m s) true))(h2:B=false->Ok P f R (jn (run m s) n (C false))->Ok P f R (br (run m s) false))(hk:Ok P f R (jn (run m s) n (C B)))(hv:cv (run m s)=some (.v (.bool B)):=by kernel_rfl):Ok P f R s:=K9 m (d45 hv (fun h=>h1 h (by rw[h]at hk;exact hk)) fun h=>h2 h (by rw[h]at hk;exact hk))
theorem KE2(m:Nat){a:AV}{s0:Mc}{n:Nat}(key:Ok P f R (jn s0 n a))(ha:get (run m s).env (jnD s0 n)=some a:=by kernel_rfl)(hb:b8i (run m s)=b8i (jn s0 n a):=by kernel_rfl)(hd:(run m s).env.drop ((run m s).env.length - s0.env.length)=s0.env:=by kernel_rfl)(hf:met s0 (run m s) n=true:=by kernel_rfl):Ok P f R s:=K9 m (c8h key ha hb hd hf)
def n1k(s:Mc):Bool:=match s.pc with
 |.c _=>true
 |_=>false
def cut(e:Env)(env:Env):Env:=e.map fun p=>(p.1,(get env p.1).getD .nil)
theorem e6e{e:Env}(hc:n1k s=true)(he:(cut e s.env).map (e2h [] s.env)=(cut e s.env).map fun p=>some p.2)(hk:∀x,s.pc=.c x->D P (cdN P f) R.kb R.kf x (Qs P f R s.k) (cut e s.env) s.h):Ok P f R s:=by
 refine c61 [] ?_ he ?_
 ·obtain⟨pc,k,env,h⟩:=s;cases pc<;>first|rfl|cases hc
 ·obtain⟨pc,k,env,h⟩:=s;cases pc<;>first|exact hk _ rfl|cases hc
theorem KFz(m n:Nat)(mk:List Bool)(k:Nat)(e:Env)(bs:List (Option (List AV)))(hl:a55 mk k e=true/\a37 mk k bs=true)(hk:Ok P f R ⟨(run m s).pc,(run m s).k,e,⟨bs,(run m s).h.bufs.take k,(run m s).h.globs⟩⟩)(hc:n1k (run m s)=true:=by kernel_rfl)(he:(cut e (run m s).env).map (e2h [] (run m s).env)=(cut e (run m s).env).map (fun p=>some p.2):=by kernel_rfl)(hb:(run m s).h.blks[n]? =some (some (c59 (run m s) n)):=by kernel_rfl)(h1:(a4j (c59 (run m s) n)&& !mk.getD n false&&c3b mk (run m s).h.blks&&(List.range R.kb).all (fun k=>mk.getD k false)&&Nat.ble R.kf k&&J8 (run m s).h.globs)=true:=by kernel_rfl)(hE:fzE n (c59 (run m s) n) (cut e (run m s).env)=e:=by kernel_rfl)(hbs:X5 mk (run m s).h.blks=bs:=by kernel_rfl):Ok P f R s:=by
 simp only[Bool.and_eq_true,List.all_eq_true,List.mem_range,Bool.not_eq_true']at h1;obtain⟨⟨⟨⟨⟨a1,a2⟩,a3⟩,a4⟩,a5⟩,a6⟩:=h1;refine K9 m (e6e hc he fun x hx=>?_);rw[hx]at hk;subst hbs;exact e0h n mk k _ hb a1 a2 a3 a4 (Nat.le_of_ble_eq_true a5) hE hl.1 hl.2 a6 hk
theorem KDf(m:Nat)(E:En α)(n:Nat)(mk:List Bool)(k c:Nat)(e:Env)(bs:List (Option (List AV)))(hl:a55 mk k e=true/\a37 mk k bs=true){l:List α}{len:Nat}(hw:l.length=len/\p)(hk:p->Ok P f R ⟨(run m s).pc,(run m s).k,e,⟨bs,(run m s).h.bufs.take k,(run m s).h.globs⟩⟩)(hc:n1k (run m s)=true:=by kernel_rfl)(he:(cut e (run m s).env).map (e2h [] (run m s).env)=(cut e (run m s).env).map (fun p=>some p.2):=by kernel_rfl)(hb:(run m s).h.blks[n]? =some (some (cellsOf E.f l)):=by kernel_rfl)(h1:(Nat.ble 1 E.sz&& !mk.getD n false&&c3b mk (run m s).h.blks&&(List.range R.kb).all (fun k=>mk.getD k false)&&Nat.ble R.kf k&&J8 (run m s).h.globs)=true:=by kernel_rfl)(hr:b2x n (cut e (run m s).env)=List.replicate c (0,E.sz,len):=by kernel_rfl)(hE:h4a n (List.map E.f l) (cut e (run m s).env)=e:=by kernel_rfl)(hbs:X5 mk (run m s).h.blks=bs:=by kernel_rfl):Ok P f R s:=by
 simp only[Bool.and_eq_true,List.all_eq_true,List.mem_range,Bool.not_eq_true']at h1;obtain⟨⟨⟨⟨⟨a1,a2⟩,a3⟩,a4⟩,a5⟩,a6⟩:=h1;refine K9 m (e6e hc he fun x hx=>?_);have hk:=hk hw.2;rw[hx]at hk;exact drf n mk k c l len e bs E.ro.hs E.ro.hn hw.1 hl hk hb a1 hr a2 a3 a4 a5 hE hbs a6
end
theorem c6x{α:Type}{e:α->List AV}{sz:Nat}(hs:∀y,(e y).length=sz)(hn:∀y,a4j (e y)=true)(l:List α){h:A3}{n:Nat}(hb:h.blks[n]? =some (some (cellsOf e l))):c0y h n 0 sz l.length=some (l.map e):=by
 unfold c0y
 by_cases h0:l.length=0
 ·rw[if_pos h0,List.eq_nil_of_length_eq_zero h0];rfl
 ·rw[if_neg h0,hb];have h1:l≠[]:=fun h=>h0 (by rw[h];rfl)
  simp only[];rw[if_pos ⟨a90 hn h1,by rw[a7c hs];omega⟩]
  congr 1
  unfold b6r;rw[List.drop_zero,List.take_of_length_le (by rw[a7c hs];exact Nat.le_refl _)];apply List.ext_getElem
  ·simp
  ·intro i hi hj;simp only[List.getElem_map,List.getElem_range];exact b53 hs (List.getElem?_eq_getElem (by simpa using hj))
theorem d2w{a:AV}(h:plain a=true):wk1 a=a:=by
 cases a with
 |sl els tok=>cases tok with
  |own id=>simp[plain]at h
  |_=>rfl
 |_=>rfl
def c1r:List AV->List (Nat × Nat × Nat × Nat)
 |[]=>[]
 |.row n o sz len _::r=>(n,o,sz,len)::c1r r
 |_::r=>c1r r
theorem c1d{n o sz len c:Nat}:∀{l:List AV},.row n o sz len c∈l->(n,o,sz,len)∈c1r l
 |a::l,h=>by
  rcases List.mem_cons.1 h with rfl|h
  ·simp[c1r]
  ·have:=c1d h;cases a<;>simp[c1r,this]
def thr(els:List (List AV)):AV->AV
 |.row _ _ _ _ _=>.sl els .no
 |a=>a
theorem c3h{h:A3}:∀{l:List AV},plainL l=true->(l.map fun c=>N0 0 h (wk1 c))=l
 |[],_=>rfl
 |a::l,hp=>by
  simp only[plainL,Bool.and_eq_true]at hp;rw[List.map_cons,c3h hp.2];show wk1 a::l=_;rw[d2w hp.1]
theorem b66{h:A3}:∀{l:List (List AV)},plainLL l=true->(l.map fun el=>el.map fun c=>N0 0 h (wk1 c))=l
 |[],_=>rfl
 |a::l,hp=>by
  simp only[plainLL,Bool.and_eq_true]at hp;rw[List.map_cons,b66 hp.2,c3h hp.1]
theorem d07{h:A3}{a:AV}(hp:plain a=true)(ht:∀vs,a≠.tuple vs):N0 1 h (wk a)=a:=by
 cases a with
 |sl els tok=>cases tok with
  |own id=>simp[plain]at hp
  |no=>simp[plain]at hp;show AV.sl (els.map fun el=>el.map fun c=>N0 0 h (wk1 c)) .no=_;rw[b66 hp]
  |full=>simp[plain]at hp;show AV.sl (els.map fun el=>el.map fun c=>N0 0 h (wk1 c)) .full=_;rw[b66 hp]
 |agg cs=>simp only[plain]at hp;show AV.agg ((cs.map wk1).map fun c=>N0 0 h (wk1 c))=_;rw[show cs.map wk1=cs from c3h (h:=h) hp,c3h hp]
 |tuple vs=>exact absurd rfl (ht vs)
 |row=>simp[plain]at hp
 |_=>rfl
theorem d96{h:A3}{n o sz len c:Nat}{els:List (List AV)}(hr:c0y h n o sz len=some els):N0 1 h (wk (.row n o sz len c))=.sl (els.map fun(el:List AV)=>el.map fun c=>N0 0 h (wk1 c)) .no:=by
 show N0 1 h (.row n o sz len c)=_;simp only[N0,hr]
def d26:List AV->Bool
 |[]=>true
 |.tuple _::_=>false
 |_::r=>d26 r
theorem c4n{vs:List AV}:∀{l:List AV},d26 l=true->.tuple vs ∉ l
 |[],_=>by simp
 |a::l,h=>by
  intro hm;rcases List.mem_cons.1 hm with rfl|hm
  ·simp[d26]at h
  ·refine c4n (l:=l) ?_ hm;cases a<;>simp_all [d26]
theorem KCr{α β:Type}{P:Program}{f:Nat}{R:Rm}{s:Mc}{W:β->Prop}(m:Nat)(E:En α)(n:Nat){g:FuncId}{gl:List (Nat × List AV)}{args:List AV}{l:List α}{len:Nat}{e:β->AV}(x:β->Value)
  (hw:l.length=len/\∃y,C5 P gl g args (e y)/\W y) (hp:plainL args=true) (hk:∀y,W y->Ok P f R (put (run m s) (e y))) (hx:∀y,e y=.v (x y))
  (hc:okS (run m s)=true:=by kernel_rfl) (ho:op (run m s)=.call (.c (.clo (.func g) [] [])) (oA (op (run m s))):=by kernel_rfl)
  (ha:(evs (run m s).env (oA (op (run m s)))).map (List.map (thr (l.map E.f)))=some args:=by kernel_rfl)
  (hq:(evs (run m s).env (oA (op (run m s)))).map (fun a=>(c1r a,d26 a))=some ([(n,0,E.sz,len)],true):=by kernel_rfl)
  (hr:l9u (run m s) n=some (cellsOf E.f l):=by kernel_rfl)
  (hg:d5d (run m s)=gl:=by kernel_rfl) (hgl:J8 gl=true:=by kernel_rfl):Ok P f R s:=by
 obtain⟨hl,y,h1,hw⟩:=hw;subst hg hl;refine K9 m (c4q (fun h hs=>?_) (hk y hw) hc);rw[ho];rw[<-b9m hs]at h1 hgl;obtain⟨args',e1,e2⟩:=Option.map_eq_some_iff.1 ha;rw[e1]at hq;simp only[Option.map_some,Option.some.injEq,Prod.mk.injEq]at hq;refine fun K hK=>(c8w rfl e1 (b9f 1 h1 hgl ?_ hp (fun av hav=>?_) fun av hav=>?_)).out
 ·rw[<-e2];refine List.map_congr_left fun a hm=>?_
  by_cases hrow:∃n' o sz len c,a=.row n' o sz len c
  ·obtain⟨n',o,sz,len,c,rfl⟩:=hrow;have:=c1d hm;rw[hq.1]at this;simp only[List.mem_singleton,Prod.mk.injEq]at this;obtain⟨rfl,rfl,rfl,rfl⟩:=this;rw[d96 (c6x E.ro.hs E.ro.hn l (c8t hs hr))];show AV.sl ((l.map E.f).map fun(el:List AV)=>el.map fun c=>N0 0 h (wk1 c)) .no=AV.sl (l.map E.f) .no;rw[b66]
   have:plain (thr (l.map E.f) (.row n' 0 E.sz l.length c))=true:=by
    rw[<-e2]at hp;exact S4 hp (List.mem_iff_getElem?.1 hm).choose_spec
   simpa[thr,plain]using this
  ·have e3:thr (l.map E.f) a=a:=by
    cases a<;>first|rfl|exact absurd ⟨_,_,_,_,_,rfl⟩ hrow
   have:plain (thr (l.map E.f) a)=true:=by
    rw[<-e2]at hp;exact S4 hp (List.mem_iff_getElem?.1 hm).choose_spec
   rw[e3]at this ⊢;exact d07 this fun vs hvs=>c4n hq.2 (hvs▸hm)
 ·rw[hx]at hav;cases av with
  |v z=>rfl
  |_=>simp[nz,nz1,nzA]at hav
 ·rw[hx]at hav;cases av with
  |v z=>rw[show nz (.v z)=.v z from rfl]at hav;rw[hx]at hK;rw[hav];exact hK
  |_=>simp[nz,nz1,nzA]at hav
section
open Go.RowKit Go.ChangeShapes Go.WideShapes Go.ChangeAt
theorem b64{α:Type}{P:Nat->α->Prop}:∀n:Nat,(∀i,i<n->∃x,P i x)->∃xs:List α,xs.length=n/\∀(i:Nat) x,xs[i]? =some x->P i x
 |0,_=>⟨[],rfl,fun i x h=>by simp at h⟩
 |n+1,h=>by
  obtain⟨xs,hl,hx⟩:=b64 n (fun i hi=>h i (by omega));obtain⟨y,hy⟩:=h n (by omega);refine⟨xs++[y],by simp[hl],fun i x hi=>?_⟩
  by_cases hin:i<n
  ·rw[List.getElem?_append_left (by omega)]at hi;exact hx i x hi
  ·rw[List.getElem?_append_right (by omega)]at hi
   by_cases e:i=n
   ·subst e;rw[hl]at hi;simp at hi;subst hi;exact hy
   ·rw[List.getElem?_eq_none (by simp;omega)]at hi;cases hi
def Ty(P:Program):Nat->TypeId->List AV->Prop
 |0,_,_=>False
 |n+1,t,avs=>match P.underlying t with
  |some (.int k)=>∃m,avs=[.v (.int k m)]/\(Lit.int k m).wf=true
  |some .bool=>∃b,avs=[.v (.bool b)]
  |some .string=>∃s,avs=[.v (.string s)]/\s.size<=140737488351232
  |some (.slice e)=>∃els:List (List AV),avs=[.sl els .no]/\els.length*P.bytesOf e<=140737488351232/\∀el∈els,Ty P n e el
  |some (.struct fs)=>∃parts:List (List AV),avs=parts.flatten/\parts.length=fs.size/\∀(i:Nat) (f:Field),fs[i]? =some f->∃p,parts[i]? =some p/\Ty P n f.type p
  |some (.array k e)=>∃parts:List (List AV),avs=parts.flatten/\parts.length=k/\∀p∈parts,Ty P n e p
  |_=>False
def c4m(P:Program):Nat->List Field->Nat->Bool
 |off,[],tot=>off==tot
 |off,f::fs,tot=>f.offset==off&&c4m P (off+P.cellsOf f.type) fs tot
def okT(P:Program)(ts:List TypeId)(t:TypeId):Bool:=
 match P.underlying t with
 |some (.int _)|some .bool|some .string=>true
 |some (.slice e)=>ts.contains e&&decide (0<P.cellsOf e)&&decide (1<=P.bytesOf e)
 |some (.struct fs)=>fs.toList.all (fun f=>ts.contains f.type)&&c4m P 0 fs.toList (P.cellsOf t)
 |some (.array k e)=>ts.contains e&&decide (k*P.cellsOf e=P.cellsOf t)
 |_=>false
def c6t(P:Program)(ts:List TypeId):Bool:=ts.all (okT P ts)
def a2x:Nat->Nat->Prop:=fun _ _=>False
section
variable {H:Type}{enc:TypeId × Value->H}{P:Program}{W:World}{base:Nat}{spare:Nat->Bool}{held:Bool}
def Q4(P:Program)(t:TypeId)(d:DataW H):Prop:=∀x∈DataW.weights P t d,x<=140737488351232
theorem a7v:∀(ts:List TypeId) (ds:List (DataW H)) (i:Nat) (t:TypeId) (d:DataW H),ts[i]? =some t->ds[i]? =some d->∀x∈DataW.weights P t d,x∈DataW.weightsEach P ts ds
 |[],_,i,_,_,h,_,_,_=>by simp at h
 |_::_,[],i,_,_,_,h,_,_=>by simp at h
 |t'::ts,d'::ds,0,t,d,h1,h2,x,hx=>by
  simp at h1 h2;subst h1;subst h2;simp only[DataW.weightsEach,List.mem_append];exact .inl hx
 |t'::ts,d'::ds,i+1,t,d,h1,h2,x,hx=>by
  simp only[DataW.weightsEach,List.mem_append];exact .inr (a7v ts ds i t d (by simpa using h1) (by simpa using h2) x hx)
theorem a4y(e:TypeId):∀(ds:List (DataW H)) (i:Nat) (d:DataW H),ds[i]? =some d->∀x∈DataW.weights P e d,x∈DataW.weightsAll P e ds
 |[],i,_,h,_,_=>by simp at h
 |d'::ds,0,d,h2,x,hx=>by
  simp at h2;subst h2;simp only[DataW.weightsAll,List.mem_append];exact .inl hx
 |d'::ds,i+1,d,h2,x,hx=>by
  simp only[DataW.weightsAll,List.mem_append];exact .inr (a4y e ds i d (by simpa using h2) x hx)
theorem Q4.part{t:TypeId}{fs:Array Field}{ps:List (DataW H)}(ht:P.underlying t=some (.struct fs))(h:Q4 P t (.agg ps)){i:Nat}{f:Field}{d:DataW H}(hf:fs[i]? =some f)(hd:ps[i]? =some d):Q4 P f.type d:=by
 intro x hx;refine h x ?_;simp only[DataW.weights,ht];exact a7v _ _ i f.type d (by simp[hf]) hd x hx
theorem Q4.elem{t e:TypeId}{es sp:List (DataW H)}(ht:P.underlying t=some (.slice e))(h:Q4 P t (.slice es sp)){i:Nat}{d:DataW H}(hd:es[i]? =some d):Q4 P e d:=by
 intro x hx;refine h x ?_;simp only[DataW.weights,ht,List.mem_cons,List.mem_append];exact .inr (.inl (a4y e es i d hd x hx))
theorem Q4.short{t e:TypeId}{es sp:List (DataW H)}(ht:P.underlying t=some (.slice e))(h:Q4 P t (.slice es sp)):es.length*P.bytesOf e<=140737488351232:=by
 have:=h ((es.length+sp.length)*P.bytesOf e) (by simp only[DataW.weights,ht,List.mem_cons,true_or]);rw[Nat.add_mul]at this;omega
theorem Q4.at_{t e:TypeId}{k:Nat}{ps:List (DataW H)}(ht:P.underlying t=some (.array k e))(h:Q4 P t (.agg ps)){i:Nat}{d:DataW H}(hd:ps[i]? =some d):Q4 P e d:=by
 intro x hx;refine h x ?_;simp only[DataW.weights,ht];exact a4y e ps i d hd x hx
theorem b55(σ:Sg):∀(fs:List Field) (off tot:Nat) (cs:List Value) (parts:List (List AV)),c4m P off fs tot=true->cs.length=tot->parts.length=fs.length->
  (∀(i:Nat) (f:Field) (p:List AV),fs[i]? =some f->parts[i]? =some p->D4 σ p ((cs.drop f.offset).take (P.cellsOf f.type)))->D4 σ parts.flatten (cs.drop off)
 |[],off,tot,cs,parts,hc,hl,hp,_=>by
  simp only[c4m,beq_iff_eq]at hc;have:parts=[]:=List.eq_nil_of_length_eq_zero (by simpa using hp);subst this;rw[List.drop_of_length_le (by omega)];exact D4.nil σ
 |f::fs,off,tot,cs,[],hc,hl,hp,_=>by simp at hp
 |f::fs,off,tot,cs,p::parts,hc,hl,hp,h=>by
  simp only[c4m,Bool.and_eq_true,beq_iff_eq]at hc;obtain⟨h1,h2⟩:=hc;have h3:=h 0 f p rfl rfl;have h4:=b55 σ fs (off+P.cellsOf f.type) tot cs parts h2 hl (by simpa using hp) (fun i g q hg hq=>h (i+1) g q (by simpa using hg) (by simpa using hq));have:=h3.append h4;rw[h1,<-List.drop_drop,List.take_append_drop]at this;simpa using this
theorem c11(σ:Sg)(k:Nat):∀(parts:List (List AV)) (cs:List Value),cs.length=parts.length*k->
  (∀(i:Nat) (p:List AV),parts[i]? =some p->D4 σ p ((cs.drop (i*k)).take k))->D4 σ parts.flatten cs
 |[],cs,hl,_=>by
  have:cs=[]:=List.eq_nil_of_length_eq_zero (by simpa using hl);subst this;exact D4.nil σ
 |p::parts,cs,hl,h=>by
  have h3:=h 0 p rfl;rw[List.length_cons,Nat.add_mul]at hl
  have h4:=c11 σ k parts (cs.drop k) (by simp;omega) (fun i q hq=>by
   have:=h (i+1) q (by simpa using hq);rw[List.drop_drop,show k+i*k=(i+1)*k by rw[Nat.add_mul];omega];exact this)
  have:=h3.append h4;simp only[Nat.zero_mul,List.drop_zero,List.take_append_drop]at this;simpa using this
theorem a3x{a b:List AV}:plainL (a++b)=(plainL a&&plainL b):=by
 induction a with
 |nil=>simp[plainL]
 |cons x a ih=>simp[plainL,ih,Bool.and_assoc]
theorem a5x:∀{l:List (List AV)},(∀p∈l,plainL p=true)->plainL l.flatten=true
 |[],_=>rfl
 |p::l,h=>by rw[List.flatten_cons,a3x,h p (by simp),a5x (fun q hq=>h q (by simp[hq]))];rfl
theorem c1m:∀{l:List (List AV)},(∀p∈l,plainL p=true)->plainLL l=true
 |[],_=>rfl
 |p::l,h=>by simp only[plainLL,Bool.and_eq_true];exact⟨h p (by simp),c1m fun q hq=>h q (by simp[hq])⟩
theorem d0r{ts:List TypeId}(ok:c6t P ts=true):∀(n:Nat) (t:TypeId) (cs:List Value) (z:DataW H × List MemPlace),t∈ts->DataW.trod enc P W base spare held n t cs=some z->Q4 P t z.1->
  ∃avs,D4 (bare W a2x) avs cs/\Ty P n t avs/\plainL avs=true:=by
 intro n
 induction n with
 |zero=>intro t cs z ht h;simp[DataW.trod]at h
 |succ n ih=>
  intro t cs z ht h hw;have hok:=List.all_eq_true.1 ok t ht;unfold okT at hok;split at hok
  ·rename_i k hu;obtain⟨m,rfl,_,hwf⟩:=DataW.trod_int hu h;exact⟨[.v (.int k m)],D4.one (.v _ rfl) rfl,by unfold Ty;rw[hu];exact⟨m,rfl,hwf⟩,rfl⟩
  ·rename_i hu;obtain⟨b,rfl,_⟩:=DataW.trod_bool hu h;exact⟨[.v (.bool b)],D4.one (.v _ rfl) rfl,by unfold Ty;rw[hu];exact⟨b,rfl⟩,rfl⟩
  ·rename_i hu;obtain⟨s,rfl,rfl,_⟩:=DataW.trod_string hu h;have:s.size<=140737488351232:=hw s.size (by simp[DataW.weights]);exact⟨[.v (.string s)],D4.one (.v _ rfl) rfl,by unfold Ty;rw[hu];exact⟨s,rfl,this⟩,rfl⟩
  ·rename_i e hu;simp only[Bool.and_eq_true,decide_eq_true_eq,List.contains_iff_mem]at hok;obtain⟨⟨he,hk0⟩,hb1⟩:=hok;rcases DataW.trod_slice hu h with⟨hc,_⟩|⟨a,len,cap,elems,rest,m,hm,hc,hy,hb,hl,hmx,hlen,helem,_⟩
   ·subst hc;exact⟨[.sl [] .no],D4.one (.sl0 _ trivial) rfl,by unfold Ty;rw[hu];exact⟨[],rfl,by simp,fun el h=>by cases h⟩,rfl⟩
   ·subst hc hy;obtain rfl:m=n:=by omega
    have hsh:=Q4.short hu hw;rw[List.length_map,hlen]at hsh
    have key:∀i,i<len->∃avs:List AV,∃vs:List Value,vs.length=P.cellsOf e/\(∀j,j<P.cellsOf e->W.cell? ((a.add (i*P.cellsOf e)).add j)=vs[j]?)/\D4 (bare W a2x) avs vs/\Ty P m e avs/\plainL avs=true:=by
     intro i hi;have h1:=helem i hi;rw[List.getElem?_eq_getElem (by omega),Option.bind_eq_some_iff]at h1;obtain⟨vs,hc1,hc2⟩:=h1;obtain⟨_,hl1,hc3⟩:=World.cells?_some hc1;obtain⟨avs,h2,h3,h4⟩:=ih e vs _ he hc2 (Q4.elem hu hw (i:=i) (by rw[List.getElem?_map,List.getElem?_eq_getElem (by omega)];rfl));exact⟨avs,vs,hl1,hc3,h2,h3,h4⟩
    obtain⟨els,hel,hels⟩:=b64 len key
    have hty:∀el∈els,Ty P m e el/\plainL el=true:=by
     intro el hmem;obtain⟨i,hi⟩:=List.mem_iff_getElem?.1 hmem;obtain⟨vs,_,_,_,q1,q2⟩:=hels i el hi;exact⟨q1,q2⟩
    refine⟨[.sl els .no],D4.one ?_ rfl,by unfold Ty;rw[hu];exact⟨els,rfl,by rw[hel];exact hsh,fun el h=>(hty el h).1⟩,by simp only[plainL,plain,Bool.true_and,Bool.and_true];exact c1m fun p hp=>(hty p hp).2⟩
    by_cases h0:len=0
    ·subst h0;have:els=[]:=List.eq_nil_of_length_eq_zero hel;subst this;exact .slx _ a cap trivial (.inl rfl)
    ·obtain⟨b,o,sp⟩:=a;obtain⟨avs0,vs0,hl0,hc0,_⟩:=key 0 (by omega);have hz:=hc0 0 hk0;rw[List.getElem?_eq_getElem (by omega)]at hz
     have hspot:sp=none:=by
      have:=World.cell?_spot hz;simpa[Addr.add]using this
     subst hspot
     have:=Rel.sl (σ:=bare W a2x) els .no b o cap (P.cellsOf e) (fun i j=>((W.cell? ⟨b,o+i*P.cellsOf e+j,none⟩).getD undef)) (fun i el hi=>by
       obtain⟨vs,q1,_,q3,_⟩:=hels i el hi;rw[<-q3.1,q1]) (by omega) trivial (fun id e h=>by cases h) (fun i el hi j av hj=>by
       obtain⟨vs,q1,q2,q3,_⟩:=hels i el hi;obtain⟨c1,x,hx,hr⟩:=q3.2 j av hj;have hjl:j<P.cellsOf e:=by rw[<-q1];exact(List.getElem?_eq_some_iff.1 hx).1
       have:=q2 j hjl;rw[K7,K7,hx]at this;exact⟨by show W.cell? _=_;rw[this];rfl,fun h=>(a84 _ _ _ _).1 h,c1⟩) (fun i el hi j av hj=>by
       obtain⟨vs,q1,q2,q3,_⟩:=hels i el hi;obtain⟨c1,x,hx,hr⟩:=q3.2 j av hj;have hjl:j<P.cellsOf e:=by rw[<-q1];exact(List.getElem?_eq_some_iff.1 hx).1
       have:=q2 j hjl;rw[K7,K7,hx]at this;rw[this];exact hr)
     rw[hel]at this;exact this
  ·rename_i fs hu;simp only[Bool.and_eq_true,List.all_eq_true,List.contains_iff_mem]at hok;obtain⟨hfs,hcg⟩:=hok;obtain⟨xs,m,hm,rfl,hcl,hxl,hf⟩:=DataW.trod_struct hu h;obtain rfl:m=n:=by omega
   have key:∀i,i<fs.size->∃avs:List AV,∀f,fs[i]? =some f->D4 (bare W a2x) avs ((cs.drop f.offset).take (P.cellsOf f.type))/\Ty P m f.type avs/\plainL avs=true:=by
    intro i hi;have hfi:fs[i]? =some fs[i]:=Array.getElem?_eq_getElem hi;have e:xs[i]? =some xs[i]:=List.getElem?_eq_getElem (by omega);obtain⟨avs,h2,h3,h4⟩:=ih fs[i].type _ _ (hfs _ (by simp)) ((hf i _ hfi).trans e) (Q4.part hu hw hfi (by rw[List.getElem?_map,e];rfl));refine⟨avs,fun f hf'=>?_⟩;rw[hfi]at hf';cases hf';exact⟨h2,h3,h4⟩
   obtain⟨parts,hpl,hparts⟩:=b64 fs.size key;have hcells:=b55 (P:=P) (bare W a2x) fs.toList 0 (P.cellsOf t) cs parts hcg hcl (by simpa using hpl) (fun i f p hfi hpi=>(hparts i p hpi f (by simpa using hfi)).1);refine⟨parts.flatten,by simpa using hcells,?_,a5x fun p hp=>?_⟩
   ·unfold Ty;rw[hu];refine⟨parts,rfl,hpl,fun i f hfi=>?_⟩;have hi:i<parts.length:=by rw[hpl];exact(Array.getElem?_eq_some_iff.1 hfi).1
    exact⟨parts[i],List.getElem?_eq_getElem hi,(hparts i _ (List.getElem?_eq_getElem hi) f hfi).2.1⟩
   ·obtain⟨i,hi⟩:=List.mem_iff_getElem?.1 hp;have hlt:i<fs.size:=by rw[<-hpl];exact(List.getElem?_eq_some_iff.1 hi).1
    exact(hparts i p hi fs[i] (Array.getElem?_eq_getElem hlt)).2.2
  ·rename_i k e hu;simp only[Bool.and_eq_true,decide_eq_true_eq,List.contains_iff_mem]at hok;obtain⟨he,hke⟩:=hok;obtain⟨xs,m,hm,rfl,hcl,hxl,hf⟩:=DataW.trod_array hu h;obtain rfl:m=n:=by omega
   have key:∀i,i<k->∃avs:List AV,D4 (bare W a2x) avs ((cs.drop (i*P.cellsOf e)).take (P.cellsOf e))/\Ty P m e avs/\plainL avs=true:=by
    intro i hi;have e1:xs[i]? =some xs[i]:=List.getElem?_eq_getElem (by omega);exact ih e _ _ he ((hf i hi).trans e1) (Q4.at_ hu hw (by rw[List.getElem?_map,e1];rfl))
   obtain⟨parts,hpl,hparts⟩:=b64 k key
   have hall:∀p∈parts,Ty P m e p/\plainL p=true:=by
    intro p hp;obtain⟨i,hi⟩:=List.mem_iff_getElem?.1 hp;exact(hparts i p hi).2
   refine⟨parts.flatten,c11 _ (P.cellsOf e) parts cs (by rw[hcl,hpl,hke]) (fun i p hi=>(hparts i p hi).1),?_,a5x fun p hp=>(hall p hp).2⟩;unfold Ty;rw[hu];exact⟨parts,rfl,hpl,fun p hp=>(hall p hp).1⟩
  ·cases hok
end
end
def eL{α:Type}(e:α->List AV)(x:List α):List AV:=[.sl (List.map e x) .no]
def d5g(x:Int):List AV:=[.v (.int .i8 x)]
theorem I7(l:List Int):plainLL (l.map d5g)=true:=D1 _ _ fun x _=>rfl
def c4b(x:Int):List AV:=[.v (.int .i16 x)]
theorem G7(l:List Int):plainLL (l.map c4b)=true:=D1 _ _ fun x _=>rfl
def c4t(x:Int):List AV:=[.v (.int .i32 x)]
theorem G4(l:List Int):plainLL (l.map c4t)=true:=D1 _ _ fun x _=>rfl
def G0(x:Int):List AV:=[.v (.int .i64 x)]
theorem D6(l:List Int):plainLL (l.map G0)=true:=D1 _ _ fun x _=>rfl
def c3w(x:Int):List AV:=[.v (.int .u8 x)]
theorem I8(l:List Int):plainLL (l.map c3w)=true:=D1 _ _ fun x _=>rfl
def c4e(x:Int):List AV:=[.v (.int .u16 x)]
theorem G6(l:List Int):plainLL (l.map c4e)=true:=D1 _ _ fun x _=>rfl
def c43(x:Int):List AV:=[.v (.int .u32 x)]
theorem G8(l:List Int):plainLL (l.map c43)=true:=D1 _ _ fun x _=>rfl
def c5r(x:Int):List AV:=[.v (.int .u64 x)]
theorem G3(l:List Int):plainLL (l.map c5r)=true:=D1 _ _ fun x _=>rfl
def a4w(x:Bool):List AV:=[.v (.bool x)]
theorem H3(l:List Bool):plainLL (l.map a4w)=true:=D1 _ _ fun x _=>rfl
def J4(x:ByteArray):List AV:=[.v (.string x)]
theorem F4(l:List ByteArray):plainLL (l.map J4)=true:=D1 _ _ fun x _=>rfl
theorem d97{α:Type}(e:α->List AV)(he:∀l:List α,plainLL (l.map e)=true)(l:List (List α)):plainLL (l.map (eL e))=true:=D1 _ _ fun x _=>by simp only[eL,plainL,plain,he];rfl
structure a4m where
 Kind:Int
 Name:ByteArray
def a7d(x:a4m):List AV:=[.v (.int .i64 x.Kind),.v (.string x.Name)]
theorem G5(x:a4m):plainL (a7d x)=true:=by simp[a7d,plainL,plain,I7,G7,G4,D6,I8,G6,G8,G3,H3,F4,W4,M3,a0e]
theorem F5(l:List a4m):plainLL (l.map a7d)=true:=D1 _ _ fun x _=>G5 x
structure c6a where
 Num:Int
 Wire:Int
 Bits:Int
 Data:ByteArray
def a71(x:c6a):List AV:=[.v (.int .i64 x.Num),.v (.int .i64 x.Wire),.v (.int .u64 x.Bits),.v (.string x.Data)]
theorem N7(x:c6a):plainL (a71 x)=true:=by simp[a71,plainL,plain,I7,G7,G4,D6,I8,G6,G8,G3,H3,F4,W4,M3,a0e,G5,F5]
theorem K2(l:List c6a):plainLL (l.map a71)=true:=D1 _ _ fun x _=>N7 x
structure B6 where
 Kind:Int
 Bits:Int
 Text:ByteArray
 List_:(List B6)
 Pairs:(List (B6 × B6))
 Slots:(List (Int × B6))
 Raws:(List c6a)
mutual
def H7:B6->List AV
 |⟨f0,f1,f2,f3,f4,f5,f6⟩=>[.v (.int .i64 f0),.v (.int .u64 f1),.v (.string f2),.sl (eGValue'L f3) .no,.sl (eGPair'L f4) .no,.sl (eGSlot'L f5) .no,.sl (List.map a71 f6) .no]
def eGValue'L:List B6->List (List AV)
 |[]=>[]
 |x::l=>(H7 x)::eGValue'L l
def eGSlot'L:List (Int × B6)->List (List AV)
 |[]=>[]
 |(z0,z1)::l=>([.v (.int .i64 z0)]++H7 z1)::eGSlot'L l
def eGPair'L:List (B6 × B6)->List (List AV)
 |[]=>[]
 |(z0,z1)::l=>(H7 z0++H7 z1)::eGPair'L l
end
def U8(x:(Int × B6)):List AV:=[.v (.int .i64 x.1)]++H7 x.2
def T5(x:(B6 × B6)):List AV:=H7 x.1++H7 x.2
theorem a7f:∀l,eGValue'L l=List.map H7 l
 |[]=>rfl
 |x::l=>by simp only[eGValue'L,List.map_cons,a7f l]
theorem a87:∀l,eGSlot'L l=List.map U8 l
 |[]=>rfl
 |x::l=>by simp only[eGSlot'L,List.map_cons,a87 l,U8]
theorem a8w:∀l,eGPair'L l=List.map T5 l
 |[]=>rfl
 |x::l=>by simp only[eGPair'L,List.map_cons,a8w l,T5]
def L7(x:B6):List AV:=[.v (.int .i64 x.Kind),.v (.int .u64 x.Bits),.v (.string x.Text),.sl (List.map H7 x.List_) .no,.sl (List.map T5 x.Pairs) .no,.sl (List.map U8 x.Slots) .no,.sl (List.map a71 x.Raws) .no]
def c5z(x:(Int × B6)):List AV:=[.v (.int .i64 x.1),.v (.int .i64 x.2.Kind),.v (.int .u64 x.2.Bits),.v (.string x.2.Text),.sl (List.map H7 x.2.List_) .no,.sl (List.map T5 x.2.Pairs) .no,.sl (List.map U8 x.2.Slots) .no,.sl (List.map a71 x.2.Raws) .no]
def c40(x:(B6 × B6)):List AV:=[.v (.int .i64 x.1.Kind),.v (.int .u64 x.1.Bits),.v (.string x.1.Text),.sl (List.map H7 x.1.List_) .no,.sl (List.map T5 x.1.Pairs) .no,.sl (List.map U8 x.1.Slots) .no,.sl (List.map a71 x.1.Raws) .no,.v (.int .i64 x.2.Kind),.v (.int .u64 x.2.Bits),.v (.string x.2.Text),.sl (List.map H7 x.2.List_) .no,.sl (List.map T5 x.2.Pairs) .no,.sl (List.map U8 x.2.Slots) .no,.sl (List.map a71 x.2.Raws) .no]
theorem L8(x:B6):H7 x=L7 x:=by cases x;simp only[H7,L7,a7f,a87,a8w]
theorem a33(x:(Int × B6)):U8 x=c5z x:=by simp only[U8,c5z,L8,L7,List.cons_append,List.nil_append]
theorem a34(x:(B6 × B6)):T5 x=c40 x:=by simp only[T5,c40,L8,L7,List.cons_append,List.nil_append]
mutual
theorem a9q:∀x,plainL (H7 x)=true
 |⟨f0,f1,f2,f3,f4,f5,f6⟩=>by simp[H7,plainL,plain,pl_eGValue'L f3,pl_eGPair'L f4,pl_eGSlot'L f5,I7,G7,G4,D6,I8,G6,G8,G3,H3,F4,W4,M3,a0e,G5,F5,N7,K2]
theorem pl_eGValue'L:∀l,plainLL (eGValue'L l)=true
 |[]=>rfl
 |x::l=>by simp[eGValue'L,plainLL,plainL,plain,a3x,a9q x,pl_eGValue'L l]
theorem pl_eGSlot'L:∀l,plainLL (eGSlot'L l)=true
 |[]=>rfl
 |(z0,z1)::l=>by simp[eGSlot'L,plainLL,plainL,plain,a3x,a9q z1,pl_eGSlot'L l]
theorem pl_eGPair'L:∀l,plainLL (eGPair'L l)=true
 |[]=>rfl
 |(z0,z1)::l=>by simp[eGPair'L,plainLL,plainL,plain,a3x,a9q z0,a9q z1,pl_eGPair'L l]
end
theorem F8(l:List B6):plainLL (l.map H7)=true:=by rw[<-a7f];exact pl_eGValue'L l
theorem E8(x:B6):plainL (L7 x)=true:=by have:=F8 [x];simpa[plainLL,L8]using this
theorem H9(l:List (Int × B6)):plainLL (l.map U8)=true:=by rw[<-a87];exact pl_eGSlot'L l
theorem K6(x:(Int × B6)):plainL (c5z x)=true:=by have:=H9 [x];simpa[plainLL,a33]using this
theorem H8(l:List (B6 × B6)):plainLL (l.map T5)=true:=by rw[<-a8w];exact pl_eGPair'L l
theorem K5(x:(B6 × B6)):plainL (c40 x)=true:=by have:=H8 [x];simpa[plainLL,a34]using this
structure D7 where
 Name:ByteArray
 Val:B6
def E0(x:D7):List AV:=[.v (.string x.Name),.v (.int .i64 x.Val.Kind),.v (.int .u64 x.Val.Bits),.v (.string x.Val.Text),.sl (List.map H7 x.Val.List_) .no,.sl (List.map T5 x.Val.Pairs) .no,.sl (List.map U8 x.Val.Slots) .no,.sl (List.map a71 x.Val.Raws) .no]
theorem K1(x:D7):plainL (E0 x)=true:=by simp[E0,plainL,plain,I7,G7,G4,D6,I8,G6,G8,G3,H3,F4,W4,M3,a0e,G5,F5,N7,K2,E8,F8,K6,H9,K5,H8]
theorem E4(l:List D7):plainLL (l.map E0)=true:=D1 _ _ fun x _=>K1 x
structure A5 where
 Num:Int
 Name:ByteArray
 Card:Int
 Key:Int
 Type_:a4m
 Union:ByteArray
 HasDefault:Bool
 Default:B6
 Notes:(List D7)
def C0(x:A5):List AV:=[.v (.int .i64 x.Num),.v (.string x.Name),.v (.int .i64 x.Card),.v (.int .i64 x.Key),.v (.int .i64 x.Type_.Kind),.v (.string x.Type_.Name),.v (.string x.Union),.v (.bool x.HasDefault),.v (.int .i64 x.Default.Kind),.v (.int .u64 x.Default.Bits),.v (.string x.Default.Text),.sl (List.map H7 x.Default.List_) .no,.sl (List.map T5 x.Default.Pairs) .no,.sl (List.map U8 x.Default.Slots) .no,.sl (List.map a71 x.Default.Raws) .no,.sl (List.map E0 x.Notes) .no]
theorem D8(x:A5):plainL (C0 x)=true:=by simp[C0,plainL,plain,I7,G7,G4,D6,I8,G6,G8,G3,H3,F4,W4,M3,a0e,G5,F5,N7,K2,E8,F8,K6,H9,K5,H8,K1,E4]
theorem E7(l:List A5):plainLL (l.map C0)=true:=D1 _ _ fun x _=>D8 x
structure U6 where
 From:Int
 To:Int
def P4(x:U6):List AV:=[.v (.int .i64 x.From),.v (.int .i64 x.To)]
theorem N2(x:U6):plainL (P4 x)=true:=by simp[P4,plainL,plain,I7,G7,G4,D6,I8,G6,G8,G3,H3,F4,W4,M3,a0e,G5,F5,N7,K2,E8,F8,K6,H9,K5,H8,K1,E4,D8,E7]
theorem I9(l:List U6):plainLL (l.map P4)=true:=D1 _ _ fun x _=>N2 x
structure A9 where
 Name:ByteArray
 Fields:(List A5)
 Reserved:(List U6)
 Gone:(List ByteArray)
 Notes:(List D7)
def C6(x:A9):List AV:=[.v (.string x.Name),.sl (List.map C0 x.Fields) .no,.sl (List.map P4 x.Reserved) .no,.sl (List.map J4 x.Gone) .no,.sl (List.map E0 x.Notes) .no]
theorem D5(x:A9):plainL (C6 x)=true:=by simp[C6,plainL,plain,I7,G7,G4,D6,I8,G6,G8,G3,H3,F4,W4,M3,a0e,G5,F5,N7,K2,E8,F8,K6,H9,K5,H8,K1,E4,D8,E7,N2,I9]
theorem F6(l:List A9):plainLL (l.map C6)=true:=D1 _ _ fun x _=>D5 x
structure b6m where
 Name:ByteArray
 Num:Int
 Notes:(List D7)
def a6b(x:b6m):List AV:=[.v (.string x.Name),.v (.int .i64 x.Num),.sl (List.map E0 x.Notes) .no]
theorem P8(x:b6m):plainL (a6b x)=true:=by simp[a6b,plainL,plain,I7,G7,G4,D6,I8,G6,G8,G3,H3,F4,W4,M3,a0e,G5,F5,N7,K2,E8,F8,K6,H9,K5,H8,K1,E4,D8,E7,N2,I9,D5,F6]
theorem M7(l:List b6m):plainLL (l.map a6b)=true:=D1 _ _ fun x _=>P8 x
structure a20 where
 Name:ByteArray
 Open:Bool
 Items:(List b6m)
 Reserved:(List U6)
 Notes:(List D7)
def a1m(x:a20):List AV:=[.v (.string x.Name),.v (.bool x.Open),.sl (List.map a6b x.Items) .no,.sl (List.map P4 x.Reserved) .no,.sl (List.map E0 x.Notes) .no]
theorem P7(x:a20):plainL (a1m x)=true:=by simp[a1m,plainL,plain,I7,G7,G4,D6,I8,G6,G8,G3,H3,F4,W4,M3,a0e,G5,F5,N7,K2,E8,F8,K6,H9,K5,H8,K1,E4,D8,E7,N2,I9,D5,F6,P8,M7]
theorem O7(l:List a20):plainLL (l.map a1m)=true:=D1 _ _ fun x _=>P7 x
structure C8 where
 Name:ByteArray
 In:ByteArray
 Out:ByteArray
 Shape:Int
 Notes:(List D7)
def H1(x:C8):List AV:=[.v (.string x.Name),.v (.string x.In),.v (.string x.Out),.v (.int .i64 x.Shape),.sl (List.map E0 x.Notes) .no]
theorem H5(x:C8):plainL (H1 x)=true:=by simp[H1,plainL,plain,I7,G7,G4,D6,I8,G6,G8,G3,H3,F4,W4,M3,a0e,G5,F5,N7,K2,E8,F8,K6,H9,K5,H8,K1,E4,D8,E7,N2,I9,D5,F6,P8,M7,P7,O7]
theorem J1(l:List C8):plainLL (l.map H1)=true:=D1 _ _ fun x _=>H5 x
structure C4 where
 Name:ByteArray
 Methods:(List C8)
 Notes:(List D7)
def D9(x:C4):List AV:=[.v (.string x.Name),.sl (List.map H1 x.Methods) .no,.sl (List.map E0 x.Notes) .no]
theorem H0(x:C4):plainL (D9 x)=true:=by simp[D9,plainL,plain,I7,G7,G4,D6,I8,G6,G8,G3,H3,F4,W4,M3,a0e,G5,F5,N7,K2,E8,F8,K6,H9,K5,H8,K1,E4,D8,E7,N2,I9,D5,F6,P8,M7,P7,O7,H5,J1]
theorem I5(l:List C4):plainLL (l.map D9)=true:=D1 _ _ fun x _=>H0 x
structure A2 where
 Messages:(List A9)
 Enums:(List a20)
 Services:(List C4)
def A4(x:A2):List AV:=[.sl (List.map C6 x.Messages) .no,.sl (List.map a1m x.Enums) .no,.sl (List.map D9 x.Services) .no]
theorem C3(x:A2):plainL (A4 x)=true:=by simp[A4,plainL,plain,I7,G7,G4,D6,I8,G6,G8,G3,H3,F4,W4,M3,a0e,G5,F5,N7,K2,E8,F8,K6,H9,K5,H8,K1,E4,D8,E7,N2,I9,D5,F6,P8,M7,P7,O7,H5,J1,H0,I5]
theorem N9(l:List A2):plainLL (l.map A4)=true:=D1 _ _ fun x _=>C3 x
structure B4 where
 Verb:ByteArray
 Path:ByteArray
 Service:ByteArray
 Method:ByteArray
 Body:ByteArray
def B9(x:B4):List AV:=[.v (.string x.Verb),.v (.string x.Path),.v (.string x.Service),.v (.string x.Method),.v (.string x.Body)]
theorem G9(x:B4):plainL (B9 x)=true:=by simp[B9,plainL,plain,I7,G7,G4,D6,I8,G6,G8,G3,H3,F4,W4,M3,a0e,G5,F5,N7,K2,E8,F8,K6,H9,K5,H8,K1,E4,D8,E7,N2,I9,D5,F6,P8,M7,P7,O7,H5,J1,H0,I5,C3,N9]
theorem J3(l:List B4):plainLL (l.map B9)=true:=D1 _ _ fun x _=>G9 x
structure c7t where
 Key:ByteArray
 Val:ByteArray
def c0g(x:c7t):List AV:=[.v (.string x.Key),.v (.string x.Val)]
theorem a5n(x:c7t):plainL (c0g x)=true:=by simp[c0g,plainL,plain,I7,G7,G4,D6,I8,G6,G8,G3,H3,F4,W4,M3,a0e,G5,F5,N7,K2,E8,F8,K6,H9,K5,H8,K1,E4,D8,E7,N2,I9,D5,F6,P8,M7,P7,O7,H5,J1,H0,I5,C3,N9,G9,J3]
theorem a2k(l:List c7t):plainLL (l.map c0g)=true:=D1 _ _ fun x _=>a5n x
structure h37 where
 Verb:ByteArray
 Path:ByteArray
 Query:(List c7t)
 Body:ByteArray
def d0a(x:h37):List AV:=[.v (.string x.Verb),.v (.string x.Path),.sl (List.map c0g x.Query) .no,.v (.string x.Body)]
theorem b1e(x:h37):plainL (d0a x)=true:=by simp[d0a,plainL,plain,I7,G7,G4,D6,I8,G6,G8,G3,H3,F4,W4,M3,a0e,G5,F5,N7,K2,E8,F8,K6,H9,K5,H8,K1,E4,D8,E7,N2,I9,D5,F6,P8,M7,P7,O7,H5,J1,H0,I5,C3,N9,G9,J3,a5n,a2k]
theorem a7o(l:List h37):plainLL (l.map d0a)=true:=D1 _ _ fun x _=>b1e x
structure B1 where
 Def:ByteArray
 Num:Int
 Err:Int
def E3(x:B1):List AV:=[.v (.string x.Def),.v (.int .i64 x.Num),.v (.int .i64 x.Err)]
theorem Z4(x:B1):plainL (E3 x)=true:=by simp[E3,plainL,plain,I7,G7,G4,D6,I8,G6,G8,G3,H3,F4,W4,M3,a0e,G5,F5,N7,K2,E8,F8,K6,H9,K5,H8,K1,E4,D8,E7,N2,I9,D5,F6,P8,M7,P7,O7,H5,J1,H0,I5,C3,N9,G9,J3,a5n,a2k,b1e,a7o]
theorem L2(l:List B1):plainLL (l.map E3)=true:=D1 _ _ fun x _=>Z4 x
structure G1 where
 def_:ByteArray
 l:(List B1)
def c15(x:G1):List AV:=[.v (.string x.def_),.sl (List.map E3 x.l) .no]
theorem b2r(x:G1):plainL (c15 x)=true:=by simp[c15,plainL,plain,I7,G7,G4,D6,I8,G6,G8,G3,H3,F4,W4,M3,a0e,G5,F5,N7,K2,E8,F8,K6,H9,K5,H8,K1,E4,D8,E7,N2,I9,D5,F6,P8,M7,P7,O7,H5,J1,H0,I5,C3,N9,G9,J3,a5n,a2k,b1e,a7o,Z4,L2]
theorem a9g(l:List G1):plainLL (l.map c15)=true:=D1 _ _ fun x _=>b2r x
theorem b43(m:List Bool)(n:Nat)(x:a4m):lowL m n (a7d x)=true:=lowL_plain _ _ _ (G5 x)
theorem c2s(m:List Bool)(n:Nat)(x:c6a):lowL m n (a71 x)=true:=lowL_plain _ _ _ (N7 x)
theorem b5k(m:List Bool)(n:Nat)(x:B6):lowL m n (L7 x)=true:=lowL_plain _ _ _ (E8 x)
theorem b8b(m:List Bool)(n:Nat)(x:(Int × B6)):lowL m n (c5z x)=true:=lowL_plain _ _ _ (K6 x)
theorem b9u(m:List Bool)(n:Nat)(x:(B6 × B6)):lowL m n (c40 x)=true:=lowL_plain _ _ _ (K5 x)
theorem b90(m:List Bool)(n:Nat)(x:D7):lowL m n (E0 x)=true:=lowL_plain _ _ _ (K1 x)
theorem b5f(m:List Bool)(n:Nat)(x:A5):lowL m n (C0 x)=true:=lowL_plain _ _ _ (D8 x)
theorem b9w(m:List Bool)(n:Nat)(x:U6):lowL m n (P4 x)=true:=lowL_plain _ _ _ (N2 x)
theorem a8e(m:List Bool)(n:Nat)(x:A9):lowL m n (C6 x)=true:=lowL_plain _ _ _ (D5 x)
theorem b89(m:List Bool)(n:Nat)(x:b6m):lowL m n (a6b x)=true:=lowL_plain _ _ _ (P8 x)
theorem b79(m:List Bool)(n:Nat)(x:a20):lowL m n (a1m x)=true:=lowL_plain _ _ _ (P7 x)
theorem b0x(m:List Bool)(n:Nat)(x:C8):lowL m n (H1 x)=true:=lowL_plain _ _ _ (H5 x)
theorem a78(m:List Bool)(n:Nat)(x:C4):lowL m n (D9 x)=true:=lowL_plain _ _ _ (H0 x)
theorem b1g(m:List Bool)(n:Nat)(x:A2):lowL m n (A4 x)=true:=lowL_plain _ _ _ (C3 x)
theorem b4d(m:List Bool)(n:Nat)(x:B4):lowL m n (B9 x)=true:=lowL_plain _ _ _ (G9 x)
theorem b7u(m:List Bool)(n:Nat)(x:c7t):lowL m n (c0g x)=true:=lowL_plain _ _ _ (a5n x)
theorem c21(m:List Bool)(n:Nat)(x:h37):lowL m n (d0a x)=true:=lowL_plain _ _ _ (b1e x)
theorem a8f(m:List Bool)(n:Nat)(x:B1):lowL m n (E3 x)=true:=lowL_plain _ _ _ (Z4 x)
theorem b9c(m:List Bool)(n:Nat)(x:G1):lowL m n (c15 x)=true:=lowL_plain _ _ _ (b2r x)
theorem c2y(m:List Bool)(n:Nat)(l:List Int):lowLL m n (l.map d5g)=true:=lowLL_plain _ _ _ (I7 l)
theorem b9g(m:List Bool)(n:Nat)(l:List Int):lowLL m n (l.map c4b)=true:=lowLL_plain _ _ _ (G7 l)
theorem b88(m:List Bool)(n:Nat)(l:List Int):lowLL m n (l.map c4t)=true:=lowLL_plain _ _ _ (G4 l)
theorem b8y(m:List Bool)(n:Nat)(l:List Int):lowLL m n (l.map G0)=true:=lowLL_plain _ _ _ (D6 l)
theorem c2h(m:List Bool)(n:Nat)(l:List Int):lowLL m n (l.map c3w)=true:=lowLL_plain _ _ _ (I8 l)
theorem c0e(m:List Bool)(n:Nat)(l:List Int):lowLL m n (l.map c4e)=true:=lowLL_plain _ _ _ (G6 l)
theorem b82(m:List Bool)(n:Nat)(l:List Int):lowLL m n (l.map c43)=true:=lowLL_plain _ _ _ (G8 l)
theorem b8a(m:List Bool)(n:Nat)(l:List Int):lowLL m n (l.map c5r)=true:=lowLL_plain _ _ _ (G3 l)
theorem c3j(m:List Bool)(n:Nat)(l:List Bool):lowLL m n (l.map a4w)=true:=lowLL_plain _ _ _ (H3 l)
theorem c7h(m:List Bool)(n:Nat)(l:List ByteArray):lowLL m n (l.map J4)=true:=lowLL_plain _ _ _ (F4 l)
theorem b5h(m:List Bool)(n:Nat)(l:List a4m):lowLL m n (l.map a7d)=true:=lowLL_plain _ _ _ (F5 l)
theorem c2l(m:List Bool)(n:Nat)(l:List c6a):lowLL m n (l.map a71)=true:=lowLL_plain _ _ _ (K2 l)
theorem b38(m:List Bool)(n:Nat)(l:List B6):lowLL m n (l.map H7)=true:=lowLL_plain _ _ _ (F8 l)
theorem b8v(m:List Bool)(n:Nat)(l:List (Int × B6)):lowLL m n (l.map U8)=true:=lowLL_plain _ _ _ (H9 l)
theorem c0h(m:List Bool)(n:Nat)(l:List (B6 × B6)):lowLL m n (l.map T5)=true:=lowLL_plain _ _ _ (H8 l)
theorem b7y(m:List Bool)(n:Nat)(l:List D7):lowLL m n (l.map E0)=true:=lowLL_plain _ _ _ (E4 l)
theorem b5e(m:List Bool)(n:Nat)(l:List A5):lowLL m n (l.map C0)=true:=lowLL_plain _ _ _ (E7 l)
theorem c0i(m:List Bool)(n:Nat)(l:List U6):lowLL m n (l.map P4)=true:=lowLL_plain _ _ _ (I9 l)
theorem a9a(m:List Bool)(n:Nat)(l:List A9):lowLL m n (l.map C6)=true:=lowLL_plain _ _ _ (F6 l)
theorem c0j(m:List Bool)(n:Nat)(l:List b6m):lowLL m n (l.map a6b)=true:=lowLL_plain _ _ _ (M7 l)
theorem b8r(m:List Bool)(n:Nat)(l:List a20):lowLL m n (l.map a1m)=true:=lowLL_plain _ _ _ (O7 l)
theorem b0y(m:List Bool)(n:Nat)(l:List C8):lowLL m n (l.map H1)=true:=lowLL_plain _ _ _ (J1 l)
theorem a9l(m:List Bool)(n:Nat)(l:List C4):lowLL m n (l.map D9)=true:=lowLL_plain _ _ _ (I5 l)
theorem b1b(m:List Bool)(n:Nat)(l:List A2):lowLL m n (l.map A4)=true:=lowLL_plain _ _ _ (N9 l)
theorem b35(m:List Bool)(n:Nat)(l:List B4):lowLL m n (l.map B9)=true:=lowLL_plain _ _ _ (J3 l)
theorem b7s(m:List Bool)(n:Nat)(l:List c7t):lowLL m n (l.map c0g)=true:=lowLL_plain _ _ _ (a2k l)
theorem c2e(m:List Bool)(n:Nat)(l:List h37):lowLL m n (l.map d0a)=true:=lowLL_plain _ _ _ (a7o l)
theorem a8o(m:List Bool)(n:Nat)(l:List B1):lowLL m n (l.map E3)=true:=lowLL_plain _ _ _ (L2 l)
theorem b9d(m:List Bool)(n:Nat)(l:List G1):lowLL m n (l.map c15)=true:=lowLL_plain _ _ _ (a9g l)
theorem c2q(m:List Bool)(n:Nat)(l:List Int):lowL m n (cellsOf d5g l)=true:=lowL_plain _ _ _ (B7 _ (I7 l))
theorem b95(m:List Bool)(n:Nat)(l:List Int):lowL m n (cellsOf c4b l)=true:=lowL_plain _ _ _ (B7 _ (G7 l))
theorem b9b(m:List Bool)(n:Nat)(l:List Int):lowL m n (cellsOf c4t l)=true:=lowL_plain _ _ _ (B7 _ (G4 l))
theorem b8h(m:List Bool)(n:Nat)(l:List Int):lowL m n (cellsOf G0 l)=true:=lowL_plain _ _ _ (B7 _ (D6 l))
theorem c3z(m:List Bool)(n:Nat)(l:List Int):lowL m n (cellsOf c3w l)=true:=lowL_plain _ _ _ (B7 _ (I8 l))
theorem b8n(m:List Bool)(n:Nat)(l:List Int):lowL m n (cellsOf c4e l)=true:=lowL_plain _ _ _ (B7 _ (G6 l))
theorem b76(m:List Bool)(n:Nat)(l:List Int):lowL m n (cellsOf c43 l)=true:=lowL_plain _ _ _ (B7 _ (G8 l))
theorem b7z(m:List Bool)(n:Nat)(l:List Int):lowL m n (cellsOf c5r l)=true:=lowL_plain _ _ _ (B7 _ (G3 l))
theorem c3p(m:List Bool)(n:Nat)(l:List Bool):lowL m n (cellsOf a4w l)=true:=lowL_plain _ _ _ (B7 _ (H3 l))
theorem c73(m:List Bool)(n:Nat)(l:List ByteArray):lowL m n (cellsOf J4 l)=true:=lowL_plain _ _ _ (B7 _ (F4 l))
theorem b34(m:List Bool)(n:Nat)(l:List a4m):lowL m n (cellsOf a7d l)=true:=lowL_plain _ _ _ (B7 _ (F5 l))
theorem c24(m:List Bool)(n:Nat)(l:List c6a):lowL m n (cellsOf a71 l)=true:=lowL_plain _ _ _ (B7 _ (K2 l))
theorem b47(m:List Bool)(n:Nat)(l:List B6):lowL m n (cellsOf H7 l)=true:=lowL_plain _ _ _ (B7 _ (F8 l))
theorem b97(m:List Bool)(n:Nat)(l:List (Int × B6)):lowL m n (cellsOf U8 l)=true:=lowL_plain _ _ _ (B7 _ (H9 l))
theorem b94(m:List Bool)(n:Nat)(l:List (B6 × B6)):lowL m n (cellsOf T5 l)=true:=lowL_plain _ _ _ (B7 _ (H8 l))
theorem b9i(m:List Bool)(n:Nat)(l:List D7):lowL m n (cellsOf E0 l)=true:=lowL_plain _ _ _ (B7 _ (E4 l))
theorem b48(m:List Bool)(n:Nat)(l:List A5):lowL m n (cellsOf C0 l)=true:=lowL_plain _ _ _ (B7 _ (E7 l))
theorem b8g(m:List Bool)(n:Nat)(l:List U6):lowL m n (cellsOf P4 l)=true:=lowL_plain _ _ _ (B7 _ (I9 l))
theorem a82(m:List Bool)(n:Nat)(l:List A9):lowL m n (cellsOf C6 l)=true:=lowL_plain _ _ _ (B7 _ (F6 l))
theorem b74(m:List Bool)(n:Nat)(l:List b6m):lowL m n (cellsOf a6b l)=true:=lowL_plain _ _ _ (B7 _ (M7 l))
theorem b8c(m:List Bool)(n:Nat)(l:List a20):lowL m n (cellsOf a1m l)=true:=lowL_plain _ _ _ (B7 _ (O7 l))
theorem b1v(m:List Bool)(n:Nat)(l:List C8):lowL m n (cellsOf H1 l)=true:=lowL_plain _ _ _ (B7 _ (J1 l))
theorem a8k(m:List Bool)(n:Nat)(l:List C4):lowL m n (cellsOf D9 l)=true:=lowL_plain _ _ _ (B7 _ (I5 l))
theorem b03(m:List Bool)(n:Nat)(l:List A2):lowL m n (cellsOf A4 l)=true:=lowL_plain _ _ _ (B7 _ (N9 l))
theorem b37(m:List Bool)(n:Nat)(l:List B4):lowL m n (cellsOf B9 l)=true:=lowL_plain _ _ _ (B7 _ (J3 l))
theorem c0k(m:List Bool)(n:Nat)(l:List c7t):lowL m n (cellsOf c0g l)=true:=lowL_plain _ _ _ (B7 _ (a2k l))
theorem c3r(m:List Bool)(n:Nat)(l:List h37):lowL m n (cellsOf d0a l)=true:=lowL_plain _ _ _ (B7 _ (a7o l))
theorem a8m(m:List Bool)(n:Nat)(l:List B1):lowL m n (cellsOf E3 l)=true:=lowL_plain _ _ _ (B7 _ (L2 l))
theorem b98(m:List Bool)(n:Nat)(l:List G1):lowL m n (cellsOf c15 l)=true:=lowL_plain _ _ _ (B7 _ (a9g l))
def U7(x:G1):List AV:=[.v (.string x.def_),.sl (List.map E3 x.l) (.own 0)]
def b0m(x:G1):List (Nat × Nat):=[(x.l.length,3)]
theorem a3w(x:G1):(U7 x).all ok1=true:=by simp[U7,ok1,plain,I7,G7,G4,D6,I8,G6,G8,G3,H3,F4,W4,M3,a0e,G5,F5,N7,K2,E8,F8,K6,H9,K5,H8,K1,E4,D8,E7,N2,I9,D5,F6,P8,M7,P7,O7,H5,J1,H0,I5,C3,N9,G9,J3,a5n,a2k,b1e,a7o,Z4,L2,b2r,a9g]
theorem b9t(x:G1):lowL [true] 1 (U7 x)=true:=by first|rfl|(simp only[U7,low,lowL,c2q,b95,b9b,b8h,c3z,b8n,b76,b7z,c3p,c73,b34,c24,b47,b97,b94,b9i,b48,b8g,a82,b74,b8c,b1v,a8k,b03,b37,c0k,c3r,a8m,b98,c7m,c3k,c2y,b9g,b88,b8y,c2h,c0e,b82,b8a,c3j,c7h,b5h,c2l,b38,b8v,c0h,b7y,b5e,c0i,a9a,c0j,b8r,b0y,a9l,b1b,b35,b7s,c2e,a8o,b9d,b43,c2s,b5k,b8b,b9u,b90,b5f,b9w,a8e,b89,b79,b0x,a78,b1g,b4d,b7u,c21,a8f,b9c];rfl)
theorem d4k:b2k a4w 1:=⟨fun y=>rfl,fun y=>rfl,fun y=>rfl,fun y=>rfl⟩
def d1h:En Bool:=⟨a4w,a4w,1,fun _=>rfl,fun _=>rfl,d4k⟩
theorem d0m:b2k a1m 5:=⟨fun y=>rfl,fun y=>rfl,fun y=>P7 y,fun y=>rfl⟩
def a7t:En a20:=⟨a1m,a1m,5,fun _=>rfl,fun _=>rfl,d0m⟩
theorem c6s:b2k C0 16:=⟨fun y=>rfl,fun y=>rfl,fun y=>D8 y,fun y=>rfl⟩
def F7:En A5:=⟨C0,C0,16,fun _=>rfl,fun _=>rfl,c6s⟩
theorem d0f:b2k a6b 3:=⟨fun y=>rfl,fun y=>rfl,fun y=>P8 y,fun y=>rfl⟩
def a6r:En b6m:=⟨a6b,a6b,3,fun _=>rfl,fun _=>rfl,d0f⟩
theorem c3d:b2k C6 5:=⟨fun y=>rfl,fun y=>rfl,fun y=>D5 y,fun y=>rfl⟩
def I0:En A9:=⟨C6,C6,5,fun _=>rfl,fun _=>rfl,c3d⟩
theorem c56:b2k H1 5:=⟨fun y=>rfl,fun y=>rfl,fun y=>H5 y,fun y=>rfl⟩
def T2:En C8:=⟨H1,H1,5,fun _=>rfl,fun _=>rfl,c56⟩
theorem d0l:b2k E0 8:=⟨fun y=>rfl,fun y=>rfl,fun y=>K1 y,fun y=>rfl⟩
def a1d:En D7:=⟨E0,E0,8,fun _=>rfl,fun _=>rfl,d0l⟩
theorem d1f:b2k T5 14:=⟨fun y=>by rw[a34];rfl,fun y=>by rw[a34];rfl,fun y=>by rw[a34];exact K5 y,fun y=>by rw[a34];rfl⟩
def c9i:En (B6 × B6):=⟨c40,T5,14,fun y=>a34 y,fun _=>rfl,d1f⟩
theorem c2p:b2k E3 3:=⟨fun y=>rfl,fun y=>rfl,fun y=>Z4 y,fun y=>rfl⟩
def a8z:En B1:=⟨E3,E3,3,fun _=>rfl,fun _=>rfl,c2p⟩
theorem d39:b2k a71 4:=⟨fun y=>rfl,fun y=>rfl,fun y=>N7 y,fun y=>rfl⟩
def d8p:En c6a:=⟨a71,a71,4,fun _=>rfl,fun _=>rfl,d39⟩
theorem c7u:b2k B9 5:=⟨fun y=>rfl,fun y=>rfl,fun y=>G9 y,fun y=>rfl⟩
def O0:En B4:=⟨B9,B9,5,fun _=>rfl,fun _=>rfl,c7u⟩
theorem c3l:b2k D9 3:=⟨fun y=>rfl,fun y=>rfl,fun y=>H0 y,fun y=>rfl⟩
def P0:En C4:=⟨D9,D9,3,fun _=>rfl,fun _=>rfl,c3l⟩
theorem d02:b2k U8 8:=⟨fun y=>by rw[a33];rfl,fun y=>by rw[a33];rfl,fun y=>by rw[a33];exact K6 y,fun y=>by rw[a33];rfl⟩
def c9q:En (Int × B6):=⟨c5z,U8,8,fun y=>a33 y,fun _=>rfl,d02⟩
theorem d0h:b2k P4 2:=⟨fun y=>rfl,fun y=>rfl,fun y=>N2 y,fun y=>rfl⟩
def a5b:En U6:=⟨P4,P4,2,fun _=>rfl,fun _=>rfl,d0h⟩
theorem c7s:b2k H7 7:=⟨fun y=>by rw[L8];rfl,fun y=>by rw[L8];rfl,fun y=>by rw[L8];exact E8 y,fun y=>by rw[L8];rfl⟩
def c25:En B6:=⟨L7,H7,7,fun y=>L8 y,fun _=>rfl,c7s⟩
theorem c94:b2k G0 1:=⟨fun y=>rfl,fun y=>rfl,fun y=>rfl,fun y=>rfl⟩
def b8f:En Int:=⟨G0,G0,1,fun _=>rfl,fun _=>rfl,c94⟩
theorem d4f:b2k c3w 1:=⟨fun y=>rfl,fun y=>rfl,fun y=>rfl,fun y=>rfl⟩
def d86:En Int:=⟨c3w,c3w,1,fun _=>rfl,fun _=>rfl,d4f⟩
theorem c5q:b2k (eL G0) 1:=⟨fun y=>rfl,fun y=>rfl,fun y=>by simp[eL,plainL,plain,D6,H3,F4],fun y=>rfl⟩
def c33:En (List Int):=⟨(eL G0),(eL G0),1,fun _=>rfl,fun _=>rfl,c5q⟩
theorem d8s:b2k J4 1:=⟨fun y=>rfl,fun y=>rfl,fun y=>rfl,fun y=>rfl⟩
def a0l:En ByteArray:=⟨J4,J4,1,fun _=>rfl,fun _=>rfl,d8s⟩
theorem b12(l:List (List Int)):plainLL (l.map (eL G0))=true:=d97 _ (fun l=>D6 l) l
theorem b9r(m:List Bool)(n:Nat)(l:List (List Int)):lowLL m n (l.map (eL G0))=true:=lowLL_plain _ _ _ (b12 l)
def GLm(mg:Int):List (Nat × List AV):=[(2,[.v (.int .i64 mg)]),(1,[.v (.string ⟨#[111,107]⟩),.v (.string ⟨#[99,97,110,99,101,108,108,101,100]⟩),.v (.string ⟨#[105,110,118,97,108,105,100]⟩),.v (.string ⟨#[100,101,97,100,108,105,110,101]⟩),.v (.string ⟨#[110,111,116,95,102,111,117,110,100]⟩),.v (.string ⟨#[101,120,105,115,116,115]⟩),.v (.string ⟨#[100,101,110,105,101,100]⟩),.v (.string ⟨#[101,120,104,97,117,115,116,101,100]⟩),.v (.string ⟨#[102,97,105,108,101,100]⟩),.v (.string ⟨#[97,98,111,114,116,101,100]⟩),.v (.string ⟨#[117,110,105,109,112,108,101,109,101,110,116,101,100]⟩),.v (.string ⟨#[105,110,116,101,114,110,97,108]⟩),.v (.string ⟨#[117,110,97,118,97,105,108,97,98,108,101]⟩),.v (.string ⟨#[100,97,116,97,95,108,111,115,115]⟩)])]
theorem pg{P:Program}{gl:List (Nat × List AV)}{f:FuncId}{a:List AV}{r:AV}(h:C5 P [] f a r):C5 P gl f a r:=⟨h.1,fun w outer cargs ho _ hr=>h.2 w outer cargs ho (fun g cells hg=>by cases hg) hr⟩
theorem pgX{P:Program}{f:FuncId}{a:List AV}{α:Type}{e:α->AV}{W:α->Prop}(mg:Int)(h:∃y,C5 P [] f a (e y)/\W y):∃y,C5 P (GLm mg) f a (e y)/\W y:=h.imp fun _ h=>⟨pg h.1,h.2⟩
def e3(r:Bool):AV:=.v (.bool r)
def a4u(mg:Int)(s:A2)(l:(List B4))(r:Bool):Prop:=C5 Tryz.prog (GLm mg) 3 [.agg (A4 s),.sl (List.map B9 l) .no] (e3 r)
def e4(r:Bool):AV:=.v (.bool r)
def e5(r:Bool):AV:=.v (.bool r)
def e6(r:Bool):AV:=.v (.bool r)
def b4a(s:A2)(l:(List B4))(r:Bool):Prop:=C5 Tryz.prog [] 6 [.agg (A4 s),.sl (List.map B9 l) .no] (e6 r)
def e7(r:Bool):AV:=.v (.bool r)
def b19(mg:Int)(r:Bool):Prop:=C5 Tryz.prog (GLm mg) 7 [] (e7 r)
def e8(r:Int):AV:=.v (.int .i64 r)
def a61(mg:Int)(s:A2)(l:(List B4))(r:Int):Prop:=C5 Tryz.prog (GLm mg) 8 [.agg (A4 s),.sl (List.map B9 l) .no] (e8 r)
def e9(r:Int):AV:=.v (.int .i64 r)
def b1i(s:A2)(l:(List B4))(r:Int):Prop:=C5 Tryz.prog [] 9 [.agg (A4 s),.sl (List.map B9 l) .no] (e9 r)
def e10(r:Bool):AV:=.v (.bool r)
def b0z(l:(List B4))(r:Bool):Prop:=C5 Tryz.prog [] 10 [.sl (List.map B9 l) .no] (e10 r)
def e14(r:Bool):AV:=.v (.bool r)
def b1n(s:A2)(r:Bool):Prop:=C5 Tryz.prog [] 14 [.agg (A4 s)] (e14 r)
def e15(r:Bool):AV:=.v (.bool r)
def b2i(s:A2)(r:Bool):Prop:=C5 Tryz.prog [] 15 [.agg (A4 s)] (e15 r)
def e23(r:Int):AV:=.v (.int .i64 r)
def a1g(mg:Int)(s:A2)(r_:B4)(r:Int):Prop:=C5 Tryz.prog (GLm mg) 23 [.agg (A4 s),.agg (B9 r_)] (e23 r)
def e24(r:Bool):AV:=.v (.bool r)
def I6(mg:Int)(s:(List B4))(f:GFn)(r:Bool):Prop:=C5 Tryz.prog (GLm mg) 24 [.sl (List.map B9 s) .no,.clo (.func f.fn) f.fi f.cap] (e24 r)
def e25(r:Bool):AV:=.v (.bool r)
def a4b(mg:Int)(old:B4)(c1_:B4)(r:Bool):Prop:=C5 Tryz.prog (GLm mg) 25 [.agg (B9 old),.elt (B9 c1_) 0] (e25 r)
def e26(r:Bool):AV:=.v (.bool r)
def a4i(mg:Int)(a:B4)(b:B4)(r:Bool):Prop:=C5 Tryz.prog (GLm mg) 26 [.agg (B9 a),.agg (B9 b)] (e26 r)
def e27(r:Int):AV:=.v (.int .i64 r)
def b08(s:A2)(r_:B4)(r:Int):Prop:=C5 Tryz.prog [] 27 [.agg (A4 s),.agg (B9 r_)] (e27 r)
def e28(r:Bool):AV:=.v (.bool r)
def a86(a:B4)(b:B4)(r:Bool):Prop:=C5 Tryz.prog [] 28 [.agg (B9 a),.agg (B9 b)] (e28 r)
def e31(r:Int):AV:=.v (.int .i64 r)
def L1(l:(List D7))(left:Int)(r:Int):Prop:=C5 Tryz.prog [] 31 [.sl (List.map E0 l) .no,.v (.int .i64 left)] (e31 r)
def e32(r:Int):AV:=.v (.int .i64 r)
def J6(l:(List ByteArray))(left:Int)(r:Int):Prop:=C5 Tryz.prog [] 32 [.sl (List.map J4 l) .no,.v (.int .i64 left)] (e32 r)
def e33(r:(List B1)):AV:=.sl (List.map E3 r) .no
def c45(s:A2)(r:(List B1)):Prop:=C5 Tryz.prog [] 33 [.agg (A4 s)] (e33 r)
def e35(r:ByteArray):AV:=.v (.string r)
def b13(service:ByteArray)(method:ByteArray)(r:ByteArray):Prop:=C5 Tryz.prog [] 35 [.v (.string service),.v (.string method)] (e35 r)
def e36(r:(C8 × Int)):AV:=.tuple [.agg (H1 r.1),.v (.int .i64 r.2)]
def b01(mg:Int)(s:A2)(path:ByteArray)(r:(C8 × Int)):Prop:=C5 Tryz.prog (GLm mg) 36 [.agg (A4 s),.v (.string path)] (e36 r)
def e50(r:Bool):AV:=.v (.bool r)
def a63(c:Int)(r:Bool):Prop:=C5 Tryz.prog [] 50 [.v (.int .u8 c)] (e50 r)
def e52(r:((List ByteArray) × Bool)):AV:=.tuple [.sl (List.map J4 r.1) .no,.v (.bool r.2)]
def P2(mg:Int)(path:ByteArray)(r:((List ByteArray) × Bool)):Prop:=C5 Tryz.prog (GLm mg) 52 [.v (.string path)] (e52 r)
def e53(r:Bool):AV:=.v (.bool r)
def J7(s:(List ByteArray))(v:ByteArray)(r:Bool):Prop:=C5 Tryz.prog [] 53 [.sl (List.map J4 s) .no,.v (.string v)] (e53 r)
def e54(r:((List (List Int)) × Int)):AV:=.tuple [.sl (List.map (eL G0) r.1) .no,.v (.int .i64 r.2)]
def S7(mg:Int)(s:A2)(in_:ByteArray)(r_:B4)(r:((List (List Int)) × Int)):Prop:=C5 Tryz.prog (GLm mg) 54 [.agg (A4 s),.v (.string in_),.agg (B9 r_)] (e54 r)
def e55(r:(A5 × Bool)):AV:=.tuple [.agg (C0 r.1),.v (.bool r.2)]
def a5w(s:A2)(in_:ByteArray)(r_:B4)(r:(A5 × Bool)):Prop:=C5 Tryz.prog [] 55 [.agg (A4 s),.v (.string in_),.agg (B9 r_)] (e55 r)
def e56(r:Bool):AV:=.v (.bool r)
def F1(s:(List (List Int)))(f:GFn)(r:Bool):Prop:=C5 Tryz.prog [] 56 [.sl (List.map (eL G0) s) .no,.clo (.func f.fn) f.fi f.cap] (e56 r)
def e57(r:Bool):AV:=.v (.bool r)
def W8(n:(List Int))(c1_:A5)(r:Bool):Prop:=C5 Tryz.prog [] 57 [.sl (List.map G0 n) .no,.elt (C0 c1_) 0] (e57 r)
def e58(r:Int):AV:=.v (.int .i64 r)
def Q9(mg:Int)(s:(List B4))(f:GFn)(r:Int):Prop:=C5 Tryz.prog (GLm mg) 58 [.sl (List.map B9 s) .no,.clo (.func f.fn) f.fi f.cap] (e58 r)
def e59(r:Bool):AV:=.v (.bool r)
def V0(segment:ByteArray)(r:Bool):Prop:=C5 Tryz.prog [] 59 [.v (.string segment)] (e59 r)
def e60(r:((List ByteArray) × Bool)):AV:=.tuple [.sl (List.map J4 r.1) .no,.v (.bool r.2)]
def a1e(path:ByteArray)(r:((List ByteArray) × Bool)):Prop:=C5 Tryz.prog [] 60 [.v (.string path)] (e60 r)
def e61(r:Bool):AV:=.v (.bool r)
def c1x(s:ByteArray)(r:Bool):Prop:=C5 Tryz.prog [] 61 [.v (.string s)] (e61 r)
def e62(r:(C8 × Int)):AV:=.tuple [.agg (H1 r.1),.v (.int .i64 r.2)]
def b4m(s:A2)(path:ByteArray)(r:(C8 × Int)):Prop:=C5 Tryz.prog [] 62 [.agg (A4 s),.v (.string path)] (e62 r)
def e63(r:ByteArray):AV:=.v (.string r)
def b4w(service:ByteArray)(method:ByteArray)(r:ByteArray):Prop:=C5 Tryz.prog [] 63 [.v (.string service),.v (.string method)] (e63 r)
def e64(r:Int):AV:=.v (.int .i64 r)
def a9i(s:A2)(in_:ByteArray)(r_:B4)(l:(List ByteArray))(r:Int):Prop:=C5 Tryz.prog [] 64 [.agg (A4 s),.v (.string in_),.agg (B9 r_),.sl (List.map J4 l) .no] (e64 r)
def e65(r:Bool):AV:=.v (.bool r)
def a0p(s:ByteArray)(r:Bool):Prop:=C5 Tryz.prog [] 65 [.v (.string s)] (e65 r)
def e66(r:((List ByteArray) × Bool)):AV:=.tuple [.sl (List.map J4 r.1) .no,.v (.bool r.2)]
def a22(path:ByteArray)(r:((List ByteArray) × Bool)):Prop:=C5 Tryz.prog [] 66 [.v (.string path)] (e66 r)
def e67(r:(ByteArray × Bool)):AV:=.tuple [.v (.string r.1),.v (.bool r.2)]
def Y6(mg:Int)(segment:ByteArray)(r:(ByteArray × Bool)):Prop:=C5 Tryz.prog (GLm mg) 67 [.v (.string segment)] (e67 r)
def e68(r:((List ByteArray) × Bool)):AV:=.tuple [.sl (List.map J4 r.1) .no,.v (.bool r.2)]
def b0q(x0:ByteArray)(r:((List ByteArray) × Bool)):Prop:=C5 Tryz.prog [] 68 [.v (.string x0)] (e68 r)
def e69(r:ByteArray):AV:=.v (.string r)
def X3(s:ByteArray)(r:ByteArray):Prop:=C5 Tryz.prog [] 69 [.v (.string s)] (e69 r)
def e71(r:(List ByteArray)):AV:=.sl (List.map J4 r) .no
def a1t(s:A2)(which:Int)(r:(List ByteArray)):Prop:=C5 Tryz.prog [] 71 [.agg (A4 s),.v (.int .i64 which)] (e71 r)
def e72(r:G1):AV:=.tuple []
theorem j43(r:G1):plain (e72 r)=true:=rfl
def B2(p:G1)(bad:Bool)(num:Int)(e_:Int)(r:G1):Prop:=c01 Tryz.prog [] 72 [.ptr 0 0,.v (.bool bad),.v (.int .i64 num),.v (.int .i64 e_)] (U7 p) (b0m p) (e72 r) (U7 r) (b0m r)
def e73(r:Bool):AV:=.v (.bool r)
def a4t(l:(List ByteArray))(r:Bool):Prop:=C5 Tryz.prog [] 73 [.sl (List.map J4 l) .no] (e73 r)
def e74(r:Bool):AV:=.v (.bool r)
def a6c(a:(List ByteArray))(b:(List ByteArray))(r:Bool):Prop:=C5 Tryz.prog [] 74 [.sl (List.map J4 a) .no,.sl (List.map J4 b) .no] (e74 r)
def e75(r:(List Bool)):AV:=.sl (List.map a4w r) .no
def a8u(s:A2)(r:(List Bool)):Prop:=C5 Tryz.prog [] 75 [.agg (A4 s)] (e75 r)
def e76(r:(List B1)):AV:=.sl (List.map E3 r) .no
def a65(s:A2)(m:A9)(finite:(List Bool))(r:(List B1)):Prop:=C5 Tryz.prog [] 76 [.agg (A4 s),.agg (C6 m),.sl (List.map a4w finite) .no] (e76 r)
def e77(r:(List B1)):AV:=.sl (List.map E3 r) .no
def b49(e_:a20)(r:(List B1)):Prop:=C5 Tryz.prog [] 77 [.agg (a1m e_)] (e77 r)
def e78(r:(List B1)):AV:=.sl (List.map E3 r) .no
def a7j(s:A2)(v:C4)(r:(List B1)):Prop:=C5 Tryz.prog [] 78 [.agg (A4 s),.agg (D9 v)] (e78 r)
def e79(r:(ByteArray × ByteArray × Bool)):AV:=.tuple [.v (.string r.1),.v (.string r.2.1),.v (.bool r.2.2)]
def strings_Cut(mg:Int)(x0:ByteArray)(x1:ByteArray)(r:(ByteArray × ByteArray × Bool)):Prop:=C5 Tryz.prog (GLm mg) 79 [.v (.string x0),.v (.string x1)] (e79 r)
def e80(r:Bool):AV:=.v (.bool r)
def a5f(mg:Int)(s:ByteArray)(r:Bool):Prop:=C5 Tryz.prog (GLm mg) 80 [.v (.string s)] (e80 r)
def e81(r:Bool):AV:=.v (.bool r)
def a5j(s:ByteArray)(r:Bool):Prop:=C5 Tryz.prog [] 81 [.v (.string s)] (e81 r)
def e82(r:(C8 × Bool)):AV:=.tuple [.agg (H1 r.1),.v (.bool r.2)]
def b11(mg:Int)(s:A2)(path:ByteArray)(r:(C8 × Bool)):Prop:=C5 Tryz.prog (GLm mg) 82 [.agg (A4 s),.v (.string path)] (e82 r)
def e86(r:((List A5) × Int)):AV:=.tuple [.sl (List.map C0 r.1) .no,.v (.int .i64 r.2)]
def b7q(mg:Int)(s:A2)(name:ByteArray)(path:ByteArray)(r:((List A5) × Int)):Prop:=C5 Tryz.prog (GLm mg) 86 [.agg (A4 s),.v (.string name),.v (.string path)] (e86 r)
def e87(r:(List Int)):AV:=.sl (List.map G0 r) .no
def a4n(l:(List A5))(r:(List Int)):Prop:=C5 Tryz.prog [] 87 [.sl (List.map C0 l) .no] (e87 r)
def e91(r:Bool):AV:=.v (.bool r)
def a5y(f:A5)(r:Bool):Prop:=C5 Tryz.prog [] 91 [.agg (C0 f)] (e91 r)
def e93(r:(A9 × Bool)):AV:=.tuple [.agg (C6 r.1),.v (.bool r.2)]
def a2f(s:A2)(name:ByteArray)(r:(A9 × Bool)):Prop:=C5 Tryz.prog [] 93 [.agg (A4 s),.v (.string name)] (e93 r)
def n13(r:Int):AV:=.v (.int .i64 r)
def T7(s:(List ByteArray))(v:ByteArray)(r:Int):Prop:=C5 Tryz.prog [] 117 [.sl (List.map J4 s) .no,.v (.string v)] (n13 r)
def n6k(r:(List ByteArray)):AV:=.sl (List.map J4 r) .no
def a1q(mg:Int)(path:ByteArray)(r:(List ByteArray)):Prop:=C5 Tryz.prog (GLm mg) 118 [.v (.string path)] (n6k r)
def o2x(r:Bool):AV:=.v (.bool r)
def b0k(f:A5)(r:Bool):Prop:=C5 Tryz.prog [] 119 [.agg (C0 f)] (o2x r)
def o29(r:Bool):AV:=.v (.bool r)
def a0b(old:(List Int))(c1_:(List Int))(r:Bool):Prop:=C5 Tryz.prog [] 120 [.sl (List.map G0 old) .no,.elt ((eL G0) c1_) 0] (o29 r)
def n0i(r:Bool):AV:=.v (.bool r)
def U2(s1_:(List Int))(s2_:(List Int))(r:Bool):Prop:=C5 Tryz.prog [] 121 [.sl (List.map G0 s1_) .no,.sl (List.map G0 s2_) .no] (n0i r)
def o25(r:(A5 × Bool)):AV:=.tuple [.agg (C0 r.1),.v (.bool r.2)]
def a03(m:A9)(name:ByteArray)(r:(A5 × Bool)):Prop:=C5 Tryz.prog [] 122 [.agg (C6 m),.v (.string name)] (o25 r)
def n96(r:Int):AV:=.v (.int .i64 r)
def V1(s:(List (List Int)))(f:GFn)(r:Int):Prop:=C5 Tryz.prog [] 123 [.sl (List.map (eL G0) s) .no,.clo (.func f.fn) f.fi f.cap] (n96 r)
def m1m(r:Bool):AV:=.v (.bool r)
def a0c(s:ByteArray)(r:Bool):Prop:=C5 Tryz.prog [] 124 [.v (.string s)] (m1m r)
def n90(r:Bool):AV:=.v (.bool r)
def U9(s:ByteArray)(r:Bool):Prop:=C5 Tryz.prog [] 125 [.v (.string s)] (n90 r)
def o0u(r:(C8 × Bool)):AV:=.tuple [.agg (H1 r.1),.v (.bool r.2)]
def a8n(s:A2)(path:ByteArray)(r:(C8 × Bool)):Prop:=C5 Tryz.prog [] 126 [.agg (A4 s),.v (.string path)] (o0u r)
def m89(r:(List ByteArray)):AV:=.sl (List.map J4 r) .no
def a40(l:(List ByteArray))(r:(List ByteArray)):Prop:=C5 Tryz.prog [] 127 [.sl (List.map J4 l) .no] (m89 r)
def m6x(r:((List A5) × Int)):AV:=.tuple [.sl (List.map C0 r.1) .no,.v (.int .i64 r.2)]
def a6w(s:A2)(name:ByteArray)(path:ByteArray)(r:((List A5) × Int)):Prop:=C5 Tryz.prog [] 128 [.agg (A4 s),.v (.string name),.v (.string path)] (m6x r)
def o2p(r:Bool):AV:=.v (.bool r)
def a8h(f:A5)(r:Bool):Prop:=C5 Tryz.prog [] 129 [.agg (C0 f)] (o2p r)
def o2d(r:Bool):AV:=.v (.bool r)
def a6x(t:a4m)(r:Bool):Prop:=C5 Tryz.prog [] 130 [.agg (a7d t)] (o2d r)
def m1s(r:Bool):AV:=.v (.bool r)
def b46(a:(List A5))(b:(List A5))(r:Bool):Prop:=C5 Tryz.prog [] 131 [.sl (List.map C0 a) .no,.sl (List.map C0 b) .no] (m1s r)
def o3a(r:(A5 × Bool)):AV:=.tuple [.agg (C0 r.1),.v (.bool r.2)]
def b4s(s:A2)(in_:ByteArray)(r_:B4)(r:(A5 × Bool)):Prop:=C5 Tryz.prog [] 132 [.agg (A4 s),.v (.string in_),.agg (B9 r_)] (o3a r)
def o2j(r:Bool):AV:=.v (.bool r)
def b2c(b:Int)(r:Bool):Prop:=C5 Tryz.prog [] 133 [.v (.int .u8 b)] (o2j r)
def m3v(r:Bool):AV:=.v (.bool r)
def b3g(l:(List ByteArray))(s:ByteArray)(r:Bool):Prop:=C5 Tryz.prog [] 136 [.sl (List.map J4 l) .no,.v (.string s)] (m3v r)
def m71(r:Bool):AV:=.v (.bool r)
def a7m(s:A2)(m:A9)(finite:(List Bool))(r:Bool):Prop:=C5 Tryz.prog [] 137 [.agg (A4 s),.agg (C6 m),.sl (List.map a4w finite) .no] (m71 r)
def m2r(r:Bool):AV:=.v (.bool r)
def a2o(s:ByteArray)(r:Bool):Prop:=C5 Tryz.prog [] 138 [.v (.string s)] (m2r r)
def o2i(r:Bool):AV:=.v (.bool r)
def M6(s:ByteArray)(r:Bool):Prop:=C5 Tryz.prog [] 139 [.v (.string s)] (o2i r)
def m0e(r:Bool):AV:=.v (.bool r)
def a10(l:(List U6))(n:Int)(r:Bool):Prop:=C5 Tryz.prog [] 140 [.sl (List.map P4 l) .no,.v (.int .i64 n)] (m0e r)
def o3h(r:Bool):AV:=.v (.bool r)
def b36(f:A5)(r:Bool):Prop:=C5 Tryz.prog [] 141 [.agg (C0 f)] (o3h r)
def o2k(r:Bool):AV:=.v (.bool r)
def b78(s:A2)(f:A5)(r:Bool):Prop:=C5 Tryz.prog [] 142 [.agg (A4 s),.agg (C0 f)] (o2k r)
def m0k(r:Bool):AV:=.v (.bool r)
def b2f(m:A9)(at_:Int)(r:Bool):Prop:=C5 Tryz.prog [] 143 [.agg (C6 m),.v (.int .i64 at_)] (m0k r)
def l9i(r:Bool):AV:=.v (.bool r)
def b1t(s:A2)(f:A5)(r:Bool):Prop:=C5 Tryz.prog [] 144 [.agg (A4 s),.agg (C0 f)] (l9i r)
def l9n(r:G1):AV:=.tuple []
theorem e5a(r:G1):plain (l9n r)=true:=rfl
def I4(p:G1)(l:(List D7))(target:Int)(num:Int)(r:G1):Prop:=c01 Tryz.prog [] 145 [.ptr 0 0,.sl (List.map E0 l) .no,.v (.int .i64 target),.v (.int .i64 num)] (U7 p) (b0m p) (l9n r) (U7 r) (b0m r)
def j5b(r:G1):AV:=.tuple []
theorem e7r(r:G1):plain (j5b r)=true:=rfl
def Y4(p:G1)(l:(List U6))(least:Int)(most:Int)(r:G1):Prop:=c01 Tryz.prog [] 146 [.ptr 0 0,.sl (List.map P4 l) .no,.v (.int .i64 least),.v (.int .i64 most)] (U7 p) (b0m p) (j5b r) (U7 r) (b0m r)
def o3l(r:Bool):AV:=.v (.bool r)
def a60(s:ByteArray)(r:Bool):Prop:=C5 Tryz.prog [] 147 [.v (.string s)] (o3l r)
def n52(r:Int):AV:=.v (.int .i64 r)
def M4(s:A2)(name:ByteArray)(r:Int):Prop:=C5 Tryz.prog [] 148 [.agg (A4 s),.v (.string name)] (n52 r)
def o6u(r:(List ByteArray)):AV:=.sl (List.map J4 r) .no
def strings_Split(mg:Int)(x0:ByteArray)(x1:ByteArray)(r:(List ByteArray)):Prop:=C5 Tryz.prog (GLm mg) 150 [.v (.string x0),.v (.string x1)] (o6u r)
def o21(r:Int):AV:=.v (.int .i64 r)
def b1d(c:Int)(r:Int):Prop:=C5 Tryz.prog [] 151 [.v (.int .i32 c)] (o21 r)
def o2a(r:(C4 × Bool)):AV:=.tuple [.agg (D9 r.1),.v (.bool r.2)]
def a8x(s:A2)(name:ByteArray)(r:(C4 × Bool)):Prop:=C5 Tryz.prog [] 152 [.agg (A4 s),.v (.string name)] (o2a r)
def m78(r:(C8 × Bool)):AV:=.tuple [.agg (H1 r.1),.v (.bool r.2)]
def a6a(l:(List C8))(is:GFn)(r:(C8 × Bool)):Prop:=C5 Tryz.prog [] 153 [.sl (List.map H1 l) .no,.clo (.func is.fn) is.fi is.cap] (m78 r)
def o27(r:Bool):AV:=.v (.bool r)
def b30(m:C8)(c1_:ByteArray)(r:Bool):Prop:=C5 Tryz.prog [] 154 [.agg (H1 m),.elt (J4 c1_) 0] (o27 r)
def o2f(r:Bool):AV:=.v (.bool r)
def c39(kind:Int)(r:Bool):Prop:=C5 Tryz.prog [] 164 [.v (.int .i64 kind)] (o2f r)
def m1g(r:(A9 × Bool)):AV:=.tuple [.agg (C6 r.1),.v (.bool r.2)]
def a5g(l:(List A9))(is:GFn)(r:(A9 × Bool)):Prop:=C5 Tryz.prog [] 165 [.sl (List.map C6 l) .no,.clo (.func is.fn) is.fi is.cap] (m1g r)
def o18(r:Bool):AV:=.v (.bool r)
def b0t(m:A9)(c1_:ByteArray)(r:Bool):Prop:=C5 Tryz.prog [] 166 [.agg (C6 m),.elt (J4 c1_) 0] (o18 r)
def m0w(r:(A5 × Bool)):AV:=.tuple [.agg (C0 r.1),.v (.bool r.2)]
def a2y(l:(List A5))(is:GFn)(r:(A5 × Bool)):Prop:=C5 Tryz.prog [] 175 [.sl (List.map C0 l) .no,.clo (.func is.fn) is.fi is.cap] (m0w r)
def o3k(r:(B6 × Bool)):AV:=.tuple [.agg (L7 r.1),.v (.bool r.2)]
def b8t(l:(List D7))(name:ByteArray)(r:(B6 × Bool)):Prop:=C5 Tryz.prog [] 192 [.sl (List.map E0 l) .no,.v (.string name)] (o3k r)
def o2s(r:Bool):AV:=.v (.bool r)
def a6g(f:A5)(c1_:ByteArray)(r:Bool):Prop:=C5 Tryz.prog [] 198 [.agg (C0 f),.elt (J4 c1_) 0] (o2s r)
def o3i(r:Bool):AV:=.v (.bool r)
def a6o(f:A5)(c1_:ByteArray)(r:Bool):Prop:=C5 Tryz.prog [] 199 [.agg (C0 f),.elt (J4 c1_) 0] (o3i r)
def o3o(r:Bool):AV:=.v (.bool r)
def b5x(l:(List D7))(name:ByteArray)(r:Bool):Prop:=C5 Tryz.prog [] 200 [.sl (List.map E0 l) .no,.v (.string name)] (o3o r)
def o2q(r:Bool):AV:=.v (.bool r)
def a7a(b:Int)(r:Bool):Prop:=C5 Tryz.prog [] 201 [.v (.int .u8 b)] (o2q r)
def o2c(r:Bool):AV:=.v (.bool r)
def a3o(b:Int)(r:Bool):Prop:=C5 Tryz.prog [] 202 [.v (.int .u8 b)] (o2c r)
def n7i(r:(ByteArray × ByteArray × Bool)):AV:=.tuple [.v (.string r.1),.v (.string r.2.1),.v (.bool r.2.2)]
def a7l(s:ByteArray)(c:Int)(r:(ByteArray × ByteArray × Bool)):Prop:=C5 Tryz.prog [] 203 [.v (.string s),.v (.int .u8 c)] (n7i r)
def m1v(r:(C4 × Bool)):AV:=.tuple [.agg (D9 r.1),.v (.bool r.2)]
def a64(s:A2)(name:ByteArray)(r:(C4 × Bool)):Prop:=C5 Tryz.prog [] 204 [.agg (A4 s),.v (.string name)] (m1v r)
def m0t(r:(A9 × Bool)):AV:=.tuple [.agg (C6 r.1),.v (.bool r.2)]
def a05(s:A2)(name:ByteArray)(r:(A9 × Bool)):Prop:=C5 Tryz.prog [] 205 [.agg (A4 s),.v (.string name)] (m0t r)
def l9f(r:(A5 × Bool)):AV:=.tuple [.agg (C0 r.1),.v (.bool r.2)]
def Y8(m:A9)(name:ByteArray)(r:(A5 × Bool)):Prop:=C5 Tryz.prog [] 206 [.agg (C6 m),.v (.string name)] (l9f r)
def o3j(r:Bool):AV:=.v (.bool r)
def c2u(kind:Int)(r:Bool):Prop:=C5 Tryz.prog [] 207 [.v (.int .i64 kind)] (o3j r)
def m2j(r:(ByteArray × ByteArray)):AV:=.tuple [.v (.string r.1),.v (.string r.2)]
def b17(full:ByteArray)(r:(ByteArray × ByteArray)):Prop:=C5 Tryz.prog [] 208 [.v (.string full)] (m2j r)
def o2w(r:Bool):AV:=.v (.bool r)
def a48(s:ByteArray)(r:Bool):Prop:=C5 Tryz.prog [] 209 [.v (.string s)] (o2w r)
def m9v(r:Int):AV:=.v (.int .i64 r)
def a3z(s:A2)(name:ByteArray)(r:Int):Prop:=C5 Tryz.prog [] 210 [.agg (A4 s),.v (.string name)] (m9v r)
def o3f(r:Bool):AV:=.v (.bool r)
def Y2(a:B6)(b:B6)(r:Bool):Prop:=C5 Tryz.prog [] 211 [.agg (L7 a),.agg (L7 b)] (o3f r)
def o2g(r:Bool):AV:=.v (.bool r)
def a9y(kind:Int)(v:B6)(r:Bool):Prop:=C5 Tryz.prog [] 212 [.v (.int .i64 kind),.agg (L7 v)] (o2g r)
def o26(r:B6):AV:=.agg (L7 r)
def b4p(v:B6)(r:B6):Prop:=C5 Tryz.prog [] 213 [.agg (L7 v)] (o26 r)
def l9o(r:Int):AV:=.v (.int .i64 r)
def b15(l:(List D7))(target:Int)(r:Int):Prop:=C5 Tryz.prog [] 214 [.sl (List.map E0 l) .no,.v (.int .i64 target)] (l9o r)
def m8x(r:Int):AV:=.v (.int .i64 r)
def c4r(s:ByteArray)(r:Int):Prop:=C5 Tryz.prog [] 215 [.v (.string s)] (m8x r)
def n3y(r:(C4 × Bool)):AV:=.tuple [.agg (D9 r.1),.v (.bool r.2)]
def a5d(l:(List C4))(is:GFn)(r:(C4 × Bool)):Prop:=C5 Tryz.prog [] 218 [.sl (List.map D9 l) .no,.clo (.func is.fn) is.fi is.cap] (n3y r)
def o3p(r:Bool):AV:=.v (.bool r)
def b0n(v:C4)(c1_:ByteArray)(r:Bool):Prop:=C5 Tryz.prog [] 219 [.agg (D9 v),.elt (J4 c1_) 0] (o3p r)
def o2b(r:Int):AV:=.v (.int .i64 r)
def c10(l:(List D7))(name:ByteArray)(r:Int):Prop:=C5 Tryz.prog [] 268 [.sl (List.map E0 l) .no,.v (.string name)] (o2b r)
def o22(r:Bool):AV:=.v (.bool r)
def b1w(l:(List D7))(name:ByteArray)(r:Bool):Prop:=C5 Tryz.prog [] 276 [.sl (List.map E0 l) .no,.v (.string name)] (o22 r)
def o3b(r:Bool):AV:=.v (.bool r)
def c13(v:B6)(r:Bool):Prop:=C5 Tryz.prog [] 277 [.agg (L7 v)] (o3b r)
def o2t(r:Bool):AV:=.v (.bool r)
def b9j(kind:Int)(r:Bool):Prop:=C5 Tryz.prog [] 278 [.v (.int .i64 kind)] (o2t r)
def o2y(r:Int):AV:=.v (.int .i64 r)
def b1k(bits:Int)(r:Int):Prop:=C5 Tryz.prog [] 279 [.v (.int .u64 bits)] (o2y r)
def k1b(r:Int):AV:=.v (.int .i64 r)
def a9p(name:ByteArray)(r:Int):Prop:=C5 Tryz.prog [] 280 [.v (.string name)] (k1b r)
def h4d(r:Bool):AV:=.v (.bool r)
def b5p(name:ByteArray)(target:Int)(r:Bool):Prop:=C5 Tryz.prog [] 281 [.v (.string name),.v (.int .i64 target)] (h4d r)
def o24(r:Bool):AV:=.v (.bool r)
def b1s(n:D7)(r:Bool):Prop:=C5 Tryz.prog [] 282 [.agg (E0 n)] (o24 r)
def o20(r:Int):AV:=.v (.int .i64 r)
def b4l(s:ByteArray)(i:Int)(r:Int):Prop:=C5 Tryz.prog [] 283 [.v (.string s),.v (.int .i64 i)] (o20 r)
def n86(r:Int):AV:=.v (.int .i64 r)
def T4(s:(List D7))(f:GFn)(r:Int):Prop:=C5 Tryz.prog [] 344 [.sl (List.map E0 s) .no,.clo (.func f.fn) f.fi f.cap] (n86 r)
def o3g(r:Bool):AV:=.v (.bool r)
def b5y(n:D7)(c1_:ByteArray)(r:Bool):Prop:=C5 Tryz.prog [] 345 [.agg (E0 n),.elt (J4 c1_) 0] (o3g r)
def o2r(r:(B6 × Bool)):AV:=.tuple [.agg (L7 r.1),.v (.bool r.2)]
def b5g(l:(List D7))(name:ByteArray)(r:(B6 × Bool)):Prop:=C5 Tryz.prog [] 358 [.sl (List.map E0 l) .no,.v (.string name)] (o2r r)
def n83(r:Bool):AV:=.v (.bool r)
def V6(s:ByteArray)(i:Int)(n:Int)(r:Bool):Prop:=C5 Tryz.prog [] 359 [.v (.string s),.v (.int .i64 i),.v (.int .i64 n)] (n83 r)
def o3c(r:Bool):AV:=.v (.bool r)
def Q1(s:ByteArray)(i:Int)(lo:Int)(hi:Int)(r:Bool):Prop:=C5 Tryz.prog [] 360 [.v (.string s),.v (.int .i64 i),.v (.int .u8 lo),.v (.int .u8 hi)] (o3c r)
def m6w(r:Int):AV:=.v (.int .i64 r)
def b8l(l:(List D7))(name:ByteArray)(r:Int):Prop:=C5 Tryz.prog [] 415 [.sl (List.map E0 l) .no,.v (.string name)] (m6w r)
theorem pl6{x0:A2}{x1:(List B4)}:plainL [.agg (A4 x0),.sl (List.map B9 x1) .no]=true:=(A7 (C3 x0) (A7 (psl (J3 x1)) rfl))
theorem pl7:plainL []=true:=rfl
theorem pl8{x0:A2}{x1:(List B4)}:plainL [.agg (A4 x0),.sl (List.map B9 x1) .no]=true:=(A7 (C3 x0) (A7 (psl (J3 x1)) rfl))
theorem pl9{x0:A2}{x1:(List B4)}:plainL [.agg (A4 x0),.sl (List.map B9 x1) .no]=true:=(A7 (C3 x0) (A7 (psl (J3 x1)) rfl))
theorem o38{x0:(List B4)}:plainL [.sl (List.map B9 x0) .no]=true:=(A7 (psl (J3 x0)) rfl)
theorem o6c{x0:A2}:plainL [.agg (A4 x0)]=true:=(A7 (C3 x0) rfl)
theorem o58{x0:A2}:plainL [.agg (A4 x0)]=true:=(A7 (C3 x0) rfl)
theorem o4l{x0:A2}{x1:B4}:plainL [.agg (A4 x0),.agg (B9 x1)]=true:=(A7 (C3 x0) (A7 (G9 x1) rfl))
theorem o4i{x0:(List B4)}{x1:GFn}:plainL [.sl (List.map B9 x0) .no,.clo (.func x1.fn) x1.fi x1.cap]=true:=(A7 (psl (J3 x0)) (A7 (b31 x1) rfl))
theorem o4h{x0:B4}{x1:B4}:plainL [.agg (B9 x0),.agg (B9 x1)]=true:=(A7 (G9 x0) (A7 (G9 x1) rfl))
theorem o3u{x0:A2}{x1:B4}:plainL [.agg (A4 x0),.agg (B9 x1)]=true:=(A7 (C3 x0) (A7 (G9 x1) rfl))
theorem o6d{x0:B4}{x1:B4}:plainL [.agg (B9 x0),.agg (B9 x1)]=true:=(A7 (G9 x0) (A7 (G9 x1) rfl))
theorem h39{x0:(List D7)}{x1:Int}:plainL [.sl (List.map E0 x0) .no,.v (.int .i64 x1)]=true:=(A7 (psl (E4 x0)) (A7 rfl rfl))
theorem h29{x0:(List ByteArray)}{x1:Int}:plainL [.sl (List.map J4 x0) .no,.v (.int .i64 x1)]=true:=(A7 (psl (F4 x0)) (A7 rfl rfl))
theorem o41{x0:A2}:plainL [.agg (A4 x0)]=true:=(A7 (C3 x0) rfl)
theorem o6l{x0:ByteArray}{x1:ByteArray}:plainL [.v (.string x0),.v (.string x1)]=true:=(A7 rfl (A7 rfl rfl))
theorem o4s{x0:A2}{x1:ByteArray}:plainL [.agg (A4 x0),.v (.string x1)]=true:=(A7 (C3 x0) (A7 rfl rfl))
theorem o7j{x0:Int}:plainL [.v (.int .u8 x0)]=true:=(A7 rfl rfl)
theorem l9h{x0:ByteArray}:plainL [.v (.string x0)]=true:=(A7 rfl rfl)
theorem o5n{x0:(List ByteArray)}{x1:ByteArray}:plainL [.sl (List.map J4 x0) .no,.v (.string x1)]=true:=(A7 (psl (F4 x0)) (A7 rfl rfl))
theorem o5v{x0:A2}{x1:ByteArray}{x2:B4}:plainL [.agg (A4 x0),.v (.string x1),.agg (B9 x2)]=true:=(A7 (C3 x0) (A7 rfl (A7 (G9 x2) rfl)))
theorem o4e{x0:A2}{x1:ByteArray}{x2:B4}:plainL [.agg (A4 x0),.v (.string x1),.agg (B9 x2)]=true:=(A7 (C3 x0) (A7 rfl (A7 (G9 x2) rfl)))
theorem o2z{x0:(List (List Int))}{x1:GFn}:plainL [.sl (List.map (eL G0) x0) .no,.clo (.func x1.fn) x1.fi x1.cap]=true:=(A7 (psl (d97 _ (fun l=>D6 l) x0)) (A7 (b31 x1) rfl))
theorem o4z{x0:(List B4)}{x1:GFn}:plainL [.sl (List.map B9 x0) .no,.clo (.func x1.fn) x1.fi x1.cap]=true:=(A7 (psl (J3 x0)) (A7 (b31 x1) rfl))
theorem m7w{x0:ByteArray}:plainL [.v (.string x0)]=true:=(A7 rfl rfl)
theorem o1k{x0:ByteArray}:plainL [.v (.string x0)]=true:=(A7 rfl rfl)
theorem o4v{x0:ByteArray}:plainL [.v (.string x0)]=true:=(A7 rfl rfl)
theorem o6n{x0:A2}{x1:ByteArray}:plainL [.agg (A4 x0),.v (.string x1)]=true:=(A7 (C3 x0) (A7 rfl rfl))
theorem o5t{x0:ByteArray}{x1:ByteArray}:plainL [.v (.string x0),.v (.string x1)]=true:=(A7 rfl (A7 rfl rfl))
theorem o6q{x0:A2}{x1:ByteArray}{x2:B4}{x3:(List ByteArray)}:plainL [.agg (A4 x0),.v (.string x1),.agg (B9 x2),.sl (List.map J4 x3) .no]=true:=(A7 (C3 x0) (A7 rfl (A7 (G9 x2) (A7 (psl (F4 x3)) rfl))))
theorem n9p{x0:ByteArray}:plainL [.v (.string x0)]=true:=(A7 rfl rfl)
theorem o32{x0:ByteArray}:plainL [.v (.string x0)]=true:=(A7 rfl rfl)
theorem o19{x0:ByteArray}:plainL [.v (.string x0)]=true:=(A7 rfl rfl)
theorem o5x{x0:ByteArray}:plainL [.v (.string x0)]=true:=(A7 rfl rfl)
theorem n0h{x0:ByteArray}:plainL [.v (.string x0)]=true:=(A7 rfl rfl)
theorem l9g{x0:A2}{x1:Int}:plainL [.agg (A4 x0),.v (.int .i64 x1)]=true:=(A7 (C3 x0) (A7 rfl rfl))
theorem V3{x0:G1}{x1:Bool}{x2:Int}{x3:Int}{r:G1}:(U7 x0).all ok1=true/\(U7 r).all ok1=true/\List.all [.ptr 0 0,.v (.bool x1),.v (.int .i64 x2),.v (.int .i64 x3)] okA=true/\plain (e72 r)=true:=⟨a3w _,a3w _,a7q rfl (a7q (a0n rfl) (a7q (a0n rfl) (a7q (a0n rfl) rfl))),j43 r⟩
theorem o4p{x0:(List ByteArray)}:plainL [.sl (List.map J4 x0) .no]=true:=(A7 (psl (F4 x0)) rfl)
theorem m63{x0:(List ByteArray)}{x1:(List ByteArray)}:plainL [.sl (List.map J4 x0) .no,.sl (List.map J4 x1) .no]=true:=(A7 (psl (F4 x0)) (A7 (psl (F4 x1)) rfl))
theorem o5s{x0:A2}:plainL [.agg (A4 x0)]=true:=(A7 (C3 x0) rfl)
theorem o7d{x0:A2}{x1:A9}{x2:(List Bool)}:plainL [.agg (A4 x0),.agg (C6 x1),.sl (List.map a4w x2) .no]=true:=(A7 (C3 x0) (A7 (D5 x1) (A7 (psl (H3 x2)) rfl)))
theorem o3x{x0:a20}:plainL [.agg (a1m x0)]=true:=(A7 (P7 x0) rfl)
theorem o43{x0:A2}{x1:C4}:plainL [.agg (A4 x0),.agg (D9 x1)]=true:=(A7 (C3 x0) (A7 (H0 x1) rfl))
theorem o2n{x0:ByteArray}{x1:ByteArray}:plainL [.v (.string x0),.v (.string x1)]=true:=(A7 rfl (A7 rfl rfl))
theorem o2v{x0:ByteArray}:plainL [.v (.string x0)]=true:=(A7 rfl rfl)
theorem o2e{x0:ByteArray}:plainL [.v (.string x0)]=true:=(A7 rfl rfl)
theorem o3w{x0:A2}{x1:ByteArray}:plainL [.agg (A4 x0),.v (.string x1)]=true:=(A7 (C3 x0) (A7 rfl rfl))
theorem o7g{x0:A2}{x1:ByteArray}{x2:ByteArray}:plainL [.agg (A4 x0),.v (.string x1),.v (.string x2)]=true:=(A7 (C3 x0) (A7 rfl (A7 rfl rfl)))
theorem o5h{x0:(List A5)}:plainL [.sl (List.map C0 x0) .no]=true:=(A7 (psl (E7 x0)) rfl)
theorem o6v{x0:A5}:plainL [.agg (C0 x0)]=true:=(A7 (D8 x0) rfl)
theorem n5b{x0:A2}{x1:ByteArray}:plainL [.agg (A4 x0),.v (.string x1)]=true:=(A7 (C3 x0) (A7 rfl rfl))
theorem n1t{x0:(List ByteArray)}{x1:ByteArray}:plainL [.sl (List.map J4 x0) .no,.v (.string x1)]=true:=(A7 (psl (F4 x0)) (A7 rfl rfl))
theorem m2n{x0:ByteArray}:plainL [.v (.string x0)]=true:=(A7 rfl rfl)
theorem m86{x0:A5}:plainL [.agg (C0 x0)]=true:=(A7 (D8 x0) rfl)
theorem m85{x0:(List Int)}{x1:(List Int)}:plainL [.sl (List.map G0 x0) .no,.sl (List.map G0 x1) .no]=true:=(A7 (psl (D6 x0)) (A7 (psl (D6 x1)) rfl))
theorem i8n{x0:A9}{x1:ByteArray}:plainL [.agg (C6 x0),.v (.string x1)]=true:=(A7 (D5 x0) (A7 rfl rfl))
theorem m0o{x0:(List (List Int))}{x1:GFn}:plainL [.sl (List.map (eL G0) x0) .no,.clo (.func x1.fn) x1.fi x1.cap]=true:=(A7 (psl (d97 _ (fun l=>D6 l) x0)) (A7 (b31 x1) rfl))
theorem g5a{x0:ByteArray}:plainL [.v (.string x0)]=true:=(A7 rfl rfl)
theorem d9t{x0:ByteArray}:plainL [.v (.string x0)]=true:=(A7 rfl rfl)
theorem n3l{x0:A2}{x1:ByteArray}:plainL [.agg (A4 x0),.v (.string x1)]=true:=(A7 (C3 x0) (A7 rfl rfl))
theorem o1v{x0:(List ByteArray)}:plainL [.sl (List.map J4 x0) .no]=true:=(A7 (psl (F4 x0)) rfl)
theorem f8r{x0:A2}{x1:ByteArray}{x2:ByteArray}:plainL [.agg (A4 x0),.v (.string x1),.v (.string x2)]=true:=(A7 (C3 x0) (A7 rfl (A7 rfl rfl)))
theorem n3k{x0:A5}:plainL [.agg (C0 x0)]=true:=(A7 (D8 x0) rfl)
theorem n9i{x0:a4m}:plainL [.agg (a7d x0)]=true:=(A7 (G5 x0) rfl)
theorem n73{x0:(List A5)}{x1:(List A5)}:plainL [.sl (List.map C0 x0) .no,.sl (List.map C0 x1) .no]=true:=(A7 (psl (E7 x0)) (A7 (psl (E7 x1)) rfl))
theorem m3q{x0:A2}{x1:ByteArray}{x2:B4}:plainL [.agg (A4 x0),.v (.string x1),.agg (B9 x2)]=true:=(A7 (C3 x0) (A7 rfl (A7 (G9 x2) rfl)))
theorem m5e{x0:Int}:plainL [.v (.int .u8 x0)]=true:=(A7 rfl rfl)
theorem h5a{x0:(List ByteArray)}{x1:ByteArray}:plainL [.sl (List.map J4 x0) .no,.v (.string x1)]=true:=(A7 (psl (F4 x0)) (A7 rfl rfl))
theorem k3q{x0:A2}{x1:A9}{x2:(List Bool)}:plainL [.agg (A4 x0),.agg (C6 x1),.sl (List.map a4w x2) .no]=true:=(A7 (C3 x0) (A7 (D5 x1) (A7 (psl (H3 x2)) rfl)))
theorem g2n{x0:ByteArray}:plainL [.v (.string x0)]=true:=(A7 rfl rfl)
theorem d79{x0:ByteArray}:plainL [.v (.string x0)]=true:=(A7 rfl rfl)
theorem i85{x0:(List U6)}{x1:Int}:plainL [.sl (List.map P4 x0) .no,.v (.int .i64 x1)]=true:=(A7 (psl (I9 x0)) (A7 rfl rfl))
theorem m54{x0:A5}:plainL [.agg (C0 x0)]=true:=(A7 (D8 x0) rfl)
theorem m3k{x0:A2}{x1:A5}:plainL [.agg (A4 x0),.agg (C0 x1)]=true:=(A7 (C3 x0) (A7 (D8 x1) rfl))
theorem m32{x0:A9}{x1:Int}:plainL [.agg (C6 x0),.v (.int .i64 x1)]=true:=(A7 (D5 x0) (A7 rfl rfl))
theorem n2a{x0:A2}{x1:A5}:plainL [.agg (A4 x0),.agg (C0 x1)]=true:=(A7 (C3 x0) (A7 (D8 x1) rfl))
theorem c12{x0:G1}{x1:(List D7)}{x2:Int}{x3:Int}{r:G1}:(U7 x0).all ok1=true/\(U7 r).all ok1=true/\List.all [.ptr 0 0,.sl (List.map E0 x1) .no,.v (.int .i64 x2),.v (.int .i64 x3)] okA=true/\plain (l9n r)=true:=⟨a3w _,a3w _,a7q rfl (a7q (a0n (psl (E4 x1))) (a7q (a0n rfl) (a7q (a0n rfl) rfl))),e5a r⟩
theorem e4e{x0:G1}{x1:(List U6)}{x2:Int}{x3:Int}{r:G1}:(U7 x0).all ok1=true/\(U7 r).all ok1=true/\List.all [.ptr 0 0,.sl (List.map P4 x1) .no,.v (.int .i64 x2),.v (.int .i64 x3)] okA=true/\plain (j5b r)=true:=⟨a3w _,a3w _,a7q rfl (a7q (a0n (psl (I9 x1))) (a7q (a0n rfl) (a7q (a0n rfl) rfl))),e7r r⟩
theorem h81{x0:ByteArray}:plainL [.v (.string x0)]=true:=(A7 rfl rfl)
theorem d7c{x0:A2}{x1:ByteArray}:plainL [.agg (A4 x0),.v (.string x1)]=true:=(A7 (C3 x0) (A7 rfl rfl))
theorem h5o{x0:ByteArray}{x1:ByteArray}:plainL [.v (.string x0),.v (.string x1)]=true:=(A7 rfl (A7 rfl rfl))
theorem n8s{x0:Int}:plainL [.v (.int .i32 x0)]=true:=(A7 rfl rfl)
theorem m4v{x0:A2}{x1:ByteArray}:plainL [.agg (A4 x0),.v (.string x1)]=true:=(A7 (C3 x0) (A7 rfl rfl))
theorem l94{x0:(List C8)}{x1:GFn}:plainL [.sl (List.map H1 x0) .no,.clo (.func x1.fn) x1.fi x1.cap]=true:=(A7 (psl (J1 x0)) (A7 (b31 x1) rfl))
theorem l97{x0:Int}:plainL [.v (.int .i64 x0)]=true:=(A7 rfl rfl)
theorem m4a{x0:(List A9)}{x1:GFn}:plainL [.sl (List.map C6 x0) .no,.clo (.func x1.fn) x1.fi x1.cap]=true:=(A7 (psl (F6 x0)) (A7 (b31 x1) rfl))
theorem h6r{x0:(List A5)}{x1:GFn}:plainL [.sl (List.map C0 x0) .no,.clo (.func x1.fn) x1.fi x1.cap]=true:=(A7 (psl (E7 x0)) (A7 (b31 x1) rfl))
theorem n58{x0:(List D7)}{x1:ByteArray}:plainL [.sl (List.map E0 x0) .no,.v (.string x1)]=true:=(A7 (psl (E4 x0)) (A7 rfl rfl))
theorem n14{x0:(List D7)}{x1:ByteArray}:plainL [.sl (List.map E0 x0) .no,.v (.string x1)]=true:=(A7 (psl (E4 x0)) (A7 rfl rfl))
theorem i71{x0:Int}:plainL [.v (.int .u8 x0)]=true:=(A7 rfl rfl)
theorem l65{x0:Int}:plainL [.v (.int .u8 x0)]=true:=(A7 rfl rfl)
theorem h78{x0:ByteArray}{x1:Int}:plainL [.v (.string x0),.v (.int .u8 x1)]=true:=(A7 rfl (A7 rfl rfl))
theorem n2i{x0:A2}{x1:ByteArray}:plainL [.agg (A4 x0),.v (.string x1)]=true:=(A7 (C3 x0) (A7 rfl rfl))
theorem g86{x0:A2}{x1:ByteArray}:plainL [.agg (A4 x0),.v (.string x1)]=true:=(A7 (C3 x0) (A7 rfl rfl))
theorem k5j{x0:A9}{x1:ByteArray}:plainL [.agg (C6 x0),.v (.string x1)]=true:=(A7 (D5 x0) (A7 rfl rfl))
theorem h9p{x0:Int}:plainL [.v (.int .i64 x0)]=true:=(A7 rfl rfl)
theorem o0a{x0:ByteArray}:plainL [.v (.string x0)]=true:=(A7 rfl rfl)
theorem j7f{x0:ByteArray}:plainL [.v (.string x0)]=true:=(A7 rfl rfl)
theorem j4w{x0:A2}{x1:ByteArray}:plainL [.agg (A4 x0),.v (.string x1)]=true:=(A7 (C3 x0) (A7 rfl rfl))
theorem j12{x0:B6}{x1:B6}:plainL [.agg (L7 x0),.agg (L7 x1)]=true:=(A7 (E8 x0) (A7 (E8 x1) rfl))
theorem i47{x0:Int}{x1:B6}:plainL [.v (.int .i64 x0),.agg (L7 x1)]=true:=(A7 rfl (A7 (E8 x1) rfl))
theorem n7d{x0:B6}:plainL [.agg (L7 x0)]=true:=(A7 (E8 x0) rfl)
theorem m2o{x0:(List D7)}{x1:Int}:plainL [.sl (List.map E0 x0) .no,.v (.int .i64 x1)]=true:=(A7 (psl (E4 x0)) (A7 rfl rfl))
theorem n7g{x0:ByteArray}:plainL [.v (.string x0)]=true:=(A7 rfl rfl)
theorem o1t{x0:(List C4)}{x1:GFn}:plainL [.sl (List.map D9 x0) .no,.clo (.func x1.fn) x1.fi x1.cap]=true:=(A7 (psl (I5 x0)) (A7 (b31 x1) rfl))
theorem m50{x0:(List D7)}{x1:ByteArray}:plainL [.sl (List.map E0 x0) .no,.v (.string x1)]=true:=(A7 (psl (E4 x0)) (A7 rfl rfl))
theorem n0e{x0:(List D7)}{x1:ByteArray}:plainL [.sl (List.map E0 x0) .no,.v (.string x1)]=true:=(A7 (psl (E4 x0)) (A7 rfl rfl))
theorem m65{x0:B6}:plainL [.agg (L7 x0)]=true:=(A7 (E8 x0) rfl)
theorem m2c{x0:Int}:plainL [.v (.int .i64 x0)]=true:=(A7 rfl rfl)
theorem m3c{x0:Int}:plainL [.v (.int .u64 x0)]=true:=(A7 rfl rfl)
theorem l8q{x0:ByteArray}:plainL [.v (.string x0)]=true:=(A7 rfl rfl)
theorem m99{x0:ByteArray}{x1:Int}:plainL [.v (.string x0),.v (.int .i64 x1)]=true:=(A7 rfl (A7 rfl rfl))
theorem m2y{x0:D7}:plainL [.agg (E0 x0)]=true:=(A7 (K1 x0) rfl)
theorem n5p{x0:ByteArray}{x1:Int}:plainL [.v (.string x0),.v (.int .i64 x1)]=true:=(A7 rfl (A7 rfl rfl))
theorem n00{x0:(List D7)}{x1:GFn}:plainL [.sl (List.map E0 x0) .no,.clo (.func x1.fn) x1.fi x1.cap]=true:=(A7 (psl (E4 x0)) (A7 (b31 x1) rfl))
theorem m4d{x0:(List D7)}{x1:ByteArray}:plainL [.sl (List.map E0 x0) .no,.v (.string x1)]=true:=(A7 (psl (E4 x0)) (A7 rfl rfl))
theorem c7y{x0:ByteArray}{x1:Int}{x2:Int}:plainL [.v (.string x0),.v (.int .i64 x1),.v (.int .i64 x2)]=true:=(A7 rfl (A7 rfl (A7 rfl rfl)))
theorem d4h{x0:ByteArray}{x1:Int}{x2:Int}{x3:Int}:plainL [.v (.string x0),.v (.int .i64 x1),.v (.int .u8 x2),.v (.int .u8 x3)]=true:=(A7 rfl (A7 rfl (A7 rfl (A7 rfl rfl))))
theorem m2a{x0:(List D7)}{x1:ByteArray}:plainL [.sl (List.map E0 x0) .no,.v (.string x1)]=true:=(A7 (psl (E4 x0)) (A7 rfl rfl))
end Go.Proofs.YtkhgohfaecbgkaaGreatDoor.Lift
