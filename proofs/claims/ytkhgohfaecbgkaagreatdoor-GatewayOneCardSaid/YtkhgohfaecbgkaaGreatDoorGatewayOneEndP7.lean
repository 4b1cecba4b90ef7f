/- Part 8 of the texts that prove GatewayOneEnd. -/
import Derived.Test.YtkhgohfaecbgkaaGreatDoorGatewayOneEndP6
import Derived.Lib.DecodeN
import Derived.Lib.SplitLaws
import Derived.Test.YtkhgohfaecbgkaaGreatDoorRows
import Derived.WalkKit
import Derived.JoinedCond
import Derived.SevenTiedAt
namespace Go.Proofs.YtkhgohfaecbgkaaGreatDoor.Lift
open Go.RowKit
set_option linter.unusedVariables false
set_option linter.unusedSimpArgs false
set_option linter.unnecessarySimpa false
set_option linter.unusedSectionVars false
set_option maxRecDepth 100000
theorem c05(s:ByteArray):s.data.toList.length=s.size:=by simp
theorem b5m(s:ByteArray):(bI s).length=s.size:=by simp[bI]
theorem m4n(s:ByteArray)(p:Nat)(h:p<s.size):(bI s)[p]? =some (s[p].toNat:Int):=by
 unfold bI;have h':p<s.data.toList.length:=by simpa using h
 rw[List.getElem?_map,List.getElem?_eq_getElem h'];rfl
theorem d98(s:ByteArray)(a b:Nat):((bI s).take b).drop a=bI (F1 ((s.data.toList.take b).drop a)):=by
 unfold bI;rw[c02,List.map_drop,List.map_take]
theorem d5d(s:ByteArray)(hs:s.size<=1048576)(f:Nat)(out:List ByteArray):I8 ((s.size+1:Nat):Int) f out s (out,true):=by
 refine O2 _ _ _ _ _ ⟨fun h=>?_,fun _=>rfl⟩;rw[b5m]at h;simp only[decide_eq_true_eq]at h;omega
theorem d3n(s:ByteArray)(hs:s.size<=1048576):∀(k i f:Nat) (out:List ByteArray),i+k=s.size->f<=i->out.length<=f->I8 i f out s (out++(b8b ((s.data.toList.take i).drop f) (b3x (s.data.toList.drop i))).map F1,true)
 |0,i,f,out,hk,hf,ho=>by
  refine O2 _ _ _ _ _ ⟨fun h=>⟨fun b=>b=true,fun b hb=>⟨fun _=>?_,fun hf=>by rw[hb]at hf;cases hf⟩,fun _=>rfl,fun hn=>?_⟩,fun h=>?_⟩
  ·rw[b5m];simp only[Int.toNat_natCast];refine⟨by omega,F1 ((s.data.toList.take i).drop f),d98 s f i,by simp;omega,?_⟩;rw[a4y (by omega),show((i:Int)+1)=((s.size+1:Nat):Int) by omega,show s.data.toList.drop i=[] from List.drop_eq_nil_of_le (by rw[c05];omega),d31];exact d5d s hs _ _
  ·rw[b5m]at hn;simp only[beq_eq_false_iff_ne,ne_eq]at hn;omega
  ·rw[b5m]at h;simp only[decide_eq_false_iff_not]at h;omega
 |k+1,i,f,out,hk,hf,ho=>by
  have hi:i<s.size:=by omega
  have hw:wI ((i:Int)+1)=((i+1:Nat):Int):=by rw[a4y (by omega)];omega
  have hc:=s[i].toNat_lt;refine O2 _ _ _ _ _ ⟨fun h=>⟨fun b=>b=decide (s[i]=47),fun b hb=>⟨fun ht=>?_,fun hn=>?_⟩,fun he=>?_,fun hn=>⟨_,by rw[Int.toNat_natCast];exact m4n s i hi,by omega,?_⟩⟩,fun h=>?_⟩
  ·rw[b5m];simp only[Int.toNat_natCast];have h47:s[i]=47:=by rw[hb]at ht;simpa using ht
   refine⟨by omega,F1 ((s.data.toList.take i).drop f),d98 s f i,by simp;omega,?_⟩;rw[hw,P6 s i hi,h47,c8w];have:=d3n s hs k (i+1) (i+1) (out++[F1 ((s.data.toList.take i).drop f)]) (by omega) (Nat.le_refl _) (by simp;omega);rw[show(s.data.toList.take (i+1)).drop (i+1)=[] from List.drop_eq_nil_of_le (by rw[List.length_take];omega),List.append_assoc]at this;exact this
  ·have h47:s[i]≠47:=by rw[hb]at hn;simpa using hn
   rw[hw,P6 s i hi,d1k _ _ _ h47];have:=d3n s hs k (i+1) f out (by omega) (by omega) ho
   have e:(s.data.toList.take (i+1)).drop f=(s.data.toList.take i).drop f++[s[i]]:=by
    have h':i<s.data.toList.length:=by rw[c05];exact hi
    rw[List.take_add_one,List.drop_append_of_le_length (by rw[List.length_take];omega),List.getElem?_eq_getElem h'];rfl
   rw[e]at this;exact this
  ·rw[b5m]at he;simp only[beq_iff_eq]at he;omega
  ·have e47:((47:UInt8).toNat)=47:=rfl
   by_cases h47:s[i]=47
   ·simp[h47]
   ·have:¬(s[i].toNat:Int)=47:=fun h=>h47 (UInt8.toNat_inj.1 (by omega))
    rw[decide_eq_false h47];exact beq_eq_false_iff_ne.2 this
  ·rw[b5m]at h;simp only[decide_eq_false_iff_not]at h;omega
theorem h6w(s:ByteArray)(hs:s.size<=1048576):X5 s (a5g s):=by
 unfold a5g;refine a7k _ _ ⟨fun b=>b=decide (¬(1<=s.size/\D0 s 0=47)),fun b hb=>⟨fun ht=>?_,fun hn=>?_⟩,fun he=>?_,fun hn=>⟨⟨Int.le_refl _,?_⟩,?_⟩⟩
 ·rw[hb]at ht;rw[if_neg (of_decide_eq_true ht)]
 ·rw[hb]at hn
  have hc:1<=s.size/\D0 s 0=47:=by
   simp only[decide_eq_false_iff_not,Decidable.not_not]at hn;exact hn
  rw[if_pos hc];have:=d3n s hs (s.size - 1) 1 1 [] (by omega) (Nat.le_refl _) (by simp);rw[show(s.data.toList.take 1).drop 1=[] from List.drop_eq_nil_of_le (by rw[List.length_take];omega),d6t,List.nil_append]at this;exact this
 ·simp only[decide_eq_true_eq]at he;rw[eq_comm,decide_eq_true_eq];rintro⟨h1,_⟩;rw[he]at h1;exact absurd h1 (by decide)
 ·simp only[decide_eq_false_iff_not]at hn
  have:s.size≠0:=fun h=>hn (b66 (by
   have:s.data.toList.length=0:=by rw[c05];exact h
   rw[List.eq_nil_of_length_eq_zero this]))
  omega
 ·simp only[decide_eq_false_iff_not]at hn
  have:s.size≠0:=fun h=>hn (b66 (by
   have:s.data.toList.length=0:=by rw[c05];exact h
   rw[List.eq_nil_of_length_eq_zero this]))
  have h1:1<=s.size:=by omega
  show((D0 s 0) !=47)=_
  by_cases h47:D0 s 0=47
  ·rw[decide_eq_false (by simp[h1,h47])];simp[h47]
  ·rw[decide_eq_true (by simp[h47])];simpa using h47
def c3e(c:Int):Bool:=b52 c&& !(decide (65<=c)&&decide (c<=90))
def d3u(s:ByteArray):Bool:=s.data.toList.all (fun c=>c3e (c.toNat:Int))&& !(decide (s=(⟨#[]⟩:ByteArray)))
theorem d2z(c:Int):a2u c (b52 c):=a4l _ _ rfl
theorem e2a(s:ByteArray)(hs:s.size<=1048576):∀(k p:Nat),p+k=s.size->M9 p s ((s.data.toList.drop p).all (fun c=>c3e (c.toNat:Int))&& !(decide (s=(⟨#[]⟩:ByteArray))))
 |0,p,hk=>by
  refine a0c _ _ _ ⟨fun h=>by simp only[decide_eq_true_eq]at h;omega,fun _=>?_⟩;rw[List.drop_eq_nil_of_le (by rw[c05];omega)];simp
 |k+1,p,hk=>by
  have hp:p<s.size:=by omega
  have hw:wI ((p:Int)+1)=((p+1:Nat):Int):=by rw[a4y (by omega)];omega
  have ih:=e2a s hs k (p+1) (by omega);refine a0c _ _ _ ⟨fun h=>⟨by omega,_,d2z _,?_⟩,fun h=>by simp only[decide_eq_false_iff_not]at h;omega⟩;simp only[Int.toNat_natCast,a3t s p hp,hw];rw[P6 s p hp,List.all_cons];refine⟨fun hn=>?_,fun hy=>⟨by omega,fun h1=>⟨by omega,fun h2=>?_,fun h2=>?_⟩,fun h1=>?_⟩⟩
  ·simp only[Bool.not_eq_true']at hn;simp[c3e,hn]
  ·simp[c3e,h1,h2]
  ·have:c3e (s[p].toNat:Int)=true:=by simp only[Bool.not_eq_false']at hy;simp[c3e,hy,h2]
   rw[this,Bool.true_and];exact ih
  ·have:c3e (s[p].toNat:Int)=true:=by simp only[Bool.not_eq_false']at hy;simp[c3e,hy,h1]
   rw[this,Bool.true_and];exact ih
theorem m5c(s:ByteArray)(hs:s.size<=1048576):T7 s (d3u s):=a85 _ _ (by
 have:=e2a s hs s.size 0 (by omega);rw[List.drop_zero]at this;exact this)
theorem i71(n b0 b1 b2 b3:Nat)(h:128<=b0):128<=(Lib.decodeN n b0 b1 b2 b3).1:=by
 unfold Lib.decodeN
 repeat' split
 all_goals first|omega|(simp only[];omega)|skip
theorem d81(s:ByteArray)(p:Nat)(h:p<s.size):s.get! p=s[p]:=by
 show s.data[p]! =s.data[p];exact getElem!_pos s.data p h
theorem e4i(s:ByteArray)(p:Nat)(h:p<s.size)(hb:s[p].toNat<128):Utf8.decode s p=(s[p].toNat,1):=by
 rw[Lib.decode_at,d81 s p h];unfold Lib.decodeN;rw[if_pos hb]
theorem e0f(s:ByteArray)(p:Nat)(h:p<s.size)(hb:¬s[p].toNat<128):128<=(Utf8.decode s p).1:=by
 rw[Lib.decode_at,d81 s p h];exact i71 _ _ _ _ _ (by omega)
def a0z(c:Int):Bool:=decide (97<=c)&&decide (c<=122)
def c7w(c:Int):Bool:=decide (65<=c)&&decide (c<=90)
def c8r(c:Int):Bool:=decide (48<=c)&&decide (c<=57)
def a4b(c:Int):Int:=if a0z c=true then 1 else if c7w c=true then 2 else if c8r c=true then 3 else if c=95 then 4 else 0
theorem c5f(c:Int):b0j c (a4b c):=by
 refine b4g _ _ ⟨fun h=>?_,fun h=>⟨fun h1=>?_,fun h1=>⟨fun h2=>?_,fun h2=>⟨fun h3=>?_,fun h3=>?_⟩⟩⟩⟩
 ·unfold a4b;rw[if_pos (show a0z c=true from h)]
 ·unfold a4b;rw[if_neg (by rw[show a0z c=false from h];simp),if_pos (show c7w c=true from h1)]
 ·unfold a4b;rw[if_neg (by rw[show a0z c=false from h];simp),if_neg (by rw[show c7w c=false from h1];simp),if_pos (show c8r c=true from h2)]
 ·unfold a4b;rw[if_neg (by rw[show a0z c=false from h];simp),if_neg (by rw[show c7w c=false from h1];simp),if_neg (by rw[show c8r c=false from h2];simp),if_pos (by simpa using h3)]
 ·unfold a4b;rw[if_neg (by rw[show a0z c=false from h];simp),if_neg (by rw[show c7w c=false from h1];simp),if_neg (by rw[show c8r c=false from h2];simp),if_neg (by simpa using h3)]
def e2y(c:Int):Bool:=a0z c||c7w c||c8r c||c==95
def e1s(c:Int):Bool:=a0z c||c7w c
theorem c2m(c:Int):(a4b c==0)= !(e2y c):=by
 unfold a4b e2y;cases a0z c<;>cases c7w c<;>cases c8r c<;>by_cases h:c=95<;>simp[h]
theorem c2w(c:Int):((a4b c==0)||((a4b c !=1)&&(a4b c !=2)))= !(e1s c):=by
 unfold a4b e1s;cases a0z c<;>cases c7w c<;>cases c8r c<;>by_cases h:c=95<;>simp[h]
theorem b1a(c:Int)(h:128<=c):a4b c=0:=by
 unfold a4b a0z c7w c8r;rw[if_neg (by simp;omega),if_neg (by simp;omega),if_neg (by simp;omega),if_neg (by omega)]
def b4d(s:ByteArray):Bool:=decide (1<=(s.size:Int))&&decide ((s.size:Int)<=40)&&(e1s (D0 s 0))&&(s.data.toList.drop 1).all (fun c=>e2y (c.toNat:Int))
theorem e3o(s:ByteArray)(hs:s.size<=1048576):∀(k p:Nat),p+k=s.size->1<=p->a0l s p ((s.data.toList.drop p).all (fun c=>e2y (c.toNat:Int))&&(decide (1<=(s.size:Int))&&decide ((s.size:Int)<=40)))
 |0,p,hk,h1=>by
  refine V7 _ _ _ ⟨fun h=>by omega,fun _=>?_⟩;rw[List.drop_eq_nil_of_le (by rw[c05];omega)];simp
 |k+1,p,hk,h1=>by
  have hp:p<s.size:=by omega
  refine V7 _ _ _ ⟨fun h=>⟨_,c5f _,?_⟩,fun h=>by omega⟩;have hz:(((p:Nat):Int)==0)=false:=by rw[beq_eq_false_iff_ne];omega
  rw[hz,Bool.false_and,Bool.false_and,Bool.or_false,P6 s p hp,List.all_cons]
  by_cases hb:s[p].toNat<128
  ·rw[e4i s p hp hb,c2m];refine⟨fun ht=>?_,fun hf=>?_⟩
   ·simp only[Bool.not_eq_true']at ht;rw[ht];rfl
   ·simp only[Bool.not_eq_false']at hf;rw[hf,Bool.true_and];exact e3o s hs k (p+1) (by omega) (by omega)
  ·have h2:=e0f s p hp hb;have h3:=b1a (((Utf8.decode s p).1:Nat):Int) (by omega)
   have h4:e2y (s[p].toNat:Int)=false:=by
    have:=c2m (s[p].toNat:Int);rw[b1a _ (by omega)]at this;simpa using this.symm
   rw[h3,h4];exact⟨fun _=>by simp,fun hf=>by simp at hf⟩
theorem c89(s:ByteArray)(hs:s.size<=1048576):a30 s (b4d s):=by
 refine b29 _ _ (V7 _ _ _ ⟨fun h=>⟨_,c5f _,?_⟩,fun h=>?_⟩)
 ·rw[show((((0:Nat):Nat):Int)==0)=true from rfl,Bool.true_and];have hb0:=a3t s 0 h
  by_cases hb:s[0].toNat<128
  ·rw[e4i s 0 h hb,c2w];unfold b4d;rw[hb0];refine⟨fun ht=>?_,fun hf=>?_⟩
   ·simp only[Bool.not_eq_true']at ht;rw[ht];simp
   ·simp only[Bool.not_eq_false']at hf;have:=e3o s hs (s.size - 1) 1 (by omega) (Nat.le_refl _);rw[hf,Bool.and_true,Bool.and_comm];simpa using this
  ·have h2:=e0f s 0 h hb;have h3:=b1a (((Utf8.decode s 0).1:Nat):Int) (by omega)
   have h4:e1s (s[0].toNat:Int)=false:=by
    have:=c2w (s[0].toNat:Int);rw[b1a _ (by omega)]at this;simpa using this.symm
   rw[h3];refine⟨fun _=>?_,fun hf=>by simp at hf⟩;unfold b4d;rw[hb0,h4];simp
 ·have:s.size=0:=by omega
  unfold b4d;rw[this];simp
theorem d1x(s:ByteArray)(hs:s.size<=1048576):∀(k p:Nat),p+k=s.size->O6 p s ((s.data.toList.drop p).all (fun c=>e2y (c.toNat:Int)))
 |0,p,hk=>by
  refine O1 _ _ _ ⟨fun h=>by simp only[decide_eq_true_eq]at h;omega,fun _=>?_⟩;rw[List.drop_eq_nil_of_le (by rw[c05];omega)];rfl
 |k+1,p,hk=>by
  have hp:p<s.size:=by omega
  have hw:wI ((p:Int)+1)=((p+1:Nat):Int):=by rw[a4y (by omega)];omega
  have ih:=d1x s hs k (p+1) (by omega);refine O1 _ _ _ ⟨fun h=>⟨by omega,_,a14 _ _ rfl,?_⟩,fun h=>by simp only[decide_eq_false_iff_not]at h;omega⟩;simp only[Int.toNat_natCast,a3t s p hp,hw];rw[P6 s p hp,List.all_cons];have hi:e2y (s[p].toNat:Int)=(a0z (s[p].toNat:Int)||c7w (s[p].toNat:Int)||c8r (s[p].toNat:Int)||(s[p].toNat:Int)==95):=rfl;refine⟨fun b=>b= !(a0z (s[p].toNat:Int)||c7w (s[p].toNat:Int)),fun b6 h6=>⟨fun b=>b=(b6&&((s[p].toNat:Int) !=95)),fun b7 h7=>⟨fun ht=>⟨by omega,fun b=>b= !(c8r (s[p].toNat:Int)),fun b8 h8=>⟨fun h=>?_,fun h=>?_⟩,fun h=>?_,fun h=>⟨by omega,?_⟩⟩,fun hf=>?_⟩,fun h=>⟨by omega,by rw[h,Bool.true_and]⟩,fun h=>by rw[h,Bool.false_and]⟩,fun h=>⟨by omega,_,a0q _ _ rfl,?_⟩,fun h=>?_⟩
  ·rw[h7]at ht;simp only[Bool.and_eq_true]at ht;have h1:=ht.1;rw[h6]at h1;rw[h8]at h;simp only[Bool.not_eq_true',Bool.or_eq_false_iff]at h1 h;have h2:((s[p].toNat:Int)==95)=false:=by have:=ht.2;simpa[bne]using this
   rw[hi,h1.1,h1.2,h,h2];rfl
  ·rw[h8]at h;simp only[Bool.not_eq_false']at h;rw[hi,h];simp only[Bool.or_true,Bool.true_or,Bool.true_and];exact ih
  ·simp only[decide_eq_true_eq]at h;have:c8r (s[p].toNat:Int)=false:=by unfold c8r;simp;omega
   rw[this];rfl
  ·simp only[decide_eq_false_iff_not]at h;unfold c8r
   by_cases h9:57<(s[p].toNat:Int)
   ·rw[decide_eq_true h9,decide_eq_false (p:=(s[p].toNat:Int)<=57) (by omega)];simp
   ·rw[decide_eq_false h9,decide_eq_true (p:=(s[p].toNat:Int)<=57) (by omega),decide_eq_true (p:=(48:Int)<=(s[p].toNat:Int)) (by omega)];rfl
  ·rw[h7,h6]at hf
   have:e2y (s[p].toNat:Int)=true:=by
    rw[hi];cases h1:a0z (s[p].toNat:Int) with
    |true=>simp
    |false=>
     cases h2:c7w (s[p].toNat:Int) with
     |true=>simp
     |false=>
      rw[h1,h2]at hf;have:((s[p].toNat:Int)==95)=true:=by simpa[bne]using hf
      rw[this];simp
   rw[this,Bool.true_and];exact ih
  ·have h0:a0z (s[p].toNat:Int)=false:=by rw[Bool.not_eq_true']at h;exact h
   rw[h0,Bool.false_or];rfl
  ·have h0:a0z (s[p].toNat:Int)=true:=by rw[Bool.not_eq_false']at h;exact h
   rw[h0];rfl
theorem c6n(s:ByteArray)(hs:s.size<=1048576):Y5 s (b4d s):=by
 refine a5k _ _ ⟨fun b=>b= !(decide (1<=(s.size:Int))&&decide ((s.size:Int)<=40)&&e1s (D0 s 0)),fun b hb=>⟨fun ht=>?_,fun hf=>?_⟩,fun h=>?_,fun h=>⟨⟨Int.le_refl _,?_⟩,_,a14 _ _ rfl,fun b=>b= !(decide (1<=(s.size:Int))&&decide ((s.size:Int)<=40)&&e1s (D0 s 0)),fun b hb=>hb,fun h2=>⟨⟨Int.le_refl _,?_⟩,_,a0q _ _ rfl,?_⟩,fun h2=>?_⟩⟩
 ·rw[hb]at ht;simp only[Bool.not_eq_true']at ht;unfold b4d;rw[ht];rfl
 ·rw[hb]at hf;simp only[Bool.not_eq_false']at hf;unfold b4d;rw[hf,Bool.true_and]
  have h1:1<=s.size:=by
   simp only[Bool.and_eq_true,decide_eq_true_eq]at hf;omega
  exact d1x s hs (s.size - 1) 1 (by omega)
 ·simp only[Bool.or_eq_true,beq_iff_eq,decide_eq_true_eq]at h;rcases h with h|h
  ·rw[decide_eq_false (p:=(1:Int)<=(s.size:Int)) (by omega)];rfl
  ·rw[decide_eq_false (p:=(s.size:Int)<=40) (by omega)];simp
 ·simp only[Bool.or_eq_false_iff,beq_eq_false_iff_ne,decide_eq_false_iff_not]at h;omega
 ·simp only[Bool.or_eq_false_iff,beq_eq_false_iff_ne,decide_eq_false_iff_not]at h;omega
 ·simp only[Bool.or_eq_false_iff,beq_eq_false_iff_ne,decide_eq_false_iff_not]at h;rw[decide_eq_true (p:=(1:Int)<=(s.size:Int)) (by omega),decide_eq_true (p:=(s.size:Int)<=40) (by omega)];have h0:a0z (D0 s 0)=false:=by rw[Bool.not_eq_true']at h2;exact h2
  unfold e1s;rw[h0];rfl
 ·simp only[Bool.or_eq_false_iff,beq_eq_false_iff_ne,decide_eq_false_iff_not]at h;rw[decide_eq_true (p:=(1:Int)<=(s.size:Int)) (by omega),decide_eq_true (p:=(s.size:Int)<=40) (by omega)];have h0:a0z (D0 s 0)=true:=by rw[Bool.not_eq_false']at h2;exact h2
  unfold e1s;rw[h0];rfl
def a9a:List UInt8->List (List UInt8)
 |[]=>[[]]
 |c::r=>if c=46 then []::a9a r else match a9a r with
  |[]=>[[c]]
  |h::t=>(c::h)::t
theorem c0p:∀l,a9a l≠[]
 |[]=>by simp[a9a]
 |c::r=>by
  unfold a9a;split
  ·simp
  ·split<;>simp
theorem d04(x r:List UInt8):b8b x (a9a (46::r))=x::b8b [] (a9a r):=by
 have h:a9a (46::r)=[]::a9a r:=by rw[a9a,if_pos rfl]
 rw[h,b8b,List.append_nil];cases hs:a9a r with
 |nil=>exact absurd hs (c0p r)
 |cons a b=>rw[b8b,List.nil_append]
theorem c8k(x:List UInt8)(c:UInt8)(r:List UInt8)(hc:c≠46):b8b x (a9a (c::r))=b8b (x++[c]) (a9a r):=by
 rw[a9a,if_neg hc];cases hs:a9a r with
 |nil=>exact absurd hs (c0p r)
 |cons a b=>simp[b8b]
theorem b2u:∀l:List UInt8,Lib.splitK [46] 0 (Lib.count l [46]) l=a9a l
 |[]=>by
  have h:Lib.count ([]:List UInt8) [46]=0:=Lib.count_miss (by decide);rw[h];rfl
 |c::r=>by
  by_cases hc:c=46
  ·subst hc;rw[Lib.count_cons_eq,Nat.add_comm,Lib.splitK];have hi:Lib.index (46::r) [46]=0:=by unfold Lib.index;simp
   rw[hi,if_neg (by decide),a9a,if_pos rfl];have:=b2u r;simpa using this
  ·rw[Lib.count_cons_ne _ _ _ hc,a9a,if_neg hc,<-b2u r]
   have hi:Lib.index (c::r) [46]=if Lib.index r [46]== -1 then -1 else Lib.index r [46]+1:=by
    rw[Lib.index];rw[if_neg (by simp[Ne.symm hc])]
   by_cases hm:Lib.index r [46]= -1
   ·rw[Lib.count_miss hm];rfl
   ·have h0:=Lib.index_ge r [46];obtain⟨i,hii⟩:∃i:Nat,Lib.index r [46]=i:=⟨(Lib.index r [46]).toNat,by omega⟩
    rw[Lib.count_hit (by simp) hii,Nat.add_comm,Lib.splitK,Lib.splitK,hi,hii];have e1:¬(((i:Int)== -1)=true):=by rw[beq_iff_eq];omega
    rw[if_neg e1,if_neg e1,if_neg (by rw[beq_iff_eq];omega)];have e2:((i:Int)+1).toNat=i+1:=by omega
    simp[e2]
def c8h(s:ByteArray):Bool:=(a9a s.data.toList).all (fun x=>b4d (F1 x))&&decide ((s.size:Int)<=120)
theorem d1l(s:ByteArray)(hs:s.size<=1048576):∀(k p:Nat) (x:List UInt8),p+k=s.size->x.length<=p->O5 p (F1 x) s ((b8b x (a9a (s.data.toList.drop p))).all (fun x=>b4d (F1 x)))
 |0,p,x,hk,hx=>by
  refine N9 _ _ _ _ ⟨fun h=>by simp only[decide_eq_true_eq]at h;omega,fun _=>⟨_,c6n (F1 x) (by rw[S9];omega),?_⟩⟩;rw[List.drop_eq_nil_of_le (by rw[c05];omega)];simp[a9a,b8b]
 |k+1,p,x,hk,hx=>by
  have hp:p<s.size:=by omega
  have hw:wI ((p:Int)+1)=((p+1:Nat):Int):=by rw[a4y (by omega)];omega
  refine N9 _ _ _ _ ⟨fun h=>⟨by omega,?_⟩,fun h=>by simp only[decide_eq_false_iff_not]at h;omega⟩;simp only[Int.toNat_natCast,a3t s p hp,hw];rw[P6 s p hp];have e46:((46:UInt8).toNat)=46:=rfl;refine⟨fun hb=>⟨by omega,?_⟩,fun hb=>⟨_,c6n (F1 x) (by rw[S9];omega),?_⟩⟩
  ·have hc:s[p]≠46:=fun h=>by rw[h]at hb;simp at hb
   rw[f9q s p hp,S9,S9,c76,c8k _ _ _ hc];exact⟨by simp;omega,d1l s hs k (p+1) _ (by omega) (by simp;omega)⟩
  ·have hc:s[p]=46:=by
    simp only[bne_eq_false_iff_eq]at hb;exact UInt8.toNat_inj.1 (by omega)
   rw[hc,d04,List.all_cons];refine⟨fun h=>?_,fun h=>?_⟩
   ·simp only[Bool.not_eq_true']at h;rw[h];rfl
   ·simp only[Bool.not_eq_false']at h;rw[h,Bool.true_and];exact d1l s hs k (p+1) [] (by omega) (by simp)
theorem c5y{σ:Sg}{x y:Value}{cargs:Array Value}(hr:b39 σ [.v x,.v y] cargs.toList):cargs=#[x,y]:=by
 obtain⟨hl,hx⟩:=hr;obtain⟨x0,h0,r0⟩:=hx 0 _ rfl;obtain⟨x1,h1,r1⟩:=hx 1 _ rfl;have e0:=d5n r0;have e1:=d5n r1;subst e0 e1;apply Array.ext'
 match hc:cargs.toList,hl,h0,h1 with
 |[a,b],_,h0,h1=>simp at h0 h1;simp[h0,h1]
theorem f6z{σ:Sg}{cells:List AV}{off:Nat}{v:Value}(h:Rel σ (.elt cells off) v):∃(b o:Nat) (xs:Nat->Value),v=.pointer (some ⟨b,o+off,none⟩)/\∀(i:Nat) (av:AV),cells[i]? =some av->σ.w.cell? ⟨b,o+i,none⟩=some (xs i)/\Rel σ av (xs i):=by
 cases h with
 |elt _ _ b o xs hc hr=>exact⟨b,o,xs,rfl,fun i av hi=>⟨(hc i av hi).1,hr i av hi⟩⟩
theorem b8s{w:World}{outer:Nat->Nat->Prop}{m:Int}(h:b79 w outer (GLm m)):w.cell? ⟨2,0,none⟩=some (.int .i64 m):=by
 obtain⟨b,o,xs,hv,hc⟩:=f6z (h 2 [.v (.int .i64 m)] (by simp[GLm]));obtain⟨h1,h2⟩:=hc 0 _ rfl;rw[d5n h2]at h1;injection hv with hv
 injection hv with hv
 injection hv with h3 h4
 have h5:o=0:=by omega
 subst h5;rw[<-h3]at h1;exact h1
theorem c5i(mg:Int)(s:ByteArray)(hs:s.size<=1048576):strings_Split mg s ⟨#[46]⟩ ((a9a s.data.toList).map F1):=by
 refine⟨⟨_,Tryz.func150,by kernel_rfl,by kernel_rfl⟩,fun w outer cargs ho hg hr=>?_⟩;rw[c5y hr];have hc:=Tryz.strings_Split s ⟨#[46]⟩ mg w (by omega) (b8s hg) (by decide);refine hc.mono fun e w' ⟨he,hw⟩=>⟨.sl (((a9a s.data.toList).map F1).map L9) .no,_,he,?_,?_,rfl⟩
 ·rw[hw];exact a5d.alloc _ _
 ·have hd:(Lib.splitB ⟨#[46]⟩ 0 (Lib.countB s ⟨#[46]⟩) s).map (·.data.toList)=a9a s.data.toList:=by
   rw[Lib.splitB_data];exact b2u _
  have hlen:=Lib.splitB_all ⟨#[46]⟩ (by decide) 0 (Lib.countB s ⟨#[46]⟩) s rfl;have hle:=Lib.countB_le ⟨#[46]⟩ (by decide) s.size s (Nat.le_refl _);subst hw;refine d67 (B:=w.heap.size) (n:=Lib.countB s ⟨#[46]⟩+1) ho ⟨w.heap.size,_,_,rfl,Nat.le_refl _,heap_alloc_new w _,Nat.le_refl _,by unfold maxLen;omega,by simp[hlen],?_,by rw[<-hd];simpa using hlen⟩;rw[Nat.mul_one,List.take_of_length_le (by simp[hlen]),<-hd,List.map_map];rfl
theorem d07(mg:Int)(s:ByteArray)(hs:s.size<=1048576)(L:List (List UInt8))(hl:∀x∈L,x.length<=1048576)(hL:L.length<=2097152):∀(k i:Nat),i+k=L.length->Z6 i (L.map F1) s mg ((L.drop i).all (fun x=>b4d (F1 x))&&decide ((s.size:Int)<=120))
 |0,i,hk=>by
  refine a2d _ _ _ _ _ ⟨fun h=>by simp only[decide_eq_true_eq,List.length_map]at h;omega,fun _=>?_⟩;rw[List.drop_eq_nil_of_le (by omega)];rfl
 |k+1,i,hk=>by
  have hi:i<L.length:=by omega
  have hw:wI ((i:Int)+1)=((i+1:Nat):Int):=by rw[a4y (by omega)];omega
  refine a2d _ _ _ _ _ ⟨fun h=>⟨F1 L[i],by rw[Int.toNat_natCast,List.getElem?_map,List.getElem?_eq_getElem hi];rfl,by omega,_,c89 _ (by rw[S9];exact hl _ (List.getElem_mem hi)),?_⟩,fun h=>by simp only[decide_eq_false_iff_not,List.length_map]at h;omega⟩;rw[hw,List.drop_eq_getElem_cons hi,List.all_cons];refine⟨fun h=>?_,fun h=>?_⟩
  ·simp only[Bool.not_eq_true']at h;rw[h];rfl
  ·simp only[Bool.not_eq_false']at h;rw[h,Bool.true_and];exact d07 mg s hs L hl hL k (i+1) (by omega)
theorem b4y:∀l:List UInt8,(a9a l).length<=l.length+1/\∀x∈a9a l,x.length<=l.length
 |[]=>by simp[a9a]
 |c::r=>by
  obtain⟨h1,h2⟩:=b4y r;unfold a9a;split
  ·refine⟨by simp;omega,fun x hx=>?_⟩;rcases List.mem_cons.1 hx with rfl|hx
   ·simp
   ·have:=h2 x hx;simp;omega
  ·split
   ·simp
   ·rename_i h t he;rw[he]at h1 h2;refine⟨by simp at h1 ⊢;omega,fun x hx=>?_⟩;rcases List.mem_cons.1 hx with rfl|hx
    ·have:=h2 h (by simp);simp;omega
    ·have:=h2 x (by simp[hx]);simp;omega
theorem c5k(mg:Int)(s:ByteArray)(hs:s.size<=1048576):a4j mg s (c8h s):=by
 refine b3f _ _ _ ⟨_,c5i mg s hs,?_⟩;obtain⟨h1,h2⟩:=b4y s.data.toList;rw[c05]at h1 h2;have:=d07 mg s hs (a9a s.data.toList) (fun x hx=>by have:=h2 x hx;omega) (by omega) _ 0 (Nat.zero_add _);exact this
def d3v(s:ByteArray):ByteArray:=s.extract 1 (s.size - 1)
def noV(s:ByteArray):Bool:=(D0 s 0 !=123)||(D0 s (s.size - 1) !=125)|| !(c8h (d3v s))
def vOK(s:ByteArray):Bool:=decide (3<=s.size)&& !(noV s)
theorem d64:c8h ⟨#[]⟩=false:=by decide+kernel
theorem c0a(s:ByteArray):(d3v s).size=s.size - 1 - 1:=by
 unfold d3v;rw[ByteArray.size_extract];omega
theorem h4f{s:ByteArray}(h:s.size=0):s=⟨#[]⟩:=b66 (by
 have:s.data.toList.length=0:=by rw[c05];exact h
 rw[List.eq_nil_of_length_eq_zero this])
theorem f2w(s:ByteArray)(h:s.size<3):noV s=true:=by
 have:d3v s=⟨#[]⟩:=h4f (by rw[c0a];omega);unfold noV;rw[this,d64];simp
theorem m23(mg:Int)(s:ByteArray)(hs:s.size<=1048576):P8 mg s (if vOK s=true then(d3v s,true) else(⟨#[]⟩,false)):=by
 by_cases h2:s.size<2
 ·have hv:vOK s=false:=by unfold vOK;rw[decide_eq_false (by omega)];rfl
  rw[if_neg (by rw[hv];simp)];refine a1x _ _ _ ⟨fun b=>b=true,fun b1 hb1=>⟨fun b=>b=true,fun b2 hb2=>⟨fun b=>b=true,fun b3 hb3=>⟨fun _=>rfl,fun h=>by rw[hb3]at h;cases h⟩,fun _=>rfl,fun h=>by rw[hb2]at h;cases h⟩,fun _=>rfl,fun h=>by rw[hb1]at h;cases h⟩,fun _=>rfl,fun h=>?_⟩;simp only[decide_eq_false_iff_not]at h;omega
 ·have hw:wI ((s.size:Int) - 1)=((s.size - 1:Nat):Int):=by rw[a4y (by omega)];omega
  refine a1x _ _ _ ⟨fun b=>b=(D0 s 0 !=123),fun b1 hb1=>⟨fun b=>b=(b1||(D0 s (s.size - 1) !=125)),fun b2 hb2=>⟨fun b=>b=noV s,fun b3 hb3=>⟨fun h=>?_,fun h=>?_⟩,fun h=>?_,fun h=>⟨by rw[hw];omega,_,c5k mg _ ?_,?_⟩⟩,fun h=>by rw[h,Bool.true_or],fun h=>⟨by rw[hw];omega,by rw[hw,h,Bool.false_or,Int.toNat_natCast]⟩⟩,fun h=>by simp only[decide_eq_true_eq]at h;omega,fun h=>⟨⟨Int.le_refl _,by omega⟩,rfl⟩⟩
  ·have hv:vOK s=false:=by unfold vOK;rw[<-hb3,h];simp
   rw[if_neg (by rw[hv];simp)]
  ·have h3:3<=s.size:=by
    rcases Nat.lt_or_ge s.size 3 with h4|h4
    ·rw[f2w s h4,h]at hb3;cases hb3
    ·exact h4
   have hv:vOK s=true:=by unfold vOK;rw[<-hb3,h,decide_eq_true h3];rfl
   rw[if_pos hv,hw];refine⟨by omega,?_⟩;rw[Int.toNat_natCast];rfl
  ·rw[hb1]at hb2;unfold noV;rw[<-hb2,h];rfl
  ·rw[hw,Int.toNat_natCast];have:=c0a s;unfold d3v at this;show(s.extract 1 (s.size - 1)).size<=_;omega
  ·rw[hb1]at hb2;unfold noV;rw[<-hb2,h,Bool.false_or,hw,Int.toNat_natCast];rfl
def c0f(s:ByteArray):Bool:=vOK s||d3u s
def a9i(s:ByteArray):List ByteArray × Bool:=if(a5g s).2=true/\(a5g s).1.length<=8/\(a5g s).1.all c0f=true then((a5g s).1,true) else([],false)
theorem c6b:∀l:List UInt8,(b3x l).length<=l.length+1/\∀x∈b3x l,x.length<=l.length
 |[]=>by simp[b3x]
 |c::r=>by
  obtain⟨h1,h2⟩:=c6b r;unfold b3x;split
  ·refine⟨by simp;omega,fun x hx=>?_⟩;rcases List.mem_cons.1 hx with rfl|hx
   ·simp
   ·have:=h2 x hx;simp;omega
  ·split
   ·simp
   ·rename_i h t he;rw[he]at h1 h2;refine⟨by simp at h1 ⊢;omega,fun x hx=>?_⟩;rcases List.mem_cons.1 hx with rfl|hx
    ·have:=h2 h (by simp);simp;omega
    ·have:=h2 x (by simp[hx]);simp;omega
theorem b91(s:ByteArray):(a5g s).1.length<=s.size+1/\∀x∈(a5g s).1,x.size<=s.size:=by
 unfold a5g;split
 ·obtain⟨h1,h2⟩:=c6b (s.data.toList.drop 1);simp only[List.length_drop,c05]at h1 h2;refine⟨by simp only[List.length_map];omega,fun x hx=>?_⟩;obtain⟨y,hy,rfl⟩:=List.mem_map.1 hx;rw[S9];have:=h2 y hy;omega
 ·exact⟨by simp,fun x hx=>by simp at hx⟩
theorem d9g(mg:Int)(L:List ByteArray)(hl:∀x∈L,x.size<=1048576)(hL:L.length<=8)(y:Bool):∀(k i:Nat),i+k=L.length->M8 i (L,y) mg (if(L.drop i).all c0f=true then(L,true) else([],false))
 |0,i,hk=>by
  refine a0p _ _ _ _ ⟨fun h=>by simp only[decide_eq_true_eq]at h;omega,fun _=>?_⟩;rw[List.drop_eq_nil_of_le (by omega)];rfl
 |k+1,i,hk=>by
  have hi:i<L.length:=by omega
  have hw:wI ((i:Int)+1)=((i+1:Nat):Int):=by rw[a4y (by omega)];omega
  have hz:=hl _ (List.getElem_mem hi);refine a0p _ _ _ _ ⟨fun h=>⟨L[i],by rw[Int.toNat_natCast];exact List.getElem?_eq_getElem hi,by omega,_,m23 mg _ hz,?_⟩,fun h=>by simp only[decide_eq_false_iff_not]at h;omega⟩;rw[hw,List.drop_eq_getElem_cons hi,List.all_cons];have ih:=d9g mg L hl hL y k (i+1) (by omega);cases hv:vOK L[i]with
  |true=>
   have:c0f L[i]=true:=by unfold c0f;rw[hv];rfl
   rw[if_pos rfl,this,Bool.true_and];exact⟨fun h=>by simp at h,fun _=>ih⟩
  |false=>
   rw[if_neg (by simp)];refine⟨fun _=>⟨_,m5c _ hz,fun h=>?_,fun h=>?_⟩,fun h=>by simp at h⟩
   ·have:c0f L[i]=false:=by unfold c0f;rw[hv];simpa using h
    rw[this];simp
   ·have:c0f L[i]=true:=by unfold c0f;rw[hv];simpa using h
    rw[this,Bool.true_and];exact ih
theorem i9z(mg:Int)(s:ByteArray)(hs:s.size<=1048576):L3 mg s (a9i s):=by
 refine a8x _ _ _ ⟨_,h6w s hs,fun h=>?_,fun h=>?_⟩
 ·unfold a9i;rw[if_neg (fun hc=>?_)];simp only[Bool.or_eq_true,Bool.not_eq_true',decide_eq_true_eq]at h;rcases h with h|h
  ·rw[hc.1]at h;cases h
  ·omega
 ·simp only[Bool.or_eq_false_iff,Bool.not_eq_false',decide_eq_false_iff_not]at h;have h8:(a5g s).1.length<=8:=by omega
  have:=d9g mg (a5g s).1 (fun x hx=>Nat.le_trans ((b91 s).2 x hx) hs) h8 (a5g s).2 _ 0 (Nat.zero_add _);rw[List.drop_zero]at this;unfold a9i
  by_cases ha:(a5g s).1.all c0f=true
  ·rw[if_pos ha]at this;rw[if_pos ⟨h.1,h8,ha⟩];exact this
  ·rw[if_neg ha]at this;rw[if_neg (fun hc=>ha hc.2.2)];exact this
def c84:List ByteArray->List ByteArray->List S3->List S3 × Bool
 |[],_,acc=>(acc,true)
 |_::_,[],_=>([],false)
 |s::ws,h::hs,acc=>if vOK s=true then(if(b3s h).2≠0\/h=⟨#[]⟩ then([],false) else c84 ws hs (acc++[⟨d3v s,(b3s h).1⟩])) else if s=h then c84 ws hs acc else([],false)
theorem n9z(mg:Int)(W H:List ByteArray)(y1 y2:Bool)(hl:∀x∈W,x.size<=1048576)(hh:∀x∈H,x.size<=1048576)(hWH:W.length=H.length)(hL:W.length<=1048576):∀(k i:Nat) (acc:List S3),i+k=W.length->acc.length<=i->P9 i (W,y1) acc (H,y2) mg (c84 (W.drop i) (H.drop i) acc)
 |0,i,acc,hk,ha=>by
  refine a1m _ _ _ _ _ _ ⟨fun h=>by simp only[decide_eq_true_eq]at h;omega,fun _=>?_⟩;rw[show W.drop i=[] from List.drop_eq_nil_of_le (by omega)];rfl
 |k+1,i,acc,hk,ha=>by
  have hi:i<W.length:=by omega
  have hj:i<H.length:=by omega
  have hw:wI ((i:Int)+1)=((i+1:Nat):Int):=by rw[a4y (by omega)];omega
  have hz:=hl _ (List.getElem_mem hi);have hz2:=hh _ (List.getElem_mem hj);have hget:W[((i:Int)).toNat]? =some W[i]:=by rw[Int.toNat_natCast];exact List.getElem?_eq_getElem hi
  have hget2:H[((i:Int)).toNat]? =some H[i]:=by rw[Int.toNat_natCast];exact List.getElem?_eq_getElem hj
  have ih:=fun acc h=>n9z mg W H y1 y2 hl hh hWH hL k (i+1) acc (by omega) h
  refine a1m _ _ _ _ _ _ ⟨fun h=>⟨W[i],hget,by omega,_,m23 mg _ hz,?_⟩,fun h=>by simp only[decide_eq_false_iff_not]at h;omega⟩;rw[hw,List.drop_eq_getElem_cons hi,List.drop_eq_getElem_cons hj,c84];cases hv:vOK W[i]with
  |true=>
   rw[if_pos (rfl:true=true),if_pos (rfl:true=true)];refine⟨fun b=>b=false,fun b hb=>⟨fun h=>(by rw[hb]at h;cases h),fun _=>⟨fun _=>⟨H[i],hget2,by omega,_,l5a _ hz2,fun b=>b=decide ((b3s H[i]).2≠0\/H[i]=⟨#[]⟩),fun b4 h4=>⟨fun h=>?_,fun h=>⟨by simp;omega,?_⟩⟩,fun h=>?_,fun h=>⟨H[i],hget2,by omega,?_⟩⟩,fun h=>by simp at h⟩⟩,fun h=>by simp at h,fun _=>rfl⟩
   ·rw[h4]at h;rw[if_pos (of_decide_eq_true h)]
   ·rw[h4]at h;rw[if_neg (of_decide_eq_false h)];exact ih _ (by simp;omega)
   ·have:(b3s H[i]).2≠0:=by simpa using h
    rw[decide_eq_true (Or.inl this)]
   ·have h0:(b3s H[i]).2=0:=by simpa using h
    by_cases he:H[i]=⟨#[]⟩
    ·rw[decide_eq_true he,decide_eq_true (Or.inr he)]
    ·rw[decide_eq_false he,decide_eq_false (fun hc=>hc.elim (fun q=>q h0) he)]
  |false=>
   rw[if_neg (show ¬(false=true) from Bool.noConfusion),if_neg (show ¬(false=true) from Bool.noConfusion)];refine⟨fun b=>b= !(decide (W[i]=H[i])),fun b hb=>⟨fun h=>?_,fun h=>⟨fun q=>by simp at q,fun _=>?_⟩⟩,fun _=>⟨H[i],hget2,by omega,rfl⟩,fun h=>by simp at h⟩
   ·rw[hb]at h;have:¬W[i]=H[i]:=by simpa using h
    rw[if_neg this]
   ·rw[hb]at h;have:W[i]=H[i]:=by simpa using h
    rw[if_pos this];exact ih _ (by omega)
def c5u(r:B5)(path:ByteArray):List S3 × Bool:=if(a9i r.Path).2=true/\(a5g path).2=true/\(a9i r.Path).1.length=(a5g path).1.length then c84 (a9i r.Path).1 (a5g path).1 [] else([],false)
theorem a7q(s:ByteArray):(a9i s).1.length<=8/\∀x∈(a9i s).1,x.size<=s.size:=by
 unfold a9i;split
 ·rename_i h;exact⟨h.2.1,(b91 s).2⟩
 ·exact⟨by simp,fun x hx=>by simp at hx⟩
theorem o2t(mg:Int)(r:B5)(verb path:ByteArray)(hp:r.Path.size<=1048576)(hs:path.size<=1048576):a6e mg r verb path (if r.Verb=verb then c5u r path else([],false)):=by
 refine b05 _ _ _ _ _ ⟨_,i9z mg _ hp,_,h6w _ hs,fun h=>?_,fun h=>?_⟩
 ·split
  ·rename_i hv;unfold c5u;rw[if_neg (fun hc=>?_)];simp only[Bool.or_eq_true,Bool.not_eq_true',decide_eq_false_iff_not,bne_iff_ne]at h;rcases h with((h|h)|h)|h
   ·rw[hc.1]at h;cases h
   ·rw[hc.2.1]at h;cases h
   ·exact h hv
   ·exact h (by rw[hc.2.2])
  ·rfl
 ·simp only[Bool.or_eq_false_iff,Bool.not_eq_false',decide_eq_true_eq,bne_eq_false_iff_eq]at h;obtain⟨⟨⟨h1,h2⟩,h3⟩,h4⟩:=h;have h5:(a9i r.Path).1.length=(a5g path).1.length:=by omega
  rw[if_pos h3];unfold c5u;rw[if_pos ⟨h1,h2,h5⟩];exact n9z mg (a9i r.Path).1 (a5g path).1 _ _ (fun x hx=>Nat.le_trans ((a7q _).2 x hx) hp) (fun x hx=>Nat.le_trans ((b91 _).2 x hx) hs) h5 (Nat.le_trans (a7q _).1 (by omega)) _ 0 [] (Nat.zero_add _) (by simp)
def c86(verb path:ByteArray):List B5->Nat->Int × List S3 × Int
 |[],_=>(0,[],10)
 |r::l,i=>if r.Verb=verb/\(c5u r path).2=true then((i:Int),(c5u r path).1,0) else c86 verb path l (i+1)
theorem m28(mg:Int)(L:List B5)(verb path:ByteArray)(hl:∀x∈L,x.Path.size<=1048576)(hs:path.size<=1048576)(hL:L.length<=1048576):∀(k i:Nat),i+k=L.length->X0 i L verb path mg (c86 verb path (L.drop i) i)
 |0,i,hk=>by
  refine a1n _ _ _ _ _ _ ⟨fun h=>by simp only[decide_eq_true_eq]at h;omega,fun _=>?_⟩;rw[List.drop_eq_nil_of_le (by omega)];rfl
 |k+1,i,hk=>by
  have hi:i<L.length:=by omega
  have hw:wI ((i:Int)+1)=((i+1:Nat):Int):=by rw[a4y (by omega)];omega
  have hget:L[((i:Int)).toNat]? =some L[i]:=by rw[Int.toNat_natCast];exact List.getElem?_eq_getElem hi
  refine a1n _ _ _ _ _ _ ⟨fun h=>⟨L[i],hget,by omega,_,o2t mg _ verb path (hl _ (List.getElem_mem hi)) hs,?_⟩,fun h=>by simp only[decide_eq_false_iff_not]at h;omega⟩;rw[hw,List.drop_eq_getElem_cons hi,c86];have ih:=m28 mg L verb path hl hs hL k (i+1) (by omega)
  by_cases hv:L[i].Verb=verb
  ·rw[if_pos hv];refine⟨fun h=>by rw[if_pos ⟨hv,h⟩],fun h=>?_⟩;rw[if_neg (fun hc=>by rw[hc.2]at h;cases h)];exact ih
  ·rw[if_neg hv,if_neg (fun hc=>hv hc.1)];exact⟨fun h=>by simp at h,fun _=>ih⟩
theorem n9y(L:List B5)(hL:L.length<=70):∀(k i:Nat),i+k=L.length->∃b,a09 i L b/\(b=true->∀x∈L.drop i,x.Path.size<=300/\x.Service.size<=300/\x.Method.size<=300/\x.Body.size<=300)
 |0,i,hk=>by
  refine⟨true,a3o _ _ _ ⟨fun h=>by simp only[decide_eq_true_eq]at h;omega,fun _=>rfl⟩,fun _ x hx=>?_⟩;rw[List.drop_eq_nil_of_le (by omega)]at hx;cases hx
 |k+1,i,hk=>by
  have hi:i<L.length:=by omega
  have hw:wI ((i:Int)+1)=((i+1:Nat):Int):=by rw[a4y (by omega)];omega
  have hget:L[((i:Int)).toNat]? =some L[i]:=by rw[Int.toNat_natCast];exact List.getElem?_eq_getElem hi
  obtain⟨b,ih,hb⟩:=n9y L hL k (i+1) (by omega);have big:Bool:=false
  let c4:=decide (300<(L[i].Verb.size:Int))||decide (300<(L[i].Path.size:Int))
  let c5:=c4||decide (300<(L[i].Service.size:Int))
  let c6:=c5||decide (300<(L[i].Method.size:Int))
  let c7:=c6||decide (300<(L[i].Body.size:Int))
  refine⟨if c7=true then false else b,a3o _ _ _ ⟨fun h=>⟨_,hget,by omega,fun z=>z=c4,fun b4 h4=>⟨fun z=>z=c5,fun b5 h5=>⟨fun z=>z=c6,fun b6 h6=>⟨fun h=>?_,fun h=>⟨_,hget,by omega,fun h9=>?_,fun h9=>?_⟩⟩,fun h=>?_,fun h=>⟨_,hget,by omega,?_⟩⟩,fun h=>?_,fun h=>⟨_,hget,by omega,?_⟩⟩,fun h=>?_,fun h=>⟨_,hget,by omega,?_⟩⟩,fun h=>by simp only[decide_eq_false_iff_not]at h;omega⟩,fun h x hx=>?_⟩
  ·have:c7=true:=by show(c6||_)=true;rw[<-h6,h];rfl
   rw[if_pos this]
  ·have:c7=true:=by show(c6||_)=true;rw[h9,Bool.or_true]
   rw[if_pos this]
  ·have:c7=false:=by show(c6||_)=false;rw[<-h6,h,h9];rfl
   rw[if_neg (by rw[this];simp),hw];exact ih
  ·show true=(c5||_);rw[<-h5,h];rfl
  ·show _=(c5||_);rw[<-h5,h];rfl
  ·show true=(c4||_);rw[<-h4,h];rfl
  ·show _=(c4||_);rw[<-h4,h];rfl
  ·show true=(decide (300<(L[i].Verb.size:Int))||_);rw[h];rfl
  ·show _=(decide (300<(L[i].Verb.size:Int))||_);rw[h];rfl
  ·have h7:c7=false:=by
    cases hc:c7 with
    |false=>rfl
    |true=>rw[if_pos hc]at h;cases h
   rw[if_neg (by rw[h7];simp)]at h;rw[List.drop_eq_getElem_cons hi]at hx;rcases List.mem_cons.1 hx with rfl|hx
   ·have:((((decide (300<(L[i].Verb.size:Int))||decide (300<(L[i].Path.size:Int)))||decide (300<(L[i].Service.size:Int)))||decide (300<(L[i].Method.size:Int)))||decide (300<(L[i].Body.size:Int)))=false:=h7;simp only[Bool.or_eq_false_iff,decide_eq_false_iff_not]at this;omega
   ·exact hb h x hx
theorem d7s(L:List B5):∃b,a91 L b/\(b=true->L.length<=70/\∀x∈L,x.Path.size<=300/\x.Service.size<=300/\x.Method.size<=300/\x.Body.size<=300):=by
 by_cases h:L.length<=70
 ·obtain⟨b,h1,h2⟩:=n9y L h _ 0 (Nat.zero_add _);refine⟨b,a6l _ _ ⟨fun hh=>by simp only[decide_eq_true_eq]at hh;omega,fun _=>h1⟩,fun hb=>⟨h,?_⟩⟩;have:=h2 hb;rw[List.drop_zero]at this;exact this
 ·exact⟨false,a6l _ _ ⟨fun _=>rfl,fun hh=>by simp only[decide_eq_false_iff_not]at hh;omega⟩,fun hb=>by cases hb⟩
def d8x:List ByteArray->List ByteArray->Bool
 |x::xs,y::ys=> !(d3u x&&d3u y&& !(decide (x=y)))&&d8x xs ys
 |_,_=>true
def ovl(a b:B5):Bool:=decide (a.Verb=b.Verb)&&decide ((a9i a.Path).1.length=(a9i b.Path).1.length)&&d8x (a9i a.Path).1 (a9i b.Path).1
theorem e20(s:ByteArray)(h:d3u s=true):vOK s=false:=by
 cases hv:vOK s with
 |false=>rfl
 |true=>
  unfold vOK at hv;simp only[Bool.and_eq_true,decide_eq_true_eq,Bool.not_eq_true']at hv;obtain⟨h3,hn⟩:=hv;unfold noV at hn;simp only[Bool.or_eq_false_iff,bne_eq_false_iff_eq]at hn;have h0:=hn.1.1;rw[a3t s 0 (by omega)]at h0;unfold d3u at h;simp only[Bool.and_eq_true,List.all_eq_true]at h;have h':0<s.data.toList.length:=by rw[c05];omega
  have hm:s[0]∈s.data.toList:=List.getElem_mem h';have h1:=h.1 _ hm;rw[h0]at h1;revert h1;decide
theorem c3b{s h:ByteArray}{ws hs:List ByteArray}{acc:List S3}(hm:(c84 (s::ws) (h::hs) acc).2=true):(vOK s=false->s=h)/\∃a,(c84 ws hs a).2=true:=by
 rw[c84]at hm;split at hm
 ·rename_i hv;refine⟨fun h=>(by rw[hv]at h;cases h),?_⟩;split at hm
  ·cases hm
  ·exact⟨_,hm⟩
 ·split at hm
  ·rename_i he;exact⟨fun _=>he,_,hm⟩
  ·cases hm
theorem c6c:∀(xs ys hs:List ByteArray) (a b:List S3),(c84 xs hs a).2=true->(c84 ys hs b).2=true->d8x xs ys=true
 |[],_,_,_,_,_,_=>by simp[d8x]
 |x::xs,[],_,_,_,_,_=>by simp[d8x]
 |x::xs,y::ys,[],a,b,h1,h2=>by simp[c84]at h1
 |x::xs,y::ys,h::hs,a,b,h1,h2=>by
  obtain⟨k1,a',g1⟩:=c3b h1;obtain⟨k2,b',g2⟩:=c3b h2;rw[d8x,c6c xs ys hs a' b' g1 g2,Bool.and_true];cases l1:d3u x with
  |false=>rfl
  |true=>
   cases l2:d3u y with
   |false=>rfl
   |true=>
    have e:x=y:=(k1 (e20 x l1)).trans (k2 (e20 y l2)).symm;rw[decide_eq_true e];rfl
theorem d2v(a b:B5)(verb path:ByteArray)(ha:a.Verb=verb/\(c5u a path).2=true)(hb:b.Verb=verb/\(c5u b path).2=true):ovl a b=true:=by
 have inv:∀r:B5,(c5u r path).2=true->(a9i r.Path).1.length=(a5g path).1.length/\(c84 (a9i r.Path).1 (a5g path).1 []).2=true:=by
  intro r h;unfold c5u at h;split at h
  ·rename_i hc;exact⟨hc.2.2,h⟩
  ·cases h
 obtain⟨l1,m1⟩:=inv a ha.2;obtain⟨l2,m2⟩:=inv b hb.2;unfold ovl;rw[decide_eq_true (ha.1.trans hb.1.symm),decide_eq_true (l1.trans l2.symm),c6c _ _ _ _ _ m1 m2];rfl
theorem c6p(verb path:ByteArray):∀(L:List B5) (i:Nat),(∀r∈L,¬(r.Verb=verb/\(c5u r path).2=true))->c86 verb path L i=(0,[],10)
 |[],_,_=>rfl
 |r::L,i,h=>by
  rw[c86,if_neg (h r (by simp))];exact c6p verb path L (i+1) fun x hx=>h x (by simp[hx])
theorem c5w(verb path:ByteArray):∀(L:List B5) (i:Nat),c86 verb path L i=(0,[],10)\/∃k r,L[k]? =some r/\(r.Verb=verb/\(c5u r path).2=true)/\c86 verb path L i=(((i+k:Nat):Int),(c5u r path).1,0)
 |[],_=>.inl rfl
 |r::L,i=>by
  rw[c86]
  by_cases h:r.Verb=verb/\(c5u r path).2=true
  ·rw[if_pos h];exact .inr ⟨0,r,rfl,h,rfl⟩
  ·rw[if_neg h];rcases c5w verb path L (i+1) with h2|⟨k,x,h2,h3,h4⟩
   ·exact .inl h2
   ·refine .inr ⟨k+1,x,by simpa using h2,h3,?_⟩;rw[h4,show i+1+k=i+(k+1) by omega]
def j6t(L:List B5):Prop:=∀(i k:Nat) (a b:B5),k<i->L[k]? =some a->L[i]? =some b->ovl a b=false
theorem f97(verb path:ByteArray)(L:List B5)(hA:j6t L)(i:Nat)(r:B5)(hi:L[i]? =some r)(hr:r.Verb=verb/\(c5u r path).2=true):c86 verb path (L.take i++L.drop (i+1)) 0=(0,[],10):=by
 refine c6p verb path _ 0 fun x hx hc=>?_
 rcases List.mem_append.1 hx with hx|hx
 ·obtain⟨j,hj,e⟩:=List.mem_iff_getElem.1 hx;have hj':j<i:=by rw[List.length_take]at hj;omega
  have h1:L[j]? =some x:=by
   rw[List.getElem_take]at e;rw[<-e];exact List.getElem?_eq_getElem _
  have h2:=hA i j x r hj' h1 hi;rw[d2v x r verb path hc hr]at h2;cases h2
 ·obtain⟨j,hj,e⟩:=List.mem_iff_getElem.1 hx
  have h1:L[i+1+j]? =some x:=by
   rw[List.getElem_drop]at e;rw[<-e];exact List.getElem?_eq_getElem _
  have h2:=hA (i+1+j) i r x (by omega) hi h1;rw[d2v r x verb path hr hc]at h2;cases h2
theorem a5o{i:Nat}(h:i<=4611686018427387904):wI ((i:Int)+1)=((i+1:Nat):Int):=by rw[a4y (by omega)];omega
theorem k42{α:Type}{J:Int->α × Bool->Prop}{E:α × Bool->Prop}{C:α->Bool->Prop}(f:α->Bool)(s:List α)(r:α × Bool)
  (b8i:∀(i:Int),((decide (i<(s.length:Int)))=true->∃y3,s[i.toNat]? =some y3/\0<=i/\(∃y4,C y3 y4/\((y4=true->∃y5,s[i.toNat]? =some y5/\0<=i/\r=(y5,true))/\(y4=false->J (wI (i+1)) r))))/\((decide (i<(s.length:Int)))=false->E r)->J i r)
  (hs:Sz s.length) (hC:∀x∈s,C x (f x)) (hr:∀x,s.find? f=some x->r=(x,true)) (hn:s.find? f=none->E r):J 0 r:=by
 unfold Sz at hs
 have key:∀(d i:Nat),s.length - i<=d->i<=s.length->(∀x,(s.drop i).find? f=some x->r=(x,true))->((s.drop i).find? f=none->E r)->J i r:=by
  intro d
  induction d with
  |zero=>
   intro i hd hi _ k2;exact b8i _ ⟨fun h=>by simp at h;omega,fun _=>k2 (by rw[List.drop_eq_nil_of_le (by omega)];rfl)⟩
  |succ d ih=>
   intro i hd hi k1 k2;rcases Nat.lt_or_ge i s.length with hlt|hge
   ·have e1:=a5o (i:=i) (by omega);have dl:s.drop i=s[i]::s.drop (i+1):=List.drop_eq_getElem_cons hlt;have hget:s[((i:Int)).toNat]? =some s[i]:=by simp
    rw[dl,List.find?_cons]at k1 k2;refine b8i _ ⟨fun _=>⟨s[i],hget,by omega,_,hC _ (List.getElem_mem _),fun h=>⟨s[i],hget,by omega,?_⟩,fun h=>?_⟩,fun h=>by simp at h;omega⟩
    ·rw[h]at k1;exact k1 _ rfl
    ·rw[e1];rw[h]at k1 k2;exact ih (i+1) (by omega) (by omega) k1 k2
   ·exact b8i _ ⟨fun h=>by simp at h;omega,fun _=>k2 (by rw[List.drop_eq_nil_of_le hge];rfl)⟩
 exact key s.length 0 (by omega) (by omega) (by simpa using hr) (by simpa using hn)
def fsT{α:Type}(f:α->Bool)(z:α)(l:List α):α × Bool:=match l.find? f with|some x=>(x,true)|none=>(z,false)
theorem c3l{α:Type}{J:Int->α × Bool->Prop}{C:α->Bool->Prop}(f:α->Bool)(z:α)(s:List α)
  (b8i:∀(i:Int) r,((decide (i<(s.length:Int)))=true->∃y3,s[i.toNat]? =some y3/\0<=i/\(∃y4,C y3 y4/\((y4=true->r=(y3,true))/\(y4=false->J (wI (i+1)) r))))/\((decide (i<(s.length:Int)))=false->r=(z,false))->J i r)
  (hs:Sz s.length) (hC:∀x∈s,C x (f x)):J 0 (fsT f z s):=by
 refine k42 (E:=fun r=>r=(z,false)) (C:=C) f s _ (fun i hw=>b8i i _ ⟨fun h=>?_,hw.2⟩) hs hC (fun x hx=>?_) fun hx=>?_
 ·obtain⟨y3,h1,h2,y4,h3,h4,h5⟩:=hw.1 h;refine⟨y3,h1,h2,y4,h3,fun h=>?_,h5⟩;obtain⟨y5,g1,_,g2⟩:=h4 h;rw[h1]at g1;cases g1;exact g2
 ·unfold fsT;rw[hx]
 ·unfold fsT;rw[hx]
theorem d3a{α:Type}{f:α->Bool}{z:α}{l:List α}{T:α->Prop}(hz:T z)(hl:∀x∈l,T x):T (fsT f z l).1:=by
 unfold fsT;split
 ·rename_i x hx;exact hl _ (List.mem_of_find?_eq_some hx)
 ·exact hz
theorem c2y{α:Type}{J:Int->Int->Prop}{C:α->Bool->Prop}(f:α->Bool)(s:List α)
  (b8i:∀(i r:Int),((decide (i<(s.length:Int)))=true->∃y3,s[i.toNat]? =some y3/\0<=i/\(∃y4,C y3 y4/\((y4=true->r=i)/\(y4=false->J (wI (i+1)) r))))/\((decide (i<(s.length:Int)))=false->r=(-1))->J i r)
  (hs:Sz s.length) (hC:∀x∈s,C x (f x)):∃k,J 0 k/\((k<0/\s.find? f=none)\/∃x,0<=k/\s[k.toNat]? =some x/\s.find? f=some x):=by
 unfold Sz at hs
 have key:∀(d i:Nat),s.length - i<=d->i<=s.length->∃k,J i k/\((k<0/\(s.drop i).find? f=none)\/∃x,0<=k/\s[k.toNat]? =some x/\(s.drop i).find? f=some x):=by
  intro d
  induction d with
  |zero=>
   intro i hd hi;exact⟨-1,b8i _ _ ⟨fun h=>by simp at h;omega,fun _=>rfl⟩,.inl ⟨by omega,by rw[List.drop_eq_nil_of_le (by omega)];rfl⟩⟩
  |succ d ih=>
   intro i hd hi;rcases Nat.lt_or_ge i s.length with hlt|hge
   ·have e1:=a5o (i:=i) (by omega);have dl:s.drop i=s[i]::s.drop (i+1):=List.drop_eq_getElem_cons hlt;have hget:s[((i:Int)).toNat]? =some s[i]:=by simp
    rw[dl,List.find?_cons];cases hf:f s[i]with
    |true=>
     exact⟨i,b8i _ _ ⟨fun _=>⟨s[i],hget,by omega,_,hC _ (List.getElem_mem _),fun _=>rfl,fun h=>by rw[hf]at h;cases h⟩,fun h=>by simp at h;omega⟩,.inr ⟨s[i],by omega,hget,rfl⟩⟩
    |false=>
     obtain⟨k,h1,h2⟩:=ih (i+1) (by omega) (by omega);exact⟨k,b8i _ _ ⟨fun _=>⟨s[i],hget,by omega,_,hC _ (List.getElem_mem _),fun h=>(by rw[hf]at h;cases h),fun _=>by rw[e1];exact h1⟩,fun h=>by simp at h;omega⟩,h2⟩
   ·exact⟨-1,b8i _ _ ⟨fun h=>by simp at h;omega,fun _=>rfl⟩,.inl ⟨by omega,by rw[List.drop_eq_nil_of_le hge];rfl⟩⟩
 simpa using key s.length 0 (by omega) (by omega)
theorem c6u{α:Type}{f:α->Bool}{s:List α}{k:Int}(h:(k<0/\s.find? f=none)\/∃x,0<=k/\s[k.toNat]? =some x/\s.find? f=some x):decide (0<=k)=s.any f:=by
 rcases h with⟨h1,h2⟩|⟨x,h1,_,h2⟩
 ·rw[decide_eq_false (by omega)];symm;rw[List.any_eq_false];exact List.find?_eq_none.1 h2
 ·rw[decide_eq_true h1];symm;rw[List.any_eq_true];exact⟨x,List.mem_of_find?_eq_some h2,List.find?_some h2⟩
abbrev gfS(n:Nat)(name:ByteArray):GFn:=⟨n,[],[.elt [.v (.string name)] 0],by simp[plainL,plain]⟩
def v0:C0:=⟨0,0,⟨#[]⟩,[],[],[],[]⟩
def zF:B3:=⟨0,⟨#[]⟩,0,0,⟨0,⟨#[]⟩⟩,⟨#[]⟩,false,v0,[]⟩
def zM:B2:=⟨⟨#[]⟩,[],[],[],[]⟩
def zMe:D8:=⟨⟨#[]⟩,⟨#[]⟩,⟨#[]⟩,0,[]⟩
def zS:C7:=⟨⟨#[]⟩,[],[]⟩
def c75(s:A3)(name:ByteArray):B2 × Bool:=fsT (fun m:B2=>decide (m.Name=name)) zM s.Messages
def g3v(s:A3)(name:ByteArray):C7 × Bool:=fsT (fun m:C7=>decide (m.Name=name)) zS s.Services
theorem c9o(s:A3)(hs:a6u s)(name:ByteArray):a1j s name (c75 s name):=
 b28 _ _ _ ⟨_,a5z _ _ _ (c3l (J:=fun i r=>M6 i s.Messages _ r) (fun m:B2=>decide (m.Name=name)) zM s.Messages (fun i r hw=>a3w _ _ _ _ hw) hs.nm fun x hx=>b1f x name _ (b0h _ _ _ rfl)),rfl⟩
theorem j8z(s:A3)(hs:a6u s)(name:ByteArray):a7j s name (g3v s name):=
 b3c _ _ _ ⟨_,a58 _ _ _ (c3l (J:=fun i r=>N0 i s.Services _ r) (fun m:C7=>decide (m.Name=name)) zS s.Services (fun i r hw=>a3x _ _ _ _ hw) hs.ns fun x hx=>b1b x name _ (b00 _ _ _ rfl)),rfl⟩
theorem b2g.zero:b2g zM:=⟨Nat.zero_le _,Nat.zero_le _,fun _ h=>(by cases h),Nat.zero_le _,fun _ h=>(by cases h),Nat.zero_le _,fun _ h=>(by cases h),Nat.zero_le _,fun _ h=>(by cases h)⟩
theorem b1j.zero:b1j zS:=⟨Nat.zero_le _,Nat.zero_le _,fun _ h=>(by cases h),Nat.zero_le _,fun _ h=>(by cases h)⟩
theorem c5c{s:A3}(hs:a6u s)(name:ByteArray):b2g (c75 s name).1:=d3a .zero hs.msgs
theorem f8p{s:A3}(hs:a6u s)(name:ByteArray):b1j (g3v s name).1:=d3a .zero hs.servs
def c8o(l:List F4)(name:ByteArray):C0 × Bool:=match l.find? (fun n=>decide (n.Name=name)) with|some n=>(n.Val,true)|none=>(v0,false)
theorem d7i(l:List F4)(hl:Sz l.length)(name:ByteArray):b7e l name (c8o l name):=by
 obtain⟨k,h1,h2⟩:=c2y (J:=fun i r=>G8 i l (gfS 345 name) r) (fun n:F4=>decide (n.Name=name)) l (fun i r hw=>Y4 _ _ _ _ hw) hl fun x hx=>b4n x name _ (b21 _ _ _ rfl)
 refine b8f _ _ _ ⟨k,b56 _ _ _ ⟨_,a0u _ _ _ h1,rfl⟩,fun h=>?_,fun h=>?_⟩
 ·rcases h2 with⟨_,h2⟩|⟨x,h2,_⟩
  ·unfold c8o;rw[h2];rfl
  ·simp at h;omega
 ·rcases h2 with⟨h2,_⟩|⟨x,h2,h3,h4⟩
  ·simp at h;omega
  ·exact⟨x,h3,h2,by unfold c8o;rw[h4]⟩
def e2m(l:List F4)(name:ByteArray):Bool:=((c8o l ⟨#[97,108,105,97,115]⟩).2&&((c8o l ⟨#[97,108,105,97,115]⟩).1.Kind==7))&&decide ((c8o l ⟨#[97,108,105,97,115]⟩).1.Text=name)
def c87(m:B2)(name:ByteArray):B3 × Bool:=
 match m.Fields.find? (fun f=>decide (f.Name=name)) with
 |some x=>(x,true)
 |none=>fsT (fun f=>e2m f.Notes name) zF m.Fields
theorem d2s(m:B2)(hm:b2g m)(name:ByteArray):a0g m name (c87 m name):=by
 have h1:=c3l (J:=fun i r=>L8 i m.Fields (gfS 198 name) r) (fun f:B3=>decide (f.Name=name)) zF m.Fields (fun i r hw=>Y9 _ _ _ _ hw) hm.nf fun x hx=>a7p x name _ (a61 _ _ _ rfl)
 have h2:=c3l (J:=fun i r=>L8 i m.Fields (gfS 199 name) r) (fun f:B3=>e2m f.Notes name) zF m.Fields (fun i r hw=>Y9 _ _ _ _ hw) hm.nf fun x hx=>a75 x name _ (a6v _ _ _ ⟨_,b3b _ _ _ ⟨_,d7i _ (hm.fields x hx).nn _,rfl⟩,rfl⟩)
 refine a8u _ _ _ ⟨_,a1o _ _ _ h1,fun h=>?_,fun h=>⟨_,a1o _ _ _ h2,?_⟩⟩
 ·unfold fsT at h ⊢;unfold c87;cases hf:m.Fields.find? (fun f:B3=>decide (f.Name=name)) with
  |some x=>rfl
  |none=>rw[hf]at h;cases h
 ·unfold c87;unfold fsT at h;cases hf:m.Fields.find? (fun f:B3=>decide (f.Name=name)) with
  |some x=>rw[hf]at h;cases h
  |none=>rfl
def b73(c:UInt8):List UInt8->List UInt8 × List UInt8 × Bool
 |[]=>([],[],false)
 |x::r=>if x=c then([],r,true) else(x::(b73 c r).1,(b73 c r).2.1,(b73 c r).2.2)
def b8k(c:UInt8)(s:ByteArray):ByteArray × ByteArray × Bool:=(F1 (b73 c s.data.toList).1,F1 (b73 c s.data.toList).2.1,(b73 c s.data.toList).2.2)
theorem c7a(c:UInt8):∀l,(b73 c l).1.length<=l.length/\(b73 c l).2.1.length<=l.length/\((b73 c l).2.2=true->(b73 c l).2.1.length<l.length)
 |[]=>by simp[b73]
 |x::r=>by
  obtain⟨h1,h2,h3⟩:=c7a c r;unfold b73;split
  ·simp
  ·simp only[List.length_cons];exact⟨by omega,by omega,fun h=>by have:=h3 h;omega⟩
theorem d1o(c:UInt8):∀l:List UInt8,Lib.cut l [c]=b73 c l
 |[]=>by
  have h:Lib.index ([]:List UInt8) [c]= -1:=by unfold Lib.index;simp
  unfold Lib.cut;rw[h,if_neg (by omega)];rfl
 |x::r=>by
  have ih:=d1o c r
  by_cases hc:x=c
  ·subst hc;have hi:Lib.index (x::r) [x]=0:=by unfold Lib.index;simp
   unfold Lib.cut;rw[hi,if_pos (by omega)];unfold b73;rw[if_pos rfl];simp
  ·have hi:Lib.index (x::r) [c]=if Lib.index r [c]== -1 then -1 else Lib.index r [c]+1:=by
    rw[Lib.index];rw[if_neg (by simp[Ne.symm hc])]
   unfold b73;rw[if_neg hc,<-ih];unfold Lib.cut;have h0:=Lib.index_ge r [c]
   by_cases hm:Lib.index r [c]= -1
   ·rw[hi,hm];simp
   ·obtain⟨i,hii⟩:∃i:Nat,Lib.index r [c]=i:=⟨(Lib.index r [c]).toNat,by omega⟩
    have e1:¬(((i:Int)== -1)=true):=by rw[beq_iff_eq];omega
    rw[hi,hii,if_neg e1,if_pos (by omega),if_pos (by omega)];have e2:((i:Int)+1).toNat=i+1:=by omega
    simp[e2,Nat.add_right_comm]
theorem c7k(w:World)(n:Nat):a5d w (w.drewN n):=⟨Nat.le_refl _,fun _ _=>rfl,rfl,rfl,rfl⟩
theorem e2t(mg:Int)(s:ByteArray)(hs:s.size<=1048576):strings_Cut mg s ⟨#[47]⟩ (b8k 47 s):=by
 refine⟨⟨_,Tryz.func79,by kernel_rfl,by kernel_rfl⟩,fun w outer cargs ho hg hr=>?_⟩;rw[c5y hr];refine(Tryz.strings_Cut s ⟨#[47]⟩ mg w (by omega) (b8s hg)).mono fun e w' ⟨he,n,hw⟩=>?_
 have hc:Lib.cut s.data.toList (⟨#[47]⟩:ByteArray).data.toList=b73 47 s.data.toList:=d1o 47 s.data.toList;rw[hc]at he;refine⟨.tuple [.v (.string (b8k 47 s).1),.v (.string (b8k 47 s).2.1),.v (.bool (b8k 47 s).2.2)],_,he,by rw[hw];exact c7k w n,?_,rfl⟩;refine Rel.tuple_mk rfl fun i av hi=>?_
 match i,hi with
 |0,hi=>simp at hi;subst hi;exact⟨_,rfl,.v _ rfl⟩
 |1,hi=>simp at hi;subst hi;exact⟨_,rfl,.v _ rfl⟩
 |2,hi=>simp at hi;subst hi;exact⟨_,rfl,.v _ rfl⟩
theorem k6h(c:UInt8)(s:ByteArray)(hs:s.size<=1048576):∀(k i:Nat),i+k=s.size->a4q i s c.toNat (F1 (s.data.toList.take i++(b73 c (s.data.toList.drop i)).1),F1 (b73 c (s.data.toList.drop i)).2.1,(b73 c (s.data.toList.drop i)).2.2)
 |0,i,hk=>by
  refine a3p _ _ _ _ ⟨fun h=>by simp only[decide_eq_true_eq]at h;omega,fun _=>?_⟩;rw[List.drop_eq_nil_of_le (by rw[c05];omega),List.take_of_length_le (by rw[c05];omega)];simp[b73,F1]
 |k+1,i,hk=>by
  have hi:i<s.size:=by omega
  have e1:=a5o (i:=i) (by omega);refine a3p _ _ _ _ ⟨fun h=>⟨by omega,fun h1=>?_,fun h1=>?_⟩,fun h=>by simp only[decide_eq_false_iff_not]at h;omega⟩
  ·simp only[Int.toNat_natCast,a3t s i hi,beq_iff_eq]at h1;have hc:s[i]=c:=UInt8.toNat_inj.1 (by omega);rw[e1];refine⟨by omega,by omega,?_⟩;rw[P6 s i hi];unfold b73;rw[if_pos hc];simp only[Int.toNat_natCast,Int.toNat_zero,List.append_nil];have a1:s.extract 0 i=F1 (s.data.toList.take i):=b66 (by rw[Lib.extract_data];simp[F1])
   have a2:s.extract (i+1) s.size=F1 (s.data.toList.drop (i+1)):=b66 (by
    rw[Lib.extract_data,List.take_of_length_le (by rw[List.length_drop,c05];omega)];rfl)
   rw[a1,a2]
  ·simp only[Int.toNat_natCast,a3t s i hi,beq_eq_false_iff_ne,ne_eq]at h1;have hc:¬s[i]=c:=fun h=>h1 (by rw[h])
   rw[e1];have:=k6h c s hs k (i+1) (by omega);rw[P6 s i hi];unfold b73;rw[if_neg hc]
   have ht:s.data.toList.take (i+1)=s.data.toList.take i++[s[i]]:=by
    have h':i<s.data.toList.length:=by rw[c05];exact hi
    rw[List.take_add_one,List.getElem?_eq_getElem h'];rfl
   rw[ht,List.append_assoc]at this;exact this
def b9f(s:A3)(f:B3):Bool:= !(((f.Type_.Kind !=10)||(f.Card==4))||(f.Card==5))&&(c75 s f.Type_.Name).2
def b8l(s:A3):List (List UInt8)->B2->List B3->List B3 × Int
 |[],_,acc=>(acc,0)
 |p::ps,m,acc=>if(c87 m (F1 p)).2=true then(if ps=[] then(acc++[(c87 m (F1 p)).1],0) else if b9f s (c87 m (F1 p)).1=true then b8l s ps (c75 s (c87 m (F1 p)).1.Type_.Name).1 (acc++[(c87 m (F1 p)).1]) else([],12)) else([],8)
def a8d(s:A3)(name path:ByteArray):List B3 × Int:=if path=⟨#[]⟩ then([],1) else if(c75 s name).2=true then b8l s (a9a path.data.toList) (c75 s name).1 [] else([],10)
theorem e0r(mg:Int)(s:A3)(hs:a6u s)(L:List (List UInt8))(hL:L.length<=2097152):∀(k i:Nat) (m:B2) (acc:List B3) (f:B3),i+k=L.length->acc.length=i->acc[i - 1]? =some f->1<=i->
  a32 i (L.map F1) acc s m.Name m.Fields m.Reserved m.Gone m.Notes mg (if L.drop i=[] then(acc,0) else if b9f s f=true then b8l s (L.drop i) (c75 s f.Type_.Name).1 acc else([],12))
 |0,i,m,acc,f,hk,ha,hf,h1=>by
  refine a05 _ _ _ _ _ _ _ _ _ _ _ ⟨fun h=>by simp only[decide_eq_true_eq,List.length_map]at h;omega,fun _=>?_⟩;rw[if_pos (List.drop_eq_nil_of_le (by omega))]
 |k+1,i,m,acc,f,hk,ha,hf,h1=>by
  have hi:i<L.length:=by omega
  have e1:=a5o (i:=i) (by omega);have e2:wI ((i:Int) - 1)=((i - 1:Nat):Int):=by rw[a4y (by omega)];omega
  have dl:L.drop i=L[i]::L.drop (i+1):=List.drop_eq_getElem_cons hi;refine a05 _ _ _ _ _ _ _ _ _ _ _ ⟨fun _=>⟨F1 L[i],by rw[Int.toNat_natCast,List.getElem?_map,List.getElem?_eq_getElem hi];rfl,by omega,fun _=>⟨f,by rw[e2,Int.toNat_natCast];exact hf,by rw[e2];omega,_,c9o s hs _,fun h=>?_,fun h=>?_⟩,fun h=>by simp only[decide_eq_false_iff_not]at h;omega⟩,fun h=>by simp only[decide_eq_false_iff_not,List.length_map]at h;omega⟩
  ·have ho:b9f s f=false:=by unfold b9f;cases hb:(((f.Type_.Kind !=10)||(f.Card==4))||(f.Card==5))<;>rw[hb]at h<;>simp_all
   rw[if_neg (by rw[dl];exact List.cons_ne_nil _ _),if_neg (by rw[ho];exact Bool.noConfusion)]
  ·have ho:b9f s f=true:=by unfold b9f;cases hb:(((f.Type_.Kind !=10)||(f.Card==4))||(f.Card==5))<;>rw[hb]at h<;>simp_all
   rw[if_neg (by rw[dl];exact List.cons_ne_nil _ _),if_pos ho,dl,b8l];refine a42 _ _ _ _ _ _ _ _ _ _ _ _ ⟨_,d2s _ (c5c hs _) _,fun h=>?_,fun h=>⟨by simp;omega,?_⟩⟩
   ·rw[if_neg (by simpa using h)]
   ·rw[if_pos (by simpa using h),e1];exact e0r mg s hs L hL k (i+1) (c75 s f.Type_.Name).1 _ _ (by omega) (by simp[ha]) (by rw[List.getElem?_append_right (by omega)];simp[ha]) (by omega)
theorem e43(mg:Int)(s:A3)(hs:a6u s)(name path:ByteArray)(hp:path.size<=1048576):b7w mg s name path (a8d s name path):=by
 unfold a8d;refine b8a _ _ _ _ _ ⟨fun h=>by rw[if_pos (of_decide_eq_true h)],fun h=>⟨_,c9o s hs name,fun h2=>?_,fun h2=>⟨_,c5i mg path hp,?_⟩⟩⟩
 ·rw[if_neg (of_decide_eq_false h),if_neg (by simpa using h2)]
 ·rw[if_neg (of_decide_eq_false h),if_pos (by simpa using h2)];have hlen:=(b4y path.data.toList).1;rw[c05]at hlen;have e1:=a5o (i:=0) (by omega);generalize hL:a9a path.data.toList=L at*;cases L with
  |nil=>exact absurd hL (c0p _)
  |cons p ps=>
   rw[b8l];refine a05 _ _ _ _ _ _ _ _ _ _ _ ⟨fun _=>⟨F1 p,rfl,by omega,fun h=>by simp at h,fun _=>?_⟩,fun h=>by simp at h⟩;refine a42 _ _ _ _ _ _ _ _ _ _ _ _ ⟨_,d2s _ (c5c hs _) _,fun h=>?_,fun h=>⟨by simp,?_⟩⟩
   ·rw[if_neg (by simpa using h)]
   ·rw[if_pos (by simpa using h)];have:=e0r mg s hs (p::ps) (by omega) ps.length 1 (c75 s name).1 ([]++[(c87 (c75 s name).1 (F1 p)).1]) _ (by simp;omega) rfl rfl (by omega);rw[show wI (0+1)=((1:Nat):Int) from rfl];exact this
theorem c6v(s:A3):∀(ps:List (List UInt8)) (m:B2) (acc:List B3),(b8l s ps m acc).1.length<=acc.length+ps.length/\((b8l s ps m acc).2=0->ps≠[]->(b8l s ps m acc).1≠[])
 |[],m,acc=>⟨by simp[b8l],fun _ h=>absurd rfl h⟩
 |p::ps,m,acc=>by
  rw[b8l];obtain⟨h1,h2⟩:=c6v s ps (c75 s (c87 m (F1 p)).1.Type_.Name).1 (acc++[(c87 m (F1 p)).1]);split
  ·split
   ·exact⟨by simp,fun _ _=>by simp⟩
   ·rename_i hne;split
    ·exact⟨by simp at h1 ⊢;omega,fun h _=>h2 h hne⟩
    ·exact⟨by simp,fun h=>by simp at h⟩
  ·exact⟨by simp,fun h=>by simp at h⟩
theorem c55(s:A3)(name path:ByteArray):(a8d s name path).1.length<=path.size+1/\((a8d s name path).2=0->(a8d s name path).1≠[]):=by
 unfold a8d;split
 ·exact⟨by simp,fun h=>by simp at h⟩
 ·split
  ·obtain⟨h1,h2⟩:=c6v s (a9a path.data.toList) (c75 s name).1 [];have hlen:=(b4y path.data.toList).1;rw[c05]at hlen;exact⟨by simp at h1;omega,fun h=>h2 h (c0p _)⟩
  ·exact⟨by simp,fun h=>by simp at h⟩
def o15(l:List D8)(name:ByteArray):D8 × Bool:=fsT (fun m:D8=>decide (m.Name=name)) zMe l
def l6s(s:A3)(path:ByteArray):D8 × Bool:=if(b8k 47 path).2.2=true then o15 (g3v s (b8k 47 path).1).1.Methods (b8k 47 path).2.1 else(zMe,false)
theorem e9o{s:A3}{name:ByteArray}(h:(g3v s name).2=false):(g3v s name).1=zS:=by
 unfold g3v fsT at h ⊢;split at h
 ·cases h
 ·rfl
theorem f6n(mg:Int)(s:A3)(hs:a6u s)(path:ByteArray)(hp:path.size<=1048576):b0e mg s path (l6s s path):=by
 unfold l6s;refine b37 _ _ _ _ ⟨_,e2t mg path hp,_,j8z s hs _,fun h=>?_,fun h=>?_⟩
 ·split
  ·rename_i hc;have h2:(g3v s (b8k 47 path).1).2=false:=by rw[hc]at h;simpa using h
   rw[e9o h2];rfl
  ·rfl
 ·simp only[Bool.or_eq_false_iff,Bool.not_eq_false']at h;rw[if_pos h.1];exact⟨_,a6y _ _ _ (c3l (J:=fun i r=>O0 i _ (gfS 154 (b8k 47 path).2.1) r) (fun m:D8=>decide (m.Name=(b8k 47 path).2.1)) zMe _ (fun i r hw=>a4z _ _ _ _ hw) (f8p hs _).nm fun x hx=>b2f x _ _ (b1r _ _ _ rfl)),rfl⟩
def c46(s:A3)(path:ByteArray):D8 × Int:=
 if((b8k 47 path).2.2&&c8h (b8k 47 path).1&&b4d (b8k 47 path).2.1)=true then(if(l6s s path).2=true then((l6s s path).1,0) else(zMe,10)) else(zMe,2)
theorem d48(c:UInt8)(s:ByteArray):(b8k c s).1.size<=s.size/\(b8k c s).2.1.size<=s.size:=by
 obtain⟨h1,h2,_⟩:=c7a c s.data.toList;rw[c05]at h1 h2;unfold b8k;exact⟨by rw[S9];exact h1,by rw[S9];exact h2⟩
theorem g0h(mg:Int)(s:A3)(hs:a6u s)(path:ByteArray)(hp:path.size<=1048576):b0z mg s path (c46 s path):=by
 obtain⟨l1,l2⟩:=d48 47 path;refine b4a _ _ _ _ ⟨_,e2t mg path hp,fun b=>b= !((b8k 47 path).2.2&&c8h (b8k 47 path).1),fun b1 hb1=>⟨fun b=>b= !((b8k 47 path).2.2&&c8h (b8k 47 path).1&&b4d (b8k 47 path).2.1),fun b2 hb2=>⟨fun h=>?_,fun h=>⟨_,f6n mg s hs path hp,fun h2=>?_,fun h2=>?_⟩⟩,fun h=>?_,fun h=>⟨_,c89 _ (by omega),?_⟩⟩,fun h=>?_,fun h=>⟨_,c5k mg _ (by omega),?_⟩⟩
 ·rw[hb2]at h;unfold c46;rw[if_neg (by rw[Bool.not_eq_true']at h;rw[h];exact Bool.noConfusion)];rfl
 ·rw[hb2]at h;unfold c46;rw[if_pos (by simpa using h),if_neg (by simpa using h2)];rfl
 ·rw[hb2]at h;unfold c46;rw[if_pos (by simpa using h),if_pos (by simpa using h2)]
 ·rw[hb1]at h;simp only[Bool.not_eq_true']at h;rw[h];rfl
 ·rw[hb1]at h;simp only[Bool.not_eq_false']at h;rw[h,Bool.true_and]
 ·simp only[Bool.not_eq_true']at h;rw[h];rfl
 ·simp only[Bool.not_eq_false']at h;rw[h,Bool.true_and]
theorem d0s{α:Type}{l:List α}{i:Nat}(h:i<l.length):l[((i:Int)).toNat]? =some l[i]:=by rw[Int.toNat_natCast];exact List.getElem?_eq_getElem h
def b5h(path:ByteArray):List ByteArray:=((a9i path).1.filter vOK).map d3v
theorem c4s(mg:Int)(W:List ByteArray)(y:Bool)(hl:∀x∈W,x.size<=1048576)(hL:W.length<=8):∀(k i:Nat) (acc:List ByteArray),i+k=W.length->acc.length<=i->J9 i (W,y) acc mg (acc++((W.drop i).filter vOK).map d3v)
 |0,i,acc,hk,ha=>by
  refine W3 _ _ _ _ _ ⟨fun h=>by simp only[decide_eq_true_eq]at h;omega,fun _=>?_⟩;rw[List.drop_eq_nil_of_le (by omega)];simp
 |k+1,i,acc,hk,ha=>by
  have hi:i<W.length:=by omega
  have e1:=a5o (i:=i) (by omega);refine W3 _ _ _ _ _ ⟨fun _=>⟨W[i],d0s hi,by omega,_,m23 mg _ (hl _ (List.getElem_mem hi)),?_⟩,fun h=>by simp only[decide_eq_false_iff_not]at h;omega⟩;rw[e1,List.drop_eq_getElem_cons hi];cases hv:vOK W[i]with
  |true=>
   rw[if_pos rfl,List.filter_cons_of_pos hv,List.map_cons];refine⟨fun _=>⟨by simp;omega,?_⟩,fun h=>(by cases h)⟩;have:=c4s mg W y hl hL k (i+1) (acc++[d3v W[i]]) (by omega) (by simp;omega);rw[List.append_assoc]at this;exact this
  |false=>
   rw[if_neg (by simp),List.filter_cons_of_neg (by rw[hv];simp)];exact⟨fun h=>(by cases h),fun _=>c4s mg W y hl hL k (i+1) acc (by omega) (by omega)⟩
theorem d5l(mg:Int)(path:ByteArray)(hp:path.size<=1048576):a08 mg path (b5h path):=by
 refine a6x _ _ _ ⟨_,i9z mg _ hp,?_⟩;have:=c4s mg (a9i path).1 (a9i path).2 (fun x hx=>Nat.le_trans ((a7q _).2 x hx) hp) (a7q _).1 _ 0 [] (Nat.zero_add _) (Nat.le_refl _);exact this
theorem c2z(path:ByteArray):(b5h path).length<=8/\∀x∈b5h path,x.size<=path.size:=by
 obtain⟨h1,h2⟩:=a7q path;refine⟨?_,fun x hx=>?_⟩
 ·unfold b5h;rw[List.length_map];exact Nat.le_trans (List.length_filter_le _ _) h1
 ·unfold b5h at hx;obtain⟨y,hy,rfl⟩:=List.mem_map.1 hx;have:=h2 y (List.mem_filter.1 hy).1;rw[c0a];omega
def c28(l:List B3):List Int:=l.map (·.Num)
theorem e1b(l:List B3)(hl:l.length<=2097152):∀(k i:Nat) (acc:List Int),i+k=l.length->acc.length<=i->S4 i l acc (acc++c28 (l.drop i))
 |0,i,acc,hk,ha=>by
  refine a0h _ _ _ _ ⟨fun h=>by simp only[decide_eq_true_eq]at h;omega,fun _=>?_⟩;rw[List.drop_eq_nil_of_le (by omega)];simp[c28]
 |k+1,i,acc,hk,ha=>by
  have hi:i<l.length:=by omega
  have e1:=a5o (i:=i) (by omega);refine a0h _ _ _ _ ⟨fun _=>⟨l[i],d0s hi,by omega,by simp;omega,?_⟩,fun h=>by simp only[decide_eq_false_iff_not]at h;omega⟩;have:=e1b l hl k (i+1) (acc++[l[i].Num]) (by omega) (by simp;omega);rw[e1,List.drop_eq_getElem_cons hi];rw[List.append_assoc]at this;exact this
theorem g2k(l:List B3)(hl:l.length<=2097152):a3q l (c28 l):=a8z _ _ (by
 have:=e1b l hl l.length 0 [] (Nat.zero_add _) (Nat.le_refl _);rw[List.drop_zero,List.nil_append]at this;exact this)
theorem n9h(a b:List Int)(hab:a.length=b.length)(hl:a.length<=2097152):∀(k i:Nat),i+k=a.length->J6 i a b (decide (a.drop i=b.drop i))
 |0,i,hk=>by
  refine Q2 _ _ _ _ ⟨fun h=>by simp only[decide_eq_true_eq]at h;omega,fun _=>?_⟩;rw[List.drop_eq_nil_of_le (by omega),List.drop_eq_nil_of_le (by omega)];rfl
 |k+1,i,hk=>by
  have hi:i<a.length:=by omega
  have hj:i<b.length:=by omega
  have e1:=a5o (i:=i) (by omega);refine Q2 _ _ _ _ ⟨fun _=>⟨a[i],d0s hi,by omega,b[i],d0s hj,by omega,fun h=>?_,fun h=>?_⟩,fun h=>by simp only[decide_eq_false_iff_not]at h;omega⟩
  ·rw[List.drop_eq_getElem_cons hi,List.drop_eq_getElem_cons hj];simp only[bne_iff_ne,ne_eq]at h;refine decide_eq_false ?_;intro hc;injection hc with h1 _
   exact h h1
  ·simp only[bne_eq_false_iff_eq]at h;rw[e1,List.drop_eq_getElem_cons hi,List.drop_eq_getElem_cons hj,h];have:=n9h a b hab hl k (i+1) (by omega);have e:∀(x:Int) (l m:List Int),decide (x::l=x::m)=decide (l=m):=fun x l m=>decide_eq_decide.2 ⟨fun h=>by injection h,fun h=>by rw[h]⟩
   rw[e];exact this
theorem m0b(a b:List Int)(hl:a.length<=2097152)(hb:b.length<=2097152):T4 a b (decide (a=b)):=by
 refine a3v _ _ _ ⟨fun h=>?_,fun h=>?_⟩
 ·refine decide_eq_false ?_;rintro rfl;simp at h
 ·simp only[bne_eq_false_iff_eq]at h;have:=n9h a b (by omega) hl a.length 0 (by omega);exact this
def c8q(f:B3):Bool:=decide (1<=f.Card)&&decide (f.Card<=3)
def g88(f:B3):Bool:=(decide (1<=f.Type_.Kind)&&decide (f.Type_.Kind<=9))&&(f.Type_.Kind !=6)
def l6j(r:B5)(f:B3):Bool:= !(c8q f&&g88 f)||(decide (r.Body=⟨#[42]⟩)&&(f.Card==1))
theorem d8g(f:B3):a4r f (g88 f):=b0c _ _ ⟨_,b8m _ _ rfl,rfl⟩
theorem e68(l:List B3)(hl:l≠[])(hz:l.length<=2097152):l[(wI ((l.length:Int) - 1)).toNat]? =some (l.getLastD zF)/\0<=wI ((l.length:Int) - 1):=by
 have h1:1<=l.length:=by
  rcases Nat.lt_or_ge 0 l.length with h|h
  ·exact h
  ·exact absurd (List.eq_nil_of_length_eq_zero (by omega)) hl
 have e:wI ((l.length:Int) - 1)=((l.length - 1:Nat):Int):=by rw[a4y (by omega)];omega
 rw[e,Int.toNat_natCast];refine⟨?_,by omega⟩;rw[List.getLastD_eq_getLast?,List.getLast?_eq_getElem?];rw[List.getElem?_eq_getElem (by omega)];rfl
def cvG(s:A3)(in_:ByteArray)(r:B5):List ByteArray->List (List Int)->List (List Int) × Int
 |[],a2n=>(a2n,0)
 |v::vs,a2n=>
  if(a8d s in_ v).2=0 then
   (if l6j r ((a8d s in_ v).1.getLastD zF)=true then([],12)
   else if a2n.any (fun o=>decide (o=c28 (a8d s in_ v).1))=true then([],9) else cvG s in_ r vs (a2n++[c28 (a8d s in_ v).1]))
  else([],(a8d s in_ v).2)
theorem l5w(l:List (List Int))(n:List Int)(hl:l.length<=2097152)(hs:∀x∈l,x.length<=2097152)(hn:n.length<=2097152):E4 l (⟨120,[],[.elt [.sl (List.map F9 n) .no] 0],by simp[plainL,plain,D3]⟩:GFn) (l.any (fun o=>decide (o=n))):=by
 obtain⟨k,h1,h2⟩:=c2y (J:=fun i r=>E6 i l (⟨120,[],[.elt [.sl (List.map F9 n) .no] 0],by simp[plainL,plain,D3]⟩:GFn) r) (fun o=>decide (o=n)) l (fun i r hw=>L6 _ _ _ _ hw) (by unfold Sz;omega) fun x hx=>a2s x n _ (a12 _ _ _ ⟨_,m0b x n (hs x hx) hn,rfl⟩)
 exact L2 _ _ _ ⟨k,N8 _ _ _ h1,(c6u h2).symm⟩
theorem c57(l:List B3):(c28 l).length=l.length:=List.length_map _
theorem k6r(mg:Int)(s:A3)(hs:a6u s)(in_:ByteArray)(r:B5)(V:List ByteArray)(hV:V.length<=8)(hz:∀x∈V,x.size<=1048575):∀(k i:Nat) (a2n:List (List Int)),i+k=V.length->a2n.length<=i->(∀x∈a2n,x.length<=2097152)->
  J2 i V a2n in_ s r mg (cvG s in_ r (V.drop i) a2n)
 |0,i,a2n,hk,ha,hx=>by
  refine O8 _ _ _ _ _ _ _ _ ⟨fun h=>by simp only[decide_eq_true_eq]at h;omega,fun _=>?_⟩;rw[List.drop_eq_nil_of_le (by omega)];rfl
 |k+1,i,a2n,hk,ha,hx=>by
  have hi:i<V.length:=by omega
  have e1:=a5o (i:=i) (by omega);have hv:=hz _ (List.getElem_mem hi);obtain⟨p1,p2⟩:=c55 s in_ V[i];refine O8 _ _ _ _ _ _ _ _ ⟨fun _=>⟨V[i],d0s hi,by omega,_,e43 mg s hs in_ _ (by omega),fun h=>?_,fun h=>?_⟩,fun h=>by simp only[decide_eq_false_iff_not]at h;omega⟩
  ·rw[List.drop_eq_getElem_cons hi,cvG,if_neg (by simpa using h)]
  ·have h0:(a8d s in_ V[i]).2=0:=by simpa using h
   obtain⟨g1,g2⟩:=e68 _ (p2 h0) (by omega);rw[e1,List.drop_eq_getElem_cons hi,cvG,if_pos h0];refine⟨_,g1,g2,_,a9p _ _ rfl,fun b=>b= !(c8q ((a8d s in_ V[i]).1.getLastD zF)&&g88 ((a8d s in_ V[i]).1.getLastD zF)),fun b hb=>⟨fun h1=>?_,fun h1=>⟨_,g2k _ (by omega),_,l5w a2n _ (by omega) hx (by rw[c57];omega),fun h2=>?_,fun h2=>⟨by simp;omega,?_⟩⟩⟩,fun h1=>?_,fun h1=>⟨_,d8g _,?_⟩⟩
   ·rw[hb]at h1;rw[if_pos (show l6j r _=true from h1)]
   ·rw[hb]at h1;rw[if_neg (by rw[show l6j r _=false from h1];exact Bool.noConfusion),if_pos h2]
   ·rw[hb]at h1;rw[if_neg (by rw[show l6j r _=false from h1];exact Bool.noConfusion),if_neg (by rw[h2];exact Bool.noConfusion)];refine k6r mg s hs in_ r V hV hz k (i+1) _ (by omega) (by simp;omega) fun x hxm=>?_
    rcases List.mem_append.1 hxm with hxm|hxm
    ·exact hx x hxm
    ·simp only[List.mem_singleton]at hxm;subst hxm;rw[c57];omega
   ·have h3:c8q ((a8d s in_ V[i]).1.getLastD zF)=false:=by simpa using (show(!(c8q _))=true from h1)
    rw[h3];rfl
   ·have h3:c8q ((a8d s in_ V[i]).1.getLastD zF)=true:=by simpa using (show(!(c8q _))=false from h1)
    rw[h3,Bool.true_and]
theorem l26(mg:Int)(s:A3)(hs:a6u s)(in_:ByteArray)(r:B5)(hp:r.Path.size<=1048575):S2 mg s in_ r (cvG s in_ r (b5h r.Path) []):=by
 obtain⟨h1,h2⟩:=c2z r.Path;refine a3m _ _ _ _ _ ⟨_,d5l mg _ (by omega),?_⟩;have:=k6r mg s hs in_ r (b5h r.Path) h1 (fun x hx=>Nat.le_trans (h2 x hx) hp) _ 0 [] (Nat.zero_add _) (Nat.le_refl _) (fun x hx=>by cases hx);rw[List.drop_zero]at this;exact this
def d1i(s:A3)(in_:ByteArray)(r:B5):B3 × Bool:=c87 (c75 s in_).1 r.Body
def d82(s:A3)(in_:ByteArray)(r:B5):Bool:= !(decide (r.Body=⟨#[]⟩)||decide (r.Body=⟨#[42]⟩))&&(((d1i s in_ r).2&&((d1i s in_ r).1.Type_.Kind==10))&&(((d1i s in_ r).1.Card==1)||((d1i s in_ r).1.Card==2)))
def m68(s:A3)(in_:ByteArray)(r:B5)(c:List (List Int) × Int):Int:=
 if c.2=0 then
  (if(decide (r.Body=⟨#[]⟩)||decide (r.Body=⟨#[42]⟩))=true then 0
  else if d82 s in_ r=true then(if c.1.any (fun n=>n.headD 0==(d1i s in_ r).1.Num)=true then 9 else 0) else 8)
 else c.2
theorem e3r(s:A3)(in_:ByteArray)(r:B5):∀(V:List ByteArray) (a2n:List (List Int)),(∀x∈a2n,x≠[])->∀x∈(cvG s in_ r V a2n).1,x≠[]
 |[],a2n,h=>h
 |v::V,a2n,h=>by
  rw[cvG];split
  ·rename_i h0;split
   ·intro x hx;cases hx
   ·split
    ·intro x hx;cases hx
    ·refine e3r s in_ r V _ fun x hx=>?_
     rcases List.mem_append.1 hx with hx|hx
     ·exact h x hx
     ·simp only[List.mem_singleton]at hx;subst hx;intro hc;have:=(c55 s in_ v).2 h0;unfold c28 at hc;exact this (List.map_eq_nil_iff.1 hc)
  ·intro x hx;cases hx
theorem d08(s:A3)(in_:ByteArray)(r:B5):∀(V:List ByteArray) (a2n:List (List Int)),(cvG s in_ r V a2n).1.length<=a2n.length+V.length
 |[],a2n=>by simp[cvG]
 |v::V,a2n=>by
  have:=d08 s in_ r V (a2n++[c28 (a8d s in_ v).1]);simp only[List.length_append,List.length_cons,List.length_nil]at this;rw[cvG];split
  ·split
   ·simp
   ·split
    ·simp
    ·simp only[List.length_cons];omega
  ·simp
theorem k6y(l:List (List Int))(f:B3)(hl:l.length<=2097152)(hne:∀x∈l,x≠[]):E4 l (⟨57,[],[.elt (C2 f) 0],by simp[plainL,plain,E1]⟩:GFn) (l.any (fun n=>n.headD 0==f.Num)):=by
 have hc:∀x∈l,V6 x f (x.headD 0==f.Num):=fun x hx=>by
  refine a4x _ _ _ ?_;cases x with
  |nil=>exact absurd rfl (hne _ hx)
  |cons a b=>exact⟨a,rfl,Int.le_refl _,rfl⟩
 obtain⟨k,h1,h2⟩:=c2y (J:=fun i r=>E6 i l (⟨57,[],[.elt (C2 f) 0],by simp[plainL,plain,E1]⟩:GFn) r) (fun n=>n.headD 0==f.Num) l (fun i r hw=>L6 _ _ _ _ hw) (by unfold Sz;omega) fun x hx=>a5l x f _ (hc x hx)
 exact L2 _ _ _ ⟨k,N8 _ _ _ h1,(c6u h2).symm⟩
def d5h(v:ByteArray):Bool:=((((decide (v=⟨#[71,69,84]⟩))||(decide (v=⟨#[80,85,84]⟩)))||(decide (v=⟨#[80,79,83,84]⟩)))||(decide (v=⟨#[80,65,84,67,72]⟩)))||(decide (v=⟨#[68,69,76,69,84,69]⟩))
theorem f1k(v:ByteArray):J3 ([(⟨#[71,69,84]⟩:ByteArray),(⟨#[80,85,84]⟩:ByteArray),(⟨#[80,79,83,84]⟩:ByteArray),(⟨#[80,65,84,67,72]⟩:ByteArray),(⟨#[68,69,76,69,84,69]⟩:ByteArray)]:(List ByteArray)) v (d5h v):=by
 obtain⟨k,h1,h2⟩:=c2y (J:=fun i r=>G7 i ([(⟨#[71,69,84]⟩:ByteArray),(⟨#[80,85,84]⟩:ByteArray),(⟨#[80,79,83,84]⟩:ByteArray),(⟨#[80,65,84,67,72]⟩:ByteArray),(⟨#[68,69,76,69,84,69]⟩:ByteArray)]:(List ByteArray)) v r) (C:=fun y b=>b=decide (v=y)) (fun y=>decide (v=y)) _ (fun i r hw=>Y2 _ _ _ _ ⟨fun h=>by
  obtain⟨y3,g1,g2,y4,rfl,g4⟩:=hw.1 h;exact⟨y3,g1,g2,g4⟩,hw.2⟩) (by unfold Sz;simp) fun x hx=>rfl
 refine Y3 _ _ _ ⟨k,a0t _ _ _ h1,?_⟩;rw[c6u h2];unfold d5h;simp only[List.any_cons,List.any_nil,Bool.or_false,Bool.or_assoc]
def c5p(s:A3)(r:B5):Int:=
 if((a9i r.Path).2&&d5h r.Verb)=true then
  (if(c46 s ((r.Service++⟨#[47]⟩)++r.Method)).2=0 then
   (if(c46 s ((r.Service++⟨#[47]⟩)++r.Method)).1.Shape=1 then m68 s (c46 s ((r.Service++⟨#[47]⟩)++r.Method)).1.In r (cvG s (c46 s ((r.Service++⟨#[47]⟩)++r.Method)).1.In r (b5h r.Path) []) else 12)
  else(c46 s ((r.Service++⟨#[47]⟩)++r.Method)).2)
 else 2
def l6h(r:B5):Prop:=r.Path.size<=300/\r.Service.size<=300/\r.Method.size<=300/\r.Body.size<=300
theorem c01(a b:ByteArray):(a++b).size=a.size+b.size:=by simp
theorem d1g{r:B5}(hr:l6h r):((r.Service++(⟨#[47]⟩:ByteArray))++r.Method).size<=601:=by
 obtain⟨h1,h2,h3,h4⟩:=hr;rw[c01,c01];have:(⟨#[47]⟩:ByteArray).size=1:=rfl;omega
theorem d1r(s:A3)(hs:a6u s)(in_:ByteArray)(r:B5):∃y,a4u s in_ r y/\y.2=d82 s in_ r/\(y.2=true->y.1=(d1i s in_ r).1):=by
 by_cases h:((decide (r.Body=⟨#[]⟩)||decide (r.Body=⟨#[42]⟩)))=true
 ·refine⟨(zF,false),a3c _ _ _ _ ⟨fun _=>rfl,fun h2=>?_⟩,?_,fun h=>by cases h⟩
  ·rw[h]at h2;cases h2
  ·unfold d82;rw[h];rfl
 ·have h':(decide (r.Body=⟨#[]⟩)||decide (r.Body=⟨#[42]⟩))=false:=by simpa using h
  refine⟨((d1i s in_ r).1,((d1i s in_ r).2&&((d1i s in_ r).1.Type_.Kind==10))&&(((d1i s in_ r).1.Card==1)||((d1i s in_ r).1.Card==2))),a3c _ _ _ _ ⟨fun h2=>absurd h2 h,fun _=>⟨_,c9o s hs in_,_,d2s _ (c5c hs _) _,rfl⟩⟩,?_,fun _=>rfl⟩;unfold d82;rw[h'];rfl
theorem d2p(mg:Int)(s:A3)(hs:a6u s)(r:B5)(hr:l6h r):a0b mg s r (c5p s r):=by
 have hps:=d1g hr;obtain⟨r1,r2,r3,r4⟩:=hr;have hm:=g0h mg s hs ((r.Service++⟨#[47]⟩)++r.Method) (by omega);have o1:(⟨#[47]⟩:ByteArray).size=1:=rfl;have hpath:b0s r.Service r.Method ((r.Service++⟨#[47]⟩)++r.Method):=b4j _ _ _ ⟨by omega,by rw[c01];omega,rfl⟩;unfold c5p;generalize hq:(r.Service++(⟨#[47]⟩:ByteArray))++r.Method=q at*;refine a6g _ _ _ _ ⟨_,i9z mg _ (by omega),fun b=>b= !((a9i r.Path).2&&d5h r.Verb),fun b hb=>⟨fun h=>?_,fun h=>⟨q,hpath,_,hm,fun h2=>?_,fun h2=>⟨fun h3=>?_,fun h3=>⟨_,l26 mg s hs _ r (by omega),?_⟩⟩⟩⟩,fun h=>?_,fun h=>⟨_,f1k _,?_⟩⟩
 ·rw[hb]at h;rw[if_neg (by rw[Bool.not_eq_true']at h;rw[h];exact Bool.noConfusion)]
 ·rw[hb]at h;rw[if_pos (by simpa using h),if_neg (by simpa using h2)]
 ·rw[hb]at h;rw[if_pos (by simpa using h),if_pos (by simpa using h2),if_neg (by simpa using h3)]
 ·rw[hb]at h;rw[if_pos (by simpa using h),if_pos (by simpa using h2),if_pos (by simpa using h3)];have hne:=e3r s (c46 s q).1.In r (b5h r.Path) [] (fun x hx=>by cases hx);have hlen:=d08 s (c46 s q).1.In r (b5h r.Path) [];have hv8:=(c2z r.Path).1;simp only[List.length_nil]at hlen;generalize cvG s (c46 s q).1.In r (b5h r.Path) []=c at*;refine⟨fun h4=>?_,fun h4=>?_⟩
  ·unfold m68;rw[if_neg (by simpa using h4)]
  ·obtain⟨y,hy1,hy2,hy3⟩:=d1r s hs (c46 s q).1.In r;unfold m68;rw[if_pos (by simpa using h4)];refine⟨y,hy1,fun h5=>?_,fun h5=>⟨fun h6=>⟨_,k6y c.1 y.1 (by omega) hne,fun h7=>?_,fun h7=>?_⟩,fun h6=>?_⟩⟩
   ·rw[hy2]at h5;simp only[Bool.and_eq_true,Bool.not_eq_true',decide_eq_false_iff_not]at h5;rw[if_neg (by simp[h5.1.2,h5.2]),if_neg (by rw[h5.1.1];exact Bool.noConfusion)]
   ·have hb2:d82 s (c46 s q).1.In r=true:=hy2▸h6
    have hn:(decide (r.Body=⟨#[]⟩)||decide (r.Body=⟨#[42]⟩))=false:=by
     unfold d82 at hb2;simp only[Bool.and_eq_true,Bool.not_eq_true']at hb2;exact hb2.1
    rw[if_neg (by rw[hn];exact Bool.noConfusion),if_pos hb2];rw[hy3 h6]at h7;rw[if_pos h7]
   ·have hb2:d82 s (c46 s q).1.In r=true:=hy2▸h6
    have hn:(decide (r.Body=⟨#[]⟩)||decide (r.Body=⟨#[42]⟩))=false:=by
     unfold d82 at hb2;simp only[Bool.and_eq_true,Bool.not_eq_true']at hb2;exact hb2.1
    rw[if_neg (by rw[hn];exact Bool.noConfusion),if_pos hb2];rw[hy3 h6]at h7;rw[if_neg (by rw[h7];exact Bool.noConfusion)]
   ·rw[h6]at h5
    have hn:(decide (r.Body=⟨#[]⟩)||decide (r.Body=⟨#[42]⟩))=true:=by
     by_cases e1:r.Body=⟨#[]⟩
     ·simp[e1]
     ·by_cases e2:r.Body=⟨#[42]⟩
      ·simp[e2]
      ·simp[e1,e2]at h5
    rw[if_pos hn]
 ·have:(a9i r.Path).2=false:=by simpa using h
  rw[this];rfl
 ·have:(a9i r.Path).2=true:=by simpa using h
  rw[this,Bool.true_and]
theorem e3b(mg:Int)(W H:List ByteArray)(y1 y2:Bool)(hl:∀x∈W,x.size<=1048576)(hh:∀x∈H,x.size<=1048576)(hWH:W.length=H.length)(hL:W.length<=8):∀(k i:Nat),i+k=W.length->N1 i (W,y1) (H,y2) mg (d8x (W.drop i) (H.drop i))
 |0,i,hk=>by
  refine Z4 _ _ _ _ _ ⟨fun h=>by simp only[decide_eq_true_eq]at h;omega,fun _=>?_⟩;rw[List.drop_eq_nil_of_le (by omega)];rfl
 |k+1,i,hk=>by
  have hi:i<W.length:=by omega
  have hj:i<H.length:=by omega
  have e1:=a5o (i:=i) (by omega);have ih:=e3b mg W H y1 y2 hl hh hWH hL k (i+1) (by omega);rw[List.drop_eq_getElem_cons hi,List.drop_eq_getElem_cons hj,d8x];refine Z4 _ _ _ _ _ ⟨fun _=>⟨W[i],d0s hi,by omega,_,m5c _ (hl _ (List.getElem_mem hi)),fun b=>b=(d3u W[i]&&d3u H[i]),fun b hb=>⟨fun h=>⟨W[i],d0s hi,by omega,H[i],d0s hj,by omega,fun h2=>?_,fun h2=>?_⟩,fun h=>?_⟩,fun h=>⟨H[i],d0s hj,by omega,_,m5c _ (hh _ (List.getElem_mem hj)),?_⟩,fun h=>?_⟩,fun h=>by simp only[decide_eq_false_iff_not]at h;omega⟩
  ·rw[<-hb,h,h2];rfl
  ·rw[<-hb,h,h2,e1];exact ih
  ·rw[<-hb,h,e1];exact ih
  ·rw[h];rfl
  ·rw[h];rfl
theorem f6i(mg:Int)(a b:B5)(ha:a.Path.size<=1048576)(hb:b.Path.size<=1048576):a3h mg a b (ovl a b):=by
 refine a8t _ _ _ _ ⟨_,i9z mg _ ha,_,i9z mg _ hb,fun h=>?_,fun h=>?_⟩
 ·unfold ovl;simp only[Bool.or_eq_true,Bool.not_eq_true',decide_eq_false_iff_not,bne_iff_ne,ne_eq]at h;rcases h with h|h
  ·rw[decide_eq_false h];rfl
  ·rw[decide_eq_false (p:=(a9i a.Path).1.length=(a9i b.Path).1.length) (fun hc=>h (by rw[hc])),Bool.and_false];rfl
 ·simp only[Bool.or_eq_false_iff,Bool.not_eq_false',decide_eq_true_eq,bne_eq_false_iff_eq]at h;have h2:(a9i a.Path).1.length=(a9i b.Path).1.length:=by omega
  unfold ovl;rw[decide_eq_true h.1,decide_eq_true h2,Bool.true_and,Bool.true_and];have:=e3b mg (a9i a.Path).1 (a9i b.Path).1 (a9i a.Path).2 (a9i b.Path).2 (fun x hx=>Nat.le_trans ((a7q _).2 x hx) ha) (fun x hx=>Nat.le_trans ((a7q _).2 x hx) hb) h2 (a7q _).1 _ 0 (Nat.zero_add _);exact this
def zR:B5:=⟨⟨#[]⟩,⟨#[]⟩,⟨#[]⟩,⟨#[]⟩,⟨#[]⟩⟩
def prG(L:List B5):Nat->Nat->Int
 |0,_=>0
 |k+1,i=>if(L.take i).any (fun o=>ovl o (L.getD i zR))=true then 9 else prG L k (i+1)
def chG(s:A3):List B5->Int->Int
 |[],e=>e
 |r::L,e=>if c5p s r=0 then chG s L e else c5p s r
def h1d(s:A3)(L:List B5):Int:=if 64<L.length then 3 else chG s L (prG L L.length 0)
section
variable (mg:Int) (s:A3) (hs:a6u s) (L:List B5) (hL:L.length<=70) (hr:∀x∈L,l6h x)
 include hL hr
theorem l1s(i:Nat)(hi:i<L.length):I2 mg (L.take i) (⟨25,[],[.elt (C1 L[i]) 0],by simp[plainL,plain,I5]⟩:GFn) ((L.take i).any (fun o=>ovl o (L.getD i zR))):=by
 have hg:L.getD i zR=L[i]:=by rw[List.getD_eq_getElem?_getD,List.getElem?_eq_getElem hi];rfl
 have hp:=fun x hx=>(hr x hx).1
 rw[hg];have hc:∀x∈L.take i,a27 mg x L[i] (ovl x L[i]):=fun x hx=>a83 _ _ _ _ ⟨_,f6i mg _ _ (by have:=hp x (List.mem_of_mem_take hx);omega) (by have:=hp _ (List.getElem_mem hi);omega),rfl⟩
 obtain⟨k,h1,h2⟩:=c2y (J:=fun j r=>F8 j (L.take i) (⟨25,[],[.elt (C1 L[i]) 0],by simp[plainL,plain,I5]⟩:GFn) mg r) (fun o=>ovl o L[i]) (L.take i) (fun j r hw=>W0 _ _ _ _ _ hw) (by unfold Sz;rw[List.length_take];omega) fun x hx=>a90 mg x L[i] _ (hc x hx)
 exact V8 _ _ _ _ ⟨k,Z2 _ _ _ _ h1,(c6u h2).symm⟩
theorem j55:∀(k i:Nat),i+k=L.length->X1 i L mg (prG L k i)
 |0,i,hk=>a1t _ _ _ _ ⟨fun h=>by simp only[decide_eq_true_eq]at h;omega,fun _=>rfl⟩
 |k+1,i,hk=>by
  have hi:i<L.length:=by omega
  have e1:=a5o (i:=i) (by omega);have ha:=l1s mg L hL hr i hi;rw[prG];refine a1t _ _ _ _ ⟨fun _=>⟨L[i],d0s hi,by omega,by omega,_,ha,fun h=>?_,fun h=>?_⟩,fun h=>by simp only[decide_eq_false_iff_not]at h;omega⟩
  ·rw[if_pos h]
  ·rw[if_neg (by rw[h];exact Bool.noConfusion),e1];exact j55 k (i+1) (by omega)
 include hs
theorem i66:∀(k i:Nat),i+k=L.length->X6 i L s mg (chG s (L.drop i) (prG L L.length 0))
 |0,i,hk=>by
  rw[List.drop_eq_nil_of_le (by omega)];exact a1k _ _ _ _ _ ⟨fun h=>by simp only[decide_eq_true_eq]at h;omega,fun _=>j55 mg L hL hr _ 0 (Nat.zero_add _)⟩
 |k+1,i,hk=>by
  have hi:i<L.length:=by omega
  have e1:=a5o (i:=i) (by omega);rw[List.drop_eq_getElem_cons hi,chG];refine a1k _ _ _ _ _ ⟨fun _=>⟨L[i],d0s hi,by omega,_,d2p mg s hs _ (hr _ (List.getElem_mem hi)),fun h=>?_,fun h=>?_⟩,fun h=>by simp only[decide_eq_false_iff_not]at h;omega⟩
  ·rw[if_neg (by simpa using h)]
  ·rw[if_pos (by simpa using h),e1];exact i66 k (i+1) (by omega)
theorem f4n:a6d mg s L (h1d s L):=by
 unfold h1d;refine b1x _ _ _ _ ⟨fun h=>?_,fun h=>?_⟩
 ·simp only[decide_eq_true_eq]at h;rw[if_pos (by omega)]
 ·simp only[decide_eq_false_iff_not]at h;rw[if_neg (by omega)];exact i66 mg s hs L hL hr _ 0 (Nat.zero_add _)
 omit hs
 include hs
end
theorem c6g(s:A3)(e:Int):∀L:List B5,chG s L e=0->e=0
 |[],h=>h
 |r::L,h=>by
  rw[chG]at h;split at h
  ·exact c6g s e L h
  ·rename_i hn;exact absurd h hn
theorem c6o(L:List B5):∀(k i:Nat),i+k=L.length->prG L k i=0->∀j,i<=j->j<L.length->(L.take j).any (fun o=>ovl o (L.getD j zR))=false
 |0,i,hk,h,j,h1,h2=>by omega
 |k+1,i,hk,h,j,h1,h2=>by
  rw[prG]at h;split at h
  ·cases h
  ·rename_i hn
   by_cases hj:j=i
   ·subst hj;simpa using hn
   ·exact c6o L k (i+1) (by omega) h j (by omega) h2
theorem d2j(s:A3)(L:List B5)(h:h1d s L=0):j6t L:=by
 unfold h1d at h;split at h
 ·cases h
 ·have h0:=c6o L _ 0 (Nat.zero_add _) (c6g s _ L h);intro i k a b hki hka hib;have hi:=(List.getElem?_eq_some_iff.1 hib).1;have h1:=h0 i (Nat.zero_le _) hi;have hg:L.getD i zR=b:=by rw[List.getD_eq_getElem?_getD,hib];rfl
  rw[hg,List.any_eq_false]at h1;have hm:a∈L.take i:=List.mem_iff_getElem?.2 ⟨k,by rw[List.getElem?_take,if_pos hki];exact hka⟩;simpa using h1 a hm
def Ex{α:Type}(Q p:α->Prop):Prop:=∃r,p r/\Q r
section
variable {α β:Type}{Q:α->Prop}
theorem B9{e:α}(h:Q e):Ex Q (fun r=>r=e):=⟨e,rfl,h⟩
theorem D4{c:Prop}[Decidable c]{p q:α->Prop}(h1:c->Ex Q p)(h2:¬c->Ex Q q):Ex Q (fun r=>(decide c=true->p r)/\(decide c=false->q r)):=by
 by_cases h:c
 ·obtain⟨r,a,b⟩:=h1 h;exact⟨r,⟨fun _=>a,fun h'=>absurd h (of_decide_eq_false h')⟩,b⟩
 ·obtain⟨r,a,b⟩:=h2 h;exact⟨r,⟨fun h'=>absurd (of_decide_eq_true h') h,fun _=>a⟩,b⟩
theorem P3{c:Prop}[Decidable c]{p q:α->Prop}(h1:¬c->Ex Q p)(h2:c->Ex Q q):Ex Q (fun r=>((!decide c)=true->p r)/\((!decide c)=false->q r)):=by
 by_cases h:c
 ·obtain⟨r,a,b⟩:=h2 h;exact⟨r,⟨fun h'=>by simp[h]at h',fun _=>a⟩,b⟩
 ·obtain⟨r,a,b⟩:=h1 h;exact⟨r,⟨fun _=>a,fun h'=>by simp[h]at h'⟩,b⟩
theorem B1(B:Bool){p q:α->Prop}(h1:B=true->Ex Q p)(h2:B=false->Ex Q q):Ex Q (fun r=>(B=true->p r)/\(B=false->q r)):=by
 cases hB:B with
 |true=>obtain⟨r,a,b⟩:=h1 hB;exact⟨r,⟨fun _=>a,fun h=>by cases h⟩,b⟩
 |false=>obtain⟨r,a,b⟩:=h2 hB;exact⟨r,⟨fun h=>(by cases h),fun _=>a⟩,b⟩
theorem A5{F:β->Prop}{G:β->α->Prop}{S:β->Prop}(h:Ex S F)(k:∀y,S y->Ex Q (G y)):Ex Q (fun r=>∃y,F y/\G y r):=by
 obtain⟨y,hy,hs⟩:=h;obtain⟨r,a,b⟩:=k y hs;exact⟨r,⟨y,hy,a⟩,b⟩
theorem j7r{F:β->Prop}{G:β->α->Prop}{v:β}(h:F v)(k:Ex Q (G v)):Ex Q (fun r=>∃y,F y/\G y r):=by
 obtain⟨r,a,b⟩:=k;exact⟨r,⟨v,h,a⟩,b⟩
theorem C5{l:List β}{i:Int}{G:β->α->Prop}(h:0<=i/\i<l.length)(k:∀y,l[i.toNat]? =some y->y∈l->Ex Q (G y)):Ex Q (fun r=>∃y,l[i.toNat]? =some y/\0<=i/\G y r):=by
 have hlt:i.toNat<l.length:=by omega
 have he:=List.getElem?_eq_getElem hlt;obtain⟨r,a,b⟩:=k _ he (List.getElem_mem hlt);exact⟨r,⟨_,he,h.1,a⟩,b⟩
theorem b76{l:List β}{i:Int}{G:β->α->Prop}(y:β)(hy:l[i.toNat]? =some y)(h:0<=i)(k:Ex Q (G y)):Ex Q (fun r=>∃y,l[i.toNat]? =some y/\0<=i/\G y r):=by
 obtain⟨r,a,b⟩:=k;exact⟨r,⟨y,hy,h,a⟩,b⟩
theorem E2{A:Prop}{G:α->Prop}(h:A)(k:Ex Q G):Ex Q (fun r=>A/\G r):=by
 obtain⟨r,a,b⟩:=k;exact⟨r,⟨h,a⟩,b⟩
theorem E7{G:β->α->Prop}{H:(β->Prop)->α->Prop}(k:Ex Q (fun r=>H (fun z=>G z r) r)):Ex Q (fun r=>∃R:β->Prop,(∀z,R z->G z r)/\H R r):=by
 obtain⟨r,a,b⟩:=k;exact⟨r,⟨fun z=>G z r,fun z h=>h,a⟩,b⟩
theorem A4{p F:α->Prop}(h:∀r,p r->F r)(k:Ex Q p):Ex Q F:=by
 obtain⟨r,a,b⟩:=k;exact⟨r,h r a,b⟩
theorem g9b{p:α->Prop}{S:α->Prop}(h:Ex S p)(k:∀r,S r->Q r):Ex Q p:=by
 obtain⟨r,a,b⟩:=h;exact⟨r,a,k r b⟩
theorem Ex.to{p:α->Prop}(h:Ex Q p):∃r,p r/\Q r:=h
end
theorem upn{T:Nat->Prop}(n:Nat)(b8i:∀i,i<n->T (i+1)->T i)(fin:∀i,n<=i->T i):∀i,T i:=by
 have:∀k i,n - i<=k->T i:=by
  intro k
  induction k with
  |zero=>exact fun i h=>fin i (by omega)
  |succ k ih=>
   intro i h;rcases Nat.lt_or_ge i n with h1|h1
   ·exact b8i i h1 (ih (i+1) (by omega))
   ·exact fin i h1
 exact fun i=>this (n - i) i (Nat.le_refl _)
theorem Q3{i:Nat}(h:i<=4611686018427387904):wI ((i:Int)+1)=((i+1:Nat):Int):=by rw[wI,c2j (by omega)];omega
theorem c15{i:Nat}(h:0<i/\i<=4611686018427387904):wI ((i:Int) - 1)=((i - 1:Nat):Int):=by rw[wI,c2j (by omega)];omega
def yes{α:Type}:α->Prop:=fun _=>True
theorem D1{α β:Type}{Q:α->Prop}{G:β->α->Prop}{H:(β->Prop)->Prop}(h:Ex yes (fun z0=>H (fun z=>z0=z)))(k:∀z,Ex Q (G z)):Ex Q (fun r=>∃R:β->Prop,(∀z,R z->G z r)/\H R):=by
 obtain⟨z0,h1,_⟩:=h;obtain⟨r,a,b⟩:=k z0;exact⟨r,⟨fun z=>z0=z,fun z hz=>hz▸a,h1⟩,b⟩
theorem d1h{α:Type}(x:α):(yes:α->Prop) x:=trivial
theorem e9k(a b:ByteArray):(a++b).size=a.size+b.size:=ByteArray.size_append
theorem c49(b:Int):Ex yes (a5p b):=A4 (a14 _) (B9 trivial)
theorem b5w(b:Int):Ex yes (a2y b):=A4 (a0q _) (B9 trivial)
theorem d6i(s:ByteArray)(hs:s.size<=140737488351232):∀i:Nat,Ex yes (O6 (i:Int) s):=by
 refine upn (s.size) (fun i hi ih=>?_) (fun i hi=>?_)
 ·refine A4 (O1 _ _) ?_;rw[Q3 (by omega)]
  repeat' first|exact B9 trivial|exact ih|assumption|refine E7 ?_|refine D4 (fun h=>?_) (fun h=>?_)|refine P3 (fun h=>?_) (fun h=>?_)|refine B1 _ (fun h=>?_) (fun h=>?_)|refine C5 (by omega) (fun y hy hm=>?_)|refine E2 (by omega) ?_|refine A5 (c49 _) (fun y hq=>?_)|refine A5 (b5w _) (fun y hq=>?_)
 ·refine A4 (O1 _ _) ?_
  repeat' first|exact B9 trivial|exact ih|assumption|exact absurd ‹_› (by omega)|(exfalso;omega)|refine E7 ?_|refine D4 (fun h=>?_) (fun h=>?_)|refine P3 (fun h=>?_) (fun h=>?_)|refine B1 _ (fun h=>?_) (fun h=>?_)|refine C5 (by omega) (fun y hy hm=>?_)|refine E2 (by omega) ?_|refine A5 (c49 _) (fun y hq=>?_)|refine A5 (b5w _) (fun y hq=>?_)
theorem c9w(s:ByteArray)(hs:s.size<=140737488351232):Ex yes (Y5 s):=by
 refine A4 (a5k _) ?_
 repeat' first|exact B9 trivial|exact ih|assumption|exact d6i s hs 1|refine E7 ?_|refine D4 (fun h=>?_) (fun h=>?_)|refine P3 (fun h=>?_) (fun h=>?_)|refine B1 _ (fun h=>?_) (fun h=>?_)|refine C5 (by first|omega|(simp only[Bool.or_eq_false_iff,Bool.or_eq_true,Bool.and_eq_true,Bool.and_eq_false_iff,beq_iff_eq,beq_eq_false_iff_ne,decide_eq_false_iff_not,decide_eq_true_eq,ne_eq]at*;omega)) (fun y hy hm=>?_)|refine E2 (by first|omega|(simp only[Bool.or_eq_false_iff,Bool.or_eq_true,Bool.and_eq_true,Bool.and_eq_false_iff,beq_iff_eq,beq_eq_false_iff_ne,decide_eq_false_iff_not,decide_eq_true_eq,ne_eq]at*;omega)) ?_|refine A5 (c49 _) (fun y hq=>?_)|refine A5 (b5w _) (fun y hq=>?_)
theorem e0m(s:ByteArray):Ex yes (a4m s):=by
 refine A4 (b2t _) ?_
 repeat' first|exact B9 trivial|exact ih|assumption|refine E7 ?_|refine D4 (fun h=>?_) (fun h=>?_)|refine P3 (fun h=>?_) (fun h=>?_)|refine B1 _ (fun h=>?_) (fun h=>?_)|refine C5 (by omega) (fun y hy hm=>?_)|refine E2 (by omega) ?_
theorem d39(s:ByteArray)(hs:s.size<=140737488351232):∀i:Nat,∀w:ByteArray,w.size<=i/\i<=140737488351232->Ex yes (O5 (i:Int) w s):=by
 refine upn s.size (fun i hi ih w hw=>?_) (fun i hi w hw=>?_)
 ·have hz:(s.extract ((i:Int)).toNat (((i+1:Nat):Int)).toNat).size<=1:=by rw[c5z _ (by omega)];omega
  refine A4 (N9 _ _ _) ?_;rw[Q3 (by omega)]
  repeat' first|exact B9 trivial|exact ih|assumption|exact ih _ (by rw[e9k];omega)|exact ih ⟨#[]⟩ ⟨Nat.zero_le _,by omega⟩|refine E7 ?_|refine D4 (fun h=>?_) (fun h=>?_)|refine P3 (fun h=>?_) (fun h=>?_)|refine B1 _ (fun h=>?_) (fun h=>?_)|refine C5 (by omega) (fun y hy hm=>?_)|refine E2 (by omega) ?_|refine A5 (c9w _ (by omega)) (fun y hq=>?_)
 ·refine A4 (N9 _ _ _) ?_
  repeat' first|exact B9 trivial|exact ih|assumption|exact absurd ‹_› (by omega)|refine E7 ?_|refine D4 (fun h=>?_) (fun h=>?_)|refine P3 (fun h=>?_) (fun h=>?_)|refine B1 _ (fun h=>?_) (fun h=>?_)|refine C5 (by omega) (fun y hy hm=>?_)|refine E2 (by omega) ?_|refine A5 (c9w _ (by omega)) (fun y hq=>?_)
theorem k4l(s:ByteArray)(hs:s.size<=140737488351232):Ex yes (a65 s):=by
 refine A4 (b2x _) ?_
 repeat' first|exact B9 trivial|exact ih|assumption|exact d39 s hs 0 ⟨#[]⟩ ⟨Nat.zero_le _,by omega⟩|refine E7 ?_|refine D4 (fun h=>?_) (fun h=>?_)|refine P3 (fun h=>?_) (fun h=>?_)|refine B1 _ (fun h=>?_) (fun h=>?_)|refine C5 (by omega) (fun y hy hm=>?_)|refine E2 (by omega) ?_
def c65(s:ByteArray)(r:ByteArray × ByteArray):Prop:=r.1.size<=s.size - 1
theorem d0m(s:ByteArray)(hs:s.size<=140737488351232):∀k:Nat,k<=s.size->Ex (c65 s) (a1c ((k:Int) - 1) s):=by
 intro k
 induction k with
 |zero=>exact fun _=>A4 (a3r _ _) (D4 (fun h=>absurd h (by omega)) fun _=>B9 (Nat.zero_le _))
 |succ k ih=>
  intro hk;have e:wI (((k+1:Nat):Int) - 1 - 1)=(k:Int) - 1:=by rw[wI,c2j (by omega)];omega
  refine A4 (a3r _ _) ?_;rw[e];refine D4 (fun h=>E2 (by omega) (B1 _ (fun _=>E2 (by omega) (E2 ?_ (B9 ?_))) fun _=>ih (by omega))) fun h=>absurd (show(0:Int)<=((k+1:Nat):Int) - 1 by omega) h
  ·rw[wI,c2j (by omega)];omega
  ·unfold c65;simp only;rw[c5z _ (by omega)];omega
theorem f2m(s:ByteArray)(hs:s.size<=140737488351232):Ex (c65 s) (a93 s):=by
 refine A4 (b4l _) ?_;rw[wI,c2j (by omega)];exact d0m s hs s.size (Nat.le_refl _)
theorem h0j(l:List ByteArray)(hl:l.length<=140737488351232)(s:ByteArray):∀i:Nat,Ex yes (a34 (i:Int) l s):=by
 refine upn (l.length) (fun i hi ih=>?_) (fun i hi=>?_)
 ·refine A4 (a44 _ _ _) ?_
  try rw[Q3 (by omega)]
  repeat' first|exact B9 trivial|exact B9 trivial|assumption|exact ih|refine D1 ?_ (fun z=>?_)|refine E7 ?_|refine D4 (fun h=>?_) (fun h=>?_)|refine P3 (fun h=>?_) (fun h=>?_)|refine B1 _ (fun h=>?_) (fun h=>?_)|refine C5 (by omega) (fun y hy hm=>?_)|refine E2 (by omega) ?_
 ·refine A4 (a44 _ _ _) ?_
  repeat' first|exact B9 trivial|exact B9 trivial|assumption|exact absurd ‹_› (by omega)|(exfalso;omega)|refine D1 ?_ (fun z=>?_)|refine E7 ?_|refine D4 (fun h=>?_) (fun h=>?_)|refine P3 (fun h=>?_) (fun h=>?_)|refine B1 _ (fun h=>?_) (fun h=>?_)|refine C5 (by omega) (fun y hy hm=>?_)|refine E2 (by omega) ?_
theorem i1y(l:List ByteArray)(hl:l.length<=140737488351232)(s:ByteArray):Ex yes (b1u l s):=by
 refine A4 (b8j _ _) ?_
 repeat' first|exact B9 trivial|exact B9 trivial|assumption|exact h0j l hl s 0|refine D1 ?_ (fun z=>?_)|refine E7 ?_|refine D4 (fun h=>?_) (fun h=>?_)|refine P3 (fun h=>?_) (fun h=>?_)|refine B1 _ (fun h=>?_) (fun h=>?_)|refine C5 (by omega) (fun y hy hm=>?_)|refine E2 (by omega) ?_
theorem c8b:∀n:Nat,∀(i:Nat) (s:ByteArray),i<=120->120 - i<=n->s.size<=140737488351232->Ex yes (a0f (i:Int) s):=by
 intro n
 induction n with
 |zero=>
  intro i s h1 h2 hs;refine A4 (a2j _ _) (B1 _ (fun h=>?_) fun _=>B9 trivial);simp only[Bool.and_eq_true,decide_eq_true_eq]at h;exact absurd h.1 (by omega)
 |succ n ih=>
  intro i s h1 h2 hs;refine A4 (a2j _ _) (B1 _ (fun h=>?_) fun _=>B9 trivial);simp only[Bool.and_eq_true,decide_eq_true_eq]at h;refine A5 (f2m s hs) fun y hy=>A5 (e0m _) fun y2 _=>B1 _ (fun _=>B9 trivial) fun _=>?_
  unfold c65 at hy;rw[Q3 (by omega)];exact ih (i+1) y.1 (by omega) (by omega) (by omega)
theorem b93(s:ByteArray)(hs:s.size<=140737488351232):Ex yes (a1w s):=by
 refine A4 (b3m _) (A5 (k4l s hs) fun y _=>B1 _ (fun _=>B9 trivial) fun _=>?_);exact c8b 120 0 s (by omega) (by omega) hs
theorem c0y(s:ByteArray)(hs:s.size<=140737488351232):Ex yes (M5 s):=by
 refine A4 (a78 _) ?_
 repeat' first|exact B9 trivial|exact B9 trivial|assumption|refine D1 ?_ (fun z=>?_)|refine E7 ?_|refine D4 (fun h=>?_) (fun h=>?_)|refine P3 (fun h=>?_) (fun h=>?_)|refine B1 _ (fun h=>?_) (fun h=>?_)|refine C5 (by omega) (fun y hy hm=>?_)|refine E2 (by omega) ?_|refine A5 (c9w s hs) (fun y hq=>?_)|refine A5 (e0m s) (fun y hq=>?_)
theorem d9j(s:ByteArray)(i lo hi:Int)(h0:0<=i):Ex yes (P0 s i lo hi):=by
 refine A4 (b10 _ _ _ _) ?_
 repeat' first|exact B9 trivial|exact B9 trivial|assumption|exact absurd ‹false=true› Bool.noConfusion|refine E7 ?_|refine D4 (fun h=>?_) (fun h=>?_)|refine P3 (fun h=>?_) (fun h=>?_)|refine B1 _ (fun h=>?_) (fun h=>?_)|refine C5 (by omega) (fun y hy hm=>?_)|refine E2 (by omega) ?_
theorem d6n(s:ByteArray)(i n:Int)(h0:0<=i/\i<=1000000000000000)(hn:n<=3):∀k:Nat,Ex yes (a2r (k:Int) s i n):=by
 refine upn 4 (fun k hk ih=>?_) (fun k hk=>?_)
 ·refine A4 (a4n _ _ _ _) ?_;rw[Q3 (by omega),show wI (i+k)=i+k from a4y (by omega)]
  repeat' first|exact B9 trivial|exact B9 trivial|assumption|exact ih|refine D1 ?_ (fun z=>?_)|refine E7 ?_|refine D4 (fun h=>?_) (fun h=>?_)|refine P3 (fun h=>?_) (fun h=>?_)|refine B1 _ (fun h=>?_) (fun h=>?_)|refine C5 (by omega) (fun y hy hm=>?_)|refine E2 (by omega) ?_|refine A5 (d9j s _ _ _ (by omega)) (fun y hq=>?_)
 ·refine A4 (a4n _ _ _ _) (D4 (fun h=>absurd h (by omega)) fun _=>B9 trivial)
theorem i96(s:ByteArray)(i n:Int)(h0:0<=i/\i<=1000000000000000)(hn:n<=3):Ex yes (U4 s i n):=by
 refine A4 (b7h _ _ _) ?_
 repeat' first|exact B9 trivial|exact B9 trivial|assumption|exact d6n s i n h0 hn 0|refine D1 ?_ (fun z=>?_)|refine E7 ?_|refine D4 (fun h=>?_) (fun h=>?_)|refine P3 (fun h=>?_) (fun h=>?_)|refine B1 _ (fun h=>?_) (fun h=>?_)|refine C5 (by omega) (fun y hy hm=>?_)|refine E2 (by omega) ?_
theorem i06(s:ByteArray)(hs:s.size<=140737488351232)(i:Nat)(hi:i<s.size):Ex (fun r:Int=>0<=r/\r<=4) (b2k s (i:Int)):=by
 have w1:wI ((i:Int)+1)=(i:Int)+1:=a4y (by omega);have w2:wI ((i:Int)+2)=(i:Int)+2:=a4y (by omega);refine A4 (b6x _ _) ?_;rw[w1,w2]
 repeat' first|exact B9 ⟨by omega,by omega⟩|exact B9 trivial|assumption|exact B9 (d1h _)|refine D1 ?_ (fun z=>?_)|refine E7 ?_|refine D4 (fun h=>?_) (fun h=>?_)|refine P3 (fun h=>?_) (fun h=>?_)|refine B1 _ (fun h=>?_) (fun h=>?_)|refine C5 (by omega) (fun y hy hm=>?_)|refine E2 (by omega) ?_|refine A5 (d9j s _ _ _ (by omega)) (fun y hq=>?_)|refine A5 (i96 s _ _ (by omega) (by omega)) (fun y hq=>?_)
theorem g58(s:ByteArray)(hs:s.size<=140737488351232):∀n:Nat,∀i:Nat,s.size - i<=n->i<=s.size+4->Ex yes (a4a (i:Int) s):=by
 intro n
 induction n with
 |zero=>
  intro i h1 h2;exact A4 (a48 _ _) (D4 (fun h=>absurd h (by omega)) fun _=>B9 trivial)
 |succ n ih=>
  intro i h1 h2;refine A4 (a48 _ _) (D4 (fun h=>A5 (i06 s hs i (by omega)) fun y hy=>B1 _ (fun _=>B9 trivial) fun h2=>?_) fun _=>B9 trivial);simp only[beq_eq_false_iff_ne,ne_eq]at h2;have e:wI ((i:Int)+y)=((i+y.toNat:Nat):Int):=by rw[a4y (by omega)];omega
  rw[e];exact ih _ (by omega) (by omega)
theorem c9j(s:ByteArray)(hs:s.size<=140737488351232):Ex yes (a5w s):=by
 refine A4 (b4c _) (A5 (A4 (b8n _) (g58 s hs _ 0 (Nat.le_refl _) (by omega))) fun y _=>B9 trivial)
theorem d9q(k:Int)(v:C0)(hv:v.Text.size<=140737488351232):Ex yes (a8o k v):=by
 refine A4 (b57 _ _) ?_
 repeat' first|exact B9 trivial|exact B9 trivial|assumption|exact B9 (d1h _)|refine D1 ?_ (fun z=>?_)|refine E7 ?_|refine D4 (fun h=>?_) (fun h=>?_)|refine P3 (fun h=>?_) (fun h=>?_)|refine B1 _ (fun h=>?_) (fun h=>?_)|refine C5 (by omega) (fun y hy hm=>?_)|refine E2 (by omega) ?_|refine A5 (A4 (c0x _) (B9 (d1h _))) (fun y hq=>?_)|refine A5 (A4 (b65 _) (B9 (d1h _))) (fun y hq=>?_)|refine A5 (A4 (b4h _) (B9 (d1h _))) (fun y hq=>?_)|refine A5 (c9j _ hv) (fun y hq=>?_)
theorem g9l(b:Int):Ex yes (b0x b):=by
 refine A4 (b4f _) ?_
 repeat' first|exact B9 trivial|exact B9 trivial|assumption|refine D1 ?_ (fun z=>?_)|refine E7 ?_|refine D4 (fun h=>?_) (fun h=>?_)|refine P3 (fun h=>?_) (fun h=>?_)|refine B1 _ (fun h=>?_) (fun h=>?_)|refine C5 (by omega) (fun y hy hm=>?_)|refine E2 (by omega) ?_
theorem i9g(v:C0):Ex yes (b2z v):=by
 refine A4 (b7q _) ?_
 repeat' first|exact B9 trivial|exact B9 trivial|assumption|refine D1 ?_ (fun z=>?_)|refine E7 ?_|refine D4 (fun h=>?_) (fun h=>?_)|refine P3 (fun h=>?_) (fun h=>?_)|refine B1 _ (fun h=>?_) (fun h=>?_)|refine C5 (by omega) (fun y hy hm=>?_)|refine E2 (by omega) ?_|refine A5 (g9l _) (fun y hq=>?_)
theorem d6u(b:Bool)(s:ByteArray):Ex yes (Q9 b s):=by
 refine A4 (b0y _ _) ?_
 repeat' first|exact B9 trivial|exact B9 trivial|assumption|refine D1 ?_ (fun z=>?_)|refine E7 ?_|refine D4 (fun h=>?_) (fun h=>?_)|refine P3 (fun h=>?_) (fun h=>?_)|refine B1 _ (fun h=>?_) (fun h=>?_)|refine C5 (by omega) (fun y hy hm=>?_)|refine E2 (by omega) ?_
theorem d4i(b:Bool)(s:ByteArray):Ex yes (Q6 b s):=by
 refine A4 (a94 _ _) ?_
 repeat' first|exact B9 trivial|exact B9 trivial|assumption|exact d6u _ s|refine D1 ?_ (fun z=>?_)|refine E7 ?_|refine D4 (fun h=>?_) (fun h=>?_)|refine P3 (fun h=>?_) (fun h=>?_)|refine B1 _ (fun h=>?_) (fun h=>?_)|refine C5 (by omega) (fun y hy hm=>?_)|refine E2 (by omega) ?_
theorem g95(b:Bool)(s:ByteArray):Ex yes (Z5 b s):=by
 refine A4 (b12 _ _) ?_
 repeat' first|exact B9 trivial|exact B9 trivial|assumption|exact d4i _ s|refine D1 ?_ (fun z=>?_)|refine E7 ?_|refine D4 (fun h=>?_) (fun h=>?_)|refine P3 (fun h=>?_) (fun h=>?_)|refine B1 _ (fun h=>?_) (fun h=>?_)|refine C5 (by omega) (fun y hy hm=>?_)|refine E2 (by omega) ?_
theorem e2u(s:ByteArray):Ex yes (a8j s):=by
 refine A4 (b58 _) ?_
 repeat' first|exact B9 trivial|exact B9 trivial|assumption|exact g95 _ s|refine D1 ?_ (fun z=>?_)|refine E7 ?_|refine D4 (fun h=>?_) (fun h=>?_)|refine P3 (fun h=>?_) (fun h=>?_)|refine B1 _ (fun h=>?_) (fun h=>?_)|refine C5 (by omega) (fun y hy hm=>?_)|refine E2 (by omega) ?_
theorem g06(b:Bool)(t:Int):Ex yes (W6 b t):=by
 refine A4 (b0v _ _) ?_
 repeat' first|exact B9 trivial|exact B9 trivial|assumption|refine D1 ?_ (fun z=>?_)|refine E7 ?_|refine D4 (fun h=>?_) (fun h=>?_)|refine P3 (fun h=>?_) (fun h=>?_)|refine B1 _ (fun h=>?_) (fun h=>?_)|refine C5 (by omega) (fun y hy hm=>?_)|refine E2 (by omega) ?_
theorem g85(b:Bool)(s:ByteArray)(t:Int):Ex yes (R0 b s t):=by
 refine A4 (b0g _ _ _) ?_
 repeat' first|exact B9 trivial|exact B9 trivial|assumption|exact g06 _ t|refine D1 ?_ (fun z=>?_)|refine E7 ?_|refine D4 (fun h=>?_) (fun h=>?_)|refine P3 (fun h=>?_) (fun h=>?_)|refine B1 _ (fun h=>?_) (fun h=>?_)|refine C5 (by omega) (fun y hy hm=>?_)|refine E2 (by omega) ?_
theorem f8g(b:Bool)(s:ByteArray)(t:Int):Ex yes (W7 b s t):=by
 refine A4 (a9t _ _ _) ?_
 repeat' first|exact B9 trivial|exact B9 trivial|assumption|exact g85 _ s t|refine D1 ?_ (fun z=>?_)|refine E7 ?_|refine D4 (fun h=>?_) (fun h=>?_)|refine P3 (fun h=>?_) (fun h=>?_)|refine B1 _ (fun h=>?_) (fun h=>?_)|refine C5 (by omega) (fun y hy hm=>?_)|refine E2 (by omega) ?_
theorem g2h(b:Bool)(s:ByteArray)(t:Int):Ex yes (a1h b s t):=by
 refine A4 (a92 _ _ _) ?_
 repeat' first|exact B9 trivial|exact B9 trivial|assumption|exact f8g _ s t|refine D1 ?_ (fun z=>?_)|refine E7 ?_|refine D4 (fun h=>?_) (fun h=>?_)|refine P3 (fun h=>?_) (fun h=>?_)|refine B1 _ (fun h=>?_) (fun h=>?_)|refine C5 (by omega) (fun y hy hm=>?_)|refine E2 (by omega) ?_
theorem l8a(s:ByteArray)(t:Int):Ex yes (b3q s t):=by
 refine A4 (b5s _ _) ?_
 repeat' first|exact B9 trivial|exact B9 trivial|assumption|exact g2h _ s t|refine D1 ?_ (fun z=>?_)|refine E7 ?_|refine D4 (fun h=>?_) (fun h=>?_)|refine P3 (fun h=>?_) (fun h=>?_)|refine B1 _ (fun h=>?_) (fun h=>?_)|refine C5 (by omega) (fun y hy hm=>?_)|refine E2 (by omega) ?_
theorem OkD.text{v:C0}(h:OkD v):v.Text.size<=140737488351232:=by
 cases h with
 |mk _ k b t l p s r=>exact t
theorem b0m{n:Nat}(h:Sz n):n<=140737488351232:=h
theorem g73(n:F4)(hn:a1l n):Ex yes (b0n n):=by
 refine A4 (b4m _) ?_
 repeat' first|exact B9 trivial|exact B9 trivial|assumption|refine D1 ?_ (fun z=>?_)|refine E7 ?_|refine D4 (fun h=>?_) (fun h=>?_)|refine P3 (fun h=>?_) (fun h=>?_)|refine B1 _ (fun h=>?_) (fun h=>?_)|refine C5 (by omega) (fun y hy hm=>?_)|refine E2 (by omega) ?_|refine A5 (e2u _) (fun y hq=>?_)|refine A5 (d9q _ _ hn.val.text) (fun y hq=>?_)
theorem j34(l:List F4)(t:Int)(i:Nat)(hi:i<l.length)(hl:l.length<=140737488351232)(b:Bool)(ih:Ex yes (Q7 ((i+1:Nat):Int) l t)):Ex yes (a1a b (i:Int) l t):=by
 refine A4 (b0p _ _ _ _) ?_;rw[Q3 (by omega)];refine B1 _ (fun _=>B9 trivial) fun _=>D4 (fun h=>C5 (by omega) fun y hy hm=>?_) fun _=>ih
 rw[c15 (by omega)];exact C5 (by omega) fun y hy hm=>B1 _ (fun _=>B9 trivial) fun _=>ih
theorem g4f(l:List F4)(hl:Sz l.length)(hn:∀n∈l,a1l n)(t:Int):∀i:Nat,Ex yes (Q7 (i:Int) l t):=by
 have b1:=b0m hl;refine upn l.length (fun i hi ih=>?_) (fun i hi=>?_)
 ·refine A4 (a3l _ _ _) ?_;have h4:=fun b=>j34 l t i hi b1 b ih
  repeat' first|exact B9 trivial|exact B9 trivial|assumption|exact h4 _|rw[c15 (by omega)]|refine D1 ?_ (fun z=>?_)|refine E7 ?_|refine D4 (fun h=>?_) (fun h=>?_)|refine P3 (fun h=>?_) (fun h=>?_)|refine B1 _ (fun h=>?_) (fun h=>?_)|refine C5 (by omega) (fun y hy hm=>?_)|refine E2 (by omega) ?_|refine A5 (e2u _) (fun y hq=>?_)|refine A5 (l8a _ _) (fun y hq=>?_)|refine A5 (g73 _ (hn _ ‹_›)) (fun y hq=>?_)
 ·exact A4 (a3l _ _ _) (D4 (fun h=>absurd h (by omega)) fun _=>B9 trivial)
theorem m32(l:List F4)(hl:Sz l.length)(hn:∀n∈l,a1l n)(t:Int):Ex yes (a9s l t):=by
 refine A4 (b4r _ _) ?_
 repeat' first|exact B9 trivial|exact B9 trivial|assumption|exact g4f l hl hn t 0|refine D1 ?_ (fun z=>?_)|refine E7 ?_|refine D4 (fun h=>?_) (fun h=>?_)|refine P3 (fun h=>?_) (fun h=>?_)|refine B1 _ (fun h=>?_) (fun h=>?_)|refine C5 (by omega) (fun y hy hm=>?_)|refine E2 (by omega) ?_
structure SmM(m:B2):Prop where
 nf:m.Fields.length<=400
 nr:m.Reserved.length<=400
 ng:m.Gone.length<=400
structure SmE(m:a10):Prop where
 ni:m.Items.length<=400
 nr:m.Reserved.length<=400
structure SmS(s:A3):Prop where
 nm:s.Messages.length<=150
 ne:s.Enums.length<=150
 ns:s.Services.length<=150
 msgs:∀m∈s.Messages,SmM m
 enums:∀m∈s.Enums,SmE m
 servs:∀m∈s.Services,m.Methods.length<=400
def LE(n:Nat)(l:List A8):Prop:=l.length<=n
theorem U9(p:G0)(b:Bool)(n e:Int)(h:p.l.length<=1000000000):Ex (fun r:G0=>r.l.length<=p.l.length+1) (A9 p b n e):=
 A4 (a96 _ _ _ _) (B1 _ (fun _=>E2 (by simp;omega) (B9 (by simp))) fun _=>B9 (by omega))
theorem b3l(p:G0)(l:List F4)(hl:Sz l.length)(hn:∀n∈l,a1l n)(t n:Int)(h:p.l.length<=1000000000):Ex (fun r:G0=>r.l.length<=p.l.length+1) (I0 p l t n):=
 A4 (a7e _ _ _ _) (A5 (m32 l hl hn t) fun y _=>A5 (U9 _ _ _ _ h) fun z hz=>B9 hz)
theorem c9d(l:List Y0)(hl:l.length<=400)(a b:Int)(B:Nat)(hB:B<=1000000000):∀i:Nat,∀(d:ByteArray) (p:List A8),p.length+2*(l.length - i)<=B->Ex (fun r:G0=>r.l.length<=B) (L1 (i:Int) l a b d p):=by
 refine upn l.length (fun i hi ih d p hp=>?_) (fun i hi d p hp=>?_)
 ·refine A4 (Y6 _ _ _ _ _ _) (D4 (fun _=>C5 (by omega) fun y hy hm=>?_) fun h=>absurd (show(i:Int)<l.length by omega) h);refine D1 ?_ fun z=>D1 ?_ fun z2=>?_
  ·repeat' first|exact B9 trivial|exact B9 trivial|assumption|refine D1 ?_ (fun z=>?_)|refine E7 ?_|refine D4 (fun h=>?_) (fun h=>?_)|refine P3 (fun h=>?_) (fun h=>?_)|refine B1 _ (fun h=>?_) (fun h=>?_)|refine C5 (by omega) (fun y hy hm=>?_)|refine E2 (by omega) ?_
  ·repeat' first|exact B9 trivial|exact B9 trivial|assumption|refine D1 ?_ (fun z=>?_)|refine E7 ?_|refine D4 (fun h=>?_) (fun h=>?_)|refine P3 (fun h=>?_) (fun h=>?_)|refine B1 _ (fun h=>?_) (fun h=>?_)|refine C5 (by omega) (fun y hy hm=>?_)|refine E2 (by omega) ?_
  ·refine A5 (U9 _ _ _ _ (show p.length<=1000000000 by omega)) fun y1 h1=>?_
   have h1':y1.l.length<=p.length+1:=h1;rw[Q3 (by omega)];refine D4 (fun h=>C5 (by omega) fun y2 _ _=>?_) fun h=>A5 (U9 _ _ _ _ (by omega)) fun y2 h2=>ih _ _ (by omega)
   rw[c15 (by omega)];exact C5 (by omega) fun y3 _ _=>A5 (U9 _ _ _ _ (by omega)) fun y2 h2=>ih _ _ (by omega)
 ·exact A4 (Y6 _ _ _ _ _ _) (D4 (fun h=>absurd h (by omega)) fun _=>B9 (show p.length<=B by omega))
theorem d1y(p:G0)(l:List Y0)(hl:l.length<=400)(a b:Int)(h:p.l.length<=999000000):Ex (fun r:G0=>r.l.length<=p.l.length+800) (X3 p l a b):=
 A4 (a8a _ _ _ _) (c9d l hl a b (p.l.length+800) (by omega) 0 _ _ (by omega))
theorem e6g(l:List Y0)(hl:l.length<=400)(n:Int):∀i:Nat,Ex yes (O4 (i:Int) l n):=by
 refine upn (l.length) (fun i hi ih=>?_) (fun i hi=>?_)
 ·refine A4 (a0y _ _ _) ?_
  try rw[Q3 (by omega)]
  repeat' first|exact B9 trivial|exact B9 trivial|assumption|exact ih|refine D1 ?_ (fun z=>?_)|refine E7 ?_|refine D4 (fun h=>?_) (fun h=>?_)|refine P3 (fun h=>?_) (fun h=>?_)|refine B1 _ (fun h=>?_) (fun h=>?_)|refine C5 (by omega) (fun y hy hm=>?_)|refine E2 (by omega) ?_
 ·refine A4 (a0y _ _ _) ?_
  repeat' first|exact B9 trivial|exact B9 trivial|assumption|exact absurd ‹_› (by omega)|(exfalso;omega)|refine D1 ?_ (fun z=>?_)|refine E7 ?_|refine D4 (fun h=>?_) (fun h=>?_)|refine P3 (fun h=>?_) (fun h=>?_)|refine B1 _ (fun h=>?_) (fun h=>?_)|refine C5 (by omega) (fun y hy hm=>?_)|refine E2 (by omega) ?_
theorem i1q(l:List Y0)(hl:l.length<=400)(n:Int):Ex yes (a1d l n):=by
 refine A4 (a9o _ _) ?_
 repeat' first|exact B9 trivial|exact B9 trivial|assumption|exact e6g l hl n 0|refine D1 ?_ (fun z=>?_)|refine E7 ?_|refine D4 (fun h=>?_) (fun h=>?_)|refine P3 (fun h=>?_) (fun h=>?_)|refine B1 _ (fun h=>?_) (fun h=>?_)|refine C5 (by omega) (fun y hy hm=>?_)|refine E2 (by omega) ?_
theorem j8g(f:B3):Ex yes (b2o f):=by
 refine A4 (b6k _) ?_
 repeat' first|exact B9 trivial|exact B9 trivial|assumption|refine D1 ?_ (fun z=>?_)|refine E7 ?_|refine D4 (fun h=>?_) (fun h=>?_)|refine P3 (fun h=>?_) (fun h=>?_)|refine B1 _ (fun h=>?_) (fun h=>?_)|refine C5 (by omega) (fun y hy hm=>?_)|refine E2 (by omega) ?_
section
variable (s:A3) (hs:SmS s)
 include hs
def inM(n:Nat)(r:Int):Prop:=r<(n:Int)
theorem d5s(name:ByteArray):∀i:Nat,Ex (inM s.Messages.length) (O9 (i:Int) name s):=by
 have hb:=hs.nm;refine upn s.Messages.length (fun i hi ih=>?_) (fun i hi=>?_)
 ·refine A4 (Y8 _ _ _) (D4 (fun _=>C5 (by omega) fun y _ _=>?_) fun h=>absurd (show(i:Int)<s.Messages.length by omega) h);rw[Q3 (by omega)];exact B1 _ (fun _=>B9 (by unfold inM;omega)) fun _=>ih
 ·exact A4 (Y8 _ _ _) (D4 (fun h=>absurd h (by omega)) fun _=>B9 (by unfold inM;omega))
theorem c5l(name:ByteArray):Ex (inM s.Messages.length) (M4 s name):=A4 (a7v _ _) (d5s s hs name 0)
theorem d65(name:ByteArray):∀i:Nat,Ex (inM s.Enums.length) (X4 (i:Int) name s):=by
 have hb:=hs.ne;refine upn s.Enums.length (fun i hi ih=>?_) (fun i hi=>?_)
 ·refine A4 (a1v _ _ _) (D4 (fun _=>C5 (by omega) fun y _ _=>?_) fun h=>absurd (show(i:Int)<s.Enums.length by omega) h);rw[Q3 (by omega)];exact B1 _ (fun _=>B9 (by unfold inM;omega)) fun _=>ih
 ·exact A4 (a1v _ _ _) (D4 (fun h=>absurd h (by omega)) fun _=>B9 (by unfold inM;omega))
theorem d9c(name:ByteArray):Ex (inM s.Enums.length) (a2p s name):=A4 (b08 _ _) (d65 s hs name 0)
theorem d1n(m:B2)(hm:m.Fields.length<=400)(fin:List Bool)(hf:fin.length=s.Messages.length):∀i:Nat,Ex yes (S0 (i:Int) fin s m):=by
 refine upn m.Fields.length (fun i hi ih=>?_) (fun i hi=>?_)
 ·refine A4 (a3b _ _ _ _) (D4 (fun _=>C5 (by omega) fun y _ _=>?_) fun h=>absurd (show(i:Int)<m.Fields.length by omega) h);rw[Q3 (by omega)];refine B1 _ (fun _=>ih) fun _=>A5 (c5l s hs _) fun y2 h2=>D4 (fun h=>?_) fun _=>ih
  unfold inM at h2;exact C5 (by omega) fun y3 _ _=>B1 _ (fun _=>B9 trivial) fun _=>ih
 ·exact A4 (a3b _ _ _ _) (D4 (fun h=>absurd h (by omega)) fun _=>B9 trivial)
theorem c9z(m:B2)(hm:m.Fields.length<=400)(fin:List Bool)(hf:fin.length=s.Messages.length):Ex yes (a6f s m fin):=A4 (b4k _ _ _) (d1n s hs m hm fin hf 0)
theorem i35(k:Nat)(hk:k<150)(H:∀b (l:List Bool),l.length=s.Messages.length->Ex (fun r:List Bool=>r.length=s.Messages.length) (T2 ((k+1:Nat):Int) b s l)):∀i:Nat,∀b (l:List Bool),l.length=s.Messages.length->Ex (fun r:List Bool=>r.length=s.Messages.length) (O3 (i:Int) b (k:Int) s l):=by
 have hb:=hs.nm;refine upn s.Messages.length (fun i hi ih b l hl=>?_) (fun i hi b l hl=>?_)
 ·refine A4 (a19 _ _ _ _ _) (D4 (fun _=>E2 (by omega) ?_) fun h=>absurd (show(i:Int)<s.Messages.length by omega) h);rw[Q3 (by omega)];have hlt:i<l.length:=by omega
  refine j7r (v:=l[i]) (by rw[Int.toNat_natCast];exact List.getElem?_eq_getElem hlt) (B1 _ (fun _=>C5 (by omega) fun y hy hm=>E2 (by omega) (A5 (c9z s hs y (hs.msgs y hm).nf l hl) fun z _=>B1 _ (fun _=>E2 (by omega) (E2 (by omega) (ih _ _ (by simpa using hl)))) fun _=>ih _ _ hl)) fun _=>ih _ _ hl)
 ·refine A4 (a19 _ _ _ _ _) (D4 (fun h=>absurd h (by omega)) fun _=>?_);rw[Q3 (by omega)];exact H b l hl
theorem l06:∀i:Nat,∀b (l:List Bool),l.length=s.Messages.length->Ex (fun r:List Bool=>r.length=s.Messages.length) (T2 (i:Int) b s l):=by
 have hb:=hs.nm;refine upn s.Messages.length (fun i hi ih b l hl=>?_) (fun i hi b l hl=>?_)
 ·exact A4 (a2b _ _ _ _) (B1 _ (fun _=>i35 s hs i (by omega) ih 0 false l hl) fun _=>E2 (by omega) (B9 hl))
 ·refine A4 (a2b _ _ _ _) (B1 _ (fun h=>?_) fun _=>E2 (by omega) (B9 hl));simp only[Bool.and_eq_true,decide_eq_true_eq]at h;exact absurd h.1 (by omega)
theorem d6p:Ex (fun r:List Bool=>r.length=s.Messages.length) (a7h s):=by
 have hb:=hs.nm;exact A4 (b2v _) (E2 (by omega) (l06 s hs 0 _ _ (by simp)))
theorem l9e(f:B3):Ex yes (b7l s f):=by
 refine A4 (b77 _ _) ?_
 repeat' first|exact B9 trivial|exact B9 trivial|assumption|refine D1 ?_ (fun z=>?_)|refine E7 ?_|refine D4 (fun h=>?_) (fun h=>?_)|refine P3 (fun h=>?_) (fun h=>?_)|refine B1 _ (fun h=>?_) (fun h=>?_)|refine C5 (by omega) (fun y hy hm=>?_)|refine E2 (by omega) ?_|refine A5 (d9c s hs _) (fun y hq=>?_)|refine A5 (c5l s hs _) (fun y hq=>?_)
theorem i2u(f:B3)(y:Int)(hy:0<=y/\y<s.Enums.length):∀i:Nat,Ex yes (a1b (i:Int) y s f):=by
 obtain⟨e,he⟩:∃e,s.Enums[y.toNat]? =some e:=⟨_,List.getElem?_eq_getElem (by omega)⟩
 have hm:=List.mem_of_getElem? he;have hb:=(hs.enums e hm).ni;refine upn e.Items.length (fun i hi ih=>?_) (fun i hi=>?_)
 ·refine A4 (a29 _ _ _ _) (b76 e he (by omega) (D4 (fun _=>b76 e he (by omega) (C5 (by omega) fun z _ _=>?_)) fun h=>absurd (show(i:Int)<e.Items.length by omega) h));rw[Q3 (by omega)];exact B1 _ (fun _=>B9 trivial) fun _=>ih
 ·exact A4 (a29 _ _ _ _) (b76 e he (by omega) (D4 (fun h=>absurd h (by omega)) fun _=>B9 trivial))
theorem h14(b:Bool)(f:B3):Ex yes (a1f b s f):=by
 refine A4 (a95 _ _ _) (B1 _ (fun _=>B9 trivial) fun _=>A5 (d9c s hs _) fun y hy=>B1 _ (fun _=>B9 trivial) fun _=>D4 (fun _=>B9 trivial) fun h=>?_);unfold inM at hy;exact i2u s hs f y (by omega) 0
theorem f48(f:B3)(hf:b9r f):Ex yes (a9x s f):=by
 have hsame:∀a b,Ex yes (X7 a b):=fun a b=>A4 (a74 _ _) (B9 trivial)
 refine A4 (b4i _ _) ?_
 repeat' first|exact B9 trivial|exact B9 trivial|assumption|exact h14 s hs _ f|refine D1 ?_ (fun z=>?_)|refine E7 ?_|refine D4 (fun h=>?_) (fun h=>?_)|refine P3 (fun h=>?_) (fun h=>?_)|refine B1 _ (fun h=>?_) (fun h=>?_)|refine C5 (by omega) (fun y hy hm=>?_)|refine E2 (by omega) ?_|refine A5 (hsame _ _) (fun y hq=>?_)|refine A5 (d9q _ _ hf.dflt.text) (fun y hq=>?_)|refine A5 (i9g _) (fun y hq=>?_)
end
theorem d16(m:B2)(hm:m.Fields.length<=400)(a:Nat)(ha:a<m.Fields.length)(y:B3):∀i:Nat,∀b,(b=true->0<a)->Ex yes (S1 (i:Int) b (a:Int) m y):=by
 refine upn m.Fields.length (fun i hi ih b hb=>?_) (fun i hi b hb=>?_)
 ·refine A4 (a3n _ _ _ _ _) (D4 (fun _=>C5 (by omega) fun z _ _=>?_) fun h=>absurd (show(i:Int)<m.Fields.length by omega) h);rw[Q3 (by omega)];exact B1 _ (fun _=>B9 trivial) fun _=>D4 (fun h=>C5 (by omega) fun w _ _=>B1 _ (fun _=>ih _ (fun _=>by omega)) fun _=>ih _ hb) fun _=>ih _ hb
 ·refine A4 (a3n _ _ _ _ _) (D4 (fun h=>absurd h (by omega)) fun _=>B1 _ (fun _=>B9 trivial) fun h=>?_);have h0:=hb (by simpa using h);rw[c15 (by omega)];exact C5 (by omega) fun w _ _=>B9 trivial
theorem g26(m:B2)(hm:m.Fields.length<=400)(ho:b2g m)(a:Nat)(ha:a<m.Fields.length):Ex yes (a9n m (a:Int)):=by
 refine A4 (b4e _ _) (C5 (by omega) fun y hy hym=>B1 _ (fun _=>B9 trivial) fun _=>D1 ?_ fun z=>B1 _ (fun _=>B9 trivial) fun _=>d16 m hm a ha y 0 false fun h=>by cases h)
 repeat' first|exact B9 trivial|exact B9 trivial|assumption|refine D1 ?_ (fun z=>?_)|refine E7 ?_|refine D4 (fun h=>?_) (fun h=>?_)|refine P3 (fun h=>?_) (fun h=>?_)|refine B1 _ (fun h=>?_) (fun h=>?_)|refine C5 (by omega) (fun y hy hm=>?_)|refine E2 (by omega) ?_|refine A5 (c0y _ (ho.fields _ ‹_›).union) (fun y hq=>?_)
section
variable (s:A3) (hs:SmS s) (os:a6u s)
 include hs os
theorem j1v(m:B2)(hm:SmM m)(om:b2g m)(fin:List Bool)(hf:fin.length=s.Messages.length):∀i:Nat,∀(d:ByteArray) (p:List A8),p.length+(m.Gone.length - i)<=9000->Ex (LE 10000) (W9 (i:Int) fin s m d p):=by
 have h1:=hm.ng;refine upn m.Gone.length (fun i hi ih d p hp=>?_) (fun i hi d p hp=>?_)
 ·refine A4 (a1r _ _ _ _ _ _) (D4 (fun _=>C5 (by omega) fun y hy hym=>A5 (c9j _ (om.gone y hym)) fun y2 _=>A5 (U9 _ _ _ _ (show p.length<=1000000000 by omega)) fun y3 h3=>?_) fun h=>absurd (show(i:Int)<m.Gone.length by omega) h);have h3':y3.l.length<=p.length+1:=h3;rw[Q3 (by omega)];exact ih _ _ (by omega)
 ·refine A4 (a1r _ _ _ _ _ _) (D4 (fun h=>absurd h (by omega)) fun _=>A5 (b3l _ _ om.nn om.notes _ _ (show p.length<=1000000000 by omega)) fun y h3=>?_);have h3':y.l.length<=p.length+1:=h3;exact A5 (c9z s hs m hm.nf fin hf) fun y2 _=>A5 (U9 _ _ _ _ (by omega)) fun y4 h4=>B9 (by unfold LE;omega)
theorem j1r(m:B2)(hm:SmM m)(om:b2g m)(fin:List Bool)(k:Nat)(hk:k<m.Fields.length)(f:B3)(hfm:f∈m.Fields)(d:ByteArray)(p:List A8)(hp:p.length<=8000)
  (H:∀(d:ByteArray) (p2:List A8),p2.length<=p.length+11->Ex (LE 10000) (Q0 ((k+1:Nat):Int) fin s m d p2)):∀i:Nat,i<=k->∀b,Ex (LE 10000) (M3 (i:Int) b (k:Int) fin s m d p f):=by
 have b1:=hm.nf;have b2:=hm.nr;have ho:=om.fields f hfm
 have key:∀n i:Nat,k - i<=n->i<=k->∀b,Ex (LE 10000) (M3 (i:Int) b (k:Int) fin s m d p f):=by
  intro n
  induction n with
  |zero=>
   intro i h1 h2 b;refine A4 (a1z _ _ _ _ _ _ _ _ _) (D4 (fun h=>absurd h (by omega)) fun _=>?_);refine A5 (U9 _ _ _ _ (show p.length<=1000000000 by omega)) fun y0 q0=>?_
   have q0':y0.l.length<=p.length+1:=q0;refine D1 ?_ fun z=>?_
   ·refine D4 (fun h=>?_) fun _=>B9 trivial
    rw[c15 (by omega)];exact C5 (by omega) fun w _ _=>B9 trivial
   refine A5 (U9 _ _ _ _ (by omega)) fun y1 q1=>A5 (c0y _ ho.name) fun _ _=>A5 (U9 _ _ _ _ (by omega)) fun y2 q2=>A5 (U9 _ _ _ _ (by omega)) fun y3 q3=>A5 (i1q _ b2 _) fun _ _=>?_
   refine D1 ?_ fun z=>?_
   ·exact B1 _ (fun _=>B9 trivial) fun _=>A5 (i1y _ om.ng _) fun _ _=>B9 trivial
   refine A5 (U9 _ _ _ _ (by omega)) fun y4 q4=>A5 (j8g _) fun _ _=>A5 (U9 _ _ _ _ (by omega)) fun y5 q5=>A5 (l9e s hs _) fun _ _=>A5 (U9 _ _ _ _ (by omega)) fun y6 q6=>A5 (g26 m b1 om k hk) fun _ _=>A5 (U9 _ _ _ _ (by omega)) fun y7 q7=>A5 (f48 s hs f ho) fun _ _=>A5 (U9 _ _ _ _ (by omega)) fun y8 q8=>A5 (b3l _ _ ho.nn ho.notes _ _ (by omega)) fun y9 q9=>?_
   rw[Q3 (by omega)];exact H _ _ (by omega)
  |succ n ih=>
   intro i h1 h2 b
   by_cases hik:i=k
   ·exact ih i (by omega) h2 b
   ·refine A4 (a1z _ _ _ _ _ _ _ _ _) (D4 (fun h=>C5 (by omega) fun w _ _=>?_) fun h=>absurd (show(i:Int)<k by omega) h);rw[Q3 (by omega)];exact B1 _ (fun _=>ih _ (by omega) (by omega) _) fun _=>ih _ (by omega) (by omega) _
 exact fun i hi b=>key (k - i) i (Nat.le_refl _) hi b
theorem l1l(m:B2)(hm:SmM m)(om:b2g m)(fin:List Bool)(hf:fin.length=s.Messages.length):∀i:Nat,∀(d:ByteArray) (p:List A8),p.length+11*(m.Fields.length - i)<=7000->Ex (LE 10000) (Q0 (i:Int) fin s m d p):=by
 have b1:=hm.nf;have b2:=hm.ng;refine upn m.Fields.length (fun i hi ih d p hp=>?_) (fun i hi d p hp=>?_)
 ·refine A4 (a1q _ _ _ _ _ _) (D4 (fun _=>C5 (by omega) fun y hy hym=>?_) fun h=>absurd (show(i:Int)<m.Fields.length by omega) h);exact j1r s hs os m hm om fin i hi y hym d p (by omega) (fun d p2 h2=>ih d p2 (by omega)) 0 (by omega) false
 ·refine A4 (a1q _ _ _ _ _ _) (D4 (fun h=>absurd h (by omega)) fun _=>A5 (d1y _ _ hm.nr _ _ (show p.length<=999000000 by omega)) fun y hy=>?_);have hy':y.l.length<=p.length+800:=hy;exact j1v s hs os m hm om fin hf 0 _ _ (by omega)
theorem n2r(m:B2)(hm:SmM m)(om:b2g m)(fin:List Bool)(hf:fin.length=s.Messages.length):Ex (LE 10000) (a5y s m fin):=by
 have b1:=hm.nf;refine A4 (b14 _ _ _) (A5 (b93 _ om.name) fun _ _=>A5 (U9 _ _ _ _ (by simp)) fun y1 h1=>?_);have h1':y1.l.length<=0+1:=h1;exact A5 (U9 _ _ _ _ (by omega)) fun y2 h2=>l1l s hs os m hm om fin hf 0 _ _ (by omega)
 omit hs os
theorem i73(e:a10)(hm:SmE e)(om:b5x e)(k:Nat)(hk:k<e.Items.length)(f:b4s)(hfm:f∈e.Items)(d:ByteArray)(p:List A8)(hp:p.length<=8000)
  (H:∀(d:ByteArray) (p2:List A8),p2.length<=p.length+7->Ex (LE 10000) (a0j ((k+1:Nat):Int) e d p2)):∀i:Nat,i<=k->∀b,Ex (LE 10000) (U3 (i:Int) b (k:Int) e d p f):=by
 have b1:=hm.ni;have b2:=hm.nr;have ho:=om.items f hfm
 have key:∀n i:Nat,k - i<=n->i<=k->∀b,Ex (LE 10000) (U3 (i:Int) b (k:Int) e d p f):=by
  intro n
  induction n with
  |zero=>
   intro i h1 h2 b;refine A4 (a3y _ _ _ _ _ _ _) (D4 (fun h=>absurd h (by omega)) fun _=>?_);refine A5 (U9 _ _ _ _ (show p.length<=1000000000 by omega)) fun y0 q0=>?_
   have q0':y0.l.length<=p.length+1:=q0;refine D1 ?_ fun z=>?_
   ·refine D4 (fun h=>?_) fun _=>B9 trivial
    rw[c15 (by omega)];exact C5 (by omega) fun w _ _=>B9 trivial
   refine A5 (U9 _ _ _ _ (by omega)) fun y1 q1=>A5 (c0y _ ho.name) fun _ _=>A5 (U9 _ _ _ _ (by omega)) fun y2 q2=>A5 (U9 _ _ _ _ (by omega)) fun y3 q3=>A5 (i1q _ b2 _) fun _ _=>A5 (U9 _ _ _ _ (by omega)) fun y4 q4=>A5 (b3l _ _ ho.nn ho.notes _ _ (by omega)) fun y9 q9=>?_
   rw[Q3 (by omega)];exact H _ _ (by omega)
  |succ n ih=>
   intro i h1 h2 b
   by_cases hik:i=k
   ·exact ih i (by omega) h2 b
   ·refine A4 (a3y _ _ _ _ _ _ _) (D4 (fun h=>C5 (by omega) fun w _ _=>?_) fun h=>absurd (show(i:Int)<k by omega) h);rw[Q3 (by omega)];exact B1 _ (fun _=>ih _ (by omega) (by omega) _) fun _=>ih _ (by omega) (by omega) _
 exact fun i hi b=>key (k - i) i (Nat.le_refl _) hi b
theorem h3o(e:a10)(hm:SmE e)(om:b5x e):∀i:Nat,∀(d:ByteArray) (p:List A8),p.length+7*(e.Items.length - i)<=7000->Ex (LE 10000) (a0j (i:Int) e d p):=by
 have b1:=hm.ni;refine upn e.Items.length (fun i hi ih d p hp=>?_) (fun i hi d p hp=>?_)
 ·refine A4 (a4c _ _ _ _) (D4 (fun _=>C5 (by omega) fun y hy hym=>?_) fun h=>absurd (show(i:Int)<e.Items.length by omega) h);exact i73 e hm om i hi y hym d p (by omega) (fun d p2 h2=>ih d p2 (by omega)) 0 (by omega) false
 ·refine A4 (a4c _ _ _ _) (D4 (fun h=>absurd h (by omega)) fun _=>A5 (d1y _ _ hm.nr _ _ (show p.length<=999000000 by omega)) fun y hy=>?_);have hy':y.l.length<=p.length+800:=hy;exact A5 (b3l _ _ om.nn om.notes _ _ (by omega)) fun y2 h2=>B9 (by unfold LE;omega)
theorem n0t(e:a10)(hm:SmE e)(om:b5x e):Ex (LE 10000) (b3a e):=by
 have b1:=hm.ni;refine A4 (b6r _) (A5 (b93 _ om.name) fun _ _=>A5 (U9 _ _ _ _ (by simp)) fun y1 h1=>?_);have h1':y1.l.length<=0+1:=h1;refine A5 (U9 _ _ _ _ (by omega)) fun y2 h2=>D1 ?_ fun z=>A5 (U9 _ _ _ _ (by omega)) fun y3 h3=>h3o e hm om 0 _ _ (by omega)
 exact D4 (fun h=>C5 (by omega) fun w _ _=>B9 trivial) fun _=>B9 trivial
 include hs
theorem l0m(v:C7)(hm:v.Methods.length<=400)(om:b1j v):∀i:Nat,∀(d:ByteArray) (p:List A8),p.length+5*(v.Methods.length - i)<=7000->Ex (LE 10000) (X2 (i:Int) s v d p):=by
 refine upn v.Methods.length (fun i hi ih d p hp=>?_) (fun i hi d p hp=>?_)
 ·refine A4 (a1s _ _ _ _ _) (D4 (fun _=>C5 (by omega) fun y hy hym=>?_) fun h=>absurd (show(i:Int)<v.Methods.length by omega) h);have ho:=om.meths y hym;refine A5 (c0y _ ho.name) fun _ _=>A5 (U9 _ _ _ _ (show p.length<=1000000000 by omega)) fun y0 q0=>?_
  have q0':y0.l.length<=p.length+1:=q0;refine D1 ?_ fun z=>?_
  ·refine D4 (fun h=>?_) fun _=>B9 trivial
   rw[c15 (by omega)];exact C5 (by omega) fun w _ _=>B9 trivial
  refine A5 (U9 _ _ _ _ (by omega)) fun y1 q1=>A5 (c5l s hs _) fun _ _=>D1 ?_ fun z=>?_
  ·exact B1 _ (fun _=>B9 trivial) fun _=>A5 (c5l s hs _) fun _ _=>B9 trivial
  refine A5 (U9 _ _ _ _ (by omega)) fun y2 q2=>A5 (U9 _ _ _ _ (by omega)) fun y3 q3=>A5 (b3l _ _ ho.nn ho.notes _ _ (by omega)) fun y4 q4=>?_
  rw[Q3 (by omega)];exact ih _ _ (by omega)
 ·refine A4 (a1s _ _ _ _ _) (D4 (fun h=>absurd h (by omega)) fun _=>A5 (b3l _ _ om.nn om.notes _ _ (show p.length<=1000000000 by omega)) fun y hy=>?_);have hy':y.l.length<=p.length+1:=hy;exact B9 (by unfold LE;omega)
theorem m85(v:C7)(hm:v.Methods.length<=400)(om:b1j v):Ex (LE 10000) (a55 s v):=by
 refine A4 (b1w _ _) (A5 (b93 _ om.name) fun _ _=>A5 (U9 _ _ _ _ (by simp)) fun y1 h1=>?_);have h1':y1.l.length<=0+1:=h1;exact A5 (U9 _ _ _ _ (by omega)) fun y2 h2=>l0m s hs v hm om 0 _ _ (by omega)
def LNm(l:List ByteArray):Prop:=l.length<=450
theorem c9b(w:Int):∀i:Nat,∀l:List ByteArray,l.length+(s.Services.length - i)<=450->Ex LNm (a0a (i:Int) l w s):=by
 have b1:=hs.nm;have b2:=hs.ne;have b3:=hs.ns;refine upn s.Services.length (fun i hi ih l hl=>?_) (fun i hi l hl=>?_)
 ·refine A4 (a2f _ _ _ _) (B1 _ (fun _=>C5 (by omega) fun y _ _=>E2 (by simp;omega) ?_) fun _=>B9 (by unfold LNm;omega));rw[Q3 (by omega)];exact ih _ (by simp;omega)
 ·refine A4 (a2f _ _ _ _) (B1 _ (fun h=>?_) fun _=>B9 (by unfold LNm;omega));simp only[Bool.and_eq_true,decide_eq_true_eq]at h;exact absurd h.2 (by omega)
theorem d1w(w:Int):∀i:Nat,∀l:List ByteArray,l.length+(s.Enums.length - i)<=300->Ex LNm (a0d (i:Int) l w s):=by
 have b1:=hs.nm;have b2:=hs.ne;have b3:=hs.ns;refine upn s.Enums.length (fun i hi ih l hl=>?_) (fun i hi l hl=>?_)
 ·refine A4 (a2e _ _ _ _) (B1 _ (fun _=>C5 (by omega) fun y _ _=>E2 (by simp;omega) ?_) fun _=>c9b s hs w 0 _ (by omega));rw[Q3 (by omega)];exact ih _ (by simp;omega)
 ·refine A4 (a2e _ _ _ _) (B1 _ (fun h=>?_) fun _=>c9b s hs w 0 _ (by omega));simp only[Bool.and_eq_true,decide_eq_true_eq]at h;exact absurd h.2 (by omega)
theorem j33(w:Int):∀i:Nat,∀l:List ByteArray,l.length+(s.Messages.length - i)<=150->Ex LNm (a1i (i:Int) l w s):=by
 have b1:=hs.nm;have b2:=hs.ne;have b3:=hs.ns;refine upn s.Messages.length (fun i hi ih l hl=>?_) (fun i hi l hl=>?_)
 ·refine A4 (a3k _ _ _ _) (B1 _ (fun _=>C5 (by omega) fun y _ _=>E2 (by simp;omega) ?_) fun _=>d1w s hs w 0 _ (by omega));rw[Q3 (by omega)];exact ih _ (by simp;omega)
 ·refine A4 (a3k _ _ _ _) (B1 _ (fun h=>?_) fun _=>d1w s hs w 0 _ (by omega));simp only[Bool.and_eq_true,decide_eq_true_eq]at h;exact absurd h.2 (by omega)
theorem b97(w:Int):Ex LNm (a04 s w):=by
 have b1:=hs.nm;exact A4 (b4p _ _) (j33 s hs w 0 _ (by simp;omega))
 omit hs
theorem g0o(l:List ByteArray)(hl:LNm l):∀i:Nat,1<=i->Ex yes (S5 (i:Int) l):=by
 unfold LNm at hl;refine upn l.length (fun i hi ih h1=>?_) (fun i hi h1=>?_)
 ·refine A4 (a0i _ _) (D4 (fun _=>C5 (by omega) fun y _ _=>?_) fun h=>absurd (show(i:Int)<l.length by omega) h);rw[Q3 (by omega),c15 (by omega)];exact C5 (by omega) fun y2 _ _=>B1 _ (fun _=>B9 trivial) fun _=>ih (by omega)
 ·exact A4 (a0i _ _) (D4 (fun h=>absurd h (by omega)) fun _=>B9 trivial)
theorem m1q(l:List ByteArray)(hl:LNm l):Ex yes (a3a l):=A4 (a8y _) (g0o l hl 1 (Nat.le_refl _))
theorem d50(l b:List ByteArray)(hl:LNm l)(hb:LNm b):∀i:Nat,Ex yes (a2x (i:Int) l b):=by
 unfold LNm at hl hb;refine upn l.length (fun i hi ih=>?_) (fun i hi=>?_)
 ·refine A4 (a39 _ _ _) (D4 (fun _=>C5 (by omega) fun y _ _=>A5 (i1y b (by omega) _) fun _ _=>?_) fun h=>absurd (show(i:Int)<l.length by omega) h);rw[Q3 (by omega)];exact B1 _ (fun _=>B9 trivial) fun _=>ih
 ·exact A4 (a39 _ _ _) (D4 (fun h=>absurd h (by omega)) fun _=>B9 trivial)
theorem d0c(l b:List ByteArray)(hl:LNm l)(hb:LNm b):Ex yes (a5c l b):=A4 (b7c _ _) (d50 l b hl hb 0)
 include hs os
theorem g0w(y:G0):∀i:Nat,∀p:List A8,p.length+10000*(s.Services.length - i)<=5000000->Ex yes (a2o (i:Int) s y p):=by
 have b3:=hs.ns;refine upn s.Services.length (fun i hi ih p hp=>?_) (fun i hi p hp=>?_)
 ·refine A4 (a3z _ _ _ _) (D4 (fun _=>C5 (by omega) fun y hy hm=>A5 (m85 s hs y (hs.servs y hm) (os.servs y hm)) fun z hz=>?_) fun h=>absurd (show(i:Int)<s.Services.length by omega) h);unfold LE at hz;rw[Q3 (by omega)];exact E2 (by omega) (ih _ (by simp;omega))
 ·exact A4 (a3z _ _ _ _) (D4 (fun h=>absurd h (by omega)) fun _=>B9 trivial)
theorem f0g(y:G0):∀i:Nat,∀p:List A8,p.length+10000*(s.Enums.length - i)<=3400000->Ex yes (a2w (i:Int) s y p):=by
 have b2:=hs.ne;have b3:=hs.ns;refine upn s.Enums.length (fun i hi ih p hp=>?_) (fun i hi p hp=>?_)
 ·refine A4 (a4o _ _ _ _) (D4 (fun _=>C5 (by omega) fun y hy hm=>A5 (n0t y (hs.enums y hm) (os.enums y hm)) fun z hz=>?_) fun h=>absurd (show(i:Int)<s.Enums.length by omega) h);unfold LE at hz;rw[Q3 (by omega)];exact E2 (by omega) (ih _ (by simp;omega))
 ·exact A4 (a4o _ _ _ _) (D4 (fun h=>absurd h (by omega)) fun _=>g0w s hs os y 0 _ (by omega))
theorem e7b(fin:List Bool)(hf:fin.length=s.Messages.length)(y:G0):∀i:Nat,∀p:List A8,p.length+10000*(s.Messages.length - i)<=1700000->Ex yes (a2v (i:Int) fin s y p):=by
 have b1:=hs.nm;have b2:=hs.ne;refine upn s.Messages.length (fun i hi ih p hp=>?_) (fun i hi p hp=>?_)
 ·refine A4 (a4d _ _ _ _ _) (D4 (fun _=>C5 (by omega) fun y hy hm=>A5 (n2r s hs os y (hs.msgs y hm) (os.msgs y hm) fin hf) fun z hz=>?_) fun h=>absurd (show(i:Int)<s.Messages.length by omega) h);unfold LE at hz;rw[Q3 (by omega)];exact E2 (by omega) (ih _ (by simp;omega))
 ·exact A4 (a4d _ _ _ _ _) (D4 (fun h=>absurd h (by omega)) fun _=>f0g s hs os y 0 _ (by omega))
theorem k1c:∀i:Nat,∀(d:ByteArray) (p:List A8),p.length+2*(4 - i)<=100->Ex yes (a4g (i:Int) s d p):=by
 have b1:=hs.nm;refine upn 4 (fun i hi ih d p hp=>?_) (fun i hi d p hp=>?_)
 ·refine A4 (a49 _ _ _ _) (D4 (fun _=>A5 (b97 s hs _) fun y hy=>A5 (U9 _ _ _ _ (show p.length<=1000000000 by omega)) fun y1 h1=>?_) fun h=>absurd (show(i:Int)<=3 by omega) h);have h1':y1.l.length<=p.length+1:=h1;refine A5 (m1q _ hy) fun _ _=>A5 (U9 _ _ _ _ (by omega)) fun y2 h2=>?_
  rw[Q3 (by omega)];exact ih _ _ (by omega)
 ·refine A4 (a49 _ _ _ _) (D4 (fun h=>absurd h (by omega)) fun _=>A5 (b97 s hs _) fun y1 h1=>A5 (b97 s hs _) fun y2 h2=>A5 (b97 s hs _) fun y3 h3=>A5 (d0c _ _ h1 h2) fun y4 _=>D1 ?_ fun z=>D1 ?_ fun z2=>A5 (U9 _ _ _ _ (show p.length<=1000000000 by omega)) fun y5 h5=>?_)
  ·exact B1 _ (fun _=>B9 trivial) fun _=>A5 (d0c _ _ h1 h3) fun _ _=>B9 trivial
  ·exact B1 _ (fun _=>B9 trivial) fun _=>A5 (d0c _ _ h2 h3) fun _ _=>B9 trivial
  ·have h5':y5.l.length<=p.length+1:=h5;exact A5 (d6p s hs) fun fin hf=>e7b s hs os fin hf y5 0 _ (by omega)
theorem c9g:Ex yes (a9z s):=
 A4 (b34 _) (A5 (A4 (b8h _) (k1c s hs os 1 _ _ (by simp))) fun y _=>B9 trivial)
end
def Few(n:Nat)(left r:Int):Prop:=r=(n:Int)\/r=left+10
theorem b83(l:List F4)(hl:Sz l.length)(left:Int)(h: -1000000000<=left/\left<=400):Ex (Few l.length left) (K7 l left):=by
 have b1:=b0m hl
 have key:∀i:Nat,Ex (Few l.length left) (U1 (i:Int) l left):=by
  refine upn l.length (fun i hi ih=>?_) (fun i hi=>?_)
  ·refine A4 (a0w _ _ _) (B1 _ (fun _=>C5 (by omega) fun y _ _=>C5 (by omega) fun y2 _ _=>B1 _ (fun _=>B9 (.inr (a4y (by omega)))) fun _=>?_) fun _=>B9 (.inl rfl));rw[Q3 (by omega)];exact ih
  ·refine A4 (a0w _ _ _) (B1 _ (fun h2=>?_) fun _=>B9 (.inl rfl));simp only[Bool.and_eq_true,decide_eq_true_eq]at h2;exact absurd h2.1 (by omega)
 exact A4 (a9y _ _) (key 0)
theorem b6d(l:List ByteArray)(hl:Sz l.length)(left:Int)(h: -1000000000<=left/\left<=400):Ex (Few l.length left) (J1 l left):=by
 have b1:=b0m hl
 have key:∀i:Nat,Ex (Few l.length left) (U6 (i:Int) l left):=by
  refine upn l.length (fun i hi ih=>?_) (fun i hi=>?_)
  ·refine A4 (a0v _ _ _) (B1 _ (fun _=>C5 (by omega) fun y _ _=>B1 _ (fun _=>B9 (.inr (a4y (by omega)))) fun _=>?_) fun _=>B9 (.inl rfl));rw[Q3 (by omega)];exact ih
  ·refine A4 (a0v _ _ _) (B1 _ (fun h2=>?_) fun _=>B9 (.inl rfl));simp only[Bool.and_eq_true,decide_eq_true_eq]at h2;exact absurd h2.1 (by omega)
 exact A4 (b0r _ _) (key 0)
def LOw(left:Int):Prop:= -1000000000000000<=left/\left<=400
theorem w5{x:Int}(h: -1000000000000000000<=x/\x<=1000000000000000000):wI x=x:=a4y (by omega)
section
variable (s:A3) (os:a6u s)
 include os
def SmV(m:C7):Prop:=m.Methods.length<=400
 omit os
theorem b3o{α:Type}{l:List α}{T:α->Prop}{i:Nat}(hi:i<l.length)(h:∀j g,j<i->l[j]? =some g->T g)(ht:T l[i]):∀j g,j<i+1->l[j]? =some g->T g:=by
 intro j g hj hg
 by_cases e:j=i
 ·subst e;rw[List.getElem?_eq_getElem hi]at hg;cases hg;exact ht
 ·exact h j g (by omega) hg
theorem b5f{α:Type}{l:List α}{T:α->Prop}{k:Nat}(h:∀j g,j<k->l[j]? =some g->T g)(hk:l.length<=k):∀g∈l,T g:=by
 intro g hg;obtain⟨j,hj⟩:=List.mem_iff_getElem?.1 hg;exact h j g (by have:=(List.getElem?_eq_some_iff.1 hj).1;omega) hj
 include os
theorem o09(m:C7)(om:b1j m)(i:Nat)(Q:Bool->Prop)(L0:Int)(hL:L0<=400)(H:∀left,LOw left->(0<=left->(m.Methods.length:Int)<=L0)->Ex Q (T6 (wI ((i:Int)+1)) left s)):∀k:Nat,∀left,LOw left->(0<=left->left+k<=L0)->Ex Q (Z7 (k:Int) left (i:Int) s m):=by
 have b1:=b0m om.nm;refine upn m.Methods.length (fun k hk ih left hl h0=>?_) (fun k hk left hl h0=>?_)
 ·unfold LOw at hl;refine A4 (a15 _ _ _ _ _) (B1 _ (fun h=>C5 (by omega) fun y hy hm=>?_) fun h=>H left hl fun h1=>?_)
  ·simp only[Bool.and_eq_true,decide_eq_true_eq]at h;have oy:=om.meths y hm;have b2:=b0m oy.nn;refine A5 (b83 _ oy.nn left (by omega)) fun r1 q1=>b76 y hy (by omega) (b76 y hy (by omega) (b76 y hy (by omega) (A5 (b6d _ (by unfold Sz;simp) left (by omega)) fun r2 q2=>?_)))
   have q2':r2=3\/r2=left+10:=q2;unfold Few at q1;rw[Q3 (by omega),w5 (x:=left - r1) (by omega),w5 (x:=left - r1 - r2) (by omega),w5 (x:=left - r1 - r2+2) (by omega)];exact ih _ (by unfold LOw;omega) (by omega)
  ·simp only[Bool.and_eq_false_iff,decide_eq_false_iff_not]at h;omega
 ·refine A4 (a15 _ _ _ _ _) (B1 _ (fun h=>?_) fun h=>H left hl fun h1=>by have:=h0 h1;omega);simp only[Bool.and_eq_true,decide_eq_true_eq]at h;exact absurd h.1 (by omega)
theorem n9r(hs:s.Services.length<=150)(A:Prop):∀i:Nat,∀left,LOw left->(0<=left->A/\∀(j:Nat) (m:C7),j<i->s.Services[j]? =some m->SmV m)->Ex (fun r=>r=true->A/\∀m∈s.Services,SmV m) (T6 (i:Int) left s):=by
 refine upn s.Services.length (fun i hi ih left hl h0=>?_) (fun i hi left hl h0=>?_)
 ·have hl':=hl;unfold LOw at hl';refine A4 (a2i _ _ _) (B1 _ (fun h=>b76 s.Services[i] (by simp) (by omega) ?_) fun h=>B9 fun h1=>?_)
  ·simp only[Bool.and_eq_true,decide_eq_true_eq]at h;have oy:=os.servs _ (List.getElem_mem hi);have b2:=b0m oy.nn;refine A5 (b83 _ oy.nn left (by omega)) fun r1 q1=>A5 (b6d _ (by unfold Sz;simp) left (by omega)) fun r2 q2=>?_
   have q2':r2=1\/r2=left+10:=q2;unfold Few at q1;rw[w5 (x:=left - r1) (by omega),w5 (x:=left - r1 - r2) (by omega)];refine o09 s os s.Services[i] oy i _ (left - r1 - r2) (by omega) (fun l2 hl2 h2=>?_) 0 _ (by unfold LOw;omega) (by omega);rw[Q3 (by omega)];refine ih l2 hl2 fun h3=>⟨(h0 h.2).1,b3o hi (h0 h.2).2 ?_⟩
   have:=h2 h3;unfold SmV;omega
  ·simp only[Bool.and_eq_false_iff,decide_eq_false_iff_not]at h;simp only[decide_eq_true_eq]at h1;omega
 ·refine A4 (a2i _ _ _) (B1 _ (fun h=>?_) fun h=>B9 fun h1=>?_)
  ·simp only[Bool.and_eq_true,decide_eq_true_eq]at h;exact absurd h.1 (by omega)
  ·simp only[decide_eq_true_eq]at h1;exact⟨(h0 h1).1,b5f (h0 h1).2 hi⟩
theorem o26(m:a10)(om:b5x m)(i:Nat)(Q:Bool->Prop)(L0:Int)(hL:L0<=400)(H:∀left,LOw left->(0<=left->(m.Items.length:Int)<=L0)->Ex Q (S8 (wI ((i:Int)+1)) left s)):∀k:Nat,∀left,LOw left->(0<=left->left+k<=L0)->Ex Q (a0k (k:Int) left (i:Int) s m):=by
 have b1:=b0m om.ni;refine upn m.Items.length (fun k hk ih left hl h0=>?_) (fun k hk left hl h0=>?_)
 ·unfold LOw at hl;refine A4 (a2k _ _ _ _ _) (B1 _ (fun h=>C5 (by omega) fun y hy hm=>?_) fun h=>H left hl fun h1=>?_)
  ·simp only[Bool.and_eq_true,decide_eq_true_eq]at h;have oy:=om.items y hm;have b2:=b0m oy.nn;refine A5 (b83 _ oy.nn left (by omega)) fun r1 q1=>b76 y hy (by omega) (A5 (b6d _ (by unfold Sz;simp) left (by omega)) fun r2 q2=>?_)
   have q2':r2=1\/r2=left+10:=q2;unfold Few at q1;rw[Q3 (by omega),w5 (x:=left - r1) (by omega),w5 (x:=left - r1 - r2) (by omega)];exact ih _ (by unfold LOw;omega) (by omega)
  ·simp only[Bool.and_eq_false_iff,decide_eq_false_iff_not]at h;omega
 ·refine A4 (a2k _ _ _ _ _) (B1 _ (fun h=>?_) fun h=>H left hl fun h1=>by have:=h0 h1;omega);simp only[Bool.and_eq_true,decide_eq_true_eq]at h;exact absurd h.1 (by omega)
theorem n8q(hs:s.Services.length<=150)(he:s.Enums.length<=150)(A:Prop):∀i:Nat,∀left,LOw left->(0<=left->A/\∀(j:Nat) (m:a10),j<i->s.Enums[j]? =some m->SmE m)->Ex (fun r=>r=true->(A/\∀m∈s.Enums,SmE m)/\∀m∈s.Services,SmV m) (S8 (i:Int) left s):=by
 refine upn s.Enums.length (fun i hi ih left hl h0=>?_) (fun i hi left hl h0=>?_)
 ·have hl':=hl;unfold LOw at hl';refine A4 (a16 _ _ _) (B1 _ (fun h=>b76 s.Enums[i] (by simp) (by omega) ?_) fun h=>?_)
  ·simp only[Bool.and_eq_true,decide_eq_true_eq]at h;have oy:=os.enums _ (List.getElem_mem hi);have b2:=b0m oy.nn;have b3:=b0m oy.nr;refine A5 (b83 _ oy.nn left (by omega)) fun r1 q1=>A5 (b6d _ (by unfold Sz;simp) left (by omega)) fun r2 q2=>?_
   have q2':r2=1\/r2=left+10:=q2;unfold Few at q1;rw[w5 (x:=left - r1) (by omega),w5 (x:=left - r1 - (s.Enums[i].Reserved.length:Int)) (by omega),w5 (x:=left - r1 - (s.Enums[i].Reserved.length:Int) - r2) (by omega)];refine o26 s os s.Enums[i] oy i _ (left - r1 - (s.Enums[i].Reserved.length:Int) - r2) (by omega) (fun l2 hl2 h2=>?_) 0 _ (by unfold LOw;omega) (by omega);rw[Q3 (by omega)];refine ih l2 hl2 fun h3=>⟨(h0 h.2).1,b3o hi (h0 h.2).2 ?_⟩
   have:=h2 h3;exact⟨by omega,by omega⟩
  ·simp only[Bool.and_eq_false_iff,decide_eq_false_iff_not]at h;exact n9r s os hs _ 0 left hl fun h1=>absurd h1 (by omega)
 ·refine A4 (a16 _ _ _) (B1 _ (fun h=>?_) fun h=>n9r s os hs _ 0 left hl fun h1=>⟨⟨(h0 h1).1,b5f (h0 h1).2 hi⟩,fun j m hj=>by omega⟩);simp only[Bool.and_eq_true,decide_eq_true_eq]at h;exact absurd h.1 (by omega)
theorem o1e(m:B2)(om:b2g m)(i:Nat)(Q:Bool->Prop)(L0:Int)(hL:L0<=400)(H:∀left,LOw left->(0<=left->(m.Fields.length:Int)<=L0)->Ex Q (T3 (wI ((i:Int)+1)) left s)):∀k:Nat,∀left,LOw left->(0<=left->left+k<=L0)->Ex Q (T0 (k:Int) left (i:Int) s m):=by
 have b1:=b0m om.nf;refine upn m.Fields.length (fun k hk ih left hl h0=>?_) (fun k hk left hl h0=>?_)
 ·unfold LOw at hl;refine A4 (a2h _ _ _ _ _) (B1 _ (fun h=>C5 (by omega) fun y hy hm=>?_) fun h=>H left hl fun h1=>?_)
  ·simp only[Bool.and_eq_true,decide_eq_true_eq]at h;have oy:=om.fields y hm;have b2:=b0m oy.nn;refine A5 (b83 _ oy.nn left (by omega)) fun r1 q1=>A5 (b6d _ (by unfold Sz;simp) left (by omega)) fun r2 q2=>?_
   have q2':r2=3\/r2=left+10:=q2;unfold Few at q1;rw[Q3 (by omega),w5 (x:=left - 1) (by omega),w5 (x:=left - 1 - r1) (by omega),w5 (x:=left - 1 - r1 - r2) (by omega),w5 (x:=left - 1 - r1 - r2+3) (by omega)];exact B1 _ (fun _=>ih _ (by unfold LOw;omega) (by omega)) fun _=>ih _ (by unfold LOw;omega) (by omega)
  ·simp only[Bool.and_eq_false_iff,decide_eq_false_iff_not]at h;omega
 ·refine A4 (a2h _ _ _ _ _) (B1 _ (fun h=>?_) fun h=>H left hl fun h1=>by have:=h0 h1;omega);simp only[Bool.and_eq_true,decide_eq_true_eq]at h;exact absurd h.1 (by omega)
theorem o0n(hs:s.Services.length<=150)(he:s.Enums.length<=150)(hm:s.Messages.length<=150):∀i:Nat,∀left,LOw left->(0<=left->∀(j:Nat) (m:B2),j<i->s.Messages[j]? =some m->SmM m)->Ex (fun r=>r=true->((∀m∈s.Messages,SmM m)/\∀m∈s.Enums,SmE m)/\∀m∈s.Services,SmV m) (T3 (i:Int) left s):=by
 refine upn s.Messages.length (fun i hi ih left hl h0=>?_) (fun i hi left hl h0=>?_)
 ·have hl':=hl;unfold LOw at hl';refine A4 (a2c _ _ _) (B1 _ (fun h=>b76 s.Messages[i] (by simp) (by omega) ?_) fun h=>?_)
  ·simp only[Bool.and_eq_true,decide_eq_true_eq]at h;have oy:=os.msgs _ (List.getElem_mem hi);have b2:=b0m oy.nn;have b3:=b0m oy.nr;have b4:=b0m oy.ng;refine A5 (b83 _ oy.nn left (by omega)) fun r1 q1=>A5 (b6d _ oy.ng left (by omega)) fun r2 q2=>A5 (b6d _ (by unfold Sz;simp) left (by omega)) fun r3 q3=>?_
   have q3':r3=1\/r3=left+10:=q3;unfold Few at q1 q2;rw[w5 (x:=left - r1) (by omega),w5 (x:=left - r1 - (s.Messages[i].Reserved.length:Int)) (by omega),w5 (x:=left - r1 - (s.Messages[i].Reserved.length:Int) - r2) (by omega),w5 (x:=left - r1 - (s.Messages[i].Reserved.length:Int) - r2 - r3) (by omega)];refine o1e s os s.Messages[i] oy i _ (left - r1 - (s.Messages[i].Reserved.length:Int) - r2 - r3) (by omega) (fun l2 hl2 h2=>?_) 0 _ (by unfold LOw;omega) (by omega);rw[Q3 (by omega)];refine ih l2 hl2 fun h3=>b3o hi (h0 h.2) ?_
   have:=h2 h3;exact⟨by omega,by omega,by omega⟩
  ·simp only[Bool.and_eq_false_iff,decide_eq_false_iff_not]at h;exact n8q s os hs he _ 0 left hl fun h1=>absurd h1 (by omega)
 ·refine A4 (a2c _ _ _) (B1 _ (fun h=>?_) fun h=>n8q s os hs he _ 0 left hl fun h1=>⟨b5f (h0 h1) hi,fun j m hj=>by omega⟩);simp only[Bool.and_eq_true,decide_eq_true_eq]at h;exact absurd h.1 (by omega)
theorem d2t:Ex (fun r=>r=true->SmS s) (a97 s):=by
 refine A4 (b36 _) (B1 _ (fun _=>B9 fun h=>by cases h) fun h=>?_);simp only[Bool.or_eq_false_iff,decide_eq_false_iff_not]at h;have hm:s.Messages.length<=150:=by omega
 have he:s.Enums.length<=150:=by omega
 have hs:s.Services.length<=150:=by omega
 exact g9b (o0n s os hs he hm 0 400 ⟨by omega,by omega⟩ fun _ j m hj=>by omega) fun r hr h1=>⟨hm,he,hs,(hr h1).1.1,(hr h1).1.2,(hr h1).2⟩
theorem k5q(l:List B5):∃b,b25 s l b/\(b=true->l.length<=70/\∀x∈l,l6h x):=by
 obtain⟨b1,h1,g1⟩:=d7s l;obtain⟨b2,h2,g2⟩:=d2t s os;cases b1 with
 |false=>exact⟨false,a3d _ _ _ ⟨_,h1,fun h=>(by cases h),fun _=>rfl⟩,fun h=>by cases h⟩
 |true=>
  cases b2 with
  |false=>exact⟨false,a3d _ _ _ ⟨_,h1,fun _=>⟨_,h2,fun h=>(by cases h),fun _=>rfl⟩,fun h=>by cases h⟩,fun h=>by cases h⟩
  |true=>
   obtain⟨b3,h3,_⟩:=c9g s (g2 rfl) os;exact⟨b3,a3d _ _ _ ⟨_,h1,fun _=>⟨_,h2,fun _=>⟨_,h3,rfl⟩,fun h=>by cases h⟩,fun h=>by cases h⟩,fun _=>g1 rfl⟩
end
theorem d41(mg:Int)(s:A3)(os:a6u s)(l:List B5)(verb path:ByteArray):a6p mg s l verb path true:=by
 obtain⟨b,h1,h2⟩:=k5q s os l
 by_cases hc:(((!b)||(decide (300<(verb.size:Int))))||(decide (1000<(path.size:Int))))=true
 ·exact a1p _ _ _ _ _ _ ⟨b,h1,fun z=>z=true,fun z hz=>⟨fun _=>⟨_,b45 mg,rfl⟩,fun h=>by rw[hz]at h;cases h⟩,fun _=>rfl,fun h=>by rw[hc]at h;cases h⟩
 ·have hc':=hc;simp only[Bool.not_eq_true,Bool.or_eq_false_iff,Bool.not_eq_false',decide_eq_false_iff_not]at hc';obtain⟨⟨hb,hv⟩,hp⟩:=hc';obtain⟨h3,h4⟩:=h2 hb;have hps:path.size<=1048576:=by omega
  refine a1p _ _ _ _ _ _ ⟨b,h1,fun z=>z=(h1d s l !=0),fun z hz=>⟨fun _=>⟨_,b45 mg,rfl⟩,fun h=>?_⟩,fun h=>absurd h hc,fun _=>⟨_,f4n mg s os l h3 h4,rfl⟩⟩;have h0:h1d s l=0:=by rw[hz]at h;simpa using h
  have hA:=d2j s l h0;have hl:∀x∈l,x.Path.size<=1048576:=fun x hx=>by have:=(h4 x hx).1;omega
  have g1:=m28 mg l verb path hl hps (by omega) _ 0 (Nat.zero_add _);rw[List.drop_zero]at g1;refine⟨_,a4i _ _ _ _ _ g1,?_⟩;rcases c5w verb path l 0 with hn|⟨k,r,hk,hr,he⟩
  ·rw[show c86 verb path l 0=(0,[],10) from hn];exact⟨fun _=>⟨fun z=>z=true,fun z hz=>hz.symm,fun _=>⟨_,b45 mg,rfl⟩,fun h=>by simp at h⟩,fun h=>by simp at h⟩
  ·rw[show c86 verb path l 0=_ from he];have hkl:=(List.getElem?_eq_some_iff.1 hk).1;rw[Nat.zero_add];have e1:wI ((k:Int)+1)=((k+1:Nat):Int):=a5o (by omega);have hone:=f97 verb path l hA k r hk hr
   have g2:=m28 mg (l.take k++l.drop (k+1)) verb path (fun x hx=>hl x (by
    rcases List.mem_append.1 hx with hx|hx
    ·exact List.mem_of_mem_take hx
    ·exact List.mem_of_mem_drop hx)) hps (by simp;omega) _ 0 (Nat.zero_add _)
   rw[List.drop_zero,show c86 verb path _ 0=(0,[],10) from hone]at g2;refine⟨fun h=>by simp at h,fun _=>⟨fun z=>z=false,fun z hz=>⟨fun h=>(by rw[hz]at h;cases h),fun _=>?_⟩,fun h=>?_,fun h=>⟨r,by rw[Int.toNat_natCast];exact hk,by show(0:Int)<=(k:Int);omega,?_⟩⟩⟩
   ·show(0<=(0:Int)/\(0:Int)<=(k:Int)/\(k:Int)<=(l.length:Int))/\_;rw[e1]
    have ht:(l.take (l.length:Int).toNat).drop (((k+1:Nat):Int)).toNat=l.drop (k+1):=by
     rw[Int.toNat_natCast,Int.toNat_natCast,List.take_length]
    have ht2:(l.take ((k:Int)).toNat).drop (0:Int).toNat=l.take k:=by rw[Int.toNat_natCast];rfl
    rw[ht,ht2];refine⟨by omega,by simp;omega,by omega,by simp;omega,_,a4i _ _ _ _ _ g2,fun _=>⟨_,b45 mg,rfl⟩,fun h=>by simp at h⟩
   ·exfalso;simp only[Bool.or_eq_true,decide_eq_true_eq]at h;omega
   ·rw[decide_eq_true hr.1];rfl
theorem k10:Rows.gatewayOneRow.inPlace=Tryz.prog.inPlace 5:=by kernel_rfl
theorem k11:Tryz.prog.unfollowed 5=true:=by kernel_rfl
theorem k12:Tryz.prog.recurses 5=true:=by unfold Program.recurses;rw[k11];rfl
theorem k13:Rows.gatewayOneRow.named=Tryz.prog.varsNamed 5:=by kernel_rfl
theorem o22:Tryz.prog.funcs.any Func.goes=false:=by kernel_rfl
theorem g94{P:Program}(h:P.funcs.any Func.goes=false)(f:FuncId):P.goes f=false:=by
 unfold Program.goes;rw[h,Bool.and_false,Bool.or_false];refine List.any_eq_false.2 fun g _=>?_
 cases hg:P.funcs[g]? with
 |none=>simp
 |some fn=>
  rw[Array.any_eq_false]at h;obtain⟨hl,he⟩:=Array.getElem?_eq_some_iff.1 hg;have:=h g hl;rw[he]at this;simpa using this
theorem kg:false=Rows.gatewayOneRow.goesBy Tryz.prog:=by
 have:Rows.gatewayOneRow.goesBy Tryz.prog=Tryz.prog.goesFrom Rows.gatewayOneRow.func:=by unfold OpenClaim.goesBy Program.goesAt;exact Bool.or_false _
 rw[this];unfold Program.goesFrom;cases Tryz.prog.funcNamed Rows.gatewayOneRow.func with
 |none=>rfl
 |some f=>rw[Option.any_some,g94 o22]
theorem X8{a b:Bool}(h:a=true)(k:b=true):(a&&b)=true:=by rw[h,k];rfl
set_option maxHeartbeats 100000000 in
theorem closed:joinedFacts Tryz.prog 5 Tryz.f5 (OpenSpec.ofChange Rows.gatewayOneSpec).bare Rows.gatewayOneRow=true:=by
 unfold joinedFacts;refine(X8 (X8 (X8 (X8 (X8 (X8 (X8 (X8 (X8 (X8 (X8 (X8 (X8 (X8 (X8 (X8 (X8 (X8 (X8 (X8 (X8 (X8 (X8 (X8 (X8 (X8 (X8 (X8 (X8 (X8 (X8 ?_ ?_) ?_) ?_) ?_) ?_) ?_) ?_) ?_) ?_) ?_) ?_) ?_) ?_) ?_) ?_) ?_) ?_) ?_) ?_) ?_) ?_) ?_) ?_) ?_) ?_) ?_) ?_) ?_) ?_) ?_) ?_)
 ·as_aux_lemma=>kernel_rfl
 ·as_aux_lemma=>kernel_rfl
 ·as_aux_lemma=>kernel_rfl
 ·as_aux_lemma=>kernel_rfl
 ·as_aux_lemma=>kernel_rfl
 ·as_aux_lemma=>kernel_rfl
 ·as_aux_lemma=>kernel_rfl
 ·as_aux_lemma=>kernel_rfl
 ·as_aux_lemma=>kernel_rfl
 ·exact beq_iff_eq.2 k10
 ·exact beq_iff_eq.2 k11.symm
 ·exact beq_iff_eq.2 k12.symm
 ·exact beq_iff_eq.2 k13
 ·as_aux_lemma=>kernel_rfl
 ·as_aux_lemma=>kernel_rfl
 ·as_aux_lemma=>kernel_rfl
 ·as_aux_lemma=>kernel_rfl
 ·as_aux_lemma=>kernel_rfl
 ·as_aux_lemma=>kernel_rfl
 ·as_aux_lemma=>kernel_rfl
 ·as_aux_lemma=>kernel_rfl
 ·as_aux_lemma=>kernel_rfl
 ·as_aux_lemma=>kernel_rfl
 ·as_aux_lemma=>kernel_rfl
 ·as_aux_lemma=>kernel_rfl
 ·as_aux_lemma=>kernel_rfl
 ·as_aux_lemma=>kernel_rfl
 ·as_aux_lemma=>kernel_rfl
 ·as_aux_lemma=>kernel_rfl
 ·as_aux_lemma=>kernel_rfl
 ·as_aux_lemma=>kernel_rfl
 ·as_aux_lemma=>kernel_rfl
end Go.Proofs.YtkhgohfaecbgkaaGreatDoor.Lift
