/- Part 7 of the texts that prove TextformPrintsEnd. -/
import Derived.Test.YtdpomombdeccpaaGreatDoorTextformPrintsEndP5
import Derived.Lib.MapLaws
import Derived.Lib.TrimUEq
import Derived.Test.YtdpomombdeccpaaGreatDoorTextformPrintsEndP3
import Derived.Test.YtdpomombdeccpaaGreatDoorTextformPrintsEndP4
namespace Go.Proofs.YtdpomombdeccpaaGreatDoor.Lift
open Go.RowKit
set_option linter.unusedVariables false
set_option linter.unusedSimpArgs false
set_option linter.unnecessarySimpa false
set_option linter.unusedSectionVars false
set_option maxRecDepth 100000
def XO(b:Nat):b4b:=⟨#[92,120,CA (b / 16),CA (b % 16)]⟩
def CC(s:b4b)(p:Nat):b4b:=
 if D7 s p=34 then⟨#[92,34]⟩ else if D7 s p=92 then⟨#[92,92]⟩ else if D7 s p=10 then⟨#[92,110]⟩ else if D7 s p=9 then⟨#[92,116]⟩ else if D7 s p=13 then⟨#[92,114]⟩
 else if D7 s p<32\/D7 s p=127\/K4 s p=0 then XO (D7 s p) else s.extract p (p+K4 s p)
theorem VI(a:Nat)(h:a<16):(⟨#[48,49,50,51,52,53,54,55,56,57,97,98,99,100,101,102]⟩:b4b).extract a (a+1)=⟨#[CA a]⟩:=by
 have:a=0\/a=1\/a=2\/a=3\/a=4\/a=5\/a=6\/a=7\/a=8\/a=9\/a=10\/a=11\/a=12\/a=13\/a=14\/a=15:=by omega
 rcases this with rfl|rfl|rfl|rfl|rfl|rfl|rfl|rfl|rfl|rfl|rfl|rfl|rfl|rfl|rfl|rfl
 all_goals rfl
theorem im(b:Nat)(h:b<256):G5 .and .u8 (b:Int) 15=((b % 16:Nat):Int):=by
 have:∀c:Fin 256,G5 .and .u8 ((c.val:Nat):Int) 15=((c.val % 16:Nat):Int):=by decide+kernel
 exact this ⟨b,h⟩
theorem lq(b:Nat)(h:b<256):(b:Int).fdiv (2 ^ min (4:Int).toNat IntKind.u8.bits)=((b / 16:Nat):Int):=by
 have:∀c:Fin 256,((c.val:Nat):Int).fdiv (2 ^ min (4:Int).toNat IntKind.u8.bits)=((c.val / 16:Nat):Int):=by decide+kernel
 exact this ⟨b,h⟩
theorem Sr(a:Nat)(h:a<16):IntKind.u8.wrap ((a:Int)+1)=((a+1:Nat):Int):=by simp[IntKind.wrap,IntKind.signed,IntKind.bits];omega
theorem b12(b:Nat)(h:b<256):XL b (XO b):=by
 refine xD _ _ ?_;rw[lq b h,im b h,Sr _ (by omega),Sr _ (by omega)];simp only[Int.toNat_natCast];rw[VI _ (by omega),VI _ (by omega)];refine⟨⟨by omega,by omega,?_⟩,?_,⟨by omega,by omega,?_⟩,?_,?_⟩
 ·show((b / 16+1:Nat):Int)<=16;omega
 ·show((2+1:Nat):Int)<=_;decide
 ·show((b % 16+1:Nat):Int)<=16;omega
 ·show((2+1+1:Nat):Int)<=_;decide
 ·rfl
theorem b1e(s:b4b)(p:Nat)(h:D7 s p<128):Utf8.decode s p=(D7 s p,1):=by
 rw[Lib.decode_at,<-EV];unfold Lib.decodeN;rw[if_pos h]
theorem sb(s:b4b)(p:Nat)(h:¬D7 s p<128):128<=(Utf8.decode s p).1:=by
 rw[Lib.decode_at,<-EV];unfold Lib.decodeN;rw[if_neg h]
 repeat' split
 all_goals simp only;omega
theorem b1z(s:b4b)(p k:Nat)(hk:k<128):((Utf8.decode s p).1=k↔D7 s p=k)/\((Utf8.decode s p).1<k↔D7 s p<k):=by
 by_cases h:D7 s p<128
 ·rw[b1e s p h];simp
 ·have:=sb s p h;omega
theorem zZ(n:Nat)(hv:n<55296\/(57344<=n/\n<=1114111)):(Utf8.encode (n:Int)).data.toList=Lib.encodeRune (n:Int):=by
 have v:Utf8.valid (n:Int):=by
  unfold Utf8.valid;simp only[Bool.or_eq_true,b3x,b3v];omega
 have b:∀(z:Int) (m:Nat),z=(m:Int)->z.toNat.toUInt8=UInt8.ofNat m:=by intro z m h;subst h;rfl
 unfold Utf8.encode Lib.encodeRune Lib.encodeRuneZ;rw[v];simp only[if_true,Int.toNat_natCast]
 by_cases h1:n<128
 ·have e1:0<=(n:Int)/\(n:Int)<=127:=by omega
  rw[if_pos h1,if_pos e1];simp[b _ n rfl]
 have e1:¬(0<=(n:Int)/\(n:Int)<=127):=by omega
 rw[if_neg h1,if_neg e1]
 by_cases h2:n<2048
 ·have e2:128<=(n:Int)/\(n:Int)<=2047:=by omega
  rw[if_pos h2,if_pos e2];simp[b (192+(n:Int) / 64) (192+n / 64) (by omega),b (128+(n:Int) % 64) (128+n % 64) (by omega)]
 have e2:¬(128<=(n:Int)/\(n:Int)<=2047):=by omega
 rw[if_neg h2,if_neg e2]
 by_cases h3:n<65536
 ·have e3:(2048<=(n:Int)/\(n:Int)<55296)\/(57343<(n:Int)/\(n:Int)<=65535):=by omega
  rw[if_pos h3,if_pos e3];simp[b (224+(n:Int) / 4096) (224+n / 4096) (by omega),b (128+(n:Int) / 64 % 64) (128+n / 64 % 64) (by omega),b (128+(n:Int) % 64) (128+n % 64) (by omega)]
 ·have e3:¬((2048<=(n:Int)/\(n:Int)<55296)\/(57343<(n:Int)/\(n:Int)<=65535)):=by omega
  have e4:65536<=(n:Int)/\(n:Int)<=1114111:=by omega
  rw[if_neg h3,if_neg e3,if_pos e4];simp[b (240+(n:Int) / 262144) (240+n / 262144) (by omega),b (128+(n:Int) / 4096 % 64) (128+n / 4096 % 64) (by omega),b (128+(n:Int) / 64 % 64) (128+n / 64 % 64) (by omega),b (128+(n:Int) % 64) (128+n % 64) (by omega)]
theorem a8k(s:b4b)(p:Nat)(hp:p<s.size)(h0:K4 s p≠0):Utf8.encode ((Utf8.decode s p).1:Int)=s.extract p (p+K4 s p):=by
 have hd:=Pr s p;have hb0:=s.get! p|>.toNat_lt;have hb1:=s.get! (p+1)|>.toNat_lt;have hb2:=s.get! (p+2)|>.toNat_lt;have hb3:=s.get! (p+3)|>.toNat_lt
 have hne:¬((Utf8.decode s p).1=65533/\(Utf8.decode s p).2=1):=by
  rintro⟨h1,h2⟩
  by_cases hc:2<s.size - p/\(s.get! p).toNat=239/\(s.get! (p+1)).toNat=191/\(s.get! (p+2)).toNat=189
  ·rw[Lib.decode_at,hc.2.1,hc.2.2.1,hc.2.2.2]at h2;unfold Lib.decodeN at h2;rw[if_neg (by omega),if_neg (by omega),if_pos (by omega),if_pos (by omega)]at h2;simp at h2
  ·rw[if_pos ⟨h1,hc⟩]at hd;exact h0 hd
 rw[if_neg]at hd
 rotate_left
 ·rintro⟨h1,hc⟩;rw[if_pos ⟨h1,hc⟩]at hd;exact h0 hd
 have hl:s.data.toList.drop p≠[]:=by
  intro h;have:=congrArg List.length h;simp at this;omega
 have key:=Lib.encode_decode (s.data.toList.drop p) hl (by rw[Lib.decodeL_drop];exact hne);rw[Lib.decodeL_drop]at key
 have hv:(Utf8.decode s p).1<55296\/(57344<=(Utf8.decode s p).1/\(Utf8.decode s p).1<=1114111):=by
  rw[Lib.decode_at];rcases Lib.decodeN_shape (s.size - p) (s.get! p).toNat (s.get! (p+1)).toNat (s.get! (p+2)).toNat (s.get! (p+3)).toNat with⟨c,e⟩|⟨c1,c2,c3,cv,e⟩|⟨c1,c2,c3,c4,cv,cs,e⟩|⟨c1,c2,c3,c4,c5,cv,cw,e⟩|e<;>rw[e]<;>simp only<;>omega
 apply ByteArray.ext;apply Array.toList_inj.1;rw[zZ _ hv,key,hd,RF];simp only[List.toList_toArray];rw[List.drop_take]
 congr 1
 omega
theorem a49(s:b4b)(hz:s.size<=140737488351232)(p:Nat)(hp:p<s.size):XH s (p:Int) ((Utf8.decode s p).1:Int) (CC s p):=by
 have low:=λk hk=>b1z s p k hk
 have hb:=Lt s p;have hn:((p:Int)).toNat=p:=by omega
 have eqk:∀k:Nat,k<128->((((Utf8.decode s p).1:Int)==(k:Int))=decide (D7 s p=k)):=by
  intro k hk;have:=(low k hk).1
  by_cases h:D7 s p=k
  ·have h2:=this.2 h;simp[h,h2]
  ·have h2:(Utf8.decode s p).1≠k:=λe=>h (this.1 e)
   simp[h];omega
 have e34:(((Utf8.decode s p).1:Int)==34)=decide (D7 s p=34):=eqk 34 (by decide);have qq:(((Utf8.decode s p).1:Int)==92)=decide (D7 s p=92):=eqk 92 (by decide);have e10:(((Utf8.decode s p).1:Int)==10)=decide (D7 s p=10):=eqk 10 (by decide);have e9:(((Utf8.decode s p).1:Int)==9)=decide (D7 s p=9):=eqk 9 (by decide);have e13:(((Utf8.decode s p).1:Int)==13)=decide (D7 s p=13):=eqk 13 (by decide);have e127:(((Utf8.decode s p).1:Int)==127)=decide (D7 s p=127):=eqk 127 (by decide);have l32:=(low 32 (by decide)).2;have hw:=qC s p (by omega) hz ((Utf8.decode s p).1:Int);have hd:=Pr s p;simp only[<-EV]at hd
 have hwz:(decide (((Utf8.decode s p).1:Int)=65533)&& !FX s p)=decide (K4 s p=0):=by
  have hpos:=dC s p;unfold FX
  by_cases hc:(Utf8.decode s p).1=65533/\¬(2<s.size - p/\D7 s p=239/\D7 s (p+1)=191/\D7 s (p+2)=189)
  ·rw[if_pos hc]at hd;have:((Utf8.decode s p).1:Int)=65533:=by omega
   simp[hd,this,hc.2]
  ·rw[if_neg hc]at hd;have:K4 s p≠0:=by omega
   simp only[this,decide_false]
   by_cases h1:(Utf8.decode s p).1=65533
   ·have h2:(2<s.size - p/\D7 s p=239/\D7 s (p+1)=191/\D7 s (p+2)=189):=Classical.byContradiction λh=>hc ⟨h1,h⟩
    simp[h2]
   ·have:¬((Utf8.decode s p).1:Int)=65533:=by omega
    simp[this]
 rw[hwz]at hw;refine uR _ _ _ _ ?_;rw[e34,qq,e10,e9,e13,e127];unfold CC;refine⟨λh=>by rw[if_pos (of_decide_eq_true h)],λh=>?_⟩;rw[if_neg (of_decide_eq_false h)];refine⟨λh=>by rw[if_pos (of_decide_eq_true h)],λh=>?_⟩;rw[if_neg (of_decide_eq_false h)];refine⟨λh=>by rw[if_pos (of_decide_eq_true h)],λh=>?_⟩;rw[if_neg (of_decide_eq_false h)];refine⟨λh=>by rw[if_pos (of_decide_eq_true h)],λh=>?_⟩;rw[if_neg (of_decide_eq_false h)];refine⟨λh=>by rw[if_pos (of_decide_eq_true h)],λh=>?_⟩;rw[if_neg (of_decide_eq_false h)];refine⟨λb=>b=decide (D7 s p<32\/D7 s p=127\/K4 s p=0),λb hR=>⟨λhbt=>⟨⟨by omega,by omega⟩,XO (D7 s p),?_,?_⟩,λhbf=>?_⟩,λh1=>?_,λh1=>⟨_,hw,?_⟩⟩
 ·rw[hn,hb.1];exact b12 _ hb.2
 ·rw[hbt]at hR;rw[if_pos (of_decide_eq_true hR.symm)]
 ·rw[hbf]at hR;have hR':=of_decide_eq_false hR.symm;rw[if_neg hR',a8k s p hp (λh=>hR' (.inr (.inr h)))]
 ·show true=_;symm;apply decide_eq_true;simp only[Bool.or_eq_true,b3v]at h1;rcases h1 with h1|h1
  ·exact .inl (l32.1 (by omega))
  ·exact .inr (.inl h1)
 ·simp only[Bool.or_eq_false_iff,b3w]at h1;have n1:¬D7 s p<32:=λh=>h1.1 (by have:=l32.2 h;omega)
  congr 1
  simp only[eq_iff_iff];constructor
  ·intro h;exact .inr (.inr h)
  ·rintro (h|h|h)
   ·exact absurd h n1
   ·exact absurd h h1.2
   ·exact h
theorem CF(a b c:b4b):a++b++c=a++(b++c):=by apply ByteArray.ext;simp[ByteArray.data_append]
def As(s:b4b)(p:Nat):Nat:=if K4 s p=0 then 1 else K4 s p
theorem VS(s:b4b)(p:Nat):1<=As s p:=by unfold As;split<;>omega
theorem cZ(s:b4b)(p:Nat)(h:p<s.size):p+As s p<=s.size:=by
 have:=TI s p h;unfold As;split<;>omega
theorem a1h(s:b4b)(p:Nat):(Utf8.decode s p).2=As s p:=by
 have hd:=Pr s p;have hb0:=s.get! p|>.toNat_lt;have hb1:=s.get! (p+1)|>.toNat_lt;have hb2:=s.get! (p+2)|>.toNat_lt;have hb3:=s.get! (p+3)|>.toNat_lt;have hp:=dC s p;unfold As
 by_cases h0:K4 s p=0
 ·rw[if_pos h0];rw[h0]at hd;rw[Lib.decode_at]at hd hp ⊢;rcases Lib.decodeN_shape (s.size - p) (s.get! p).toNat (s.get! (p+1)).toNat (s.get! (p+2)).toNat (s.get! (p+3)).toNat with⟨c,e⟩|⟨c1,c2,c3,cv,e⟩|⟨c1,c2,c3,c4,cv,cs,e⟩|⟨c1,c2,c3,c4,c5,cv,cw,e⟩|e
  all_goals
   rw[e]at hd hp ⊢
   try simp only at hd hp ⊢
   all_goals (try (split at hd<;>first|omega|rfl))
 ·rw[if_neg h0,hd];split at hd
  ·exact absurd hd h0
  ·rename_i hc;rw[if_neg hc]
theorem au(s:b4b)(p:Nat)(h:p<s.size):(CC s p).size<=4*As s p:=by
 have h1:=VS s p;have h2:=TI s p h;unfold CC
 repeat' split
 all_goals first|(show(2:Nat)<=_;omega)|(show(4:Nat)<=_;omega)|skip
 rw[IT _ h2];unfold As;split<;>omega
def DA(s:b4b):Nat->Nat->b4b
 |0,_=>⟨#[34]⟩
 |f+1,p=>if p<s.size then CC s p++DA s f (p+As s p) else⟨#[34]⟩
def ES(s:b4b):b4b:=⟨#[34]⟩++DA s s.size 0
theorem nI(s:b4b)(f p:Nat)(h:¬p<s.size):DA s f p=⟨#[34]⟩:=by cases f<;>simp[DA,h]
theorem l0(s:b4b)(hs:s.size<=1073741824):∀(f p:Nat) (acc:b4b),s.size - p<=f->p<=s.size->acc.size<=1+4*p->VQ s acc p (acc++DA s f p):=by
 have e1:(⟨#[34]⟩:b4b).size=1:=rfl;intro f
 induction f with
 |zero=>
  intro p acc h1 h2 h3;refine qY _ _ _ _ ⟨λh=>absurd h (by omega),λh=>⟨by omega,by rw[H5];omega,rfl⟩⟩
 |succ f ih=>
  intro p acc h1 h2 h3;refine qY _ _ _ _ ⟨λhp=>?_,λh=>⟨by omega,by rw[H5];omega,by rw[nI _ _ _ h]⟩⟩;have k1:=VS s p;have k2:=cZ s p hp;have k3:=au s p hp;refine⟨_,a49 s (by omega) p hp,by omega,?_⟩;rw[DA,if_pos hp,a1h,<-CF];exact ih _ _ (by omega) k2 (by rw[H5];omega)
theorem qP(s:b4b)(hs:s.size<=1073741824):SC s (ES s):=by
 refine su _ _ ⟨by decide,?_⟩;have:=l0 s hs s.size 0 ⟨#[34]⟩ (by omega) (by omega) (by show 1<=_;omega);exact this
theorem yn(b:Nat)(h:b<256):IntKind.u8.wrap ((b:Int).tdiv 16)=((b / 16:Nat):Int)/\(b:Int).tmod 16=((b % 16:Nat):Int):=by
 have:∀c:Fin 256,IntKind.u8.wrap (((c.val:Nat):Int).tdiv 16)=((c.val / 16:Nat):Int)/\((c.val:Nat):Int).tmod 16=((c.val % 16:Nat):Int):=by decide+kernel
 exact this ⟨b,h⟩
def Lj(b:Nat):b4b:=⟨#[CA (b / 16),CA (b % 16)]⟩
theorem ma(b:Nat)(h:b<256):VB b (Lj b):=by
 obtain⟨q1,q2⟩:=yn b h;refine tn _ _ ?_;rw[q1,q2,Sr _ (by omega),Sr _ (by omega)];simp only[Int.toNat_natCast];rw[VI _ (by omega),VI _ (by omega)];refine⟨⟨by omega,by omega,?_⟩,⟨by omega,by omega,?_⟩,?_,rfl⟩
 ·show((b / 16+1:Nat):Int)<=16;omega
 ·show((b % 16+1:Nat):Int)<=16;omega
 ·show((1+1:Nat):Int)<=_;decide
theorem zx(s:b4b)(hs:s.size<=1073741824):∀(f p:Nat) (acc:b4b),s.size - p<=f->p<=s.size->acc.size<=1+4*p->AU p acc s (acc++DA s f p):=by
 have e1:(⟨#[34]⟩:b4b).size=1:=rfl;intro f
 induction f with
 |zero=>
  intro p acc h1 h2 h3;refine nD _ _ _ _ ⟨λh=>absurd (of_decide_eq_true h) (by omega),λh=>⟨by omega,rfl⟩⟩
 |succ f ih=>
  intro p acc h1 h2 h3;refine nD _ _ _ _ ⟨λhp=>?_,λh=>?_⟩
  rotate_left
  ·have hp:¬p<s.size:=by have:=of_decide_eq_false h;omega
   exact⟨by omega,by rw[nI _ _ _ hp]⟩
  have hp:p<s.size:=by have:=of_decide_eq_true hp;omega
  have k1:=VS s p;have k2:=cZ s p hp;have k3:=au s p hp;have hb:=Lt s p;have hn:((p:Int)).toNat=p:=by omega
  refine⟨_,eN s (by omega) p hp,⟨by omega,by omega⟩,?_⟩;rw[dR,hn,hb.1]
  have key:∀X:b4b,X=CC s p->(((((K4 s p:Nat):Int)==0)=true->AU (wI ((p:Int)+1)) (acc++X) s (acc++DA s (f+1) p))/\((((K4 s p:Nat):Int)==0)=false->AU (wI ((p:Int)+(K4 s p:Nat))) (acc++X) s (acc++DA s (f+1) p))):=by
   intro X hX;subst hX;have hi:=ih (p+As s p) (acc++CC s p) (by omega) k2 (by rw[H5];omega);rw[DA,if_pos hp,<-CF];constructor
   ·intro h;have h0:K4 s p=0:=by simp only[beq_iff_eq]at h;omega
    have es:As s p=1:=by unfold As;rw[if_pos h0]
    rw[wI,C0 (by omega)];rw[es]at hi ⊢;exact hi
   ·intro h;have h0:K4 s p≠0:=by simp only[beq_eq_false_iff_ne]at h;omega
    have es:As s p=K4 s p:=by unfold As;rw[if_neg h0]
    rw[wI,C0 (by omega)];rw[es]at hi ⊢;exact hi
  have nat:∀k:Nat,(((D7 s p:Nat):Int)==(k:Int))=decide (D7 s p=k):=by
   intro k
   by_cases h:D7 s p=k
   ·simp[h]
   ·simp[h];omega
  have n34:=nat 34;have n92:=nat 92;have n10:=nat 10;have n9:=nat 9;have n13:=nat 13;have c:∀{k:Nat},(((D7 s p:Nat):Int)==(k:Int))->D7 s p=k:=λh=>by rw[nat]at h;exact of_decide_eq_true h
  have d:∀{k:Nat},(((D7 s p:Nat):Int)==(k:Int))=false->¬D7 s p=k:=λh=>by rw[nat]at h;exact of_decide_eq_false h
  have z2:∀a b:UInt8,(⟨#[a,b]⟩:b4b).size=2:=λ_ _=>rfl
  refine⟨λh=>⟨by rw[z2];omega,key _ (by unfold CC;rw[if_pos (c (k:=34) h)])⟩,λh=>?_⟩;have g1:=d (k:=34) h;refine⟨λh=>⟨by rw[z2];omega,key _ (by unfold CC;rw[if_neg g1,if_pos (c (k:=92) h)])⟩,λh=>?_⟩;have g2:=d (k:=92) h;refine⟨λh=>⟨by rw[z2];omega,key _ (by unfold CC;rw[if_neg g1,if_neg g2,if_pos (c (k:=10) h)])⟩,λh=>?_⟩;have g3:=d (k:=10) h;refine⟨λh=>⟨by rw[z2];omega,key _ (by unfold CC;rw[if_neg g1,if_neg g2,if_neg g3,if_pos (c (k:=9) h)])⟩,λh=>?_⟩;have g4:=d (k:=9) h;refine⟨λh=>⟨by rw[z2];omega,key _ (by unfold CC;rw[if_neg g1,if_neg g2,if_neg g3,if_neg g4,if_pos (c (k:=13) h)])⟩,λh=>?_⟩;have g5:=d (k:=13) h
  have bad:(((decide (((D7 s p:Nat):Int)<32))||(((D7 s p:Nat):Int)==127))||(((K4 s p:Nat):Int)==0))=decide (D7 s p<32\/D7 s p=127\/K4 s p=0):=by
   have e2:(((D7 s p:Nat):Int)==127)=decide (D7 s p=127):=nat 127;have e3:(((K4 s p:Nat):Int)==0)=decide (K4 s p=0):=by by_cases h:K4 s p=0<;>simp[h]
   have e4:decide (((D7 s p:Nat):Int)<32)=decide (D7 s p<32):=by congr 1;simp only[eq_iff_iff];omega
   rw[e2,e3,e4];simp[Bool.or_assoc]
  rw[bad];refine⟨λh=>⟨by rw[z2];omega,_,ma _ hb.2,by rw[H5,z2,show(Lj (D7 s p)).size=2 from rfl];omega,?_⟩,λh=>?_⟩
  ·have hh:=of_decide_eq_true h;have:=key (⟨#[92,120]⟩++Lj (D7 s p)) (by unfold CC;rw[if_neg g1,if_neg g2,if_neg g3,if_neg g4,if_neg g5,if_pos hh];rfl);rw[<-CF]at this;exact this
  ·have hh:=of_decide_eq_false h;have h0:K4 s p≠0:=λe=>hh (.inr (.inr e))
   have es:As s p=K4 s p:=by unfold As;rw[if_neg h0]
   have hw:wI ((p:Int)+(K4 s p:Nat))=((p+K4 s p:Nat):Int):=by rw[wI,C0 (by omega)];omega
   have:=key (s.extract p (p+K4 s p)) (by unfold CC;rw[if_neg g1,if_neg g2,if_neg g3,if_neg g4,if_neg g5,if_neg hh]);rw[hw]at this ⊢;simp only[Int.toNat_natCast];refine⟨⟨by omega,by omega,by omega⟩,by rw[IT _ (by omega)];omega,this⟩
theorem hY(s:b4b)(hs:s.size<=1073741824):VD s (ES s):=
 yD _ _ (zx s hs s.size 0 ⟨#[34]⟩ (by omega) (by omega) (by show 1<=_;omega))
theorem eE(a:Nat)(h:a<16):E2 (⟨#[48,49,50,51,52,53,54,55,56,57,97,98,99,100,101,102]⟩:b4b) a=((CA a).toNat:Int):=by
 have:a=0\/a=1\/a=2\/a=3\/a=4\/a=5\/a=6\/a=7\/a=8\/a=9\/a=10\/a=11\/a=12\/a=13\/a=14\/a=15:=by omega
 rcases this with rfl|rfl|rfl|rfl|rfl|rfl|rfl|rfl|rfl|rfl|rfl|rfl|rfl|rfl|rfl|rfl
 all_goals rfl
def Y8:b4c UInt8->b4c UInt8
 |[]=>[]
 |b::r=>CA (b.toNat / 16)::CA (b.toNat % 16)::Y8 r
theorem Zb:∀a b:b4c UInt8,Y8 (a++b)=Y8 a++Y8 b
 |[],_=>rfl
 |x::a,b=>by simp[Y8,Zb a b]
theorem Vx:∀a:b4c UInt8,(Y8 a).length=2*a.length
 |[]=>rfl
 |x::a=>by simp only[Y8,List.length_cons,Vx a];omega
def Bx(s:b4b):b4b:=⟨(Y8 s.data.toList).toArray⟩
theorem PZ(s:b4b):(Bx s).size=2*s.size:=by
 show(Y8 s.data.toList).toArray.size=_;rw[List.size_toArray,Vx];simp
theorem oc(s:b4b)(i:Nat)(h:i<s.size):s.data.toList.take (i+1)=s.data.toList.take i++[s.get! i]:=by
 rw[List.take_add_one]
 have e:s.data.toList[i]? =some (s.get! i):=by
  have h2:i<s.data.size:=h;rw[Array.getElem?_toList,Array.getElem?_eq_getElem h2];exact congrArg some (getElem!_pos s.data i h2).symm
 rw[e];rfl
theorem uk(s:b4b)(hs:s.size<=1073741824):∀n i:Nat,s.size - i=n->i<=s.size->Qj i s ((Y8 (s.data.toList.take i)).map λb=>(b.toNat:Int)) (Bx s):=by
 intro n
 induction n with
 |zero=>
  intro i h1 h2;refine ib _ _ _ _ ⟨λh=>absurd (of_decide_eq_true h) (by omega),λ_=>⟨Bx s,?_,rfl⟩⟩;rw[List.take_of_length_le (by simp;omega)];simp[bI,Bx]
 |succ n ih=>
  intro i h1 h2;refine ib _ _ _ _ ⟨λ_=>?_,λh=>absurd (of_decide_eq_false h) (by omega)⟩;have hb:=Lt s i;have hn:((i:Int)).toNat=i:=by omega
  have e1:((D7 s i:Nat):Int).fdiv (2 ^ min (4:Int).toNat IntKind.u8.bits)=((D7 s i / 16:Nat):Int):=lq _ hb.2;rw[hn,hb.1,e1,im _ hb.2];simp only[Int.toNat_natCast];rw[eE _ (by omega),eE _ (by omega)];have e16:(⟨#[48,49,50,51,52,53,54,55,56,57,97,98,99,100,101,102]⟩:b4b).size=16:=rfl;refine⟨⟨by omega,by omega⟩,⟨by omega,by omega⟩,⟨by omega,by omega⟩,⟨by omega,by omega⟩,?_,?_⟩
  ·rw[List.length_map,Vx,List.length_take];simp only[List.length_cons,List.length_nil];omega
  ·rw[wI,C0 (by omega)];have:=ih (i+1) (by omega) (by omega);rw[oc s i (by omega),Zb,List.map_append]at this;rw[EV];simpa[Y8]using this
theorem d6(s:b4b)(hs:s.size<=1073741824):Ym s (Bx s):=by
 refine vm _ _ ⟨?_,uk s hs s.size 0 (by omega) (by omega)⟩;rw[wI,C0 (by omega)];omega
theorem a66(s:b4b)(hs:s.size<=1073741824):∀n i:Nat,s.size - i=n->i<=s.size->SD i ⟨(Y8 (s.data.toList.take i)).toArray⟩ s (Bx s):=by
 intro n
 induction n with
 |zero=>
  intro i h1 h2;refine lu _ _ _ _ ⟨λh=>absurd (of_decide_eq_true h) (by omega),λ_=>?_⟩;rw[List.take_of_length_le (by simp;omega)];rfl
 |succ n ih=>
  intro i h1 h2;refine lu _ _ _ _ ⟨λ_=>?_,λh=>absurd (of_decide_eq_false h) (by omega)⟩;have hb:=Lt s i;have hn:((i:Int)).toNat=i:=by omega
  rw[hn,hb.1];refine⟨⟨by omega,by omega⟩,_,ma _ hb.2,?_,?_⟩
  ·have e1:(⟨(Y8 (s.data.toList.take i)).toArray⟩:b4b).size=(Y8 (s.data.toList.take i)).length:=by show(Y8 (s.data.toList.take i)).toArray.size=_;simp
   rw[e1,Vx,List.length_take,show(Lj (D7 s i)).size=2 from rfl];omega
  ·rw[wI,C0 (by omega)];have:=ih (i+1) (by omega) (by omega);rw[oc s i (by omega),Zb]at this
   have e:(⟨(Y8 (s.data.toList.take i)).toArray⟩:b4b)++Lj (D7 s i)=⟨(Y8 (s.data.toList.take i)++Y8 [s.get! i]).toArray⟩:=by
    apply ByteArray.ext;rw[ByteArray.data_append,EV];simp[Lj,Y8]
   rw[e];exact this
theorem lV(s:b4b)(hs:s.size<=1073741824):Qg s (Bx s):=
 b2b _ _ (a66 s hs s.size 0 (by omega) (by omega))
def Hv(u:Nat):b4b:=⟨(Z8 16 u).toArray⟩
def FB:Nat->Nat->b4c Int
 |0,_=>[]
 |k+1,u=>((u / 256 ^ k % 256:Nat):Int)::FB k u
theorem gB:∀k u,iW (FB k u)
 |0,_=>λx hx=>by simp[FB]at hx
 |k+1,u=>λx hx=>by
  simp only[FB,b38]at hx;rcases hx with rfl|hx
  ·omega
  ·exact gB k u x hx
theorem SB:∀k u,(FB k u).length=k
 |0,_=>rfl
 |k+1,u=>by simp[FB,SB k u]
theorem iR(u:Nat):∀k,Y8 ((FB k u).map λn=>UInt8.ofNat n.toNat)=Z8 (2*k) u
 |0=>rfl
 |k+1=>by
  have e0:2*(k+1)=2*k+1+1:=by omega
  have e1:(256:Nat) ^ k=16 ^ (2*k):=by rw[Nat.pow_mul]
  have hb:u / 256 ^ k % 256<256:=by omega
  simp only[FB,List.map_cons,Y8,iR u k,e0,Z8]
  have e2:(UInt8.ofNat (((u / 256 ^ k % 256:Nat):Int)).toNat).toNat=u / 256 ^ k % 256:=by
   rw[Int.toNat_natCast,UInt8.toNat_ofNat_of_lt' (by simpa[UInt8.size]using hb)]
  have e3:u / 16 ^ (2*k+1)=u / 16 ^ (2*k) / 16:=by rw[Nat.pow_succ,Nat.div_div_eq_div_mul]
  rw[e2,e1,e3];have e4:u / 16 ^ (2*k) % 256 / 16=u / 16 ^ (2*k) / 16 % 16:=by omega
  have e5:u / 16 ^ (2*k) % 256 % 16=u / 16 ^ (2*k) % 16:=by omega
  rw[e4,e5]
theorem f8(x:Nat):IntKind.u8.wrap (((x:Int)).tmod 256)=((x % 256:Nat):Int):=by
 rw[Int.tmod_eq_emod_of_nonneg (by omega)];simp[IntKind.wrap,IntKind.signed,IntKind.bits]
theorem b05(x:Nat)(h:x<18446744073709551616):wU (((x:Int)).tdiv 256)=((x / 256:Nat):Int):=by
 rw[Int.tdiv_eq_ediv_of_nonneg (by omega),wU,DO (by omega)];omega
theorem a52(u:Nat)(hu:u<18446744073709551616):∀n k:Nat,8 - k=n->k<=8->OX k (FB k u) ((u / 256 ^ k:Nat):Int) (Hv u):=by
 intro n
 induction n with
 |zero=>
  intro k h1 h2;have hk:k=8:=by omega
  subst hk;refine fH _ _ _ _ ⟨λh=>absurd (of_decide_eq_true h) (by omega),λ_=>⟨_,xl (gB 8 u),_,lV _ (by rw[a7i,SB];omega),?_⟩⟩;unfold Hv Bx QG;rw[<-iR u 8]
 |succ n ih=>
  intro k h1 h2;have hl:u / 256 ^ k<18446744073709551616:=Nat.lt_of_le_of_lt (Nat.div_le_self _ _) hu;have e1:=f8 (u / 256 ^ k)
  have e2:wU ((((u / 256 ^ k:Nat):Int)).tdiv 256)=((u / 256 ^ (k+1):Nat):Int):=by
   rw[b05 _ hl,Nat.pow_succ,Nat.div_div_eq_div_mul]
  have hi:=ih (k+1) (by omega) (by omega);have e3:wI ((k:Int)+1)=((k+1:Nat):Int):=by rw[wI,C0 (by omega)];omega
  refine fH _ _ _ _ ⟨λ_=>?_,λh=>absurd (of_decide_eq_false h) (by omega)⟩;rw[e1,e2,e3];refine⟨λh=>⟨by simp,?_⟩,λh=>⟨?_,h,hi⟩⟩
  ·have hk:k=0:=by have:=SB k u;rw[h]at this;simpa using this.symm
   subst hk;exact hi
  ·rw[SB];simp only[List.length_cons,List.length_nil];omega
theorem a4o(u:Nat)(hu:u<18446744073709551616):Yp u (Hv u):=by
 refine xf _ _ ?_;have:=a52 u hu 8 0 rfl (by omega);simpa[FB]using this
theorem a32:∀u:Nat,u<16 ^ Y2 u:=by
 intro u
 induction u using Nat.strongRecOn with
 |_ u ih=>
  rw[Y2];split
  ·rename_i h;simpa using h
  ·rename_i h;have:=ih (u / 16) (by omega);rw[Nat.pow_succ];omega
theorem aP:∀(n u:Nat),u<16 ^ (n+1)->Y2 u<=n+1
 |0,u,h=>by rw[Y2,dif_pos (by simpa using h)];omega
 |n+1,u,h=>by
  rw[Y2];split
  ·omega
  ·have:=aP n (u / 16) (by rw[Nat.pow_succ]at h;omega);omega
theorem qJ(m u:Nat)(hm:u<16 ^ m):∀k,Z8 (m+k) u=List.replicate k 48++Z8 m u
 |0=>rfl
 |k+1=>by
  have h0:u / 16 ^ (m+k)=0:=Nat.div_eq_of_lt (Nat.lt_of_lt_of_le hm (Nat.pow_le_pow_right (by decide) (by omega)));show CA (u / 16 ^ (m+k) % 16)::Z8 (m+k) u=_;rw[h0,qJ m u hm k];rfl
theorem AF(n:Nat)(b:UInt8):(bR n b).size=n:=by show(List.replicate n b).toArray.size=n;simp
theorem wg(u:Nat)(hu:u<18446744073709551616):bR (16 - Y2 u) 48++Ji u=Hv u:=by
 have h1:=a32 u;have h2:Y2 u<=16:=aP 15 u (by simpa using hu);have:=qJ (Y2 u) u h1 (16 - Y2 u);rw[show Y2 u+(16 - Y2 u)=16 by omega]at this;apply ByteArray.ext;rw[ByteArray.data_append];unfold Hv bR Ji;rw[this];simp
theorem PL(u:Nat)(h:u<10):Y1 u=⟨#[UInt8.ofNat (48+u)]⟩:=by unfold Y1;rw[Lib.decDigits,dif_pos h]
theorem iE(u:Nat)(h:¬u<10):Y1 u=Y1 (u / 10)++⟨#[UInt8.ofNat (48+u % 10)]⟩:=by
 apply ByteArray.ext;rw[ByteArray.data_append];unfold Y1;rw[Lib.decDigits,dif_neg h];simp
theorem oO(u:Nat)(hu:u<18446744073709551616):([(IntKind.u8.wrap (wU (48+((u:Int)).tmod 10)))]:b4c Int)=bI ⟨#[UInt8.ofNat (48+u % 10)]⟩:=by
 rw[Int.tmod_eq_emod_of_nonneg (by omega),wU,DO (by omega)];have e:IntKind.u8.wrap (48+(u:Int) % 10)=((48+u % 10:Nat):Int):=by simp[IntKind.wrap,IntKind.signed,IntKind.bits];omega
 rw[e];have e2:(UInt8.ofNat (48+u % 10)).toNat=48+u % 10:=UInt8.toNat_ofNat_of_lt' (by simp[UInt8.size];omega);simp[bI,e2];omega
theorem uW:∀(n u:Nat) (acc:b4b),u<10 ^ (n+1)->u<18446744073709551616->acc.size+n<=1000->TV (⟨#[UInt8.ofNat (48+u % 10)]⟩++acc) u (Y1 u++acc):=by
 intro n
 induction n with
 |zero=>
  intro u acc h1 h2 h3;have h10:u<10:=by simpa using h1
  refine qL _ _ _ ⟨λh=>absurd (of_decide_eq_true h) (by omega),λ_=>?_⟩;rw[PL u h10,Nat.mod_eq_of_lt h10]
 |succ n ih=>
  intro u acc h1 h2 h3;refine qL _ _ _ ⟨λh=>?_,λh=>?_⟩
  ·have h10:¬u<10:=by have:=of_decide_eq_true h;omega
   have e1:wU (((u:Int)).tdiv 10)=((u / 10:Nat):Int):=by
    rw[Int.tdiv_eq_ediv_of_nonneg (by omega),wU,DO (by omega)];omega
   rw[e1];refine⟨_,oO (u / 10) (by omega),?_,?_⟩
   ·rw[H5,show(⟨#[UInt8.ofNat (48+u / 10 % 10)]⟩:b4b).size=1 from rfl,show(⟨#[UInt8.ofNat (48+u % 10)]⟩:b4b).size=1 from rfl];omega
   ·rw[iE u h10,CF];exact ih (u / 10) _ (by rw[Nat.pow_succ]at h1;omega) (by omega) (by rw[H5,show(⟨#[UInt8.ofNat (48+u % 10)]⟩:b4b).size=1 from rfl];omega)
  ·have h10:u<10:=by have:=of_decide_eq_false h;omega
   rw[PL u h10,Nat.mod_eq_of_lt h10]
theorem Fc(a:b4b):a++(⟨#[]⟩:b4b)=a:=by apply ByteArray.ext;simp[ByteArray.data_append]
theorem mD(u:Nat)(hu:u<18446744073709551616):LG u (Y1 u):=by
 refine tX _ _ ⟨_,oO u hu,?_⟩;have:=uW 19 u ⟨#[]⟩ (by omega) hu (by decide);rw[Fc,Fc]at this;exact this
abbrev hI(x y:Int):Int:=wI ((wU (wI (x+y))).fdiv (2 ^ min (1:Int).toNat IntKind.u64.bits))
structure FD(α:Type)(C:α->α->Int->Prop) where
 Mo:Int->Nat->Int->Int->Int->List α->List α->Prop
 sw:Nat->List α->Int->Int->Int->List α->Prop
 Kl:Int->Int->Nat->Int->List α->List α->Prop
 ro:Nat->List α->Int->Int->Int->List α->Prop
 Mf:Int->Int->Nat->Int->Int->List α->List α->Prop
 Ke:Int->Nat->Int->Int->List α->List α->Prop
 ins:Nat->List α->Int->Int->List α->Prop
 Mk:Int->Int->Nat->List α->List α->Prop
 Km:Int->Int->Nat->Int->List α->List α->Prop
 Mq:Int->Int->Nat->List α->List α->Prop
 KZ:Int->Int->Nat->Int->List α->List α->Prop
 Ko:Int->Int->Int->Int->Nat->List α->List α->Prop
 Kp:Int->Int->Int->Int->Nat->List α->List α->Prop
 Iv:Int->Int->Int->Int->Int->Nat->List α->List α->Prop
 QZ:Int->Int->Int->Int->Int->Nat->List α->List α->Prop
 sy:Nat->List α->Int->Int->Int->List α->Prop
 Ml:Int->Int->Int->Nat->Int->List α->List α->Prop
 Ft:Int->Nat->Int->List α->List α->Prop
 Mp:Int->Int->Nat->Int->List α->List α->Prop
 st:Nat->List α->Int->List α->Prop
 so:Nat->List α->List α->Prop
 WE:∀i (n0:Nat) a b n l r,((decide (i<n))=true->(0<=(wI (b+i))/\(wI (b+i))<(n0:Int))/\(∃y3,l[(wI (b+i)).toNat]? =some y3/\((0<=(wI (a+i))/\(wI (a+i))<(n0:Int))/\(∃y4,l[(wI (a+i)).toNat]? =some y4/\((0<=(wI (a+i))/\(wI (a+i))<(n0:Int))/\((wI (a+i)).toNat<l.length/\((0<=(wI (b+i))/\(wI (b+i))<(n0:Int))/\((wI (b+i)).toNat<(l.set (wI (a+i)).toNat y3).length/\(Mo (wI (i+1)) n0 a b n ((l.set (wI (a+i)).toNat y3).set (wI (b+i)).toNat y4) r)))))))))/\((decide (i<n))=false->l≠[]/\r=l)->Mo i n0 a b n l r
 dW:∀(n0:Nat) data a b n r,Mo 0 n0 a b n data r->sw n0 data a b n r
 QU:∀j i (n0:Nat) m l r,((i !=j)=true->((decide (j<i))=true->∃y5,sw n0 l (wI (m - i)) m j y5/\(l≠[]/\y5≠[])/\(Kl j (wI (i - j)) n0 m y5 r))/\((decide (j<i))=false->∃y6,sw n0 l (wI (m - i)) (wI ((wI (m+j)) - i)) i y6/\(l≠[]/\y6≠[])/\(Kl (wI (j - i)) i n0 m y6 r)))/\((i !=j)=false->∃y4,sw n0 l (wI (m - i)) m i y4/\(l≠[]/\y4≠[])/\(y4≠[]/\r=y4))->Kl j i n0 m l r
 dX:∀(n0:Nat) data a m b r,Kl (wI (b - m)) (wI (m - a)) n0 m data r->ro n0 data a m b r
 QX:∀j i (n0:Nat) a b l r,(∃R8:Bool->Prop,(∀z:Bool,R8 z->((z=true->(0<=(wI (j - 1))/\(wI (j - 1))<(n0:Int))/\(∃y19,l[(wI (j - 1)).toNat]? =some y19/\((0<=j/\j<(n0:Int))/\(∃y20,l[j.toNat]? =some y20/\((0<=j/\j<(n0:Int))/\(j.toNat<l.length/\((0<=(wI (j - 1))/\(wI (j - 1))<(n0:Int))/\((wI (j - 1)).toNat<(l.set j.toNat y19).length/\(Mf (wI (j - 1)) i n0 a b ((l.set j.toNat y19).set (wI (j - 1)).toNat y20) r)))))))))/\(z=false->Ke (wI (i+1)) n0 a b l r)))/\(((decide (a<j))=true->(0<=j/\j<(n0:Int))/\(∃y16,l[j.toNat]? =some y16/\((0<=(wI (j - 1))/\(wI (j - 1))<(n0:Int))/\(∃y17,l[(wI (j - 1)).toNat]? =some y17/\(∃y18,C y16 y17 y18/\(R8 (decide (y18<0))))))))/\((decide (a<j))=false->R8 false)))->Mf j i n0 a b l r
 QJ:∀i (n0:Nat) a b l r,((decide (i<b))=true->Mf i i n0 a b l r)/\((decide (i<b))=false->l≠[]/\r=l)->Ke i n0 a b l r
 WS:∀(n0:Nat) data a b r,Ke (wI (a+1)) n0 a b data r->ins n0 data a b r
 WI:∀k i (n0:Nat) l r,((decide (k<(wI (i - 1))))=true->(0<=(wI (k+1))/\(wI (k+1))<(n0:Int))/\(∃y10,l[(wI (k+1)).toNat]? =some y10/\((0<=k/\k<(n0:Int))/\(∃y11,l[k.toNat]? =some y11/\((0<=k/\k<(n0:Int))/\(k.toNat<l.length/\((0<=(wI (k+1))/\(wI (k+1))<(n0:Int))/\((wI (k+1)).toNat<(l.set k.toNat y10).length/\(Mk (wI (k+1)) i n0 ((l.set k.toNat y10).set (wI (k+1)).toNat y11) r)))))))))/\((decide (k<(wI (i - 1))))=false->l≠[]/\r=l)->Mk k i n0 l r
 QO:∀j i (n0:Nat) a data r,((decide (i<j))=true->(0<=(hI i j)/\(hI i j)<(n0:Int))/\(∃y12,data[(hI i j).toNat]? =some y12/\((0<=a/\a<(n0:Int))/\(∃y13,data[a.toNat]? =some y13/\(∃y14,C y12 y13 y14/\(((decide (y14<0))=true->Km j (wI ((hI i j)+1)) n0 a data r)/\((decide (y14<0))=false->Km (hI i j) i n0 a data r)))))))/\((decide (i<j))=false->Mk a i n0 data r)->Km j i n0 a data r
 WF:∀k i (n0:Nat) l r,((decide (i<k))=true->(0<=(wI (k - 1))/\(wI (k - 1))<(n0:Int))/\(∃y24,l[(wI (k - 1)).toNat]? =some y24/\((0<=k/\k<(n0:Int))/\(∃y25,l[k.toNat]? =some y25/\((0<=k/\k<(n0:Int))/\(k.toNat<l.length/\((0<=(wI (k - 1))/\(wI (k - 1))<(n0:Int))/\((wI (k - 1)).toNat<(l.set k.toNat y24).length/\(Mq (wI (k - 1)) i n0 ((l.set k.toNat y24).set (wI (k - 1)).toNat y25) r)))))))))/\((decide (i<k))=false->l≠[]/\r=l)->Mq k i n0 l r
 QT:∀j i (n0:Nat) m data r,((decide (i<j))=true->(0<=m/\m<(n0:Int))/\(∃y26,data[m.toNat]? =some y26/\((0<=(hI i j)/\(hI i j)<(n0:Int))/\(∃y27,data[(hI i j).toNat]? =some y27/\(∃y28,C y26 y27 y28/\(((!(decide (y28<0)))=true->KZ j (wI ((hI i j)+1)) n0 m data r)/\((!(decide (y28<0)))=false->KZ (hI i j) i n0 m data r)))))))/\((decide (i<j))=false->Mq m i n0 data r)->KZ j i n0 m data r
 WO:∀a b m s (n0:Nat) l r,(((decide ((hI a b)<(wI ((wI ((hI a b)+m)) - s))))&&(decide ((wI ((wI ((hI a b)+m)) - s))<b)))=true->∃y65,sy n0 l (hI a b) (wI ((wI ((hI a b)+m)) - s)) b y65/\(l≠[]/\y65≠[])/\(y65≠[]/\r=y65))/\(((decide ((hI a b)<(wI ((wI ((hI a b)+m)) - s))))&&(decide ((wI ((wI ((hI a b)+m)) - s))<b)))=false->l≠[]/\r=l)->Ko a b m s n0 l r
 WK:∀a b m s (n0:Nat) l r,(((decide (a<s))&&(decide (s<(hI a b))))=true->∃y63,sy n0 l a s (hI a b) y63/\(l≠[]/\y63≠[])/\(Ko a b m s n0 y63 r))/\(((decide (a<s))&&(decide (s<(hI a b))))=false->Ko a b m s n0 l r)->Kp a b m s n0 l r
 QS:∀a b m t s (n0:Nat) data r,((decide (s<t))=true->(0<=(wI ((wI ((wI ((hI a b)+m)) - 1)) - (hI s t)))/\(wI ((wI ((wI ((hI a b)+m)) - 1)) - (hI s t)))<(n0:Int))/\(∃y66,data[(wI ((wI ((wI ((hI a b)+m)) - 1)) - (hI s t))).toNat]? =some y66/\((0<=(hI s t)/\(hI s t)<(n0:Int))/\(∃y67,data[(hI s t).toNat]? =some y67/\(∃y68,C y66 y67 y68/\(((!(decide (y68<0)))=true->Iv a b m t (wI ((hI s t)+1)) n0 data r)/\((!(decide (y68<0)))=false->Iv a b m (hI s t) s n0 data r)))))))/\((decide (s<t))=false->(((decide (s<m))&&(decide (m<(wI ((wI ((hI a b)+m)) - s)))))=true->∃y59,ro n0 data s m (wI ((wI ((hI a b)+m)) - s)) y59/\(data≠[]/\y59≠[])/\(Kp a b m s n0 y59 r))/\(((decide (s<m))&&(decide (m<(wI ((wI ((hI a b)+m)) - s)))))=false->Kp a b m s n0 data r))->Iv a b m t s n0 data r
 WP:∀t s a b m (n0:Nat) data r,Iv a b m t s n0 data r->QZ t s a b m n0 data r
 Me:∀(n0:Nat) data a m b r,(((wI (m - a))==1)=true->Km b m n0 a data r)/\(((wI (m - a))==1)=false->(((wI (b - m))==1)=true->KZ m a n0 m data r)/\(((wI (b - m))==1)=false->((decide ((hI a b)<m))=true->QZ (hI a b) (wI ((wI ((hI a b)+m)) - b)) a b m n0 data r)/\((decide ((hI a b)<m))=false->QZ m a a b m n0 data r)))->sy n0 data a m b r
 Mi:∀e a k (n0:Nat) n l r,((decide (e<=n))=true->∃y19,sy n0 l a (wI (a+k)) e y19/\(l≠[]/\y19≠[])/\(Ml (wI (e+(wI (2*k)))) e k n0 n y19 r))/\((decide (e<=n))=false->((decide ((wI (a+k))<n))=true->∃y18,sy n0 l a (wI (a+k)) n y18/\(l≠[]/\y18≠[])/\(Ft (wI (k*2)) n0 n y18 r))/\((decide ((wI (a+k))<n))=false->Ft (wI (k*2)) n0 n l r))->Ml e a k n0 n l r
 QW:∀k (n0:Nat) n l r,((decide (k<n))=true->Ml (wI (2*k)) 0 k n0 n l r)/\((decide (k<n))=false->l≠[]/\r=l)->Ft k n0 n l r
 QH:∀e a (n0:Nat) n l r,((decide (e<=n))=true->∃y20,ins n0 l a e y20/\(l≠[]/\y20≠[])/\(Mp (wI (e+20)) e n0 n y20 r))/\((decide (e<=n))=false->∃y11,ins n0 l a n y11/\(l≠[]/\y11≠[])/\(Ft 20 n0 n y11 r))->Mp e a n0 n l r
 dY:∀(n0:Nat) data n r,Mp 20 0 n0 n data r->st n0 data n r
 dq:∀(n0:Nat) x r,(∃y1,st n0 x (n0:Int) y1/\(x≠[]/\y1≠[])/\(y1≠[]/\r=y1))->so n0 x r
section
variable {α:Type}{C:α->α->Int->Prop}
theorem SJ(A B D:b4c α)(p q:α){i j:Nat}(hi:i=A.length)(hj:j=A.length+1+B.length):(A++p::(B++q::D))[i]? =some p/\(A++p::(B++q::D))[j]? =some q/\((A++p::(B++q::D)).set i q).set j p=A++q::(B++p::D)/\((A++p::(B++q::D)).set j p).set i q=A++q::(B++p::D):=by
 subst hi hj;have e1:(A++p::(B++q::D))[A.length]? =some p:=by simp
 have e2:∀x:α,(A++x::(B++q::D))[A.length+1+B.length]? =some q:=by
  intro x;rw[b30 (by omega),show A.length+1+B.length - A.length=B.length+1 by omega,List.getElem?_cons_succ];simp
 have s1:∀(x y:α) (Z:b4c α),(A++x::Z).set A.length y=A++y::Z:=by
  intro x y Z;rw[List.set_append_right _ _ (Nat.le_refl _),Nat.sub_self];rfl
 have s2:∀(x y z:α),(A++x::(B++y::D)).set (A.length+1+B.length) z=A++x::(B++z::D):=by
  intro x y z;rw[List.set_append_right _ _ (by omega),show A.length+1+B.length - A.length=B.length+1 by omega,List.set_cons_succ,List.set_append_right _ _ (Nat.le_refl _),Nat.sub_self];rfl
 exact⟨e1,e2 p,by rw[s1,s2],by rw[s2,s1]⟩
variable (F:FD α C)
theorem iJ(n0:Nat)(hn:n0<=1125899906842624)(X M Y:b4c α)(a b n:Nat)(ha:a=X.length):∀(P2 Q2 P1 Q1:b4c α),P2.length=Q2.length->P1.length=Q1.length->n=P1.length+P2.length->b=a+n+M.length->n0=b+n+Y.length->0<n0->
  F.Mo (P1.length:Nat) n0 a b n (X++Q1++P2++M++P1++Q2++Y) (X++Q1++Q2++M++P1++P2++Y)
 |[],Q2,P1,Q1,h1,h2,h3,h4,h5,h6=>by
  have:Q2=[]:=List.eq_nil_of_length_eq_zero (by simpa using h1.symm);subst this;have h7:([]:b4c α).length=0:=rfl;rw[h7]at h3;refine F.WE _ _ _ _ _ _ _ ⟨λh=>?_,λ_=>⟨?_,by simp⟩⟩
  ·have:=of_decide_eq_true h;omega
  ·intro h0;have:=congrArg List.length h0;simp only[b39,h7]at this h2;omega
 |p::P2,Q2,P1,Q1,h1,h2,h3,h4,h5,h6=>by
  obtain⟨q,Q2,rfl⟩:∃q Q,Q2=q::Q:=by
   cases Q2 with
   |nil=>simp at h1
   |cons q Q=>exact⟨q,Q,rfl⟩
  simp only[List.length_cons]at h1 h3;have e1:wI ((a:Int)+(P1.length:Nat))=((a+P1.length:Nat):Int):=by rw[wI,C0 (by omega)];omega
  have e2:wI ((b:Int)+(P1.length:Nat))=((b+P1.length:Nat):Int):=by rw[wI,C0 (by omega)];omega
  have e3:wI (((P1.length:Nat):Int)+1)=(((P1++[p]).length:Nat):Int):=by rw[wI,C0 (by omega)];simp
  have hl:X++Q1++(p::P2)++M++P1++(q::Q2)++Y=(X++Q1)++p::((P2++M++P1)++q::(Q2++Y)):=by simp
  obtain⟨s1,s2,s3,_⟩:=SJ (X++Q1) (P2++M++P1) (Q2++Y) p q (i:=a+P1.length) (j:=b+P1.length) (by simp;omega) (by simp;omega);have ih:=iJ n0 hn X M Y a b n ha P2 Q2 (P1++[p]) (Q1++[q]) (by omega) (by simp;omega) (by simp;omega) h4 h5 h6;have hlen:(X++Q1++(p::P2)++M++P1++(q::Q2)++Y).length=n0:=by simp;omega
  refine F.WE _ _ _ _ _ _ _ ⟨λ_=>?_,λh=>by simp at h;omega⟩;rw[e1,e2,e3,Int.toNat_natCast,Int.toNat_natCast];refine⟨by omega,q,by rw[hl];exact s2,by omega,p,by rw[hl];exact s1,by omega,by rw[hlen];omega,by omega,by rw[List.length_set,hlen];omega,?_⟩;rw[hl,s3];have g1:(X++Q1)++q::((P2++M++P1)++p::(Q2++Y))=X++(Q1++[q])++P2++M++(P1++[p])++Q2++Y:=by simp
  have g2:X++Q1++(q::Q2)++M++P1++(p::P2)++Y=X++(Q1++[q])++Q2++M++(P1++[p])++P2++Y:=by simp
  rw[g1,g2];exact ih
theorem ak{n0:Nat}(hn:n0<=1125899906842624)(X P M Q Y:b4c α){a b n:Nat}(ha:a=X.length)(hp:n=P.length)(hq:n=Q.length)(hb:b=a+n+M.length)(h0:n0=b+n+Y.length)(h1:0<n0):F.sw n0 (X++P++M++Q++Y) a b n (X++Q++M++P++Y):=by
 have:=iJ F n0 hn X M Y a b n ha P Q [] [] (by omega) rfl (by simp;omega) hb h0 h1;exact F.dW _ _ _ _ _ _ (by simpa using this)
theorem vR(n0:Nat)(hn:n0<=1125899906842624):∀(k:Nat) (X A B Y:b4c α) (m:Nat),A.length+B.length<=k->A≠[]->B≠[]->m=X.length+A.length->n0=m+B.length+Y.length->F.Kl (B.length:Nat) (A.length:Nat) n0 m (X++A++B++Y) (X++B++A++Y):=by
 intro k
 induction k with
 |zero=>
  intro X A B Y m h hA;exact absurd (List.eq_nil_of_length_eq_zero (by omega)) hA
 |succ k ih=>
  intro X A B Y m hk hA hB hm h0;have a0:=List.length_pos_iff.2 hA;have b0:=List.length_pos_iff.2 hB;have ne:∀{l:b4c α},l.length=n0->l≠[]:=λh h'=>by rw[h']at h;simp at h;omega
  have e1:wI ((m:Int) - (A.length:Nat))=((X.length:Nat):Int):=by rw[wI,C0 (by omega)];omega
  rcases Nat.lt_trichotomy A.length B.length with hlt|heq|hgt
  ·
   have hB2:B=B.take (B.length - A.length)++B.drop (B.length - A.length):=(List.take_append_drop _ _).symm;generalize hb1:B.take (B.length - A.length)=B1 at hB2;generalize hb2:B.drop (B.length - A.length)=B2 at hB2;have l1:B1.length=B.length - A.length:=by rw[<-hb1];simp
   have l2:B2.length=A.length:=by rw[<-hb2];simp;omega
   have e2:wI (wI ((m:Int)+(B.length:Nat)) - (A.length:Nat))=((m+B1.length:Nat):Int):=by
    have:wI ((m:Int)+(B.length:Nat))=(m:Int)+(B.length:Nat):=by rw[wI,C0 (by omega)]
    rw[this,wI,C0 (by omega)];omega
   have e3:wI (((B.length:Nat):Int) - (A.length:Nat))=((B1.length:Nat):Int):=by rw[wI,C0 (by omega)];omega
   have hs:=ak F hn X A B1 B2 Y (a:=X.length) (b:=m+B1.length) (n:=A.length) rfl rfl l2.symm (by omega) (by omega) (by omega);have ih':=ih X B2 B1 (A++Y) m (by omega) (λh=>by rw[h]at l2;simp at l2;omega) (λh=>by rw[h]at l1;simp at l1;omega) (by omega) (by simp;omega);refine F.QU _ _ _ _ _ _ ⟨λ_=>⟨λh=>by simp at h;omega,λ_=>?_⟩,λh=>by simp at h;omega⟩;rw[e1,e2,e3];refine⟨X++B2++B1++A++Y,by rw[hB2];simpa using hs,⟨ne (by simp;omega),ne (by simp;omega)⟩,?_⟩;rw[l2]at ih';have g1:X++B2++B1++A++Y=X++B2++B1++(A++Y):=by simp
   have g2:X++B++A++Y=X++B1++B2++(A++Y):=by rw[hB2];simp
   rw[g1,g2];exact ih'
  ·have hs:=ak F hn X A [] B Y (a:=X.length) (b:=m) (n:=A.length) rfl rfl heq (by simp;omega) (by omega) (by omega);refine F.QU _ _ _ _ _ _ ⟨λh=>by simp at h;omega,λ_=>⟨X++B++A++Y,?_,⟨ne (by simp;omega),ne (by simp;omega)⟩,ne (by simp;omega),rfl⟩⟩;rw[e1];simpa using hs
  ·have hA2:A=A.take B.length++A.drop B.length:=(List.take_append_drop _ _).symm;generalize ha1:A.take B.length=A1 at hA2;generalize ha2:A.drop B.length=A2 at hA2;have l1:A1.length=B.length:=by rw[<-ha1];simp;omega
   have l2:A2.length=A.length - B.length:=by rw[<-ha2];simp
   have e3:wI (((A.length:Nat):Int) - (B.length:Nat))=((A2.length:Nat):Int):=by rw[wI,C0 (by omega)];omega
   have hs:=ak F hn X A1 A2 B Y (a:=X.length) (b:=m) (n:=B.length) rfl l1.symm rfl (by omega) (by omega) (by omega);have ih':=ih (X++B) A2 A1 Y m (by omega) (λh=>by rw[h]at l2;simp at l2;omega) (λh=>by rw[h]at l1;simp at l1;omega) (by simp;omega) (by omega);refine F.QU _ _ _ _ _ _ ⟨λ_=>⟨λ_=>?_,λh=>by simp at h;omega⟩,λh=>by simp at h;omega⟩;rw[e1,e3];refine⟨X++B++A2++A1++Y,by rw[hA2];simpa using hs,⟨ne (by simp;omega),ne (by simp;omega)⟩,?_⟩;rw[l1]at ih';have g2:X++B++A++Y=X++B++A1++A2++Y:=by rw[hA2];simp
   rw[g2];exact ih'
theorem yH{n0:Nat}(hn:n0<=1125899906842624)(X A B Y:b4c α){a m b:Nat}(ha:a=X.length)(hm:m=a+A.length)(hb:b=m+B.length)(h0:n0=b+Y.length)(hA:A≠[])(hB:B≠[]):F.ro n0 (X++A++B++Y) a m b (X++B++A++Y):=by
 have e1:wI ((b:Int) - m)=((B.length:Nat):Int):=by rw[wI,C0 (by omega)];omega
 have e2:wI ((m:Int) - a)=((A.length:Nat):Int):=by rw[wI,C0 (by omega)];omega
 refine F.dX _ _ _ _ _ _ ?_;rw[e1,e2];exact vR F n0 hn _ X A B Y m (Nat.le_refl _) hA hB (by omega) (by omega)
end
structure Pre{α:Type}(cm:α->α->Int)(Dm:α->Prop):Prop where
 sym:∀x y,Dm x->Dm y->(cm x y<0↔0<cm y x)
 trans:∀x y z,Dm x->Dm y->Dm z->cm x y<=0->cm y z<=0->cm x z<=0
def Rt{α:Type}(cm:α->α->Int)(x y:α × Nat):Prop:=cm x.1 y.1<0\/(cm x.1 y.1=0/\x.2<y.2)
section
variable {α:Type}{C:α->α->Int->Prop}{cm:α->α->Int}{Dm:α->Prop}
theorem Pre.zero(hp:Pre cm Dm){x y:α}(hx:Dm x)(hy:Dm y):cm x y=0↔cm y x=0:=by
 have h1:=hp.sym x y hx hy;have h2:=hp.sym y x hy hx;omega
theorem Pre.lt(hp:Pre cm Dm){x y z:α}(hx:Dm x)(hy:Dm y)(hz:Dm z)(h1:cm x y<=0)(h2:cm y z<=0)(h3:cm x y<0\/cm y z<0):cm x z<0:=by
 have h4:=hp.trans x y z hx hy hz h1 h2;rcases Int.lt_or_le (cm x z) 0 with h5|h5
 ·exact h5
 have h6:cm x z=0:=by omega
 have h7:=(hp.zero hx hz).1 h6;rcases h3 with h3|h3
 ·have h8:=hp.trans y z x hy hz hx h2 (by omega);have:=(hp.sym x y hx hy).1 h3;omega
 ·have h8:=hp.trans z x y hz hx hy (by omega) h1;have:=(hp.sym y z hy hz).1 h3;omega
theorem Rt.trans(hp:Pre cm Dm){x y z:α × Nat}(hx:Dm x.1)(hy:Dm y.1)(hz:Dm z.1)(h1:Rt cm x y)(h2:Rt cm y z):Rt cm x z:=by
 unfold Rt at*;rcases h1 with h1|⟨h1,h1'⟩
 ·rcases h2 with h2|⟨h2,_⟩
  ·exact .inl (hp.lt hx hy hz (by omega) (by omega) (.inl h1))
  ·exact .inl (hp.lt hx hy hz (by omega) (by omega) (.inl h1))
 ·rcases h2 with h2|⟨h2,h2'⟩
  ·exact .inl (hp.lt hx hy hz (by omega) (by omega) (.inr h2))
  ·right;have h3:=hp.trans _ _ _ hx hy hz (by omega:cm x.1 y.1<=0) (by omega:cm y.1 z.1<=0);have h4:=hp.trans _ _ _ hz hy hx (by have:=(hp.zero hy hz).1 h2;omega) (by have:=(hp.zero hx hy).1 h1;omega);have h5:=hp.sym z.1 x.1 hz hx;have h6:=hp.sym x.1 z.1 hx hz;omega
theorem Rt.of_not(hp:Pre cm Dm){x y:α × Nat}(hx:Dm x.1)(hy:Dm y.1)(h:¬cm x.1 y.1<0)(ht:y.2<x.2):Rt cm y x:=by
 have h1:=hp.sym y.1 x.1 hy hx;have h2:=hp.zero hx hy;unfold Rt;omega
abbrev I7(cm:α->α->Int)(l:b4c (α × Nat)):Prop:=l.Pairwise (Rt cm)
abbrev fs(l:b4c (α × Nat)):b4c α:=l.map Prod.fst
variable (F:FD α C) (hp:Pre cm Dm) (hC:∀x y,Dm x->Dm y->C x y (cm x y))
 include hp hC
theorem wZ{n0:Nat}(hn:n0<=1125899906842624)(X:b4c (α × Nat))(s:α × Nat)(i:Int)(b:Nat):∀(k:Nat) (U V T:b4c (α × Nat)),U.length=k->n0=X.length+U.length+1+V.length+T.length->(∀x∈U++s::V,Dm x.1)->I7 cm (U++V)->(∀v∈V,Rt cm s v)->(∀u∈U,u.2<s.2)->
  ∃S,I7 cm S/\S.Perm (U++s::V)/\∀r,F.Ke (wI (i+1)) n0 X.length b (fs (X++S++T)) r->F.Mf ((X.length+U.length:Nat):Int) i n0 X.length b (fs (X++U++s::V++T)) r:=by
 intro k
 induction k with
 |zero=>
  intro U V T hU h0 hD hs hv ht;have:U=[]:=List.eq_nil_of_length_eq_zero hU;subst this;refine⟨s::V,List.pairwise_cons.2 ⟨hv,by simpa using hs⟩,by simp,λr hr=>?_⟩;refine F.QX _ _ _ _ _ _ _ ⟨λz=>z=false,λz hz=>⟨λh=>(by rw[hz]at h;cases h),λ_=>by simpa using hr⟩,λh=>?_,λ_=>rfl⟩;simp at h
 |succ k ih=>
  intro U V T hU h0 hD hs hv ht
  obtain⟨U',u,rfl⟩:∃U' u,U=U'++[u]:=by
   rcases List.eq_nil_or_concat U with h|⟨U',u,h⟩
   ·rw[h]at hU;simp at hU
   ·exact⟨U',u,by simpa using h⟩
  have hl':U'.length=k:=by simpa using hU
  have hDs:Dm s.1:=hD s (by simp);have hDu:Dm u.1:=hD u (by simp);have hj:X.length+(U'++[u]).length=X.length+U'.length+1:=by simp;omega
  have e1:wI (((X.length+U'.length+1:Nat):Int) - 1)=((X.length+U'.length:Nat):Int):=by
   simp only[b39,List.length_cons,List.length_nil]at h0;rw[wI,C0 (by omega)];omega
  have hlist:fs (X++(U'++[u])++s::V++T)=fs (X++U')++u.1::(fs ([]:b4c (α × Nat))++s.1::fs (V++T)):=by simp[fs]
  obtain⟨s1,s2,_,s4⟩:=SJ (fs (X++U')) (fs ([]:b4c (α × Nat))) (fs (V++T)) u.1 s.1 (i:=X.length+U'.length) (j:=X.length+U'.length+1) (by simp[fs]) (by simp[fs]);have hlen:(fs (X++(U'++[u])++s::V++T)).length=n0:=by simp[fs]at h0 ⊢;omega
  simp only[b39,List.length_cons,List.length_nil]at h0;have V6:C s.1 u.1 (cm s.1 u.1):=hC _ _ hDs hDu
  by_cases hlt:cm s.1 u.1<0
  ·obtain⟨S,q1,q2,q3⟩:=ih U' (u::V) T hl' (by simp;omega) (λx hx=>hD x (by simp at hx ⊢;grind)) (by simpa using hs) (λv hv'=>by
    rcases List.mem_cons.1 hv' with h|h
    ·rw[h];exact .inl hlt
    ·exact hv v h) (λx hx=>ht x (by simp[hx]))
   refine⟨S,q1,q2.trans (by simp;exact List.Perm.swap _ _ _|>.append_left U'),λr hr=>?_⟩;refine F.QX _ _ _ _ _ _ _ ⟨λz=>z=true,λz hz=>⟨λ_=>?_,λh=>by rw[hz]at h;cases h⟩,λ_=>?_,λh=>?_⟩
   ·simp only[hj,e1,Int.toNat_natCast];refine⟨by omega,u.1,by rw[hlist];exact s1,by simp;omega,s.1,by rw[hlist];exact s2,by simp;omega,by rw[hlen];omega,by omega,by rw[List.length_set,hlen];omega,?_⟩;have g:((fs (X++(U'++[u])++s::V++T)).set (X.length+U'.length+1) u.1).set (X.length+U'.length) s.1=fs (X++U'++s::(u::V)++T):=by rw[hlist,s4];simp[fs]
    rw[g];exact q3 r hr
   ·simp only[hj,e1,Int.toNat_natCast];exact⟨by simp;omega,s.1,by rw[hlist];exact s2,by omega,u.1,by rw[hlist];exact s1,_,V6,decide_eq_true hlt⟩
   ·simp at h;omega
  ·have hus:Rt cm u s:=Rt.of_not hp hDs hDu hlt (ht u (by simp))
   have hall:∀x∈U'++[u],Rt cm x s:=by
    intro x hx;rcases List.mem_append.1 hx with h|h
    ·have hxu:Rt cm x u:=by
      have h2:I7 cm (U'++[u]):=(List.pairwise_append.1 hs).1;exact(List.pairwise_append.1 h2).2.2 x h u (by simp)
     exact Rt.trans hp (hD x (by simp[h])) hDu hDs hxu hus
    ·simp at h;rw[h];exact hus
   refine⟨U'++[u]++s::V,?_,.refl _,λr hr=>?_⟩
   ·obtain⟨h1,h2,h3⟩:=List.pairwise_append.1 hs;refine List.pairwise_append.2 ⟨h1,List.pairwise_cons.2 ⟨hv,h2⟩,λx hx y hy=>?_⟩;rcases List.mem_cons.1 hy with h|h
    ·rw[h];exact hall x hx
    ·exact h3 x hx y h
   ·refine F.QX _ _ _ _ _ _ _ ⟨λz=>z=false,λz hz=>⟨λh=>(by rw[hz]at h;cases h),λ_=>?_⟩,λ_=>?_,λh=>?_⟩
    ·have g:X++(U'++[u])++s::V++T=X++(U'++[u]++s::V)++T:=by simp
     rw[g];exact hr
    ·simp only[hj,e1,Int.toNat_natCast];exact⟨by simp;omega,s.1,by rw[hlist];exact s2,by omega,u.1,by rw[hlist];exact s1,_,V6,decide_eq_false hlt⟩
    ·rfl
theorem nO{n0:Nat}(hn:n0<=1125899906842624)(X Y:b4c (α × Nat))(b:Nat):∀(S2 S1:b4c (α × Nat)),b=X.length+S1.length+S2.length->n0=b+Y.length->0<n0->(∀x∈S1++S2,Dm x.1)->I7 cm S1->(∀x∈S1,∀y∈S2,x.2<y.2)->S2.Pairwise (λx y=>x.2<y.2)->
  ∃S,I7 cm S/\S.Perm (S1++S2)/\F.Ke ((X.length+S1.length:Nat):Int) n0 X.length b (fs (X++S1++S2++Y)) (fs (X++S++Y))
 |[],S1,hb,h0,hpos,hD,hs,ht,hp2=>by
  refine⟨S1,hs,by simp,F.QJ _ _ _ _ _ _ ⟨λh=>?_,λ_=>⟨λh=>?_,by simp⟩⟩⟩
  ·simp at h hb;omega
  ·have:=congrArg List.length h;simp only[fs,List.length_map,b39,List.length_nil]at this hb;omega
 |s::S2,S1,hb,h0,hpos,hD,hs,ht,hp2=>by
  simp only[List.length_cons]at hb;obtain⟨S',q1,q2,q3⟩:=wZ F hp hC hn X s ((X.length+S1.length:Nat):Int) b S1.length S1 [] (S2++Y) rfl (by simp;omega) (λx hx=>hD x (by simp at hx ⊢;grind)) (by simpa using hs) (λv hv=>by cases hv) (λu hu=>ht u hu s (by simp));have hl:S'.length=S1.length+1:=by rw[q2.length_eq];simp
  have mem:∀x,x∈S'↔x∈S1\/x=s:=λx=>by rw[q2.mem_iff];simp
  obtain⟨S,p1,p2,p3⟩:=nO hn X Y b S2 S' (by omega) h0 hpos (λx hx=>hD x (by
    rcases List.mem_append.1 hx with h|h
    ·rcases (mem x).1 h with h|h<;>simp[h]
    ·simp[h])) q1 (λx hx y hy=>by
    rcases (mem x).1 hx with h|h
    ·exact ht x h y (by simp[hy])
    ·rw[h];exact(List.pairwise_cons.1 hp2).1 y hy) (List.pairwise_cons.1 hp2).2
  refine⟨S,p1,p2.trans ?_,F.QJ _ _ _ _ _ _ ⟨λ_=>?_,λh=>by simp at h;omega⟩⟩
  ·exact(q2.append_right S2).trans (by simp)
  ·have e:wI (((X.length+S1.length:Nat):Int)+1)=((X.length+S'.length:Nat):Int):=by rw[wI,C0 (by omega)];omega
   have:=q3 _ (by rw[e];simpa using p3);simpa using this
theorem Xz{n0:Nat}(hn:n0<=1125899906842624)(X S Y:b4c (α × Nat)){a b:Nat}(ha:a=X.length)(hb:b=a+S.length)(h0:n0=b+Y.length)(hpos:0<n0)(hD:∀x∈S,Dm x.1)(ht:S.Pairwise (λx y=>x.2<y.2)):
  ∃S',I7 cm S'/\S'.Perm S/\F.ins n0 (fs (X++S++Y)) a b (fs (X++S'++Y)):=by
 subst ha;have e:wI ((X.length:Int)+1)=((X.length+1:Nat):Int):=by rw[wI,C0 (by omega)];omega
 cases S with
 |nil=>
  refine⟨[],.nil,.refl _,F.WS _ _ _ _ _ ?_⟩;rw[e];refine F.QJ _ _ _ _ _ _ ⟨λh=>?_,λ_=>⟨λh=>?_,rfl⟩⟩
  ·simp at h hb;omega
  ·have:=congrArg List.length h;simp only[fs,List.length_map,b39,List.length_nil]at this hb;omega
 |cons s S2=>
  obtain⟨S,q1,q2,q3⟩:=nO F hp hC hn X Y b S2 [s] (by simp at hb ⊢;omega) h0 hpos (by simpa using hD) (by simp) (λx hx y hy=>by simp at hx;rw[hx];exact(List.pairwise_cons.1 ht).1 y hy) (List.pairwise_cons.1 ht).2;refine⟨S,q1,by simpa using q2,F.WS _ _ _ _ _ ?_⟩;rw[e];simpa using q3
end
theorem JI{a b:Nat}(ha:a<=1125899906842624)(hb:b<=1125899906842624):hI (a:Int) (b:Int)=(((a+b) / 2:Nat):Int):=by
 have e1:wI ((a:Int)+b)=((a+b:Nat):Int):=by rw[wI,C0 (by omega)];omega
 have e2:wU ((a+b:Nat):Int)=((a+b:Nat):Int):=DO (by omega);have e3:(2:Int) ^ min (1:Int).toNat IntKind.u64.bits=2:=by decide+kernel
 unfold hI;rw[e1,e2,e3,Int.fdiv_eq_ediv_of_nonneg _ (by omega),wI,C0 (by omega)];omega
section
variable {α:Type}{C:α->α->Int->Prop}{cm:α->α->Int}{Dm:α->Prop}
theorem SU(X L R:b4c α){i:Nat}(h:i<L.length):(X++L++R)[X.length+i]? =L[i]? :=by
 rw[List.append_assoc,b30 (by omega),show X.length+i - X.length=i by omega,b3z h]
variable (F:FD α C)
theorem jC{n0:Nat}(hn:n0<=1125899906842624)(X R:b4c α)(x:α)(i:Nat):∀(B2 B1:b4c α),i=X.length+B1.length+B2.length+1->n0=i+R.length->F.Mk ((X.length+B1.length:Nat):Int) i n0 (X++B1++x::B2++R) (X++B1++B2++x::R)
 |[],B1,hi,h0=>by
  have e:wI ((i:Int) - 1)=((X.length+B1.length:Nat):Int):=by simp at hi;rw[wI,C0 (by omega)];omega
  refine F.WI _ _ _ _ _ ⟨λh=>?_,λ_=>⟨by simp,by simp⟩⟩;rw[e]at h;simp at h
 |y::B2,B1,hi,h0=>by
  simp only[List.length_cons]at hi;have e:wI ((i:Int) - 1)=((X.length+B1.length+B2.length+1:Nat):Int):=by rw[wI,C0 (by omega)];omega
  have e2:wI (((X.length+B1.length:Nat):Int)+1)=((X.length+(B1++[y]).length:Nat):Int):=by rw[wI,C0 (by omega)];simp;omega
  have e3:((X.length+(B1++[y]).length:Nat):Int).toNat=X.length+B1.length+1:=by simp;omega
  have hl:X++B1++x::(y::B2)++R=(X++B1)++x::(([]:b4c α)++y::(B2++R)):=by simp
  obtain⟨s1,s2,s3,s4⟩:=SJ (X++B1) [] (B2++R) x y (i:=X.length+B1.length) (j:=X.length+B1.length+1) (by simp) (by simp);have ih:=jC hn X R x i B2 (B1++[y]) (by simp;omega) h0;have hlen:(X++B1++x::(y::B2)++R).length=n0:=by simp;omega
  refine F.WI _ _ _ _ _ ⟨λ_=>?_,λh=>by rw[e]at h;simp at h;omega⟩;rw[e2,e3,Int.toNat_natCast];refine⟨by simp;omega,y,by rw[hl];exact s2,by omega,x,by rw[hl];exact s1,by omega,by rw[hlen];omega,by simp;omega,by rw[List.length_set,hlen];omega,?_⟩;rw[hl,s3];have g1:(X++B1)++y::(([]:b4c α)++x::(B2++R))=X++(B1++[y])++x::B2++R:=by simp
  have g2:X++B1++(y::B2)++x::R=X++(B1++[y])++B2++x::R:=by simp
  rw[g1,g2];exact ih
theorem a19{n0:Nat}(hn:n0<=1125899906842624)(X R:b4c α)(y:α)(i:Nat)(hi:i=X.length):∀(k:Nat) (A1 A2:b4c α),A1.length=k->n0=X.length+A1.length+1+A2.length+R.length->F.Mq ((X.length+A1.length:Nat):Int) i n0 (X++A1++y::A2++R) (X++y::A1++A2++R):=by
 intro k
 induction k with
 |zero=>
  intro A1 A2 h1 h0;have:A1=[]:=List.eq_nil_of_length_eq_zero h1;subst this;refine F.WF _ _ _ _ _ ⟨λh=>?_,λ_=>⟨by simp,by simp⟩⟩;simp at h;omega
 |succ k ih=>
  intro A1 A2 h1 h0
  obtain⟨A1',z,rfl⟩:∃U' u,A1=U'++[u]:=by
   rcases List.eq_nil_or_concat A1 with h|⟨U',u,h⟩
   ·rw[h]at h1;simp at h1
   ·exact⟨U',u,by simpa using h⟩
  have hl':A1'.length=k:=by simpa using h1
  have hlen:(X++(A1'++[z])++y::A2++R).length=n0:=by simp at h0 ⊢;omega
  simp only[b39,List.length_cons,List.length_nil]at h0
  have e2:wI (((X.length+(A1'++[z]).length:Nat):Int) - 1)=((X.length+A1'.length:Nat):Int):=by
   simp only[b39,List.length_cons,List.length_nil];rw[wI,C0 (by omega)];omega
  have e3:((X.length+(A1'++[z]).length:Nat):Int).toNat=X.length+A1'.length+1:=by simp;omega
  have hl:X++(A1'++[z])++y::A2++R=(X++A1')++z::(([]:b4c α)++y::(A2++R)):=by simp
  obtain⟨s1,s2,s3,s4⟩:=SJ (X++A1') [] (A2++R) z y (i:=X.length+A1'.length) (j:=X.length+A1'.length+1) (by simp) (by simp);have ih':=ih A1' (z::A2) hl' (by simp;omega);refine F.WF _ _ _ _ _ ⟨λ_=>?_,λh=>by simp at h;omega⟩;rw[e2,e3,Int.toNat_natCast];refine⟨by omega,z,by rw[hl];exact s1,by simp;omega,y,by rw[hl];exact s2,by simp;omega,by rw[hlen];omega,by omega,by rw[List.length_set,hlen];omega,?_⟩;rw[hl,s4];have g1:(X++A1')++y::(([]:b4c α)++z::(A2++R))=X++A1'++y::(z::A2)++R:=by simp
  have g2:X++y::(A1'++[z])++A2++R=X++y::A1'++(z::A2)++R:=by simp
  rw[g1,g2];exact ih'
variable (hp:Pre cm Dm) (hC:∀x y,Dm x->Dm y->C x y (cm x y))
 include hp hC
theorem wb{n0:Nat}(hn:n0<=1125899906842624)(X B Y:b4c (α × Nat))(x:α × Nat)(hx:Dm x.1)(hB:∀y∈B,Dm y.1)(hs:I7 cm B)(ht:∀y∈B,x.2<y.2)(h0:n0=X.length+1+B.length+Y.length):∀(k p q:Nat),q - p<=k->p<=q->q<=B.length->(∀y∈B.take p,Rt cm y x)->(∀y∈B.drop q,Rt cm x y)->
  ∃S,I7 cm S/\S.Perm (x::B)/\F.Km ((X.length+1+q:Nat):Int) ((X.length+1+p:Nat):Int) n0 X.length (fs (X++x::B++Y)) (fs (X++S++Y)):=by
 intro k
 induction k with
 |zero=>
  intro p q h1 h2 h3 hP hQ;obtain rfl:p=q:=by omega
  refine⟨B.take p++x::B.drop p,?_,?_,?_⟩
  ·refine List.pairwise_append.2 ⟨hs.sublist (List.take_sublist _ _),List.pairwise_cons.2 ⟨hQ,hs.sublist (List.drop_sublist _ _)⟩,λa ha b hb=>?_⟩;rcases List.mem_cons.1 hb with h|h
   ·rw[h];exact hP a ha
   ·exact Rt.trans hp (hB a (List.mem_of_mem_take ha)) hx (hB b (List.mem_of_mem_drop h)) (hP a ha) (hQ b h)
  ·exact List.perm_middle.trans (by rw[List.take_append_drop])
  ·refine F.QO _ _ _ _ _ _ ⟨λh=>by simp at h,λ_=>?_⟩;have hlt:(B.take p).length=p:=by simp;omega
   have:=jC F hn (fs X) (fs (B.drop p++Y)) x.1 (X.length+1+p) (fs (B.take p)) [] (by simp[fs];omega) (by simp[fs];omega)
   have g1:fs X++[]++x.1::fs (B.take p)++fs (B.drop p++Y)=fs (X++x::B++Y):=by
    have e:B.take p++(B.drop p++Y)=B++Y:=by rw[<-List.append_assoc,List.take_append_drop]
    have e2:fs (X++x::B++Y)=fs X++x.1::fs (B++Y):=by simp[fs]
    rw[e2,<-e];simp only[fs,List.map_append,List.append_nil,List.cons_append,List.append_assoc]
   have g2:fs X++[]++fs (B.take p)++x.1::fs (B.drop p++Y)=fs (X++(B.take p++x::B.drop p)++Y):=by simp[fs]
   rw[g1,g2]at this;simpa[fs]using this
 |succ k ih=>
  intro p q h1 h2 h3 hP hQ
  by_cases hpq:p=q
  ·exact ih p q (by omega) h2 h3 hP hQ
  ·have hh:hI ((X.length+1+p:Nat):Int) ((X.length+1+q:Nat):Int)=((X.length+1+(X.length+1+p+(X.length+1+q)) / 2 - (X.length+1):Nat):Int):=by
    rw[JI (by omega) (by omega)];congr 1;omega
   generalize hm:(X.length+1+p+(X.length+1+q)) / 2 - (X.length+1)=m at hh;have hm1:p<=m/\m<q:=by omega
   have hh':hI ((X.length+1+p:Nat):Int) ((X.length+1+q:Nat):Int)=((X.length+1+m:Nat):Int):=by rw[hh];congr 1;omega
   have hy:B[m]? =some B[m]:=b3y (by omega);generalize B[m]=y at hy;have hyB:y∈B:=b36 hy;have gx:(fs (X++x::B++Y))[X.length]? =some x.1:=by simp[fs]
   have gy:(fs (X++x::B++Y))[X.length+1+m]? =some y.1:=by
    have:fs (X++x::B++Y)=fs (X++[x])++fs B++fs Y:=by simp[fs]
    rw[this,show X.length+1+m=(fs (X++[x])).length+m by simp[fs],SU _ _ _ (by simp[fs];omega)];simp[fs,hy]
   have e1:wI (((X.length+1+m:Nat):Int)+1)=((X.length+1+(m+1):Nat):Int):=by rw[wI,C0 (by omega)];omega
   have V6:C y.1 x.1 (cm y.1 x.1):=hC _ _ (hB y hyB) hx
   by_cases hlt:cm y.1 x.1<0
   ·obtain⟨S,q1,q2,q3⟩:=ih (m+1) q (by omega) (by omega) h3 (λz hz=>by
     obtain⟨t,ht1⟩:=List.mem_iff_getElem?.1 hz;rw[List.getElem?_take]at ht1;split at ht1
     ·rename_i htm
      by_cases e:t=m
      ·subst e;rw[hy]at ht1;cases ht1;exact .inl hlt
      ·have hzy:Rt cm z y:=by
        obtain⟨l1,g1⟩:=List.getElem?_eq_some_iff.1 ht1;obtain⟨l2,g2⟩:=List.getElem?_eq_some_iff.1 hy;rw[<-g1,<-g2];exact List.pairwise_iff_getElem.1 hs t m l1 l2 (by omega)
       exact Rt.trans hp (hB z (b36 ht1)) (hB y hyB) hx hzy (.inl hlt)
     ·cases ht1) hQ
    refine⟨S,q1,q2,F.QO _ _ _ _ _ _ ⟨λ_=>?_,λh=>by simp at h;omega⟩⟩;rw[hh',e1];exact⟨by omega,y.1,by rw[Int.toNat_natCast];exact gy,by omega,x.1,by rw[Int.toNat_natCast];exact gx,_,V6,λ_=>q3,λh=>by simp at h;omega⟩
   ·obtain⟨S,q1,q2,q3⟩:=ih p m (by omega) (by omega) (by omega) hP (λz hz=>by
     have hxy:Rt cm x y:=Rt.of_not hp (hB y hyB) hx hlt (ht y hyB);obtain⟨t,ht1⟩:=List.mem_iff_getElem?.1 hz;rw[List.getElem?_drop]at ht1
     by_cases e:t=0
     ·subst e;rw[Nat.add_zero,hy]at ht1;cases ht1;exact hxy
     ·have hyz:Rt cm y z:=by
       obtain⟨l1,g1⟩:=List.getElem?_eq_some_iff.1 ht1;obtain⟨l2,g2⟩:=List.getElem?_eq_some_iff.1 hy;rw[<-g1,<-g2];exact List.pairwise_iff_getElem.1 hs m (m+t) l2 l1 (by omega)
      exact Rt.trans hp hx (hB y hyB) (hB z (b36 ht1)) hxy hyz)
    refine⟨S,q1,q2,F.QO _ _ _ _ _ _ ⟨λ_=>?_,λh=>by simp at h;omega⟩⟩;rw[hh'];exact⟨by omega,y.1,by rw[Int.toNat_natCast];exact gy,by omega,x.1,by rw[Int.toNat_natCast];exact gx,_,V6,λh=>absurd (of_decide_eq_true h) hlt,λ_=>q3⟩
theorem zL{n0:Nat}(hn:n0<=1125899906842624)(X A Y:b4c (α × Nat))(y:α × Nat)(hy':Dm y.1)(hA:∀x∈A,Dm x.1)(hs:I7 cm A)(ht:∀x∈A,x.2<y.2)(h0:n0=X.length+A.length+1+Y.length):∀(k p q:Nat),q - p<=k->p<=q->q<=A.length->(∀x∈A.take p,Rt cm x y)->(∀x∈A.drop q,Rt cm y x)->
  ∃S,I7 cm S/\S.Perm (A++[y])/\F.KZ ((X.length+q:Nat):Int) ((X.length+p:Nat):Int) n0 ((X.length+A.length:Nat):Int) (fs (X++A++y::Y)) (fs (X++S++Y)):=by
 intro k
 induction k with
 |zero=>
  intro p q h1 h2 h3 hP hQ;obtain rfl:p=q:=by omega
  refine⟨A.take p++y::A.drop p,?_,?_,?_⟩
  ·refine List.pairwise_append.2 ⟨hs.sublist (List.take_sublist _ _),List.pairwise_cons.2 ⟨hQ,hs.sublist (List.drop_sublist _ _)⟩,λa ha b hb=>?_⟩;rcases List.mem_cons.1 hb with h|h
   ·rw[h];exact hP a ha
   ·exact Rt.trans hp (hA a (List.mem_of_mem_take ha)) hy' (hA b (List.mem_of_mem_drop h)) (hP a ha) (hQ b h)
  ·exact List.perm_middle.trans (by rw[List.take_append_drop];exact(List.perm_append_singleton y A).symm)
  ·refine F.QT _ _ _ _ _ _ ⟨λh=>by simp at h,λ_=>?_⟩;have hlt:(A.take p).length=p:=by simp;omega
   have hld:(A.drop p).length=A.length - p:=by simp
   have:=a19 F hn (fs (X++A.take p)) (fs Y) y.1 (X.length+p) (by simp[fs];omega) _ (fs (A.drop p)) [] rfl (by simp[fs];omega);have g0:(fs (X++A.take p)).length+(fs (A.drop p)).length=X.length+A.length:=by simp[fs];omega
   have g1:fs (X++A.take p)++fs (A.drop p)++y.1::[]++fs Y=fs (X++A++y::Y):=by
    conv=>rhs;rw[<-List.take_append_drop p A]
    simp[fs]
   have g2:fs (X++A.take p)++y.1::fs (A.drop p)++[]++fs Y=fs (X++(A.take p++y::A.drop p)++Y):=by simp[fs]
   rw[g0,g1,g2]at this;exact this
 |succ k ih=>
  intro p q h1 h2 h3 hP hQ
  by_cases hpq:p=q
  ·exact ih p q (by omega) h2 h3 hP hQ
  ·have hh:hI ((X.length+p:Nat):Int) ((X.length+q:Nat):Int)=(((X.length+p+(X.length+q)) / 2:Nat):Int):=JI (by omega) (by omega);generalize hm:(X.length+p+(X.length+q)) / 2 - X.length=m;have hm1:p<=m/\m<q:=by omega
   have hh':hI ((X.length+p:Nat):Int) ((X.length+q:Nat):Int)=((X.length+m:Nat):Int):=by rw[hh];congr 1;omega
   have hx:A[m]? =some A[m]:=b3y (by omega);generalize A[m]=x at hx;have hxA:x∈A:=b36 hx
   have gy:(fs (X++A++y::Y))[X.length+A.length]? =some y.1:=by
    have:fs (X++A++y::Y)=fs (X++A)++y.1::fs Y:=by simp[fs]
    rw[this,show X.length+A.length=(fs (X++A)).length by simp[fs]];simp
   have gx:(fs (X++A++y::Y))[X.length+m]? =some x.1:=by
    have:fs (X++A++y::Y)=fs X++fs A++fs (y::Y):=by simp[fs]
    rw[this,show X.length+m=(fs X).length+m by simp[fs],SU _ _ _ (by simp[fs];omega)];simp[fs,hx]
   have e1:wI (((X.length+m:Nat):Int)+1)=((X.length+(m+1):Nat):Int):=by rw[wI,C0 (by omega)];omega
   have V6:C y.1 x.1 (cm y.1 x.1):=hC _ _ hy' (hA x hxA)
   by_cases hlt:cm y.1 x.1<0
   ·obtain⟨S,q1,q2,q3⟩:=ih p m (by omega) (by omega) (by omega) hP (λz hz=>by
     obtain⟨t,ht1⟩:=List.mem_iff_getElem?.1 hz;rw[List.getElem?_drop]at ht1
     by_cases e:t=0
     ·subst e;rw[Nat.add_zero,hx]at ht1;cases ht1;exact .inl hlt
     ·have hxz:Rt cm x z:=by
       obtain⟨l1,g1⟩:=List.getElem?_eq_some_iff.1 ht1;obtain⟨l2,g2⟩:=List.getElem?_eq_some_iff.1 hx;rw[<-g1,<-g2];exact List.pairwise_iff_getElem.1 hs m (m+t) l2 l1 (by omega)
      exact Rt.trans hp hy' (hA x hxA) (hA z (b36 ht1)) (.inl hlt) hxz)
    refine⟨S,q1,q2,F.QT _ _ _ _ _ _ ⟨λ_=>?_,λh=>by simp at h;omega⟩⟩;rw[hh'];exact⟨by omega,y.1,by rw[Int.toNat_natCast];exact gy,by omega,x.1,by rw[Int.toNat_natCast];exact gx,_,V6,λh=>by simp at h;omega,λ_=>q3⟩
   ·obtain⟨S,q1,q2,q3⟩:=ih (m+1) q (by omega) (by omega) h3 (λz hz=>by
     have hxy:Rt cm x y:=Rt.of_not hp hy' (hA x hxA) hlt (ht x hxA);obtain⟨t,ht1⟩:=List.mem_iff_getElem?.1 hz;rw[List.getElem?_take]at ht1;split at ht1
     ·rename_i htm
      by_cases e:t=m
      ·subst e;rw[hx]at ht1;cases ht1;exact hxy
      ·have hzx:Rt cm z x:=by
        obtain⟨l1,g1⟩:=List.getElem?_eq_some_iff.1 ht1;obtain⟨l2,g2⟩:=List.getElem?_eq_some_iff.1 hx;rw[<-g1,<-g2];exact List.pairwise_iff_getElem.1 hs t m l1 l2 (by omega)
       exact Rt.trans hp (hA z (b36 ht1)) (hA x hxA) hy' hzx hxy
     ·cases ht1) hQ
    refine⟨S,q1,q2,F.QT _ _ _ _ _ _ ⟨λ_=>?_,λh=>by simp at h;omega⟩⟩;rw[hh',e1];exact⟨by omega,y.1,by rw[Int.toNat_natCast];exact gy,by omega,x.1,by rw[Int.toNat_natCast];exact gx,_,V6,λ_=>q3,λh=>by simp at h;omega⟩
end
section
variable {α:Type}{C:α->α->Int->Prop}{cm:α->α->Int}{Dm:α->Prop}
theorem a3g(hp:Pre cm Dm){A1 A2 B1 B2:b4c (α × Nat)}(hD:∀x∈(A1++A2)++(B1++B2),Dm x.1)(hA:I7 cm (A1++A2))(hB:I7 cm (B1++B2))(f1:A1=[]\/B2=[]\/∃U x y V,A1=U++[x]/\B2=y::V/\Rt cm x y)(f2:B1=[]\/A2=[]\/∃U x y V,B1=U++[x]/\A2=y::V/\Rt cm x y):∀x∈A1++B1,∀y∈A2++B2,Rt cm x y:=by
 have key:∀{P Q:b4c (α × Nat)},(∀x∈P,Dm x.1)->(∀x∈Q,Dm x.1)->I7 cm P->I7 cm Q->(P=[]\/Q=[]\/∃U x y V,P=U++[x]/\Q=y::V/\Rt cm x y)->∀x∈P,∀y∈Q,Rt cm x y:=by
  intro P Q dP dQ hP hQ f x hx y hy;rcases f with f|f|⟨U,u,v,V,rfl,rfl,huv⟩
  ·rw[f]at hx;cases hx
  ·rw[f]at hy;cases hy
  ·have h1:x=u\/Rt cm x u:=by
    rcases List.mem_append.1 hx with h|h
    ·exact .inr ((List.pairwise_append.1 hP).2.2 x h u (by simp))
    ·simp at h;exact .inl h
   have h2:y=v\/Rt cm v y:=by
    rcases List.mem_cons.1 hy with h|h
    ·exact .inl h
    ·exact .inr ((List.pairwise_cons.1 hQ).1 y h)
   have du:=dP u (by simp);have dv:=dQ v (by simp)
   have h3:Rt cm x v:=by
    rcases h1 with h|h
    ·rw[h];exact huv
    ·exact Rt.trans hp (dP x hx) du dv h huv
   rcases h2 with h|h
   ·rw[h];exact h3
   ·exact Rt.trans hp (dP x hx) dv (dQ y hy) h3 h
 obtain⟨a1,a2,a3⟩:=List.pairwise_append.1 hA;obtain⟨b1,b2,b3⟩:=List.pairwise_append.1 hB;intro x hx y hy;rcases List.mem_append.1 hx with hx|hx<;>rcases List.mem_append.1 hy with hy|hy
 ·exact a3 x hx y hy
 ·exact key (λz hz=>hD z (by simp[hz])) (λz hz=>hD z (by simp[hz])) a1 b2 f1 x hx y hy
 ·exact key (λz hz=>hD z (by simp[hz])) (λz hz=>hD z (by simp[hz])) b1 a2 f2 x hx y hy
 ·exact b3 x hx y hy
theorem V8{n0:Nat}{l:b4c (α × Nat)}(h:l.length=n0)(h0:0<n0):fs l≠[]:=by
 intro h';have:=congrArg List.length h';simp only[fs,List.length_map,List.length_nil]at this;omega
variable (F:FD α C) (hp:Pre cm Dm) (hC:∀x y,Dm x->Dm y->C x y (cm x y))
 include hp hC
def Ts(F:FD α C)(cm:α->α->Int)(Dm:α->Prop)(n0 k:Nat):Prop:=∀(X A B Y:b4c (α × Nat)),A.length+B.length<=k->A≠[]->B≠[]->n0=X.length+A.length+B.length+Y.length->(∀x∈A++B,Dm x.1)->I7 cm A->I7 cm B->(∀x∈A,∀y∈B,x.2<y.2)->
 ∃S,I7 cm S/\S.Perm (A++B)/\F.sy n0 (fs (X++A++B++Y)) (X.length:Nat) ((X.length+A.length:Nat):Int) ((X.length+A.length+B.length:Nat):Int) (fs (X++S++Y))
theorem sm{n0:Nat}(hn:n0<=1125899906842624)(k:Nat)(ih:Ts F cm Dm n0 k)(X A1 A2 B1 B2 Y:b4c (α × Nat))(a b m mid s:Nat)(ha:a=X.length)(hm:m=a+A1.length+A2.length)(hb:b=m+B1.length+B2.length)(hmid:mid=(a+b) / 2)(hs:s=a+A1.length)(hcut:A1.length+B1.length=mid - a)(h0:n0=b+Y.length)(hpos:a<mid/\mid<b)(hk:b - a<=k+1)(hD:∀x∈(A1++A2)++(B1++B2),Dm x.1)(hA:I7 cm (A1++A2))(hB:I7 cm (B1++B2))(ht:∀x∈A1++A2,∀y∈B1++B2,x.2<y.2)(hall:∀x∈A1++B1,∀y∈A2++B2,Rt cm x y):
  ∃S,I7 cm S/\S.Perm ((A1++A2)++(B1++B2))/\F.Kp a b m s n0 (fs (X++A1++B1++A2++B2++Y)) (fs (X++S++Y)):=by
 have hmI:hI (a:Int) (b:Int)=(mid:Int):=by rw[JI (by omega) (by omega),hmid]
 have e1:wI (wI ((mid:Int)+m) - s)=((mid+A2.length:Nat):Int):=by
  have:wI ((mid:Int)+m)=(mid:Int)+m:=by rw[wI,C0 (by omega)]
  rw[this,wI,C0 (by omega)];omega
 obtain⟨a1,a2,a3⟩:=List.pairwise_append.1 hA;obtain⟨b1,b2,b3⟩:=List.pairwise_append.1 hB
 have first:∃S1,I7 cm S1/\S1.Perm (A1++B1)/\∀r,F.Ko a b m s n0 (fs (X++S1++A2++B2++Y)) r->F.Kp a b m s n0 (fs (X++A1++B1++A2++B2++Y)) r:=by
  by_cases hc:A1≠[]/\B1≠[]
  ·have c1:=List.length_pos_iff.2 hc.1;have c2:=List.length_pos_iff.2 hc.2;obtain⟨S1,q1,q2,q3⟩:=ih X A1 B1 (A2++B2++Y) (by omega) hc.1 hc.2 (by simp;omega) (λx hx=>hD x (by simp at hx ⊢;grind)) a1 b1 (λx hx y hy=>ht x (by simp[hx]) y (by simp[hy]));have hl:S1.length=A1.length+B1.length:=by rw[q2.length_eq];simp
   refine⟨S1,q1,q2,λr hr=>F.WK _ _ _ _ _ _ _ ⟨λ_=>?_,λh=>?_⟩⟩
   ·rw[hmI];refine⟨fs (X++S1++A2++B2++Y),?_,⟨V8 (n0:=n0) (by simp;omega) (by omega),V8 (n0:=n0) (by simp;omega) (by omega)⟩,hr⟩;have g1:((X.length+A1.length:Nat):Int)=(s:Int):=by omega
    have g2:((X.length+A1.length+B1.length:Nat):Int)=(mid:Int):=by omega
    rw[g1,g2,<-ha]at q3;simpa using q3
   ·rw[hmI]at h;simp only[Bool.and_eq_false_iff,b3w]at h;omega
  ·refine⟨A1++B1,?_,.refl _,λr hr=>F.WK _ _ _ _ _ _ _ ⟨λh=>?_,λ_=>by simpa using hr⟩⟩
   ·rcases Classical.em (A1=[]) with h|h
    ·rw[h];simpa using b1
    ·have:B1=[]:=Classical.byContradiction λh2=>hc ⟨h,h2⟩
     rw[this];simpa using a1
   ·rw[hmI]at h;simp only[b3x,b3v]at h;exact absurd ⟨λh1=>by rw[h1]at hs;simp at hs;omega,λh1=>by rw[h1]at hcut;simp at hcut;omega⟩ hc
 obtain⟨S1,p1,p2,p3⟩:=first;have hl1:S1.length=A1.length+B1.length:=by rw[p2.length_eq];simp
 have second:∃S2,I7 cm S2/\S2.Perm (A2++B2)/\F.Ko a b m s n0 (fs (X++S1++A2++B2++Y)) (fs (X++S1++S2++Y)):=by
  by_cases hc:A2≠[]/\B2≠[]
  ·have c1:=List.length_pos_iff.2 hc.1;have c2:=List.length_pos_iff.2 hc.2;obtain⟨S2,q1,q2,q3⟩:=ih (X++S1) A2 B2 Y (by omega) hc.1 hc.2 (by simp;omega) (λx hx=>hD x (by simp at hx ⊢;grind)) a2 b2 (λx hx y hy=>ht x (by simp[hx]) y (by simp[hy]));have hl:S2.length=A2.length+B2.length:=by rw[q2.length_eq];simp
   refine⟨S2,q1,q2,F.WO _ _ _ _ _ _ _ ⟨λ_=>?_,λh=>?_⟩⟩
   ·rw[hmI,e1];refine⟨fs (X++S1++S2++Y),?_,⟨V8 (n0:=n0) (by simp;omega) (by omega),V8 (n0:=n0) (by simp;omega) (by omega)⟩,V8 (n0:=n0) (by simp;omega) (by omega),rfl⟩;have g0:(((X++S1).length:Nat):Int)=(mid:Int):=by simp;omega
    have g1:(((X++S1).length+A2.length:Nat):Int)=((mid+A2.length:Nat):Int):=by simp;omega
    have g2:(((X++S1).length+A2.length+B2.length:Nat):Int)=(b:Int):=by simp;omega
    rw[g0,g1,g2]at q3;simpa using q3
   ·rw[hmI,e1]at h;simp only[Bool.and_eq_false_iff,b3w]at h;omega
  ·refine⟨A2++B2,?_,.refl _,F.WO _ _ _ _ _ _ _ ⟨λh=>?_,λ_=>⟨V8 (n0:=n0) (by simp;omega) (by omega),by simp⟩⟩⟩
   ·rcases Classical.em (A2=[]) with h|h
    ·rw[h];simpa using b2
    ·have:B2=[]:=Classical.byContradiction λh2=>hc ⟨h,h2⟩
     rw[this];simpa using a2
   ·rw[hmI,e1]at h;simp only[b3x,b3v]at h;exact absurd ⟨λh1=>by rw[h1]at h;simp at h,λh1=>by rw[h1]at hb;simp at hb;omega⟩ hc
 obtain⟨S2,r1,r2,r3⟩:=second;refine⟨S1++S2,List.pairwise_append.2 ⟨p1,r1,λx hx y hy=>hall x (p2.mem_iff.1 hx) y (r2.mem_iff.1 hy)⟩,?_,?_⟩
 ·refine(p2.append r2).trans ?_
  have:(A1++B1++(A2++B2)).Perm (A1++A2++(B1++B2)):=by
   simp only[List.append_assoc];refine List.Perm.append_left A1 ?_;rw[<-List.append_assoc,<-List.append_assoc];exact List.Perm.append_right B2 List.perm_append_comm
  exact this
 ·have:=p3 _ r3;simpa using this
end
section
variable {α:Type}{C:α->α->Int->Prop}{cm:α->α->Int}{Dm:α->Prop}
theorem MW{l:b4c α}{k:Nat}(h:k<l.length):∃x,l[k]? =some x/\l.take (k+1)=l.take k++[x]/\l.drop k=x::l.drop (k+1):=by
 refine⟨l[k],b3y h,?_,b32 h⟩;rw[List.take_add_one,b3y h];rfl
theorem a5v(hp:Pre cm Dm)(X A B Y:b4c (α × Nat))(a b m mid lo hi:Nat)(ha:a=X.length)(hm:m=a+A.length)(hb:b=m+B.length)(hmid:mid=(a+b) / 2)(hlh:(m<=mid/\lo=a/\hi=m)\/(mid<m/\lo=mid+m - b/\hi=mid))(hD:∀x∈A++B,Dm x.1)(hA:I7 cm A)(hB:I7 cm B)(s:Nat)(h2:lo<=s)(h4:s<=hi)(h5:s=lo\/∀x y,A[s - 1 - a]? =some x->B[mid - s]? =some y->Rt cm x y)(h6:s=hi\/∀x y,A[s - a]? =some x->B[mid - 1 - s]? =some y->Rt cm y x):
  ∀x∈A.take (s - a)++B.take (mid - s),∀y∈A.drop (s - a)++B.drop (mid - s),Rt cm x y:=by
 have hAs:A.take (s - a)++A.drop (s - a)=A:=List.take_append_drop _ _;have hBs:B.take (mid - s)++B.drop (mid - s)=B:=List.take_append_drop _ _;have l1:(A.take (s - a)).length=s - a:=by simp;omega
 have l2:(A.drop (s - a)).length=m - s:=by simp;omega
 have l3:(B.take (mid - s)).length=mid - s:=by simp;omega
 have l4:(B.drop (mid - s)).length=b - m - (mid - s):=by simp;omega
 have f1:A.take (s - a)=[]\/B.drop (mid - s)=[]\/∃U x y V,A.take (s - a)=U++[x]/\B.drop (mid - s)=y::V/\Rt cm x y:=by
  rcases h5 with h5|h5
  ·rcases hlh with⟨g1,g2,g3⟩|⟨g1,g2,g3⟩
   ·left;rw[h5,g2,Nat.sub_self];rfl
   ·right;left;exact b33 (by omega)
  ·by_cases hs:s=a
   ·left;rw[hs,Nat.sub_self];rfl
   by_cases hb2:mid - s<B.length
   ·obtain⟨x,q1,q2,_⟩:=MW (l:=A) (k:=s - 1 - a) (by omega);obtain⟨y,r1,_,r3⟩:=MW (l:=B) (k:=mid - s) hb2;right;right;exact⟨_,x,y,_,by rw[<-q2];congr 1;omega,r3,h5 x y q1 r1⟩
   ·right;left;exact b33 (by omega)
 have f2:B.take (mid - s)=[]\/A.drop (s - a)=[]\/∃U x y V,B.take (mid - s)=U++[x]/\A.drop (s - a)=y::V/\Rt cm x y:=by
  rcases h6 with h6|h6
  ·rcases hlh with⟨g1,g2,g3⟩|⟨g1,g2,g3⟩
   ·right;left;exact b33 (by omega)
   ·left;rw[h6,g3,Nat.sub_self];rfl
  ·by_cases hs:mid=s
   ·left;rw[hs,Nat.sub_self];rfl
   by_cases ha2:s - a<A.length
   ·obtain⟨x,q1,_,q3⟩:=MW (l:=A) (k:=s - a) ha2;obtain⟨y,r1,r2,_⟩:=MW (l:=B) (k:=mid - 1 - s) (by omega);right;right;exact⟨_,y,x,_,by rw[<-r2];congr 1;omega,q3,h6 x y q1 r1⟩
   ·right;left;exact b33 (by omega)
 exact a3g hp (A1:=A.take (s - a)) (A2:=A.drop (s - a)) (B1:=B.take (mid - s)) (B2:=B.drop (mid - s)) (by rw[hAs,hBs];exact hD) (by rw[hAs];exact hA) (by rw[hBs];exact hB) f1 f2
variable (F:FD α C) (hp:Pre cm Dm) (hC:∀x y,Dm x->Dm y->C x y (cm x y))
 include hp hC
theorem b00{n0:Nat}(hn:n0<=1125899906842624)(k:Nat)(ih:Ts F cm Dm n0 k)(X A B Y:b4c (α × Nat))(a b m mid lo hi:Nat)(ha:a=X.length)(hm:m=a+A.length)(hb:b=m+B.length)(hmid:mid=(a+b) / 2)(hlh:(m<=mid/\lo=a/\hi=m)\/(mid<m/\lo=mid+m - b/\hi=mid))(hD:∀x∈A++B,Dm x.1)(hA:I7 cm A)(hB:I7 cm B)(h0:n0=b+Y.length)(hA0:A≠[])(hB0:B≠[])(hk:b - a<=k+1)(ht:∀x∈A,∀y∈B,x.2<y.2)(s:Nat)(h2:lo<=s)(h4:s<=hi)(h5:s=lo\/∀x y,A[s - 1 - a]? =some x->B[mid - s]? =some y->Rt cm x y)(h6:s=hi\/∀x y,A[s - a]? =some x->B[mid - 1 - s]? =some y->Rt cm y x):
  ∃S,I7 cm S/\S.Perm (A++B)/\F.Iv a b m s s n0 (fs (X++A++B++Y)) (fs (X++S++Y)):=by
 have al:=List.length_pos_iff.2 hA0;have bl:=List.length_pos_iff.2 hB0;have bnd:a<=s/\s<=m/\s<=mid/\mid+m<=b+s/\a<mid/\mid<b:=by omega
 have hmI:hI (a:Int) (b:Int)=(mid:Int):=by rw[JI (by omega) (by omega),hmid]
 have emm:wI ((mid:Int)+m)=((mid+m:Nat):Int):=by rw[wI,C0 (by omega)];omega
 have hall:=a5v hp X A B Y a b m mid lo hi ha hm hb hmid hlh hD hA hB s h2 h4 h5 h6;clear h5 h6 h2 h4 hlh;have hAs:A.take (s - a)++A.drop (s - a)=A:=List.take_append_drop _ _;have hBs:B.take (mid - s)++B.drop (mid - s)=B:=List.take_append_drop _ _;have l1:(A.take (s - a)).length=s - a:=by simp;omega
 have l2:(A.drop (s - a)).length=m - s:=by simp;omega
 have l3:(B.take (mid - s)).length=mid - s:=by simp;omega
 have l4:(B.drop (mid - s)).length=b - m - (mid - s):=by simp;omega
 obtain⟨S,p1,p2,p3⟩:=sm F hp hC hn k ih X (A.take (s - a)) (A.drop (s - a)) (B.take (mid - s)) (B.drop (mid - s)) Y a b m mid s ha (by omega) (by omega) hmid (by omega) (by omega) h0 (by omega) hk (by rw[hAs,hBs];exact hD) (by rw[hAs];exact hA) (by rw[hBs];exact hB) (by rw[hAs,hBs];exact ht) hall;rw[hAs,hBs]at p2;have e1:wI (((mid+m:Nat):Int) - s)=((mid+m - s:Nat):Int):=by rw[wI,C0 (by omega)];omega
 refine⟨S,p1,p2,F.QS _ _ _ _ _ _ _ _ ⟨λh=>by simp at h,λ_=>?_⟩⟩;rw[hmI,emm,e1]
 have hin:fs (X++A++B++Y)=fs (X++A.take (s - a))++fs (A.drop (s - a))++fs (B.take (mid - s))++fs (B.drop (mid - s)++Y):=by
  have:X++A++B++Y=X++(A.take (s - a)++A.drop (s - a))++(B.take (mid - s)++B.drop (mid - s))++Y:=by rw[hAs,hBs]
  rw[this];simp only[fs,List.map_append,List.append_assoc]
 have hout:fs (X++A.take (s - a))++fs (B.take (mid - s))++fs (A.drop (s - a))++fs (B.drop (mid - s)++Y)=fs (X++A.take (s - a)++B.take (mid - s)++A.drop (s - a)++B.drop (mid - s)++Y):=by simp only[fs,List.map_append,List.append_assoc]
 refine⟨λh=>?_,λh=>?_⟩
 ·simp only[b3x,b3v]at h;have hr:=yH F hn (fs (X++A.take (s - a))) (fs (A.drop (s - a))) (fs (B.take (mid - s))) (fs (B.drop (mid - s)++Y)) (a:=s) (m:=m) (b:=mid+m - s) (by simp only[fs,List.length_map,b39];omega) (by simp only[fs,List.length_map];omega) (by simp only[fs,List.length_map];omega) (by simp only[fs,List.length_map,b39];omega) (λh'=>by have:=congrArg List.length h';simp only[fs,List.length_map,List.length_nil]at this;omega) (λh'=>by have:=congrArg List.length h';simp only[fs,List.length_map,List.length_nil]at this;omega);rw[<-hin,hout]at hr;exact⟨_,hr,⟨V8 (n0:=n0) (by simp only[b39];omega) (by omega),V8 (n0:=n0) (by simp only[b39];omega) (by omega)⟩,p3⟩
 ·simp only[Bool.and_eq_false_iff,b3w]at h
  have heq:fs (X++A++B++Y)=fs (X++A.take (s - a)++B.take (mid - s)++A.drop (s - a)++B.drop (mid - s)++Y):=by
   rw[hin,<-hout]
   have:A.drop (s - a)=[]\/B.take (mid - s)=[]:=by
    rcases h with h|h
    ·left;exact b33 (by omega)
    ·right;exact List.eq_nil_of_length_eq_zero (by omega)
   rcases this with e|e<;>rw[e]<;>simp[fs]
  rw[heq];exact p3
theorem kU{n0:Nat}(hn:n0<=1125899906842624)(k:Nat)(ih:Ts F cm Dm n0 k)(X A B Y:b4c (α × Nat))(a b m mid lo hi:Nat)(ha:a=X.length)(hm:m=a+A.length)(hb:b=m+B.length)(hmid:mid=(a+b) / 2)(h0:n0=b+Y.length)(hA0:A≠[])(hB0:B≠[])(hk:b - a<=k+1)(hlh:(m<=mid/\lo=a/\hi=m)\/(mid<m/\lo=mid+m - b/\hi=mid))(hD:∀x∈A++B,Dm x.1)(hA:I7 cm A)(hB:I7 cm B)(ht:∀x∈A,∀y∈B,x.2<y.2):∀(d s t:Nat),t - s<=d->lo<=s->s<=t->t<=hi->
  (s=lo\/∀x y,A[s - 1 - a]? =some x->B[mid - s]? =some y->Rt cm x y)->(t=hi\/∀x y,A[t - a]? =some x->B[mid - 1 - t]? =some y->Rt cm y x)->
  ∃S,I7 cm S/\S.Perm (A++B)/\F.Iv a b m t s n0 (fs (X++A++B++Y)) (fs (X++S++Y)):=by
 have al:=List.length_pos_iff.2 hA0;have bl:=List.length_pos_iff.2 hB0;have hmI:hI (a:Int) (b:Int)=(mid:Int):=by rw[JI (by omega) (by omega),hmid]
 have emm:wI ((mid:Int)+m)=((mid+m:Nat):Int):=by rw[wI,C0 (by omega)];omega
 intro d
 induction d with
 |zero=>
  intro s t h1 h2 h3 h4 h5 h6;obtain rfl:s=t:=by omega
  exact b00 F hp hC hn k ih X A B Y a b m mid lo hi ha hm hb hmid hlh hD hA hB h0 hA0 hB0 hk ht s h2 h4 h5 h6
 |succ d ihd=>
  intro s t h1 h2 h3 h4 h5 h6
  by_cases hst:s=t
  ·exact ihd s t (by omega) h2 h3 h4 h5 h6
  have hcI:hI (s:Int) (t:Int)=(((s+t) / 2:Nat):Int):=JI (by omega) (by omega);generalize hcd:(s+t) / 2=c at hcI;have hc:s<=c/\c<t:=by omega
  have hcA:c - a<A.length/\a<=c:=by omega
  have hcB:mid - 1 - c<B.length/\c<mid:=by omega
  obtain⟨x,hx,_,_⟩:=MW hcA.1;obtain⟨y,hy,_,_⟩:=MW hcB.1;have hxA:=b36 hx;have hyB:=b36 hy
  have gx:(fs (X++A++B++Y))[c]? =some x.1:=by
   have:fs (X++A++B++Y)=fs X++fs A++fs (B++Y):=by simp[fs]
   rw[this,show c=(fs X).length+(c - a) by simp[fs];omega,SU _ _ _ (by simp[fs];omega)];simp[fs,hx]
  have gy:(fs (X++A++B++Y))[mid+m - 1 - c]? =some y.1:=by
   have:fs (X++A++B++Y)=fs (X++A)++fs B++fs Y:=by simp[fs]
   rw[this,show mid+m - 1 - c=(fs (X++A)).length+(mid - 1 - c) by simp[fs];omega,SU _ _ _ (by simp[fs];omega)];simp[fs,hy]
  have e1:wI (((mid+m:Nat):Int) - 1)=((mid+m - 1:Nat):Int):=by rw[wI,C0 (by omega)];omega
  have e2:wI (((mid+m - 1:Nat):Int) - (c:Int))=((mid+m - 1 - c:Nat):Int):=by rw[wI,C0 (by omega)];omega
  have e3:wI ((c:Int)+1)=((c+1:Nat):Int):=by rw[wI,C0 (by omega)];omega
  have V6:C y.1 x.1 (cm y.1 x.1):=hC _ _ (hD y (by simp[hyB])) (hD x (by simp[hxA]))
  by_cases hlt:cm y.1 x.1<0
  ·obtain⟨S,q1,q2,q3⟩:=ihd s c (by omega) h2 (by omega) (by omega) h5 (.inr λx' y' hx' hy'=>by
    rw[hx]at hx';cases hx';rw[hy]at hy';cases hy';exact .inl hlt)
   refine⟨S,q1,q2,F.QS _ _ _ _ _ _ _ _ ⟨λ_=>?_,λh=>by simp at h;omega⟩⟩;rw[hmI,emm,e1,hcI,e2];exact⟨by omega,y.1,by rw[Int.toNat_natCast];exact gy,by omega,x.1,by rw[Int.toNat_natCast];exact gx,_,V6,λh=>by simp at h;omega,λ_=>q3⟩
  ·obtain⟨S,q1,q2,q3⟩:=ihd (c+1) t (by omega) (by omega) (by omega) h4 (.inr λx' y' hx' hy'=>by
    rw[show c+1 - 1 - a=c - a by omega,hx]at hx';cases hx';rw[show mid - (c+1)=mid - 1 - c by omega,hy]at hy';cases hy';exact Rt.of_not hp (hD y (by simp[hyB])) (hD x (by simp[hxA])) hlt (ht x hxA y hyB)) h6
   refine⟨S,q1,q2,F.QS _ _ _ _ _ _ _ _ ⟨λ_=>?_,λh=>by simp at h;omega⟩⟩;rw[hmI,emm,e1,hcI,e2,e3];exact⟨by omega,y.1,by rw[Int.toNat_natCast];exact gy,by omega,x.1,by rw[Int.toNat_natCast];exact gx,_,V6,λ_=>q3,λh=>by simp at h;omega⟩
theorem om{n0:Nat}(hn:n0<=1125899906842624):∀k,Ts F cm Dm n0 k:=by
 intro k
 induction k with
 |zero=>
  intro X A B Y hk hA;exact absurd (List.eq_nil_of_length_eq_zero (by omega)) hA
 |succ k ih=>
  intro X A B Y hk hA0 hB0 h0 hD hA hB ht;have al:=List.length_pos_iff.2 hA0;have bl:=List.length_pos_iff.2 hB0;have e1:wI (((X.length+A.length:Nat):Int) - (X.length:Nat))=(A.length:Int):=by rw[wI,C0 (by omega)];omega
  have e2:wI (((X.length+A.length+B.length:Nat):Int) - ((X.length+A.length:Nat):Int))=(B.length:Int):=by rw[wI,C0 (by omega)];omega
  by_cases c1:A.length=1
  ·obtain⟨x,rfl⟩:=List.length_eq_one_iff.1 c1;obtain⟨S,q1,q2,q3⟩:=wb F hp hC hn X B Y x (hD x (by simp)) (λy hy=>hD y (by simp[hy])) hB (λy hy=>ht x (by simp) y hy) (by simp at h0;omega) B.length 0 B.length (by omega) (by omega) (by omega) (λy hy=>by simp at hy) (λy hy=>by simp at hy);refine⟨S,q1,by simpa using q2,F.Me _ _ _ _ _ _ ⟨λ_=>?_,λh=>by rw[e1]at h;simp at h⟩⟩;simpa using q3
  by_cases c2:B.length=1
  ·obtain⟨y,rfl⟩:=List.length_eq_one_iff.1 c2;obtain⟨S,q1,q2,q3⟩:=zL F hp hC hn X A Y y (hD y (by simp)) (λx hx=>hD x (by simp[hx])) hA (λx hx=>ht x hx y (by simp)) (by simp at h0;omega) A.length 0 A.length (by omega) (by omega) (by omega) (λy hy=>by simp at hy) (λy hy=>by simp at hy);refine⟨S,q1,q2,F.Me _ _ _ _ _ _ ⟨λh=>by rw[e1]at h;simp at h;omega,λ_=>⟨λ_=>?_,λh=>by rw[e2]at h;simp at h⟩⟩⟩;simpa using q3
  ·have hmI:hI ((X.length:Nat):Int) ((X.length+A.length+B.length:Nat):Int)=(((X.length+(X.length+A.length+B.length)) / 2:Nat):Int):=JI (by omega) (by omega);generalize hmid:(X.length+(X.length+A.length+B.length)) / 2=mid at hmI;rcases Nat.lt_or_ge mid (X.length+A.length) with hlt|hge
   ·have em:wI (wI ((mid:Int)+((X.length+A.length:Nat):Int)) - ((X.length+A.length+B.length:Nat):Int))=((mid+(X.length+A.length) - (X.length+A.length+B.length):Nat):Int):=by
     have:wI ((mid:Int)+((X.length+A.length:Nat):Int))=(mid:Int)+((X.length+A.length:Nat):Int):=by rw[wI,C0 (by omega)]
     rw[this,wI,C0 (by omega)];omega
    obtain⟨S,q1,q2,q3⟩:=kU F hp hC hn k ih X A B Y X.length (X.length+A.length+B.length) (X.length+A.length) mid (mid+(X.length+A.length) - (X.length+A.length+B.length)) mid rfl rfl rfl hmid.symm (by omega) hA0 hB0 (by omega) (.inr ⟨hlt,rfl,rfl⟩) hD hA hB ht mid (mid+(X.length+A.length) - (X.length+A.length+B.length)) mid (by omega) (Nat.le_refl _) (by omega) (Nat.le_refl _) (.inl rfl) (.inl rfl);refine⟨S,q1,q2,F.Me _ _ _ _ _ _ ⟨λh=>by rw[e1]at h;simp at h;omega,λ_=>⟨λh=>by rw[e2]at h;simp at h;omega,λ_=>⟨λ_=>F.WP _ _ _ _ _ _ _ _ ?_,λh=>by rw[hmI]at h;simp at h;omega⟩⟩⟩⟩;rw[hmI,em];exact q3
   ·obtain⟨S,q1,q2,q3⟩:=kU F hp hC hn k ih X A B Y X.length (X.length+A.length+B.length) (X.length+A.length) mid X.length (X.length+A.length) rfl rfl rfl hmid.symm (by omega) hA0 hB0 (by omega) (.inl ⟨hge,rfl,rfl⟩) hD hA hB ht (X.length+A.length) X.length (X.length+A.length) (by omega) (Nat.le_refl _) (by omega) (Nat.le_refl _) (.inl rfl) (.inl rfl);refine⟨S,q1,q2,F.Me _ _ _ _ _ _ ⟨λh=>by rw[e1]at h;simp at h;omega,λ_=>⟨λh=>by rw[e2]at h;simp at h;omega,λ_=>⟨λh=>by rw[hmI]at h;simp at h;omega,λ_=>F.WP _ _ _ _ _ _ _ _ q3⟩⟩⟩⟩
end
section
variable {α:Type}{C:α->α->Int->Prop}{cm:α->α->Int}{Dm:α->Prop}
inductive DE(cm:α->α->Int)(k:Nat):List (α × Nat)->Prop
 |last (S:List (α × Nat)) (h:I7 cm S) (hl:S.length<=k):DE cm k S
 |cons (S L:List (α × Nat)) (h:I7 cm S) (hl:S.length=k) (hr:DE cm k L) (ht:∀x∈S,∀y∈L,x.2<y.2):DE cm k (S++L)
theorem DE.sorted{k:Nat}(hk:0<k){L:b4c (α × Nat)}(h:DE cm k L)(hl:L.length<=k):I7 cm L:=by
 cases h with
 |last _ h _=>exact h
 |cons S L h hl' hr ht=>
  have:L=[]:=List.eq_nil_of_length_eq_zero (by simp at hl;omega);rw[this];simpa using h
theorem DE.first{k:Nat}{L:b4c (α × Nat)}(h:DE cm k L)(hl:k<=L.length):∃S M,L=S++M/\I7 cm S/\S.length=k/\DE cm k M/\∀x∈S,∀y∈M,x.2<y.2:=by
 cases h with
 |last _ h hl'=>exact⟨L,[],by simp,h,by omega,.last [] .nil (Nat.zero_le _),λx _ y hy=>by cases hy⟩
 |cons S M h hl' hr ht=>exact⟨S,M,rfl,h,hl',hr,ht⟩
variable (F:FD α C) (hp:Pre cm Dm) (hC:∀x y,Dm x->Dm y->C x y (cm x y))
 include hp hC
theorem zH{n0:Nat}(hn:n0<=1125899906842624)(k n:Nat)(hk:0<k/\k<n)(hnn:n=n0):∀(d:Nat) (M L:b4c (α × Nat)),L.length<=d->n=M.length+L.length->(∀x∈L,Dm x.1)->DE cm k L->
  ∃L',DE cm (2*k) L'/\L'.Perm L/\∀r,F.Ft ((2*k:Nat):Int) n0 n (fs (M++L')) r->F.Ml ((M.length+2*k:Nat):Int) (M.length:Nat) k n0 n (fs (M++L)) r:=by
 have e2:wI ((k:Int)*2)=((2*k:Nat):Int):=by rw[wI,C0 (by omega)];omega
 have e3:wI (2*(k:Int))=((2*k:Nat):Int):=by rw[wI,C0 (by omega)];omega
 intro d
 induction d with
 |zero=>
  intro M L hd hl hD hr;have:L=[]:=List.eq_nil_of_length_eq_zero (by omega);subst this;simp only[List.length_nil]at hl;have e1:wI ((M.length:Int)+k)=((M.length+k:Nat):Int):=by rw[wI,C0 (by omega)];omega
  refine⟨[],.last [] .nil (Nat.zero_le _),.refl _,λr hr'=>F.Mi _ _ _ _ _ _ _ ⟨λh=>by simp at h;omega,λ_=>⟨λh=>by rw[e1]at h;simp at h;omega,λ_=>by rw[e2];exact hr'⟩⟩⟩
 |succ d ih=>
  intro M L hd hl hD hr;have e1:wI ((M.length:Int)+k)=((M.length+k:Nat):Int):=by rw[wI,C0 (by omega)];omega
  have e4:wI (((M.length+2*k:Nat):Int)+((2*k:Nat):Int))=((M.length+2*k+2*k:Nat):Int):=by rw[wI,C0 (by omega)];omega
  rcases Nat.lt_or_ge L.length (2*k) with hlt|hge
  ·rcases Nat.lt_or_ge k L.length with hk2|hk2
   ·obtain⟨S1,S2,rfl,h1,h2,h3,h4⟩:=hr.first (by omega);have hl2:(S1++S2).length=S1.length+S2.length:=by simp
    have h5:I7 cm S2:=h3.sorted hk.1 (by omega);obtain⟨T,q1,q2,q3⟩:=om F hp hC hn _ M S1 S2 [] (Nat.le_refl _) (λh=>by rw[h]at h2;simp at h2;omega) (λh=>by subst h;simp at hk2;omega) (by simp;omega) hD h1 h5 h4;have ql:T.length=S1.length+S2.length:=by rw[q2.length_eq];simp
    refine⟨T,.last T q1 (by omega),q2,λr hr'=>F.Mi _ _ _ _ _ _ _ ⟨λh=>by simp at h;omega,λ_=>⟨λ_=>?_,λh=>by rw[e1]at h;simp at h;omega⟩⟩⟩;rw[e1,e2];refine⟨fs (M++T),?_,⟨V8 (n0:=n0) (by simp;omega) (by omega),V8 (n0:=n0) (by simp;omega) (by omega)⟩,hr'⟩;rw[show M.length+k=M.length+S1.length by omega,show(n:Int)=((M.length+S1.length+S2.length:Nat):Int) by omega];simpa using q3
   ·refine⟨L,.last L (hr.sorted hk.1 hk2) (by omega),.refl _,λr hr'=>F.Mi _ _ _ _ _ _ _ ⟨λh=>by simp at h;omega,λ_=>⟨λh=>by rw[e1]at h;simp at h;omega,λ_=>by rw[e2];exact hr'⟩⟩⟩
  ·obtain⟨S1,L1,rfl,h1,h2,h3,h4⟩:=hr.first (by omega);have hl1:(S1++L1).length=S1.length+L1.length:=by simp
   obtain⟨S2,L2,rfl,g1,g2,g3,g4⟩:=h3.first (by omega);have hl2:(S2++L2).length=S2.length+L2.length:=by simp
   obtain⟨T,q1,q2,q3⟩:=om F hp hC hn _ M S1 S2 L2 (Nat.le_refl _) (λh=>by rw[h]at h2;simp at h2;omega) (λh=>by rw[h]at g2;simp at g2;omega) (by omega) (λx hx=>hD x (by simp at hx ⊢;grind)) h1 g1 (λx hx y hy=>h4 x hx y (by simp[hy]));have ql:T.length=S1.length+S2.length:=by rw[q2.length_eq];simp
   obtain⟨L',p1,p2,p3⟩:=ih (M++T) L2 (by omega) (by simp;omega) (λx hx=>hD x (by simp[hx])) g3;refine⟨T++L',.cons T L' q1 (by omega) p1 (λx hx y hy=>?_),?_,λr hr'=>F.Mi _ _ _ _ _ _ _ ⟨λ_=>?_,λh=>by simp at h;omega⟩⟩
   ·have hy2:=p2.mem_iff.1 hy;rcases List.mem_append.1 (q2.mem_iff.1 hx) with h|h
    ·exact h4 x h y (by simp[hy2])
    ·exact g4 x h y hy2
   ·have:=q2.append p2;simpa[List.append_assoc]using this
   ·rw[e1,e3,e4];refine⟨fs (M++T++L2),?_,⟨V8 (n0:=n0) (by simp;omega) (by omega),V8 (n0:=n0) (by simp;omega) (by omega)⟩,?_⟩
    ·rw[show M.length+k=M.length+S1.length by omega,show M.length+2*k=M.length+S1.length+S2.length by omega];simpa using q3
    ·have:=p3 r (by simpa using hr');have gl:(M++T).length=M.length+2*k:=by simp;omega
     rw[gl]at this;exact this
theorem yo{n0:Nat}(hn:n0<=1125899906842624)(hpos:0<n0):∀(d k:Nat) (L:b4c (α × Nat)),n0 - k<=d->0<k->k<=2*n0+20->L.length=n0->(∀x∈L,Dm x.1)->DE cm k L->∃S,I7 cm S/\S.Perm L/\F.Ft k n0 (n0:Nat) (fs L) (fs S):=by
 intro d
 induction d with
 |zero=>
  intro k L hd hk hk2 hl hD hr;exact⟨L,hr.sorted hk (by omega),.refl _,F.QW _ _ _ _ _ ⟨λh=>by simp at h;omega,λ_=>⟨V8 hl hpos,rfl⟩⟩⟩
 |succ d ih=>
  intro k L hd hk hk2 hl hD hr;rcases Nat.lt_or_ge k n0 with hlt|hge
  ·obtain⟨L',q1,q2,q3⟩:=zH F hp hC hn k n0 ⟨hk,hlt⟩ rfl L.length [] L (Nat.le_refl _) (by simp;omega) hD hr;obtain⟨S,p1,p2,p3⟩:=ih (2*k) L' (by omega) (by omega) (by omega) (by rw[q2.length_eq];exact hl) (λx hx=>hD x (q2.mem_iff.1 hx)) q1;have e3:wI (2*(k:Int))=((2*k:Nat):Int):=by rw[wI,C0 (by omega)];omega
   refine⟨S,p1,p2.trans q2,F.QW _ _ _ _ _ ⟨λ_=>?_,λh=>by simp at h;omega⟩⟩;have:=q3 _ (by simpa using p3);rw[e3];simpa using this
  ·exact⟨L,hr.sorted hk (by omega),.refl _,F.QW _ _ _ _ _ ⟨λh=>by simp at h;omega,λ_=>⟨V8 hl hpos,rfl⟩⟩⟩
theorem xy{n0:Nat}(hn:n0<=1125899906842624)(hpos:0<n0):∀(d:Nat) (M L:b4c (α × Nat)),L.length<=d->n0=M.length+L.length->(∀x∈L,Dm x.1)->L.Pairwise (λx y=>x.2<y.2)->
  ∃L',DE cm 20 L'/\L'.Perm L/\∀r,F.Ft 20 n0 (n0:Nat) (fs (M++L')) r->F.Mp ((M.length+20:Nat):Int) (M.length:Nat) n0 (n0:Nat) (fs (M++L)) r:=by
 intro d
 induction d with
 |zero=>
  intro M L hd hl hD ht;have:L=[]:=List.eq_nil_of_length_eq_zero (by omega);subst this;simp only[List.length_nil]at hl;obtain⟨S,q1,q2,q3⟩:=Xz F hp hC hn M [] [] (a:=M.length) (b:=n0) rfl (by simp;omega) (by simp) hpos hD .nil;have qe:S=[]:=List.Perm.eq_nil q2;subst qe;refine⟨[],.last [] .nil (Nat.zero_le _),.refl _,λr hr=>F.QH _ _ _ _ _ _ ⟨λh=>by simp at h;omega,λ_=>⟨fs (M++[]),by simpa using q3,⟨V8 (n0:=n0) (by simp;omega) hpos,V8 (n0:=n0) (by simp;omega) hpos⟩,hr⟩⟩⟩
 |succ d ih=>
  intro M L hd hl hD ht;rcases Nat.lt_or_ge L.length 20 with hlt|hge
  ·obtain⟨S,q1,q2,q3⟩:=Xz F hp hC hn M L [] (a:=M.length) (b:=n0) rfl (by omega) (by simp) hpos hD ht;have ql:=q2.length_eq;refine⟨S,.last S q1 (by omega),q2,λr hr=>F.QH _ _ _ _ _ _ ⟨λh=>by simp at h;omega,λ_=>⟨fs (M++S),by simpa using q3,⟨V8 (n0:=n0) (by simp;omega) hpos,V8 (n0:=n0) (by simp;omega) hpos⟩,hr⟩⟩⟩
  ·have hsplit:L=L.take 20++L.drop 20:=(List.take_append_drop _ _).symm;have l1:(L.take 20).length=20:=by simp;omega
   generalize ha:L.take 20=A at hsplit l1;generalize hb:L.drop 20=B at hsplit;subst hsplit;have hl2:(A++B).length=A.length+B.length:=by simp
   obtain⟨t1,t2,t3⟩:=List.pairwise_append.1 ht;obtain⟨S,q1,q2,q3⟩:=Xz F hp hC hn M A B (a:=M.length) (b:=M.length+20) rfl (by omega) (by omega) hpos (λx hx=>hD x (by simp[hx])) t1;have ql:=q2.length_eq;obtain⟨L',p1,p2,p3⟩:=ih (M++S) B (by omega) (by simp;omega) (λx hx=>hD x (by simp[hx])) t2;have e1:wI (((M.length+20:Nat):Int)+20)=((M.length+20+20:Nat):Int):=by rw[wI,C0 (by omega)];omega
   refine⟨S++L',.cons S L' q1 (by omega) p1 (λx hx y hy=>t3 x (q2.mem_iff.1 hx) y (p2.mem_iff.1 hy)),q2.append p2,λr hr=>F.QH _ _ _ _ _ _ ⟨λ_=>?_,λh=>by simp at h;omega⟩⟩;rw[e1];refine⟨fs (M++S++B),by simpa using q3,⟨V8 (n0:=n0) (by simp;omega) hpos,V8 (n0:=n0) (by simp;omega) hpos⟩,?_⟩;have:=p3 r (by simpa using hr);have gl:(M++S).length=M.length+20:=by simp;omega
   rw[gl]at this;exact this
theorem eM{n0:Nat}(hn:n0<=1125899906842624)(hpos:0<n0)(L:b4c (α × Nat))(hl:L.length=n0)(hD:∀x∈L,Dm x.1)(ht:L.Pairwise (λx y=>x.2<y.2)):∃S,I7 cm S/\S.Perm L/\F.so n0 (fs L) (fs S):=by
 obtain⟨L',q1,q2,q3⟩:=xy F hp hC hn hpos L.length [] L (Nat.le_refl _) (by simp;omega) hD ht;obtain⟨S,p1,p2,p3⟩:=yo F hp hC hn hpos n0 20 L' (by omega) (by omega) (by omega) (by rw[q2.length_eq];exact hl) (λx hx=>hD x (q2.mem_iff.1 hx)) q1;have hs:S.length=n0:=by rw[p2.length_eq,q2.length_eq];exact hl
 refine⟨S,p1,p2.trans q2,F.dq _ _ _ ⟨fs S,F.dY _ _ _ _ ?_,⟨V8 hl hpos,V8 hs hpos⟩,V8 hs hpos,rfl⟩⟩;have:=q3 _ (by simpa using p3);simpa using this
end
section
variable {α:Type}{cm:α->α->Int}{Dm:α->Prop}
theorem Rt.irrefl{x y:α × Nat}(hp:Pre cm Dm)(hx:Dm x.1)(hy:Dm y.1)(h1:Rt cm x y)(h2:Rt cm y x):False:=by
 have a:=hp.sym x.1 y.1 hx hy;have b:=hp.sym y.1 x.1 hy hx;unfold Rt at h1 h2;omega
theorem eX(hp:Pre cm Dm):∀(S T:b4c (α × Nat)),S.Perm T->(∀x∈S,Dm x.1)->I7 cm S->I7 cm T->S=T
 |[],T,h,_,_,_=>(List.Perm.nil_eq h)
 |x::S,[],h,_,_,_=>by have:=h.length_eq;simp at this
 |x::S,y::T,h,hD,hS,hT=>by
  have hxy:x=y:=by
   have hx:x∈y::T:=h.mem_iff.1 List.mem_cons_self;have hy:y∈x::S:=h.mem_iff.2 List.mem_cons_self;rcases List.mem_cons.1 hx with e|e
   ·exact e
   ·rcases List.mem_cons.1 hy with e2|e2
    ·exact e2.symm
    ·exact(Rt.irrefl hp (hD x List.mem_cons_self) (hD y hy) ((List.pairwise_cons.1 hS).1 y e2) ((List.pairwise_cons.1 hT).1 x e)).elim
  subst hxy;rw[eX hp S T ((List.perm_cons x).1 h) (λz hz=>hD z (List.mem_cons_of_mem _ hz)) (List.pairwise_cons.1 hS).2 (List.pairwise_cons.1 hT).2]
def X4(l:b4c α):b4c (α × Nat):=l.zipIdx
theorem Tr(l:b4c α):fs (X4 l)=l:=by simp[X4,fs]
theorem mM(l:b4c α):(X4 l).Pairwise (λx y=>x.2<y.2):=by
 rw[List.pairwise_iff_getElem];intro i j hi hj h;simp[X4];omega
def JX(cm:α->α->Int)(l r:b4c α):Prop:=∃S,I7 cm S/\S.Perm (X4 l)/\r=fs S
theorem JX.one(hp:Pre cm Dm){l r t:b4c α}(hD:∀x∈l,Dm x)(h1:JX cm l r)(h2:JX cm l t):r=t:=by
 obtain⟨S,a1,a2,rfl⟩:=h1;obtain⟨T,b1,b2,rfl⟩:=h2;have hm:∀x∈S,Dm x.1:=λx hx=>hD _ (by rw[<-Tr l];exact List.mem_map_of_mem (a2.mem_iff.1 hx))
 rw[eX hp S T (a2.trans b2.symm) hm a1 b1]
end
section
def eK(cmp:B3)(x y:A0 × A0)(z:Int):Prop:=N8 Tryz.prog [] (.clo (.func cmp.fn) cmp.fi cmp.cap) [.agg (L4 x),.agg (L4 y)] (.v (.int .i64 z))
def c6(cmp:B3):FD ((A0 × A0)) (eK cmp) where
 Mo:=λa0 a1 a2 a3 a4 a5 a6=>Ub a0 a1 a2 a3 a4 a5 a6
 sw:=λa0 a1 a2 a3 a4 a6=>QA a0 a1 a2 a3 a4 cmp a6
 Kl:=λa0 a1 a2 a3 a5 a6=>Om a0 a1 a2 a3 cmp a5 a6
 ro:=λa0 a1 a2 a3 a4 a6=>bd a0 a1 a2 a3 a4 cmp a6
 Mf:=λa0 a1 a2 a3 a4 a6 a7=>Vg a0 a1 a2 a3 a4 cmp a6 a7
 Ke:=λa0 a1 a2 a3 a5 a6=>RY a0 a1 a2 a3 cmp a5 a6
 ins:=λa0 a1 a2 a3 a5=>Sh a0 a1 a2 a3 cmp a5
 Mk:=λa0 a1 a2 a3 a4=>Sx a0 a1 a2 a3 a4
 Km:=λa0 a1 a2 a3 a5 a6=>Oo a0 a1 a2 a3 cmp a5 a6
 Mq:=λa0 a1 a2 a3 a4=>TW a0 a1 a2 a3 a4
 KZ:=λa0 a1 a2 a3 a5 a6=>Mz a0 a1 a2 a3 cmp a5 a6
 Ko:=λa0 a1 a2 a3 a4 a6 a7=>Uw a0 a1 a2 a3 a4 cmp a6 a7
 Kp:=λa0 a1 a2 a3 a4 a6 a7=>Sy a0 a1 a2 a3 a4 cmp a6 a7
 Iv:=λa0 a1 a2 a3 a4 a5 a7 a8=>PR a0 a1 a2 a3 a4 a5 cmp a7 a8
 QZ:=λa0 a1 a2 a3 a4 a5 a7 a8=>Qb a0 a1 a2 a3 a4 a5 cmp a7 a8
 sy:=λa0 a1 a2 a3 a4 a6=>LZ a0 a1 a2 a3 a4 cmp a6
 Ml:=λa0 a1 a2 a3 a4 a6 a7=>Rx a0 a1 a2 a3 a4 cmp a6 a7
 Ft:=λa0 a1 a2 a4 a5=>NB a0 a1 a2 cmp a4 a5
 Mp:=λa0 a1 a2 a3 a5 a6=>Ud a0 a1 a2 a3 cmp a5 a6
 st:=λa0 a1 a2 a4=>YW a0 a1 a2 cmp a4
 so:=λa0 a1 a3=>Zm a0 a1 cmp a3
 WE:=λa0 a1 a2 a3 a4 a5 a6 h=>a7r a0 a1 a2 a3 a4 a5 a6 h
 dW:=λa0 a1 a2 a3 a4 a6 h=>a72 a0 a1 a2 a3 a4 cmp a6 h
 QU:=λa0 a1 a2 a3 a5 a6 h=>a7z a0 a1 a2 a3 cmp a5 a6 h
 dX:=λa0 a1 a2 a3 a4 a6 h=>rB a0 a1 a2 a3 a4 cmp a6 h
 QX:=λa0 a1 a2 a3 a4 a6 a7 h=>v6 a0 a1 a2 a3 a4 cmp a6 a7 h
 QJ:=λa0 a1 a2 a3 a5 a6 h=>a25 a0 a1 a2 a3 cmp a5 a6 h
 WS:=λa0 a1 a2 a3 a5 h=>te a0 a1 a2 a3 cmp a5 h
 WI:=λa0 a1 a2 a3 a4 h=>rq a0 a1 a2 a3 a4 h
 QO:=λa0 a1 a2 a3 a5 a6 h=>a59 a0 a1 a2 a3 cmp a5 a6 h
 WF:=λa0 a1 a2 a3 a4 h=>a7n a0 a1 a2 a3 a4 h
 QT:=λa0 a1 a2 a3 a5 a6 h=>a2a a0 a1 a2 a3 cmp a5 a6 h
 WO:=λa0 a1 a2 a3 a4 a6 a7 h=>a8l a0 a1 a2 a3 a4 cmp a6 a7 h
 WK:=λa0 a1 a2 a3 a4 a6 a7 h=>vz a0 a1 a2 a3 a4 cmp a6 a7 h
 QS:=λa0 a1 a2 a3 a4 a5 a7 a8 h=>a3y a0 a1 a2 a3 a4 a5 cmp a7 a8 h
 WP:=λa0 a1 a2 a3 a4 a5 a7 a8 h=>a7c a0 a1 a2 a3 a4 a5 cmp a7 a8 h
 Me:=λa0 a1 a2 a3 a4 a6 h=>yV a0 a1 a2 a3 a4 cmp a6 h
 Mi:=λa0 a1 a2 a3 a4 a6 a7 h=>a4r a0 a1 a2 a3 a4 cmp a6 a7 h
 QW:=λa0 a1 a2 a4 a5 h=>a5r a0 a1 a2 cmp a4 a5 h
 QH:=λa0 a1 a2 a3 a5 a6 h=>vj a0 a1 a2 a3 cmp a5 a6 h
 dY:=λa0 a1 a2 a4 h=>rr a0 a1 a2 cmp a4 h
 dq:=λa0 a1 a3 h=>wB a0 a1 cmp a3 h
def jq(cmp:B3)(x y:Int × A0)(z:Int):Prop:=N8 Tryz.prog [] (.clo (.func cmp.fn) cmp.fi cmp.cap) [.agg (M4 x),.agg (M4 y)] (.v (.int .i64 z))
def d4(cmp:B3):FD ((Int × A0)) (jq cmp) where
 Mo:=λa0 a1 a2 a3 a4 a5 a6=>Qe a0 a1 a2 a3 a4 a5 a6
 sw:=λa0 a1 a2 a3 a4 a6=>ND a0 a1 a2 a3 a4 cmp a6
 Kl:=λa0 a1 a2 a3 a5 a6=>PH a0 a1 a2 a3 cmp a5 a6
 ro:=λa0 a1 a2 a3 a4 a6=>Wp a0 a1 a2 a3 a4 cmp a6
 Mf:=λa0 a1 a2 a3 a4 a6 a7=>Rh a0 a1 a2 a3 a4 cmp a6 a7
 Ke:=λa0 a1 a2 a3 a5 a6=>Rd a0 a1 a2 a3 cmp a5 a6
 ins:=λa0 a1 a2 a3 a5=>Vk a0 a1 a2 a3 cmp a5
 Mk:=λa0 a1 a2 a3 a4=>Qr a0 a1 a2 a3 a4
 Km:=λa0 a1 a2 a3 a5 a6=>Oa a0 a1 a2 a3 cmp a5 a6
 Mq:=λa0 a1 a2 a3 a4=>RV a0 a1 a2 a3 a4
 KZ:=λa0 a1 a2 a3 a5 a6=>Ov a0 a1 a2 a3 cmp a5 a6
 Ko:=λa0 a1 a2 a3 a4 a6 a7=>Qq a0 a1 a2 a3 a4 cmp a6 a7
 Kp:=λa0 a1 a2 a3 a4 a6 a7=>UV a0 a1 a2 a3 a4 cmp a6 a7
 Iv:=λa0 a1 a2 a3 a4 a5 a7 a8=>NA a0 a1 a2 a3 a4 a5 cmp a7 a8
 QZ:=λa0 a1 a2 a3 a4 a5 a7 a8=>VR a0 a1 a2 a3 a4 a5 cmp a7 a8
 sy:=λa0 a1 a2 a3 a4 a6=>MG a0 a1 a2 a3 a4 cmp a6
 Ml:=λa0 a1 a2 a3 a4 a6 a7=>RP a0 a1 a2 a3 a4 cmp a6 a7
 Ft:=λa0 a1 a2 a4 a5=>Py a0 a1 a2 cmp a4 a5
 Mp:=λa0 a1 a2 a3 a5 a6=>RZ a0 a1 a2 a3 cmp a5 a6
 st:=λa0 a1 a2 a4=>ZO a0 a1 a2 cmp a4
 so:=λa0 a1 a3=>ah a0 a1 cmp a3
 WE:=λa0 a1 a2 a3 a4 a5 a6 h=>a0g a0 a1 a2 a3 a4 a5 a6 h
 dW:=λa0 a1 a2 a3 a4 a6 h=>a2j a0 a1 a2 a3 a4 cmp a6 h
 QU:=λa0 a1 a2 a3 a5 a6 h=>a45 a0 a1 a2 a3 cmp a5 a6 h
 dX:=λa0 a1 a2 a3 a4 a6 h=>a5x a0 a1 a2 a3 a4 cmp a6 h
 QX:=λa0 a1 a2 a3 a4 a6 a7 h=>ux a0 a1 a2 a3 a4 cmp a6 a7 h
 QJ:=λa0 a1 a2 a3 a5 a6 h=>xV a0 a1 a2 a3 cmp a5 a6 h
 WS:=λa0 a1 a2 a3 a5 h=>yl a0 a1 a2 a3 cmp a5 h
 WI:=λa0 a1 a2 a3 a4 h=>wz a0 a1 a2 a3 a4 h
 QO:=λa0 a1 a2 a3 a5 a6 h=>a74 a0 a1 a2 a3 cmp a5 a6 h
 WF:=λa0 a1 a2 a3 a4 h=>tI a0 a1 a2 a3 a4 h
 QT:=λa0 a1 a2 a3 a5 a6 h=>wj a0 a1 a2 a3 cmp a5 a6 h
 WO:=λa0 a1 a2 a3 a4 a6 a7 h=>rM a0 a1 a2 a3 a4 cmp a6 a7 h
 WK:=λa0 a1 a2 a3 a4 a6 a7 h=>a95 a0 a1 a2 a3 a4 cmp a6 a7 h
 QS:=λa0 a1 a2 a3 a4 a5 a7 a8 h=>l6 a0 a1 a2 a3 a4 a5 cmp a7 a8 h
 WP:=λa0 a1 a2 a3 a4 a5 a7 a8 h=>rk a0 a1 a2 a3 a4 a5 cmp a7 a8 h
 Me:=λa0 a1 a2 a3 a4 a6 h=>xT a0 a1 a2 a3 a4 cmp a6 h
 Mi:=λa0 a1 a2 a3 a4 a6 a7 h=>a4m a0 a1 a2 a3 a4 cmp a6 a7 h
 QW:=λa0 a1 a2 a4 a5 h=>a8d a0 a1 a2 cmp a4 a5 h
 QH:=λa0 a1 a2 a3 a5 a6 h=>xH a0 a1 a2 a3 cmp a5 a6 h
 dY:=λa0 a1 a2 a4 h=>a6i a0 a1 a2 cmp a4 h
 dq:=λa0 a1 a3 h=>yf a0 a1 cmp a3 h
attribute [local irreducible] Ok run put N0 br jn pos Fo Eu So
theorem uh(f:Nat):A9 Tryz.prog [] 284 [.sl [] .no,aI 0,aI 0,.clo (.func f) [] []] (.tuple []):=
 fP (rfl:()=()) (O8 18 (B:=false) (b:=false) rfl<|KR (T:=Unit) (e:=λ_=>.tuple []) (r:=()) (r0:=()) 4)
theorem wV(f:Nat):A9 Tryz.prog [] 251 [.sl [] .no,aI 0,.clo (.func f) [] []] (.tuple []):=
 fP (And.intro (uh f) (rfl:()=())) (O8 24 (B:=false) (b:=false) rfl<|Db 11<|O8 13 (B:=false) (b:=false) rfl<|KR (T:=Unit) (e:=λ_=>.tuple []) (r:=()) (r0:=()) 4)
theorem a12(f:Nat):fk (⟨f,[],[],rfl⟩:B3):=
 fP (And.intro (wV f) (rfl:()=())) (KL 3 B8 []<|Db 1<|KR (T:=Unit) (e:=λ_=>.tuple []) (r:=()) (r0:=()) 1)
theorem u2(f:Nat):A9 Tryz.prog [] 249 [.sl [] .no,aI 0,aI 0,.clo (.func f) [] []] (.tuple []):=
 fP (rfl:()=()) (O8 18 (B:=false) (b:=false) rfl<|KR (T:=Unit) (e:=λ_=>.tuple []) (r:=()) (r0:=()) 4)
theorem rO(f:Nat):A9 Tryz.prog [] 216 [.sl [] .no,aI 0,.clo (.func f) [] []] (.tuple []):=
 fP (And.intro (u2 f) (rfl:()=())) (O8 24 (B:=false) (b:=false) rfl<|Db 11<|O8 13 (B:=false) (b:=false) rfl<|KR (T:=Unit) (e:=λ_=>.tuple []) (r:=()) (r0:=()) 4)
theorem a2k(f:Nat):fR (⟨f,[],[],rfl⟩:B3):=
 fP (And.intro (rO f) (rfl:()=())) (KL 3 C6 []<|Db 1<|KR (T:=Unit) (e:=λ_=>.tuple []) (r:=()) (r0:=()) 1)
theorem a1z(f:Nat):A9 Tryz.prog [] 222 [.sl [] .no,aI 0,aI 0,.clo (.func f) [] []] (.tuple []):=
 fP (rfl:()=()) (O8 18 (B:=false) (b:=false) rfl<|KR (T:=Unit) (e:=λ_=>.tuple []) (r:=()) (r0:=()) 4)
theorem rD(f:Nat):A9 Tryz.prog [] 178 [.sl [] .no,aI 0,.clo (.func f) [] []] (.tuple []):=
 fP (And.intro (a1z f) (rfl:()=())) (O8 24 (B:=false) (b:=false) rfl<|Db 11<|O8 13 (B:=false) (b:=false) rfl<|KR (T:=Unit) (e:=λ_=>.tuple []) (r:=()) (r0:=()) 4)
theorem a5w(f:Nat):jo (⟨f,[],[],rfl⟩:B3):=
 fP (And.intro (rD f) (rfl:()=())) (KL 3 N9 []<|Db 1<|KR (T:=Unit) (e:=λ_=>.tuple []) (r:=()) (r0:=()) 1)
end
def F4(x y:Int):Int:=if x<y then -1 else if y<x then 1 else 0
theorem LR(x y:Int):Fi x y (F4 x y):=by
 refine l9 _ _ _ ⟨false,ft _ _ (by simp),false,ft _ _ (by simp),λh=>by simp at h,λ_=>⟨λh=>by simp at h,λ_=>⟨λh=>?_,λh=>⟨λh2=>?_,λh2=>?_⟩⟩⟩⟩
 ·simp at h;simp[F4,h]
 ·simp at h h2;simp[F4,h2];omega
 ·simp at h h2;simp only[F4];rw[if_neg (by omega),if_neg (by omega)]
theorem BJ(x y:Int):(x<y/\F4 x y= -1)\/(x=y/\F4 x y=0)\/(y<x/\F4 x y=1):=by
 unfold F4;split
 ·exact .inl ⟨by assumption,rfl⟩
 ·split
  ·exact .inr (.inr ⟨by assumption,rfl⟩)
  ·exact .inr (.inl ⟨by omega,rfl⟩)
theorem lf{α:Type}(k:α->Int):Pre (λx y=>F4 (k x) (k y)) (λ_:α=>True):=by
 refine⟨λx y _ _=>?_,λx y z _ _ _ h1 h2=>?_⟩
 ·rcases BJ (k x) (k y) with h|h|h<;>rcases BJ (k y) (k x) with g|g|g<;>simp only[h.2,g.2]<;>omega
 ·rcases BJ (k x) (k y) with h|h|h<;>rcases BJ (k y) (k z) with g|g|g<;>rcases BJ (k x) (k z) with e|e|e<;>simp only[h.2,g.2,e.2]at* <;>omega
theorem vY(a b:Int × A0):ii a b (F4 a.1 b.1):=a6v _ _ _ ⟨_,LR _ _,rfl⟩
theorem a5s(x y:Int × A0):jq (⟨173,[],[],rfl⟩:B3) x y (F4 x.1 y.1):=⟨173,[],[],rfl,(show B7 [AV.agg (M4 x),AV.agg (M4 y)]=true by simp[B7,plain,T8]),vY x y⟩
def Cs:b4c (Int × A0)->b4c (Int × A0)
 |[]=>[]
 |[x]=>[x]
 |x::y::l=>if x.1=y.1 then Cs (y::l) else x::Cs (y::l)
theorem xm(S:b4c (Int × A0))(hl:S.length*136<=140737488355328):∀(d i:Nat) (done:b4c (Int × A0)),S.length - i<=d->i<=S.length->done.length<=i->Nw i S done (done++Cs (S.drop i)):=by
 intro d
 induction d with
 |zero=>
  intro i done hd hi hn;have e:i=S.length:=by omega
  subst e;exact WY _ _ _ _ ⟨λh=>by simp at h,λ_=>by simp[Cs]⟩
 |succ d ih=>
  intro i done hd hi hn;rcases Nat.lt_or_ge i S.length with hlt|hge
  ·have e1:wI ((i:Int)+1)=((i+1:Nat):Int):=by rw[wI,C0 (by omega)];omega
   have g1:S[i]? =some S[i]:=b3y hlt;have dr:S.drop i=S[i]::S.drop (i+1):=b32 hlt;refine WY _ _ _ _ ⟨λ_=>⟨S[i],by simpa using g1,by omega,λb=>Cs (S.drop i)=if b then S[i]::Cs (S.drop (i+1)) else Cs (S.drop (i+1)),λb hb=>⟨λh=>?_,λh=>?_⟩,λh=>?_,λh=>?_⟩,λh=>by simp at h;omega⟩
   ·subst h;refine⟨by simp;omega,?_⟩;rw[e1,hb];have:=ih (i+1) (done++[S[i]]) (by omega) (by omega) (by simp;omega);simpa using this
   ·subst h;rw[e1,hb];exact ih (i+1) done (by omega) (by omega) (by omega)
   ·rw[e1]at h;simp at h;have:S.drop (i+1)=[]:=b33 (by omega);rw[dr,this];rfl
   ·rw[e1]at h ⊢;simp at h;have h2:i+1<S.length:=by omega
    have g2:S[i+1]? =some S[i+1]:=b3y h2;have dr2:S.drop (i+1)=S[i+1]::S.drop (i+1+1):=b32 h2;refine⟨S[i+1],by simpa using g2,by omega,?_⟩;rw[dr,dr2];simp only[Cs];rcases Classical.em (S[i].1=S[i+1].1) with h3|h3
    ·simp[h3]
    ·simp[h3]
  ·exact WY _ _ _ _ ⟨λh=>by simp at h;omega,λ_=>by rw[b33 hge];simp[Cs]⟩
theorem sd(l:b4c (Int × A0))(hl:l.length*136<=140737488355328):∃S,JX (λx y:Int × A0=>F4 x.1 y.1) l S/\PM l (Cs S):=by
 rcases Classical.em (l=[]) with h0|h0
 ·subst h0;refine⟨[],⟨[],.nil,by simp[X4],rfl⟩,pU _ _ ⟨λ_=>⟨?_,a2k _,vM _ _ _ ⟨λh=>by simp at h,λ_=>rfl⟩⟩,λh=>(h rfl).elim⟩⟩
  first|exact gI _ _ ⟨rfl,rfl⟩|exact gI _ _ λb _=>⟨λ_=>rfl,λ_=>⟨by simp,rfl⟩⟩
 ·have hpos:0<l.length:=List.length_pos_iff.2 h0;obtain⟨S,h1,h2,h3⟩:=eM (d4 ⟨173,[],[],rfl⟩) (lf λx:Int × A0=>x.1) (λx y _ _=>a5s x y) (n0:=l.length) (by omega) hpos (X4 l) (by simp[X4]) (λ_ _=>trivial) (mM l);rw[Tr]at h3;have hlen:(fs S).length=l.length:=by simp[h2.length_eq,X4]
  refine⟨fs S,⟨S,h1,h2,rfl⟩,pU _ _ ⟨λh=>(h0 h).elim,λ_=>⟨zw _ ⟨h0,hl⟩,fs S,h3,⟨h0,λh=>?_⟩,hlen,?_⟩⟩⟩
  ·rw[h]at hlen;simp at hlen;omega
  ·have:=xm (fs S) (by rw[hlen];exact hl) (fs S).length 0 [] (by omega) (by omega) (by simp);simpa using this
def J8{α:Type}(c:α->α->Int):b4c α->b4c α->Int
 |[],[]=>0
 |[],_::_=> -1
 |_::_,[]=>1
 |x::l,y::m=>if c x y≠0 then c x y else J8 c l m
theorem TE{α:Type}{J:Int->b4c α->b4c α->Int->Prop}{C:α->α->Int->Prop}(c:α->α->Int)(step:∀i s t r,((decide (i<(s.length:Int)))=true->∃y4,s[i.toNat]? =some y4/\0<=i/\(((decide ((t.length:Int)<=i))=true->r=1)/\((decide ((t.length:Int)<=i))=false->∃y5,t[i.toNat]? =some y5/\0<=i/\(∃y6,C y4 y5 y6/\(((y6 !=0)=true->r=y6)/\((y6 !=0)=false->J (wI (i+1)) s t r))))))/\((decide (i<(s.length:Int)))=false->((decide ((s.length:Int)<(t.length:Int)))=true->r=(-1))/\((decide ((s.length:Int)<(t.length:Int)))=false->r=0))->J i s t r)(s t:b4c α)(hs:s.length<=140737488351232)(hC:∀x∈s,∀y∈t,C x y (c x y)):J 0 s t (J8 c s t):=by
 have key:∀(d i:Nat),s.length - i<=d->i<=s.length->i<=t.length->J i s t (J8 c (s.drop i) (t.drop i)):=by
  intro d
  induction d with
  |zero=>
   intro i hd hi hj;have e:i=s.length:=by omega
   subst e;refine step _ _ _ _ ⟨λh=>by simp at h,λ_=>⟨λh=>?_,λh=>?_⟩⟩
   ·simp at h;rw[List.drop_length,b32 h];rfl
   ·simp at h;rw[List.drop_length,b33 h];rfl
  |succ d ih=>
   intro i hd hi hj;rcases Nat.lt_or_ge i s.length with hlt|hge
   ·have e1:wI ((i:Int)+1)=((i+1:Nat):Int):=by rw[wI,C0 (by omega)];omega
    have ds:s.drop i=s[i]::s.drop (i+1):=b32 hlt;refine step _ _ _ _ ⟨λ_=>⟨s[i],by simp,by omega,λh=>?_,λh=>?_⟩,λh=>by simp at h;omega⟩
    ·simp at h;rw[ds,b33 h];rfl
    ·simp at h;have dt:t.drop i=t[i]::t.drop (i+1):=b32 h;refine⟨t[i],by simp,by omega,c s[i] t[i],hC _ (List.getElem_mem _) _ (List.getElem_mem _),λh2=>?_,λh2=>?_⟩
     ·simp at h2;rw[ds,dt];simp[J8,h2]
     ·simp at h2;rw[ds,dt,e1];have:=ih (i+1) (by omega) (by omega) (by omega);simpa[J8,h2]using this
   ·have e:i=s.length:=by omega
    subst e;refine step _ _ _ _ ⟨λh=>by simp at h,λ_=>⟨λh=>?_,λh=>?_⟩⟩
    ·simp at h;rw[List.drop_length,b32 h];rfl
    ·simp at h;rw[List.drop_length,b33 h];rfl
 simpa using key s.length 0 (by omega) (by omega) (by omega)
def L7:b4c Int->Int
 |[]=>0
 |x::l=>if x≠0 then x else L7 l
theorem Qi(l:b4c Int)(hl:l.length<=1000):Lr l (L7 l):=by
 refine vK _ _ ?_
 have key:∀(d i:Nat),l.length - i<=d->i<=l.length->Vv i l (L7 (l.drop i)):=by
  intro d
  induction d with
  |zero=>
   intro i hd hi;exact aG _ _ _ ⟨λh=>by simp at h;omega,λ_=>by rw[b33 (by omega)];rfl⟩
  |succ d ih=>
   intro i hd hi;rcases Nat.lt_or_ge i l.length with hlt|hge
   ·have e1:wI ((i:Int)+1)=((i+1:Nat):Int):=by rw[wI,C0 (by omega)];omega
    have ds:l.drop i=l[i]::l.drop (i+1):=b32 hlt;refine aG _ _ _ ⟨λ_=>⟨l[i],by simp,by omega,λh=>?_,λh=>?_⟩,λh=>by simp at h;omega⟩
    ·simp at h;rw[ds];simp[L7,h]
    ·simp at h;rw[ds,e1];have:=ih (i+1) (by omega) (by omega);simpa[L7,h]using this
   ·exact aG _ _ _ ⟨λh=>by simp at h;omega,λ_=>by rw[b33 hge];rfl⟩
 simpa using key l.length 0 (by omega) (by omega)
def Aj(x y:b4b):Int:=if Op.bytesLess x.toList y.toList=true then -1 else if(!(Op.bytesLess x.toList y.toList||x.toList==y.toList))=true then 1 else 0
theorem fm(x y:b4b):VG x y (Aj x y):=by
 refine tq _ _ _ ⟨false,mG _ _ (by simp),false,mG _ _ (by simp),λh=>by simp at h,λ_=>⟨λh=>by simp at h,λ_=>⟨λh=>?_,λh=>⟨λh2=>?_,λh2=>?_⟩⟩⟩⟩
 ·simp[Aj,h]
 ·unfold Aj;rw[if_neg (by rw[h];simp),if_pos h2]
 ·unfold Aj;rw[if_neg (by rw[h];simp),if_neg (by rw[h2];simp)]
theorem Xt(x y:Int):Pd x y (F4 x y):=by
 refine sR _ _ _ ⟨false,jW _ _ (by simp),false,jW _ _ (by simp),λh=>by simp at h,λ_=>⟨λh=>by simp at h,λ_=>⟨λh=>?_,λh=>⟨λh2=>?_,λh2=>?_⟩⟩⟩⟩
 ·simp at h;simp[F4,h]
 ·simp at h h2;simp[F4,h2];omega
 ·simp at h h2;simp only[F4];rw[if_neg (by omega),if_neg (by omega)]
def DB(x:Int):Int:=if((Ai x.toNat:Int)==0)=true then 18446744073709551615 else if((G5 .and .u64 x 9223372036854775808) !=0)=true then G5 .xor .u64 (IntKind.u64.max) x else G5 .or .u64 x 9223372036854775808
theorem lQ(x:Int)(hx:Ab x):Vw x (DB x):=by
 have hc:=Yy x.toNat (by have:=hx.2;omega);rw[show((x.toNat:Nat):Int)=x from Int.toNat_of_nonneg hx.1]at hc;refine a0c _ _ ⟨_,hc,λh=>?_,λh=>⟨λh2=>?_,λh2=>?_⟩⟩
 ·unfold DB;rw[if_pos h]
 ·unfold DB;rw[if_neg (by rw[h];simp),if_pos h2]
 ·unfold DB;rw[if_neg (by rw[h];simp),if_neg (by rw[h2];simp)]
def isS(k:Int):b4e:=(decide (1<=k))&&(decide (k<=9))
def V6(a b:A0):Int:=
 if((a.Kind==7)||(a.Kind==8))=true then Aj a.Text b.Text
 else if((a.Kind==2)||(a.Kind==3))=true then F4 (wI a.Bits) (wI b.Bits)
 else if(a.Kind==6)=true then F4 (DB a.Bits) (DB b.Bits)
 else F4 a.Bits b.Bits
theorem nt{b:b4e}(h:b=false):¬b=true:=by rw[h];simp
theorem a3s(a b:A0)(hk:a.Kind=b.Kind)(hs:isS a.Kind)(ha:Ab a.Bits)(hb:Ab b.Bits):ZM a b (V6 a b):=by
 refine rE _ _ _ ⟨λh=>by simp[hk]at h,λ_=>⟨true,Pm _ _ hs.symm,λh=>by simp at h,λ_=>⟨_,nh _ _ rfl,λh=>⟨_,fm _ _,?_⟩,λh=>⟨λh2=>⟨_,LR _ _,?_⟩,λh2=>⟨λh3=>⟨_,lQ _ ha,_,lQ _ hb,_,Xt _ _,?_⟩,λh3=>⟨_,Xt _ _,?_⟩⟩⟩⟩⟩⟩
 ·unfold V6;rw[if_pos h]
 ·unfold V6;rw[if_neg (nt h),if_pos h2]
 ·unfold V6;rw[if_neg (nt h),if_neg (nt h2),if_pos h3]
 ·unfold V6;rw[if_neg (nt h),if_neg (nt h2),if_neg (nt h3)]
def Dr(x y:D8):Int:=L7 [F4 x.Num y.Num,F4 x.J0 y.J0,F4 x.Bits y.Bits,Aj x.Data y.Data]
def L6:Nat->A0->A0->Int
 |0,_,_=>0
 |n+1,a,b=>
  if a.Kind≠b.Kind then F4 a.Kind b.Kind
  else if isS a.Kind=true then V6 a b
  else if a.Kind=11 then J8 (L6 n) a.B4 b.B4
  else if a.Kind=12 then J8 (λx y=>L7 [L6 n x.1 y.1,L6 n x.2 y.2]) a.Pairs b.Pairs
  else if a.Kind=10 then L7 [J8 (λx y=>L7 [F4 x.1 y.1,L6 n x.2 y.2]) a.Slots b.Slots,J8 Dr a.C1 b.C1]
  else 0
def X2(v:A0):E5:=
 if isS v.Kind=true then .Fy v else if(v.Kind==11)=true then .Da v.B4 else if(v.Kind==12)=true then .DZ v.Pairs else if(v.Kind==10)=true then .DX ⟨v.Slots,v.C1⟩ else .nil
theorem lM(v:A0):Qf v (X2 v):=by
 refine rh _ _ ⟨_,Pm _ _ rfl,λh=>?_,λh=>⟨λh1=>?_,λh1=>⟨λh2=>?_,λh2=>⟨λh3=>?_,λh3=>?_⟩⟩⟩⟩
 ·unfold X2 isS;rw[if_pos h]
 ·unfold X2 isS;rw[if_neg (nt h),if_pos h1]
 ·unfold X2 isS;rw[if_neg (nt h),if_neg (nt h1),if_pos h2]
 ·unfold X2 isS;rw[if_neg (nt h),if_neg (nt h1),if_neg (nt h2),if_pos h3]
 ·unfold X2 isS;rw[if_neg (nt h),if_neg (nt h1),if_neg (nt h2),if_neg (nt h3)]
theorem C8.inv{v:A0}(h:C8 v):I64 v.Kind/\Ab v.Bits/\(Sz v.B4.length/\Sz v.Pairs.length/\Sz v.Slots.length/\Sz v.C1.length)/\(∀x∈v.B4,C8 x)/\(∀x∈v.Pairs,C8 x.1/\C8 x.2)/\(∀x∈v.Slots,C8 x.2):=by
 cases h with
 |mk _ k b t l p s r hl hk hv hn hs hr w=>exact⟨k,b,⟨l,p,s,r⟩,hl,λx hx=>⟨hk x hx,hv x hx⟩,hs⟩
theorem C8.w{v:A0}(h:C8 v):Sz (v.B4.length*128)/\Sz (v.Pairs.length*256)/\Sz (v.Slots.length*136)/\Sz (v.C1.length*40):=by
 cases h with
 |mk _ _ _ _ _ _ _ _ _ _ _ _ _ _ w=>exact w
theorem a5g(x y:D8):lz x y (Dr x y):=o7 _ _ _ ⟨_,LR _ _,_,LR _ _,_,Xt _ _,_,fm _ _,_,Qi _ (by simp),rfl⟩
theorem Az{a x:A0}(h:x∈a.B4):SizeOf.sizeOf x<SizeOf.sizeOf a:=by
 have:=List.sizeOf_lt_of_mem h;cases a;simp at this ⊢;omega
theorem AH{a:A0}{x:A0 × A0}(h:x∈a.Pairs):SizeOf.sizeOf x.1<SizeOf.sizeOf a/\SizeOf.sizeOf x.2<SizeOf.sizeOf a:=by
 have:=List.sizeOf_lt_of_mem h;cases a;cases x;simp at this ⊢;omega
theorem BC{a:A0}{x:Int × A0}(h:x∈a.Slots):SizeOf.sizeOf x.2<SizeOf.sizeOf a:=by
 have:=List.sizeOf_lt_of_mem h;cases a;cases x;simp at this ⊢;omega
theorem Ao(a:A0):0<SizeOf.sizeOf a:=by cases a;simp;omega
theorem Jd:∀(n:Nat) (a b:A0),C8 a->C8 b->SizeOf.sizeOf a<=n->JH a b (L6 n a b)
 |0,a,b,_,_,h=>by have:=Ao a;omega
 |n+1,a,b,ha,hb,hn=>by
  obtain⟨_,hab,⟨la,pa,sa,ra⟩,hla,hpa,hsa⟩:=ha.inv;obtain⟨_,hbb,_,hlb,hpb,hsb⟩:=hb.inv;refine uc _ _ _ ⟨λh=>⟨_,LR _ _,?_⟩,λh=>⟨_,lM b,_,lM a,?_⟩⟩
  ·simp at h;rw[L6,if_pos h]
  have hk:a.Kind=b.Kind:=by simpa using h
  rw[L6,if_neg (by simp[hk])]
  by_cases h1:isS a.Kind=true
  ·have ea:X2 a=.Fy a:=by unfold X2;rw[if_pos h1]
   rw[if_pos h1,ea];refine⟨λy hy=>?_,λhn=>(hn a rfl).elim⟩;cases hy;exact⟨_,a3s a b hk h1 hab hbb,rfl⟩
  ·rw[if_neg h1]
   by_cases h2:a.Kind=11
   ·have ea:X2 a=.Da a.B4:=by unfold X2;rw[if_neg h1,if_pos (by simp[h2])]
    have eb:X2 b=.Da b.B4:=by unfold X2;rw[if_neg (by rw[<-hk];exact h1),if_pos (by simp[<-hk,h2])]
    rw[if_pos h2,ea,eb];refine⟨λy hy=>(by cases hy),λ_=>⟨λy hy=>?_,λhn=>(hn _ rfl).elim⟩⟩;cases hy;refine⟨_,rfl,_,yL _ _ _ _ (TE (J:=λi s t r=>VL i s t (⟨220,[],[],rfl⟩:B3) r) (L6 n) (λi s t r hw=>sP _ _ _ _ _ hw) _ _ la λx hx y hy=>?_),rfl⟩;exact⟨220,[],[],rfl,(show B7 [AV.agg (C4 x),AV.agg (C4 y)]=true by simp[B7,plain,T0]),Jd n x y (hla x hx) (hlb y hy) (by have:=Az hx;omega)⟩
   ·rw[if_neg h2]
    by_cases h3:a.Kind=12
    ·have ea:X2 a=.DZ a.Pairs:=by unfold X2;rw[if_neg h1,if_neg (by simp[h2]),if_pos (by simp[h3])]
     have eb:X2 b=.DZ b.Pairs:=by unfold X2;rw[if_neg (by rw[<-hk];exact h1),if_neg (by simp[<-hk,h2]),if_pos (by simp[<-hk,h3])]
     rw[if_pos h3,ea,eb];refine⟨λy hy=>(by cases hy),λ_=>⟨λy hy=>(by cases hy),λ_=>⟨λy hy=>?_,λhn=>(hn _ rfl).elim⟩⟩⟩;cases hy;refine⟨_,rfl,_,b11 _ _ _ _ (TE (J:=λi s t r=>SV i s t (⟨256,[],[],rfl⟩:B3) r) (λx y=>L7 [L6 n x.1 y.1,L6 n x.2 y.2]) (λi s t r hw=>a2f _ _ _ _ _ hw) _ _ pa λx hx y hy=>?_),rfl⟩;have hz:=AH hx;exact⟨256,[],[],rfl,(show B7 [AV.agg (L4 x),AV.agg (L4 y)]=true by simp[B7,plain,T9]),yz _ _ _ ⟨_,Jd n _ _ (hpa x hx).1 (hpb y hy).1 (by omega),_,Jd n _ _ (hpa x hx).2 (hpb y hy).2 (by omega),_,Qi _ (by simp),rfl⟩⟩
    ·rw[if_neg h3]
     by_cases h4:a.Kind=10
     ·have ea:X2 a=.DX ⟨a.Slots,a.C1⟩:=by unfold X2;rw[if_neg h1,if_neg (by simp[h2]),if_neg (by simp[h3]),if_pos (by simp[h4])]
      have eb:X2 b=.DX ⟨b.Slots,b.C1⟩:=by unfold X2;rw[if_neg (by rw[<-hk];exact h1),if_neg (by simp[<-hk,h2]),if_neg (by simp[<-hk,h3]),if_pos (by simp[<-hk,h4])]
      rw[if_pos h4,ea,eb];refine⟨λy hy=>(by cases hy),λ_=>⟨λy hy=>(by cases hy),λ_=>⟨λy hy=>(by cases hy),λ_=>⟨λy hy=>?_,λhn=>(hn _ rfl).elim⟩⟩⟩⟩;cases hy;refine⟨_,rfl,_,o6 _ _ _ _ (TE (J:=λi s t r=>TA i s t (⟨259,[],[],rfl⟩:B3) r) (λx y=>L7 [F4 x.1 y.1,L6 n x.2 y.2]) (λi s t r hw=>vf _ _ _ _ _ hw) _ _ sa λx hx y hy=>?_),_,a3c _ _ _ _ (TE (J:=λi s t r=>TF i s t (⟨261,[],[],rfl⟩:B3) r) Dr (λi s t r hw=>ur _ _ _ _ _ hw) _ _ ra λx hx y hy=>?_),_,Qi _ (by simp),rfl⟩
      ·have hz:=BC hx;exact⟨259,[],[],rfl,(show B7 [AV.agg (M4 x),AV.agg (M4 y)]=true by simp[B7,plain,T8]),a67 _ _ _ ⟨_,LR _ _,_,Jd n _ _ (hsa x hx) (hsb y hy) (by omega),_,Qi _ (by simp),rfl⟩⟩
      ·exact⟨261,[],[],rfl,(show B7 [AV.agg (G6 x),AV.agg (G6 y)]=true by simp[B7,plain,T5]),a5g x y⟩
     ·have ea:X2 a=.nil:=by unfold X2;rw[if_neg h1,if_neg (by simp[h2]),if_neg (by simp[h3]),if_neg (by simp[h4])]
      rw[if_neg h4,ea];exact⟨λy hy=>(by cases hy),λ_=>⟨λy hy=>(by cases hy),λ_=>⟨λy hy=>(by cases hy),λ_=>⟨λy hy=>(by cases hy),λ_=>rfl⟩⟩⟩⟩
theorem zF(a:Nat)(h:a<18446744073709551616):G5 .xor .u64 (IntKind.u64.max) (a:Int)=((18446744073709551615 - a:Nat):Int):=by
 have e3:G5 .xor .u64 (IntKind.u64.max) (a:Int)=IntKind.u64.wrap (((BitVec.allOnes 64 ^^^ BitVec.ofInt 64 (a:Int)).toNat:Nat):Int):=rfl;rw[e3,BitVec.xor_comm];exact wS a h
theorem po(a:Nat)(h:a<18446744073709551616):(G5 .and .u64 (a:Int) 9223372036854775808 !=0)=decide (9223372036854775808<=a):=by
 have e:=bg a 9223372036854775808 h (by omega);rw[show((9223372036854775808:Nat):Int)=9223372036854775808 from rfl]at e;rw[e]
 by_cases h1:9223372036854775808<=a
 ·have ea:a=(a - 9223372036854775808)|||9223372036854775808:=by
   have e2:=gr (a - 9223372036854775808) 1 63 (by rw[show(2:Nat) ^ 63=9223372036854775808 by decide];omega);rw[Nat.one_mul,show(2:Nat) ^ 63=9223372036854775808 by decide]at e2;rw[e2];omega
  have e3:a&&&9223372036854775808=9223372036854775808:=by
   rw[ea];apply Nat.eq_of_testBit_eq;intro i;rw[Nat.testBit_and,Nat.testBit_or];generalize Nat.testBit (a - 9223372036854775808) i=t;generalize Nat.testBit 9223372036854775808 i=u;cases t<;>cases u<;>rfl
  rw[e3];simp[h1]
 ·have e3:a&&&9223372036854775808=0:=by
   apply Nat.eq_of_testBit_eq;intro i;rw[Nat.testBit_and,show(9223372036854775808:Nat)=2 ^ 63 by decide,Nat.testBit_two_pow]
   by_cases hi:63=i
   ·subst hi;rw[Nat.testBit_lt_two_pow (by rw[show(2:Nat) ^ 63=9223372036854775808 by decide];omega)];simp
   ·simp[hi]
  rw[e3];simp[h1]
theorem a6a(a:Nat)(h:a<9223372036854775808):G5 .or .u64 (a:Int) 9223372036854775808=((a+9223372036854775808:Nat):Int):=by
 have e:=a0o a 9223372036854775808 (by omega) (by omega);rw[show((9223372036854775808:Nat):Int)=9223372036854775808 from rfl]at e;rw[e];have e2:=gr a 1 63 (by rw[show(2:Nat) ^ 63=9223372036854775808 by decide];exact h);rw[Nat.one_mul,show(2:Nat) ^ 63=9223372036854775808 by decide]at e2;rw[e2]
theorem a1c(x:Int)(hx:Ab x):DB x=if Ai x.toNat=0 then 18446744073709551615 else if 9223372036854775808<=x then wU (18446744073709551615 - x) else wU (x+9223372036854775808):=by
 obtain⟨h1,h2⟩:=hx;have hz:x=(x.toNat:Int):=by omega
 generalize x.toNat=z at hz;subst hz;unfold DB;rw[po z (by omega),zF z (by omega)];have e0:(Int.toNat (z:Int))=z:=by omega
 rw[e0]
 by_cases h3:Ai z=0
 ·rw[if_pos h3,if_pos (by simp[h3])]
 ·rw[if_neg h3,if_neg (by simp;omega)]
  by_cases h4:9223372036854775808<=z
  ·rw[if_pos (by simpa using h4),if_pos (by omega),wU,DO (by omega)];omega
  ·rw[if_neg (by simpa using h4),if_neg (by omega),a6a z (by omega),wU,DO (by omega)];omega
def NV(v:A0):Int:=if v.Kind=2\/v.Kind=3 then wU (v.Bits+9223372036854775808) else if v.Kind≠6 then v.Bits else DB v.Bits
theorem SG(v:A0)(hb:Ab v.Bits):LN v (NV v):=by
 have hz:v.Bits=(v.Bits.toNat:Int):=by have:=hb.1;omega
 have hc:=cO v.Bits.toNat (by have:=hb.2;omega);rw[<-hz]at hc;unfold NV;rw[a1c _ hb];refine vF _ _ ⟨_,wh _ _ rfl,λh=>?_,λh=>⟨λh2=>?_,λh2=>⟨_,hc,λh3=>?_,λh3=>⟨λh4=>?_,λh4=>?_⟩⟩⟩⟩
 all_goals simp only[Bool.or_eq_true,Bool.or_eq_false_iff,beq_iff_eq,beq_eq_false_iff_ne,bne_iff_ne,bne_eq_false_iff_eq,b3v,b3w,ne_eq]at*
 ·rw[if_pos h]
 ·rw[if_neg (by omega),if_pos h2]
 ·rw[if_neg (by omega),if_neg (by omega),if_pos (by omega)]
 ·rw[if_neg (by omega),if_neg (by omega),if_neg (by omega),if_pos h4]
 ·rw[if_neg (by omega),if_neg (by omega),if_neg (by omega),if_neg h4]
theorem a7h{x y x' y':Int}(h1:x<y↔x'<y')(h2:y<x↔y'<x'):F4 x y=F4 x' y':=by
 unfold F4;simp only[h1,h2]
theorem Xo(a b:A0)(hk:a.Kind=b.Kind)(ht:((a.Kind==7)||(a.Kind==8))=false)(ha:Ab a.Bits)(hb:Ab b.Bits):V6 a b=F4 (NV a) (NV b):=by
 unfold V6 NV;rw[if_neg (nt ht),<-hk]
 by_cases h1:a.Kind=2\/a.Kind=3
 ·rw[if_pos (by simpa using h1),if_pos h1,if_pos h1];obtain⟨a1,a2⟩:=ha;obtain⟨b1,b2⟩:=hb
  have key:∀z:Int,0<=z->z<18446744073709551616->(z<9223372036854775808/\wI z=z/\wU (z+9223372036854775808)=z+9223372036854775808)\/(9223372036854775808<=z/\wI z=z - 18446744073709551616/\wU (z+9223372036854775808)=z - 9223372036854775808):=by
   intro z z1 z2;rcases Int.lt_or_le z 9223372036854775808 with h|h
   ·exact .inl ⟨h,by rw[wI,C0 (by omega)],by rw[wU,DO (by omega)]⟩
   ·refine .inr ⟨h,?_,?_⟩
    ·simp only[wI,IntKind.wrap,IntKind.bits,IntKind.signed,Bool.true_and,b3v];split<;>rename_i hq<;>first|omega|(simp at hq;omega)
    ·simp only[wU,IntKind.wrap,IntKind.bits,IntKind.signed,Bool.false_and,Bool.false_eq_true,if_false];omega
  rcases key a.Bits a1 a2 with⟨p1,p2,p3⟩|⟨p1,p2,p3⟩<;>rcases key b.Bits b1 b2 with⟨q1,q2,q3⟩|⟨q1,q2,q3⟩<;>rw[p2,p3,q2,q3]<;>exact a7h (by omega) (by omega)
 ·rw[if_neg (by simpa using h1),if_neg h1,if_neg h1]
  by_cases h2:a.Kind=6
  ·rw[if_pos (by simp[h2]),if_neg (by simp[h2]),if_neg (by simp[h2])]
  ·rw[if_neg (by simp[h2]),if_pos h2,if_pos h2]
theorem Jq(x y:Int):DQ x y (F4 x y):=by
 refine b0d _ _ _ ⟨λh=>?_,λh=>⟨λh2=>?_,λh2=>?_⟩⟩
 ·simp at h;simp[F4,h]
 ·simp at h h2;simp[F4,h2];omega
 ·simp at h h2;simp only[F4];rw[if_neg (by omega),if_neg (by omega)]
theorem r5(a b:A0)(hk:a.Kind=b.Kind)(ha:Ab a.Bits)(hb:Ab b.Bits):ZD a b (if isS a.Kind=true then V6 a b else 0):=by
 have tx:LK a.Kind ((a.Kind==7)||(a.Kind==8)):=fY _ _ rfl;refine zY _ _ _ ⟨λh=>by simp[hk]at h,λ_=>⟨λh=>by simp[hk]at h,λ_=>⟨isS a.Kind,Yl _ _ rfl,λh=>?_,λh=>?_⟩⟩⟩
 ·rw[if_neg (by simpa using h)]
 have hs:isS a.Kind:=by simpa using h
 rw[if_pos hs];refine⟨_,tx,λh1=>?_,λh1=>⟨_,tx,λh2=>?_,λh2=>⟨_,tx,λh3=>?_,λh3=>⟨_,SG a ha,_,SG b hb,λh4=>?_,λh4=>⟨_,SG a ha,_,SG b hb,λh5=>?_,λh5=>?_⟩⟩⟩⟩⟩
 ·rw[b3x]at h1;unfold V6 Aj;rw[if_pos h1.1,if_pos h1.2]
 ·rw[b3x]at h2;rw[h2.1,Bool.true_and]at h1;unfold V6 Aj;rw[if_pos h2.1,if_neg (nt h1),if_pos h2.2]
 ·rw[h3,Bool.true_and]at h1 h2;unfold V6 Aj;rw[if_pos h3,if_neg (nt h1),if_neg (nt h2)]
 ·rw[Xo a b hk h3 ha hb];simp at h4;simp[F4,h4]
 ·rw[Xo a b hk h3 ha hb];simp at h4 h5;simp[F4,h5];omega
 ·rw[Xo a b hk h3 ha hb];simp at h4 h5;simp only[F4];rw[if_neg (by omega),if_neg (by omega)]
theorem b0w(n:Nat)(hn:n<65):Oy 2 (n:Int) (0,((2*n:Nat):Int)):=by
 refine Wr _ _ _ ⟨(0,((2*n:Nat):Int)),Yx _ _ _ ?_,rfl⟩;revert n;decide+kernel
theorem a6y(n:Nat)(hn:n<65):Oy 1 (n:Int) (0,((1*n:Nat):Int)):=by
 refine Wr _ _ _ ⟨(0,((1*n:Nat):Int)),Yx _ _ _ ?_,rfl⟩;revert n;decide+kernel
theorem Um(s t:b4b)(b:b4e)(h:(Nat.ble t.size s.size&&decide (s.extract 0 t.size=t))=b):FK s t b:=by
 refine oh _ _ _ ⟨b,fZ _ _ _ ⟨λh1=>⟨⟨by omega,by omega,by simpa using h1⟩,?_⟩,λh1=>?_⟩,rfl⟩
 ·have:Nat.ble t.size s.size:=by rw[Nat.ble_eq];have:=of_decide_eq_true h1;omega
  rw[this,Bool.true_and]at h;rw[<-h];rfl
 ·have:Nat.ble t.size s.size=false:=by
   cases hb:Nat.ble t.size s.size with
   |false=>rfl
   |true=>have:=b37 hb;have:=of_decide_eq_false h1;omega
  rw[this,Bool.false_and]at h;exact h.symm
theorem Za(m k:Nat)(b:UInt8)(h:k<=m):(bR m b).extract 0 k=bR k b:=by
 rw[RF];unfold bR;simp[List.take_replicate,Nat.min_eq_left h]
theorem a29(n:Nat)(hn:n<=64):MT ⟨#[32,32]⟩ (n:Int) (bR (2*n) 32):=by
 have w:wU (n:Int)=n:=by rw[wU,DO (by omega)]
 have w2:wI (((2*n:Nat):Int))=((2*n:Nat):Int):=by rw[wI,C0 (by omega)]
 refine Wt _ _ _ ⟨λh=>?_,λh=>⟨λh1=>?_,λh1=>⟨λh2=>?_,λh2=>⟨(0,((2*n:Nat):Int)),?_,λh3=>?_,λh3=>⟨λh4=>(by cases h4),λh4=>⟨⟨by decide,by decide⟩,λh5=>?_,λh5=>(by cases h5)⟩⟩⟩⟩⟩⟩
 ·have:n=0:=by simp only[beq_iff_eq]at h;omega
  subst this;rfl
 ·have:n=1:=by simp only[beq_iff_eq]at h1;omega
  subst this;rfl
 ·have:=of_decide_eq_true h2;omega
 ·rw[w];exact b0w n (by omega)
 ·simp only[Bool.or_eq_true,b3v]at h3;omega
 ·refine aR _ _ _ _ ⟨λ_=>⟨λz=>z=true,λz hz=>⟨λ_=>⟨?_,?_⟩,λh=>(by rw[hz]at h;cases h)⟩,λ_=>⟨_,Um _ _ true (by decide+kernel),rfl⟩,λh=>?_⟩,λh=>(by cases h)⟩
  ·simp only;rw[w2,AF];omega
  ·simp only;rw[w2];exact(Za 128 (2*n) 32 (by omega)).symm
  ·simp only at h;rw[w2]at h;have:=of_decide_eq_false h;omega
theorem a78(n:Nat)(hn:n<=64):MT ⟨#[48]⟩ (n:Int) (bR n 48):=by
 have w:wU (n:Int)=n:=by rw[wU,DO (by omega)]
 have w2:wI (((1*n:Nat):Int))=(n:Int):=by rw[wI,C0 (by omega)];omega
 refine Wt _ _ _ ⟨λh=>?_,λh=>⟨λh1=>?_,λh1=>⟨λh2=>?_,λh2=>⟨(0,((1*n:Nat):Int)),?_,λh3=>?_,λh3=>⟨λh4=>(by cases h4),λh4=>⟨⟨by decide,by decide⟩,λh5=>(by cases h5),λh5=>⟨λh6=>(by cases h6),λh6=>⟨λh7=>?_,λh7=>(by cases h7)⟩⟩⟩⟩⟩⟩⟩⟩
 ·have:n=0:=by simp only[beq_iff_eq]at h;omega
  subst this;rfl
 ·have:n=1:=by simp only[beq_iff_eq]at h1;omega
  subst this;rfl
 ·have:=of_decide_eq_true h2;omega
 ·rw[w];exact a6y n (by omega)
 ·simp only[Bool.or_eq_true,b3v]at h3;omega
 ·refine aR _ _ _ _ ⟨λ_=>⟨λz=>z=false,λz hz=>⟨λh=>(by rw[hz]at h;cases h),λ_=>⟨λz=>z=false,λz hz=>⟨λh=>(by rw[hz]at h;cases h),λ_=>⟨λz=>z=true,λz hz=>⟨λ_=>⟨?_,?_⟩,λh=>(by rw[hz]at h;cases h)⟩,λ_=>⟨_,Um _ _ true (by decide+kernel),rfl⟩,λh=>?_⟩⟩,λ_=>⟨_,Um _ _ false (by decide+kernel),rfl⟩,λ_=>rfl⟩⟩,λ_=>⟨_,Um _ _ false (by decide+kernel),rfl⟩,λ_=>rfl⟩,λh=>(by cases h)⟩
  ·simp only;rw[w2,AF];omega
  ·simp only;rw[w2];exact(Za 64 n 48 (by omega)).symm
  ·simp only at h;rw[w2]at h;have:=of_decide_eq_false h;omega
def IQ(u:Nat):b4b:=
 if Ai u=0 then⟨#[110,97,110]⟩ else if Ai u=1 then(if 9223372036854775808<=u then⟨#[45,105,110,102]⟩ else⟨#[105,110,102]⟩) else⟨#[48,120]⟩++Hv u
theorem ST(a b:Nat):(((a:Nat):Int)==(b:Int))=decide (a=b):=by
 by_cases h:a=b
 ·simp[h]
 ·simp[h];omega
theorem wW(u:Nat):(Ji u).size=Y2 u:=by
 show(Z8 (Y2 u) u).toArray.size=_;rw[List.size_toArray,OG]
theorem b2k(mg:Int)(u:Nat)(hu:u<18446744073709551616):dU mg u (IQ u):=by
 have c0:(((Ai u:Nat):Int)==0)=decide (Ai u=0):=ST _ 0;have c1:(((Ai u:Nat):Int)==1)=decide (Ai u=1):=ST _ 1;refine a7j _ _ _ ⟨_,Yy u hu,?_⟩;rw[c0,c1,po u hu];unfold IQ;refine⟨λh=>by rw[if_pos (of_decide_eq_true h)],λh=>?_⟩;rw[if_neg (of_decide_eq_false h)];refine⟨λh1=>?_,λh1=>⟨λh2=>?_,λh2=>?_⟩⟩
 ·simp only[b3x,b3v]at h1;rw[if_pos h1.1,if_pos h1.2]
 ·have:=of_decide_eq_true h2;rw[if_pos this,if_neg];intro h3;simp[this,h3]at h1
 ·rw[if_neg (of_decide_eq_false h2)];have hl:Y2 u<=16:=aP 15 u (by simpa using hu);have hz:=wW u;refine⟨_,p4 mg u hu,bR (16 - Y2 u) 48,?_,?_,?_,?_⟩
  ·have e:wI (16 - ((Ji u).size:Int))=((16 - Y2 u:Nat):Int):=by rw[hz,wI,C0 (by omega)];omega
   rw[e];exact a78 _ (by omega)
  ·rw[AF,show(⟨#[48,120]⟩:b4b).size=2 from rfl];omega
  ·rw[H5,AF,hz,show(⟨#[48,120]⟩:b4b).size=2 from rfl];omega
  ·rw[CF,wg u hu]
def Fd(n:Int):b4b:=⟨(Lib.itoa n).toArray⟩
def CE(v:A0):b4b:=
 if V4 v.Kind v=false then⟨#[]⟩ else if v.Kind=1 then(if v.Bits=1 then⟨#[116,114,117,101]⟩ else⟨#[102,97,108,115,101]⟩)
 else if v.Kind=2\/v.Kind=3 then Fd (wI v.Bits) else if v.Kind=6 then IQ v.Bits.toNat else if v.Kind=7 then ES v.Text else if v.Kind=8 then⟨#[120]⟩++ES (Bx v.Text) else Y1 v.Bits.toNat
theorem WZ{v:A0}(h:V4 v.Kind v):v.Text.size<=4096:=by
 have f:=Sf v h
 by_cases h78:v.Kind=7\/v.Kind=8
 ·exact(f.2.2.1 h78).2.1
 ·unfold V4 at h;rw[if_neg h78]at h;simp only[b3x,b3v]at h;rw[h.2.1];decide
theorem gW(s:b4b):∀(f p:Nat),p<=s.size->(DA s f p).size<=4*(s.size - p)+1
 |0,p,h=>by show 1<=_;omega
 |f+1,p,h=>by
  rw[DA];split
  ·rename_i hp;have k1:=VS s p;have k2:=cZ s p hp;have k3:=au s p hp;have:=gW s f (p+As s p) k2;rw[H5];omega
  ·show 1<=_;omega
theorem RQ(s:b4b):(ES s).size<=4*s.size+2:=by
 have:=gW s s.size 0 (Nat.zero_le _);rw[ES,H5,show(⟨#[34]⟩:b4b).size=1 from rfl];omega
theorem a8t:∀(n u:Nat),u<10 ^ (n+1)->(Y1 u).size<=n+1:=by
 intro n
 induction n with
 |zero=>
  intro u h;rw[PL u (by omega)];show 1<=_;omega
 |succ n ih=>
  intro u h
  by_cases hu:u<10
  ·rw[PL u hu];show 1<=_;omega
  ·rw[iE u hu,H5];have:=ih (u / 10) (by rw[Nat.pow_succ]at h;omega);have:(⟨#[UInt8.ofNat (48+u % 10)]⟩:b4b).size=1:=rfl;omega
theorem YG(u:Nat)(h:u<18446744073709551616):(Y1 u).size<=20:=a8t 19 u (by omega)
theorem iu(u:Nat):(Hv u).size=16:=by
 show(Z8 16 u).toArray.size=_;rw[List.size_toArray,OG]
theorem RK{α:Type}{J:Int->b4c α->b4c α->Int->Prop}{C:α->α->Int->Prop}(c:α->α->Int)(step:∀i s t r,(((decide (i<(s.length:Int)))&&(decide (i<(t.length:Int))))=true->∃y6,s[i.toNat]? =some y6/\0<=i/\(∃y7,t[i.toNat]? =some y7/\0<=i/\(∃y8,C y6 y7 y8/\(((y8 !=0)=true->r=y8)/\((y8 !=0)=false->J (wI (i+1)) s t r)))))/\(((decide (i<(s.length:Int)))&&(decide (i<(t.length:Int))))=false->∃y5,DQ (s.length:Int) (t.length:Int) y5/\(r=y5))->J i s t r)(s t:b4c α)(hs:s.length<=140737488351232)(hC:∀x∈s,∀y∈t,C x y (c x y)):J 0 s t (J8 c s t):=by
 have key:∀(d i:Nat),s.length - i<=d->i<=s.length->i<=t.length->J i s t (J8 c (s.drop i) (t.drop i)):=by
  intro d
  induction d with
  |zero=>
   intro i hd hi hj;refine step _ _ _ _ ⟨λh=>by simp at h;omega,λ_=>⟨_,Jq _ _,?_⟩⟩;rw[b33 (show s.length<=i by omega)];rcases Nat.lt_or_ge i t.length with h|h
   ·rw[b32 h];simp only[J8,F4];rw[if_pos (by omega)]
   ·rw[b33 h];simp only[J8,F4];rw[if_neg (by omega),if_neg (by omega)]
  |succ d ih=>
   intro i hd hi hj;rcases Nat.lt_or_ge i s.length with hlt|hge
   ·have ds:s.drop i=s[i]::s.drop (i+1):=b32 hlt;rcases Nat.lt_or_ge i t.length with h|h
    ·have e1:wI ((i:Int)+1)=((i+1:Nat):Int):=by rw[wI,C0 (by omega)];omega
     have dt:t.drop i=t[i]::t.drop (i+1):=b32 h;refine step _ _ _ _ ⟨λ_=>⟨s[i],by simp,by omega,t[i],by simp,by omega,c s[i] t[i],hC _ (List.getElem_mem _) _ (List.getElem_mem _),λh2=>?_,λh2=>?_⟩,λh2=>by simp at h2;omega⟩
     ·simp at h2;rw[ds,dt];simp[J8,h2]
     ·simp at h2;rw[ds,dt,e1];have:=ih (i+1) (by omega) (by omega) (by omega);simpa[J8,h2]using this
    ·refine step _ _ _ _ ⟨λh=>by simp at h;omega,λ_=>⟨_,Jq _ _,?_⟩⟩;rw[ds,b33 h];simp only[J8,F4];rw[if_neg (by omega),if_pos (by omega)]
   ·refine step _ _ _ _ ⟨λh=>by simp at h;omega,λ_=>⟨_,Jq _ _,?_⟩⟩;rw[b33 hge];rcases Nat.lt_or_ge i t.length with h|h
    ·rw[b32 h];simp only[J8,F4];rw[if_pos (by omega)]
    ·rw[b33 h];simp only[J8,F4];rw[if_neg (by omega),if_neg (by omega)]
 simpa using key s.length 0 (by omega) (by omega) (by omega)
theorem UJ{x y:Int}:F4 x y≠0↔x≠y:=by
 rcases BJ x y with h|h|h<;>rw[h.2]<;>omega
theorem vA(x y:D8):YM x y (Dr x y):=by
 unfold Dr;refine a4g _ _ _ ⟨λh=>⟨_,Jq _ _,?_⟩,λh=>⟨λh2=>⟨_,Jq _ _,?_⟩,λh2=>⟨λh3=>?_,λh3=>⟨λh4=>?_,λh4=>⟨λh5=>?_,λh5=>⟨λh6=>?_,λh6=>?_⟩⟩⟩⟩⟩⟩
 ·simp at h;simp only[L7];rw[if_pos (UJ.2 h)]
 all_goals simp only[bne_eq_false_iff_eq]at h
 all_goals have e1:F4 x.Num y.Num=0:=by rcases BJ x.Num y.Num with g|g|g<;>omega
 ·simp at h2;simp only[L7,e1];rw[if_neg (by simp),if_pos (UJ.2 h2)]
 all_goals simp only[bne_eq_false_iff_eq]at h2
 all_goals have e2:F4 x.J0 y.J0=0:=by rcases BJ x.J0 y.J0 with g|g|g<;>omega
 ·simp at h3;have e3:F4 x.Bits y.Bits= -1:=by simp[F4,h3]
  simp[L7,e1,e2,e3]
 ·simp at h3 h4;have e3:F4 x.Bits y.Bits=1:=by simp[F4,h4];omega
  simp[L7,e1,e2,e3]
 all_goals simp only[b3w]at h3 h4
 all_goals have e3:F4 x.Bits y.Bits=0:=by rcases BJ x.Bits y.Bits with g|g|g<;>omega
 ·simp[L7,e1,e2,e3,Aj,h5]
 ·have e4:Aj x.Data y.Data=1:=by unfold Aj;rw[if_neg (nt h5),if_pos h6]
  simp[L7,e1,e2,e3,e4]
 ·have e4:Aj x.Data y.Data=0:=by unfold Aj;rw[if_neg (nt h5),if_neg (nt h6)]
  simp[L7,e1,e2,e3,e4]
theorem QY(u v:Int):L7 [u,v]=if u≠0 then u else v:=by
 simp only[L7]
 by_cases hu:u=0
 ·subst hu;by_cases hv:v=0<;>simp[hv]
 ·simp[hu]
theorem Jy:∀(n:Nat) (a b:A0),C8 a->C8 b->SizeOf.sizeOf a<=n->Cz a b (L6 n a b)
 |0,a,b,_,_,h=>by have:=Ao a;omega
 |n+1,a,b,ha,hb,hn=>by
  obtain⟨_,hab,⟨la,pa,sa,ra⟩,hla,hpa,hsa⟩:=ha.inv;obtain⟨_,hbb,_,hlb,hpb,hsb⟩:=hb.inv
  have sc:∀k:Int,k=10\/k=11\/k=12->¬isS k:=by
   intro k hk h;unfold isS at h;rw[b3x,b3v,b3v]at h;omega
  refine a09 _ _ _ ⟨λh=>⟨_,Jq _ _,?_⟩,λh=>?_⟩
  ·simp at h;rw[L6,if_pos h]
  have hk:a.Kind=b.Kind:=by simpa using h
  rw[L6,if_neg (by simp[hk])];refine⟨λh1=>?_,λh1=>⟨λh2=>?_,λh2=>⟨λh3=>?_,λh3=>?_⟩⟩⟩
  all_goals simp only[beq_iff_eq,beq_eq_false_iff_ne]at*
  ·rw[if_neg (sc _ (by omega)),if_pos h1];exact⟨_,xc _ _ _ (RK (L6 n) (λi s t r hw=>a9g _ _ _ _ hw) _ _ la λx hx y hy=>Jy n x y (hla x hx) (hlb y hy) (by have:=Az hx;omega)),rfl⟩
  ·rw[if_neg (sc _ (by omega)),if_neg h1,if_pos h2];refine⟨_,a1i _ _ _ (RK (C:=λx y z=>∃u v,Cz x.1 y.1 u/\Cz x.2 y.2 v/\z=L7 [u,v]) (λx y=>L7 [L6 n x.1 y.1,L6 n x.2 y.2]) (λi s t r hw=>a7y _ _ _ _ ⟨λh=>?_,hw.2⟩) _ _ pa λx hx y hy=>?_),rfl⟩
   ·obtain⟨y6,p1,p2,y7,q1,q2,z,⟨u,v,c1,c2,rfl⟩,r1,r2⟩:=hw.1 h;rw[QY]at r1 r2;refine⟨y6,p1,p2,y7,q1,q2,u,c1,λhu=>?_,λhu=>⟨y6,p1,p2,y7,q1,q2,v,c2,λhv=>?_,λhv=>?_⟩⟩
    ·have:u≠0:=by simpa using hu
     rw[if_pos this]at r1;exact r1 (by simpa using this)
    ·have:u=0:=by simpa using hu
     rw[if_neg (by simp[this])]at r1;exact r1 hv
    ·have:u=0:=by simpa using hu
     rw[if_neg (by simp[this])]at r2;exact r2 hv
   ·have hz:=AH hx;exact⟨_,_,Jy n _ _ (hpa x hx).1 (hpb y hy).1 (by omega),Jy n _ _ (hpa x hx).2 (hpb y hy).2 (by omega),rfl⟩
  ·rw[if_neg (sc _ (by omega)),if_neg h1,if_neg h2,if_pos h3,QY];refine⟨_,vS _ _ _ (RK (C:=λx y z=>∃u v,DQ x.1 y.1 u/\Cz x.2 y.2 v/\z=L7 [u,v]) (λx y=>L7 [F4 x.1 y.1,L6 n x.2 y.2]) (λi s t r hw=>zG _ _ _ _ ⟨λh=>?_,hw.2⟩) _ _ sa λx hx y hy=>?_),λh4=>?_,λh4=>⟨_,b19 _ _ _ (RK Dr (λi s t r hw=>a27 _ _ _ _ hw) _ _ ra λx hx y hy=>vA x y),?_⟩⟩
   ·obtain⟨y6,p1,p2,y7,q1,q2,z,⟨u,v,c1,c2,rfl⟩,r1,r2⟩:=hw.1 h;rw[QY]at r1 r2;refine⟨y6,p1,p2,y7,q1,q2,u,c1,λhu=>?_,λhu=>⟨y6,p1,p2,y7,q1,q2,v,c2,λhv=>?_,λhv=>?_⟩⟩
    ·have:u≠0:=by simpa using hu
     rw[if_pos this]at r1;exact r1 (by simpa using this)
    ·have:u=0:=by simpa using hu
     rw[if_neg (by simp[this])]at r1;exact r1 hv
    ·have:u=0:=by simpa using hu
     rw[if_neg (by simp[this])]at r2;exact r2 hv
   ·have hz:=BC hx;exact⟨_,_,Jq _ _,Jy n _ _ (hsa x hx) (hsb y hy) (by omega),rfl⟩
   ·rw[if_pos (by simpa using h4)]
   ·rw[if_neg (by simpa using h4)]
  ·refine⟨_,r5 a b hk hab hbb,?_⟩
   by_cases hs:isS a.Kind=true
   ·rw[if_pos hs,if_pos hs]
   ·rw[if_neg hs,if_neg hs,if_neg h1,if_neg h2,if_neg h3]
abbrev Tp{α:Type}(c:α->α->Int):Prop:=Pre c (λ_:α=>True)
section
variable {α:Type}{c c1 c2:α->α->Int}
theorem Tp.s(h:Tp c)(x y:α):c x y<0↔0<c y x:=h.sym x y trivial trivial
theorem Tp.t(h:Tp c)(x y z:α):c x y<=0->c y z<=0->c x z<=0:=h.trans x y z trivial trivial trivial
theorem iK(h:Tp c){x y:α}{p q:Int}(hpq:p<0↔0<q):(if c x y≠0 then c x y else p)<0↔0<(if c y x≠0 then c y x else q):=by
 have h1:=h.s x y;have h2:=h.s y x
 by_cases hx:c x y=0
 ·have hy:c y x=0:=by omega
  rw[if_neg (by simp[hx]),if_neg (by simp[hy])];exact hpq
 ·have hy:c y x≠0:=by omega
  rw[if_pos hx,if_pos hy];exact h1
theorem mA(h:Tp c){x y z:α}{p q r:Int}(hp:p<=0->q<=0->r<=0)(h1:(if c x y≠0 then c x y else p)<=0)(h2:(if c y z≠0 then c y z else q)<=0):(if c x z≠0 then c x z else r)<=0:=by
 have sxy:=h.s x y;have syx:=h.s y x;have syz:=h.s y z;have szy:=h.s z y;have sxz:=h.s x z;have szx:=h.s z x;have t1:=h.t x y z;have t2:=h.t y z x;have t3:=h.t z x y
 by_cases hxz:c x z=0
 ·rw[if_neg (by simp[hxz])]
  have e1:c x y=0:=by
   by_cases e:c x y=0
   ·exact e
   ·rw[if_pos e]at h1
    by_cases e2:c y z=0
    ·have:=t2 (by omega) (by omega);omega
    ·rw[if_pos e2]at h2;have:=t2 (by omega) (by omega);omega
  have e2:c y z=0:=by
   by_cases e:c y z=0
   ·exact e
   ·rw[if_pos e]at h2;have:=t3 (by omega) (by omega);omega
  rw[if_neg (by simp[e1])]at h1;rw[if_neg (by simp[e2])]at h2;exact hp h1 h2
 ·rw[if_pos hxz]
  by_cases e1:c x y=0
  ·by_cases e2:c y z=0
   ·exact t1 (by omega) (by omega)
   ·rw[if_pos e2]at h2;exact t1 (by omega) (by omega)
  ·rw[if_pos e1]at h1
   by_cases e2:c y z=0
   ·exact t1 (by omega) (by omega)
   ·rw[if_pos e2]at h2;exact t1 (by omega) (by omega)
theorem Kx(h1:Tp c1)(h2:Tp c2):Tp (λx y=>L7 [c1 x y,c2 x y]):=by
 refine⟨λx y _ _=>?_,λx y z _ _ _=>?_⟩
 ·simp only[QY];exact iK h1 (h2.s x y)
 ·simp only[QY];exact mA h1 (h2.t x y z)
theorem Pt(h:Tp c):Tp (J8 c):=by
 refine⟨λl m _ _=>?_,λl m k _ _ _=>?_⟩
 ·induction l generalizing m with
  |nil=>cases m<;>simp[J8]
  |cons x l ih=>
   cases m with
   |nil=>simp[J8]
   |cons y m=>simp only[J8];exact iK h (ih m)
 ·induction l generalizing m k with
  |nil=>cases m<;>cases k<;>simp[J8]
  |cons x l ih=>
   cases m with
   |nil=>simp[J8]
   |cons y m=>
    cases k with
    |nil=>simp only[J8];intro _ h2;exact h2
    |cons z k=>simp only[J8];exact mA h (ih m k)
theorem wJ(key:α->Int)(f:Int->α->α->Int)(hf:∀k,Tp (f k)):Tp (λa b=>if key a≠key b then F4 (key a) (key b) else f (key a) a b):=by
 refine⟨λx y _ _=>?_,λx y z _ _ _ h1 h2=>?_⟩
 ·by_cases h:key x=key y
  ·simp only[h,ne_eq,not_true_eq_false,if_false];exact(hf _).s x y
  ·simp only[ne_eq,h,not_false_eq_true,if_true,Ne.symm h];rcases BJ (key x) (key y) with g|g|g<;>rcases BJ (key y) (key x) with e|e|e<;>rw[g.2,e.2]<;>omega
 ·simp only[ne_eq]at h1 h2 ⊢
  by_cases e1:key x=key y
  ·by_cases e2:key y=key z
   ·rw[if_neg (by simp[e1,e2])];rw[if_neg (by simp[e1])]at h1;rw[if_neg (by simp[e2])]at h2;rw[<-e1]at h2;exact(hf _).t x y z h1 h2
   ·rw[if_pos e2]at h2;rw[if_pos (by rw[e1];exact e2),e1];exact h2
  ·rw[if_pos e1]at h1
   by_cases e2:key y=key z
   ·rw[if_pos (by rw[<-e2];exact e1),<-e2];exact h1
   ·rw[if_pos e2]at h2;rcases BJ (key x) (key y) with g|g|g<;>rcases BJ (key y) (key z) with e|e|e<;>rw[g.2]at h1<;>rw[e.2]at h2<;>first|omega|skip
    rw[if_pos (by omega)];rcases BJ (key x) (key z) with d|d|d<;>rw[d.2]<;>omega
theorem pb:Tp (λ_ _:α=>0):=⟨λx y _ _=>by simp,λx y z _ _ _ _ _=>by simp⟩
theorem X7{β:Type}(h:Tp c)(f:β->α):Tp (λx y=>c (f x) (f y)):=⟨λx y _ _=>h.s _ _,λx y z _ _ _=>h.t _ _ _⟩
theorem Jp(p:b4e)(h1:Tp c1)(h2:Tp c2):Tp (λx y=>if p=true then c1 x y else c2 x y):=by cases p<;>simpa
theorem FS:Tp F4:=lf λx:Int=>x
end
theorem ov:∀l m:b4c UInt8,(if Op.bytesLess l m=true then(-1:Int) else if(!(Op.bytesLess l m||l==m))=true then 1 else 0)=J8 (λa b:UInt8=>F4 a.toNat b.toNat) l m
 |[],[]=>by simp[Op.bytesLess,J8]
 |[],b::m=>by simp[Op.bytesLess,J8]
 |a::l,[]=>by simp[Op.bytesLess,J8]
 |a::l,b::m=>by
  have ih:=ov l m;simp only[J8,Op.bytesLess];rw[<-ih];have hab:a<b↔a.toNat<b.toNat:=UInt8.lt_iff_toNat_lt;have hba:b<a↔b.toNat<a.toNat:=UInt8.lt_iff_toNat_lt;rcases BJ (a.toNat:Int) (b.toNat:Int) with g|g|g
  ·have h1:a<b:=hab.2 (by omega);simp[h1,g.2]
  ·have h1:a=b:=UInt8.toNat_inj.1 (by omega);subst h1;have h2:¬a<a:=UInt8.lt_irrefl a;simp[h2,g.2]
  ·have h1:¬a<b:=λh=>by have:=hab.1 h;omega
   have h2:¬a=b:=λh=>by subst h;omega
   simp[h1,h2,g.2]
theorem ic:Tp Aj:=by
 have h:=X7 (Pt (X7 FS λa:UInt8=>(a.toNat:Int))) λx:b4b=>x.toList
 have e:Aj=λx y=>J8 (λa b:UInt8=>F4 (a.toNat:Int) (b.toNat:Int)) x.toList y.toList:=by
  funext x y
  exact ov x.toList y.toList
 rw[e];exact h
theorem zk:Tp Dr:=by
 have h:=Kx (X7 FS λx:D8=>x.Num) (Kx (X7 FS λx:D8=>x.J0) (Kx (X7 FS λx:D8=>x.Bits) (X7 ic λx:D8=>x.Data)))
 have e:Dr=λx y:D8=>L7 [F4 x.Num y.Num,L7 [F4 x.J0 y.J0,L7 [F4 x.Bits y.Bits,Aj x.Data y.Data]]]:=by
  funext x y
  simp only[Dr,L7];split
  ·rfl
  ·split
   ·simp[*]
   ·split
    ·simp[*]
    ·split<;>simp[*]
 rw[e];exact h
def Wm(k:Int)(a b:A0):Int:=
 if((k==7)||(k==8))=true then Aj a.Text b.Text
 else if((k==2)||(k==3))=true then F4 (wI a.Bits) (wI b.Bits)
 else if(k==6)=true then F4 (DB a.Bits) (DB b.Bits)
 else F4 a.Bits b.Bits
theorem vJ(k:Int):Tp (Wm k):=Jp _ (X7 ic λv:A0=>v.Text) (Jp _ (X7 FS λv:A0=>wI v.Bits) (Jp _ (X7 FS λv:A0=>DB v.Bits) (X7 FS λv:A0=>v.Bits)))
theorem TS:∀n,Tp (L6 n)
 |0=>pb
 |n+1=>by
  have ih:=TS n
  have h:=wJ (λv:A0=>v.Kind) (λk a b=>if isS k=true then Wm k a b else if decide (k=11)=true then J8 (L6 n) a.B4 b.B4 else if decide (k=12)=true then J8 (λx y=>L7 [L6 n x.1 y.1,L6 n x.2 y.2]) a.Pairs b.Pairs else if decide (k=10)=true then L7 [J8 (λx y=>L7 [F4 x.1 y.1,L6 n x.2 y.2]) a.Slots b.Slots,J8 Dr a.C1 b.C1] else 0)
   λk=>Jp _ (vJ k) (Jp _ (X7 (Pt ih) λv:A0=>v.B4) (Jp _ (X7 (Pt (Kx (X7 ih λx:A0 × A0=>x.1) (X7 ih λx:A0 × A0=>x.2))) λv:A0=>v.Pairs) (Jp _ (Kx (X7 (Pt (Kx (X7 FS λx:Int × A0=>x.1) (X7 ih λx:Int × A0=>x.2))) λv:A0=>v.Slots) (X7 (Pt zk) λv:A0=>v.C1)) pb)))
  have e:L6 (n+1)=λa b:A0=>if a.Kind≠b.Kind then F4 a.Kind b.Kind else(λ(k:Int) (a b:A0)=>if isS k=true then Wm k a b else if decide (k=11)=true then J8 (L6 n) a.B4 b.B4 else if decide (k=12)=true then J8 (λx y=>L7 [L6 n x.1 y.1,L6 n x.2 y.2]) a.Pairs b.Pairs else if decide (k=10)=true then L7 [J8 (λx y=>L7 [F4 x.1 y.1,L6 n x.2 y.2]) a.Slots b.Slots,J8 Dr a.C1 b.C1] else 0) a.Kind a b:=by
   funext a b
   simp only[L6,b3v];rfl
  rw[e];exact h
def Q8{α:Type}(c:α->α->Int):b4c α->b4c α
 |[]=>[]
 |[x]=>[x]
 |x::y::l=>if c x y=0 then Q8 c (y::l) else x::Q8 c (y::l)
abbrev kc(N:Nat)(x y:A0 × A0):Int:=L6 N x.1 y.1
def DV(N:Nat)(x:A0 × A0):Prop:=C8 x.1/\SizeOf.sizeOf x.1<=N
theorem a3k(N:Nat)(S:b4c (A0 × A0))(hl:S.length*256<=140737488355328)(hS:∀x∈S,DV N x):∀(d i:Nat) (done:b4c (A0 × A0)),S.length - i<=d->i<=S.length->done.length<=i->OU i S done (done++Q8 (kc N) (S.drop i)):=by
 intro d
 induction d with
 |zero=>
  intro i done hd hi hn;have e:i=S.length:=by omega
  subst e;exact Yj _ _ _ _ ⟨λh=>by simp at h,λ_=>by simp[Q8]⟩
 |succ d ih=>
  intro i done hd hi hn;rcases Nat.lt_or_ge i S.length with hlt|hge
  ·have e1:wI ((i:Int)+1)=((i+1:Nat):Int):=by rw[wI,C0 (by omega)];omega
   have dr:S.drop i=S[i]::S.drop (i+1):=b32 hlt;refine Yj _ _ _ _ ⟨λ_=>⟨S[i],by simp,by omega,λb=>Q8 (kc N) (S.drop i)=if b then S[i]::Q8 (kc N) (S.drop (i+1)) else Q8 (kc N) (S.drop (i+1)),λb hb=>⟨λh=>?_,λh=>?_⟩,λh=>?_,λh=>?_⟩,λh=>by simp at h;omega⟩
   ·subst h;refine⟨by simp;omega,?_⟩;rw[e1,hb];have:=ih (i+1) (done++[S[i]]) (by omega) (by omega) (by simp;omega);simpa using this
   ·subst h;rw[e1,hb];exact ih (i+1) done (by omega) (by omega) (by omega)
   ·rw[e1]at h;simp at h;have:S.drop (i+1)=[]:=b33 (by omega);rw[dr,this];rfl
   ·rw[e1]at h ⊢;simp at h;have h2:i+1<S.length:=by omega
    have dr2:S.drop (i+1)=S[i+1]::S.drop (i+1+1):=b32 h2;have o1:=hS _ (List.getElem_mem hlt);have o2:=hS _ (List.getElem_mem h2);refine⟨S[i+1],by simp,by omega,_,gR _ _ _ ⟨_,Jd N _ _ o1.1 o2.1 o1.2,rfl⟩,?_⟩;rw[dr,dr2];simp only[Q8];rcases Classical.em (L6 N S[i].1 S[i+1].1=0) with h3|h3
    ·simp[kc,h3]
    ·simp[kc,h3]
  ·exact Yj _ _ _ _ ⟨λh=>by simp at h;omega,λ_=>by rw[b33 hge];simp[Q8]⟩
theorem vU(N:Nat):Pre (kc N) (DV N):=by
 have h:=X7 (TS N) λx:A0 × A0=>x.1
 exact⟨λx y _ _=>h.s x y,λx y z _ _ _=>h.t x y z⟩
theorem rd(N:Nat)(x y:A0 × A0)(hx:DV N x)(hy:DV N y):eK (⟨219,[],[],rfl⟩:B3) x y (kc N x y):=
 ⟨219,[],[],rfl,(show B7 [AV.agg (L4 x),AV.agg (L4 y)]=true by simp[B7,plain,T9]),vw _ _ _ ⟨_,Jd N _ _ hx.1 hy.1 hx.2,rfl⟩⟩
theorem a9o(N:Nat)(l:b4c (A0 × A0))(hl:l.length*256<=140737488355328)(hok:∀x∈l,DV N x):∃S,JX (kc N) l S/\UP l (Q8 (kc N) S):=by
 rcases Classical.em (l=[]) with h0|h0
 ·subst h0;refine⟨[],⟨[],.nil,by simp[X4],rfl⟩,kx _ _ ⟨λ_=>⟨?_,a12 _,b1g _ _ _ ⟨λh=>by simp at h,λ_=>rfl⟩⟩,λh=>(h rfl).elim⟩⟩
  first|exact ep _ _ ⟨rfl,rfl⟩|exact ep _ _ λb _=>⟨λ_=>rfl,λ_=>⟨by simp,rfl⟩⟩
 ·have hpos:0<l.length:=List.length_pos_iff.2 h0;have hmem:∀x∈X4 l,x.1∈l:=λx hx=>by rw[<-Tr l];exact List.mem_map_of_mem hx
  obtain⟨S,h1,h2,h3⟩:=eM (c6 ⟨219,[],[],rfl⟩) (vU N) (λx y hx hy=>rd N x y hx hy) (n0:=l.length) (by omega) hpos (X4 l) (by simp[X4]) (λx hx=>hok _ (hmem x hx)) (mM l);rw[Tr]at h3;have hlen:(fs S).length=l.length:=by simp[h2.length_eq,X4]
  refine⟨fs S,⟨S,h1,h2,rfl⟩,kx _ _ ⟨λh=>(h0 h).elim,λ_=>⟨yh _ ⟨h0,hl⟩,fs S,h3,⟨h0,λh=>?_⟩,hlen,?_⟩⟩⟩
  ·rw[h]at hlen;simp at hlen;omega
  ·have:=a3k N (fs S) (by rw[hlen];exact hl) (λx hx=>by
    obtain⟨y,hy,rfl⟩:=List.mem_map.1 hx;exact hok _ (hmem y (h2.mem_iff.1 hy))) (fs S).length 0 [] (by omega) (by omega) (by simp)
   simpa using this
section
variable {α:Type}(c:α->α->Int)
def G1(x:α):b4c α->b4c α
 |[]=>[x]
 |y::l=>if c y x<0 then y::G1 x l else x::y::l
def lone(x:α)(l:b4c α):b4e:=l.all λy=>c x y !=0
def JL:b4c α->b4c α->b4c α
 |acc,[]=>acc
 |acc,x::l=>JL (if lone c x l=true then G1 c x acc else acc) l
def K9:b4c α->b4c α
 |[]=>[]
 |x::l=>if lone c x l=true then G1 c x (K9 l) else K9 l
theorem bZ(x:α):∀l,(G1 c x l).length=l.length+1
 |[]=>rfl
 |y::l=>by
  simp only[G1];split
  ·simp[bZ x l]
  ·simp
variable {c}
theorem oI(h:Tp c){x y:α}(hxy:c x y≠0):∀l,G1 c x (G1 c y l)=G1 c y (G1 c x l)
 |[]=>by
  have s1:=h.s x y;have s2:=h.s y x;simp only[G1]
  by_cases e:c y x<0
  ·rw[if_pos e,if_neg (by omega)]
  ·rw[if_neg e,if_pos (by omega)]
 |z::l=>by
  have s1:=h.s x y;have s2:=h.s y x;have s3:=h.s z x;have s4:=h.s z y;have s5:=h.s x z;have s6:=h.s y z;have t1:=h.t y x z;have t2:=h.t x y z;have t3:=h.t x z y;have t4:=h.t y z x;have t5:=h.t z x y;have t6:=h.t z y x;simp only[G1]
  by_cases e1:c z x<0<;>by_cases e2:c z y<0<;>simp only[e1,e2,if_true,if_false,G1]
  ·rw[oI h hxy l]
  ·have e3:¬c x y<0:=by omega
   have e4:c y x<0:=by omega
   simp[e4]
  ·have e3:c x y<0:=by omega
   simp[e3]
  ·by_cases e4:c y x<0
   ·simp[e4];omega
   ·have e5:c x y<0:=by omega
    simp[e4,e5]
def Fm:b4c α->b4c α->b4c α
 |acc,[]=>acc
 |acc,x::l=>if lone c x l=true then G1 c x (Fm acc l) else Fm acc l
theorem jL(h:Tp c)(x:α):∀(l acc:b4c α),lone c x l->Fm (c:=c) (G1 c x acc) l=G1 c x (Fm (c:=c) acc l)
 |[],acc,_=>rfl
 |y::l,acc,hl=>by
  simp only[lone,List.all_cons,b3x,bne_iff_ne,ne_eq]at hl;have ih:=jL h x l acc hl.2;simp only[Fm,ih];split
  ·exact oI h (by have:=h.s x y;have:=h.s y x;omega) _
  ·rfl
theorem Wa(h:Tp c):∀(l acc:b4c α),JL c acc l=Fm (c:=c) acc l
 |[],acc=>rfl
 |x::l,acc=>by
  simp only[JL,Fm]
  by_cases e:lone c x l=true
  ·rw[if_pos e,if_pos e,Wa h l,jL h x l acc e]
  ·rw[if_neg e,if_neg e,Wa h l]
theorem fI:∀(l:b4c α),Fm (c:=c) [] l=K9 c l
 |[]=>rfl
 |x::l=>by simp only[Fm,K9,fI l]
end
section
variable {N:Nat}{l:b4c (A0 × A0)}(hl:l.length*256<=140737488355328) (hok:∀x∈l,DV N x)
 include hl hok
theorem a8z(i:Nat)(hi:i<l.length)(acc:b4c (A0 × A0))(hacc:acc.length<=i)(hoa:∀x∈acc,DV N x)(r:b4c (A0 × A0)):∀(d at_:Nat),acc.length - at_<=d->at_<=acc.length->Y3 ((i+1:Nat):Int) (acc.take at_++G1 (kc N) l[i] (acc.drop at_)) l r->SW at_ i acc l r:=by
 have e1:wI ((i:Int)+1)=((i+1:Nat):Int):=by rw[wI,C0 (by omega)];omega
 have endc:∀at_:Nat,at_<=acc.length->Y3 ((i+1:Nat):Int) (acc.take at_++l[i]::acc.drop at_) l r->∃y59,l[(i:Int).toNat]? =some y59/\0<=(i:Int)/\((0<=(at_:Int)/\(at_:Int)<=(acc.length:Int)/\(acc.length:Int)<=(acc.length:Int))/\((((acc.take (acc.length:Int).toNat).drop (at_:Int).toNat)=[]->([y59]:b4c (A0 × A0)).length*256<=140737488355328/\((0<=(0:Int)/\(0:Int)<=(at_:Int)/\(at_:Int)<=(acc.length:Int))/\((((acc.take (at_:Int).toNat).drop (0:Int).toNat)=[]->([]:b4c (A0 × A0)).length*256<=140737488355328/\((([]:b4c (A0 × A0)).length+([y59]:b4c (A0 × A0)).length)*256<=140737488355328/\([y59]:b4c (A0 × A0))≠[]/\(Y3 (wI ((i:Int)+1)) (([]:b4c (A0 × A0))++([y59]:b4c (A0 × A0))) l r)))/\(((acc.take (at_:Int).toNat).drop (0:Int).toNat)≠[]->(([]:b4c (A0 × A0)).length+((acc.take (at_:Int).toNat).drop (0:Int).toNat).length)*256<=140737488355328/\((acc.take (at_:Int).toNat).drop (0:Int).toNat)≠[]/\(((([]:b4c (A0 × A0))++((acc.take (at_:Int).toNat).drop (0:Int).toNat)).length+([y59]:b4c (A0 × A0)).length)*256<=140737488355328/\(Y3 (wI ((i:Int)+1)) ((([]:b4c (A0 × A0))++((acc.take (at_:Int).toNat).drop (0:Int).toNat))++([y59]:b4c (A0 × A0))) l r))))))/\(((acc.take (acc.length:Int).toNat).drop (at_:Int).toNat)≠[]->([y59].length+((acc.take (acc.length:Int).toNat).drop (at_:Int).toNat).length)*256<=140737488355328/\((acc.take (acc.length:Int).toNat).drop (at_:Int).toNat)≠[]/\((0<=(0:Int)/\(0:Int)<=(at_:Int)/\(at_:Int)<=(acc.length:Int))/\((((acc.take (at_:Int).toNat).drop (0:Int).toNat)=[]->([]:b4c (A0 × A0)).length*256<=140737488355328/\((([]:b4c (A0 × A0)).length+([y59]++((acc.take (acc.length:Int).toNat).drop (at_:Int).toNat)).length)*256<=140737488355328/\([y59]++((acc.take (acc.length:Int).toNat).drop (at_:Int).toNat))≠[]/\(Y3 (wI ((i:Int)+1)) (([]:b4c (A0 × A0))++([y59]++((acc.take (acc.length:Int).toNat).drop (at_:Int).toNat))) l r)))/\(((acc.take (at_:Int).toNat).drop (0:Int).toNat)≠[]->(([]:b4c (A0 × A0)).length+((acc.take (at_:Int).toNat).drop (0:Int).toNat).length)*256<=140737488355328/\((acc.take (at_:Int).toNat).drop (0:Int).toNat)≠[]/\(((([]:b4c (A0 × A0))++((acc.take (at_:Int).toNat).drop (0:Int).toNat)).length+([y59]++((acc.take (acc.length:Int).toNat).drop (at_:Int).toNat)).length)*256<=140737488355328/\(Y3 (wI ((i:Int)+1)) ((([]:b4c (A0 × A0))++((acc.take (at_:Int).toNat).drop (0:Int).toNat))++([y59]++((acc.take (acc.length:Int).toNat).drop (at_:Int).toNat))) l r)))))))):=by
  intro at_ ha hr;have d0:(0:Int)<=0/\(0:Int)<=(at_:Int)/\(at_:Int)<=(acc.length:Int):=⟨by omega,by omega,by omega⟩;refine⟨l[i],by simp,by omega,⟨by omega,by omega,by omega⟩,λhA=>⟨by simp,d0,λhB=>⟨by simp,by simp,by simp,?_⟩,λhB=>⟨by simp;omega,hB,by simp;omega,?_⟩⟩,λhA=>⟨by simp;omega,hA,d0,λhB=>⟨by simp,by simp;omega,by simp,?_⟩,λhB=>⟨by simp;omega,hB,by simp;omega,?_⟩⟩⟩
  all_goals rw[e1]
  all_goals simp only[Int.toNat_natCast,List.take_length,Int.toNat_zero,List.drop_zero]at hA hB ⊢
  ·rw[hA,hB]at hr;simpa using hr
  ·rw[hA]at hr;simpa using hr
  ·rw[hB]at hr;simpa using hr
  ·simpa using hr
 intro d
 induction d with
 |zero=>
  intro at_ hd ha hr;have e:at_=acc.length:=by omega
  subst e;exact ay _ _ _ _ _ ⟨λh=>by simp at h,λ_=>endc _ (Nat.le_refl _) (by simpa[G1]using hr)⟩
 |succ d ih=>
  intro at_ hd ha hr;rcases Nat.lt_or_ge at_ acc.length with hlt|hge
  ·have e2:wI ((at_:Int)+1)=((at_+1:Nat):Int):=by rw[wI,C0 (by omega)];omega
   have da:acc.drop at_=acc[at_]::acc.drop (at_+1):=b32 hlt;have o1:=hoa _ (List.getElem_mem hlt);have o2:=hok _ (List.getElem_mem hi);rw[da]at hr;simp only[G1]at hr;refine ay _ _ _ _ _ ⟨λ_=>⟨acc[at_],by simp,by omega,l[i],by simp,by omega,_,Jy N _ _ o1.1 o2.1 o1.2,λh=>?_,λh=>?_⟩,λh=>by simp at h;omega⟩
   ·have h':kc N acc[at_] l[i]<0:=by simpa using h
    rw[if_pos h']at hr;rw[e2];refine ih (at_+1) (by omega) (by omega) ?_;rw[List.take_succ_eq_append_getElem hlt,List.append_assoc];exact hr
   ·have h':¬kc N acc[at_] l[i]<0:=by simpa using h
    rw[if_neg h']at hr;have:=endc at_ ha (by rw[da];exact hr);exact this
  ·have e:at_=acc.length:=by omega
   subst e;exact ay _ _ _ _ _ ⟨λh=>by simp at h,λ_=>endc _ (Nat.le_refl _) (by simpa[G1]using hr)⟩
theorem b1x(i:Nat)(hi:i<l.length)(acc:b4c (A0 × A0))(hacc:acc.length<=i)(hoa:∀x∈acc,DV N x)(r:b4c (A0 × A0)):∀(d j:Nat) (o:b4e),l.length - j<=d->j<=l.length->Y3 ((i+1:Nat):Int) (if(o&&lone (kc N) l[i] (l.drop j))=true then G1 (kc N) l[i] acc else acc) l r->MX j o i acc l r:=by
 have e1:wI ((i:Int)+1)=((i+1:Nat):Int):=by rw[wI,C0 (by omega)];omega
 have fin:∀(o:b4e),Y3 ((i+1:Nat):Int) (if(o&&lone (kc N) l[i] (l.drop l.length))=true then G1 (kc N) l[i] acc else acc) l r->MX (l.length:Nat) o i acc l r:=by
  intro o hr;refine qH _ _ _ _ _ _ ⟨λh=>by simp at h,λ_=>⟨λh=>?_,λh=>?_⟩⟩
  ·subst h;have hr':Y3 ((i+1:Nat):Int) (G1 (kc N) l[i] acc) l r:=by simpa[lone]using hr
   have:=a8z hl hok i hi acc hacc hoa r acc.length 0 (by omega) (by omega) (by simpa using hr');simpa using this
  ·subst h;rw[e1];simpa using hr
 intro d
 induction d with
 |zero=>
  intro j o hd hj hr;have e:j=l.length:=by omega
  subst e;exact fin o hr
 |succ d ih=>
  intro j o hd hj hr;rcases Nat.lt_or_ge j l.length with hlt|hge
  ·have e2:wI ((j:Int)+1)=((j+1:Nat):Int):=by rw[wI,C0 (by omega)];omega
   have dl:l.drop j=l[j]::l.drop (j+1):=b32 hlt;have o1:=hok _ (List.getElem_mem hi);have o2:=hok _ (List.getElem_mem hlt);rw[dl]at hr;refine qH _ _ _ _ _ _ ⟨λ_=>⟨λh=>?_,λh=>?_⟩,λh=>by simp at h;omega⟩
   ·subst h;refine⟨l[i],by simp,by omega,l[j],by simp,by omega,_,Jy N _ _ o1.1 o2.1 o1.2,?_⟩;rw[e2];refine ih (j+1) _ (by omega) (by omega) ?_;rw[Bool.true_and,show lone (kc N) l[i] (l[j]::l.drop (j+1))=((kc N l[i] l[j] !=0)&&lone (kc N) l[i] (l.drop (j+1))) from rfl]at hr;exact hr
   ·subst h;rw[e2];exact ih (j+1) _ (by omega) (by omega) (by simpa using hr)
  ·have e:j=l.length:=by omega
   subst e;exact fin o hr
theorem a96:∀(d i:Nat) (acc:b4c (A0 × A0)),l.length - i<=d->i<=l.length->acc.length<=i->(∀x∈acc,DV N x)->Y3 i acc l (JL (kc N) acc (l.drop i)):=by
 intro d
 induction d with
 |zero=>
  intro i acc hd hi ha hoa;have e:i=l.length:=by omega
  subst e;exact Xf _ _ _ _ ⟨λh=>by simp at h,λ_=>by simp[JL]⟩
 |succ d ih=>
  intro i acc hd hi ha hoa;rcases Nat.lt_or_ge i l.length with hlt|hge
  ·have e1:wI ((i:Int)+1)=((i+1:Nat):Int):=by rw[wI,C0 (by omega)];omega
   have dl:l.drop i=l[i]::l.drop (i+1):=b32 hlt
   have mem_ins:∀(x:A0 × A0) (m:b4c (A0 × A0)),∀y∈G1 (kc N) x m,y=x\/y∈m:=by
    intro x m
    induction m with
    |nil=>intro y hy;simp[G1]at hy;exact .inl hy
    |cons z m ihm=>
     intro y hy;simp only[G1]at hy;split at hy
     ·rcases List.mem_cons.1 hy with h|h
      ·exact .inr (by rw[h];simp)
      ·rcases ihm y h with h|h
       ·exact .inl h
       ·exact .inr (by simp[h])
     ·rcases List.mem_cons.1 hy with h|h
      ·exact .inl h
      ·exact .inr h
   refine Xf _ _ _ _ ⟨λ_=>?_,λh=>by simp at h;omega⟩;rw[e1];refine b1x hl hok i hlt acc ha hoa _ l.length (i+1) true (by omega) (by omega) ?_;rw[dl];simp only[JL,Bool.true_and];refine ih (i+1) _ (by omega) (by omega) ?_ ?_
   ·split
    ·rw[bZ];omega
    ·omega
   ·intro y hy;split at hy
    ·rcases mem_ins _ _ y hy with h|h
     ·rw[h];exact hok _ (List.getElem_mem hlt)
     ·exact hoa y h
    ·exact hoa y hy
  ·have e:i=l.length:=by omega
   subst e;exact Xf _ _ _ _ ⟨λh=>by simp at h,λ_=>by simp[JL]⟩
theorem wF:TH l (K9 (kc N) l):=by
 have h:=a96 hl hok l.length 0 [] (by omega) (by omega) (by simp) (λx hx=>by cases hx);rw[List.drop_zero,Wa (X7 (TS N) λx:A0 × A0=>x.1),fI]at h;exact a5d _ _ h
end
section
variable {α:Type}{c:α->α->Int}
theorem Wf:∀(l:b4c α),∀x∈Q8 c l,x∈l
 |[],x,h=>h
 |[y],x,h=>h
 |y::z::l,x,h=>by
  simp only[Q8]at h;split at h
  ·exact List.mem_cons_of_mem _ (Wf (z::l) x h)
  ·rcases List.mem_cons.1 h with h|h
   ·rw[h];simp
   ·exact List.mem_cons_of_mem _ (Wf (z::l) x h)
theorem a10{x:α}:∀{l:b4c α},(∀w∈l,¬c w x<0)->G1 c x l=x::l
 |[],_=>rfl
 |y::l,h=>by simp only[G1];rw[if_neg (h y (by simp))]
theorem lh(h:Tp c)(x:α):∀(S:b4c α),S.Pairwise (λa b=>c a b<=0)->Q8 c (G1 c x S)=if lone c x S=true then G1 c x (Q8 c S) else Q8 c S
 |[],_=>rfl
 |y::l,hs=>by
  obtain⟨hy,hl⟩:=List.pairwise_cons.1 hs;have ih:=lh h x l hl;have s1:=h.s x y;have s2:=h.s y x
  by_cases e:c y x<0
  ·have eI:G1 c x (y::l)=y::G1 c x l:=by simp only[G1];rw[if_pos e]
   have eL:lone c x (y::l)=lone c x l:=by
    have:c x y≠0:=by omega
    simp[lone,this]
   rw[eI,eL];cases l with
   |nil=>
    have:¬c y x=0:=by omega
    simp[G1,Q8,lone,this,e]
   |cons z l=>
    have s3:=h.s z x;have s4:=h.s x z;have s5:=h.s y z;have s6:=h.s z y;have t1:=h.t x z y
    by_cases e2:c z x<0
    ·have e3:G1 c x (z::l)=z::G1 c x l:=by simp only[G1];rw[if_pos e2]
     rw[e3]at ih ⊢;simp only[Q8]at ih ⊢;rw[ih]
     by_cases e4:c y z=0
     ·rw[if_pos e4,if_pos e4]
     ·rw[if_neg e4,if_neg e4]
      by_cases e5:lone c x (z::l)=true
      ·rw[if_pos e5,if_pos e5];simp only[G1];rw[if_pos e]
      ·rw[if_neg e5,if_neg e5]
    ·have e3:G1 c x (z::l)=x::z::l:=by simp only[G1];rw[if_neg e2]
     rw[e3]at ih ⊢;have e4:¬c y x=0:=by omega
     have e5:¬c y z=0:=by
      intro e6;have:=t1 (by omega) (by omega);omega
     have e7:Q8 c (y::x::z::l)=y::Q8 c (x::z::l):=by
      rw[Q8,if_neg e4]
     have e8:Q8 c (y::z::l)=y::Q8 c (z::l):=by
      rw[Q8,if_neg e5]
     rw[e7,e8,ih]
     by_cases e9:lone c x (z::l)=true
     ·rw[if_pos e9,if_pos e9];simp only[G1];rw[if_pos e]
     ·rw[if_neg e9,if_neg e9]
  ·have eI:G1 c x (y::l)=x::y::l:=by simp only[G1];rw[if_neg e]
   rw[eI]
   by_cases e0:c x y=0
   ·have:lone c x (y::l)=false:=by simp[lone,e0]
    rw[Q8,if_pos e0,this];simp
   ·have hlt:c x y<0:=by omega
    have hz:∀z∈y::l,c x z<0:=by
     intro z hz;rcases List.mem_cons.1 hz with hz|hz
     ·rw[hz];exact hlt
     ·have q1:=hy z hz;have s3:=h.s z x;have s4:=h.s x z;have t1:=h.t x y z (by omega) q1;have t2:=h.t y z x q1;omega
    have e1:lone c x (y::l):=by
     rw[lone,b34];intro z h2;have:=hz z h2;simp;omega
    rw[Q8,if_neg e0,if_pos e1,a10];intro w hw;have:=hz w (Wf _ w hw);have:=h.s x w;omega
def sC(c:α->α->Int):b4c α->b4c α
 |[]=>[]
 |x::l=>G1 c x (sC c l)
theorem Pu(x:α):∀l,(G1 c x l).Perm (x::l)
 |[]=>.refl _
 |y::l=>by
  simp only[G1];split
  ·exact((Pu x l).cons y).trans (.swap x y l)
  ·exact .refl _
theorem Na:∀l:b4c α,(sC c l).Perm l
 |[]=>.refl _
 |x::l=>(Pu x _).trans ((Na l).cons x)
theorem iC(h:Tp c):∀l:b4c α,(sC c l).Pairwise (λa b=>c a b<=0)
 |[]=>.nil
 |x::l=>by
  have key:∀S:b4c α,S.Pairwise (λa b=>c a b<=0)->(G1 c x S).Pairwise (λa b=>c a b<=0):=by
   intro S
   induction S with
   |nil=>intro _;simp[G1]
   |cons y S ih=>
    intro hs;obtain⟨hy,hS⟩:=List.pairwise_cons.1 hs;simp only[G1];split
    ·rename_i e;refine List.pairwise_cons.2 ⟨λz hz=>?_,ih hS⟩;rcases List.mem_cons.1 ((Pu x S).mem_iff.1 hz) with h2|h2
     ·rw[h2];omega
     ·exact hy z h2
    ·rename_i e;have s1:=h.s y x;have s2:=h.s x y;have e2:c x y<=0:=by omega
     refine List.pairwise_cons.2 ⟨λz hz=>?_,hs⟩;rcases List.mem_cons.1 hz with h2|h2
     ·rw[h2];exact e2
     ·exact h.t x y z e2 (hy z h2)
  exact key _ (iC h l)
theorem tW{x:α}{l m:b4c α}(hp:l.Perm m):lone c x l=lone c x m:=by
 unfold lone;rw[Bool.eq_iff_iff,b34,b34];exact⟨λh y hy=>h y (hp.mem_iff.2 hy),λh y hy=>h y (hp.mem_iff.1 hy)⟩
theorem Zj(h:Tp c):∀l:b4c α,Q8 c (sC c l)=K9 c l
 |[]=>rfl
 |x::l=>by
  rw[sC,lh h x _ (iC h l),Zj h l,tW (Na l)];rfl
def EQ(c:α->α->Int)(x:α × Nat):b4c (α × Nat)->b4c (α × Nat)
 |[]=>[x]
 |y::l=>if c y.1 x.1<0 then y::EQ c x l else x::y::l
theorem iA(x:α × Nat):∀l,fs (EQ c x l)=G1 c x.1 (fs l)
 |[]=>rfl
 |y::l=>by
  simp only[EQ,List.map_cons,G1];split
  ·show y.1::fs (EQ c x l)=_;rw[iA x l]
  ·rfl
theorem aF(x:α × Nat):∀l,(EQ c x l).Perm (x::l)
 |[]=>.refl _
 |y::l=>by
  simp only[EQ];split
  ·exact((aF x l).cons y).trans (.swap x y l)
  ·exact .refl _
theorem qd(h:Tp c)(x:α × Nat):∀l:b4c (α × Nat),(∀y∈l,x.2<y.2)->I7 c l->I7 c (EQ c x l)
 |[],_,_=>by simp[EQ,I7]
 |y::l,hx,hs=>by
  obtain⟨hy,hl⟩:=List.pairwise_cons.1 hs;simp only[EQ];split
  ·rename_i e;refine List.pairwise_cons.2 ⟨λz hz=>?_,qd h x l (λy hy=>hx y (by simp[hy])) hl⟩;rcases List.mem_cons.1 ((aF x l).mem_iff.1 hz) with h2|h2
   ·rw[h2];exact .inl e
   ·exact hy z h2
  ·rename_i e;have s1:=h.s y.1 x.1;have s2:=h.s x.1 y.1;have e2:c x.1 y.1<=0:=by omega
   refine List.pairwise_cons.2 ⟨λz hz=>?_,hs⟩;have hxz:=hx z hz
   have:c x.1 z.1<=0:=by
    rcases List.mem_cons.1 hz with h2|h2
    ·rw[h2];exact e2
    ·have:=hy z h2;unfold Rt at this;exact h.t x.1 y.1 z.1 e2 (by omega)
   unfold Rt;omega
theorem YN(h:Tp c):∀l:b4c α,∃T,I7 c T/\T.Perm (X4 l)/\fs T=sC c l
 |[]=>⟨[],.nil,by simp[X4],rfl⟩
 |x::l=>by
  obtain⟨T,h1,h2,h3⟩:=YN h l;have e1:fs (T.map λp=>(p.1,p.2+1))=fs T:=by simp[fs]
  refine⟨EQ c (x,0) (T.map λp=>(p.1,p.2+1)),qd h _ _ (λy hy=>?_) ?_,(aF _ _).trans ?_,?_⟩
  ·obtain⟨p,_,rfl⟩:=List.mem_map.1 hy;exact Nat.succ_pos _
  ·show List.Pairwise _ _;rw[List.pairwise_map]
   exact h1.imp λ{a b} hab=>by
    unfold Rt at hab ⊢;simp only;omega
  ·have e2:X4 (x::l)=(x,0)::(X4 l).map λp=>(p.1,p.2+1):=by
    simp[X4,List.zipIdx_succ]
   rw[e2];exact(h2.map _).cons _
  ·rw[iA,e1,h3];rfl
end
theorem c7(N:Nat)(l:b4c (A0 × A0))(hl:l.length*256<=140737488355328)(hok:∀x∈l,DV N x):UP l (K9 (kc N) l):=by
 have h:Tp (kc N):=X7 (TS N) λx:A0 × A0=>x.1
 obtain⟨S,h1,h2⟩:=a9o N l hl hok;obtain⟨T,q1,q2,q3⟩:=YN h l
 have e:S=sC (kc N) l:=by
  rw[<-q3];exact JX.one (Dm:=λ_=>True) h (λ_ _=>trivial) h1 ⟨T,q1,q2,rfl⟩
 rw[e,Zj h]at h2;exact h2
theorem wu(N:Nat)(l:b4c (A0 × A0))(hl:l.length*256<=140737488355328)(hok:∀x∈l,DV N x):TH l (K9 (kc N) l):=wF hl hok
abbrev kn(x y:Int × A0):Int:=F4 x.1 y.1
theorem TO:Tp kn:=X7 FS λx:Int × A0=>x.1
theorem eP:∀l:b4c (Int × A0),Cs l=Q8 kn l
 |[]=>rfl
 |[x]=>rfl
 |x::y::l=>by
  simp only[Cs,Q8];rw[eP (y::l)];have h:=UJ (x:=x.1) (y:=y.1)
  by_cases e:x.1=y.1
  ·rw[if_pos e,if_pos (by simp only[kn];omega)]
  ·rw[if_neg e,if_neg (by simp only[kn];omega)]
theorem a4v(l:b4c (Int × A0))(hl:l.length*136<=140737488355328):PM l (K9 kn l):=by
 obtain⟨S,h1,h2⟩:=sd l hl;obtain⟨T,q1,q2,q3⟩:=YN TO l
 have e:S=sC kn l:=by
  rw[<-q3];exact JX.one (Dm:=λ_=>True) TO (λ_ _=>trivial) h1 ⟨T,q1,q2,rfl⟩
 rw[e,eP,Zj TO]at h2;exact h2
abbrev kr(x y:D8):Int:=F4 x.Num y.Num
def QP:B0:=⟨0,⟨#[]⟩,⟨#[]⟩,0,0,0,0,0⟩
def M7(num:Int):b4c B0->B0 × b4e
 |[]=>(QP,false)
 |o::l=>if(o.Num==num)=true then(o,true) else M7 num l
def B5(g:C2)(num:Int):B0 × b4e:=M7 num g.Ops
theorem rn(g:C2)(hg:g.Ops.length<=140737488351232)(num:Int):∀(d i:Nat),g.Ops.length - i<=d->i<=g.Ops.length->∃k:Int,Tv i g.Ops (⟨169,[],[.D3 [.v (.int .i64 num)] 0],by simp[B7,plain]⟩:B3) k/\((k<0/\M7 num (g.Ops.drop i)=(QP,false))\/∃o,0<=k/\g.Ops[k.toNat]? =some o/\M7 num (g.Ops.drop i)=(o,true)):=by
 intro d
 induction d with
 |zero=>
  intro i hd hi;refine⟨-1,WA _ _ _ _ ⟨λh=>by simp at h;omega,λ_=>rfl⟩,.inl ⟨by omega,?_⟩⟩;rw[b33 (by omega)];rfl
 |succ d ih=>
  intro i hd hi;rcases Nat.lt_or_ge i g.Ops.length with hlt|hge
  ·have e1:wI ((i:Int)+1)=((i+1:Nat):Int):=by rw[wI,C0 (by omega)];omega
   have dl:g.Ops.drop i=g.Ops[i]::g.Ops.drop (i+1):=b32 hlt;have hc:=tS g.Ops[i] num _ (a0h _ _ _ rfl)
   by_cases e:(g.Ops[i].Num==num)=true
   ·refine⟨i,WA _ _ _ _ ⟨λ_=>⟨g.Ops[i],by simp,by omega,_,hc,λ_=>rfl,λh=>?_⟩,λh=>by simp at h;omega⟩,.inr ⟨g.Ops[i],by omega,by simp,?_⟩⟩
    ·rw[h]at e;cases e
    ·rw[dl,M7,if_pos e]
   ·obtain⟨k,h1,h2⟩:=ih (i+1) (by omega) (by omega);refine⟨k,WA _ _ _ _ ⟨λ_=>⟨g.Ops[i],by simp,by omega,_,hc,λh=>(e h).elim,λ_=>by rw[e1];exact h1⟩,λh=>by simp at h;omega⟩,?_⟩;rw[dl,M7,if_neg e];exact h2
  ·refine⟨-1,WA _ _ _ _ ⟨λh=>by simp at h;omega,λ_=>rfl⟩,.inl ⟨by omega,?_⟩⟩;rw[b33 hge];rfl
theorem NQ(g:C2)(hg:g.Ops.length<=140737488351232)(num:Int):JY g num (B5 g num):=by
 obtain⟨k,h1,h2⟩:=rn g hg num g.Ops.length 0 (by omega) (by omega);rw[List.drop_zero]at h2;refine a23 _ _ _ ⟨_,uq _ _ _ ⟨k,rv _ _ _ h1,λh=>?_,λh=>?_⟩,rfl⟩
 ·rcases h2 with⟨_,e⟩|⟨o,q1,_⟩
  ·exact e
  ·simp at h;omega
 ·rcases h2 with⟨q,_⟩|⟨o,q1,q2,e⟩
  ·simp at h;omega
  ·exact⟨o,q2,q1,e⟩
theorem Ms(g:C2)(hg:g.Ops.length<=140737488351232)(num:Int):JV g num (B5 g num):=by
 have key:∀(d i:Nat),g.Ops.length - i<=d->i<=g.Ops.length->Ua i num g (M7 num (g.Ops.drop i)):=by
  intro d
  induction d with
  |zero=>
   intro i hd hi;exact Wc _ _ _ _ ⟨λh=>by simp at h;omega,λ_=>by rw[b33 (by omega)];rfl⟩
  |succ d ih=>
   intro i hd hi;rcases Nat.lt_or_ge i g.Ops.length with hlt|hge
   ·have e1:wI ((i:Int)+1)=((i+1:Nat):Int):=by rw[wI,C0 (by omega)];omega
    have dl:g.Ops.drop i=g.Ops[i]::g.Ops.drop (i+1):=b32 hlt;refine Wc _ _ _ _ ⟨λ_=>⟨g.Ops[i],by simp,by omega,λh=>⟨g.Ops[i],by simp,by omega,?_⟩,λh=>?_⟩,λh=>by simp at h;omega⟩
    ·rw[dl,M7,if_pos h]
    ·rw[dl,M7,if_neg (nt h),e1];exact ih (i+1) (by omega) (by omega)
   ·exact Wc _ _ _ _ ⟨λh=>by simp at h;omega,λ_=>by rw[b33 hge];rfl⟩
 have:=key g.Ops.length 0 (by omega) (by omega);exact a4s _ _ _ (by simpa[B5]using this)
def FW(v:A0):b4e:=isS v.Kind&&(v.Bits==0)&&decide (v.Text=(⟨#[]⟩:b4b))&&Cy v
def Ee(v:A0):b4e:=if v.Kind=11 then v.B4.isEmpty else if v.Kind=12 then v.Pairs.isEmpty else FW v
theorem xb(v:A0):Xa v (FW v):=by
 refine o8 _ _ ⟨_,Yl _ _ rfl,λh=>⟨_,iq v,?_⟩,λh=>?_⟩
 ·unfold FW isS;rw[h,Bool.true_and]
 ·unfold FW isS;rw[h,Bool.false_and]
theorem b1s(v:A0):YC v (Ee v):=by
 refine a3o _ _ ⟨λh=>?_,λh=>⟨λh2=>?_,λh2=>⟨_,xb v,?_⟩⟩⟩
 all_goals simp only[beq_iff_eq,beq_eq_false_iff_ne]at*
 ·unfold Ee;rw[if_pos h];cases v.B4<;>simp
  omega
 ·unfold Ee;rw[if_neg h,if_pos h2];cases v.Pairs<;>simp
  omega
 ·unfold Ee;rw[if_neg h,if_neg h2]
theorem b18(v:A0)(hv:AZ v):Wq v (FW v):=by
 have key:FW v=(((isS v.Kind&&Do v)&&(v.Bits==0))&&decide (v.Text=(⟨#[]⟩:b4b))):=by
  unfold FW Do
  by_cases h1:v.Bits=0
  ·by_cases h2:v.Text=(⟨#[]⟩:b4b)
   ·simp[h1,h2]
   ·simp[h2]
  ·have hb:(v.Bits==0)=false:=by simpa using h1
   rw[hb];simp
 refine a7l _ _ ⟨_,Pm _ _ rfl,λz=>z=(isS v.Kind&&Do v),λz hz=>?_,λh=>⟨_,kO v hv,?_⟩,λh=>?_⟩
 ·rw[hz];exact key
 ·unfold isS;rw[h,Bool.true_and]
 ·unfold isS;rw[h,Bool.false_and]
theorem sX(v:A0)(hv:AZ v):WX v (Ee v):=by
 have ns:∀k:Int,k=11\/k=12->isS k=false:=by
  intro k hk;unfold isS;rcases hk with h|h<;>subst h<;>decide
 refine a6h _ _ ⟨λh=>?_,λh=>⟨_,b18 v hv,?_⟩⟩
 ·simp only[Bool.or_eq_true,b3x,beq_iff_eq]at h;unfold Ee;rcases h with⟨h1,h2⟩|⟨h1,h2⟩
  ·rw[if_pos h1,List.isEmpty_iff,<-List.length_eq_zero_iff];omega
  ·rw[if_neg (by omega),if_pos h1,List.isEmpty_iff,<-List.length_eq_zero_iff];omega
 ·simp only[Bool.or_eq_false_iff,Bool.and_eq_false_iff,beq_eq_false_iff_ne]at h;unfold Ee
  by_cases h1:v.Kind=11
  ·rw[if_pos h1]
   have:v.B4.isEmpty=false:=by
    cases hl:v.B4 with
    |nil=>rw[hl]at h;simp at h;omega
    |cons x l=>rfl
   rw[this,FW,ns _ (.inl h1)];rfl
  ·by_cases h2:v.Kind=12
   ·rw[if_neg h1,if_pos h2]
    have:v.Pairs.isEmpty=false:=by
     cases hl:v.Pairs with
     |nil=>rw[hl]at h;simp at h;omega
     |cons x l=>rfl
    rw[this,FW,ns _ (.inr h2)];rfl
   ·rw[if_neg h1,if_neg h2]
def Q0{α:Type}(f:α->b4e):b4c α->Int->Int
 |[],_=> -1
 |x::l,i=>if f x=true then i else Q0 f l (i+1)
theorem Zl{α:Type}{J:Int->b4c α->Int->Prop}{C:α->b4e->Prop}(f:α->b4e)(step:∀i s r,((decide (i<(s.length:Int)))=true->∃y3,s[i.toNat]? =some y3/\0<=i/\(∃y4,C y3 y4/\((y4=true->r=i)/\(y4=false->J (wI (i+1)) s r))))/\((decide (i<(s.length:Int)))=false->r=(-1))->J i s r)(s:b4c α)(hs:s.length<=140737488351232)(hC:∀x∈s,C x (f x)):J 0 s (Q0 f s 0):=by
 have key:∀(d i:Nat),s.length - i<=d->i<=s.length->J i s (Q0 f (s.drop i) i):=by
  intro d
  induction d with
  |zero=>
   intro i hd hi;exact step _ _ _ ⟨λh=>by simp at h;omega,λ_=>by rw[b33 (by omega)];rfl⟩
  |succ d ih=>
   intro i hd hi;rcases Nat.lt_or_ge i s.length with hlt|hge
   ·have e1:wI ((i:Int)+1)=((i+1:Nat):Int):=by rw[wI,C0 (by omega)];omega
    have dl:s.drop i=s[i]::s.drop (i+1):=b32 hlt;refine step _ _ _ ⟨λ_=>⟨s[i],by simp,by omega,_,hC _ (List.getElem_mem _),λh=>?_,λh=>?_⟩,λh=>by simp at h;omega⟩
    ·rw[dl,Q0,if_pos h]
    ·rw[dl,Q0,if_neg (nt h),e1];exact ih (i+1) (by omega) (by omega)
   ·exact step _ _ _ ⟨λh=>by simp at h;omega,λ_=>by rw[b33 hge];rfl⟩
 simpa using key s.length 0 (by omega) (by omega)
theorem Jt{α:Type}{J:Int->Prop}{C:α->b4e->Prop}{E:Prop}{r:b4e}(f:α->b4e)(s:b4c α)(step:∀i:Int,((decide (i<(s.length:Int)))=true->∃y3,s[i.toNat]? =some y3/\0<=i/\(∃y4,C y3 y4/\((y4=true->r=true)/\(y4=false->J (wI (i+1))))))/\((decide (i<(s.length:Int)))=false->E)->J i)(hs:s.length<=140737488351232)(hC:∀x∈s,C x (f x))(h1:s.any f->r=true)(h2:s.any f=false->E):J 0:=by
 have key:∀(d i:Nat),s.length - i<=d->i<=s.length->((s.drop i).any f=true->r=true)->((s.drop i).any f=false->E)->J i:=by
  intro d
  induction d with
  |zero=>
   intro i hd hi _ k2;exact step _ ⟨λh=>by simp at h;omega,λ_=>k2 (by rw[b33 (by omega)];rfl)⟩
  |succ d ih=>
   intro i hd hi k1 k2;rcases Nat.lt_or_ge i s.length with hlt|hge
   ·have e1:wI ((i:Int)+1)=((i+1:Nat):Int):=by rw[wI,C0 (by omega)];omega
    have dl:s.drop i=s[i]::s.drop (i+1):=b32 hlt;rw[dl,List.any_cons]at k1 k2;refine step _ ⟨λ_=>⟨s[i],by simp,by omega,_,hC _ (List.getElem_mem _),λh=>k1 (by rw[h];rfl),λh=>?_⟩,λh=>by simp at h;omega⟩;rw[e1];rw[h,Bool.false_or]at k1 k2;exact ih (i+1) (by omega) (by omega) k1 k2
   ·exact step _ ⟨λh=>by simp at h;omega,λ_=>k2 (by rw[b33 hge];rfl)⟩
 exact key s.length 0 (by omega) (by omega) (by simpa using h1) (by simpa using h2)
def M5(p:A5)(name:b4b):Int × b4e:=(max (Q0 (λg:C2=>decide (g.Name=name)) p.A7 0) 0,decide (0<=Q0 (λg:C2=>decide (g.Name=name)) p.A7 0))
theorem rC(p:A5)(hp:p.A7.length<=140737488351232)(name:b4b):ZY p name (M5 p name):=by
 refine zq _ _ _ ⟨_,p8 _ _ _ (Zl (J:=λi s r=>VT i s _ r) (λg:C2=>decide (g.Name=name)) (λi s r hw=>a94 _ _ _ _ hw) _ hp λx hx=>?_),rfl⟩;exact a4x x name _ (a1e _ _ _ rfl)
theorem a2g(p:A5)(hp:p.A7.length<=140737488351232)(name:b4b):ZK p name (M5 p name):=by
 have key:∀(d i:Nat),p.A7.length - i<=d->i<=p.A7.length->Rr i name p (max (Q0 (λg:C2=>decide (g.Name=name)) (p.A7.drop i) i) 0,decide (0<=Q0 (λg:C2=>decide (g.Name=name)) (p.A7.drop i) i)):=by
  intro d
  induction d with
  |zero=>
   intro i hd hi;exact ZG _ _ _ _ ⟨λh=>by simp at h;omega,λ_=>by rw[b33 (by omega)];rfl⟩
  |succ d ih=>
   intro i hd hi;rcases Nat.lt_or_ge i p.A7.length with hlt|hge
   ·have e1:wI ((i:Int)+1)=((i+1:Nat):Int):=by rw[wI,C0 (by omega)];omega
    have dl:p.A7.drop i=p.A7[i]::p.A7.drop (i+1):=b32 hlt;refine ZG _ _ _ _ ⟨λ_=>⟨p.A7[i],by simp,by omega,λh=>?_,λh=>?_⟩,λh=>by simp at h;omega⟩
    ·rw[dl,Q0,if_pos h];have h1:max (i:Int) 0=i:=by omega
     have h2:decide (0<=(i:Int)):=by simp
     rw[h1,h2]
    ·rw[dl,Q0,if_neg (nt h),e1];exact ih (i+1) (by omega) (by omega)
   ·exact ZG _ _ _ _ ⟨λh=>by simp at h;omega,λ_=>by rw[b33 hge];rfl⟩
 have:=key p.A7.length 0 (by omega) (by omega);exact a9v _ _ _ (by simpa[M5]using this)
def V9:Nat->A0->b4e
 |0,_=>false
 |n+1,v=> !v.C1.isEmpty||(v.Slots.any (λx=>V9 n x.2)||(v.B4.any (V9 n)||v.Pairs.any (λx=>V9 n x.2)))
theorem TR(v:A0):(decide (0<(v.C1.length:Int)))= !v.C1.isEmpty:=by
 cases v.C1 with
 |nil=>rfl
 |cons x l=>simp
theorem gh(a:Int):∃k:Int,wI a=a+k*18446744073709551616:=by
 simp only[wI,IntKind.wrap,IntKind.bits,IntKind.signed,Bool.true_and,b3v];split
 ·exact⟨-(a / 18446744073709551616) - 1,by omega⟩
 ·exact⟨-(a / 18446744073709551616),by omega⟩
theorem a1g{a b k:Int}(h:a=b+k*18446744073709551616):wI a=wI b:=by
 have:a % 2 ^ (IntKind.bits .i64)=b % 2 ^ (IntKind.bits .i64):=by
  show a % 18446744073709551616=b % 18446744073709551616;omega
 simp only[wI,IntKind.wrap,this]
theorem fV(a b:Int):wI (wI a+wI b)=wI (a+b):=by
 obtain⟨k,hk⟩:=gh a;obtain⟨m,hm⟩:=gh b;exact a1g (k:=k+m) (by rw[hk,hm,Int.add_mul];omega)
theorem RH{α:Type}{J:Int->Int->Prop}{C:α->Int->Prop}{E:Int->Prop}(f:α->Int)(s:b4c α)(step:∀i a:Int,((decide (i<(s.length:Int)))=true->∃y3,s[i.toNat]? =some y3/\0<=i/\(∃y4,C y3 y4/\J (wI (i+1)) (wI (a+y4))))/\((decide (i<(s.length:Int)))=false->E a)->J i a)(hs:s.length<=140737488351232)(hC:∀x∈s,C x (wI (f x)))(a:Int)(h:E (wI (a+(s.map f).sum))):J 0 (wI a):=by
 have key:∀(d i:Nat) (a:Int),s.length - i<=d->i<=s.length->E (wI (a+((s.drop i).map f).sum))->J i (wI a):=by
  intro d
  induction d with
  |zero=>
   intro i a hd hi hE;refine step _ _ ⟨λh=>by simp at h;omega,λ_=>?_⟩;rw[b33 (by omega)]at hE;simpa using hE
  |succ d ih=>
   intro i a hd hi hE;rcases Nat.lt_or_ge i s.length with hlt|hge
   ·have e1:wI ((i:Int)+1)=((i+1:Nat):Int):=by rw[wI,C0 (by omega)];omega
    have dl:s.drop i=s[i]::s.drop (i+1):=b32 hlt;rw[dl,List.map_cons,List.sum_cons]at hE;refine step _ _ ⟨λ_=>⟨s[i],by simp,by omega,_,hC _ (List.getElem_mem _),?_⟩,λh=>by simp at h;omega⟩;rw[e1,fV];exact ih (i+1) (a+f s[i]) (by omega) (by omega) (by rw[Int.add_assoc];exact hE)
   ·refine step _ _ ⟨λh=>by simp at h;omega,λ_=>?_⟩;rw[b33 hge]at hE;simpa using hE
 exact key s.length 0 a (by omega) (by omega) (by simpa using h)
def M2:Nat->A0->Int
 |0,_=>0
 |n+1,v=>1+(v.C1.length:Int)+(v.B4.map (M2 n)).sum+(v.Pairs.map λx=>M2 n x.1+M2 n x.2).sum+(v.Slots.map λx=>M2 n x.2).sum
theorem NU:∀(n:Nat) (v:A0),C8 v->SizeOf.sizeOf v<=n->Ds v (wI (M2 n v))
 |0,v,_,h=>by have:=Ao v;omega
 |n+1,v,hv,hn=>by
  obtain⟨_,_,⟨la,pa,sa,ra⟩,hl,hp,hs⟩:=hv.inv;refine a1a _ _ ?_;refine RH (J:=λi a=>VF i a v (wI (M2 (n+1) v))) (C:=λ(x:A0) b=>Ds x b) (M2 n) v.B4 (λi a hw=>yO i a v _ hw) la (λx hx=>NU n x (hl x hx) (by have:=Az hx;omega)) _ ?_;refine RH (J:=λi a=>Ry i a v (wI (M2 (n+1) v))) (C:=λ(x:A0 × A0) b=>∃u w,Ds x.1 u/\Ds x.2 w/\b=wI (u+w)) (λx:A0 × A0=>M2 n x.1+M2 n x.2) v.Pairs (λi a hw=>v8 i a v _ ⟨λh=>?_,hw.2⟩) pa (λx hx=>?_) _ ?_
  ·obtain⟨y,h1,h2,b,⟨u,w,c1,c2,rfl⟩,h3⟩:=hw.1 h;exact⟨y,h1,h2,u,c1,y,h1,h2,w,c2,h3⟩
  ·have hz:=AH hx;exact⟨_,_,NU n _ (hp x hx).1 (by omega),NU n _ (hp x hx).2 (by omega),(fV _ _).symm⟩
  refine RH (J:=λi a=>UW i a v (wI (M2 (n+1) v))) (C:=λ(x:Int × A0) b=>Ds x.2 b) (λx:Int × A0=>M2 n x.2) v.Slots (λi a hw=>a2l i a v _ hw) sa (λx hx=>NU n _ (hs x hx) (by have:=BC hx;omega)) _ ?_;rfl
def Y6(v:A0):b4e:=
 ((v.Kind !=11)&& !v.B4.isEmpty)||(((v.Kind !=12)&& !v.Pairs.isEmpty)||(((v.Kind !=10)&& !(v.Slots.isEmpty&&v.C1.isEmpty))||
  (((v.Bits !=0)&&(((v.Kind==7)||(v.Kind==8))||((v.Kind==10)||((v.Kind==11)||(v.Kind==12)))))||(!(decide (v.Text=(⟨#[]⟩:b4b)))&& !((v.Kind==7)||(v.Kind==8))))))
theorem VY{α:Type}(l:b4c α):decide (0<(l.length:Int))= !l.isEmpty:=by
 cases l with
 |nil=>rfl
 |cons x l=>simp
theorem pP{α β:Type}(l:b4c α)(m:b4c β)(h:l.length<=140737488351232)(h2:m.length<=140737488351232):decide (0<wI ((l.length:Int)+(m.length:Int)))= !(l.isEmpty&&m.isEmpty):=by
 rw[wI,C0 (by omega)];cases l with
 |nil=>cases m with
  |nil=>rfl
  |cons x m=>simp
 |cons x l=>simp;omega
theorem u1(k:Int):((decide (10<=k))&&(decide (k<=12)))=((k==10)||((k==11)||(k==12))):=by
 rw[Bool.eq_iff_iff];simp;omega
theorem Vf(v:A0)(hv:AZ v):Lg v (Y6 v):=by
 refine a2x _ _ ?_;rw[VY,VY,pP _ _ hv.s hv.r,u1];unfold Y6;generalize ((v.Kind !=11)&& !v.B4.isEmpty)=b1;generalize ((v.Kind !=12)&& !v.Pairs.isEmpty)=b2;generalize ((v.Kind !=10)&& !(v.Slots.isEmpty&&v.C1.isEmpty))=b3;generalize ((v.Kind==7)||(v.Kind==8))=b4;generalize ((v.Kind==10)||((v.Kind==11)||(v.Kind==12)))=b5;generalize (v.Bits !=0)=b6;generalize (decide (v.Text=(⟨#[]⟩:b4b)))=b7;revert b1 b2 b3 b4 b5 b6 b7;decide
theorem SH(v:A0)(hv:AZ v):MS v (Y6 v):=by
 have key:∀(e10 e11 e12 t n11 n12 n10 b1 b2 b3 b6 b7:b4e),n10= !e10->n11= !e11->n12= !e12->
   ((((b1&&n11)||(b2&&n12))||(b3&& !e10))=true->((n11&&b1)||((n12&&b2)||((n10&&b3)||((b6&&(t||(e10||(e11||e12))))||(!b7&& !t))))))/\
   ((((b1&&n11)||(b2&&n12))||(b3&& !e10))=false->((n11&&b1)||((n12&&b2)||((n10&&b3)||((b6&&(t||(e10||(e11||e12))))||(!b7&& !t)))))=((b6&&(((t||e11)||e12)||e10))||(!b7&& !t))):=by
  intro e10 e11 e12 t n11 n12 n10 b1 b2 b3 b6 b7 h1 h2 h3;subst h1 h2 h3;revert e10 e11 e12 t b1 b2 b3 b6 b7;decide
 have h:=key (v.Kind==10) (v.Kind==11) (v.Kind==12) ((v.Kind==7)||(v.Kind==8)) (v.Kind !=11) (v.Kind !=12) (v.Kind !=10) (!v.B4.isEmpty) (!v.Pairs.isEmpty) (!(v.Slots.isEmpty&&v.C1.isEmpty)) (v.Bits !=0) (decide (v.Text=(⟨#[]⟩:b4b))) rfl rfl rfl;refine yT _ _ ?_;rw[VY,VY,pP _ _ hv.s hv.r];exact h
def T7(p:A5)(kind enum:Int)(v:A0):Int:=
 if((v.Kind !=kind)||Y6 v)=true then 12 else if 4096<v.Text.size then 3 else if((kind==7)&& !Fh v.Text)=true then 7 else if V4 kind v=false then 12 else if((kind==9)&& !Cq p enum v.Bits)=true then 16 else 0
theorem lG(p:A5)(hp:Mn p)(kind enum:Int)(v:A0)(hv:AZ v):VZ ⟨p⟩ kind enum v (T7 p kind enum v):=by
 refine a71 _ _ _ _ _ ⟨λb=>b=((v.Kind !=kind)||Y6 v),λb hb=>⟨λh=>?_,λh=>⟨λh2=>?_,λh2=>⟨λb2=>b2=((kind==7)&& !Fh v.Text),λb2 hb2=>⟨λh3=>?_,λh3=>⟨_,Xr kind v hv,λh4=>?_,λh4=>⟨λh5=>⟨_,pu p hp enum v.Bits hv.b0,λh6=>?_,λh6=>?_⟩,λh5=>?_⟩⟩⟩,λh3=>⟨_,nT _ hv.t,by rw[h3,Bool.true_and]⟩,λh3=>by rw[h3,Bool.false_and]⟩⟩⟩,λh=>by rw[h,Bool.true_or],λh=>⟨_,Vf v hv,by rw[h,Bool.false_or]⟩⟩
 ·subst hb;rw[T7,if_pos h]
 ·subst hb;rw[T7,if_neg (nt h),if_pos (by simp at h2;omega)]
 all_goals (subst hb;have h2':¬4096<v.Text.size:=by simp at h2;omega)
 ·subst hb2;rw[T7,if_neg (nt h),if_neg h2',if_pos h3]
 all_goals subst hb2
 ·rw[T7,if_neg (nt h),if_neg h2',if_neg (nt h3),if_pos (by simpa using h4)]
 ·rw[T7,if_neg (nt h),if_neg h2',if_neg (nt h3),if_neg (by simpa using h4),if_pos (by rw[h5,Bool.true_and];exact h6)]
 ·rw[T7,if_neg (nt h),if_neg h2',if_neg (nt h3),if_neg (by simpa using h4),if_neg (by rw[h5,Bool.true_and];exact nt h6)]
 ·rw[T7,if_neg (nt h),if_neg h2',if_neg (nt h3),if_neg (by simpa using h4),if_neg (by rw[h5,Bool.false_and];simp)]
theorem gi(p:A5)(hp:Mn p)(kind enum:Int)(v:A0)(hv:AZ v):TL p kind enum v (T7 p kind enum v):=by
 refine u6 _ _ _ _ _ ⟨λb=>b=((v.Kind !=kind)||Y6 v),λb hb=>⟨λh=>?_,λh=>⟨λh2=>?_,λh2=>⟨λb2=>b2=((kind==7)&& !Fh v.Text),λb2 hb2=>⟨λh3=>?_,λh3=>⟨_,Te kind v hv,λh4=>?_,λh4=>⟨λh5=>⟨_,qU p hp enum v.Bits hv.b0,λh6=>?_,λh6=>?_⟩,λh5=>?_⟩⟩⟩,λh3=>⟨_,YB _ hv.t,by rw[h3,Bool.true_and]⟩,λh3=>by rw[h3,Bool.false_and]⟩⟩⟩,λh=>by rw[h,Bool.true_or],λh=>⟨_,SH v hv,by rw[h,Bool.false_or]⟩⟩
 ·subst hb;rw[T7,if_pos h]
 ·subst hb;rw[T7,if_neg (nt h),if_pos (by simp at h2;omega)]
 all_goals (subst hb;have h2':¬4096<v.Text.size:=by simp at h2;omega)
 ·subst hb2;rw[T7,if_neg (nt h),if_neg h2',if_pos h3]
 all_goals subst hb2
 ·rw[T7,if_neg (nt h),if_neg h2',if_neg (nt h3),if_pos (by simpa using h4)]
 ·rw[T7,if_neg (nt h),if_neg h2',if_neg (nt h3),if_neg (by simpa using h4),if_pos (by rw[h5,Bool.true_and];exact h6)]
 ·rw[T7,if_neg (nt h),if_neg h2',if_neg (nt h3),if_neg (by simpa using h4),if_neg (by rw[h5,Bool.true_and];exact nt h6)]
 ·rw[T7,if_neg (nt h),if_neg h2',if_neg (nt h3),if_neg (by simpa using h4),if_neg (by rw[h5,Bool.false_and];simp)]
def J1(f:Nat->Int)(i n:Nat):Int:=if i<n then(if f i≠0 then f i else J1 f (i+1) n) else 0
 termination_by n - i
theorem Ej{J:Nat->Prop}{E:Prop}{r:Int}(f:Nat->Int)(n:Nat)(step:∀i,i<n->(f i≠0->r=f i)->(f i=0->J (i+1))->J i)(fin:E->J n):∀i,i<=n->(J1 f i n≠0->r=J1 f i n)->(J1 f i n=0->E)->J i:=by
 have key:∀d i,n - i<=d->i<=n->(J1 f i n≠0->r=J1 f i n)->(J1 f i n=0->E)->J i:=by
  intro d
  induction d with
  |zero=>
   intro i hd hi h1 h2;have e:i=n:=by omega
   subst e;exact fin (h2 (by rw[J1,if_neg (by omega)]))
  |succ d ih=>
   intro i hd hi h1 h2;rcases Nat.lt_or_ge i n with hlt|hge
   ·rw[J1,if_pos hlt]at h1 h2;refine step i hlt (λh=>?_) (λh=>?_)
    ·rw[if_pos h]at h1;exact h1 h
    ·rw[if_neg (by omega)]at h1 h2;exact ih (i+1) (by omega) (by omega) h1 h2
   ·have e:i=n:=by omega
    subst e;exact fin (h2 (by rw[J1,if_neg (by omega)]))
 intro i;exact key _ i (Nat.le_refl _)
theorem UD{f:Nat->Int}{n:Nat}:∀i,J1 f i n=0->∀k,i<=k->k<n->f k=0:=by
 have key:∀d i,n - i<=d->J1 f i n=0->∀k,i<=k->k<n->f k=0:=by
  intro d
  induction d with
  |zero=>intro i hd _ k h1 h2;omega
  |succ d ih=>
   intro i hd h k h1 h2;rw[J1,if_pos (show i<n by omega)]at h
   by_cases e:f i=0
   ·rw[if_neg (by omega)]at h;rcases Nat.lt_or_ge i k with h3|h3
    ·exact ih (i+1) (by omega) h k h3 h2
    ·have:k=i:=by omega
     rw[this];exact e
   ·rw[if_pos e]at h;exact absurd h e
 exact λi=>key _ i (Nat.le_refl _)
theorem Xs{α:Type}(f:α->b4e):∀(l:b4c α) (i:Int),0<=i->decide (0<=Q0 f l i)=l.any f
 |[],i,_=>by simp[Q0]
 |x::l,i,hi=>by
  have ih:=Xs f l (i+1) (by omega);rw[List.any_cons,<-ih]
  by_cases h:f x=true
  ·have e:Q0 f (x::l) i=i:=by simp only[Q0];rw[if_pos h]
   simp only[e,h,Bool.true_or];simpa using hi
  ·have e:Q0 f (x::l) i=Q0 f l (i+1):=by simp only[Q0];rw[if_neg h]
   simp at h;simp only[e,h,Bool.false_or]
end Go.Proofs.YtdpomombdeccpaaGreatDoor.Lift
