/- Part 7 of the texts that prove RowCutsEnd. -/
import Derived.Test.YtidmmngcijapcaaGreatRowCutsEndP5
import Derived.Lib.DecodeN
import Derived.Test.YtidmmngcijapcaaGreatRowCutsEndP0
namespace Go.Proofs.YtidmmngcijapcaaGreat.Lift
open Go.RowKit
set_option linter.unusedVariables false
set_option linter.unusedSimpArgs false
set_option linter.unnecessarySimpa false
set_option linter.unusedSectionVars false
set_option maxRecDepth 100000
def c0z (c:A3) (n:Nat):ByteArray:=c.Data.extract c.At.toNat (c.At.toNat+min (a07 c.Data c.At c.End).toNat n)
theorem e5h (c:A3) (hc:OkC c) (n:Nat) (hn:n<=1000):b5e c n (c0z c n):=by
 refine c5x _ _ _ ⟨_,d89 c,fun h=> ?_,fun h=> ?_⟩
 ·rw [c0z,a07,if_neg (by simpa using h)]
  rw [show (0:Int).toNat=0 from rfl,Nat.zero_min]
  exact c6x _ _
 ·have h1:b1h c.Data c.At c.End=true:=by simpa using h
  rw [c0z,a07,if_pos h1]
  simp only [b1h,decide_eq_true_eq] at h1
  have:=hc.sz
  rw [wI,D5 (by omega)]
  exact ⟨by omega,by congr 1; omega⟩
theorem c8b (c:A3) (n:Nat):(c0z c n).size=min (a07 c.Data c.At c.End).toNat n:=by
 have:=a8w c
 unfold c0z
 rcases Int.lt_or_le 0 (a07 c.Data c.At c.End) with h|h
 ·obtain ⟨h1,h2,h3,h4⟩:=b4i h
  rw [U6 _ (by omega)]; omega
 ·have:a07 c.Data c.At c.End=0:=by have:=c49 c; omega
  rw [this,show (0:Int).toNat=0 from rfl,Nat.zero_min]
  rw [Nat.add_zero,c6x]; rfl
theorem d5g (c:A3) (n i:Nat) (hi:i<n) (h:i<(O4 c).size):H5 (c0z c n) i=H5 (O4 c) i:=by
 have:=a8w c
 unfold c0z O4
 rw [Z4 _ (by omega),Z4 _ (by omega)]
theorem e5s (c:A3):W4 (c0z c 10) 0 0=W4 (O4 c) 0 0:=by
 have hs:=a8w c
 have hh:=c8b c 10
 refine d6n _ _ (fun i hi=>by omega) (fun i hi h=>d5g c 10 i (by omega) (by omega)) 10 0 0 rfl
theorem OkC.rest {c:A3} (hc:OkC c):(O4 c).size<=140737488351232:=by
 have h1:=a8w c
 have:=hc.sz
 rcases Int.lt_or_le 0 (a07 c.Data c.At c.End) with h|h
 ·obtain ⟨h1,h2,h3,h4⟩:=b4i h; omega
 ·omega
def f8d (c:A3):Int × A3 × Int:=if (W4 (O4 c) 0 0).2.2=0 then ((W4 (O4 c) 0 0).1,a2j c (W4 (O4 c) 0 0).2.1,0) else (0,c,(W4 (O4 c) 0 0).2.2)
theorem d2q (c:A3) (hc:OkC c): -9223372036854775808<=c.At+(W4 (O4 c) 0 0).2.1 /\ c.At+(W4 (O4 c) 0 0).2.1<=9223372036854775807:=by
 have h1:=(c3c (O4 c) 10 0 0 rfl).1
 have h2:=a8w c
 have:=hc.sz; have:=hc.a0; have:=hc.a1
 rcases Int.lt_or_le 0 (a07 c.Data c.At c.End) with h|h
 ·obtain ⟨h1,h2,h3,h4⟩:=b4i h; omega
 ·omega
theorem e2n (c:A3) (hc:OkC c):b54 c (f8d c):=by
 have hs:=d2q c hc
 have ht:=f68 (c0z c 10) (by rw [c8b]; omega)
 rw [e5s] at ht
 refine c05 _ _ ⟨_,e5h c hc 10 (by omega),_,ht,fun h=> ?_,fun h=> ?_⟩
 ·rw [f8d,if_neg]
  ·rfl
  ·intro h0; simp [tk,h0] at h
 ·have h0:(W4 (O4 c) 0 0).2.2=0:=by simpa [tk] using h
  exact ⟨_,c6k c _ hs,by rw [f8d,if_pos h0]; rfl⟩
theorem g9r {i:Nat} (h:i<=7):(2:Int) ^ min (wI (8*(i:Int))).toNat IntKind.u64.bits=((256 ^ i:Nat):Int) /\ 0<=wI (8*(i:Int)):=by
 have:i=0\/i=1\/i=2\/i=3\/i=4\/i=5\/i=6\/i=7:=by omega
 rcases this with rfl|rfl|rfl|rfl|rfl|rfl|rfl|rfl<;>decide+kernel
theorem e2g (s:ByteArray) (h8:8<=s.size):∀n i:Nat,8 - i=n ->i<=8 ->a09 i (leS s i) s (leS s 8,0):=by
 intro n
 induction n with
 |zero=>
  intro i h1 h2
  have:i=8:=by omega
  subst this
  exact a5k _ _ _ _ ⟨fun h=>by simp at h,fun _=>rfl⟩
 |succ n ih=>
  intro i h1 h2
  have hi:i<=7:=by omega
  obtain ⟨hp,h0⟩:=g9r hi
  obtain ⟨p1,p2,p3⟩:=g2z hi
  have hb:=b2v s i
  have hl:=e2s s i
  have hn:((i:Int)).toNat=i:=by omega
  refine a5k _ _ _ _ ⟨fun _=>⟨⟨by omega,by omega⟩,h0, ?_⟩,fun h=>by simp at h; omega⟩
  have hm:H5 s i*256 ^ i<=255*256 ^ i:=Nat.mul_le_mul_right _ (by omega)
  have e1:wU ((H5 s i:Nat):Int)=(H5 s i:Int):=b5u (by omega)
  have e2:wU ((H5 s i*256 ^ i:Nat):Int)=((H5 s i*256 ^ i:Nat):Int):=b5u (by omega)
  rw [hn,hb.1,e1,hp,<-Int.natCast_mul,e2,c7w _ _ (by omega) (by omega),p3,f3f _ _ _ (by rw [<-p3]; exact hl),wI,D5 (by omega)]
  have:=ih (i+1) (by omega) (by omega)
  rw [leS,p3] at this
  exact this
theorem e0q (s:ByteArray):a9r s ((f3n s).1,(f3n s).2):=by
 refine b7r _ _ ⟨fun h=> ?_,fun h=> ?_⟩
 ·simp only [decide_eq_true_eq] at h
  rw [f3n,if_pos (by omega)]; rfl
 ·simp only [decide_eq_false_iff_not] at h
  have h8:¬s.size<8:=by omega
  rw [f3n,if_neg h8]
  exact e2g s (by omega) 8 0 rfl (by omega)
def c4w (c:A3):Int × A3 × Int:=if 8<=(O4 c).size then ((leS (O4 c) 8:Nat),a2j c 8,0) else (0,c,4)
theorem f19 (c:A3) (hc:OkC c):b67 c (c4w c):=by
 have hs:=a8w c
 have hh:=c8b c 8
 have:=hc.sz; have:=hc.a0; have:=hc.a1
 refine c4d _ _ ⟨_,e5h c hc 8 (by omega),_,e0q _,fun h=> ?_,fun h=> ?_⟩
 ·have:(c0z c 8).size<8:=by
   rcases Nat.lt_or_ge (c0z c 8).size 8 with h1|h1
   ·exact h1
   ·simp [f3n,Nat.not_lt.2 h1] at h
  rw [c4w,if_neg (by omega),f3n,if_pos this]; rfl
 ·have h1:8<=(c0z c 8).size:=by
   rcases Nat.lt_or_ge (c0z c 8).size 8 with h1|h1
   ·simp [f3n,h1] at h
   ·exact h1
  have h0:0<a07 c.Data c.At c.End:=by omega
  obtain ⟨k1,k2,k3,k4⟩:=b4i h0
  refine ⟨_,c6k c 8 (by omega), ?_⟩
  rw [c4w,if_pos (by omega),f3n,if_neg (by omega),c7b (c0z c 8) (O4 c) 8 fun i hi=>d5g c 8 i hi (by omega)]
theorem a9o (s:ByteArray):(bI s).length=s.size:=by simp [bI]
def a65 (c:A3) (n:Int):ByteArray × A3 × Int:=if n<0 then (⟨#[]⟩,c,1) else if a07 c.Data c.At c.End<n then (⟨#[]⟩,c,4) else if c.Text<n then (⟨#[]⟩,c,3) else (c.Data.extract c.At.toNat (c.At.toNat+n.toNat),a2j c n,0)
theorem d38 (c:A3):a2j c 0=c:=by cases c; simp [a2j]
theorem f69 (c:A3) (hc:OkC c) (n:Int):c0d c n (a65 c n):=by
 have:=hc.sz
 refine c5h _ _ _ ⟨fun h=> ?_,fun h=>⟨_,d1n c hc,fun h2=> ?_,fun h2=>⟨fun h3=> ?_,fun h3=>⟨fun h4=> ?_,fun h4=> ?_⟩⟩⟩⟩
 ·rw [a65,if_pos (by simpa using h)]
 all_goals simp only [decide_eq_false_iff_not,decide_eq_true_eq,beq_iff_eq,beq_eq_false_iff_ne] at*
 ·rw [a65,if_neg h,if_pos h2]
 ·rw [a65,if_neg h,if_neg h2,if_pos h3]
 ·subst h4
  rw [a65,if_neg h,if_neg h2,if_neg h3,d38,show (0:Int).toNat=0 from rfl,Nat.add_zero,c6x]
 ·have h0:0<a07 c.Data c.At c.End:=by omega
  obtain ⟨k1,k2,k3,k4⟩:=b4i h0
  have hw:wI (c.At+n)=c.At+n:=D5 (by omega)
  have hx:(wI (c.At+n)).toNat=c.At.toNat+n.toNat:=by rw [hw]; omega
  have hl:(bI (c.Data.extract c.At.toNat (wI (c.At+n)).toNat)).length=n.toNat:=by rw [a9o,hx,U6 _ (by omega)]; omega
  refine ⟨_,c3p _ _ _ ⟨⟨k1,by rw [hw]; omega,by rw [hw]; omega⟩,⟨Int.le_refl _,by omega,by rw [hl]; omega⟩,rfl⟩,c.Data.extract c.At.toNat (c.At.toNat+n.toNat), ?_,_,c6k c n (by omega), ?_⟩
  ·rw [show (0:Int).toNat=0 from rfl,List.drop_zero,List.take_of_length_le (by omega),hx]
  ·rw [a65,if_neg h,if_neg h2,if_neg h3]
def ofI (l:List Int):ByteArray:=⟨(l.map fun n=>UInt8.ofNat n.toNat).toArray⟩
def b64 (l:List Int):Prop:=∀x∈l,0<=x /\ x<256
theorem c66 {l:List Int} (h:b64 l):l=bI (ofI l):=by
 simp only [bI,ofI,List.map_map]
 symm
 conv=>rhs; rw [<-List.map_id l]
 refine List.map_congr_left fun x hx=> ?_
 have:=h x hx
 simp only [Function.comp,id]
 rw [UInt8.toNat_ofNat_of_lt' (show x.toNat<UInt8.size by simp [UInt8.size]; omega)]
 omega
theorem a7p {a b:List Int} (ha:b64 a) (hb:b64 b):b64 (a++b):=fun x hx=>(List.mem_append.1 hx).elim (ha x) (hb x)
theorem a0w {x:Int} (h:0<=x /\ x<256):b64 [x]:=fun y hy=>by simp at hy; subst hy; exact h
def b26 (u:Nat):List Int:=if u<128 then [(u:Int)] else ((u % 128+128:Nat):Int)::b26 (u / 128)
 termination_by u
theorem c98 (u:Nat):b64 (b26 u):=by
 induction u using Nat.strongRecOn with
 |_ u ih=>
  rw [b26]
  split
  ·exact a0w (by omega)
  ·exact a7p (a0w (by omega)) (ih (u / 128) (by omega))
def b3e (u:Nat):ByteArray:=ofI (b26 u)
theorem g7c (c:Nat) (h:c<256):F4 .or .u8 (c:Int) 128=((c % 128+128:Nat):Int):=by
 have:∀c:Fin 256,F4 .or .u8 ((c.val:Nat):Int) 128=((c.val % 128+128:Nat):Int):=by decide+kernel
 exact this ⟨c,h⟩
theorem d6c (u:Nat):IntKind.u8.wrap (u:Int)=((u % 256:Nat):Int):=by simp [IntKind.wrap,IntKind.signed,IntKind.bits]
theorem h0d (u:Nat):(u:Int).fdiv (2 ^ min (7:Int).toNat IntKind.u64.bits)=((u / 128:Nat):Int):=by
 rw [show (2:Int) ^ min (7:Int).toNat IntKind.u64.bits=((128:Nat):Int) by decide+kernel]
 rw [Int.fdiv_eq_ediv_of_nonneg _ (by omega)]; rfl
theorem g6l:∀(k u:Nat) (l:List Int),u<128 ^ k ->b64 l ->l.length+k<=1000 ->b0j l u (ofI (l++b26 u)):=by
 intro k
 induction k with
 |zero=>
  intro u l hu hl hk
  have:u=0:=by simpa using hu
  subst this
  refine b2c _ _ _ ⟨fun h=>by simp at h,fun _=>⟨by simp; omega,_, ?_,rfl⟩⟩
  rw [d6c,b26,if_pos (by omega)]
  exact c66 (a7p hl (a0w (by omega)))
 |succ k ih=>
  intro u l hu hl hk
  refine b2c _ _ _ ⟨fun h=>⟨by simp; omega, ?_⟩,fun h=>⟨by simp; omega,_, ?_,rfl⟩⟩
  ·simp only [decide_eq_true_eq] at h
   rw [d6c,g7c _ (by omega),h0d]
   have:=ih (u / 128) (l++[((u % 128+128:Nat):Int)]) (by rw [Nat.pow_succ] at hu; omega) (a7p hl (a0w (by omega))) (by simp; omega)
   rw [List.append_assoc] at this
   rw [b26,if_neg (by omega)]
   have e:u % 256 % 128=u % 128:=by omega
   rw [e]
   exact this
  ·simp only [decide_eq_false_iff_not] at h
   rw [d6c,b26,if_pos (by omega)]
   have e:u % 256=u:=by omega
   rw [e]
   exact c66 (a7p hl (a0w (by omega)))
theorem d4a (u:Nat) (hu:u<18446744073709551616):a3l u (b3e u):=c7j _ _ (g6l 10 u [] (by omega) (fun x hx=>by cases hx) (by decide))
theorem g1r:∀(k u:Nat) (l:List Int),u<18446744073709551616 ->u<128 ^ k ->b64 l ->l.length+k<=1000 ->b2p l u (ofI (l++b26 u)):=by
 intro k
 induction k with
 |zero=>
  intro u l h64 hu hl hk
  have:u=0:=by simpa using hu
  subst this
  refine b4n _ _ _ ⟨fun h=>by simp at h,fun _=>⟨by simp; omega,_, ?_,rfl⟩⟩
  rw [d6c,b26,if_pos (by omega)]
  exact c66 (a7p hl (a0w (by omega)))
 |succ k ih=>
  intro u l h64 hu hl hk
  refine b4n _ _ _ ⟨fun h=>⟨by simp; omega, ?_⟩,fun h=>⟨by simp; omega,_, ?_,rfl⟩⟩
  ·simp only [decide_eq_true_eq] at h
   have e1:wU ((u:Int).tmod 128+128)=((u % 128+128:Nat):Int):=by
    have:(u:Int).tmod 128=((u % 128:Nat):Int):=rfl
    rw [this,wU,b5u (by omega)]; omega
   have e2:wU ((u:Int).tdiv 128)=((u / 128:Nat):Int):=by
    have:(u:Int).tdiv 128=((u / 128:Nat):Int):=rfl
    rw [this,wU,b5u (by omega)]
   rw [e1,e2,d6c]
   have:=ih (u / 128) (l++[((u % 128+128:Nat):Int)]) (by omega) (by rw [Nat.pow_succ] at hu; omega) (a7p hl (a0w (by omega))) (by simp; omega)
   rw [List.append_assoc] at this
   rw [b26,if_neg (by omega)]
   have e:(u % 128+128) % 256=u % 128+128:=by omega
   rw [e]
   exact this
  ·simp only [decide_eq_false_iff_not] at h
   rw [d6c,b26,if_pos (by omega)]
   have e:u % 256=u:=by omega
   rw [e]
   exact c66 (a7p hl (a0w (by omega)))
theorem e8h (u:Nat) (hu:u<18446744073709551616):c1d u (b3e u):=c9g _ _ (g1r 10 u [] hu (by omega) (fun x hx=>by cases hx) (by decide))
theorem b14 (l:List Int):(ofI l).size=l.length:=by simp [ofI,ByteArray.size]
theorem e9h (u:Nat):0<(b26 u).length:=by rw [b26]; split<;>simp
theorem g66:∀(k u:Nat) (n:Nat),u<128 ^ k ->n+k<=1000 ->1<=n ->b0l n u ((n:Int)+(b26 u).length - 1):=by
 intro k
 induction k with
 |zero=>
  intro u n hu hk h1
  have:u=0:=by simpa using hu
  subst this
  refine b2y _ _ _ ⟨fun h=>by simp at h,fun _=> ?_⟩
  rw [b26,if_pos (by omega)]; simp
 |succ k ih=>
  intro u n hu hk h1
  refine b2y _ _ _ ⟨fun h=> ?_,fun h=> ?_⟩
  ·simp only [decide_eq_true_eq] at h
   rw [h0d,wI,D5 (by omega)]
   have:=ih (u / 128) (n+1) (by rw [Nat.pow_succ] at hu; omega) (by omega) (by omega)
   rw [b26,if_neg (by omega),List.length_cons]
   have e:(((n+1:Nat):Int)+(b26 (u / 128)).length - 1)=(n:Int)+(((b26 (u / 128)).length+1:Nat):Int) - 1:=by omega
   rw [e] at this
   exact this
  ·simp only [decide_eq_false_iff_not] at h
   rw [b26,if_pos (by omega)]; simp
theorem g02 (u:Nat) (hu:u<18446744073709551616):c35 u ((b3e u).size:Int):=by
 have:=g66 10 u 1 (by omega) (by omega) (by omega)
 have e:((1:Nat):Int)+(b26 u).length - 1=((b3e u).size:Int):=by rw [b3e,b14]; omega
 rw [e] at this
 exact c8i _ _ this
def e8s (n:Int):Nat:=if 0<=n then (2*n).toNat else (-2*n - 1).toNat
def e8x (u:Nat):Int:=if u % 2=0 then (u / 2:Nat) else -((u / 2:Nat):Int) - 1
theorem f8v (n:Int):e8x (e8s n)=n:=by unfold e8x e8s; split<;>split<;>omega
theorem f2w {n:Int} (h: -9223372036854775808<=n /\ n<0):wU n=n+18446744073709551616:=by simp [wU,IntKind.wrap,IntKind.signed,IntKind.bits]; omega
theorem g07 (n:Int) (h: -9223372036854775808<=n /\ n<=9223372036854775807):c2z n (e8s n):=by
 refine c8p _ _ ?_
 rw [show (2:Int) ^ min (1:Int).toNat IntKind.u64.bits=2 by decide+kernel,show (2:Int) ^ min (63:Int).toNat IntKind.i64.bits=9223372036854775808 by decide+kernel,Int.fdiv_eq_ediv_of_nonneg _ (by omega)]
 unfold e8s
 rcases Int.lt_or_le n 0 with hn|hn
 ·rw [if_neg (by omega)]
  have e1:n / 9223372036854775808= -1:=by omega
  have e2:wU (-1)=18446744073709551615:=by decide+kernel
  have e3:wU n=n+18446744073709551616:=f2w ⟨h.1,hn⟩
  have e4:wU ((n+18446744073709551616)*2)=(((n+9223372036854775808)*2).toNat:Int):=by
   simp [wU,IntKind.wrap,IntKind.signed,IntKind.bits]; omega
  rw [e1,e2,e3,e4,d3l _ (by omega)]
  omega
 ·rw [if_pos hn]
  have e1:n / 9223372036854775808=0:=by omega
  have e2:wU 0=0:=by decide+kernel
  have e3:wU n=n:=b5u (by omega)
  have e4:wU (n*2)=((2*n).toNat:Int):=by rw [wU,b5u (by omega)]; omega
  rw [e1,e2,e3,e4,d3e _ (by omega)]
theorem g33 (u:Nat) (h:u<18446744073709551616):b8w u (e8x u):=by
 refine c73 _ _ ?_
 have e0:(u:Int).fdiv (2 ^ min (1:Int).toNat IntKind.u64.bits)=((u / 2:Nat):Int):=by
  rw [show (2:Int) ^ min (1:Int).toNat IntKind.u64.bits=((2:Nat):Int) by decide+kernel,Int.fdiv_eq_ediv_of_nonneg _ (by omega)]; rfl
 have e1:F4 .and .u64 (u:Int) 1=((u % 2:Nat):Int):=by
  have:=b6x u 1 h (by omega)
  rw [Nat.and_one_is_mod] at this
  exact this
 have e2:wI ((u / 2:Nat):Int)=((u / 2:Nat):Int):=D5 (by omega)
 rw [e0,e1,e2]
 have e3:wI ((u % 2:Nat):Int)=((u % 2:Nat):Int):=D5 (by omega)
 rw [e3]
 unfold e8x
 rcases Nat.mod_two_eq_zero_or_one u with h2|h2
 ·rw [h2,if_pos rfl,show wI (0 - ((0:Nat):Int))=0 by decide+kernel,d35 _ (by omega)]
 ·rw [h2,if_neg (by omega),show wI (0 - ((1:Nat):Int))= -1 by decide+kernel,d4g _ (by omega)]
theorem f52 (u:Nat) (h:u<18446744073709551616):c8f u (e8x u):=by
 have e1:(u:Int).tdiv 2=((u / 2:Nat):Int):=rfl
 have e2:(u:Int).tmod 2=((u % 2:Nat):Int):=rfl
 have e3:wU ((u / 2:Nat):Int)=((u / 2:Nat):Int):=b5u (by omega)
 have e4:wI ((u / 2:Nat):Int)=((u / 2:Nat):Int):=D5 (by omega)
 refine c9x _ _ ⟨fun hh=> ?_,fun hh=> ?_⟩
 ·rw [e2] at hh
  simp only [beq_iff_eq] at hh
  rw [e1,e3,e4,e8x,if_pos (by omega)]
 ·rw [e2] at hh
  simp only [beq_eq_false_iff_ne] at hh
  have e5:wI (0 - ((u / 2:Nat):Int))=0 - ((u / 2:Nat):Int):=D5 (by omega)
  rw [e1,e3,e4,e5,e8x,if_neg (by omega),wI,D5 (by omega)]; omega
theorem d2d (s:ByteArray):∀n i u:Nat,10 - i=n ->i<=9 ->u<128 ^ i ->(W4 s i u).1<18446744073709551616:=by
 intro n
 induction n with
 |zero=>intro i u h1 h2; omega
 |succ n ih=>
  intro i u h1 h2 hu
  have hb:=b2v s i
  rw [W4.eq_def,if_neg (by omega)]
  split
  ·decide
  split
  ·decide
  rename_i h9
  obtain ⟨p1,p2,p3⟩:=e8k h2
  split
  ·rename_i hlt
   rcases Nat.lt_or_ge i 9 with h|h
   ·have:=p3 (by omega)
    have hm:H5 s i*128 ^ i<=127*128 ^ i:=Nat.mul_le_mul_right _ (by omega)
    rw [Nat.pow_succ] at this
    simp only; omega
   ·have h':i=9:=by omega
    subst h'
    have:H5 s 9<=1:=by omega
    have hm:H5 s 9*128 ^ 9<=1*128 ^ 9:=Nat.mul_le_mul_right _ this
    simp only; omega
  ·rename_i hge
   have h8:i<=8:=by
    rcases Nat.lt_or_ge i 9 with h|h
    ·omega
    ·exact (h9 ⟨by omega,by omega⟩).elim
   have hm:H5 s i % 128*128 ^ i<=127*128 ^ i:=Nat.mul_le_mul_right _ (by omega)
   exact ih (i+1) _ (by omega) (by omega) (by rw [Nat.pow_succ]; omega)
def T3 (c:A3):Int × A3 × Int:=
 if (W4 (O4 c) 0 0).2.2=0 then if (W4 (O4 c) 0 0).2.1=(b3e (W4 (O4 c) 0 0).1).size then ((W4 (O4 c) 0 0).1,a2j c (W4 (O4 c) 0 0).2.1,0) else (0,c,5) else (0,c,(W4 (O4 c) 0 0).2.2)
theorem c8l (c:A3) (hc:OkC c):b35 c (T3 c):=by
 have hl:=d2d (O4 c) 10 0 0 rfl (by omega) (by decide)
 have hr:=(c3c (O4 c) 10 0 0 rfl).1
 have hz:=hc.rest
 have hs:=d2q c hc
 refine c67 _ _ ⟨_,e2n c hc,fun h=> ?_,fun h=> ?_⟩
 ·have h0:(W4 (O4 c) 0 0).2.2≠0:=by
   intro h0
   simp [f8d,h0] at h
  rw [T3,if_neg h0]
  simp only [f8d,if_neg h0]
 ·have h0:(W4 (O4 c) 0 0).2.2=0:=by
   rcases Nat.eq_zero_or_pos (W4 (O4 c) 0 0).2.2 with h0|h0
   ·exact h0
   ·have:¬(W4 (O4 c) 0 0).2.2=0:=by omega
    simp only [f8d,if_neg this] at h
    simp at h
    omega
  simp only [f8d,if_pos h0,T3]
  refine ⟨_,g02 _ hl,fun h1=> ?_,fun h1=> ?_⟩
  ·rw [if_neg]
   intro h2
   rw [<-h2] at h1
   have e:wI ((a2j c (W4 (O4 c) 0 0).2.1).At - c.At)=((W4 (O4 c) 0 0).2.1:Int):=by
    show wI (c.At+_ - c.At)=_
    rw [wI,D5 (by omega)]; omega
   rw [e] at h1
   simp at h1
  ·have e:wI ((a2j c (W4 (O4 c) 0 0).2.1).At - c.At)=((W4 (O4 c) 0 0).2.1:Int):=by
    show wI (c.At+_ - c.At)=_
    rw [wI,D5 (by omega)]; omega
   rw [e] at h1
   simp only [bne_eq_false_iff_eq] at h1
   rw [if_pos (by omega)]
def a1e (v:A0):A0:=if v.Kind=6 /\ f84 v.Bits.toNat=0 then ⟨v.Kind,9221120237041090560,v.Text,v.List_,v.Pairs,v.Slots,v.Raws⟩ else v
theorem d2z (v:A0) (hb:0<=v.Bits /\ v.Bits<18446744073709551616):a77 v (a1e v):=by
 have hz:v.Bits=(v.Bits.toNat:Int):=by omega
 have hc:=d8y v.Bits.toNat (by omega)
 rw [<-hz] at hc
 refine c5p _ _ ⟨fun h=>⟨_,hc,fun h2=> ?_,fun h2=> ?_⟩,fun h=> ?_⟩
 all_goals simp only [beq_iff_eq,beq_eq_false_iff_ne] at*
 ·rw [a1e,if_pos ⟨h,by omega⟩]
 ·rw [a1e,if_neg (by omega)]
 ·rw [a1e,if_neg (by omega)]
def d72 (u:Nat) (n:Nat):List Int:=(List.range n).map fun i=>((u / 256 ^ i % 256:Nat):Int)
theorem d09 (u n:Nat):b64 (d72 u n):=fun x hx=>by
 obtain ⟨i,_,rfl⟩:=List.mem_map.1 hx
 omega
theorem e2i (u n:Nat):d72 u (n+1)=d72 u n++[((u / 256 ^ n % 256:Nat):Int)]:=by simp [d72,List.range_succ]
def d7v (u:Nat):ByteArray:=ofI (d72 u 8)
theorem e9t (u:Nat):∀n i:Nat,8 - i=n ->i<=8 ->a6d i u (d72 u i++List.replicate (8 - i) 0) (d7v u):=by
 intro n
 induction n with
 |zero=>
  intro i h1 h2
  have:i=8:=by omega
  subst this
  refine a92 _ _ _ _ ⟨fun h=>by simp at h,fun _=>⟨by simp [d72],_, ?_,rfl⟩⟩
  simp only [Nat.sub_self,List.replicate_zero,List.append_nil]
  exact c66 (d09 u 8)
 |succ n ih=>
  intro i h1 h2
  obtain ⟨hp,h0⟩:=g9r (show i<=7 by omega)
  have hn:((i:Int)).toNat=i:=by omega
  have hl:(d72 u i).length=i:=by simp [d72]
  refine a92 _ _ _ _ ⟨fun _=>⟨h0,⟨by omega,by omega⟩,by simp [hl]; omega, ?_⟩,fun h=>by simp at h; omega⟩
  have e1:(u:Int).fdiv ((256 ^ i:Nat):Int)=((u / 256 ^ i:Nat):Int):=by
   rw [Int.fdiv_eq_ediv_of_nonneg _ (Int.natCast_nonneg _)]; rfl
  rw [hp,e1,d6c,hn,wI,D5 (by omega)]
  have:=ih (i+1) (by omega) (by omega)
  rw [e2i] at this
  have e2:(d72 u i++List.replicate (8 - i) (0:Int)).set i ((u / 256 ^ i % 256:Nat):Int)=d72 u i++[((u / 256 ^ i % 256:Nat):Int)]++List.replicate (8 - (i+1)) 0:=by
   rw [List.set_append_right _ _ (by omega),hl,Nat.sub_self,show 8 - i=(8 - (i+1))+1 by omega,List.replicate_succ,List.set_cons_zero,List.append_assoc]
   rfl
  rw [e2]
  exact this
theorem e3k (u:Nat):b72 u (d7v u):=c27 _ _ ⟨by omega,e9t u 8 0 rfl (by omega)⟩
def a08 (n b0 b1 b2 b3:Nat):Nat:=
 if b0<128 then 1
 else if (194<=b0 /\ b0<=223) /\ (1<n /\ 128<=b1 /\ b1<=191) then 2
 else if b0=224 /\ (1<n /\ 160<=b1 /\ b1<=191) /\ (2<n /\ 128<=b2 /\ b2<=191) then 3
 else if b0=237 /\ (1<n /\ 128<=b1 /\ b1<=159) /\ (2<n /\ 128<=b2 /\ b2<=191) then 3
 else if (225<=b0 /\ b0<=239 /\ b0≠237) /\ (1<n /\ 128<=b1 /\ b1<=191) /\ (2<n /\ 128<=b2 /\ b2<=191) then 3
 else if b0=240 /\ (1<n /\ 144<=b1 /\ b1<=191) /\ (2<n /\ 128<=b2 /\ b2<=191) /\ (3<n /\ 128<=b3 /\ b3<=191) then 4
 else if (241<=b0 /\ b0<=243) /\ (1<n /\ 128<=b1 /\ b1<=191) /\ (2<n /\ 128<=b2 /\ b2<=191) /\ (3<n /\ 128<=b3 /\ b3<=191) then 4
 else if b0=244 /\ (1<n /\ 128<=b1 /\ b1<=143) /\ (2<n /\ 128<=b2 /\ b2<=191) /\ (3<n /\ 128<=b3 /\ b3<=191) then 4
 else 0
theorem f1k (n b0 b1 b2 b3:Nat) (hn:1<=n):a08 n b0 b1 b2 b3<=n:=by
 unfold a08
 repeat' split
 all_goals omega
def okN (n b0 b1 b2:Nat) (x:Nat × Nat):Nat:=if x.1=65533 /\ ¬(2<n /\ b0=239 /\ b1=191 /\ b2=189) then 0 else x.2
theorem b69 {n b0 b1 b2 k:Nat} (h:¬(2<n /\ b0=239 /\ b1=191 /\ b2=189)):okN n b0 b1 b2 (65533,k)=0:=by unfold okN; rw [if_pos ⟨rfl,h⟩]
theorem b15 {n b0 b1 b2 c k:Nat} (h:c≠65533\/(2<n /\ b0=239 /\ b1=191 /\ b2=189)):okN n b0 b1 b2 (c,k)=k:=by
 unfold okN; rw [if_neg]; intro ⟨h1,h2⟩; rcases h with h|h
 ·exact h h1
 ·exact h2 h
theorem g8g (n b0 b1 b2 b3:Nat) (hb:194<=b0 /\ b0<=223) (h1:b1<256):a08 n b0 b1 b2 b3=okN n b0 b1 b2 (Lib.decodeN n b0 b1 b2 b3):=by
 by_cases h:1<n /\ 128<=b1 /\ b1<=191
 ·have e1:a08 n b0 b1 b2 b3=2:=by unfold a08; rw [if_neg (by omega),if_pos (by omega)]
  have e2:Lib.decodeN n b0 b1 b2 b3=(b0 % 32*64+b1 % 64,2):=by unfold Lib.decodeN; rw [if_neg (by omega),if_pos (by omega),if_pos (by omega)]
  rw [e1,e2,b15 (by omega)]
 ·have e1:a08 n b0 b1 b2 b3=0:=by unfold a08; rw [if_neg (by omega),if_neg (by omega),if_neg (by omega),if_neg (by omega),if_neg (by omega),if_neg (by omega),if_neg (by omega),if_neg (by omega)]
  have e2:Lib.decodeN n b0 b1 b2 b3=(65533,1):=by unfold Lib.decodeN; rw [if_neg (by omega),if_neg (by omega),if_neg (by omega),if_neg (by omega)]
  rw [e1,e2,b69 (by omega)]
theorem g0b (n b0 b1 b2 b3:Nat) (hb:(128<=b0 /\ b0<194)\/245<=b0) (h0:b0<256):a08 n b0 b1 b2 b3=okN n b0 b1 b2 (Lib.decodeN n b0 b1 b2 b3):=by
 have e:Lib.decodeN n b0 b1 b2 b3=(65533,1):=by
  unfold Lib.decodeN
  rw [if_neg (by omega)]
  by_cases c1:b0 / 32=6 /\ (1<n /\ b1 / 64=2)
  ·rw [if_pos c1,if_neg (by omega)]
  ·rw [if_neg c1,if_neg (by omega)]
   by_cases c2:b0 / 8=30 /\ (1<n /\ b1 / 64=2) /\ (2<n /\ b2 / 64=2) /\ (3<n /\ b3 / 64=2)
   ·rw [if_pos c2,if_neg (by omega)]
   ·rw [if_neg c2]
 rw [e,b69 (by omega)]
 unfold a08
 rw [if_neg (by omega),if_neg (by omega),if_neg (by omega),if_neg (by omega),if_neg (by omega),if_neg (by omega),if_neg (by omega),if_neg (by omega)]
theorem g6z (n b0 b1 b2 b3:Nat) (hb:224<=b0 /\ b0<=239) (h1:b1<256) (h2:b2<256):a08 n b0 b1 b2 b3=okN n b0 b1 b2 (Lib.decodeN n b0 b1 b2 b3):=by
 by_cases c:(1<n /\ b1 / 64=2) /\ (2<n /\ b2 / 64=2)
 ·by_cases d0:b0=224
  ·by_cases d1:160<=b1
   ·have e1:a08 n b0 b1 b2 b3=3:=by unfold a08; rw [if_neg (by omega),if_neg (by omega),if_pos (by omega)]
    have e2:Lib.decodeN n b0 b1 b2 b3=(b0 % 16*4096+b1 % 64*64+b2 % 64,3):=by unfold Lib.decodeN; rw [if_neg (by omega),if_neg (by omega),if_pos (by omega),if_pos (by omega)]
    rw [e1,e2,b15 (by omega)]
   ·have e1:a08 n b0 b1 b2 b3=0:=by unfold a08; rw [if_neg (by omega),if_neg (by omega),if_neg (by omega),if_neg (by omega),if_neg (by omega),if_neg (by omega),if_neg (by omega),if_neg (by omega)]
    have e2:Lib.decodeN n b0 b1 b2 b3=(65533,1):=by unfold Lib.decodeN; rw [if_neg (by omega),if_neg (by omega),if_pos (by omega),if_neg (by omega)]
    rw [e1,e2,b69 (by omega)]
  ·by_cases d2:b0=237
   ·by_cases d3:b1<=159
    ·have e1:a08 n b0 b1 b2 b3=3:=by unfold a08; rw [if_neg (by omega),if_neg (by omega),if_neg (by omega),if_pos (by omega)]
     have e2:Lib.decodeN n b0 b1 b2 b3=(b0 % 16*4096+b1 % 64*64+b2 % 64,3):=by unfold Lib.decodeN; rw [if_neg (by omega),if_neg (by omega),if_pos (by omega),if_pos (by omega)]
     rw [e1,e2,b15 (by omega)]
    ·have e1:a08 n b0 b1 b2 b3=0:=by unfold a08; rw [if_neg (by omega),if_neg (by omega),if_neg (by omega),if_neg (by omega),if_neg (by omega),if_neg (by omega),if_neg (by omega),if_neg (by omega)]
     have e2:Lib.decodeN n b0 b1 b2 b3=(65533,1):=by unfold Lib.decodeN; rw [if_neg (by omega),if_neg (by omega),if_pos (by omega),if_neg (by omega)]
     rw [e1,e2,b69 (by omega)]
   ·have e1:a08 n b0 b1 b2 b3=3:=by unfold a08; rw [if_neg (by omega),if_neg (by omega),if_neg (by omega),if_neg (by omega),if_pos (by omega)]
    have e2:Lib.decodeN n b0 b1 b2 b3=(b0 % 16*4096+b1 % 64*64+b2 % 64,3):=by unfold Lib.decodeN; rw [if_neg (by omega),if_neg (by omega),if_pos (by omega),if_pos (by omega)]
    rw [e1,e2,b15 (by omega)]
 ·have e1:a08 n b0 b1 b2 b3=0:=by unfold a08; rw [if_neg (by omega),if_neg (by omega),if_neg (by omega),if_neg (by omega),if_neg (by omega),if_neg (by omega),if_neg (by omega),if_neg (by omega)]
  have e2:Lib.decodeN n b0 b1 b2 b3=(65533,1):=by unfold Lib.decodeN; rw [if_neg (by omega),if_neg (by omega),if_neg (by omega),if_neg (by omega)]
  rw [e1,e2,b69 (by omega)]
theorem g79 (n b0 b1 b2 b3:Nat) (hb:240<=b0 /\ b0<=244) (h1:b1<256) (h2:b2<256) (h3:b3<256):a08 n b0 b1 b2 b3=okN n b0 b1 b2 (Lib.decodeN n b0 b1 b2 b3):=by
 by_cases c:(1<n /\ b1 / 64=2) /\ (2<n /\ b2 / 64=2) /\ (3<n /\ b3 / 64=2)
 ·by_cases d0:b0=240
  ·by_cases d1:144<=b1
   ·have e1:a08 n b0 b1 b2 b3=4:=by unfold a08; rw [if_neg (by omega),if_neg (by omega),if_neg (by omega),if_neg (by omega),if_neg (by omega),if_pos (by omega)]
    have e2:Lib.decodeN n b0 b1 b2 b3=(b0 % 8*262144+b1 % 64*4096+b2 % 64*64+b3 % 64,4):=by unfold Lib.decodeN; rw [if_neg (by omega),if_neg (by omega),if_neg (by omega),if_pos (by omega),if_pos (by omega)]
    rw [e1,e2,b15 (by omega)]
   ·have e1:a08 n b0 b1 b2 b3=0:=by unfold a08; rw [if_neg (by omega),if_neg (by omega),if_neg (by omega),if_neg (by omega),if_neg (by omega),if_neg (by omega),if_neg (by omega),if_neg (by omega)]
    have e2:Lib.decodeN n b0 b1 b2 b3=(65533,1):=by unfold Lib.decodeN; rw [if_neg (by omega),if_neg (by omega),if_neg (by omega),if_pos (by omega),if_neg (by omega)]
    rw [e1,e2,b69 (by omega)]
  ·by_cases d2:b0=244
   ·by_cases d3:b1<=143
    ·have e1:a08 n b0 b1 b2 b3=4:=by unfold a08; rw [if_neg (by omega),if_neg (by omega),if_neg (by omega),if_neg (by omega),if_neg (by omega),if_neg (by omega),if_neg (by omega),if_pos (by omega)]
     have e2:Lib.decodeN n b0 b1 b2 b3=(b0 % 8*262144+b1 % 64*4096+b2 % 64*64+b3 % 64,4):=by unfold Lib.decodeN; rw [if_neg (by omega),if_neg (by omega),if_neg (by omega),if_pos (by omega),if_pos (by omega)]
     rw [e1,e2,b15 (by omega)]
    ·have e1:a08 n b0 b1 b2 b3=0:=by unfold a08; rw [if_neg (by omega),if_neg (by omega),if_neg (by omega),if_neg (by omega),if_neg (by omega),if_neg (by omega),if_neg (by omega),if_neg (by omega)]
     have e2:Lib.decodeN n b0 b1 b2 b3=(65533,1):=by unfold Lib.decodeN; rw [if_neg (by omega),if_neg (by omega),if_neg (by omega),if_pos (by omega),if_neg (by omega)]
     rw [e1,e2,b69 (by omega)]
   ·have e1:a08 n b0 b1 b2 b3=4:=by unfold a08; rw [if_neg (by omega),if_neg (by omega),if_neg (by omega),if_neg (by omega),if_neg (by omega),if_neg (by omega),if_pos (by omega)]
    have e2:Lib.decodeN n b0 b1 b2 b3=(b0 % 8*262144+b1 % 64*4096+b2 % 64*64+b3 % 64,4):=by unfold Lib.decodeN; rw [if_neg (by omega),if_neg (by omega),if_neg (by omega),if_pos (by omega),if_pos (by omega)]
    rw [e1,e2,b15 (by omega)]
 ·have e1:a08 n b0 b1 b2 b3=0:=by unfold a08; rw [if_neg (by omega),if_neg (by omega),if_neg (by omega),if_neg (by omega),if_neg (by omega),if_neg (by omega),if_neg (by omega),if_neg (by omega)]
  have e2:Lib.decodeN n b0 b1 b2 b3=(65533,1):=by unfold Lib.decodeN; rw [if_neg (by omega),if_neg (by omega),if_neg (by omega),if_neg (by omega)]
  rw [e1,e2,b69 (by omega)]
theorem d5d (n b0 b1 b2 b3:Nat) (h0:b0<256) (h1:b1<256) (h2:b2<256) (h3:b3<256):
  a08 n b0 b1 b2 b3=if (Lib.decodeN n b0 b1 b2 b3).1=65533 /\ ¬(2<n /\ b0=239 /\ b1=191 /\ b2=189) then 0 else (Lib.decodeN n b0 b1 b2 b3).2:=by
 show _=okN n b0 b1 b2 _
 by_cases c0:b0<128
 ·unfold a08 Lib.decodeN
  rw [if_pos c0,if_pos c0,b15 (by omega)]
 by_cases c1:b0<194
 ·exact g0b n b0 b1 b2 b3 (by omega) h0
 by_cases c2:b0<224
 ·exact g8g n b0 b1 b2 b3 (by omega) h1
 by_cases c3:b0<240
 ·exact g6z n b0 b1 b2 b3 (by omega) h1 h2
 by_cases c4:b0<245
 ·exact g79 n b0 b1 b2 b3 (by omega) h1 h2 h3
 ·exact g0b n b0 b1 b2 b3 (by omega) h0
def b4x (s:ByteArray) (i:Nat):Nat:=a08 (s.size - i) (s.get! i).toNat (s.get! (i+1)).toNat (s.get! (i+2)).toNat (s.get! (i+3)).toNat
theorem d36 (s:ByteArray) (i:Nat) (h:i<s.size):i+b4x s i<=s.size:=by
 have:=f1k (s.size - i) (s.get! i).toNat (s.get! (i+1)).toNat (s.get! (i+2)).toNat (s.get! (i+3)).toNat (by omega)
 unfold b4x
 omega
theorem c10 (s:ByteArray) (i:Nat):b4x s i=if (Utf8.decode s i).1=65533 /\ ¬(2<s.size - i /\ (s.get! i).toNat=239 /\ (s.get! (i+1)).toNat=191 /\ (s.get! (i+2)).toNat=189) then 0 else (Utf8.decode s i).2:=by
 rw [Lib.decode_at]
 exact d5d _ _ _ _ _ (UInt8.toNat_lt _) (UInt8.toNat_lt _) (UInt8.toNat_lt _) (UInt8.toNat_lt _)
def b23 (s:ByteArray):Nat ->Nat ->Int
 |0,_=> -1
 |f+1,p=>if p<s.size then (if b4x s p=0 then p else b23 s f (p+b4x s p)) else -1
def h1j (s:ByteArray):Int:=b23 s s.size 0
theorem c4v (s:ByteArray):∀(f g p:Nat),s.size - p<=f ->s.size - p<=g ->b23 s f p=b23 s g p
 |0,0,_,_,_=>rfl
 |0,g+1,p,h,_=>by
  simp only [b23]; rw [if_neg (by omega)]
 |f+1,0,p,_,h=>by
  simp only [b23]; rw [if_neg (by omega)]
 |f+1,g+1,p,h,h'=>by
  simp only [b23]
  by_cases hp:p<s.size
  ·rw [if_pos hp,if_pos hp]
   by_cases h0:b4x s p=0
   ·rw [if_pos h0,if_pos h0]
   ·rw [if_neg h0,if_neg h0]
    exact c4v s f g _ (by omega) (by omega)
  ·rw [if_neg hp,if_neg hp]
def d22 (s:ByteArray) (p:Nat):Int:=b23 s (s.size - p) p
theorem c17 (s:ByteArray) (p:Nat) (h:s.size<=p):d22 s p= -1:=by
 unfold d22
 rw [show s.size - p=0 by omega]; rfl
theorem d4t (s:ByteArray) (p:Nat) (h:p<s.size) (h0:b4x s p=0):d22 s p=p:=by
 unfold d22
 rw [show s.size - p=(s.size - p - 1)+1 by omega]
 simp only [b23]
 rw [if_pos h,if_pos h0]
theorem d7x (s:ByteArray) (p:Nat) (h:p<s.size) (h0:b4x s p≠0):d22 s p=d22 s (p+b4x s p):=by
 unfold d22
 rw [show s.size - p=(s.size - p - 1)+1 by omega]
 simp only [b23]
 rw [if_pos h,if_neg h0]
 exact c4v s _ _ _ (by omega) (by omega)
def b2u (s:ByteArray):Bool:=decide (h1j s<0)
theorem b6t (s:ByteArray) (i:Nat):H5 s i=(s.get! i).toNat:=by
 unfold H5 F0
 have:s.data.toList.getD i 0=s.get! i:=by
  rw [List.getD_eq_getElem?_getD]
  show _=s.data[i]!
  rw [getElem!_def,Array.getElem?_toList]
  cases s.data[i]? <;>rfl
 rw [this]; omega
def btw (s:ByteArray) (i lo hi:Nat):Bool:=decide (i<s.size /\ lo<=H5 s i /\ H5 s i<=hi)
theorem d0o (s:ByteArray) (i lo hi:Nat):a1b s i lo hi (btw s i lo hi):=by
 have hb:=b2v s i
 have hn:((i:Int)).toNat=i:=by omega
 refine c1y _ _ _ _ _ ⟨fun b=>b=decide (i<s.size /\ lo<=H5 s i),fun b hR=>⟨fun h=> ?_,fun h=> ?_⟩,fun h=> ?_,fun h=> ?_⟩
 ·rw [h] at hR
  have h2:=of_decide_eq_true hR.symm
  refine ⟨⟨by omega,by omega⟩, ?_⟩
  rw [hn,hb.1]
  unfold btw
  congr 1
  simp only [eq_iff_iff]
  omega
 ·rw [h] at hR
  have h2:=of_decide_eq_false hR.symm
  exact decide_eq_false (by omega)
 ·simp only [decide_eq_true_eq] at h
  refine ⟨⟨by omega,h⟩, ?_⟩
  rw [hn,hb.1]
  congr 1
  simp only [eq_iff_iff]
  omega
 ·simp only [decide_eq_false_iff_not] at h
  exact (decide_eq_false (by omega)).symm
def b49 (s:ByteArray) (i:Nat):Nat ->Bool
 |0=>true
 |n+1=>btw s i 128 191&&b49 s (i+1) n
theorem f9y (s:ByteArray) (hz:s.size<=140737488351232) (i:Nat) (hi:i<=140737488351300):∀m j:Nat,j<=4 ->j+m<=4 ->a99 j s i ((j+m:Nat):Int) (b49 s (i+j) m):=by
 intro m
 induction m with
 |zero=>
  intro j h1 h2
  exact b2t _ _ _ _ _ ⟨fun h=>by simp at h,fun _=>rfl⟩
 |succ m ih=>
  intro j h1 h2
  refine b2t _ _ _ _ _ ⟨fun _=> ?_,fun h=>by simp at h; omega⟩
  have e:wI ((i:Int)+j)=((i+j:Nat):Int):=by rw [wI,D5 (by omega)]; omega
  rw [e]
  refine ⟨_,d0o s (i+j) 128 191,fun h=> ?_,fun h=> ?_⟩
  ·have:btw s (i+j) 128 191=false:=by simpa using h
   simp [b49,this]
  ·have:btw s (i+j) 128 191=true:=by simpa using h
   rw [wI,D5 (by omega)]
   have h3:=ih (j+1) (by omega) (by omega)
   rw [b49,this,Bool.true_and]
   have e2:i+j+1=i+(j+1):=by omega
   have e3:j+(m+1)=j+1+m:=by omega
   rw [e2,e3]
   exact h3
theorem f6r (s:ByteArray) (hz:s.size<=140737488351232) (i n:Nat) (hi:i<=140737488351300) (hn:n<=4):a3f s i n (b49 s i n):=by
 have:=f9y s hz i hi n 0 (by omega) (by omega)
 simp only [Nat.zero_add,Nat.add_zero] at this
 exact c8m _ _ _ _ this
def szB (s:ByteArray) (i:Nat):Nat:=
 if H5 s i<128 then 1
 else if (decide (194<=H5 s i /\ H5 s i<=223)&&b49 s (i+1) 1)=true then 2
 else if (decide (H5 s i=224)&&btw s (i+1) 160 191&&b49 s (i+2) 1)=true then 3
 else if (decide (H5 s i=237)&&btw s (i+1) 128 159&&b49 s (i+2) 1)=true then 3
 else if (decide (225<=H5 s i /\ H5 s i<=239 /\ H5 s i≠237)&&b49 s (i+1) 2)=true then 3
 else if (decide (H5 s i=240)&&btw s (i+1) 144 191&&b49 s (i+2) 2)=true then 4
 else if (decide (241<=H5 s i /\ H5 s i<=243)&&b49 s (i+1) 3)=true then 4
 else if (decide (H5 s i=244)&&btw s (i+1) 128 143&&b49 s (i+2) 2)=true then 4
 else 0
theorem f5f (s:ByteArray) (hz:s.size<=140737488351232) (i:Nat) (hi:i<s.size):c4e s i (szB s i):=by
 have hb:=b2v s i
 have hn:((i:Int)).toNat=i:=by omega
 have w1:wI ((i:Int)+1)=((i+1:Nat):Int):=by rw [wI,D5 (by omega)]; omega
 have w2:wI ((i:Int)+2)=((i+2:Nat):Int):=by rw [wI,D5 (by omega)]; omega
 have tl:=fun k n (hk:k<=4) (hn:n<=4)=>f6r s hz (i+k) n (by omega) hn
 have bt:=fun k lo hi=>d0o s (i+k) lo hi
 refine c7x _ _ _ ?_
 rw [hn,hb.1,w1,w2]
 unfold szB
 generalize hx:H5 s i=x at*
 refine ⟨⟨by omega,by omega⟩,fun h=> ?_,fun h=> ?_⟩
 ·rw [if_pos (by simp only [decide_eq_true_eq] at h; omega)]; rfl
 rw [if_neg (by simp only [decide_eq_false_iff_not] at h; omega)]
 refine ⟨fun b=>b=(decide (194<=x /\ x<=223)&&b49 s (i+1) 1),fun b hR=> ?_,fun h=>⟨_,tl 1 1 (by omega) (by omega), ?_⟩,fun h=> ?_⟩
 rotate_left
 ·have:(194<=x /\ x<=223):=by simp only [Bool.and_eq_true,decide_eq_true_eq] at h; omega
  simp [this]
 ·have:¬(194<=x /\ x<=223):=by simp only [Bool.and_eq_false_iff,decide_eq_false_iff_not] at h; omega
  simp [this]
 subst hR
 refine ⟨fun h=>by rw [if_pos h]; rfl,fun h=> ?_⟩
 rw [if_neg (by rw [h]; decide)]
 refine ⟨fun b=>b=(decide (x=224)&&btw s (i+1) 160 191),fun b hR=> ?_,fun h=>⟨_,bt 1 160 191, ?_⟩,fun h=> ?_⟩
 rotate_left
 ·have:x=224:=by simp only [beq_iff_eq] at h; omega
  simp [this]
 ·have:¬x=224:=by simp only [beq_eq_false_iff_ne] at h; omega
  simp [this]
 refine ⟨fun b2=>b2=(b&&b49 s (i+2) 1),fun b2 hR2=> ?_,fun h=>⟨_,tl 2 1 (by omega) (by omega),by rw [h]; rfl⟩,fun h=>by rw [h]; rfl⟩
 subst hR2; subst hR
 refine ⟨fun h=>by rw [if_pos h]; rfl,fun h=> ?_⟩
 rw [if_neg (by rw [h]; decide)]
 refine ⟨fun b=>b=(decide (x=237)&&btw s (i+1) 128 159),fun b hR=> ?_,fun h=>⟨_,bt 1 128 159, ?_⟩,fun h=> ?_⟩
 rotate_left
 ·have:x=237:=by simp only [beq_iff_eq] at h; omega
  simp [this]
 ·have:¬x=237:=by simp only [beq_eq_false_iff_ne] at h; omega
  simp [this]
 refine ⟨fun b2=>b2=(b&&b49 s (i+2) 1),fun b2 hR2=> ?_,fun h=>⟨_,tl 2 1 (by omega) (by omega),by rw [h]; rfl⟩,fun h=>by rw [h]; rfl⟩
 subst hR2; subst hR
 refine ⟨fun h=>by rw [if_pos h]; rfl,fun h=> ?_⟩
 rw [if_neg (by rw [h]; decide)]
 refine ⟨fun b=>b=(decide (225<=x /\ x<=239 /\ x≠237)&&b49 s (i+1) 2),fun b hR=> ?_,fun h=>⟨_,tl 1 2 (by omega) (by omega), ?_⟩,fun h=> ?_⟩
 rotate_left
 ·have:(225<=x /\ x<=239 /\ x≠237):=by simp only [Bool.and_eq_true,decide_eq_true_eq,bne_iff_ne] at h; omega
  simp [this]
 ·have:¬(225<=x /\ x<=239 /\ x≠237):=by simp only [Bool.and_eq_false_iff,decide_eq_false_iff_not,bne_eq_false_iff_eq] at h; omega
  have h3:decide (225<=x /\ x<=239 /\ x≠237)=false:=decide_eq_false this
  rw [h3]; rfl
 subst hR
 refine ⟨fun h=>by rw [if_pos h]; rfl,fun h=> ?_⟩
 rw [if_neg (by rw [h]; decide)]
 refine ⟨fun b=>b=(decide (x=240)&&btw s (i+1) 144 191),fun b hR=> ?_,fun h=>⟨_,bt 1 144 191, ?_⟩,fun h=> ?_⟩
 rotate_left
 ·have:x=240:=by simp only [beq_iff_eq] at h; omega
  simp [this]
 ·have:¬x=240:=by simp only [beq_eq_false_iff_ne] at h; omega
  simp [this]
 refine ⟨fun b2=>b2=(b&&b49 s (i+2) 2),fun b2 hR2=> ?_,fun h=>⟨_,tl 2 2 (by omega) (by omega),by rw [h]; rfl⟩,fun h=>by rw [h]; rfl⟩
 subst hR2; subst hR
 refine ⟨fun h=>by rw [if_pos h]; rfl,fun h=> ?_⟩
 rw [if_neg (by rw [h]; decide)]
 refine ⟨fun b=>b=(decide (241<=x /\ x<=243)&&b49 s (i+1) 3),fun b hR=> ?_,fun h=>⟨_,tl 1 3 (by omega) (by omega), ?_⟩,fun h=> ?_⟩
 rotate_left
 ·have:(241<=x /\ x<=243):=by simp only [Bool.and_eq_true,decide_eq_true_eq] at h; omega
  simp [this]
 ·have:¬(241<=x /\ x<=243):=by simp only [Bool.and_eq_false_iff,decide_eq_false_iff_not] at h; omega
  simp [this]
 subst hR
 refine ⟨fun h=>by rw [if_pos h]; rfl,fun h=> ?_⟩
 rw [if_neg (by rw [h]; decide)]
 refine ⟨fun b=>b=(decide (x=244)&&btw s (i+1) 128 143),fun b hR=> ?_,fun h=>⟨_,bt 1 128 143, ?_⟩,fun h=> ?_⟩
 rotate_left
 ·have:x=244:=by simp only [beq_iff_eq] at h; omega
  simp [this]
 ·have:¬x=244:=by simp only [beq_eq_false_iff_ne] at h; omega
  simp [this]
 refine ⟨fun h=>⟨_,tl 2 2 (by omega) (by omega),fun h2=> ?_,fun h2=> ?_⟩,fun h=> ?_⟩
 ·rw [if_pos (by rw [<-hR,h,h2]; rfl)]; rfl
 ·rw [if_neg (by rw [<-hR,h,h2]; decide)]; rfl
 ·rw [if_neg (by rw [<-hR,h]; simp)]; rfl
theorem f4c (s:ByteArray) (i:Nat):szB s i=b4x s i:=by
 unfold szB b4x a08
 simp only [<-b6t,btw,b49,Bool.and_eq_true,decide_eq_true_eq,Bool.and_true]
 have e1:i+1+1=i+2:=rfl
 have e2:i+1+1+1=i+3:=rfl
 have e3:i+2+1=i+3:=rfl
 simp only [e1,e2,e3]
 generalize H5 s i=a
 generalize H5 s (i+1)=b
 generalize H5 s (i+2)=c
 generalize H5 s (i+3)=d
 generalize s.size=n
 by_cases h0:a<128
 ·rw [if_pos h0,if_pos h0]
 rw [if_neg h0,if_neg h0]
 have key:∀(p q:Prop) [Decidable p] [Decidable q] (x y z:Nat),(p↔q) ->y=z ->(if p then x else y)=(if q then x else z):=by
  intro p q _ _ x y z h1 h2
  subst h2
  by_cases hp:p
  ·rw [if_pos hp,if_pos (h1.1 hp)]
  ·rw [if_neg hp,if_neg (fun h=>hp (h1.2 h))]
 refine key _ _ _ _ _ (by omega) (key _ _ _ _ _ (by omega) (key _ _ _ _ _ (by omega) (key _ _ _ _ _ (by omega) (key _ _ _ _ _ (by omega) (key _ _ _ _ _ (by omega) (key _ _ _ _ _ (by omega) rfl))))))
theorem g3w (s:ByteArray) (hz:s.size<=140737488351232):∀n p:Nat,s.size - p<=n ->p<=s.size ->b2o p s (d22 s p):=by
 intro n
 induction n with
 |zero=>
  intro p h1 h2
  refine b3q _ _ _ ⟨fun h=>by simp only [decide_eq_true_eq] at h; omega,fun h=>c17 s p (by omega)⟩
 |succ n ih=>
  intro p h1 h2
  refine b3q _ _ _ ⟨fun h=> ?_,fun h=> ?_⟩
  ·simp only [decide_eq_true_eq] at h
   have hp:p<s.size:=by omega
   have hle:=d36 s p hp
   refine ⟨_,f5f s hz p hp,fun h2=> ?_,fun h2=> ?_⟩
   ·simp only [beq_iff_eq] at h2
    exact d4t s p hp (by rw [<-f4c]; omega)
   ·simp only [beq_eq_false_iff_ne] at h2
    rw [f4c] at h2 ⊢
    have h3:b4x s p≠0:=by omega
    rw [d7x s p hp h3,wI,D5 (by omega)]
    exact ih _ (by omega) hle
  ·simp only [decide_eq_false_iff_not] at h
   exact c17 s p (by omega)
theorem d3m (s:ByteArray) (hz:s.size<=140737488351232):b56 s (b2u s):=
 c5m _ _ ⟨_,c90 _ _ (g3w s hz s.size 0 (by omega) (by omega)),rfl⟩
def f8u (s:ByteArray) (i:Nat):Bool:=decide (2<s.size - i /\ H5 s i=239 /\ H5 s (i+1)=191 /\ H5 s (i+2)=189)
theorem d9g {a b:ByteArray} (h:a.size=b.size) (hb:∀i,i<a.size ->H5 a i=H5 b i):a=b:=by
 apply ByteArray.ext
 refine Array.ext h fun i h1 h2=> ?_
 have:=hb i h1
 rw [b6t,b6t] at this
 have e1:a.get! i=a.data[i]:=by show a.data[i]! =_; exact getElem!_pos a.data i h1
 have e2:b.get! i=b.data[i]:=by show b.data[i]! =_; exact getElem!_pos b.data i h2
 rw [e1,e2] at this
 exact UInt8.toNat_inj.1 this
theorem e6r (s:ByteArray) (i:Nat) (hi:i<=s.size) (hz:s.size<=140737488351232):a7o (s.extract i s.size) ⟨#[239,191,189]⟩ (f8u s i):=by
 refine b6l _ _ _ ⟨_,a40 _ _ _ ⟨fun h=>⟨⟨by omega,by omega,by simpa using h⟩, ?_⟩,fun h=> ?_⟩,rfl⟩
 ·have hs:(s.extract i s.size).size=s.size - i:=U6 s (Nat.le_refl _)
  simp only [decide_eq_true_eq,hs] at h
  have h3:(⟨#[239,191,189]⟩:ByteArray).size=3:=rfl
  rw [h3] at h ⊢
  show f8u s i=decide ((s.extract i s.size).extract 0 3=_)
  unfold f8u
  congr 1
  simp only [eq_iff_iff]
  have e0:=Z4 (s.extract i s.size) (l:=0) (u:=3) (i:=0) (by omega)
  have e1:=Z4 (s.extract i s.size) (l:=0) (u:=3) (i:=1) (by omega)
  have e2:=Z4 (s.extract i s.size) (l:=0) (u:=3) (i:=2) (by omega)
  rw [Z4 s (by omega)] at e0 e1 e2
  constructor
  ·rintro ⟨k1,k2,k3,k4⟩
   refine d9g (by rw [U6 _ (by omega)]; rfl) fun j hj=> ?_
   rw [U6 _ (by omega)] at hj
   have:j=0\/j=1\/j=2:=by omega
   rcases this with rfl|rfl|rfl
   ·rw [e0]; exact k2
   ·rw [e1]; exact k3
   ·rw [e2]; exact k4
  ·intro he
   rw [he] at e0 e1 e2
   refine ⟨by omega,e0.symm,e1.symm,e2.symm⟩
 ·have hs:(s.extract i s.size).size=s.size - i:=U6 s (Nat.le_refl _)
  simp only [decide_eq_false_iff_not,hs] at h
  have h3:(⟨#[239,191,189]⟩:ByteArray).size=3:=rfl
  rw [h3] at h
  exact decide_eq_false (by omega)
theorem f0w (s:ByteArray) (i:Nat) (hi:i<=s.size) (hz:s.size<=140737488351232) (c:Int):c7v s i c (decide (c=65533)&& !f8u s i):=by
 refine c9i _ _ _ _ ⟨fun h=>⟨⟨by omega,by omega,by omega⟩, ?_⟩,fun h=> ?_⟩
 ·simp only [beq_iff_eq] at h
  have e:((s.size:Nat):Int).toNat=s.size:=by omega
  have e2:((i:Nat):Int).toNat=i:=by omega
  rw [e,e2]
  exact ⟨_,e6r s i hi hz,by simp [h]⟩
 ·simp only [beq_eq_false_iff_ne] at h
  simp [h]
theorem f65 (s:ByteArray) (p:Nat):1<=(Utf8.decode s p).2:=by
 rw [Lib.decode_at]
 unfold Lib.decodeN
 (repeat' split)<;>simp
theorem g6v (s:ByteArray) (hz:s.size<=140737488351232):∀n p:Nat,s.size - p<=n ->p<=s.size ->b8d s p (d22 s p):=by
 intro n
 induction n with
 |zero=>
  intro p h1 h2
  exact b6y _ _ _ ⟨fun h=>by omega,fun h=>c17 s p (by omega)⟩
 |succ n ih=>
  intro p h1 h2
  refine b6y _ _ _ ⟨fun hp=>⟨_,f0w s p h2 hz _,fun h=> ?_,fun h=> ?_⟩,fun h=>c17 s p (by omega)⟩
  ·have hd:=c10 s p
   simp only [<-b6t] at hd
   rw [Bool.and_eq_true] at h
   have k1:=of_decide_eq_true h.1
   have k2:f8u s p=false:=by cases hf:f8u s p with
    |true=>rw [hf] at h; exact absurd h.2 (by decide)
    |false=>rfl
   have k3:=of_decide_eq_false k2
   rw [if_pos ⟨by omega,k3⟩] at hd
   exact d4t s p hp hd
  ·have hd:=c10 s p
   simp only [<-b6t] at hd
   have hle:=d36 s p hp
   rw [if_neg] at hd
   ·have h3:b4x s p≠0:=by
     have:=f65 s p
     omega
    rw [d7x s p hp h3,<-hd]
    exact ih _ (by omega) hle
   ·intro hc
    have k2:f8u s p=false:=decide_eq_false hc.2
    have k1:decide (((Utf8.decode s p).1:Int)=65533)=true:=decide_eq_true (by omega)
    rw [k1,k2] at h
    cases h
theorem d16 (s:ByteArray) (hz:s.size<=140737488351232):b7m s (b2u s):=
 c93 _ _ ⟨_,d5b _ _ (g6v s hz s.size 0 (by omega) (by omega)),rfl⟩
structure OkV (v:A0):Prop where
 l:v.List_.length<=140737488351232
 p:v.Pairs.length<=140737488351232
 s:v.Slots.length<=140737488351232
 r:v.Raws.length<=140737488351232
 t:v.Text.size<=140737488351232
 b0:0<=v.Bits
 b1:v.Bits<18446744073709551616
def c34 (v:A0):Bool:=decide (v.List_.length=0 /\ v.Pairs.length=0 /\ v.Slots.length=0 /\ v.Raws.length=0)
def a2i (k bits:Int):Bool:=if k=1 then decide (bits<=1) else if k=2 then decide (-2147483648<=wI bits /\ wI bits<=2147483647) else if k=9 then decide (bits<=2147483647) else if k=4 then decide (bits<=4294967295) else true
def a9h (k:Int) (v:A0):Bool:=
 decide (1<=k /\ k<=9 /\ v.Kind=k)&&c34 v&&
  (if k=7\/k=8 then decide (v.Bits=0 /\ v.Text.size<=4096)&&(!decide (k=7)||b2u v.Text) else decide (v.Text=⟨#[]⟩)&&a2i k v.Bits)
theorem e3b (k bits:Int):b5r k bits (a2i k bits):=by
 refine c1i _ _ _ ⟨fun h=> ?_,fun h=>⟨fun h2=> ?_,fun h2=>⟨fun h3=> ?_,fun h3=>⟨fun h4=> ?_,fun h4=> ?_⟩⟩⟩⟩
 all_goals simp only [beq_iff_eq,beq_eq_false_iff_ne] at*
 ·rw [a2i,if_pos h]
 ·rw [a2i,if_neg h,if_pos h2,Bool.decide_and]
 ·rw [a2i,if_neg h,if_neg h2,if_pos h3]
 ·rw [a2i,if_neg h,if_neg h2,if_neg h3,if_pos h4]
 ·rw [a2i,if_neg h,if_neg h2,if_neg h3,if_neg h4]
def c8v (v:A0):Bool:=c34 v&&(if v.Kind=7\/v.Kind=8 then decide (v.Bits=0) else decide (v.Text=⟨#[]⟩))
theorem e7d (v:A0) (hv:OkV v):b5f v (c8v v):=by
 have h1:=hv.l; have h2:=hv.p; have h3:=hv.s; have h4:=hv.r
 have e1:wI ((v.List_.length:Int)+v.Pairs.length)=(v.List_.length:Int)+v.Pairs.length:=D5 (by omega)
 have e2:wI ((v.List_.length:Int)+v.Pairs.length+v.Slots.length)=(v.List_.length:Int)+v.Pairs.length+v.Slots.length:=D5 (by omega)
 have e3:wI ((v.List_.length:Int)+v.Pairs.length+v.Slots.length+v.Raws.length)=(v.List_.length:Int)+v.Pairs.length+v.Slots.length+v.Raws.length:=D5 (by omega)
 refine c54 _ _ ?_
 rw [e1,e2,e3]
 refine ⟨fun h=> ?_,fun h=>⟨_,b46 _ _ rfl,fun h5=> ?_,fun h5=> ?_⟩⟩
 ·simp only [decide_eq_true_eq] at h
  have:c34 v=false:=decide_eq_false (by omega)
  rw [c8v,this]; rfl
 all_goals
  simp only [decide_eq_false_iff_not] at h
  have:c34 v=true:=decide_eq_true (by omega)
  rw [c8v,this,Bool.true_and]
 ·rw [if_pos (by simpa using h5)]; rfl
 ·rw [if_neg (by simpa using h5)]
theorem d6d (k:Int) (v:A0) (hv:OkV v):b1d k v (a9h k v):=by
 refine c5w _ _ _ ⟨_,a8e _ _ rfl,fun b=>b= !(decide (1<=k /\ k<=9 /\ v.Kind=k)&&c8v v),fun b hR=> ?_,fun h=> ?_,fun h=>⟨_,e7d v hv, ?_⟩⟩
 rotate_left
 ·have:decide (1<=k /\ k<=9 /\ v.Kind=k)=false:=by
   refine decide_eq_false fun hn=> ?_
   simp [hn.1,hn.2.1,hn.2.2] at h
  rw [this]; rfl
 ·have:decide (1<=k /\ k<=9 /\ v.Kind=k)=true:=by
   refine decide_eq_true ?_
   simp at h
   omega
  rw [this]; rfl
 subst hR
 refine ⟨fun b=>b= !(decide (1<=k /\ k<=9 /\ v.Kind=k)&&c8v v&&a2i k v.Bits),fun b hR=> ?_,fun h=> ?_,fun h=>⟨_,e3b k v.Bits, ?_⟩⟩
 rotate_left
 ·have:(decide (1<=k /\ k<=9 /\ v.Kind=k)&&c8v v)=false:=by rw [<-Bool.not_eq_true']; exact h
  rw [this]; rfl
 ·have:(decide (1<=k /\ k<=9 /\ v.Kind=k)&&c8v v)=true:=by rw [<-Bool.not_eq_false']; exact h
  rw [this]; rfl
 subst hR
 have main:∀A B C D:Bool,True:=fun _ _ _ _=>trivial
 by_cases hk:1<=k /\ k<=9 /\ v.Kind=k
 ·have hkd:decide (1<=k /\ k<=9 /\ v.Kind=k)=true:=decide_eq_true hk
  unfold a9h c8v
  rw [hkd,hk.2.2,Bool.true_and,Bool.true_and]
  cases hl:c34 v with
  |false=>simp
  |true=>
   simp only [Bool.true_and]
   by_cases h78:k=7\/k=8
   ·rw [if_pos h78,if_pos h78]
    have hw:a2i k v.Bits=true:=by rw [a2i,if_neg (by omega),if_neg (by omega),if_neg (by omega),if_neg (by omega)]
    rw [hw,Bool.and_true]
    refine ⟨fun h=> ?_,fun h=>⟨fun h2=> ?_,fun h2=>⟨_,d16 _ hv.t, ?_⟩⟩⟩
    ·have:¬(v.Bits=0 /\ v.Text.size<=4096):=by
      simp only [Bool.or_eq_true,Bool.not_eq_true',decide_eq_false_iff_not,decide_eq_true_eq] at h
      omega
     rw [decide_eq_false this]; rfl
    ·have:v.Bits=0 /\ v.Text.size<=4096:=by
      simp only [Bool.or_eq_false_iff,Bool.not_eq_false',decide_eq_false_iff_not,decide_eq_true_eq] at h
      omega
     rw [decide_eq_true this]
     have:¬k=7:=by simpa using h2
     rw [decide_eq_false this]; rfl
    ·have:v.Bits=0 /\ v.Text.size<=4096:=by
      simp only [Bool.or_eq_false_iff,Bool.not_eq_false',decide_eq_false_iff_not,decide_eq_true_eq] at h
      omega
     rw [decide_eq_true this]
     have:k=7:=by simpa using h2
     rw [decide_eq_true this]; simp
   ·rw [if_neg h78,if_neg h78]
    refine ⟨fun h=> ?_,fun h=>⟨fun h2=> ?_,fun h2=> ?_⟩⟩
    ·simp only [Bool.or_eq_true,Bool.not_eq_true',decide_eq_true_eq] at h
     rcases h with h|h
     ·rw [h]
     ·have:¬v.Text=⟨#[]⟩:=by
       intro he
       rw [he] at h
       have:((⟨#[]⟩:ByteArray).size:Int)=0:=rfl
       omega
      rw [decide_eq_false this]; rfl
    ·simp only [Bool.or_eq_false_iff,Bool.not_eq_false'] at h
     rw [h.1]
    ·have:k=7:=by simpa using h2
     omega
 ·have hkd:decide (1<=k /\ k<=9 /\ v.Kind=k)=false:=decide_eq_false hk
  unfold a9h
  rw [hkd]
  simp
theorem d8c (v:A0):b8x v (c34 v):=by
 refine c82 _ _ ?_
 unfold c34
 rw [Bool.eq_iff_iff]
 simp only [decide_eq_true_eq,Bool.and_eq_true,beq_iff_eq]
 omega
theorem e90 (k:Int) (v:A0) (hv:OkV v):c2w k v (a9h k v):=by
 refine c7n _ _ _ ⟨_,c1a _ _ rfl,fun b=>b= !(decide (1<=k /\ k<=9 /\ v.Kind=k)&&c34 v),fun b hR=>⟨fun h=> ?_,fun h=>⟨_,c5z _ _ rfl,fun h2=> ?_,fun h2=> ?_⟩⟩,fun h=> ?_,fun h=>⟨_,d8c v, ?_⟩⟩
 ·have:(decide (1<=k /\ k<=9 /\ v.Kind=k)&&c34 v)=false:=by rw [<-Bool.not_eq_true',<-hR]; exact h
  unfold a9h; rw [this]; rfl
 ·have hb:(decide (1<=k /\ k<=9 /\ v.Kind=k)&&c34 v)=true:=by rw [<-Bool.not_eq_false',<-hR]; exact h
  have h78:k=7\/k=8:=by simpa using h2
  unfold a9h
  rw [hb,Bool.true_and,if_pos h78]
  refine ⟨fun c=>c=(decide (v.Bits=0 /\ v.Text.size<=4096)&&(!decide (k=7)||b2u v.Text)),fun c hc=>hc.symm,fun h3=> ?_,fun h3=> ?_⟩
  ·have h4:v.Bits=0 /\ v.Text.size<=4096:=by
    simp only [Bool.and_eq_true,beq_iff_eq,decide_eq_true_eq] at h3
    omega
   rw [decide_eq_true h4,Bool.true_and]
   refine ⟨fun c=>c=(!decide (k=7)||b2u v.Text),fun c hc=>hc,fun h5=> ?_,fun h5=>⟨_,d3m _ hv.t, ?_⟩⟩
   ·have:¬k=7:=by simp only [beq_iff_eq] at h5; omega
    rw [decide_eq_false this]; rfl
   ·have:k=7:=by simp only [beq_eq_false_iff_ne] at h5; omega
    rw [decide_eq_true this]; rfl
  ·have h4:¬(v.Bits=0 /\ v.Text.size<=4096):=by
    simp only [Bool.and_eq_false_iff,beq_eq_false_iff_ne,decide_eq_false_iff_not] at h3
    omega
   rw [decide_eq_false h4]; rfl
 ·have hb:(decide (1<=k /\ k<=9 /\ v.Kind=k)&&c34 v)=true:=by rw [<-Bool.not_eq_false',<-hR]; exact h
  have h78:¬(k=7\/k=8):=by simpa using h2
  unfold a9h
  rw [hb,Bool.true_and,if_neg h78]
  refine ⟨fun h3=> ?_,fun h3=> ?_⟩
  ·have:decide (v.Text=⟨#[]⟩)=false:=by rw [<-Bool.not_eq_true']; exact h3
   rw [this]; rfl
  ·have:decide (v.Text=⟨#[]⟩)=true:=by rw [<-Bool.not_eq_false']; exact h3
   rw [this,Bool.true_and]
   refine ⟨fun h4=> ?_,fun h4=>⟨fun h5=> ?_,fun h5=>⟨fun h6=> ?_,fun h6=>⟨fun h7=> ?_,fun h7=> ?_⟩⟩⟩⟩
   all_goals simp only [beq_iff_eq,beq_eq_false_iff_ne] at*
   ·rw [a2i,if_pos h4]
   ·rw [a2i,if_neg h4,if_pos h5,Bool.decide_and]
   ·rw [a2i,if_neg h4,if_neg h5,if_neg (by omega),if_pos h6]
    congr 1; simp only [eq_iff_iff]; omega
   ·rw [a2i,if_neg h4,if_neg h5,if_pos h7]
    congr 1; simp only [eq_iff_iff]; omega
   ·rw [a2i,if_neg h4,if_neg h5,if_neg h7,if_neg h6]
 ·have:decide (1<=k /\ k<=9 /\ v.Kind=k)=false:=by
   refine decide_eq_false fun hn=> ?_
   simp [hn.1,hn.2.1,hn.2.2] at h
  rw [this]; rfl
 ·have:decide (1<=k /\ k<=9 /\ v.Kind=k)=true:=by
   refine decide_eq_true ?_
   simp at h
   omega
  rw [this]; rfl
def b7g (v:A0):Bool:=isS v.Kind&&(v.Bits==0)&&decide (v.Text=(⟨#[]⟩:ByteArray))&&c34 v
def b7n (v:A0):Bool:=if v.Kind=11 then v.List_.isEmpty else if v.Kind=12 then v.Pairs.isEmpty else b7g v
theorem e9c (v:A0):b65 v (b7g v):=by
 refine c4m _ _ ⟨_,c1a _ _ rfl,fun h=>⟨_,d8c v, ?_⟩,fun h=> ?_⟩
 ·unfold b7g isS; rw [h,Bool.true_and]
 ·unfold b7g isS; rw [h,Bool.false_and]
theorem g0n (v:A0):c9a v (b7n v):=by
 refine c5y _ _ ⟨fun h=> ?_,fun h=>⟨fun h2=> ?_,fun h2=>⟨_,e9c v, ?_⟩⟩⟩
 all_goals simp only [beq_iff_eq,beq_eq_false_iff_ne] at*
 ·unfold b7n; rw [if_pos h]
  cases v.List_<;>simp
  omega
 ·unfold b7n; rw [if_neg h,if_pos h2]
  cases v.Pairs<;>simp
  omega
 ·unfold b7n; rw [if_neg h,if_neg h2]
theorem e5e (v:A0) (hv:OkV v):a6t v (b7g v):=by
 have key:b7g v=(((isS v.Kind&&c8v v)&&(v.Bits==0))&&decide (v.Text=(⟨#[]⟩:ByteArray))):=by
  unfold b7g c8v
  by_cases h1:v.Bits=0
  ·by_cases h2:v.Text=(⟨#[]⟩:ByteArray)
   ·simp [h1,h2]
   ·simp [h2]
  ·have hb:(v.Bits==0)=false:=by simpa using h1
   rw [hb]; simp
 refine c1c _ _ ⟨_,a8e _ _ rfl,fun z=>z=(isS v.Kind&&c8v v),fun z hz=> ?_,fun h=>⟨_,e7d v hv, ?_⟩,fun h=> ?_⟩
 ·rw [hz]; exact key
 ·unfold isS; rw [h,Bool.true_and]
 ·unfold isS; rw [h,Bool.false_and]
theorem f15 (v:A0) (hv:OkV v):c3q v (b7n v):=by
 have ns:∀k:Int,k=11\/k=12 ->isS k=false:=by
  intro k hk
  unfold isS
  rcases hk with h|h<;>subst h<;>decide
 refine c8a _ _ ⟨fun h=> ?_,fun h=>⟨_,e5e v hv, ?_⟩⟩
 ·simp only [Bool.or_eq_true,Bool.and_eq_true,beq_iff_eq] at h
  unfold b7n
  rcases h with ⟨h1,h2⟩|⟨h1,h2⟩
  ·rw [if_pos h1,List.isEmpty_iff,<-List.length_eq_zero_iff]; omega
  ·rw [if_neg (by omega),if_pos h1,List.isEmpty_iff,<-List.length_eq_zero_iff]; omega
 ·simp only [Bool.or_eq_false_iff,Bool.and_eq_false_iff,beq_eq_false_iff_ne] at h
  unfold b7n
  by_cases h1:v.Kind=11
  ·rw [if_pos h1]
   have:v.List_.isEmpty=false:=by
    cases hl:v.List_ with
    |nil=>rw [hl] at h; simp at h; omega
    |cons x l=>rfl
   rw [this,b7g,ns _ (.inl h1)]; rfl
  ·by_cases h2:v.Kind=12
   ·rw [if_neg h1,if_pos h2]
    have:v.Pairs.isEmpty=false:=by
     cases hl:v.Pairs with
     |nil=>rw [hl] at h; simp at h; omega
     |cons x l=>rfl
    rw [this,b7g,ns _ (.inr h2)]; rfl
   ·rw [if_neg h1,if_neg h2]
def c59 {α:Type} (f:α ->Bool):List α ->Int ->Int
 |[],_=> -1
 |x::l,i=>if f x=true then i else c59 f l (i+1)
theorem d60 {α:Type} {J:Int ->List α ->Int ->Prop} {C:α ->Bool ->Prop} (f:α ->Bool)
  (c0x:∀i s r,((decide (i<(s.length:Int)))=true ->∃y3,s[i.toNat]? =some y3 /\ 0<=i /\ (∃y4,C y3 y4 /\ ((y4=true ->r=i) /\ (y4=false ->J (wI (i+1)) s r)))) /\ ((decide (i<(s.length:Int)))=false ->r=(-1)) ->J i s r)
  (s:List α) (hs:s.length<=140737488351232) (hC:∀x∈s,C x (f x)):J 0 s (c59 f s 0):=by
 have key:∀(d i:Nat),s.length - i<=d ->i<=s.length ->J i s (c59 f (s.drop i) i):=by
  intro d
  induction d with
  |zero=>
   intro i hd hi
   exact c0x _ _ _ ⟨fun h=>by simp at h; omega,fun _=>by rw [List.drop_eq_nil_of_le (by omega)]; rfl⟩
  |succ d ih=>
   intro i hd hi
   rcases Nat.lt_or_ge i s.length with hlt|hge
   ·have e1:wI ((i:Int)+1)=((i+1:Nat):Int):=by rw [wI,D5 (by omega)]; omega
    have dl:s.drop i=s[i]::s.drop (i+1):=List.drop_eq_getElem_cons hlt
    refine c0x _ _ _ ⟨fun _=>⟨s[i],by simp,by omega,_,hC _ (List.getElem_mem _),fun h=> ?_,fun h=> ?_⟩,fun h=>by simp at h; omega⟩
    ·rw [dl,c59,if_pos h]
    ·rw [dl,c59,if_neg (nt h),e1]
     exact ih (i+1) (by omega) (by omega)
   ·exact c0x _ _ _ ⟨fun h=>by simp at h; omega,fun _=>by rw [List.drop_eq_nil_of_le hge]; rfl⟩
 simpa using key s.length 0 (by omega) (by omega)
theorem d6l {α:Type} {J:Int ->Prop} {C:α ->Bool ->Prop} {E:Prop} {r:Bool} (f:α ->Bool) (s:List α)
  (c0x:∀i:Int,((decide (i<(s.length:Int)))=true ->∃y3,s[i.toNat]? =some y3 /\ 0<=i /\ (∃y4,C y3 y4 /\ ((y4=true ->r=true) /\ (y4=false ->J (wI (i+1)))))) /\ ((decide (i<(s.length:Int)))=false ->E) ->J i)
  (hs:s.length<=140737488351232) (hC:∀x∈s,C x (f x)) (h1:s.any f=true ->r=true) (h2:s.any f=false ->E):J 0:=by
 have key:∀(d i:Nat),s.length - i<=d ->i<=s.length ->((s.drop i).any f=true ->r=true) ->((s.drop i).any f=false ->E) ->J i:=by
  intro d
  induction d with
  |zero=>
   intro i hd hi _ k2
   exact c0x _ ⟨fun h=>by simp at h; omega,fun _=>k2 (by rw [List.drop_eq_nil_of_le (by omega)]; rfl)⟩
  |succ d ih=>
   intro i hd hi k1 k2
   rcases Nat.lt_or_ge i s.length with hlt|hge
   ·have e1:wI ((i:Int)+1)=((i+1:Nat):Int):=by rw [wI,D5 (by omega)]; omega
    have dl:s.drop i=s[i]::s.drop (i+1):=List.drop_eq_getElem_cons hlt
    rw [dl,List.any_cons] at k1 k2
    refine c0x _ ⟨fun _=>⟨s[i],by simp,by omega,_,hC _ (List.getElem_mem _),fun h=>k1 (by rw [h]; rfl),fun h=> ?_⟩,fun h=>by simp at h; omega⟩
    rw [e1]
    rw [h,Bool.false_or] at k1 k2
    exact ih (i+1) (by omega) (by omega) k1 k2
   ·exact c0x _ ⟨fun h=>by simp at h; omega,fun _=>k2 (by rw [List.drop_eq_nil_of_le hge]; rfl)⟩
 exact key s.length 0 (by omega) (by omega) (by simpa using h1) (by simpa using h2)
def Y0 (p:A5) (name:ByteArray):Int × Bool:=(max (c59 (fun g:B6=>decide (g.Name=name)) p.Progs 0) 0,decide (0<=c59 (fun g:B6=>decide (g.Name=name)) p.Progs 0))
theorem c8h (p:A5) (hp:p.Progs.length<=140737488351232) (name:ByteArray):c2d p name (Y0 p name):=by
 refine c9y _ _ _ ⟨_,a66 _ _ _ (d60 (J:=fun i s r=>N2 i s _ r) (fun g:B6=>decide (g.Name=name)) (fun i s r hw=>a47 _ _ _ _ hw) _ hp fun x hx=> ?_),rfl⟩
 exact c7l x name _ (c5t _ _ _ rfl)
def a70:Nat ->A0 ->Bool
 |0,_=>false
 |n+1,v=> !v.Raws.isEmpty||(v.Slots.any (fun x=>a70 n x.2)||(v.List_.any (a70 n)||v.Pairs.any (fun x=>a70 n x.2)))
theorem d9o (v:A0):(decide (0<(v.Raws.length:Int)))= !v.Raws.isEmpty:=by
 cases v.Raws with
 |nil=>rfl
 |cons x l=>simp
theorem c6i:∀(n:Nat) (v:A0),OkD v ->SizeOf.sizeOf v<=n ->a6g v (a70 n v)
 |0,v,_,h=>by have:=szV v; omega
 |n+1,v,hv,hn=>by
  obtain ⟨_,_,⟨la,pa,sa,ra⟩,hl,hp,hs⟩:=hv.inv
  refine c9v _ _ ⟨fun h=> ?_,fun h=> ?_⟩
  ·rw [d9o] at h
   rw [a70,h,Bool.true_or]
  rw [d9o] at h
  rw [a70,h,Bool.false_or]
  refine d6l (C:=fun (x:Int × A0) b=>a6g x.2 b) (fun x=>a70 n x.2) v.Slots (fun i hw=>c4o i v _ hw) sa (fun x hx=>c6i n x.2 (hs x hx) (by have:=szS hx; omega)) (fun h1=>by rw [h1,Bool.true_or]) (fun h1=> ?_)
  rw [h1,Bool.false_or]
  refine d6l (C:=fun (x:A0) b=>a6g x b) (a70 n) v.List_ (fun i hw=>c1o i v _ hw) la (fun x hx=>c6i n x (hl x hx) (by have:=szL hx; omega)) (fun h2=>by rw [h2,Bool.true_or]) (fun h2=> ?_)
  rw [h2,Bool.false_or]
  exact d6l (C:=fun (x:A0 × A0) b=>a6g x.2 b) (fun x=>a70 n x.2) v.Pairs (fun i hw=>c1g i v _ hw) pa (fun x hx=>c6i n x.2 (hp x hx).2 (by have:=szP hx; omega)) (fun h3=>h3) (fun h3=>h3)
theorem f2q (a:Int):∃k:Int,wI a=a+k*18446744073709551616:=by
 simp only [wI,IntKind.wrap,IntKind.bits,IntKind.signed,Bool.true_and,decide_eq_true_eq]
 split
 ·exact ⟨-(a / 18446744073709551616) - 1,by omega⟩
 ·exact ⟨-(a / 18446744073709551616),by omega⟩
theorem g7z {a b k:Int} (h:a=b+k*18446744073709551616):wI a=wI b:=by
 have:a % 2 ^ (IntKind.bits .i64)=b % 2 ^ (IntKind.bits .i64):=by
  show a % 18446744073709551616=b % 18446744073709551616
  omega
 simp only [wI,IntKind.wrap,this]
theorem f3y (a b:Int):wI (wI a+wI b)=wI (a+b):=by
 obtain ⟨k,hk⟩:=f2q a
 obtain ⟨m,hm⟩:=f2q b
 exact g7z (k:=k+m) (by rw [hk,hm,Int.add_mul]; omega)
theorem d1w {α:Type} {J:Int ->Int ->Prop} {C:α ->Int ->Prop} {E:Int ->Prop} (f:α ->Int) (s:List α)
  (c0x:∀i a:Int,((decide (i<(s.length:Int)))=true ->∃y3,s[i.toNat]? =some y3 /\ 0<=i /\ (∃y4,C y3 y4 /\ J (wI (i+1)) (wI (a+y4)))) /\ ((decide (i<(s.length:Int)))=false ->E a) ->J i a)
  (hs:s.length<=140737488351232) (hC:∀x∈s,C x (wI (f x))) (a:Int) (h:E (wI (a+(s.map f).sum))):J 0 (wI a):=by
 have key:∀(d i:Nat) (a:Int),s.length - i<=d ->i<=s.length ->E (wI (a+((s.drop i).map f).sum)) ->J i (wI a):=by
  intro d
  induction d with
  |zero=>
   intro i a hd hi hE
   refine c0x _ _ ⟨fun h=>by simp at h; omega,fun _=> ?_⟩
   rw [List.drop_eq_nil_of_le (by omega)] at hE
   simpa using hE
  |succ d ih=>
   intro i a hd hi hE
   rcases Nat.lt_or_ge i s.length with hlt|hge
   ·have e1:wI ((i:Int)+1)=((i+1:Nat):Int):=by rw [wI,D5 (by omega)]; omega
    have dl:s.drop i=s[i]::s.drop (i+1):=List.drop_eq_getElem_cons hlt
    rw [dl,List.map_cons,List.sum_cons] at hE
    refine c0x _ _ ⟨fun _=>⟨s[i],by simp,by omega,_,hC _ (List.getElem_mem _), ?_⟩,fun h=>by simp at h; omega⟩
    rw [e1,f3y]
    exact ih (i+1) (a+f s[i]) (by omega) (by omega) (by rw [Int.add_assoc]; exact hE)
   ·refine c0x _ _ ⟨fun h=>by simp at h; omega,fun _=> ?_⟩
    rw [List.drop_eq_nil_of_le hge] at hE
    simpa using hE
 exact key s.length 0 a (by omega) (by omega) (by simpa using h)
def a2u:Nat ->A0 ->Int
 |0,_=>0
 |n+1,v=>1+(v.Raws.length:Int)+(v.List_.map (a2u n)).sum+(v.Pairs.map fun x=>a2u n x.1+a2u n x.2).sum+(v.Slots.map fun x=>a2u n x.2).sum
theorem b7i:∀(n:Nat) (v:A0),OkD v ->SizeOf.sizeOf v<=n ->X7 v (wI (a2u n v))
 |0,v,_,h=>by have:=szV v; omega
 |n+1,v,hv,hn=>by
  obtain ⟨_,_,⟨la,pa,sa,ra⟩,hl,hp,hs⟩:=hv.inv
  refine c5j _ _ ?_
  refine d1w (J:=fun i a=>a8b i a v (wI (a2u (n+1) v))) (C:=fun (x:A0) b=>X7 x b) (a2u n) v.List_ (fun i a hw=>b9s i a v _ hw) la (fun x hx=>b7i n x (hl x hx) (by have:=szL hx; omega)) _ ?_
  refine d1w (J:=fun i a=>a6a i a v (wI (a2u (n+1) v))) (C:=fun (x:A0 × A0) b=>∃u w,X7 x.1 u /\ X7 x.2 w /\ b=wI (u+w)) (fun x:A0 × A0=>a2u n x.1+a2u n x.2) v.Pairs (fun i a hw=>b88 i a v _ ⟨fun h=> ?_,hw.2⟩) pa (fun x hx=> ?_) _ ?_
  ·obtain ⟨y,h1,h2,b,⟨u,w,c1,c2,rfl⟩,h3⟩:=hw.1 h
   exact ⟨y,h1,h2,u,c1,y,h1,h2,w,c2,h3⟩
  ·have hz:=szP hx
   exact ⟨_,_,b7i n _ (hp x hx).1 (by omega),b7i n _ (hp x hx).2 (by omega),(f3y _ _).symm⟩
  refine d1w (J:=fun i a=>a55 i a v (wI (a2u (n+1) v))) (C:=fun (x:Int × A0) b=>X7 x.2 b) (fun x:Int × A0=>a2u n x.2) v.Slots (fun i a hw=>b9d i a v _ hw) sa (fun x hx=>b7i n _ (hs x hx) (by have:=szS hx; omega)) _ ?_
  rfl
theorem d2y (n:Int): -9223372036854775808<=wI n /\ wI n<=9223372036854775807:=by simp only [wI,IntKind.wrap,IntKind.signed,IntKind.bits]; simp; omega
theorem d53 {n:Int} (h: -9223372036854775808<=n /\ n<=9223372036854775807):e8s n<18446744073709551616:=by unfold e8s; split<;>omega
theorem d4y:∀k u:Nat,u<128 ^ k ->1<=k ->(b26 u).length<=k
 |0,u,h,h1=>by omega
 |k+1,u,h,h1=>by
  rw [b26]
  split
  ·simp
  ·rename_i hu
   rcases Nat.eq_zero_or_pos k with h0|h0
   ·subst h0; simp at h; omega
   ·have:=d4y k (u / 128) (by rw [Nat.pow_succ] at h; omega) h0
    simp; omega
theorem a8o (u:Nat) (h:u<18446744073709551616):(b3e u).size<=10:=by rw [b3e,b14]; exact d4y 10 u (by omega) (by omega)
def d24 (v:A0):ByteArray:=
 if a9h v.Kind v=true then
  if v.Kind=1 then ofI [v.Bits % 256]
  else if v.Kind=2\/v.Kind=3 then b3e (e8s (wI v.Bits))
  else if v.Kind=6 then d7v (a1e v).Bits.toNat
  else if v.Kind=7\/v.Kind=8 then b3e v.Text.size++v.Text
  else b3e v.Bits.toNat
 else ⟨#[]⟩
theorem d0b (v:A0) (hv:OkV v):0<=(a1e v).Bits /\ (a1e v).Bits<18446744073709551616:=by
 unfold a1e
 split
 ·exact ⟨(by decide:(0:Int)<=9221120237041090560),(by decide:(9221120237041090560:Int)<18446744073709551616)⟩
 ·exact ⟨hv.b0,hv.b1⟩
theorem g2d {n:Int}:IntKind.u8.wrap n=n % 256:=by simp [IntKind.wrap,IntKind.signed,IntKind.bits]
theorem g7p (v:A0) (hv:OkV v) (b:Bool):c40 b v (if b=true then b3e v.Text.size++v.Text else b3e v.Bits.toNat):=by
 have h1:=hv.t; have h2:=hv.b0; have h3:=hv.b1
 have e1:wU (v.Text.size:Int)=(v.Text.size:Int):=b5u (by omega)
 have hp:=a8o v.Text.size (by omega)
 refine c3s _ _ _ ⟨fun h=>⟨_,by rw [e1]; exact e8h _ (by omega),by omega,by rw [if_pos h]⟩,fun h=>⟨b3e v.Bits.toNat, ?_,by rw [h]; rfl⟩⟩
 have:=e8h v.Bits.toNat (by omega)
 rw [show ((v.Bits.toNat:Nat):Int)=v.Bits by omega] at this
 exact this
theorem f4i (v:A0) (hv:OkV v) (b:Bool):b8m b v (if b=true then b3e v.Text.size++v.Text else b3e v.Bits.toNat):=by
 have h1:=hv.t; have h2:=hv.b0; have h3:=hv.b1
 have e1:wU (v.Text.size:Int)=(v.Text.size:Int):=b5u (by omega)
 have hp:=a8o v.Text.size (by omega)
 refine c9b _ _ _ ⟨fun h=>⟨_,by rw [e1]; exact d4a _ (by omega),by omega,by rw [if_pos h]⟩,fun h=>⟨b3e v.Bits.toNat, ?_,by rw [h]; rfl⟩⟩
 have:=d4a v.Bits.toNat (by omega)
 rw [show ((v.Bits.toNat:Nat):Int)=v.Bits by omega] at this
 exact this
def g3u (b:Bool) (v:A0):ByteArray:=if b=true then b3e (e8s (wI v.Bits)) else if v.Kind=6 then d7v (a1e v).Bits.toNat else if v.Kind=7\/v.Kind=8 then b3e v.Text.size++v.Text else b3e v.Bits.toNat
theorem f24 (v:A0) (hv:OkV v) (b:Bool):b8r b v (g3u b v):=by
 have hn:=d0b v hv
 have hr:=d2y v.Bits
 refine c7q _ _ _ ⟨fun h=>⟨_,g07 _ hr,_,d4a _ (d53 hr),by rw [g3u,if_pos h]⟩,fun h=>⟨fun h2=> ?_,fun h2=>⟨fun h3=> ?_,fun h3=> ?_⟩⟩⟩
 all_goals simp only [beq_iff_eq,beq_eq_false_iff_ne] at*
 all_goals rw [g3u,if_neg (by rw [h]; decide)]
 ·refine ⟨_,d2z v ⟨hv.b0,hv.b1⟩,d7v (a1e v).Bits.toNat, ?_,by rw [if_pos h2]⟩
  have:=e3k (a1e v).Bits.toNat
  rw [show (((a1e v).Bits.toNat:Nat):Int)=(a1e v).Bits by omega] at this
  exact this
 ·have:=f4i v hv (v.Kind==7)
  rw [if_pos (by simpa using h3)] at this
  rw [if_neg h2,if_pos (.inl h3)]; exact this
 ·have:=f4i v hv (v.Kind==8)
  rw [if_neg h2]
  by_cases h8:v.Kind=8
  ·rw [if_pos (by simpa using h8)] at this; rw [if_pos (.inr h8)]; exact this
  ·rw [if_neg (by simpa using h8)] at this; rw [if_neg (by omega)]; exact this
theorem d45 (v:A0) (hv:OkV v):d10 v (d24 v):=by
 refine d5r _ _ ⟨_,d6d v.Kind v hv,fun h=> ?_,fun h=> ?_⟩
 ·have:a9h v.Kind v=false:=by rw [<-Bool.not_eq_true']; exact h
  rw [d24,this]; rfl
 ·have:a9h v.Kind v=true:=by rw [<-Bool.not_eq_false']; exact h
  rw [d24,if_pos this]
  refine ⟨fun h1=>⟨_, ?_,by rw [if_pos (by simpa using h1)]⟩,fun h1=>⟨fun h2=> ?_,fun h2=> ?_⟩⟩
  ·rw [g2d]
   exact c66 (a0w (by omega))
  ·have:=f24 v hv (v.Kind==2)
   simp only [beq_iff_eq,beq_eq_false_iff_ne] at h1 h2
   rw [if_neg h1,if_pos (.inl h2)]
   rw [g3u,if_pos (by simpa using h2)] at this
   exact this
  ·have:=f24 v hv (v.Kind==3)
   simp only [beq_iff_eq,beq_eq_false_iff_ne] at h1 h2
   rw [if_neg h1]
   unfold g3u at this
   by_cases h3:v.Kind=3
   ·rw [if_pos (.inr h3)]
    rw [if_pos (by simpa using h3)] at this
    exact this
   ·rw [if_neg (by omega)]
    rw [if_neg (by simpa using h3)] at this
    exact this
def V0:A0:=⟨0,0,⟨#[]⟩,[],[],[],[]⟩
theorem f8p (c:A3) (hc:OkC c) (h:(T3 c).2.2=0):OkC (T3 c).2.1 /\ 0<=(T3 c).1 /\ (T3 c).1<18446744073709551616:=by
 have hs:=d2q c hc
 have hl:=d2d (O4 c) 10 0 0 rfl (by omega) (by decide)
 unfold T3 at h ⊢
 split at h
 ·split at h
  ·rename_i h1 h2
   rw [if_pos h1,if_pos h2]
   exact ⟨⟨hc.sz,hs.1,hs.2⟩,by omega,by simp only; omega⟩
  ·exact absurd h (show ¬((5:Int)=0) by decide)
 ·rename_i h1
  simp only at h
  omega
def d6e (k:Int) (c:A3):A0 × A3 × Int:=
 if (T3 c).2.2≠0 then (V0,c,(T3 c).2.2)
 else if a07 (T3 c).2.1.Data (T3 c).2.1.At (T3 c).2.1.End<(T3 c).1 then (V0,c,4)
 else if (a65 (T3 c).2.1 (T3 c).1).2.2≠0 then (V0,c,(a65 (T3 c).2.1 (T3 c).1).2.2)
 else if k=7 /\ b2u (a65 (T3 c).2.1 (T3 c).1).1=false then (V0,c,7)
 else (⟨k,0,(a65 (T3 c).2.1 (T3 c).1).1,[],[],[],[]⟩,(a65 (T3 c).2.1 (T3 c).1).2.1,0)
theorem d0y (c:A3) (hc:OkC c) (n:Int):(a65 c n).1.size<=140737488351232:=by
 have:=hc.sz
 unfold a65
 split
 ·exact (by decide:(0:Nat)<=140737488351232)
 split
 ·exact (by decide:(0:Nat)<=140737488351232)
 split
 ·exact (by decide:(0:Nat)<=140737488351232)
 ·simp only [ByteArray.size_extract]; omega
theorem e01 (k:Int) (c:A3) (hc:OkC c):d13 k c (d6e k c):=by
 have hl0:=c49 (T3 c).2.1
 refine d1p _ _ _ ⟨_,c8l c hc,fun h=> ?_,fun h=> ?_⟩
 ·have h0:(T3 c).2.2≠0:=by simpa using h
  rw [d6e,if_pos h0]; rfl
 have h0:(T3 c).2.2=0:=by simpa using h
 obtain ⟨hd,hb0,hb1⟩:=f8p c hc h0
 have hn0:¬(T3 c).2.2≠0:=fun h=>h h0
 refine ⟨_,d1n _ hd,fun h=> ?_,fun h=> ?_⟩
 all_goals
  have hlw:a07 (T3 c).2.1.Data (T3 c).2.1.At (T3 c).2.1.End<=140737488351232:=by
   have:=hd.sz
   have h1:=a8w (T3 c).2.1
   have h2:=hd.rest
   omega
  have ew:wU (a07 (T3 c).2.1.Data (T3 c).2.1.At (T3 c).2.1.End)=a07 (T3 c).2.1.Data (T3 c).2.1.At (T3 c).2.1.End:=b5u (by omega)
  rw [ew] at h
 ·simp only [decide_eq_true_eq] at h
  rw [d6e,if_neg hn0,if_pos h]; rfl
 simp only [decide_eq_false_iff_not] at h
 have e2:wI (T3 c).1=(T3 c).1:=D5 (by omega)
 rw [e2]
 refine ⟨_,f69 _ hd _,fun h2=> ?_,fun h2=> ?_⟩
 ·have h3:(a65 (T3 c).2.1 (T3 c).1).2.2≠0:=by simpa using h2
  rw [d6e,if_neg hn0,if_neg h,if_pos h3]; rfl
 have h3:¬(a65 (T3 c).2.1 (T3 c).1).2.2≠0:=by simpa using h2
 rw [d6e,if_neg hn0,if_neg h,if_neg h3]
 refine ⟨fun b=>b=decide (k=7 /\ b2u (a65 (T3 c).2.1 (T3 c).1).1=false),fun b hb=>⟨fun h4=> ?_,fun h4=> ?_⟩,fun h4=>⟨_,d16 _ (d0y _ hd _), ?_⟩,fun h4=> ?_⟩
 ·rw [h4] at hb
  rw [if_pos (of_decide_eq_true hb.symm)]; rfl
 ·rw [h4] at hb
  rw [if_neg (of_decide_eq_false hb.symm)]
 ·have:k=7:=by simpa using h4
  cases b2u (a65 (T3 c).2.1 (T3 c).1).1<;>simp [this]
 ·have:¬k=7:=by simpa using h4
  simp [this]
def e1c (c:A3):A0 × A3 × Int:=
 if (c4w c).2.2≠0 then (V0,c,(c4w c).2.2)
 else if (a1e ⟨6,(c4w c).1,⟨#[]⟩,[],[],[],[]⟩).Bits≠(c4w c).1 then (V0,c,5) else (⟨6,(c4w c).1,⟨#[]⟩,[],[],[],[]⟩,(c4w c).2.1,0)
theorem d5l (c:A3):0<=(c4w c).1 /\ (c4w c).1<18446744073709551616:=by
 unfold c4w
 split
 ·have:=e2s (O4 c) 8
  have e:256 ^ 8=18446744073709551616:=rfl
  simp only
  omega
 ·exact ⟨(by decide:(0:Int)<=0),(by decide:(0:Int)<18446744073709551616)⟩
theorem e4g (c:A3) (hc:OkC c):c32 c (e1c c):=by
 refine c76 _ _ ⟨_,f19 c hc,fun h=> ?_,fun h=>⟨_,d2z _ (d5l c),fun h2=> ?_,fun h2=> ?_⟩⟩
 ·have h0:(c4w c).2.2≠0:=by simpa using h
  rw [e1c,if_pos h0]; rfl
 all_goals have h0:¬(c4w c).2.2≠0:=by simpa using h
 ·rw [e1c,if_neg h0,if_pos (by simpa using h2)]; rfl
 ·rw [e1c,if_neg h0,if_neg (by simpa using h2)]
def d7t (p:A5) (enum num:Int):Bool:=
 if enum<0\/(p.Enums.length:Int)<=enum\/2147483647<num then false else (p.Enums[enum.toNat]?).any fun y=>y.Open||y.Items.any fun it=>decide (it.Num=num)
structure OkE (p:A5):Prop where
 n:p.Enums.length<=140737488351232
 i:∀y∈p.Enums,y.Items.length<=140737488351232 /\ ∀it∈y.Items, -9223372036854775808<=it.Num /\ it.Num<=9223372036854775807
def h1v (num:Int):GFn:=⟨86,[],[.elt [.v (.int .u64 num)] 0],by simp [plainL,plain]⟩
theorem e6l (num:Int) (hn:0<=num /\ num<=2147483647) (l:List b24) (hl:l.length<=140737488351232) (hi:∀it∈l, -9223372036854775808<=it.Num /\ it.Num<=9223372036854775807):∀n i:Nat,l.length - i<=n ->i<=l.length ->
  ∃r,M9 i l (h1v num) r /\ (0<=r↔∃it∈l.drop i,it.Num=num):=by
 intro n
 induction n with
 |zero=>
  intro i h1 h2
  refine ⟨-1,I4 _ _ _ _ ⟨fun h=>by simp only [decide_eq_true_eq] at h; omega,fun _=>rfl⟩, ?_⟩
  have:l.drop i=[]:=List.drop_eq_nil_of_le (by omega)
  simp [this]
 |succ n ih=>
  intro i h1 h2
  rcases Nat.lt_or_ge i l.length with hlt|hge
  ·have hy:l[i]? =some l[i]:=List.getElem?_eq_getElem hlt
   have hmem:l[i]∈l:=List.getElem_mem hlt
   have hr:=hi _ hmem
   have hd:l.drop i=l[i]::l.drop (i+1):=List.drop_eq_getElem_cons hlt
   have ht:((i:Int)).toNat=i:=by omega
   have hw:(wU (l[i]).Num==num)=decide ((l[i]).Num=num):=by
    rw [Bool.eq_iff_iff]
    simp only [beq_iff_eq,decide_eq_true_eq]
    rcases Int.lt_or_le (l[i]).Num 0 with h0|h0
    ·rw [f2w ⟨hr.1,h0⟩]; omega
    ·have:wU (l[i]).Num=(l[i]).Num:=b5u (by omega)
     rw [this]
   have hc:=c1x l[i] num _ (b9p l[i] num _ rfl)
   by_cases he:(l[i]).Num=num
   ·refine ⟨i,I4 _ _ _ _ ⟨fun _=>⟨l[i],by rw [ht]; exact hy,by omega,_,hc,fun _=>rfl,fun h=> ?_⟩,fun h=>by simp only [decide_eq_false_iff_not] at h; omega⟩, ?_⟩
    ·rw [hw,decide_eq_true he] at h; cases h
    ·rw [hd]
     exact ⟨fun _=>⟨_,List.mem_cons_self,he⟩,fun _=>by omega⟩
   ·obtain ⟨r,hr1,hr2⟩:=ih (i+1) (by omega) (by omega)
    refine ⟨r,I4 _ _ _ _ ⟨fun _=>⟨l[i],by rw [ht]; exact hy,by omega,_,hc,fun h=> ?_,fun _=> ?_⟩,fun h=>by simp only [decide_eq_false_iff_not] at h; omega⟩, ?_⟩
    ·rw [hw,decide_eq_false he] at h; cases h
    ·rw [wI,D5 (by omega)]; exact hr1
    ·rw [hr2,hd]
     exact ⟨fun ⟨it,k1,k2⟩=>⟨it,List.mem_cons_of_mem _ k1,k2⟩,fun ⟨it,k1,k2⟩=>(List.mem_cons.1 k1).elim (fun e=>(he (by rw [<-e]; exact k2)).elim) fun k1=>⟨it,k1,k2⟩⟩
  ·refine ⟨-1,I4 _ _ _ _ ⟨fun h=>by simp only [decide_eq_true_eq] at h; omega,fun _=>rfl⟩, ?_⟩
   have:l.drop i=[]:=List.drop_eq_nil_of_le (by omega)
   simp [this]
theorem c3g (p:A5) (hp:OkE p) (enum num:Int) (hn:0<=num):a8r p enum num (d7t p enum num):=by
 refine c4q _ _ _ _ ⟨fun h=> ?_,fun h=> ?_⟩
 ·rw [d7t,if_pos]
  simp only [Bool.or_eq_true,decide_eq_true_eq] at h
  omega
 ·simp only [Bool.or_eq_false_iff,decide_eq_false_iff_not] at h
  have hlt:enum.toNat<p.Enums.length:=by omega
  have hy:p.Enums[enum.toNat]? =some p.Enums[enum.toNat]:=List.getElem?_eq_getElem hlt
  obtain ⟨hl,hi⟩:=hp.i _ (List.getElem_mem hlt)
  rw [d7t,if_neg (by omega),hy]
  generalize p.Enums[enum.toNat]=y at*
  refine ⟨y,rfl,by omega,fun h2=>by simp [h2],fun h2=> ?_⟩
  obtain ⟨r,hr1,hr2⟩:=e6l num ⟨hn,by omega⟩ y.Items hl hi y.Items.length 0 (by omega) (by omega)
  refine ⟨_,a46 _ _ _ ⟨r,a63 _ _ _ hr1,rfl⟩, ?_⟩
  simp only [h2,Option.any_some,Bool.false_or]
  rw [Bool.eq_iff_iff,decide_eq_true_eq,hr2,List.drop_zero,List.any_eq_true]
  simp
def d1o (k b:Int):A0:=⟨k,b,⟨#[]⟩,[],[],[],[]⟩
def d1y (k u:Int):Int:=if k=2\/k=3 then wU (e8x u.toNat) else u
def b44 (p:A5) (k tgt:Int) (c:A3):A0 × A3 × Int:=
 if k=1 then
  if (a3k c).2.2≠0 then (V0,c,(a3k c).2.2) else if 1<(a3k c).1 then (V0,c,5) else (d1o k (a3k c).1,(a3k c).2.1,0)
 else if k=6 then e1c c
 else if k=7\/k=8 then d6e k c
 else if k=2\/k=3\/k=4\/k=5\/k=9 then
  if (T3 c).2.2≠0 then (V0,c,(T3 c).2.2)
  else if a9h k (d1o k (d1y k (T3 c).1))=false then (V0,c,6)
  else if k=9 /\ d7t p tgt (T3 c).1=false then (V0,c,16)
  else (d1o k (d1y k (T3 c).1),(T3 c).2.1,0)
 else (V0,c,12)
theorem e9s (n:Int):0<=wU n /\ wU n<18446744073709551616:=by simp only [wU,IntKind.wrap,IntKind.signed,IntKind.bits]; simp; omega
theorem b4z (c:A3):0<=(T3 c).1 /\ (T3 c).1<18446744073709551616:=by
 have hl:=d2d (O4 c) 10 0 0 rfl (by omega) (by decide)
 unfold T3
 split
 ·split
  ·exact ⟨Int.natCast_nonneg _,by simp only; omega⟩
  ·exact ⟨(by decide:(0:Int)<=0),(by decide:(0:Int)<18446744073709551616)⟩
 ·exact ⟨(by decide:(0:Int)<=0),(by decide:(0:Int)<18446744073709551616)⟩
theorem c0o (c:A3):0<=(a3k c).1 /\ (a3k c).1<256:=by
 unfold a3k
 split
 ·have:=b2v c.Data c.At.toNat; simp only; omega
 ·exact ⟨(by decide:(0:Int)<=0),(by decide:(0:Int)<256)⟩
theorem OkV.bit {k b:Int} (h:0<=b /\ b<18446744073709551616):OkV (d1o k b):=⟨by simp [d1o],by simp [d1o],by simp [d1o],by simp [d1o],(by decide:(0:Nat)<=140737488351232),h.1,h.2⟩
theorem d0u (k:Int) (c:A3):0<=d1y k (T3 c).1 /\ d1y k (T3 c).1<18446744073709551616:=by
 unfold d1y
 split
 ·exact e9s _
 ·exact b4z c
section
variable (p:A5) (hp:OkE p) (o:GOp) (c:A3) (hc:OkC c)
 include hp hc
theorem d8h (hk:o.Kind=2\/o.Kind=3\/o.Kind=4\/o.Kind=5\/o.Kind=9) (h0:(T3 c).2.2=0):a8i (T3 c) p o c (d1y o.Kind (T3 c).1) (b44 p o.Kind o.Target c):=by
 have hn:=d0u o.Kind c
 have hr:b44 p o.Kind o.Target c=if a9h o.Kind (d1o o.Kind (d1y o.Kind (T3 c).1))=false then (V0,c,6)
  else if o.Kind=9 /\ d7t p o.Target (T3 c).1=false then (V0,c,16)
  else (d1o o.Kind (d1y o.Kind (T3 c).1),(T3 c).2.1,0):=by
  unfold b44; rw [if_neg (by omega),if_neg (by omega),if_neg (by omega),if_pos hk,if_neg (by omega)]
 rw [hr]
 refine b9u _ _ _ _ _ _ ⟨_,d6d o.Kind (d1o o.Kind (d1y o.Kind (T3 c).1)) (OkV.bit hn),fun h=> ?_,fun h=> ?_⟩
 ·rw [if_pos (by simpa using h)]; rfl
 ·rw [if_neg (by simpa using h)]
  refine ⟨fun b=>b=decide (o.Kind=9 /\ d7t p o.Target (T3 c).1=false),fun b hb=>⟨fun h2=> ?_,fun h2=> ?_⟩,fun h2=>⟨_,c3g p hp o.Target (T3 c).1 (b4z c).1, ?_⟩,fun h2=> ?_⟩
  ·rw [h2] at hb; rw [if_pos (of_decide_eq_true hb.symm)]; rfl
  ·rw [h2] at hb; rw [if_neg (of_decide_eq_false hb.symm)]; rfl
  ·have:o.Kind=9:=by simpa using h2
   cases d7t p o.Target (T3 c).1<;>simp [this]
  ·have:¬o.Kind=9:=by simpa using h2
   simp [this]
theorem f9g:b8w (T3 c).1 (e8x (T3 c).1.toNat) /\ c8f (T3 c).1 (e8x (T3 c).1.toNat):=by
 have h:=b4z c
 have e:(((T3 c).1.toNat:Nat):Int)=(T3 c).1:=by omega
 have h1:=g33 (T3 c).1.toNat (by omega)
 have h2:=f52 (T3 c).1.toNat (by omega)
 rw [e] at h1 h2
 exact ⟨h1,h2⟩
theorem c70 (b:Bool) (h1:¬o.Kind=1) (h6:¬o.Kind=6) (h78:¬(o.Kind=7\/o.Kind=8)) (hb:b=true↔o.Kind=2\/o.Kind=3\/o.Kind=4\/o.Kind=5\/o.Kind=9):a1d b p o c (b44 p o.Kind o.Target c):=by
 refine c1t _ _ _ _ _ ⟨fun h=>⟨_,c8l c hc,fun h2=> ?_,fun h2=> ?_⟩,fun h=> ?_⟩
 ·have h3:(T3 c).2.2≠0:=by simpa using h2
  unfold b44
  rw [if_neg h1,if_neg h6,if_neg h78,if_pos (hb.1 h),if_pos h3]; rfl
 ·have h0:(T3 c).2.2=0:=by simpa using h2
  refine ⟨fun h3=>⟨_,(f9g p hp c hc).1, ?_⟩,fun h3=> ?_⟩
  ·have h23:o.Kind=2\/o.Kind=3:=by simpa using h3
   have:=d8h p hp o c hc (hb.1 h) h0
   rwa [d1y,if_pos h23] at this
  ·have h23:¬(o.Kind=2\/o.Kind=3):=by simpa using h3
   have:=d8h p hp o c hc (hb.1 h) h0
   rwa [d1y,if_neg h23] at this
 ·unfold b44
  rw [if_neg h1,if_neg h6,if_neg h78,if_neg (fun hn=>by rw [hb.2 hn] at h; cases h)]; rfl
theorem e6u (b:Bool) (h1:¬o.Kind=1) (h6:¬o.Kind=6) (hb:b=true↔o.Kind=7\/o.Kind=8):b0b b o p c (b44 p o.Kind o.Target c):=by
 refine c2o _ _ _ _ _ ⟨fun h=>⟨_,e01 o.Kind c hc, ?_⟩,fun h=> ?_⟩
 ·unfold b44
  rw [if_neg h1,if_neg h6,if_pos (hb.1 h)]
 ·have h78:¬(o.Kind=7\/o.Kind=8):=fun hn=>by rw [hb.2 hn] at h; cases h
  refine ⟨fun h2=>c70 p hp o c hc _ h1 h6 h78 ?_,fun h2=>⟨fun h3=>c70 p hp o c hc _ h1 h6 h78 ?_,fun h3=>⟨fun h4=>c70 p hp o c hc _ h1 h6 h78 ?_,fun h4=>⟨fun h5=>c70 p hp o c hc _ h1 h6 h78 ?_,fun h5=>c70 p hp o c hc _ h1 h6 h78 ?_⟩⟩⟩⟩
  all_goals simp only [beq_iff_eq,beq_eq_false_iff_ne] at*
  all_goals omega
theorem e5z:c3y p o c (b44 p o.Kind o.Target c):=by
 have hb:=c0o c
 have e:wU (a3k c).1=(a3k c).1:=b5u (by omega)
 refine c7o _ _ _ _ ⟨fun h=>⟨_,e8m c hc,fun h2=> ?_,fun h2=>⟨fun h3=> ?_,fun h3=> ?_⟩⟩,fun h=>⟨fun h2=>⟨_,e4g c hc, ?_⟩,fun h2=>⟨fun h3=>e6u p hp o c hc _ (by simpa using h) (by simpa using h2) ?_,fun h3=>e6u p hp o c hc _ (by simpa using h) (by simpa using h2) ?_⟩⟩⟩
 all_goals simp only [beq_iff_eq,beq_eq_false_iff_ne] at h
 ·unfold b44
  rw [if_pos h,if_pos (by simpa using h2)]; rfl
 ·unfold b44
  rw [if_pos h,if_neg (by simpa using h2),if_pos (by simpa using h3)]; rfl
 ·unfold b44
  rw [if_pos h,if_neg (by simpa using h2),if_neg (by simpa using h3),e]; rfl
 ·unfold b44
  rw [if_neg h,if_pos (by simpa using h2)]
 all_goals simp only [beq_iff_eq,beq_eq_false_iff_ne] at*
 all_goals omega
end
theorem c2n {l:List Int} (hl:b64 l) {j:Nat} {x:Int} (hx:l[j]? =some x):((H5 (ofI l) j:Nat):Int)=x:=by
 have h:=hl x (List.mem_of_getElem? hx)
 unfold H5 F0 ofI
 simp only [List.getD_eq_getElem?_getD,List.getElem?_map,hx,Option.map_some,Option.getD_some]
 have:(UInt8.ofNat x.toNat).toNat=x.toNat:=by simp; omega
 omega
theorem a5m (a b:ByteArray) {j:Nat} (h:j<a.size):H5 (a++b) j=H5 a j:=by
 have h2:j<a.data.size:=h
 unfold H5 F0
 simp [ByteArray.data_append,List.getElem?_append_left (show j<a.data.toList.length by simpa using h2)]
theorem e6o (s:ByteArray) (u:Nat):∀i acc:Nat,i<=9 ->u*128 ^ i<18446744073709551616 ->i+(b26 u).length<=s.size ->(∀j x,(b26 u)[j]? =some x ->((H5 s (i+j):Nat):Int)=x) ->W4 s i acc=(acc+u*128 ^ i,i+(b26 u).length,0):=by
 induction u using Nat.strongRecOn with
 |_ u ih=>
  intro i acc hi hb hl hx
  have hp:=e9h u
  obtain ⟨p1,p2,p3⟩:=e8k hi
  rw [W4.eq_def,if_neg (by omega),if_neg (by omega)]
  by_cases h:u<128
  ·have hu:b26 u=[(u:Int)]:=by rw [b26,if_pos h]
   have h0:H5 s i=u:=by
    have:=hx 0 u (by rw [hu]; rfl)
    rw [Nat.add_zero] at this
    omega
   rw [h0,if_neg,if_pos h,hu]
   ·rfl
   ·rintro ⟨rfl,h1⟩
    have:(128:Nat) ^ 9=9223372036854775808:=by decide
    rw [this] at hb
    omega
  ·have hu:b26 u=((u % 128+128:Nat):Int)::b26 (u / 128):=by rw [b26,if_neg h]
   have h0:H5 s i=u % 128+128:=by
    have:=hx 0 _ (by rw [hu]; rfl)
    rw [Nat.add_zero] at this
    omega
   have h9:i<=8:=by
    rcases Nat.lt_or_ge i 9 with h9|h9
    ·omega
    ·obtain rfl:i=9:=by omega
     have:(128:Nat) ^ 9=9223372036854775808:=by decide
     rw [this] at hb
     omega
   rw [h0,if_neg (by omega),if_neg (by omega)]
   have e1:(u % 128+128) % 128=u % 128:=by omega
   have e2:u*128 ^ i=u % 128*128 ^ i+u / 128*128 ^ (i+1):=by
    rw [Nat.pow_succ,Nat.mul_comm (128 ^ i) 128,<-Nat.mul_assoc,<-Nat.add_mul]
    congr 1
    omega
   rw [hu] at hl
   rw [e1,ih (u / 128) (by omega) (i+1) _ (by omega) (by omega) (by simp at hl; omega) (fun j x hj=>by
    have:=hx (j+1) x (by rw [hu]; simpa using hj)
    rw [show i+1+j=i+(j+1) by omega]; exact this),hu,e2]
   simp only [List.length_cons]
   refine Prod.ext ?_ (Prod.ext ?_ rfl)
   ·simp only; omega
   ·simp only; omega
theorem I3 (a b:ByteArray):(a++b).size=a.size+b.size:=ByteArray.size_append
theorem f06 (u:Nat) (hu:u<18446744073709551616) (t:ByteArray):W4 (b3e u++t) 0 0=(u,(b3e u).size,0):=by
 have hz:(b3e u).size=(b26 u).length:=b14 _
 have:=e6o (b3e u++t) u 0 0 (by omega) (by simpa using hu) (by rw [I3,hz]; omega) (fun j x hj=>by
  have hlt:j<(b3e u).size:=by rw [hz]; exact (List.getElem?_eq_some_iff.1 hj).1
  rw [Nat.zero_add,a5m _ _ hlt]
  exact c2n (c98 u) hj)
 rw [this,hz]
 simp
theorem f74 (c:A3) (u:Nat) (hu:u<18446744073709551616) (t:ByteArray) (h:O4 c=b3e u++t):T3 c=((u:Int),a2j c (b3e u).size,0):=by
 have:=f06 u hu t
 unfold T3
 rw [h,this]
 simp
theorem e2v (u:Nat):∀n,n<=8 ->leS (d7v u) n=u % 256 ^ n
 |0,_=>by simp [leS]; omega
 |n+1,h=>by
  simp only [leS]
  rw [e2v u n (by omega)]
  have hx:(d72 u 8)[n]? =some ((u / 256 ^ n % 256:Nat):Int):=by simp [d72,show n<8 by omega]
  have:=c2n (d09 u 8) hx
  have e:H5 (d7v u) n=u / 256 ^ n % 256:=by unfold d7v; omega
  rw [e,Nat.pow_succ,Nat.mod_mul,Nat.mul_comm (256 ^ n)]
theorem d2m (u:Nat):(d7v u).size=8:=by rw [d7v,b14]; simp [d72]
theorem f58 (c:A3) (u:Nat) (hu:u<18446744073709551616) (t:ByteArray) (h:O4 c=d7v u++t):c4w c=((u:Int),a2j c 8,0):=by
 have hz:=d2m u
 have e1:leS (O4 c) 8=u:=by
  rw [h,c7b _ (d7v u) 8 (fun i hi=>a5m _ _ (by omega)),e2v u 8 (Nat.le_refl _)]
  exact Nat.mod_eq_of_lt (by simpa using hu)
 unfold c4w
 rw [if_pos (by rw [h,I3]; omega),e1]
def atS (d:ByteArray):A3:=⟨d,0,d.size,0,0,9999⟩
theorem f75 (d:ByteArray) (n:Nat) (h:n<=d.size):a07 d n d.size=d.size - n:=by
 have:b1h d n d.size=true:=by simp [b1h]; omega
 rw [a07,if_pos this]
theorem g2q (d:ByteArray):d.extract 0 d.size=d:=by simp
theorem f5y (d:ByteArray):O4 (atS d)=d:=by
 unfold O4 atS
 have:=f75 d 0 (by omega)
 simp only [Int.toNat_zero,Nat.zero_add]
 rw [show ((0:Nat):Int)=0 from rfl] at this
 rw [this,show ((d.size:Int) - 0).toNat=d.size by omega]
 exact g2q d
theorem g1p:f84 9221120237041090560=0:=by decide
theorem d06 (v:A0) (h:a9h v.Kind v=true):1<=v.Kind /\ v.Kind<=9 /\ ((v.Kind=7\/v.Kind=8) ->v.Bits=0 /\ v.Text.size<=4096 /\ (v.Kind=7 ->b2u v.Text=true)) /\ (¬(v.Kind=7\/v.Kind=8) ->a2i v.Kind v.Bits=true):=by
 unfold a9h at h
 simp only [Bool.and_eq_true,decide_eq_true_eq] at h
 obtain ⟨⟨h1,_⟩,h2⟩:=h
 refine ⟨h1.1,h1.2.1,fun h3=> ?_,fun h3=> ?_⟩
 ·rw [if_pos h3] at h2
  simp only [Bool.and_eq_true,decide_eq_true_eq,Bool.or_eq_true,Bool.not_eq_true',decide_eq_false_iff_not] at h2
  exact ⟨h2.1.1,h2.1.2,fun h7=>by rcases h2.2 with h|h; exact absurd h7 h; exact h⟩
 ·rw [if_neg h3] at h2
  simp only [Bool.and_eq_true] at h2
  exact h2.2
theorem g50 {n:Int} (h:0<=n /\ n<18446744073709551616):wU (wI n)=n:=by simp only [wU,wI,IntKind.wrap,IntKind.signed,IntKind.bits]; simp; omega
def Ex {α:Type} (Q p:α ->Prop):Prop:=∃r,p r /\ Q r
section
variable {α β:Type} {Q:α ->Prop}
theorem D6 {e:α} (h:Q e):Ex Q (fun r=>r=e):=⟨e,rfl,h⟩
theorem E7 {c:Prop} [Decidable c] {p q:α ->Prop} (h1:c ->Ex Q p) (h2:¬c ->Ex Q q):Ex Q (fun r=>(decide c=true ->p r) /\ (decide c=false ->q r)):=by
 by_cases h:c
 ·obtain ⟨r,a,b⟩:=h1 h
  exact ⟨r,⟨fun _=>a,fun h'=>absurd h (of_decide_eq_false h')⟩,b⟩
 ·obtain ⟨r,a,b⟩:=h2 h
  exact ⟨r,⟨fun h'=>absurd (of_decide_eq_true h') h,fun _=>a⟩,b⟩
theorem N5 {c:Prop} [Decidable c] {p q:α ->Prop} (h1:¬c ->Ex Q p) (h2:c ->Ex Q q):Ex Q (fun r=>((!decide c)=true ->p r) /\ ((!decide c)=false ->q r)):=by
 by_cases h:c
 ·obtain ⟨r,a,b⟩:=h2 h
  exact ⟨r,⟨fun h'=>by simp [h] at h',fun _=>a⟩,b⟩
 ·obtain ⟨r,a,b⟩:=h1 h
  exact ⟨r,⟨fun _=>a,fun h'=>by simp [h] at h'⟩,b⟩
theorem A8 (B:Bool) {p q:α ->Prop} (h1:B=true ->Ex Q p) (h2:B=false ->Ex Q q):Ex Q (fun r=>(B=true ->p r) /\ (B=false ->q r)):=by
 cases hB:B with
 |true=>obtain ⟨r,a,b⟩:=h1 hB; exact ⟨r,⟨fun _=>a,fun h=>by cases h⟩,b⟩
 |false=>obtain ⟨r,a,b⟩:=h2 hB; exact ⟨r,⟨fun h=>(by cases h),fun _=>a⟩,b⟩
theorem D8 {F:β ->Prop} {G:β ->α ->Prop} {S:β ->Prop} (h:Ex S F) (k:∀y,S y ->Ex Q (G y)):Ex Q (fun r=>∃y,F y /\ G y r):=by
 obtain ⟨y,hy,hs⟩:=h
 obtain ⟨r,a,b⟩:=k y hs
 exact ⟨r,⟨y,hy,a⟩,b⟩
theorem c1u {F:β ->Prop} {G:β ->α ->Prop} {v:β} (h:F v) (k:Ex Q (G v)):Ex Q (fun r=>∃y,F y /\ G y r):=by
 obtain ⟨r,a,b⟩:=k
 exact ⟨r,⟨v,h,a⟩,b⟩
theorem E3 {l:List β} {i:Int} {G:β ->α ->Prop} (h:0<=i /\ i<l.length) (k:∀y,l[i.toNat]? =some y ->y∈l ->Ex Q (G y)):Ex Q (fun r=>∃y,l[i.toNat]? =some y /\ 0<=i /\ G y r):=by
 have hlt:i.toNat<l.length:=by omega
 have he:=List.getElem?_eq_getElem hlt
 obtain ⟨r,a,b⟩:=k _ he (List.getElem_mem hlt)
 exact ⟨r,⟨_,he,h.1,a⟩,b⟩
theorem a3d {l:List β} {i:Int} {G:β ->α ->Prop} (y:β) (hy:l[i.toNat]? =some y) (h:0<=i) (k:Ex Q (G y)):Ex Q (fun r=>∃y,l[i.toNat]? =some y /\ 0<=i /\ G y r):=by
 obtain ⟨r,a,b⟩:=k
 exact ⟨r,⟨y,hy,h,a⟩,b⟩
theorem D7 {A:Prop} {G:α ->Prop} (h:A) (k:Ex Q G):Ex Q (fun r=>A /\ G r):=by
 obtain ⟨r,a,b⟩:=k
 exact ⟨r,⟨h,a⟩,b⟩
theorem C6 {G:β ->α ->Prop} {H:(β ->Prop) ->α ->Prop} (k:Ex Q (fun r=>H (fun z=>G z r) r)):Ex Q (fun r=>∃R:β ->Prop,(∀z,R z ->G z r) /\ H R r):=by
 obtain ⟨r,a,b⟩:=k
 exact ⟨r,⟨fun z=>G z r,fun z h=>h,a⟩,b⟩
theorem A9 {p F:α ->Prop} (h:∀r,p r ->F r) (k:Ex Q p):Ex Q F:=by
 obtain ⟨r,a,b⟩:=k
 exact ⟨r,h r a,b⟩
theorem e5o {p:α ->Prop} {S:α ->Prop} (h:Ex S p) (k:∀r,S r ->Q r):Ex Q p:=by
 obtain ⟨r,a,b⟩:=h
 exact ⟨r,a,k r b⟩
theorem Ex.to {p:α ->Prop} (h:Ex Q p):∃r,p r /\ Q r:=h
end
theorem upn {T:Nat ->Prop} (n:Nat) (c0x:∀i,i<n ->T (i+1) ->T i) (fin:∀i,n<=i ->T i):∀i,T i:=by
 have:∀k i,n - i<=k ->T i:=by
  intro k
  induction k with
  |zero=>exact fun i h=>fin i (by omega)
  |succ k ih=>
   intro i h
   rcases Nat.lt_or_ge i n with h1|h1
   ·exact c0x i h1 (ih (i+1) (by omega))
   ·exact fin i h1
 exact fun i=>this (n - i) i (Nat.le_refl _)
theorem U5 {i:Nat} (h:i<=4611686018427387904):wI ((i:Int)+1)=((i+1:Nat):Int):=by rw [wI,D5 (by omega)]; omega
theorem c68 {i:Nat} (h:0<i /\ i<=4611686018427387904):wI ((i:Int) - 1)=((i - 1:Nat):Int):=by rw [wI,D5 (by omega)]; omega
def yes {α:Type}:α ->Prop:=fun _=>True
theorem d6q (b:Int):Ex yes (b5t b):=A9 (c5n _) (D6 trivial)
theorem c8w (b:Int):Ex yes (b0h b):=A9 (c00 _) (D6 trivial)
theorem f2c (s:ByteArray) (hs:s.size<=140737488351232):∀i:Nat,Ex yes (a2b (i:Int) s):=by
 refine upn (s.size) (fun i hi ih=> ?_) (fun i hi=> ?_)
 ·refine A9 (a9x _ _) ?_
  rw [U5 (by omega)]
  repeat' first|exact D6 trivial|exact ih|assumption|refine C6 ?_|refine E7 (fun h=> ?_) (fun h=> ?_)|refine N5 (fun h=> ?_) (fun h=> ?_)|refine A8 _ (fun h=> ?_) (fun h=> ?_)|refine E3 (by omega) (fun y hy hm=> ?_)|refine D7 (by omega) ?_|refine D8 (d6q _) (fun y hq=> ?_)|refine D8 (c8w _) (fun y hq=> ?_)
 ·refine A9 (a9x _ _) ?_
  repeat' first|exact D6 trivial|exact ih|assumption|exact absurd ‹_› (by omega)|(exfalso; omega)|refine C6 ?_|refine E7 (fun h=> ?_) (fun h=> ?_)|refine N5 (fun h=> ?_) (fun h=> ?_)|refine A8 _ (fun h=> ?_) (fun h=> ?_)|refine E3 (by omega) (fun y hy hm=> ?_)|refine D7 (by omega) ?_|refine D8 (d6q _) (fun y hq=> ?_)|refine D8 (c8w _) (fun y hq=> ?_)
theorem e3j (s:ByteArray) (hs:s.size<=140737488351232):Ex yes (a9g s):=by
 refine A9 (c3t _) ?_
 repeat' first|exact D6 trivial|exact ih|assumption|exact f2c s hs 1|refine C6 ?_|refine E7 (fun h=> ?_) (fun h=> ?_)|refine N5 (fun h=> ?_) (fun h=> ?_)|refine A8 _ (fun h=> ?_) (fun h=> ?_)|refine E3 (by first|omega|(simp only [Bool.or_eq_false_iff,Bool.or_eq_true,Bool.and_eq_true,Bool.and_eq_false_iff,beq_iff_eq,beq_eq_false_iff_ne,decide_eq_false_iff_not,decide_eq_true_eq,ne_eq] at*; omega)) (fun y hy hm=> ?_)|refine D7 (by first|omega|(simp only [Bool.or_eq_false_iff,Bool.or_eq_true,Bool.and_eq_true,Bool.and_eq_false_iff,beq_iff_eq,beq_eq_false_iff_ne,decide_eq_false_iff_not,decide_eq_true_eq,ne_eq] at*; omega)) ?_|refine D8 (d6q _) (fun y hq=> ?_)|refine D8 (c8w _) (fun y hq=> ?_)
theorem f22 (s:ByteArray):Ex yes (b13 s):=by
 refine A9 (c31 _) ?_
 repeat' first|exact D6 trivial|exact ih|assumption|refine C6 ?_|refine E7 (fun h=> ?_) (fun h=> ?_)|refine N5 (fun h=> ?_) (fun h=> ?_)|refine A8 _ (fun h=> ?_) (fun h=> ?_)|refine E3 (by omega) (fun y hy hm=> ?_)|refine D7 (by omega) ?_
theorem f1e (s:ByteArray) (hs:s.size<=140737488351232):∀i:Nat,∀w:ByteArray,w.size<=i /\ i<=140737488351232 ->Ex yes (a23 (i:Int) w s):=by
 refine upn s.size (fun i hi ih w hw=> ?_) (fun i hi w hw=> ?_)
 ·have hz:(s.extract ((i:Int)).toNat (((i+1:Nat):Int)).toNat).size<=1:=by rw [U6 _ (by omega)]; omega
  refine A9 (a94 _ _ _) ?_
  rw [U5 (by omega)]
  repeat' first|exact D6 trivial|exact ih|assumption|exact ih _ (by rw [I3]; omega)|exact ih ⟨#[]⟩ ⟨Nat.zero_le _,by omega⟩|refine C6 ?_|refine E7 (fun h=> ?_) (fun h=> ?_)|refine N5 (fun h=> ?_) (fun h=> ?_)|refine A8 _ (fun h=> ?_) (fun h=> ?_)|refine E3 (by omega) (fun y hy hm=> ?_)|refine D7 (by omega) ?_|refine D8 (e3j _ (by omega)) (fun y hq=> ?_)
 ·refine A9 (a94 _ _ _) ?_
  repeat' first|exact D6 trivial|exact ih|assumption|exact absurd ‹_› (by omega)|refine C6 ?_|refine E7 (fun h=> ?_) (fun h=> ?_)|refine N5 (fun h=> ?_) (fun h=> ?_)|refine A8 _ (fun h=> ?_) (fun h=> ?_)|refine E3 (by omega) (fun y hy hm=> ?_)|refine D7 (by omega) ?_|refine D8 (e3j _ (by omega)) (fun y hq=> ?_)
theorem g0r (s:ByteArray) (hs:s.size<=140737488351232):Ex yes (b6w s):=by
 refine A9 (c3f _) ?_
 repeat' first|exact D6 trivial|exact ih|assumption|exact f1e s hs 0 ⟨#[]⟩ ⟨Nat.zero_le _,by omega⟩|refine C6 ?_|refine E7 (fun h=> ?_) (fun h=> ?_)|refine N5 (fun h=> ?_) (fun h=> ?_)|refine A8 _ (fun h=> ?_) (fun h=> ?_)|refine E3 (by omega) (fun y hy hm=> ?_)|refine D7 (by omega) ?_
def d8n (s:ByteArray) (r:ByteArray × ByteArray):Prop:=r.1.size<=s.size - 1
theorem e6d (s:ByteArray) (hs:s.size<=140737488351232):∀k:Nat,k<=s.size ->Ex (d8n s) (a79 ((k:Int) - 1) s):=by
 intro k
 induction k with
 |zero=>exact fun _=>A9 (b1q _ _) (E7 (fun h=>absurd h (by omega)) fun _=>D6 (Nat.zero_le _))
 |succ k ih=>
  intro hk
  have e:wI (((k+1:Nat):Int) - 1 - 1)=(k:Int) - 1:=by rw [wI,D5 (by omega)]; omega
  refine A9 (b1q _ _) ?_
  rw [e]
  refine E7 (fun h=>D7 (by omega) (A8 _ (fun _=>D7 (by omega) (D7 ?_ (D6 ?_))) fun _=>ih (by omega))) fun h=>absurd (show (0:Int)<=((k+1:Nat):Int) - 1 by omega) h
  ·rw [wI,D5 (by omega)]; omega
  ·unfold d8n; simp only; rw [U6 _ (by omega)]; omega
theorem f6u (s:ByteArray) (hs:s.size<=140737488351232):Ex (d8n s) (b90 s):=by
 refine A9 (c5f _) ?_
 rw [wI,D5 (by omega)]
 exact e6d s hs s.size (Nat.le_refl _)
theorem f48 {s:ByteArray} (h:s.size=0):s=⟨#[]⟩:=ByteArray.ext (Array.eq_empty_of_size_eq_zero h)
theorem d7q:∀n:Nat,∀s:ByteArray,s.size<=n ->n<=140737488351232 ->Ex yes (a4r s):=by
 intro n
 induction n with
 |zero=>
  intro s h _
  refine A9 (a86 _) (N5 (fun h0=> ?_) fun _=>D6 trivial)
  exact absurd (f48 (by omega)) h0
 |succ n ih=>
  intro s h hn
  refine A9 (a86 _) (N5 (fun h0=> ?_) fun _=>D6 trivial)
  refine D8 (f6u s (by omega)) fun y hy=>D8 (f22 _) fun y2 _=>A8 _ (fun _=>D6 trivial) fun _=> ?_
  unfold d8n at hy
  exact ih _ (by omega) (by omega)
theorem c1p (s:ByteArray) (hs:s.size<=140737488351232):Ex yes (b0d s):=by
 refine A9 (c1r _) ?_
 repeat' first|exact D6 trivial|exact ih|assumption|exact d7q _ s (Nat.le_refl _) hs|refine C6 ?_|refine E7 (fun h=> ?_) (fun h=> ?_)|refine N5 (fun h=> ?_) (fun h=> ?_)|refine A8 _ (fun h=> ?_) (fun h=> ?_)|refine E3 (by omega) (fun y hy hm=> ?_)|refine D7 (by omega) ?_|refine D8 (g0r s hs) (fun y hq=> ?_)
theorem c6r (s:ByteArray) (hs:s.size<=140737488351232):Ex yes (b2d s):=by
 refine A9 (c4f _) ?_
 repeat' first|exact D6 trivial|exact ih|assumption|refine C6 ?_|refine E7 (fun h=> ?_) (fun h=> ?_)|refine N5 (fun h=> ?_) (fun h=> ?_)|refine A8 _ (fun h=> ?_) (fun h=> ?_)|refine E3 (by omega) (fun y hy hm=> ?_)|refine D7 (by omega) ?_|refine D8 (e3j s hs) (fun y hq=> ?_)|refine D8 (f22 s) (fun y hq=> ?_)
structure g4c (o:GOp):Prop where
 num:I64 o.Num
 name:Sz o.Name.size
 alias_:Sz o.Alias.size
 card:I64 o.Card
 key:I64 o.Key
 kind:I64 o.Kind
 target:I64 o.Target
 union:I64 o.Union
structure b7b (g:B6):Prop where
 name:Sz g.Name.size
 n:Sz g.Ops.length
 ops:∀o∈g.Ops,g4c o
 unions:I64 g.Unions
structure c8z (n:b1x):Prop where
 name:Sz n.Name.size
 val:OkD n.Val
structure e1w (x:b24):Prop where
 name:Sz x.Name.size
 num:I64 x.Num
 nn:Sz x.Notes.length
 notes:∀n∈x.Notes,c8z n
structure e64 (x:b9b):Prop where
 from_:I64 x.From
 to_:I64 x.To
structure b9k (e:V5):Prop where
 name:Sz e.Name.size
 ni:Sz e.Items.length
 items:∀x∈e.Items,e1w x
 nr:Sz e.Reserved.length
 reserved:∀x∈e.Reserved,e64 x
 nn:Sz e.Notes.length
 notes:∀x∈e.Notes,c8z x
structure b7z (p:A5):Prop where
 np:Sz p.Progs.length
 progs:∀g∈p.Progs,b7b g
 ne:Sz p.Enums.length
 enums:∀e∈p.Enums,b9k e
section
variable {n:Nat} {avs:List AV} {av:AV}
theorem f6q (h:Ty Tryz.prog n 151 avs):∃x,avs=a7d x /\ c8z x:=by
 obtain ⟨m,rfl,a1,b1,rfl,h1,a2,b2,rfl,h2,rfl⟩:=c80 (ts:=[9,35]) (by kernel_rfl) h
 obtain ⟨x1,rfl,k1⟩:=c16 (by kernel_rfl) h1
 obtain ⟨x2,rfl,k2⟩:=d9p _ _ h2
 exact ⟨⟨x1,x2⟩,by rw [T8]; rfl,⟨k1,k2⟩⟩
theorem d8t {t:TypeId} (hu:Tryz.prog.underlying t=some (.slice 151)) (h:Ty Tryz.prog n t avs):∃l:List b1x,avs=[.sl (l.map a7d) .no] /\ Sz l.length /\ ∀x∈l,c8z x:=e05 hu (of_decide_eq_true (by kernel_rfl)) (fun k a hk ha=>f6q ha) h
theorem f76 (h:Ty Tryz.prog n 115 avs):∃x,avs=a2e x /\ e1w x:=by
 obtain ⟨m,rfl,a1,b1,rfl,h1,a2,b2,rfl,h2,a3,b3,rfl,h3,rfl⟩:=c80 (ts:=[9,3,110]) (by kernel_rfl) h
 obtain ⟨x1,rfl,k1⟩:=c16 (by kernel_rfl) h1
 obtain ⟨x2,rfl,k2⟩:=b2b (by kernel_rfl) h2
 obtain ⟨x3,rfl,n3,k3⟩:=d8t (by kernel_rfl) h3
 exact ⟨⟨x1,x2,x3⟩,rfl,⟨k1,k2,n3,k3⟩⟩
theorem f7j (h:Ty Tryz.prog n 149 avs):∃x,avs=b1b x /\ e64 x:=by
 obtain ⟨m,rfl,a1,b1,rfl,h1,a2,b2,rfl,h2,rfl⟩:=c80 (ts:=[3,3]) (by kernel_rfl) h
 obtain ⟨x1,rfl,k1⟩:=b2b (by kernel_rfl) h1
 obtain ⟨x2,rfl,k2⟩:=b2b (by kernel_rfl) h2
 exact ⟨⟨x1,x2⟩,rfl,⟨k1,k2⟩⟩
theorem f79 (h:Ty Tryz.prog n 112 avs):∃x,avs=Q4 x /\ b9k x:=by
 obtain ⟨m,rfl,a1,b1,rfl,h1,a2,b2,rfl,h2,a3,b3,rfl,h3,a4,b4,rfl,h4,a5,b5,rfl,h5,rfl⟩:=c80 (ts:=[9,4,108,109,110]) (by kernel_rfl) h
 obtain ⟨x1,rfl,k1⟩:=c16 (by kernel_rfl) h1
 obtain ⟨x2,rfl⟩:=f54 (by kernel_rfl) h2
 obtain ⟨x3,rfl,n3,k3⟩:=e05 (e:=115) (enc:=a2e) (Ok:=e1w) (by kernel_rfl) (of_decide_eq_true (by kernel_rfl)) (fun k a hk ha=>f76 ha) h3
 obtain ⟨x4,rfl,n4,k4⟩:=e05 (e:=149) (enc:=b1b) (Ok:=e64) (by kernel_rfl) (of_decide_eq_true (by kernel_rfl)) (fun k a hk ha=>f7j ha) h4
 obtain ⟨x5,rfl,n5,k5⟩:=d8t (by kernel_rfl) h5
 exact ⟨⟨x1,x2,x3,x4,x5⟩,rfl,⟨k1,n3,k3,n4,k4,n5,k5⟩⟩
theorem g8v (h:Ty Tryz.prog n 38 avs):∃x,avs=W3 x /\ g4c x:=by
 obtain ⟨m,rfl,a1,b1,rfl,h1,a2,b2,rfl,h2,a3,b3,rfl,h3,a4,b4,rfl,h4,a5,b5,rfl,h5,a6,b6,rfl,h6,a7,b7,rfl,h7,a8,b8,rfl,h8,rfl⟩:=c80 (ts:=[3,9,9,3,3,3,3,3]) (by kernel_rfl) h
 obtain ⟨x1,rfl,k1⟩:=b2b (by kernel_rfl) h1
 obtain ⟨x2,rfl,k2⟩:=c16 (by kernel_rfl) h2
 obtain ⟨x3,rfl,k3⟩:=c16 (by kernel_rfl) h3
 obtain ⟨x4,rfl,k4⟩:=b2b (by kernel_rfl) h4
 obtain ⟨x5,rfl,k5⟩:=b2b (by kernel_rfl) h5
 obtain ⟨x6,rfl,k6⟩:=b2b (by kernel_rfl) h6
 obtain ⟨x7,rfl,k7⟩:=b2b (by kernel_rfl) h7
 obtain ⟨x8,rfl,k8⟩:=b2b (by kernel_rfl) h8
 exact ⟨⟨x1,x2,x3,x4,x5,x6,x7,x8⟩,rfl,⟨k1,k2,k3,k4,k5,k6,k7,k8⟩⟩
theorem f6l (h:Ty Tryz.prog n 41 avs):∃x,avs=E2 x /\ b7b x:=by
 obtain ⟨m,rfl,a1,b1,rfl,h1,a2,b2,rfl,h2,a3,b3,rfl,h3,rfl⟩:=c80 (ts:=[9,39,3]) (by kernel_rfl) h
 obtain ⟨x1,rfl,k1⟩:=c16 (by kernel_rfl) h1
 obtain ⟨x2,rfl,n2,k2⟩:=e05 (e:=38) (enc:=W3) (Ok:=g4c) (by kernel_rfl) (of_decide_eq_true (by kernel_rfl)) (fun k a hk ha=>g8v ha) h2
 obtain ⟨x3,rfl,k3⟩:=b2b (by kernel_rfl) h3
 exact ⟨⟨x1,x2,x3⟩,rfl,⟨k1,n2,k2,k3⟩⟩
theorem f7y (h:Ty Tryz.prog n 25 avs):∃x,avs=B7 x /\ b7z x:=by
 obtain ⟨m,rfl,a1,b1,rfl,h1,a2,b2,rfl,h2,rfl⟩:=c80 (ts:=[22,23]) (by kernel_rfl) h
 obtain ⟨x1,rfl,n1,k1⟩:=e05 (e:=41) (enc:=E2) (Ok:=b7b) (by kernel_rfl) (of_decide_eq_true (by kernel_rfl)) (fun k a hk ha=>f6l ha) h1
 obtain ⟨x2,rfl,n2,k2⟩:=e05 (e:=112) (enc:=Q4) (Ok:=b9k) (by kernel_rfl) (of_decide_eq_true (by kernel_rfl)) (fun k a hk ha=>f79 ha) h2
 exact ⟨⟨x1,x2⟩,rfl,⟨n1,k1,n2,k2⟩⟩
theorem h2i (h:TyV Tryz.prog n 25 av):∃x,av=.agg (B7 x) /\ b7z x:=by
 obtain ⟨avs,rfl,g⟩:=f3t (ts:=[22,23]) (by kernel_rfl) h
 obtain ⟨x,rfl,k⟩:=f7y g
 exact ⟨x,rfl,k⟩
end
structure OpF (p:A5) (o:GOp):Prop where
 card:1<=o.Card /\ o.Card<=5
 kind:1<=o.Kind /\ o.Kind<=10
 key:(o.Card≠5 ->o.Key=0) /\ (o.Card=5 ->(1<=o.Key /\ o.Key<=5)\/o.Key=7)
 msg:o.Kind=10 ->0<=o.Target /\ o.Target<p.Progs.length /\ o.Card≠3
 enum:o.Kind=9 ->0<=o.Target /\ o.Target<p.Enums.length
 other:o.Kind≠9 ->o.Kind≠10 ->o.Target= -1
 union:o.Union= -1\/o.Card=2
theorem E4 {n:Nat} (h:Sz n):n<=140737488351232:=h
theorem OkD.okv {v:A0} (h:OkD v):OkV v:=by
 cases h with
 |mk _ k b t l p s r=>exact ⟨l,p,s,r,t,b.1,b.2⟩
theorem f2t {α:Type} {l:List α} {i:Nat} (h:i<l.length):∃y,l[((i:Int)).toNat]? =some y /\ y∈l:=⟨l[i],by simp [h],List.getElem_mem h⟩
def Asc (l:List GOp) (n:Nat):Prop:=∀m x y,m+1<n ->l[m]? =some x ->l[m+1]? =some y ->x.Num<y.Num
theorem f2g {l:List GOp} {i:Nat} {x y:GOp} (h:Asc l i) (hx:l[i - 1]? =some x) (hy:l[i]? =some y) (hlt:x.Num<y.Num):Asc l (i+1):=by
 intro m x' y' hm h1 h2
 by_cases e:m+1=i
 ·have:m=i - 1:=by omega
  subst this
  rw [hx] at h1; cases h1
  rw [e,hy] at h2; cases h2
  exact hlt
 ·exact h m x' y' (by omega) h1 h2
theorem b1a {α:Type} {l:List α} {T:α ->Prop} {k:Nat} {g:α} (h:∀j g,j<k ->l[j]? =some g ->T g) (hg:l[k]? =some g) (ht:T g):∀j g,j<k+1 ->l[j]? =some g ->T g:=by
 intro j g' hj hj2
 by_cases e:j=k
 ·subst e; rw [hg] at hj2; cases hj2; exact ht
 ·exact h j g' (by omega) hj2
theorem b78 {α:Type} {l:List α} {T:α ->Prop} {k:Nat} (h:∀j g,j<k ->l[j]? =some g ->T g) (hk:l.length<=k):∀g∈l,T g:=by
 intro g hg
 obtain ⟨j,hj⟩:=List.mem_iff_getElem?.1 hg
 exact h j g (by have:=(List.getElem?_eq_some_iff.1 hj).1; omega) hj
section
variable (p:A5) (hp:b7z p)
 include hp
theorem f28:∀i:Nat,∀b,Ex yes (a20 (i:Int) b p):=by
 have b1:=E4 hp.np; have b2:=E4 hp.ne
 refine upn (p.Enums.length) (fun i hi ih b=> ?_) (fun i hi b=> ?_)
 ·refine A9 (a9w _ _ _) ?_
  try rw [U5 (by omega)]
  repeat' first|exact D6 trivial|exact ih|assumption|exact ih _|refine C6 ?_|refine E7 (fun h=> ?_) (fun h=> ?_)|refine N5 (fun h=> ?_) (fun h=> ?_)|refine A8 _ (fun h=> ?_) (fun h=> ?_)|refine E3 (by omega) (fun y hy hm=> ?_)|refine D7 (by omega) ?_
 ·refine A9 (a9w _ _ _) ?_
  repeat' first|exact D6 trivial|exact ih|assumption|exact ih _|exact absurd ‹_› (by omega)|(exfalso; omega)|refine C6 ?_|refine E7 (fun h=> ?_) (fun h=> ?_)|refine N5 (fun h=> ?_) (fun h=> ?_)|refine A8 _ (fun h=> ?_) (fun h=> ?_)|refine E3 (by omega) (fun y hy hm=> ?_)|refine D7 (by omega) ?_
theorem g0f:∀i:Nat,∀b,Ex yes (a22 (i:Int) b p):=by
 have b1:=E4 hp.np; have b2:=E4 hp.ne
 refine upn (p.Progs.length) (fun i hi ih b=> ?_) (fun i hi b=> ?_)
 ·refine A9 (a91 _ _ _) ?_
  try rw [U5 (by omega)]
  repeat' first|exact D6 trivial|exact ih|assumption|exact ih _|exact f28 p hp 0 _|refine C6 ?_|refine E7 (fun h=> ?_) (fun h=> ?_)|refine N5 (fun h=> ?_) (fun h=> ?_)|refine A8 _ (fun h=> ?_) (fun h=> ?_)|refine E3 (by omega) (fun y hy hm=> ?_)|refine D7 (by omega) ?_
 ·refine A9 (a91 _ _ _) ?_
  repeat' first|exact D6 trivial|exact ih|assumption|exact ih _|exact f28 p hp 0 _|exact absurd ‹_› (by omega)|(exfalso; omega)|refine C6 ?_|refine E7 (fun h=> ?_) (fun h=> ?_)|refine N5 (fun h=> ?_) (fun h=> ?_)|refine A8 _ (fun h=> ?_) (fun h=> ?_)|refine E3 (by omega) (fun y hy hm=> ?_)|refine D7 (by omega) ?_
theorem e9o:Ex yes (b7u p):=by
 refine A9 (c20 _) ?_
 exact g0f p hp 0 _
theorem e6i (k:Nat) (hk:k<p.Enums.length) (g:V5) (hg:p.Enums[((k:Int)).toNat]? =some g) (og:b9k g) (H:∀b,Ex yes (a2q ((k+1:Nat):Int) b p)):∀i:Nat,∀b,Ex yes (a2v (i:Int) b (k:Int) p):=by
 have b1:=E4 hp.np; have b2:=E4 hp.ne
 have b3:=E4 og.ni; have b4:=E4 og.nr
 refine upn (g.Items.length) (fun i hi ih b=> ?_) (fun i hi b=> ?_)
 ·refine A9 (a9z _ _ _ _) ?_
  try rw [U5 (by omega)]
  repeat' first|exact D6 trivial|exact ih|assumption|exact ih _|exact H _|refine a3d g hg (by omega) ?_|rw [U5 (by omega)]|refine C6 ?_|refine E7 (fun h=> ?_) (fun h=> ?_)|refine N5 (fun h=> ?_) (fun h=> ?_)|refine A8 _ (fun h=> ?_) (fun h=> ?_)|refine E3 (by omega) (fun y hy hm=> ?_)|refine D7 (by omega) ?_|refine D8 (c6r _ (og.items _ (by assumption)).name) (fun y hq=> ?_)
 ·refine A9 (a9z _ _ _ _) ?_
  repeat' first|exact D6 trivial|exact ih|assumption|exact ih _|exact H _|refine a3d g hg (by omega) ?_|rw [U5 (by omega)]|exact absurd ‹_› (by omega)|(exfalso; omega)|refine C6 ?_|refine E7 (fun h=> ?_) (fun h=> ?_)|refine N5 (fun h=> ?_) (fun h=> ?_)|refine A8 _ (fun h=> ?_) (fun h=> ?_)|refine E3 (by omega) (fun y hy hm=> ?_)|refine D7 (by omega) ?_|refine D8 (c6r _ (og.items _ (by assumption)).name) (fun y hq=> ?_)
theorem e1t:∀i:Nat,∀b,Ex yes (a2q (i:Int) b p):=by
 have b1:=E4 hp.np; have b2:=E4 hp.ne
 refine upn (p.Enums.length) (fun i hi ih b=> ?_) (fun i hi b=> ?_)
 ·obtain ⟨g,hg,gm⟩:=f2t hi
  refine A9 (a93 _ _ _) ?_
  try rw [U5 (by omega)]
  repeat' first|exact D6 trivial|exact ih|assumption|exact ih _|exact e6i p hp i hi g hg (hp.enums g gm) ih 0 _|refine a3d g hg (by omega) ?_|refine C6 ?_|refine E7 (fun h=> ?_) (fun h=> ?_)|refine N5 (fun h=> ?_) (fun h=> ?_)|refine A8 _ (fun h=> ?_) (fun h=> ?_)|refine E3 (by omega) (fun y hy hm=> ?_)|refine D7 (by omega) ?_|refine D8 (c1p _ (hp.enums g gm).name) (fun y hq=> ?_)
 ·refine A9 (a93 _ _ _) ?_
  repeat' first|exact D6 trivial|exact ih|assumption|exact ih _|exact e6i p hp i hi g hg (hp.enums g gm) ih 0 _|refine a3d g hg (by omega) ?_|exact absurd ‹_› (by omega)|(exfalso; omega)|refine C6 ?_|refine E7 (fun h=> ?_) (fun h=> ?_)|refine N5 (fun h=> ?_) (fun h=> ?_)|refine A8 _ (fun h=> ?_) (fun h=> ?_)|refine E3 (by omega) (fun y hy hm=> ?_)|refine D7 (by omega) ?_|refine D8 (c1p _ (hp.enums g gm).name) (fun y hq=> ?_)
theorem e5k (k:Nat) (hk:k<p.Progs.length) (g:B6) (hg:p.Progs[((k:Int)).toNat]? =some g) (og:b7b g) (H:∀b,Ex yes (a25 ((k+1:Nat):Int) b p)):∀i:Nat,∀b,Ex yes (a2p (i:Int) b (k:Int) p):=by
 have b1:=E4 hp.np; have b2:=E4 hp.ne
 have b3:=E4 og.n
 refine upn (g.Ops.length) (fun i hi ih b=> ?_) (fun i hi b=> ?_)
 ·refine A9 (a95 _ _ _ _) ?_
  try rw [U5 (by omega)]
  repeat' first|exact D6 trivial|exact ih|assumption|exact ih _|exact H _|refine a3d g hg (by omega) ?_|rw [U5 (by omega)]|refine C6 ?_|refine E7 (fun h=> ?_) (fun h=> ?_)|refine N5 (fun h=> ?_) (fun h=> ?_)|refine A8 _ (fun h=> ?_) (fun h=> ?_)|refine E3 (by omega) (fun y hy hm=> ?_)|refine D7 (by omega) ?_|refine D8 (c6r _ (og.ops _ (by assumption)).name) (fun y hq=> ?_)
 ·refine A9 (a95 _ _ _ _) ?_
  repeat' first|exact D6 trivial|exact ih|assumption|exact ih _|exact H _|refine a3d g hg (by omega) ?_|rw [U5 (by omega)]|exact absurd ‹_› (by omega)|(exfalso; omega)|refine C6 ?_|refine E7 (fun h=> ?_) (fun h=> ?_)|refine N5 (fun h=> ?_) (fun h=> ?_)|refine A8 _ (fun h=> ?_) (fun h=> ?_)|refine E3 (by omega) (fun y hy hm=> ?_)|refine D7 (by omega) ?_|refine D8 (c6r _ (og.ops _ (by assumption)).name) (fun y hq=> ?_)
theorem f7l:∀i:Nat,∀b,Ex yes (a25 (i:Int) b p):=by
 have b1:=E4 hp.np; have b2:=E4 hp.ne
 refine upn (p.Progs.length) (fun i hi ih b=> ?_) (fun i hi b=> ?_)
 ·obtain ⟨g,hg,gm⟩:=f2t hi
  refine A9 (a97 _ _ _) ?_
  try rw [U5 (by omega)]
  repeat' first|exact D6 trivial|exact ih|assumption|exact ih _|exact e5k p hp i hi g hg (hp.progs g gm) ih 0 _|exact e1t p hp 0 _|refine a3d g hg (by omega) ?_|refine C6 ?_|refine E7 (fun h=> ?_) (fun h=> ?_)|refine N5 (fun h=> ?_) (fun h=> ?_)|refine A8 _ (fun h=> ?_) (fun h=> ?_)|refine E3 (by omega) (fun y hy hm=> ?_)|refine D7 (by omega) ?_|refine D8 (c1p _ (hp.progs g gm).name) (fun y hq=> ?_)
 ·refine A9 (a97 _ _ _) ?_
  repeat' first|exact D6 trivial|exact ih|assumption|exact ih _|exact e5k p hp i hi g hg (hp.progs g gm) ih 0 _|exact e1t p hp 0 _|refine a3d g hg (by omega) ?_|exact absurd ‹_› (by omega)|(exfalso; omega)|refine C6 ?_|refine E7 (fun h=> ?_) (fun h=> ?_)|refine N5 (fun h=> ?_) (fun h=> ?_)|refine A8 _ (fun h=> ?_) (fun h=> ?_)|refine E3 (by omega) (fun y hy hm=> ?_)|refine D7 (by omega) ?_|refine D8 (c1p _ (hp.progs g gm).name) (fun y hq=> ?_)
theorem f50:Ex yes (c0f p):=by
 refine A9 (c5o _) ?_
 exact f7l p hp 0 _
theorem e5x (A:Prop) (k:Nat) (hk:k<p.Enums.length) (g:V5) (hg:p.Enums[((k:Int)).toNat]? =some g) (og:b9k g) (H:∀b,(b=true ->A) ->Ex (fun r=>r=true ->A) (a0s ((k+1:Nat):Int) b p)):∀i:Nat,1<=i ->∀b,(b=true ->A) ->Ex (fun r=>r=true ->A) (a0v (i:Int) b (k:Int) p):=by
 have b1:=E4 hp.np; have b2:=E4 hp.ne
 have b3:=E4 og.ni; have b4:=E4 og.nr
 refine upn (g.Items.length) (fun i hi ih h1 b hA=> ?_) (fun i hi h1 b hA=> ?_)
 ·refine A9 (a69 _ _ _ _) ?_
  try rw [U5 (by omega)]
  repeat' first|exact D6 (fun h=>by first|exact hA ‹_›|exact hA h|cases h)|exact ih|assumption|exact ih (by omega) _ (fun h=>by first|exact hA ‹_›|cases h)|exact H _ hA|refine a3d g hg (by omega) ?_|rw [U5 (by omega)]|rw [c68 (by omega)]|refine C6 ?_|refine E7 (fun h=> ?_) (fun h=> ?_)|refine N5 (fun h=> ?_) (fun h=> ?_)|refine A8 _ (fun h=> ?_) (fun h=> ?_)|refine E3 (by omega) (fun y hy hm=> ?_)|refine D7 (by omega) ?_
 ·refine A9 (a69 _ _ _ _) ?_
  repeat' first|exact D6 (fun h=>by first|exact hA ‹_›|exact hA h|cases h)|exact ih|assumption|exact ih (by omega) _ (fun h=>by first|exact hA ‹_›|cases h)|exact H _ hA|refine a3d g hg (by omega) ?_|rw [U5 (by omega)]|rw [c68 (by omega)]|exact absurd ‹_› (by omega)|(exfalso; omega)|refine C6 ?_|refine E7 (fun h=> ?_) (fun h=> ?_)|refine N5 (fun h=> ?_) (fun h=> ?_)|refine A8 _ (fun h=> ?_) (fun h=> ?_)|refine E3 (by omega) (fun y hy hm=> ?_)|refine D7 (by omega) ?_
theorem f6o (A:Prop):∀i:Nat,∀b,(b=true ->A) ->Ex (fun r=>r=true ->A) (a0s (i:Int) b p):=by
 have b1:=E4 hp.np; have b2:=E4 hp.ne
 refine upn (p.Enums.length) (fun i hi ih b hA=> ?_) (fun i hi b hA=> ?_)
 ·obtain ⟨g,hg,gm⟩:=f2t hi
  refine A9 (a7b _ _ _) ?_
  try rw [U5 (by omega)]
  repeat' first|exact D6 (fun h=>by first|exact hA ‹_›|exact hA h|cases h)|exact ih|assumption|exact e5x p hp A i hi g hg (hp.enums g gm) ih 1 (Nat.le_refl _) _ (fun h=>by first|exact hA ‹_›|cases h)|rw [c68 (by omega)]|refine C6 ?_|refine E7 (fun h=> ?_) (fun h=> ?_)|refine N5 (fun h=> ?_) (fun h=> ?_)|refine A8 _ (fun h=> ?_) (fun h=> ?_)|refine E3 (by omega) (fun y hy hm=> ?_)|refine D7 (by omega) ?_
 ·refine A9 (a7b _ _ _) ?_
  repeat' first|exact D6 (fun h=>by first|exact hA ‹_›|exact hA h|cases h)|exact ih|assumption|exact e5x p hp A i hi g hg (hp.enums g gm) ih 1 (Nat.le_refl _) _ (fun h=>by first|exact hA ‹_›|cases h)|rw [c68 (by omega)]|exact absurd ‹_› (by omega)|(exfalso; omega)|refine C6 ?_|refine E7 (fun h=> ?_) (fun h=> ?_)|refine N5 (fun h=> ?_) (fun h=> ?_)|refine A8 _ (fun h=> ?_) (fun h=> ?_)|refine E3 (by omega) (fun y hy hm=> ?_)|refine D7 (by omega) ?_
theorem f7n (k:Nat) (hk:k<p.Progs.length) (g:B6) (hg:p.Progs[((k:Int)).toNat]? =some g) (og:b7b g) (H:∀b,(b=true ->∀j g,j<k+1 ->p.Progs[j]? =some g ->Asc g.Ops g.Ops.length) ->Ex (fun r=>r=true ->∀g∈p.Progs,Asc g.Ops g.Ops.length) (a0o ((k+1:Nat):Int) b p)):
  ∀i:Nat,1<=i ->(i=1\/i<=g.Ops.length) ->∀b,(b=true ->(∀j g,j<k ->p.Progs[j]? =some g ->Asc g.Ops g.Ops.length) /\ Asc g.Ops i) ->Ex (fun r=>r=true ->∀g∈p.Progs,Asc g.Ops g.Ops.length) (X0 (i:Int) b (k:Int) p):=by
 have b1:=E4 hp.np; have b2:=E4 hp.ne
 have b3:=E4 og.n
 have e3:((k:Int)).toNat=k:=by omega
 refine upn g.Ops.length (fun i hi ih h1 hi2 b hA=> ?_) (fun i hi h1 hi2 b hA=> ?_)
 ·refine A9 (a7c _ _ _ _) (a3d g hg (by omega) (E7 (fun _=>A8 _ (fun hb=> ?_) (fun hb=> ?_)) fun h=>absurd (show (i:Int)<g.Ops.length by omega) h))
  ·rw [c68 (by omega),U5 (by omega)]
   refine a3d g hg (by omega) (E3 (by omega) fun x hx hm=>a3d g hg (by omega) (E3 (by omega) fun y hy hm2=>ih (by omega) (by omega) _ fun h=>⟨(hA hb).1, ?_⟩))
   have e1:(((i - 1:Nat):Int)).toNat=i - 1:=by omega
   have e2:((i:Int)).toNat=i:=by omega
   rw [e1] at hx; rw [e2] at hy
   exact f2g (hA hb).2 hx hy (of_decide_eq_true h)
  ·rw [U5 (by omega)]
   exact ih (by omega) (by omega) _ fun h=>by cases h
 ·refine A9 (a7c _ _ _ _) (a3d g hg (by omega) (E7 (fun h=>absurd h (by omega)) fun _=> ?_))
  rw [U5 (by omega)]
  refine H _ fun h=>b1a (hA h).1 (by rw [<-e3]; exact hg) ?_
  rcases hi2 with e|e
  ·intro m x y hm; omega
  ·have:i=g.Ops.length:=by omega
   rw [<-this]; exact (hA h).2
theorem f5v:∀i:Nat,i<=p.Progs.length ->∀b,(b=true ->∀j g,j<i ->p.Progs[j]? =some g ->Asc g.Ops g.Ops.length) ->Ex (fun r=>r=true ->∀g∈p.Progs,Asc g.Ops g.Ops.length) (a0o (i:Int) b p):=by
 have b1:=E4 hp.np; have b2:=E4 hp.ne
 have b1:=E4 hp.np; have b2:=E4 hp.ne
 refine upn p.Progs.length (fun i hi ih hle b hA=> ?_) (fun i hi hle b hA=> ?_)
 ·obtain ⟨g,hg,gm⟩:=f2t hi
  have fin:∀b',(b'=true ->b=true) ->Ex (fun r=>r=true ->∀g∈p.Progs,Asc g.Ops g.Ops.length) (X0 1 b' (i:Int) p):=fun b' hb'=>f7n p hp i hi g hg (hp.progs g gm) (fun b h=>ih (by omega) b h) 1 (Nat.le_refl _) (.inl rfl) b' fun h=>⟨hA (hb' h),fun m x y hm=>by omega⟩
  refine A9 (a7e _ _ _) (E7 (fun _=>C6 (A8 _ (fun hb=>C6 ?_) fun hb=>fin _ (fun h=>by cases h))) fun h=>absurd (show (i:Int)<p.Progs.length by omega) h)
  refine A8 _ (fun h=>fin _ fun _=>hb) fun h=> ?_
  have:0<i:=by simp at h; omega
  rw [c68 (by omega)]
  exact E3 (by omega) fun _ _ _=>E3 (by omega) fun _ _ _=>fin _ fun _=>hb
 ·refine A9 (a7e _ _ _) (E7 (fun h=>absurd h (by omega)) fun _=>f6o p hp _ 0 b fun h=>b78 (hA h) hi)
theorem e2d:Ex (fun r=>r=true ->∀g∈p.Progs,Asc g.Ops g.Ops.length) (b50 p):=
 A9 (c1k _) (f5v p hp 0 (Nat.zero_le _) true fun _ j g h=>by omega)
end
section
variable (p:A5) (hp:b7z p)
 include hp
theorem e5w (k:Nat) (g:V5) (og:b9k g) (m:Nat) (hm:m<g.Items.length) (H:∀b,Ex yes (a1f ((m+1:Nat):Int) g (k:Int) b p)):∀i:Nat,∀b,Ex yes (a1t (i:Int) (m:Int) g (k:Int) b p):=by
 have b1:=E4 hp.np; have b2:=E4 hp.ne
 have b3:=E4 og.ni; have b4:=E4 og.nr
 refine upn (m) (fun i hi ih b=> ?_) (fun i hi b=> ?_)
 ·refine A9 (a88 _ _ _ _ _ _) ?_
  try rw [U5 (by omega)]
  repeat' first|exact D6 trivial|exact ih|assumption|exact ih _|rw [U5 (by omega)]|exact H _|refine C6 ?_|refine E7 (fun h=> ?_) (fun h=> ?_)|refine N5 (fun h=> ?_) (fun h=> ?_)|refine A8 _ (fun h=> ?_) (fun h=> ?_)|refine E3 (by omega) (fun y hy hm=> ?_)|refine D7 (by omega) ?_
 ·refine A9 (a88 _ _ _ _ _ _) ?_
  repeat' first|exact D6 trivial|exact ih|assumption|exact ih _|rw [U5 (by omega)]|exact H _|exact absurd ‹_› (by omega)|(exfalso; omega)|refine C6 ?_|refine E7 (fun h=> ?_) (fun h=> ?_)|refine N5 (fun h=> ?_) (fun h=> ?_)|refine A8 _ (fun h=> ?_) (fun h=> ?_)|refine E3 (by omega) (fun y hy hm=> ?_)|refine D7 (by omega) ?_
theorem e7h (k:Nat) (g:V5) (og:b9k g) (H:∀b,Ex yes (a1r ((k+1:Nat):Int) b p)) (hk:k<p.Enums.length):∀i:Nat,∀b,Ex yes (a1f (i:Int) g (k:Int) b p):=by
 have b1:=E4 hp.np; have b2:=E4 hp.ne
 have b3:=E4 og.ni; have b4:=E4 og.nr
 refine upn (g.Items.length) (fun i hi ih b=> ?_) (fun i hi b=> ?_)
 ·refine A9 (a8t _ _ _ _ _) ?_
  try rw [U5 (by omega)]
  repeat' first|exact D6 trivial|exact ih|assumption|exact ih _|exact e5w p hp k g og i hi ih 0 _|rw [U5 (by omega)]|exact H _|refine C6 ?_|refine E7 (fun h=> ?_) (fun h=> ?_)|refine N5 (fun h=> ?_) (fun h=> ?_)|refine A8 _ (fun h=> ?_) (fun h=> ?_)|refine E3 (by omega) (fun y hy hm=> ?_)|refine D7 (by omega) ?_
 ·refine A9 (a8t _ _ _ _ _) ?_
  repeat' first|exact D6 trivial|exact ih|assumption|exact ih _|exact e5w p hp k g og i hi ih 0 _|rw [U5 (by omega)]|exact H _|exact absurd ‹_› (by omega)|(exfalso; omega)|refine C6 ?_|refine E7 (fun h=> ?_) (fun h=> ?_)|refine N5 (fun h=> ?_) (fun h=> ?_)|refine A8 _ (fun h=> ?_) (fun h=> ?_)|refine E3 (by omega) (fun y hy hm=> ?_)|refine D7 (by omega) ?_
theorem e6w:∀i:Nat,∀b,Ex yes (a1r (i:Int) b p):=by
 have b1:=E4 hp.np; have b2:=E4 hp.ne
 refine upn (p.Enums.length) (fun i hi ih b=> ?_) (fun i hi b=> ?_)
 ·refine A9 (a9i _ _ _) ?_
  try rw [U5 (by omega)]
  repeat' first|exact D6 trivial|exact ih|assumption|exact ih _|exact e7h p hp i _ (hp.enums _ ‹_›) ih hi 0 _|refine C6 ?_|refine E7 (fun h=> ?_) (fun h=> ?_)|refine N5 (fun h=> ?_) (fun h=> ?_)|refine A8 _ (fun h=> ?_) (fun h=> ?_)|refine E3 (by omega) (fun y hy hm=> ?_)|refine D7 (by omega) ?_
 ·refine A9 (a9i _ _ _) ?_
  repeat' first|exact D6 trivial|exact ih|assumption|exact ih _|exact e7h p hp i _ (hp.enums _ ‹_›) ih hi 0 _|exact absurd ‹_› (by omega)|(exfalso; omega)|refine C6 ?_|refine E7 (fun h=> ?_) (fun h=> ?_)|refine N5 (fun h=> ?_) (fun h=> ?_)|refine A8 _ (fun h=> ?_) (fun h=> ?_)|refine E3 (by omega) (fun y hy hm=> ?_)|refine D7 (by omega) ?_
theorem e8i (k:Nat) (g:B6) (og:b7b g) (m:Nat) (hm:m<g.Ops.length) (H:∀b,Ex yes (a1k ((m+1:Nat):Int) g (k:Int) b p)):∀i:Nat,∀b,Ex yes (a1v (i:Int) (m:Int) g (k:Int) b p):=by
 have b1:=E4 hp.np; have b2:=E4 hp.ne
 have b3:=E4 og.n
 refine upn (m) (fun i hi ih b=> ?_) (fun i hi b=> ?_)
 ·refine A9 (a9d _ _ _ _ _ _) ?_
  try rw [U5 (by omega)]
  repeat' first|exact D6 trivial|exact ih|assumption|exact ih _|rw [U5 (by omega)]|exact H _|refine C6 ?_|refine E7 (fun h=> ?_) (fun h=> ?_)|refine N5 (fun h=> ?_) (fun h=> ?_)|refine A8 _ (fun h=> ?_) (fun h=> ?_)|refine E3 (by omega) (fun y hy hm=> ?_)|refine D7 (by omega) ?_
 ·refine A9 (a9d _ _ _ _ _ _) ?_
  repeat' first|exact D6 trivial|exact ih|assumption|exact ih _|rw [U5 (by omega)]|exact H _|exact absurd ‹_› (by omega)|(exfalso; omega)|refine C6 ?_|refine E7 (fun h=> ?_) (fun h=> ?_)|refine N5 (fun h=> ?_) (fun h=> ?_)|refine A8 _ (fun h=> ?_) (fun h=> ?_)|refine E3 (by omega) (fun y hy hm=> ?_)|refine D7 (by omega) ?_
theorem e54 (k:Nat) (g:B6) (og:b7b g) (H:∀b,Ex yes (Y7 ((k+1:Nat):Int) b p)) (hk:k<p.Progs.length):∀i:Nat,∀b,Ex yes (a1k (i:Int) g (k:Int) b p):=by
 have b1:=E4 hp.np; have b2:=E4 hp.ne
 have b3:=E4 og.n
 refine upn (g.Ops.length) (fun i hi ih b=> ?_) (fun i hi b=> ?_)
 ·refine A9 (a9j _ _ _ _ _) ?_
  try rw [U5 (by omega)]
  repeat' first|exact D6 trivial|exact ih|assumption|exact ih _|exact e8i p hp k g og i hi ih 0 _|rw [U5 (by omega)]|exact H _|refine C6 ?_|refine E7 (fun h=> ?_) (fun h=> ?_)|refine N5 (fun h=> ?_) (fun h=> ?_)|refine A8 _ (fun h=> ?_) (fun h=> ?_)|refine E3 (by omega) (fun y hy hm=> ?_)|refine D7 (by omega) ?_
 ·refine A9 (a9j _ _ _ _ _) ?_
  repeat' first|exact D6 trivial|exact ih|assumption|exact ih _|exact e8i p hp k g og i hi ih 0 _|rw [U5 (by omega)]|exact H _|exact absurd ‹_› (by omega)|(exfalso; omega)|refine C6 ?_|refine E7 (fun h=> ?_) (fun h=> ?_)|refine N5 (fun h=> ?_) (fun h=> ?_)|refine A8 _ (fun h=> ?_) (fun h=> ?_)|refine E3 (by omega) (fun y hy hm=> ?_)|refine D7 (by omega) ?_
theorem e5n (k:Nat) (hk:k<p.Progs.length) (H:∀b,Ex yes (Y7 ((k+1:Nat):Int) b p)):∀i:Nat,∀b,Ex yes (a1m (i:Int) (k:Int) b p):=by
 have b1:=E4 hp.np; have b2:=E4 hp.ne
 refine upn (p.Enums.length) (fun i hi ih b=> ?_) (fun i hi b=> ?_)
 ·refine A9 (a8u _ _ _ _) ?_
  try rw [U5 (by omega)]
  repeat' first|exact D6 trivial|exact ih|assumption|exact ih _|exact e54 p hp k _ (hp.progs _ ‹_›) H hk 0 _|refine C6 ?_|refine E7 (fun h=> ?_) (fun h=> ?_)|refine N5 (fun h=> ?_) (fun h=> ?_)|refine A8 _ (fun h=> ?_) (fun h=> ?_)|refine E3 (by omega) (fun y hy hm=> ?_)|refine D7 (by omega) ?_
 ·refine A9 (a8u _ _ _ _) ?_
  repeat' first|exact D6 trivial|exact ih|assumption|exact ih _|exact e54 p hp k _ (hp.progs _ ‹_›) H hk 0 _|exact absurd ‹_› (by omega)|(exfalso; omega)|refine C6 ?_|refine E7 (fun h=> ?_) (fun h=> ?_)|refine N5 (fun h=> ?_) (fun h=> ?_)|refine A8 _ (fun h=> ?_) (fun h=> ?_)|refine E3 (by omega) (fun y hy hm=> ?_)|refine D7 (by omega) ?_
theorem f51:∀i:Nat,∀b,Ex yes (Y7 (i:Int) b p):=by
 have b1:=E4 hp.np; have b2:=E4 hp.ne
 refine upn (p.Progs.length) (fun i hi ih b=> ?_) (fun i hi b=> ?_)
 ·refine A9 (a85 _ _ _) ?_
  try rw [U5 (by omega)]
  repeat' first|exact D6 trivial|exact ih|assumption|exact ih _|exact e5n p hp i hi ih 0 _|exact e6w p hp 0 _|refine C6 ?_|refine E7 (fun h=> ?_) (fun h=> ?_)|refine N5 (fun h=> ?_) (fun h=> ?_)|refine A8 _ (fun h=> ?_) (fun h=> ?_)|refine E3 (by omega) (fun y hy hm=> ?_)|refine D7 (by omega) ?_
 ·refine A9 (a85 _ _ _) ?_
  repeat' first|exact D6 trivial|exact ih|assumption|exact ih _|exact e5n p hp i hi ih 0 _|exact e6w p hp 0 _|exact absurd ‹_› (by omega)|(exfalso; omega)|refine C6 ?_|refine E7 (fun h=> ?_) (fun h=> ?_)|refine N5 (fun h=> ?_) (fun h=> ?_)|refine A8 _ (fun h=> ?_) (fun h=> ?_)|refine E3 (by omega) (fun y hy hm=> ?_)|refine D7 (by omega) ?_
theorem e9j:Ex yes (b7q p):=A9 (c30 _) (f51 p hp 0 _)
theorem f8t (l:List b9b) (hl:Sz l.length) (n:Int):∀i:Nat,Ex yes (a0u (i:Int) l n):=by
 have b1:=E4 hp.np; have b2:=E4 hp.ne
 have b1:=E4 hl
 refine upn (l.length) (fun i hi ih=> ?_) (fun i hi=> ?_)
 ·refine A9 (a68 _ _ _) ?_
  rw [U5 (by omega)]
  repeat' first|exact D6 trivial|exact ih|assumption|refine C6 ?_|refine E7 (fun h=> ?_) (fun h=> ?_)|refine N5 (fun h=> ?_) (fun h=> ?_)|refine A8 _ (fun h=> ?_) (fun h=> ?_)|refine E3 (by omega) (fun y hy hm=> ?_)|refine D7 (by omega) ?_
 ·refine A9 (a68 _ _ _) ?_
  repeat' first|exact D6 trivial|exact ih|assumption|exact absurd ‹_› (by omega)|(exfalso; omega)|refine C6 ?_|refine E7 (fun h=> ?_) (fun h=> ?_)|refine N5 (fun h=> ?_) (fun h=> ?_)|refine A8 _ (fun h=> ?_) (fun h=> ?_)|refine E3 (by omega) (fun y hy hm=> ?_)|refine D7 (by omega) ?_
theorem g3v (l:List b9b) (hl:Sz l.length) (n:Int):Ex yes (b25 l n):=A9 (b9r _ _) (f8t p hp l hl n 0)
theorem e7m (A:Prop) (k:Nat) (hk:k<p.Enums.length) (g:V5) (og:b9k g) (H:∀b,(b=true ->A) ->Ex (fun r=>r=true ->A) (Y5 ((k+1:Nat):Int) b p)):∀i:Nat,∀b,(b=true ->A) ->Ex (fun r=>r=true ->A) (Y9 (i:Int) (k:Int) b p g):=by
 have b1:=E4 hp.np; have b2:=E4 hp.ne
 have b3:=E4 og.ni; have b4:=E4 og.nr
 refine upn (g.Reserved.length) (fun i hi ih b hA=> ?_) (fun i hi b hA=> ?_)
 ·refine A9 (a9k _ _ _ _ _) ?_
  try rw [U5 (by omega)]
  repeat' first|exact D6 (fun h=>by first|exact hA ‹_›|exact hA h|cases h)|exact ih|assumption|exact ih _ (fun h=>hA (by simp only [Bool.and_eq_true] at*; simp [*]))|exact ih _ (fun h=>by cases h)|rw [U5 (by omega)]|exact H _ hA|rw [c68 (by omega)]|refine C6 ?_|refine E7 (fun h=> ?_) (fun h=> ?_)|refine N5 (fun h=> ?_) (fun h=> ?_)|refine A8 _ (fun h=> ?_) (fun h=> ?_)|refine E3 (by omega) (fun y hy hm=> ?_)|refine D7 (by omega) ?_
 ·refine A9 (a9k _ _ _ _ _) ?_
  repeat' first|exact D6 (fun h=>by first|exact hA ‹_›|exact hA h|cases h)|exact ih|assumption|exact ih _ (fun h=>hA (by simp only [Bool.and_eq_true] at*; simp [*]))|exact ih _ (fun h=>by cases h)|rw [U5 (by omega)]|exact H _ hA|rw [c68 (by omega)]|exact absurd ‹_› (by omega)|(exfalso; omega)|refine C6 ?_|refine E7 (fun h=> ?_) (fun h=> ?_)|refine N5 (fun h=> ?_) (fun h=> ?_)|refine A8 _ (fun h=> ?_) (fun h=> ?_)|refine E3 (by omega) (fun y hy hm=> ?_)|refine D7 (by omega) ?_
theorem e4h (A:Prop) (k:Nat) (hk:k<p.Enums.length) (g:V5) (og:b9k g) (H:∀b,(b=true ->A) ->Ex (fun r=>r=true ->A) (Y5 ((k+1:Nat):Int) b p)):∀i:Nat,∀b,(b=true ->A) ->Ex (fun r=>r=true ->A) (a1n (i:Int) (k:Int) b p g):=by
 have b1:=E4 hp.np; have b2:=E4 hp.ne
 have b3:=E4 og.ni; have b4:=E4 og.nr
 refine upn (g.Items.length) (fun i hi ih b hA=> ?_) (fun i hi b hA=> ?_)
 ·refine A9 (a8p _ _ _ _ _) ?_
  try rw [U5 (by omega)]
  repeat' first|exact D6 (fun h=>by first|exact hA ‹_›|exact hA h|cases h)|exact ih|assumption|exact ih _ (fun h=>hA (by simp only [Bool.and_eq_true] at*; simp [*]))|exact ih _ (fun h=>by cases h)|exact e7m p hp A k hk g og H 0 _ hA|refine C6 ?_|refine E7 (fun h=> ?_) (fun h=> ?_)|refine N5 (fun h=> ?_) (fun h=> ?_)|refine A8 _ (fun h=> ?_) (fun h=> ?_)|refine E3 (by omega) (fun y hy hm=> ?_)|refine D7 (by omega) ?_|refine D8 (g3v p hp _ og.nr _) (fun y hq=> ?_)
 ·refine A9 (a8p _ _ _ _ _) ?_
  repeat' first|exact D6 (fun h=>by first|exact hA ‹_›|exact hA h|cases h)|exact ih|assumption|exact ih _ (fun h=>hA (by simp only [Bool.and_eq_true] at*; simp [*]))|exact ih _ (fun h=>by cases h)|exact e7m p hp A k hk g og H 0 _ hA|exact absurd ‹_› (by omega)|(exfalso; omega)|refine C6 ?_|refine E7 (fun h=> ?_) (fun h=> ?_)|refine N5 (fun h=> ?_) (fun h=> ?_)|refine A8 _ (fun h=> ?_) (fun h=> ?_)|refine E3 (by omega) (fun y hy hm=> ?_)|refine D7 (by omega) ?_|refine D8 (g3v p hp _ og.nr _) (fun y hq=> ?_)
theorem f5r (A:Prop):∀i:Nat,∀b,(b=true ->A) ->Ex (fun r=>r=true ->A) (Y5 (i:Int) b p):=by
 have b1:=E4 hp.np; have b2:=E4 hp.ne
 refine upn (p.Enums.length) (fun i hi ih b hA=> ?_) (fun i hi b hA=> ?_)
 ·refine A9 (a8l _ _ _) ?_
  try rw [U5 (by omega)]
  repeat' first|exact D6 (fun h=>by first|exact hA ‹_›|exact hA h|cases h)|exact ih|assumption|exact e4h p hp A i hi _ (hp.enums _ ‹_›) ih 0 _ hA|refine C6 ?_|refine E7 (fun h=> ?_) (fun h=> ?_)|refine N5 (fun h=> ?_) (fun h=> ?_)|refine A8 _ (fun h=> ?_) (fun h=> ?_)|refine E3 (by omega) (fun y hy hm=> ?_)|refine D7 (by omega) ?_
 ·refine A9 (a8l _ _ _) ?_
  repeat' first|exact D6 (fun h=>by first|exact hA ‹_›|exact hA h|cases h)|exact ih|assumption|exact e4h p hp A i hi _ (hp.enums _ ‹_›) ih 0 _ hA|exact absurd ‹_› (by omega)|(exfalso; omega)|refine C6 ?_|refine E7 (fun h=> ?_) (fun h=> ?_)|refine N5 (fun h=> ?_) (fun h=> ?_)|refine A8 _ (fun h=> ?_) (fun h=> ?_)|refine E3 (by omega) (fun y hy hm=> ?_)|refine D7 (by omega) ?_
def f0x (o:GOp):Prop:=1<=o.Num /\ o.Num<=65535
theorem f73 (k:Nat) (hk:k<p.Progs.length) (g:B6) (hg:p.Progs[((k:Int)).toNat]? =some g) (og:b7b g) (H:∀b,(b=true ->∀j g,j<k+1 ->p.Progs[j]? =some g ->∀o∈g.Ops,f0x o) ->Ex (fun r=>r=true ->∀g∈p.Progs,∀o∈g.Ops,f0x o) (a1p ((k+1:Nat):Int) b p)):
  ∀i:Nat,∀b,(b=true ->(∀j g,j<k ->p.Progs[j]? =some g ->∀o∈g.Ops,f0x o) /\ ∀j o,j<i ->g.Ops[j]? =some o ->f0x o) ->Ex (fun r=>r=true ->∀g∈p.Progs,∀o∈g.Ops,f0x o) (a4p (i:Int) (k:Int) b p):=by
 have b1:=E4 hp.np; have b2:=E4 hp.ne
 have b3:=E4 og.n
 have e3:((k:Int)).toNat=k:=by omega
 refine upn g.Ops.length (fun i hi ih b hA=> ?_) (fun i hi b hA=> ?_)
 ·refine A9 (a89 _ _ _ _) (a3d g hg (by omega) (E7 (fun _=>a3d g hg (by omega) (E3 (by omega) fun y hy hm=> ?_)) fun h=>absurd (show (i:Int)<g.Ops.length by omega) h))
  rw [U5 (by omega)]
  refine ih _ fun h=> ?_
  simp only [Bool.and_eq_true,decide_eq_true_eq] at h
  have e2:((i:Int)).toNat=i:=by omega
  rw [e2] at hy
  exact ⟨(hA h.1.1).1,b1a (hA h.1.1).2 hy ⟨h.1.2,h.2⟩⟩
 ·refine A9 (a89 _ _ _ _) (a3d g hg (by omega) (E7 (fun h=>absurd h (by omega)) fun _=> ?_))
  rw [U5 (by omega)]
  exact H _ fun h=>b1a (hA h).1 (by rw [<-e3]; exact hg) (b78 (hA h).2 hi)
theorem f5d:∀i:Nat,∀b,(b=true ->∀j g,j<i ->p.Progs[j]? =some g ->∀o∈g.Ops,f0x o) ->Ex (fun r=>r=true ->∀g∈p.Progs,∀o∈g.Ops,f0x o) (a1p (i:Int) b p):=by
 have b1:=E4 hp.np; have b2:=E4 hp.ne
 have b1:=E4 hp.np; have b2:=E4 hp.ne
 refine upn p.Progs.length (fun i hi ih b hA=> ?_) (fun i hi b hA=> ?_)
 ·obtain ⟨g,hg,gm⟩:=f2t hi
  exact A9 (a8x _ _ _) (E7 (fun _=>f73 p hp i hi g hg (hp.progs g gm) ih 0 b fun h=>⟨hA h,fun j o hj=>by omega⟩) fun h=>absurd (show (i:Int)<p.Progs.length by omega) h)
 ·exact A9 (a8x _ _ _) (E7 (fun h=>absurd h (by omega)) fun _=>f5r p hp _ 0 b fun h=>b78 (hA h) hi)
theorem f13:Ex (fun r=>r=true ->∀g∈p.Progs,∀o∈g.Ops,f0x o) (b76 p):=A9 (c4k _) (f5d p hp 0 true fun _ j g h=>by omega)
end
theorem f09 (b:Bool) (s:ByteArray):Ex yes (a1w b s):=by
 refine A9 (c0p _ _) ?_
 repeat' first|exact D6 trivial|exact ih|assumption|refine C6 ?_|refine E7 (fun h=> ?_) (fun h=> ?_)|refine N5 (fun h=> ?_) (fun h=> ?_)|refine A8 _ (fun h=> ?_) (fun h=> ?_)|refine E3 (by omega) (fun y hy hm=> ?_)|refine D7 (by omega) ?_
theorem e9z (b:Bool) (s:ByteArray):Ex yes (a1y b s):=by
 refine A9 (c0i _ _) ?_
 repeat' first|exact D6 trivial|exact ih|assumption|exact f09 _ s|refine C6 ?_|refine E7 (fun h=> ?_) (fun h=> ?_)|refine N5 (fun h=> ?_) (fun h=> ?_)|refine A8 _ (fun h=> ?_) (fun h=> ?_)|refine E3 (by omega) (fun y hy hm=> ?_)|refine D7 (by omega) ?_
theorem f8k (b:Bool) (s:ByteArray):Ex yes (a6j b s):=by
 refine A9 (c2t _ _) ?_
 repeat' first|exact D6 trivial|exact ih|assumption|exact e9z _ s|refine C6 ?_|refine E7 (fun h=> ?_) (fun h=> ?_)|refine N5 (fun h=> ?_) (fun h=> ?_)|refine A8 _ (fun h=> ?_) (fun h=> ?_)|refine E3 (by omega) (fun y hy hm=> ?_)|refine D7 (by omega) ?_
theorem e4b (s:ByteArray):Ex yes (b8o s):=by
 refine A9 (c7y _) ?_
 repeat' first|exact D6 trivial|exact ih|assumption|exact f8k _ s|refine C6 ?_|refine E7 (fun h=> ?_) (fun h=> ?_)|refine N5 (fun h=> ?_) (fun h=> ?_)|refine A8 _ (fun h=> ?_) (fun h=> ?_)|refine E3 (by omega) (fun y hy hm=> ?_)|refine D7 (by omega) ?_
theorem f6m (b:Bool) (t:Int):Ex yes (a4m b t):=by
 refine A9 (b91 _ _) ?_
 repeat' first|exact D6 trivial|exact ih|assumption|refine C6 ?_|refine E7 (fun h=> ?_) (fun h=> ?_)|refine N5 (fun h=> ?_) (fun h=> ?_)|refine A8 _ (fun h=> ?_) (fun h=> ?_)|refine E3 (by omega) (fun y hy hm=> ?_)|refine D7 (by omega) ?_
theorem f49 (b:Bool) (s:ByteArray) (t:Int):Ex yes (a1x b s t):=by
 refine A9 (b93 _ _ _) ?_
 repeat' first|exact D6 trivial|exact ih|assumption|exact f6m _ t|refine C6 ?_|refine E7 (fun h=> ?_) (fun h=> ?_)|refine N5 (fun h=> ?_) (fun h=> ?_)|refine A8 _ (fun h=> ?_) (fun h=> ?_)|refine E3 (by omega) (fun y hy hm=> ?_)|refine D7 (by omega) ?_
theorem f77 (b:Bool) (s:ByteArray) (t:Int):Ex yes (a4k b s t):=by
 refine A9 (c0j _ _ _) ?_
 repeat' first|exact D6 trivial|exact ih|assumption|exact f49 _ s t|refine C6 ?_|refine E7 (fun h=> ?_) (fun h=> ?_)|refine N5 (fun h=> ?_) (fun h=> ?_)|refine A8 _ (fun h=> ?_) (fun h=> ?_)|refine E3 (by omega) (fun y hy hm=> ?_)|refine D7 (by omega) ?_
theorem f4w (b:Bool) (s:ByteArray) (t:Int):Ex yes (a8j b s t):=by
 refine A9 (b99 _ _ _) ?_
 repeat' first|exact D6 trivial|exact ih|assumption|exact f77 _ s t|refine C6 ?_|refine E7 (fun h=> ?_) (fun h=> ?_)|refine N5 (fun h=> ?_) (fun h=> ?_)|refine A8 _ (fun h=> ?_) (fun h=> ?_)|refine E3 (by omega) (fun y hy hm=> ?_)|refine D7 (by omega) ?_
theorem g0k (s:ByteArray) (t:Int):Ex yes (c3r s t):=by
 refine A9 (c7m _ _) ?_
 repeat' first|exact D6 trivial|exact ih|assumption|exact f4w _ s t|refine C6 ?_|refine E7 (fun h=> ?_) (fun h=> ?_)|refine N5 (fun h=> ?_) (fun h=> ?_)|refine A8 _ (fun h=> ?_) (fun h=> ?_)|refine E3 (by omega) (fun y hy hm=> ?_)|refine D7 (by omega) ?_
theorem e3h (n:b1x) (hn:c8z n):Ex yes (c0v n):=by
 refine A9 (c5d _) ?_
 repeat' first|exact D6 trivial|exact ih|assumption|refine c1u (e90 _ _ hn.val.okv) ?_|refine C6 ?_|refine E7 (fun h=> ?_) (fun h=> ?_)|refine N5 (fun h=> ?_) (fun h=> ?_)|refine A8 _ (fun h=> ?_) (fun h=> ?_)|refine E3 (by omega) (fun y hy hm=> ?_)|refine D7 (by omega) ?_|refine D8 (e4b _) (fun y hq=> ?_)
theorem f8c (l:List b1x) (hl:Sz l.length) (hn:∀n∈l,c8z n) (t:Int):∀i:Nat,Ex yes (a4b (i:Int) l t):=by
 have b1:=E4 hl
 refine upn (l.length) (fun i hi ih=> ?_) (fun i hi=> ?_)
 ·refine A9 (b1v _ _ _) ?_
  rw [U5 (by omega)]
  repeat' first|exact D6 trivial|exact ih|assumption|rw [c68 (by omega)]|refine C6 ?_|refine E7 (fun h=> ?_) (fun h=> ?_)|refine N5 (fun h=> ?_) (fun h=> ?_)|refine A8 _ (fun h=> ?_) (fun h=> ?_)|refine E3 (by omega) (fun y hy hm=> ?_)|refine D7 (by omega) ?_|refine D8 (e4b _) (fun y hq=> ?_)|refine D8 (g0k _ _) (fun y hq=> ?_)|refine D8 (e3h _ (hn _ (by assumption))) (fun y hq=> ?_)
 ·refine A9 (b1v _ _ _) ?_
  repeat' first|exact D6 trivial|exact ih|assumption|rw [c68 (by omega)]|exact absurd ‹_› (by omega)|(exfalso; omega)|refine C6 ?_|refine E7 (fun h=> ?_) (fun h=> ?_)|refine N5 (fun h=> ?_) (fun h=> ?_)|refine A8 _ (fun h=> ?_) (fun h=> ?_)|refine E3 (by omega) (fun y hy hm=> ?_)|refine D7 (by omega) ?_|refine D8 (e4b _) (fun y hq=> ?_)|refine D8 (g0k _ _) (fun y hq=> ?_)|refine D8 (e3h _ (hn _ (by assumption))) (fun y hq=> ?_)
theorem g1q (l:List b1x) (hl:Sz l.length) (hn:∀n∈l,c8z n) (t:Int):Ex yes (c0a l t):=by
 refine A9 (c5l _ _) ?_
 repeat' first|exact D6 trivial|exact ih|assumption|exact f8c l hl hn t 0|refine C6 ?_|refine E7 (fun h=> ?_) (fun h=> ?_)|refine N5 (fun h=> ?_) (fun h=> ?_)|refine A8 _ (fun h=> ?_) (fun h=> ?_)|refine E3 (by omega) (fun y hy hm=> ?_)|refine D7 (by omega) ?_
theorem f1r (p:A5) (o:GOp):Ex (fun r=>r=true ->(o.Kind=10 ->0<=o.Target /\ o.Target<p.Progs.length /\ o.Card≠3) /\ (o.Kind=9 ->0<=o.Target /\ o.Target<p.Enums.length) /\ (o.Kind≠9 ->o.Kind≠10 ->o.Target= -1)) (b70 p o):=by
 refine A9 (c4h _ _) (A8 _ (fun h=>D6 fun h2=> ?_) fun h=>A8 _ (fun h3=>D6 fun h2=> ?_) fun h3=>D6 fun h2=> ?_)
 all_goals simp only [Bool.and_eq_true,decide_eq_true_eq,bne_iff_ne,beq_iff_eq,beq_eq_false_iff_ne,ne_eq] at*
 ·exact ⟨fun _=>⟨h2.1.1,h2.1.2,h2.2⟩,fun h=>by omega,fun h=>by omega⟩
 ·exact ⟨fun h=>by omega,fun _=>h2,fun h=>by omega⟩
 ·exact ⟨fun h=>by omega,fun h=>by omega,fun _ _=>h2⟩
theorem e3t (p:A5) (o:GOp) (b:Bool):Ex (fun r=>r=true ->b=true /\ (o.Kind=10 ->0<=o.Target /\ o.Target<p.Progs.length /\ o.Card≠3) /\ (o.Kind=9 ->0<=o.Target /\ o.Target<p.Enums.length) /\ (o.Kind≠9 ->o.Kind≠10 ->o.Target= -1) /\ (o.Union= -1\/o.Card=2)) (a13 b p o):=by
 refine A9 (b5m _ _ _) (C6 (A8 _ (fun h=>D8 (f1r p o) fun y hy=>D6 fun h2=> ?_) fun h=>D6 fun h2=> ?_))
 ·simp only [Bool.and_eq_true,Bool.or_eq_true,beq_iff_eq] at h2
  obtain ⟨a1,a2,a3⟩:=hy h2.1
  exact ⟨h,a1,a2,a3,h2.2⟩
 ·simp at h2
theorem f9i (p:A5) (o:GOp) (ho:g4c o):Ex (fun r=>r=true ->OpF p o) (b08 p o):=by
 refine A9 (b9f _ _) (c1u (d3m _ ho.alias_) (A8 _ (fun h=>D6 fun h2=>by cases h2) fun h=>A8 _ (fun h2=>e5o (e3t p o _) fun r hr h3=> ?_) fun h2=>e5o (e3t p o _) fun r hr h3=> ?_))
 all_goals
  obtain ⟨a0,a1,a2,a3,a4⟩:=hr h3
  simp only [Bool.or_eq_false_iff,decide_eq_false_iff_not,bne_iff_ne,bne_eq_false_iff_eq,ne_eq,Bool.or_eq_true,Bool.and_eq_true,decide_eq_true_eq,beq_iff_eq] at h h2 a0
  refine ⟨by omega,by omega,⟨fun _=>by omega,fun _=>by omega⟩,a1,a2,a3,a4⟩
def e8u (o:GOp):Prop:= -1<=o.Union
theorem f05 (g:B6) (hg:b7b g):∀i:Nat,∀n:Nat,n<=i /\ i<=g.Ops.length ->(∀j o,j<i ->g.Ops[j]? =some o ->e8u o) ->Ex (fun r=>r=true ->∀o∈g.Ops,e8u o) (a0k (i:Int) (n:Int) g):=by
 have b1:=E4 hg.n
 refine upn g.Ops.length (fun i hi ih n hn hA=> ?_) (fun i hi n hn hA=> ?_)
 ·have e2:((i:Int)).toNat=i:=by omega
  refine A9 (a96 _ _ _) (E7 (fun _=>E3 (by omega) fun y hy hm=> ?_) fun h=>absurd (show (i:Int)<g.Ops.length by omega) h)
  rw [U5 (by omega),U5 (by omega)]
  have hy':=hy
  rw [e2] at hy'
  refine A8 _ (fun h=>ih _ (by omega) (b1a hA hy' ?_)) fun h=>C6 ?_
  ·simp only [beq_iff_eq] at h; unfold e8u; omega
  have no:∀b,(b=false ->e8u y) ->Ex (α:=Bool) (fun r=>r=true ->∀o∈g.Ops,e8u o) (fun r=>(b=true ->r=false) /\ (b=false ->a0k ((i+1:Nat):Int) (n:Int) g r)):=fun b hb=>A8 b (fun _=>D6 fun h=>by cases h) fun h=>ih _ (by omega) (b1a hA hy' (hb h))
  refine A8 _ (fun h2=>A8 _ (fun h3=>no _ fun h=>by cases h) fun h3=> ?_) fun h2=>no _ fun _=> ?_
  ·have:0<i:=by simp only [beq_eq_false_iff_ne] at h3; omega
   rw [c68 (by omega)]
   refine E3 (by omega) fun z hz _=>no _ fun h=> ?_
   have e3:(((i - 1:Nat):Int)).toNat=i - 1:=by omega
   rw [e3] at hz
   have:=hA (i - 1) z (by omega) hz
   simp only [bne_eq_false_iff_eq] at h
   unfold e8u at*; omega
  ·simp only [bne_eq_false_iff_eq] at h2
   unfold e8u; omega
 ·exact A9 (a96 _ _ _) (E7 (fun h=>absurd h (by omega)) fun _=>D6 fun _=>b78 hA hi)
theorem g19 (g:B6) (hg:b7b g):Ex (fun r=>r=true ->∀o∈g.Ops,e8u o) (b7w g):=A9 (c3e _) (f05 g hg 0 0 (by omega) fun j o h=>by omega)
section
variable (p:A5) (hp:b7z p)
 include hp
def e1s (g:B6):Prop:=(∀o∈g.Ops,e8u o) /\ ∀o∈g.Ops,OpF p o
theorem f6y (k:Nat) (hk:k<p.Progs.length) (g:B6) (hg:p.Progs[((k:Int)).toNat]? =some g) (og:b7b g) (H:∀b,(b=true ->∀j g,j<k+1 ->p.Progs[j]? =some g ->e1s p g) ->Ex (fun r=>r=true ->∀g∈p.Progs,e1s p g) (X8 ((k+1:Nat):Int) b p)):
  ∀i:Nat,∀b,(b=true ->(∀j g,j<k ->p.Progs[j]? =some g ->e1s p g) /\ (∀o∈g.Ops,e8u o) /\ ∀j o,j<i ->g.Ops[j]? =some o ->OpF p o) ->Ex (fun r=>r=true ->∀g∈p.Progs,e1s p g) (X6 (i:Int) b (k:Int) p):=by
 have b1:=E4 hp.np; have b2:=E4 hp.ne
 have b3:=E4 og.n
 have e3:((k:Int)).toNat=k:=by omega
 refine upn g.Ops.length (fun i hi ih b hA=> ?_) (fun i hi b hA=> ?_)
 ·refine A9 (a5l _ _ _ _) (a3d g hg (by omega) (E7 (fun _=> ?_) fun h=>absurd (show (i:Int)<g.Ops.length by omega) h))
  rw [U5 (by omega)]
  refine A8 _ (fun hb=>a3d g hg (by omega) (E3 (by omega) fun y hy hm=>D8 (f9i p y (og.ops y hm)) fun z hz=>ih _ fun h=> ?_)) fun hb=>ih _ fun h=>by cases h
  have e2:((i:Int)).toNat=i:=by omega
  rw [e2] at hy
  exact ⟨(hA hb).1,(hA hb).2.1,b1a (hA hb).2.2 hy (hz h)⟩
 ·refine A9 (a5l _ _ _ _) (a3d g hg (by omega) (E7 (fun h=>absurd h (by omega)) fun _=> ?_))
  rw [U5 (by omega)]
  exact H _ fun h=>b1a (hA h).1 (by rw [<-e3]; exact hg) ⟨(hA h).2.1,b78 (hA h).2.2 hi⟩
theorem e2u:∀i:Nat,∀b,(b=true ->∀j g,j<i ->p.Progs[j]? =some g ->e1s p g) ->Ex (fun r=>r=true ->∀g∈p.Progs,e1s p g) (X8 (i:Int) b p):=by
 have b1:=E4 hp.np; have b2:=E4 hp.ne
 refine upn p.Progs.length (fun i hi ih b hA=> ?_) (fun i hi b hA=> ?_)
 ·obtain ⟨g,hg,gm⟩:=f2t hi
  have go:=f6y p hp i hi g hg (hp.progs g gm) ih 0
  exact A9 (a5i _ _ _) (E7 (fun _=>C6 (A8 _ (fun hb=>a3d g hg (by omega) (D8 (g19 g (hp.progs g gm)) fun y hy=>go _ fun h=>⟨hA hb,hy h,fun j o hj=>by omega⟩)) fun hb=>go _ fun h=>by cases h)) fun h=>absurd (show (i:Int)<p.Progs.length by omega) h)
 ·exact A9 (a5i _ _ _) (E7 (fun h=>absurd h (by omega)) fun _=>D6 fun h=>b78 (hA h) hi)
theorem e8f (k:Nat) (hk:k<p.Enums.length) (g:V5) (hg:p.Enums[((k:Int)).toNat]? =some g) (og:b9k g) (H:∀b,Ex (fun r=>r=true ->∀g∈p.Progs,e1s p g) (X3 ((k+1:Nat):Int) b p)):∀i:Nat,∀b,Ex (fun r=>r=true ->∀g∈p.Progs,e1s p g) (O8 (i:Int) b (k:Int) p):=by
 have b1:=E4 hp.np; have b2:=E4 hp.ne; have b3:=E4 og.ni
 refine upn (g.Items.length) (fun i hi ih b=> ?_) (fun i hi b=> ?_)
 ·refine A9 (a5p _ _ _ _) ?_
  try rw [U5 (by omega)]
  repeat' first|exact D6 trivial|exact ih|assumption|exact ih _|exact H _|refine a3d g hg (by omega) ?_|rw [U5 (by omega)]|refine C6 ?_|refine E7 (fun h=> ?_) (fun h=> ?_)|refine N5 (fun h=> ?_) (fun h=> ?_)|refine A8 _ (fun h=> ?_) (fun h=> ?_)|refine E3 (by first|omega|(simp only [beq_iff_eq] at*; omega)) (fun y hy hm=> ?_)|refine D7 (by first|omega|(simp only [beq_iff_eq] at*; omega)) ?_|refine D8 (g1q _ (og.items _ ‹_›).nn (og.items _ ‹_›).notes _) (fun y hq=> ?_)
 ·refine A9 (a5p _ _ _ _) ?_
  repeat' first|exact D6 trivial|exact ih|assumption|exact ih _|exact H _|refine a3d g hg (by omega) ?_|rw [U5 (by omega)]|exact absurd ‹_› (by omega)|(exfalso; omega)|refine C6 ?_|refine E7 (fun h=> ?_) (fun h=> ?_)|refine N5 (fun h=> ?_) (fun h=> ?_)|refine A8 _ (fun h=> ?_) (fun h=> ?_)|refine E3 (by first|omega|(simp only [beq_iff_eq] at*; omega)) (fun y hy hm=> ?_)|refine D7 (by first|omega|(simp only [beq_iff_eq] at*; omega)) ?_|refine D8 (g1q _ (og.items _ ‹_›).nn (og.items _ ‹_›).notes _) (fun y hq=> ?_)
theorem f5s:∀i:Nat,∀b,Ex (fun r=>r=true ->∀g∈p.Progs,e1s p g) (X3 (i:Int) b p):=by
 have b1:=E4 hp.np; have b2:=E4 hp.ne
 refine upn (p.Enums.length) (fun i hi ih b=> ?_) (fun i hi b=> ?_)
 ·obtain ⟨g,hg,gm⟩:=f2t hi
  refine A9 (a5w _ _ _) ?_
  try rw [U5 (by omega)]
  repeat' first|exact D6 trivial|exact ih|assumption|exact ih _|exact e8f p hp i hi g hg (hp.enums g gm) ih 0 _|exact e2u p hp 0 _ (fun _ j g h=>by omega)|refine a3d g hg (by omega) ?_|refine C6 ?_|refine E7 (fun h=> ?_) (fun h=> ?_)|refine N5 (fun h=> ?_) (fun h=> ?_)|refine A8 _ (fun h=> ?_) (fun h=> ?_)|refine E3 (by omega) (fun y hy hm=> ?_)|refine D7 (by omega) ?_
 ·refine A9 (a5w _ _ _) ?_
  repeat' first|exact D6 trivial|exact ih|assumption|exact ih _|exact e8f p hp i hi g hg (hp.enums g gm) ih 0 _|exact e2u p hp 0 _ (fun _ j g h=>by omega)|refine a3d g hg (by omega) ?_|exact absurd ‹_› (by omega)|(exfalso; omega)|refine C6 ?_|refine E7 (fun h=> ?_) (fun h=> ?_)|refine N5 (fun h=> ?_) (fun h=> ?_)|refine A8 _ (fun h=> ?_) (fun h=> ?_)|refine E3 (by omega) (fun y hy hm=> ?_)|refine D7 (by omega) ?_
theorem g2x:Ex (fun r=>r=true ->∀g∈p.Progs,e1s p g) (b1g p):=A9 (b89 _) (f5s p hp 0 _)
variable (hF:∀g∈p.Progs,e1s p g)
 include hF
theorem f6g (k:Nat) (hk:k<p.Progs.length) (g:B6) (hg:p.Progs[((k:Int)).toNat]? =some g) (gm:g∈p.Progs) (m:Int) (c:Bool) (H:∀b (l:List Bool),l.length=p.Progs.length ->Ex yes (a1u ((k+1:Nat):Int) b m p l)):
  ∀i:Nat,∀b (l:List Bool),l.length=p.Progs.length ->Ex yes (Y4 (i:Int) b (k:Int) c m p l):=by
 have b1:=E4 hp.np; have b2:=E4 hp.ne
 have b3:=E4 (hp.progs g gm).n
 refine upn g.Ops.length (fun i hi ih b l hl=> ?_) (fun i hi b l hl=> ?_)
 ·refine A9 (a9c _ _ _ _ _ _ _) (a3d g hg (by omega) (E7 (fun _=>a3d g hg (by omega) (E3 (by omega) fun y hy hm=> ?_)) fun h=>absurd (show (i:Int)<g.Ops.length by omega) h))
  rw [U5 (by omega)]
  refine A8 _ (fun hb=>A8 _ (fun h=>ih _ l hl) fun h=> ?_) fun hb=>ih _ l hl
  have h10:y.Kind=10:=by simp only [Bool.or_eq_false_iff,bne_eq_false_iff_eq] at h; exact h.2
  have ht:=((hF g gm).2 y hm).msg h10
  refine D7 (by omega) (c1u (List.getElem?_eq_getElem (show y.Target.toNat<l.length by omega)) (ih _ l hl))
 ·refine A9 (a9c _ _ _ _ _ _ _) (a3d g hg (by omega) (E7 (fun h=>absurd h (by omega)) fun _=>D7 (by omega) (D7 (by omega) ?_)))
  rw [U5 (by omega)]
  exact H _ _ (by simpa using hl)
theorem f8e (m:Nat) (hm:m<p.Progs.length) (H:∀b (l:List Bool),l.length=p.Progs.length ->Ex yes (a2w ((m+1:Nat):Int) p b l)):
  ∀i:Nat,∀b (l:List Bool),l.length=p.Progs.length ->Ex yes (a1u (i:Int) b (m:Int) p l):=by
 have b1:=E4 hp.np
 refine upn p.Progs.length (fun i hi ih b l hl=> ?_) (fun i hi b l hl=> ?_)
 ·obtain ⟨g,hg,gm⟩:=f2t hi
  exact A9 (a8q _ _ _ _ _) (E7 (fun _=>f6g p hp hF i hi g hg gm m b ih 0 true l hl) fun h=>absurd (show (i:Int)<p.Progs.length by omega) h)
 ·refine A9 (a8q _ _ _ _ _) (E7 (fun h=>absurd h (by omega)) fun _=> ?_)
  rw [U5 (by omega)]
  exact H _ l hl
theorem g2y:∀i:Nat,∀b (l:List Bool),l.length=p.Progs.length ->Ex yes (a2w (i:Int) p b l):=by
 refine upn p.Progs.length (fun i hi ih b l hl=> ?_) (fun i hi b l hl=> ?_)
 ·exact A9 (a9y _ _ _ _) (E7 (fun _=>f8e p hp hF i hi ih 0 true l hl) fun h=>absurd (show (i:Int)<p.Progs.length by omega) h)
 ·exact A9 (a9y _ _ _ _) (E7 (fun h=>absurd h (by omega)) fun _=>D6 trivial)
theorem f1d:Ex yes (b6p p):=by
 have b1:=E4 hp.np
 exact A9 (c3v _) (D7 (by omega) (g2y p hp hF 0 _ _ (by simp)))
end
structure f7s (p:A5):Prop where
 asc:∀g∈p.Progs,Asc g.Ops g.Ops.length
 num:∀g∈p.Progs,∀o∈g.Ops,f0x o
 pro:∀g∈p.Progs,e1s p g
theorem f7z (p:A5) (hp:b7z p):Ex (fun r=>r=0 ->f7s p) (c0s p):=by
 have no:∀{n:Int},n≠0 ->Ex (α:=Int) (fun r=>r=0 ->f7s p) (fun r=>r=n):=fun hn=>D6 fun h=>absurd h hn
 refine A9 (c5v _) (D8 (e9o p hp) fun y1 _=>A8 _ (fun _=>no (by decide)) fun _=> ?_)
 refine D8 (f50 p hp) fun y1 _=>A8 _ (fun _=>no (by decide)) fun _=> ?_
 refine D8 (e2d p hp) fun y3 h3=>A8 _ (fun _=>no (by decide)) fun k3=> ?_
 refine D8 (e9j p hp) fun y1 _=>A8 _ (fun _=>no (by decide)) fun _=> ?_
 refine D8 (f13 p hp) fun y5 h5=>A8 _ (fun _=>no (by decide)) fun k5=> ?_
 refine D8 (g2x p hp) fun y6 h6=>A8 _ (fun _=>no (by decide)) fun k6=> ?_
 have hF:=h6 (by simpa using k6)
 exact D8 (f1d p hp hF) fun y1 _=>A8 _ (fun _=>no (by decide)) fun _=>D6 fun _=>⟨h3 (by simpa using k3),h5 (by simpa using k5),hF⟩
def a9v (v:A0):Bool:=
 ((v.Kind !=11)&& !v.List_.isEmpty)||(((v.Kind !=12)&& !v.Pairs.isEmpty)||(((v.Kind !=10)&& !(v.Slots.isEmpty&&v.Raws.isEmpty))||
  (((v.Bits !=0)&&(((v.Kind==7)||(v.Kind==8))||((v.Kind==10)||((v.Kind==11)||(v.Kind==12)))))||(!(decide (v.Text=(⟨#[]⟩:ByteArray)))&& !((v.Kind==7)||(v.Kind==8))))))
theorem d1q {α:Type} (l:List α):decide (0<(l.length:Int))= !l.isEmpty:=by
 cases l with
 |nil=>rfl
 |cons x l=>simp
theorem f1w {α β:Type} (l:List α) (m:List β) (h:l.length<=140737488351232) (h2:m.length<=140737488351232):decide (0<wI ((l.length:Int)+(m.length:Int)))= !(l.isEmpty&&m.isEmpty):=by
 rw [wI,D5 (by omega)]
 cases l with
 |nil=>cases m with
  |nil=>rfl
  |cons x m=>simp
 |cons x l=>simp; omega
theorem h2k (k:Int):((decide (10<=k))&&(decide (k<=12)))=((k==10)||((k==11)||(k==12))):=by
 rw [Bool.eq_iff_iff]
 simp
 omega
theorem c6o (v:A0) (hv:OkV v):b01 v (a9v v):=by
 refine c74 _ _ ?_
 rw [d1q,d1q,f1w _ _ hv.s hv.r,h2k]
 unfold a9v
 generalize ((v.Kind !=11)&& !v.List_.isEmpty)=b1
 generalize ((v.Kind !=12)&& !v.Pairs.isEmpty)=b2
 generalize ((v.Kind !=10)&& !(v.Slots.isEmpty&&v.Raws.isEmpty))=b3
 generalize ((v.Kind==7)||(v.Kind==8))=b4
 generalize ((v.Kind==10)||((v.Kind==11)||(v.Kind==12)))=b5
 generalize (v.Bits !=0)=b6
 generalize (decide (v.Text=(⟨#[]⟩:ByteArray)))=b7
 revert b1 b2 b3 b4 b5 b6 b7
 decide
def d29 (p:A5) (kind enum:Int) (v:A0):Int:=
 if ((v.Kind !=kind)||a9v v)=true then 12 else if 4096<v.Text.size then 3 else if ((kind==7)&& !b2u v.Text)=true then 7 else if a9h kind v=false then 12 else if ((kind==9)&& !d7t p enum v.Bits)=true then 16 else 0
theorem f3u (p:A5) (hp:OkE p) (kind enum:Int) (v:A0) (hv:OkV v):a3i ⟨p⟩ kind enum v (d29 p kind enum v):=by
 refine b6k _ _ _ _ _ ⟨fun b=>b=((v.Kind !=kind)||a9v v),fun b hb=>⟨fun h=> ?_,fun h=>⟨fun h2=> ?_,fun h2=>⟨fun b2=>b2=((kind==7)&& !b2u v.Text),fun b2 hb2=>⟨fun h3=> ?_,fun h3=>⟨_,d6d kind v hv,fun h4=> ?_,fun h4=>⟨fun h5=>⟨_,c3g p hp enum v.Bits hv.b0,fun h6=> ?_,fun h6=> ?_⟩,fun h5=> ?_⟩⟩⟩,fun h3=>⟨_,d16 _ hv.t,by rw [h3,Bool.true_and]⟩,fun h3=>by rw [h3,Bool.false_and]⟩⟩⟩,fun h=>by rw [h,Bool.true_or],fun h=>⟨_,c6o v hv,by rw [h,Bool.false_or]⟩⟩
 ·subst hb; rw [d29,if_pos h]
 ·subst hb; rw [d29,if_neg (nt h),if_pos (by simp at h2; omega)]
 all_goals (subst hb; have h2':¬4096<v.Text.size:=by simp at h2; omega)
 ·subst hb2; rw [d29,if_neg (nt h),if_neg h2',if_pos h3]
 all_goals subst hb2
 ·rw [d29,if_neg (nt h),if_neg h2',if_neg (nt h3),if_pos (by simpa using h4)]
 ·rw [d29,if_neg (nt h),if_neg h2',if_neg (nt h3),if_neg (by simpa using h4),if_pos (by rw [h5,Bool.true_and]; exact h6)]
 ·rw [d29,if_neg (nt h),if_neg h2',if_neg (nt h3),if_neg (by simpa using h4),if_neg (by rw [h5,Bool.true_and]; exact nt h6)]
 ·rw [d29,if_neg (nt h),if_neg h2',if_neg (nt h3),if_neg (by simpa using h4),if_neg (by rw [h5,Bool.false_and]; simp)]
def c15 (f:Nat ->Int) (i n:Nat):Int:=if i<n then (if f i≠0 then f i else c15 f (i+1) n) else 0
 termination_by n - i
theorem c2q {J:Nat ->Prop} {E:Prop} {r:Int} (f:Nat ->Int) (n:Nat) (c0x:∀i,i<n ->(f i≠0 ->r=f i) ->(f i=0 ->J (i+1)) ->J i) (fin:E ->J n):∀i,i<=n ->(c15 f i n≠0 ->r=c15 f i n) ->(c15 f i n=0 ->E) ->J i:=by
 have key:∀d i,n - i<=d ->i<=n ->(c15 f i n≠0 ->r=c15 f i n) ->(c15 f i n=0 ->E) ->J i:=by
  intro d
  induction d with
  |zero=>
   intro i hd hi h1 h2
   have e:i=n:=by omega
   subst e
   exact fin (h2 (by rw [c15,if_neg (by omega)]))
  |succ d ih=>
   intro i hd hi h1 h2
   rcases Nat.lt_or_ge i n with hlt|hge
   ·rw [c15,if_pos hlt] at h1 h2
    refine c0x i hlt (fun h=> ?_) (fun h=> ?_)
    ·rw [if_pos h] at h1; exact h1 h
    ·rw [if_neg (by omega)] at h1 h2
     exact ih (i+1) (by omega) (by omega) h1 h2
   ·have e:i=n:=by omega
    subst e
    exact fin (h2 (by rw [c15,if_neg (by omega)]))
 intro i
 exact key _ i (Nat.le_refl _)
theorem b61 {f:Nat ->Int} {n:Nat}:∀i,c15 f i n=0 ->∀k,i<=k ->k<n ->f k=0:=by
 have key:∀d i,n - i<=d ->c15 f i n=0 ->∀k,i<=k ->k<n ->f k=0:=by
  intro d
  induction d with
  |zero=>intro i hd _ k h1 h2; omega
  |succ d ih=>
   intro i hd h k h1 h2
   rw [c15,if_pos (show i<n by omega)] at h
   by_cases e:f i=0
   ·rw [if_neg (by omega)] at h
    rcases Nat.lt_or_ge i k with h3|h3
    ·exact ih (i+1) (by omega) h k h3 h2
    ·have:k=i:=by omega
     rw [this]; exact e
   ·rw [if_pos e] at h; exact absurd h e
 exact fun i=>key _ i (Nat.le_refl _)
theorem d2p {α:Type} (f:α ->Bool):∀(l:List α) (i:Int),0<=i ->decide (0<=c59 f l i)=l.any f
 |[],i,_=>by simp [c59]
 |x::l,i,hi=>by
  have ih:=d2p f l (i+1) (by omega)
  rw [List.any_cons,<-ih]
  by_cases h:f x=true
  ·have e:c59 f (x::l) i=i:=by simp only [c59]; rw [if_pos h]
   simp only [e,h,Bool.true_or]
   simpa using hi
  ·have e:c59 f (x::l) i=c59 f l (i+1):=by simp only [c59]; rw [if_neg h]
   simp at h
   simp only [e,h,Bool.false_or]
abbrev d90:=Int ->A0 ->Int ->Int
def orE (a b:Int):Int:=if a≠0 then a else b
noncomputable def b71 (M:d90) (p:A5) (o:GOp) (v:A0) (lev:Int):Int:=if o.Kind=10 then M o.Target v (lev+1) else d29 p o.Kind o.Target v
noncomputable def g16 (x:A0 × A0) (l:List (A0 × A0)):Bool:=l.any fun q=>a1z (SizeOf.sizeOf q.1) q.1 x.1==0
noncomputable def d0i (M:d90) (p:A5) (o:GOp) (l:List (A0 × A0)) (lev:Int) (i:Nat):Int:=
 match l[i]? with
 |none=>0
 |some x=>orE (d29 p o.Key (-1) x.1) (if g16 x (l.take i)=true then 9 else b71 M p o x.2 lev)
noncomputable def e3y (M:d90) (p:A5) (o:GOp) (l:List A0) (lev:Int) (i:Nat):Int:=
 match l[i]? with
 |none=>0
 |some x=>b71 M p o x lev
noncomputable def b1o (M:d90) (p:A5) (o:GOp) (v:A0) (lev:Int):Int:=
 if o.Card=4 then (if ((v.Kind !=11)||a9v v)=true then 12 else c15 (e3y M p o v.List_ lev) 0 v.List_.length)
 else if o.Card=5 then (if ((v.Kind !=12)||a9v v)=true then 12 else c15 (d0i M p o v.Pairs lev) 0 v.Pairs.length)
 else b71 M p o v lev
noncomputable def d1e (M:d90) (p:A5) (g:B6) (l:List (Int × A0)) (lev:Int) (i:Nat):Int:=
 match l[i]? with
 |none=>0
 |some x=>if (opV g x.1).2=false then 8 else if ((l.take i).any fun y=>y.1==x.1)=true then 9
  else if ((l.take i).any fun y=>((opV g x.1).1.Union !=(-1))&&((opV g y.1).1.Union==(opV g x.1).1.Union))=true then 15 else b1o M p (opV g x.1).1 x.2 lev
def d4l (g:B6) (v:A0) (i:Nat):Int:=
 match g.Ops[i]? with
 |none=>0
 |some o=>if o.Card=1 /\ (v.Slots.any fun y=>y.1==o.Num)=false then 14 else 0
def f1y (p:A5) (o:GOp) (f:Q0):Bool:=((((o.Kind==9)&&(o.Card !=5))&&(f.Wire==0))&&(decide (f.Bits<=2147483647)))&& !d7t p o.Target f.Bits
def f6v (p:A5) (g:B6) (f:Q0):Int:=
 if (((decide (f.Num<1))||(decide (65535<f.Num)))||(decide (f.Wire<0))||(decide (6<f.Wire)))=true then 1
 else if (((decide (f.Wire<=2))&& !(decide (f.Data=(⟨#[]⟩:ByteArray))))||((!(decide (f.Wire<=2)))&&(f.Bits !=0))||((opV g f.Num).2&& !f1y p (opV g f.Num).1 f))=true then 1
 else if (((f.Wire==3)&&decide (4096<(f.Data.size:Int)))||decide (65536<(f.Data.size:Int)))=true then 3 else 0
def f5w (p:A5) (g:B6) (l:List Q0) (i:Nat):Int:=
 match l[i]? with
 |none=>0
 |some f=>f6v p g f
noncomputable def e8p (M:d90) (p:A5) (g:B6) (v:A0) (lev:Int):Int:=
 if ((v.Kind !=10)||a9v v)=true then 12 else if 16<lev then 17
 else orE (c15 (d1e M p g v.Slots lev) 0 v.Slots.length) (orE (c15 (d4l g v) 0 g.Ops.length) (c15 (f5w p g v.Raws) 0 v.Raws.length))
noncomputable def b6i (p:A5):Nat ->d90
 |0,_,_,_=>0
 |n+1,t,v,lev=>match p.Progs[t.toNat]? with
  |none=>0
  |some g=>e8p (b6i p n) p g v lev
theorem d6s {num:Int}:∀{l:List GOp},(opL num l).2=true ->(opL num l).1.Num=num /\ (opL num l).1∈l
 |[],h=>by simp [opL] at h
 |o::l,h=>by
  by_cases e:(o.Num==num)=true
  ·have q:opL num (o::l)=(o,true):=by simp only [opL]; rw [if_pos e]
   rw [q]; exact ⟨by simpa using e,by simp⟩
  ·have q:opL num (o::l)=opL num l:=by simp only [opL]; rw [if_neg e]
   rw [q] at h ⊢
   exact ⟨(d6s h).1,List.mem_cons_of_mem _ (d6s h).2⟩
theorem d1l {g:B6} {num:Int} (h:(opV g num).2=true):(opV g num).1.Num=num /\ (opV g num).1∈g.Ops:=d6s h
theorem d3a (s:List (Int × A0)) (hs:s.length<=140737488351232) (F:GFn) (f:Int × A0 ->Bool) (hC:∀x∈s,a50 Tryz.prog [] (.clo (.func F.fn) F.fi F.cap) [.agg (W2 x)] (.v (.bool (f x)))):M7 s F (s.any f):=
 a48 _ _ _ ⟨_,a62 _ _ _ (d60 (J:=fun i s r=>N0 i s F r) f (fun i s r hw=>a41 _ _ _ _ hw) s hs hC),(d2p f s 0 (Int.le_refl _)).symm⟩
theorem e46 (s:List (A0 × A0)) (hs:s.length<=140737488351232) (F:GFn) (f:A0 × A0 ->Bool) (hC:∀x∈s,a50 Tryz.prog [] (.clo (.func F.fn) F.fi F.cap) [.agg (U4 x)] (.v (.bool (f x)))):V2 s F (s.any f):=
 a4u _ _ _ ⟨_,a64 _ _ _ (d60 (J:=fun i s r=>M8 i s F r) f (fun i s r hw=>a44 _ _ _ _ hw) s hs hC),(d2p f s 0 (Int.le_refl _)).symm⟩
theorem e6v (a b:A0) (ha:OkD a) (hb:OkD b):b1n a b (a1z (SizeOf.sizeOf a) a b==0):=b6c _ _ _ ⟨_,c46 _ a b ha hb (Nat.le_refl _),rfl⟩
theorem OkD.raws {v:A0} (h:OkD v):∀x∈v.Raws,e4s x:=by
 cases h with
 |mk _ _ _ _ _ _ _ _ _ _ _ _ _ hr _=>exact hr
structure OkX (p:A5):Prop where
 e:OkE p
 pl:b7z p
 va:f7s p
theorem c6s {α:Type} (l:List α) (i:Nat) (f:α ->Bool):(((l.take ((i:Int)).toNat).drop (0:Int).toNat))=l.take i:=by simp
theorem OkX.ops {p:A5} (h:OkX p) {g:B6} (hg:g∈p.Progs):g.Ops.length<=140737488351232:=(h.pl.progs g hg).n
section
variable {p:A5} (hp:OkX p)
 include hp
theorem f60 (g:B6) (hg:g∈p.Progs) (f:Q0) (hf:e4s f):a7s ⟨p⟩ g f (f6v p g f):=by
 have ho:=e8a g (hp.ops hg) f.Num
 refine b6g _ _ _ _ ⟨_,ho,fun b=>b=f1y p (opV g f.Num).1 f,fun b hb=>⟨fun h=> ?_,fun h=>⟨fun h2=> ?_,fun h2=>⟨fun h3=> ?_,fun h3=> ?_⟩⟩⟩,fun h=>⟨_,c3g p hp.e _ _ hf.bits.1, ?_⟩,fun h=> ?_⟩
 ·subst hb; rw [f6v,if_pos h]
 ·subst hb; rw [f6v,if_neg (nt h),if_pos h2]
 ·subst hb; rw [f6v,if_neg (nt h),if_neg (nt h2),if_pos h3]
 ·subst hb; rw [f6v,if_neg (nt h),if_neg (nt h2),if_neg (nt h3)]
 ·rw [f1y,h,Bool.true_and]
 ·rw [f1y,h,Bool.false_and]
section
variable {M:d90} {B:A0 ->Prop} (hM:∀(t:Int) (g:B6) (v:A0) (lev:Int),p.Progs[t.toNat]? =some g ->B v ->1<=lev ->lev<=17 ->P4 ⟨p⟩ g v lev (M t v lev))
 include hM
theorem d6v (o:GOp) (ho:OpF p o) (v:A0) (hv:OkD v) (hb:B v) (lev:Int) (h1:1<=lev) (h2:lev<=16):Z5 ⟨p⟩ o v lev (b71 M p o v lev):=by
 refine b51 _ _ _ _ _ ⟨fun h=> ?_,fun h=>⟨_,f3u p hp.e _ _ v hv.okv, ?_⟩⟩
 ·have hk:o.Kind=10:=by simpa using h
  obtain ⟨t0,t1,_⟩:=ho.msg hk
  have hlt:o.Target.toNat<p.Progs.length:=by omega
  refine ⟨p.Progs[o.Target.toNat],List.getElem?_eq_getElem hlt,t0,_,hM o.Target _ v _ (List.getElem?_eq_getElem hlt) hb (by rw [wI,D5 (by omega)]; omega) (by rw [wI,D5 (by omega)]; omega), ?_⟩
  rw [b71,if_pos hk,wI,D5 (by omega)]
 ·rw [b71,if_neg (by simpa using h)]
theorem e0e (o:GOp) (ho:OpF p o) (l:List (A0 × A0)) (hl:l.length<=140737488351232) (hv:∀x∈l,OkD x.1 /\ OkD x.2) (hb:∀x∈l,B x.2) (lev:Int) (h1:1<=lev) (h2:lev<=16):a2m ⟨p⟩ o l lev (c15 (d0i M p o l lev) 0 l.length):=by
 refine b1z _ _ _ _ _ ?_
 refine c2q (J:=fun i:Nat=>V8 i l lev ⟨p⟩ o _) (E:=c15 (d0i M p o l lev) 0 l.length=0) _ l.length (fun i hi k1 k2=> ?_) (fun e=> ?_) 0 (by omega) (fun _=>rfl) (fun h=>h)
 ·have e1:wI ((i:Int)+1)=((i+1:Nat):Int):=by rw [wI,D5 (by omega)]; omega
  have hx:=List.getElem_mem hi
  have ef:d0i M p o l lev i=orE (d29 p o.Key (-1) l[i].1) (if g16 l[i] (l.take i)=true then 9 else b71 M p o l[i].2 lev):=by
   simp only [d0i,List.getElem?_eq_getElem hi]
  rw [ef] at k1 k2
  refine a1g _ _ _ _ _ _ ⟨fun _=>⟨l[i],by simp,by omega,_,f3u p hp.e _ _ _ (hv _ hx).1.okv,fun h=> ?_,fun h=>⟨⟨by omega,by omega,by omega⟩,g16 l[i] (l.take i), ?_,fun h3=> ?_,fun h3=>⟨_,d6v hp hM o ho _ (hv _ hx).2 (hb _ hx) lev h1 h2,fun h4=> ?_,fun h4=> ?_⟩⟩⟩,fun h=>by simp at h; omega⟩
  ·have h':d29 p o.Key (-1) l[i].1≠0:=by simpa using h
   rw [orE,if_pos h'] at k1; exact k1 h'
  ·rw [c6s l i (fun _=>true)]
   refine e46 _ (by simp; omega) _ _ fun x hx2=>b1j x l[i] _ (b0e _ _ _ ⟨_,e6v _ _ (hv _ (List.mem_of_mem_take hx2)).1 (hv _ hx).1,rfl⟩)
  all_goals (have h':¬d29 p o.Key (-1) l[i].1≠0:=by simpa using h)
  all_goals rw [orE,if_neg h'] at k1 k2
  ·rw [if_pos h3] at k1; exact k1 (by decide)
  all_goals rw [if_neg (nt h3)] at k1 k2
  ·exact k1 (by simpa using h4)
  ·rw [e1]; exact k2 (by simpa using h4)
 ·exact a1g _ _ _ _ _ _ ⟨fun h=>by simp at h,fun _=>e⟩
theorem f2d (o:GOp) (ho:OpF p o) (v:A0) (hv:OkD v) (hb:B v) (hbl:∀x∈v.List_,B x) (hbp:∀x∈v.Pairs,B x.2) (lev:Int) (h1:1<=lev) (h2:lev<=16):a49 ⟨p⟩ o v lev (b1o M p o v lev):=by
 obtain ⟨_,_,⟨la,pa,sa,ra⟩,hl,hps,hs⟩:=hv.inv
 refine b32 _ _ _ _ _ ⟨fun h=>⟨fun b=>b=((v.Kind !=11)||a9v v),fun b hb2=>⟨fun h3=> ?_,fun h3=> ?_⟩,fun h3=>by rw [h3,Bool.true_or],fun h3=>⟨_,c6o v hv.okv,by rw [h3,Bool.false_or]⟩⟩,fun h=>⟨fun h4=>⟨fun b=>b=((v.Kind !=12)||a9v v),fun b hb2=>⟨fun h3=> ?_,fun h3=>⟨_,e0e hp hM o ho _ pa hps hbp lev h1 h2, ?_⟩⟩,fun h3=>by rw [h3,Bool.true_or],fun h3=>⟨_,c6o v hv.okv,by rw [h3,Bool.false_or]⟩⟩,fun h4=>⟨_,d6v hp hM o ho v hv hb lev h1 h2, ?_⟩⟩⟩
 ·subst hb2; rw [b1o,if_pos (by simpa using h),if_pos h3]
 ·subst hb2
  rw [b1o,if_pos (by simpa using h),if_neg (nt h3)]
  refine c2q (J:=fun i:Nat=>X9 i v lev ⟨p⟩ o _) (E:=c15 (e3y M p o v.List_ lev) 0 v.List_.length=0) _ v.List_.length (fun i hi k1 k2=> ?_) (fun e=> ?_) 0 (by omega) (fun _=>rfl) (fun h=>h)
  ·have e1:wI ((i:Int)+1)=((i+1:Nat):Int):=by have:=E4 la; rw [wI,D5 (by omega)]; omega
   have hx:=List.getElem_mem hi
   have ef:e3y M p o v.List_ lev i=b71 M p o v.List_[i] lev:=by simp only [e3y,List.getElem?_eq_getElem hi]
   rw [ef] at k1 k2
   refine a2l _ _ _ _ _ _ ⟨fun _=>⟨v.List_[i],by simp,by omega,_,d6v hp hM o ho _ (hl _ hx) (hbl _ hx) lev h1 h2,fun h4=>k1 (by simpa using h4),fun h4=> ?_⟩,fun h=>by simp at h; omega⟩
   rw [e1]; exact k2 (by simpa using h4)
  ·exact a2l _ _ _ _ _ _ ⟨fun h=>by simp at h,fun _=>e⟩
 all_goals (have hn:¬o.Card=4:=by simpa using h)
 ·subst hb2; rw [b1o,if_neg hn,if_pos (by simpa using h4),if_pos h3]
 ·subst hb2; rw [b1o,if_neg hn,if_pos (by simpa using h4),if_neg (nt h3)]
 ·rw [b1o,if_neg hn,if_neg (by simpa using h4)]
theorem f5z (g:B6) (hg:g∈p.Progs) (l:List (Int × A0)) (hl:l.length<=140737488351232) (i:Nat) (hi:i<l.length) (hv:∀x∈l,OkD x.2) (hb:∀x∈l,B x.2 /\ (∀y∈x.2.List_,B y) /\ ∀y∈x.2.Pairs,B y.2) (lev:Int) (h1:1<=lev) (h2:lev<=16):a6h ⟨p⟩ g l i lev (d1e M p g l lev i):=by
 have hx:=List.getElem_mem hi
 have ho:=e8a g (hp.ops hg) l[i].1
 have ef:d1e M p g l lev i=if (opV g l[i].1).2=false then 8 else if ((l.take i).any fun y=>y.1==l[i].1)=true then 9
  else if ((l.take i).any fun y=>((opV g l[i].1).1.Union !=(-1))&&((opV g y.1).1.Union==(opV g l[i].1).1.Union))=true then 15 else b1o M p (opV g l[i].1).1 l[i].2 lev:=by
  simp only [d1e,List.getElem?_eq_getElem hi]
 rw [ef]
 refine b47 _ _ _ _ _ _ ⟨l[i],by simp,by omega,_,ho,fun h=> ?_,fun h=>⟨⟨by omega,by omega,by omega⟩,(l.take i).any (fun y=>y.1==l[i].1), ?_,fun h3=> ?_,fun h3=>⟨⟨by omega,by omega,by omega⟩, ?_⟩⟩⟩
 ·rw [if_pos (by simpa using h)]
 all_goals (have hn:(opV g l[i].1).2=true:=by simpa using h)
 all_goals obtain ⟨hnum,hop⟩:=d1l hn
 ·rw [c6s l i (fun _=>true)]
  refine d3a _ (by simp; omega) _ _ fun x hx2=>b3t x (opV g l[i].1).1 _ (b3b _ _ _ ?_)
  rw [hnum]
 all_goals rw [if_neg (by simp [hn])]
 ·rw [if_pos h3]
 rw [if_neg (nt h3)]
 have go:∀d k:Nat,i - k<=d ->k<=i ->((((l.take i).drop k).any fun y=>((opV g l[i].1).1.Union !=(-1))&&((opV g y.1).1.Union==(opV g l[i].1).1.Union))=((l.take i).any fun y=>((opV g l[i].1).1.Union !=(-1))&&((opV g y.1).1.Union==(opV g l[i].1).1.Union))) ->V4 k l i (opV g l[i].1) lev ⟨p⟩ g (if ((l.take i).any fun y=>((opV g l[i].1).1.Union !=(-1))&&((opV g y.1).1.Union==(opV g l[i].1).1.Union))=true then 15 else b1o M p (opV g l[i].1).1 l[i].2 lev):=by
  have len:(l.take i).length=i:=by simp; omega
  have fin:((((l.take i).drop i).any fun y=>((opV g l[i].1).1.Union !=(-1))&&((opV g y.1).1.Union==(opV g l[i].1).1.Union))=((l.take i).any fun y=>((opV g l[i].1).1.Union !=(-1))&&((opV g y.1).1.Union==(opV g l[i].1).1.Union))) ->V4 i l i (opV g l[i].1) lev ⟨p⟩ g (if ((l.take i).any fun y=>((opV g l[i].1).1.Union !=(-1))&&((opV g y.1).1.Union==(opV g l[i].1).1.Union))=true then 15 else b1o M p (opV g l[i].1).1 l[i].2 lev):=by
   intro hk
   rw [List.drop_eq_nil_of_le (by omega)] at hk
   refine a3o _ _ _ _ _ _ _ _ ⟨fun h=>by rw [c6s l i (fun _=>true),len] at h; simp at h,fun _=>⟨l[i],by simp,by omega,_,f2d hp hM _ ((hp.va.pro g hg).2 _ hop) _ (hv _ hx) (hb _ hx).1 (hb _ hx).2.1 (hb _ hx).2.2 lev h1 h2, ?_⟩⟩
   rw [if_neg (by rw [<-hk]; simp)]
  intro d
  induction d with
  |zero=>
   intro k hd hk he
   have e:k=i:=by omega
   subst e
   exact fin he
  |succ d ih=>
   intro k hd hk he
   rcases Nat.lt_or_ge k i with hlt|hge
   ·have e1:wI ((k:Int)+1)=((k+1:Nat):Int):=by rw [wI,D5 (by omega)]; omega
    have hk2:k<(l.take i).length:=by omega
    have dl:(l.take i).drop k=(l.take i)[k]::(l.take i).drop (k+1):=List.drop_eq_getElem_cons hk2
    rw [dl,List.any_cons] at he
    refine a3o _ _ _ _ _ _ _ _ ?_
    rw [c6s l i (fun _=>true)]
    refine ⟨fun _=>⟨(l.take i)[k],by rw [Int.toNat_natCast]; exact List.getElem?_eq_getElem hk2,by omega,_,e8a g (hp.ops hg) _,fun h4=> ?_,fun h4=> ?_⟩,fun h=>by rw [len] at h; simp at h; omega⟩
    ·rw [h4,Bool.true_or] at he
     rw [<-he,if_pos rfl]
    ·rw [h4,Bool.false_or] at he
     rw [e1]
     exact ih (k+1) (by omega) (by omega) he
   ·have e:k=i:=by omega
    subst e
    exact fin he
 exact go i 0 (by omega) (by omega) (by simp)
theorem e0s (g:B6) (hg:g∈p.Progs) (v:A0) (hv:OkD v) (hb:∀x∈v.Slots,B x.2 /\ (∀y∈x.2.List_,B y) /\ ∀y∈x.2.Pairs,B y.2) (lev:Int) (h1:1<=lev) (h2:lev<=17):P4 ⟨p⟩ g v lev (e8p M p g v lev):=by
 have hv0:=hv
 obtain ⟨_,_,⟨la,pa,sa,ra⟩,hl,hps,hs⟩:=hv.inv
 have b1:=E4 sa; have b2:=E4 ra; have b3:=hp.ops hg
 refine b12 _ _ _ _ _ ⟨fun b=>b=((v.Kind !=10)||a9v v),fun b hb2=>⟨fun h3=> ?_,fun h3=>⟨fun h4=> ?_,fun h4=> ?_⟩⟩,fun h3=>by rw [h3,Bool.true_or],fun h3=>⟨_,c6o v hv.okv,by rw [h3,Bool.false_or]⟩⟩
 ·subst hb2; rw [e8p,if_pos h3]
 ·subst hb2; rw [e8p,if_neg (nt h3),if_pos (by simpa using h4)]
 subst hb2
 have h5:¬16<lev:=by simpa using h4
 rw [e8p,if_neg (nt h3),if_neg h5]
 refine c2q (J:=fun i:Nat=>V7 i v lev ⟨p⟩ g _) (E:=c15 (d1e M p g v.Slots lev) 0 v.Slots.length=0) (r:=orE (c15 (d1e M p g v.Slots lev) 0 v.Slots.length) (orE (c15 (d4l g v) 0 g.Ops.length) (c15 (f5w p g v.Raws) 0 v.Raws.length))) (d1e M p g v.Slots lev) v.Slots.length (fun i hi k1 k2=> ?_) (fun e=> ?_) 0 (by omega) (fun h=>by rw [orE,if_pos h]) (fun h=>h)
 ·have e1:wI ((i:Int)+1)=((i+1:Nat):Int):=by rw [wI,D5 (by omega)]; omega
  refine a1i _ _ _ _ _ _ ⟨fun _=>⟨_,f5z hp hM g hg v.Slots sa i hi hs hb lev h1 (by omega),fun h=>k1 (by simpa using h),fun h=>by rw [e1]; exact k2 (by simpa using h)⟩,fun h=>by simp at h; omega⟩
 refine a1i _ _ _ _ _ _ ⟨fun h=>by simp at h,fun _=> ?_⟩
 rw [orE,if_neg (by omega)]
 refine c2q (J:=fun i:Nat=>O0 i g ⟨p⟩ v _) (E:=c15 (d4l g v) 0 g.Ops.length=0) (r:=orE (c15 (d4l g v) 0 g.Ops.length) (c15 (f5w p g v.Raws) 0 v.Raws.length)) (d4l g v) g.Ops.length (fun i hi k1 k2=> ?_) (fun e=> ?_) 0 (by omega) (fun h=>by rw [orE,if_pos h]) (fun h=>h)
 ·have e1:wI ((i:Int)+1)=((i+1:Nat):Int):=by rw [wI,D5 (by omega)]; omega
  have ef:d4l g v i=if g.Ops[i].Card=1 /\ (v.Slots.any fun y=>y.1==g.Ops[i].Num)=false then 14 else 0:=by simp only [d4l,List.getElem?_eq_getElem hi]
  rw [ef] at k1 k2
  refine a02 _ _ _ _ _ ⟨fun _=>⟨g.Ops[i],by simp,by omega,fun h=>⟨_,d3a _ sa _ (fun y=>y.1==g.Ops[i].Num) (fun x hx=>b07 x g.Ops[i] _ (b0r _ _ _ rfl)),fun h6=> ?_,fun h6=> ?_⟩,fun h=> ?_⟩,fun h=>by simp at h; omega⟩
  ·rw [if_pos ⟨by simpa using h,by simpa using h6⟩] at k1; exact k1 (by decide)
  ·rw [e1]; refine k2 ?_; rw [if_neg]; rintro ⟨_,q⟩; simp [q] at h6
  ·rw [e1]; refine k2 ?_; rw [if_neg]; rintro ⟨q,_⟩; simp [q] at h
 refine a02 _ _ _ _ _ ⟨fun h=>by simp at h,fun _=> ?_⟩
 rw [orE,if_neg (by omega)]
 refine c2q (J:=fun i:Nat=>U7 i v ⟨p⟩ g _) (E:=c15 (f5w p g v.Raws) 0 v.Raws.length=0) (f5w p g v.Raws) v.Raws.length (fun i hi k1 k2=> ?_) (fun e=> ?_) 0 (by omega) (fun _=>rfl) (fun h=>h)
 ·have e1:wI ((i:Int)+1)=((i+1:Nat):Int):=by rw [wI,D5 (by omega)]; omega
  have ef:f5w p g v.Raws i=f6v p g v.Raws[i]:=by simp only [f5w,List.getElem?_eq_getElem hi]
  rw [ef] at k1 k2
  refine a03 _ _ _ _ _ ⟨fun _=>⟨v.Raws[i],by simp,by omega,_,f60 hp g hg _ (hv0.raws _ (List.getElem_mem hi)),fun h=>k1 (by simpa using h),fun h=>by rw [e1]; exact k2 (by simpa using h)⟩,fun h=>by simp at h; omega⟩
 ·exact a03 _ _ _ _ _ ⟨fun h=>by simp at h,fun _=>e⟩
end
end
section
variable {p:A5} (hp:OkX p)
 include hp
section
variable {M:d90} {B:A0 ->Prop} (hM:∀(t:Int) (g:B6) (v:A0) (lev:Int),p.Progs[t.toNat]? =some g ->0<=t ->B v ->1<=lev ->lev<=17 ->d26 p t v lev (M t v lev))
 include hM
end
theorem g75 {n:Nat} {v:A0} (hv:OkD v) (hn:SizeOf.sizeOf v<=n+1):∀x∈v.Slots,(OkD x.2 /\ SizeOf.sizeOf x.2<=n) /\ (∀y∈x.2.List_,OkD y /\ SizeOf.sizeOf y<=n) /\ ∀y∈x.2.Pairs,OkD y.2 /\ SizeOf.sizeOf y.2<=n:=fun x hx=>by
 obtain ⟨_,_,_,_,_,hs⟩:=hv.inv
 have z1:=szS hx
 obtain ⟨_,_,_,q1,q2,_⟩:=(hs x hx).inv
 exact ⟨⟨hs x hx,by omega⟩,fun y hy=>⟨q1 y hy,by have:=szL hy; omega⟩,fun y hy=>⟨(q2 y hy).2,by have:=szP hy; omega⟩⟩
theorem d68:∀(n:Nat) (t:Int) (g:B6) (v:A0) (lev:Int),p.Progs[t.toNat]? =some g ->0<=t ->OkD v ->SizeOf.sizeOf v<=n ->1<=lev ->lev<=17 ->P4 ⟨p⟩ g v lev (b6i p n t v lev)
 |0,t,g,v,lev,_,_,_,h,_,_=>by have:=szV v; omega
 |n+1,t,g,v,lev,hgt,ht,hv,hn,h1,h2=>by
  have hg:g∈p.Progs:=List.mem_of_getElem? hgt
  have e:b6i p (n+1) t v lev=e8p (b6i p n) p g v lev:=by simp only [b6i,hgt]
  rw [e]
  refine e0s hp (B:=fun v=>OkD v /\ SizeOf.sizeOf v<=n) (fun t' g' v' lev' k1 k2 k3 k4=> ?_) g hg v hv (g75 hp hv hn) lev h1 h2
  by_cases h0:0<=t'
  ·exact d68 n t' g' v' lev' k1 h0 k2.1 k2.2 k3 k4
  ·have:=d68 n 0 g' v' lev' (by rw [show t'.toNat=0 by omega] at k1; exact k1) (Int.le_refl _) k2.1 k2.2 k3 k4
   have e2:b6i p n 0 v' lev'=b6i p n t' v' lev':=by
    cases n with
    |zero=>rfl
    |succ n=>simp only [b6i]; rw [show t'.toNat=(0:Int).toNat by omega]
   rw [<-e2]; exact this
end
section
variable {α:Type} {c:α ->α ->Int}
theorem d8s {x y:α} {l:List α}:y∈b6n c x l↔y=x\/y∈l:=by
 rw [(b7e x l).mem_iff]; simp
theorem a73:∀(l:List α),∀y∈V6 c l,y∈l
 |[],y,h=>h
 |x::l,y,h=>by
  simp only [V6] at h
  split at h
  ·rcases d8s.1 h with h|h
   ·simp [h]
   ·exact List.mem_cons_of_mem _ (a73 l y h)
  ·exact List.mem_cons_of_mem _ (a73 l y h)
theorem b8a:∀(l:List α),(V6 c l).length<=l.length
 |[]=>by simp [V6]
 |x::l=>by
  have:=b8a l
  simp only [V6]
  split
  ·rw [d8v]; simp; omega
  ·simp; omega
theorem c7c (h:Tp c) (x:α):∀S:List α,(∀y∈S,c x y≠0) ->S.Pairwise (fun a b=>c a b<0) ->(b6n c x S).Pairwise (fun a b=>c a b<0)
 |[],_,_=>by simp [b6n]
 |y::S,hne,hs=>by
  obtain ⟨hy,hS⟩:=List.pairwise_cons.1 hs
  simp only [b6n]
  split
  ·rename_i e
   refine List.pairwise_cons.2 ⟨fun z hz=> ?_,c7c h x S (fun y hy=>hne y (by simp [hy])) hS⟩
   rcases d8s.1 hz with h2|h2
   ·rw [h2]; exact e
   ·exact hy z h2
  ·rename_i e
   have s1:=h.s y x
   have s2:=h.s x y
   have n1:=hne y (by simp)
   have e2:c x y<0:=by omega
   refine List.pairwise_cons.2 ⟨fun z hz=> ?_,hs⟩
   rcases List.mem_cons.1 hz with h2|h2
   ·rw [h2]; exact e2
   ·have q1:=hy z h2
    have q2:=hne z (by simp [h2])
    have:=h.t x y z (by omega) (by omega)
    omega
theorem f7u {x:α} {l:List α} (h:lone c x l=true):∀y∈l,c x y≠0:=fun y hy=>by
 have:=List.all_eq_true.1 h y hy
 simpa using this
theorem b0g (h:Tp c):∀l:List α,(V6 c l).Pairwise (fun a b=>c a b<0)
 |[]=>.nil
 |x::l=>by
  simp only [V6]
  split
  ·rename_i e
   exact c7c h x _ (fun y hy=>f7u e y (a73 l y hy)) (b0g h l)
  ·exact b0g h l
end
def NoX (v:A0):Prop:=∃m,SizeOf.sizeOf v<=m /\ a70 m v=false
theorem NoX.inv {v:A0} (h:NoX v):v.Raws=[] /\ (∀x∈v.Slots,NoX x.2) /\ (∀x∈v.List_,NoX x) /\ ∀x∈v.Pairs,NoX x.2:=by
 obtain ⟨m,hm,h⟩:=h
 have h0:=szV v
 obtain ⟨n,rfl⟩:∃n,m=n+1:=⟨m - 1,by omega⟩
 simp only [a70,Bool.or_eq_false_iff,Bool.not_eq_false',List.isEmpty_iff,List.any_eq_false,Bool.not_eq_true] at h
 exact ⟨h.1,fun x hx=>⟨n,by have:=szS hx; omega,h.2.1 x hx⟩,fun x hx=>⟨n,by have:=szL hx; omega,h.2.2.1 x hx⟩,fun x hx=>⟨n,by have:=szP hx; omega,h.2.2.2 x hx⟩⟩
theorem d1a {α β:Type} {J:Nat ->List β ->Prop} {E:List β ->Prop} (s:List α) (g:α ->List β)
  (c0x:∀i (hi:i<s.length) acc,acc.length<=i ->J (i+1) (acc++g s[i]) ->J i acc) (hg:∀x∈s,(g x).length<=1)
  (fin:∀acc,acc.length<=s.length ->E acc ->J s.length acc) (h:E (s.flatMap g)):J 0 []:=by
 have key:∀d i (acc:List β),s.length - i<=d ->i<=s.length ->acc.length<=i ->E (acc++(s.drop i).flatMap g) ->J i acc:=by
  intro d
  induction d with
  |zero=>
   intro i acc hd hi ha hE
   have e:i=s.length:=by omega
   subst e
   rw [List.drop_length] at hE
   exact fin acc ha (by simpa using hE)
  |succ d ih=>
   intro i acc hd hi ha hE
   rcases Nat.lt_or_ge i s.length with hlt|hge
   ·have dl:s.drop i=s[i]::s.drop (i+1):=List.drop_eq_getElem_cons hlt
    rw [dl,List.flatMap_cons,<-List.append_assoc] at hE
    refine c0x i hlt acc ha (ih (i+1) _ (by omega) (by omega) ?_ hE)
    have:=hg _ (List.getElem_mem hlt)
    simp; omega
   ·have e:i=s.length:=by omega
    subst e
    rw [List.drop_length] at hE
    exact fin acc ha (by simpa using hE)
 exact key s.length 0 [] (by omega) (by omega) (by simp) (by simpa using h)
theorem f1g {α β:Type} (s:List α) (g:α ->List β) (hg:∀x∈s,(g x).length<=1):(s.flatMap g).length<=s.length:=by
 induction s with
 |nil=>simp
 |cons x s ih=>
  have h1:=hg x (by simp)
  have h2:=ih fun y hy=>hg y (by simp [hy])
  simp only [List.flatMap_cons,List.length_append,List.length_cons]
  omega
theorem d2f {α β:Type} (f:α ->β):∀s:List α,s.flatMap (fun x=>[f x])=s.map f
 |[]=>rfl
 |x::s=>by simp [d2f f s]
abbrev c9o:=Int ->A0 ->A0
def a9f (N:c9o) (o:GOp) (v:A0):A0:=if o.Kind=10 then N o.Target v else a1e v
noncomputable def b58 (l:List (A0 × A0)):List (A0 × A0):=V6 (kc (SizeOf.sizeOf l)) l
noncomputable def b1y (N:c9o) (o:GOp) (v:A0):A0:=
 if o.Card=4 then ⟨11,0,⟨#[]⟩,v.List_.map (a9f N o),[],[],[]⟩
 else if o.Card=5 then ⟨12,0,⟨#[]⟩,[],(b58 v.Pairs).map (fun x=>(a1e x.1,a9f N o x.2)),[],[]⟩
 else a9f N o v
def e0d (o:GOp):Bool:=((o.Card==3)||(o.Card==4))||(o.Card==5)
noncomputable def b31 (N:c9o) (o:GOp) (num:Int) (v:A0):List (Int × A0):=if (!e0d o|| !b7n (b1y N o v))=true then [(num,b1y N o v)] else []
noncomputable def c2i (N:c9o) (g:B6) (v:A0):A0:=⟨10,0,⟨#[]⟩,[],[],(V6 kn v.Slots).flatMap fun x=>b31 N (opV g x.1).1 x.1 x.2,sC kr v.Raws⟩
noncomputable def J2 (p:A5):Nat ->c9o
 |0,_,_=>⟨0,0,⟨#[]⟩,[],[],[],[]⟩
 |n+1,t,v=>match p.Progs[t.toNat]? with
  |none=>⟨0,0,⟨#[]⟩,[],[],[],[]⟩
  |some g=>c2i (J2 p n) g v
theorem d4b (N:c9o) (o:GOp) (num:Int) (v:A0):(b31 N o num v).length<=1:=by
 unfold b31; split<;>simp
theorem g3m (l:List (A0 × A0)) (h:∀x∈l,OkD x.1 /\ OkD x.2):∀x∈l,OkP (SizeOf.sizeOf l) x:=fun x hx=>by
 have:=List.sizeOf_lt_of_mem hx
 refine ⟨(h x hx).1, ?_⟩
 cases x
 simp at this ⊢
 omega
theorem a7k {l:List (A0 × A0)} {x:A0 × A0} (h:x∈b58 l):x∈l:=a73 l x h
theorem c4b (l:List (A0 × A0)):(b58 l).length<=l.length:=b8a l
theorem OkV.bits {v:A0} (h:OkV v):0<=v.Bits /\ v.Bits<18446744073709551616:=⟨h.b0,h.b1⟩
theorem d94 {v:A0} (h:OkD v):OkD (a1e v):=by
 unfold a1e
 split
 ·cases h with
  |mk _ k b t l p s r hl hk hv hn hs hr w=>exact .mk _ k (show U64 9221120237041090560 from ⟨by decide,by decide⟩) t l p s r hl hk hv hn hs hr w
 ·exact h
theorem d9c {num:Int}:∀{l:List GOp},(opL num l).2=false ->(opL num l).1=op0
 |[],_=>rfl
 |o::l,h=>by
  by_cases e:(o.Num==num)=true
  ·have q:opL num (o::l)=(o,true):=by simp only [opL]; rw [if_pos e]
   rw [q] at h; cases h
  ·have q:opL num (o::l)=opL num l:=by simp only [opL]; rw [if_neg e]
   rw [q] at h ⊢
   exact d9c h
def OpG (p:A5) (o:GOp):Prop:=o.Kind=10 ->∃g,p.Progs[o.Target.toNat]? =some g /\ 0<=o.Target
theorem f9z {p:A5} (hp:OkX p) {g:B6} (hg:g∈p.Progs) (num:Int):OpG p (opV g num).1:=by
 intro h
 rcases Bool.eq_false_or_eq_true (opV g num).2 with q|q
 ·obtain ⟨_,hop⟩:=d1l q
  obtain ⟨t0,t1,_⟩:=((hp.va.pro g hg).2 _ hop).msg h
  have hlt:(opV g num).1.Target.toNat<p.Progs.length:=by omega
  exact ⟨_,List.getElem?_eq_getElem hlt,t0⟩
 ·have:(opV g num).1=op0:=d9c q
  rw [this] at h
  exact absurd h (by decide)
section
variable {p:A5} (hp:OkX p)
 include hp
section
variable {N:c9o} {B:A0 ->Prop} (hN:∀(t:Int) (g:B6) (v:A0),p.Progs[t.toNat]? =some g ->0<=t ->B v ->b05 p t v (N t v))
 include hN
theorem d2g (o:GOp) (ho:OpG p o) (v:A0) (hv:OkD v) (hb:B v):a6s p o v (a9f N o v):=by
 refine c2c _ _ _ _ ⟨fun h=> ?_,fun h=>⟨_,d2z v hv.okv.bits, ?_⟩⟩
 ·have hk:o.Kind=10:=by simpa using h
  obtain ⟨g,hg,t0⟩:=ho hk
  exact ⟨_,hN _ g v hg t0 hb,by rw [a9f,if_pos hk]⟩
 ·rw [a9f,if_neg (by simpa using h)]
theorem e9g (o:GOp) (ho:OpG p o) (v:A0) (hv:OkD v) (hb:B v) (hbl:∀x∈v.List_,B x) (hbp:∀x∈v.Pairs,B x.2):b27 p o v (b1y N o v):=by
 obtain ⟨_,_,⟨la,pa,sa,ra⟩,hl,hps,hs⟩:=hv.inv
 have b1:=E4 la; have b2:=E4 pa
 have w1:=E4 hv.w.1; have w2:=E4 hv.w.2.1
 refine c0c _ _ _ _ ⟨fun h=> ?_,fun h=>⟨fun h4=>⟨_,e9r _ v.Pairs (by omega) (g3m _ hps), ?_⟩,fun h4=>⟨_,d2g hp hN o ho v hv hb, ?_⟩⟩⟩
 ·have hc:o.Card=4:=by simpa using h
  refine d1a (J:=fun i acc=>a28 i v p o acc _) (E:=fun acc=>b1y N o v=⟨11,0,⟨#[]⟩,acc,[],[],[]⟩) v.List_ (fun x=>[a9f N o x]) (fun i hi acc ha hj=> ?_) (fun x hx=>by simp) (fun acc ha he=> ?_) ?_
  ·have e1:wI ((i:Int)+1)=((i+1:Nat):Int):=by rw [wI,D5 (by omega)]; omega
   have hx:=List.getElem_mem hi
   refine a7a _ _ _ _ _ _ ⟨fun _=>⟨v.List_[i],by simp,by omega,_,d2g hp hN o ho _ (hl _ hx) (hbl _ hx),by simp; omega, ?_⟩,fun h=>by simp at h; omega⟩
   rw [e1]; exact hj
  ·exact a7a _ _ _ _ _ _ ⟨fun h=>by simp at h,fun _=>he⟩
  ·rw [d2f,b1y,if_pos hc]
 ·have hc:o.Card=5:=by simpa using h4
  have hc4:¬o.Card=4:=by simpa using h
  have b3:=c4b v.Pairs
  refine d1a (J:=fun i acc=>a3g i (b58 v.Pairs) p o acc _) (E:=fun acc=>b1y N o v=⟨12,0,⟨#[]⟩,[],acc,[],[]⟩) (b58 v.Pairs) (fun x=>[(a1e x.1,a9f N o x.2)]) (fun i hi acc ha hj=> ?_) (fun x hx=>by simp) (fun acc ha he=> ?_) ?_
  ·have e1:wI ((i:Int)+1)=((i+1:Nat):Int):=by rw [wI,D5 (by omega)]; omega
   have hx:=a7k (List.getElem_mem hi)
   refine a67 _ _ _ _ _ _ ⟨fun _=>⟨(b58 v.Pairs)[i],by simp,by omega,_,d2z _ (hps _ hx).1.okv.bits,_,d2g hp hN o ho _ (hps _ hx).2 (hbp _ hx),by simp; omega, ?_⟩,fun h=>by simp at h; omega⟩
   rw [e1]; exact hj
  ·exact a67 _ _ _ _ _ _ ⟨fun h=>by simp at h,fun _=>he⟩
  ·rw [d2f,b1y,if_neg hc4,if_pos hc]
 ·rw [b1y,if_neg (by simpa using h),if_neg (by simpa using h4)]
theorem d27 (hNok:∀t v,OkD v ->OkD (N t v)) (o:GOp) (v:A0) (hv:OkD v):OkD (b1y N o v):=by
 have key:∀v,OkD v ->OkD (a9f N o v):=fun v hv=>by
  unfold a9f; split
  ·exact hNok _ _ hv
  ·exact d94 hv
 obtain ⟨_,_,⟨la,pa,sa,ra⟩,hl,hps,hs⟩:=hv.inv
 obtain ⟨w1,w2,_,_⟩:=hv.w
 have z:Sz 0:=Nat.zero_le _
 have b3:=c4b v.Pairs
 unfold b1y
 split
 ·refine .mk _ (show I64 11 from ⟨by decide,by decide⟩) (show U64 0 from ⟨by decide,by decide⟩) z (by simpa using la) z z z (fun x hx=> ?_) (fun x hx=>by cases hx) (fun x hx=>by cases hx) (fun x hx=>by cases hx) (fun x hx=>by cases hx) (fun x hx=>by cases hx) ⟨by simpa using w1,z,z,z⟩
  obtain ⟨y,hy,rfl⟩:=List.mem_map.1 hx
  exact key y (hl y hy)
 split
 ·refine .mk _ (show I64 12 from ⟨by decide,by decide⟩) (show U64 0 from ⟨by decide,by decide⟩) z z ?_ z z (fun x hx=>by cases hx) (fun x hx=> ?_) (fun x hx=> ?_) (fun x hx=>by cases hx) (fun x hx=>by cases hx) (fun x hx=>by cases hx) ⟨z, ?_,z,z⟩
  ·simp only [List.length_map]; exact Nat.le_trans b3 pa
  ·obtain ⟨y,hy,rfl⟩:=List.mem_map.1 hx
   exact d94 (hps y (a7k hy)).1
  ·obtain ⟨y,hy,rfl⟩:=List.mem_map.1 hx
   exact key _ (hps y (a7k hy)).2
  ·simp only [List.length_map]; exact Nat.le_trans (Nat.mul_le_mul_right _ b3) w2
 ·exact key v hv
theorem e9x (hNok:∀t v,OkD v ->OkD (N t v)) (t:Int) (ht:0<=t) (g:B6) (hgt:p.Progs[t.toNat]? =some g) (v:A0) (hv:OkD v) (hX:v.Raws=[]) (hb:∀x∈v.Slots,B x.2 /\ (∀y∈x.2.List_,B y) /\ ∀y∈x.2.Pairs,B y.2):b05 p t v (c2i N g v):=by
 have hg:g∈p.Progs:=List.mem_of_getElem? hgt
 have hlt:t.toNat<p.Progs.length:=(List.getElem?_eq_some_iff.1 hgt).1
 obtain ⟨_,_,⟨la,pa,sa,ra⟩,hl,hps,hs⟩:=hv.inv
 have b1:=E4 sa; have w3:=E4 hv.w.2.2.1; have w4:=E4 hv.w.2.2.2
 have b3:=b8a (c:=kn) v.Slots
 have so:=e6n v.Slots (by omega)
 have off:((decide (t<0))||(decide ((p.Progs.length:Int)<=t)))=false:=by simp; omega
 have may:∀(o:GOp),e0d o=(((o.Card==3)||(o.Card==4))||(o.Card==5)):=fun _=>rfl
 refine c9k _ _ _ _ ⟨fun h0=>⟨b1w _ _ fun b hbb=>⟨fun _=>rfl,fun _=>⟨by rw [h0]; simp,by rw [h0]; rfl⟩⟩,fun h=>(by rw [off] at h; cases h),fun _=>⟨_,so, ?_⟩⟩,fun h0=>absurd hX h0⟩
 ·refine d1a (J:=fun i acc=>a9e i (V6 kn v.Slots) t p acc _) (E:=fun acc=>c2i N g v=⟨10,0,⟨#[]⟩,[],[],acc,[]⟩) (V6 kn v.Slots) (fun x=>b31 N (opV g x.1).1 x.1 x.2) (fun i hi acc ha hj=> ?_) (fun x hx=>d4b _ _ _ _) (fun acc ha he=> ?_) ?_
  ·have e1:wI ((i:Int)+1)=((i+1:Nat):Int):=by rw [wI,D5 (by omega)]; omega
   have hx:=a73 _ _ (List.getElem_mem hi)
   have oz:=d27 hp hN hNok (opV g (V6 kn v.Slots)[i].1).1 _ (hs _ hx)
   refine b3v _ _ _ _ _ _ ⟨fun _=>⟨(V6 kn v.Slots)[i],by simp,by omega,g,hgt,ht,_,e8a g (hp.ops hg) _,_,e9g hp hN _ (f9z hp hg _) _ (hs _ hx) (hb _ hx).1 (hb _ hx).2.1 (hb _ hx).2.2,fun b=>b=(!e0d (opV g (V6 kn v.Slots)[i].1).1|| !b7n (b1y N (opV g (V6 kn v.Slots)[i].1).1 (V6 kn v.Slots)[i].2)),fun b hbb=>⟨fun h=> ?_,fun h=> ?_⟩,fun h=> ?_,fun h=>⟨_,f15 _ oz.okv, ?_⟩⟩,fun h=>by simp at h; omega⟩
   ·subst hbb
    refine ⟨by simp; omega, ?_⟩
    rw [b31,if_pos h] at hj
    rw [e1]; exact hj
   ·subst hbb
    rw [b31,if_neg (nt h)] at hj
    rw [e1]; simpa using hj
   ·rw [may,h,Bool.true_or]
   ·rw [may,h,Bool.false_or]
  ·exact b3v _ _ _ _ _ _ ⟨fun h=>by simp at h,fun _=>⟨a3w _,he⟩⟩
  ·rw [c2i,h0]; rfl
theorem f0s (hNok:∀t v,OkD v ->OkD (N t v)) (g:B6) (v:A0) (hv:OkD v):OkD (c2i N g v):=by
 have z:Sz 0:=Nat.zero_le _
 obtain ⟨_,_,⟨la,pa,sa,ra⟩,hl,hps,hs⟩:=hv.inv
 obtain ⟨_,_,w3,w4⟩:=hv.w
 have hlen:((V6 kn v.Slots).flatMap fun x=>b31 N (opV g x.1).1 x.1 x.2).length<=v.Slots.length:=Nat.le_trans (f1g _ _ fun x hx=>d4b _ _ _ _) (b8a _)
 have hr:(sC kr v.Raws).length=v.Raws.length:=(c8s v.Raws).length_eq
 have hi:∀x∈v.Slots,I64 x.1:=by cases hv with|mk _ _ _ _ _ _ _ _ _ _ _ hn _ _ _=>exact hn
 have mem:∀x∈(V6 kn v.Slots).flatMap fun x=>b31 N (opV g x.1).1 x.1 x.2,I64 x.1 /\ OkD x.2:=fun x hx=>by
  obtain ⟨y,hy,h⟩:=List.mem_flatMap.1 hx
  unfold b31 at h
  split at h
  ·have:=List.mem_singleton.1 h
   subst this
   have hy':=a73 _ _ hy
   exact ⟨hi y hy',d27 hp hN hNok _ _ (hs y hy')⟩
  ·cases h
 refine .mk _ (show I64 10 from ⟨by decide,by decide⟩) (show U64 0 from ⟨by decide,by decide⟩) z z z (Nat.le_trans hlen sa) (show Sz (sC kr v.Raws).length by rw [hr]; exact ra) (fun x hx=>by cases hx) (fun x hx=>by cases hx) (fun x hx=>by cases hx) (fun x hx=>(mem x hx).1) (fun x hx=>(mem x hx).2) (fun x hx=>hv.raws x ((c8s v.Raws).mem_iff.1 hx)) ⟨z,z,Nat.le_trans (Nat.mul_le_mul_right _ hlen) w3,show Sz ((sC kr v.Raws).length*40) by rw [hr]; exact w4⟩
end
theorem d8k:OkD ⟨0,0,⟨#[]⟩,[],[],[],[]⟩:=by
 have z:Sz 0:=Nat.zero_le _
 exact .mk _ ⟨by decide,by decide⟩ ⟨by decide,by decide⟩ z z z z z (fun x hx=>by cases hx) (fun x hx=>by cases hx) (fun x hx=>by cases hx) (fun x hx=>by cases hx) (fun x hx=>by cases hx) (fun x hx=>by cases hx) ⟨z,z,z,z⟩
theorem b92:∀(n:Nat),(∀(t:Int) (g:B6) (v:A0),p.Progs[t.toNat]? =some g ->0<=t ->OkD v /\ SizeOf.sizeOf v<=n /\ NoX v ->b05 p t v (J2 p n t v)) /\ ∀t v,OkD v ->OkD (J2 p n t v)
 |0=>⟨fun t g v _ _ h=>by have:=szV v; omega,fun t v _=>d8k hp⟩
 |n+1=>by
  obtain ⟨h1,h2⟩:=b92 n
  refine ⟨fun t g v hgt ht ⟨hv,hn,hX⟩=> ?_,fun t v hv=> ?_⟩
  ·obtain ⟨_,_,_,_,_,hs⟩:=hv.inv
   obtain ⟨x1,x2,_,_⟩:=hX.inv
   have hB:∀x∈v.Slots,(OkD x.2 /\ SizeOf.sizeOf x.2<=n /\ NoX x.2) /\ (∀y∈x.2.List_,OkD y /\ SizeOf.sizeOf y<=n /\ NoX y) /\ ∀y∈x.2.Pairs,OkD y.2 /\ SizeOf.sizeOf y.2<=n /\ NoX y.2:=fun x hx=>by
    have z1:=szS hx
    obtain ⟨_,_,_,q1,q2,_⟩:=(hs x hx).inv
    obtain ⟨_,_,y2,y3⟩:=(x2 x hx).inv
    exact ⟨⟨hs x hx,by omega,x2 x hx⟩,fun y hy=>⟨q1 y hy,by have:=szL hy; omega,y2 y hy⟩,fun y hy=>⟨(q2 y hy).2,by have:=szP hy; omega,y3 y hy⟩⟩
   have e:J2 p (n+1) t v=c2i (J2 p n) g v:=by simp only [J2,hgt]
   rw [e]
   exact e9x hp h1 h2 t ht g hgt v hv x1 hB
  ·simp only [J2]
   split
   ·exact d8k hp
   ·exact f0s hp h1 h2 _ v hv
theorem e92 (n:Nat) (t:Int) (g:B6) (v:A0) (hgt:p.Progs[t.toNat]? =some g) (ht:0<=t) (hv:OkD v) (hn:SizeOf.sizeOf v<=n) (hX:NoX v):b05 p t v (J2 p n t v):=(b92 hp n).1 t g v hgt ht ⟨hv,hn,hX⟩
theorem d3k (n:Nat) (t:Int) (v:A0) (hv:OkD v):OkD (J2 p n t v):=(b92 hp n).2 t v hv
end
theorem b8p {α β:Type} {s:List α} {f g:α ->List β} (h:∀x∈s,f x=g x):s.flatMap f=s.flatMap g:=by
 induction s with
 |nil=>rfl
 |cons x s ih=>rw [List.flatMap_cons,List.flatMap_cons,h x (by simp),ih fun y hy=>h y (by simp [hy])]
section
variable {β:Type} (G:GOp ->Int × A0 ->List β)
def c9q (l:List (Int × A0)) (o:GOp):List β:=l.flatMap fun x=>if x.1=o.Num then G o x else []
theorem b75 {l:List (Int × A0)} {o:GOp} (h:∀x∈l,x.1≠o.Num):c9q G l o=[]:=by
 unfold c9q
 rw [List.flatMap_eq_nil_iff]
 intro x hx
 rw [if_neg (h x hx)]
def g1v (l:List (Int × A0)):Prop:=l.Pairwise fun x y=>x.1≠y.1
theorem e3q {l m:List (Int × A0)} (h:l.Perm m) (hd:g1v l) (o:GOp):c9q G l o=c9q G m o:=by
 induction h with
 |nil=>rfl
 |cons x h ih=>
  have:=ih (List.pairwise_cons.1 hd).2
  unfold c9q at this ⊢
  rw [List.flatMap_cons,List.flatMap_cons,this]
 |swap x y l=>
  have h1:=(List.pairwise_cons.1 hd).1 x (by simp)
  unfold c9q
  simp only [List.flatMap_cons]
  by_cases e:y.1=o.Num
  ·rw [if_neg (show ¬x.1=o.Num by omega)]; simp
  ·rw [if_neg e]; simp
 |trans h1 h2 ih1 ih2=>exact (ih1 hd).trans (ih2 (h1.pairwise hd fun h=>h.symm))
theorem e63:∀(ops:List GOp) (S:List (Int × A0)),ops.Pairwise (fun a b=>a.Num<b.Num) ->S.Pairwise (fun x y=>x.1<y.1) ->(∀x∈S,∃o∈ops,o.Num=x.1) ->ops.flatMap (c9q G S)=S.flatMap fun x=>G (opL x.1 ops).1 x
 |[],S,_,_,hs=>by
  cases S with
  |nil=>rfl
  |cons x S=>obtain ⟨o,ho,_⟩:=hs x (by simp); cases ho
 |o::ops,S,hops,hS,hs=>by
  obtain ⟨h1,h2⟩:=List.pairwise_cons.1 hops
  cases S with
  |nil=>simp [c9q]
  |cons x S=>
   obtain ⟨h3,h4⟩:=List.pairwise_cons.1 hS
   rw [List.flatMap_cons]
   by_cases e:x.1=o.Num
   ·have hin:∀y∈S,∃q∈ops,q.Num=y.1:=fun y hy=>by
     obtain ⟨q,hq,hn⟩:=hs y (by simp [hy])
     rcases List.mem_cons.1 hq with h5|h5
     ·rw [h5] at hn
      have:=h3 y hy
      omega
     ·exact ⟨q,h5,hn⟩
    have ih:=e63 ops S h2 h4 hin
    have e1:c9q G (x::S) o=G o x:=by
     have:c9q G S o=[]:=b75 G fun y hy=>by have:=h3 y hy; omega
     unfold c9q at this ⊢
     rw [List.flatMap_cons,this,if_pos e,List.append_nil]
    have e2:ops.flatMap (c9q G (x::S))=ops.flatMap (c9q G S):=by
     refine b8p fun q hq=> ?_
     have:=h1 q hq
     unfold c9q
     rw [List.flatMap_cons,if_neg (by omega),List.nil_append]
    rw [e1,e2,ih,List.flatMap_cons]
    have e3:opL x.1 (o::ops)=(o,true):=by simp only [opL]; rw [if_pos (by simp [e])]
    rw [e3]
    congr 1
    refine b8p fun y hy=> ?_
    have:=h3 y hy
    simp only [opL]
    rw [if_neg (by simp; omega)]
   ·have hin:∀y∈x::S,∃q∈ops,q.Num=y.1:=fun y hy=>by
     obtain ⟨q0,hq0,hn0⟩:=hs x (by simp)
     have hx:o.Num<x.1:=by
      rcases List.mem_cons.1 hq0 with h5|h5
      ·rw [h5] at hn0; omega
      ·have:=h1 q0 h5; omega
     obtain ⟨q,hq,hn⟩:=hs y hy
     rcases List.mem_cons.1 hq with h5|h5
     ·rw [h5] at hn
      rcases List.mem_cons.1 hy with h6|h6
      ·rw [h6] at hn; omega
      ·have:=h3 y h6; omega
     ·exact ⟨q,h5,hn⟩
    have hne:∀y∈x::S,y.1≠o.Num:=fun y hy=>by
     obtain ⟨q,hq,hn⟩:=hin y hy
     have:=h1 q hq
     omega
    have ih:=e63 ops (x::S) h2 hS hin
    rw [b75 G hne,List.nil_append,ih]
    refine b8p fun y hy=> ?_
    have:=hne y hy
    simp only [opL]
    rw [if_neg (by simp; omega)]
end
theorem c81 {α:Type} {c:α ->α ->Int}:∀(l:List α),l.Pairwise (fun x y=>c x y≠0) ->(V6 c l).Perm l
 |[],_=>.refl _
 |x::l,h=>by
  obtain ⟨h1,h2⟩:=List.pairwise_cons.1 h
  have:lone c x l=true:=by
   rw [lone,List.all_eq_true]
   intro y hy
   simpa using h1 y hy
  simp only [V6]
  rw [if_pos this]
  exact (b7e x _).trans ((c81 l h2).cons x)
theorem c43 {β:Type} (G:GOp ->Int × A0 ->List β) (ops:List GOp) (l:List (Int × A0)) (hops:ops.Pairwise (fun a b=>a.Num<b.Num)) (hd:g1v l) (hs:∀x∈l,∃o∈ops,o.Num=x.1):ops.flatMap (c9q G l)=(V6 kn l).flatMap fun x=>G (opL x.1 ops).1 x:=by
 have hp:(V6 kn l).Perm l:=c81 l (hd.imp fun {x y} h=>e4t.2 h)
 have hS:(V6 kn l).Pairwise (fun x y=>x.1<y.1):=(b0g e9v l).imp fun {x y} h=>by
  rcases W9 x.1 y.1 with q|q|q<;>simp only [kn] at h<;>omega
 rw [<-e63 G ops (V6 kn l) hops hS fun x hx=>hs x (hp.mem_iff.1 hx)]
 exact b8p fun o _=>e3q G hp.symm hd o
theorem c6y {l:List GOp} (h:Asc l l.length):l.Pairwise fun a b=>a.Num<b.Num:=by
 rw [List.pairwise_iff_getElem]
 have key:∀d i (hi:i<l.length) (hj:i+d+1<l.length),l[i].Num<l[i+d+1].Num:=by
  intro d
  induction d with
  |zero=>intro i hi hj; exact h i _ _ hj (List.getElem?_eq_getElem hi) (List.getElem?_eq_getElem hj)
  |succ d ih=>
   intro i hi hj
   have h1:=ih i hi (by omega)
   have h2:=h (i+d+1) _ _ (by omega) (List.getElem?_eq_getElem (by omega)) (List.getElem?_eq_getElem (show i+d+1+1<l.length by omega))
   have e:l[i+(d+1)+1]=l[i+d+1+1]:=rfl
   rw [e]
   omega
 intro i j hi hj hij
 have:=key (j - i - 1) i hi (by omega)
 have e:i+(j - i - 1)+1=j:=by omega
 simp only [e] at this
 exact this
theorem b8k {a b:Int} (h:orE a b=0):a=0 /\ b=0:=by
 unfold orE at h
 split at h
 ·rename_i q; exact absurd h q
 ·rename_i q; exact ⟨by omega,h⟩
structure h1w (M:d90) (p:A5) (g:B6) (v:A0) (lev:Int):Prop where
 kind:v.Kind=10
 other:a9v v=false
 deep:lev<=16
 known:∀x∈v.Slots,(opV g x.1).2=true
 diff:g1v v.Slots
 field:∀x∈v.Slots,b1o M p (opV g x.1).1 x.2 lev=0
 need:∀o∈g.Ops,o.Card=1 ->∃x∈v.Slots,x.1=o.Num
theorem e4u {M:d90} {p:A5} {g:B6} {v:A0} {lev:Int} (h:e8p M p g v lev=0):h1w M p g v lev:=by
 unfold e8p at h
 split at h
 ·exact absurd h (by decide)
 rename_i h1
 split at h
 ·exact absurd h (by decide)
 rename_i h2
 obtain ⟨h3,h4⟩:=b8k h
 obtain ⟨h5,h6⟩:=b8k h4
 have h1':v.Kind=10 /\ a9v v=false:=by simpa using h1
 have sl:=fun i hi=>b61 0 h3 i (Nat.zero_le _) hi
 have sl2:∀i (hi:i<v.Slots.length),(opV g v.Slots[i].1).2=true /\ ((v.Slots.take i).any fun y=>y.1==v.Slots[i].1)=false /\ b1o M p (opV g v.Slots[i].1).1 v.Slots[i].2 lev=0:=by
  intro i hi
  have:=sl i hi
  simp only [d1e,List.getElem?_eq_getElem hi] at this
  split at this
  ·exact absurd this (by decide)
  rename_i q1
  split at this
  ·exact absurd this (by decide)
  rename_i q2
  split at this
  ·exact absurd this (by decide)
  exact ⟨by simpa using q1,(by revert q2; cases ((v.Slots.take i).any fun y=>y.1==v.Slots[i].1)<;>simp),this⟩
 refine ⟨h1'.1,h1'.2,by omega,fun x hx=> ?_, ?_,fun x hx=> ?_,fun o ho hc=> ?_⟩
 ·obtain ⟨i,hi,rfl⟩:=List.mem_iff_getElem.1 hx
  exact (sl2 i hi).1
 ·unfold g1v
  rw [List.pairwise_iff_getElem]
  intro i j hi hj hij e
  have:=(sl2 j hj).2.1
  rw [List.any_eq_false] at this
  have hm:v.Slots[i]∈v.Slots.take j:=by
   rw [List.mem_take_iff_getElem]
   exact ⟨i,by omega,rfl⟩
  exact this _ hm (by simpa using e)
 ·obtain ⟨i,hi,rfl⟩:=List.mem_iff_getElem.1 hx
  exact (sl2 i hi).2.2
 ·obtain ⟨i,hi,rfl⟩:=List.mem_iff_getElem.1 ho
  have:=b61 0 h5 i (Nat.zero_le _) hi
  simp only [d4l,List.getElem?_eq_getElem hi] at this
  split at this
  ·exact absurd this (by decide)
  rename_i q
  rcases Bool.eq_false_or_eq_true (v.Slots.any fun y=>y.1==g.Ops[i].Num) with r|r
  ·obtain ⟨x,hx,hn⟩:=List.any_eq_true.1 r
   exact ⟨x,hx,by simpa using hn⟩
  ·exact absurd ⟨hc,r⟩ q
theorem c85 {M:d90} {p:A5} {o:GOp} {v:A0} {lev:Int} (h:b1o M p o v lev=0):
  (o.Card=4 ->v.Kind=11 /\ a9v v=false /\ ∀x∈v.List_,b71 M p o x lev=0) /\ (o.Card=5 ->v.Kind=12 /\ a9v v=false /\ (∀x∈v.Pairs,d29 p o.Key (-1) x.1=0 /\ b71 M p o x.2 lev=0) /\ v.Pairs.Pairwise fun x y=>a1z (SizeOf.sizeOf x.1) x.1 y.1≠0) /\ (o.Card≠4 ->o.Card≠5 ->b71 M p o v lev=0):=by
 unfold b1o at h
 refine ⟨fun hc=> ?_,fun hc=> ?_,fun h4 h5=> ?_⟩
 ·rw [if_pos hc] at h
  split at h
  ·exact absurd h (by decide)
  rename_i q
  have q':v.Kind=11 /\ a9v v=false:=by simpa using q
  refine ⟨q'.1,q'.2,fun x hx=> ?_⟩
  obtain ⟨i,hi,rfl⟩:=List.mem_iff_getElem.1 hx
  have:=b61 0 h i (Nat.zero_le _) hi
  simpa only [e3y,List.getElem?_eq_getElem hi] using this
 ·rw [if_neg (by omega),if_pos hc] at h
  split at h
  ·exact absurd h (by decide)
  rename_i q
  have q':v.Kind=12 /\ a9v v=false:=by simpa using q
  have en:∀i (hi:i<v.Pairs.length),d29 p o.Key (-1) v.Pairs[i].1=0 /\ g16 v.Pairs[i] (v.Pairs.take i)=false /\ b71 M p o v.Pairs[i].2 lev=0:=fun i hi=>by
   have:=b61 0 h i (Nat.zero_le _) hi
   simp only [d0i,List.getElem?_eq_getElem hi] at this
   obtain ⟨a,b⟩:=b8k this
   split at b
   ·exact absurd b (by decide)
   rename_i k
   exact ⟨a,by simpa using k,b⟩
  refine ⟨q'.1,q'.2,fun x hx=> ?_, ?_⟩
  ·obtain ⟨i,hi,rfl⟩:=List.mem_iff_getElem.1 hx
   exact ⟨(en i hi).1,(en i hi).2.2⟩
  ·rw [List.pairwise_iff_getElem]
   intro i j hi hj hij e
   have:=(en j hj).2.1
   rw [g16,List.any_eq_false] at this
   have hm:v.Pairs[i]∈v.Pairs.take j:=by
    rw [List.mem_take_iff_getElem]
    exact ⟨i,by omega,rfl⟩
   exact this _ hm (by simpa using e)
 ·rw [if_neg h4,if_neg h5] at h; exact h
section
variable {p:A5} (hp:OkX p)
 include hp
section
variable {N:c9o} {B:Int ->A0 ->Prop} (hN:∀(t:Int) (g:B6) (v:A0),p.Progs[t.toNat]? =some g ->0<=t ->B t v ->e0m p t v (N t v))
 include hN
end
theorem d5v {M:d90} {o:GOp} {v:A0} {lev:Int} (h:b71 M p o v lev=0) (hk:o.Kind=10):M o.Target v (lev+1)=0:=by
 rw [b71,if_pos hk] at h; exact h
theorem e3f {g:B6} (hg:g∈p.Progs) {o:GOp} (ho:o∈g.Ops):opV g o.Num=(o,true):=by
 have h:=c6y (hp.va.asc g hg)
 unfold opV
 generalize g.Ops=l at h ho
 induction l with
 |nil=>cases ho
 |cons q l ih=>
  obtain ⟨h1,h2⟩:=List.pairwise_cons.1 h
  rcases List.mem_cons.1 ho with h3|h3
  ·subst h3
   simp only [opL]; rw [if_pos (by simp)]
  ·have:=h1 o h3
   simp only [opL]; rw [if_neg (by simp; omega)]
   exact ih h2 h3
end
mutual
def bA:AV ->Nat
 |.v (.string s)=>s.size+1
 |.sl els _=>bLL els+1
 |.agg cells=>bL cells+1
 |_=>1
def bL:List AV ->Nat
 |[]=>0
 |a::l=>bA a+bL l
def bLL:List (List AV) ->Nat
 |[]=>0
 |a::l=>bL a+bLL l
end
theorem c2b:∀(a b:List AV),bL (a++b)=bL a+bL b
 |[],b=>by simp [bL]
 |x::a,b=>by simp [bL,c2b a b,Nat.add_assoc]
theorem c3k:∀(l:List (List AV)),bL l.flatten=bLL l
 |[]=>by simp [bL,bLL]
 |x::l=>by simp [c2b,bLL,c3k l]
def wtV (v:A0):Nat:=bL (C0 v)
def a1j {α:Type} (f:α ->Nat):List α ->Nat
 |[]=>0
 |x::l=>f x+a1j f l
theorem e3x {α:Type} (f:α ->List AV):∀l:List α,bLL (l.map f)=a1j (fun x=>bL (f x)) l
 |[]=>rfl
 |x::l=>by simp [bLL,a1j,e3x f l]
abbrev wtP (x:A0 × A0):Nat:=wtV x.1+wtV x.2
abbrev wtS (x:Int × A0):Nat:=1+wtV x.2
abbrev wtR (x:Q0):Nat:=4+x.Data.size
theorem b6z (v:A0):wtV v=7+v.Text.size+a1j wtV v.List_+a1j wtP v.Pairs+a1j wtS v.Slots+a1j wtR v.Raws:=by
 have e1:(fun x:A0 × A0=>bL (B4 x))=wtP:=by funext x; simp [B4,c2b,wtV,wtP]
 have e2:(fun x:Int × A0=>bL (B3 x))=wtS:=by funext x; simp [B3,c2b,wtV,wtS,bL,bA]
 have e3:(fun x:Q0=>bL (T1 x))=wtR:=by funext x; simp [T1,bL,bA,wtR]; omega
 have e4:(fun x:A0=>bL (C0 x))=wtV:=rfl
 rw [wtV,T8]
 simp only [B0,bL,bA,e3x,e1,e2,e3,e4]
 omega
theorem b85 {α:Type} (f:α ->Nat) {l:List α} {x:α} (h:x∈l):f x<=a1j f l:=by
 induction l with
 |nil=>cases h
 |cons y l ih=>
  rcases List.mem_cons.1 h with h|h
  ·subst h; simp only [a1j]; omega
  ·have:=ih h; simp only [a1j]; omega
theorem b2j {α:Type} (f:α ->Nat) (k:Nat):∀{l:List α},(∀x∈l,k<=f x) ->l.length*k<=a1j f l
 |[],_=>by simp [a1j]
 |x::l,h=>by
  have h1:=h x (by simp)
  have h2:=b2j f k (l:=l) fun y hy=>h y (by simp [hy])
  simp only [a1j,List.length_cons,Nat.add_mul]
  omega
theorem f3a (v:A0):7<=wtV v:=by rw [b6z]; omega
theorem g1g (v:A0):(∀x∈v.List_,wtV x<=wtV v) /\ (∀x∈v.Pairs,wtV x.1+wtV x.2<=wtV v) /\ (∀x∈v.Slots,wtV x.2<=wtV v):=by
 have e:=b6z v
 refine ⟨fun x hx=> ?_,fun x hx=> ?_,fun x hx=> ?_⟩
 ·have:=b85 wtV hx; omega
 ·have:=b85 wtP hx; simp only [wtP] at this; omega
 ·have:=b85 wtS hx; simp only [wtS] at this; omega
theorem e7s (v:A0):v.Text.size+v.List_.length+v.Pairs.length+v.Slots.length+v.Raws.length<=wtV v:=by
 have e:=b6z v
 have h1:=b2j wtV 1 (l:=v.List_) fun x _=>by have:=f3a x; omega
 have h2:=b2j wtP 1 (l:=v.Pairs) fun x _=>by have:=f3a x.1; simp only [wtP]; omega
 have h3:=b2j wtS 1 (l:=v.Slots) fun x _=>by simp only [wtS]; omega
 have h4:=b2j wtR 1 (l:=v.Raws) fun x _=>by simp only [wtR]; omega
 omega
theorem d75 {α:Type} (f:α ->Int) (g:α ->Nat):∀{l:List α},(∀x∈l,0<=f x /\ f x<=g x) ->0<=(l.map f).sum /\ (l.map f).sum<=a1j g l
 |[],_=>by simp [a1j]
 |x::l,h=>by
  have h1:=h x (by simp)
  have h2:=d75 f g (l:=l) fun y hy=>h y (by simp [hy])
  simp only [List.map_cons,List.sum_cons,a1j]
  omega
theorem d3d:∀(n:Nat) (v:A0),0<=a2u n v /\ a2u n v<=wtV v
 |0,v=>by simp [a2u]
 |n+1,v=>by
  have e:=b6z v
  have h1:=d75 (a2u n) wtV (l:=v.List_) fun x _=>d3d n x
  have h2:=d75 (fun x:A0 × A0=>a2u n x.1+a2u n x.2) wtP (l:=v.Pairs) fun x _=>by
   have a:=d3d n x.1; have b:=d3d n x.2
   simp only [wtP]; omega
  have h3:=d75 (fun x:Int × A0=>a2u n x.2) wtS (l:=v.Slots) fun x _=>by
   have a:=d3d n x.2
   simp only [wtS]; omega
  have h4:=b2j wtR 1 (l:=v.Raws) fun x _=>by simp only [wtR]; omega
  simp only [a2u]
  omega
def b9g (v:A0):List A0:=v.List_++(v.Pairs.flatMap fun x=>[x.1,x.2])++v.Slots.map fun x=>x.2
theorem f2h (v:A0) (hv:OkD v) (hw:wtV v<=274877906944):b9t v (b9g v):=by
 have hl:=e7s v
 obtain ⟨_,_,⟨la,pa,sa,ra⟩,_,_,_⟩:=hv.inv
 have w1:=E4 hv.w.1
 refine c5k _ _ ⟨a5z _ (by omega), ?_⟩
 have j6:∀d i (acc:List A0),v.Slots.length - i<=d ->i<=v.Slots.length ->acc.length+(v.Slots.length - i)<=549755813888 ->a8d i v acc (acc++(v.Slots.drop i).map fun x=>x.2):=by
  intro d
  induction d with
  |zero=>
   intro i acc hd hi ha
   have e:i=v.Slots.length:=by omega
   subst e
   exact a4x _ _ _ _ ⟨fun h=>by simp at h,fun _=>by simp⟩
  |succ d ih=>
   intro i acc hd hi ha
   rcases Nat.lt_or_ge i v.Slots.length with hlt|hge
   ·have e1:wI ((i:Int)+1)=((i+1:Nat):Int):=by rw [wI,D5 (by omega)]; omega
    have dl:v.Slots.drop i=v.Slots[i]::v.Slots.drop (i+1):=List.drop_eq_getElem_cons hlt
    refine a4x _ _ _ _ ⟨fun _=>⟨v.Slots[i],by simp,by omega,by simp; omega, ?_⟩,fun h=>by simp at h; omega⟩
    rw [e1,dl]
    have:=ih (i+1) (acc++[v.Slots[i].2]) (by omega) (by omega) (by simp; omega)
    rw [List.append_assoc] at this
    exact this
   ·have e:i=v.Slots.length:=by omega
    subst e
    exact a4x _ _ _ _ ⟨fun h=>by simp at h,fun _=>by simp⟩
 have j4:∀d i (acc:List A0),v.Pairs.length - i<=d ->i<=v.Pairs.length ->acc.length+2*(v.Pairs.length - i)+v.Slots.length<=549755813888 ->a8c i v acc (acc++((v.Pairs.drop i).flatMap fun x=>[x.1,x.2])++v.Slots.map fun x=>x.2):=by
  intro d
  induction d with
  |zero=>
   intro i acc hd hi ha
   have e:i=v.Pairs.length:=by omega
   subst e
   refine a5d _ _ _ _ ⟨fun h=>by simp at h,fun _=> ?_⟩
   have:=j6 v.Slots.length 0 acc (by omega) (by omega) (by omega)
   simpa using this
  |succ d ih=>
   intro i acc hd hi ha
   rcases Nat.lt_or_ge i v.Pairs.length with hlt|hge
   ·have e1:wI ((i:Int)+1)=((i+1:Nat):Int):=by rw [wI,D5 (by omega)]; omega
    have dl:v.Pairs.drop i=v.Pairs[i]::v.Pairs.drop (i+1):=List.drop_eq_getElem_cons hlt
    refine a5d _ _ _ _ ⟨fun _=>⟨v.Pairs[i],by simp,by omega,by simp; omega, ?_⟩,fun h=>by simp at h; omega⟩
    rw [e1,dl]
    have:=ih (i+1) (acc++[v.Pairs[i].1,v.Pairs[i].2]) (by omega) (by omega) (by simp; omega)
    rw [List.flatMap_cons,<-List.append_assoc acc]
    exact this
   ·have e:i=v.Pairs.length:=by omega
    subst e
    refine a5d _ _ _ _ ⟨fun h=>by simp at h,fun _=> ?_⟩
    have:=j6 v.Slots.length 0 acc (by omega) (by omega) (by omega)
    simpa using this
 have h:=j4 v.Pairs.length 0 v.List_ (by omega) (by omega) (by omega)
 simpa [b9g] using h
theorem e8d (f:A0 ->Int) (v:A0):((b9g v).map f).sum=(v.List_.map f).sum+(v.Pairs.map fun x=>f x.1+f x.2).sum+(v.Slots.map fun x=>f x.2).sum:=by
 have key:∀l:List (A0 × A0),((l.flatMap fun x=>[x.1,x.2]).map f).sum=(l.map fun x=>f x.1+f x.2).sum:=by
  intro l
  induction l with
  |nil=>rfl
  |cons x l ih=>simp only [List.flatMap_cons,List.map_append,List.sum_append,List.map_cons,List.map_nil,List.sum_cons,List.sum_nil,ih]; omega
 simp only [b9g,List.map_append,List.sum_append,key,List.map_map]
 rfl
theorem c1f:∀(n:Nat) (v:A0),OkD v ->SizeOf.sizeOf v<=n ->wtV v<=274877906944 ->b1u v (wI (a2u n v))
 |0,v,_,h,_=>by have:=szV v; omega
 |n+1,v,hv,hn,hw=>by
  obtain ⟨_,_,_,hl,hp,hs⟩:=hv.inv
  obtain ⟨m1,m2,m3⟩:=g1g v
  have hlen:=e7s v
  refine c5c _ _ ⟨_,f2h v hv hw, ?_⟩
  have e:a2u (n+1) v=1+(v.Raws.length:Int)+((b9g v).map (a2u n)).sum:=by
   rw [e8d]; simp only [a2u]; omega
  have il:(b9g v).length<=3298534883328:=by
   have:(v.Pairs.flatMap fun x=>[x.1,x.2]).length=2*v.Pairs.length:=by
    generalize v.Pairs=l
    induction l with
    |nil=>rfl
    |cons x l ih=>simp only [List.flatMap_cons,List.length_append,ih,List.length_cons,List.length_nil]; omega
   simp only [b9g,List.length_append,List.length_map,this]
   omega
  rw [e]
  refine d1w (J:=fun i a=>a78 i (b9g v) a _) (C:=fun (x:A0) b=>b1u x b) (E:=fun a=>wI (1+(v.Raws.length:Int)+((b9g v).map (a2u n)).sum)=a) (a2u n) (b9g v) (fun i a hw=>b9x i _ a _ hw) (by omega) (fun x hx=> ?_) _ rfl
  rcases List.mem_append.1 hx with hx|hx
  ·rcases List.mem_append.1 hx with hx|hx
   ·exact c1f n x (hl x hx) (by have:=szL hx; omega) (by have:=m1 x hx; omega)
   ·obtain ⟨y,hy,hz⟩:=List.mem_flatMap.1 hx
    have:=m2 y hy
    have z1:=szP hy
    rcases List.mem_cons.1 hz with h|h
    ·subst h; exact c1f n _ (hp y hy).1 (by omega) (by omega)
    ·have:=List.mem_singleton.1 h
     subst this; exact c1f n _ (hp y hy).2 (by omega) (by omega)
  ·obtain ⟨y,hy,rfl⟩:=List.mem_map.1 hx
   exact c1f n _ (hs y hy) (by have:=szS hy; omega) (by have:=m3 y hy; omega)
noncomputable def c9z (p:A5) (n:Nat) (t:Int) (v:A0):Int:=orE (b6i p n t v 1) (if 4096<wI (a2u n v) then 3 else 0)
section
variable {p:A5} (hp:OkX p)
 include hp
theorem e9p (n:Nat) (t:Int) (g:B6) (v:A0) (hgt:p.Progs[t.toNat]? =some g) (ht:0<=t) (hv:OkD v) (hn:SizeOf.sizeOf v<=n) (hw:wtV v<=274877906944):c79 p t v (c9z p n t v):=by
 have hlt:t.toNat<p.Progs.length:=(List.getElem?_eq_some_iff.1 hgt).1
 have off:((decide (t<0))||(decide ((p.Progs.length:Int)<=t)))=false:=by simp; omega
 refine c9j _ _ _ _ ⟨fun h=>(by rw [off] at h; cases h),fun _=>⟨g,hgt,ht,_,d68 hp n t g v 1 hgt ht hv hn (by decide) (by decide),fun h=> ?_,fun h=>⟨_,c1f n v hv hn hw,fun h2=> ?_,fun h2=> ?_⟩⟩⟩
 ·rw [c9z,orE,if_pos (by simpa using h)]
 ·rw [c9z,orE,if_neg (by simpa using h),if_pos (by simpa using h2)]
 ·rw [c9z,orE,if_neg (by simpa using h),if_neg (by simpa using h2)]
end
end Go.Proofs.YtidmmngcijapcaaGreat.Lift
