/- Part 7 of the texts that prove RowCanonicalEnd. -/
import Derived.Test.YtidmmngcijapcaaGreatRowCanonicalEndP5
import Derived.Test.YtidmmngcijapcaaGreatRowCanonicalEndP0
namespace Go.Proofs.YtidmmngcijapcaaGreat.Lift
open Go.RowKit
set_option linter.unusedVariables false
set_option linter.unusedSimpArgs false
set_option linter.unnecessarySimpa false
set_option linter.unusedSectionVars false
set_option maxRecDepth 100000
structure OkV(v:A0):Prop where
 l:v.List_.length<=140737488351232
 p:v.Pairs.length<=140737488351232
 s:v.Slots.length<=140737488351232
 r:v.Raws.length<=140737488351232
 t:v.Text.size<=140737488351232
 b0:0<=v.Bits
 b1:v.Bits<18446744073709551616
def c19(v:A0):Bool:=decide (v.List_.length=0/\v.Pairs.length=0/\v.Slots.length=0/\v.Raws.length=0)
def a06(k bits:Int):Bool:=if k=1 then decide (bits<=1) else if k=2 then decide (-2147483648<=wI bits/\wI bits<=2147483647) else if k=9 then decide (bits<=2147483647) else if k=4 then decide (bits<=4294967295) else true
def a2k(k:Int)(v:A0):Bool:=
 decide (1<=k/\k<=9/\v.Kind=k)&&c19 v&&
  (if k=7\/k=8 then decide (v.Bits=0/\v.Text.size<=4096)&&(!decide (k=7)||a7e v.Text) else decide (v.Text=⟨#[]⟩)&&a06 k v.Bits)
theorem f1j(k bits:Int):b6r k bits (a06 k bits):=by
 refine c34 _ _ _ ⟨fun h=>?_,fun h=>⟨fun h2=>?_,fun h2=>⟨fun h3=>?_,fun h3=>⟨fun h4=>?_,fun h4=>?_⟩⟩⟩⟩
 all_goals simp only[beq_iff_eq,beq_eq_false_iff_ne]at*
 ·rw[a06,if_pos h]
 ·rw[a06,if_neg h,if_pos h2,Bool.decide_and]
 ·rw[a06,if_neg h,if_neg h2,if_pos h3]
 ·rw[a06,if_neg h,if_neg h2,if_neg h3,if_pos h4]
 ·rw[a06,if_neg h,if_neg h2,if_neg h3,if_neg h4]
def d2j(v:A0):Bool:=c19 v&&(if v.Kind=7\/v.Kind=8 then decide (v.Bits=0) else decide (v.Text=⟨#[]⟩))
theorem e6o(v:A0)(hv:OkV v):b65 v (d2j v):=by
 have h1:=hv.l;have h2:=hv.p;have h3:=hv.s;have h4:=hv.r;have e1:wI ((v.List_.length:Int)+v.Pairs.length)=(v.List_.length:Int)+v.Pairs.length:=C7 (by omega);have e2:wI ((v.List_.length:Int)+v.Pairs.length+v.Slots.length)=(v.List_.length:Int)+v.Pairs.length+v.Slots.length:=C7 (by omega);have e3:wI ((v.List_.length:Int)+v.Pairs.length+v.Slots.length+v.Raws.length)=(v.List_.length:Int)+v.Pairs.length+v.Slots.length+v.Raws.length:=C7 (by omega);refine c8o _ _ ?_;rw[e1,e2,e3];refine⟨fun h=>?_,fun h=>⟨_,b57 _ _ rfl,fun h5=>?_,fun h5=>?_⟩⟩
 ·simp only[decide_eq_true_eq]at h;have:c19 v=false:=decide_eq_false (by omega);rw[d2j,this];rfl
 all_goals
  simp only[decide_eq_false_iff_not]at h;have:c19 v=true:=decide_eq_true (by omega);rw[d2j,this,Bool.true_and]
 ·rw[if_pos (by simpa using h5)];rfl
 ·rw[if_neg (by simpa using h5)]
theorem d9w(k:Int)(v:A0)(hv:OkV v):b34 k v (a2k k v):=by
 refine c80 _ _ _ ⟨_,a9p _ _ rfl,fun b=>b= !(decide (1<=k/\k<=9/\v.Kind=k)&&d2j v),fun b hR=>?_,fun h=>?_,fun h=>⟨_,e6o v hv,?_⟩⟩
 rotate_left
 ·have:decide (1<=k/\k<=9/\v.Kind=k)=false:=by
   refine decide_eq_false fun hn=>?_
   simp[hn.1,hn.2.1,hn.2.2]at h
  rw[this];rfl
 ·have:decide (1<=k/\k<=9/\v.Kind=k)=true:=by
   refine decide_eq_true ?_;simp at h;omega
  rw[this];rfl
 subst hR;refine⟨fun b=>b= !(decide (1<=k/\k<=9/\v.Kind=k)&&d2j v&&a06 k v.Bits),fun b hR=>?_,fun h=>?_,fun h=>⟨_,f1j k v.Bits,?_⟩⟩
 rotate_left
 ·have:(decide (1<=k/\k<=9/\v.Kind=k)&&d2j v)=false:=by rw[<-Bool.not_eq_true'];exact h
  rw[this];rfl
 ·have:(decide (1<=k/\k<=9/\v.Kind=k)&&d2j v)=true:=by rw[<-Bool.not_eq_false'];exact h
  rw[this];rfl
 subst hR;have main:∀A B C D:Bool,True:=fun _ _ _ _=>trivial
 by_cases hk:1<=k/\k<=9/\v.Kind=k
 ·have hkd:decide (1<=k/\k<=9/\v.Kind=k)=true:=decide_eq_true hk;unfold a2k d2j;rw[hkd,hk.2.2,Bool.true_and,Bool.true_and];cases hl:c19 v with
  |false=>simp
  |true=>
   simp only[Bool.true_and]
   by_cases h78:k=7\/k=8
   ·rw[if_pos h78,if_pos h78];have hw:a06 k v.Bits=true:=by rw[a06,if_neg (by omega),if_neg (by omega),if_neg (by omega),if_neg (by omega)]
    rw[hw,Bool.and_true];refine⟨fun h=>?_,fun h=>⟨fun h2=>?_,fun h2=>⟨_,d6g _ hv.t,?_⟩⟩⟩
    ·have:¬(v.Bits=0/\v.Text.size<=4096):=by
      simp only[Bool.or_eq_true,Bool.not_eq_true',decide_eq_false_iff_not,decide_eq_true_eq]at h;omega
     rw[decide_eq_false this];rfl
    ·have:v.Bits=0/\v.Text.size<=4096:=by
      simp only[Bool.or_eq_false_iff,Bool.not_eq_false',decide_eq_false_iff_not,decide_eq_true_eq]at h;omega
     rw[decide_eq_true this];have:¬k=7:=by simpa using h2
     rw[decide_eq_false this];rfl
    ·have:v.Bits=0/\v.Text.size<=4096:=by
      simp only[Bool.or_eq_false_iff,Bool.not_eq_false',decide_eq_false_iff_not,decide_eq_true_eq]at h;omega
     rw[decide_eq_true this];have:k=7:=by simpa using h2
     rw[decide_eq_true this];simp
   ·rw[if_neg h78,if_neg h78];refine⟨fun h=>?_,fun h=>⟨fun h2=>?_,fun h2=>?_⟩⟩
    ·simp only[Bool.or_eq_true,Bool.not_eq_true',decide_eq_true_eq]at h;rcases h with h|h
     ·rw[h]
     ·have:¬v.Text=⟨#[]⟩:=by
       intro he;rw[he]at h;have:((⟨#[]⟩:ByteArray).size:Int)=0:=rfl;omega
      rw[decide_eq_false this];rfl
    ·simp only[Bool.or_eq_false_iff,Bool.not_eq_false']at h;rw[h.1]
    ·have:k=7:=by simpa using h2
     omega
 ·have hkd:decide (1<=k/\k<=9/\v.Kind=k)=false:=decide_eq_false hk;unfold a2k;rw[hkd];simp
theorem e1l(v:A0):b97 v (c19 v):=by
 refine d0r _ _ ?_;unfold c19;rw[Bool.eq_iff_iff];simp only[decide_eq_true_eq,Bool.and_eq_true,beq_iff_eq];omega
theorem e3h(k:Int)(v:A0)(hv:OkV v):c0g k v (a2k k v):=by
 refine d2c _ _ _ ⟨_,b6y _ _ rfl,fun b=>b= !(decide (1<=k/\k<=9/\v.Kind=k)&&c19 v),fun b hR=>⟨fun h=>?_,fun h=>⟨_,b79 _ _ rfl,fun h2=>?_,fun h2=>?_⟩⟩,fun h=>?_,fun h=>⟨_,e1l v,?_⟩⟩
 ·have:(decide (1<=k/\k<=9/\v.Kind=k)&&c19 v)=false:=by rw[<-Bool.not_eq_true',<-hR];exact h
  unfold a2k;rw[this];rfl
 ·have hb:(decide (1<=k/\k<=9/\v.Kind=k)&&c19 v)=true:=by rw[<-Bool.not_eq_false',<-hR];exact h
  have h78:k=7\/k=8:=by simpa using h2
  unfold a2k;rw[hb,Bool.true_and,if_pos h78];refine⟨fun c=>c=(decide (v.Bits=0/\v.Text.size<=4096)&&(!decide (k=7)||a7e v.Text)),fun c hc=>hc.symm,fun h3=>?_,fun h3=>?_⟩
  ·have h4:v.Bits=0/\v.Text.size<=4096:=by
    simp only[Bool.and_eq_true,beq_iff_eq,decide_eq_true_eq]at h3;omega
   rw[decide_eq_true h4,Bool.true_and];refine⟨fun c=>c=(!decide (k=7)||a7e v.Text),fun c hc=>hc,fun h5=>?_,fun h5=>⟨_,d0n _ hv.t,?_⟩⟩
   ·have:¬k=7:=by simp only[beq_iff_eq]at h5;omega
    rw[decide_eq_false this];rfl
   ·have:k=7:=by simp only[beq_eq_false_iff_ne]at h5;omega
    rw[decide_eq_true this];rfl
  ·have h4:¬(v.Bits=0/\v.Text.size<=4096):=by
    simp only[Bool.and_eq_false_iff,beq_eq_false_iff_ne,decide_eq_false_iff_not]at h3;omega
   rw[decide_eq_false h4];rfl
 ·have hb:(decide (1<=k/\k<=9/\v.Kind=k)&&c19 v)=true:=by rw[<-Bool.not_eq_false',<-hR];exact h
  have h78:¬(k=7\/k=8):=by simpa using h2
  unfold a2k;rw[hb,Bool.true_and,if_neg h78];refine⟨fun h3=>?_,fun h3=>?_⟩
  ·have:decide (v.Text=⟨#[]⟩)=false:=by rw[<-Bool.not_eq_true'];exact h3
   rw[this];rfl
  ·have:decide (v.Text=⟨#[]⟩)=true:=by rw[<-Bool.not_eq_false'];exact h3
   rw[this,Bool.true_and];refine⟨fun h4=>?_,fun h4=>⟨fun h5=>?_,fun h5=>⟨fun h6=>?_,fun h6=>⟨fun h7=>?_,fun h7=>?_⟩⟩⟩⟩
   all_goals simp only[beq_iff_eq,beq_eq_false_iff_ne]at*
   ·rw[a06,if_pos h4]
   ·rw[a06,if_neg h4,if_pos h5,Bool.decide_and]
   ·rw[a06,if_neg h4,if_neg h5,if_neg (by omega),if_pos h6]
    congr 1;simp only[eq_iff_iff];omega
   ·rw[a06,if_neg h4,if_neg h5,if_pos h7]
    congr 1;simp only[eq_iff_iff];omega
   ·rw[a06,if_neg h4,if_neg h5,if_neg h7,if_neg h6]
 ·have:decide (1<=k/\k<=9/\v.Kind=k)=false:=by
   refine decide_eq_false fun hn=>?_
   simp[hn.1,hn.2.1,hn.2.2]at h
  rw[this];rfl
 ·have:decide (1<=k/\k<=9/\v.Kind=k)=true:=by
   refine decide_eq_true ?_;simp at h;omega
  rw[this];rfl
def b8j(v:A0):Bool:=isS v.Kind&&(v.Bits==0)&&decide (v.Text=(⟨#[]⟩:ByteArray))&&c19 v
def a9x(v:A0):Bool:=if v.Kind=11 then v.List_.isEmpty else if v.Kind=12 then v.Pairs.isEmpty else b8j v
theorem f56(v:A0):b9k v (b8j v):=by
 refine c6c _ _ ⟨_,b6y _ _ rfl,fun h=>⟨_,e1l v,?_⟩,fun h=>?_⟩
 ·unfold b8j isS;rw[h,Bool.true_and]
 ·unfold b8j isS;rw[h,Bool.false_and]
theorem e8t(v:A0):c2u v (a9x v):=by
 refine c8w _ _ ⟨fun h=>?_,fun h=>⟨fun h2=>?_,fun h2=>⟨_,f56 v,?_⟩⟩⟩
 all_goals simp only[beq_iff_eq,beq_eq_false_iff_ne]at*
 ·unfold a9x;rw[if_pos h];cases v.List_<;>simp
  omega
 ·unfold a9x;rw[if_neg h,if_pos h2];cases v.Pairs<;>simp
  omega
 ·unfold a9x;rw[if_neg h,if_neg h2]
theorem f1z(v:A0)(hv:OkV v):a7m v (b8j v):=by
 have key:b8j v=(((isS v.Kind&&d2j v)&&(v.Bits==0))&&decide (v.Text=(⟨#[]⟩:ByteArray))):=by
  unfold b8j d2j
  by_cases h1:v.Bits=0
  ·by_cases h2:v.Text=(⟨#[]⟩:ByteArray)
   ·simp[h1,h2]
   ·simp[h2]
  ·have hb:(v.Bits==0)=false:=by simpa using h1
   rw[hb];simp
 refine c4y _ _ ⟨_,a9p _ _ rfl,fun z=>z=(isS v.Kind&&d2j v),fun z hz=>?_,fun h=>⟨_,e6o v hv,?_⟩,fun h=>?_⟩
 ·rw[hz];exact key
 ·unfold isS;rw[h,Bool.true_and]
 ·unfold isS;rw[h,Bool.false_and]
theorem f4i(v:A0)(hv:OkV v):c59 v (a9x v):=by
 have ns:∀k:Int,k=11\/k=12->isS k=false:=by
  intro k hk;unfold isS;rcases hk with h|h<;>subst h<;>decide
 refine d1s _ _ ⟨fun h=>?_,fun h=>⟨_,f1z v hv,?_⟩⟩
 ·simp only[Bool.or_eq_true,Bool.and_eq_true,beq_iff_eq]at h;unfold a9x;rcases h with⟨h1,h2⟩|⟨h1,h2⟩
  ·rw[if_pos h1,List.isEmpty_iff,<-List.length_eq_zero_iff];omega
  ·rw[if_neg (by omega),if_pos h1,List.isEmpty_iff,<-List.length_eq_zero_iff];omega
 ·simp only[Bool.or_eq_false_iff,Bool.and_eq_false_iff,beq_eq_false_iff_ne]at h;unfold a9x
  by_cases h1:v.Kind=11
  ·rw[if_pos h1]
   have:v.List_.isEmpty=false:=by
    cases hl:v.List_ with
    |nil=>rw[hl]at h;simp at h;omega
    |cons x l=>rfl
   rw[this,b8j,ns _ (.inl h1)];rfl
  ·by_cases h2:v.Kind=12
   ·rw[if_neg h1,if_pos h2]
    have:v.Pairs.isEmpty=false:=by
     cases hl:v.Pairs with
     |nil=>rw[hl]at h;simp at h;omega
     |cons x l=>rfl
    rw[this,b8j,ns _ (.inr h2)];rfl
   ·rw[if_neg h1,if_neg h2]
def c46{α:Type}(f:α->Bool):List α->Int->Int
 |[],_=> -1
 |x::l,i=>if f x=true then i else c46 f l (i+1)
theorem d9x{α:Type}{J:Int->List α->Int->Prop}{C:α->Bool->Prop}(f:α->Bool)
  (b9u:∀i s r,((decide (i<(s.length:Int)))=true->∃y3,s[i.toNat]? =some y3/\0<=i/\(∃y4,C y3 y4/\((y4=true->r=i)/\(y4=false->J (wI (i+1)) s r))))/\((decide (i<(s.length:Int)))=false->r=(-1))->J i s r)
  (s:List α) (hs:s.length<=140737488351232) (hC:∀x∈s,C x (f x)):J 0 s (c46 f s 0):=by
 have key:∀(d i:Nat),s.length - i<=d->i<=s.length->J i s (c46 f (s.drop i) i):=by
  intro d
  induction d with
  |zero=>
   intro i hd hi;exact b9u _ _ _ ⟨fun h=>by simp at h;omega,fun _=>by rw[List.drop_eq_nil_of_le (by omega)];rfl⟩
  |succ d ih=>
   intro i hd hi;rcases Nat.lt_or_ge i s.length with hlt|hge
   ·have e1:wI ((i:Int)+1)=((i+1:Nat):Int):=by rw[wI,C7 (by omega)];omega
    have dl:s.drop i=s[i]::s.drop (i+1):=List.drop_eq_getElem_cons hlt;refine b9u _ _ _ ⟨fun _=>⟨s[i],by simp,by omega,_,hC _ (List.getElem_mem _),fun h=>?_,fun h=>?_⟩,fun h=>by simp at h;omega⟩
    ·rw[dl,c46,if_pos h]
    ·rw[dl,c46,if_neg (nt h),e1];exact ih (i+1) (by omega) (by omega)
   ·exact b9u _ _ _ ⟨fun h=>by simp at h;omega,fun _=>by rw[List.drop_eq_nil_of_le hge];rfl⟩
 simpa using key s.length 0 (by omega) (by omega)
theorem d52{α:Type}{J:Int->Prop}{C:α->Bool->Prop}{E:Prop}{r:Bool}(f:α->Bool)(s:List α)
  (b9u:∀i:Int,((decide (i<(s.length:Int)))=true->∃y3,s[i.toNat]? =some y3/\0<=i/\(∃y4,C y3 y4/\((y4=true->r=true)/\(y4=false->J (wI (i+1))))))/\((decide (i<(s.length:Int)))=false->E)->J i)
  (hs:s.length<=140737488351232) (hC:∀x∈s,C x (f x)) (h1:s.any f=true->r=true) (h2:s.any f=false->E):J 0:=by
 have key:∀(d i:Nat),s.length - i<=d->i<=s.length->((s.drop i).any f=true->r=true)->((s.drop i).any f=false->E)->J i:=by
  intro d
  induction d with
  |zero=>
   intro i hd hi _ k2;exact b9u _ ⟨fun h=>by simp at h;omega,fun _=>k2 (by rw[List.drop_eq_nil_of_le (by omega)];rfl)⟩
  |succ d ih=>
   intro i hd hi k1 k2;rcases Nat.lt_or_ge i s.length with hlt|hge
   ·have e1:wI ((i:Int)+1)=((i+1:Nat):Int):=by rw[wI,C7 (by omega)];omega
    have dl:s.drop i=s[i]::s.drop (i+1):=List.drop_eq_getElem_cons hlt;rw[dl,List.any_cons]at k1 k2;refine b9u _ ⟨fun _=>⟨s[i],by simp,by omega,_,hC _ (List.getElem_mem _),fun h=>k1 (by rw[h];rfl),fun h=>?_⟩,fun h=>by simp at h;omega⟩;rw[e1];rw[h,Bool.false_or]at k1 k2;exact ih (i+1) (by omega) (by omega) k1 k2
   ·exact b9u _ ⟨fun h=>by simp at h;omega,fun _=>k2 (by rw[List.drop_eq_nil_of_le hge];rfl)⟩
 exact key s.length 0 (by omega) (by omega) (by simpa using h1) (by simpa using h2)
def Z1(p:A6)(name:ByteArray):Int × Bool:=(max (c46 (fun g:B7=>decide (g.Name=name)) p.Progs 0) 0,decide (0<=c46 (fun g:B7=>decide (g.Name=name)) p.Progs 0))
theorem c9r(p:A6)(hp:p.Progs.length<=140737488351232)(name:ByteArray):c3g p name (Z1 p name):=by
 refine d2u _ _ _ ⟨_,a8e _ _ _ (d9x (J:=fun i s r=>O2 i s _ r) (fun g:B7=>decide (g.Name=name)) (fun i s r hw=>a5x _ _ _ _ hw) _ hp fun x hx=>?_),rfl⟩;exact d0y x name _ (c73 _ _ _ rfl)
theorem f4a(p:A6)(hp:p.Progs.length<=140737488351232)(name:ByteArray):c5v p name (Z1 p name):=by
 have key:∀(d i:Nat),p.Progs.length - i<=d->i<=p.Progs.length->b1y i name p (max (c46 (fun g:B7=>decide (g.Name=name)) (p.Progs.drop i) i) 0,decide (0<=c46 (fun g:B7=>decide (g.Name=name)) (p.Progs.drop i) i)):=by
  intro d
  induction d with
  |zero=>
   intro i hd hi;exact a7d _ _ _ _ ⟨fun h=>by simp at h;omega,fun _=>by rw[List.drop_eq_nil_of_le (by omega)];rfl⟩
  |succ d ih=>
   intro i hd hi;rcases Nat.lt_or_ge i p.Progs.length with hlt|hge
   ·have e1:wI ((i:Int)+1)=((i+1:Nat):Int):=by rw[wI,C7 (by omega)];omega
    have dl:p.Progs.drop i=p.Progs[i]::p.Progs.drop (i+1):=List.drop_eq_getElem_cons hlt;refine a7d _ _ _ _ ⟨fun _=>⟨p.Progs[i],by simp,by omega,fun h=>?_,fun h=>?_⟩,fun h=>by simp at h;omega⟩
    ·rw[dl,c46,if_pos h];have h1:max (i:Int) 0=i:=by omega
     have h2:decide (0<=(i:Int))=true:=by simp
     rw[h1,h2]
    ·rw[dl,c46,if_neg (nt h),e1];exact ih (i+1) (by omega) (by omega)
   ·exact a7d _ _ _ _ ⟨fun h=>by simp at h;omega,fun _=>by rw[List.drop_eq_nil_of_le hge];rfl⟩
 have:=key p.Progs.length 0 (by omega) (by omega);exact d0g _ _ _ (by simpa[Z1]using this)
def Y8:Nat->A0->Bool
 |0,_=>false
 |n+1,v=> !v.Raws.isEmpty||(v.Slots.any (fun x=>Y8 n x.2)||(v.List_.any (Y8 n)||v.Pairs.any (fun x=>Y8 n x.2)))
theorem e2j(v:A0):(decide (0<(v.Raws.length:Int)))= !v.Raws.isEmpty:=by
 cases v.Raws with
 |nil=>rfl
 |cons x l=>simp
theorem c9g:∀(n:Nat) (v:A0),OkD v->SizeOf.sizeOf v<=n->a7j v (Y8 n v)
 |0,v,_,h=>by have:=szV v;omega
 |n+1,v,hv,hn=>by
  obtain⟨_,_,⟨la,pa,sa,ra⟩,hl,hp,hs⟩:=hv.inv;refine d25 _ _ ⟨fun h=>?_,fun h=>?_⟩
  ·rw[e2j]at h;rw[Y8,h,Bool.true_or]
  rw[e2j]at h;rw[Y8,h,Bool.false_or];refine d52 (C:=fun(x:Int × A0) b=>a7j x.2 b) (fun x=>Y8 n x.2) v.Slots (fun i hw=>c60 i v _ hw) sa (fun x hx=>c9g n x.2 (hs x hx) (by have:=szS hx;omega)) (fun h1=>by rw[h1,Bool.true_or]) (fun h1=>?_);rw[h1,Bool.false_or];refine d52 (C:=fun(x:A0) b=>a7j x b) (Y8 n) v.List_ (fun i hw=>c39 i v _ hw) la (fun x hx=>c9g n x (hl x hx) (by have:=szL hx;omega)) (fun h2=>by rw[h2,Bool.true_or]) (fun h2=>?_);rw[h2,Bool.false_or];exact d52 (C:=fun(x:A0 × A0) b=>a7j x.2 b) (fun x=>Y8 n x.2) v.Pairs (fun i hw=>c3k i v _ hw) pa (fun x hx=>c9g n x.2 (hp x hx).2 (by have:=szP hx;omega)) (fun h3=>h3) (fun h3=>h3)
theorem f8k(a:Int):∃k:Int,wI a=a+k*18446744073709551616:=by
 simp only[wI,IntKind.wrap,IntKind.bits,IntKind.signed,Bool.true_and,decide_eq_true_eq];split
 ·exact⟨-(a / 18446744073709551616) - 1,by omega⟩
 ·exact⟨-(a / 18446744073709551616),by omega⟩
theorem g92{a b k:Int}(h:a=b+k*18446744073709551616):wI a=wI b:=by
 have:a % 2 ^ (IntKind.bits .i64)=b % 2 ^ (IntKind.bits .i64):=by
  show a % 18446744073709551616=b % 18446744073709551616;omega
 simp only[wI,IntKind.wrap,this]
theorem f7m(a b:Int):wI (wI a+wI b)=wI (a+b):=by
 obtain⟨k,hk⟩:=f8k a;obtain⟨m,hm⟩:=f8k b;exact g92 (k:=k+m) (by rw[hk,hm,Int.add_mul];omega)
theorem d5z{α:Type}{J:Int->Int->Prop}{C:α->Int->Prop}{E:Int->Prop}(f:α->Int)(s:List α)
  (b9u:∀i a:Int,((decide (i<(s.length:Int)))=true->∃y3,s[i.toNat]? =some y3/\0<=i/\(∃y4,C y3 y4/\J (wI (i+1)) (wI (a+y4))))/\((decide (i<(s.length:Int)))=false->E a)->J i a)
  (hs:s.length<=140737488351232) (hC:∀x∈s,C x (wI (f x))) (a:Int) (h:E (wI (a+(s.map f).sum))):J 0 (wI a):=by
 have key:∀(d i:Nat) (a:Int),s.length - i<=d->i<=s.length->E (wI (a+((s.drop i).map f).sum))->J i (wI a):=by
  intro d
  induction d with
  |zero=>
   intro i a hd hi hE;refine b9u _ _ ⟨fun h=>by simp at h;omega,fun _=>?_⟩;rw[List.drop_eq_nil_of_le (by omega)]at hE;simpa using hE
  |succ d ih=>
   intro i a hd hi hE;rcases Nat.lt_or_ge i s.length with hlt|hge
   ·have e1:wI ((i:Int)+1)=((i+1:Nat):Int):=by rw[wI,C7 (by omega)];omega
    have dl:s.drop i=s[i]::s.drop (i+1):=List.drop_eq_getElem_cons hlt;rw[dl,List.map_cons,List.sum_cons]at hE;refine b9u _ _ ⟨fun _=>⟨s[i],by simp,by omega,_,hC _ (List.getElem_mem _),?_⟩,fun h=>by simp at h;omega⟩;rw[e1,f7m];exact ih (i+1) (a+f s[i]) (by omega) (by omega) (by rw[Int.add_assoc];exact hE)
   ·refine b9u _ _ ⟨fun h=>by simp at h;omega,fun _=>?_⟩;rw[List.drop_eq_nil_of_le hge]at hE;simpa using hE
 exact key s.length 0 a (by omega) (by omega) (by simpa using h)
def b07:Nat->A0->Int
 |0,_=>0
 |n+1,v=>1+(v.Raws.length:Int)+(v.List_.map (b07 n)).sum+(v.Pairs.map fun x=>b07 n x.1+b07 n x.2).sum+(v.Slots.map fun x=>b07 n x.2).sum
theorem b9p:∀(n:Nat) (v:A0),OkD v->SizeOf.sizeOf v<=n->Y1 v (wI (b07 n v))
 |0,v,_,h=>by have:=szV v;omega
 |n+1,v,hv,hn=>by
  obtain⟨_,_,⟨la,pa,sa,ra⟩,hl,hp,hs⟩:=hv.inv;refine c8a _ _ ?_;refine d5z (J:=fun i a=>a9t i a v (wI (b07 (n+1) v))) (C:=fun(x:A0) b=>Y1 x b) (b07 n) v.List_ (fun i a hw=>c2b i a v _ hw) la (fun x hx=>b9p n x (hl x hx) (by have:=szL hx;omega)) _ ?_;refine d5z (J:=fun i a=>a75 i a v (wI (b07 (n+1) v))) (C:=fun(x:A0 × A0) b=>∃u w,Y1 x.1 u/\Y1 x.2 w/\b=wI (u+w)) (fun x:A0 × A0=>b07 n x.1+b07 n x.2) v.Pairs (fun i a hw=>c0u i a v _ ⟨fun h=>?_,hw.2⟩) pa (fun x hx=>?_) _ ?_
  ·obtain⟨y,h1,h2,b,⟨u,w,c1,c2,rfl⟩,h3⟩:=hw.1 h;exact⟨y,h1,h2,u,c1,y,h1,h2,w,c2,h3⟩
  ·have hz:=szP hx;exact⟨_,_,b9p n _ (hp x hx).1 (by omega),b9p n _ (hp x hx).2 (by omega),(f7m _ _).symm⟩
  refine d5z (J:=fun i a=>a7c i a v (wI (b07 (n+1) v))) (C:=fun(x:Int × A0) b=>Y1 x.2 b) (fun x:Int × A0=>b07 n x.2) v.Slots (fun i a hw=>c0z i a v _ hw) sa (fun x hx=>b9p n _ (hs x hx) (by have:=szS hx;omega)) _ ?_;rfl
theorem d45(n:Int): -9223372036854775808<=wI n/\wI n<=9223372036854775807:=by simp only[wI,IntKind.wrap,IntKind.signed,IntKind.bits];simp;omega
theorem d98{n:Int}(h: -9223372036854775808<=n/\n<=9223372036854775807):e5w n<18446744073709551616:=by unfold e5w;split<;>omega
theorem d7u:∀k u:Nat,u<128 ^ k->1<=k->(a8z u).length<=k
 |0,u,h,h1=>by omega
 |k+1,u,h,h1=>by
  rw[a8z];split
  ·simp
  ·rename_i hu;rcases Nat.eq_zero_or_pos k with h0|h0
   ·subst h0;simp at h;omega
   ·have:=d7u k (u / 128) (by rw[Nat.pow_succ]at h;omega) h0;simp;omega
theorem a90(u:Nat)(h:u<18446744073709551616):(b1l u).size<=10:=by rw[b1l,b1w];exact d7u 10 u (by omega) (by omega)
def c2o(v:A0):ByteArray:=
 if a2k v.Kind v=true then
  if v.Kind=1 then ofI [v.Bits % 256]
  else if v.Kind=2\/v.Kind=3 then b1l (e5w (wI v.Bits))
  else if v.Kind=6 then d84 (a2o v).Bits.toNat
  else if v.Kind=7\/v.Kind=8 then b1l v.Text.size++v.Text
  else b1l v.Bits.toNat
 else⟨#[]⟩
theorem e5e(v:A0)(hv:OkV v):0<=(a2o v).Bits/\(a2o v).Bits<18446744073709551616:=by
 unfold a2o;split
 ·exact⟨(by decide:(0:Int)<=9221120237041090560),(by decide:(9221120237041090560:Int)<18446744073709551616)⟩
 ·exact⟨hv.b0,hv.b1⟩
theorem g7z{n:Int}:IntKind.u8.wrap n=n % 256:=by simp[IntKind.wrap,IntKind.signed,IntKind.bits]
theorem h2n(v:A0)(hv:OkV v)(b:Bool):c7i b v (if b=true then b1l v.Text.size++v.Text else b1l v.Bits.toNat):=by
 have h1:=hv.t;have h2:=hv.b0;have h3:=hv.b1;have e1:wU (v.Text.size:Int)=(v.Text.size:Int):=b4j (by omega);have hp:=a90 v.Text.size (by omega);refine c6a _ _ _ ⟨fun h=>⟨_,by rw[e1];exact e7q _ (by omega),by omega,by rw[if_pos h]⟩,fun h=>⟨b1l v.Bits.toNat,?_,by rw[h];rfl⟩⟩;have:=e7q v.Bits.toNat (by omega);rw[show((v.Bits.toNat:Nat):Int)=v.Bits by omega]at this;exact this
theorem f8y(v:A0)(hv:OkV v)(b:Bool):c0m b v (if b=true then b1l v.Text.size++v.Text else b1l v.Bits.toNat):=by
 have h1:=hv.t;have h2:=hv.b0;have h3:=hv.b1;have e1:wU (v.Text.size:Int)=(v.Text.size:Int):=b4j (by omega);have hp:=a90 v.Text.size (by omega);refine c98 _ _ _ ⟨fun h=>⟨_,by rw[e1];exact d7m _ (by omega),by omega,by rw[if_pos h]⟩,fun h=>⟨b1l v.Bits.toNat,?_,by rw[h];rfl⟩⟩;have:=d7m v.Bits.toNat (by omega);rw[show((v.Bits.toNat:Nat):Int)=v.Bits by omega]at this;exact this
def g8i(b:Bool)(v:A0):ByteArray:=if b=true then b1l (e5w (wI v.Bits)) else if v.Kind=6 then d84 (a2o v).Bits.toNat else if v.Kind=7\/v.Kind=8 then b1l v.Text.size++v.Text else b1l v.Bits.toNat
theorem f6p(v:A0)(hv:OkV v)(b:Bool):c0n b v (g8i b v):=by
 have hn:=e5e v hv;have hr:=d45 v.Bits;refine c97 _ _ _ ⟨fun h=>⟨_,g4i _ hr,_,d7m _ (d98 hr),by rw[g8i,if_pos h]⟩,fun h=>⟨fun h2=>?_,fun h2=>⟨fun h3=>?_,fun h3=>?_⟩⟩⟩
 all_goals simp only[beq_iff_eq,beq_eq_false_iff_ne]at*
 all_goals rw[g8i,if_neg (by rw[h];decide)]
 ·refine⟨_,d46 v ⟨hv.b0,hv.b1⟩,d84 (a2o v).Bits.toNat,?_,by rw[if_pos h2]⟩;have:=e7g (a2o v).Bits.toNat;rw[show(((a2o v).Bits.toNat:Nat):Int)=(a2o v).Bits by omega]at this;exact this
 ·have:=f8y v hv (v.Kind==7);rw[if_pos (by simpa using h3)]at this;rw[if_neg h2,if_pos (.inl h3)];exact this
 ·have:=f8y v hv (v.Kind==8);rw[if_neg h2]
  by_cases h8:v.Kind=8
  ·rw[if_pos (by simpa using h8)]at this;rw[if_pos (.inr h8)];exact this
  ·rw[if_neg (by simpa using h8)]at this;rw[if_neg (by omega)];exact this
theorem d78(v:A0)(hv:OkV v):d4p v (c2o v):=by
 refine d8o _ _ ⟨_,d9w v.Kind v hv,fun h=>?_,fun h=>?_⟩
 ·have:a2k v.Kind v=false:=by rw[<-Bool.not_eq_true'];exact h
  rw[c2o,this];rfl
 ·have:a2k v.Kind v=true:=by rw[<-Bool.not_eq_false'];exact h
  rw[c2o,if_pos this];refine⟨fun h1=>⟨_,?_,by rw[if_pos (by simpa using h1)]⟩,fun h1=>⟨fun h2=>?_,fun h2=>?_⟩⟩
  ·rw[g7z];exact d3o (a0y (by omega))
  ·have:=f6p v hv (v.Kind==2);simp only[beq_iff_eq,beq_eq_false_iff_ne]at h1 h2;rw[if_neg h1,if_pos (.inl h2)];rw[g8i,if_pos (by simpa using h2)]at this;exact this
  ·have:=f6p v hv (v.Kind==3);simp only[beq_iff_eq,beq_eq_false_iff_ne]at h1 h2;rw[if_neg h1];unfold g8i at this
   by_cases h3:v.Kind=3
   ·rw[if_pos (.inr h3)];rw[if_pos (by simpa using h3)]at this;exact this
   ·rw[if_neg (by omega)];rw[if_neg (by simpa using h3)]at this;exact this
def V0:A0:=⟨0,0,⟨#[]⟩,[],[],[],[]⟩
theorem g05(c:A3)(hc:OkC c)(h:(T2 c).2.2=0):OkC (T2 c).2.1/\0<=(T2 c).1/\(T2 c).1<18446744073709551616:=by
 have hs:=d4v c hc;have hl:=c86 (G0 c) 10 0 0 rfl (by omega) (by decide);unfold T2 at h ⊢;split at h
 ·split at h
  ·rename_i h1 h2;rw[if_pos h1,if_pos h2];exact⟨⟨hc.sz,hs.1,hs.2⟩,by omega,by simp only;omega⟩
  ·exact absurd h (show ¬((5:Int)=0) by decide)
 ·rename_i h1;simp only at h;omega
def e0w(k:Int)(c:A3):A0 × A3 × Int:=
 if(T2 c).2.2≠0 then(V0,c,(T2 c).2.2)
 else if a2b (T2 c).2.1.Data (T2 c).2.1.At (T2 c).2.1.End<(T2 c).1 then(V0,c,4)
 else if(a64 (T2 c).2.1 (T2 c).1).2.2≠0 then(V0,c,(a64 (T2 c).2.1 (T2 c).1).2.2)
 else if k=7/\a7e (a64 (T2 c).2.1 (T2 c).1).1=false then(V0,c,7)
 else(⟨k,0,(a64 (T2 c).2.1 (T2 c).1).1,[],[],[],[]⟩,(a64 (T2 c).2.1 (T2 c).1).2.1,0)
theorem d3a(c:A3)(hc:OkC c)(n:Int):(a64 c n).1.size<=140737488351232:=by
 have:=hc.sz;unfold a64;split
 ·exact(by decide:(0:Nat)<=140737488351232)
 split
 ·exact(by decide:(0:Nat)<=140737488351232)
 split
 ·exact(by decide:(0:Nat)<=140737488351232)
 ·simp only[ByteArray.size_extract];omega
theorem e4o(k:Int)(c:A3)(hc:OkC c):d4l k c (e0w k c):=by
 have hl0:=c7w (T2 c).2.1;refine d40 _ _ _ ⟨_,d03 c hc,fun h=>?_,fun h=>?_⟩
 ·have h0:(T2 c).2.2≠0:=by simpa using h
  rw[e0w,if_pos h0];rfl
 have h0:(T2 c).2.2=0:=by simpa using h
 obtain⟨hd,hb0,hb1⟩:=g05 c hc h0;have hn0:¬(T2 c).2.2≠0:=fun h=>h h0
 refine⟨_,d5r _ hd,fun h=>?_,fun h=>?_⟩
 all_goals
  have hlw:a2b (T2 c).2.1.Data (T2 c).2.1.At (T2 c).2.1.End<=140737488351232:=by
   have:=hd.sz;have h1:=b0r (T2 c).2.1;have h2:=hd.rest;omega
  have ew:wU (a2b (T2 c).2.1.Data (T2 c).2.1.At (T2 c).2.1.End)=a2b (T2 c).2.1.Data (T2 c).2.1.At (T2 c).2.1.End:=b4j (by omega);rw[ew]at h
 ·simp only[decide_eq_true_eq]at h;rw[e0w,if_neg hn0,if_pos h];rfl
 simp only[decide_eq_false_iff_not]at h;have e2:wI (T2 c).1=(T2 c).1:=C7 (by omega);rw[e2];refine⟨_,g26 _ hd _,fun h2=>?_,fun h2=>?_⟩
 ·have h3:(a64 (T2 c).2.1 (T2 c).1).2.2≠0:=by simpa using h2
  rw[e0w,if_neg hn0,if_neg h,if_pos h3];rfl
 have h3:¬(a64 (T2 c).2.1 (T2 c).1).2.2≠0:=by simpa using h2
 rw[e0w,if_neg hn0,if_neg h,if_neg h3];refine⟨fun b=>b=decide (k=7/\a7e (a64 (T2 c).2.1 (T2 c).1).1=false),fun b hb=>⟨fun h4=>?_,fun h4=>?_⟩,fun h4=>⟨_,d6g _ (d3a _ hd _),?_⟩,fun h4=>?_⟩
 ·rw[h4]at hb;rw[if_pos (of_decide_eq_true hb.symm)];rfl
 ·rw[h4]at hb;rw[if_neg (of_decide_eq_false hb.symm)]
 ·have:k=7:=by simpa using h4
  cases a7e (a64 (T2 c).2.1 (T2 c).1).1<;>simp[this]
 ·have:¬k=7:=by simpa using h4
  simp[this]
def e4e(c:A3):A0 × A3 × Int:=
 if(c48 c).2.2≠0 then(V0,c,(c48 c).2.2)
 else if(a2o ⟨6,(c48 c).1,⟨#[]⟩,[],[],[],[]⟩).Bits≠(c48 c).1 then(V0,c,5) else(⟨6,(c48 c).1,⟨#[]⟩,[],[],[],[]⟩,(c48 c).2.1,0)
theorem d09(c:A3):0<=(c48 c).1/\(c48 c).1<18446744073709551616:=by
 unfold c48;split
 ·have:=e8s (G0 c) 8;have e:256 ^ 8=18446744073709551616:=rfl;simp only;omega
 ·exact⟨(by decide:(0:Int)<=0),(by decide:(0:Int)<18446744073709551616)⟩
theorem e8x(c:A3)(hc:OkC c):c5z c (e4e c):=by
 refine d01 _ _ ⟨_,f5f c hc,fun h=>?_,fun h=>⟨_,d46 _ (d09 c),fun h2=>?_,fun h2=>?_⟩⟩
 ·have h0:(c48 c).2.2≠0:=by simpa using h
  rw[e4e,if_pos h0];rfl
 all_goals have h0:¬(c48 c).2.2≠0:=by simpa using h
 ·rw[e4e,if_neg h0,if_pos (by simpa using h2)];rfl
 ·rw[e4e,if_neg h0,if_neg (by simpa using h2)]
def d2n(p:A6)(enum num:Int):Bool:=
 if enum<0\/(p.Enums.length:Int)<=enum\/2147483647<num then false else(p.Enums[enum.toNat]?).any fun y=>y.Open||y.Items.any fun it=>decide (it.Num=num)
structure OkE(p:A6):Prop where
 n:p.Enums.length<=140737488351232
 i:∀y∈p.Enums,y.Items.length<=140737488351232/\∀it∈y.Items, -9223372036854775808<=it.Num/\it.Num<=9223372036854775807
def h72(num:Int):GFn:=⟨86,[],[.elt [.v (.int .u64 num)] 0],by simp[plainL,plain]⟩
theorem e9w(num:Int)(hn:0<=num/\num<=2147483647)(l:List b5u)(hl:l.length<=140737488351232)(hi:∀it∈l, -9223372036854775808<=it.Num/\it.Num<=9223372036854775807):∀n i:Nat,l.length - i<=n->i<=l.length->
  ∃r,N3 i l (h72 num) r/\(0<=r↔∃it∈l.drop i,it.Num=num):=by
 intro n
 induction n with
 |zero=>
  intro i h1 h2;refine⟨-1,I8 _ _ _ _ ⟨fun h=>by simp only[decide_eq_true_eq]at h;omega,fun _=>rfl⟩,?_⟩;have:l.drop i=[]:=List.drop_eq_nil_of_le (by omega);simp[this]
 |succ n ih=>
  intro i h1 h2;rcases Nat.lt_or_ge i l.length with hlt|hge
  ·have hy:l[i]? =some l[i]:=List.getElem?_eq_getElem hlt;have hmem:l[i]∈l:=List.getElem_mem hlt;have hr:=hi _ hmem;have hd:l.drop i=l[i]::l.drop (i+1):=List.drop_eq_getElem_cons hlt;have ht:((i:Int)).toNat=i:=by omega
   have hw:(wU (l[i]).Num==num)=decide ((l[i]).Num=num):=by
    rw[Bool.eq_iff_iff];simp only[beq_iff_eq,decide_eq_true_eq];rcases Int.lt_or_le (l[i]).Num 0 with h0|h0
    ·rw[f7e ⟨hr.1,h0⟩];omega
    ·have:wU (l[i]).Num=(l[i]).Num:=b4j (by omega);rw[this]
   have hc:=c3l l[i] num _ (c1r l[i] num _ rfl)
   by_cases he:(l[i]).Num=num
   ·refine⟨i,I8 _ _ _ _ ⟨fun _=>⟨l[i],by rw[ht];exact hy,by omega,_,hc,fun _=>rfl,fun h=>?_⟩,fun h=>by simp only[decide_eq_false_iff_not]at h;omega⟩,?_⟩
    ·rw[hw,decide_eq_true he]at h;cases h
    ·rw[hd];exact⟨fun _=>⟨_,List.mem_cons_self,he⟩,fun _=>by omega⟩
   ·obtain⟨r,hr1,hr2⟩:=ih (i+1) (by omega) (by omega);refine⟨r,I8 _ _ _ _ ⟨fun _=>⟨l[i],by rw[ht];exact hy,by omega,_,hc,fun h=>?_,fun _=>?_⟩,fun h=>by simp only[decide_eq_false_iff_not]at h;omega⟩,?_⟩
    ·rw[hw,decide_eq_false he]at h;cases h
    ·rw[wI,C7 (by omega)];exact hr1
    ·rw[hr2,hd];exact⟨fun⟨it,k1,k2⟩=>⟨it,List.mem_cons_of_mem _ k1,k2⟩,fun⟨it,k1,k2⟩=>(List.mem_cons.1 k1).elim (fun e=>(he (by rw[<-e];exact k2)).elim) fun k1=>⟨it,k1,k2⟩⟩
  ·refine⟨-1,I8 _ _ _ _ ⟨fun h=>by simp only[decide_eq_true_eq]at h;omega,fun _=>rfl⟩,?_⟩;have:l.drop i=[]:=List.drop_eq_nil_of_le (by omega);simp[this]
theorem c5q(p:A6)(hp:OkE p)(enum num:Int)(hn:0<=num):b0i p enum num (d2n p enum num):=by
 refine c6p _ _ _ _ ⟨fun h=>?_,fun h=>?_⟩
 ·rw[d2n,if_pos];simp only[Bool.or_eq_true,decide_eq_true_eq]at h;omega
 ·simp only[Bool.or_eq_false_iff,decide_eq_false_iff_not]at h;have hlt:enum.toNat<p.Enums.length:=by omega
  have hy:p.Enums[enum.toNat]? =some p.Enums[enum.toNat]:=List.getElem?_eq_getElem hlt;obtain⟨hl,hi⟩:=hp.i _ (List.getElem_mem hlt);rw[d2n,if_neg (by omega),hy];generalize p.Enums[enum.toNat]=y at*;refine⟨y,rfl,by omega,fun h2=>by simp[h2],fun h2=>?_⟩;obtain⟨r,hr1,hr2⟩:=e9w num ⟨hn,by omega⟩ y.Items hl hi y.Items.length 0 (by omega) (by omega);refine⟨_,a6e _ _ _ ⟨r,a8c _ _ _ hr1,rfl⟩,?_⟩;simp only[h2,Option.any_some,Bool.false_or];rw[Bool.eq_iff_iff,decide_eq_true_eq,hr2,List.drop_zero,List.any_eq_true];simp
theorem g70(p:A6)(enum num:Int)(y:V6)(hy:p.Enums[enum.toNat]? =some y)(he:0<=enum)(hn:0<=num/\num<=2147483647)(hl:y.Items.length<=140737488351232):∀n i:Nat,∀b:Bool,y.Items.length - i<=n->i<=y.Items.length->a1z i b enum num p (b||(y.Items.drop i).any fun it=>decide (it.Num=num)):=by
 intro n
 induction n with
 |zero=>
  intro i b h1 h2;refine a9y _ _ _ _ _ _ ⟨y,hy,he,fun h=>by simp only[decide_eq_true_eq]at h;omega,fun _=>?_⟩;rw[List.drop_eq_nil_of_le (by omega)];simp
 |succ n ih=>
  intro i b h1 h2;refine a9y _ _ _ _ _ _ ⟨y,hy,he,fun h=>?_,fun h=>?_⟩
  ·simp only[decide_eq_true_eq]at h;have hlt:i<y.Items.length:=by omega
   have hd:=List.drop_eq_getElem_cons hlt;have ht:((i:Int)).toNat=i:=by omega
   have ei:wI ((i:Int)+1)=((i+1:Nat):Int):=by rw[wI,C7 (by omega)];omega
   rw[ei];refine⟨fun hb=>?_,fun hb=>⟨y,hy,he,y.Items[i],by rw[ht];exact List.getElem?_eq_getElem hlt,by omega,?_⟩⟩
   ·have:=ih (i+1) true (by omega) (by omega);rw[hb];exact this
   ·have:=ih (i+1) (y.Items[i].Num==wI num) (by omega) (by omega);have ew:wI num=num:=C7 (by omega);rw[ew]at this ⊢;rw[hb,hd];simp only[List.any_cons,Bool.false_or];exact this
  ·simp only[decide_eq_false_iff_not]at h;rw[List.drop_eq_nil_of_le (by omega)];simp
theorem d2i(p:A6)(hp:OkE p)(enum num:Int)(hn:0<=num):b1s p enum num (d2n p enum num):=by
 refine c27 _ _ _ _ ⟨fun h=>?_,fun h=>?_⟩
 ·rw[d2n,if_pos];simp only[Bool.or_eq_true,decide_eq_true_eq]at h;omega
 ·simp only[Bool.or_eq_false_iff,decide_eq_false_iff_not]at h;have hlt:enum.toNat<p.Enums.length:=by omega
  have hy:p.Enums[enum.toNat]? =some p.Enums[enum.toNat]:=List.getElem?_eq_getElem hlt;obtain⟨hl,hi⟩:=hp.i _ (List.getElem_mem hlt);rw[d2n,if_neg (by omega),hy];generalize p.Enums[enum.toNat]=y at*;have:=g70 p enum num y hy (by omega) ⟨hn,by omega⟩ hl y.Items.length 0 y.Open (by omega) (by omega);exact⟨y,rfl,by omega,this⟩
def b6q(k b:Int):A0:=⟨k,b,⟨#[]⟩,[],[],[],[]⟩
def b8a(k u:Int):Int:=if k=2\/k=3 then wU (e4b u.toNat) else u
def b55(p:A6)(k tgt:Int)(c:A3):A0 × A3 × Int:=
 if k=1 then
  if(a2m c).2.2≠0 then(V0,c,(a2m c).2.2) else if 1<(a2m c).1 then(V0,c,5) else(b6q k (a2m c).1,(a2m c).2.1,0)
 else if k=6 then e4e c
 else if k=7\/k=8 then e0w k c
 else if k=2\/k=3\/k=4\/k=5\/k=9 then
  if(T2 c).2.2≠0 then(V0,c,(T2 c).2.2)
  else if a2k k (b6q k (b8a k (T2 c).1))=false then(V0,c,6)
  else if k=9/\d2n p tgt (T2 c).1=false then(V0,c,16)
  else(b6q k (b8a k (T2 c).1),(T2 c).2.1,0)
 else(V0,c,12)
theorem e1s(n:Int):0<=wU n/\wU n<18446744073709551616:=by simp only[wU,IntKind.wrap,IntKind.signed,IntKind.bits];simp;omega
theorem b6m(c:A3):0<=(T2 c).1/\(T2 c).1<18446744073709551616:=by
 have hl:=c86 (G0 c) 10 0 0 rfl (by omega) (by decide);unfold T2;split
 ·split
  ·exact⟨Int.natCast_nonneg _,by simp only;omega⟩
  ·exact⟨(by decide:(0:Int)<=0),(by decide:(0:Int)<18446744073709551616)⟩
 ·exact⟨(by decide:(0:Int)<=0),(by decide:(0:Int)<18446744073709551616)⟩
theorem b7n(c:A3):0<=(a2m c).1/\(a2m c).1<256:=by
 unfold a2m;split
 ·have:=a49 c.Data c.At.toNat;simp only;omega
 ·exact⟨(by decide:(0:Int)<=0),(by decide:(0:Int)<256)⟩
theorem OkV.bit{k b:Int}(h:0<=b/\b<18446744073709551616):OkV (b6q k b):=⟨by simp[b6q],by simp[b6q],by simp[b6q],by simp[b6q],(by decide:(0:Nat)<=140737488351232),h.1,h.2⟩
theorem d4d(k:Int)(c:A3):0<=b8a k (T2 c).1/\b8a k (T2 c).1<18446744073709551616:=by
 unfold b8a;split
 ·exact e1s _
 ·exact b6m c
section
variable (p:A6) (hp:OkE p) (o:GOp) (c:A3) (hc:OkC c)
 include hp hc
theorem e3j(hk:o.Kind=2\/o.Kind=3\/o.Kind=4\/o.Kind=5\/o.Kind=9)(h0:(T2 c).2.2=0):a9d (T2 c) p o c (b8a o.Kind (T2 c).1) (b55 p o.Kind o.Target c):=by
 have hn:=d4d o.Kind c
 have hr:b55 p o.Kind o.Target c=if a2k o.Kind (b6q o.Kind (b8a o.Kind (T2 c).1))=false then(V0,c,6)
  else if o.Kind=9/\d2n p o.Target (T2 c).1=false then(V0,c,16)
  else(b6q o.Kind (b8a o.Kind (T2 c).1),(T2 c).2.1,0):=by
  unfold b55;rw[if_neg (by omega),if_neg (by omega),if_neg (by omega),if_pos hk,if_neg (by omega)]
 rw[hr];refine c2x _ _ _ _ _ _ ⟨_,d9w o.Kind (b6q o.Kind (b8a o.Kind (T2 c).1)) (OkV.bit hn),fun h=>?_,fun h=>?_⟩
 ·rw[if_pos (by simpa using h)];rfl
 ·rw[if_neg (by simpa using h)];refine⟨fun b=>b=decide (o.Kind=9/\d2n p o.Target (T2 c).1=false),fun b hb=>⟨fun h2=>?_,fun h2=>?_⟩,fun h2=>⟨_,c5q p hp o.Target (T2 c).1 (b6m c).1,?_⟩,fun h2=>?_⟩
  ·rw[h2]at hb;rw[if_pos (of_decide_eq_true hb.symm)];rfl
  ·rw[h2]at hb;rw[if_neg (of_decide_eq_false hb.symm)];rfl
  ·have:o.Kind=9:=by simpa using h2
   cases d2n p o.Target (T2 c).1<;>simp[this]
  ·have:¬o.Kind=9:=by simpa using h2
   simp[this]
theorem g38:c0i (T2 c).1 (e4b (T2 c).1.toNat)/\c9v (T2 c).1 (e4b (T2 c).1.toNat):=by
 have h:=b6m c;have e:(((T2 c).1.toNat:Nat):Int)=(T2 c).1:=by omega
 have h1:=g5o (T2 c).1.toNat (by omega);have h2:=g0n (T2 c).1.toNat (by omega);rw[e]at h1 h2;exact⟨h1,h2⟩
theorem c9s(b:Bool)(h1:¬o.Kind=1)(h6:¬o.Kind=6)(h78:¬(o.Kind=7\/o.Kind=8))(hb:b=true↔o.Kind=2\/o.Kind=3\/o.Kind=4\/o.Kind=5\/o.Kind=9):a1o b p o c (b55 p o.Kind o.Target c):=by
 refine c3r _ _ _ _ _ ⟨fun h=>⟨_,d03 c hc,fun h2=>?_,fun h2=>?_⟩,fun h=>?_⟩
 ·have h3:(T2 c).2.2≠0:=by simpa using h2
  unfold b55;rw[if_neg h1,if_neg h6,if_neg h78,if_pos (hb.1 h),if_pos h3];rfl
 ·have h0:(T2 c).2.2=0:=by simpa using h2
  refine⟨fun h3=>⟨_,(g38 p hp c hc).1,?_⟩,fun h3=>?_⟩
  ·have h23:o.Kind=2\/o.Kind=3:=by simpa using h3
   have:=e3j p hp o c hc (hb.1 h) h0
   rwa [b8a,if_pos h23]at this
  ·have h23:¬(o.Kind=2\/o.Kind=3):=by simpa using h3
   have:=e3j p hp o c hc (hb.1 h) h0
   rwa [b8a,if_neg h23]at this
 ·unfold b55;rw[if_neg h1,if_neg h6,if_neg h78,if_neg (fun hn=>by rw[hb.2 hn]at h;cases h)];rfl
theorem f1m(b:Bool)(h1:¬o.Kind=1)(h6:¬o.Kind=6)(hb:b=true↔o.Kind=7\/o.Kind=8):b2b b o p c (b55 p o.Kind o.Target c):=by
 refine c32 _ _ _ _ _ ⟨fun h=>⟨_,e4o o.Kind c hc,?_⟩,fun h=>?_⟩
 ·unfold b55;rw[if_neg h1,if_neg h6,if_pos (hb.1 h)]
 ·have h78:¬(o.Kind=7\/o.Kind=8):=fun hn=>by rw[hb.2 hn]at h;cases h
  refine⟨fun h2=>c9s p hp o c hc _ h1 h6 h78 ?_,fun h2=>⟨fun h3=>c9s p hp o c hc _ h1 h6 h78 ?_,fun h3=>⟨fun h4=>c9s p hp o c hc _ h1 h6 h78 ?_,fun h4=>⟨fun h5=>c9s p hp o c hc _ h1 h6 h78 ?_,fun h5=>c9s p hp o c hc _ h1 h6 h78 ?_⟩⟩⟩⟩
  all_goals simp only[beq_iff_eq,beq_eq_false_iff_ne]at*
  all_goals omega
theorem f0m:c5x p o c (b55 p o.Kind o.Target c):=by
 have hb:=b7n c;have e:wU (a2m c).1=(a2m c).1:=b4j (by omega);refine d11 _ _ _ _ ⟨fun h=>⟨_,f21 c hc,fun h2=>?_,fun h2=>⟨fun h3=>?_,fun h3=>?_⟩⟩,fun h=>⟨fun h2=>⟨_,e8x c hc,?_⟩,fun h2=>⟨fun h3=>f1m p hp o c hc _ (by simpa using h) (by simpa using h2) ?_,fun h3=>f1m p hp o c hc _ (by simpa using h) (by simpa using h2) ?_⟩⟩⟩
 all_goals simp only[beq_iff_eq,beq_eq_false_iff_ne]at h
 ·unfold b55;rw[if_pos h,if_pos (by simpa using h2)];rfl
 ·unfold b55;rw[if_pos h,if_neg (by simpa using h2),if_pos (by simpa using h3)];rfl
 ·unfold b55;rw[if_pos h,if_neg (by simpa using h2),if_neg (by simpa using h3),e];rfl
 ·unfold b55;rw[if_neg h,if_pos (by simpa using h2)]
 all_goals simp only[beq_iff_eq,beq_eq_false_iff_ne]at*
 all_goals omega
end
theorem b56{l:List Int}(hl:c03 l){j:Nat}{x:Int}(hx:l[j]? =some x):((F6 (ofI l) j:Nat):Int)=x:=by
 have h:=hl x (List.mem_of_getElem? hx);unfold F6 E9 ofI;simp only[List.getD_eq_getElem?_getD,List.getElem?_map,hx,Option.map_some,Option.getD_some];have:(UInt8.ofNat x.toNat).toNat=x.toNat:=by simp;omega
 omega
theorem a6j(a b:ByteArray){j:Nat}(h:j<a.size):F6 (a++b) j=F6 a j:=by
 have h2:j<a.data.size:=h;unfold F6 E9;simp[ByteArray.data_append,List.getElem?_append_left (show j<a.data.toList.length by simpa using h2)]
theorem f2u(s:ByteArray)(u:Nat):∀i acc:Nat,i<=9->u*128 ^ i<18446744073709551616->i+(a8z u).length<=s.size->(∀j x,(a8z u)[j]? =some x->((F6 s (i+j):Nat):Int)=x)->U5 s i acc=(acc+u*128 ^ i,i+(a8z u).length,0):=by
 induction u using Nat.strongRecOn with
 |_ u ih=>
  intro i acc hi hb hl hx;have hp:=f3a u;obtain⟨p1,p2,p3⟩:=f11 hi;rw[U5.eq_def,if_neg (by omega),if_neg (by omega)]
  by_cases h:u<128
  ·have hu:a8z u=[(u:Int)]:=by rw[a8z,if_pos h]
   have h0:F6 s i=u:=by
    have:=hx 0 u (by rw[hu];rfl);rw[Nat.add_zero]at this;omega
   rw[h0,if_neg,if_pos h,hu]
   ·rfl
   ·rintro⟨rfl,h1⟩;have:(128:Nat) ^ 9=9223372036854775808:=by decide
    rw[this]at hb;omega
  ·have hu:a8z u=((u % 128+128:Nat):Int)::a8z (u / 128):=by rw[a8z,if_neg h]
   have h0:F6 s i=u % 128+128:=by
    have:=hx 0 _ (by rw[hu];rfl);rw[Nat.add_zero]at this;omega
   have h9:i<=8:=by
    rcases Nat.lt_or_ge i 9 with h9|h9
    ·omega
    ·obtain rfl:i=9:=by omega
     have:(128:Nat) ^ 9=9223372036854775808:=by decide
     rw[this]at hb;omega
   rw[h0,if_neg (by omega),if_neg (by omega)];have e1:(u % 128+128) % 128=u % 128:=by omega
   have e2:u*128 ^ i=u % 128*128 ^ i+u / 128*128 ^ (i+1):=by
    rw[Nat.pow_succ,Nat.mul_comm (128 ^ i) 128,<-Nat.mul_assoc,<-Nat.add_mul]
    congr 1
    omega
   rw[hu]at hl
   rw[e1,ih (u / 128) (by omega) (i+1) _ (by omega) (by omega) (by simp at hl;omega) (fun j x hj=>by
    have:=hx (j+1) x (by rw[hu];simpa using hj);rw[show i+1+j=i+(j+1) by omega];exact this),hu,e2]
   simp only[List.length_cons];refine Prod.ext ?_ (Prod.ext ?_ rfl)
   ·simp only;omega
   ·simp only;omega
theorem K3(a b:ByteArray):(a++b).size=a.size+b.size:=ByteArray.size_append
theorem f6h(u:Nat)(hu:u<18446744073709551616)(t:ByteArray):U5 (b1l u++t) 0 0=(u,(b1l u).size,0):=by
 have hz:(b1l u).size=(a8z u).length:=b1w _
 have:=f2u (b1l u++t) u 0 0 (by omega) (by simpa using hu) (by rw[K3,hz];omega) (fun j x hj=>by
  have hlt:j<(b1l u).size:=by rw[hz];exact(List.getElem?_eq_some_iff.1 hj).1
  rw[Nat.zero_add,a6j _ _ hlt];exact b56 (c55 u) hj)
 rw[this,hz];simp
theorem g0d(c:A3)(u:Nat)(hu:u<18446744073709551616)(t:ByteArray)(h:G0 c=b1l u++t):T2 c=((u:Int),a0p c (b1l u).size,0):=by
 have:=f6h u hu t;unfold T2;rw[h,this];simp
theorem e0s(u:Nat):∀n,n<=8->leS (d84 u) n=u % 256 ^ n
 |0,_=>by simp[leS];omega
 |n+1,h=>by
  simp only[leS];rw[e0s u n (by omega)];have hx:(e1y u 8)[n]? =some ((u / 256 ^ n % 256:Nat):Int):=by simp[e1y,show n<8 by omega]
  have:=b56 (d3w u 8) hx;have e:F6 (d84 u) n=u / 256 ^ n % 256:=by unfold d84;omega
  rw[e,Nat.pow_succ,Nat.mod_mul,Nat.mul_comm (256 ^ n)]
theorem c9j(u:Nat):(d84 u).size=8:=by rw[d84,b1w];simp[e1y]
theorem g1c(c:A3)(u:Nat)(hu:u<18446744073709551616)(t:ByteArray)(h:G0 c=d84 u++t):c48 c=((u:Int),a0p c 8,0):=by
 have hz:=c9j u
 have e1:leS (G0 c) 8=u:=by
  rw[h,d0a _ (d84 u) 8 (fun i hi=>a6j _ _ (by omega)),e0s u 8 (Nat.le_refl _)];exact Nat.mod_eq_of_lt (by simpa using hu)
 unfold c48;rw[if_pos (by rw[h,K3];omega),e1]
def atS(d:ByteArray):A3:=⟨d,0,d.size,0,0,9999⟩
theorem g0q(d:ByteArray)(n:Nat)(h:n<=d.size):a2b d n d.size=d.size - n:=by
 have:b4p d n d.size=true:=by simp[b4p];omega
 rw[a2b,if_pos this]
theorem g6i(d:ByteArray):d.extract 0 d.size=d:=by simp
theorem f99(d:ByteArray):G0 (atS d)=d:=by
 unfold G0 atS;have:=g0q d 0 (by omega);simp only[Int.toNat_zero,Nat.zero_add];rw[show((0:Nat):Int)=0 from rfl]at this;rw[this,show((d.size:Int) - 0).toNat=d.size by omega];exact g6i d
theorem b2f(v:A0)(h:a2k v.Kind v=true):1<=v.Kind/\v.Kind<=9/\((v.Kind=7\/v.Kind=8)->v.Bits=0/\v.Text.size<=4096/\(v.Kind=7->a7e v.Text=true))/\(¬(v.Kind=7\/v.Kind=8)->a06 v.Kind v.Bits=true):=by
 unfold a2k at h;simp only[Bool.and_eq_true,decide_eq_true_eq]at h;obtain⟨⟨h1,_⟩,h2⟩:=h;refine⟨h1.1,h1.2.1,fun h3=>?_,fun h3=>?_⟩
 ·rw[if_pos h3]at h2;simp only[Bool.and_eq_true,decide_eq_true_eq,Bool.or_eq_true,Bool.not_eq_true',decide_eq_false_iff_not]at h2;exact⟨h2.1.1,h2.1.2,fun h7=>by rcases h2.2 with h|h;exact absurd h7 h;exact h⟩
 ·rw[if_neg h3]at h2;simp only[Bool.and_eq_true]at h2;exact h2.2
theorem h3p{n:Int}(h:0<=n/\n<18446744073709551616):wU (wI n)=n:=by simp only[wU,wI,IntKind.wrap,IntKind.signed,IntKind.bits];simp;omega
def Ex{α:Type}(Q p:α->Prop):Prop:=∃r,p r/\Q r
section
variable {α β:Type}{Q:α->Prop}
theorem D9{e:α}(h:Q e):Ex Q (fun r=>r=e):=⟨e,rfl,h⟩
theorem F0{c:Prop}[Decidable c]{p q:α->Prop}(h1:c->Ex Q p)(h2:¬c->Ex Q q):Ex Q (fun r=>(decide c=true->p r)/\(decide c=false->q r)):=by
 by_cases h:c
 ·obtain⟨r,a,b⟩:=h1 h;exact⟨r,⟨fun _=>a,fun h'=>absurd h (of_decide_eq_false h')⟩,b⟩
 ·obtain⟨r,a,b⟩:=h2 h;exact⟨r,⟨fun h'=>absurd (of_decide_eq_true h') h,fun _=>a⟩,b⟩
theorem O4{c:Prop}[Decidable c]{p q:α->Prop}(h1:¬c->Ex Q p)(h2:c->Ex Q q):Ex Q (fun r=>((!decide c)=true->p r)/\((!decide c)=false->q r)):=by
 by_cases h:c
 ·obtain⟨r,a,b⟩:=h2 h;exact⟨r,⟨fun h'=>by simp[h]at h',fun _=>a⟩,b⟩
 ·obtain⟨r,a,b⟩:=h1 h;exact⟨r,⟨fun _=>a,fun h'=>by simp[h]at h'⟩,b⟩
theorem B4(B:Bool){p q:α->Prop}(h1:B=true->Ex Q p)(h2:B=false->Ex Q q):Ex Q (fun r=>(B=true->p r)/\(B=false->q r)):=by
 cases hB:B with
 |true=>obtain⟨r,a,b⟩:=h1 hB;exact⟨r,⟨fun _=>a,fun h=>by cases h⟩,b⟩
 |false=>obtain⟨r,a,b⟩:=h2 hB;exact⟨r,⟨fun h=>(by cases h),fun _=>a⟩,b⟩
theorem E3{F:β->Prop}{G:β->α->Prop}{S:β->Prop}(h:Ex S F)(k:∀y,S y->Ex Q (G y)):Ex Q (fun r=>∃y,F y/\G y r):=by
 obtain⟨y,hy,hs⟩:=h;obtain⟨r,a,b⟩:=k y hs;exact⟨r,⟨y,hy,a⟩,b⟩
theorem c3i{F:β->Prop}{G:β->α->Prop}{v:β}(h:F v)(k:Ex Q (G v)):Ex Q (fun r=>∃y,F y/\G y r):=by
 obtain⟨r,a,b⟩:=k;exact⟨r,⟨v,h,a⟩,b⟩
theorem E5{l:List β}{i:Int}{G:β->α->Prop}(h:0<=i/\i<l.length)(k:∀y,l[i.toNat]? =some y->y∈l->Ex Q (G y)):Ex Q (fun r=>∃y,l[i.toNat]? =some y/\0<=i/\G y r):=by
 have hlt:i.toNat<l.length:=by omega
 have he:=List.getElem?_eq_getElem hlt;obtain⟨r,a,b⟩:=k _ he (List.getElem_mem hlt);exact⟨r,⟨_,he,h.1,a⟩,b⟩
theorem a3p{l:List β}{i:Int}{G:β->α->Prop}(y:β)(hy:l[i.toNat]? =some y)(h:0<=i)(k:Ex Q (G y)):Ex Q (fun r=>∃y,l[i.toNat]? =some y/\0<=i/\G y r):=by
 obtain⟨r,a,b⟩:=k;exact⟨r,⟨y,hy,h,a⟩,b⟩
theorem E0{A:Prop}{G:α->Prop}(h:A)(k:Ex Q G):Ex Q (fun r=>A/\G r):=by
 obtain⟨r,a,b⟩:=k;exact⟨r,⟨h,a⟩,b⟩
theorem C5{G:β->α->Prop}{H:(β->Prop)->α->Prop}(k:Ex Q (fun r=>H (fun z=>G z r) r)):Ex Q (fun r=>∃R:β->Prop,(∀z,R z->G z r)/\H R r):=by
 obtain⟨r,a,b⟩:=k;exact⟨r,⟨fun z=>G z r,fun z h=>h,a⟩,b⟩
theorem B5{p F:α->Prop}(h:∀r,p r->F r)(k:Ex Q p):Ex Q F:=by
 obtain⟨r,a,b⟩:=k;exact⟨r,h r a,b⟩
theorem f00{p:α->Prop}{S:α->Prop}(h:Ex S p)(k:∀r,S r->Q r):Ex Q p:=by
 obtain⟨r,a,b⟩:=h;exact⟨r,a,k r b⟩
theorem Ex.to{p:α->Prop}(h:Ex Q p):∃r,p r/\Q r:=h
end
theorem upn{T:Nat->Prop}(n:Nat)(b9u:∀i,i<n->T (i+1)->T i)(fin:∀i,n<=i->T i):∀i,T i:=by
 have:∀k i,n - i<=k->T i:=by
  intro k
  induction k with
  |zero=>exact fun i h=>fin i (by omega)
  |succ k ih=>
   intro i h;rcases Nat.lt_or_ge i n with h1|h1
   ·exact b9u i h1 (ih (i+1) (by omega))
   ·exact fin i h1
 exact fun i=>this (n - i) i (Nat.le_refl _)
theorem V7{i:Nat}(h:i<=4611686018427387904):wI ((i:Int)+1)=((i+1:Nat):Int):=by rw[wI,C7 (by omega)];omega
theorem d2b{i:Nat}(h:0<i/\i<=4611686018427387904):wI ((i:Int) - 1)=((i - 1:Nat):Int):=by rw[wI,C7 (by omega)];omega
def yes{α:Type}:α->Prop:=fun _=>True
theorem e0x(b:Int):Ex yes (b72 b):=B5 (c8g _) (D9 trivial)
theorem d0f(b:Int):Ex yes (b1t b):=B5 (c38 _) (D9 trivial)
theorem f5k(s:ByteArray)(hs:s.size<=140737488351232):∀i:Nat,Ex yes (a3e (i:Int) s):=by
 refine upn (s.size) (fun i hi ih=>?_) (fun i hi=>?_)
 ·refine B5 (b09 _ _) ?_;rw[V7 (by omega)]
  repeat' first|exact D9 trivial|exact ih|assumption|refine C5 ?_|refine F0 (fun h=>?_) (fun h=>?_)|refine O4 (fun h=>?_) (fun h=>?_)|refine B4 _ (fun h=>?_) (fun h=>?_)|refine E5 (by omega) (fun y hy hm=>?_)|refine E0 (by omega) ?_|refine E3 (e0x _) (fun y hq=>?_)|refine E3 (d0f _) (fun y hq=>?_)
 ·refine B5 (b09 _ _) ?_
  repeat' first|exact D9 trivial|exact ih|assumption|exact absurd ‹_› (by omega)|(exfalso;omega)|refine C5 ?_|refine F0 (fun h=>?_) (fun h=>?_)|refine O4 (fun h=>?_) (fun h=>?_)|refine B4 _ (fun h=>?_) (fun h=>?_)|refine E5 (by omega) (fun y hy hm=>?_)|refine E0 (by omega) ?_|refine E3 (e0x _) (fun y hq=>?_)|refine E3 (d0f _) (fun y hq=>?_)
theorem f1v(s:ByteArray)(hs:s.size<=140737488351232):Ex yes (b0s s):=by
 refine B5 (c6j _) ?_
 repeat' first|exact D9 trivial|exact ih|assumption|exact f5k s hs 1|refine C5 ?_|refine F0 (fun h=>?_) (fun h=>?_)|refine O4 (fun h=>?_) (fun h=>?_)|refine B4 _ (fun h=>?_) (fun h=>?_)|refine E5 (by first|omega|(simp only[Bool.or_eq_false_iff,Bool.or_eq_true,Bool.and_eq_true,Bool.and_eq_false_iff,beq_iff_eq,beq_eq_false_iff_ne,decide_eq_false_iff_not,decide_eq_true_eq,ne_eq]at*;omega)) (fun y hy hm=>?_)|refine E0 (by first|omega|(simp only[Bool.or_eq_false_iff,Bool.or_eq_true,Bool.and_eq_true,Bool.and_eq_false_iff,beq_iff_eq,beq_eq_false_iff_ne,decide_eq_false_iff_not,decide_eq_true_eq,ne_eq]at*;omega)) ?_|refine E3 (e0x _) (fun y hq=>?_)|refine E3 (d0f _) (fun y hq=>?_)
theorem f71(s:ByteArray):Ex yes (b5e s):=by
 refine B5 (c6d _) ?_
 repeat' first|exact D9 trivial|exact ih|assumption|refine C5 ?_|refine F0 (fun h=>?_) (fun h=>?_)|refine O4 (fun h=>?_) (fun h=>?_)|refine B4 _ (fun h=>?_) (fun h=>?_)|refine E5 (by omega) (fun y hy hm=>?_)|refine E0 (by omega) ?_
theorem f51(s:ByteArray)(hs:s.size<=140737488351232):∀i:Nat,∀w:ByteArray,w.size<=i/\i<=140737488351232->Ex yes (a26 (i:Int) w s):=by
 refine upn s.size (fun i hi ih w hw=>?_) (fun i hi w hw=>?_)
 ·have hz:(s.extract ((i:Int)).toNat (((i+1:Nat):Int)).toNat).size<=1:=by rw[W4 _ (by omega)];omega
  refine B5 (b1i _ _ _) ?_;rw[V7 (by omega)]
  repeat' first|exact D9 trivial|exact ih|assumption|exact ih _ (by rw[K3];omega)|exact ih ⟨#[]⟩ ⟨Nat.zero_le _,by omega⟩|refine C5 ?_|refine F0 (fun h=>?_) (fun h=>?_)|refine O4 (fun h=>?_) (fun h=>?_)|refine B4 _ (fun h=>?_) (fun h=>?_)|refine E5 (by omega) (fun y hy hm=>?_)|refine E0 (by omega) ?_|refine E3 (f1v _ (by omega)) (fun y hq=>?_)
 ·refine B5 (b1i _ _ _) ?_
  repeat' first|exact D9 trivial|exact ih|assumption|exact absurd ‹_› (by omega)|refine C5 ?_|refine F0 (fun h=>?_) (fun h=>?_)|refine O4 (fun h=>?_) (fun h=>?_)|refine B4 _ (fun h=>?_) (fun h=>?_)|refine E5 (by omega) (fun y hy hm=>?_)|refine E0 (by omega) ?_|refine E3 (f1v _ (by omega)) (fun y hq=>?_)
theorem g4p(s:ByteArray)(hs:s.size<=140737488351232):Ex yes (b8u s):=by
 refine B5 (c6u _) ?_
 repeat' first|exact D9 trivial|exact ih|assumption|exact f51 s hs 0 ⟨#[]⟩ ⟨Nat.zero_le _,by omega⟩|refine C5 ?_|refine F0 (fun h=>?_) (fun h=>?_)|refine O4 (fun h=>?_) (fun h=>?_)|refine B4 _ (fun h=>?_) (fun h=>?_)|refine E5 (by omega) (fun y hy hm=>?_)|refine E0 (by omega) ?_
def e1g(s:ByteArray)(r:ByteArray × ByteArray):Prop:=r.1.size<=s.size - 1
theorem f0s(s:ByteArray)(hs:s.size<=140737488351232):∀k:Nat,k<=s.size->Ex (e1g s) (a9m ((k:Int) - 1) s):=by
 intro k
 induction k with
 |zero=>exact fun _=>B5 (b3m _ _) (F0 (fun h=>absurd h (by omega)) fun _=>D9 (Nat.zero_le _))
 |succ k ih=>
  intro hk;have e:wI (((k+1:Nat):Int) - 1 - 1)=(k:Int) - 1:=by rw[wI,C7 (by omega)];omega
  refine B5 (b3m _ _) ?_;rw[e];refine F0 (fun h=>E0 (by omega) (B4 _ (fun _=>E0 (by omega) (E0 ?_ (D9 ?_))) fun _=>ih (by omega))) fun h=>absurd (show(0:Int)<=((k+1:Nat):Int) - 1 by omega) h
  ·rw[wI,C7 (by omega)];omega
  ·unfold e1g;simp only;rw[W4 _ (by omega)];omega
theorem g2r(s:ByteArray)(hs:s.size<=140737488351232):Ex (e1g s) (c1z s):=by
 refine B5 (c71 _) ?_;rw[wI,C7 (by omega)];exact f0s s hs s.size (Nat.le_refl _)
theorem g2l{s:ByteArray}(h:s.size=0):s=⟨#[]⟩:=ByteArray.ext (Array.eq_empty_of_size_eq_zero h)
theorem e0y:∀n:Nat,∀s:ByteArray,s.size<=n->n<=140737488351232->Ex yes (a5c s):=by
 intro n
 induction n with
 |zero=>
  intro s h _;refine B5 (b0c _) (O4 (fun h0=>?_) fun _=>D9 trivial);exact absurd (g2l (by omega)) h0
 |succ n ih=>
  intro s h hn;refine B5 (b0c _) (O4 (fun h0=>?_) fun _=>D9 trivial);refine E3 (g2r s (by omega)) fun y hy=>E3 (f71 _) fun y2 _=>B4 _ (fun _=>D9 trivial) fun _=>?_
  unfold e1g at hy;exact ih _ (by omega) (by omega)
theorem c33(s:ByteArray)(hs:s.size<=140737488351232):Ex yes (b1p s):=by
 refine B5 (c43 _) ?_
 repeat' first|exact D9 trivial|exact ih|assumption|exact e0y _ s (Nat.le_refl _) hs|refine C5 ?_|refine F0 (fun h=>?_) (fun h=>?_)|refine O4 (fun h=>?_) (fun h=>?_)|refine B4 _ (fun h=>?_) (fun h=>?_)|refine E5 (by omega) (fun y hy hm=>?_)|refine E0 (by omega) ?_|refine E3 (g4p s hs) (fun y hq=>?_)
theorem c82(s:ByteArray)(hs:s.size<=140737488351232):Ex yes (b49 s):=by
 refine B5 (c6v _) ?_
 repeat' first|exact D9 trivial|exact ih|assumption|refine C5 ?_|refine F0 (fun h=>?_) (fun h=>?_)|refine O4 (fun h=>?_) (fun h=>?_)|refine B4 _ (fun h=>?_) (fun h=>?_)|refine E5 (by omega) (fun y hy hm=>?_)|refine E0 (by omega) ?_|refine E3 (f1v s hs) (fun y hq=>?_)|refine E3 (f71 s) (fun y hq=>?_)
structure g5r(o:GOp):Prop where
 num:I64 o.Num
 name:Sz o.Name.size
 alias_:Sz o.Alias.size
 card:I64 o.Card
 key:I64 o.Key
 kind:I64 o.Kind
 target:I64 o.Target
 union:I64 o.Union
structure b83(g:B7):Prop where
 name:Sz g.Name.size
 n:Sz g.Ops.length
 ops:∀o∈g.Ops,g5r o
 unions:I64 g.Unions
structure d2e(n:b4h):Prop where
 name:Sz n.Name.size
 val:OkD n.Val
structure e6s(x:b5u):Prop where
 name:Sz x.Name.size
 num:I64 x.Num
 nn:Sz x.Notes.length
 notes:∀n∈x.Notes,d2e n
structure e8u(x:c0q):Prop where
 from_:I64 x.From
 to_:I64 x.To
structure c1a(e:V6):Prop where
 name:Sz e.Name.size
 ni:Sz e.Items.length
 items:∀x∈e.Items,e6s x
 nr:Sz e.Reserved.length
 reserved:∀x∈e.Reserved,e8u x
 nn:Sz e.Notes.length
 notes:∀x∈e.Notes,d2e x
structure b8f(p:A6):Prop where
 np:Sz p.Progs.length
 progs:∀g∈p.Progs,b83 g
 ne:Sz p.Enums.length
 enums:∀e∈p.Enums,c1a e
section
variable {n:Nat}{avs:List AV}{av:AV}
theorem g1y(h:Ty Tryz.prog n 151 avs):∃x,avs=a8s x/\d2e x:=by
 obtain⟨m,rfl,a1,b1,rfl,h1,a2,b2,rfl,h2,rfl⟩:=d1k (ts:=[9,35]) (by kernel_rfl) h;obtain⟨x1,rfl,k1⟩:=c24 (by kernel_rfl) h1;obtain⟨x2,rfl,k2⟩:=f57 _ _ h2;exact⟨⟨x1,x2⟩,by rw[Y7];rfl,⟨k1,k2⟩⟩
theorem e2z{t:TypeId}(hu:Tryz.prog.underlying t=some (.slice 151))(h:Ty Tryz.prog n t avs):∃l:List b4h,avs=[.sl (l.map a8s) .no]/\Sz l.length/\∀x∈l,d2e x:=e5a hu (of_decide_eq_true (by kernel_rfl)) (fun k a hk ha=>g1y ha) h
theorem f9j(h:Ty Tryz.prog n 115 avs):∃x,avs=a3f x/\e6s x:=by
 obtain⟨m,rfl,a1,b1,rfl,h1,a2,b2,rfl,h2,a3,b3,rfl,h3,rfl⟩:=d1k (ts:=[9,3,110]) (by kernel_rfl) h;obtain⟨x1,rfl,k1⟩:=c24 (by kernel_rfl) h1;obtain⟨x2,rfl,k2⟩:=b44 (by kernel_rfl) h2;obtain⟨x3,rfl,n3,k3⟩:=e2z (by kernel_rfl) h3;exact⟨⟨x1,x2,x3⟩,rfl,⟨k1,k2,n3,k3⟩⟩
theorem g3j(h:Ty Tryz.prog n 149 avs):∃x,avs=b2u x/\e8u x:=by
 obtain⟨m,rfl,a1,b1,rfl,h1,a2,b2,rfl,h2,rfl⟩:=d1k (ts:=[3,3]) (by kernel_rfl) h;obtain⟨x1,rfl,k1⟩:=b44 (by kernel_rfl) h1;obtain⟨x2,rfl,k2⟩:=b44 (by kernel_rfl) h2;exact⟨⟨x1,x2⟩,rfl,⟨k1,k2⟩⟩
theorem g2d(h:Ty Tryz.prog n 112 avs):∃x,avs=S5 x/\c1a x:=by
 obtain⟨m,rfl,a1,b1,rfl,h1,a2,b2,rfl,h2,a3,b3,rfl,h3,a4,b4,rfl,h4,a5,b5,rfl,h5,rfl⟩:=d1k (ts:=[9,4,108,109,110]) (by kernel_rfl) h;obtain⟨x1,rfl,k1⟩:=c24 (by kernel_rfl) h1;obtain⟨x2,rfl⟩:=g19 (by kernel_rfl) h2;obtain⟨x3,rfl,n3,k3⟩:=e5a (e:=115) (enc:=a3f) (Ok:=e6s) (by kernel_rfl) (of_decide_eq_true (by kernel_rfl)) (fun k a hk ha=>f9j ha) h3;obtain⟨x4,rfl,n4,k4⟩:=e5a (e:=149) (enc:=b2u) (Ok:=e8u) (by kernel_rfl) (of_decide_eq_true (by kernel_rfl)) (fun k a hk ha=>g3j ha) h4;obtain⟨x5,rfl,n5,k5⟩:=e2z (by kernel_rfl) h5;exact⟨⟨x1,x2,x3,x4,x5⟩,rfl,⟨k1,n3,k3,n4,k4,n5,k5⟩⟩
theorem h0c(h:Ty Tryz.prog n 38 avs):∃x,avs=Q8 x/\g5r x:=by
 obtain⟨m,rfl,a1,b1,rfl,h1,a2,b2,rfl,h2,a3,b3,rfl,h3,a4,b4,rfl,h4,a5,b5,rfl,h5,a6,b6,rfl,h6,a7,b7,rfl,h7,a8,b8,rfl,h8,rfl⟩:=d1k (ts:=[3,9,9,3,3,3,3,3]) (by kernel_rfl) h;obtain⟨x1,rfl,k1⟩:=b44 (by kernel_rfl) h1;obtain⟨x2,rfl,k2⟩:=c24 (by kernel_rfl) h2;obtain⟨x3,rfl,k3⟩:=c24 (by kernel_rfl) h3;obtain⟨x4,rfl,k4⟩:=b44 (by kernel_rfl) h4;obtain⟨x5,rfl,k5⟩:=b44 (by kernel_rfl) h5;obtain⟨x6,rfl,k6⟩:=b44 (by kernel_rfl) h6;obtain⟨x7,rfl,k7⟩:=b44 (by kernel_rfl) h7;obtain⟨x8,rfl,k8⟩:=b44 (by kernel_rfl) h8;exact⟨⟨x1,x2,x3,x4,x5,x6,x7,x8⟩,rfl,⟨k1,k2,k3,k4,k5,k6,k7,k8⟩⟩
theorem g14(h:Ty Tryz.prog n 41 avs):∃x,avs=D1 x/\b83 x:=by
 obtain⟨m,rfl,a1,b1,rfl,h1,a2,b2,rfl,h2,a3,b3,rfl,h3,rfl⟩:=d1k (ts:=[9,39,3]) (by kernel_rfl) h;obtain⟨x1,rfl,k1⟩:=c24 (by kernel_rfl) h1;obtain⟨x2,rfl,n2,k2⟩:=e5a (e:=38) (enc:=Q8) (Ok:=g5r) (by kernel_rfl) (of_decide_eq_true (by kernel_rfl)) (fun k a hk ha=>h0c ha) h2;obtain⟨x3,rfl,k3⟩:=b44 (by kernel_rfl) h3;exact⟨⟨x1,x2,x3⟩,rfl,⟨k1,n2,k2,k3⟩⟩
theorem g0z(h:Ty Tryz.prog n 25 avs):∃x,avs=B6 x/\b8f x:=by
 obtain⟨m,rfl,a1,b1,rfl,h1,a2,b2,rfl,h2,rfl⟩:=d1k (ts:=[22,23]) (by kernel_rfl) h;obtain⟨x1,rfl,n1,k1⟩:=e5a (e:=41) (enc:=D1) (Ok:=b83) (by kernel_rfl) (of_decide_eq_true (by kernel_rfl)) (fun k a hk ha=>g14 ha) h1;obtain⟨x2,rfl,n2,k2⟩:=e5a (e:=112) (enc:=S5) (Ok:=c1a) (by kernel_rfl) (of_decide_eq_true (by kernel_rfl)) (fun k a hk ha=>g2d ha) h2;exact⟨⟨x1,x2⟩,rfl,⟨n1,k1,n2,k2⟩⟩
theorem h7h(h:TyV Tryz.prog n 25 av):∃x,av=.agg (B6 x)/\b8f x:=by
 obtain⟨avs,rfl,g⟩:=g4q (ts:=[22,23]) (by kernel_rfl) h;obtain⟨x,rfl,k⟩:=g0z g;exact⟨x,rfl,k⟩
end
structure OpF(p:A6)(o:GOp):Prop where
 card:1<=o.Card/\o.Card<=5
 kind:1<=o.Kind/\o.Kind<=10
 key:(o.Card≠5->o.Key=0)/\(o.Card=5->(1<=o.Key/\o.Key<=5)\/o.Key=7)
 msg:o.Kind=10->0<=o.Target/\o.Target<p.Progs.length/\o.Card≠3
 enum:o.Kind=9->0<=o.Target/\o.Target<p.Enums.length
 other:o.Kind≠9->o.Kind≠10->o.Target= -1
 union:o.Union= -1\/o.Card=2
theorem D8{n:Nat}(h:Sz n):n<=140737488351232:=h
theorem OkD.okv{v:A0}(h:OkD v):OkV v:=by
 cases h with
 |mk _ k b t l p s r=>exact⟨l,p,s,r,t,b.1,b.2⟩
theorem f6t{α:Type}{l:List α}{i:Nat}(h:i<l.length):∃y,l[((i:Int)).toNat]? =some y/\y∈l:=⟨l[i],by simp[h],List.getElem_mem h⟩
def Asc(l:List GOp)(n:Nat):Prop:=∀m x y,m+1<n->l[m]? =some x->l[m+1]? =some y->x.Num<y.Num
theorem f35{l:List GOp}{i:Nat}{x y:GOp}(h:Asc l i)(hx:l[i - 1]? =some x)(hy:l[i]? =some y)(hlt:x.Num<y.Num):Asc l (i+1):=by
 intro m x' y' hm h1 h2
 by_cases e:m+1=i
 ·have:m=i - 1:=by omega
  subst this;rw[hx]at h1;cases h1;rw[e,hy]at h2;cases h2;exact hlt
 ·exact h m x' y' (by omega) h1 h2
theorem b37{α:Type}{l:List α}{T:α->Prop}{k:Nat}{g:α}(h:∀j g,j<k->l[j]? =some g->T g)(hg:l[k]? =some g)(ht:T g):∀j g,j<k+1->l[j]? =some g->T g:=by
 intro j g' hj hj2
 by_cases e:j=k
 ·subst e;rw[hg]at hj2;cases hj2;exact ht
 ·exact h j g' (by omega) hj2
theorem b96{α:Type}{l:List α}{T:α->Prop}{k:Nat}(h:∀j g,j<k->l[j]? =some g->T g)(hk:l.length<=k):∀g∈l,T g:=by
 intro g hg;obtain⟨j,hj⟩:=List.mem_iff_getElem?.1 hg;exact h j g (by have:=(List.getElem?_eq_some_iff.1 hj).1;omega) hj
section
variable (p:A6) (hp:b8f p)
 include hp
theorem f7n:∀i:Nat,∀b,Ex yes (a2z (i:Int) b p):=by
 have b1:=D8 hp.np;have b2:=D8 hp.ne;refine upn (p.Enums.length) (fun i hi ih b=>?_) (fun i hi b=>?_)
 ·refine B5 (b1b _ _ _) ?_
  try rw[V7 (by omega)]
  repeat' first|exact D9 trivial|exact ih|assumption|exact ih _|refine C5 ?_|refine F0 (fun h=>?_) (fun h=>?_)|refine O4 (fun h=>?_) (fun h=>?_)|refine B4 _ (fun h=>?_) (fun h=>?_)|refine E5 (by omega) (fun y hy hm=>?_)|refine E0 (by omega) ?_
 ·refine B5 (b1b _ _ _) ?_
  repeat' first|exact D9 trivial|exact ih|assumption|exact ih _|exact absurd ‹_› (by omega)|(exfalso;omega)|refine C5 ?_|refine F0 (fun h=>?_) (fun h=>?_)|refine O4 (fun h=>?_) (fun h=>?_)|refine B4 _ (fun h=>?_) (fun h=>?_)|refine E5 (by omega) (fun y hy hm=>?_)|refine E0 (by omega) ?_
theorem g6n:∀i:Nat,∀b,Ex yes (a3l (i:Int) b p):=by
 have b1:=D8 hp.np;have b2:=D8 hp.ne;refine upn (p.Progs.length) (fun i hi ih b=>?_) (fun i hi b=>?_)
 ·refine B5 (b1h _ _ _) ?_
  try rw[V7 (by omega)]
  repeat' first|exact D9 trivial|exact ih|assumption|exact ih _|exact f7n p hp 0 _|refine C5 ?_|refine F0 (fun h=>?_) (fun h=>?_)|refine O4 (fun h=>?_) (fun h=>?_)|refine B4 _ (fun h=>?_) (fun h=>?_)|refine E5 (by omega) (fun y hy hm=>?_)|refine E0 (by omega) ?_
 ·refine B5 (b1h _ _ _) ?_
  repeat' first|exact D9 trivial|exact ih|assumption|exact ih _|exact f7n p hp 0 _|exact absurd ‹_› (by omega)|(exfalso;omega)|refine C5 ?_|refine F0 (fun h=>?_) (fun h=>?_)|refine O4 (fun h=>?_) (fun h=>?_)|refine B4 _ (fun h=>?_) (fun h=>?_)|refine E5 (by omega) (fun y hy hm=>?_)|refine E0 (by omega) ?_
theorem f4n:Ex yes (b9q p):=by
 refine B5 (c5p _) ?_;exact g6n p hp 0 _
theorem e6d(k:Nat)(hk:k<p.Enums.length)(g:V6)(hg:p.Enums[((k:Int)).toNat]? =some g)(og:c1a g)(H:∀b,Ex yes (a20 ((k+1:Nat):Int) b p)):∀i:Nat,∀b,Ex yes (a24 (i:Int) b (k:Int) p):=by
 have b1:=D8 hp.np;have b2:=D8 hp.ne;have b3:=D8 og.ni;have b4:=D8 og.nr;refine upn (g.Items.length) (fun i hi ih b=>?_) (fun i hi b=>?_)
 ·refine B5 (b1g _ _ _ _) ?_
  try rw[V7 (by omega)]
  repeat' first|exact D9 trivial|exact ih|assumption|exact ih _|exact H _|refine a3p g hg (by omega) ?_|rw[V7 (by omega)]|refine C5 ?_|refine F0 (fun h=>?_) (fun h=>?_)|refine O4 (fun h=>?_) (fun h=>?_)|refine B4 _ (fun h=>?_) (fun h=>?_)|refine E5 (by omega) (fun y hy hm=>?_)|refine E0 (by omega) ?_|refine E3 (c82 _ (og.items _ (by assumption)).name) (fun y hq=>?_)
 ·refine B5 (b1g _ _ _ _) ?_
  repeat' first|exact D9 trivial|exact ih|assumption|exact ih _|exact H _|refine a3p g hg (by omega) ?_|rw[V7 (by omega)]|exact absurd ‹_› (by omega)|(exfalso;omega)|refine C5 ?_|refine F0 (fun h=>?_) (fun h=>?_)|refine O4 (fun h=>?_) (fun h=>?_)|refine B4 _ (fun h=>?_) (fun h=>?_)|refine E5 (by omega) (fun y hy hm=>?_)|refine E0 (by omega) ?_|refine E3 (c82 _ (og.items _ (by assumption)).name) (fun y hq=>?_)
theorem e6f:∀i:Nat,∀b,Ex yes (a20 (i:Int) b p):=by
 have b1:=D8 hp.np;have b2:=D8 hp.ne;refine upn (p.Enums.length) (fun i hi ih b=>?_) (fun i hi b=>?_)
 ·obtain⟨g,hg,gm⟩:=f6t hi;refine B5 (b1k _ _ _) ?_
  try rw[V7 (by omega)]
  repeat' first|exact D9 trivial|exact ih|assumption|exact ih _|exact e6d p hp i hi g hg (hp.enums g gm) ih 0 _|refine a3p g hg (by omega) ?_|refine C5 ?_|refine F0 (fun h=>?_) (fun h=>?_)|refine O4 (fun h=>?_) (fun h=>?_)|refine B4 _ (fun h=>?_) (fun h=>?_)|refine E5 (by omega) (fun y hy hm=>?_)|refine E0 (by omega) ?_|refine E3 (c33 _ (hp.enums g gm).name) (fun y hq=>?_)
 ·refine B5 (b1k _ _ _) ?_
  repeat' first|exact D9 trivial|exact ih|assumption|exact ih _|exact e6d p hp i hi g hg (hp.enums g gm) ih 0 _|refine a3p g hg (by omega) ?_|exact absurd ‹_› (by omega)|(exfalso;omega)|refine C5 ?_|refine F0 (fun h=>?_) (fun h=>?_)|refine O4 (fun h=>?_) (fun h=>?_)|refine B4 _ (fun h=>?_) (fun h=>?_)|refine E5 (by omega) (fun y hy hm=>?_)|refine E0 (by omega) ?_|refine E3 (c33 _ (hp.enums g gm).name) (fun y hq=>?_)
theorem e6i(k:Nat)(hk:k<p.Progs.length)(g:B7)(hg:p.Progs[((k:Int)).toNat]? =some g)(og:b83 g)(H:∀b,Ex yes (a3b ((k+1:Nat):Int) b p)):∀i:Nat,∀b,Ex yes (a2r (i:Int) b (k:Int) p):=by
 have b1:=D8 hp.np;have b2:=D8 hp.ne;have b3:=D8 og.n;refine upn (g.Ops.length) (fun i hi ih b=>?_) (fun i hi b=>?_)
 ·refine B5 (b1m _ _ _ _) ?_
  try rw[V7 (by omega)]
  repeat' first|exact D9 trivial|exact ih|assumption|exact ih _|exact H _|refine a3p g hg (by omega) ?_|rw[V7 (by omega)]|refine C5 ?_|refine F0 (fun h=>?_) (fun h=>?_)|refine O4 (fun h=>?_) (fun h=>?_)|refine B4 _ (fun h=>?_) (fun h=>?_)|refine E5 (by omega) (fun y hy hm=>?_)|refine E0 (by omega) ?_|refine E3 (c82 _ (og.ops _ (by assumption)).name) (fun y hq=>?_)
 ·refine B5 (b1m _ _ _ _) ?_
  repeat' first|exact D9 trivial|exact ih|assumption|exact ih _|exact H _|refine a3p g hg (by omega) ?_|rw[V7 (by omega)]|exact absurd ‹_› (by omega)|(exfalso;omega)|refine C5 ?_|refine F0 (fun h=>?_) (fun h=>?_)|refine O4 (fun h=>?_) (fun h=>?_)|refine B4 _ (fun h=>?_) (fun h=>?_)|refine E5 (by omega) (fun y hy hm=>?_)|refine E0 (by omega) ?_|refine E3 (c82 _ (og.ops _ (by assumption)).name) (fun y hq=>?_)
theorem g2v:∀i:Nat,∀b,Ex yes (a3b (i:Int) b p):=by
 have b1:=D8 hp.np;have b2:=D8 hp.ne;refine upn (p.Progs.length) (fun i hi ih b=>?_) (fun i hi b=>?_)
 ·obtain⟨g,hg,gm⟩:=f6t hi;refine B5 (b1e _ _ _) ?_
  try rw[V7 (by omega)]
  repeat' first|exact D9 trivial|exact ih|assumption|exact ih _|exact e6i p hp i hi g hg (hp.progs g gm) ih 0 _|exact e6f p hp 0 _|refine a3p g hg (by omega) ?_|refine C5 ?_|refine F0 (fun h=>?_) (fun h=>?_)|refine O4 (fun h=>?_) (fun h=>?_)|refine B4 _ (fun h=>?_) (fun h=>?_)|refine E5 (by omega) (fun y hy hm=>?_)|refine E0 (by omega) ?_|refine E3 (c33 _ (hp.progs g gm).name) (fun y hq=>?_)
 ·refine B5 (b1e _ _ _) ?_
  repeat' first|exact D9 trivial|exact ih|assumption|exact ih _|exact e6i p hp i hi g hg (hp.progs g gm) ih 0 _|exact e6f p hp 0 _|refine a3p g hg (by omega) ?_|exact absurd ‹_› (by omega)|(exfalso;omega)|refine C5 ?_|refine F0 (fun h=>?_) (fun h=>?_)|refine O4 (fun h=>?_) (fun h=>?_)|refine B4 _ (fun h=>?_) (fun h=>?_)|refine E5 (by omega) (fun y hy hm=>?_)|refine E0 (by omega) ?_|refine E3 (c33 _ (hp.progs g gm).name) (fun y hq=>?_)
theorem g1n:Ex yes (c1j p):=by
 refine B5 (c8y _) ?_;exact g2v p hp 0 _
theorem e9x(A:Prop)(k:Nat)(hk:k<p.Enums.length)(g:V6)(hg:p.Enums[((k:Int)).toNat]? =some g)(og:c1a g)(H:∀b,(b=true->A)->Ex (fun r=>r=true->A) (a05 ((k+1:Nat):Int) b p)):∀i:Nat,1<=i->∀b,(b=true->A)->Ex (fun r=>r=true->A) (a0x (i:Int) b (k:Int) p):=by
 have b1:=D8 hp.np;have b2:=D8 hp.ne;have b3:=D8 og.ni;have b4:=D8 og.nr;refine upn (g.Items.length) (fun i hi ih h1 b hA=>?_) (fun i hi h1 b hA=>?_)
 ·refine B5 (a8i _ _ _ _) ?_
  try rw[V7 (by omega)]
  repeat' first|exact D9 (fun h=>by first|exact hA ‹_›|exact hA h|cases h)|exact ih|assumption|exact ih (by omega) _ (fun h=>by first|exact hA ‹_›|cases h)|exact H _ hA|refine a3p g hg (by omega) ?_|rw[V7 (by omega)]|rw[d2b (by omega)]|refine C5 ?_|refine F0 (fun h=>?_) (fun h=>?_)|refine O4 (fun h=>?_) (fun h=>?_)|refine B4 _ (fun h=>?_) (fun h=>?_)|refine E5 (by omega) (fun y hy hm=>?_)|refine E0 (by omega) ?_
 ·refine B5 (a8i _ _ _ _) ?_
  repeat' first|exact D9 (fun h=>by first|exact hA ‹_›|exact hA h|cases h)|exact ih|assumption|exact ih (by omega) _ (fun h=>by first|exact hA ‹_›|cases h)|exact H _ hA|refine a3p g hg (by omega) ?_|rw[V7 (by omega)]|rw[d2b (by omega)]|exact absurd ‹_› (by omega)|(exfalso;omega)|refine C5 ?_|refine F0 (fun h=>?_) (fun h=>?_)|refine O4 (fun h=>?_) (fun h=>?_)|refine B4 _ (fun h=>?_) (fun h=>?_)|refine E5 (by omega) (fun y hy hm=>?_)|refine E0 (by omega) ?_
theorem g3q(A:Prop):∀i:Nat,∀b,(b=true->A)->Ex (fun r=>r=true->A) (a05 (i:Int) b p):=by
 have b1:=D8 hp.np;have b2:=D8 hp.ne;refine upn (p.Enums.length) (fun i hi ih b hA=>?_) (fun i hi b hA=>?_)
 ·obtain⟨g,hg,gm⟩:=f6t hi;refine B5 (a8q _ _ _) ?_
  try rw[V7 (by omega)]
  repeat' first|exact D9 (fun h=>by first|exact hA ‹_›|exact hA h|cases h)|exact ih|assumption|exact e9x p hp A i hi g hg (hp.enums g gm) ih 1 (Nat.le_refl _) _ (fun h=>by first|exact hA ‹_›|cases h)|rw[d2b (by omega)]|refine C5 ?_|refine F0 (fun h=>?_) (fun h=>?_)|refine O4 (fun h=>?_) (fun h=>?_)|refine B4 _ (fun h=>?_) (fun h=>?_)|refine E5 (by omega) (fun y hy hm=>?_)|refine E0 (by omega) ?_
 ·refine B5 (a8q _ _ _) ?_
  repeat' first|exact D9 (fun h=>by first|exact hA ‹_›|exact hA h|cases h)|exact ih|assumption|exact e9x p hp A i hi g hg (hp.enums g gm) ih 1 (Nat.le_refl _) _ (fun h=>by first|exact hA ‹_›|cases h)|rw[d2b (by omega)]|exact absurd ‹_› (by omega)|(exfalso;omega)|refine C5 ?_|refine F0 (fun h=>?_) (fun h=>?_)|refine O4 (fun h=>?_) (fun h=>?_)|refine B4 _ (fun h=>?_) (fun h=>?_)|refine E5 (by omega) (fun y hy hm=>?_)|refine E0 (by omega) ?_
theorem g0x(k:Nat)(hk:k<p.Progs.length)(g:B7)(hg:p.Progs[((k:Int)).toNat]? =some g)(og:b83 g)(H:∀b,(b=true->∀j g,j<k+1->p.Progs[j]? =some g->Asc g.Ops g.Ops.length)->Ex (fun r=>r=true->∀g∈p.Progs,Asc g.Ops g.Ops.length) (a0u ((k+1:Nat):Int) b p)):
  ∀i:Nat,1<=i->(i=1\/i<=g.Ops.length)->∀b,(b=true->(∀j g,j<k->p.Progs[j]? =some g->Asc g.Ops g.Ops.length)/\Asc g.Ops i)->Ex (fun r=>r=true->∀g∈p.Progs,Asc g.Ops g.Ops.length) (X7 (i:Int) b (k:Int) p):=by
 have b1:=D8 hp.np;have b2:=D8 hp.ne;have b3:=D8 og.n;have e3:((k:Int)).toNat=k:=by omega
 refine upn g.Ops.length (fun i hi ih h1 hi2 b hA=>?_) (fun i hi h1 hi2 b hA=>?_)
 ·refine B5 (a8k _ _ _ _) (a3p g hg (by omega) (F0 (fun _=>B4 _ (fun hb=>?_) (fun hb=>?_)) fun h=>absurd (show(i:Int)<g.Ops.length by omega) h))
  ·rw[d2b (by omega),V7 (by omega)];refine a3p g hg (by omega) (E5 (by omega) fun x hx hm=>a3p g hg (by omega) (E5 (by omega) fun y hy hm2=>ih (by omega) (by omega) _ fun h=>⟨(hA hb).1,?_⟩));have e1:(((i - 1:Nat):Int)).toNat=i - 1:=by omega
   have e2:((i:Int)).toNat=i:=by omega
   rw[e1]at hx;rw[e2]at hy;exact f35 (hA hb).2 hx hy (of_decide_eq_true h)
  ·rw[V7 (by omega)];exact ih (by omega) (by omega) _ fun h=>by cases h
 ·refine B5 (a8k _ _ _ _) (a3p g hg (by omega) (F0 (fun h=>absurd h (by omega)) fun _=>?_));rw[V7 (by omega)];refine H _ fun h=>b37 (hA h).1 (by rw[<-e3];exact hg) ?_
  rcases hi2 with e|e
  ·intro m x y hm;omega
  ·have:i=g.Ops.length:=by omega
   rw[<-this];exact(hA h).2
theorem g1r:∀i:Nat,i<=p.Progs.length->∀b,(b=true->∀j g,j<i->p.Progs[j]? =some g->Asc g.Ops g.Ops.length)->Ex (fun r=>r=true->∀g∈p.Progs,Asc g.Ops g.Ops.length) (a0u (i:Int) b p):=by
 have b1:=D8 hp.np;have b2:=D8 hp.ne;have b1:=D8 hp.np;have b2:=D8 hp.ne;refine upn p.Progs.length (fun i hi ih hle b hA=>?_) (fun i hi hle b hA=>?_)
 ·obtain⟨g,hg,gm⟩:=f6t hi;have fin:∀b',(b'=true->b=true)->Ex (fun r=>r=true->∀g∈p.Progs,Asc g.Ops g.Ops.length) (X7 1 b' (i:Int) p):=fun b' hb'=>g0x p hp i hi g hg (hp.progs g gm) (fun b h=>ih (by omega) b h) 1 (Nat.le_refl _) (.inl rfl) b' fun h=>⟨hA (hb' h),fun m x y hm=>by omega⟩
  refine B5 (a8p _ _ _) (F0 (fun _=>C5 (B4 _ (fun hb=>C5 ?_) fun hb=>fin _ (fun h=>by cases h))) fun h=>absurd (show(i:Int)<p.Progs.length by omega) h);refine B4 _ (fun h=>fin _ fun _=>hb) fun h=>?_
  have:0<i:=by simp at h;omega
  rw[d2b (by omega)];exact E5 (by omega) fun _ _ _=>E5 (by omega) fun _ _ _=>fin _ fun _=>hb
 ·refine B5 (a8p _ _ _) (F0 (fun h=>absurd h (by omega)) fun _=>g3q p hp _ 0 b fun h=>b96 (hA h) hi)
theorem f14:Ex (fun r=>r=true->∀g∈p.Progs,Asc g.Ops g.Ops.length) (b7k p):=
 B5 (c41 _) (g1r p hp 0 (Nat.zero_le _) true fun _ j g h=>by omega)
end
section
variable (p:A6) (hp:b8f p)
 include hp
theorem e8j(k:Nat)(g:V6)(og:c1a g)(m:Nat)(hm:m<g.Items.length)(H:∀b,Ex yes (a1t ((m+1:Nat):Int) g (k:Int) b p)):∀i:Nat,∀b,Ex yes (a11 (i:Int) (m:Int) g (k:Int) b p):=by
 have b1:=D8 hp.np;have b2:=D8 hp.ne;have b3:=D8 og.ni;have b4:=D8 og.nr;refine upn (m) (fun i hi ih b=>?_) (fun i hi b=>?_)
 ·refine B5 (b0q _ _ _ _ _ _) ?_
  try rw[V7 (by omega)]
  repeat' first|exact D9 trivial|exact ih|assumption|exact ih _|rw[V7 (by omega)]|exact H _|refine C5 ?_|refine F0 (fun h=>?_) (fun h=>?_)|refine O4 (fun h=>?_) (fun h=>?_)|refine B4 _ (fun h=>?_) (fun h=>?_)|refine E5 (by omega) (fun y hy hm=>?_)|refine E0 (by omega) ?_
 ·refine B5 (b0q _ _ _ _ _ _) ?_
  repeat' first|exact D9 trivial|exact ih|assumption|exact ih _|rw[V7 (by omega)]|exact H _|exact absurd ‹_› (by omega)|(exfalso;omega)|refine C5 ?_|refine F0 (fun h=>?_) (fun h=>?_)|refine O4 (fun h=>?_) (fun h=>?_)|refine B4 _ (fun h=>?_) (fun h=>?_)|refine E5 (by omega) (fun y hy hm=>?_)|refine E0 (by omega) ?_
theorem e7c(k:Nat)(g:V6)(og:c1a g)(H:∀b,Ex yes (a1x ((k+1:Nat):Int) b p))(hk:k<p.Enums.length):∀i:Nat,∀b,Ex yes (a1t (i:Int) g (k:Int) b p):=by
 have b1:=D8 hp.np;have b2:=D8 hp.ne;have b3:=D8 og.ni;have b4:=D8 og.nr;refine upn (g.Items.length) (fun i hi ih b=>?_) (fun i hi b=>?_)
 ·refine B5 (b0v _ _ _ _ _) ?_
  try rw[V7 (by omega)]
  repeat' first|exact D9 trivial|exact ih|assumption|exact ih _|exact e8j p hp k g og i hi ih 0 _|rw[V7 (by omega)]|exact H _|refine C5 ?_|refine F0 (fun h=>?_) (fun h=>?_)|refine O4 (fun h=>?_) (fun h=>?_)|refine B4 _ (fun h=>?_) (fun h=>?_)|refine E5 (by omega) (fun y hy hm=>?_)|refine E0 (by omega) ?_
 ·refine B5 (b0v _ _ _ _ _) ?_
  repeat' first|exact D9 trivial|exact ih|assumption|exact ih _|exact e8j p hp k g og i hi ih 0 _|rw[V7 (by omega)]|exact H _|exact absurd ‹_› (by omega)|(exfalso;omega)|refine C5 ?_|refine F0 (fun h=>?_) (fun h=>?_)|refine O4 (fun h=>?_) (fun h=>?_)|refine B4 _ (fun h=>?_) (fun h=>?_)|refine E5 (by omega) (fun y hy hm=>?_)|refine E0 (by omega) ?_
theorem f2c:∀i:Nat,∀b,Ex yes (a1x (i:Int) b p):=by
 have b1:=D8 hp.np;have b2:=D8 hp.ne;refine upn (p.Enums.length) (fun i hi ih b=>?_) (fun i hi b=>?_)
 ·refine B5 (a9w _ _ _) ?_
  try rw[V7 (by omega)]
  repeat' first|exact D9 trivial|exact ih|assumption|exact ih _|exact e7c p hp i _ (hp.enums _ ‹_›) ih hi 0 _|refine C5 ?_|refine F0 (fun h=>?_) (fun h=>?_)|refine O4 (fun h=>?_) (fun h=>?_)|refine B4 _ (fun h=>?_) (fun h=>?_)|refine E5 (by omega) (fun y hy hm=>?_)|refine E0 (by omega) ?_
 ·refine B5 (a9w _ _ _) ?_
  repeat' first|exact D9 trivial|exact ih|assumption|exact ih _|exact e7c p hp i _ (hp.enums _ ‹_›) ih hi 0 _|exact absurd ‹_› (by omega)|(exfalso;omega)|refine C5 ?_|refine F0 (fun h=>?_) (fun h=>?_)|refine O4 (fun h=>?_) (fun h=>?_)|refine B4 _ (fun h=>?_) (fun h=>?_)|refine E5 (by omega) (fun y hy hm=>?_)|refine E0 (by omega) ?_
theorem e67(k:Nat)(g:B7)(og:b83 g)(m:Nat)(hm:m<g.Ops.length)(H:∀b,Ex yes (a16 ((m+1:Nat):Int) g (k:Int) b p)):∀i:Nat,∀b,Ex yes (a14 (i:Int) (m:Int) g (k:Int) b p):=by
 have b1:=D8 hp.np;have b2:=D8 hp.ne;have b3:=D8 og.n;refine upn (m) (fun i hi ih b=>?_) (fun i hi b=>?_)
 ·refine B5 (b0a _ _ _ _ _ _) ?_
  try rw[V7 (by omega)]
  repeat' first|exact D9 trivial|exact ih|assumption|exact ih _|rw[V7 (by omega)]|exact H _|refine C5 ?_|refine F0 (fun h=>?_) (fun h=>?_)|refine O4 (fun h=>?_) (fun h=>?_)|refine B4 _ (fun h=>?_) (fun h=>?_)|refine E5 (by omega) (fun y hy hm=>?_)|refine E0 (by omega) ?_
 ·refine B5 (b0a _ _ _ _ _ _) ?_
  repeat' first|exact D9 trivial|exact ih|assumption|exact ih _|rw[V7 (by omega)]|exact H _|exact absurd ‹_› (by omega)|(exfalso;omega)|refine C5 ?_|refine F0 (fun h=>?_) (fun h=>?_)|refine O4 (fun h=>?_) (fun h=>?_)|refine B4 _ (fun h=>?_) (fun h=>?_)|refine E5 (by omega) (fun y hy hm=>?_)|refine E0 (by omega) ?_
theorem f1p(k:Nat)(g:B7)(og:b83 g)(H:∀b,Ex yes (a0c ((k+1:Nat):Int) b p))(hk:k<p.Progs.length):∀i:Nat,∀b,Ex yes (a16 (i:Int) g (k:Int) b p):=by
 have b1:=D8 hp.np;have b2:=D8 hp.ne;have b3:=D8 og.n;refine upn (g.Ops.length) (fun i hi ih b=>?_) (fun i hi b=>?_)
 ·refine B5 (a99 _ _ _ _ _) ?_
  try rw[V7 (by omega)]
  repeat' first|exact D9 trivial|exact ih|assumption|exact ih _|exact e67 p hp k g og i hi ih 0 _|rw[V7 (by omega)]|exact H _|refine C5 ?_|refine F0 (fun h=>?_) (fun h=>?_)|refine O4 (fun h=>?_) (fun h=>?_)|refine B4 _ (fun h=>?_) (fun h=>?_)|refine E5 (by omega) (fun y hy hm=>?_)|refine E0 (by omega) ?_
 ·refine B5 (a99 _ _ _ _ _) ?_
  repeat' first|exact D9 trivial|exact ih|assumption|exact ih _|exact e67 p hp k g og i hi ih 0 _|rw[V7 (by omega)]|exact H _|exact absurd ‹_› (by omega)|(exfalso;omega)|refine C5 ?_|refine F0 (fun h=>?_) (fun h=>?_)|refine O4 (fun h=>?_) (fun h=>?_)|refine B4 _ (fun h=>?_) (fun h=>?_)|refine E5 (by omega) (fun y hy hm=>?_)|refine E0 (by omega) ?_
theorem e9f(k:Nat)(hk:k<p.Progs.length)(H:∀b,Ex yes (a0c ((k+1:Nat):Int) b p)):∀i:Nat,∀b,Ex yes (a1p (i:Int) (k:Int) b p):=by
 have b1:=D8 hp.np;have b2:=D8 hp.ne;refine upn (p.Enums.length) (fun i hi ih b=>?_) (fun i hi b=>?_)
 ·refine B5 (b0n _ _ _ _) ?_
  try rw[V7 (by omega)]
  repeat' first|exact D9 trivial|exact ih|assumption|exact ih _|exact f1p p hp k _ (hp.progs _ ‹_›) H hk 0 _|refine C5 ?_|refine F0 (fun h=>?_) (fun h=>?_)|refine O4 (fun h=>?_) (fun h=>?_)|refine B4 _ (fun h=>?_) (fun h=>?_)|refine E5 (by omega) (fun y hy hm=>?_)|refine E0 (by omega) ?_
 ·refine B5 (b0n _ _ _ _) ?_
  repeat' first|exact D9 trivial|exact ih|assumption|exact ih _|exact f1p p hp k _ (hp.progs _ ‹_›) H hk 0 _|exact absurd ‹_› (by omega)|(exfalso;omega)|refine C5 ?_|refine F0 (fun h=>?_) (fun h=>?_)|refine O4 (fun h=>?_) (fun h=>?_)|refine B4 _ (fun h=>?_) (fun h=>?_)|refine E5 (by omega) (fun y hy hm=>?_)|refine E0 (by omega) ?_
theorem g0e:∀i:Nat,∀b,Ex yes (a0c (i:Int) b p):=by
 have b1:=D8 hp.np;have b2:=D8 hp.ne;refine upn (p.Progs.length) (fun i hi ih b=>?_) (fun i hi b=>?_)
 ·refine B5 (b0o _ _ _) ?_
  try rw[V7 (by omega)]
  repeat' first|exact D9 trivial|exact ih|assumption|exact ih _|exact e9f p hp i hi ih 0 _|exact f2c p hp 0 _|refine C5 ?_|refine F0 (fun h=>?_) (fun h=>?_)|refine O4 (fun h=>?_) (fun h=>?_)|refine B4 _ (fun h=>?_) (fun h=>?_)|refine E5 (by omega) (fun y hy hm=>?_)|refine E0 (by omega) ?_
 ·refine B5 (b0o _ _ _) ?_
  repeat' first|exact D9 trivial|exact ih|assumption|exact ih _|exact e9f p hp i hi ih 0 _|exact f2c p hp 0 _|exact absurd ‹_› (by omega)|(exfalso;omega)|refine C5 ?_|refine F0 (fun h=>?_) (fun h=>?_)|refine O4 (fun h=>?_) (fun h=>?_)|refine B4 _ (fun h=>?_) (fun h=>?_)|refine E5 (by omega) (fun y hy hm=>?_)|refine E0 (by omega) ?_
theorem f5i:Ex yes (b9v p):=B5 (c6z _) (g0e p hp 0 _)
theorem g2n(l:List c0q)(hl:Sz l.length)(n:Int):∀i:Nat,Ex yes (a00 (i:Int) l n):=by
 have b1:=D8 hp.np;have b2:=D8 hp.ne;have b1:=D8 hl;refine upn (l.length) (fun i hi ih=>?_) (fun i hi=>?_)
 ·refine B5 (a8l _ _ _) ?_;rw[V7 (by omega)]
  repeat' first|exact D9 trivial|exact ih|assumption|refine C5 ?_|refine F0 (fun h=>?_) (fun h=>?_)|refine O4 (fun h=>?_) (fun h=>?_)|refine B4 _ (fun h=>?_) (fun h=>?_)|refine E5 (by omega) (fun y hy hm=>?_)|refine E0 (by omega) ?_
 ·refine B5 (a8l _ _ _) ?_
  repeat' first|exact D9 trivial|exact ih|assumption|exact absurd ‹_› (by omega)|(exfalso;omega)|refine C5 ?_|refine F0 (fun h=>?_) (fun h=>?_)|refine O4 (fun h=>?_) (fun h=>?_)|refine B4 _ (fun h=>?_) (fun h=>?_)|refine E5 (by omega) (fun y hy hm=>?_)|refine E0 (by omega) ?_
theorem g6d(l:List c0q)(hl:Sz l.length)(n:Int):Ex yes (b5p l n):=B5 (c2r _ _) (g2n p hp l hl n 0)
theorem f0q(A:Prop)(k:Nat)(hk:k<p.Enums.length)(g:V6)(og:c1a g)(H:∀b,(b=true->A)->Ex (fun r=>r=true->A) (a0a ((k+1:Nat):Int) b p)):∀i:Nat,∀b,(b=true->A)->Ex (fun r=>r=true->A) (Z5 (i:Int) (k:Int) b p g):=by
 have b1:=D8 hp.np;have b2:=D8 hp.ne;have b3:=D8 og.ni;have b4:=D8 og.nr;refine upn (g.Reserved.length) (fun i hi ih b hA=>?_) (fun i hi b hA=>?_)
 ·refine B5 (b0b _ _ _ _ _) ?_
  try rw[V7 (by omega)]
  repeat' first|exact D9 (fun h=>by first|exact hA ‹_›|exact hA h|cases h)|exact ih|assumption|exact ih _ (fun h=>hA (by simp only[Bool.and_eq_true]at*;simp[*]))|exact ih _ (fun h=>by cases h)|rw[V7 (by omega)]|exact H _ hA|rw[d2b (by omega)]|refine C5 ?_|refine F0 (fun h=>?_) (fun h=>?_)|refine O4 (fun h=>?_) (fun h=>?_)|refine B4 _ (fun h=>?_) (fun h=>?_)|refine E5 (by omega) (fun y hy hm=>?_)|refine E0 (by omega) ?_
 ·refine B5 (b0b _ _ _ _ _) ?_
  repeat' first|exact D9 (fun h=>by first|exact hA ‹_›|exact hA h|cases h)|exact ih|assumption|exact ih _ (fun h=>hA (by simp only[Bool.and_eq_true]at*;simp[*]))|exact ih _ (fun h=>by cases h)|rw[V7 (by omega)]|exact H _ hA|rw[d2b (by omega)]|exact absurd ‹_› (by omega)|(exfalso;omega)|refine C5 ?_|refine F0 (fun h=>?_) (fun h=>?_)|refine O4 (fun h=>?_) (fun h=>?_)|refine B4 _ (fun h=>?_) (fun h=>?_)|refine E5 (by omega) (fun y hy hm=>?_)|refine E0 (by omega) ?_
theorem f2e(A:Prop)(k:Nat)(hk:k<p.Enums.length)(g:V6)(og:c1a g)(H:∀b,(b=true->A)->Ex (fun r=>r=true->A) (a0a ((k+1:Nat):Int) b p)):∀i:Nat,∀b,(b=true->A)->Ex (fun r=>r=true->A) (a1y (i:Int) (k:Int) b p g):=by
 have b1:=D8 hp.np;have b2:=D8 hp.ne;have b3:=D8 og.ni;have b4:=D8 og.nr;refine upn (g.Items.length) (fun i hi ih b hA=>?_) (fun i hi b hA=>?_)
 ·refine B5 (a9z _ _ _ _ _) ?_
  try rw[V7 (by omega)]
  repeat' first|exact D9 (fun h=>by first|exact hA ‹_›|exact hA h|cases h)|exact ih|assumption|exact ih _ (fun h=>hA (by simp only[Bool.and_eq_true]at*;simp[*]))|exact ih _ (fun h=>by cases h)|exact f0q p hp A k hk g og H 0 _ hA|refine C5 ?_|refine F0 (fun h=>?_) (fun h=>?_)|refine O4 (fun h=>?_) (fun h=>?_)|refine B4 _ (fun h=>?_) (fun h=>?_)|refine E5 (by omega) (fun y hy hm=>?_)|refine E0 (by omega) ?_|refine E3 (g6d p hp _ og.nr _) (fun y hq=>?_)
 ·refine B5 (a9z _ _ _ _ _) ?_
  repeat' first|exact D9 (fun h=>by first|exact hA ‹_›|exact hA h|cases h)|exact ih|assumption|exact ih _ (fun h=>hA (by simp only[Bool.and_eq_true]at*;simp[*]))|exact ih _ (fun h=>by cases h)|exact f0q p hp A k hk g og H 0 _ hA|exact absurd ‹_› (by omega)|(exfalso;omega)|refine C5 ?_|refine F0 (fun h=>?_) (fun h=>?_)|refine O4 (fun h=>?_) (fun h=>?_)|refine B4 _ (fun h=>?_) (fun h=>?_)|refine E5 (by omega) (fun y hy hm=>?_)|refine E0 (by omega) ?_|refine E3 (g6d p hp _ og.nr _) (fun y hq=>?_)
theorem g0s(A:Prop):∀i:Nat,∀b,(b=true->A)->Ex (fun r=>r=true->A) (a0a (i:Int) b p):=by
 have b1:=D8 hp.np;have b2:=D8 hp.ne;refine upn (p.Enums.length) (fun i hi ih b hA=>?_) (fun i hi b hA=>?_)
 ·refine B5 (a95 _ _ _) ?_
  try rw[V7 (by omega)]
  repeat' first|exact D9 (fun h=>by first|exact hA ‹_›|exact hA h|cases h)|exact ih|assumption|exact f2e p hp A i hi _ (hp.enums _ ‹_›) ih 0 _ hA|refine C5 ?_|refine F0 (fun h=>?_) (fun h=>?_)|refine O4 (fun h=>?_) (fun h=>?_)|refine B4 _ (fun h=>?_) (fun h=>?_)|refine E5 (by omega) (fun y hy hm=>?_)|refine E0 (by omega) ?_
 ·refine B5 (a95 _ _ _) ?_
  repeat' first|exact D9 (fun h=>by first|exact hA ‹_›|exact hA h|cases h)|exact ih|assumption|exact f2e p hp A i hi _ (hp.enums _ ‹_›) ih 0 _ hA|exact absurd ‹_› (by omega)|(exfalso;omega)|refine C5 ?_|refine F0 (fun h=>?_) (fun h=>?_)|refine O4 (fun h=>?_) (fun h=>?_)|refine B4 _ (fun h=>?_) (fun h=>?_)|refine E5 (by omega) (fun y hy hm=>?_)|refine E0 (by omega) ?_
def f24(o:GOp):Prop:=1<=o.Num/\o.Num<=65535
theorem g29(k:Nat)(hk:k<p.Progs.length)(g:B7)(hg:p.Progs[((k:Int)).toNat]? =some g)(og:b83 g)(H:∀b,(b=true->∀j g,j<k+1->p.Progs[j]? =some g->∀o∈g.Ops,f24 o)->Ex (fun r=>r=true->∀g∈p.Progs,∀o∈g.Ops,f24 o) (a13 ((k+1:Nat):Int) b p)):
  ∀i:Nat,∀b,(b=true->(∀j g,j<k->p.Progs[j]? =some g->∀o∈g.Ops,f24 o)/\∀j o,j<i->g.Ops[j]? =some o->f24 o)->Ex (fun r=>r=true->∀g∈p.Progs,∀o∈g.Ops,f24 o) (a5a (i:Int) (k:Int) b p):=by
 have b1:=D8 hp.np;have b2:=D8 hp.ne;have b3:=D8 og.n;have e3:((k:Int)).toNat=k:=by omega
 refine upn g.Ops.length (fun i hi ih b hA=>?_) (fun i hi b hA=>?_)
 ·refine B5 (b0f _ _ _ _) (a3p g hg (by omega) (F0 (fun _=>a3p g hg (by omega) (E5 (by omega) fun y hy hm=>?_)) fun h=>absurd (show(i:Int)<g.Ops.length by omega) h));rw[V7 (by omega)];refine ih _ fun h=>?_
  simp only[Bool.and_eq_true,decide_eq_true_eq]at h;have e2:((i:Int)).toNat=i:=by omega
  rw[e2]at hy;exact⟨(hA h.1.1).1,b37 (hA h.1.1).2 hy ⟨h.1.2,h.2⟩⟩
 ·refine B5 (b0f _ _ _ _) (a3p g hg (by omega) (F0 (fun h=>absurd h (by omega)) fun _=>?_));rw[V7 (by omega)];exact H _ fun h=>b37 (hA h).1 (by rw[<-e3];exact hg) (b96 (hA h).2 hi)
theorem g2g:∀i:Nat,∀b,(b=true->∀j g,j<i->p.Progs[j]? =some g->∀o∈g.Ops,f24 o)->Ex (fun r=>r=true->∀g∈p.Progs,∀o∈g.Ops,f24 o) (a13 (i:Int) b p):=by
 have b1:=D8 hp.np;have b2:=D8 hp.ne;have b1:=D8 hp.np;have b2:=D8 hp.ne;refine upn p.Progs.length (fun i hi ih b hA=>?_) (fun i hi b hA=>?_)
 ·obtain⟨g,hg,gm⟩:=f6t hi;exact B5 (b0u _ _ _) (F0 (fun _=>g29 p hp i hi g hg (hp.progs g gm) ih 0 b fun h=>⟨hA h,fun j o hj=>by omega⟩) fun h=>absurd (show(i:Int)<p.Progs.length by omega) h)
 ·exact B5 (b0u _ _ _) (F0 (fun h=>absurd h (by omega)) fun _=>g0s p hp _ 0 b fun h=>b96 (hA h) hi)
theorem f5p:Ex (fun r=>r=true->∀g∈p.Progs,∀o∈g.Ops,f24 o) (b9j p):=B5 (c6x _) (g2g p hp 0 true fun _ j g h=>by omega)
end
theorem f4t(b:Bool)(s:ByteArray):Ex yes (a17 b s):=by
 refine B5 (c1k _ _) ?_
 repeat' first|exact D9 trivial|exact ih|assumption|refine C5 ?_|refine F0 (fun h=>?_) (fun h=>?_)|refine O4 (fun h=>?_) (fun h=>?_)|refine B4 _ (fun h=>?_) (fun h=>?_)|refine E5 (by omega) (fun y hy hm=>?_)|refine E0 (by omega) ?_
theorem f34(b:Bool)(s:ByteArray):Ex yes (a18 b s):=by
 refine B5 (c2f _ _) ?_
 repeat' first|exact D9 trivial|exact ih|assumption|exact f4t _ s|refine C5 ?_|refine F0 (fun h=>?_) (fun h=>?_)|refine O4 (fun h=>?_) (fun h=>?_)|refine B4 _ (fun h=>?_) (fun h=>?_)|refine E5 (by omega) (fun y hy hm=>?_)|refine E0 (by omega) ?_
theorem f9g(b:Bool)(s:ByteArray):Ex yes (a7p b s):=by
 refine B5 (c4v _ _) ?_
 repeat' first|exact D9 trivial|exact ih|assumption|exact f34 _ s|refine C5 ?_|refine F0 (fun h=>?_) (fun h=>?_)|refine O4 (fun h=>?_) (fun h=>?_)|refine B4 _ (fun h=>?_) (fun h=>?_)|refine E5 (by omega) (fun y hy hm=>?_)|refine E0 (by omega) ?_
theorem e8h(s:ByteArray):Ex yes (b93 s):=by
 refine B5 (d0c _) ?_
 repeat' first|exact D9 trivial|exact ih|assumption|exact f9g _ s|refine C5 ?_|refine F0 (fun h=>?_) (fun h=>?_)|refine O4 (fun h=>?_) (fun h=>?_)|refine B4 _ (fun h=>?_) (fun h=>?_)|refine E5 (by omega) (fun y hy hm=>?_)|refine E0 (by omega) ?_
theorem g2o(b:Bool)(t:Int):Ex yes (a4q b t):=by
 refine B5 (c2e _ _) ?_
 repeat' first|exact D9 trivial|exact ih|assumption|refine C5 ?_|refine F0 (fun h=>?_) (fun h=>?_)|refine O4 (fun h=>?_) (fun h=>?_)|refine B4 _ (fun h=>?_) (fun h=>?_)|refine E5 (by omega) (fun y hy hm=>?_)|refine E0 (by omega) ?_
theorem f9y(b:Bool)(s:ByteArray)(t:Int):Ex yes (a2a b s t):=by
 refine B5 (c1d _ _ _) ?_
 repeat' first|exact D9 trivial|exact ih|assumption|exact g2o _ t|refine C5 ?_|refine F0 (fun h=>?_) (fun h=>?_)|refine O4 (fun h=>?_) (fun h=>?_)|refine B4 _ (fun h=>?_) (fun h=>?_)|refine E5 (by omega) (fun y hy hm=>?_)|refine E0 (by omega) ?_
theorem g06(b:Bool)(s:ByteArray)(t:Int):Ex yes (a4z b s t):=by
 refine B5 (c10 _ _ _) ?_
 repeat' first|exact D9 trivial|exact ih|assumption|exact f9y _ s t|refine C5 ?_|refine F0 (fun h=>?_) (fun h=>?_)|refine O4 (fun h=>?_) (fun h=>?_)|refine B4 _ (fun h=>?_) (fun h=>?_)|refine E5 (by omega) (fun y hy hm=>?_)|refine E0 (by omega) ?_
theorem f91(b:Bool)(s:ByteArray)(t:Int):Ex yes (a9l b s t):=by
 refine B5 (c1t _ _ _) ?_
 repeat' first|exact D9 trivial|exact ih|assumption|exact g06 _ s t|refine C5 ?_|refine F0 (fun h=>?_) (fun h=>?_)|refine O4 (fun h=>?_) (fun h=>?_)|refine B4 _ (fun h=>?_) (fun h=>?_)|refine E5 (by omega) (fun y hy hm=>?_)|refine E0 (by omega) ?_
theorem g8o(s:ByteArray)(t:Int):Ex yes (c6y s t):=by
 refine B5 (d1g _ _) ?_
 repeat' first|exact D9 trivial|exact ih|assumption|exact f91 _ s t|refine C5 ?_|refine F0 (fun h=>?_) (fun h=>?_)|refine O4 (fun h=>?_) (fun h=>?_)|refine B4 _ (fun h=>?_) (fun h=>?_)|refine E5 (by omega) (fun y hy hm=>?_)|refine E0 (by omega) ?_
theorem e8k(n:b4h)(hn:d2e n):Ex yes (c2h n):=by
 refine B5 (c8b _) ?_
 repeat' first|exact D9 trivial|exact ih|assumption|refine c3i (e3h _ _ hn.val.okv) ?_|refine C5 ?_|refine F0 (fun h=>?_) (fun h=>?_)|refine O4 (fun h=>?_) (fun h=>?_)|refine B4 _ (fun h=>?_) (fun h=>?_)|refine E5 (by omega) (fun y hy hm=>?_)|refine E0 (by omega) ?_|refine E3 (e8h _) (fun y hq=>?_)
theorem g0u(l:List b4h)(hl:Sz l.length)(hn:∀n∈l,d2e n)(t:Int):∀i:Nat,Ex yes (a4j (i:Int) l t):=by
 have b1:=D8 hl;refine upn (l.length) (fun i hi ih=>?_) (fun i hi=>?_)
 ·refine B5 (b32 _ _ _) ?_;rw[V7 (by omega)]
  repeat' first|exact D9 trivial|exact ih|assumption|rw[d2b (by omega)]|refine C5 ?_|refine F0 (fun h=>?_) (fun h=>?_)|refine O4 (fun h=>?_) (fun h=>?_)|refine B4 _ (fun h=>?_) (fun h=>?_)|refine E5 (by omega) (fun y hy hm=>?_)|refine E0 (by omega) ?_|refine E3 (e8h _) (fun y hq=>?_)|refine E3 (g8o _ _) (fun y hq=>?_)|refine E3 (e8k _ (hn _ (by assumption))) (fun y hq=>?_)
 ·refine B5 (b32 _ _ _) ?_
  repeat' first|exact D9 trivial|exact ih|assumption|rw[d2b (by omega)]|exact absurd ‹_› (by omega)|(exfalso;omega)|refine C5 ?_|refine F0 (fun h=>?_) (fun h=>?_)|refine O4 (fun h=>?_) (fun h=>?_)|refine B4 _ (fun h=>?_) (fun h=>?_)|refine E5 (by omega) (fun y hy hm=>?_)|refine E0 (by omega) ?_|refine E3 (e8h _) (fun y hq=>?_)|refine E3 (g8o _ _) (fun y hq=>?_)|refine E3 (e8k _ (hn _ (by assumption))) (fun y hq=>?_)
theorem g42(l:List b4h)(hl:Sz l.length)(hn:∀n∈l,d2e n)(t:Int):Ex yes (c1f l t):=by
 refine B5 (c8v _ _) ?_
 repeat' first|exact D9 trivial|exact ih|assumption|exact g0u l hl hn t 0|refine C5 ?_|refine F0 (fun h=>?_) (fun h=>?_)|refine O4 (fun h=>?_) (fun h=>?_)|refine B4 _ (fun h=>?_) (fun h=>?_)|refine E5 (by omega) (fun y hy hm=>?_)|refine E0 (by omega) ?_
theorem f5a(p:A6)(o:GOp):Ex (fun r=>r=true->(o.Kind=10->0<=o.Target/\o.Target<p.Progs.length/\o.Card≠3)/\(o.Kind=9->0<=o.Target/\o.Target<p.Enums.length)/\(o.Kind≠9->o.Kind≠10->o.Target= -1)) (b8q p o):=by
 refine B5 (c6m _ _) (B4 _ (fun h=>D9 fun h2=>?_) fun h=>B4 _ (fun h3=>D9 fun h2=>?_) fun h3=>D9 fun h2=>?_)
 all_goals simp only[Bool.and_eq_true,decide_eq_true_eq,bne_iff_ne,beq_iff_eq,beq_eq_false_iff_ne,ne_eq]at*
 ·exact⟨fun _=>⟨h2.1.1,h2.1.2,h2.2⟩,fun h=>by omega,fun h=>by omega⟩
 ·exact⟨fun h=>by omega,fun _=>h2,fun h=>by omega⟩
 ·exact⟨fun h=>by omega,fun h=>by omega,fun _ _=>h2⟩
theorem f16(p:A6)(o:GOp)(b:Bool):Ex (fun r=>r=true->b=true/\(o.Kind=10->0<=o.Target/\o.Target<p.Progs.length/\o.Card≠3)/\(o.Kind=9->0<=o.Target/\o.Target<p.Enums.length)/\(o.Kind≠9->o.Kind≠10->o.Target= -1)/\(o.Union= -1\/o.Card=2)) (a2f b p o):=by
 refine B5 (b7o _ _ _) (C5 (B4 _ (fun h=>E3 (f5a p o) fun y hy=>D9 fun h2=>?_) fun h=>D9 fun h2=>?_))
 ·simp only[Bool.and_eq_true,Bool.or_eq_true,beq_iff_eq]at h2;obtain⟨a1,a2,a3⟩:=hy h2.1;exact⟨h,a1,a2,a3,h2.2⟩
 ·simp at h2
theorem g5u(p:A6)(o:GOp)(ho:g5r o):Ex (fun r=>r=true->OpF p o) (b2q p o):=by
 refine B5 (c0t _ _) (c3i (d0n _ ho.alias_) (B4 _ (fun h=>D9 fun h2=>by cases h2) fun h=>B4 _ (fun h2=>f00 (f16 p o _) fun r hr h3=>?_) fun h2=>f00 (f16 p o _) fun r hr h3=>?_))
 all_goals
  obtain⟨a0,a1,a2,a3,a4⟩:=hr h3;simp only[Bool.or_eq_false_iff,decide_eq_false_iff_not,bne_iff_ne,bne_eq_false_iff_eq,ne_eq,Bool.or_eq_true,Bool.and_eq_true,decide_eq_true_eq,beq_iff_eq]at h h2 a0;refine⟨by omega,by omega,⟨fun _=>by omega,fun _=>by omega⟩,a1,a2,a3,a4⟩
def e2y(o:GOp):Prop:= -1<=o.Union
theorem f5o(g:B7)(hg:b83 g):∀i:Nat,∀n:Nat,n<=i/\i<=g.Ops.length->(∀j o,j<i->g.Ops[j]? =some o->e2y o)->Ex (fun r=>r=true->∀o∈g.Ops,e2y o) (a03 (i:Int) (n:Int) g):=by
 have b1:=D8 hg.n;refine upn g.Ops.length (fun i hi ih n hn hA=>?_) (fun i hi n hn hA=>?_)
 ·have e2:((i:Int)).toNat=i:=by omega
  refine B5 (b1n _ _ _) (F0 (fun _=>E5 (by omega) fun y hy hm=>?_) fun h=>absurd (show(i:Int)<g.Ops.length by omega) h);rw[V7 (by omega),V7 (by omega)];have hy':=hy;rw[e2]at hy';refine B4 _ (fun h=>ih _ (by omega) (b37 hA hy' ?_)) fun h=>C5 ?_
  ·simp only[beq_iff_eq]at h;unfold e2y;omega
  have no:∀b,(b=false->e2y y)->Ex (α:=Bool) (fun r=>r=true->∀o∈g.Ops,e2y o) (fun r=>(b=true->r=false)/\(b=false->a03 ((i+1:Nat):Int) (n:Int) g r)):=fun b hb=>B4 b (fun _=>D9 fun h=>by cases h) fun h=>ih _ (by omega) (b37 hA hy' (hb h))
  refine B4 _ (fun h2=>B4 _ (fun h3=>no _ fun h=>by cases h) fun h3=>?_) fun h2=>no _ fun _=>?_
  ·have:0<i:=by simp only[beq_eq_false_iff_ne]at h3;omega
   rw[d2b (by omega)];refine E5 (by omega) fun z hz _=>no _ fun h=>?_
   have e3:(((i - 1:Nat):Int)).toNat=i - 1:=by omega
   rw[e3]at hz;have:=hA (i - 1) z (by omega) hz;simp only[bne_eq_false_iff_eq]at h;unfold e2y at*;omega
  ·simp only[bne_eq_false_iff_eq]at h2;unfold e2y;omega
 ·exact B5 (b1n _ _ _) (F0 (fun h=>absurd h (by omega)) fun _=>D9 fun _=>b96 hA hi)
theorem g37(g:B7)(hg:b83 g):Ex (fun r=>r=true->∀o∈g.Ops,e2y o) (b8v g):=B5 (c6o _) (f5o g hg 0 0 (by omega) fun j o h=>by omega)
section
variable (p:A6) (hp:b8f p)
 include hp
def e53(g:B7):Prop:=(∀o∈g.Ops,e2y o)/\∀o∈g.Ops,OpF p o
theorem f97(k:Nat)(hk:k<p.Progs.length)(g:B7)(hg:p.Progs[((k:Int)).toNat]? =some g)(og:b83 g)(H:∀b,(b=true->∀j g,j<k+1->p.Progs[j]? =some g->e53 p g)->Ex (fun r=>r=true->∀g∈p.Progs,e53 p g) (Y0 ((k+1:Nat):Int) b p)):
  ∀i:Nat,∀b,(b=true->(∀j g,j<k->p.Progs[j]? =some g->e53 p g)/\(∀o∈g.Ops,e2y o)/\∀j o,j<i->g.Ops[j]? =some o->OpF p o)->Ex (fun r=>r=true->∀g∈p.Progs,e53 p g) (Y5 (i:Int) b (k:Int) p):=by
 have b1:=D8 hp.np;have b2:=D8 hp.ne;have b3:=D8 og.n;have e3:((k:Int)).toNat=k:=by omega
 refine upn g.Ops.length (fun i hi ih b hA=>?_) (fun i hi b hA=>?_)
 ·refine B5 (a6n _ _ _ _) (a3p g hg (by omega) (F0 (fun _=>?_) fun h=>absurd (show(i:Int)<g.Ops.length by omega) h));rw[V7 (by omega)];refine B4 _ (fun hb=>a3p g hg (by omega) (E5 (by omega) fun y hy hm=>E3 (g5u p y (og.ops y hm)) fun z hz=>ih _ fun h=>?_)) fun hb=>ih _ fun h=>by cases h
  have e2:((i:Int)).toNat=i:=by omega
  rw[e2]at hy;exact⟨(hA hb).1,(hA hb).2.1,b37 (hA hb).2.2 hy (hz h)⟩
 ·refine B5 (a6n _ _ _ _) (a3p g hg (by omega) (F0 (fun h=>absurd h (by omega)) fun _=>?_));rw[V7 (by omega)];exact H _ fun h=>b37 (hA h).1 (by rw[<-e3];exact hg) ⟨(hA h).2.1,b96 (hA h).2.2 hi⟩
theorem f1q:∀i:Nat,∀b,(b=true->∀j g,j<i->p.Progs[j]? =some g->e53 p g)->Ex (fun r=>r=true->∀g∈p.Progs,e53 p g) (Y0 (i:Int) b p):=by
 have b1:=D8 hp.np;have b2:=D8 hp.ne;refine upn p.Progs.length (fun i hi ih b hA=>?_) (fun i hi b hA=>?_)
 ·obtain⟨g,hg,gm⟩:=f6t hi;have go:=f97 p hp i hi g hg (hp.progs g gm) ih 0;exact B5 (a6k _ _ _) (F0 (fun _=>C5 (B4 _ (fun hb=>a3p g hg (by omega) (E3 (g37 g (hp.progs g gm)) fun y hy=>go _ fun h=>⟨hA hb,hy h,fun j o hj=>by omega⟩)) fun hb=>go _ fun h=>by cases h)) fun h=>absurd (show(i:Int)<p.Progs.length by omega) h)
 ·exact B5 (a6k _ _ _) (F0 (fun h=>absurd h (by omega)) fun _=>D9 fun h=>b96 (hA h) hi)
theorem e7e(k:Nat)(hk:k<p.Enums.length)(g:V6)(hg:p.Enums[((k:Int)).toNat]? =some g)(og:c1a g)(H:∀b,Ex (fun r=>r=true->∀g∈p.Progs,e53 p g) (Y6 ((k+1:Nat):Int) b p)):∀i:Nat,∀b,Ex (fun r=>r=true->∀g∈p.Progs,e53 p g) (P6 (i:Int) b (k:Int) p):=by
 have b1:=D8 hp.np;have b2:=D8 hp.ne;have b3:=D8 og.ni;refine upn (g.Items.length) (fun i hi ih b=>?_) (fun i hi b=>?_)
 ·refine B5 (a6r _ _ _ _) ?_
  try rw[V7 (by omega)]
  repeat' first|exact D9 trivial|exact ih|assumption|exact ih _|exact H _|refine a3p g hg (by omega) ?_|rw[V7 (by omega)]|refine C5 ?_|refine F0 (fun h=>?_) (fun h=>?_)|refine O4 (fun h=>?_) (fun h=>?_)|refine B4 _ (fun h=>?_) (fun h=>?_)|refine E5 (by first|omega|(simp only[beq_iff_eq]at*;omega)) (fun y hy hm=>?_)|refine E0 (by first|omega|(simp only[beq_iff_eq]at*;omega)) ?_|refine E3 (g42 _ (og.items _ ‹_›).nn (og.items _ ‹_›).notes _) (fun y hq=>?_)
 ·refine B5 (a6r _ _ _ _) ?_
  repeat' first|exact D9 trivial|exact ih|assumption|exact ih _|exact H _|refine a3p g hg (by omega) ?_|rw[V7 (by omega)]|exact absurd ‹_› (by omega)|(exfalso;omega)|refine C5 ?_|refine F0 (fun h=>?_) (fun h=>?_)|refine O4 (fun h=>?_) (fun h=>?_)|refine B4 _ (fun h=>?_) (fun h=>?_)|refine E5 (by first|omega|(simp only[beq_iff_eq]at*;omega)) (fun y hy hm=>?_)|refine E0 (by first|omega|(simp only[beq_iff_eq]at*;omega)) ?_|refine E3 (g42 _ (og.items _ ‹_›).nn (og.items _ ‹_›).notes _) (fun y hq=>?_)
theorem g2b:∀i:Nat,∀b,Ex (fun r=>r=true->∀g∈p.Progs,e53 p g) (Y6 (i:Int) b p):=by
 have b1:=D8 hp.np;have b2:=D8 hp.ne;refine upn (p.Enums.length) (fun i hi ih b=>?_) (fun i hi b=>?_)
 ·obtain⟨g,hg,gm⟩:=f6t hi;refine B5 (a6t _ _ _) ?_
  try rw[V7 (by omega)]
  repeat' first|exact D9 trivial|exact ih|assumption|exact ih _|exact e7e p hp i hi g hg (hp.enums g gm) ih 0 _|exact f1q p hp 0 _ (fun _ j g h=>by omega)|refine a3p g hg (by omega) ?_|refine C5 ?_|refine F0 (fun h=>?_) (fun h=>?_)|refine O4 (fun h=>?_) (fun h=>?_)|refine B4 _ (fun h=>?_) (fun h=>?_)|refine E5 (by omega) (fun y hy hm=>?_)|refine E0 (by omega) ?_
 ·refine B5 (a6t _ _ _) ?_
  repeat' first|exact D9 trivial|exact ih|assumption|exact ih _|exact e7e p hp i hi g hg (hp.enums g gm) ih 0 _|exact f1q p hp 0 _ (fun _ j g h=>by omega)|refine a3p g hg (by omega) ?_|exact absurd ‹_› (by omega)|(exfalso;omega)|refine C5 ?_|refine F0 (fun h=>?_) (fun h=>?_)|refine O4 (fun h=>?_) (fun h=>?_)|refine B4 _ (fun h=>?_) (fun h=>?_)|refine E5 (by omega) (fun y hy hm=>?_)|refine E0 (by omega) ?_
theorem g4m:Ex (fun r=>r=true->∀g∈p.Progs,e53 p g) (b3v p):=B5 (c0v _) (g2b p hp 0 _)
variable (hF:∀g∈p.Progs,e53 p g)
 include hF
theorem f9s(k:Nat)(hk:k<p.Progs.length)(g:B7)(hg:p.Progs[((k:Int)).toNat]? =some g)(gm:g∈p.Progs)(m:Int)(c:Bool)(H:∀b (l:List Bool),l.length=p.Progs.length->Ex yes (a1r ((k+1:Nat):Int) b m p l)):
  ∀i:Nat,∀b (l:List Bool),l.length=p.Progs.length->Ex yes (Z7 (i:Int) b (k:Int) c m p l):=by
 have b1:=D8 hp.np;have b2:=D8 hp.ne;have b3:=D8 (hp.progs g gm).n;refine upn g.Ops.length (fun i hi ih b l hl=>?_) (fun i hi b l hl=>?_)
 ·refine B5 (a92 _ _ _ _ _ _ _) (a3p g hg (by omega) (F0 (fun _=>a3p g hg (by omega) (E5 (by omega) fun y hy hm=>?_)) fun h=>absurd (show(i:Int)<g.Ops.length by omega) h));rw[V7 (by omega)];refine B4 _ (fun hb=>B4 _ (fun h=>ih _ l hl) fun h=>?_) fun hb=>ih _ l hl
  have h10:y.Kind=10:=by simp only[Bool.or_eq_false_iff,bne_eq_false_iff_eq]at h;exact h.2
  have ht:=((hF g gm).2 y hm).msg h10;refine E0 (by omega) (c3i (List.getElem?_eq_getElem (show y.Target.toNat<l.length by omega)) (ih _ l hl))
 ·refine B5 (a92 _ _ _ _ _ _ _) (a3p g hg (by omega) (F0 (fun h=>absurd h (by omega)) fun _=>E0 (by omega) (E0 (by omega) ?_)));rw[V7 (by omega)];exact H _ _ (by simpa using hl)
theorem g1a(m:Nat)(hm:m<p.Progs.length)(H:∀b (l:List Bool),l.length=p.Progs.length->Ex yes (a21 ((m+1:Nat):Int) p b l)):
  ∀i:Nat,∀b (l:List Bool),l.length=p.Progs.length->Ex yes (a1r (i:Int) b (m:Int) p l):=by
 have b1:=D8 hp.np;refine upn p.Progs.length (fun i hi ih b l hl=>?_) (fun i hi b l hl=>?_)
 ·obtain⟨g,hg,gm⟩:=f6t hi;exact B5 (a9v _ _ _ _ _) (F0 (fun _=>f9s p hp hF i hi g hg gm m b ih 0 true l hl) fun h=>absurd (show(i:Int)<p.Progs.length by omega) h)
 ·refine B5 (a9v _ _ _ _ _) (F0 (fun h=>absurd h (by omega)) fun _=>?_);rw[V7 (by omega)];exact H _ l hl
theorem g7d:∀i:Nat,∀b (l:List Bool),l.length=p.Progs.length->Ex yes (a21 (i:Int) p b l):=by
 refine upn p.Progs.length (fun i hi ih b l hl=>?_) (fun i hi b l hl=>?_)
 ·exact B5 (b1j _ _ _ _) (F0 (fun _=>g1a p hp hF i hi ih 0 true l hl) fun h=>absurd (show(i:Int)<p.Progs.length by omega) h)
 ·exact B5 (b1j _ _ _ _) (F0 (fun h=>absurd h (by omega)) fun _=>D9 trivial)
theorem f4p:Ex yes (b9l p):=by
 have b1:=D8 hp.np;exact B5 (c5d _) (E0 (by omega) (g7d p hp hF 0 _ _ (by simp)))
end
structure g2p(p:A6):Prop where
 asc:∀g∈p.Progs,Asc g.Ops g.Ops.length
 num:∀g∈p.Progs,∀o∈g.Ops,f24 o
 pro:∀g∈p.Progs,e53 p g
theorem f9b(p:A6)(hp:b8f p):Ex (fun r=>r=0->g2p p) (c2s p):=by
 have no:∀{n:Int},n≠0->Ex (α:=Int) (fun r=>r=0->g2p p) (fun r=>r=n):=fun hn=>D9 fun h=>absurd h hn
 refine B5 (c8n _) (E3 (f4n p hp) fun y1 _=>B4 _ (fun _=>no (by decide)) fun _=>?_);refine E3 (g1n p hp) fun y1 _=>B4 _ (fun _=>no (by decide)) fun _=>?_
 refine E3 (f14 p hp) fun y3 h3=>B4 _ (fun _=>no (by decide)) fun k3=>?_
 refine E3 (f5i p hp) fun y1 _=>B4 _ (fun _=>no (by decide)) fun _=>?_
 refine E3 (f5p p hp) fun y5 h5=>B4 _ (fun _=>no (by decide)) fun k5=>?_
 refine E3 (g4m p hp) fun y6 h6=>B4 _ (fun _=>no (by decide)) fun k6=>?_
 have hF:=h6 (by simpa using k6);exact E3 (f4p p hp hF) fun y1 _=>B4 _ (fun _=>no (by decide)) fun _=>D9 fun _=>⟨h3 (by simpa using k3),h5 (by simpa using k5),hF⟩
def Z3(v:A0):Bool:=
 ((v.Kind !=11)&& !v.List_.isEmpty)||(((v.Kind !=12)&& !v.Pairs.isEmpty)||(((v.Kind !=10)&& !(v.Slots.isEmpty&&v.Raws.isEmpty))||
  (((v.Bits !=0)&&(((v.Kind==7)||(v.Kind==8))||((v.Kind==10)||((v.Kind==11)||(v.Kind==12)))))||(!(decide (v.Text=(⟨#[]⟩:ByteArray)))&& !((v.Kind==7)||(v.Kind==8))))))
theorem c5l{α:Type}(l:List α):decide (0<(l.length:Int))= !l.isEmpty:=by
 cases l with
 |nil=>rfl
 |cons x l=>simp
theorem e29{α β:Type}(l:List α)(m:List β)(h:l.length<=140737488351232)(h2:m.length<=140737488351232):decide (0<wI ((l.length:Int)+(m.length:Int)))= !(l.isEmpty&&m.isEmpty):=by
 rw[wI,C7 (by omega)];cases l with
 |nil=>cases m with
  |nil=>rfl
  |cons x m=>simp
 |cons x l=>simp;omega
theorem h7d(k:Int):((decide (10<=k))&&(decide (k<=12)))=((k==10)||((k==11)||(k==12))):=by
 rw[Bool.eq_iff_iff];simp;omega
theorem c9a(v:A0)(hv:OkV v):b2m v (Z3 v):=by
 refine d1o _ _ ?_;rw[c5l,c5l,e29 _ _ hv.s hv.r,h7d];unfold Z3;generalize ((v.Kind !=11)&& !v.List_.isEmpty)=b1;generalize ((v.Kind !=12)&& !v.Pairs.isEmpty)=b2;generalize ((v.Kind !=10)&& !(v.Slots.isEmpty&&v.Raws.isEmpty))=b3;generalize ((v.Kind==7)||(v.Kind==8))=b4;generalize ((v.Kind==10)||((v.Kind==11)||(v.Kind==12)))=b5;generalize (v.Bits !=0)=b6;generalize (decide (v.Text=(⟨#[]⟩:ByteArray)))=b7;revert b1 b2 b3 b4 b5 b6 b7;decide
theorem c4p(v:A0)(hv:OkV v):a8y v (Z3 v):=by
 have key:∀(e10 e11 e12 t n11 n12 n10 b1 b2 b3 b6 b7:Bool),n10= !e10->n11= !e11->n12= !e12->
   ((((b1&&n11)||(b2&&n12))||(b3&& !e10))=true->((n11&&b1)||((n12&&b2)||((n10&&b3)||((b6&&(t||(e10||(e11||e12))))||(!b7&& !t)))))=true)/\
   ((((b1&&n11)||(b2&&n12))||(b3&& !e10))=false->((n11&&b1)||((n12&&b2)||((n10&&b3)||((b6&&(t||(e10||(e11||e12))))||(!b7&& !t)))))=((b6&&(((t||e11)||e12)||e10))||(!b7&& !t))):=by
  intro e10 e11 e12 t n11 n12 n10 b1 b2 b3 b6 b7 h1 h2 h3;subst h1 h2 h3;revert e10 e11 e12 t b1 b2 b3 b6 b7;decide
 have h:=key (v.Kind==10) (v.Kind==11) (v.Kind==12) ((v.Kind==7)||(v.Kind==8)) (v.Kind !=11) (v.Kind !=12) (v.Kind !=10) (!v.List_.isEmpty) (!v.Pairs.isEmpty) (!(v.Slots.isEmpty&&v.Raws.isEmpty)) (v.Bits !=0) (decide (v.Text=(⟨#[]⟩:ByteArray))) rfl rfl rfl;refine c76 _ _ ?_;rw[c5l,c5l,e29 _ _ hv.s hv.r];exact h
def c49(p:A6)(kind enum:Int)(v:A0):Int:=
 if((v.Kind !=kind)||Z3 v)=true then 12 else if 4096<v.Text.size then 3 else if((kind==7)&& !a7e v.Text)=true then 7 else if a2k kind v=false then 12 else if((kind==9)&& !d2n p enum v.Bits)=true then 16 else 0
theorem f7i(p:A6)(hp:OkE p)(kind enum:Int)(v:A0)(hv:OkV v):a3y ⟨p⟩ kind enum v (c49 p kind enum v):=by
 refine b8k _ _ _ _ _ ⟨fun b=>b=((v.Kind !=kind)||Z3 v),fun b hb=>⟨fun h=>?_,fun h=>⟨fun h2=>?_,fun h2=>⟨fun b2=>b2=((kind==7)&& !a7e v.Text),fun b2 hb2=>⟨fun h3=>?_,fun h3=>⟨_,d9w kind v hv,fun h4=>?_,fun h4=>⟨fun h5=>⟨_,c5q p hp enum v.Bits hv.b0,fun h6=>?_,fun h6=>?_⟩,fun h5=>?_⟩⟩⟩,fun h3=>⟨_,d6g _ hv.t,by rw[h3,Bool.true_and]⟩,fun h3=>by rw[h3,Bool.false_and]⟩⟩⟩,fun h=>by rw[h,Bool.true_or],fun h=>⟨_,c9a v hv,by rw[h,Bool.false_or]⟩⟩
 ·subst hb;rw[c49,if_pos h]
 ·subst hb;rw[c49,if_neg (nt h),if_pos (by simp at h2;omega)]
 all_goals (subst hb;have h2':¬4096<v.Text.size:=by simp at h2;omega)
 ·subst hb2;rw[c49,if_neg (nt h),if_neg h2',if_pos h3]
 all_goals subst hb2
 ·rw[c49,if_neg (nt h),if_neg h2',if_neg (nt h3),if_pos (by simpa using h4)]
 ·rw[c49,if_neg (nt h),if_neg h2',if_neg (nt h3),if_neg (by simpa using h4),if_pos (by rw[h5,Bool.true_and];exact h6)]
 ·rw[c49,if_neg (nt h),if_neg h2',if_neg (nt h3),if_neg (by simpa using h4),if_neg (by rw[h5,Bool.true_and];exact nt h6)]
 ·rw[c49,if_neg (nt h),if_neg h2',if_neg (nt h3),if_neg (by simpa using h4),if_neg (by rw[h5,Bool.false_and];simp)]
theorem e6t(p:A6)(hp:OkE p)(kind enum:Int)(v:A0)(hv:OkV v):b4v p kind enum v (c49 p kind enum v):=by
 refine c6t _ _ _ _ _ ⟨fun b=>b=((v.Kind !=kind)||Z3 v),fun b hb=>⟨fun h=>?_,fun h=>⟨fun h2=>?_,fun h2=>⟨fun b2=>b2=((kind==7)&& !a7e v.Text),fun b2 hb2=>⟨fun h3=>?_,fun h3=>⟨_,e3h kind v hv,fun h4=>?_,fun h4=>⟨fun h5=>⟨_,d2i p hp enum v.Bits hv.b0,fun h6=>?_,fun h6=>?_⟩,fun h5=>?_⟩⟩⟩,fun h3=>⟨_,d0n _ hv.t,by rw[h3,Bool.true_and]⟩,fun h3=>by rw[h3,Bool.false_and]⟩⟩⟩,fun h=>by rw[h,Bool.true_or],fun h=>⟨_,c4p v hv,by rw[h,Bool.false_or]⟩⟩
 ·subst hb;rw[c49,if_pos h]
 ·subst hb;rw[c49,if_neg (nt h),if_pos (by simp at h2;omega)]
 all_goals (subst hb;have h2':¬4096<v.Text.size:=by simp at h2;omega)
 ·subst hb2;rw[c49,if_neg (nt h),if_neg h2',if_pos h3]
 all_goals subst hb2
 ·rw[c49,if_neg (nt h),if_neg h2',if_neg (nt h3),if_pos (by simpa using h4)]
 ·rw[c49,if_neg (nt h),if_neg h2',if_neg (nt h3),if_neg (by simpa using h4),if_pos (by rw[h5,Bool.true_and];exact h6)]
 ·rw[c49,if_neg (nt h),if_neg h2',if_neg (nt h3),if_neg (by simpa using h4),if_neg (by rw[h5,Bool.true_and];exact nt h6)]
 ·rw[c49,if_neg (nt h),if_neg h2',if_neg (nt h3),if_neg (by simpa using h4),if_neg (by rw[h5,Bool.false_and];simp)]
def b1x(f:Nat->Int)(i n:Nat):Int:=if i<n then(if f i≠0 then f i else b1x f (i+1) n) else 0
 termination_by n - i
theorem a9q{J:Nat->Prop}{E:Prop}{r:Int}(f:Nat->Int)(n:Nat)(b9u:∀i,i<n->(f i≠0->r=f i)->(f i=0->J (i+1))->J i)(fin:E->J n):∀i,i<=n->(b1x f i n≠0->r=b1x f i n)->(b1x f i n=0->E)->J i:=by
 have key:∀d i,n - i<=d->i<=n->(b1x f i n≠0->r=b1x f i n)->(b1x f i n=0->E)->J i:=by
  intro d
  induction d with
  |zero=>
   intro i hd hi h1 h2;have e:i=n:=by omega
   subst e;exact fin (h2 (by rw[b1x,if_neg (by omega)]))
  |succ d ih=>
   intro i hd hi h1 h2;rcases Nat.lt_or_ge i n with hlt|hge
   ·rw[b1x,if_pos hlt]at h1 h2;refine b9u i hlt (fun h=>?_) (fun h=>?_)
    ·rw[if_pos h]at h1;exact h1 h
    ·rw[if_neg (by omega)]at h1 h2;exact ih (i+1) (by omega) (by omega) h1 h2
   ·have e:i=n:=by omega
    subst e;exact fin (h2 (by rw[b1x,if_neg (by omega)]))
 intro i;exact key _ i (Nat.le_refl _)
theorem f1f(f:Nat->Int)(i n:Nat):b1x f i n=if i<n then(if f i≠0 then f i else b1x f (i+1) n) else 0:=by rw[b1x]
theorem c4w{f:Nat->Int}{n:Nat}:∀i,b1x f i n=0->∀k,i<=k->k<n->f k=0:=by
 have key:∀d i,n - i<=d->b1x f i n=0->∀k,i<=k->k<n->f k=0:=by
  intro d
  induction d with
  |zero=>intro i hd _ k h1 h2;omega
  |succ d ih=>
   intro i hd h k h1 h2;rw[b1x,if_pos (show i<n by omega)]at h
   by_cases e:f i=0
   ·rw[if_neg (by omega)]at h;rcases Nat.lt_or_ge i k with h3|h3
    ·exact ih (i+1) (by omega) h k h3 h2
    ·have:k=i:=by omega
     rw[this];exact e
   ·rw[if_pos e]at h;exact absurd h e
 exact fun i=>key _ i (Nat.le_refl _)
theorem d6e{α:Type}(f:α->Bool):∀(l:List α) (i:Int),0<=i->decide (0<=c46 f l i)=l.any f
 |[],i,_=>by simp[c46]
 |x::l,i,hi=>by
  have ih:=d6e f l (i+1) (by omega);rw[List.any_cons,<-ih]
  by_cases h:f x=true
  ·have e:c46 f (x::l) i=i:=by simp only[c46];rw[if_pos h]
   simp only[e,h,Bool.true_or];simpa using hi
  ·have e:c46 f (x::l) i=c46 f l (i+1):=by simp only[c46];rw[if_neg h]
   simp at h;simp only[e,h,Bool.false_or]
abbrev e09:=Int->A0->Int->Int
def orE(a b:Int):Int:=if a≠0 then a else b
noncomputable def b3u(M:e09)(p:A6)(o:GOp)(v:A0)(lev:Int):Int:=if o.Kind=10 then M o.Target v (lev+1) else c49 p o.Kind o.Target v
noncomputable def d9o(x:A0 × A0)(l:List (A0 × A0)):Bool:=l.any fun q=>W8 (SizeOf.sizeOf q.1) q.1 x.1==0
noncomputable def b52(M:e09)(p:A6)(o:GOp)(l:List (A0 × A0))(lev:Int)(i:Nat):Int:=
 match l[i]? with
 |none=>0
 |some x=>orE (c49 p o.Key (-1) x.1) (if d9o x (l.take i)=true then 9 else b3u M p o x.2 lev)
noncomputable def d6h(M:e09)(p:A6)(o:GOp)(l:List A0)(lev:Int)(i:Nat):Int:=
 match l[i]? with
 |none=>0
 |some x=>b3u M p o x lev
noncomputable def a1s(M:e09)(p:A6)(o:GOp)(v:A0)(lev:Int):Int:=
 if o.Card=4 then(if((v.Kind !=11)||Z3 v)=true then 12 else b1x (d6h M p o v.List_ lev) 0 v.List_.length)
 else if o.Card=5 then(if((v.Kind !=12)||Z3 v)=true then 12 else b1x (b52 M p o v.Pairs lev) 0 v.Pairs.length)
 else b3u M p o v lev
noncomputable def c1n(M:e09)(p:A6)(g:B7)(l:List (Int × A0))(lev:Int)(i:Nat):Int:=
 match l[i]? with
 |none=>0
 |some x=>if(opV g x.1).2=false then 8 else if((l.take i).any fun y=>y.1==x.1)=true then 9
  else if((l.take i).any fun y=>((opV g x.1).1.Union !=(-1))&&((opV g y.1).1.Union==(opV g x.1).1.Union))=true then 15 else a1s M p (opV g x.1).1 x.2 lev
def c0w(g:B7)(v:A0)(i:Nat):Int:=
 match g.Ops[i]? with
 |none=>0
 |some o=>if o.Card=1/\(v.Slots.any fun y=>y.1==o.Num)=false then 14 else 0
def e0t(p:A6)(o:GOp)(f:H1):Bool:=((((o.Kind==9)&&(o.Card !=5))&&(f.Wire==0))&&(decide (f.Bits<=2147483647)))&& !d2n p o.Target f.Bits
def d3m(p:A6)(g:B7)(f:H1):Int:=
 if(((decide (f.Num<1))||(decide (65535<f.Num)))||(decide (f.Wire<0))||(decide (6<f.Wire)))=true then 1
 else if(((decide (f.Wire<=2))&& !(decide (f.Data=(⟨#[]⟩:ByteArray))))||((!(decide (f.Wire<=2)))&&(f.Bits !=0))||((opV g f.Num).2&& !e0t p (opV g f.Num).1 f))=true then 1
 else if(((f.Wire==3)&&decide (4096<(f.Data.size:Int)))||decide (65536<(f.Data.size:Int)))=true then 3 else 0
def e4f(p:A6)(g:B7)(l:List H1)(i:Nat):Int:=
 match l[i]? with
 |none=>0
 |some f=>d3m p g f
noncomputable def e2s(M:e09)(p:A6)(g:B7)(v:A0)(lev:Int):Int:=
 if((v.Kind !=10)||Z3 v)=true then 12 else if 16<lev then 17
 else orE (b1x (c1n M p g v.Slots lev) 0 v.Slots.length) (orE (b1x (c0w g v) 0 g.Ops.length) (b1x (e4f p g v.Raws) 0 v.Raws.length))
noncomputable def a9c(p:A6):Nat->e09
 |0,_,_,_=>0
 |n+1,t,v,lev=>match p.Progs[t.toNat]? with
  |none=>0
  |some g=>e2s (a9c p n) p g v lev
theorem e00{num:Int}:∀{l:List GOp},(opL num l).2=true->(opL num l).1.Num=num/\(opL num l).1∈l
 |[],h=>by simp[opL]at h
 |o::l,h=>by
  by_cases e:(o.Num==num)=true
  ·have q:opL num (o::l)=(o,true):=by simp only[opL];rw[if_pos e]
   rw[q];exact⟨by simpa using e,by simp⟩
  ·have q:opL num (o::l)=opL num l:=by simp only[opL];rw[if_neg e]
   rw[q]at h ⊢;exact⟨(e00 h).1,List.mem_cons_of_mem _ (e00 h).2⟩
theorem b9n{g:B7}{num:Int}(h:(opV g num).2=true):(opV g num).1.Num=num/\(opV g num).1∈g.Ops:=e00 h
theorem d7k(s:List (Int × A0))(hs:s.length<=140737488351232)(F:GFn)(f:Int × A0->Bool)(hC:∀x∈s,a6z Tryz.prog [] (.clo (.func F.fn) F.fi F.cap) [.agg (W9 x)] (.v (.bool (f x)))):N4 s F (s.any f):=
 a59 _ _ _ ⟨_,a8b _ _ _ (d9x (J:=fun i s r=>O1 i s F r) f (fun i s r hw=>a50 _ _ _ _ hw) s hs hC),(d6e f s 0 (Int.le_refl _)).symm⟩
theorem e8n(s:List (A0 × A0))(hs:s.length<=140737488351232)(F:GFn)(f:A0 × A0->Bool)(hC:∀x∈s,a6z Tryz.prog [] (.clo (.func F.fn) F.fi F.cap) [.agg (V3 x)] (.v (.bool (f x)))):V9 s F (s.any f):=
 a5n _ _ _ ⟨_,a77 _ _ _ (d9x (J:=fun i s r=>N6 i s F r) f (fun i s r hw=>a6d _ _ _ _ hw) s hs hC),(d6e f s 0 (Int.le_refl _)).symm⟩
theorem f08(a b:A0)(ha:OkD a)(hb:OkD b):b3o a b (W8 (SizeOf.sizeOf a) a b==0):=b8e _ _ _ ⟨_,c7r _ a b ha hb (Nat.le_refl _),rfl⟩
theorem d6y(a b:A0)(ha:OkD a)(hb:OkD b):b7r a b (W8 (SizeOf.sizeOf a) a b==0):=c75 _ _ _ ⟨_,c1e _ a b ha hb (Nat.le_refl _),rfl⟩
theorem OkD.raws{v:A0}(h:OkD v):∀x∈v.Raws,e5i x:=by
 cases h with
 |mk _ _ _ _ _ _ _ _ _ _ _ _ _ hr _=>exact hr
structure OkX(p:A6):Prop where
 e:OkE p
 pl:b8f p
 va:g2p p
theorem c9n{α:Type}(l:List α)(i:Nat)(f:α->Bool):(((l.take ((i:Int)).toNat).drop (0:Int).toNat))=l.take i:=by simp
theorem OkX.ops{p:A6}(h:OkX p){g:B7}(hg:g∈p.Progs):g.Ops.length<=140737488351232:=(h.pl.progs g hg).n
section
variable {p:A6}(hp:OkX p)
 include hp
theorem f9e(g:B7)(hg:g∈p.Progs)(f:H1)(hf:e5i f):a88 ⟨p⟩ g f (d3m p g f):=by
 have ho:=e6j g (hp.ops hg) f.Num;refine b8h _ _ _ _ ⟨_,ho,fun b=>b=e0t p (opV g f.Num).1 f,fun b hb=>⟨fun h=>?_,fun h=>⟨fun h2=>?_,fun h2=>⟨fun h3=>?_,fun h3=>?_⟩⟩⟩,fun h=>⟨_,c5q p hp.e _ _ hf.bits.1,?_⟩,fun h=>?_⟩
 ·subst hb;rw[d3m,if_pos h]
 ·subst hb;rw[d3m,if_neg (nt h),if_pos h2]
 ·subst hb;rw[d3m,if_neg (nt h),if_neg (nt h2),if_pos h3]
 ·subst hb;rw[d3m,if_neg (nt h),if_neg (nt h2),if_neg (nt h3)]
 ·rw[e0t,h,Bool.true_and]
 ·rw[e0t,h,Bool.false_and]
section
variable {M:e09}{B:A0->Prop}(hM:∀(t:Int) (g:B7) (v:A0) (lev:Int),p.Progs[t.toNat]? =some g->B v->1<=lev->lev<=17->Q4 ⟨p⟩ g v lev (M t v lev))
 include hM
theorem e03(o:GOp)(ho:OpF p o)(v:A0)(hv:OkD v)(hb:B v)(lev:Int)(h1:1<=lev)(h2:lev<=16):a0h ⟨p⟩ o v lev (b3u M p o v lev):=by
 refine b6s _ _ _ _ _ ⟨fun h=>?_,fun h=>⟨_,f7i p hp.e _ _ v hv.okv,?_⟩⟩
 ·have hk:o.Kind=10:=by simpa using h
  obtain⟨t0,t1,_⟩:=ho.msg hk;have hlt:o.Target.toNat<p.Progs.length:=by omega
  refine⟨p.Progs[o.Target.toNat],List.getElem?_eq_getElem hlt,t0,_,hM o.Target _ v _ (List.getElem?_eq_getElem hlt) hb (by rw[wI,C7 (by omega)];omega) (by rw[wI,C7 (by omega)];omega),?_⟩;rw[b3u,if_pos hk,wI,C7 (by omega)]
 ·rw[b3u,if_neg (by simpa using h)]
theorem e5m(o:GOp)(ho:OpF p o)(l:List (A0 × A0))(hl:l.length<=140737488351232)(hv:∀x∈l,OkD x.1/\OkD x.2)(hb:∀x∈l,B x.2)(lev:Int)(h1:1<=lev)(h2:lev<=16):a27 ⟨p⟩ o l lev (b1x (b52 M p o l lev) 0 l.length):=by
 refine b4k _ _ _ _ _ ?_;refine a9q (J:=fun i:Nat=>W6 i l lev ⟨p⟩ o _) (E:=b1x (b52 M p o l lev) 0 l.length=0) _ l.length (fun i hi k1 k2=>?_) (fun e=>?_) 0 (by omega) (fun _=>rfl) (fun h=>h)
 ·have e1:wI ((i:Int)+1)=((i+1:Nat):Int):=by rw[wI,C7 (by omega)];omega
  have hx:=List.getElem_mem hi
  have ef:b52 M p o l lev i=orE (c49 p o.Key (-1) l[i].1) (if d9o l[i] (l.take i)=true then 9 else b3u M p o l[i].2 lev):=by
   simp only[b52,List.getElem?_eq_getElem hi]
  rw[ef]at k1 k2;refine a12 _ _ _ _ _ _ ⟨fun _=>⟨l[i],by simp,by omega,_,f7i p hp.e _ _ _ (hv _ hx).1.okv,fun h=>?_,fun h=>⟨⟨by omega,by omega,by omega⟩,d9o l[i] (l.take i),?_,fun h3=>?_,fun h3=>⟨_,e03 hp hM o ho _ (hv _ hx).2 (hb _ hx) lev h1 h2,fun h4=>?_,fun h4=>?_⟩⟩⟩,fun h=>by simp at h;omega⟩
  ·have h':c49 p o.Key (-1) l[i].1≠0:=by simpa using h
   rw[orE,if_pos h']at k1;exact k1 h'
  ·rw[c9n l i (fun _=>true)];refine e8n _ (by simp;omega) _ _ fun x hx2=>b26 x l[i] _ (b17 _ _ _ ⟨_,f08 _ _ (hv _ (List.mem_of_mem_take hx2)).1 (hv _ hx).1,rfl⟩)
  all_goals (have h':¬c49 p o.Key (-1) l[i].1≠0:=by simpa using h)
  all_goals rw[orE,if_neg h']at k1 k2
  ·rw[if_pos h3]at k1;exact k1 (by decide)
  all_goals rw[if_neg (nt h3)]at k1 k2
  ·exact k1 (by simpa using h4)
  ·rw[e1];exact k2 (by simpa using h4)
 ·exact a12 _ _ _ _ _ _ ⟨fun h=>by simp at h,fun _=>e⟩
theorem f5n(o:GOp)(ho:OpF p o)(v:A0)(hv:OkD v)(hb:B v)(hbl:∀x∈v.List_,B x)(hbp:∀x∈v.Pairs,B x.2)(lev:Int)(h1:1<=lev)(h2:lev<=16):a5z ⟨p⟩ o v lev (a1s M p o v lev):=by
 obtain⟨_,_,⟨la,pa,sa,ra⟩,hl,hps,hs⟩:=hv.inv;refine b6f _ _ _ _ _ ⟨fun h=>⟨fun b=>b=((v.Kind !=11)||Z3 v),fun b hb2=>⟨fun h3=>?_,fun h3=>?_⟩,fun h3=>by rw[h3,Bool.true_or],fun h3=>⟨_,c9a v hv.okv,by rw[h3,Bool.false_or]⟩⟩,fun h=>⟨fun h4=>⟨fun b=>b=((v.Kind !=12)||Z3 v),fun b hb2=>⟨fun h3=>?_,fun h3=>⟨_,e5m hp hM o ho _ pa hps hbp lev h1 h2,?_⟩⟩,fun h3=>by rw[h3,Bool.true_or],fun h3=>⟨_,c9a v hv.okv,by rw[h3,Bool.false_or]⟩⟩,fun h4=>⟨_,e03 hp hM o ho v hv hb lev h1 h2,?_⟩⟩⟩
 ·subst hb2;rw[a1s,if_pos (by simpa using h),if_pos h3]
 ·subst hb2;rw[a1s,if_pos (by simpa using h),if_neg (nt h3)];refine a9q (J:=fun i:Nat=>Z0 i v lev ⟨p⟩ o _) (E:=b1x (d6h M p o v.List_ lev) 0 v.List_.length=0) _ v.List_.length (fun i hi k1 k2=>?_) (fun e=>?_) 0 (by omega) (fun _=>rfl) (fun h=>h)
  ·have e1:wI ((i:Int)+1)=((i+1:Nat):Int):=by have:=D8 la;rw[wI,C7 (by omega)];omega
   have hx:=List.getElem_mem hi;have ef:d6h M p o v.List_ lev i=b3u M p o v.List_[i] lev:=by simp only[d6h,List.getElem?_eq_getElem hi]
   rw[ef]at k1 k2;refine a2q _ _ _ _ _ _ ⟨fun _=>⟨v.List_[i],by simp,by omega,_,e03 hp hM o ho _ (hl _ hx) (hbl _ hx) lev h1 h2,fun h4=>k1 (by simpa using h4),fun h4=>?_⟩,fun h=>by simp at h;omega⟩;rw[e1];exact k2 (by simpa using h4)
  ·exact a2q _ _ _ _ _ _ ⟨fun h=>by simp at h,fun _=>e⟩
 all_goals (have hn:¬o.Card=4:=by simpa using h)
 ·subst hb2;rw[a1s,if_neg hn,if_pos (by simpa using h4),if_pos h3]
 ·subst hb2;rw[a1s,if_neg hn,if_pos (by simpa using h4),if_neg (nt h3)]
 ·rw[a1s,if_neg hn,if_neg (by simpa using h4)]
theorem g2c(g:B7)(hg:g∈p.Progs)(l:List (Int × A0))(hl:l.length<=140737488351232)(i:Nat)(hi:i<l.length)(hv:∀x∈l,OkD x.2)(hb:∀x∈l,B x.2/\(∀y∈x.2.List_,B y)/\∀y∈x.2.Pairs,B y.2)(lev:Int)(h1:1<=lev)(h2:lev<=16):a66 ⟨p⟩ g l i lev (c1n M p g l lev i):=by
 have hx:=List.getElem_mem hi;have ho:=e6j g (hp.ops hg) l[i].1
 have ef:c1n M p g l lev i=if(opV g l[i].1).2=false then 8 else if((l.take i).any fun y=>y.1==l[i].1)=true then 9
  else if((l.take i).any fun y=>((opV g l[i].1).1.Union !=(-1))&&((opV g y.1).1.Union==(opV g l[i].1).1.Union))=true then 15 else a1s M p (opV g l[i].1).1 l[i].2 lev:=by
  simp only[c1n,List.getElem?_eq_getElem hi]
 rw[ef];refine b63 _ _ _ _ _ _ ⟨l[i],by simp,by omega,_,ho,fun h=>?_,fun h=>⟨⟨by omega,by omega,by omega⟩,(l.take i).any (fun y=>y.1==l[i].1),?_,fun h3=>?_,fun h3=>⟨⟨by omega,by omega,by omega⟩,?_⟩⟩⟩
 ·rw[if_pos (by simpa using h)]
 all_goals (have hn:(opV g l[i].1).2=true:=by simpa using h)
 all_goals obtain⟨hnum,hop⟩:=b9n hn
 ·rw[c9n l i (fun _=>true)];refine d7k _ (by simp;omega) _ _ fun x hx2=>b6n x (opV g l[i].1).1 _ (b5j _ _ _ ?_)
  rw[hnum]
 all_goals rw[if_neg (by simp[hn])]
 ·rw[if_pos h3]
 rw[if_neg (nt h3)]
 have go:∀d k:Nat,i - k<=d->k<=i->((((l.take i).drop k).any fun y=>((opV g l[i].1).1.Union !=(-1))&&((opV g y.1).1.Union==(opV g l[i].1).1.Union))=((l.take i).any fun y=>((opV g l[i].1).1.Union !=(-1))&&((opV g y.1).1.Union==(opV g l[i].1).1.Union)))->W0 k l i (opV g l[i].1) lev ⟨p⟩ g (if((l.take i).any fun y=>((opV g l[i].1).1.Union !=(-1))&&((opV g y.1).1.Union==(opV g l[i].1).1.Union))=true then 15 else a1s M p (opV g l[i].1).1 l[i].2 lev):=by
  have len:(l.take i).length=i:=by simp;omega
  have fin:((((l.take i).drop i).any fun y=>((opV g l[i].1).1.Union !=(-1))&&((opV g y.1).1.Union==(opV g l[i].1).1.Union))=((l.take i).any fun y=>((opV g l[i].1).1.Union !=(-1))&&((opV g y.1).1.Union==(opV g l[i].1).1.Union)))->W0 i l i (opV g l[i].1) lev ⟨p⟩ g (if((l.take i).any fun y=>((opV g l[i].1).1.Union !=(-1))&&((opV g y.1).1.Union==(opV g l[i].1).1.Union))=true then 15 else a1s M p (opV g l[i].1).1 l[i].2 lev):=by
   intro hk;rw[List.drop_eq_nil_of_le (by omega)]at hk;refine a30 _ _ _ _ _ _ _ _ ⟨fun h=>by rw[c9n l i (fun _=>true),len]at h;simp at h,fun _=>⟨l[i],by simp,by omega,_,f5n hp hM _ ((hp.va.pro g hg).2 _ hop) _ (hv _ hx) (hb _ hx).1 (hb _ hx).2.1 (hb _ hx).2.2 lev h1 h2,?_⟩⟩;rw[if_neg (by rw[<-hk];simp)]
  intro d
  induction d with
  |zero=>
   intro k hd hk he;have e:k=i:=by omega
   subst e;exact fin he
  |succ d ih=>
   intro k hd hk he;rcases Nat.lt_or_ge k i with hlt|hge
   ·have e1:wI ((k:Int)+1)=((k+1:Nat):Int):=by rw[wI,C7 (by omega)];omega
    have hk2:k<(l.take i).length:=by omega
    have dl:(l.take i).drop k=(l.take i)[k]::(l.take i).drop (k+1):=List.drop_eq_getElem_cons hk2;rw[dl,List.any_cons]at he;refine a30 _ _ _ _ _ _ _ _ ?_;rw[c9n l i (fun _=>true)];refine⟨fun _=>⟨(l.take i)[k],by rw[Int.toNat_natCast];exact List.getElem?_eq_getElem hk2,by omega,_,e6j g (hp.ops hg) _,fun h4=>?_,fun h4=>?_⟩,fun h=>by rw[len]at h;simp at h;omega⟩
    ·rw[h4,Bool.true_or]at he;rw[<-he,if_pos rfl]
    ·rw[h4,Bool.false_or]at he;rw[e1];exact ih (k+1) (by omega) (by omega) he
   ·have e:k=i:=by omega
    subst e;exact fin he
 exact go i 0 (by omega) (by omega) (by simp)
theorem e4i(g:B7)(hg:g∈p.Progs)(v:A0)(hv:OkD v)(hb:∀x∈v.Slots,B x.2/\(∀y∈x.2.List_,B y)/\∀y∈x.2.Pairs,B y.2)(lev:Int)(h1:1<=lev)(h2:lev<=17):Q4 ⟨p⟩ g v lev (e2s M p g v lev):=by
 have hv0:=hv;obtain⟨_,_,⟨la,pa,sa,ra⟩,hl,hps,hs⟩:=hv.inv;have b1:=D8 sa;have b2:=D8 ra;have b3:=hp.ops hg;refine b4m _ _ _ _ _ ⟨fun b=>b=((v.Kind !=10)||Z3 v),fun b hb2=>⟨fun h3=>?_,fun h3=>⟨fun h4=>?_,fun h4=>?_⟩⟩,fun h3=>by rw[h3,Bool.true_or],fun h3=>⟨_,c9a v hv.okv,by rw[h3,Bool.false_or]⟩⟩
 ·subst hb2;rw[e2s,if_pos h3]
 ·subst hb2;rw[e2s,if_neg (nt h3),if_pos (by simpa using h4)]
 subst hb2;have h5:¬16<lev:=by simpa using h4
 rw[e2s,if_neg (nt h3),if_neg h5];refine a9q (J:=fun i:Nat=>W5 i v lev ⟨p⟩ g _) (E:=b1x (c1n M p g v.Slots lev) 0 v.Slots.length=0) (r:=orE (b1x (c1n M p g v.Slots lev) 0 v.Slots.length) (orE (b1x (c0w g v) 0 g.Ops.length) (b1x (e4f p g v.Raws) 0 v.Raws.length))) (c1n M p g v.Slots lev) v.Slots.length (fun i hi k1 k2=>?_) (fun e=>?_) 0 (by omega) (fun h=>by rw[orE,if_pos h]) (fun h=>h)
 ·have e1:wI ((i:Int)+1)=((i+1:Nat):Int):=by rw[wI,C7 (by omega)];omega
  refine a10 _ _ _ _ _ _ ⟨fun _=>⟨_,g2c hp hM g hg v.Slots sa i hi hs hb lev h1 (by omega),fun h=>k1 (by simpa using h),fun h=>by rw[e1];exact k2 (by simpa using h)⟩,fun h=>by simp at h;omega⟩
 refine a10 _ _ _ _ _ _ ⟨fun h=>by simp at h,fun _=>?_⟩;rw[orE,if_neg (by omega)];refine a9q (J:=fun i:Nat=>O9 i g ⟨p⟩ v _) (E:=b1x (c0w g v) 0 g.Ops.length=0) (r:=orE (b1x (c0w g v) 0 g.Ops.length) (b1x (e4f p g v.Raws) 0 v.Raws.length)) (c0w g v) g.Ops.length (fun i hi k1 k2=>?_) (fun e=>?_) 0 (by omega) (fun h=>by rw[orE,if_pos h]) (fun h=>h)
 ·have e1:wI ((i:Int)+1)=((i+1:Nat):Int):=by rw[wI,C7 (by omega)];omega
  have ef:c0w g v i=if g.Ops[i].Card=1/\(v.Slots.any fun y=>y.1==g.Ops[i].Num)=false then 14 else 0:=by simp only[c0w,List.getElem?_eq_getElem hi]
  rw[ef]at k1 k2;refine a09 _ _ _ _ _ ⟨fun _=>⟨g.Ops[i],by simp,by omega,fun h=>⟨_,d7k _ sa _ (fun y=>y.1==g.Ops[i].Num) (fun x hx=>b21 x g.Ops[i] _ (b12 _ _ _ rfl)),fun h6=>?_,fun h6=>?_⟩,fun h=>?_⟩,fun h=>by simp at h;omega⟩
  ·rw[if_pos ⟨by simpa using h,by simpa using h6⟩]at k1;exact k1 (by decide)
  ·rw[e1];refine k2 ?_;rw[if_neg];rintro⟨_,q⟩;simp[q]at h6
  ·rw[e1];refine k2 ?_;rw[if_neg];rintro⟨q,_⟩;simp[q]at h
 refine a09 _ _ _ _ _ ⟨fun h=>by simp at h,fun _=>?_⟩;rw[orE,if_neg (by omega)];refine a9q (J:=fun i:Nat=>V4 i v ⟨p⟩ g _) (E:=b1x (e4f p g v.Raws) 0 v.Raws.length=0) (e4f p g v.Raws) v.Raws.length (fun i hi k1 k2=>?_) (fun e=>?_) 0 (by omega) (fun _=>rfl) (fun h=>h)
 ·have e1:wI ((i:Int)+1)=((i+1:Nat):Int):=by rw[wI,C7 (by omega)];omega
  have ef:e4f p g v.Raws i=d3m p g v.Raws[i]:=by simp only[e4f,List.getElem?_eq_getElem hi]
  rw[ef]at k1 k2;refine a1b _ _ _ _ _ ⟨fun _=>⟨v.Raws[i],by simp,by omega,_,f9e hp g hg _ (hv0.raws _ (List.getElem_mem hi)),fun h=>k1 (by simpa using h),fun h=>by rw[e1];exact k2 (by simpa using h)⟩,fun h=>by simp at h;omega⟩
 ·exact a1b _ _ _ _ _ ⟨fun h=>by simp at h,fun _=>e⟩
end
end
theorem e9i(p:A6)(t b:Int)(y:V6)(hy:p.Enums[t.toNat]? =some y)(h0:0<=t)(hb:b<=2147483647)(ho:y.Open=true):d2n p t b=true:=by
 have hlt:t.toNat<p.Enums.length:=(List.getElem?_eq_some_iff.1 hy).1;rw[d2n,if_neg (by omega),hy];simp[ho]
section
variable {p:A6}(hp:OkX p)
 include hp
theorem f3e(g:B7)(hg:g∈p.Progs)(f:H1)(hf:e5i f):b4b p g f (decide (d3m p g f≠1)):=by
 have ho:=e2p g (hp.ops hg) f.Num
 have two:(decide (2<f.Wire))= !(decide (f.Wire<=2)):=by
  rw[Bool.eq_iff_iff];simp
 refine c00 _ _ _ _ ?_;rw[two];refine⟨fun h=>?_,fun h=>⟨fun h2=>?_,fun h2=>⟨_,ho,fun h3=>?_,fun h3=>⟨fun b=>b=((opV g f.Num).1.Kind==9&& !((p.Enums[(opV g f.Num).1.Target.toNat]?).any (·.Open))),fun b hb=>⟨fun h4=>⟨_,d2i p hp.e _ _ hf.bits.1,?_⟩,fun h4=>?_⟩,fun h4=>?_,fun h4=>?_⟩⟩⟩⟩
 ·rw[d3m,if_pos h];rfl
 ·rw[d3m,if_neg (nt h),if_pos (by rw[h2,Bool.true_or])];rfl
 ·have h3':(opV g f.Num).2=false:=by simpa using h3
  rw[d3m,if_neg (nt h),h2,h3',Bool.false_and,Bool.false_or,if_neg (by simp)];split<;>rfl
 all_goals (have h3':(opV g f.Num).2=true:=by simpa using h3)
 ·obtain⟨_,hop⟩:=b9n h3';subst hb;simp only[Bool.and_eq_true]at h4;rw[d3m,if_neg (nt h),h2,h3',Bool.true_and,Bool.false_or];rw[e0t,h4.1.1.1.1,h4.1.1.2,h4.1.2,h4.2];simp only[Bool.true_and,Bool.not_not];cases d2n p (opV g f.Num).1.Target f.Bits with
  |true=>rfl
  |false=>simp only[Bool.false_eq_true,if_false];split<;>rfl
 ·obtain⟨_,hop⟩:=b9n h3';subst hb
  have hk:e0t p (opV g f.Num).1 f=false:=by
   unfold e0t;cases hk9:((opV g f.Num).1.Kind==9) with
   |false=>rfl
   |true=>
    obtain⟨t0,t1⟩:=((hp.va.pro g hg).2 _ hop).enum (by simpa using hk9);have hlt:(opV g f.Num).1.Target.toNat<p.Enums.length:=by omega
    have hy:=List.getElem?_eq_getElem hlt;rw[hk9,hy]at h4;simp only[Option.any_some,Bool.true_and]at h4;cases hopn:(p.Enums[(opV g f.Num).1.Target.toNat]).Open with
    |false=>
     rw[hopn]at h4;simp only[Bool.not_false,Bool.true_and]at h4 ⊢;rw[h4,Bool.false_and]
    |true=>
     cases hbt:(decide (f.Bits<=2147483647)) with
     |false=>simp
     |true=>
      have:=e9i p _ f.Bits _ hy t0 (by simpa using hbt) hopn;simp[this]
  rw[d3m,if_neg (nt h),h2,h3',hk];rfl
 ·obtain⟨_,hop⟩:=b9n h3';obtain⟨t0,t1⟩:=((hp.va.pro g hg).2 _ hop).enum (by simpa using h4);have hlt:(opV g f.Num).1.Target.toNat<p.Enums.length:=by omega
  have hy:=List.getElem?_eq_getElem hlt;exact⟨_,hy,t0,by rw[h4,hy];simp⟩
 ·rw[h4];rfl
theorem f9m(v:A0)(hv:OkD v)(num:Int):d18 v num (v.Slots.any fun y=>y.1==num):=by
 refine d2p _ _ _ ?_
 exact d52 (C:=fun x b=>b=(x.1==num)) (fun x:Int × A0=>x.1==num) v.Slots (fun i hw=>c6h i num v _ ⟨fun h=>by
  obtain⟨y,h1,h2,b,rfl,h3⟩:=hw.1 h;exact⟨y,h1,h2,h3⟩,hw.2⟩) hv.okv.s (fun _ _=>rfl) (fun h=>h) (fun h=>h)
section
variable {M:e09}{B:A0->Prop}(hM:∀(t:Int) (g:B7) (v:A0) (lev:Int),p.Progs[t.toNat]? =some g->0<=t->B v->1<=lev->lev<=17->a3n p t v lev (M t v lev))
 include hM
theorem d6b(o:GOp)(ho:OpF p o)(v:A0)(hv:OkD v)(hb:B v)(lev:Int)(h1:1<=lev)(h2:lev<=16):a62 p o v lev (b3u M p o v lev):=by
 refine c4l _ _ _ _ _ ⟨fun h=>?_,fun h=>⟨_,e6t p hp.e _ _ v hv.okv,?_⟩⟩
 ·have hk:o.Kind=10:=by simpa using h
  obtain⟨t0,t1,_⟩:=ho.msg hk;have hlt:o.Target.toNat<p.Progs.length:=by omega
  refine⟨_,hM o.Target _ v _ (List.getElem?_eq_getElem hlt) t0 hb (by rw[wI,C7 (by omega)];omega) (by rw[wI,C7 (by omega)];omega),?_⟩;rw[b3u,if_pos hk,wI,C7 (by omega)]
 ·rw[b3u,if_neg (by simpa using h)]
theorem d93(o:GOp)(ho:OpF p o)(l:List (A0 × A0))(hl:l.length<=140737488351232)(hv:∀x∈l,OkD x.1/\OkD x.2)(hb:∀x∈l,B x.2)(lev:Int)(h1:1<=lev)(h2:lev<=16):c1v p o l lev (b1x (b52 M p o l lev) 0 l.length):=by
 refine c8f _ _ _ _ _ ?_;refine a9q (J:=fun i:Nat=>a9r i l lev p o _) (E:=b1x (b52 M p o l lev) 0 l.length=0) _ l.length (fun i hi k1 k2=>?_) (fun e=>?_) 0 (by omega) (fun _=>rfl) (fun h=>h)
 ·have e1:wI ((i:Int)+1)=((i+1:Nat):Int):=by rw[wI,C7 (by omega)];omega
  have hx:=List.getElem_mem hi
  have ef:b52 M p o l lev i=orE (c49 p o.Key (-1) l[i].1) (if d9o l[i] (l.take i)=true then 9 else b3u M p o l[i].2 lev):=by
   simp only[b52,List.getElem?_eq_getElem hi]
  rw[ef]at k1 k2;refine b3r _ _ _ _ _ _ ⟨fun _=>⟨l[i],by simp,by omega,_,e6t p hp.e _ _ _ (hv _ hx).1.okv,fun h=>?_,fun h=>?_⟩,fun h=>by simp at h;omega⟩
  ·have h':c49 p o.Key (-1) l[i].1≠0:=by simpa using h
   rw[orE,if_pos h']at k1;exact k1 h'
  have h':¬c49 p o.Key (-1) l[i].1≠0:=by simpa using h
  rw[orE,if_neg h']at k1 k2
  have go:∀d k:Nat,i - k<=d->k<=i->d9o l[i] ((l.take i).drop k)=d9o l[i] (l.take i)->a4r k i l lev p o (b1x (b52 M p o l lev) 0 l.length):=by
   have len:(l.take i).length=i:=by simp;omega
   have fin:d9o l[i] ((l.take i).drop i)=d9o l[i] (l.take i)->a4r i i l lev p o (b1x (b52 M p o l lev) 0 l.length):=by
    intro hk;rw[List.drop_eq_nil_of_le (by omega)]at hk;have hk':¬d9o l[i] (l.take i)=true:=by rw[<-hk];simp[d9o]
    rw[if_neg hk']at k1 k2;refine b2z _ _ _ _ _ _ _ ⟨fun h=>by simp at h,fun _=>⟨l[i],by simp,by omega,_,d6b hp hM o ho _ (hv _ hx).2 (hb _ hx) lev h1 h2,fun h4=>k1 (by simpa using h4),fun h4=>?_⟩⟩;rw[e1];exact k2 (by simpa using h4)
   intro d
   induction d with
   |zero=>
    intro k hd hk he;have e:k=i:=by omega
    subst e;exact fin he
   |succ d ih=>
    intro k hd hk he;rcases Nat.lt_or_ge k i with hlt|hge
    ·have e2:wI ((k:Int)+1)=((k+1:Nat):Int):=by rw[wI,C7 (by omega)];omega
     have hk2:k<(l.take i).length:=by omega
     have hk3:k<l.length:=by omega
     have dl:(l.take i).drop k=l[k]::(l.take i).drop (k+1):=by rw[List.drop_eq_getElem_cons hk2,List.getElem_take]
     rw[dl,d9o,List.any_cons]at he;refine b2z _ _ _ _ _ _ _ ⟨fun _=>⟨l[k],by simp,by omega,l[i],by simp,by omega,_,d6y _ _ (hv _ (List.getElem_mem hk3)).1 (hv _ hx).1,fun h4=>?_,fun h4=>?_⟩,fun h=>by simp at h;omega⟩
     ·rw[h4,Bool.true_or]at he;rw[if_pos he.symm]at k1;exact k1 (by decide)
     ·rw[h4,Bool.false_or]at he;rw[e2];exact ih (k+1) (by omega) (by omega) he
    ·have e:k=i:=by omega
     subst e;exact fin he
  exact go i 0 (by omega) (by omega) (by simp)
 ·exact b3r _ _ _ _ _ _ ⟨fun h=>by simp at h,fun _=>e⟩
theorem f2a(o:GOp)(ho:OpF p o)(v:A0)(hv:OkD v)(hb:B v)(hbl:∀x∈v.List_,B x)(hbp:∀x∈v.Pairs,B x.2)(lev:Int)(h1:1<=lev)(h2:lev<=16):b5n p o v lev (a1s M p o v lev):=by
 obtain⟨_,_,⟨la,pa,sa,ra⟩,hl,hps,hs⟩:=hv.inv;refine c2j _ _ _ _ _ ⟨fun h=>⟨fun b=>b=((v.Kind !=12)||Z3 v),fun b hb2=>⟨fun h3=>?_,fun h3=>⟨_,d93 hp hM o ho _ pa hps hbp lev h1 h2,?_⟩⟩,fun h3=>by rw[h3,Bool.true_or],fun h3=>⟨_,c4p v hv.okv,by rw[h3,Bool.false_or]⟩⟩,fun h=>⟨fun h4=>⟨fun b=>b=((v.Kind !=11)||Z3 v),fun b hb2=>⟨fun h3=>?_,fun h3=>?_⟩,fun h3=>by rw[h3,Bool.true_or],fun h3=>⟨_,c4p v hv.okv,by rw[h3,Bool.false_or]⟩⟩,fun h4=>⟨_,d6b hp hM o ho v hv hb lev h1 h2,?_⟩⟩⟩
 ·subst hb2;have h5:o.Card=5:=by simpa using h
  rw[a1s,if_neg (by omega),if_pos h5,if_pos h3]
 ·subst hb2;have h5:o.Card=5:=by simpa using h
  rw[a1s,if_neg (by omega),if_pos h5,if_neg (nt h3)]
 ·subst hb2;rw[a1s,if_pos (by simpa using h4),if_pos h3]
 ·subst hb2;rw[a1s,if_pos (by simpa using h4),if_neg (nt h3)];refine a9q (J:=fun i:Nat=>a3z i lev p o v _) (E:=b1x (d6h M p o v.List_ lev) 0 v.List_.length=0) _ v.List_.length (fun i hi k1 k2=>?_) (fun e=>?_) 0 (by omega) (fun _=>rfl) (fun h=>h)
  ·have e1:wI ((i:Int)+1)=((i+1:Nat):Int):=by have:=D8 la;rw[wI,C7 (by omega)];omega
   have hx:=List.getElem_mem hi;have ef:d6h M p o v.List_ lev i=b3u M p o v.List_[i] lev:=by simp only[d6h,List.getElem?_eq_getElem hi]
   rw[ef]at k1 k2;refine a8h _ _ _ _ _ _ ⟨fun _=>⟨v.List_[i],by simp,by omega,_,d6b hp hM o ho _ (hl _ hx) (hbl _ hx) lev h1 h2,fun h4=>k1 (by simpa using h4),fun h4=>?_⟩,fun h=>by simp at h;omega⟩;rw[e1];exact k2 (by simpa using h4)
  ·exact a8h _ _ _ _ _ _ ⟨fun h=>by simp at h,fun _=>e⟩
 ·rw[a1s,if_neg (by simpa using h4),if_neg (by simpa using h)]
def d7i(g:B7)(l:List (Int × A0))(i:Nat):Int:=
 match l[i]? with
 |none=>0
 |some x=>if(opV g x.1).2=false then 8 else if((l.take i).any fun y=>y.1==x.1)=true then 9
  else if((l.take i).any fun y=>((opV g x.1).1.Union !=(-1))&&((opV g y.1).1.Union==(opV g x.1).1.Union))=true then 15 else 0
 omit hM in
theorem f5e(g:B7)(hg:g∈p.Progs)(l:List (Int × A0))(hl:l.length<=140737488351232)(i:Nat)(hi:i<l.length):c6q g l i (d7i g l i):=by
  have ef:d7i g l i=if(opV g l[i].1).2=false then 8 else if((l.take i).any fun y=>y.1==l[i].1)=true then 9
    else if((l.take i).any fun y=>((opV g l[i].1).1.Union !=(-1))&&((opV g y.1).1.Union==(opV g l[i].1).1.Union))=true then 15 else 0:=by
    simp only[d7i,List.getElem?_eq_getElem hi]
  rw[ef];refine d0x _ _ _ _ ⟨l[i],by simp,by omega,_,e2p g (hp.ops hg) _,fun h=>?_,fun h=>?_⟩
  · rw[if_pos (by simpa using h)]
  have hn:(opV g l[i].1).2=true:=by simpa using h
  rw[if_neg (by simp[hn])];have len:(l.take i).length=i:=by simp;omega
  have go:∀d k:Nat,∀b:Bool,i - k<=d->k<=i->(((l.take i).drop k).any fun y=>y.1==l[i].1)=((l.take i).any fun y=>y.1==l[i].1)->(b||(((l.take i).drop k).any fun y=>((opV g l[i].1).1.Union !=(-1))&&((opV g y.1).1.Union==(opV g l[i].1).1.Union)))=((l.take i).any fun y=>((opV g l[i].1).1.Union !=(-1))&&((opV g y.1).1.Union==(opV g l[i].1).1.Union))->
      a7v k b l i g (opV g l[i].1) (if((l.take i).any fun y=>y.1==l[i].1)=true then 9 else if((l.take i).any fun y=>((opV g l[i].1).1.Union !=(-1))&&((opV g y.1).1.Union==(opV g l[i].1).1.Union))=true then 15 else 0):=by
    have fin:∀b:Bool,(((l.take i).drop i).any fun y=>y.1==l[i].1)=((l.take i).any fun y=>y.1==l[i].1)->(b||(((l.take i).drop i).any fun y=>((opV g l[i].1).1.Union !=(-1))&&((opV g y.1).1.Union==(opV g l[i].1).1.Union)))=((l.take i).any fun y=>((opV g l[i].1).1.Union !=(-1))&&((opV g y.1).1.Union==(opV g l[i].1).1.Union))->
        a7v i b l i g (opV g l[i].1) (if((l.take i).any fun y=>y.1==l[i].1)=true then 9 else if((l.take i).any fun y=>((opV g l[i].1).1.Union !=(-1))&&((opV g y.1).1.Union==(opV g l[i].1).1.Union))=true then 15 else 0):=by
      intro b hk hu;rw[List.drop_eq_nil_of_le (by omega)]at hk hu;simp only[List.any_nil,Bool.or_false]at hk hu;refine b5f _ _ _ _ _ _ _ ⟨fun h=>by simp at h,fun _=>⟨fun h=>?_,fun h=>?_⟩⟩
      · rw[if_neg (by rw[<-hk];simp),if_pos (by rw[<-hu];exact h)]
      · rw[if_neg (by rw[<-hk];simp),if_neg (by rw[<-hu];exact nt h)]
    intro d
    induction d with
    |zero=>
     intro k b hd hk h1 h2;have e:k=i:=by omega
     subst e;exact fin b h1 h2
    |succ d ih=>
     intro k b hd hk h1 h2;rcases Nat.lt_or_ge k i with hlt|hge
     · have e2:wI ((k:Int)+1)=((k+1:Nat):Int):=by rw[wI,C7 (by omega)];omega
       have hk2:k<(l.take i).length:=by omega
       have hk3:k<l.length:=by omega
       have dl:(l.take i).drop k=l[k]::(l.take i).drop (k+1):=by rw[List.drop_eq_getElem_cons hk2,List.getElem_take]
       rw[dl,List.any_cons]at h1 h2;refine b5f _ _ _ _ _ _ _ ⟨fun _=>⟨l[k],by simp,by omega,l[i],by simp,by omega,fun h4=>?_,fun h4=>⟨l[k],by simp,by omega,_,e2p g (hp.ops hg) _,?_⟩⟩,fun h=>by simp at h;omega⟩
       · rw[h4,Bool.true_or]at h1
         rw[if_pos h1.symm]
       · rw[h4,Bool.false_or]at h1
         rw[e2];exact ih (k+1) _ (by omega) (by omega) h1 (by rw[Bool.or_assoc];exact h2)
     · have e:k=i:=by omega
       subst e;exact fin b h1 h2
  exact go i 0 false (by omega) (by omega) (by simp) (by simp)
 omit hM hp in
theorem g0f(g:B7)(l:List (Int × A0))(lev:Int)(i:Nat)(hi:i<l.length):c1n M p g l lev i=orE (d7i g l i) (a1s M p (opV g l[i].1).1 l[i].2 lev):=by
  simp only[c1n,d7i,List.getElem?_eq_getElem hi];split
  · rfl
  split
  · rfl
  split
  · rfl
  · rfl
theorem d92(t:Int)(ht:0<=t)(g:B7)(hgt:p.Progs[t.toNat]? =some g)(v:A0)(hv:OkD v)(hb:∀x∈v.Slots,B x.2/\(∀y∈x.2.List_,B y)/\∀y∈x.2.Pairs,B y.2)(lev:Int)(h1:1<=lev)(h2:lev<=17):a3n p t v lev (e2s M p g v lev):=by
 have hv0:=hv;have hg:g∈p.Progs:=List.mem_of_getElem? hgt;obtain⟨_,_,⟨la,pa,sa,ra⟩,hl,hps,hs⟩:=hv.inv;have b1:=D8 sa;have b2:=D8 ra;have b3:=hp.ops hg;refine c4u _ _ _ _ _ ⟨fun b=>b=((v.Kind !=10)||Z3 v),fun b hb2=>⟨fun h3=>?_,fun h3=>⟨fun h4=>?_,fun h4=>⟨g,hgt,ht,?_⟩⟩⟩,fun h3=>by rw[h3,Bool.true_or],fun h3=>⟨_,c4p v hv.okv,by rw[h3,Bool.false_or]⟩⟩
 ·subst hb2;rw[e2s,if_pos h3]
 ·subst hb2;rw[e2s,if_neg (nt h3),if_pos (by simpa using h4)]
 subst hb2;have h5:¬16<lev:=by simpa using h4
 rw[e2s,if_neg (nt h3),if_neg h5];refine a9q (J:=fun i:Nat=>a5b i lev p v g _) (E:=b1x (c1n M p g v.Slots lev) 0 v.Slots.length=0) (r:=orE (b1x (c1n M p g v.Slots lev) 0 v.Slots.length) (orE (b1x (c0w g v) 0 g.Ops.length) (b1x (e4f p g v.Raws) 0 v.Raws.length))) (c1n M p g v.Slots lev) v.Slots.length (fun i hi k1 k2=>?_) (fun e=>?_) 0 (by omega) (fun h=>by rw[orE,if_pos h]) (fun h=>h)
 ·have e1:wI ((i:Int)+1)=((i+1:Nat):Int):=by rw[wI,C7 (by omega)];omega
  have hx:=List.getElem_mem hi;rw[g0f g v.Slots lev i hi]at k1 k2;refine b0l _ _ _ _ _ _ ⟨fun _=>⟨_,f5e hp g hg v.Slots sa i hi,fun h=>?_,fun h=>?_⟩,fun h=>by simp at h;omega⟩
  ·have h':d7i g v.Slots i≠0:=by simpa using h
   rw[orE,if_pos h']at k1;exact k1 h'
  have h':d7i g v.Slots i=0:=by simpa using h
  rw[orE,if_neg (by omega)]at k1 k2
  have hn:(opV g v.Slots[i].1).2=true:=by
   rcases Bool.eq_false_or_eq_true (opV g v.Slots[i].1).2 with q|q
   ·exact q
   ·simp only[d7i,List.getElem?_eq_getElem hi,q,if_true]at h';exact absurd h' (by decide)
  obtain⟨_,hop⟩:=b9n hn;refine⟨v.Slots[i],by simp,by omega,_,e2p g b3 _,v.Slots[i],by simp,by omega,_,f2a hp hM _ ((hp.va.pro g hg).2 _ hop) _ (hs _ hx) (hb _ hx).1 (hb _ hx).2.1 (hb _ hx).2.2 lev h1 (by omega),fun h4=>k1 (by simpa using h4),fun h4=>?_⟩;rw[e1];exact k2 (by simpa using h4)
 refine b0l _ _ _ _ _ _ ⟨fun h=>by simp at h,fun _=>?_⟩;rw[orE,if_neg (by omega)];refine a9q (J:=fun i:Nat=>a01 i p v g _) (E:=b1x (c0w g v) 0 g.Ops.length=0) (r:=orE (b1x (c0w g v) 0 g.Ops.length) (b1x (e4f p g v.Raws) 0 v.Raws.length)) (c0w g v) g.Ops.length (fun i hi k1 k2=>?_) (fun e=>?_) 0 (by omega) (fun h=>by rw[orE,if_pos h]) (fun h=>h)
 ·have e1:wI ((i:Int)+1)=((i+1:Nat):Int):=by rw[wI,C7 (by omega)];omega
  have ef:c0w g v i=if g.Ops[i].Card=1/\(v.Slots.any fun y=>y.1==g.Ops[i].Num)=false then 14 else 0:=by simp only[c0w,List.getElem?_eq_getElem hi]
  rw[ef]at k1 k2;refine a8m _ _ _ _ _ ⟨fun _=>⟨g.Ops[i],by simp,by omega,fun h=>⟨g.Ops[i],by simp,by omega,_,f9m hp v hv0 _,fun h6=>?_,fun h6=>?_⟩,fun h=>?_⟩,fun h=>by simp at h;omega⟩
  ·rw[if_pos ⟨by simpa using h,by simpa using h6⟩]at k1;exact k1 (by decide)
  ·rw[e1];refine k2 ?_;rw[if_neg];rintro⟨_,q⟩;simp[q]at h6
  ·rw[e1];refine k2 ?_;rw[if_neg];rintro⟨q,_⟩;simp[q]at h
 refine a8m _ _ _ _ _ ⟨fun h=>by simp at h,fun _=>?_⟩;rw[orE,if_neg (by omega)];refine a9q (J:=fun i:Nat=>a3u i p v g _) (E:=b1x (e4f p g v.Raws) 0 v.Raws.length=0) (e4f p g v.Raws) v.Raws.length (fun i hi k1 k2=>?_) (fun e=>?_) 0 (by omega) (fun _=>rfl) (fun h=>h)
 ·have e1:wI ((i:Int)+1)=((i+1:Nat):Int):=by rw[wI,C7 (by omega)];omega
  have ef:e4f p g v.Raws i=d3m p g v.Raws[i]:=by simp only[e4f,List.getElem?_eq_getElem hi]
  rw[ef]at k1 k2;have hf:=hv0.raws _ (List.getElem_mem hi);refine a8g _ _ _ _ _ ⟨fun _=>⟨v.Raws[i],by simp,by omega,_,f3e hp g hg _ hf,fun h=>?_,fun h=>⟨fun h6=>?_,fun h6=>?_⟩⟩,fun h=>by simp at h;omega⟩
  ·have h':d3m p g v.Raws[i]=1:=by simpa using h
   rw[k1 (by omega),h']
  all_goals (have h':d3m p g v.Raws[i]≠1:=by simpa using h)
  ·have:d3m p g v.Raws[i]=3:=by
    unfold d3m at h' ⊢;split at h'
    ·exact absurd rfl h'
    ·rename_i q1;rw[if_neg q1];split at h'
     ·exact absurd rfl h'
     ·rename_i q2;rw[if_neg q2,if_pos h6]
   rw[k1 (by omega),this]
  ·have:d3m p g v.Raws[i]=0:=by
    unfold d3m at h' ⊢;split at h'
    ·exact absurd rfl h'
    ·rename_i q1;rw[if_neg q1];split at h'
     ·exact absurd rfl h'
     ·rename_i q2;rw[if_neg q2,if_neg (nt h6)]
   rw[e1];exact k2 this
 ·exact a8g _ _ _ _ _ ⟨fun h=>by simp at h,fun _=>e⟩
end
theorem g7n{n:Nat}{v:A0}(hv:OkD v)(hn:SizeOf.sizeOf v<=n+1):∀x∈v.Slots,(OkD x.2/\SizeOf.sizeOf x.2<=n)/\(∀y∈x.2.List_,OkD y/\SizeOf.sizeOf y<=n)/\∀y∈x.2.Pairs,OkD y.2/\SizeOf.sizeOf y.2<=n:=fun x hx=>by
 obtain⟨_,_,_,_,_,hs⟩:=hv.inv;have z1:=szS hx;obtain⟨_,_,_,q1,q2,_⟩:=(hs x hx).inv;exact⟨⟨hs x hx,by omega⟩,fun y hy=>⟨q1 y hy,by have:=szL hy;omega⟩,fun y hy=>⟨(q2 y hy).2,by have:=szP hy;omega⟩⟩
theorem e0c:∀(n:Nat) (t:Int) (g:B7) (v:A0) (lev:Int),p.Progs[t.toNat]? =some g->0<=t->OkD v->SizeOf.sizeOf v<=n->1<=lev->lev<=17->Q4 ⟨p⟩ g v lev (a9c p n t v lev)
 |0,t,g,v,lev,_,_,_,h,_,_=>by have:=szV v;omega
 |n+1,t,g,v,lev,hgt,ht,hv,hn,h1,h2=>by
  have hg:g∈p.Progs:=List.mem_of_getElem? hgt;have e:a9c p (n+1) t v lev=e2s (a9c p n) p g v lev:=by simp only[a9c,hgt]
  rw[e];refine e4i hp (B:=fun v=>OkD v/\SizeOf.sizeOf v<=n) (fun t' g' v' lev' k1 k2 k3 k4=>?_) g hg v hv (g7n hp hv hn) lev h1 h2
  by_cases h0:0<=t'
  ·exact e0c n t' g' v' lev' k1 h0 k2.1 k2.2 k3 k4
  ·have:=e0c n 0 g' v' lev' (by rw[show t'.toNat=0 by omega]at k1;exact k1) (Int.le_refl _) k2.1 k2.2 k3 k4
   have e2:a9c p n 0 v' lev'=a9c p n t' v' lev':=by
    cases n with
    |zero=>rfl
    |succ n=>simp only[a9c];rw[show t'.toNat=(0:Int).toNat by omega]
   rw[<-e2];exact this
theorem e7b:∀(n:Nat) (t:Int) (g:B7) (v:A0) (lev:Int),p.Progs[t.toNat]? =some g->0<=t->OkD v->SizeOf.sizeOf v<=n->1<=lev->lev<=17->a3n p t v lev (a9c p n t v lev)
 |0,t,g,v,lev,_,_,_,h,_,_=>by have:=szV v;omega
 |n+1,t,g,v,lev,hgt,ht,hv,hn,h1,h2=>by
  have e:a9c p (n+1) t v lev=e2s (a9c p n) p g v lev:=by simp only[a9c,hgt]
  rw[e];exact d92 hp (B:=fun v=>OkD v/\SizeOf.sizeOf v<=n) (fun t' g' v' lev' k1 k0 k2 k3 k4=>e7b n t' g' v' lev' k1 k0 k2.1 k2.2 k3 k4) t ht g hgt v hv (g7n hp hv hn) lev h1 h2
end
section
variable {α:Type}{c:α->α->Int}
theorem e3b{x y:α}{l:List α}:y∈a78 c x l↔y=x\/y∈l:=by
 rw[(b9d x l).mem_iff];simp
theorem b2l:∀(l:List α),∀y∈S3 c l,y∈l
 |[],y,h=>h
 |x::l,y,h=>by
  simp only[S3]at h;split at h
  ·rcases e3b.1 h with h|h
   ·simp[h]
   ·exact List.mem_cons_of_mem _ (b2l l y h)
  ·exact List.mem_cons_of_mem _ (b2l l y h)
theorem b6b:∀(l:List α),(S3 c l).length<=l.length
 |[]=>by simp[S3]
 |x::l=>by
  have:=b6b l;simp only[S3];split
  ·rw[d5l];simp;omega
  ·simp;omega
theorem d0t(h:Tp c)(x:α):∀S:List α,(∀y∈S,c x y≠0)->S.Pairwise (fun a b=>c a b<0)->(a78 c x S).Pairwise (fun a b=>c a b<0)
 |[],_,_=>by simp[a78]
 |y::S,hne,hs=>by
  obtain⟨hy,hS⟩:=List.pairwise_cons.1 hs;simp only[a78];split
  ·rename_i e;refine List.pairwise_cons.2 ⟨fun z hz=>?_,d0t h x S (fun y hy=>hne y (by simp[hy])) hS⟩;rcases e3b.1 hz with h2|h2
   ·rw[h2];exact e
   ·exact hy z h2
  ·rename_i e;have s1:=h.s y x;have s2:=h.s x y;have n1:=hne y (by simp);have e2:c x y<0:=by omega
   refine List.pairwise_cons.2 ⟨fun z hz=>?_,hs⟩;rcases List.mem_cons.1 hz with h2|h2
   ·rw[h2];exact e2
   ·have q1:=hy z h2;have q2:=hne z (by simp[h2]);have:=h.t x y z (by omega) (by omega);omega
theorem g07{x:α}{l:List α}(h:lone c x l=true):∀y∈l,c x y≠0:=fun y hy=>by
 have:=List.all_eq_true.1 h y hy;simpa using this
theorem b7t(h:Tp c):∀l:List α,(S3 c l).Pairwise (fun a b=>c a b<0)
 |[]=>.nil
 |x::l=>by
  simp only[S3];split
  ·rename_i e;exact d0t h x _ (fun y hy=>g07 e y (b2l l y hy)) (b7t h l)
  ·exact b7t h l
end
def NoX(v:A0):Prop:=∃m,SizeOf.sizeOf v<=m/\Y8 m v=false
theorem NoX.inv{v:A0}(h:NoX v):v.Raws=[]/\(∀x∈v.Slots,NoX x.2)/\(∀x∈v.List_,NoX x)/\∀x∈v.Pairs,NoX x.2:=by
 obtain⟨m,hm,h⟩:=h;have h0:=szV v;obtain⟨n,rfl⟩:∃n,m=n+1:=⟨m - 1,by omega⟩
 simp only[Y8,Bool.or_eq_false_iff,Bool.not_eq_false',List.isEmpty_iff,List.any_eq_false,Bool.not_eq_true]at h;exact⟨h.1,fun x hx=>⟨n,by have:=szS hx;omega,h.2.1 x hx⟩,fun x hx=>⟨n,by have:=szL hx;omega,h.2.2.1 x hx⟩,fun x hx=>⟨n,by have:=szP hx;omega,h.2.2.2 x hx⟩⟩
theorem c4c{α β:Type}{J:Nat->List β->Prop}{E:List β->Prop}(s:List α)(g:α->List β)
  (b9u:∀i (hi:i<s.length) acc,acc.length<=i->J (i+1) (acc++g s[i])->J i acc) (hg:∀x∈s,(g x).length<=1)
  (fin:∀acc,acc.length<=s.length->E acc->J s.length acc) (h:E (s.flatMap g)):J 0 []:=by
 have key:∀d i (acc:List β),s.length - i<=d->i<=s.length->acc.length<=i->E (acc++(s.drop i).flatMap g)->J i acc:=by
  intro d
  induction d with
  |zero=>
   intro i acc hd hi ha hE;have e:i=s.length:=by omega
   subst e;rw[List.drop_length]at hE;exact fin acc ha (by simpa using hE)
  |succ d ih=>
   intro i acc hd hi ha hE;rcases Nat.lt_or_ge i s.length with hlt|hge
   ·have dl:s.drop i=s[i]::s.drop (i+1):=List.drop_eq_getElem_cons hlt;rw[dl,List.flatMap_cons,<-List.append_assoc]at hE;refine b9u i hlt acc ha (ih (i+1) _ (by omega) (by omega) ?_ hE);have:=hg _ (List.getElem_mem hlt);simp;omega
   ·have e:i=s.length:=by omega
    subst e;rw[List.drop_length]at hE;exact fin acc ha (by simpa using hE)
 exact key s.length 0 [] (by omega) (by omega) (by simp) (by simpa using h)
theorem e28{α β:Type}(s:List α)(g:α->List β)(hg:∀x∈s,(g x).length<=1):(s.flatMap g).length<=s.length:=by
 induction s with
 |nil=>simp
 |cons x s ih=>
  have h1:=hg x (by simp);have h2:=ih fun y hy=>hg y (by simp[hy])
  simp only[List.flatMap_cons,List.length_append,List.length_cons];omega
theorem c3c{α β:Type}(f:α->β):∀s:List α,s.flatMap (fun x=>[f x])=s.map f
 |[]=>rfl
 |x::s=>by simp[c3c f s]
abbrev d2o:=Int->A0->A0
def b0y(N:d2o)(o:GOp)(v:A0):A0:=if o.Kind=10 then N o.Target v else a2o v
noncomputable def b58(l:List (A0 × A0)):List (A0 × A0):=S3 (kc (SizeOf.sizeOf l)) l
noncomputable def a8t(N:d2o)(o:GOp)(v:A0):A0:=
 if o.Card=4 then⟨11,0,⟨#[]⟩,v.List_.map (b0y N o),[],[],[]⟩
 else if o.Card=5 then⟨12,0,⟨#[]⟩,[],(b58 v.Pairs).map (fun x=>(a2o x.1,b0y N o x.2)),[],[]⟩
 else b0y N o v
def e5g(o:GOp):Bool:=((o.Card==3)||(o.Card==4))||(o.Card==5)
noncomputable def a98(N:d2o)(o:GOp)(num:Int)(v:A0):List (Int × A0):=if(!e5g o|| !a9x (a8t N o v))=true then [(num,a8t N o v)] else []
noncomputable def c25(N:d2o)(g:B7)(v:A0):A0:=⟨10,0,⟨#[]⟩,[],[],(S3 kn v.Slots).flatMap fun x=>a98 N (opV g x.1).1 x.1 x.2,sC kr v.Raws⟩
noncomputable def U4(p:A6):Nat->d2o
 |0,_,_=>⟨0,0,⟨#[]⟩,[],[],[],[]⟩
 |n+1,t,v=>match p.Progs[t.toNat]? with
  |none=>⟨0,0,⟨#[]⟩,[],[],[],[]⟩
  |some g=>c25 (U4 p n) g v
theorem d1y(N:d2o)(o:GOp)(num:Int)(v:A0):(a98 N o num v).length<=1:=by
 unfold a98;split<;>simp
theorem f60(l:List (A0 × A0))(h:∀x∈l,OkD x.1/\OkD x.2):∀x∈l,OkP (SizeOf.sizeOf l) x:=fun x hx=>by
 have:=List.sizeOf_lt_of_mem hx;refine⟨(h x hx).1,?_⟩;cases x;simp at this ⊢;omega
theorem b5z{l:List (A0 × A0)}{x:A0 × A0}(h:x∈b58 l):x∈l:=b2l l x h
theorem c5f(l:List (A0 × A0)):(b58 l).length<=l.length:=b6b l
theorem OkV.bits{v:A0}(h:OkV v):0<=v.Bits/\v.Bits<18446744073709551616:=⟨h.b0,h.b1⟩
theorem e3k{v:A0}(h:OkD v):OkD (a2o v):=by
 unfold a2o;split
 ·cases h with
  |mk _ k b t l p s r hl hk hv hn hs hr w=>exact .mk _ k (show U64 9221120237041090560 from⟨by decide,by decide⟩) t l p s r hl hk hv hn hs hr w
 ·exact h
theorem e3q{num:Int}:∀{l:List GOp},(opL num l).2=false->(opL num l).1=op0
 |[],_=>rfl
 |o::l,h=>by
  by_cases e:(o.Num==num)=true
  ·have q:opL num (o::l)=(o,true):=by simp only[opL];rw[if_pos e]
   rw[q]at h;cases h
  ·have q:opL num (o::l)=opL num l:=by simp only[opL];rw[if_neg e]
   rw[q]at h ⊢;exact e3q h
def OpG(p:A6)(o:GOp):Prop:=o.Kind=10->∃g,p.Progs[o.Target.toNat]? =some g/\0<=o.Target
theorem g5m{p:A6}(hp:OkX p){g:B7}(hg:g∈p.Progs)(num:Int):OpG p (opV g num).1:=by
 intro h;rcases Bool.eq_false_or_eq_true (opV g num).2 with q|q
 ·obtain⟨_,hop⟩:=b9n q;obtain⟨t0,t1,_⟩:=((hp.va.pro g hg).2 _ hop).msg h;have hlt:(opV g num).1.Target.toNat<p.Progs.length:=by omega
  exact⟨_,List.getElem?_eq_getElem hlt,t0⟩
 ·have:(opV g num).1=op0:=e3q q;rw[this]at h;exact absurd h (by decide)
section
variable {p:A6}(hp:OkX p)
 include hp
section
variable {N:d2o}{B:A0->Prop}(hN:∀(t:Int) (g:B7) (v:A0),p.Progs[t.toNat]? =some g->0<=t->B v->b3a p t v (N t v))
 include hN
theorem d5q(o:GOp)(ho:OpG p o)(v:A0)(hv:OkD v)(hb:B v):a7f p o v (b0y N o v):=by
 refine c23 _ _ _ _ ⟨fun h=>?_,fun h=>⟨_,d46 v hv.okv.bits,?_⟩⟩
 ·have hk:o.Kind=10:=by simpa using h
  obtain⟨g,hg,t0⟩:=ho hk;exact⟨_,hN _ g v hg t0 hb,by rw[b0y,if_pos hk]⟩
 ·rw[b0y,if_neg (by simpa using h)]
theorem f32(o:GOp)(ho:OpG p o)(v:A0)(hv:OkD v)(hb:B v)(hbl:∀x∈v.List_,B x)(hbp:∀x∈v.Pairs,B x.2):b5v p o v (a8t N o v):=by
 obtain⟨_,_,⟨la,pa,sa,ra⟩,hl,hps,hs⟩:=hv.inv;have b1:=D8 la;have b2:=D8 pa;have w1:=D8 hv.w.1;have w2:=D8 hv.w.2.1;refine c2q _ _ _ _ ⟨fun h=>?_,fun h=>⟨fun h4=>⟨_,f6k _ v.Pairs (by omega) (f60 _ hps),?_⟩,fun h4=>⟨_,d5q hp hN o ho v hv hb,?_⟩⟩⟩
 ·have hc:o.Card=4:=by simpa using h
  refine c4c (J:=fun i acc=>a3t i v p o acc _) (E:=fun acc=>a8t N o v=⟨11,0,⟨#[]⟩,acc,[],[],[]⟩) v.List_ (fun x=>[b0y N o x]) (fun i hi acc ha hj=>?_) (fun x hx=>by simp) (fun acc ha he=>?_) ?_
  ·have e1:wI ((i:Int)+1)=((i+1:Nat):Int):=by rw[wI,C7 (by omega)];omega
   have hx:=List.getElem_mem hi;refine a8o _ _ _ _ _ _ ⟨fun _=>⟨v.List_[i],by simp,by omega,_,d5q hp hN o ho _ (hl _ hx) (hbl _ hx),by simp;omega,?_⟩,fun h=>by simp at h;omega⟩;rw[e1];exact hj
  ·exact a8o _ _ _ _ _ _ ⟨fun h=>by simp at h,fun _=>he⟩
  ·rw[c3c,a8t,if_pos hc]
 ·have hc:o.Card=5:=by simpa using h4
  have hc4:¬o.Card=4:=by simpa using h
  have b3:=c5f v.Pairs;refine c4c (J:=fun i acc=>a3s i (b58 v.Pairs) p o acc _) (E:=fun acc=>a8t N o v=⟨12,0,⟨#[]⟩,[],acc,[],[]⟩) (b58 v.Pairs) (fun x=>[(a2o x.1,b0y N o x.2)]) (fun i hi acc ha hj=>?_) (fun x hx=>by simp) (fun acc ha he=>?_) ?_
  ·have e1:wI ((i:Int)+1)=((i+1:Nat):Int):=by rw[wI,C7 (by omega)];omega
   have hx:=b5z (List.getElem_mem hi);refine a8j _ _ _ _ _ _ ⟨fun _=>⟨(b58 v.Pairs)[i],by simp,by omega,_,d46 _ (hps _ hx).1.okv.bits,_,d5q hp hN o ho _ (hps _ hx).2 (hbp _ hx),by simp;omega,?_⟩,fun h=>by simp at h;omega⟩;rw[e1];exact hj
  ·exact a8j _ _ _ _ _ _ ⟨fun h=>by simp at h,fun _=>he⟩
  ·rw[c3c,a8t,if_neg hc4,if_pos hc]
 ·rw[a8t,if_neg (by simpa using h),if_neg (by simpa using h4)]
theorem c9c(hNok:∀t v,OkD v->OkD (N t v))(o:GOp)(v:A0)(hv:OkD v):OkD (a8t N o v):=by
 have key:∀v,OkD v->OkD (b0y N o v):=fun v hv=>by
  unfold b0y;split
  ·exact hNok _ _ hv
  ·exact e3k hv
 obtain⟨_,_,⟨la,pa,sa,ra⟩,hl,hps,hs⟩:=hv.inv;obtain⟨w1,w2,_,_⟩:=hv.w;have z:Sz 0:=Nat.zero_le _;have b3:=c5f v.Pairs;unfold a8t;split
 ·refine .mk _ (show I64 11 from⟨by decide,by decide⟩) (show U64 0 from⟨by decide,by decide⟩) z (by simpa using la) z z z (fun x hx=>?_) (fun x hx=>by cases hx) (fun x hx=>by cases hx) (fun x hx=>by cases hx) (fun x hx=>by cases hx) (fun x hx=>by cases hx) ⟨by simpa using w1,z,z,z⟩;obtain⟨y,hy,rfl⟩:=List.mem_map.1 hx;exact key y (hl y hy)
 split
 ·refine .mk _ (show I64 12 from⟨by decide,by decide⟩) (show U64 0 from⟨by decide,by decide⟩) z z ?_ z z (fun x hx=>by cases hx) (fun x hx=>?_) (fun x hx=>?_) (fun x hx=>by cases hx) (fun x hx=>by cases hx) (fun x hx=>by cases hx) ⟨z,?_,z,z⟩
  ·simp only[List.length_map];exact Nat.le_trans b3 pa
  ·obtain⟨y,hy,rfl⟩:=List.mem_map.1 hx;exact e3k (hps y (b5z hy)).1
  ·obtain⟨y,hy,rfl⟩:=List.mem_map.1 hx;exact key _ (hps y (b5z hy)).2
  ·simp only[List.length_map];exact Nat.le_trans (Nat.mul_le_mul_right _ b3) w2
 ·exact key v hv
theorem f4x(hNok:∀t v,OkD v->OkD (N t v))(t:Int)(ht:0<=t)(g:B7)(hgt:p.Progs[t.toNat]? =some g)(v:A0)(hv:OkD v)(hX:v.Raws=[])(hb:∀x∈v.Slots,B x.2/\(∀y∈x.2.List_,B y)/\∀y∈x.2.Pairs,B y.2):b3a p t v (c25 N g v):=by
 have hg:g∈p.Progs:=List.mem_of_getElem? hgt;have hlt:t.toNat<p.Progs.length:=(List.getElem?_eq_some_iff.1 hgt).1;obtain⟨_,_,⟨la,pa,sa,ra⟩,hl,hps,hs⟩:=hv.inv;have b1:=D8 sa;have w3:=D8 hv.w.2.2.1;have w4:=D8 hv.w.2.2.2;have b3:=b6b (c:=kn) v.Slots;have so:=f1r v.Slots (by omega);have off:((decide (t<0))||(decide ((p.Progs.length:Int)<=t)))=false:=by simp;omega
 have may:∀(o:GOp),e5g o=(((o.Card==3)||(o.Card==4))||(o.Card==5)):=fun _=>rfl
 refine d2v _ _ _ _ ⟨fun h0=>⟨b4n _ _ fun b hbb=>⟨fun _=>rfl,fun _=>⟨by rw[h0];simp,by rw[h0];rfl⟩⟩,fun h=>(by rw[off]at h;cases h),fun _=>⟨_,so,?_⟩⟩,fun h0=>absurd hX h0⟩
 ·refine c4c (J:=fun i acc=>b0m i (S3 kn v.Slots) t p acc _) (E:=fun acc=>c25 N g v=⟨10,0,⟨#[]⟩,[],[],acc,[]⟩) (S3 kn v.Slots) (fun x=>a98 N (opV g x.1).1 x.1 x.2) (fun i hi acc ha hj=>?_) (fun x hx=>d1y _ _ _ _) (fun acc ha he=>?_) ?_
  ·have e1:wI ((i:Int)+1)=((i+1:Nat):Int):=by rw[wI,C7 (by omega)];omega
   have hx:=b2l _ _ (List.getElem_mem hi);have oz:=c9c hp hN hNok (opV g (S3 kn v.Slots)[i].1).1 _ (hs _ hx);refine b5x _ _ _ _ _ _ ⟨fun _=>⟨(S3 kn v.Slots)[i],by simp,by omega,g,hgt,ht,_,e6j g (hp.ops hg) _,_,f32 hp hN _ (g5m hp hg _) _ (hs _ hx) (hb _ hx).1 (hb _ hx).2.1 (hb _ hx).2.2,fun b=>b=(!e5g (opV g (S3 kn v.Slots)[i].1).1|| !a9x (a8t N (opV g (S3 kn v.Slots)[i].1).1 (S3 kn v.Slots)[i].2)),fun b hbb=>⟨fun h=>?_,fun h=>?_⟩,fun h=>?_,fun h=>⟨_,f4i _ oz.okv,?_⟩⟩,fun h=>by simp at h;omega⟩
   ·subst hbb;refine⟨by simp;omega,?_⟩;rw[a98,if_pos h]at hj;rw[e1];exact hj
   ·subst hbb;rw[a98,if_neg (nt h)]at hj;rw[e1];simpa using hj
   ·rw[may,h,Bool.true_or]
   ·rw[may,h,Bool.false_or]
  ·exact b5x _ _ _ _ _ _ ⟨fun h=>by simp at h,fun _=>⟨a4c _,he⟩⟩
  ·rw[c25,h0];rfl
theorem f3t(hNok:∀t v,OkD v->OkD (N t v))(g:B7)(v:A0)(hv:OkD v):OkD (c25 N g v):=by
 have z:Sz 0:=Nat.zero_le _;obtain⟨_,_,⟨la,pa,sa,ra⟩,hl,hps,hs⟩:=hv.inv;obtain⟨_,_,w3,w4⟩:=hv.w;have hlen:((S3 kn v.Slots).flatMap fun x=>a98 N (opV g x.1).1 x.1 x.2).length<=v.Slots.length:=Nat.le_trans (e28 _ _ fun x hx=>d1y _ _ _ _) (b6b _);have hr:(sC kr v.Raws).length=v.Raws.length:=(d42 v.Raws).length_eq;have hi:∀x∈v.Slots,I64 x.1:=by cases hv with|mk _ _ _ _ _ _ _ _ _ _ _ hn _ _ _=>exact hn
 have mem:∀x∈(S3 kn v.Slots).flatMap fun x=>a98 N (opV g x.1).1 x.1 x.2,I64 x.1/\OkD x.2:=fun x hx=>by
  obtain⟨y,hy,h⟩:=List.mem_flatMap.1 hx;unfold a98 at h;split at h
  ·have:=List.mem_singleton.1 h;subst this;have hy':=b2l _ _ hy;exact⟨hi y hy',c9c hp hN hNok _ _ (hs y hy')⟩
  ·cases h
 refine .mk _ (show I64 10 from⟨by decide,by decide⟩) (show U64 0 from⟨by decide,by decide⟩) z z z (Nat.le_trans hlen sa) (show Sz (sC kr v.Raws).length by rw[hr];exact ra) (fun x hx=>by cases hx) (fun x hx=>by cases hx) (fun x hx=>by cases hx) (fun x hx=>(mem x hx).1) (fun x hx=>(mem x hx).2) (fun x hx=>hv.raws x ((d42 v.Raws).mem_iff.1 hx)) ⟨z,z,Nat.le_trans (Nat.mul_le_mul_right _ hlen) w3,show Sz ((sC kr v.Raws).length*40) by rw[hr];exact w4⟩
end
theorem d4w:OkD ⟨0,0,⟨#[]⟩,[],[],[],[]⟩:=by
 have z:Sz 0:=Nat.zero_le _;exact .mk _ ⟨by decide,by decide⟩ ⟨by decide,by decide⟩ z z z z z (fun x hx=>by cases hx) (fun x hx=>by cases hx) (fun x hx=>by cases hx) (fun x hx=>by cases hx) (fun x hx=>by cases hx) (fun x hx=>by cases hx) ⟨z,z,z,z⟩
theorem c2z:∀(n:Nat),(∀(t:Int) (g:B7) (v:A0),p.Progs[t.toNat]? =some g->0<=t->OkD v/\SizeOf.sizeOf v<=n/\NoX v->b3a p t v (U4 p n t v))/\∀t v,OkD v->OkD (U4 p n t v)
 |0=>⟨fun t g v _ _ h=>by have:=szV v;omega,fun t v _=>d4w hp⟩
 |n+1=>by
  obtain⟨h1,h2⟩:=c2z n;refine⟨fun t g v hgt ht ⟨hv,hn,hX⟩=>?_,fun t v hv=>?_⟩
  ·obtain⟨_,_,_,_,_,hs⟩:=hv.inv;obtain⟨x1,x2,_,_⟩:=hX.inv
   have hB:∀x∈v.Slots,(OkD x.2/\SizeOf.sizeOf x.2<=n/\NoX x.2)/\(∀y∈x.2.List_,OkD y/\SizeOf.sizeOf y<=n/\NoX y)/\∀y∈x.2.Pairs,OkD y.2/\SizeOf.sizeOf y.2<=n/\NoX y.2:=fun x hx=>by
    have z1:=szS hx;obtain⟨_,_,_,q1,q2,_⟩:=(hs x hx).inv;obtain⟨_,_,y2,y3⟩:=(x2 x hx).inv;exact⟨⟨hs x hx,by omega,x2 x hx⟩,fun y hy=>⟨q1 y hy,by have:=szL hy;omega,y2 y hy⟩,fun y hy=>⟨(q2 y hy).2,by have:=szP hy;omega,y3 y hy⟩⟩
   have e:U4 p (n+1) t v=c25 (U4 p n) g v:=by simp only[U4,hgt]
   rw[e];exact f4x hp h1 h2 t ht g hgt v hv x1 hB
  ·simp only[U4];split
   ·exact d4w hp
   ·exact f3t hp h1 h2 _ v hv
theorem f3l(n:Nat)(t:Int)(g:B7)(v:A0)(hgt:p.Progs[t.toNat]? =some g)(ht:0<=t)(hv:OkD v)(hn:SizeOf.sizeOf v<=n)(hX:NoX v):b3a p t v (U4 p n t v):=(c2z hp n).1 t g v hgt ht ⟨hv,hn,hX⟩
theorem c3s(n:Nat)(t:Int)(v:A0)(hv:OkD v):OkD (U4 p n t v):=(c2z hp n).2 t v hv
end
theorem b90{α β:Type}{s:List α}{f g:α->List β}(h:∀x∈s,f x=g x):s.flatMap f=s.flatMap g:=by
 induction s with
 |nil=>rfl
 |cons x s ih=>rw[List.flatMap_cons,List.flatMap_cons,h x (by simp),ih fun y hy=>h y (by simp[hy])]
section
variable {β:Type}(G:GOp->Int × A0->List β)
def c7a(l:List (Int × A0))(o:GOp):List β:=l.flatMap fun x=>if x.1=o.Num then G o x else []
theorem c3o{l:List (Int × A0)}{o:GOp}(h:∀x∈l,x.1≠o.Num):c7a G l o=[]:=by
 unfold c7a;rw[List.flatMap_eq_nil_iff];intro x hx;rw[if_neg (h x hx)]
def g46(l:List (Int × A0)):Prop:=l.Pairwise fun x y=>x.1≠y.1
theorem f1l{l m:List (Int × A0)}(h:l.Perm m)(hd:g46 l)(o:GOp):c7a G l o=c7a G m o:=by
 induction h with
 |nil=>rfl
 |cons x h ih=>
  have:=ih (List.pairwise_cons.1 hd).2;unfold c7a at this ⊢;rw[List.flatMap_cons,List.flatMap_cons,this]
 |swap x y l=>
  have h1:=(List.pairwise_cons.1 hd).1 x (by simp);unfold c7a;simp only[List.flatMap_cons]
  by_cases e:y.1=o.Num
  ·rw[if_neg (show ¬x.1=o.Num by omega)];simp
  ·rw[if_neg e];simp
 |trans h1 h2 ih1 ih2=>exact(ih1 hd).trans (ih2 (h1.pairwise hd fun h=>h.symm))
theorem f13:∀(ops:List GOp) (S:List (Int × A0)),ops.Pairwise (fun a b=>a.Num<b.Num)->S.Pairwise (fun x y=>x.1<y.1)->(∀x∈S,∃o∈ops,o.Num=x.1)->ops.flatMap (c7a G S)=S.flatMap fun x=>G (opL x.1 ops).1 x
 |[],S,_,_,hs=>by
  cases S with
  |nil=>rfl
  |cons x S=>obtain⟨o,ho,_⟩:=hs x (by simp);cases ho
 |o::ops,S,hops,hS,hs=>by
  obtain⟨h1,h2⟩:=List.pairwise_cons.1 hops;cases S with
  |nil=>simp[c7a]
  |cons x S=>
   obtain⟨h3,h4⟩:=List.pairwise_cons.1 hS;rw[List.flatMap_cons]
   by_cases e:x.1=o.Num
   ·have hin:∀y∈S,∃q∈ops,q.Num=y.1:=fun y hy=>by
     obtain⟨q,hq,hn⟩:=hs y (by simp[hy]);rcases List.mem_cons.1 hq with h5|h5
     ·rw[h5]at hn;have:=h3 y hy;omega
     ·exact⟨q,h5,hn⟩
    have ih:=f13 ops S h2 h4 hin
    have e1:c7a G (x::S) o=G o x:=by
     have:c7a G S o=[]:=c3o G fun y hy=>by have:=h3 y hy;omega
     unfold c7a at this ⊢;rw[List.flatMap_cons,this,if_pos e,List.append_nil]
    have e2:ops.flatMap (c7a G (x::S))=ops.flatMap (c7a G S):=by
     refine b90 fun q hq=>?_
     have:=h1 q hq;unfold c7a;rw[List.flatMap_cons,if_neg (by omega),List.nil_append]
    rw[e1,e2,ih,List.flatMap_cons];have e3:opL x.1 (o::ops)=(o,true):=by simp only[opL];rw[if_pos (by simp[e])]
    rw[e3]
    congr 1
    refine b90 fun y hy=>?_
    have:=h3 y hy;simp only[opL];rw[if_neg (by simp;omega)]
   ·have hin:∀y∈x::S,∃q∈ops,q.Num=y.1:=fun y hy=>by
     obtain⟨q0,hq0,hn0⟩:=hs x (by simp)
     have hx:o.Num<x.1:=by
      rcases List.mem_cons.1 hq0 with h5|h5
      ·rw[h5]at hn0;omega
      ·have:=h1 q0 h5;omega
     obtain⟨q,hq,hn⟩:=hs y hy;rcases List.mem_cons.1 hq with h5|h5
     ·rw[h5]at hn;rcases List.mem_cons.1 hy with h6|h6
      ·rw[h6]at hn;omega
      ·have:=h3 y h6;omega
     ·exact⟨q,h5,hn⟩
    have hne:∀y∈x::S,y.1≠o.Num:=fun y hy=>by
     obtain⟨q,hq,hn⟩:=hin y hy;have:=h1 q hq;omega
    have ih:=f13 ops (x::S) h2 hS hin;rw[c3o G hne,List.nil_append,ih];refine b90 fun y hy=>?_
    have:=hne y hy;simp only[opL];rw[if_neg (by simp;omega)]
end
theorem d10{α:Type}{c:α->α->Int}:∀(l:List α),l.Pairwise (fun x y=>c x y≠0)->(S3 c l).Perm l
 |[],_=>.refl _
 |x::l,h=>by
  obtain⟨h1,h2⟩:=List.pairwise_cons.1 h
  have:lone c x l=true:=by
   rw[lone,List.all_eq_true];intro y hy;simpa using h1 y hy
  simp only[S3];rw[if_pos this];exact(b9d x _).trans ((d10 l h2).cons x)
theorem c7x{β:Type}(G:GOp->Int × A0->List β)(ops:List GOp)(l:List (Int × A0))(hops:ops.Pairwise (fun a b=>a.Num<b.Num))(hd:g46 l)(hs:∀x∈l,∃o∈ops,o.Num=x.1):ops.flatMap (c7a G l)=(S3 kn l).flatMap fun x=>G (opL x.1 ops).1 x:=by
 have hp:(S3 kn l).Perm l:=d10 l (hd.imp fun {x y} h=>d50.2 h)
 have hS:(S3 kn l).Pairwise (fun x y=>x.1<y.1):=(b7t e8z l).imp fun {x y} h=>by
  rcases Q0 x.1 y.1 with q|q|q<;>simp only[kn]at h<;>omega
 rw[<-f13 G ops (S3 kn l) hops hS fun x hx=>hs x (hp.mem_iff.1 hx)];exact b90 fun o _=>f1l G hp.symm hd o
theorem b99{l:List GOp}(h:Asc l l.length):l.Pairwise fun a b=>a.Num<b.Num:=by
 rw[List.pairwise_iff_getElem]
 have key:∀d i (hi:i<l.length) (hj:i+d+1<l.length),l[i].Num<l[i+d+1].Num:=by
  intro d
  induction d with
  |zero=>intro i hi hj;exact h i _ _ hj (List.getElem?_eq_getElem hi) (List.getElem?_eq_getElem hj)
  |succ d ih=>
   intro i hi hj;have h1:=ih i hi (by omega);have h2:=h (i+d+1) _ _ (by omega) (List.getElem?_eq_getElem (by omega)) (List.getElem?_eq_getElem (show i+d+1+1<l.length by omega));have e:l[i+(d+1)+1]=l[i+d+1+1]:=rfl;rw[e];omega
 intro i j hi hj hij;have:=key (j - i - 1) i hi (by omega);have e:i+(j - i - 1)+1=j:=by omega
 simp only[e]at this;exact this
theorem c9d{a b:Int}(h:orE a b=0):a=0/\b=0:=by
 unfold orE at h;split at h
 ·rename_i q;exact absurd h q
 ·rename_i q;exact⟨by omega,h⟩
structure h5o(M:e09)(p:A6)(g:B7)(v:A0)(lev:Int):Prop where
 kind:v.Kind=10
 other:Z3 v=false
 deep:lev<=16
 known:∀x∈v.Slots,(opV g x.1).2=true
 diff:g46 v.Slots
 field:∀x∈v.Slots,a1s M p (opV g x.1).1 x.2 lev=0
 need:∀o∈g.Ops,o.Card=1->∃x∈v.Slots,x.1=o.Num
theorem e8g{M:e09}{p:A6}{g:B7}{v:A0}{lev:Int}(h:e2s M p g v lev=0):h5o M p g v lev:=by
 unfold e2s at h;split at h
 ·exact absurd h (by decide)
 rename_i h1;split at h
 ·exact absurd h (by decide)
 rename_i h2;obtain⟨h3,h4⟩:=c9d h;obtain⟨h5,h6⟩:=c9d h4;have h1':v.Kind=10/\Z3 v=false:=by simpa using h1
 have sl:=fun i hi=>c4w 0 h3 i (Nat.zero_le _) hi
 have sl2:∀i (hi:i<v.Slots.length),(opV g v.Slots[i].1).2=true/\((v.Slots.take i).any fun y=>y.1==v.Slots[i].1)=false/\a1s M p (opV g v.Slots[i].1).1 v.Slots[i].2 lev=0:=by
  intro i hi;have:=sl i hi;simp only[c1n,List.getElem?_eq_getElem hi]at this;split at this
  ·exact absurd this (by decide)
  rename_i q1;split at this
  ·exact absurd this (by decide)
  rename_i q2;split at this
  ·exact absurd this (by decide)
  exact⟨by simpa using q1,(by revert q2;cases ((v.Slots.take i).any fun y=>y.1==v.Slots[i].1)<;>simp),this⟩
 refine⟨h1'.1,h1'.2,by omega,fun x hx=>?_,?_,fun x hx=>?_,fun o ho hc=>?_⟩
 ·obtain⟨i,hi,rfl⟩:=List.mem_iff_getElem.1 hx;exact(sl2 i hi).1
 ·unfold g46;rw[List.pairwise_iff_getElem];intro i j hi hj hij e;have:=(sl2 j hj).2.1;rw[List.any_eq_false]at this
  have hm:v.Slots[i]∈v.Slots.take j:=by
   rw[List.mem_take_iff_getElem];exact⟨i,by omega,rfl⟩
  exact this _ hm (by simpa using e)
 ·obtain⟨i,hi,rfl⟩:=List.mem_iff_getElem.1 hx;exact(sl2 i hi).2.2
 ·obtain⟨i,hi,rfl⟩:=List.mem_iff_getElem.1 ho;have:=c4w 0 h5 i (Nat.zero_le _) hi;simp only[c0w,List.getElem?_eq_getElem hi]at this;split at this
  ·exact absurd this (by decide)
  rename_i q;rcases Bool.eq_false_or_eq_true (v.Slots.any fun y=>y.1==g.Ops[i].Num) with r|r
  ·obtain⟨x,hx,hn⟩:=List.any_eq_true.1 r;exact⟨x,hx,by simpa using hn⟩
  ·exact absurd ⟨hc,r⟩ q
theorem d1v{M:e09}{p:A6}{o:GOp}{v:A0}{lev:Int}(h:a1s M p o v lev=0):
  (o.Card=4->v.Kind=11/\Z3 v=false/\∀x∈v.List_,b3u M p o x lev=0)/\(o.Card=5->v.Kind=12/\Z3 v=false/\(∀x∈v.Pairs,c49 p o.Key (-1) x.1=0/\b3u M p o x.2 lev=0)/\v.Pairs.Pairwise fun x y=>W8 (SizeOf.sizeOf x.1) x.1 y.1≠0)/\(o.Card≠4->o.Card≠5->b3u M p o v lev=0):=by
 unfold a1s at h;refine⟨fun hc=>?_,fun hc=>?_,fun h4 h5=>?_⟩
 ·rw[if_pos hc]at h;split at h
  ·exact absurd h (by decide)
  rename_i q;have q':v.Kind=11/\Z3 v=false:=by simpa using q
  refine⟨q'.1,q'.2,fun x hx=>?_⟩;obtain⟨i,hi,rfl⟩:=List.mem_iff_getElem.1 hx;have:=c4w 0 h i (Nat.zero_le _) hi;simpa only[d6h,List.getElem?_eq_getElem hi]using this
 ·rw[if_neg (by omega),if_pos hc]at h;split at h
  ·exact absurd h (by decide)
  rename_i q;have q':v.Kind=12/\Z3 v=false:=by simpa using q
  have en:∀i (hi:i<v.Pairs.length),c49 p o.Key (-1) v.Pairs[i].1=0/\d9o v.Pairs[i] (v.Pairs.take i)=false/\b3u M p o v.Pairs[i].2 lev=0:=fun i hi=>by
   have:=c4w 0 h i (Nat.zero_le _) hi;simp only[b52,List.getElem?_eq_getElem hi]at this;obtain⟨a,b⟩:=c9d this;split at b
   ·exact absurd b (by decide)
   rename_i k;exact⟨a,by simpa using k,b⟩
  refine⟨q'.1,q'.2,fun x hx=>?_,?_⟩
  ·obtain⟨i,hi,rfl⟩:=List.mem_iff_getElem.1 hx;exact⟨(en i hi).1,(en i hi).2.2⟩
  ·rw[List.pairwise_iff_getElem];intro i j hi hj hij e;have:=(en j hj).2.1;rw[d9o,List.any_eq_false]at this
   have hm:v.Pairs[i]∈v.Pairs.take j:=by
    rw[List.mem_take_iff_getElem];exact⟨i,by omega,rfl⟩
   exact this _ hm (by simpa using e)
 ·rw[if_neg h4,if_neg h5]at h;exact h
section
variable {p:A6}(hp:OkX p)
 include hp
section
variable {N:d2o}{B:Int->A0->Prop}(hN:∀(t:Int) (g:B7) (v:A0),p.Progs[t.toNat]? =some g->0<=t->B t v->b2c p t v (N t v))
 include hN
theorem d0s(o:GOp)(ho:OpG p o)(v:A0)(hv:OkD v)(hb:o.Kind=10->B o.Target v):b0h p o v (b0y N o v):=by
 refine c5w _ _ _ _ ⟨fun h=>?_,fun h=>⟨_,e2x v hv.okv.bits,?_⟩⟩
 ·have hk:o.Kind=10:=by simpa using h
  obtain⟨g,hg,t0⟩:=ho hk;exact⟨_,hN _ g v hg t0 (hb hk),by rw[b0y,if_pos hk]⟩
 ·rw[b0y,if_neg (by simpa using h)]
theorem f10(o:GOp)(ho:OpG p o)(v:A0)(hv:OkD v)(hb:o.Card≠4->o.Card≠5->o.Kind=10->B o.Target v)(hbl:o.Card=4->o.Kind=10->∀x∈v.List_,B o.Target x)(hbp:o.Card=5->o.Kind=10->∀x∈v.Pairs,B o.Target x.2):b8t p o v (a8t N o v):=by
 obtain⟨_,_,⟨la,pa,sa,ra⟩,hl,hps,hs⟩:=hv.inv;have b1:=D8 la;have b2:=D8 pa;have w1:=D8 hv.w.1;have w2:=D8 hv.w.2.1;refine c6g _ _ _ _ ⟨fun h=>?_,fun h=>⟨fun h4=>⟨_,e6n _ v.Pairs (by omega) (f60 _ hps),?_⟩,fun h4=>⟨_,d0s hp hN o ho v hv (hb (by simpa using h) (by simpa using h4)),?_⟩⟩⟩
 ·have hc:o.Card=4:=by simpa using h
  refine c4c (J:=fun i acc=>a7n i p o v acc _) (E:=fun acc=>a8t N o v=⟨11,0,⟨#[]⟩,acc,[],[],[]⟩) v.List_ (fun x=>[b0y N o x]) (fun i hi acc ha hj=>?_) (fun x hx=>by simp) (fun acc ha he=>?_) ?_
  ·have e1:wI ((i:Int)+1)=((i+1:Nat):Int):=by rw[wI,C7 (by omega)];omega
   have hx:=List.getElem_mem hi;refine b1o _ _ _ _ _ _ ⟨fun _=>⟨v.List_[i],by simp,by omega,_,d0s hp hN o ho _ (hl _ hx) (fun hk=>hbl hc hk _ hx),by simp;omega,?_⟩,fun h=>by simp at h;omega⟩;rw[e1];exact hj
  ·exact b1o _ _ _ _ _ _ ⟨fun h=>by simp at h,fun _=>he⟩
  ·rw[c3c,a8t,if_pos hc]
 ·have hc:o.Card=5:=by simpa using h4
  have hc4:¬o.Card=4:=by simpa using h
  have b3:=c5f v.Pairs;refine c4c (J:=fun i acc=>a70 i (b58 v.Pairs) p o acc _) (E:=fun acc=>a8t N o v=⟨12,0,⟨#[]⟩,[],acc,[],[]⟩) (b58 v.Pairs) (fun x=>[(a2o x.1,b0y N o x.2)]) (fun i hi acc ha hj=>?_) (fun x hx=>by simp) (fun acc ha he=>?_) ?_
  ·have e1:wI ((i:Int)+1)=((i+1:Nat):Int):=by rw[wI,C7 (by omega)];omega
   have hx:=b5z (List.getElem_mem hi);refine b1a _ _ _ _ _ _ ⟨fun _=>⟨(b58 v.Pairs)[i],by simp,by omega,_,e2x _ (hps _ hx).1.okv.bits,(b58 v.Pairs)[i],by simp,by omega,_,d0s hp hN o ho _ (hps _ hx).2 (fun hk=>hbp hc hk _ hx),by simp;omega,?_⟩,fun h=>by simp at h;omega⟩;rw[e1];exact hj
  ·exact b1a _ _ _ _ _ _ ⟨fun h=>by simp at h,fun _=>he⟩
  ·rw[c3c,a8t,if_neg hc4,if_pos hc]
 ·rw[a8t,if_neg (by simpa using h),if_neg (by simpa using h4)]
theorem f6j(t:Int)(v:A0)(y1:List H1)(r:A0)(hv:OkD v)(hNok:∀t v,OkD v->OkD (N t v))(i:Nat)(hi:i<140737488351232)(o:GOp)(ho:OpG p o)(hc:1<=o.Card/\o.Card<=5)(hb:∀x∈v.Slots,x.1=o.Num->(o.Card≠4->o.Card≠5->o.Kind=10->B o.Target x.2)/\(o.Card=4->o.Kind=10->∀y∈x.2.List_,B o.Target y)/\(o.Card=5->o.Kind=10->∀y∈x.2.Pairs,B o.Target y.2))
  (T R:List (Int × A0)) (hT:T.length<=v.Slots.length) (next:∀acc,acc++R=T->a7a ((i+1:Nat):Int) t p v acc y1 r):∀d k (acc:List (Int × A0)),v.Slots.length - k<=d->k<=v.Slots.length->acc++(v.Slots.drop k).flatMap (fun x=>if x.1=o.Num then a98 N o x.1 x.2 else [])++R=T->a1h k i t p v acc y1 o r:=by
 obtain⟨_,_,⟨la,pa,sa,ra⟩,hl,hps,hs⟩:=hv.inv;have b1:=D8 sa;have w3:=D8 hv.w.2.2.1;have e0:wI ((i:Int)+1)=((i+1:Nat):Int):=by rw[wI,C7 (by omega)];omega
 have fin:∀(acc:List (Int × A0)),acc++(v.Slots.drop v.Slots.length).flatMap (fun x=>if x.1=o.Num then a98 N o x.1 x.2 else [])++R=T->a1h (v.Slots.length:Nat) i t p v acc y1 o r:=by
  intro acc h;rw[List.drop_length]at h;refine b46 _ _ _ _ _ _ _ _ _ ⟨fun h=>by simp at h,fun _=>?_⟩;rw[e0];exact next acc (by simpa using h)
 intro d
 induction d with
 |zero=>
  intro k acc hd hk h;have e:k=v.Slots.length:=by omega
  subst e;exact fin acc h
 |succ d ih=>
  intro k acc hd hk h;rcases Nat.lt_or_ge k v.Slots.length with hlt|hge
  ·have e1:wI ((k:Int)+1)=((k+1:Nat):Int):=by rw[wI,C7 (by omega)];omega
   have dl:v.Slots.drop k=v.Slots[k]::v.Slots.drop (k+1):=List.drop_eq_getElem_cons hlt;have hx:=List.getElem_mem hlt;rw[dl,List.flatMap_cons,<-List.append_assoc]at h;refine b46 _ _ _ _ _ _ _ _ _ ⟨fun _=>⟨v.Slots[k],by simp,by omega,fun hn=>?_,fun hn=>?_⟩,fun h=>by simp at h;omega⟩
   ·have hne:¬v.Slots[k].1=o.Num:=by simpa using hn
    rw[if_neg hne,List.append_nil]at h;rw[e1];exact ih (k+1) acc (by omega) (by omega) h
   ·have he:v.Slots[k].1=o.Num:=by simpa using hn
    obtain⟨b1',b2',b3'⟩:=hb _ hx he;have oz:=c9c (p:=p) (N:=N) (B:=fun _=>False) hp (fun t g v _ _ hf=>hf.elim) hNok o _ (hs _ hx);rw[if_pos he]at h;refine⟨v.Slots[k],by simp,by omega,_,f10 hp hN o ho _ (hs _ hx) b1' b2' b3',fun b=>b=(!e5g o|| !a9x (a8t N o v.Slots[k].2)),fun b hbb=>⟨fun h2=>?_,fun h2=>?_⟩,fun h2=>?_,fun h2=>⟨_,e8t _,?_⟩⟩
    ·subst hbb;rw[a98,if_pos h2,he]at h;have hlen:=congrArg List.length h;simp at hlen;refine⟨by simp;omega,?_⟩;rw[e1];exact ih (k+1) _ (by omega) (by omega) h
    ·subst hbb;rw[a98,if_neg (nt h2),List.append_nil]at h;rw[e1];exact ih (k+1) _ (by omega) (by omega) h
    ·have:e5g o=false:=by
      unfold e5g;simp at h2 ⊢;omega
     rw[this];rfl
    ·have:e5g o=true:=by
      unfold e5g;simp at h2 ⊢;omega
     rw[this];rfl
  ·have e:k=v.Slots.length:=by omega
   subst e;exact fin acc h
theorem e7t(hNok:∀t v,OkD v->OkD (N t v))(t:Int)(ht:0<=t)(g:B7)(hgt:p.Progs[t.toNat]? =some g)(v:A0)(hv:OkD v)(hX:v.Raws=[]){M:e09}{lev:Int}(hf:h5o M p g v lev)
  (hb:∀x∈v.Slots,∀o∈g.Ops,o.Num=x.1->(o.Card≠4->o.Card≠5->o.Kind=10->B o.Target x.2)/\(o.Card=4->o.Kind=10->∀y∈x.2.List_,B o.Target y)/\(o.Card=5->o.Kind=10->∀y∈x.2.Pairs,B o.Target y.2)):b2c p t v (c25 N g v):=by
 have hg:g∈p.Progs:=List.mem_of_getElem? hgt;have hlt:t.toNat<p.Progs.length:=(List.getElem?_eq_some_iff.1 hgt).1;obtain⟨_,_,⟨la,pa,sa,ra⟩,hl,hps,hs⟩:=hv.inv;have b1:=D8 sa;have w3:=D8 hv.w.2.2.1;have w4:=D8 hv.w.2.2.2;have bo:=hp.ops hg;have off:((decide (t<0))||(decide ((p.Progs.length:Int)<=t)))=false:=by simp;omega
 have hT:=c7x (fun o x=>a98 N o x.1 x.2) g.Ops v.Slots (b99 (hp.va.asc g hg)) hf.diff fun x hx=>by
  obtain⟨h1,h2⟩:=b9n (hf.known x hx);exact⟨_,h2,h1⟩
 have hlen:(g.Ops.flatMap (c7a (fun o x=>a98 N o x.1 x.2) v.Slots)).length<=v.Slots.length:=by
  rw[hT];exact Nat.le_trans (e28 _ _ fun x hx=>d1y _ _ _ _) (b6b _)
 have er:c64 v.Raws (sC kr v.Raws):=by
  rw[hX];exact d0k _ _ (c3p _ _ _ _ ⟨fun h=>by simp at h,fun _=>rfl⟩)
 refine d2h _ _ _ _ ⟨fun h=>(by rw[off]at h;cases h),fun _=>⟨_,er,?_⟩⟩
 have e:c25 N g v=⟨10,0,⟨#[]⟩,[],[],g.Ops.flatMap (c7a (fun o x=>a98 N o x.1 x.2) v.Slots),sC kr v.Raws⟩:=by
  rw[hT];rfl
 rw[e]
 have go:∀d i (acc:List (Int × A0)),g.Ops.length - i<=d->i<=g.Ops.length->acc++(g.Ops.drop i).flatMap (c7a (fun o x=>a98 N o x.1 x.2) v.Slots)=g.Ops.flatMap (c7a (fun o x=>a98 N o x.1 x.2) v.Slots)->a7a i t p v acc (sC kr v.Raws) ⟨10,0,⟨#[]⟩,[],[],g.Ops.flatMap (c7a (fun o x=>a98 N o x.1 x.2) v.Slots),sC kr v.Raws⟩:=by
  intro d
  induction d with
  |zero=>
   intro i acc hd hi h;have e:i=g.Ops.length:=by omega
   subst e;rw[List.drop_length]at h;exact a65 _ _ _ _ _ _ _ ⟨g,hgt,ht,fun h=>by simp at h,fun _=>by rw[<-h];simp⟩
  |succ d ih=>
   intro i acc hd hi h;rcases Nat.lt_or_ge i g.Ops.length with hlt2|hge
   ·have dl:g.Ops.drop i=g.Ops[i]::g.Ops.drop (i+1):=List.drop_eq_getElem_cons hlt2;have ho:=List.getElem_mem hlt2;have oF:=(hp.va.pro g hg).2 _ ho;rw[dl,List.flatMap_cons]at h;refine a65 _ _ _ _ _ _ _ ⟨g,hgt,ht,fun _=>⟨g,hgt,ht,g.Ops[i],by simp,by omega,?_⟩,fun h=>by simp at h;omega⟩;refine f6j hp hN t v _ _ hv hNok i (by omega) g.Ops[i] (fun hk=>?_) oF.card (fun x hx he=>hb x hx _ ho he.symm) _ ((g.Ops.drop (i+1)).flatMap (c7a (fun o x=>a98 N o x.1 x.2) v.Slots)) hlen (fun acc' h'=>ih (i+1) acc' (by omega) (by omega) h') v.Slots.length 0 acc (by omega) (by omega) ?_
    ·obtain⟨t0,t1,_⟩:=oF.msg hk;have hlt:g.Ops[i].Target.toNat<p.Progs.length:=by omega
     exact⟨_,List.getElem?_eq_getElem hlt,t0⟩
    ·rw[List.drop_zero,List.append_assoc];exact h
   ·have e:i=g.Ops.length:=by omega
    subst e;rw[List.drop_length]at h;exact a65 _ _ _ _ _ _ _ ⟨g,hgt,ht,fun h=>by simp at h,fun _=>by rw[<-h];simp⟩
 exact go _ 0 [] (Nat.le_refl _) (by omega) (by simp)
end
theorem c4k{M:e09}{o:GOp}{v:A0}{lev:Int}(h:b3u M p o v lev=0)(hk:o.Kind=10):M o.Target v (lev+1)=0:=by
 rw[b3u,if_pos hk]at h;exact h
theorem d4e{g:B7}(hg:g∈p.Progs){o:GOp}(ho:o∈g.Ops):opV g o.Num=(o,true):=by
 have h:=b99 (hp.va.asc g hg);unfold opV;generalize g.Ops=l at h ho
 induction l with
 |nil=>cases ho
 |cons q l ih=>
  obtain⟨h1,h2⟩:=List.pairwise_cons.1 h;rcases List.mem_cons.1 ho with h3|h3
  ·subst h3;simp only[opL];rw[if_pos (by simp)]
  ·have:=h1 o h3;simp only[opL];rw[if_neg (by simp;omega)];exact ih h2 h3
theorem d3x:∀(n:Nat) (t:Int) (g:B7) (v:A0),p.Progs[t.toNat]? =some g->0<=t->(OkD v/\SizeOf.sizeOf v<=n/\NoX v/\∃lev,a9c p n t v lev=0)->b2c p t v (U4 p n t v)
 |0,t,g,v,_,_,h=>by have:=szV v;omega
 |n+1,t,g,v,hgt,ht,⟨hv,hn,hX,lev,hm⟩=>by
  obtain⟨x1,x2,_,_⟩:=hX.inv;have hg:g∈p.Progs:=List.mem_of_getElem? hgt;obtain⟨_,_,_,_,_,hs⟩:=hv.inv;have e:U4 p (n+1) t v=c25 (U4 p n) g v:=by simp only[U4,hgt]
  rw[e];simp only[a9c,hgt]at hm;have hf:=e8g hm;refine e7t hp (B:=fun t v=>OkD v/\SizeOf.sizeOf v<=n/\NoX v/\∃lev,a9c p n t v lev=0) (d3x n) (fun t v=>c3s hp n t v) t ht g hgt v hv x1 hf fun x hx o ho he=>?_
  have z1:=szS hx;obtain⟨_,_,_,q1,q2,_⟩:=(hs x hx).inv;have h1:=hf.field x hx;rw[<-he,d4e hp hg ho]at h1;obtain⟨f4,f5,f6⟩:=d1v h1;obtain⟨_,_,y2,y3⟩:=(x2 x hx).inv;refine⟨fun h4 h5 hk=>⟨hs x hx,by omega,x2 x hx,_,c4k hp (f6 h4 h5) hk⟩,fun h4 hk y hy=>⟨q1 y hy,by have:=szL hy;omega,y2 y hy,_,c4k hp ((f4 h4).2.2 y hy) hk⟩,fun h5 hk y hy=>⟨(q2 y hy).2,by have:=szP hy;omega,y3 y hy,_,c4k hp ((f5 h5).2.2.1 y hy).2 hk⟩⟩
end
mutual
def bA:AV->Nat
 |.v (.string s)=>s.size+1
 |.sl els _=>bLL els+1
 |.agg cells=>bL cells+1
 |_=>1
def bL:List AV->Nat
 |[]=>0
 |a::l=>bA a+bL l
def bLL:List (List AV)->Nat
 |[]=>0
 |a::l=>bL a+bLL l
end
theorem d1d:∀(a b:List AV),bL (a++b)=bL a+bL b
 |[],b=>by simp[bL]
 |x::a,b=>by simp[bL,d1d a b,Nat.add_assoc]
def wtV(v:A0):Nat:=bL (C1 v)
def a3a{α:Type}(f:α->Nat):List α->Nat
 |[]=>0
 |x::l=>f x+a3a f l
theorem f0l{α:Type}(f:α->List AV):∀l:List α,bLL (l.map f)=a3a (fun x=>bL (f x)) l
 |[]=>rfl
 |x::l=>by simp[bLL,a3a,f0l f l]
abbrev wtP(x:A0 × A0):Nat:=wtV x.1+wtV x.2
abbrev wtS(x:Int × A0):Nat:=1+wtV x.2
abbrev wtR(x:H1):Nat:=4+x.Data.size
theorem b6l(v:A0):wtV v=7+v.Text.size+a3a wtV v.List_+a3a wtP v.Pairs+a3a wtS v.Slots+a3a wtR v.Raws:=by
 have e1:(fun x:A0 × A0=>bL (A9 x))=wtP:=by funext x;simp[A9,d1d,wtV,wtP]
 have e2:(fun x:Int × A0=>bL (B3 x))=wtS:=by funext x;simp[B3,d1d,wtV,wtS,bL,bA]
 have e3:(fun x:H1=>bL (I3 x))=wtR:=by funext x;simp[I3,bL,bA,wtR];omega
 have e4:(fun x:A0=>bL (C1 x))=wtV:=rfl;rw[wtV,Y7];simp only[A5,bL,bA,f0l,e1,e2,e3,e4];omega
theorem d4k{α:Type}(f:α->Nat){l:List α}{x:α}(h:x∈l):f x<=a3a f l:=by
 induction l with
 |nil=>cases h
 |cons y l ih=>
  rcases List.mem_cons.1 h with h|h
  ·subst h;simp only[a3a];omega
  ·have:=ih h;simp only[a3a];omega
theorem c28{α:Type}(f:α->Nat)(k:Nat):∀{l:List α},(∀x∈l,k<=f x)->l.length*k<=a3a f l
 |[],_=>by simp[a3a]
 |x::l,h=>by
  have h1:=h x (by simp);have h2:=c28 f k (l:=l) fun y hy=>h y (by simp[hy])
  simp only[a3a,List.length_cons,Nat.add_mul];omega
theorem f63(v:A0):7<=wtV v:=by rw[b6l];omega
theorem g5z(v:A0):(∀x∈v.List_,wtV x<=wtV v)/\(∀x∈v.Pairs,wtV x.1+wtV x.2<=wtV v)/\(∀x∈v.Slots,wtV x.2<=wtV v):=by
 have e:=b6l v;refine⟨fun x hx=>?_,fun x hx=>?_,fun x hx=>?_⟩
 ·have:=d4k wtV hx;omega
 ·have:=d4k wtP hx;simp only[wtP]at this;omega
 ·have:=d4k wtS hx;simp only[wtS]at this;omega
theorem f2o(v:A0):v.Text.size+v.List_.length+v.Pairs.length+v.Slots.length+v.Raws.length<=wtV v:=by
 have e:=b6l v;have h1:=c28 wtV 1 (l:=v.List_) fun x _=>by have:=f63 x;omega
 have h2:=c28 wtP 1 (l:=v.Pairs) fun x _=>by have:=f63 x.1;simp only[wtP];omega
 have h3:=c28 wtS 1 (l:=v.Slots) fun x _=>by simp only[wtS];omega
 have h4:=c28 wtR 1 (l:=v.Raws) fun x _=>by simp only[wtR];omega
 omega
def c04(v:A0):List A0:=v.List_++(v.Pairs.flatMap fun x=>[x.1,x.2])++v.Slots.map fun x=>x.2
theorem f38(v:A0)(hv:OkD v)(hw:wtV v<=274877906944):c14 v (c04 v):=by
 have hl:=f2o v;obtain⟨_,_,⟨la,pa,sa,ra⟩,_,_,_⟩:=hv.inv;have w1:=D8 hv.w.1;refine c8k _ _ ⟨a6y _ (by omega),?_⟩
 have j6:∀d i (acc:List A0),v.Slots.length - i<=d->i<=v.Slots.length->acc.length+(v.Slots.length - i)<=549755813888->a9e i v acc (acc++(v.Slots.drop i).map fun x=>x.2):=by
  intro d
  induction d with
  |zero=>
   intro i acc hd hi ha;have e:i=v.Slots.length:=by omega
   subst e;exact a6g _ _ _ _ ⟨fun h=>by simp at h,fun _=>by simp⟩
  |succ d ih=>
   intro i acc hd hi ha;rcases Nat.lt_or_ge i v.Slots.length with hlt|hge
   ·have e1:wI ((i:Int)+1)=((i+1:Nat):Int):=by rw[wI,C7 (by omega)];omega
    have dl:v.Slots.drop i=v.Slots[i]::v.Slots.drop (i+1):=List.drop_eq_getElem_cons hlt;refine a6g _ _ _ _ ⟨fun _=>⟨v.Slots[i],by simp,by omega,by simp;omega,?_⟩,fun h=>by simp at h;omega⟩;rw[e1,dl];have:=ih (i+1) (acc++[v.Slots[i].2]) (by omega) (by omega) (by simp;omega);rw[List.append_assoc]at this;exact this
   ·have e:i=v.Slots.length:=by omega
    subst e;exact a6g _ _ _ _ ⟨fun h=>by simp at h,fun _=>by simp⟩
 have j4:∀d i (acc:List A0),v.Pairs.length - i<=d->i<=v.Pairs.length->acc.length+2*(v.Pairs.length - i)+v.Slots.length<=549755813888->a9g i v acc (acc++((v.Pairs.drop i).flatMap fun x=>[x.1,x.2])++v.Slots.map fun x=>x.2):=by
  intro d
  induction d with
  |zero=>
   intro i acc hd hi ha;have e:i=v.Pairs.length:=by omega
   subst e;refine a56 _ _ _ _ ⟨fun h=>by simp at h,fun _=>?_⟩;have:=j6 v.Slots.length 0 acc (by omega) (by omega) (by omega);simpa using this
  |succ d ih=>
   intro i acc hd hi ha;rcases Nat.lt_or_ge i v.Pairs.length with hlt|hge
   ·have e1:wI ((i:Int)+1)=((i+1:Nat):Int):=by rw[wI,C7 (by omega)];omega
    have dl:v.Pairs.drop i=v.Pairs[i]::v.Pairs.drop (i+1):=List.drop_eq_getElem_cons hlt;refine a56 _ _ _ _ ⟨fun _=>⟨v.Pairs[i],by simp,by omega,by simp;omega,?_⟩,fun h=>by simp at h;omega⟩;rw[e1,dl];have:=ih (i+1) (acc++[v.Pairs[i].1,v.Pairs[i].2]) (by omega) (by omega) (by simp;omega);rw[List.flatMap_cons,<-List.append_assoc acc];exact this
   ·have e:i=v.Pairs.length:=by omega
    subst e;refine a56 _ _ _ _ ⟨fun h=>by simp at h,fun _=>?_⟩;have:=j6 v.Slots.length 0 acc (by omega) (by omega) (by omega);simpa using this
 have h:=j4 v.Pairs.length 0 v.List_ (by omega) (by omega) (by omega);simpa[c04]using h
theorem f06(f:A0->Int)(v:A0):((c04 v).map f).sum=(v.List_.map f).sum+(v.Pairs.map fun x=>f x.1+f x.2).sum+(v.Slots.map fun x=>f x.2).sum:=by
 have key:∀l:List (A0 × A0),((l.flatMap fun x=>[x.1,x.2]).map f).sum=(l.map fun x=>f x.1+f x.2).sum:=by
  intro l
  induction l with
  |nil=>rfl
  |cons x l ih=>simp only[List.flatMap_cons,List.map_append,List.sum_append,List.map_cons,List.map_nil,List.sum_cons,List.sum_nil,ih];omega
 simp only[c04,List.map_append,List.sum_append,key,List.map_map];rfl
theorem c22:∀(n:Nat) (v:A0),OkD v->SizeOf.sizeOf v<=n->wtV v<=274877906944->b38 v (wI (b07 n v))
 |0,v,_,h,_=>by have:=szV v;omega
 |n+1,v,hv,hn,hw=>by
  obtain⟨_,_,_,hl,hp,hs⟩:=hv.inv;obtain⟨m1,m2,m3⟩:=g5z v;have hlen:=f2o v;refine c70 _ _ ⟨_,f38 v hv hw,?_⟩
  have e:b07 (n+1) v=1+(v.Raws.length:Int)+((c04 v).map (b07 n)).sum:=by
   rw[f06];simp only[b07];omega
  have il:(c04 v).length<=3298534883328:=by
   have:(v.Pairs.flatMap fun x=>[x.1,x.2]).length=2*v.Pairs.length:=by
    generalize v.Pairs=l
    induction l with
    |nil=>rfl
    |cons x l ih=>simp only[List.flatMap_cons,List.length_append,ih,List.length_cons,List.length_nil];omega
   simp only[c04,List.length_append,List.length_map,this];omega
  rw[e];refine d5z (J:=fun i a=>a9k i (c04 v) a _) (C:=fun(x:A0) b=>b38 x b) (E:=fun a=>wI (1+(v.Raws.length:Int)+((c04 v).map (b07 n)).sum)=a) (b07 n) (c04 v) (fun i a hw=>c1w i _ a _ hw) (by omega) (fun x hx=>?_) _ rfl;rcases List.mem_append.1 hx with hx|hx
  ·rcases List.mem_append.1 hx with hx|hx
   ·exact c22 n x (hl x hx) (by have:=szL hx;omega) (by have:=m1 x hx;omega)
   ·obtain⟨y,hy,hz⟩:=List.mem_flatMap.1 hx;have:=m2 y hy;have z1:=szP hy;rcases List.mem_cons.1 hz with h|h
    ·subst h;exact c22 n _ (hp y hy).1 (by omega) (by omega)
    ·have:=List.mem_singleton.1 h;subst this;exact c22 n _ (hp y hy).2 (by omega) (by omega)
  ·obtain⟨y,hy,rfl⟩:=List.mem_map.1 hx;exact c22 n _ (hs y hy) (by have:=szS hy;omega) (by have:=m3 y hy;omega)
noncomputable def b8n(p:A6)(n:Nat)(t:Int)(v:A0):Int:=orE (a9c p n t v 1) (if 4096<wI (b07 n v) then 3 else 0)
section
variable {p:A6}(hp:OkX p)
 include hp
theorem f4c(n:Nat)(t:Int)(g:B7)(v:A0)(hgt:p.Progs[t.toNat]? =some g)(ht:0<=t)(hv:OkD v)(hn:SizeOf.sizeOf v<=n)(hw:wtV v<=274877906944):d2a p t v (b8n p n t v):=by
 have hlt:t.toNat<p.Progs.length:=(List.getElem?_eq_some_iff.1 hgt).1;have off:((decide (t<0))||(decide ((p.Progs.length:Int)<=t)))=false:=by simp;omega
 refine d28 _ _ _ _ ⟨fun h=>(by rw[off]at h;cases h),fun _=>⟨g,hgt,ht,_,e0c hp n t g v 1 hgt ht hv hn (by decide) (by decide),fun h=>?_,fun h=>⟨_,c22 n v hv hn hw,fun h2=>?_,fun h2=>?_⟩⟩⟩
 ·rw[b8n,orE,if_pos (by simpa using h)]
 ·rw[b8n,orE,if_neg (by simpa using h),if_pos (by simpa using h2)]
 ·rw[b8n,orE,if_neg (by simpa using h),if_neg (by simpa using h2)]
theorem e9k(n:Nat)(t:Int)(g:B7)(v:A0)(hgt:p.Progs[t.toNat]? =some g)(ht:0<=t)(hv:OkD v)(hn:SizeOf.sizeOf v<=n):c54 p t v (b8n p n t v):=by
 have hlt:t.toNat<p.Progs.length:=(List.getElem?_eq_some_iff.1 hgt).1;have off:((decide (t<0))||(decide ((p.Progs.length:Int)<=t)))=false:=by simp;omega
 refine d0v _ _ _ _ ⟨fun h=>(by rw[off]at h;cases h),fun _=>⟨_,e7b hp n t g v 1 hgt ht hv hn (by decide) (by decide),fun h=>?_,fun h=>⟨_,b9p n v hv hn,fun h2=>?_,fun h2=>?_⟩⟩⟩
 ·rw[b8n,orE,if_pos (by simpa using h)]
 ·rw[b8n,orE,if_neg (by simpa using h),if_pos (by simpa using h2)]
 ·rw[b8n,orE,if_neg (by simpa using h),if_neg (by simpa using h2)]
end
end Go.Proofs.YtidmmngcijapcaaGreat.Lift
