/- Part 6 of the texts that prove RowCanonicalEnd. -/
import Derived.Test.YtidmmngcijapcaaGreatRowCanonicalEndP3
import Derived.Test.YtidmmngcijapcaaGreatRowCanonicalEndP2
import Derived.Test.YtidmmngcijapcaaGreatRowCanonicalEndP4
import Derived.Test.YtidmmngcijapcaaGreatRowCanonicalEndP1
import Derived.Lib.DecodeN
namespace Go.Proofs.YtidmmngcijapcaaGreat.Lift
open Go.RowKit
set_option linter.unusedVariables false
set_option linter.unusedSimpArgs false
set_option linter.unnecessarySimpa false
set_option linter.unusedSectionVars false
set_option maxRecDepth 100000
section
attribute [local irreducible] Ok run put d2l br jn pos dr0 dr1 So
attribute [-simp] List.map_take List.map_drop List.map_append List.map_set List.map_replicate List.map_cons List.map_map
attribute [local simp] plain plainL a7y a4l a0e low lowL lowLL L6 G7 G9 G2 J4 G6 G5 G8 L3 S8 a0s T0 a1a J5 S9 F5 H5 P7 H2 A8 E7 N7 D7 O0 E2 P4 K1 Q9 K0 T4 N1 V5 P9 D2 S6 J3 H0 C3 L8 K8 N2 G4 F4 W7 S0 X6 U8 G3 P3 a0b Y4 a45 a19 c4r d8z c7y c7o a8r b05 c7t c7d b76 c1o e5z eFn b70 b4a b29 b4g b7h b3s b4d b2s b6v c1s c2g b2t b7i a84 b4e b23 b3g b2y b31 b3h b3j a2p a5r a5f Y2 a5q a5k a1k a5g a85 c1y b6w b6z b3k b4c b36 b7g b4f b35 b2v b62 c16 c1q b3w b7f a80 b3p b3t b3c b24 b3y b25 b3e a3k a5l a6h Y3 a58 a51 a1j a5t a8u c15 b2p b74 a83 b3i b2w b3q b22 b27 b28 b2x a3j a5m a5o X9 a5i a5y a1l a5p a82 c93
theorem d7e(r:c0d):plain (h4t r)=true:=(c4r r)
theorem c21(v:A0)(r:c0d)(hw:∃y1,b89 v.Kind y1/\((y1=true->r=(c0d.a_order_one v))/\(y1=false->((v.Kind==11)=true->r=(c0d.a_order_list v.List_))/\((v.Kind==11)=false->((v.Kind==12)=true->r=(c0d.a_order_pairs v.Pairs))/\((v.Kind==12)=false->((v.Kind==10)=true->r=(c0d.a_order_parts (⟨v.Slots,v.Raws⟩:c1b)))/\((v.Kind==10)=false->r=c0d.nil)))))):a9i v r:=
 fP (KC 12 hw g89 fun _ hw=>KW 3 hw (fun _ hw=>KR 10 hw d7e) fun _ hw=>KW 8 hw (fun _ hw=>KR 11 hw d7e) fun _ hw=>KW 8 hw (fun _ hw=>KR 11 hw d7e) fun _ hw=>KW 8 hw (fun _ hw=>KR 14 hw d7e) fun _ hw=>KR 9 hw d7e)
theorem d3g(r:Int):plain (h5d r)=true:=rfl
theorem d0b(a:A0)(b:A0)(r:Int)(hw:((a.Kind !=b.Kind)=true->∃y1,S4 a.Kind b.Kind y1/\(r=y1))/\((a.Kind !=b.Kind)=false->∃y2,b89 a.Kind y2/\(((!y2)=true->r=0)/\((!y2)=false->∃y3,b9y a.Kind y3/\((y3=true->∃y4,a2h a.Text b.Text y4/\(r=y4))/\(y3=false->(((a.Kind==2)||(a.Kind==3))=true->∃y5,S4 (wI a.Bits) (wI b.Bits) y5/\(r=y5))/\(((a.Kind==2)||(a.Kind==3))=false->((a.Kind==6)=true->∃y6,b4r a.Bits y6/\(∃y7,b4r b.Bits y7/\(∃y8,a0f y6 y7 y8/\(r=y8))))/\((a.Kind==6)=false->∃y9,a0f a.Bits b.Bits y9/\(r=y9))))))))):c5r a b r:=
 fP (KW 19 hw (fun _ hw=>KC 6 hw d9c fun _ hw=>KR 6 hw d3g) fun _ hw=>KC 4 hw g89 fun _ hw=>KW 4 hw (fun _ hw=>KR 8 hw d3g) fun _ hw=>KC 4 hw g59 fun _ hw=>KW 3 hw (fun _ hw=>KC 6 hw g4k fun _ hw=>KR 6 hw d3g) fun _ hw=>KT 6 4<|KW 3 hw (fun _ hw=>KC 8 hw d9c fun _ hw=>KR 6 hw d3g) fun _ hw=>KW 8 hw (fun _ hw=>KD 1 [0,1]<|KC 2 hw g7u fun _ hw=>KC 2 hw g7u fun _ hw=>KC 0 hw g1b fun _ hw=>KR 7 hw d3g) fun _ hw=>KC 9 hw g1b fun _ hw=>KR 4 hw d3g)
theorem e3w(r:Int):plain (g98 r)=true:=rfl
def D4(ij1:Int)(s1_:(List A0))(s2_:(List A0))(cmp:GFn)(r:Int):Prop:=JP Tryz.prog 199 (g98 r) 3 [(13,aI ij1),(12,aI (s1_.length:Int)),(11,.sl (List.map C1 s1_) .no),(0,.sl (List.map C1 s1_) .no),(1,.sl (List.map C1 s2_) .no),(2,.clo (.func cmp.fn) cmp.fi cmp.cap)]
theorem U7{ij1:Int}{s1_:(List A0)}{s2_:(List A0)}{cmp:GFn}:a7y [] 0 [(13,aI ij1),(12,aI (s1_.length:Int)),(11,.sl (List.map C1 s1_) .no),(0,.sl (List.map C1 s1_) .no),(1,.sl (List.map C1 s2_) .no),(2,.clo (.func cmp.fn) cmp.fi cmp.cap)]=true/\a4l [] 0 []=true:=⟨by first|rfl|simp,by first|rfl|simp⟩
theorem T9(ij1:Int)(s1_:(List A0))(s2_:(List A0))(cmp:GFn)(r:Int)(hw:((decide (ij1<(s1_.length:Int)))=true->∃y4,s1_[ij1.toNat]? =some y4/\0<=ij1/\(((decide ((s2_.length:Int)<=ij1))=true->r=1)/\((decide ((s2_.length:Int)<=ij1))=false->∃y5,s2_[ij1.toNat]? =some y5/\0<=ij1/\(∃y6,a6z Tryz.prog [] (.clo (.func cmp.fn) cmp.fi cmp.cap) [.agg (A5 y4),.agg (A5 y5)] (aI y6)/\(((y6 !=0)=true->r=y6)/\((y6 !=0)=false->D4 (wI (ij1+1)) s1_ s2_ cmp r))))))/\((decide (ij1<(s1_.length:Int)))=false->((decide ((s1_.length:Int)<(s2_.length:Int)))=true->r=(-1))/\((decide ((s1_.length:Int)<(s2_.length:Int)))=false->r=0))):D4 ij1 s1_ s2_ cmp r:=
 KW 7 hw (fun _ hw=>KI 7 F7 hw fun _ hw=>KL 11 F7 s2_<|KW 3 hw (fun _ hw=>KR 12 hw e3w) fun _ hw=>KI 6 F7 hw fun _ hw=>KF 10 hw fun _ hw=>KW 9 hw (fun _ hw=>KR 12 hw e3w) fun _ hw=>KJl 8 [] hw U7) fun _ hw=>KL 9 F7 s1_<|KL 1 F7 s2_<|KW 3 hw (fun _ hw=>KR 7 hw e3w) fun _ hw=>KR 8 hw e3w
theorem W1(s1_:(List A0))(s2_:(List A0))(cmp:GFn)(r:Int)(hw:D4 0 s1_ s2_ cmp r):K5 s1_ s2_ cmp r:=
 fP (KL 9 F7 s1_<|KJ 5 [] hw)
theorem e16(r:Int):plain (h0j r)=true:=rfl
def D3(ij1:Int)(s1_:(List (A0 × A0)))(s2_:(List (A0 × A0)))(cmp:GFn)(r:Int):Prop:=JP Tryz.prog 200 (h0j r) 3 [(13,aI ij1),(12,aI (s1_.length:Int)),(11,.sl (List.map A9 s1_) .no),(0,.sl (List.map A9 s1_) .no),(1,.sl (List.map A9 s2_) .no),(2,.clo (.func cmp.fn) cmp.fi cmp.cap)]
theorem V1{ij1:Int}{s1_:(List (A0 × A0))}{s2_:(List (A0 × A0))}{cmp:GFn}:a7y [] 0 [(13,aI ij1),(12,aI (s1_.length:Int)),(11,.sl (List.map A9 s1_) .no),(0,.sl (List.map A9 s1_) .no),(1,.sl (List.map A9 s2_) .no),(2,.clo (.func cmp.fn) cmp.fi cmp.cap)]=true/\a4l [] 0 []=true:=⟨by first|rfl|simp,by first|rfl|simp⟩
theorem T7(ij1:Int)(s1_:(List (A0 × A0)))(s2_:(List (A0 × A0)))(cmp:GFn)(r:Int)(hw:((decide (ij1<(s1_.length:Int)))=true->∃y4,s1_[ij1.toNat]? =some y4/\0<=ij1/\(((decide ((s2_.length:Int)<=ij1))=true->r=1)/\((decide ((s2_.length:Int)<=ij1))=false->∃y5,s2_[ij1.toNat]? =some y5/\0<=ij1/\(∃y6,a6z Tryz.prog [] (.clo (.func cmp.fn) cmp.fi cmp.cap) [.agg (V3 y4),.agg (V3 y5)] (aI y6)/\(((y6 !=0)=true->r=y6)/\((y6 !=0)=false->D3 (wI (ij1+1)) s1_ s2_ cmp r))))))/\((decide (ij1<(s1_.length:Int)))=false->((decide ((s1_.length:Int)<(s2_.length:Int)))=true->r=(-1))/\((decide ((s1_.length:Int)<(s2_.length:Int)))=false->r=0))):D3 ij1 s1_ s2_ cmp r:=
 KW 7 hw (fun _ hw=>KI 7 B9 hw fun _ hw=>KL 11 B9 s2_<|KW 3 hw (fun _ hw=>KR 12 hw e16) fun _ hw=>KI 6 B9 hw fun _ hw=>KF 10 hw fun _ hw=>KW 9 hw (fun _ hw=>KR 12 hw e16) fun _ hw=>KJl 8 [] hw V1) fun _ hw=>KL 9 B9 s1_<|KL 1 B9 s2_<|KW 3 hw (fun _ hw=>KR 7 hw e16) fun _ hw=>KR 8 hw e16
theorem V8(s1_:(List (A0 × A0)))(s2_:(List (A0 × A0)))(cmp:GFn)(r:Int)(hw:D3 0 s1_ s2_ cmp r):K6 s1_ s2_ cmp r:=
 fP (KL 9 B9 s1_<|KJ 5 [] hw)
theorem g41(r:Int):plain (h6c r)=true:=rfl
theorem c3u(a:(A0 × A0))(b:(A0 × A0))(r:Int)(hw:∃y1,a96 a.1 b.1 y1/\(∃y2,a96 a.2 b.2 y2/\(∃y3,b2k ([y1,y2]:(List Int)) y3/\(r=y3)))):d5n a b r:=
 fP (KD 8 [0,1]<|KC 4 hw e5c fun _ hw=>KC 4 hw e5c fun _ hw=>KC 1 hw f6a fun _ hw=>KR 5 hw g41)
theorem f7f(r:Int):plain (h3y r)=true:=rfl
def b13(ij1:Int)(vals:(List Int))(r:Int):Prop:=JP Tryz.prog 202 (h3y r) 4 [(8,aI ij1),(7,aI (vals.length:Int)),(6,.sl (List.map a8r vals) .no),(3,aI 0)]
theorem a7s(ij1:Int)(vals:(List Int))(r:Int)(hw:((decide (ij1<(vals.length:Int)))=true->∃y2,vals[ij1.toNat]? =some y2/\0<=ij1/\(((y2 !=0)=true->r=y2)/\((y2 !=0)=false->b13 (wI (ij1+1)) vals r)))/\((decide (ij1<(vals.length:Int)))=false->r=0)):b13 ij1 vals r:=
 KW 7 hw (fun _ hw=>KI 6 f72 hw fun _ hw=>KW 11 hw (fun _ hw=>KR 12 hw f7f) fun _ hw=>KJ 8 [] hw) fun _ hw=>KR 12 hw f7f
theorem d2k(vals:(List Int))(r:Int)(hw:b13 0 vals r):b2k vals r:=
 fP (KL 14 f72 vals<|KJ 5 [] hw)
theorem e2q(r:Int):plain (h39 r)=true:=rfl
def F2(ij1:Int)(s1_:(List (Int × A0)))(s2_:(List (Int × A0)))(cmp:GFn)(r:Int):Prop:=JP Tryz.prog 203 (h39 r) 3 [(13,aI ij1),(12,aI (s1_.length:Int)),(11,.sl (List.map B3 s1_) .no),(0,.sl (List.map B3 s1_) .no),(1,.sl (List.map B3 s2_) .no),(2,.clo (.func cmp.fn) cmp.fi cmp.cap)]
theorem a0m{ij1:Int}{s1_:(List (Int × A0))}{s2_:(List (Int × A0))}{cmp:GFn}:a7y [] 0 [(13,aI ij1),(12,aI (s1_.length:Int)),(11,.sl (List.map B3 s1_) .no),(0,.sl (List.map B3 s1_) .no),(1,.sl (List.map B3 s2_) .no),(2,.clo (.func cmp.fn) cmp.fi cmp.cap)]=true/\a4l [] 0 []=true:=⟨by first|rfl|simp,by first|rfl|simp⟩
theorem a0d(ij1:Int)(s1_:(List (Int × A0)))(s2_:(List (Int × A0)))(cmp:GFn)(r:Int)(hw:((decide (ij1<(s1_.length:Int)))=true->∃y4,s1_[ij1.toNat]? =some y4/\0<=ij1/\(((decide ((s2_.length:Int)<=ij1))=true->r=1)/\((decide ((s2_.length:Int)<=ij1))=false->∃y5,s2_[ij1.toNat]? =some y5/\0<=ij1/\(∃y6,a6z Tryz.prog [] (.clo (.func cmp.fn) cmp.fi cmp.cap) [.agg (W9 y4),.agg (W9 y5)] (aI y6)/\(((y6 !=0)=true->r=y6)/\((y6 !=0)=false->F2 (wI (ij1+1)) s1_ s2_ cmp r))))))/\((decide (ij1<(s1_.length:Int)))=false->((decide ((s1_.length:Int)<(s2_.length:Int)))=true->r=(-1))/\((decide ((s1_.length:Int)<(s2_.length:Int)))=false->r=0))):F2 ij1 s1_ s2_ cmp r:=
 KW 7 hw (fun _ hw=>KI 7 C0 hw fun _ hw=>KL 11 C0 s2_<|KW 3 hw (fun _ hw=>KR 12 hw e2q) fun _ hw=>KI 6 C0 hw fun _ hw=>KF 10 hw fun _ hw=>KW 9 hw (fun _ hw=>KR 12 hw e2q) fun _ hw=>KJl 8 [] hw a0m) fun _ hw=>KL 9 C0 s1_<|KL 1 C0 s2_<|KW 3 hw (fun _ hw=>KR 7 hw e2q) fun _ hw=>KR 8 hw e2q
theorem a0z(s1_:(List (Int × A0)))(s2_:(List (Int × A0)))(cmp:GFn)(r:Int)(hw:F2 0 s1_ s2_ cmp r):V2 s1_ s2_ cmp r:=
 fP (KL 9 C0 s1_<|KJ 5 [] hw)
theorem g5w(r:Int):plain (h62 r)=true:=rfl
theorem c3h(a:(Int × A0))(b:(Int × A0))(r:Int)(hw:∃y1,S4 a.1 b.1 y1/\(∃y2,a96 a.2 b.2 y2/\(∃y3,b2k ([y1,y2]:(List Int)) y3/\(r=y3)))):d5v a b r:=
 fP (KD 8 [0,1]<|KC 4 hw d9c fun _ hw=>KC 4 hw e5c fun _ hw=>KC 1 hw f6a fun _ hw=>KR 5 hw g5w)
theorem e1m(r:Int):plain (h2b r)=true:=rfl
def G1(ij1:Int)(s1_:(List H1))(s2_:(List H1))(cmp:GFn)(r:Int):Prop:=JP Tryz.prog 205 (h2b r) 3 [(13,aI ij1),(12,aI (s1_.length:Int)),(11,.sl (List.map I3 s1_) .no),(0,.sl (List.map I3 s1_) .no),(1,.sl (List.map I3 s2_) .no),(2,.clo (.func cmp.fn) cmp.fi cmp.cap)]
theorem a1n{ij1:Int}{s1_:(List H1)}{s2_:(List H1)}{cmp:GFn}:a7y [] 0 [(13,aI ij1),(12,aI (s1_.length:Int)),(11,.sl (List.map I3 s1_) .no),(0,.sl (List.map I3 s1_) .no),(1,.sl (List.map I3 s2_) .no),(2,.clo (.func cmp.fn) cmp.fi cmp.cap)]=true/\a4l [] 0 []=true:=⟨by first|rfl|simp,by first|rfl|simp⟩
theorem a08(ij1:Int)(s1_:(List H1))(s2_:(List H1))(cmp:GFn)(r:Int)(hw:((decide (ij1<(s1_.length:Int)))=true->∃y4,s1_[ij1.toNat]? =some y4/\0<=ij1/\(((decide ((s2_.length:Int)<=ij1))=true->r=1)/\((decide ((s2_.length:Int)<=ij1))=false->∃y5,s2_[ij1.toNat]? =some y5/\0<=ij1/\(∃y6,a6z Tryz.prog [] (.clo (.func cmp.fn) cmp.fi cmp.cap) [.agg (I3 y4),.agg (I3 y5)] (aI y6)/\(((y6 !=0)=true->r=y6)/\((y6 !=0)=false->G1 (wI (ij1+1)) s1_ s2_ cmp r))))))/\((decide (ij1<(s1_.length:Int)))=false->((decide ((s1_.length:Int)<(s2_.length:Int)))=true->r=(-1))/\((decide ((s1_.length:Int)<(s2_.length:Int)))=false->r=0))):G1 ij1 s1_ s2_ cmp r:=
 KW 7 hw (fun _ hw=>KI 7 a6w hw fun _ hw=>KL 11 a6w s2_<|KW 3 hw (fun _ hw=>KR 12 hw e1m) fun _ hw=>KI 6 a6w hw fun _ hw=>KF 10 hw fun _ hw=>KW 9 hw (fun _ hw=>KR 12 hw e1m) fun _ hw=>KJl 8 [] hw a1n) fun _ hw=>KL 9 a6w s1_<|KL 1 a6w s2_<|KW 3 hw (fun _ hw=>KR 7 hw e1m) fun _ hw=>KR 8 hw e1m
theorem a2d(s1_:(List H1))(s2_:(List H1))(cmp:GFn)(r:Int)(hw:G1 0 s1_ s2_ cmp r):X2 s1_ s2_ cmp r:=
 fP (KL 9 a6w s1_<|KJ 5 [] hw)
theorem g69(r:Int):plain (h6s r)=true:=rfl
theorem c5c(a:H1)(b:H1)(r:Int)(hw:∃y1,S4 a.Num b.Num y1/\(∃y2,S4 a.Wire b.Wire y2/\(∃y3,a0f a.Bits b.Bits y3/\(∃y4,a2h a.Data b.Data y4/\(∃y5,b2k ([y1,y2,y3,y4]:(List Int)) y5/\(r=y5)))))):c7u a b r:=
 fP (KD 8 [0,1]<|KC 4 hw d9c fun _ hw=>KC 4 hw d9c fun _ hw=>KC 4 hw g1b fun _ hw=>KC 4 hw g4k fun _ hw=>KC 1 hw f6a fun _ hw=>KR 5 hw g69)
theorem d1q(r:Int):plain (h52 r)=true:=rfl
theorem c6t(p:A6)(kind:Int)(target:Int)(v:A0)(r:Int)(hw:∃R1:Bool->Prop,(∀bz1:Bool,R1 bz1->((bz1=true->r=12)/\(bz1=false->((decide (4096<(v.Text.size:Int)))=true->r=3)/\((decide (4096<(v.Text.size:Int)))=false->∃R2:Bool->Prop,(∀bz2:Bool,R2 bz2->((bz2=true->r=7)/\(bz2=false->∃y3,c0g kind v y3/\(((!y3)=true->r=12)/\((!y3)=false->((kind==9)=true->∃y4,b1s p target v.Bits y4/\(((!y4)=true->r=16)/\((!y4)=false->r=0)))/\((kind==9)=false->r=0))))))/\(((kind==7)=true->∃y2,b2o v.Text y2/\(R2 (!y2)))/\((kind==7)=false->R2 false))))))/\(((v.Kind !=kind)=true->R1 true)/\((v.Kind !=kind)=false->∃y1,a8y v y1/\(R1 y1)))):b4v p kind target v r:=
 fP (KQ 16 3 kB hw (fun _ hw=>KW 3 hw (fun _ hw=>KR 8 hw d1q) fun _ hw=>KW 9 hw (fun _ hw=>KR 8 hw d1q) fun _ hw=>KQ 5 5 kB hw (fun _ hw=>KW 3 hw (fun _ hw=>KR 8 hw d1q) fun _ hw=>KC 4 hw h41 fun _ hw=>KW 4 hw (fun _ hw=>KR 8 hw d1q) fun _ hw=>KW 5 hw (fun _ hw=>KC 4 hw h53 fun _ hw=>KW 5 hw (fun _ hw=>KR 8 hw d1q) fun _ hw=>KR 9 hw d1q) fun _ hw=>KR 20 hw d1q) (fun _ key _ hw=>KC 2 hw h08 fun _ hw=>KE 2 key hw) fun _ key _ hw=>KE 5 key hw) (fun _ key _ hw=>KE 3 key hw) fun _ key _ hw=>KC 1 hw f3h fun _ hw=>KE 1 key hw)
theorem g4r(r:Bool):plain (h6e r)=true:=rfl
theorem c8g(b:Int)(r:Bool)(hw:r=((decide (97<=b))&&(decide (b<=122)))):b72 b r:=
 fP (KT 10 3<|KR 4 hw g4r)
theorem g53(r:Bool):plain (h54 r)=true:=rfl
theorem c38(b:Int)(r:Bool)(hw:r=((decide (65<=b))&&(decide (b<=90)))):b1t b r:=
 fP (KT 10 3<|KR 4 hw g53)
theorem g4y(r:Bool):plain (h6d r)=true:=rfl
theorem b8i(s:ByteArray)(prefix_:ByteArray)(r:Bool)(hw:∃y1,a1c s prefix_ y1/\(r=y1)):a8w s prefix_ r:=
 fP (KC 9 hw h3k fun _ hw=>KR 4 hw g4y)
theorem f8o(r:Bool):plain (h1m r)=true:=rfl
def b16(ij1:Int)(s:ByteArray)(i:Int)(n:Int)(r:Bool):Prop:=JP Tryz.prog 211 (h1m r) 3 [(7,aI ij1),(0,aS s),(1,aI i),(2,aI n)]
theorem b5h(ij1:Int)(s:ByteArray)(i:Int)(n:Int)(r:Bool)(hw:((decide (ij1<n))=true->∃y2,a1i s (wI (i+ij1)) 128 191 y2/\(((!y2)=true->r=false)/\((!y2)=false->b16 (wI (ij1+1)) s i n r)))/\((decide (ij1<n))=false->r=true)):b16 ij1 s i n r:=
 KW 9 hw (fun _ hw=>KC 10 hw f1u fun _ hw=>KW 3 hw (fun _ hw=>KR 11 hw f8o) fun _ hw=>KJ 9 [] hw) fun _ hw=>KR 11 hw f8o
theorem d17(s:ByteArray)(i:Int)(n:Int)(r:Bool)(hw:b16 0 s i n r):a3w s i n r:=
 fP (KJ 13 [] hw)
theorem f82(r:Bool):plain (h4r r)=true:=rfl
theorem c3a(s:ByteArray)(i:Int)(lo:Int)(hi:Int)(r:Bool)(hw:∃R1:Bool->Prop,(∀bz1:Bool,R1 bz1->((bz1=true->(0<=i/\i<(s.size:Int))/\(r=(decide ((E9 s i.toNat)<=hi))))/\(bz1=false->r=false)))/\(((decide (i<(s.size:Int)))=true->(0<=i/\i<(s.size:Int))/\(R1 (decide (lo<=(E9 s i.toNat)))))/\((decide (i<(s.size:Int)))=false->R1 false))):a1i s i lo hi r:=
 fP (KQ 12 6 kB hw (fun _ hw=>KW 1 hw (fun _ hw=>KIS 2 hw fun hw=>KR 7 hw f82) fun _ hw=>KR 10 hw f82) (fun _ key _ hw=>KIS 2 hw fun hw=>KE 3 key hw) fun _ key _ hw=>KE 6 key hw)
theorem g5t(r:Bool):plain (h6q r)=true:=rfl
theorem c56(kind:Int)(r:Bool)(hw:r=((kind==2)||(kind==3))):c7l kind r:=
 fP (KT 10 3<|KR 4 hw g5t)
theorem f7c(r:Int):plain (h6g r)=true:=rfl
theorem b6s(x:C8)(o_:GOp)(v:A0)(level:Int)(r:Int)(hw:((o_.Kind==10)=true->∃y1,x.p.Progs[o_.Target.toNat]? =some y1/\0<=o_.Target/\(∃y2,Q4 x y1 v (wI (level+1)) y2/\(r=y2)))/\((o_.Kind==10)=false->∃y3,a3y x o_.Kind o_.Target v y3/\(r=y3))):a0h x o_ v level r:=
 fP (KW 16 hw (fun _ hw=>KD 1 [0,1,2]<|KI 6 K7 hw fun _ hw=>KC 4 hw g4t fun _ hw=>KR 6 hw f7c) fun _ hw=>KC 10 hw g8l fun _ hw=>KR 4 hw f7c)
theorem e27(r:Int):plain (h3o r)=true:=rfl
def W6(ij1:Int)(l:(List (A0 × A0)))(level:Int)(x:C8)(o_:GOp)(r:Int):Prop:=J Tryz.prog 215 (.ret (h3o r)) 3 [(15,aI ij1),(14,aI (l.length:Int)),(13,.sl (List.map A9 l) .no),(5,.ptr 1 0),(4,.ptr 0 0),(2,.sl (List.map A9 l) .no),(3,aI level)] ⟨[some (B6 x.p),some (Q8 o_)],[],[]⟩
theorem b11{ij1:Int}{l:(List (A0 × A0))}{level:Int}{x:C8}{o_:GOp}:a7y [true,true] 0 [(15,aI ij1),(14,aI (l.length:Int)),(13,.sl (List.map A9 l) .no),(5,.ptr 1 0),(4,.ptr 0 0),(2,.sl (List.map A9 l) .no),(3,aI level)]=true/\a4l [true,true] 0 [some (B6 x.p),some (Q8 o_)]=true:=⟨by first|rfl|simp,by first|rfl|simp⟩
theorem a12(ij1:Int)(l:(List (A0 × A0)))(level:Int)(x:C8)(o_:GOp)(r:Int)(hw:((decide (ij1<(l.length:Int)))=true->∃y5,l[ij1.toNat]? =some y5/\0<=ij1/\(∃y6,a3y x o_.Key (-1) y5.1 y6/\(((y6 !=0)=true->r=y6)/\((y6 !=0)=false->(0<=(0:Int)/\(0:Int)<=ij1/\ij1<=(l.length:Int))/\(∃y7,V9 ((l.take ij1.toNat).drop (0:Int).toNat) (⟨226,[],[.elt (V3 y5) 0],by simp⟩:GFn) y7/\((y7=true->r=9)/\(y7=false->∃y8,a0h x o_ y5.2 level y8/\(((y8 !=0)=true->r=y8)/\((y8 !=0)=false->W6 (wI (ij1+1)) l level x o_ r)))))))))/\((decide (ij1<(l.length:Int)))=false->r=0)):W6 ij1 l level x o_ r:=
 KW 7 hw (fun _ hw=>KI 7 B9 hw fun y5 hw=>KC 14 hw g8l fun _ hw=>KW 9 hw (fun _ hw=>KR 13 hw e27) fun _ hw=>KFz 4 2 [true,true,false] 0 [(9,aI ij1),(10,.elt (V3 y5) 0),(15,aI ij1),(14,aI (l.length:Int)),(13,.sl (List.map A9 l) .no),(5,.ptr 1 0),(4,.ptr 0 0),(2,.sl (List.map A9 l) .no),(3,aI level)] [some (B6 x.p),some (Q8 o_),none] ⟨by first|rfl|simp,by first|rfl|simp⟩<|KSV 3 B9 hw fun hw=>KC 1 hw g9m fun _ hw=>KW 2 hw (fun _ hw=>KR 12 hw e27) fun _ hw=>KC 9 hw g22 fun _ hw=>KW 9 hw (fun _ hw=>KR 12 hw e27) fun _ hw=>KJl 8 [] hw b11) fun _ hw=>KR 11 hw e27
theorem b4k(x:C8)(o_:GOp)(l:(List (A0 × A0)))(level:Int)(r:Int)(hw:W6 0 l level x o_ r):a27 x o_ l level r:=
 fP (KL 11 B9 l<|KJ 5 [] hw)
def I4(ij5:Int)(ij3:Int)(n0:Nat)(a:Int)(b:Int)(cmp:GFn)(lj6:(List (Int × A0)))(r:(List (Int × A0))):Prop:=J Tryz.prog 216 (.io 0 (.tuple []) (cellsOf B3 r) []) 6 [(9,aI ij5),(8,aI ij3),(0,.row 0 0 8 n0 n0),(1,aI a),(2,aI b),(3,.clo (.func cmp.fn) cmp.fi cmp.cap)] ⟨[some (cellsOf B3 lj6)],[],[]⟩
def I7(ij3:Int)(n0:Nat)(a:Int)(b:Int)(cmp:GFn)(lj4:(List (Int × A0)))(r:(List (Int × A0))):Prop:=J Tryz.prog 216 (.io 0 (.tuple []) (cellsOf B3 r) []) 1 [(8,aI ij3),(0,.row 0 0 8 n0 n0),(1,aI a),(2,aI b),(3,.clo (.func cmp.fn) cmp.fi cmp.cap)] ⟨[some (cellsOf B3 lj4)],[],[]⟩
theorem a2i(ij5:Int)(ij3:Int)(n0:Nat)(a:Int)(b:Int)(cmp:GFn)(lj6:(List (Int × A0)))(r:(List (Int × A0)))(hw:∃R8:Bool->Prop,(∀bz8:Bool,R8 bz8->((bz8=true->(0<=(wI (ij5 - 1))/\(wI (ij5 - 1))<(n0:Int))/\(∃y19,lj6[(wI (ij5 - 1)).toNat]? =some y19/\((0<=ij5/\ij5<(n0:Int))/\(∃y20,lj6[ij5.toNat]? =some y20/\((0<=ij5/\ij5<(n0:Int))/\(ij5.toNat<lj6.length/\((0<=(wI (ij5 - 1))/\(wI (ij5 - 1))<(n0:Int))/\((wI (ij5 - 1)).toNat<(lj6.set ij5.toNat y19).length/\(I4 (wI (ij5 - 1)) ij3 n0 a b cmp ((lj6.set ij5.toNat y19).set (wI (ij5 - 1)).toNat y20) r)))))))))/\(bz8=false->I7 (wI (ij3+1)) n0 a b cmp lj6 r)))/\(((decide (a<ij5))=true->(0<=ij5/\ij5<(n0:Int))/\(∃y16,lj6[ij5.toNat]? =some y16/\((0<=(wI (ij5 - 1))/\(wI (ij5 - 1))<(n0:Int))/\(∃y17,lj6[(wI (ij5 - 1)).toNat]? =some y17/\(∃y18,a6z Tryz.prog [] (.clo (.func cmp.fn) cmp.fi cmp.cap) [.agg (W9 y16),.agg (W9 y17)] (aI y18)/\(R8 (decide (y18<0))))))))/\((decide (a<ij5))=false->R8 false))):I4 ij5 ij3 n0 a b cmp lj6 r:=
 KD 3 [0]<|KQ 4 13 kB hw (fun _ hw=>KW 3 hw (fun _ hw=>KDL 4 [0]<|KRI 8 8 hw fun hw=>KRn 0 C0 hw fun y19 hw=>KRI 2 8 hw fun hw=>KRn 0 C0 hw fun y20 hw=>KRI 0 8 hw fun hw=>KRS 0 C0 y19 hw fun hw=>KRI 0 8 hw fun hw=>KRS 0 C0 y20 hw fun hw=>KJ 9 [] hw) fun _ hw=>KJ 12 [] hw) (fun _ key _ hw=>KRI 3 8 hw fun hw=>KRn 0 C0 hw fun _ hw=>KRI 3 8 hw fun hw=>KRn 0 C0 hw fun _ hw=>KF 0 hw fun _ hw=>KE 2 key hw) fun _ key _ hw=>KE 13 key hw
theorem a2l(ij3:Int)(n0:Nat)(a:Int)(b:Int)(cmp:GFn)(lj4:(List (Int × A0)))(r:(List (Int × A0)))(hw:((decide (ij3<b))=true->I4 ij3 ij3 n0 a b cmp lj4 r)/\((decide (ij3<b))=false->lj4≠[]/\r=lj4)):I7 ij3 n0 a b cmp lj4 r:=
 KW 9 hw (fun _ hw=>KJ 12 [] hw) fun _ hw=>KRr 4 C0 hw
theorem a4f(n0:Nat)(data:(List (Int × A0)))(a:Int)(b:Int)(cmp:GFn)(r:(List (Int × A0)))(hw:I7 (wI (a+1)) n0 a b cmp data r):K9 n0 data a b cmp r:=
 fRO (KJ 9 [] hw)
def O3(ij5:Int)(ij3:Int)(n0:Nat)(lj6:(List (Int × A0)))(r:(List (Int × A0))):Prop:=J Tryz.prog 217 (.io 0 (.tuple []) (cellsOf B3 r) []) 12 [(13,aI ij5),(10,aI ij3),(0,.row 0 0 8 n0 n0)] ⟨[some (cellsOf B3 lj6)],[],[]⟩
def I1(ij4:Int)(ij3:Int)(n0:Nat)(a:Int)(cmp:GFn)(data:(List (Int × A0)))(r:(List (Int × A0))):Prop:=J Tryz.prog 217 (.io 0 (.tuple []) (cellsOf B3 r) []) 5 [(11,aI ij4),(10,aI ij3),(0,.row 0 0 8 n0 n0),(1,aI a),(4,.clo (.func cmp.fn) cmp.fi cmp.cap)] ⟨[some (cellsOf B3 data)],[],[]⟩
def M3(ij11:Int)(ij9:Int)(n0:Nat)(lj12:(List (Int × A0)))(r:(List (Int × A0))):Prop:=J Tryz.prog 217 (.io 0 (.tuple []) (cellsOf B3 r) []) 28 [(17,aI ij11),(14,aI ij9),(0,.row 0 0 8 n0 n0)] ⟨[some (cellsOf B3 lj12)],[],[]⟩
def H7(ij10:Int)(ij9:Int)(n0:Nat)(m:Int)(cmp:GFn)(data:(List (Int × A0)))(r:(List (Int × A0))):Prop:=J Tryz.prog 217 (.io 0 (.tuple []) (cellsOf B3 r) []) 21 [(15,aI ij10),(14,aI ij9),(0,.row 0 0 8 n0 n0),(2,aI m),(4,.clo (.func cmp.fn) cmp.fi cmp.cap)] ⟨[some (cellsOf B3 data)],[],[]⟩
def M6(a:Int)(b:Int)(m:Int)(ij26:Int)(n0:Nat)(cmp:GFn)(lj30:(List (Int × A0)))(r:(List (Int × A0))):Prop:=J Tryz.prog 217 (.io 0 (.tuple []) (cellsOf B3 r) []) 49 [(24,aI (wI ((wI ((wI ((wU (wI (a+b))).fdiv (2 ^ min (1:Int).toNat IntKind.u64.bits)))+m)) - ij26))),(18,aI (wI ((wU (wI (a+b))).fdiv (2 ^ min (1:Int).toNat IntKind.u64.bits)))),(0,.row 0 0 8 n0 n0),(3,aI b),(4,.clo (.func cmp.fn) cmp.fi cmp.cap)] ⟨[some (cellsOf B3 lj30)],[],[]⟩
def M4(a:Int)(b:Int)(m:Int)(ij26:Int)(n0:Nat)(cmp:GFn)(lj29:(List (Int × A0)))(r:(List (Int × A0))):Prop:=J Tryz.prog 217 (.io 0 (.tuple []) (cellsOf B3 r) []) 47 [(24,aI (wI ((wI ((wI ((wU (wI (a+b))).fdiv (2 ^ min (1:Int).toNat IntKind.u64.bits)))+m)) - ij26))),(20,aI ij26),(18,aI (wI ((wU (wI (a+b))).fdiv (2 ^ min (1:Int).toNat IntKind.u64.bits)))),(0,.row 0 0 8 n0 n0),(1,aI a),(3,aI b),(4,.clo (.func cmp.fn) cmp.fi cmp.cap)] ⟨[some (cellsOf B3 lj29)],[],[]⟩
def H4(a:Int)(b:Int)(m:Int)(ij27:Int)(ij26:Int)(n0:Nat)(cmp:GFn)(data:(List (Int × A0)))(r:(List (Int × A0))):Prop:=J Tryz.prog 217 (.io 0 (.tuple []) (cellsOf B3 r) []) 41 [(22,aI (wI ((wI ((wI ((wU (wI (a+b))).fdiv (2 ^ min (1:Int).toNat IntKind.u64.bits)))+m)) - 1))),(21,aI ij27),(20,aI ij26),(19,aI (wI ((wI ((wU (wI (a+b))).fdiv (2 ^ min (1:Int).toNat IntKind.u64.bits)))+m))),(18,aI (wI ((wU (wI (a+b))).fdiv (2 ^ min (1:Int).toNat IntKind.u64.bits)))),(0,.row 0 0 8 n0 n0),(1,aI a),(2,aI m),(3,aI b),(4,.clo (.func cmp.fn) cmp.fi cmp.cap)] ⟨[some (cellsOf B3 data)],[],[]⟩
def M8(ij21:Int)(ij22:Int)(a:Int)(b:Int)(m:Int)(n0:Nat)(cmp:GFn)(data:(List (Int × A0)))(r:(List (Int × A0))):Prop:=J Tryz.prog 217 (.io 0 (.tuple []) (cellsOf B3 r) []) 35 [(21,aI ij21),(20,aI ij22),(19,aI (wI ((wI ((wU (wI (a+b))).fdiv (2 ^ min (1:Int).toNat IntKind.u64.bits)))+m))),(18,aI (wI ((wU (wI (a+b))).fdiv (2 ^ min (1:Int).toNat IntKind.u64.bits)))),(0,.row 0 0 8 n0 n0),(1,aI a),(2,aI m),(3,aI b),(4,.clo (.func cmp.fn) cmp.fi cmp.cap)] ⟨[some (cellsOf B3 data)],[],[]⟩
theorem a5j(ij5:Int)(ij3:Int)(n0:Nat)(lj6:(List (Int × A0)))(r:(List (Int × A0)))(hw:((decide (ij5<(wI (ij3 - 1))))=true->(0<=(wI (ij5+1))/\(wI (ij5+1))<(n0:Int))/\(∃y10,lj6[(wI (ij5+1)).toNat]? =some y10/\((0<=ij5/\ij5<(n0:Int))/\(∃y11,lj6[ij5.toNat]? =some y11/\((0<=ij5/\ij5<(n0:Int))/\(ij5.toNat<lj6.length/\((0<=(wI (ij5+1))/\(wI (ij5+1))<(n0:Int))/\((wI (ij5+1)).toNat<(lj6.set ij5.toNat y10).length/\(O3 (wI (ij5+1)) ij3 n0 ((lj6.set ij5.toNat y10).set (wI (ij5+1)).toNat y11) r)))))))))/\((decide (ij5<(wI (ij3 - 1))))=false->lj6≠[]/\r=lj6)):O3 ij5 ij3 n0 lj6 r:=
 KW 10 hw (fun _ hw=>KDL 4 [0]<|KRI 8 8 hw fun hw=>KRn 0 C0 hw fun y10 hw=>KRI 2 8 hw fun hw=>KRn 0 C0 hw fun y11 hw=>KRI 0 8 hw fun hw=>KRS 0 C0 y10 hw fun hw=>KRI 0 8 hw fun hw=>KRS 0 C0 y11 hw fun hw=>KJ 9 [] hw) fun _ hw=>KRr 7 C0 hw
theorem a5e(ij4:Int)(ij3:Int)(n0:Nat)(a:Int)(cmp:GFn)(data:(List (Int × A0)))(r:(List (Int × A0)))(hw:((decide (ij3<ij4))=true->(0<=(wI ((wU (wI (ij3+ij4))).fdiv (2 ^ min (1:Int).toNat IntKind.u64.bits)))/\(wI ((wU (wI (ij3+ij4))).fdiv (2 ^ min (1:Int).toNat IntKind.u64.bits)))<(n0:Int))/\(∃y12,data[(wI ((wU (wI (ij3+ij4))).fdiv (2 ^ min (1:Int).toNat IntKind.u64.bits))).toNat]? =some y12/\((0<=a/\a<(n0:Int))/\(∃y13,data[a.toNat]? =some y13/\(∃y14,a6z Tryz.prog [] (.clo (.func cmp.fn) cmp.fi cmp.cap) [.agg (W9 y12),.agg (W9 y13)] (aI y14)/\(((decide (y14<0))=true->I1 ij4 (wI ((wI ((wU (wI (ij3+ij4))).fdiv (2 ^ min (1:Int).toNat IntKind.u64.bits)))+1)) n0 a cmp data r)/\((decide (y14<0))=false->I1 (wI ((wU (wI (ij3+ij4))).fdiv (2 ^ min (1:Int).toNat IntKind.u64.bits))) ij3 n0 a cmp data r)))))))/\((decide (ij3<ij4))=false->O3 a ij3 n0 data r)):I1 ij4 ij3 n0 a cmp data r:=
 KW 9 hw (fun _ hw=>KD 15 [0]<|KRI 3 8 hw fun hw=>KRn 0 C0 hw fun _ hw=>KRI 2 8 hw fun hw=>KRn 0 C0 hw fun _ hw=>KF 0 hw fun _ hw=>KW 4 hw (fun _ hw=>KJ 7 [] hw) fun _ hw=>KJ 6 [] hw) fun _ hw=>KJ 14 [] hw
theorem a43(ij11:Int)(ij9:Int)(n0:Nat)(lj12:(List (Int × A0)))(r:(List (Int × A0)))(hw:((decide (ij9<ij11))=true->(0<=(wI (ij11 - 1))/\(wI (ij11 - 1))<(n0:Int))/\(∃y24,lj12[(wI (ij11 - 1)).toNat]? =some y24/\((0<=ij11/\ij11<(n0:Int))/\(∃y25,lj12[ij11.toNat]? =some y25/\((0<=ij11/\ij11<(n0:Int))/\(ij11.toNat<lj12.length/\((0<=(wI (ij11 - 1))/\(wI (ij11 - 1))<(n0:Int))/\((wI (ij11 - 1)).toNat<(lj12.set ij11.toNat y24).length/\(M3 (wI (ij11 - 1)) ij9 n0 ((lj12.set ij11.toNat y24).set (wI (ij11 - 1)).toNat y25) r)))))))))/\((decide (ij9<ij11))=false->lj12≠[]/\r=lj12)):M3 ij11 ij9 n0 lj12 r:=
 KW 9 hw (fun _ hw=>KDL 4 [0]<|KRI 8 8 hw fun hw=>KRn 0 C0 hw fun y24 hw=>KRI 2 8 hw fun hw=>KRn 0 C0 hw fun y25 hw=>KRI 0 8 hw fun hw=>KRS 0 C0 y24 hw fun hw=>KRI 0 8 hw fun hw=>KRS 0 C0 y25 hw fun hw=>KJ 9 [] hw) fun _ hw=>KRr 7 C0 hw
theorem a4n(ij10:Int)(ij9:Int)(n0:Nat)(m:Int)(cmp:GFn)(data:(List (Int × A0)))(r:(List (Int × A0)))(hw:((decide (ij9<ij10))=true->(0<=m/\m<(n0:Int))/\(∃y26,data[m.toNat]? =some y26/\((0<=(wI ((wU (wI (ij9+ij10))).fdiv (2 ^ min (1:Int).toNat IntKind.u64.bits)))/\(wI ((wU (wI (ij9+ij10))).fdiv (2 ^ min (1:Int).toNat IntKind.u64.bits)))<(n0:Int))/\(∃y27,data[(wI ((wU (wI (ij9+ij10))).fdiv (2 ^ min (1:Int).toNat IntKind.u64.bits))).toNat]? =some y27/\(∃y28,a6z Tryz.prog [] (.clo (.func cmp.fn) cmp.fi cmp.cap) [.agg (W9 y26),.agg (W9 y27)] (aI y28)/\(((!(decide (y28<0)))=true->H7 ij10 (wI ((wI ((wU (wI (ij9+ij10))).fdiv (2 ^ min (1:Int).toNat IntKind.u64.bits)))+1)) n0 m cmp data r)/\((!(decide (y28<0)))=false->H7 (wI ((wU (wI (ij9+ij10))).fdiv (2 ^ min (1:Int).toNat IntKind.u64.bits))) ij9 n0 m cmp data r)))))))/\((decide (ij9<ij10))=false->M3 m ij9 n0 data r)):H7 ij10 ij9 n0 m cmp data r:=
 KW 9 hw (fun _ hw=>KD 15 [0]<|KRI 3 8 hw fun hw=>KRn 0 C0 hw fun _ hw=>KRI 2 8 hw fun hw=>KRn 0 C0 hw fun _ hw=>KF 0 hw fun _ hw=>KW 5 hw (fun _ hw=>KJ 7 [] hw) fun _ hw=>KJ 6 [] hw) fun _ hw=>KJ 14 [] hw
theorem a4p(a:Int)(b:Int)(m:Int)(ij26:Int)(n0:Nat)(cmp:GFn)(lj30:(List (Int × A0)))(r:(List (Int × A0)))(hw:(((decide ((wI ((wU (wI (a+b))).fdiv (2 ^ min (1:Int).toNat IntKind.u64.bits)))<(wI ((wI ((wI ((wU (wI (a+b))).fdiv (2 ^ min (1:Int).toNat IntKind.u64.bits)))+m)) - ij26))))&&(decide ((wI ((wI ((wI ((wU (wI (a+b))).fdiv (2 ^ min (1:Int).toNat IntKind.u64.bits)))+m)) - ij26))<b)))=true->∃y65,I0 n0 lj30 (wI ((wU (wI (a+b))).fdiv (2 ^ min (1:Int).toNat IntKind.u64.bits))) (wI ((wI ((wI ((wU (wI (a+b))).fdiv (2 ^ min (1:Int).toNat IntKind.u64.bits)))+m)) - ij26)) b cmp y65/\(lj30≠[]/\y65≠[])/\(y65≠[]/\r=y65))/\(((decide ((wI ((wU (wI (a+b))).fdiv (2 ^ min (1:Int).toNat IntKind.u64.bits)))<(wI ((wI ((wI ((wU (wI (a+b))).fdiv (2 ^ min (1:Int).toNat IntKind.u64.bits)))+m)) - ij26))))&&(decide ((wI ((wI ((wI ((wU (wI (a+b))).fdiv (2 ^ min (1:Int).toNat IntKind.u64.bits)))+m)) - ij26))<b)))=false->lj30≠[]/\r=lj30)):M6 a b m ij26 n0 cmp lj30 r:=
 KT 6 4<|KW 2 hw (fun _ hw=>KRO 6 C0 hw e1c fun _ hw=>KRr 1 C0 hw) fun _ hw=>KRr 1 C0 hw
theorem a4k(a:Int)(b:Int)(m:Int)(ij26:Int)(n0:Nat)(cmp:GFn)(lj29:(List (Int × A0)))(r:(List (Int × A0)))(hw:(((decide (a<ij26))&&(decide (ij26<(wI ((wU (wI (a+b))).fdiv (2 ^ min (1:Int).toNat IntKind.u64.bits))))))=true->∃y63,I0 n0 lj29 a ij26 (wI ((wU (wI (a+b))).fdiv (2 ^ min (1:Int).toNat IntKind.u64.bits))) cmp y63/\(lj29≠[]/\y63≠[])/\(M6 a b m ij26 n0 cmp y63 r))/\(((decide (a<ij26))&&(decide (ij26<(wI ((wU (wI (a+b))).fdiv (2 ^ min (1:Int).toNat IntKind.u64.bits))))))=false->M6 a b m ij26 n0 cmp lj29 r)):M4 a b m ij26 n0 cmp lj29 r:=
 KT 7 4<|KW 2 hw (fun _ hw=>KRO 6 C0 hw e1c fun _ hw=>KJ 2 [] hw) fun _ hw=>KJ 2 [] hw
theorem a40(a:Int)(b:Int)(m:Int)(ij27:Int)(ij26:Int)(n0:Nat)(cmp:GFn)(data:(List (Int × A0)))(r:(List (Int × A0)))(hw:((decide (ij26<ij27))=true->(0<=(wI ((wI ((wI ((wI ((wU (wI (a+b))).fdiv (2 ^ min (1:Int).toNat IntKind.u64.bits)))+m)) - 1)) - (wI ((wU (wI (ij26+ij27))).fdiv (2 ^ min (1:Int).toNat IntKind.u64.bits)))))/\(wI ((wI ((wI ((wI ((wU (wI (a+b))).fdiv (2 ^ min (1:Int).toNat IntKind.u64.bits)))+m)) - 1)) - (wI ((wU (wI (ij26+ij27))).fdiv (2 ^ min (1:Int).toNat IntKind.u64.bits)))))<(n0:Int))/\(∃y66,data[(wI ((wI ((wI ((wI ((wU (wI (a+b))).fdiv (2 ^ min (1:Int).toNat IntKind.u64.bits)))+m)) - 1)) - (wI ((wU (wI (ij26+ij27))).fdiv (2 ^ min (1:Int).toNat IntKind.u64.bits))))).toNat]? =some y66/\((0<=(wI ((wU (wI (ij26+ij27))).fdiv (2 ^ min (1:Int).toNat IntKind.u64.bits)))/\(wI ((wU (wI (ij26+ij27))).fdiv (2 ^ min (1:Int).toNat IntKind.u64.bits)))<(n0:Int))/\(∃y67,data[(wI ((wU (wI (ij26+ij27))).fdiv (2 ^ min (1:Int).toNat IntKind.u64.bits))).toNat]? =some y67/\(∃y68,a6z Tryz.prog [] (.clo (.func cmp.fn) cmp.fi cmp.cap) [.agg (W9 y66),.agg (W9 y67)] (aI y68)/\(((!(decide (y68<0)))=true->H4 a b m ij27 (wI ((wI ((wU (wI (ij26+ij27))).fdiv (2 ^ min (1:Int).toNat IntKind.u64.bits)))+1)) n0 cmp data r)/\((!(decide (y68<0)))=false->H4 a b m (wI ((wU (wI (ij26+ij27))).fdiv (2 ^ min (1:Int).toNat IntKind.u64.bits))) ij26 n0 cmp data r)))))))/\((decide (ij26<ij27))=false->(((decide (ij26<m))&&(decide (m<(wI ((wI ((wI ((wU (wI (a+b))).fdiv (2 ^ min (1:Int).toNat IntKind.u64.bits)))+m)) - ij26)))))=true->∃y59,a0q n0 data ij26 m (wI ((wI ((wI ((wU (wI (a+b))).fdiv (2 ^ min (1:Int).toNat IntKind.u64.bits)))+m)) - ij26)) cmp y59/\(data≠[]/\y59≠[])/\(M4 a b m ij26 n0 cmp y59 r))/\(((decide (ij26<m))&&(decide (m<(wI ((wI ((wI ((wU (wI (a+b))).fdiv (2 ^ min (1:Int).toNat IntKind.u64.bits)))+m)) - ij26)))))=false->M4 a b m ij26 n0 cmp data r))):H4 a b m ij27 ij26 n0 cmp data r:=
 KW 9 hw (fun _ hw=>KD 15 [0]<|KRI 5 8 hw fun hw=>KRn 0 C0 hw fun _ hw=>KRI 2 8 hw fun hw=>KRn 0 C0 hw fun _ hw=>KF 0 hw fun _ hw=>KW 5 hw (fun _ hw=>KJ 7 [] hw) fun _ hw=>KJ 6 [] hw) fun _ hw=>KT 20 4<|KW 2 hw (fun _ hw=>KRO 6 C0 hw g6j fun _ hw=>KJ 2 [] hw) fun _ hw=>KJ 2 [] hw
theorem a47(ij21:Int)(ij22:Int)(a:Int)(b:Int)(m:Int)(n0:Nat)(cmp:GFn)(data:(List (Int × A0)))(r:(List (Int × A0)))(hw:H4 a b m ij21 ij22 n0 cmp data r):M8 ij21 ij22 a b m n0 cmp data r:=
 KJ 10 [] hw
theorem a8f(n0:Nat)(data:(List (Int × A0)))(a:Int)(m:Int)(b:Int)(cmp:GFn)(r:(List (Int × A0)))(hw:(((wI (m - a))==1)=true->I1 b m n0 a cmp data r)/\(((wI (m - a))==1)=false->(((wI (b - m))==1)=true->H7 m a n0 m cmp data r)/\(((wI (b - m))==1)=false->((decide ((wI ((wU (wI (a+b))).fdiv (2 ^ min (1:Int).toNat IntKind.u64.bits)))<m))=true->M8 (wI ((wU (wI (a+b))).fdiv (2 ^ min (1:Int).toNat IntKind.u64.bits))) (wI ((wI ((wI ((wU (wI (a+b))).fdiv (2 ^ min (1:Int).toNat IntKind.u64.bits)))+m)) - b)) a b m n0 cmp data r)/\((decide ((wI ((wU (wI (a+b))).fdiv (2 ^ min (1:Int).toNat IntKind.u64.bits)))<m))=false->M8 m a a b m n0 cmp data r)))):I0 n0 data a m b cmp r:=
 fRO (KW 9 hw (fun _ hw=>KJ 15 [] hw) fun _ hw=>KW 11 hw (fun _ hw=>KJ 15 [] hw) fun _ hw=>KW 35 hw (fun _ hw=>KJ 13 [] hw) fun _ hw=>KJ 11 [] hw)
def P0(ij17:Int)(ij18:Int)(ij15:Int)(n0:Nat)(n:Int)(cmp:GFn)(lj19:(List (A0 × A0)))(r:(List (A0 × A0))):Prop:=J Tryz.prog 218 (.io 0 (.tuple []) (cellsOf A9 r) []) 14 [(8,aI ij17),(7,aI ij18),(6,aI ij15),(0,.row 0 0 14 n0 n0),(1,aI n),(2,.clo (.func cmp.fn) cmp.fi cmp.cap)] ⟨[some (cellsOf A9 lj19)],[],[]⟩
def I9(ij15:Int)(n0:Nat)(n:Int)(cmp:GFn)(lj16:(List (A0 × A0)))(r:(List (A0 × A0))):Prop:=J Tryz.prog 218 (.io 0 (.tuple []) (cellsOf A9 r) []) 9 [(6,aI ij15),(0,.row 0 0 14 n0 n0),(1,aI n),(2,.clo (.func cmp.fn) cmp.fi cmp.cap)] ⟨[some (cellsOf A9 lj16)],[],[]⟩
def Q6(ij9:Int)(ij10:Int)(n0:Nat)(n:Int)(cmp:GFn)(lj11:(List (A0 × A0)))(r:(List (A0 × A0))):Prop:=J Tryz.prog 218 (.io 0 (.tuple []) (cellsOf A9 r) []) 3 [(8,aI ij9),(7,aI ij10),(6,aI 20),(0,.row 0 0 14 n0 n0),(1,aI n),(2,.clo (.func cmp.fn) cmp.fi cmp.cap)] ⟨[some (cellsOf A9 lj11)],[],[]⟩
theorem a6v(ij17:Int)(ij18:Int)(ij15:Int)(n0:Nat)(n:Int)(cmp:GFn)(lj19:(List (A0 × A0)))(r:(List (A0 × A0)))(hw:((decide (ij17<=n))=true->∃y19,H9 n0 lj19 ij18 (wI (ij18+ij15)) ij17 cmp y19/\(lj19≠[]/\y19≠[])/\(P0 (wI (ij17+(wI (2*ij15)))) ij17 ij15 n0 n cmp y19 r))/\((decide (ij17<=n))=false->((decide ((wI (ij18+ij15))<n))=true->∃y18,H9 n0 lj19 ij18 (wI (ij18+ij15)) n cmp y18/\(lj19≠[]/\y18≠[])/\(I9 (wI (ij15*2)) n0 n cmp y18 r))/\((decide ((wI (ij18+ij15))<n))=false->I9 (wI (ij15*2)) n0 n cmp lj19 r))):P0 ij17 ij18 ij15 n0 n cmp lj19 r:=
 KW 9 hw (fun _ hw=>KRO 12 B9 hw e1k fun _ hw=>KJ 17 [] hw) fun _ hw=>KW 21 hw (fun _ hw=>KRO 6 B9 hw e1k fun _ hw=>KJ 9 [] hw) fun _ hw=>KJ 9 [] hw
theorem a6x(ij15:Int)(n0:Nat)(n:Int)(cmp:GFn)(lj16:(List (A0 × A0)))(r:(List (A0 × A0)))(hw:((decide (ij15<n))=true->P0 (wI (2*ij15)) 0 ij15 n0 n cmp lj16 r)/\((decide (ij15<n))=false->lj16≠[]/\r=lj16)):I9 ij15 n0 n cmp lj16 r:=
 KW 9 hw (fun _ hw=>KJ 14 [] hw) fun _ hw=>KRr 4 B9 hw
theorem a7g(ij9:Int)(ij10:Int)(n0:Nat)(n:Int)(cmp:GFn)(lj11:(List (A0 × A0)))(r:(List (A0 × A0)))(hw:((decide (ij9<=n))=true->∃y20,L4 n0 lj11 ij10 ij9 cmp y20/\(lj11≠[]/\y20≠[])/\(Q6 (wI (ij9+20)) ij9 n0 n cmp y20 r))/\((decide (ij9<=n))=false->∃y11,L4 n0 lj11 ij10 n cmp y11/\(lj11≠[]/\y11≠[])/\(I9 20 n0 n cmp y11 r))):Q6 ij9 ij10 n0 n cmp lj11 r:=
 KW 9 hw (fun _ hw=>KRO 9 B9 hw f67 fun _ hw=>KJ 16 [] hw) fun _ hw=>KRO 11 B9 hw f67 fun _ hw=>KJ 4 [] hw
theorem b0e(n0:Nat)(data:(List (A0 × A0)))(n:Int)(cmp:GFn)(r:(List (A0 × A0)))(hw:Q6 20 0 n0 n cmp data r):a0o n0 data n cmp r:=
 fRO (KJ 15 [] hw)
theorem d3n(r:Int):plain (h6l r)=true:=rfl
theorem b67(x:ByteArray)(y:ByteArray)(r:Int)(hw:∃y1,b02 x y1/\(∃y2,b02 y y2/\((y1=true->(y2=true->r=0)/\(y2=false->r=(-1)))/\(y1=false->(y2=true->r=1)/\(y2=false->((Op.bytesLess x.toList y.toList)=true->r=(-1))/\((Op.bytesLess x.toList y.toList)=false->((!(Op.bytesLess x.toList y.toList||x.toList==y.toList))=true->r=1)/\((!(Op.bytesLess x.toList y.toList||x.toList==y.toList))=false->r=0))))))):a2h x y r:=
 fP (KC 8 hw g5s fun _ hw=>KC 6 hw g5s fun _ hw=>KW 9 hw (fun _ hw=>KW 6 hw (fun _ hw=>KR 8 hw d3n) fun _ hw=>KR 9 hw d3n) fun _ hw=>KW 8 hw (fun _ hw=>KR 7 hw d3n) fun _ hw=>KW 10 hw (fun _ hw=>KR 7 hw d3n) fun _ hw=>KW 10 hw (fun _ hw=>KR 7 hw d3n) fun _ hw=>KR 8 hw d3n)
theorem d3t(r:Int):plain (h61 r)=true:=rfl
theorem b7z(x:Int)(y:Int)(r:Int)(hw:∃y1,b06 x y1/\(∃y2,b06 y y2/\((y1=true->(y2=true->r=0)/\(y2=false->r=(-1)))/\(y1=false->(y2=true->r=1)/\(y2=false->((decide (x<y))=true->r=(-1))/\((decide (x<y))=false->((decide (y<x))=true->r=1)/\((decide (y<x))=false->r=0))))))):a0f x y r:=
 fP (KC 8 hw g5a fun _ hw=>KC 6 hw g5a fun _ hw=>KW 9 hw (fun _ hw=>KW 6 hw (fun _ hw=>KR 8 hw d3t) fun _ hw=>KR 9 hw d3t) fun _ hw=>KW 8 hw (fun _ hw=>KR 7 hw d3t) fun _ hw=>KW 10 hw (fun _ hw=>KR 7 hw d3t) fun _ hw=>KW 10 hw (fun _ hw=>KR 7 hw d3t) fun _ hw=>KR 8 hw d3t)
theorem e90(r:Int):plain (h5m r)=true:=rfl
theorem c53(bits:Int)(r:Int)(hw:∃y1,b5b bits y1/\(((y1==0)=true->r=18446744073709551615)/\((y1==0)=false->(((F1 .and .u64 bits 9223372036854775808) !=0)=true->r=(F1 .xor .u64 (IntKind.u64.max) bits))/\(((F1 .and .u64 bits 9223372036854775808) !=0)=false->r=(F1 .or .u64 bits 9223372036854775808))))):b4r bits r:=
 fP (KC 10 hw h5w fun _ hw=>KW 4 hw (fun _ hw=>KR 8 hw e90) fun _ hw=>KW 8 hw (fun _ hw=>KR 10 hw e90) fun _ hw=>KR 11 hw e90)
theorem f8p(r:Bool):plain (h66 r)=true:=rfl
theorem a53(s:ByteArray)(prefix_:ByteArray)(r:Bool)(hw:((decide ((prefix_.size:Int)<=(s.size:Int)))=true->(0<=(0:Int)/\(0:Int)<=(prefix_.size:Int)/\(prefix_.size:Int)<=(s.size:Int))/\(r=(decide ((s.extract (0:Int).toNat (prefix_.size:Int).toNat)=prefix_))))/\((decide ((prefix_.size:Int)<=(s.size:Int)))=false->r=false)):a1c s prefix_ r:=
 fP (KW 13 hw (fun _ hw=>KSS 3 hw fun hw=>KR 7 hw f8p) fun _ hw=>KR 11 hw f8p)
theorem d1j(r:Int):plain (h5i r)=true:=rfl
theorem b8k(x:C8)(kind:Int)(enum:Int)(v:A0)(r:Int)(hw:∃R1:Bool->Prop,(∀bz1:Bool,R1 bz1->((bz1=true->r=12)/\(bz1=false->((decide (4096<(v.Text.size:Int)))=true->r=3)/\((decide (4096<(v.Text.size:Int)))=false->∃R2:Bool->Prop,(∀bz2:Bool,R2 bz2->((bz2=true->r=7)/\(bz2=false->∃y3,b34 kind v y3/\(((!y3)=true->r=12)/\((!y3)=false->((kind==9)=true->∃y4,b0i x.p enum v.Bits y4/\(((!y4)=true->r=16)/\((!y4)=false->r=0)))/\((kind==9)=false->r=0))))))/\(((kind==7)=true->∃y2,b8x v.Text y2/\(R2 (!y2)))/\((kind==7)=false->R2 false))))))/\(((v.Kind !=kind)=true->R1 true)/\((v.Kind !=kind)=false->∃y1,b2m v y1/\(R1 y1)))):a3y x kind enum v r:=
 fP (KQ 16 3 kB hw (fun _ hw=>KW 3 hw (fun _ hw=>KR 8 hw d1j) fun _ hw=>KW 9 hw (fun _ hw=>KR 8 hw d1j) fun _ hw=>KQ 5 5 kB hw (fun _ hw=>KW 3 hw (fun _ hw=>KR 8 hw d1j) fun _ hw=>KC 4 hw h26 fun _ hw=>KW 4 hw (fun _ hw=>KR 8 hw d1j) fun _ hw=>KW 5 hw (fun _ hw=>KC 5 hw h0h fun _ hw=>KW 5 hw (fun _ hw=>KR 8 hw d1j) fun _ hw=>KR 9 hw d1j) fun _ hw=>KR 21 hw d1j) (fun _ key _ hw=>KC 2 hw h2k fun _ hw=>KE 2 key hw) fun _ key _ hw=>KE 5 key hw) (fun _ key _ hw=>KE 3 key hw) fun _ key _ hw=>KC 1 hw f3j fun _ hw=>KE 1 key hw)
theorem g78(r:Bool):plain (h4v r)=true:=rfl
theorem a5n(s:(List (A0 × A0)))(f:GFn)(r:Bool)(hw:∃y1,a2t s f y1/\(r=(decide (0<=y1)))):V9 s f r:=
 fP (KC 9 hw h4l fun _ hw=>KR 5 hw g78)
def J6(ij3:Int)(ij1:Int)(n0:Nat)(m:Int)(cmp:GFn)(lj2:(List (Int × A0)))(r:(List (Int × A0))):Prop:=J Tryz.prog 227 (.io 0 (.tuple []) (cellsOf B3 r) []) 3 [(11,aI ij3),(10,aI ij1),(0,.row 0 0 8 n0 n0),(2,aI m),(4,.clo (.func cmp.fn) cmp.fi cmp.cap)] ⟨[some (cellsOf B3 lj2)],[],[]⟩
theorem a71(ij3:Int)(ij1:Int)(n0:Nat)(m:Int)(cmp:GFn)(lj2:(List (Int × A0)))(r:(List (Int × A0)))(hw:((ij1 !=ij3)=true->((decide (ij3<ij1))=true->∃y5,K2 n0 lj2 (wI (m - ij1)) m ij3 cmp y5/\(lj2≠[]/\y5≠[])/\(J6 ij3 (wI (ij1 - ij3)) n0 m cmp y5 r))/\((decide (ij3<ij1))=false->∃y6,K2 n0 lj2 (wI (m - ij1)) (wI ((wI (m+ij3)) - ij1)) ij1 cmp y6/\(lj2≠[]/\y6≠[])/\(J6 (wI (ij3 - ij1)) ij1 n0 m cmp y6 r)))/\((ij1 !=ij3)=false->∃y4,K2 n0 lj2 (wI (m - ij1)) m ij1 cmp y4/\(lj2≠[]/\y4≠[])/\(y4≠[]/\r=y4))):J6 ij3 ij1 n0 m cmp lj2 r:=
 KW 9 hw (fun _ hw=>KW 10 hw (fun _ hw=>KRO 9 C0 hw e6a fun _ hw=>KJ 10 [] hw) fun _ hw=>KRO 13 C0 hw e6a fun _ hw=>KJ 10 [] hw) fun _ hw=>KRO 13 C0 hw e6a fun _ hw=>KRr 1 C0 hw
theorem b0p(n0:Nat)(data:(List (Int × A0)))(a:Int)(m:Int)(b:Int)(cmp:GFn)(r:(List (Int × A0)))(hw:J6 (wI (b - m)) (wI (m - a)) n0 m cmp data r):a0q n0 data a m b cmp r:=
 fRO (KJ 19 [] hw)
def I5(ij5:Int)(ij3:Int)(n0:Nat)(a:Int)(b:Int)(cmp:GFn)(lj6:(List (A0 × A0)))(r:(List (A0 × A0))):Prop:=J Tryz.prog 228 (.io 0 (.tuple []) (cellsOf A9 r) []) 6 [(9,aI ij5),(8,aI ij3),(0,.row 0 0 14 n0 n0),(1,aI a),(2,aI b),(3,.clo (.func cmp.fn) cmp.fi cmp.cap)] ⟨[some (cellsOf A9 lj6)],[],[]⟩
def I6(ij3:Int)(n0:Nat)(a:Int)(b:Int)(cmp:GFn)(lj4:(List (A0 × A0)))(r:(List (A0 × A0))):Prop:=J Tryz.prog 228 (.io 0 (.tuple []) (cellsOf A9 r) []) 1 [(8,aI ij3),(0,.row 0 0 14 n0 n0),(1,aI a),(2,aI b),(3,.clo (.func cmp.fn) cmp.fi cmp.cap)] ⟨[some (cellsOf A9 lj4)],[],[]⟩
theorem a2n(ij5:Int)(ij3:Int)(n0:Nat)(a:Int)(b:Int)(cmp:GFn)(lj6:(List (A0 × A0)))(r:(List (A0 × A0)))(hw:∃R8:Bool->Prop,(∀bz8:Bool,R8 bz8->((bz8=true->(0<=(wI (ij5 - 1))/\(wI (ij5 - 1))<(n0:Int))/\(∃y19,lj6[(wI (ij5 - 1)).toNat]? =some y19/\((0<=ij5/\ij5<(n0:Int))/\(∃y20,lj6[ij5.toNat]? =some y20/\((0<=ij5/\ij5<(n0:Int))/\(ij5.toNat<lj6.length/\((0<=(wI (ij5 - 1))/\(wI (ij5 - 1))<(n0:Int))/\((wI (ij5 - 1)).toNat<(lj6.set ij5.toNat y19).length/\(I5 (wI (ij5 - 1)) ij3 n0 a b cmp ((lj6.set ij5.toNat y19).set (wI (ij5 - 1)).toNat y20) r)))))))))/\(bz8=false->I6 (wI (ij3+1)) n0 a b cmp lj6 r)))/\(((decide (a<ij5))=true->(0<=ij5/\ij5<(n0:Int))/\(∃y16,lj6[ij5.toNat]? =some y16/\((0<=(wI (ij5 - 1))/\(wI (ij5 - 1))<(n0:Int))/\(∃y17,lj6[(wI (ij5 - 1)).toNat]? =some y17/\(∃y18,a6z Tryz.prog [] (.clo (.func cmp.fn) cmp.fi cmp.cap) [.agg (V3 y16),.agg (V3 y17)] (aI y18)/\(R8 (decide (y18<0))))))))/\((decide (a<ij5))=false->R8 false))):I5 ij5 ij3 n0 a b cmp lj6 r:=
 KD 3 [0]<|KQ 4 13 kB hw (fun _ hw=>KW 3 hw (fun _ hw=>KDL 4 [0]<|KRI 8 14 hw fun hw=>KRn 0 B9 hw fun y19 hw=>KRI 2 14 hw fun hw=>KRn 0 B9 hw fun y20 hw=>KRI 0 14 hw fun hw=>KRS 0 B9 y19 hw fun hw=>KRI 0 14 hw fun hw=>KRS 0 B9 y20 hw fun hw=>KJ 9 [] hw) fun _ hw=>KJ 12 [] hw) (fun _ key _ hw=>KRI 3 14 hw fun hw=>KRn 0 B9 hw fun _ hw=>KRI 3 14 hw fun hw=>KRn 0 B9 hw fun _ hw=>KF 0 hw fun _ hw=>KE 2 key hw) fun _ key _ hw=>KE 13 key hw
theorem a2j(ij3:Int)(n0:Nat)(a:Int)(b:Int)(cmp:GFn)(lj4:(List (A0 × A0)))(r:(List (A0 × A0)))(hw:((decide (ij3<b))=true->I5 ij3 ij3 n0 a b cmp lj4 r)/\((decide (ij3<b))=false->lj4≠[]/\r=lj4)):I6 ij3 n0 a b cmp lj4 r:=
 KW 9 hw (fun _ hw=>KJ 12 [] hw) fun _ hw=>KRr 4 B9 hw
theorem a39(n0:Nat)(data:(List (A0 × A0)))(a:Int)(b:Int)(cmp:GFn)(r:(List (A0 × A0)))(hw:I6 (wI (a+1)) n0 a b cmp data r):L4 n0 data a b cmp r:=
 fRO (KJ 9 [] hw)
def N9(ij5:Int)(ij3:Int)(n0:Nat)(lj6:(List (A0 × A0)))(r:(List (A0 × A0))):Prop:=J Tryz.prog 229 (.io 0 (.tuple []) (cellsOf A9 r) []) 12 [(13,aI ij5),(10,aI ij3),(0,.row 0 0 14 n0 n0)] ⟨[some (cellsOf A9 lj6)],[],[]⟩
def I2(ij4:Int)(ij3:Int)(n0:Nat)(a:Int)(cmp:GFn)(data:(List (A0 × A0)))(r:(List (A0 × A0))):Prop:=J Tryz.prog 229 (.io 0 (.tuple []) (cellsOf A9 r) []) 5 [(11,aI ij4),(10,aI ij3),(0,.row 0 0 14 n0 n0),(1,aI a),(4,.clo (.func cmp.fn) cmp.fi cmp.cap)] ⟨[some (cellsOf A9 data)],[],[]⟩
def M1(ij11:Int)(ij9:Int)(n0:Nat)(lj12:(List (A0 × A0)))(r:(List (A0 × A0))):Prop:=J Tryz.prog 229 (.io 0 (.tuple []) (cellsOf A9 r) []) 28 [(17,aI ij11),(14,aI ij9),(0,.row 0 0 14 n0 n0)] ⟨[some (cellsOf A9 lj12)],[],[]⟩
def H8(ij10:Int)(ij9:Int)(n0:Nat)(m:Int)(cmp:GFn)(data:(List (A0 × A0)))(r:(List (A0 × A0))):Prop:=J Tryz.prog 229 (.io 0 (.tuple []) (cellsOf A9 r) []) 21 [(15,aI ij10),(14,aI ij9),(0,.row 0 0 14 n0 n0),(2,aI m),(4,.clo (.func cmp.fn) cmp.fi cmp.cap)] ⟨[some (cellsOf A9 data)],[],[]⟩
def L9(a:Int)(b:Int)(m:Int)(ij26:Int)(n0:Nat)(cmp:GFn)(lj30:(List (A0 × A0)))(r:(List (A0 × A0))):Prop:=J Tryz.prog 229 (.io 0 (.tuple []) (cellsOf A9 r) []) 49 [(24,aI (wI ((wI ((wI ((wU (wI (a+b))).fdiv (2 ^ min (1:Int).toNat IntKind.u64.bits)))+m)) - ij26))),(18,aI (wI ((wU (wI (a+b))).fdiv (2 ^ min (1:Int).toNat IntKind.u64.bits)))),(0,.row 0 0 14 n0 n0),(3,aI b),(4,.clo (.func cmp.fn) cmp.fi cmp.cap)] ⟨[some (cellsOf A9 lj30)],[],[]⟩
def M7(a:Int)(b:Int)(m:Int)(ij26:Int)(n0:Nat)(cmp:GFn)(lj29:(List (A0 × A0)))(r:(List (A0 × A0))):Prop:=J Tryz.prog 229 (.io 0 (.tuple []) (cellsOf A9 r) []) 47 [(24,aI (wI ((wI ((wI ((wU (wI (a+b))).fdiv (2 ^ min (1:Int).toNat IntKind.u64.bits)))+m)) - ij26))),(20,aI ij26),(18,aI (wI ((wU (wI (a+b))).fdiv (2 ^ min (1:Int).toNat IntKind.u64.bits)))),(0,.row 0 0 14 n0 n0),(1,aI a),(3,aI b),(4,.clo (.func cmp.fn) cmp.fi cmp.cap)] ⟨[some (cellsOf A9 lj29)],[],[]⟩
def H6(a:Int)(b:Int)(m:Int)(ij27:Int)(ij26:Int)(n0:Nat)(cmp:GFn)(data:(List (A0 × A0)))(r:(List (A0 × A0))):Prop:=J Tryz.prog 229 (.io 0 (.tuple []) (cellsOf A9 r) []) 41 [(22,aI (wI ((wI ((wI ((wU (wI (a+b))).fdiv (2 ^ min (1:Int).toNat IntKind.u64.bits)))+m)) - 1))),(21,aI ij27),(20,aI ij26),(19,aI (wI ((wI ((wU (wI (a+b))).fdiv (2 ^ min (1:Int).toNat IntKind.u64.bits)))+m))),(18,aI (wI ((wU (wI (a+b))).fdiv (2 ^ min (1:Int).toNat IntKind.u64.bits)))),(0,.row 0 0 14 n0 n0),(1,aI a),(2,aI m),(3,aI b),(4,.clo (.func cmp.fn) cmp.fi cmp.cap)] ⟨[some (cellsOf A9 data)],[],[]⟩
def M5(ij21:Int)(ij22:Int)(a:Int)(b:Int)(m:Int)(n0:Nat)(cmp:GFn)(data:(List (A0 × A0)))(r:(List (A0 × A0))):Prop:=J Tryz.prog 229 (.io 0 (.tuple []) (cellsOf A9 r) []) 35 [(21,aI ij21),(20,aI ij22),(19,aI (wI ((wI ((wU (wI (a+b))).fdiv (2 ^ min (1:Int).toNat IntKind.u64.bits)))+m))),(18,aI (wI ((wU (wI (a+b))).fdiv (2 ^ min (1:Int).toNat IntKind.u64.bits)))),(0,.row 0 0 14 n0 n0),(1,aI a),(2,aI m),(3,aI b),(4,.clo (.func cmp.fn) cmp.fi cmp.cap)] ⟨[some (cellsOf A9 data)],[],[]⟩
theorem a52(ij5:Int)(ij3:Int)(n0:Nat)(lj6:(List (A0 × A0)))(r:(List (A0 × A0)))(hw:((decide (ij5<(wI (ij3 - 1))))=true->(0<=(wI (ij5+1))/\(wI (ij5+1))<(n0:Int))/\(∃y10,lj6[(wI (ij5+1)).toNat]? =some y10/\((0<=ij5/\ij5<(n0:Int))/\(∃y11,lj6[ij5.toNat]? =some y11/\((0<=ij5/\ij5<(n0:Int))/\(ij5.toNat<lj6.length/\((0<=(wI (ij5+1))/\(wI (ij5+1))<(n0:Int))/\((wI (ij5+1)).toNat<(lj6.set ij5.toNat y10).length/\(N9 (wI (ij5+1)) ij3 n0 ((lj6.set ij5.toNat y10).set (wI (ij5+1)).toNat y11) r)))))))))/\((decide (ij5<(wI (ij3 - 1))))=false->lj6≠[]/\r=lj6)):N9 ij5 ij3 n0 lj6 r:=
 KW 10 hw (fun _ hw=>KDL 4 [0]<|KRI 8 14 hw fun hw=>KRn 0 B9 hw fun y10 hw=>KRI 2 14 hw fun hw=>KRn 0 B9 hw fun y11 hw=>KRI 0 14 hw fun hw=>KRS 0 B9 y10 hw fun hw=>KRI 0 14 hw fun hw=>KRS 0 B9 y11 hw fun hw=>KJ 9 [] hw) fun _ hw=>KRr 7 B9 hw
theorem a6c(ij4:Int)(ij3:Int)(n0:Nat)(a:Int)(cmp:GFn)(data:(List (A0 × A0)))(r:(List (A0 × A0)))(hw:((decide (ij3<ij4))=true->(0<=(wI ((wU (wI (ij3+ij4))).fdiv (2 ^ min (1:Int).toNat IntKind.u64.bits)))/\(wI ((wU (wI (ij3+ij4))).fdiv (2 ^ min (1:Int).toNat IntKind.u64.bits)))<(n0:Int))/\(∃y12,data[(wI ((wU (wI (ij3+ij4))).fdiv (2 ^ min (1:Int).toNat IntKind.u64.bits))).toNat]? =some y12/\((0<=a/\a<(n0:Int))/\(∃y13,data[a.toNat]? =some y13/\(∃y14,a6z Tryz.prog [] (.clo (.func cmp.fn) cmp.fi cmp.cap) [.agg (V3 y12),.agg (V3 y13)] (aI y14)/\(((decide (y14<0))=true->I2 ij4 (wI ((wI ((wU (wI (ij3+ij4))).fdiv (2 ^ min (1:Int).toNat IntKind.u64.bits)))+1)) n0 a cmp data r)/\((decide (y14<0))=false->I2 (wI ((wU (wI (ij3+ij4))).fdiv (2 ^ min (1:Int).toNat IntKind.u64.bits))) ij3 n0 a cmp data r)))))))/\((decide (ij3<ij4))=false->N9 a ij3 n0 data r)):I2 ij4 ij3 n0 a cmp data r:=
 KW 9 hw (fun _ hw=>KD 15 [0]<|KRI 3 14 hw fun hw=>KRn 0 B9 hw fun _ hw=>KRI 2 14 hw fun hw=>KRn 0 B9 hw fun _ hw=>KF 0 hw fun _ hw=>KW 4 hw (fun _ hw=>KJ 7 [] hw) fun _ hw=>KJ 6 [] hw) fun _ hw=>KJ 14 [] hw
theorem a41(ij11:Int)(ij9:Int)(n0:Nat)(lj12:(List (A0 × A0)))(r:(List (A0 × A0)))(hw:((decide (ij9<ij11))=true->(0<=(wI (ij11 - 1))/\(wI (ij11 - 1))<(n0:Int))/\(∃y24,lj12[(wI (ij11 - 1)).toNat]? =some y24/\((0<=ij11/\ij11<(n0:Int))/\(∃y25,lj12[ij11.toNat]? =some y25/\((0<=ij11/\ij11<(n0:Int))/\(ij11.toNat<lj12.length/\((0<=(wI (ij11 - 1))/\(wI (ij11 - 1))<(n0:Int))/\((wI (ij11 - 1)).toNat<(lj12.set ij11.toNat y24).length/\(M1 (wI (ij11 - 1)) ij9 n0 ((lj12.set ij11.toNat y24).set (wI (ij11 - 1)).toNat y25) r)))))))))/\((decide (ij9<ij11))=false->lj12≠[]/\r=lj12)):M1 ij11 ij9 n0 lj12 r:=
 KW 9 hw (fun _ hw=>KDL 4 [0]<|KRI 8 14 hw fun hw=>KRn 0 B9 hw fun y24 hw=>KRI 2 14 hw fun hw=>KRn 0 B9 hw fun y25 hw=>KRI 0 14 hw fun hw=>KRS 0 B9 y24 hw fun hw=>KRI 0 14 hw fun hw=>KRS 0 B9 y25 hw fun hw=>KJ 9 [] hw) fun _ hw=>KRr 7 B9 hw
theorem a4o(ij10:Int)(ij9:Int)(n0:Nat)(m:Int)(cmp:GFn)(data:(List (A0 × A0)))(r:(List (A0 × A0)))(hw:((decide (ij9<ij10))=true->(0<=m/\m<(n0:Int))/\(∃y26,data[m.toNat]? =some y26/\((0<=(wI ((wU (wI (ij9+ij10))).fdiv (2 ^ min (1:Int).toNat IntKind.u64.bits)))/\(wI ((wU (wI (ij9+ij10))).fdiv (2 ^ min (1:Int).toNat IntKind.u64.bits)))<(n0:Int))/\(∃y27,data[(wI ((wU (wI (ij9+ij10))).fdiv (2 ^ min (1:Int).toNat IntKind.u64.bits))).toNat]? =some y27/\(∃y28,a6z Tryz.prog [] (.clo (.func cmp.fn) cmp.fi cmp.cap) [.agg (V3 y26),.agg (V3 y27)] (aI y28)/\(((!(decide (y28<0)))=true->H8 ij10 (wI ((wI ((wU (wI (ij9+ij10))).fdiv (2 ^ min (1:Int).toNat IntKind.u64.bits)))+1)) n0 m cmp data r)/\((!(decide (y28<0)))=false->H8 (wI ((wU (wI (ij9+ij10))).fdiv (2 ^ min (1:Int).toNat IntKind.u64.bits))) ij9 n0 m cmp data r)))))))/\((decide (ij9<ij10))=false->M1 m ij9 n0 data r)):H8 ij10 ij9 n0 m cmp data r:=
 KW 9 hw (fun _ hw=>KD 15 [0]<|KRI 3 14 hw fun hw=>KRn 0 B9 hw fun _ hw=>KRI 2 14 hw fun hw=>KRn 0 B9 hw fun _ hw=>KF 0 hw fun _ hw=>KW 5 hw (fun _ hw=>KJ 7 [] hw) fun _ hw=>KJ 6 [] hw) fun _ hw=>KJ 14 [] hw
theorem a46(a:Int)(b:Int)(m:Int)(ij26:Int)(n0:Nat)(cmp:GFn)(lj30:(List (A0 × A0)))(r:(List (A0 × A0)))(hw:(((decide ((wI ((wU (wI (a+b))).fdiv (2 ^ min (1:Int).toNat IntKind.u64.bits)))<(wI ((wI ((wI ((wU (wI (a+b))).fdiv (2 ^ min (1:Int).toNat IntKind.u64.bits)))+m)) - ij26))))&&(decide ((wI ((wI ((wI ((wU (wI (a+b))).fdiv (2 ^ min (1:Int).toNat IntKind.u64.bits)))+m)) - ij26))<b)))=true->∃y65,H9 n0 lj30 (wI ((wU (wI (a+b))).fdiv (2 ^ min (1:Int).toNat IntKind.u64.bits))) (wI ((wI ((wI ((wU (wI (a+b))).fdiv (2 ^ min (1:Int).toNat IntKind.u64.bits)))+m)) - ij26)) b cmp y65/\(lj30≠[]/\y65≠[])/\(y65≠[]/\r=y65))/\(((decide ((wI ((wU (wI (a+b))).fdiv (2 ^ min (1:Int).toNat IntKind.u64.bits)))<(wI ((wI ((wI ((wU (wI (a+b))).fdiv (2 ^ min (1:Int).toNat IntKind.u64.bits)))+m)) - ij26))))&&(decide ((wI ((wI ((wI ((wU (wI (a+b))).fdiv (2 ^ min (1:Int).toNat IntKind.u64.bits)))+m)) - ij26))<b)))=false->lj30≠[]/\r=lj30)):L9 a b m ij26 n0 cmp lj30 r:=
 KT 6 4<|KW 2 hw (fun _ hw=>KRO 6 B9 hw e1k fun _ hw=>KRr 1 B9 hw) fun _ hw=>KRr 1 B9 hw
theorem a4m(a:Int)(b:Int)(m:Int)(ij26:Int)(n0:Nat)(cmp:GFn)(lj29:(List (A0 × A0)))(r:(List (A0 × A0)))(hw:(((decide (a<ij26))&&(decide (ij26<(wI ((wU (wI (a+b))).fdiv (2 ^ min (1:Int).toNat IntKind.u64.bits))))))=true->∃y63,H9 n0 lj29 a ij26 (wI ((wU (wI (a+b))).fdiv (2 ^ min (1:Int).toNat IntKind.u64.bits))) cmp y63/\(lj29≠[]/\y63≠[])/\(L9 a b m ij26 n0 cmp y63 r))/\(((decide (a<ij26))&&(decide (ij26<(wI ((wU (wI (a+b))).fdiv (2 ^ min (1:Int).toNat IntKind.u64.bits))))))=false->L9 a b m ij26 n0 cmp lj29 r)):M7 a b m ij26 n0 cmp lj29 r:=
 KT 7 4<|KW 2 hw (fun _ hw=>KRO 6 B9 hw e1k fun _ hw=>KJ 2 [] hw) fun _ hw=>KJ 2 [] hw
theorem a44(a:Int)(b:Int)(m:Int)(ij27:Int)(ij26:Int)(n0:Nat)(cmp:GFn)(data:(List (A0 × A0)))(r:(List (A0 × A0)))(hw:((decide (ij26<ij27))=true->(0<=(wI ((wI ((wI ((wI ((wU (wI (a+b))).fdiv (2 ^ min (1:Int).toNat IntKind.u64.bits)))+m)) - 1)) - (wI ((wU (wI (ij26+ij27))).fdiv (2 ^ min (1:Int).toNat IntKind.u64.bits)))))/\(wI ((wI ((wI ((wI ((wU (wI (a+b))).fdiv (2 ^ min (1:Int).toNat IntKind.u64.bits)))+m)) - 1)) - (wI ((wU (wI (ij26+ij27))).fdiv (2 ^ min (1:Int).toNat IntKind.u64.bits)))))<(n0:Int))/\(∃y66,data[(wI ((wI ((wI ((wI ((wU (wI (a+b))).fdiv (2 ^ min (1:Int).toNat IntKind.u64.bits)))+m)) - 1)) - (wI ((wU (wI (ij26+ij27))).fdiv (2 ^ min (1:Int).toNat IntKind.u64.bits))))).toNat]? =some y66/\((0<=(wI ((wU (wI (ij26+ij27))).fdiv (2 ^ min (1:Int).toNat IntKind.u64.bits)))/\(wI ((wU (wI (ij26+ij27))).fdiv (2 ^ min (1:Int).toNat IntKind.u64.bits)))<(n0:Int))/\(∃y67,data[(wI ((wU (wI (ij26+ij27))).fdiv (2 ^ min (1:Int).toNat IntKind.u64.bits))).toNat]? =some y67/\(∃y68,a6z Tryz.prog [] (.clo (.func cmp.fn) cmp.fi cmp.cap) [.agg (V3 y66),.agg (V3 y67)] (aI y68)/\(((!(decide (y68<0)))=true->H6 a b m ij27 (wI ((wI ((wU (wI (ij26+ij27))).fdiv (2 ^ min (1:Int).toNat IntKind.u64.bits)))+1)) n0 cmp data r)/\((!(decide (y68<0)))=false->H6 a b m (wI ((wU (wI (ij26+ij27))).fdiv (2 ^ min (1:Int).toNat IntKind.u64.bits))) ij26 n0 cmp data r)))))))/\((decide (ij26<ij27))=false->(((decide (ij26<m))&&(decide (m<(wI ((wI ((wI ((wU (wI (a+b))).fdiv (2 ^ min (1:Int).toNat IntKind.u64.bits)))+m)) - ij26)))))=true->∃y59,a0n n0 data ij26 m (wI ((wI ((wI ((wU (wI (a+b))).fdiv (2 ^ min (1:Int).toNat IntKind.u64.bits)))+m)) - ij26)) cmp y59/\(data≠[]/\y59≠[])/\(M7 a b m ij26 n0 cmp y59 r))/\(((decide (ij26<m))&&(decide (m<(wI ((wI ((wI ((wU (wI (a+b))).fdiv (2 ^ min (1:Int).toNat IntKind.u64.bits)))+m)) - ij26)))))=false->M7 a b m ij26 n0 cmp data r))):H6 a b m ij27 ij26 n0 cmp data r:=
 KW 9 hw (fun _ hw=>KD 15 [0]<|KRI 5 14 hw fun hw=>KRn 0 B9 hw fun _ hw=>KRI 2 14 hw fun hw=>KRn 0 B9 hw fun _ hw=>KF 0 hw fun _ hw=>KW 5 hw (fun _ hw=>KJ 7 [] hw) fun _ hw=>KJ 6 [] hw) fun _ hw=>KT 20 4<|KW 2 hw (fun _ hw=>KRO 6 B9 hw g6s fun _ hw=>KJ 2 [] hw) fun _ hw=>KJ 2 [] hw
theorem a4u(ij21:Int)(ij22:Int)(a:Int)(b:Int)(m:Int)(n0:Nat)(cmp:GFn)(data:(List (A0 × A0)))(r:(List (A0 × A0)))(hw:H6 a b m ij21 ij22 n0 cmp data r):M5 ij21 ij22 a b m n0 cmp data r:=
 KJ 10 [] hw
theorem a79(n0:Nat)(data:(List (A0 × A0)))(a:Int)(m:Int)(b:Int)(cmp:GFn)(r:(List (A0 × A0)))(hw:(((wI (m - a))==1)=true->I2 b m n0 a cmp data r)/\(((wI (m - a))==1)=false->(((wI (b - m))==1)=true->H8 m a n0 m cmp data r)/\(((wI (b - m))==1)=false->((decide ((wI ((wU (wI (a+b))).fdiv (2 ^ min (1:Int).toNat IntKind.u64.bits)))<m))=true->M5 (wI ((wU (wI (a+b))).fdiv (2 ^ min (1:Int).toNat IntKind.u64.bits))) (wI ((wI ((wI ((wU (wI (a+b))).fdiv (2 ^ min (1:Int).toNat IntKind.u64.bits)))+m)) - b)) a b m n0 cmp data r)/\((decide ((wI ((wU (wI (a+b))).fdiv (2 ^ min (1:Int).toNat IntKind.u64.bits)))<m))=false->M5 m a a b m n0 cmp data r)))):H9 n0 data a m b cmp r:=
 fRO (KW 9 hw (fun _ hw=>KJ 15 [] hw) fun _ hw=>KW 11 hw (fun _ hw=>KJ 15 [] hw) fun _ hw=>KW 35 hw (fun _ hw=>KJ 13 [] hw) fun _ hw=>KJ 11 [] hw)
theorem g44(r:Bool):plain (h5z r)=true:=rfl
theorem b0d(x:ByteArray)(r:Bool)(hw:r=(!(decide (x=x)))):b02 x r:=
 fP (KR 14 hw g44)
theorem g4z(r:Bool):plain (h5n r)=true:=rfl
theorem a94(x:Int)(r:Bool)(hw:r=(x !=x)):b06 x r:=
 fP (KR 14 hw g4z)
theorem f8f(r:Int):plain (h17 r)=true:=rfl
def N6(ij1:Int)(s:(List (A0 × A0)))(f:GFn)(r:Int):Prop:=JP Tryz.prog 233 (h17 r) 3 [(8,aI ij1),(7,aI (s.length:Int)),(0,.sl (List.map A9 s) .no),(1,.clo (.func f.fn) f.fi f.cap)]
theorem a6d(ij1:Int)(s:(List (A0 × A0)))(f:GFn)(r:Int)(hw:((decide (ij1<(s.length:Int)))=true->∃y3,s[ij1.toNat]? =some y3/\0<=ij1/\(∃y4,a6z Tryz.prog [] (.clo (.func f.fn) f.fi f.cap) [.agg (V3 y3)] (aB y4)/\((y4=true->r=ij1)/\(y4=false->N6 (wI (ij1+1)) s f r))))/\((decide (ij1<(s.length:Int)))=false->r=(-1))):N6 ij1 s f r:=
 KW 7 hw (fun _ hw=>KI 15 B9 hw fun _ hw=>KF 1 hw fun _ hw=>KW 2 hw (fun _ hw=>KR 12 hw f8f) fun _ hw=>KJ 8 [] hw) fun _ hw=>KR 11 hw f8f
theorem a77(s:(List (A0 × A0)))(f:GFn)(r:Int)(hw:N6 0 s f r):a2t s f r:=
 fP (KL 9 B9 s<|KJ 5 [] hw)
def M0(ij1:Int)(n0:Nat)(a:Int)(b:Int)(n:Int)(lj2:(List (Int × A0)))(r:(List (Int × A0))):Prop:=J Tryz.prog 234 (.io 0 (.tuple []) (cellsOf B3 r) []) 1 [(10,aI ij1),(0,.row 0 0 8 n0 n0),(1,aI a),(2,aI b),(3,aI n)] ⟨[some (cellsOf B3 lj2)],[],[]⟩
theorem a4y(ij1:Int)(n0:Nat)(a:Int)(b:Int)(n:Int)(lj2:(List (Int × A0)))(r:(List (Int × A0)))(hw:((decide (ij1<n))=true->(0<=(wI (b+ij1))/\(wI (b+ij1))<(n0:Int))/\(∃y3,lj2[(wI (b+ij1)).toNat]? =some y3/\((0<=(wI (a+ij1))/\(wI (a+ij1))<(n0:Int))/\(∃y4,lj2[(wI (a+ij1)).toNat]? =some y4/\((0<=(wI (a+ij1))/\(wI (a+ij1))<(n0:Int))/\((wI (a+ij1)).toNat<lj2.length/\((0<=(wI (b+ij1))/\(wI (b+ij1))<(n0:Int))/\((wI (b+ij1)).toNat<(lj2.set (wI (a+ij1)).toNat y3).length/\(M0 (wI (ij1+1)) n0 a b n ((lj2.set (wI (a+ij1)).toNat y3).set (wI (b+ij1)).toNat y4) r)))))))))/\((decide (ij1<n))=false->lj2≠[]/\r=lj2)):M0 ij1 n0 a b n lj2 r:=
 KW 9 hw (fun _ hw=>KDL 4 [0]<|KRI 12 8 hw fun hw=>KRn 0 C0 hw fun y3 hw=>KRI 4 8 hw fun hw=>KRn 0 C0 hw fun y4 hw=>KRI 0 8 hw fun hw=>KRS 0 C0 y3 hw fun hw=>KRI 0 8 hw fun hw=>KRS 0 C0 y4 hw fun hw=>KJ 9 [] hw) fun _ hw=>KRr 4 C0 hw
theorem a74(n0:Nat)(data:(List (Int × A0)))(a:Int)(b:Int)(n:Int)(cmp:GFn)(r:(List (Int × A0)))(hw:M0 0 n0 a b n data r):K2 n0 data a b n cmp r:=
 fRO (KJ 7 [] hw)
def J9(ij3:Int)(ij1:Int)(n0:Nat)(m:Int)(cmp:GFn)(lj2:(List (A0 × A0)))(r:(List (A0 × A0))):Prop:=J Tryz.prog 235 (.io 0 (.tuple []) (cellsOf A9 r) []) 3 [(11,aI ij3),(10,aI ij1),(0,.row 0 0 14 n0 n0),(2,aI m),(4,.clo (.func cmp.fn) cmp.fi cmp.cap)] ⟨[some (cellsOf A9 lj2)],[],[]⟩
theorem a63(ij3:Int)(ij1:Int)(n0:Nat)(m:Int)(cmp:GFn)(lj2:(List (A0 × A0)))(r:(List (A0 × A0)))(hw:((ij1 !=ij3)=true->((decide (ij3<ij1))=true->∃y5,J7 n0 lj2 (wI (m - ij1)) m ij3 cmp y5/\(lj2≠[]/\y5≠[])/\(J9 ij3 (wI (ij1 - ij3)) n0 m cmp y5 r))/\((decide (ij3<ij1))=false->∃y6,J7 n0 lj2 (wI (m - ij1)) (wI ((wI (m+ij3)) - ij1)) ij1 cmp y6/\(lj2≠[]/\y6≠[])/\(J9 (wI (ij3 - ij1)) ij1 n0 m cmp y6 r)))/\((ij1 !=ij3)=false->∃y4,J7 n0 lj2 (wI (m - ij1)) m ij1 cmp y4/\(lj2≠[]/\y4≠[])/\(y4≠[]/\r=y4))):J9 ij3 ij1 n0 m cmp lj2 r:=
 KW 9 hw (fun _ hw=>KW 10 hw (fun _ hw=>KRO 9 B9 hw e6g fun _ hw=>KJ 10 [] hw) fun _ hw=>KRO 13 B9 hw e6g fun _ hw=>KJ 10 [] hw) fun _ hw=>KRO 13 B9 hw e6g fun _ hw=>KRr 1 B9 hw
theorem b0k(n0:Nat)(data:(List (A0 × A0)))(a:Int)(m:Int)(b:Int)(cmp:GFn)(r:(List (A0 × A0)))(hw:J9 (wI (b - m)) (wI (m - a)) n0 m cmp data r):a0n n0 data a m b cmp r:=
 fRO (KJ 19 [] hw)
def M2(ij1:Int)(n0:Nat)(a:Int)(b:Int)(n:Int)(lj2:(List (A0 × A0)))(r:(List (A0 × A0))):Prop:=J Tryz.prog 236 (.io 0 (.tuple []) (cellsOf A9 r) []) 1 [(10,aI ij1),(0,.row 0 0 14 n0 n0),(1,aI a),(2,aI b),(3,aI n)] ⟨[some (cellsOf A9 lj2)],[],[]⟩
theorem a4t(ij1:Int)(n0:Nat)(a:Int)(b:Int)(n:Int)(lj2:(List (A0 × A0)))(r:(List (A0 × A0)))(hw:((decide (ij1<n))=true->(0<=(wI (b+ij1))/\(wI (b+ij1))<(n0:Int))/\(∃y3,lj2[(wI (b+ij1)).toNat]? =some y3/\((0<=(wI (a+ij1))/\(wI (a+ij1))<(n0:Int))/\(∃y4,lj2[(wI (a+ij1)).toNat]? =some y4/\((0<=(wI (a+ij1))/\(wI (a+ij1))<(n0:Int))/\((wI (a+ij1)).toNat<lj2.length/\((0<=(wI (b+ij1))/\(wI (b+ij1))<(n0:Int))/\((wI (b+ij1)).toNat<(lj2.set (wI (a+ij1)).toNat y3).length/\(M2 (wI (ij1+1)) n0 a b n ((lj2.set (wI (a+ij1)).toNat y3).set (wI (b+ij1)).toNat y4) r)))))))))/\((decide (ij1<n))=false->lj2≠[]/\r=lj2)):M2 ij1 n0 a b n lj2 r:=
 KW 9 hw (fun _ hw=>KDL 4 [0]<|KRI 12 14 hw fun hw=>KRn 0 B9 hw fun y3 hw=>KRI 4 14 hw fun hw=>KRn 0 B9 hw fun y4 hw=>KRI 0 14 hw fun hw=>KRS 0 B9 y3 hw fun hw=>KRI 0 14 hw fun hw=>KRS 0 B9 y4 hw fun hw=>KJ 9 [] hw) fun _ hw=>KRr 4 B9 hw
theorem a7h(n0:Nat)(data:(List (A0 × A0)))(a:Int)(b:Int)(n:Int)(cmp:GFn)(r:(List (A0 × A0)))(hw:M2 0 n0 a b n data r):J7 n0 data a b n cmp r:=
 fRO (KJ 7 [] hw)
theorem h33(r:Bool):plain (e86 r)=true:=rfl
theorem c1r(it:b5u)(c1_:Int)(r:Bool)(hw:r=((wU it.Num)==c1_)):c06 it c1_ r:=
 fP (KR 17 hw h33)
theorem c3l(it:b5u)(c1_:Int)(r:Bool)(h:c06 it c1_ r):a6z Tryz.prog [] (.clo (.func 86) [] [.elt (b76 c1_) 0]) [.agg (a3f it)] (aB r):=⟨86,[],[.elt (b76 c1_) 0],rfl,(show plainL [.agg (a3f it),.elt (b76 c1_) 0]=true by simp),h⟩
theorem g7h(r:Bool):plain (h63 r)=true:=rfl
theorem c73(g:B7)(c1_:ByteArray)(r:Bool)(hw:r=(decide (g.Name=c1_))):d2d g c1_ r:=
 fP (KR 16 hw g7h)
theorem d0y(g:B7)(c1_:ByteArray)(r:Bool)(h:d2d g c1_ r):a6z Tryz.prog [] (.clo (.func 100) [] [.elt (e5z c1_) 0]) [.agg (D1 g)] (aB r):=⟨100,[],[.elt (e5z c1_) 0],rfl,(show plainL [.agg (D1 g),.elt (e5z c1_) 0]=true by simp),h⟩
theorem g68(r:Bool):plain (h6w r)=true:=rfl
theorem b12(y:(Int × A0))(c1_:GOp)(r:Bool)(hw:r=(y.1==c1_.Num)):a7u y c1_ r:=
 fP (KR 17 hw g68)
theorem b21(y:(Int × A0))(c1_:GOp)(r:Bool)(h:a7u y c1_ r):a6z Tryz.prog [] (.clo (.func 155) [] [.elt (Q8 c1_) 0]) [.agg (W9 y)] (aB r):=⟨155,[],[.elt (Q8 c1_) 0],rfl,(show plainL [.agg (W9 y),.elt (Q8 c1_) 0]=true by simp),h⟩
theorem g7p(r:Bool):plain (h6t r)=true:=rfl
theorem d22(o_:GOp)(c1_:Int)(r:Bool)(hw:r=(o_.Num==c1_)):d7o o_ c1_ r:=
 fP (KR 16 hw g7p)
theorem d6d(o_:GOp)(c1_:Int)(r:Bool)(h:d7o o_ c1_ r):a6z Tryz.prog [] (.clo (.func 161) [] [.elt (a8r c1_) 0]) [.agg (Q8 o_)] (aB r):=⟨161,[],[.elt (a8r c1_) 0],rfl,(show plainL [.agg (Q8 o_),.elt (a8r c1_) 0]=true by simp),h⟩
theorem g33(r:Bool):plain (h4z r)=true:=rfl
theorem b5j(y:(Int × A0))(c1_:GOp)(r:Bool)(hw:r=(y.1==c1_.Num)):b1f y c1_ r:=
 fP (KR 17 hw g33)
theorem b6n(y:(Int × A0))(c1_:GOp)(r:Bool)(h:b1f y c1_ r):a6z Tryz.prog [] (.clo (.func 185) [] [.elt (Q8 c1_) 0]) [.agg (W9 y)] (aB r):=⟨185,[],[.elt (Q8 c1_) 0],rfl,(show plainL [.agg (W9 y),.elt (Q8 c1_) 0]=true by simp),h⟩
theorem g3y(r:Bool):plain (h6h r)=true:=rfl
theorem b17(q:(A0 × A0))(c1_:(A0 × A0))(r:Bool)(hw:∃y1,b3o q.1 c1_.1 y1/\(r=y1)):a7i q c1_ r:=
 fP (KC 12 hw g3p fun _ hw=>KR 4 hw g3y)
theorem b26(q:(A0 × A0))(c1_:(A0 × A0))(r:Bool)(h:a7i q c1_ r):a6z Tryz.prog [] (.clo (.func 226) [] [.elt (V3 c1_) 0]) [.agg (V3 q)] (aB r):=⟨226,[],[.elt (V3 c1_) 0],rfl,(show plainL [.agg (V3 q),.elt (V3 c1_) 0]=true by simp),h⟩
end
section
def f8d(cmp:GFn)(x y:(A0 × A0))(z:Int):Prop:=a6z Tryz.prog [] (.clo (.func cmp.fn) cmp.fi cmp.cap) [.agg (V3 x),.agg (V3 y)] (.v (.int .i64 z))
def f2d(cmp:GFn):d5k ((A0 × A0)) (f8d cmp) where
 swj:=fun a0 a1 a2 a3 a4 a5 a6=>M2 a0 a1 a2 a3 a4 a5 a6
 sw:=fun a0 a1 a2 a3 a4 a6=>J7 a0 a1 a2 a3 a4 cmp a6
 roj:=fun a0 a1 a2 a3 a5 a6=>J9 a0 a1 a2 a3 cmp a5 a6
 ro:=fun a0 a1 a2 a3 a4 a6=>a0n a0 a1 a2 a3 a4 cmp a6
 in6:=fun a0 a1 a2 a3 a4 a6 a7=>I5 a0 a1 a2 a3 a4 cmp a6 a7
 in4:=fun a0 a1 a2 a3 a5 a6=>I6 a0 a1 a2 a3 cmp a5 a6
 ins:=fun a0 a1 a2 a3 a5=>L4 a0 a1 a2 a3 cmp a5
 sy6:=fun a0 a1 a2 a3 a4=>N9 a0 a1 a2 a3 a4
 sy4:=fun a0 a1 a2 a3 a5 a6=>I2 a0 a1 a2 a3 cmp a5 a6
 sy12:=fun a0 a1 a2 a3 a4=>M1 a0 a1 a2 a3 a4
 sy10:=fun a0 a1 a2 a3 a5 a6=>H8 a0 a1 a2 a3 cmp a5 a6
 sy42:=fun a0 a1 a2 a3 a4 a6 a7=>L9 a0 a1 a2 a3 a4 cmp a6 a7
 sy40:=fun a0 a1 a2 a3 a4 a6 a7=>M7 a0 a1 a2 a3 a4 cmp a6 a7
 sy36:=fun a0 a1 a2 a3 a4 a5 a7 a8=>H6 a0 a1 a2 a3 a4 a5 cmp a7 a8
 sy28:=fun a0 a1 a2 a3 a4 a5 a7 a8=>M5 a0 a1 a2 a3 a4 a5 cmp a7 a8
 sy:=fun a0 a1 a2 a3 a4 a6=>H9 a0 a1 a2 a3 a4 cmp a6
 st14:=fun a0 a1 a2 a3 a4 a6 a7=>P0 a0 a1 a2 a3 a4 cmp a6 a7
 st12:=fun a0 a1 a2 a4 a5=>I9 a0 a1 a2 cmp a4 a5
 st8:=fun a0 a1 a2 a3 a5 a6=>Q6 a0 a1 a2 a3 cmp a5 a6
 st:=fun a0 a1 a2 a4=>a0o a0 a1 a2 cmp a4
 so:=fun a0 a1 a3=>T1 a0 a1 cmp a3
 h_swj:=fun a0 a1 a2 a3 a4 a5 a6 h=>a4t a0 a1 a2 a3 a4 a5 a6 h
 h_sw:=fun a0 a1 a2 a3 a4 a6 h=>a7h a0 a1 a2 a3 a4 cmp a6 h
 h_roj:=fun a0 a1 a2 a3 a5 a6 h=>a63 a0 a1 a2 a3 cmp a5 a6 h
 h_ro:=fun a0 a1 a2 a3 a4 a6 h=>b0k a0 a1 a2 a3 a4 cmp a6 h
 h_in6:=fun a0 a1 a2 a3 a4 a6 a7 h=>a2n a0 a1 a2 a3 a4 cmp a6 a7 h
 h_in4:=fun a0 a1 a2 a3 a5 a6 h=>a2j a0 a1 a2 a3 cmp a5 a6 h
 h_ins:=fun a0 a1 a2 a3 a5 h=>a39 a0 a1 a2 a3 cmp a5 h
 h_sy6:=fun a0 a1 a2 a3 a4 h=>a52 a0 a1 a2 a3 a4 h
 h_sy4:=fun a0 a1 a2 a3 a5 a6 h=>a6c a0 a1 a2 a3 cmp a5 a6 h
 h_sy12:=fun a0 a1 a2 a3 a4 h=>a41 a0 a1 a2 a3 a4 h
 h_sy10:=fun a0 a1 a2 a3 a5 a6 h=>a4o a0 a1 a2 a3 cmp a5 a6 h
 h_sy42:=fun a0 a1 a2 a3 a4 a6 a7 h=>a46 a0 a1 a2 a3 a4 cmp a6 a7 h
 h_sy40:=fun a0 a1 a2 a3 a4 a6 a7 h=>a4m a0 a1 a2 a3 a4 cmp a6 a7 h
 h_sy36:=fun a0 a1 a2 a3 a4 a5 a7 a8 h=>a44 a0 a1 a2 a3 a4 a5 cmp a7 a8 h
 h_sy28:=fun a0 a1 a2 a3 a4 a5 a7 a8 h=>a4u a0 a1 a2 a3 a4 a5 cmp a7 a8 h
 h_sy:=fun a0 a1 a2 a3 a4 a6 h=>a79 a0 a1 a2 a3 a4 cmp a6 h
 h_st14:=fun a0 a1 a2 a3 a4 a6 a7 h=>a6v a0 a1 a2 a3 a4 cmp a6 a7 h
 h_st12:=fun a0 a1 a2 a4 a5 h=>a6x a0 a1 a2 cmp a4 a5 h
 h_st8:=fun a0 a1 a2 a3 a5 a6 h=>a7g a0 a1 a2 a3 cmp a5 a6 h
 h_st:=fun a0 a1 a2 a4 h=>b0e a0 a1 a2 cmp a4 h
 h_so:=fun a0 a1 a3 h=>a4b a0 a1 cmp a3 h
def f6s(cmp:GFn)(x y:(Int × A0))(z:Int):Prop:=a6z Tryz.prog [] (.clo (.func cmp.fn) cmp.fi cmp.cap) [.agg (W9 x),.agg (W9 y)] (.v (.int .i64 z))
def e7k(cmp:GFn):d5k ((Int × A0)) (f6s cmp) where
 swj:=fun a0 a1 a2 a3 a4 a5 a6=>M0 a0 a1 a2 a3 a4 a5 a6
 sw:=fun a0 a1 a2 a3 a4 a6=>K2 a0 a1 a2 a3 a4 cmp a6
 roj:=fun a0 a1 a2 a3 a5 a6=>J6 a0 a1 a2 a3 cmp a5 a6
 ro:=fun a0 a1 a2 a3 a4 a6=>a0q a0 a1 a2 a3 a4 cmp a6
 in6:=fun a0 a1 a2 a3 a4 a6 a7=>I4 a0 a1 a2 a3 a4 cmp a6 a7
 in4:=fun a0 a1 a2 a3 a5 a6=>I7 a0 a1 a2 a3 cmp a5 a6
 ins:=fun a0 a1 a2 a3 a5=>K9 a0 a1 a2 a3 cmp a5
 sy6:=fun a0 a1 a2 a3 a4=>O3 a0 a1 a2 a3 a4
 sy4:=fun a0 a1 a2 a3 a5 a6=>I1 a0 a1 a2 a3 cmp a5 a6
 sy12:=fun a0 a1 a2 a3 a4=>M3 a0 a1 a2 a3 a4
 sy10:=fun a0 a1 a2 a3 a5 a6=>H7 a0 a1 a2 a3 cmp a5 a6
 sy42:=fun a0 a1 a2 a3 a4 a6 a7=>M6 a0 a1 a2 a3 a4 cmp a6 a7
 sy40:=fun a0 a1 a2 a3 a4 a6 a7=>M4 a0 a1 a2 a3 a4 cmp a6 a7
 sy36:=fun a0 a1 a2 a3 a4 a5 a7 a8=>H4 a0 a1 a2 a3 a4 a5 cmp a7 a8
 sy28:=fun a0 a1 a2 a3 a4 a5 a7 a8=>M8 a0 a1 a2 a3 a4 a5 cmp a7 a8
 sy:=fun a0 a1 a2 a3 a4 a6=>I0 a0 a1 a2 a3 a4 cmp a6
 st14:=fun a0 a1 a2 a3 a4 a6 a7=>P5 a0 a1 a2 a3 a4 cmp a6 a7
 st12:=fun a0 a1 a2 a4 a5=>J1 a0 a1 a2 cmp a4 a5
 st8:=fun a0 a1 a2 a3 a5 a6=>Q5 a0 a1 a2 a3 cmp a5 a6
 st:=fun a0 a1 a2 a4=>a0l a0 a1 a2 cmp a4
 so:=fun a0 a1 a3=>T3 a0 a1 cmp a3
 h_swj:=fun a0 a1 a2 a3 a4 a5 a6 h=>a4y a0 a1 a2 a3 a4 a5 a6 h
 h_sw:=fun a0 a1 a2 a3 a4 a6 h=>a74 a0 a1 a2 a3 a4 cmp a6 h
 h_roj:=fun a0 a1 a2 a3 a5 a6 h=>a71 a0 a1 a2 a3 cmp a5 a6 h
 h_ro:=fun a0 a1 a2 a3 a4 a6 h=>b0p a0 a1 a2 a3 a4 cmp a6 h
 h_in6:=fun a0 a1 a2 a3 a4 a6 a7 h=>a2i a0 a1 a2 a3 a4 cmp a6 a7 h
 h_in4:=fun a0 a1 a2 a3 a5 a6 h=>a2l a0 a1 a2 a3 cmp a5 a6 h
 h_ins:=fun a0 a1 a2 a3 a5 h=>a4f a0 a1 a2 a3 cmp a5 h
 h_sy6:=fun a0 a1 a2 a3 a4 h=>a5j a0 a1 a2 a3 a4 h
 h_sy4:=fun a0 a1 a2 a3 a5 a6 h=>a5e a0 a1 a2 a3 cmp a5 a6 h
 h_sy12:=fun a0 a1 a2 a3 a4 h=>a43 a0 a1 a2 a3 a4 h
 h_sy10:=fun a0 a1 a2 a3 a5 a6 h=>a4n a0 a1 a2 a3 cmp a5 a6 h
 h_sy42:=fun a0 a1 a2 a3 a4 a6 a7 h=>a4p a0 a1 a2 a3 a4 cmp a6 a7 h
 h_sy40:=fun a0 a1 a2 a3 a4 a6 a7 h=>a4k a0 a1 a2 a3 a4 cmp a6 a7 h
 h_sy36:=fun a0 a1 a2 a3 a4 a5 a7 a8 h=>a40 a0 a1 a2 a3 a4 a5 cmp a7 a8 h
 h_sy28:=fun a0 a1 a2 a3 a4 a5 a7 a8 h=>a47 a0 a1 a2 a3 a4 a5 cmp a7 a8 h
 h_sy:=fun a0 a1 a2 a3 a4 a6 h=>a8f a0 a1 a2 a3 a4 cmp a6 h
 h_st14:=fun a0 a1 a2 a3 a4 a6 a7 h=>a60 a0 a1 a2 a3 a4 cmp a6 a7 h
 h_st12:=fun a0 a1 a2 a4 a5 h=>a61 a0 a1 a2 cmp a4 a5 h
 h_st8:=fun a0 a1 a2 a3 a5 a6 h=>a7l a0 a1 a2 a3 cmp a5 a6 h
 h_st:=fun a0 a1 a2 a4 h=>b0t a0 a1 a2 cmp a4 h
 h_so:=fun a0 a1 a3 h=>a38 a0 a1 cmp a3 h
attribute [local irreducible] Ok run put d2l br jn pos dr0 dr1 So
theorem a57(f:Nat):B8 Tryz.prog [] 228 [.sl [] .no,aI 0,aI 0,.clo (.func f) [] []] (.tuple []):=
 fP (KKn 18 (B:=false) (b:=false) rfl<|KR (T:=Unit) (e:=fun _=>.tuple []) (r:=()) (r0:=()) 4 rfl (fun _=>rfl))
theorem a5v(f:Nat):B8 Tryz.prog [] 218 [.sl [] .no,aI 0,.clo (.func f) [] []] (.tuple []):=
 fP (KKn 24 (B:=false) (b:=false) rfl<|KC0 11 (p:=True) ⟨a57 f,trivial⟩ rfl fun _=>KKn 13 (B:=false) (b:=false) rfl<|KR (T:=Unit) (e:=fun _=>.tuple []) (r:=()) (r0:=()) 4 rfl (fun _=>rfl))
theorem a23(f:Nat):X3 (⟨f,[],[],rfl⟩:GFn):=
 fP (KL 3 B9 []<|KC0 1 (p:=True) ⟨a5v f,trivial⟩ rfl fun _=>KR (T:=Unit) (e:=fun _=>.tuple []) (r:=()) (r0:=()) 1 rfl (fun _=>rfl))
theorem a5u(f:Nat):B8 Tryz.prog [] 216 [.sl [] .no,aI 0,aI 0,.clo (.func f) [] []] (.tuple []):=
 fP (KKn 18 (B:=false) (b:=false) rfl<|KR (T:=Unit) (e:=fun _=>.tuple []) (r:=()) (r0:=()) 4 rfl (fun _=>rfl))
theorem a54(f:Nat):B8 Tryz.prog [] 189 [.sl [] .no,aI 0,.clo (.func f) [] []] (.tuple []):=
 fP (KKn 24 (B:=false) (b:=false) rfl<|KC0 11 (p:=True) ⟨a5u f,trivial⟩ rfl fun _=>KKn 13 (B:=false) (b:=false) rfl<|KR (T:=Unit) (e:=fun _=>.tuple []) (r:=()) (r0:=()) 4 rfl (fun _=>rfl))
theorem a2y(f:Nat):X5 (⟨f,[],[],rfl⟩:GFn):=
 fP (KL 3 C0 []<|KC0 1 (p:=True) ⟨a54 f,trivial⟩ rfl fun _=>KR (T:=Unit) (e:=fun _=>.tuple []) (r:=()) (r0:=()) 1 rfl (fun _=>rfl))
theorem a7t(f:Nat):B8 Tryz.prog [] 195 [.sl [] .no,aI 0,aI 0,.clo (.func f) [] []] (.tuple []):=
 fP (KKn 18 (B:=false) (b:=false) rfl<|KR (T:=Unit) (e:=fun _=>.tuple []) (r:=()) (r0:=()) 4 rfl (fun _=>rfl))
theorem a7q(f:Nat):B8 Tryz.prog [] 166 [.sl [] .no,aI 0,.clo (.func f) [] []] (.tuple []):=
 fP (KKn 24 (B:=false) (b:=false) rfl<|KC0 11 (p:=True) ⟨a7t f,trivial⟩ rfl fun _=>KKn 13 (B:=false) (b:=false) rfl<|KR (T:=Unit) (e:=fun _=>.tuple []) (r:=()) (r0:=()) 4 rfl (fun _=>rfl))
theorem a4c(f:Nat):Z2 (⟨f,[],[],rfl⟩:GFn):=
 fP (KL 3 a6w []<|KC0 1 (p:=True) ⟨a7q f,trivial⟩ rfl fun _=>KR (T:=Unit) (e:=fun _=>.tuple []) (r:=()) (r0:=()) 1 rfl (fun _=>rfl))
end
def a4i(x y:Int):Int:=if x<y then -1 else if y<x then 1 else 0
theorem c5i(x y:Int):S4 x y (a4i x y):=by
 refine c0s _ _ _ ⟨false,b4z _ _ (by simp),false,b4z _ _ (by simp),fun h=>by simp at h,fun _=>⟨fun h=>by simp at h,fun _=>⟨fun h=>?_,fun h=>⟨fun h2=>?_,fun h2=>?_⟩⟩⟩⟩
 ·simp at h;simp[a4i,h]
 ·simp at h h2;simp[a4i,h2];omega
 ·simp at h h2;simp only[a4i];rw[if_neg (by omega),if_neg (by omega)]
theorem Q0(x y:Int):(x<y/\a4i x y= -1)\/(x=y/\a4i x y=0)\/(y<x/\a4i x y=1):=by
 unfold a4i;split
 ·exact .inl ⟨by assumption,rfl⟩
 ·split
  ·exact .inr (.inr ⟨by assumption,rfl⟩)
  ·exact .inr (.inl ⟨by omega,rfl⟩)
theorem e8p{α:Type}(k:α->Int):Pre (fun x y=>a4i (k x) (k y)) (fun _:α=>True):=by
 refine⟨fun x y _ _=>?_,fun x y z _ _ _ h1 h2=>?_⟩
 ·rcases Q0 (k x) (k y) with h|h|h<;>rcases Q0 (k y) (k x) with g|g|g<;>simp only[h.2,g.2]<;>omega
 ·rcases Q0 (k x) (k y) with h|h|h<;>rcases Q0 (k y) (k z) with g|g|g<;>rcases Q0 (k x) (k z) with e|e|e<;>simp only[h.2,g.2,e.2]at* <;>omega
theorem e91(a b:Int × A0):c3y a b (a4i a.1 b.1):=c29 _ _ _ ⟨_,c5i _ _,rfl⟩
theorem e40(x y:Int × A0):f6s (⟨160,[],[],rfl⟩:GFn) x y (a4i x.1 y.1):=⟨160,[],[],rfl,(show plainL [AV.agg (W9 x),AV.agg (W9 y)]=true by simp[plainL,plain,O0]),e91 x y⟩
def c72:List (Int × A0)->List (Int × A0)
 |[]=>[]
 |[x]=>[x]
 |x::y::l=>if x.1=y.1 then c72 (y::l) else x::c72 (y::l)
theorem e4q(S:List (Int × A0))(hl:S.length*136<=140737488355328):∀(d i:Nat) (done:List (Int × A0)),S.length - i<=d->i<=S.length->done.length<=i->a42 i S done (done++c72 (S.drop i)):=by
 intro d
 induction d with
 |zero=>
  intro i done hd hi hn;have e:i=S.length:=by omega
  subst e;exact a5w _ _ _ _ ⟨fun h=>by simp at h,fun _=>by simp[c72]⟩
 |succ d ih=>
  intro i done hd hi hn;rcases Nat.lt_or_ge i S.length with hlt|hge
  ·have e1:wI ((i:Int)+1)=((i+1:Nat):Int):=by rw[wI,C7 (by omega)];omega
   have g1:S[i]? =some S[i]:=List.getElem?_eq_getElem hlt;have dr:S.drop i=S[i]::S.drop (i+1):=List.drop_eq_getElem_cons hlt;refine a5w _ _ _ _ ⟨fun _=>⟨S[i],by simpa using g1,by omega,fun b=>c72 (S.drop i)=if b then S[i]::c72 (S.drop (i+1)) else c72 (S.drop (i+1)),fun b hb=>⟨fun h=>?_,fun h=>?_⟩,fun h=>?_,fun h=>?_⟩,fun h=>by simp at h;omega⟩
   ·subst h;refine⟨by simp;omega,?_⟩;rw[e1,hb];have:=ih (i+1) (done++[S[i]]) (by omega) (by omega) (by simp;omega);simpa using this
   ·subst h;rw[e1,hb];exact ih (i+1) done (by omega) (by omega) (by omega)
   ·rw[e1]at h;simp at h;have:S.drop (i+1)=[]:=List.drop_eq_nil_of_le (by omega);rw[dr,this];rfl
   ·rw[e1]at h ⊢;simp at h;have h2:i+1<S.length:=by omega
    have g2:S[i+1]? =some S[i+1]:=List.getElem?_eq_getElem h2;have dr2:S.drop (i+1)=S[i+1]::S.drop (i+1+1):=List.drop_eq_getElem_cons h2;refine⟨S[i+1],by simpa using g2,by omega,?_⟩;rw[dr,dr2];simp only[c72];rcases Classical.em (S[i].1=S[i+1].1) with h3|h3
    ·simp[h3]
    ·simp[h3]
  ·exact a5w _ _ _ _ ⟨fun h=>by simp at h;omega,fun _=>by rw[List.drop_eq_nil_of_le hge];simp[c72]⟩
theorem f44(l:List (Int × A0))(hl:l.length*136<=140737488355328):∃S,d04 (fun x y:Int × A0=>a4i x.1 y.1) l S/\b33 l (c72 S):=by
 rcases Classical.em (l=[]) with h0|h0
 ·subst h0;refine⟨[],⟨[],.nil,by simp[a32],rfl⟩,b75 _ _ ⟨fun _=>⟨?_,a2y _,c2c _ _ _ ⟨fun h=>by simp at h,fun _=>rfl⟩⟩,fun h=>(h rfl).elim⟩⟩;exact b14 _ _ fun b _=>⟨fun _=>rfl,fun _=>⟨by simp,rfl⟩⟩
 ·have hpos:0<l.length:=List.length_pos_iff.2 h0;obtain⟨S,h1,h2,h3⟩:=f6w (e7k ⟨160,[],[],rfl⟩) (e8p fun x:Int × A0=>x.1) (fun x y _ _=>e40 x y) (n0:=l.length) (by omega) hpos (a32 l) (by simp[a32]) (fun _ _=>trivial) (d4h l);rw[c40]at h3;have hlen:(fs S).length=l.length:=by simp[h2.length_eq,a32]
  refine⟨fs S,⟨S,h1,h2,rfl⟩,b75 _ _ ⟨fun h=>(h0 h).elim,fun _=>⟨a8a _ ⟨h0,hl⟩,fs S,h3,⟨h0,fun h=>?_⟩,hlen,?_⟩⟩⟩
  ·rw[h]at hlen;simp at hlen;omega
  ·have:=e4q (fs S) (by rw[hlen];exact hl) (fs S).length 0 [] (by omega) (by omega) (by simp);simpa using this
theorem f3q(a:Nat):a&&&4503599627370495=a % 4503599627370496:=Nat.and_two_pow_sub_one_eq_mod a 52
theorem e24(z:Nat)(hz:z<18446744073709551616):b5b z (f7x z):=by
 have e1:F1 .and .u64 (z:Int) 9218868437227405312=((z % 9223372036854775808 / 4503599627370496*4503599627370496:Nat):Int):=by
  have:=b4y z 9218868437227405312 hz (by omega);rw[g1l]at this;exact this
 have e2:F1 .and .u64 (z:Int) 4503599627370495=((z % 4503599627370496:Nat):Int):=by
  have:=b4y z 4503599627370495 hz (by omega);rw[f3q]at this;exact this
 refine c6i _ _ ?_;rw[e1,e2];simp only[Bool.and_eq_true,Bool.and_eq_false_iff,beq_iff_eq,beq_eq_false_iff_ne,bne_iff_ne,bne_eq_false_iff_eq];unfold f7x;refine⟨fun h=>?_,fun h=>⟨fun h2=>?_,fun h2=>⟨fun h3=>?_,fun h3=>⟨fun h4=>?_,fun h4=>?_⟩⟩⟩⟩
 all_goals (repeat' split)<;>first|rfl|(exfalso;omega)
theorem d7h(z:Nat)(hz:z<18446744073709551616):b71 z (f7x z):=by
 have e:(z:Int).tmod 9223372036854775808=((z % 9223372036854775808:Nat):Int):=rfl;refine c8l _ _ ?_;rw[e];simp only[decide_eq_true_eq,decide_eq_false_iff_not,beq_iff_eq,beq_eq_false_iff_ne];unfold f7x;refine⟨fun h=>?_,fun h=>⟨fun h2=>?_,fun h2=>⟨fun h3=>?_,fun h3=>⟨fun h4=>?_,fun h4=>?_⟩⟩⟩⟩
 all_goals (repeat' split)<;>first|rfl|(exfalso;omega)
section
open Go.RowKit Go.ChangeShapes Go.WideShapes Go.ChangeAt
def TyV(P:Program)(n:Nat)(t:TypeId)(av:AV):Prop:=
 match P.underlying t with
 |some (.struct _)|some (.array _ _)=>∃avs,av=.agg avs/\Ty P n t avs
 |_=>Ty P n t [av]
theorem d6k{σ:Sg}{avs:List AV}{cs:Array Value}(h:F3 σ avs cs.toList):Rel σ (.agg avs) (.agg cs):=by
 refine .agg avs cs (by simpa using h.1) (fun i av hi=>(h.2 i av hi).1) (fun i=>cs.toList[i]?.getD (.bool false)) (fun i av hi=>?_) (fun i av hi=>?_)
 ·obtain⟨_,x,hx,_⟩:=h.2 i av hi;rw[hx];simpa using hx
 ·obtain⟨_,x,hx,hr⟩:=h.2 i av hi;rw[hx];exact hr
theorem c4e{σ:Sg}{av:AV}{v:Value}(h:F3 σ [av] v.cells.toList)(hv:∀cs,v≠.agg cs):Rel σ av v:=by
 obtain⟨_,x,hx,hr⟩:=h.2 0 av rfl;cases v with
 |agg cs=>exact absurd rfl (hv cs)
 |_=>simp[Value.cells]at hx;subst hx;exact hr
section
variable {H:Type}{enc:TypeId × Value->H}{P:Program}{W:World}{base b0:Nat}{spare:Nat->Bool}{held:Bool}
theorem c9u{ts:List TypeId}(ok:d9z P ts=true){t:TypeId}(ht:t∈ts){v:Value}{d:DataW H}{p:List MemPlace}(hval:Value.okWide P W .any b0 t v)(h:DataW.Trod enc P W base spare held t v d p)(hw:a0v P t d):
  ∃n av,Rel (bare W b7u) av v/\TyV P n t av/\plain av=true:=by
 obtain⟨m,hm⟩:=h;obtain⟨avs,hc,hty,hpl⟩:=e5k ok m t _ _ ht hm hw;cases m with
 |zero=>simp[DataW.trod]at hm
 |succ m=>
  have hok:=List.all_eq_true.1 ok t ht;unfold okT at hok;unfold TyV;unfold Value.okWide at hval;split at hok
  ·rename_i k hu;rw[hu]at hval;simp only[Cell.okWide,hu,Cell.ok]at hval;have h2:=hty;unfold Ty at h2;rw[hu]at h2;obtain⟨x,rfl,_⟩:=h2;refine⟨m+1,_,c4e hc (fun cs he=>by subst he;simp at hval),by rw[hu];exact hty,rfl⟩
  ·rename_i hu;rw[hu]at hval;simp only[Cell.okWide,hu,Cell.ok]at hval;have h2:=hty;unfold Ty at h2;rw[hu]at h2;obtain⟨x,rfl⟩:=h2;refine⟨m+1,_,c4e hc (fun cs he=>by subst he;simp at hval),by rw[hu];exact hty,rfl⟩
  ·rename_i hu;rw[hu]at hval;simp only[Cell.okWide,hu,Cell.ok]at hval;have h2:=hty;unfold Ty at h2;rw[hu]at h2;obtain⟨x,rfl,_⟩:=h2;refine⟨m+1,_,c4e hc (fun cs he=>by subst he;simp at hval),by rw[hu];exact hty,rfl⟩
  ·rename_i e hu;rw[hu]at hval;simp only[Cell.okWide,hu,Cell.ok]at hval;have h2:=hty;unfold Ty at h2;rw[hu]at h2;obtain⟨x,rfl,_⟩:=h2;refine⟨m+1,_,c4e hc (fun cs he=>by subst he;simp at hval),by rw[hu];exact hty,by simpa[plainL]using hpl⟩
  ·rename_i fs hu;rw[hu]at hval;obtain⟨cs,rfl,_⟩:=hval;exact⟨m+1,.agg avs,d6k hc,by rw[hu];exact⟨avs,rfl,hty⟩,hpl⟩
  ·rename_i k e hu;rw[hu]at hval;obtain⟨cs,rfl,_⟩:=hval;exact⟨m+1,.agg avs,d6k hc,by rw[hu];exact⟨avs,rfl,hty⟩,hpl⟩
  ·cases hok
end
def g0a(P:Program)(t:TypeId):List TypeId:=
 match P.underlying t with
 |some (.slice e)=>[e]
 |some (.struct fs)=>fs.toList.map (·.type)
 |some (.array _ e)=>[e]
 |_=>[]
def e2n:List TypeId->List TypeId->List TypeId
 |l,[]=>l
 |l,t::r=>e2n (if l.contains t then l else l++[t]) r
def d8e(P:Program):Nat->List TypeId->List TypeId
 |0,l=>l
 |n+1,l=>d8e P n (e2n l (l.flatMap (g0a P)))
theorem f0r(σ:Sg):d2m σ [] []:=⟨rfl,fun i av h=>by simp at h⟩
theorem c5g{σ:Sg}{a:AV}{v:Value}{l:List AV}{xs:List Value}(h:Rel σ a v)(hr:d2m σ l xs):d2m σ (a::l) (v::xs):=by
 refine⟨by simp[hr.1],fun i av hi=>?_⟩;cases i with
 |zero=>simp at hi;subst hi;exact⟨v,rfl,h⟩
 |succ i=>obtain⟨x,h1,h2⟩:=hr.2 i av (by simpa using hi);exact⟨x,by simpa using h1,h2⟩
theorem f92{av:AV}(h:nz av=.v (.bool true)):av=.v (.bool true):=by
 cases av with
 |v x=>simpa[nz,nzA,nz1]using h
 |_=>simp[nz,nzA,nz1]at h
theorem e4a{P:Program}{f:FuncId}{args:List AV}{cargs:Array Value}{W:World}(hf:B8 P [] f args (.v (.bool true)))(hr:d2m (bare W b7u) args cargs.toList):
  Calls P f cargs W fun e W'=>e=.returned (.bool true)/\Below W.heap.size W W':=by
 refine(hf.2 W b7u cargs (fun b o h=>h.elim) (fun g cells h=>by cases h) hr).mono fun e W' ⟨av,x,he,hp,hrel,hav⟩=>?_
 rw[f92 hav]at hrel;cases hrel with
 |v _ _=>exact⟨he,hp.below⟩
end
def I64(n:Int):Prop:= -9223372036854775808<=n/\n<=9223372036854775807
def U64(n:Int):Prop:=0<=n/\n<18446744073709551616
def Sz(n:Nat):Prop:=n<=140737488351232
structure e5i(x:H1):Prop where
 num:I64 x.Num
 wire:I64 x.Wire
 bits:U64 x.Bits
 data:Sz x.Data.size
inductive OkD:A0->Prop
 |mk (v:A0) (k:I64 v.Kind) (b:U64 v.Bits) (t:Sz v.Text.size) (l:Sz v.List_.length) (p:Sz v.Pairs.length) (s:Sz v.Slots.length) (r:Sz v.Raws.length)
  (hl:∀x∈v.List_,OkD x) (hk:∀x∈v.Pairs,OkD x.1) (hv:∀x∈v.Pairs,OkD x.2) (hn:∀x∈v.Slots,I64 x.1) (hs:∀x∈v.Slots,OkD x.2) (hr:∀x∈v.Raws,e5i x) (w:Sz (v.List_.length*128)/\Sz (v.Pairs.length*256)/\Sz (v.Slots.length*136)/\Sz (v.Raws.length*40)):OkD v
section
variable {P:Program}{n:Nat}{t:TypeId}{avs:List AV}
def TyL(P:Program)(m:Nat):List TypeId->List AV->Prop
 |[],avs=>avs=[]
 |t::ts,avs=>∃a b,avs=a++b/\Ty P m t a/\TyL P m ts b
theorem f8h{m:Nat}:∀(fs:List Field) (parts:List (List AV)),parts.length=fs.length->(∀(i:Nat) (f:Field),fs[i]? =some f->∃p,parts[i]? =some p/\Ty P m f.type p)->TyL P m (fs.map (·.type)) parts.flatten
 |[],[],_,_=>rfl
 |[],_::_,h,_=>by cases h
 |_::_,[],h,_=>by cases h
 |f::fs,p::parts,hl,h=>by
  obtain⟨q,hq,hty⟩:=h 0 f rfl;cases hq;exact⟨p,parts.flatten,by simp,hty,f8h fs parts (by simpa using hl) fun i g hg=>h (i+1) g (by simpa using hg)⟩
def c0c(P:Program)(t:TypeId):Option (List TypeId):=match P.underlying t with|some (.struct fs)=>some (fs.toList.map (·.type))|_=>none
theorem d1k{ts:List TypeId}(hu:c0c P t=some ts)(h:Ty P n t avs):∃m,n=m+1/\TyL P m ts avs:=by
 cases n with
 |zero=>exact absurd h (by unfold Ty;exact id)
 |succ m=>
  unfold c0c at hu;unfold Ty at h;split at hu
  ·rename_i fs hfs;rw[hfs]at h;obtain⟨parts,rfl,hl,hp⟩:=h;cases hu;exact⟨m,rfl,f8h fs.toList parts (by simpa using hl) (fun i f hf=>hp i f (by simpa using hf))⟩
  ·cases hu
theorem f7s{k:IntKind}(hu:P.underlying t=some (.int k))(h:Ty P n t avs):∃m,avs=[.v (.int k m)]/\(Lit.int k m).wf=true:=by
 cases n with
 |zero=>exact absurd h (by unfold Ty;exact id)
 |succ m=>unfold Ty at h;rw[hu]at h;exact h
theorem b44(hu:P.underlying t=some (.int .i64))(h:Ty P n t avs):∃m,avs=[.v (.int .i64 m)]/\I64 m:=by
 obtain⟨m,h1,h2⟩:=f7s hu h;refine⟨m,h1,?_⟩;simp only[Lit.wf,Bool.and_eq_true,decide_eq_true_eq]at h2;exact h2
theorem f61(hu:P.underlying t=some (.int .u64))(h:Ty P n t avs):∃m,avs=[.v (.int .u64 m)]/\U64 m:=by
 obtain⟨m,h1,h2⟩:=f7s hu h;refine⟨m,h1,?_⟩;simp only[Lit.wf,Bool.and_eq_true,decide_eq_true_eq]at h2;have e1:IntKind.u64.min=0:=by decide
 have e2:IntKind.u64.max=18446744073709551615:=by decide
 unfold U64;omega
theorem g19(hu:P.underlying t=some .bool)(h:Ty P n t avs):∃b,avs=[.v (.bool b)]:=by
 cases n with
 |zero=>exact absurd h (by unfold Ty;exact id)
 |succ m=>unfold Ty at h;rw[hu]at h;exact h
theorem c24(hu:P.underlying t=some .string)(h:Ty P n t avs):∃s:ByteArray,avs=[.v (.string s)]/\Sz s.size:=by
 cases n with
 |zero=>exact absurd h (by unfold Ty;exact id)
 |succ m=>unfold Ty at h;rw[hu]at h;exact h
theorem d7x{e:TypeId}{G:Type}{enc:G->List AV}{Ok:G->Prop}(hu:P.underlying t=some (.slice e)){w:Nat}(hw:P.bytesOf e=w)(hb:1<=P.bytesOf e)(hel:∀m avs,m<n->Ty P m e avs->∃x,avs=enc x/\Ok x)(h:Ty P n t avs):∃l:List G,avs=[.sl (l.map enc) .no]/\(Sz l.length/\Sz (l.length*w))/\∀x∈l,Ok x:=by
 cases n with
 |zero=>exact absurd h (by unfold Ty;exact id)
 |succ m=>
  unfold Ty at h;rw[hu]at h;obtain⟨els,rfl,hl,hty⟩:=h;have hn:els.length<=140737488351232:=Nat.le_trans (Nat.le_mul_of_pos_right _ hb) hl
  have:∀els:List (List AV),(∀el∈els,Ty P m e el)->∃l:List G,els=l.map enc/\∀x∈l,Ok x:=by
   intro els
   induction els with
   |nil=>exact fun _=>⟨[],rfl,fun x h=>by cases h⟩
   |cons a els ih=>
    intro h;obtain⟨l,rfl,hl⟩:=ih fun el hel=>h el (List.mem_cons_of_mem _ hel)
    obtain⟨x,rfl,hx⟩:=hel m a (Nat.lt_succ_self m) (h a List.mem_cons_self);exact⟨x::l,rfl,fun y hy=>(List.mem_cons.1 hy).elim (fun e=>e▸hx) (hl y)⟩
  obtain⟨l,rfl,hok⟩:=this els hty;exact⟨l,rfl,⟨by simpa[Sz]using hn,by subst hw;simpa[Sz]using hl⟩,hok⟩
theorem e5a{e:TypeId}{G:Type}{enc:G->List AV}{Ok:G->Prop}(hu:P.underlying t=some (.slice e))(hb:1<=P.bytesOf e)(hel:∀m avs,m<n->Ty P m e avs->∃x,avs=enc x/\Ok x)(h:Ty P n t avs):∃l:List G,avs=[.sl (l.map enc) .no]/\Sz l.length/\∀x∈l,Ok x:=by
 obtain⟨l,h1,h2,h3⟩:=d7x hu rfl hb hel h;exact⟨l,h1,h2.1,h3⟩
theorem g4q{av:AV}{ts:List TypeId}(hu:c0c P t=some ts)(h:TyV P n t av):∃avs,av=.agg avs/\Ty P n t avs:=by
 unfold TyV at h;unfold c0c at hu;split at hu
 ·rename_i fs hfs;rw[hfs]at h;exact h
 ·cases hu
end
section
variable {n:Nat}{avs:List AV}{av:AV}
theorem g4l(h:Ty Tryz.prog n 127 avs):∃x,avs=I3 x/\e5i x:=by
 obtain⟨m,rfl,a1,b1,rfl,h1,a2,b2,rfl,h2,a3,b3,rfl,h3,a4,b4,rfl,h4,rfl⟩:=d1k (ts:=[3,3,29,9]) (by kernel_rfl) h;obtain⟨x1,rfl,k1⟩:=b44 (by kernel_rfl) h1;obtain⟨x2,rfl,k2⟩:=b44 (by kernel_rfl) h2;obtain⟨x3,rfl,k3⟩:=f61 (by kernel_rfl) h3;obtain⟨x4,rfl,k4⟩:=c24 (by kernel_rfl) h4;exact⟨⟨x1,x2,x3,x4⟩,rfl,⟨k1,k2,k3,k4⟩⟩
theorem f57:∀(n:Nat) (avs:List AV),Ty Tryz.prog n 35 avs->∃x,avs=C1 x/\OkD x:=by
 intro n
 induction n using Nat.strongRecOn with
 |_ n ih=>
  intro avs h;obtain⟨m,rfl,a1,b1,rfl,h1,a2,b2,rfl,h2,a3,b3,rfl,h3,a4,b4,rfl,h4,a5,b5,rfl,h5,a6,b6,rfl,h6,a7,b7,rfl,h7,rfl⟩:=d1k (ts:=[3,29,9,30,31,32,33]) (by kernel_rfl) h;obtain⟨x1,rfl,k1⟩:=b44 (by kernel_rfl) h1;obtain⟨x2,rfl,k2⟩:=f61 (by kernel_rfl) h2;obtain⟨x3,rfl,k3⟩:=c24 (by kernel_rfl) h3;obtain⟨x4,rfl,⟨n4,w4⟩,k4⟩:=d7x (w:=128) (e:=35) (enc:=C1) (Ok:=OkD) (by kernel_rfl) (by kernel_rfl) (of_decide_eq_true (by kernel_rfl)) (fun k a hk ha=>ih k (by omega) a ha) h4
  obtain⟨x5,rfl,⟨n5,w5⟩,k5⟩:=d7x (w:=256) (e:=100) (enc:=A9) (Ok:=fun x=>OkD x.1/\OkD x.2) (by kernel_rfl) (by kernel_rfl) (of_decide_eq_true (by kernel_rfl)) (fun k a hk ha=>by
   obtain⟨q,rfl,a1,b1,rfl,h1,a2,b2,rfl,h2,rfl⟩:=d1k (ts:=[35,35]) (by kernel_rfl) ha;obtain⟨y1,rfl,z1⟩:=ih q (by omega) _ h1;obtain⟨y2,rfl,z2⟩:=ih q (by omega) _ h2;exact⟨(y1,y2),by simp[A9],z1,z2⟩) h5
  obtain⟨x6,rfl,⟨n6,w6⟩,k6⟩:=d7x (w:=136) (e:=86) (enc:=B3) (Ok:=fun x=>I64 x.1/\OkD x.2) (by kernel_rfl) (by kernel_rfl) (of_decide_eq_true (by kernel_rfl)) (fun k a hk ha=>by
   obtain⟨q,rfl,a1,b1,rfl,h1,a2,b2,rfl,h2,rfl⟩:=d1k (ts:=[3,35]) (by kernel_rfl) ha;obtain⟨y1,rfl,z1⟩:=b44 (by kernel_rfl) h1;obtain⟨y2,rfl,z2⟩:=ih q (by omega) _ h2;exact⟨(y1,y2),by simp[B3],z1,z2⟩) h6
  obtain⟨x7,rfl,⟨n7,w7⟩,k7⟩:=d7x (w:=40) (e:=127) (enc:=I3) (Ok:=e5i) (by kernel_rfl) (by kernel_rfl) (of_decide_eq_true (by kernel_rfl)) (fun k a hk ha=>g4l ha) h7;refine⟨⟨x1,x2,x3,x4,x5,x6,x7⟩,?_,.mk _ k1 k2 k3 n4 n5 n6 n7 k4 (fun x hx=>(k5 x hx).1) (fun x hx=>(k5 x hx).2) (fun x hx=>(k6 x hx).1) (fun x hx=>(k6 x hx).2) k7 ⟨w4,w5,w6,w7⟩⟩;rw[Y7];rfl
theorem h4p(h:TyV Tryz.prog n 9 av):∃x:ByteArray,av=.v (.string x)/\Sz x.size:=by
 have hu:Tryz.prog.underlying 9=some .string:=by kernel_rfl
 unfold TyV at h;rw[hu]at h;obtain⟨x,hx,k⟩:=c24 hu h;exact⟨x,by simpa using hx,k⟩
end
def b6p{α:Type}(c:α->α->Int):List α->List α->Int
 |[],[]=>0
 |[],_::_=> -1
 |_::_,[]=>1
 |x::l,y::m=>if c x y≠0 then c x y else b6p c l m
theorem c9b{α:Type}{J:Int->List α->List α->Int->Prop}{C:α->α->Int->Prop}(c:α->α->Int)
  (b9u:∀i s t r,((decide (i<(s.length:Int)))=true->∃y4,s[i.toNat]? =some y4/\0<=i/\(((decide ((t.length:Int)<=i))=true->r=1)/\((decide ((t.length:Int)<=i))=false->∃y5,t[i.toNat]? =some y5/\0<=i/\(∃y6,C y4 y5 y6/\(((y6 !=0)=true->r=y6)/\((y6 !=0)=false->J (wI (i+1)) s t r))))))/\((decide (i<(s.length:Int)))=false->((decide ((s.length:Int)<(t.length:Int)))=true->r=(-1))/\((decide ((s.length:Int)<(t.length:Int)))=false->r=0))->J i s t r)
  (s t:List α) (hs:s.length<=140737488351232) (hC:∀x∈s,∀y∈t,C x y (c x y)):J 0 s t (b6p c s t):=by
 have key:∀(d i:Nat),s.length - i<=d->i<=s.length->i<=t.length->J i s t (b6p c (s.drop i) (t.drop i)):=by
  intro d
  induction d with
  |zero=>
   intro i hd hi hj;have e:i=s.length:=by omega
   subst e;refine b9u _ _ _ _ ⟨fun h=>by simp at h,fun _=>⟨fun h=>?_,fun h=>?_⟩⟩
   ·simp at h;rw[List.drop_length,List.drop_eq_getElem_cons h];rfl
   ·simp at h;rw[List.drop_length,List.drop_eq_nil_of_le h];rfl
  |succ d ih=>
   intro i hd hi hj;rcases Nat.lt_or_ge i s.length with hlt|hge
   ·have e1:wI ((i:Int)+1)=((i+1:Nat):Int):=by rw[wI,C7 (by omega)];omega
    have ds:s.drop i=s[i]::s.drop (i+1):=List.drop_eq_getElem_cons hlt;refine b9u _ _ _ _ ⟨fun _=>⟨s[i],by simp,by omega,fun h=>?_,fun h=>?_⟩,fun h=>by simp at h;omega⟩
    ·simp at h;rw[ds,List.drop_eq_nil_of_le h];rfl
    ·simp at h;have dt:t.drop i=t[i]::t.drop (i+1):=List.drop_eq_getElem_cons h;refine⟨t[i],by simp,by omega,c s[i] t[i],hC _ (List.getElem_mem _) _ (List.getElem_mem _),fun h2=>?_,fun h2=>?_⟩
     ·simp at h2;rw[ds,dt];simp[b6p,h2]
     ·simp at h2;rw[ds,dt,e1];have:=ih (i+1) (by omega) (by omega) (by omega);simpa[b6p,h2]using this
   ·have e:i=s.length:=by omega
    subst e;refine b9u _ _ _ _ ⟨fun h=>by simp at h,fun _=>⟨fun h=>?_,fun h=>?_⟩⟩
    ·simp at h;rw[List.drop_length,List.drop_eq_getElem_cons h];rfl
    ·simp at h;rw[List.drop_length,List.drop_eq_nil_of_le h];rfl
 simpa using key s.length 0 (by omega) (by omega) (by omega)
def orL:List Int->Int
 |[]=>0
 |x::l=>if x≠0 then x else orL l
theorem f41(l:List Int)(hl:l.length<=1000):b2k l (orL l):=by
 refine d2k _ _ ?_
 have key:∀(d i:Nat),l.length - i<=d->i<=l.length->b13 i l (orL (l.drop i)):=by
  intro d
  induction d with
  |zero=>
   intro i hd hi;exact a7s _ _ _ ⟨fun h=>by simp at h;omega,fun _=>by rw[List.drop_eq_nil_of_le (by omega)];rfl⟩
  |succ d ih=>
   intro i hd hi;rcases Nat.lt_or_ge i l.length with hlt|hge
   ·have e1:wI ((i:Int)+1)=((i+1:Nat):Int):=by rw[wI,C7 (by omega)];omega
    have ds:l.drop i=l[i]::l.drop (i+1):=List.drop_eq_getElem_cons hlt;refine a7s _ _ _ ⟨fun _=>⟨l[i],by simp,by omega,fun h=>?_,fun h=>?_⟩,fun h=>by simp at h;omega⟩
    ·simp at h;rw[ds];simp[orL,h]
    ·simp at h;rw[ds,e1];have:=ih (i+1) (by omega) (by omega);simpa[orL,h]using this
   ·exact a7s _ _ _ ⟨fun h=>by simp at h;omega,fun _=>by rw[List.drop_eq_nil_of_le hge];rfl⟩
 simpa using key l.length 0 (by omega) (by omega)
def d6i(x y:ByteArray):Int:=if Op.bytesLess x.toList y.toList=true then -1 else if(!(Op.bytesLess x.toList y.toList||x.toList==y.toList))=true then 1 else 0
theorem e9m(x y:ByteArray):a2h x y (d6i x y):=by
 refine b67 _ _ _ ⟨false,b0d _ _ (by simp),false,b0d _ _ (by simp),fun h=>by simp at h,fun _=>⟨fun h=>by simp at h,fun _=>⟨fun h=>?_,fun h=>⟨fun h2=>?_,fun h2=>?_⟩⟩⟩⟩
 ·simp[d6i,h]
 ·unfold d6i;rw[if_neg (by rw[h];simp),if_pos h2]
 ·unfold d6i;rw[if_neg (by rw[h];simp),if_neg (by rw[h2];simp)]
theorem d9y(x y:Int):a0f x y (a4i x y):=by
 refine b7z _ _ _ ⟨false,a94 _ _ (by simp),false,a94 _ _ (by simp),fun h=>by simp at h,fun _=>⟨fun h=>by simp at h,fun _=>⟨fun h=>?_,fun h=>⟨fun h2=>?_,fun h2=>?_⟩⟩⟩⟩
 ·simp at h;simp[a4i,h]
 ·simp at h h2;simp[a4i,h2];omega
 ·simp at h h2;simp only[a4i];rw[if_neg (by omega),if_neg (by omega)]
def b8b(x:Int):Int:=if((f7x x.toNat:Int)==0)=true then 18446744073709551615 else if((F1 .and .u64 x 9223372036854775808) !=0)=true then F1 .xor .u64 (IntKind.u64.max) x else F1 .or .u64 x 9223372036854775808
theorem e2c(x:Int)(hx:U64 x):b4r x (b8b x):=by
 have hc:=e24 x.toNat (by have:=hx.2;omega);rw[show((x.toNat:Nat):Int)=x from Int.toNat_of_nonneg hx.1]at hc;refine c53 _ _ ⟨_,hc,fun h=>?_,fun h=>⟨fun h2=>?_,fun h2=>?_⟩⟩
 ·unfold b8b;rw[if_pos h]
 ·unfold b8b;rw[if_neg (by rw[h];simp),if_pos h2]
 ·unfold b8b;rw[if_neg (by rw[h];simp),if_neg (by rw[h2];simp)]
def isS(k:Int):Bool:=(decide (1<=k))&&(decide (k<=9))
def cmpS(a b:A0):Int:=
 if((a.Kind==7)||(a.Kind==8))=true then d6i a.Text b.Text
 else if((a.Kind==2)||(a.Kind==3))=true then a4i (wI a.Bits) (wI b.Bits)
 else if(a.Kind==6)=true then a4i (b8b a.Bits) (b8b b.Bits)
 else a4i a.Bits b.Bits
theorem nt{b:Bool}(h:b=false):¬b=true:=by rw[h];simp
theorem f9d(a b:A0)(hk:a.Kind=b.Kind)(hs:isS a.Kind=true)(ha:U64 a.Bits)(hb:U64 b.Bits):c5r a b (cmpS a b):=by
 refine d0b _ _ _ ⟨fun h=>by simp[hk]at h,fun _=>⟨true,a9p _ _ hs.symm,fun h=>by simp at h,fun _=>⟨_,b57 _ _ rfl,fun h=>⟨_,e9m _ _,?_⟩,fun h=>⟨fun h2=>⟨_,c5i _ _,?_⟩,fun h2=>⟨fun h3=>⟨_,e2c _ ha,_,e2c _ hb,_,d9y _ _,?_⟩,fun h3=>⟨_,d9y _ _,?_⟩⟩⟩⟩⟩⟩
 ·unfold cmpS;rw[if_pos h]
 ·unfold cmpS;rw[if_neg (nt h),if_pos h2]
 ·unfold cmpS;rw[if_neg (nt h),if_neg (nt h2),if_pos h3]
 ·unfold cmpS;rw[if_neg (nt h),if_neg (nt h2),if_neg (nt h3)]
def e9s(x y:H1):Int:=orL [a4i x.Num y.Num,a4i x.Wire y.Wire,a4i x.Bits y.Bits,d6i x.Data y.Data]
def W8:Nat->A0->A0->Int
 |0,_,_=>0
 |n+1,a,b=>
  if a.Kind≠b.Kind then a4i a.Kind b.Kind
  else if isS a.Kind=true then cmpS a b
  else if a.Kind=11 then b6p (W8 n) a.List_ b.List_
  else if a.Kind=12 then b6p (fun x y=>orL [W8 n x.1 y.1,W8 n x.2 y.2]) a.Pairs b.Pairs
  else if a.Kind=10 then orL [b6p (fun x y=>orL [a4i x.1 y.1,W8 n x.2 y.2]) a.Slots b.Slots,b6p e9s a.Raws b.Raws]
  else 0
def b4i(v:A0):c0d:=
 if isS v.Kind=true then .a_order_one v else if(v.Kind==11)=true then .a_order_list v.List_ else if(v.Kind==12)=true then .a_order_pairs v.Pairs else if(v.Kind==10)=true then .a_order_parts ⟨v.Slots,v.Raws⟩ else .nil
theorem f0d(v:A0):a9i v (b4i v):=by
 refine c21 _ _ ⟨_,a9p _ _ rfl,fun h=>?_,fun h=>⟨fun h1=>?_,fun h1=>⟨fun h2=>?_,fun h2=>⟨fun h3=>?_,fun h3=>?_⟩⟩⟩⟩
 ·unfold b4i isS;rw[if_pos h]
 ·unfold b4i isS;rw[if_neg (nt h),if_pos h1]
 ·unfold b4i isS;rw[if_neg (nt h),if_neg (nt h1),if_pos h2]
 ·unfold b4i isS;rw[if_neg (nt h),if_neg (nt h1),if_neg (nt h2),if_pos h3]
 ·unfold b4i isS;rw[if_neg (nt h),if_neg (nt h1),if_neg (nt h2),if_neg (nt h3)]
theorem OkD.inv{v:A0}(h:OkD v):I64 v.Kind/\U64 v.Bits/\(Sz v.List_.length/\Sz v.Pairs.length/\Sz v.Slots.length/\Sz v.Raws.length)/\(∀x∈v.List_,OkD x)/\(∀x∈v.Pairs,OkD x.1/\OkD x.2)/\(∀x∈v.Slots,OkD x.2):=by
 cases h with
 |mk _ k b t l p s r hl hk hv hn hs hr w=>exact⟨k,b,⟨l,p,s,r⟩,hl,fun x hx=>⟨hk x hx,hv x hx⟩,hs⟩
theorem OkD.w{v:A0}(h:OkD v):Sz (v.List_.length*128)/\Sz (v.Pairs.length*256)/\Sz (v.Slots.length*136)/\Sz (v.Raws.length*40):=by
 cases h with
 |mk _ _ _ _ _ _ _ _ _ _ _ _ _ _ w=>exact w
theorem g4b(x y:H1):c7u x y (e9s x y):=c5c _ _ _ ⟨_,c5i _ _,_,c5i _ _,_,d9y _ _,_,e9m _ _,_,f41 _ (by simp),rfl⟩
theorem szL{a x:A0}(h:x∈a.List_):SizeOf.sizeOf x<SizeOf.sizeOf a:=by
 have:=List.sizeOf_lt_of_mem h;cases a;simp at this ⊢;omega
theorem szP{a:A0}{x:A0 × A0}(h:x∈a.Pairs):SizeOf.sizeOf x.1<SizeOf.sizeOf a/\SizeOf.sizeOf x.2<SizeOf.sizeOf a:=by
 have:=List.sizeOf_lt_of_mem h;cases a;cases x;simp at this ⊢;omega
theorem szS{a:A0}{x:Int × A0}(h:x∈a.Slots):SizeOf.sizeOf x.2<SizeOf.sizeOf a:=by
 have:=List.sizeOf_lt_of_mem h;cases a;cases x;simp at this ⊢;omega
theorem szV(a:A0):0<SizeOf.sizeOf a:=by cases a;simp;omega
theorem c7r:∀(n:Nat) (a b:A0),OkD a->OkD b->SizeOf.sizeOf a<=n->a96 a b (W8 n a b)
 |0,a,b,_,_,h=>by have:=szV a;omega
 |n+1,a,b,ha,hb,hn=>by
  obtain⟨_,hab,⟨la,pa,sa,ra⟩,hla,hpa,hsa⟩:=ha.inv;obtain⟨_,hbb,_,hlb,hpb,hsb⟩:=hb.inv;refine d21 _ _ _ ⟨fun h=>⟨_,c5i _ _,?_⟩,fun h=>⟨_,f0d b,_,f0d a,?_⟩⟩
  ·simp at h;rw[W8,if_pos h]
  have hk:a.Kind=b.Kind:=by simpa using h
  rw[W8,if_neg (by simp[hk])]
  by_cases h1:isS a.Kind=true
  ·have ea:b4i a=.a_order_one a:=by unfold b4i;rw[if_pos h1]
   rw[if_pos h1,ea];refine⟨fun y hy=>?_,fun hn=>(hn a rfl).elim⟩;cases hy;exact⟨_,f9d a b hk h1 hab hbb,rfl⟩
  ·rw[if_neg h1]
   by_cases h2:a.Kind=11
   ·have ea:b4i a=.a_order_list a.List_:=by unfold b4i;rw[if_neg h1,if_pos (by simp[h2])]
    have eb:b4i b=.a_order_list b.List_:=by unfold b4i;rw[if_neg (by rw[<-hk];exact h1),if_pos (by simp[<-hk,h2])]
    rw[if_pos h2,ea,eb];refine⟨fun y hy=>(by cases hy),fun _=>⟨fun y hy=>?_,fun hn=>(hn _ rfl).elim⟩⟩;cases hy;refine⟨_,rfl,_,W1 _ _ _ _ (c9b (J:=fun i s t r=>D4 i s t (⟨170,[],[],rfl⟩:GFn) r) (W8 n) (fun i s t r hw=>T9 _ _ _ _ _ hw) _ _ la fun x hx y hy=>?_),rfl⟩;exact⟨170,[],[],rfl,(show plainL [AV.agg (A5 x),AV.agg (A5 y)]=true by simp[plainL,plain,A8]),c7r n x y (hla x hx) (hlb y hy) (by have:=szL hx;omega)⟩
   ·rw[if_neg h2]
    by_cases h3:a.Kind=12
    ·have ea:b4i a=.a_order_pairs a.Pairs:=by unfold b4i;rw[if_neg h1,if_neg (by simp[h2]),if_pos (by simp[h3])]
     have eb:b4i b=.a_order_pairs b.Pairs:=by unfold b4i;rw[if_neg (by rw[<-hk];exact h1),if_neg (by simp[<-hk,h2]),if_pos (by simp[<-hk,h3])]
     rw[if_pos h3,ea,eb];refine⟨fun y hy=>(by cases hy),fun _=>⟨fun y hy=>(by cases hy),fun _=>⟨fun y hy=>?_,fun hn=>(hn _ rfl).elim⟩⟩⟩;cases hy;refine⟨_,rfl,_,V8 _ _ _ _ (c9b (J:=fun i s t r=>D3 i s t (⟨201,[],[],rfl⟩:GFn) r) (fun x y=>orL [W8 n x.1 y.1,W8 n x.2 y.2]) (fun i s t r hw=>T7 _ _ _ _ _ hw) _ _ pa fun x hx y hy=>?_),rfl⟩;have hz:=szP hx;exact⟨201,[],[],rfl,(show plainL [AV.agg (V3 x),AV.agg (V3 y)]=true by simp[plainL,plain,N7]),c3u _ _ _ ⟨_,c7r n _ _ (hpa x hx).1 (hpb y hy).1 (by omega),_,c7r n _ _ (hpa x hx).2 (hpb y hy).2 (by omega),_,f41 _ (by simp),rfl⟩⟩
    ·rw[if_neg h3]
     by_cases h4:a.Kind=10
     ·have ea:b4i a=.a_order_parts ⟨a.Slots,a.Raws⟩:=by unfold b4i;rw[if_neg h1,if_neg (by simp[h2]),if_neg (by simp[h3]),if_pos (by simp[h4])]
      have eb:b4i b=.a_order_parts ⟨b.Slots,b.Raws⟩:=by unfold b4i;rw[if_neg (by rw[<-hk];exact h1),if_neg (by simp[<-hk,h2]),if_neg (by simp[<-hk,h3]),if_pos (by simp[<-hk,h4])]
      rw[if_pos h4,ea,eb];refine⟨fun y hy=>(by cases hy),fun _=>⟨fun y hy=>(by cases hy),fun _=>⟨fun y hy=>(by cases hy),fun _=>⟨fun y hy=>?_,fun hn=>(hn _ rfl).elim⟩⟩⟩⟩;cases hy;refine⟨_,rfl,_,a0z _ _ _ _ (c9b (J:=fun i s t r=>F2 i s t (⟨204,[],[],rfl⟩:GFn) r) (fun x y=>orL [a4i x.1 y.1,W8 n x.2 y.2]) (fun i s t r hw=>a0d _ _ _ _ _ hw) _ _ sa fun x hx y hy=>?_),_,a2d _ _ _ _ (c9b (J:=fun i s t r=>G1 i s t (⟨206,[],[],rfl⟩:GFn) r) e9s (fun i s t r hw=>a08 _ _ _ _ _ hw) _ _ ra fun x hx y hy=>?_),_,f41 _ (by simp),rfl⟩
      ·have hz:=szS hx;exact⟨204,[],[],rfl,(show plainL [AV.agg (W9 x),AV.agg (W9 y)]=true by simp[plainL,plain,O0]),c3h _ _ _ ⟨_,c5i _ _,_,c7r n _ _ (hsa x hx) (hsb y hy) (by omega),_,f41 _ (by simp),rfl⟩⟩
      ·exact⟨206,[],[],rfl,(show plainL [AV.agg (I3 x),AV.agg (I3 y)]=true by simp[plainL,plain,P7]),g4b x y⟩
     ·have ea:b4i a=.nil:=by unfold b4i;rw[if_neg h1,if_neg (by simp[h2]),if_neg (by simp[h3]),if_neg (by simp[h4])]
      rw[if_neg h4,ea];exact⟨fun y hy=>(by cases hy),fun _=>⟨fun y hy=>(by cases hy),fun _=>⟨fun y hy=>(by cases hy),fun _=>⟨fun y hy=>(by cases hy),fun _=>rfl⟩⟩⟩⟩
theorem f98(a:Nat)(h:a<18446744073709551616):F1 .xor .u64 (IntKind.u64.max) (a:Int)=((18446744073709551615 - a:Nat):Int):=by
 have e3:F1 .xor .u64 (IntKind.u64.max) (a:Int)=IntKind.u64.wrap (((BitVec.allOnes 64 ^^^ BitVec.ofInt 64 (a:Int)).toNat:Nat):Int):=rfl;rw[e3,BitVec.xor_comm];exact c7h a h
theorem f5z(a:Nat)(h:a<18446744073709551616):(F1 .and .u64 (a:Int) 9223372036854775808 !=0)=decide (9223372036854775808<=a):=by
 have e:=b4y a 9223372036854775808 h (by omega);rw[show((9223372036854775808:Nat):Int)=9223372036854775808 from rfl]at e;rw[e]
 by_cases h1:9223372036854775808<=a
 ·have ea:a=(a - 9223372036854775808)|||9223372036854775808:=by
   have e2:=e2t (a - 9223372036854775808) 1 63 (by rw[show(2:Nat) ^ 63=9223372036854775808 by decide];omega);rw[Nat.one_mul,show(2:Nat) ^ 63=9223372036854775808 by decide]at e2;rw[e2];omega
  have e3:a&&&9223372036854775808=9223372036854775808:=by
   rw[ea];apply Nat.eq_of_testBit_eq;intro i;rw[Nat.testBit_and,Nat.testBit_or];generalize Nat.testBit (a - 9223372036854775808) i=t;generalize Nat.testBit 9223372036854775808 i=u;cases t<;>cases u<;>rfl
  rw[e3];simp[h1]
 ·have e3:a&&&9223372036854775808=0:=by
   apply Nat.eq_of_testBit_eq;intro i;rw[Nat.testBit_and,show(9223372036854775808:Nat)=2 ^ 63 by decide,Nat.testBit_two_pow]
   by_cases hi:63=i
   ·subst hi;rw[Nat.testBit_lt_two_pow (by rw[show(2:Nat) ^ 63=9223372036854775808 by decide];omega)];simp
   ·simp[hi]
  rw[e3];simp[h1]
theorem g2i(a:Nat)(h:a<9223372036854775808):F1 .or .u64 (a:Int) 9223372036854775808=((a+9223372036854775808:Nat):Int):=by
 have e:=c2i a 9223372036854775808 (by omega) (by omega);rw[show((9223372036854775808:Nat):Int)=9223372036854775808 from rfl]at e;rw[e];have e2:=e2t a 1 63 (by rw[show(2:Nat) ^ 63=9223372036854775808 by decide];exact h);rw[Nat.one_mul,show(2:Nat) ^ 63=9223372036854775808 by decide]at e2;rw[e2]
theorem e6v(x:Int)(hx:U64 x):b8b x=if f7x x.toNat=0 then 18446744073709551615 else if 9223372036854775808<=x then wU (18446744073709551615 - x) else wU (x+9223372036854775808):=by
 obtain⟨h1,h2⟩:=hx;have hz:x=(x.toNat:Int):=by omega
 generalize x.toNat=z at hz;subst hz;unfold b8b;rw[f5z z (by omega),f98 z (by omega)];have e0:(Int.toNat (z:Int))=z:=by omega
 rw[e0]
 by_cases h3:f7x z=0
 ·rw[if_pos h3,if_pos (by simp[h3])]
 ·rw[if_neg h3,if_neg (by simp;omega)]
  by_cases h4:9223372036854775808<=z
  ·rw[if_pos (by simpa using h4),if_pos (by omega),wU,b4j (by omega)];omega
  ·rw[if_neg (by simpa using h4),if_neg (by omega),g2i z (by omega),wU,b4j (by omega)];omega
def f0w(v:A0):Int:=if v.Kind=2\/v.Kind=3 then wU (v.Bits+9223372036854775808) else if v.Kind≠6 then v.Bits else b8b v.Bits
theorem c88(v:A0)(hb:U64 v.Bits):b2e v (f0w v):=by
 have hz:v.Bits=(v.Bits.toNat:Int):=by have:=hb.1;omega
 have hc:=d7h v.Bits.toNat (by have:=hb.2;omega);rw[<-hz]at hc;unfold f0w;rw[e6v _ hb];refine d1m _ _ ⟨_,c56 _ _ rfl,fun h=>?_,fun h=>⟨fun h2=>?_,fun h2=>⟨_,hc,fun h3=>?_,fun h3=>⟨fun h4=>?_,fun h4=>?_⟩⟩⟩⟩
 all_goals simp only[Bool.or_eq_true,Bool.or_eq_false_iff,beq_iff_eq,beq_eq_false_iff_ne,bne_iff_ne,bne_eq_false_iff_eq,decide_eq_true_eq,decide_eq_false_iff_not,ne_eq]at*
 ·rw[if_pos h]
 ·rw[if_neg (by omega),if_pos h2]
 ·rw[if_neg (by omega),if_neg (by omega),if_pos (by omega)]
 ·rw[if_neg (by omega),if_neg (by omega),if_neg (by omega),if_pos h4]
 ·rw[if_neg (by omega),if_neg (by omega),if_neg (by omega),if_neg h4]
theorem e5f{x y x' y':Int}(h1:x<y↔x'<y')(h2:y<x↔y'<x'):a4i x y=a4i x' y':=by
 unfold a4i;simp only[h1,h2]
theorem d0m(a b:A0)(hk:a.Kind=b.Kind)(ht:((a.Kind==7)||(a.Kind==8))=false)(ha:U64 a.Bits)(hb:U64 b.Bits):cmpS a b=a4i (f0w a) (f0w b):=by
 unfold cmpS f0w;rw[if_neg (nt ht),<-hk]
 by_cases h1:a.Kind=2\/a.Kind=3
 ·rw[if_pos (by simpa using h1),if_pos h1,if_pos h1];obtain⟨a1,a2⟩:=ha;obtain⟨b1,b2⟩:=hb
  have key:∀z:Int,0<=z->z<18446744073709551616->(z<9223372036854775808/\wI z=z/\wU (z+9223372036854775808)=z+9223372036854775808)\/(9223372036854775808<=z/\wI z=z - 18446744073709551616/\wU (z+9223372036854775808)=z - 9223372036854775808):=by
   intro z z1 z2;rcases Int.lt_or_le z 9223372036854775808 with h|h
   ·exact .inl ⟨h,by rw[wI,C7 (by omega)],by rw[wU,b4j (by omega)]⟩
   ·refine .inr ⟨h,?_,?_⟩
    ·simp only[wI,IntKind.wrap,IntKind.bits,IntKind.signed,Bool.true_and,decide_eq_true_eq];split<;>rename_i hq<;>first|omega|(simp at hq;omega)
    ·simp only[wU,IntKind.wrap,IntKind.bits,IntKind.signed,Bool.false_and,Bool.false_eq_true,if_false];omega
  rcases key a.Bits a1 a2 with⟨p1,p2,p3⟩|⟨p1,p2,p3⟩<;>rcases key b.Bits b1 b2 with⟨q1,q2,q3⟩|⟨q1,q2,q3⟩<;>rw[p2,p3,q2,q3]<;>exact e5f (by omega) (by omega)
 ·rw[if_neg (by simpa using h1),if_neg h1,if_neg h1]
  by_cases h2:a.Kind=6
  ·rw[if_pos (by simp[h2]),if_neg (by simp[h2]),if_neg (by simp[h2])]
  ·rw[if_neg (by simp[h2]),if_pos h2,if_pos h2]
theorem c2m(x y:Int):S7 x y (a4i x y):=by
 refine c5h _ _ _ ⟨fun h=>?_,fun h=>⟨fun h2=>?_,fun h2=>?_⟩⟩
 ·simp at h;simp[a4i,h]
 ·simp at h h2;simp[a4i,h2];omega
 ·simp at h h2;simp only[a4i];rw[if_neg (by omega),if_neg (by omega)]
theorem f6e(a b:A0)(hk:a.Kind=b.Kind)(ha:U64 a.Bits)(hb:U64 b.Bits):d1t a b (if isS a.Kind=true then cmpS a b else 0):=by
 have tx:a9b a.Kind ((a.Kind==7)||(a.Kind==8)):=b79 _ _ rfl;refine d2t _ _ _ ⟨fun h=>by simp[hk]at h,fun _=>⟨fun h=>by simp[hk]at h,fun _=>⟨isS a.Kind,b6y _ _ rfl,fun h=>?_,fun h=>?_⟩⟩⟩
 ·rw[if_neg (by simpa using h)]
 have hs:isS a.Kind=true:=by simpa using h
 rw[if_pos hs];refine⟨_,tx,fun h1=>?_,fun h1=>⟨_,tx,fun h2=>?_,fun h2=>⟨_,tx,fun h3=>?_,fun h3=>⟨_,c88 a ha,_,c88 b hb,fun h4=>?_,fun h4=>⟨_,c88 a ha,_,c88 b hb,fun h5=>?_,fun h5=>?_⟩⟩⟩⟩⟩
 ·rw[Bool.and_eq_true]at h1;unfold cmpS d6i;rw[if_pos h1.1,if_pos h1.2]
 ·rw[Bool.and_eq_true]at h2;rw[h2.1,Bool.true_and]at h1;unfold cmpS d6i;rw[if_pos h2.1,if_neg (nt h1),if_pos h2.2]
 ·rw[h3,Bool.true_and]at h1 h2;unfold cmpS d6i;rw[if_pos h3,if_neg (nt h1),if_neg (nt h2)]
 ·rw[d0m a b hk h3 ha hb];simp at h4;simp[a4i,h4]
 ·rw[d0m a b hk h3 ha hb];simp at h4 h5;simp[a4i,h5];omega
 ·rw[d0m a b hk h3 ha hb];simp at h4 h5;simp only[a4i];rw[if_neg (by omega),if_neg (by omega)]
theorem c4d{α:Type}{J:Int->List α->List α->Int->Prop}{C:α->α->Int->Prop}(c:α->α->Int)
  (b9u:∀i s t r,(((decide (i<(s.length:Int)))&&(decide (i<(t.length:Int))))=true->∃y6,s[i.toNat]? =some y6/\0<=i/\(∃y7,t[i.toNat]? =some y7/\0<=i/\(∃y8,C y6 y7 y8/\(((y8 !=0)=true->r=y8)/\((y8 !=0)=false->J (wI (i+1)) s t r)))))/\(((decide (i<(s.length:Int)))&&(decide (i<(t.length:Int))))=false->∃y5,S7 (s.length:Int) (t.length:Int) y5/\(r=y5))->J i s t r)
  (s t:List α) (hs:s.length<=140737488351232) (hC:∀x∈s,∀y∈t,C x y (c x y)):J 0 s t (b6p c s t):=by
 have key:∀(d i:Nat),s.length - i<=d->i<=s.length->i<=t.length->J i s t (b6p c (s.drop i) (t.drop i)):=by
  intro d
  induction d with
  |zero=>
   intro i hd hi hj;refine b9u _ _ _ _ ⟨fun h=>by simp at h;omega,fun _=>⟨_,c2m _ _,?_⟩⟩;rw[List.drop_eq_nil_of_le (show s.length<=i by omega)];rcases Nat.lt_or_ge i t.length with h|h
   ·rw[List.drop_eq_getElem_cons h];simp only[b6p,a4i];rw[if_pos (by omega)]
   ·rw[List.drop_eq_nil_of_le h];simp only[b6p,a4i];rw[if_neg (by omega),if_neg (by omega)]
  |succ d ih=>
   intro i hd hi hj;rcases Nat.lt_or_ge i s.length with hlt|hge
   ·have ds:s.drop i=s[i]::s.drop (i+1):=List.drop_eq_getElem_cons hlt;rcases Nat.lt_or_ge i t.length with h|h
    ·have e1:wI ((i:Int)+1)=((i+1:Nat):Int):=by rw[wI,C7 (by omega)];omega
     have dt:t.drop i=t[i]::t.drop (i+1):=List.drop_eq_getElem_cons h;refine b9u _ _ _ _ ⟨fun _=>⟨s[i],by simp,by omega,t[i],by simp,by omega,c s[i] t[i],hC _ (List.getElem_mem _) _ (List.getElem_mem _),fun h2=>?_,fun h2=>?_⟩,fun h2=>by simp at h2;omega⟩
     ·simp at h2;rw[ds,dt];simp[b6p,h2]
     ·simp at h2;rw[ds,dt,e1];have:=ih (i+1) (by omega) (by omega) (by omega);simpa[b6p,h2]using this
    ·refine b9u _ _ _ _ ⟨fun h=>by simp at h;omega,fun _=>⟨_,c2m _ _,?_⟩⟩;rw[ds,List.drop_eq_nil_of_le h];simp only[b6p,a4i];rw[if_neg (by omega),if_pos (by omega)]
   ·refine b9u _ _ _ _ ⟨fun h=>by simp at h;omega,fun _=>⟨_,c2m _ _,?_⟩⟩;rw[List.drop_eq_nil_of_le hge];rcases Nat.lt_or_ge i t.length with h|h
    ·rw[List.drop_eq_getElem_cons h];simp only[b6p,a4i];rw[if_pos (by omega)]
    ·rw[List.drop_eq_nil_of_le h];simp only[b6p,a4i];rw[if_neg (by omega),if_neg (by omega)]
 simpa using key s.length 0 (by omega) (by omega) (by omega)
theorem d50{x y:Int}:a4i x y≠0↔x≠y:=by
 rcases Q0 x y with h|h|h<;>rw[h.2]<;>omega
theorem g1x(x y:H1):d19 x y (e9s x y):=by
 unfold e9s;refine d23 _ _ _ ⟨fun h=>⟨_,c2m _ _,?_⟩,fun h=>⟨fun h2=>⟨_,c2m _ _,?_⟩,fun h2=>⟨fun h3=>?_,fun h3=>⟨fun h4=>?_,fun h4=>⟨fun h5=>?_,fun h5=>⟨fun h6=>?_,fun h6=>?_⟩⟩⟩⟩⟩⟩
 ·simp at h;simp only[orL];rw[if_pos (d50.2 h)]
 all_goals simp only[bne_eq_false_iff_eq]at h
 all_goals have e1:a4i x.Num y.Num=0:=by rcases Q0 x.Num y.Num with g|g|g<;>omega
 ·simp at h2;simp only[orL,e1];rw[if_neg (by simp),if_pos (d50.2 h2)]
 all_goals simp only[bne_eq_false_iff_eq]at h2
 all_goals have e2:a4i x.Wire y.Wire=0:=by rcases Q0 x.Wire y.Wire with g|g|g<;>omega
 ·simp at h3;have e3:a4i x.Bits y.Bits= -1:=by simp[a4i,h3]
  simp[orL,e1,e2,e3]
 ·simp at h3 h4;have e3:a4i x.Bits y.Bits=1:=by simp[a4i,h4];omega
  simp[orL,e1,e2,e3]
 all_goals simp only[decide_eq_false_iff_not]at h3 h4
 all_goals have e3:a4i x.Bits y.Bits=0:=by rcases Q0 x.Bits y.Bits with g|g|g<;>omega
 ·simp[orL,e1,e2,e3,d6i,h5]
 ·have e4:d6i x.Data y.Data=1:=by unfold d6i;rw[if_neg (nt h5),if_pos h6]
  simp[orL,e1,e2,e3,e4]
 ·have e4:d6i x.Data y.Data=0:=by unfold d6i;rw[if_neg (nt h5),if_neg (nt h6)]
  simp[orL,e1,e2,e3,e4]
theorem or2(u v:Int):orL [u,v]=if u≠0 then u else v:=by
 simp only[orL]
 by_cases hu:u=0
 ·subst hu;by_cases hv:v=0<;>simp[hv]
 ·simp[hu]
theorem c1e:∀(n:Nat) (a b:A0),OkD a->OkD b->SizeOf.sizeOf a<=n->a15 a b (W8 n a b)
 |0,a,b,_,_,h=>by have:=szV a;omega
 |n+1,a,b,ha,hb,hn=>by
  obtain⟨_,hab,⟨la,pa,sa,ra⟩,hla,hpa,hsa⟩:=ha.inv;obtain⟨_,hbb,_,hlb,hpb,hsb⟩:=hb.inv
  have sc:∀k:Int,k=10\/k=11\/k=12->¬isS k=true:=by
   intro k hk h;unfold isS at h;rw[Bool.and_eq_true,decide_eq_true_eq,decide_eq_true_eq]at h;omega
  refine d2r _ _ _ ⟨fun h=>⟨_,c2m _ _,?_⟩,fun h=>?_⟩
  ·simp at h;rw[W8,if_pos h]
  have hk:a.Kind=b.Kind:=by simpa using h
  rw[W8,if_neg (by simp[hk])];refine⟨fun h1=>?_,fun h1=>⟨fun h2=>?_,fun h2=>⟨fun h3=>?_,fun h3=>?_⟩⟩⟩
  all_goals simp only[beq_iff_eq,beq_eq_false_iff_ne]at*
  ·rw[if_neg (sc _ (by omega)),if_pos h1];exact⟨_,c8z _ _ _ (c4d (W8 n) (fun i s t r hw=>c2t _ _ _ _ hw) _ _ la fun x hx y hy=>c1e n x y (hla x hx) (hlb y hy) (by have:=szL hx;omega)),rfl⟩
  ·rw[if_neg (sc _ (by omega)),if_neg h1,if_pos h2];refine⟨_,c79 _ _ _ (c4d (C:=fun x y z=>∃u v,a15 x.1 y.1 u/\a15 x.2 y.2 v/\z=orL [u,v]) (fun x y=>orL [W8 n x.1 y.1,W8 n x.2 y.2]) (fun i s t r hw=>c2p _ _ _ _ ⟨fun h=>?_,hw.2⟩) _ _ pa fun x hx y hy=>?_),rfl⟩
   ·obtain⟨y6,p1,p2,y7,q1,q2,z,⟨u,v,c1,c2,rfl⟩,r1,r2⟩:=hw.1 h;rw[or2]at r1 r2;refine⟨y6,p1,p2,y7,q1,q2,u,c1,fun hu=>?_,fun hu=>⟨y6,p1,p2,y7,q1,q2,v,c2,fun hv=>?_,fun hv=>?_⟩⟩
    ·have:u≠0:=by simpa using hu
     rw[if_pos this]at r1;exact r1 (by simpa using this)
    ·have:u=0:=by simpa using hu
     rw[if_neg (by simp[this])]at r1;exact r1 hv
    ·have:u=0:=by simpa using hu
     rw[if_neg (by simp[this])]at r2;exact r2 hv
   ·have hz:=szP hx;exact⟨_,_,c1e n _ _ (hpa x hx).1 (hpb y hy).1 (by omega),c1e n _ _ (hpa x hx).2 (hpb y hy).2 (by omega),rfl⟩
  ·rw[if_neg (sc _ (by omega)),if_neg h1,if_neg h2,if_pos h3,or2];refine⟨_,c77 _ _ _ (c4d (C:=fun x y z=>∃u v,S7 x.1 y.1 u/\a15 x.2 y.2 v/\z=orL [u,v]) (fun x y=>orL [a4i x.1 y.1,W8 n x.2 y.2]) (fun i s t r hw=>c2k _ _ _ _ ⟨fun h=>?_,hw.2⟩) _ _ sa fun x hx y hy=>?_),fun h4=>?_,fun h4=>⟨_,d1c _ _ _ (c4d e9s (fun i s t r hw=>c4f _ _ _ _ hw) _ _ ra fun x hx y hy=>g1x x y),?_⟩⟩
   ·obtain⟨y6,p1,p2,y7,q1,q2,z,⟨u,v,c1,c2,rfl⟩,r1,r2⟩:=hw.1 h;rw[or2]at r1 r2;refine⟨y6,p1,p2,y7,q1,q2,u,c1,fun hu=>?_,fun hu=>⟨y6,p1,p2,y7,q1,q2,v,c2,fun hv=>?_,fun hv=>?_⟩⟩
    ·have:u≠0:=by simpa using hu
     rw[if_pos this]at r1;exact r1 (by simpa using this)
    ·have:u=0:=by simpa using hu
     rw[if_neg (by simp[this])]at r1;exact r1 hv
    ·have:u=0:=by simpa using hu
     rw[if_neg (by simp[this])]at r2;exact r2 hv
   ·have hz:=szS hx;exact⟨_,_,c2m _ _,c1e n _ _ (hsa x hx) (hsb y hy) (by omega),rfl⟩
   ·rw[if_pos (by simpa using h4)]
   ·rw[if_neg (by simpa using h4)]
  ·refine⟨_,f6e a b hk hab hbb,?_⟩
   by_cases hs:isS a.Kind=true
   ·rw[if_pos hs,if_pos hs]
   ·rw[if_neg hs,if_neg hs,if_neg h1,if_neg h2,if_neg h3]
abbrev Tp{α:Type}(c:α->α->Int):Prop:=Pre c (fun _:α=>True)
section
variable {α:Type}{c c1 c2:α->α->Int}
theorem Tp.s(h:Tp c)(x y:α):c x y<0↔0<c y x:=h.sym x y trivial trivial
theorem Tp.t(h:Tp c)(x y z:α):c x y<=0->c y z<=0->c x z<=0:=h.trans x y z trivial trivial trivial
theorem f73(h:Tp c){x y:α}{p q:Int}(hpq:p<0↔0<q):(if c x y≠0 then c x y else p)<0↔0<(if c y x≠0 then c y x else q):=by
 have h1:=h.s x y;have h2:=h.s y x
 by_cases hx:c x y=0
 ·have hy:c y x=0:=by omega
  rw[if_neg (by simp[hx]),if_neg (by simp[hy])];exact hpq
 ·have hy:c y x≠0:=by omega
  rw[if_pos hx,if_pos hy];exact h1
theorem e06(h:Tp c){x y z:α}{p q r:Int}(hp:p<=0->q<=0->r<=0)(h1:(if c x y≠0 then c x y else p)<=0)(h2:(if c y z≠0 then c y z else q)<=0):(if c x z≠0 then c x z else r)<=0:=by
 have sxy:=h.s x y;have syx:=h.s y x;have syz:=h.s y z;have szy:=h.s z y;have sxz:=h.s x z;have szx:=h.s z x;have t1:=h.t x y z;have t2:=h.t y z x;have t3:=h.t z x y
 by_cases hxz:c x z=0
 ·rw[if_neg (by simp[hxz])]
  have e1:c x y=0:=by
   by_cases e:c x y=0
   ·exact e
   ·rw[if_pos e]at h1
    by_cases e2:c y z=0
    ·have:=t2 (by omega) (by omega);omega
    ·rw[if_pos e2]at h2;have:=t2 (by omega) (by omega);omega
  have e2:c y z=0:=by
   by_cases e:c y z=0
   ·exact e
   ·rw[if_pos e]at h2;have:=t3 (by omega) (by omega);omega
  rw[if_neg (by simp[e1])]at h1;rw[if_neg (by simp[e2])]at h2;exact hp h1 h2
 ·rw[if_pos hxz]
  by_cases e1:c x y=0
  ·by_cases e2:c y z=0
   ·exact t1 (by omega) (by omega)
   ·rw[if_pos e2]at h2;exact t1 (by omega) (by omega)
  ·rw[if_pos e1]at h1
   by_cases e2:c y z=0
   ·exact t1 (by omega) (by omega)
   ·rw[if_pos e2]at h2;exact t1 (by omega) (by omega)
theorem e4k(h1:Tp c1)(h2:Tp c2):Tp (fun x y=>orL [c1 x y,c2 x y]):=by
 refine⟨fun x y _ _=>?_,fun x y z _ _ _=>?_⟩
 ·simp only[or2];exact f73 h1 (h2.s x y)
 ·simp only[or2];exact e06 h1 (h2.t x y z)
theorem c95(h:Tp c):Tp (b6p c):=by
 refine⟨fun l m _ _=>?_,fun l m k _ _ _=>?_⟩
 ·induction l generalizing m with
  |nil=>cases m<;>simp[b6p]
  |cons x l ih=>
   cases m with
   |nil=>simp[b6p]
   |cons y m=>simp only[b6p];exact f73 h (ih m)
 ·induction l generalizing m k with
  |nil=>cases m<;>cases k<;>simp[b6p]
  |cons x l ih=>
   cases m with
   |nil=>simp[b6p]
   |cons y m=>
    cases k with
    |nil=>simp only[b6p];intro _ h2;exact h2
    |cons z k=>simp only[b6p];exact e06 h (ih m k)
theorem g5x(key:α->Int)(f:Int->α->α->Int)(hf:∀k,Tp (f k)):Tp (fun a b=>if key a≠key b then a4i (key a) (key b) else f (key a) a b):=by
 refine⟨fun x y _ _=>?_,fun x y z _ _ _ h1 h2=>?_⟩
 ·by_cases h:key x=key y
  ·simp only[h,ne_eq,not_true_eq_false,if_false];exact(hf _).s x y
  ·simp only[ne_eq,h,not_false_eq_true,if_true,Ne.symm h];rcases Q0 (key x) (key y) with g|g|g<;>rcases Q0 (key y) (key x) with e|e|e<;>rw[g.2,e.2]<;>omega
 ·simp only[ne_eq]at h1 h2 ⊢
  by_cases e1:key x=key y
  ·by_cases e2:key y=key z
   ·rw[if_neg (by simp[e1,e2])];rw[if_neg (by simp[e1])]at h1;rw[if_neg (by simp[e2])]at h2;rw[<-e1]at h2;exact(hf _).t x y z h1 h2
   ·rw[if_pos e2]at h2;rw[if_pos (by rw[e1];exact e2),e1];exact h2
  ·rw[if_pos e1]at h1
   by_cases e2:key y=key z
   ·rw[if_pos (by rw[<-e2];exact e1),<-e2];exact h1
   ·rw[if_pos e2]at h2;rcases Q0 (key x) (key y) with g|g|g<;>rcases Q0 (key y) (key z) with e|e|e<;>rw[g.2]at h1<;>rw[e.2]at h2<;>first|omega|skip
    rw[if_pos (by omega)];rcases Q0 (key x) (key z) with d|d|d<;>rw[d.2]<;>omega
theorem f1y:Tp (fun _ _:α=>0):=⟨fun x y _ _=>by simp,fun x y z _ _ _ _ _=>by simp⟩
theorem b3l{β:Type}(h:Tp c)(f:β->α):Tp (fun x y=>c (f x) (f y)):=⟨fun x y _ _=>h.s _ _,fun x y z _ _ _=>h.t _ _ _⟩
theorem d99(p:Bool)(h1:Tp c1)(h2:Tp c2):Tp (fun x y=>if p=true then c1 x y else c2 x y):=by cases p<;>simpa
theorem f49:Tp a4i:=e8p fun x:Int=>x
end
theorem d3p:∀l m:List UInt8,(if Op.bytesLess l m=true then(-1:Int) else if(!(Op.bytesLess l m||l==m))=true then 1 else 0)=b6p (fun a b:UInt8=>a4i a.toNat b.toNat) l m
 |[],[]=>by simp[Op.bytesLess,b6p]
 |[],b::m=>by simp[Op.bytesLess,b6p]
 |a::l,[]=>by simp[Op.bytesLess,b6p]
 |a::l,b::m=>by
  have ih:=d3p l m;simp only[b6p,Op.bytesLess];rw[<-ih];have hab:a<b↔a.toNat<b.toNat:=UInt8.lt_iff_toNat_lt;have hba:b<a↔b.toNat<a.toNat:=UInt8.lt_iff_toNat_lt;rcases Q0 (a.toNat:Int) (b.toNat:Int) with g|g|g
  ·have h1:a<b:=hab.2 (by omega);simp[h1,g.2]
  ·have h1:a=b:=UInt8.toNat_inj.1 (by omega);subst h1;have h2:¬a<a:=UInt8.lt_irrefl a;simp[h2,g.2]
  ·have h1:¬a<b:=fun h=>by have:=hab.1 h;omega
   have h2:¬a=b:=fun h=>by subst h;omega
   simp[h1,h2,g.2]
theorem h49:Tp d6i:=by
 have h:=b3l (c95 (b3l f49 fun a:UInt8=>(a.toNat:Int))) fun x:ByteArray=>x.toList
 have e:d6i=fun x y=>b6p (fun a b:UInt8=>a4i (a.toNat:Int) (b.toNat:Int)) x.toList y.toList:=by
  funext x y
  exact d3p x.toList y.toList
 rw[e];exact h
theorem h7i:Tp e9s:=by
 have h:=e4k (b3l f49 fun x:H1=>x.Num) (e4k (b3l f49 fun x:H1=>x.Wire) (e4k (b3l f49 fun x:H1=>x.Bits) (b3l h49 fun x:H1=>x.Data)))
 have e:e9s=fun x y:H1=>orL [a4i x.Num y.Num,orL [a4i x.Wire y.Wire,orL [a4i x.Bits y.Bits,d6i x.Data y.Data]]]:=by
  funext x y
  simp only[e9s,orL];split
  ·rfl
  ·split
   ·simp[*]
   ·split
    ·simp[*]
    ·split<;>simp[*]
 rw[e];exact h
def g3f(k:Int)(a b:A0):Int:=
 if((k==7)||(k==8))=true then d6i a.Text b.Text
 else if((k==2)||(k==3))=true then a4i (wI a.Bits) (wI b.Bits)
 else if(k==6)=true then a4i (b8b a.Bits) (b8b b.Bits)
 else a4i a.Bits b.Bits
theorem h7z(k:Int):Tp (g3f k):=d99 _ (b3l h49 fun v:A0=>v.Text) (d99 _ (b3l f49 fun v:A0=>wI v.Bits) (d99 _ (b3l f49 fun v:A0=>b8b v.Bits) (b3l f49 fun v:A0=>v.Bits)))
theorem g2q:∀n,Tp (W8 n)
 |0=>f1y
 |n+1=>by
  have ih:=g2q n
  have h:=g5x (fun v:A0=>v.Kind) (fun k a b=>if isS k=true then g3f k a b else if decide (k=11)=true then b6p (W8 n) a.List_ b.List_ else if decide (k=12)=true then b6p (fun x y=>orL [W8 n x.1 y.1,W8 n x.2 y.2]) a.Pairs b.Pairs else if decide (k=10)=true then orL [b6p (fun x y=>orL [a4i x.1 y.1,W8 n x.2 y.2]) a.Slots b.Slots,b6p e9s a.Raws b.Raws] else 0)
   fun k=>d99 _ (h7z k) (d99 _ (b3l (c95 ih) fun v:A0=>v.List_) (d99 _ (b3l (c95 (e4k (b3l ih fun x:A0 × A0=>x.1) (b3l ih fun x:A0 × A0=>x.2))) fun v:A0=>v.Pairs) (d99 _ (e4k (b3l (c95 (e4k (b3l f49 fun x:Int × A0=>x.1) (b3l ih fun x:Int × A0=>x.2))) fun v:A0=>v.Slots) (b3l (c95 h7i) fun v:A0=>v.Raws)) f1y)))
  have e:W8 (n+1)=fun a b:A0=>if a.Kind≠b.Kind then a4i a.Kind b.Kind else(fun(k:Int) (a b:A0)=>if isS k=true then g3f k a b else if decide (k=11)=true then b6p (W8 n) a.List_ b.List_ else if decide (k=12)=true then b6p (fun x y=>orL [W8 n x.1 y.1,W8 n x.2 y.2]) a.Pairs b.Pairs else if decide (k=10)=true then orL [b6p (fun x y=>orL [a4i x.1 y.1,W8 n x.2 y.2]) a.Slots b.Slots,b6p e9s a.Raws b.Raws] else 0) a.Kind a b:=by
   funext a b
   simp only[W8,decide_eq_true_eq];rfl
  rw[e];exact h
def a0r{α:Type}(c:α->α->Int):List α->List α
 |[]=>[]
 |[x]=>[x]
 |x::y::l=>if c x y=0 then a0r c (y::l) else x::a0r c (y::l)
abbrev kc(N:Nat)(x y:A0 × A0):Int:=W8 N x.1 y.1
def OkP(N:Nat)(x:A0 × A0):Prop:=OkD x.1/\SizeOf.sizeOf x.1<=N
theorem e5n(N:Nat)(S:List (A0 × A0))(hl:S.length*256<=140737488355328)(hS:∀x∈S,OkP N x):∀(d i:Nat) (done:List (A0 × A0)),S.length - i<=d->i<=S.length->done.length<=i->a4x i S done (done++a0r (kc N) (S.drop i)):=by
 intro d
 induction d with
 |zero=>
  intro i done hd hi hn;have e:i=S.length:=by omega
  subst e;exact a55 _ _ _ _ ⟨fun h=>by simp at h,fun _=>by simp[a0r]⟩
 |succ d ih=>
  intro i done hd hi hn;rcases Nat.lt_or_ge i S.length with hlt|hge
  ·have e1:wI ((i:Int)+1)=((i+1:Nat):Int):=by rw[wI,C7 (by omega)];omega
   have dr:S.drop i=S[i]::S.drop (i+1):=List.drop_eq_getElem_cons hlt;refine a55 _ _ _ _ ⟨fun _=>⟨S[i],by simp,by omega,fun b=>a0r (kc N) (S.drop i)=if b then S[i]::a0r (kc N) (S.drop (i+1)) else a0r (kc N) (S.drop (i+1)),fun b hb=>⟨fun h=>?_,fun h=>?_⟩,fun h=>?_,fun h=>?_⟩,fun h=>by simp at h;omega⟩
   ·subst h;refine⟨by simp;omega,?_⟩;rw[e1,hb];have:=ih (i+1) (done++[S[i]]) (by omega) (by omega) (by simp;omega);simpa using this
   ·subst h;rw[e1,hb];exact ih (i+1) done (by omega) (by omega) (by omega)
   ·rw[e1]at h;simp at h;have:S.drop (i+1)=[]:=List.drop_eq_nil_of_le (by omega);rw[dr,this];rfl
   ·rw[e1]at h ⊢;simp at h;have h2:i+1<S.length:=by omega
    have dr2:S.drop (i+1)=S[i+1]::S.drop (i+1+1):=List.drop_eq_getElem_cons h2;have o1:=hS _ (List.getElem_mem hlt);have o2:=hS _ (List.getElem_mem h2);refine⟨S[i+1],by simp,by omega,_,b8e _ _ _ ⟨_,c7r N _ _ o1.1 o2.1 o1.2,rfl⟩,?_⟩;rw[dr,dr2];simp only[a0r];rcases Classical.em (W8 N S[i].1 S[i+1].1=0) with h3|h3
    ·simp[kc,h3]
    ·simp[kc,h3]
  ·exact a55 _ _ _ _ ⟨fun h=>by simp at h;omega,fun _=>by rw[List.drop_eq_nil_of_le hge];simp[a0r]⟩
theorem f1b(N:Nat):Pre (kc N) (OkP N):=by
 have h:=b3l (g2q N) fun x:A0 × A0=>x.1
 exact⟨fun x y _ _=>h.s x y,fun x y z _ _ _=>h.t x y z⟩
theorem e4h(N:Nat)(x y:A0 × A0)(hx:OkP N x)(hy:OkP N y):f8d (⟨193,[],[],rfl⟩:GFn) x y (kc N x y):=
 ⟨193,[],[],rfl,(show plainL [AV.agg (V3 x),AV.agg (V3 y)]=true by simp[plainL,plain,N7]),c4i _ _ _ ⟨_,c7r N _ _ hx.1 hy.1 hx.2,rfl⟩⟩
theorem f5l(N:Nat)(l:List (A0 × A0))(hl:l.length*256<=140737488355328)(hok:∀x∈l,OkP N x):∃S,d04 (kc N) l S/\b60 l (a0r (kc N) S):=by
 rcases Classical.em (l=[]) with h0|h0
 ·subst h0;refine⟨[],⟨[],.nil,by simp[a32],rfl⟩,b78 _ _ ⟨fun _=>⟨?_,a23 _,c2d _ _ _ ⟨fun h=>by simp at h,fun _=>rfl⟩⟩,fun h=>(h rfl).elim⟩⟩;exact b10 _ _ fun b _=>⟨fun _=>rfl,fun _=>⟨by simp,rfl⟩⟩
 ·have hpos:0<l.length:=List.length_pos_iff.2 h0;have hmem:∀x∈a32 l,x.1∈l:=fun x hx=>by rw[<-c40 l];exact List.mem_map_of_mem hx
  obtain⟨S,h1,h2,h3⟩:=f6w (f2d ⟨193,[],[],rfl⟩) (f1b N) (fun x y hx hy=>e4h N x y hx hy) (n0:=l.length) (by omega) hpos (a32 l) (by simp[a32]) (fun x hx=>hok _ (hmem x hx)) (d4h l);rw[c40]at h3;have hlen:(fs S).length=l.length:=by simp[h2.length_eq,a32]
  refine⟨fs S,⟨S,h1,h2,rfl⟩,b78 _ _ ⟨fun h=>(h0 h).elim,fun _=>⟨a8d _ ⟨h0,hl⟩,fs S,h3,⟨h0,fun h=>?_⟩,hlen,?_⟩⟩⟩
  ·rw[h]at hlen;simp at hlen;omega
  ·have:=e5n N (fs S) (by rw[hlen];exact hl) (fun x hx=>by
    obtain⟨y,hy,rfl⟩:=List.mem_map.1 hx;exact hok _ (hmem y (h2.mem_iff.1 hy))) (fs S).length 0 [] (by omega) (by omega) (by simp)
   simpa using this
section
variable {α:Type}(c:α->α->Int)
def a78(x:α):List α->List α
 |[]=>[x]
 |y::l=>if c y x<0 then y::a78 x l else x::y::l
def lone(x:α)(l:List α):Bool:=l.all fun y=>c x y !=0
def d9t:List α->List α->List α
 |acc,[]=>acc
 |acc,x::l=>d9t (if lone c x l=true then a78 c x acc else acc) l
def S3:List α->List α
 |[]=>[]
 |x::l=>if lone c x l=true then a78 c x (S3 l) else S3 l
theorem d5l(x:α):∀l,(a78 c x l).length=l.length+1
 |[]=>rfl
 |y::l=>by
  simp only[a78];split
  ·simp[d5l x l]
  ·simp
variable {c}
theorem d8f(h:Tp c){x y:α}(hxy:c x y≠0):∀l,a78 c x (a78 c y l)=a78 c y (a78 c x l)
 |[]=>by
  have s1:=h.s x y;have s2:=h.s y x;simp only[a78]
  by_cases e:c y x<0
  ·rw[if_pos e,if_neg (by omega)]
  ·rw[if_neg e,if_pos (by omega)]
 |z::l=>by
  have s1:=h.s x y;have s2:=h.s y x;have s3:=h.s z x;have s4:=h.s z y;have s5:=h.s x z;have s6:=h.s y z;have t1:=h.t y x z;have t2:=h.t x y z;have t3:=h.t x z y;have t4:=h.t y z x;have t5:=h.t z x y;have t6:=h.t z y x;simp only[a78]
  by_cases e1:c z x<0<;>by_cases e2:c z y<0<;>simp only[e1,e2,if_true,if_false,a78]
  ·rw[d8f h hxy l]
  ·have e3:¬c x y<0:=by omega
   have e4:c y x<0:=by omega
   simp[e4]
  ·have e3:c x y<0:=by omega
   simp[e3]
  ·by_cases e4:c y x<0
   ·simp[e4];omega
   ·have e5:c x y<0:=by omega
    simp[e4,e5]
def c3d:List α->List α->List α
 |acc,[]=>acc
 |acc,x::l=>if lone c x l=true then a78 c x (c3d acc l) else c3d acc l
theorem d3e(h:Tp c)(x:α):∀(l acc:List α),lone c x l=true->c3d (c:=c) (a78 c x acc) l=a78 c x (c3d (c:=c) acc l)
 |[],acc,_=>rfl
 |y::l,acc,hl=>by
  simp only[lone,List.all_cons,Bool.and_eq_true,bne_iff_ne,ne_eq]at hl;have ih:=d3e h x l acc hl.2;simp only[c3d,ih];split
  ·exact d8f h (by have:=h.s x y;have:=h.s y x;omega) _
  ·rfl
theorem d4x(h:Tp c):∀(l acc:List α),d9t c acc l=c3d (c:=c) acc l
 |[],acc=>rfl
 |x::l,acc=>by
  simp only[d9t,c3d]
  by_cases e:lone c x l=true
  ·rw[if_pos e,if_pos e,d4x h l,d3e h x l acc e]
  ·rw[if_neg e,if_neg e,d4x h l]
theorem e2m:∀(l:List α),c3d (c:=c) [] l=S3 c l
 |[]=>rfl
 |x::l=>by simp only[c3d,S3,e2m l]
end
section
variable {N:Nat}{l:List (A0 × A0)}(hl:l.length*256<=140737488355328) (hok:∀x∈l,OkP N x)
 include hl hok
theorem f2n(i:Nat)(hi:i<l.length)(acc:List (A0 × A0))(hacc:acc.length<=i)(hoa:∀x∈acc,OkP N x)(r:List (A0 × A0)):∀(d at_:Nat),acc.length - at_<=d->at_<=acc.length->J0 ((i+1:Nat):Int) (acc.take at_++a78 (kc N) l[i] (acc.drop at_)) l r->a67 at_ i acc l r:=by
 have e1:wI ((i:Int)+1)=((i+1:Nat):Int):=by rw[wI,C7 (by omega)];omega
 have endc:∀at_:Nat,at_<=acc.length->J0 ((i+1:Nat):Int) (acc.take at_++l[i]::acc.drop at_) l r->∃y59,l[(i:Int).toNat]? =some y59/\0<=(i:Int)/\((0<=(at_:Int)/\(at_:Int)<=(acc.length:Int)/\(acc.length:Int)<=(acc.length:Int))/\(([y59].length+((acc.take (acc.length:Int).toNat).drop (at_:Int).toNat).length)*256<=140737488355328/\((0<=(0:Int)/\(0:Int)<=(at_:Int)/\(at_:Int)<=(acc.length:Int))/\((([]:List (A0 × A0)).length+((acc.take (at_:Int).toNat).drop (0:Int).toNat).length)*256<=140737488355328/\(((([]:List (A0 × A0))++((acc.take (at_:Int).toNat).drop (0:Int).toNat)).length+([y59]++((acc.take (acc.length:Int).toNat).drop (at_:Int).toNat)).length)*256<=140737488355328/\(J0 (wI ((i:Int)+1)) ((([]:List (A0 × A0))++((acc.take (at_:Int).toNat).drop (0:Int).toNat))++([y59]++((acc.take (acc.length:Int).toNat).drop (at_:Int).toNat))) l r)))))):=by
  intro at_ ha hr;refine⟨l[i],by simp,by omega,⟨by omega,by omega,by omega⟩,by simp;omega,⟨by omega,by omega,by omega⟩,by simp;omega,by simp;omega,?_⟩;rw[e1];simpa using hr
 intro d
 induction d with
 |zero=>
  intro at_ hd ha hr;have e:at_=acc.length:=by omega
  subst e;exact a4g _ _ _ _ _ ⟨fun h=>by simp at h,fun _=>endc _ (Nat.le_refl _) (by simpa[a78]using hr)⟩
 |succ d ih=>
  intro at_ hd ha hr;rcases Nat.lt_or_ge at_ acc.length with hlt|hge
  ·have e2:wI ((at_:Int)+1)=((at_+1:Nat):Int):=by rw[wI,C7 (by omega)];omega
   have da:acc.drop at_=acc[at_]::acc.drop (at_+1):=List.drop_eq_getElem_cons hlt;have o1:=hoa _ (List.getElem_mem hlt);have o2:=hok _ (List.getElem_mem hi);rw[da]at hr;simp only[a78]at hr;refine a4g _ _ _ _ _ ⟨fun _=>⟨acc[at_],by simp,by omega,l[i],by simp,by omega,_,c1e N _ _ o1.1 o2.1 o1.2,fun h=>?_,fun h=>?_⟩,fun h=>by simp at h;omega⟩
   ·have h':kc N acc[at_] l[i]<0:=by simpa using h
    rw[if_pos h']at hr;rw[e2];refine ih (at_+1) (by omega) (by omega) ?_;rw[List.take_succ_eq_append_getElem hlt,List.append_assoc];exact hr
   ·have h':¬kc N acc[at_] l[i]<0:=by simpa using h
    rw[if_neg h']at hr;have:=endc at_ ha (by rw[da];exact hr);exact this
  ·have e:at_=acc.length:=by omega
   subst e;exact a4g _ _ _ _ _ ⟨fun h=>by simp at h,fun _=>endc _ (Nat.le_refl _) (by simpa[a78]using hr)⟩
theorem e0n(i:Nat)(hi:i<l.length)(acc:List (A0 × A0))(hacc:acc.length<=i)(hoa:∀x∈acc,OkP N x)(r:List (A0 × A0)):∀(d j:Nat) (o:Bool),l.length - j<=d->j<=l.length->J0 ((i+1:Nat):Int) (if(o&&lone (kc N) l[i] (l.drop j))=true then a78 (kc N) l[i] acc else acc) l r->a02 j o i acc l r:=by
 have e1:wI ((i:Int)+1)=((i+1:Nat):Int):=by rw[wI,C7 (by omega)];omega
 have fin:∀(o:Bool),J0 ((i+1:Nat):Int) (if(o&&lone (kc N) l[i] (l.drop l.length))=true then a78 (kc N) l[i] acc else acc) l r->a02 (l.length:Nat) o i acc l r:=by
  intro o hr;refine b1c _ _ _ _ _ _ ⟨fun h=>by simp at h,fun _=>⟨fun h=>?_,fun h=>?_⟩⟩
  ·subst h;have hr':J0 ((i+1:Nat):Int) (a78 (kc N) l[i] acc) l r:=by simpa[lone]using hr
   have:=f2n hl hok i hi acc hacc hoa r acc.length 0 (by omega) (by omega) (by simpa using hr');simpa using this
  ·subst h;rw[e1];simpa using hr
 intro d
 induction d with
 |zero=>
  intro j o hd hj hr;have e:j=l.length:=by omega
  subst e;exact fin o hr
 |succ d ih=>
  intro j o hd hj hr;rcases Nat.lt_or_ge j l.length with hlt|hge
  ·have e2:wI ((j:Int)+1)=((j+1:Nat):Int):=by rw[wI,C7 (by omega)];omega
   have dl:l.drop j=l[j]::l.drop (j+1):=List.drop_eq_getElem_cons hlt;have o1:=hok _ (List.getElem_mem hi);have o2:=hok _ (List.getElem_mem hlt);rw[dl]at hr;refine b1c _ _ _ _ _ _ ⟨fun _=>⟨fun h=>?_,fun h=>?_⟩,fun h=>by simp at h;omega⟩
   ·subst h;refine⟨l[i],by simp,by omega,l[j],by simp,by omega,_,c1e N _ _ o1.1 o2.1 o1.2,?_⟩;rw[e2];refine ih (j+1) _ (by omega) (by omega) ?_;rw[Bool.true_and,show lone (kc N) l[i] (l[j]::l.drop (j+1))=((kc N l[i] l[j] !=0)&&lone (kc N) l[i] (l.drop (j+1))) from rfl]at hr;exact hr
   ·subst h;rw[e2];exact ih (j+1) _ (by omega) (by omega) (by simpa using hr)
  ·have e:j=l.length:=by omega
   subst e;exact fin o hr
theorem d9l:∀(d i:Nat) (acc:List (A0 × A0)),l.length - i<=d->i<=l.length->acc.length<=i->(∀x∈acc,OkP N x)->J0 i acc l (d9t (kc N) acc (l.drop i)):=by
 intro d
 induction d with
 |zero=>
  intro i acc hd hi ha hoa;have e:i=l.length:=by omega
  subst e;exact a4e _ _ _ _ ⟨fun h=>by simp at h,fun _=>by simp[d9t]⟩
 |succ d ih=>
  intro i acc hd hi ha hoa;rcases Nat.lt_or_ge i l.length with hlt|hge
  ·have e1:wI ((i:Int)+1)=((i+1:Nat):Int):=by rw[wI,C7 (by omega)];omega
   have dl:l.drop i=l[i]::l.drop (i+1):=List.drop_eq_getElem_cons hlt
   have mem_ins:∀(x:A0 × A0) (m:List (A0 × A0)),∀y∈a78 (kc N) x m,y=x\/y∈m:=by
    intro x m
    induction m with
    |nil=>intro y hy;simp[a78]at hy;exact .inl hy
    |cons z m ihm=>
     intro y hy;simp only[a78]at hy;split at hy
     ·rcases List.mem_cons.1 hy with h|h
      ·exact .inr (by rw[h];simp)
      ·rcases ihm y h with h|h
       ·exact .inl h
       ·exact .inr (by simp[h])
     ·rcases List.mem_cons.1 hy with h|h
      ·exact .inl h
      ·exact .inr h
   refine a4e _ _ _ _ ⟨fun _=>?_,fun h=>by simp at h;omega⟩;rw[e1];refine e0n hl hok i hlt acc ha hoa _ l.length (i+1) true (by omega) (by omega) ?_;rw[dl];simp only[d9t,Bool.true_and];refine ih (i+1) _ (by omega) (by omega) ?_ ?_
   ·split
    ·rw[d5l];omega
    ·omega
   ·intro y hy;split at hy
    ·rcases mem_ins _ _ y hy with h|h
     ·rw[h];exact hok _ (List.getElem_mem hlt)
     ·exact hoa y h
    ·exact hoa y hy
  ·have e:i=l.length:=by omega
   subst e;exact a4e _ _ _ _ ⟨fun h=>by simp at h,fun _=>by simp[d9t]⟩
theorem e9l:b6x l (S3 (kc N) l):=by
 have h:=d9l hl hok l.length 0 [] (by omega) (by omega) (by simp) (fun x hx=>by cases hx);rw[List.drop_zero,d4x (b3l (g2q N) fun x:A0 × A0=>x.1),e2m]at h;exact c7z _ _ h
end
section
variable {α:Type}{c:α->α->Int}
theorem c5t:∀(l:List α),∀x∈a0r c l,x∈l
 |[],x,h=>h
 |[y],x,h=>h
 |y::z::l,x,h=>by
  simp only[a0r]at h;split at h
  ·exact List.mem_cons_of_mem _ (c5t (z::l) x h)
  ·rcases List.mem_cons.1 h with h|h
   ·rw[h];simp
   ·exact List.mem_cons_of_mem _ (c5t (z::l) x h)
theorem d35{x:α}:∀{l:List α},(∀w∈l,¬c w x<0)->a78 c x l=x::l
 |[],_=>rfl
 |y::l,h=>by simp only[a78];rw[if_neg (h y (by simp))]
theorem d7b(h:Tp c)(x:α):∀(S:List α),S.Pairwise (fun a b=>c a b<=0)->a0r c (a78 c x S)=if lone c x S=true then a78 c x (a0r c S) else a0r c S
 |[],_=>rfl
 |y::l,hs=>by
  obtain⟨hy,hl⟩:=List.pairwise_cons.1 hs;have ih:=d7b h x l hl;have s1:=h.s x y;have s2:=h.s y x
  by_cases e:c y x<0
  ·have eI:a78 c x (y::l)=y::a78 c x l:=by simp only[a78];rw[if_pos e]
   have eL:lone c x (y::l)=lone c x l:=by
    have:c x y≠0:=by omega
    simp[lone,this]
   rw[eI,eL];cases l with
   |nil=>
    have:¬c y x=0:=by omega
    simp[a78,a0r,lone,this,e]
   |cons z l=>
    have s3:=h.s z x;have s4:=h.s x z;have s5:=h.s y z;have s6:=h.s z y;have t1:=h.t x z y
    by_cases e2:c z x<0
    ·have e3:a78 c x (z::l)=z::a78 c x l:=by simp only[a78];rw[if_pos e2]
     rw[e3]at ih ⊢;simp only[a0r]at ih ⊢;rw[ih]
     by_cases e4:c y z=0
     ·rw[if_pos e4,if_pos e4]
     ·rw[if_neg e4,if_neg e4]
      by_cases e5:lone c x (z::l)=true
      ·rw[if_pos e5,if_pos e5];simp only[a78];rw[if_pos e]
      ·rw[if_neg e5,if_neg e5]
    ·have e3:a78 c x (z::l)=x::z::l:=by simp only[a78];rw[if_neg e2]
     rw[e3]at ih ⊢;have e4:¬c y x=0:=by omega
     have e5:¬c y z=0:=by
      intro e6;have:=t1 (by omega) (by omega);omega
     have e7:a0r c (y::x::z::l)=y::a0r c (x::z::l):=by
      rw[a0r,if_neg e4]
     have e8:a0r c (y::z::l)=y::a0r c (z::l):=by
      rw[a0r,if_neg e5]
     rw[e7,e8,ih]
     by_cases e9:lone c x (z::l)=true
     ·rw[if_pos e9,if_pos e9];simp only[a78];rw[if_pos e]
     ·rw[if_neg e9,if_neg e9]
  ·have eI:a78 c x (y::l)=x::y::l:=by simp only[a78];rw[if_neg e]
   rw[eI]
   by_cases e0:c x y=0
   ·have:lone c x (y::l)=false:=by simp[lone,e0]
    rw[a0r,if_pos e0,this];simp
   ·have hlt:c x y<0:=by omega
    have hz:∀z∈y::l,c x z<0:=by
     intro z hz;rcases List.mem_cons.1 hz with hz|hz
     ·rw[hz];exact hlt
     ·have q1:=hy z hz;have s3:=h.s z x;have s4:=h.s x z;have t1:=h.t x y z (by omega) q1;have t2:=h.t y z x q1;omega
    have e1:lone c x (y::l)=true:=by
     rw[lone,List.all_eq_true];intro z h2;have:=hz z h2;simp;omega
    rw[a0r,if_neg e0,if_pos e1,d35];intro w hw;have:=hz w (c5t _ w hw);have:=h.s x w;omega
def sC(c:α->α->Int):List α->List α
 |[]=>[]
 |x::l=>a78 c x (sC c l)
theorem b9d(x:α):∀l,(a78 c x l).Perm (x::l)
 |[]=>.refl _
 |y::l=>by
  simp only[a78];split
  ·exact((b9d x l).cons y).trans (.swap x y l)
  ·exact .refl _
theorem d42:∀l:List α,(sC c l).Perm l
 |[]=>.refl _
 |x::l=>(b9d x _).trans ((d42 l).cons x)
theorem d70(h:Tp c):∀l:List α,(sC c l).Pairwise (fun a b=>c a b<=0)
 |[]=>.nil
 |x::l=>by
  have key:∀S:List α,S.Pairwise (fun a b=>c a b<=0)->(a78 c x S).Pairwise (fun a b=>c a b<=0):=by
   intro S
   induction S with
   |nil=>intro _;simp[a78]
   |cons y S ih=>
    intro hs;obtain⟨hy,hS⟩:=List.pairwise_cons.1 hs;simp only[a78];split
    ·rename_i e;refine List.pairwise_cons.2 ⟨fun z hz=>?_,ih hS⟩;rcases List.mem_cons.1 ((b9d x S).mem_iff.1 hz) with h2|h2
     ·rw[h2];omega
     ·exact hy z h2
    ·rename_i e;have s1:=h.s y x;have s2:=h.s x y;have e2:c x y<=0:=by omega
     refine List.pairwise_cons.2 ⟨fun z hz=>?_,hs⟩;rcases List.mem_cons.1 hz with h2|h2
     ·rw[h2];exact e2
     ·exact h.t x y z e2 (hy z h2)
  exact key _ (d70 h l)
theorem e6k{x:α}{l m:List α}(hp:l.Perm m):lone c x l=lone c x m:=by
 unfold lone;rw[Bool.eq_iff_iff,List.all_eq_true,List.all_eq_true];exact⟨fun h y hy=>h y (hp.mem_iff.2 hy),fun h y hy=>h y (hp.mem_iff.1 hy)⟩
theorem c1i(h:Tp c):∀l:List α,a0r c (sC c l)=S3 c l
 |[]=>rfl
 |x::l=>by
  rw[sC,d7b h x _ (d70 h l),c1i h l,e6k (d42 l)];rfl
def f25(c:α->α->Int)(x:α × Nat):List (α × Nat)->List (α × Nat)
 |[]=>[x]
 |y::l=>if c y.1 x.1<0 then y::f25 c x l else x::y::l
theorem e7o(x:α × Nat):∀l,fs (f25 c x l)=a78 c x.1 (fs l)
 |[]=>rfl
 |y::l=>by
  simp only[f25,List.map_cons,a78];split
  ·show y.1::fs (f25 c x l)=_;rw[e7o x l]
  ·rfl
theorem d0p(x:α × Nat):∀l,(f25 c x l).Perm (x::l)
 |[]=>.refl _
 |y::l=>by
  simp only[f25];split
  ·exact((d0p x l).cons y).trans (.swap x y l)
  ·exact .refl _
theorem e3f(h:Tp c)(x:α × Nat):∀l:List (α × Nat),(∀y∈l,x.2<y.2)->Srt c l->Srt c (f25 c x l)
 |[],_,_=>by simp[f25,Srt]
 |y::l,hx,hs=>by
  obtain⟨hy,hl⟩:=List.pairwise_cons.1 hs;simp only[f25];split
  ·rename_i e;refine List.pairwise_cons.2 ⟨fun z hz=>?_,e3f h x l (fun y hy=>hx y (by simp[hy])) hl⟩;rcases List.mem_cons.1 ((d0p x l).mem_iff.1 hz) with h2|h2
   ·rw[h2];exact .inl e
   ·exact hy z h2
  ·rename_i e;have s1:=h.s y.1 x.1;have s2:=h.s x.1 y.1;have e2:c x.1 y.1<=0:=by omega
   refine List.pairwise_cons.2 ⟨fun z hz=>?_,hs⟩;have hxz:=hx z hz
   have:c x.1 z.1<=0:=by
    rcases List.mem_cons.1 hz with h2|h2
    ·rw[h2];exact e2
    ·have:=hy z h2;unfold Rt at this;exact h.t x.1 y.1 z.1 e2 (by omega)
   unfold Rt;omega
theorem d0e(h:Tp c):∀l:List α,∃T,Srt c T/\T.Perm (a32 l)/\fs T=sC c l
 |[]=>⟨[],.nil,by simp[a32],rfl⟩
 |x::l=>by
  obtain⟨T,h1,h2,h3⟩:=d0e h l;have e1:fs (T.map fun p=>(p.1,p.2+1))=fs T:=by simp[fs]
  refine⟨f25 c (x,0) (T.map fun p=>(p.1,p.2+1)),e3f h _ _ (fun y hy=>?_) ?_,(d0p _ _).trans ?_,?_⟩
  ·obtain⟨p,_,rfl⟩:=List.mem_map.1 hy;exact Nat.succ_pos _
  ·show List.Pairwise _ _;rw[List.pairwise_map]
   exact h1.imp fun {a b} hab=>by
    unfold Rt at hab ⊢;simp only;omega
  ·have e2:a32 (x::l)=(x,0)::(a32 l).map fun p=>(p.1,p.2+1):=by
    simp[a32,List.zipIdx_succ]
   rw[e2];exact(h2.map _).cons _
  ·rw[e7o,e1,h3];rfl
end
theorem f6k(N:Nat)(l:List (A0 × A0))(hl:l.length*256<=140737488355328)(hok:∀x∈l,OkP N x):b60 l (S3 (kc N) l):=by
 have h:Tp (kc N):=b3l (g2q N) fun x:A0 × A0=>x.1
 obtain⟨S,h1,h2⟩:=f5l N l hl hok;obtain⟨T,q1,q2,q3⟩:=d0e h l
 have e:S=sC (kc N) l:=by
  rw[<-q3];exact d04.one (Dm:=fun _=>True) h (fun _ _=>trivial) h1 ⟨T,q1,q2,rfl⟩
 rw[e,c1i h]at h2;exact h2
theorem e6n(N:Nat)(l:List (A0 × A0))(hl:l.length*256<=140737488355328)(hok:∀x∈l,OkP N x):b6x l (S3 (kc N) l):=e9l hl hok
abbrev kn(x y:Int × A0):Int:=a4i x.1 y.1
theorem e8z:Tp kn:=b3l f49 fun x:Int × A0=>x.1
theorem e7j:∀l:List (Int × A0),c72 l=a0r kn l
 |[]=>rfl
 |[x]=>rfl
 |x::y::l=>by
  simp only[c72,a0r];rw[e7j (y::l)];have h:=d50 (x:=x.1) (y:=y.1)
  by_cases e:x.1=y.1
  ·rw[if_pos e,if_pos (by simp only[kn];omega)]
  ·rw[if_neg e,if_neg (by simp only[kn];omega)]
theorem f1r(l:List (Int × A0))(hl:l.length*136<=140737488355328):b33 l (S3 kn l):=by
 obtain⟨S,h1,h2⟩:=f44 l hl;obtain⟨T,q1,q2,q3⟩:=d0e e8z l
 have e:S=sC kn l:=by
  rw[<-q3];exact d04.one (Dm:=fun _=>True) e8z (fun _ _=>trivial) h1 ⟨T,q1,q2,rfl⟩
 rw[e,e7j,c1i e8z]at h2;exact h2
abbrev kr(x y:H1):Int:=a4i x.Num y.Num
def op0:GOp:=⟨0,⟨#[]⟩,⟨#[]⟩,0,0,0,0,0⟩
def opL(num:Int):List GOp->GOp × Bool
 |[]=>(op0,false)
 |o::l=>if(o.Num==num)=true then(o,true) else opL num l
def opV(g:B7)(num:Int):GOp × Bool:=opL num g.Ops
theorem g2z(g:B7)(hg:g.Ops.length<=140737488351232)(num:Int):∀(d i:Nat),g.Ops.length - i<=d->i<=g.Ops.length->∃k:Int,T5 i g.Ops (⟨161,[],[.elt [.v (.int .i64 num)] 0],by simp[plainL,plain]⟩:GFn) k/\((k<0/\opL num (g.Ops.drop i)=(op0,false))\/∃o,0<=k/\g.Ops[k.toNat]? =some o/\opL num (g.Ops.drop i)=(o,true)):=by
 intro d
 induction d with
 |zero=>
  intro i hd hi;refine⟨-1,M9 _ _ _ _ ⟨fun h=>by simp at h;omega,fun _=>rfl⟩,.inl ⟨by omega,?_⟩⟩;rw[List.drop_eq_nil_of_le (by omega)];rfl
 |succ d ih=>
  intro i hd hi;rcases Nat.lt_or_ge i g.Ops.length with hlt|hge
  ·have e1:wI ((i:Int)+1)=((i+1:Nat):Int):=by rw[wI,C7 (by omega)];omega
   have dl:g.Ops.drop i=g.Ops[i]::g.Ops.drop (i+1):=List.drop_eq_getElem_cons hlt;have hc:=d6d g.Ops[i] num _ (d22 _ _ _ rfl)
   by_cases e:(g.Ops[i].Num==num)=true
   ·refine⟨i,M9 _ _ _ _ ⟨fun _=>⟨g.Ops[i],by simp,by omega,_,hc,fun _=>rfl,fun h=>?_⟩,fun h=>by simp at h;omega⟩,.inr ⟨g.Ops[i],by omega,by simp,?_⟩⟩
    ·rw[h]at e;cases e
    ·rw[dl,opL,if_pos e]
   ·obtain⟨k,h1,h2⟩:=ih (i+1) (by omega) (by omega);refine⟨k,M9 _ _ _ _ ⟨fun _=>⟨g.Ops[i],by simp,by omega,_,hc,fun h=>(e h).elim,fun _=>by rw[e1];exact h1⟩,fun h=>by simp at h;omega⟩,?_⟩;rw[dl,opL,if_neg e];exact h2
  ·refine⟨-1,M9 _ _ _ _ ⟨fun h=>by simp at h;omega,fun _=>rfl⟩,.inl ⟨by omega,?_⟩⟩;rw[List.drop_eq_nil_of_le hge];rfl
theorem e6j(g:B7)(hg:g.Ops.length<=140737488351232)(num:Int):c11 g num (opV g num):=by
 obtain⟨k,h1,h2⟩:=g2z g hg num g.Ops.length 0 (by omega) (by omega);rw[List.drop_zero]at h2;refine d72 _ _ _ ⟨_,c2v _ _ _ ⟨k,b2a _ _ _ h1,fun h=>?_,fun h=>?_⟩,rfl⟩
 ·rcases h2 with⟨_,e⟩|⟨o,q1,_⟩
  ·exact e
  ·simp at h;omega
 ·rcases h2 with⟨q,_⟩|⟨o,q1,q2,e⟩
  ·simp at h;omega
  ·exact⟨o,q2,q1,e⟩
theorem e2p(g:B7)(hg:g.Ops.length<=140737488351232)(num:Int):b9z g num (opV g num):=by
 have key:∀(d i:Nat),g.Ops.length - i<=d->i<=g.Ops.length->b7y i num g (opL num (g.Ops.drop i)):=by
  intro d
  induction d with
  |zero=>
   intro i hd hi;exact b0x _ _ _ _ ⟨fun h=>by simp at h;omega,fun _=>by rw[List.drop_eq_nil_of_le (by omega)];rfl⟩
  |succ d ih=>
   intro i hd hi;rcases Nat.lt_or_ge i g.Ops.length with hlt|hge
   ·have e1:wI ((i:Int)+1)=((i+1:Nat):Int):=by rw[wI,C7 (by omega)];omega
    have dl:g.Ops.drop i=g.Ops[i]::g.Ops.drop (i+1):=List.drop_eq_getElem_cons hlt;refine b0x _ _ _ _ ⟨fun _=>⟨g.Ops[i],by simp,by omega,fun h=>⟨g.Ops[i],by simp,by omega,?_⟩,fun h=>?_⟩,fun h=>by simp at h;omega⟩
    ·rw[dl,opL,if_pos h]
    ·rw[dl,opL,if_neg (nt h),e1];exact ih (i+1) (by omega) (by omega)
   ·exact b0x _ _ _ _ ⟨fun h=>by simp at h;omega,fun _=>by rw[List.drop_eq_nil_of_le hge];rfl⟩
 have:=key g.Ops.length 0 (by omega) (by omega);exact d5d _ _ _ (by simpa[opV]using this)
structure OkC(c:A3):Prop where
 sz:c.Data.size<=140737488351232
 a0: -9223372036854775808<=c.At
 a1:c.At<=9223372036854775807
theorem e08(c:A3):b4q c (b4p c.Data c.At c.End):=c6n _ _ (by simp only[b4p,Bool.decide_and,Bool.and_assoc])
theorem d5r(c:A3)(hc:OkC c):a81 c (a2b c.Data c.At c.End):=by
 refine c8j _ _ ⟨_,e08 c,fun h=>?_,fun h=>?_⟩
 ·rw[a2b,if_neg (by simpa using h)]
 ·have h1:b4p c.Data c.At c.End=true:=by simpa using h
  rw[a2b,if_pos h1];simp only[b4p,decide_eq_true_eq]at h1;have:=hc.sz;rw[wI,C7 (by omega)]
def G0(c:A3):ByteArray:=c.Data.extract c.At.toNat (c.At.toNat+(a2b c.Data c.At c.End).toNat)
theorem c7w(c:A3):0<=a2b c.Data c.At c.End:=by
 unfold a2b;split
 ·rename_i h;simp only[b4p,decide_eq_true_eq]at h;omega
 ·exact Int.le_refl _
theorem b0r(c:A3):((G0 c).size:Int)=a2b c.Data c.At c.End:=by
 unfold G0;unfold a2b;split
 ·rename_i h;simp only[b4p,decide_eq_true_eq]at h;rw[W4 _ (by omega)];omega
 ·rw[show c.At.toNat+(0:Int).toNat=c.At.toNat from rfl,c83];rfl
def a0p(c:A3)(n:Int):A3:=⟨c.Data,c.At+n,c.End,c.Depth,c.Nodes,c.Text⟩
theorem c87(c:A3)(n:Int)(h: -9223372036854775808<=c.At+n/\c.At+n<=9223372036854775807):a6u c n (a0p c n):=c58 _ _ _ (by rw[wI,C7 h];rfl)
def a2m(c:A3):Int × A3 × Int:=if 0<a2b c.Data c.At c.End then(E9 c.Data c.At.toNat,a0p c 1,0) else(0,c,4)
theorem f21(c:A3)(hc:OkC c):b7s c (a2m c):=by
 refine c8p _ _ ⟨_,d5r c hc,fun h=>?_,fun h=>?_⟩
 ·rw[a2m,if_neg (by simp at h;omega)]
 ·have h0:0<a2b c.Data c.At c.End:=by simp at h;omega
  obtain⟨h1,h2,h3,h4⟩:=b6a h0;have:=hc.sz;refine⟨⟨h1,by omega⟩,_,c87 c 1 (by omega),?_⟩;rw[a2m,if_pos h0]
def tk(x:Nat × Nat × Nat):Int × Int × Int:=(x.1,x.2.1,x.2.2)
theorem h5g{i:Nat}(h:i<=9):(2:Int) ^ min (wI (7*(i:Int))).toNat IntKind.u64.bits=((128 ^ i:Nat):Int)/\0<=wI (7*(i:Int))/\128 ^ i=2 ^ (7*i):=by
 have:i=0\/i=1\/i=2\/i=3\/i=4\/i=5\/i=6\/i=7\/i=8\/i=9:=by omega
 rcases this with rfl|rfl|rfl|rfl|rfl|rfl|rfl|rfl|rfl|rfl<;>decide+kernel
theorem f54{c i u:Nat}(hi:i<=9)(hc:c<256)(h9:i=9->c<=1)(hu:u<128 ^ i):
  F1 .or .u64 (u:Int) (wU ((wU (F1 .and .u8 (c:Int) 127))*2 ^ min (wI (7*(i:Int))).toNat IntKind.u64.bits))=((u+c % 128*128 ^ i:Nat):Int)/\(i<=8->u+c % 128*128 ^ i<128 ^ (i+1)):=by
 obtain⟨hp,_,hq⟩:=h5g hi;obtain⟨p1,p2,p3⟩:=f11 hi;have hm:c % 128*128 ^ i<=127*128 ^ i:=Nat.mul_le_mul_right _ (by omega)
 have hb:c % 128*128 ^ i<=9223372036854775808/\(i<=8->u+c % 128*128 ^ i<128 ^ (i+1)):=by
  rcases Nat.lt_or_ge i 9 with h|h
  ·have:=p3 (by omega);rw[Nat.pow_succ]at this ⊢;omega
  ·have h':i=9:=by omega
   have:=h9 h';subst h';have:c % 128<=1:=by omega
   have:c % 128*128 ^ 9<=1*128 ^ 9:=Nat.mul_le_mul_right _ this;exact⟨by omega,by omega⟩
 refine⟨?_,hb.2⟩;have e1:wU ((c % 128:Nat):Int)=((c % 128:Nat):Int):=b4j (by omega);have e2:wU ((c % 128*128 ^ i:Nat):Int)=((c % 128*128 ^ i:Nat):Int):=b4j (by omega);rw[g5k c hc,hp,e1,<-Int.natCast_mul,e2,c2i _ _ (by omega) (by omega),hq,e2t _ _ _ (by rw[<-hq];exact hu)]
theorem g8p(s:ByteArray)(hz:s.size<=140737488351232):∀n i u:Nat,10 - i=n->i<=9->i<=s.size->u<128 ^ i->a9f i u s (tk (U5 s i u)):=by
 intro n
 induction n with
 |zero=>intro i u h1 h2 h3;omega
 |succ n ih=>
  intro i u h1 h2 h3 hu;have hb:=a49 s i;rw[U5.eq_def,if_neg (by omega)];have hn:((i:Int)).toNat=i:=by omega
  refine c2n _ _ _ _ ⟨fun h=>?_,fun h=>?_⟩
  ·have:(i:Int)=s.size:=by simpa using h
   rw[if_pos (by omega)];rfl
  have hne:¬(i:Int)=s.size:=by simpa using h
  rcases Nat.lt_or_ge i s.size with hlt|hge
  ·rw[if_neg (by omega)];rw[hn,hb.1];refine⟨⟨by omega,by omega⟩,fun h=>?_,fun h=>?_⟩
   ·simp only[Bool.and_eq_true,beq_iff_eq,decide_eq_true_eq]at h;rw[if_pos (by omega)];rfl
   ·have h9:¬(i=9/\1<F6 s i):=by
     simp only[Bool.and_eq_false_iff,beq_eq_false_iff_ne,decide_eq_false_iff_not]at h;omega
    rw[if_neg h9];obtain⟨e1,e2⟩:=f54 (c:=F6 s i) (u:=u) h2 hb.2 (by omega) hu;refine⟨(h5g h2).2.1,fun h=>?_,fun h=>?_⟩
    ·simp only[decide_eq_true_eq]at h;rw[if_pos (by omega),e1,wI,C7 (by omega)];have:F6 s i % 128=F6 s i:=by omega
     rw[this];rfl
    ·simp only[decide_eq_false_iff_not]at h;rw[if_neg (by omega),e1,wI,C7 (by omega)];have:i<=8:=by omega
     exact ih (i+1) _ (by omega) (by omega) (by omega) (e2 this)
  ·omega
theorem f9f(s:ByteArray)(hz:s.size<=140737488351232):c13 s (tk (U5 s 0 0)):=c8h _ _ (g8p s hz 10 0 0 rfl (by omega) (by omega) (by decide))
def c4h(c:A3)(n:Nat):ByteArray:=c.Data.extract c.At.toNat (c.At.toNat+min (a2b c.Data c.At c.End).toNat n)
theorem f0f(c:A3)(hc:OkC c)(n:Nat)(hn:n<=1000):b64 c n (c4h c n):=by
 refine c8x _ _ _ ⟨_,e08 c,fun h=>?_,fun h=>?_⟩
 ·rw[c4h,a2b,if_neg (by simpa using h)];rw[show(0:Int).toNat=0 from rfl,Nat.zero_min];exact c83 _ _
 ·have h1:b4p c.Data c.At c.End=true:=by simpa using h
  rw[c4h,a2b,if_pos h1];simp only[b4p,decide_eq_true_eq]at h1;have:=hc.sz;rw[wI,C7 (by omega)];exact⟨by omega,by congr 1;omega⟩
theorem d0j(c:A3)(n:Nat):(c4h c n).size=min (a2b c.Data c.At c.End).toNat n:=by
 have:=b0r c;unfold c4h;rcases Int.lt_or_le 0 (a2b c.Data c.At c.End) with h|h
 ·obtain⟨h1,h2,h3,h4⟩:=b6a h;rw[W4 _ (by omega)];omega
 ·have:a2b c.Data c.At c.End=0:=by have:=c7w c;omega
  rw[this,show(0:Int).toNat=0 from rfl,Nat.zero_min];rw[Nat.add_zero,c83];rfl
theorem d8m(c:A3)(n i:Nat)(hi:i<n)(h:i<(G0 c).size):F6 (c4h c n) i=F6 (G0 c) i:=by
 have:=b0r c;unfold c4h G0;rw[U0 _ (by omega),U0 _ (by omega)]
theorem f0t(c:A3):U5 (c4h c 10) 0 0=U5 (G0 c) 0 0:=by
 have hs:=b0r c;have hh:=d0j c 10;refine d9e _ _ (fun i hi=>by omega) (fun i hi h=>d8m c 10 i (by omega) (by omega)) 10 0 0 rfl
theorem OkC.rest{c:A3}(hc:OkC c):(G0 c).size<=140737488351232:=by
 have h1:=b0r c;have:=hc.sz;rcases Int.lt_or_le 0 (a2b c.Data c.At c.End) with h|h
 ·obtain⟨h1,h2,h3,h4⟩:=b6a h;omega
 ·omega
def g1q(c:A3):Int × A3 × Int:=if(U5 (G0 c) 0 0).2.2=0 then((U5 (G0 c) 0 0).1,a0p c (U5 (G0 c) 0 0).2.1,0) else(0,c,(U5 (G0 c) 0 0).2.2)
theorem d4v(c:A3)(hc:OkC c): -9223372036854775808<=c.At+(U5 (G0 c) 0 0).2.1/\c.At+(U5 (G0 c) 0 0).2.1<=9223372036854775807:=by
 have h1:=(c5u (G0 c) 10 0 0 rfl).1;have h2:=b0r c;have:=hc.sz;have:=hc.a0;have:=hc.a1;rcases Int.lt_or_le 0 (a2b c.Data c.At c.End) with h|h
 ·obtain⟨h1,h2,h3,h4⟩:=b6a h;omega
 ·omega
theorem e6u(c:A3)(hc:OkC c):b68 c (g1q c):=by
 have hs:=d4v c hc;have ht:=f9f (c4h c 10) (by rw[d0j];omega);rw[f0t]at ht;refine c3t _ _ ⟨_,f0f c hc 10 (by omega),_,ht,fun h=>?_,fun h=>?_⟩
 ·rw[g1q,if_neg]
  ·rfl
  ·intro h0;simp[tk,h0]at h
 ·have h0:(U5 (G0 c) 0 0).2.2=0:=by simpa[tk]using h
  exact⟨_,c87 c _ hs,by rw[g1q,if_pos h0];rfl⟩
theorem h5j{i:Nat}(h:i<=7):(2:Int) ^ min (wI (8*(i:Int))).toNat IntKind.u64.bits=((256 ^ i:Nat):Int)/\0<=wI (8*(i:Int)):=by
 have:i=0\/i=1\/i=2\/i=3\/i=4\/i=5\/i=6\/i=7:=by omega
 rcases this with rfl|rfl|rfl|rfl|rfl|rfl|rfl|rfl<;>decide+kernel
theorem e8m(s:ByteArray)(h8:8<=s.size):∀n i:Nat,8 - i=n->i<=8->a1m i (leS s i) s (leS s 8,0):=by
 intro n
 induction n with
 |zero=>
  intro i h1 h2;have:i=8:=by omega
  subst this;exact a6s _ _ _ _ ⟨fun h=>by simp at h,fun _=>rfl⟩
 |succ n ih=>
  intro i h1 h2;have hi:i<=7:=by omega
  obtain⟨hp,h0⟩:=h5j hi;obtain⟨p1,p2,p3⟩:=g5c hi;have hb:=a49 s i;have hl:=e8s s i;have hn:((i:Int)).toNat=i:=by omega
  refine a6s _ _ _ _ ⟨fun _=>⟨⟨by omega,by omega⟩,h0,?_⟩,fun h=>by simp at h;omega⟩;have hm:F6 s i*256 ^ i<=255*256 ^ i:=Nat.mul_le_mul_right _ (by omega);have e1:wU ((F6 s i:Nat):Int)=(F6 s i:Int):=b4j (by omega);have e2:wU ((F6 s i*256 ^ i:Nat):Int)=((F6 s i*256 ^ i:Nat):Int):=b4j (by omega);rw[hn,hb.1,e1,hp,<-Int.natCast_mul,e2,c2i _ _ (by omega) (by omega),p3,e2t _ _ _ (by rw[<-p3];exact hl),wI,C7 (by omega)];have:=ih (i+1) (by omega) (by omega);rw[leS,p3]at this;exact this
theorem e5s(s:ByteArray):b01 s ((f7y s).1,(f7y s).2):=by
 refine b9t _ _ ⟨fun h=>?_,fun h=>?_⟩
 ·simp only[decide_eq_true_eq]at h;rw[f7y,if_pos (by omega)];rfl
 ·simp only[decide_eq_false_iff_not]at h;have h8:¬s.size<8:=by omega
  rw[f7y,if_neg h8];exact e8m s (by omega) 8 0 rfl (by omega)
def c48(c:A3):Int × A3 × Int:=if 8<=(G0 c).size then((leS (G0 c) 8:Nat),a0p c 8,0) else(0,c,4)
theorem f5f(c:A3)(hc:OkC c):b82 c (c48 c):=by
 have hs:=b0r c;have hh:=d0j c 8;have:=hc.sz;have:=hc.a0;have:=hc.a1;refine c5j _ _ ⟨_,f0f c hc 8 (by omega),_,e5s _,fun h=>?_,fun h=>?_⟩
 ·have:(c4h c 8).size<8:=by
   rcases Nat.lt_or_ge (c4h c 8).size 8 with h1|h1
   ·exact h1
   ·simp[f7y,Nat.not_lt.2 h1]at h
  rw[c48,if_neg (by omega),f7y,if_pos this];rfl
 ·have h1:8<=(c4h c 8).size:=by
   rcases Nat.lt_or_ge (c4h c 8).size 8 with h1|h1
   ·simp[f7y,h1]at h
   ·exact h1
  have h0:0<a2b c.Data c.At c.End:=by omega
  obtain⟨k1,k2,k3,k4⟩:=b6a h0;refine⟨_,c87 c 8 (by omega),?_⟩;rw[c48,if_pos (by omega),f7y,if_neg (by omega),d0a (c4h c 8) (G0 c) 8 fun i hi=>d8m c 8 i hi (by omega)]
theorem b0w(s:ByteArray):(bI s).length=s.size:=by simp[bI]
def a64(c:A3)(n:Int):ByteArray × A3 × Int:=if n<0 then(⟨#[]⟩,c,1) else if a2b c.Data c.At c.End<n then(⟨#[]⟩,c,4) else if c.Text<n then(⟨#[]⟩,c,3) else(c.Data.extract c.At.toNat (c.At.toNat+n.toNat),a0p c n,0)
theorem d6l(c:A3):a0p c 0=c:=by cases c;simp[a0p]
theorem g26(c:A3)(hc:OkC c)(n:Int):c2y c n (a64 c n):=by
 have:=hc.sz;refine c8e _ _ _ ⟨fun h=>?_,fun h=>⟨_,d5r c hc,fun h2=>?_,fun h2=>⟨fun h3=>?_,fun h3=>⟨fun h4=>?_,fun h4=>?_⟩⟩⟩⟩
 ·rw[a64,if_pos (by simpa using h)]
 all_goals simp only[decide_eq_false_iff_not,decide_eq_true_eq,beq_iff_eq,beq_eq_false_iff_ne]at*
 ·rw[a64,if_neg h,if_pos h2]
 ·rw[a64,if_neg h,if_neg h2,if_pos h3]
 ·subst h4;rw[a64,if_neg h,if_neg h2,if_neg h3,d6l,show(0:Int).toNat=0 from rfl,Nat.add_zero,c83]
 ·have h0:0<a2b c.Data c.At c.End:=by omega
  obtain⟨k1,k2,k3,k4⟩:=b6a h0;have hw:wI (c.At+n)=c.At+n:=C7 (by omega);have hx:(wI (c.At+n)).toNat=c.At.toNat+n.toNat:=by rw[hw];omega
  have hl:(bI (c.Data.extract c.At.toNat (wI (c.At+n)).toNat)).length=n.toNat:=by rw[b0w,hx,W4 _ (by omega)];omega
  refine⟨_,c68 _ _ _ ⟨⟨k1,by rw[hw];omega,by rw[hw];omega⟩,⟨Int.le_refl _,by omega,by rw[hl];omega⟩,rfl⟩,c.Data.extract c.At.toNat (c.At.toNat+n.toNat),?_,_,c87 c n (by omega),?_⟩
  ·rw[show(0:Int).toNat=0 from rfl,List.drop_zero,List.take_of_length_le (by omega),hx]
  ·rw[a64,if_neg h,if_neg h2,if_neg h3]
def ofI(l:List Int):ByteArray:=⟨(l.map fun n=>UInt8.ofNat n.toNat).toArray⟩
def c03(l:List Int):Prop:=∀x∈l,0<=x/\x<256
theorem d3o{l:List Int}(h:c03 l):l=bI (ofI l):=by
 simp only[bI,ofI,List.map_map];symm
 conv=>rhs;rw[<-List.map_id l]
 refine List.map_congr_left fun x hx=>?_
 have:=h x hx;simp only[Function.comp,id];rw[UInt8.toNat_ofNat_of_lt' (show x.toNat<UInt8.size by simp[UInt8.size];omega)];omega
theorem a8v{a b:List Int}(ha:c03 a)(hb:c03 b):c03 (a++b):=fun x hx=>(List.mem_append.1 hx).elim (ha x) (hb x)
theorem a0y{x:Int}(h:0<=x/\x<256):c03 [x]:=fun y hy=>by simp at hy;subst hy;exact h
def a8z(u:Nat):List Int:=if u<128 then [(u:Int)] else((u % 128+128:Nat):Int)::a8z (u / 128)
 termination_by u
theorem c55(u:Nat):c03 (a8z u):=by
 induction u using Nat.strongRecOn with
 |_ u ih=>
  rw[a8z];split
  ·exact a0y (by omega)
  ·exact a8v (a0y (by omega)) (ih (u / 128) (by omega))
def b1l(u:Nat):ByteArray:=ofI (a8z u)
theorem h0b(c:Nat)(h:c<256):F1 .or .u8 (c:Int) 128=((c % 128+128:Nat):Int):=by
 have:∀c:Fin 256,F1 .or .u8 ((c.val:Nat):Int) 128=((c.val % 128+128:Nat):Int):=by decide+kernel
 exact this ⟨c,h⟩
theorem e0a(u:Nat):IntKind.u8.wrap (u:Int)=((u % 256:Nat):Int):=by simp[IntKind.wrap,IntKind.signed,IntKind.bits]
theorem h4x(u:Nat):(u:Int).fdiv (2 ^ min (7:Int).toNat IntKind.u64.bits)=((u / 128:Nat):Int):=by
 rw[show(2:Int) ^ min (7:Int).toNat IntKind.u64.bits=((128:Nat):Int) by decide+kernel];rw[Int.fdiv_eq_ediv_of_nonneg _ (by omega)];rfl
theorem g9u:∀(k u:Nat) (l:List Int),u<128 ^ k->c03 l->l.length+k<=1000->b1q l u (ofI (l++a8z u)):=by
 intro k
 induction k with
 |zero=>
  intro u l hu hl hk;have:u=0:=by simpa using hu
  subst this;refine b42 _ _ _ ⟨fun h=>by simp at h,fun _=>⟨by simp;omega,_,?_,rfl⟩⟩;rw[e0a,a8z,if_pos (by omega)];exact d3o (a8v hl (a0y (by omega)))
 |succ k ih=>
  intro u l hu hl hk;refine b42 _ _ _ ⟨fun h=>⟨by simp;omega,?_⟩,fun h=>⟨by simp;omega,_,?_,rfl⟩⟩
  ·simp only[decide_eq_true_eq]at h;rw[e0a,h0b _ (by omega),h4x];have:=ih (u / 128) (l++[((u % 128+128:Nat):Int)]) (by rw[Nat.pow_succ]at hu;omega) (a8v hl (a0y (by omega))) (by simp;omega);rw[List.append_assoc]at this;rw[a8z,if_neg (by omega)];have e:u % 256 % 128=u % 128:=by omega
   rw[e];exact this
  ·simp only[decide_eq_false_iff_not]at h;rw[e0a,a8z,if_pos (by omega)];have e:u % 256=u:=by omega
   rw[e];exact d3o (a8v hl (a0y (by omega)))
theorem d7m(u:Nat)(hu:u<18446744073709551616):a3x u (b1l u):=d15 _ _ (g9u 10 u [] (by omega) (fun x hx=>by cases hx) (by decide))
theorem g7l:∀(k u:Nat) (l:List Int),u<18446744073709551616->u<128 ^ k->c03 l->l.length+k<=1000->b5a l u (ofI (l++a8z u)):=by
 intro k
 induction k with
 |zero=>
  intro u l h64 hu hl hk;have:u=0:=by simpa using hu
  subst this;refine b6c _ _ _ ⟨fun h=>by simp at h,fun _=>⟨by simp;omega,_,?_,rfl⟩⟩;rw[e0a,a8z,if_pos (by omega)];exact d3o (a8v hl (a0y (by omega)))
 |succ k ih=>
  intro u l h64 hu hl hk;refine b6c _ _ _ ⟨fun h=>⟨by simp;omega,?_⟩,fun h=>⟨by simp;omega,_,?_,rfl⟩⟩
  ·simp only[decide_eq_true_eq]at h
   have e1:wU ((u:Int).tmod 128+128)=((u % 128+128:Nat):Int):=by
    have:(u:Int).tmod 128=((u % 128:Nat):Int):=rfl;rw[this,wU,b4j (by omega)];omega
   have e2:wU ((u:Int).tdiv 128)=((u / 128:Nat):Int):=by
    have:(u:Int).tdiv 128=((u / 128:Nat):Int):=rfl;rw[this,wU,b4j (by omega)]
   rw[e1,e2,e0a];have:=ih (u / 128) (l++[((u % 128+128:Nat):Int)]) (by omega) (by rw[Nat.pow_succ]at hu;omega) (a8v hl (a0y (by omega))) (by simp;omega);rw[List.append_assoc]at this;rw[a8z,if_neg (by omega)];have e:(u % 128+128) % 256=u % 128+128:=by omega
   rw[e];exact this
  ·simp only[decide_eq_false_iff_not]at h;rw[e0a,a8z,if_pos (by omega)];have e:u % 256=u:=by omega
   rw[e];exact d3o (a8v hl (a0y (by omega)))
theorem e7q(u:Nat)(hu:u<18446744073709551616):c36 u (b1l u):=d29 _ _ (g7l 10 u [] hu (by omega) (fun x hx=>by cases hx) (by decide))
theorem b1w(l:List Int):(ofI l).size=l.length:=by simp[ofI,ByteArray.size]
theorem f3a(u:Nat):0<(a8z u).length:=by rw[a8z];split<;>simp
theorem g9t:∀(k u:Nat) (n:Nat),u<128 ^ k->n+k<=1000->1<=n->b1u n u ((n:Int)+(a8z u).length - 1):=by
 intro k
 induction k with
 |zero=>
  intro u n hu hk h1;have:u=0:=by simpa using hu
  subst this;refine b4t _ _ _ ⟨fun h=>by simp at h,fun _=>?_⟩;rw[a8z,if_pos (by omega)];simp
 |succ k ih=>
  intro u n hu hk h1;refine b4t _ _ _ ⟨fun h=>?_,fun h=>?_⟩
  ·simp only[decide_eq_true_eq]at h;rw[h4x,wI,C7 (by omega)];have:=ih (u / 128) (n+1) (by rw[Nat.pow_succ]at hu;omega) (by omega) (by omega);rw[a8z,if_neg (by omega),List.length_cons];have e:(((n+1:Nat):Int)+(a8z (u / 128)).length - 1)=(n:Int)+(((a8z (u / 128)).length+1:Nat):Int) - 1:=by omega
   rw[e]at this;exact this
  ·simp only[decide_eq_false_iff_not]at h;rw[a8z,if_pos (by omega)];simp
theorem g5f(u:Nat)(hu:u<18446744073709551616):c6s u ((b1l u).size:Int):=by
 have:=g9t 10 u 1 (by omega) (by omega) (by omega);have e:((1:Nat):Int)+(a8z u).length - 1=((b1l u).size:Int):=by rw[b1l,b1w];omega
 rw[e]at this;exact c96 _ _ this
def e5w(n:Int):Nat:=if 0<=n then(2*n).toNat else(-2*n - 1).toNat
def e4b(u:Nat):Int:=if u % 2=0 then(u / 2:Nat) else -((u / 2:Nat):Int) - 1
theorem f96(n:Int):e4b (e5w n)=n:=by unfold e4b e5w;split<;>split<;>omega
theorem f7e{n:Int}(h: -9223372036854775808<=n/\n<0):wU n=n+18446744073709551616:=by simp[wU,IntKind.wrap,IntKind.signed,IntKind.bits];omega
theorem g4i(n:Int)(h: -9223372036854775808<=n/\n<=9223372036854775807):c6e n (e5w n):=by
 refine d14 _ _ ?_;rw[show(2:Int) ^ min (1:Int).toNat IntKind.u64.bits=2 by decide+kernel,show(2:Int) ^ min (63:Int).toNat IntKind.i64.bits=9223372036854775808 by decide+kernel,Int.fdiv_eq_ediv_of_nonneg _ (by omega)];unfold e5w;rcases Int.lt_or_le n 0 with hn|hn
 ·rw[if_neg (by omega)];have e1:n / 9223372036854775808= -1:=by omega
  have e2:wU (-1)=18446744073709551615:=by decide+kernel
  have e3:wU n=n+18446744073709551616:=f7e ⟨h.1,hn⟩
  have e4:wU ((n+18446744073709551616)*2)=(((n+9223372036854775808)*2).toNat:Int):=by
   simp[wU,IntKind.wrap,IntKind.signed,IntKind.bits];omega
  rw[e1,e2,e3,e4,c7h _ (by omega)];omega
 ·rw[if_pos hn];have e1:n / 9223372036854775808=0:=by omega
  have e2:wU 0=0:=by decide+kernel
  have e3:wU n=n:=b4j (by omega);have e4:wU (n*2)=((2*n).toNat:Int):=by rw[wU,b4j (by omega)];omega
  rw[e1,e2,e3,e4,d6m _ (by omega)]
theorem g5o(u:Nat)(h:u<18446744073709551616):c0i u (e4b u):=by
 refine c99 _ _ ?_
 have e0:(u:Int).fdiv (2 ^ min (1:Int).toNat IntKind.u64.bits)=((u / 2:Nat):Int):=by
  rw[show(2:Int) ^ min (1:Int).toNat IntKind.u64.bits=((2:Nat):Int) by decide+kernel,Int.fdiv_eq_ediv_of_nonneg _ (by omega)];rfl
 have e1:F1 .and .u64 (u:Int) 1=((u % 2:Nat):Int):=by
  have:=b4y u 1 h (by omega);rw[Nat.and_one_is_mod]at this;exact this
 have e2:wI ((u / 2:Nat):Int)=((u / 2:Nat):Int):=C7 (by omega);rw[e0,e1,e2];have e3:wI ((u % 2:Nat):Int)=((u % 2:Nat):Int):=C7 (by omega);rw[e3];unfold e4b;rcases Nat.mod_two_eq_zero_or_one u with h2|h2
 ·rw[h2,if_pos rfl,show wI (0 - ((0:Nat):Int))=0 by decide+kernel,d6j _ (by omega)]
 ·rw[h2,if_neg (by omega),show wI (0 - ((1:Nat):Int))= -1 by decide+kernel,d64 _ (by omega)]
theorem g0n(u:Nat)(h:u<18446744073709551616):c9v u (e4b u):=by
 have e1:(u:Int).tdiv 2=((u / 2:Nat):Int):=rfl;have e2:(u:Int).tmod 2=((u % 2:Nat):Int):=rfl;have e3:wU ((u / 2:Nat):Int)=((u / 2:Nat):Int):=b4j (by omega);have e4:wI ((u / 2:Nat):Int)=((u / 2:Nat):Int):=C7 (by omega);refine d24 _ _ ⟨fun hh=>?_,fun hh=>?_⟩
 ·rw[e2]at hh;simp only[beq_iff_eq]at hh;rw[e1,e3,e4,e4b,if_pos (by omega)]
 ·rw[e2]at hh;simp only[beq_eq_false_iff_ne]at hh;have e5:wI (0 - ((u / 2:Nat):Int))=0 - ((u / 2:Nat):Int):=C7 (by omega);rw[e1,e3,e4,e5,e4b,if_neg (by omega),wI,C7 (by omega)];omega
theorem c86(s:ByteArray):∀n i u:Nat,10 - i=n->i<=9->u<128 ^ i->(U5 s i u).1<18446744073709551616:=by
 intro n
 induction n with
 |zero=>intro i u h1 h2;omega
 |succ n ih=>
  intro i u h1 h2 hu;have hb:=a49 s i;rw[U5.eq_def,if_neg (by omega)];split
  ·decide
  split
  ·decide
  rename_i h9;obtain⟨p1,p2,p3⟩:=f11 h2;split
  ·rename_i hlt;rcases Nat.lt_or_ge i 9 with h|h
   ·have:=p3 (by omega);have hm:F6 s i*128 ^ i<=127*128 ^ i:=Nat.mul_le_mul_right _ (by omega);rw[Nat.pow_succ]at this;simp only;omega
   ·have h':i=9:=by omega
    subst h';have:F6 s 9<=1:=by omega
    have hm:F6 s 9*128 ^ 9<=1*128 ^ 9:=Nat.mul_le_mul_right _ this;simp only;omega
  ·rename_i hge
   have h8:i<=8:=by
    rcases Nat.lt_or_ge i 9 with h|h
    ·omega
    ·exact(h9 ⟨by omega,by omega⟩).elim
   have hm:F6 s i % 128*128 ^ i<=127*128 ^ i:=Nat.mul_le_mul_right _ (by omega);exact ih (i+1) _ (by omega) (by omega) (by rw[Nat.pow_succ];omega)
def T2(c:A3):Int × A3 × Int:=
 if(U5 (G0 c) 0 0).2.2=0 then if(U5 (G0 c) 0 0).2.1=(b1l (U5 (G0 c) 0 0).1).size then((U5 (G0 c) 0 0).1,a0p c (U5 (G0 c) 0 0).2.1,0) else(0,c,5) else(0,c,(U5 (G0 c) 0 0).2.2)
theorem d03(c:A3)(hc:OkC c):b6j c (T2 c):=by
 have hl:=c86 (G0 c) 10 0 0 rfl (by omega) (by decide);have hr:=(c5u (G0 c) 10 0 0 rfl).1;have hz:=hc.rest;have hs:=d4v c hc;refine d00 _ _ ⟨_,e6u c hc,fun h=>?_,fun h=>?_⟩
 ·have h0:(U5 (G0 c) 0 0).2.2≠0:=by
   intro h0;simp[g1q,h0]at h
  rw[T2,if_neg h0];simp only[g1q,if_neg h0]
 ·have h0:(U5 (G0 c) 0 0).2.2=0:=by
   rcases Nat.eq_zero_or_pos (U5 (G0 c) 0 0).2.2 with h0|h0
   ·exact h0
   ·have:¬(U5 (G0 c) 0 0).2.2=0:=by omega
    simp only[g1q,if_neg this]at h;simp at h;omega
  simp only[g1q,if_pos h0,T2];refine⟨_,g5f _ hl,fun h1=>?_,fun h1=>?_⟩
  ·rw[if_neg];intro h2;rw[<-h2]at h1
   have e:wI ((a0p c (U5 (G0 c) 0 0).2.1).At - c.At)=((U5 (G0 c) 0 0).2.1:Int):=by
    show wI (c.At+_ - c.At)=_;rw[wI,C7 (by omega)];omega
   rw[e]at h1;simp at h1
  ·have e:wI ((a0p c (U5 (G0 c) 0 0).2.1).At - c.At)=((U5 (G0 c) 0 0).2.1:Int):=by
    show wI (c.At+_ - c.At)=_;rw[wI,C7 (by omega)];omega
   rw[e]at h1;simp only[bne_eq_false_iff_eq]at h1;rw[if_pos (by omega)]
def a2o(v:A0):A0:=if v.Kind=6/\f7x v.Bits.toNat=0 then⟨v.Kind,9221120237041090560,v.Text,v.List_,v.Pairs,v.Slots,v.Raws⟩ else v
theorem d46(v:A0)(hb:0<=v.Bits/\v.Bits<18446744073709551616):a89 v (a2o v):=by
 have hz:v.Bits=(v.Bits.toNat:Int):=by omega
 have hc:=e24 v.Bits.toNat (by omega);rw[<-hz]at hc;refine c8q _ _ ⟨fun h=>⟨_,hc,fun h2=>?_,fun h2=>?_⟩,fun h=>?_⟩
 all_goals simp only[beq_iff_eq,beq_eq_false_iff_ne]at*
 ·rw[a2o,if_pos ⟨h,by omega⟩]
 ·rw[a2o,if_neg (by omega)]
 ·rw[a2o,if_neg (by omega)]
theorem e2x(v:A0)(hb:0<=v.Bits/\v.Bits<18446744073709551616):c0l v (a2o v):=by
 have hz:v.Bits=(v.Bits.toNat:Int):=by omega
 have hc:=d7h v.Bits.toNat (by omega);rw[<-hz]at hc;refine c92 _ _ ⟨fun h=>⟨_,hc,fun h2=>?_,fun h2=>?_⟩,fun h=>?_⟩
 all_goals simp only[beq_iff_eq,beq_eq_false_iff_ne]at*
 ·rw[a2o,if_pos ⟨h,by omega⟩]
 ·rw[a2o,if_neg (by omega)]
 ·rw[a2o,if_neg (by omega)]
def e1y(u:Nat)(n:Nat):List Int:=(List.range n).map fun i=>((u / 256 ^ i % 256:Nat):Int)
theorem d3w(u n:Nat):c03 (e1y u n):=fun x hx=>by
 obtain⟨i,_,rfl⟩:=List.mem_map.1 hx;omega
theorem e7v(u n:Nat):e1y u (n+1)=e1y u n++[((u / 256 ^ n % 256:Nat):Int)]:=by simp[e1y,List.range_succ]
def d84(u:Nat):ByteArray:=ofI (e1y u 8)
theorem f4m(u:Nat):∀n i:Nat,8 - i=n->i<=8->a7x i u (e1y u i++List.replicate (8 - i) 0) (d84 u):=by
 intro n
 induction n with
 |zero=>
  intro i h1 h2;have:i=8:=by omega
  subst this;refine b1d _ _ _ _ ⟨fun h=>by simp at h,fun _=>⟨by simp[e1y],_,?_,rfl⟩⟩;simp only[Nat.sub_self,List.replicate_zero,List.append_nil];exact d3o (d3w u 8)
 |succ n ih=>
  intro i h1 h2;obtain⟨hp,h0⟩:=h5j (show i<=7 by omega);have hn:((i:Int)).toNat=i:=by omega
  have hl:(e1y u i).length=i:=by simp[e1y]
  refine b1d _ _ _ _ ⟨fun _=>⟨h0,⟨by omega,by omega⟩,by simp[hl];omega,?_⟩,fun h=>by simp at h;omega⟩
  have e1:(u:Int).fdiv ((256 ^ i:Nat):Int)=((u / 256 ^ i:Nat):Int):=by
   rw[Int.fdiv_eq_ediv_of_nonneg _ (Int.natCast_nonneg _)];rfl
  rw[hp,e1,e0a,hn,wI,C7 (by omega)];have:=ih (i+1) (by omega) (by omega);rw[e7v]at this
  have e2:(e1y u i++List.replicate (8 - i) (0:Int)).set i ((u / 256 ^ i % 256:Nat):Int)=e1y u i++[((u / 256 ^ i % 256:Nat):Int)]++List.replicate (8 - (i+1)) 0:=by
   rw[List.set_append_right _ _ (by omega),hl,Nat.sub_self,show 8 - i=(8 - (i+1))+1 by omega,List.replicate_succ,List.set_cons_zero,List.append_assoc];rfl
  rw[e2];exact this
theorem e7g(u:Nat):b9o u (d84 u):=c66 _ _ ⟨by omega,f4m u 8 0 rfl (by omega)⟩
def a1e(n b0 b1 b2 b3:Nat):Nat:=
 if b0<128 then 1
 else if(194<=b0/\b0<=223)/\(1<n/\128<=b1/\b1<=191) then 2
 else if b0=224/\(1<n/\160<=b1/\b1<=191)/\(2<n/\128<=b2/\b2<=191) then 3
 else if b0=237/\(1<n/\128<=b1/\b1<=159)/\(2<n/\128<=b2/\b2<=191) then 3
 else if(225<=b0/\b0<=239/\b0≠237)/\(1<n/\128<=b1/\b1<=191)/\(2<n/\128<=b2/\b2<=191) then 3
 else if b0=240/\(1<n/\144<=b1/\b1<=191)/\(2<n/\128<=b2/\b2<=191)/\(3<n/\128<=b3/\b3<=191) then 4
 else if(241<=b0/\b0<=243)/\(1<n/\128<=b1/\b1<=191)/\(2<n/\128<=b2/\b2<=191)/\(3<n/\128<=b3/\b3<=191) then 4
 else if b0=244/\(1<n/\128<=b1/\b1<=143)/\(2<n/\128<=b2/\b2<=191)/\(3<n/\128<=b3/\b3<=191) then 4
 else 0
theorem f4k(n b0 b1 b2 b3:Nat)(hn:1<=n):a1e n b0 b1 b2 b3<=n:=by
 unfold a1e
 repeat' split
 all_goals omega
def okN(n b0 b1 b2:Nat)(x:Nat × Nat):Nat:=if x.1=65533/\¬(2<n/\b0=239/\b1=191/\b2=189) then 0 else x.2
theorem b9x{n b0 b1 b2 k:Nat}(h:¬(2<n/\b0=239/\b1=191/\b2=189)):okN n b0 b1 b2 (65533,k)=0:=by unfold okN;rw[if_pos ⟨rfl,h⟩]
theorem b47{n b0 b1 b2 c k:Nat}(h:c≠65533\/(2<n/\b0=239/\b1=191/\b2=189)):okN n b0 b1 b2 (c,k)=k:=by
 unfold okN;rw[if_neg];intro ⟨h1,h2⟩;rcases h with h|h
 ·exact h h1
 ·exact h2 h
theorem h1z(n b0 b1 b2 b3:Nat)(hb:194<=b0/\b0<=223)(h1:b1<256):a1e n b0 b1 b2 b3=okN n b0 b1 b2 (Lib.decodeN n b0 b1 b2 b3):=by
 by_cases h:1<n/\128<=b1/\b1<=191
 ·have e1:a1e n b0 b1 b2 b3=2:=by unfold a1e;rw[if_neg (by omega),if_pos (by omega)]
  have e2:Lib.decodeN n b0 b1 b2 b3=(b0 % 32*64+b1 % 64,2):=by unfold Lib.decodeN;rw[if_neg (by omega),if_pos (by omega),if_pos (by omega)]
  rw[e1,e2,b47 (by omega)]
 ·have e1:a1e n b0 b1 b2 b3=0:=by unfold a1e;rw[if_neg (by omega),if_neg (by omega),if_neg (by omega),if_neg (by omega),if_neg (by omega),if_neg (by omega),if_neg (by omega),if_neg (by omega)]
  have e2:Lib.decodeN n b0 b1 b2 b3=(65533,1):=by unfold Lib.decodeN;rw[if_neg (by omega),if_neg (by omega),if_neg (by omega),if_neg (by omega)]
  rw[e1,e2,b9x (by omega)]
theorem g7b(n b0 b1 b2 b3:Nat)(hb:(128<=b0/\b0<194)\/245<=b0)(h0:b0<256):a1e n b0 b1 b2 b3=okN n b0 b1 b2 (Lib.decodeN n b0 b1 b2 b3):=by
 have e:Lib.decodeN n b0 b1 b2 b3=(65533,1):=by
  unfold Lib.decodeN;rw[if_neg (by omega)]
  by_cases c1:b0 / 32=6/\(1<n/\b1 / 64=2)
  ·rw[if_pos c1,if_neg (by omega)]
  ·rw[if_neg c1,if_neg (by omega)]
   by_cases c2:b0 / 8=30/\(1<n/\b1 / 64=2)/\(2<n/\b2 / 64=2)/\(3<n/\b3 / 64=2)
   ·rw[if_pos c2,if_neg (by omega)]
   ·rw[if_neg c2]
 rw[e,b9x (by omega)];unfold a1e;rw[if_neg (by omega),if_neg (by omega),if_neg (by omega),if_neg (by omega),if_neg (by omega),if_neg (by omega),if_neg (by omega),if_neg (by omega)]
theorem g9n(n b0 b1 b2 b3:Nat)(hb:224<=b0/\b0<=239)(h1:b1<256)(h2:b2<256):a1e n b0 b1 b2 b3=okN n b0 b1 b2 (Lib.decodeN n b0 b1 b2 b3):=by
 by_cases c:(1<n/\b1 / 64=2)/\(2<n/\b2 / 64=2)
 ·by_cases d0:b0=224
  ·by_cases d1:160<=b1
   ·have e1:a1e n b0 b1 b2 b3=3:=by unfold a1e;rw[if_neg (by omega),if_neg (by omega),if_pos (by omega)]
    have e2:Lib.decodeN n b0 b1 b2 b3=(b0 % 16*4096+b1 % 64*64+b2 % 64,3):=by unfold Lib.decodeN;rw[if_neg (by omega),if_neg (by omega),if_pos (by omega),if_pos (by omega)]
    rw[e1,e2,b47 (by omega)]
   ·have e1:a1e n b0 b1 b2 b3=0:=by unfold a1e;rw[if_neg (by omega),if_neg (by omega),if_neg (by omega),if_neg (by omega),if_neg (by omega),if_neg (by omega),if_neg (by omega),if_neg (by omega)]
    have e2:Lib.decodeN n b0 b1 b2 b3=(65533,1):=by unfold Lib.decodeN;rw[if_neg (by omega),if_neg (by omega),if_pos (by omega),if_neg (by omega)]
    rw[e1,e2,b9x (by omega)]
  ·by_cases d2:b0=237
   ·by_cases d3:b1<=159
    ·have e1:a1e n b0 b1 b2 b3=3:=by unfold a1e;rw[if_neg (by omega),if_neg (by omega),if_neg (by omega),if_pos (by omega)]
     have e2:Lib.decodeN n b0 b1 b2 b3=(b0 % 16*4096+b1 % 64*64+b2 % 64,3):=by unfold Lib.decodeN;rw[if_neg (by omega),if_neg (by omega),if_pos (by omega),if_pos (by omega)]
     rw[e1,e2,b47 (by omega)]
    ·have e1:a1e n b0 b1 b2 b3=0:=by unfold a1e;rw[if_neg (by omega),if_neg (by omega),if_neg (by omega),if_neg (by omega),if_neg (by omega),if_neg (by omega),if_neg (by omega),if_neg (by omega)]
     have e2:Lib.decodeN n b0 b1 b2 b3=(65533,1):=by unfold Lib.decodeN;rw[if_neg (by omega),if_neg (by omega),if_pos (by omega),if_neg (by omega)]
     rw[e1,e2,b9x (by omega)]
   ·have e1:a1e n b0 b1 b2 b3=3:=by unfold a1e;rw[if_neg (by omega),if_neg (by omega),if_neg (by omega),if_neg (by omega),if_pos (by omega)]
    have e2:Lib.decodeN n b0 b1 b2 b3=(b0 % 16*4096+b1 % 64*64+b2 % 64,3):=by unfold Lib.decodeN;rw[if_neg (by omega),if_neg (by omega),if_pos (by omega),if_pos (by omega)]
    rw[e1,e2,b47 (by omega)]
 ·have e1:a1e n b0 b1 b2 b3=0:=by unfold a1e;rw[if_neg (by omega),if_neg (by omega),if_neg (by omega),if_neg (by omega),if_neg (by omega),if_neg (by omega),if_neg (by omega),if_neg (by omega)]
  have e2:Lib.decodeN n b0 b1 b2 b3=(65533,1):=by unfold Lib.decodeN;rw[if_neg (by omega),if_neg (by omega),if_neg (by omega),if_neg (by omega)]
  rw[e1,e2,b9x (by omega)]
theorem h1n(n b0 b1 b2 b3:Nat)(hb:240<=b0/\b0<=244)(h1:b1<256)(h2:b2<256)(h3:b3<256):a1e n b0 b1 b2 b3=okN n b0 b1 b2 (Lib.decodeN n b0 b1 b2 b3):=by
 by_cases c:(1<n/\b1 / 64=2)/\(2<n/\b2 / 64=2)/\(3<n/\b3 / 64=2)
 ·by_cases d0:b0=240
  ·by_cases d1:144<=b1
   ·have e1:a1e n b0 b1 b2 b3=4:=by unfold a1e;rw[if_neg (by omega),if_neg (by omega),if_neg (by omega),if_neg (by omega),if_neg (by omega),if_pos (by omega)]
    have e2:Lib.decodeN n b0 b1 b2 b3=(b0 % 8*262144+b1 % 64*4096+b2 % 64*64+b3 % 64,4):=by unfold Lib.decodeN;rw[if_neg (by omega),if_neg (by omega),if_neg (by omega),if_pos (by omega),if_pos (by omega)]
    rw[e1,e2,b47 (by omega)]
   ·have e1:a1e n b0 b1 b2 b3=0:=by unfold a1e;rw[if_neg (by omega),if_neg (by omega),if_neg (by omega),if_neg (by omega),if_neg (by omega),if_neg (by omega),if_neg (by omega),if_neg (by omega)]
    have e2:Lib.decodeN n b0 b1 b2 b3=(65533,1):=by unfold Lib.decodeN;rw[if_neg (by omega),if_neg (by omega),if_neg (by omega),if_pos (by omega),if_neg (by omega)]
    rw[e1,e2,b9x (by omega)]
  ·by_cases d2:b0=244
   ·by_cases d3:b1<=143
    ·have e1:a1e n b0 b1 b2 b3=4:=by unfold a1e;rw[if_neg (by omega),if_neg (by omega),if_neg (by omega),if_neg (by omega),if_neg (by omega),if_neg (by omega),if_neg (by omega),if_pos (by omega)]
     have e2:Lib.decodeN n b0 b1 b2 b3=(b0 % 8*262144+b1 % 64*4096+b2 % 64*64+b3 % 64,4):=by unfold Lib.decodeN;rw[if_neg (by omega),if_neg (by omega),if_neg (by omega),if_pos (by omega),if_pos (by omega)]
     rw[e1,e2,b47 (by omega)]
    ·have e1:a1e n b0 b1 b2 b3=0:=by unfold a1e;rw[if_neg (by omega),if_neg (by omega),if_neg (by omega),if_neg (by omega),if_neg (by omega),if_neg (by omega),if_neg (by omega),if_neg (by omega)]
     have e2:Lib.decodeN n b0 b1 b2 b3=(65533,1):=by unfold Lib.decodeN;rw[if_neg (by omega),if_neg (by omega),if_neg (by omega),if_pos (by omega),if_neg (by omega)]
     rw[e1,e2,b9x (by omega)]
   ·have e1:a1e n b0 b1 b2 b3=4:=by unfold a1e;rw[if_neg (by omega),if_neg (by omega),if_neg (by omega),if_neg (by omega),if_neg (by omega),if_neg (by omega),if_pos (by omega)]
    have e2:Lib.decodeN n b0 b1 b2 b3=(b0 % 8*262144+b1 % 64*4096+b2 % 64*64+b3 % 64,4):=by unfold Lib.decodeN;rw[if_neg (by omega),if_neg (by omega),if_neg (by omega),if_pos (by omega),if_pos (by omega)]
    rw[e1,e2,b47 (by omega)]
 ·have e1:a1e n b0 b1 b2 b3=0:=by unfold a1e;rw[if_neg (by omega),if_neg (by omega),if_neg (by omega),if_neg (by omega),if_neg (by omega),if_neg (by omega),if_neg (by omega),if_neg (by omega)]
  have e2:Lib.decodeN n b0 b1 b2 b3=(65533,1):=by unfold Lib.decodeN;rw[if_neg (by omega),if_neg (by omega),if_neg (by omega),if_neg (by omega)]
  rw[e1,e2,b9x (by omega)]
theorem d6p(n b0 b1 b2 b3:Nat)(h0:b0<256)(h1:b1<256)(h2:b2<256)(h3:b3<256):
  a1e n b0 b1 b2 b3=if(Lib.decodeN n b0 b1 b2 b3).1=65533/\¬(2<n/\b0=239/\b1=191/\b2=189) then 0 else(Lib.decodeN n b0 b1 b2 b3).2:=by
 show _=okN n b0 b1 b2 _
 by_cases c0:b0<128
 ·unfold a1e Lib.decodeN;rw[if_pos c0,if_pos c0,b47 (by omega)]
 by_cases c1:b0<194
 ·exact g7b n b0 b1 b2 b3 (by omega) h0
 by_cases c2:b0<224
 ·exact h1z n b0 b1 b2 b3 (by omega) h1
 by_cases c3:b0<240
 ·exact g9n n b0 b1 b2 b3 (by omega) h1 h2
 by_cases c4:b0<245
 ·exact h1n n b0 b1 b2 b3 (by omega) h1 h2 h3
 ·exact g7b n b0 b1 b2 b3 (by omega) h0
def b59(s:ByteArray)(i:Nat):Nat:=a1e (s.size - i) (s.get! i).toNat (s.get! (i+1)).toNat (s.get! (i+2)).toNat (s.get! (i+3)).toNat
theorem d8v(s:ByteArray)(i:Nat)(h:i<s.size):i+b59 s i<=s.size:=by
 have:=f4k (s.size - i) (s.get! i).toNat (s.get! (i+1)).toNat (s.get! (i+2)).toNat (s.get! (i+3)).toNat (by omega);unfold b59;omega
theorem c4n(s:ByteArray)(i:Nat):b59 s i=if(Utf8.decode s i).1=65533/\¬(2<s.size - i/\(s.get! i).toNat=239/\(s.get! (i+1)).toNat=191/\(s.get! (i+2)).toNat=189) then 0 else(Utf8.decode s i).2:=by
 rw[Lib.decode_at];exact d6p _ _ _ _ _ (UInt8.toNat_lt _) (UInt8.toNat_lt _) (UInt8.toNat_lt _) (UInt8.toNat_lt _)
def b5o(s:ByteArray):Nat->Nat->Int
 |0,_=> -1
 |f+1,p=>if p<s.size then(if b59 s p=0 then p else b5o s f (p+b59 s p)) else -1
def h69(s:ByteArray):Int:=b5o s s.size 0
theorem c7k(s:ByteArray):∀(f g p:Nat),s.size - p<=f->s.size - p<=g->b5o s f p=b5o s g p
 |0,0,_,_,_=>rfl
 |0,g+1,p,h,_=>by
  simp only[b5o];rw[if_neg (by omega)]
 |f+1,0,p,_,h=>by
  simp only[b5o];rw[if_neg (by omega)]
 |f+1,g+1,p,h,h'=>by
  simp only[b5o]
  by_cases hp:p<s.size
  ·rw[if_pos hp,if_pos hp]
   by_cases h0:b59 s p=0
   ·rw[if_pos h0,if_pos h0]
   ·rw[if_neg h0,if_neg h0];exact c7k s f g _ (by omega) (by omega)
  ·rw[if_neg hp,if_neg hp]
def d5o(s:ByteArray)(p:Nat):Int:=b5o s (s.size - p) p
theorem c4t(s:ByteArray)(p:Nat)(h:s.size<=p):d5o s p= -1:=by
 unfold d5o;rw[show s.size - p=0 by omega];rfl
theorem d8h(s:ByteArray)(p:Nat)(h:p<s.size)(h0:b59 s p=0):d5o s p=p:=by
 unfold d5o;rw[show s.size - p=(s.size - p - 1)+1 by omega];simp only[b5o];rw[if_pos h,if_pos h0]
theorem e2a(s:ByteArray)(p:Nat)(h:p<s.size)(h0:b59 s p≠0):d5o s p=d5o s (p+b59 s p):=by
 unfold d5o;rw[show s.size - p=(s.size - p - 1)+1 by omega];simp only[b5o];rw[if_pos h,if_neg h0];exact c7k s _ _ _ (by omega) (by omega)
def a7e(s:ByteArray):Bool:=decide (h69 s<0)
theorem b80(s:ByteArray)(i:Nat):F6 s i=(s.get! i).toNat:=by
 unfold F6 E9
 have:s.data.toList.getD i 0=s.get! i:=by
  rw[List.getD_eq_getElem?_getD];show _=s.data[i]!;rw[getElem!_def,Array.getElem?_toList];cases s.data[i]? <;>rfl
 rw[this];omega
def btw(s:ByteArray)(i lo hi:Nat):Bool:=decide (i<s.size/\lo<=F6 s i/\F6 s i<=hi)
theorem d3j(s:ByteArray)(i lo hi:Nat):a1i s i lo hi (btw s i lo hi):=by
 have hb:=a49 s i;have hn:((i:Int)).toNat=i:=by omega
 refine c3a _ _ _ _ _ ⟨fun b=>b=decide (i<s.size/\lo<=F6 s i),fun b hR=>⟨fun h=>?_,fun h=>?_⟩,fun h=>?_,fun h=>?_⟩
 ·rw[h]at hR;have h2:=of_decide_eq_true hR.symm;refine⟨⟨by omega,by omega⟩,?_⟩;rw[hn,hb.1];unfold btw
  congr 1
  simp only[eq_iff_iff];omega
 ·rw[h]at hR;have h2:=of_decide_eq_false hR.symm;exact decide_eq_false (by omega)
 ·simp only[decide_eq_true_eq]at h;refine⟨⟨by omega,h⟩,?_⟩;rw[hn,hb.1]
  congr 1
  simp only[eq_iff_iff];omega
 ·simp only[decide_eq_false_iff_not]at h;exact(decide_eq_false (by omega)).symm
def b66(s:ByteArray)(i:Nat):Nat->Bool
 |0=>true
 |n+1=>btw s i 128 191&&b66 s (i+1) n
theorem g7y(s:ByteArray)(hz:s.size<=140737488351232)(i:Nat)(hi:i<=140737488351300):∀m j:Nat,j<=4->j+m<=4->b16 j s i ((j+m:Nat):Int) (b66 s (i+j) m):=by
 intro m
 induction m with
 |zero=>
  intro j h1 h2;exact b5h _ _ _ _ _ ⟨fun h=>by simp at h,fun _=>rfl⟩
 |succ m ih=>
  intro j h1 h2;refine b5h _ _ _ _ _ ⟨fun _=>?_,fun h=>by simp at h;omega⟩;have e:wI ((i:Int)+j)=((i+j:Nat):Int):=by rw[wI,C7 (by omega)];omega
  rw[e];refine⟨_,d3j s (i+j) 128 191,fun h=>?_,fun h=>?_⟩
  ·have:btw s (i+j) 128 191=false:=by simpa using h
   simp[b66,this]
  ·have:btw s (i+j) 128 191=true:=by simpa using h
   rw[wI,C7 (by omega)];have h3:=ih (j+1) (by omega) (by omega);rw[b66,this,Bool.true_and];have e2:i+j+1=i+(j+1):=by omega
   have e3:j+(m+1)=j+1+m:=by omega
   rw[e2,e3];exact h3
theorem g0b(s:ByteArray)(hz:s.size<=140737488351232)(i n:Nat)(hi:i<=140737488351300)(hn:n<=4):a3w s i n (b66 s i n):=by
 have:=g7y s hz i hi n 0 (by omega) (by omega);simp only[Nat.zero_add,Nat.add_zero]at this;exact d17 _ _ _ _ this
def szB(s:ByteArray)(i:Nat):Nat:=
 if F6 s i<128 then 1
 else if(decide (194<=F6 s i/\F6 s i<=223)&&b66 s (i+1) 1)=true then 2
 else if(decide (F6 s i=224)&&btw s (i+1) 160 191&&b66 s (i+2) 1)=true then 3
 else if(decide (F6 s i=237)&&btw s (i+1) 128 159&&b66 s (i+2) 1)=true then 3
 else if(decide (225<=F6 s i/\F6 s i<=239/\F6 s i≠237)&&b66 s (i+1) 2)=true then 3
 else if(decide (F6 s i=240)&&btw s (i+1) 144 191&&b66 s (i+2) 2)=true then 4
 else if(decide (241<=F6 s i/\F6 s i<=243)&&b66 s (i+1) 3)=true then 4
 else if(decide (F6 s i=244)&&btw s (i+1) 128 143&&b66 s (i+2) 2)=true then 4
 else 0
theorem g25(s:ByteArray)(hz:s.size<=140737488351232)(i:Nat)(hi:i<s.size):c5m s i (szB s i):=by
 have hb:=a49 s i;have hn:((i:Int)).toNat=i:=by omega
 have w1:wI ((i:Int)+1)=((i+1:Nat):Int):=by rw[wI,C7 (by omega)];omega
 have w2:wI ((i:Int)+2)=((i+2:Nat):Int):=by rw[wI,C7 (by omega)];omega
 have tl:=fun k n (hk:k<=4) (hn:n<=4)=>g0b s hz (i+k) n (by omega) hn
 have bt:=fun k lo hi=>d3j s (i+k) lo hi
 refine d0i _ _ _ ?_;rw[hn,hb.1,w1,w2];unfold szB;generalize hx:F6 s i=x at*;refine⟨⟨by omega,by omega⟩,fun h=>?_,fun h=>?_⟩
 ·rw[if_pos (by simp only[decide_eq_true_eq]at h;omega)];rfl
 rw[if_neg (by simp only[decide_eq_false_iff_not]at h;omega)];refine⟨fun b=>b=(decide (194<=x/\x<=223)&&b66 s (i+1) 1),fun b hR=>?_,fun h=>⟨_,tl 1 1 (by omega) (by omega),?_⟩,fun h=>?_⟩
 rotate_left
 ·have:(194<=x/\x<=223):=by simp only[Bool.and_eq_true,decide_eq_true_eq]at h;omega
  simp[this]
 ·have:¬(194<=x/\x<=223):=by simp only[Bool.and_eq_false_iff,decide_eq_false_iff_not]at h;omega
  simp[this]
 subst hR;refine⟨fun h=>by rw[if_pos h];rfl,fun h=>?_⟩;rw[if_neg (by rw[h];decide)];refine⟨fun b=>b=(decide (x=224)&&btw s (i+1) 160 191),fun b hR=>?_,fun h=>⟨_,bt 1 160 191,?_⟩,fun h=>?_⟩
 rotate_left
 ·have:x=224:=by simp only[beq_iff_eq]at h;omega
  simp[this]
 ·have:¬x=224:=by simp only[beq_eq_false_iff_ne]at h;omega
  simp[this]
 refine⟨fun b2=>b2=(b&&b66 s (i+2) 1),fun b2 hR2=>?_,fun h=>⟨_,tl 2 1 (by omega) (by omega),by rw[h];rfl⟩,fun h=>by rw[h];rfl⟩;subst hR2;subst hR;refine⟨fun h=>by rw[if_pos h];rfl,fun h=>?_⟩;rw[if_neg (by rw[h];decide)];refine⟨fun b=>b=(decide (x=237)&&btw s (i+1) 128 159),fun b hR=>?_,fun h=>⟨_,bt 1 128 159,?_⟩,fun h=>?_⟩
 rotate_left
 ·have:x=237:=by simp only[beq_iff_eq]at h;omega
  simp[this]
 ·have:¬x=237:=by simp only[beq_eq_false_iff_ne]at h;omega
  simp[this]
 refine⟨fun b2=>b2=(b&&b66 s (i+2) 1),fun b2 hR2=>?_,fun h=>⟨_,tl 2 1 (by omega) (by omega),by rw[h];rfl⟩,fun h=>by rw[h];rfl⟩;subst hR2;subst hR;refine⟨fun h=>by rw[if_pos h];rfl,fun h=>?_⟩;rw[if_neg (by rw[h];decide)];refine⟨fun b=>b=(decide (225<=x/\x<=239/\x≠237)&&b66 s (i+1) 2),fun b hR=>?_,fun h=>⟨_,tl 1 2 (by omega) (by omega),?_⟩,fun h=>?_⟩
 rotate_left
 ·have:(225<=x/\x<=239/\x≠237):=by simp only[Bool.and_eq_true,decide_eq_true_eq,bne_iff_ne]at h;omega
  simp[this]
 ·have:¬(225<=x/\x<=239/\x≠237):=by simp only[Bool.and_eq_false_iff,decide_eq_false_iff_not,bne_eq_false_iff_eq]at h;omega
  have h3:decide (225<=x/\x<=239/\x≠237)=false:=decide_eq_false this;rw[h3];rfl
 subst hR;refine⟨fun h=>by rw[if_pos h];rfl,fun h=>?_⟩;rw[if_neg (by rw[h];decide)];refine⟨fun b=>b=(decide (x=240)&&btw s (i+1) 144 191),fun b hR=>?_,fun h=>⟨_,bt 1 144 191,?_⟩,fun h=>?_⟩
 rotate_left
 ·have:x=240:=by simp only[beq_iff_eq]at h;omega
  simp[this]
 ·have:¬x=240:=by simp only[beq_eq_false_iff_ne]at h;omega
  simp[this]
 refine⟨fun b2=>b2=(b&&b66 s (i+2) 2),fun b2 hR2=>?_,fun h=>⟨_,tl 2 2 (by omega) (by omega),by rw[h];rfl⟩,fun h=>by rw[h];rfl⟩;subst hR2;subst hR;refine⟨fun h=>by rw[if_pos h];rfl,fun h=>?_⟩;rw[if_neg (by rw[h];decide)];refine⟨fun b=>b=(decide (241<=x/\x<=243)&&b66 s (i+1) 3),fun b hR=>?_,fun h=>⟨_,tl 1 3 (by omega) (by omega),?_⟩,fun h=>?_⟩
 rotate_left
 ·have:(241<=x/\x<=243):=by simp only[Bool.and_eq_true,decide_eq_true_eq]at h;omega
  simp[this]
 ·have:¬(241<=x/\x<=243):=by simp only[Bool.and_eq_false_iff,decide_eq_false_iff_not]at h;omega
  simp[this]
 subst hR;refine⟨fun h=>by rw[if_pos h];rfl,fun h=>?_⟩;rw[if_neg (by rw[h];decide)];refine⟨fun b=>b=(decide (x=244)&&btw s (i+1) 128 143),fun b hR=>?_,fun h=>⟨_,bt 1 128 143,?_⟩,fun h=>?_⟩
 rotate_left
 ·have:x=244:=by simp only[beq_iff_eq]at h;omega
  simp[this]
 ·have:¬x=244:=by simp only[beq_eq_false_iff_ne]at h;omega
  simp[this]
 refine⟨fun h=>⟨_,tl 2 2 (by omega) (by omega),fun h2=>?_,fun h2=>?_⟩,fun h=>?_⟩
 ·rw[if_pos (by rw[<-hR,h,h2];rfl)];rfl
 ·rw[if_neg (by rw[<-hR,h,h2];decide)];rfl
 ·rw[if_neg (by rw[<-hR,h];simp)];rfl
theorem f7k(s:ByteArray)(i:Nat):szB s i=b59 s i:=by
 unfold szB b59 a1e;simp only[<-b80,btw,b66,Bool.and_eq_true,decide_eq_true_eq,Bool.and_true];have e1:i+1+1=i+2:=rfl;have e2:i+1+1+1=i+3:=rfl;have e3:i+2+1=i+3:=rfl;simp only[e1,e2,e3];generalize F6 s i=a;generalize F6 s (i+1)=b;generalize F6 s (i+2)=c;generalize F6 s (i+3)=d;generalize s.size=n
 by_cases h0:a<128
 ·rw[if_pos h0,if_pos h0]
 rw[if_neg h0,if_neg h0]
 have key:∀(p q:Prop) [Decidable p] [Decidable q] (x y z:Nat),(p↔q)->y=z->(if p then x else y)=(if q then x else z):=by
  intro p q _ _ x y z h1 h2;subst h2
  by_cases hp:p
  ·rw[if_pos hp,if_pos (h1.1 hp)]
  ·rw[if_neg hp,if_neg (fun h=>hp (h1.2 h))]
 refine key _ _ _ _ _ (by omega) (key _ _ _ _ _ (by omega) (key _ _ _ _ _ (by omega) (key _ _ _ _ _ (by omega) (key _ _ _ _ _ (by omega) (key _ _ _ _ _ (by omega) (key _ _ _ _ _ (by omega) rfl))))))
theorem g73(s:ByteArray)(hz:s.size<=140737488351232):∀n p:Nat,s.size - p<=n->p<=s.size->b4u p s (d5o s p):=by
 intro n
 induction n with
 |zero=>
  intro p h1 h2;refine b6d _ _ _ ⟨fun h=>by simp only[decide_eq_true_eq]at h;omega,fun h=>c4t s p (by omega)⟩
 |succ n ih=>
  intro p h1 h2;refine b6d _ _ _ ⟨fun h=>?_,fun h=>?_⟩
  ·simp only[decide_eq_true_eq]at h;have hp:p<s.size:=by omega
   have hle:=d8v s p hp;refine⟨_,g25 s hz p hp,fun h2=>?_,fun h2=>?_⟩
   ·simp only[beq_iff_eq]at h2;exact d8h s p hp (by rw[<-f7k];omega)
   ·simp only[beq_eq_false_iff_ne]at h2;rw[f7k]at h2 ⊢;have h3:b59 s p≠0:=by omega
    rw[e2a s p hp h3,wI,C7 (by omega)];exact ih _ (by omega) hle
  ·simp only[decide_eq_false_iff_not]at h;exact c4t s p (by omega)
theorem d0n(s:ByteArray)(hz:s.size<=140737488351232):b2o s (a7e s):=
 c8i _ _ ⟨_,d20 _ _ (g73 s hz s.size 0 (by omega) (by omega)),rfl⟩
def f9z(s:ByteArray)(i:Nat):Bool:=decide (2<s.size - i/\F6 s i=239/\F6 s (i+1)=191/\F6 s (i+2)=189)
theorem d8k{a b:ByteArray}(h:a.size=b.size)(hb:∀i,i<a.size->F6 a i=F6 b i):a=b:=by
 apply ByteArray.ext;refine Array.ext h fun i h1 h2=>?_
 have:=hb i h1;rw[b80,b80]at this;have e1:a.get! i=a.data[i]:=by show a.data[i]! =_;exact getElem!_pos a.data i h1
 have e2:b.get! i=b.data[i]:=by show b.data[i]! =_;exact getElem!_pos b.data i h2
 rw[e1,e2]at this;exact UInt8.toNat_inj.1 this
theorem e93(s:ByteArray)(i:Nat)(hi:i<=s.size)(hz:s.size<=140737488351232):a8w (s.extract i s.size) ⟨#[239,191,189]⟩ (f9z s i):=by
 refine b8i _ _ _ ⟨_,a53 _ _ _ ⟨fun h=>⟨⟨by omega,by omega,by simpa using h⟩,?_⟩,fun h=>?_⟩,rfl⟩
 ·have hs:(s.extract i s.size).size=s.size - i:=W4 s (Nat.le_refl _);simp only[decide_eq_true_eq,hs]at h;have h3:(⟨#[239,191,189]⟩:ByteArray).size=3:=rfl;rw[h3]at h ⊢;show f9z s i=decide ((s.extract i s.size).extract 0 3=_);unfold f9z
  congr 1
  simp only[eq_iff_iff];have e0:=U0 (s.extract i s.size) (l:=0) (u:=3) (i:=0) (by omega);have e1:=U0 (s.extract i s.size) (l:=0) (u:=3) (i:=1) (by omega);have e2:=U0 (s.extract i s.size) (l:=0) (u:=3) (i:=2) (by omega);rw[U0 s (by omega)]at e0 e1 e2;constructor
  ·rintro⟨k1,k2,k3,k4⟩;refine d8k (by rw[W4 _ (by omega)];rfl) fun j hj=>?_
   rw[W4 _ (by omega)]at hj;have:j=0\/j=1\/j=2:=by omega
   rcases this with rfl|rfl|rfl
   ·rw[e0];exact k2
   ·rw[e1];exact k3
   ·rw[e2];exact k4
  ·intro he;rw[he]at e0 e1 e2;refine⟨by omega,e0.symm,e1.symm,e2.symm⟩
 ·have hs:(s.extract i s.size).size=s.size - i:=W4 s (Nat.le_refl _);simp only[decide_eq_false_iff_not,hs]at h;have h3:(⟨#[239,191,189]⟩:ByteArray).size=3:=rfl;rw[h3]at h;exact decide_eq_false (by omega)
theorem f3p(s:ByteArray)(i:Nat)(hi:i<=s.size)(hz:s.size<=140737488351232)(c:Int):d0w s i c (decide (c=65533)&& !f9z s i):=by
 refine d2q _ _ _ _ ⟨fun h=>⟨⟨by omega,by omega,by omega⟩,?_⟩,fun h=>?_⟩
 ·simp only[beq_iff_eq]at h;have e:((s.size:Nat):Int).toNat=s.size:=by omega
  have e2:((i:Nat):Int).toNat=i:=by omega
  rw[e,e2];exact⟨_,e93 s i hi hz,by simp[h]⟩
 ·simp only[beq_eq_false_iff_ne]at h;simp[h]
theorem g0v(s:ByteArray)(p:Nat):1<=(Utf8.decode s p).2:=by
 rw[Lib.decode_at];unfold Lib.decodeN
 (repeat' split)<;>simp
theorem g9z(s:ByteArray)(hz:s.size<=140737488351232):∀n p:Nat,s.size - p<=n->p<=s.size->c0e s p (d5o s p):=by
 intro n
 induction n with
 |zero=>
  intro p h1 h2;exact b9a _ _ _ ⟨fun h=>by omega,fun h=>c4t s p (by omega)⟩
 |succ n ih=>
  intro p h1 h2;refine b9a _ _ _ ⟨fun hp=>⟨_,f3p s p h2 hz _,fun h=>?_,fun h=>?_⟩,fun h=>c4t s p (by omega)⟩
  ·have hd:=c4n s p;simp only[<-b80]at hd;rw[Bool.and_eq_true]at h;have k1:=of_decide_eq_true h.1
   have k2:f9z s p=false:=by cases hf:f9z s p with
    |true=>rw[hf]at h;exact absurd h.2 (by decide)
    |false=>rfl
   have k3:=of_decide_eq_false k2;rw[if_pos ⟨by omega,k3⟩]at hd;exact d8h s p hp hd
  ·have hd:=c4n s p;simp only[<-b80]at hd;have hle:=d8v s p hp;rw[if_neg]at hd
   ·have h3:b59 s p≠0:=by
     have:=g0v s p;omega
    rw[e2a s p hp h3,<-hd];exact ih _ (by omega) hle
   ·intro hc;have k2:f9z s p=false:=decide_eq_false hc.2;have k1:decide (((Utf8.decode s p).1:Int)=65533)=true:=decide_eq_true (by omega);rw[k1,k2]at h;cases h
theorem d6g(s:ByteArray)(hz:s.size<=140737488351232):b8x s (a7e s):=
 d2s _ _ ⟨_,d74 _ _ (g9z s hz s.size 0 (by omega) (by omega)),rfl⟩
end Go.Proofs.YtidmmngcijapcaaGreat.Lift
