/- Part 6 of the texts that prove TextformPrintsEnd. -/
import Derived.Test.YtdpomombdeccpaaGreatDoorTextformPrintsEndP4
import Derived.Test.YtdpomombdeccpaaGreatDoorTextformPrintsEndP2
import Derived.Lib.DecodeN
import Derived.Test.YtdpomombdeccpaaGreatDoorTextformPrintsEndP3
import Derived.Shelf.Strings.Builder1
import Derived.Shelf.Small.Strs
import Derived.Shelf.Strings.BuilderF
import Derived.Shelf.Strconv.Itoa0
import Derived.Shelf.Strconv.Itoa1
import Derived.Shelf.LaysM
import Derived.Shelf.Strconv.Itoa2
import Derived.Shelf.Strconv.Itoa3
import Derived.Shelf.Strings.Search1
import Derived.Shelf.Strings.Search2
import Derived.Shelf.Strings.Cut
import Derived.Shelf.Strings.Shaped
import Derived.Shelf.Bits.Mul64
import Derived.Test.YtdpomombdeccpaaGreatDoorProg
import Derived.Lib.Walk
import Derived.Lib.ItoaMem
import Derived.WalkKit
import Derived.BigCall
import Derived.BigGuard
import Derived.Deep.LoopGhost
namespace Go.Proofs.YtdpomombdeccpaaGreatDoor.Lift
open Go.RowKit
set_option linter.unusedVariables false
set_option linter.unusedSimpArgs false
set_option linter.unnecessarySimpa false
set_option linter.unusedSectionVars false
set_option maxRecDepth 100000
section
attribute [local irreducible] Ok run put N0 br jn pos Fo Eu So
attribute [-simp] List.map_take List.map_drop List.map_append List.map_set List.map_replicate List.map_cons List.map_map
attribute [local simp] plain B7 X3 Q5 I0 low D4 H7 Q4 S8 S7 P8 P6 Q9 S4 R0 S6 P9 S0 S5 U5 P5 T6 T1 U1 T5 U8 T0 V1 T9 U7 T8 V0 V3 W3 W5 X1 X6 Y7 Y5 Z9 AS AO Ae Ak Au Ar BP BO Bj Bd Bw Bu CY Cg Cw DP DH Df Ef Em EN EU Ei W0 BI EX EY CB BL K8 Ev IY Ge Gm He IV Ia IZ IK Gy Hi GM GC Hj Ib IS Hb HC Gd GV Hs Ic Hg Gj GT HB HU Hr Hx HT Gz GL Ie GY HZ Gl IU GN IG Ht Gk Gn Gv HH HJ Ga Hp GU IW Ij GS IJ IA IR Gg Hu Hn GP Gw GW IM HQ HG Gt Gc Gr Hq IP HI Gq If IE GO Hy Hc Hd GK GX HS Hm GH GR HL Jf
def NG(ij2 ij1:Int)(l:b4c (A0 × A0))(level:Int)(p:A5)(o_:B0)(r:Int):Prop:=J Pg 224 (.ret (ZP r)) 13 [(11,aI ij2),(9,aI ij1),(5,.ptr 1 0),(4,.ptr 0 0),(2,.sl (List.map D1 l) .no),(3,aI level)] ⟨[some (C7 p),some (E7 o_)],[],[]⟩
def VC(ij1:Int)(l:b4c (A0 × A0))(level:Int)(p:A5)(o_:B0)(r:Int):Prop:=J Pg 224 (.ret (ZP r)) 3 [(9,aI ij1),(5,.ptr 1 0),(4,.ptr 0 0),(2,.sl (List.map D1 l) .no),(3,aI level)] ⟨[some (C7 p),some (E7 o_)],[],[]⟩
theorem fS(ij2 ij1:Int)(l:b4c (A0 × A0))(level:Int)(p:A5)(o_:B0)(r:Int)(hw:ID (ij2<ij1) (IX l ij2 λy14=>IX l ij1 λy15=>∃y16,bh y14.1 y15.1 y16/\(IF y16 (r=9) (NG (wI (ij2+1)) ij1 l level p o_ r))) (IX l ij1 λy12=>∃y13,Mu p o_ y12.2 level y13/\(IF (y13 !=0) (r=y13) (VC (wI (ij1+1)) l level p o_ r)))):NG ij2 ij1 l level p o_ r:=
 fJ hw<|KW 9 (KD 5 []<|KI 2 B8<|KI 4 B8<|KC 3<|KW 2 (KR 16)<|KJ 9)<|KD 6 [0,1]<|KI 4 B8<|KC 4<|KW 9 (KR 12)<|KJ 9
theorem jK(ij1:Int)(l:b4c (A0 × A0))(level:Int)(p:A5)(o_:B0)(r:Int)(hw:ID (ij1<(l.length:Int)) (IX l ij1 λy5=>∃y6,TL p o_.Key (-1) y5.1 y6/\(IF (y6 !=0) (r=y6) (NG 0 ij1 l level p o_ r))) (r=0)):VC ij1 l level p o_ r:=
 fJ hw<|KL 6 B8 l<|KW 3 (KD 6 [0,1]<|KI 5 B8<|KC 3<|KW 9 (KR 13)<|KJ 10)<|KR 11
theorem zf(p:A5)(o_:B0)(l:b4c (A0 × A0))(level r:Int)(hw:VC 0 l level p o_ r):bP p o_ l level r:=
 fP hw<|KJ 15
theorem b16(p:A5)(o_:B0)(v:A0)(level r:Int)(hw:IF (o_.Kind==10) (∃y1,Ks p o_.Target v (wI (level+1)) y1/\(r=y1)) (∃y2,TL p o_.Kind o_.Target v y2/\(r=y2))):Mu p o_ v level r:=
 fP hw<|KW 16 (KC 8<|KR 5)<|KC 10<|KR 4
theorem a09(a b:A0)(r:Int)(hw:IF (a.Kind !=b.Kind) (∃y1,DQ a.Kind b.Kind y1/\(r=y1)) (IF (a.Kind==11) (∃y2,mH a.B4 b.B4 y2/\(r=y2)) (IF (a.Kind==12) (∃y3,gL a.Pairs b.Pairs y3/\(r=y3)) (IF (a.Kind==10) (∃y4,kw a.Slots b.Slots y4/\(IF (y4 !=0) (r=y4) (∃y5,gD a.C1 b.C1 y5/\(r=y5)))) (∃y6,ZD a b y6/\(r=y6)))))):Cz a b r:=
 fP hw<|KW 17 (KC 6<|KR 5)<|KW 16 (KC 6<|KR 6)<|KW 6 (KC 6<|KR 6)<|KW 6 (KC 7<|KW 9 (KR 10)<|KC 8<|KR 6)<|KC 7<|KR 4
theorem uy(x:M6)(o_:B0)(v:A0)(level r:Int)(hw:IF (o_.Kind==10) (IX x.p.A7 o_.Target λy1=>∃y2,MR x y1 v (wI (level+1)) y2/\(r=y2)) (∃y3,VZ x o_.Kind o_.Target v y3/\(r=y3))):OR x o_ v level r:=
 fP hw<|KW 16 (KD 1 [0,1,2]<|KI 6 H8<|KC 5<|KR 5)<|KC 10<|KR 4
def Ro(ij1:Int)(l:b4c (A0 × A0))(level:Int)(x:M6)(o_:B0)(r:Int):Prop:=J Pg 248 (.ret (kY r)) 3 [(15,aI ij1),(14,aI (l.length:Int)),(13,.sl (List.map D1 l) .no),(5,.ptr 1 0),(4,.ptr 0 0),(2,.sl (List.map D1 l) .no),(3,aI level)] ⟨[some (C7 x.p),some (E7 o_)],[],[]⟩
theorem gj(ij1:Int)(l:b4c (A0 × A0))(level:Int)(x:M6)(o_:B0)(r:Int)(hw:ID (ij1<(l.length:Int)) (IX l ij1 λy5=>∃y6,VZ x o_.Key (-1) y5.1 y6/\(IF (y6 !=0) (r=y6) ((0<=(0:Int)/\(0:Int)<=ij1/\ij1<=(l.length:Int))/\(∃y7,Yc ((l.take ij1.toNat).drop (0:Int).toNat) (⟨282,[],[.D3 (L4 y5) 0],by simp⟩:B3) y7/\(IF y7 (r=9) (∃y8,OR x o_ y5.2 level y8/\(IF (y8 !=0) (r=y8) (Ro (wI (ij1+1)) l level x o_ r)))))))) (r=0)):Ro ij1 l level x o_ r:=
 fJ hw<|KW 7 (KI 7 B8 λ{y5}=>KC 14<|KW 9 (KR 13)<|Kb 4 2 [true,true,false] 0 [(9,aI ij1),(10,.D3 (L4 y5) 0),(15,aI ij1),(14,aI (l.length:Int)),(13,.sl (List.map D1 l) .no),(5,.ptr 1 0),(4,.ptr 0 0),(2,.sl (List.map D1 l) .no),(3,aI level)] [some (C7 x.p),some (E7 o_),none]<|ED 3 B8<|KC 1<|KW 2 (KR 12)<|KC 9<|KW 9 (KR 12)<|E1 8 [])<|KR 11
theorem b1y(x:M6)(o_:B0)(l:b4c (A0 × A0))(level r:Int)(hw:Ro 0 l level x o_ r):YV x o_ l level r:=
 fP hw<|KL 11 B8 l<|KJ 5
def Rh(ij5 ij3:Int)(n0:Nat)(a b:Int)(cmp:B3)(lj6 r:b4c (Int × A0)):Prop:=J Pg 249 (.io [] 0 (.tuple []) (cellsOf D2 r) []) 6 [(9,aI ij5),(8,aI ij3),(0,.row 0 0 8 n0 n0),(1,aI a),(2,aI b),(3,.clo (.func cmp.fn) cmp.fi cmp.cap)] ⟨[some (cellsOf D2 lj6)],[],[]⟩
def Rd(ij3:Int)(n0:Nat)(a b:Int)(cmp:B3)(lj4 r:b4c (Int × A0)):Prop:=J Pg 249 (.io [] 0 (.tuple []) (cellsOf D2 r) []) 1 [(8,aI ij3),(0,.row 0 0 8 n0 n0),(1,aI a),(2,aI b),(3,.clo (.func cmp.fn) cmp.fi cmp.cap)] ⟨[some (cellsOf D2 lj4)],[],[]⟩
theorem ux(ij5 ij3:Int)(n0:Nat)(a b:Int)(cmp:B3)(lj6 r:b4c (Int × A0))(hw:JN (λbz4:b4e=>IF bz4 ((0<=(wI (ij5 - 1))/\(wI (ij5 - 1))<(n0:Int))/\(∃y19,lj6[(wI (ij5 - 1)).toNat]? =some y19/\((0<=ij5/\ij5<(n0:Int))/\(∃y20,lj6[ij5.toNat]? =some y20/\((0<=ij5/\ij5<(n0:Int))/\(ij5.toNat<lj6.length/\((0<=(wI (ij5 - 1))/\(wI (ij5 - 1))<(n0:Int))/\((wI (ij5 - 1)).toNat<(lj6.set ij5.toNat y19).length/\(Rh (wI (ij5 - 1)) ij3 n0 a b cmp ((lj6.set ij5.toNat y19).set (wI (ij5 - 1)).toNat y20) r))))))))) (Rd (wI (ij3+1)) n0 a b cmp lj6 r)) λR4=>ID (a<ij5) ((0<=ij5/\ij5<(n0:Int))/\(∃y16,lj6[ij5.toNat]? =some y16/\((0<=(wI (ij5 - 1))/\(wI (ij5 - 1))<(n0:Int))/\(∃y17,lj6[(wI (ij5 - 1)).toNat]? =some y17/\(∃y18,N8 Pg [] (.clo (.func cmp.fn) cmp.fi cmp.cap) [.agg (M4 y16),.agg (M4 y17)] (aI y18)/\(R4 (decide (y18<0)))))))) (R4 false)):Rh ij5 ij3 n0 a b cmp lj6 r:=
 fJ hw<|KD 3 [0]<|KQ 4 14 kB (KW 2 (It 4 [0]<|H2 8 8<|M9 0 C6 λ{y19}=>H2 2 8<|M9 0 C6 λ{y20}=>H2 0 8<|BA 0 C6 y19<|H2 0 8<|BA 0 C6 y20<|KJ 9)<|KJ 12) (λkey=>H2 3 8<|M9 0 C6<|H2 3 8<|M9 0 C6<|KF 1<|KE 2 key) λkey=>KE 14 key
theorem xV(ij3:Int)(n0:Nat)(a b:Int)(cmp:B3)(lj4 r:b4c (Int × A0))(hw:ID (ij3<b) (Rh ij3 ij3 n0 a b cmp lj4 r) (lj4≠[]/\r=lj4)):Rd ij3 n0 a b cmp lj4 r:=
 fJ hw<|KW 9 (KJ 12)<|An 4 C6
theorem yl(n0:Nat)(data:b4c (Int × A0))(a b:Int)(cmp:B3)(r:b4c (Int × A0))(hw:Rd (wI (a+1)) n0 a b cmp data r):Vk n0 data a b cmp r:=
 DU hw<|KJ 9
def Qr(ij5 ij3:Int)(n0:Nat)(lj6 r:b4c (Int × A0)):Prop:=J Pg 250 (.io [] 0 (.tuple []) (cellsOf D2 r) []) 12 [(13,aI ij5),(10,aI ij3),(0,.row 0 0 8 n0 n0)] ⟨[some (cellsOf D2 lj6)],[],[]⟩
def Oa(ij4 ij3:Int)(n0:Nat)(a:Int)(cmp:B3)(data r:b4c (Int × A0)):Prop:=J Pg 250 (.io [] 0 (.tuple []) (cellsOf D2 r) []) 5 [(11,aI ij4),(10,aI ij3),(0,.row 0 0 8 n0 n0),(1,aI a),(4,.clo (.func cmp.fn) cmp.fi cmp.cap)] ⟨[some (cellsOf D2 data)],[],[]⟩
def RV(ij11 ij9:Int)(n0:Nat)(lj12 r:b4c (Int × A0)):Prop:=J Pg 250 (.io [] 0 (.tuple []) (cellsOf D2 r) []) 28 [(17,aI ij11),(14,aI ij9),(0,.row 0 0 8 n0 n0)] ⟨[some (cellsOf D2 lj12)],[],[]⟩
def Ov(ij10 ij9:Int)(n0:Nat)(m:Int)(cmp:B3)(data r:b4c (Int × A0)):Prop:=J Pg 250 (.io [] 0 (.tuple []) (cellsOf D2 r) []) 21 [(15,aI ij10),(14,aI ij9),(0,.row 0 0 8 n0 n0),(2,aI m),(4,.clo (.func cmp.fn) cmp.fi cmp.cap)] ⟨[some (cellsOf D2 data)],[],[]⟩
def Qq(a b m ij26:Int)(n0:Nat)(cmp:B3)(lj30 r:b4c (Int × A0)):Prop:=J Pg 250 (.io [] 0 (.tuple []) (cellsOf D2 r) []) 49 [(24,aI (wI ((wI ((wI ((wU (wI (a+b))).fdiv (2 ^ min (1:Int).toNat IntKind.u64.bits)))+m)) - ij26))),(18,aI (wI ((wU (wI (a+b))).fdiv (2 ^ min (1:Int).toNat IntKind.u64.bits)))),(0,.row 0 0 8 n0 n0),(3,aI b),(4,.clo (.func cmp.fn) cmp.fi cmp.cap)] ⟨[some (cellsOf D2 lj30)],[],[]⟩
def UV(a b m ij26:Int)(n0:Nat)(cmp:B3)(lj29 r:b4c (Int × A0)):Prop:=J Pg 250 (.io [] 0 (.tuple []) (cellsOf D2 r) []) 47 [(24,aI (wI ((wI ((wI ((wU (wI (a+b))).fdiv (2 ^ min (1:Int).toNat IntKind.u64.bits)))+m)) - ij26))),(20,aI ij26),(18,aI (wI ((wU (wI (a+b))).fdiv (2 ^ min (1:Int).toNat IntKind.u64.bits)))),(0,.row 0 0 8 n0 n0),(1,aI a),(3,aI b),(4,.clo (.func cmp.fn) cmp.fi cmp.cap)] ⟨[some (cellsOf D2 lj29)],[],[]⟩
def NA(a b m ij27 ij26:Int)(n0:Nat)(cmp:B3)(data r:b4c (Int × A0)):Prop:=J Pg 250 (.io [] 0 (.tuple []) (cellsOf D2 r) []) 41 [(22,aI (wI ((wI ((wI ((wU (wI (a+b))).fdiv (2 ^ min (1:Int).toNat IntKind.u64.bits)))+m)) - 1))),(21,aI ij27),(20,aI ij26),(19,aI (wI ((wI ((wU (wI (a+b))).fdiv (2 ^ min (1:Int).toNat IntKind.u64.bits)))+m))),(18,aI (wI ((wU (wI (a+b))).fdiv (2 ^ min (1:Int).toNat IntKind.u64.bits)))),(0,.row 0 0 8 n0 n0),(1,aI a),(2,aI m),(3,aI b),(4,.clo (.func cmp.fn) cmp.fi cmp.cap)] ⟨[some (cellsOf D2 data)],[],[]⟩
def VR(ij21 ij22 a b m:Int)(n0:Nat)(cmp:B3)(data r:b4c (Int × A0)):Prop:=J Pg 250 (.io [] 0 (.tuple []) (cellsOf D2 r) []) 35 [(21,aI ij21),(20,aI ij22),(19,aI (wI ((wI ((wU (wI (a+b))).fdiv (2 ^ min (1:Int).toNat IntKind.u64.bits)))+m))),(18,aI (wI ((wU (wI (a+b))).fdiv (2 ^ min (1:Int).toNat IntKind.u64.bits)))),(0,.row 0 0 8 n0 n0),(1,aI a),(2,aI m),(3,aI b),(4,.clo (.func cmp.fn) cmp.fi cmp.cap)] ⟨[some (cellsOf D2 data)],[],[]⟩
theorem wz(ij5 ij3:Int)(n0:Nat)(lj6 r:b4c (Int × A0))(hw:ID (ij5<(wI (ij3 - 1))) ((0<=(wI (ij5+1))/\(wI (ij5+1))<(n0:Int))/\(∃y10,lj6[(wI (ij5+1)).toNat]? =some y10/\((0<=ij5/\ij5<(n0:Int))/\(∃y11,lj6[ij5.toNat]? =some y11/\((0<=ij5/\ij5<(n0:Int))/\(ij5.toNat<lj6.length/\((0<=(wI (ij5+1))/\(wI (ij5+1))<(n0:Int))/\((wI (ij5+1)).toNat<(lj6.set ij5.toNat y10).length/\(Qr (wI (ij5+1)) ij3 n0 ((lj6.set ij5.toNat y10).set (wI (ij5+1)).toNat y11) r))))))))) (lj6≠[]/\r=lj6)):Qr ij5 ij3 n0 lj6 r:=
 fJ hw<|KW 10 (It 4 [0]<|H2 8 8<|M9 0 C6 λ{y10}=>H2 2 8<|M9 0 C6 λ{y11}=>H2 0 8<|BA 0 C6 y10<|H2 0 8<|BA 0 C6 y11<|KJ 9)<|An 7 C6
theorem a74(ij4 ij3:Int)(n0:Nat)(a:Int)(cmp:B3)(data r:b4c (Int × A0))(hw:ID (ij3<ij4) ((0<=(wI ((wU (wI (ij3+ij4))).fdiv (2 ^ min (1:Int).toNat IntKind.u64.bits)))/\(wI ((wU (wI (ij3+ij4))).fdiv (2 ^ min (1:Int).toNat IntKind.u64.bits)))<(n0:Int))/\(∃y12,data[(wI ((wU (wI (ij3+ij4))).fdiv (2 ^ min (1:Int).toNat IntKind.u64.bits))).toNat]? =some y12/\((0<=a/\a<(n0:Int))/\(∃y13,data[a.toNat]? =some y13/\(∃y14,N8 Pg [] (.clo (.func cmp.fn) cmp.fi cmp.cap) [.agg (M4 y12),.agg (M4 y13)] (aI y14)/\(ID (y14<0) (Oa ij4 (wI ((wI ((wU (wI (ij3+ij4))).fdiv (2 ^ min (1:Int).toNat IntKind.u64.bits)))+1)) n0 a cmp data r) (Oa (wI ((wU (wI (ij3+ij4))).fdiv (2 ^ min (1:Int).toNat IntKind.u64.bits))) ij3 n0 a cmp data r))))))) (Qr a ij3 n0 data r)):Oa ij4 ij3 n0 a cmp data r:=
 fJ hw<|KW 9 (KD 15 [0]<|H2 3 8<|M9 0 C6<|H2 2 8<|M9 0 C6<|KF 1<|KW 3 (KJ 7)<|KJ 6)<|KJ 14
theorem tI(ij11 ij9:Int)(n0:Nat)(lj12 r:b4c (Int × A0))(hw:ID (ij9<ij11) ((0<=(wI (ij11 - 1))/\(wI (ij11 - 1))<(n0:Int))/\(∃y24,lj12[(wI (ij11 - 1)).toNat]? =some y24/\((0<=ij11/\ij11<(n0:Int))/\(∃y25,lj12[ij11.toNat]? =some y25/\((0<=ij11/\ij11<(n0:Int))/\(ij11.toNat<lj12.length/\((0<=(wI (ij11 - 1))/\(wI (ij11 - 1))<(n0:Int))/\((wI (ij11 - 1)).toNat<(lj12.set ij11.toNat y24).length/\(RV (wI (ij11 - 1)) ij9 n0 ((lj12.set ij11.toNat y24).set (wI (ij11 - 1)).toNat y25) r))))))))) (lj12≠[]/\r=lj12)):RV ij11 ij9 n0 lj12 r:=
 fJ hw<|KW 9 (It 4 [0]<|H2 8 8<|M9 0 C6 λ{y24}=>H2 2 8<|M9 0 C6 λ{y25}=>H2 0 8<|BA 0 C6 y24<|H2 0 8<|BA 0 C6 y25<|KJ 9)<|An 7 C6
theorem wj(ij10 ij9:Int)(n0:Nat)(m:Int)(cmp:B3)(data r:b4c (Int × A0))(hw:ID (ij9<ij10) ((0<=m/\m<(n0:Int))/\(∃y26,data[m.toNat]? =some y26/\((0<=(wI ((wU (wI (ij9+ij10))).fdiv (2 ^ min (1:Int).toNat IntKind.u64.bits)))/\(wI ((wU (wI (ij9+ij10))).fdiv (2 ^ min (1:Int).toNat IntKind.u64.bits)))<(n0:Int))/\(∃y27,data[(wI ((wU (wI (ij9+ij10))).fdiv (2 ^ min (1:Int).toNat IntKind.u64.bits))).toNat]? =some y27/\(∃y28,N8 Pg [] (.clo (.func cmp.fn) cmp.fi cmp.cap) [.agg (M4 y26),.agg (M4 y27)] (aI y28)/\(IF (!(decide (y28<0))) (Ov ij10 (wI ((wI ((wU (wI (ij9+ij10))).fdiv (2 ^ min (1:Int).toNat IntKind.u64.bits)))+1)) n0 m cmp data r) (Ov (wI ((wU (wI (ij9+ij10))).fdiv (2 ^ min (1:Int).toNat IntKind.u64.bits))) ij9 n0 m cmp data r))))))) (RV m ij9 n0 data r)):Ov ij10 ij9 n0 m cmp data r:=
 fJ hw<|KW 9 (KD 15 [0]<|H2 3 8<|M9 0 C6<|H2 2 8<|M9 0 C6<|KF 1<|KW 4 (KJ 7)<|KJ 6)<|KJ 14
theorem rM(a b m ij26:Int)(n0:Nat)(cmp:B3)(lj30 r:b4c (Int × A0))(hw:IF ((decide ((wI ((wU (wI (a+b))).fdiv (2 ^ min (1:Int).toNat IntKind.u64.bits)))<(wI ((wI ((wI ((wU (wI (a+b))).fdiv (2 ^ min (1:Int).toNat IntKind.u64.bits)))+m)) - ij26))))&&(decide ((wI ((wI ((wI ((wU (wI (a+b))).fdiv (2 ^ min (1:Int).toNat IntKind.u64.bits)))+m)) - ij26))<b))) (∃y65,MG n0 lj30 (wI ((wU (wI (a+b))).fdiv (2 ^ min (1:Int).toNat IntKind.u64.bits))) (wI ((wI ((wI ((wU (wI (a+b))).fdiv (2 ^ min (1:Int).toNat IntKind.u64.bits)))+m)) - ij26)) b cmp y65/\(lj30≠[]/\y65≠[])/\(y65≠[]/\r=y65)) (lj30≠[]/\r=lj30)):Qq a b m ij26 n0 cmp lj30 r:=
 fJ hw<|KT 6 4<|KW 2 (V5 6 C6 Su<|An 1 C6)<|An 1 C6
theorem a95(a b m ij26:Int)(n0:Nat)(cmp:B3)(lj29 r:b4c (Int × A0))(hw:IF ((decide (a<ij26))&&(decide (ij26<(wI ((wU (wI (a+b))).fdiv (2 ^ min (1:Int).toNat IntKind.u64.bits)))))) (∃y63,MG n0 lj29 a ij26 (wI ((wU (wI (a+b))).fdiv (2 ^ min (1:Int).toNat IntKind.u64.bits))) cmp y63/\(lj29≠[]/\y63≠[])/\(Qq a b m ij26 n0 cmp y63 r)) (Qq a b m ij26 n0 cmp lj29 r)):UV a b m ij26 n0 cmp lj29 r:=
 fJ hw<|KT 7 4<|KW 2 (V5 6 C6 Su<|KJ 2)<|KJ 2
theorem l6(a b m ij27 ij26:Int)(n0:Nat)(cmp:B3)(data r:b4c (Int × A0))(hw:ID (ij26<ij27) ((0<=(wI ((wI ((wI ((wI ((wU (wI (a+b))).fdiv (2 ^ min (1:Int).toNat IntKind.u64.bits)))+m)) - 1)) - (wI ((wU (wI (ij26+ij27))).fdiv (2 ^ min (1:Int).toNat IntKind.u64.bits)))))/\(wI ((wI ((wI ((wI ((wU (wI (a+b))).fdiv (2 ^ min (1:Int).toNat IntKind.u64.bits)))+m)) - 1)) - (wI ((wU (wI (ij26+ij27))).fdiv (2 ^ min (1:Int).toNat IntKind.u64.bits)))))<(n0:Int))/\(∃y66,data[(wI ((wI ((wI ((wI ((wU (wI (a+b))).fdiv (2 ^ min (1:Int).toNat IntKind.u64.bits)))+m)) - 1)) - (wI ((wU (wI (ij26+ij27))).fdiv (2 ^ min (1:Int).toNat IntKind.u64.bits))))).toNat]? =some y66/\((0<=(wI ((wU (wI (ij26+ij27))).fdiv (2 ^ min (1:Int).toNat IntKind.u64.bits)))/\(wI ((wU (wI (ij26+ij27))).fdiv (2 ^ min (1:Int).toNat IntKind.u64.bits)))<(n0:Int))/\(∃y67,data[(wI ((wU (wI (ij26+ij27))).fdiv (2 ^ min (1:Int).toNat IntKind.u64.bits))).toNat]? =some y67/\(∃y68,N8 Pg [] (.clo (.func cmp.fn) cmp.fi cmp.cap) [.agg (M4 y66),.agg (M4 y67)] (aI y68)/\(IF (!(decide (y68<0))) (NA a b m ij27 (wI ((wI ((wU (wI (ij26+ij27))).fdiv (2 ^ min (1:Int).toNat IntKind.u64.bits)))+1)) n0 cmp data r) (NA a b m (wI ((wU (wI (ij26+ij27))).fdiv (2 ^ min (1:Int).toNat IntKind.u64.bits))) ij26 n0 cmp data r))))))) (IF ((decide (ij26<m))&&(decide (m<(wI ((wI ((wI ((wU (wI (a+b))).fdiv (2 ^ min (1:Int).toNat IntKind.u64.bits)))+m)) - ij26))))) (∃y59,Wp n0 data ij26 m (wI ((wI ((wI ((wU (wI (a+b))).fdiv (2 ^ min (1:Int).toNat IntKind.u64.bits)))+m)) - ij26)) cmp y59/\(data≠[]/\y59≠[])/\(UV a b m ij26 n0 cmp y59 r)) (UV a b m ij26 n0 cmp data r))):NA a b m ij27 ij26 n0 cmp data r:=
 fJ hw<|KW 9 (KD 15 [0]<|H2 5 8<|M9 0 C6<|H2 2 8<|M9 0 C6<|KF 1<|KW 4 (KJ 7)<|KJ 6)<|KT 20 4<|KW 2 (V5 6 C6 tb<|KJ 2)<|KJ 2
theorem rk(ij21 ij22 a b m:Int)(n0:Nat)(cmp:B3)(data r:b4c (Int × A0))(hw:NA a b m ij21 ij22 n0 cmp data r):VR ij21 ij22 a b m n0 cmp data r:=
 fJ hw<|KJ 10
theorem xT(n0:Nat)(data:b4c (Int × A0))(a m b:Int)(cmp:B3)(r:b4c (Int × A0))(hw:IF ((wI (m - a))==1) (Oa b m n0 a cmp data r) (IF ((wI (b - m))==1) (Ov m a n0 m cmp data r) (ID ((wI ((wU (wI (a+b))).fdiv (2 ^ min (1:Int).toNat IntKind.u64.bits)))<m) (VR (wI ((wU (wI (a+b))).fdiv (2 ^ min (1:Int).toNat IntKind.u64.bits))) (wI ((wI ((wI ((wU (wI (a+b))).fdiv (2 ^ min (1:Int).toNat IntKind.u64.bits)))+m)) - b)) a b m n0 cmp data r) (VR m a a b m n0 cmp data r)))):MG n0 data a m b cmp r:=
 DU hw<|KW 9 (KJ 15)<|KW 11 (KJ 15)<|KW 35 (KJ 13)<|KJ 11
def Rx(ij17 ij18 ij15:Int)(n0:Nat)(n:Int)(cmp:B3)(lj19 r:b4c (A0 × A0)):Prop:=J Pg 251 (.io [] 0 (.tuple []) (cellsOf D1 r) []) 14 [(8,aI ij17),(7,aI ij18),(6,aI ij15),(0,.row 0 0 14 n0 n0),(1,aI n),(2,.clo (.func cmp.fn) cmp.fi cmp.cap)] ⟨[some (cellsOf D1 lj19)],[],[]⟩
def NB(ij15:Int)(n0:Nat)(n:Int)(cmp:B3)(lj16 r:b4c (A0 × A0)):Prop:=J Pg 251 (.io [] 0 (.tuple []) (cellsOf D1 r) []) 9 [(6,aI ij15),(0,.row 0 0 14 n0 n0),(1,aI n),(2,.clo (.func cmp.fn) cmp.fi cmp.cap)] ⟨[some (cellsOf D1 lj16)],[],[]⟩
def Ud(ij9 ij10:Int)(n0:Nat)(n:Int)(cmp:B3)(lj11 r:b4c (A0 × A0)):Prop:=J Pg 251 (.io [] 0 (.tuple []) (cellsOf D1 r) []) 3 [(8,aI ij9),(7,aI ij10),(6,aI 20),(0,.row 0 0 14 n0 n0),(1,aI n),(2,.clo (.func cmp.fn) cmp.fi cmp.cap)] ⟨[some (cellsOf D1 lj11)],[],[]⟩
theorem a4r(ij17 ij18 ij15:Int)(n0:Nat)(n:Int)(cmp:B3)(lj19 r:b4c (A0 × A0))(hw:ID (ij17<=n) (∃y19,LZ n0 lj19 ij18 (wI (ij18+ij15)) ij17 cmp y19/\(lj19≠[]/\y19≠[])/\(Rx (wI (ij17+(wI (2*ij15)))) ij17 ij15 n0 n cmp y19 r)) (ID ((wI (ij18+ij15))<n) (∃y18,LZ n0 lj19 ij18 (wI (ij18+ij15)) n cmp y18/\(lj19≠[]/\y18≠[])/\(NB (wI (ij15*2)) n0 n cmp y18 r)) (NB (wI (ij15*2)) n0 n cmp lj19 r))):Rx ij17 ij18 ij15 n0 n cmp lj19 r:=
 fJ hw<|KW 9 (V5 12 B8 VK<|KJ 17)<|KW 21 (V5 6 B8 VK<|KJ 9)<|KJ 9
theorem a5r(ij15:Int)(n0:Nat)(n:Int)(cmp:B3)(lj16 r:b4c (A0 × A0))(hw:ID (ij15<n) (Rx (wI (2*ij15)) 0 ij15 n0 n cmp lj16 r) (lj16≠[]/\r=lj16)):NB ij15 n0 n cmp lj16 r:=
 fJ hw<|KW 9 (KJ 14)<|An 4 B8
theorem vj(ij9 ij10:Int)(n0:Nat)(n:Int)(cmp:B3)(lj11 r:b4c (A0 × A0))(hw:ID (ij9<=n) (∃y20,Sh n0 lj11 ij10 ij9 cmp y20/\(lj11≠[]/\y20≠[])/\(Ud (wI (ij9+20)) ij9 n0 n cmp y20 r)) (∃y11,Sh n0 lj11 ij10 n cmp y11/\(lj11≠[]/\y11≠[])/\(NB 20 n0 n cmp y11 r))):Ud ij9 ij10 n0 n cmp lj11 r:=
 fJ hw<|KW 9 (V5 9 B8 pZ<|KJ 16)<|V5 11 B8 pZ<|KJ 4
theorem rr(n0:Nat)(data:b4c (A0 × A0))(n:Int)(cmp:B3)(r:b4c (A0 × A0))(hw:Ud 20 0 n0 n cmp data r):YW n0 data n cmp r:=
 DU hw<|KJ 15
theorem rh(v:A0)(r:E5)(hw:∃y1,LT v.Kind y1/\(IF y1 (r=(E5.Fy v)) (IF (v.Kind==11) (r=(E5.Da v.B4)) (IF (v.Kind==12) (r=(E5.DZ v.Pairs)) (IF (v.Kind==10) (r=(E5.DX (⟨v.Slots,v.C1⟩:Ec))) (r=E5.nil)))))):Qf v r:=
 fP hw<|KC 12<|KW 3 (KR 10)<|KW 8 (KR 11)<|KW 8 (KR 11)<|KW 8 (KR 14)<|KR 9
theorem rE(a b:A0)(r:Int)(hw:IF (a.Kind !=b.Kind) (∃y1,Fi a.Kind b.Kind y1/\(r=y1)) (∃y2,LT a.Kind y2/\(IF (!y2) (r=0) (∃y3,bD a.Kind y3/\(IF y3 (∃y4,VG a.Text b.Text y4/\(r=y4)) (IF ((a.Kind==2)||(a.Kind==3)) (∃y5,Fi (wI a.Bits) (wI b.Bits) y5/\(r=y5)) (IF (a.Kind==6) (∃y6,Vw a.Bits y6/\(∃y7,Vw b.Bits y7/\(∃y8,Pd y6 y7 y8/\(r=y8)))) (∃y9,Pd a.Bits b.Bits y9/\(r=y9))))))))):ZM a b r:=
 fP hw<|KW 19 (KC 6<|KR 6)<|KC 4<|KW 4 (KR 8)<|KC 4<|KW 3 (KC 6<|KR 6)<|KT 6 4<|KW 3 (KC 8<|KR 6)<|KW 8 (KD 1 [0,1]<|KC 2<|KC 3<|KC 0<|KR 6)<|KC 9<|KR 4
def VL(ij1:Int)(s1_ s2_:b4c A0)(cmp:B3)(r:Int):Prop:=JP Pg 254 (js r) 3 [(13,aI ij1),(12,aI (s1_.length:Int)),(11,.sl (List.map H3 s1_) .no),(0,.sl (List.map H3 s1_) .no),(1,.sl (List.map H3 s2_) .no),(2,.clo (.func cmp.fn) cmp.fi cmp.cap)]
theorem sP(ij1:Int)(s1_ s2_:b4c A0)(cmp:B3)(r:Int)(hw:ID (ij1<(s1_.length:Int)) (IX s1_ ij1 λy4=>ID ((s2_.length:Int)<=ij1) (r=1) (IX s2_ ij1 λy5=>∃y6,N8 Pg [] (.clo (.func cmp.fn) cmp.fi cmp.cap) [.agg (C4 y4),.agg (C4 y5)] (aI y6)/\(IF (y6 !=0) (r=y6) (VL (wI (ij1+1)) s1_ s2_ cmp r)))) (ID ((s1_.length:Int)<(s2_.length:Int)) (r=(-1)) (r=0))):VL ij1 s1_ s2_ cmp r:=
 fJ hw<|KW 7 (KI 7 I4<|KL 11 I4 s2_<|KW 3 (KR 12)<|KI 6 I4<|KF 10<|KW 9 (KR 12)<|E1 8 [])<|KL 9 I4 s1_<|KL 1 I4 s2_<|KW 3 (KR 7)<|KR 8
theorem yL(s1_ s2_:b4c A0)(cmp:B3)(r:Int)(hw:VL 0 s1_ s2_ cmp r):fq s1_ s2_ cmp r:=
 fP hw<|KL 9 I4 s1_<|KJ 5
def SV(ij1:Int)(s1_ s2_:b4c (A0 × A0))(cmp:B3)(r:Int):Prop:=JP Pg 255 (pd r) 3 [(13,aI ij1),(12,aI (s1_.length:Int)),(11,.sl (List.map D1 s1_) .no),(0,.sl (List.map D1 s1_) .no),(1,.sl (List.map D1 s2_) .no),(2,.clo (.func cmp.fn) cmp.fi cmp.cap)]
theorem a2f(ij1:Int)(s1_ s2_:b4c (A0 × A0))(cmp:B3)(r:Int)(hw:ID (ij1<(s1_.length:Int)) (IX s1_ ij1 λy4=>ID ((s2_.length:Int)<=ij1) (r=1) (IX s2_ ij1 λy5=>∃y6,N8 Pg [] (.clo (.func cmp.fn) cmp.fi cmp.cap) [.agg (L4 y4),.agg (L4 y5)] (aI y6)/\(IF (y6 !=0) (r=y6) (SV (wI (ij1+1)) s1_ s2_ cmp r)))) (ID ((s1_.length:Int)<(s2_.length:Int)) (r=(-1)) (r=0))):SV ij1 s1_ s2_ cmp r:=
 fJ hw<|KW 7 (KI 7 B8<|KL 11 B8 s2_<|KW 3 (KR 12)<|KI 6 B8<|KF 10<|KW 9 (KR 12)<|E1 8 [])<|KL 9 B8 s1_<|KL 1 B8 s2_<|KW 3 (KR 7)<|KR 8
theorem b11(s1_ s2_:b4c (A0 × A0))(cmp:B3)(r:Int)(hw:SV 0 s1_ s2_ cmp r):eh s1_ s2_ cmp r:=
 fP hw<|KL 9 B8 s1_<|KJ 5
theorem yz(a b:A0 × A0)(r:Int)(hw:∃y1,JH a.1 b.1 y1/\(∃y2,JH a.2 b.2 y2/\(∃y3,Lr ([y1,y2]:(b4c Int)) y3/\(r=y3)))):uS a b r:=
 fP hw<|KD 8 [0,1]<|KC 4<|KC 5<|KC 1<|KR 4
def Vv(ij1:Int)(vals:b4c Int)(r:Int):Prop:=JP Pg 257 (mj r) 4 [(8,aI ij1),(7,aI (vals.length:Int)),(6,.sl (List.map W0 vals) .no),(3,aI 0)]
theorem aG(ij1:Int)(vals:b4c Int)(r:Int)(hw:ID (ij1<(vals.length:Int)) (IX vals ij1 λy2=>IF (y2 !=0) (r=y2) (Vv (wI (ij1+1)) vals r)) (r=0)):Vv ij1 vals r:=
 fJ hw<|KW 7 (KI 6 TC<|KW 11 (KR 12)<|KJ 8)<|KR 12
theorem vK(vals:b4c Int)(r:Int)(hw:Vv 0 vals r):Lr vals r:=
 fP hw<|KL 14 TC vals<|KJ 5
def TA(ij1:Int)(s1_ s2_:b4c (Int × A0))(cmp:B3)(r:Int):Prop:=JP Pg 258 (ou r) 3 [(13,aI ij1),(12,aI (s1_.length:Int)),(11,.sl (List.map D2 s1_) .no),(0,.sl (List.map D2 s1_) .no),(1,.sl (List.map D2 s2_) .no),(2,.clo (.func cmp.fn) cmp.fi cmp.cap)]
theorem vf(ij1:Int)(s1_ s2_:b4c (Int × A0))(cmp:B3)(r:Int)(hw:ID (ij1<(s1_.length:Int)) (IX s1_ ij1 λy4=>ID ((s2_.length:Int)<=ij1) (r=1) (IX s2_ ij1 λy5=>∃y6,N8 Pg [] (.clo (.func cmp.fn) cmp.fi cmp.cap) [.agg (M4 y4),.agg (M4 y5)] (aI y6)/\(IF (y6 !=0) (r=y6) (TA (wI (ij1+1)) s1_ s2_ cmp r)))) (ID ((s1_.length:Int)<(s2_.length:Int)) (r=(-1)) (r=0))):TA ij1 s1_ s2_ cmp r:=
 fJ hw<|KW 7 (KI 7 C6<|KL 11 C6 s2_<|KW 3 (KR 12)<|KI 6 C6<|KF 10<|KW 9 (KR 12)<|E1 8 [])<|KL 9 C6 s1_<|KL 1 C6 s2_<|KW 3 (KR 7)<|KR 8
theorem o6(s1_ s2_:b4c (Int × A0))(cmp:B3)(r:Int)(hw:TA 0 s1_ s2_ cmp r):pm s1_ s2_ cmp r:=
 fP hw<|KL 9 C6 s1_<|KJ 5
theorem a67(a b:Int × A0)(r:Int)(hw:∃y1,Fi a.1 b.1 y1/\(∃y2,JH a.2 b.2 y2/\(∃y3,Lr ([y1,y2]:(b4c Int)) y3/\(r=y3)))):vc a b r:=
 fP hw<|KD 8 [0,1]<|KC 4<|KC 5<|KC 1<|KR 4
def TF(ij1:Int)(s1_ s2_:b4c D8)(cmp:B3)(r:Int):Prop:=JP Pg 260 (eY r) 3 [(13,aI ij1),(12,aI (s1_.length:Int)),(11,.sl (List.map G6 s1_) .no),(0,.sl (List.map G6 s1_) .no),(1,.sl (List.map G6 s2_) .no),(2,.clo (.func cmp.fn) cmp.fi cmp.cap)]
theorem ur(ij1:Int)(s1_ s2_:b4c D8)(cmp:B3)(r:Int)(hw:ID (ij1<(s1_.length:Int)) (IX s1_ ij1 λy4=>ID ((s2_.length:Int)<=ij1) (r=1) (IX s2_ ij1 λy5=>∃y6,N8 Pg [] (.clo (.func cmp.fn) cmp.fi cmp.cap) [.agg (G6 y4),.agg (G6 y5)] (aI y6)/\(IF (y6 !=0) (r=y6) (TF (wI (ij1+1)) s1_ s2_ cmp r)))) (ID ((s1_.length:Int)<(s2_.length:Int)) (r=(-1)) (r=0))):TF ij1 s1_ s2_ cmp r:=
 fJ hw<|KW 7 (KI 7 N9<|KL 11 N9 s2_<|KW 3 (KR 12)<|KI 6 N9<|KF 10<|KW 9 (KR 12)<|E1 8 [])<|KL 9 N9 s1_<|KL 1 N9 s2_<|KW 3 (KR 7)<|KR 8
theorem a3c(s1_ s2_:b4c D8)(cmp:B3)(r:Int)(hw:TF 0 s1_ s2_ cmp r):fF s1_ s2_ cmp r:=
 fP hw<|KL 9 N9 s1_<|KJ 5
theorem o7(a b:D8)(r:Int)(hw:∃y1,Fi a.Num b.Num y1/\(∃y2,Fi a.J0 b.J0 y2/\(∃y3,Pd a.Bits b.Bits y3/\(∃y4,VG a.Data b.Data y4/\(∃y5,Lr ([y1,y2,y3,y4]:(b4c Int)) y5/\(r=y5)))))):lz a b r:=
 fP hw<|KD 8 [0,1]<|KC 4<|KC 4<|KC 4<|KC 5<|KC 1<|KR 4
theorem u6(p:A5)(kind target:Int)(v:A0)(r:Int)(hw:JN (λbz1:b4e=>IF bz1 (r=12) (ID (4096<(v.Text.size:Int)) (r=3) (JN (λbz2:b4e=>IF bz2 (r=7) (∃y3,MD kind v y3/\(IF (!y3) (r=12) (IF (kind==9) (∃y4,VP p target v.Bits y4/\(IF (!y4) (r=16) (r=0))) (r=0))))) λR2=>IF (kind==7) (∃y2,My v.Text y2/\(R2 (!y2))) (R2 false)))) λR1=>IF (v.Kind !=kind) (R1 true) (∃y1,MS v y1/\(R1 y1))):TL p kind target v r:=
 fP hw<|KQ 16 3 kB (KW 3 (KR 8)<|KW 9 (KR 8)<|KQ 5 5 kB (KW 3 (KR 8)<|KC 4<|KW 4 (KR 8)<|KW 5 (KC 4<|KW 5 (KR 8)<|KR 9)<|KR 20) (λkey=>KC 2<|KE 2 key) λkey=>KE 5 key) (λkey=>KE 3 key) λkey=>KC 1<|KE 1 key
theorem a2z(a b:A0)(r:b4e)(hw:∃y1,Cz a b y1/\(r=(y1==0))):bh a b r:=
 fP hw<|KC 11<|KR 5
theorem b0d(a b r:Int)(hw:ID (a<b) (r=(-1)) (ID (b<a) (r=1) (r=0))):DQ a b r:=
 fP hw<|KW 13 (KR 7)<|KW 10 (KR 7)<|KR 8
def YD(ij1:Int)(a b:b4c A0)(r:Int):Prop:=JP Pg 266 (mT r) 3 [(5,aI ij1),(0,.sl (List.map H3 a) .no),(1,.sl (List.map H3 b) .no)]
theorem a9g(ij1:Int)(a b:b4c A0)(r:Int)(hw:IF ((decide (ij1<(a.length:Int)))&&(decide (ij1<(b.length:Int)))) (IX a ij1 λy6=>IX b ij1 λy7=>∃y8,Cz y6 y7 y8/\(IF (y8 !=0) (r=y8) (YD (wI (ij1+1)) a b r))) (∃y5,DQ (a.length:Int) (b.length:Int) y5/\(r=y5))):YD ij1 a b r:=
 fJ hw<|KL 6 I4 a<|J6 2 5 (decide (ij1<(a.length:Int))) (λz=>aB (z&&(decide (ij1<(b.length:Int))))) (λkey=>KL 2 I4 b<|E3 2 key) (λkey=>E3 5 key)<|KW 2 (KD 5 []<|KI 2 I4<|KI 3 I4<|KC 2<|KW 9 (KR 12)<|KJ 9)<|KL 8 I4 a<|KL 1 I4 b<|KC 0<|KR 4
theorem xc(a b:b4c A0)(r:Int)(hw:YD 0 a b r):mH a b r:=
 fP hw<|KJ 13
def bx(ij1:Int)(a b:b4c (A0 × A0))(r:Int):Prop:=JP Pg 267 (gK r) 3 [(5,aI ij1),(0,.sl (List.map D1 a) .no),(1,.sl (List.map D1 b) .no)]
theorem a7y(ij1:Int)(a b:b4c (A0 × A0))(r:Int)(hw:IF ((decide (ij1<(a.length:Int)))&&(decide (ij1<(b.length:Int)))) (IX a ij1 λy9=>IX b ij1 λy10=>∃y11,Cz y9.1 y10.1 y11/\(IF (y11 !=0) (r=y11) (IX a ij1 λy12=>IX b ij1 λy13=>∃y14,Cz y12.2 y13.2 y14/\(IF (y14 !=0) (r=y14) (bx (wI (ij1+1)) a b r))))) (∃y8,DQ (a.length:Int) (b.length:Int) y8/\(r=y8))):bx ij1 a b r:=
 fJ hw<|KL 6 B8 a<|J6 2 5 (decide (ij1<(a.length:Int))) (λz=>aB (z&&(decide (ij1<(b.length:Int))))) (λkey=>KL 2 B8 b<|E3 2 key) (λkey=>E3 5 key)<|KW 2 (KD 6 []<|KI 2 B8<|KI 4 B8<|KC 3<|KW 9 (KR 13)<|KD 3 []<|KI 2 B8<|KI 4 B8<|KC 3<|KW 9 (KR 12)<|KJ 9)<|KL 8 B8 a<|KL 1 B8 b<|KC 0<|KR 4
theorem a1i(a b:b4c (A0 × A0))(r:Int)(hw:bx 0 a b r):gL a b r:=
 fP hw<|KJ 13
def cR(ij1:Int)(a b:b4c (Int × A0))(r:Int):Prop:=JP Pg 268 (iZ r) 3 [(5,aI ij1),(0,.sl (List.map D2 a) .no),(1,.sl (List.map D2 b) .no)]
theorem zG(ij1:Int)(a b:b4c (Int × A0))(r:Int)(hw:IF ((decide (ij1<(a.length:Int)))&&(decide (ij1<(b.length:Int)))) (IX a ij1 λy9=>IX b ij1 λy10=>∃y11,DQ y9.1 y10.1 y11/\(IF (y11 !=0) (r=y11) (IX a ij1 λy12=>IX b ij1 λy13=>∃y14,Cz y12.2 y13.2 y14/\(IF (y14 !=0) (r=y14) (cR (wI (ij1+1)) a b r))))) (∃y8,DQ (a.length:Int) (b.length:Int) y8/\(r=y8))):cR ij1 a b r:=
 fJ hw<|KL 6 C6 a<|J6 2 5 (decide (ij1<(a.length:Int))) (λz=>aB (z&&(decide (ij1<(b.length:Int))))) (λkey=>KL 2 C6 b<|E3 2 key) (λkey=>E3 5 key)<|KW 2 (KD 6 []<|KI 2 C6<|KI 4 C6<|KC 3<|KW 9 (KR 13)<|KD 3 []<|KI 2 C6<|KI 4 C6<|KC 3<|KW 9 (KR 12)<|KJ 9)<|KL 8 C6 a<|KL 1 C6 b<|KC 0<|KR 4
theorem vS(a b:b4c (Int × A0))(r:Int)(hw:cR 0 a b r):kw a b r:=
 fP hw<|KJ 13
def YZ(ij1:Int)(a b:b4c D8)(r:Int):Prop:=JP Pg 269 (iF r) 3 [(5,aI ij1),(0,.sl (List.map G6 a) .no),(1,.sl (List.map G6 b) .no)]
theorem a27(ij1:Int)(a b:b4c D8)(r:Int)(hw:IF ((decide (ij1<(a.length:Int)))&&(decide (ij1<(b.length:Int)))) (IX a ij1 λy6=>IX b ij1 λy7=>∃y8,YM y6 y7 y8/\(IF (y8 !=0) (r=y8) (YZ (wI (ij1+1)) a b r))) (∃y5,DQ (a.length:Int) (b.length:Int) y5/\(r=y5))):YZ ij1 a b r:=
 fJ hw<|KL 6 N9 a<|J6 2 5 (decide (ij1<(a.length:Int))) (λz=>aB (z&&(decide (ij1<(b.length:Int))))) (λkey=>KL 2 N9 b<|E3 2 key) (λkey=>E3 5 key)<|KW 2 (KD 5 []<|KI 2 N9<|KI 3 N9<|KC 2<|KW 9 (KR 12)<|KJ 9)<|KL 8 N9 a<|KL 1 N9 b<|KC 0<|KR 4
theorem b19(a b:b4c D8)(r:Int)(hw:YZ 0 a b r):gD a b r:=
 fP hw<|KJ 13
theorem zY(a b:A0)(r:Int)(hw:ID (a.Kind<b.Kind) (r=(-1)) (ID (b.Kind<a.Kind) (r=1) (∃y1,Uo a.Kind y1/\(IF (!y1) (r=0) (∃y2,LK a.Kind y2/\(IF (y2&&(Op.bytesLess a.Text.toList b.Text.toList)) (r=(-1)) (∃y3,LK a.Kind y3/\(IF (y3&&(!(Op.bytesLess a.Text.toList b.Text.toList||a.Text.toList==b.Text.toList))) (r=1) (∃y4,LK a.Kind y4/\(IF y4 (r=0) (∃y5,LN a y5/\(∃y6,LN b y6/\(ID (y5<y6) (r=(-1)) (∃y7,LN a y7/\(∃y8,LN b y8/\(ID (y8<y7) (r=1) (r=0))))))))))))))))):ZD a b r:=
 fP hw<|KW 19 (KR 8)<|KW 10 (KR 8)<|KC 4<|KW 4 (KR 8)<|KC 4<|KT 1 6<|KW 3 (KR 8)<|KC 4<|KT 1 6<|KW 3 (KR 8)<|KC 4<|KW 3 (KR 8)<|KD 1 [0,1]<|KC 1<|KC 2<|KW 4 (KR 8)<|KD 1 [0,1]<|KC 1<|KC 2<|KW 4 (KR 8)<|KR 9
theorem a71(x:M6)(kind enum:Int)(v:A0)(r:Int)(hw:JN (λbz1:b4e=>IF bz1 (r=12) (ID (4096<(v.Text.size:Int)) (r=3) (JN (λbz2:b4e=>IF bz2 (r=7) (∃y3,NF kind v y3/\(IF (!y3) (r=12) (IF (kind==9) (∃y4,Si x.p enum v.Bits y4/\(IF (!y4) (r=16) (r=0))) (r=0))))) λR2=>IF (kind==7) (∃y2,UQ v.Text y2/\(R2 (!y2))) (R2 false)))) λR1=>IF (v.Kind !=kind) (R1 true) (∃y1,Lg v y1/\(R1 y1))):VZ x kind enum v r:=
 fP hw<|KQ 16 3 kB (KW 3 (KR 8)<|KW 9 (KR 8)<|KQ 5 5 kB (KW 3 (KR 8)<|KC 4<|KW 4 (KR 8)<|KW 5 (KC 5<|KW 5 (KR 8)<|KR 9)<|KR 21) (λkey=>KC 2<|KE 2 key) λkey=>KE 5 key) (λkey=>KE 3 key) λkey=>KC 1<|KE 1 key
theorem si(s:b4c (A0 × A0))(f:B3)(r:b4e)(hw:∃y1,kG s f y1/\(r=(decide (0<=y1)))):Yc s f r:=
 fP hw<|KC 9<|KR 5
def PH(ij3 ij1:Int)(n0:Nat)(m:Int)(cmp:B3)(lj2 r:b4c (Int × A0)):Prop:=J Pg 283 (.io [] 0 (.tuple []) (cellsOf D2 r) []) 3 [(11,aI ij3),(10,aI ij1),(0,.row 0 0 8 n0 n0),(2,aI m),(4,.clo (.func cmp.fn) cmp.fi cmp.cap)] ⟨[some (cellsOf D2 lj2)],[],[]⟩
theorem a45(ij3 ij1:Int)(n0:Nat)(m:Int)(cmp:B3)(lj2 r:b4c (Int × A0))(hw:IF (ij1 !=ij3) (ID (ij3<ij1) (∃y5,ND n0 lj2 (wI (m - ij1)) m ij3 cmp y5/\(lj2≠[]/\y5≠[])/\(PH ij3 (wI (ij1 - ij3)) n0 m cmp y5 r)) (∃y6,ND n0 lj2 (wI (m - ij1)) (wI ((wI (m+ij3)) - ij1)) ij1 cmp y6/\(lj2≠[]/\y6≠[])/\(PH (wI (ij3 - ij1)) ij1 n0 m cmp y6 r))) (∃y4,ND n0 lj2 (wI (m - ij1)) m ij1 cmp y4/\(lj2≠[]/\y4≠[])/\(y4≠[]/\r=y4))):PH ij3 ij1 n0 m cmp lj2 r:=
 fJ hw<|KW 9 (KW 10 (V5 9 C6 cq<|KJ 10)<|V5 13 C6 cq<|KJ 10)<|V5 13 C6 cq<|An 1 C6
theorem a5x(n0:Nat)(data:b4c (Int × A0))(a m b:Int)(cmp:B3)(r:b4c (Int × A0))(hw:PH (wI (b - m)) (wI (m - a)) n0 m cmp data r):Wp n0 data a m b cmp r:=
 DU hw<|KJ 19
def Vg(ij5 ij3:Int)(n0:Nat)(a b:Int)(cmp:B3)(lj6 r:b4c (A0 × A0)):Prop:=J Pg 284 (.io [] 0 (.tuple []) (cellsOf D1 r) []) 6 [(9,aI ij5),(8,aI ij3),(0,.row 0 0 14 n0 n0),(1,aI a),(2,aI b),(3,.clo (.func cmp.fn) cmp.fi cmp.cap)] ⟨[some (cellsOf D1 lj6)],[],[]⟩
def RY(ij3:Int)(n0:Nat)(a b:Int)(cmp:B3)(lj4 r:b4c (A0 × A0)):Prop:=J Pg 284 (.io [] 0 (.tuple []) (cellsOf D1 r) []) 1 [(8,aI ij3),(0,.row 0 0 14 n0 n0),(1,aI a),(2,aI b),(3,.clo (.func cmp.fn) cmp.fi cmp.cap)] ⟨[some (cellsOf D1 lj4)],[],[]⟩
theorem v6(ij5 ij3:Int)(n0:Nat)(a b:Int)(cmp:B3)(lj6 r:b4c (A0 × A0))(hw:JN (λbz4:b4e=>IF bz4 ((0<=(wI (ij5 - 1))/\(wI (ij5 - 1))<(n0:Int))/\(∃y19,lj6[(wI (ij5 - 1)).toNat]? =some y19/\((0<=ij5/\ij5<(n0:Int))/\(∃y20,lj6[ij5.toNat]? =some y20/\((0<=ij5/\ij5<(n0:Int))/\(ij5.toNat<lj6.length/\((0<=(wI (ij5 - 1))/\(wI (ij5 - 1))<(n0:Int))/\((wI (ij5 - 1)).toNat<(lj6.set ij5.toNat y19).length/\(Vg (wI (ij5 - 1)) ij3 n0 a b cmp ((lj6.set ij5.toNat y19).set (wI (ij5 - 1)).toNat y20) r))))))))) (RY (wI (ij3+1)) n0 a b cmp lj6 r)) λR4=>ID (a<ij5) ((0<=ij5/\ij5<(n0:Int))/\(∃y16,lj6[ij5.toNat]? =some y16/\((0<=(wI (ij5 - 1))/\(wI (ij5 - 1))<(n0:Int))/\(∃y17,lj6[(wI (ij5 - 1)).toNat]? =some y17/\(∃y18,N8 Pg [] (.clo (.func cmp.fn) cmp.fi cmp.cap) [.agg (L4 y16),.agg (L4 y17)] (aI y18)/\(R4 (decide (y18<0)))))))) (R4 false)):Vg ij5 ij3 n0 a b cmp lj6 r:=
 fJ hw<|KD 3 [0]<|KQ 4 14 kB (KW 2 (It 4 [0]<|H2 8 14<|M9 0 B8 λ{y19}=>H2 2 14<|M9 0 B8 λ{y20}=>H2 0 14<|BA 0 B8 y19<|H2 0 14<|BA 0 B8 y20<|KJ 9)<|KJ 12) (λkey=>H2 3 14<|M9 0 B8<|H2 3 14<|M9 0 B8<|KF 1<|KE 2 key) λkey=>KE 14 key
theorem a25(ij3:Int)(n0:Nat)(a b:Int)(cmp:B3)(lj4 r:b4c (A0 × A0))(hw:ID (ij3<b) (Vg ij3 ij3 n0 a b cmp lj4 r) (lj4≠[]/\r=lj4)):RY ij3 n0 a b cmp lj4 r:=
 fJ hw<|KW 9 (KJ 12)<|An 4 B8
theorem te(n0:Nat)(data:b4c (A0 × A0))(a b:Int)(cmp:B3)(r:b4c (A0 × A0))(hw:RY (wI (a+1)) n0 a b cmp data r):Sh n0 data a b cmp r:=
 DU hw<|KJ 9
end
section
attribute [local irreducible] Ok run put N0 br jn pos Fo Eu So
attribute [-simp] List.map_take List.map_drop List.map_append List.map_set List.map_replicate List.map_cons List.map_map
attribute [local simp] plain B7 X3 Q5 I0 low D4 H7 Q4 S8 S7 P8 P6 Q9 S4 R0 S6 P9 S0 S5 U5 P5 T6 T1 U1 T5 U8 T0 V1 T9 U7 T8 V0 V3 W3 W5 X1 X6 Y7 Y5 Z9 AS AO Ae Ak Au Ar BP BO Bj Bd Bw Bu CY Cg Cw DP DH Df Ef Em EN EU Ei W0 BI EX EY CB BL K8 Ev IY Ge Gm He IV Ia IZ IK Gy Hi GM GC Hj Ib IS Hb HC Gd GV Hs Ic Hg Gj GT HB HU Hr Hx HT Gz GL Ie GY HZ Gl IU GN IG Ht Gk Gn Gv HH HJ Ga Hp GU IW Ij GS IJ IA IR Gg Hu Hn GP Gw GW IM HQ HG Gt Gc Gr Hq IP HI Gq If IE GO Hy Hc Hd GK GX HS Hm GH GR HL Jf
def Sx(ij5 ij3:Int)(n0:Nat)(lj6 r:b4c (A0 × A0)):Prop:=J Pg 285 (.io [] 0 (.tuple []) (cellsOf D1 r) []) 12 [(13,aI ij5),(10,aI ij3),(0,.row 0 0 14 n0 n0)] ⟨[some (cellsOf D1 lj6)],[],[]⟩
def Oo(ij4 ij3:Int)(n0:Nat)(a:Int)(cmp:B3)(data r:b4c (A0 × A0)):Prop:=J Pg 285 (.io [] 0 (.tuple []) (cellsOf D1 r) []) 5 [(11,aI ij4),(10,aI ij3),(0,.row 0 0 14 n0 n0),(1,aI a),(4,.clo (.func cmp.fn) cmp.fi cmp.cap)] ⟨[some (cellsOf D1 data)],[],[]⟩
def TW(ij11 ij9:Int)(n0:Nat)(lj12 r:b4c (A0 × A0)):Prop:=J Pg 285 (.io [] 0 (.tuple []) (cellsOf D1 r) []) 28 [(17,aI ij11),(14,aI ij9),(0,.row 0 0 14 n0 n0)] ⟨[some (cellsOf D1 lj12)],[],[]⟩
def Mz(ij10 ij9:Int)(n0:Nat)(m:Int)(cmp:B3)(data r:b4c (A0 × A0)):Prop:=J Pg 285 (.io [] 0 (.tuple []) (cellsOf D1 r) []) 21 [(15,aI ij10),(14,aI ij9),(0,.row 0 0 14 n0 n0),(2,aI m),(4,.clo (.func cmp.fn) cmp.fi cmp.cap)] ⟨[some (cellsOf D1 data)],[],[]⟩
def Uw(a b m ij26:Int)(n0:Nat)(cmp:B3)(lj30 r:b4c (A0 × A0)):Prop:=J Pg 285 (.io [] 0 (.tuple []) (cellsOf D1 r) []) 49 [(24,aI (wI ((wI ((wI ((wU (wI (a+b))).fdiv (2 ^ min (1:Int).toNat IntKind.u64.bits)))+m)) - ij26))),(18,aI (wI ((wU (wI (a+b))).fdiv (2 ^ min (1:Int).toNat IntKind.u64.bits)))),(0,.row 0 0 14 n0 n0),(3,aI b),(4,.clo (.func cmp.fn) cmp.fi cmp.cap)] ⟨[some (cellsOf D1 lj30)],[],[]⟩
def Sy(a b m ij26:Int)(n0:Nat)(cmp:B3)(lj29 r:b4c (A0 × A0)):Prop:=J Pg 285 (.io [] 0 (.tuple []) (cellsOf D1 r) []) 47 [(24,aI (wI ((wI ((wI ((wU (wI (a+b))).fdiv (2 ^ min (1:Int).toNat IntKind.u64.bits)))+m)) - ij26))),(20,aI ij26),(18,aI (wI ((wU (wI (a+b))).fdiv (2 ^ min (1:Int).toNat IntKind.u64.bits)))),(0,.row 0 0 14 n0 n0),(1,aI a),(3,aI b),(4,.clo (.func cmp.fn) cmp.fi cmp.cap)] ⟨[some (cellsOf D1 lj29)],[],[]⟩
def PR(a b m ij27 ij26:Int)(n0:Nat)(cmp:B3)(data r:b4c (A0 × A0)):Prop:=J Pg 285 (.io [] 0 (.tuple []) (cellsOf D1 r) []) 41 [(22,aI (wI ((wI ((wI ((wU (wI (a+b))).fdiv (2 ^ min (1:Int).toNat IntKind.u64.bits)))+m)) - 1))),(21,aI ij27),(20,aI ij26),(19,aI (wI ((wI ((wU (wI (a+b))).fdiv (2 ^ min (1:Int).toNat IntKind.u64.bits)))+m))),(18,aI (wI ((wU (wI (a+b))).fdiv (2 ^ min (1:Int).toNat IntKind.u64.bits)))),(0,.row 0 0 14 n0 n0),(1,aI a),(2,aI m),(3,aI b),(4,.clo (.func cmp.fn) cmp.fi cmp.cap)] ⟨[some (cellsOf D1 data)],[],[]⟩
def Qb(ij21 ij22 a b m:Int)(n0:Nat)(cmp:B3)(data r:b4c (A0 × A0)):Prop:=J Pg 285 (.io [] 0 (.tuple []) (cellsOf D1 r) []) 35 [(21,aI ij21),(20,aI ij22),(19,aI (wI ((wI ((wU (wI (a+b))).fdiv (2 ^ min (1:Int).toNat IntKind.u64.bits)))+m))),(18,aI (wI ((wU (wI (a+b))).fdiv (2 ^ min (1:Int).toNat IntKind.u64.bits)))),(0,.row 0 0 14 n0 n0),(1,aI a),(2,aI m),(3,aI b),(4,.clo (.func cmp.fn) cmp.fi cmp.cap)] ⟨[some (cellsOf D1 data)],[],[]⟩
theorem rq(ij5 ij3:Int)(n0:Nat)(lj6 r:b4c (A0 × A0))(hw:ID (ij5<(wI (ij3 - 1))) ((0<=(wI (ij5+1))/\(wI (ij5+1))<(n0:Int))/\(∃y10,lj6[(wI (ij5+1)).toNat]? =some y10/\((0<=ij5/\ij5<(n0:Int))/\(∃y11,lj6[ij5.toNat]? =some y11/\((0<=ij5/\ij5<(n0:Int))/\(ij5.toNat<lj6.length/\((0<=(wI (ij5+1))/\(wI (ij5+1))<(n0:Int))/\((wI (ij5+1)).toNat<(lj6.set ij5.toNat y10).length/\(Sx (wI (ij5+1)) ij3 n0 ((lj6.set ij5.toNat y10).set (wI (ij5+1)).toNat y11) r))))))))) (lj6≠[]/\r=lj6)):Sx ij5 ij3 n0 lj6 r:=
 fJ hw<|KW 10 (It 4 [0]<|H2 8 14<|M9 0 B8 λ{y10}=>H2 2 14<|M9 0 B8 λ{y11}=>H2 0 14<|BA 0 B8 y10<|H2 0 14<|BA 0 B8 y11<|KJ 9)<|An 7 B8
theorem a59(ij4 ij3:Int)(n0:Nat)(a:Int)(cmp:B3)(data r:b4c (A0 × A0))(hw:ID (ij3<ij4) ((0<=(wI ((wU (wI (ij3+ij4))).fdiv (2 ^ min (1:Int).toNat IntKind.u64.bits)))/\(wI ((wU (wI (ij3+ij4))).fdiv (2 ^ min (1:Int).toNat IntKind.u64.bits)))<(n0:Int))/\(∃y12,data[(wI ((wU (wI (ij3+ij4))).fdiv (2 ^ min (1:Int).toNat IntKind.u64.bits))).toNat]? =some y12/\((0<=a/\a<(n0:Int))/\(∃y13,data[a.toNat]? =some y13/\(∃y14,N8 Pg [] (.clo (.func cmp.fn) cmp.fi cmp.cap) [.agg (L4 y12),.agg (L4 y13)] (aI y14)/\(ID (y14<0) (Oo ij4 (wI ((wI ((wU (wI (ij3+ij4))).fdiv (2 ^ min (1:Int).toNat IntKind.u64.bits)))+1)) n0 a cmp data r) (Oo (wI ((wU (wI (ij3+ij4))).fdiv (2 ^ min (1:Int).toNat IntKind.u64.bits))) ij3 n0 a cmp data r))))))) (Sx a ij3 n0 data r)):Oo ij4 ij3 n0 a cmp data r:=
 fJ hw<|KW 9 (KD 15 [0]<|H2 3 14<|M9 0 B8<|H2 2 14<|M9 0 B8<|KF 1<|KW 3 (KJ 7)<|KJ 6)<|KJ 14
theorem a7n(ij11 ij9:Int)(n0:Nat)(lj12 r:b4c (A0 × A0))(hw:ID (ij9<ij11) ((0<=(wI (ij11 - 1))/\(wI (ij11 - 1))<(n0:Int))/\(∃y24,lj12[(wI (ij11 - 1)).toNat]? =some y24/\((0<=ij11/\ij11<(n0:Int))/\(∃y25,lj12[ij11.toNat]? =some y25/\((0<=ij11/\ij11<(n0:Int))/\(ij11.toNat<lj12.length/\((0<=(wI (ij11 - 1))/\(wI (ij11 - 1))<(n0:Int))/\((wI (ij11 - 1)).toNat<(lj12.set ij11.toNat y24).length/\(TW (wI (ij11 - 1)) ij9 n0 ((lj12.set ij11.toNat y24).set (wI (ij11 - 1)).toNat y25) r))))))))) (lj12≠[]/\r=lj12)):TW ij11 ij9 n0 lj12 r:=
 fJ hw<|KW 9 (It 4 [0]<|H2 8 14<|M9 0 B8 λ{y24}=>H2 2 14<|M9 0 B8 λ{y25}=>H2 0 14<|BA 0 B8 y24<|H2 0 14<|BA 0 B8 y25<|KJ 9)<|An 7 B8
theorem a2a(ij10 ij9:Int)(n0:Nat)(m:Int)(cmp:B3)(data r:b4c (A0 × A0))(hw:ID (ij9<ij10) ((0<=m/\m<(n0:Int))/\(∃y26,data[m.toNat]? =some y26/\((0<=(wI ((wU (wI (ij9+ij10))).fdiv (2 ^ min (1:Int).toNat IntKind.u64.bits)))/\(wI ((wU (wI (ij9+ij10))).fdiv (2 ^ min (1:Int).toNat IntKind.u64.bits)))<(n0:Int))/\(∃y27,data[(wI ((wU (wI (ij9+ij10))).fdiv (2 ^ min (1:Int).toNat IntKind.u64.bits))).toNat]? =some y27/\(∃y28,N8 Pg [] (.clo (.func cmp.fn) cmp.fi cmp.cap) [.agg (L4 y26),.agg (L4 y27)] (aI y28)/\(IF (!(decide (y28<0))) (Mz ij10 (wI ((wI ((wU (wI (ij9+ij10))).fdiv (2 ^ min (1:Int).toNat IntKind.u64.bits)))+1)) n0 m cmp data r) (Mz (wI ((wU (wI (ij9+ij10))).fdiv (2 ^ min (1:Int).toNat IntKind.u64.bits))) ij9 n0 m cmp data r))))))) (TW m ij9 n0 data r)):Mz ij10 ij9 n0 m cmp data r:=
 fJ hw<|KW 9 (KD 15 [0]<|H2 3 14<|M9 0 B8<|H2 2 14<|M9 0 B8<|KF 1<|KW 4 (KJ 7)<|KJ 6)<|KJ 14
theorem a8l(a b m ij26:Int)(n0:Nat)(cmp:B3)(lj30 r:b4c (A0 × A0))(hw:IF ((decide ((wI ((wU (wI (a+b))).fdiv (2 ^ min (1:Int).toNat IntKind.u64.bits)))<(wI ((wI ((wI ((wU (wI (a+b))).fdiv (2 ^ min (1:Int).toNat IntKind.u64.bits)))+m)) - ij26))))&&(decide ((wI ((wI ((wI ((wU (wI (a+b))).fdiv (2 ^ min (1:Int).toNat IntKind.u64.bits)))+m)) - ij26))<b))) (∃y65,LZ n0 lj30 (wI ((wU (wI (a+b))).fdiv (2 ^ min (1:Int).toNat IntKind.u64.bits))) (wI ((wI ((wI ((wU (wI (a+b))).fdiv (2 ^ min (1:Int).toNat IntKind.u64.bits)))+m)) - ij26)) b cmp y65/\(lj30≠[]/\y65≠[])/\(y65≠[]/\r=y65)) (lj30≠[]/\r=lj30)):Uw a b m ij26 n0 cmp lj30 r:=
 fJ hw<|KT 6 4<|KW 2 (V5 6 B8 VK<|An 1 B8)<|An 1 B8
theorem vz(a b m ij26:Int)(n0:Nat)(cmp:B3)(lj29 r:b4c (A0 × A0))(hw:IF ((decide (a<ij26))&&(decide (ij26<(wI ((wU (wI (a+b))).fdiv (2 ^ min (1:Int).toNat IntKind.u64.bits)))))) (∃y63,LZ n0 lj29 a ij26 (wI ((wU (wI (a+b))).fdiv (2 ^ min (1:Int).toNat IntKind.u64.bits))) cmp y63/\(lj29≠[]/\y63≠[])/\(Uw a b m ij26 n0 cmp y63 r)) (Uw a b m ij26 n0 cmp lj29 r)):Sy a b m ij26 n0 cmp lj29 r:=
 fJ hw<|KT 7 4<|KW 2 (V5 6 B8 VK<|KJ 2)<|KJ 2
theorem a3y(a b m ij27 ij26:Int)(n0:Nat)(cmp:B3)(data r:b4c (A0 × A0))(hw:ID (ij26<ij27) ((0<=(wI ((wI ((wI ((wI ((wU (wI (a+b))).fdiv (2 ^ min (1:Int).toNat IntKind.u64.bits)))+m)) - 1)) - (wI ((wU (wI (ij26+ij27))).fdiv (2 ^ min (1:Int).toNat IntKind.u64.bits)))))/\(wI ((wI ((wI ((wI ((wU (wI (a+b))).fdiv (2 ^ min (1:Int).toNat IntKind.u64.bits)))+m)) - 1)) - (wI ((wU (wI (ij26+ij27))).fdiv (2 ^ min (1:Int).toNat IntKind.u64.bits)))))<(n0:Int))/\(∃y66,data[(wI ((wI ((wI ((wI ((wU (wI (a+b))).fdiv (2 ^ min (1:Int).toNat IntKind.u64.bits)))+m)) - 1)) - (wI ((wU (wI (ij26+ij27))).fdiv (2 ^ min (1:Int).toNat IntKind.u64.bits))))).toNat]? =some y66/\((0<=(wI ((wU (wI (ij26+ij27))).fdiv (2 ^ min (1:Int).toNat IntKind.u64.bits)))/\(wI ((wU (wI (ij26+ij27))).fdiv (2 ^ min (1:Int).toNat IntKind.u64.bits)))<(n0:Int))/\(∃y67,data[(wI ((wU (wI (ij26+ij27))).fdiv (2 ^ min (1:Int).toNat IntKind.u64.bits))).toNat]? =some y67/\(∃y68,N8 Pg [] (.clo (.func cmp.fn) cmp.fi cmp.cap) [.agg (L4 y66),.agg (L4 y67)] (aI y68)/\(IF (!(decide (y68<0))) (PR a b m ij27 (wI ((wI ((wU (wI (ij26+ij27))).fdiv (2 ^ min (1:Int).toNat IntKind.u64.bits)))+1)) n0 cmp data r) (PR a b m (wI ((wU (wI (ij26+ij27))).fdiv (2 ^ min (1:Int).toNat IntKind.u64.bits))) ij26 n0 cmp data r))))))) (IF ((decide (ij26<m))&&(decide (m<(wI ((wI ((wI ((wU (wI (a+b))).fdiv (2 ^ min (1:Int).toNat IntKind.u64.bits)))+m)) - ij26))))) (∃y59,bd n0 data ij26 m (wI ((wI ((wI ((wU (wI (a+b))).fdiv (2 ^ min (1:Int).toNat IntKind.u64.bits)))+m)) - ij26)) cmp y59/\(data≠[]/\y59≠[])/\(Sy a b m ij26 n0 cmp y59 r)) (Sy a b m ij26 n0 cmp data r))):PR a b m ij27 ij26 n0 cmp data r:=
 fJ hw<|KW 9 (KD 15 [0]<|H2 5 14<|M9 0 B8<|H2 2 14<|M9 0 B8<|KF 1<|KW 4 (KJ 7)<|KJ 6)<|KT 20 4<|KW 2 (V5 6 B8 a4q<|KJ 2)<|KJ 2
theorem a7c(ij21 ij22 a b m:Int)(n0:Nat)(cmp:B3)(data r:b4c (A0 × A0))(hw:PR a b m ij21 ij22 n0 cmp data r):Qb ij21 ij22 a b m n0 cmp data r:=
 fJ hw<|KJ 10
theorem yV(n0:Nat)(data:b4c (A0 × A0))(a m b:Int)(cmp:B3)(r:b4c (A0 × A0))(hw:IF ((wI (m - a))==1) (Oo b m n0 a cmp data r) (IF ((wI (b - m))==1) (Mz m a n0 m cmp data r) (ID ((wI ((wU (wI (a+b))).fdiv (2 ^ min (1:Int).toNat IntKind.u64.bits)))<m) (Qb (wI ((wU (wI (a+b))).fdiv (2 ^ min (1:Int).toNat IntKind.u64.bits))) (wI ((wI ((wI ((wU (wI (a+b))).fdiv (2 ^ min (1:Int).toNat IntKind.u64.bits)))+m)) - b)) a b m n0 cmp data r) (Qb m a a b m n0 cmp data r)))):LZ n0 data a m b cmp r:=
 DU hw<|KW 9 (KJ 15)<|KW 11 (KJ 15)<|KW 35 (KJ 13)<|KJ 11
theorem tq(x y:b4b)(r:Int)(hw:∃y1,cJ x y1/\(∃y2,cJ y y2/\(IF y1 (IF y2 (r=0) (r=(-1))) (IF y2 (r=1) (IF (Op.bytesLess x.toList y.toList) (r=(-1)) (IF (!(Op.bytesLess x.toList y.toList||x.toList==y.toList)) (r=1) (r=0))))))):VG x y r:=
 fP hw<|KC 8<|KC 6<|KW 9 (KW 6 (KR 8)<|KR 9)<|KW 8 (KR 7)<|KW 10 (KR 7)<|KW 10 (KR 7)<|KR 8
theorem sR(x y r:Int)(hw:∃y1,dO x y1/\(∃y2,dO y y2/\(IF y1 (IF y2 (r=0) (r=(-1))) (IF y2 (r=1) (ID (x<y) (r=(-1)) (ID (y<x) (r=1) (r=0))))))):Pd x y r:=
 fP hw<|KC 8<|KC 6<|KW 9 (KW 6 (KR 8)<|KR 9)<|KW 8 (KR 7)<|KW 10 (KR 7)<|KW 10 (KR 7)<|KR 8
theorem a0c(bits r:Int)(hw:∃y1,Ou bits y1/\(IF (y1==0) (r=18446744073709551615) (IF ((G5 .and .u64 bits 9223372036854775808) !=0) (r=(G5 .xor .u64 (IntKind.u64.max) bits)) (r=(G5 .or .u64 bits 9223372036854775808))))):Vw bits r:=
 fP hw<|KC 10<|KW 4 (KR 8)<|KW 8 (KR 10)<|KR 11
theorem a4g(a b:D8)(r:Int)(hw:IF (a.Num !=b.Num) (∃y1,DQ a.Num b.Num y1/\(r=y1)) (IF (a.J0 !=b.J0) (∃y2,DQ a.J0 b.J0 y2/\(r=y2)) (ID (a.Bits<b.Bits) (r=(-1)) (ID (b.Bits<a.Bits) (r=1) (IF (Op.bytesLess a.Data.toList b.Data.toList) (r=(-1)) (IF (!(Op.bytesLess a.Data.toList b.Data.toList||a.Data.toList==b.Data.toList)) (r=1) (r=0))))))):YM a b r:=
 fP hw<|KW 19 (KC 6<|KR 6)<|KW 10 (KC 6<|KR 6)<|KW 10 (KR 8)<|KW 10 (KR 8)<|KW 10 (KR 8)<|KW 10 (KR 8)<|KR 9
theorem vF(v:A0)(r:Int)(hw:∃y1,kM v.Kind y1/\(IF y1 (r=(wU (v.Bits+9223372036854775808))) (IF (v.Kind !=6) (r=v.Bits) (∃y2,NR v.Bits y2/\(IF (y2==0) (r=18446744073709551615) (ID (9223372036854775808<=v.Bits) (r=(wU (18446744073709551615 - v.Bits))) (r=(wU (v.Bits+9223372036854775808))))))))):LN v r:=
 fP hw<|KC 12<|KW 3 (KR 11)<|KW 8 (KR 10)<|KC 4<|KW 4 (KR 8)<|KW 8 (KR 11)<|KR 12
def Vz(ij1:Int)(s:b4c (A0 × A0))(f:B3)(r:Int):Prop:=JP Pg 292 (nE r) 3 [(8,aI ij1),(7,aI (s.length:Int)),(0,.sl (List.map D1 s) .no),(1,.clo (.func f.fn) f.fi f.cap)]
theorem tt(ij1:Int)(s:b4c (A0 × A0))(f:B3)(r:Int)(hw:ID (ij1<(s.length:Int)) (IX s ij1 λy3=>∃y4,N8 Pg [] (.clo (.func f.fn) f.fi f.cap) [.agg (L4 y3)] (aB y4)/\(IF y4 (r=ij1) (Vz (wI (ij1+1)) s f r))) (r=(-1))):Vz ij1 s f r:=
 fJ hw<|KW 7 (KI 15 B8<|KF 1<|KW 2 (KR 12)<|KJ 8)<|KR 11
theorem se(s:b4c (A0 × A0))(f:B3)(r:Int)(hw:Vz 0 s f r):kG s f r:=
 fP hw<|KL 9 B8 s<|KJ 5
def Qe(ij1:Int)(n0:Nat)(a b n:Int)(lj2 r:b4c (Int × A0)):Prop:=J Pg 293 (.io [] 0 (.tuple []) (cellsOf D2 r) []) 1 [(10,aI ij1),(0,.row 0 0 8 n0 n0),(1,aI a),(2,aI b),(3,aI n)] ⟨[some (cellsOf D2 lj2)],[],[]⟩
theorem a0g(ij1:Int)(n0:Nat)(a b n:Int)(lj2 r:b4c (Int × A0))(hw:ID (ij1<n) ((0<=(wI (b+ij1))/\(wI (b+ij1))<(n0:Int))/\(∃y3,lj2[(wI (b+ij1)).toNat]? =some y3/\((0<=(wI (a+ij1))/\(wI (a+ij1))<(n0:Int))/\(∃y4,lj2[(wI (a+ij1)).toNat]? =some y4/\((0<=(wI (a+ij1))/\(wI (a+ij1))<(n0:Int))/\((wI (a+ij1)).toNat<lj2.length/\((0<=(wI (b+ij1))/\(wI (b+ij1))<(n0:Int))/\((wI (b+ij1)).toNat<(lj2.set (wI (a+ij1)).toNat y3).length/\(Qe (wI (ij1+1)) n0 a b n ((lj2.set (wI (a+ij1)).toNat y3).set (wI (b+ij1)).toNat y4) r))))))))) (lj2≠[]/\r=lj2)):Qe ij1 n0 a b n lj2 r:=
 fJ hw<|KW 9 (It 4 [0]<|H2 12 8<|M9 0 C6 λ{y3}=>H2 4 8<|M9 0 C6 λ{y4}=>H2 0 8<|BA 0 C6 y3<|H2 0 8<|BA 0 C6 y4<|KJ 9)<|An 4 C6
theorem a2j(n0:Nat)(data:b4c (Int × A0))(a b n:Int)(cmp:B3)(r:b4c (Int × A0))(hw:Qe 0 n0 a b n data r):ND n0 data a b n cmp r:=
 DU hw<|KJ 7
def Om(ij3 ij1:Int)(n0:Nat)(m:Int)(cmp:B3)(lj2 r:b4c (A0 × A0)):Prop:=J Pg 294 (.io [] 0 (.tuple []) (cellsOf D1 r) []) 3 [(11,aI ij3),(10,aI ij1),(0,.row 0 0 14 n0 n0),(2,aI m),(4,.clo (.func cmp.fn) cmp.fi cmp.cap)] ⟨[some (cellsOf D1 lj2)],[],[]⟩
theorem a7z(ij3 ij1:Int)(n0:Nat)(m:Int)(cmp:B3)(lj2 r:b4c (A0 × A0))(hw:IF (ij1 !=ij3) (ID (ij3<ij1) (∃y5,QA n0 lj2 (wI (m - ij1)) m ij3 cmp y5/\(lj2≠[]/\y5≠[])/\(Om ij3 (wI (ij1 - ij3)) n0 m cmp y5 r)) (∃y6,QA n0 lj2 (wI (m - ij1)) (wI ((wI (m+ij3)) - ij1)) ij1 cmp y6/\(lj2≠[]/\y6≠[])/\(Om (wI (ij3 - ij1)) ij1 n0 m cmp y6 r))) (∃y4,QA n0 lj2 (wI (m - ij1)) m ij1 cmp y4/\(lj2≠[]/\y4≠[])/\(y4≠[]/\r=y4))):Om ij3 ij1 n0 m cmp lj2 r:=
 fJ hw<|KW 9 (KW 10 (V5 9 B8 dB<|KJ 10)<|V5 13 B8 dB<|KJ 10)<|V5 13 B8 dB<|An 1 B8
theorem rB(n0:Nat)(data:b4c (A0 × A0))(a m b:Int)(cmp:B3)(r:b4c (A0 × A0))(hw:Om (wI (b - m)) (wI (m - a)) n0 m cmp data r):bd n0 data a m b cmp r:=
 DU hw<|KJ 19
theorem mG(x:b4b)(r:b4e)(hw:r=(!(decide (x=x)))):cJ x r:=
 fP hw<|KR 14
theorem jW(x:Int)(r:b4e)(hw:r=(x !=x)):dO x r:=
 fP hw<|KR 14
def Ub(ij1:Int)(n0:Nat)(a b n:Int)(lj2 r:b4c (A0 × A0)):Prop:=J Pg 297 (.io [] 0 (.tuple []) (cellsOf D1 r) []) 1 [(10,aI ij1),(0,.row 0 0 14 n0 n0),(1,aI a),(2,aI b),(3,aI n)] ⟨[some (cellsOf D1 lj2)],[],[]⟩
theorem a7r(ij1:Int)(n0:Nat)(a b n:Int)(lj2 r:b4c (A0 × A0))(hw:ID (ij1<n) ((0<=(wI (b+ij1))/\(wI (b+ij1))<(n0:Int))/\(∃y3,lj2[(wI (b+ij1)).toNat]? =some y3/\((0<=(wI (a+ij1))/\(wI (a+ij1))<(n0:Int))/\(∃y4,lj2[(wI (a+ij1)).toNat]? =some y4/\((0<=(wI (a+ij1))/\(wI (a+ij1))<(n0:Int))/\((wI (a+ij1)).toNat<lj2.length/\((0<=(wI (b+ij1))/\(wI (b+ij1))<(n0:Int))/\((wI (b+ij1)).toNat<(lj2.set (wI (a+ij1)).toNat y3).length/\(Ub (wI (ij1+1)) n0 a b n ((lj2.set (wI (a+ij1)).toNat y3).set (wI (b+ij1)).toNat y4) r))))))))) (lj2≠[]/\r=lj2)):Ub ij1 n0 a b n lj2 r:=
 fJ hw<|KW 9 (It 4 [0]<|H2 12 14<|M9 0 B8 λ{y3}=>H2 4 14<|M9 0 B8 λ{y4}=>H2 0 14<|BA 0 B8 y3<|H2 0 14<|BA 0 B8 y4<|KJ 9)<|An 4 B8
theorem a72(n0:Nat)(data:b4c (A0 × A0))(a b n:Int)(cmp:B3)(r:b4c (A0 × A0))(hw:Ub 0 n0 a b n data r):QA n0 data a b n cmp r:=
 DU hw<|KJ 7
theorem sM(it:O5)(c1_:Int)(r:b4e)(hw:r=((wU it.Num)==c1_)):lX it c1_ r:=
 fP hw<|KR 17
theorem wt(it:O5)(c1_:Int)(r:b4e)(h:lX it c1_ r):N8 Pg [] (.clo (.func 87) [] [.D3 (CB c1_) 0]) [.agg (V7 it)] (aB r):=⟨87,[],[.D3 (CB c1_) 0],rfl,(show B7 [.agg (V7 it),.D3 (CB c1_) 0]=true by simp),h⟩
theorem a1e(g:C2)(c1_:b4b)(r:b4e)(hw:r=(decide (g.Name=c1_))):gq g c1_ r:=
 fP hw<|KR 16
theorem a4x(g:C2)(c1_:b4b)(r:b4e)(h:gq g c1_ r):N8 Pg [] (.clo (.func 115) [] [.D3 (K8 c1_) 0]) [.agg (H6 g)] (aB r):=⟨115,[],[.D3 (K8 c1_) 0],rfl,(show B7 [.agg (H6 g),.D3 (K8 c1_) 0]=true by simp),h⟩
theorem sG(y:Int × A0)(c1_:B0)(r:b4e)(hw:r=(y.1==c1_.Num)):kX y c1_ r:=
 fP hw<|KR 17
theorem tJ(y:Int × A0)(c1_:B0)(r:b4e)(h:kX y c1_ r):N8 Pg [] (.clo (.func 166) [] [.D3 (E7 c1_) 0]) [.agg (M4 y)] (aB r):=⟨166,[],[.D3 (E7 c1_) 0],rfl,(show B7 [.agg (M4 y),.D3 (E7 c1_) 0]=true by simp),h⟩
theorem a0h(o_:B0)(c1_:Int)(r:b4e)(hw:r=(o_.Num==c1_)):oK o_ c1_ r:=
 fP hw<|KR 16
theorem tS(o_:B0)(c1_:Int)(r:b4e)(h:oK o_ c1_ r):N8 Pg [] (.clo (.func 169) [] [.D3 (W0 c1_) 0]) [.agg (E7 o_)] (aB r):=⟨169,[],[.D3 (W0 c1_) 0],rfl,(show B7 [.agg (E7 o_),.D3 (W0 c1_) 0]=true by simp),h⟩
theorem a3e(y:Int × A0)(c1_:B0)(r:b4e)(hw:r=(y.1==c1_.Num)):mQ y c1_ r:=
 fP hw<|KR 17
theorem uU(y:Int × A0)(c1_:B0)(r:b4e)(h:mQ y c1_ r):N8 Pg [] (.clo (.func 211) [] [.D3 (E7 c1_) 0]) [.agg (M4 y)] (aB r):=⟨211,[],[.D3 (E7 c1_) 0],rfl,(show B7 [.agg (M4 y),.D3 (E7 c1_) 0]=true by simp),h⟩
theorem a65(q c1_:A0 × A0)(r:b4e)(hw:∃y1,On q.1 c1_.1 y1/\(r=y1)):ee q c1_ r:=
 fP hw<|KC 12<|KR 4
theorem b2p(q c1_:A0 × A0)(r:b4e)(h:ee q c1_ r):N8 Pg [] (.clo (.func 282) [] [.D3 (L4 c1_) 0]) [.agg (L4 q)] (aB r):=⟨282,[],[.D3 (L4 c1_) 0],rfl,(show B7 [.agg (L4 q),.D3 (L4 c1_) 0]=true by simp),h⟩
end
theorem a0o(a b:Nat)(ha:a<18446744073709551616)(hb:b<18446744073709551616):G5 .or .u64 (a:Int) (b:Int)=((a|||b:Nat):Int):=by
 have h:=Nat.or_lt_two_pow (n:=64) (x:=a) (y:=b) (by simpa using ha) (by simpa using hb);have e1:((a:Int) % (2 ^ 64:Nat)).toNat=a:=by omega
 have e2:((b:Int) % (2 ^ 64:Nat)).toNat=b:=by omega
 have e3:G5 .or .u64 (a:Int) (b:Int)=IntKind.u64.wrap (((BitVec.ofInt 64 (a:Int)|||BitVec.ofInt 64 (b:Int)).toNat:Nat):Int):=rfl;rw[e3,BitVec.toNat_or,BitVec.toNat_ofInt,BitVec.toNat_ofInt,e1,e2];simp only[IntKind.wrap,IntKind.signed,IntKind.bits,Bool.false_and,Bool.false_eq_true,if_false];omega
theorem gr(u x k:Nat)(hu:u<2 ^ k):u|||x*2 ^ k=u+x*2 ^ k:=by
 have:=Nat.two_pow_add_eq_or_of_lt (i:=k) (b:=u) hu x;rw[Nat.or_comm,Nat.add_comm,Nat.mul_comm];exact this.symm
theorem C0{n:Int}(h: -9223372036854775808<=n/\n<=9223372036854775807):IntKind.i64.wrap n=n:=by simp[IntKind.wrap,IntKind.signed,IntKind.bits];omega
def D7(s:b4b)(i:Nat):Nat:=(E2 s i).toNat
theorem Lt(s:b4b)(i:Nat):E2 s i=(D7 s i:Int)/\D7 s i<256:=by
 have h:0<=E2 s i/\E2 s i<256:=by
  unfold E2;have:=(s.data.toList.getD i 0).toNat_lt;omega
 unfold D7;omega
theorem DO{n:Int}(h:0<=n/\n<=18446744073709551615):IntKind.u64.wrap n=n:=by simp[IntKind.wrap,IntKind.signed,IntKind.bits];omega
theorem Nb(s:b4b){l u i:Nat}(h:l+i<u):D7 (s.extract l u) i=D7 s (l+i):=by
 unfold D7 E2;rw[RF];simp only[List.getD_eq_getElem?_getD,List.getElem?_drop,List.getElem?_take,if_pos h]
theorem IT(s:b4b){l u:Nat}(h:u<=s.size):(s.extract l u).size=u - l:=by
 rw[ByteArray.size_extract];omega
theorem a1q(a:Nat):a&&&9218868437227405312=a % 9223372036854775808 / 4503599627370496*4503599627370496:=by
 apply Nat.eq_of_testBit_eq;intro i;have e:(9223372036854775808:Nat)=2 ^ 63:=by decide
 have e2:(4503599627370496:Nat)=2 ^ 52:=by decide
 have e3:(9218868437227405312:Nat)=(2^11 - 1)*2 ^ 52:=by decide
 rw[e3,e,e2,Nat.testBit_and,Nat.testBit_mul_two_pow,Nat.testBit_mul_two_pow,Nat.testBit_two_pow_sub_one,Nat.testBit_div_two_pow,Nat.testBit_mod_two_pow]
 by_cases h2:52<=i
 ·rw[show i - 52+52=i by omega]
  by_cases h3:i<63
  ·have:i - 52<11:=by omega
   simp[h2,h3,this]
  ·have:¬i - 52<11:=by omega
   simp[h3,this]
 ·simp[h2]
theorem bg(a b:Nat)(ha:a<18446744073709551616)(hb:b<18446744073709551616):G5 .and .u64 (a:Int) (b:Int)=((a&&&b:Nat):Int):=by
 have h:a&&&b<=a:=Nat.and_le_left;have e1:((a:Int) % (2 ^ 64:Nat)).toNat=a:=by omega
 have e2:((b:Int) % (2 ^ 64:Nat)).toNat=b:=by omega
 have e3:G5 .and .u64 (a:Int) (b:Int)=IntKind.u64.wrap (((BitVec.ofInt 64 (a:Int)&&&BitVec.ofInt 64 (b:Int)).toNat:Nat):Int):=rfl;rw[e3,BitVec.toNat_and,BitVec.toNat_ofInt,BitVec.toNat_ofInt,e1,e2];simp only[IntKind.wrap,IntKind.signed,IntKind.bits,Bool.false_and,Bool.false_eq_true,if_false];omega
def Ai(z:Nat):Nat:=if 9218868437227405312<z % 9223372036854775808 then 0 else if z % 9223372036854775808=9218868437227405312 then 1 else if z % 9223372036854775808=0 then 2 else if z % 9223372036854775808<4503599627370496 then 3 else 4
theorem wS(a:Nat)(h:a<18446744073709551616):G5 .xor .u64 (a:Int) 18446744073709551615=((18446744073709551615 - a:Nat):Int):=by
 have e3:G5 .xor .u64 (a:Int) 18446744073709551615=IntKind.u64.wrap (((BitVec.ofInt 64 (a:Int) ^^^ BitVec.allOnes 64).toNat:Nat):Int):=rfl;have e1:((a:Int) % (2 ^ 64:Nat)).toNat=a:=by omega
 rw[e3,BitVec.xor_allOnes,BitVec.toNat_not,BitVec.toNat_ofInt,e1,DO (by omega)]
def tk(x:Nat × Nat × Nat):Int × Int × Int:=(x.1,x.2.1,x.2.2)
def QG(l:b4c Int):b4b:=⟨(l.map λn=>UInt8.ofNat n.toNat).toArray⟩
def iW(l:b4c Int):Prop:=∀x∈l,0<=x/\x<256
theorem xl{l:b4c Int}(h:iW l):l=bI (QG l):=by
 simp only[bI,QG,List.map_map];symm
 conv=>rhs;rw[<-List.map_id l]
 refine List.map_congr_left λx hx=>?_
 have:=h x hx;simp only[Function.comp,id];rw[UInt8.toNat_ofNat_of_lt' (show x.toNat<UInt8.size by simp[UInt8.size];omega)];omega
theorem a7i(l:b4c Int):(QG l).size=l.length:=by simp[QG,ByteArray.size]
theorem o9{n:Int}(h: -9223372036854775808<=n/\n<0):wU n=n+18446744073709551616:=by simp[wU,IntKind.wrap,IntKind.signed,IntKind.bits];omega
theorem a5y(a:Nat):a&&&4503599627370495=a % 4503599627370496:=Nat.and_two_pow_sub_one_eq_mod a 52
theorem Yy(z:Nat)(hz:z<18446744073709551616):Ou z (Ai z):=by
 have e1:G5 .and .u64 (z:Int) 9218868437227405312=((z % 9223372036854775808 / 4503599627370496*4503599627370496:Nat):Int):=by
  have:=bg z 9218868437227405312 hz (by omega);rw[a1q]at this;exact this
 have e2:G5 .and .u64 (z:Int) 4503599627370495=((z % 4503599627370496:Nat):Int):=by
  have:=bg z 4503599627370495 hz (by omega);rw[a5y]at this;exact this
 refine a93 _ _ ?_;rw[e1,e2];simp only[ID,IF,b3x,Bool.and_eq_false_iff,beq_iff_eq,beq_eq_false_iff_ne,bne_iff_ne,bne_eq_false_iff_eq];unfold Ai;refine⟨λh=>?_,λh=>⟨λh2=>?_,λh2=>⟨λh3=>?_,λh3=>⟨λh4=>?_,λh4=>?_⟩⟩⟩⟩
 all_goals (repeat' split)<;>first|rfl|(exfalso;omega)
theorem cO(z:Nat)(hz:z<18446744073709551616):NR z (Ai z):=by
 have e:(z:Int).tmod 9223372036854775808=((z % 9223372036854775808:Nat):Int):=rfl;refine p5 _ _ ?_;rw[e];simp only[ID,IF,b3v,b3w,beq_iff_eq,beq_eq_false_iff_ne];unfold Ai;refine⟨λh=>?_,λh=>⟨λh2=>?_,λh2=>⟨λh3=>?_,λh3=>⟨λh4=>?_,λh4=>?_⟩⟩⟩⟩
 all_goals (repeat' split)<;>first|rfl|(exfalso;omega)
def Ag(v:A0):A0:=if v.Kind=6/\Ai v.Bits.toNat=0 then⟨v.Kind,9221120237041090560,v.Text,v.B4,v.Pairs,v.Slots,v.C1⟩ else v
theorem fN(v:A0)(hb:0<=v.Bits/\v.Bits<18446744073709551616):Qy v (Ag v):=by
 have hz:v.Bits=(v.Bits.toNat:Int):=by omega
 have hc:=Yy v.Bits.toNat (by omega);rw[<-hz]at hc;refine b2c _ _ ⟨λh=>⟨_,hc,λh2=>?_,λh2=>?_⟩,λh=>?_⟩
 all_goals simp only[beq_iff_eq,beq_eq_false_iff_ne]at*
 ·rw[Ag,if_pos ⟨h,by omega⟩]
 ·rw[Ag,if_neg (by omega)]
 ·rw[Ag,if_neg (by omega)]
theorem qO(v:A0)(hb:0<=v.Bits/\v.Bits<18446744073709551616):Sq v (Ag v):=by
 have hz:v.Bits=(v.Bits.toNat:Int):=by omega
 have hc:=cO v.Bits.toNat (by omega);rw[<-hz]at hc;refine a1v _ _ ⟨λh=>⟨_,hc,λh2=>?_,λh2=>?_⟩,λh=>?_⟩
 all_goals simp only[beq_iff_eq,beq_eq_false_iff_ne]at*
 ·rw[Ag,if_pos ⟨h,by omega⟩]
 ·rw[Ag,if_neg (by omega)]
 ·rw[Ag,if_neg (by omega)]
def K3(n b0 b1 b2 b3:Nat):Nat:=
 if b0<128 then 1
 else if(194<=b0/\b0<=223)/\(1<n/\128<=b1/\b1<=191) then 2
 else if b0=224/\(1<n/\160<=b1/\b1<=191)/\(2<n/\128<=b2/\b2<=191) then 3
 else if b0=237/\(1<n/\128<=b1/\b1<=159)/\(2<n/\128<=b2/\b2<=191) then 3
 else if(225<=b0/\b0<=239/\b0≠237)/\(1<n/\128<=b1/\b1<=191)/\(2<n/\128<=b2/\b2<=191) then 3
 else if b0=240/\(1<n/\144<=b1/\b1<=191)/\(2<n/\128<=b2/\b2<=191)/\(3<n/\128<=b3/\b3<=191) then 4
 else if(241<=b0/\b0<=243)/\(1<n/\128<=b1/\b1<=191)/\(2<n/\128<=b2/\b2<=191)/\(3<n/\128<=b3/\b3<=191) then 4
 else if b0=244/\(1<n/\128<=b1/\b1<=143)/\(2<n/\128<=b2/\b2<=191)/\(3<n/\128<=b3/\b3<=191) then 4
 else 0
theorem b0u(n b0 b1 b2 b3:Nat)(hn:1<=n):K3 n b0 b1 b2 b3<=n:=by
 unfold K3
 repeat' split
 all_goals omega
def Fp(n b0 b1 b2:Nat)(x:Nat × Nat):Nat:=if x.1=65533/\¬(2<n/\b0=239/\b1=191/\b2=189) then 0 else x.2
theorem GD{n b0 b1 b2 k:Nat}(h:¬(2<n/\b0=239/\b1=191/\b2=189)):Fp n b0 b1 b2 (65533,k)=0:=by unfold Fp;rw[if_pos ⟨rfl,h⟩]
theorem Hh{n b0 b1 b2 c k:Nat}(h:c≠65533\/(2<n/\b0=239/\b1=191/\b2=189)):Fp n b0 b1 b2 (c,k)=k:=by
 unfold Fp;rw[if_neg];intro ⟨h1,h2⟩;rcases h with h|h
 ·exact h h1
 ·exact h2 h
theorem b02(n b0 b1 b2 b3:Nat)(hb:194<=b0/\b0<=223)(h1:b1<256):K3 n b0 b1 b2 b3=Fp n b0 b1 b2 (Lib.decodeN n b0 b1 b2 b3):=by
 by_cases h:1<n/\128<=b1/\b1<=191
 ·have e1:K3 n b0 b1 b2 b3=2:=by unfold K3;rw[if_neg (by omega),if_pos (by omega)]
  have e2:Lib.decodeN n b0 b1 b2 b3=(b0 % 32*64+b1 % 64,2):=by unfold Lib.decodeN;rw[if_neg (by omega),if_pos (by omega),if_pos (by omega)]
  rw[e1,e2,Hh (by omega)]
 ·have e1:K3 n b0 b1 b2 b3=0:=by unfold K3;rw[if_neg (by omega),if_neg (by omega),if_neg (by omega),if_neg (by omega),if_neg (by omega),if_neg (by omega),if_neg (by omega),if_neg (by omega)]
  have e2:Lib.decodeN n b0 b1 b2 b3=(65533,1):=by unfold Lib.decodeN;rw[if_neg (by omega),if_neg (by omega),if_neg (by omega),if_neg (by omega)]
  rw[e1,e2,GD (by omega)]
theorem gG(n b0 b1 b2 b3:Nat)(hb:(128<=b0/\b0<194)\/245<=b0)(h0:b0<256):K3 n b0 b1 b2 b3=Fp n b0 b1 b2 (Lib.decodeN n b0 b1 b2 b3):=by
 have e:Lib.decodeN n b0 b1 b2 b3=(65533,1):=by
  unfold Lib.decodeN;rw[if_neg (by omega)]
  by_cases c1:b0 / 32=6/\(1<n/\b1 / 64=2)
  ·rw[if_pos c1,if_neg (by omega)]
  ·rw[if_neg c1,if_neg (by omega)]
   by_cases c2:b0 / 8=30/\(1<n/\b1 / 64=2)/\(2<n/\b2 / 64=2)/\(3<n/\b3 / 64=2)
   ·rw[if_pos c2,if_neg (by omega)]
   ·rw[if_neg c2]
 rw[e,GD (by omega)];unfold K3;rw[if_neg (by omega),if_neg (by omega),if_neg (by omega),if_neg (by omega),if_neg (by omega),if_neg (by omega),if_neg (by omega),if_neg (by omega)]
theorem q8(n b0 b1 b2 b3:Nat)(hb:224<=b0/\b0<=239)(h1:b1<256)(h2:b2<256):K3 n b0 b1 b2 b3=Fp n b0 b1 b2 (Lib.decodeN n b0 b1 b2 b3):=by
 by_cases c:(1<n/\b1 / 64=2)/\(2<n/\b2 / 64=2)
 ·by_cases d0:b0=224
  ·by_cases d1:160<=b1
   ·have e1:K3 n b0 b1 b2 b3=3:=by unfold K3;rw[if_neg (by omega),if_neg (by omega),if_pos (by omega)]
    have e2:Lib.decodeN n b0 b1 b2 b3=(b0 % 16*4096+b1 % 64*64+b2 % 64,3):=by unfold Lib.decodeN;rw[if_neg (by omega),if_neg (by omega),if_pos (by omega),if_pos (by omega)]
    rw[e1,e2,Hh (by omega)]
   ·have e1:K3 n b0 b1 b2 b3=0:=by unfold K3;rw[if_neg (by omega),if_neg (by omega),if_neg (by omega),if_neg (by omega),if_neg (by omega),if_neg (by omega),if_neg (by omega),if_neg (by omega)]
    have e2:Lib.decodeN n b0 b1 b2 b3=(65533,1):=by unfold Lib.decodeN;rw[if_neg (by omega),if_neg (by omega),if_pos (by omega),if_neg (by omega)]
    rw[e1,e2,GD (by omega)]
  ·by_cases d2:b0=237
   ·by_cases d3:b1<=159
    ·have e1:K3 n b0 b1 b2 b3=3:=by unfold K3;rw[if_neg (by omega),if_neg (by omega),if_neg (by omega),if_pos (by omega)]
     have e2:Lib.decodeN n b0 b1 b2 b3=(b0 % 16*4096+b1 % 64*64+b2 % 64,3):=by unfold Lib.decodeN;rw[if_neg (by omega),if_neg (by omega),if_pos (by omega),if_pos (by omega)]
     rw[e1,e2,Hh (by omega)]
    ·have e1:K3 n b0 b1 b2 b3=0:=by unfold K3;rw[if_neg (by omega),if_neg (by omega),if_neg (by omega),if_neg (by omega),if_neg (by omega),if_neg (by omega),if_neg (by omega),if_neg (by omega)]
     have e2:Lib.decodeN n b0 b1 b2 b3=(65533,1):=by unfold Lib.decodeN;rw[if_neg (by omega),if_neg (by omega),if_pos (by omega),if_neg (by omega)]
     rw[e1,e2,GD (by omega)]
   ·have e1:K3 n b0 b1 b2 b3=3:=by unfold K3;rw[if_neg (by omega),if_neg (by omega),if_neg (by omega),if_neg (by omega),if_pos (by omega)]
    have e2:Lib.decodeN n b0 b1 b2 b3=(b0 % 16*4096+b1 % 64*64+b2 % 64,3):=by unfold Lib.decodeN;rw[if_neg (by omega),if_neg (by omega),if_pos (by omega),if_pos (by omega)]
    rw[e1,e2,Hh (by omega)]
 ·have e1:K3 n b0 b1 b2 b3=0:=by unfold K3;rw[if_neg (by omega),if_neg (by omega),if_neg (by omega),if_neg (by omega),if_neg (by omega),if_neg (by omega),if_neg (by omega),if_neg (by omega)]
  have e2:Lib.decodeN n b0 b1 b2 b3=(65533,1):=by unfold Lib.decodeN;rw[if_neg (by omega),if_neg (by omega),if_neg (by omega),if_neg (by omega)]
  rw[e1,e2,GD (by omega)]
theorem zW(n b0 b1 b2 b3:Nat)(hb:240<=b0/\b0<=244)(h1:b1<256)(h2:b2<256)(h3:b3<256):K3 n b0 b1 b2 b3=Fp n b0 b1 b2 (Lib.decodeN n b0 b1 b2 b3):=by
 by_cases c:(1<n/\b1 / 64=2)/\(2<n/\b2 / 64=2)/\(3<n/\b3 / 64=2)
 ·by_cases d0:b0=240
  ·by_cases d1:144<=b1
   ·have e1:K3 n b0 b1 b2 b3=4:=by unfold K3;rw[if_neg (by omega),if_neg (by omega),if_neg (by omega),if_neg (by omega),if_neg (by omega),if_pos (by omega)]
    have e2:Lib.decodeN n b0 b1 b2 b3=(b0 % 8*262144+b1 % 64*4096+b2 % 64*64+b3 % 64,4):=by unfold Lib.decodeN;rw[if_neg (by omega),if_neg (by omega),if_neg (by omega),if_pos (by omega),if_pos (by omega)]
    rw[e1,e2,Hh (by omega)]
   ·have e1:K3 n b0 b1 b2 b3=0:=by unfold K3;rw[if_neg (by omega),if_neg (by omega),if_neg (by omega),if_neg (by omega),if_neg (by omega),if_neg (by omega),if_neg (by omega),if_neg (by omega)]
    have e2:Lib.decodeN n b0 b1 b2 b3=(65533,1):=by unfold Lib.decodeN;rw[if_neg (by omega),if_neg (by omega),if_neg (by omega),if_pos (by omega),if_neg (by omega)]
    rw[e1,e2,GD (by omega)]
  ·by_cases d2:b0=244
   ·by_cases d3:b1<=143
    ·have e1:K3 n b0 b1 b2 b3=4:=by unfold K3;rw[if_neg (by omega),if_neg (by omega),if_neg (by omega),if_neg (by omega),if_neg (by omega),if_neg (by omega),if_neg (by omega),if_pos (by omega)]
     have e2:Lib.decodeN n b0 b1 b2 b3=(b0 % 8*262144+b1 % 64*4096+b2 % 64*64+b3 % 64,4):=by unfold Lib.decodeN;rw[if_neg (by omega),if_neg (by omega),if_neg (by omega),if_pos (by omega),if_pos (by omega)]
     rw[e1,e2,Hh (by omega)]
    ·have e1:K3 n b0 b1 b2 b3=0:=by unfold K3;rw[if_neg (by omega),if_neg (by omega),if_neg (by omega),if_neg (by omega),if_neg (by omega),if_neg (by omega),if_neg (by omega),if_neg (by omega)]
     have e2:Lib.decodeN n b0 b1 b2 b3=(65533,1):=by unfold Lib.decodeN;rw[if_neg (by omega),if_neg (by omega),if_neg (by omega),if_pos (by omega),if_neg (by omega)]
     rw[e1,e2,GD (by omega)]
   ·have e1:K3 n b0 b1 b2 b3=4:=by unfold K3;rw[if_neg (by omega),if_neg (by omega),if_neg (by omega),if_neg (by omega),if_neg (by omega),if_neg (by omega),if_pos (by omega)]
    have e2:Lib.decodeN n b0 b1 b2 b3=(b0 % 8*262144+b1 % 64*4096+b2 % 64*64+b3 % 64,4):=by unfold Lib.decodeN;rw[if_neg (by omega),if_neg (by omega),if_neg (by omega),if_pos (by omega),if_pos (by omega)]
    rw[e1,e2,Hh (by omega)]
 ·have e1:K3 n b0 b1 b2 b3=0:=by unfold K3;rw[if_neg (by omega),if_neg (by omega),if_neg (by omega),if_neg (by omega),if_neg (by omega),if_neg (by omega),if_neg (by omega),if_neg (by omega)]
  have e2:Lib.decodeN n b0 b1 b2 b3=(65533,1):=by unfold Lib.decodeN;rw[if_neg (by omega),if_neg (by omega),if_neg (by omega),if_neg (by omega)]
  rw[e1,e2,GD (by omega)]
theorem vX(n b0 b1 b2 b3:Nat)(h0:b0<256)(h1:b1<256)(h2:b2<256)(h3:b3<256):
  K3 n b0 b1 b2 b3=if(Lib.decodeN n b0 b1 b2 b3).1=65533/\¬(2<n/\b0=239/\b1=191/\b2=189) then 0 else(Lib.decodeN n b0 b1 b2 b3).2:=by
 show _=Fp n b0 b1 b2 _
 by_cases c0:b0<128
 ·unfold K3 Lib.decodeN;rw[if_pos c0,if_pos c0,Hh (by omega)]
 by_cases c1:b0<194
 ·exact gG n b0 b1 b2 b3 (by omega) h0
 by_cases c2:b0<224
 ·exact b02 n b0 b1 b2 b3 (by omega) h1
 by_cases c3:b0<240
 ·exact q8 n b0 b1 b2 b3 (by omega) h1 h2
 by_cases c4:b0<245
 ·exact zW n b0 b1 b2 b3 (by omega) h1 h2 h3
 ·exact gG n b0 b1 b2 b3 (by omega) h0
def K4(s:b4b)(i:Nat):Nat:=K3 (s.size - i) (s.get! i).toNat (s.get! (i+1)).toNat (s.get! (i+2)).toNat (s.get! (i+3)).toNat
theorem TI(s:b4b)(i:Nat)(h:i<s.size):i+K4 s i<=s.size:=by
 have:=b0u (s.size - i) (s.get! i).toNat (s.get! (i+1)).toNat (s.get! (i+2)).toNat (s.get! (i+3)).toNat (by omega);unfold K4;omega
theorem Pr(s:b4b)(i:Nat):K4 s i=if(Utf8.decode s i).1=65533/\¬(2<s.size - i/\(s.get! i).toNat=239/\(s.get! (i+1)).toNat=191/\(s.get! (i+2)).toNat=189) then 0 else(Utf8.decode s i).2:=by
 rw[Lib.decode_at];exact vX _ _ _ _ _ (UInt8.toNat_lt _) (UInt8.toNat_lt _) (UInt8.toNat_lt _) (UInt8.toNat_lt _)
def Ek(s:b4b):Nat->Nat->Int
 |0,_=> -1
 |f+1,p=>if p<s.size then(if K4 s p=0 then p else Ek s f (p+K4 s p)) else -1
def a4h(s:b4b):Int:=Ek s s.size 0
theorem kq(s:b4b):∀(f g p:Nat),s.size - p<=f->s.size - p<=g->Ek s f p=Ek s g p
 |0,0,_,_,_=>rfl
 |0,g+1,p,h,_=>by
  simp only[Ek];rw[if_neg (by omega)]
 |f+1,0,p,_,h=>by
  simp only[Ek];rw[if_neg (by omega)]
 |f+1,g+1,p,h,h'=>by
  simp only[Ek]
  by_cases hp:p<s.size
  ·rw[if_pos hp,if_pos hp]
   by_cases h0:K4 s p=0
   ·rw[if_pos h0,if_pos h0]
   ·rw[if_neg h0,if_neg h0];exact kq s f g _ (by omega) (by omega)
  ·rw[if_neg hp,if_neg hp]
def Fe(s:b4b)(p:Nat):Int:=Ek s (s.size - p) p
theorem SY(s:b4b)(p:Nat)(h:s.size<=p):Fe s p= -1:=by
 unfold Fe;rw[show s.size - p=0 by omega];rfl
theorem gU(s:b4b)(p:Nat)(h:p<s.size)(h0:K4 s p=0):Fe s p=p:=by
 unfold Fe;rw[show s.size - p=(s.size - p - 1)+1 by omega];simp only[Ek];rw[if_pos h,if_pos h0]
theorem nX(s:b4b)(p:Nat)(h:p<s.size)(h0:K4 s p≠0):Fe s p=Fe s (p+K4 s p):=by
 unfold Fe;rw[show s.size - p=(s.size - p - 1)+1 by omega];simp only[Ek];rw[if_pos h,if_neg h0];exact kq s _ _ _ (by omega) (by omega)
def Fh(s:b4b):b4e:=decide (a4h s<0)
theorem EV(s:b4b)(i:Nat):D7 s i=(s.get! i).toNat:=by
 unfold D7 E2
 have:s.data.toList.getD i 0=s.get! i:=by
  rw[List.getD_eq_getElem?_getD];show _=s.data[i]!;rw[getElem!_def,Array.getElem?_toList];cases s.data[i]? <;>rfl
 rw[this];omega
def CJ(s:b4b)(i lo hi:Nat):b4e:=decide (i<s.size/\lo<=D7 s i/\D7 s i<=hi)
theorem fp(s:b4b)(i lo hi:Nat):Jw s i lo hi (CJ s i lo hi):=by
 have hb:=Lt s i;have hn:((i:Int)).toNat=i:=by omega
 refine wd _ _ _ _ _ ⟨λb=>b=decide (i<s.size/\lo<=D7 s i),λb hR=>⟨λh=>?_,λh=>?_⟩,λh=>?_,λh=>?_⟩
 ·rw[h]at hR;have h2:=of_decide_eq_true hR.symm;refine⟨⟨by omega,by omega⟩,?_⟩;rw[hn,hb.1];unfold CJ
  congr 1
  simp only[eq_iff_iff];omega
 ·rw[h]at hR;have h2:=of_decide_eq_false hR.symm;exact decide_eq_false (by omega)
 ·simp only[b3v]at h;refine⟨⟨by omega,h⟩,?_⟩;rw[hn,hb.1]
  congr 1
  simp only[eq_iff_iff];omega
 ·simp only[b3w]at h;exact(decide_eq_false (by omega)).symm
def AX(s:b4b)(i:Nat):Nat->b4e
 |0=>true
 |n+1=>CJ s i 128 191&&AX s (i+1) n
theorem a35(s:b4b)(hz:s.size<=140737488351232)(i:Nat)(hi:i<=140737488351300):∀m j:Nat,j<=4->j+m<=4->Re j s i ((j+m:Nat):Int) (AX s (i+j) m):=by
 intro m
 induction m with
 |zero=>
  intro j h1 h2;exact pV _ _ _ _ _ ⟨λh=>by simp at h,λ_=>rfl⟩
 |succ m ih=>
  intro j h1 h2;refine pV _ _ _ _ _ ⟨λ_=>?_,λh=>by simp at h;omega⟩;have e:wI ((i:Int)+j)=((i+j:Nat):Int):=by rw[wI,C0 (by omega)];omega
  rw[e];refine⟨_,fp s (i+j) 128 191,λh=>?_,λh=>?_⟩
  ·have:CJ s (i+j) 128 191=false:=by simpa using h
   simp[AX,this]
  ·have:CJ s (i+j) 128 191:=by simpa using h
   rw[wI,C0 (by omega)];have h3:=ih (j+1) (by omega) (by omega);rw[AX,this,Bool.true_and];have e2:i+j+1=i+(j+1):=by omega
   have e3:j+(m+1)=j+1+m:=by omega
   rw[e2,e3];exact h3
theorem ut(s:b4b)(hz:s.size<=140737488351232)(i n:Nat)(hi:i<=140737488351300)(hn:n<=4):FC s i n (AX s i n):=by
 have:=a35 s hz i hi n 0 (by omega) (by omega);simp only[Nat.zero_add,Nat.add_zero]at this;exact zu _ _ _ _ this
def WG(s:b4b)(i:Nat):Nat:=
 if D7 s i<128 then 1
 else if(decide (194<=D7 s i/\D7 s i<=223)&&AX s (i+1) 1)=true then 2
 else if(decide (D7 s i=224)&&CJ s (i+1) 160 191&&AX s (i+2) 1)=true then 3
 else if(decide (D7 s i=237)&&CJ s (i+1) 128 159&&AX s (i+2) 1)=true then 3
 else if(decide (225<=D7 s i/\D7 s i<=239/\D7 s i≠237)&&AX s (i+1) 2)=true then 3
 else if(decide (D7 s i=240)&&CJ s (i+1) 144 191&&AX s (i+2) 2)=true then 4
 else if(decide (241<=D7 s i/\D7 s i<=243)&&AX s (i+1) 3)=true then 4
 else if(decide (D7 s i=244)&&CJ s (i+1) 128 143&&AX s (i+2) 2)=true then 4
 else 0
theorem eN(s:b4b)(hz:s.size<=140737488351232)(i:Nat)(hi:i<s.size):TD s i (WG s i):=by
 have hb:=Lt s i;have hn:((i:Int)).toNat=i:=by omega
 have w1:wI ((i:Int)+1)=((i+1:Nat):Int):=by rw[wI,C0 (by omega)];omega
 have w2:wI ((i:Int)+2)=((i+2:Nat):Int):=by rw[wI,C0 (by omega)];omega
 have tl:=λk n (hk:k<=4) (hn:n<=4)=>ut s hz (i+k) n (by omega) hn
 have bt:=λk lo hi=>fp s (i+k) lo hi
 refine zy _ _ _ ?_;rw[hn,hb.1,w1,w2];unfold WG;generalize hx:D7 s i=x at*;refine⟨⟨by omega,by omega⟩,λh=>?_,λh=>?_⟩
 ·rw[if_pos (by simp only[b3v]at h;omega)];rfl
 rw[if_neg (by simp only[b3w]at h;omega)];refine⟨λb=>b=(decide (194<=x/\x<=223)&&AX s (i+1) 1),λb hR=>?_,λh=>⟨_,tl 1 1 (by omega) (by omega),?_⟩,λh=>?_⟩
 rotate_left
 ·have:(194<=x/\x<=223):=by simp only[b3x,b3v]at h;omega
  simp[this]
 ·have:¬(194<=x/\x<=223):=by simp only[Bool.and_eq_false_iff,b3w]at h;omega
  simp[this]
 subst hR;refine⟨λh=>by rw[if_pos h];rfl,λh=>?_⟩;rw[if_neg (by rw[h];decide)];refine⟨λb=>b=(decide (x=224)&&CJ s (i+1) 160 191),λb hR=>?_,λh=>⟨_,bt 1 160 191,?_⟩,λh=>?_⟩
 rotate_left
 ·have:x=224:=by simp only[beq_iff_eq]at h;omega
  simp[this]
 ·have:¬x=224:=by simp only[beq_eq_false_iff_ne]at h;omega
  simp[this]
 refine⟨λb2=>b2=(b&&AX s (i+2) 1),λb2 hR2=>?_,λh=>⟨_,tl 2 1 (by omega) (by omega),by rw[h];rfl⟩,λh=>by rw[h];rfl⟩;subst hR2;subst hR;refine⟨λh=>by rw[if_pos h];rfl,λh=>?_⟩;rw[if_neg (by rw[h];decide)];refine⟨λb=>b=(decide (x=237)&&CJ s (i+1) 128 159),λb hR=>?_,λh=>⟨_,bt 1 128 159,?_⟩,λh=>?_⟩
 rotate_left
 ·have:x=237:=by simp only[beq_iff_eq]at h;omega
  simp[this]
 ·have:¬x=237:=by simp only[beq_eq_false_iff_ne]at h;omega
  simp[this]
 refine⟨λb2=>b2=(b&&AX s (i+2) 1),λb2 hR2=>?_,λh=>⟨_,tl 2 1 (by omega) (by omega),by rw[h];rfl⟩,λh=>by rw[h];rfl⟩;subst hR2;subst hR;refine⟨λh=>by rw[if_pos h];rfl,λh=>?_⟩;rw[if_neg (by rw[h];decide)];refine⟨λb=>b=(decide (225<=x/\x<=239/\x≠237)&&AX s (i+1) 2),λb hR=>?_,λh=>⟨_,tl 1 2 (by omega) (by omega),?_⟩,λh=>?_⟩
 rotate_left
 ·have:(225<=x/\x<=239/\x≠237):=by simp only[b3x,b3v,bne_iff_ne]at h;omega
  simp[this]
 ·have:¬(225<=x/\x<=239/\x≠237):=by simp only[Bool.and_eq_false_iff,b3w,bne_eq_false_iff_eq]at h;omega
  have h3:decide (225<=x/\x<=239/\x≠237)=false:=decide_eq_false this;rw[h3];rfl
 subst hR;refine⟨λh=>by rw[if_pos h];rfl,λh=>?_⟩;rw[if_neg (by rw[h];decide)];refine⟨λb=>b=(decide (x=240)&&CJ s (i+1) 144 191),λb hR=>?_,λh=>⟨_,bt 1 144 191,?_⟩,λh=>?_⟩
 rotate_left
 ·have:x=240:=by simp only[beq_iff_eq]at h;omega
  simp[this]
 ·have:¬x=240:=by simp only[beq_eq_false_iff_ne]at h;omega
  simp[this]
 refine⟨λb2=>b2=(b&&AX s (i+2) 2),λb2 hR2=>?_,λh=>⟨_,tl 2 2 (by omega) (by omega),by rw[h];rfl⟩,λh=>by rw[h];rfl⟩;subst hR2;subst hR;refine⟨λh=>by rw[if_pos h];rfl,λh=>?_⟩;rw[if_neg (by rw[h];decide)];refine⟨λb=>b=(decide (241<=x/\x<=243)&&AX s (i+1) 3),λb hR=>?_,λh=>⟨_,tl 1 3 (by omega) (by omega),?_⟩,λh=>?_⟩
 rotate_left
 ·have:(241<=x/\x<=243):=by simp only[b3x,b3v]at h;omega
  simp[this]
 ·have:¬(241<=x/\x<=243):=by simp only[Bool.and_eq_false_iff,b3w]at h;omega
  simp[this]
 subst hR;refine⟨λh=>by rw[if_pos h];rfl,λh=>?_⟩;rw[if_neg (by rw[h];decide)];refine⟨λb=>b=(decide (x=244)&&CJ s (i+1) 128 143),λb hR=>?_,λh=>⟨_,bt 1 128 143,?_⟩,λh=>?_⟩
 rotate_left
 ·have:x=244:=by simp only[beq_iff_eq]at h;omega
  simp[this]
 ·have:¬x=244:=by simp only[beq_eq_false_iff_ne]at h;omega
  simp[this]
 refine⟨λh=>⟨_,tl 2 2 (by omega) (by omega),λh2=>?_,λh2=>?_⟩,λh=>?_⟩
 ·rw[if_pos (by rw[<-hR,h,h2];rfl)];rfl
 ·rw[if_neg (by rw[<-hR,h,h2];decide)];rfl
 ·rw[if_neg (by rw[<-hR,h];simp)];rfl
theorem dR(s:b4b)(i:Nat):WG s i=K4 s i:=by
 unfold WG K4 K3;simp only[<-EV,CJ,AX,b3x,b3v,Bool.and_true];have e1:i+1+1=i+2:=rfl;have e2:i+1+1+1=i+3:=rfl;have e3:i+2+1=i+3:=rfl;simp only[e1,e2,e3];generalize D7 s i=a;generalize D7 s (i+1)=b;generalize D7 s (i+2)=c;generalize D7 s (i+3)=d;generalize s.size=n
 by_cases h0:a<128
 ·rw[if_pos h0,if_pos h0]
 rw[if_neg h0,if_neg h0]
 have key:∀(p q:Prop) [Decidable p] [Decidable q] (x y z:Nat),(p↔q)->y=z->(if p then x else y)=(if q then x else z):=by
  intro p q _ _ x y z h1 h2;subst h2
  by_cases hp:p
  ·rw[if_pos hp,if_pos (h1.1 hp)]
  ·rw[if_neg hp,if_neg (λh=>hp (h1.2 h))]
 refine key _ _ _ _ _ (by omega) (key _ _ _ _ _ (by omega) (key _ _ _ _ _ (by omega) (key _ _ _ _ _ (by omega) (key _ _ _ _ _ (by omega) (key _ _ _ _ _ (by omega) (key _ _ _ _ _ (by omega) rfl))))))
theorem zv(s:b4b)(hz:s.size<=140737488351232):∀n p:Nat,s.size - p<=n->p<=s.size->Uc p s (Fe s p):=by
 intro n
 induction n with
 |zero=>
  intro p h1 h2;refine ig _ _ _ ⟨λh=>by simp only[b3v]at h;omega,λh=>SY s p (by omega)⟩
 |succ n ih=>
  intro p h1 h2;refine ig _ _ _ ⟨λh=>?_,λh=>?_⟩
  ·simp only[b3v]at h;have hp:p<s.size:=by omega
   have hle:=TI s p hp;refine⟨_,eN s hz p hp,λh2=>?_,λh2=>?_⟩
   ·simp only[beq_iff_eq]at h2;exact gU s p hp (by rw[<-dR];omega)
   ·simp only[beq_eq_false_iff_ne]at h2;rw[dR]at h2 ⊢;have h3:K4 s p≠0:=by omega
    rw[nX s p hp h3,wI,C0 (by omega)];exact ih _ (by omega) hle
  ·simp only[b3w]at h;exact SY s p (by omega)
theorem YB(s:b4b)(hz:s.size<=140737488351232):My s (Fh s):=
 uj _ _ ⟨_,a26 _ _ (zv s hz s.size 0 (by omega) (by omega)),rfl⟩
def FX(s:b4b)(i:Nat):b4e:=decide (2<s.size - i/\D7 s i=239/\D7 s (i+1)=191/\D7 s (i+2)=189)
theorem oC{a b:b4b}(h:a.size=b.size)(hb:∀i,i<a.size->D7 a i=D7 b i):a=b:=by
 apply ByteArray.ext;refine Array.ext h λi h1 h2=>?_
 have:=hb i h1;rw[EV,EV]at this;have e1:a.get! i=a.data[i]:=by show a.data[i]! =_;exact getElem!_pos a.data i h1
 have e2:b.get! i=b.data[i]:=by show b.data[i]! =_;exact getElem!_pos b.data i h2
 rw[e1,e2]at this;exact UInt8.toNat_inj.1 this
theorem a79(s:b4b)(i:Nat)(hi:i<=s.size)(hz:s.size<=140737488351232):FK (s.extract i s.size) ⟨#[239,191,189]⟩ (FX s i):=by
 refine oh _ _ _ ⟨_,fZ _ _ _ ⟨λh=>⟨⟨by omega,by omega,by simpa using h⟩,?_⟩,λh=>?_⟩,rfl⟩
 ·have hs:(s.extract i s.size).size=s.size - i:=IT s (Nat.le_refl _);simp only[b3v,hs]at h;have h3:(⟨#[239,191,189]⟩:b4b).size=3:=rfl;rw[h3]at h ⊢;show FX s i=decide ((s.extract i s.size).extract 0 3=_);unfold FX
  congr 1
  simp only[eq_iff_iff];have e0:=Nb (s.extract i s.size) (l:=0) (u:=3) (i:=0) (by omega);have e1:=Nb (s.extract i s.size) (l:=0) (u:=3) (i:=1) (by omega);have e2:=Nb (s.extract i s.size) (l:=0) (u:=3) (i:=2) (by omega);rw[Nb s (by omega)]at e0 e1 e2;constructor
  ·rintro⟨k1,k2,k3,k4⟩;refine oC (by rw[IT _ (by omega)];rfl) λj hj=>?_
   rw[IT _ (by omega)]at hj;have:j=0\/j=1\/j=2:=by omega
   rcases this with rfl|rfl|rfl
   ·rw[e0];exact k2
   ·rw[e1];exact k3
   ·rw[e2];exact k4
  ·intro he;rw[he]at e0 e1 e2;refine⟨by omega,e0.symm,e1.symm,e2.symm⟩
 ·have hs:(s.extract i s.size).size=s.size - i:=IT s (Nat.le_refl _);simp only[b3w,hs]at h;have h3:(⟨#[239,191,189]⟩:b4b).size=3:=rfl;rw[h3]at h;exact decide_eq_false (by omega)
theorem qC(s:b4b)(i:Nat)(hi:i<=s.size)(hz:s.size<=140737488351232)(c:Int):Vd s i c (decide (c=65533)&& !FX s i):=by
 refine a6t _ _ _ _ ⟨λh=>⟨⟨by omega,by omega,by omega⟩,?_⟩,λh=>?_⟩
 ·simp only[beq_iff_eq]at h;have e:((s.size:Nat):Int).toNat=s.size:=by omega
  have e2:((i:Nat):Int).toNat=i:=by omega
  rw[e,e2];exact⟨_,a79 s i hi hz,by simp[h]⟩
 ·simp only[beq_eq_false_iff_ne]at h;simp[h]
theorem dC(s:b4b)(p:Nat):1<=(Utf8.decode s p).2:=by
 rw[Lib.decode_at];unfold Lib.decodeN
 (repeat' split)<;>simp
theorem a1f(s:b4b)(hz:s.size<=140737488351232):∀n p:Nat,s.size - p<=n->p<=s.size->Rk s p (Fe s p):=by
 intro n
 induction n with
 |zero=>
  intro p h1 h2;exact lK _ _ _ ⟨λh=>by omega,λh=>SY s p (by omega)⟩
 |succ n ih=>
  intro p h1 h2;refine lK _ _ _ ⟨λhp=>⟨_,qC s p h2 hz _,λh=>?_,λh=>?_⟩,λh=>SY s p (by omega)⟩
  ·have hd:=Pr s p;simp only[<-EV]at hd;rw[b3x]at h;have k1:=of_decide_eq_true h.1
   have k2:FX s p=false:=by cases hf:FX s p with
    |true=>rw[hf]at h;exact absurd h.2 (by decide)
    |false=>rfl
   have k3:=of_decide_eq_false k2;rw[if_pos ⟨by omega,k3⟩]at hd;exact gU s p hp hd
  ·have hd:=Pr s p;simp only[<-EV]at hd;have hle:=TI s p hp;rw[if_neg]at hd
   ·have h3:K4 s p≠0:=by
     have:=dC s p;omega
    rw[nX s p hp h3,<-hd];exact ih _ (by omega) hle
   ·intro hc;have k2:FX s p=false:=decide_eq_false hc.2;have k1:decide (((Utf8.decode s p).1:Int)=65533):=decide_eq_true (by omega);rw[k1,k2]at h;cases h
theorem nT(s:b4b)(hz:s.size<=140737488351232):UQ s (Fh s):=
 a6d _ _ ⟨_,zm _ _ (a1f s hz s.size 0 (by omega) (by omega)),rfl⟩
structure AZ(v:A0):Prop where
 l:v.B4.length<=140737488351232
 p:v.Pairs.length<=140737488351232
 s:v.Slots.length<=140737488351232
 r:v.C1.length<=140737488351232
 t:v.Text.size<=140737488351232
 b0:0<=v.Bits
 b1:v.Bits<18446744073709551616
def Cy(v:A0):b4e:=decide (v.B4.length=0/\v.Pairs.length=0/\v.Slots.length=0/\v.C1.length=0)
def BV(k bits:Int):b4e:=if k=1 then decide (bits<=1) else if k=2 then decide (-2147483648<=wI bits/\wI bits<=2147483647) else if k=9 then decide (bits<=2147483647) else if k=4 then decide (bits<=4294967295) else true
def V4(k:Int)(v:A0):b4e:=
 decide (1<=k/\k<=9/\v.Kind=k)&&Cy v&&
  (if k=7\/k=8 then decide (v.Bits=0/\v.Text.size<=4096)&&(!decide (k=7)||Fh v.Text) else decide (v.Text=⟨#[]⟩)&&BV k v.Bits)
theorem ww(k bits:Int):Xv k bits (BV k bits):=by
 refine a0u _ _ _ ⟨λh=>?_,λh=>⟨λh2=>?_,λh2=>⟨λh3=>?_,λh3=>⟨λh4=>?_,λh4=>?_⟩⟩⟩⟩
 all_goals simp only[beq_iff_eq,beq_eq_false_iff_ne]at*
 ·rw[BV,if_pos h]
 ·rw[BV,if_neg h,if_pos h2,Bool.decide_and]
 ·rw[BV,if_neg h,if_neg h2,if_pos h3]
 ·rw[BV,if_neg h,if_neg h2,if_neg h3,if_pos h4]
 ·rw[BV,if_neg h,if_neg h2,if_neg h3,if_neg h4]
def Do(v:A0):b4e:=Cy v&&(if v.Kind=7\/v.Kind=8 then decide (v.Bits=0) else decide (v.Text=⟨#[]⟩))
theorem kO(v:A0)(hv:AZ v):Sw v (Do v):=by
 have h1:=hv.l;have h2:=hv.p;have h3:=hv.s;have h4:=hv.r;have e1:wI ((v.B4.length:Int)+v.Pairs.length)=(v.B4.length:Int)+v.Pairs.length:=C0 (by omega);have e2:wI ((v.B4.length:Int)+v.Pairs.length+v.Slots.length)=(v.B4.length:Int)+v.Pairs.length+v.Slots.length:=C0 (by omega);have e3:wI ((v.B4.length:Int)+v.Pairs.length+v.Slots.length+v.C1.length)=(v.B4.length:Int)+v.Pairs.length+v.Slots.length+v.C1.length:=C0 (by omega);refine a2w _ _ ?_;rw[e1,e2,e3];refine⟨λh=>?_,λh=>⟨_,nh _ _ rfl,λh5=>?_,λh5=>?_⟩⟩
 ·simp only[b3v]at h;have:Cy v=false:=decide_eq_false (by omega);rw[Do,this];rfl
 all_goals
  simp only[b3w]at h;have:Cy v:=decide_eq_true (by omega);rw[Do,this,Bool.true_and]
 ·rw[if_pos (by simpa using h5)];rfl
 ·rw[if_neg (by simpa using h5)]
theorem Xr(k:Int)(v:A0)(hv:AZ v):NF k v (V4 k v):=by
 refine yK _ _ _ ⟨_,Pm _ _ rfl,λb=>b= !(decide (1<=k/\k<=9/\v.Kind=k)&&Do v),λb hR=>?_,λh=>?_,λh=>⟨_,kO v hv,?_⟩⟩
 rotate_left
 ·have:decide (1<=k/\k<=9/\v.Kind=k)=false:=by
   refine decide_eq_false λhn=>?_
   simp[hn.1,hn.2.1,hn.2.2]at h
  rw[this];rfl
 ·have:decide (1<=k/\k<=9/\v.Kind=k):=by
   refine decide_eq_true ?_;simp at h;omega
  rw[this];rfl
 subst hR;refine⟨λb=>b= !(decide (1<=k/\k<=9/\v.Kind=k)&&Do v&&BV k v.Bits),λb hR=>?_,λh=>?_,λh=>⟨_,ww k v.Bits,?_⟩⟩
 rotate_left
 ·have:(decide (1<=k/\k<=9/\v.Kind=k)&&Do v)=false:=by rw[<-b35];exact h
  rw[this];rfl
 ·have:(decide (1<=k/\k<=9/\v.Kind=k)&&Do v):=by rw[<-Bool.not_eq_false'];exact h
  rw[this];rfl
 subst hR;have main:∀A B C D:b4e,True:=λ_ _ _ _=>trivial
 by_cases hk:1<=k/\k<=9/\v.Kind=k
 ·have hkd:decide (1<=k/\k<=9/\v.Kind=k):=decide_eq_true hk;unfold V4 Do;rw[hkd,hk.2.2,Bool.true_and,Bool.true_and];cases hl:Cy v with
  |false=>simp[ID,IF]
  |true=>
   simp only[Bool.true_and]
   by_cases h78:k=7\/k=8
   ·rw[if_pos h78,if_pos h78];have hw:BV k v.Bits:=by rw[BV,if_neg (by omega),if_neg (by omega),if_neg (by omega),if_neg (by omega)]
    rw[hw,Bool.and_true];refine⟨λh=>?_,λh=>⟨λh2=>?_,λh2=>⟨_,nT _ hv.t,?_⟩⟩⟩
    ·have:¬(v.Bits=0/\v.Text.size<=4096):=by
      simp only[Bool.or_eq_true,b35,b3w,b3v]at h;omega
     rw[decide_eq_false this];rfl
    ·have:v.Bits=0/\v.Text.size<=4096:=by
      simp only[Bool.or_eq_false_iff,Bool.not_eq_false',b3w,b3v]at h;omega
     rw[decide_eq_true this];have:¬k=7:=by simpa using h2
     rw[decide_eq_false this];rfl
    ·have:v.Bits=0/\v.Text.size<=4096:=by
      simp only[Bool.or_eq_false_iff,Bool.not_eq_false',b3w,b3v]at h;omega
     rw[decide_eq_true this];have:k=7:=by simpa using h2
     rw[decide_eq_true this];simp
   ·rw[if_neg h78,if_neg h78];refine⟨λh=>?_,λh=>⟨λh2=>?_,λh2=>?_⟩⟩
    ·simp only[Bool.or_eq_true,b35,b3v]at h;rcases h with h|h
     ·rw[h]
     ·have:¬v.Text=⟨#[]⟩:=by
       intro he;rw[he]at h;have:((⟨#[]⟩:b4b).size:Int)=0:=rfl;omega
      rw[decide_eq_false this];rfl
    ·simp only[Bool.or_eq_false_iff,Bool.not_eq_false']at h;rw[h.1]
    ·have:k=7:=by simpa using h2
     omega
 ·have hkd:decide (1<=k/\k<=9/\v.Kind=k)=false:=decide_eq_false hk;unfold V4;rw[hkd];simp[ID,IF]
theorem iq(v:A0):Qm v (Cy v):=by
 refine ue _ _ ?_;unfold Cy;rw[Bool.eq_iff_iff];simp only[b3v,b3x,beq_iff_eq];omega
theorem Te(k:Int)(v:A0)(hv:AZ v):MD k v (V4 k v):=by
 refine a6n _ _ _ ⟨_,Yl _ _ rfl,λb=>b= !(decide (1<=k/\k<=9/\v.Kind=k)&&Cy v),λb hR=>⟨λh=>?_,λh=>⟨_,fY _ _ rfl,λh2=>?_,λh2=>?_⟩⟩,λh=>?_,λh=>⟨_,iq v,?_⟩⟩
 ·have:(decide (1<=k/\k<=9/\v.Kind=k)&&Cy v)=false:=by rw[<-b35,<-hR];exact h
  unfold V4;rw[this];rfl
 ·have hb:(decide (1<=k/\k<=9/\v.Kind=k)&&Cy v):=by rw[<-Bool.not_eq_false',<-hR];exact h
  have h78:k=7\/k=8:=by simpa using h2
  unfold V4;rw[hb,Bool.true_and,if_pos h78];refine⟨λc=>c=(decide (v.Bits=0/\v.Text.size<=4096)&&(!decide (k=7)||Fh v.Text)),λc hc=>hc.symm,λh3=>?_,λh3=>?_⟩
  ·have h4:v.Bits=0/\v.Text.size<=4096:=by
    simp only[b3x,beq_iff_eq,b3v]at h3;omega
   rw[decide_eq_true h4,Bool.true_and];refine⟨λc=>c=(!decide (k=7)||Fh v.Text),λc hc=>hc,λh5=>?_,λh5=>⟨_,YB _ hv.t,?_⟩⟩
   ·have:¬k=7:=by simp only[beq_iff_eq]at h5;omega
    rw[decide_eq_false this];rfl
   ·have:k=7:=by simp only[beq_eq_false_iff_ne]at h5;omega
    rw[decide_eq_true this];rfl
  ·have h4:¬(v.Bits=0/\v.Text.size<=4096):=by
    simp only[Bool.and_eq_false_iff,beq_eq_false_iff_ne,b3w]at h3;omega
   rw[decide_eq_false h4];rfl
 ·have hb:(decide (1<=k/\k<=9/\v.Kind=k)&&Cy v):=by rw[<-Bool.not_eq_false',<-hR];exact h
  have h78:¬(k=7\/k=8):=by simpa using h2
  unfold V4;rw[hb,Bool.true_and,if_neg h78];refine⟨λh3=>?_,λh3=>?_⟩
  ·have:decide (v.Text=⟨#[]⟩)=false:=by rw[<-b35];exact h3
   rw[this];rfl
  ·have:decide (v.Text=⟨#[]⟩):=by rw[<-Bool.not_eq_false'];exact h3
   rw[this,Bool.true_and];refine⟨λh4=>?_,λh4=>⟨λh5=>?_,λh5=>⟨λh6=>?_,λh6=>⟨λh7=>?_,λh7=>?_⟩⟩⟩⟩
   all_goals simp only[beq_iff_eq,beq_eq_false_iff_ne]at*
   ·rw[BV,if_pos h4]
   ·rw[BV,if_neg h4,if_pos h5,Bool.decide_and]
   ·rw[BV,if_neg h4,if_neg h5,if_neg (by omega),if_pos h6]
    congr 1;simp only[eq_iff_iff];omega
   ·rw[BV,if_neg h4,if_neg h5,if_pos h7]
    congr 1;simp only[eq_iff_iff];omega
   ·rw[BV,if_neg h4,if_neg h5,if_neg h7,if_neg h6]
 ·have:decide (1<=k/\k<=9/\v.Kind=k)=false:=by
   refine decide_eq_false λhn=>?_
   simp[hn.1,hn.2.1,hn.2.2]at h
  rw[this];rfl
 ·have:decide (1<=k/\k<=9/\v.Kind=k):=by
   refine decide_eq_true ?_;simp at h;omega
  rw[this];rfl
def Cq(p:A5)(enum num:Int):b4e:=
 if enum<0\/(p.C3.length:Int)<=enum\/2147483647<num then false else(p.C3[enum.toNat]?).any λy=>y.Open||y.Items.any λit=>decide (it.Num=num)
structure Mn(p:A5):Prop where
 n:p.C3.length<=140737488351232
 i:∀y∈p.C3,y.Items.length<=140737488351232/\∀it∈y.Items, -9223372036854775808<=it.Num/\it.Num<=9223372036854775807
def sV(num:Int):B3:=⟨87,[],[.D3 [.v (.int .u64 num)] 0],by simp[B7,plain]⟩
theorem tU(num:Int)(hn:0<=num/\num<=2147483647)(l:b4c O5)(hl:l.length<=140737488351232)(hi:∀it∈l, -9223372036854775808<=it.Num/\it.Num<=9223372036854775807):∀n i:Nat,l.length - i<=n->i<=l.length->
  ∃r,Qw i l (sV num) r/\(0<=r↔∃it∈l.drop i,it.Num=num):=by
 intro n
 induction n with
 |zero=>
  intro i h1 h2;refine⟨-1,TT _ _ _ _ ⟨λh=>by simp only[b3v]at h;omega,λ_=>rfl⟩,?_⟩;have:l.drop i=[]:=b33 (by omega);simp[this]
 |succ n ih=>
  intro i h1 h2;rcases Nat.lt_or_ge i l.length with hlt|hge
  ·have hy:l[i]? =some l[i]:=b3y hlt;have hmem:l[i]∈l:=List.getElem_mem hlt;have hr:=hi _ hmem;have hd:l.drop i=l[i]::l.drop (i+1):=b32 hlt;have ht:((i:Int)).toNat=i:=by omega
   have hw:(wU (l[i]).Num==num)=decide ((l[i]).Num=num):=by
    rw[Bool.eq_iff_iff];simp only[beq_iff_eq,b3v];rcases Int.lt_or_le (l[i]).Num 0 with h0|h0
    ·rw[o9 ⟨hr.1,h0⟩];omega
    ·have:wU (l[i]).Num=(l[i]).Num:=DO (by omega);rw[this]
   have hc:=wt l[i] num _ (sM l[i] num _ rfl)
   by_cases he:(l[i]).Num=num
   ·refine⟨i,TT _ _ _ _ ⟨λ_=>⟨l[i],by rw[ht];exact hy,by omega,_,hc,λ_=>rfl,λh=>?_⟩,λh=>by simp only[b3w]at h;omega⟩,?_⟩
    ·rw[hw,decide_eq_true he]at h;cases h
    ·rw[hd];exact⟨λ_=>⟨_,List.mem_cons_self,he⟩,λ_=>by omega⟩
   ·obtain⟨r,hr1,hr2⟩:=ih (i+1) (by omega) (by omega);refine⟨r,TT _ _ _ _ ⟨λ_=>⟨l[i],by rw[ht];exact hy,by omega,_,hc,λh=>?_,λ_=>?_⟩,λh=>by simp only[b3w]at h;omega⟩,?_⟩
    ·rw[hw,decide_eq_false he]at h;cases h
    ·rw[wI,C0 (by omega)];exact hr1
    ·rw[hr2,hd];exact⟨λ⟨it,k1,k2⟩=>⟨it,List.mem_cons_of_mem _ k1,k2⟩,λ⟨it,k1,k2⟩=>(List.mem_cons.1 k1).elim (λe=>(he (by rw[<-e];exact k2)).elim) λk1=>⟨it,k1,k2⟩⟩
  ·refine⟨-1,TT _ _ _ _ ⟨λh=>by simp only[b3v]at h;omega,λ_=>rfl⟩,?_⟩;have:l.drop i=[]:=b33 (by omega);simp[this]
theorem pu(p:A5)(hp:Mn p)(enum num:Int)(hn:0<=num):Si p enum num (Cq p enum num):=by
 refine a8w _ _ _ _ ⟨λh=>?_,λh=>?_⟩
 ·rw[Cq,if_pos];simp only[Bool.or_eq_true,b3v]at h;omega
 ·simp only[Bool.or_eq_false_iff,b3w]at h;have hlt:enum.toNat<p.C3.length:=by omega
  have hy:p.C3[enum.toNat]? =some p.C3[enum.toNat]:=b3y hlt;obtain⟨hl,hi⟩:=hp.i _ (List.getElem_mem hlt);rw[Cq,if_neg (by omega),hy];generalize p.C3[enum.toNat]=y at*;refine⟨y,hy,by omega,λh2=>by simp[h2],λh2=>?_⟩;obtain⟨r,hr1,hr2⟩:=tU num ⟨hn,by omega⟩ y.Items hl hi y.Items.length 0 (by omega) (by omega);refine⟨_,wa _ _ _ ⟨r,tY _ _ _ hr1,rfl⟩,?_⟩;simp only[h2,Option.any_some,Bool.false_or];rw[Bool.eq_iff_iff,b3v,hr2,List.drop_zero,List.any_eq_true];simp
theorem a8r(p:A5)(enum num:Int)(y:I2)(hy:p.C3[enum.toNat]? =some y)(he:0<=enum)(hn:0<=num/\num<=2147483647)(hl:y.Items.length<=140737488351232):∀n i:Nat,∀b:b4e,y.Items.length - i<=n->i<=y.Items.length->OO i b enum num p (b||(y.Items.drop i).any λit=>decide (it.Num=num)):=by
 intro n
 induction n with
 |zero=>
  intro i b h1 h2;refine lI _ _ _ _ _ _ ⟨y,hy,he,λh=>by simp only[b3v]at h;omega,λ_=>?_⟩;rw[b33 (by omega)];simp
 |succ n ih=>
  intro i b h1 h2;refine lI _ _ _ _ _ _ ⟨y,hy,he,λh=>?_,λh=>?_⟩
  ·simp only[b3v]at h;have hlt:i<y.Items.length:=by omega
   have hd:=b32 hlt;have ht:((i:Int)).toNat=i:=by omega
   have ei:wI ((i:Int)+1)=((i+1:Nat):Int):=by rw[wI,C0 (by omega)];omega
   rw[ei];refine⟨λhb=>?_,λhb=>⟨y,hy,he,y.Items[i],by rw[ht];exact b3y hlt,by omega,?_⟩⟩
   ·have:=ih (i+1) true (by omega) (by omega);rw[hb];exact this
   ·have:=ih (i+1) (y.Items[i].Num==wI num) (by omega) (by omega);have ew:wI num=num:=C0 (by omega);rw[ew]at this ⊢;rw[hb,hd];simp only[List.any_cons,Bool.false_or];exact this
  ·simp only[b3w]at h;rw[b33 (by omega)];simp
theorem qU(p:A5)(hp:Mn p)(enum num:Int)(hn:0<=num):VP p enum num (Cq p enum num):=by
 refine vb _ _ _ _ ⟨λh=>?_,λh=>?_⟩
 ·rw[Cq,if_pos];simp only[Bool.or_eq_true,b3v]at h;omega
 ·simp only[Bool.or_eq_false_iff,b3w]at h;have hlt:enum.toNat<p.C3.length:=by omega
  have hy:p.C3[enum.toNat]? =some p.C3[enum.toNat]:=b3y hlt;obtain⟨hl,hi⟩:=hp.i _ (List.getElem_mem hlt);rw[Cq,if_neg (by omega),hy];generalize p.C3[enum.toNat]=y at*;have:=a8r p enum num y hy (by omega) ⟨hn,by omega⟩ hl y.Items.length 0 y.Open (by omega) (by omega);exact⟨y,hy,by omega,this⟩
theorem H5(a b:b4b):(a++b).size=a.size+b.size:=ByteArray.size_append
theorem rf(a b t:b4b):(a++b++t).extract a.size (a.size+b.size)=b:=by
 rw[ByteArray.append_assoc];apply oC
 ·rw[ByteArray.size_extract,H5,H5];omega
 ·intro i hi;have hz:((a++(b++t)).extract a.size (a.size+b.size)).size=b.size:=by rw[ByteArray.size_extract,H5,H5];omega
  have hi':i<b.size:=Nat.lt_of_lt_of_eq hi hz;rw[Nb _ (by omega)];unfold D7 E2;have h1:a.data.toList.length=a.size:=Array.length_toList;have h2:b.data.toList.length=b.size:=Array.length_toList;simp only[ByteArray.data_append,Array.toList_append,List.getD_eq_getElem?_getD];rw[b30 (by rw[h1];omega),b3z (by rw[h1,h2];omega),h1,show a.size+i - a.size=i by omega]
theorem Sf(v:A0)(h:V4 v.Kind v):1<=v.Kind/\v.Kind<=9/\((v.Kind=7\/v.Kind=8)->v.Bits=0/\v.Text.size<=4096/\(v.Kind=7->Fh v.Text))/\(¬(v.Kind=7\/v.Kind=8)->BV v.Kind v.Bits):=by
 unfold V4 at h;simp only[b3x,b3v]at h;obtain⟨⟨h1,_⟩,h2⟩:=h;refine⟨h1.1,h1.2.1,λh3=>?_,λh3=>?_⟩
 ·rw[if_pos h3]at h2;simp only[b3x,b3v,Bool.or_eq_true,b35,b3w]at h2;exact⟨h2.1.1,h2.1.2,λh7=>by rcases h2.2 with h|h;exact absurd h7 h;exact h⟩
 ·rw[if_neg h3]at h2;simp only[b3x]at h2;exact h2.2
def Ex{α:Type}(Q p:α->Prop):Prop:=∃r,p r/\Q r
section
variable {α β:Type}{Q:α->Prop}
theorem E4{e:α}(h:Q e):Ex Q (λr=>r=e):=⟨e,rfl,h⟩
theorem D9{c:Prop}[Decidable c]{p q:α->Prop}(h1:c->Ex Q p)(h2:¬c->Ex Q q):Ex Q (λr=>(decide c=true->p r)/\(decide c=false->q r)):=by
 by_cases h:c
 ·obtain⟨r,a,b⟩:=h1 h;exact⟨r,⟨λ_=>a,λh'=>absurd h (of_decide_eq_false h')⟩,b⟩
 ·obtain⟨r,a,b⟩:=h2 h;exact⟨r,⟨λh'=>absurd (of_decide_eq_true h') h,λ_=>a⟩,b⟩
theorem G0{c:Prop}[Decidable c]{p q:α->Prop}(h1:¬c->Ex Q p)(h2:c->Ex Q q):Ex Q (λr=>((!decide c)=true->p r)/\((!decide c)=false->q r)):=by
 by_cases h:c
 ·obtain⟨r,a,b⟩:=h2 h;exact⟨r,⟨λh'=>by simp[h]at h',λ_=>a⟩,b⟩
 ·obtain⟨r,a,b⟩:=h1 h;exact⟨r,⟨λ_=>a,λh'=>by simp[h]at h'⟩,b⟩
theorem D5(B:b4e){p q:α->Prop}(h1:B=true->Ex Q p)(h2:B=false->Ex Q q):Ex Q (λr=>(B=true->p r)/\(B=false->q r)):=by
 cases hB:B with
 |true=>obtain⟨r,a,b⟩:=h1 hB;exact⟨r,⟨λ_=>a,λh=>by cases h⟩,b⟩
 |false=>obtain⟨r,a,b⟩:=h2 hB;exact⟨r,⟨λh=>(by cases h),λ_=>a⟩,b⟩
theorem K6{F:β->Prop}{G:β->α->Prop}{S:β->Prop}(h:Ex S F)(k:∀y,S y->Ex Q (G y)):Ex Q (λr=>∃y,F y/\G y r):=by
 obtain⟨y,hy,hs⟩:=h;obtain⟨r,a,b⟩:=k y hs;exact⟨r,⟨y,hy,a⟩,b⟩
theorem Pq{F:β->Prop}{G:β->α->Prop}{v:β}(h:F v)(k:Ex Q (G v)):Ex Q (λr=>∃y,F y/\G y r):=by
 obtain⟨r,a,b⟩:=k;exact⟨r,⟨v,h,a⟩,b⟩
theorem F2{l:b4c β}{i:Int}{G:β->α->Prop}(h:0<=i/\i<l.length)(k:∀y,l[i.toNat]? =some y->y∈l->Ex Q (G y)):Ex Q (λr=>∃y,l[i.toNat]? =some y/\0<=i/\G y r):=by
 have hlt:i.toNat<l.length:=by omega
 have he:=b3y hlt;obtain⟨r,a,b⟩:=k _ he (List.getElem_mem hlt);exact⟨r,⟨_,he,h.1,a⟩,b⟩
theorem U3{l:b4c β}{i:Int}{G:β->α->Prop}(y:β)(hy:l[i.toNat]? =some y)(h:0<=i)(k:Ex Q (G y)):Ex Q (λr=>∃y,l[i.toNat]? =some y/\0<=i/\G y r):=by
 obtain⟨r,a,b⟩:=k;exact⟨r,⟨y,hy,h,a⟩,b⟩
theorem F6{A:Prop}{G:α->Prop}(h:A)(k:Ex Q G):Ex Q (λr=>A/\G r):=by
 obtain⟨r,a,b⟩:=k;exact⟨r,⟨h,a⟩,b⟩
theorem F5{G:β->α->Prop}{H:(β->Prop)->α->Prop}(k:Ex Q (λr=>H (λz=>G z r) r)):Ex Q (λr=>∃R:β->Prop,(∀z,R z->G z r)/\H R r):=by
 obtain⟨r,a,b⟩:=k;exact⟨r,⟨λz=>G z r,λz h=>h,a⟩,b⟩
theorem C9{p F:α->Prop}(h:∀r,p r->F r)(k:Ex Q p):Ex Q F:=by
 obtain⟨r,a,b⟩:=k;exact⟨r,h r a,b⟩
theorem aN{p S:α->Prop}(h:Ex S p)(k:∀r,S r->Q r):Ex Q p:=by
 obtain⟨r,a,b⟩:=h;exact⟨r,a,k r b⟩
theorem Ex.to{p:α->Prop}(h:Ex Q p):∃r,p r/\Q r:=h
end
theorem M0{T:Nat->Prop}(n:Nat)(step:∀i,i<n->T (i+1)->T i)(fin:∀i,n<=i->T i):∀i,T i:=by
 have:∀k i,n - i<=k->T i:=by
  intro k
  induction k with
  |zero=>exact λi h=>fin i (by omega)
  |succ k ih=>
   intro i h;rcases Nat.lt_or_ge i n with h1|h1
   ·exact step i h1 (ih (i+1) (by omega))
   ·exact fin i h1
 exact λi=>this (n - i) i (Nat.le_refl _)
theorem G8{i:Nat}(h:i<=4611686018427387904):wI ((i:Int)+1)=((i+1:Nat):Int):=by rw[wI,C0 (by omega)];omega
theorem Dq{i:Nat}(h:0<i/\i<=4611686018427387904):wI ((i:Int) - 1)=((i - 1:Nat):Int):=by rw[wI,C0 (by omega)];omega
def yes{α:Type}:α->Prop:=λ_=>True
theorem cG(b:Int):Ex yes (Ug b):=C9 (mz _) (E4 trivial)
theorem bQ(b:Int):Ex yes (TB b):=C9 (gw _) (E4 trivial)
theorem gz(s:b4b)(hs:s.size<=140737488351232):∀i:Nat,Ex yes (LD (i:Int) s):=by
 refine M0 (s.size) (λi hi ih=>?_) (λi hi=>?_)
 ·refine C9 (kS _ _) ?_;rw[G8 (by omega)]
  repeat' first|exact E4 trivial|exact ih|assumption|refine F5 ?_|refine D9 (λh=>?_) (λh=>?_)|refine G0 (λh=>?_) (λh=>?_)|refine D5 _ (λh=>?_) (λh=>?_)|refine F2 (by omega) (λy hy hm=>?_)|refine F6 (by omega) ?_|refine K6 (cG _) (λy hq=>?_)|refine K6 (bQ _) (λy hq=>?_)
 ·refine C9 (kS _ _) ?_
  repeat' first|exact E4 trivial|exact ih|assumption|exact absurd ‹_› (by omega)|(exfalso;omega)|refine F5 ?_|refine D9 (λh=>?_) (λh=>?_)|refine G0 (λh=>?_) (λh=>?_)|refine D5 _ (λh=>?_) (λh=>?_)|refine F2 (by omega) (λy hy hm=>?_)|refine F6 (by omega) ?_|refine K6 (cG _) (λy hq=>?_)|refine K6 (bQ _) (λy hq=>?_)
theorem gp(s:b4b)(hs:s.size<=140737488351232):Ex yes (Ma s):=by
 refine C9 (nJ _) ?_
 repeat' first|exact E4 trivial|exact ih|assumption|exact gz s hs 1|refine F5 ?_|refine D9 (λh=>?_) (λh=>?_)|refine G0 (λh=>?_) (λh=>?_)|refine D5 _ (λh=>?_) (λh=>?_)|refine F2 (by first|omega|(simp only[Bool.or_eq_false_iff,Bool.or_eq_true,b3x,Bool.and_eq_false_iff,beq_iff_eq,beq_eq_false_iff_ne,b3w,b3v,ne_eq]at*;omega)) (λy hy hm=>?_)|refine F6 (by first|omega|(simp only[Bool.or_eq_false_iff,Bool.or_eq_true,b3x,Bool.and_eq_false_iff,beq_iff_eq,beq_eq_false_iff_ne,b3w,b3v,ne_eq]at*;omega)) ?_|refine K6 (cG _) (λy hq=>?_)|refine K6 (bQ _) (λy hq=>?_)
theorem mV(s:b4b):Ex yes (UT s):=by
 refine C9 (a7u _) ?_
 repeat' first|exact E4 trivial|exact ih|assumption|refine F5 ?_|refine D9 (λh=>?_) (λh=>?_)|refine G0 (λh=>?_) (λh=>?_)|refine D5 _ (λh=>?_) (λh=>?_)|refine F2 (by omega) (λy hy hm=>?_)|refine F6 (by omega) ?_
theorem a0f(s:b4b)(hs:s.size<=140737488351232):∀i:Nat,∀w:b4b,w.size<=i/\i<=140737488351232->Ex yes (Oc (i:Int) w s):=by
 refine M0 s.size (λi hi ih w hw=>?_) (λi hi w hw=>?_)
 ·have hz:(s.extract ((i:Int)).toNat (((i+1:Nat):Int)).toNat).size<=1:=by rw[IT _ (by omega)];omega
  refine C9 (nW _ _ _) ?_;rw[G8 (by omega)]
  repeat' first|exact E4 trivial|exact ih|assumption|exact ih _ (by rw[H5];omega)|exact ih ⟨#[]⟩ ⟨Nat.zero_le _,by omega⟩|refine F5 ?_|refine D9 (λh=>?_) (λh=>?_)|refine G0 (λh=>?_) (λh=>?_)|refine D5 _ (λh=>?_) (λh=>?_)|refine F2 (by omega) (λy hy hm=>?_)|refine F6 (by omega) ?_|refine K6 (gp _ (by omega)) (λy hq=>?_)
 ·refine C9 (nW _ _ _) ?_
  repeat' first|exact E4 trivial|exact ih|assumption|exact absurd ‹_› (by omega)|refine F5 ?_|refine D9 (λh=>?_) (λh=>?_)|refine G0 (λh=>?_) (λh=>?_)|refine D5 _ (λh=>?_) (λh=>?_)|refine F2 (by omega) (λy hy hm=>?_)|refine F6 (by omega) ?_|refine K6 (gp _ (by omega)) (λy hq=>?_)
theorem xg(s:b4b)(hs:s.size<=140737488351232):Ex yes (Wg s):=by
 refine C9 (a98 _) ?_
 repeat' first|exact E4 trivial|exact ih|assumption|exact a0f s hs 0 ⟨#[]⟩ ⟨Nat.zero_le _,by omega⟩|refine F5 ?_|refine D9 (λh=>?_) (λh=>?_)|refine G0 (λh=>?_) (λh=>?_)|refine D5 _ (λh=>?_) (λh=>?_)|refine F2 (by omega) (λy hy hm=>?_)|refine F6 (by omega) ?_
def Tc(s:b4b)(r:b4b × b4b):Prop:=r.1.size<=s.size - 1
theorem a9x(s:b4b)(hs:s.size<=140737488351232):∀k:Nat,k<=s.size->Ex (Tc s) (UE ((k:Int) - 1) s):=by
 intro k
 induction k with
 |zero=>exact λ_=>C9 (pM _ _) (D9 (λh=>absurd h (by omega)) λ_=>E4 (Nat.zero_le _))
 |succ k ih=>
  intro hk;have e:wI (((k+1:Nat):Int) - 1 - 1)=(k:Int) - 1:=by rw[wI,C0 (by omega)];omega
  refine C9 (pM _ _) ?_;rw[e];refine D9 (λh=>F6 (by omega) (D5 _ (λ_=>F6 (by omega) (F6 ?_ (E4 ?_))) λ_=>ih (by omega))) λh=>absurd (show(0:Int)<=((k+1:Nat):Int) - 1 by omega) h
  ·rw[wI,C0 (by omega)];omega
  ·unfold Tc;simp only;rw[IT _ (by omega)];omega
theorem tV(s:b4b)(hs:s.size<=140737488351232):Ex (Tc s) (dG s):=by
 refine C9 (a3r _) ?_;rw[wI,C0 (by omega)];exact a9x s hs s.size (Nat.le_refl _)
theorem b1a{s:b4b}(h:s.size=0):s=⟨#[]⟩:=ByteArray.ext (Array.eq_empty_of_size_eq_zero h)
theorem vV:∀n:Nat,∀s:b4b,s.size<=n->n<=140737488351232->Ex yes (Ra s):=by
 intro n
 induction n with
 |zero=>
  intro s h _;refine C9 (fX _) (G0 (λh0=>?_) λ_=>E4 trivial);exact absurd (b1a (by omega)) h0
 |succ n ih=>
  intro s h hn;refine C9 (fX _) (G0 (λh0=>?_) λ_=>E4 trivial);refine K6 (tV s (by omega)) λy hy=>K6 (mV _) λy2 _=>D5 _ (λ_=>E4 trivial) λ_=>?_
  unfold Tc at hy;exact ih _ (by omega) (by omega)
theorem nG(s:b4b)(hs:s.size<=140737488351232):Ex yes (Qk s):=by
 refine C9 (b0g _) ?_
 repeat' first|exact E4 trivial|exact ih|assumption|exact vV _ s (Nat.le_refl _) hs|refine F5 ?_|refine D9 (λh=>?_) (λh=>?_)|refine G0 (λh=>?_) (λh=>?_)|refine D5 _ (λh=>?_) (λh=>?_)|refine F2 (by omega) (λy hy hm=>?_)|refine F6 (by omega) ?_|refine K6 (xg s hs) (λy hq=>?_)
section
open Go.RowKit Go.ChangeShapes Go.WideShapes Go.ChangeAt
def Ix(P:Program)(n:Nat)(t:TypeId)(av:AV):Prop:=
 match P.underlying t with
 |some (.struct _)|some (.array _ _)=>∃avs,av=.agg avs/\Ty P n t avs
 |_=>Ty P n t [av]
theorem lF{σ:Sg}{avs:b4c AV}{cs:Array Value}(h:D0 σ avs cs.toList):Rel σ (.agg avs) (.agg cs):=by
 refine .agg avs cs (by simpa using h.1) (λi av hi=>(h.2 i av hi).1) (λi=>cs.toList[i]?.getD (.bool false)) (λi av hi=>?_) (λi av hi=>?_)
 ·obtain⟨_,x,hx,_⟩:=h.2 i av hi;rw[hx];simpa using hx
 ·obtain⟨_,x,hx,hr⟩:=h.2 i av hi;rw[hx];exact hr
theorem SF{σ:Sg}{av:AV}{v:Value}(h:D0 σ [av] v.cells.toList)(hv:∀cs,v≠.agg cs):Rel σ av v:=by
 obtain⟨_,x,hx,hr⟩:=h.2 0 av rfl;cases v with
 |agg cs=>exact absurd rfl (hv cs)
 |_=>simp[Value.cells]at hx;subst hx;exact hr
section
variable {H:Type}{enc:TypeId × Value->H}{P:Program}{W:World}{base b0:Nat}{spare:Nat->b4e}{held:b4e}
end
def a8p(P:Program)(t:TypeId):b4c TypeId:=
 match P.underlying t with
 |some (.slice e)=>[e]
 |some (.struct fs)=>fs.toList.map (·.type)
 |some (.array _ e)=>[e]
 |_=>[]
def pn:b4c TypeId->b4c TypeId->b4c TypeId
 |l,[]=>l
 |l,t::r=>pn (if l.contains t then l else l++[t]) r
def mU(P:Program):Nat->b4c TypeId->b4c TypeId
 |0,l=>l
 |n+1,l=>mU P n (pn l (l.flatMap (a8p P)))
theorem b1v(σ:Sg):P7 σ [] []:=⟨rfl,λi av h=>by simp at h⟩
theorem Xc{σ:Sg}{a:AV}{v:Value}{l:b4c AV}{xs:b4c Value}(h:Rel σ a v)(hr:P7 σ l xs):P7 σ (a::l) (v::xs):=by
 refine⟨by simp[hr.1],λi av hi=>?_⟩;cases i with
 |zero=>simp at hi;subst hi;exact⟨v,rfl,h⟩
 |succ i=>obtain⟨x,h1,h2⟩:=hr.2 i av (by simpa using hi);exact⟨x,by simpa using h1,h2⟩
theorem u4{av:AV}(h:nz av=.v (.bool true)):av=.v (.bool true):=by
 cases av with
 |v x=>simpa[nz,AI,K1]using h
 |_=>simp[nz,AI,K1]at h
end
def I64(n:Int):Prop:= -9223372036854775808<=n/\n<=9223372036854775807
def Ab(n:Int):Prop:=0<=n/\n<18446744073709551616
def Sz(n:Nat):Prop:=n<=140737488351232
structure LA(x:D8):Prop where
 num:I64 x.Num
 wire:I64 x.J0
 bits:Ab x.Bits
 data:Sz x.Data.size
inductive C8:A0->Prop
 |mk (v:A0) (k:I64 v.Kind) (b:Ab v.Bits) (t:Sz v.Text.size) (l:Sz v.B4.length) (p:Sz v.Pairs.length) (s:Sz v.Slots.length) (r:Sz v.C1.length)
  (hl:∀x∈v.B4,C8 x) (hk:∀x∈v.Pairs,C8 x.1) (hv:∀x∈v.Pairs,C8 x.2) (hn:∀x∈v.Slots,I64 x.1) (hs:∀x∈v.Slots,C8 x.2) (hr:∀x∈v.C1,LA x) (w:Sz (v.B4.length*128)/\Sz (v.Pairs.length*256)/\Sz (v.Slots.length*136)/\Sz (v.C1.length*40)):C8 v
section
variable {P:Program}{n:Nat}{t:TypeId}{avs:b4c AV}
def dx(P:Program)(m:Nat):b4c TypeId->b4c AV->Prop
 |[],avs=>avs=[]
 |t::ts,avs=>∃a b,avs=a++b/\Ty P m t a/\dx P m ts b
theorem ph{m:Nat}:∀(fs:b4c Field) (parts:b4c (b4c AV)),parts.length=fs.length->(∀(i:Nat) (f:Field),fs[i]? =some f->∃p,parts[i]? =some p/\Ty P m f.type p)->dx P m (fs.map (·.type)) parts.flatten
 |[],[],_,_=>rfl
 |[],_::_,h,_=>by cases h
 |_::_,[],h,_=>by cases h
 |f::fs,p::parts,hl,h=>by
  obtain⟨q,hq,hty⟩:=h 0 f rfl;cases hq;exact⟨p,parts.flatten,by simp,hty,ph fs parts (by simpa using hl) λi g hg=>h (i+1) g (by simpa using hg)⟩
def Ti(P:Program)(t:TypeId):b4d (b4c TypeId):=match P.underlying t with|some (.struct fs)=>some (fs.toList.map (·.type))|_=>none
theorem Dp{ts:b4c TypeId}(hu:Ti P t=some ts)(h:Ty P n t avs):∃m,n=m+1/\dx P m ts avs:=by
 cases n with
 |zero=>exact absurd h (by unfold Ty;exact id)
 |succ m=>
  unfold Ti at hu;unfold Ty at h;split at hu
  ·rename_i fs hfs;rw[hfs]at h;obtain⟨parts,rfl,hl,hp⟩:=h;cases hu;exact⟨m,rfl,ph fs.toList parts (by simpa using hl) (λi f hf=>hp i f (by simpa using hf))⟩
  ·cases hu
theorem ia{k:IntKind}(hu:P.underlying t=some (.int k))(h:Ty P n t avs):∃m,avs=[.v (.int k m)]/\(Lit.int k m).wf:=by
 cases n with
 |zero=>exact absurd h (by unfold Ty;exact id)
 |succ m=>unfold Ty at h;rw[hu]at h;exact h
theorem Bs(hu:P.underlying t=some (.int .i64))(h:Ty P n t avs):∃m,avs=[.v (.int .i64 m)]/\I64 m:=by
 obtain⟨m,h1,h2⟩:=ia hu h;refine⟨m,h1,?_⟩;simp only[Lit.wf,b3x,b3v]at h2;exact h2
theorem kD(hu:P.underlying t=some (.int .u64))(h:Ty P n t avs):∃m,avs=[.v (.int .u64 m)]/\Ab m:=by
 obtain⟨m,h1,h2⟩:=ia hu h;refine⟨m,h1,?_⟩;simp only[Lit.wf,b3x,b3v]at h2;have e1:IntKind.u64.min=0:=by decide
 have e2:IntKind.u64.max=18446744073709551615:=by decide
 unfold Ab;omega
theorem tE(hu:P.underlying t=some .bool)(h:Ty P n t avs):∃b,avs=[.v (.bool b)]:=by
 cases n with
 |zero=>exact absurd h (by unfold Ty;exact id)
 |succ m=>unfold Ty at h;rw[hu]at h;exact h
theorem FI(hu:P.underlying t=some .string)(h:Ty P n t avs):∃s:b4b,avs=[.v (.string s)]/\Sz s.size:=by
 cases n with
 |zero=>exact absurd h (by unfold Ty;exact id)
 |succ m=>unfold Ty at h;rw[hu]at h;exact h
theorem Pw{e:TypeId}{G:Type}{enc:G->b4c AV}{Ok:G->Prop}(hu:P.underlying t=some (.slice e)){w:Nat}(hw:P.bytesOf e=w)(hb:1<=P.bytesOf e)(hel:∀m avs,m<n->Ty P m e avs->∃x,avs=enc x/\Ok x)(h:Ty P n t avs):∃l:b4c G,avs=[.sl (l.map enc) .no]/\(Sz l.length/\Sz (l.length*w))/\∀x∈l,Ok x:=by
 cases n with
 |zero=>exact absurd h (by unfold Ty;exact id)
 |succ m=>
  unfold Ty at h;rw[hu]at h;obtain⟨els,rfl,hl,hty⟩:=h;have hn:els.length<=140737488351232:=Nat.le_trans (Nat.le_mul_of_pos_right _ hb) hl
  have:∀els:b4c (b4c AV),(∀el∈els,Ty P m e el)->∃l:b4c G,els=l.map enc/\∀x∈l,Ok x:=by
   intro els
   induction els with
   |nil=>exact λ_=>⟨[],rfl,λx h=>by cases h⟩
   |cons a els ih=>
    intro h;obtain⟨l,rfl,hl⟩:=ih λel hel=>h el (List.mem_cons_of_mem _ hel)
    obtain⟨x,rfl,hx⟩:=hel m a (Nat.lt_succ_self m) (h a List.mem_cons_self);exact⟨x::l,rfl,λy hy=>(List.mem_cons.1 hy).elim (λe=>e▸hx) (hl y)⟩
  obtain⟨l,rfl,hok⟩:=this els hty;exact⟨l,rfl,⟨by simpa[Sz]using hn,by subst hw;simpa[Sz]using hl⟩,hok⟩
theorem LI{e:TypeId}{G:Type}{enc:G->b4c AV}{Ok:G->Prop}(hu:P.underlying t=some (.slice e))(hb:1<=P.bytesOf e)(hel:∀m avs,m<n->Ty P m e avs->∃x,avs=enc x/\Ok x)(h:Ty P n t avs):∃l:b4c G,avs=[.sl (l.map enc) .no]/\Sz l.length/\∀x∈l,Ok x:=by
 obtain⟨l,h1,h2,h3⟩:=Pw hu rfl hb hel h;exact⟨l,h1,h2.1,h3⟩
theorem nA{av:AV}{ts:b4c TypeId}(hu:Ti P t=some ts)(h:Ix P n t av):∃avs,av=.agg avs/\Ty P n t avs:=by
 unfold Ix at h;unfold Ti at hu;split at hu
 ·rename_i fs hfs;rw[hfs]at h;exact h
 ·cases hu
end
section
variable {n:Nat}{avs:b4c AV}{av:AV}
theorem b1t(h:Ty Tryz.prog n 102 avs):∃x,avs=G6 x/\LA x:=by
 obtain⟨m,rfl,a1,b1,rfl,h1,a2,b2,rfl,h2,a3,b3,rfl,h3,a4,b4,rfl,h4,rfl⟩:=Dp (ts:=[3,3,26,9]) (by kernel_rfl) h;obtain⟨x1,rfl,k1⟩:=Bs (by kernel_rfl) h1;obtain⟨x2,rfl,k2⟩:=Bs (by kernel_rfl) h2;obtain⟨x3,rfl,k3⟩:=kD (by kernel_rfl) h3;obtain⟨x4,rfl,k4⟩:=FI (by kernel_rfl) h4;exact⟨⟨x1,x2,x3,x4⟩,rfl,⟨k1,k2,k3,k4⟩⟩
theorem fQ:∀(n:Nat) (avs:b4c AV),Ty Tryz.prog n 32 avs->∃x,avs=H3 x/\C8 x:=by
 intro n
 induction n using Nat.strongRecOn with
 |_ n ih=>
  intro avs h;obtain⟨m,rfl,a1,b1,rfl,h1,a2,b2,rfl,h2,a3,b3,rfl,h3,a4,b4,rfl,h4,a5,b5,rfl,h5,a6,b6,rfl,h6,a7,b7,rfl,h7,rfl⟩:=Dp (ts:=[3,26,9,27,28,29,30]) (by kernel_rfl) h;obtain⟨x1,rfl,k1⟩:=Bs (by kernel_rfl) h1;obtain⟨x2,rfl,k2⟩:=kD (by kernel_rfl) h2;obtain⟨x3,rfl,k3⟩:=FI (by kernel_rfl) h3;obtain⟨x4,rfl,⟨n4,w4⟩,k4⟩:=Pw (w:=128) (e:=32) (enc:=H3) (Ok:=C8) (by kernel_rfl) (by kernel_rfl) (of_decide_eq_true (by kernel_rfl)) (λk a hk ha=>ih k (by omega) a ha) h4
  obtain⟨x5,rfl,⟨n5,w5⟩,k5⟩:=Pw (w:=256) (e:=100) (enc:=D1) (Ok:=λx=>C8 x.1/\C8 x.2) (by kernel_rfl) (by kernel_rfl) (of_decide_eq_true (by kernel_rfl)) (λk a hk ha=>by
   obtain⟨q,rfl,a1,b1,rfl,h1,a2,b2,rfl,h2,rfl⟩:=Dp (ts:=[32,32]) (by kernel_rfl) ha;obtain⟨y1,rfl,z1⟩:=ih q (by omega) _ h1;obtain⟨y2,rfl,z2⟩:=ih q (by omega) _ h2;exact⟨(y1,y2),by simp[D1],z1,z2⟩) h5
  obtain⟨x6,rfl,⟨n6,w6⟩,k6⟩:=Pw (w:=136) (e:=52) (enc:=D2) (Ok:=λx=>I64 x.1/\C8 x.2) (by kernel_rfl) (by kernel_rfl) (of_decide_eq_true (by kernel_rfl)) (λk a hk ha=>by
   obtain⟨q,rfl,a1,b1,rfl,h1,a2,b2,rfl,h2,rfl⟩:=Dp (ts:=[3,32]) (by kernel_rfl) ha;obtain⟨y1,rfl,z1⟩:=Bs (by kernel_rfl) h1;obtain⟨y2,rfl,z2⟩:=ih q (by omega) _ h2;exact⟨(y1,y2),by simp[D2],z1,z2⟩) h6
  obtain⟨x7,rfl,⟨n7,w7⟩,k7⟩:=Pw (w:=40) (e:=102) (enc:=G6) (Ok:=LA) (by kernel_rfl) (by kernel_rfl) (of_decide_eq_true (by kernel_rfl)) (λk a hk ha=>b1t ha) h7;refine⟨⟨x1,x2,x3,x4,x5,x6,x7⟩,?_,.mk _ k1 k2 k3 n4 n5 n6 n7 k4 (λx hx=>(k5 x hx).1) (λx hx=>(k5 x hx).2) (λx hx=>(k6 x hx).1) (λx hx=>(k6 x hx).2) k7 ⟨w4,w5,w6,w7⟩⟩;rw[CS];rfl
theorem c8(h:Ix Tryz.prog n 32 av):∃x,av=.agg (C4 x)/\C8 x:=by
 obtain⟨avs,rfl,g⟩:=nA (ts:=[3,26,9,27,28,29,30]) (by kernel_rfl) h;obtain⟨x,rfl,k⟩:=fQ _ _ g;exact⟨x,by rw[CS],k⟩
theorem a8n(h:Ix Tryz.prog n 9 av):∃x:b4b,av=.v (.string x)/\Sz x.size:=by
 have hu:Tryz.prog.underlying 9=some .string:=by kernel_rfl
 unfold Ix at h;rw[hu]at h;obtain⟨x,hx,k⟩:=FI hu h;exact⟨x,by simpa using hx,k⟩
end
structure Nh(o:B0):Prop where
 num:I64 o.Num
 name:Sz o.Name.size
 b3h:Sz o.Alias.size
 card:I64 o.D6
 key:I64 o.Key
 kind:I64 o.Kind
 target:I64 o.Target
 union:I64 o.Union
structure Du(g:C2):Prop where
 name:Sz g.Name.size
 n:Sz g.Ops.length
 ops:∀o∈g.Ops,Nh o
 b3r:I64 g.de
structure Je(n:Z5):Prop where
 name:Sz n.Name.size
 val:C8 n.Val
structure XF(x:O5):Prop where
 name:Sz x.Name.size
 num:I64 x.Num
 nn:Sz x.Notes.length
 notes:∀n∈x.Notes,Je n
structure cE(x:Ba):Prop where
 from_:I64 x.From
 to_:I64 x.To
structure El(e:I2):Prop where
 name:Sz e.Name.size
 ni:Sz e.Items.length
 items:∀x∈e.Items,XF x
 nr:Sz e.Reserved.length
 reserved:∀x∈e.Reserved,cE x
 nn:Sz e.Notes.length
 notes:∀x∈e.Notes,Je x
structure Ct(p:A5):Prop where
 np:Sz p.A7.length
 Ez:∀g∈p.A7,Du g
 ne:Sz p.C3.length
 enums:∀e∈p.C3,El e
section
variable {n:Nat}{avs:b4c AV}{av:AV}
theorem vQ(h:Ty Tryz.prog n 107 avs):∃x,avs=BR x/\Je x:=by
 obtain⟨m,rfl,a1,b1,rfl,h1,a2,b2,rfl,h2,rfl⟩:=Dp (ts:=[9,32]) (by kernel_rfl) h;obtain⟨x1,rfl,k1⟩:=FI (by kernel_rfl) h1;obtain⟨x2,rfl,k2⟩:=fQ _ _ h2;exact⟨⟨x1,x2⟩,by rw[CS];rfl,⟨k1,k2⟩⟩
theorem jX{t:TypeId}(hu:Tryz.prog.underlying t=some (.slice 107))(h:Ty Tryz.prog n t avs):∃l:b4c Z5,avs=[.sl (l.map BR) .no]/\Sz l.length/\∀x∈l,Je x:=LI hu (of_decide_eq_true (by kernel_rfl)) (λk a hk ha=>vQ ha) h
theorem b0i(h:Ty Tryz.prog n 85 avs):∃x,avs=V7 x/\XF x:=by
 obtain⟨m,rfl,a1,b1,rfl,h1,a2,b2,rfl,h2,a3,b3,rfl,h3,rfl⟩:=Dp (ts:=[9,3,83]) (by kernel_rfl) h;obtain⟨x1,rfl,k1⟩:=FI (by kernel_rfl) h1;obtain⟨x2,rfl,k2⟩:=Bs (by kernel_rfl) h2;obtain⟨x3,rfl,n3,k3⟩:=jX (by kernel_rfl) h3;exact⟨⟨x1,x2,x3⟩,rfl,⟨k1,k2,n3,k3⟩⟩
theorem tL(h:Ty Tryz.prog n 105 avs):∃x,avs=Br x/\cE x:=by
 obtain⟨m,rfl,a1,b1,rfl,h1,a2,b2,rfl,h2,rfl⟩:=Dp (ts:=[3,3]) (by kernel_rfl) h;obtain⟨x1,rfl,k1⟩:=Bs (by kernel_rfl) h1;obtain⟨x2,rfl,k2⟩:=Bs (by kernel_rfl) h2;exact⟨⟨x1,x2⟩,rfl,⟨k1,k2⟩⟩
theorem xA(h:Ty Tryz.prog n 95 avs):∃x,avs=U9 x/\El x:=by
 obtain⟨m,rfl,a1,b1,rfl,h1,a2,b2,rfl,h2,a3,b3,rfl,h3,a4,b4,rfl,h4,a5,b5,rfl,h5,rfl⟩:=Dp (ts:=[9,4,92,93,83]) (by kernel_rfl) h;obtain⟨x1,rfl,k1⟩:=FI (by kernel_rfl) h1;obtain⟨x2,rfl⟩:=tE (by kernel_rfl) h2;obtain⟨x3,rfl,n3,k3⟩:=LI (e:=85) (enc:=V7) (Ok:=XF) (by kernel_rfl) (of_decide_eq_true (by kernel_rfl)) (λk a hk ha=>b0i ha) h3;obtain⟨x4,rfl,n4,k4⟩:=LI (e:=105) (enc:=Br) (Ok:=cE) (by kernel_rfl) (of_decide_eq_true (by kernel_rfl)) (λk a hk ha=>tL ha) h4;obtain⟨x5,rfl,n5,k5⟩:=jX (by kernel_rfl) h5;exact⟨⟨x1,x2,x3,x4,x5⟩,rfl,⟨k1,n3,k3,n4,k4,n5,k5⟩⟩
theorem xK(h:Ty Tryz.prog n 40 avs):∃x,avs=E7 x/\Nh x:=by
 obtain⟨m,rfl,a1,b1,rfl,h1,a2,b2,rfl,h2,a3,b3,rfl,h3,a4,b4,rfl,h4,a5,b5,rfl,h5,a6,b6,rfl,h6,a7,b7,rfl,h7,a8,b8,rfl,h8,rfl⟩:=Dp (ts:=[3,9,9,3,3,3,3,3]) (by kernel_rfl) h;obtain⟨x1,rfl,k1⟩:=Bs (by kernel_rfl) h1;obtain⟨x2,rfl,k2⟩:=FI (by kernel_rfl) h2;obtain⟨x3,rfl,k3⟩:=FI (by kernel_rfl) h3;obtain⟨x4,rfl,k4⟩:=Bs (by kernel_rfl) h4;obtain⟨x5,rfl,k5⟩:=Bs (by kernel_rfl) h5;obtain⟨x6,rfl,k6⟩:=Bs (by kernel_rfl) h6;obtain⟨x7,rfl,k7⟩:=Bs (by kernel_rfl) h7;obtain⟨x8,rfl,k8⟩:=Bs (by kernel_rfl) h8;exact⟨⟨x1,x2,x3,x4,x5,x6,x7,x8⟩,rfl,⟨k1,k2,k3,k4,k5,k6,k7,k8⟩⟩
theorem m4(h:Ty Tryz.prog n 50 avs):∃x,avs=H6 x/\Du x:=by
 obtain⟨m,rfl,a1,b1,rfl,h1,a2,b2,rfl,h2,a3,b3,rfl,h3,rfl⟩:=Dp (ts:=[9,48,3]) (by kernel_rfl) h;obtain⟨x1,rfl,k1⟩:=FI (by kernel_rfl) h1;obtain⟨x2,rfl,n2,k2⟩:=LI (e:=40) (enc:=E7) (Ok:=Nh) (by kernel_rfl) (of_decide_eq_true (by kernel_rfl)) (λk a hk ha=>xK ha) h2;obtain⟨x3,rfl,k3⟩:=Bs (by kernel_rfl) h3;exact⟨⟨x1,x2,x3⟩,rfl,⟨k1,n2,k2,k3⟩⟩
theorem a33(h:Ty Tryz.prog n 25 avs):∃x,avs=C7 x/\Ct x:=by
 obtain⟨m,rfl,a1,b1,rfl,h1,a2,b2,rfl,h2,rfl⟩:=Dp (ts:=[22,23]) (by kernel_rfl) h;obtain⟨x1,rfl,n1,k1⟩:=LI (e:=50) (enc:=H6) (Ok:=Du) (by kernel_rfl) (of_decide_eq_true (by kernel_rfl)) (λk a hk ha=>m4 ha) h1;obtain⟨x2,rfl,n2,k2⟩:=LI (e:=95) (enc:=U9) (Ok:=El) (by kernel_rfl) (of_decide_eq_true (by kernel_rfl)) (λk a hk ha=>xA ha) h2;exact⟨⟨x1,x2⟩,rfl,⟨n1,k1,n2,k2⟩⟩
theorem a8b(h:Ix Tryz.prog n 25 av):∃x,av=.agg (C7 x)/\Ct x:=by
 obtain⟨avs,rfl,g⟩:=nA (ts:=[22,23]) (by kernel_rfl) h;obtain⟨x,rfl,k⟩:=a33 g;exact⟨x,rfl,k⟩
end
structure Es(p:A5)(o:B0):Prop where
 card:1<=o.D6/\o.D6<=5
 kind:1<=o.Kind/\o.Kind<=10
 key:(o.D6≠5->o.Key=0)/\(o.D6=5->(1<=o.Key/\o.Key<=5)\/o.Key=7)
 msg:o.Kind=10->0<=o.Target/\o.Target<p.A7.length/\o.D6≠3
 enum:o.Kind=9->0<=o.Target/\o.Target<p.C3.length
 other:o.Kind≠9->o.Kind≠10->o.Target= -1
 union:o.Union= -1\/o.D6=2
theorem C5{n:Nat}(h:Sz n):n<=140737488351232:=h
theorem C8.okv{v:A0}(h:C8 v):AZ v:=by
 cases h with
 |mk _ k b t l p s r=>exact⟨l,p,s,r,t,b.1,b.2⟩
theorem Hf{α:Type}{l:b4c α}{i:Nat}(h:i<l.length):∃y,l[((i:Int)).toNat]? =some y/\y∈l:=⟨l[i],by simp[h],List.getElem_mem h⟩
def Asc(l:b4c B0)(n:Nat):Prop:=∀m x y,m+1<n->l[m]? =some x->l[m+1]? =some y->x.Num<y.Num
theorem z7{l:b4c B0}{i:Nat}{x y:B0}(h:Asc l i)(hx:l[i - 1]? =some x)(hy:l[i]? =some y)(hlt:x.Num<y.Num):Asc l (i+1):=by
 intro m x' y' hm h1 h2
 by_cases e:m+1=i
 ·have:m=i - 1:=by omega
  subst this;rw[hx]at h1;cases h1;rw[e,hy]at h2;cases h2;exact hlt
 ·exact h m x' y' (by omega) h1 h2
theorem Jx{α:Type}{l:b4c α}{T:α->Prop}{k:Nat}{g:α}(h:∀j g,j<k->l[j]? =some g->T g)(hg:l[k]? =some g)(ht:T g):∀j g,j<k+1->l[j]? =some g->T g:=by
 intro j g' hj hj2
 by_cases e:j=k
 ·subst e;rw[hg]at hj2;cases hj2;exact ht
 ·exact h j g' (by omega) hj2
theorem MV{α:Type}{l:b4c α}{T:α->Prop}{k:Nat}(h:∀j g,j<k->l[j]? =some g->T g)(hk:l.length<=k):∀g∈l,T g:=by
 intro g hg;obtain⟨j,hj⟩:=List.mem_iff_getElem?.1 hg;exact h j g (by have:=(List.getElem?_eq_some_iff.1 hj).1;omega) hj
section
variable (p:A5) (hp:Ct p)
 include hp
theorem qK:∀i:Nat,∀b,Ex yes (OV (i:Int) b p):=by
 have b1:=C5 hp.np;have b2:=C5 hp.ne;refine M0 (p.C3.length) (λi hi ih b=>?_) (λi hi b=>?_)
 ·refine C9 (et _ _ _) ?_
  try rw[G8 (by omega)]
  repeat' first|exact E4 trivial|exact ih|assumption|exact ih _|refine F5 ?_|refine D9 (λh=>?_) (λh=>?_)|refine G0 (λh=>?_) (λh=>?_)|refine D5 _ (λh=>?_) (λh=>?_)|refine F2 (by omega) (λy hy hm=>?_)|refine F6 (by omega) ?_
 ·refine C9 (et _ _ _) ?_
  repeat' first|exact E4 trivial|exact ih|assumption|exact ih _|exact absurd ‹_› (by omega)|(exfalso;omega)|refine F5 ?_|refine D9 (λh=>?_) (λh=>?_)|refine G0 (λh=>?_) (λh=>?_)|refine D5 _ (λh=>?_) (λh=>?_)|refine F2 (by omega) (λy hy hm=>?_)|refine F6 (by omega) ?_
theorem zO:∀i:Nat,∀b,Ex yes (Pn (i:Int) b p):=by
 have b1:=C5 hp.np;have b2:=C5 hp.ne;refine M0 (p.A7.length) (λi hi ih b=>?_) (λi hi b=>?_)
 ·refine C9 (nM _ _ _) ?_
  try rw[G8 (by omega)]
  repeat' first|exact E4 trivial|exact ih|assumption|exact ih _|exact qK p hp 0 _|refine F5 ?_|refine D9 (λh=>?_) (λh=>?_)|refine G0 (λh=>?_) (λh=>?_)|refine D5 _ (λh=>?_) (λh=>?_)|refine F2 (by omega) (λy hy hm=>?_)|refine F6 (by omega) ?_
 ·refine C9 (nM _ _ _) ?_
  repeat' first|exact E4 trivial|exact ih|assumption|exact ih _|exact qK p hp 0 _|exact absurd ‹_› (by omega)|(exfalso;omega)|refine F5 ?_|refine D9 (λh=>?_) (λh=>?_)|refine G0 (λh=>?_) (λh=>?_)|refine D5 _ (λh=>?_) (λh=>?_)|refine F2 (by omega) (λy hy hm=>?_)|refine F6 (by omega) ?_
theorem a60:Ex yes (Xy p):=by
 refine C9 (a8e _) ?_;exact zO p hp 0 _
theorem ot(A:Prop)(k:Nat)(hk:k<p.C3.length)(g:I2)(hg:p.C3[((k:Int)).toNat]? =some g)(og:El g)(H:∀b,(b=true->A)->Ex (λr=>r=true->A) (PT ((k+1:Nat):Int) b p)):∀i:Nat,1<=i->∀b,(b=true->A)->Ex (λr=>r=true->A) (OJ (i:Int) b (k:Int) p):=by
 have b1:=C5 hp.np;have b2:=C5 hp.ne;have b3:=C5 og.ni;have b4:=C5 og.nr;refine M0 (g.Items.length) (λi hi ih h1 b hA=>?_) (λi hi h1 b hA=>?_)
 ·refine C9 (qF _ _ _ _) ?_
  try rw[G8 (by omega)]
  repeat' first|exact E4 (λh=>by first|exact hA ‹_›|exact hA h|cases h)|exact ih|assumption|exact ih (by omega) _ (λh=>by first|exact hA ‹_›|cases h)|exact H _ hA|refine U3 g hg (by omega) ?_|rw[G8 (by omega)]|rw[Dq (by omega)]|refine F5 ?_|refine D9 (λh=>?_) (λh=>?_)|refine G0 (λh=>?_) (λh=>?_)|refine D5 _ (λh=>?_) (λh=>?_)|refine F2 (by omega) (λy hy hm=>?_)|refine F6 (by omega) ?_
 ·refine C9 (qF _ _ _ _) ?_
  repeat' first|exact E4 (λh=>by first|exact hA ‹_›|exact hA h|cases h)|exact ih|assumption|exact ih (by omega) _ (λh=>by first|exact hA ‹_›|cases h)|exact H _ hA|refine U3 g hg (by omega) ?_|rw[G8 (by omega)]|rw[Dq (by omega)]|exact absurd ‹_› (by omega)|(exfalso;omega)|refine F5 ?_|refine D9 (λh=>?_) (λh=>?_)|refine G0 (λh=>?_) (λh=>?_)|refine D5 _ (λh=>?_) (λh=>?_)|refine F2 (by omega) (λy hy hm=>?_)|refine F6 (by omega) ?_
theorem a6e(A:Prop):∀i:Nat,∀b,(b=true->A)->Ex (λr=>r=true->A) (PT (i:Int) b p):=by
 have b1:=C5 hp.np;have b2:=C5 hp.ne;refine M0 (p.C3.length) (λi hi ih b hA=>?_) (λi hi b hA=>?_)
 ·obtain⟨g,hg,gm⟩:=Hf hi;refine C9 (nb _ _ _) ?_
  try rw[G8 (by omega)]
  repeat' first|exact E4 (λh=>by first|exact hA ‹_›|exact hA h|cases h)|exact ih|assumption|exact ot p hp A i hi g hg (hp.enums g gm) ih 1 (Nat.le_refl _) _ (λh=>by first|exact hA ‹_›|cases h)|rw[Dq (by omega)]|refine F5 ?_|refine D9 (λh=>?_) (λh=>?_)|refine G0 (λh=>?_) (λh=>?_)|refine D5 _ (λh=>?_) (λh=>?_)|refine F2 (by omega) (λy hy hm=>?_)|refine F6 (by omega) ?_
 ·refine C9 (nb _ _ _) ?_
  repeat' first|exact E4 (λh=>by first|exact hA ‹_›|exact hA h|cases h)|exact ih|assumption|exact ot p hp A i hi g hg (hp.enums g gm) ih 1 (Nat.le_refl _) _ (λh=>by first|exact hA ‹_›|cases h)|rw[Dq (by omega)]|exact absurd ‹_› (by omega)|(exfalso;omega)|refine F5 ?_|refine D9 (λh=>?_) (λh=>?_)|refine G0 (λh=>?_) (λh=>?_)|refine D5 _ (λh=>?_) (λh=>?_)|refine F2 (by omega) (λy hy hm=>?_)|refine F6 (by omega) ?_
theorem a0b(k:Nat)(hk:k<p.A7.length)(g:C2)(hg:p.A7[((k:Int)).toNat]? =some g)(og:Du g)(H:∀b,(b=true->∀j g,j<k+1->p.A7[j]? =some g->Asc g.Ops g.Ops.length)->Ex (λr=>r=true->∀g∈p.A7,Asc g.Ops g.Ops.length) (NK ((k+1:Nat):Int) b p)):
  ∀i:Nat,1<=i->(i=1\/i<=g.Ops.length)->∀b,(b=true->(∀j g,j<k->p.A7[j]? =some g->Asc g.Ops g.Ops.length)/\Asc g.Ops i)->Ex (λr=>r=true->∀g∈p.A7,Asc g.Ops g.Ops.length) (Kq (i:Int) b (k:Int) p):=by
 have b1:=C5 hp.np;have b2:=C5 hp.ne;have b3:=C5 og.n;have e3:((k:Int)).toNat=k:=by omega
 refine M0 g.Ops.length (λi hi ih h1 hi2 b hA=>?_) (λi hi h1 hi2 b hA=>?_)
 ·refine C9 (ka _ _ _ _) (U3 g hg (by omega) (D9 (λ_=>D5 _ (λhb=>?_) (λhb=>?_)) λh=>absurd (show(i:Int)<g.Ops.length by omega) h))
  ·rw[Dq (by omega),G8 (by omega)];refine U3 g hg (by omega) (F2 (by omega) λx hx hm=>U3 g hg (by omega) (F2 (by omega) λy hy hm2=>ih (by omega) (by omega) _ λh=>⟨(hA hb).1,?_⟩));have e1:(((i - 1:Nat):Int)).toNat=i - 1:=by omega
   have e2:((i:Int)).toNat=i:=by omega
   rw[e1]at hx;rw[e2]at hy;exact z7 (hA hb).2 hx hy (of_decide_eq_true h)
  ·rw[G8 (by omega)];exact ih (by omega) (by omega) _ λh=>by cases h
 ·refine C9 (ka _ _ _ _) (U3 g hg (by omega) (D9 (λh=>absurd h (by omega)) λ_=>?_));rw[G8 (by omega)];refine H _ λh=>Jx (hA h).1 (by rw[<-e3];exact hg) ?_
  rcases hi2 with e|e
  ·intro m x y hm;omega
  ·have:i=g.Ops.length:=by omega
   rw[<-this];exact(hA h).2
theorem rN:∀i:Nat,i<=p.A7.length->∀b,(b=true->∀j g,j<i->p.A7[j]? =some g->Asc g.Ops g.Ops.length)->Ex (λr=>r=true->∀g∈p.A7,Asc g.Ops g.Ops.length) (NK (i:Int) b p):=by
 have b1:=C5 hp.np;have b2:=C5 hp.ne;have b1:=C5 hp.np;have b2:=C5 hp.ne;refine M0 p.A7.length (λi hi ih hle b hA=>?_) (λi hi hle b hA=>?_)
 ·obtain⟨g,hg,gm⟩:=Hf hi;have fin:∀b',(b'=true->b=true)->Ex (λr=>r=true->∀g∈p.A7,Asc g.Ops g.Ops.length) (Kq 1 b' (i:Int) p):=λb' hb'=>a0b p hp i hi g hg (hp.Ez g gm) (λb h=>ih (by omega) b h) 1 (Nat.le_refl _) (.inl rfl) b' λh=>⟨hA (hb' h),λm x y hm=>by omega⟩
  refine C9 (kI _ _ _) (D9 (λ_=>F5 (D5 _ (λhb=>F5 ?_) λhb=>fin _ (λh=>by cases h))) λh=>absurd (show(i:Int)<p.A7.length by omega) h);refine D5 _ (λh=>fin _ λ_=>hb) λh=>?_
  have:0<i:=by simp at h;omega
  rw[Dq (by omega)];exact F2 (by omega) λ_ _ _=>F2 (by omega) λ_ _ _=>fin _ λ_=>hb
 ·refine C9 (kI _ _ _) (D9 (λh=>absurd h (by omega)) λ_=>a6e p hp _ 0 b λh=>MV (hA h) hi)
theorem rQ:Ex (λr=>r=true->∀g∈p.A7,Asc g.Ops g.Ops.length) (Xe p):=
 C9 (a8m _) (rN p hp 0 (Nat.zero_le _) true λ_ j g h=>by omega)
end
section
variable (p:A5) (hp:Ct p)
 include hp
theorem fu(k:Nat)(g:I2)(og:El g)(m:Nat)(hm:m<g.Items.length)(H:∀b,Ex yes (Ox ((m+1:Nat):Int) g (k:Int) b p)):∀i:Nat,∀b,Ex yes (OP (i:Int) (m:Int) g (k:Int) b p):=by
 have b1:=C5 hp.np;have b2:=C5 hp.ne;have b3:=C5 og.ni;have b4:=C5 og.nr;refine M0 (m) (λi hi ih b=>?_) (λi hi b=>?_)
 ·refine C9 (eJ _ _ _ _ _ _) ?_
  try rw[G8 (by omega)]
  repeat' first|exact E4 trivial|exact ih|assumption|exact ih _|rw[G8 (by omega)]|exact H _|refine F5 ?_|refine D9 (λh=>?_) (λh=>?_)|refine G0 (λh=>?_) (λh=>?_)|refine D5 _ (λh=>?_) (λh=>?_)|refine F2 (by omega) (λy hy hm=>?_)|refine F6 (by omega) ?_
 ·refine C9 (eJ _ _ _ _ _ _) ?_
  repeat' first|exact E4 trivial|exact ih|assumption|exact ih _|rw[G8 (by omega)]|exact H _|exact absurd ‹_› (by omega)|(exfalso;omega)|refine F5 ?_|refine D9 (λh=>?_) (λh=>?_)|refine G0 (λh=>?_) (λh=>?_)|refine D5 _ (λh=>?_) (λh=>?_)|refine F2 (by omega) (λy hy hm=>?_)|refine F6 (by omega) ?_
theorem pi(k:Nat)(g:I2)(og:El g)(H:∀b,Ex yes (OC ((k+1:Nat):Int) b p))(hk:k<p.C3.length):∀i:Nat,∀b,Ex yes (Ox (i:Int) g (k:Int) b p):=by
 have b1:=C5 hp.np;have b2:=C5 hp.ne;have b3:=C5 og.ni;have b4:=C5 og.nr;refine M0 (g.Items.length) (λi hi ih b=>?_) (λi hi b=>?_)
 ·refine C9 (qQ _ _ _ _ _) ?_
  try rw[G8 (by omega)]
  repeat' first|exact E4 trivial|exact ih|assumption|exact ih _|exact fu p hp k g og i hi ih 0 _|rw[G8 (by omega)]|exact H _|refine F5 ?_|refine D9 (λh=>?_) (λh=>?_)|refine G0 (λh=>?_) (λh=>?_)|refine D5 _ (λh=>?_) (λh=>?_)|refine F2 (by omega) (λy hy hm=>?_)|refine F6 (by omega) ?_
 ·refine C9 (qQ _ _ _ _ _) ?_
  repeat' first|exact E4 trivial|exact ih|assumption|exact ih _|exact fu p hp k g og i hi ih 0 _|rw[G8 (by omega)]|exact H _|exact absurd ‹_› (by omega)|(exfalso;omega)|refine F5 ?_|refine D9 (λh=>?_) (λh=>?_)|refine G0 (λh=>?_) (λh=>?_)|refine D5 _ (λh=>?_) (λh=>?_)|refine F2 (by omega) (λy hy hm=>?_)|refine F6 (by omega) ?_
theorem kz:∀i:Nat,∀b,Ex yes (OC (i:Int) b p):=by
 have b1:=C5 hp.np;have b2:=C5 hp.ne;refine M0 (p.C3.length) (λi hi ih b=>?_) (λi hi b=>?_)
 ·refine C9 (nk _ _ _) ?_
  try rw[G8 (by omega)]
  repeat' first|exact E4 trivial|exact ih|assumption|exact ih _|exact pi p hp i _ (hp.enums _ ‹_›) ih hi 0 _|refine F5 ?_|refine D9 (λh=>?_) (λh=>?_)|refine G0 (λh=>?_) (λh=>?_)|refine D5 _ (λh=>?_) (λh=>?_)|refine F2 (by omega) (λy hy hm=>?_)|refine F6 (by omega) ?_
 ·refine C9 (nk _ _ _) ?_
  repeat' first|exact E4 trivial|exact ih|assumption|exact ih _|exact pi p hp i _ (hp.enums _ ‹_›) ih hi 0 _|exact absurd ‹_› (by omega)|(exfalso;omega)|refine F5 ?_|refine D9 (λh=>?_) (λh=>?_)|refine G0 (λh=>?_) (λh=>?_)|refine D5 _ (λh=>?_) (λh=>?_)|refine F2 (by omega) (λy hy hm=>?_)|refine F6 (by omega) ?_
theorem jS(k:Nat)(g:C2)(og:Du g)(m:Nat)(hm:m<g.Ops.length)(H:∀b,Ex yes (Nd ((m+1:Nat):Int) g (k:Int) b p)):∀i:Nat,∀b,Ex yes (Nf (i:Int) (m:Int) g (k:Int) b p):=by
 have b1:=C5 hp.np;have b2:=C5 hp.ne;have b3:=C5 og.n;refine M0 (m) (λi hi ih b=>?_) (λi hi b=>?_)
 ·refine C9 (mL _ _ _ _ _ _) ?_
  try rw[G8 (by omega)]
  repeat' first|exact E4 trivial|exact ih|assumption|exact ih _|rw[G8 (by omega)]|exact H _|refine F5 ?_|refine D9 (λh=>?_) (λh=>?_)|refine G0 (λh=>?_) (λh=>?_)|refine D5 _ (λh=>?_) (λh=>?_)|refine F2 (by omega) (λy hy hm=>?_)|refine F6 (by omega) ?_
 ·refine C9 (mL _ _ _ _ _ _) ?_
  repeat' first|exact E4 trivial|exact ih|assumption|exact ih _|rw[G8 (by omega)]|exact H _|exact absurd ‹_› (by omega)|(exfalso;omega)|refine F5 ?_|refine D9 (λh=>?_) (λh=>?_)|refine G0 (λh=>?_) (λh=>?_)|refine D5 _ (λh=>?_) (λh=>?_)|refine F2 (by omega) (λy hy hm=>?_)|refine F6 (by omega) ?_
theorem oq(k:Nat)(g:C2)(og:Du g)(H:∀b,Ex yes (LB ((k+1:Nat):Int) b p))(hk:k<p.A7.length):∀i:Nat,∀b,Ex yes (Nd (i:Int) g (k:Int) b p):=by
 have b1:=C5 hp.np;have b2:=C5 hp.ne;have b3:=C5 og.n;refine M0 (g.Ops.length) (λi hi ih b=>?_) (λi hi b=>?_)
 ·refine C9 (nj _ _ _ _ _) ?_
  try rw[G8 (by omega)]
  repeat' first|exact E4 trivial|exact ih|assumption|exact ih _|exact jS p hp k g og i hi ih 0 _|rw[G8 (by omega)]|exact H _|refine F5 ?_|refine D9 (λh=>?_) (λh=>?_)|refine G0 (λh=>?_) (λh=>?_)|refine D5 _ (λh=>?_) (λh=>?_)|refine F2 (by omega) (λy hy hm=>?_)|refine F6 (by omega) ?_
 ·refine C9 (nj _ _ _ _ _) ?_
  repeat' first|exact E4 trivial|exact ih|assumption|exact ih _|exact jS p hp k g og i hi ih 0 _|rw[G8 (by omega)]|exact H _|exact absurd ‹_› (by omega)|(exfalso;omega)|refine F5 ?_|refine D9 (λh=>?_) (λh=>?_)|refine G0 (λh=>?_) (λh=>?_)|refine D5 _ (λh=>?_) (λh=>?_)|refine F2 (by omega) (λy hy hm=>?_)|refine F6 (by omega) ?_
theorem oN(k:Nat)(hk:k<p.A7.length)(H:∀b,Ex yes (LB ((k+1:Nat):Int) b p)):∀i:Nat,∀b,Ex yes (PY (i:Int) (k:Int) b p):=by
 have b1:=C5 hp.np;have b2:=C5 hp.ne;refine M0 (p.C3.length) (λi hi ih b=>?_) (λi hi b=>?_)
 ·refine C9 (qI _ _ _ _) ?_
  try rw[G8 (by omega)]
  repeat' first|exact E4 trivial|exact ih|assumption|exact ih _|exact oq p hp k _ (hp.Ez _ ‹_›) H hk 0 _|refine F5 ?_|refine D9 (λh=>?_) (λh=>?_)|refine G0 (λh=>?_) (λh=>?_)|refine D5 _ (λh=>?_) (λh=>?_)|refine F2 (by omega) (λy hy hm=>?_)|refine F6 (by omega) ?_
 ·refine C9 (qI _ _ _ _) ?_
  repeat' first|exact E4 trivial|exact ih|assumption|exact ih _|exact oq p hp k _ (hp.Ez _ ‹_›) H hk 0 _|exact absurd ‹_› (by omega)|(exfalso;omega)|refine F5 ?_|refine D9 (λh=>?_) (λh=>?_)|refine G0 (λh=>?_) (λh=>?_)|refine D5 _ (λh=>?_) (λh=>?_)|refine F2 (by omega) (λy hy hm=>?_)|refine F6 (by omega) ?_
theorem zN:∀i:Nat,∀b,Ex yes (LB (i:Int) b p):=by
 have b1:=C5 hp.np;have b2:=C5 hp.ne;refine M0 (p.A7.length) (λi hi ih b=>?_) (λi hi b=>?_)
 ·refine C9 (kA _ _ _) ?_
  try rw[G8 (by omega)]
  repeat' first|exact E4 trivial|exact ih|assumption|exact ih _|exact oN p hp i hi ih 0 _|exact kz p hp 0 _|refine F5 ?_|refine D9 (λh=>?_) (λh=>?_)|refine G0 (λh=>?_) (λh=>?_)|refine D5 _ (λh=>?_) (λh=>?_)|refine F2 (by omega) (λy hy hm=>?_)|refine F6 (by omega) ?_
 ·refine C9 (kA _ _ _) ?_
  repeat' first|exact E4 trivial|exact ih|assumption|exact ih _|exact oN p hp i hi ih 0 _|exact kz p hp 0 _|exact absurd ‹_› (by omega)|(exfalso;omega)|refine F5 ?_|refine D9 (λh=>?_) (λh=>?_)|refine G0 (λh=>?_) (λh=>?_)|refine D5 _ (λh=>?_) (λh=>?_)|refine F2 (by omega) (λy hy hm=>?_)|refine F6 (by omega) ?_
theorem rY:Ex yes (Zd p):=C9 (a22 _) (zN p hp 0 _)
theorem ub(l:b4c Ba)(hl:Sz l.length)(n:Int):∀i:Nat,Ex yes (OA (i:Int) l n):=by
 have b1:=C5 hp.np;have b2:=C5 hp.ne;have b1:=C5 hl;refine M0 (l.length) (λi hi ih=>?_) (λi hi=>?_)
 ·refine C9 (eF _ _ _) ?_;rw[G8 (by omega)]
  repeat' first|exact E4 trivial|exact ih|assumption|refine F5 ?_|refine D9 (λh=>?_) (λh=>?_)|refine G0 (λh=>?_) (λh=>?_)|refine D5 _ (λh=>?_) (λh=>?_)|refine F2 (by omega) (λy hy hm=>?_)|refine F6 (by omega) ?_
 ·refine C9 (eF _ _ _) ?_
  repeat' first|exact E4 trivial|exact ih|assumption|exact absurd ‹_› (by omega)|(exfalso;omega)|refine F5 ?_|refine D9 (λh=>?_) (λh=>?_)|refine G0 (λh=>?_) (λh=>?_)|refine D5 _ (λh=>?_) (λh=>?_)|refine F2 (by omega) (λy hy hm=>?_)|refine F6 (by omega) ?_
theorem na(l:b4c Ba)(hl:Sz l.length)(n:Int):Ex yes (cB l n):=C9 (a2i _ _) (ub p hp l hl n 0)
theorem iz(A:Prop)(k:Nat)(hk:k<p.C3.length)(g:I2)(og:El g)(H:∀b,(b=true->A)->Ex (λr=>r=true->A) (Ld ((k+1:Nat):Int) b p)):∀i:Nat,∀b,(b=true->A)->Ex (λr=>r=true->A) (Lb (i:Int) (k:Int) b p g):=by
 have b1:=C5 hp.np;have b2:=C5 hp.ne;have b3:=C5 og.ni;have b4:=C5 og.nr;refine M0 (g.Reserved.length) (λi hi ih b hA=>?_) (λi hi b hA=>?_)
 ·refine C9 (mR _ _ _ _ _) ?_
  try rw[G8 (by omega)]
  repeat' first|exact E4 (λh=>by first|exact hA ‹_›|exact hA h|cases h)|exact ih|assumption|exact ih _ (λh=>hA (by simp only[b3x]at*;simp[*]))|exact ih _ (λh=>by cases h)|rw[G8 (by omega)]|exact H _ hA|rw[Dq (by omega)]|refine F5 ?_|refine D9 (λh=>?_) (λh=>?_)|refine G0 (λh=>?_) (λh=>?_)|refine D5 _ (λh=>?_) (λh=>?_)|refine F2 (by omega) (λy hy hm=>?_)|refine F6 (by omega) ?_
 ·refine C9 (mR _ _ _ _ _) ?_
  repeat' first|exact E4 (λh=>by first|exact hA ‹_›|exact hA h|cases h)|exact ih|assumption|exact ih _ (λh=>hA (by simp only[b3x]at*;simp[*]))|exact ih _ (λh=>by cases h)|rw[G8 (by omega)]|exact H _ hA|rw[Dq (by omega)]|exact absurd ‹_› (by omega)|(exfalso;omega)|refine F5 ?_|refine D9 (λh=>?_) (λh=>?_)|refine G0 (λh=>?_) (λh=>?_)|refine D5 _ (λh=>?_) (λh=>?_)|refine F2 (by omega) (λy hy hm=>?_)|refine F6 (by omega) ?_
theorem jU(A:Prop)(k:Nat)(hk:k<p.C3.length)(g:I2)(og:El g)(H:∀b,(b=true->A)->Ex (λr=>r=true->A) (Ld ((k+1:Nat):Int) b p)):∀i:Nat,∀b,(b=true->A)->Ex (λr=>r=true->A) (Nl (i:Int) (k:Int) b p g):=by
 have b1:=C5 hp.np;have b2:=C5 hp.ne;have b3:=C5 og.ni;have b4:=C5 og.nr;refine M0 (g.Items.length) (λi hi ih b hA=>?_) (λi hi b hA=>?_)
 ·refine C9 (ng _ _ _ _ _) ?_
  try rw[G8 (by omega)]
  repeat' first|exact E4 (λh=>by first|exact hA ‹_›|exact hA h|cases h)|exact ih|assumption|exact ih _ (λh=>hA (by simp only[b3x]at*;simp[*]))|exact ih _ (λh=>by cases h)|exact iz p hp A k hk g og H 0 _ hA|refine F5 ?_|refine D9 (λh=>?_) (λh=>?_)|refine G0 (λh=>?_) (λh=>?_)|refine D5 _ (λh=>?_) (λh=>?_)|refine F2 (by omega) (λy hy hm=>?_)|refine F6 (by omega) ?_|refine K6 (na p hp _ og.nr _) (λy hq=>?_)
 ·refine C9 (ng _ _ _ _ _) ?_
  repeat' first|exact E4 (λh=>by first|exact hA ‹_›|exact hA h|cases h)|exact ih|assumption|exact ih _ (λh=>hA (by simp only[b3x]at*;simp[*]))|exact ih _ (λh=>by cases h)|exact iz p hp A k hk g og H 0 _ hA|exact absurd ‹_› (by omega)|(exfalso;omega)|refine F5 ?_|refine D9 (λh=>?_) (λh=>?_)|refine G0 (λh=>?_) (λh=>?_)|refine D5 _ (λh=>?_) (λh=>?_)|refine F2 (by omega) (λy hy hm=>?_)|refine F6 (by omega) ?_|refine K6 (na p hp _ og.nr _) (λy hq=>?_)
theorem a9s(A:Prop):∀i:Nat,∀b,(b=true->A)->Ex (λr=>r=true->A) (Ld (i:Int) b p):=by
 have b1:=C5 hp.np;have b2:=C5 hp.ne;refine M0 (p.C3.length) (λi hi ih b hA=>?_) (λi hi b hA=>?_)
 ·refine C9 (eU _ _ _) ?_
  try rw[G8 (by omega)]
  repeat' first|exact E4 (λh=>by first|exact hA ‹_›|exact hA h|cases h)|exact ih|assumption|exact jU p hp A i hi _ (hp.enums _ ‹_›) ih 0 _ hA|refine F5 ?_|refine D9 (λh=>?_) (λh=>?_)|refine G0 (λh=>?_) (λh=>?_)|refine D5 _ (λh=>?_) (λh=>?_)|refine F2 (by omega) (λy hy hm=>?_)|refine F6 (by omega) ?_
 ·refine C9 (eU _ _ _) ?_
  repeat' first|exact E4 (λh=>by first|exact hA ‹_›|exact hA h|cases h)|exact ih|assumption|exact jU p hp A i hi _ (hp.enums _ ‹_›) ih 0 _ hA|exact absurd ‹_› (by omega)|(exfalso;omega)|refine F5 ?_|refine D9 (λh=>?_) (λh=>?_)|refine G0 (λh=>?_) (λh=>?_)|refine D5 _ (λh=>?_) (λh=>?_)|refine F2 (by omega) (λy hy hm=>?_)|refine F6 (by omega) ?_
def EO(o:B0):Prop:=1<=o.Num/\o.Num<=65535
theorem us(k:Nat)(hk:k<p.A7.length)(g:C2)(hg:p.A7[((k:Int)).toNat]? =some g)(og:Du g)(H:∀b,(b=true->∀j g,j<k+1->p.A7[j]? =some g->∀o∈g.Ops,EO o)->Ex (λr=>r=true->∀g∈p.A7,∀o∈g.Ops,EO o) (OB ((k+1:Nat):Int) b p)):
  ∀i:Nat,∀b,(b=true->(∀j g,j<k->p.A7[j]? =some g->∀o∈g.Ops,EO o)/\∀j o,j<i->g.Ops[j]? =some o->EO o)->Ex (λr=>r=true->∀g∈p.A7,∀o∈g.Ops,EO o) (RJ (i:Int) (k:Int) b p):=by
 have b1:=C5 hp.np;have b2:=C5 hp.ne;have b3:=C5 og.n;have e3:((k:Int)).toNat=k:=by omega
 refine M0 g.Ops.length (λi hi ih b hA=>?_) (λi hi b hA=>?_)
 ·refine C9 (lB _ _ _ _) (U3 g hg (by omega) (D9 (λ_=>U3 g hg (by omega) (F2 (by omega) λy hy hm=>?_)) λh=>absurd (show(i:Int)<g.Ops.length by omega) h));rw[G8 (by omega)];refine ih _ λh=>?_
  simp only[b3x,b3v]at h;have e2:((i:Int)).toNat=i:=by omega
  rw[e2]at hy;exact⟨(hA h.1.1).1,Jx (hA h.1.1).2 hy ⟨h.1.2,h.2⟩⟩
 ·refine C9 (lB _ _ _ _) (U3 g hg (by omega) (D9 (λh=>absurd h (by omega)) λ_=>?_));rw[G8 (by omega)];exact H _ λh=>Jx (hA h).1 (by rw[<-e3];exact hg) (MV (hA h).2 hi)
theorem a7t:∀i:Nat,∀b,(b=true->∀j g,j<i->p.A7[j]? =some g->∀o∈g.Ops,EO o)->Ex (λr=>r=true->∀g∈p.A7,∀o∈g.Ops,EO o) (OB (i:Int) b p):=by
 have b1:=C5 hp.np;have b2:=C5 hp.ne;have b1:=C5 hp.np;have b2:=C5 hp.ne;refine M0 p.A7.length (λi hi ih b hA=>?_) (λi hi b hA=>?_)
 ·obtain⟨g,hg,gm⟩:=Hf hi;exact C9 (pS _ _ _) (D9 (λ_=>us p hp i hi g hg (hp.Ez g gm) ih 0 b λh=>⟨hA h,λj o hj=>by omega⟩) λh=>absurd (show(i:Int)<p.A7.length by omega) h)
 ·exact C9 (pS _ _ _) (D9 (λh=>absurd h (by omega)) λ_=>a9s p hp _ 0 b λh=>MV (hA h) hi)
theorem a84:Ex (λr=>r=true->∀g∈p.A7,∀o∈g.Ops,EO o) (ZX p):=C9 (zo _) (a7t p hp 0 true λ_ j g h=>by omega)
end
theorem sf(b:b4e)(s:b4b):Ex yes (MZ b s):=by
 refine C9 (a34 _ _) ?_
 repeat' first|exact E4 trivial|exact ih|assumption|refine F5 ?_|refine D9 (λh=>?_) (λh=>?_)|refine G0 (λh=>?_) (λh=>?_)|refine D5 _ (λh=>?_) (λh=>?_)|refine F2 (by omega) (λy hy hm=>?_)|refine F6 (by omega) ?_
theorem z8(b:b4e)(s:b4b):Ex yes (LL b s):=by
 refine C9 (yE _ _) ?_
 repeat' first|exact E4 trivial|exact ih|assumption|exact sf _ s|refine F5 ?_|refine D9 (λh=>?_) (λh=>?_)|refine G0 (λh=>?_) (λh=>?_)|refine D5 _ (λh=>?_) (λh=>?_)|refine F2 (by omega) (λy hy hm=>?_)|refine F6 (by omega) ?_
theorem uE(b:b4e)(s:b4b):Ex yes (PV b s):=by
 refine C9 (a85 _ _) ?_
 repeat' first|exact E4 trivial|exact ih|assumption|exact z8 _ s|refine F5 ?_|refine D9 (λh=>?_) (λh=>?_)|refine G0 (λh=>?_) (λh=>?_)|refine D5 _ (λh=>?_) (λh=>?_)|refine F2 (by omega) (λy hy hm=>?_)|refine F6 (by omega) ?_
theorem XQ(s:b4b):Ex yes (Tk s):=by
 refine C9 (b0f _) ?_
 repeat' first|exact E4 trivial|exact ih|assumption|exact uE _ s|refine F5 ?_|refine D9 (λh=>?_) (λh=>?_)|refine G0 (λh=>?_) (λh=>?_)|refine D5 _ (λh=>?_) (λh=>?_)|refine F2 (by omega) (λy hy hm=>?_)|refine F6 (by omega) ?_
theorem rS(b:b4e)(t:Int):Ex yes (NN b t):=by
 refine C9 (b14 _ _) ?_
 repeat' first|exact E4 trivial|exact ih|assumption|refine F5 ?_|refine D9 (λh=>?_) (λh=>?_)|refine G0 (λh=>?_) (λh=>?_)|refine D5 _ (λh=>?_) (λh=>?_)|refine F2 (by omega) (λy hy hm=>?_)|refine F6 (by omega) ?_
theorem xC(b:b4e)(s:b4b)(t:Int):Ex yes (LM b s t):=by
 refine C9 (tF _ _ _) ?_
 repeat' first|exact E4 trivial|exact ih|assumption|exact rS _ t|refine F5 ?_|refine D9 (λh=>?_) (λh=>?_)|refine G0 (λh=>?_) (λh=>?_)|refine D5 _ (λh=>?_) (λh=>?_)|refine F2 (by omega) (λy hy hm=>?_)|refine F6 (by omega) ?_
theorem a2b(b:b4e)(s:b4b)(t:Int):Ex yes (Pl b s t):=by
 refine C9 (l8 _ _ _) ?_
 repeat' first|exact E4 trivial|exact ih|assumption|exact xC _ s t|refine F5 ?_|refine D9 (λh=>?_) (λh=>?_)|refine G0 (λh=>?_) (λh=>?_)|refine D5 _ (λh=>?_) (λh=>?_)|refine F2 (by omega) (λy hy hm=>?_)|refine F6 (by omega) ?_
theorem a4u(b:b4e)(s:b4b)(t:Int):Ex yes (Rp b s t):=by
 refine C9 (vg _ _ _) ?_
 repeat' first|exact E4 trivial|exact ih|assumption|exact a2b _ s t|refine F5 ?_|refine D9 (λh=>?_) (λh=>?_)|refine G0 (λh=>?_) (λh=>?_)|refine D5 _ (λh=>?_) (λh=>?_)|refine F2 (by omega) (λy hy hm=>?_)|refine F6 (by omega) ?_
theorem fa(s:b4b)(t:Int):Ex yes (Yi s t):=by
 refine C9 (a4w _ _) ?_
 repeat' first|exact E4 trivial|exact ih|assumption|exact a4u _ s t|refine F5 ?_|refine D9 (λh=>?_) (λh=>?_)|refine G0 (λh=>?_) (λh=>?_)|refine D5 _ (λh=>?_) (λh=>?_)|refine F2 (by omega) (λy hy hm=>?_)|refine F6 (by omega) ?_
theorem mN(n:Z5)(hn:Je n):Ex yes (bC n):=by
 refine C9 (m5 _) ?_
 repeat' first|exact E4 trivial|exact ih|assumption|refine Pq (Te _ _ hn.val.okv) ?_|refine F5 ?_|refine D9 (λh=>?_) (λh=>?_)|refine G0 (λh=>?_) (λh=>?_)|refine D5 _ (λh=>?_) (λh=>?_)|refine F2 (by omega) (λy hy hm=>?_)|refine F6 (by omega) ?_|refine K6 (XQ _) (λy hq=>?_)
theorem zD(l:b4c Z5)(hl:Sz l.length)(hn:∀n∈l,Je n)(t:Int):∀i:Nat,Ex yes (Pi (i:Int) l t):=by
 have b1:=C5 hl;refine M0 (l.length) (λi hi ih=>?_) (λi hi=>?_)
 ·refine C9 (pQ _ _ _) ?_;rw[G8 (by omega)]
  repeat' first|exact E4 trivial|exact ih|assumption|rw[Dq (by omega)]|refine F5 ?_|refine D9 (λh=>?_) (λh=>?_)|refine G0 (λh=>?_) (λh=>?_)|refine D5 _ (λh=>?_) (λh=>?_)|refine F2 (by omega) (λy hy hm=>?_)|refine F6 (by omega) ?_|refine K6 (XQ _) (λy hq=>?_)|refine K6 (fa _ _) (λy hq=>?_)|refine K6 (mN _ (hn _ (by assumption))) (λy hq=>?_)
 ·refine C9 (pQ _ _ _) ?_
  repeat' first|exact E4 trivial|exact ih|assumption|rw[Dq (by omega)]|exact absurd ‹_› (by omega)|(exfalso;omega)|refine F5 ?_|refine D9 (λh=>?_) (λh=>?_)|refine G0 (λh=>?_) (λh=>?_)|refine D5 _ (λh=>?_) (λh=>?_)|refine F2 (by omega) (λy hy hm=>?_)|refine F6 (by omega) ?_|refine K6 (XQ _) (λy hq=>?_)|refine K6 (fa _ _) (λy hq=>?_)|refine K6 (mN _ (hn _ (by assumption))) (λy hq=>?_)
theorem fM(l:b4c Z5)(hl:Sz l.length)(hn:∀n∈l,Je n)(t:Int):Ex yes (XZ l t):=by
 refine C9 (b0z _ _) ?_
 repeat' first|exact E4 trivial|exact ih|assumption|exact zD l hl hn t 0|refine F5 ?_|refine D9 (λh=>?_) (λh=>?_)|refine G0 (λh=>?_) (λh=>?_)|refine D5 _ (λh=>?_) (λh=>?_)|refine F2 (by omega) (λy hy hm=>?_)|refine F6 (by omega) ?_
theorem b0s(p:A5)(o:B0):Ex (λr=>r=true->(o.Kind=10->0<=o.Target/\o.Target<p.A7.length/\o.D6≠3)/\(o.Kind=9->0<=o.Target/\o.Target<p.C3.length)/\(o.Kind≠9->o.Kind≠10->o.Target= -1)) (Xh p o):=by
 refine C9 (b2q _ _) (D5 _ (λh=>E4 λh2=>?_) λh=>D5 _ (λh3=>E4 λh2=>?_) λh3=>E4 λh2=>?_)
 all_goals simp only[b3x,b3v,bne_iff_ne,beq_iff_eq,beq_eq_false_iff_ne,ne_eq]at*
 ·exact⟨λ_=>⟨h2.1.1,h2.1.2,h2.2⟩,λh=>by omega,λh=>by omega⟩
 ·exact⟨λh=>by omega,λ_=>h2,λh=>by omega⟩
 ·exact⟨λh=>by omega,λh=>by omega,λ_ _=>h2⟩
theorem mC(p:A5)(o:B0)(b:b4e):Ex (λr=>r=true->b=true/\(o.Kind=10->0<=o.Target/\o.Target<p.A7.length/\o.D6≠3)/\(o.Kind=9->0<=o.Target/\o.Target<p.C3.length)/\(o.Kind≠9->o.Kind≠10->o.Target= -1)/\(o.Union= -1\/o.D6=2)) (RC b p o):=by
 refine C9 (rJ _ _ _) (F5 (D5 _ (λh=>K6 (b0s p o) λy hy=>E4 λh2=>?_) λh=>E4 λh2=>?_))
 ·simp only[b3x,Bool.or_eq_true,beq_iff_eq]at h2;obtain⟨a1,a2,a3⟩:=hy h2.1;exact⟨h,a1,a2,a3,h2.2⟩
 ·simp at h2
theorem a9t(p:A5)(o:B0)(ho:Nh o):Ex (λr=>r=true->Es p o) (Zc p o):=by
 refine C9 (rF _ _) (Pq (YB _ ho.b3h) (D5 _ (λh=>E4 λh2=>by cases h2) λh=>D5 _ (λh2=>aN (mC p o _) λr hr h3=>?_) λh2=>aN (mC p o _) λr hr h3=>?_))
 all_goals
  obtain⟨a0,a1,a2,a3,a4⟩:=hr h3;simp only[Bool.or_eq_false_iff,b3w,bne_iff_ne,bne_eq_false_iff_eq,ne_eq,Bool.or_eq_true,b3x,b3v,beq_iff_eq]at h h2 a0;refine⟨by omega,by omega,⟨λ_=>by omega,λ_=>by omega⟩,a1,a2,a3,a4⟩
def CZ(o:B0):Prop:= -1<=o.Union
theorem sh(g:C2)(hg:Du g):∀i:Nat,∀n:Nat,n<=i/\i<=g.Ops.length->(∀j o,j<i->g.Ops[j]? =some o->CZ o)->Ex (λr=>r=true->∀o∈g.Ops,CZ o) (LY (i:Int) (n:Int) g):=by
 have b1:=C5 hg.n;refine M0 g.Ops.length (λi hi ih n hn hA=>?_) (λi hi n hn hA=>?_)
 ·have e2:((i:Int)).toNat=i:=by omega
  refine C9 (eG _ _ _) (D9 (λ_=>F2 (by omega) λy hy hm=>?_) λh=>absurd (show(i:Int)<g.Ops.length by omega) h);rw[G8 (by omega),G8 (by omega)];have hy':=hy;rw[e2]at hy';refine D5 _ (λh=>ih _ (by omega) (Jx hA hy' ?_)) λh=>F5 ?_
  ·simp only[beq_iff_eq]at h;unfold CZ;omega
  have no:∀b,(b=false->CZ y)->Ex (α:=b4e) (λr=>r=true->∀o∈g.Ops,CZ o) (λr=>(b=true->r=false)/\(b=false->LY ((i+1:Nat):Int) (n:Int) g r)):=λb hb=>D5 b (λ_=>E4 λh=>by cases h) λh=>ih _ (by omega) (Jx hA hy' (hb h))
  refine D5 _ (λh2=>D5 _ (λh3=>no _ λh=>by cases h) λh3=>?_) λh2=>no _ λ_=>?_
  ·have:0<i:=by simp only[beq_eq_false_iff_ne]at h3;omega
   rw[Dq (by omega)];refine F2 (by omega) λz hz _=>no _ λh=>?_
   have e3:(((i - 1:Nat):Int)).toNat=i - 1:=by omega
   rw[e3]at hz;have:=hA (i - 1) z (by omega) hz;simp only[bne_eq_false_iff_eq]at h;unfold CZ at*;omega
  ·simp only[bne_eq_false_iff_eq]at h2;unfold CZ;omega
 ·exact C9 (eG _ _ _) (D9 (λh=>absurd h (by omega)) λ_=>E4 λ_=>MV hA hi)
theorem tu(g:C2)(hg:Du g):Ex (λr=>r=true->∀o∈g.Ops,CZ o) (XG g):=C9 (a0j _) (sh g hg 0 0 (by omega) λj o h=>by omega)
section
variable (p:A5) (hp:Ct p)
 include hp
def Cx(g:C2):Prop:=(∀o∈g.Ops,CZ o)/\∀o∈g.Ops,Es p o
theorem yy(k:Nat)(hk:k<p.A7.length)(g:C2)(hg:p.A7[((k:Int)).toNat]? =some g)(og:Du g)(H:∀b,(b=true->∀j g,j<k+1->p.A7[j]? =some g->Cx p g)->Ex (λr=>r=true->∀g∈p.A7,Cx p g) (PP ((k+1:Nat):Int) b p)):
  ∀i:Nat,∀b,(b=true->(∀j g,j<k->p.A7[j]? =some g->Cx p g)/\(∀o∈g.Ops,CZ o)/\∀j o,j<i->g.Ops[j]? =some o->Es p o)->Ex (λr=>r=true->∀g∈p.A7,Cx p g) (Mw (i:Int) b (k:Int) p):=by
 have b1:=C5 hp.np;have b2:=C5 hp.ne;have b3:=C5 og.n;have e3:((k:Int)).toNat=k:=by omega
 refine M0 g.Ops.length (λi hi ih b hA=>?_) (λi hi b hA=>?_)
 ·refine C9 (jt _ _ _ _) (U3 g hg (by omega) (D9 (λ_=>?_) λh=>absurd (show(i:Int)<g.Ops.length by omega) h));rw[G8 (by omega)];refine D5 _ (λhb=>U3 g hg (by omega) (F2 (by omega) λy hy hm=>K6 (a9t p y (og.ops y hm)) λz hz=>ih _ λh=>?_)) λhb=>ih _ λh=>by cases h
  have e2:((i:Int)).toNat=i:=by omega
  rw[e2]at hy;exact⟨(hA hb).1,(hA hb).2.1,Jx (hA hb).2.2 hy (hz h)⟩
 ·refine C9 (jt _ _ _ _) (U3 g hg (by omega) (D9 (λh=>absurd h (by omega)) λ_=>?_));rw[G8 (by omega)];exact H _ λh=>Jx (hA h).1 (by rw[<-e3];exact hg) ⟨(hA h).2.1,MV (hA h).2.2 hi⟩
theorem oj:∀i:Nat,∀b,(b=true->∀j g,j<i->p.A7[j]? =some g->Cx p g)->Ex (λr=>r=true->∀g∈p.A7,Cx p g) (PP (i:Int) b p):=by
 have b1:=C5 hp.np;have b2:=C5 hp.ne;refine M0 p.A7.length (λi hi ih b hA=>?_) (λi hi b hA=>?_)
 ·obtain⟨g,hg,gm⟩:=Hf hi;have go:=yy p hp i hi g hg (hp.Ez g gm) ih 0;exact C9 (jJ _ _ _) (D9 (λ_=>F5 (D5 _ (λhb=>U3 g hg (by omega) (K6 (tu g (hp.Ez g gm)) λy hy=>go _ λh=>⟨hA hb,hy h,λj o hj=>by omega⟩)) λhb=>go _ λh=>by cases h)) λh=>absurd (show(i:Int)<p.A7.length by omega) h)
 ·exact C9 (jJ _ _ _) (D9 (λh=>absurd h (by omega)) λ_=>E4 λh=>MV (hA h) hi)
theorem pX(k:Nat)(hk:k<p.C3.length)(g:I2)(hg:p.C3[((k:Int)).toNat]? =some g)(og:El g)(H:∀b,Ex (λr=>r=true->∀g∈p.A7,Cx p g) (Ob ((k+1:Nat):Int) b p)):∀i:Nat,∀b,Ex (λr=>r=true->∀g∈p.A7,Cx p g) (Jn (i:Int) b (k:Int) p):=by
 have b1:=C5 hp.np;have b2:=C5 hp.ne;have b3:=C5 og.ni;refine M0 (g.Items.length) (λi hi ih b=>?_) (λi hi b=>?_)
 ·refine C9 (qG _ _ _ _) ?_
  try rw[G8 (by omega)]
  repeat' first|exact E4 trivial|exact ih|assumption|exact ih _|exact H _|refine U3 g hg (by omega) ?_|rw[G8 (by omega)]|refine F5 ?_|refine D9 (λh=>?_) (λh=>?_)|refine G0 (λh=>?_) (λh=>?_)|refine D5 _ (λh=>?_) (λh=>?_)|refine F2 (by first|omega|(simp only[beq_iff_eq]at*;omega)) (λy hy hm=>?_)|refine F6 (by first|omega|(simp only[beq_iff_eq]at*;omega)) ?_|refine K6 (fM _ (og.items _ ‹_›).nn (og.items _ ‹_›).notes _) (λy hq=>?_)
 ·refine C9 (qG _ _ _ _) ?_
  repeat' first|exact E4 trivial|exact ih|assumption|exact ih _|exact H _|refine U3 g hg (by omega) ?_|rw[G8 (by omega)]|exact absurd ‹_› (by omega)|(exfalso;omega)|refine F5 ?_|refine D9 (λh=>?_) (λh=>?_)|refine G0 (λh=>?_) (λh=>?_)|refine D5 _ (λh=>?_) (λh=>?_)|refine F2 (by first|omega|(simp only[beq_iff_eq]at*;omega)) (λy hy hm=>?_)|refine F6 (by first|omega|(simp only[beq_iff_eq]at*;omega)) ?_|refine K6 (fM _ (og.items _ ‹_›).nn (og.items _ ‹_›).notes _) (λy hq=>?_)
theorem wA:∀i:Nat,∀b,Ex (λr=>r=true->∀g∈p.A7,Cx p g) (Ob (i:Int) b p):=by
 have b1:=C5 hp.np;have b2:=C5 hp.ne;refine M0 (p.C3.length) (λi hi ih b=>?_) (λi hi b=>?_)
 ·obtain⟨g,hg,gm⟩:=Hf hi;refine C9 (fO _ _ _) ?_
  try rw[G8 (by omega)]
  repeat' first|exact E4 trivial|exact ih|assumption|exact ih _|exact pX p hp i hi g hg (hp.enums g gm) ih 0 _|exact oj p hp 0 _ (λ_ j g h=>by omega)|refine U3 g hg (by omega) ?_|refine F5 ?_|refine D9 (λh=>?_) (λh=>?_)|refine G0 (λh=>?_) (λh=>?_)|refine D5 _ (λh=>?_) (λh=>?_)|refine F2 (by omega) (λy hy hm=>?_)|refine F6 (by omega) ?_
 ·refine C9 (fO _ _ _) ?_
  repeat' first|exact E4 trivial|exact ih|assumption|exact ih _|exact pX p hp i hi g hg (hp.enums g gm) ih 0 _|exact oj p hp 0 _ (λ_ j g h=>by omega)|refine U3 g hg (by omega) ?_|exact absurd ‹_› (by omega)|(exfalso;omega)|refine F5 ?_|refine D9 (λh=>?_) (λh=>?_)|refine G0 (λh=>?_) (λh=>?_)|refine D5 _ (λh=>?_) (λh=>?_)|refine F2 (by omega) (λy hy hm=>?_)|refine F6 (by omega) ?_
theorem a4n:Ex (λr=>r=true->∀g∈p.A7,Cx p g) (ct p):=C9 (a0l _) (wA p hp 0 _)
variable (hF:∀g∈p.A7,Cx p g)
 include hF
theorem sj(k:Nat)(hk:k<p.A7.length)(g:C2)(hg:p.A7[((k:Int)).toNat]? =some g)(gm:g∈p.A7)(m:Int)(c:b4e)(H:∀b (l:b4c b4e),l.length=p.A7.length->Ex yes (Ny ((k+1:Nat):Int) b m p l)):
  ∀i:Nat,∀b (l:b4c b4e),l.length=p.A7.length->Ex yes (Kv (i:Int) b (k:Int) c m p l):=by
 have b1:=C5 hp.np;have b2:=C5 hp.ne;have b3:=C5 (hp.Ez g gm).n;refine M0 g.Ops.length (λi hi ih b l hl=>?_) (λi hi b l hl=>?_)
 ·refine C9 (kh _ _ _ _ _ _ _) (U3 g hg (by omega) (D9 (λ_=>U3 g hg (by omega) (F2 (by omega) λy hy hm=>?_)) λh=>absurd (show(i:Int)<g.Ops.length by omega) h));rw[G8 (by omega)];refine D5 _ (λhb=>D5 _ (λh=>ih _ l hl) λh=>?_) λhb=>ih _ l hl
  have h10:y.Kind=10:=by simp only[Bool.or_eq_false_iff,bne_eq_false_iff_eq]at h;exact h.2
  have ht:=((hF g gm).2 y hm).msg h10;refine F6 (by omega) (Pq (b3y (show y.Target.toNat<l.length by omega)) (ih _ l hl))
 ·refine C9 (kh _ _ _ _ _ _ _) (U3 g hg (by omega) (D9 (λh=>absurd h (by omega)) λ_=>F6 (by omega) (F6 (by omega) ?_)));rw[G8 (by omega)];exact H _ _ (by simpa using hl)
theorem b0x(m:Nat)(hm:m<p.A7.length)(H:∀b (l:b4c b4e),l.length=p.A7.length->Ex yes (Ol ((m+1:Nat):Int) p b l)):
  ∀i:Nat,∀b (l:b4c b4e),l.length=p.A7.length->Ex yes (Ny (i:Int) b (m:Int) p l):=by
 have b1:=C5 hp.np;refine M0 p.A7.length (λi hi ih b l hl=>?_) (λi hi b l hl=>?_)
 ·obtain⟨g,hg,gm⟩:=Hf hi;exact C9 (gX _ _ _ _ _) (D9 (λ_=>sj p hp hF i hi g hg gm m b ih 0 true l hl) λh=>absurd (show(i:Int)<p.A7.length by omega) h)
 ·refine C9 (gX _ _ _ _ _) (D9 (λh=>absurd h (by omega)) λ_=>?_);rw[G8 (by omega)];exact H _ l hl
theorem rg:∀i:Nat,∀b (l:b4c b4e),l.length=p.A7.length->Ex yes (Ol (i:Int) p b l):=by
 refine M0 p.A7.length (λi hi ih b l hl=>?_) (λi hi b l hl=>?_)
 ·exact C9 (lU _ _ _ _) (D9 (λ_=>b0x p hp hF i hi ih 0 true l hl) λh=>absurd (show(i:Int)<p.A7.length by omega) h)
 ·exact C9 (lU _ _ _ _) (D9 (λh=>absurd h (by omega)) λ_=>E4 trivial)
theorem a8q:Ex yes (Yd p):=by
 have b1:=C5 hp.np;exact C9 (vI _) (F6 (by omega) (rg p hp hF 0 _ _ (by simp)))
end
structure ZU(p:A5):Prop where
 qv:∀g∈p.A7,Asc g.Ops g.Ops.length
 num:∀g∈p.A7,∀o∈g.Ops,EO o
 Mh:∀g∈p.A7,Cx p g
section
open Go.Shelf
def Tryz.laysM171_ren:Go.Shelf.Ren:=⟨λ|171=>76|243=>141|246=>191|283=>193|284=>194|285=>195|286=>196|129=>228|317=>227|318=>229|319=>230|320=>231|337=>271|338=>272|n=>n,λ|3=>3|9=>9|2=>2|4=>4|171=>226|0=>0|53=>26|37=>66|5=>5|173=>228|212=>258|51=>182|20=>20|213=>259|46=>131|232=>305|233=>306|n=>n,λ|17=>1|18=>4|19=>5|n=>n⟩
theorem Tryz.laysM171:Go.Proofs.LaysM.n171 Tryz.prog Tryz.laysM171_ren:={
 mixed:=by kernel_rfl
 f129:=Tryz.func228.trans (congrArg some (by kernel_rfl))
 f171:=Tryz.func76.trans (congrArg some (by kernel_rfl))
 f243:=Tryz.func141.trans (congrArg some (by kernel_rfl))
 f246:=Tryz.func191.trans (congrArg some (by kernel_rfl))
 f283:=Tryz.func193.trans (congrArg some (by kernel_rfl))
 f284:=Tryz.func194.trans (congrArg some (by kernel_rfl))
 f285:=Tryz.func195.trans (congrArg some (by kernel_rfl))
 f286:=Tryz.func196.trans (congrArg some (by kernel_rfl))
 f317:=Tryz.func227.trans (congrArg some (by kernel_rfl))
 f318:=Tryz.func229.trans (congrArg some (by kernel_rfl))
 f319:=Tryz.func230.trans (congrArg some (by kernel_rfl))
 f320:=Tryz.func231.trans (congrArg some (by kernel_rfl))
 f337:=Tryz.func271.trans (congrArg some (by kernel_rfl))
 f338:=Tryz.func272.trans (congrArg some (by kernel_rfl))
 t0:=Tryz.underlying0
 a0:=Tryz.isAgg0
 z0:=Tryz.sizeOf0
 v0:=Tryz.zeroValue0
 t2:=Tryz.underlying2
 a2:=Tryz.isAgg2
 z2:=Tryz.sizeOf2
 v2:=Tryz.zeroValue2
 t3:=Tryz.underlying3
 a3:=Tryz.isAgg3
 z3:=Tryz.sizeOf3
 v3:=Tryz.zeroValue3
 t4:=Tryz.underlying4
 a4:=Tryz.isAgg4
 z4:=Tryz.sizeOf4
 v4:=Tryz.zeroValue4
 t5:=Tryz.underlying5
 a5:=Tryz.isAgg5
 z5:=Tryz.sizeOf5
 v5:=Tryz.zeroValue5
 t9:=Tryz.underlying9
 a9:=Tryz.isAgg9
 z9:=Tryz.sizeOf9
 v9:=Tryz.zeroValue9
 t20:=Tryz.underlying20
 a20:=Tryz.isAgg20
 z20:=Tryz.sizeOf20
 v20:=Tryz.zeroValue20
 t37:=Tryz.underlying66
 a37:=Tryz.isAgg66
 z37:=Tryz.sizeOf66
 v37:=Tryz.zeroValue66
 t46:=Tryz.underlying131
 a46:=Tryz.isAgg131
 z46:=Tryz.sizeOf131
 v46:=Tryz.zeroValue131
 t51:=Tryz.underlying182
 a51:=Tryz.isAgg182
 z51:=Tryz.sizeOf182
 v51:=Tryz.zeroValue182
 t53:=Tryz.underlying26
 a53:=Tryz.isAgg26
 z53:=Tryz.sizeOf26
 v53:=Tryz.zeroValue26
 t171:=Tryz.underlying226
 a171:=Tryz.isAgg226
 z171:=Tryz.sizeOf226
 v171:=Tryz.zeroValue226
 t173:=Tryz.underlying228
 a173:=Tryz.isAgg228
 z173:=Tryz.sizeOf228
 v173:=Tryz.zeroValue228
 t212:=Tryz.underlying258
 a212:=Tryz.isAgg258
 z212:=Tryz.sizeOf258
 v212:=Tryz.zeroValue258
 t213:=Tryz.underlying259
 a213:=Tryz.isAgg259
 z213:=Tryz.sizeOf259
 t232:=Tryz.underlying305
 a232:=Tryz.isAgg305
 z232:=Tryz.sizeOf305
 v232:=Tryz.zeroValue305
 t233:=Tryz.underlying306
 a233:=Tryz.isAgg306
 z233:=Tryz.sizeOf306
 v233:=Tryz.zeroValue306
 g17:=by kernel_rfl
 g18:=by kernel_rfl
 g19:=by kernel_rfl
 i0:=by kernel_rfl
 i2:=by kernel_rfl
 i3:=by kernel_rfl
 i4:=by kernel_rfl
 i5:=by kernel_rfl
 i9:=by kernel_rfl
 i20:=by kernel_rfl
 i37:=by kernel_rfl
 i46:=by kernel_rfl
 i51:=by kernel_rfl
 i53:=by kernel_rfl
 i171:=by kernel_rfl
 i173:=by kernel_rfl
 i212:=by kernel_rfl
 i232:=by kernel_rfl
 i233:=by kernel_rfl
 m17:=by kernel_rfl
 m18:=by kernel_rfl
 m19:=by kernel_rfl}
open Go.RowKit Go.Sort Go.Lib in
theorem Tryz.strconv_Itoa(n:Int)(h0: -9223372036854775808<=n)(h1:n<=9223372036854775807)(w:World)(htab:Lib.TabIs Tryz.prog w "internal/strconv.uint64pow10" .u64 Lib.pow10Tab):
  Calls Tryz.prog 76 #[.int .i64 n] w λe w'=>e=.returned (.string ⟨(Lib.itoa n).toArray⟩)/\∃k os,w'=grow (w.drewN k) os:=Any.strconv_Itoa Tryz.laysM171 n h0 h1 w htab
end
section
open Go.Shelf Go.RowKit Go.Sort Go.Lib
section
variable {P:Program}{ρ:Ren}
def Ch(g:Nat)(w:World):Prop:=∀i,i<20->w.cell? ⟨g,i,none⟩=some (.int .u64 ((10 ^ i:Nat):Int))
theorem Ch.below{g:Nat}{w w':World}(h:Ch g w)(hb:Below w.heap.size w w'):Ch g w':=by
 intro i hi;have h1:=h i hi
 have hlt:g<w.heap.size:=by
  rcases Nat.lt_or_ge g w.heap.size with h'|h'
  ·exact h'
  ·simp[World.cell?,Array.getElem?_eq_none h']at h1
 have h2:=hb.block g hlt;simp only[World.cell?]at h1 ⊢;rw[h2];exact h1
end
theorem gP(i:Nat)(hi:i<100)(w:World):Calls Tryz.prog 193 #[.int .i64 i] w λe w'=>e=.returned (.string ⟨(Lib.decDigits i).toArray⟩)/\w'=w:=
 Any.internal_strconv_small (ρ:=Tryz.laysM171_ren) {Tryz.laysM171 with} i hi w
theorem vP(x:Int)(w:World)(h0:0<=x)(h1:x<=18446744073709551615):Calls Tryz.prog 228 #[.int .u64 x] w λe w'=>e=.returned (.int .i64 (Lib.bitLen x.toNat))/\w'=w:=Any.bits_Len64 (ρ:=Tryz.laysM171_ren) {Tryz.laysM171 with} x w h0 h1
theorem zd(x:Nat)(h:x<=64)(w:World):Calls Tryz.prog 227 #[.int .i64 x] w λe w'=>e=.returned (.int .i64 (Lib.l10 x))/\w'=w:=Any.internal_strconv_log10Pow2 (ρ:=Tryz.laysM171_ren) {Tryz.laysM171 with} x h w
theorem b0t(b:b4e)(w:World):Calls Tryz.prog 229 #[.bool b] w λe w'=>e=.returned (.int .i64 (if b then 1 else 0))/\w'=w:=Any.internal_strconv_bool2_int (ρ:=Tryz.laysM171_ren) {Tryz.laysM171 with} b w
theorem XN(u:Nat)(h1:1<=u)(h2:u<18446744073709551616)(w:World)(hc:Ch 1 w):Calls Tryz.prog 194 #[.int .u64 u] w λe w'=>e=.returned (.int .i64 (Lib.nDigits u))/\w'=w:=by
 have key:=Lib.numDigits_eq u h1 h2;have hb:Lib.bitLen u<=64:=Lib.bitLen_le u 64 (Nat.le_refl _) h2;have hread:=hc (Lib.l10 (Lib.bitLen u)) (by have:=key.2;omega);have ht:((u:Int)).toNat=u:=by omega
 obtain⟨q,hq⟩:∃q,Lib.l10 (Lib.bitLen u)=q:=⟨_,rfl⟩
 rw[hq]at key hread;obtain⟨T,hT⟩:∃T,10 ^ q=T:=⟨_,rfl⟩
 rw[hT]at key hread;have hq20:q<20:=by have:=key.2;omega
 have KEY:=Lib.hid key;clear key hc hT
 go_enter Tryz.func194,Tryz.ntmps194
 go_wp2_with (first
  |(go_at_call 228;refine(vP _ _ (by omega) (by omega)).mono ?_;rintro e w' ⟨rfl,rfl⟩)
  |(go_at_call 227;refine(zd _ (by first|exact hb|(rw[ht];exact hb)) _).mono ?_;rintro e w' ⟨rfl,rfl⟩)
  |(go_at_call 229;refine(b0t _ _).mono ?_;rintro e w' ⟨rfl,rfl⟩))
 all_goals go_ret
 all_goals
  refine⟨congrArg (λz=>Ending.returned (.int .i64 z)) ?_,rfl⟩;have key:=KEY.out.1;split at key<;>simp_all<;>omega
set_option maxHeartbeats 6400000 in
set_option maxRecDepth 100000 in
theorem a0e(u:Nat)(hu64:u<18446744073709551616)(w:World)(hc:Ch 1 w):
  Calls Tryz.prog 144 #[.int .u64 u,.int .i64 10] w λe w'=>e=.returned (.string ⟨(Lib.decDigits u).toArray⟩)/\∃k os,w'=grow (w.drewN k) os:=by
 by_cases hs:u<100
 ·have wr:IntKind.i64.wrap (u:Int)=u:=by simp[IntKind.wrap,IntKind.signed,IntKind.bits];omega
  go_enter Tryz.func144,Tryz.ntmps144
  go_wp2_with (go_at_call 193;refine(gP u hs _).mono ?_;rintro e w' ⟨rfl,rfl⟩)
  go_ret
  exact⟨rfl,0,#[],by simp[World.drewN_zero]⟩
 ·have hu1:1<=u:=by omega
  have hnd20:Lib.nDigits u<=20:=by have:=Lib.numDigits_eq u hu1 hu64;split at this<;>omega
  have hb3:Lib.nDigits u<=24:=by omega
  have hal:Tryz.prog.arrayLen 226=24:=by simp[Program.arrayLen,Tryz.underlying226]
  have hsl1:∀W,(Instr.sliceAt 226 (.pointer (some ⟨w.heap.size,0,none⟩)) none (some (.int .i64 (Lib.nDigits u:Int))) none).run Tryz.prog W=.ok (.slice (some ⟨w.heap.size,0,none⟩) (Lib.nDigits u) 24) W:=λW=>by
   rw[run_sliceAt_array_h W 226 ⟨w.heap.size,0,none⟩ (by simp[Program.arrayLen,Program.elem,Tryz.underlying226]) .i64 (Lib.nDigits u:Int) (by omega) (by rw[hal];omega)]
   go_simp
  have hH0:Holds (λ(b:UInt8)=>Value.int .u8 (b.toNat:Int)) (w.alloc (.cells Lib.zeros24 226)) w.heap.size 0 (Array.replicate (Lib.nDigits u) (0:UInt8)):=λj hj=>by
   have hj':j<Lib.nDigits u:=by simpa using hj
   refine⟨?_,World.frozen?_alloc_new _ _ _ _⟩;rw[World.cell?_alloc_new,Lib.zeros24_at _ (by omega),getElem!_pos _ j hj];simp
  have hfmt:=Any.internal_strconv_formatBase10 (P:=Tryz.prog) (ρ:=Tryz.laysM171_ren) {Tryz.laysM171 with} w.heap.size 0 24 u (Array.replicate (Lib.nDigits u) 0) (w.alloc (.cells Lib.zeros24 226)) hH0 (by rw[Array.size_replicate];exact Lib.lt_pow_nDigits u) hu64 (by rw[Array.size_replicate];omega);rw[Array.size_replicate]at hfmt;have HH0:=Lib.hid hH0;have hca:Ch 1 (w.alloc (.cells Lib.zeros24 226)):=hc.below ((Below.refl _ _).alloc (Nat.le_refl _) _);clear hH0 hal hc
  go_enter Tryz.func144,Tryz.ntmps144
  go_wp2_with (go_at_call 194;refine(XN u hu1 hu64 _ hca).mono ?_;rintro e w' ⟨rfl,rfl⟩)
  go_at_call 195
  refine hfmt.mono ?_;rintro e w' ⟨rfl,k,v',dk,rfl,hF⟩
  have hcv:(convert 66 9 (.slice (some ⟨w.heap.size,0,none⟩) (Lib.nDigits u) 24)).run Tryz.prog ((putRow (λ(b:UInt8)=>Value.int .u8 (b.toNat:Int)) (w.alloc (.cells Lib.zeros24 226)) w.heap.size 0 dk).drewN k)=.ok (.string ⟨(Lib.decDigits u).toArray⟩) ((putRow (λ(b:UInt8)=>Value.int .u8 (b.toNat:Int)) (w.alloc (.cells Lib.zeros24 226)) w.heap.size 0 dk).drewN k):=by
   have h:=run_convert_bytes_back (P:=Tryz.prog) ((putRow (λ(b:UInt8)=>Value.int .u8 (b.toNat:Int)) (w.alloc (.cells Lib.zeros24 226)) w.heap.size 0 dk).drewN k) 66 9 5 ⟨w.heap.size,0,none⟩ 24 (Lib.decDigits u) Tryz.underlying66 Tryz.underlying5 Tryz.underlying9 (λj hj=>by
    rw[Lib.row_is_numeral hF j hj,Lib.add_plain,World.cell?_drewN];exact cell?_putRow (λ(b:UInt8)=>Value.int .u8 (b.toNat:Int)) _ w.heap.size 0 _ dk HH0.out (by rw[hF.size,Array.size_replicate]) j (by rw[hF.size];rw[Lib.decDigits_length]at hj;exact hj))
   rw[Lib.decDigits_length]at h;exact h
  go_wp2
  go_ret
  obtain⟨os,eo⟩:∃os,(putRow (λ(b:UInt8)=>Value.int .u8 (b.toNat:Int)) (w.alloc (.cells Lib.zeros24 226)) w.heap.size 0 dk).drewN k=grow (w.drewN k) os:=by
   rw[alloc_eq_grow];obtain⟨os',_,e⟩:=putRow_grow_new (λ(b:UInt8)=>Value.int .u8 (b.toNat:Int)) w #[.cells Lib.zeros24 226] w.heap.size 0 dk (Nat.le_refl _);exact⟨os',by rw[e];rfl⟩
  exact⟨rfl,k,os,eo⟩
end
def ET(g:Nat)(w:World):Prop:=w.cell? ⟨g,15,none⟩=some (.int .u8 4)
theorem ET.below{g:Nat}{w w':World}(h:ET g w)(hb:Below w.heap.size w w'):ET g w':=by
 unfold ET at*
 have hlt:g<w.heap.size:=by
  rcases Nat.lt_or_ge g w.heap.size with h'|h'
  ·exact h'
  ·simp[World.cell?,Array.getElem?_eq_none h']at h
 have h2:=hb.block g hlt;simp only[World.cell?]at h ⊢;rw[h2];exact h
set_option maxRecDepth 100000 in
theorem a0k(w:World)(hc:ET 5 w):Calls Tryz.prog 272 #[.int .u64 16] w λe w'=>e=.returned (.int .i64 4)/\w'=w:=by
 have e:(IntKind.u64.wrap (bits BinOp.and IntKind.u64 16 (IntKind.u64.wrap (-16))*285870213051353865) / 288230376151711744).toNat=15:=by decide+kernel
 have hc':w.cell? ⟨5,(IntKind.u64.wrap (bits BinOp.and IntKind.u64 16 (IntKind.u64.wrap (-16))*285870213051353865) / 288230376151711744).toNat,none⟩=some (.int .u8 4):=by rw[e];exact hc
 clear hc e
 go_enter Tryz.func272,Tryz.ntmps272
 go_wp2_with fail
 go_ret
 exact⟨rfl,rfl⟩
set_option maxRecDepth 100000 in
theorem b0y(w:World)(hc:ET 5 w):Calls Tryz.prog 231 #[.int .u64 16] w λe w'=>e=.returned (.int .i64 4)/\w'=w:=by
 go_enter Tryz.func231,Tryz.ntmps231
 go_wp2_with (go_at_call 272;refine(a0k _ hc).mono ?_;rintro e w' ⟨rfl,rfl⟩)
 go_ret
 exact⟨rfl,rfl⟩
set_option maxRecDepth 100000 in
theorem a1k(w:World):Calls Tryz.prog 230 #[.int .i64 16] w λe w'=>e=.returned (.bool true)/\w'=w:=by
 go_enter Tryz.func230,Tryz.ntmps230
 go_wp2_with fail
 go_ret
 exact⟨rfl,rfl⟩
def CA(n:Nat):UInt8:=if n<10 then UInt8.ofNat (48+n) else UInt8.ofNat (87+n)
def Z8:Nat->Nat->b4c UInt8
 |0,_=>[]
 |n+1,u=>CA (u / 16 ^ n % 16)::Z8 n u
structure MP(u A k:Nat)(w:World):Prop where
 all:∀i,i<65->∃c,w.cell? ⟨A,i,none⟩=some c
 fz:∀i,w.frozen? ⟨A,i,none⟩=false
 qw:∀j,j<k->w.cell? ⟨A,64 - j,none⟩=some (.int .u8 ((CA (u / 16 ^ j % 16)).toNat:Int))
theorem MP.put{u A k:Nat}{w:World}(h:MP u A k w)(hk:k<=64):MP u A (k+1) (w.setCell ⟨A,64 - k,none⟩ (.int .u8 ((CA (u / 16 ^ k % 16)).toNat:Int))):=by
 obtain⟨c,hc⟩:=h.all (64 - k) (by omega);refine⟨λi hi=>?_,λi=>?_,λj hj=>?_⟩
 ·by_cases he:i=64 - k
  ·subst he;exact⟨_,World.cell?_setCell_same _ _ _ hc⟩
  ·obtain⟨c',hc'⟩:=h.all i hi;exact⟨c',by rw[World.cell?_setCell_other _ _ _ _ (by simp)];exact hc'⟩
 ·rw[World.frozen?_setCell];exact h.fz i
 ·by_cases he:j=k
  ·subst he;exact World.cell?_setCell_same _ _ _ hc
  ·rw[World.cell?_setCell_other _ _ _ _ (by simp<;>omega)];exact h.qw j (by omega)
theorem sk(v:Nat)(h:v<18446744073709551616):bits .and .u64 (v:Int) 15=((v % 16:Nat):Int):=by
 have h1:v&&&15=v % 16:=Nat.and_two_pow_sub_one_eq_mod v 4;have e1:((v:Int) % (2 ^ 64:Nat)).toNat=v:=by omega
 have e2:((15:Int) % (2 ^ 64:Nat)).toNat=15:=by decide
 have e3:bits .and .u64 (v:Int) 15=IntKind.u64.wrap (((BitVec.ofInt 64 (v:Int)&&&BitVec.ofInt 64 (15:Int)).toNat:Nat):Int):=rfl;rw[e3,BitVec.toNat_and,BitVec.toNat_ofInt,BitVec.toNat_ofInt,e1,e2,h1];simp only[IntKind.wrap,IntKind.signed,IntKind.bits,Bool.false_and,Bool.false_eq_true,if_false];omega
def Fa:b4b:=⟨#[48,49,50,51,52,53,54,55,56,57,97,98,99,100,101,102,103,104,105,106,107,108,109,110,111,112,113,114,115,116,117,118,119,120,121,122]⟩
theorem gF(i:Nat)(h:i<Fa.size)(h16:i<16):Fa[i]=CA i:=by
 have:i=0\/i=1\/i=2\/i=3\/i=4\/i=5\/i=6\/i=7\/i=8\/i=9\/i=10\/i=11\/i=12\/i=13\/i=14\/i=15:=by omega
 rcases this with rfl|rfl|rfl|rfl|rfl|rfl|rfl|rfl|rfl|rfl|rfl|rfl|rfl|rfl|rfl|rfl
 all_goals rfl
theorem OG:∀n u,(Z8 n u).length=n
 |0,_=>rfl
 |n+1,u=>by simp[Z8,OG n u]
theorem jM:∀n u j,j<n->(Z8 n u)[j]? =some (CA (u / 16 ^ (n - 1 - j) % 16))
 |0,_,_,h=>absurd h (Nat.not_lt_zero _)
 |n+1,u,0,_=>by simp[Z8]
 |n+1,u,j+1,h=>by
  rw[Z8,List.getElem?_cons_succ,jM n u j (by omega)]
  congr 5
  omega
set_option maxHeartbeats 6400000 in
set_option maxRecDepth 100000 in
theorem a11(u:Nat)(hu:u<18446744073709551616)(w:World)(hc:ET 5 w):
  Calls Tryz.prog 196 #[.slice none 0 0,.int .u64 u,.int .i64 16,.bool false,.bool false] w λe w'=>(∃n,1<=n/\n<=16/\u<16 ^ n/\(n=1\/16 ^ (n - 1)<=u)/\e=.returned (.tuple #[.slice none 0 0,.string ⟨(Z8 n u).toArray⟩]))/\Below w.heap.size w w':=by
 have hc1:=hc.below ((Below.refl _ _).alloc (Nat.le_refl _) (.cells (Array.replicate 65 (.int .u8 0)) 259))
 go_enter Tryz.func196,Tryz.ntmps196
 go_wp2_with (first|(go_at_call 230;refine(a1k _).mono ?_;rintro e w' ⟨rfl,rfl⟩)|(go_at_call 231;refine(b0y _ hc1).mono ?_;rintro e w' ⟨rfl,rfl⟩))
 clear hc1;have hR0:MP u w.heap.size 0 (w.alloc (.cells (Array.replicate 65 (.int .u8 0)) 259)):=⟨λi hi=>⟨.int .u8 0,by rw[World.cell?_alloc_new,Array.getElem?_replicate,if_pos hi]⟩,λi=>World.frozen?_alloc_new _ _ _ _,λj hj=>absurd hj (Nat.not_lt_zero _)⟩
 go_loopg [1,13] (u) (λg s1 s13 wx=>∃k v:Nat,s1=.int .u64 (v:Int)/\g=v/\v=u / 16 ^ k/\s13=.int .i64 ((65 - k:Nat):Int)/\k<=15/\(k=0\/16 ^ k<=u)/\Hid (MP u w.heap.size k wx)/\Hid (Below w.heap.size w wx))
 case atStart=>exact⟨0,u,rfl,rfl,by simp,rfl,by omega,.inl rfl,Lib.hid hR0,Lib.hid ((Below.refl w.heap.size w).alloc (Nat.le_refl _) _)⟩
 case round=>
  obtain⟨k,v,rfl,rfl,hv,rfl,hk15,hk0,HR,HW⟩:=hrel;have hBw:w.heap.size<=wr.heap.size:=HW.out.size;have HV:=Lib.hid hv;have hvu:gk<18446744073709551616:=by rw[hv];exact Nat.lt_of_le_of_lt (Nat.div_le_self _ _) hu
  obtain⟨c0,hc0⟩:=HR.out.all (64 - k) (by omega);have hf0:=HR.out.fz (64 - k);have w1:IntKind.i64.wrap (((65 - k:Nat):Int) - 1)=((64 - k:Nat):Int):=by simp[IntKind.wrap,IntKind.signed,IntKind.bits];omega
  have ge0:(0:Int)<=((64 - k:Nat):Int):=by omega
  have lt0:((64 - k:Nat):Int)<65:=by omega
  have to0:(((64 - k:Nat):Int)).toNat=64 - k:=by omega
  have HK:=Lib.hid hk0;clear hv hk0
  by_cases hge:16<=gk
  ·have hge':(16:Int)<=(gk:Int):=by omega
   have hbit:bits .and .u64 (gk:Int) 15=((gk % 16:Nat):Int):=sk gk hvu;obtain⟨d,hd⟩:∃d,d=gk % 16:=⟨_,rfl⟩
   rw[<-hd]at hbit;have HD:=Lib.hid hd;have hd16:d<16:=by omega
   have i1:(0:Int)<=(d:Int):=by omega
   have i2:(d:Int)<36:=by omega
   have i3:((d:Int)).toNat=d:=by omega
   clear hd
   go_wp2_with fail
   go_roundg (gk / 16)
   case measure=>omega
   case rel=>
    have h16:16 ^ (k+1)<=u:=by
     have:=HV.out;rw[this]at hge;have h:=(Nat.le_div_iff_mul_le (Nat.pow_pos (by decide:0<16))).1 hge;rw[Nat.pow_succ];omega
    refine⟨k+1,gk / 16,by rw[show((gk:Int) / 16)=((gk / 16:Nat):Int) by omega],rfl,by rw[HV.out,Nat.div_div_eq_div_mul,<-Nat.pow_succ],by rw[show 65 - (k+1)=64 - k by omega],?_,.inr h16,Lib.hid ?_,Lib.hid (HW.out.setCell (p:=⟨w.heap.size,64 - k,none⟩) (Nat.le_refl _) _)⟩
    ·have hk:k≠15:=by
      rintro rfl;have:(16:Nat) ^ (15+1)=18446744073709551616:=by decide
      omega
     omega
    ·have h:=HR.out.put (by omega);have hs:d<Fa.size:=by show d<36;omega
     rw[<-HV.out,<-HD.out,<-gF d hs hd16]at h;exact h
  ·have hge':¬(16:Int)<=(gk:Int):=by omega
   have hg16:gk<16:=by omega
   have i1:(0:Int)<=(gk:Int):=by omega
   have i2:(gk:Int)<36:=by omega
   have i3:((gk:Int)).toNat=gk:=by omega
   have hs:gk<Fa.size:=by show gk<36;omega
   have HP:Hid (MP u w.heap.size (k+1) (wr.setCell ⟨w.heap.size,64 - k,none⟩ (.int .u8 ((Fa[gk]'hs).toNat:Int)))):=Lib.hid (by
    have h:=HR.out.put (by omega);rw[<-HV.out,Nat.mod_eq_of_lt hg16,<-gF gk hs hg16]at h;exact h)
   have hW2:=Lib.hid (HW.out.setCell (p:=⟨w.heap.size,64 - k,none⟩) (Nat.le_refl _) (.int .u8 ((Fa[gk]'hs).toNat:Int)));have hal:Tryz.prog.arrayLen 259=65:=by simp[Program.arrayLen,Tryz.underlying259]
   have hsl:∀W,(Instr.sliceAt 259 (.pointer (some ⟨w.heap.size,0,none⟩)) (some (.int .i64 ((64 - k:Nat):Int))) none none).run Tryz.prog W=.ok (.slice (some ⟨w.heap.size,64 - k,none⟩) (k+1) (k+1)) W:=λW=>by
    rw[run_sliceAt_array_l (t:=259) (P:=Tryz.prog) W ⟨w.heap.size,0,none⟩ (by simp[Program.arrayLen,Program.elem,Tryz.underlying259]) .i64 ((64 - k:Nat):Int) (by omega) (by rw[hal];omega)];rw[hal]
    go_simp
    omega
   have hcv:(convert 66 9 (.slice (some ⟨w.heap.size,64 - k,none⟩) (k+1) (k+1))).run Tryz.prog (wr.setCell ⟨w.heap.size,64 - k,none⟩ (.int .u8 ((Fa[gk]'hs).toNat:Int)))=.ok (.string ⟨(Z8 (k+1) u).toArray⟩) (wr.setCell ⟨w.heap.size,64 - k,none⟩ (.int .u8 ((Fa[gk]'hs).toNat:Int))):=by
    have h:=run_convert_bytes_back (P:=Tryz.prog) (wr.setCell ⟨w.heap.size,64 - k,none⟩ (.int .u8 ((Fa[gk]'hs).toNat:Int))) 66 9 5 ⟨w.heap.size,64 - k,none⟩ (k+1) (Z8 (k+1) u) Tryz.underlying66 Tryz.underlying5 Tryz.underlying9 (λj hj=>by
     rw[OG]at hj;have hg:=jM (k+1) u j hj;have hd:=HP.out.qw (k - j) (by omega);rw[Lib.add_plain,show 64 - k+j=64 - (k - j) by omega,hd];obtain⟨hlt,he⟩:=List.getElem?_eq_some_iff.1 hg;rw[he]
     congr 7)
    rw[OG]at h;exact h
   have hul:u<16 ^ (k+1):=by
    have h:=HV.out;rw[h]at hg16;have:=(Nat.div_lt_iff_lt_mul (Nat.pow_pos (by decide:0<16))).1 hg16;rw[Nat.pow_succ];omega
   have hor:k+1=1\/16 ^ (k+1 - 1)<=u:=by
    rcases HK.out with h|h
    ·exact .inl (by omega)
    ·exact .inr h
   have HCV:=Lib.hid hcv;clear hcv
   go_wp2_with fail
   erw[HCV.out]
   go_wp2_with fail
   go_ret2
   exact⟨⟨k+1,by omega,by omega,hul,hor,rfl⟩,hW2.out⟩
section
open Go.RowKit Go.Sort
theorem dD(w:World)(k:Nat)(os:Array Obj):Below w.heap.size w (grow (w.drewN k) os):=
 ⟨rfl,rfl,rfl,by simp[grow,World.drewN],λi hi=>by simp[grow,World.drewN,Array.getElem?_append_left hi]⟩
set_option maxRecDepth 100000 in
theorem tc(u:Nat)(hu:u<18446744073709551616)(w:World)(hc:ET 5 w):
  Calls Tryz.prog 144 #[.int .u64 u,.int .i64 16] w λe w'=>(∃n,1<=n/\n<=16/\u<16 ^ n/\(n=1\/16 ^ (n - 1)<=u)/\e=.returned (.string ⟨(Z8 n u).toArray⟩))/\Below w.heap.size w w':=by
 go_enter Tryz.func144,Tryz.ntmps144
 go_wp2_with (go_at_call 196;refine(a11 u hu _ hc).mono ?_)
 rintro e w' ⟨⟨n,h1,h2,h3,h4,rfl⟩,hb⟩
 go_wp2_with fail
 go_ret
 exact⟨⟨n,h1,h2,h3,h4,rfl⟩,hb⟩
set_option maxRecDepth 100000 in
theorem a3d(u:Nat)(hu:u<18446744073709551616)(w:World)(hc:ET 5 w):
  Calls Tryz.prog 80 #[.int .u64 u,.int .i64 16] w λe w'=>(∃n,1<=n/\n<=16/\u<16 ^ n/\(n=1\/16 ^ (n - 1)<=u)/\e=.returned (.string ⟨(Z8 n u).toArray⟩))/\Below w.heap.size w w':=by
 go_enter Tryz.func80,Tryz.ntmps80
 go_wp2_with (go_at_call 144;refine(tc u hu _ hc).mono ?_)
 rintro e w' ⟨⟨n,h1,h2,h3,h4,rfl⟩,hb⟩
 go_wp2_with fail
 go_ret
 exact⟨⟨n,h1,h2,h3,h4,rfl⟩,hb⟩
set_option maxRecDepth 100000 in
theorem a4j(u:Nat)(hu:u<18446744073709551616)(w:World)(hc:Ch 1 w):
  Calls Tryz.prog 80 #[.int .u64 u,.int .i64 10] w λe w'=>e=.returned (.string ⟨(Lib.decDigits u).toArray⟩)/\Below w.heap.size w w':=by
 go_enter Tryz.func80,Tryz.ntmps80
 go_wp2_with (go_at_call 144;refine(a0e u hu _ hc).mono ?_)
 rintro e w' ⟨rfl,k,os,rfl⟩;have hb:=Lib.hid (dD w k os)
 go_wp2_with fail
 go_ret
 exact⟨rfl,hb.out⟩
end
section
open Go.Shelf Go.RowKit Go.Sort Go.Lib
abbrev qy(b:UInt8):Value:=Value.int .u8 (b.toNat:Int)
abbrev arr(w:World)(dk:Array UInt8)(k:Nat):World:=(putRow qy (w.alloc (.cells Lib.zeros24 226)) w.heap.size 1 dk).drewN k
theorem eR{u v' k:Nat}{dk:Array UInt8}{w:World}(hn:1+Lib.nDigits u<=24)(hF:FmtInv (Lib.nDigits u) u 0 v' dk)(j:Nat)(hj:j<(Lib.decDigits u).length):(arr w dk k).cell? ⟨w.heap.size,1+j,none⟩=some (.int .u8 ((Lib.decDigits u)[j].toNat:Int)):=by
 rw[Lib.row_is_numeral hF j hj,World.cell?_drewN];exact cell?_putRow qy _ w.heap.size 1 _ dk (Lib.holds_zero w 226 (Lib.nDigits u) hn) (by rw[hF.size,Array.size_replicate]) j (by rw[hF.size];rw[Lib.decDigits_length]at hj;exact hj)
theorem fA(u:Nat)(hu:u<18446744073709551616)(hn:1+Lib.nDigits u<=24)(w:World):Calls Tryz.prog 195 #[.slice (some ⟨w.heap.size,1,none⟩) (Lib.nDigits u) 23,.int .u64 u] (w.alloc (.cells Lib.zeros24 226)) λe w'=>
  e=.returned (.tuple #[])/\∃k v' dk,w'=arr w dk k/\FmtInv (Lib.nDigits u) u 0 v' dk:=by
 have h:=Any.internal_strconv_formatBase10 (P:=Tryz.prog) (ρ:=Tryz.laysM171_ren) {Tryz.laysM171 with} w.heap.size 1 23 u (Array.replicate (Lib.nDigits u) 0) (w.alloc (.cells Lib.zeros24 226)) (Lib.holds_zero w _ _ hn) (by rw[Array.size_replicate];exact Lib.lt_pow_nDigits u) hu (by rw[Array.size_replicate];omega);rw[Array.size_replicate]at h;exact h.mono λe w' ⟨h1,k,v',dk,h2,h3⟩=>⟨h1,k,v',dk,h2,h3⟩
theorem jf(lo hi:Nat)(h0:lo<24)(h1:lo<=hi)(h2:hi<=24)(A:Nat)(W:World):(Instr.sliceAt 226 (.pointer (some ⟨A,0,none⟩)) (some (.int .i64 (lo:Int))) (some (.int .i64 (hi:Int))) none).run Tryz.prog W=.ok (.slice (some ⟨A,lo,none⟩) (hi - lo) (24 - lo)) W:=by
 have hal:Tryz.prog.arrayLen 226=24:=by simp[Program.arrayLen,Tryz.underlying226]
 rw[run_sliceAt_array_lh W 226 ⟨A,0,none⟩ (by simp[Program.arrayLen,Program.elem,Tryz.underlying226]) .i64 .i64 (lo:Int) (hi:Int) (by omega) (by omega) (by rw[hal];omega),hal]
 go_simp
 omega
set_option maxHeartbeats 6400000 in
set_option maxRecDepth 100000 in
theorem zp(u:Nat)(h1:100<=u)(h2:u<=9223372036854775807)(w:World)(hc:Ch 1 w):
  Calls Tryz.prog 191 #[.int .i64 u,.int .i64 10] w λe w'=>e=.returned (.string ⟨(Lib.decDigits u).toArray⟩)/\Below w.heap.size w w':=by
 have hu:u<18446744073709551616:=by omega
 have hn20:Lib.nDigits u<=20:=by have:=Lib.numDigits_eq u (by omega) hu;split at this<;>omega
 have hn:1+Lib.nDigits u<=24:=by omega
 have n0:¬(u:Int)<100:=by omega
 have n1:¬(u:Int)<0:=by omega
 have n2:(0:Int)<=(u:Int):=by omega
 have wr:IntKind.u64.wrap (u:Int)=u:=by rw[IntKind.wrap_u64];omega
 have w1:IntKind.i64.wrap (1+(Lib.nDigits u:Int))=1+(Lib.nDigits u:Int):=by simp[IntKind.wrap,IntKind.signed,IntKind.bits];omega
 have hs:∀W,(Instr.sliceAt 226 (.pointer (some ⟨w.heap.size,0,none⟩)) (some (.int .i64 1)) (some (.int .i64 (1+(Lib.nDigits u:Int)))) none).run Tryz.prog W=.ok (.slice (some ⟨w.heap.size,1,none⟩) (Lib.nDigits u) 23) W:=λW=>by
  have h:=jf 1 (1+Lib.nDigits u) (by decide) (by omega) hn w.heap.size W;rw[show 1+Lib.nDigits u - 1=Lib.nDigits u by omega]at h
  exact_mod_cast h
 have hca:=hc.below ((Below.refl _ _).alloc (Nat.le_refl _) (.cells Lib.zeros24 226));clear hc
 go_enter Tryz.func191,Tryz.ntmps191
 go_wp2_with (go_at_call 194;refine(XN u (by omega) hu _ hca).mono ?_;rintro e w' ⟨rfl,rfl⟩)
 go_at_call 195
 refine(fA u hu hn w).mono ?_;rintro e w' ⟨rfl,k,v',dk,rfl,hF⟩
 have hcv:(convert 66 9 (.slice (some ⟨w.heap.size,1,none⟩) (Lib.nDigits u) 23)).run Tryz.prog (arr w dk k)=.ok (.string ⟨(Lib.decDigits u).toArray⟩) (arr w dk k):=by
  have h:=run_convert_bytes_back (P:=Tryz.prog) (arr w dk k) 66 9 5 ⟨w.heap.size,1,none⟩ 23 (Lib.decDigits u) Tryz.underlying66 Tryz.underlying5 Tryz.underlying9 (λj hj=>by rw[Lib.add_plain];exact eR hn hF j hj);rw[Lib.decDigits_length]at h;exact h
 go_wp2
 go_ret
 obtain⟨os,eo⟩:=Lib.fin_pos w (.cells Lib.zeros24 226) dk k;exact⟨rfl,by rw[show arr w dk k=_ from eo];exact dD w k os⟩
set_option maxHeartbeats 6400000 in
set_option maxRecDepth 100000 in
theorem a92(u:Nat)(h1:1<=u)(h2:u<=9223372036854775808)(w:World)(hc:Ch 1 w):
  Calls Tryz.prog 191 #[.int .i64 (-(u:Int)),.int .i64 10] w λe w'=>e=.returned (.string ⟨(45::Lib.decDigits u).toArray⟩)/\Below w.heap.size w w':=by
 have hu:u<18446744073709551616:=by omega
 have hn20:Lib.nDigits u<=20:=by have:=Lib.numDigits_eq u (by omega) hu;split at this<;>omega
 have hn:1+Lib.nDigits u<=24:=by omega
 have n1:(-(u:Int))<0:=by omega
 have n2:¬(0:Int)<= -(u:Int):=by omega
 have wr:IntKind.u64.wrap (-IntKind.u64.wrap (-(u:Int)))=(u:Int):=by rw[IntKind.wrap_u64,IntKind.wrap_u64];omega
 have w1:IntKind.i64.wrap (1+(Lib.nDigits u:Int))=1+(Lib.nDigits u:Int):=by simp[IntKind.wrap,IntKind.signed,IntKind.bits];omega
 have hs:∀W,(Instr.sliceAt 226 (.pointer (some ⟨w.heap.size,0,none⟩)) (some (.int .i64 1)) (some (.int .i64 (1+(Lib.nDigits u:Int)))) none).run Tryz.prog W=.ok (.slice (some ⟨w.heap.size,1,none⟩) (Lib.nDigits u) 23) W:=λW=>by
  have h:=jf 1 (1+Lib.nDigits u) (by decide) (by omega) hn w.heap.size W;rw[show 1+Lib.nDigits u - 1=Lib.nDigits u by omega]at h
  exact_mod_cast h
 have hs0:∀W,(Instr.sliceAt 226 (.pointer (some ⟨w.heap.size,0,none⟩)) none (some (.int .i64 (1+(Lib.nDigits u:Int)))) none).run Tryz.prog W=.ok (.slice (some ⟨w.heap.size,0,none⟩) (1+Lib.nDigits u) 24) W:=λW=>by
  have hal:Tryz.prog.arrayLen 226=24:=by simp[Program.arrayLen,Tryz.underlying226]
  rw[run_sliceAt_array_h W 226 ⟨w.heap.size,0,none⟩ (by simp[Program.arrayLen,Program.elem,Tryz.underlying226]) .i64 (1+(Lib.nDigits u:Int)) (by omega) (by rw[hal];omega)]
  go_simp
  omega
 have hca:=hc.below ((Below.refl _ _).alloc (Nat.le_refl _) (.cells Lib.zeros24 226));clear hc
 go_enter Tryz.func191,Tryz.ntmps191
 go_wp2_with (go_at_call 194;refine(XN u (by omega) hu _ hca).mono ?_;rintro e w' ⟨rfl,rfl⟩)
 go_at_call 195
 refine(fA u hu hn w).mono ?_;rintro e w' ⟨rfl,k,v',dk,rfl,hF⟩
 have hc0:(arr w dk k).cell? ⟨w.heap.size,0,none⟩=some (.int .u8 0):=by
  rw[World.cell?_drewN,cell?_putRow_other _ _ _ _ _ _ (Or.inr (Or.inl (Nat.zero_lt_one))),World.cell?_alloc_new];exact Lib.zeros24_at 0 (by omega)
 have hf0:(arr w dk k).frozen? ⟨w.heap.size,0,none⟩=false:=by
  rw[World.frozen?_drewN,frozen?_putRow];exact World.frozen?_alloc_new _ _ _ _
 have hcv:(convert 66 9 (.slice (some ⟨w.heap.size,0,none⟩) (1+Lib.nDigits u) 24)).run Tryz.prog ((arr w dk k).setCell ⟨w.heap.size,0,none⟩ (.int .u8 45))=.ok (.string ⟨(45::Lib.decDigits u).toArray⟩) ((arr w dk k).setCell ⟨w.heap.size,0,none⟩ (.int .u8 45)):=by
  have h:=run_convert_bytes_back (P:=Tryz.prog) ((arr w dk k).setCell ⟨w.heap.size,0,none⟩ (.int .u8 45)) 66 9 5 ⟨w.heap.size,0,none⟩ 24 (45::Lib.decDigits u) Tryz.underlying66 Tryz.underlying5 Tryz.underlying9 (λj hj=>by
   rw[Lib.add_plain];cases j with
   |zero=>exact World.cell?_setCell_same _ _ _ hc0
   |succ i=>
    rw[World.cell?_setCell_other _ _ _ _ (by simp),List.getElem_cons_succ,show 0+(i+1)=1+i by omega];exact eR hn hF i (by simpa using hj))
  rw[List.length_cons,Lib.decDigits_length,Nat.add_comm]at h;exact h
 go_wp2
 go_ret
 obtain⟨os,eo⟩:=Lib.fin_neg w (.cells Lib.zeros24 226) dk k (.int .u8 45);exact⟨rfl,by rw[show(arr w dk k).setCell ⟨w.heap.size,0,none⟩ (.int .u8 45)=_ from eo];exact dD w k os⟩
set_option maxRecDepth 100000 in
theorem a1j(u:Nat)(h:u<100)(w:World):
  Calls Tryz.prog 191 #[.int .i64 u,.int .i64 10] w λe w'=>e=.returned (.string ⟨(Lib.decDigits u).toArray⟩)/\Below w.heap.size w w':=by
 go_enter Tryz.func191,Tryz.ntmps191
 go_wp2_with (go_at_call 193;refine(gP u h _).mono ?_;rintro e w' ⟨rfl,rfl⟩)
 go_ret
 exact⟨rfl,Below.refl _ _⟩
theorem a5j(n:Int)(h0: -9223372036854775808<=n)(h1:n<=9223372036854775807)(w:World)(hc:Ch 1 w):
  Calls Tryz.prog 191 #[.int .i64 n,.int .i64 10] w λe w'=>e=.returned (.string ⟨(Lib.itoa n).toArray⟩)/\Below w.heap.size w w':=by
 by_cases hn:n<0
 ·obtain⟨u,rfl⟩:∃u:Nat,n= -(u:Int):=⟨n.natAbs,by omega⟩
  rw[Lib.itoa_neg u (by omega)];exact a92 u (by omega) (by omega) w hc
 ·obtain⟨u,rfl⟩:∃u:Nat,n=u:=⟨n.toNat,by omega⟩
  rw[Lib.itoa_nonneg]
  by_cases hs:u<100
  ·exact a1j u hs w
  ·exact zp u (by omega) (by omega) w hc
set_option maxRecDepth 100000 in
theorem a13(n:Int)(h0: -9223372036854775808<=n)(h1:n<=9223372036854775807)(w:World)(hc:Ch 1 w):
  Calls Tryz.prog 141 #[.int .i64 n] w λe w'=>e=.returned (.string ⟨(Lib.itoa n).toArray⟩)/\Below w.heap.size w w':=by
 go_enter Tryz.func141,Tryz.ntmps141
 go_wp2_with (go_at_call 191;refine(a5j n h0 h1 _ hc).mono ?_)
 rintro e w' ⟨rfl,hb⟩
 go_wp2_with fail
 go_ret
 exact⟨rfl,hb⟩
set_option maxRecDepth 100000 in
theorem wy(n:Int)(h0: -9223372036854775808<=n)(h1:n<=9223372036854775807)(w:World)(hc:Ch 1 w):
  Calls Tryz.prog 76 #[.int .i64 n] w λe w'=>e=.returned (.string ⟨(Lib.itoa n).toArray⟩)/\Below w.heap.size w w':=by
 go_enter Tryz.func76,Tryz.ntmps76
 go_wp2_with (go_at_call 141;refine(a13 n h0 h1 _ hc).mono ?_)
 rintro e w' ⟨rfl,hb⟩
 go_wp2_with fail
 go_ret
 exact⟨rfl,hb⟩
end
theorem Nc{σ:Sg}{l:b4c AV}{a:Value}{cs:b4c Value}(h:P7 σ (.v a::l) cs):∃r,cs=a::r/\P7 σ l r:=by
 obtain⟨h1,h2⟩:=h;cases cs with
 |nil=>simp at h1
 |cons c r=>
  obtain⟨x,h3,h4⟩:=h2 0 (.v a) rfl;simp at h3;subst h3;cases h4;refine⟨r,rfl,by simpa using h1,λi av hi=>?_⟩;exact h2 (i+1) av (by simpa using hi)
theorem dA{σ:Sg}{cs:b4c Value}(h:P7 σ [] cs):cs=[]:=List.eq_nil_of_length_eq_zero (by have:=h.1;simp only[List.length_nil]at this;omega)
theorem Yz{c:Array Value}{l:b4c Value}(h:c.toList=l):c=l.toArray:=by rw[<-h]
theorem pF{w:World}{outer:Nat->Nat->Prop}{gl:b4c (Nat × b4c AV)}(hg:DI w outer gl){g:Nat}{cells:b4c AV}(hm:(g,cells)∈gl){i:Nat}{x:Value}(hi:cells[i]? =some (.v x)):w.cell? ⟨g,i,none⟩=some x:=by
 have h:=hg g cells hm;cases h with
 |D3 _ _ _ _ xs hc hr=>
  obtain⟨h1,_,_⟩:=hc i _ hi;have h2:=hr i _ hi;rw[Nat.zero_add]at h1;cases h2;exact h1
theorem lb{w:World}{outer:Nat->Nat->Prop}{mg:Int}(hg:DI w outer (O6 mg)):Ch 1 w:=by
 intro i hi;refine pF hg (g:=1) (cells:=(List.range 20).map λi=>AV.v (.int .u64 ((10 ^ i:Nat):Int))) ?_ (by simp[hi]);show _∈O6 mg;rw[show(List.range 20).map (λi=>AV.v (.int .u64 ((10 ^ i:Nat):Int)))=_ from rfl];simp[O6,List.range,List.range.loop]
theorem sS{w:World}{outer:Nat->Nat->Prop}{mg:Int}(hg:DI w outer (O6 mg)):ET 5 w:=
 pF hg (g:=5) (i:=15) (by simp only[O6,b38];exact .inr (.inl rfl)) rfl
def Y2(u:Nat):Nat:=if h:u<16 then 1 else Y2 (u / 16)+1
theorem fB:∀(n u:Nat),1<=n->u<16 ^ n->(n=1\/16 ^ (n - 1)<=u)->Y2 u=n
 |0,_,h,_,_=>absurd h (by decide)
 |1,u,_,h,_=>by rw[Y2,dif_pos (by simpa using h)]
 |n+2,u,_,h1,h2=>by
  have h3:16 ^ (n+1)<=u:=by simpa using h2
  have hp:1<=16 ^ n:=Nat.pow_pos (by decide);rw[Y2,dif_neg (by rw[Nat.pow_succ]at h3;omega)];rw[fB (n+1) (u / 16) (by omega) (by rw[Nat.div_lt_iff_lt_mul (by decide)];rw[Nat.pow_succ]at h1;omega) ?_]
  by_cases hn:n=0
  ·exact .inl (by omega)
  ·refine .inr ?_;rw[Nat.le_div_iff_mul_le (by decide)];rw[Nat.pow_succ]at h3;simpa using h3
def Ji(u:Nat):b4b:=⟨(Z8 (Y2 u) u).toArray⟩
def Y1(u:Nat):b4b:=⟨(Lib.decDigits u).toArray⟩
theorem p4(mg:Int)(u:Nat)(hu:u<18446744073709551616):Up mg u 16 (Ji u):=by
 refine⟨⟨_,Tryz.func80,by kernel_rfl,by kernel_rfl⟩,λw outer cargs ho hg hr=>?_⟩;obtain⟨r1,e1,h1⟩:=Nc hr;obtain⟨r2,e2,h2⟩:=Nc h1;rw[e2,dA h2]at e1;rw[Yz e1];refine(a3d u hu w (sS hg)).mono λe w' ⟨⟨n,k1,k2,k3,k4,he⟩,hb⟩=>⟨.v (.string (Ji u)),_,?_,I1.of_below hb,.v _ rfl,rfl⟩
 rw[he,Ji,fB n u k1 k3 k4]
theorem j9(mg:Int)(u:Nat)(hu:u<18446744073709551616):Up mg u 10 (Y1 u):=by
 refine⟨⟨_,Tryz.func80,by kernel_rfl,by kernel_rfl⟩,λw outer cargs ho hg hr=>?_⟩;obtain⟨r1,e1,h1⟩:=Nc hr;obtain⟨r2,e2,h2⟩:=Nc h1;rw[e2,dA h2]at e1;rw[Yz e1];exact(a4j u hu w (lb hg)).mono λe w' ⟨he,hb⟩=>⟨.v (.string (Y1 u)),_,he,I1.of_below hb,.v _ rfl,rfl⟩
theorem sF(mg n:Int)(h0: -9223372036854775808<=n)(h1:n<=9223372036854775807):strconv_Itoa mg n ⟨(Lib.itoa n).toArray⟩:=by
 refine⟨⟨_,Tryz.func76,by kernel_rfl,by kernel_rfl⟩,λw outer cargs ho hg hr=>?_⟩;obtain⟨r1,e1,q1⟩:=Nc hr;rw[dA q1]at e1;rw[Yz e1];exact(wy n h0 h1 w (lb hg)).mono λe w' ⟨he,hb⟩=>⟨.v (.string ⟨(Lib.itoa n).toArray⟩),_,he,I1.of_below hb,.v _ rfl,rfl⟩
end Go.Proofs.YtdpomombdeccpaaGreatDoor.Lift
