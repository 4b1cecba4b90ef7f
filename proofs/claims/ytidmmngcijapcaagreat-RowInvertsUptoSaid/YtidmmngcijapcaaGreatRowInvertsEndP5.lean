/- Part 6 of the texts that prove RowInvertsEnd. -/
import Derived.Test.YtidmmngcijapcaaGreatRowInvertsEndP4
import Derived.Test.YtidmmngcijapcaaGreatRowInvertsEndP3
import Derived.Test.YtidmmngcijapcaaGreatRowInvertsEndP2
namespace Go.Proofs.YtidmmngcijapcaaGreat.Lift
open Go.RowKit
set_option linter.unusedVariables false
set_option linter.unusedSimpArgs false
set_option linter.unnecessarySimpa false
set_option linter.unusedSectionVars false
set_option maxRecDepth 100000
section
attribute [local irreducible] Ok run put d1q br jn pos dr0 dr1 So
attribute [-simp] List.map_take List.map_drop List.map_append List.map_set List.map_replicate List.map_cons List.map_map
attribute [local simp] plain plainL a7q a5y a0a low lowL lowLL L6 H4 H3 F9 K4 G5 H0 G4 L4 U2 a0o T9 a1p N3 U0 G2 I2 Q8 H6 B0 E8 O8 D9 P3 E6 P9 K9 S8 L0 U9 O5 W2 R0 E7 T1 K8 I0 C6 M9 O1 P5 H7 F7 X1 U5 Z0 W4 G1 Q6 a0s a0g a6i a3l c6z d9v c9c d08 a9z b00 d02 d04 b8l c32 f1q eFn b9l b42 b4q b48 b9k b46 b5g b5j b9g c49 c4y b4s b97 b1p b5d b5r b47 b4z b5n b4g b5s a53 a71 a8r a0t a8g a8c a3f a8n b1o c51 b95 b9t b4x b5i b4j b9e b5p b5w b5u b94 c4w c5w b51 b9f b1u b4u b4n b5m b5f b50 b4i b4w a54 a8d a8q a0n a8p a76 a3j a8i b1r c4m b5k b9u b1j b5h b5q b4y b4b b4m b5o b4k a56 a75 a72 a0w a77 a8o a3c a8l b1s d2s
theorem d6n(r:(A9 × (A0 × Int))):plain (g4c r)=true/\(D0 r.1).all ok1=true/\lowL [true] 0 (D0 r.1)=true/\(J6 r.1).length=0:=⟨f7n r,J3 _,a40 _,rfl⟩
def Y0(ij1:Int)(y1:(A9 × (Int × Int)))(lj2:(List B8))(lj3:(List V9))(sj4:ByteArray)(ij5:Int)(ij6:Int)(ij7:Int)(ij8:Int)(ij9:Int)(o_:GOp)(lj10:(List (A0 × A0)))(r:(A9 × (A0 × Int))):Prop:=J Tryz.prog 116 (.io 0 (g4c r) (D0 r.1) (J6 r.1)) 8 [(24,aI ij1),(23,aI y1.2.1),(6,.ptr 3 0),(4,.ptr 2 0),(3,.ptr 1 0),(0,.ptr 0 0)] ⟨[some [.sl (List.map E4 lj2) .no,.sl (List.map Q7 lj3) .no,aS sj4,aI ij5,aI ij6,aI ij7,aI ij8,aI ij9],some (V3 o_),some zV,some [aI 12,aU 0,aE,.nil,.sl (List.map A8 lj10) (.own 0),.nil,.nil]],[(lj10.length,14)],[]⟩
theorem b6p{ij1:Int}{y1:(A9 × (Int × Int))}{lj2:(List B8)}{lj3:(List V9)}{sj4:ByteArray}{ij5:Int}{ij6:Int}{ij7:Int}{ij8:Int}{ij9:Int}{o_:GOp}{lj10:(List (A0 × A0))}:a7q [true,true,true,true] 1 [(24,aI ij1),(23,aI y1.2.1),(6,.ptr 3 0),(4,.ptr 2 0),(3,.ptr 1 0),(0,.ptr 0 0)]=true/\a5y [true,true,true,true] 1 [some [.sl (List.map E4 lj2) .no,.sl (List.map Q7 lj3) .no,aS sj4,aI ij5,aI ij6,aI ij7,aI ij8,aI ij9],some (V3 o_),some zV,some [aI 12,aU 0,aE,.nil,.sl (List.map A8 lj10) (.own 0),.nil,.nil]]=true:=⟨by first|rfl|simp,by first|rfl|simp⟩
theorem a50(ij1:Int)(y1:(A9 × (Int × Int)))(lj2:(List B8))(lj3:(List V9))(sj4:ByteArray)(ij5:Int)(ij6:Int)(ij7:Int)(ij8:Int)(ij9:Int)(o_:GOp)(lj10:(List (A0 × A0)))(r:(A9 × (A0 × Int)))(hw:((decide (ij1<y1.2.1))=true->∃y4,G3 (⟨(⟨lj2,lj3⟩:A7),(⟨sj4,ij5,ij6,ij7,ij8,ij9⟩:A3)⟩:A9) (⟨0,(⟨#[]⟩:ByteArray),(⟨#[]⟩:ByteArray),0,0,o_.Key,(-1),0⟩:GOp) y4/\(((y4.2.2 !=0)=true->r=(y4.1,(⟨12,0,(⟨#[]⟩:ByteArray),([]:(List A0)),lj10,([]:(List (Int × A0))),([]:(List H5))⟩:A0),y4.2.2))/\((y4.2.2 !=0)=false->∃R2:Bool->Prop,(∀bz2:Bool,R2 bz2->((bz2=true->r=(y4.1,(⟨12,0,(⟨#[]⟩:ByteArray),([]:(List A0)),lj10,([]:(List (Int × A0))),([]:(List H5))⟩:A0),5))/\(bz2=false->∃y8,G3 y4.1 o_ y8/\(((y8.2.2 !=0)=true->r=(y8.1,(⟨12,0,(⟨#[]⟩:ByteArray),([]:(List A0)),lj10,([]:(List (Int × A0))),([]:(List H5))⟩:A0),y8.2.2))/\((y8.2.2 !=0)=false->(lj10.length+[(y4.2.1,y8.2.1)].length)*256<=140737488355328/\(Y0 (wI (ij1+1)) y1 y8.1.p.Progs y8.1.p.Enums y8.1.c.Data y8.1.c.At y8.1.c.End y8.1.c.Depth y8.1.c.Nodes y8.1.c.Text o_ (lj10++[(y4.2.1,y8.2.1)]) r))))))/\(((decide (0<ij1))=true->∃y6,lj10[(wI (ij1 - 1)).toNat]? =some y6/\0<=(wI (ij1 - 1))/\(∃y7,a9y y6.1 y4.2.1 y7/\(R2 (decide (0<=y7)))))/\((decide (0<ij1))=false->R2 false)))))/\((decide (ij1<y1.2.1))=false->r=((⟨(⟨lj2,lj3⟩:A7),(⟨sj4,ij5,ij6,ij7,ij8,ij9⟩:A3)⟩:A9),(⟨12,0,(⟨#[]⟩:ByteArray),([]:(List A0)),lj10,([]:(List (Int × A0))),([]:(List H5))⟩:A0),0))):Y0 ij1 y1 lj2 lj3 sj4 ij5 ij6 ij7 ij8 ij9 o_ lj10 r:=
 KW 7 hw (fun _ hw=>KIO 16 hw d1c fun _ hw=>KW 15 hw (fun _ hw=>KRi 15 hw d6n) fun _ hw=>KD 4 [3,4]<|KQ 3 11 kB hw (fun _ hw=>KW 3 hw (fun _ hw=>KRi 14 hw d6n) fun _ hw=>KIO 6 hw d1c fun _ hw=>KW 15 hw (fun _ hw=>KRi 15 hw d6n) fun _ hw=>KA 9 B7 hw mE fun hw=>KJl 10 [] hw b6p) (fun _ key _ hw=>KI 4 B7 hw fun _ hw=>KC 3 hw e3b fun _ hw=>KE 2 key hw) fun _ key _ hw=>KE 11 key hw) fun _ hw=>KRi 13 hw d6n
theorem b8p(r_:A9)(o_:GOp)(r:(A9 × (A0 × Int)))(hw:∃y1,a4z r_ y1/\(((y1.2.2 !=0)=true->r=(y1.1,(⟨12,0,(⟨#[]⟩:ByteArray),([]:(List A0)),([]:(List (A0 × A0))),([]:(List (Int × A0))),([]:(List H5))⟩:A0),y1.2.2))/\((y1.2.2 !=0)=false->Y0 0 y1 y1.1.p.Progs y1.1.p.Enums y1.1.c.Data y1.1.c.At y1.1.c.End y1.1.c.Depth y1.1.c.Nodes y1.1.c.Text o_ ([]:List (A0 × A0)) r))):Y7 r_ o_ r:=
 fIO (KIO 17 hw f58 fun _ hw=>KW 14 hw (fun _ hw=>KRi 10 hw d6n) fun _ hw=>KOb 11 3 4 14<|KJ 0 [] hw)
theorem d2p(r:(A9 × (A0 × Bool × Int))):plain (g36 r)=true/\(D0 r.1).all ok1=true/\lowL [true] 0 (D0 r.1)=true/\(J6 r.1).length=0:=⟨f52 r,J3 _,a40 _,rfl⟩
def a05(ij1:Int)(v:A0)(r_:A9)(y1:(Int × A3 × Int))(g:B8)(o_:GOp)(r:(A9 × (A0 × Bool × Int))):Prop:=J Tryz.prog 117 (.io 0 (g36 r) (D0 r.1) (J6 r.1)) 14 [(45,aI ij1),(44,aI (v.Slots.length:Int)),(43,.sl (List.map B4 v.Slots) .no),(8,.ptr 4 0),(7,.ptr 3 0),(5,.ptr 1 0),(0,.ptr 0 0)] ⟨[some [.sl (List.map E4 r_.p.Progs) .no,.sl (List.map Q7 r_.p.Enums) .no,aS y1.2.1.Data,aI y1.2.1.At,aI y1.2.1.End,aI y1.2.1.Depth,aI y1.2.1.Nodes,aI y1.2.1.Text],some (E4 g),none,some (V3 o_),some zV],[],[]⟩
theorem a60{ij1:Int}{v:A0}{r_:A9}{y1:(Int × A3 × Int)}{g:B8}{o_:GOp}:a7q [true,true,false,true,true] 0 [(45,aI ij1),(44,aI (v.Slots.length:Int)),(43,.sl (List.map B4 v.Slots) .no),(8,.ptr 4 0),(7,.ptr 3 0),(5,.ptr 1 0),(0,.ptr 0 0)]=true/\a5y [true,true,false,true,true] 0 [some [.sl (List.map E4 r_.p.Progs) .no,.sl (List.map Q7 r_.p.Enums) .no,aS y1.2.1.Data,aI y1.2.1.At,aI y1.2.1.End,aI y1.2.1.Depth,aI y1.2.1.Nodes,aI y1.2.1.Text],some (E4 g),none,some (V3 o_),some zV]=true:=⟨by first|rfl|simp,by first|rfl|simp⟩
theorem a5s(ij1:Int)(v:A0)(r_:A9)(y1:(Int × A3 × Int))(g:B8)(o_:GOp)(r:(A9 × (A0 × Bool × Int)))(hw:((decide (ij1<(v.Slots.length:Int)))=true->∃y8,v.Slots[ij1.toNat]? =some y8/\0<=ij1/\(∃y9,c0r g y8.1 y9/\((((y9.2&&(decide (0<=o_.Union)))&&(y9.1.Union==o_.Union))=true->r=((⟨r_.p,y1.2.1⟩:A9),(⟨0,0,(⟨#[]⟩:ByteArray),([]:(List A0)),([]:(List (A0 × A0))),([]:(List (Int × A0))),([]:(List H5))⟩:A0),false,15))/\(((y9.2&&(decide (0<=o_.Union)))&&(y9.1.Union==o_.Union))=false->a05 (wI (ij1+1)) v r_ y1 g o_ r))))/\((decide (ij1<(v.Slots.length:Int)))=false->∃y6,G3 (⟨r_.p,y1.2.1⟩:A9) o_ y6/\(∃R2:Bool->Prop,(∀bz2:Bool,R2 bz2->((bz2=true->r=(y6.1,y6.2.1,true,5))/\(bz2=false->r=(y6.1,y6.2.1,true,y6.2.2))))/\((((y6.2.2==0)&&(o_.Card==3))=true->∃y7,a62 y6.2.1 y7/\(R2 y7))/\(((y6.2.2==0)&&(o_.Card==3))=false->R2 false))))):a05 ij1 v r_ y1 g o_ r:=
 KW 7 hw (fun _ hw=>KI 6 C2 hw fun _ hw=>KC 10 hw e6x fun _ hw=>KT 12 4<|KT 1 6<|KW 2 hw (fun _ hw=>KRi 14 hw d2p) fun _ hw=>KJl 8 [] hw a60) fun _ hw=>KIO 9 hw d1c fun _ hw=>KT 14 4<|KQ 1 3 kB hw (fun _ hw=>KW 2 hw (fun _ hw=>KRi 14 hw d2p) fun _ hw=>KRi 12 hw d2p) (fun _ key _ hw=>KC 1 hw g2z fun _ hw=>KE 1 key hw) fun _ key _ hw=>KE 3 key hw
theorem b71(r_:A9)(g:B8)(v:A0)(o_:GOp)(r:(A9 × (A0 × Bool × Int)))(hw:∃y1,b6u r_.c y1/\(((y1.2.2 !=0)=true->r=(r_,(⟨0,0,(⟨#[]⟩:ByteArray),([]:(List A0)),([]:(List (A0 × A0))),([]:(List (Int × A0))),([]:(List H5))⟩:A0),false,y1.2.2))/\((y1.2.2 !=0)=false->((decide (1<y1.1))=true->r=(r_,(⟨0,0,(⟨#[]⟩:ByteArray),([]:(List A0)),([]:(List (A0 × A0))),([]:(List (Int × A0))),([]:(List H5))⟩:A0),false,5))/\((decide (1<y1.1))=false->((y1.1==0)=true->r=((⟨r_.p,y1.2.1⟩:A9),(⟨0,0,(⟨#[]⟩:ByteArray),([]:(List A0)),([]:(List (A0 × A0))),([]:(List (Int × A0))),([]:(List H5))⟩:A0),false,0))/\((y1.1==0)=false->a05 0 v r_ y1 g o_ r))))):Y8 r_ g v o_ r:=
 fIO (KC 16 hw h4r fun _ hw=>KW 17 hw (fun _ hw=>KRi 11 hw d2p) fun _ hw=>KW 9 hw (fun _ hw=>KRi 10 hw d2p) fun _ hw=>KW 18 hw (fun _ hw=>KRi 10 hw d2p) fun _ hw=>KL 7 C2 v.Slots<|KJl 5 [] hw a60)
theorem g5l(r:Bool):plain (h4v r)=true:=rfl
theorem c57(c:A3)(r:Bool)(hw:r=(((decide (0<=c.At))&&(decide (c.At<=c.End)))&&(decide (c.End<=(c.Data.size:Int))))):b3c c r:=
 fP (KT 12 6<|KT 1 7<|KR 4 hw g5l)
theorem f6p(r:A0):plain (h3r r)=true:=(B0 r)
theorem c6i(p:A7)(o_:GOp)(v:A0)(r:A0)(hw:((o_.Kind==10)=true->∃y1,a8m p o_.Target v y1/\(r=y1))/\((o_.Kind==10)=false->∃y2,b93 v y2/\(r=y2))):a9w p o_ v r:=
 fP (KW 16 hw (fun _ hw=>KC 6 hw h31 fun _ hw=>KR 5 hw f6p) fun _ hw=>KC 5 hw h37 fun _ hw=>KR 4 hw f6p)
theorem g3t(r:(List (A0 × A0))):plain (g41 r)=true:=(psl (D9 r))
def a6q(ij11:Int)(ij7:Int)(lj6:(List (A0 × A0)))(l:(List (A0 × A0)))(r:(List (A0 × A0))):Prop:=JP Tryz.prog 120 (g41 r) 18 [(7,aI ij11),(4,aI ij7),(3,.sl (List.map A8 lj6) .no),(0,.sl (List.map A8 l) .no)]
def a0l(ij9:Int)(bj10:Bool)(ij7:Int)(lj6:(List (A0 × A0)))(l:(List (A0 × A0)))(r:(List (A0 × A0))):Prop:=JP Tryz.prog 120 (g41 r) 11 [(6,aI ij9),(5,aB bj10),(4,aI ij7),(3,.sl (List.map A8 lj6) .no),(0,.sl (List.map A8 l) .no)]
def J2(ij7:Int)(lj6:(List (A0 × A0)))(l:(List (A0 × A0)))(r:(List (A0 × A0))):Prop:=JP Tryz.prog 120 (g41 r) 4 [(4,aI ij7),(3,.sl (List.map A8 lj6) .no),(0,.sl (List.map A8 l) .no)]
theorem b17{ij7:Int}{lj6:(List (A0 × A0))}{l:(List (A0 × A0))}:a7q [] 0 [(4,aI ij7),(3,.sl (List.map A8 lj6) .no),(0,.sl (List.map A8 l) .no)]=true/\a5y [] 0 []=true:=⟨by first|rfl|simp,by first|rfl|simp⟩
theorem a3z(ij11:Int)(ij7:Int)(lj6:(List (A0 × A0)))(l:(List (A0 × A0)))(r:(List (A0 × A0)))(hw:((decide (ij11<(lj6.length:Int)))=true->∃y55,lj6[ij11.toNat]? =some y55/\0<=ij11/\(∃y56,l[ij7.toNat]? =some y56/\0<=ij7/\(∃y57,a1o y55.1 y56.1 y57/\(((decide (y57<0))=true->a6q (wI (ij11+1)) ij7 lj6 l r)/\((decide (y57<0))=false->∃y58,l[ij7.toNat]? =some y58/\0<=ij7/\((0<=ij11/\ij11<=(lj6.length:Int)/\(lj6.length:Int)<=(lj6.length:Int))/\(([y58].length+((lj6.take (lj6.length:Int).toNat).drop ij11.toNat).length)*256<=140737488355328/\((0<=(0:Int)/\(0:Int)<=ij11/\ij11<=(lj6.length:Int))/\((([]:List (A0 × A0)).length+((lj6.take ij11.toNat).drop (0:Int).toNat).length)*256<=140737488355328/\(((([]:List (A0 × A0))++((lj6.take ij11.toNat).drop (0:Int).toNat)).length+([y58]++((lj6.take (lj6.length:Int).toNat).drop ij11.toNat)).length)*256<=140737488355328/\(J2 (wI (ij7+1)) ((([]:List (A0 × A0))++((lj6.take ij11.toNat).drop (0:Int).toNat))++([y58]++((lj6.take (lj6.length:Int).toNat).drop ij11.toNat))) l r)))))))))))/\((decide (ij11<(lj6.length:Int)))=false->∃y59,l[ij7.toNat]? =some y59/\0<=ij7/\((0<=ij11/\ij11<=(lj6.length:Int)/\(lj6.length:Int)<=(lj6.length:Int))/\(([y59].length+((lj6.take (lj6.length:Int).toNat).drop ij11.toNat).length)*256<=140737488355328/\((0<=(0:Int)/\(0:Int)<=ij11/\ij11<=(lj6.length:Int))/\((([]:List (A0 × A0)).length+((lj6.take ij11.toNat).drop (0:Int).toNat).length)*256<=140737488355328/\(((([]:List (A0 × A0))++((lj6.take ij11.toNat).drop (0:Int).toNat)).length+([y59]++((lj6.take (lj6.length:Int).toNat).drop ij11.toNat)).length)*256<=140737488355328/\(J2 (wI (ij7+1)) ((([]:List (A0 × A0))++((lj6.take ij11.toNat).drop (0:Int).toNat))++([y59]++((lj6.take (lj6.length:Int).toNat).drop ij11.toNat))) l r)))))))):a6q ij11 ij7 lj6 l r:=
 KD 3 []<|KL 2 B7 lj6<|KW 2 hw (fun _ hw=>KI 2 B7 hw fun _ hw=>KI 4 B7 hw fun _ hw=>KC 2 hw f8v fun _ hw=>KW 5 hw (fun _ hw=>KJ 10 [] hw) fun _ hw=>KD 6 []<|KI 2 B7 hw fun _ hw=>KSV 4 B7 hw fun hw=>KAf 0 B7 hw mF xE fun hw=>KSV 8 B7 hw fun hw=>KAf 0 B7 hw mF xE fun hw=>KA 1 B7 hw mF fun hw=>KJl 10 [3] hw b17) fun _ hw=>KD 23 []<|KI 2 B7 hw fun _ hw=>KSV 4 B7 hw fun hw=>KAf 0 B7 hw mF xE fun hw=>KSV 8 B7 hw fun hw=>KAf 0 B7 hw mF xE fun hw=>KA 1 B7 hw mF fun hw=>KJl 10 [3] hw b17
theorem b0s(ij9:Int)(bj10:Bool)(ij7:Int)(lj6:(List (A0 × A0)))(l:(List (A0 × A0)))(r:(List (A0 × A0)))(hw:((decide (ij9<(l.length:Int)))=true->(bj10=true->∃y61,l[ij7.toNat]? =some y61/\0<=ij7/\(∃y62,l[ij9.toNat]? =some y62/\0<=ij9/\(∃y63,a1o y61.1 y62.1 y63/\(a0l (wI (ij9+1)) (y63 !=0) ij7 lj6 l r))))/\(bj10=false->a0l (wI (ij9+1)) false ij7 lj6 l r))/\((decide (ij9<(l.length:Int)))=false->(bj10=true->a6q 0 ij7 lj6 l r)/\(bj10=false->J2 (wI (ij7+1)) lj6 l r))):a0l ij9 bj10 ij7 lj6 l r:=
 KL 6 B7 l<|KW 3 hw (fun _ hw=>KD 4 []<|KW 2 hw (fun _ hw=>KI 2 B7 hw fun _ hw=>KI 4 B7 hw fun _ hw=>KC 2 hw f8v fun _ hw=>KJ 13 [] hw) fun _ hw=>KJ 24 [] hw) fun _ hw=>KW 10 hw (fun _ hw=>KJ 8 [] hw) fun _ hw=>KJ 9 [] hw
theorem a31(ij7:Int)(lj6:(List (A0 × A0)))(l:(List (A0 × A0)))(r:(List (A0 × A0)))(hw:((decide (ij7<(l.length:Int)))=true->a0l (wI (ij7+1)) true ij7 lj6 l r)/\((decide (ij7<(l.length:Int)))=false->r=lj6)):J2 ij7 lj6 l r:=
 KL 6 B7 l<|KW 3 hw (fun _ hw=>KJ 19 [] hw) fun _ hw=>KR 12 hw g3t
theorem c66(l:(List (A0 × A0)))(r:(List (A0 × A0)))(hw:J2 0 ([]:(List (A0 × A0))) l r):b58 l r:=
 fP (KJ 18 [3] hw)
theorem f7a(r:Bool):plain (h4s r)=true:=rfl
theorem c4x(v:A0)(r:Bool)(hw:∃y1,c8q v.Kind y1/\((((y1&&(v.Bits==0))&&(decide (v.Text=(⟨#[]⟩:ByteArray))))=true->∃y2,b9c v y2/\(r=y2))/\(((y1&&(v.Bits==0))&&(decide (v.Text=(⟨#[]⟩:ByteArray))))=false->r=false))):b7v v r:=
 fP (KC 10 hw g8r fun _ hw=>KT 1 4<|KT 1 4<|KW 1 hw (fun _ hw=>KC 1 hw h4f fun _ hw=>KR 5 hw f7a) fun _ hw=>KR 7 hw f7a)
theorem e53(r:Bool):plain (g8z r)=true:=rfl
def a4v(sj1:ByteArray)(r:Bool):Prop:=JP Tryz.prog 130 (g8z r) 5 [(0,aS sj1)]
theorem a9s(sj1:ByteArray)(r:Bool)(hw:((!(decide (sj1=(⟨#[]⟩:ByteArray))))=true->∃y4,c13 sj1 y4/\(∃y5,b3h y4.2 y5/\((y5=true->r=false)/\(y5=false->a4v y4.1 r))))/\((!(decide (sj1=(⟨#[]⟩:ByteArray))))=false->r=true)):a4v sj1 r:=
 KW 8 hw (fun _ hw=>KC 6 hw g9m fun _ hw=>KC 11 hw g24 fun _ hw=>KW 2 hw (fun _ hw=>KR 11 hw e53) fun _ hw=>KJ 8 [] hw) fun _ hw=>KR 11 hw e53
theorem c2l(s:ByteArray)(r:Bool)(hw:∃y1,b76 s y1/\(((!y1)=true->r=false)/\((!y1)=false->a4v s r))):b07 s r:=
 fP (KC 9 hw g8u fun _ hw=>KW 3 hw (fun _ hw=>KR 7 hw e53) fun _ hw=>KJ 5 [] hw)
theorem f60(r:Bool):plain (h3y r)=true:=rfl
theorem c4i(s:ByteArray)(r:Bool)(hw:∃y1,a9u s y1/\((y1=true->∃y2,b3h s y2/\(r=(!y2)))/\(y1=false->r=false))):b2v s r:=
 fP (KC 8 hw f8u fun _ hw=>KW 1 hw (fun _ hw=>KC 1 hw g24 fun _ hw=>KR 6 hw f60) fun _ hw=>KR 8 hw f60)
theorem f7z(r:Bool):plain (h1k r)=true:=rfl
def a0v(ij1:Int)(l:(List b98))(n:Int)(r:Bool):Prop:=JP Tryz.prog 132 (h1k r) 3 [(5,aI ij1),(0,.sl (List.map b1z l) .no),(1,aI n)]
theorem a7p(ij1:Int)(l:(List b98))(n:Int)(r:Bool)(hw:((decide (ij1<(l.length:Int)))=true->∃y4,l[ij1.toNat]? =some y4/\0<=ij1/\(((decide (y4.From<=n))=true->∃y6,l[ij1.toNat]? =some y6/\0<=ij1/\(((decide (n<=y6.To))=true->r=true)/\((decide (n<=y6.To))=false->a0v (wI (ij1+1)) l n r)))/\((decide (y4.From<=n))=false->a0v (wI (ij1+1)) l n r)))/\((decide (ij1<(l.length:Int)))=false->r=false)):a0v ij1 l n r:=
 KL 6 c84 l<|KW 3 hw (fun _ hw=>KI 8 c84 hw fun _ hw=>KW 5 hw (fun _ hw=>KI 3 c84 hw fun _ hw=>KW 6 hw (fun _ hw=>KR 11 hw f7z) fun _ hw=>KJ 9 [] hw) fun _ hw=>KJ 20 [] hw) fun _ hw=>KR 11 hw f7z
theorem c16(l:(List b98))(n:Int)(r:Bool)(hw:a0v 0 l n r):b3t l n r:=
 fP (KJ 13 [] hw)
theorem c9j(r:Int):plain (h14 r)=true:=rfl
def a4d(ij1:Int)(l:(List b2r))(target:Int)(r:Int):Prop:=JP Tryz.prog 133 (h14 r) 6 [(5,aI ij1),(0,.sl (List.map a7s l) .no),(1,aI target)]
theorem b2b(ij1:Int)(l:(List b2r))(target:Int)(r:Int)(hw:((decide (ij1<(l.length:Int)))=true->∃y7,l[ij1.toNat]? =some y7/\0<=ij1/\(∃y8,b9y y7.Name y8/\(((y8==0)=true->r=8)/\((y8==0)=false->∃y9,l[ij1.toNat]? =some y9/\0<=ij1/\(∃y10,c45 y9.Name target y10/\(((!y10)=true->r=1)/\((!y10)=false->∃y11,l[ij1.toNat]? =some y11/\0<=ij1/\(∃y12,c05 y11 y12/\(((!y12)=true->r=12)/\((!y12)=false->∃R2:Bool->Prop,(∀bz2:Bool,R2 bz2->((bz2=true->r=11)/\(bz2=false->((decide (0<ij1))=true->∃y17,l[ij1.toNat]? =some y17/\0<=ij1/\(∃y18,l[(wI (ij1 - 1)).toNat]? =some y18/\0<=(wI (ij1 - 1))/\(((decide (y17.Name=y18.Name))=true->r=9)/\((decide (y17.Name=y18.Name))=false->a4d (wI (ij1+1)) l target r))))/\((decide (0<ij1))=false->a4d (wI (ij1+1)) l target r))))/\(((decide (0<ij1))=true->∃y14,l[ij1.toNat]? =some y14/\0<=ij1/\(∃y15,l[(wI (ij1 - 1)).toNat]? =some y15/\0<=(wI (ij1 - 1))/\(R2 (Op.bytesLess y14.Name.toList y15.Name.toList))))/\((decide (0<ij1))=false->R2 false))))))))))))/\((decide (ij1<(l.length:Int)))=false->r=0)):a4d ij1 l target r:=
 KL 6 b5b l<|KW 3 hw (fun _ hw=>KI 9 b5b hw fun _ hw=>KC 2 hw g5f fun _ hw=>KW 3 hw (fun _ hw=>KR 12 hw c9j) fun _ hw=>KI 7 b5b hw fun _ hw=>KC 3 hw h2k fun _ hw=>KW 3 hw (fun _ hw=>KR 12 hw c9j) fun _ hw=>KI 7 b5b hw fun _ hw=>KC 1 hw g94 fun _ hw=>KW 3 hw (fun _ hw=>KR 12 hw c9j) fun _ hw=>KD 4 []<|KQ 3 13 kB hw (fun _ hw=>KW 3 hw (fun _ hw=>KR 12 hw c9j) fun _ hw=>KD 3 []<|KW 3 hw (fun _ hw=>KI 2 b5b hw fun _ hw=>KI 5 b5b hw fun _ hw=>KW 7 hw (fun _ hw=>KR 11 hw c9j) fun _ hw=>KJ 9 [] hw) fun _ hw=>KJ 26 [] hw) (fun _ key _ hw=>KI 2 b5b hw fun _ hw=>KI 5 b5b hw fun _ hw=>KE 4 key hw) fun _ key _ hw=>KE 13 key hw) fun _ hw=>KR 11 hw c9j
theorem c7f(l:(List b2r))(target:Int)(r:Int)(hw:((decide (8<(l.length:Int)))=true->r=3)/\((decide (8<(l.length:Int)))=false->a4d 0 l target r)):c1d l target r:=
 fP (KL 9 b5b l<|KW 3 hw (fun _ hw=>KR 7 hw c9j) fun _ hw=>KJ 10 [] hw)
theorem f7q(r:Bool):plain (g81 r)=true:=rfl
def a0p(ij1:Int)(ij2:Int)(g:B8)(r:Bool):Prop:=J Tryz.prog 134 (.ret (g81 r)) 4 [(4,aI ij1),(3,aI ij2),(1,.ptr 0 0)] ⟨[some (E4 g)],[],[]⟩
theorem b0v(ij1:Int)(ij2:Int)(g:B8)(r:Bool)(hw:((decide (ij1<(g.Ops.length:Int)))=true->∃y2,g.Ops[ij1.toNat]? =some y2/\0<=ij1/\(((y2.Union==ij2)=true->a0p (wI (ij1+1)) (wI (ij2+1)) g r)/\((y2.Union==ij2)=false->∃R1:Bool->Prop,(∀bz1:Bool,R1 bz1->((bz1=true->r=false)/\(bz1=false->a0p (wI (ij1+1)) ij2 g r)))/\(((y2.Union !=(-1))=true->((ij1==0)=true->R1 true)/\((ij1==0)=false->∃y5,g.Ops[(wI (ij1 - 1)).toNat]? =some y5/\0<=(wI (ij1 - 1))/\(R1 (y5.Union !=y2.Union))))/\((y2.Union !=(-1))=false->R1 false)))))/\((decide (ij1<(g.Ops.length:Int)))=false->r=(g.Unions==ij2))):a0p ij1 ij2 g r:=
 KL 7 c0d g.Ops<|KW 3 hw (fun _ hw=>KI 9 c0d hw fun _ hw=>KW 14 hw (fun _ hw=>KJ 14 [] hw) fun _ hw=>KQ 5 14 kB hw (fun _ hw=>KW 3 hw (fun _ hw=>KR 12 hw f7q) fun _ hw=>KJ 10 [] hw) (fun _ key _ hw=>KW 3 hw (fun _ hw=>KE 11 key hw) fun _ hw=>KI 4 c0d hw fun _ hw=>KE 6 key hw) fun _ key _ hw=>KE 14 key hw) fun _ hw=>KR 15 hw f7q
theorem c5s(g:B8)(r:Bool)(hw:a0p 0 0 g r):b73 g r:=
 fP (KJ 19 [] hw)
theorem f55(r:Bool):plain (h2i r)=true:=rfl
def a15(bj1:Bool)(p:A7)(o_:GOp)(r:Bool):Prop:=J Tryz.prog 135 (.ret (h2i r)) 5 [(5,aB bj1),(3,.ptr 1 0),(2,.ptr 0 0)] ⟨[some (B6 p),some (V3 o_)],[],[]⟩
theorem b6a(bj1:Bool)(p:A7)(o_:GOp)(r:Bool)(hw:∃R2:Bool->Prop,(∀bz2:Bool,R2 bz2->(r=(bz2&&((o_.Union==(-1))||(o_.Card==2)))))/\((bj1=true->∃y3,b70 p o_ y3/\(R2 y3))/\(bj1=false->R2 false))):a15 bj1 p o_ r:=
 KQ 4 4 kB hw (fun bz2 hw=>KT2 1 9 bz2 (fun z=>aB (z&&((o_.Union==(-1))||(o_.Card==2)))) (fun _ key=>KT 4 4<|KE2 1 key) (fun _ key=>KE2 9 key)<|KR 4 hw f55) (fun _ key _ hw=>KC 2 hw h2u fun _ hw=>KE 1 key hw) fun _ key _ hw=>KE 4 key hw
theorem c0f(p:A7)(o_:GOp)(r:Bool)(hw:∃y1,b65 o_.Alias y1/\((((((((!y1)||(decide (4096<(o_.Alias.size:Int))))||(decide (o_.Card<1)))||(decide (5<o_.Card)))||(decide (o_.Kind<1)))||(decide (10<o_.Kind)))=true->r=false)/\(((((((!y1)||(decide (4096<(o_.Alias.size:Int))))||(decide (o_.Card<1)))||(decide (5<o_.Card)))||(decide (o_.Kind<1)))||(decide (10<o_.Kind)))=false->((o_.Card !=5)=true->a15 (o_.Key==0) p o_ r)/\((o_.Card !=5)=false->a15 (((decide (1<=o_.Key))&&(decide (o_.Key<=5)))||(o_.Key==7)) p o_ r)))):b2f p o_ r:=
 fP (KC 12 hw h42 fun _ hw=>KT 2 5<|KT 1 4<|KT 1 4<|KT 1 4<|KT 1 4<|KW 2 hw (fun _ hw=>KR 7 hw f55) fun _ hw=>KT 8 4<|KT 1 4<|KW 11 hw (fun _ hw=>KJ 7 [] hw) fun _ hw=>KJ 2 [] hw)
theorem f6x(r:(Int × Int)):plain (h1r r)=true:=(c67 (A6 rfl (A6 rfl rfl)))
def a08(ij1:Int)(ij2:Int)(s:ByteArray)(r:(Int × Int)):Prop:=JP Tryz.prog 136 (h1r r) 7 [(9,aI ij1),(4,aU ij2),(0,aS s)]
theorem a5x(ij1:Int)(ij2:Int)(s:ByteArray)(r:(Int × Int))(hw:((decide (ij1<8))=true->(0<=ij1/\ij1<(s.size:Int))/\(0<=(wI (8*ij1))/\(a08 (wI (ij1+1)) (F0 .or .u64 ij2 (wU ((wU (F3 s ij1.toNat))*2 ^ min (wI (8*ij1)).toNat IntKind.u64.bits))) s r)))/\((decide (ij1<8))=false->r=(ij2,0))):a08 ij1 ij2 s r:=
 KW 7 hw (fun _ hw=>KIS 14 hw fun hw=>KB 3 hw fun hw=>KJ 10 [] hw) fun _ hw=>KR 13 hw f6x
theorem b8x(s:ByteArray)(r:(Int × Int))(hw:((decide ((s.size:Int)<8))=true->r=(0,4))/\((decide ((s.size:Int)<8))=false->a08 0 0 s r)):a97 s r:=
 fP (KW 14 hw (fun _ hw=>KR 8 hw f6x) fun _ hw=>KJ 15 [] hw)
theorem f69(r:ByteArray):plain (h3u r)=true:=rfl
theorem c7q(c:A3)(n:Int)(r:ByteArray)(hw:∃y1,b3c c y1/\(((!y1)=true->r=(⟨#[]⟩:ByteArray))/\((!y1)=false->(0<=c.At/\c.At<=(min c.End (wI (c.At+n)))/\(min c.End (wI (c.At+n)))<=(c.Data.size:Int))/\(r=(c.Data.extract c.At.toNat (min c.End (wI (c.At+n))).toNat))))):b6y c n r:=
 fP (KC 10 hw g2w fun _ hw=>KW 3 hw (fun _ hw=>KR 7 hw f69) fun _ hw=>KSS 15 hw fun hw=>KR 4 hw f69)
theorem g7k(r:(List Int)):plain (h3c r)=true:=(psl (K4 r))
theorem c5d(c:A3)(n:Int)(r:(List Int))(hw:(0<=c.At/\c.At<=(wI (c.At+n))/\(wI (c.At+n))<=(c.Data.size:Int))/\((0<=(0:Int)/\(0:Int)<=n/\n<=((bI (c.Data.extract c.At.toNat (wI (c.At+n)).toNat)).length:Int))/\(r=(((bI (c.Data.extract c.At.toNat (wI (c.At+n)).toNat)).take n.toNat).drop (0:Int).toNat)))):c62 c n r:=
 fP (KSS 16 hw fun hw=>KY 0<|KSF 8 d1t hw fun hw=>KR 4 hw g7k)
theorem f7s(r:Int):plain (h1e r)=true:=rfl
def b9b(s:ByteArray)(nj1:Nat)(r:Int):Prop:=J Tryz.prog 139 (.ret (h1e r)) 3 [(6,.ptr 0 0),(0,aS s)] ⟨[some [.it s nj1]],[],[]⟩
theorem b7t(s:ByteArray)(nj1:Nat)(r:Int)(hw:(nj1<s.size->∃y2,d0s s ((nj1:Nat):Int) (Utf8.decode s nj1).1 y2/\((y2=true->r=((nj1:Nat):Int))/\(y2=false->b9b s (nj1+(Utf8.decode s nj1).2) r)))/\(¬nj1<s.size->r=(-1))):b9b s nj1 r:=
 KX 3 hw (fun _ hw=>KC 21 hw g8v fun _ hw=>KW 2 hw (fun _ hw=>KR 11 hw f7s) fun _ hw=>KJ 3 [] hw) fun _ hw=>KR 16 hw f7s
theorem d61(s:ByteArray)(r:Int)(hw:b9b s 0 r):f16 s r:=
 fP (KJ 14 [] hw)
theorem f1y(r:(Int × Int × Int)):plain (g9g r)=true:=(c67 (A6 rfl (A6 rfl (A6 rfl rfl))))
def a8x(ij1:Int)(ij2:Int)(s:ByteArray)(r:(Int × Int × Int)):Prop:=JP Tryz.prog 140 (g9g r) 5 [(6,aI ij1),(5,aU ij2),(0,aS s)]
theorem c1n(ij1:Int)(ij2:Int)(s:ByteArray)(r:(Int × Int × Int))(hw:((ij1==(s.size:Int))=true->r=(0,0,4))/\((ij1==(s.size:Int))=false->(0<=ij1/\ij1<(s.size:Int))/\((((ij1==9)&&(decide (1<(F3 s ij1.toNat))))=true->r=(0,0,6))/\(((ij1==9)&&(decide (1<(F3 s ij1.toNat))))=false->0<=(wI (7*ij1))/\(((decide ((F3 s ij1.toNat)<128))=true->r=((F0 .or .u64 ij2 (wU ((wU (F0 .and .u8 (F3 s ij1.toNat) 127))*2 ^ min (wI (7*ij1)).toNat IntKind.u64.bits))),(wI (ij1+1)),0))/\((decide ((F3 s ij1.toNat)<128))=false->a8x (wI (ij1+1)) (F0 .or .u64 ij2 (wU ((wU (F0 .and .u8 (F3 s ij1.toNat) 127))*2 ^ min (wI (7*ij1)).toNat IntKind.u64.bits))) s r)))))):a8x ij1 ij2 s r:=
 KW 11 hw (fun _ hw=>KR 14 hw f1y) fun _ hw=>KIS 6 hw fun hw=>KT 9 3<|KW 2 hw (fun _ hw=>KR 14 hw f1y) fun _ hw=>KB 10 hw fun hw=>KW 19 hw (fun _ hw=>KR 17 hw f1y) fun _ hw=>KJ 4 [] hw
theorem c73(s:ByteArray)(r:(Int × Int × Int))(hw:a8x 0 0 s r):c19 s r:=
 fP (KJ 24 [] hw)
theorem g3v(r:Bool):plain (h5a r)=true:=rfl
theorem b4l(kind:Int)(r:Bool)(hw:r=((kind==7)||(kind==8))):b8h kind r:=
 fP (KT 10 3<|KR 4 hw g3v)
theorem f51(r:Int):plain (h0w r)=true:=rfl
def N0(ij1:Int)(s:(List b3z))(f:GFn)(r:Int):Prop:=JP Tryz.prog 142 (h0w r) 3 [(8,aI ij1),(7,aI (s.length:Int)),(0,.sl (List.map a2i s) .no),(1,.clo (.func f.fn) f.fi f.cap)]
theorem I6(ij1:Int)(s:(List b3z))(f:GFn)(r:Int)(hw:((decide (ij1<(s.length:Int)))=true->∃y3,s[ij1.toNat]? =some y3/\0<=ij1/\(∃y4,a6a Tryz.prog [] (.clo (.func f.fn) f.fi f.cap) [.agg (a2i y3)] (aB y4)/\((y4=true->r=ij1)/\(y4=false->N0 (wI (ij1+1)) s f r))))/\((decide (ij1<(s.length:Int)))=false->r=(-1))):N0 ij1 s f r:=
 KW 7 hw (fun _ hw=>KI 15 b10 hw fun _ hw=>KF 1 hw fun _ hw=>KW 2 hw (fun _ hw=>KR 12 hw f51) fun _ hw=>KJ 8 [] hw) fun _ hw=>KR 11 hw f51
theorem a7h(s:(List b3z))(f:GFn)(r:Int)(hw:N0 0 s f r):a2n s f r:=
 fP (KL 9 b10 s<|KJ 5 [] hw)
theorem f63(r:Int):plain (h1z r)=true:=rfl
def b24(ij1:Int)(s:ByteArray)(r:Int):Prop:=JP Tryz.prog 143 (h1z r) 3 [(3,aI ij1),(0,aS s)]
theorem b52(ij1:Int)(s:ByteArray)(r:Int)(hw:((decide (ij1<(s.size:Int)))=true->∃y2,c5t s ij1 y2/\(((y2==0)=true->r=ij1)/\((y2==0)=false->b24 (wI (ij1+y2)) s r)))/\((decide (ij1<(s.size:Int)))=false->r=(-1))):b24 ij1 s r:=
 KW 10 hw (fun _ hw=>KC 7 hw g9f fun _ hw=>KW 10 hw (fun _ hw=>KR 12 hw f63) fun _ hw=>KJ 10 [] hw) fun _ hw=>KR 11 hw f63
theorem d1w(s:ByteArray)(r:Int)(hw:b24 0 s r):d6c s r:=
 fP (KJ 13 [] hw)
theorem e5b(r:Int):plain (h4n r)=true:=rfl
theorem c5v(a:Int)(b:Int)(r:Int)(hw:((decide (a<b))=true->r=(-1))/\((decide (a<b))=false->((decide (b<a))=true->r=1)/\((decide (b<a))=false->r=0))):S3 a b r:=
 fP (KW 13 hw (fun _ hw=>KR 7 hw e5b) fun _ hw=>KW 10 hw (fun _ hw=>KR 7 hw e5b) fun _ hw=>KR 8 hw e5b)
theorem f5x(r:Int):plain (h1p r)=true:=rfl
def b3s(ij1:Int)(a:(List A0))(b:(List A0))(r:Int):Prop:=JP Tryz.prog 147 (h1p r) 3 [(5,aI ij1),(0,.sl (List.map C0 a) .no),(1,.sl (List.map C0 b) .no)]
theorem c1u(ij1:Int)(a:(List A0))(b:(List A0))(r:Int)(hw:(((decide (ij1<(a.length:Int)))&&(decide (ij1<(b.length:Int))))=true->∃y6,a[ij1.toNat]? =some y6/\0<=ij1/\(∃y7,b[ij1.toNat]? =some y7/\0<=ij1/\(∃y8,a1o y6 y7 y8/\(((y8 !=0)=true->r=y8)/\((y8 !=0)=false->b3s (wI (ij1+1)) a b r)))))/\(((decide (ij1<(a.length:Int)))&&(decide (ij1<(b.length:Int))))=false->∃y5,S3 (a.length:Int) (b.length:Int) y5/\(r=y5))):b3s ij1 a b r:=
 KL 6 G0 a<|KT2 2 5 (decide (ij1<(a.length:Int))) (fun z=>aB (z&&(decide (ij1<(b.length:Int))))) (fun _ key=>KL 2 G0 b<|KE2 2 key) (fun _ key=>KE2 5 key)<|KW 2 hw (fun _ hw=>KD 5 []<|KI 2 G0 hw fun _ hw=>KI 3 G0 hw fun _ hw=>KC 1 hw f8v fun _ hw=>KW 10 hw (fun _ hw=>KR 12 hw f5x) fun _ hw=>KJ 9 [] hw) fun _ hw=>KL 8 G0 a<|KL 1 G0 b<|KC 0 hw d6i fun _ hw=>KR 4 hw f5x
theorem c7w(a:(List A0))(b:(List A0))(r:Int)(hw:b3s 0 a b r):d0x a b r:=
 fP (KJ 13 [] hw)
theorem e5x(r:Int):plain (h1m r)=true:=rfl
def b30(ij1:Int)(a:(List (A0 × A0)))(b:(List (A0 × A0)))(r:Int):Prop:=JP Tryz.prog 148 (h1m r) 3 [(5,aI ij1),(0,.sl (List.map A8 a) .no),(1,.sl (List.map A8 b) .no)]
theorem c01(ij1:Int)(a:(List (A0 × A0)))(b:(List (A0 × A0)))(r:Int)(hw:(((decide (ij1<(a.length:Int)))&&(decide (ij1<(b.length:Int))))=true->∃y9,a[ij1.toNat]? =some y9/\0<=ij1/\(∃y10,b[ij1.toNat]? =some y10/\0<=ij1/\(∃y11,a1o y9.1 y10.1 y11/\(((y11 !=0)=true->r=y11)/\((y11 !=0)=false->∃y12,a[ij1.toNat]? =some y12/\0<=ij1/\(∃y13,b[ij1.toNat]? =some y13/\0<=ij1/\(∃y14,a1o y12.2 y13.2 y14/\(((y14 !=0)=true->r=y14)/\((y14 !=0)=false->b30 (wI (ij1+1)) a b r)))))))))/\(((decide (ij1<(a.length:Int)))&&(decide (ij1<(b.length:Int))))=false->∃y8,S3 (a.length:Int) (b.length:Int) y8/\(r=y8))):b30 ij1 a b r:=
 KL 6 B7 a<|KT2 2 5 (decide (ij1<(a.length:Int))) (fun z=>aB (z&&(decide (ij1<(b.length:Int))))) (fun _ key=>KL 2 B7 b<|KE2 2 key) (fun _ key=>KE2 5 key)<|KW 2 hw (fun _ hw=>KD 6 []<|KI 2 B7 hw fun _ hw=>KI 4 B7 hw fun _ hw=>KC 2 hw f8v fun _ hw=>KW 10 hw (fun _ hw=>KR 13 hw e5x) fun _ hw=>KD 3 []<|KI 2 B7 hw fun _ hw=>KI 4 B7 hw fun _ hw=>KC 2 hw f8v fun _ hw=>KW 10 hw (fun _ hw=>KR 12 hw e5x) fun _ hw=>KJ 9 [] hw) fun _ hw=>KL 8 B7 a<|KL 1 B7 b<|KC 0 hw d6i fun _ hw=>KR 4 hw e5x
theorem c7a(a:(List (A0 × A0)))(b:(List (A0 × A0)))(r:Int)(hw:b30 0 a b r):d0e a b r:=
 fP (KJ 13 [] hw)
theorem f03(r:Int):plain (h2h r)=true:=rfl
def b3v(ij1:Int)(a:(List (Int × A0)))(b:(List (Int × A0)))(r:Int):Prop:=JP Tryz.prog 149 (h2h r) 3 [(5,aI ij1),(0,.sl (List.map B4 a) .no),(1,.sl (List.map B4 b) .no)]
theorem c1h(ij1:Int)(a:(List (Int × A0)))(b:(List (Int × A0)))(r:Int)(hw:(((decide (ij1<(a.length:Int)))&&(decide (ij1<(b.length:Int))))=true->∃y9,a[ij1.toNat]? =some y9/\0<=ij1/\(∃y10,b[ij1.toNat]? =some y10/\0<=ij1/\(∃y11,S3 y9.1 y10.1 y11/\(((y11 !=0)=true->r=y11)/\((y11 !=0)=false->∃y12,a[ij1.toNat]? =some y12/\0<=ij1/\(∃y13,b[ij1.toNat]? =some y13/\0<=ij1/\(∃y14,a1o y12.2 y13.2 y14/\(((y14 !=0)=true->r=y14)/\((y14 !=0)=false->b3v (wI (ij1+1)) a b r)))))))))/\(((decide (ij1<(a.length:Int)))&&(decide (ij1<(b.length:Int))))=false->∃y8,S3 (a.length:Int) (b.length:Int) y8/\(r=y8))):b3v ij1 a b r:=
 KL 6 C2 a<|KT2 2 5 (decide (ij1<(a.length:Int))) (fun z=>aB (z&&(decide (ij1<(b.length:Int))))) (fun _ key=>KL 2 C2 b<|KE2 2 key) (fun _ key=>KE2 5 key)<|KW 2 hw (fun _ hw=>KD 6 []<|KI 2 C2 hw fun _ hw=>KI 4 C2 hw fun _ hw=>KC 2 hw d6i fun _ hw=>KW 10 hw (fun _ hw=>KR 13 hw f03) fun _ hw=>KD 3 []<|KI 2 C2 hw fun _ hw=>KI 4 C2 hw fun _ hw=>KC 2 hw f8v fun _ hw=>KW 10 hw (fun _ hw=>KR 12 hw f03) fun _ hw=>KJ 9 [] hw) fun _ hw=>KL 8 C2 a<|KL 1 C2 b<|KC 0 hw d6i fun _ hw=>KR 4 hw f03
theorem c7h(a:(List (Int × A0)))(b:(List (Int × A0)))(r:Int)(hw:b3v 0 a b r):c91 a b r:=
 fP (KJ 13 [] hw)
theorem f6w(r:Int):plain (g8x r)=true:=rfl
def b62(ij1:Int)(a:(List H5))(b:(List H5))(r:Int):Prop:=JP Tryz.prog 150 (g8x r) 3 [(5,aI ij1),(0,.sl (List.map I8 a) .no),(1,.sl (List.map I8 b) .no)]
theorem c2g(ij1:Int)(a:(List H5))(b:(List H5))(r:Int)(hw:(((decide (ij1<(a.length:Int)))&&(decide (ij1<(b.length:Int))))=true->∃y6,a[ij1.toNat]? =some y6/\0<=ij1/\(∃y7,b[ij1.toNat]? =some y7/\0<=ij1/\(∃y8,c92 y6 y7 y8/\(((y8 !=0)=true->r=y8)/\((y8 !=0)=false->b62 (wI (ij1+1)) a b r)))))/\(((decide (ij1<(a.length:Int)))&&(decide (ij1<(b.length:Int))))=false->∃y5,S3 (a.length:Int) (b.length:Int) y5/\(r=y5))):b62 ij1 a b r:=
 KL 6 a8t a<|KT2 2 5 (decide (ij1<(a.length:Int))) (fun z=>aB (z&&(decide (ij1<(b.length:Int))))) (fun _ key=>KL 2 a8t b<|KE2 2 key) (fun _ key=>KE2 5 key)<|KW 2 hw (fun _ hw=>KD 5 []<|KI 2 a8t hw fun _ hw=>KI 3 a8t hw fun _ hw=>KC 1 hw h2v fun _ hw=>KW 10 hw (fun _ hw=>KR 12 hw f6w) fun _ hw=>KJ 9 [] hw) fun _ hw=>KL 8 a8t a<|KL 1 a8t b<|KC 0 hw d6i fun _ hw=>KR 4 hw f6w
theorem d05(a:(List H5))(b:(List H5))(r:Int)(hw:b62 0 a b r):d27 a b r:=
 fP (KJ 13 [] hw)
theorem c2s(r:Int):plain (h3e r)=true:=rfl
theorem d18(a:A0)(b:A0)(r:Int)(hw:((decide (a.Kind<b.Kind))=true->r=(-1))/\((decide (a.Kind<b.Kind))=false->((decide (b.Kind<a.Kind))=true->r=1)/\((decide (b.Kind<a.Kind))=false->∃y1,c8q a.Kind y1/\(((!y1)=true->r=0)/\((!y1)=false->∃y2,a8a a.Kind y2/\(((y2&&(Op.bytesLess a.Text.toList b.Text.toList))=true->r=(-1))/\((y2&&(Op.bytesLess a.Text.toList b.Text.toList))=false->∃y3,a8a a.Kind y3/\(((y3&&(!(Op.bytesLess a.Text.toList b.Text.toList||a.Text.toList==b.Text.toList)))=true->r=1)/\((y3&&(!(Op.bytesLess a.Text.toList b.Text.toList||a.Text.toList==b.Text.toList)))=false->∃y4,a8a a.Kind y4/\((y4=true->r=0)/\(y4=false->∃y5,b1k a y5/\(∃y6,b1k b y6/\(((decide (y5<y6))=true->r=(-1))/\((decide (y5<y6))=false->∃y7,b1k a y7/\(∃y8,b1k b y8/\(((decide (y8<y7))=true->r=1)/\((decide (y8<y7))=false->r=0))))))))))))))))):d0q a b r:=
 fP (KW 19 hw (fun _ hw=>KR 8 hw c2s) fun _ hw=>KW 10 hw (fun _ hw=>KR 8 hw c2s) fun _ hw=>KC 4 hw g8r fun _ hw=>KW 4 hw (fun _ hw=>KR 8 hw c2s) fun _ hw=>KC 4 hw g74 fun _ hw=>KT 1 6<|KW 3 hw (fun _ hw=>KR 8 hw c2s) fun _ hw=>KC 4 hw g74 fun _ hw=>KT 1 6<|KW 3 hw (fun _ hw=>KR 8 hw c2s) fun _ hw=>KC 4 hw g74 fun _ hw=>KW 3 hw (fun _ hw=>KR 8 hw c2s) fun _ hw=>KD 1 [0,1]<|KC 1 hw f3u fun _ hw=>KC 1 hw f3u fun _ hw=>KW 5 hw (fun _ hw=>KR 8 hw c2s) fun _ hw=>KD 1 [0,1]<|KC 1 hw f3u fun _ hw=>KC 1 hw f3u fun _ hw=>KW 5 hw (fun _ hw=>KR 8 hw c2s) fun _ hw=>KR 9 hw c2s)
theorem g5b(r:Bool):plain (h4t r)=true:=rfl
theorem c9a(v:A0)(r:Bool)(hw:r=((((((v.Kind !=11)&&(decide (0<(v.List_.length:Int))))||((v.Kind !=12)&&(decide (0<(v.Pairs.length:Int)))))||((v.Kind !=10)&&(decide (0<(wI ((v.Slots.length:Int)+(v.Raws.length:Int)))))))||((v.Bits !=0)&&(((v.Kind==7)||(v.Kind==8))||((decide (10<=v.Kind))&&(decide (v.Kind<=12))))))||((!(decide (v.Text=(⟨#[]⟩:ByteArray))))&&(!((v.Kind==7)||(v.Kind==8)))))):b1t v r:=
 fP (KT 12 4<|KT2 9 5 (v.Kind !=11) (fun z=>aB (z&&(decide (0<(v.List_.length:Int))))) (fun _ key=>KL 2 G0 v.List_<|KE2 2 key) (fun _ key=>KE2 5 key)<|KT2 1 10 ((v.Kind !=11)&&(decide (0<(v.List_.length:Int)))) (fun z=>aB (z||((v.Kind !=12)&&(decide (0<(v.Pairs.length:Int)))))) (fun _ key=>KE2 10 key) (fun _ key=>KT2 4 5 (v.Kind !=12) (fun z=>aB (z&&(decide (0<(v.Pairs.length:Int))))) (fun _ key=>KL 2 B7 v.Pairs<|KE2 2 key) (fun _ key=>KE2 5 key)<|KE2 1 key)<|KT2 1 14 (((v.Kind !=11)&&(decide (0<(v.List_.length:Int))))||((v.Kind !=12)&&(decide (0<(v.Pairs.length:Int))))) (fun z=>aB (z||((v.Kind !=10)&&(decide (0<(wI ((v.Slots.length:Int)+(v.Raws.length:Int)))))))) (fun _ key=>KE2 14 key) (fun _ key=>KT2 4 9 (v.Kind !=10) (fun z=>aB (z&&(decide (0<(wI ((v.Slots.length:Int)+(v.Raws.length:Int))))))) (fun _ key=>KL 2 C2 v.Slots<|KL 2 a8t v.Raws<|KE2 3 key) (fun _ key=>KE2 9 key)<|KE2 1 key)<|KT2 1 17 ((((v.Kind !=11)&&(decide (0<(v.List_.length:Int))))||((v.Kind !=12)&&(decide (0<(v.Pairs.length:Int)))))||((v.Kind !=10)&&(decide (0<(wI ((v.Slots.length:Int)+(v.Raws.length:Int))))))) (fun z=>aB (z||((v.Bits !=0)&&(((v.Kind==7)||(v.Kind==8))||((decide (10<=v.Kind))&&(decide (v.Kind<=12))))))) (fun _ key=>KE2 17 key) (fun _ key=>KT2 4 12 (v.Bits !=0) (fun z=>aB (z&&(((v.Kind==7)||(v.Kind==8))||((decide (10<=v.Kind))&&(decide (v.Kind<=12)))))) (fun _ key=>KT2 2 9 ((v.Kind==7)||(v.Kind==8)) (fun z=>aB (z||((decide (10<=v.Kind))&&(decide (v.Kind<=12))))) (fun _ key=>KE2 9 key) (fun _ key=>KT 4 4<|KE2 1 key)<|KE2 1 key) (fun _ key=>KE2 12 key)<|KE2 1 key)<|KT2 1 8 (((((v.Kind !=11)&&(decide (0<(v.List_.length:Int))))||((v.Kind !=12)&&(decide (0<(v.Pairs.length:Int)))))||((v.Kind !=10)&&(decide (0<(wI ((v.Slots.length:Int)+(v.Raws.length:Int)))))))||((v.Bits !=0)&&(((v.Kind==7)||(v.Kind==8))||((decide (10<=v.Kind))&&(decide (v.Kind<=12)))))) (fun z=>aB (z||((!(decide (v.Text=(⟨#[]⟩:ByteArray))))&&(!((v.Kind==7)||(v.Kind==8)))))) (fun _ key=>KE2 8 key) (fun _ key=>KT 4 3<|KE2 1 key)<|KR 4 hw g5b)
theorem e1t(r:Int):plain (h2s r)=true:=rfl
def V8(ij1:Int)(l:(List (Int × A0)))(i:Int)(y2:(GOp × Bool))(level:Int)(x:C9)(g:B8)(r:Int):Prop:=J Tryz.prog 153 (.ret (h2s r)) 10 [(38,aI ij1),(37,aI (((l.take i.toNat).drop (0:Int).toNat).length:Int)),(36,.sl (List.map B4 ((l.take i.toNat).drop (0:Int).toNat)) .no),(11,.elt (V3 y2.1) 0),(6,.ptr 1 0),(5,.ptr 0 0),(2,.sl (List.map B4 l) .no),(3,aI i),(4,aI level)] ⟨[some (B6 x.p),some (E4 g)],[],[]⟩
theorem a4e{ij1:Int}{l:(List (Int × A0))}{i:Int}{y2:(GOp × Bool)}{level:Int}{x:C9}{g:B8}:a7q [true,true] 0 [(38,aI ij1),(37,aI (((l.take i.toNat).drop (0:Int).toNat).length:Int)),(36,.sl (List.map B4 ((l.take i.toNat).drop (0:Int).toNat)) .no),(11,.elt (V3 y2.1) 0),(6,.ptr 1 0),(5,.ptr 0 0),(2,.sl (List.map B4 l) .no),(3,aI i),(4,aI level)]=true/\a5y [true,true] 0 [some (B6 x.p),some (E4 g)]=true:=⟨by first|rfl|simp,by first|rfl|simp⟩
theorem a3w(ij1:Int)(l:(List (Int × A0)))(i:Int)(y2:(GOp × Bool))(level:Int)(x:C9)(g:B8)(r:Int)(hw:((decide (ij1<(((l.take i.toNat).drop (0:Int).toNat).length:Int)))=true->∃y10,((l.take i.toNat).drop (0:Int).toNat)[ij1.toNat]? =some y10/\0<=ij1/\(∃y11,c0r g y10.1 y11/\((((y2.1.Union !=(-1))&&(y11.1.Union==y2.1.Union))=true->r=15)/\(((y2.1.Union !=(-1))&&(y11.1.Union==y2.1.Union))=false->V8 (wI (ij1+1)) l i y2 level x g r))))/\((decide (ij1<(((l.take i.toNat).drop (0:Int).toNat).length:Int)))=false->∃y8,l[i.toNat]? =some y8/\0<=i/\(∃y9,a42 x y2.1 y8.2 level y9/\(r=y9)))):V8 ij1 l i y2 level x g r:=
 KW 7 hw (fun _ hw=>KI 6 C2 hw fun _ hw=>KC 10 hw e6x fun _ hw=>KT 14 6<|KW 2 hw (fun _ hw=>KR 11 hw e1t) fun _ hw=>KJl 8 [] hw a4e) fun _ hw=>KD 6 [0]<|KI 4 C2 hw fun _ hw=>KC 3 hw h2r fun _ hw=>KR 5 hw e1t
theorem b6r(x:C9)(g:B8)(l:(List (Int × A0)))(i:Int)(level:Int)(r:Int)(hw:∃y1,l[i.toNat]? =some y1/\0<=i/\(∃y2,c0r g y1.1 y2/\(((!y2.2)=true->r=8)/\((!y2.2)=false->(0<=(0:Int)/\(0:Int)<=i/\i<=(l.length:Int))/\(∃y3,N6 ((l.take i.toNat).drop (0:Int).toNat) (⟨185,[],[.elt (V3 y2.1) 0],by simp⟩:GFn) y3/\((y3=true->r=9)/\(y3=false->(0<=(0:Int)/\(0:Int)<=i/\i<=(l.length:Int))/\(V8 0 l i y2 level x g r)))))))):a6z x g l i level r:=
 fP (KD 8 [1]<|KI 3 C2 hw fun _ hw=>KC 2 hw e6x fun y2 hw=>KV 4<|KW 11 hw (fun _ hw=>KR 7 hw e1t) fun _ hw=>KFz 4 2 [true,true,false] 0 [(11,.elt (V3 y2.1) 0),(6,.ptr 1 0),(5,.ptr 0 0),(2,.sl (List.map B4 l) .no),(3,aI i),(4,aI level)] [some (B6 x.p),some (E4 g),none] ⟨by first|rfl|simp,by first|rfl|simp⟩<|KSV 3 C2 hw fun hw=>KC 1 hw g4x fun _ hw=>KW 2 hw (fun _ hw=>KR 7 hw e1t) fun _ hw=>KSV 7 C2 hw fun hw=>KL 0 C2 ((l.take i.toNat).drop (0:Int).toNat)<|KJl 5 [] hw a4e)
theorem g55(r:Bool):plain (h5f r)=true:=rfl
theorem a46(s:(List (Int × A0)))(f:GFn)(r:Bool)(hw:∃y1,a2l s f y1/\(r=(decide (0<=y1)))):N6 s f r:=
 fP (KC 9 hw h0b fun _ hw=>KR 5 hw g55)
theorem e2z(r:Int):plain (h3p r)=true:=rfl
theorem b7i(x:C9)(g:B8)(f:H5)(r:Int)(hw:∃y1,c0r g f.Num y1/\(∃R1:Bool->Prop,(∀bz1:Bool,R1 bz1->((((((decide (f.Num<1))||(decide (65535<f.Num)))||(decide (f.Wire<0)))||(decide (6<f.Wire)))=true->r=1)/\(((((decide (f.Num<1))||(decide (65535<f.Num)))||(decide (f.Wire<0)))||(decide (6<f.Wire)))=false->(((((decide (f.Wire<=2))&&(!(decide (f.Data=(⟨#[]⟩:ByteArray)))))||((!(decide (f.Wire<=2)))&&(f.Bits !=0)))||(y1.2&&(!bz1)))=true->r=1)/\(((((decide (f.Wire<=2))&&(!(decide (f.Data=(⟨#[]⟩:ByteArray)))))||((!(decide (f.Wire<=2)))&&(f.Bits !=0)))||(y1.2&&(!bz1)))=false->((((f.Wire==3)&&(decide (4096<(f.Data.size:Int))))||(decide (65536<(f.Data.size:Int))))=true->r=3)/\((((f.Wire==3)&&(decide (4096<(f.Data.size:Int))))||(decide (65536<(f.Data.size:Int))))=false->r=0)))))/\((((((y1.1.Kind==9)&&(y1.1.Card !=5))&&(f.Wire==0))&&(decide (f.Bits<=2147483647)))=true->∃y2,a9g x.p y1.1.Target f.Bits y2/\(R1 (!y2)))/\(((((y1.1.Kind==9)&&(y1.1.Card !=5))&&(f.Wire==0))&&(decide (f.Bits<=2147483647)))=false->R1 false)))):a74 x g f r:=
 fP (KC 21 hw e6x fun y1 hw=>KT 14 4<|KT 1 4<|KT 1 4<|KQ 1 9 kB hw (fun bz1 hw=>KT 11 4<|KT 1 4<|KT 1 4<|KW 3 hw (fun _ hw=>KR 8 hw e2z) fun _ hw=>KT 4 4<|KT2 1 8 ((decide (f.Wire<=2))&&(!(decide (f.Data=(⟨#[]⟩:ByteArray))))) (fun z=>aB (z||((!(decide (f.Wire<=2)))&&(f.Bits !=0)))) (fun _ key=>KE2 8 key) (fun _ key=>KT 3 4<|KE2 1 key)<|KT2 1 6 (((decide (f.Wire<=2))&&(!(decide (f.Data=(⟨#[]⟩:ByteArray)))))||((!(decide (f.Wire<=2)))&&(f.Bits !=0))) (fun z=>aB (z||(y1.2&&(!bz1)))) (fun _ key=>KE2 6 key) (fun _ key=>KT 2 3<|KE2 1 key)<|KW 3 hw (fun _ hw=>KR 8 hw e2z) fun _ hw=>KT 6 5<|KT 1 5<|KW 3 hw (fun _ hw=>KR 8 hw e2z) fun _ hw=>KR 9 hw e2z) (fun _ key _ hw=>KC 6 hw h13 fun _ hw=>KE 2 key hw) fun _ key _ hw=>KE 9 key hw)
theorem g3s(r:(List A0)):plain (g75 r)=true:=(psl (E8 r))
def a8y(ij5:Int)(v:A0)(lj6:(List A0))(r:(List A0)):Prop:=J Tryz.prog 157 (.ret (g75 r)) 11 [(29,aI ij5),(28,aI (v.Slots.length:Int)),(27,.sl (List.map B4 v.Slots) .no),(3,.sl (List.map C0 lj6) (.own 0))] ⟨[],[(lj6.length,7)],[]⟩
def a80(ij3:Int)(v:A0)(lj4:(List A0))(r:(List A0)):Prop:=J Tryz.prog 157 (.ret (g75 r)) 4 [(14,aI ij3),(13,aI (v.Pairs.length:Int)),(12,.sl (List.map A8 v.Pairs) .no),(3,.sl (List.map C0 lj4) (.own 0)),(1,.ptr 0 0)] ⟨[some (A5 v)],[(lj4.length,7)],[]⟩
theorem b3k{ij5:Int}{v:A0}{lj6:(List A0)}:a7q [] 1 [(29,aI ij5),(28,aI (v.Slots.length:Int)),(27,.sl (List.map B4 v.Slots) .no),(3,.sl (List.map C0 lj6) (.own 0))]=true/\a5y [] 1 []=true:=⟨by first|rfl|simp,by first|rfl|simp⟩
theorem c2z{ij3:Int}{v:A0}{lj4:(List A0)}:a7q [true] 1 [(14,aI ij3),(13,aI (v.Pairs.length:Int)),(12,.sl (List.map A8 v.Pairs) .no),(3,.sl (List.map C0 lj4) (.own 0)),(1,.ptr 0 0)]=true/\a5y [true] 1 [some (A5 v)]=true:=⟨by first|rfl|simp,by first|rfl|simp⟩
theorem a5a(ij5:Int)(v:A0)(lj6:(List A0))(r:(List A0))(hw:((decide (ij5<(v.Slots.length:Int)))=true->∃y5,v.Slots[ij5.toNat]? =some y5/\0<=ij5/\((lj6.length+[y5.2].length)*128<=140737488355328/\(a8y (wI (ij5+1)) v (lj6++[y5.2]) r)))/\((decide (ij5<(v.Slots.length:Int)))=false->r=lj6)):a8y ij5 v lj6 r:=
 KW 7 hw (fun _ hw=>KI 6 C2 hw fun _ hw=>KA 10 G0 hw mE fun hw=>KJl 9 [] hw b3k) fun _ hw=>KR 12 hw g3s
theorem a5c(ij3:Int)(v:A0)(lj4:(List A0))(r:(List A0))(hw:((decide (ij3<(v.Pairs.length:Int)))=true->∃y6,v.Pairs[ij3.toNat]? =some y6/\0<=ij3/\((lj4.length+[y6.1,y6.2].length)*128<=140737488355328/\(a80 (wI (ij3+1)) v (lj4++[y6.1,y6.2]) r)))/\((decide (ij3<(v.Pairs.length:Int)))=false->a8y 0 v lj4 r)):a80 ij3 v lj4 r:=
 KW 7 hw (fun _ hw=>KI 6 B7 hw fun _ hw=>KA 12 G0 hw mE fun hw=>KJl 9 [] hw c2z) fun _ hw=>KL 10 C2 v.Slots<|KJl 5 [] hw b3k
theorem c7z(v:A0)(r:(List A0))(hw:a1l v.List_/\(a80 0 v v.List_ r)):c1c v r:=
 fP (KNB 10 G0 hw fun hw=>KL 8 B7 v.Pairs<|KJ 5 [] hw)
theorem f6l(r:(List (Int × A0))):plain (h3k r)=true:=(psl (E6 r))
theorem b1f(s:(List (Int × A0)))(r:(List (Int × A0)))(hw:∀bj1:Bool,(s≠[]->bj1=false)->((bj1=true->r=([]:(List (Int × A0))))/\(bj1=false->(([]:List (Int × A0)).length+s.length)*136<=140737488355328/\(r=(([]:List (Int × A0))++s))))):a6n s r:=
 fP (KN 9 C2 hw fun _ hw=>KW 2 hw (fun _ hw=>KR 7 hw f6l) fun _ hw=>KAf 6 C2 hw mF xE fun hw=>KR 4 hw f6l)
theorem a7n(s:(List (Int × A0)))(hw:s≠[]/\s.length*136<=140737488355328):a2o s:=d8e C2 hw
theorem a37(n0:Nat)(x:(List (Int × A0)))(cmp:GFn)(r:(List (Int × A0)))(hw:∃y1,a0f n0 x (n0:Int) cmp y1/\(x≠[]/\y1≠[])/\(y1≠[]/\r=y1)):S6 n0 x cmp r:=
 fRO (KRO 5 C2 hw g5v fun _ hw=>KRr 1 C2 hw)
theorem g3x(r:Int):plain (h40 r)=true:=rfl
theorem c3c(a:(Int × A0))(b:(Int × A0))(r:Int)(hw:∃y1,Q9 a.1 b.1 y1/\(r=y1)):c3r a b r:=
 fP (KC 13 hw d9l fun _ hw=>KR 4 hw g3x)
theorem f56(r:(GOp × Bool)):plain (h5k r)=true:=(c67 (A6 (N3 r.1) (A6 rfl rfl)))
theorem c02(x:b3u)(g:B8)(r:(GOp × Bool))(hw:∃y1,a6w g.Ops x.is y1/\(((decide (y1<0))=true->r=((⟨0,(⟨#[]⟩:ByteArray),(⟨#[]⟩:ByteArray),0,0,0,0,0⟩:GOp),false))/\((decide (y1<0))=false->∃y2,g.Ops[y1.toNat]? =some y2/\0<=y1/\(r=(y2,true))))):c0l x g r:=
 fP (KC 14 hw h1v fun _ hw=>KW 10 hw (fun _ hw=>KR 9 hw f56) fun _ hw=>KI 7 c0d hw fun _ hw=>KR 6 hw f56)
theorem f7w(r:A0):plain (h4b r)=true:=(B0 r)
theorem c25(p:A7)(o_:GOp)(v:A0)(r:A0)(hw:((o_.Kind==10)=true->∃y1,b2h p o_.Target v y1/\(r=y1))/\((o_.Kind==10)=false->∃y2,a8k v y2/\(r=y2))):a6y p o_ v r:=
 fP (KW 16 hw (fun _ hw=>KC 6 hw h49 fun _ hw=>KR 5 hw f7w) fun _ hw=>KC 5 hw g78 fun _ hw=>KR 4 hw f7w)
theorem f6r(r:(List (A0 × A0))):plain (g8i r)=true:=(psl (D9 r))
def a8u(ij1:Int)(lj2:(List (A0 × A0)))(r:(List (A0 × A0))):Prop:=J Tryz.prog 164 (.ret (g8i r)) 6 [(13,aI ij1),(12,aI (([]:List (A0 × A0)).length:Int)),(11,.sl (List.map A8 ([]:List (A0 × A0))) .no),(4,.sl (List.map A8 lj2) (.own 0)),(3,.sl (List.map A8 ([]:List (A0 × A0))) .no)] ⟨[],[(lj2.length,14)],[]⟩
def a4p(ij3:Int)(y9:(List (A0 × A0)))(lj4:(List (A0 × A0)))(r:(List (A0 × A0))):Prop:=J Tryz.prog 164 (.ret (g8i r)) 6 [(13,aI ij3),(12,aI (y9.length:Int)),(11,.sl (List.map A8 y9) .no),(4,.sl (List.map A8 lj4) (.own 0)),(3,.sl (List.map A8 y9) .no)] ⟨[],[(lj4.length,14)],[]⟩
theorem b20{ij1:Int}{lj2:(List (A0 × A0))}:a7q [] 1 [(13,aI ij1),(12,aI (([]:List (A0 × A0)).length:Int)),(11,.sl (List.map A8 ([]:List (A0 × A0))) .no),(4,.sl (List.map A8 lj2) (.own 0)),(3,.sl (List.map A8 ([]:List (A0 × A0))) .no)]=true/\a5y [] 1 []=true:=⟨by first|rfl|simp,by first|rfl|simp⟩
theorem a65{ij3:Int}{y9:(List (A0 × A0))}{lj4:(List (A0 × A0))}:a7q [] 1 [(13,aI ij3),(12,aI (y9.length:Int)),(11,.sl (List.map A8 y9) .no),(4,.sl (List.map A8 lj4) (.own 0)),(3,.sl (List.map A8 y9) .no)]=true/\a5y [] 1 []=true:=⟨by first|rfl|simp,by first|rfl|simp⟩
theorem c0z(ij1:Int)(lj2:(List (A0 × A0)))(r:(List (A0 × A0)))(hw:((decide (ij1<(([]:List (A0 × A0)).length:Int)))=true->∃y5,([]:List (A0 × A0))[ij1.toNat]? =some y5/\0<=ij1/\(∃R4:Bool->Prop,(∀bz4:Bool,R4 bz4->((bz4=true->(lj2.length+[y5].length)*256<=140737488355328/\(a8u (wI (ij1+1)) (lj2++[y5]) r))/\(bz4=false->a8u (wI (ij1+1)) lj2 r)))/\((((wI (ij1+1))==(([]:List (A0 × A0)).length:Int))=true->R4 true)/\(((wI (ij1+1))==(([]:List (A0 × A0)).length:Int))=false->∃y7,([]:List (A0 × A0))[(wI (ij1+1)).toNat]? =some y7/\0<=(wI (ij1+1))/\(∃y8,b2j y5.1 y7.1 y8/\(R4 (!y8)))))))/\((decide (ij1<(([]:List (A0 × A0)).length:Int)))=false->r=lj2)):a8u ij1 lj2 r:=
 KW 7 hw (fun _ hw=>KI 7 B7 hw fun _ hw=>KD 7 [0]<|KL 3 B7 ([]:List (A0 × A0))<|KQ 2 11 kB hw (fun _ hw=>KW 3 hw (fun _ hw=>KA 4 B7 hw mE fun hw=>KJl 9 [] hw b20) fun _ hw=>KJl 8 [] hw b20) (fun _ key _ hw=>KE 11 key hw) fun _ key _ hw=>KI 5 B7 hw fun _ hw=>KC 2 hw f88 fun _ hw=>KE 2 key hw) fun _ hw=>KR 12 hw f6r
theorem a5k(ij3:Int)(y9:(List (A0 × A0)))(lj4:(List (A0 × A0)))(r:(List (A0 × A0)))(hw:((decide (ij3<(y9.length:Int)))=true->∃y14,y9[ij3.toNat]? =some y14/\0<=ij3/\(∃R8:Bool->Prop,(∀bz8:Bool,R8 bz8->((bz8=true->(lj4.length+[y14].length)*256<=140737488355328/\(a4p (wI (ij3+1)) y9 (lj4++[y14]) r))/\(bz8=false->a4p (wI (ij3+1)) y9 lj4 r)))/\((((wI (ij3+1))==(y9.length:Int))=true->R8 true)/\(((wI (ij3+1))==(y9.length:Int))=false->∃y16,y9[(wI (ij3+1)).toNat]? =some y16/\0<=(wI (ij3+1))/\(∃y17,b2j y14.1 y16.1 y17/\(R8 (!y17)))))))/\((decide (ij3<(y9.length:Int)))=false->r=lj4)):a4p ij3 y9 lj4 r:=
 KW 7 hw (fun _ hw=>KI 7 B7 hw fun _ hw=>KD 7 [0]<|KL 3 B7 y9<|KQ 2 11 kB hw (fun _ hw=>KW 3 hw (fun _ hw=>KA 4 B7 hw mE fun hw=>KJl 9 [] hw a65) fun _ hw=>KJl 8 [] hw a65) (fun _ key _ hw=>KE 11 key hw) fun _ key _ hw=>KI 5 B7 hw fun _ hw=>KC 2 hw f88 fun _ hw=>KE 2 key hw) fun _ hw=>KR 12 hw f6r
theorem b67(l:(List (A0 × A0)))(r:(List (A0 × A0)))(hw:(l=[]->a6t l ([]:List (A0 × A0))/\(W8 (⟨193,[],[],rfl⟩:GFn)/\(a8u 0 ([]:List (A0 × A0)) r)))/\(l≠[]->a28 l/\(∃y9,S5 l.length l (⟨193,[],[],rfl⟩:GFn) y9/\(l≠[]/\y9≠[])/\(y9.length=l.length/\(a4p 0 y9 ([]:List (A0 × A0)) r))))):b6j l r:=
 fP (g9c l (fun hb1=>KC0 8 (hw.1 hb1) g8n fun hw=>KC0 6 hw g4j fun hw=>KL 11 B7 ([]:List (A0 × A0))<|KO 5 4 14<|KJ 0 [] hw) fun hb1=>KNw 8 B7 hb1 (hw.2 hb1) fun hw=>KRO 6 B7 hw g5n fun y9 hw=>KDf 2 B7 0 [false] 0 1 [(3,.sl (List.map A8 y9) .no)] [none] ⟨by first|rfl|simp,by first|rfl|simp⟩ hw fun hw=>KL 9 B7 y9<|KO 5 4 14<|KJl 0 [] hw a65)
theorem g7e(r:Bool):plain (h5g r)=true:=rfl
theorem c3d(v:A0)(r:Bool)(hw:∃y1,b8g v.Kind y1/\(∃R1:Bool->Prop,(∀bz1:Bool,R1 bz1->(r=((bz1&&(v.Bits==0))&&(decide (v.Text=(⟨#[]⟩:ByteArray))))))/\((y1=true->∃y2,b56 v y2/\(R1 y2))/\(y1=false->R1 false)))):a62 v r:=
 fP (KC 10 hw g7z fun _ hw=>KQ 1 3 kB hw (fun _ hw=>KT 1 4<|KT 1 4<|KR 4 hw g7e) (fun _ key _ hw=>KC 1 hw h3t fun _ hw=>KE 1 key hw) fun _ key _ hw=>KE 3 key hw)
theorem g6i(r:Bool):plain (h4x r)=true:=rfl
theorem b3a(x:Int)(r:Bool)(hw:r=(x !=x)):b64 x r:=
 fP (KR 14 hw g6i)
theorem e5o(r:(A3 × Int)):plain (h4a r)=true:=(c67 (A6 (C6 r.1) (A6 rfl rfl)))
theorem b43(c:A3)(n:Int)(r:(A3 × Int))(hw:((decide (n<0))=true->r=(c,1))/\((decide (n<0))=false->((decide (c.Nodes<n))=true->r=(c,3))/\((decide (c.Nodes<n))=false->r=((⟨c.Data,c.At,c.End,c.Depth,(wI (c.Nodes - n)),c.Text⟩:A3),0)))):c6p c n r:=
 fP (KW 16 hw (fun _ hw=>KR 10 hw e5o) fun _ hw=>KW 9 hw (fun _ hw=>KR 10 hw e5o) fun _ hw=>KR 21 hw e5o)
theorem e0k(r:(A9 × (Int × Int))):plain (g7v r)=true/\(D0 r.1).all ok1=true/\lowL [true] 0 (D0 r.1)=true/\(J6 r.1).length=0:=⟨f6u r,J3 _,a40 _,rfl⟩
theorem b8q(r_:A9)(r:(A9 × (Int × Int)))(hw:∃y1,b5t r_.c y1/\(((y1.2.2 !=0)=true->r=(r_,0,y1.2.2))/\((y1.2.2 !=0)=false->((decide (4096<y1.1))=true->r=(r_,0,3))/\((decide (4096<y1.1))=false->((decide (0<y1.1))=true->∃y2,a1k (⟨r_.p,y1.2.1⟩:A9) 1 y2/\(r=(y2.1,(wI y1.1),y2.2)))/\((decide (0<y1.1))=false->r=((⟨r_.p,y1.2.1⟩:A9),(wI y1.1),y1.2.2)))))):a4z r_ r:=
 fIO (KC 12 hw g95 fun _ hw=>KW 17 hw (fun _ hw=>KRi 9 hw e0k) fun _ hw=>KW 9 hw (fun _ hw=>KRi 8 hw e0k) fun _ hw=>KW 18 hw (fun _ hw=>KIO 2 hw e6m fun _ hw=>KRi 13 hw e0k) fun _ hw=>KRi 12 hw e0k)
theorem d22(r:Int):plain (h4h r)=true:=rfl
theorem d19(a:A0)(b:A0)(r:Int)(hw:((a.Kind !=b.Kind)=true->∃y1,Q9 a.Kind b.Kind y1/\(r=y1))/\((a.Kind !=b.Kind)=false->∃y2,a8w b y2/\(∃y3,a8w a y3/\((∀y4,y3=b9q.a_order_one y4->∃y5,c5h y4 b y5/\(r=y5))/\((∀y4,y3≠b9q.a_order_one y4)->(∀y6,y3=b9q.a_order_list y6->∃y7,y2=b9q.a_order_list y7/\(∃y8,K3 y6 y7 (⟨170,[],[],rfl⟩:GFn) y8/\(r=y8)))/\((∀y6,y3≠b9q.a_order_list y6)->(∀y9,y3=b9q.a_order_pairs y9->∃y10,y2=b9q.a_order_pairs y10/\(∃y11,K1 y9 y10 (⟨201,[],[],rfl⟩:GFn) y11/\(r=y11)))/\((∀y9,y3≠b9q.a_order_pairs y9)->(∀y12,y3=b9q.a_order_parts y12->∃y13,y2=b9q.a_order_parts y13/\(∃y14,U8 y12.slots y13.slots (⟨204,[],[],rfl⟩:GFn) y14/\(∃y15,W9 y12.raws y13.raws (⟨206,[],[],rfl⟩:GFn) y15/\(∃y16,b1m ([y14,y15]:(List Int)) y16/\(r=y16)))))/\((∀y12,y3≠b9q.a_order_parts y12)->r=0)))))))):a9y a b r:=
 fP (KW 17 hw (fun _ hw=>KC 6 hw d9l fun _ hw=>KR 5 hw d22) fun _ hw=>KC 5 hw g7n fun _ hw=>KC 7 hw g7n fun _ hw=>g5j 5 hw (fun _ hw=>KC 15 hw g98 fun _ hw=>KR 6 hw d22) fun hw=>g6d 7 hw (fun _ hw=>g1b 14 hw fun _ hw=>KC 0 hw h1l fun _ hw=>KR 6 hw d22) fun hw=>g6w 7 hw (fun _ hw=>g0f 14 hw fun _ hw=>KC 0 hw g9s fun _ hw=>KR 6 hw d22) fun hw=>g4w 7 hw (fun _ hw=>g2j 14 hw fun _ hw=>KD 5 [2,3]<|KC 4 hw h2f fun _ hw=>KC 4 hw h2d fun _ hw=>KC 1 hw f4d fun _ hw=>KR 7 hw d22) fun hw=>KR 14 hw d22)
theorem e8j(r:Bool):plain (h0u r)=true:=rfl
def a2y(ij1:Int)(sj2:ByteArray)(s:ByteArray)(r:Bool):Prop:=JP Tryz.prog 173 (h0u r) 7 [(4,aI ij1),(3,aS sj2),(0,aS s)]
theorem b0g(ij1:Int)(sj2:ByteArray)(s:ByteArray)(r:Bool)(hw:((decide (ij1<(s.size:Int)))=true->(0<=ij1/\ij1<(s.size:Int))/\((((F3 s ij1.toNat) !=46)=true->(0<=ij1/\ij1<=(wI (ij1+1))/\(wI (ij1+1))<=(s.size:Int))/\(((sj2.size+(s.extract ij1.toNat (wI (ij1+1)).toNat).size:Nat):Int)<=9223372036854775807/\(a2y (wI (ij1+1)) (sj2++(s.extract ij1.toNat (wI (ij1+1)).toNat)) s r)))/\(((F3 s ij1.toNat) !=46)=false->∃y4,a9u sj2 y4/\(((!y4)=true->r=false)/\((!y4)=false->a2y (wI (ij1+1)) (⟨#[]⟩:ByteArray) s r)))))/\((decide (ij1<(s.size:Int)))=false->∃y3,a9u sj2 y3/\(r=y3))):a2y ij1 sj2 s r:=
 KW 10 hw (fun _ hw=>KIS 9 hw fun hw=>KW 3 hw (fun _ hw=>KSS 7 hw fun hw=>g9e 0 hw fun hw=>KJ 13 [] hw) fun _ hw=>KC 6 hw f8u fun _ hw=>KW 3 hw (fun _ hw=>KR 12 hw e8j) fun _ hw=>KJ 13 [] hw) fun _ hw=>KC 8 hw f8u fun _ hw=>KR 4 hw e8j
theorem c5b(s:ByteArray)(r:Bool)(hw:((decide (120<(s.size:Int)))=true->r=false)/\((decide (120<(s.size:Int)))=false->a2y 0 (⟨#[]⟩:ByteArray) s r)):b76 s r:=
 fP (KW 13 hw (fun _ hw=>KR 7 hw e8j) fun _ hw=>KJ 15 [] hw)
theorem f57(r:(ByteArray × ByteArray)):plain (h2c r)=true:=(c67 (A6 rfl (A6 rfl rfl)))
def a82(ij1:Int)(full:ByteArray)(r:(ByteArray × ByteArray)):Prop:=JP Tryz.prog 174 (h2c r) 3 [(4,aI ij1),(0,aS full)]
theorem b12(ij1:Int)(full:ByteArray)(r:(ByteArray × ByteArray))(hw:((decide (0<=ij1))=true->(0<=ij1/\ij1<(full.size:Int))/\((((F3 full ij1.toNat)==46)=true->(0<=(0:Int)/\(0:Int)<=ij1/\ij1<=(full.size:Int))/\((0<=(wI (ij1+1))/\(wI (ij1+1))<=(full.size:Int)/\(full.size:Int)<=(full.size:Int))/\(r=((full.extract (0:Int).toNat ij1.toNat),(full.extract (wI (ij1+1)).toNat (full.size:Int).toNat)))))/\(((F3 full ij1.toNat)==46)=false->a82 (wI (ij1 - 1)) full r)))/\((decide (0<=ij1))=false->r=((⟨#[]⟩:ByteArray),full))):a82 ij1 full r:=
 KW 8 hw (fun _ hw=>KIS 8 hw fun hw=>KW 3 hw (fun _ hw=>KD 1 []<|KSS 2 hw fun hw=>KSS 3 hw fun hw=>KR 11 hw f57) fun _ hw=>KJ 9 [] hw) fun _ hw=>KR 13 hw f57
theorem c70(full:ByteArray)(r:(ByteArray × ByteArray))(hw:a82 (wI ((full.size:Int) - 1)) full r):c13 full r:=
 fP (KJ 17 [] hw)
theorem a3q(r:Bool):plain (h34 r)=true:=rfl
theorem c5i(s:ByteArray)(r:Bool)(hw:((decide (s=(⟨#[109,101,115,115,97,103,101]⟩:ByteArray)))=true->r=true)/\((decide (s=(⟨#[109,101,115,115,97,103,101]⟩:ByteArray)))=false->((decide (s=(⟨#[101,110,117,109]⟩:ByteArray)))=true->r=true)/\((decide (s=(⟨#[101,110,117,109]⟩:ByteArray)))=false->((decide (s=(⟨#[115,101,114,118,105,99,101]⟩:ByteArray)))=true->r=true)/\((decide (s=(⟨#[115,101,114,118,105,99,101]⟩:ByteArray)))=false->((decide (s=(⟨#[117,110,105,111,110]⟩:ByteArray)))=true->r=true)/\((decide (s=(⟨#[117,110,105,111,110]⟩:ByteArray)))=false->((decide (s=(⟨#[109,97,112]⟩:ByteArray)))=true->r=true)/\((decide (s=(⟨#[109,97,112]⟩:ByteArray)))=false->((decide (s=(⟨#[108,105,115,116]⟩:ByteArray)))=true->r=true)/\((decide (s=(⟨#[108,105,115,116]⟩:ByteArray)))=false->((decide (s=(⟨#[114,101,113,117,105,114,101,100]⟩:ByteArray)))=true->r=true)/\((decide (s=(⟨#[114,101,113,117,105,114,101,100]⟩:ByteArray)))=false->((decide (s=(⟨#[111,112,116,105,111,110,97,108]⟩:ByteArray)))=true->r=true)/\((decide (s=(⟨#[111,112,116,105,111,110,97,108]⟩:ByteArray)))=false->((decide (s=(⟨#[112,108,97,105,110]⟩:ByteArray)))=true->r=true)/\((decide (s=(⟨#[112,108,97,105,110]⟩:ByteArray)))=false->((decide (s=(⟨#[100,101,102,97,117,108,116]⟩:ByteArray)))=true->r=true)/\((decide (s=(⟨#[100,101,102,97,117,108,116]⟩:ByteArray)))=false->((decide (s=(⟨#[114,101,115,101,114,118,101,100]⟩:ByteArray)))=true->r=true)/\((decide (s=(⟨#[114,101,115,101,114,118,101,100]⟩:ByteArray)))=false->((decide (s=(⟨#[105,109,112,111,114,116]⟩:ByteArray)))=true->r=true)/\((decide (s=(⟨#[105,109,112,111,114,116]⟩:ByteArray)))=false->((decide (s=(⟨#[115,112,97,99,101]⟩:ByteArray)))=true->r=true)/\((decide (s=(⟨#[115,112,97,99,101]⟩:ByteArray)))=false->((decide (s=(⟨#[114,112,99]⟩:ByteArray)))=true->r=true)/\((decide (s=(⟨#[114,112,99]⟩:ByteArray)))=false->((decide (s=(⟨#[115,116,114,101,97,109]⟩:ByteArray)))=true->r=true)/\((decide (s=(⟨#[115,116,114,101,97,109]⟩:ByteArray)))=false->((decide (s=(⟨#[114,101,116,117,114,110,115]⟩:ByteArray)))=true->r=true)/\((decide (s=(⟨#[114,101,116,117,114,110,115]⟩:ByteArray)))=false->((decide (s=(⟨#[111,112,101,110]⟩:ByteArray)))=true->r=true)/\((decide (s=(⟨#[111,112,101,110]⟩:ByteArray)))=false->((decide (s=(⟨#[116,114,117,101]⟩:ByteArray)))=true->r=true)/\((decide (s=(⟨#[116,114,117,101]⟩:ByteArray)))=false->((decide (s=(⟨#[102,97,108,115,101]⟩:ByteArray)))=true->r=true)/\((decide (s=(⟨#[102,97,108,115,101]⟩:ByteArray)))=false->((decide (s=(⟨#[110,97,110]⟩:ByteArray)))=true->r=true)/\((decide (s=(⟨#[110,97,110]⟩:ByteArray)))=false->((decide (s=(⟨#[105,110,102]⟩:ByteArray)))=true->r=true)/\((decide (s=(⟨#[105,110,102]⟩:ByteArray)))=false->r=false)))))))))))))))))))))):b3h s r:=
 fP (KW 19 hw (fun hb1 hw=>KKn 2 hb1<|KR 8 hw a3q) fun hb1 hw=>KW 6 hw (fun hb2 hw=>KKn 2 hb2<|KR 8 hw a3q) fun hb2 hw=>KW 6 hw (fun hb3 hw=>KKn 2 hb3<|KR 8 hw a3q) fun hb3 hw=>KW 6 hw (fun hb4 hw=>KKn 2 hb4<|KR 8 hw a3q) fun hb4 hw=>KW 6 hw (fun hb5 hw=>KKn 2 hb5<|KR 8 hw a3q) fun hb5 hw=>KW 6 hw (fun hb6 hw=>KKn 2 hb6<|KR 8 hw a3q) fun hb6 hw=>KW 6 hw (fun hb7 hw=>KKn 2 hb7<|KR 8 hw a3q) fun hb7 hw=>KW 6 hw (fun hb8 hw=>KKn 2 hb8<|KR 8 hw a3q) fun hb8 hw=>KW 6 hw (fun hb9 hw=>KKn 2 hb9<|KR 8 hw a3q) fun hb9 hw=>KW 6 hw (fun hb10 hw=>KKn 2 hb10<|KR 8 hw a3q) fun hb10 hw=>KW 6 hw (fun hb11 hw=>KKn 2 hb11<|KR 8 hw a3q) fun hb11 hw=>KW 6 hw (fun hb12 hw=>KKn 2 hb12<|KR 8 hw a3q) fun hb12 hw=>KW 6 hw (fun hb13 hw=>KKn 2 hb13<|KR 8 hw a3q) fun hb13 hw=>KW 6 hw (fun hb14 hw=>KKn 2 hb14<|KR 8 hw a3q) fun hb14 hw=>KW 6 hw (fun hb15 hw=>KKn 2 hb15<|KR 8 hw a3q) fun hb15 hw=>KW 6 hw (fun hb16 hw=>KKn 2 hb16<|KR 8 hw a3q) fun hb16 hw=>KW 6 hw (fun hb17 hw=>KKn 2 hb17<|KR 8 hw a3q) fun hb17 hw=>KW 6 hw (fun hb18 hw=>KKn 2 hb18<|KR 8 hw a3q) fun hb18 hw=>KW 6 hw (fun hb19 hw=>KKn 2 hb19<|KR 8 hw a3q) fun hb19 hw=>KW 6 hw (fun hb20 hw=>KKn 2 hb20<|KR 8 hw a3q) fun hb20 hw=>KW 5 hw (fun _ hw=>KR 8 hw a3q) fun _ hw=>KR 9 hw a3q)
theorem f0q(r:Bool):plain (g86 r)=true:=rfl
def a2s(ij1:Int)(s:ByteArray)(r:Bool):Prop:=JP Tryz.prog 176 (g86 r) 6 [(3,aI ij1),(0,aS s)]
theorem b0w(ij1:Int)(s:ByteArray)(r:Bool)(hw:((decide (ij1<(s.size:Int)))=true->(0<=ij1/\ij1<(s.size:Int))/\(∃y5,b6v (F3 s ij1.toNat) y5/\(∃R6:Bool->Prop,(∀bz6:Bool,R6 bz6->(∃R7:Bool->Prop,(∀bz7:Bool,R7 bz7->((bz7=true->(0<=ij1/\ij1<(s.size:Int))/\(∃R8:Bool->Prop,(∀bz8:Bool,R8 bz8->((bz8=true->r=false)/\(bz8=false->a2s (wI (ij1+1)) s r)))/\(((decide ((F3 s ij1.toNat)<48))=true->R8 true)/\((decide ((F3 s ij1.toNat)<48))=false->(0<=ij1/\ij1<(s.size:Int))/\(R8 (decide (57<(F3 s ij1.toNat))))))))/\(bz7=false->a2s (wI (ij1+1)) s r)))/\((bz6=true->(0<=ij1/\ij1<(s.size:Int))/\(R7 ((F3 s ij1.toNat) !=95)))/\(bz6=false->R7 false))))/\(((!y5)=true->(0<=ij1/\ij1<(s.size:Int))/\(∃y6,b0z (F3 s ij1.toNat) y6/\(R6 (!y6))))/\((!y5)=false->R6 false)))))/\((decide (ij1<(s.size:Int)))=false->r=true)):a2s ij1 s r:=
 KW 10 hw (fun _ hw=>KIS 8 hw fun hw=>KC 0 hw g67 fun _ hw=>KQ 2 6 kB hw (fun _ hw=>KQ 1 5 kB hw (fun _ hw=>KW 1 hw (fun _ hw=>KIS 2 hw fun hw=>KQ 2 5 kB hw (fun _ hw=>KW 3 hw (fun _ hw=>KR 11 hw f0q) fun _ hw=>KJ 9 [] hw) (fun _ key _ hw=>KE 5 key hw) fun _ key _ hw=>KIS 2 hw fun hw=>KE 2 key hw) fun _ hw=>KJ 23 [] hw) (fun _ key _ hw=>KIS 2 hw fun hw=>KE 2 key hw) fun _ key _ hw=>KE 5 key hw) (fun _ key _ hw=>KIS 2 hw fun hw=>KC 0 hw g3d fun _ hw=>KE 2 key hw) fun _ key _ hw=>KE 6 key hw) fun _ hw=>KR 11 hw f0q
theorem c47(s:ByteArray)(r:Bool)(hw:∃R1:Bool->Prop,(∀bz1:Bool,R1 bz1->((bz1=true->r=false)/\(bz1=false->a2s 1 s r)))/\(((((s.size:Int)==0)||(decide (40<(s.size:Int))))=true->R1 true)/\((((s.size:Int)==0)||(decide (40<(s.size:Int))))=false->(0<=(0:Int)/\(0:Int)<(s.size:Int))/\(∃y1,b6v (F3 s (0:Int).toNat) y1/\(∃R2:Bool->Prop,(∀bz2:Bool,R2 bz2->(R1 bz2))/\(((!y1)=true->(0<=(0:Int)/\(0:Int)<(s.size:Int))/\(∃y2,b0z (F3 s (0:Int).toNat) y2/\(R2 (!y2))))/\((!y1)=false->R2 false))))))):a9u s r:=
 fP (KT 12 4<|KQ 1 11 kB hw (fun _ hw=>KW 2 hw (fun _ hw=>KR 7 hw f0q) fun _ hw=>KJ 10 [] hw) (fun _ key _ hw=>KE 11 key hw) fun _ key _ hw=>KIS 1 hw fun hw=>KC 0 hw g67 fun _ hw=>KQ 2 5 kB hw (fun _ hw=>KE 1 key hw) (fun _ key _ hw=>KIS 1 hw fun hw=>KC 0 hw g3d fun _ hw=>KE 2 key hw) fun _ key _ hw=>KE 5 key hw)
theorem d2l(r:Int):plain (g3o r)=true:=rfl
def a11(bj7:Bool)(name:ByteArray)(r:Int):Prop:=JP Tryz.prog 177 (g3o r) 12 [(13,aB bj7),(3,aS name)]
def a1y(bj6:Bool)(name:ByteArray)(r:Int):Prop:=JP Tryz.prog 177 (g3o r) 7 [(8,aB bj6),(3,aS name)]
def a6r(bj4:Bool)(name:ByteArray)(r:Int):Prop:=JP Tryz.prog 177 (g3o r) 3 [(4,aB bj4),(3,aS name)]
theorem c11(bj7:Bool)(name:ByteArray)(r:Int)(hw:(bj7=true->r=4)/\(bj7=false->((decide (name=(⟨#[109,105,110]⟩:ByteArray)))=true->r=3)/\((decide (name=(⟨#[109,105,110]⟩:ByteArray)))=false->((decide (name=(⟨#[109,97,120]⟩:ByteArray)))=true->r=3)/\((decide (name=(⟨#[109,97,120]⟩:ByteArray)))=false->r=0)))):a11 bj7 name r:=
 KW 0 hw (fun _ hw=>KR 8 hw d2l) fun _ hw=>KW 7 hw (fun hb49 hw=>KKn 2 hb49<|KR 8 hw d2l) fun hb49 hw=>KW 5 hw (fun _ hw=>KR 8 hw d2l) fun _ hw=>KR 9 hw d2l
theorem c1b(bj6:Bool)(name:ByteArray)(r:Int)(hw:(bj6=true->r=7)/\(bj6=false->((decide (name=(⟨#[115,105,110,99,101]⟩:ByteArray)))=true->a11 (decide (name=(⟨#[115,105,110,99,101]⟩:ByteArray))) name r)/\((decide (name=(⟨#[115,105,110,99,101]⟩:ByteArray)))=false->((decide (name=(⟨#[117,110,116,105,108]⟩:ByteArray)))=true->a11 (decide (name=(⟨#[117,110,116,105,108]⟩:ByteArray))) name r)/\((decide (name=(⟨#[117,110,116,105,108]⟩:ByteArray)))=false->((decide (name=(⟨#[108,101,110,103,116,104]⟩:ByteArray)))=true->a11 (decide (name=(⟨#[108,101,110,103,116,104]⟩:ByteArray))) name r)/\((decide (name=(⟨#[108,101,110,103,116,104]⟩:ByteArray)))=false->a11 (decide (name=(⟨#[116,105,109,101,111,117,116]⟩:ByteArray))) name r))))):a1y bj6 name r:=
 KW 0 hw (fun _ hw=>KR 8 hw d2l) fun _ hw=>KW 7 hw (fun _ hw=>KJ 2 [] hw) fun _ hw=>KW 6 hw (fun _ hw=>KJ 2 [] hw) fun _ hw=>KW 6 hw (fun _ hw=>KJ 2 [] hw) fun _ hw=>KJ 5 [] hw
theorem c26(bj4:Bool)(name:ByteArray)(r:Int)(hw:(bj4=true->r=1)/\(bj4=false->((decide (name=(⟨#[100,111,99]⟩:ByteArray)))=true->a1y (decide (name=(⟨#[100,111,99]⟩:ByteArray))) name r)/\((decide (name=(⟨#[100,111,99]⟩:ByteArray)))=false->((decide (name=(⟨#[97,108,105,97,115]⟩:ByteArray)))=true->a1y (decide (name=(⟨#[97,108,105,97,115]⟩:ByteArray))) name r)/\((decide (name=(⟨#[97,108,105,97,115]⟩:ByteArray)))=false->((decide (name=(⟨#[114,111,117,116,101]⟩:ByteArray)))=true->a1y (decide (name=(⟨#[114,111,117,116,101]⟩:ByteArray))) name r)/\((decide (name=(⟨#[114,111,117,116,101]⟩:ByteArray)))=false->a1y (decide (name=(⟨#[111,119,110,101,114]⟩:ByteArray))) name r))))):a6r bj4 name r:=
 KW 0 hw (fun _ hw=>KR 8 hw d2l) fun _ hw=>KW 7 hw (fun _ hw=>KJ 2 [] hw) fun _ hw=>KW 6 hw (fun _ hw=>KJ 2 [] hw) fun _ hw=>KW 6 hw (fun _ hw=>KJ 2 [] hw) fun _ hw=>KJ 5 [] hw
theorem c95(name:ByteArray)(r:Int)(hw:((decide (name=(⟨#[100,101,112,114,101,99,97,116,101,100]⟩:ByteArray)))=true->a6r (decide (name=(⟨#[100,101,112,114,101,99,97,116,101,100]⟩:ByteArray))) name r)/\((decide (name=(⟨#[100,101,112,114,101,99,97,116,101,100]⟩:ByteArray)))=false->((decide (name=(⟨#[115,101,99,114,101,116]⟩:ByteArray)))=true->a6r (decide (name=(⟨#[115,101,99,114,101,116]⟩:ByteArray))) name r)/\((decide (name=(⟨#[115,101,99,114,101,116]⟩:ByteArray)))=false->a6r (decide (name=(⟨#[105,100,101,109,112,111,116,101,110,116]⟩:ByteArray))) name r))):b9y name r:=
 fP (KW 19 hw (fun _ hw=>KJ 2 [] hw) fun _ hw=>KW 6 hw (fun _ hw=>KJ 2 [] hw) fun _ hw=>KJ 5 [] hw)
theorem d58(r:Bool):plain (g2r r)=true:=rfl
def a4c(bj15:Bool)(target:Int)(r:Bool):Prop:=JP Tryz.prog 178 (g2r r) 15 [(36,aB bj15),(1,aI target)]
def a10(bj14:Bool)(name:ByteArray)(target:Int)(r:Bool):Prop:=JP Tryz.prog 178 (g2r r) 10 [(29,aB bj14),(5,aS name),(1,aI target)]
def a4j(bj12:Bool)(name:ByteArray)(target:Int)(r:Bool):Prop:=JP Tryz.prog 178 (g2r r) 6 [(15,aB bj12),(5,aS name),(1,aI target)]
def a86(bj8:Bool)(name:ByteArray)(target:Int)(r:Bool):Prop:=JP Tryz.prog 178 (g2r r) 3 [(6,aB bj8),(5,aS name),(1,aI target)]
theorem c1x(bj15:Bool)(target:Int)(r:Bool)(hw:(bj15=true->r=(target==6))/\(bj15=false->r=((target==1)||(target==5)))):a4c bj15 target r:=
 KW 0 hw (fun _ hw=>KR 10 hw d58) fun _ hw=>KT 8 3<|KR 4 hw d58
theorem c06(bj14:Bool)(name:ByteArray)(target:Int)(r:Bool)(hw:(bj14=true->r=(target==2))/\(bj14=false->((decide (name=(⟨#[105,100,101,109,112,111,116,101,110,116]⟩:ByteArray)))=true->a4c (decide (name=(⟨#[105,100,101,109,112,111,116,101,110,116]⟩:ByteArray))) target r)/\((decide (name=(⟨#[105,100,101,109,112,111,116,101,110,116]⟩:ByteArray)))=false->((decide (name=(⟨#[116,105,109,101,111,117,116]⟩:ByteArray)))=true->a4c (decide (name=(⟨#[116,105,109,101,111,117,116]⟩:ByteArray))) target r)/\((decide (name=(⟨#[116,105,109,101,111,117,116]⟩:ByteArray)))=false->a4c (decide (name=(⟨#[114,111,117,116,101]⟩:ByteArray))) target r)))):a10 bj14 name target r:=
 KW 0 hw (fun _ hw=>KR 10 hw d58) fun _ hw=>KW 7 hw (fun _ hw=>KJ 2 [] hw) fun _ hw=>KW 6 hw (fun _ hw=>KJ 2 [] hw) fun _ hw=>KJ 5 [] hw
theorem c1q(bj12:Bool)(name:ByteArray)(target:Int)(r:Bool)(hw:(bj12=true->r=(((target==2)||(target==4))||(target==6)))/\(bj12=false->((decide (name=(⟨#[109,105,110]⟩:ByteArray)))=true->a10 (decide (name=(⟨#[109,105,110]⟩:ByteArray))) name target r)/\((decide (name=(⟨#[109,105,110]⟩:ByteArray)))=false->((decide (name=(⟨#[109,97,120]⟩:ByteArray)))=true->a10 (decide (name=(⟨#[109,97,120]⟩:ByteArray))) name target r)/\((decide (name=(⟨#[109,97,120]⟩:ByteArray)))=false->((decide (name=(⟨#[108,101,110,103,116,104]⟩:ByteArray)))=true->a10 (decide (name=(⟨#[108,101,110,103,116,104]⟩:ByteArray))) name target r)/\((decide (name=(⟨#[108,101,110,103,116,104]⟩:ByteArray)))=false->a10 (decide (name=(⟨#[115,101,99,114,101,116]⟩:ByteArray))) name target r))))):a4j bj12 name target r:=
 KW 0 hw (fun _ hw=>KT 5 3<|KT 1 3<|KR 6 hw d58) fun _ hw=>KW 7 hw (fun _ hw=>KJ 2 [] hw) fun _ hw=>KW 6 hw (fun _ hw=>KJ 2 [] hw) fun _ hw=>KW 6 hw (fun _ hw=>KJ 2 [] hw) fun _ hw=>KJ 5 [] hw
theorem c17(bj8:Bool)(name:ByteArray)(target:Int)(r:Bool)(hw:(bj8=true->r=((decide (1<=target))&&(decide (target<=6))))/\(bj8=false->((decide (name=(⟨#[97,108,105,97,115]⟩:ByteArray)))=true->a4j (decide (name=(⟨#[97,108,105,97,115]⟩:ByteArray))) name target r)/\((decide (name=(⟨#[97,108,105,97,115]⟩:ByteArray)))=false->((decide (name=(⟨#[115,105,110,99,101]⟩:ByteArray)))=true->a4j (decide (name=(⟨#[115,105,110,99,101]⟩:ByteArray))) name target r)/\((decide (name=(⟨#[115,105,110,99,101]⟩:ByteArray)))=false->a4j (decide (name=(⟨#[117,110,116,105,108]⟩:ByteArray))) name target r)))):a86 bj8 name target r:=
 KW 0 hw (fun _ hw=>KT 5 3<|KR 6 hw d58) fun _ hw=>KW 7 hw (fun _ hw=>KJ 2 [] hw) fun _ hw=>KW 6 hw (fun _ hw=>KJ 2 [] hw) fun _ hw=>KJ 5 [] hw
theorem c9v(name:ByteArray)(target:Int)(r:Bool)(hw:((decide (name=(⟨#[100,101,112,114,101,99,97,116,101,100]⟩:ByteArray)))=true->a86 (decide (name=(⟨#[100,101,112,114,101,99,97,116,101,100]⟩:ByteArray))) name target r)/\((decide (name=(⟨#[100,101,112,114,101,99,97,116,101,100]⟩:ByteArray)))=false->a86 (decide (name=(⟨#[100,111,99]⟩:ByteArray))) name target r)):c45 name target r:=
 fP (KW 19 hw (fun _ hw=>KJ 2 [] hw) fun _ hw=>KJ 5 [] hw)
theorem f7m(r:Bool):plain (h47 r)=true:=rfl
theorem c7r(n:b2r)(r:Bool)(hw:∃y1,b9y n.Name y1/\((((y1 !=0)&&(n.Val.Kind==y1))=true->∃y2,c4s y1 n.Val y2/\(r=y2))/\(((y1 !=0)&&(n.Val.Kind==y1))=false->r=false))):c05 n r:=
 fP (KC 10 hw g5f fun _ hw=>KT 8 6<|KW 1 hw (fun _ hw=>KC 3 hw h6o fun _ hw=>KR 5 hw f7m) fun _ hw=>KR 9 hw f7m)
theorem e88(r:Bool):plain (h43 r)=true:=rfl
theorem c5c(p:A7)(o_:GOp)(r:Bool)(hw:((o_.Kind==10)=true->r=(((decide (0<=o_.Target))&&(decide (o_.Target<(p.Progs.length:Int))))&&(o_.Card !=3)))/\((o_.Kind==10)=false->((o_.Kind==9)=true->r=((decide (0<=o_.Target))&&(decide (o_.Target<(p.Enums.length:Int)))))/\((o_.Kind==9)=false->r=(o_.Target==(-1))))):b70 p o_ r:=
 fP (KW 21 hw (fun _ hw=>KT2 6 7 (decide (0<=o_.Target)) (fun z=>aB (z&&(decide (o_.Target<(p.Progs.length:Int))))) (fun _ key=>KL 4 L3 p.Progs<|KE2 2 key) (fun _ key=>KE2 7 key)<|KT 1 4<|KR 6 hw e88) fun _ hw=>KW 6 hw (fun _ hw=>KT2 6 7 (decide (0<=o_.Target)) (fun z=>aB (z&&(decide (o_.Target<(p.Enums.length:Int))))) (fun _ key=>KL 4 a0i p.Enums<|KE2 2 key) (fun _ key=>KE2 7 key)<|KR 6 hw e88) fun _ hw=>KR 12 hw e88)
theorem f6e(r:Bool):plain (h4w r)=true:=rfl
theorem d1y(s:ByteArray)(at_:Int)(c:Int)(r:Bool)(hw:((c==65533)=true->(0<=at_/\at_<=(s.size:Int)/\(s.size:Int)<=(s.size:Int))/\(∃y1,a7z (s.extract at_.toNat (s.size:Int).toNat) (⟨#[239,191,189]⟩:ByteArray) y1/\(r=(!y1))))/\((c==65533)=false->r=false)):d0s s at_ c r:=
 fP (KW 10 hw (fun _ hw=>KSS 2 hw fun hw=>KC 0 hw g9o fun _ hw=>KR 6 hw f6e) fun _ hw=>KR 10 hw f6e)
theorem c0i(r:Int):plain (h4g r)=true:=rfl
theorem d0w(s:ByteArray)(i:Int)(r:Int)(hw:(0<=i/\i<(s.size:Int))/\(((decide ((F3 s i.toNat)<128))=true->r=1)/\((decide ((F3 s i.toNat)<128))=false->∃R1:Bool->Prop,(∀bz1:Bool,R1 bz1->((bz1=true->r=2)/\(bz1=false->∃R2:Bool->Prop,(∀bz2:Bool,R2 bz2->(∃R3:Bool->Prop,(∀bz3:Bool,R3 bz3->((bz3=true->r=3)/\(bz3=false->∃R4:Bool->Prop,(∀bz4:Bool,R4 bz4->(∃R5:Bool->Prop,(∀bz5:Bool,R5 bz5->((bz5=true->r=3)/\(bz5=false->∃R6:Bool->Prop,(∀bz6:Bool,R6 bz6->((bz6=true->r=3)/\(bz6=false->∃R7:Bool->Prop,(∀bz7:Bool,R7 bz7->(∃R8:Bool->Prop,(∀bz8:Bool,R8 bz8->((bz8=true->r=4)/\(bz8=false->∃R9:Bool->Prop,(∀bz9:Bool,R9 bz9->((bz9=true->r=4)/\(bz9=false->∃R10:Bool->Prop,(∀bz10:Bool,R10 bz10->((bz10=true->∃y11,a3b s (wI (i+2)) 2 y11/\((y11=true->r=4)/\(y11=false->r=0)))/\(bz10=false->r=0)))/\((((F3 s i.toNat)==244)=true->∃y10,a07 s (wI (i+1)) 128 143 y10/\(R10 y10))/\(((F3 s i.toNat)==244)=false->R10 false)))))/\((((decide (241<=(F3 s i.toNat)))&&(decide ((F3 s i.toNat)<=243)))=true->∃y9,a3b s (wI (i+1)) 3 y9/\(R9 y9))/\(((decide (241<=(F3 s i.toNat)))&&(decide ((F3 s i.toNat)<=243)))=false->R9 false)))))/\((bz7=true->∃y8,a3b s (wI (i+2)) 2 y8/\(R8 y8))/\(bz7=false->R8 false))))/\((((F3 s i.toNat)==240)=true->∃y7,a07 s (wI (i+1)) 144 191 y7/\(R7 y7))/\(((F3 s i.toNat)==240)=false->R7 false)))))/\(((((decide (225<=(F3 s i.toNat)))&&(decide ((F3 s i.toNat)<=239)))&&((F3 s i.toNat) !=237))=true->∃y6,a3b s (wI (i+1)) 2 y6/\(R6 y6))/\((((decide (225<=(F3 s i.toNat)))&&(decide ((F3 s i.toNat)<=239)))&&((F3 s i.toNat) !=237))=false->R6 false)))))/\((bz4=true->∃y5,a3b s (wI (i+2)) 1 y5/\(R5 y5))/\(bz4=false->R5 false))))/\((((F3 s i.toNat)==237)=true->∃y4,a07 s (wI (i+1)) 128 159 y4/\(R4 y4))/\(((F3 s i.toNat)==237)=false->R4 false)))))/\((bz2=true->∃y3,a3b s (wI (i+2)) 1 y3/\(R3 y3))/\(bz2=false->R3 false))))/\((((F3 s i.toNat)==224)=true->∃y2,a07 s (wI (i+1)) 160 191 y2/\(R2 y2))/\(((F3 s i.toNat)==224)=false->R2 false)))))/\((((decide (194<=(F3 s i.toNat)))&&(decide ((F3 s i.toNat)<=223)))=true->∃y1,a3b s (wI (i+1)) 1 y1/\(R1 y1))/\(((decide (194<=(F3 s i.toNat)))&&(decide ((F3 s i.toNat)<=223)))=false->R1 false))))):c5t s i r:=
 fP (KIS 9 hw fun hw=>KW 12 hw (fun _ hw=>KR 8 hw c0i) fun _ hw=>KT 5 3<|KQ 1 5 kB hw (fun _ hw=>KW 3 hw (fun _ hw=>KR 8 hw c0i) fun _ hw=>KQ 5 5 kB hw (fun _ hw=>KQ 1 5 kB hw (fun _ hw=>KW 3 hw (fun _ hw=>KR 8 hw c0i) fun _ hw=>KQ 5 5 kB hw (fun _ hw=>KQ 1 5 kB hw (fun _ hw=>KW 3 hw (fun _ hw=>KR 8 hw c0i) fun _ hw=>KT 5 3<|KT 1 3<|KQ 1 5 kB hw (fun _ hw=>KW 3 hw (fun _ hw=>KR 8 hw c0i) fun _ hw=>KQ 5 5 kB hw (fun _ hw=>KQ 1 5 kB hw (fun _ hw=>KW 3 hw (fun _ hw=>KR 8 hw c0i) fun _ hw=>KT 5 3<|KQ 1 5 kB hw (fun _ hw=>KW 3 hw (fun _ hw=>KR 8 hw c0i) fun _ hw=>KQ 5 5 kB hw (fun _ hw=>KW 1 hw (fun _ hw=>KC 3 hw d8k fun _ hw=>KW 4 hw (fun _ hw=>KR 8 hw c0i) fun _ hw=>KR 9 hw c0i) fun _ hw=>KR 18 hw c0i) (fun _ key _ hw=>KC 3 hw e6a fun _ hw=>KE 1 key hw) fun _ key _ hw=>KE 5 key hw) (fun _ key _ hw=>KC 3 hw d8k fun _ hw=>KE 1 key hw) fun _ key _ hw=>KE 5 key hw) (fun _ key _ hw=>KC 3 hw d8k fun _ hw=>KE 1 key hw) fun _ key _ hw=>KE 5 key hw) (fun _ key _ hw=>KC 3 hw e6a fun _ hw=>KE 1 key hw) fun _ key _ hw=>KE 5 key hw) (fun _ key _ hw=>KC 3 hw d8k fun _ hw=>KE 1 key hw) fun _ key _ hw=>KE 5 key hw) (fun _ key _ hw=>KC 3 hw d8k fun _ hw=>KE 1 key hw) fun _ key _ hw=>KE 5 key hw) (fun _ key _ hw=>KC 3 hw e6a fun _ hw=>KE 1 key hw) fun _ key _ hw=>KE 5 key hw) (fun _ key _ hw=>KC 3 hw d8k fun _ hw=>KE 1 key hw) fun _ key _ hw=>KE 5 key hw) (fun _ key _ hw=>KC 3 hw e6a fun _ hw=>KE 1 key hw) fun _ key _ hw=>KE 5 key hw) (fun _ key _ hw=>KC 3 hw d8k fun _ hw=>KE 1 key hw) fun _ key _ hw=>KE 5 key hw)
theorem d0m(r:Int):plain (h4d r)=true:=rfl
theorem d1p(a:H5)(b:H5)(r:Int)(hw:((a.Num !=b.Num)=true->∃y1,S3 a.Num b.Num y1/\(r=y1))/\((a.Num !=b.Num)=false->((a.Wire !=b.Wire)=true->∃y2,S3 a.Wire b.Wire y2/\(r=y2))/\((a.Wire !=b.Wire)=false->((decide (a.Bits<b.Bits))=true->r=(-1))/\((decide (a.Bits<b.Bits))=false->((decide (b.Bits<a.Bits))=true->r=1)/\((decide (b.Bits<a.Bits))=false->((Op.bytesLess a.Data.toList b.Data.toList)=true->r=(-1))/\((Op.bytesLess a.Data.toList b.Data.toList)=false->((!(Op.bytesLess a.Data.toList b.Data.toList||a.Data.toList==b.Data.toList))=true->r=1)/\((!(Op.bytesLess a.Data.toList b.Data.toList||a.Data.toList==b.Data.toList))=false->r=0))))))):c92 a b r:=
 fP (KW 19 hw (fun _ hw=>KC 6 hw d6i fun _ hw=>KR 6 hw d0m) fun _ hw=>KW 10 hw (fun _ hw=>KC 6 hw d6i fun _ hw=>KR 6 hw d0m) fun _ hw=>KW 10 hw (fun _ hw=>KR 8 hw d0m) fun _ hw=>KW 10 hw (fun _ hw=>KR 8 hw d0m) fun _ hw=>KW 10 hw (fun _ hw=>KR 8 hw d0m) fun _ hw=>KW 10 hw (fun _ hw=>KR 8 hw d0m) fun _ hw=>KR 9 hw d0m)
theorem d7w(r:Int):plain (h3w r)=true:=rfl
theorem d0i(v:A0)(r:Int)(hw:∃y1,c6x v.Kind y1/\((y1=true->r=(wU (v.Bits+9223372036854775808)))/\(y1=false->((v.Kind !=6)=true->r=v.Bits)/\((v.Kind !=6)=false->∃y2,b6h v.Bits y2/\(((y2==0)=true->r=18446744073709551615)/\((y2==0)=false->((decide (9223372036854775808<=v.Bits))=true->r=(wU (18446744073709551615 - v.Bits)))/\((decide (9223372036854775808<=v.Bits))=false->r=(wU (v.Bits+9223372036854775808))))))))):b1k v r:=
 fP (KC 12 hw h3a fun _ hw=>KW 3 hw (fun _ hw=>KR 11 hw d7w) fun _ hw=>KW 8 hw (fun _ hw=>KR 10 hw d7w) fun _ hw=>KC 4 hw h3z fun _ hw=>KW 4 hw (fun _ hw=>KR 8 hw d7w) fun _ hw=>KW 8 hw (fun _ hw=>KR 11 hw d7w) fun _ hw=>KR 12 hw d7w)
theorem d3k(r:Int):plain (h0a r)=true:=rfl
def Y1(ij1:Int)(v:A0)(level:Int)(x:C9)(o_:GOp)(r:Int):Prop:=J Tryz.prog 186 (.ret (h0a r)) 9 [(26,aI ij1),(25,aI (v.List_.length:Int)),(24,.sl (List.map C0 v.List_) .no),(5,.ptr 1 0),(4,.ptr 0 0),(3,aI level)] ⟨[some (B6 x.p),some (V3 o_)],[],[]⟩
theorem a3u{ij1:Int}{v:A0}{level:Int}{x:C9}{o_:GOp}:a7q [true,true] 0 [(26,aI ij1),(25,aI (v.List_.length:Int)),(24,.sl (List.map C0 v.List_) .no),(5,.ptr 1 0),(4,.ptr 0 0),(3,aI level)]=true/\a5y [true,true] 0 [some (B6 x.p),some (V3 o_)]=true:=⟨by first|rfl|simp,by first|rfl|simp⟩
theorem a2g(ij1:Int)(v:A0)(level:Int)(x:C9)(o_:GOp)(r:Int)(hw:((decide (ij1<(v.List_.length:Int)))=true->∃y4,v.List_[ij1.toNat]? =some y4/\0<=ij1/\(∃y5,Z5 x o_ y4 level y5/\(((y5 !=0)=true->r=y5)/\((y5 !=0)=false->Y1 (wI (ij1+1)) v level x o_ r))))/\((decide (ij1<(v.List_.length:Int)))=false->r=0)):Y1 ij1 v level x o_ r:=
 KW 7 hw (fun _ hw=>KI 6 G0 hw fun _ hw=>KC 11 hw f8x fun _ hw=>KW 9 hw (fun _ hw=>KR 14 hw d3k) fun _ hw=>KJl 8 [] hw a3u) fun _ hw=>KR 13 hw d3k
theorem b5v(x:C9)(o_:GOp)(v:A0)(level:Int)(r:Int)(hw:((o_.Card==4)=true->∃R1:Bool->Prop,(∀bz1:Bool,R1 bz1->((bz1=true->r=12)/\(bz1=false->Y1 0 v level x o_ r)))/\(((v.Kind !=11)=true->R1 true)/\((v.Kind !=11)=false->∃y1,b1t v y1/\(R1 y1))))/\((o_.Card==4)=false->((o_.Card==5)=true->∃R2:Bool->Prop,(∀bz2:Bool,R2 bz2->((bz2=true->r=12)/\(bz2=false->∃y7,a2v x o_ v.Pairs level y7/\(r=y7))))/\(((v.Kind !=12)=true->R2 true)/\((v.Kind !=12)=false->∃y6,b1t v y6/\(R2 y6))))/\((o_.Card==5)=false->∃y8,Z5 x o_ v level y8/\(r=y8)))):a42 x o_ v level r:=
 fP (KW 22 hw (fun _ hw=>KQ 7 3 kB hw (fun _ hw=>KW 2 hw (fun _ hw=>KR 9 hw d3k) fun _ hw=>KL 7 G0 v.List_<|KJl 5 [] hw a3u) (fun _ key _ hw=>KE 3 key hw) fun _ key _ hw=>KC 1 hw f3e fun _ hw=>KE 1 key hw) fun _ hw=>KW 6 hw (fun _ hw=>KQ 7 3 kB hw (fun _ hw=>KW 2 hw (fun _ hw=>KR 9 hw d3k) fun _ hw=>KC 9 hw h2g fun _ hw=>KR 6 hw d3k) (fun _ key _ hw=>KE 3 key hw) fun _ key _ hw=>KC 1 hw f3e fun _ hw=>KE 1 key hw) fun _ hw=>KC 9 hw f8x fun _ hw=>KR 4 hw d3k)
theorem f73(r:Int):plain (g9z r)=true:=rfl
def N9(ij1:Int)(s:(List (Int × A0)))(f:GFn)(r:Int):Prop:=JP Tryz.prog 187 (g9z r) 3 [(8,aI ij1),(7,aI (s.length:Int)),(0,.sl (List.map B4 s) .no),(1,.clo (.func f.fn) f.fi f.cap)]
theorem a48(ij1:Int)(s:(List (Int × A0)))(f:GFn)(r:Int)(hw:((decide (ij1<(s.length:Int)))=true->∃y3,s[ij1.toNat]? =some y3/\0<=ij1/\(∃y4,a6a Tryz.prog [] (.clo (.func f.fn) f.fi f.cap) [.agg (W5 y3)] (aB y4)/\((y4=true->r=ij1)/\(y4=false->N9 (wI (ij1+1)) s f r))))/\((decide (ij1<(s.length:Int)))=false->r=(-1))):N9 ij1 s f r:=
 KW 7 hw (fun _ hw=>KI 15 C2 hw fun _ hw=>KF 1 hw fun _ hw=>KW 2 hw (fun _ hw=>KR 12 hw f73) fun _ hw=>KJ 8 [] hw) fun _ hw=>KR 11 hw f73
theorem a7l(s:(List (Int × A0)))(f:GFn)(r:Int)(hw:N9 0 s f r):a2l s f r:=
 fP (KL 9 C2 s<|KJ 5 [] hw)
theorem a6b(s:(List A0))(hw:s.length*128<=140737488355328):a1l s:=f11 G0 hw
def P0(ij17:Int)(ij18:Int)(ij15:Int)(n0:Nat)(n:Int)(cmp:GFn)(lj19:(List (Int × A0)))(r:(List (Int × A0))):Prop:=J Tryz.prog 189 (.io 0 (.tuple []) (cellsOf B4 r) []) 14 [(8,aI ij17),(7,aI ij18),(6,aI ij15),(0,.row 0 0 8 n0 n0),(1,aI n),(2,.clo (.func cmp.fn) cmp.fi cmp.cap)] ⟨[some (cellsOf B4 lj19)],[],[]⟩
def J0(ij15:Int)(n0:Nat)(n:Int)(cmp:GFn)(lj16:(List (Int × A0)))(r:(List (Int × A0))):Prop:=J Tryz.prog 189 (.io 0 (.tuple []) (cellsOf B4 r) []) 9 [(6,aI ij15),(0,.row 0 0 8 n0 n0),(1,aI n),(2,.clo (.func cmp.fn) cmp.fi cmp.cap)] ⟨[some (cellsOf B4 lj16)],[],[]⟩
def Q4(ij9:Int)(ij10:Int)(n0:Nat)(n:Int)(cmp:GFn)(lj11:(List (Int × A0)))(r:(List (Int × A0))):Prop:=J Tryz.prog 189 (.io 0 (.tuple []) (cellsOf B4 r) []) 3 [(8,aI ij9),(7,aI ij10),(6,aI 20),(0,.row 0 0 8 n0 n0),(1,aI n),(2,.clo (.func cmp.fn) cmp.fi cmp.cap)] ⟨[some (cellsOf B4 lj11)],[],[]⟩
theorem a6c(ij17:Int)(ij18:Int)(ij15:Int)(n0:Nat)(n:Int)(cmp:GFn)(lj19:(List (Int × A0)))(r:(List (Int × A0)))(hw:((decide (ij17<=n))=true->∃y19,G9 n0 lj19 ij18 (wI (ij18+ij15)) ij17 cmp y19/\(lj19≠[]/\y19≠[])/\(P0 (wI (ij17+(wI (2*ij15)))) ij17 ij15 n0 n cmp y19 r))/\((decide (ij17<=n))=false->((decide ((wI (ij18+ij15))<n))=true->∃y18,G9 n0 lj19 ij18 (wI (ij18+ij15)) n cmp y18/\(lj19≠[]/\y18≠[])/\(J0 (wI (ij15*2)) n0 n cmp y18 r))/\((decide ((wI (ij18+ij15))<n))=false->J0 (wI (ij15*2)) n0 n cmp lj19 r))):P0 ij17 ij18 ij15 n0 n cmp lj19 r:=
 KW 9 hw (fun _ hw=>KRO 12 C2 hw e16 fun _ hw=>KJ 17 [] hw) fun _ hw=>KW 21 hw (fun _ hw=>KRO 6 C2 hw e16 fun _ hw=>KJ 9 [] hw) fun _ hw=>KJ 9 [] hw
theorem a58(ij15:Int)(n0:Nat)(n:Int)(cmp:GFn)(lj16:(List (Int × A0)))(r:(List (Int × A0)))(hw:((decide (ij15<n))=true->P0 (wI (2*ij15)) 0 ij15 n0 n cmp lj16 r)/\((decide (ij15<n))=false->lj16≠[]/\r=lj16)):J0 ij15 n0 n cmp lj16 r:=
 KW 9 hw (fun _ hw=>KJ 14 [] hw) fun _ hw=>KRr 4 C2 hw
theorem a6x(ij9:Int)(ij10:Int)(n0:Nat)(n:Int)(cmp:GFn)(lj11:(List (Int × A0)))(r:(List (Int × A0)))(hw:((decide (ij9<=n))=true->∃y20,K6 n0 lj11 ij10 ij9 cmp y20/\(lj11≠[]/\y20≠[])/\(Q4 (wI (ij9+20)) ij9 n0 n cmp y20 r))/\((decide (ij9<=n))=false->∃y11,K6 n0 lj11 ij10 n cmp y11/\(lj11≠[]/\y11≠[])/\(J0 20 n0 n cmp y11 r))):Q4 ij9 ij10 n0 n cmp lj11 r:=
 KW 9 hw (fun _ hw=>KRO 9 C2 hw f76 fun _ hw=>KJ 16 [] hw) fun _ hw=>KRO 11 C2 hw f76 fun _ hw=>KJ 4 [] hw
theorem a90(n0:Nat)(data:(List (Int × A0)))(n:Int)(cmp:GFn)(r:(List (Int × A0)))(hw:Q4 20 0 n0 n cmp data r):a0f n0 data n cmp r:=
 fRO (KJ 15 [] hw)
theorem f50(r:Int):plain (g90 r)=true:=rfl
def S7(ij1:Int)(s:(List GOp))(f:GFn)(r:Int):Prop:=JP Tryz.prog 190 (g90 r) 3 [(8,aI ij1),(7,aI (s.length:Int)),(0,.sl (List.map V3 s) .no),(1,.clo (.func f.fn) f.fi f.cap)]
theorem M4(ij1:Int)(s:(List GOp))(f:GFn)(r:Int)(hw:((decide (ij1<(s.length:Int)))=true->∃y3,s[ij1.toNat]? =some y3/\0<=ij1/\(∃y4,a6a Tryz.prog [] (.clo (.func f.fn) f.fi f.cap) [.agg (V3 y3)] (aB y4)/\((y4=true->r=ij1)/\(y4=false->S7 (wI (ij1+1)) s f r))))/\((decide (ij1<(s.length:Int)))=false->r=(-1))):S7 ij1 s f r:=
 KW 7 hw (fun _ hw=>KI 15 c0d hw fun _ hw=>KF 1 hw fun _ hw=>KW 2 hw (fun _ hw=>KR 12 hw f50) fun _ hw=>KJ 8 [] hw) fun _ hw=>KR 11 hw f50
theorem b08(s:(List GOp))(f:GFn)(r:Int)(hw:S7 0 s f r):a6w s f r:=
 fP (KL 9 c0d s<|KJ 5 [] hw)
theorem f7d(r:(List (A0 × A0))):plain (h4p r)=true:=(psl (D9 r))
theorem b04(s:(List (A0 × A0)))(r:(List (A0 × A0)))(hw:∀bj1:Bool,(s≠[]->bj1=false)->((bj1=true->r=([]:(List (A0 × A0))))/\(bj1=false->(([]:List (A0 × A0)).length+s.length)*256<=140737488355328/\(r=(([]:List (A0 × A0))++s))))):a6t s r:=
 fP (KN 9 B7 hw fun _ hw=>KW 2 hw (fun _ hw=>KR 7 hw f7d) fun _ hw=>KAf 6 B7 hw mF xE fun hw=>KR 4 hw f7d)
theorem a7k(s:(List (A0 × A0)))(hw:s≠[]/\s.length*256<=140737488355328):a28 s:=d8e B7 hw
theorem a34(n0:Nat)(x:(List (A0 × A0)))(cmp:GFn)(r:(List (A0 × A0)))(hw:∃y1,a0c n0 x (n0:Int) cmp y1/\(x≠[]/\y1≠[])/\(y1≠[]/\r=y1)):S5 n0 x cmp r:=
 fRO (KRO 5 B7 hw g5h fun _ hw=>KRr 1 B7 hw)
theorem g5k(r:Int):plain (h3q r)=true:=rfl
theorem c3x(a:(A0 × A0))(b:(A0 × A0))(r:Int)(hw:∃y1,a9y a.1 b.1 y1/\(r=y1)):d37 a b r:=
 fP (KC 13 hw e3b fun _ hw=>KR 4 hw g5k)
theorem g6u(r:Bool):plain (h46 r)=true:=rfl
theorem b66(a:A0)(b:A0)(r:Bool)(hw:∃y1,a9y a b y1/\(r=(y1==0))):b2j a b r:=
 fP (KC 11 hw e3b fun _ hw=>KR 5 hw g6u)
end
section
attribute [local irreducible] Ok run put d1q br jn pos dr0 dr1 So
attribute [-simp] List.map_take List.map_drop List.map_append List.map_set List.map_replicate List.map_cons List.map_map
attribute [local simp] plain plainL a7q a5y a0a low lowL lowLL L6 H4 H3 F9 K4 G5 H0 G4 L4 U2 a0o T9 a1p N3 U0 G2 I2 Q8 H6 B0 E8 O8 D9 P3 E6 P9 K9 S8 L0 U9 O5 W2 R0 E7 T1 K8 I0 C6 M9 O1 P5 H7 F7 X1 U5 Z0 W4 G1 Q6 a0s a0g a6i a3l c6z d9v c9c d08 a9z b00 d02 d04 b8l c32 f1q eFn b9l b42 b4q b48 b9k b46 b5g b5j b9g c49 c4y b4s b97 b1p b5d b5r b47 b4z b5n b4g b5s a53 a71 a8r a0t a8g a8c a3f a8n b1o c51 b95 b9t b4x b5i b4j b9e b5p b5w b5u b94 c4w c5w b51 b9f b1u b4u b4n b5m b5f b50 b4i b4w a54 a8d a8q a0n a8p a76 a3j a8i b1r c4m b5k b9u b1j b5h b5q b4y b4b b4m b5o b4k a56 a75 a72 a0w a77 a8o a3c a8l b1s d2s
theorem d8a(r:b9q):plain (h5c r)=true:=(c6z r)
theorem c10(v:A0)(r:b9q)(hw:∃y1,b8g v.Kind y1/\((y1=true->r=(b9q.a_order_one v))/\(y1=false->((v.Kind==11)=true->r=(b9q.a_order_list v.List_))/\((v.Kind==11)=false->((v.Kind==12)=true->r=(b9q.a_order_pairs v.Pairs))/\((v.Kind==12)=false->((v.Kind==10)=true->r=(b9q.a_order_parts (⟨v.Slots,v.Raws⟩:c0o)))/\((v.Kind==10)=false->r=b9q.nil)))))):a8w v r:=
 fP (KC 12 hw g7z fun _ hw=>KW 3 hw (fun _ hw=>KR 10 hw d8a) fun _ hw=>KW 8 hw (fun _ hw=>KR 11 hw d8a) fun _ hw=>KW 8 hw (fun _ hw=>KR 11 hw d8a) fun _ hw=>KW 8 hw (fun _ hw=>KR 14 hw d8a) fun _ hw=>KR 9 hw d8a)
theorem d3g(r:Int):plain (h44 r)=true:=rfl
theorem d1b(a:A0)(b:A0)(r:Int)(hw:((a.Kind !=b.Kind)=true->∃y1,Q9 a.Kind b.Kind y1/\(r=y1))/\((a.Kind !=b.Kind)=false->∃y2,b8g a.Kind y2/\(((!y2)=true->r=0)/\((!y2)=false->∃y3,b8h a.Kind y3/\((y3=true->∃y4,a17 a.Text b.Text y4/\(r=y4))/\(y3=false->(((a.Kind==2)||(a.Kind==3))=true->∃y5,Q9 (wI a.Bits) (wI b.Bits) y5/\(r=y5))/\(((a.Kind==2)||(a.Kind==3))=false->((a.Kind==6)=true->∃y6,b2y a.Bits y6/\(∃y7,b2y b.Bits y7/\(∃y8,Z9 y6 y7 y8/\(r=y8))))/\((a.Kind==6)=false->∃y9,Z9 a.Bits b.Bits y9/\(r=y9))))))))):c5h a b r:=
 fP (KW 19 hw (fun _ hw=>KC 6 hw d9l fun _ hw=>KR 6 hw d3g) fun _ hw=>KC 4 hw g7z fun _ hw=>KW 4 hw (fun _ hw=>KR 8 hw d3g) fun _ hw=>KC 4 hw g26 fun _ hw=>KW 3 hw (fun _ hw=>KC 6 hw g6k fun _ hw=>KR 6 hw d3g) fun _ hw=>KT 6 4<|KW 3 hw (fun _ hw=>KC 8 hw d9l fun _ hw=>KR 6 hw d3g) fun _ hw=>KW 8 hw (fun _ hw=>KD 1 [0,1]<|KC 2 hw g68 fun _ hw=>KC 2 hw g68 fun _ hw=>KC 0 hw g04 fun _ hw=>KR 7 hw d3g) fun _ hw=>KC 9 hw g04 fun _ hw=>KR 4 hw d3g)
theorem e1n(r:Int):plain (h0h r)=true:=rfl
def D1(ij1:Int)(s1_:(List A0))(s2_:(List A0))(cmp:GFn)(r:Int):Prop:=JP Tryz.prog 199 (h0h r) 3 [(13,aI ij1),(12,aI (s1_.length:Int)),(11,.sl (List.map C0 s1_) .no),(0,.sl (List.map C0 s1_) .no),(1,.sl (List.map C0 s2_) .no),(2,.clo (.func cmp.fn) cmp.fi cmp.cap)]
theorem U1{ij1:Int}{s1_:(List A0)}{s2_:(List A0)}{cmp:GFn}:a7q [] 0 [(13,aI ij1),(12,aI (s1_.length:Int)),(11,.sl (List.map C0 s1_) .no),(0,.sl (List.map C0 s1_) .no),(1,.sl (List.map C0 s2_) .no),(2,.clo (.func cmp.fn) cmp.fi cmp.cap)]=true/\a5y [] 0 []=true:=⟨by first|rfl|simp,by first|rfl|simp⟩
theorem T4(ij1:Int)(s1_:(List A0))(s2_:(List A0))(cmp:GFn)(r:Int)(hw:((decide (ij1<(s1_.length:Int)))=true->∃y4,s1_[ij1.toNat]? =some y4/\0<=ij1/\(((decide ((s2_.length:Int)<=ij1))=true->r=1)/\((decide ((s2_.length:Int)<=ij1))=false->∃y5,s2_[ij1.toNat]? =some y5/\0<=ij1/\(∃y6,a6a Tryz.prog [] (.clo (.func cmp.fn) cmp.fi cmp.cap) [.agg (A5 y4),.agg (A5 y5)] (aI y6)/\(((y6 !=0)=true->r=y6)/\((y6 !=0)=false->D1 (wI (ij1+1)) s1_ s2_ cmp r))))))/\((decide (ij1<(s1_.length:Int)))=false->((decide ((s1_.length:Int)<(s2_.length:Int)))=true->r=(-1))/\((decide ((s1_.length:Int)<(s2_.length:Int)))=false->r=0))):D1 ij1 s1_ s2_ cmp r:=
 KW 7 hw (fun _ hw=>KI 7 G0 hw fun _ hw=>KL 11 G0 s2_<|KW 3 hw (fun _ hw=>KR 12 hw e1n) fun _ hw=>KI 6 G0 hw fun _ hw=>KF 10 hw fun _ hw=>KW 9 hw (fun _ hw=>KR 12 hw e1n) fun _ hw=>KJl 8 [] hw U1) fun _ hw=>KL 9 G0 s1_<|KL 1 G0 s2_<|KW 3 hw (fun _ hw=>KR 7 hw e1n) fun _ hw=>KR 8 hw e1n
theorem V5(s1_:(List A0))(s2_:(List A0))(cmp:GFn)(r:Int)(hw:D1 0 s1_ s2_ cmp r):K3 s1_ s2_ cmp r:=
 fP (KL 9 G0 s1_<|KJ 5 [] hw)
theorem e1q(r:Int):plain (h29 r)=true:=rfl
def D2(ij1:Int)(s1_:(List (A0 × A0)))(s2_:(List (A0 × A0)))(cmp:GFn)(r:Int):Prop:=JP Tryz.prog 200 (h29 r) 3 [(13,aI ij1),(12,aI (s1_.length:Int)),(11,.sl (List.map A8 s1_) .no),(0,.sl (List.map A8 s1_) .no),(1,.sl (List.map A8 s2_) .no),(2,.clo (.func cmp.fn) cmp.fi cmp.cap)]
theorem U6{ij1:Int}{s1_:(List (A0 × A0))}{s2_:(List (A0 × A0))}{cmp:GFn}:a7q [] 0 [(13,aI ij1),(12,aI (s1_.length:Int)),(11,.sl (List.map A8 s1_) .no),(0,.sl (List.map A8 s1_) .no),(1,.sl (List.map A8 s2_) .no),(2,.clo (.func cmp.fn) cmp.fi cmp.cap)]=true/\a5y [] 0 []=true:=⟨by first|rfl|simp,by first|rfl|simp⟩
theorem T5(ij1:Int)(s1_:(List (A0 × A0)))(s2_:(List (A0 × A0)))(cmp:GFn)(r:Int)(hw:((decide (ij1<(s1_.length:Int)))=true->∃y4,s1_[ij1.toNat]? =some y4/\0<=ij1/\(((decide ((s2_.length:Int)<=ij1))=true->r=1)/\((decide ((s2_.length:Int)<=ij1))=false->∃y5,s2_[ij1.toNat]? =some y5/\0<=ij1/\(∃y6,a6a Tryz.prog [] (.clo (.func cmp.fn) cmp.fi cmp.cap) [.agg (U7 y4),.agg (U7 y5)] (aI y6)/\(((y6 !=0)=true->r=y6)/\((y6 !=0)=false->D2 (wI (ij1+1)) s1_ s2_ cmp r))))))/\((decide (ij1<(s1_.length:Int)))=false->((decide ((s1_.length:Int)<(s2_.length:Int)))=true->r=(-1))/\((decide ((s1_.length:Int)<(s2_.length:Int)))=false->r=0))):D2 ij1 s1_ s2_ cmp r:=
 KW 7 hw (fun _ hw=>KI 7 B7 hw fun _ hw=>KL 11 B7 s2_<|KW 3 hw (fun _ hw=>KR 12 hw e1q) fun _ hw=>KI 6 B7 hw fun _ hw=>KF 10 hw fun _ hw=>KW 9 hw (fun _ hw=>KR 12 hw e1q) fun _ hw=>KJl 8 [] hw U6) fun _ hw=>KL 9 B7 s1_<|KL 1 B7 s2_<|KW 3 hw (fun _ hw=>KR 7 hw e1q) fun _ hw=>KR 8 hw e1q
theorem V6(s1_:(List (A0 × A0)))(s2_:(List (A0 × A0)))(cmp:GFn)(r:Int)(hw:D2 0 s1_ s2_ cmp r):K1 s1_ s2_ cmp r:=
 fP (KL 9 B7 s1_<|KJ 5 [] hw)
theorem g43(r:Int):plain (h3j r)=true:=rfl
theorem c3o(a:(A0 × A0))(b:(A0 × A0))(r:Int)(hw:∃y1,a9y a.1 b.1 y1/\(∃y2,a9y a.2 b.2 y2/\(∃y3,b1m ([y1,y2]:(List Int)) y3/\(r=y3)))):d4p a b r:=
 fP (KD 8 [0,1]<|KC 4 hw e3b fun _ hw=>KC 4 hw e3b fun _ hw=>KC 1 hw f4d fun _ hw=>KR 5 hw g43)
theorem f6j(r:Int):plain (g9i r)=true:=rfl
def b1g(ij1:Int)(vals:(List Int))(r:Int):Prop:=JP Tryz.prog 202 (g9i r) 4 [(8,aI ij1),(7,aI (vals.length:Int)),(6,.sl (List.map a9z vals) .no),(3,aI 0)]
theorem a6o(ij1:Int)(vals:(List Int))(r:Int)(hw:((decide (ij1<(vals.length:Int)))=true->∃y2,vals[ij1.toNat]? =some y2/\0<=ij1/\(((y2 !=0)=true->r=y2)/\((y2 !=0)=false->b1g (wI (ij1+1)) vals r)))/\((decide (ij1<(vals.length:Int)))=false->r=0)):b1g ij1 vals r:=
 KW 7 hw (fun _ hw=>KI 6 f6c hw fun _ hw=>KW 11 hw (fun _ hw=>KR 12 hw f6j) fun _ hw=>KJ 8 [] hw) fun _ hw=>KR 12 hw f6j
theorem c9k(vals:(List Int))(r:Int)(hw:b1g 0 vals r):b1m vals r:=
 fP (KL 14 f6c vals<|KJ 5 [] hw)
theorem e2r(r:Int):plain (g9a r)=true:=rfl
def F2(ij1:Int)(s1_:(List (Int × A0)))(s2_:(List (Int × A0)))(cmp:GFn)(r:Int):Prop:=JP Tryz.prog 203 (g9a r) 3 [(13,aI ij1),(12,aI (s1_.length:Int)),(11,.sl (List.map B4 s1_) .no),(0,.sl (List.map B4 s1_) .no),(1,.sl (List.map B4 s2_) .no),(2,.clo (.func cmp.fn) cmp.fi cmp.cap)]
theorem a0b{ij1:Int}{s1_:(List (Int × A0))}{s2_:(List (Int × A0))}{cmp:GFn}:a7q [] 0 [(13,aI ij1),(12,aI (s1_.length:Int)),(11,.sl (List.map B4 s1_) .no),(0,.sl (List.map B4 s1_) .no),(1,.sl (List.map B4 s2_) .no),(2,.clo (.func cmp.fn) cmp.fi cmp.cap)]=true/\a5y [] 0 []=true:=⟨by first|rfl|simp,by first|rfl|simp⟩
theorem Z6(ij1:Int)(s1_:(List (Int × A0)))(s2_:(List (Int × A0)))(cmp:GFn)(r:Int)(hw:((decide (ij1<(s1_.length:Int)))=true->∃y4,s1_[ij1.toNat]? =some y4/\0<=ij1/\(((decide ((s2_.length:Int)<=ij1))=true->r=1)/\((decide ((s2_.length:Int)<=ij1))=false->∃y5,s2_[ij1.toNat]? =some y5/\0<=ij1/\(∃y6,a6a Tryz.prog [] (.clo (.func cmp.fn) cmp.fi cmp.cap) [.agg (W5 y4),.agg (W5 y5)] (aI y6)/\(((y6 !=0)=true->r=y6)/\((y6 !=0)=false->F2 (wI (ij1+1)) s1_ s2_ cmp r))))))/\((decide (ij1<(s1_.length:Int)))=false->((decide ((s1_.length:Int)<(s2_.length:Int)))=true->r=(-1))/\((decide ((s1_.length:Int)<(s2_.length:Int)))=false->r=0))):F2 ij1 s1_ s2_ cmp r:=
 KW 7 hw (fun _ hw=>KI 7 C2 hw fun _ hw=>KL 11 C2 s2_<|KW 3 hw (fun _ hw=>KR 12 hw e2r) fun _ hw=>KI 6 C2 hw fun _ hw=>KF 10 hw fun _ hw=>KW 9 hw (fun _ hw=>KR 12 hw e2r) fun _ hw=>KJl 8 [] hw a0b) fun _ hw=>KL 9 C2 s1_<|KL 1 C2 s2_<|KW 3 hw (fun _ hw=>KR 7 hw e2r) fun _ hw=>KR 8 hw e2r
theorem a0k(s1_:(List (Int × A0)))(s2_:(List (Int × A0)))(cmp:GFn)(r:Int)(hw:F2 0 s1_ s2_ cmp r):U8 s1_ s2_ cmp r:=
 fP (KL 9 C2 s1_<|KJ 5 [] hw)
theorem g3b(r:Int):plain (h3b r)=true:=rfl
theorem c3i(a:(Int × A0))(b:(Int × A0))(r:Int)(hw:∃y1,Q9 a.1 b.1 y1/\(∃y2,a9y a.2 b.2 y2/\(∃y3,b1m ([y1,y2]:(List Int)) y3/\(r=y3)))):d30 a b r:=
 fP (KD 8 [0,1]<|KC 4 hw d9l fun _ hw=>KC 4 hw e3b fun _ hw=>KC 1 hw f4d fun _ hw=>KR 5 hw g3b)
theorem e2s(r:Int):plain (h0q r)=true:=rfl
def F8(ij1:Int)(s1_:(List H5))(s2_:(List H5))(cmp:GFn)(r:Int):Prop:=JP Tryz.prog 205 (h0q r) 3 [(13,aI ij1),(12,aI (s1_.length:Int)),(11,.sl (List.map I8 s1_) .no),(0,.sl (List.map I8 s1_) .no),(1,.sl (List.map I8 s2_) .no),(2,.clo (.func cmp.fn) cmp.fi cmp.cap)]
theorem a09{ij1:Int}{s1_:(List H5)}{s2_:(List H5)}{cmp:GFn}:a7q [] 0 [(13,aI ij1),(12,aI (s1_.length:Int)),(11,.sl (List.map I8 s1_) .no),(0,.sl (List.map I8 s1_) .no),(1,.sl (List.map I8 s2_) .no),(2,.clo (.func cmp.fn) cmp.fi cmp.cap)]=true/\a5y [] 0 []=true:=⟨by first|rfl|simp,by first|rfl|simp⟩
theorem a0z(ij1:Int)(s1_:(List H5))(s2_:(List H5))(cmp:GFn)(r:Int)(hw:((decide (ij1<(s1_.length:Int)))=true->∃y4,s1_[ij1.toNat]? =some y4/\0<=ij1/\(((decide ((s2_.length:Int)<=ij1))=true->r=1)/\((decide ((s2_.length:Int)<=ij1))=false->∃y5,s2_[ij1.toNat]? =some y5/\0<=ij1/\(∃y6,a6a Tryz.prog [] (.clo (.func cmp.fn) cmp.fi cmp.cap) [.agg (I8 y4),.agg (I8 y5)] (aI y6)/\(((y6 !=0)=true->r=y6)/\((y6 !=0)=false->F8 (wI (ij1+1)) s1_ s2_ cmp r))))))/\((decide (ij1<(s1_.length:Int)))=false->((decide ((s1_.length:Int)<(s2_.length:Int)))=true->r=(-1))/\((decide ((s1_.length:Int)<(s2_.length:Int)))=false->r=0))):F8 ij1 s1_ s2_ cmp r:=
 KW 7 hw (fun _ hw=>KI 7 a8t hw fun _ hw=>KL 11 a8t s2_<|KW 3 hw (fun _ hw=>KR 12 hw e2s) fun _ hw=>KI 6 a8t hw fun _ hw=>KF 10 hw fun _ hw=>KW 9 hw (fun _ hw=>KR 12 hw e2s) fun _ hw=>KJl 8 [] hw a09) fun _ hw=>KL 9 a8t s1_<|KL 1 a8t s2_<|KW 3 hw (fun _ hw=>KR 7 hw e2s) fun _ hw=>KR 8 hw e2s
theorem a13(s1_:(List H5))(s2_:(List H5))(cmp:GFn)(r:Int)(hw:F8 0 s1_ s2_ cmp r):W9 s1_ s2_ cmp r:=
 fP (KL 9 a8t s1_<|KJ 5 [] hw)
theorem g5s(r:Int):plain (h3h r)=true:=rfl
theorem c5y(a:H5)(b:H5)(r:Int)(hw:∃y1,Q9 a.Num b.Num y1/\(∃y2,Q9 a.Wire b.Wire y2/\(∃y3,Z9 a.Bits b.Bits y3/\(∃y4,a17 a.Data b.Data y4/\(∃y5,b1m ([y1,y2,y3,y4]:(List Int)) y5/\(r=y5)))))):c6m a b r:=
 fP (KD 8 [0,1]<|KC 4 hw d9l fun _ hw=>KC 4 hw d9l fun _ hw=>KC 4 hw g04 fun _ hw=>KC 4 hw g6k fun _ hw=>KC 1 hw f4d fun _ hw=>KR 5 hw g5s)
theorem g4t(r:Bool):plain (h5d r)=true:=rfl
theorem c7t(b:Int)(r:Bool)(hw:r=((decide (97<=b))&&(decide (b<=122)))):b6v b r:=
 fP (KT 10 3<|KR 4 hw g4t)
theorem g4u(r:Bool):plain (h5m r)=true:=rfl
theorem c2t(b:Int)(r:Bool)(hw:r=((decide (65<=b))&&(decide (b<=90)))):b0z b r:=
 fP (KT 10 3<|KR 4 hw g4u)
theorem g40(r:Bool):plain (h4o r)=true:=rfl
theorem b7k(s:ByteArray)(prefix_:ByteArray)(r:Bool)(hw:∃y1,a01 s prefix_ y1/\(r=y1)):a7z s prefix_ r:=
 fP (KC 9 hw h01 fun _ hw=>KR 4 hw g40)
theorem f7p(r:Bool):plain (h26 r)=true:=rfl
def b1e(ij1:Int)(s:ByteArray)(i:Int)(n:Int)(r:Bool):Prop:=JP Tryz.prog 211 (h26 r) 3 [(7,aI ij1),(0,aS s),(1,aI i),(2,aI n)]
theorem b3f(ij1:Int)(s:ByteArray)(i:Int)(n:Int)(r:Bool)(hw:((decide (ij1<n))=true->∃y2,a07 s (wI (i+ij1)) 128 191 y2/\(((!y2)=true->r=false)/\((!y2)=false->b1e (wI (ij1+1)) s i n r)))/\((decide (ij1<n))=false->r=true)):b1e ij1 s i n r:=
 KW 9 hw (fun _ hw=>KC 10 hw e6a fun _ hw=>KW 3 hw (fun _ hw=>KR 11 hw f7p) fun _ hw=>KJ 9 [] hw) fun _ hw=>KR 11 hw f7p
theorem c83(s:ByteArray)(i:Int)(n:Int)(r:Bool)(hw:b1e 0 s i n r):a3b s i n r:=
 fP (KJ 13 [] hw)
theorem f7j(r:Bool):plain (h4l r)=true:=rfl
theorem c3n(s:ByteArray)(i:Int)(lo:Int)(hi:Int)(r:Bool)(hw:∃R1:Bool->Prop,(∀bz1:Bool,R1 bz1->((bz1=true->(0<=i/\i<(s.size:Int))/\(r=(decide ((F3 s i.toNat)<=hi))))/\(bz1=false->r=false)))/\(((decide (i<(s.size:Int)))=true->(0<=i/\i<(s.size:Int))/\(R1 (decide (lo<=(F3 s i.toNat)))))/\((decide (i<(s.size:Int)))=false->R1 false))):a07 s i lo hi r:=
 fP (KQ 12 6 kB hw (fun _ hw=>KW 1 hw (fun _ hw=>KIS 2 hw fun hw=>KR 7 hw f7j) fun _ hw=>KR 10 hw f7j) (fun _ key _ hw=>KIS 2 hw fun hw=>KE 3 key hw) fun _ key _ hw=>KE 6 key hw)
theorem g4b(r:Bool):plain (h3g r)=true:=rfl
theorem c4p(kind:Int)(r:Bool)(hw:r=((kind==2)||(kind==3))):c6x kind r:=
 fP (KT 10 3<|KR 4 hw g4b)
theorem f7t(r:Int):plain (h4i r)=true:=rfl
theorem b6b(x:C9)(o_:GOp)(v:A0)(level:Int)(r:Int)(hw:((o_.Kind==10)=true->∃y1,x.p.Progs[o_.Target.toNat]? =some y1/\0<=o_.Target/\(∃y2,P8 x y1 v (wI (level+1)) y2/\(r=y2)))/\((o_.Kind==10)=false->∃y3,a3k x o_.Kind o_.Target v y3/\(r=y3))):Z5 x o_ v level r:=
 fP (KW 16 hw (fun _ hw=>KD 1 [0,1,2]<|KI 6 L3 hw fun _ hw=>KC 4 hw g60 fun _ hw=>KR 6 hw f7t) fun _ hw=>KC 10 hw g5c fun _ hw=>KR 4 hw f7t)
theorem e08(r:Int):plain (g9v r)=true:=rfl
def W1(ij1:Int)(l:(List (A0 × A0)))(level:Int)(x:C9)(o_:GOp)(r:Int):Prop:=J Tryz.prog 215 (.ret (g9v r)) 3 [(15,aI ij1),(14,aI (l.length:Int)),(13,.sl (List.map A8 l) .no),(5,.ptr 1 0),(4,.ptr 0 0),(2,.sl (List.map A8 l) .no),(3,aI level)] ⟨[some (B6 x.p),some (V3 o_)],[],[]⟩
theorem b01{ij1:Int}{l:(List (A0 × A0))}{level:Int}{x:C9}{o_:GOp}:a7q [true,true] 0 [(15,aI ij1),(14,aI (l.length:Int)),(13,.sl (List.map A8 l) .no),(5,.ptr 1 0),(4,.ptr 0 0),(2,.sl (List.map A8 l) .no),(3,aI level)]=true/\a5y [true,true] 0 [some (B6 x.p),some (V3 o_)]=true:=⟨by first|rfl|simp,by first|rfl|simp⟩
theorem a1h(ij1:Int)(l:(List (A0 × A0)))(level:Int)(x:C9)(o_:GOp)(r:Int)(hw:((decide (ij1<(l.length:Int)))=true->∃y5,l[ij1.toNat]? =some y5/\0<=ij1/\(∃y6,a3k x o_.Key (-1) y5.1 y6/\(((y6 !=0)=true->r=y6)/\((y6 !=0)=false->(0<=(0:Int)/\(0:Int)<=ij1/\ij1<=(l.length:Int))/\(∃y7,V4 ((l.take ij1.toNat).drop (0:Int).toNat) (⟨226,[],[.elt (U7 y5) 0],by simp⟩:GFn) y7/\((y7=true->r=9)/\(y7=false->∃y8,Z5 x o_ y5.2 level y8/\(((y8 !=0)=true->r=y8)/\((y8 !=0)=false->W1 (wI (ij1+1)) l level x o_ r)))))))))/\((decide (ij1<(l.length:Int)))=false->r=0)):W1 ij1 l level x o_ r:=
 KW 7 hw (fun _ hw=>KI 7 B7 hw fun y5 hw=>KC 14 hw g5c fun _ hw=>KW 9 hw (fun _ hw=>KR 13 hw e08) fun _ hw=>KFz 4 2 [true,true,false] 0 [(9,aI ij1),(10,.elt (U7 y5) 0),(15,aI ij1),(14,aI (l.length:Int)),(13,.sl (List.map A8 l) .no),(5,.ptr 1 0),(4,.ptr 0 0),(2,.sl (List.map A8 l) .no),(3,aI level)] [some (B6 x.p),some (V3 o_),none] ⟨by first|rfl|simp,by first|rfl|simp⟩<|KSV 3 B7 hw fun hw=>KC 1 hw h15 fun _ hw=>KW 2 hw (fun _ hw=>KR 12 hw e08) fun _ hw=>KC 9 hw f8x fun _ hw=>KW 9 hw (fun _ hw=>KR 12 hw e08) fun _ hw=>KJl 8 [] hw b01) fun _ hw=>KR 11 hw e08
theorem b2t(x:C9)(o_:GOp)(l:(List (A0 × A0)))(level:Int)(r:Int)(hw:W1 0 l level x o_ r):a2v x o_ l level r:=
 fP (KL 11 B7 l<|KJ 5 [] hw)
def I3(ij5:Int)(ij3:Int)(n0:Nat)(a:Int)(b:Int)(cmp:GFn)(lj6:(List (Int × A0)))(r:(List (Int × A0))):Prop:=J Tryz.prog 216 (.io 0 (.tuple []) (cellsOf B4 r) []) 6 [(9,aI ij5),(8,aI ij3),(0,.row 0 0 8 n0 n0),(1,aI a),(2,aI b),(3,.clo (.func cmp.fn) cmp.fi cmp.cap)] ⟨[some (cellsOf B4 lj6)],[],[]⟩
def I7(ij3:Int)(n0:Nat)(a:Int)(b:Int)(cmp:GFn)(lj4:(List (Int × A0)))(r:(List (Int × A0))):Prop:=J Tryz.prog 216 (.io 0 (.tuple []) (cellsOf B4 r) []) 1 [(8,aI ij3),(0,.row 0 0 8 n0 n0),(1,aI a),(2,aI b),(3,.clo (.func cmp.fn) cmp.fi cmp.cap)] ⟨[some (cellsOf B4 lj4)],[],[]⟩
theorem a2a(ij5:Int)(ij3:Int)(n0:Nat)(a:Int)(b:Int)(cmp:GFn)(lj6:(List (Int × A0)))(r:(List (Int × A0)))(hw:∃R8:Bool->Prop,(∀bz8:Bool,R8 bz8->((bz8=true->(0<=(wI (ij5 - 1))/\(wI (ij5 - 1))<(n0:Int))/\(∃y19,lj6[(wI (ij5 - 1)).toNat]? =some y19/\((0<=ij5/\ij5<(n0:Int))/\(∃y20,lj6[ij5.toNat]? =some y20/\((0<=ij5/\ij5<(n0:Int))/\(ij5.toNat<lj6.length/\((0<=(wI (ij5 - 1))/\(wI (ij5 - 1))<(n0:Int))/\((wI (ij5 - 1)).toNat<(lj6.set ij5.toNat y19).length/\(I3 (wI (ij5 - 1)) ij3 n0 a b cmp ((lj6.set ij5.toNat y19).set (wI (ij5 - 1)).toNat y20) r)))))))))/\(bz8=false->I7 (wI (ij3+1)) n0 a b cmp lj6 r)))/\(((decide (a<ij5))=true->(0<=ij5/\ij5<(n0:Int))/\(∃y16,lj6[ij5.toNat]? =some y16/\((0<=(wI (ij5 - 1))/\(wI (ij5 - 1))<(n0:Int))/\(∃y17,lj6[(wI (ij5 - 1)).toNat]? =some y17/\(∃y18,a6a Tryz.prog [] (.clo (.func cmp.fn) cmp.fi cmp.cap) [.agg (W5 y16),.agg (W5 y17)] (aI y18)/\(R8 (decide (y18<0))))))))/\((decide (a<ij5))=false->R8 false))):I3 ij5 ij3 n0 a b cmp lj6 r:=
 KD 3 [0]<|KQ 4 13 kB hw (fun _ hw=>KW 3 hw (fun _ hw=>KDL 4 [0]<|KRI 8 8 hw fun hw=>KRn 0 C2 hw fun y19 hw=>KRI 2 8 hw fun hw=>KRn 0 C2 hw fun y20 hw=>KRI 0 8 hw fun hw=>KRS 0 C2 y19 hw fun hw=>KRI 0 8 hw fun hw=>KRS 0 C2 y20 hw fun hw=>KJ 9 [] hw) fun _ hw=>KJ 12 [] hw) (fun _ key _ hw=>KRI 3 8 hw fun hw=>KRn 0 C2 hw fun _ hw=>KRI 3 8 hw fun hw=>KRn 0 C2 hw fun _ hw=>KF 0 hw fun _ hw=>KE 2 key hw) fun _ key _ hw=>KE 13 key hw
theorem a2c(ij3:Int)(n0:Nat)(a:Int)(b:Int)(cmp:GFn)(lj4:(List (Int × A0)))(r:(List (Int × A0)))(hw:((decide (ij3<b))=true->I3 ij3 ij3 n0 a b cmp lj4 r)/\((decide (ij3<b))=false->lj4≠[]/\r=lj4)):I7 ij3 n0 a b cmp lj4 r:=
 KW 9 hw (fun _ hw=>KJ 12 [] hw) fun _ hw=>KRr 4 C2 hw
theorem a38(n0:Nat)(data:(List (Int × A0)))(a:Int)(b:Int)(cmp:GFn)(r:(List (Int × A0)))(hw:I7 (wI (a+1)) n0 a b cmp data r):K6 n0 data a b cmp r:=
 fRO (KJ 9 [] hw)
def N4(ij5:Int)(ij3:Int)(n0:Nat)(lj6:(List (Int × A0)))(r:(List (Int × A0))):Prop:=J Tryz.prog 217 (.io 0 (.tuple []) (cellsOf B4 r) []) 12 [(13,aI ij5),(10,aI ij3),(0,.row 0 0 8 n0 n0)] ⟨[some (cellsOf B4 lj6)],[],[]⟩
def I1(ij4:Int)(ij3:Int)(n0:Nat)(a:Int)(cmp:GFn)(data:(List (Int × A0)))(r:(List (Int × A0))):Prop:=J Tryz.prog 217 (.io 0 (.tuple []) (cellsOf B4 r) []) 5 [(11,aI ij4),(10,aI ij3),(0,.row 0 0 8 n0 n0),(1,aI a),(4,.clo (.func cmp.fn) cmp.fi cmp.cap)] ⟨[some (cellsOf B4 data)],[],[]⟩
def M0(ij11:Int)(ij9:Int)(n0:Nat)(lj12:(List (Int × A0)))(r:(List (Int × A0))):Prop:=J Tryz.prog 217 (.io 0 (.tuple []) (cellsOf B4 r) []) 28 [(17,aI ij11),(14,aI ij9),(0,.row 0 0 8 n0 n0)] ⟨[some (cellsOf B4 lj12)],[],[]⟩
def H2(ij10:Int)(ij9:Int)(n0:Nat)(m:Int)(cmp:GFn)(data:(List (Int × A0)))(r:(List (Int × A0))):Prop:=J Tryz.prog 217 (.io 0 (.tuple []) (cellsOf B4 r) []) 21 [(15,aI ij10),(14,aI ij9),(0,.row 0 0 8 n0 n0),(2,aI m),(4,.clo (.func cmp.fn) cmp.fi cmp.cap)] ⟨[some (cellsOf B4 data)],[],[]⟩
def L9(a:Int)(b:Int)(m:Int)(ij26:Int)(n0:Nat)(cmp:GFn)(lj30:(List (Int × A0)))(r:(List (Int × A0))):Prop:=J Tryz.prog 217 (.io 0 (.tuple []) (cellsOf B4 r) []) 49 [(24,aI (wI ((wI ((wI ((wU (wI (a+b))).fdiv (2 ^ min (1:Int).toNat IntKind.u64.bits)))+m)) - ij26))),(18,aI (wI ((wU (wI (a+b))).fdiv (2 ^ min (1:Int).toNat IntKind.u64.bits)))),(0,.row 0 0 8 n0 n0),(3,aI b),(4,.clo (.func cmp.fn) cmp.fi cmp.cap)] ⟨[some (cellsOf B4 lj30)],[],[]⟩
def L5(a:Int)(b:Int)(m:Int)(ij26:Int)(n0:Nat)(cmp:GFn)(lj29:(List (Int × A0)))(r:(List (Int × A0))):Prop:=J Tryz.prog 217 (.io 0 (.tuple []) (cellsOf B4 r) []) 47 [(24,aI (wI ((wI ((wI ((wU (wI (a+b))).fdiv (2 ^ min (1:Int).toNat IntKind.u64.bits)))+m)) - ij26))),(20,aI ij26),(18,aI (wI ((wU (wI (a+b))).fdiv (2 ^ min (1:Int).toNat IntKind.u64.bits)))),(0,.row 0 0 8 n0 n0),(1,aI a),(3,aI b),(4,.clo (.func cmp.fn) cmp.fi cmp.cap)] ⟨[some (cellsOf B4 lj29)],[],[]⟩
def G6(a:Int)(b:Int)(m:Int)(ij27:Int)(ij26:Int)(n0:Nat)(cmp:GFn)(data:(List (Int × A0)))(r:(List (Int × A0))):Prop:=J Tryz.prog 217 (.io 0 (.tuple []) (cellsOf B4 r) []) 41 [(22,aI (wI ((wI ((wI ((wU (wI (a+b))).fdiv (2 ^ min (1:Int).toNat IntKind.u64.bits)))+m)) - 1))),(21,aI ij27),(20,aI ij26),(19,aI (wI ((wI ((wU (wI (a+b))).fdiv (2 ^ min (1:Int).toNat IntKind.u64.bits)))+m))),(18,aI (wI ((wU (wI (a+b))).fdiv (2 ^ min (1:Int).toNat IntKind.u64.bits)))),(0,.row 0 0 8 n0 n0),(1,aI a),(2,aI m),(3,aI b),(4,.clo (.func cmp.fn) cmp.fi cmp.cap)] ⟨[some (cellsOf B4 data)],[],[]⟩
def M5(ij21:Int)(ij22:Int)(a:Int)(b:Int)(m:Int)(n0:Nat)(cmp:GFn)(data:(List (Int × A0)))(r:(List (Int × A0))):Prop:=J Tryz.prog 217 (.io 0 (.tuple []) (cellsOf B4 r) []) 35 [(21,aI ij21),(20,aI ij22),(19,aI (wI ((wI ((wU (wI (a+b))).fdiv (2 ^ min (1:Int).toNat IntKind.u64.bits)))+m))),(18,aI (wI ((wU (wI (a+b))).fdiv (2 ^ min (1:Int).toNat IntKind.u64.bits)))),(0,.row 0 0 8 n0 n0),(1,aI a),(2,aI m),(3,aI b),(4,.clo (.func cmp.fn) cmp.fi cmp.cap)] ⟨[some (cellsOf B4 data)],[],[]⟩
theorem a44(ij5:Int)(ij3:Int)(n0:Nat)(lj6:(List (Int × A0)))(r:(List (Int × A0)))(hw:((decide (ij5<(wI (ij3 - 1))))=true->(0<=(wI (ij5+1))/\(wI (ij5+1))<(n0:Int))/\(∃y10,lj6[(wI (ij5+1)).toNat]? =some y10/\((0<=ij5/\ij5<(n0:Int))/\(∃y11,lj6[ij5.toNat]? =some y11/\((0<=ij5/\ij5<(n0:Int))/\(ij5.toNat<lj6.length/\((0<=(wI (ij5+1))/\(wI (ij5+1))<(n0:Int))/\((wI (ij5+1)).toNat<(lj6.set ij5.toNat y10).length/\(N4 (wI (ij5+1)) ij3 n0 ((lj6.set ij5.toNat y10).set (wI (ij5+1)).toNat y11) r)))))))))/\((decide (ij5<(wI (ij3 - 1))))=false->lj6≠[]/\r=lj6)):N4 ij5 ij3 n0 lj6 r:=
 KW 10 hw (fun _ hw=>KDL 4 [0]<|KRI 8 8 hw fun hw=>KRn 0 C2 hw fun y10 hw=>KRI 2 8 hw fun hw=>KRn 0 C2 hw fun y11 hw=>KRI 0 8 hw fun hw=>KRS 0 C2 y10 hw fun hw=>KRI 0 8 hw fun hw=>KRS 0 C2 y11 hw fun hw=>KJ 9 [] hw) fun _ hw=>KRr 7 C2 hw
theorem a5g(ij4:Int)(ij3:Int)(n0:Nat)(a:Int)(cmp:GFn)(data:(List (Int × A0)))(r:(List (Int × A0)))(hw:((decide (ij3<ij4))=true->(0<=(wI ((wU (wI (ij3+ij4))).fdiv (2 ^ min (1:Int).toNat IntKind.u64.bits)))/\(wI ((wU (wI (ij3+ij4))).fdiv (2 ^ min (1:Int).toNat IntKind.u64.bits)))<(n0:Int))/\(∃y12,data[(wI ((wU (wI (ij3+ij4))).fdiv (2 ^ min (1:Int).toNat IntKind.u64.bits))).toNat]? =some y12/\((0<=a/\a<(n0:Int))/\(∃y13,data[a.toNat]? =some y13/\(∃y14,a6a Tryz.prog [] (.clo (.func cmp.fn) cmp.fi cmp.cap) [.agg (W5 y12),.agg (W5 y13)] (aI y14)/\(((decide (y14<0))=true->I1 ij4 (wI ((wI ((wU (wI (ij3+ij4))).fdiv (2 ^ min (1:Int).toNat IntKind.u64.bits)))+1)) n0 a cmp data r)/\((decide (y14<0))=false->I1 (wI ((wU (wI (ij3+ij4))).fdiv (2 ^ min (1:Int).toNat IntKind.u64.bits))) ij3 n0 a cmp data r)))))))/\((decide (ij3<ij4))=false->N4 a ij3 n0 data r)):I1 ij4 ij3 n0 a cmp data r:=
 KW 9 hw (fun _ hw=>KD 15 [0]<|KRI 3 8 hw fun hw=>KRn 0 C2 hw fun _ hw=>KRI 2 8 hw fun hw=>KRn 0 C2 hw fun _ hw=>KF 0 hw fun _ hw=>KW 4 hw (fun _ hw=>KJ 7 [] hw) fun _ hw=>KJ 6 [] hw) fun _ hw=>KJ 14 [] hw
theorem a4m(ij11:Int)(ij9:Int)(n0:Nat)(lj12:(List (Int × A0)))(r:(List (Int × A0)))(hw:((decide (ij9<ij11))=true->(0<=(wI (ij11 - 1))/\(wI (ij11 - 1))<(n0:Int))/\(∃y24,lj12[(wI (ij11 - 1)).toNat]? =some y24/\((0<=ij11/\ij11<(n0:Int))/\(∃y25,lj12[ij11.toNat]? =some y25/\((0<=ij11/\ij11<(n0:Int))/\(ij11.toNat<lj12.length/\((0<=(wI (ij11 - 1))/\(wI (ij11 - 1))<(n0:Int))/\((wI (ij11 - 1)).toNat<(lj12.set ij11.toNat y24).length/\(M0 (wI (ij11 - 1)) ij9 n0 ((lj12.set ij11.toNat y24).set (wI (ij11 - 1)).toNat y25) r)))))))))/\((decide (ij9<ij11))=false->lj12≠[]/\r=lj12)):M0 ij11 ij9 n0 lj12 r:=
 KW 9 hw (fun _ hw=>KDL 4 [0]<|KRI 8 8 hw fun hw=>KRn 0 C2 hw fun y24 hw=>KRI 2 8 hw fun hw=>KRn 0 C2 hw fun y25 hw=>KRI 0 8 hw fun hw=>KRS 0 C2 y24 hw fun hw=>KRI 0 8 hw fun hw=>KRS 0 C2 y25 hw fun hw=>KJ 9 [] hw) fun _ hw=>KRr 7 C2 hw
theorem a4i(ij10:Int)(ij9:Int)(n0:Nat)(m:Int)(cmp:GFn)(data:(List (Int × A0)))(r:(List (Int × A0)))(hw:((decide (ij9<ij10))=true->(0<=m/\m<(n0:Int))/\(∃y26,data[m.toNat]? =some y26/\((0<=(wI ((wU (wI (ij9+ij10))).fdiv (2 ^ min (1:Int).toNat IntKind.u64.bits)))/\(wI ((wU (wI (ij9+ij10))).fdiv (2 ^ min (1:Int).toNat IntKind.u64.bits)))<(n0:Int))/\(∃y27,data[(wI ((wU (wI (ij9+ij10))).fdiv (2 ^ min (1:Int).toNat IntKind.u64.bits))).toNat]? =some y27/\(∃y28,a6a Tryz.prog [] (.clo (.func cmp.fn) cmp.fi cmp.cap) [.agg (W5 y26),.agg (W5 y27)] (aI y28)/\(((!(decide (y28<0)))=true->H2 ij10 (wI ((wI ((wU (wI (ij9+ij10))).fdiv (2 ^ min (1:Int).toNat IntKind.u64.bits)))+1)) n0 m cmp data r)/\((!(decide (y28<0)))=false->H2 (wI ((wU (wI (ij9+ij10))).fdiv (2 ^ min (1:Int).toNat IntKind.u64.bits))) ij9 n0 m cmp data r)))))))/\((decide (ij9<ij10))=false->M0 m ij9 n0 data r)):H2 ij10 ij9 n0 m cmp data r:=
 KW 9 hw (fun _ hw=>KD 15 [0]<|KRI 3 8 hw fun hw=>KRn 0 C2 hw fun _ hw=>KRI 2 8 hw fun hw=>KRn 0 C2 hw fun _ hw=>KF 0 hw fun _ hw=>KW 5 hw (fun _ hw=>KJ 7 [] hw) fun _ hw=>KJ 6 [] hw) fun _ hw=>KJ 14 [] hw
theorem a4h(a:Int)(b:Int)(m:Int)(ij26:Int)(n0:Nat)(cmp:GFn)(lj30:(List (Int × A0)))(r:(List (Int × A0)))(hw:(((decide ((wI ((wU (wI (a+b))).fdiv (2 ^ min (1:Int).toNat IntKind.u64.bits)))<(wI ((wI ((wI ((wU (wI (a+b))).fdiv (2 ^ min (1:Int).toNat IntKind.u64.bits)))+m)) - ij26))))&&(decide ((wI ((wI ((wI ((wU (wI (a+b))).fdiv (2 ^ min (1:Int).toNat IntKind.u64.bits)))+m)) - ij26))<b)))=true->∃y65,G9 n0 lj30 (wI ((wU (wI (a+b))).fdiv (2 ^ min (1:Int).toNat IntKind.u64.bits))) (wI ((wI ((wI ((wU (wI (a+b))).fdiv (2 ^ min (1:Int).toNat IntKind.u64.bits)))+m)) - ij26)) b cmp y65/\(lj30≠[]/\y65≠[])/\(y65≠[]/\r=y65))/\(((decide ((wI ((wU (wI (a+b))).fdiv (2 ^ min (1:Int).toNat IntKind.u64.bits)))<(wI ((wI ((wI ((wU (wI (a+b))).fdiv (2 ^ min (1:Int).toNat IntKind.u64.bits)))+m)) - ij26))))&&(decide ((wI ((wI ((wI ((wU (wI (a+b))).fdiv (2 ^ min (1:Int).toNat IntKind.u64.bits)))+m)) - ij26))<b)))=false->lj30≠[]/\r=lj30)):L9 a b m ij26 n0 cmp lj30 r:=
 KT 6 4<|KW 2 hw (fun _ hw=>KRO 6 C2 hw e16 fun _ hw=>KRr 1 C2 hw) fun _ hw=>KRr 1 C2 hw
theorem a4u(a:Int)(b:Int)(m:Int)(ij26:Int)(n0:Nat)(cmp:GFn)(lj29:(List (Int × A0)))(r:(List (Int × A0)))(hw:(((decide (a<ij26))&&(decide (ij26<(wI ((wU (wI (a+b))).fdiv (2 ^ min (1:Int).toNat IntKind.u64.bits))))))=true->∃y63,G9 n0 lj29 a ij26 (wI ((wU (wI (a+b))).fdiv (2 ^ min (1:Int).toNat IntKind.u64.bits))) cmp y63/\(lj29≠[]/\y63≠[])/\(L9 a b m ij26 n0 cmp y63 r))/\(((decide (a<ij26))&&(decide (ij26<(wI ((wU (wI (a+b))).fdiv (2 ^ min (1:Int).toNat IntKind.u64.bits))))))=false->L9 a b m ij26 n0 cmp lj29 r)):L5 a b m ij26 n0 cmp lj29 r:=
 KT 7 4<|KW 2 hw (fun _ hw=>KRO 6 C2 hw e16 fun _ hw=>KJ 2 [] hw) fun _ hw=>KJ 2 [] hw
theorem a4a(a:Int)(b:Int)(m:Int)(ij27:Int)(ij26:Int)(n0:Nat)(cmp:GFn)(data:(List (Int × A0)))(r:(List (Int × A0)))(hw:((decide (ij26<ij27))=true->(0<=(wI ((wI ((wI ((wI ((wU (wI (a+b))).fdiv (2 ^ min (1:Int).toNat IntKind.u64.bits)))+m)) - 1)) - (wI ((wU (wI (ij26+ij27))).fdiv (2 ^ min (1:Int).toNat IntKind.u64.bits)))))/\(wI ((wI ((wI ((wI ((wU (wI (a+b))).fdiv (2 ^ min (1:Int).toNat IntKind.u64.bits)))+m)) - 1)) - (wI ((wU (wI (ij26+ij27))).fdiv (2 ^ min (1:Int).toNat IntKind.u64.bits)))))<(n0:Int))/\(∃y66,data[(wI ((wI ((wI ((wI ((wU (wI (a+b))).fdiv (2 ^ min (1:Int).toNat IntKind.u64.bits)))+m)) - 1)) - (wI ((wU (wI (ij26+ij27))).fdiv (2 ^ min (1:Int).toNat IntKind.u64.bits))))).toNat]? =some y66/\((0<=(wI ((wU (wI (ij26+ij27))).fdiv (2 ^ min (1:Int).toNat IntKind.u64.bits)))/\(wI ((wU (wI (ij26+ij27))).fdiv (2 ^ min (1:Int).toNat IntKind.u64.bits)))<(n0:Int))/\(∃y67,data[(wI ((wU (wI (ij26+ij27))).fdiv (2 ^ min (1:Int).toNat IntKind.u64.bits))).toNat]? =some y67/\(∃y68,a6a Tryz.prog [] (.clo (.func cmp.fn) cmp.fi cmp.cap) [.agg (W5 y66),.agg (W5 y67)] (aI y68)/\(((!(decide (y68<0)))=true->G6 a b m ij27 (wI ((wI ((wU (wI (ij26+ij27))).fdiv (2 ^ min (1:Int).toNat IntKind.u64.bits)))+1)) n0 cmp data r)/\((!(decide (y68<0)))=false->G6 a b m (wI ((wU (wI (ij26+ij27))).fdiv (2 ^ min (1:Int).toNat IntKind.u64.bits))) ij26 n0 cmp data r)))))))/\((decide (ij26<ij27))=false->(((decide (ij26<m))&&(decide (m<(wI ((wI ((wI ((wU (wI (a+b))).fdiv (2 ^ min (1:Int).toNat IntKind.u64.bits)))+m)) - ij26)))))=true->∃y59,a0h n0 data ij26 m (wI ((wI ((wI ((wU (wI (a+b))).fdiv (2 ^ min (1:Int).toNat IntKind.u64.bits)))+m)) - ij26)) cmp y59/\(data≠[]/\y59≠[])/\(L5 a b m ij26 n0 cmp y59 r))/\(((decide (ij26<m))&&(decide (m<(wI ((wI ((wI ((wU (wI (a+b))).fdiv (2 ^ min (1:Int).toNat IntKind.u64.bits)))+m)) - ij26)))))=false->L5 a b m ij26 n0 cmp data r))):G6 a b m ij27 ij26 n0 cmp data r:=
 KW 9 hw (fun _ hw=>KD 15 [0]<|KRI 5 8 hw fun hw=>KRn 0 C2 hw fun _ hw=>KRI 2 8 hw fun hw=>KRn 0 C2 hw fun _ hw=>KF 0 hw fun _ hw=>KW 5 hw (fun _ hw=>KJ 7 [] hw) fun _ hw=>KJ 6 [] hw) fun _ hw=>KT 20 4<|KW 2 hw (fun _ hw=>KRO 6 C2 hw g4l fun _ hw=>KJ 2 [] hw) fun _ hw=>KJ 2 [] hw
theorem a4s(ij21:Int)(ij22:Int)(a:Int)(b:Int)(m:Int)(n0:Nat)(cmp:GFn)(data:(List (Int × A0)))(r:(List (Int × A0)))(hw:G6 a b m ij21 ij22 n0 cmp data r):M5 ij21 ij22 a b m n0 cmp data r:=
 KJ 10 [] hw
theorem a7j(n0:Nat)(data:(List (Int × A0)))(a:Int)(m:Int)(b:Int)(cmp:GFn)(r:(List (Int × A0)))(hw:(((wI (m - a))==1)=true->I1 b m n0 a cmp data r)/\(((wI (m - a))==1)=false->(((wI (b - m))==1)=true->H2 m a n0 m cmp data r)/\(((wI (b - m))==1)=false->((decide ((wI ((wU (wI (a+b))).fdiv (2 ^ min (1:Int).toNat IntKind.u64.bits)))<m))=true->M5 (wI ((wU (wI (a+b))).fdiv (2 ^ min (1:Int).toNat IntKind.u64.bits))) (wI ((wI ((wI ((wU (wI (a+b))).fdiv (2 ^ min (1:Int).toNat IntKind.u64.bits)))+m)) - b)) a b m n0 cmp data r)/\((decide ((wI ((wU (wI (a+b))).fdiv (2 ^ min (1:Int).toNat IntKind.u64.bits)))<m))=false->M5 m a a b m n0 cmp data r)))):G9 n0 data a m b cmp r:=
 fRO (KW 9 hw (fun _ hw=>KJ 15 [] hw) fun _ hw=>KW 11 hw (fun _ hw=>KJ 15 [] hw) fun _ hw=>KW 35 hw (fun _ hw=>KJ 13 [] hw) fun _ hw=>KJ 11 [] hw)
def O7(ij17:Int)(ij18:Int)(ij15:Int)(n0:Nat)(n:Int)(cmp:GFn)(lj19:(List (A0 × A0)))(r:(List (A0 × A0))):Prop:=J Tryz.prog 218 (.io 0 (.tuple []) (cellsOf A8 r) []) 14 [(8,aI ij17),(7,aI ij18),(6,aI ij15),(0,.row 0 0 14 n0 n0),(1,aI n),(2,.clo (.func cmp.fn) cmp.fi cmp.cap)] ⟨[some (cellsOf A8 lj19)],[],[]⟩
def J1(ij15:Int)(n0:Nat)(n:Int)(cmp:GFn)(lj16:(List (A0 × A0)))(r:(List (A0 × A0))):Prop:=J Tryz.prog 218 (.io 0 (.tuple []) (cellsOf A8 r) []) 9 [(6,aI ij15),(0,.row 0 0 14 n0 n0),(1,aI n),(2,.clo (.func cmp.fn) cmp.fi cmp.cap)] ⟨[some (cellsOf A8 lj16)],[],[]⟩
def Q3(ij9:Int)(ij10:Int)(n0:Nat)(n:Int)(cmp:GFn)(lj11:(List (A0 × A0)))(r:(List (A0 × A0))):Prop:=J Tryz.prog 218 (.io 0 (.tuple []) (cellsOf A8 r) []) 3 [(8,aI ij9),(7,aI ij10),(6,aI 20),(0,.row 0 0 14 n0 n0),(1,aI n),(2,.clo (.func cmp.fn) cmp.fi cmp.cap)] ⟨[some (cellsOf A8 lj11)],[],[]⟩
theorem a57(ij17:Int)(ij18:Int)(ij15:Int)(n0:Nat)(n:Int)(cmp:GFn)(lj19:(List (A0 × A0)))(r:(List (A0 × A0)))(hw:((decide (ij17<=n))=true->∃y19,H1 n0 lj19 ij18 (wI (ij18+ij15)) ij17 cmp y19/\(lj19≠[]/\y19≠[])/\(O7 (wI (ij17+(wI (2*ij15)))) ij17 ij15 n0 n cmp y19 r))/\((decide (ij17<=n))=false->((decide ((wI (ij18+ij15))<n))=true->∃y18,H1 n0 lj19 ij18 (wI (ij18+ij15)) n cmp y18/\(lj19≠[]/\y18≠[])/\(J1 (wI (ij15*2)) n0 n cmp y18 r))/\((decide ((wI (ij18+ij15))<n))=false->J1 (wI (ij15*2)) n0 n cmp lj19 r))):O7 ij17 ij18 ij15 n0 n cmp lj19 r:=
 KW 9 hw (fun _ hw=>KRO 12 B7 hw e1p fun _ hw=>KJ 17 [] hw) fun _ hw=>KW 21 hw (fun _ hw=>KRO 6 B7 hw e1p fun _ hw=>KJ 9 [] hw) fun _ hw=>KJ 9 [] hw
theorem a59(ij15:Int)(n0:Nat)(n:Int)(cmp:GFn)(lj16:(List (A0 × A0)))(r:(List (A0 × A0)))(hw:((decide (ij15<n))=true->O7 (wI (2*ij15)) 0 ij15 n0 n cmp lj16 r)/\((decide (ij15<n))=false->lj16≠[]/\r=lj16)):J1 ij15 n0 n cmp lj16 r:=
 KW 9 hw (fun _ hw=>KJ 14 [] hw) fun _ hw=>KRr 4 B7 hw
theorem a6v(ij9:Int)(ij10:Int)(n0:Nat)(n:Int)(cmp:GFn)(lj11:(List (A0 × A0)))(r:(List (A0 × A0)))(hw:((decide (ij9<=n))=true->∃y20,K5 n0 lj11 ij10 ij9 cmp y20/\(lj11≠[]/\y20≠[])/\(Q3 (wI (ij9+20)) ij9 n0 n cmp y20 r))/\((decide (ij9<=n))=false->∃y11,K5 n0 lj11 ij10 n cmp y11/\(lj11≠[]/\y11≠[])/\(J1 20 n0 n cmp y11 r))):Q3 ij9 ij10 n0 n cmp lj11 r:=
 KW 9 hw (fun _ hw=>KRO 9 B7 hw f6h fun _ hw=>KJ 16 [] hw) fun _ hw=>KRO 11 B7 hw f6h fun _ hw=>KJ 4 [] hw
theorem a9r(n0:Nat)(data:(List (A0 × A0)))(n:Int)(cmp:GFn)(r:(List (A0 × A0)))(hw:Q3 20 0 n0 n cmp data r):a0c n0 data n cmp r:=
 fRO (KJ 15 [] hw)
theorem d3q(r:Int):plain (h4j r)=true:=rfl
theorem b6l(x:ByteArray)(y:ByteArray)(r:Int)(hw:∃y1,b0c x y1/\(∃y2,b0c y y2/\((y1=true->(y2=true->r=0)/\(y2=false->r=(-1)))/\(y1=false->(y2=true->r=1)/\(y2=false->((Op.bytesLess x.toList y.toList)=true->r=(-1))/\((Op.bytesLess x.toList y.toList)=false->((!(Op.bytesLess x.toList y.toList||x.toList==y.toList))=true->r=1)/\((!(Op.bytesLess x.toList y.toList||x.toList==y.toList))=false->r=0))))))):a17 x y r:=
 fP (KC 8 hw g30 fun _ hw=>KC 6 hw g30 fun _ hw=>KW 9 hw (fun _ hw=>KW 6 hw (fun _ hw=>KR 8 hw d3q) fun _ hw=>KR 9 hw d3q) fun _ hw=>KW 8 hw (fun _ hw=>KR 7 hw d3q) fun _ hw=>KW 10 hw (fun _ hw=>KR 7 hw d3q) fun _ hw=>KW 10 hw (fun _ hw=>KR 7 hw d3q) fun _ hw=>KR 8 hw d3q)
theorem d3c(r:Int):plain (h4k r)=true:=rfl
theorem b6e(x:Int)(y:Int)(r:Int)(hw:∃y1,b0d x y1/\(∃y2,b0d y y2/\((y1=true->(y2=true->r=0)/\(y2=false->r=(-1)))/\(y1=false->(y2=true->r=1)/\(y2=false->((decide (x<y))=true->r=(-1))/\((decide (x<y))=false->((decide (y<x))=true->r=1)/\((decide (y<x))=false->r=0))))))):Z9 x y r:=
 fP (KC 8 hw g7l fun _ hw=>KC 6 hw g7l fun _ hw=>KW 9 hw (fun _ hw=>KW 6 hw (fun _ hw=>KR 8 hw d3c) fun _ hw=>KR 9 hw d3c) fun _ hw=>KW 8 hw (fun _ hw=>KR 7 hw d3c) fun _ hw=>KW 10 hw (fun _ hw=>KR 7 hw d3c) fun _ hw=>KW 10 hw (fun _ hw=>KR 7 hw d3c) fun _ hw=>KR 8 hw d3c)
theorem e7z(r:Int):plain (h30 r)=true:=rfl
theorem c56(bits:Int)(r:Int)(hw:∃y1,b3q bits y1/\(((y1==0)=true->r=18446744073709551615)/\((y1==0)=false->(((F0 .and .u64 bits 9223372036854775808) !=0)=true->r=(F0 .xor .u64 (IntKind.u64.max) bits))/\(((F0 .and .u64 bits 9223372036854775808) !=0)=false->r=(F0 .or .u64 bits 9223372036854775808))))):b2y bits r:=
 fP (KC 10 hw h36 fun _ hw=>KW 4 hw (fun _ hw=>KR 8 hw e7z) fun _ hw=>KW 8 hw (fun _ hw=>KR 10 hw e7z) fun _ hw=>KR 11 hw e7z)
theorem f6i(r:Bool):plain (h4m r)=true:=rfl
theorem a5d(s:ByteArray)(prefix_:ByteArray)(r:Bool)(hw:((decide ((prefix_.size:Int)<=(s.size:Int)))=true->(0<=(0:Int)/\(0:Int)<=(prefix_.size:Int)/\(prefix_.size:Int)<=(s.size:Int))/\(r=(decide ((s.extract (0:Int).toNat (prefix_.size:Int).toNat)=prefix_))))/\((decide ((prefix_.size:Int)<=(s.size:Int)))=false->r=false)):a01 s prefix_ r:=
 fP (KW 13 hw (fun _ hw=>KSS 3 hw fun hw=>KR 7 hw f6i) fun _ hw=>KR 11 hw f6i)
theorem c85(r:Int):plain (h41 r)=true:=rfl
theorem b7h(x:C9)(kind:Int)(enum:Int)(v:A0)(r:Int)(hw:∃R1:Bool->Prop,(∀bz1:Bool,R1 bz1->((bz1=true->r=12)/\(bz1=false->((decide (4096<(v.Text.size:Int)))=true->r=3)/\((decide (4096<(v.Text.size:Int)))=false->∃R2:Bool->Prop,(∀bz2:Bool,R2 bz2->((bz2=true->r=7)/\(bz2=false->∃y3,b19 kind v y3/\(((!y3)=true->r=12)/\((!y3)=false->((kind==9)=true->∃y4,a9g x.p enum v.Bits y4/\(((!y4)=true->r=16)/\((!y4)=false->r=0)))/\((kind==9)=false->r=0))))))/\(((kind==7)=true->∃y2,b8e v.Text y2/\(R2 (!y2)))/\((kind==7)=false->R2 false))))))/\(((v.Kind !=kind)=true->R1 true)/\((v.Kind !=kind)=false->∃y1,b1t v y1/\(R1 y1)))):a3k x kind enum v r:=
 fP (KQ 16 3 kB hw (fun _ hw=>KW 3 hw (fun _ hw=>KR 8 hw c85) fun _ hw=>KW 9 hw (fun _ hw=>KR 8 hw c85) fun _ hw=>KQ 5 5 kB hw (fun _ hw=>KW 3 hw (fun _ hw=>KR 8 hw c85) fun _ hw=>KC 4 hw g9x fun _ hw=>KW 4 hw (fun _ hw=>KR 8 hw c85) fun _ hw=>KW 5 hw (fun _ hw=>KC 5 hw h13 fun _ hw=>KW 5 hw (fun _ hw=>KR 8 hw c85) fun _ hw=>KR 9 hw c85) fun _ hw=>KR 21 hw c85) (fun _ key _ hw=>KC 2 hw g8l fun _ hw=>KE 2 key hw) fun _ key _ hw=>KE 5 key hw) (fun _ key _ hw=>KE 3 key hw) fun _ key _ hw=>KC 1 hw f3e fun _ hw=>KE 1 key hw)
theorem g6y(r:Bool):plain (h5h r)=true:=rfl
theorem a5p(s:(List (A0 × A0)))(f:GFn)(r:Bool)(hw:∃y1,a2f s f y1/\(r=(decide (0<=y1)))):V4 s f r:=
 fP (KC 9 hw h2t fun _ hw=>KR 5 hw g6y)
def J5(ij3:Int)(ij1:Int)(n0:Nat)(m:Int)(cmp:GFn)(lj2:(List (Int × A0)))(r:(List (Int × A0))):Prop:=J Tryz.prog 227 (.io 0 (.tuple []) (cellsOf B4 r) []) 3 [(11,aI ij3),(10,aI ij1),(0,.row 0 0 8 n0 n0),(2,aI m),(4,.clo (.func cmp.fn) cmp.fi cmp.cap)] ⟨[some (cellsOf B4 lj2)],[],[]⟩
theorem a7d(ij3:Int)(ij1:Int)(n0:Nat)(m:Int)(cmp:GFn)(lj2:(List (Int × A0)))(r:(List (Int × A0)))(hw:((ij1 !=ij3)=true->((decide (ij3<ij1))=true->∃y5,J7 n0 lj2 (wI (m - ij1)) m ij3 cmp y5/\(lj2≠[]/\y5≠[])/\(J5 ij3 (wI (ij1 - ij3)) n0 m cmp y5 r))/\((decide (ij3<ij1))=false->∃y6,J7 n0 lj2 (wI (m - ij1)) (wI ((wI (m+ij3)) - ij1)) ij1 cmp y6/\(lj2≠[]/\y6≠[])/\(J5 (wI (ij3 - ij1)) ij1 n0 m cmp y6 r)))/\((ij1 !=ij3)=false->∃y4,J7 n0 lj2 (wI (m - ij1)) m ij1 cmp y4/\(lj2≠[]/\y4≠[])/\(y4≠[]/\r=y4))):J5 ij3 ij1 n0 m cmp lj2 r:=
 KW 9 hw (fun _ hw=>KW 10 hw (fun _ hw=>KRO 9 C2 hw e9w fun _ hw=>KJ 10 [] hw) fun _ hw=>KRO 13 C2 hw e9w fun _ hw=>KJ 10 [] hw) fun _ hw=>KRO 13 C2 hw e9w fun _ hw=>KRr 1 C2 hw
theorem a88(n0:Nat)(data:(List (Int × A0)))(a:Int)(m:Int)(b:Int)(cmp:GFn)(r:(List (Int × A0)))(hw:J5 (wI (b - m)) (wI (m - a)) n0 m cmp data r):a0h n0 data a m b cmp r:=
 fRO (KJ 19 [] hw)
def I5(ij5:Int)(ij3:Int)(n0:Nat)(a:Int)(b:Int)(cmp:GFn)(lj6:(List (A0 × A0)))(r:(List (A0 × A0))):Prop:=J Tryz.prog 228 (.io 0 (.tuple []) (cellsOf A8 r) []) 6 [(9,aI ij5),(8,aI ij3),(0,.row 0 0 14 n0 n0),(1,aI a),(2,aI b),(3,.clo (.func cmp.fn) cmp.fi cmp.cap)] ⟨[some (cellsOf A8 lj6)],[],[]⟩
def I4(ij3:Int)(n0:Nat)(a:Int)(b:Int)(cmp:GFn)(lj4:(List (A0 × A0)))(r:(List (A0 × A0))):Prop:=J Tryz.prog 228 (.io 0 (.tuple []) (cellsOf A8 r) []) 1 [(8,aI ij3),(0,.row 0 0 14 n0 n0),(1,aI a),(2,aI b),(3,.clo (.func cmp.fn) cmp.fi cmp.cap)] ⟨[some (cellsOf A8 lj4)],[],[]⟩
theorem a2b(ij5:Int)(ij3:Int)(n0:Nat)(a:Int)(b:Int)(cmp:GFn)(lj6:(List (A0 × A0)))(r:(List (A0 × A0)))(hw:∃R8:Bool->Prop,(∀bz8:Bool,R8 bz8->((bz8=true->(0<=(wI (ij5 - 1))/\(wI (ij5 - 1))<(n0:Int))/\(∃y19,lj6[(wI (ij5 - 1)).toNat]? =some y19/\((0<=ij5/\ij5<(n0:Int))/\(∃y20,lj6[ij5.toNat]? =some y20/\((0<=ij5/\ij5<(n0:Int))/\(ij5.toNat<lj6.length/\((0<=(wI (ij5 - 1))/\(wI (ij5 - 1))<(n0:Int))/\((wI (ij5 - 1)).toNat<(lj6.set ij5.toNat y19).length/\(I5 (wI (ij5 - 1)) ij3 n0 a b cmp ((lj6.set ij5.toNat y19).set (wI (ij5 - 1)).toNat y20) r)))))))))/\(bz8=false->I4 (wI (ij3+1)) n0 a b cmp lj6 r)))/\(((decide (a<ij5))=true->(0<=ij5/\ij5<(n0:Int))/\(∃y16,lj6[ij5.toNat]? =some y16/\((0<=(wI (ij5 - 1))/\(wI (ij5 - 1))<(n0:Int))/\(∃y17,lj6[(wI (ij5 - 1)).toNat]? =some y17/\(∃y18,a6a Tryz.prog [] (.clo (.func cmp.fn) cmp.fi cmp.cap) [.agg (U7 y16),.agg (U7 y17)] (aI y18)/\(R8 (decide (y18<0))))))))/\((decide (a<ij5))=false->R8 false))):I5 ij5 ij3 n0 a b cmp lj6 r:=
 KD 3 [0]<|KQ 4 13 kB hw (fun _ hw=>KW 3 hw (fun _ hw=>KDL 4 [0]<|KRI 8 14 hw fun hw=>KRn 0 B7 hw fun y19 hw=>KRI 2 14 hw fun hw=>KRn 0 B7 hw fun y20 hw=>KRI 0 14 hw fun hw=>KRS 0 B7 y19 hw fun hw=>KRI 0 14 hw fun hw=>KRS 0 B7 y20 hw fun hw=>KJ 9 [] hw) fun _ hw=>KJ 12 [] hw) (fun _ key _ hw=>KRI 3 14 hw fun hw=>KRn 0 B7 hw fun _ hw=>KRI 3 14 hw fun hw=>KRn 0 B7 hw fun _ hw=>KF 0 hw fun _ hw=>KE 2 key hw) fun _ key _ hw=>KE 13 key hw
theorem a2d(ij3:Int)(n0:Nat)(a:Int)(b:Int)(cmp:GFn)(lj4:(List (A0 × A0)))(r:(List (A0 × A0)))(hw:((decide (ij3<b))=true->I5 ij3 ij3 n0 a b cmp lj4 r)/\((decide (ij3<b))=false->lj4≠[]/\r=lj4)):I4 ij3 n0 a b cmp lj4 r:=
 KW 9 hw (fun _ hw=>KJ 12 [] hw) fun _ hw=>KRr 4 B7 hw
theorem a35(n0:Nat)(data:(List (A0 × A0)))(a:Int)(b:Int)(cmp:GFn)(r:(List (A0 × A0)))(hw:I4 (wI (a+1)) n0 a b cmp data r):K5 n0 data a b cmp r:=
 fRO (KJ 9 [] hw)
def N2(ij5:Int)(ij3:Int)(n0:Nat)(lj6:(List (A0 × A0)))(r:(List (A0 × A0))):Prop:=J Tryz.prog 229 (.io 0 (.tuple []) (cellsOf A8 r) []) 12 [(13,aI ij5),(10,aI ij3),(0,.row 0 0 14 n0 n0)] ⟨[some (cellsOf A8 lj6)],[],[]⟩
def H9(ij4:Int)(ij3:Int)(n0:Nat)(a:Int)(cmp:GFn)(data:(List (A0 × A0)))(r:(List (A0 × A0))):Prop:=J Tryz.prog 229 (.io 0 (.tuple []) (cellsOf A8 r) []) 5 [(11,aI ij4),(10,aI ij3),(0,.row 0 0 14 n0 n0),(1,aI a),(4,.clo (.func cmp.fn) cmp.fi cmp.cap)] ⟨[some (cellsOf A8 data)],[],[]⟩
def M6(ij11:Int)(ij9:Int)(n0:Nat)(lj12:(List (A0 × A0)))(r:(List (A0 × A0))):Prop:=J Tryz.prog 229 (.io 0 (.tuple []) (cellsOf A8 r) []) 28 [(17,aI ij11),(14,aI ij9),(0,.row 0 0 14 n0 n0)] ⟨[some (cellsOf A8 lj12)],[],[]⟩
def G8(ij10:Int)(ij9:Int)(n0:Nat)(m:Int)(cmp:GFn)(data:(List (A0 × A0)))(r:(List (A0 × A0))):Prop:=J Tryz.prog 229 (.io 0 (.tuple []) (cellsOf A8 r) []) 21 [(15,aI ij10),(14,aI ij9),(0,.row 0 0 14 n0 n0),(2,aI m),(4,.clo (.func cmp.fn) cmp.fi cmp.cap)] ⟨[some (cellsOf A8 data)],[],[]⟩
def M7(a:Int)(b:Int)(m:Int)(ij26:Int)(n0:Nat)(cmp:GFn)(lj30:(List (A0 × A0)))(r:(List (A0 × A0))):Prop:=J Tryz.prog 229 (.io 0 (.tuple []) (cellsOf A8 r) []) 49 [(24,aI (wI ((wI ((wI ((wU (wI (a+b))).fdiv (2 ^ min (1:Int).toNat IntKind.u64.bits)))+m)) - ij26))),(18,aI (wI ((wU (wI (a+b))).fdiv (2 ^ min (1:Int).toNat IntKind.u64.bits)))),(0,.row 0 0 14 n0 n0),(3,aI b),(4,.clo (.func cmp.fn) cmp.fi cmp.cap)] ⟨[some (cellsOf A8 lj30)],[],[]⟩
def M3(a:Int)(b:Int)(m:Int)(ij26:Int)(n0:Nat)(cmp:GFn)(lj29:(List (A0 × A0)))(r:(List (A0 × A0))):Prop:=J Tryz.prog 229 (.io 0 (.tuple []) (cellsOf A8 r) []) 47 [(24,aI (wI ((wI ((wI ((wU (wI (a+b))).fdiv (2 ^ min (1:Int).toNat IntKind.u64.bits)))+m)) - ij26))),(20,aI ij26),(18,aI (wI ((wU (wI (a+b))).fdiv (2 ^ min (1:Int).toNat IntKind.u64.bits)))),(0,.row 0 0 14 n0 n0),(1,aI a),(3,aI b),(4,.clo (.func cmp.fn) cmp.fi cmp.cap)] ⟨[some (cellsOf A8 lj29)],[],[]⟩
def G7(a:Int)(b:Int)(m:Int)(ij27:Int)(ij26:Int)(n0:Nat)(cmp:GFn)(data:(List (A0 × A0)))(r:(List (A0 × A0))):Prop:=J Tryz.prog 229 (.io 0 (.tuple []) (cellsOf A8 r) []) 41 [(22,aI (wI ((wI ((wI ((wU (wI (a+b))).fdiv (2 ^ min (1:Int).toNat IntKind.u64.bits)))+m)) - 1))),(21,aI ij27),(20,aI ij26),(19,aI (wI ((wI ((wU (wI (a+b))).fdiv (2 ^ min (1:Int).toNat IntKind.u64.bits)))+m))),(18,aI (wI ((wU (wI (a+b))).fdiv (2 ^ min (1:Int).toNat IntKind.u64.bits)))),(0,.row 0 0 14 n0 n0),(1,aI a),(2,aI m),(3,aI b),(4,.clo (.func cmp.fn) cmp.fi cmp.cap)] ⟨[some (cellsOf A8 data)],[],[]⟩
def M2(ij21:Int)(ij22:Int)(a:Int)(b:Int)(m:Int)(n0:Nat)(cmp:GFn)(data:(List (A0 × A0)))(r:(List (A0 × A0))):Prop:=J Tryz.prog 229 (.io 0 (.tuple []) (cellsOf A8 r) []) 35 [(21,aI ij21),(20,aI ij22),(19,aI (wI ((wI ((wU (wI (a+b))).fdiv (2 ^ min (1:Int).toNat IntKind.u64.bits)))+m))),(18,aI (wI ((wU (wI (a+b))).fdiv (2 ^ min (1:Int).toNat IntKind.u64.bits)))),(0,.row 0 0 14 n0 n0),(1,aI a),(2,aI m),(3,aI b),(4,.clo (.func cmp.fn) cmp.fi cmp.cap)] ⟨[some (cellsOf A8 data)],[],[]⟩
theorem a5m(ij5:Int)(ij3:Int)(n0:Nat)(lj6:(List (A0 × A0)))(r:(List (A0 × A0)))(hw:((decide (ij5<(wI (ij3 - 1))))=true->(0<=(wI (ij5+1))/\(wI (ij5+1))<(n0:Int))/\(∃y10,lj6[(wI (ij5+1)).toNat]? =some y10/\((0<=ij5/\ij5<(n0:Int))/\(∃y11,lj6[ij5.toNat]? =some y11/\((0<=ij5/\ij5<(n0:Int))/\(ij5.toNat<lj6.length/\((0<=(wI (ij5+1))/\(wI (ij5+1))<(n0:Int))/\((wI (ij5+1)).toNat<(lj6.set ij5.toNat y10).length/\(N2 (wI (ij5+1)) ij3 n0 ((lj6.set ij5.toNat y10).set (wI (ij5+1)).toNat y11) r)))))))))/\((decide (ij5<(wI (ij3 - 1))))=false->lj6≠[]/\r=lj6)):N2 ij5 ij3 n0 lj6 r:=
 KW 10 hw (fun _ hw=>KDL 4 [0]<|KRI 8 14 hw fun hw=>KRn 0 B7 hw fun y10 hw=>KRI 2 14 hw fun hw=>KRn 0 B7 hw fun y11 hw=>KRI 0 14 hw fun hw=>KRS 0 B7 y10 hw fun hw=>KRI 0 14 hw fun hw=>KRS 0 B7 y11 hw fun hw=>KJ 9 [] hw) fun _ hw=>KRr 7 B7 hw
theorem a5b(ij4:Int)(ij3:Int)(n0:Nat)(a:Int)(cmp:GFn)(data:(List (A0 × A0)))(r:(List (A0 × A0)))(hw:((decide (ij3<ij4))=true->(0<=(wI ((wU (wI (ij3+ij4))).fdiv (2 ^ min (1:Int).toNat IntKind.u64.bits)))/\(wI ((wU (wI (ij3+ij4))).fdiv (2 ^ min (1:Int).toNat IntKind.u64.bits)))<(n0:Int))/\(∃y12,data[(wI ((wU (wI (ij3+ij4))).fdiv (2 ^ min (1:Int).toNat IntKind.u64.bits))).toNat]? =some y12/\((0<=a/\a<(n0:Int))/\(∃y13,data[a.toNat]? =some y13/\(∃y14,a6a Tryz.prog [] (.clo (.func cmp.fn) cmp.fi cmp.cap) [.agg (U7 y12),.agg (U7 y13)] (aI y14)/\(((decide (y14<0))=true->H9 ij4 (wI ((wI ((wU (wI (ij3+ij4))).fdiv (2 ^ min (1:Int).toNat IntKind.u64.bits)))+1)) n0 a cmp data r)/\((decide (y14<0))=false->H9 (wI ((wU (wI (ij3+ij4))).fdiv (2 ^ min (1:Int).toNat IntKind.u64.bits))) ij3 n0 a cmp data r)))))))/\((decide (ij3<ij4))=false->N2 a ij3 n0 data r)):H9 ij4 ij3 n0 a cmp data r:=
 KW 9 hw (fun _ hw=>KD 15 [0]<|KRI 3 14 hw fun hw=>KRn 0 B7 hw fun _ hw=>KRI 2 14 hw fun hw=>KRn 0 B7 hw fun _ hw=>KF 0 hw fun _ hw=>KW 4 hw (fun _ hw=>KJ 7 [] hw) fun _ hw=>KJ 6 [] hw) fun _ hw=>KJ 14 [] hw
theorem a4q(ij11:Int)(ij9:Int)(n0:Nat)(lj12:(List (A0 × A0)))(r:(List (A0 × A0)))(hw:((decide (ij9<ij11))=true->(0<=(wI (ij11 - 1))/\(wI (ij11 - 1))<(n0:Int))/\(∃y24,lj12[(wI (ij11 - 1)).toNat]? =some y24/\((0<=ij11/\ij11<(n0:Int))/\(∃y25,lj12[ij11.toNat]? =some y25/\((0<=ij11/\ij11<(n0:Int))/\(ij11.toNat<lj12.length/\((0<=(wI (ij11 - 1))/\(wI (ij11 - 1))<(n0:Int))/\((wI (ij11 - 1)).toNat<(lj12.set ij11.toNat y24).length/\(M6 (wI (ij11 - 1)) ij9 n0 ((lj12.set ij11.toNat y24).set (wI (ij11 - 1)).toNat y25) r)))))))))/\((decide (ij9<ij11))=false->lj12≠[]/\r=lj12)):M6 ij11 ij9 n0 lj12 r:=
 KW 9 hw (fun _ hw=>KDL 4 [0]<|KRI 8 14 hw fun hw=>KRn 0 B7 hw fun y24 hw=>KRI 2 14 hw fun hw=>KRn 0 B7 hw fun y25 hw=>KRI 0 14 hw fun hw=>KRS 0 B7 y24 hw fun hw=>KRI 0 14 hw fun hw=>KRS 0 B7 y25 hw fun hw=>KJ 9 [] hw) fun _ hw=>KRr 7 B7 hw
theorem a4n(ij10:Int)(ij9:Int)(n0:Nat)(m:Int)(cmp:GFn)(data:(List (A0 × A0)))(r:(List (A0 × A0)))(hw:((decide (ij9<ij10))=true->(0<=m/\m<(n0:Int))/\(∃y26,data[m.toNat]? =some y26/\((0<=(wI ((wU (wI (ij9+ij10))).fdiv (2 ^ min (1:Int).toNat IntKind.u64.bits)))/\(wI ((wU (wI (ij9+ij10))).fdiv (2 ^ min (1:Int).toNat IntKind.u64.bits)))<(n0:Int))/\(∃y27,data[(wI ((wU (wI (ij9+ij10))).fdiv (2 ^ min (1:Int).toNat IntKind.u64.bits))).toNat]? =some y27/\(∃y28,a6a Tryz.prog [] (.clo (.func cmp.fn) cmp.fi cmp.cap) [.agg (U7 y26),.agg (U7 y27)] (aI y28)/\(((!(decide (y28<0)))=true->G8 ij10 (wI ((wI ((wU (wI (ij9+ij10))).fdiv (2 ^ min (1:Int).toNat IntKind.u64.bits)))+1)) n0 m cmp data r)/\((!(decide (y28<0)))=false->G8 (wI ((wU (wI (ij9+ij10))).fdiv (2 ^ min (1:Int).toNat IntKind.u64.bits))) ij9 n0 m cmp data r)))))))/\((decide (ij9<ij10))=false->M6 m ij9 n0 data r)):G8 ij10 ij9 n0 m cmp data r:=
 KW 9 hw (fun _ hw=>KD 15 [0]<|KRI 3 14 hw fun hw=>KRn 0 B7 hw fun _ hw=>KRI 2 14 hw fun hw=>KRn 0 B7 hw fun _ hw=>KF 0 hw fun _ hw=>KW 5 hw (fun _ hw=>KJ 7 [] hw) fun _ hw=>KJ 6 [] hw) fun _ hw=>KJ 14 [] hw
theorem a4f(a:Int)(b:Int)(m:Int)(ij26:Int)(n0:Nat)(cmp:GFn)(lj30:(List (A0 × A0)))(r:(List (A0 × A0)))(hw:(((decide ((wI ((wU (wI (a+b))).fdiv (2 ^ min (1:Int).toNat IntKind.u64.bits)))<(wI ((wI ((wI ((wU (wI (a+b))).fdiv (2 ^ min (1:Int).toNat IntKind.u64.bits)))+m)) - ij26))))&&(decide ((wI ((wI ((wI ((wU (wI (a+b))).fdiv (2 ^ min (1:Int).toNat IntKind.u64.bits)))+m)) - ij26))<b)))=true->∃y65,H1 n0 lj30 (wI ((wU (wI (a+b))).fdiv (2 ^ min (1:Int).toNat IntKind.u64.bits))) (wI ((wI ((wI ((wU (wI (a+b))).fdiv (2 ^ min (1:Int).toNat IntKind.u64.bits)))+m)) - ij26)) b cmp y65/\(lj30≠[]/\y65≠[])/\(y65≠[]/\r=y65))/\(((decide ((wI ((wU (wI (a+b))).fdiv (2 ^ min (1:Int).toNat IntKind.u64.bits)))<(wI ((wI ((wI ((wU (wI (a+b))).fdiv (2 ^ min (1:Int).toNat IntKind.u64.bits)))+m)) - ij26))))&&(decide ((wI ((wI ((wI ((wU (wI (a+b))).fdiv (2 ^ min (1:Int).toNat IntKind.u64.bits)))+m)) - ij26))<b)))=false->lj30≠[]/\r=lj30)):M7 a b m ij26 n0 cmp lj30 r:=
 KT 6 4<|KW 2 hw (fun _ hw=>KRO 6 B7 hw e1p fun _ hw=>KRr 1 B7 hw) fun _ hw=>KRr 1 B7 hw
theorem a4t(a:Int)(b:Int)(m:Int)(ij26:Int)(n0:Nat)(cmp:GFn)(lj29:(List (A0 × A0)))(r:(List (A0 × A0)))(hw:(((decide (a<ij26))&&(decide (ij26<(wI ((wU (wI (a+b))).fdiv (2 ^ min (1:Int).toNat IntKind.u64.bits))))))=true->∃y63,H1 n0 lj29 a ij26 (wI ((wU (wI (a+b))).fdiv (2 ^ min (1:Int).toNat IntKind.u64.bits))) cmp y63/\(lj29≠[]/\y63≠[])/\(M7 a b m ij26 n0 cmp y63 r))/\(((decide (a<ij26))&&(decide (ij26<(wI ((wU (wI (a+b))).fdiv (2 ^ min (1:Int).toNat IntKind.u64.bits))))))=false->M7 a b m ij26 n0 cmp lj29 r)):M3 a b m ij26 n0 cmp lj29 r:=
 KT 7 4<|KW 2 hw (fun _ hw=>KRO 6 B7 hw e1p fun _ hw=>KJ 2 [] hw) fun _ hw=>KJ 2 [] hw
theorem a4b(a:Int)(b:Int)(m:Int)(ij27:Int)(ij26:Int)(n0:Nat)(cmp:GFn)(data:(List (A0 × A0)))(r:(List (A0 × A0)))(hw:((decide (ij26<ij27))=true->(0<=(wI ((wI ((wI ((wI ((wU (wI (a+b))).fdiv (2 ^ min (1:Int).toNat IntKind.u64.bits)))+m)) - 1)) - (wI ((wU (wI (ij26+ij27))).fdiv (2 ^ min (1:Int).toNat IntKind.u64.bits)))))/\(wI ((wI ((wI ((wI ((wU (wI (a+b))).fdiv (2 ^ min (1:Int).toNat IntKind.u64.bits)))+m)) - 1)) - (wI ((wU (wI (ij26+ij27))).fdiv (2 ^ min (1:Int).toNat IntKind.u64.bits)))))<(n0:Int))/\(∃y66,data[(wI ((wI ((wI ((wI ((wU (wI (a+b))).fdiv (2 ^ min (1:Int).toNat IntKind.u64.bits)))+m)) - 1)) - (wI ((wU (wI (ij26+ij27))).fdiv (2 ^ min (1:Int).toNat IntKind.u64.bits))))).toNat]? =some y66/\((0<=(wI ((wU (wI (ij26+ij27))).fdiv (2 ^ min (1:Int).toNat IntKind.u64.bits)))/\(wI ((wU (wI (ij26+ij27))).fdiv (2 ^ min (1:Int).toNat IntKind.u64.bits)))<(n0:Int))/\(∃y67,data[(wI ((wU (wI (ij26+ij27))).fdiv (2 ^ min (1:Int).toNat IntKind.u64.bits))).toNat]? =some y67/\(∃y68,a6a Tryz.prog [] (.clo (.func cmp.fn) cmp.fi cmp.cap) [.agg (U7 y66),.agg (U7 y67)] (aI y68)/\(((!(decide (y68<0)))=true->G7 a b m ij27 (wI ((wI ((wU (wI (ij26+ij27))).fdiv (2 ^ min (1:Int).toNat IntKind.u64.bits)))+1)) n0 cmp data r)/\((!(decide (y68<0)))=false->G7 a b m (wI ((wU (wI (ij26+ij27))).fdiv (2 ^ min (1:Int).toNat IntKind.u64.bits))) ij26 n0 cmp data r)))))))/\((decide (ij26<ij27))=false->(((decide (ij26<m))&&(decide (m<(wI ((wI ((wI ((wU (wI (a+b))).fdiv (2 ^ min (1:Int).toNat IntKind.u64.bits)))+m)) - ij26)))))=true->∃y59,a0d n0 data ij26 m (wI ((wI ((wI ((wU (wI (a+b))).fdiv (2 ^ min (1:Int).toNat IntKind.u64.bits)))+m)) - ij26)) cmp y59/\(data≠[]/\y59≠[])/\(M3 a b m ij26 n0 cmp y59 r))/\(((decide (ij26<m))&&(decide (m<(wI ((wI ((wI ((wU (wI (a+b))).fdiv (2 ^ min (1:Int).toNat IntKind.u64.bits)))+m)) - ij26)))))=false->M3 a b m ij26 n0 cmp data r))):G7 a b m ij27 ij26 n0 cmp data r:=
 KW 9 hw (fun _ hw=>KD 15 [0]<|KRI 5 14 hw fun hw=>KRn 0 B7 hw fun _ hw=>KRI 2 14 hw fun hw=>KRn 0 B7 hw fun _ hw=>KF 0 hw fun _ hw=>KW 5 hw (fun _ hw=>KJ 7 [] hw) fun _ hw=>KJ 6 [] hw) fun _ hw=>KT 20 4<|KW 2 hw (fun _ hw=>KRO 6 B7 hw g6h fun _ hw=>KJ 2 [] hw) fun _ hw=>KJ 2 [] hw
theorem a4o(ij21:Int)(ij22:Int)(a:Int)(b:Int)(m:Int)(n0:Nat)(cmp:GFn)(data:(List (A0 × A0)))(r:(List (A0 × A0)))(hw:G7 a b m ij21 ij22 n0 cmp data r):M2 ij21 ij22 a b m n0 cmp data r:=
 KJ 10 [] hw
theorem a7m(n0:Nat)(data:(List (A0 × A0)))(a:Int)(m:Int)(b:Int)(cmp:GFn)(r:(List (A0 × A0)))(hw:(((wI (m - a))==1)=true->H9 b m n0 a cmp data r)/\(((wI (m - a))==1)=false->(((wI (b - m))==1)=true->G8 m a n0 m cmp data r)/\(((wI (b - m))==1)=false->((decide ((wI ((wU (wI (a+b))).fdiv (2 ^ min (1:Int).toNat IntKind.u64.bits)))<m))=true->M2 (wI ((wU (wI (a+b))).fdiv (2 ^ min (1:Int).toNat IntKind.u64.bits))) (wI ((wI ((wI ((wU (wI (a+b))).fdiv (2 ^ min (1:Int).toNat IntKind.u64.bits)))+m)) - b)) a b m n0 cmp data r)/\((decide ((wI ((wU (wI (a+b))).fdiv (2 ^ min (1:Int).toNat IntKind.u64.bits)))<m))=false->M2 m a a b m n0 cmp data r)))):H1 n0 data a m b cmp r:=
 fRO (KW 9 hw (fun _ hw=>KJ 15 [] hw) fun _ hw=>KW 11 hw (fun _ hw=>KJ 15 [] hw) fun _ hw=>KW 35 hw (fun _ hw=>KJ 13 [] hw) fun _ hw=>KJ 11 [] hw)
theorem g34(r:Bool):plain (h3s r)=true:=rfl
theorem a9j(x:ByteArray)(r:Bool)(hw:r=(!(decide (x=x)))):b0c x r:=
 fP (KR 14 hw g34)
theorem g7b(r:Bool):plain (h3i r)=true:=rfl
theorem a9i(x:Int)(r:Bool)(hw:r=(x !=x)):b0d x r:=
 fP (KR 14 hw g7b)
theorem f6o(r:Int):plain (h2x r)=true:=rfl
def N7(ij1:Int)(s:(List (A0 × A0)))(f:GFn)(r:Int):Prop:=JP Tryz.prog 233 (h2x r) 3 [(8,aI ij1),(7,aI (s.length:Int)),(0,.sl (List.map A8 s) .no),(1,.clo (.func f.fn) f.fi f.cap)]
theorem a45(ij1:Int)(s:(List (A0 × A0)))(f:GFn)(r:Int)(hw:((decide (ij1<(s.length:Int)))=true->∃y3,s[ij1.toNat]? =some y3/\0<=ij1/\(∃y4,a6a Tryz.prog [] (.clo (.func f.fn) f.fi f.cap) [.agg (U7 y3)] (aB y4)/\((y4=true->r=ij1)/\(y4=false->N7 (wI (ij1+1)) s f r))))/\((decide (ij1<(s.length:Int)))=false->r=(-1))):N7 ij1 s f r:=
 KW 7 hw (fun _ hw=>KI 15 B7 hw fun _ hw=>KF 1 hw fun _ hw=>KW 2 hw (fun _ hw=>KR 12 hw f6o) fun _ hw=>KJ 8 [] hw) fun _ hw=>KR 11 hw f6o
theorem a7e(s:(List (A0 × A0)))(f:GFn)(r:Int)(hw:N7 0 s f r):a2f s f r:=
 fP (KL 9 B7 s<|KJ 5 [] hw)
def L8(ij1:Int)(n0:Nat)(a:Int)(b:Int)(n:Int)(lj2:(List (Int × A0)))(r:(List (Int × A0))):Prop:=J Tryz.prog 234 (.io 0 (.tuple []) (cellsOf B4 r) []) 1 [(10,aI ij1),(0,.row 0 0 8 n0 n0),(1,aI a),(2,aI b),(3,aI n)] ⟨[some (cellsOf B4 lj2)],[],[]⟩
theorem a4k(ij1:Int)(n0:Nat)(a:Int)(b:Int)(n:Int)(lj2:(List (Int × A0)))(r:(List (Int × A0)))(hw:((decide (ij1<n))=true->(0<=(wI (b+ij1))/\(wI (b+ij1))<(n0:Int))/\(∃y3,lj2[(wI (b+ij1)).toNat]? =some y3/\((0<=(wI (a+ij1))/\(wI (a+ij1))<(n0:Int))/\(∃y4,lj2[(wI (a+ij1)).toNat]? =some y4/\((0<=(wI (a+ij1))/\(wI (a+ij1))<(n0:Int))/\((wI (a+ij1)).toNat<lj2.length/\((0<=(wI (b+ij1))/\(wI (b+ij1))<(n0:Int))/\((wI (b+ij1)).toNat<(lj2.set (wI (a+ij1)).toNat y3).length/\(L8 (wI (ij1+1)) n0 a b n ((lj2.set (wI (a+ij1)).toNat y3).set (wI (b+ij1)).toNat y4) r)))))))))/\((decide (ij1<n))=false->lj2≠[]/\r=lj2)):L8 ij1 n0 a b n lj2 r:=
 KW 9 hw (fun _ hw=>KDL 4 [0]<|KRI 12 8 hw fun hw=>KRn 0 C2 hw fun y3 hw=>KRI 4 8 hw fun hw=>KRn 0 C2 hw fun y4 hw=>KRI 0 8 hw fun hw=>KRS 0 C2 y3 hw fun hw=>KRI 0 8 hw fun hw=>KRS 0 C2 y4 hw fun hw=>KJ 9 [] hw) fun _ hw=>KRr 4 C2 hw
theorem a6k(n0:Nat)(data:(List (Int × A0)))(a:Int)(b:Int)(n:Int)(cmp:GFn)(r:(List (Int × A0)))(hw:L8 0 n0 a b n data r):J7 n0 data a b n cmp r:=
 fRO (KJ 7 [] hw)
def J9(ij3:Int)(ij1:Int)(n0:Nat)(m:Int)(cmp:GFn)(lj2:(List (A0 × A0)))(r:(List (A0 × A0))):Prop:=J Tryz.prog 235 (.io 0 (.tuple []) (cellsOf A8 r) []) 3 [(11,aI ij3),(10,aI ij1),(0,.row 0 0 14 n0 n0),(2,aI m),(4,.clo (.func cmp.fn) cmp.fi cmp.cap)] ⟨[some (cellsOf A8 lj2)],[],[]⟩
theorem a63(ij3:Int)(ij1:Int)(n0:Nat)(m:Int)(cmp:GFn)(lj2:(List (A0 × A0)))(r:(List (A0 × A0)))(hw:((ij1 !=ij3)=true->((decide (ij3<ij1))=true->∃y5,J8 n0 lj2 (wI (m - ij1)) m ij3 cmp y5/\(lj2≠[]/\y5≠[])/\(J9 ij3 (wI (ij1 - ij3)) n0 m cmp y5 r))/\((decide (ij3<ij1))=false->∃y6,J8 n0 lj2 (wI (m - ij1)) (wI ((wI (m+ij3)) - ij1)) ij1 cmp y6/\(lj2≠[]/\y6≠[])/\(J9 (wI (ij3 - ij1)) ij1 n0 m cmp y6 r)))/\((ij1 !=ij3)=false->∃y4,J8 n0 lj2 (wI (m - ij1)) m ij1 cmp y4/\(lj2≠[]/\y4≠[])/\(y4≠[]/\r=y4))):J9 ij3 ij1 n0 m cmp lj2 r:=
 KW 9 hw (fun _ hw=>KW 10 hw (fun _ hw=>KRO 9 B7 hw e8i fun _ hw=>KJ 10 [] hw) fun _ hw=>KRO 13 B7 hw e8i fun _ hw=>KJ 10 [] hw) fun _ hw=>KRO 13 B7 hw e8i fun _ hw=>KRr 1 B7 hw
theorem a96(n0:Nat)(data:(List (A0 × A0)))(a:Int)(m:Int)(b:Int)(cmp:GFn)(r:(List (A0 × A0)))(hw:J9 (wI (b - m)) (wI (m - a)) n0 m cmp data r):a0d n0 data a m b cmp r:=
 fRO (KJ 19 [] hw)
def M1(ij1:Int)(n0:Nat)(a:Int)(b:Int)(n:Int)(lj2:(List (A0 × A0)))(r:(List (A0 × A0))):Prop:=J Tryz.prog 236 (.io 0 (.tuple []) (cellsOf A8 r) []) 1 [(10,aI ij1),(0,.row 0 0 14 n0 n0),(1,aI a),(2,aI b),(3,aI n)] ⟨[some (cellsOf A8 lj2)],[],[]⟩
theorem a4g(ij1:Int)(n0:Nat)(a:Int)(b:Int)(n:Int)(lj2:(List (A0 × A0)))(r:(List (A0 × A0)))(hw:((decide (ij1<n))=true->(0<=(wI (b+ij1))/\(wI (b+ij1))<(n0:Int))/\(∃y3,lj2[(wI (b+ij1)).toNat]? =some y3/\((0<=(wI (a+ij1))/\(wI (a+ij1))<(n0:Int))/\(∃y4,lj2[(wI (a+ij1)).toNat]? =some y4/\((0<=(wI (a+ij1))/\(wI (a+ij1))<(n0:Int))/\((wI (a+ij1)).toNat<lj2.length/\((0<=(wI (b+ij1))/\(wI (b+ij1))<(n0:Int))/\((wI (b+ij1)).toNat<(lj2.set (wI (a+ij1)).toNat y3).length/\(M1 (wI (ij1+1)) n0 a b n ((lj2.set (wI (a+ij1)).toNat y3).set (wI (b+ij1)).toNat y4) r)))))))))/\((decide (ij1<n))=false->lj2≠[]/\r=lj2)):M1 ij1 n0 a b n lj2 r:=
 KW 9 hw (fun _ hw=>KDL 4 [0]<|KRI 12 14 hw fun hw=>KRn 0 B7 hw fun y3 hw=>KRI 4 14 hw fun hw=>KRn 0 B7 hw fun y4 hw=>KRI 0 14 hw fun hw=>KRS 0 B7 y3 hw fun hw=>KRI 0 14 hw fun hw=>KRS 0 B7 y4 hw fun hw=>KJ 9 [] hw) fun _ hw=>KRr 4 B7 hw
theorem a66(n0:Nat)(data:(List (A0 × A0)))(a:Int)(b:Int)(n:Int)(cmp:GFn)(r:(List (A0 × A0)))(hw:M1 0 n0 a b n data r):J8 n0 data a b n cmp r:=
 fRO (KJ 7 [] hw)
theorem h0s(r:Bool):plain (e86 r)=true:=rfl
theorem c0u(it:b3z)(c1_:Int)(r:Bool)(hw:r=((wU it.Num)==c1_)):c0n it c1_ r:=
 fP (KR 17 hw h0s)
theorem c23(it:b3z)(c1_:Int)(r:Bool)(h:c0n it c1_ r):a6a Tryz.prog [] (.clo (.func 86) [] [.elt (b8l c1_) 0]) [.agg (a2i it)] (aB r):=⟨86,[],[.elt (b8l c1_) 0],rfl,(show plainL [.agg (a2i it),.elt (b8l c1_) 0]=true by simp),h⟩
theorem g4d(r:Bool):plain (h3o r)=true:=rfl
theorem c68(g:B8)(c1_:ByteArray)(r:Bool)(hw:r=(decide (g.Name=c1_))):c9b g c1_ r:=
 fP (KR 16 hw g4d)
theorem d1m(g:B8)(c1_:ByteArray)(r:Bool)(h:c9b g c1_ r):a6a Tryz.prog [] (.clo (.func 100) [] [.elt (f1q c1_) 0]) [.agg (E4 g)] (aB r):=⟨100,[],[.elt (f1q c1_) 0],rfl,(show plainL [.agg (E4 g),.elt (f1q c1_) 0]=true by simp),h⟩
theorem g6g(r:Bool):plain (h38 r)=true:=rfl
theorem b06(y:(Int × A0))(c1_:GOp)(r:Bool)(hw:r=(y.1==c1_.Num)):a6p y c1_ r:=
 fP (KR 17 hw g6g)
theorem b2c(y:(Int × A0))(c1_:GOp)(r:Bool)(h:a6p y c1_ r):a6a Tryz.prog [] (.clo (.func 155) [] [.elt (V3 c1_) 0]) [.agg (W5 y)] (aB r):=⟨155,[],[.elt (V3 c1_) 0],rfl,(show plainL [.agg (W5 y),.elt (V3 c1_) 0]=true by simp),h⟩
theorem g5m(r:Bool):plain (h5n r)=true:=rfl
theorem d2b(o_:GOp)(c1_:Int)(r:Bool)(hw:r=(o_.Num==c1_)):d5t o_ c1_ r:=
 fP (KR 16 hw g5m)
theorem d3v(o_:GOp)(c1_:Int)(r:Bool)(h:d5t o_ c1_ r):a6a Tryz.prog [] (.clo (.func 161) [] [.elt (a9z c1_) 0]) [.agg (V3 o_)] (aB r):=⟨161,[],[.elt (a9z c1_) 0],rfl,(show plainL [.agg (V3 o_),.elt (a9z c1_) 0]=true by simp),h⟩
theorem g6a(r:Bool):plain (h4y r)=true:=rfl
theorem b39(y:(Int × A0))(c1_:GOp)(r:Bool)(hw:r=(y.1==c1_.Num)):b0h y c1_ r:=
 fP (KR 17 hw g6a)
theorem b4c(y:(Int × A0))(c1_:GOp)(r:Bool)(h:b0h y c1_ r):a6a Tryz.prog [] (.clo (.func 185) [] [.elt (V3 c1_) 0]) [.agg (W5 y)] (aB r):=⟨185,[],[.elt (V3 c1_) 0],rfl,(show plainL [.agg (W5 y),.elt (V3 c1_) 0]=true by simp),h⟩
theorem g3m(r:Bool):plain (h5b r)=true:=rfl
theorem b09(q:(A0 × A0))(c1_:(A0 × A0))(r:Bool)(hw:∃y1,b2j q.1 c1_.1 y1/\(r=y1)):a6m q c1_ r:=
 fP (KC 12 hw f88 fun _ hw=>KR 4 hw g3m)
theorem b1w(q:(A0 × A0))(c1_:(A0 × A0))(r:Bool)(h:a6m q c1_ r):a6a Tryz.prog [] (.clo (.func 226) [] [.elt (U7 c1_) 0]) [.agg (U7 q)] (aB r):=⟨226,[],[.elt (U7 c1_) 0],rfl,(show plainL [.agg (U7 q),.elt (U7 c1_) 0]=true by simp),h⟩
end
section
def f68(cmp:GFn)(x y:(A0 × A0))(z:Int):Prop:=a6a Tryz.prog [] (.clo (.func cmp.fn) cmp.fi cmp.cap) [.agg (U7 x),.agg (U7 y)] (.v (.int .i64 z))
def e8w(cmp:GFn):d3x ((A0 × A0)) (f68 cmp) where
 swj:=fun a0 a1 a2 a3 a4 a5 a6=>M1 a0 a1 a2 a3 a4 a5 a6
 sw:=fun a0 a1 a2 a3 a4 a6=>J8 a0 a1 a2 a3 a4 cmp a6
 roj:=fun a0 a1 a2 a3 a5 a6=>J9 a0 a1 a2 a3 cmp a5 a6
 ro:=fun a0 a1 a2 a3 a4 a6=>a0d a0 a1 a2 a3 a4 cmp a6
 in6:=fun a0 a1 a2 a3 a4 a6 a7=>I5 a0 a1 a2 a3 a4 cmp a6 a7
 in4:=fun a0 a1 a2 a3 a5 a6=>I4 a0 a1 a2 a3 cmp a5 a6
 ins:=fun a0 a1 a2 a3 a5=>K5 a0 a1 a2 a3 cmp a5
 sy6:=fun a0 a1 a2 a3 a4=>N2 a0 a1 a2 a3 a4
 sy4:=fun a0 a1 a2 a3 a5 a6=>H9 a0 a1 a2 a3 cmp a5 a6
 sy12:=fun a0 a1 a2 a3 a4=>M6 a0 a1 a2 a3 a4
 sy10:=fun a0 a1 a2 a3 a5 a6=>G8 a0 a1 a2 a3 cmp a5 a6
 sy42:=fun a0 a1 a2 a3 a4 a6 a7=>M7 a0 a1 a2 a3 a4 cmp a6 a7
 sy40:=fun a0 a1 a2 a3 a4 a6 a7=>M3 a0 a1 a2 a3 a4 cmp a6 a7
 sy36:=fun a0 a1 a2 a3 a4 a5 a7 a8=>G7 a0 a1 a2 a3 a4 a5 cmp a7 a8
 sy28:=fun a0 a1 a2 a3 a4 a5 a7 a8=>M2 a0 a1 a2 a3 a4 a5 cmp a7 a8
 sy:=fun a0 a1 a2 a3 a4 a6=>H1 a0 a1 a2 a3 a4 cmp a6
 st14:=fun a0 a1 a2 a3 a4 a6 a7=>O7 a0 a1 a2 a3 a4 cmp a6 a7
 st12:=fun a0 a1 a2 a4 a5=>J1 a0 a1 a2 cmp a4 a5
 st8:=fun a0 a1 a2 a3 a5 a6=>Q3 a0 a1 a2 a3 cmp a5 a6
 st:=fun a0 a1 a2 a4=>a0c a0 a1 a2 cmp a4
 so:=fun a0 a1 a3=>S5 a0 a1 cmp a3
 h_swj:=fun a0 a1 a2 a3 a4 a5 a6 h=>a4g a0 a1 a2 a3 a4 a5 a6 h
 h_sw:=fun a0 a1 a2 a3 a4 a6 h=>a66 a0 a1 a2 a3 a4 cmp a6 h
 h_roj:=fun a0 a1 a2 a3 a5 a6 h=>a63 a0 a1 a2 a3 cmp a5 a6 h
 h_ro:=fun a0 a1 a2 a3 a4 a6 h=>a96 a0 a1 a2 a3 a4 cmp a6 h
 h_in6:=fun a0 a1 a2 a3 a4 a6 a7 h=>a2b a0 a1 a2 a3 a4 cmp a6 a7 h
 h_in4:=fun a0 a1 a2 a3 a5 a6 h=>a2d a0 a1 a2 a3 cmp a5 a6 h
 h_ins:=fun a0 a1 a2 a3 a5 h=>a35 a0 a1 a2 a3 cmp a5 h
 h_sy6:=fun a0 a1 a2 a3 a4 h=>a5m a0 a1 a2 a3 a4 h
 h_sy4:=fun a0 a1 a2 a3 a5 a6 h=>a5b a0 a1 a2 a3 cmp a5 a6 h
 h_sy12:=fun a0 a1 a2 a3 a4 h=>a4q a0 a1 a2 a3 a4 h
 h_sy10:=fun a0 a1 a2 a3 a5 a6 h=>a4n a0 a1 a2 a3 cmp a5 a6 h
 h_sy42:=fun a0 a1 a2 a3 a4 a6 a7 h=>a4f a0 a1 a2 a3 a4 cmp a6 a7 h
 h_sy40:=fun a0 a1 a2 a3 a4 a6 a7 h=>a4t a0 a1 a2 a3 a4 cmp a6 a7 h
 h_sy36:=fun a0 a1 a2 a3 a4 a5 a7 a8 h=>a4b a0 a1 a2 a3 a4 a5 cmp a7 a8 h
 h_sy28:=fun a0 a1 a2 a3 a4 a5 a7 a8 h=>a4o a0 a1 a2 a3 a4 a5 cmp a7 a8 h
 h_sy:=fun a0 a1 a2 a3 a4 a6 h=>a7m a0 a1 a2 a3 a4 cmp a6 h
 h_st14:=fun a0 a1 a2 a3 a4 a6 a7 h=>a57 a0 a1 a2 a3 a4 cmp a6 a7 h
 h_st12:=fun a0 a1 a2 a4 a5 h=>a59 a0 a1 a2 cmp a4 a5 h
 h_st8:=fun a0 a1 a2 a3 a5 a6 h=>a6v a0 a1 a2 a3 cmp a5 a6 h
 h_st:=fun a0 a1 a2 a4 h=>a9r a0 a1 a2 cmp a4 h
 h_so:=fun a0 a1 a3 h=>a34 a0 a1 cmp a3 h
def f6b(cmp:GFn)(x y:(Int × A0))(z:Int):Prop:=a6a Tryz.prog [] (.clo (.func cmp.fn) cmp.fi cmp.cap) [.agg (W5 x),.agg (W5 y)] (.v (.int .i64 z))
def e8y(cmp:GFn):d3x ((Int × A0)) (f6b cmp) where
 swj:=fun a0 a1 a2 a3 a4 a5 a6=>L8 a0 a1 a2 a3 a4 a5 a6
 sw:=fun a0 a1 a2 a3 a4 a6=>J7 a0 a1 a2 a3 a4 cmp a6
 roj:=fun a0 a1 a2 a3 a5 a6=>J5 a0 a1 a2 a3 cmp a5 a6
 ro:=fun a0 a1 a2 a3 a4 a6=>a0h a0 a1 a2 a3 a4 cmp a6
 in6:=fun a0 a1 a2 a3 a4 a6 a7=>I3 a0 a1 a2 a3 a4 cmp a6 a7
 in4:=fun a0 a1 a2 a3 a5 a6=>I7 a0 a1 a2 a3 cmp a5 a6
 ins:=fun a0 a1 a2 a3 a5=>K6 a0 a1 a2 a3 cmp a5
 sy6:=fun a0 a1 a2 a3 a4=>N4 a0 a1 a2 a3 a4
 sy4:=fun a0 a1 a2 a3 a5 a6=>I1 a0 a1 a2 a3 cmp a5 a6
 sy12:=fun a0 a1 a2 a3 a4=>M0 a0 a1 a2 a3 a4
 sy10:=fun a0 a1 a2 a3 a5 a6=>H2 a0 a1 a2 a3 cmp a5 a6
 sy42:=fun a0 a1 a2 a3 a4 a6 a7=>L9 a0 a1 a2 a3 a4 cmp a6 a7
 sy40:=fun a0 a1 a2 a3 a4 a6 a7=>L5 a0 a1 a2 a3 a4 cmp a6 a7
 sy36:=fun a0 a1 a2 a3 a4 a5 a7 a8=>G6 a0 a1 a2 a3 a4 a5 cmp a7 a8
 sy28:=fun a0 a1 a2 a3 a4 a5 a7 a8=>M5 a0 a1 a2 a3 a4 a5 cmp a7 a8
 sy:=fun a0 a1 a2 a3 a4 a6=>G9 a0 a1 a2 a3 a4 cmp a6
 st14:=fun a0 a1 a2 a3 a4 a6 a7=>P0 a0 a1 a2 a3 a4 cmp a6 a7
 st12:=fun a0 a1 a2 a4 a5=>J0 a0 a1 a2 cmp a4 a5
 st8:=fun a0 a1 a2 a3 a5 a6=>Q4 a0 a1 a2 a3 cmp a5 a6
 st:=fun a0 a1 a2 a4=>a0f a0 a1 a2 cmp a4
 so:=fun a0 a1 a3=>S6 a0 a1 cmp a3
 h_swj:=fun a0 a1 a2 a3 a4 a5 a6 h=>a4k a0 a1 a2 a3 a4 a5 a6 h
 h_sw:=fun a0 a1 a2 a3 a4 a6 h=>a6k a0 a1 a2 a3 a4 cmp a6 h
 h_roj:=fun a0 a1 a2 a3 a5 a6 h=>a7d a0 a1 a2 a3 cmp a5 a6 h
 h_ro:=fun a0 a1 a2 a3 a4 a6 h=>a88 a0 a1 a2 a3 a4 cmp a6 h
 h_in6:=fun a0 a1 a2 a3 a4 a6 a7 h=>a2a a0 a1 a2 a3 a4 cmp a6 a7 h
 h_in4:=fun a0 a1 a2 a3 a5 a6 h=>a2c a0 a1 a2 a3 cmp a5 a6 h
 h_ins:=fun a0 a1 a2 a3 a5 h=>a38 a0 a1 a2 a3 cmp a5 h
 h_sy6:=fun a0 a1 a2 a3 a4 h=>a44 a0 a1 a2 a3 a4 h
 h_sy4:=fun a0 a1 a2 a3 a5 a6 h=>a5g a0 a1 a2 a3 cmp a5 a6 h
 h_sy12:=fun a0 a1 a2 a3 a4 h=>a4m a0 a1 a2 a3 a4 h
 h_sy10:=fun a0 a1 a2 a3 a5 a6 h=>a4i a0 a1 a2 a3 cmp a5 a6 h
 h_sy42:=fun a0 a1 a2 a3 a4 a6 a7 h=>a4h a0 a1 a2 a3 a4 cmp a6 a7 h
 h_sy40:=fun a0 a1 a2 a3 a4 a6 a7 h=>a4u a0 a1 a2 a3 a4 cmp a6 a7 h
 h_sy36:=fun a0 a1 a2 a3 a4 a5 a7 a8 h=>a4a a0 a1 a2 a3 a4 a5 cmp a7 a8 h
 h_sy28:=fun a0 a1 a2 a3 a4 a5 a7 a8 h=>a4s a0 a1 a2 a3 a4 a5 cmp a7 a8 h
 h_sy:=fun a0 a1 a2 a3 a4 a6 h=>a7j a0 a1 a2 a3 a4 cmp a6 h
 h_st14:=fun a0 a1 a2 a3 a4 a6 a7 h=>a6c a0 a1 a2 a3 a4 cmp a6 a7 h
 h_st12:=fun a0 a1 a2 a4 a5 h=>a58 a0 a1 a2 cmp a4 a5 h
 h_st8:=fun a0 a1 a2 a3 a5 a6 h=>a6x a0 a1 a2 a3 cmp a5 a6 h
 h_st:=fun a0 a1 a2 a4 h=>a90 a0 a1 a2 cmp a4 h
 h_so:=fun a0 a1 a3 h=>a37 a0 a1 cmp a3 h
attribute [local irreducible] Ok run put d1q br jn pos dr0 dr1 So
theorem a5l(f:Nat):B9 Tryz.prog [] 228 [.sl [] .no,aI 0,aI 0,.clo (.func f) [] []] (.tuple []):=
 fP (KKn 18 (B:=false) (b:=false) rfl<|KR (T:=Unit) (e:=fun _=>.tuple []) (r:=()) (r0:=()) 4 rfl (fun _=>rfl))
theorem a5j(f:Nat):B9 Tryz.prog [] 218 [.sl [] .no,aI 0,.clo (.func f) [] []] (.tuple []):=
 fP (KKn 24 (B:=false) (b:=false) rfl<|KC0 11 (p:=True) ⟨a5l f,trivial⟩ rfl fun _=>KKn 13 (B:=false) (b:=false) rfl<|KR (T:=Unit) (e:=fun _=>.tuple []) (r:=()) (r0:=()) 4 rfl (fun _=>rfl))
theorem a2q(f:Nat):W8 (⟨f,[],[],rfl⟩:GFn):=
 fP (KL 3 B7 []<|KC0 1 (p:=True) ⟨a5j f,trivial⟩ rfl fun _=>KR (T:=Unit) (e:=fun _=>.tuple []) (r:=()) (r0:=()) 1 rfl (fun _=>rfl))
theorem a43(f:Nat):B9 Tryz.prog [] 216 [.sl [] .no,aI 0,aI 0,.clo (.func f) [] []] (.tuple []):=
 fP (KKn 18 (B:=false) (b:=false) rfl<|KR (T:=Unit) (e:=fun _=>.tuple []) (r:=()) (r0:=()) 4 rfl (fun _=>rfl))
theorem a5e(f:Nat):B9 Tryz.prog [] 189 [.sl [] .no,aI 0,.clo (.func f) [] []] (.tuple []):=
 fP (KKn 24 (B:=false) (b:=false) rfl<|KC0 11 (p:=True) ⟨a43 f,trivial⟩ rfl fun _=>KKn 13 (B:=false) (b:=false) rfl<|KR (T:=Unit) (e:=fun _=>.tuple []) (r:=()) (r0:=()) 4 rfl (fun _=>rfl))
theorem a2h(f:Nat):W7 (⟨f,[],[],rfl⟩:GFn):=
 fP (KL 3 C2 []<|KC0 1 (p:=True) ⟨a5e f,trivial⟩ rfl fun _=>KR (T:=Unit) (e:=fun _=>.tuple []) (r:=()) (r0:=()) 1 rfl (fun _=>rfl))
theorem a6l(f:Nat):B9 Tryz.prog [] 195 [.sl [] .no,aI 0,aI 0,.clo (.func f) [] []] (.tuple []):=
 fP (KKn 18 (B:=false) (b:=false) rfl<|KR (T:=Unit) (e:=fun _=>.tuple []) (r:=()) (r0:=()) 4 rfl (fun _=>rfl))
theorem a7a(f:Nat):B9 Tryz.prog [] 166 [.sl [] .no,aI 0,.clo (.func f) [] []] (.tuple []):=
 fP (KKn 24 (B:=false) (b:=false) rfl<|KC0 11 (p:=True) ⟨a6l f,trivial⟩ rfl fun _=>KKn 13 (B:=false) (b:=false) rfl<|KR (T:=Unit) (e:=fun _=>.tuple []) (r:=()) (r0:=()) 4 rfl (fun _=>rfl))
theorem a36(f:Nat):Y3 (⟨f,[],[],rfl⟩:GFn):=
 fP (KL 3 a8t []<|KC0 1 (p:=True) ⟨a7a f,trivial⟩ rfl fun _=>KR (T:=Unit) (e:=fun _=>.tuple []) (r:=()) (r0:=()) 1 rfl (fun _=>rfl))
end
def a4l(x y:Int):Int:=if x<y then -1 else if y<x then 1 else 0
theorem c4r(x y:Int):Q9 x y (a4l x y):=by
 refine c0b _ _ _ ⟨false,b3a _ _ (by simp),false,b3a _ _ (by simp),fun h=>by simp at h,fun _=>⟨fun h=>by simp at h,fun _=>⟨fun h=>?_,fun h=>⟨fun h2=>?_,fun h2=>?_⟩⟩⟩⟩
 ·simp at h;simp[a4l,h]
 ·simp at h h2;simp[a4l,h2];omega
 ·simp at h h2;simp only[a4l];rw[if_neg (by omega),if_neg (by omega)]
theorem S0(x y:Int):(x<y/\a4l x y= -1)\/(x=y/\a4l x y=0)\/(y<x/\a4l x y=1):=by
 unfold a4l;split
 ·exact .inl ⟨by assumption,rfl⟩
 ·split
  ·exact .inr (.inr ⟨by assumption,rfl⟩)
  ·exact .inr (.inl ⟨by omega,rfl⟩)
theorem e54{α:Type}(k:α->Int):Pre (fun x y=>a4l (k x) (k y)) (fun _:α=>True):=by
 refine⟨fun x y _ _=>?_,fun x y z _ _ _ h1 h2=>?_⟩
 ·rcases S0 (k x) (k y) with h|h|h<;>rcases S0 (k y) (k x) with g|g|g<;>simp only[h.2,g.2]<;>omega
 ·rcases S0 (k x) (k y) with h|h|h<;>rcases S0 (k y) (k z) with g|g|g<;>rcases S0 (k x) (k z) with e|e|e<;>simp only[h.2,g.2,e.2]at* <;>omega
theorem e7u(a b:Int × A0):c3r a b (a4l a.1 b.1):=c3c _ _ _ ⟨_,c4r _ _,rfl⟩
theorem e4i(x y:Int × A0):f6b (⟨160,[],[],rfl⟩:GFn) x y (a4l x.1 y.1):=⟨160,[],[],rfl,(show plainL [AV.agg (W5 x),AV.agg (W5 y)]=true by simp[plainL,plain,P3]),e7u x y⟩
def c7n:List (Int × A0)->List (Int × A0)
 |[]=>[]
 |[x]=>[x]
 |x::y::l=>if x.1=y.1 then c7n (y::l) else x::c7n (y::l)
theorem e3z(S:List (Int × A0))(hl:S.length*136<=140737488355328):∀(d i:Nat) (done:List (Int × A0)),S.length - i<=d->i<=S.length->done.length<=i->a4r i S done (done++c7n (S.drop i)):=by
 intro d
 induction d with
 |zero=>
  intro i done hd hi hn;have e:i=S.length:=by omega
  subst e;exact a5n _ _ _ _ ⟨fun h=>by simp at h,fun _=>by simp[c7n]⟩
 |succ d ih=>
  intro i done hd hi hn;rcases Nat.lt_or_ge i S.length with hlt|hge
  ·have e1:wI ((i:Int)+1)=((i+1:Nat):Int):=by rw[wI,D3 (by omega)];omega
   have g1:S[i]? =some S[i]:=List.getElem?_eq_getElem hlt;have dr:S.drop i=S[i]::S.drop (i+1):=List.drop_eq_getElem_cons hlt;refine a5n _ _ _ _ ⟨fun _=>⟨S[i],by simpa using g1,by omega,fun b=>c7n (S.drop i)=if b then S[i]::c7n (S.drop (i+1)) else c7n (S.drop (i+1)),fun b hb=>⟨fun h=>?_,fun h=>?_⟩,fun h=>?_,fun h=>?_⟩,fun h=>by simp at h;omega⟩
   ·subst h;refine⟨by simp;omega,?_⟩;rw[e1,hb];have:=ih (i+1) (done++[S[i]]) (by omega) (by omega) (by simp;omega);simpa using this
   ·subst h;rw[e1,hb];exact ih (i+1) done (by omega) (by omega) (by omega)
   ·rw[e1]at h;simp at h;have:S.drop (i+1)=[]:=List.drop_eq_nil_of_le (by omega);rw[dr,this];rfl
   ·rw[e1]at h ⊢;simp at h;have h2:i+1<S.length:=by omega
    have g2:S[i+1]? =some S[i+1]:=List.getElem?_eq_getElem h2;have dr2:S.drop (i+1)=S[i+1]::S.drop (i+1+1):=List.drop_eq_getElem_cons h2;refine⟨S[i+1],by simpa using g2,by omega,?_⟩;rw[dr,dr2];simp only[c7n];rcases Classical.em (S[i].1=S[i+1].1) with h3|h3
    ·simp[h3]
    ·simp[h3]
  ·exact a5n _ _ _ _ ⟨fun h=>by simp at h;omega,fun _=>by rw[List.drop_eq_nil_of_le hge];simp[c7n]⟩
theorem f3z(l:List (Int × A0))(hl:l.length*136<=140737488355328):∃S,d00 (fun x y:Int × A0=>a4l x.1 y.1) l S/\b11 l (c7n S):=by
 rcases Classical.em (l=[]) with h0|h0
 ·subst h0;refine⟨[],⟨[],.nil,by simp[a3t],rfl⟩,b7c _ _ ⟨fun _=>⟨?_,a2h _,c1j _ _ _ ⟨fun h=>by simp at h,fun _=>rfl⟩⟩,fun h=>(h rfl).elim⟩⟩;exact b1f _ _ fun b _=>⟨fun _=>rfl,fun _=>⟨by simp,rfl⟩⟩
 ·have hpos:0<l.length:=List.length_pos_iff.2 h0;obtain⟨S,h1,h2,h3⟩:=f6g (e8y ⟨160,[],[],rfl⟩) (e54 fun x:Int × A0=>x.1) (fun x y _ _=>e4i x y) (n0:=l.length) (by omega) hpos (a3t l) (by simp[a3t]) (fun _ _=>trivial) (d2q l);rw[c39]at h3;have hlen:(fs S).length=l.length:=by simp[h2.length_eq,a3t]
  refine⟨fs S,⟨S,h1,h2,rfl⟩,b7c _ _ ⟨fun h=>(h0 h).elim,fun _=>⟨a7n _ ⟨h0,hl⟩,fs S,h3,⟨h0,fun h=>?_⟩,hlen,?_⟩⟩⟩
  ·rw[h]at hlen;simp at hlen;omega
  ·have:=e3z (fs S) (by rw[hlen];exact hl) (fs S).length 0 [] (by omega) (by omega) (by simp);simpa using this
theorem f3w(a:Nat):a&&&4503599627370495=a % 4503599627370496:=Nat.and_two_pow_sub_one_eq_mod a 52
theorem e0i(z:Nat)(hz:z<18446744073709551616):b3q z (f19 z):=by
 have e1:F0 .and .u64 (z:Int) 9218868437227405312=((z % 9223372036854775808 / 4503599627370496*4503599627370496:Nat):Int):=by
  have:=b3l z 9218868437227405312 hz (by omega);rw[g0u]at this;exact this
 have e2:F0 .and .u64 (z:Int) 4503599627370495=((z % 4503599627370496:Nat):Int):=by
  have:=b3l z 4503599627370495 hz (by omega);rw[f3w]at this;exact this
 refine c40 _ _ ?_;rw[e1,e2];simp only[Bool.and_eq_true,Bool.and_eq_false_iff,beq_iff_eq,beq_eq_false_iff_ne,bne_iff_ne,bne_eq_false_iff_eq];unfold f19;refine⟨fun h=>?_,fun h=>⟨fun h2=>?_,fun h2=>⟨fun h3=>?_,fun h3=>⟨fun h4=>?_,fun h4=>?_⟩⟩⟩⟩
 all_goals (repeat' split)<;>first|rfl|(exfalso;omega)
theorem d54(z:Nat)(hz:z<18446744073709551616):b6h z (f19 z):=by
 have e:(z:Int).tmod 9223372036854775808=((z % 9223372036854775808:Nat):Int):=rfl;refine c72 _ _ ?_;rw[e];simp only[decide_eq_true_eq,decide_eq_false_iff_not,beq_iff_eq,beq_eq_false_iff_ne];unfold f19;refine⟨fun h=>?_,fun h=>⟨fun h2=>?_,fun h2=>⟨fun h3=>?_,fun h3=>⟨fun h4=>?_,fun h4=>?_⟩⟩⟩⟩
 all_goals (repeat' split)<;>first|rfl|(exfalso;omega)
section
open Go.RowKit Go.ChangeShapes Go.WideShapes Go.ChangeAt
def TyV(P:Program)(n:Nat)(t:TypeId)(av:AV):Prop:=
 match P.underlying t with
 |some (.struct _)|some (.array _ _)=>∃avs,av=.agg avs/\Ty P n t avs
 |_=>Ty P n t [av]
theorem d64{σ:Sg}{avs:List AV}{cs:Array Value}(h:F4 σ avs cs.toList):Rel σ (.agg avs) (.agg cs):=by
 refine .agg avs cs (by simpa using h.1) (fun i av hi=>(h.2 i av hi).1) (fun i=>cs.toList[i]?.getD (.bool false)) (fun i av hi=>?_) (fun i av hi=>?_)
 ·obtain⟨_,x,hx,_⟩:=h.2 i av hi;rw[hx];simpa using hx
 ·obtain⟨_,x,hx,hr⟩:=h.2 i av hi;rw[hx];exact hr
theorem c2m{σ:Sg}{av:AV}{v:Value}(h:F4 σ [av] v.cells.toList)(hv:∀cs,v≠.agg cs):Rel σ av v:=by
 obtain⟨_,x,hx,hr⟩:=h.2 0 av rfl;cases v with
 |agg cs=>exact absurd rfl (hv cs)
 |_=>simp[Value.cells]at hx;subst hx;exact hr
section
variable {H:Type}{enc:TypeId × Value->H}{P:Program}{W:World}{base b0:Nat}{spare:Nat->Bool}{held:Bool}
end
def g1f(P:Program)(t:TypeId):List TypeId:=
 match P.underlying t with
 |some (.slice e)=>[e]
 |some (.struct fs)=>fs.toList.map (·.type)
 |some (.array _ e)=>[e]
 |_=>[]
def e2c:List TypeId->List TypeId->List TypeId
 |l,[]=>l
 |l,t::r=>e2c (if l.contains t then l else l++[t]) r
def d7t(P:Program):Nat->List TypeId->List TypeId
 |0,l=>l
 |n+1,l=>d7t P n (e2c l (l.flatMap (g1f P)))
theorem f0v(σ:Sg):c79 σ [] []:=⟨rfl,fun i av h=>by simp at h⟩
theorem c41{σ:Sg}{a:AV}{v:Value}{l:List AV}{xs:List Value}(h:Rel σ a v)(hr:c79 σ l xs):c79 σ (a::l) (v::xs):=by
 refine⟨by simp[hr.1],fun i av hi=>?_⟩;cases i with
 |zero=>simp at hi;subst hi;exact⟨v,rfl,h⟩
 |succ i=>obtain⟨x,h1,h2⟩:=hr.2 i av (by simpa using hi);exact⟨x,by simpa using h1,h2⟩
theorem f8o{av:AV}(h:nz av=.v (.bool true)):av=.v (.bool true):=by
 cases av with
 |v x=>simpa[nz,nzA,nz1]using h
 |_=>simp[nz,nzA,nz1]at h
theorem e4b{P:Program}{f:FuncId}{args:List AV}{cargs:Array Value}{W:World}(hf:B9 P [] f args (.v (.bool true)))(hr:c79 (bare W b6t) args cargs.toList):
  Calls P f cargs W fun e W'=>e=.returned (.bool true)/\Below W.heap.size W W':=by
 refine(hf.2 W b6t cargs (fun b o h=>h.elim) (fun g cells h=>by cases h) hr).mono fun e W' ⟨av,x,he,hp,hrel,hav⟩=>?_
 rw[f8o hav]at hrel;cases hrel with
 |v _ _=>exact⟨he,hp.below⟩
end
def I64(n:Int):Prop:= -9223372036854775808<=n/\n<=9223372036854775807
def U64(n:Int):Prop:=0<=n/\n<18446744073709551616
def Sz(n:Nat):Prop:=n<=140737488351232
structure e5g(x:H5):Prop where
 num:I64 x.Num
 wire:I64 x.Wire
 bits:U64 x.Bits
 data:Sz x.Data.size
inductive OkD:A0->Prop
 |mk (v:A0) (k:I64 v.Kind) (b:U64 v.Bits) (t:Sz v.Text.size) (l:Sz v.List_.length) (p:Sz v.Pairs.length) (s:Sz v.Slots.length) (r:Sz v.Raws.length)
  (hl:∀x∈v.List_,OkD x) (hk:∀x∈v.Pairs,OkD x.1) (hv:∀x∈v.Pairs,OkD x.2) (hn:∀x∈v.Slots,I64 x.1) (hs:∀x∈v.Slots,OkD x.2) (hr:∀x∈v.Raws,e5g x) (w:Sz (v.List_.length*128)/\Sz (v.Pairs.length*256)/\Sz (v.Slots.length*136)/\Sz (v.Raws.length*40)):OkD v
section
variable {P:Program}{n:Nat}{t:TypeId}{avs:List AV}
def TyL(P:Program)(m:Nat):List TypeId->List AV->Prop
 |[],avs=>avs=[]
 |t::ts,avs=>∃a b,avs=a++b/\Ty P m t a/\TyL P m ts b
theorem f7o{m:Nat}:∀(fs:List Field) (parts:List (List AV)),parts.length=fs.length->(∀(i:Nat) (f:Field),fs[i]? =some f->∃p,parts[i]? =some p/\Ty P m f.type p)->TyL P m (fs.map (·.type)) parts.flatten
 |[],[],_,_=>rfl
 |[],_::_,h,_=>by cases h
 |_::_,[],h,_=>by cases h
 |f::fs,p::parts,hl,h=>by
  obtain⟨q,hq,hty⟩:=h 0 f rfl;cases hq;exact⟨p,parts.flatten,by simp,hty,f7o fs parts (by simpa using hl) fun i g hg=>h (i+1) g (by simpa using hg)⟩
def b9w(P:Program)(t:TypeId):Option (List TypeId):=match P.underlying t with|some (.struct fs)=>some (fs.toList.map (·.type))|_=>none
theorem d1a{ts:List TypeId}(hu:b9w P t=some ts)(h:Ty P n t avs):∃m,n=m+1/\TyL P m ts avs:=by
 cases n with
 |zero=>exact absurd h (by unfold Ty;exact id)
 |succ m=>
  unfold b9w at hu;unfold Ty at h;split at hu
  ·rename_i fs hfs;rw[hfs]at h;obtain⟨parts,rfl,hl,hp⟩:=h;cases hu;exact⟨m,rfl,f7o fs.toList parts (by simpa using hl) (fun i f hf=>hp i f (by simpa using hf))⟩
  ·cases hu
theorem f62{k:IntKind}(hu:P.underlying t=some (.int k))(h:Ty P n t avs):∃m,avs=[.v (.int k m)]/\(Lit.int k m).wf=true:=by
 cases n with
 |zero=>exact absurd h (by unfold Ty;exact id)
 |succ m=>unfold Ty at h;rw[hu]at h;exact h
theorem b28(hu:P.underlying t=some (.int .i64))(h:Ty P n t avs):∃m,avs=[.v (.int .i64 m)]/\I64 m:=by
 obtain⟨m,h1,h2⟩:=f62 hu h;refine⟨m,h1,?_⟩;simp only[Lit.wf,Bool.and_eq_true,decide_eq_true_eq]at h2;exact h2
theorem f7r(hu:P.underlying t=some (.int .u64))(h:Ty P n t avs):∃m,avs=[.v (.int .u64 m)]/\U64 m:=by
 obtain⟨m,h1,h2⟩:=f62 hu h;refine⟨m,h1,?_⟩;simp only[Lit.wf,Bool.and_eq_true,decide_eq_true_eq]at h2;have e1:IntKind.u64.min=0:=by decide
 have e2:IntKind.u64.max=18446744073709551615:=by decide
 unfold U64;omega
theorem f9g(hu:P.underlying t=some .bool)(h:Ty P n t avs):∃b,avs=[.v (.bool b)]:=by
 cases n with
 |zero=>exact absurd h (by unfold Ty;exact id)
 |succ m=>unfold Ty at h;rw[hu]at h;exact h
theorem c29(hu:P.underlying t=some .string)(h:Ty P n t avs):∃s:ByteArray,avs=[.v (.string s)]/\Sz s.size:=by
 cases n with
 |zero=>exact absurd h (by unfold Ty;exact id)
 |succ m=>unfold Ty at h;rw[hu]at h;exact h
theorem d68{e:TypeId}{G:Type}{enc:G->List AV}{Ok:G->Prop}(hu:P.underlying t=some (.slice e)){w:Nat}(hw:P.bytesOf e=w)(hb:1<=P.bytesOf e)(hel:∀m avs,m<n->Ty P m e avs->∃x,avs=enc x/\Ok x)(h:Ty P n t avs):∃l:List G,avs=[.sl (l.map enc) .no]/\(Sz l.length/\Sz (l.length*w))/\∀x∈l,Ok x:=by
 cases n with
 |zero=>exact absurd h (by unfold Ty;exact id)
 |succ m=>
  unfold Ty at h;rw[hu]at h;obtain⟨els,rfl,hl,hty⟩:=h;have hn:els.length<=140737488351232:=Nat.le_trans (Nat.le_mul_of_pos_right _ hb) hl
  have:∀els:List (List AV),(∀el∈els,Ty P m e el)->∃l:List G,els=l.map enc/\∀x∈l,Ok x:=by
   intro els
   induction els with
   |nil=>exact fun _=>⟨[],rfl,fun x h=>by cases h⟩
   |cons a els ih=>
    intro h;obtain⟨l,rfl,hl⟩:=ih fun el hel=>h el (List.mem_cons_of_mem _ hel)
    obtain⟨x,rfl,hx⟩:=hel m a (Nat.lt_succ_self m) (h a List.mem_cons_self);exact⟨x::l,rfl,fun y hy=>(List.mem_cons.1 hy).elim (fun e=>e▸hx) (hl y)⟩
  obtain⟨l,rfl,hok⟩:=this els hty;exact⟨l,rfl,⟨by simpa[Sz]using hn,by subst hw;simpa[Sz]using hl⟩,hok⟩
theorem e4r{e:TypeId}{G:Type}{enc:G->List AV}{Ok:G->Prop}(hu:P.underlying t=some (.slice e))(hb:1<=P.bytesOf e)(hel:∀m avs,m<n->Ty P m e avs->∃x,avs=enc x/\Ok x)(h:Ty P n t avs):∃l:List G,avs=[.sl (l.map enc) .no]/\Sz l.length/\∀x∈l,Ok x:=by
 obtain⟨l,h1,h2,h3⟩:=d68 hu rfl hb hel h;exact⟨l,h1,h2.1,h3⟩
theorem f6t{av:AV}{ts:List TypeId}(hu:b9w P t=some ts)(h:TyV P n t av):∃avs,av=.agg avs/\Ty P n t avs:=by
 unfold TyV at h;unfold b9w at hu;split at hu
 ·rename_i fs hfs;rw[hfs]at h;exact h
 ·cases hu
end
section
variable {n:Nat}{avs:List AV}{av:AV}
theorem g51(h:Ty Tryz.prog n 127 avs):∃x,avs=I8 x/\e5g x:=by
 obtain⟨m,rfl,a1,b1,rfl,h1,a2,b2,rfl,h2,a3,b3,rfl,h3,a4,b4,rfl,h4,rfl⟩:=d1a (ts:=[3,3,29,9]) (by kernel_rfl) h;obtain⟨x1,rfl,k1⟩:=b28 (by kernel_rfl) h1;obtain⟨x2,rfl,k2⟩:=b28 (by kernel_rfl) h2;obtain⟨x3,rfl,k3⟩:=f7r (by kernel_rfl) h3;obtain⟨x4,rfl,k4⟩:=c29 (by kernel_rfl) h4;exact⟨⟨x1,x2,x3,x4⟩,rfl,⟨k1,k2,k3,k4⟩⟩
theorem e2q:∀(n:Nat) (avs:List AV),Ty Tryz.prog n 35 avs->∃x,avs=C0 x/\OkD x:=by
 intro n
 induction n using Nat.strongRecOn with
 |_ n ih=>
  intro avs h;obtain⟨m,rfl,a1,b1,rfl,h1,a2,b2,rfl,h2,a3,b3,rfl,h3,a4,b4,rfl,h4,a5,b5,rfl,h5,a6,b6,rfl,h6,a7,b7,rfl,h7,rfl⟩:=d1a (ts:=[3,29,9,30,31,32,33]) (by kernel_rfl) h;obtain⟨x1,rfl,k1⟩:=b28 (by kernel_rfl) h1;obtain⟨x2,rfl,k2⟩:=f7r (by kernel_rfl) h2;obtain⟨x3,rfl,k3⟩:=c29 (by kernel_rfl) h3;obtain⟨x4,rfl,⟨n4,w4⟩,k4⟩:=d68 (w:=128) (e:=35) (enc:=C0) (Ok:=OkD) (by kernel_rfl) (by kernel_rfl) (of_decide_eq_true (by kernel_rfl)) (fun k a hk ha=>ih k (by omega) a ha) h4
  obtain⟨x5,rfl,⟨n5,w5⟩,k5⟩:=d68 (w:=256) (e:=100) (enc:=A8) (Ok:=fun x=>OkD x.1/\OkD x.2) (by kernel_rfl) (by kernel_rfl) (of_decide_eq_true (by kernel_rfl)) (fun k a hk ha=>by
   obtain⟨q,rfl,a1,b1,rfl,h1,a2,b2,rfl,h2,rfl⟩:=d1a (ts:=[35,35]) (by kernel_rfl) ha;obtain⟨y1,rfl,z1⟩:=ih q (by omega) _ h1;obtain⟨y2,rfl,z2⟩:=ih q (by omega) _ h2;exact⟨(y1,y2),by simp[A8],z1,z2⟩) h5
  obtain⟨x6,rfl,⟨n6,w6⟩,k6⟩:=d68 (w:=136) (e:=86) (enc:=B4) (Ok:=fun x=>I64 x.1/\OkD x.2) (by kernel_rfl) (by kernel_rfl) (of_decide_eq_true (by kernel_rfl)) (fun k a hk ha=>by
   obtain⟨q,rfl,a1,b1,rfl,h1,a2,b2,rfl,h2,rfl⟩:=d1a (ts:=[3,35]) (by kernel_rfl) ha;obtain⟨y1,rfl,z1⟩:=b28 (by kernel_rfl) h1;obtain⟨y2,rfl,z2⟩:=ih q (by omega) _ h2;exact⟨(y1,y2),by simp[B4],z1,z2⟩) h6
  obtain⟨x7,rfl,⟨n7,w7⟩,k7⟩:=d68 (w:=40) (e:=127) (enc:=I8) (Ok:=e5g) (by kernel_rfl) (by kernel_rfl) (of_decide_eq_true (by kernel_rfl)) (fun k a hk ha=>g51 ha) h7;refine⟨⟨x1,x2,x3,x4,x5,x6,x7⟩,?_,.mk _ k1 k2 k3 n4 n5 n6 n7 k4 (fun x hx=>(k5 x hx).1) (fun x hx=>(k5 x hx).2) (fun x hx=>(k6 x hx).1) (fun x hx=>(k6 x hx).2) k7 ⟨w4,w5,w6,w7⟩⟩;rw[U3];rfl
theorem h6l(h:TyV Tryz.prog n 35 av):∃x,av=.agg (A5 x)/\OkD x:=by
 obtain⟨avs,rfl,g⟩:=f6t (ts:=[3,29,9,30,31,32,33]) (by kernel_rfl) h;obtain⟨x,rfl,k⟩:=e2q _ _ g;exact⟨x,by rw[U3],k⟩
theorem h6y(h:TyV Tryz.prog n 9 av):∃x:ByteArray,av=.v (.string x)/\Sz x.size:=by
 have hu:Tryz.prog.underlying 9=some .string:=by kernel_rfl
 unfold TyV at h;rw[hu]at h;obtain⟨x,hx,k⟩:=c29 hu h;exact⟨x,by simpa using hx,k⟩
end
def b53{α:Type}(c:α->α->Int):List α->List α->Int
 |[],[]=>0
 |[],_::_=> -1
 |_::_,[]=>1
 |x::l,y::m=>if c x y≠0 then c x y else b53 c l m
theorem c8w{α:Type}{J:Int->List α->List α->Int->Prop}{C:α->α->Int->Prop}(c:α->α->Int)
  (b8i:∀i s t r,((decide (i<(s.length:Int)))=true->∃y4,s[i.toNat]? =some y4/\0<=i/\(((decide ((t.length:Int)<=i))=true->r=1)/\((decide ((t.length:Int)<=i))=false->∃y5,t[i.toNat]? =some y5/\0<=i/\(∃y6,C y4 y5 y6/\(((y6 !=0)=true->r=y6)/\((y6 !=0)=false->J (wI (i+1)) s t r))))))/\((decide (i<(s.length:Int)))=false->((decide ((s.length:Int)<(t.length:Int)))=true->r=(-1))/\((decide ((s.length:Int)<(t.length:Int)))=false->r=0))->J i s t r)
  (s t:List α) (hs:s.length<=140737488351232) (hC:∀x∈s,∀y∈t,C x y (c x y)):J 0 s t (b53 c s t):=by
 have key:∀(d i:Nat),s.length - i<=d->i<=s.length->i<=t.length->J i s t (b53 c (s.drop i) (t.drop i)):=by
  intro d
  induction d with
  |zero=>
   intro i hd hi hj;have e:i=s.length:=by omega
   subst e;refine b8i _ _ _ _ ⟨fun h=>by simp at h,fun _=>⟨fun h=>?_,fun h=>?_⟩⟩
   ·simp at h;rw[List.drop_length,List.drop_eq_getElem_cons h];rfl
   ·simp at h;rw[List.drop_length,List.drop_eq_nil_of_le h];rfl
  |succ d ih=>
   intro i hd hi hj;rcases Nat.lt_or_ge i s.length with hlt|hge
   ·have e1:wI ((i:Int)+1)=((i+1:Nat):Int):=by rw[wI,D3 (by omega)];omega
    have ds:s.drop i=s[i]::s.drop (i+1):=List.drop_eq_getElem_cons hlt;refine b8i _ _ _ _ ⟨fun _=>⟨s[i],by simp,by omega,fun h=>?_,fun h=>?_⟩,fun h=>by simp at h;omega⟩
    ·simp at h;rw[ds,List.drop_eq_nil_of_le h];rfl
    ·simp at h;have dt:t.drop i=t[i]::t.drop (i+1):=List.drop_eq_getElem_cons h;refine⟨t[i],by simp,by omega,c s[i] t[i],hC _ (List.getElem_mem _) _ (List.getElem_mem _),fun h2=>?_,fun h2=>?_⟩
     ·simp at h2;rw[ds,dt];simp[b53,h2]
     ·simp at h2;rw[ds,dt,e1];have:=ih (i+1) (by omega) (by omega) (by omega);simpa[b53,h2]using this
   ·have e:i=s.length:=by omega
    subst e;refine b8i _ _ _ _ ⟨fun h=>by simp at h,fun _=>⟨fun h=>?_,fun h=>?_⟩⟩
    ·simp at h;rw[List.drop_length,List.drop_eq_getElem_cons h];rfl
    ·simp at h;rw[List.drop_length,List.drop_eq_nil_of_le h];rfl
 simpa using key s.length 0 (by omega) (by omega) (by omega)
def orL:List Int->Int
 |[]=>0
 |x::l=>if x≠0 then x else orL l
theorem f3o(l:List Int)(hl:l.length<=1000):b1m l (orL l):=by
 refine c9k _ _ ?_
 have key:∀(d i:Nat),l.length - i<=d->i<=l.length->b1g i l (orL (l.drop i)):=by
  intro d
  induction d with
  |zero=>
   intro i hd hi;exact a6o _ _ _ ⟨fun h=>by simp at h;omega,fun _=>by rw[List.drop_eq_nil_of_le (by omega)];rfl⟩
  |succ d ih=>
   intro i hd hi;rcases Nat.lt_or_ge i l.length with hlt|hge
   ·have e1:wI ((i:Int)+1)=((i+1:Nat):Int):=by rw[wI,D3 (by omega)];omega
    have ds:l.drop i=l[i]::l.drop (i+1):=List.drop_eq_getElem_cons hlt;refine a6o _ _ _ ⟨fun _=>⟨l[i],by simp,by omega,fun h=>?_,fun h=>?_⟩,fun h=>by simp at h;omega⟩
    ·simp at h;rw[ds];simp[orL,h]
    ·simp at h;rw[ds,e1];have:=ih (i+1) (by omega) (by omega);simpa[orL,h]using this
   ·exact a6o _ _ _ ⟨fun h=>by simp at h;omega,fun _=>by rw[List.drop_eq_nil_of_le hge];rfl⟩
 simpa using key l.length 0 (by omega) (by omega)
def d5q(x y:ByteArray):Int:=if Op.bytesLess x.toList y.toList=true then -1 else if(!(Op.bytesLess x.toList y.toList||x.toList==y.toList))=true then 1 else 0
theorem e6e(x y:ByteArray):a17 x y (d5q x y):=by
 refine b6l _ _ _ ⟨false,a9j _ _ (by simp),false,a9j _ _ (by simp),fun h=>by simp at h,fun _=>⟨fun h=>by simp at h,fun _=>⟨fun h=>?_,fun h=>⟨fun h2=>?_,fun h2=>?_⟩⟩⟩⟩
 ·simp[d5q,h]
 ·unfold d5q;rw[if_neg (by rw[h];simp),if_pos h2]
 ·unfold d5q;rw[if_neg (by rw[h];simp),if_neg (by rw[h2];simp)]
theorem d9n(x y:Int):Z9 x y (a4l x y):=by
 refine b6e _ _ _ ⟨false,a9i _ _ (by simp),false,a9i _ _ (by simp),fun h=>by simp at h,fun _=>⟨fun h=>by simp at h,fun _=>⟨fun h=>?_,fun h=>⟨fun h2=>?_,fun h2=>?_⟩⟩⟩⟩
 ·simp at h;simp[a4l,h]
 ·simp at h h2;simp[a4l,h2];omega
 ·simp at h h2;simp only[a4l];rw[if_neg (by omega),if_neg (by omega)]
def b7g(x:Int):Int:=if((f19 x.toNat:Int)==0)=true then 18446744073709551615 else if((F0 .and .u64 x 9223372036854775808) !=0)=true then F0 .xor .u64 (IntKind.u64.max) x else F0 .or .u64 x 9223372036854775808
theorem e1a(x:Int)(hx:U64 x):b2y x (b7g x):=by
 have hc:=e0i x.toNat (by have:=hx.2;omega);rw[show((x.toNat:Nat):Int)=x from Int.toNat_of_nonneg hx.1]at hc;refine c56 _ _ ⟨_,hc,fun h=>?_,fun h=>⟨fun h2=>?_,fun h2=>?_⟩⟩
 ·unfold b7g;rw[if_pos h]
 ·unfold b7g;rw[if_neg (by rw[h];simp),if_pos h2]
 ·unfold b7g;rw[if_neg (by rw[h];simp),if_neg (by rw[h2];simp)]
def isS(k:Int):Bool:=(decide (1<=k))&&(decide (k<=9))
def cmpS(a b:A0):Int:=
 if((a.Kind==7)||(a.Kind==8))=true then d5q a.Text b.Text
 else if((a.Kind==2)||(a.Kind==3))=true then a4l (wI a.Bits) (wI b.Bits)
 else if(a.Kind==6)=true then a4l (b7g a.Bits) (b7g b.Bits)
 else a4l a.Bits b.Bits
theorem nt{b:Bool}(h:b=false):¬b=true:=by rw[h];simp
theorem f92(a b:A0)(hk:a.Kind=b.Kind)(hs:isS a.Kind=true)(ha:U64 a.Bits)(hb:U64 b.Bits):c5h a b (cmpS a b):=by
 refine d1b _ _ _ ⟨fun h=>by simp[hk]at h,fun _=>⟨true,a81 _ _ hs.symm,fun h=>by simp at h,fun _=>⟨_,b4l _ _ rfl,fun h=>⟨_,e6e _ _,?_⟩,fun h=>⟨fun h2=>⟨_,c4r _ _,?_⟩,fun h2=>⟨fun h3=>⟨_,e1a _ ha,_,e1a _ hb,_,d9n _ _,?_⟩,fun h3=>⟨_,d9n _ _,?_⟩⟩⟩⟩⟩⟩
 ·unfold cmpS;rw[if_pos h]
 ·unfold cmpS;rw[if_neg (nt h),if_pos h2]
 ·unfold cmpS;rw[if_neg (nt h),if_neg (nt h2),if_pos h3]
 ·unfold cmpS;rw[if_neg (nt h),if_neg (nt h2),if_neg (nt h3)]
def e6s(x y:H5):Int:=orL [a4l x.Num y.Num,a4l x.Wire y.Wire,a4l x.Bits y.Bits,d5q x.Data y.Data]
def Y2:Nat->A0->A0->Int
 |0,_,_=>0
 |n+1,a,b=>
  if a.Kind≠b.Kind then a4l a.Kind b.Kind
  else if isS a.Kind=true then cmpS a b
  else if a.Kind=11 then b53 (Y2 n) a.List_ b.List_
  else if a.Kind=12 then b53 (fun x y=>orL [Y2 n x.1 y.1,Y2 n x.2 y.2]) a.Pairs b.Pairs
  else if a.Kind=10 then orL [b53 (fun x y=>orL [a4l x.1 y.1,Y2 n x.2 y.2]) a.Slots b.Slots,b53 e6s a.Raws b.Raws]
  else 0
def b2q(v:A0):b9q:=
 if isS v.Kind=true then .a_order_one v else if(v.Kind==11)=true then .a_order_list v.List_ else if(v.Kind==12)=true then .a_order_pairs v.Pairs else if(v.Kind==10)=true then .a_order_parts ⟨v.Slots,v.Raws⟩ else .nil
theorem e46(v:A0):a8w v (b2q v):=by
 refine c10 _ _ ⟨_,a81 _ _ rfl,fun h=>?_,fun h=>⟨fun h1=>?_,fun h1=>⟨fun h2=>?_,fun h2=>⟨fun h3=>?_,fun h3=>?_⟩⟩⟩⟩
 ·unfold b2q isS;rw[if_pos h]
 ·unfold b2q isS;rw[if_neg (nt h),if_pos h1]
 ·unfold b2q isS;rw[if_neg (nt h),if_neg (nt h1),if_pos h2]
 ·unfold b2q isS;rw[if_neg (nt h),if_neg (nt h1),if_neg (nt h2),if_pos h3]
 ·unfold b2q isS;rw[if_neg (nt h),if_neg (nt h1),if_neg (nt h2),if_neg (nt h3)]
theorem OkD.inv{v:A0}(h:OkD v):I64 v.Kind/\U64 v.Bits/\(Sz v.List_.length/\Sz v.Pairs.length/\Sz v.Slots.length/\Sz v.Raws.length)/\(∀x∈v.List_,OkD x)/\(∀x∈v.Pairs,OkD x.1/\OkD x.2)/\(∀x∈v.Slots,OkD x.2):=by
 cases h with
 |mk _ k b t l p s r hl hk hv hn hs hr w=>exact⟨k,b,⟨l,p,s,r⟩,hl,fun x hx=>⟨hk x hx,hv x hx⟩,hs⟩
theorem OkD.w{v:A0}(h:OkD v):Sz (v.List_.length*128)/\Sz (v.Pairs.length*256)/\Sz (v.Slots.length*136)/\Sz (v.Raws.length*40):=by
 cases h with
 |mk _ _ _ _ _ _ _ _ _ _ _ _ _ _ w=>exact w
theorem g6t(x y:H5):c6m x y (e6s x y):=c5y _ _ _ ⟨_,c4r _ _,_,c4r _ _,_,d9n _ _,_,e6e _ _,_,f3o _ (by simp),rfl⟩
theorem szL{a x:A0}(h:x∈a.List_):SizeOf.sizeOf x<SizeOf.sizeOf a:=by
 have:=List.sizeOf_lt_of_mem h;cases a;simp at this ⊢;omega
theorem szP{a:A0}{x:A0 × A0}(h:x∈a.Pairs):SizeOf.sizeOf x.1<SizeOf.sizeOf a/\SizeOf.sizeOf x.2<SizeOf.sizeOf a:=by
 have:=List.sizeOf_lt_of_mem h;cases a;cases x;simp at this ⊢;omega
theorem szS{a:A0}{x:Int × A0}(h:x∈a.Slots):SizeOf.sizeOf x.2<SizeOf.sizeOf a:=by
 have:=List.sizeOf_lt_of_mem h;cases a;cases x;simp at this ⊢;omega
theorem szV(a:A0):0<SizeOf.sizeOf a:=by cases a;simp;omega
theorem c6v:∀(n:Nat) (a b:A0),OkD a->OkD b->SizeOf.sizeOf a<=n->a9y a b (Y2 n a b)
 |0,a,b,_,_,h=>by have:=szV a;omega
 |n+1,a,b,ha,hb,hn=>by
  obtain⟨_,hab,⟨la,pa,sa,ra⟩,hla,hpa,hsa⟩:=ha.inv;obtain⟨_,hbb,_,hlb,hpb,hsb⟩:=hb.inv;refine d19 _ _ _ ⟨fun h=>⟨_,c4r _ _,?_⟩,fun h=>⟨_,e46 b,_,e46 a,?_⟩⟩
  ·simp at h;rw[Y2,if_pos h]
  have hk:a.Kind=b.Kind:=by simpa using h
  rw[Y2,if_neg (by simp[hk])]
  by_cases h1:isS a.Kind=true
  ·have ea:b2q a=.a_order_one a:=by unfold b2q;rw[if_pos h1]
   rw[if_pos h1,ea];refine⟨fun y hy=>?_,fun hn=>(hn a rfl).elim⟩;cases hy;exact⟨_,f92 a b hk h1 hab hbb,rfl⟩
  ·rw[if_neg h1]
   by_cases h2:a.Kind=11
   ·have ea:b2q a=.a_order_list a.List_:=by unfold b2q;rw[if_neg h1,if_pos (by simp[h2])]
    have eb:b2q b=.a_order_list b.List_:=by unfold b2q;rw[if_neg (by rw[<-hk];exact h1),if_pos (by simp[<-hk,h2])]
    rw[if_pos h2,ea,eb];refine⟨fun y hy=>(by cases hy),fun _=>⟨fun y hy=>?_,fun hn=>(hn _ rfl).elim⟩⟩;cases hy;refine⟨_,rfl,_,V5 _ _ _ _ (c8w (J:=fun i s t r=>D1 i s t (⟨170,[],[],rfl⟩:GFn) r) (Y2 n) (fun i s t r hw=>T4 _ _ _ _ _ hw) _ _ la fun x hx y hy=>?_),rfl⟩;exact⟨170,[],[],rfl,(show plainL [AV.agg (A5 x),AV.agg (A5 y)]=true by simp[plainL,plain,B0]),c6v n x y (hla x hx) (hlb y hy) (by have:=szL hx;omega)⟩
   ·rw[if_neg h2]
    by_cases h3:a.Kind=12
    ·have ea:b2q a=.a_order_pairs a.Pairs:=by unfold b2q;rw[if_neg h1,if_neg (by simp[h2]),if_pos (by simp[h3])]
     have eb:b2q b=.a_order_pairs b.Pairs:=by unfold b2q;rw[if_neg (by rw[<-hk];exact h1),if_neg (by simp[<-hk,h2]),if_pos (by simp[<-hk,h3])]
     rw[if_pos h3,ea,eb];refine⟨fun y hy=>(by cases hy),fun _=>⟨fun y hy=>(by cases hy),fun _=>⟨fun y hy=>?_,fun hn=>(hn _ rfl).elim⟩⟩⟩;cases hy;refine⟨_,rfl,_,V6 _ _ _ _ (c8w (J:=fun i s t r=>D2 i s t (⟨201,[],[],rfl⟩:GFn) r) (fun x y=>orL [Y2 n x.1 y.1,Y2 n x.2 y.2]) (fun i s t r hw=>T5 _ _ _ _ _ hw) _ _ pa fun x hx y hy=>?_),rfl⟩;have hz:=szP hx;exact⟨201,[],[],rfl,(show plainL [AV.agg (U7 x),AV.agg (U7 y)]=true by simp[plainL,plain,O8]),c3o _ _ _ ⟨_,c6v n _ _ (hpa x hx).1 (hpb y hy).1 (by omega),_,c6v n _ _ (hpa x hx).2 (hpb y hy).2 (by omega),_,f3o _ (by simp),rfl⟩⟩
    ·rw[if_neg h3]
     by_cases h4:a.Kind=10
     ·have ea:b2q a=.a_order_parts ⟨a.Slots,a.Raws⟩:=by unfold b2q;rw[if_neg h1,if_neg (by simp[h2]),if_neg (by simp[h3]),if_pos (by simp[h4])]
      have eb:b2q b=.a_order_parts ⟨b.Slots,b.Raws⟩:=by unfold b2q;rw[if_neg (by rw[<-hk];exact h1),if_neg (by simp[<-hk,h2]),if_neg (by simp[<-hk,h3]),if_pos (by simp[<-hk,h4])]
      rw[if_pos h4,ea,eb];refine⟨fun y hy=>(by cases hy),fun _=>⟨fun y hy=>(by cases hy),fun _=>⟨fun y hy=>(by cases hy),fun _=>⟨fun y hy=>?_,fun hn=>(hn _ rfl).elim⟩⟩⟩⟩;cases hy;refine⟨_,rfl,_,a0k _ _ _ _ (c8w (J:=fun i s t r=>F2 i s t (⟨204,[],[],rfl⟩:GFn) r) (fun x y=>orL [a4l x.1 y.1,Y2 n x.2 y.2]) (fun i s t r hw=>Z6 _ _ _ _ _ hw) _ _ sa fun x hx y hy=>?_),_,a13 _ _ _ _ (c8w (J:=fun i s t r=>F8 i s t (⟨206,[],[],rfl⟩:GFn) r) e6s (fun i s t r hw=>a0z _ _ _ _ _ hw) _ _ ra fun x hx y hy=>?_),_,f3o _ (by simp),rfl⟩
      ·have hz:=szS hx;exact⟨204,[],[],rfl,(show plainL [AV.agg (W5 x),AV.agg (W5 y)]=true by simp[plainL,plain,P3]),c3i _ _ _ ⟨_,c4r _ _,_,c6v n _ _ (hsa x hx) (hsb y hy) (by omega),_,f3o _ (by simp),rfl⟩⟩
      ·exact⟨206,[],[],rfl,(show plainL [AV.agg (I8 x),AV.agg (I8 y)]=true by simp[plainL,plain,Q8]),g6t x y⟩
     ·have ea:b2q a=.nil:=by unfold b2q;rw[if_neg h1,if_neg (by simp[h2]),if_neg (by simp[h3]),if_neg (by simp[h4])]
      rw[if_neg h4,ea];exact⟨fun y hy=>(by cases hy),fun _=>⟨fun y hy=>(by cases hy),fun _=>⟨fun y hy=>(by cases hy),fun _=>⟨fun y hy=>(by cases hy),fun _=>rfl⟩⟩⟩⟩
theorem f9v(a:Nat)(h:a<18446744073709551616):F0 .xor .u64 (IntKind.u64.max) (a:Int)=((18446744073709551615 - a:Nat):Int):=by
 have e3:F0 .xor .u64 (IntKind.u64.max) (a:Int)=IntKind.u64.wrap (((BitVec.allOnes 64 ^^^ BitVec.ofInt 64 (a:Int)).toNat:Nat):Int):=rfl;rw[e3,BitVec.xor_comm];exact c6s a h
theorem f48(a:Nat)(h:a<18446744073709551616):(F0 .and .u64 (a:Int) 9223372036854775808 !=0)=decide (9223372036854775808<=a):=by
 have e:=b3l a 9223372036854775808 h (by omega);rw[show((9223372036854775808:Nat):Int)=9223372036854775808 from rfl]at e;rw[e]
 by_cases h1:9223372036854775808<=a
 ·have ea:a=(a - 9223372036854775808)|||9223372036854775808:=by
   have e2:=e2g (a - 9223372036854775808) 1 63 (by rw[show(2:Nat) ^ 63=9223372036854775808 by decide];omega);rw[Nat.one_mul,show(2:Nat) ^ 63=9223372036854775808 by decide]at e2;rw[e2];omega
  have e3:a&&&9223372036854775808=9223372036854775808:=by
   rw[ea];apply Nat.eq_of_testBit_eq;intro i;rw[Nat.testBit_and,Nat.testBit_or];generalize Nat.testBit (a - 9223372036854775808) i=t;generalize Nat.testBit 9223372036854775808 i=u;cases t<;>cases u<;>rfl
  rw[e3];simp[h1]
 ·have e3:a&&&9223372036854775808=0:=by
   apply Nat.eq_of_testBit_eq;intro i;rw[Nat.testBit_and,show(9223372036854775808:Nat)=2 ^ 63 by decide,Nat.testBit_two_pow]
   by_cases hi:63=i
   ·subst hi;rw[Nat.testBit_lt_two_pow (by rw[show(2:Nat) ^ 63=9223372036854775808 by decide];omega)];simp
   ·simp[hi]
  rw[e3];simp[h1]
theorem f9m(a:Nat)(h:a<9223372036854775808):F0 .or .u64 (a:Int) 9223372036854775808=((a+9223372036854775808:Nat):Int):=by
 have e:=c14 a 9223372036854775808 (by omega) (by omega);rw[show((9223372036854775808:Nat):Int)=9223372036854775808 from rfl]at e;rw[e];have e2:=e2g a 1 63 (by rw[show(2:Nat) ^ 63=9223372036854775808 by decide];exact h);rw[Nat.one_mul,show(2:Nat) ^ 63=9223372036854775808 by decide]at e2;rw[e2]
theorem e9p(x:Int)(hx:U64 x):b7g x=if f19 x.toNat=0 then 18446744073709551615 else if 9223372036854775808<=x then wU (18446744073709551615 - x) else wU (x+9223372036854775808):=by
 obtain⟨h1,h2⟩:=hx;have hz:x=(x.toNat:Int):=by omega
 generalize x.toNat=z at hz;subst hz;unfold b7g;rw[f48 z (by omega),f9v z (by omega)];have e0:(Int.toNat (z:Int))=z:=by omega
 rw[e0]
 by_cases h3:f19 z=0
 ·rw[if_pos h3,if_pos (by simp[h3])]
 ·rw[if_neg h3,if_neg (by simp;omega)]
  by_cases h4:9223372036854775808<=z
  ·rw[if_pos (by simpa using h4),if_pos (by omega),wU,b2o (by omega)];omega
  ·rw[if_neg (by simpa using h4),if_neg (by omega),f9m z (by omega),wU,b2o (by omega)];omega
def f00(v:A0):Int:=if v.Kind=2\/v.Kind=3 then wU (v.Bits+9223372036854775808) else if v.Kind≠6 then v.Bits else b7g v.Bits
theorem c8r(v:A0)(hb:U64 v.Bits):b1k v (f00 v):=by
 have hz:v.Bits=(v.Bits.toNat:Int):=by have:=hb.1;omega
 have hc:=d54 v.Bits.toNat (by have:=hb.2;omega);rw[<-hz]at hc;unfold f00;rw[e9p _ hb];refine d0i _ _ ⟨_,c4p _ _ rfl,fun h=>?_,fun h=>⟨fun h2=>?_,fun h2=>⟨_,hc,fun h3=>?_,fun h3=>⟨fun h4=>?_,fun h4=>?_⟩⟩⟩⟩
 all_goals simp only[Bool.or_eq_true,Bool.or_eq_false_iff,beq_iff_eq,beq_eq_false_iff_ne,bne_iff_ne,bne_eq_false_iff_eq,decide_eq_true_eq,decide_eq_false_iff_not,ne_eq]at*
 ·rw[if_pos h]
 ·rw[if_neg (by omega),if_pos h2]
 ·rw[if_neg (by omega),if_neg (by omega),if_pos (by omega)]
 ·rw[if_neg (by omega),if_neg (by omega),if_neg (by omega),if_pos h4]
 ·rw[if_neg (by omega),if_neg (by omega),if_neg (by omega),if_neg h4]
theorem e3h{x y x' y':Int}(h1:x<y↔x'<y')(h2:y<x↔y'<x'):a4l x y=a4l x' y':=by
 unfold a4l;simp only[h1,h2]
theorem d0g(a b:A0)(hk:a.Kind=b.Kind)(ht:((a.Kind==7)||(a.Kind==8))=false)(ha:U64 a.Bits)(hb:U64 b.Bits):cmpS a b=a4l (f00 a) (f00 b):=by
 unfold cmpS f00;rw[if_neg (nt ht),<-hk]
 by_cases h1:a.Kind=2\/a.Kind=3
 ·rw[if_pos (by simpa using h1),if_pos h1,if_pos h1];obtain⟨a1,a2⟩:=ha;obtain⟨b1,b2⟩:=hb
  have key:∀z:Int,0<=z->z<18446744073709551616->(z<9223372036854775808/\wI z=z/\wU (z+9223372036854775808)=z+9223372036854775808)\/(9223372036854775808<=z/\wI z=z - 18446744073709551616/\wU (z+9223372036854775808)=z - 9223372036854775808):=by
   intro z z1 z2;rcases Int.lt_or_le z 9223372036854775808 with h|h
   ·exact .inl ⟨h,by rw[wI,D3 (by omega)],by rw[wU,b2o (by omega)]⟩
   ·refine .inr ⟨h,?_,?_⟩
    ·simp only[wI,IntKind.wrap,IntKind.bits,IntKind.signed,Bool.true_and,decide_eq_true_eq];split<;>rename_i hq<;>first|omega|(simp at hq;omega)
    ·simp only[wU,IntKind.wrap,IntKind.bits,IntKind.signed,Bool.false_and,Bool.false_eq_true,if_false];omega
  rcases key a.Bits a1 a2 with⟨p1,p2,p3⟩|⟨p1,p2,p3⟩<;>rcases key b.Bits b1 b2 with⟨q1,q2,q3⟩|⟨q1,q2,q3⟩<;>rw[p2,p3,q2,q3]<;>exact e3h (by omega) (by omega)
 ·rw[if_neg (by simpa using h1),if_neg h1,if_neg h1]
  by_cases h2:a.Kind=6
  ·rw[if_pos (by simp[h2]),if_neg (by simp[h2]),if_neg (by simp[h2])]
  ·rw[if_neg (by simp[h2]),if_pos h2,if_pos h2]
theorem c0y(x y:Int):S3 x y (a4l x y):=by
 refine c5v _ _ _ ⟨fun h=>?_,fun h=>⟨fun h2=>?_,fun h2=>?_⟩⟩
 ·simp at h;simp[a4l,h]
 ·simp at h h2;simp[a4l,h2];omega
 ·simp at h h2;simp only[a4l];rw[if_neg (by omega),if_neg (by omega)]
theorem f3m(a b:A0)(hk:a.Kind=b.Kind)(ha:U64 a.Bits)(hb:U64 b.Bits):d0q a b (if isS a.Kind=true then cmpS a b else 0):=by
 have tx:a8a a.Kind ((a.Kind==7)||(a.Kind==8)):=b7d _ _ rfl;refine d18 _ _ _ ⟨fun h=>by simp[hk]at h,fun _=>⟨fun h=>by simp[hk]at h,fun _=>⟨isS a.Kind,b6c _ _ rfl,fun h=>?_,fun h=>?_⟩⟩⟩
 ·rw[if_neg (by simpa using h)]
 have hs:isS a.Kind=true:=by simpa using h
 rw[if_pos hs];refine⟨_,tx,fun h1=>?_,fun h1=>⟨_,tx,fun h2=>?_,fun h2=>⟨_,tx,fun h3=>?_,fun h3=>⟨_,c8r a ha,_,c8r b hb,fun h4=>?_,fun h4=>⟨_,c8r a ha,_,c8r b hb,fun h5=>?_,fun h5=>?_⟩⟩⟩⟩⟩
 ·rw[Bool.and_eq_true]at h1;unfold cmpS d5q;rw[if_pos h1.1,if_pos h1.2]
 ·rw[Bool.and_eq_true]at h2;rw[h2.1,Bool.true_and]at h1;unfold cmpS d5q;rw[if_pos h2.1,if_neg (nt h1),if_pos h2.2]
 ·rw[h3,Bool.true_and]at h1 h2;unfold cmpS d5q;rw[if_pos h3,if_neg (nt h1),if_neg (nt h2)]
 ·rw[d0g a b hk h3 ha hb];simp at h4;simp[a4l,h4]
 ·rw[d0g a b hk h3 ha hb];simp at h4 h5;simp[a4l,h5];omega
 ·rw[d0g a b hk h3 ha hb];simp at h4 h5;simp only[a4l];rw[if_neg (by omega),if_neg (by omega)]
end Go.Proofs.YtidmmngcijapcaaGreat.Lift
