/- Part 6 of the texts that prove RowCutsEnd. -/
import Derived.Test.YtidmmngcijapcaaGreatRowCutsEndP4
import Derived.Test.YtidmmngcijapcaaGreatRowCutsEndP3
import Derived.Test.YtidmmngcijapcaaGreatRowCutsEndP2
namespace Go.Proofs.YtidmmngcijapcaaGreat.Lift
open Go.RowKit
set_option linter.unusedVariables false
set_option linter.unusedSimpArgs false
set_option linter.unnecessarySimpa false
set_option linter.unusedSectionVars false
set_option maxRecDepth 100000
section
attribute [local irreducible] Ok run put c9l br jn pos dr0 dr1 So
attribute [-simp] List.map_take List.map_drop List.map_append List.map_set List.map_replicate List.map_cons List.map_map
attribute [local simp] plain plainL a9l a6x Z8 low lowL lowLL K8 G3 G8 F9 K1 H3 G5 G4 L7 T7 a0m T6 a1o O7 T4 G1 H7 T5 K3 B5 F1 O6 E5 O2 E6 P6 K7 S0 K6 U8 N9 W0 Q5 F2 S5 K5 H8 C5 M4 N8 O9 H4 F7 X1 U1 Z1 W1 G0 Q7 a0n a0c a57 a3c c5a d58 c7s c7e a87 b0q c8j c8d b66 c1n e5m eFn b8u b3y b39 b3k b84 b40 b3o b4e b80 c21 c4n b30 b82 b0y b33 b34 b4h b4o b4c b4m b3s a5s a7v a7t a0l a7j a7g a29 a75 b0w c4c b8h b8j b4j b43 b3z b8f b3f b4d b4u b8t c4i c26 b4v b8s b0t b4r b3x b3l b4y b4q b41 b45 a5r a7h a7l a0p a7x a71 a3b a7y b03 c4j b3p b8q b0u b4k b36 b3h b4t b4f b42 b4s a5j a7i a7w a0t a74 a7n a3h a72 b02 d0c
theorem d4e (r:(A7 × (A0 × Int))):plain (g2e r)=true /\ (D0 r.1).all ok1=true /\ lowL [true] 0 (D0 r.1)=true /\ (J5 r.1).length=0:=⟨f4r r,I8 _,a42 _,rfl⟩
def X2 (ij1:Int) (y1:(A7 × (Int × Int))) (lj2:(List B6)) (lj3:(List V5)) (sj4:ByteArray) (ij5:Int) (ij6:Int) (ij7:Int) (ij8:Int) (ij9:Int) (o_:GOp) (lj10:(List (A0 × A0))) (r:(A7 × (A0 × Int))):Prop:=J Tryz.prog 116 (.io 0 (g2e r) (D0 r.1) (J5 r.1)) 8 [(24,aI ij1),(23,aI y1.2.1),(6,.ptr 3 0),(4,.ptr 2 0),(3,.ptr 1 0),(0,.ptr 0 0)] ⟨[some [.sl (List.map E2 lj2) .no,.sl (List.map Q4 lj3) .no,aS sj4,aI ij5,aI ij6,aI ij7,aI ij8,aI ij9],some (W3 o_),some zV,some [aI 12,aU 0,aE,.nil,.sl (List.map B4 lj10) (.own 0),.nil,.nil]],[(lj10.length,14)],[]⟩
theorem b5c {ij1:Int} {y1:(A7 × (Int × Int))} {lj2:(List B6)} {lj3:(List V5)} {sj4:ByteArray} {ij5:Int} {ij6:Int} {ij7:Int} {ij8:Int} {ij9:Int} {o_:GOp} {lj10:(List (A0 × A0))}:a9l [true,true,true,true] 1 [(24,aI ij1),(23,aI y1.2.1),(6,.ptr 3 0),(4,.ptr 2 0),(3,.ptr 1 0),(0,.ptr 0 0)]=true /\ a6x [true,true,true,true] 1 [some [.sl (List.map E2 lj2) .no,.sl (List.map Q4 lj3) .no,aS sj4,aI ij5,aI ij6,aI ij7,aI ij8,aI ij9],some (W3 o_),some zV,some [aI 12,aU 0,aE,.nil,.sl (List.map B4 lj10) (.own 0),.nil,.nil]]=true:=⟨by first|rfl|simp,by first|rfl|simp⟩
theorem a5n (ij1:Int) (y1:(A7 × (Int × Int))) (lj2:(List B6)) (lj3:(List V5)) (sj4:ByteArray) (ij5:Int) (ij6:Int) (ij7:Int) (ij8:Int) (ij9:Int) (o_:GOp) (lj10:(List (A0 × A0))) (r:(A7 × (A0 × Int))) (hw:((decide (ij1<y1.2.1))=true ->∃y4,G2 (⟨(⟨lj2,lj3⟩:A5),(⟨sj4,ij5,ij6,ij7,ij8,ij9⟩:A3)⟩:A7) (⟨0,(⟨#[]⟩:ByteArray),(⟨#[]⟩:ByteArray),0,0,o_.Key,(-1),0⟩:GOp) y4 /\ (((y4.2.2 !=0)=true ->r=(y4.1,(⟨12,0,(⟨#[]⟩:ByteArray),([]:(List A0)),lj10,([]:(List (Int × A0))),([]:(List Q0))⟩:A0),y4.2.2)) /\ ((y4.2.2 !=0)=false ->∃R2:Bool ->Prop,(∀bz2:Bool,R2 bz2 ->((bz2=true ->r=(y4.1,(⟨12,0,(⟨#[]⟩:ByteArray),([]:(List A0)),lj10,([]:(List (Int × A0))),([]:(List Q0))⟩:A0),5)) /\ (bz2=false ->∃y8,G2 y4.1 o_ y8 /\ (((y8.2.2 !=0)=true ->r=(y8.1,(⟨12,0,(⟨#[]⟩:ByteArray),([]:(List A0)),lj10,([]:(List (Int × A0))),([]:(List Q0))⟩:A0),y8.2.2)) /\ ((y8.2.2 !=0)=false ->(lj10.length+[(y4.2.1,y8.2.1)].length)*256<=140737488355328 /\ (X2 (wI (ij1+1)) y1 y8.1.p.Progs y8.1.p.Enums y8.1.c.Data y8.1.c.At y8.1.c.End y8.1.c.Depth y8.1.c.Nodes y8.1.c.Text o_ (lj10++[(y4.2.1,y8.2.1)]) r)))))) /\ (((decide (0<ij1))=true ->∃y6,lj10[(wI (ij1 - 1)).toNat]? =some y6 /\ 0<=(wI (ij1 - 1)) /\ (∃y7,a8z y6.1 y4.2.1 y7 /\ (R2 (decide (0<=y7))))) /\ ((decide (0<ij1))=false ->R2 false))))) /\ ((decide (ij1<y1.2.1))=false ->r=((⟨(⟨lj2,lj3⟩:A5),(⟨sj4,ij5,ij6,ij7,ij8,ij9⟩:A3)⟩:A7),(⟨12,0,(⟨#[]⟩:ByteArray),([]:(List A0)),lj10,([]:(List (Int × A0))),([]:(List Q0))⟩:A0),0))):X2 ij1 y1 lj2 lj3 sj4 ij5 ij6 ij7 ij8 ij9 o_ lj10 r:=
 KW 7 hw (fun _ hw=>KIO 16 hw c8e fun _ hw=>KW 15 hw (fun _ hw=>KRi 15 hw d4e) fun _ hw=>KD 4 [3,4]<|KQ 3 11 kB hw (fun _ hw=>KW 3 hw (fun _ hw=>KRi 14 hw d4e) fun _ hw=>KIO 6 hw c8e fun _ hw=>KW 15 hw (fun _ hw=>KRi 15 hw d4e) fun _ hw=>KA 9 C7 hw mE fun hw=>KJl 10 [] hw b5c) (fun _ key _ hw=>KI 4 C7 hw fun _ hw=>KC 3 hw e0o fun _ hw=>KE 2 key hw) fun _ key _ hw=>KE 11 key hw) fun _ hw=>KRi 13 hw d4e
theorem b7d (r_:A7) (o_:GOp) (r:(A7 × (A0 × Int))) (hw:∃y1,a4s r_ y1 /\ (((y1.2.2 !=0)=true ->r=(y1.1,(⟨12,0,(⟨#[]⟩:ByteArray),([]:(List A0)),([]:(List (A0 × A0))),([]:(List (Int × A0))),([]:(List Q0))⟩:A0),y1.2.2)) /\ ((y1.2.2 !=0)=false ->X2 0 y1 y1.1.p.Progs y1.1.p.Enums y1.1.c.Data y1.1.c.At y1.1.c.End y1.1.c.Depth y1.1.c.Nodes y1.1.c.Text o_ ([]:List (A0 × A0)) r))):Y8 r_ o_ r:=
 fIO (KIO 17 hw f3z fun _ hw=>KW 14 hw (fun _ hw=>KRi 10 hw d4e) fun _ hw=>KOb 11 3 4 14<|KJ 0 [] hw)
theorem d0a (r:(A7 × (A0 × Bool × Int))):plain (g3l r)=true /\ (D0 r.1).all ok1=true /\ lowL [true] 0 (D0 r.1)=true /\ (J5 r.1).length=0:=⟨f4k r,I8 _,a42 _,rfl⟩
def a06 (ij1:Int) (v:A0) (r_:A7) (y1:(Int × A3 × Int)) (g:B6) (o_:GOp) (r:(A7 × (A0 × Bool × Int))):Prop:=J Tryz.prog 117 (.io 0 (g3l r) (D0 r.1) (J5 r.1)) 14 [(45,aI ij1),(44,aI (v.Slots.length:Int)),(43,.sl (List.map B3 v.Slots) .no),(8,.ptr 4 0),(7,.ptr 3 0),(5,.ptr 1 0),(0,.ptr 0 0)] ⟨[some [.sl (List.map E2 r_.p.Progs) .no,.sl (List.map Q4 r_.p.Enums) .no,aS y1.2.1.Data,aI y1.2.1.At,aI y1.2.1.End,aI y1.2.1.Depth,aI y1.2.1.Nodes,aI y1.2.1.Text],some (E2 g),none,some (W3 o_),some zV],[],[]⟩
theorem a6c {ij1:Int} {v:A0} {r_:A7} {y1:(Int × A3 × Int)} {g:B6} {o_:GOp}:a9l [true,true,false,true,true] 0 [(45,aI ij1),(44,aI (v.Slots.length:Int)),(43,.sl (List.map B3 v.Slots) .no),(8,.ptr 4 0),(7,.ptr 3 0),(5,.ptr 1 0),(0,.ptr 0 0)]=true /\ a6x [true,true,false,true,true] 0 [some [.sl (List.map E2 r_.p.Progs) .no,.sl (List.map Q4 r_.p.Enums) .no,aS y1.2.1.Data,aI y1.2.1.At,aI y1.2.1.End,aI y1.2.1.Depth,aI y1.2.1.Nodes,aI y1.2.1.Text],some (E2 g),none,some (W3 o_),some zV]=true:=⟨by first|rfl|simp,by first|rfl|simp⟩
theorem a5o (ij1:Int) (v:A0) (r_:A7) (y1:(Int × A3 × Int)) (g:B6) (o_:GOp) (r:(A7 × (A0 × Bool × Int))) (hw:((decide (ij1<(v.Slots.length:Int)))=true ->∃y8,v.Slots[ij1.toNat]? =some y8 /\ 0<=ij1 /\ (∃y9,b98 g y8.1 y9 /\ ((((y9.2&&(decide (0<=o_.Union)))&&(y9.1.Union==o_.Union))=true ->r=((⟨r_.p,y1.2.1⟩:A7),(⟨0,0,(⟨#[]⟩:ByteArray),([]:(List A0)),([]:(List (A0 × A0))),([]:(List (Int × A0))),([]:(List Q0))⟩:A0),false,15)) /\ (((y9.2&&(decide (0<=o_.Union)))&&(y9.1.Union==o_.Union))=false ->a06 (wI (ij1+1)) v r_ y1 g o_ r)))) /\ ((decide (ij1<(v.Slots.length:Int)))=false ->∃y6,G2 (⟨r_.p,y1.2.1⟩:A7) o_ y6 /\ (∃R2:Bool ->Prop,(∀bz2:Bool,R2 bz2 ->((bz2=true ->r=(y6.1,y6.2.1,true,5)) /\ (bz2=false ->r=(y6.1,y6.2.1,true,y6.2.2)))) /\ ((((y6.2.2==0)&&(o_.Card==3))=true ->∃y7,a6t y6.2.1 y7 /\ (R2 y7)) /\ (((y6.2.2==0)&&(o_.Card==3))=false ->R2 false))))):a06 ij1 v r_ y1 g o_ r:=
 KW 7 hw (fun _ hw=>KI 6 C4 hw fun _ hw=>KC 10 hw e24 fun _ hw=>KT 12 4<|KT 1 6<|KW 2 hw (fun _ hw=>KRi 14 hw d0a) fun _ hw=>KJl 8 [] hw a6c) fun _ hw=>KIO 9 hw c8e fun _ hw=>KT 14 4<|KQ 1 3 kB hw (fun _ hw=>KW 2 hw (fun _ hw=>KRi 14 hw d0a) fun _ hw=>KRi 12 hw d0a) (fun _ key _ hw=>KC 1 hw g1e fun _ hw=>KE 1 key hw) fun _ key _ hw=>KE 3 key hw
theorem b6s (r_:A7) (g:B6) (v:A0) (o_:GOp) (r:(A7 × (A0 × Bool × Int))) (hw:∃y1,b5k r_.c y1 /\ (((y1.2.2 !=0)=true ->r=(r_,(⟨0,0,(⟨#[]⟩:ByteArray),([]:(List A0)),([]:(List (A0 × A0))),([]:(List (Int × A0))),([]:(List Q0))⟩:A0),false,y1.2.2)) /\ ((y1.2.2 !=0)=false ->((decide (1<y1.1))=true ->r=(r_,(⟨0,0,(⟨#[]⟩:ByteArray),([]:(List A0)),([]:(List (A0 × A0))),([]:(List (Int × A0))),([]:(List Q0))⟩:A0),false,5)) /\ ((decide (1<y1.1))=false ->((y1.1==0)=true ->r=((⟨r_.p,y1.2.1⟩:A7),(⟨0,0,(⟨#[]⟩:ByteArray),([]:(List A0)),([]:(List (A0 × A0))),([]:(List (Int × A0))),([]:(List Q0))⟩:A0),false,0)) /\ ((y1.1==0)=false ->a06 0 v r_ y1 g o_ r))))):Y6 r_ g v o_ r:=
 fIO (KC 16 hw h0c fun _ hw=>KW 17 hw (fun _ hw=>KRi 11 hw d0a) fun _ hw=>KW 9 hw (fun _ hw=>KRi 10 hw d0a) fun _ hw=>KW 18 hw (fun _ hw=>KRi 10 hw d0a) fun _ hw=>KL 7 C4 v.Slots<|KJl 5 [] hw a6c)
theorem g0g (r:Bool):plain (g9s r)=true:=rfl
theorem c3w (c:A3) (r:Bool) (hw:r=(((decide (0<=c.At))&&(decide (c.At<=c.End)))&&(decide (c.End<=(c.Data.size:Int))))):b16 c r:=
 fP (KT 12 6<|KT 1 7<|KR 4 hw g0g)
theorem f4e (r:Bool):plain (h0e r)=true:=rfl
theorem c4m (v:A0) (r:Bool) (hw:∃y1,d1t v.Kind y1 /\ ((((y1&&(v.Bits==0))&&(decide (v.Text=(⟨#[]⟩:ByteArray))))=true ->∃y2,b8x v y2 /\ (r=y2)) /\ (((y1&&(v.Bits==0))&&(decide (v.Text=(⟨#[]⟩:ByteArray))))=false ->r=false))):b65 v r:=
 fP (KC 10 hw g86 fun _ hw=>KT 1 4<|KT 1 4<|KW 1 hw (fun _ hw=>KC 1 hw g9q fun _ hw=>KR 5 hw f4e) fun _ hw=>KR 7 hw f4e)
theorem e1y (r:Bool):plain (g77 r)=true:=rfl
def a4r (sj1:ByteArray) (r:Bool):Prop:=JP Tryz.prog 130 (g77 r) 5 [(0,aS sj1)]
theorem a86 (sj1:ByteArray) (r:Bool) (hw:((!(decide (sj1=(⟨#[]⟩:ByteArray))))=true ->∃y4,b90 sj1 y4 /\ (∃y5,b13 y4.2 y5 /\ ((y5=true ->r=false) /\ (y5=false ->a4r y4.1 r)))) /\ ((!(decide (sj1=(⟨#[]⟩:ByteArray))))=false ->r=true)):a4r sj1 r:=
 KW 8 hw (fun _ hw=>KC 6 hw g5l fun _ hw=>KC 11 hw g2i fun _ hw=>KW 2 hw (fun _ hw=>KR 11 hw e1y) fun _ hw=>KJ 8 [] hw) fun _ hw=>KR 11 hw e1y
theorem c1r (s:ByteArray) (r:Bool) (hw:∃y1,b6w s y1 /\ (((!y1)=true ->r=false) /\ ((!y1)=false ->a4r s r))):b0d s r:=
 fP (KC 9 hw g5t fun _ hw=>KW 3 hw (fun _ hw=>KR 7 hw e1y) fun _ hw=>KJ 5 [] hw)
theorem f32 (r:Bool):plain (h09 r)=true:=rfl
theorem c4f (s:ByteArray) (r:Bool) (hw:∃y1,a9g s y1 /\ ((y1=true ->∃y2,b13 s y2 /\ (r=(!y2))) /\ (y1=false ->r=false))):b2d s r:=
 fP (KC 8 hw f6j fun _ hw=>KW 1 hw (fun _ hw=>KC 1 hw g2i fun _ hw=>KR 6 hw f32) fun _ hw=>KR 8 hw f32)
theorem f4j (r:Bool):plain (g8j r)=true:=rfl
def a0u (ij1:Int) (l:(List b9b)) (n:Int) (r:Bool):Prop:=JP Tryz.prog 132 (g8j r) 3 [(5,aI ij1),(0,.sl (List.map b1b l) .no),(1,aI n)]
theorem a68 (ij1:Int) (l:(List b9b)) (n:Int) (r:Bool) (hw:((decide (ij1<(l.length:Int)))=true ->∃y4,l[ij1.toNat]? =some y4 /\ 0<=ij1 /\ (((decide (y4.From<=n))=true ->∃y6,l[ij1.toNat]? =some y6 /\ 0<=ij1 /\ (((decide (n<=y6.To))=true ->r=true) /\ ((decide (n<=y6.To))=false ->a0u (wI (ij1+1)) l n r))) /\ ((decide (y4.From<=n))=false ->a0u (wI (ij1+1)) l n r))) /\ ((decide (ij1<(l.length:Int)))=false ->r=false)):a0u ij1 l n r:=
 KL 6 c83 l<|KW 3 hw (fun _ hw=>KI 8 c83 hw fun _ hw=>KW 5 hw (fun _ hw=>KI 3 c83 hw fun _ hw=>KW 6 hw (fun _ hw=>KR 11 hw f4j) fun _ hw=>KJ 9 [] hw) fun _ hw=>KJ 20 [] hw) fun _ hw=>KR 11 hw f4j
theorem b9r (l:(List b9b)) (n:Int) (r:Bool) (hw:a0u 0 l n r):b25 l n r:=
 fP (KJ 13 [] hw)
theorem c84 (r:Int):plain (g6x r)=true:=rfl
def a4b (ij1:Int) (l:(List b1x)) (target:Int) (r:Int):Prop:=JP Tryz.prog 133 (g6x r) 6 [(5,aI ij1),(0,.sl (List.map a7d l) .no),(1,aI target)]
theorem b1v (ij1:Int) (l:(List b1x)) (target:Int) (r:Int) (hw:((decide (ij1<(l.length:Int)))=true ->∃y7,l[ij1.toNat]? =some y7 /\ 0<=ij1 /\ (∃y8,b8o y7.Name y8 /\ (((y8==0)=true ->r=8) /\ ((y8==0)=false ->∃y9,l[ij1.toNat]? =some y9 /\ 0<=ij1 /\ (∃y10,c3r y9.Name target y10 /\ (((!y10)=true ->r=1) /\ ((!y10)=false ->∃y11,l[ij1.toNat]? =some y11 /\ 0<=ij1 /\ (∃y12,c0v y11 y12 /\ (((!y12)=true ->r=12) /\ ((!y12)=false ->∃R2:Bool ->Prop,(∀bz2:Bool,R2 bz2 ->((bz2=true ->r=11) /\ (bz2=false ->((decide (0<ij1))=true ->∃y17,l[ij1.toNat]? =some y17 /\ 0<=ij1 /\ (∃y18,l[(wI (ij1 - 1)).toNat]? =some y18 /\ 0<=(wI (ij1 - 1)) /\ (((decide (y17.Name=y18.Name))=true ->r=9) /\ ((decide (y17.Name=y18.Name))=false ->a4b (wI (ij1+1)) l target r)))) /\ ((decide (0<ij1))=false ->a4b (wI (ij1+1)) l target r)))) /\ (((decide (0<ij1))=true ->∃y14,l[ij1.toNat]? =some y14 /\ 0<=ij1 /\ (∃y15,l[(wI (ij1 - 1)).toNat]? =some y15 /\ 0<=(wI (ij1 - 1)) /\ (R2 (Op.bytesLess y14.Name.toList y15.Name.toList)))) /\ ((decide (0<ij1))=false ->R2 false)))))))))))) /\ ((decide (ij1<(l.length:Int)))=false ->r=0)):a4b ij1 l target r:=
 KL 6 b3w l<|KW 3 hw (fun _ hw=>KI 9 b3w hw fun _ hw=>KC 2 hw f9c fun _ hw=>KW 3 hw (fun _ hw=>KR 12 hw c84) fun _ hw=>KI 7 b3w hw fun _ hw=>KC 3 hw g67 fun _ hw=>KW 3 hw (fun _ hw=>KR 12 hw c84) fun _ hw=>KI 7 b3w hw fun _ hw=>KC 1 hw g68 fun _ hw=>KW 3 hw (fun _ hw=>KR 12 hw c84) fun _ hw=>KD 4 []<|KQ 3 13 kB hw (fun _ hw=>KW 3 hw (fun _ hw=>KR 12 hw c84) fun _ hw=>KD 3 []<|KW 3 hw (fun _ hw=>KI 2 b3w hw fun _ hw=>KI 5 b3w hw fun _ hw=>KW 7 hw (fun _ hw=>KR 11 hw c84) fun _ hw=>KJ 9 [] hw) fun _ hw=>KJ 26 [] hw) (fun _ key _ hw=>KI 2 b3w hw fun _ hw=>KI 5 b3w hw fun _ hw=>KE 4 key hw) fun _ key _ hw=>KE 13 key hw) fun _ hw=>KR 11 hw c84
theorem c5l (l:(List b1x)) (target:Int) (r:Int) (hw:((decide (8<(l.length:Int)))=true ->r=3) /\ ((decide (8<(l.length:Int)))=false ->a4b 0 l target r)):c0a l target r:=
 fP (KL 9 b3w l<|KW 3 hw (fun _ hw=>KR 7 hw c84) fun _ hw=>KJ 10 [] hw)
theorem f3r (r:Bool):plain (g6d r)=true:=rfl
def a0k (ij1:Int) (ij2:Int) (g:B6) (r:Bool):Prop:=J Tryz.prog 134 (.ret (g6d r)) 4 [(4,aI ij1),(3,aI ij2),(1,.ptr 0 0)] ⟨[some (E2 g)],[],[]⟩
theorem a96 (ij1:Int) (ij2:Int) (g:B6) (r:Bool) (hw:((decide (ij1<(g.Ops.length:Int)))=true ->∃y2,g.Ops[ij1.toNat]? =some y2 /\ 0<=ij1 /\ (((y2.Union==ij2)=true ->a0k (wI (ij1+1)) (wI (ij2+1)) g r) /\ ((y2.Union==ij2)=false ->∃R1:Bool ->Prop,(∀bz1:Bool,R1 bz1 ->((bz1=true ->r=false) /\ (bz1=false ->a0k (wI (ij1+1)) ij2 g r))) /\ (((y2.Union !=(-1))=true ->((ij1==0)=true ->R1 true) /\ ((ij1==0)=false ->∃y5,g.Ops[(wI (ij1 - 1)).toNat]? =some y5 /\ 0<=(wI (ij1 - 1)) /\ (R1 (y5.Union !=y2.Union)))) /\ ((y2.Union !=(-1))=false ->R1 false))))) /\ ((decide (ij1<(g.Ops.length:Int)))=false ->r=(g.Unions==ij2))):a0k ij1 ij2 g r:=
 KL 7 c0n g.Ops<|KW 3 hw (fun _ hw=>KI 9 c0n hw fun _ hw=>KW 14 hw (fun _ hw=>KJ 14 [] hw) fun _ hw=>KQ 5 14 kB hw (fun _ hw=>KW 3 hw (fun _ hw=>KR 12 hw f3r) fun _ hw=>KJ 10 [] hw) (fun _ key _ hw=>KW 3 hw (fun _ hw=>KE 11 key hw) fun _ hw=>KI 4 c0n hw fun _ hw=>KE 6 key hw) fun _ key _ hw=>KE 14 key hw) fun _ hw=>KR 15 hw f3r
theorem c3e (g:B6) (r:Bool) (hw:a0k 0 0 g r):b7w g r:=
 fP (KJ 19 [] hw)
theorem f2x (r:Bool):plain (g7b r)=true:=rfl
def a13 (bj1:Bool) (p:A5) (o_:GOp) (r:Bool):Prop:=J Tryz.prog 135 (.ret (g7b r)) 5 [(5,aB bj1),(3,.ptr 1 0),(2,.ptr 0 0)] ⟨[some (B7 p),some (W3 o_)],[],[]⟩
theorem b5m (bj1:Bool) (p:A5) (o_:GOp) (r:Bool) (hw:∃R2:Bool ->Prop,(∀bz2:Bool,R2 bz2 ->(r=(bz2&&((o_.Union==(-1))||(o_.Card==2))))) /\ ((bj1=true ->∃y3,b70 p o_ y3 /\ (R2 y3)) /\ (bj1=false ->R2 false))):a13 bj1 p o_ r:=
 KQ 4 4 kB hw (fun bz2 hw=>KT2 1 9 bz2 (fun z=>aB (z&&((o_.Union==(-1))||(o_.Card==2)))) (fun _ key=>KT 4 4<|KE2 1 key) (fun _ key=>KE2 9 key)<|KR 4 hw f2x) (fun _ key _ hw=>KC 2 hw g70 fun _ hw=>KE 1 key hw) fun _ key _ hw=>KE 4 key hw
theorem b9f (p:A5) (o_:GOp) (r:Bool) (hw:∃y1,b56 o_.Alias y1 /\ ((((((((!y1)||(decide (4096<(o_.Alias.size:Int))))||(decide (o_.Card<1)))||(decide (5<o_.Card)))||(decide (o_.Kind<1)))||(decide (10<o_.Kind)))=true ->r=false) /\ (((((((!y1)||(decide (4096<(o_.Alias.size:Int))))||(decide (o_.Card<1)))||(decide (5<o_.Card)))||(decide (o_.Kind<1)))||(decide (10<o_.Kind)))=false ->((o_.Card !=5)=true ->a13 (o_.Key==0) p o_ r) /\ ((o_.Card !=5)=false ->a13 (((decide (1<=o_.Key))&&(decide (o_.Key<=5)))||(o_.Key==7)) p o_ r)))):b08 p o_ r:=
 fP (KC 12 hw h0w fun _ hw=>KT 2 5<|KT 1 4<|KT 1 4<|KT 1 4<|KT 1 4<|KW 2 hw (fun _ hw=>KR 7 hw f2x) fun _ hw=>KT 8 4<|KT 1 4<|KW 11 hw (fun _ hw=>KJ 7 [] hw) fun _ hw=>KJ 2 [] hw)
theorem f3d (r:(Int × Int)):plain (g5o r)=true:=(c6m (A6 rfl (A6 rfl rfl)))
def a09 (ij1:Int) (ij2:Int) (s:ByteArray) (r:(Int × Int)):Prop:=JP Tryz.prog 136 (g5o r) 7 [(9,aI ij1),(4,aU ij2),(0,aS s)]
theorem a5k (ij1:Int) (ij2:Int) (s:ByteArray) (r:(Int × Int)) (hw:((decide (ij1<8))=true ->(0<=ij1 /\ ij1<(s.size:Int)) /\ (0<=(wI (8*ij1)) /\ (a09 (wI (ij1+1)) (F4 .or .u64 ij2 (wU ((wU (F0 s ij1.toNat))*2 ^ min (wI (8*ij1)).toNat IntKind.u64.bits))) s r))) /\ ((decide (ij1<8))=false ->r=(ij2,0))):a09 ij1 ij2 s r:=
 KW 7 hw (fun _ hw=>KIS 14 hw fun hw=>KB 3 hw fun hw=>KJ 10 [] hw) fun _ hw=>KR 13 hw f3d
theorem b7r (s:ByteArray) (r:(Int × Int)) (hw:((decide ((s.size:Int)<8))=true ->r=(0,4)) /\ ((decide ((s.size:Int)<8))=false ->a09 0 0 s r)):a9r s r:=
 fP (KW 14 hw (fun _ hw=>KR 8 hw f3d) fun _ hw=>KJ 15 [] hw)
theorem f2u (r:ByteArray):plain (g9u r)=true:=rfl
theorem c5x (c:A3) (n:Int) (r:ByteArray) (hw:∃y1,b16 c y1 /\ (((!y1)=true ->r=(⟨#[]⟩:ByteArray)) /\ ((!y1)=false ->(0<=c.At /\ c.At<=(min c.End (wI (c.At+n))) /\ (min c.End (wI (c.At+n)))<=(c.Data.size:Int)) /\ (r=(c.Data.extract c.At.toNat (min c.End (wI (c.At+n))).toNat))))):b5e c n r:=
 fP (KC 10 hw f9b fun _ hw=>KW 3 hw (fun _ hw=>KR 7 hw f2u) fun _ hw=>KSS 15 hw fun hw=>KR 4 hw f2u)
theorem f9k (r:(List Int)):plain (g9m r)=true:=(psl (K1 r))
theorem c3p (c:A3) (n:Int) (r:(List Int)) (hw:(0<=c.At /\ c.At<=(wI (c.At+n)) /\ (wI (c.At+n))<=(c.Data.size:Int)) /\ ((0<=(0:Int) /\ (0:Int)<=n /\ n<=((bI (c.Data.extract c.At.toNat (wI (c.At+n)).toNat)).length:Int)) /\ (r=(((bI (c.Data.extract c.At.toNat (wI (c.At+n)).toNat)).take n.toNat).drop (0:Int).toNat)))):c4s c n r:=
 fP (KSS 16 hw fun hw=>KY 0<|KSF 8 c9u hw fun hw=>KR 4 hw f9k)
theorem f3e (r:Int):plain (g8x r)=true:=rfl
def b8d (s:ByteArray) (nj1:Nat) (r:Int):Prop:=J Tryz.prog 139 (.ret (g8x r)) 3 [(6,.ptr 0 0),(0,aS s)] ⟨[some [.it s nj1]],[],[]⟩
theorem b6y (s:ByteArray) (nj1:Nat) (r:Int) (hw:(nj1<s.size ->∃y2,c7v s ((nj1:Nat):Int) (Utf8.decode s nj1).1 y2 /\ ((y2=true ->r=((nj1:Nat):Int)) /\ (y2=false ->b8d s (nj1+(Utf8.decode s nj1).2) r))) /\ (¬nj1<s.size ->r=(-1))):b8d s nj1 r:=
 KX 3 hw (fun _ hw=>KC 21 hw g6k fun _ hw=>KW 2 hw (fun _ hw=>KR 11 hw f3e) fun _ hw=>KJ 3 [] hw) fun _ hw=>KR 16 hw f3e
theorem d5b (s:ByteArray) (r:Int) (hw:b8d s 0 r):e5r s r:=
 fP (KJ 14 [] hw)
theorem e5f (r:(Int × Int × Int)):plain (g83 r)=true:=(c6m (A6 rfl (A6 rfl (A6 rfl rfl))))
def a8a (ij1:Int) (ij2:Int) (s:ByteArray) (r:(Int × Int × Int)):Prop:=JP Tryz.prog 140 (g83 r) 5 [(6,aI ij1),(5,aU ij2),(0,aS s)]
theorem b97 (ij1:Int) (ij2:Int) (s:ByteArray) (r:(Int × Int × Int)) (hw:((ij1==(s.size:Int))=true ->r=(0,0,4)) /\ ((ij1==(s.size:Int))=false ->(0<=ij1 /\ ij1<(s.size:Int)) /\ ((((ij1==9)&&(decide (1<(F0 s ij1.toNat))))=true ->r=(0,0,6)) /\ (((ij1==9)&&(decide (1<(F0 s ij1.toNat))))=false ->0<=(wI (7*ij1)) /\ (((decide ((F0 s ij1.toNat)<128))=true ->r=((F4 .or .u64 ij2 (wU ((wU (F4 .and .u8 (F0 s ij1.toNat) 127))*2 ^ min (wI (7*ij1)).toNat IntKind.u64.bits))),(wI (ij1+1)),0)) /\ ((decide ((F0 s ij1.toNat)<128))=false ->a8a (wI (ij1+1)) (F4 .or .u64 ij2 (wU ((wU (F4 .and .u8 (F0 s ij1.toNat) 127))*2 ^ min (wI (7*ij1)).toNat IntKind.u64.bits))) s r)))))):a8a ij1 ij2 s r:=
 KW 11 hw (fun _ hw=>KR 14 hw e5f) fun _ hw=>KIS 6 hw fun hw=>KT 9 3<|KW 2 hw (fun _ hw=>KR 14 hw e5f) fun _ hw=>KB 10 hw fun hw=>KW 19 hw (fun _ hw=>KR 17 hw e5f) fun _ hw=>KJ 4 [] hw
theorem c5s (s:ByteArray) (r:(Int × Int × Int)) (hw:a8a 0 0 s r):b9q s r:=
 fP (KJ 24 [] hw)
theorem g1x (r:Bool):plain (h0o r)=true:=rfl
theorem b46 (kind:Int) (r:Bool) (hw:r=((kind==7)||(kind==8))):b7p kind r:=
 fP (KT 10 3<|KR 4 hw g1x)
theorem f3g (r:Int):plain (g8r r)=true:=rfl
def M9 (ij1:Int) (s:(List b24)) (f:GFn) (r:Int):Prop:=JP Tryz.prog 142 (g8r r) 3 [(8,aI ij1),(7,aI (s.length:Int)),(0,.sl (List.map a2e s) .no),(1,.clo (.func f.fn) f.fi f.cap)]
theorem I4 (ij1:Int) (s:(List b24)) (f:GFn) (r:Int) (hw:((decide (ij1<(s.length:Int)))=true ->∃y3,s[ij1.toNat]? =some y3 /\ 0<=ij1 /\ (∃y4,a50 Tryz.prog [] (.clo (.func f.fn) f.fi f.cap) [.agg (a2e y3)] (aB y4) /\ ((y4=true ->r=ij1) /\ (y4=false ->M9 (wI (ij1+1)) s f r)))) /\ ((decide (ij1<(s.length:Int)))=false ->r=(-1))):M9 ij1 s f r:=
 KW 7 hw (fun _ hw=>KI 15 b1s hw fun _ hw=>KF 1 hw fun _ hw=>KW 2 hw (fun _ hw=>KR 12 hw f3g) fun _ hw=>KJ 8 [] hw) fun _ hw=>KR 11 hw f3g
theorem a63 (s:(List b24)) (f:GFn) (r:Int) (hw:M9 0 s f r):a21 s f r:=
 fP (KL 9 b1s s<|KJ 5 [] hw)
theorem f26 (r:Int):plain (g48 r)=true:=rfl
def b2o (ij1:Int) (s:ByteArray) (r:Int):Prop:=JP Tryz.prog 143 (g48 r) 3 [(3,aI ij1),(0,aS s)]
theorem b3q (ij1:Int) (s:ByteArray) (r:Int) (hw:((decide (ij1<(s.size:Int)))=true ->∃y2,c4e s ij1 y2 /\ (((y2==0)=true ->r=ij1) /\ ((y2==0)=false ->b2o (wI (ij1+y2)) s r))) /\ ((decide (ij1<(s.size:Int)))=false ->r=(-1))):b2o ij1 s r:=
 KW 10 hw (fun _ hw=>KC 7 hw g6c fun _ hw=>KW 10 hw (fun _ hw=>KR 12 hw f26) fun _ hw=>KJ 10 [] hw) fun _ hw=>KR 11 hw f26
theorem c90 (s:ByteArray) (r:Int) (hw:b2o 0 s r):d5a s r:=
 fP (KJ 13 [] hw)
theorem g2o (r:Bool):plain (h0f r)=true:=rfl
theorem c74 (v:A0) (r:Bool) (hw:r=((((((v.Kind !=11)&&(decide (0<(v.List_.length:Int))))||((v.Kind !=12)&&(decide (0<(v.Pairs.length:Int)))))||((v.Kind !=10)&&(decide (0<(wI ((v.Slots.length:Int)+(v.Raws.length:Int)))))))||((v.Bits !=0)&&(((v.Kind==7)||(v.Kind==8))||((decide (10<=v.Kind))&&(decide (v.Kind<=12))))))||((!(decide (v.Text=(⟨#[]⟩:ByteArray))))&&(!((v.Kind==7)||(v.Kind==8)))))):b01 v r:=
 fP (KT 12 4<|KT2 9 5 (v.Kind !=11) (fun z=>aB (z&&(decide (0<(v.List_.length:Int))))) (fun _ key=>KL 2 M5 v.List_<|KE2 2 key) (fun _ key=>KE2 5 key)<|KT2 1 10 ((v.Kind !=11)&&(decide (0<(v.List_.length:Int)))) (fun z=>aB (z||((v.Kind !=12)&&(decide (0<(v.Pairs.length:Int)))))) (fun _ key=>KE2 10 key) (fun _ key=>KT2 4 5 (v.Kind !=12) (fun z=>aB (z&&(decide (0<(v.Pairs.length:Int))))) (fun _ key=>KL 2 C7 v.Pairs<|KE2 2 key) (fun _ key=>KE2 5 key)<|KE2 1 key)<|KT2 1 14 (((v.Kind !=11)&&(decide (0<(v.List_.length:Int))))||((v.Kind !=12)&&(decide (0<(v.Pairs.length:Int))))) (fun z=>aB (z||((v.Kind !=10)&&(decide (0<(wI ((v.Slots.length:Int)+(v.Raws.length:Int)))))))) (fun _ key=>KE2 14 key) (fun _ key=>KT2 4 9 (v.Kind !=10) (fun z=>aB (z&&(decide (0<(wI ((v.Slots.length:Int)+(v.Raws.length:Int))))))) (fun _ key=>KL 2 C4 v.Slots<|KL 2 b5a v.Raws<|KE2 3 key) (fun _ key=>KE2 9 key)<|KE2 1 key)<|KT2 1 17 ((((v.Kind !=11)&&(decide (0<(v.List_.length:Int))))||((v.Kind !=12)&&(decide (0<(v.Pairs.length:Int)))))||((v.Kind !=10)&&(decide (0<(wI ((v.Slots.length:Int)+(v.Raws.length:Int))))))) (fun z=>aB (z||((v.Bits !=0)&&(((v.Kind==7)||(v.Kind==8))||((decide (10<=v.Kind))&&(decide (v.Kind<=12))))))) (fun _ key=>KE2 17 key) (fun _ key=>KT2 4 12 (v.Bits !=0) (fun z=>aB (z&&(((v.Kind==7)||(v.Kind==8))||((decide (10<=v.Kind))&&(decide (v.Kind<=12)))))) (fun _ key=>KT2 2 9 ((v.Kind==7)||(v.Kind==8)) (fun z=>aB (z||((decide (10<=v.Kind))&&(decide (v.Kind<=12))))) (fun _ key=>KE2 9 key) (fun _ key=>KT 4 4<|KE2 1 key)<|KE2 1 key) (fun _ key=>KE2 12 key)<|KE2 1 key)<|KT2 1 8 (((((v.Kind !=11)&&(decide (0<(v.List_.length:Int))))||((v.Kind !=12)&&(decide (0<(v.Pairs.length:Int)))))||((v.Kind !=10)&&(decide (0<(wI ((v.Slots.length:Int)+(v.Raws.length:Int)))))))||((v.Bits !=0)&&(((v.Kind==7)||(v.Kind==8))||((decide (10<=v.Kind))&&(decide (v.Kind<=12)))))) (fun z=>aB (z||((!(decide (v.Text=(⟨#[]⟩:ByteArray))))&&(!((v.Kind==7)||(v.Kind==8)))))) (fun _ key=>KE2 8 key) (fun _ key=>KT 4 3<|KE2 1 key)<|KR 4 hw g2o)
theorem d9s (r:Int):plain (g5g r)=true:=rfl
def V4 (ij1:Int) (l:(List (Int × A0))) (i:Int) (y2:(GOp × Bool)) (level:Int) (x:C9) (g:B6) (r:Int):Prop:=J Tryz.prog 153 (.ret (g5g r)) 10 [(38,aI ij1),(37,aI (((l.take i.toNat).drop (0:Int).toNat).length:Int)),(36,.sl (List.map B3 ((l.take i.toNat).drop (0:Int).toNat)) .no),(11,.elt (W3 y2.1) 0),(6,.ptr 1 0),(5,.ptr 0 0),(2,.sl (List.map B3 l) .no),(3,aI i),(4,aI level)] ⟨[some (B7 x.p),some (E2 g)],[],[]⟩
theorem a34 {ij1:Int} {l:(List (Int × A0))} {i:Int} {y2:(GOp × Bool)} {level:Int} {x:C9} {g:B6}:a9l [true,true] 0 [(38,aI ij1),(37,aI (((l.take i.toNat).drop (0:Int).toNat).length:Int)),(36,.sl (List.map B3 ((l.take i.toNat).drop (0:Int).toNat)) .no),(11,.elt (W3 y2.1) 0),(6,.ptr 1 0),(5,.ptr 0 0),(2,.sl (List.map B3 l) .no),(3,aI i),(4,aI level)]=true /\ a6x [true,true] 0 [some (B7 x.p),some (E2 g)]=true:=⟨by first|rfl|simp,by first|rfl|simp⟩
theorem a3o (ij1:Int) (l:(List (Int × A0))) (i:Int) (y2:(GOp × Bool)) (level:Int) (x:C9) (g:B6) (r:Int) (hw:((decide (ij1<(((l.take i.toNat).drop (0:Int).toNat).length:Int)))=true ->∃y10,((l.take i.toNat).drop (0:Int).toNat)[ij1.toNat]? =some y10 /\ 0<=ij1 /\ (∃y11,b98 g y10.1 y11 /\ ((((y2.1.Union !=(-1))&&(y11.1.Union==y2.1.Union))=true ->r=15) /\ (((y2.1.Union !=(-1))&&(y11.1.Union==y2.1.Union))=false ->V4 (wI (ij1+1)) l i y2 level x g r)))) /\ ((decide (ij1<(((l.take i.toNat).drop (0:Int).toNat).length:Int)))=false ->∃y8,l[i.toNat]? =some y8 /\ 0<=i /\ (∃y9,a49 x y2.1 y8.2 level y9 /\ (r=y9)))):V4 ij1 l i y2 level x g r:=
 KW 7 hw (fun _ hw=>KI 6 C4 hw fun _ hw=>KC 10 hw e24 fun _ hw=>KT 14 6<|KW 2 hw (fun _ hw=>KR 11 hw d9s) fun _ hw=>KJl 8 [] hw a34) fun _ hw=>KD 6 [0]<|KI 4 C4 hw fun _ hw=>KC 3 hw g7e fun _ hw=>KR 5 hw d9s
theorem b47 (x:C9) (g:B6) (l:(List (Int × A0))) (i:Int) (level:Int) (r:Int) (hw:∃y1,l[i.toNat]? =some y1 /\ 0<=i /\ (∃y2,b98 g y1.1 y2 /\ (((!y2.2)=true ->r=8) /\ ((!y2.2)=false ->(0<=(0:Int) /\ (0:Int)<=i /\ i<=(l.length:Int)) /\ (∃y3,M7 ((l.take i.toNat).drop (0:Int).toNat) (⟨185,[],[.elt (W3 y2.1) 0],by simp⟩:GFn) y3 /\ ((y3=true ->r=9) /\ (y3=false ->(0<=(0:Int) /\ (0:Int)<=i /\ i<=(l.length:Int)) /\ (V4 0 l i y2 level x g r)))))))):a6h x g l i level r:=
 fP (KD 8 [1]<|KI 3 C4 hw fun _ hw=>KC 2 hw e24 fun y2 hw=>KV 4<|KW 11 hw (fun _ hw=>KR 7 hw d9s) fun _ hw=>KFz 4 2 [true,true,false] 0 [(11,.elt (W3 y2.1) 0),(6,.ptr 1 0),(5,.ptr 0 0),(2,.sl (List.map B3 l) .no),(3,aI i),(4,aI level)] [some (B7 x.p),some (E2 g),none] ⟨by first|rfl|simp,by first|rfl|simp⟩<|KSV 3 C4 hw fun hw=>KC 1 hw g0x fun _ hw=>KW 2 hw (fun _ hw=>KR 7 hw d9s) fun _ hw=>KSV 7 C4 hw fun hw=>KL 0 C4 ((l.take i.toNat).drop (0:Int).toNat)<|KJl 5 [] hw a34)
theorem f91 (r:Bool):plain (h07 r)=true:=rfl
theorem a48 (s:(List (Int × A0))) (f:GFn) (r:Bool) (hw:∃y1,a2y s f y1 /\ (r=(decide (0<=y1)))):M7 s f r:=
 fP (KC 9 hw g61 fun _ hw=>KR 5 hw f91)
theorem d9i (r:Int):plain (h04 r)=true:=rfl
theorem b6g (x:C9) (g:B6) (f:Q0) (r:Int) (hw:∃y1,b98 g f.Num y1 /\ (∃R1:Bool ->Prop,(∀bz1:Bool,R1 bz1 ->((((((decide (f.Num<1))||(decide (65535<f.Num)))||(decide (f.Wire<0)))||(decide (6<f.Wire)))=true ->r=1) /\ (((((decide (f.Num<1))||(decide (65535<f.Num)))||(decide (f.Wire<0)))||(decide (6<f.Wire)))=false ->(((((decide (f.Wire<=2))&&(!(decide (f.Data=(⟨#[]⟩:ByteArray)))))||((!(decide (f.Wire<=2)))&&(f.Bits !=0)))||(y1.2&&(!bz1)))=true ->r=1) /\ (((((decide (f.Wire<=2))&&(!(decide (f.Data=(⟨#[]⟩:ByteArray)))))||((!(decide (f.Wire<=2)))&&(f.Bits !=0)))||(y1.2&&(!bz1)))=false ->((((f.Wire==3)&&(decide (4096<(f.Data.size:Int))))||(decide (65536<(f.Data.size:Int))))=true ->r=3) /\ ((((f.Wire==3)&&(decide (4096<(f.Data.size:Int))))||(decide (65536<(f.Data.size:Int))))=false ->r=0))))) /\ ((((((y1.1.Kind==9)&&(y1.1.Card !=5))&&(f.Wire==0))&&(decide (f.Bits<=2147483647)))=true ->∃y2,a8r x.p y1.1.Target f.Bits y2 /\ (R1 (!y2))) /\ (((((y1.1.Kind==9)&&(y1.1.Card !=5))&&(f.Wire==0))&&(decide (f.Bits<=2147483647)))=false ->R1 false)))):a7s x g f r:=
 fP (KC 21 hw e24 fun y1 hw=>KT 14 4<|KT 1 4<|KT 1 4<|KQ 1 9 kB hw (fun bz1 hw=>KT 11 4<|KT 1 4<|KT 1 4<|KW 3 hw (fun _ hw=>KR 8 hw d9i) fun _ hw=>KT 4 4<|KT2 1 8 ((decide (f.Wire<=2))&&(!(decide (f.Data=(⟨#[]⟩:ByteArray))))) (fun z=>aB (z||((!(decide (f.Wire<=2)))&&(f.Bits !=0)))) (fun _ key=>KE2 8 key) (fun _ key=>KT 3 4<|KE2 1 key)<|KT2 1 6 (((decide (f.Wire<=2))&&(!(decide (f.Data=(⟨#[]⟩:ByteArray)))))||((!(decide (f.Wire<=2)))&&(f.Bits !=0))) (fun z=>aB (z||(y1.2&&(!bz1)))) (fun _ key=>KE2 6 key) (fun _ key=>KT 2 3<|KE2 1 key)<|KW 3 hw (fun _ hw=>KR 8 hw d9i) fun _ hw=>KT 6 5<|KT 1 5<|KW 3 hw (fun _ hw=>KR 8 hw d9i) fun _ hw=>KR 9 hw d9i) (fun _ key _ hw=>KC 6 hw g85 fun _ hw=>KE 2 key hw) fun _ key _ hw=>KE 9 key hw)
theorem f95 (r:(List A0)):plain (g4h r)=true:=(psl (F1 r))
def a8d (ij5:Int) (v:A0) (lj6:(List A0)) (r:(List A0)):Prop:=J Tryz.prog 157 (.ret (g4h r)) 11 [(29,aI ij5),(28,aI (v.Slots.length:Int)),(27,.sl (List.map B3 v.Slots) .no),(3,.sl (List.map C0 lj6) (.own 0))] ⟨[],[(lj6.length,7)],[]⟩
def a8c (ij3:Int) (v:A0) (lj4:(List A0)) (r:(List A0)):Prop:=J Tryz.prog 157 (.ret (g4h r)) 4 [(14,aI ij3),(13,aI (v.Pairs.length:Int)),(12,.sl (List.map B4 v.Pairs) .no),(3,.sl (List.map C0 lj4) (.own 0)),(1,.ptr 0 0)] ⟨[some (B0 v)],[(lj4.length,7)],[]⟩
theorem b2k {ij5:Int} {v:A0} {lj6:(List A0)}:a9l [] 1 [(29,aI ij5),(28,aI (v.Slots.length:Int)),(27,.sl (List.map B3 v.Slots) .no),(3,.sl (List.map C0 lj6) (.own 0))]=true /\ a6x [] 1 []=true:=⟨by first|rfl|simp,by first|rfl|simp⟩
theorem c1e {ij3:Int} {v:A0} {lj4:(List A0)}:a9l [true] 1 [(14,aI ij3),(13,aI (v.Pairs.length:Int)),(12,.sl (List.map B4 v.Pairs) .no),(3,.sl (List.map C0 lj4) (.own 0)),(1,.ptr 0 0)]=true /\ a6x [true] 1 [some (B0 v)]=true:=⟨by first|rfl|simp,by first|rfl|simp⟩
theorem a4x (ij5:Int) (v:A0) (lj6:(List A0)) (r:(List A0)) (hw:((decide (ij5<(v.Slots.length:Int)))=true ->∃y5,v.Slots[ij5.toNat]? =some y5 /\ 0<=ij5 /\ ((lj6.length+[y5.2].length)*128<=140737488355328 /\ (a8d (wI (ij5+1)) v (lj6++[y5.2]) r))) /\ ((decide (ij5<(v.Slots.length:Int)))=false ->r=lj6)):a8d ij5 v lj6 r:=
 KW 7 hw (fun _ hw=>KI 6 C4 hw fun _ hw=>KA 10 M5 hw mE fun hw=>KJl 9 [] hw b2k) fun _ hw=>KR 12 hw f95
theorem a5d (ij3:Int) (v:A0) (lj4:(List A0)) (r:(List A0)) (hw:((decide (ij3<(v.Pairs.length:Int)))=true ->∃y6,v.Pairs[ij3.toNat]? =some y6 /\ 0<=ij3 /\ ((lj4.length+[y6.1,y6.2].length)*128<=140737488355328 /\ (a8c (wI (ij3+1)) v (lj4++[y6.1,y6.2]) r))) /\ ((decide (ij3<(v.Pairs.length:Int)))=false ->a8d 0 v lj4 r)):a8c ij3 v lj4 r:=
 KW 7 hw (fun _ hw=>KI 6 C7 hw fun _ hw=>KA 12 M5 hw mE fun hw=>KJl 9 [] hw c1e) fun _ hw=>KL 10 C4 v.Slots<|KJl 5 [] hw b2k
theorem c5k (v:A0) (r:(List A0)) (hw:a1s v.List_ /\ (a8c 0 v v.List_ r)):b9t v r:=
 fP (KNB 10 M5 hw fun hw=>KL 8 C7 v.Pairs<|KJ 5 [] hw)
theorem f2k (r:(List (Int × A0))):plain (h0n r)=true:=(psl (E6 r))
theorem b0k (s:(List (Int × A0))) (r:(List (Int × A0))) (hw:∀bj1:Bool,(s≠[] ->bj1=false) ->((bj1=true ->r=([]:(List (Int × A0)))) /\ (bj1=false ->(([]:List (Int × A0)).length+s.length)*136<=140737488355328 /\ (r=(([]:List (Int × A0))++s))))):a6m s r:=
 fP (KN 9 C4 hw fun _ hw=>KW 2 hw (fun _ hw=>KR 7 hw f2k) fun _ hw=>KAf 6 C4 hw mF xE fun hw=>KR 4 hw f2k)
theorem a61 (s:(List (Int × A0))) (hw:s≠[] /\ s.length*136<=140737488355328):a24 s:=d5s C4 hw
theorem a31 (n0:Nat) (x:(List (Int × A0))) (cmp:GFn) (r:(List (Int × A0))) (hw:∃y1,a0b n0 x (n0:Int) cmp y1 /\ (x≠[] /\ y1≠[]) /\ (y1≠[] /\ r=y1)):Q8 n0 x cmp r:=
 fRO (KRO 5 C4 hw g2j fun _ hw=>KRr 1 C4 hw)
theorem g0h (r:Int):plain (g9d r)=true:=rfl
theorem c04 (a:(Int × A0)) (b:(Int × A0)) (r:Int) (hw:∃y1,Q3 a.1 b.1 y1 /\ (r=y1)):c1h a b r:=
 fP (KC 13 hw d6k fun _ hw=>KR 4 hw g0h)
theorem f4a (r:(GOp × Bool)):plain (h0t r)=true:=(c6m (A6 (O7 r.1) (A6 rfl rfl)))
theorem c0w (x:b20) (g:B6) (r:(GOp × Bool)) (hw:∃y1,a54 g.Ops x.is y1 /\ (((decide (y1<0))=true ->r=((⟨0,(⟨#[]⟩:ByteArray),(⟨#[]⟩:ByteArray),0,0,0,0,0⟩:GOp),false)) /\ ((decide (y1<0))=false ->∃y2,g.Ops[y1.toNat]? =some y2 /\ 0<=y1 /\ (r=(y2,true))))):b9h x g r:=
 fP (KC 14 hw g5c fun _ hw=>KW 10 hw (fun _ hw=>KR 9 hw f4a) fun _ hw=>KI 7 c0n hw fun _ hw=>KR 6 hw f4a)
theorem f3m (r:A0):plain (g93 r)=true:=(B5 r)
theorem c2c (p:A5) (o_:GOp) (v:A0) (r:A0) (hw:((o_.Kind==10)=true ->∃y1,b05 p o_.Target v y1 /\ (r=y1)) /\ ((o_.Kind==10)=false ->∃y2,a77 v y2 /\ (r=y2))):a6s p o_ v r:=
 fP (KW 16 hw (fun _ hw=>KC 6 hw h0g fun _ hw=>KR 5 hw f3m) fun _ hw=>KC 5 hw g38 fun _ hw=>KR 4 hw f3m)
theorem f3b (r:(List (A0 × A0))):plain (g4p r)=true:=(psl (E5 r))
def a8g (ij1:Int) (lj2:(List (A0 × A0))) (r:(List (A0 × A0))):Prop:=J Tryz.prog 164 (.ret (g4p r)) 6 [(13,aI ij1),(12,aI (([]:List (A0 × A0)).length:Int)),(11,.sl (List.map B4 ([]:List (A0 × A0))) .no),(4,.sl (List.map B4 lj2) (.own 0)),(3,.sl (List.map B4 ([]:List (A0 × A0))) .no)] ⟨[],[(lj2.length,14)],[]⟩
def a35 (ij3:Int) (y9:(List (A0 × A0))) (lj4:(List (A0 × A0))) (r:(List (A0 × A0))):Prop:=J Tryz.prog 164 (.ret (g4p r)) 6 [(13,aI ij3),(12,aI (y9.length:Int)),(11,.sl (List.map B4 y9) .no),(4,.sl (List.map B4 lj4) (.own 0)),(3,.sl (List.map B4 y9) .no)] ⟨[],[(lj4.length,14)],[]⟩
theorem b2s {ij1:Int} {lj2:(List (A0 × A0))}:a9l [] 1 [(13,aI ij1),(12,aI (([]:List (A0 × A0)).length:Int)),(11,.sl (List.map B4 ([]:List (A0 × A0))) .no),(4,.sl (List.map B4 lj2) (.own 0)),(3,.sl (List.map B4 ([]:List (A0 × A0))) .no)]=true /\ a6x [] 1 []=true:=⟨by first|rfl|simp,by first|rfl|simp⟩
theorem a6i {ij3:Int} {y9:(List (A0 × A0))} {lj4:(List (A0 × A0))}:a9l [] 1 [(13,aI ij3),(12,aI (y9.length:Int)),(11,.sl (List.map B4 y9) .no),(4,.sl (List.map B4 lj4) (.own 0)),(3,.sl (List.map B4 y9) .no)]=true /\ a6x [] 1 []=true:=⟨by first|rfl|simp,by first|rfl|simp⟩
theorem b9o (ij1:Int) (lj2:(List (A0 × A0))) (r:(List (A0 × A0))) (hw:((decide (ij1<(([]:List (A0 × A0)).length:Int)))=true ->∃y5,([]:List (A0 × A0))[ij1.toNat]? =some y5 /\ 0<=ij1 /\ (∃R4:Bool ->Prop,(∀bz4:Bool,R4 bz4 ->((bz4=true ->(lj2.length+[y5].length)*256<=140737488355328 /\ (a8g (wI (ij1+1)) (lj2++[y5]) r)) /\ (bz4=false ->a8g (wI (ij1+1)) lj2 r))) /\ ((((wI (ij1+1))==(([]:List (A0 × A0)).length:Int))=true ->R4 true) /\ (((wI (ij1+1))==(([]:List (A0 × A0)).length:Int))=false ->∃y7,([]:List (A0 × A0))[(wI (ij1+1)).toNat]? =some y7 /\ 0<=(wI (ij1+1)) /\ (∃y8,b1n y5.1 y7.1 y8 /\ (R4 (!y8))))))) /\ ((decide (ij1<(([]:List (A0 × A0)).length:Int)))=false ->r=lj2)):a8g ij1 lj2 r:=
 KW 7 hw (fun _ hw=>KI 7 C7 hw fun _ hw=>KD 7 [0]<|KL 3 C7 ([]:List (A0 × A0))<|KQ 2 11 kB hw (fun _ hw=>KW 3 hw (fun _ hw=>KA 4 C7 hw mE fun hw=>KJl 9 [] hw b2s) fun _ hw=>KJl 8 [] hw b2s) (fun _ key _ hw=>KE 11 key hw) fun _ key _ hw=>KI 5 C7 hw fun _ hw=>KC 2 hw f6f fun _ hw=>KE 2 key hw) fun _ hw=>KR 12 hw f3b
theorem a5c (ij3:Int) (y9:(List (A0 × A0))) (lj4:(List (A0 × A0))) (r:(List (A0 × A0))) (hw:((decide (ij3<(y9.length:Int)))=true ->∃y14,y9[ij3.toNat]? =some y14 /\ 0<=ij3 /\ (∃R8:Bool ->Prop,(∀bz8:Bool,R8 bz8 ->((bz8=true ->(lj4.length+[y14].length)*256<=140737488355328 /\ (a35 (wI (ij3+1)) y9 (lj4++[y14]) r)) /\ (bz8=false ->a35 (wI (ij3+1)) y9 lj4 r))) /\ ((((wI (ij3+1))==(y9.length:Int))=true ->R8 true) /\ (((wI (ij3+1))==(y9.length:Int))=false ->∃y16,y9[(wI (ij3+1)).toNat]? =some y16 /\ 0<=(wI (ij3+1)) /\ (∃y17,b1n y14.1 y16.1 y17 /\ (R8 (!y17))))))) /\ ((decide (ij3<(y9.length:Int)))=false ->r=lj4)):a35 ij3 y9 lj4 r:=
 KW 7 hw (fun _ hw=>KI 7 C7 hw fun _ hw=>KD 7 [0]<|KL 3 C7 y9<|KQ 2 11 kB hw (fun _ hw=>KW 3 hw (fun _ hw=>KA 4 C7 hw mE fun hw=>KJl 9 [] hw a6i) fun _ hw=>KJl 8 [] hw a6i) (fun _ key _ hw=>KE 11 key hw) fun _ key _ hw=>KI 5 C7 hw fun _ hw=>KC 2 hw f6f fun _ hw=>KE 2 key hw) fun _ hw=>KR 12 hw f3b
theorem b6a (l:(List (A0 × A0))) (r:(List (A0 × A0))) (hw:(l=[] ->a6b l ([]:List (A0 × A0)) /\ (W5 (⟨193,[],[],rfl⟩:GFn) /\ (a8g 0 ([]:List (A0 × A0)) r))) /\ (l≠[] ->a26 l /\ (∃y9,Q9 l.length l (⟨193,[],[],rfl⟩:GFn) y9 /\ (l≠[] /\ y9≠[]) /\ (y9.length=l.length /\ (a35 0 y9 ([]:List (A0 × A0)) r))))):b5l l r:=
 fP (g8a l (fun hb1=>KC0 8 (hw.1 hb1) g8b fun hw=>KC0 6 hw g22 fun hw=>KL 11 C7 ([]:List (A0 × A0))<|KO 5 4 14<|KJ 0 [] hw) fun hb1=>KNw 8 C7 hb1 (hw.2 hb1) fun hw=>KRO 6 C7 hw f97 fun y9 hw=>KDf 2 C7 0 [false] 0 1 [(3,.sl (List.map B4 y9) .no)] [none] ⟨by first|rfl|simp,by first|rfl|simp⟩ hw fun hw=>KL 9 C7 y9<|KO 5 4 14<|KJl 0 [] hw a6i)
theorem g2p (r:Bool):plain (g97 r)=true:=rfl
theorem c1c (v:A0) (r:Bool) (hw:∃y1,b6r v.Kind y1 /\ (∃R1:Bool ->Prop,(∀bz1:Bool,R1 bz1 ->(r=((bz1&&(v.Bits==0))&&(decide (v.Text=(⟨#[]⟩:ByteArray)))))) /\ ((y1=true ->∃y2,b5f v y2 /\ (R1 y2)) /\ (y1=false ->R1 false)))):a6t v r:=
 fP (KC 10 hw g4i fun _ hw=>KQ 1 3 kB hw (fun _ hw=>KT 1 4<|KT 1 4<|KR 4 hw g2p) (fun _ key _ hw=>KC 1 hw g87 fun _ hw=>KE 1 key hw) fun _ key _ hw=>KE 3 key hw)
theorem g1y (r:Bool):plain (g9o r)=true:=rfl
theorem b2f (x:Int) (r:Bool) (hw:r=(x !=x)):b5n x r:=
 fP (KR 14 hw g1y)
theorem e6j (r:(A3 × Int)):plain (g9i r)=true:=(c6m (A6 (C5 r.1) (A6 rfl rfl)))
theorem b3i (c:A3) (n:Int) (r:(A3 × Int)) (hw:((decide (n<0))=true ->r=(c,1)) /\ ((decide (n<0))=false ->((decide (c.Nodes<n))=true ->r=(c,3)) /\ ((decide (c.Nodes<n))=false ->r=((⟨c.Data,c.At,c.End,c.Depth,(wI (c.Nodes - n)),c.Text⟩:A3),0)))):c4r c n r:=
 fP (KW 16 hw (fun _ hw=>KR 10 hw e6j) fun _ hw=>KW 9 hw (fun _ hw=>KR 10 hw e6j) fun _ hw=>KR 21 hw e6j)
theorem d71 (r:(A7 × (Int × Int))):plain (g4u r)=true /\ (D0 r.1).all ok1=true /\ lowL [true] 0 (D0 r.1)=true /\ (J5 r.1).length=0:=⟨f2i r,I8 _,a42 _,rfl⟩
theorem b7a (r_:A7) (r:(A7 × (Int × Int))) (hw:∃y1,b35 r_.c y1 /\ (((y1.2.2 !=0)=true ->r=(r_,0,y1.2.2)) /\ ((y1.2.2 !=0)=false ->((decide (4096<y1.1))=true ->r=(r_,0,3)) /\ ((decide (4096<y1.1))=false ->((decide (0<y1.1))=true ->∃y2,a1l (⟨r_.p,y1.2.1⟩:A7) 1 y2 /\ (r=(y2.1,(wI y1.1),y2.2))) /\ ((decide (0<y1.1))=false ->r=((⟨r_.p,y1.2.1⟩:A7),(wI y1.1),y1.2.2)))))):a4s r_ r:=
 fIO (KC 12 hw g7h fun _ hw=>KW 17 hw (fun _ hw=>KRi 9 hw d71) fun _ hw=>KW 9 hw (fun _ hw=>KRi 8 hw d71) fun _ hw=>KW 18 hw (fun _ hw=>KIO 2 hw e2h fun _ hw=>KRi 13 hw d71) fun _ hw=>KRi 12 hw d71)
theorem d0n (r:Int):plain (g99 r)=true:=rfl
theorem c9p (a:A0) (b:A0) (r:Int) (hw:((a.Kind !=b.Kind)=true ->∃y1,Q3 a.Kind b.Kind y1 /\ (r=y1)) /\ ((a.Kind !=b.Kind)=false ->∃y2,a8k b y2 /\ (∃y3,a8k a y3 /\ ((∀y4,y3=b81.a_order_one y4 ->∃y5,c2v y4 b y5 /\ (r=y5)) /\ ((∀y4,y3≠b81.a_order_one y4) ->(∀y6,y3=b81.a_order_list y6 ->∃y7,y2=b81.a_order_list y7 /\ (∃y8,J9 y6 y7 (⟨170,[],[],rfl⟩:GFn) y8 /\ (r=y8))) /\ ((∀y6,y3≠b81.a_order_list y6) ->(∀y9,y3=b81.a_order_pairs y9 ->∃y10,y2=b81.a_order_pairs y10 /\ (∃y11,J7 y9 y10 (⟨201,[],[],rfl⟩:GFn) y11 /\ (r=y11))) /\ ((∀y9,y3≠b81.a_order_pairs y9) ->(∀y12,y3=b81.a_order_parts y12 ->∃y13,y2=b81.a_order_parts y13 /\ (∃y14,U3 y12.slots y13.slots (⟨204,[],[],rfl⟩:GFn) y14 /\ (∃y15,W8 y12.raws y13.raws (⟨206,[],[],rfl⟩:GFn) y15 /\ (∃y16,b04 ([y14,y15]:(List Int)) y16 /\ (r=y16))))) /\ ((∀y12,y3≠b81.a_order_parts y12) ->r=0)))))))):a8z a b r:=
 fP (KW 17 hw (fun _ hw=>KC 6 hw d6k fun _ hw=>KR 5 hw d0n) fun _ hw=>KC 5 hw f93 fun _ hw=>KC 7 hw f93 fun _ hw=>g30 5 hw (fun _ hw=>KC 15 hw g7y fun _ hw=>KR 6 hw d0n) fun hw=>g03 7 hw (fun _ hw=>f8f 14 hw fun _ hw=>KC 0 hw g7n fun _ hw=>KR 6 hw d0n) fun hw=>g3d 7 hw (fun _ hw=>f4t 14 hw fun _ hw=>KC 0 hw g8m fun _ hw=>KR 6 hw d0n) fun hw=>g25 7 hw (fun _ hw=>f6c 14 hw fun _ hw=>KD 5 [2,3]<|KC 4 hw g8c fun _ hw=>KC 4 hw g8k fun _ hw=>KC 1 hw e8y fun _ hw=>KR 7 hw d0n) fun hw=>KR 14 hw d0n)
theorem e4k (r:Bool):plain (g6s r)=true:=rfl
def a23 (ij1:Int) (sj2:ByteArray) (s:ByteArray) (r:Bool):Prop:=JP Tryz.prog 173 (g6s r) 7 [(4,aI ij1),(3,aS sj2),(0,aS s)]
theorem a94 (ij1:Int) (sj2:ByteArray) (s:ByteArray) (r:Bool) (hw:((decide (ij1<(s.size:Int)))=true ->(0<=ij1 /\ ij1<(s.size:Int)) /\ ((((F0 s ij1.toNat) !=46)=true ->(0<=ij1 /\ ij1<=(wI (ij1+1)) /\ (wI (ij1+1))<=(s.size:Int)) /\ (((sj2.size+(s.extract ij1.toNat (wI (ij1+1)).toNat).size:Nat):Int)<=9223372036854775807 /\ (a23 (wI (ij1+1)) (sj2++(s.extract ij1.toNat (wI (ij1+1)).toNat)) s r))) /\ (((F0 s ij1.toNat) !=46)=false ->∃y4,a9g sj2 y4 /\ (((!y4)=true ->r=false) /\ ((!y4)=false ->a23 (wI (ij1+1)) (⟨#[]⟩:ByteArray) s r))))) /\ ((decide (ij1<(s.size:Int)))=false ->∃y3,a9g sj2 y3 /\ (r=y3))):a23 ij1 sj2 s r:=
 KW 10 hw (fun _ hw=>KIS 9 hw fun hw=>KW 3 hw (fun _ hw=>KSS 7 hw fun hw=>g4s 0 hw fun hw=>KJ 13 [] hw) fun _ hw=>KC 6 hw f6j fun _ hw=>KW 3 hw (fun _ hw=>KR 12 hw e4k) fun _ hw=>KJ 13 [] hw) fun _ hw=>KC 8 hw f6j fun _ hw=>KR 4 hw e4k
theorem c3f (s:ByteArray) (r:Bool) (hw:((decide (120<(s.size:Int)))=true ->r=false) /\ ((decide (120<(s.size:Int)))=false ->a23 0 (⟨#[]⟩:ByteArray) s r)):b6w s r:=
 fP (KW 13 hw (fun _ hw=>KR 7 hw e4k) fun _ hw=>KJ 15 [] hw)
theorem f37 (r:(ByteArray × ByteArray)):plain (g84 r)=true:=(c6m (A6 rfl (A6 rfl rfl)))
def a79 (ij1:Int) (full:ByteArray) (r:(ByteArray × ByteArray)):Prop:=JP Tryz.prog 174 (g84 r) 3 [(4,aI ij1),(0,aS full)]
theorem b1q (ij1:Int) (full:ByteArray) (r:(ByteArray × ByteArray)) (hw:((decide (0<=ij1))=true ->(0<=ij1 /\ ij1<(full.size:Int)) /\ ((((F0 full ij1.toNat)==46)=true ->(0<=(0:Int) /\ (0:Int)<=ij1 /\ ij1<=(full.size:Int)) /\ ((0<=(wI (ij1+1)) /\ (wI (ij1+1))<=(full.size:Int) /\ (full.size:Int)<=(full.size:Int)) /\ (r=((full.extract (0:Int).toNat ij1.toNat),(full.extract (wI (ij1+1)).toNat (full.size:Int).toNat))))) /\ (((F0 full ij1.toNat)==46)=false ->a79 (wI (ij1 - 1)) full r))) /\ ((decide (0<=ij1))=false ->r=((⟨#[]⟩:ByteArray),full))):a79 ij1 full r:=
 KW 8 hw (fun _ hw=>KIS 8 hw fun hw=>KW 3 hw (fun _ hw=>KD 1 []<|KSS 2 hw fun hw=>KSS 3 hw fun hw=>KR 11 hw f37) fun _ hw=>KJ 9 [] hw) fun _ hw=>KR 13 hw f37
theorem c5f (full:ByteArray) (r:(ByteArray × ByteArray)) (hw:a79 (wI ((full.size:Int) - 1)) full r):b90 full r:=
 fP (KJ 17 [] hw)
theorem a3u (r:Bool):plain (h0z r)=true:=rfl
theorem c31 (s:ByteArray) (r:Bool) (hw:((decide (s=(⟨#[109,101,115,115,97,103,101]⟩:ByteArray)))=true ->r=true) /\ ((decide (s=(⟨#[109,101,115,115,97,103,101]⟩:ByteArray)))=false ->((decide (s=(⟨#[101,110,117,109]⟩:ByteArray)))=true ->r=true) /\ ((decide (s=(⟨#[101,110,117,109]⟩:ByteArray)))=false ->((decide (s=(⟨#[115,101,114,118,105,99,101]⟩:ByteArray)))=true ->r=true) /\ ((decide (s=(⟨#[115,101,114,118,105,99,101]⟩:ByteArray)))=false ->((decide (s=(⟨#[117,110,105,111,110]⟩:ByteArray)))=true ->r=true) /\ ((decide (s=(⟨#[117,110,105,111,110]⟩:ByteArray)))=false ->((decide (s=(⟨#[109,97,112]⟩:ByteArray)))=true ->r=true) /\ ((decide (s=(⟨#[109,97,112]⟩:ByteArray)))=false ->((decide (s=(⟨#[108,105,115,116]⟩:ByteArray)))=true ->r=true) /\ ((decide (s=(⟨#[108,105,115,116]⟩:ByteArray)))=false ->((decide (s=(⟨#[114,101,113,117,105,114,101,100]⟩:ByteArray)))=true ->r=true) /\ ((decide (s=(⟨#[114,101,113,117,105,114,101,100]⟩:ByteArray)))=false ->((decide (s=(⟨#[111,112,116,105,111,110,97,108]⟩:ByteArray)))=true ->r=true) /\ ((decide (s=(⟨#[111,112,116,105,111,110,97,108]⟩:ByteArray)))=false ->((decide (s=(⟨#[112,108,97,105,110]⟩:ByteArray)))=true ->r=true) /\ ((decide (s=(⟨#[112,108,97,105,110]⟩:ByteArray)))=false ->((decide (s=(⟨#[100,101,102,97,117,108,116]⟩:ByteArray)))=true ->r=true) /\ ((decide (s=(⟨#[100,101,102,97,117,108,116]⟩:ByteArray)))=false ->((decide (s=(⟨#[114,101,115,101,114,118,101,100]⟩:ByteArray)))=true ->r=true) /\ ((decide (s=(⟨#[114,101,115,101,114,118,101,100]⟩:ByteArray)))=false ->((decide (s=(⟨#[105,109,112,111,114,116]⟩:ByteArray)))=true ->r=true) /\ ((decide (s=(⟨#[105,109,112,111,114,116]⟩:ByteArray)))=false ->((decide (s=(⟨#[115,112,97,99,101]⟩:ByteArray)))=true ->r=true) /\ ((decide (s=(⟨#[115,112,97,99,101]⟩:ByteArray)))=false ->((decide (s=(⟨#[114,112,99]⟩:ByteArray)))=true ->r=true) /\ ((decide (s=(⟨#[114,112,99]⟩:ByteArray)))=false ->((decide (s=(⟨#[115,116,114,101,97,109]⟩:ByteArray)))=true ->r=true) /\ ((decide (s=(⟨#[115,116,114,101,97,109]⟩:ByteArray)))=false ->((decide (s=(⟨#[114,101,116,117,114,110,115]⟩:ByteArray)))=true ->r=true) /\ ((decide (s=(⟨#[114,101,116,117,114,110,115]⟩:ByteArray)))=false ->((decide (s=(⟨#[111,112,101,110]⟩:ByteArray)))=true ->r=true) /\ ((decide (s=(⟨#[111,112,101,110]⟩:ByteArray)))=false ->((decide (s=(⟨#[116,114,117,101]⟩:ByteArray)))=true ->r=true) /\ ((decide (s=(⟨#[116,114,117,101]⟩:ByteArray)))=false ->((decide (s=(⟨#[102,97,108,115,101]⟩:ByteArray)))=true ->r=true) /\ ((decide (s=(⟨#[102,97,108,115,101]⟩:ByteArray)))=false ->((decide (s=(⟨#[110,97,110]⟩:ByteArray)))=true ->r=true) /\ ((decide (s=(⟨#[110,97,110]⟩:ByteArray)))=false ->((decide (s=(⟨#[105,110,102]⟩:ByteArray)))=true ->r=true) /\ ((decide (s=(⟨#[105,110,102]⟩:ByteArray)))=false ->r=false)))))))))))))))))))))):b13 s r:=
 fP (KW 19 hw (fun hb1 hw=>KKn 2 hb1<|KR 8 hw a3u) fun hb1 hw=>KW 6 hw (fun hb2 hw=>KKn 2 hb2<|KR 8 hw a3u) fun hb2 hw=>KW 6 hw (fun hb3 hw=>KKn 2 hb3<|KR 8 hw a3u) fun hb3 hw=>KW 6 hw (fun hb4 hw=>KKn 2 hb4<|KR 8 hw a3u) fun hb4 hw=>KW 6 hw (fun hb5 hw=>KKn 2 hb5<|KR 8 hw a3u) fun hb5 hw=>KW 6 hw (fun hb6 hw=>KKn 2 hb6<|KR 8 hw a3u) fun hb6 hw=>KW 6 hw (fun hb7 hw=>KKn 2 hb7<|KR 8 hw a3u) fun hb7 hw=>KW 6 hw (fun hb8 hw=>KKn 2 hb8<|KR 8 hw a3u) fun hb8 hw=>KW 6 hw (fun hb9 hw=>KKn 2 hb9<|KR 8 hw a3u) fun hb9 hw=>KW 6 hw (fun hb10 hw=>KKn 2 hb10<|KR 8 hw a3u) fun hb10 hw=>KW 6 hw (fun hb11 hw=>KKn 2 hb11<|KR 8 hw a3u) fun hb11 hw=>KW 6 hw (fun hb12 hw=>KKn 2 hb12<|KR 8 hw a3u) fun hb12 hw=>KW 6 hw (fun hb13 hw=>KKn 2 hb13<|KR 8 hw a3u) fun hb13 hw=>KW 6 hw (fun hb14 hw=>KKn 2 hb14<|KR 8 hw a3u) fun hb14 hw=>KW 6 hw (fun hb15 hw=>KKn 2 hb15<|KR 8 hw a3u) fun hb15 hw=>KW 6 hw (fun hb16 hw=>KKn 2 hb16<|KR 8 hw a3u) fun hb16 hw=>KW 6 hw (fun hb17 hw=>KKn 2 hb17<|KR 8 hw a3u) fun hb17 hw=>KW 6 hw (fun hb18 hw=>KKn 2 hb18<|KR 8 hw a3u) fun hb18 hw=>KW 6 hw (fun hb19 hw=>KKn 2 hb19<|KR 8 hw a3u) fun hb19 hw=>KW 6 hw (fun hb20 hw=>KKn 2 hb20<|KR 8 hw a3u) fun hb20 hw=>KW 5 hw (fun _ hw=>KR 8 hw a3u) fun _ hw=>KR 9 hw a3u)
theorem e4w (r:Bool):plain (g54 r)=true:=rfl
def a2b (ij1:Int) (s:ByteArray) (r:Bool):Prop:=JP Tryz.prog 176 (g54 r) 6 [(3,aI ij1),(0,aS s)]
theorem a9x (ij1:Int) (s:ByteArray) (r:Bool) (hw:((decide (ij1<(s.size:Int)))=true ->(0<=ij1 /\ ij1<(s.size:Int)) /\ (∃y5,b5t (F0 s ij1.toNat) y5 /\ (∃R6:Bool ->Prop,(∀bz6:Bool,R6 bz6 ->(∃R7:Bool ->Prop,(∀bz7:Bool,R7 bz7 ->((bz7=true ->(0<=ij1 /\ ij1<(s.size:Int)) /\ (∃R8:Bool ->Prop,(∀bz8:Bool,R8 bz8 ->((bz8=true ->r=false) /\ (bz8=false ->a2b (wI (ij1+1)) s r))) /\ (((decide ((F0 s ij1.toNat)<48))=true ->R8 true) /\ ((decide ((F0 s ij1.toNat)<48))=false ->(0<=ij1 /\ ij1<(s.size:Int)) /\ (R8 (decide (57<(F0 s ij1.toNat)))))))) /\ (bz7=false ->a2b (wI (ij1+1)) s r))) /\ ((bz6=true ->(0<=ij1 /\ ij1<(s.size:Int)) /\ (R7 ((F0 s ij1.toNat) !=95))) /\ (bz6=false ->R7 false)))) /\ (((!y5)=true ->(0<=ij1 /\ ij1<(s.size:Int)) /\ (∃y6,b0h (F0 s ij1.toNat) y6 /\ (R6 (!y6)))) /\ ((!y5)=false ->R6 false))))) /\ ((decide (ij1<(s.size:Int)))=false ->r=true)):a2b ij1 s r:=
 KW 10 hw (fun _ hw=>KIS 8 hw fun hw=>KC 0 hw f92 fun _ hw=>KQ 2 6 kB hw (fun _ hw=>KQ 1 5 kB hw (fun _ hw=>KW 1 hw (fun _ hw=>KIS 2 hw fun hw=>KQ 2 5 kB hw (fun _ hw=>KW 3 hw (fun _ hw=>KR 11 hw e4w) fun _ hw=>KJ 9 [] hw) (fun _ key _ hw=>KE 5 key hw) fun _ key _ hw=>KIS 2 hw fun hw=>KE 2 key hw) fun _ hw=>KJ 23 [] hw) (fun _ key _ hw=>KIS 2 hw fun hw=>KE 2 key hw) fun _ key _ hw=>KE 5 key hw) (fun _ key _ hw=>KIS 2 hw fun hw=>KC 0 hw g2h fun _ hw=>KE 2 key hw) fun _ key _ hw=>KE 6 key hw) fun _ hw=>KR 11 hw e4w
theorem c3t (s:ByteArray) (r:Bool) (hw:∃R1:Bool ->Prop,(∀bz1:Bool,R1 bz1 ->((bz1=true ->r=false) /\ (bz1=false ->a2b 1 s r))) /\ (((((s.size:Int)==0)||(decide (40<(s.size:Int))))=true ->R1 true) /\ ((((s.size:Int)==0)||(decide (40<(s.size:Int))))=false ->(0<=(0:Int) /\ (0:Int)<(s.size:Int)) /\ (∃y1,b5t (F0 s (0:Int).toNat) y1 /\ (∃R2:Bool ->Prop,(∀bz2:Bool,R2 bz2 ->(R1 bz2)) /\ (((!y1)=true ->(0<=(0:Int) /\ (0:Int)<(s.size:Int)) /\ (∃y2,b0h (F0 s (0:Int).toNat) y2 /\ (R2 (!y2)))) /\ ((!y1)=false ->R2 false))))))):a9g s r:=
 fP (KT 12 4<|KQ 1 11 kB hw (fun _ hw=>KW 2 hw (fun _ hw=>KR 7 hw e4w) fun _ hw=>KJ 10 [] hw) (fun _ key _ hw=>KE 11 key hw) fun _ key _ hw=>KIS 1 hw fun hw=>KC 0 hw f92 fun _ hw=>KQ 2 5 kB hw (fun _ hw=>KE 1 key hw) (fun _ key _ hw=>KIS 1 hw fun hw=>KC 0 hw g2h fun _ hw=>KE 2 key hw) fun _ key _ hw=>KE 5 key hw)
theorem d0j (r:Int):plain (g1t r)=true:=rfl
def a1w (bj7:Bool) (name:ByteArray) (r:Int):Prop:=JP Tryz.prog 177 (g1t r) 12 [(13,aB bj7),(3,aS name)]
def a1y (bj6:Bool) (name:ByteArray) (r:Int):Prop:=JP Tryz.prog 177 (g1t r) 7 [(8,aB bj6),(3,aS name)]
def a6j (bj4:Bool) (name:ByteArray) (r:Int):Prop:=JP Tryz.prog 177 (g1t r) 3 [(4,aB bj4),(3,aS name)]
theorem c0p (bj7:Bool) (name:ByteArray) (r:Int) (hw:(bj7=true ->r=4) /\ (bj7=false ->((decide (name=(⟨#[109,105,110]⟩:ByteArray)))=true ->r=3) /\ ((decide (name=(⟨#[109,105,110]⟩:ByteArray)))=false ->((decide (name=(⟨#[109,97,120]⟩:ByteArray)))=true ->r=3) /\ ((decide (name=(⟨#[109,97,120]⟩:ByteArray)))=false ->r=0)))):a1w bj7 name r:=
 KW 0 hw (fun _ hw=>KR 8 hw d0j) fun _ hw=>KW 7 hw (fun hb49 hw=>KKn 2 hb49<|KR 8 hw d0j) fun hb49 hw=>KW 5 hw (fun _ hw=>KR 8 hw d0j) fun _ hw=>KR 9 hw d0j
theorem c0i (bj6:Bool) (name:ByteArray) (r:Int) (hw:(bj6=true ->r=7) /\ (bj6=false ->((decide (name=(⟨#[115,105,110,99,101]⟩:ByteArray)))=true ->a1w (decide (name=(⟨#[115,105,110,99,101]⟩:ByteArray))) name r) /\ ((decide (name=(⟨#[115,105,110,99,101]⟩:ByteArray)))=false ->((decide (name=(⟨#[117,110,116,105,108]⟩:ByteArray)))=true ->a1w (decide (name=(⟨#[117,110,116,105,108]⟩:ByteArray))) name r) /\ ((decide (name=(⟨#[117,110,116,105,108]⟩:ByteArray)))=false ->((decide (name=(⟨#[108,101,110,103,116,104]⟩:ByteArray)))=true ->a1w (decide (name=(⟨#[108,101,110,103,116,104]⟩:ByteArray))) name r) /\ ((decide (name=(⟨#[108,101,110,103,116,104]⟩:ByteArray)))=false ->a1w (decide (name=(⟨#[116,105,109,101,111,117,116]⟩:ByteArray))) name r))))):a1y bj6 name r:=
 KW 0 hw (fun _ hw=>KR 8 hw d0j) fun _ hw=>KW 7 hw (fun _ hw=>KJ 2 [] hw) fun _ hw=>KW 6 hw (fun _ hw=>KJ 2 [] hw) fun _ hw=>KW 6 hw (fun _ hw=>KJ 2 [] hw) fun _ hw=>KJ 5 [] hw
theorem c2t (bj4:Bool) (name:ByteArray) (r:Int) (hw:(bj4=true ->r=1) /\ (bj4=false ->((decide (name=(⟨#[100,111,99]⟩:ByteArray)))=true ->a1y (decide (name=(⟨#[100,111,99]⟩:ByteArray))) name r) /\ ((decide (name=(⟨#[100,111,99]⟩:ByteArray)))=false ->((decide (name=(⟨#[97,108,105,97,115]⟩:ByteArray)))=true ->a1y (decide (name=(⟨#[97,108,105,97,115]⟩:ByteArray))) name r) /\ ((decide (name=(⟨#[97,108,105,97,115]⟩:ByteArray)))=false ->((decide (name=(⟨#[114,111,117,116,101]⟩:ByteArray)))=true ->a1y (decide (name=(⟨#[114,111,117,116,101]⟩:ByteArray))) name r) /\ ((decide (name=(⟨#[114,111,117,116,101]⟩:ByteArray)))=false ->a1y (decide (name=(⟨#[111,119,110,101,114]⟩:ByteArray))) name r))))):a6j bj4 name r:=
 KW 0 hw (fun _ hw=>KR 8 hw d0j) fun _ hw=>KW 7 hw (fun _ hw=>KJ 2 [] hw) fun _ hw=>KW 6 hw (fun _ hw=>KJ 2 [] hw) fun _ hw=>KW 6 hw (fun _ hw=>KJ 2 [] hw) fun _ hw=>KJ 5 [] hw
theorem c7y (name:ByteArray) (r:Int) (hw:((decide (name=(⟨#[100,101,112,114,101,99,97,116,101,100]⟩:ByteArray)))=true ->a6j (decide (name=(⟨#[100,101,112,114,101,99,97,116,101,100]⟩:ByteArray))) name r) /\ ((decide (name=(⟨#[100,101,112,114,101,99,97,116,101,100]⟩:ByteArray)))=false ->((decide (name=(⟨#[115,101,99,114,101,116]⟩:ByteArray)))=true ->a6j (decide (name=(⟨#[115,101,99,114,101,116]⟩:ByteArray))) name r) /\ ((decide (name=(⟨#[115,101,99,114,101,116]⟩:ByteArray)))=false ->a6j (decide (name=(⟨#[105,100,101,109,112,111,116,101,110,116]⟩:ByteArray))) name r))):b8o name r:=
 fP (KW 19 hw (fun _ hw=>KJ 2 [] hw) fun _ hw=>KW 6 hw (fun _ hw=>KJ 2 [] hw) fun _ hw=>KJ 5 [] hw)
theorem d3w (r:Bool):plain (f88 r)=true:=rfl
def a4m (bj15:Bool) (target:Int) (r:Bool):Prop:=JP Tryz.prog 178 (f88 r) 15 [(36,aB bj15),(1,aI target)]
def a1x (bj14:Bool) (name:ByteArray) (target:Int) (r:Bool):Prop:=JP Tryz.prog 178 (f88 r) 10 [(29,aB bj14),(5,aS name),(1,aI target)]
def a4k (bj12:Bool) (name:ByteArray) (target:Int) (r:Bool):Prop:=JP Tryz.prog 178 (f88 r) 6 [(15,aB bj12),(5,aS name),(1,aI target)]
def a8j (bj8:Bool) (name:ByteArray) (target:Int) (r:Bool):Prop:=JP Tryz.prog 178 (f88 r) 3 [(6,aB bj8),(5,aS name),(1,aI target)]
theorem b91 (bj15:Bool) (target:Int) (r:Bool) (hw:(bj15=true ->r=(target==6)) /\ (bj15=false ->r=((target==1)||(target==5)))):a4m bj15 target r:=
 KW 0 hw (fun _ hw=>KR 10 hw d3w) fun _ hw=>KT 8 3<|KR 4 hw d3w
theorem b93 (bj14:Bool) (name:ByteArray) (target:Int) (r:Bool) (hw:(bj14=true ->r=(target==2)) /\ (bj14=false ->((decide (name=(⟨#[105,100,101,109,112,111,116,101,110,116]⟩:ByteArray)))=true ->a4m (decide (name=(⟨#[105,100,101,109,112,111,116,101,110,116]⟩:ByteArray))) target r) /\ ((decide (name=(⟨#[105,100,101,109,112,111,116,101,110,116]⟩:ByteArray)))=false ->((decide (name=(⟨#[116,105,109,101,111,117,116]⟩:ByteArray)))=true ->a4m (decide (name=(⟨#[116,105,109,101,111,117,116]⟩:ByteArray))) target r) /\ ((decide (name=(⟨#[116,105,109,101,111,117,116]⟩:ByteArray)))=false ->a4m (decide (name=(⟨#[114,111,117,116,101]⟩:ByteArray))) target r)))):a1x bj14 name target r:=
 KW 0 hw (fun _ hw=>KR 10 hw d3w) fun _ hw=>KW 7 hw (fun _ hw=>KJ 2 [] hw) fun _ hw=>KW 6 hw (fun _ hw=>KJ 2 [] hw) fun _ hw=>KJ 5 [] hw
theorem c0j (bj12:Bool) (name:ByteArray) (target:Int) (r:Bool) (hw:(bj12=true ->r=(((target==2)||(target==4))||(target==6))) /\ (bj12=false ->((decide (name=(⟨#[109,105,110]⟩:ByteArray)))=true ->a1x (decide (name=(⟨#[109,105,110]⟩:ByteArray))) name target r) /\ ((decide (name=(⟨#[109,105,110]⟩:ByteArray)))=false ->((decide (name=(⟨#[109,97,120]⟩:ByteArray)))=true ->a1x (decide (name=(⟨#[109,97,120]⟩:ByteArray))) name target r) /\ ((decide (name=(⟨#[109,97,120]⟩:ByteArray)))=false ->((decide (name=(⟨#[108,101,110,103,116,104]⟩:ByteArray)))=true ->a1x (decide (name=(⟨#[108,101,110,103,116,104]⟩:ByteArray))) name target r) /\ ((decide (name=(⟨#[108,101,110,103,116,104]⟩:ByteArray)))=false ->a1x (decide (name=(⟨#[115,101,99,114,101,116]⟩:ByteArray))) name target r))))):a4k bj12 name target r:=
 KW 0 hw (fun _ hw=>KT 5 3<|KT 1 3<|KR 6 hw d3w) fun _ hw=>KW 7 hw (fun _ hw=>KJ 2 [] hw) fun _ hw=>KW 6 hw (fun _ hw=>KJ 2 [] hw) fun _ hw=>KW 6 hw (fun _ hw=>KJ 2 [] hw) fun _ hw=>KJ 5 [] hw
theorem b99 (bj8:Bool) (name:ByteArray) (target:Int) (r:Bool) (hw:(bj8=true ->r=((decide (1<=target))&&(decide (target<=6)))) /\ (bj8=false ->((decide (name=(⟨#[97,108,105,97,115]⟩:ByteArray)))=true ->a4k (decide (name=(⟨#[97,108,105,97,115]⟩:ByteArray))) name target r) /\ ((decide (name=(⟨#[97,108,105,97,115]⟩:ByteArray)))=false ->((decide (name=(⟨#[115,105,110,99,101]⟩:ByteArray)))=true ->a4k (decide (name=(⟨#[115,105,110,99,101]⟩:ByteArray))) name target r) /\ ((decide (name=(⟨#[115,105,110,99,101]⟩:ByteArray)))=false ->a4k (decide (name=(⟨#[117,110,116,105,108]⟩:ByteArray))) name target r)))):a8j bj8 name target r:=
 KW 0 hw (fun _ hw=>KT 5 3<|KR 6 hw d3w) fun _ hw=>KW 7 hw (fun _ hw=>KJ 2 [] hw) fun _ hw=>KW 6 hw (fun _ hw=>KJ 2 [] hw) fun _ hw=>KJ 5 [] hw
theorem c7m (name:ByteArray) (target:Int) (r:Bool) (hw:((decide (name=(⟨#[100,101,112,114,101,99,97,116,101,100]⟩:ByteArray)))=true ->a8j (decide (name=(⟨#[100,101,112,114,101,99,97,116,101,100]⟩:ByteArray))) name target r) /\ ((decide (name=(⟨#[100,101,112,114,101,99,97,116,101,100]⟩:ByteArray)))=false ->a8j (decide (name=(⟨#[100,111,99]⟩:ByteArray))) name target r)):c3r name target r:=
 fP (KW 19 hw (fun _ hw=>KJ 2 [] hw) fun _ hw=>KJ 5 [] hw)
theorem f3w (r:Bool):plain (h0r r)=true:=rfl
theorem c5d (n:b1x) (r:Bool) (hw:∃y1,b8o n.Name y1 /\ ((((y1 !=0)&&(n.Val.Kind==y1))=true ->∃y2,c2w y1 n.Val y2 /\ (r=y2)) /\ (((y1 !=0)&&(n.Val.Kind==y1))=false ->r=false))):c0v n r:=
 fP (KC 10 hw f9c fun _ hw=>KT 8 6<|KW 1 hw (fun _ hw=>KC 3 hw h1i fun _ hw=>KR 5 hw f3w) fun _ hw=>KR 9 hw f3w)
theorem e2o (r:Bool):plain (h0x r)=true:=rfl
theorem c4h (p:A5) (o_:GOp) (r:Bool) (hw:((o_.Kind==10)=true ->r=(((decide (0<=o_.Target))&&(decide (o_.Target<(p.Progs.length:Int))))&&(o_.Card !=3))) /\ ((o_.Kind==10)=false ->((o_.Kind==9)=true ->r=((decide (0<=o_.Target))&&(decide (o_.Target<(p.Enums.length:Int))))) /\ ((o_.Kind==9)=false ->r=(o_.Target==(-1))))):b70 p o_ r:=
 fP (KW 21 hw (fun _ hw=>KT2 6 7 (decide (0<=o_.Target)) (fun z=>aB (z&&(decide (o_.Target<(p.Progs.length:Int))))) (fun _ key=>KL 4 P3 p.Progs<|KE2 2 key) (fun _ key=>KE2 7 key)<|KT 1 4<|KR 6 hw e2o) fun _ hw=>KW 6 hw (fun _ hw=>KT2 6 7 (decide (0<=o_.Target)) (fun z=>aB (z&&(decide (o_.Target<(p.Enums.length:Int))))) (fun _ key=>KL 4 a0i p.Enums<|KE2 2 key) (fun _ key=>KE2 7 key)<|KR 6 hw e2o) fun _ hw=>KR 12 hw e2o)
theorem f20 (r:Bool):plain (g92 r)=true:=rfl
theorem c9i (s:ByteArray) (at_:Int) (c:Int) (r:Bool) (hw:((c==65533)=true ->(0<=at_ /\ at_<=(s.size:Int) /\ (s.size:Int)<=(s.size:Int)) /\ (∃y1,a7o (s.extract at_.toNat (s.size:Int).toNat) (⟨#[239,191,189]⟩:ByteArray) y1 /\ (r=(!y1)))) /\ ((c==65533)=false ->r=false)):c7v s at_ c r:=
 fP (KW 10 hw (fun _ hw=>KSS 2 hw fun hw=>KC 0 hw g7x fun _ hw=>KR 6 hw f20) fun _ hw=>KR 10 hw f20)
theorem b9m (r:Int):plain (g9z r)=true:=rfl
theorem c7x (s:ByteArray) (i:Int) (r:Int) (hw:(0<=i /\ i<(s.size:Int)) /\ (((decide ((F0 s i.toNat)<128))=true ->r=1) /\ ((decide ((F0 s i.toNat)<128))=false ->∃R1:Bool ->Prop,(∀bz1:Bool,R1 bz1 ->((bz1=true ->r=2) /\ (bz1=false ->∃R2:Bool ->Prop,(∀bz2:Bool,R2 bz2 ->(∃R3:Bool ->Prop,(∀bz3:Bool,R3 bz3 ->((bz3=true ->r=3) /\ (bz3=false ->∃R4:Bool ->Prop,(∀bz4:Bool,R4 bz4 ->(∃R5:Bool ->Prop,(∀bz5:Bool,R5 bz5 ->((bz5=true ->r=3) /\ (bz5=false ->∃R6:Bool ->Prop,(∀bz6:Bool,R6 bz6 ->((bz6=true ->r=3) /\ (bz6=false ->∃R7:Bool ->Prop,(∀bz7:Bool,R7 bz7 ->(∃R8:Bool ->Prop,(∀bz8:Bool,R8 bz8 ->((bz8=true ->r=4) /\ (bz8=false ->∃R9:Bool ->Prop,(∀bz9:Bool,R9 bz9 ->((bz9=true ->r=4) /\ (bz9=false ->∃R10:Bool ->Prop,(∀bz10:Bool,R10 bz10 ->((bz10=true ->∃y11,a3f s (wI (i+2)) 2 y11 /\ ((y11=true ->r=4) /\ (y11=false ->r=0))) /\ (bz10=false ->r=0))) /\ ((((F0 s i.toNat)==244)=true ->∃y10,a1b s (wI (i+1)) 128 143 y10 /\ (R10 y10)) /\ (((F0 s i.toNat)==244)=false ->R10 false))))) /\ ((((decide (241<=(F0 s i.toNat)))&&(decide ((F0 s i.toNat)<=243)))=true ->∃y9,a3f s (wI (i+1)) 3 y9 /\ (R9 y9)) /\ (((decide (241<=(F0 s i.toNat)))&&(decide ((F0 s i.toNat)<=243)))=false ->R9 false))))) /\ ((bz7=true ->∃y8,a3f s (wI (i+2)) 2 y8 /\ (R8 y8)) /\ (bz7=false ->R8 false)))) /\ ((((F0 s i.toNat)==240)=true ->∃y7,a1b s (wI (i+1)) 144 191 y7 /\ (R7 y7)) /\ (((F0 s i.toNat)==240)=false ->R7 false))))) /\ (((((decide (225<=(F0 s i.toNat)))&&(decide ((F0 s i.toNat)<=239)))&&((F0 s i.toNat) !=237))=true ->∃y6,a3f s (wI (i+1)) 2 y6 /\ (R6 y6)) /\ ((((decide (225<=(F0 s i.toNat)))&&(decide ((F0 s i.toNat)<=239)))&&((F0 s i.toNat) !=237))=false ->R6 false))))) /\ ((bz4=true ->∃y5,a3f s (wI (i+2)) 1 y5 /\ (R5 y5)) /\ (bz4=false ->R5 false)))) /\ ((((F0 s i.toNat)==237)=true ->∃y4,a1b s (wI (i+1)) 128 159 y4 /\ (R4 y4)) /\ (((F0 s i.toNat)==237)=false ->R4 false))))) /\ ((bz2=true ->∃y3,a3f s (wI (i+2)) 1 y3 /\ (R3 y3)) /\ (bz2=false ->R3 false)))) /\ ((((F0 s i.toNat)==224)=true ->∃y2,a1b s (wI (i+1)) 160 191 y2 /\ (R2 y2)) /\ (((F0 s i.toNat)==224)=false ->R2 false))))) /\ ((((decide (194<=(F0 s i.toNat)))&&(decide ((F0 s i.toNat)<=223)))=true ->∃y1,a3f s (wI (i+1)) 1 y1 /\ (R1 y1)) /\ (((decide (194<=(F0 s i.toNat)))&&(decide ((F0 s i.toNat)<=223)))=false ->R1 false))))):c4e s i r:=
 fP (KIS 9 hw fun hw=>KW 12 hw (fun _ hw=>KR 8 hw b9m) fun _ hw=>KT 5 3<|KQ 1 5 kB hw (fun _ hw=>KW 3 hw (fun _ hw=>KR 8 hw b9m) fun _ hw=>KQ 5 5 kB hw (fun _ hw=>KQ 1 5 kB hw (fun _ hw=>KW 3 hw (fun _ hw=>KR 8 hw b9m) fun _ hw=>KQ 5 5 kB hw (fun _ hw=>KQ 1 5 kB hw (fun _ hw=>KW 3 hw (fun _ hw=>KR 8 hw b9m) fun _ hw=>KT 5 3<|KT 1 3<|KQ 1 5 kB hw (fun _ hw=>KW 3 hw (fun _ hw=>KR 8 hw b9m) fun _ hw=>KQ 5 5 kB hw (fun _ hw=>KQ 1 5 kB hw (fun _ hw=>KW 3 hw (fun _ hw=>KR 8 hw b9m) fun _ hw=>KT 5 3<|KQ 1 5 kB hw (fun _ hw=>KW 3 hw (fun _ hw=>KR 8 hw b9m) fun _ hw=>KQ 5 5 kB hw (fun _ hw=>KW 1 hw (fun _ hw=>KC 3 hw d6i fun _ hw=>KW 4 hw (fun _ hw=>KR 8 hw b9m) fun _ hw=>KR 9 hw b9m) fun _ hw=>KR 18 hw b9m) (fun _ key _ hw=>KC 3 hw e11 fun _ hw=>KE 1 key hw) fun _ key _ hw=>KE 5 key hw) (fun _ key _ hw=>KC 3 hw d6i fun _ hw=>KE 1 key hw) fun _ key _ hw=>KE 5 key hw) (fun _ key _ hw=>KC 3 hw d6i fun _ hw=>KE 1 key hw) fun _ key _ hw=>KE 5 key hw) (fun _ key _ hw=>KC 3 hw e11 fun _ hw=>KE 1 key hw) fun _ key _ hw=>KE 5 key hw) (fun _ key _ hw=>KC 3 hw d6i fun _ hw=>KE 1 key hw) fun _ key _ hw=>KE 5 key hw) (fun _ key _ hw=>KC 3 hw d6i fun _ hw=>KE 1 key hw) fun _ key _ hw=>KE 5 key hw) (fun _ key _ hw=>KC 3 hw e11 fun _ hw=>KE 1 key hw) fun _ key _ hw=>KE 5 key hw) (fun _ key _ hw=>KC 3 hw d6i fun _ hw=>KE 1 key hw) fun _ key _ hw=>KE 5 key hw) (fun _ key _ hw=>KC 3 hw e11 fun _ hw=>KE 1 key hw) fun _ key _ hw=>KE 5 key hw) (fun _ key _ hw=>KC 3 hw d6i fun _ hw=>KE 1 key hw) fun _ key _ hw=>KE 5 key hw)
theorem d04 (r:Int):plain (g6g r)=true:=rfl
def X9 (ij1:Int) (v:A0) (level:Int) (x:C9) (o_:GOp) (r:Int):Prop:=J Tryz.prog 186 (.ret (g6g r)) 9 [(26,aI ij1),(25,aI (v.List_.length:Int)),(24,.sl (List.map C0 v.List_) .no),(5,.ptr 1 0),(4,.ptr 0 0),(3,aI level)] ⟨[some (B7 x.p),some (W3 o_)],[],[]⟩
theorem a3p {ij1:Int} {v:A0} {level:Int} {x:C9} {o_:GOp}:a9l [true,true] 0 [(26,aI ij1),(25,aI (v.List_.length:Int)),(24,.sl (List.map C0 v.List_) .no),(5,.ptr 1 0),(4,.ptr 0 0),(3,aI level)]=true /\ a6x [true,true] 0 [some (B7 x.p),some (W3 o_)]=true:=⟨by first|rfl|simp,by first|rfl|simp⟩
theorem a2l (ij1:Int) (v:A0) (level:Int) (x:C9) (o_:GOp) (r:Int) (hw:((decide (ij1<(v.List_.length:Int)))=true ->∃y4,v.List_[ij1.toNat]? =some y4 /\ 0<=ij1 /\ (∃y5,Z5 x o_ y4 level y5 /\ (((y5 !=0)=true ->r=y5) /\ ((y5 !=0)=false ->X9 (wI (ij1+1)) v level x o_ r)))) /\ ((decide (ij1<(v.List_.length:Int)))=false ->r=0)):X9 ij1 v level x o_ r:=
 KW 7 hw (fun _ hw=>KI 6 M5 hw fun _ hw=>KC 11 hw f5o fun _ hw=>KW 9 hw (fun _ hw=>KR 14 hw d04) fun _ hw=>KJl 8 [] hw a3p) fun _ hw=>KR 13 hw d04
theorem b32 (x:C9) (o_:GOp) (v:A0) (level:Int) (r:Int) (hw:((o_.Card==4)=true ->∃R1:Bool ->Prop,(∀bz1:Bool,R1 bz1 ->((bz1=true ->r=12) /\ (bz1=false ->X9 0 v level x o_ r))) /\ (((v.Kind !=11)=true ->R1 true) /\ ((v.Kind !=11)=false ->∃y1,b01 v y1 /\ (R1 y1)))) /\ ((o_.Card==4)=false ->((o_.Card==5)=true ->∃R2:Bool ->Prop,(∀bz2:Bool,R2 bz2 ->((bz2=true ->r=12) /\ (bz2=false ->∃y7,a2m x o_ v.Pairs level y7 /\ (r=y7)))) /\ (((v.Kind !=12)=true ->R2 true) /\ ((v.Kind !=12)=false ->∃y6,b01 v y6 /\ (R2 y6)))) /\ ((o_.Card==5)=false ->∃y8,Z5 x o_ v level y8 /\ (r=y8)))):a49 x o_ v level r:=
 fP (KW 22 hw (fun _ hw=>KQ 7 3 kB hw (fun _ hw=>KW 2 hw (fun _ hw=>KR 9 hw d04) fun _ hw=>KL 7 M5 v.List_<|KJl 5 [] hw a3p) (fun _ key _ hw=>KE 3 key hw) fun _ key _ hw=>KC 1 hw f1l fun _ hw=>KE 1 key hw) fun _ hw=>KW 6 hw (fun _ hw=>KQ 7 3 kB hw (fun _ hw=>KW 2 hw (fun _ hw=>KR 9 hw d04) fun _ hw=>KC 9 hw g58 fun _ hw=>KR 6 hw d04) (fun _ key _ hw=>KE 3 key hw) fun _ key _ hw=>KC 1 hw f1l fun _ hw=>KE 1 key hw) fun _ hw=>KC 9 hw f5o fun _ hw=>KR 4 hw d04)
theorem f27 (r:Int):plain (g55 r)=true:=rfl
def N0 (ij1:Int) (s:(List (Int × A0))) (f:GFn) (r:Int):Prop:=JP Tryz.prog 187 (g55 r) 3 [(8,aI ij1),(7,aI (s.length:Int)),(0,.sl (List.map B3 s) .no),(1,.clo (.func f.fn) f.fi f.cap)]
theorem a41 (ij1:Int) (s:(List (Int × A0))) (f:GFn) (r:Int) (hw:((decide (ij1<(s.length:Int)))=true ->∃y3,s[ij1.toNat]? =some y3 /\ 0<=ij1 /\ (∃y4,a50 Tryz.prog [] (.clo (.func f.fn) f.fi f.cap) [.agg (W2 y3)] (aB y4) /\ ((y4=true ->r=ij1) /\ (y4=false ->N0 (wI (ij1+1)) s f r)))) /\ ((decide (ij1<(s.length:Int)))=false ->r=(-1))):N0 ij1 s f r:=
 KW 7 hw (fun _ hw=>KI 15 C4 hw fun _ hw=>KF 1 hw fun _ hw=>KW 2 hw (fun _ hw=>KR 12 hw f27) fun _ hw=>KJ 8 [] hw) fun _ hw=>KR 11 hw f27
theorem a62 (s:(List (Int × A0))) (f:GFn) (r:Int) (hw:N0 0 s f r):a2y s f r:=
 fP (KL 9 C4 s<|KJ 5 [] hw)
theorem a5z (s:(List A0)) (hw:s.length*128<=140737488355328):a1s s:=e2w M5 hw
def O3 (ij17:Int) (ij18:Int) (ij15:Int) (n0:Nat) (n:Int) (cmp:GFn) (lj19:(List (Int × A0))) (r:(List (Int × A0))):Prop:=J Tryz.prog 189 (.io 0 (.tuple []) (cellsOf B3 r) []) 14 [(8,aI ij17),(7,aI ij18),(6,aI ij15),(0,.row 0 0 8 n0 n0),(1,aI n),(2,.clo (.func cmp.fn) cmp.fi cmp.cap)] ⟨[some (cellsOf B3 lj19)],[],[]⟩
def I7 (ij15:Int) (n0:Nat) (n:Int) (cmp:GFn) (lj16:(List (Int × A0))) (r:(List (Int × A0))):Prop:=J Tryz.prog 189 (.io 0 (.tuple []) (cellsOf B3 r) []) 9 [(6,aI ij15),(0,.row 0 0 8 n0 n0),(1,aI n),(2,.clo (.func cmp.fn) cmp.fi cmp.cap)] ⟨[some (cellsOf B3 lj16)],[],[]⟩
def P7 (ij9:Int) (ij10:Int) (n0:Nat) (n:Int) (cmp:GFn) (lj11:(List (Int × A0))) (r:(List (Int × A0))):Prop:=J Tryz.prog 189 (.io 0 (.tuple []) (cellsOf B3 r) []) 3 [(8,aI ij9),(7,aI ij10),(6,aI 20),(0,.row 0 0 8 n0 n0),(1,aI n),(2,.clo (.func cmp.fn) cmp.fi cmp.cap)] ⟨[some (cellsOf B3 lj11)],[],[]⟩
theorem a52 (ij17:Int) (ij18:Int) (ij15:Int) (n0:Nat) (n:Int) (cmp:GFn) (lj19:(List (Int × A0))) (r:(List (Int × A0))) (hw:((decide (ij17<=n))=true ->∃y19,G7 n0 lj19 ij18 (wI (ij18+ij15)) ij17 cmp y19 /\ (lj19≠[] /\ y19≠[]) /\ (O3 (wI (ij17+(wI (2*ij15)))) ij17 ij15 n0 n cmp y19 r)) /\ ((decide (ij17<=n))=false ->((decide ((wI (ij18+ij15))<n))=true ->∃y18,G7 n0 lj19 ij18 (wI (ij18+ij15)) n cmp y18 /\ (lj19≠[] /\ y18≠[]) /\ (I7 (wI (ij15*2)) n0 n cmp y18 r)) /\ ((decide ((wI (ij18+ij15))<n))=false ->I7 (wI (ij15*2)) n0 n cmp lj19 r))):O3 ij17 ij18 ij15 n0 n cmp lj19 r:=
 KW 9 hw (fun _ hw=>KRO 12 C4 hw d8m fun _ hw=>KJ 17 [] hw) fun _ hw=>KW 21 hw (fun _ hw=>KRO 6 C4 hw d8m fun _ hw=>KJ 9 [] hw) fun _ hw=>KJ 9 [] hw
theorem a5x (ij15:Int) (n0:Nat) (n:Int) (cmp:GFn) (lj16:(List (Int × A0))) (r:(List (Int × A0))) (hw:((decide (ij15<n))=true ->O3 (wI (2*ij15)) 0 ij15 n0 n cmp lj16 r) /\ ((decide (ij15<n))=false ->lj16≠[] /\ r=lj16)):I7 ij15 n0 n cmp lj16 r:=
 KW 9 hw (fun _ hw=>KJ 14 [] hw) fun _ hw=>KRr 4 C4 hw
theorem a59 (ij9:Int) (ij10:Int) (n0:Nat) (n:Int) (cmp:GFn) (lj11:(List (Int × A0))) (r:(List (Int × A0))) (hw:((decide (ij9<=n))=true ->∃y20,K0 n0 lj11 ij10 ij9 cmp y20 /\ (lj11≠[] /\ y20≠[]) /\ (P7 (wI (ij9+20)) ij9 n0 n cmp y20 r)) /\ ((decide (ij9<=n))=false ->∃y11,K0 n0 lj11 ij10 n cmp y11 /\ (lj11≠[] /\ y11≠[]) /\ (I7 20 n0 n cmp y11 r))):P7 ij9 ij10 n0 n cmp lj11 r:=
 KW 9 hw (fun _ hw=>KRO 9 C4 hw f30 fun _ hw=>KJ 16 [] hw) fun _ hw=>KRO 11 C4 hw f30 fun _ hw=>KJ 4 [] hw
theorem a84 (n0:Nat) (data:(List (Int × A0))) (n:Int) (cmp:GFn) (r:(List (Int × A0))) (hw:P7 20 0 n0 n cmp data r):a0b n0 data n cmp r:=
 fRO (KJ 15 [] hw)
theorem f39 (r:Int):plain (g72 r)=true:=rfl
def R0 (ij1:Int) (s:(List GOp)) (f:GFn) (r:Int):Prop:=JP Tryz.prog 190 (g72 r) 3 [(8,aI ij1),(7,aI (s.length:Int)),(0,.sl (List.map W3 s) .no),(1,.clo (.func f.fn) f.fi f.cap)]
theorem L3 (ij1:Int) (s:(List GOp)) (f:GFn) (r:Int) (hw:((decide (ij1<(s.length:Int)))=true ->∃y3,s[ij1.toNat]? =some y3 /\ 0<=ij1 /\ (∃y4,a50 Tryz.prog [] (.clo (.func f.fn) f.fi f.cap) [.agg (W3 y3)] (aB y4) /\ ((y4=true ->r=ij1) /\ (y4=false ->R0 (wI (ij1+1)) s f r)))) /\ ((decide (ij1<(s.length:Int)))=false ->r=(-1))):R0 ij1 s f r:=
 KW 7 hw (fun _ hw=>KI 15 c0n hw fun _ hw=>KF 1 hw fun _ hw=>KW 2 hw (fun _ hw=>KR 12 hw f39) fun _ hw=>KJ 8 [] hw) fun _ hw=>KR 11 hw f39
theorem b0n (s:(List GOp)) (f:GFn) (r:Int) (hw:R0 0 s f r):a54 s f r:=
 fP (KL 9 c0n s<|KJ 5 [] hw)
theorem f3j (r:(List (A0 × A0))):plain (g9h r)=true:=(psl (E5 r))
theorem b0p (s:(List (A0 × A0))) (r:(List (A0 × A0))) (hw:∀bj1:Bool,(s≠[] ->bj1=false) ->((bj1=true ->r=([]:(List (A0 × A0)))) /\ (bj1=false ->(([]:List (A0 × A0)).length+s.length)*256<=140737488355328 /\ (r=(([]:List (A0 × A0))++s))))):a6b s r:=
 fP (KN 9 C7 hw fun _ hw=>KW 2 hw (fun _ hw=>KR 7 hw f3j) fun _ hw=>KAf 6 C7 hw mF xE fun hw=>KR 4 hw f3j)
theorem a6y (s:(List (A0 × A0))) (hw:s≠[] /\ s.length*256<=140737488355328):a26 s:=d5s C7 hw
theorem a3y (n0:Nat) (x:(List (A0 × A0))) (cmp:GFn) (r:(List (A0 × A0))) (hw:∃y1,a0e n0 x (n0:Int) cmp y1 /\ (x≠[] /\ y1≠[]) /\ (y1≠[] /\ r=y1)):Q9 n0 x cmp r:=
 fRO (KRO 5 C7 hw g3g fun _ hw=>KRr 1 C7 hw)
theorem g24 (r:Int):plain (h03 r)=true:=rfl
theorem c12 (a:(A0 × A0)) (b:(A0 × A0)) (r:Int) (hw:∃y1,a8z a.1 b.1 y1 /\ (r=y1)):d1f a b r:=
 fP (KC 13 hw e0o fun _ hw=>KR 4 hw g24)
theorem g3b (r:Bool):plain (h0p r)=true:=rfl
theorem b6c (a:A0) (b:A0) (r:Bool) (hw:∃y1,a8z a b y1 /\ (r=(y1==0))):b1n a b r:=
 fP (KC 11 hw e0o fun _ hw=>KR 5 hw g3b)
end
section
attribute [local irreducible] Ok run put c9l br jn pos dr0 dr1 So
attribute [-simp] List.map_take List.map_drop List.map_append List.map_set List.map_replicate List.map_cons List.map_map
attribute [local simp] plain plainL a9l a6x Z8 low lowL lowLL K8 G3 G8 F9 K1 H3 G5 G4 L7 T7 a0m T6 a1o O7 T4 G1 H7 T5 K3 B5 F1 O6 E5 O2 E6 P6 K7 S0 K6 U8 N9 W0 Q5 F2 S5 K5 H8 C5 M4 N8 O9 H4 F7 X1 U1 Z1 W1 G0 Q7 a0n a0c a57 a3c c5a d58 c7s c7e a87 b0q c8j c8d b66 c1n e5m eFn b8u b3y b39 b3k b84 b40 b3o b4e b80 c21 c4n b30 b82 b0y b33 b34 b4h b4o b4c b4m b3s a5s a7v a7t a0l a7j a7g a29 a75 b0w c4c b8h b8j b4j b43 b3z b8f b3f b4d b4u b8t c4i c26 b4v b8s b0t b4r b3x b3l b4y b4q b41 b45 a5r a7h a7l a0p a7x a71 a3b a7y b03 c4j b3p b8q b0u b4k b36 b3h b4t b4f b42 b4s a5j a7i a7w a0t a74 a7n a3h a72 b02 d0c
theorem d4h (r:b81):plain (g9y r)=true:=(c5a r)
theorem b9v (v:A0) (r:b81) (hw:∃y1,b6r v.Kind y1 /\ ((y1=true ->r=(b81.a_order_one v)) /\ (y1=false ->((v.Kind==11)=true ->r=(b81.a_order_list v.List_)) /\ ((v.Kind==11)=false ->((v.Kind==12)=true ->r=(b81.a_order_pairs v.Pairs)) /\ ((v.Kind==12)=false ->((v.Kind==10)=true ->r=(b81.a_order_parts (⟨v.Slots,v.Raws⟩:b9j))) /\ ((v.Kind==10)=false ->r=b81.nil)))))):a8k v r:=
 fP (KC 12 hw g4i fun _ hw=>KW 3 hw (fun _ hw=>KR 10 hw d4h) fun _ hw=>KW 8 hw (fun _ hw=>KR 11 hw d4h) fun _ hw=>KW 8 hw (fun _ hw=>KR 11 hw d4h) fun _ hw=>KW 8 hw (fun _ hw=>KR 14 hw d4h) fun _ hw=>KR 9 hw d4h)
theorem d0m (r:Int):plain (g9w r)=true:=rfl
theorem c65 (a:A0) (b:A0) (r:Int) (hw:((a.Kind !=b.Kind)=true ->∃y1,Q3 a.Kind b.Kind y1 /\ (r=y1)) /\ ((a.Kind !=b.Kind)=false ->∃y2,b6r a.Kind y2 /\ (((!y2)=true ->r=0) /\ ((!y2)=false ->∃y3,b7p a.Kind y3 /\ ((y3=true ->∃y4,a14 a.Text b.Text y4 /\ (r=y4)) /\ (y3=false ->(((a.Kind==2)||(a.Kind==3))=true ->∃y5,Q3 (wI a.Bits) (wI b.Bits) y5 /\ (r=y5)) /\ (((a.Kind==2)||(a.Kind==3))=false ->((a.Kind==6)=true ->∃y6,b2l a.Bits y6 /\ (∃y7,b2l b.Bits y7 /\ (∃y8,Z3 y6 y7 y8 /\ (r=y8)))) /\ ((a.Kind==6)=false ->∃y9,Z3 a.Bits b.Bits y9 /\ (r=y9))))))))):c2v a b r:=
 fP (KW 19 hw (fun _ hw=>KC 6 hw d6k fun _ hw=>KR 6 hw d0m) fun _ hw=>KC 4 hw g4i fun _ hw=>KW 4 hw (fun _ hw=>KR 8 hw d0m) fun _ hw=>KC 4 hw g3r fun _ hw=>KW 3 hw (fun _ hw=>KC 6 hw g32 fun _ hw=>KR 6 hw d0m) fun _ hw=>KT 6 4<|KW 3 hw (fun _ hw=>KC 8 hw d6k fun _ hw=>KR 6 hw d0m) fun _ hw=>KW 8 hw (fun _ hw=>KD 1 [0,1]<|KC 2 hw g0a fun _ hw=>KC 2 hw g0a fun _ hw=>KC 0 hw f70 fun _ hw=>KR 7 hw d0m) fun _ hw=>KC 9 hw f70 fun _ hw=>KR 4 hw d0m)
theorem d8r (r:Int):plain (g8l r)=true:=rfl
def D2 (ij1:Int) (s1_:(List A0)) (s2_:(List A0)) (cmp:GFn) (r:Int):Prop:=JP Tryz.prog 199 (g8l r) 3 [(13,aI ij1),(12,aI (s1_.length:Int)),(11,.sl (List.map C0 s1_) .no),(0,.sl (List.map C0 s1_) .no),(1,.sl (List.map C0 s2_) .no),(2,.clo (.func cmp.fn) cmp.fi cmp.cap)]
theorem T9 {ij1:Int} {s1_:(List A0)} {s2_:(List A0)} {cmp:GFn}:a9l [] 0 [(13,aI ij1),(12,aI (s1_.length:Int)),(11,.sl (List.map C0 s1_) .no),(0,.sl (List.map C0 s1_) .no),(1,.sl (List.map C0 s2_) .no),(2,.clo (.func cmp.fn) cmp.fi cmp.cap)]=true /\ a6x [] 0 []=true:=⟨by first|rfl|simp,by first|rfl|simp⟩
theorem T2 (ij1:Int) (s1_:(List A0)) (s2_:(List A0)) (cmp:GFn) (r:Int) (hw:((decide (ij1<(s1_.length:Int)))=true ->∃y4,s1_[ij1.toNat]? =some y4 /\ 0<=ij1 /\ (((decide ((s2_.length:Int)<=ij1))=true ->r=1) /\ ((decide ((s2_.length:Int)<=ij1))=false ->∃y5,s2_[ij1.toNat]? =some y5 /\ 0<=ij1 /\ (∃y6,a50 Tryz.prog [] (.clo (.func cmp.fn) cmp.fi cmp.cap) [.agg (B0 y4),.agg (B0 y5)] (aI y6) /\ (((y6 !=0)=true ->r=y6) /\ ((y6 !=0)=false ->D2 (wI (ij1+1)) s1_ s2_ cmp r)))))) /\ ((decide (ij1<(s1_.length:Int)))=false ->((decide ((s1_.length:Int)<(s2_.length:Int)))=true ->r=(-1)) /\ ((decide ((s1_.length:Int)<(s2_.length:Int)))=false ->r=0))):D2 ij1 s1_ s2_ cmp r:=
 KW 7 hw (fun _ hw=>KI 7 M5 hw fun _ hw=>KL 11 M5 s2_<|KW 3 hw (fun _ hw=>KR 12 hw d8r) fun _ hw=>KI 6 M5 hw fun _ hw=>KF 10 hw fun _ hw=>KW 9 hw (fun _ hw=>KR 12 hw d8r) fun _ hw=>KJl 8 [] hw T9) fun _ hw=>KL 9 M5 s1_<|KL 1 M5 s2_<|KW 3 hw (fun _ hw=>KR 7 hw d8r) fun _ hw=>KR 8 hw d8r
theorem U9 (s1_:(List A0)) (s2_:(List A0)) (cmp:GFn) (r:Int) (hw:D2 0 s1_ s2_ cmp r):J9 s1_ s2_ cmp r:=
 fP (KL 9 M5 s1_<|KJ 5 [] hw)
theorem d9d (r:Int):plain (g73 r)=true:=rfl
def D1 (ij1:Int) (s1_:(List (A0 × A0))) (s2_:(List (A0 × A0))) (cmp:GFn) (r:Int):Prop:=JP Tryz.prog 200 (g73 r) 3 [(13,aI ij1),(12,aI (s1_.length:Int)),(11,.sl (List.map B4 s1_) .no),(0,.sl (List.map B4 s1_) .no),(1,.sl (List.map B4 s2_) .no),(2,.clo (.func cmp.fn) cmp.fi cmp.cap)]
theorem U2 {ij1:Int} {s1_:(List (A0 × A0))} {s2_:(List (A0 × A0))} {cmp:GFn}:a9l [] 0 [(13,aI ij1),(12,aI (s1_.length:Int)),(11,.sl (List.map B4 s1_) .no),(0,.sl (List.map B4 s1_) .no),(1,.sl (List.map B4 s2_) .no),(2,.clo (.func cmp.fn) cmp.fi cmp.cap)]=true /\ a6x [] 0 []=true:=⟨by first|rfl|simp,by first|rfl|simp⟩
theorem S8 (ij1:Int) (s1_:(List (A0 × A0))) (s2_:(List (A0 × A0))) (cmp:GFn) (r:Int) (hw:((decide (ij1<(s1_.length:Int)))=true ->∃y4,s1_[ij1.toNat]? =some y4 /\ 0<=ij1 /\ (((decide ((s2_.length:Int)<=ij1))=true ->r=1) /\ ((decide ((s2_.length:Int)<=ij1))=false ->∃y5,s2_[ij1.toNat]? =some y5 /\ 0<=ij1 /\ (∃y6,a50 Tryz.prog [] (.clo (.func cmp.fn) cmp.fi cmp.cap) [.agg (U4 y4),.agg (U4 y5)] (aI y6) /\ (((y6 !=0)=true ->r=y6) /\ ((y6 !=0)=false ->D1 (wI (ij1+1)) s1_ s2_ cmp r)))))) /\ ((decide (ij1<(s1_.length:Int)))=false ->((decide ((s1_.length:Int)<(s2_.length:Int)))=true ->r=(-1)) /\ ((decide ((s1_.length:Int)<(s2_.length:Int)))=false ->r=0))):D1 ij1 s1_ s2_ cmp r:=
 KW 7 hw (fun _ hw=>KI 7 C7 hw fun _ hw=>KL 11 C7 s2_<|KW 3 hw (fun _ hw=>KR 12 hw d9d) fun _ hw=>KI 6 C7 hw fun _ hw=>KF 10 hw fun _ hw=>KW 9 hw (fun _ hw=>KR 12 hw d9d) fun _ hw=>KJl 8 [] hw U2) fun _ hw=>KL 9 C7 s1_<|KL 1 C7 s2_<|KW 3 hw (fun _ hw=>KR 7 hw d9d) fun _ hw=>KR 8 hw d9d
theorem V1 (s1_:(List (A0 × A0))) (s2_:(List (A0 × A0))) (cmp:GFn) (r:Int) (hw:D1 0 s1_ s2_ cmp r):J7 s1_ s2_ cmp r:=
 fP (KL 9 C7 s1_<|KJ 5 [] hw)
theorem g20 (r:Int):plain (h0a r)=true:=rfl
theorem c07 (a:(A0 × A0)) (b:(A0 × A0)) (r:Int) (hw:∃y1,a8z a.1 b.1 y1 /\ (∃y2,a8z a.2 b.2 y2 /\ (∃y3,b04 ([y1,y2]:(List Int)) y3 /\ (r=y3)))):d1u a b r:=
 fP (KD 8 [0,1]<|KC 4 hw e0o fun _ hw=>KC 4 hw e0o fun _ hw=>KC 1 hw e8y fun _ hw=>KR 5 hw g20)
theorem f33 (r:Int):plain (g7r r)=true:=rfl
def b0o (ij1:Int) (vals:(List Int)) (r:Int):Prop:=JP Tryz.prog 202 (g7r r) 4 [(8,aI ij1),(7,aI (vals.length:Int)),(6,.sl (List.map a87 vals) .no),(3,aI 0)]
theorem a6n (ij1:Int) (vals:(List Int)) (r:Int) (hw:((decide (ij1<(vals.length:Int)))=true ->∃y2,vals[ij1.toNat]? =some y2 /\ 0<=ij1 /\ (((y2 !=0)=true ->r=y2) /\ ((y2 !=0)=false ->b0o (wI (ij1+1)) vals r))) /\ ((decide (ij1<(vals.length:Int)))=false ->r=0)):b0o ij1 vals r:=
 KW 7 hw (fun _ hw=>KI 6 f3l hw fun _ hw=>KW 11 hw (fun _ hw=>KR 12 hw f33) fun _ hw=>KJ 8 [] hw) fun _ hw=>KR 12 hw f33
theorem c86 (vals:(List Int)) (r:Int) (hw:b0o 0 vals r):b04 vals r:=
 fP (KL 14 f3l vals<|KJ 5 [] hw)
theorem d9z (r:Int):plain (g5b r)=true:=rfl
def E9 (ij1:Int) (s1_:(List (Int × A0))) (s2_:(List (Int × A0))) (cmp:GFn) (r:Int):Prop:=JP Tryz.prog 203 (g5b r) 3 [(13,aI ij1),(12,aI (s1_.length:Int)),(11,.sl (List.map B3 s1_) .no),(0,.sl (List.map B3 s1_) .no),(1,.sl (List.map B3 s2_) .no),(2,.clo (.func cmp.fn) cmp.fi cmp.cap)]
theorem a0g {ij1:Int} {s1_:(List (Int × A0))} {s2_:(List (Int × A0))} {cmp:GFn}:a9l [] 0 [(13,aI ij1),(12,aI (s1_.length:Int)),(11,.sl (List.map B3 s1_) .no),(0,.sl (List.map B3 s1_) .no),(1,.sl (List.map B3 s2_) .no),(2,.clo (.func cmp.fn) cmp.fi cmp.cap)]=true /\ a6x [] 0 []=true:=⟨by first|rfl|simp,by first|rfl|simp⟩
theorem Z2 (ij1:Int) (s1_:(List (Int × A0))) (s2_:(List (Int × A0))) (cmp:GFn) (r:Int) (hw:((decide (ij1<(s1_.length:Int)))=true ->∃y4,s1_[ij1.toNat]? =some y4 /\ 0<=ij1 /\ (((decide ((s2_.length:Int)<=ij1))=true ->r=1) /\ ((decide ((s2_.length:Int)<=ij1))=false ->∃y5,s2_[ij1.toNat]? =some y5 /\ 0<=ij1 /\ (∃y6,a50 Tryz.prog [] (.clo (.func cmp.fn) cmp.fi cmp.cap) [.agg (W2 y4),.agg (W2 y5)] (aI y6) /\ (((y6 !=0)=true ->r=y6) /\ ((y6 !=0)=false ->E9 (wI (ij1+1)) s1_ s2_ cmp r)))))) /\ ((decide (ij1<(s1_.length:Int)))=false ->((decide ((s1_.length:Int)<(s2_.length:Int)))=true ->r=(-1)) /\ ((decide ((s1_.length:Int)<(s2_.length:Int)))=false ->r=0))):E9 ij1 s1_ s2_ cmp r:=
 KW 7 hw (fun _ hw=>KI 7 C4 hw fun _ hw=>KL 11 C4 s2_<|KW 3 hw (fun _ hw=>KR 12 hw d9z) fun _ hw=>KI 6 C4 hw fun _ hw=>KF 10 hw fun _ hw=>KW 9 hw (fun _ hw=>KR 12 hw d9z) fun _ hw=>KJl 8 [] hw a0g) fun _ hw=>KL 9 C4 s1_<|KL 1 C4 s2_<|KW 3 hw (fun _ hw=>KR 7 hw d9z) fun _ hw=>KR 8 hw d9z
theorem a0j (s1_:(List (Int × A0))) (s2_:(List (Int × A0))) (cmp:GFn) (r:Int) (hw:E9 0 s1_ s2_ cmp r):U3 s1_ s2_ cmp r:=
 fP (KL 9 C4 s1_<|KJ 5 [] hw)
theorem g1b (r:Int):plain (h01 r)=true:=rfl
theorem c11 (a:(Int × A0)) (b:(Int × A0)) (r:Int) (hw:∃y1,Q3 a.1 b.1 y1 /\ (∃y2,a8z a.2 b.2 y2 /\ (∃y3,b04 ([y1,y2]:(List Int)) y3 /\ (r=y3)))):d1m a b r:=
 fP (KD 8 [0,1]<|KC 4 hw d6k fun _ hw=>KC 4 hw e0o fun _ hw=>KC 1 hw e8y fun _ hw=>KR 5 hw g1b)
theorem d9v (r:Int):plain (g6i r)=true:=rfl
def F8 (ij1:Int) (s1_:(List Q0)) (s2_:(List Q0)) (cmp:GFn) (r:Int):Prop:=JP Tryz.prog 205 (g6i r) 3 [(13,aI ij1),(12,aI (s1_.length:Int)),(11,.sl (List.map T1 s1_) .no),(0,.sl (List.map T1 s1_) .no),(1,.sl (List.map T1 s2_) .no),(2,.clo (.func cmp.fn) cmp.fi cmp.cap)]
theorem a04 {ij1:Int} {s1_:(List Q0)} {s2_:(List Q0)} {cmp:GFn}:a9l [] 0 [(13,aI ij1),(12,aI (s1_.length:Int)),(11,.sl (List.map T1 s1_) .no),(0,.sl (List.map T1 s1_) .no),(1,.sl (List.map T1 s2_) .no),(2,.clo (.func cmp.fn) cmp.fi cmp.cap)]=true /\ a6x [] 0 []=true:=⟨by first|rfl|simp,by first|rfl|simp⟩
theorem a0x (ij1:Int) (s1_:(List Q0)) (s2_:(List Q0)) (cmp:GFn) (r:Int) (hw:((decide (ij1<(s1_.length:Int)))=true ->∃y4,s1_[ij1.toNat]? =some y4 /\ 0<=ij1 /\ (((decide ((s2_.length:Int)<=ij1))=true ->r=1) /\ ((decide ((s2_.length:Int)<=ij1))=false ->∃y5,s2_[ij1.toNat]? =some y5 /\ 0<=ij1 /\ (∃y6,a50 Tryz.prog [] (.clo (.func cmp.fn) cmp.fi cmp.cap) [.agg (T1 y4),.agg (T1 y5)] (aI y6) /\ (((y6 !=0)=true ->r=y6) /\ ((y6 !=0)=false ->F8 (wI (ij1+1)) s1_ s2_ cmp r)))))) /\ ((decide (ij1<(s1_.length:Int)))=false ->((decide ((s1_.length:Int)<(s2_.length:Int)))=true ->r=(-1)) /\ ((decide ((s1_.length:Int)<(s2_.length:Int)))=false ->r=0))):F8 ij1 s1_ s2_ cmp r:=
 KW 7 hw (fun _ hw=>KI 7 b5a hw fun _ hw=>KL 11 b5a s2_<|KW 3 hw (fun _ hw=>KR 12 hw d9v) fun _ hw=>KI 6 b5a hw fun _ hw=>KF 10 hw fun _ hw=>KW 9 hw (fun _ hw=>KR 12 hw d9v) fun _ hw=>KJl 8 [] hw a04) fun _ hw=>KL 9 b5a s1_<|KL 1 b5a s2_<|KW 3 hw (fun _ hw=>KR 7 hw d9v) fun _ hw=>KR 8 hw d9v
theorem a11 (s1_:(List Q0)) (s2_:(List Q0)) (cmp:GFn) (r:Int) (hw:F8 0 s1_ s2_ cmp r):W8 s1_ s2_ cmp r:=
 fP (KL 9 b5a s1_<|KJ 5 [] hw)
theorem g1a (r:Int):plain (g9k r)=true:=rfl
theorem c3n (a:Q0) (b:Q0) (r:Int) (hw:∃y1,Q3 a.Num b.Num y1 /\ (∃y2,Q3 a.Wire b.Wire y2 /\ (∃y3,Z3 a.Bits b.Bits y3 /\ (∃y4,a14 a.Data b.Data y4 /\ (∃y5,b04 ([y1,y2,y3,y4]:(List Int)) y5 /\ (r=y5)))))):c41 a b r:=
 fP (KD 8 [0,1]<|KC 4 hw d6k fun _ hw=>KC 4 hw d6k fun _ hw=>KC 4 hw f70 fun _ hw=>KC 4 hw g32 fun _ hw=>KC 1 hw e8y fun _ hw=>KR 5 hw g1a)
theorem f9l (r:Bool):plain (g9c r)=true:=rfl
theorem c5n (b:Int) (r:Bool) (hw:r=((decide (97<=b))&&(decide (b<=122)))):b5t b r:=
 fP (KT 10 3<|KR 4 hw f9l)
theorem g3p (r:Bool):plain (h08 r)=true:=rfl
theorem c00 (b:Int) (r:Bool) (hw:r=((decide (65<=b))&&(decide (b<=90)))):b0h b r:=
 fP (KT 10 3<|KR 4 hw g3p)
theorem g1n (r:Bool):plain (h0q r)=true:=rfl
theorem b6l (s:ByteArray) (prefix_:ByteArray) (r:Bool) (hw:∃y1,a00 s prefix_ y1 /\ (r=y1)):a7o s prefix_ r:=
 fP (KC 9 hw g40 fun _ hw=>KR 4 hw g1n)
theorem f35 (r:Bool):plain (g8w r)=true:=rfl
def a99 (ij1:Int) (s:ByteArray) (i:Int) (n:Int) (r:Bool):Prop:=JP Tryz.prog 211 (g8w r) 3 [(7,aI ij1),(0,aS s),(1,aI i),(2,aI n)]
theorem b2t (ij1:Int) (s:ByteArray) (i:Int) (n:Int) (r:Bool) (hw:((decide (ij1<n))=true ->∃y2,a1b s (wI (i+ij1)) 128 191 y2 /\ (((!y2)=true ->r=false) /\ ((!y2)=false ->a99 (wI (ij1+1)) s i n r))) /\ ((decide (ij1<n))=false ->r=true)):a99 ij1 s i n r:=
 KW 9 hw (fun _ hw=>KC 10 hw e11 fun _ hw=>KW 3 hw (fun _ hw=>KR 11 hw f35) fun _ hw=>KJ 9 [] hw) fun _ hw=>KR 11 hw f35
theorem c8m (s:ByteArray) (i:Int) (n:Int) (r:Bool) (hw:a99 0 s i n r):a3f s i n r:=
 fP (KJ 13 [] hw)
theorem f4m (r:Bool):plain (h0u r)=true:=rfl
theorem c1y (s:ByteArray) (i:Int) (lo:Int) (hi:Int) (r:Bool) (hw:∃R1:Bool ->Prop,(∀bz1:Bool,R1 bz1 ->((bz1=true ->(0<=i /\ i<(s.size:Int)) /\ (r=(decide ((F0 s i.toNat)<=hi)))) /\ (bz1=false ->r=false))) /\ (((decide (i<(s.size:Int)))=true ->(0<=i /\ i<(s.size:Int)) /\ (R1 (decide (lo<=(F0 s i.toNat))))) /\ ((decide (i<(s.size:Int)))=false ->R1 false))):a1b s i lo hi r:=
 fP (KQ 12 6 kB hw (fun _ hw=>KW 1 hw (fun _ hw=>KIS 2 hw fun hw=>KR 7 hw f4m) fun _ hw=>KR 10 hw f4m) (fun _ key _ hw=>KIS 2 hw fun hw=>KE 3 key hw) fun _ key _ hw=>KE 6 key hw)
theorem f2o (r:Int):plain (h06 r)=true:=rfl
theorem b51 (x:C9) (o_:GOp) (v:A0) (level:Int) (r:Int) (hw:((o_.Kind==10)=true ->∃y1,x.p.Progs[o_.Target.toNat]? =some y1 /\ 0<=o_.Target /\ (∃y2,P4 x y1 v (wI (level+1)) y2 /\ (r=y2))) /\ ((o_.Kind==10)=false ->∃y3,a3i x o_.Kind o_.Target v y3 /\ (r=y3))):Z5 x o_ v level r:=
 fP (KW 16 hw (fun _ hw=>KD 1 [0,1,2]<|KI 6 P3 hw fun _ hw=>KC 4 hw g09 fun _ hw=>KR 6 hw f2o) fun _ hw=>KC 10 hw f9f fun _ hw=>KR 4 hw f2o)
theorem d73 (r:Int):plain (g63 r)=true:=rfl
def V8 (ij1:Int) (l:(List (A0 × A0))) (level:Int) (x:C9) (o_:GOp) (r:Int):Prop:=J Tryz.prog 215 (.ret (g63 r)) 3 [(15,aI ij1),(14,aI (l.length:Int)),(13,.sl (List.map B4 l) .no),(5,.ptr 1 0),(4,.ptr 0 0),(2,.sl (List.map B4 l) .no),(3,aI level)] ⟨[some (B7 x.p),some (W3 o_)],[],[]⟩
theorem b0m {ij1:Int} {l:(List (A0 × A0))} {level:Int} {x:C9} {o_:GOp}:a9l [true,true] 0 [(15,aI ij1),(14,aI (l.length:Int)),(13,.sl (List.map B4 l) .no),(5,.ptr 1 0),(4,.ptr 0 0),(2,.sl (List.map B4 l) .no),(3,aI level)]=true /\ a6x [true,true] 0 [some (B7 x.p),some (W3 o_)]=true:=⟨by first|rfl|simp,by first|rfl|simp⟩
theorem a1g (ij1:Int) (l:(List (A0 × A0))) (level:Int) (x:C9) (o_:GOp) (r:Int) (hw:((decide (ij1<(l.length:Int)))=true ->∃y5,l[ij1.toNat]? =some y5 /\ 0<=ij1 /\ (∃y6,a3i x o_.Key (-1) y5.1 y6 /\ (((y6 !=0)=true ->r=y6) /\ ((y6 !=0)=false ->(0<=(0:Int) /\ (0:Int)<=ij1 /\ ij1<=(l.length:Int)) /\ (∃y7,V2 ((l.take ij1.toNat).drop (0:Int).toNat) (⟨226,[],[.elt (U4 y5) 0],by simp⟩:GFn) y7 /\ ((y7=true ->r=9) /\ (y7=false ->∃y8,Z5 x o_ y5.2 level y8 /\ (((y8 !=0)=true ->r=y8) /\ ((y8 !=0)=false ->V8 (wI (ij1+1)) l level x o_ r))))))))) /\ ((decide (ij1<(l.length:Int)))=false ->r=0)):V8 ij1 l level x o_ r:=
 KW 7 hw (fun _ hw=>KI 7 C7 hw fun y5 hw=>KC 14 hw f9f fun _ hw=>KW 9 hw (fun _ hw=>KR 13 hw d73) fun _ hw=>KFz 4 2 [true,true,false] 0 [(9,aI ij1),(10,.elt (U4 y5) 0),(15,aI ij1),(14,aI (l.length:Int)),(13,.sl (List.map B4 l) .no),(5,.ptr 1 0),(4,.ptr 0 0),(2,.sl (List.map B4 l) .no),(3,aI level)] [some (B7 x.p),some (W3 o_),none] ⟨by first|rfl|simp,by first|rfl|simp⟩<|KSV 3 C7 hw fun hw=>KC 1 hw g7s fun _ hw=>KW 2 hw (fun _ hw=>KR 12 hw d73) fun _ hw=>KC 9 hw f5o fun _ hw=>KW 9 hw (fun _ hw=>KR 12 hw d73) fun _ hw=>KJl 8 [] hw b0m) fun _ hw=>KR 11 hw d73
theorem b1z (x:C9) (o_:GOp) (l:(List (A0 × A0))) (level:Int) (r:Int) (hw:V8 0 l level x o_ r):a2m x o_ l level r:=
 fP (KL 11 C7 l<|KJ 5 [] hw)
def I1 (ij5:Int) (ij3:Int) (n0:Nat) (a:Int) (b:Int) (cmp:GFn) (lj6:(List (Int × A0))) (r:(List (Int × A0))):Prop:=J Tryz.prog 216 (.io 0 (.tuple []) (cellsOf B3 r) []) 6 [(9,aI ij5),(8,aI ij3),(0,.row 0 0 8 n0 n0),(1,aI a),(2,aI b),(3,.clo (.func cmp.fn) cmp.fi cmp.cap)] ⟨[some (cellsOf B3 lj6)],[],[]⟩
def I0 (ij3:Int) (n0:Nat) (a:Int) (b:Int) (cmp:GFn) (lj4:(List (Int × A0))) (r:(List (Int × A0))):Prop:=J Tryz.prog 216 (.io 0 (.tuple []) (cellsOf B3 r) []) 1 [(8,aI ij3),(0,.row 0 0 8 n0 n0),(1,aI a),(2,aI b),(3,.clo (.func cmp.fn) cmp.fi cmp.cap)] ⟨[some (cellsOf B3 lj4)],[],[]⟩
theorem a19 (ij5:Int) (ij3:Int) (n0:Nat) (a:Int) (b:Int) (cmp:GFn) (lj6:(List (Int × A0))) (r:(List (Int × A0))) (hw:∃R8:Bool ->Prop,(∀bz8:Bool,R8 bz8 ->((bz8=true ->(0<=(wI (ij5 - 1)) /\ (wI (ij5 - 1))<(n0:Int)) /\ (∃y19,lj6[(wI (ij5 - 1)).toNat]? =some y19 /\ ((0<=ij5 /\ ij5<(n0:Int)) /\ (∃y20,lj6[ij5.toNat]? =some y20 /\ ((0<=ij5 /\ ij5<(n0:Int)) /\ (ij5.toNat<lj6.length /\ ((0<=(wI (ij5 - 1)) /\ (wI (ij5 - 1))<(n0:Int)) /\ ((wI (ij5 - 1)).toNat<(lj6.set ij5.toNat y19).length /\ (I1 (wI (ij5 - 1)) ij3 n0 a b cmp ((lj6.set ij5.toNat y19).set (wI (ij5 - 1)).toNat y20) r))))))))) /\ (bz8=false ->I0 (wI (ij3+1)) n0 a b cmp lj6 r))) /\ (((decide (a<ij5))=true ->(0<=ij5 /\ ij5<(n0:Int)) /\ (∃y16,lj6[ij5.toNat]? =some y16 /\ ((0<=(wI (ij5 - 1)) /\ (wI (ij5 - 1))<(n0:Int)) /\ (∃y17,lj6[(wI (ij5 - 1)).toNat]? =some y17 /\ (∃y18,a50 Tryz.prog [] (.clo (.func cmp.fn) cmp.fi cmp.cap) [.agg (W2 y16),.agg (W2 y17)] (aI y18) /\ (R8 (decide (y18<0)))))))) /\ ((decide (a<ij5))=false ->R8 false))):I1 ij5 ij3 n0 a b cmp lj6 r:=
 KD 3 [0]<|KQ 4 13 kB hw (fun _ hw=>KW 3 hw (fun _ hw=>KDL 4 [0]<|KRI 8 8 hw fun hw=>KRn 0 C4 hw fun y19 hw=>KRI 2 8 hw fun hw=>KRn 0 C4 hw fun y20 hw=>KRI 0 8 hw fun hw=>KRS 0 C4 y19 hw fun hw=>KRI 0 8 hw fun hw=>KRS 0 C4 y20 hw fun hw=>KJ 9 [] hw) fun _ hw=>KJ 12 [] hw) (fun _ key _ hw=>KRI 3 8 hw fun hw=>KRn 0 C4 hw fun _ hw=>KRI 3 8 hw fun hw=>KRn 0 C4 hw fun _ hw=>KF 0 hw fun _ hw=>KE 2 key hw) fun _ key _ hw=>KE 13 key hw
theorem a17 (ij3:Int) (n0:Nat) (a:Int) (b:Int) (cmp:GFn) (lj4:(List (Int × A0))) (r:(List (Int × A0))) (hw:((decide (ij3<b))=true ->I1 ij3 ij3 n0 a b cmp lj4 r) /\ ((decide (ij3<b))=false ->lj4≠[] /\ r=lj4)):I0 ij3 n0 a b cmp lj4 r:=
 KW 9 hw (fun _ hw=>KJ 12 [] hw) fun _ hw=>KRr 4 C4 hw
theorem a33 (n0:Nat) (data:(List (Int × A0))) (a:Int) (b:Int) (cmp:GFn) (r:(List (Int × A0))) (hw:I0 (wI (a+1)) n0 a b cmp data r):K0 n0 data a b cmp r:=
 fRO (KJ 9 [] hw)
def N3 (ij5:Int) (ij3:Int) (n0:Nat) (lj6:(List (Int × A0))) (r:(List (Int × A0))):Prop:=J Tryz.prog 217 (.io 0 (.tuple []) (cellsOf B3 r) []) 12 [(13,aI ij5),(10,aI ij3),(0,.row 0 0 8 n0 n0)] ⟨[some (cellsOf B3 lj6)],[],[]⟩
def H6 (ij4:Int) (ij3:Int) (n0:Nat) (a:Int) (cmp:GFn) (data:(List (Int × A0))) (r:(List (Int × A0))):Prop:=J Tryz.prog 217 (.io 0 (.tuple []) (cellsOf B3 r) []) 5 [(11,aI ij4),(10,aI ij3),(0,.row 0 0 8 n0 n0),(1,aI a),(4,.clo (.func cmp.fn) cmp.fi cmp.cap)] ⟨[some (cellsOf B3 data)],[],[]⟩
def L9 (ij11:Int) (ij9:Int) (n0:Nat) (lj12:(List (Int × A0))) (r:(List (Int × A0))):Prop:=J Tryz.prog 217 (.io 0 (.tuple []) (cellsOf B3 r) []) 28 [(17,aI ij11),(14,aI ij9),(0,.row 0 0 8 n0 n0)] ⟨[some (cellsOf B3 lj12)],[],[]⟩
def G9 (ij10:Int) (ij9:Int) (n0:Nat) (m:Int) (cmp:GFn) (data:(List (Int × A0))) (r:(List (Int × A0))):Prop:=J Tryz.prog 217 (.io 0 (.tuple []) (cellsOf B3 r) []) 21 [(15,aI ij10),(14,aI ij9),(0,.row 0 0 8 n0 n0),(2,aI m),(4,.clo (.func cmp.fn) cmp.fi cmp.cap)] ⟨[some (cellsOf B3 data)],[],[]⟩
def M1 (a:Int) (b:Int) (m:Int) (ij26:Int) (n0:Nat) (cmp:GFn) (lj30:(List (Int × A0))) (r:(List (Int × A0))):Prop:=J Tryz.prog 217 (.io 0 (.tuple []) (cellsOf B3 r) []) 49 [(24,aI (wI ((wI ((wI ((wU (wI (a+b))).fdiv (2 ^ min (1:Int).toNat IntKind.u64.bits)))+m)) - ij26))),(18,aI (wI ((wU (wI (a+b))).fdiv (2 ^ min (1:Int).toNat IntKind.u64.bits)))),(0,.row 0 0 8 n0 n0),(3,aI b),(4,.clo (.func cmp.fn) cmp.fi cmp.cap)] ⟨[some (cellsOf B3 lj30)],[],[]⟩
def L0 (a:Int) (b:Int) (m:Int) (ij26:Int) (n0:Nat) (cmp:GFn) (lj29:(List (Int × A0))) (r:(List (Int × A0))):Prop:=J Tryz.prog 217 (.io 0 (.tuple []) (cellsOf B3 r) []) 47 [(24,aI (wI ((wI ((wI ((wU (wI (a+b))).fdiv (2 ^ min (1:Int).toNat IntKind.u64.bits)))+m)) - ij26))),(20,aI ij26),(18,aI (wI ((wU (wI (a+b))).fdiv (2 ^ min (1:Int).toNat IntKind.u64.bits)))),(0,.row 0 0 8 n0 n0),(1,aI a),(3,aI b),(4,.clo (.func cmp.fn) cmp.fi cmp.cap)] ⟨[some (cellsOf B3 lj29)],[],[]⟩
def G6 (a:Int) (b:Int) (m:Int) (ij27:Int) (ij26:Int) (n0:Nat) (cmp:GFn) (data:(List (Int × A0))) (r:(List (Int × A0))):Prop:=J Tryz.prog 217 (.io 0 (.tuple []) (cellsOf B3 r) []) 41 [(22,aI (wI ((wI ((wI ((wU (wI (a+b))).fdiv (2 ^ min (1:Int).toNat IntKind.u64.bits)))+m)) - 1))),(21,aI ij27),(20,aI ij26),(19,aI (wI ((wI ((wU (wI (a+b))).fdiv (2 ^ min (1:Int).toNat IntKind.u64.bits)))+m))),(18,aI (wI ((wU (wI (a+b))).fdiv (2 ^ min (1:Int).toNat IntKind.u64.bits)))),(0,.row 0 0 8 n0 n0),(1,aI a),(2,aI m),(3,aI b),(4,.clo (.func cmp.fn) cmp.fi cmp.cap)] ⟨[some (cellsOf B3 data)],[],[]⟩
def L4 (ij21:Int) (ij22:Int) (a:Int) (b:Int) (m:Int) (n0:Nat) (cmp:GFn) (data:(List (Int × A0))) (r:(List (Int × A0))):Prop:=J Tryz.prog 217 (.io 0 (.tuple []) (cellsOf B3 r) []) 35 [(21,aI ij21),(20,aI ij22),(19,aI (wI ((wI ((wU (wI (a+b))).fdiv (2 ^ min (1:Int).toNat IntKind.u64.bits)))+m))),(18,aI (wI ((wU (wI (a+b))).fdiv (2 ^ min (1:Int).toNat IntKind.u64.bits)))),(0,.row 0 0 8 n0 n0),(1,aI a),(2,aI m),(3,aI b),(4,.clo (.func cmp.fn) cmp.fi cmp.cap)] ⟨[some (cellsOf B3 data)],[],[]⟩
theorem a5f (ij5:Int) (ij3:Int) (n0:Nat) (lj6:(List (Int × A0))) (r:(List (Int × A0))) (hw:((decide (ij5<(wI (ij3 - 1))))=true ->(0<=(wI (ij5+1)) /\ (wI (ij5+1))<(n0:Int)) /\ (∃y10,lj6[(wI (ij5+1)).toNat]? =some y10 /\ ((0<=ij5 /\ ij5<(n0:Int)) /\ (∃y11,lj6[ij5.toNat]? =some y11 /\ ((0<=ij5 /\ ij5<(n0:Int)) /\ (ij5.toNat<lj6.length /\ ((0<=(wI (ij5+1)) /\ (wI (ij5+1))<(n0:Int)) /\ ((wI (ij5+1)).toNat<(lj6.set ij5.toNat y10).length /\ (N3 (wI (ij5+1)) ij3 n0 ((lj6.set ij5.toNat y10).set (wI (ij5+1)).toNat y11) r))))))))) /\ ((decide (ij5<(wI (ij3 - 1))))=false ->lj6≠[] /\ r=lj6)):N3 ij5 ij3 n0 lj6 r:=
 KW 10 hw (fun _ hw=>KDL 4 [0]<|KRI 8 8 hw fun hw=>KRn 0 C4 hw fun y10 hw=>KRI 2 8 hw fun hw=>KRn 0 C4 hw fun y11 hw=>KRI 0 8 hw fun hw=>KRS 0 C4 y10 hw fun hw=>KRI 0 8 hw fun hw=>KRS 0 C4 y11 hw fun hw=>KJ 9 [] hw) fun _ hw=>KRr 7 C4 hw
theorem a5a (ij4:Int) (ij3:Int) (n0:Nat) (a:Int) (cmp:GFn) (data:(List (Int × A0))) (r:(List (Int × A0))) (hw:((decide (ij3<ij4))=true ->(0<=(wI ((wU (wI (ij3+ij4))).fdiv (2 ^ min (1:Int).toNat IntKind.u64.bits))) /\ (wI ((wU (wI (ij3+ij4))).fdiv (2 ^ min (1:Int).toNat IntKind.u64.bits)))<(n0:Int)) /\ (∃y12,data[(wI ((wU (wI (ij3+ij4))).fdiv (2 ^ min (1:Int).toNat IntKind.u64.bits))).toNat]? =some y12 /\ ((0<=a /\ a<(n0:Int)) /\ (∃y13,data[a.toNat]? =some y13 /\ (∃y14,a50 Tryz.prog [] (.clo (.func cmp.fn) cmp.fi cmp.cap) [.agg (W2 y12),.agg (W2 y13)] (aI y14) /\ (((decide (y14<0))=true ->H6 ij4 (wI ((wI ((wU (wI (ij3+ij4))).fdiv (2 ^ min (1:Int).toNat IntKind.u64.bits)))+1)) n0 a cmp data r) /\ ((decide (y14<0))=false ->H6 (wI ((wU (wI (ij3+ij4))).fdiv (2 ^ min (1:Int).toNat IntKind.u64.bits))) ij3 n0 a cmp data r))))))) /\ ((decide (ij3<ij4))=false ->N3 a ij3 n0 data r)):H6 ij4 ij3 n0 a cmp data r:=
 KW 9 hw (fun _ hw=>KD 15 [0]<|KRI 3 8 hw fun hw=>KRn 0 C4 hw fun _ hw=>KRI 2 8 hw fun hw=>KRn 0 C4 hw fun _ hw=>KF 0 hw fun _ hw=>KW 4 hw (fun _ hw=>KJ 7 [] hw) fun _ hw=>KJ 6 [] hw) fun _ hw=>KJ 14 [] hw
theorem a36 (ij11:Int) (ij9:Int) (n0:Nat) (lj12:(List (Int × A0))) (r:(List (Int × A0))) (hw:((decide (ij9<ij11))=true ->(0<=(wI (ij11 - 1)) /\ (wI (ij11 - 1))<(n0:Int)) /\ (∃y24,lj12[(wI (ij11 - 1)).toNat]? =some y24 /\ ((0<=ij11 /\ ij11<(n0:Int)) /\ (∃y25,lj12[ij11.toNat]? =some y25 /\ ((0<=ij11 /\ ij11<(n0:Int)) /\ (ij11.toNat<lj12.length /\ ((0<=(wI (ij11 - 1)) /\ (wI (ij11 - 1))<(n0:Int)) /\ ((wI (ij11 - 1)).toNat<(lj12.set ij11.toNat y24).length /\ (L9 (wI (ij11 - 1)) ij9 n0 ((lj12.set ij11.toNat y24).set (wI (ij11 - 1)).toNat y25) r))))))))) /\ ((decide (ij9<ij11))=false ->lj12≠[] /\ r=lj12)):L9 ij11 ij9 n0 lj12 r:=
 KW 9 hw (fun _ hw=>KDL 4 [0]<|KRI 8 8 hw fun hw=>KRn 0 C4 hw fun y24 hw=>KRI 2 8 hw fun hw=>KRn 0 C4 hw fun y25 hw=>KRI 0 8 hw fun hw=>KRS 0 C4 y24 hw fun hw=>KRI 0 8 hw fun hw=>KRS 0 C4 y25 hw fun hw=>KJ 9 [] hw) fun _ hw=>KRr 7 C4 hw
theorem a38 (ij10:Int) (ij9:Int) (n0:Nat) (m:Int) (cmp:GFn) (data:(List (Int × A0))) (r:(List (Int × A0))) (hw:((decide (ij9<ij10))=true ->(0<=m /\ m<(n0:Int)) /\ (∃y26,data[m.toNat]? =some y26 /\ ((0<=(wI ((wU (wI (ij9+ij10))).fdiv (2 ^ min (1:Int).toNat IntKind.u64.bits))) /\ (wI ((wU (wI (ij9+ij10))).fdiv (2 ^ min (1:Int).toNat IntKind.u64.bits)))<(n0:Int)) /\ (∃y27,data[(wI ((wU (wI (ij9+ij10))).fdiv (2 ^ min (1:Int).toNat IntKind.u64.bits))).toNat]? =some y27 /\ (∃y28,a50 Tryz.prog [] (.clo (.func cmp.fn) cmp.fi cmp.cap) [.agg (W2 y26),.agg (W2 y27)] (aI y28) /\ (((!(decide (y28<0)))=true ->G9 ij10 (wI ((wI ((wU (wI (ij9+ij10))).fdiv (2 ^ min (1:Int).toNat IntKind.u64.bits)))+1)) n0 m cmp data r) /\ ((!(decide (y28<0)))=false ->G9 (wI ((wU (wI (ij9+ij10))).fdiv (2 ^ min (1:Int).toNat IntKind.u64.bits))) ij9 n0 m cmp data r))))))) /\ ((decide (ij9<ij10))=false ->L9 m ij9 n0 data r)):G9 ij10 ij9 n0 m cmp data r:=
 KW 9 hw (fun _ hw=>KD 15 [0]<|KRI 3 8 hw fun hw=>KRn 0 C4 hw fun _ hw=>KRI 2 8 hw fun hw=>KRn 0 C4 hw fun _ hw=>KF 0 hw fun _ hw=>KW 5 hw (fun _ hw=>KJ 7 [] hw) fun _ hw=>KJ 6 [] hw) fun _ hw=>KJ 14 [] hw
theorem a4a (a:Int) (b:Int) (m:Int) (ij26:Int) (n0:Nat) (cmp:GFn) (lj30:(List (Int × A0))) (r:(List (Int × A0))) (hw:(((decide ((wI ((wU (wI (a+b))).fdiv (2 ^ min (1:Int).toNat IntKind.u64.bits)))<(wI ((wI ((wI ((wU (wI (a+b))).fdiv (2 ^ min (1:Int).toNat IntKind.u64.bits)))+m)) - ij26))))&&(decide ((wI ((wI ((wI ((wU (wI (a+b))).fdiv (2 ^ min (1:Int).toNat IntKind.u64.bits)))+m)) - ij26))<b)))=true ->∃y65,G7 n0 lj30 (wI ((wU (wI (a+b))).fdiv (2 ^ min (1:Int).toNat IntKind.u64.bits))) (wI ((wI ((wI ((wU (wI (a+b))).fdiv (2 ^ min (1:Int).toNat IntKind.u64.bits)))+m)) - ij26)) b cmp y65 /\ (lj30≠[] /\ y65≠[]) /\ (y65≠[] /\ r=y65)) /\ (((decide ((wI ((wU (wI (a+b))).fdiv (2 ^ min (1:Int).toNat IntKind.u64.bits)))<(wI ((wI ((wI ((wU (wI (a+b))).fdiv (2 ^ min (1:Int).toNat IntKind.u64.bits)))+m)) - ij26))))&&(decide ((wI ((wI ((wI ((wU (wI (a+b))).fdiv (2 ^ min (1:Int).toNat IntKind.u64.bits)))+m)) - ij26))<b)))=false ->lj30≠[] /\ r=lj30)):M1 a b m ij26 n0 cmp lj30 r:=
 KT 6 4<|KW 2 hw (fun _ hw=>KRO 6 C4 hw d8m fun _ hw=>KRr 1 C4 hw) fun _ hw=>KRr 1 C4 hw
theorem a4n (a:Int) (b:Int) (m:Int) (ij26:Int) (n0:Nat) (cmp:GFn) (lj29:(List (Int × A0))) (r:(List (Int × A0))) (hw:(((decide (a<ij26))&&(decide (ij26<(wI ((wU (wI (a+b))).fdiv (2 ^ min (1:Int).toNat IntKind.u64.bits))))))=true ->∃y63,G7 n0 lj29 a ij26 (wI ((wU (wI (a+b))).fdiv (2 ^ min (1:Int).toNat IntKind.u64.bits))) cmp y63 /\ (lj29≠[] /\ y63≠[]) /\ (M1 a b m ij26 n0 cmp y63 r)) /\ (((decide (a<ij26))&&(decide (ij26<(wI ((wU (wI (a+b))).fdiv (2 ^ min (1:Int).toNat IntKind.u64.bits))))))=false ->M1 a b m ij26 n0 cmp lj29 r)):L0 a b m ij26 n0 cmp lj29 r:=
 KT 7 4<|KW 2 hw (fun _ hw=>KRO 6 C4 hw d8m fun _ hw=>KJ 2 [] hw) fun _ hw=>KJ 2 [] hw
theorem a4o (a:Int) (b:Int) (m:Int) (ij27:Int) (ij26:Int) (n0:Nat) (cmp:GFn) (data:(List (Int × A0))) (r:(List (Int × A0))) (hw:((decide (ij26<ij27))=true ->(0<=(wI ((wI ((wI ((wI ((wU (wI (a+b))).fdiv (2 ^ min (1:Int).toNat IntKind.u64.bits)))+m)) - 1)) - (wI ((wU (wI (ij26+ij27))).fdiv (2 ^ min (1:Int).toNat IntKind.u64.bits))))) /\ (wI ((wI ((wI ((wI ((wU (wI (a+b))).fdiv (2 ^ min (1:Int).toNat IntKind.u64.bits)))+m)) - 1)) - (wI ((wU (wI (ij26+ij27))).fdiv (2 ^ min (1:Int).toNat IntKind.u64.bits)))))<(n0:Int)) /\ (∃y66,data[(wI ((wI ((wI ((wI ((wU (wI (a+b))).fdiv (2 ^ min (1:Int).toNat IntKind.u64.bits)))+m)) - 1)) - (wI ((wU (wI (ij26+ij27))).fdiv (2 ^ min (1:Int).toNat IntKind.u64.bits))))).toNat]? =some y66 /\ ((0<=(wI ((wU (wI (ij26+ij27))).fdiv (2 ^ min (1:Int).toNat IntKind.u64.bits))) /\ (wI ((wU (wI (ij26+ij27))).fdiv (2 ^ min (1:Int).toNat IntKind.u64.bits)))<(n0:Int)) /\ (∃y67,data[(wI ((wU (wI (ij26+ij27))).fdiv (2 ^ min (1:Int).toNat IntKind.u64.bits))).toNat]? =some y67 /\ (∃y68,a50 Tryz.prog [] (.clo (.func cmp.fn) cmp.fi cmp.cap) [.agg (W2 y66),.agg (W2 y67)] (aI y68) /\ (((!(decide (y68<0)))=true ->G6 a b m ij27 (wI ((wI ((wU (wI (ij26+ij27))).fdiv (2 ^ min (1:Int).toNat IntKind.u64.bits)))+1)) n0 cmp data r) /\ ((!(decide (y68<0)))=false ->G6 a b m (wI ((wU (wI (ij26+ij27))).fdiv (2 ^ min (1:Int).toNat IntKind.u64.bits))) ij26 n0 cmp data r))))))) /\ ((decide (ij26<ij27))=false ->(((decide (ij26<m))&&(decide (m<(wI ((wI ((wI ((wU (wI (a+b))).fdiv (2 ^ min (1:Int).toNat IntKind.u64.bits)))+m)) - ij26)))))=true ->∃y59,a0d n0 data ij26 m (wI ((wI ((wI ((wU (wI (a+b))).fdiv (2 ^ min (1:Int).toNat IntKind.u64.bits)))+m)) - ij26)) cmp y59 /\ (data≠[] /\ y59≠[]) /\ (L0 a b m ij26 n0 cmp y59 r)) /\ (((decide (ij26<m))&&(decide (m<(wI ((wI ((wI ((wU (wI (a+b))).fdiv (2 ^ min (1:Int).toNat IntKind.u64.bits)))+m)) - ij26)))))=false ->L0 a b m ij26 n0 cmp data r))):G6 a b m ij27 ij26 n0 cmp data r:=
 KW 9 hw (fun _ hw=>KD 15 [0]<|KRI 5 8 hw fun hw=>KRn 0 C4 hw fun _ hw=>KRI 2 8 hw fun hw=>KRn 0 C4 hw fun _ hw=>KF 0 hw fun _ hw=>KW 5 hw (fun _ hw=>KJ 7 [] hw) fun _ hw=>KJ 6 [] hw) fun _ hw=>KT 20 4<|KW 2 hw (fun _ hw=>KRO 6 C4 hw f9a fun _ hw=>KJ 2 [] hw) fun _ hw=>KJ 2 [] hw
theorem a4j (ij21:Int) (ij22:Int) (a:Int) (b:Int) (m:Int) (n0:Nat) (cmp:GFn) (data:(List (Int × A0))) (r:(List (Int × A0))) (hw:G6 a b m ij21 ij22 n0 cmp data r):L4 ij21 ij22 a b m n0 cmp data r:=
 KJ 10 [] hw
theorem a60 (n0:Nat) (data:(List (Int × A0))) (a:Int) (m:Int) (b:Int) (cmp:GFn) (r:(List (Int × A0))) (hw:(((wI (m - a))==1)=true ->H6 b m n0 a cmp data r) /\ (((wI (m - a))==1)=false ->(((wI (b - m))==1)=true ->G9 m a n0 m cmp data r) /\ (((wI (b - m))==1)=false ->((decide ((wI ((wU (wI (a+b))).fdiv (2 ^ min (1:Int).toNat IntKind.u64.bits)))<m))=true ->L4 (wI ((wU (wI (a+b))).fdiv (2 ^ min (1:Int).toNat IntKind.u64.bits))) (wI ((wI ((wI ((wU (wI (a+b))).fdiv (2 ^ min (1:Int).toNat IntKind.u64.bits)))+m)) - b)) a b m n0 cmp data r) /\ ((decide ((wI ((wU (wI (a+b))).fdiv (2 ^ min (1:Int).toNat IntKind.u64.bits)))<m))=false ->L4 m a a b m n0 cmp data r)))):G7 n0 data a m b cmp r:=
 fRO (KW 9 hw (fun _ hw=>KJ 15 [] hw) fun _ hw=>KW 11 hw (fun _ hw=>KJ 15 [] hw) fun _ hw=>KW 35 hw (fun _ hw=>KJ 13 [] hw) fun _ hw=>KJ 11 [] hw)
def O5 (ij17:Int) (ij18:Int) (ij15:Int) (n0:Nat) (n:Int) (cmp:GFn) (lj19:(List (A0 × A0))) (r:(List (A0 × A0))):Prop:=J Tryz.prog 218 (.io 0 (.tuple []) (cellsOf B4 r) []) 14 [(8,aI ij17),(7,aI ij18),(6,aI ij15),(0,.row 0 0 14 n0 n0),(1,aI n),(2,.clo (.func cmp.fn) cmp.fi cmp.cap)] ⟨[some (cellsOf B4 lj19)],[],[]⟩
def I6 (ij15:Int) (n0:Nat) (n:Int) (cmp:GFn) (lj16:(List (A0 × A0))) (r:(List (A0 × A0))):Prop:=J Tryz.prog 218 (.io 0 (.tuple []) (cellsOf B4 r) []) 9 [(6,aI ij15),(0,.row 0 0 14 n0 n0),(1,aI n),(2,.clo (.func cmp.fn) cmp.fi cmp.cap)] ⟨[some (cellsOf B4 lj16)],[],[]⟩
def P8 (ij9:Int) (ij10:Int) (n0:Nat) (n:Int) (cmp:GFn) (lj11:(List (A0 × A0))) (r:(List (A0 × A0))):Prop:=J Tryz.prog 218 (.io 0 (.tuple []) (cellsOf B4 r) []) 3 [(8,aI ij9),(7,aI ij10),(6,aI 20),(0,.row 0 0 14 n0 n0),(1,aI n),(2,.clo (.func cmp.fn) cmp.fi cmp.cap)] ⟨[some (cellsOf B4 lj11)],[],[]⟩
theorem a51 (ij17:Int) (ij18:Int) (ij15:Int) (n0:Nat) (n:Int) (cmp:GFn) (lj19:(List (A0 × A0))) (r:(List (A0 × A0))) (hw:((decide (ij17<=n))=true ->∃y19,H1 n0 lj19 ij18 (wI (ij18+ij15)) ij17 cmp y19 /\ (lj19≠[] /\ y19≠[]) /\ (O5 (wI (ij17+(wI (2*ij15)))) ij17 ij15 n0 n cmp y19 r)) /\ ((decide (ij17<=n))=false ->((decide ((wI (ij18+ij15))<n))=true ->∃y18,H1 n0 lj19 ij18 (wI (ij18+ij15)) n cmp y18 /\ (lj19≠[] /\ y18≠[]) /\ (I6 (wI (ij15*2)) n0 n cmp y18 r)) /\ ((decide ((wI (ij18+ij15))<n))=false ->I6 (wI (ij15*2)) n0 n cmp lj19 r))):O5 ij17 ij18 ij15 n0 n cmp lj19 r:=
 KW 9 hw (fun _ hw=>KRO 12 C7 hw d9k fun _ hw=>KJ 17 [] hw) fun _ hw=>KW 21 hw (fun _ hw=>KRO 6 C7 hw d9k fun _ hw=>KJ 9 [] hw) fun _ hw=>KJ 9 [] hw
theorem a5y (ij15:Int) (n0:Nat) (n:Int) (cmp:GFn) (lj16:(List (A0 × A0))) (r:(List (A0 × A0))) (hw:((decide (ij15<n))=true ->O5 (wI (2*ij15)) 0 ij15 n0 n cmp lj16 r) /\ ((decide (ij15<n))=false ->lj16≠[] /\ r=lj16)):I6 ij15 n0 n cmp lj16 r:=
 KW 9 hw (fun _ hw=>KJ 14 [] hw) fun _ hw=>KRr 4 C7 hw
theorem a6k (ij9:Int) (ij10:Int) (n0:Nat) (n:Int) (cmp:GFn) (lj11:(List (A0 × A0))) (r:(List (A0 × A0))) (hw:((decide (ij9<=n))=true ->∃y20,K2 n0 lj11 ij10 ij9 cmp y20 /\ (lj11≠[] /\ y20≠[]) /\ (P8 (wI (ij9+20)) ij9 n0 n cmp y20 r)) /\ ((decide (ij9<=n))=false ->∃y11,K2 n0 lj11 ij10 n cmp y11 /\ (lj11≠[] /\ y11≠[]) /\ (I6 20 n0 n cmp y11 r))):P8 ij9 ij10 n0 n cmp lj11 r:=
 KW 9 hw (fun _ hw=>KRO 9 C7 hw f31 fun _ hw=>KJ 16 [] hw) fun _ hw=>KRO 11 C7 hw f31 fun _ hw=>KJ 4 [] hw
theorem a82 (n0:Nat) (data:(List (A0 × A0))) (n:Int) (cmp:GFn) (r:(List (A0 × A0))) (hw:P8 20 0 n0 n cmp data r):a0e n0 data n cmp r:=
 fRO (KJ 15 [] hw)
theorem d02 (r:Int):plain (g9l r)=true:=rfl
theorem b52 (x:ByteArray) (y:ByteArray) (r:Int) (hw:∃y1,a9m x y1 /\ (∃y2,a9m y y2 /\ ((y1=true ->(y2=true ->r=0) /\ (y2=false ->r=(-1))) /\ (y1=false ->(y2=true ->r=1) /\ (y2=false ->((Op.bytesLess x.toList y.toList)=true ->r=(-1)) /\ ((Op.bytesLess x.toList y.toList)=false ->((!(Op.bytesLess x.toList y.toList||x.toList==y.toList))=true ->r=1) /\ ((!(Op.bytesLess x.toList y.toList||x.toList==y.toList))=false ->r=0))))))):a14 x y r:=
 fP (KC 8 hw g3c fun _ hw=>KC 6 hw g3c fun _ hw=>KW 9 hw (fun _ hw=>KW 6 hw (fun _ hw=>KR 8 hw d02) fun _ hw=>KR 9 hw d02) fun _ hw=>KW 8 hw (fun _ hw=>KR 7 hw d02) fun _ hw=>KW 10 hw (fun _ hw=>KR 7 hw d02) fun _ hw=>KW 10 hw (fun _ hw=>KR 7 hw d02) fun _ hw=>KR 8 hw d02)
theorem d0k (r:Int):plain (h02 r)=true:=rfl
theorem b5d (x:Int) (y:Int) (r:Int) (hw:∃y1,a9q x y1 /\ (∃y2,a9q y y2 /\ ((y1=true ->(y2=true ->r=0) /\ (y2=false ->r=(-1))) /\ (y1=false ->(y2=true ->r=1) /\ (y2=false ->((decide (x<y))=true ->r=(-1)) /\ ((decide (x<y))=false ->((decide (y<x))=true ->r=1) /\ ((decide (y<x))=false ->r=0))))))):Z3 x y r:=
 fP (KC 8 hw f98 fun _ hw=>KC 6 hw f98 fun _ hw=>KW 9 hw (fun _ hw=>KW 6 hw (fun _ hw=>KR 8 hw d0k) fun _ hw=>KR 9 hw d0k) fun _ hw=>KW 8 hw (fun _ hw=>KR 7 hw d0k) fun _ hw=>KW 10 hw (fun _ hw=>KR 7 hw d0k) fun _ hw=>KW 10 hw (fun _ hw=>KR 7 hw d0k) fun _ hw=>KR 8 hw d0k)
theorem e7y (r:Int):plain (h0i r)=true:=rfl
theorem c38 (bits:Int) (r:Int) (hw:∃y1,b18 bits y1 /\ (((y1==0)=true ->r=18446744073709551615) /\ ((y1==0)=false ->(((F4 .and .u64 bits 9223372036854775808) !=0)=true ->r=(F4 .xor .u64 (IntKind.u64.max) bits)) /\ (((F4 .and .u64 bits 9223372036854775808) !=0)=false ->r=(F4 .or .u64 bits 9223372036854775808))))):b2l bits r:=
 fP (KC 10 hw h0y fun _ hw=>KW 4 hw (fun _ hw=>KR 8 hw e7y) fun _ hw=>KW 8 hw (fun _ hw=>KR 10 hw e7y) fun _ hw=>KR 11 hw e7y)
theorem f4n (r:Bool):plain (g9n r)=true:=rfl
theorem a40 (s:ByteArray) (prefix_:ByteArray) (r:Bool) (hw:((decide ((prefix_.size:Int)<=(s.size:Int)))=true ->(0<=(0:Int) /\ (0:Int)<=(prefix_.size:Int) /\ (prefix_.size:Int)<=(s.size:Int)) /\ (r=(decide ((s.extract (0:Int).toNat (prefix_.size:Int).toNat)=prefix_)))) /\ ((decide ((prefix_.size:Int)<=(s.size:Int)))=false ->r=false)):a00 s prefix_ r:=
 fP (KW 13 hw (fun _ hw=>KSS 3 hw fun hw=>KR 7 hw f4n) fun _ hw=>KR 11 hw f4n)
theorem c71 (r:Int):plain (h0h r)=true:=rfl
theorem b6k (x:C9) (kind:Int) (enum:Int) (v:A0) (r:Int) (hw:∃R1:Bool ->Prop,(∀bz1:Bool,R1 bz1 ->((bz1=true ->r=12) /\ (bz1=false ->((decide (4096<(v.Text.size:Int)))=true ->r=3) /\ ((decide (4096<(v.Text.size:Int)))=false ->∃R2:Bool ->Prop,(∀bz2:Bool,R2 bz2 ->((bz2=true ->r=7) /\ (bz2=false ->∃y3,b1d kind v y3 /\ (((!y3)=true ->r=12) /\ ((!y3)=false ->((kind==9)=true ->∃y4,a8r x.p enum v.Bits y4 /\ (((!y4)=true ->r=16) /\ ((!y4)=false ->r=0))) /\ ((kind==9)=false ->r=0)))))) /\ (((kind==7)=true ->∃y2,b7m v.Text y2 /\ (R2 (!y2))) /\ ((kind==7)=false ->R2 false)))))) /\ (((v.Kind !=kind)=true ->R1 true) /\ ((v.Kind !=kind)=false ->∃y1,b01 v y1 /\ (R1 y1)))):a3i x kind enum v r:=
 fP (KQ 16 3 kB hw (fun _ hw=>KW 3 hw (fun _ hw=>KR 8 hw c71) fun _ hw=>KW 9 hw (fun _ hw=>KR 8 hw c71) fun _ hw=>KQ 5 5 kB hw (fun _ hw=>KW 3 hw (fun _ hw=>KR 8 hw c71) fun _ hw=>KC 4 hw g6q fun _ hw=>KW 4 hw (fun _ hw=>KR 8 hw c71) fun _ hw=>KW 5 hw (fun _ hw=>KC 5 hw g85 fun _ hw=>KW 5 hw (fun _ hw=>KR 8 hw c71) fun _ hw=>KR 9 hw c71) fun _ hw=>KR 21 hw c71) (fun _ key _ hw=>KC 2 hw g5x fun _ hw=>KE 2 key hw) fun _ key _ hw=>KE 5 key hw) (fun _ key _ hw=>KE 3 key hw) fun _ key _ hw=>KC 1 hw f1l fun _ hw=>KE 1 key hw)
theorem f9t (r:Bool):plain (g9t r)=true:=rfl
theorem a4u (s:(List (A0 × A0))) (f:GFn) (r:Bool) (hw:∃y1,a2f s f y1 /\ (r=(decide (0<=y1)))):V2 s f r:=
 fP (KC 9 hw g52 fun _ hw=>KR 5 hw f9t)
def J4 (ij3:Int) (ij1:Int) (n0:Nat) (m:Int) (cmp:GFn) (lj2:(List (Int × A0))) (r:(List (Int × A0))):Prop:=J Tryz.prog 227 (.io 0 (.tuple []) (cellsOf B3 r) []) 3 [(11,aI ij3),(10,aI ij1),(0,.row 0 0 8 n0 n0),(2,aI m),(4,.clo (.func cmp.fn) cmp.fi cmp.cap)] ⟨[some (cellsOf B3 lj2)],[],[]⟩
theorem a6v (ij3:Int) (ij1:Int) (n0:Nat) (m:Int) (cmp:GFn) (lj2:(List (Int × A0))) (r:(List (Int × A0))) (hw:((ij1 !=ij3)=true ->((decide (ij3<ij1))=true ->∃y5,J0 n0 lj2 (wI (m - ij1)) m ij3 cmp y5 /\ (lj2≠[] /\ y5≠[]) /\ (J4 ij3 (wI (ij1 - ij3)) n0 m cmp y5 r)) /\ ((decide (ij3<ij1))=false ->∃y6,J0 n0 lj2 (wI (m - ij1)) (wI ((wI (m+ij3)) - ij1)) ij1 cmp y6 /\ (lj2≠[] /\ y6≠[]) /\ (J4 (wI (ij3 - ij1)) ij1 n0 m cmp y6 r))) /\ ((ij1 !=ij3)=false ->∃y4,J0 n0 lj2 (wI (m - ij1)) m ij1 cmp y4 /\ (lj2≠[] /\ y4≠[]) /\ (y4≠[] /\ r=y4))):J4 ij3 ij1 n0 m cmp lj2 r:=
 KW 9 hw (fun _ hw=>KW 10 hw (fun _ hw=>KRO 9 C4 hw e4p fun _ hw=>KJ 10 [] hw) fun _ hw=>KRO 13 C4 hw e4p fun _ hw=>KJ 10 [] hw) fun _ hw=>KRO 13 C4 hw e4p fun _ hw=>KRr 1 C4 hw
theorem a83 (n0:Nat) (data:(List (Int × A0))) (a:Int) (m:Int) (b:Int) (cmp:GFn) (r:(List (Int × A0))) (hw:J4 (wI (b - m)) (wI (m - a)) n0 m cmp data r):a0d n0 data a m b cmp r:=
 fRO (KJ 19 [] hw)
def I2 (ij5:Int) (ij3:Int) (n0:Nat) (a:Int) (b:Int) (cmp:GFn) (lj6:(List (A0 × A0))) (r:(List (A0 × A0))):Prop:=J Tryz.prog 228 (.io 0 (.tuple []) (cellsOf B4 r) []) 6 [(9,aI ij5),(8,aI ij3),(0,.row 0 0 14 n0 n0),(1,aI a),(2,aI b),(3,.clo (.func cmp.fn) cmp.fi cmp.cap)] ⟨[some (cellsOf B4 lj6)],[],[]⟩
def I5 (ij3:Int) (n0:Nat) (a:Int) (b:Int) (cmp:GFn) (lj4:(List (A0 × A0))) (r:(List (A0 × A0))):Prop:=J Tryz.prog 228 (.io 0 (.tuple []) (cellsOf B4 r) []) 1 [(8,aI ij3),(0,.row 0 0 14 n0 n0),(1,aI a),(2,aI b),(3,.clo (.func cmp.fn) cmp.fi cmp.cap)] ⟨[some (cellsOf B4 lj4)],[],[]⟩
theorem a2a (ij5:Int) (ij3:Int) (n0:Nat) (a:Int) (b:Int) (cmp:GFn) (lj6:(List (A0 × A0))) (r:(List (A0 × A0))) (hw:∃R8:Bool ->Prop,(∀bz8:Bool,R8 bz8 ->((bz8=true ->(0<=(wI (ij5 - 1)) /\ (wI (ij5 - 1))<(n0:Int)) /\ (∃y19,lj6[(wI (ij5 - 1)).toNat]? =some y19 /\ ((0<=ij5 /\ ij5<(n0:Int)) /\ (∃y20,lj6[ij5.toNat]? =some y20 /\ ((0<=ij5 /\ ij5<(n0:Int)) /\ (ij5.toNat<lj6.length /\ ((0<=(wI (ij5 - 1)) /\ (wI (ij5 - 1))<(n0:Int)) /\ ((wI (ij5 - 1)).toNat<(lj6.set ij5.toNat y19).length /\ (I2 (wI (ij5 - 1)) ij3 n0 a b cmp ((lj6.set ij5.toNat y19).set (wI (ij5 - 1)).toNat y20) r))))))))) /\ (bz8=false ->I5 (wI (ij3+1)) n0 a b cmp lj6 r))) /\ (((decide (a<ij5))=true ->(0<=ij5 /\ ij5<(n0:Int)) /\ (∃y16,lj6[ij5.toNat]? =some y16 /\ ((0<=(wI (ij5 - 1)) /\ (wI (ij5 - 1))<(n0:Int)) /\ (∃y17,lj6[(wI (ij5 - 1)).toNat]? =some y17 /\ (∃y18,a50 Tryz.prog [] (.clo (.func cmp.fn) cmp.fi cmp.cap) [.agg (U4 y16),.agg (U4 y17)] (aI y18) /\ (R8 (decide (y18<0)))))))) /\ ((decide (a<ij5))=false ->R8 false))):I2 ij5 ij3 n0 a b cmp lj6 r:=
 KD 3 [0]<|KQ 4 13 kB hw (fun _ hw=>KW 3 hw (fun _ hw=>KDL 4 [0]<|KRI 8 14 hw fun hw=>KRn 0 C7 hw fun y19 hw=>KRI 2 14 hw fun hw=>KRn 0 C7 hw fun y20 hw=>KRI 0 14 hw fun hw=>KRS 0 C7 y19 hw fun hw=>KRI 0 14 hw fun hw=>KRS 0 C7 y20 hw fun hw=>KJ 9 [] hw) fun _ hw=>KJ 12 [] hw) (fun _ key _ hw=>KRI 3 14 hw fun hw=>KRn 0 C7 hw fun _ hw=>KRI 3 14 hw fun hw=>KRn 0 C7 hw fun _ hw=>KF 0 hw fun _ hw=>KE 2 key hw) fun _ key _ hw=>KE 13 key hw
theorem a18 (ij3:Int) (n0:Nat) (a:Int) (b:Int) (cmp:GFn) (lj4:(List (A0 × A0))) (r:(List (A0 × A0))) (hw:((decide (ij3<b))=true ->I2 ij3 ij3 n0 a b cmp lj4 r) /\ ((decide (ij3<b))=false ->lj4≠[] /\ r=lj4)):I5 ij3 n0 a b cmp lj4 r:=
 KW 9 hw (fun _ hw=>KJ 12 [] hw) fun _ hw=>KRr 4 C7 hw
theorem a32 (n0:Nat) (data:(List (A0 × A0))) (a:Int) (b:Int) (cmp:GFn) (r:(List (A0 × A0))) (hw:I5 (wI (a+1)) n0 a b cmp data r):K2 n0 data a b cmp r:=
 fRO (KJ 9 [] hw)
def N4 (ij5:Int) (ij3:Int) (n0:Nat) (lj6:(List (A0 × A0))) (r:(List (A0 × A0))):Prop:=J Tryz.prog 229 (.io 0 (.tuple []) (cellsOf B4 r) []) 12 [(13,aI ij5),(10,aI ij3),(0,.row 0 0 14 n0 n0)] ⟨[some (cellsOf B4 lj6)],[],[]⟩
def H9 (ij4:Int) (ij3:Int) (n0:Nat) (a:Int) (cmp:GFn) (data:(List (A0 × A0))) (r:(List (A0 × A0))):Prop:=J Tryz.prog 229 (.io 0 (.tuple []) (cellsOf B4 r) []) 5 [(11,aI ij4),(10,aI ij3),(0,.row 0 0 14 n0 n0),(1,aI a),(4,.clo (.func cmp.fn) cmp.fi cmp.cap)] ⟨[some (cellsOf B4 data)],[],[]⟩
def M0 (ij11:Int) (ij9:Int) (n0:Nat) (lj12:(List (A0 × A0))) (r:(List (A0 × A0))):Prop:=J Tryz.prog 229 (.io 0 (.tuple []) (cellsOf B4 r) []) 28 [(17,aI ij11),(14,aI ij9),(0,.row 0 0 14 n0 n0)] ⟨[some (cellsOf B4 lj12)],[],[]⟩
def H2 (ij10:Int) (ij9:Int) (n0:Nat) (m:Int) (cmp:GFn) (data:(List (A0 × A0))) (r:(List (A0 × A0))):Prop:=J Tryz.prog 229 (.io 0 (.tuple []) (cellsOf B4 r) []) 21 [(15,aI ij10),(14,aI ij9),(0,.row 0 0 14 n0 n0),(2,aI m),(4,.clo (.func cmp.fn) cmp.fi cmp.cap)] ⟨[some (cellsOf B4 data)],[],[]⟩
def K9 (a:Int) (b:Int) (m:Int) (ij26:Int) (n0:Nat) (cmp:GFn) (lj30:(List (A0 × A0))) (r:(List (A0 × A0))):Prop:=J Tryz.prog 229 (.io 0 (.tuple []) (cellsOf B4 r) []) 49 [(24,aI (wI ((wI ((wI ((wU (wI (a+b))).fdiv (2 ^ min (1:Int).toNat IntKind.u64.bits)))+m)) - ij26))),(18,aI (wI ((wU (wI (a+b))).fdiv (2 ^ min (1:Int).toNat IntKind.u64.bits)))),(0,.row 0 0 14 n0 n0),(3,aI b),(4,.clo (.func cmp.fn) cmp.fi cmp.cap)] ⟨[some (cellsOf B4 lj30)],[],[]⟩
def L8 (a:Int) (b:Int) (m:Int) (ij26:Int) (n0:Nat) (cmp:GFn) (lj29:(List (A0 × A0))) (r:(List (A0 × A0))):Prop:=J Tryz.prog 229 (.io 0 (.tuple []) (cellsOf B4 r) []) 47 [(24,aI (wI ((wI ((wI ((wU (wI (a+b))).fdiv (2 ^ min (1:Int).toNat IntKind.u64.bits)))+m)) - ij26))),(20,aI ij26),(18,aI (wI ((wU (wI (a+b))).fdiv (2 ^ min (1:Int).toNat IntKind.u64.bits)))),(0,.row 0 0 14 n0 n0),(1,aI a),(3,aI b),(4,.clo (.func cmp.fn) cmp.fi cmp.cap)] ⟨[some (cellsOf B4 lj29)],[],[]⟩
def H0 (a:Int) (b:Int) (m:Int) (ij27:Int) (ij26:Int) (n0:Nat) (cmp:GFn) (data:(List (A0 × A0))) (r:(List (A0 × A0))):Prop:=J Tryz.prog 229 (.io 0 (.tuple []) (cellsOf B4 r) []) 41 [(22,aI (wI ((wI ((wI ((wU (wI (a+b))).fdiv (2 ^ min (1:Int).toNat IntKind.u64.bits)))+m)) - 1))),(21,aI ij27),(20,aI ij26),(19,aI (wI ((wI ((wU (wI (a+b))).fdiv (2 ^ min (1:Int).toNat IntKind.u64.bits)))+m))),(18,aI (wI ((wU (wI (a+b))).fdiv (2 ^ min (1:Int).toNat IntKind.u64.bits)))),(0,.row 0 0 14 n0 n0),(1,aI a),(2,aI m),(3,aI b),(4,.clo (.func cmp.fn) cmp.fi cmp.cap)] ⟨[some (cellsOf B4 data)],[],[]⟩
def M2 (ij21:Int) (ij22:Int) (a:Int) (b:Int) (m:Int) (n0:Nat) (cmp:GFn) (data:(List (A0 × A0))) (r:(List (A0 × A0))):Prop:=J Tryz.prog 229 (.io 0 (.tuple []) (cellsOf B4 r) []) 35 [(21,aI ij21),(20,aI ij22),(19,aI (wI ((wI ((wU (wI (a+b))).fdiv (2 ^ min (1:Int).toNat IntKind.u64.bits)))+m))),(18,aI (wI ((wU (wI (a+b))).fdiv (2 ^ min (1:Int).toNat IntKind.u64.bits)))),(0,.row 0 0 14 n0 n0),(1,aI a),(2,aI m),(3,aI b),(4,.clo (.func cmp.fn) cmp.fi cmp.cap)] ⟨[some (cellsOf B4 data)],[],[]⟩
theorem a4w (ij5:Int) (ij3:Int) (n0:Nat) (lj6:(List (A0 × A0))) (r:(List (A0 × A0))) (hw:((decide (ij5<(wI (ij3 - 1))))=true ->(0<=(wI (ij5+1)) /\ (wI (ij5+1))<(n0:Int)) /\ (∃y10,lj6[(wI (ij5+1)).toNat]? =some y10 /\ ((0<=ij5 /\ ij5<(n0:Int)) /\ (∃y11,lj6[ij5.toNat]? =some y11 /\ ((0<=ij5 /\ ij5<(n0:Int)) /\ (ij5.toNat<lj6.length /\ ((0<=(wI (ij5+1)) /\ (wI (ij5+1))<(n0:Int)) /\ ((wI (ij5+1)).toNat<(lj6.set ij5.toNat y10).length /\ (N4 (wI (ij5+1)) ij3 n0 ((lj6.set ij5.toNat y10).set (wI (ij5+1)).toNat y11) r))))))))) /\ ((decide (ij5<(wI (ij3 - 1))))=false ->lj6≠[] /\ r=lj6)):N4 ij5 ij3 n0 lj6 r:=
 KW 10 hw (fun _ hw=>KDL 4 [0]<|KRI 8 14 hw fun hw=>KRn 0 C7 hw fun y10 hw=>KRI 2 14 hw fun hw=>KRn 0 C7 hw fun y11 hw=>KRI 0 14 hw fun hw=>KRS 0 C7 y10 hw fun hw=>KRI 0 14 hw fun hw=>KRS 0 C7 y11 hw fun hw=>KJ 9 [] hw) fun _ hw=>KRr 7 C7 hw
theorem a5g (ij4:Int) (ij3:Int) (n0:Nat) (a:Int) (cmp:GFn) (data:(List (A0 × A0))) (r:(List (A0 × A0))) (hw:((decide (ij3<ij4))=true ->(0<=(wI ((wU (wI (ij3+ij4))).fdiv (2 ^ min (1:Int).toNat IntKind.u64.bits))) /\ (wI ((wU (wI (ij3+ij4))).fdiv (2 ^ min (1:Int).toNat IntKind.u64.bits)))<(n0:Int)) /\ (∃y12,data[(wI ((wU (wI (ij3+ij4))).fdiv (2 ^ min (1:Int).toNat IntKind.u64.bits))).toNat]? =some y12 /\ ((0<=a /\ a<(n0:Int)) /\ (∃y13,data[a.toNat]? =some y13 /\ (∃y14,a50 Tryz.prog [] (.clo (.func cmp.fn) cmp.fi cmp.cap) [.agg (U4 y12),.agg (U4 y13)] (aI y14) /\ (((decide (y14<0))=true ->H9 ij4 (wI ((wI ((wU (wI (ij3+ij4))).fdiv (2 ^ min (1:Int).toNat IntKind.u64.bits)))+1)) n0 a cmp data r) /\ ((decide (y14<0))=false ->H9 (wI ((wU (wI (ij3+ij4))).fdiv (2 ^ min (1:Int).toNat IntKind.u64.bits))) ij3 n0 a cmp data r))))))) /\ ((decide (ij3<ij4))=false ->N4 a ij3 n0 data r)):H9 ij4 ij3 n0 a cmp data r:=
 KW 9 hw (fun _ hw=>KD 15 [0]<|KRI 3 14 hw fun hw=>KRn 0 C7 hw fun _ hw=>KRI 2 14 hw fun hw=>KRn 0 C7 hw fun _ hw=>KF 0 hw fun _ hw=>KW 4 hw (fun _ hw=>KJ 7 [] hw) fun _ hw=>KJ 6 [] hw) fun _ hw=>KJ 14 [] hw
theorem a4c (ij11:Int) (ij9:Int) (n0:Nat) (lj12:(List (A0 × A0))) (r:(List (A0 × A0))) (hw:((decide (ij9<ij11))=true ->(0<=(wI (ij11 - 1)) /\ (wI (ij11 - 1))<(n0:Int)) /\ (∃y24,lj12[(wI (ij11 - 1)).toNat]? =some y24 /\ ((0<=ij11 /\ ij11<(n0:Int)) /\ (∃y25,lj12[ij11.toNat]? =some y25 /\ ((0<=ij11 /\ ij11<(n0:Int)) /\ (ij11.toNat<lj12.length /\ ((0<=(wI (ij11 - 1)) /\ (wI (ij11 - 1))<(n0:Int)) /\ ((wI (ij11 - 1)).toNat<(lj12.set ij11.toNat y24).length /\ (M0 (wI (ij11 - 1)) ij9 n0 ((lj12.set ij11.toNat y24).set (wI (ij11 - 1)).toNat y25) r))))))))) /\ ((decide (ij9<ij11))=false ->lj12≠[] /\ r=lj12)):M0 ij11 ij9 n0 lj12 r:=
 KW 9 hw (fun _ hw=>KDL 4 [0]<|KRI 8 14 hw fun hw=>KRn 0 C7 hw fun y24 hw=>KRI 2 14 hw fun hw=>KRn 0 C7 hw fun y25 hw=>KRI 0 14 hw fun hw=>KRS 0 C7 y24 hw fun hw=>KRI 0 14 hw fun hw=>KRS 0 C7 y25 hw fun hw=>KJ 9 [] hw) fun _ hw=>KRr 7 C7 hw
theorem a4f (ij10:Int) (ij9:Int) (n0:Nat) (m:Int) (cmp:GFn) (data:(List (A0 × A0))) (r:(List (A0 × A0))) (hw:((decide (ij9<ij10))=true ->(0<=m /\ m<(n0:Int)) /\ (∃y26,data[m.toNat]? =some y26 /\ ((0<=(wI ((wU (wI (ij9+ij10))).fdiv (2 ^ min (1:Int).toNat IntKind.u64.bits))) /\ (wI ((wU (wI (ij9+ij10))).fdiv (2 ^ min (1:Int).toNat IntKind.u64.bits)))<(n0:Int)) /\ (∃y27,data[(wI ((wU (wI (ij9+ij10))).fdiv (2 ^ min (1:Int).toNat IntKind.u64.bits))).toNat]? =some y27 /\ (∃y28,a50 Tryz.prog [] (.clo (.func cmp.fn) cmp.fi cmp.cap) [.agg (U4 y26),.agg (U4 y27)] (aI y28) /\ (((!(decide (y28<0)))=true ->H2 ij10 (wI ((wI ((wU (wI (ij9+ij10))).fdiv (2 ^ min (1:Int).toNat IntKind.u64.bits)))+1)) n0 m cmp data r) /\ ((!(decide (y28<0)))=false ->H2 (wI ((wU (wI (ij9+ij10))).fdiv (2 ^ min (1:Int).toNat IntKind.u64.bits))) ij9 n0 m cmp data r))))))) /\ ((decide (ij9<ij10))=false ->M0 m ij9 n0 data r)):H2 ij10 ij9 n0 m cmp data r:=
 KW 9 hw (fun _ hw=>KD 15 [0]<|KRI 3 14 hw fun hw=>KRn 0 C7 hw fun _ hw=>KRI 2 14 hw fun hw=>KRn 0 C7 hw fun _ hw=>KF 0 hw fun _ hw=>KW 5 hw (fun _ hw=>KJ 7 [] hw) fun _ hw=>KJ 6 [] hw) fun _ hw=>KJ 14 [] hw
theorem a37 (a:Int) (b:Int) (m:Int) (ij26:Int) (n0:Nat) (cmp:GFn) (lj30:(List (A0 × A0))) (r:(List (A0 × A0))) (hw:(((decide ((wI ((wU (wI (a+b))).fdiv (2 ^ min (1:Int).toNat IntKind.u64.bits)))<(wI ((wI ((wI ((wU (wI (a+b))).fdiv (2 ^ min (1:Int).toNat IntKind.u64.bits)))+m)) - ij26))))&&(decide ((wI ((wI ((wI ((wU (wI (a+b))).fdiv (2 ^ min (1:Int).toNat IntKind.u64.bits)))+m)) - ij26))<b)))=true ->∃y65,H1 n0 lj30 (wI ((wU (wI (a+b))).fdiv (2 ^ min (1:Int).toNat IntKind.u64.bits))) (wI ((wI ((wI ((wU (wI (a+b))).fdiv (2 ^ min (1:Int).toNat IntKind.u64.bits)))+m)) - ij26)) b cmp y65 /\ (lj30≠[] /\ y65≠[]) /\ (y65≠[] /\ r=y65)) /\ (((decide ((wI ((wU (wI (a+b))).fdiv (2 ^ min (1:Int).toNat IntKind.u64.bits)))<(wI ((wI ((wI ((wU (wI (a+b))).fdiv (2 ^ min (1:Int).toNat IntKind.u64.bits)))+m)) - ij26))))&&(decide ((wI ((wI ((wI ((wU (wI (a+b))).fdiv (2 ^ min (1:Int).toNat IntKind.u64.bits)))+m)) - ij26))<b)))=false ->lj30≠[] /\ r=lj30)):K9 a b m ij26 n0 cmp lj30 r:=
 KT 6 4<|KW 2 hw (fun _ hw=>KRO 6 C7 hw d9k fun _ hw=>KRr 1 C7 hw) fun _ hw=>KRr 1 C7 hw
theorem a4e (a:Int) (b:Int) (m:Int) (ij26:Int) (n0:Nat) (cmp:GFn) (lj29:(List (A0 × A0))) (r:(List (A0 × A0))) (hw:(((decide (a<ij26))&&(decide (ij26<(wI ((wU (wI (a+b))).fdiv (2 ^ min (1:Int).toNat IntKind.u64.bits))))))=true ->∃y63,H1 n0 lj29 a ij26 (wI ((wU (wI (a+b))).fdiv (2 ^ min (1:Int).toNat IntKind.u64.bits))) cmp y63 /\ (lj29≠[] /\ y63≠[]) /\ (K9 a b m ij26 n0 cmp y63 r)) /\ (((decide (a<ij26))&&(decide (ij26<(wI ((wU (wI (a+b))).fdiv (2 ^ min (1:Int).toNat IntKind.u64.bits))))))=false ->K9 a b m ij26 n0 cmp lj29 r)):L8 a b m ij26 n0 cmp lj29 r:=
 KT 7 4<|KW 2 hw (fun _ hw=>KRO 6 C7 hw d9k fun _ hw=>KJ 2 [] hw) fun _ hw=>KJ 2 [] hw
theorem a4h (a:Int) (b:Int) (m:Int) (ij27:Int) (ij26:Int) (n0:Nat) (cmp:GFn) (data:(List (A0 × A0))) (r:(List (A0 × A0))) (hw:((decide (ij26<ij27))=true ->(0<=(wI ((wI ((wI ((wI ((wU (wI (a+b))).fdiv (2 ^ min (1:Int).toNat IntKind.u64.bits)))+m)) - 1)) - (wI ((wU (wI (ij26+ij27))).fdiv (2 ^ min (1:Int).toNat IntKind.u64.bits))))) /\ (wI ((wI ((wI ((wI ((wU (wI (a+b))).fdiv (2 ^ min (1:Int).toNat IntKind.u64.bits)))+m)) - 1)) - (wI ((wU (wI (ij26+ij27))).fdiv (2 ^ min (1:Int).toNat IntKind.u64.bits)))))<(n0:Int)) /\ (∃y66,data[(wI ((wI ((wI ((wI ((wU (wI (a+b))).fdiv (2 ^ min (1:Int).toNat IntKind.u64.bits)))+m)) - 1)) - (wI ((wU (wI (ij26+ij27))).fdiv (2 ^ min (1:Int).toNat IntKind.u64.bits))))).toNat]? =some y66 /\ ((0<=(wI ((wU (wI (ij26+ij27))).fdiv (2 ^ min (1:Int).toNat IntKind.u64.bits))) /\ (wI ((wU (wI (ij26+ij27))).fdiv (2 ^ min (1:Int).toNat IntKind.u64.bits)))<(n0:Int)) /\ (∃y67,data[(wI ((wU (wI (ij26+ij27))).fdiv (2 ^ min (1:Int).toNat IntKind.u64.bits))).toNat]? =some y67 /\ (∃y68,a50 Tryz.prog [] (.clo (.func cmp.fn) cmp.fi cmp.cap) [.agg (U4 y66),.agg (U4 y67)] (aI y68) /\ (((!(decide (y68<0)))=true ->H0 a b m ij27 (wI ((wI ((wU (wI (ij26+ij27))).fdiv (2 ^ min (1:Int).toNat IntKind.u64.bits)))+1)) n0 cmp data r) /\ ((!(decide (y68<0)))=false ->H0 a b m (wI ((wU (wI (ij26+ij27))).fdiv (2 ^ min (1:Int).toNat IntKind.u64.bits))) ij26 n0 cmp data r))))))) /\ ((decide (ij26<ij27))=false ->(((decide (ij26<m))&&(decide (m<(wI ((wI ((wI ((wU (wI (a+b))).fdiv (2 ^ min (1:Int).toNat IntKind.u64.bits)))+m)) - ij26)))))=true ->∃y59,a0f n0 data ij26 m (wI ((wI ((wI ((wU (wI (a+b))).fdiv (2 ^ min (1:Int).toNat IntKind.u64.bits)))+m)) - ij26)) cmp y59 /\ (data≠[] /\ y59≠[]) /\ (L8 a b m ij26 n0 cmp y59 r)) /\ (((decide (ij26<m))&&(decide (m<(wI ((wI ((wI ((wU (wI (a+b))).fdiv (2 ^ min (1:Int).toNat IntKind.u64.bits)))+m)) - ij26)))))=false ->L8 a b m ij26 n0 cmp data r))):H0 a b m ij27 ij26 n0 cmp data r:=
 KW 9 hw (fun _ hw=>KD 15 [0]<|KRI 5 14 hw fun hw=>KRn 0 C7 hw fun _ hw=>KRI 2 14 hw fun hw=>KRn 0 C7 hw fun _ hw=>KF 0 hw fun _ hw=>KW 5 hw (fun _ hw=>KJ 7 [] hw) fun _ hw=>KJ 6 [] hw) fun _ hw=>KT 20 4<|KW 2 hw (fun _ hw=>KRO 6 C7 hw g37 fun _ hw=>KJ 2 [] hw) fun _ hw=>KJ 2 [] hw
theorem a4g (ij21:Int) (ij22:Int) (a:Int) (b:Int) (m:Int) (n0:Nat) (cmp:GFn) (data:(List (A0 × A0))) (r:(List (A0 × A0))) (hw:H0 a b m ij21 ij22 n0 cmp data r):M2 ij21 ij22 a b m n0 cmp data r:=
 KJ 10 [] hw
theorem a6z (n0:Nat) (data:(List (A0 × A0))) (a:Int) (m:Int) (b:Int) (cmp:GFn) (r:(List (A0 × A0))) (hw:(((wI (m - a))==1)=true ->H9 b m n0 a cmp data r) /\ (((wI (m - a))==1)=false ->(((wI (b - m))==1)=true ->H2 m a n0 m cmp data r) /\ (((wI (b - m))==1)=false ->((decide ((wI ((wU (wI (a+b))).fdiv (2 ^ min (1:Int).toNat IntKind.u64.bits)))<m))=true ->M2 (wI ((wU (wI (a+b))).fdiv (2 ^ min (1:Int).toNat IntKind.u64.bits))) (wI ((wI ((wI ((wU (wI (a+b))).fdiv (2 ^ min (1:Int).toNat IntKind.u64.bits)))+m)) - b)) a b m n0 cmp data r) /\ ((decide ((wI ((wU (wI (a+b))).fdiv (2 ^ min (1:Int).toNat IntKind.u64.bits)))<m))=false ->M2 m a a b m n0 cmp data r)))):H1 n0 data a m b cmp r:=
 fRO (KW 9 hw (fun _ hw=>KJ 15 [] hw) fun _ hw=>KW 11 hw (fun _ hw=>KJ 15 [] hw) fun _ hw=>KW 35 hw (fun _ hw=>KJ 13 [] hw) fun _ hw=>KJ 11 [] hw)
theorem g0e (r:Bool):plain (g95 r)=true:=rfl
theorem a81 (x:ByteArray) (r:Bool) (hw:r=(!(decide (x=x)))):a9m x r:=
 fP (KR 14 hw g0e)
theorem g3a (r:Bool):plain (g9p r)=true:=rfl
theorem a8v (x:Int) (r:Bool) (hw:r=(x !=x)):a9q x r:=
 fP (KR 14 hw g3a)
theorem f21 (r:Int):plain (g8t r)=true:=rfl
def M8 (ij1:Int) (s:(List (A0 × A0))) (f:GFn) (r:Int):Prop:=JP Tryz.prog 233 (g8t r) 3 [(8,aI ij1),(7,aI (s.length:Int)),(0,.sl (List.map B4 s) .no),(1,.clo (.func f.fn) f.fi f.cap)]
theorem a44 (ij1:Int) (s:(List (A0 × A0))) (f:GFn) (r:Int) (hw:((decide (ij1<(s.length:Int)))=true ->∃y3,s[ij1.toNat]? =some y3 /\ 0<=ij1 /\ (∃y4,a50 Tryz.prog [] (.clo (.func f.fn) f.fi f.cap) [.agg (U4 y3)] (aB y4) /\ ((y4=true ->r=ij1) /\ (y4=false ->M8 (wI (ij1+1)) s f r)))) /\ ((decide (ij1<(s.length:Int)))=false ->r=(-1))):M8 ij1 s f r:=
 KW 7 hw (fun _ hw=>KI 15 C7 hw fun _ hw=>KF 1 hw fun _ hw=>KW 2 hw (fun _ hw=>KR 12 hw f21) fun _ hw=>KJ 8 [] hw) fun _ hw=>KR 11 hw f21
theorem a64 (s:(List (A0 × A0))) (f:GFn) (r:Int) (hw:M8 0 s f r):a2f s f r:=
 fP (KL 9 C7 s<|KJ 5 [] hw)
def L6 (ij1:Int) (n0:Nat) (a:Int) (b:Int) (n:Int) (lj2:(List (Int × A0))) (r:(List (Int × A0))):Prop:=J Tryz.prog 234 (.io 0 (.tuple []) (cellsOf B3 r) []) 1 [(10,aI ij1),(0,.row 0 0 8 n0 n0),(1,aI a),(2,aI b),(3,aI n)] ⟨[some (cellsOf B3 lj2)],[],[]⟩
theorem a39 (ij1:Int) (n0:Nat) (a:Int) (b:Int) (n:Int) (lj2:(List (Int × A0))) (r:(List (Int × A0))) (hw:((decide (ij1<n))=true ->(0<=(wI (b+ij1)) /\ (wI (b+ij1))<(n0:Int)) /\ (∃y3,lj2[(wI (b+ij1)).toNat]? =some y3 /\ ((0<=(wI (a+ij1)) /\ (wI (a+ij1))<(n0:Int)) /\ (∃y4,lj2[(wI (a+ij1)).toNat]? =some y4 /\ ((0<=(wI (a+ij1)) /\ (wI (a+ij1))<(n0:Int)) /\ ((wI (a+ij1)).toNat<lj2.length /\ ((0<=(wI (b+ij1)) /\ (wI (b+ij1))<(n0:Int)) /\ ((wI (b+ij1)).toNat<(lj2.set (wI (a+ij1)).toNat y3).length /\ (L6 (wI (ij1+1)) n0 a b n ((lj2.set (wI (a+ij1)).toNat y3).set (wI (b+ij1)).toNat y4) r))))))))) /\ ((decide (ij1<n))=false ->lj2≠[] /\ r=lj2)):L6 ij1 n0 a b n lj2 r:=
 KW 9 hw (fun _ hw=>KDL 4 [0]<|KRI 12 8 hw fun hw=>KRn 0 C4 hw fun y3 hw=>KRI 4 8 hw fun hw=>KRn 0 C4 hw fun y4 hw=>KRI 0 8 hw fun hw=>KRS 0 C4 y3 hw fun hw=>KRI 0 8 hw fun hw=>KRS 0 C4 y4 hw fun hw=>KJ 9 [] hw) fun _ hw=>KRr 4 C4 hw
theorem a6r (n0:Nat) (data:(List (Int × A0))) (a:Int) (b:Int) (n:Int) (cmp:GFn) (r:(List (Int × A0))) (hw:L6 0 n0 a b n data r):J0 n0 data a b n cmp r:=
 fRO (KJ 7 [] hw)
def J1 (ij3:Int) (ij1:Int) (n0:Nat) (m:Int) (cmp:GFn) (lj2:(List (A0 × A0))) (r:(List (A0 × A0))):Prop:=J Tryz.prog 235 (.io 0 (.tuple []) (cellsOf B4 r) []) 3 [(11,aI ij3),(10,aI ij1),(0,.row 0 0 14 n0 n0),(2,aI m),(4,.clo (.func cmp.fn) cmp.fi cmp.cap)] ⟨[some (cellsOf B4 lj2)],[],[]⟩
theorem a6w (ij3:Int) (ij1:Int) (n0:Nat) (m:Int) (cmp:GFn) (lj2:(List (A0 × A0))) (r:(List (A0 × A0))) (hw:((ij1 !=ij3)=true ->((decide (ij3<ij1))=true ->∃y5,J3 n0 lj2 (wI (m - ij1)) m ij3 cmp y5 /\ (lj2≠[] /\ y5≠[]) /\ (J1 ij3 (wI (ij1 - ij3)) n0 m cmp y5 r)) /\ ((decide (ij3<ij1))=false ->∃y6,J3 n0 lj2 (wI (m - ij1)) (wI ((wI (m+ij3)) - ij1)) ij1 cmp y6 /\ (lj2≠[] /\ y6≠[]) /\ (J1 (wI (ij3 - ij1)) ij1 n0 m cmp y6 r))) /\ ((ij1 !=ij3)=false ->∃y4,J3 n0 lj2 (wI (m - ij1)) m ij1 cmp y4 /\ (lj2≠[] /\ y4≠[]) /\ (y4≠[] /\ r=y4))):J1 ij3 ij1 n0 m cmp lj2 r:=
 KW 9 hw (fun _ hw=>KW 10 hw (fun _ hw=>KRO 9 C7 hw e3o fun _ hw=>KJ 10 [] hw) fun _ hw=>KRO 13 C7 hw e3o fun _ hw=>KJ 10 [] hw) fun _ hw=>KRO 13 C7 hw e3o fun _ hw=>KRr 1 C7 hw
theorem a8s (n0:Nat) (data:(List (A0 × A0))) (a:Int) (m:Int) (b:Int) (cmp:GFn) (r:(List (A0 × A0))) (hw:J1 (wI (b - m)) (wI (m - a)) n0 m cmp data r):a0f n0 data a m b cmp r:=
 fRO (KJ 19 [] hw)
def L5 (ij1:Int) (n0:Nat) (a:Int) (b:Int) (n:Int) (lj2:(List (A0 × A0))) (r:(List (A0 × A0))):Prop:=J Tryz.prog 236 (.io 0 (.tuple []) (cellsOf B4 r) []) 1 [(10,aI ij1),(0,.row 0 0 14 n0 n0),(1,aI a),(2,aI b),(3,aI n)] ⟨[some (cellsOf B4 lj2)],[],[]⟩
theorem a4d (ij1:Int) (n0:Nat) (a:Int) (b:Int) (n:Int) (lj2:(List (A0 × A0))) (r:(List (A0 × A0))) (hw:((decide (ij1<n))=true ->(0<=(wI (b+ij1)) /\ (wI (b+ij1))<(n0:Int)) /\ (∃y3,lj2[(wI (b+ij1)).toNat]? =some y3 /\ ((0<=(wI (a+ij1)) /\ (wI (a+ij1))<(n0:Int)) /\ (∃y4,lj2[(wI (a+ij1)).toNat]? =some y4 /\ ((0<=(wI (a+ij1)) /\ (wI (a+ij1))<(n0:Int)) /\ ((wI (a+ij1)).toNat<lj2.length /\ ((0<=(wI (b+ij1)) /\ (wI (b+ij1))<(n0:Int)) /\ ((wI (b+ij1)).toNat<(lj2.set (wI (a+ij1)).toNat y3).length /\ (L5 (wI (ij1+1)) n0 a b n ((lj2.set (wI (a+ij1)).toNat y3).set (wI (b+ij1)).toNat y4) r))))))))) /\ ((decide (ij1<n))=false ->lj2≠[] /\ r=lj2)):L5 ij1 n0 a b n lj2 r:=
 KW 9 hw (fun _ hw=>KDL 4 [0]<|KRI 12 14 hw fun hw=>KRn 0 C7 hw fun y3 hw=>KRI 4 14 hw fun hw=>KRn 0 C7 hw fun y4 hw=>KRI 0 14 hw fun hw=>KRS 0 C7 y3 hw fun hw=>KRI 0 14 hw fun hw=>KRS 0 C7 y4 hw fun hw=>KJ 9 [] hw) fun _ hw=>KRr 4 C7 hw
theorem a6e (n0:Nat) (data:(List (A0 × A0))) (a:Int) (b:Int) (n:Int) (cmp:GFn) (r:(List (A0 × A0))) (hw:L5 0 n0 a b n data r):J3 n0 data a b n cmp r:=
 fRO (KJ 7 [] hw)
theorem g7w (r:Bool):plain (e86 r)=true:=rfl
theorem b9p (it:b24) (c1_:Int) (r:Bool) (hw:r=((wU it.Num)==c1_)):b9n it c1_ r:=
 fP (KR 17 hw g7w)
theorem c1x (it:b24) (c1_:Int) (r:Bool) (h:b9n it c1_ r):a50 Tryz.prog [] (.clo (.func 86) [] [.elt (b66 c1_) 0]) [.agg (a2e it)] (aB r):=⟨86,[],[.elt (b66 c1_) 0],rfl,(show plainL [.agg (a2e it),.elt (b66 c1_) 0]=true by simp),h⟩
theorem g2n (r:Bool):plain (h0s r)=true:=rfl
theorem c5t (g:B6) (c1_:ByteArray) (r:Bool) (hw:r=(decide (g.Name=c1_))):c7u g c1_ r:=
 fP (KR 16 hw g2n)
theorem c7l (g:B6) (c1_:ByteArray) (r:Bool) (h:c7u g c1_ r):a50 Tryz.prog [] (.clo (.func 100) [] [.elt (e5m c1_) 0]) [.agg (E2 g)] (aB r):=⟨100,[],[.elt (e5m c1_) 0],rfl,(show plainL [.agg (E2 g),.elt (e5m c1_) 0]=true by simp),h⟩
theorem g3t (r:Bool):plain (h0l r)=true:=rfl
theorem b0r (y:(Int × A0)) (c1_:GOp) (r:Bool) (hw:r=(y.1==c1_.Num)):a53 y c1_ r:=
 fP (KR 17 hw g3t)
theorem b07 (y:(Int × A0)) (c1_:GOp) (r:Bool) (h:a53 y c1_ r):a50 Tryz.prog [] (.clo (.func 155) [] [.elt (W3 c1_) 0]) [.agg (W2 y)] (aB r):=⟨155,[],[.elt (W3 c1_) 0],rfl,(show plainL [.agg (W2 y),.elt (W3 c1_) 0]=true by simp),h⟩
theorem g3k (r:Bool):plain (g9f r)=true:=rfl
theorem c9h (o_:GOp) (c1_:Int) (r:Bool) (hw:r=(o_.Num==c1_)):d3t o_ c1_ r:=
 fP (KR 16 hw g3k)
theorem d1j (o_:GOp) (c1_:Int) (r:Bool) (h:d3t o_ c1_ r):a50 Tryz.prog [] (.clo (.func 161) [] [.elt (a87 c1_) 0]) [.agg (W3 o_)] (aB r):=⟨161,[],[.elt (a87 c1_) 0],rfl,(show plainL [.agg (W3 o_),.elt (a87 c1_) 0]=true by simp),h⟩
theorem g0v (r:Bool):plain (h05 r)=true:=rfl
theorem b3b (y:(Int × A0)) (c1_:GOp) (r:Bool) (hw:r=(y.1==c1_.Num)):a90 y c1_ r:=
 fP (KR 17 hw g0v)
theorem b3t (y:(Int × A0)) (c1_:GOp) (r:Bool) (h:a90 y c1_ r):a50 Tryz.prog [] (.clo (.func 185) [] [.elt (W3 c1_) 0]) [.agg (W2 y)] (aB r):=⟨185,[],[.elt (W3 c1_) 0],rfl,(show plainL [.agg (W2 y),.elt (W3 c1_) 0]=true by simp),h⟩
theorem g3h (r:Bool):plain (h1a r)=true:=rfl
theorem b0e (q:(A0 × A0)) (c1_:(A0 × A0)) (r:Bool) (hw:∃y1,b1n q.1 c1_.1 y1 /\ (r=y1)):a6o q c1_ r:=
 fP (KC 12 hw f6f fun _ hw=>KR 4 hw g3h)
theorem b1j (q:(A0 × A0)) (c1_:(A0 × A0)) (r:Bool) (h:a6o q c1_ r):a50 Tryz.prog [] (.clo (.func 226) [] [.elt (U4 c1_) 0]) [.agg (U4 q)] (aB r):=⟨226,[],[.elt (U4 c1_) 0],rfl,(show plainL [.agg (U4 q),.elt (U4 c1_) 0]=true by simp),h⟩
end
section
def f3s (cmp:GFn) (x y:(A0 × A0)) (z:Int):Prop:=a50 Tryz.prog [] (.clo (.func cmp.fn) cmp.fi cmp.cap) [.agg (U4 x),.agg (U4 y)] (.v (.int .i64 z))
def e67 (cmp:GFn):d1k ((A0 × A0)) (f3s cmp) where
 swj:=fun a0 a1 a2 a3 a4 a5 a6=>L5 a0 a1 a2 a3 a4 a5 a6
 sw:=fun a0 a1 a2 a3 a4 a6=>J3 a0 a1 a2 a3 a4 cmp a6
 roj:=fun a0 a1 a2 a3 a5 a6=>J1 a0 a1 a2 a3 cmp a5 a6
 ro:=fun a0 a1 a2 a3 a4 a6=>a0f a0 a1 a2 a3 a4 cmp a6
 in6:=fun a0 a1 a2 a3 a4 a6 a7=>I2 a0 a1 a2 a3 a4 cmp a6 a7
 in4:=fun a0 a1 a2 a3 a5 a6=>I5 a0 a1 a2 a3 cmp a5 a6
 ins:=fun a0 a1 a2 a3 a5=>K2 a0 a1 a2 a3 cmp a5
 sy6:=fun a0 a1 a2 a3 a4=>N4 a0 a1 a2 a3 a4
 sy4:=fun a0 a1 a2 a3 a5 a6=>H9 a0 a1 a2 a3 cmp a5 a6
 sy12:=fun a0 a1 a2 a3 a4=>M0 a0 a1 a2 a3 a4
 sy10:=fun a0 a1 a2 a3 a5 a6=>H2 a0 a1 a2 a3 cmp a5 a6
 sy42:=fun a0 a1 a2 a3 a4 a6 a7=>K9 a0 a1 a2 a3 a4 cmp a6 a7
 sy40:=fun a0 a1 a2 a3 a4 a6 a7=>L8 a0 a1 a2 a3 a4 cmp a6 a7
 sy36:=fun a0 a1 a2 a3 a4 a5 a7 a8=>H0 a0 a1 a2 a3 a4 a5 cmp a7 a8
 sy28:=fun a0 a1 a2 a3 a4 a5 a7 a8=>M2 a0 a1 a2 a3 a4 a5 cmp a7 a8
 sy:=fun a0 a1 a2 a3 a4 a6=>H1 a0 a1 a2 a3 a4 cmp a6
 st14:=fun a0 a1 a2 a3 a4 a6 a7=>O5 a0 a1 a2 a3 a4 cmp a6 a7
 st12:=fun a0 a1 a2 a4 a5=>I6 a0 a1 a2 cmp a4 a5
 st8:=fun a0 a1 a2 a3 a5 a6=>P8 a0 a1 a2 a3 cmp a5 a6
 st:=fun a0 a1 a2 a4=>a0e a0 a1 a2 cmp a4
 so:=fun a0 a1 a3=>Q9 a0 a1 cmp a3
 h_swj:=fun a0 a1 a2 a3 a4 a5 a6 h=>a4d a0 a1 a2 a3 a4 a5 a6 h
 h_sw:=fun a0 a1 a2 a3 a4 a6 h=>a6e a0 a1 a2 a3 a4 cmp a6 h
 h_roj:=fun a0 a1 a2 a3 a5 a6 h=>a6w a0 a1 a2 a3 cmp a5 a6 h
 h_ro:=fun a0 a1 a2 a3 a4 a6 h=>a8s a0 a1 a2 a3 a4 cmp a6 h
 h_in6:=fun a0 a1 a2 a3 a4 a6 a7 h=>a2a a0 a1 a2 a3 a4 cmp a6 a7 h
 h_in4:=fun a0 a1 a2 a3 a5 a6 h=>a18 a0 a1 a2 a3 cmp a5 a6 h
 h_ins:=fun a0 a1 a2 a3 a5 h=>a32 a0 a1 a2 a3 cmp a5 h
 h_sy6:=fun a0 a1 a2 a3 a4 h=>a4w a0 a1 a2 a3 a4 h
 h_sy4:=fun a0 a1 a2 a3 a5 a6 h=>a5g a0 a1 a2 a3 cmp a5 a6 h
 h_sy12:=fun a0 a1 a2 a3 a4 h=>a4c a0 a1 a2 a3 a4 h
 h_sy10:=fun a0 a1 a2 a3 a5 a6 h=>a4f a0 a1 a2 a3 cmp a5 a6 h
 h_sy42:=fun a0 a1 a2 a3 a4 a6 a7 h=>a37 a0 a1 a2 a3 a4 cmp a6 a7 h
 h_sy40:=fun a0 a1 a2 a3 a4 a6 a7 h=>a4e a0 a1 a2 a3 a4 cmp a6 a7 h
 h_sy36:=fun a0 a1 a2 a3 a4 a5 a7 a8 h=>a4h a0 a1 a2 a3 a4 a5 cmp a7 a8 h
 h_sy28:=fun a0 a1 a2 a3 a4 a5 a7 a8 h=>a4g a0 a1 a2 a3 a4 a5 cmp a7 a8 h
 h_sy:=fun a0 a1 a2 a3 a4 a6 h=>a6z a0 a1 a2 a3 a4 cmp a6 h
 h_st14:=fun a0 a1 a2 a3 a4 a6 a7 h=>a51 a0 a1 a2 a3 a4 cmp a6 a7 h
 h_st12:=fun a0 a1 a2 a4 a5 h=>a5y a0 a1 a2 cmp a4 a5 h
 h_st8:=fun a0 a1 a2 a3 a5 a6 h=>a6k a0 a1 a2 a3 cmp a5 a6 h
 h_st:=fun a0 a1 a2 a4 h=>a82 a0 a1 a2 cmp a4 h
 h_so:=fun a0 a1 a3 h=>a3y a0 a1 cmp a3 h
def f4s (cmp:GFn) (x y:(Int × A0)) (z:Int):Prop:=a50 Tryz.prog [] (.clo (.func cmp.fn) cmp.fi cmp.cap) [.agg (W2 x),.agg (W2 y)] (.v (.int .i64 z))
def e6z (cmp:GFn):d1k ((Int × A0)) (f4s cmp) where
 swj:=fun a0 a1 a2 a3 a4 a5 a6=>L6 a0 a1 a2 a3 a4 a5 a6
 sw:=fun a0 a1 a2 a3 a4 a6=>J0 a0 a1 a2 a3 a4 cmp a6
 roj:=fun a0 a1 a2 a3 a5 a6=>J4 a0 a1 a2 a3 cmp a5 a6
 ro:=fun a0 a1 a2 a3 a4 a6=>a0d a0 a1 a2 a3 a4 cmp a6
 in6:=fun a0 a1 a2 a3 a4 a6 a7=>I1 a0 a1 a2 a3 a4 cmp a6 a7
 in4:=fun a0 a1 a2 a3 a5 a6=>I0 a0 a1 a2 a3 cmp a5 a6
 ins:=fun a0 a1 a2 a3 a5=>K0 a0 a1 a2 a3 cmp a5
 sy6:=fun a0 a1 a2 a3 a4=>N3 a0 a1 a2 a3 a4
 sy4:=fun a0 a1 a2 a3 a5 a6=>H6 a0 a1 a2 a3 cmp a5 a6
 sy12:=fun a0 a1 a2 a3 a4=>L9 a0 a1 a2 a3 a4
 sy10:=fun a0 a1 a2 a3 a5 a6=>G9 a0 a1 a2 a3 cmp a5 a6
 sy42:=fun a0 a1 a2 a3 a4 a6 a7=>M1 a0 a1 a2 a3 a4 cmp a6 a7
 sy40:=fun a0 a1 a2 a3 a4 a6 a7=>L0 a0 a1 a2 a3 a4 cmp a6 a7
 sy36:=fun a0 a1 a2 a3 a4 a5 a7 a8=>G6 a0 a1 a2 a3 a4 a5 cmp a7 a8
 sy28:=fun a0 a1 a2 a3 a4 a5 a7 a8=>L4 a0 a1 a2 a3 a4 a5 cmp a7 a8
 sy:=fun a0 a1 a2 a3 a4 a6=>G7 a0 a1 a2 a3 a4 cmp a6
 st14:=fun a0 a1 a2 a3 a4 a6 a7=>O3 a0 a1 a2 a3 a4 cmp a6 a7
 st12:=fun a0 a1 a2 a4 a5=>I7 a0 a1 a2 cmp a4 a5
 st8:=fun a0 a1 a2 a3 a5 a6=>P7 a0 a1 a2 a3 cmp a5 a6
 st:=fun a0 a1 a2 a4=>a0b a0 a1 a2 cmp a4
 so:=fun a0 a1 a3=>Q8 a0 a1 cmp a3
 h_swj:=fun a0 a1 a2 a3 a4 a5 a6 h=>a39 a0 a1 a2 a3 a4 a5 a6 h
 h_sw:=fun a0 a1 a2 a3 a4 a6 h=>a6r a0 a1 a2 a3 a4 cmp a6 h
 h_roj:=fun a0 a1 a2 a3 a5 a6 h=>a6v a0 a1 a2 a3 cmp a5 a6 h
 h_ro:=fun a0 a1 a2 a3 a4 a6 h=>a83 a0 a1 a2 a3 a4 cmp a6 h
 h_in6:=fun a0 a1 a2 a3 a4 a6 a7 h=>a19 a0 a1 a2 a3 a4 cmp a6 a7 h
 h_in4:=fun a0 a1 a2 a3 a5 a6 h=>a17 a0 a1 a2 a3 cmp a5 a6 h
 h_ins:=fun a0 a1 a2 a3 a5 h=>a33 a0 a1 a2 a3 cmp a5 h
 h_sy6:=fun a0 a1 a2 a3 a4 h=>a5f a0 a1 a2 a3 a4 h
 h_sy4:=fun a0 a1 a2 a3 a5 a6 h=>a5a a0 a1 a2 a3 cmp a5 a6 h
 h_sy12:=fun a0 a1 a2 a3 a4 h=>a36 a0 a1 a2 a3 a4 h
 h_sy10:=fun a0 a1 a2 a3 a5 a6 h=>a38 a0 a1 a2 a3 cmp a5 a6 h
 h_sy42:=fun a0 a1 a2 a3 a4 a6 a7 h=>a4a a0 a1 a2 a3 a4 cmp a6 a7 h
 h_sy40:=fun a0 a1 a2 a3 a4 a6 a7 h=>a4n a0 a1 a2 a3 a4 cmp a6 a7 h
 h_sy36:=fun a0 a1 a2 a3 a4 a5 a7 a8 h=>a4o a0 a1 a2 a3 a4 a5 cmp a7 a8 h
 h_sy28:=fun a0 a1 a2 a3 a4 a5 a7 a8 h=>a4j a0 a1 a2 a3 a4 a5 cmp a7 a8 h
 h_sy:=fun a0 a1 a2 a3 a4 a6 h=>a60 a0 a1 a2 a3 a4 cmp a6 h
 h_st14:=fun a0 a1 a2 a3 a4 a6 a7 h=>a52 a0 a1 a2 a3 a4 cmp a6 a7 h
 h_st12:=fun a0 a1 a2 a4 a5 h=>a5x a0 a1 a2 cmp a4 a5 h
 h_st8:=fun a0 a1 a2 a3 a5 a6 h=>a59 a0 a1 a2 a3 cmp a5 a6 h
 h_st:=fun a0 a1 a2 a4 h=>a84 a0 a1 a2 cmp a4 h
 h_so:=fun a0 a1 a3 h=>a31 a0 a1 cmp a3 h
attribute [local irreducible] Ok run put c9l br jn pos dr0 dr1 So
theorem a45 (f:Nat):C1 Tryz.prog [] 228 [.sl [] .no,aI 0,aI 0,.clo (.func f) [] []] (.tuple []):=
 fP (KKn 18 (B:=false) (b:=false) rfl<|KR (T:=Unit) (e:=fun _=>.tuple []) (r:=()) (r0:=()) 4 rfl (fun _=>rfl))
theorem a5e (f:Nat):C1 Tryz.prog [] 218 [.sl [] .no,aI 0,.clo (.func f) [] []] (.tuple []):=
 fP (KKn 24 (B:=false) (b:=false) rfl<|KC0 11 (p:=True) ⟨a45 f,trivial⟩ rfl fun _=>KKn 13 (B:=false) (b:=false) rfl<|KR (T:=Unit) (e:=fun _=>.tuple []) (r:=()) (r0:=()) 4 rfl (fun _=>rfl))
theorem a2s (f:Nat):W5 (⟨f,[],[],rfl⟩:GFn):=
 fP (KL 3 C7 []<|KC0 1 (p:=True) ⟨a5e f,trivial⟩ rfl fun _=>KR (T:=Unit) (e:=fun _=>.tuple []) (r:=()) (r0:=()) 1 rfl (fun _=>rfl))
theorem a5h (f:Nat):C1 Tryz.prog [] 216 [.sl [] .no,aI 0,aI 0,.clo (.func f) [] []] (.tuple []):=
 fP (KKn 18 (B:=false) (b:=false) rfl<|KR (T:=Unit) (e:=fun _=>.tuple []) (r:=()) (r0:=()) 4 rfl (fun _=>rfl))
theorem a4v (f:Nat):C1 Tryz.prog [] 189 [.sl [] .no,aI 0,.clo (.func f) [] []] (.tuple []):=
 fP (KKn 24 (B:=false) (b:=false) rfl<|KC0 11 (p:=True) ⟨a5h f,trivial⟩ rfl fun _=>KKn 13 (B:=false) (b:=false) rfl<|KR (T:=Unit) (e:=fun _=>.tuple []) (r:=()) (r0:=()) 4 rfl (fun _=>rfl))
theorem a2o (f:Nat):W7 (⟨f,[],[],rfl⟩:GFn):=
 fP (KL 3 C4 []<|KC0 1 (p:=True) ⟨a4v f,trivial⟩ rfl fun _=>KR (T:=Unit) (e:=fun _=>.tuple []) (r:=()) (r0:=()) 1 rfl (fun _=>rfl))
theorem a6l (f:Nat):C1 Tryz.prog [] 195 [.sl [] .no,aI 0,aI 0,.clo (.func f) [] []] (.tuple []):=
 fP (KKn 18 (B:=false) (b:=false) rfl<|KR (T:=Unit) (e:=fun _=>.tuple []) (r:=()) (r0:=()) 4 rfl (fun _=>rfl))
theorem a6q (f:Nat):C1 Tryz.prog [] 166 [.sl [] .no,aI 0,.clo (.func f) [] []] (.tuple []):=
 fP (KKn 24 (B:=false) (b:=false) rfl<|KC0 11 (p:=True) ⟨a6l f,trivial⟩ rfl fun _=>KKn 13 (B:=false) (b:=false) rfl<|KR (T:=Unit) (e:=fun _=>.tuple []) (r:=()) (r0:=()) 4 rfl (fun _=>rfl))
theorem a3w (f:Nat):Y1 (⟨f,[],[],rfl⟩:GFn):=
 fP (KL 3 b5a []<|KC0 1 (p:=True) ⟨a6q f,trivial⟩ rfl fun _=>KR (T:=Unit) (e:=fun _=>.tuple []) (r:=()) (r0:=()) 1 rfl (fun _=>rfl))
end
def b4a (x y:Int):Int:=if x<y then -1 else if y<x then 1 else 0
theorem c4p (x y:Int):Q3 x y (b4a x y):=by
 refine b9c _ _ _ ⟨false,b2f _ _ (by simp),false,b2f _ _ (by simp),fun h=>by simp at h,fun _=>⟨fun h=>by simp at h,fun _=>⟨fun h=> ?_,fun h=>⟨fun h2=> ?_,fun h2=> ?_⟩⟩⟩⟩
 ·simp at h; simp [b4a,h]
 ·simp at h h2; simp [b4a,h2]; omega
 ·simp at h h2; simp only [b4a]; rw [if_neg (by omega),if_neg (by omega)]
theorem W9 (x y:Int):(x<y /\ b4a x y= -1)\/(x=y /\ b4a x y=0)\/(y<x /\ b4a x y=1):=by
 unfold b4a
 split
 ·exact .inl ⟨by assumption,rfl⟩
 ·split
  ·exact .inr (.inr ⟨by assumption,rfl⟩)
  ·exact .inr (.inl ⟨by omega,rfl⟩)
theorem e2b {α:Type} (k:α ->Int):Pre (fun x y=>b4a (k x) (k y)) (fun _:α=>True):=by
 refine ⟨fun x y _ _=> ?_,fun x y z _ _ _ h1 h2=> ?_⟩
 ·rcases W9 (k x) (k y) with h|h|h<;>rcases W9 (k y) (k x) with g|g|g<;>simp only [h.2,g.2]<;>omega
 ·rcases W9 (k x) (k y) with h|h|h<;>rcases W9 (k y) (k z) with g|g|g<;>rcases W9 (k x) (k z) with e|e|e<;>simp only [h.2,g.2,e.2] at* <;>omega
theorem e51 (a b:Int × A0):c1h a b (b4a a.1 b.1):=c04 _ _ _ ⟨_,c4p _ _,rfl⟩
theorem e0w (x y:Int × A0):f4s (⟨160,[],[],rfl⟩:GFn) x y (b4a x.1 y.1):=⟨160,[],[],rfl,(show plainL [AV.agg (W2 x),AV.agg (W2 y)]=true by simp [plainL,plain,O2]),e51 x y⟩
def c51:List (Int × A0) ->List (Int × A0)
 |[]=>[]
 |[x]=>[x]
 |x::y::l=>if x.1=y.1 then c51 (y::l) else x::c51 (y::l)
theorem e0r (S:List (Int × A0)) (hl:S.length*136<=140737488355328):∀(d i:Nat) (done:List (Int × A0)),S.length - i<=d ->i<=S.length ->done.length<=i ->a4i i S done (done++c51 (S.drop i)):=by
 intro d
 induction d with
 |zero=>
  intro i done hd hi hn
  have e:i=S.length:=by omega
  subst e
  exact a5b _ _ _ _ ⟨fun h=>by simp at h,fun _=>by simp [c51]⟩
 |succ d ih=>
  intro i done hd hi hn
  rcases Nat.lt_or_ge i S.length with hlt|hge
  ·have e1:wI ((i:Int)+1)=((i+1:Nat):Int):=by rw [wI,D5 (by omega)]; omega
   have g1:S[i]? =some S[i]:=List.getElem?_eq_getElem hlt
   have dr:S.drop i=S[i]::S.drop (i+1):=List.drop_eq_getElem_cons hlt
   refine a5b _ _ _ _ ⟨fun _=>⟨S[i],by simpa using g1,by omega,fun b=>c51 (S.drop i)=if b then S[i]::c51 (S.drop (i+1)) else c51 (S.drop (i+1)),fun b hb=>⟨fun h=> ?_,fun h=> ?_⟩,fun h=> ?_,fun h=> ?_⟩,fun h=>by simp at h; omega⟩
   ·subst h
    refine ⟨by simp; omega, ?_⟩
    rw [e1,hb]
    have:=ih (i+1) (done++[S[i]]) (by omega) (by omega) (by simp; omega)
    simpa using this
   ·subst h
    rw [e1,hb]
    exact ih (i+1) done (by omega) (by omega) (by omega)
   ·rw [e1] at h
    simp at h
    have:S.drop (i+1)=[]:=List.drop_eq_nil_of_le (by omega)
    rw [dr,this]
    rfl
   ·rw [e1] at h ⊢
    simp at h
    have h2:i+1<S.length:=by omega
    have g2:S[i+1]? =some S[i+1]:=List.getElem?_eq_getElem h2
    have dr2:S.drop (i+1)=S[i+1]::S.drop (i+1+1):=List.drop_eq_getElem_cons h2
    refine ⟨S[i+1],by simpa using g2,by omega, ?_⟩
    rw [dr,dr2]
    simp only [c51]
    rcases Classical.em (S[i].1=S[i+1].1) with h3|h3
    ·simp [h3]
    ·simp [h3]
  ·exact a5b _ _ _ _ ⟨fun h=>by simp at h; omega,fun _=>by rw [List.drop_eq_nil_of_le hge]; simp [c51]⟩
theorem f1m (l:List (Int × A0)) (hl:l.length*136<=140737488355328):∃S,c7g (fun x y:Int × A0=>b4a x.1 y.1) l S /\ b1c l (c51 S):=by
 rcases Classical.em (l=[]) with h0|h0
 ·subst h0
  refine ⟨[],⟨[],.nil,by simp [a3q],rfl⟩,b6d _ _ ⟨fun _=>⟨?_,a2o _,c0q _ _ _ ⟨fun h=>by simp at h,fun _=>rfl⟩⟩,fun h=>(h rfl).elim⟩⟩
  exact b0k _ _ fun b _=>⟨fun _=>rfl,fun _=>⟨by simp,rfl⟩⟩
 ·have hpos:0<l.length:=List.length_pos_iff.2 h0
  obtain ⟨S,h1,h2,h3⟩:=f2p (e6z ⟨160,[],[],rfl⟩) (e2b fun x:Int × A0=>x.1) (fun x y _ _=>e0w x y) (n0:=l.length) (by omega) hpos (a3q l) (by simp [a3q]) (fun _ _=>trivial) (d00 l)
  rw [c1l] at h3
  have hlen:(fs S).length=l.length:=by simp [h2.length_eq,a3q]
  refine ⟨fs S,⟨S,h1,h2,rfl⟩,b6d _ _ ⟨fun h=>(h0 h).elim,fun _=>⟨a61 _ ⟨h0,hl⟩,fs S,h3,⟨h0,fun h=> ?_⟩,hlen, ?_⟩⟩⟩
  ·rw [h] at hlen; simp at hlen; omega
  ·have:=e0r (fs S) (by rw [hlen]; exact hl) (fs S).length 0 [] (by omega) (by omega) (by simp)
   simpa using this
theorem e93 (a:Nat):a&&&4503599627370495=a % 4503599627370496:=Nat.and_two_pow_sub_one_eq_mod a 52
theorem d8y (z:Nat) (hz:z<18446744073709551616):b18 z (f84 z):=by
 have e1:F4 .and .u64 (z:Int) 9218868437227405312=((z % 9223372036854775808 / 4503599627370496*4503599627370496:Nat):Int):=by
  have:=b6x z 9218868437227405312 hz (by omega)
  rw [f6a] at this
  exact this
 have e2:F4 .and .u64 (z:Int) 4503599627370495=((z % 4503599627370496:Nat):Int):=by
  have:=b6x z 4503599627370495 hz (by omega)
  rw [e93] at this
  exact this
 refine c39 _ _ ?_
 rw [e1,e2]
 simp only [Bool.and_eq_true,Bool.and_eq_false_iff,beq_iff_eq,beq_eq_false_iff_ne,bne_iff_ne,bne_eq_false_iff_eq]
 unfold f84
 refine ⟨fun h=> ?_,fun h=>⟨fun h2=> ?_,fun h2=>⟨fun h3=> ?_,fun h3=>⟨fun h4=> ?_,fun h4=> ?_⟩⟩⟩⟩
 all_goals (repeat' split)<;>first|rfl|(exfalso; omega)
section
open Go.RowKit Go.ChangeShapes Go.WideShapes Go.ChangeAt
def TyV (P:Program) (n:Nat) (t:TypeId) (av:AV):Prop:=
 match P.underlying t with
 |some (.struct _)|some (.array _ _)=>∃avs,av=.agg avs /\ Ty P n t avs
 |_=>Ty P n t [av]
theorem d41 {σ:Sg} {avs:List AV} {cs:Array Value} (h:F3 σ avs cs.toList):Rel σ (.agg avs) (.agg cs):=by
 refine .agg avs cs (by simpa using h.1) (fun i av hi=>(h.2 i av hi).1) (fun i=>cs.toList[i]?.getD (.bool false)) (fun i av hi=> ?_) (fun i av hi=> ?_)
 ·obtain ⟨_,x,hx,_⟩:=h.2 i av hi
  rw [hx]; simpa using hx
 ·obtain ⟨_,x,hx,hr⟩:=h.2 i av hi
  rw [hx]; exact hr
theorem c1j {σ:Sg} {av:AV} {v:Value} (h:F3 σ [av] v.cells.toList) (hv:∀cs,v≠.agg cs):Rel σ av v:=by
 obtain ⟨_,x,hx,hr⟩:=h.2 0 av rfl
 cases v with
 |agg cs=>exact absurd rfl (hv cs)
 |_=>simp [Value.cells] at hx; subst hx; exact hr
section
variable {H:Type} {enc:TypeId × Value ->H} {P:Program} {W:World} {base b0:Nat} {spare:Nat ->Bool} {held:Bool}
end
def f7x (P:Program) (t:TypeId):List TypeId:=
 match P.underlying t with
 |some (.slice e)=>[e]
 |some (.struct fs)=>fs.toList.map (·.type)
 |some (.array _ e)=>[e]
 |_=>[]
def d95:List TypeId ->List TypeId ->List TypeId
 |l,[]=>l
 |l,t::r=>d95 (if l.contains t then l else l++[t]) r
def d39 (P:Program):Nat ->List TypeId ->List TypeId
 |0,l=>l
 |n+1,l=>d39 P n (d95 l (l.flatMap (f7x P)))
theorem e5j (σ:Sg):c6c σ [] []:=⟨rfl,fun i av h=>by simp at h⟩
theorem b83 {σ:Sg} {a:AV} {v:Value} {l:List AV} {xs:List Value} (h:Rel σ a v) (hr:c6c σ l xs):c6c σ (a::l) (v::xs):=by
 refine ⟨by simp [hr.1],fun i av hi=> ?_⟩
 cases i with
 |zero=>simp at hi; subst hi; exact ⟨v,rfl,h⟩
 |succ i=>obtain ⟨x,h1,h2⟩:=hr.2 i av (by simpa using hi); exact ⟨x,by simpa using h1,h2⟩
theorem f7o {av:AV} (h:nz av=.v (.bool true)):av=.v (.bool true):=by
 cases av with
 |v x=>simpa [nz,nzA,nz1] using h
 |_=>simp [nz,nzA,nz1] at h
theorem e1n {P:Program} {f:FuncId} {args:List AV} {cargs:Array Value} {W:World} (hf:C1 P [] f args (.v (.bool true))) (hr:c6c (bare W b5w) args cargs.toList):
  Calls P f cargs W fun e W'=>e=.returned (.bool true) /\ Below W.heap.size W W':=by
 refine (hf.2 W b5w cargs (fun b o h=>h.elim) (fun g cells h=>by cases h) hr).mono fun e W' ⟨av,x,he,hp,hrel,hav⟩=> ?_
 rw [f7o hav] at hrel
 cases hrel with
 |v _ _=>exact ⟨he,hp.below⟩
end
def I64 (n:Int):Prop:= -9223372036854775808<=n /\ n<=9223372036854775807
def U64 (n:Int):Prop:=0<=n /\ n<18446744073709551616
def Sz (n:Nat):Prop:=n<=140737488351232
structure e4s (x:Q0):Prop where
 num:I64 x.Num
 wire:I64 x.Wire
 bits:U64 x.Bits
 data:Sz x.Data.size
inductive OkD:A0 ->Prop
 |mk (v:A0) (k:I64 v.Kind) (b:U64 v.Bits) (t:Sz v.Text.size) (l:Sz v.List_.length) (p:Sz v.Pairs.length) (s:Sz v.Slots.length) (r:Sz v.Raws.length)
  (hl:∀x∈v.List_,OkD x) (hk:∀x∈v.Pairs,OkD x.1) (hv:∀x∈v.Pairs,OkD x.2) (hn:∀x∈v.Slots,I64 x.1) (hs:∀x∈v.Slots,OkD x.2) (hr:∀x∈v.Raws,e4s x) (w:Sz (v.List_.length*128) /\ Sz (v.Pairs.length*256) /\ Sz (v.Slots.length*136) /\ Sz (v.Raws.length*40)):OkD v
section
variable {P:Program} {n:Nat} {t:TypeId} {avs:List AV}
def TyL (P:Program) (m:Nat):List TypeId ->List AV ->Prop
 |[],avs=>avs=[]
 |t::ts,avs=>∃a b,avs=a++b /\ Ty P m t a /\ TyL P m ts b
theorem f25 {m:Nat}:∀(fs:List Field) (parts:List (List AV)),parts.length=fs.length ->(∀(i:Nat) (f:Field),fs[i]? =some f ->∃p,parts[i]? =some p /\ Ty P m f.type p) ->TyL P m (fs.map (·.type)) parts.flatten
 |[],[],_,_=>rfl
 |[],_::_,h,_=>by cases h
 |_::_,[],h,_=>by cases h
 |f::fs,p::parts,hl,h=>by
  obtain ⟨q,hq,hty⟩:=h 0 f rfl
  cases hq
  exact ⟨p,parts.flatten,by simp,hty,f25 fs parts (by simpa using hl) fun i g hg=>h (i+1) g (by simpa using hg)⟩
def b8l (P:Program) (t:TypeId):Option (List TypeId):=match P.underlying t with|some (.struct fs)=>some (fs.toList.map (·.type))|_=>none
theorem c80 {ts:List TypeId} (hu:b8l P t=some ts) (h:Ty P n t avs):∃m,n=m+1 /\ TyL P m ts avs:=by
 cases n with
 |zero=>exact absurd h (by unfold Ty; exact id)
 |succ m=>
  unfold b8l at hu
  unfold Ty at h
  split at hu
  ·rename_i fs hfs
   rw [hfs] at h
   obtain ⟨parts,rfl,hl,hp⟩:=h
   cases hu
   exact ⟨m,rfl,f25 fs.toList parts (by simpa using hl) (fun i f hf=>hp i f (by simpa using hf))⟩
  ·cases hu
theorem e6q {k:IntKind} (hu:P.underlying t=some (.int k)) (h:Ty P n t avs):∃m,avs=[.v (.int k m)] /\ (Lit.int k m).wf=true:=by
 cases n with
 |zero=>exact absurd h (by unfold Ty; exact id)
 |succ m=>unfold Ty at h; rw [hu] at h; exact h
theorem b2b (hu:P.underlying t=some (.int .i64)) (h:Ty P n t avs):∃m,avs=[.v (.int .i64 m)] /\ I64 m:=by
 obtain ⟨m,h1,h2⟩:=e6q hu h
 refine ⟨m,h1, ?_⟩
 simp only [Lit.wf,Bool.and_eq_true,decide_eq_true_eq] at h2
 exact h2
theorem f4d (hu:P.underlying t=some (.int .u64)) (h:Ty P n t avs):∃m,avs=[.v (.int .u64 m)] /\ U64 m:=by
 obtain ⟨m,h1,h2⟩:=e6q hu h
 refine ⟨m,h1, ?_⟩
 simp only [Lit.wf,Bool.and_eq_true,decide_eq_true_eq] at h2
 have e1:IntKind.u64.min=0:=by decide
 have e2:IntKind.u64.max=18446744073709551615:=by decide
 unfold U64
 omega
theorem f4g (hu:P.underlying t=some (.int .u16)) (h:Ty P n t avs):∃m,avs=[.v (.int .u16 m)] /\ 0<=m /\ m<65536:=by
 obtain ⟨m,h1,h2⟩:=e6q hu h
 refine ⟨m,h1, ?_⟩
 simp only [Lit.wf,Bool.and_eq_true,decide_eq_true_eq] at h2
 have e1:IntKind.u16.min=0:=by decide
 have e2:IntKind.u16.max=65535:=by decide
 omega
theorem f54 (hu:P.underlying t=some .bool) (h:Ty P n t avs):∃b,avs=[.v (.bool b)]:=by
 cases n with
 |zero=>exact absurd h (by unfold Ty; exact id)
 |succ m=>unfold Ty at h; rw [hu] at h; exact h
theorem c16 (hu:P.underlying t=some .string) (h:Ty P n t avs):∃s:ByteArray,avs=[.v (.string s)] /\ Sz s.size:=by
 cases n with
 |zero=>exact absurd h (by unfold Ty; exact id)
 |succ m=>unfold Ty at h; rw [hu] at h; exact h
theorem d3y {e:TypeId} {G:Type} {enc:G ->List AV} {Ok:G ->Prop} (hu:P.underlying t=some (.slice e)) {w:Nat} (hw:P.bytesOf e=w) (hb:1<=P.bytesOf e) (hel:∀m avs,m<n ->Ty P m e avs ->∃x,avs=enc x /\ Ok x) (h:Ty P n t avs):∃l:List G,avs=[.sl (l.map enc) .no] /\ (Sz l.length /\ Sz (l.length*w)) /\ ∀x∈l,Ok x:=by
 cases n with
 |zero=>exact absurd h (by unfold Ty; exact id)
 |succ m=>
  unfold Ty at h; rw [hu] at h
  obtain ⟨els,rfl,hl,hty⟩:=h
  have hn:els.length<=140737488351232:=Nat.le_trans (Nat.le_mul_of_pos_right _ hb) hl
  have:∀els:List (List AV),(∀el∈els,Ty P m e el) ->∃l:List G,els=l.map enc /\ ∀x∈l,Ok x:=by
   intro els
   induction els with
   |nil=>exact fun _=>⟨[],rfl,fun x h=>by cases h⟩
   |cons a els ih=>
    intro h
    obtain ⟨l,rfl,hl⟩:=ih fun el hel=>h el (List.mem_cons_of_mem _ hel)
    obtain ⟨x,rfl,hx⟩:=hel m a (Nat.lt_succ_self m) (h a List.mem_cons_self)
    exact ⟨x::l,rfl,fun y hy=>(List.mem_cons.1 hy).elim (fun e=>e▸hx) (hl y)⟩
  obtain ⟨l,rfl,hok⟩:=this els hty
  exact ⟨l,rfl,⟨by simpa [Sz] using hn,by subst hw; simpa [Sz] using hl⟩,hok⟩
theorem e05 {e:TypeId} {G:Type} {enc:G ->List AV} {Ok:G ->Prop} (hu:P.underlying t=some (.slice e)) (hb:1<=P.bytesOf e) (hel:∀m avs,m<n ->Ty P m e avs ->∃x,avs=enc x /\ Ok x) (h:Ty P n t avs):∃l:List G,avs=[.sl (l.map enc) .no] /\ Sz l.length /\ ∀x∈l,Ok x:=by
 obtain ⟨l,h1,h2,h3⟩:=d3y hu rfl hb hel h
 exact ⟨l,h1,h2.1,h3⟩
theorem g3z {e:TypeId} {k:Nat} (hu:P.underlying t=some (.array k e)) (h:Ty P n t avs):∃m parts,n=m+1 /\ avs=List.flatten parts /\ parts.length=k /\ ∀p∈parts,Ty P m e p:=by
 cases n with
 |zero=>exact absurd h (by unfold Ty; exact id)
 |succ m=>unfold Ty at h; rw [hu] at h; obtain ⟨parts,a,b,c⟩:=h; exact ⟨m,parts,rfl,a,b,c⟩
theorem f3t {av:AV} {ts:List TypeId} (hu:b8l P t=some ts) (h:TyV P n t av):∃avs,av=.agg avs /\ Ty P n t avs:=by
 unfold TyV at h
 unfold b8l at hu
 split at hu
 ·rename_i fs hfs; rw [hfs] at h; exact h
 ·cases hu
theorem f7i {av:AV} {k:Nat} {e:TypeId} (hu:P.underlying t=some (.array k e)) (h:TyV P n t av):∃avs,av=.agg avs /\ Ty P n t avs:=by
 unfold TyV at h; rw [hu] at h; exact h
end
section
variable {n:Nat} {avs:List AV} {av:AV}
theorem g1u (h:Ty Tryz.prog n 127 avs):∃x,avs=T1 x /\ e4s x:=by
 obtain ⟨m,rfl,a1,b1,rfl,h1,a2,b2,rfl,h2,a3,b3,rfl,h3,a4,b4,rfl,h4,rfl⟩:=c80 (ts:=[3,3,29,9]) (by kernel_rfl) h
 obtain ⟨x1,rfl,k1⟩:=b2b (by kernel_rfl) h1
 obtain ⟨x2,rfl,k2⟩:=b2b (by kernel_rfl) h2
 obtain ⟨x3,rfl,k3⟩:=f4d (by kernel_rfl) h3
 obtain ⟨x4,rfl,k4⟩:=c16 (by kernel_rfl) h4
 exact ⟨⟨x1,x2,x3,x4⟩,rfl,⟨k1,k2,k3,k4⟩⟩
theorem d9p:∀(n:Nat) (avs:List AV),Ty Tryz.prog n 35 avs ->∃x,avs=C0 x /\ OkD x:=by
 intro n
 induction n using Nat.strongRecOn with
 |_ n ih=>
  intro avs h
  obtain ⟨m,rfl,a1,b1,rfl,h1,a2,b2,rfl,h2,a3,b3,rfl,h3,a4,b4,rfl,h4,a5,b5,rfl,h5,a6,b6,rfl,h6,a7,b7,rfl,h7,rfl⟩:=c80 (ts:=[3,29,9,30,31,32,33]) (by kernel_rfl) h
  obtain ⟨x1,rfl,k1⟩:=b2b (by kernel_rfl) h1
  obtain ⟨x2,rfl,k2⟩:=f4d (by kernel_rfl) h2
  obtain ⟨x3,rfl,k3⟩:=c16 (by kernel_rfl) h3
  obtain ⟨x4,rfl,⟨n4,w4⟩,k4⟩:=d3y (w:=128) (e:=35) (enc:=C0) (Ok:=OkD) (by kernel_rfl) (by kernel_rfl) (of_decide_eq_true (by kernel_rfl)) (fun k a hk ha=>ih k (by omega) a ha) h4
  obtain ⟨x5,rfl,⟨n5,w5⟩,k5⟩:=d3y (w:=256) (e:=100) (enc:=B4) (Ok:=fun x=>OkD x.1 /\ OkD x.2) (by kernel_rfl) (by kernel_rfl) (of_decide_eq_true (by kernel_rfl)) (fun k a hk ha=>by
   obtain ⟨q,rfl,a1,b1,rfl,h1,a2,b2,rfl,h2,rfl⟩:=c80 (ts:=[35,35]) (by kernel_rfl) ha
   obtain ⟨y1,rfl,z1⟩:=ih q (by omega) _ h1
   obtain ⟨y2,rfl,z2⟩:=ih q (by omega) _ h2
   exact ⟨(y1,y2),by simp [B4],z1,z2⟩) h5
  obtain ⟨x6,rfl,⟨n6,w6⟩,k6⟩:=d3y (w:=136) (e:=86) (enc:=B3) (Ok:=fun x=>I64 x.1 /\ OkD x.2) (by kernel_rfl) (by kernel_rfl) (of_decide_eq_true (by kernel_rfl)) (fun k a hk ha=>by
   obtain ⟨q,rfl,a1,b1,rfl,h1,a2,b2,rfl,h2,rfl⟩:=c80 (ts:=[3,35]) (by kernel_rfl) ha
   obtain ⟨y1,rfl,z1⟩:=b2b (by kernel_rfl) h1
   obtain ⟨y2,rfl,z2⟩:=ih q (by omega) _ h2
   exact ⟨(y1,y2),by simp [B3],z1,z2⟩) h6
  obtain ⟨x7,rfl,⟨n7,w7⟩,k7⟩:=d3y (w:=40) (e:=127) (enc:=T1) (Ok:=e4s) (by kernel_rfl) (by kernel_rfl) (of_decide_eq_true (by kernel_rfl)) (fun k a hk ha=>g1u ha) h7
  refine ⟨⟨x1,x2,x3,x4,x5,x6,x7⟩, ?_,.mk _ k1 k2 k3 n4 n5 n6 n7 k4 (fun x hx=>(k5 x hx).1) (fun x hx=>(k5 x hx).2) (fun x hx=>(k6 x hx).1) (fun x hx=>(k6 x hx).2) k7 ⟨w4,w5,w6,w7⟩⟩
  rw [T8]; rfl
theorem h2g (h:TyV Tryz.prog n 35 av):∃x,av=.agg (B0 x) /\ OkD x:=by
 obtain ⟨avs,rfl,g⟩:=f3t (ts:=[3,29,9,30,31,32,33]) (by kernel_rfl) h
 obtain ⟨x,rfl,k⟩:=d9p _ _ g
 exact ⟨x,by rw [T8],k⟩
theorem h13 (h:TyV Tryz.prog n 9 av):∃x:ByteArray,av=.v (.string x) /\ Sz x.size:=by
 have hu:Tryz.prog.underlying 9=some .string:=by kernel_rfl
 unfold TyV at h; rw [hu] at h
 obtain ⟨x,hx,k⟩:=c16 hu h
 exact ⟨x,by simpa using hx,k⟩
end
def c0g {α:Type} (c:α ->α ->Int):List α ->List α ->Int
 |[],[]=>0
 |[],_::_=> -1
 |_::_,[]=>1
 |x::l,y::m=>if c x y≠0 then c x y else c0g c l m
theorem c57 {α:Type} {J:Int ->List α ->List α ->Int ->Prop} {C:α ->α ->Int ->Prop} (c:α ->α ->Int)
  (c0x:∀i s t r,((decide (i<(s.length:Int)))=true ->∃y4,s[i.toNat]? =some y4 /\ 0<=i /\ (((decide ((t.length:Int)<=i))=true ->r=1) /\ ((decide ((t.length:Int)<=i))=false ->∃y5,t[i.toNat]? =some y5 /\ 0<=i /\ (∃y6,C y4 y5 y6 /\ (((y6 !=0)=true ->r=y6) /\ ((y6 !=0)=false ->J (wI (i+1)) s t r)))))) /\ ((decide (i<(s.length:Int)))=false ->((decide ((s.length:Int)<(t.length:Int)))=true ->r=(-1)) /\ ((decide ((s.length:Int)<(t.length:Int)))=false ->r=0)) ->J i s t r)
  (s t:List α) (hs:s.length<=140737488351232) (hC:∀x∈s,∀y∈t,C x y (c x y)):J 0 s t (c0g c s t):=by
 have key:∀(d i:Nat),s.length - i<=d ->i<=s.length ->i<=t.length ->J i s t (c0g c (s.drop i) (t.drop i)):=by
  intro d
  induction d with
  |zero=>
   intro i hd hi hj
   have e:i=s.length:=by omega
   subst e
   refine c0x _ _ _ _ ⟨fun h=>by simp at h,fun _=>⟨fun h=> ?_,fun h=> ?_⟩⟩
   ·simp at h
    rw [List.drop_length,List.drop_eq_getElem_cons h]
    rfl
   ·simp at h
    rw [List.drop_length,List.drop_eq_nil_of_le h]
    rfl
  |succ d ih=>
   intro i hd hi hj
   rcases Nat.lt_or_ge i s.length with hlt|hge
   ·have e1:wI ((i:Int)+1)=((i+1:Nat):Int):=by rw [wI,D5 (by omega)]; omega
    have ds:s.drop i=s[i]::s.drop (i+1):=List.drop_eq_getElem_cons hlt
    refine c0x _ _ _ _ ⟨fun _=>⟨s[i],by simp,by omega,fun h=> ?_,fun h=> ?_⟩,fun h=>by simp at h; omega⟩
    ·simp at h
     rw [ds,List.drop_eq_nil_of_le h]
     rfl
    ·simp at h
     have dt:t.drop i=t[i]::t.drop (i+1):=List.drop_eq_getElem_cons h
     refine ⟨t[i],by simp,by omega,c s[i] t[i],hC _ (List.getElem_mem _) _ (List.getElem_mem _),fun h2=> ?_,fun h2=> ?_⟩
     ·simp at h2
      rw [ds,dt]
      simp [c0g,h2]
     ·simp at h2
      rw [ds,dt,e1]
      have:=ih (i+1) (by omega) (by omega) (by omega)
      simpa [c0g,h2] using this
   ·have e:i=s.length:=by omega
    subst e
    refine c0x _ _ _ _ ⟨fun h=>by simp at h,fun _=>⟨fun h=> ?_,fun h=> ?_⟩⟩
    ·simp at h
     rw [List.drop_length,List.drop_eq_getElem_cons h]
     rfl
    ·simp at h
     rw [List.drop_length,List.drop_eq_nil_of_le h]
     rfl
 simpa using key s.length 0 (by omega) (by omega) (by omega)
def orL:List Int ->Int
 |[]=>0
 |x::l=>if x≠0 then x else orL l
theorem f0l (l:List Int) (hl:l.length<=1000):b04 l (orL l):=by
 refine c86 _ _ ?_
 have key:∀(d i:Nat),l.length - i<=d ->i<=l.length ->b0o i l (orL (l.drop i)):=by
  intro d
  induction d with
  |zero=>
   intro i hd hi
   exact a6n _ _ _ ⟨fun h=>by simp at h; omega,fun _=>by rw [List.drop_eq_nil_of_le (by omega)]; rfl⟩
  |succ d ih=>
   intro i hd hi
   rcases Nat.lt_or_ge i l.length with hlt|hge
   ·have e1:wI ((i:Int)+1)=((i+1:Nat):Int):=by rw [wI,D5 (by omega)]; omega
    have ds:l.drop i=l[i]::l.drop (i+1):=List.drop_eq_getElem_cons hlt
    refine a6n _ _ _ ⟨fun _=>⟨l[i],by simp,by omega,fun h=> ?_,fun h=> ?_⟩,fun h=>by simp at h; omega⟩
    ·simp at h
     rw [ds]; simp [orL,h]
    ·simp at h
     rw [ds,e1]
     have:=ih (i+1) (by omega) (by omega)
     simpa [orL,h] using this
   ·exact a6n _ _ _ ⟨fun h=>by simp at h; omega,fun _=>by rw [List.drop_eq_nil_of_le hge]; rfl⟩
 simpa using key l.length 0 (by omega) (by omega)
def e8q (x y:ByteArray):Int:=if Op.bytesLess x.toList y.toList=true then -1 else if (!(Op.bytesLess x.toList y.toList||x.toList==y.toList))=true then 1 else 0
theorem e8j (x y:ByteArray):a14 x y (e8q x y):=by
 refine b52 _ _ _ ⟨false,a81 _ _ (by simp),false,a81 _ _ (by simp),fun h=>by simp at h,fun _=>⟨fun h=>by simp at h,fun _=>⟨fun h=> ?_,fun h=>⟨fun h2=> ?_,fun h2=> ?_⟩⟩⟩⟩
 ·simp [e8q,h]
 ·unfold e8q; rw [if_neg (by rw [h]; simp),if_pos h2]
 ·unfold e8q; rw [if_neg (by rw [h]; simp),if_neg (by rw [h2]; simp)]
theorem d7g (x y:Int):Z3 x y (b4a x y):=by
 refine b5d _ _ _ ⟨false,a8v _ _ (by simp),false,a8v _ _ (by simp),fun h=>by simp at h,fun _=>⟨fun h=>by simp at h,fun _=>⟨fun h=> ?_,fun h=>⟨fun h2=> ?_,fun h2=> ?_⟩⟩⟩⟩
 ·simp at h; simp [b4a,h]
 ·simp at h h2; simp [b4a,h2]; omega
 ·simp at h h2; simp only [b4a]; rw [if_neg (by omega),if_neg (by omega)]
def c1b (x:Int):Int:=if ((f84 x.toNat:Int)==0)=true then 18446744073709551615 else if ((F4 .and .u64 x 9223372036854775808) !=0)=true then F4 .xor .u64 (IntKind.u64.max) x else F4 .or .u64 x 9223372036854775808
theorem d78 (x:Int) (hx:U64 x):b2l x (c1b x):=by
 have hc:=d8y x.toNat (by have:=hx.2; omega)
 rw [show ((x.toNat:Nat):Int)=x from Int.toNat_of_nonneg hx.1] at hc
 refine c38 _ _ ⟨_,hc,fun h=> ?_,fun h=>⟨fun h2=> ?_,fun h2=> ?_⟩⟩
 ·unfold c1b; rw [if_pos h]
 ·unfold c1b; rw [if_neg (by rw [h]; simp),if_pos h2]
 ·unfold c1b; rw [if_neg (by rw [h]; simp),if_neg (by rw [h2]; simp)]
def isS (k:Int):Bool:=(decide (1<=k))&&(decide (k<=9))
def cmpS (a b:A0):Int:=
 if ((a.Kind==7)||(a.Kind==8))=true then e8q a.Text b.Text
 else if ((a.Kind==2)||(a.Kind==3))=true then b4a (wI a.Bits) (wI b.Bits)
 else if (a.Kind==6)=true then b4a (c1b a.Bits) (c1b b.Bits)
 else b4a a.Bits b.Bits
theorem nt {b:Bool} (h:b=false):¬b=true:=by rw [h]; simp
theorem f8i (a b:A0) (hk:a.Kind=b.Kind) (hs:isS a.Kind=true) (ha:U64 a.Bits) (hb:U64 b.Bits):c2v a b (cmpS a b):=by
 refine c65 _ _ _ ⟨fun h=>by simp [hk] at h,fun _=>⟨true,a8e _ _ hs.symm,fun h=>by simp at h,fun _=>⟨_,b46 _ _ rfl,fun h=>⟨_,e8j _ _, ?_⟩,fun h=>⟨fun h2=>⟨_,c4p _ _, ?_⟩,fun h2=>⟨fun h3=>⟨_,d78 _ ha,_,d78 _ hb,_,d7g _ _, ?_⟩,fun h3=>⟨_,d7g _ _, ?_⟩⟩⟩⟩⟩⟩
 ·unfold cmpS; rw [if_pos h]
 ·unfold cmpS; rw [if_neg (nt h),if_pos h2]
 ·unfold cmpS; rw [if_neg (nt h),if_neg (nt h2),if_pos h3]
 ·unfold cmpS; rw [if_neg (nt h),if_neg (nt h2),if_neg (nt h3)]
def f3v (x y:Q0):Int:=orL [b4a x.Num y.Num,b4a x.Wire y.Wire,b4a x.Bits y.Bits,e8q x.Data y.Data]
def a1z:Nat ->A0 ->A0 ->Int
 |0,_,_=>0
 |n+1,a,b=>
  if a.Kind≠b.Kind then b4a a.Kind b.Kind
  else if isS a.Kind=true then cmpS a b
  else if a.Kind=11 then c0g (a1z n) a.List_ b.List_
  else if a.Kind=12 then c0g (fun x y=>orL [a1z n x.1 y.1,a1z n x.2 y.2]) a.Pairs b.Pairs
  else if a.Kind=10 then orL [c0g (fun x y=>orL [b4a x.1 y.1,a1z n x.2 y.2]) a.Slots b.Slots,c0g f3v a.Raws b.Raws]
  else 0
def b11 (v:A0):b81:=
 if isS v.Kind=true then .a_order_one v else if (v.Kind==11)=true then .a_order_list v.List_ else if (v.Kind==12)=true then .a_order_pairs v.Pairs else if (v.Kind==10)=true then .a_order_parts ⟨v.Slots,v.Raws⟩ else .nil
theorem e3v (v:A0):a8k v (b11 v):=by
 refine b9v _ _ ⟨_,a8e _ _ rfl,fun h=> ?_,fun h=>⟨fun h1=> ?_,fun h1=>⟨fun h2=> ?_,fun h2=>⟨fun h3=> ?_,fun h3=> ?_⟩⟩⟩⟩
 ·unfold b11 isS; rw [if_pos h]
 ·unfold b11 isS; rw [if_neg (nt h),if_pos h1]
 ·unfold b11 isS; rw [if_neg (nt h),if_neg (nt h1),if_pos h2]
 ·unfold b11 isS; rw [if_neg (nt h),if_neg (nt h1),if_neg (nt h2),if_pos h3]
 ·unfold b11 isS; rw [if_neg (nt h),if_neg (nt h1),if_neg (nt h2),if_neg (nt h3)]
theorem OkD.inv {v:A0} (h:OkD v):I64 v.Kind /\ U64 v.Bits /\ (Sz v.List_.length /\ Sz v.Pairs.length /\ Sz v.Slots.length /\ Sz v.Raws.length) /\ (∀x∈v.List_,OkD x) /\ (∀x∈v.Pairs,OkD x.1 /\ OkD x.2) /\ (∀x∈v.Slots,OkD x.2):=by
 cases h with
 |mk _ k b t l p s r hl hk hv hn hs hr w=>exact ⟨k,b,⟨l,p,s,r⟩,hl,fun x hx=>⟨hk x hx,hv x hx⟩,hs⟩
theorem OkD.w {v:A0} (h:OkD v):Sz (v.List_.length*128) /\ Sz (v.Pairs.length*256) /\ Sz (v.Slots.length*136) /\ Sz (v.Raws.length*40):=by
 cases h with
 |mk _ _ _ _ _ _ _ _ _ _ _ _ _ _ w=>exact w
theorem f9p (x y:Q0):c41 x y (f3v x y):=c3n _ _ _ ⟨_,c4p _ _,_,c4p _ _,_,d7g _ _,_,e8j _ _,_,f0l _ (by simp),rfl⟩
theorem szL {a x:A0} (h:x∈a.List_):SizeOf.sizeOf x<SizeOf.sizeOf a:=by
 have:=List.sizeOf_lt_of_mem h
 cases a; simp at this ⊢; omega
theorem szP {a:A0} {x:A0 × A0} (h:x∈a.Pairs):SizeOf.sizeOf x.1<SizeOf.sizeOf a /\ SizeOf.sizeOf x.2<SizeOf.sizeOf a:=by
 have:=List.sizeOf_lt_of_mem h
 cases a; cases x; simp at this ⊢; omega
theorem szS {a:A0} {x:Int × A0} (h:x∈a.Slots):SizeOf.sizeOf x.2<SizeOf.sizeOf a:=by
 have:=List.sizeOf_lt_of_mem h
 cases a; cases x; simp at this ⊢; omega
theorem szV (a:A0):0<SizeOf.sizeOf a:=by cases a; simp; omega
theorem c46:∀(n:Nat) (a b:A0),OkD a ->OkD b ->SizeOf.sizeOf a<=n ->a8z a b (a1z n a b)
 |0,a,b,_,_,h=>by have:=szV a; omega
 |n+1,a,b,ha,hb,hn=>by
  obtain ⟨_,hab,⟨la,pa,sa,ra⟩,hla,hpa,hsa⟩:=ha.inv
  obtain ⟨_,hbb,_,hlb,hpb,hsb⟩:=hb.inv
  refine c9p _ _ _ ⟨fun h=>⟨_,c4p _ _, ?_⟩,fun h=>⟨_,e3v b,_,e3v a, ?_⟩⟩
  ·simp at h
   rw [a1z,if_pos h]
  have hk:a.Kind=b.Kind:=by simpa using h
  rw [a1z,if_neg (by simp [hk])]
  by_cases h1:isS a.Kind=true
  ·have ea:b11 a=.a_order_one a:=by unfold b11; rw [if_pos h1]
   rw [if_pos h1,ea]
   refine ⟨fun y hy=> ?_,fun hn=>(hn a rfl).elim⟩
   cases hy
   exact ⟨_,f8i a b hk h1 hab hbb,rfl⟩
  ·rw [if_neg h1]
   by_cases h2:a.Kind=11
   ·have ea:b11 a=.a_order_list a.List_:=by unfold b11; rw [if_neg h1,if_pos (by simp [h2])]
    have eb:b11 b=.a_order_list b.List_:=by unfold b11; rw [if_neg (by rw [<-hk]; exact h1),if_pos (by simp [<-hk,h2])]
    rw [if_pos h2,ea,eb]
    refine ⟨fun y hy=>(by cases hy),fun _=>⟨fun y hy=> ?_,fun hn=>(hn _ rfl).elim⟩⟩
    cases hy
    refine ⟨_,rfl,_,U9 _ _ _ _ (c57 (J:=fun i s t r=>D2 i s t (⟨170,[],[],rfl⟩:GFn) r) (a1z n) (fun i s t r hw=>T2 _ _ _ _ _ hw) _ _ la fun x hx y hy=> ?_),rfl⟩
    exact ⟨170,[],[],rfl,(show plainL [AV.agg (B0 x),AV.agg (B0 y)]=true by simp [plainL,plain,B5]),c46 n x y (hla x hx) (hlb y hy) (by have:=szL hx; omega)⟩
   ·rw [if_neg h2]
    by_cases h3:a.Kind=12
    ·have ea:b11 a=.a_order_pairs a.Pairs:=by unfold b11; rw [if_neg h1,if_neg (by simp [h2]),if_pos (by simp [h3])]
     have eb:b11 b=.a_order_pairs b.Pairs:=by unfold b11; rw [if_neg (by rw [<-hk]; exact h1),if_neg (by simp [<-hk,h2]),if_pos (by simp [<-hk,h3])]
     rw [if_pos h3,ea,eb]
     refine ⟨fun y hy=>(by cases hy),fun _=>⟨fun y hy=>(by cases hy),fun _=>⟨fun y hy=> ?_,fun hn=>(hn _ rfl).elim⟩⟩⟩
     cases hy
     refine ⟨_,rfl,_,V1 _ _ _ _ (c57 (J:=fun i s t r=>D1 i s t (⟨201,[],[],rfl⟩:GFn) r) (fun x y=>orL [a1z n x.1 y.1,a1z n x.2 y.2]) (fun i s t r hw=>S8 _ _ _ _ _ hw) _ _ pa fun x hx y hy=> ?_),rfl⟩
     have hz:=szP hx
     exact ⟨201,[],[],rfl,(show plainL [AV.agg (U4 x),AV.agg (U4 y)]=true by simp [plainL,plain,O6]),c07 _ _ _ ⟨_,c46 n _ _ (hpa x hx).1 (hpb y hy).1 (by omega),_,c46 n _ _ (hpa x hx).2 (hpb y hy).2 (by omega),_,f0l _ (by simp),rfl⟩⟩
    ·rw [if_neg h3]
     by_cases h4:a.Kind=10
     ·have ea:b11 a=.a_order_parts ⟨a.Slots,a.Raws⟩:=by unfold b11; rw [if_neg h1,if_neg (by simp [h2]),if_neg (by simp [h3]),if_pos (by simp [h4])]
      have eb:b11 b=.a_order_parts ⟨b.Slots,b.Raws⟩:=by unfold b11; rw [if_neg (by rw [<-hk]; exact h1),if_neg (by simp [<-hk,h2]),if_neg (by simp [<-hk,h3]),if_pos (by simp [<-hk,h4])]
      rw [if_pos h4,ea,eb]
      refine ⟨fun y hy=>(by cases hy),fun _=>⟨fun y hy=>(by cases hy),fun _=>⟨fun y hy=>(by cases hy),fun _=>⟨fun y hy=> ?_,fun hn=>(hn _ rfl).elim⟩⟩⟩⟩
      cases hy
      refine ⟨_,rfl,_,a0j _ _ _ _ (c57 (J:=fun i s t r=>E9 i s t (⟨204,[],[],rfl⟩:GFn) r) (fun x y=>orL [b4a x.1 y.1,a1z n x.2 y.2]) (fun i s t r hw=>Z2 _ _ _ _ _ hw) _ _ sa fun x hx y hy=> ?_),_,a11 _ _ _ _ (c57 (J:=fun i s t r=>F8 i s t (⟨206,[],[],rfl⟩:GFn) r) f3v (fun i s t r hw=>a0x _ _ _ _ _ hw) _ _ ra fun x hx y hy=> ?_),_,f0l _ (by simp),rfl⟩
      ·have hz:=szS hx
       exact ⟨204,[],[],rfl,(show plainL [AV.agg (W2 x),AV.agg (W2 y)]=true by simp [plainL,plain,O2]),c11 _ _ _ ⟨_,c4p _ _,_,c46 n _ _ (hsa x hx) (hsb y hy) (by omega),_,f0l _ (by simp),rfl⟩⟩
      ·exact ⟨206,[],[],rfl,(show plainL [AV.agg (T1 x),AV.agg (T1 y)]=true by simp [plainL,plain,T5]),f9p x y⟩
     ·have ea:b11 a=.nil:=by unfold b11; rw [if_neg h1,if_neg (by simp [h2]),if_neg (by simp [h3]),if_neg (by simp [h4])]
      rw [if_neg h4,ea]
      exact ⟨fun y hy=>(by cases hy),fun _=>⟨fun y hy=>(by cases hy),fun _=>⟨fun y hy=>(by cases hy),fun _=>⟨fun y hy=>(by cases hy),fun _=>rfl⟩⟩⟩⟩
theorem e4t {x y:Int}:b4a x y≠0↔x≠y:=by
 rcases W9 x y with h|h|h<;>rw [h.2]<;>omega
theorem or2 (u v:Int):orL [u,v]=if u≠0 then u else v:=by
 simp only [orL]
 by_cases hu:u=0
 ·subst hu; by_cases hv:v=0<;>simp [hv]
 ·simp [hu]
abbrev Tp {α:Type} (c:α ->α ->Int):Prop:=Pre c (fun _:α=>True)
section
variable {α:Type} {c c1 c2:α ->α ->Int}
theorem Tp.s (h:Tp c) (x y:α):c x y<0↔0<c y x:=h.sym x y trivial trivial
theorem Tp.t (h:Tp c) (x y z:α):c x y<=0 ->c y z<=0 ->c x z<=0:=h.trans x y z trivial trivial trivial
theorem f3o (h:Tp c) {x y:α} {p q:Int} (hpq:p<0↔0<q):(if c x y≠0 then c x y else p)<0↔0<(if c y x≠0 then c y x else q):=by
 have h1:=h.s x y
 have h2:=h.s y x
 by_cases hx:c x y=0
 ·have hy:c y x=0:=by omega
  rw [if_neg (by simp [hx]),if_neg (by simp [hy])]
  exact hpq
 ·have hy:c y x≠0:=by omega
  rw [if_pos hx,if_pos hy]
  exact h1
theorem d80 (h:Tp c) {x y z:α} {p q r:Int} (hp:p<=0 ->q<=0 ->r<=0) (h1:(if c x y≠0 then c x y else p)<=0) (h2:(if c y z≠0 then c y z else q)<=0):(if c x z≠0 then c x z else r)<=0:=by
 have sxy:=h.s x y
 have syx:=h.s y x
 have syz:=h.s y z
 have szy:=h.s z y
 have sxz:=h.s x z
 have szx:=h.s z x
 have t1:=h.t x y z
 have t2:=h.t y z x
 have t3:=h.t z x y
 by_cases hxz:c x z=0
 ·rw [if_neg (by simp [hxz])]
  have e1:c x y=0:=by
   by_cases e:c x y=0
   ·exact e
   ·rw [if_pos e] at h1
    by_cases e2:c y z=0
    ·have:=t2 (by omega) (by omega); omega
    ·rw [if_pos e2] at h2
     have:=t2 (by omega) (by omega); omega
  have e2:c y z=0:=by
   by_cases e:c y z=0
   ·exact e
   ·rw [if_pos e] at h2
    have:=t3 (by omega) (by omega); omega
  rw [if_neg (by simp [e1])] at h1
  rw [if_neg (by simp [e2])] at h2
  exact hp h1 h2
 ·rw [if_pos hxz]
  by_cases e1:c x y=0
  ·by_cases e2:c y z=0
   ·exact t1 (by omega) (by omega)
   ·rw [if_pos e2] at h2; exact t1 (by omega) (by omega)
  ·rw [if_pos e1] at h1
   by_cases e2:c y z=0
   ·exact t1 (by omega) (by omega)
   ·rw [if_pos e2] at h2; exact t1 (by omega) (by omega)
theorem e1m (h1:Tp c1) (h2:Tp c2):Tp (fun x y=>orL [c1 x y,c2 x y]):=by
 refine ⟨fun x y _ _=> ?_,fun x y z _ _ _=> ?_⟩
 ·simp only [or2]; exact f3o h1 (h2.s x y)
 ·simp only [or2]; exact d80 h1 (h2.t x y z)
theorem c8r (h:Tp c):Tp (c0g c):=by
 refine ⟨fun l m _ _=> ?_,fun l m k _ _ _=> ?_⟩
 ·induction l generalizing m with
  |nil=>cases m<;>simp [c0g]
  |cons x l ih=>
   cases m with
   |nil=>simp [c0g]
   |cons y m=>simp only [c0g]; exact f3o h (ih m)
 ·induction l generalizing m k with
  |nil=>cases m<;>cases k<;>simp [c0g]
  |cons x l ih=>
   cases m with
   |nil=>simp [c0g]
   |cons y m=>
    cases k with
    |nil=>simp only [c0g]; intro _ h2; exact h2
    |cons z k=>simp only [c0g]; exact d80 h (ih m k)
theorem g36 (key:α ->Int) (f:Int ->α ->α ->Int) (hf:∀k,Tp (f k)):Tp (fun a b=>if key a≠key b then b4a (key a) (key b) else f (key a) a b):=by
 refine ⟨fun x y _ _=> ?_,fun x y z _ _ _ h1 h2=> ?_⟩
 ·by_cases h:key x=key y
  ·simp only [h,ne_eq,not_true_eq_false,if_false]; exact (hf _).s x y
  ·simp only [ne_eq,h,not_false_eq_true,if_true,Ne.symm h]
   rcases W9 (key x) (key y) with g|g|g<;>rcases W9 (key y) (key x) with e|e|e<;>rw [g.2,e.2]<;>omega
 ·simp only [ne_eq] at h1 h2 ⊢
  by_cases e1:key x=key y
  ·by_cases e2:key y=key z
   ·rw [if_neg (by simp [e1,e2])]
    rw [if_neg (by simp [e1])] at h1
    rw [if_neg (by simp [e2])] at h2
    rw [<-e1] at h2
    exact (hf _).t x y z h1 h2
   ·rw [if_pos e2] at h2
    rw [if_pos (by rw [e1]; exact e2),e1]
    exact h2
  ·rw [if_pos e1] at h1
   by_cases e2:key y=key z
   ·rw [if_pos (by rw [<-e2]; exact e1),<-e2]
    exact h1
   ·rw [if_pos e2] at h2
    rcases W9 (key x) (key y) with g|g|g<;>rcases W9 (key y) (key z) with e|e|e<;>rw [g.2] at h1<;>rw [e.2] at h2<;>first|omega|skip
    rw [if_pos (by omega)]
    rcases W9 (key x) (key z) with d|d|d<;>rw [d.2]<;>omega
theorem e6b:Tp (fun _ _:α=>0):=⟨fun x y _ _=>by simp,fun x y z _ _ _ _ _=>by simp⟩
theorem b10 {β:Type} (h:Tp c) (f:β ->α):Tp (fun x y=>c (f x) (f y)):=⟨fun x y _ _=>h.s _ _,fun x y z _ _ _=>h.t _ _ _⟩
theorem d7b (p:Bool) (h1:Tp c1) (h2:Tp c2):Tp (fun x y=>if p=true then c1 x y else c2 x y):=by cases p<;>simpa
theorem f0e:Tp b4a:=e2b fun x:Int=>x
end
theorem d05:∀l m:List UInt8,(if Op.bytesLess l m=true then (-1:Int) else if (!(Op.bytesLess l m||l==m))=true then 1 else 0)=c0g (fun a b:UInt8=>b4a a.toNat b.toNat) l m
 |[],[]=>by simp [Op.bytesLess,c0g]
 |[],b::m=>by simp [Op.bytesLess,c0g]
 |a::l,[]=>by simp [Op.bytesLess,c0g]
 |a::l,b::m=>by
  have ih:=d05 l m
  simp only [c0g,Op.bytesLess]
  rw [<-ih]
  have hab:a<b↔a.toNat<b.toNat:=UInt8.lt_iff_toNat_lt
  have hba:b<a↔b.toNat<a.toNat:=UInt8.lt_iff_toNat_lt
  rcases W9 (a.toNat:Int) (b.toNat:Int) with g|g|g
  ·have h1:a<b:=hab.2 (by omega)
   simp [h1,g.2]
  ·have h1:a=b:=UInt8.toNat_inj.1 (by omega)
   subst h1
   have h2:¬a<a:=UInt8.lt_irrefl a
   simp [h2,g.2]
  ·have h1:¬a<b:=fun h=>by have:=hab.1 h; omega
   have h2:¬a=b:=fun h=>by subst h; omega
   simp [h1,h2,g.2]
theorem g89:Tp e8q:=by
 have h:=b10 (c8r (b10 f0e fun a:UInt8=>(a.toNat:Int))) fun x:ByteArray=>x.toList
 have e:e8q=fun x y=>c0g (fun a b:UInt8=>b4a (a.toNat:Int) (b.toNat:Int)) x.toList y.toList:=by
  funext x y
  exact d05 x.toList y.toList
 rw [e]; exact h
theorem h2e:Tp f3v:=by
 have h:=e1m (b10 f0e fun x:Q0=>x.Num) (e1m (b10 f0e fun x:Q0=>x.Wire) (e1m (b10 f0e fun x:Q0=>x.Bits) (b10 g89 fun x:Q0=>x.Data)))
 have e:f3v=fun x y:Q0=>orL [b4a x.Num y.Num,orL [b4a x.Wire y.Wire,orL [b4a x.Bits y.Bits,e8q x.Data y.Data]]]:=by
  funext x y
  simp only [f3v,orL]
  split
  ·rfl
  ·split
   ·simp [*]
   ·split
    ·simp [*]
    ·split<;>simp [*]
 rw [e]; exact h
def f7c (k:Int) (a b:A0):Int:=
 if ((k==7)||(k==8))=true then e8q a.Text b.Text
 else if ((k==2)||(k==3))=true then b4a (wI a.Bits) (wI b.Bits)
 else if (k==6)=true then b4a (c1b a.Bits) (c1b b.Bits)
 else b4a a.Bits b.Bits
theorem h15 (k:Int):Tp (f7c k):=d7b _ (b10 g89 fun v:A0=>v.Text) (d7b _ (b10 f0e fun v:A0=>wI v.Bits) (d7b _ (b10 f0e fun v:A0=>c1b v.Bits) (b10 f0e fun v:A0=>v.Bits)))
theorem g4m:∀n,Tp (a1z n)
 |0=>e6b
 |n+1=>by
  have ih:=g4m n
  have h:=g36 (fun v:A0=>v.Kind) (fun k a b=>if isS k=true then f7c k a b else if decide (k=11)=true then c0g (a1z n) a.List_ b.List_ else if decide (k=12)=true then c0g (fun x y=>orL [a1z n x.1 y.1,a1z n x.2 y.2]) a.Pairs b.Pairs else if decide (k=10)=true then orL [c0g (fun x y=>orL [b4a x.1 y.1,a1z n x.2 y.2]) a.Slots b.Slots,c0g f3v a.Raws b.Raws] else 0)
   fun k=>d7b _ (h15 k) (d7b _ (b10 (c8r ih) fun v:A0=>v.List_) (d7b _ (b10 (c8r (e1m (b10 ih fun x:A0 × A0=>x.1) (b10 ih fun x:A0 × A0=>x.2))) fun v:A0=>v.Pairs) (d7b _ (e1m (b10 (c8r (e1m (b10 f0e fun x:Int × A0=>x.1) (b10 ih fun x:Int × A0=>x.2))) fun v:A0=>v.Slots) (b10 (c8r h2e) fun v:A0=>v.Raws)) e6b)))
  have e:a1z (n+1)=fun a b:A0=>if a.Kind≠b.Kind then b4a a.Kind b.Kind else (fun (k:Int) (a b:A0)=>if isS k=true then f7c k a b else if decide (k=11)=true then c0g (a1z n) a.List_ b.List_ else if decide (k=12)=true then c0g (fun x y=>orL [a1z n x.1 y.1,a1z n x.2 y.2]) a.Pairs b.Pairs else if decide (k=10)=true then orL [c0g (fun x y=>orL [b4a x.1 y.1,a1z n x.2 y.2]) a.Slots b.Slots,c0g f3v a.Raws b.Raws] else 0) a.Kind a b:=by
   funext a b
   simp only [a1z,decide_eq_true_eq]
   rfl
  rw [e]; exact h
def a0h {α:Type} (c:α ->α ->Int):List α ->List α
 |[]=>[]
 |[x]=>[x]
 |x::y::l=>if c x y=0 then a0h c (y::l) else x::a0h c (y::l)
abbrev kc (N:Nat) (x y:A0 × A0):Int:=a1z N x.1 y.1
def OkP (N:Nat) (x:A0 × A0):Prop:=OkD x.1 /\ SizeOf.sizeOf x.1<=N
theorem e0t (N:Nat) (S:List (A0 × A0)) (hl:S.length*256<=140737488355328) (hS:∀x∈S,OkP N x):∀(d i:Nat) (done:List (A0 × A0)),S.length - i<=d ->i<=S.length ->done.length<=i ->a35 i S done (done++a0h (kc N) (S.drop i)):=by
 intro d
 induction d with
 |zero=>
  intro i done hd hi hn
  have e:i=S.length:=by omega
  subst e
  exact a5c _ _ _ _ ⟨fun h=>by simp at h,fun _=>by simp [a0h]⟩
 |succ d ih=>
  intro i done hd hi hn
  rcases Nat.lt_or_ge i S.length with hlt|hge
  ·have e1:wI ((i:Int)+1)=((i+1:Nat):Int):=by rw [wI,D5 (by omega)]; omega
   have dr:S.drop i=S[i]::S.drop (i+1):=List.drop_eq_getElem_cons hlt
   refine a5c _ _ _ _ ⟨fun _=>⟨S[i],by simp,by omega,fun b=>a0h (kc N) (S.drop i)=if b then S[i]::a0h (kc N) (S.drop (i+1)) else a0h (kc N) (S.drop (i+1)),fun b hb=>⟨fun h=> ?_,fun h=> ?_⟩,fun h=> ?_,fun h=> ?_⟩,fun h=>by simp at h; omega⟩
   ·subst h
    refine ⟨by simp; omega, ?_⟩
    rw [e1,hb]
    have:=ih (i+1) (done++[S[i]]) (by omega) (by omega) (by simp; omega)
    simpa using this
   ·subst h
    rw [e1,hb]
    exact ih (i+1) done (by omega) (by omega) (by omega)
   ·rw [e1] at h
    simp at h
    have:S.drop (i+1)=[]:=List.drop_eq_nil_of_le (by omega)
    rw [dr,this]
    rfl
   ·rw [e1] at h ⊢
    simp at h
    have h2:i+1<S.length:=by omega
    have dr2:S.drop (i+1)=S[i+1]::S.drop (i+1+1):=List.drop_eq_getElem_cons h2
    have o1:=hS _ (List.getElem_mem hlt)
    have o2:=hS _ (List.getElem_mem h2)
    refine ⟨S[i+1],by simp,by omega,_,b6c _ _ _ ⟨_,c46 N _ _ o1.1 o2.1 o1.2,rfl⟩, ?_⟩
    rw [dr,dr2]
    simp only [a0h]
    rcases Classical.em (a1z N S[i].1 S[i+1].1=0) with h3|h3
    ·simp [kc,h3]
    ·simp [kc,h3]
  ·exact a5c _ _ _ _ ⟨fun h=>by simp at h; omega,fun _=>by rw [List.drop_eq_nil_of_le hge]; simp [a0h]⟩
theorem e2r (N:Nat):Pre (kc N) (OkP N):=by
 have h:=b10 (g4m N) fun x:A0 × A0=>x.1
 exact ⟨fun x y _ _=>h.s x y,fun x y z _ _ _=>h.t x y z⟩
theorem e1k (N:Nat) (x y:A0 × A0) (hx:OkP N x) (hy:OkP N y):f3s (⟨193,[],[],rfl⟩:GFn) x y (kc N x y):=
 ⟨193,[],[],rfl,(show plainL [AV.agg (U4 x),AV.agg (U4 y)]=true by simp [plainL,plain,O6]),c12 _ _ _ ⟨_,c46 N _ _ hx.1 hy.1 hx.2,rfl⟩⟩
theorem e9e (N:Nat) (l:List (A0 × A0)) (hl:l.length*256<=140737488355328) (hok:∀x∈l,OkP N x):∃S,c7g (kc N) l S /\ b5l l (a0h (kc N) S):=by
 rcases Classical.em (l=[]) with h0|h0
 ·subst h0
  refine ⟨[],⟨[],.nil,by simp [a3q],rfl⟩,b6a _ _ ⟨fun _=>⟨?_,a2s _,b9o _ _ _ ⟨fun h=>by simp at h,fun _=>rfl⟩⟩,fun h=>(h rfl).elim⟩⟩
  exact b0p _ _ fun b _=>⟨fun _=>rfl,fun _=>⟨by simp,rfl⟩⟩
 ·have hpos:0<l.length:=List.length_pos_iff.2 h0
  have hmem:∀x∈a3q l,x.1∈l:=fun x hx=>by rw [<-c1l l]; exact List.mem_map_of_mem hx
  obtain ⟨S,h1,h2,h3⟩:=f2p (e67 ⟨193,[],[],rfl⟩) (e2r N) (fun x y hx hy=>e1k N x y hx hy) (n0:=l.length) (by omega) hpos (a3q l) (by simp [a3q]) (fun x hx=>hok _ (hmem x hx)) (d00 l)
  rw [c1l] at h3
  have hlen:(fs S).length=l.length:=by simp [h2.length_eq,a3q]
  refine ⟨fs S,⟨S,h1,h2,rfl⟩,b6a _ _ ⟨fun h=>(h0 h).elim,fun _=>⟨a6y _ ⟨h0,hl⟩,fs S,h3,⟨h0,fun h=> ?_⟩,hlen, ?_⟩⟩⟩
  ·rw [h] at hlen; simp at hlen; omega
  ·have:=e0t N (fs S) (by rw [hlen]; exact hl) (fun x hx=>by
    obtain ⟨y,hy,rfl⟩:=List.mem_map.1 hx
    exact hok _ (hmem y (h2.mem_iff.1 hy))) (fs S).length 0 [] (by omega) (by omega) (by simp)
   simpa using this
section
variable {α:Type} (c:α ->α ->Int)
def b6n (x:α):List α ->List α
 |[]=>[x]
 |y::l=>if c y x<0 then y::b6n x l else x::y::l
def lone (x:α) (l:List α):Bool:=l.all fun y=>c x y !=0
def V6:List α ->List α
 |[]=>[]
 |x::l=>if lone c x l=true then b6n c x (V6 l) else V6 l
theorem d8v (x:α):∀l,(b6n c x l).length=l.length+1
 |[]=>rfl
 |y::l=>by
  simp only [b6n]
  split
  ·simp [d8v x l]
  ·simp
variable {c}
end
section
variable {N:Nat} {l:List (A0 × A0)} (hl:l.length*256<=140737488355328) (hok:∀x∈l,OkP N x)
 include hl hok
end
section
variable {α:Type} {c:α ->α ->Int}
theorem c28:∀(l:List α),∀x∈a0h c l,x∈l
 |[],x,h=>h
 |[y],x,h=>h
 |y::z::l,x,h=>by
  simp only [a0h] at h
  split at h
  ·exact List.mem_cons_of_mem _ (c28 (z::l) x h)
  ·rcases List.mem_cons.1 h with h|h
   ·rw [h]; simp
   ·exact List.mem_cons_of_mem _ (c28 (z::l) x h)
theorem d99 {x:α}:∀{l:List α},(∀w∈l,¬c w x<0) ->b6n c x l=x::l
 |[],_=>rfl
 |y::l,h=>by simp only [b6n]; rw [if_neg (h y (by simp))]
theorem d5p (h:Tp c) (x:α):∀(S:List α),S.Pairwise (fun a b=>c a b<=0) ->a0h c (b6n c x S)=if lone c x S=true then b6n c x (a0h c S) else a0h c S
 |[],_=>rfl
 |y::l,hs=>by
  obtain ⟨hy,hl⟩:=List.pairwise_cons.1 hs
  have ih:=d5p h x l hl
  have s1:=h.s x y
  have s2:=h.s y x
  by_cases e:c y x<0
  ·have eI:b6n c x (y::l)=y::b6n c x l:=by simp only [b6n]; rw [if_pos e]
   have eL:lone c x (y::l)=lone c x l:=by
    have:c x y≠0:=by omega
    simp [lone,this]
   rw [eI,eL]
   cases l with
   |nil=>
    have:¬c y x=0:=by omega
    simp [b6n,a0h,lone,this,e]
   |cons z l=>
    have s3:=h.s z x
    have s4:=h.s x z
    have s5:=h.s y z
    have s6:=h.s z y
    have t1:=h.t x z y
    by_cases e2:c z x<0
    ·have e3:b6n c x (z::l)=z::b6n c x l:=by simp only [b6n]; rw [if_pos e2]
     rw [e3] at ih ⊢
     simp only [a0h] at ih ⊢
     rw [ih]
     by_cases e4:c y z=0
     ·rw [if_pos e4,if_pos e4]
     ·rw [if_neg e4,if_neg e4]
      by_cases e5:lone c x (z::l)=true
      ·rw [if_pos e5,if_pos e5]; simp only [b6n]; rw [if_pos e]
      ·rw [if_neg e5,if_neg e5]
    ·have e3:b6n c x (z::l)=x::z::l:=by simp only [b6n]; rw [if_neg e2]
     rw [e3] at ih ⊢
     have e4:¬c y x=0:=by omega
     have e5:¬c y z=0:=by
      intro e6
      have:=t1 (by omega) (by omega)
      omega
     have e7:a0h c (y::x::z::l)=y::a0h c (x::z::l):=by
      rw [a0h,if_neg e4]
     have e8:a0h c (y::z::l)=y::a0h c (z::l):=by
      rw [a0h,if_neg e5]
     rw [e7,e8,ih]
     by_cases e9:lone c x (z::l)=true
     ·rw [if_pos e9,if_pos e9]; simp only [b6n]; rw [if_pos e]
     ·rw [if_neg e9,if_neg e9]
  ·have eI:b6n c x (y::l)=x::y::l:=by simp only [b6n]; rw [if_neg e]
   rw [eI]
   by_cases e0:c x y=0
   ·have:lone c x (y::l)=false:=by simp [lone,e0]
    rw [a0h,if_pos e0,this]
    simp
   ·have hlt:c x y<0:=by omega
    have hz:∀z∈y::l,c x z<0:=by
     intro z hz
     rcases List.mem_cons.1 hz with hz|hz
     ·rw [hz]; exact hlt
     ·have q1:=hy z hz
      have s3:=h.s z x
      have s4:=h.s x z
      have t1:=h.t x y z (by omega) q1
      have t2:=h.t y z x q1
      omega
    have e1:lone c x (y::l)=true:=by
     rw [lone,List.all_eq_true]
     intro z h2
     have:=hz z h2
     simp; omega
    rw [a0h,if_neg e0,if_pos e1,d99]
    intro w hw
    have:=hz w (c28 _ w hw)
    have:=h.s x w
    omega
def sC (c:α ->α ->Int):List α ->List α
 |[]=>[]
 |x::l=>b6n c x (sC c l)
theorem b7e (x:α):∀l,(b6n c x l).Perm (x::l)
 |[]=>.refl _
 |y::l=>by
  simp only [b6n]
  split
  ·exact ((b7e x l).cons y).trans (.swap x y l)
  ·exact .refl _
theorem c8s:∀l:List α,(sC c l).Perm l
 |[]=>.refl _
 |x::l=>(b7e x _).trans ((c8s l).cons x)
theorem d5n (h:Tp c):∀l:List α,(sC c l).Pairwise (fun a b=>c a b<=0)
 |[]=>.nil
 |x::l=>by
  have key:∀S:List α,S.Pairwise (fun a b=>c a b<=0) ->(b6n c x S).Pairwise (fun a b=>c a b<=0):=by
   intro S
   induction S with
   |nil=>intro _; simp [b6n]
   |cons y S ih=>
    intro hs
    obtain ⟨hy,hS⟩:=List.pairwise_cons.1 hs
    simp only [b6n]
    split
    ·rename_i e
     refine List.pairwise_cons.2 ⟨fun z hz=> ?_,ih hS⟩
     rcases List.mem_cons.1 ((b7e x S).mem_iff.1 hz) with h2|h2
     ·rw [h2]; omega
     ·exact hy z h2
    ·rename_i e
     have s1:=h.s y x
     have s2:=h.s x y
     have e2:c x y<=0:=by omega
     refine List.pairwise_cons.2 ⟨fun z hz=> ?_,hs⟩
     rcases List.mem_cons.1 hz with h2|h2
     ·rw [h2]; exact e2
     ·exact h.t x y z e2 (hy z h2)
  exact key _ (d5n h l)
theorem e3a {x:α} {l m:List α} (hp:l.Perm m):lone c x l=lone c x m:=by
 unfold lone
 rw [Bool.eq_iff_iff,List.all_eq_true,List.all_eq_true]
 exact ⟨fun h y hy=>h y (hp.mem_iff.2 hy),fun h y hy=>h y (hp.mem_iff.1 hy)⟩
theorem b94 (h:Tp c):∀l:List α,a0h c (sC c l)=V6 c l
 |[]=>rfl
 |x::l=>by
  rw [sC,d5p h x _ (d5n h l),b94 h l,e3a (c8s l)]
  rfl
def e8t (c:α ->α ->Int) (x:α × Nat):List (α × Nat) ->List (α × Nat)
 |[]=>[x]
 |y::l=>if c y.1 x.1<0 then y::e8t c x l else x::y::l
theorem e2k (x:α × Nat):∀l,fs (e8t c x l)=b6n c x.1 (fs l)
 |[]=>rfl
 |y::l=>by
  simp only [e8t,List.map_cons,b6n]
  split
  ·show y.1::fs (e8t c x l)=_
   rw [e2k x l]
  ·rfl
theorem c8t (x:α × Nat):∀l,(e8t c x l).Perm (x::l)
 |[]=>.refl _
 |y::l=>by
  simp only [e8t]
  split
  ·exact ((c8t x l).cons y).trans (.swap x y l)
  ·exact .refl _
theorem d92 (h:Tp c) (x:α × Nat):∀l:List (α × Nat),(∀y∈l,x.2<y.2) ->Srt c l ->Srt c (e8t c x l)
 |[],_,_=>by simp [e8t,Srt]
 |y::l,hx,hs=>by
  obtain ⟨hy,hl⟩:=List.pairwise_cons.1 hs
  simp only [e8t]
  split
  ·rename_i e
   refine List.pairwise_cons.2 ⟨fun z hz=> ?_,d92 h x l (fun y hy=>hx y (by simp [hy])) hl⟩
   rcases List.mem_cons.1 ((c8t x l).mem_iff.1 hz) with h2|h2
   ·rw [h2]; exact .inl e
   ·exact hy z h2
  ·rename_i e
   have s1:=h.s y.1 x.1
   have s2:=h.s x.1 y.1
   have e2:c x.1 y.1<=0:=by omega
   refine List.pairwise_cons.2 ⟨fun z hz=> ?_,hs⟩
   have hxz:=hx z hz
   have:c x.1 z.1<=0:=by
    rcases List.mem_cons.1 hz with h2|h2
    ·rw [h2]; exact e2
    ·have:=hy z h2
     unfold Rt at this
     exact h.t x.1 y.1 z.1 e2 (by omega)
   unfold Rt
   omega
theorem c8o (h:Tp c):∀l:List α,∃T,Srt c T /\ T.Perm (a3q l) /\ fs T=sC c l
 |[]=>⟨[],.nil,by simp [a3q],rfl⟩
 |x::l=>by
  obtain ⟨T,h1,h2,h3⟩:=c8o h l
  have e1:fs (T.map fun p=>(p.1,p.2+1))=fs T:=by simp [fs]
  refine ⟨e8t c (x,0) (T.map fun p=>(p.1,p.2+1)),d92 h _ _ (fun y hy=> ?_) ?_,(c8t _ _).trans ?_, ?_⟩
  ·obtain ⟨p,_,rfl⟩:=List.mem_map.1 hy
   exact Nat.succ_pos _
  ·show List.Pairwise _ _
   rw [List.pairwise_map]
   exact h1.imp fun {a b} hab=>by
    unfold Rt at hab ⊢
    simp only
    omega
  ·have e2:a3q (x::l)=(x,0)::(a3q l).map fun p=>(p.1,p.2+1):=by
    simp [a3q,List.zipIdx_succ]
   rw [e2]
   exact (h2.map _).cons _
  ·rw [e2k,e1,h3]
   rfl
end
theorem e9r (N:Nat) (l:List (A0 × A0)) (hl:l.length*256<=140737488355328) (hok:∀x∈l,OkP N x):b5l l (V6 (kc N) l):=by
 have h:Tp (kc N):=b10 (g4m N) fun x:A0 × A0=>x.1
 obtain ⟨S,h1,h2⟩:=e9e N l hl hok
 obtain ⟨T,q1,q2,q3⟩:=c8o h l
 have e:S=sC (kc N) l:=by
  rw [<-q3]
  exact c7g.one (Dm:=fun _=>True) h (fun _ _=>trivial) h1 ⟨T,q1,q2,rfl⟩
 rw [e,b94 h] at h2
 exact h2
abbrev kn (x y:Int × A0):Int:=b4a x.1 y.1
theorem e9v:Tp kn:=b10 f0e fun x:Int × A0=>x.1
theorem e7k:∀l:List (Int × A0),c51 l=a0h kn l
 |[]=>rfl
 |[x]=>rfl
 |x::y::l=>by
  simp only [c51,a0h]
  rw [e7k (y::l)]
  have h:=e4t (x:=x.1) (y:=y.1)
  by_cases e:x.1=y.1
  ·rw [if_pos e,if_pos (by simp only [kn]; omega)]
  ·rw [if_neg e,if_neg (by simp only [kn]; omega)]
theorem e6n (l:List (Int × A0)) (hl:l.length*136<=140737488355328):b1c l (V6 kn l):=by
 obtain ⟨S,h1,h2⟩:=f1m l hl
 obtain ⟨T,q1,q2,q3⟩:=c8o e9v l
 have e:S=sC kn l:=by
  rw [<-q3]
  exact c7g.one (Dm:=fun _=>True) e9v (fun _ _=>trivial) h1 ⟨T,q1,q2,rfl⟩
 rw [e,e7k,b94 e9v] at h2
 exact h2
abbrev kr (x y:Q0):Int:=b4a x.Num y.Num
def op0:GOp:=⟨0,⟨#[]⟩,⟨#[]⟩,0,0,0,0,0⟩
def opL (num:Int):List GOp ->GOp × Bool
 |[]=>(op0,false)
 |o::l=>if (o.Num==num)=true then (o,true) else opL num l
def opV (g:B6) (num:Int):GOp × Bool:=opL num g.Ops
theorem f41 (g:B6) (hg:g.Ops.length<=140737488351232) (num:Int):∀(d i:Nat),g.Ops.length - i<=d ->i<=g.Ops.length ->∃k:Int,R0 i g.Ops (⟨161,[],[.elt [.v (.int .i64 num)] 0],by simp [plainL,plain]⟩:GFn) k /\ ((k<0 /\ opL num (g.Ops.drop i)=(op0,false))\/∃o,0<=k /\ g.Ops[k.toNat]? =some o /\ opL num (g.Ops.drop i)=(o,true)):=by
 intro d
 induction d with
 |zero=>
  intro i hd hi
  refine ⟨-1,L3 _ _ _ _ ⟨fun h=>by simp at h; omega,fun _=>rfl⟩,.inl ⟨by omega, ?_⟩⟩
  rw [List.drop_eq_nil_of_le (by omega)]; rfl
 |succ d ih=>
  intro i hd hi
  rcases Nat.lt_or_ge i g.Ops.length with hlt|hge
  ·have e1:wI ((i:Int)+1)=((i+1:Nat):Int):=by rw [wI,D5 (by omega)]; omega
   have dl:g.Ops.drop i=g.Ops[i]::g.Ops.drop (i+1):=List.drop_eq_getElem_cons hlt
   have hc:=d1j g.Ops[i] num _ (c9h _ _ _ rfl)
   by_cases e:(g.Ops[i].Num==num)=true
   ·refine ⟨i,L3 _ _ _ _ ⟨fun _=>⟨g.Ops[i],by simp,by omega,_,hc,fun _=>rfl,fun h=> ?_⟩,fun h=>by simp at h; omega⟩,.inr ⟨g.Ops[i],by omega,by simp, ?_⟩⟩
    ·rw [h] at e; cases e
    ·rw [dl,opL,if_pos e]
   ·obtain ⟨k,h1,h2⟩:=ih (i+1) (by omega) (by omega)
    refine ⟨k,L3 _ _ _ _ ⟨fun _=>⟨g.Ops[i],by simp,by omega,_,hc,fun h=>(e h).elim,fun _=>by rw [e1]; exact h1⟩,fun h=>by simp at h; omega⟩, ?_⟩
    rw [dl,opL,if_neg e]
    exact h2
  ·refine ⟨-1,L3 _ _ _ _ ⟨fun h=>by simp at h; omega,fun _=>rfl⟩,.inl ⟨by omega, ?_⟩⟩
   rw [List.drop_eq_nil_of_le hge]; rfl
theorem e8a (g:B6) (hg:g.Ops.length<=140737488351232) (num:Int):b98 g num (opV g num):=by
 obtain ⟨k,h1,h2⟩:=f41 g hg num g.Ops.length 0 (by omega) (by omega)
 rw [List.drop_zero] at h2
 refine d5o _ _ _ ⟨_,c0w _ _ _ ⟨k,b0n _ _ _ h1,fun h=> ?_,fun h=> ?_⟩,rfl⟩
 ·rcases h2 with ⟨_,e⟩|⟨o,q1,_⟩
  ·exact e
  ·simp at h; omega
 ·rcases h2 with ⟨q,_⟩|⟨o,q1,q2,e⟩
  ·simp at h; omega
  ·exact ⟨o,q2,q1,e⟩
structure OkC (c:A3):Prop where
 sz:c.Data.size<=140737488351232
 a0: -9223372036854775808<=c.At
 a1:c.At<=9223372036854775807
theorem d89 (c:A3):b16 c (b1h c.Data c.At c.End):=c3w _ _ (by simp only [b1h,Bool.decide_and,Bool.and_assoc])
theorem d1n (c:A3) (hc:OkC c):a7q c (a07 c.Data c.At c.End):=by
 refine c5i _ _ ⟨_,d89 c,fun h=> ?_,fun h=> ?_⟩
 ·rw [a07,if_neg (by simpa using h)]
 ·have h1:b1h c.Data c.At c.End=true:=by simpa using h
  rw [a07,if_pos h1]
  simp only [b1h,decide_eq_true_eq] at h1
  have:=hc.sz
  rw [wI,D5 (by omega)]
def O4 (c:A3):ByteArray:=c.Data.extract c.At.toNat (c.At.toNat+(a07 c.Data c.At c.End).toNat)
theorem c49 (c:A3):0<=a07 c.Data c.At c.End:=by
 unfold a07
 split
 ·rename_i h; simp only [b1h,decide_eq_true_eq] at h; omega
 ·exact Int.le_refl _
theorem a8w (c:A3):((O4 c).size:Int)=a07 c.Data c.At c.End:=by
 unfold O4
 unfold a07
 split
 ·rename_i h; simp only [b1h,decide_eq_true_eq] at h
  rw [U6 _ (by omega)]; omega
 ·rw [show c.At.toNat+(0:Int).toNat=c.At.toNat from rfl,c6x]; rfl
def a2j (c:A3) (n:Int):A3:=⟨c.Data,c.At+n,c.End,c.Depth,c.Nodes,c.Text⟩
theorem c6k (c:A3) (n:Int) (h: -9223372036854775808<=c.At+n /\ c.At+n<=9223372036854775807):a5q c n (a2j c n):=c3b _ _ _ (by rw [wI,D5 h]; rfl)
def a3k (c:A3):Int × A3 × Int:=if 0<a07 c.Data c.At c.End then (F0 c.Data c.At.toNat,a2j c 1,0) else (0,c,4)
theorem e8m (c:A3) (hc:OkC c):b5k c (a3k c):=by
 refine c5g _ _ ⟨_,d1n c hc,fun h=> ?_,fun h=> ?_⟩
 ·rw [a3k,if_neg (by simp at h; omega)]
 ·have h0:0<a07 c.Data c.At c.End:=by simp at h; omega
  obtain ⟨h1,h2,h3,h4⟩:=b4i h0
  have:=hc.sz
  refine ⟨⟨h1,by omega⟩,_,c6k c 1 (by omega), ?_⟩
  rw [a3k,if_pos h0]
def tk (x:Nat × Nat × Nat):Int × Int × Int:=(x.1,x.2.1,x.2.2)
theorem g9j {i:Nat} (h:i<=9):(2:Int) ^ min (wI (7*(i:Int))).toNat IntKind.u64.bits=((128 ^ i:Nat):Int) /\ 0<=wI (7*(i:Int)) /\ 128 ^ i=2 ^ (7*i):=by
 have:i=0\/i=1\/i=2\/i=3\/i=4\/i=5\/i=6\/i=7\/i=8\/i=9:=by omega
 rcases this with rfl|rfl|rfl|rfl|rfl|rfl|rfl|rfl|rfl|rfl<;>decide+kernel
theorem f11 {c i u:Nat} (hi:i<=9) (hc:c<256) (h9:i=9 ->c<=1) (hu:u<128 ^ i):
  F4 .or .u64 (u:Int) (wU ((wU (F4 .and .u8 (c:Int) 127))*2 ^ min (wI (7*(i:Int))).toNat IntKind.u64.bits))=((u+c % 128*128 ^ i:Nat):Int) /\ (i<=8 ->u+c % 128*128 ^ i<128 ^ (i+1)):=by
 obtain ⟨hp,_,hq⟩:=g9j hi
 obtain ⟨p1,p2,p3⟩:=e8k hi
 have hm:c % 128*128 ^ i<=127*128 ^ i:=Nat.mul_le_mul_right _ (by omega)
 have hb:c % 128*128 ^ i<=9223372036854775808 /\ (i<=8 ->u+c % 128*128 ^ i<128 ^ (i+1)):=by
  rcases Nat.lt_or_ge i 9 with h|h
  ·have:=p3 (by omega)
   rw [Nat.pow_succ] at this ⊢
   omega
  ·have h':i=9:=by omega
   have:=h9 h'
   subst h'
   have:c % 128<=1:=by omega
   have:c % 128*128 ^ 9<=1*128 ^ 9:=Nat.mul_le_mul_right _ this
   exact ⟨by omega,by omega⟩
 refine ⟨?_,hb.2⟩
 have e1:wU ((c % 128:Nat):Int)=((c % 128:Nat):Int):=b5u (by omega)
 have e2:wU ((c % 128*128 ^ i:Nat):Int)=((c % 128*128 ^ i:Nat):Int):=b5u (by omega)
 rw [g17 c hc,hp,e1,<-Int.natCast_mul,e2,c7w _ _ (by omega) (by omega),hq,f3f _ _ _ (by rw [<-hq]; exact hu)]
theorem g2l (s:ByteArray) (hz:s.size<=140737488351232):∀n i u:Nat,10 - i=n ->i<=9 ->i<=s.size ->u<128 ^ i ->a8a i u s (tk (W4 s i u)):=by
 intro n
 induction n with
 |zero=>intro i u h1 h2 h3; omega
 |succ n ih=>
  intro i u h1 h2 h3 hu
  have hb:=b2v s i
  rw [W4.eq_def,if_neg (by omega)]
  have hn:((i:Int)).toNat=i:=by omega
  refine b97 _ _ _ _ ⟨fun h=> ?_,fun h=> ?_⟩
  ·have:(i:Int)=s.size:=by simpa using h
   rw [if_pos (by omega)]; rfl
  have hne:¬(i:Int)=s.size:=by simpa using h
  rcases Nat.lt_or_ge i s.size with hlt|hge
  ·rw [if_neg (by omega)]
   rw [hn,hb.1]
   refine ⟨⟨by omega,by omega⟩,fun h=> ?_,fun h=> ?_⟩
   ·simp only [Bool.and_eq_true,beq_iff_eq,decide_eq_true_eq] at h
    rw [if_pos (by omega)]; rfl
   ·have h9:¬(i=9 /\ 1<H5 s i):=by
     simp only [Bool.and_eq_false_iff,beq_eq_false_iff_ne,decide_eq_false_iff_not] at h
     omega
    rw [if_neg h9]
    obtain ⟨e1,e2⟩:=f11 (c:=H5 s i) (u:=u) h2 hb.2 (by omega) hu
    refine ⟨(g9j h2).2.1,fun h=> ?_,fun h=> ?_⟩
    ·simp only [decide_eq_true_eq] at h
     rw [if_pos (by omega),e1,wI,D5 (by omega)]
     have:H5 s i % 128=H5 s i:=by omega
     rw [this]; rfl
    ·simp only [decide_eq_false_iff_not] at h
     rw [if_neg (by omega),e1,wI,D5 (by omega)]
     have:i<=8:=by omega
     exact ih (i+1) _ (by omega) (by omega) (by omega) (e2 this)
  ·omega
theorem f68 (s:ByteArray) (hz:s.size<=140737488351232):b9q s (tk (W4 s 0 0)):=c5s _ _ (g2l s hz 10 0 0 rfl (by omega) (by omega) (by decide))
end Go.Proofs.YtidmmngcijapcaaGreat.Lift
