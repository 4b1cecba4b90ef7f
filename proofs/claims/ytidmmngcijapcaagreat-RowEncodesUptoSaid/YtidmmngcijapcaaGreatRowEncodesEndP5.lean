/- Part 6 of the texts that prove RowEncodesEnd. -/
import Derived.Test.YtidmmngcijapcaaGreatRowEncodesEndP3
import Derived.Test.YtidmmngcijapcaaGreatRowEncodesEndP4
import Derived.Test.YtidmmngcijapcaaGreatRowEncodesEndP2
namespace Go.Proofs.YtidmmngcijapcaaGreat.Lift
open Go.RowKit
set_option linter.unusedVariables false
set_option linter.unusedSimpArgs false
set_option linter.unnecessarySimpa false
set_option linter.unusedSectionVars false
set_option maxRecDepth 100000
section
attribute [local irreducible] Ok run put d3o br jn pos dr0 dr1 So
attribute [-simp] List.map_take List.map_drop List.map_append List.map_set List.map_replicate List.map_cons List.map_map
attribute [local simp] plain plainL a6c a4b W8 low lowL lowLL M1 F8 G2 F7 M4 G5 G0 F9 L8 T0 Z9 S8 a09 M7 T4 E6 H8 O7 G8 A7 E0 O2 D3 N9 D8 O3 L3 S6 L0 T7 N4 U6 P9 C6 T3 L4 I2 Q9 N2 T9 O6 H9 F2 W4 U3 Z1 V3 G1 S4 a00 a0b a8e a4o c7k d7h c7p c8f a7o a9g c8u c9m b5s c2j e2h eFn c1f b6g b58 b7e c2m b5x b7p b7i c1x c79 c8g b68 c1y b3i b54 b6z b7l b6b b7g b6v b57 a7l b1c b01 a1o b0l b07 a5h a96 b3u c8a c1s c03 b6w b59 b65 c02 b7n b69 b6d c1t c7s c9z b7j c1m b3g b53 b6a b7k b6f b7q b7b b5w a8a b0y b0u a1s b08 a94 a51 b1b b26 c7i b5y c16 b3v b5r b61 b55 b5m b6o b6s b6e a75 b0s b00 a16 b04 b05 a5p b02 b3r d42
theorem f3p (r:A0):plain (g84 r)=true:=(A7 r)
theorem c4m (p:A6) (o_:GOp) (v:A0) (r:A0) (hw:((o_.Kind==10)=true ->∃y1,a9r p o_.Target v y1 /\ (r=y1)) /\ ((o_.Kind==10)=false ->∃y2,b3q v y2 /\ (r=y2))):a7h p o_ v r:=
 fP (KW 16 hw (fun _ hw=>KC 6 hw g95 fun _ hw=>KR 5 hw f3p) fun _ hw=>KC 5 hw g7b fun _ hw=>KR 4 hw f3p)
theorem f8h (r:(List (A0 × A0))):plain (f8f r)=true:=(psl (D3 r))
def a45 (ij11:Int) (ij7:Int) (lj6:(List (A0 × A0))) (l:(List (A0 × A0))) (r:(List (A0 × A0))):Prop:=JP Tryz.prog 120 (f8f r) 18 [(7,aI ij11),(4,aI ij7),(3,.sl (List.map A8 lj6) .no),(0,.sl (List.map A8 l) .no)]
def Y6 (ij9:Int) (bj10:Bool) (ij7:Int) (lj6:(List (A0 × A0))) (l:(List (A0 × A0))) (r:(List (A0 × A0))):Prop:=JP Tryz.prog 120 (f8f r) 11 [(6,aI ij9),(5,aB bj10),(4,aI ij7),(3,.sl (List.map A8 lj6) .no),(0,.sl (List.map A8 l) .no)]
def H7 (ij7:Int) (lj6:(List (A0 × A0))) (l:(List (A0 × A0))) (r:(List (A0 × A0))):Prop:=JP Tryz.prog 120 (f8f r) 4 [(4,aI ij7),(3,.sl (List.map A8 lj6) .no),(0,.sl (List.map A8 l) .no)]
theorem a95 {ij7:Int} {lj6:(List (A0 × A0))} {l:(List (A0 × A0))}:a6c [] 0 [(4,aI ij7),(3,.sl (List.map A8 lj6) .no),(0,.sl (List.map A8 l) .no)]=true /\ a4b [] 0 []=true:=⟨by first|rfl|simp,by first|rfl|simp⟩
theorem a2u (ij11:Int) (ij7:Int) (lj6:(List (A0 × A0))) (l:(List (A0 × A0))) (r:(List (A0 × A0))) (hw:((decide (ij11<(lj6.length:Int)))=true ->∃y55,lj6[ij11.toNat]? =some y55 /\ 0<=ij11 /\ (∃y56,l[ij7.toNat]? =some y56 /\ 0<=ij7 /\ (∃y57,a0m y55.1 y56.1 y57 /\ (((decide (y57<0))=true ->a45 (wI (ij11+1)) ij7 lj6 l r) /\ ((decide (y57<0))=false ->∃y58,l[ij7.toNat]? =some y58 /\ 0<=ij7 /\ ((0<=ij11 /\ ij11<=(lj6.length:Int) /\ (lj6.length:Int)<=(lj6.length:Int)) /\ (([y58].length+((lj6.take (lj6.length:Int).toNat).drop ij11.toNat).length)*256<=140737488355328 /\ ((0<=(0:Int) /\ (0:Int)<=ij11 /\ ij11<=(lj6.length:Int)) /\ ((([]:List (A0 × A0)).length+((lj6.take ij11.toNat).drop (0:Int).toNat).length)*256<=140737488355328 /\ (((([]:List (A0 × A0))++((lj6.take ij11.toNat).drop (0:Int).toNat)).length+([y58]++((lj6.take (lj6.length:Int).toNat).drop ij11.toNat)).length)*256<=140737488355328 /\ (H7 (wI (ij7+1)) ((([]:List (A0 × A0))++((lj6.take ij11.toNat).drop (0:Int).toNat))++([y58]++((lj6.take (lj6.length:Int).toNat).drop ij11.toNat))) l r))))))))))) /\ ((decide (ij11<(lj6.length:Int)))=false ->∃y59,l[ij7.toNat]? =some y59 /\ 0<=ij7 /\ ((0<=ij11 /\ ij11<=(lj6.length:Int) /\ (lj6.length:Int)<=(lj6.length:Int)) /\ (([y59].length+((lj6.take (lj6.length:Int).toNat).drop ij11.toNat).length)*256<=140737488355328 /\ ((0<=(0:Int) /\ (0:Int)<=ij11 /\ ij11<=(lj6.length:Int)) /\ ((([]:List (A0 × A0)).length+((lj6.take ij11.toNat).drop (0:Int).toNat).length)*256<=140737488355328 /\ (((([]:List (A0 × A0))++((lj6.take ij11.toNat).drop (0:Int).toNat)).length+([y59]++((lj6.take (lj6.length:Int).toNat).drop ij11.toNat)).length)*256<=140737488355328 /\ (H7 (wI (ij7+1)) ((([]:List (A0 × A0))++((lj6.take ij11.toNat).drop (0:Int).toNat))++([y59]++((lj6.take (lj6.length:Int).toNat).drop ij11.toNat))) l r)))))))):a45 ij11 ij7 lj6 l r:=
 KD 3 []<|KL 2 B4 lj6<|KW 2 hw (fun _ hw=>KI 2 B4 hw fun _ hw=>KI 4 B4 hw fun _ hw=>KC 2 hw f75 fun _ hw=>KW 5 hw (fun _ hw=>KJ 10 [] hw) fun _ hw=>KD 6 []<|KI 2 B4 hw fun _ hw=>KSV 4 B4 hw fun hw=>KAf 0 B4 hw mF xE fun hw=>KSV 8 B4 hw fun hw=>KAf 0 B4 hw mF xE fun hw=>KA 1 B4 hw mF fun hw=>KJl 10 [3] hw a95) fun _ hw=>KD 23 []<|KI 2 B4 hw fun _ hw=>KSV 4 B4 hw fun hw=>KAf 0 B4 hw mF xE fun hw=>KSV 8 B4 hw fun hw=>KAf 0 B4 hw mF xE fun hw=>KA 1 B4 hw mF fun hw=>KJl 10 [3] hw a95
theorem a8v (ij9:Int) (bj10:Bool) (ij7:Int) (lj6:(List (A0 × A0))) (l:(List (A0 × A0))) (r:(List (A0 × A0))) (hw:((decide (ij9<(l.length:Int)))=true ->(bj10=true ->∃y61,l[ij7.toNat]? =some y61 /\ 0<=ij7 /\ (∃y62,l[ij9.toNat]? =some y62 /\ 0<=ij9 /\ (∃y63,a0m y61.1 y62.1 y63 /\ (Y6 (wI (ij9+1)) (y63 !=0) ij7 lj6 l r)))) /\ (bj10=false ->Y6 (wI (ij9+1)) false ij7 lj6 l r)) /\ ((decide (ij9<(l.length:Int)))=false ->(bj10=true ->a45 0 ij7 lj6 l r) /\ (bj10=false ->H7 (wI (ij7+1)) lj6 l r))):Y6 ij9 bj10 ij7 lj6 l r:=
 KL 6 B4 l<|KW 3 hw (fun _ hw=>KD 4 []<|KW 2 hw (fun _ hw=>KI 2 B4 hw fun _ hw=>KI 4 B4 hw fun _ hw=>KC 2 hw f75 fun _ hw=>KJ 13 [] hw) fun _ hw=>KJ 24 [] hw) fun _ hw=>KW 10 hw (fun _ hw=>KJ 8 [] hw) fun _ hw=>KJ 9 [] hw
theorem a22 (ij7:Int) (lj6:(List (A0 × A0))) (l:(List (A0 × A0))) (r:(List (A0 × A0))) (hw:((decide (ij7<(l.length:Int)))=true ->Y6 (wI (ij7+1)) true ij7 lj6 l r) /\ ((decide (ij7<(l.length:Int)))=false ->r=lj6)):H7 ij7 lj6 l r:=
 KL 6 B4 l<|KW 3 hw (fun _ hw=>KJ 19 [] hw) fun _ hw=>KR 12 hw f8h
theorem c6b (l:(List (A0 × A0))) (r:(List (A0 × A0))) (hw:H7 0 ([]:(List (A0 × A0))) l r):b4m l r:=
 fP (KJ 18 [3] hw)
theorem f3m (r:Bool):plain (g8c r)=true:=rfl
theorem c37 (v:A0) (r:Bool) (hw:∃y1,c61 v.Kind y1 /\ ((((y1&&(v.Bits==0))&&(decide (v.Text=(⟨#[]⟩:ByteArray))))=true ->∃y2,b8a v y2 /\ (r=y2)) /\ (((y1&&(v.Bits==0))&&(decide (v.Text=(⟨#[]⟩:ByteArray))))=false ->r=false))):b7d v r:=
 fP (KC 10 hw g4e fun _ hw=>KT 1 4<|KT 1 4<|KW 1 hw (fun _ hw=>KC 1 hw g9d fun _ hw=>KR 5 hw f3m) fun _ hw=>KR 7 hw f3m)
theorem f23 (r:Bool):plain (g8p r)=true:=rfl
theorem c6c (v:A0) (r:Bool) (hw:(((((decide (0<(v.List_.length:Int)))&&(v.Kind !=11))||((decide (0<(v.Pairs.length:Int)))&&(v.Kind !=12)))||((decide (0<(wI ((v.Slots.length:Int)+(v.Raws.length:Int)))))&&(!(v.Kind==10))))=true ->r=true) /\ (((((decide (0<(v.List_.length:Int)))&&(v.Kind !=11))||((decide (0<(v.Pairs.length:Int)))&&(v.Kind !=12)))||((decide (0<(wI ((v.Slots.length:Int)+(v.Raws.length:Int)))))&&(!(v.Kind==10))))=false ->r=(((v.Bits !=0)&&(((((v.Kind==7)||(v.Kind==8))||(v.Kind==11))||(v.Kind==12))||(v.Kind==10)))||((!(decide (v.Text=(⟨#[]⟩:ByteArray))))&&(!((v.Kind==7)||(v.Kind==8))))))):a6u v r:=
 fP (KT 12 4<|KL 16 E4 v.List_<|KT 2 4<|KT2 1 10 ((decide (0<(v.List_.length:Int)))&&(v.Kind !=11)) (fun z=>aB (z||((decide (0<(v.Pairs.length:Int)))&&(v.Kind !=12)))) (fun _ key=>KE2 10 key) (fun _ key=>KL 2 B4 v.Pairs<|KT 2 4<|KE2 1 key)<|KT2 1 13 (((decide (0<(v.List_.length:Int)))&&(v.Kind !=11))||((decide (0<(v.Pairs.length:Int)))&&(v.Kind !=12))) (fun z=>aB (z||((decide (0<(wI ((v.Slots.length:Int)+(v.Raws.length:Int)))))&&(!(v.Kind==10))))) (fun _ key=>KE2 13 key) (fun _ key=>KL 2 B7 v.Slots<|KL 2 a3y v.Raws<|KT 3 3<|KE2 1 key)<|KW 2 hw (fun _ hw=>KR 7 hw f23) fun _ hw=>KT2 8 15 (v.Bits !=0) (fun z=>aB (z&&(((((v.Kind==7)||(v.Kind==8))||(v.Kind==11))||(v.Kind==12))||(v.Kind==10)))) (fun _ key=>KT 2 4<|KT 1 4<|KT 1 2<|KE2 1 key) (fun _ key=>KE2 15 key)<|KT2 1 8 ((v.Bits !=0)&&(((((v.Kind==7)||(v.Kind==8))||(v.Kind==11))||(v.Kind==12))||(v.Kind==10))) (fun z=>aB (z||((!(decide (v.Text=(⟨#[]⟩:ByteArray))))&&(!((v.Kind==7)||(v.Kind==8)))))) (fun _ key=>KE2 8 key) (fun _ key=>KT 4 3<|KE2 1 key)<|KR 4 hw f23)
theorem d8e (r:Int):plain (g4j r)=true:=rfl
def a5v (ij1:Int) (bj2:Bool) (l:(List (Int × A0))) (i:Int) (g:C1) (y2:(GOp × Bool)) (r:Int):Prop:=J Tryz.prog 123 (.ret (g4j r)) 8 [(10,aI ij1),(9,aB bj2),(7,.ptr 1 0),(3,.ptr 0 0),(1,.sl (List.map A9 l) .no),(2,aI i)] ⟨[some (D9 g),some (U2 y2.1)],[],[]⟩
theorem c4w {ij1:Int} {bj2:Bool} {l:(List (Int × A0))} {i:Int} {g:C1} {y2:(GOp × Bool)}:a6c [true,true] 0 [(10,aI ij1),(9,aB bj2),(7,.ptr 1 0),(3,.ptr 0 0),(1,.sl (List.map A9 l) .no),(2,aI i)]=true /\ a4b [true,true] 0 [some (D9 g),some (U2 y2.1)]=true:=⟨by first|rfl|simp,by first|rfl|simp⟩
theorem b1r (ij1:Int) (bj2:Bool) (l:(List (Int × A0))) (i:Int) (g:C1) (y2:(GOp × Bool)) (r:Int) (hw:((decide (ij1<i))=true ->∃y7,l[ij1.toNat]? =some y7 /\ 0<=ij1 /\ (∃y8,l[i.toNat]? =some y8 /\ 0<=i /\ (((y7.1==y8.1)=true ->r=9) /\ ((y7.1==y8.1)=false ->∃y9,l[ij1.toNat]? =some y9 /\ 0<=ij1 /\ (∃y10,b76 g y9.1 y10 /\ (a5v (wI (ij1+1)) (bj2||((y2.1.Union !=(-1))&&(y10.1.Union==y2.1.Union))) l i g y2 r)))))) /\ ((decide (ij1<i))=false ->(bj2=true ->r=15) /\ (bj2=false ->r=0))):a5v ij1 bj2 l i g y2 r:=
 KW 9 hw (fun _ hw=>KD 6 []<|KI 2 B7 hw fun _ hw=>KI 4 B7 hw fun _ hw=>KW 6 hw (fun _ hw=>KR 12 hw d8e) fun _ hw=>KD 3 [0]<|KI 3 B7 hw fun _ hw=>KC 2 hw f1k fun y10 hw=>KV 4<|KT2 7 11 bj2 (fun z=>aB (z||((y2.1.Union !=(-1))&&(y10.1.Union==y2.1.Union)))) (fun _ key=>KE2 11 key) (fun _ key=>KT 4 6<|KE2 1 key)<|KJl 10 [] hw c4w) fun _ hw=>KW 11 hw (fun _ hw=>KR 7 hw d8e) fun _ hw=>KR 8 hw d8e
theorem c8n (g:C1) (l:(List (Int × A0))) (i:Int) (r:Int) (hw:∃y1,l[i.toNat]? =some y1 /\ 0<=i /\ (∃y2,b76 g y1.1 y2 /\ (((!y2.2)=true ->r=8) /\ ((!y2.2)=false ->a5v 0 false l i g y2 r)))):c4g g l i r:=
 fP (KD 7 [0]<|KI 3 B7 hw fun _ hw=>KC 2 hw f1k fun _ hw=>KV 4<|KW 11 hw (fun _ hw=>KR 7 hw d8e) fun _ hw=>KJ 15 [] hw)
theorem f3b (r:(GOp × Bool)):plain (g6g r)=true:=(e9z (A5 (M7 r.1) (A5 rfl rfl)))
def b4r (ij1:Int) (num:Int) (g:C1) (r:(GOp × Bool)):Prop:=J Tryz.prog 124 (.ret (g6g r)) 3 [(6,aI ij1),(4,.ptr 1 0),(2,.ptr 0 0),(1,aI num)] ⟨[some (D9 g),some [aI 0,aE,aE,aI 0,aI 0,aI 0,aI 0,aI 0]],[],[]⟩
theorem a8m (ij1:Int) (num:Int) (g:C1) (r:(GOp × Bool)) (hw:((decide (ij1<(g.Ops.length:Int)))=true ->∃y3,g.Ops[ij1.toNat]? =some y3 /\ 0<=ij1 /\ (((y3.Num==num)=true ->∃y4,g.Ops[ij1.toNat]? =some y4 /\ 0<=ij1 /\ (r=(y4,true))) /\ ((y3.Num==num)=false ->b4r (wI (ij1+1)) num g r))) /\ ((decide (ij1<(g.Ops.length:Int)))=false ->r=((⟨0,(⟨#[]⟩:ByteArray),(⟨#[]⟩:ByteArray),0,0,0,0,0⟩:GOp),false))):b4r ij1 num g r:=
 KL 7 b5u g.Ops<|KW 3 hw (fun _ hw=>KI 9 b5u hw fun _ hw=>KW 6 hw (fun _ hw=>KI 5 b5u hw fun _ hw=>KR 11 hw f3b) fun _ hw=>KJ 9 [] hw) fun _ hw=>KR 13 hw f3b
theorem d20 (g:C1) (num:Int) (r:(GOp × Bool)) (hw:b4r 0 num g r):b76 g num r:=
 fP (KJ 15 [] hw)
theorem d1x (r:Int):plain (g4k r)=true:=rfl
def a19 (ij1:Int) (level:Int) (p:A6) (o_:GOp) (v:A0) (r:Int):Prop:=J Tryz.prog 125 (.ret (g4k r)) 14 [(9,aI ij1),(6,.ptr 2 0),(5,.ptr 1 0),(4,.ptr 0 0),(3,aI level)] ⟨[some (B0 p),some (U2 o_),some (A4 v)],[],[]⟩
theorem a6l (ij1:Int) (level:Int) (p:A6) (o_:GOp) (v:A0) (r:Int) (hw:((decide (ij1<(v.List_.length:Int)))=true ->∃y6,v.List_[ij1.toNat]? =some y6 /\ 0<=ij1 /\ (∃y7,a47 p o_ y6 level y7 /\ (((y7 !=0)=true ->r=y7) /\ ((y7 !=0)=false ->a19 (wI (ij1+1)) level p o_ v r)))) /\ ((decide (ij1<(v.List_.length:Int)))=false ->r=0)):a19 ij1 level p o_ v r:=
 KL 7 E4 v.List_<|KW 3 hw (fun _ hw=>KD 5 [0,1,2]<|KI 5 E4 hw fun _ hw=>KC 2 hw f5n fun _ hw=>KW 10 hw (fun _ hw=>KR 14 hw d1x) fun _ hw=>KJ 9 [] hw) fun _ hw=>KR 13 hw d1x
theorem b87 (p:A6) (o_:GOp) (v:A0) (level:Int) (r:Int) (hw:((o_.Card==5)=true ->∃R1:Bool ->Prop,(∀bz1:Bool,R1 bz1 ->((bz1=true ->r=12) /\ (bz1=false ->∃y2,b9n p o_ v.Pairs level y2 /\ (r=y2)))) /\ (((v.Kind !=12)=true ->R1 true) /\ ((v.Kind !=12)=false ->∃y1,a6u v y1 /\ (R1 y1)))) /\ ((o_.Card==5)=false ->((o_.Card==4)=true ->∃R2:Bool ->Prop,(∀bz2:Bool,R2 bz2 ->((bz2=true ->r=12) /\ (bz2=false ->a19 0 level p o_ v r))) /\ (((v.Kind !=11)=true ->R2 true) /\ ((v.Kind !=11)=false ->∃y3,a6u v y3 /\ (R2 y3)))) /\ ((o_.Card==4)=false ->∃y8,a47 p o_ v level y8 /\ (r=y8)))):b2n p o_ v level r:=
 fP (KW 22 hw (fun _ hw=>KQ 7 3 kB hw (fun _ hw=>KW 2 hw (fun _ hw=>KR 9 hw d1x) fun _ hw=>KC 9 hw g5k fun _ hw=>KR 6 hw d1x) (fun _ key _ hw=>KE 3 key hw) fun _ key _ hw=>KC 1 hw f13 fun _ hw=>KE 1 key hw) fun _ hw=>KW 6 hw (fun _ hw=>KQ 7 3 kB hw (fun _ hw=>KW 2 hw (fun _ hw=>KR 9 hw d1x) fun _ hw=>KJ 10 [] hw) (fun _ key _ hw=>KE 3 key hw) fun _ key _ hw=>KC 1 hw f13 fun _ hw=>KE 1 key hw) fun _ hw=>KC 9 hw f5n fun _ hw=>KR 4 hw d1x)
theorem f25 (r:Bool):plain (g7d r)=true:=rfl
def b5l (ij1:Int) (num:Int) (v:A0) (r:Bool):Prop:=J Tryz.prog 126 (.ret (g7d r)) 3 [(5,aI ij1),(2,.ptr 0 0),(1,aI num)] ⟨[some (A4 v)],[],[]⟩
theorem c3v (ij1:Int) (num:Int) (v:A0) (r:Bool) (hw:((decide (ij1<(v.Slots.length:Int)))=true ->∃y2,v.Slots[ij1.toNat]? =some y2 /\ 0<=ij1 /\ (((y2.1==num)=true ->r=true) /\ ((y2.1==num)=false ->b5l (wI (ij1+1)) num v r))) /\ ((decide (ij1<(v.Slots.length:Int)))=false ->r=false)):b5l ij1 num v r:=
 KL 7 B7 v.Slots<|KW 3 hw (fun _ hw=>KI 9 B7 hw fun _ hw=>KW 6 hw (fun _ hw=>KR 11 hw f25) fun _ hw=>KJ 9 [] hw) fun _ hw=>KR 11 hw f25
theorem d0d (v:A0) (num:Int) (r:Bool) (hw:b5l 0 num v r):c7t v num r:=
 fP (KJ 14 [] hw)
theorem d4q (r:Bool):plain (g9r r)=true:=rfl
theorem b8m (p:A6) (g:C1) (x:P6) (r:Bool) (hw:(((((decide (x.Num<1))||(decide (65535<x.Num)))||(decide (x.Wire<0)))||(decide (6<x.Wire)))=true ->r=false) /\ (((((decide (x.Num<1))||(decide (65535<x.Num)))||(decide (x.Wire<0)))||(decide (6<x.Wire)))=false ->((((decide (x.Wire<=2))&&(!(decide (x.Data=(⟨#[]⟩:ByteArray)))))||((decide (2<x.Wire))&&(x.Bits !=0)))=true ->r=false) /\ ((((decide (x.Wire<=2))&&(!(decide (x.Data=(⟨#[]⟩:ByteArray)))))||((decide (2<x.Wire))&&(x.Bits !=0)))=false ->∃y1,b76 g x.Num y1 /\ (((!y1.2)=true ->r=true) /\ ((!y1.2)=false ->∃R1:Bool ->Prop,(∀bz1:Bool,R1 bz1 ->(((((bz1&&(y1.1.Card !=5))&&(x.Wire==0))&&(decide (x.Bits<=2147483647)))=true ->∃y4,a9n p y1.1.Target x.Bits y4 /\ (r=(!y4))) /\ ((((bz1&&(y1.1.Card !=5))&&(x.Wire==0))&&(decide (x.Bits<=2147483647)))=false ->r=false))) /\ (((y1.1.Kind==9)=true ->∃y3,p.Enums[y1.1.Target.toNat]? =some y3 /\ 0<=y1.1.Target /\ (R1 (!y3.Open))) /\ ((y1.1.Kind==9)=false ->R1 false))))))):b06 p g x r:=
 fP (KT 15 4<|KT 1 4<|KT 1 4<|KW 2 hw (fun _ hw=>KR 7 hw d4q) fun _ hw=>KT 9 4<|KT2 1 9 ((decide (x.Wire<=2))&&(!(decide (x.Data=(⟨#[]⟩:ByteArray))))) (fun z=>aB (z||((decide (2<x.Wire))&&(x.Bits !=0)))) (fun _ key=>KE2 9 key) (fun _ key=>KT 4 4<|KE2 1 key)<|KW 2 hw (fun _ hw=>KR 7 hw d4q) fun _ hw=>KC 7 hw f1k fun _ hw=>KW 15 hw (fun _ hw=>KR 7 hw d4q) fun _ hw=>KQ 8 9 kB hw (fun _ hw=>KT 1 4<|KT 1 4<|KT 1 4<|KW 1 hw (fun _ hw=>KC 5 hw g75 fun _ hw=>KR 6 hw d4q) fun _ hw=>KR 12 hw d4q) (fun _ key _ hw=>KI 4 U4 hw fun _ hw=>KE 4 key hw) fun _ key _ hw=>KE 9 key hw)
theorem f32 (r:(A0 × Bool)):plain (g47 r)=true:=(e9z (A5 (A7 r.1) (A5 rfl rfl)))
def b19 (ij1:Int) (num:Int) (v:A0) (r:(A0 × Bool)):Prop:=J Tryz.prog 128 (.ret (g47 r)) 3 [(6,aI ij1),(4,.ptr 1 0),(2,.ptr 0 0),(1,aI num)] ⟨[some (A4 v),some zV],[],[]⟩
theorem a6z (ij1:Int) (num:Int) (v:A0) (r:(A0 × Bool)) (hw:((decide (ij1<(v.Slots.length:Int)))=true ->∃y3,v.Slots[ij1.toNat]? =some y3 /\ 0<=ij1 /\ (((y3.1==num)=true ->∃y4,v.Slots[ij1.toNat]? =some y4 /\ 0<=ij1 /\ (r=(y4.2,true))) /\ ((y3.1==num)=false ->b19 (wI (ij1+1)) num v r))) /\ ((decide (ij1<(v.Slots.length:Int)))=false ->r=((⟨0,0,(⟨#[]⟩:ByteArray),([]:(List A0)),([]:(List (A0 × A0))),([]:(List (Int × A0))),([]:(List P6))⟩:A0),false))):b19 ij1 num v r:=
 KL 7 B7 v.Slots<|KW 3 hw (fun _ hw=>KI 9 B7 hw fun _ hw=>KW 6 hw (fun _ hw=>KI 5 B7 hw fun _ hw=>KR 12 hw f32) fun _ hw=>KJ 9 [] hw) fun _ hw=>KR 13 hw f32
theorem d0t (v:A0) (num:Int) (r:(A0 × Bool)) (hw:b19 0 num v r):c8t v num r:=
 fP (KJ 15 [] hw)
theorem f2d (r:ByteArray):plain (g9v r)=true:=rfl
theorem c1i (p:A6) (o_:GOp) (v:A0) (r:ByteArray) (hw:((o_.Kind==10)=true ->∃y1,b3y p o_.Target v y1 /\ (r=y1)) /\ ((o_.Kind==10)=false ->∃y2,c1l v y2 /\ (r=y2))):a2k p o_ v r:=
 fP (KW 16 hw (fun _ hw=>KC 6 hw g8t fun _ hw=>KR 5 hw f2d) fun _ hw=>KC 5 hw g7z fun _ hw=>KR 4 hw f2d)
theorem e5g (r:Bool):plain (g5t r)=true:=rfl
def a3u (sj1:ByteArray) (r:Bool):Prop:=JP Tryz.prog 130 (g5t r) 5 [(0,aS sj1)]
theorem a79 (sj1:ByteArray) (r:Bool) (hw:((!(decide (sj1=(⟨#[]⟩:ByteArray))))=true ->∃y4,b82 sj1 y4 /\ (∃y5,b11 y4.2 y5 /\ ((y5=true ->r=false) /\ (y5=false ->a3u y4.1 r)))) /\ ((!(decide (sj1=(⟨#[]⟩:ByteArray))))=false ->r=true)):a3u sj1 r:=
 KW 8 hw (fun _ hw=>KC 6 hw g35 fun _ hw=>KC 11 hw f9d fun _ hw=>KW 2 hw (fun _ hw=>KR 11 hw e5g) fun _ hw=>KJ 8 [] hw) fun _ hw=>KR 11 hw e5g
theorem c1u (s:ByteArray) (r:Bool) (hw:∃y1,b66 s y1 /\ (((!y1)=true ->r=false) /\ ((!y1)=false ->a3u s r))):a9o s r:=
 fP (KC 9 hw g66 fun _ hw=>KW 3 hw (fun _ hw=>KR 7 hw e5g) fun _ hw=>KJ 5 [] hw)
theorem f18 (r:Bool):plain (g8i r)=true:=rfl
theorem c3b (s:ByteArray) (r:Bool) (hw:∃y1,a8b s y1 /\ ((y1=true ->∃y2,b11 s y2 /\ (r=(!y2))) /\ (y1=false ->r=false))):b2g s r:=
 fP (KC 8 hw f45 fun _ hw=>KW 1 hw (fun _ hw=>KC 1 hw f9d fun _ hw=>KR 6 hw f18) fun _ hw=>KR 8 hw f18)
theorem f4b (r:Bool):plain (g4d r)=true:=rfl
def Y2 (ij1:Int) (l:(List b8o)) (n:Int) (r:Bool):Prop:=JP Tryz.prog 132 (g4d r) 3 [(5,aI ij1),(0,.sl (List.map b0k l) .no),(1,aI n)]
theorem a6g (ij1:Int) (l:(List b8o)) (n:Int) (r:Bool) (hw:((decide (ij1<(l.length:Int)))=true ->∃y4,l[ij1.toNat]? =some y4 /\ 0<=ij1 /\ (((decide (y4.From<=n))=true ->∃y6,l[ij1.toNat]? =some y6 /\ 0<=ij1 /\ (((decide (n<=y6.To))=true ->r=true) /\ ((decide (n<=y6.To))=false ->Y2 (wI (ij1+1)) l n r))) /\ ((decide (y4.From<=n))=false ->Y2 (wI (ij1+1)) l n r))) /\ ((decide (ij1<(l.length:Int)))=false ->r=false)):Y2 ij1 l n r:=
 KL 6 c8r l<|KW 3 hw (fun _ hw=>KI 8 c8r hw fun _ hw=>KW 5 hw (fun _ hw=>KI 3 c8r hw fun _ hw=>KW 6 hw (fun _ hw=>KR 11 hw f4b) fun _ hw=>KJ 9 [] hw) fun _ hw=>KJ 20 [] hw) fun _ hw=>KR 11 hw f4b
theorem b89 (l:(List b8o)) (n:Int) (r:Bool) (hw:Y2 0 l n r):b2p l n r:=
 fP (KJ 13 [] hw)
theorem c9d (r:Int):plain (g5s r)=true:=rfl
def a3r (ij1:Int) (l:(List b1k)) (target:Int) (r:Int):Prop:=JP Tryz.prog 133 (g5s r) 6 [(5,aI ij1),(0,.sl (List.map a6o l) .no),(1,aI target)]
theorem b0z (ij1:Int) (l:(List b1k)) (target:Int) (r:Int) (hw:((decide (ij1<(l.length:Int)))=true ->∃y7,l[ij1.toNat]? =some y7 /\ 0<=ij1 /\ (∃y8,b71 y7.Name y8 /\ (((y8==0)=true ->r=8) /\ ((y8==0)=false ->∃y9,l[ij1.toNat]? =some y9 /\ 0<=ij1 /\ (∃y10,c3l y9.Name target y10 /\ (((!y10)=true ->r=1) /\ ((!y10)=false ->∃y11,l[ij1.toNat]? =some y11 /\ 0<=ij1 /\ (∃y12,b9k y11 y12 /\ (((!y12)=true ->r=12) /\ ((!y12)=false ->∃R2:Bool ->Prop,(∀bz2:Bool,R2 bz2 ->((bz2=true ->r=11) /\ (bz2=false ->((decide (0<ij1))=true ->∃y17,l[ij1.toNat]? =some y17 /\ 0<=ij1 /\ (∃y18,l[(wI (ij1 - 1)).toNat]? =some y18 /\ 0<=(wI (ij1 - 1)) /\ (((decide (y17.Name=y18.Name))=true ->r=9) /\ ((decide (y17.Name=y18.Name))=false ->a3r (wI (ij1+1)) l target r)))) /\ ((decide (0<ij1))=false ->a3r (wI (ij1+1)) l target r)))) /\ (((decide (0<ij1))=true ->∃y14,l[ij1.toNat]? =some y14 /\ 0<=ij1 /\ (∃y15,l[(wI (ij1 - 1)).toNat]? =some y15 /\ 0<=(wI (ij1 - 1)) /\ (R2 (Op.bytesLess y14.Name.toList y15.Name.toList)))) /\ ((decide (0<ij1))=false ->R2 false)))))))))))) /\ ((decide (ij1<(l.length:Int)))=false ->r=0)):a3r ij1 l target r:=
 KL 6 b3t l<|KW 3 hw (fun _ hw=>KI 9 b3t hw fun _ hw=>KC 2 hw f9o fun _ hw=>KW 3 hw (fun _ hw=>KR 12 hw c9d) fun _ hw=>KI 7 b3t hw fun _ hw=>KC 3 hw g6p fun _ hw=>KW 3 hw (fun _ hw=>KR 12 hw c9d) fun _ hw=>KI 7 b3t hw fun _ hw=>KC 1 hw g6x fun _ hw=>KW 3 hw (fun _ hw=>KR 12 hw c9d) fun _ hw=>KD 4 []<|KQ 3 13 kB hw (fun _ hw=>KW 3 hw (fun _ hw=>KR 12 hw c9d) fun _ hw=>KD 3 []<|KW 3 hw (fun _ hw=>KI 2 b3t hw fun _ hw=>KI 5 b3t hw fun _ hw=>KW 7 hw (fun _ hw=>KR 11 hw c9d) fun _ hw=>KJ 9 [] hw) fun _ hw=>KJ 26 [] hw) (fun _ key _ hw=>KI 2 b3t hw fun _ hw=>KI 5 b3t hw fun _ hw=>KE 4 key hw) fun _ key _ hw=>KE 13 key hw) fun _ hw=>KR 11 hw c9d
theorem c5y (l:(List b1k)) (target:Int) (r:Int) (hw:((decide (8<(l.length:Int)))=true ->r=3) /\ ((decide (8<(l.length:Int)))=false ->a3r 0 l target r)):b91 l target r:=
 fP (KL 9 b3t l<|KW 3 hw (fun _ hw=>KR 7 hw c9d) fun _ hw=>KJ 10 [] hw)
theorem f2o (r:Bool):plain (g5a r)=true:=rfl
def Y5 (ij1:Int) (ij2:Int) (g:C1) (r:Bool):Prop:=J Tryz.prog 134 (.ret (g5a r)) 4 [(4,aI ij1),(3,aI ij2),(1,.ptr 0 0)] ⟨[some (D9 g)],[],[]⟩
theorem a83 (ij1:Int) (ij2:Int) (g:C1) (r:Bool) (hw:((decide (ij1<(g.Ops.length:Int)))=true ->∃y2,g.Ops[ij1.toNat]? =some y2 /\ 0<=ij1 /\ (((y2.Union==ij2)=true ->Y5 (wI (ij1+1)) (wI (ij2+1)) g r) /\ ((y2.Union==ij2)=false ->∃R1:Bool ->Prop,(∀bz1:Bool,R1 bz1 ->((bz1=true ->r=false) /\ (bz1=false ->Y5 (wI (ij1+1)) ij2 g r))) /\ (((y2.Union !=(-1))=true ->((ij1==0)=true ->R1 true) /\ ((ij1==0)=false ->∃y5,g.Ops[(wI (ij1 - 1)).toNat]? =some y5 /\ 0<=(wI (ij1 - 1)) /\ (R1 (y5.Union !=y2.Union)))) /\ ((y2.Union !=(-1))=false ->R1 false))))) /\ ((decide (ij1<(g.Ops.length:Int)))=false ->r=(g.Unions==ij2))):Y5 ij1 ij2 g r:=
 KL 7 b5u g.Ops<|KW 3 hw (fun _ hw=>KI 9 b5u hw fun _ hw=>KW 14 hw (fun _ hw=>KJ 14 [] hw) fun _ hw=>KQ 5 14 kB hw (fun _ hw=>KW 3 hw (fun _ hw=>KR 12 hw f2o) fun _ hw=>KJ 10 [] hw) (fun _ key _ hw=>KW 3 hw (fun _ hw=>KE 11 key hw) fun _ hw=>KI 4 b5u hw fun _ hw=>KE 6 key hw) fun _ key _ hw=>KE 14 key hw) fun _ hw=>KR 15 hw f2o
theorem c2z (g:C1) (r:Bool) (hw:Y5 0 0 g r):b5k g r:=
 fP (KJ 19 [] hw)
theorem f39 (r:Bool):plain (g63 r)=true:=rfl
def a07 (bj1:Bool) (p:A6) (o_:GOp) (r:Bool):Prop:=J Tryz.prog 135 (.ret (g63 r)) 5 [(5,aB bj1),(3,.ptr 1 0),(2,.ptr 0 0)] ⟨[some (B0 p),some (U2 o_)],[],[]⟩
theorem b4v (bj1:Bool) (p:A6) (o_:GOp) (r:Bool) (hw:∃R2:Bool ->Prop,(∀bz2:Bool,R2 bz2 ->(r=(bz2&&((o_.Union==(-1))||(o_.Card==2))))) /\ ((bj1=true ->∃y3,b52 p o_ y3 /\ (R2 y3)) /\ (bj1=false ->R2 false))):a07 bj1 p o_ r:=
 KQ 4 4 kB hw (fun bz2 hw=>KT2 1 9 bz2 (fun z=>aB (z&&((o_.Union==(-1))||(o_.Card==2)))) (fun _ key=>KT 4 4<|KE2 1 key) (fun _ key=>KE2 9 key)<|KR 4 hw f39) (fun _ key _ hw=>KC 2 hw g7m fun _ hw=>KE 1 key hw) fun _ key _ hw=>KE 4 key hw
theorem b8q (p:A6) (o_:GOp) (r:Bool) (hw:∃y1,b0r o_.Alias y1 /\ ((((((((!y1)||(decide (4096<(o_.Alias.size:Int))))||(decide (o_.Card<1)))||(decide (5<o_.Card)))||(decide (o_.Kind<1)))||(decide (10<o_.Kind)))=true ->r=false) /\ (((((((!y1)||(decide (4096<(o_.Alias.size:Int))))||(decide (o_.Card<1)))||(decide (5<o_.Card)))||(decide (o_.Kind<1)))||(decide (10<o_.Kind)))=false ->((o_.Card !=5)=true ->a07 (o_.Key==0) p o_ r) /\ ((o_.Card !=5)=false ->a07 (((decide (1<=o_.Key))&&(decide (o_.Key<=5)))||(o_.Key==7)) p o_ r)))):a98 p o_ r:=
 fP (KC 12 hw g3i fun _ hw=>KT 2 5<|KT 1 4<|KT 1 4<|KT 1 4<|KT 1 4<|KW 2 hw (fun _ hw=>KR 7 hw f39) fun _ hw=>KT 8 4<|KT 1 4<|KW 11 hw (fun _ hw=>KJ 7 [] hw) fun _ hw=>KJ 2 [] hw)
theorem f31 (r:Int):plain (g5z r)=true:=rfl
def b8d (s:ByteArray) (nj1:Nat) (r:Int):Prop:=J Tryz.prog 139 (.ret (g5z r)) 3 [(6,.ptr 0 0),(0,aS s)] ⟨[some [.it s nj1]],[],[]⟩
theorem b6k (s:ByteArray) (nj1:Nat) (r:Int) (hw:(nj1<s.size ->∃y2,c7r s ((nj1:Nat):Int) (Utf8.decode s nj1).1 y2 /\ ((y2=true ->r=((nj1:Nat):Int)) /\ (y2=false ->b8d s (nj1+(Utf8.decode s nj1).2) r))) /\ (¬nj1<s.size ->r=(-1))):b8d s nj1 r:=
 KX 3 hw (fun _ hw=>KC 21 hw g5p fun _ hw=>KW 2 hw (fun _ hw=>KR 11 hw f31) fun _ hw=>KJ 3 [] hw) fun _ hw=>KR 16 hw f31
theorem d4n (s:ByteArray) (r:Int) (hw:b8d s 0 r):e7l s r:=
 fP (KJ 14 [] hw)
theorem g04 (r:Bool):plain (g8o r)=true:=rfl
theorem b3x (kind:Int) (r:Bool) (hw:r=((kind==7)||(kind==8))):b7c kind r:=
 fP (KT 10 3<|KR 4 hw g04)
theorem f3y (r:Int):plain (g6t r)=true:=rfl
def L6 (ij1:Int) (s:(List b2t)) (f:GFn) (r:Int):Prop:=JP Tryz.prog 142 (g6t r) 3 [(8,aI ij1),(7,aI (s.length:Int)),(0,.sl (List.map a1z s) .no),(1,.clo (.func f.fn) f.fi f.cap)]
theorem G6 (ij1:Int) (s:(List b2t)) (f:GFn) (r:Int) (hw:((decide (ij1<(s.length:Int)))=true ->∃y3,s[ij1.toNat]? =some y3 /\ 0<=ij1 /\ (∃y4,a41 Tryz.prog [] (.clo (.func f.fn) f.fi f.cap) [.agg (a1z y3)] (aB y4) /\ ((y4=true ->r=ij1) /\ (y4=false ->L6 (wI (ij1+1)) s f r)))) /\ ((decide (ij1<(s.length:Int)))=false ->r=(-1))):L6 ij1 s f r:=
 KW 7 hw (fun _ hw=>KI 15 a70 hw fun _ hw=>KF 1 hw fun _ hw=>KW 2 hw (fun _ hw=>KR 12 hw f3y) fun _ hw=>KJ 8 [] hw) fun _ hw=>KR 11 hw f3y
theorem a53 (s:(List b2t)) (f:GFn) (r:Int) (hw:L6 0 s f r):a1m s f r:=
 fP (KL 9 a70 s<|KJ 5 [] hw)
theorem f3x (r:Int):plain (g3q r)=true:=rfl
def b15 (ij1:Int) (s:ByteArray) (r:Int):Prop:=JP Tryz.prog 143 (g3q r) 3 [(3,aI ij1),(0,aS s)]
theorem b3h (ij1:Int) (s:ByteArray) (r:Int) (hw:((decide (ij1<(s.size:Int)))=true ->∃y2,c2x s ij1 y2 /\ (((y2==0)=true ->r=ij1) /\ ((y2==0)=false ->b15 (wI (ij1+y2)) s r))) /\ ((decide (ij1<(s.size:Int)))=false ->r=(-1))):b15 ij1 s r:=
 KW 10 hw (fun _ hw=>KC 7 hw g7t fun _ hw=>KW 10 hw (fun _ hw=>KR 12 hw f3x) fun _ hw=>KJ 10 [] hw) fun _ hw=>KR 11 hw f3x
theorem d0m (s:ByteArray) (r:Int) (hw:b15 0 s r):d5k s r:=
 fP (KJ 13 [] hw)
theorem e62 (r:Int):plain (h0a r)=true:=rfl
theorem c4l (a:Int) (b:Int) (r:Int) (hw:((decide (a<b))=true ->r=(-1)) /\ ((decide (a<b))=false ->((decide (b<a))=true ->r=1) /\ ((decide (b<a))=false ->r=0))):O9 a b r:=
 fP (KW 13 hw (fun _ hw=>KR 7 hw e62) fun _ hw=>KW 10 hw (fun _ hw=>KR 7 hw e62) fun _ hw=>KR 8 hw e62)
theorem f20 (r:Int):plain (g6l r)=true:=rfl
def b2l (ij1:Int) (a:(List A0)) (b:(List A0)) (r:Int):Prop:=JP Tryz.prog 147 (g6l r) 3 [(5,aI ij1),(0,.sl (List.map B9 a) .no),(1,.sl (List.map B9 b) .no)]
theorem b9t (ij1:Int) (a:(List A0)) (b:(List A0)) (r:Int) (hw:(((decide (ij1<(a.length:Int)))&&(decide (ij1<(b.length:Int))))=true ->∃y6,a[ij1.toNat]? =some y6 /\ 0<=ij1 /\ (∃y7,b[ij1.toNat]? =some y7 /\ 0<=ij1 /\ (∃y8,a0m y6 y7 y8 /\ (((y8 !=0)=true ->r=y8) /\ ((y8 !=0)=false ->b2l (wI (ij1+1)) a b r))))) /\ (((decide (ij1<(a.length:Int)))&&(decide (ij1<(b.length:Int))))=false ->∃y5,O9 (a.length:Int) (b.length:Int) y5 /\ (r=y5))):b2l ij1 a b r:=
 KL 6 E4 a<|KT2 2 5 (decide (ij1<(a.length:Int))) (fun z=>aB (z&&(decide (ij1<(b.length:Int))))) (fun _ key=>KL 2 E4 b<|KE2 2 key) (fun _ key=>KE2 5 key)<|KW 2 hw (fun _ hw=>KD 5 []<|KI 2 E4 hw fun _ hw=>KI 3 E4 hw fun _ hw=>KC 1 hw f75 fun _ hw=>KW 10 hw (fun _ hw=>KR 12 hw f20) fun _ hw=>KJ 9 [] hw) fun _ hw=>KL 8 E4 a<|KL 1 E4 b<|KC 0 hw d3q fun _ hw=>KR 4 hw f20
theorem c5q (a:(List A0)) (b:(List A0)) (r:Int) (hw:b2l 0 a b r):c9w a b r:=
 fP (KJ 13 [] hw)
theorem e7p (r:Int):plain (g6z r)=true:=rfl
def b21 (ij1:Int) (a:(List (A0 × A0))) (b:(List (A0 × A0))) (r:Int):Prop:=JP Tryz.prog 148 (g6z r) 3 [(5,aI ij1),(0,.sl (List.map A8 a) .no),(1,.sl (List.map A8 b) .no)]
theorem c0a (ij1:Int) (a:(List (A0 × A0))) (b:(List (A0 × A0))) (r:Int) (hw:(((decide (ij1<(a.length:Int)))&&(decide (ij1<(b.length:Int))))=true ->∃y9,a[ij1.toNat]? =some y9 /\ 0<=ij1 /\ (∃y10,b[ij1.toNat]? =some y10 /\ 0<=ij1 /\ (∃y11,a0m y9.1 y10.1 y11 /\ (((y11 !=0)=true ->r=y11) /\ ((y11 !=0)=false ->∃y12,a[ij1.toNat]? =some y12 /\ 0<=ij1 /\ (∃y13,b[ij1.toNat]? =some y13 /\ 0<=ij1 /\ (∃y14,a0m y12.2 y13.2 y14 /\ (((y14 !=0)=true ->r=y14) /\ ((y14 !=0)=false ->b21 (wI (ij1+1)) a b r))))))))) /\ (((decide (ij1<(a.length:Int)))&&(decide (ij1<(b.length:Int))))=false ->∃y8,O9 (a.length:Int) (b.length:Int) y8 /\ (r=y8))):b21 ij1 a b r:=
 KL 6 B4 a<|KT2 2 5 (decide (ij1<(a.length:Int))) (fun z=>aB (z&&(decide (ij1<(b.length:Int))))) (fun _ key=>KL 2 B4 b<|KE2 2 key) (fun _ key=>KE2 5 key)<|KW 2 hw (fun _ hw=>KD 6 []<|KI 2 B4 hw fun _ hw=>KI 4 B4 hw fun _ hw=>KC 2 hw f75 fun _ hw=>KW 10 hw (fun _ hw=>KR 13 hw e7p) fun _ hw=>KD 3 []<|KI 2 B4 hw fun _ hw=>KI 4 B4 hw fun _ hw=>KC 2 hw f75 fun _ hw=>KW 10 hw (fun _ hw=>KR 12 hw e7p) fun _ hw=>KJ 9 [] hw) fun _ hw=>KL 8 B4 a<|KL 1 B4 b<|KC 0 hw d3q fun _ hw=>KR 4 hw e7p
theorem c5r (a:(List (A0 × A0))) (b:(List (A0 × A0))) (r:Int) (hw:b21 0 a b r):c7f a b r:=
 fP (KJ 13 [] hw)
theorem e6k (r:Int):plain (g4q r)=true:=rfl
def b2z (ij1:Int) (a:(List (Int × A0))) (b:(List (Int × A0))) (r:Int):Prop:=JP Tryz.prog 149 (g4q r) 3 [(5,aI ij1),(0,.sl (List.map A9 a) .no),(1,.sl (List.map A9 b) .no)]
theorem b9e (ij1:Int) (a:(List (Int × A0))) (b:(List (Int × A0))) (r:Int) (hw:(((decide (ij1<(a.length:Int)))&&(decide (ij1<(b.length:Int))))=true ->∃y9,a[ij1.toNat]? =some y9 /\ 0<=ij1 /\ (∃y10,b[ij1.toNat]? =some y10 /\ 0<=ij1 /\ (∃y11,O9 y9.1 y10.1 y11 /\ (((y11 !=0)=true ->r=y11) /\ ((y11 !=0)=false ->∃y12,a[ij1.toNat]? =some y12 /\ 0<=ij1 /\ (∃y13,b[ij1.toNat]? =some y13 /\ 0<=ij1 /\ (∃y14,a0m y12.2 y13.2 y14 /\ (((y14 !=0)=true ->r=y14) /\ ((y14 !=0)=false ->b2z (wI (ij1+1)) a b r))))))))) /\ (((decide (ij1<(a.length:Int)))&&(decide (ij1<(b.length:Int))))=false ->∃y8,O9 (a.length:Int) (b.length:Int) y8 /\ (r=y8))):b2z ij1 a b r:=
 KL 6 B7 a<|KT2 2 5 (decide (ij1<(a.length:Int))) (fun z=>aB (z&&(decide (ij1<(b.length:Int))))) (fun _ key=>KL 2 B7 b<|KE2 2 key) (fun _ key=>KE2 5 key)<|KW 2 hw (fun _ hw=>KD 6 []<|KI 2 B7 hw fun _ hw=>KI 4 B7 hw fun _ hw=>KC 2 hw d3q fun _ hw=>KW 10 hw (fun _ hw=>KR 13 hw e6k) fun _ hw=>KD 3 []<|KI 2 B7 hw fun _ hw=>KI 4 B7 hw fun _ hw=>KC 2 hw f75 fun _ hw=>KW 10 hw (fun _ hw=>KR 12 hw e6k) fun _ hw=>KJ 9 [] hw) fun _ hw=>KL 8 B7 a<|KL 1 B7 b<|KC 0 hw d3q fun _ hw=>KR 4 hw e6k
theorem c56 (a:(List (Int × A0))) (b:(List (Int × A0))) (r:Int) (hw:b2z 0 a b r):c8p a b r:=
 fP (KJ 13 [] hw)
theorem f16 (r:Int):plain (g67 r)=true:=rfl
def b37 (ij1:Int) (a:(List P6)) (b:(List P6)) (r:Int):Prop:=JP Tryz.prog 150 (g67 r) 3 [(5,aI ij1),(0,.sl (List.map I8 a) .no),(1,.sl (List.map I8 b) .no)]
theorem c2e (ij1:Int) (a:(List P6)) (b:(List P6)) (r:Int) (hw:(((decide (ij1<(a.length:Int)))&&(decide (ij1<(b.length:Int))))=true ->∃y6,a[ij1.toNat]? =some y6 /\ 0<=ij1 /\ (∃y7,b[ij1.toNat]? =some y7 /\ 0<=ij1 /\ (∃y8,c8z y6 y7 y8 /\ (((y8 !=0)=true ->r=y8) /\ ((y8 !=0)=false ->b37 (wI (ij1+1)) a b r))))) /\ (((decide (ij1<(a.length:Int)))&&(decide (ij1<(b.length:Int))))=false ->∃y5,O9 (a.length:Int) (b.length:Int) y5 /\ (r=y5))):b37 ij1 a b r:=
 KL 6 a3y a<|KT2 2 5 (decide (ij1<(a.length:Int))) (fun z=>aB (z&&(decide (ij1<(b.length:Int))))) (fun _ key=>KL 2 a3y b<|KE2 2 key) (fun _ key=>KE2 5 key)<|KW 2 hw (fun _ hw=>KD 5 []<|KI 2 a3y hw fun _ hw=>KI 3 a3y hw fun _ hw=>KC 1 hw g7w fun _ hw=>KW 10 hw (fun _ hw=>KR 12 hw f16) fun _ hw=>KJ 9 [] hw) fun _ hw=>KL 8 a3y a<|KL 1 a3y b<|KC 0 hw d3q fun _ hw=>KR 4 hw f16
theorem c7h (a:(List P6)) (b:(List P6)) (r:Int) (hw:b37 0 a b r):d00 a b r:=
 fP (KJ 13 [] hw)
theorem c11 (r:Int):plain (g79 r)=true:=rfl
theorem d0f (a:A0) (b:A0) (r:Int) (hw:((decide (a.Kind<b.Kind))=true ->r=(-1)) /\ ((decide (a.Kind<b.Kind))=false ->((decide (b.Kind<a.Kind))=true ->r=1) /\ ((decide (b.Kind<a.Kind))=false ->∃y1,c61 a.Kind y1 /\ (((!y1)=true ->r=0) /\ ((!y1)=false ->∃y2,a6w a.Kind y2 /\ (((y2&&(Op.bytesLess a.Text.toList b.Text.toList))=true ->r=(-1)) /\ ((y2&&(Op.bytesLess a.Text.toList b.Text.toList))=false ->∃y3,a6w a.Kind y3 /\ (((y3&&(!(Op.bytesLess a.Text.toList b.Text.toList||a.Text.toList==b.Text.toList)))=true ->r=1) /\ ((y3&&(!(Op.bytesLess a.Text.toList b.Text.toList||a.Text.toList==b.Text.toList)))=false ->∃y4,a6w a.Kind y4 /\ ((y4=true ->r=0) /\ (y4=false ->∃y5,a9u a y5 /\ (∃y6,a9u b y6 /\ (((decide (y5<y6))=true ->r=(-1)) /\ ((decide (y5<y6))=false ->∃y7,a9u a y7 /\ (∃y8,a9u b y8 /\ (((decide (y8<y7))=true ->r=1) /\ ((decide (y8<y7))=false ->r=0))))))))))))))))):c7d a b r:=
 fP (KW 19 hw (fun _ hw=>KR 8 hw c11) fun _ hw=>KW 10 hw (fun _ hw=>KR 8 hw c11) fun _ hw=>KC 4 hw g4e fun _ hw=>KW 4 hw (fun _ hw=>KR 8 hw c11) fun _ hw=>KC 4 hw g2w fun _ hw=>KT 1 6<|KW 3 hw (fun _ hw=>KR 8 hw c11) fun _ hw=>KC 4 hw g2w fun _ hw=>KT 1 6<|KW 3 hw (fun _ hw=>KR 8 hw c11) fun _ hw=>KC 4 hw g2w fun _ hw=>KW 3 hw (fun _ hw=>KR 8 hw c11) fun _ hw=>KD 1 [0,1]<|KC 1 hw f03 fun _ hw=>KC 1 hw f03 fun _ hw=>KW 5 hw (fun _ hw=>KR 8 hw c11) fun _ hw=>KD 1 [0,1]<|KC 1 hw f03 fun _ hw=>KC 1 hw f03 fun _ hw=>KW 5 hw (fun _ hw=>KR 8 hw c11) fun _ hw=>KR 9 hw c11)
theorem f87 (r:Bool):plain (g83 r)=true:=rfl
theorem c9f (v:A0) (r:Bool) (hw:r=((((((v.Kind !=11)&&(decide (0<(v.List_.length:Int))))||((v.Kind !=12)&&(decide (0<(v.Pairs.length:Int)))))||((v.Kind !=10)&&(decide (0<(wI ((v.Slots.length:Int)+(v.Raws.length:Int)))))))||((v.Bits !=0)&&(((v.Kind==7)||(v.Kind==8))||((decide (10<=v.Kind))&&(decide (v.Kind<=12))))))||((!(decide (v.Text=(⟨#[]⟩:ByteArray))))&&(!((v.Kind==7)||(v.Kind==8)))))):a9s v r:=
 fP (KT 12 4<|KT2 9 5 (v.Kind !=11) (fun z=>aB (z&&(decide (0<(v.List_.length:Int))))) (fun _ key=>KL 2 E4 v.List_<|KE2 2 key) (fun _ key=>KE2 5 key)<|KT2 1 10 ((v.Kind !=11)&&(decide (0<(v.List_.length:Int)))) (fun z=>aB (z||((v.Kind !=12)&&(decide (0<(v.Pairs.length:Int)))))) (fun _ key=>KE2 10 key) (fun _ key=>KT2 4 5 (v.Kind !=12) (fun z=>aB (z&&(decide (0<(v.Pairs.length:Int))))) (fun _ key=>KL 2 B4 v.Pairs<|KE2 2 key) (fun _ key=>KE2 5 key)<|KE2 1 key)<|KT2 1 14 (((v.Kind !=11)&&(decide (0<(v.List_.length:Int))))||((v.Kind !=12)&&(decide (0<(v.Pairs.length:Int))))) (fun z=>aB (z||((v.Kind !=10)&&(decide (0<(wI ((v.Slots.length:Int)+(v.Raws.length:Int)))))))) (fun _ key=>KE2 14 key) (fun _ key=>KT2 4 9 (v.Kind !=10) (fun z=>aB (z&&(decide (0<(wI ((v.Slots.length:Int)+(v.Raws.length:Int))))))) (fun _ key=>KL 2 B7 v.Slots<|KL 2 a3y v.Raws<|KE2 3 key) (fun _ key=>KE2 9 key)<|KE2 1 key)<|KT2 1 17 ((((v.Kind !=11)&&(decide (0<(v.List_.length:Int))))||((v.Kind !=12)&&(decide (0<(v.Pairs.length:Int)))))||((v.Kind !=10)&&(decide (0<(wI ((v.Slots.length:Int)+(v.Raws.length:Int))))))) (fun z=>aB (z||((v.Bits !=0)&&(((v.Kind==7)||(v.Kind==8))||((decide (10<=v.Kind))&&(decide (v.Kind<=12))))))) (fun _ key=>KE2 17 key) (fun _ key=>KT2 4 12 (v.Bits !=0) (fun z=>aB (z&&(((v.Kind==7)||(v.Kind==8))||((decide (10<=v.Kind))&&(decide (v.Kind<=12)))))) (fun _ key=>KT2 2 9 ((v.Kind==7)||(v.Kind==8)) (fun z=>aB (z||((decide (10<=v.Kind))&&(decide (v.Kind<=12))))) (fun _ key=>KE2 9 key) (fun _ key=>KT 4 4<|KE2 1 key)<|KE2 1 key) (fun _ key=>KE2 12 key)<|KE2 1 key)<|KT2 1 8 (((((v.Kind !=11)&&(decide (0<(v.List_.length:Int))))||((v.Kind !=12)&&(decide (0<(v.Pairs.length:Int)))))||((v.Kind !=10)&&(decide (0<(wI ((v.Slots.length:Int)+(v.Raws.length:Int)))))))||((v.Bits !=0)&&(((v.Kind==7)||(v.Kind==8))||((decide (10<=v.Kind))&&(decide (v.Kind<=12)))))) (fun z=>aB (z||((!(decide (v.Text=(⟨#[]⟩:ByteArray))))&&(!((v.Kind==7)||(v.Kind==8)))))) (fun _ key=>KE2 8 key) (fun _ key=>KT 4 3<|KE2 1 key)<|KR 4 hw f87)
theorem d8s (r:Int):plain (g46 r)=true:=rfl
def S9 (ij1:Int) (l:(List (Int × A0))) (i:Int) (y2:(GOp × Bool)) (level:Int) (x:C5) (g:C1) (r:Int):Prop:=J Tryz.prog 153 (.ret (g46 r)) 10 [(38,aI ij1),(37,aI (((l.take i.toNat).drop (0:Int).toNat).length:Int)),(36,.sl (List.map A9 ((l.take i.toNat).drop (0:Int).toNat)) .no),(11,.elt (U2 y2.1) 0),(6,.ptr 1 0),(5,.ptr 0 0),(2,.sl (List.map A9 l) .no),(3,aI i),(4,aI level)] ⟨[some (B0 x.p),some (D9 g)],[],[]⟩
theorem a3d {ij1:Int} {l:(List (Int × A0))} {i:Int} {y2:(GOp × Bool)} {level:Int} {x:C5} {g:C1}:a6c [true,true] 0 [(38,aI ij1),(37,aI (((l.take i.toNat).drop (0:Int).toNat).length:Int)),(36,.sl (List.map A9 ((l.take i.toNat).drop (0:Int).toNat)) .no),(11,.elt (U2 y2.1) 0),(6,.ptr 1 0),(5,.ptr 0 0),(2,.sl (List.map A9 l) .no),(3,aI i),(4,aI level)]=true /\ a4b [true,true] 0 [some (B0 x.p),some (D9 g)]=true:=⟨by first|rfl|simp,by first|rfl|simp⟩
theorem a2m (ij1:Int) (l:(List (Int × A0))) (i:Int) (y2:(GOp × Bool)) (level:Int) (x:C5) (g:C1) (r:Int) (hw:((decide (ij1<(((l.take i.toNat).drop (0:Int).toNat).length:Int)))=true ->∃y10,((l.take i.toNat).drop (0:Int).toNat)[ij1.toNat]? =some y10 /\ 0<=ij1 /\ (∃y11,c3p g y10.1 y11 /\ ((((y2.1.Union !=(-1))&&(y11.1.Union==y2.1.Union))=true ->r=15) /\ (((y2.1.Union !=(-1))&&(y11.1.Union==y2.1.Union))=false ->S9 (wI (ij1+1)) l i y2 level x g r)))) /\ ((decide (ij1<(((l.take i.toNat).drop (0:Int).toNat).length:Int)))=false ->∃y8,l[i.toNat]? =some y8 /\ 0<=i /\ (∃y9,a4l x y2.1 y8.2 level y9 /\ (r=y9)))):S9 ij1 l i y2 level x g r:=
 KW 7 hw (fun _ hw=>KI 6 B7 hw fun _ hw=>KC 10 hw f1v fun _ hw=>KT 14 6<|KW 2 hw (fun _ hw=>KR 11 hw d8s) fun _ hw=>KJl 8 [] hw a3d) fun _ hw=>KD 6 [0]<|KI 4 B7 hw fun _ hw=>KC 3 hw g7l fun _ hw=>KR 5 hw d8s
theorem b4z (x:C5) (g:C1) (l:(List (Int × A0))) (i:Int) (level:Int) (r:Int) (hw:∃y1,l[i.toNat]? =some y1 /\ 0<=i /\ (∃y2,c3p g y1.1 y2 /\ (((!y2.2)=true ->r=8) /\ ((!y2.2)=false ->(0<=(0:Int) /\ (0:Int)<=i /\ i<=(l.length:Int)) /\ (∃y3,L7 ((l.take i.toNat).drop (0:Int).toNat) (⟨185,[],[.elt (U2 y2.1) 0],by simp⟩:GFn) y3 /\ ((y3=true ->r=9) /\ (y3=false ->(0<=(0:Int) /\ (0:Int)<=i /\ i<=(l.length:Int)) /\ (S9 0 l i y2 level x g r)))))))):a5n x g l i level r:=
 fP (KD 8 [1]<|KI 3 B7 hw fun _ hw=>KC 2 hw f1v fun y2 hw=>KV 4<|KW 11 hw (fun _ hw=>KR 7 hw d8s) fun _ hw=>KFz 4 2 [true,true,false] 0 [(11,.elt (U2 y2.1) 0),(6,.ptr 1 0),(5,.ptr 0 0),(2,.sl (List.map A9 l) .no),(3,aI i),(4,aI level)] [some (B0 x.p),some (D9 g),none] ⟨by first|rfl|simp,by first|rfl|simp⟩<|KSV 3 B7 hw fun hw=>KC 1 hw f8q fun _ hw=>KW 2 hw (fun _ hw=>KR 7 hw d8s) fun _ hw=>KSV 7 B7 hw fun hw=>KL 0 B7 ((l.take i.toNat).drop (0:Int).toNat)<|KJl 5 [] hw a3d)
theorem f8o (r:Bool):plain (g8r r)=true:=rfl
theorem a4j (s:(List (Int × A0))) (f:GFn) (r:Bool) (hw:∃y1,a17 s f y1 /\ (r=(decide (0<=y1)))):L7 s f r:=
 fP (KC 9 hw g5r fun _ hw=>KR 5 hw f8o)
theorem d8r (r:Int):plain (g92 r)=true:=rfl
theorem b5f (x:C5) (g:C1) (f:P6) (r:Int) (hw:∃y1,c3p g f.Num y1 /\ (∃R1:Bool ->Prop,(∀bz1:Bool,R1 bz1 ->((((((decide (f.Num<1))||(decide (65535<f.Num)))||(decide (f.Wire<0)))||(decide (6<f.Wire)))=true ->r=1) /\ (((((decide (f.Num<1))||(decide (65535<f.Num)))||(decide (f.Wire<0)))||(decide (6<f.Wire)))=false ->(((((decide (f.Wire<=2))&&(!(decide (f.Data=(⟨#[]⟩:ByteArray)))))||((!(decide (f.Wire<=2)))&&(f.Bits !=0)))||(y1.2&&(!bz1)))=true ->r=1) /\ (((((decide (f.Wire<=2))&&(!(decide (f.Data=(⟨#[]⟩:ByteArray)))))||((!(decide (f.Wire<=2)))&&(f.Bits !=0)))||(y1.2&&(!bz1)))=false ->((((f.Wire==3)&&(decide (4096<(f.Data.size:Int))))||(decide (65536<(f.Data.size:Int))))=true ->r=3) /\ ((((f.Wire==3)&&(decide (4096<(f.Data.size:Int))))||(decide (65536<(f.Data.size:Int))))=false ->r=0))))) /\ ((((((y1.1.Kind==9)&&(y1.1.Card !=5))&&(f.Wire==0))&&(decide (f.Bits<=2147483647)))=true ->∃y2,b2c x.p y1.1.Target f.Bits y2 /\ (R1 (!y2))) /\ (((((y1.1.Kind==9)&&(y1.1.Card !=5))&&(f.Wire==0))&&(decide (f.Bits<=2147483647)))=false ->R1 false)))):a61 x g f r:=
 fP (KC 21 hw f1v fun y1 hw=>KT 14 4<|KT 1 4<|KT 1 4<|KQ 1 9 kB hw (fun bz1 hw=>KT 11 4<|KT 1 4<|KT 1 4<|KW 3 hw (fun _ hw=>KR 8 hw d8r) fun _ hw=>KT 4 4<|KT2 1 8 ((decide (f.Wire<=2))&&(!(decide (f.Data=(⟨#[]⟩:ByteArray))))) (fun z=>aB (z||((!(decide (f.Wire<=2)))&&(f.Bits !=0)))) (fun _ key=>KE2 8 key) (fun _ key=>KT 3 4<|KE2 1 key)<|KT2 1 6 (((decide (f.Wire<=2))&&(!(decide (f.Data=(⟨#[]⟩:ByteArray)))))||((!(decide (f.Wire<=2)))&&(f.Bits !=0))) (fun z=>aB (z||(y1.2&&(!bz1)))) (fun _ key=>KE2 6 key) (fun _ key=>KT 2 3<|KE2 1 key)<|KW 3 hw (fun _ hw=>KR 8 hw d8r) fun _ hw=>KT 6 5<|KT 1 5<|KW 3 hw (fun _ hw=>KR 8 hw d8r) fun _ hw=>KR 9 hw d8r) (fun _ key _ hw=>KC 6 hw g7y fun _ hw=>KE 2 key hw) fun _ key _ hw=>KE 9 key hw)
theorem g0g (r:(List A0)):plain (g3a r)=true:=(psl (E0 r))
def a64 (ij5:Int) (v:A0) (lj6:(List A0)) (r:(List A0)):Prop:=J Tryz.prog 157 (.ret (g3a r)) 11 [(29,aI ij5),(28,aI (v.Slots.length:Int)),(27,.sl (List.map A9 v.Slots) .no),(3,.sl (List.map B9 lj6) (.own 0))] ⟨[],[(lj6.length,7)],[]⟩
def a7a (ij3:Int) (v:A0) (lj4:(List A0)) (r:(List A0)):Prop:=J Tryz.prog 157 (.ret (g3a r)) 4 [(14,aI ij3),(13,aI (v.Pairs.length:Int)),(12,.sl (List.map A8 v.Pairs) .no),(3,.sl (List.map B9 lj4) (.own 0)),(1,.ptr 0 0)] ⟨[some (A4 v)],[(lj4.length,7)],[]⟩
theorem b1u {ij5:Int} {v:A0} {lj6:(List A0)}:a6c [] 1 [(29,aI ij5),(28,aI (v.Slots.length:Int)),(27,.sl (List.map A9 v.Slots) .no),(3,.sl (List.map B9 lj6) (.own 0))]=true /\ a4b [] 1 []=true:=⟨by first|rfl|simp,by first|rfl|simp⟩
theorem c2l {ij3:Int} {v:A0} {lj4:(List A0)}:a6c [true] 1 [(14,aI ij3),(13,aI (v.Pairs.length:Int)),(12,.sl (List.map A8 v.Pairs) .no),(3,.sl (List.map B9 lj4) (.own 0)),(1,.ptr 0 0)]=true /\ a4b [true] 1 [some (A4 v)]=true:=⟨by first|rfl|simp,by first|rfl|simp⟩
theorem a4c (ij5:Int) (v:A0) (lj6:(List A0)) (r:(List A0)) (hw:((decide (ij5<(v.Slots.length:Int)))=true ->∃y5,v.Slots[ij5.toNat]? =some y5 /\ 0<=ij5 /\ ((lj6.length+[y5.2].length)*128<=140737488355328 /\ (a64 (wI (ij5+1)) v (lj6++[y5.2]) r))) /\ ((decide (ij5<(v.Slots.length:Int)))=false ->r=lj6)):a64 ij5 v lj6 r:=
 KW 7 hw (fun _ hw=>KI 6 B7 hw fun _ hw=>KA 10 E4 hw mE fun hw=>KJl 9 [] hw b1u) fun _ hw=>KR 12 hw g0g
theorem a31 (ij3:Int) (v:A0) (lj4:(List A0)) (r:(List A0)) (hw:((decide (ij3<(v.Pairs.length:Int)))=true ->∃y6,v.Pairs[ij3.toNat]? =some y6 /\ 0<=ij3 /\ ((lj4.length+[y6.1,y6.2].length)*128<=140737488355328 /\ (a7a (wI (ij3+1)) v (lj4++[y6.1,y6.2]) r))) /\ ((decide (ij3<(v.Pairs.length:Int)))=false ->a64 0 v lj4 r)):a7a ij3 v lj4 r:=
 KW 7 hw (fun _ hw=>KI 6 B4 hw fun _ hw=>KA 12 E4 hw mE fun hw=>KJl 9 [] hw c2l) fun _ hw=>KL 10 B7 v.Slots<|KJl 5 [] hw b1u
theorem c5f (v:A0) (r:(List A0)) (hw:a0l v.List_ /\ (a7a 0 v v.List_ r)):b85 v r:=
 fP (KNB 10 E4 hw fun hw=>KL 8 B4 v.Pairs<|KJ 5 [] hw)
theorem f38 (r:(List (Int × A0))):plain (g91 r)=true:=(psl (D8 r))
theorem a9k (s:(List (Int × A0))) (r:(List (Int × A0))) (hw:∀bj1:Bool,(s≠[] ->bj1=false) ->((bj1=true ->r=([]:(List (Int × A0)))) /\ (bj1=false ->(([]:List (Int × A0)).length+s.length)*136<=140737488355328 /\ (r=(([]:List (Int × A0))++s))))):a5d s r:=
 fP (KN 9 B7 hw fun _ hw=>KW 2 hw (fun _ hw=>KR 7 hw f38) fun _ hw=>KAf 6 B7 hw mF xE fun hw=>KR 4 hw f38)
theorem a57 (s:(List (Int × A0))) (hw:s≠[] /\ s.length*136<=140737488355328):a1v s:=d50 B7 hw
theorem a20 (n0:Nat) (x:(List (Int × A0))) (cmp:GFn) (r:(List (Int × A0))) (hw:∃y1,X7 n0 x (n0:Int) cmp y1 /\ (x≠[] /\ y1≠[]) /\ (y1≠[] /\ r=y1)):P0 n0 x cmp r:=
 fRO (KRO 5 B7 hw f8y fun _ hw=>KRr 1 B7 hw)
theorem g2m (r:Int):plain (g9f r)=true:=rfl
theorem c1g (a:(Int × A0)) (b:(Int × A0)) (r:Int) (hw:∃y1,O5 a.1 b.1 y1 /\ (r=y1)):c2g a b r:=
 fP (KC 13 hw d7q fun _ hw=>KR 4 hw g2m)
theorem f2y (r:(GOp × Bool)):plain (g8j r)=true:=(e9z (A5 (M7 r.1) (A5 rfl rfl)))
theorem b83 (x:b2u) (g:C1) (r:(GOp × Bool)) (hw:∃y1,a5i g.Ops x.is y1 /\ (((decide (y1<0))=true ->r=((⟨0,(⟨#[]⟩:ByteArray),(⟨#[]⟩:ByteArray),0,0,0,0,0⟩:GOp),false)) /\ ((decide (y1<0))=false ->∃y2,g.Ops[y1.toNat]? =some y2 /\ 0<=y1 /\ (r=(y2,true))))):b8t x g r:=
 fP (KC 14 hw g4p fun _ hw=>KW 10 hw (fun _ hw=>KR 9 hw f2y) fun _ hw=>KI 7 b5u hw fun _ hw=>KR 6 hw f2y)
theorem f3s (r:A0):plain (g8d r)=true:=(A7 r)
theorem c1q (p:A6) (o_:GOp) (v:A0) (r:A0) (hw:((o_.Kind==10)=true ->∃y1,b1a p o_.Target v y1 /\ (r=y1)) /\ ((o_.Kind==10)=false ->∃y2,a92 v y2 /\ (r=y2))):a5e p o_ v r:=
 fP (KW 16 hw (fun _ hw=>KC 6 hw g89 fun _ hw=>KR 5 hw f3s) fun _ hw=>KC 5 hw g5l fun _ hw=>KR 4 hw f3s)
theorem f22 (r:(List (A0 × A0))):plain (g28 r)=true:=(psl (D3 r))
def a7g (ij1:Int) (lj2:(List (A0 × A0))) (r:(List (A0 × A0))):Prop:=J Tryz.prog 164 (.ret (g28 r)) 6 [(13,aI ij1),(12,aI (([]:List (A0 × A0)).length:Int)),(11,.sl (List.map A8 ([]:List (A0 × A0))) .no),(4,.sl (List.map A8 lj2) (.own 0)),(3,.sl (List.map A8 ([]:List (A0 × A0))) .no)] ⟨[],[(lj2.length,14)],[]⟩
def a3j (ij3:Int) (y9:(List (A0 × A0))) (lj4:(List (A0 × A0))) (r:(List (A0 × A0))):Prop:=J Tryz.prog 164 (.ret (g28 r)) 6 [(13,aI ij3),(12,aI (y9.length:Int)),(11,.sl (List.map A8 y9) .no),(4,.sl (List.map A8 lj4) (.own 0)),(3,.sl (List.map A8 y9) .no)] ⟨[],[(lj4.length,14)],[]⟩
theorem b2d {ij1:Int} {lj2:(List (A0 × A0))}:a6c [] 1 [(13,aI ij1),(12,aI (([]:List (A0 × A0)).length:Int)),(11,.sl (List.map A8 ([]:List (A0 × A0))) .no),(4,.sl (List.map A8 lj2) (.own 0)),(3,.sl (List.map A8 ([]:List (A0 × A0))) .no)]=true /\ a4b [] 1 []=true:=⟨by first|rfl|simp,by first|rfl|simp⟩
theorem a5w {ij3:Int} {y9:(List (A0 × A0))} {lj4:(List (A0 × A0))}:a6c [] 1 [(13,aI ij3),(12,aI (y9.length:Int)),(11,.sl (List.map A8 y9) .no),(4,.sl (List.map A8 lj4) (.own 0)),(3,.sl (List.map A8 y9) .no)]=true /\ a4b [] 1 []=true:=⟨by first|rfl|simp,by first|rfl|simp⟩
theorem b92 (ij1:Int) (lj2:(List (A0 × A0))) (r:(List (A0 × A0))) (hw:((decide (ij1<(([]:List (A0 × A0)).length:Int)))=true ->∃y5,([]:List (A0 × A0))[ij1.toNat]? =some y5 /\ 0<=ij1 /\ (∃R4:Bool ->Prop,(∀bz4:Bool,R4 bz4 ->((bz4=true ->(lj2.length+[y5].length)*256<=140737488355328 /\ (a7g (wI (ij1+1)) (lj2++[y5]) r)) /\ (bz4=false ->a7g (wI (ij1+1)) lj2 r))) /\ ((((wI (ij1+1))==(([]:List (A0 × A0)).length:Int))=true ->R4 true) /\ (((wI (ij1+1))==(([]:List (A0 × A0)).length:Int))=false ->∃y7,([]:List (A0 × A0))[(wI (ij1+1)).toNat]? =some y7 /\ 0<=(wI (ij1+1)) /\ (∃y8,b1d y5.1 y7.1 y8 /\ (R4 (!y8))))))) /\ ((decide (ij1<(([]:List (A0 × A0)).length:Int)))=false ->r=lj2)):a7g ij1 lj2 r:=
 KW 7 hw (fun _ hw=>KI 7 B4 hw fun _ hw=>KD 7 [0]<|KL 3 B4 ([]:List (A0 × A0))<|KQ 2 11 kB hw (fun _ hw=>KW 3 hw (fun _ hw=>KA 4 B4 hw mE fun hw=>KJl 9 [] hw b2d) fun _ hw=>KJl 8 [] hw b2d) (fun _ key _ hw=>KE 11 key hw) fun _ key _ hw=>KI 5 B4 hw fun _ hw=>KC 2 hw f58 fun _ hw=>KE 2 key hw) fun _ hw=>KR 12 hw f22
theorem a3z (ij3:Int) (y9:(List (A0 × A0))) (lj4:(List (A0 × A0))) (r:(List (A0 × A0))) (hw:((decide (ij3<(y9.length:Int)))=true ->∃y14,y9[ij3.toNat]? =some y14 /\ 0<=ij3 /\ (∃R8:Bool ->Prop,(∀bz8:Bool,R8 bz8 ->((bz8=true ->(lj4.length+[y14].length)*256<=140737488355328 /\ (a3j (wI (ij3+1)) y9 (lj4++[y14]) r)) /\ (bz8=false ->a3j (wI (ij3+1)) y9 lj4 r))) /\ ((((wI (ij3+1))==(y9.length:Int))=true ->R8 true) /\ (((wI (ij3+1))==(y9.length:Int))=false ->∃y16,y9[(wI (ij3+1)).toNat]? =some y16 /\ 0<=(wI (ij3+1)) /\ (∃y17,b1d y14.1 y16.1 y17 /\ (R8 (!y17))))))) /\ ((decide (ij3<(y9.length:Int)))=false ->r=lj4)):a3j ij3 y9 lj4 r:=
 KW 7 hw (fun _ hw=>KI 7 B4 hw fun _ hw=>KD 7 [0]<|KL 3 B4 y9<|KQ 2 11 kB hw (fun _ hw=>KW 3 hw (fun _ hw=>KA 4 B4 hw mE fun hw=>KJl 9 [] hw a5w) fun _ hw=>KJl 8 [] hw a5w) (fun _ key _ hw=>KE 11 key hw) fun _ key _ hw=>KI 5 B4 hw fun _ hw=>KC 2 hw f58 fun _ hw=>KE 2 key hw) fun _ hw=>KR 12 hw f22
theorem b47 (l:(List (A0 × A0))) (r:(List (A0 × A0))) (hw:(l=[] ->a5l l ([]:List (A0 × A0)) /\ (V1 (⟨193,[],[],rfl⟩:GFn) /\ (a7g 0 ([]:List (A0 × A0)) r))) /\ (l≠[] ->a1r l /\ (∃y9,P3 l.length l (⟨193,[],[],rfl⟩:GFn) y9 /\ (l≠[] /\ y9≠[]) /\ (y9.length=l.length /\ (a3j 0 y9 ([]:List (A0 × A0)) r))))):b4h l r:=
 fP (g4x l (fun hb1=>KC0 8 (hw.1 hb1) g5x fun hw=>KC0 6 hw g2h fun hw=>KL 11 B4 ([]:List (A0 × A0))<|KO 5 4 14<|KJ 0 [] hw) fun hb1=>KNw 8 B4 hb1 (hw.2 hb1) fun hw=>KRO 6 B4 hw g03 fun y9 hw=>KDf 2 B4 0 [false] 0 1 [(3,.sl (List.map A8 y9) .no)] [none] ⟨by first|rfl|simp,by first|rfl|simp⟩ hw fun hw=>KL 9 B4 y9<|KO 5 4 14<|KJl 0 [] hw a5w)
theorem g09 (r:Bool):plain (g87 r)=true:=rfl
theorem c1o (v:A0) (r:Bool) (hw:∃y1,b7o v.Kind y1 /\ (∃R1:Bool ->Prop,(∀bz1:Bool,R1 bz1 ->(r=((bz1&&(v.Bits==0))&&(decide (v.Text=(⟨#[]⟩:ByteArray)))))) /\ ((y1=true ->∃y2,b4c v y2 /\ (R1 y2)) /\ (y1=false ->R1 false)))):b4a v r:=
 fP (KC 10 hw g27 fun _ hw=>KQ 1 3 kB hw (fun _ hw=>KT 1 4<|KT 1 4<|KR 4 hw g09) (fun _ key _ hw=>KC 1 hw g73 fun _ hw=>KE 1 key hw) fun _ key _ hw=>KE 3 key hw)
theorem g0d (r:Bool):plain (g9t r)=true:=rfl
theorem b1z (x:Int) (r:Bool) (hw:r=(x !=x)):b4w x r:=
 fP (KR 14 hw g0d)
theorem d03 (r:Int):plain (g8q r)=true:=rfl
theorem d0q (a:A0) (b:A0) (r:Int) (hw:((a.Kind !=b.Kind)=true ->∃y1,O5 a.Kind b.Kind y1 /\ (r=y1)) /\ ((a.Kind !=b.Kind)=false ->∃y2,a7c b y2 /\ (∃y3,a7c a y3 /\ ((∀y4,y3=b74.a_order_one y4 ->∃y5,c3g y4 b y5 /\ (r=y5)) /\ ((∀y4,y3≠b74.a_order_one y4) ->(∀y6,y3=b74.a_order_list y6 ->∃y7,y2=b74.a_order_list y7 /\ (∃y8,J2 y6 y7 (⟨170,[],[],rfl⟩:GFn) y8 /\ (r=y8))) /\ ((∀y6,y3≠b74.a_order_list y6) ->(∀y9,y3=b74.a_order_pairs y9 ->∃y10,y2=b74.a_order_pairs y10 /\ (∃y11,J1 y9 y10 (⟨201,[],[],rfl⟩:GFn) y11 /\ (r=y11))) /\ ((∀y9,y3≠b74.a_order_pairs y9) ->(∀y12,y3=b74.a_order_parts y12 ->∃y13,y2=b74.a_order_parts y13 /\ (∃y14,R0 y12.slots y13.slots (⟨204,[],[],rfl⟩:GFn) y14 /\ (∃y15,U7 y12.raws y13.raws (⟨206,[],[],rfl⟩:GFn) y15 /\ (∃y16,a9x ([y14,y15]:(List Int)) y16 /\ (r=y16))))) /\ ((∀y12,y3≠b74.a_order_parts y12) ->r=0)))))))):b0t a b r:=
 fP (KW 17 hw (fun _ hw=>KC 6 hw d7q fun _ hw=>KR 5 hw d03) fun _ hw=>KC 5 hw f9k fun _ hw=>KC 7 hw f9k fun _ hw=>f9f 5 hw (fun _ hw=>KC 15 hw g4s fun _ hw=>KR 6 hw d03) fun hw=>f8u 7 hw (fun _ hw=>f5z 14 hw fun _ hw=>KC 0 hw g4g fun _ hw=>KR 6 hw d03) fun hw=>g0j 7 hw (fun _ hw=>f7q 14 hw fun _ hw=>KC 0 hw g6a fun _ hw=>KR 6 hw d03) fun hw=>g17 7 hw (fun _ hw=>f6v 14 hw fun _ hw=>KD 5 [2,3]<|KC 4 hw g3t fun _ hw=>KC 4 hw g4h fun _ hw=>KC 1 hw f1q fun _ hw=>KR 7 hw d03) fun hw=>KR 14 hw d03)
theorem e0a (r:Int):plain (g3e r)=true:=rfl
def a28 (ij2:Int) (ij1:Int) (l:(List (A0 × A0))) (level:Int) (p:A6) (o_:GOp) (r:Int):Prop:=J Tryz.prog 171 (.ret (g3e r)) 13 [(11,aI ij2),(9,aI ij1),(5,.ptr 1 0),(4,.ptr 0 0),(2,.sl (List.map A8 l) .no),(3,aI level)] ⟨[some (B0 p),some (U2 o_)],[],[]⟩
def a69 (ij1:Int) (l:(List (A0 × A0))) (level:Int) (p:A6) (o_:GOp) (r:Int):Prop:=J Tryz.prog 171 (.ret (g3e r)) 3 [(9,aI ij1),(5,.ptr 1 0),(4,.ptr 0 0),(2,.sl (List.map A8 l) .no),(3,aI level)] ⟨[some (B0 p),some (U2 o_)],[],[]⟩
theorem b0p (ij2:Int) (ij1:Int) (l:(List (A0 × A0))) (level:Int) (p:A6) (o_:GOp) (r:Int) (hw:((decide (ij2<ij1))=true ->∃y14,l[ij2.toNat]? =some y14 /\ 0<=ij2 /\ (∃y15,l[ij1.toNat]? =some y15 /\ 0<=ij1 /\ (∃y16,c0e y14.1 y15.1 y16 /\ ((y16=true ->r=9) /\ (y16=false ->a28 (wI (ij2+1)) ij1 l level p o_ r))))) /\ ((decide (ij2<ij1))=false ->∃y12,l[ij1.toNat]? =some y12 /\ 0<=ij1 /\ (∃y13,a47 p o_ y12.2 level y13 /\ (((y13 !=0)=true ->r=y13) /\ ((y13 !=0)=false ->a69 (wI (ij1+1)) l level p o_ r))))):a28 ij2 ij1 l level p o_ r:=
 KW 9 hw (fun _ hw=>KD 5 []<|KI 2 B4 hw fun _ hw=>KI 4 B4 hw fun _ hw=>KC 2 hw h0k fun _ hw=>KW 3 hw (fun _ hw=>KR 16 hw e0a) fun _ hw=>KJ 9 [] hw) fun _ hw=>KD 6 [0,1]<|KI 4 B4 hw fun _ hw=>KC 3 hw f5n fun _ hw=>KW 10 hw (fun _ hw=>KR 12 hw e0a) fun _ hw=>KJ 9 [] hw
theorem b0d (ij1:Int) (l:(List (A0 × A0))) (level:Int) (p:A6) (o_:GOp) (r:Int) (hw:((decide (ij1<(l.length:Int)))=true ->∃y5,l[ij1.toNat]? =some y5 /\ 0<=ij1 /\ (∃y6,b2e p o_.Key (-1) y5.1 y6 /\ (((y6 !=0)=true ->r=y6) /\ ((y6 !=0)=false ->a28 0 ij1 l level p o_ r)))) /\ ((decide (ij1<(l.length:Int)))=false ->r=0)):a69 ij1 l level p o_ r:=
 KL 6 B4 l<|KW 3 hw (fun _ hw=>KD 6 [0,1]<|KI 5 B4 hw fun _ hw=>KC 2 hw g1g fun _ hw=>KW 10 hw (fun _ hw=>KR 13 hw e0a) fun _ hw=>KJ 10 [] hw) fun _ hw=>KR 11 hw e0a
theorem c5z (p:A6) (o_:GOp) (l:(List (A0 × A0))) (level:Int) (r:Int) (hw:a69 0 l level p o_ r):b9n p o_ l level r:=
 fP (KJ 15 [] hw)
theorem f24 (r:Int):plain (g8s r)=true:=rfl
theorem c2d (p:A6) (o_:GOp) (v:A0) (level:Int) (r:Int) (hw:((o_.Kind==10)=true ->∃y1,a2c p o_.Target v (wI (level+1)) y1 /\ (r=y1)) /\ ((o_.Kind==10)=false ->∃y2,b2e p o_.Kind o_.Target v y2 /\ (r=y2))):a47 p o_ v level r:=
 fP (KW 16 hw (fun _ hw=>KC 8 hw g9x fun _ hw=>KR 5 hw f24) fun _ hw=>KC 10 hw g1g fun _ hw=>KR 4 hw f24)
theorem e5j (r:Bool):plain (g3n r)=true:=rfl
def a1j (ij1:Int) (sj2:ByteArray) (s:ByteArray) (r:Bool):Prop:=JP Tryz.prog 173 (g3n r) 7 [(4,aI ij1),(3,aS sj2),(0,aS s)]
theorem a8w (ij1:Int) (sj2:ByteArray) (s:ByteArray) (r:Bool) (hw:((decide (ij1<(s.size:Int)))=true ->(0<=ij1 /\ ij1<(s.size:Int)) /\ ((((H4 s ij1.toNat) !=46)=true ->(0<=ij1 /\ ij1<=(wI (ij1+1)) /\ (wI (ij1+1))<=(s.size:Int)) /\ (((sj2.size+(s.extract ij1.toNat (wI (ij1+1)).toNat).size:Nat):Int)<=9223372036854775807 /\ (a1j (wI (ij1+1)) (sj2++(s.extract ij1.toNat (wI (ij1+1)).toNat)) s r))) /\ (((H4 s ij1.toNat) !=46)=false ->∃y4,a8b sj2 y4 /\ (((!y4)=true ->r=false) /\ ((!y4)=false ->a1j (wI (ij1+1)) (⟨#[]⟩:ByteArray) s r))))) /\ ((decide (ij1<(s.size:Int)))=false ->∃y3,a8b sj2 y3 /\ (r=y3))):a1j ij1 sj2 s r:=
 KW 10 hw (fun _ hw=>KIS 9 hw fun hw=>KW 3 hw (fun _ hw=>KSS 7 hw fun hw=>e1w 0 hw fun hw=>KJ 13 [] hw) fun _ hw=>KC 6 hw f45 fun _ hw=>KW 3 hw (fun _ hw=>KR 12 hw e5j) fun _ hw=>KJ 13 [] hw) fun _ hw=>KC 8 hw f45 fun _ hw=>KR 4 hw e5j
theorem c3d (s:ByteArray) (r:Bool) (hw:((decide (120<(s.size:Int)))=true ->r=false) /\ ((decide (120<(s.size:Int)))=false ->a1j 0 (⟨#[]⟩:ByteArray) s r)):b66 s r:=
 fP (KW 13 hw (fun _ hw=>KR 7 hw e5j) fun _ hw=>KJ 15 [] hw)
theorem f3l (r:(ByteArray × ByteArray)):plain (g4w r)=true:=(e9z (A5 rfl (A5 rfl rfl)))
def a65 (ij1:Int) (full:ByteArray) (r:(ByteArray × ByteArray)):Prop:=JP Tryz.prog 174 (g4w r) 3 [(4,aI ij1),(0,aS full)]
theorem b0c (ij1:Int) (full:ByteArray) (r:(ByteArray × ByteArray)) (hw:((decide (0<=ij1))=true ->(0<=ij1 /\ ij1<(full.size:Int)) /\ ((((H4 full ij1.toNat)==46)=true ->(0<=(0:Int) /\ (0:Int)<=ij1 /\ ij1<=(full.size:Int)) /\ ((0<=(wI (ij1+1)) /\ (wI (ij1+1))<=(full.size:Int) /\ (full.size:Int)<=(full.size:Int)) /\ (r=((full.extract (0:Int).toNat ij1.toNat),(full.extract (wI (ij1+1)).toNat (full.size:Int).toNat))))) /\ (((H4 full ij1.toNat)==46)=false ->a65 (wI (ij1 - 1)) full r))) /\ ((decide (0<=ij1))=false ->r=((⟨#[]⟩:ByteArray),full))):a65 ij1 full r:=
 KW 8 hw (fun _ hw=>KIS 8 hw fun hw=>KW 3 hw (fun _ hw=>KD 1 []<|KSS 2 hw fun hw=>KSS 3 hw fun hw=>KR 11 hw f3l) fun _ hw=>KJ 9 [] hw) fun _ hw=>KR 13 hw f3l
theorem c6d (full:ByteArray) (r:(ByteArray × ByteArray)) (hw:a65 (wI ((full.size:Int) - 1)) full r):b82 full r:=
 fP (KJ 17 [] hw)
theorem a2n (r:Bool):plain (g76 r)=true:=rfl
theorem c3u (s:ByteArray) (r:Bool) (hw:((decide (s=(⟨#[109,101,115,115,97,103,101]⟩:ByteArray)))=true ->r=true) /\ ((decide (s=(⟨#[109,101,115,115,97,103,101]⟩:ByteArray)))=false ->((decide (s=(⟨#[101,110,117,109]⟩:ByteArray)))=true ->r=true) /\ ((decide (s=(⟨#[101,110,117,109]⟩:ByteArray)))=false ->((decide (s=(⟨#[115,101,114,118,105,99,101]⟩:ByteArray)))=true ->r=true) /\ ((decide (s=(⟨#[115,101,114,118,105,99,101]⟩:ByteArray)))=false ->((decide (s=(⟨#[117,110,105,111,110]⟩:ByteArray)))=true ->r=true) /\ ((decide (s=(⟨#[117,110,105,111,110]⟩:ByteArray)))=false ->((decide (s=(⟨#[109,97,112]⟩:ByteArray)))=true ->r=true) /\ ((decide (s=(⟨#[109,97,112]⟩:ByteArray)))=false ->((decide (s=(⟨#[108,105,115,116]⟩:ByteArray)))=true ->r=true) /\ ((decide (s=(⟨#[108,105,115,116]⟩:ByteArray)))=false ->((decide (s=(⟨#[114,101,113,117,105,114,101,100]⟩:ByteArray)))=true ->r=true) /\ ((decide (s=(⟨#[114,101,113,117,105,114,101,100]⟩:ByteArray)))=false ->((decide (s=(⟨#[111,112,116,105,111,110,97,108]⟩:ByteArray)))=true ->r=true) /\ ((decide (s=(⟨#[111,112,116,105,111,110,97,108]⟩:ByteArray)))=false ->((decide (s=(⟨#[112,108,97,105,110]⟩:ByteArray)))=true ->r=true) /\ ((decide (s=(⟨#[112,108,97,105,110]⟩:ByteArray)))=false ->((decide (s=(⟨#[100,101,102,97,117,108,116]⟩:ByteArray)))=true ->r=true) /\ ((decide (s=(⟨#[100,101,102,97,117,108,116]⟩:ByteArray)))=false ->((decide (s=(⟨#[114,101,115,101,114,118,101,100]⟩:ByteArray)))=true ->r=true) /\ ((decide (s=(⟨#[114,101,115,101,114,118,101,100]⟩:ByteArray)))=false ->((decide (s=(⟨#[105,109,112,111,114,116]⟩:ByteArray)))=true ->r=true) /\ ((decide (s=(⟨#[105,109,112,111,114,116]⟩:ByteArray)))=false ->((decide (s=(⟨#[115,112,97,99,101]⟩:ByteArray)))=true ->r=true) /\ ((decide (s=(⟨#[115,112,97,99,101]⟩:ByteArray)))=false ->((decide (s=(⟨#[114,112,99]⟩:ByteArray)))=true ->r=true) /\ ((decide (s=(⟨#[114,112,99]⟩:ByteArray)))=false ->((decide (s=(⟨#[115,116,114,101,97,109]⟩:ByteArray)))=true ->r=true) /\ ((decide (s=(⟨#[115,116,114,101,97,109]⟩:ByteArray)))=false ->((decide (s=(⟨#[114,101,116,117,114,110,115]⟩:ByteArray)))=true ->r=true) /\ ((decide (s=(⟨#[114,101,116,117,114,110,115]⟩:ByteArray)))=false ->((decide (s=(⟨#[111,112,101,110]⟩:ByteArray)))=true ->r=true) /\ ((decide (s=(⟨#[111,112,101,110]⟩:ByteArray)))=false ->((decide (s=(⟨#[116,114,117,101]⟩:ByteArray)))=true ->r=true) /\ ((decide (s=(⟨#[116,114,117,101]⟩:ByteArray)))=false ->((decide (s=(⟨#[102,97,108,115,101]⟩:ByteArray)))=true ->r=true) /\ ((decide (s=(⟨#[102,97,108,115,101]⟩:ByteArray)))=false ->((decide (s=(⟨#[110,97,110]⟩:ByteArray)))=true ->r=true) /\ ((decide (s=(⟨#[110,97,110]⟩:ByteArray)))=false ->((decide (s=(⟨#[105,110,102]⟩:ByteArray)))=true ->r=true) /\ ((decide (s=(⟨#[105,110,102]⟩:ByteArray)))=false ->r=false)))))))))))))))))))))):b11 s r:=
 fP (KW 19 hw (fun hb1 hw=>KKn 2 hb1<|KR 8 hw a2n) fun hb1 hw=>KW 6 hw (fun hb2 hw=>KKn 2 hb2<|KR 8 hw a2n) fun hb2 hw=>KW 6 hw (fun hb3 hw=>KKn 2 hb3<|KR 8 hw a2n) fun hb3 hw=>KW 6 hw (fun hb4 hw=>KKn 2 hb4<|KR 8 hw a2n) fun hb4 hw=>KW 6 hw (fun hb5 hw=>KKn 2 hb5<|KR 8 hw a2n) fun hb5 hw=>KW 6 hw (fun hb6 hw=>KKn 2 hb6<|KR 8 hw a2n) fun hb6 hw=>KW 6 hw (fun hb7 hw=>KKn 2 hb7<|KR 8 hw a2n) fun hb7 hw=>KW 6 hw (fun hb8 hw=>KKn 2 hb8<|KR 8 hw a2n) fun hb8 hw=>KW 6 hw (fun hb9 hw=>KKn 2 hb9<|KR 8 hw a2n) fun hb9 hw=>KW 6 hw (fun hb10 hw=>KKn 2 hb10<|KR 8 hw a2n) fun hb10 hw=>KW 6 hw (fun hb11 hw=>KKn 2 hb11<|KR 8 hw a2n) fun hb11 hw=>KW 6 hw (fun hb12 hw=>KKn 2 hb12<|KR 8 hw a2n) fun hb12 hw=>KW 6 hw (fun hb13 hw=>KKn 2 hb13<|KR 8 hw a2n) fun hb13 hw=>KW 6 hw (fun hb14 hw=>KKn 2 hb14<|KR 8 hw a2n) fun hb14 hw=>KW 6 hw (fun hb15 hw=>KKn 2 hb15<|KR 8 hw a2n) fun hb15 hw=>KW 6 hw (fun hb16 hw=>KKn 2 hb16<|KR 8 hw a2n) fun hb16 hw=>KW 6 hw (fun hb17 hw=>KKn 2 hb17<|KR 8 hw a2n) fun hb17 hw=>KW 6 hw (fun hb18 hw=>KKn 2 hb18<|KR 8 hw a2n) fun hb18 hw=>KW 6 hw (fun hb19 hw=>KKn 2 hb19<|KR 8 hw a2n) fun hb19 hw=>KW 6 hw (fun hb20 hw=>KKn 2 hb20<|KR 8 hw a2n) fun hb20 hw=>KW 5 hw (fun _ hw=>KR 8 hw a2n) fun _ hw=>KR 9 hw a2n)
theorem e5s (r:Bool):plain (g36 r)=true:=rfl
def a13 (ij1:Int) (s:ByteArray) (r:Bool):Prop:=JP Tryz.prog 176 (g36 r) 6 [(3,aI ij1),(0,aS s)]
theorem a8t (ij1:Int) (s:ByteArray) (r:Bool) (hw:((decide (ij1<(s.size:Int)))=true ->(0<=ij1 /\ ij1<(s.size:Int)) /\ (∃y5,b4y (H4 s ij1.toNat) y5 /\ (∃R6:Bool ->Prop,(∀bz6:Bool,R6 bz6 ->(∃R7:Bool ->Prop,(∀bz7:Bool,R7 bz7 ->((bz7=true ->(0<=ij1 /\ ij1<(s.size:Int)) /\ (∃R8:Bool ->Prop,(∀bz8:Bool,R8 bz8 ->((bz8=true ->r=false) /\ (bz8=false ->a13 (wI (ij1+1)) s r))) /\ (((decide ((H4 s ij1.toNat)<48))=true ->R8 true) /\ ((decide ((H4 s ij1.toNat)<48))=false ->(0<=ij1 /\ ij1<(s.size:Int)) /\ (R8 (decide (57<(H4 s ij1.toNat)))))))) /\ (bz7=false ->a13 (wI (ij1+1)) s r))) /\ ((bz6=true ->(0<=ij1 /\ ij1<(s.size:Int)) /\ (R7 ((H4 s ij1.toNat) !=95))) /\ (bz6=false ->R7 false)))) /\ (((!y5)=true ->(0<=ij1 /\ ij1<(s.size:Int)) /\ (∃y6,a9b (H4 s ij1.toNat) y6 /\ (R6 (!y6)))) /\ ((!y5)=false ->R6 false))))) /\ ((decide (ij1<(s.size:Int)))=false ->r=true)):a13 ij1 s r:=
 KW 10 hw (fun _ hw=>KIS 8 hw fun hw=>KC 0 hw g0h fun _ hw=>KQ 2 6 kB hw (fun _ hw=>KQ 1 5 kB hw (fun _ hw=>KW 1 hw (fun _ hw=>KIS 2 hw fun hw=>KQ 2 5 kB hw (fun _ hw=>KW 3 hw (fun _ hw=>KR 11 hw e5s) fun _ hw=>KJ 9 [] hw) (fun _ key _ hw=>KE 5 key hw) fun _ key _ hw=>KIS 2 hw fun hw=>KE 2 key hw) fun _ hw=>KJ 23 [] hw) (fun _ key _ hw=>KIS 2 hw fun hw=>KE 2 key hw) fun _ key _ hw=>KE 5 key hw) (fun _ key _ hw=>KIS 2 hw fun hw=>KC 0 hw g0e fun _ hw=>KE 2 key hw) fun _ key _ hw=>KE 6 key hw) fun _ hw=>KR 11 hw e5s
theorem c4c (s:ByteArray) (r:Bool) (hw:∃R1:Bool ->Prop,(∀bz1:Bool,R1 bz1 ->((bz1=true ->r=false) /\ (bz1=false ->a13 1 s r))) /\ (((((s.size:Int)==0)||(decide (40<(s.size:Int))))=true ->R1 true) /\ ((((s.size:Int)==0)||(decide (40<(s.size:Int))))=false ->(0<=(0:Int) /\ (0:Int)<(s.size:Int)) /\ (∃y1,b4y (H4 s (0:Int).toNat) y1 /\ (∃R2:Bool ->Prop,(∀bz2:Bool,R2 bz2 ->(R1 bz2)) /\ (((!y1)=true ->(0<=(0:Int) /\ (0:Int)<(s.size:Int)) /\ (∃y2,a9b (H4 s (0:Int).toNat) y2 /\ (R2 (!y2)))) /\ ((!y1)=false ->R2 false))))))):a8b s r:=
 fP (KT 12 4<|KQ 1 11 kB hw (fun _ hw=>KW 2 hw (fun _ hw=>KR 7 hw e5s) fun _ hw=>KJ 10 [] hw) (fun _ key _ hw=>KE 11 key hw) fun _ key _ hw=>KIS 1 hw fun hw=>KC 0 hw g0h fun _ hw=>KQ 2 5 kB hw (fun _ hw=>KE 1 key hw) (fun _ key _ hw=>KIS 1 hw fun hw=>KC 0 hw g0e fun _ hw=>KE 2 key hw) fun _ key _ hw=>KE 5 key hw)
theorem d07 (r:Int):plain (g02 r)=true:=rfl
def a01 (bj7:Bool) (name:ByteArray) (r:Int):Prop:=JP Tryz.prog 177 (g02 r) 12 [(13,aB bj7),(3,aS name)]
def a02 (bj6:Bool) (name:ByteArray) (r:Int):Prop:=JP Tryz.prog 177 (g02 r) 7 [(8,aB bj6),(3,aS name)]
def a48 (bj4:Bool) (name:ByteArray) (r:Int):Prop:=JP Tryz.prog 177 (g02 r) 3 [(4,aB bj4),(3,aS name)]
theorem b84 (bj7:Bool) (name:ByteArray) (r:Int) (hw:(bj7=true ->r=4) /\ (bj7=false ->((decide (name=(⟨#[109,105,110]⟩:ByteArray)))=true ->r=3) /\ ((decide (name=(⟨#[109,105,110]⟩:ByteArray)))=false ->((decide (name=(⟨#[109,97,120]⟩:ByteArray)))=true ->r=3) /\ ((decide (name=(⟨#[109,97,120]⟩:ByteArray)))=false ->r=0)))):a01 bj7 name r:=
 KW 0 hw (fun _ hw=>KR 8 hw d07) fun _ hw=>KW 7 hw (fun hb49 hw=>KKn 2 hb49<|KR 8 hw d07) fun hb49 hw=>KW 5 hw (fun _ hw=>KR 8 hw d07) fun _ hw=>KR 9 hw d07
theorem b9b (bj6:Bool) (name:ByteArray) (r:Int) (hw:(bj6=true ->r=7) /\ (bj6=false ->((decide (name=(⟨#[115,105,110,99,101]⟩:ByteArray)))=true ->a01 (decide (name=(⟨#[115,105,110,99,101]⟩:ByteArray))) name r) /\ ((decide (name=(⟨#[115,105,110,99,101]⟩:ByteArray)))=false ->((decide (name=(⟨#[117,110,116,105,108]⟩:ByteArray)))=true ->a01 (decide (name=(⟨#[117,110,116,105,108]⟩:ByteArray))) name r) /\ ((decide (name=(⟨#[117,110,116,105,108]⟩:ByteArray)))=false ->((decide (name=(⟨#[108,101,110,103,116,104]⟩:ByteArray)))=true ->a01 (decide (name=(⟨#[108,101,110,103,116,104]⟩:ByteArray))) name r) /\ ((decide (name=(⟨#[108,101,110,103,116,104]⟩:ByteArray)))=false ->a01 (decide (name=(⟨#[116,105,109,101,111,117,116]⟩:ByteArray))) name r))))):a02 bj6 name r:=
 KW 0 hw (fun _ hw=>KR 8 hw d07) fun _ hw=>KW 7 hw (fun _ hw=>KJ 2 [] hw) fun _ hw=>KW 6 hw (fun _ hw=>KJ 2 [] hw) fun _ hw=>KW 6 hw (fun _ hw=>KJ 2 [] hw) fun _ hw=>KJ 5 [] hw
theorem c10 (bj4:Bool) (name:ByteArray) (r:Int) (hw:(bj4=true ->r=1) /\ (bj4=false ->((decide (name=(⟨#[100,111,99]⟩:ByteArray)))=true ->a02 (decide (name=(⟨#[100,111,99]⟩:ByteArray))) name r) /\ ((decide (name=(⟨#[100,111,99]⟩:ByteArray)))=false ->((decide (name=(⟨#[97,108,105,97,115]⟩:ByteArray)))=true ->a02 (decide (name=(⟨#[97,108,105,97,115]⟩:ByteArray))) name r) /\ ((decide (name=(⟨#[97,108,105,97,115]⟩:ByteArray)))=false ->((decide (name=(⟨#[114,111,117,116,101]⟩:ByteArray)))=true ->a02 (decide (name=(⟨#[114,111,117,116,101]⟩:ByteArray))) name r) /\ ((decide (name=(⟨#[114,111,117,116,101]⟩:ByteArray)))=false ->a02 (decide (name=(⟨#[111,119,110,101,114]⟩:ByteArray))) name r))))):a48 bj4 name r:=
 KW 0 hw (fun _ hw=>KR 8 hw d07) fun _ hw=>KW 7 hw (fun _ hw=>KJ 2 [] hw) fun _ hw=>KW 6 hw (fun _ hw=>KJ 2 [] hw) fun _ hw=>KW 6 hw (fun _ hw=>KJ 2 [] hw) fun _ hw=>KJ 5 [] hw
theorem c9h (name:ByteArray) (r:Int) (hw:((decide (name=(⟨#[100,101,112,114,101,99,97,116,101,100]⟩:ByteArray)))=true ->a48 (decide (name=(⟨#[100,101,112,114,101,99,97,116,101,100]⟩:ByteArray))) name r) /\ ((decide (name=(⟨#[100,101,112,114,101,99,97,116,101,100]⟩:ByteArray)))=false ->((decide (name=(⟨#[115,101,99,114,101,116]⟩:ByteArray)))=true ->a48 (decide (name=(⟨#[115,101,99,114,101,116]⟩:ByteArray))) name r) /\ ((decide (name=(⟨#[115,101,99,114,101,116]⟩:ByteArray)))=false ->a48 (decide (name=(⟨#[105,100,101,109,112,111,116,101,110,116]⟩:ByteArray))) name r))):b71 name r:=
 fP (KW 19 hw (fun _ hw=>KJ 2 [] hw) fun _ hw=>KW 6 hw (fun _ hw=>KJ 2 [] hw) fun _ hw=>KJ 5 [] hw)
theorem d31 (r:Bool):plain (f8b r)=true:=rfl
def a3q (bj15:Bool) (target:Int) (r:Bool):Prop:=JP Tryz.prog 178 (f8b r) 15 [(36,aB bj15),(1,aI target)]
def a03 (bj14:Bool) (name:ByteArray) (target:Int) (r:Bool):Prop:=JP Tryz.prog 178 (f8b r) 10 [(29,aB bj14),(5,aS name),(1,aI target)]
def a3f (bj12:Bool) (name:ByteArray) (target:Int) (r:Bool):Prop:=JP Tryz.prog 178 (f8b r) 6 [(15,aB bj12),(5,aS name),(1,aI target)]
def a66 (bj8:Bool) (name:ByteArray) (target:Int) (r:Bool):Prop:=JP Tryz.prog 178 (f8b r) 3 [(6,aB bj8),(5,aS name),(1,aI target)]
theorem b9a (bj15:Bool) (target:Int) (r:Bool) (hw:(bj15=true ->r=(target==6)) /\ (bj15=false ->r=((target==1)||(target==5)))):a3q bj15 target r:=
 KW 0 hw (fun _ hw=>KR 10 hw d31) fun _ hw=>KT 8 3<|KR 4 hw d31
theorem b9x (bj14:Bool) (name:ByteArray) (target:Int) (r:Bool) (hw:(bj14=true ->r=(target==2)) /\ (bj14=false ->((decide (name=(⟨#[105,100,101,109,112,111,116,101,110,116]⟩:ByteArray)))=true ->a3q (decide (name=(⟨#[105,100,101,109,112,111,116,101,110,116]⟩:ByteArray))) target r) /\ ((decide (name=(⟨#[105,100,101,109,112,111,116,101,110,116]⟩:ByteArray)))=false ->((decide (name=(⟨#[116,105,109,101,111,117,116]⟩:ByteArray)))=true ->a3q (decide (name=(⟨#[116,105,109,101,111,117,116]⟩:ByteArray))) target r) /\ ((decide (name=(⟨#[116,105,109,101,111,117,116]⟩:ByteArray)))=false ->a3q (decide (name=(⟨#[114,111,117,116,101]⟩:ByteArray))) target r)))):a03 bj14 name target r:=
 KW 0 hw (fun _ hw=>KR 10 hw d31) fun _ hw=>KW 7 hw (fun _ hw=>KJ 2 [] hw) fun _ hw=>KW 6 hw (fun _ hw=>KJ 2 [] hw) fun _ hw=>KJ 5 [] hw
theorem b98 (bj12:Bool) (name:ByteArray) (target:Int) (r:Bool) (hw:(bj12=true ->r=(((target==2)||(target==4))||(target==6))) /\ (bj12=false ->((decide (name=(⟨#[109,105,110]⟩:ByteArray)))=true ->a03 (decide (name=(⟨#[109,105,110]⟩:ByteArray))) name target r) /\ ((decide (name=(⟨#[109,105,110]⟩:ByteArray)))=false ->((decide (name=(⟨#[109,97,120]⟩:ByteArray)))=true ->a03 (decide (name=(⟨#[109,97,120]⟩:ByteArray))) name target r) /\ ((decide (name=(⟨#[109,97,120]⟩:ByteArray)))=false ->((decide (name=(⟨#[108,101,110,103,116,104]⟩:ByteArray)))=true ->a03 (decide (name=(⟨#[108,101,110,103,116,104]⟩:ByteArray))) name target r) /\ ((decide (name=(⟨#[108,101,110,103,116,104]⟩:ByteArray)))=false ->a03 (decide (name=(⟨#[115,101,99,114,101,116]⟩:ByteArray))) name target r))))):a3f bj12 name target r:=
 KW 0 hw (fun _ hw=>KT 5 3<|KT 1 3<|KR 6 hw d31) fun _ hw=>KW 7 hw (fun _ hw=>KJ 2 [] hw) fun _ hw=>KW 6 hw (fun _ hw=>KJ 2 [] hw) fun _ hw=>KW 6 hw (fun _ hw=>KJ 2 [] hw) fun _ hw=>KJ 5 [] hw
theorem b90 (bj8:Bool) (name:ByteArray) (target:Int) (r:Bool) (hw:(bj8=true ->r=((decide (1<=target))&&(decide (target<=6)))) /\ (bj8=false ->((decide (name=(⟨#[97,108,105,97,115]⟩:ByteArray)))=true ->a3f (decide (name=(⟨#[97,108,105,97,115]⟩:ByteArray))) name target r) /\ ((decide (name=(⟨#[97,108,105,97,115]⟩:ByteArray)))=false ->((decide (name=(⟨#[115,105,110,99,101]⟩:ByteArray)))=true ->a3f (decide (name=(⟨#[115,105,110,99,101]⟩:ByteArray))) name target r) /\ ((decide (name=(⟨#[115,105,110,99,101]⟩:ByteArray)))=false ->a3f (decide (name=(⟨#[117,110,116,105,108]⟩:ByteArray))) name target r)))):a66 bj8 name target r:=
 KW 0 hw (fun _ hw=>KT 5 3<|KR 6 hw d31) fun _ hw=>KW 7 hw (fun _ hw=>KJ 2 [] hw) fun _ hw=>KW 6 hw (fun _ hw=>KJ 2 [] hw) fun _ hw=>KJ 5 [] hw
theorem c9i (name:ByteArray) (target:Int) (r:Bool) (hw:((decide (name=(⟨#[100,101,112,114,101,99,97,116,101,100]⟩:ByteArray)))=true ->a66 (decide (name=(⟨#[100,101,112,114,101,99,97,116,101,100]⟩:ByteArray))) name target r) /\ ((decide (name=(⟨#[100,101,112,114,101,99,97,116,101,100]⟩:ByteArray)))=false ->a66 (decide (name=(⟨#[100,111,99]⟩:ByteArray))) name target r)):c3l name target r:=
 fP (KW 19 hw (fun _ hw=>KJ 2 [] hw) fun _ hw=>KJ 5 [] hw)
theorem f2h (r:Bool):plain (g8k r)=true:=rfl
theorem c52 (n:b1k) (r:Bool) (hw:∃y1,b71 n.Name y1 /\ ((((y1 !=0)&&(n.Val.Kind==y1))=true ->∃y2,b3c y1 n.Val y2 /\ (r=y2)) /\ (((y1 !=0)&&(n.Val.Kind==y1))=false ->r=false))):b9k n r:=
 fP (KC 10 hw f9o fun _ hw=>KT 8 6<|KW 1 hw (fun _ hw=>KC 3 hw g68 fun _ hw=>KR 5 hw f2h) fun _ hw=>KR 9 hw f2h)
theorem e6e (r:Bool):plain (g88 r)=true:=rfl
theorem c25 (p:A6) (o_:GOp) (r:Bool) (hw:((o_.Kind==10)=true ->r=(((decide (0<=o_.Target))&&(decide (o_.Target<(p.Progs.length:Int))))&&(o_.Card !=3))) /\ ((o_.Kind==10)=false ->((o_.Kind==9)=true ->r=((decide (0<=o_.Target))&&(decide (o_.Target<(p.Enums.length:Int))))) /\ ((o_.Kind==9)=false ->r=(o_.Target==(-1))))):b52 p o_ r:=
 fP (KW 21 hw (fun _ hw=>KT2 6 7 (decide (0<=o_.Target)) (fun z=>aB (z&&(decide (o_.Target<(p.Progs.length:Int))))) (fun _ key=>KL 4 I5 p.Progs<|KE2 2 key) (fun _ key=>KE2 7 key)<|KT 1 4<|KR 6 hw e6e) fun _ hw=>KW 6 hw (fun _ hw=>KT2 6 7 (decide (0<=o_.Target)) (fun z=>aB (z&&(decide (o_.Target<(p.Enums.length:Int))))) (fun _ key=>KL 4 U4 p.Enums<|KE2 2 key) (fun _ key=>KE2 7 key)<|KR 6 hw e6e) fun _ hw=>KR 12 hw e6e)
theorem f36 (r:Bool):plain (g71 r)=true:=rfl
theorem d0s (s:ByteArray) (at_:Int) (c:Int) (r:Bool) (hw:((c==65533)=true ->(0<=at_ /\ at_<=(s.size:Int) /\ (s.size:Int)<=(s.size:Int)) /\ (∃y1,a60 (s.extract at_.toNat (s.size:Int).toNat) (⟨#[239,191,189]⟩:ByteArray) y1 /\ (r=(!y1)))) /\ ((c==65533)=false ->r=false)):c7r s at_ c r:=
 fP (KW 10 hw (fun _ hw=>KSS 2 hw fun hw=>KC 0 hw g5w fun _ hw=>KR 6 hw f36) fun _ hw=>KR 10 hw f36)
theorem b8w (r:Int):plain (g9l r)=true:=rfl
theorem c80 (s:ByteArray) (i:Int) (r:Int) (hw:(0<=i /\ i<(s.size:Int)) /\ (((decide ((H4 s i.toNat)<128))=true ->r=1) /\ ((decide ((H4 s i.toNat)<128))=false ->∃R1:Bool ->Prop,(∀bz1:Bool,R1 bz1 ->((bz1=true ->r=2) /\ (bz1=false ->∃R2:Bool ->Prop,(∀bz2:Bool,R2 bz2 ->(∃R3:Bool ->Prop,(∀bz3:Bool,R3 bz3 ->((bz3=true ->r=3) /\ (bz3=false ->∃R4:Bool ->Prop,(∀bz4:Bool,R4 bz4 ->(∃R5:Bool ->Prop,(∀bz5:Bool,R5 bz5 ->((bz5=true ->r=3) /\ (bz5=false ->∃R6:Bool ->Prop,(∀bz6:Bool,R6 bz6 ->((bz6=true ->r=3) /\ (bz6=false ->∃R7:Bool ->Prop,(∀bz7:Bool,R7 bz7 ->(∃R8:Bool ->Prop,(∀bz8:Bool,R8 bz8 ->((bz8=true ->r=4) /\ (bz8=false ->∃R9:Bool ->Prop,(∀bz9:Bool,R9 bz9 ->((bz9=true ->r=4) /\ (bz9=false ->∃R10:Bool ->Prop,(∀bz10:Bool,R10 bz10 ->((bz10=true ->∃y11,a2d s (wI (i+2)) 2 y11 /\ ((y11=true ->r=4) /\ (y11=false ->r=0))) /\ (bz10=false ->r=0))) /\ ((((H4 s i.toNat)==244)=true ->∃y10,a0d s (wI (i+1)) 128 143 y10 /\ (R10 y10)) /\ (((H4 s i.toNat)==244)=false ->R10 false))))) /\ ((((decide (241<=(H4 s i.toNat)))&&(decide ((H4 s i.toNat)<=243)))=true ->∃y9,a2d s (wI (i+1)) 3 y9 /\ (R9 y9)) /\ (((decide (241<=(H4 s i.toNat)))&&(decide ((H4 s i.toNat)<=243)))=false ->R9 false))))) /\ ((bz7=true ->∃y8,a2d s (wI (i+2)) 2 y8 /\ (R8 y8)) /\ (bz7=false ->R8 false)))) /\ ((((H4 s i.toNat)==240)=true ->∃y7,a0d s (wI (i+1)) 144 191 y7 /\ (R7 y7)) /\ (((H4 s i.toNat)==240)=false ->R7 false))))) /\ (((((decide (225<=(H4 s i.toNat)))&&(decide ((H4 s i.toNat)<=239)))&&((H4 s i.toNat) !=237))=true ->∃y6,a2d s (wI (i+1)) 2 y6 /\ (R6 y6)) /\ ((((decide (225<=(H4 s i.toNat)))&&(decide ((H4 s i.toNat)<=239)))&&((H4 s i.toNat) !=237))=false ->R6 false))))) /\ ((bz4=true ->∃y5,a2d s (wI (i+2)) 1 y5 /\ (R5 y5)) /\ (bz4=false ->R5 false)))) /\ ((((H4 s i.toNat)==237)=true ->∃y4,a0d s (wI (i+1)) 128 159 y4 /\ (R4 y4)) /\ (((H4 s i.toNat)==237)=false ->R4 false))))) /\ ((bz2=true ->∃y3,a2d s (wI (i+2)) 1 y3 /\ (R3 y3)) /\ (bz2=false ->R3 false)))) /\ ((((H4 s i.toNat)==224)=true ->∃y2,a0d s (wI (i+1)) 160 191 y2 /\ (R2 y2)) /\ (((H4 s i.toNat)==224)=false ->R2 false))))) /\ ((((decide (194<=(H4 s i.toNat)))&&(decide ((H4 s i.toNat)<=223)))=true ->∃y1,a2d s (wI (i+1)) 1 y1 /\ (R1 y1)) /\ (((decide (194<=(H4 s i.toNat)))&&(decide ((H4 s i.toNat)<=223)))=false ->R1 false))))):c2x s i r:=
 fP (KIS 9 hw fun hw=>KW 12 hw (fun _ hw=>KR 8 hw b8w) fun _ hw=>KT 5 3<|KQ 1 5 kB hw (fun _ hw=>KW 3 hw (fun _ hw=>KR 8 hw b8w) fun _ hw=>KQ 5 5 kB hw (fun _ hw=>KQ 1 5 kB hw (fun _ hw=>KW 3 hw (fun _ hw=>KR 8 hw b8w) fun _ hw=>KQ 5 5 kB hw (fun _ hw=>KQ 1 5 kB hw (fun _ hw=>KW 3 hw (fun _ hw=>KR 8 hw b8w) fun _ hw=>KT 5 3<|KT 1 3<|KQ 1 5 kB hw (fun _ hw=>KW 3 hw (fun _ hw=>KR 8 hw b8w) fun _ hw=>KQ 5 5 kB hw (fun _ hw=>KQ 1 5 kB hw (fun _ hw=>KW 3 hw (fun _ hw=>KR 8 hw b8w) fun _ hw=>KT 5 3<|KQ 1 5 kB hw (fun _ hw=>KW 3 hw (fun _ hw=>KR 8 hw b8w) fun _ hw=>KQ 5 5 kB hw (fun _ hw=>KW 1 hw (fun _ hw=>KC 3 hw d6a fun _ hw=>KW 4 hw (fun _ hw=>KR 8 hw b8w) fun _ hw=>KR 9 hw b8w) fun _ hw=>KR 18 hw b8w) (fun _ key _ hw=>KC 3 hw e2o fun _ hw=>KE 1 key hw) fun _ key _ hw=>KE 5 key hw) (fun _ key _ hw=>KC 3 hw d6a fun _ hw=>KE 1 key hw) fun _ key _ hw=>KE 5 key hw) (fun _ key _ hw=>KC 3 hw d6a fun _ hw=>KE 1 key hw) fun _ key _ hw=>KE 5 key hw) (fun _ key _ hw=>KC 3 hw e2o fun _ hw=>KE 1 key hw) fun _ key _ hw=>KE 5 key hw) (fun _ key _ hw=>KC 3 hw d6a fun _ hw=>KE 1 key hw) fun _ key _ hw=>KE 5 key hw) (fun _ key _ hw=>KC 3 hw d6a fun _ hw=>KE 1 key hw) fun _ key _ hw=>KE 5 key hw) (fun _ key _ hw=>KC 3 hw e2o fun _ hw=>KE 1 key hw) fun _ key _ hw=>KE 5 key hw) (fun _ key _ hw=>KC 3 hw d6a fun _ hw=>KE 1 key hw) fun _ key _ hw=>KE 5 key hw) (fun _ key _ hw=>KC 3 hw e2o fun _ hw=>KE 1 key hw) fun _ key _ hw=>KE 5 key hw) (fun _ key _ hw=>KC 3 hw d6a fun _ hw=>KE 1 key hw) fun _ key _ hw=>KE 5 key hw)
theorem c9e (r:Int):plain (g70 r)=true:=rfl
theorem d0g (a:P6) (b:P6) (r:Int) (hw:((a.Num !=b.Num)=true ->∃y1,O9 a.Num b.Num y1 /\ (r=y1)) /\ ((a.Num !=b.Num)=false ->((a.Wire !=b.Wire)=true ->∃y2,O9 a.Wire b.Wire y2 /\ (r=y2)) /\ ((a.Wire !=b.Wire)=false ->((decide (a.Bits<b.Bits))=true ->r=(-1)) /\ ((decide (a.Bits<b.Bits))=false ->((decide (b.Bits<a.Bits))=true ->r=1) /\ ((decide (b.Bits<a.Bits))=false ->((Op.bytesLess a.Data.toList b.Data.toList)=true ->r=(-1)) /\ ((Op.bytesLess a.Data.toList b.Data.toList)=false ->((!(Op.bytesLess a.Data.toList b.Data.toList||a.Data.toList==b.Data.toList))=true ->r=1) /\ ((!(Op.bytesLess a.Data.toList b.Data.toList||a.Data.toList==b.Data.toList))=false ->r=0))))))):c8z a b r:=
 fP (KW 19 hw (fun _ hw=>KC 6 hw d3q fun _ hw=>KR 6 hw c9e) fun _ hw=>KW 10 hw (fun _ hw=>KC 6 hw d3q fun _ hw=>KR 6 hw c9e) fun _ hw=>KW 10 hw (fun _ hw=>KR 8 hw c9e) fun _ hw=>KW 10 hw (fun _ hw=>KR 8 hw c9e) fun _ hw=>KW 10 hw (fun _ hw=>KR 8 hw c9e) fun _ hw=>KW 10 hw (fun _ hw=>KR 8 hw c9e) fun _ hw=>KR 9 hw c9e)
theorem d5e (r:Int):plain (g85 r)=true:=rfl
theorem c7c (v:A0) (r:Int) (hw:∃y1,c46 v.Kind y1 /\ ((y1=true ->r=(wU (v.Bits+9223372036854775808))) /\ (y1=false ->((v.Kind !=6)=true ->r=v.Bits) /\ ((v.Kind !=6)=false ->∃y2,b4o v.Bits y2 /\ (((y2==0)=true ->r=18446744073709551615) /\ ((y2==0)=false ->((decide (9223372036854775808<=v.Bits))=true ->r=(wU (18446744073709551615 - v.Bits))) /\ ((decide (9223372036854775808<=v.Bits))=false ->r=(wU (v.Bits+9223372036854775808))))))))):a9u v r:=
 fP (KC 12 hw g4u fun _ hw=>KW 3 hw (fun _ hw=>KR 11 hw d5e) fun _ hw=>KW 8 hw (fun _ hw=>KR 10 hw d5e) fun _ hw=>KC 4 hw g8v fun _ hw=>KW 4 hw (fun _ hw=>KR 8 hw d5e) fun _ hw=>KW 8 hw (fun _ hw=>KR 11 hw d5e) fun _ hw=>KR 12 hw d5e)
theorem d1r (r:Int):plain (g6i r)=true:=rfl
def V9 (ij1:Int) (v:A0) (level:Int) (x:C5) (o_:GOp) (r:Int):Prop:=J Tryz.prog 186 (.ret (g6i r)) 9 [(26,aI ij1),(25,aI (v.List_.length:Int)),(24,.sl (List.map B9 v.List_) .no),(5,.ptr 1 0),(4,.ptr 0 0),(3,aI level)] ⟨[some (B0 x.p),some (U2 o_)],[],[]⟩
theorem a2l {ij1:Int} {v:A0} {level:Int} {x:C5} {o_:GOp}:a6c [true,true] 0 [(26,aI ij1),(25,aI (v.List_.length:Int)),(24,.sl (List.map B9 v.List_) .no),(5,.ptr 1 0),(4,.ptr 0 0),(3,aI level)]=true /\ a4b [true,true] 0 [some (B0 x.p),some (U2 o_)]=true:=⟨by first|rfl|simp,by first|rfl|simp⟩
theorem a1p (ij1:Int) (v:A0) (level:Int) (x:C5) (o_:GOp) (r:Int) (hw:((decide (ij1<(v.List_.length:Int)))=true ->∃y4,v.List_[ij1.toNat]? =some y4 /\ 0<=ij1 /\ (∃y5,X0 x o_ y4 level y5 /\ (((y5 !=0)=true ->r=y5) /\ ((y5 !=0)=false ->V9 (wI (ij1+1)) v level x o_ r)))) /\ ((decide (ij1<(v.List_.length:Int)))=false ->r=0)):V9 ij1 v level x o_ r:=
 KW 7 hw (fun _ hw=>KI 6 E4 hw fun _ hw=>KC 11 hw f7y fun _ hw=>KW 9 hw (fun _ hw=>KR 14 hw d1r) fun _ hw=>KJl 8 [] hw a2l) fun _ hw=>KR 13 hw d1r
theorem b3w (x:C5) (o_:GOp) (v:A0) (level:Int) (r:Int) (hw:((o_.Card==4)=true ->∃R1:Bool ->Prop,(∀bz1:Bool,R1 bz1 ->((bz1=true ->r=12) /\ (bz1=false ->V9 0 v level x o_ r))) /\ (((v.Kind !=11)=true ->R1 true) /\ ((v.Kind !=11)=false ->∃y1,a9s v y1 /\ (R1 y1)))) /\ ((o_.Card==4)=false ->((o_.Card==5)=true ->∃R2:Bool ->Prop,(∀bz2:Bool,R2 bz2 ->((bz2=true ->r=12) /\ (bz2=false ->∃y7,a1l x o_ v.Pairs level y7 /\ (r=y7)))) /\ (((v.Kind !=12)=true ->R2 true) /\ ((v.Kind !=12)=false ->∃y6,a9s v y6 /\ (R2 y6)))) /\ ((o_.Card==5)=false ->∃y8,X0 x o_ v level y8 /\ (r=y8)))):a4l x o_ v level r:=
 fP (KW 22 hw (fun _ hw=>KQ 7 3 kB hw (fun _ hw=>KW 2 hw (fun _ hw=>KR 9 hw d1r) fun _ hw=>KL 7 E4 v.List_<|KJl 5 [] hw a2l) (fun _ key _ hw=>KE 3 key hw) fun _ key _ hw=>KC 1 hw f1r fun _ hw=>KE 1 key hw) fun _ hw=>KW 6 hw (fun _ hw=>KQ 7 3 kB hw (fun _ hw=>KW 2 hw (fun _ hw=>KR 9 hw d1r) fun _ hw=>KC 9 hw g4y fun _ hw=>KR 6 hw d1r) (fun _ key _ hw=>KE 3 key hw) fun _ key _ hw=>KC 1 hw f1r fun _ hw=>KE 1 key hw) fun _ hw=>KC 9 hw f7y fun _ hw=>KR 4 hw d1r)
theorem f2g (r:Int):plain (g6h r)=true:=rfl
def M5 (ij1:Int) (s:(List (Int × A0))) (f:GFn) (r:Int):Prop:=JP Tryz.prog 187 (g6h r) 3 [(8,aI ij1),(7,aI (s.length:Int)),(0,.sl (List.map A9 s) .no),(1,.clo (.func f.fn) f.fi f.cap)]
theorem a30 (ij1:Int) (s:(List (Int × A0))) (f:GFn) (r:Int) (hw:((decide (ij1<(s.length:Int)))=true ->∃y3,s[ij1.toNat]? =some y3 /\ 0<=ij1 /\ (∃y4,a41 Tryz.prog [] (.clo (.func f.fn) f.fi f.cap) [.agg (U5 y3)] (aB y4) /\ ((y4=true ->r=ij1) /\ (y4=false ->M5 (wI (ij1+1)) s f r)))) /\ ((decide (ij1<(s.length:Int)))=false ->r=(-1))):M5 ij1 s f r:=
 KW 7 hw (fun _ hw=>KI 15 B7 hw fun _ hw=>KF 1 hw fun _ hw=>KW 2 hw (fun _ hw=>KR 12 hw f2g) fun _ hw=>KJ 8 [] hw) fun _ hw=>KR 11 hw f2g
theorem a58 (s:(List (Int × A0))) (f:GFn) (r:Int) (hw:M5 0 s f r):a17 s f r:=
 fP (KL 9 B7 s<|KJ 5 [] hw)
theorem a4w (s:(List A0)) (hw:s.length*128<=140737488355328):a0l s:=e2v E4 hw
def N1 (ij17:Int) (ij18:Int) (ij15:Int) (n0:Nat) (n:Int) (cmp:GFn) (lj19:(List (Int × A0))) (r:(List (Int × A0))):Prop:=J Tryz.prog 189 (.io 0 (.tuple []) (cellsOf A9 r) []) 14 [(8,aI ij17),(7,aI ij18),(6,aI ij15),(0,.row 0 0 8 n0 n0),(1,aI n),(2,.clo (.func cmp.fn) cmp.fi cmp.cap)] ⟨[some (cellsOf A9 lj19)],[],[]⟩
def H6 (ij15:Int) (n0:Nat) (n:Int) (cmp:GFn) (lj16:(List (Int × A0))) (r:(List (Int × A0))):Prop:=J Tryz.prog 189 (.io 0 (.tuple []) (cellsOf A9 r) []) 9 [(6,aI ij15),(0,.row 0 0 8 n0 n0),(1,aI n),(2,.clo (.func cmp.fn) cmp.fi cmp.cap)] ⟨[some (cellsOf A9 lj16)],[],[]⟩
def O1 (ij9:Int) (ij10:Int) (n0:Nat) (n:Int) (cmp:GFn) (lj11:(List (Int × A0))) (r:(List (Int × A0))):Prop:=J Tryz.prog 189 (.io 0 (.tuple []) (cellsOf A9 r) []) 3 [(8,aI ij9),(7,aI ij10),(6,aI 20),(0,.row 0 0 8 n0 n0),(1,aI n),(2,.clo (.func cmp.fn) cmp.fi cmp.cap)] ⟨[some (cellsOf A9 lj11)],[],[]⟩
theorem a42 (ij17:Int) (ij18:Int) (ij15:Int) (n0:Nat) (n:Int) (cmp:GFn) (lj19:(List (Int × A0))) (r:(List (Int × A0))) (hw:((decide (ij17<=n))=true ->∃y19,F1 n0 lj19 ij18 (wI (ij18+ij15)) ij17 cmp y19 /\ (lj19≠[] /\ y19≠[]) /\ (N1 (wI (ij17+(wI (2*ij15)))) ij17 ij15 n0 n cmp y19 r)) /\ ((decide (ij17<=n))=false ->((decide ((wI (ij18+ij15))<n))=true ->∃y18,F1 n0 lj19 ij18 (wI (ij18+ij15)) n cmp y18 /\ (lj19≠[] /\ y18≠[]) /\ (H6 (wI (ij15*2)) n0 n cmp y18 r)) /\ ((decide ((wI (ij18+ij15))<n))=false ->H6 (wI (ij15*2)) n0 n cmp lj19 r))):N1 ij17 ij18 ij15 n0 n cmp lj19 r:=
 KW 9 hw (fun _ hw=>KRO 12 B7 hw d9f fun _ hw=>KJ 17 [] hw) fun _ hw=>KW 21 hw (fun _ hw=>KRO 6 B7 hw d9f fun _ hw=>KJ 9 [] hw) fun _ hw=>KJ 9 [] hw
theorem a4z (ij15:Int) (n0:Nat) (n:Int) (cmp:GFn) (lj16:(List (Int × A0))) (r:(List (Int × A0))) (hw:((decide (ij15<n))=true ->N1 (wI (2*ij15)) 0 ij15 n0 n cmp lj16 r) /\ ((decide (ij15<n))=false ->lj16≠[] /\ r=lj16)):H6 ij15 n0 n cmp lj16 r:=
 KW 9 hw (fun _ hw=>KJ 14 [] hw) fun _ hw=>KRr 4 B7 hw
theorem a50 (ij9:Int) (ij10:Int) (n0:Nat) (n:Int) (cmp:GFn) (lj11:(List (Int × A0))) (r:(List (Int × A0))) (hw:((decide (ij9<=n))=true ->∃y20,J4 n0 lj11 ij10 ij9 cmp y20 /\ (lj11≠[] /\ y20≠[]) /\ (O1 (wI (ij9+20)) ij9 n0 n cmp y20 r)) /\ ((decide (ij9<=n))=false ->∃y11,J4 n0 lj11 ij10 n cmp y11 /\ (lj11≠[] /\ y11≠[]) /\ (H6 20 n0 n cmp y11 r))):O1 ij9 ij10 n0 n cmp lj11 r:=
 KW 9 hw (fun _ hw=>KRO 9 B7 hw f4a fun _ hw=>KJ 16 [] hw) fun _ hw=>KRO 11 B7 hw f4a fun _ hw=>KJ 4 [] hw
theorem a8g (n0:Nat) (data:(List (Int × A0))) (n:Int) (cmp:GFn) (r:(List (Int × A0))) (hw:O1 20 0 n0 n cmp data r):X7 n0 data n cmp r:=
 fRO (KJ 15 [] hw)
theorem f3k (r:Int):plain (g6e r)=true:=rfl
def P4 (ij1:Int) (s:(List GOp)) (f:GFn) (r:Int):Prop:=JP Tryz.prog 190 (g6e r) 3 [(8,aI ij1),(7,aI (s.length:Int)),(0,.sl (List.map U2 s) .no),(1,.clo (.func f.fn) f.fi f.cap)]
theorem K0 (ij1:Int) (s:(List GOp)) (f:GFn) (r:Int) (hw:((decide (ij1<(s.length:Int)))=true ->∃y3,s[ij1.toNat]? =some y3 /\ 0<=ij1 /\ (∃y4,a41 Tryz.prog [] (.clo (.func f.fn) f.fi f.cap) [.agg (U2 y3)] (aB y4) /\ ((y4=true ->r=ij1) /\ (y4=false ->P4 (wI (ij1+1)) s f r)))) /\ ((decide (ij1<(s.length:Int)))=false ->r=(-1))):P4 ij1 s f r:=
 KW 7 hw (fun _ hw=>KI 15 b5u hw fun _ hw=>KF 1 hw fun _ hw=>KW 2 hw (fun _ hw=>KR 12 hw f3k) fun _ hw=>KJ 8 [] hw) fun _ hw=>KR 11 hw f3k
theorem a9d (s:(List GOp)) (f:GFn) (r:Int) (hw:P4 0 s f r):a5i s f r:=
 fP (KL 9 b5u s<|KJ 5 [] hw)
theorem f2a (r:(List (A0 × A0))):plain (g9q r)=true:=(psl (D3 r))
theorem a9h (s:(List (A0 × A0))) (r:(List (A0 × A0))) (hw:∀bj1:Bool,(s≠[] ->bj1=false) ->((bj1=true ->r=([]:(List (A0 × A0)))) /\ (bj1=false ->(([]:List (A0 × A0)).length+s.length)*256<=140737488355328 /\ (r=(([]:List (A0 × A0))++s))))):a5l s r:=
 fP (KN 9 B4 hw fun _ hw=>KW 2 hw (fun _ hw=>KR 7 hw f2a) fun _ hw=>KAf 6 B4 hw mF xE fun hw=>KR 4 hw f2a)
theorem a55 (s:(List (A0 × A0))) (hw:s≠[] /\ s.length*256<=140737488355328):a1r s:=d50 B4 hw
theorem a21 (n0:Nat) (x:(List (A0 × A0))) (cmp:GFn) (r:(List (A0 × A0))) (hw:∃y1,X5 n0 x (n0:Int) cmp y1 /\ (x≠[] /\ y1≠[]) /\ (y1≠[] /\ r=y1)):P3 n0 x cmp r:=
 fRO (KRO 5 B4 hw f9a fun _ hw=>KRr 1 B4 hw)
theorem g1l (r:Int):plain (g8y r)=true:=rfl
theorem c0i (a:(A0 × A0)) (b:(A0 × A0)) (r:Int) (hw:∃y1,b0t a.1 b.1 y1 /\ (r=y1)):d2x a b r:=
 fP (KC 13 hw e4o fun _ hw=>KR 4 hw g1l)
theorem g1y (r:Bool):plain (g9e r)=true:=rfl
theorem b45 (a:A0) (b:A0) (r:Bool) (hw:∃y1,b0t a b y1 /\ (r=(y1==0))):b1d a b r:=
 fP (KC 11 hw e4o fun _ hw=>KR 5 hw g1y)
end
section
attribute [local irreducible] Ok run put d3o br jn pos dr0 dr1 So
attribute [-simp] List.map_take List.map_drop List.map_append List.map_set List.map_replicate List.map_cons List.map_map
attribute [local simp] plain plainL a6c a4b W8 low lowL lowLL M1 F8 G2 F7 M4 G5 G0 F9 L8 T0 Z9 S8 a09 M7 T4 E6 H8 O7 G8 A7 E0 O2 D3 N9 D8 O3 L3 S6 L0 T7 N4 U6 P9 C6 T3 L4 I2 Q9 N2 T9 O6 H9 F2 W4 U3 Z1 V3 G1 S4 a00 a0b a8e a4o c7k d7h c7p c8f a7o a9g c8u c9m b5s c2j e2h eFn c1f b6g b58 b7e c2m b5x b7p b7i c1x c79 c8g b68 c1y b3i b54 b6z b7l b6b b7g b6v b57 a7l b1c b01 a1o b0l b07 a5h a96 b3u c8a c1s c03 b6w b59 b65 c02 b7n b69 b6d c1t c7s c9z b7j c1m b3g b53 b6a b7k b6f b7q b7b b5w a8a b0y b0u a1s b08 a94 a51 b1b b26 c7i b5y c16 b3v b5r b61 b55 b5m b6o b6s b6e a75 b0s b00 a16 b04 b05 a5p b02 b3r d42
theorem d5h (r:b74):plain (g72 r)=true:=(c7k r)
theorem b9u (v:A0) (r:b74) (hw:∃y1,b7o v.Kind y1 /\ ((y1=true ->r=(b74.a_order_one v)) /\ (y1=false ->((v.Kind==11)=true ->r=(b74.a_order_list v.List_)) /\ ((v.Kind==11)=false ->((v.Kind==12)=true ->r=(b74.a_order_pairs v.Pairs)) /\ ((v.Kind==12)=false ->((v.Kind==10)=true ->r=(b74.a_order_parts (⟨v.Slots,v.Raws⟩:b8z))) /\ ((v.Kind==10)=false ->r=b74.nil)))))):a7c v r:=
 fP (KC 12 hw g27 fun _ hw=>KW 3 hw (fun _ hw=>KR 10 hw d5h) fun _ hw=>KW 8 hw (fun _ hw=>KR 11 hw d5h) fun _ hw=>KW 8 hw (fun _ hw=>KR 11 hw d5h) fun _ hw=>KW 8 hw (fun _ hw=>KR 14 hw d5h) fun _ hw=>KR 9 hw d5h)
theorem d1e (r:Int):plain (g8n r)=true:=rfl
theorem c7m (a:A0) (b:A0) (r:Int) (hw:((a.Kind !=b.Kind)=true ->∃y1,O5 a.Kind b.Kind y1 /\ (r=y1)) /\ ((a.Kind !=b.Kind)=false ->∃y2,b7o a.Kind y2 /\ (((!y2)=true ->r=0) /\ ((!y2)=false ->∃y3,b7c a.Kind y3 /\ ((y3=true ->∃y4,a06 a.Text b.Text y4 /\ (r=y4)) /\ (y3=false ->(((a.Kind==2)||(a.Kind==3))=true ->∃y5,O5 (wI a.Bits) (wI b.Bits) y5 /\ (r=y5)) /\ (((a.Kind==2)||(a.Kind==3))=false ->((a.Kind==6)=true ->∃y6,b2i a.Bits y6 /\ (∃y7,b2i b.Bits y7 /\ (∃y8,W7 y6 y7 y8 /\ (r=y8)))) /\ ((a.Kind==6)=false ->∃y9,W7 a.Bits b.Bits y9 /\ (r=y9))))))))):c3g a b r:=
 fP (KW 19 hw (fun _ hw=>KC 6 hw d7q fun _ hw=>KR 6 hw d1e) fun _ hw=>KC 4 hw g27 fun _ hw=>KW 4 hw (fun _ hw=>KR 8 hw d1e) fun _ hw=>KC 4 hw g1c fun _ hw=>KW 3 hw (fun _ hw=>KC 6 hw g2r fun _ hw=>KR 6 hw d1e) fun _ hw=>KT 6 4<|KW 3 hw (fun _ hw=>KC 8 hw d7q fun _ hw=>KR 6 hw d1e) fun _ hw=>KW 8 hw (fun _ hw=>KD 1 [0,1]<|KC 2 hw g1o fun _ hw=>KC 2 hw g1o fun _ hw=>KC 0 hw f77 fun _ hw=>KR 7 hw d1e) fun _ hw=>KC 9 hw f77 fun _ hw=>KR 4 hw d1e)
theorem d8h (r:Int):plain (g4v r)=true:=rfl
def C8 (ij1:Int) (s1_:(List A0)) (s2_:(List A0)) (cmp:GFn) (r:Int):Prop:=JP Tryz.prog 199 (g4v r) 3 [(13,aI ij1),(12,aI (s1_.length:Int)),(11,.sl (List.map B9 s1_) .no),(0,.sl (List.map B9 s1_) .no),(1,.sl (List.map B9 s2_) .no),(2,.clo (.func cmp.fn) cmp.fi cmp.cap)]
theorem Q7 {ij1:Int} {s1_:(List A0)} {s2_:(List A0)} {cmp:GFn}:a6c [] 0 [(13,aI ij1),(12,aI (s1_.length:Int)),(11,.sl (List.map B9 s1_) .no),(0,.sl (List.map B9 s1_) .no),(1,.sl (List.map B9 s2_) .no),(2,.clo (.func cmp.fn) cmp.fi cmp.cap)]=true /\ a4b [] 0 []=true:=⟨by first|rfl|simp,by first|rfl|simp⟩
theorem P7 (ij1:Int) (s1_:(List A0)) (s2_:(List A0)) (cmp:GFn) (r:Int) (hw:((decide (ij1<(s1_.length:Int)))=true ->∃y4,s1_[ij1.toNat]? =some y4 /\ 0<=ij1 /\ (((decide ((s2_.length:Int)<=ij1))=true ->r=1) /\ ((decide ((s2_.length:Int)<=ij1))=false ->∃y5,s2_[ij1.toNat]? =some y5 /\ 0<=ij1 /\ (∃y6,a41 Tryz.prog [] (.clo (.func cmp.fn) cmp.fi cmp.cap) [.agg (A4 y4),.agg (A4 y5)] (aI y6) /\ (((y6 !=0)=true ->r=y6) /\ ((y6 !=0)=false ->C8 (wI (ij1+1)) s1_ s2_ cmp r)))))) /\ ((decide (ij1<(s1_.length:Int)))=false ->((decide ((s1_.length:Int)<(s2_.length:Int)))=true ->r=(-1)) /\ ((decide ((s1_.length:Int)<(s2_.length:Int)))=false ->r=0))):C8 ij1 s1_ s2_ cmp r:=
 KW 7 hw (fun _ hw=>KI 7 E4 hw fun _ hw=>KL 11 E4 s2_<|KW 3 hw (fun _ hw=>KR 12 hw d8h) fun _ hw=>KI 6 E4 hw fun _ hw=>KF 10 hw fun _ hw=>KW 9 hw (fun _ hw=>KR 12 hw d8h) fun _ hw=>KJl 8 [] hw Q7) fun _ hw=>KL 9 E4 s1_<|KL 1 E4 s2_<|KW 3 hw (fun _ hw=>KR 7 hw d8h) fun _ hw=>KR 8 hw d8h
theorem T5 (s1_:(List A0)) (s2_:(List A0)) (cmp:GFn) (r:Int) (hw:C8 0 s1_ s2_ cmp r):J2 s1_ s2_ cmp r:=
 fP (KL 9 E4 s1_<|KJ 5 [] hw)
theorem d95 (r:Int):plain (g65 r)=true:=rfl
def C7 (ij1:Int) (s1_:(List (A0 × A0))) (s2_:(List (A0 × A0))) (cmp:GFn) (r:Int):Prop:=JP Tryz.prog 200 (g65 r) 3 [(13,aI ij1),(12,aI (s1_.length:Int)),(11,.sl (List.map A8 s1_) .no),(0,.sl (List.map A8 s1_) .no),(1,.sl (List.map A8 s2_) .no),(2,.clo (.func cmp.fn) cmp.fi cmp.cap)]
theorem Q6 {ij1:Int} {s1_:(List (A0 × A0))} {s2_:(List (A0 × A0))} {cmp:GFn}:a6c [] 0 [(13,aI ij1),(12,aI (s1_.length:Int)),(11,.sl (List.map A8 s1_) .no),(0,.sl (List.map A8 s1_) .no),(1,.sl (List.map A8 s2_) .no),(2,.clo (.func cmp.fn) cmp.fi cmp.cap)]=true /\ a4b [] 0 []=true:=⟨by first|rfl|simp,by first|rfl|simp⟩
theorem P5 (ij1:Int) (s1_:(List (A0 × A0))) (s2_:(List (A0 × A0))) (cmp:GFn) (r:Int) (hw:((decide (ij1<(s1_.length:Int)))=true ->∃y4,s1_[ij1.toNat]? =some y4 /\ 0<=ij1 /\ (((decide ((s2_.length:Int)<=ij1))=true ->r=1) /\ ((decide ((s2_.length:Int)<=ij1))=false ->∃y5,s2_[ij1.toNat]? =some y5 /\ 0<=ij1 /\ (∃y6,a41 Tryz.prog [] (.clo (.func cmp.fn) cmp.fi cmp.cap) [.agg (S3 y4),.agg (S3 y5)] (aI y6) /\ (((y6 !=0)=true ->r=y6) /\ ((y6 !=0)=false ->C7 (wI (ij1+1)) s1_ s2_ cmp r)))))) /\ ((decide (ij1<(s1_.length:Int)))=false ->((decide ((s1_.length:Int)<(s2_.length:Int)))=true ->r=(-1)) /\ ((decide ((s1_.length:Int)<(s2_.length:Int)))=false ->r=0))):C7 ij1 s1_ s2_ cmp r:=
 KW 7 hw (fun _ hw=>KI 7 B4 hw fun _ hw=>KL 11 B4 s2_<|KW 3 hw (fun _ hw=>KR 12 hw d95) fun _ hw=>KI 6 B4 hw fun _ hw=>KF 10 hw fun _ hw=>KW 9 hw (fun _ hw=>KR 12 hw d95) fun _ hw=>KJl 8 [] hw Q6) fun _ hw=>KL 9 B4 s1_<|KL 1 B4 s2_<|KW 3 hw (fun _ hw=>KR 7 hw d95) fun _ hw=>KR 8 hw d95
theorem T1 (s1_:(List (A0 × A0))) (s2_:(List (A0 × A0))) (cmp:GFn) (r:Int) (hw:C7 0 s1_ s2_ cmp r):J1 s1_ s2_ cmp r:=
 fP (KL 9 B4 s1_<|KJ 5 [] hw)
theorem f9j (r:Int):plain (g9g r)=true:=rfl
theorem c1d (a:(A0 × A0)) (b:(A0 × A0)) (r:Int) (hw:∃y1,b0t a.1 b.1 y1 /\ (∃y2,b0t a.2 b.2 y2 /\ (∃y3,a9x ([y1,y2]:(List Int)) y3 /\ (r=y3)))):d21 a b r:=
 fP (KD 8 [0,1]<|KC 4 hw e4o fun _ hw=>KC 4 hw e4o fun _ hw=>KC 1 hw f1q fun _ hw=>KR 5 hw f9j)
theorem f3o (r:Int):plain (g52 r)=true:=rfl
def a9e (ij1:Int) (vals:(List Int)) (r:Int):Prop:=JP Tryz.prog 202 (g52 r) 4 [(8,aI ij1),(7,aI (vals.length:Int)),(6,.sl (List.map a7o vals) .no),(3,aI 0)]
theorem a46 (ij1:Int) (vals:(List Int)) (r:Int) (hw:((decide (ij1<(vals.length:Int)))=true ->∃y2,vals[ij1.toNat]? =some y2 /\ 0<=ij1 /\ (((y2 !=0)=true ->r=y2) /\ ((y2 !=0)=false ->a9e (wI (ij1+1)) vals r))) /\ ((decide (ij1<(vals.length:Int)))=false ->r=0)):a9e ij1 vals r:=
 KW 7 hw (fun _ hw=>KI 6 f3q hw fun _ hw=>KW 11 hw (fun _ hw=>KR 12 hw f3o) fun _ hw=>KJ 8 [] hw) fun _ hw=>KR 12 hw f3o
theorem c71 (vals:(List Int)) (r:Int) (hw:a9e 0 vals r):a9x vals r:=
 fP (KL 14 f3q vals<|KJ 5 [] hw)
theorem d9p (r:Int):plain (g3v r)=true:=rfl
def E2 (ij1:Int) (s1_:(List (Int × A0))) (s2_:(List (Int × A0))) (cmp:GFn) (r:Int):Prop:=JP Tryz.prog 203 (g3v r) 3 [(13,aI ij1),(12,aI (s1_.length:Int)),(11,.sl (List.map A9 s1_) .no),(0,.sl (List.map A9 s1_) .no),(1,.sl (List.map A9 s2_) .no),(2,.clo (.func cmp.fn) cmp.fi cmp.cap)]
theorem X6 {ij1:Int} {s1_:(List (Int × A0))} {s2_:(List (Int × A0))} {cmp:GFn}:a6c [] 0 [(13,aI ij1),(12,aI (s1_.length:Int)),(11,.sl (List.map A9 s1_) .no),(0,.sl (List.map A9 s1_) .no),(1,.sl (List.map A9 s2_) .no),(2,.clo (.func cmp.fn) cmp.fi cmp.cap)]=true /\ a4b [] 0 []=true:=⟨by first|rfl|simp,by first|rfl|simp⟩
theorem X4 (ij1:Int) (s1_:(List (Int × A0))) (s2_:(List (Int × A0))) (cmp:GFn) (r:Int) (hw:((decide (ij1<(s1_.length:Int)))=true ->∃y4,s1_[ij1.toNat]? =some y4 /\ 0<=ij1 /\ (((decide ((s2_.length:Int)<=ij1))=true ->r=1) /\ ((decide ((s2_.length:Int)<=ij1))=false ->∃y5,s2_[ij1.toNat]? =some y5 /\ 0<=ij1 /\ (∃y6,a41 Tryz.prog [] (.clo (.func cmp.fn) cmp.fi cmp.cap) [.agg (U5 y4),.agg (U5 y5)] (aI y6) /\ (((y6 !=0)=true ->r=y6) /\ ((y6 !=0)=false ->E2 (wI (ij1+1)) s1_ s2_ cmp r)))))) /\ ((decide (ij1<(s1_.length:Int)))=false ->((decide ((s1_.length:Int)<(s2_.length:Int)))=true ->r=(-1)) /\ ((decide ((s1_.length:Int)<(s2_.length:Int)))=false ->r=0))):E2 ij1 s1_ s2_ cmp r:=
 KW 7 hw (fun _ hw=>KI 7 B7 hw fun _ hw=>KL 11 B7 s2_<|KW 3 hw (fun _ hw=>KR 12 hw d9p) fun _ hw=>KI 6 B7 hw fun _ hw=>KF 10 hw fun _ hw=>KW 9 hw (fun _ hw=>KR 12 hw d9p) fun _ hw=>KJl 8 [] hw X6) fun _ hw=>KL 9 B7 s1_<|KL 1 B7 s2_<|KW 3 hw (fun _ hw=>KR 7 hw d9p) fun _ hw=>KR 8 hw d9p
theorem Z0 (s1_:(List (Int × A0))) (s2_:(List (Int × A0))) (cmp:GFn) (r:Int) (hw:E2 0 s1_ s2_ cmp r):R0 s1_ s2_ cmp r:=
 fP (KL 9 B7 s1_<|KJ 5 [] hw)
theorem g16 (r:Int):plain (g8h r)=true:=rfl
theorem c06 (a:(Int × A0)) (b:(Int × A0)) (r:Int) (hw:∃y1,O5 a.1 b.1 y1 /\ (∃y2,b0t a.2 b.2 y2 /\ (∃y3,a9x ([y1,y2]:(List Int)) y3 /\ (r=y3)))):d2k a b r:=
 fP (KD 8 [0,1]<|KC 4 hw d7q fun _ hw=>KC 4 hw e4o fun _ hw=>KC 1 hw f1q fun _ hw=>KR 5 hw g16)
theorem d9m (r:Int):plain (g5e r)=true:=rfl
def E5 (ij1:Int) (s1_:(List P6)) (s2_:(List P6)) (cmp:GFn) (r:Int):Prop:=JP Tryz.prog 205 (g5e r) 3 [(13,aI ij1),(12,aI (s1_.length:Int)),(11,.sl (List.map I8 s1_) .no),(0,.sl (List.map I8 s1_) .no),(1,.sl (List.map I8 s2_) .no),(2,.clo (.func cmp.fn) cmp.fi cmp.cap)]
theorem a0i {ij1:Int} {s1_:(List P6)} {s2_:(List P6)} {cmp:GFn}:a6c [] 0 [(13,aI ij1),(12,aI (s1_.length:Int)),(11,.sl (List.map I8 s1_) .no),(0,.sl (List.map I8 s1_) .no),(1,.sl (List.map I8 s2_) .no),(2,.clo (.func cmp.fn) cmp.fi cmp.cap)]=true /\ a4b [] 0 []=true:=⟨by first|rfl|simp,by first|rfl|simp⟩
theorem Z5 (ij1:Int) (s1_:(List P6)) (s2_:(List P6)) (cmp:GFn) (r:Int) (hw:((decide (ij1<(s1_.length:Int)))=true ->∃y4,s1_[ij1.toNat]? =some y4 /\ 0<=ij1 /\ (((decide ((s2_.length:Int)<=ij1))=true ->r=1) /\ ((decide ((s2_.length:Int)<=ij1))=false ->∃y5,s2_[ij1.toNat]? =some y5 /\ 0<=ij1 /\ (∃y6,a41 Tryz.prog [] (.clo (.func cmp.fn) cmp.fi cmp.cap) [.agg (I8 y4),.agg (I8 y5)] (aI y6) /\ (((y6 !=0)=true ->r=y6) /\ ((y6 !=0)=false ->E5 (wI (ij1+1)) s1_ s2_ cmp r)))))) /\ ((decide (ij1<(s1_.length:Int)))=false ->((decide ((s1_.length:Int)<(s2_.length:Int)))=true ->r=(-1)) /\ ((decide ((s1_.length:Int)<(s2_.length:Int)))=false ->r=0))):E5 ij1 s1_ s2_ cmp r:=
 KW 7 hw (fun _ hw=>KI 7 a3y hw fun _ hw=>KL 11 a3y s2_<|KW 3 hw (fun _ hw=>KR 12 hw d9m) fun _ hw=>KI 6 a3y hw fun _ hw=>KF 10 hw fun _ hw=>KW 9 hw (fun _ hw=>KR 12 hw d9m) fun _ hw=>KJl 8 [] hw a0i) fun _ hw=>KL 9 a3y s1_<|KL 1 a3y s2_<|KW 3 hw (fun _ hw=>KR 7 hw d9m) fun _ hw=>KR 8 hw d9m
theorem a04 (s1_:(List P6)) (s2_:(List P6)) (cmp:GFn) (r:Int) (hw:E5 0 s1_ s2_ cmp r):U7 s1_ s2_ cmp r:=
 fP (KL 9 a3y s1_<|KJ 5 [] hw)
theorem g2t (r:Int):plain (g8z r)=true:=rfl
theorem c3s (a:P6) (b:P6) (r:Int) (hw:∃y1,O5 a.Num b.Num y1 /\ (∃y2,O5 a.Wire b.Wire y2 /\ (∃y3,W7 a.Bits b.Bits y3 /\ (∃y4,a06 a.Data b.Data y4 /\ (∃y5,a9x ([y1,y2,y3,y4]:(List Int)) y5 /\ (r=y5)))))):c4x a b r:=
 fP (KD 8 [0,1]<|KC 4 hw d7q fun _ hw=>KC 4 hw d7q fun _ hw=>KC 4 hw f77 fun _ hw=>KC 4 hw g2r fun _ hw=>KC 1 hw f1q fun _ hw=>KR 5 hw g2t)
theorem c9v (r:Int):plain (g9z r)=true:=rfl
theorem c3c (p:A6) (kind:Int) (target:Int) (v:A0) (r:Int) (hw:∃R1:Bool ->Prop,(∀bz1:Bool,R1 bz1 ->((bz1=true ->r=12) /\ (bz1=false ->((decide (4096<(v.Text.size:Int)))=true ->r=3) /\ ((decide (4096<(v.Text.size:Int)))=false ->∃R2:Bool ->Prop,(∀bz2:Bool,R2 bz2 ->((bz2=true ->r=7) /\ (bz2=false ->∃y3,b3c kind v y3 /\ (((!y3)=true ->r=12) /\ ((!y3)=false ->((kind==9)=true ->∃y4,a9n p target v.Bits y4 /\ (((!y4)=true ->r=16) /\ ((!y4)=false ->r=0))) /\ ((kind==9)=false ->r=0)))))) /\ (((kind==7)=true ->∃y2,b0r v.Text y2 /\ (R2 (!y2))) /\ ((kind==7)=false ->R2 false)))))) /\ (((v.Kind !=kind)=true ->R1 true) /\ ((v.Kind !=kind)=false ->∃y1,a6u v y1 /\ (R1 y1)))):b2e p kind target v r:=
 fP (KQ 16 3 kB hw (fun _ hw=>KW 3 hw (fun _ hw=>KR 8 hw c9v) fun _ hw=>KW 9 hw (fun _ hw=>KR 8 hw c9v) fun _ hw=>KQ 5 5 kB hw (fun _ hw=>KW 3 hw (fun _ hw=>KR 8 hw c9v) fun _ hw=>KC 4 hw g68 fun _ hw=>KW 4 hw (fun _ hw=>KR 8 hw c9v) fun _ hw=>KW 5 hw (fun _ hw=>KC 4 hw g75 fun _ hw=>KW 5 hw (fun _ hw=>KR 8 hw c9v) fun _ hw=>KR 9 hw c9v) fun _ hw=>KR 20 hw c9v) (fun _ key _ hw=>KC 2 hw g3i fun _ hw=>KE 2 key hw) fun _ key _ hw=>KE 5 key hw) (fun _ key _ hw=>KE 3 key hw) fun _ key _ hw=>KC 1 hw f13 fun _ hw=>KE 1 key hw)
theorem g0a (r:Bool):plain (g8m r)=true:=rfl
theorem c54 (b:Int) (r:Bool) (hw:r=((decide (97<=b))&&(decide (b<=122)))):b4y b r:=
 fP (KT 10 3<|KR 4 hw g0a)
theorem f9h (r:Bool):plain (g8b r)=true:=rfl
theorem c1c (b:Int) (r:Bool) (hw:r=((decide (65<=b))&&(decide (b<=90)))):a9b b r:=
 fP (KT 10 3<|KR 4 hw f9h)
theorem g0f (r:Bool):plain (g78 r)=true:=rfl
theorem b5i (s:ByteArray) (prefix_:ByteArray) (r:Bool) (hw:∃y1,Z8 s prefix_ y1 /\ (r=y1)):a60 s prefix_ r:=
 fP (KC 9 hw g4i fun _ hw=>KR 4 hw g0f)
theorem f3r (r:Bool):plain (g3u r)=true:=rfl
def a9m (ij1:Int) (s:ByteArray) (i:Int) (n:Int) (r:Bool):Prop:=JP Tryz.prog 211 (g3u r) 3 [(7,aI ij1),(0,aS s),(1,aI i),(2,aI n)]
theorem b1n (ij1:Int) (s:ByteArray) (i:Int) (n:Int) (r:Bool) (hw:((decide (ij1<n))=true ->∃y2,a0d s (wI (i+ij1)) 128 191 y2 /\ (((!y2)=true ->r=false) /\ ((!y2)=false ->a9m (wI (ij1+1)) s i n r))) /\ ((decide (ij1<n))=false ->r=true)):a9m ij1 s i n r:=
 KW 9 hw (fun _ hw=>KC 10 hw e2o fun _ hw=>KW 3 hw (fun _ hw=>KR 11 hw f3r) fun _ hw=>KJ 9 [] hw) fun _ hw=>KR 11 hw f3r
theorem c9q (s:ByteArray) (i:Int) (n:Int) (r:Bool) (hw:a9m 0 s i n r):a2d s i n r:=
 fP (KJ 13 [] hw)
theorem f3a (r:Bool):plain (g9a r)=true:=rfl
theorem c2p (s:ByteArray) (i:Int) (lo:Int) (hi:Int) (r:Bool) (hw:∃R1:Bool ->Prop,(∀bz1:Bool,R1 bz1 ->((bz1=true ->(0<=i /\ i<(s.size:Int)) /\ (r=(decide ((H4 s i.toNat)<=hi)))) /\ (bz1=false ->r=false))) /\ (((decide (i<(s.size:Int)))=true ->(0<=i /\ i<(s.size:Int)) /\ (R1 (decide (lo<=(H4 s i.toNat))))) /\ ((decide (i<(s.size:Int)))=false ->R1 false))):a0d s i lo hi r:=
 fP (KQ 12 6 kB hw (fun _ hw=>KW 1 hw (fun _ hw=>KIS 2 hw fun hw=>KR 7 hw f3a) fun _ hw=>KR 10 hw f3a) (fun _ key _ hw=>KIS 2 hw fun hw=>KE 3 key hw) fun _ key _ hw=>KE 6 key hw)
theorem f9c (r:Bool):plain (g8f r)=true:=rfl
theorem c24 (kind:Int) (r:Bool) (hw:r=((kind==2)||(kind==3))):c46 kind r:=
 fP (KT 10 3<|KR 4 hw f9c)
theorem f27 (r:Int):plain (g93 r)=true:=rfl
theorem b4p (x:C5) (o_:GOp) (v:A0) (level:Int) (r:Int) (hw:((o_.Kind==10)=true ->∃y1,x.p.Progs[o_.Target.toNat]? =some y1 /\ 0<=o_.Target /\ (∃y2,N7 x y1 v (wI (level+1)) y2 /\ (r=y2))) /\ ((o_.Kind==10)=false ->∃y3,a2a x o_.Kind o_.Target v y3 /\ (r=y3))):X0 x o_ v level r:=
 fP (KW 16 hw (fun _ hw=>KD 1 [0,1,2]<|KI 6 I5 hw fun _ hw=>KC 4 hw f9e fun _ hw=>KR 6 hw f27) fun _ hw=>KC 10 hw f95 fun _ hw=>KR 4 hw f27)
theorem d85 (r:Int):plain (g54 r)=true:=rfl
def U0 (ij1:Int) (l:(List (A0 × A0))) (level:Int) (x:C5) (o_:GOp) (r:Int):Prop:=J Tryz.prog 215 (.ret (g54 r)) 3 [(15,aI ij1),(14,aI (l.length:Int)),(13,.sl (List.map A8 l) .no),(5,.ptr 1 0),(4,.ptr 0 0),(2,.sl (List.map A8 l) .no),(3,aI level)] ⟨[some (B0 x.p),some (U2 o_)],[],[]⟩
theorem a9c {ij1:Int} {l:(List (A0 × A0))} {level:Int} {x:C5} {o_:GOp}:a6c [true,true] 0 [(15,aI ij1),(14,aI (l.length:Int)),(13,.sl (List.map A8 l) .no),(5,.ptr 1 0),(4,.ptr 0 0),(2,.sl (List.map A8 l) .no),(3,aI level)]=true /\ a4b [true,true] 0 [some (B0 x.p),some (U2 o_)]=true:=⟨by first|rfl|simp,by first|rfl|simp⟩
theorem a0p (ij1:Int) (l:(List (A0 × A0))) (level:Int) (x:C5) (o_:GOp) (r:Int) (hw:((decide (ij1<(l.length:Int)))=true ->∃y5,l[ij1.toNat]? =some y5 /\ 0<=ij1 /\ (∃y6,a2a x o_.Key (-1) y5.1 y6 /\ (((y6 !=0)=true ->r=y6) /\ ((y6 !=0)=false ->(0<=(0:Int) /\ (0:Int)<=ij1 /\ ij1<=(l.length:Int)) /\ (∃y7,T6 ((l.take ij1.toNat).drop (0:Int).toNat) (⟨226,[],[.elt (S3 y5) 0],by simp⟩:GFn) y7 /\ ((y7=true ->r=9) /\ (y7=false ->∃y8,X0 x o_ y5.2 level y8 /\ (((y8 !=0)=true ->r=y8) /\ ((y8 !=0)=false ->U0 (wI (ij1+1)) l level x o_ r))))))))) /\ ((decide (ij1<(l.length:Int)))=false ->r=0)):U0 ij1 l level x o_ r:=
 KW 7 hw (fun _ hw=>KI 7 B4 hw fun y5 hw=>KC 14 hw f95 fun _ hw=>KW 9 hw (fun _ hw=>KR 13 hw d85) fun _ hw=>KFz 4 2 [true,true,false] 0 [(9,aI ij1),(10,.elt (S3 y5) 0),(15,aI ij1),(14,aI (l.length:Int)),(13,.sl (List.map A8 l) .no),(5,.ptr 1 0),(4,.ptr 0 0),(2,.sl (List.map A8 l) .no),(3,aI level)] [some (B0 x.p),some (U2 o_),none] ⟨by first|rfl|simp,by first|rfl|simp⟩<|KSV 3 B4 hw fun hw=>KC 1 hw g5m fun _ hw=>KW 2 hw (fun _ hw=>KR 12 hw d85) fun _ hw=>KC 9 hw f7y fun _ hw=>KW 9 hw (fun _ hw=>KR 12 hw d85) fun _ hw=>KJl 8 [] hw a9c) fun _ hw=>KR 11 hw d85
theorem b1i (x:C5) (o_:GOp) (l:(List (A0 × A0))) (level:Int) (r:Int) (hw:U0 0 l level x o_ r):a1l x o_ l level r:=
 fP (KL 11 B4 l<|KJ 5 [] hw)
def G7 (ij5:Int) (ij3:Int) (n0:Nat) (a:Int) (b:Int) (cmp:GFn) (lj6:(List (Int × A0))) (r:(List (Int × A0))):Prop:=J Tryz.prog 216 (.io 0 (.tuple []) (cellsOf A9 r) []) 6 [(9,aI ij5),(8,aI ij3),(0,.row 0 0 8 n0 n0),(1,aI a),(2,aI b),(3,.clo (.func cmp.fn) cmp.fi cmp.cap)] ⟨[some (cellsOf A9 lj6)],[],[]⟩
def G9 (ij3:Int) (n0:Nat) (a:Int) (b:Int) (cmp:GFn) (lj4:(List (Int × A0))) (r:(List (Int × A0))):Prop:=J Tryz.prog 216 (.io 0 (.tuple []) (cellsOf A9 r) []) 1 [(8,aI ij3),(0,.row 0 0 8 n0 n0),(1,aI a),(2,aI b),(3,.clo (.func cmp.fn) cmp.fi cmp.cap)] ⟨[some (cellsOf A9 lj4)],[],[]⟩
theorem a1d (ij5:Int) (ij3:Int) (n0:Nat) (a:Int) (b:Int) (cmp:GFn) (lj6:(List (Int × A0))) (r:(List (Int × A0))) (hw:∃R8:Bool ->Prop,(∀bz8:Bool,R8 bz8 ->((bz8=true ->(0<=(wI (ij5 - 1)) /\ (wI (ij5 - 1))<(n0:Int)) /\ (∃y19,lj6[(wI (ij5 - 1)).toNat]? =some y19 /\ ((0<=ij5 /\ ij5<(n0:Int)) /\ (∃y20,lj6[ij5.toNat]? =some y20 /\ ((0<=ij5 /\ ij5<(n0:Int)) /\ (ij5.toNat<lj6.length /\ ((0<=(wI (ij5 - 1)) /\ (wI (ij5 - 1))<(n0:Int)) /\ ((wI (ij5 - 1)).toNat<(lj6.set ij5.toNat y19).length /\ (G7 (wI (ij5 - 1)) ij3 n0 a b cmp ((lj6.set ij5.toNat y19).set (wI (ij5 - 1)).toNat y20) r))))))))) /\ (bz8=false ->G9 (wI (ij3+1)) n0 a b cmp lj6 r))) /\ (((decide (a<ij5))=true ->(0<=ij5 /\ ij5<(n0:Int)) /\ (∃y16,lj6[ij5.toNat]? =some y16 /\ ((0<=(wI (ij5 - 1)) /\ (wI (ij5 - 1))<(n0:Int)) /\ (∃y17,lj6[(wI (ij5 - 1)).toNat]? =some y17 /\ (∃y18,a41 Tryz.prog [] (.clo (.func cmp.fn) cmp.fi cmp.cap) [.agg (U5 y16),.agg (U5 y17)] (aI y18) /\ (R8 (decide (y18<0)))))))) /\ ((decide (a<ij5))=false ->R8 false))):G7 ij5 ij3 n0 a b cmp lj6 r:=
 KD 3 [0]<|KQ 4 13 kB hw (fun _ hw=>KW 3 hw (fun _ hw=>KDL 4 [0]<|KRI 8 8 hw fun hw=>KRn 0 B7 hw fun y19 hw=>KRI 2 8 hw fun hw=>KRn 0 B7 hw fun y20 hw=>KRI 0 8 hw fun hw=>KRS 0 B7 y19 hw fun hw=>KRI 0 8 hw fun hw=>KRS 0 B7 y20 hw fun hw=>KJ 9 [] hw) fun _ hw=>KJ 12 [] hw) (fun _ key _ hw=>KRI 3 8 hw fun hw=>KRn 0 B7 hw fun _ hw=>KRI 3 8 hw fun hw=>KRn 0 B7 hw fun _ hw=>KF 0 hw fun _ hw=>KE 2 key hw) fun _ key _ hw=>KE 13 key hw
theorem a1b (ij3:Int) (n0:Nat) (a:Int) (b:Int) (cmp:GFn) (lj4:(List (Int × A0))) (r:(List (Int × A0))) (hw:((decide (ij3<b))=true ->G7 ij3 ij3 n0 a b cmp lj4 r) /\ ((decide (ij3<b))=false ->lj4≠[] /\ r=lj4)):G9 ij3 n0 a b cmp lj4 r:=
 KW 9 hw (fun _ hw=>KJ 12 [] hw) fun _ hw=>KRr 4 B7 hw
theorem a2s (n0:Nat) (data:(List (Int × A0))) (a:Int) (b:Int) (cmp:GFn) (r:(List (Int × A0))) (hw:G9 (wI (a+1)) n0 a b cmp data r):J4 n0 data a b cmp r:=
 fRO (KJ 9 [] hw)
def L9 (ij5:Int) (ij3:Int) (n0:Nat) (lj6:(List (Int × A0))) (r:(List (Int × A0))):Prop:=J Tryz.prog 217 (.io 0 (.tuple []) (cellsOf A9 r) []) 12 [(13,aI ij5),(10,aI ij3),(0,.row 0 0 8 n0 n0)] ⟨[some (cellsOf A9 lj6)],[],[]⟩
def G4 (ij4:Int) (ij3:Int) (n0:Nat) (a:Int) (cmp:GFn) (data:(List (Int × A0))) (r:(List (Int × A0))):Prop:=J Tryz.prog 217 (.io 0 (.tuple []) (cellsOf A9 r) []) 5 [(11,aI ij4),(10,aI ij3),(0,.row 0 0 8 n0 n0),(1,aI a),(4,.clo (.func cmp.fn) cmp.fi cmp.cap)] ⟨[some (cellsOf A9 data)],[],[]⟩
def K3 (ij11:Int) (ij9:Int) (n0:Nat) (lj12:(List (Int × A0))) (r:(List (Int × A0))):Prop:=J Tryz.prog 217 (.io 0 (.tuple []) (cellsOf A9 r) []) 28 [(17,aI ij11),(14,aI ij9),(0,.row 0 0 8 n0 n0)] ⟨[some (cellsOf A9 lj12)],[],[]⟩
def F6 (ij10:Int) (ij9:Int) (n0:Nat) (m:Int) (cmp:GFn) (data:(List (Int × A0))) (r:(List (Int × A0))):Prop:=J Tryz.prog 217 (.io 0 (.tuple []) (cellsOf A9 r) []) 21 [(15,aI ij10),(14,aI ij9),(0,.row 0 0 8 n0 n0),(2,aI m),(4,.clo (.func cmp.fn) cmp.fi cmp.cap)] ⟨[some (cellsOf A9 data)],[],[]⟩
def K5 (a:Int) (b:Int) (m:Int) (ij26:Int) (n0:Nat) (cmp:GFn) (lj30:(List (Int × A0))) (r:(List (Int × A0))):Prop:=J Tryz.prog 217 (.io 0 (.tuple []) (cellsOf A9 r) []) 49 [(24,aI (wI ((wI ((wI ((wU (wI (a+b))).fdiv (2 ^ min (1:Int).toNat IntKind.u64.bits)))+m)) - ij26))),(18,aI (wI ((wU (wI (a+b))).fdiv (2 ^ min (1:Int).toNat IntKind.u64.bits)))),(0,.row 0 0 8 n0 n0),(3,aI b),(4,.clo (.func cmp.fn) cmp.fi cmp.cap)] ⟨[some (cellsOf A9 lj30)],[],[]⟩
def K1 (a:Int) (b:Int) (m:Int) (ij26:Int) (n0:Nat) (cmp:GFn) (lj29:(List (Int × A0))) (r:(List (Int × A0))):Prop:=J Tryz.prog 217 (.io 0 (.tuple []) (cellsOf A9 r) []) 47 [(24,aI (wI ((wI ((wI ((wU (wI (a+b))).fdiv (2 ^ min (1:Int).toNat IntKind.u64.bits)))+m)) - ij26))),(20,aI ij26),(18,aI (wI ((wU (wI (a+b))).fdiv (2 ^ min (1:Int).toNat IntKind.u64.bits)))),(0,.row 0 0 8 n0 n0),(1,aI a),(3,aI b),(4,.clo (.func cmp.fn) cmp.fi cmp.cap)] ⟨[some (cellsOf A9 lj29)],[],[]⟩
def E9 (a:Int) (b:Int) (m:Int) (ij27:Int) (ij26:Int) (n0:Nat) (cmp:GFn) (data:(List (Int × A0))) (r:(List (Int × A0))):Prop:=J Tryz.prog 217 (.io 0 (.tuple []) (cellsOf A9 r) []) 41 [(22,aI (wI ((wI ((wI ((wU (wI (a+b))).fdiv (2 ^ min (1:Int).toNat IntKind.u64.bits)))+m)) - 1))),(21,aI ij27),(20,aI ij26),(19,aI (wI ((wI ((wU (wI (a+b))).fdiv (2 ^ min (1:Int).toNat IntKind.u64.bits)))+m))),(18,aI (wI ((wU (wI (a+b))).fdiv (2 ^ min (1:Int).toNat IntKind.u64.bits)))),(0,.row 0 0 8 n0 n0),(1,aI a),(2,aI m),(3,aI b),(4,.clo (.func cmp.fn) cmp.fi cmp.cap)] ⟨[some (cellsOf A9 data)],[],[]⟩
def K7 (ij21:Int) (ij22:Int) (a:Int) (b:Int) (m:Int) (n0:Nat) (cmp:GFn) (data:(List (Int × A0))) (r:(List (Int × A0))):Prop:=J Tryz.prog 217 (.io 0 (.tuple []) (cellsOf A9 r) []) 35 [(21,aI ij21),(20,aI ij22),(19,aI (wI ((wI ((wU (wI (a+b))).fdiv (2 ^ min (1:Int).toNat IntKind.u64.bits)))+m))),(18,aI (wI ((wU (wI (a+b))).fdiv (2 ^ min (1:Int).toNat IntKind.u64.bits)))),(0,.row 0 0 8 n0 n0),(1,aI a),(2,aI m),(3,aI b),(4,.clo (.func cmp.fn) cmp.fi cmp.cap)] ⟨[some (cellsOf A9 data)],[],[]⟩
theorem a33 (ij5:Int) (ij3:Int) (n0:Nat) (lj6:(List (Int × A0))) (r:(List (Int × A0))) (hw:((decide (ij5<(wI (ij3 - 1))))=true ->(0<=(wI (ij5+1)) /\ (wI (ij5+1))<(n0:Int)) /\ (∃y10,lj6[(wI (ij5+1)).toNat]? =some y10 /\ ((0<=ij5 /\ ij5<(n0:Int)) /\ (∃y11,lj6[ij5.toNat]? =some y11 /\ ((0<=ij5 /\ ij5<(n0:Int)) /\ (ij5.toNat<lj6.length /\ ((0<=(wI (ij5+1)) /\ (wI (ij5+1))<(n0:Int)) /\ ((wI (ij5+1)).toNat<(lj6.set ij5.toNat y10).length /\ (L9 (wI (ij5+1)) ij3 n0 ((lj6.set ij5.toNat y10).set (wI (ij5+1)).toNat y11) r))))))))) /\ ((decide (ij5<(wI (ij3 - 1))))=false ->lj6≠[] /\ r=lj6)):L9 ij5 ij3 n0 lj6 r:=
 KW 10 hw (fun _ hw=>KDL 4 [0]<|KRI 8 8 hw fun hw=>KRn 0 B7 hw fun y10 hw=>KRI 2 8 hw fun hw=>KRn 0 B7 hw fun y11 hw=>KRI 0 8 hw fun hw=>KRS 0 B7 y10 hw fun hw=>KRI 0 8 hw fun hw=>KRS 0 B7 y11 hw fun hw=>KJ 9 [] hw) fun _ hw=>KRr 7 B7 hw
theorem a37 (ij4:Int) (ij3:Int) (n0:Nat) (a:Int) (cmp:GFn) (data:(List (Int × A0))) (r:(List (Int × A0))) (hw:((decide (ij3<ij4))=true ->(0<=(wI ((wU (wI (ij3+ij4))).fdiv (2 ^ min (1:Int).toNat IntKind.u64.bits))) /\ (wI ((wU (wI (ij3+ij4))).fdiv (2 ^ min (1:Int).toNat IntKind.u64.bits)))<(n0:Int)) /\ (∃y12,data[(wI ((wU (wI (ij3+ij4))).fdiv (2 ^ min (1:Int).toNat IntKind.u64.bits))).toNat]? =some y12 /\ ((0<=a /\ a<(n0:Int)) /\ (∃y13,data[a.toNat]? =some y13 /\ (∃y14,a41 Tryz.prog [] (.clo (.func cmp.fn) cmp.fi cmp.cap) [.agg (U5 y12),.agg (U5 y13)] (aI y14) /\ (((decide (y14<0))=true ->G4 ij4 (wI ((wI ((wU (wI (ij3+ij4))).fdiv (2 ^ min (1:Int).toNat IntKind.u64.bits)))+1)) n0 a cmp data r) /\ ((decide (y14<0))=false ->G4 (wI ((wU (wI (ij3+ij4))).fdiv (2 ^ min (1:Int).toNat IntKind.u64.bits))) ij3 n0 a cmp data r))))))) /\ ((decide (ij3<ij4))=false ->L9 a ij3 n0 data r)):G4 ij4 ij3 n0 a cmp data r:=
 KW 9 hw (fun _ hw=>KD 15 [0]<|KRI 3 8 hw fun hw=>KRn 0 B7 hw fun _ hw=>KRI 2 8 hw fun hw=>KRn 0 B7 hw fun _ hw=>KF 0 hw fun _ hw=>KW 4 hw (fun _ hw=>KJ 7 [] hw) fun _ hw=>KJ 6 [] hw) fun _ hw=>KJ 14 [] hw
theorem a3c (ij11:Int) (ij9:Int) (n0:Nat) (lj12:(List (Int × A0))) (r:(List (Int × A0))) (hw:((decide (ij9<ij11))=true ->(0<=(wI (ij11 - 1)) /\ (wI (ij11 - 1))<(n0:Int)) /\ (∃y24,lj12[(wI (ij11 - 1)).toNat]? =some y24 /\ ((0<=ij11 /\ ij11<(n0:Int)) /\ (∃y25,lj12[ij11.toNat]? =some y25 /\ ((0<=ij11 /\ ij11<(n0:Int)) /\ (ij11.toNat<lj12.length /\ ((0<=(wI (ij11 - 1)) /\ (wI (ij11 - 1))<(n0:Int)) /\ ((wI (ij11 - 1)).toNat<(lj12.set ij11.toNat y24).length /\ (K3 (wI (ij11 - 1)) ij9 n0 ((lj12.set ij11.toNat y24).set (wI (ij11 - 1)).toNat y25) r))))))))) /\ ((decide (ij9<ij11))=false ->lj12≠[] /\ r=lj12)):K3 ij11 ij9 n0 lj12 r:=
 KW 9 hw (fun _ hw=>KDL 4 [0]<|KRI 8 8 hw fun hw=>KRn 0 B7 hw fun y24 hw=>KRI 2 8 hw fun hw=>KRn 0 B7 hw fun y25 hw=>KRI 0 8 hw fun hw=>KRS 0 B7 y24 hw fun hw=>KRI 0 8 hw fun hw=>KRS 0 B7 y25 hw fun hw=>KJ 9 [] hw) fun _ hw=>KRr 7 B7 hw
theorem a3e (ij10:Int) (ij9:Int) (n0:Nat) (m:Int) (cmp:GFn) (data:(List (Int × A0))) (r:(List (Int × A0))) (hw:((decide (ij9<ij10))=true ->(0<=m /\ m<(n0:Int)) /\ (∃y26,data[m.toNat]? =some y26 /\ ((0<=(wI ((wU (wI (ij9+ij10))).fdiv (2 ^ min (1:Int).toNat IntKind.u64.bits))) /\ (wI ((wU (wI (ij9+ij10))).fdiv (2 ^ min (1:Int).toNat IntKind.u64.bits)))<(n0:Int)) /\ (∃y27,data[(wI ((wU (wI (ij9+ij10))).fdiv (2 ^ min (1:Int).toNat IntKind.u64.bits))).toNat]? =some y27 /\ (∃y28,a41 Tryz.prog [] (.clo (.func cmp.fn) cmp.fi cmp.cap) [.agg (U5 y26),.agg (U5 y27)] (aI y28) /\ (((!(decide (y28<0)))=true ->F6 ij10 (wI ((wI ((wU (wI (ij9+ij10))).fdiv (2 ^ min (1:Int).toNat IntKind.u64.bits)))+1)) n0 m cmp data r) /\ ((!(decide (y28<0)))=false ->F6 (wI ((wU (wI (ij9+ij10))).fdiv (2 ^ min (1:Int).toNat IntKind.u64.bits))) ij9 n0 m cmp data r))))))) /\ ((decide (ij9<ij10))=false ->K3 m ij9 n0 data r)):F6 ij10 ij9 n0 m cmp data r:=
 KW 9 hw (fun _ hw=>KD 15 [0]<|KRI 3 8 hw fun hw=>KRn 0 B7 hw fun _ hw=>KRI 2 8 hw fun hw=>KRn 0 B7 hw fun _ hw=>KF 0 hw fun _ hw=>KW 5 hw (fun _ hw=>KJ 7 [] hw) fun _ hw=>KJ 6 [] hw) fun _ hw=>KJ 14 [] hw
theorem a29 (a:Int) (b:Int) (m:Int) (ij26:Int) (n0:Nat) (cmp:GFn) (lj30:(List (Int × A0))) (r:(List (Int × A0))) (hw:(((decide ((wI ((wU (wI (a+b))).fdiv (2 ^ min (1:Int).toNat IntKind.u64.bits)))<(wI ((wI ((wI ((wU (wI (a+b))).fdiv (2 ^ min (1:Int).toNat IntKind.u64.bits)))+m)) - ij26))))&&(decide ((wI ((wI ((wI ((wU (wI (a+b))).fdiv (2 ^ min (1:Int).toNat IntKind.u64.bits)))+m)) - ij26))<b)))=true ->∃y65,F1 n0 lj30 (wI ((wU (wI (a+b))).fdiv (2 ^ min (1:Int).toNat IntKind.u64.bits))) (wI ((wI ((wI ((wU (wI (a+b))).fdiv (2 ^ min (1:Int).toNat IntKind.u64.bits)))+m)) - ij26)) b cmp y65 /\ (lj30≠[] /\ y65≠[]) /\ (y65≠[] /\ r=y65)) /\ (((decide ((wI ((wU (wI (a+b))).fdiv (2 ^ min (1:Int).toNat IntKind.u64.bits)))<(wI ((wI ((wI ((wU (wI (a+b))).fdiv (2 ^ min (1:Int).toNat IntKind.u64.bits)))+m)) - ij26))))&&(decide ((wI ((wI ((wI ((wU (wI (a+b))).fdiv (2 ^ min (1:Int).toNat IntKind.u64.bits)))+m)) - ij26))<b)))=false ->lj30≠[] /\ r=lj30)):K5 a b m ij26 n0 cmp lj30 r:=
 KT 6 4<|KW 2 hw (fun _ hw=>KRO 6 B7 hw d9f fun _ hw=>KRr 1 B7 hw) fun _ hw=>KRr 1 B7 hw
theorem a27 (a:Int) (b:Int) (m:Int) (ij26:Int) (n0:Nat) (cmp:GFn) (lj29:(List (Int × A0))) (r:(List (Int × A0))) (hw:(((decide (a<ij26))&&(decide (ij26<(wI ((wU (wI (a+b))).fdiv (2 ^ min (1:Int).toNat IntKind.u64.bits))))))=true ->∃y63,F1 n0 lj29 a ij26 (wI ((wU (wI (a+b))).fdiv (2 ^ min (1:Int).toNat IntKind.u64.bits))) cmp y63 /\ (lj29≠[] /\ y63≠[]) /\ (K5 a b m ij26 n0 cmp y63 r)) /\ (((decide (a<ij26))&&(decide (ij26<(wI ((wU (wI (a+b))).fdiv (2 ^ min (1:Int).toNat IntKind.u64.bits))))))=false ->K5 a b m ij26 n0 cmp lj29 r)):K1 a b m ij26 n0 cmp lj29 r:=
 KT 7 4<|KW 2 hw (fun _ hw=>KRO 6 B7 hw d9f fun _ hw=>KJ 2 [] hw) fun _ hw=>KJ 2 [] hw
theorem a3h (a:Int) (b:Int) (m:Int) (ij27:Int) (ij26:Int) (n0:Nat) (cmp:GFn) (data:(List (Int × A0))) (r:(List (Int × A0))) (hw:((decide (ij26<ij27))=true ->(0<=(wI ((wI ((wI ((wI ((wU (wI (a+b))).fdiv (2 ^ min (1:Int).toNat IntKind.u64.bits)))+m)) - 1)) - (wI ((wU (wI (ij26+ij27))).fdiv (2 ^ min (1:Int).toNat IntKind.u64.bits))))) /\ (wI ((wI ((wI ((wI ((wU (wI (a+b))).fdiv (2 ^ min (1:Int).toNat IntKind.u64.bits)))+m)) - 1)) - (wI ((wU (wI (ij26+ij27))).fdiv (2 ^ min (1:Int).toNat IntKind.u64.bits)))))<(n0:Int)) /\ (∃y66,data[(wI ((wI ((wI ((wI ((wU (wI (a+b))).fdiv (2 ^ min (1:Int).toNat IntKind.u64.bits)))+m)) - 1)) - (wI ((wU (wI (ij26+ij27))).fdiv (2 ^ min (1:Int).toNat IntKind.u64.bits))))).toNat]? =some y66 /\ ((0<=(wI ((wU (wI (ij26+ij27))).fdiv (2 ^ min (1:Int).toNat IntKind.u64.bits))) /\ (wI ((wU (wI (ij26+ij27))).fdiv (2 ^ min (1:Int).toNat IntKind.u64.bits)))<(n0:Int)) /\ (∃y67,data[(wI ((wU (wI (ij26+ij27))).fdiv (2 ^ min (1:Int).toNat IntKind.u64.bits))).toNat]? =some y67 /\ (∃y68,a41 Tryz.prog [] (.clo (.func cmp.fn) cmp.fi cmp.cap) [.agg (U5 y66),.agg (U5 y67)] (aI y68) /\ (((!(decide (y68<0)))=true ->E9 a b m ij27 (wI ((wI ((wU (wI (ij26+ij27))).fdiv (2 ^ min (1:Int).toNat IntKind.u64.bits)))+1)) n0 cmp data r) /\ ((!(decide (y68<0)))=false ->E9 a b m (wI ((wU (wI (ij26+ij27))).fdiv (2 ^ min (1:Int).toNat IntKind.u64.bits))) ij26 n0 cmp data r))))))) /\ ((decide (ij26<ij27))=false ->(((decide (ij26<m))&&(decide (m<(wI ((wI ((wI ((wU (wI (a+b))).fdiv (2 ^ min (1:Int).toNat IntKind.u64.bits)))+m)) - ij26)))))=true ->∃y59,X9 n0 data ij26 m (wI ((wI ((wI ((wU (wI (a+b))).fdiv (2 ^ min (1:Int).toNat IntKind.u64.bits)))+m)) - ij26)) cmp y59 /\ (data≠[] /\ y59≠[]) /\ (K1 a b m ij26 n0 cmp y59 r)) /\ (((decide (ij26<m))&&(decide (m<(wI ((wI ((wI ((wU (wI (a+b))).fdiv (2 ^ min (1:Int).toNat IntKind.u64.bits)))+m)) - ij26)))))=false ->K1 a b m ij26 n0 cmp data r))):E9 a b m ij27 ij26 n0 cmp data r:=
 KW 9 hw (fun _ hw=>KD 15 [0]<|KRI 5 8 hw fun hw=>KRn 0 B7 hw fun _ hw=>KRI 2 8 hw fun hw=>KRn 0 B7 hw fun _ hw=>KF 0 hw fun _ hw=>KW 5 hw (fun _ hw=>KJ 7 [] hw) fun _ hw=>KJ 6 [] hw) fun _ hw=>KT 20 4<|KW 2 hw (fun _ hw=>KRO 6 B7 hw g1w fun _ hw=>KJ 2 [] hw) fun _ hw=>KJ 2 [] hw
theorem a3k (ij21:Int) (ij22:Int) (a:Int) (b:Int) (m:Int) (n0:Nat) (cmp:GFn) (data:(List (Int × A0))) (r:(List (Int × A0))) (hw:E9 a b m ij21 ij22 n0 cmp data r):K7 ij21 ij22 a b m n0 cmp data r:=
 KJ 10 [] hw
theorem a54 (n0:Nat) (data:(List (Int × A0))) (a:Int) (m:Int) (b:Int) (cmp:GFn) (r:(List (Int × A0))) (hw:(((wI (m - a))==1)=true ->G4 b m n0 a cmp data r) /\ (((wI (m - a))==1)=false ->(((wI (b - m))==1)=true ->F6 m a n0 m cmp data r) /\ (((wI (b - m))==1)=false ->((decide ((wI ((wU (wI (a+b))).fdiv (2 ^ min (1:Int).toNat IntKind.u64.bits)))<m))=true ->K7 (wI ((wU (wI (a+b))).fdiv (2 ^ min (1:Int).toNat IntKind.u64.bits))) (wI ((wI ((wI ((wU (wI (a+b))).fdiv (2 ^ min (1:Int).toNat IntKind.u64.bits)))+m)) - b)) a b m n0 cmp data r) /\ ((decide ((wI ((wU (wI (a+b))).fdiv (2 ^ min (1:Int).toNat IntKind.u64.bits)))<m))=false ->K7 m a a b m n0 cmp data r)))):F1 n0 data a m b cmp r:=
 fRO (KW 9 hw (fun _ hw=>KJ 15 [] hw) fun _ hw=>KW 11 hw (fun _ hw=>KJ 15 [] hw) fun _ hw=>KW 35 hw (fun _ hw=>KJ 13 [] hw) fun _ hw=>KJ 11 [] hw)
def N0 (ij17:Int) (ij18:Int) (ij15:Int) (n0:Nat) (n:Int) (cmp:GFn) (lj19:(List (A0 × A0))) (r:(List (A0 × A0))):Prop:=J Tryz.prog 218 (.io 0 (.tuple []) (cellsOf A8 r) []) 14 [(8,aI ij17),(7,aI ij18),(6,aI ij15),(0,.row 0 0 14 n0 n0),(1,aI n),(2,.clo (.func cmp.fn) cmp.fi cmp.cap)] ⟨[some (cellsOf A8 lj19)],[],[]⟩
def H5 (ij15:Int) (n0:Nat) (n:Int) (cmp:GFn) (lj16:(List (A0 × A0))) (r:(List (A0 × A0))):Prop:=J Tryz.prog 218 (.io 0 (.tuple []) (cellsOf A8 r) []) 9 [(6,aI ij15),(0,.row 0 0 14 n0 n0),(1,aI n),(2,.clo (.func cmp.fn) cmp.fi cmp.cap)] ⟨[some (cellsOf A8 lj16)],[],[]⟩
def N8 (ij9:Int) (ij10:Int) (n0:Nat) (n:Int) (cmp:GFn) (lj11:(List (A0 × A0))) (r:(List (A0 × A0))):Prop:=J Tryz.prog 218 (.io 0 (.tuple []) (cellsOf A8 r) []) 3 [(8,aI ij9),(7,aI ij10),(6,aI 20),(0,.row 0 0 14 n0 n0),(1,aI n),(2,.clo (.func cmp.fn) cmp.fi cmp.cap)] ⟨[some (cellsOf A8 lj11)],[],[]⟩
theorem a4x (ij17:Int) (ij18:Int) (ij15:Int) (n0:Nat) (n:Int) (cmp:GFn) (lj19:(List (A0 × A0))) (r:(List (A0 × A0))) (hw:((decide (ij17<=n))=true ->∃y19,F4 n0 lj19 ij18 (wI (ij18+ij15)) ij17 cmp y19 /\ (lj19≠[] /\ y19≠[]) /\ (N0 (wI (ij17+(wI (2*ij15)))) ij17 ij15 n0 n cmp y19 r)) /\ ((decide (ij17<=n))=false ->((decide ((wI (ij18+ij15))<n))=true ->∃y18,F4 n0 lj19 ij18 (wI (ij18+ij15)) n cmp y18 /\ (lj19≠[] /\ y18≠[]) /\ (H5 (wI (ij15*2)) n0 n cmp y18 r)) /\ ((decide ((wI (ij18+ij15))<n))=false ->H5 (wI (ij15*2)) n0 n cmp lj19 r))):N0 ij17 ij18 ij15 n0 n cmp lj19 r:=
 KW 9 hw (fun _ hw=>KRO 12 B4 hw d77 fun _ hw=>KJ 17 [] hw) fun _ hw=>KW 21 hw (fun _ hw=>KRO 6 B4 hw d77 fun _ hw=>KJ 9 [] hw) fun _ hw=>KJ 9 [] hw
theorem a4y (ij15:Int) (n0:Nat) (n:Int) (cmp:GFn) (lj16:(List (A0 × A0))) (r:(List (A0 × A0))) (hw:((decide (ij15<n))=true ->N0 (wI (2*ij15)) 0 ij15 n0 n cmp lj16 r) /\ ((decide (ij15<n))=false ->lj16≠[] /\ r=lj16)):H5 ij15 n0 n cmp lj16 r:=
 KW 9 hw (fun _ hw=>KJ 14 [] hw) fun _ hw=>KRr 4 B4 hw
theorem a5a (ij9:Int) (ij10:Int) (n0:Nat) (n:Int) (cmp:GFn) (lj11:(List (A0 × A0))) (r:(List (A0 × A0))) (hw:((decide (ij9<=n))=true ->∃y20,J3 n0 lj11 ij10 ij9 cmp y20 /\ (lj11≠[] /\ y20≠[]) /\ (N8 (wI (ij9+20)) ij9 n0 n cmp y20 r)) /\ ((decide (ij9<=n))=false ->∃y11,J3 n0 lj11 ij10 n cmp y11 /\ (lj11≠[] /\ y11≠[]) /\ (H5 20 n0 n cmp y11 r))):N8 ij9 ij10 n0 n cmp lj11 r:=
 KW 9 hw (fun _ hw=>KRO 9 B4 hw f3h fun _ hw=>KJ 16 [] hw) fun _ hw=>KRO 11 B4 hw f3h fun _ hw=>KJ 4 [] hw
theorem a7k (n0:Nat) (data:(List (A0 × A0))) (n:Int) (cmp:GFn) (r:(List (A0 × A0))) (hw:N8 20 0 n0 n cmp data r):X5 n0 data n cmp r:=
 fRO (KJ 15 [] hw)
theorem d1y (r:Int):plain (g9k r)=true:=rfl
theorem b4x (x:ByteArray) (y:ByteArray) (r:Int) (hw:∃y1,a8l x y1 /\ (∃y2,a8l y y2 /\ ((y1=true ->(y2=true ->r=0) /\ (y2=false ->r=(-1))) /\ (y1=false ->(y2=true ->r=1) /\ (y2=false ->((Op.bytesLess x.toList y.toList)=true ->r=(-1)) /\ ((Op.bytesLess x.toList y.toList)=false ->((!(Op.bytesLess x.toList y.toList||x.toList==y.toList))=true ->r=1) /\ ((!(Op.bytesLess x.toList y.toList||x.toList==y.toList))=false ->r=0))))))):a06 x y r:=
 fP (KC 8 hw g2f fun _ hw=>KC 6 hw g2f fun _ hw=>KW 9 hw (fun _ hw=>KW 6 hw (fun _ hw=>KR 8 hw d1y) fun _ hw=>KR 9 hw d1y) fun _ hw=>KW 8 hw (fun _ hw=>KR 7 hw d1y) fun _ hw=>KW 10 hw (fun _ hw=>KR 7 hw d1y) fun _ hw=>KW 10 hw (fun _ hw=>KR 7 hw d1y) fun _ hw=>KR 8 hw d1y)
theorem d02 (r:Int):plain (g9h r)=true:=rfl
theorem b38 (x:Int) (y:Int) (r:Int) (hw:∃y1,a8n x y1 /\ (∃y2,a8n y y2 /\ ((y1=true ->(y2=true ->r=0) /\ (y2=false ->r=(-1))) /\ (y1=false ->(y2=true ->r=1) /\ (y2=false ->((decide (x<y))=true ->r=(-1)) /\ ((decide (x<y))=false ->((decide (y<x))=true ->r=1) /\ ((decide (y<x))=false ->r=0))))))):W7 x y r:=
 fP (KC 8 hw f8x fun _ hw=>KC 6 hw f8x fun _ hw=>KW 9 hw (fun _ hw=>KW 6 hw (fun _ hw=>KR 8 hw d02) fun _ hw=>KR 9 hw d02) fun _ hw=>KW 8 hw (fun _ hw=>KR 7 hw d02) fun _ hw=>KW 10 hw (fun _ hw=>KR 7 hw d02) fun _ hw=>KW 10 hw (fun _ hw=>KR 7 hw d02) fun _ hw=>KR 8 hw d02)
theorem e33 (r:Int):plain (g97 r)=true:=rfl
theorem c4r (bits:Int) (r:Int) (hw:∃y1,b2a bits y1 /\ (((y1==0)=true ->r=18446744073709551615) /\ ((y1==0)=false ->(((I0 .and .u64 bits 9223372036854775808) !=0)=true ->r=(I0 .xor .u64 (IntKind.u64.max) bits)) /\ (((I0 .and .u64 bits 9223372036854775808) !=0)=false ->r=(I0 .or .u64 bits 9223372036854775808))))):b2i bits r:=
 fP (KC 10 hw g96 fun _ hw=>KW 4 hw (fun _ hw=>KR 8 hw e33) fun _ hw=>KW 8 hw (fun _ hw=>KR 10 hw e33) fun _ hw=>KR 11 hw e33)
theorem f3f (r:Bool):plain (g9s r)=true:=rfl
theorem a4g (s:ByteArray) (prefix_:ByteArray) (r:Bool) (hw:((decide ((prefix_.size:Int)<=(s.size:Int)))=true ->(0<=(0:Int) /\ (0:Int)<=(prefix_.size:Int) /\ (prefix_.size:Int)<=(s.size:Int)) /\ (r=(decide ((s.extract (0:Int).toNat (prefix_.size:Int).toNat)=prefix_)))) /\ ((decide ((prefix_.size:Int)<=(s.size:Int)))=false ->r=false)):Z8 s prefix_ r:=
 fP (KW 13 hw (fun _ hw=>KSS 3 hw fun hw=>KR 7 hw f3f) fun _ hw=>KR 11 hw f3f)
theorem c9n (r:Int):plain (g8w r)=true:=rfl
theorem b5g (x:C5) (kind:Int) (enum:Int) (v:A0) (r:Int) (hw:∃R1:Bool ->Prop,(∀bz1:Bool,R1 bz1 ->((bz1=true ->r=12) /\ (bz1=false ->((decide (4096<(v.Text.size:Int)))=true ->r=3) /\ ((decide (4096<(v.Text.size:Int)))=false ->∃R2:Bool ->Prop,(∀bz2:Bool,R2 bz2 ->((bz2=true ->r=7) /\ (bz2=false ->∃y3,b4k kind v y3 /\ (((!y3)=true ->r=12) /\ ((!y3)=false ->((kind==9)=true ->∃y4,b2c x.p enum v.Bits y4 /\ (((!y4)=true ->r=16) /\ ((!y4)=false ->r=0))) /\ ((kind==9)=false ->r=0)))))) /\ (((kind==7)=true ->∃y2,c0v v.Text y2 /\ (R2 (!y2))) /\ ((kind==7)=false ->R2 false)))))) /\ (((v.Kind !=kind)=true ->R1 true) /\ ((v.Kind !=kind)=false ->∃y1,a9s v y1 /\ (R1 y1)))):a2a x kind enum v r:=
 fP (KQ 16 3 kB hw (fun _ hw=>KW 3 hw (fun _ hw=>KR 8 hw c9n) fun _ hw=>KW 9 hw (fun _ hw=>KR 8 hw c9n) fun _ hw=>KQ 5 5 kB hw (fun _ hw=>KW 3 hw (fun _ hw=>KR 8 hw c9n) fun _ hw=>KC 4 hw g9p fun _ hw=>KW 4 hw (fun _ hw=>KR 8 hw c9n) fun _ hw=>KW 5 hw (fun _ hw=>KC 5 hw g7y fun _ hw=>KW 5 hw (fun _ hw=>KR 8 hw c9n) fun _ hw=>KR 9 hw c9n) fun _ hw=>KR 21 hw c9n) (fun _ key _ hw=>KC 2 hw g74 fun _ hw=>KE 2 key hw) fun _ key _ hw=>KE 5 key hw) (fun _ key _ hw=>KE 3 key hw) fun _ key _ hw=>KC 1 hw f1r fun _ hw=>KE 1 key hw)
theorem g1z (r:Bool):plain (g90 r)=true:=rfl
theorem a32 (s:(List (A0 × A0))) (f:GFn) (r:Bool) (hw:∃y1,a1q s f y1 /\ (r=(decide (0<=y1)))):T6 s f r:=
 fP (KC 9 hw g62 fun _ hw=>KR 5 hw g1z)
def I7 (ij3:Int) (ij1:Int) (n0:Nat) (m:Int) (cmp:GFn) (lj2:(List (Int × A0))) (r:(List (Int × A0))):Prop:=J Tryz.prog 227 (.io 0 (.tuple []) (cellsOf A9 r) []) 3 [(11,aI ij3),(10,aI ij1),(0,.row 0 0 8 n0 n0),(2,aI m),(4,.clo (.func cmp.fn) cmp.fi cmp.cap)] ⟨[some (cellsOf A9 lj2)],[],[]⟩
theorem a43 (ij3:Int) (ij1:Int) (n0:Nat) (m:Int) (cmp:GFn) (lj2:(List (Int × A0))) (r:(List (Int × A0))) (hw:((ij1 !=ij3)=true ->((decide (ij3<ij1))=true ->∃y5,I6 n0 lj2 (wI (m - ij1)) m ij3 cmp y5 /\ (lj2≠[] /\ y5≠[]) /\ (I7 ij3 (wI (ij1 - ij3)) n0 m cmp y5 r)) /\ ((decide (ij3<ij1))=false ->∃y6,I6 n0 lj2 (wI (m - ij1)) (wI ((wI (m+ij3)) - ij1)) ij1 cmp y6 /\ (lj2≠[] /\ y6≠[]) /\ (I7 (wI (ij3 - ij1)) ij1 n0 m cmp y6 r))) /\ ((ij1 !=ij3)=false ->∃y4,I6 n0 lj2 (wI (m - ij1)) m ij1 cmp y4 /\ (lj2≠[] /\ y4≠[]) /\ (y4≠[] /\ r=y4))):I7 ij3 ij1 n0 m cmp lj2 r:=
 KW 9 hw (fun _ hw=>KW 10 hw (fun _ hw=>KRO 9 B7 hw e8a fun _ hw=>KJ 10 [] hw) fun _ hw=>KRO 13 B7 hw e8a fun _ hw=>KJ 10 [] hw) fun _ hw=>KRO 13 B7 hw e8a fun _ hw=>KRr 1 B7 hw
theorem a8h (n0:Nat) (data:(List (Int × A0))) (a:Int) (m:Int) (b:Int) (cmp:GFn) (r:(List (Int × A0))) (hw:I7 (wI (b - m)) (wI (m - a)) n0 m cmp data r):X9 n0 data a m b cmp r:=
 fRO (KJ 19 [] hw)
def H2 (ij5:Int) (ij3:Int) (n0:Nat) (a:Int) (b:Int) (cmp:GFn) (lj6:(List (A0 × A0))) (r:(List (A0 × A0))):Prop:=J Tryz.prog 228 (.io 0 (.tuple []) (cellsOf A8 r) []) 6 [(9,aI ij5),(8,aI ij3),(0,.row 0 0 14 n0 n0),(1,aI a),(2,aI b),(3,.clo (.func cmp.fn) cmp.fi cmp.cap)] ⟨[some (cellsOf A8 lj6)],[],[]⟩
def H3 (ij3:Int) (n0:Nat) (a:Int) (b:Int) (cmp:GFn) (lj4:(List (A0 × A0))) (r:(List (A0 × A0))):Prop:=J Tryz.prog 228 (.io 0 (.tuple []) (cellsOf A8 r) []) 1 [(8,aI ij3),(0,.row 0 0 14 n0 n0),(1,aI a),(2,aI b),(3,.clo (.func cmp.fn) cmp.fi cmp.cap)] ⟨[some (cellsOf A8 lj4)],[],[]⟩
theorem a1c (ij5:Int) (ij3:Int) (n0:Nat) (a:Int) (b:Int) (cmp:GFn) (lj6:(List (A0 × A0))) (r:(List (A0 × A0))) (hw:∃R8:Bool ->Prop,(∀bz8:Bool,R8 bz8 ->((bz8=true ->(0<=(wI (ij5 - 1)) /\ (wI (ij5 - 1))<(n0:Int)) /\ (∃y19,lj6[(wI (ij5 - 1)).toNat]? =some y19 /\ ((0<=ij5 /\ ij5<(n0:Int)) /\ (∃y20,lj6[ij5.toNat]? =some y20 /\ ((0<=ij5 /\ ij5<(n0:Int)) /\ (ij5.toNat<lj6.length /\ ((0<=(wI (ij5 - 1)) /\ (wI (ij5 - 1))<(n0:Int)) /\ ((wI (ij5 - 1)).toNat<(lj6.set ij5.toNat y19).length /\ (H2 (wI (ij5 - 1)) ij3 n0 a b cmp ((lj6.set ij5.toNat y19).set (wI (ij5 - 1)).toNat y20) r))))))))) /\ (bz8=false ->H3 (wI (ij3+1)) n0 a b cmp lj6 r))) /\ (((decide (a<ij5))=true ->(0<=ij5 /\ ij5<(n0:Int)) /\ (∃y16,lj6[ij5.toNat]? =some y16 /\ ((0<=(wI (ij5 - 1)) /\ (wI (ij5 - 1))<(n0:Int)) /\ (∃y17,lj6[(wI (ij5 - 1)).toNat]? =some y17 /\ (∃y18,a41 Tryz.prog [] (.clo (.func cmp.fn) cmp.fi cmp.cap) [.agg (S3 y16),.agg (S3 y17)] (aI y18) /\ (R8 (decide (y18<0)))))))) /\ ((decide (a<ij5))=false ->R8 false))):H2 ij5 ij3 n0 a b cmp lj6 r:=
 KD 3 [0]<|KQ 4 13 kB hw (fun _ hw=>KW 3 hw (fun _ hw=>KDL 4 [0]<|KRI 8 14 hw fun hw=>KRn 0 B4 hw fun y19 hw=>KRI 2 14 hw fun hw=>KRn 0 B4 hw fun y20 hw=>KRI 0 14 hw fun hw=>KRS 0 B4 y19 hw fun hw=>KRI 0 14 hw fun hw=>KRS 0 B4 y20 hw fun hw=>KJ 9 [] hw) fun _ hw=>KJ 12 [] hw) (fun _ key _ hw=>KRI 3 14 hw fun hw=>KRn 0 B4 hw fun _ hw=>KRI 3 14 hw fun hw=>KRn 0 B4 hw fun _ hw=>KF 0 hw fun _ hw=>KE 2 key hw) fun _ key _ hw=>KE 13 key hw
theorem a1e (ij3:Int) (n0:Nat) (a:Int) (b:Int) (cmp:GFn) (lj4:(List (A0 × A0))) (r:(List (A0 × A0))) (hw:((decide (ij3<b))=true ->H2 ij3 ij3 n0 a b cmp lj4 r) /\ ((decide (ij3<b))=false ->lj4≠[] /\ r=lj4)):H3 ij3 n0 a b cmp lj4 r:=
 KW 9 hw (fun _ hw=>KJ 12 [] hw) fun _ hw=>KRr 4 B4 hw
theorem a2w (n0:Nat) (data:(List (A0 × A0))) (a:Int) (b:Int) (cmp:GFn) (r:(List (A0 × A0))) (hw:H3 (wI (a+1)) n0 a b cmp data r):J3 n0 data a b cmp r:=
 fRO (KJ 9 [] hw)
def M3 (ij5:Int) (ij3:Int) (n0:Nat) (lj6:(List (A0 × A0))) (r:(List (A0 × A0))):Prop:=J Tryz.prog 229 (.io 0 (.tuple []) (cellsOf A8 r) []) 12 [(13,aI ij5),(10,aI ij3),(0,.row 0 0 14 n0 n0)] ⟨[some (cellsOf A8 lj6)],[],[]⟩
def G3 (ij4:Int) (ij3:Int) (n0:Nat) (a:Int) (cmp:GFn) (data:(List (A0 × A0))) (r:(List (A0 × A0))):Prop:=J Tryz.prog 229 (.io 0 (.tuple []) (cellsOf A8 r) []) 5 [(11,aI ij4),(10,aI ij3),(0,.row 0 0 14 n0 n0),(1,aI a),(4,.clo (.func cmp.fn) cmp.fi cmp.cap)] ⟨[some (cellsOf A8 data)],[],[]⟩
def J8 (ij11:Int) (ij9:Int) (n0:Nat) (lj12:(List (A0 × A0))) (r:(List (A0 × A0))):Prop:=J Tryz.prog 229 (.io 0 (.tuple []) (cellsOf A8 r) []) 28 [(17,aI ij11),(14,aI ij9),(0,.row 0 0 14 n0 n0)] ⟨[some (cellsOf A8 lj12)],[],[]⟩
def F5 (ij10:Int) (ij9:Int) (n0:Nat) (m:Int) (cmp:GFn) (data:(List (A0 × A0))) (r:(List (A0 × A0))):Prop:=J Tryz.prog 229 (.io 0 (.tuple []) (cellsOf A8 r) []) 21 [(15,aI ij10),(14,aI ij9),(0,.row 0 0 14 n0 n0),(2,aI m),(4,.clo (.func cmp.fn) cmp.fi cmp.cap)] ⟨[some (cellsOf A8 data)],[],[]⟩
def J7 (a:Int) (b:Int) (m:Int) (ij26:Int) (n0:Nat) (cmp:GFn) (lj30:(List (A0 × A0))) (r:(List (A0 × A0))):Prop:=J Tryz.prog 229 (.io 0 (.tuple []) (cellsOf A8 r) []) 49 [(24,aI (wI ((wI ((wI ((wU (wI (a+b))).fdiv (2 ^ min (1:Int).toNat IntKind.u64.bits)))+m)) - ij26))),(18,aI (wI ((wU (wI (a+b))).fdiv (2 ^ min (1:Int).toNat IntKind.u64.bits)))),(0,.row 0 0 14 n0 n0),(3,aI b),(4,.clo (.func cmp.fn) cmp.fi cmp.cap)] ⟨[some (cellsOf A8 lj30)],[],[]⟩
def K2 (a:Int) (b:Int) (m:Int) (ij26:Int) (n0:Nat) (cmp:GFn) (lj29:(List (A0 × A0))) (r:(List (A0 × A0))):Prop:=J Tryz.prog 229 (.io 0 (.tuple []) (cellsOf A8 r) []) 47 [(24,aI (wI ((wI ((wI ((wU (wI (a+b))).fdiv (2 ^ min (1:Int).toNat IntKind.u64.bits)))+m)) - ij26))),(20,aI ij26),(18,aI (wI ((wU (wI (a+b))).fdiv (2 ^ min (1:Int).toNat IntKind.u64.bits)))),(0,.row 0 0 14 n0 n0),(1,aI a),(3,aI b),(4,.clo (.func cmp.fn) cmp.fi cmp.cap)] ⟨[some (cellsOf A8 lj29)],[],[]⟩
def F0 (a:Int) (b:Int) (m:Int) (ij27:Int) (ij26:Int) (n0:Nat) (cmp:GFn) (data:(List (A0 × A0))) (r:(List (A0 × A0))):Prop:=J Tryz.prog 229 (.io 0 (.tuple []) (cellsOf A8 r) []) 41 [(22,aI (wI ((wI ((wI ((wU (wI (a+b))).fdiv (2 ^ min (1:Int).toNat IntKind.u64.bits)))+m)) - 1))),(21,aI ij27),(20,aI ij26),(19,aI (wI ((wI ((wU (wI (a+b))).fdiv (2 ^ min (1:Int).toNat IntKind.u64.bits)))+m))),(18,aI (wI ((wU (wI (a+b))).fdiv (2 ^ min (1:Int).toNat IntKind.u64.bits)))),(0,.row 0 0 14 n0 n0),(1,aI a),(2,aI m),(3,aI b),(4,.clo (.func cmp.fn) cmp.fi cmp.cap)] ⟨[some (cellsOf A8 data)],[],[]⟩
def K4 (ij21:Int) (ij22:Int) (a:Int) (b:Int) (m:Int) (n0:Nat) (cmp:GFn) (data:(List (A0 × A0))) (r:(List (A0 × A0))):Prop:=J Tryz.prog 229 (.io 0 (.tuple []) (cellsOf A8 r) []) 35 [(21,aI ij21),(20,aI ij22),(19,aI (wI ((wI ((wU (wI (a+b))).fdiv (2 ^ min (1:Int).toNat IntKind.u64.bits)))+m))),(18,aI (wI ((wU (wI (a+b))).fdiv (2 ^ min (1:Int).toNat IntKind.u64.bits)))),(0,.row 0 0 14 n0 n0),(1,aI a),(2,aI m),(3,aI b),(4,.clo (.func cmp.fn) cmp.fi cmp.cap)] ⟨[some (cellsOf A8 data)],[],[]⟩
theorem a38 (ij5:Int) (ij3:Int) (n0:Nat) (lj6:(List (A0 × A0))) (r:(List (A0 × A0))) (hw:((decide (ij5<(wI (ij3 - 1))))=true ->(0<=(wI (ij5+1)) /\ (wI (ij5+1))<(n0:Int)) /\ (∃y10,lj6[(wI (ij5+1)).toNat]? =some y10 /\ ((0<=ij5 /\ ij5<(n0:Int)) /\ (∃y11,lj6[ij5.toNat]? =some y11 /\ ((0<=ij5 /\ ij5<(n0:Int)) /\ (ij5.toNat<lj6.length /\ ((0<=(wI (ij5+1)) /\ (wI (ij5+1))<(n0:Int)) /\ ((wI (ij5+1)).toNat<(lj6.set ij5.toNat y10).length /\ (M3 (wI (ij5+1)) ij3 n0 ((lj6.set ij5.toNat y10).set (wI (ij5+1)).toNat y11) r))))))))) /\ ((decide (ij5<(wI (ij3 - 1))))=false ->lj6≠[] /\ r=lj6)):M3 ij5 ij3 n0 lj6 r:=
 KW 10 hw (fun _ hw=>KDL 4 [0]<|KRI 8 14 hw fun hw=>KRn 0 B4 hw fun y10 hw=>KRI 2 14 hw fun hw=>KRn 0 B4 hw fun y11 hw=>KRI 0 14 hw fun hw=>KRS 0 B4 y10 hw fun hw=>KRI 0 14 hw fun hw=>KRS 0 B4 y11 hw fun hw=>KJ 9 [] hw) fun _ hw=>KRr 7 B4 hw
theorem a4a (ij4:Int) (ij3:Int) (n0:Nat) (a:Int) (cmp:GFn) (data:(List (A0 × A0))) (r:(List (A0 × A0))) (hw:((decide (ij3<ij4))=true ->(0<=(wI ((wU (wI (ij3+ij4))).fdiv (2 ^ min (1:Int).toNat IntKind.u64.bits))) /\ (wI ((wU (wI (ij3+ij4))).fdiv (2 ^ min (1:Int).toNat IntKind.u64.bits)))<(n0:Int)) /\ (∃y12,data[(wI ((wU (wI (ij3+ij4))).fdiv (2 ^ min (1:Int).toNat IntKind.u64.bits))).toNat]? =some y12 /\ ((0<=a /\ a<(n0:Int)) /\ (∃y13,data[a.toNat]? =some y13 /\ (∃y14,a41 Tryz.prog [] (.clo (.func cmp.fn) cmp.fi cmp.cap) [.agg (S3 y12),.agg (S3 y13)] (aI y14) /\ (((decide (y14<0))=true ->G3 ij4 (wI ((wI ((wU (wI (ij3+ij4))).fdiv (2 ^ min (1:Int).toNat IntKind.u64.bits)))+1)) n0 a cmp data r) /\ ((decide (y14<0))=false ->G3 (wI ((wU (wI (ij3+ij4))).fdiv (2 ^ min (1:Int).toNat IntKind.u64.bits))) ij3 n0 a cmp data r))))))) /\ ((decide (ij3<ij4))=false ->M3 a ij3 n0 data r)):G3 ij4 ij3 n0 a cmp data r:=
 KW 9 hw (fun _ hw=>KD 15 [0]<|KRI 3 14 hw fun hw=>KRn 0 B4 hw fun _ hw=>KRI 2 14 hw fun hw=>KRn 0 B4 hw fun _ hw=>KF 0 hw fun _ hw=>KW 4 hw (fun _ hw=>KJ 7 [] hw) fun _ hw=>KJ 6 [] hw) fun _ hw=>KJ 14 [] hw
theorem a3b (ij11:Int) (ij9:Int) (n0:Nat) (lj12:(List (A0 × A0))) (r:(List (A0 × A0))) (hw:((decide (ij9<ij11))=true ->(0<=(wI (ij11 - 1)) /\ (wI (ij11 - 1))<(n0:Int)) /\ (∃y24,lj12[(wI (ij11 - 1)).toNat]? =some y24 /\ ((0<=ij11 /\ ij11<(n0:Int)) /\ (∃y25,lj12[ij11.toNat]? =some y25 /\ ((0<=ij11 /\ ij11<(n0:Int)) /\ (ij11.toNat<lj12.length /\ ((0<=(wI (ij11 - 1)) /\ (wI (ij11 - 1))<(n0:Int)) /\ ((wI (ij11 - 1)).toNat<(lj12.set ij11.toNat y24).length /\ (J8 (wI (ij11 - 1)) ij9 n0 ((lj12.set ij11.toNat y24).set (wI (ij11 - 1)).toNat y25) r))))))))) /\ ((decide (ij9<ij11))=false ->lj12≠[] /\ r=lj12)):J8 ij11 ij9 n0 lj12 r:=
 KW 9 hw (fun _ hw=>KDL 4 [0]<|KRI 8 14 hw fun hw=>KRn 0 B4 hw fun y24 hw=>KRI 2 14 hw fun hw=>KRn 0 B4 hw fun y25 hw=>KRI 0 14 hw fun hw=>KRS 0 B4 y24 hw fun hw=>KRI 0 14 hw fun hw=>KRS 0 B4 y25 hw fun hw=>KJ 9 [] hw) fun _ hw=>KRr 7 B4 hw
theorem a3l (ij10:Int) (ij9:Int) (n0:Nat) (m:Int) (cmp:GFn) (data:(List (A0 × A0))) (r:(List (A0 × A0))) (hw:((decide (ij9<ij10))=true ->(0<=m /\ m<(n0:Int)) /\ (∃y26,data[m.toNat]? =some y26 /\ ((0<=(wI ((wU (wI (ij9+ij10))).fdiv (2 ^ min (1:Int).toNat IntKind.u64.bits))) /\ (wI ((wU (wI (ij9+ij10))).fdiv (2 ^ min (1:Int).toNat IntKind.u64.bits)))<(n0:Int)) /\ (∃y27,data[(wI ((wU (wI (ij9+ij10))).fdiv (2 ^ min (1:Int).toNat IntKind.u64.bits))).toNat]? =some y27 /\ (∃y28,a41 Tryz.prog [] (.clo (.func cmp.fn) cmp.fi cmp.cap) [.agg (S3 y26),.agg (S3 y27)] (aI y28) /\ (((!(decide (y28<0)))=true ->F5 ij10 (wI ((wI ((wU (wI (ij9+ij10))).fdiv (2 ^ min (1:Int).toNat IntKind.u64.bits)))+1)) n0 m cmp data r) /\ ((!(decide (y28<0)))=false ->F5 (wI ((wU (wI (ij9+ij10))).fdiv (2 ^ min (1:Int).toNat IntKind.u64.bits))) ij9 n0 m cmp data r))))))) /\ ((decide (ij9<ij10))=false ->J8 m ij9 n0 data r)):F5 ij10 ij9 n0 m cmp data r:=
 KW 9 hw (fun _ hw=>KD 15 [0]<|KRI 3 14 hw fun hw=>KRn 0 B4 hw fun _ hw=>KRI 2 14 hw fun hw=>KRn 0 B4 hw fun _ hw=>KF 0 hw fun _ hw=>KW 5 hw (fun _ hw=>KJ 7 [] hw) fun _ hw=>KJ 6 [] hw) fun _ hw=>KJ 14 [] hw
theorem a3a (a:Int) (b:Int) (m:Int) (ij26:Int) (n0:Nat) (cmp:GFn) (lj30:(List (A0 × A0))) (r:(List (A0 × A0))) (hw:(((decide ((wI ((wU (wI (a+b))).fdiv (2 ^ min (1:Int).toNat IntKind.u64.bits)))<(wI ((wI ((wI ((wU (wI (a+b))).fdiv (2 ^ min (1:Int).toNat IntKind.u64.bits)))+m)) - ij26))))&&(decide ((wI ((wI ((wI ((wU (wI (a+b))).fdiv (2 ^ min (1:Int).toNat IntKind.u64.bits)))+m)) - ij26))<b)))=true ->∃y65,F4 n0 lj30 (wI ((wU (wI (a+b))).fdiv (2 ^ min (1:Int).toNat IntKind.u64.bits))) (wI ((wI ((wI ((wU (wI (a+b))).fdiv (2 ^ min (1:Int).toNat IntKind.u64.bits)))+m)) - ij26)) b cmp y65 /\ (lj30≠[] /\ y65≠[]) /\ (y65≠[] /\ r=y65)) /\ (((decide ((wI ((wU (wI (a+b))).fdiv (2 ^ min (1:Int).toNat IntKind.u64.bits)))<(wI ((wI ((wI ((wU (wI (a+b))).fdiv (2 ^ min (1:Int).toNat IntKind.u64.bits)))+m)) - ij26))))&&(decide ((wI ((wI ((wI ((wU (wI (a+b))).fdiv (2 ^ min (1:Int).toNat IntKind.u64.bits)))+m)) - ij26))<b)))=false ->lj30≠[] /\ r=lj30)):J7 a b m ij26 n0 cmp lj30 r:=
 KT 6 4<|KW 2 hw (fun _ hw=>KRO 6 B4 hw d77 fun _ hw=>KRr 1 B4 hw) fun _ hw=>KRr 1 B4 hw
theorem a3g (a:Int) (b:Int) (m:Int) (ij26:Int) (n0:Nat) (cmp:GFn) (lj29:(List (A0 × A0))) (r:(List (A0 × A0))) (hw:(((decide (a<ij26))&&(decide (ij26<(wI ((wU (wI (a+b))).fdiv (2 ^ min (1:Int).toNat IntKind.u64.bits))))))=true ->∃y63,F4 n0 lj29 a ij26 (wI ((wU (wI (a+b))).fdiv (2 ^ min (1:Int).toNat IntKind.u64.bits))) cmp y63 /\ (lj29≠[] /\ y63≠[]) /\ (J7 a b m ij26 n0 cmp y63 r)) /\ (((decide (a<ij26))&&(decide (ij26<(wI ((wU (wI (a+b))).fdiv (2 ^ min (1:Int).toNat IntKind.u64.bits))))))=false ->J7 a b m ij26 n0 cmp lj29 r)):K2 a b m ij26 n0 cmp lj29 r:=
 KT 7 4<|KW 2 hw (fun _ hw=>KRO 6 B4 hw d77 fun _ hw=>KJ 2 [] hw) fun _ hw=>KJ 2 [] hw
theorem a3m (a:Int) (b:Int) (m:Int) (ij27:Int) (ij26:Int) (n0:Nat) (cmp:GFn) (data:(List (A0 × A0))) (r:(List (A0 × A0))) (hw:((decide (ij26<ij27))=true ->(0<=(wI ((wI ((wI ((wI ((wU (wI (a+b))).fdiv (2 ^ min (1:Int).toNat IntKind.u64.bits)))+m)) - 1)) - (wI ((wU (wI (ij26+ij27))).fdiv (2 ^ min (1:Int).toNat IntKind.u64.bits))))) /\ (wI ((wI ((wI ((wI ((wU (wI (a+b))).fdiv (2 ^ min (1:Int).toNat IntKind.u64.bits)))+m)) - 1)) - (wI ((wU (wI (ij26+ij27))).fdiv (2 ^ min (1:Int).toNat IntKind.u64.bits)))))<(n0:Int)) /\ (∃y66,data[(wI ((wI ((wI ((wI ((wU (wI (a+b))).fdiv (2 ^ min (1:Int).toNat IntKind.u64.bits)))+m)) - 1)) - (wI ((wU (wI (ij26+ij27))).fdiv (2 ^ min (1:Int).toNat IntKind.u64.bits))))).toNat]? =some y66 /\ ((0<=(wI ((wU (wI (ij26+ij27))).fdiv (2 ^ min (1:Int).toNat IntKind.u64.bits))) /\ (wI ((wU (wI (ij26+ij27))).fdiv (2 ^ min (1:Int).toNat IntKind.u64.bits)))<(n0:Int)) /\ (∃y67,data[(wI ((wU (wI (ij26+ij27))).fdiv (2 ^ min (1:Int).toNat IntKind.u64.bits))).toNat]? =some y67 /\ (∃y68,a41 Tryz.prog [] (.clo (.func cmp.fn) cmp.fi cmp.cap) [.agg (S3 y66),.agg (S3 y67)] (aI y68) /\ (((!(decide (y68<0)))=true ->F0 a b m ij27 (wI ((wI ((wU (wI (ij26+ij27))).fdiv (2 ^ min (1:Int).toNat IntKind.u64.bits)))+1)) n0 cmp data r) /\ ((!(decide (y68<0)))=false ->F0 a b m (wI ((wU (wI (ij26+ij27))).fdiv (2 ^ min (1:Int).toNat IntKind.u64.bits))) ij26 n0 cmp data r))))))) /\ ((decide (ij26<ij27))=false ->(((decide (ij26<m))&&(decide (m<(wI ((wI ((wI ((wU (wI (a+b))).fdiv (2 ^ min (1:Int).toNat IntKind.u64.bits)))+m)) - ij26)))))=true ->∃y59,X8 n0 data ij26 m (wI ((wI ((wI ((wU (wI (a+b))).fdiv (2 ^ min (1:Int).toNat IntKind.u64.bits)))+m)) - ij26)) cmp y59 /\ (data≠[] /\ y59≠[]) /\ (K2 a b m ij26 n0 cmp y59 r)) /\ (((decide (ij26<m))&&(decide (m<(wI ((wI ((wI ((wU (wI (a+b))).fdiv (2 ^ min (1:Int).toNat IntKind.u64.bits)))+m)) - ij26)))))=false ->K2 a b m ij26 n0 cmp data r))):F0 a b m ij27 ij26 n0 cmp data r:=
 KW 9 hw (fun _ hw=>KD 15 [0]<|KRI 5 14 hw fun hw=>KRn 0 B4 hw fun _ hw=>KRI 2 14 hw fun hw=>KRn 0 B4 hw fun _ hw=>KF 0 hw fun _ hw=>KW 5 hw (fun _ hw=>KJ 7 [] hw) fun _ hw=>KJ 6 [] hw) fun _ hw=>KT 20 4<|KW 2 hw (fun _ hw=>KRO 6 B4 hw g1d fun _ hw=>KJ 2 [] hw) fun _ hw=>KJ 2 [] hw
theorem a25 (ij21:Int) (ij22:Int) (a:Int) (b:Int) (m:Int) (n0:Nat) (cmp:GFn) (data:(List (A0 × A0))) (r:(List (A0 × A0))) (hw:F0 a b m ij21 ij22 n0 cmp data r):K4 ij21 ij22 a b m n0 cmp data r:=
 KJ 10 [] hw
theorem a6b (n0:Nat) (data:(List (A0 × A0))) (a:Int) (m:Int) (b:Int) (cmp:GFn) (r:(List (A0 × A0))) (hw:(((wI (m - a))==1)=true ->G3 b m n0 a cmp data r) /\ (((wI (m - a))==1)=false ->(((wI (b - m))==1)=true ->F5 m a n0 m cmp data r) /\ (((wI (b - m))==1)=false ->((decide ((wI ((wU (wI (a+b))).fdiv (2 ^ min (1:Int).toNat IntKind.u64.bits)))<m))=true ->K4 (wI ((wU (wI (a+b))).fdiv (2 ^ min (1:Int).toNat IntKind.u64.bits))) (wI ((wI ((wI ((wU (wI (a+b))).fdiv (2 ^ min (1:Int).toNat IntKind.u64.bits)))+m)) - b)) a b m n0 cmp data r) /\ ((decide ((wI ((wU (wI (a+b))).fdiv (2 ^ min (1:Int).toNat IntKind.u64.bits)))<m))=false ->K4 m a a b m n0 cmp data r)))):F4 n0 data a m b cmp r:=
 fRO (KW 9 hw (fun _ hw=>KJ 15 [] hw) fun _ hw=>KW 11 hw (fun _ hw=>KJ 15 [] hw) fun _ hw=>KW 35 hw (fun _ hw=>KJ 13 [] hw) fun _ hw=>KJ 11 [] hw)
theorem g2i (r:Bool):plain (g9m r)=true:=rfl
theorem a7i (x:ByteArray) (r:Bool) (hw:r=(!(decide (x=x)))):a8l x r:=
 fP (KR 14 hw g2i)
theorem f85 (r:Bool):plain (g7x r)=true:=rfl
theorem a7j (x:Int) (r:Bool) (hw:r=(x !=x)):a8n x r:=
 fP (KR 14 hw f85)
theorem f3d (r:Int):plain (g7e r)=true:=rfl
def M0 (ij1:Int) (s:(List (A0 × A0))) (f:GFn) (r:Int):Prop:=JP Tryz.prog 233 (g7e r) 3 [(8,aI ij1),(7,aI (s.length:Int)),(0,.sl (List.map A8 s) .no),(1,.clo (.func f.fn) f.fi f.cap)]
theorem a4i (ij1:Int) (s:(List (A0 × A0))) (f:GFn) (r:Int) (hw:((decide (ij1<(s.length:Int)))=true ->∃y3,s[ij1.toNat]? =some y3 /\ 0<=ij1 /\ (∃y4,a41 Tryz.prog [] (.clo (.func f.fn) f.fi f.cap) [.agg (S3 y3)] (aB y4) /\ ((y4=true ->r=ij1) /\ (y4=false ->M0 (wI (ij1+1)) s f r)))) /\ ((decide (ij1<(s.length:Int)))=false ->r=(-1))):M0 ij1 s f r:=
 KW 7 hw (fun _ hw=>KI 15 B4 hw fun _ hw=>KF 1 hw fun _ hw=>KW 2 hw (fun _ hw=>KR 12 hw f3d) fun _ hw=>KJ 8 [] hw) fun _ hw=>KR 11 hw f3d
theorem a6d (s:(List (A0 × A0))) (f:GFn) (r:Int) (hw:M0 0 s f r):a1q s f r:=
 fP (KL 9 B4 s<|KJ 5 [] hw)
def J9 (ij1:Int) (n0:Nat) (a:Int) (b:Int) (n:Int) (lj2:(List (Int × A0))) (r:(List (Int × A0))):Prop:=J Tryz.prog 234 (.io 0 (.tuple []) (cellsOf A9 r) []) 1 [(10,aI ij1),(0,.row 0 0 8 n0 n0),(1,aI a),(2,aI b),(3,aI n)] ⟨[some (cellsOf A9 lj2)],[],[]⟩
theorem a24 (ij1:Int) (n0:Nat) (a:Int) (b:Int) (n:Int) (lj2:(List (Int × A0))) (r:(List (Int × A0))) (hw:((decide (ij1<n))=true ->(0<=(wI (b+ij1)) /\ (wI (b+ij1))<(n0:Int)) /\ (∃y3,lj2[(wI (b+ij1)).toNat]? =some y3 /\ ((0<=(wI (a+ij1)) /\ (wI (a+ij1))<(n0:Int)) /\ (∃y4,lj2[(wI (a+ij1)).toNat]? =some y4 /\ ((0<=(wI (a+ij1)) /\ (wI (a+ij1))<(n0:Int)) /\ ((wI (a+ij1)).toNat<lj2.length /\ ((0<=(wI (b+ij1)) /\ (wI (b+ij1))<(n0:Int)) /\ ((wI (b+ij1)).toNat<(lj2.set (wI (a+ij1)).toNat y3).length /\ (J9 (wI (ij1+1)) n0 a b n ((lj2.set (wI (a+ij1)).toNat y3).set (wI (b+ij1)).toNat y4) r))))))))) /\ ((decide (ij1<n))=false ->lj2≠[] /\ r=lj2)):J9 ij1 n0 a b n lj2 r:=
 KW 9 hw (fun _ hw=>KDL 4 [0]<|KRI 12 8 hw fun hw=>KRn 0 B7 hw fun y3 hw=>KRI 4 8 hw fun hw=>KRn 0 B7 hw fun y4 hw=>KRI 0 8 hw fun hw=>KRS 0 B7 y3 hw fun hw=>KRI 0 8 hw fun hw=>KRS 0 B7 y4 hw fun hw=>KJ 9 [] hw) fun _ hw=>KRr 4 B7 hw
theorem a5k (n0:Nat) (data:(List (Int × A0))) (a:Int) (b:Int) (n:Int) (cmp:GFn) (r:(List (Int × A0))) (hw:J9 0 n0 a b n data r):I6 n0 data a b n cmp r:=
 fRO (KJ 7 [] hw)
def I4 (ij3:Int) (ij1:Int) (n0:Nat) (m:Int) (cmp:GFn) (lj2:(List (A0 × A0))) (r:(List (A0 × A0))):Prop:=J Tryz.prog 235 (.io 0 (.tuple []) (cellsOf A8 r) []) 3 [(11,aI ij3),(10,aI ij1),(0,.row 0 0 14 n0 n0),(2,aI m),(4,.clo (.func cmp.fn) cmp.fi cmp.cap)] ⟨[some (cellsOf A8 lj2)],[],[]⟩
theorem a5r (ij3:Int) (ij1:Int) (n0:Nat) (m:Int) (cmp:GFn) (lj2:(List (A0 × A0))) (r:(List (A0 × A0))) (hw:((ij1 !=ij3)=true ->((decide (ij3<ij1))=true ->∃y5,I3 n0 lj2 (wI (m - ij1)) m ij3 cmp y5 /\ (lj2≠[] /\ y5≠[]) /\ (I4 ij3 (wI (ij1 - ij3)) n0 m cmp y5 r)) /\ ((decide (ij3<ij1))=false ->∃y6,I3 n0 lj2 (wI (m - ij1)) (wI ((wI (m+ij3)) - ij1)) ij1 cmp y6 /\ (lj2≠[] /\ y6≠[]) /\ (I4 (wI (ij3 - ij1)) ij1 n0 m cmp y6 r))) /\ ((ij1 !=ij3)=false ->∃y4,I3 n0 lj2 (wI (m - ij1)) m ij1 cmp y4 /\ (lj2≠[] /\ y4≠[]) /\ (y4≠[] /\ r=y4))):I4 ij3 ij1 n0 m cmp lj2 r:=
 KW 9 hw (fun _ hw=>KW 10 hw (fun _ hw=>KRO 9 B4 hw e5b fun _ hw=>KJ 10 [] hw) fun _ hw=>KRO 13 B4 hw e5b fun _ hw=>KJ 10 [] hw) fun _ hw=>KRO 13 B4 hw e5b fun _ hw=>KRr 1 B4 hw
theorem a74 (n0:Nat) (data:(List (A0 × A0))) (a:Int) (m:Int) (b:Int) (cmp:GFn) (r:(List (A0 × A0))) (hw:I4 (wI (b - m)) (wI (m - a)) n0 m cmp data r):X8 n0 data a m b cmp r:=
 fRO (KJ 19 [] hw)
def K6 (ij1:Int) (n0:Nat) (a:Int) (b:Int) (n:Int) (lj2:(List (A0 × A0))) (r:(List (A0 × A0))):Prop:=J Tryz.prog 236 (.io 0 (.tuple []) (cellsOf A8 r) []) 1 [(10,aI ij1),(0,.row 0 0 14 n0 n0),(1,aI a),(2,aI b),(3,aI n)] ⟨[some (cellsOf A8 lj2)],[],[]⟩
theorem a3i (ij1:Int) (n0:Nat) (a:Int) (b:Int) (n:Int) (lj2:(List (A0 × A0))) (r:(List (A0 × A0))) (hw:((decide (ij1<n))=true ->(0<=(wI (b+ij1)) /\ (wI (b+ij1))<(n0:Int)) /\ (∃y3,lj2[(wI (b+ij1)).toNat]? =some y3 /\ ((0<=(wI (a+ij1)) /\ (wI (a+ij1))<(n0:Int)) /\ (∃y4,lj2[(wI (a+ij1)).toNat]? =some y4 /\ ((0<=(wI (a+ij1)) /\ (wI (a+ij1))<(n0:Int)) /\ ((wI (a+ij1)).toNat<lj2.length /\ ((0<=(wI (b+ij1)) /\ (wI (b+ij1))<(n0:Int)) /\ ((wI (b+ij1)).toNat<(lj2.set (wI (a+ij1)).toNat y3).length /\ (K6 (wI (ij1+1)) n0 a b n ((lj2.set (wI (a+ij1)).toNat y3).set (wI (b+ij1)).toNat y4) r))))))))) /\ ((decide (ij1<n))=false ->lj2≠[] /\ r=lj2)):K6 ij1 n0 a b n lj2 r:=
 KW 9 hw (fun _ hw=>KDL 4 [0]<|KRI 12 14 hw fun hw=>KRn 0 B4 hw fun y3 hw=>KRI 4 14 hw fun hw=>KRn 0 B4 hw fun y4 hw=>KRI 0 14 hw fun hw=>KRS 0 B4 y3 hw fun hw=>KRI 0 14 hw fun hw=>KRS 0 B4 y4 hw fun hw=>KJ 9 [] hw) fun _ hw=>KRr 4 B4 hw
theorem a5u (n0:Nat) (data:(List (A0 × A0))) (a:Int) (b:Int) (n:Int) (cmp:GFn) (r:(List (A0 × A0))) (hw:K6 0 n0 a b n data r):I3 n0 data a b n cmp r:=
 fRO (KJ 7 [] hw)
theorem g6k (r:Bool):plain (e86 r)=true:=rfl
theorem b80 (it:b2t) (c1_:Int) (r:Bool) (hw:r=((wU it.Num)==c1_)):b8y it c1_ r:=
 fP (KR 17 hw g6k)
theorem c09 (it:b2t) (c1_:Int) (r:Bool) (h:b8y it c1_ r):a41 Tryz.prog [] (.clo (.func 86) [] [.elt (b5s c1_) 0]) [.agg (a1z it)] (aB r):=⟨86,[],[.elt (b5s c1_) 0],rfl,(show plainL [.agg (a1z it),.elt (b5s c1_) 0]=true by simp),h⟩
theorem f8j (r:Bool):plain (g8u r)=true:=rfl
theorem c5m (g:C1) (c1_:ByteArray) (r:Bool) (hw:r=(decide (g.Name=c1_))):c8k g c1_ r:=
 fP (KR 16 hw f8j)
theorem c9k (g:C1) (c1_:ByteArray) (r:Bool) (h:c8k g c1_ r):a41 Tryz.prog [] (.clo (.func 100) [] [.elt (e2h c1_) 0]) [.agg (D9 g)] (aB r):=⟨100,[],[.elt (e2h c1_) 0],rfl,(show plainL [.agg (D9 g),.elt (e2h c1_) 0]=true by simp),h⟩
theorem f9p (r:Bool):plain (g9i r)=true:=rfl
theorem a88 (y:(Int × A0)) (c1_:GOp) (r:Bool) (hw:r=(y.1==c1_.Num)):a5q y c1_ r:=
 fP (KR 17 hw f9p)
theorem b0m (y:(Int × A0)) (c1_:GOp) (r:Bool) (h:a5q y c1_ r):a41 Tryz.prog [] (.clo (.func 155) [] [.elt (U2 c1_) 0]) [.agg (U5 y)] (aB r):=⟨155,[],[.elt (U2 c1_) 0],rfl,(show plainL [.agg (U5 y),.elt (U2 c1_) 0]=true by simp),h⟩
theorem f8p (r:Bool):plain (g8e r)=true:=rfl
theorem d0b (o_:GOp) (c1_:Int) (r:Bool) (hw:r=(o_.Num==c1_)):d5p o_ c1_ r:=
 fP (KR 16 hw f8p)
theorem d2p (o_:GOp) (c1_:Int) (r:Bool) (h:d5p o_ c1_ r):a41 Tryz.prog [] (.clo (.func 161) [] [.elt (a7o c1_) 0]) [.agg (U2 o_)] (aB r):=⟨161,[],[.elt (a7o c1_) 0],rfl,(show plainL [.agg (U2 o_),.elt (a7o c1_) 0]=true by simp),h⟩
theorem g0c (r:Bool):plain (g80 r)=true:=rfl
theorem b22 (y:(Int × A0)) (c1_:GOp) (r:Bool) (hw:r=(y.1==c1_.Num)):a82 y c1_ r:=
 fP (KR 17 hw g0c)
theorem b31 (y:(Int × A0)) (c1_:GOp) (r:Bool) (h:a82 y c1_ r):a41 Tryz.prog [] (.clo (.func 185) [] [.elt (U2 c1_) 0]) [.agg (U5 y)] (aB r):=⟨185,[],[.elt (U2 c1_) 0],rfl,(show plainL [.agg (U5 y),.elt (U2 c1_) 0]=true by simp),h⟩
theorem g00 (r:Bool):plain (g9y r)=true:=rfl
theorem a87 (q:(A0 × A0)) (c1_:(A0 × A0)) (r:Bool) (hw:∃y1,b1d q.1 c1_.1 y1 /\ (r=y1)):a52 q c1_ r:=
 fP (KC 12 hw f58 fun _ hw=>KR 4 hw g00)
theorem b0v (q:(A0 × A0)) (c1_:(A0 × A0)) (r:Bool) (h:a52 q c1_ r):a41 Tryz.prog [] (.clo (.func 226) [] [.elt (S3 c1_) 0]) [.agg (S3 q)] (aB r):=⟨226,[],[.elt (S3 c1_) 0],rfl,(show plainL [.agg (S3 q),.elt (S3 c1_) 0]=true by simp),h⟩
end
section
def f2f (cmp:GFn) (x y:(A0 × A0)) (z:Int):Prop:=a41 Tryz.prog [] (.clo (.func cmp.fn) cmp.fi cmp.cap) [.agg (S3 x),.agg (S3 y)] (.v (.int .i64 z))
def e4b (cmp:GFn):d2i ((A0 × A0)) (f2f cmp) where
 swj:=fun a0 a1 a2 a3 a4 a5 a6=>K6 a0 a1 a2 a3 a4 a5 a6
 sw:=fun a0 a1 a2 a3 a4 a6=>I3 a0 a1 a2 a3 a4 cmp a6
 roj:=fun a0 a1 a2 a3 a5 a6=>I4 a0 a1 a2 a3 cmp a5 a6
 ro:=fun a0 a1 a2 a3 a4 a6=>X8 a0 a1 a2 a3 a4 cmp a6
 in6:=fun a0 a1 a2 a3 a4 a6 a7=>H2 a0 a1 a2 a3 a4 cmp a6 a7
 in4:=fun a0 a1 a2 a3 a5 a6=>H3 a0 a1 a2 a3 cmp a5 a6
 ins:=fun a0 a1 a2 a3 a5=>J3 a0 a1 a2 a3 cmp a5
 sy6:=fun a0 a1 a2 a3 a4=>M3 a0 a1 a2 a3 a4
 sy4:=fun a0 a1 a2 a3 a5 a6=>G3 a0 a1 a2 a3 cmp a5 a6
 sy12:=fun a0 a1 a2 a3 a4=>J8 a0 a1 a2 a3 a4
 sy10:=fun a0 a1 a2 a3 a5 a6=>F5 a0 a1 a2 a3 cmp a5 a6
 sy42:=fun a0 a1 a2 a3 a4 a6 a7=>J7 a0 a1 a2 a3 a4 cmp a6 a7
 sy40:=fun a0 a1 a2 a3 a4 a6 a7=>K2 a0 a1 a2 a3 a4 cmp a6 a7
 sy36:=fun a0 a1 a2 a3 a4 a5 a7 a8=>F0 a0 a1 a2 a3 a4 a5 cmp a7 a8
 sy28:=fun a0 a1 a2 a3 a4 a5 a7 a8=>K4 a0 a1 a2 a3 a4 a5 cmp a7 a8
 sy:=fun a0 a1 a2 a3 a4 a6=>F4 a0 a1 a2 a3 a4 cmp a6
 st14:=fun a0 a1 a2 a3 a4 a6 a7=>N0 a0 a1 a2 a3 a4 cmp a6 a7
 st12:=fun a0 a1 a2 a4 a5=>H5 a0 a1 a2 cmp a4 a5
 st8:=fun a0 a1 a2 a3 a5 a6=>N8 a0 a1 a2 a3 cmp a5 a6
 st:=fun a0 a1 a2 a4=>X5 a0 a1 a2 cmp a4
 so:=fun a0 a1 a3=>P3 a0 a1 cmp a3
 h_swj:=fun a0 a1 a2 a3 a4 a5 a6 h=>a3i a0 a1 a2 a3 a4 a5 a6 h
 h_sw:=fun a0 a1 a2 a3 a4 a6 h=>a5u a0 a1 a2 a3 a4 cmp a6 h
 h_roj:=fun a0 a1 a2 a3 a5 a6 h=>a5r a0 a1 a2 a3 cmp a5 a6 h
 h_ro:=fun a0 a1 a2 a3 a4 a6 h=>a74 a0 a1 a2 a3 a4 cmp a6 h
 h_in6:=fun a0 a1 a2 a3 a4 a6 a7 h=>a1c a0 a1 a2 a3 a4 cmp a6 a7 h
 h_in4:=fun a0 a1 a2 a3 a5 a6 h=>a1e a0 a1 a2 a3 cmp a5 a6 h
 h_ins:=fun a0 a1 a2 a3 a5 h=>a2w a0 a1 a2 a3 cmp a5 h
 h_sy6:=fun a0 a1 a2 a3 a4 h=>a38 a0 a1 a2 a3 a4 h
 h_sy4:=fun a0 a1 a2 a3 a5 a6 h=>a4a a0 a1 a2 a3 cmp a5 a6 h
 h_sy12:=fun a0 a1 a2 a3 a4 h=>a3b a0 a1 a2 a3 a4 h
 h_sy10:=fun a0 a1 a2 a3 a5 a6 h=>a3l a0 a1 a2 a3 cmp a5 a6 h
 h_sy42:=fun a0 a1 a2 a3 a4 a6 a7 h=>a3a a0 a1 a2 a3 a4 cmp a6 a7 h
 h_sy40:=fun a0 a1 a2 a3 a4 a6 a7 h=>a3g a0 a1 a2 a3 a4 cmp a6 a7 h
 h_sy36:=fun a0 a1 a2 a3 a4 a5 a7 a8 h=>a3m a0 a1 a2 a3 a4 a5 cmp a7 a8 h
 h_sy28:=fun a0 a1 a2 a3 a4 a5 a7 a8 h=>a25 a0 a1 a2 a3 a4 a5 cmp a7 a8 h
 h_sy:=fun a0 a1 a2 a3 a4 a6 h=>a6b a0 a1 a2 a3 a4 cmp a6 h
 h_st14:=fun a0 a1 a2 a3 a4 a6 a7 h=>a4x a0 a1 a2 a3 a4 cmp a6 a7 h
 h_st12:=fun a0 a1 a2 a4 a5 h=>a4y a0 a1 a2 cmp a4 a5 h
 h_st8:=fun a0 a1 a2 a3 a5 a6 h=>a5a a0 a1 a2 a3 cmp a5 a6 h
 h_st:=fun a0 a1 a2 a4 h=>a7k a0 a1 a2 cmp a4 h
 h_so:=fun a0 a1 a3 h=>a21 a0 a1 cmp a3 h
def f2z (cmp:GFn) (x y:(Int × A0)) (z:Int):Prop:=a41 Tryz.prog [] (.clo (.func cmp.fn) cmp.fi cmp.cap) [.agg (U5 x),.agg (U5 y)] (.v (.int .i64 z))
def e39 (cmp:GFn):d2i ((Int × A0)) (f2z cmp) where
 swj:=fun a0 a1 a2 a3 a4 a5 a6=>J9 a0 a1 a2 a3 a4 a5 a6
 sw:=fun a0 a1 a2 a3 a4 a6=>I6 a0 a1 a2 a3 a4 cmp a6
 roj:=fun a0 a1 a2 a3 a5 a6=>I7 a0 a1 a2 a3 cmp a5 a6
 ro:=fun a0 a1 a2 a3 a4 a6=>X9 a0 a1 a2 a3 a4 cmp a6
 in6:=fun a0 a1 a2 a3 a4 a6 a7=>G7 a0 a1 a2 a3 a4 cmp a6 a7
 in4:=fun a0 a1 a2 a3 a5 a6=>G9 a0 a1 a2 a3 cmp a5 a6
 ins:=fun a0 a1 a2 a3 a5=>J4 a0 a1 a2 a3 cmp a5
 sy6:=fun a0 a1 a2 a3 a4=>L9 a0 a1 a2 a3 a4
 sy4:=fun a0 a1 a2 a3 a5 a6=>G4 a0 a1 a2 a3 cmp a5 a6
 sy12:=fun a0 a1 a2 a3 a4=>K3 a0 a1 a2 a3 a4
 sy10:=fun a0 a1 a2 a3 a5 a6=>F6 a0 a1 a2 a3 cmp a5 a6
 sy42:=fun a0 a1 a2 a3 a4 a6 a7=>K5 a0 a1 a2 a3 a4 cmp a6 a7
 sy40:=fun a0 a1 a2 a3 a4 a6 a7=>K1 a0 a1 a2 a3 a4 cmp a6 a7
 sy36:=fun a0 a1 a2 a3 a4 a5 a7 a8=>E9 a0 a1 a2 a3 a4 a5 cmp a7 a8
 sy28:=fun a0 a1 a2 a3 a4 a5 a7 a8=>K7 a0 a1 a2 a3 a4 a5 cmp a7 a8
 sy:=fun a0 a1 a2 a3 a4 a6=>F1 a0 a1 a2 a3 a4 cmp a6
 st14:=fun a0 a1 a2 a3 a4 a6 a7=>N1 a0 a1 a2 a3 a4 cmp a6 a7
 st12:=fun a0 a1 a2 a4 a5=>H6 a0 a1 a2 cmp a4 a5
 st8:=fun a0 a1 a2 a3 a5 a6=>O1 a0 a1 a2 a3 cmp a5 a6
 st:=fun a0 a1 a2 a4=>X7 a0 a1 a2 cmp a4
 so:=fun a0 a1 a3=>P0 a0 a1 cmp a3
 h_swj:=fun a0 a1 a2 a3 a4 a5 a6 h=>a24 a0 a1 a2 a3 a4 a5 a6 h
 h_sw:=fun a0 a1 a2 a3 a4 a6 h=>a5k a0 a1 a2 a3 a4 cmp a6 h
 h_roj:=fun a0 a1 a2 a3 a5 a6 h=>a43 a0 a1 a2 a3 cmp a5 a6 h
 h_ro:=fun a0 a1 a2 a3 a4 a6 h=>a8h a0 a1 a2 a3 a4 cmp a6 h
 h_in6:=fun a0 a1 a2 a3 a4 a6 a7 h=>a1d a0 a1 a2 a3 a4 cmp a6 a7 h
 h_in4:=fun a0 a1 a2 a3 a5 a6 h=>a1b a0 a1 a2 a3 cmp a5 a6 h
 h_ins:=fun a0 a1 a2 a3 a5 h=>a2s a0 a1 a2 a3 cmp a5 h
 h_sy6:=fun a0 a1 a2 a3 a4 h=>a33 a0 a1 a2 a3 a4 h
 h_sy4:=fun a0 a1 a2 a3 a5 a6 h=>a37 a0 a1 a2 a3 cmp a5 a6 h
 h_sy12:=fun a0 a1 a2 a3 a4 h=>a3c a0 a1 a2 a3 a4 h
 h_sy10:=fun a0 a1 a2 a3 a5 a6 h=>a3e a0 a1 a2 a3 cmp a5 a6 h
 h_sy42:=fun a0 a1 a2 a3 a4 a6 a7 h=>a29 a0 a1 a2 a3 a4 cmp a6 a7 h
 h_sy40:=fun a0 a1 a2 a3 a4 a6 a7 h=>a27 a0 a1 a2 a3 a4 cmp a6 a7 h
 h_sy36:=fun a0 a1 a2 a3 a4 a5 a7 a8 h=>a3h a0 a1 a2 a3 a4 a5 cmp a7 a8 h
 h_sy28:=fun a0 a1 a2 a3 a4 a5 a7 a8 h=>a3k a0 a1 a2 a3 a4 a5 cmp a7 a8 h
 h_sy:=fun a0 a1 a2 a3 a4 a6 h=>a54 a0 a1 a2 a3 a4 cmp a6 h
 h_st14:=fun a0 a1 a2 a3 a4 a6 a7 h=>a42 a0 a1 a2 a3 a4 cmp a6 a7 h
 h_st12:=fun a0 a1 a2 a4 a5 h=>a4z a0 a1 a2 cmp a4 a5 h
 h_st8:=fun a0 a1 a2 a3 a5 a6 h=>a50 a0 a1 a2 a3 cmp a5 a6 h
 h_st:=fun a0 a1 a2 a4 h=>a8g a0 a1 a2 cmp a4 h
 h_so:=fun a0 a1 a3 h=>a20 a0 a1 cmp a3 h
attribute [local irreducible] Ok run put d3o br jn pos dr0 dr1 So
theorem a4f (f:Nat):B5 Tryz.prog [] 228 [.sl [] .no,aI 0,aI 0,.clo (.func f) [] []] (.tuple []):=
 fP (KKn 18 (B:=false) (b:=false) rfl<|KR (T:=Unit) (e:=fun _=>.tuple []) (r:=()) (r0:=()) 4 rfl (fun _=>rfl))
theorem a34 (f:Nat):B5 Tryz.prog [] 218 [.sl [] .no,aI 0,.clo (.func f) [] []] (.tuple []):=
 fP (KKn 24 (B:=false) (b:=false) rfl<|KC0 11 (p:=True) ⟨a4f f,trivial⟩ rfl fun _=>KKn 13 (B:=false) (b:=false) rfl<|KR (T:=Unit) (e:=fun _=>.tuple []) (r:=()) (r0:=()) 4 rfl (fun _=>rfl))
theorem a1h (f:Nat):V1 (⟨f,[],[],rfl⟩:GFn):=
 fP (KL 3 B4 []<|KC0 1 (p:=True) ⟨a34 f,trivial⟩ rfl fun _=>KR (T:=Unit) (e:=fun _=>.tuple []) (r:=()) (r0:=()) 1 rfl (fun _=>rfl))
theorem a35 (f:Nat):B5 Tryz.prog [] 216 [.sl [] .no,aI 0,aI 0,.clo (.func f) [] []] (.tuple []):=
 fP (KKn 18 (B:=false) (b:=false) rfl<|KR (T:=Unit) (e:=fun _=>.tuple []) (r:=()) (r0:=()) 4 rfl (fun _=>rfl))
theorem a4d (f:Nat):B5 Tryz.prog [] 189 [.sl [] .no,aI 0,.clo (.func f) [] []] (.tuple []):=
 fP (KKn 24 (B:=false) (b:=false) rfl<|KC0 11 (p:=True) ⟨a35 f,trivial⟩ rfl fun _=>KKn 13 (B:=false) (b:=false) rfl<|KR (T:=Unit) (e:=fun _=>.tuple []) (r:=()) (r0:=()) 4 rfl (fun _=>rfl))
theorem a1i (f:Nat):U9 (⟨f,[],[],rfl⟩:GFn):=
 fP (KL 3 B7 []<|KC0 1 (p:=True) ⟨a4d f,trivial⟩ rfl fun _=>KR (T:=Unit) (e:=fun _=>.tuple []) (r:=()) (r0:=()) 1 rfl (fun _=>rfl))
theorem a5g (f:Nat):B5 Tryz.prog [] 195 [.sl [] .no,aI 0,aI 0,.clo (.func f) [] []] (.tuple []):=
 fP (KKn 18 (B:=false) (b:=false) rfl<|KR (T:=Unit) (e:=fun _=>.tuple []) (r:=()) (r0:=()) 4 rfl (fun _=>rfl))
theorem a5y (f:Nat):B5 Tryz.prog [] 166 [.sl [] .no,aI 0,.clo (.func f) [] []] (.tuple []):=
 fP (KKn 24 (B:=false) (b:=false) rfl<|KC0 11 (p:=True) ⟨a5g f,trivial⟩ rfl fun _=>KKn 13 (B:=false) (b:=false) rfl<|KR (T:=Unit) (e:=fun _=>.tuple []) (r:=()) (r0:=()) 4 rfl (fun _=>rfl))
theorem a2x (f:Nat):W0 (⟨f,[],[],rfl⟩:GFn):=
 fP (KL 3 a3y []<|KC0 1 (p:=True) ⟨a5y f,trivial⟩ rfl fun _=>KR (T:=Unit) (e:=fun _=>.tuple []) (r:=()) (r0:=()) 1 rfl (fun _=>rfl))
end
def a3p (x y:Int):Int:=if x<y then -1 else if y<x then 1 else 0
theorem c34 (x y:Int):O5 x y (a3p x y):=by
 refine b8h _ _ _ ⟨false,b1z _ _ (by simp),false,b1z _ _ (by simp),fun h=>by simp at h,fun _=>⟨fun h=>by simp at h,fun _=>⟨fun h=> ?_,fun h=>⟨fun h2=> ?_,fun h2=> ?_⟩⟩⟩⟩
 ·simp at h; simp [a3p,h]
 ·simp at h h2; simp [a3p,h2]; omega
 ·simp at h h2; simp only [a3p]; rw [if_neg (by omega),if_neg (by omega)]
theorem O8 (x y:Int):(x<y /\ a3p x y= -1)\/(x=y /\ a3p x y=0)\/(y<x /\ a3p x y=1):=by
 unfold a3p
 split
 ·exact .inl ⟨by assumption,rfl⟩
 ·split
  ·exact .inr (.inr ⟨by assumption,rfl⟩)
  ·exact .inr (.inl ⟨by omega,rfl⟩)
theorem e6x {α:Type} (k:α ->Int):Pre (fun x y=>a3p (k x) (k y)) (fun _:α=>True):=by
 refine ⟨fun x y _ _=> ?_,fun x y z _ _ _ h1 h2=> ?_⟩
 ·rcases O8 (k x) (k y) with h|h|h<;>rcases O8 (k y) (k x) with g|g|g<;>simp only [h.2,g.2]<;>omega
 ·rcases O8 (k x) (k y) with h|h|h<;>rcases O8 (k y) (k z) with g|g|g<;>rcases O8 (k x) (k z) with e|e|e<;>simp only [h.2,g.2,e.2] at* <;>omega
theorem e40 (a b:Int × A0):c2g a b (a3p a.1 b.1):=c1g _ _ _ ⟨_,c34 _ _,rfl⟩
theorem e01 (x y:Int × A0):f2z (⟨160,[],[],rfl⟩:GFn) x y (a3p x.1 y.1):=⟨160,[],[],rfl,(show plainL [AV.agg (U5 x),AV.agg (U5 y)]=true by simp [plainL,plain,N9]),e40 x y⟩
def c59:List (Int × A0) ->List (Int × A0)
 |[]=>[]
 |[x]=>[x]
 |x::y::l=>if x.1=y.1 then c59 (y::l) else x::c59 (y::l)
theorem e09 (S:List (Int × A0)) (hl:S.length*136<=140737488355328):∀(d i:Nat) (done:List (Int × A0)),S.length - i<=d ->i<=S.length ->done.length<=i ->a23 i S done (done++c59 (S.drop i)):=by
 intro d
 induction d with
 |zero=>
  intro i done hd hi hn
  have e:i=S.length:=by omega
  subst e
  exact a36 _ _ _ _ ⟨fun h=>by simp at h,fun _=>by simp [c59]⟩
 |succ d ih=>
  intro i done hd hi hn
  rcases Nat.lt_or_ge i S.length with hlt|hge
  ·have e1:wI ((i:Int)+1)=((i+1:Nat):Int):=by rw [wI,D2 (by omega)]; omega
   have g1:S[i]? =some S[i]:=List.getElem?_eq_getElem hlt
   have dr:S.drop i=S[i]::S.drop (i+1):=List.drop_eq_getElem_cons hlt
   refine a36 _ _ _ _ ⟨fun _=>⟨S[i],by simpa using g1,by omega,fun b=>c59 (S.drop i)=if b then S[i]::c59 (S.drop (i+1)) else c59 (S.drop (i+1)),fun b hb=>⟨fun h=> ?_,fun h=> ?_⟩,fun h=> ?_,fun h=> ?_⟩,fun h=>by simp at h; omega⟩
   ·subst h
    refine ⟨by simp; omega, ?_⟩
    rw [e1,hb]
    have:=ih (i+1) (done++[S[i]]) (by omega) (by omega) (by simp; omega)
    simpa using this
   ·subst h
    rw [e1,hb]
    exact ih (i+1) done (by omega) (by omega) (by omega)
   ·rw [e1] at h
    simp at h
    have:S.drop (i+1)=[]:=List.drop_eq_nil_of_le (by omega)
    rw [dr,this]
    rfl
   ·rw [e1] at h ⊢
    simp at h
    have h2:i+1<S.length:=by omega
    have g2:S[i+1]? =some S[i+1]:=List.getElem?_eq_getElem h2
    have dr2:S.drop (i+1)=S[i+1]::S.drop (i+1+1):=List.drop_eq_getElem_cons h2
    refine ⟨S[i+1],by simpa using g2,by omega, ?_⟩
    rw [dr,dr2]
    simp only [c59]
    rcases Classical.em (S[i].1=S[i+1].1) with h3|h3
    ·simp [h3]
    ·simp [h3]
  ·exact a36 _ _ _ _ ⟨fun h=>by simp at h; omega,fun _=>by rw [List.drop_eq_nil_of_le hge]; simp [c59]⟩
theorem f1g (l:List (Int × A0)) (hl:l.length*136<=140737488355328):∃S,c7j (fun x y:Int × A0=>a3p x.1 y.1) l S /\ a99 l (c59 S):=by
 rcases Classical.em (l=[]) with h0|h0
 ·subst h0
  refine ⟨[],⟨[],.nil,by simp [a2r],rfl⟩,b49 _ _ ⟨fun _=>⟨?_,a1i _,b9y _ _ _ ⟨fun h=>by simp at h,fun _=>rfl⟩⟩,fun h=>(h rfl).elim⟩⟩
  exact a9k _ _ fun b _=>⟨fun _=>rfl,fun _=>⟨by simp,rfl⟩⟩
 ·have hpos:0<l.length:=List.length_pos_iff.2 h0
  obtain ⟨S,h1,h2,h3⟩:=f29 (e39 ⟨160,[],[],rfl⟩) (e6x fun x:Int × A0=>x.1) (fun x y _ _=>e01 x y) (n0:=l.length) (by omega) hpos (a2r l) (by simp [a2r]) (fun _ _=>trivial) (d0w l)
  rw [c0j] at h3
  have hlen:(fs S).length=l.length:=by simp [h2.length_eq,a2r]
  refine ⟨fs S,⟨S,h1,h2,rfl⟩,b49 _ _ ⟨fun h=>(h0 h).elim,fun _=>⟨a57 _ ⟨h0,hl⟩,fs S,h3,⟨h0,fun h=> ?_⟩,hlen, ?_⟩⟩⟩
  ·rw [h] at hlen; simp at hlen; omega
  ·have:=e09 (fs S) (by rw [hlen]; exact hl) (fs S).length 0 [] (by omega) (by omega) (by simp)
   simpa using this
theorem f08 (a:Nat):a&&&4503599627370495=a % 4503599627370496:=Nat.and_two_pow_sub_one_eq_mod a 52
theorem d94 (z:Nat) (hz:z<18446744073709551616):b2a z (f2c z):=by
 have e1:I0 .and .u64 (z:Int) 9218868437227405312=((z % 9223372036854775808 / 4503599627370496*4503599627370496:Nat):Int):=by
  have:=b6i z 9218868437227405312 hz (by omega)
  rw [f7g] at this
  exact this
 have e2:I0 .and .u64 (z:Int) 4503599627370495=((z % 4503599627370496:Nat):Int):=by
  have:=b6i z 4503599627370495 hz (by omega)
  rw [f08] at this
  exact this
 refine c3j _ _ ?_
 rw [e1,e2]
 simp only [Bool.and_eq_true,Bool.and_eq_false_iff,beq_iff_eq,beq_eq_false_iff_ne,bne_iff_ne,bne_eq_false_iff_eq]
 unfold f2c
 refine ⟨fun h=> ?_,fun h=>⟨fun h2=> ?_,fun h2=>⟨fun h3=> ?_,fun h3=>⟨fun h4=> ?_,fun h4=> ?_⟩⟩⟩⟩
 all_goals (repeat' split)<;>first|rfl|(exfalso; omega)
theorem d43 (z:Nat) (hz:z<18446744073709551616):b4o z (f2c z):=by
 have e:(z:Int).tmod 9223372036854775808=((z % 9223372036854775808:Nat):Int):=rfl
 refine c5n _ _ ?_
 rw [e]
 simp only [decide_eq_true_eq,decide_eq_false_iff_not,beq_iff_eq,beq_eq_false_iff_ne]
 unfold f2c
 refine ⟨fun h=> ?_,fun h=>⟨fun h2=> ?_,fun h2=>⟨fun h3=> ?_,fun h3=>⟨fun h4=> ?_,fun h4=> ?_⟩⟩⟩⟩
 all_goals (repeat' split)<;>first|rfl|(exfalso; omega)
section
open Go.RowKit Go.ChangeShapes Go.WideShapes Go.ChangeAt
def TyV (P:Program) (n:Nat) (t:TypeId) (av:AV):Prop:=
 match P.underlying t with
 |some (.struct _)|some (.array _ _)=>∃avs,av=.agg avs /\ Ty P n t avs
 |_=>Ty P n t [av]
theorem d44 {σ:Sg} {avs:List AV} {cs:Array Value} (h:E3 σ avs cs.toList):Rel σ (.agg avs) (.agg cs):=by
 refine .agg avs cs (by simpa using h.1) (fun i av hi=>(h.2 i av hi).1) (fun i=>cs.toList[i]?.getD (.bool false)) (fun i av hi=> ?_) (fun i av hi=> ?_)
 ·obtain ⟨_,x,hx,_⟩:=h.2 i av hi
  rw [hx]; simpa using hx
 ·obtain ⟨_,x,hx,hr⟩:=h.2 i av hi
  rw [hx]; exact hr
theorem c14 {σ:Sg} {av:AV} {v:Value} (h:E3 σ [av] v.cells.toList) (hv:∀cs,v≠.agg cs):Rel σ av v:=by
 obtain ⟨_,x,hx,hr⟩:=h.2 0 av rfl
 cases v with
 |agg cs=>exact absurd rfl (hv cs)
 |_=>simp [Value.cells] at hx; subst hx; exact hr
section
variable {H:Type} {enc:TypeId × Value ->H} {P:Program} {W:World} {base b0:Nat} {spare:Nat ->Bool} {held:Bool}
end
def f67 (P:Program) (t:TypeId):List TypeId:=
 match P.underlying t with
 |some (.slice e)=>[e]
 |some (.struct fs)=>fs.toList.map (·.type)
 |some (.array _ e)=>[e]
 |_=>[]
def d9l:List TypeId ->List TypeId ->List TypeId
 |l,[]=>l
 |l,t::r=>d9l (if l.contains t then l else l++[t]) r
def d4k (P:Program):Nat ->List TypeId ->List TypeId
 |0,l=>l
 |n+1,l=>d4k P n (d9l l (l.flatMap (f67 P)))
theorem e6c (σ:Sg):c6k σ [] []:=⟨rfl,fun i av h=>by simp at h⟩
theorem c3o {σ:Sg} {a:AV} {v:Value} {l:List AV} {xs:List Value} (h:Rel σ a v) (hr:c6k σ l xs):c6k σ (a::l) (v::xs):=by
 refine ⟨by simp [hr.1],fun i av hi=> ?_⟩
 cases i with
 |zero=>simp at hi; subst hi; exact ⟨v,rfl,h⟩
 |succ i=>obtain ⟨x,h1,h2⟩:=hr.2 i av (by simpa using hi); exact ⟨x,by simpa using h1,h2⟩
theorem f6b {av:AV} (h:nz av=.v (.bool true)):av=.v (.bool true):=by
 cases av with
 |v x=>simpa [nz,nzA,nz1] using h
 |_=>simp [nz,nzA,nz1] at h
theorem e06 {P:Program} {f:FuncId} {args:List AV} {cargs:Array Value} {W:World} (hf:B5 P [] f args (.v (.bool true))) (hr:c6k (bare W b4s) args cargs.toList):
  Calls P f cargs W fun e W'=>e=.returned (.bool true) /\ Below W.heap.size W W':=by
 refine (hf.2 W b4s cargs (fun b o h=>h.elim) (fun g cells h=>by cases h) hr).mono fun e W' ⟨av,x,he,hp,hrel,hav⟩=> ?_
 rw [f6b hav] at hrel
 cases hrel with
 |v _ _=>exact ⟨he,hp.below⟩
end
def I64 (n:Int):Prop:= -9223372036854775808<=n /\ n<=9223372036854775807
def U64 (n:Int):Prop:=0<=n /\ n<18446744073709551616
def Sz (n:Nat):Prop:=n<=140737488351232
structure e04 (x:P6):Prop where
 num:I64 x.Num
 wire:I64 x.Wire
 bits:U64 x.Bits
 data:Sz x.Data.size
inductive OkD:A0 ->Prop
 |mk (v:A0) (k:I64 v.Kind) (b:U64 v.Bits) (t:Sz v.Text.size) (l:Sz v.List_.length) (p:Sz v.Pairs.length) (s:Sz v.Slots.length) (r:Sz v.Raws.length)
  (hl:∀x∈v.List_,OkD x) (hk:∀x∈v.Pairs,OkD x.1) (hv:∀x∈v.Pairs,OkD x.2) (hn:∀x∈v.Slots,I64 x.1) (hs:∀x∈v.Slots,OkD x.2) (hr:∀x∈v.Raws,e04 x) (w:Sz (v.List_.length*128) /\ Sz (v.Pairs.length*256) /\ Sz (v.Slots.length*136) /\ Sz (v.Raws.length*40)):OkD v
section
variable {P:Program} {n:Nat} {t:TypeId} {avs:List AV}
def TyL (P:Program) (m:Nat):List TypeId ->List AV ->Prop
 |[],avs=>avs=[]
 |t::ts,avs=>∃a b,avs=a++b /\ Ty P m t a /\ TyL P m ts b
theorem f3c {m:Nat}:∀(fs:List Field) (parts:List (List AV)),parts.length=fs.length ->(∀(i:Nat) (f:Field),fs[i]? =some f ->∃p,parts[i]? =some p /\ Ty P m f.type p) ->TyL P m (fs.map (·.type)) parts.flatten
 |[],[],_,_=>rfl
 |[],_::_,h,_=>by cases h
 |_::_,[],h,_=>by cases h
 |f::fs,p::parts,hl,h=>by
  obtain ⟨q,hq,hty⟩:=h 0 f rfl
  cases hq
  exact ⟨p,parts.flatten,by simp,hty,f3c fs parts (by simpa using hl) fun i g hg=>h (i+1) g (by simpa using hg)⟩
def b78 (P:Program) (t:TypeId):Option (List TypeId):=match P.underlying t with|some (.struct fs)=>some (fs.toList.map (·.type))|_=>none
theorem c74 {ts:List TypeId} (hu:b78 P t=some ts) (h:Ty P n t avs):∃m,n=m+1 /\ TyL P m ts avs:=by
 cases n with
 |zero=>exact absurd h (by unfold Ty; exact id)
 |succ m=>
  unfold b78 at hu
  unfold Ty at h
  split at hu
  ·rename_i fs hfs
   rw [hfs] at h
   obtain ⟨parts,rfl,hl,hp⟩:=h
   cases hu
   exact ⟨m,rfl,f3c fs.toList parts (by simpa using hl) (fun i f hf=>hp i f (by simpa using hf))⟩
  ·cases hu
theorem f34 {k:IntKind} (hu:P.underlying t=some (.int k)) (h:Ty P n t avs):∃m,avs=[.v (.int k m)] /\ (Lit.int k m).wf=true:=by
 cases n with
 |zero=>exact absurd h (by unfold Ty; exact id)
 |succ m=>unfold Ty at h; rw [hu] at h; exact h
theorem b1l (hu:P.underlying t=some (.int .i64)) (h:Ty P n t avs):∃m,avs=[.v (.int .i64 m)] /\ I64 m:=by
 obtain ⟨m,h1,h2⟩:=f34 hu h
 refine ⟨m,h1, ?_⟩
 simp only [Lit.wf,Bool.and_eq_true,decide_eq_true_eq] at h2
 exact h2
theorem f2n (hu:P.underlying t=some (.int .u64)) (h:Ty P n t avs):∃m,avs=[.v (.int .u64 m)] /\ U64 m:=by
 obtain ⟨m,h1,h2⟩:=f34 hu h
 refine ⟨m,h1, ?_⟩
 simp only [Lit.wf,Bool.and_eq_true,decide_eq_true_eq] at h2
 have e1:IntKind.u64.min=0:=by decide
 have e2:IntKind.u64.max=18446744073709551615:=by decide
 unfold U64
 omega
theorem f6w (hu:P.underlying t=some .bool) (h:Ty P n t avs):∃b,avs=[.v (.bool b)]:=by
 cases n with
 |zero=>exact absurd h (by unfold Ty; exact id)
 |succ m=>unfold Ty at h; rw [hu] at h; exact h
theorem c2h (hu:P.underlying t=some .string) (h:Ty P n t avs):∃s:ByteArray,avs=[.v (.string s)] /\ Sz s.size:=by
 cases n with
 |zero=>exact absurd h (by unfold Ty; exact id)
 |succ m=>unfold Ty at h; rw [hu] at h; exact h
theorem d32 {e:TypeId} {G:Type} {enc:G ->List AV} {Ok:G ->Prop} (hu:P.underlying t=some (.slice e)) {w:Nat} (hw:P.bytesOf e=w) (hb:1<=P.bytesOf e) (hel:∀m avs,m<n ->Ty P m e avs ->∃x,avs=enc x /\ Ok x) (h:Ty P n t avs):∃l:List G,avs=[.sl (l.map enc) .no] /\ (Sz l.length /\ Sz (l.length*w)) /\ ∀x∈l,Ok x:=by
 cases n with
 |zero=>exact absurd h (by unfold Ty; exact id)
 |succ m=>
  unfold Ty at h; rw [hu] at h
  obtain ⟨els,rfl,hl,hty⟩:=h
  have hn:els.length<=140737488351232:=Nat.le_trans (Nat.le_mul_of_pos_right _ hb) hl
  have:∀els:List (List AV),(∀el∈els,Ty P m e el) ->∃l:List G,els=l.map enc /\ ∀x∈l,Ok x:=by
   intro els
   induction els with
   |nil=>exact fun _=>⟨[],rfl,fun x h=>by cases h⟩
   |cons a els ih=>
    intro h
    obtain ⟨l,rfl,hl⟩:=ih fun el hel=>h el (List.mem_cons_of_mem _ hel)
    obtain ⟨x,rfl,hx⟩:=hel m a (Nat.lt_succ_self m) (h a List.mem_cons_self)
    exact ⟨x::l,rfl,fun y hy=>(List.mem_cons.1 hy).elim (fun e=>e▸hx) (hl y)⟩
  obtain ⟨l,rfl,hok⟩:=this els hty
  exact ⟨l,rfl,⟨by simpa [Sz] using hn,by subst hw; simpa [Sz] using hl⟩,hok⟩
theorem e1a {e:TypeId} {G:Type} {enc:G ->List AV} {Ok:G ->Prop} (hu:P.underlying t=some (.slice e)) (hb:1<=P.bytesOf e) (hel:∀m avs,m<n ->Ty P m e avs ->∃x,avs=enc x /\ Ok x) (h:Ty P n t avs):∃l:List G,avs=[.sl (l.map enc) .no] /\ Sz l.length /\ ∀x∈l,Ok x:=by
 obtain ⟨l,h1,h2,h3⟩:=d32 hu rfl hb hel h
 exact ⟨l,h1,h2.1,h3⟩
theorem f2k {av:AV} {ts:List TypeId} (hu:b78 P t=some ts) (h:TyV P n t av):∃avs,av=.agg avs /\ Ty P n t avs:=by
 unfold TyV at h
 unfold b78 at hu
 split at hu
 ·rename_i fs hfs; rw [hfs] at h; exact h
 ·cases hu
end
section
variable {n:Nat} {avs:List AV} {av:AV}
theorem g1p (h:Ty Tryz.prog n 127 avs):∃x,avs=I8 x /\ e04 x:=by
 obtain ⟨m,rfl,a1,b1,rfl,h1,a2,b2,rfl,h2,a3,b3,rfl,h3,a4,b4,rfl,h4,rfl⟩:=c74 (ts:=[3,3,29,9]) (by kernel_rfl) h
 obtain ⟨x1,rfl,k1⟩:=b1l (by kernel_rfl) h1
 obtain ⟨x2,rfl,k2⟩:=b1l (by kernel_rfl) h2
 obtain ⟨x3,rfl,k3⟩:=f2n (by kernel_rfl) h3
 obtain ⟨x4,rfl,k4⟩:=c2h (by kernel_rfl) h4
 exact ⟨⟨x1,x2,x3,x4⟩,rfl,⟨k1,k2,k3,k4⟩⟩
theorem d9y:∀(n:Nat) (avs:List AV),Ty Tryz.prog n 35 avs ->∃x,avs=B9 x /\ OkD x:=by
 intro n
 induction n using Nat.strongRecOn with
 |_ n ih=>
  intro avs h
  obtain ⟨m,rfl,a1,b1,rfl,h1,a2,b2,rfl,h2,a3,b3,rfl,h3,a4,b4,rfl,h4,a5,b5,rfl,h5,a6,b6,rfl,h6,a7,b7,rfl,h7,rfl⟩:=c74 (ts:=[3,29,9,30,31,32,33]) (by kernel_rfl) h
  obtain ⟨x1,rfl,k1⟩:=b1l (by kernel_rfl) h1
  obtain ⟨x2,rfl,k2⟩:=f2n (by kernel_rfl) h2
  obtain ⟨x3,rfl,k3⟩:=c2h (by kernel_rfl) h3
  obtain ⟨x4,rfl,⟨n4,w4⟩,k4⟩:=d32 (w:=128) (e:=35) (enc:=B9) (Ok:=OkD) (by kernel_rfl) (by kernel_rfl) (of_decide_eq_true (by kernel_rfl)) (fun k a hk ha=>ih k (by omega) a ha) h4
  obtain ⟨x5,rfl,⟨n5,w5⟩,k5⟩:=d32 (w:=256) (e:=100) (enc:=A8) (Ok:=fun x=>OkD x.1 /\ OkD x.2) (by kernel_rfl) (by kernel_rfl) (of_decide_eq_true (by kernel_rfl)) (fun k a hk ha=>by
   obtain ⟨q,rfl,a1,b1,rfl,h1,a2,b2,rfl,h2,rfl⟩:=c74 (ts:=[35,35]) (by kernel_rfl) ha
   obtain ⟨y1,rfl,z1⟩:=ih q (by omega) _ h1
   obtain ⟨y2,rfl,z2⟩:=ih q (by omega) _ h2
   exact ⟨(y1,y2),by simp [A8],z1,z2⟩) h5
  obtain ⟨x6,rfl,⟨n6,w6⟩,k6⟩:=d32 (w:=136) (e:=86) (enc:=A9) (Ok:=fun x=>I64 x.1 /\ OkD x.2) (by kernel_rfl) (by kernel_rfl) (of_decide_eq_true (by kernel_rfl)) (fun k a hk ha=>by
   obtain ⟨q,rfl,a1,b1,rfl,h1,a2,b2,rfl,h2,rfl⟩:=c74 (ts:=[3,35]) (by kernel_rfl) ha
   obtain ⟨y1,rfl,z1⟩:=b1l (by kernel_rfl) h1
   obtain ⟨y2,rfl,z2⟩:=ih q (by omega) _ h2
   exact ⟨(y1,y2),by simp [A9],z1,z2⟩) h6
  obtain ⟨x7,rfl,⟨n7,w7⟩,k7⟩:=d32 (w:=40) (e:=127) (enc:=I8) (Ok:=e04) (by kernel_rfl) (by kernel_rfl) (of_decide_eq_true (by kernel_rfl)) (fun k a hk ha=>g1p ha) h7
  refine ⟨⟨x1,x2,x3,x4,x5,x6,x7⟩, ?_,.mk _ k1 k2 k3 n4 n5 n6 n7 k4 (fun x hx=>(k5 x hx).1) (fun x hx=>(k5 x hx).2) (fun x hx=>(k6 x hx).1) (fun x hx=>(k6 x hx).2) k7 ⟨w4,w5,w6,w7⟩⟩
  rw [Q8]; rfl
theorem h1f (h:TyV Tryz.prog n 35 av):∃x,av=.agg (A4 x) /\ OkD x:=by
 obtain ⟨avs,rfl,g⟩:=f2k (ts:=[3,29,9,30,31,32,33]) (by kernel_rfl) h
 obtain ⟨x,rfl,k⟩:=d9y _ _ g
 exact ⟨x,by rw [Q8],k⟩
theorem h05 (h:TyV Tryz.prog n 9 av):∃x:ByteArray,av=.v (.string x) /\ Sz x.size:=by
 have hu:Tryz.prog.underlying 9=some .string:=by kernel_rfl
 unfold TyV at h; rw [hu] at h
 obtain ⟨x,hx,k⟩:=c2h hu h
 exact ⟨x,by simpa using hx,k⟩
end
def b34 {α:Type} (c:α ->α ->Int):List α ->List α ->Int
 |[],[]=>0
 |[],_::_=> -1
 |_::_,[]=>1
 |x::l,y::m=>if c x y≠0 then c x y else b34 c l m
theorem c66 {α:Type} {J:Int ->List α ->List α ->Int ->Prop} {C:α ->α ->Int ->Prop} (c:α ->α ->Int)
  (b67:∀i s t r,((decide (i<(s.length:Int)))=true ->∃y4,s[i.toNat]? =some y4 /\ 0<=i /\ (((decide ((t.length:Int)<=i))=true ->r=1) /\ ((decide ((t.length:Int)<=i))=false ->∃y5,t[i.toNat]? =some y5 /\ 0<=i /\ (∃y6,C y4 y5 y6 /\ (((y6 !=0)=true ->r=y6) /\ ((y6 !=0)=false ->J (wI (i+1)) s t r)))))) /\ ((decide (i<(s.length:Int)))=false ->((decide ((s.length:Int)<(t.length:Int)))=true ->r=(-1)) /\ ((decide ((s.length:Int)<(t.length:Int)))=false ->r=0)) ->J i s t r)
  (s t:List α) (hs:s.length<=140737488351232) (hC:∀x∈s,∀y∈t,C x y (c x y)):J 0 s t (b34 c s t):=by
 have key:∀(d i:Nat),s.length - i<=d ->i<=s.length ->i<=t.length ->J i s t (b34 c (s.drop i) (t.drop i)):=by
  intro d
  induction d with
  |zero=>
   intro i hd hi hj
   have e:i=s.length:=by omega
   subst e
   refine b67 _ _ _ _ ⟨fun h=>by simp at h,fun _=>⟨fun h=> ?_,fun h=> ?_⟩⟩
   ·simp at h
    rw [List.drop_length,List.drop_eq_getElem_cons h]
    rfl
   ·simp at h
    rw [List.drop_length,List.drop_eq_nil_of_le h]
    rfl
  |succ d ih=>
   intro i hd hi hj
   rcases Nat.lt_or_ge i s.length with hlt|hge
   ·have e1:wI ((i:Int)+1)=((i+1:Nat):Int):=by rw [wI,D2 (by omega)]; omega
    have ds:s.drop i=s[i]::s.drop (i+1):=List.drop_eq_getElem_cons hlt
    refine b67 _ _ _ _ ⟨fun _=>⟨s[i],by simp,by omega,fun h=> ?_,fun h=> ?_⟩,fun h=>by simp at h; omega⟩
    ·simp at h
     rw [ds,List.drop_eq_nil_of_le h]
     rfl
    ·simp at h
     have dt:t.drop i=t[i]::t.drop (i+1):=List.drop_eq_getElem_cons h
     refine ⟨t[i],by simp,by omega,c s[i] t[i],hC _ (List.getElem_mem _) _ (List.getElem_mem _),fun h2=> ?_,fun h2=> ?_⟩
     ·simp at h2
      rw [ds,dt]
      simp [b34,h2]
     ·simp at h2
      rw [ds,dt,e1]
      have:=ih (i+1) (by omega) (by omega) (by omega)
      simpa [b34,h2] using this
   ·have e:i=s.length:=by omega
    subst e
    refine b67 _ _ _ _ ⟨fun h=>by simp at h,fun _=>⟨fun h=> ?_,fun h=> ?_⟩⟩
    ·simp at h
     rw [List.drop_length,List.drop_eq_getElem_cons h]
     rfl
    ·simp at h
     rw [List.drop_length,List.drop_eq_nil_of_le h]
     rfl
 simpa using key s.length 0 (by omega) (by omega) (by omega)
def orL:List Int ->Int
 |[]=>0
 |x::l=>if x≠0 then x else orL l
theorem f0m (l:List Int) (hl:l.length<=1000):a9x l (orL l):=by
 refine c71 _ _ ?_
 have key:∀(d i:Nat),l.length - i<=d ->i<=l.length ->a9e i l (orL (l.drop i)):=by
  intro d
  induction d with
  |zero=>
   intro i hd hi
   exact a46 _ _ _ ⟨fun h=>by simp at h; omega,fun _=>by rw [List.drop_eq_nil_of_le (by omega)]; rfl⟩
  |succ d ih=>
   intro i hd hi
   rcases Nat.lt_or_ge i l.length with hlt|hge
   ·have e1:wI ((i:Int)+1)=((i+1:Nat):Int):=by rw [wI,D2 (by omega)]; omega
    have ds:l.drop i=l[i]::l.drop (i+1):=List.drop_eq_getElem_cons hlt
    refine a46 _ _ _ ⟨fun _=>⟨l[i],by simp,by omega,fun h=> ?_,fun h=> ?_⟩,fun h=>by simp at h; omega⟩
    ·simp at h
     rw [ds]; simp [orL,h]
    ·simp at h
     rw [ds,e1]
     have:=ih (i+1) (by omega) (by omega)
     simpa [orL,h] using this
   ·exact a46 _ _ _ ⟨fun h=>by simp at h; omega,fun _=>by rw [List.drop_eq_nil_of_le hge]; rfl⟩
 simpa using key l.length 0 (by omega) (by omega)
def d3p (x y:ByteArray):Int:=if Op.bytesLess x.toList y.toList=true then -1 else if (!(Op.bytesLess x.toList y.toList||x.toList==y.toList))=true then 1 else 0
theorem e7b (x y:ByteArray):a06 x y (d3p x y):=by
 refine b4x _ _ _ ⟨false,a7i _ _ (by simp),false,a7i _ _ (by simp),fun h=>by simp at h,fun _=>⟨fun h=>by simp at h,fun _=>⟨fun h=> ?_,fun h=>⟨fun h2=> ?_,fun h2=> ?_⟩⟩⟩⟩
 ·simp [d3p,h]
 ·unfold d3p; rw [if_neg (by rw [h]; simp),if_pos h2]
 ·unfold d3p; rw [if_neg (by rw [h]; simp),if_neg (by rw [h2]; simp)]
theorem d6l (x y:Int):W7 x y (a3p x y):=by
 refine b38 _ _ _ ⟨false,a7j _ _ (by simp),false,a7j _ _ (by simp),fun h=>by simp at h,fun _=>⟨fun h=>by simp at h,fun _=>⟨fun h=> ?_,fun h=>⟨fun h2=> ?_,fun h2=> ?_⟩⟩⟩⟩
 ·simp at h; simp [a3p,h]
 ·simp at h h2; simp [a3p,h2]; omega
 ·simp at h h2; simp only [a3p]; rw [if_neg (by omega),if_neg (by omega)]
def b5a (x:Int):Int:=if ((f2c x.toNat:Int)==0)=true then 18446744073709551615 else if ((I0 .and .u64 x 9223372036854775808) !=0)=true then I0 .xor .u64 (IntKind.u64.max) x else I0 .or .u64 x 9223372036854775808
theorem d8v (x:Int) (hx:U64 x):b2i x (b5a x):=by
 have hc:=d94 x.toNat (by have:=hx.2; omega)
 rw [show ((x.toNat:Nat):Int)=x from Int.toNat_of_nonneg hx.1] at hc
 refine c4r _ _ ⟨_,hc,fun h=> ?_,fun h=>⟨fun h2=> ?_,fun h2=> ?_⟩⟩
 ·unfold b5a; rw [if_pos h]
 ·unfold b5a; rw [if_neg (by rw [h]; simp),if_pos h2]
 ·unfold b5a; rw [if_neg (by rw [h]; simp),if_neg (by rw [h2]; simp)]
def isS (k:Int):Bool:=(decide (1<=k))&&(decide (k<=9))
def cmpS (a b:A0):Int:=
 if ((a.Kind==7)||(a.Kind==8))=true then d3p a.Text b.Text
 else if ((a.Kind==2)||(a.Kind==3))=true then a3p (wI a.Bits) (wI b.Bits)
 else if (a.Kind==6)=true then a3p (b5a a.Bits) (b5a b.Bits)
 else a3p a.Bits b.Bits
theorem nt {b:Bool} (h:b=false):¬b=true:=by rw [h]; simp
theorem f76 (a b:A0) (hk:a.Kind=b.Kind) (hs:isS a.Kind=true) (ha:U64 a.Bits) (hb:U64 b.Bits):c3g a b (cmpS a b):=by
 refine c7m _ _ _ ⟨fun h=>by simp [hk] at h,fun _=>⟨true,a68 _ _ hs.symm,fun h=>by simp at h,fun _=>⟨_,b3x _ _ rfl,fun h=>⟨_,e7b _ _, ?_⟩,fun h=>⟨fun h2=>⟨_,c34 _ _, ?_⟩,fun h2=>⟨fun h3=>⟨_,d8v _ ha,_,d8v _ hb,_,d6l _ _, ?_⟩,fun h3=>⟨_,d6l _ _, ?_⟩⟩⟩⟩⟩⟩
 ·unfold cmpS; rw [if_pos h]
 ·unfold cmpS; rw [if_neg (nt h),if_pos h2]
 ·unfold cmpS; rw [if_neg (nt h),if_neg (nt h2),if_pos h3]
 ·unfold cmpS; rw [if_neg (nt h),if_neg (nt h2),if_neg (nt h3)]
def e4t (x y:P6):Int:=orL [a3p x.Num y.Num,a3p x.Wire y.Wire,a3p x.Bits y.Bits,d3p x.Data y.Data]
def a15:Nat ->A0 ->A0 ->Int
 |0,_,_=>0
 |n+1,a,b=>
  if a.Kind≠b.Kind then a3p a.Kind b.Kind
  else if isS a.Kind=true then cmpS a b
  else if a.Kind=11 then b34 (a15 n) a.List_ b.List_
  else if a.Kind=12 then b34 (fun x y=>orL [a15 n x.1 y.1,a15 n x.2 y.2]) a.Pairs b.Pairs
  else if a.Kind=10 then orL [b34 (fun x y=>orL [a3p x.1 y.1,a15 n x.2 y.2]) a.Slots b.Slots,b34 e4t a.Raws b.Raws]
  else 0
def b1h (v:A0):b74:=
 if isS v.Kind=true then .a_order_one v else if (v.Kind==11)=true then .a_order_list v.List_ else if (v.Kind==12)=true then .a_order_pairs v.Pairs else if (v.Kind==10)=true then .a_order_parts ⟨v.Slots,v.Raws⟩ else .nil
theorem e7h (v:A0):a7c v (b1h v):=by
 refine b9u _ _ ⟨_,a68 _ _ rfl,fun h=> ?_,fun h=>⟨fun h1=> ?_,fun h1=>⟨fun h2=> ?_,fun h2=>⟨fun h3=> ?_,fun h3=> ?_⟩⟩⟩⟩
 ·unfold b1h isS; rw [if_pos h]
 ·unfold b1h isS; rw [if_neg (nt h),if_pos h1]
 ·unfold b1h isS; rw [if_neg (nt h),if_neg (nt h1),if_pos h2]
 ·unfold b1h isS; rw [if_neg (nt h),if_neg (nt h1),if_neg (nt h2),if_pos h3]
 ·unfold b1h isS; rw [if_neg (nt h),if_neg (nt h1),if_neg (nt h2),if_neg (nt h3)]
theorem OkD.inv {v:A0} (h:OkD v):I64 v.Kind /\ U64 v.Bits /\ (Sz v.List_.length /\ Sz v.Pairs.length /\ Sz v.Slots.length /\ Sz v.Raws.length) /\ (∀x∈v.List_,OkD x) /\ (∀x∈v.Pairs,OkD x.1 /\ OkD x.2) /\ (∀x∈v.Slots,OkD x.2):=by
 cases h with
 |mk _ k b t l p s r hl hk hv hn hs hr w=>exact ⟨k,b,⟨l,p,s,r⟩,hl,fun x hx=>⟨hk x hx,hv x hx⟩,hs⟩
theorem OkD.w {v:A0} (h:OkD v):Sz (v.List_.length*128) /\ Sz (v.Pairs.length*256) /\ Sz (v.Slots.length*136) /\ Sz (v.Raws.length*40):=by
 cases h with
 |mk _ _ _ _ _ _ _ _ _ _ _ _ _ _ w=>exact w
theorem g1b (x y:P6):c4x x y (e4t x y):=c3s _ _ _ ⟨_,c34 _ _,_,c34 _ _,_,d6l _ _,_,e7b _ _,_,f0m _ (by simp),rfl⟩
theorem szL {a x:A0} (h:x∈a.List_):SizeOf.sizeOf x<SizeOf.sizeOf a:=by
 have:=List.sizeOf_lt_of_mem h
 cases a; simp at this ⊢; omega
theorem szP {a:A0} {x:A0 × A0} (h:x∈a.Pairs):SizeOf.sizeOf x.1<SizeOf.sizeOf a /\ SizeOf.sizeOf x.2<SizeOf.sizeOf a:=by
 have:=List.sizeOf_lt_of_mem h
 cases a; cases x; simp at this ⊢; omega
theorem szS {a:A0} {x:Int × A0} (h:x∈a.Slots):SizeOf.sizeOf x.2<SizeOf.sizeOf a:=by
 have:=List.sizeOf_lt_of_mem h
 cases a; cases x; simp at this ⊢; omega
theorem szV (a:A0):0<SizeOf.sizeOf a:=by cases a; simp; omega
theorem c9j:∀(n:Nat) (a b:A0),OkD a ->OkD b ->SizeOf.sizeOf a<=n ->b0t a b (a15 n a b)
 |0,a,b,_,_,h=>by have:=szV a; omega
 |n+1,a,b,ha,hb,hn=>by
  obtain ⟨_,hab,⟨la,pa,sa,ra⟩,hla,hpa,hsa⟩:=ha.inv
  obtain ⟨_,hbb,_,hlb,hpb,hsb⟩:=hb.inv
  refine d0q _ _ _ ⟨fun h=>⟨_,c34 _ _, ?_⟩,fun h=>⟨_,e7h b,_,e7h a, ?_⟩⟩
  ·simp at h
   rw [a15,if_pos h]
  have hk:a.Kind=b.Kind:=by simpa using h
  rw [a15,if_neg (by simp [hk])]
  by_cases h1:isS a.Kind=true
  ·have ea:b1h a=.a_order_one a:=by unfold b1h; rw [if_pos h1]
   rw [if_pos h1,ea]
   refine ⟨fun y hy=> ?_,fun hn=>(hn a rfl).elim⟩
   cases hy
   exact ⟨_,f76 a b hk h1 hab hbb,rfl⟩
  ·rw [if_neg h1]
   by_cases h2:a.Kind=11
   ·have ea:b1h a=.a_order_list a.List_:=by unfold b1h; rw [if_neg h1,if_pos (by simp [h2])]
    have eb:b1h b=.a_order_list b.List_:=by unfold b1h; rw [if_neg (by rw [<-hk]; exact h1),if_pos (by simp [<-hk,h2])]
    rw [if_pos h2,ea,eb]
    refine ⟨fun y hy=>(by cases hy),fun _=>⟨fun y hy=> ?_,fun hn=>(hn _ rfl).elim⟩⟩
    cases hy
    refine ⟨_,rfl,_,T5 _ _ _ _ (c66 (J:=fun i s t r=>C8 i s t (⟨170,[],[],rfl⟩:GFn) r) (a15 n) (fun i s t r hw=>P7 _ _ _ _ _ hw) _ _ la fun x hx y hy=> ?_),rfl⟩
    exact ⟨170,[],[],rfl,(show plainL [AV.agg (A4 x),AV.agg (A4 y)]=true by simp [plainL,plain,A7]),c9j n x y (hla x hx) (hlb y hy) (by have:=szL hx; omega)⟩
   ·rw [if_neg h2]
    by_cases h3:a.Kind=12
    ·have ea:b1h a=.a_order_pairs a.Pairs:=by unfold b1h; rw [if_neg h1,if_neg (by simp [h2]),if_pos (by simp [h3])]
     have eb:b1h b=.a_order_pairs b.Pairs:=by unfold b1h; rw [if_neg (by rw [<-hk]; exact h1),if_neg (by simp [<-hk,h2]),if_pos (by simp [<-hk,h3])]
     rw [if_pos h3,ea,eb]
     refine ⟨fun y hy=>(by cases hy),fun _=>⟨fun y hy=>(by cases hy),fun _=>⟨fun y hy=> ?_,fun hn=>(hn _ rfl).elim⟩⟩⟩
     cases hy
     refine ⟨_,rfl,_,T1 _ _ _ _ (c66 (J:=fun i s t r=>C7 i s t (⟨201,[],[],rfl⟩:GFn) r) (fun x y=>orL [a15 n x.1 y.1,a15 n x.2 y.2]) (fun i s t r hw=>P5 _ _ _ _ _ hw) _ _ pa fun x hx y hy=> ?_),rfl⟩
     have hz:=szP hx
     exact ⟨201,[],[],rfl,(show plainL [AV.agg (S3 x),AV.agg (S3 y)]=true by simp [plainL,plain,O2]),c1d _ _ _ ⟨_,c9j n _ _ (hpa x hx).1 (hpb y hy).1 (by omega),_,c9j n _ _ (hpa x hx).2 (hpb y hy).2 (by omega),_,f0m _ (by simp),rfl⟩⟩
    ·rw [if_neg h3]
     by_cases h4:a.Kind=10
     ·have ea:b1h a=.a_order_parts ⟨a.Slots,a.Raws⟩:=by unfold b1h; rw [if_neg h1,if_neg (by simp [h2]),if_neg (by simp [h3]),if_pos (by simp [h4])]
      have eb:b1h b=.a_order_parts ⟨b.Slots,b.Raws⟩:=by unfold b1h; rw [if_neg (by rw [<-hk]; exact h1),if_neg (by simp [<-hk,h2]),if_neg (by simp [<-hk,h3]),if_pos (by simp [<-hk,h4])]
      rw [if_pos h4,ea,eb]
      refine ⟨fun y hy=>(by cases hy),fun _=>⟨fun y hy=>(by cases hy),fun _=>⟨fun y hy=>(by cases hy),fun _=>⟨fun y hy=> ?_,fun hn=>(hn _ rfl).elim⟩⟩⟩⟩
      cases hy
      refine ⟨_,rfl,_,Z0 _ _ _ _ (c66 (J:=fun i s t r=>E2 i s t (⟨204,[],[],rfl⟩:GFn) r) (fun x y=>orL [a3p x.1 y.1,a15 n x.2 y.2]) (fun i s t r hw=>X4 _ _ _ _ _ hw) _ _ sa fun x hx y hy=> ?_),_,a04 _ _ _ _ (c66 (J:=fun i s t r=>E5 i s t (⟨206,[],[],rfl⟩:GFn) r) e4t (fun i s t r hw=>Z5 _ _ _ _ _ hw) _ _ ra fun x hx y hy=> ?_),_,f0m _ (by simp),rfl⟩
      ·have hz:=szS hx
       exact ⟨204,[],[],rfl,(show plainL [AV.agg (U5 x),AV.agg (U5 y)]=true by simp [plainL,plain,N9]),c06 _ _ _ ⟨_,c34 _ _,_,c9j n _ _ (hsa x hx) (hsb y hy) (by omega),_,f0m _ (by simp),rfl⟩⟩
      ·exact ⟨206,[],[],rfl,(show plainL [AV.agg (I8 x),AV.agg (I8 y)]=true by simp [plainL,plain,O7]),g1b x y⟩
     ·have ea:b1h a=.nil:=by unfold b1h; rw [if_neg h1,if_neg (by simp [h2]),if_neg (by simp [h3]),if_neg (by simp [h4])]
      rw [if_neg h4,ea]
      exact ⟨fun y hy=>(by cases hy),fun _=>⟨fun y hy=>(by cases hy),fun _=>⟨fun y hy=>(by cases hy),fun _=>⟨fun y hy=>(by cases hy),fun _=>rfl⟩⟩⟩⟩
theorem f5e (a:Nat) (h:a<18446744073709551616):I0 .xor .u64 (IntKind.u64.max) (a:Int)=((18446744073709551615 - a:Nat):Int):=by
 have e3:I0 .xor .u64 (IntKind.u64.max) (a:Int)=IntKind.u64.wrap (((BitVec.allOnes 64 ^^^ BitVec.ofInt 64 (a:Int)).toNat:Nat):Int):=rfl
 rw [e3,BitVec.xor_comm]
 exact c5a a h
theorem e9u (a:Nat) (h:a<18446744073709551616):(I0 .and .u64 (a:Int) 9223372036854775808 !=0)=decide (9223372036854775808<=a):=by
 have e:=b6i a 9223372036854775808 h (by omega)
 rw [show ((9223372036854775808:Nat):Int)=9223372036854775808 from rfl] at e
 rw [e]
 by_cases h1:9223372036854775808<=a
 ·have ea:a=(a - 9223372036854775808)|||9223372036854775808:=by
   have e2:=f2b (a - 9223372036854775808) 1 63 (by rw [show (2:Nat) ^ 63=9223372036854775808 by decide]; omega)
   rw [Nat.one_mul,show (2:Nat) ^ 63=9223372036854775808 by decide] at e2
   rw [e2]; omega
  have e3:a&&&9223372036854775808=9223372036854775808:=by
   rw [ea]
   apply Nat.eq_of_testBit_eq
   intro i
   rw [Nat.testBit_and,Nat.testBit_or]
   generalize Nat.testBit (a - 9223372036854775808) i=t
   generalize Nat.testBit 9223372036854775808 i=u
   cases t<;>cases u<;>rfl
  rw [e3]; simp [h1]
 ·have e3:a&&&9223372036854775808=0:=by
   apply Nat.eq_of_testBit_eq
   intro i
   rw [Nat.testBit_and,show (9223372036854775808:Nat)=2 ^ 63 by decide,Nat.testBit_two_pow]
   by_cases hi:63=i
   ·subst hi
    rw [Nat.testBit_lt_two_pow (by rw [show (2:Nat) ^ 63=9223372036854775808 by decide]; omega)]
    simp
   ·simp [hi]
  rw [e3]; simp [h1]
theorem f6z (a:Nat) (h:a<9223372036854775808):I0 .or .u64 (a:Int) 9223372036854775808=((a+9223372036854775808:Nat):Int):=by
 have e:=d7f a 9223372036854775808 (by omega) (by omega)
 rw [show ((9223372036854775808:Nat):Int)=9223372036854775808 from rfl] at e
 rw [e]
 have e2:=f2b a 1 63 (by rw [show (2:Nat) ^ 63=9223372036854775808 by decide]; exact h)
 rw [Nat.one_mul,show (2:Nat) ^ 63=9223372036854775808 by decide] at e2
 rw [e2]
theorem e6u (x:Int) (hx:U64 x):b5a x=if f2c x.toNat=0 then 18446744073709551615 else if 9223372036854775808<=x then wU (18446744073709551615 - x) else wU (x+9223372036854775808):=by
 obtain ⟨h1,h2⟩:=hx
 have hz:x=(x.toNat:Int):=by omega
 generalize x.toNat=z at hz
 subst hz
 unfold b5a
 rw [e9u z (by omega),f5e z (by omega)]
 have e0:(Int.toNat (z:Int))=z:=by omega
 rw [e0]
 by_cases h3:f2c z=0
 ·rw [if_pos h3,if_pos (by simp [h3])]
 ·rw [if_neg h3,if_neg (by simp; omega)]
  by_cases h4:9223372036854775808<=z
  ·rw [if_pos (by simpa using h4),if_pos (by omega),wU,b0n (by omega)]; omega
  ·rw [if_neg (by simpa using h4),if_neg (by omega),f6z z (by omega),wU,b0n (by omega)]; omega
def e2x (v:A0):Int:=if v.Kind=2\/v.Kind=3 then wU (v.Bits+9223372036854775808) else if v.Kind≠6 then v.Bits else b5a v.Bits
theorem c6y (v:A0) (hb:U64 v.Bits):a9u v (e2x v):=by
 have hz:v.Bits=(v.Bits.toNat:Int):=by have:=hb.1; omega
 have hc:=d43 v.Bits.toNat (by have:=hb.2; omega)
 rw [<-hz] at hc
 unfold e2x
 rw [e6u _ hb]
 refine c7c _ _ ⟨_,c24 _ _ rfl,fun h=> ?_,fun h=>⟨fun h2=> ?_,fun h2=>⟨_,hc,fun h3=> ?_,fun h3=>⟨fun h4=> ?_,fun h4=> ?_⟩⟩⟩⟩
 all_goals simp only [Bool.or_eq_true,Bool.or_eq_false_iff,beq_iff_eq,beq_eq_false_iff_ne,bne_iff_ne,bne_eq_false_iff_eq,decide_eq_true_eq,decide_eq_false_iff_not,ne_eq] at*
 ·rw [if_pos h]
 ·rw [if_neg (by omega),if_pos h2]
 ·rw [if_neg (by omega),if_neg (by omega),if_pos (by omega)]
 ·rw [if_neg (by omega),if_neg (by omega),if_neg (by omega),if_pos h4]
 ·rw [if_neg (by omega),if_neg (by omega),if_neg (by omega),if_neg h4]
theorem e1c {x y x' y':Int} (h1:x<y↔x'<y') (h2:y<x↔y'<x'):a3p x y=a3p x' y':=by
 unfold a3p
 simp only [h1,h2]
theorem c7y (a b:A0) (hk:a.Kind=b.Kind) (ht:((a.Kind==7)||(a.Kind==8))=false) (ha:U64 a.Bits) (hb:U64 b.Bits):cmpS a b=a3p (e2x a) (e2x b):=by
 unfold cmpS e2x
 rw [if_neg (nt ht),<-hk]
 by_cases h1:a.Kind=2\/a.Kind=3
 ·rw [if_pos (by simpa using h1),if_pos h1,if_pos h1]
  obtain ⟨a1,a2⟩:=ha
  obtain ⟨b1,b2⟩:=hb
  have key:∀z:Int,0<=z ->z<18446744073709551616 ->(z<9223372036854775808 /\ wI z=z /\ wU (z+9223372036854775808)=z+9223372036854775808)\/(9223372036854775808<=z /\ wI z=z - 18446744073709551616 /\ wU (z+9223372036854775808)=z - 9223372036854775808):=by
   intro z z1 z2
   rcases Int.lt_or_le z 9223372036854775808 with h|h
   ·exact .inl ⟨h,by rw [wI,D2 (by omega)],by rw [wU,b0n (by omega)]⟩
   ·refine .inr ⟨h, ?_, ?_⟩
    ·simp only [wI,IntKind.wrap,IntKind.bits,IntKind.signed,Bool.true_and,decide_eq_true_eq]; split<;>rename_i hq<;>first|omega|(simp at hq; omega)
    ·simp only [wU,IntKind.wrap,IntKind.bits,IntKind.signed,Bool.false_and,Bool.false_eq_true,if_false]; omega
  rcases key a.Bits a1 a2 with ⟨p1,p2,p3⟩|⟨p1,p2,p3⟩<;>rcases key b.Bits b1 b2 with ⟨q1,q2,q3⟩|⟨q1,q2,q3⟩<;>rw [p2,p3,q2,q3]<;>exact e1c (by omega) (by omega)
 ·rw [if_neg (by simpa using h1),if_neg h1,if_neg h1]
  by_cases h2:a.Kind=6
  ·rw [if_pos (by simp [h2]),if_neg (by simp [h2]),if_neg (by simp [h2])]
  ·rw [if_neg (by simp [h2]),if_pos h2,if_pos h2]
theorem b9j (x y:Int):O9 x y (a3p x y):=by
 refine c4l _ _ _ ⟨fun h=> ?_,fun h=>⟨fun h2=> ?_,fun h2=> ?_⟩⟩
 ·simp at h; simp [a3p,h]
 ·simp at h h2; simp [a3p,h2]; omega
 ·simp at h h2; simp only [a3p]; rw [if_neg (by omega),if_neg (by omega)]
theorem e9t (a b:A0) (hk:a.Kind=b.Kind) (ha:U64 a.Bits) (hb:U64 b.Bits):c7d a b (if isS a.Kind=true then cmpS a b else 0):=by
 have tx:a6w a.Kind ((a.Kind==7)||(a.Kind==8)):=b43 _ _ rfl
 refine d0f _ _ _ ⟨fun h=>by simp [hk] at h,fun _=>⟨fun h=>by simp [hk] at h,fun _=>⟨isS a.Kind,b4n _ _ rfl,fun h=> ?_,fun h=> ?_⟩⟩⟩
 ·rw [if_neg (by simpa using h)]
 have hs:isS a.Kind=true:=by simpa using h
 rw [if_pos hs]
 refine ⟨_,tx,fun h1=> ?_,fun h1=>⟨_,tx,fun h2=> ?_,fun h2=>⟨_,tx,fun h3=> ?_,fun h3=>⟨_,c6y a ha,_,c6y b hb,fun h4=> ?_,fun h4=>⟨_,c6y a ha,_,c6y b hb,fun h5=> ?_,fun h5=> ?_⟩⟩⟩⟩⟩
 ·rw [Bool.and_eq_true] at h1
  unfold cmpS d3p
  rw [if_pos h1.1,if_pos h1.2]
 ·rw [Bool.and_eq_true] at h2
  rw [h2.1,Bool.true_and] at h1
  unfold cmpS d3p
  rw [if_pos h2.1,if_neg (nt h1),if_pos h2.2]
 ·rw [h3,Bool.true_and] at h1 h2
  unfold cmpS d3p
  rw [if_pos h3,if_neg (nt h1),if_neg (nt h2)]
 ·rw [c7y a b hk h3 ha hb]
  simp at h4
  simp [a3p,h4]
 ·rw [c7y a b hk h3 ha hb]
  simp at h4 h5
  simp [a3p,h5]; omega
 ·rw [c7y a b hk h3 ha hb]
  simp at h4 h5
  simp only [a3p]; rw [if_neg (by omega),if_neg (by omega)]
end Go.Proofs.YtidmmngcijapcaaGreat.Lift
