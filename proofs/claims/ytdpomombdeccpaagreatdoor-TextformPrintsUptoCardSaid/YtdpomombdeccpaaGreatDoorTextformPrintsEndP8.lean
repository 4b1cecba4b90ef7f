/- Part 9 of the texts that prove TextformPrintsEnd. -/
import Derived.Test.YtdpomombdeccpaaGreatDoorTextformPrintsEndP7
import Derived.Test.YtdpomombdeccpaaGreatDoorTextformPrintsEndP6
import Derived.Test.YtdpomombdeccpaaGreatDoorTextformPrintsEndP0
import Derived.Test.YtdpomombdeccpaaGreatDoorTextformPrintsEndP5
import Derived.Test.YtdpomombdeccpaaGreatDoorTextformPrintsEndP4
import Derived.Test.YtdpomombdeccpaaGreatDoorTextformPrintsEndP3
import Derived.Lib.LaidU8
import Derived.Test.YtdpomombdeccpaaGreatDoorRows
import Derived.WalkKit
import Derived.JoinedCond
import Derived.SevenTiedAt
namespace Go.Proofs.YtdpomombdeccpaaGreatDoor.Lift
open Go.RowKit
set_option linter.unusedVariables false
set_option linter.unusedSimpArgs false
set_option linter.unnecessarySimpa false
set_option linter.unusedSectionVars false
set_option maxRecDepth 100000
theorem a9l:(Bo Fx HF false (DT Fx HF 100000) 24 [.agg (C7 X8),.v (.string ⟨#[97,46,77]⟩),.v (.string ⟨#[108,58,32,34,97,34,10,110,58,32,45,53,10,108,58,32,34,98,34,10]⟩),.agg (Bp Iq)] ⟨[],[],[]⟩).map (λr=>Bh r.2 r.1)=some (.tuple [(.agg [(.v (.int .i64 10)),(.v (.int .u64 0)),(.v (.string ⟨#[]⟩)),.nil,.nil,(.sl [[(.v (.int .i64 1)),(.v (.int .i64 2)),(.v (.int .u64 18446744073709551611)),(.v (.string ⟨#[]⟩)),.nil,.nil,.nil,.nil],[(.v (.int .i64 2)),(.v (.int .i64 11)),(.v (.int .u64 0)),(.v (.string ⟨#[]⟩)),(.sl [[(.v (.int .i64 7)),(.v (.int .u64 0)),(.v (.string ⟨#[97]⟩)),.nil,.nil,.nil,.nil],[(.v (.int .i64 7)),(.v (.int .u64 0)),(.v (.string ⟨#[98]⟩)),.nil,.nil,.nil,.nil]] .no),.nil,.nil,.nil]] .no),.nil]),(.v (.int .i64 0)),(.v (.int .i64 0))]):=by kernel_rfl
theorem z6:(Bo Fx HF false (DT Fx HF 100000) 24 [.agg (C7 X8),.v (.string ⟨#[97,46,77]⟩),.v (.string ⟨#[110,58,32,49,10,110,58,32,49,10]⟩),.agg (Bp Iq)] ⟨[],[],[]⟩).map (λr=>Bh r.2 r.1)=some (.tuple [(.agg [.v (.int .i64 0),.v (.int .u64 0),.v (.string ⟨#[]⟩),.nil,.nil,.nil,.nil]),(.v (.int .i64 2)),(.v (.int .i64 9))]):=by kernel_rfl
theorem b0q:(Bo Fx HF false (DT Fx HF 100000) 15 [.agg [aI 10,aU 0,aE,.sl [] .no,.sl [] .no,.sl [[aI 1,aI 2,aU 18446744073709551611,aE,.nil,.nil,.nil,.nil],[aI 2,aI 11,aU 0,aE,.sl [[aI 7,aU 0,aS (⟨#[97]⟩:b4b),.nil,.nil,.nil,.nil],[aI 7,aU 0,aS (⟨#[98]⟩:b4b),.nil,.nil,.nil,.nil]] .full,.nil,.nil,.nil]] .no,.sl [] .no],.agg (C4 exV)] ⟨[],[],[]⟩).map (λr=>Bh r.2 r.1)=some (.v (.bool true)):=by kernel_rfl
theorem tG:(Bo Fx HF false (DT Fx HF 100000) 25 [] ⟨[],[],[]⟩).map (λr=>Bh r.2 r.1)=some (.agg (Bp Iq)):=by kernel_rfl
theorem nQ:bj Iq:=Tu (Tj RN 100000 tG (by kernel_rfl)) (by kernel_rfl)
theorem yU:A9 Tryz.prog [] 24 [.agg (C7 X8),.v (.string ⟨#[97,46,77]⟩),.v (.string ⟨#[108,58,32,34,97,34,10,110,58,32,45,53,10,108,58,32,34,98,34,10]⟩),.agg (Bp Iq)] (e24 (exV,0,0)):=Tu (Tj RN 100000 a9l (by kernel_rfl)) (by kernel_rfl)
theorem a3f:A9 Tryz.prog [] 24 [.agg (C7 X8),.v (.string ⟨#[97,46,77]⟩),.v (.string ⟨#[110,58,32,49,10,110,58,32,49,10]⟩),.agg (Bp Iq)] (e24 (exZ,2,9)):=Tu (Tj RN 100000 z6 (by kernel_rfl)) (by kernel_rfl)
theorem a1o:A9 Tryz.prog [] 15 [.agg [aI 10,aU 0,aE,.sl [] .no,.sl [] .no,.sl [[aI 1,aI 2,aU 18446744073709551611,aE,.nil,.nil,.nil,.nil],[aI 2,aI 11,aU 0,aE,.sl [[aI 7,aU 0,aS (⟨#[97]⟩:b4b),.nil,.nil,.nil,.nil],[aI 7,aU 0,aS (⟨#[98]⟩:b4b),.nil,.nil,.nil,.nil]] .full,.nil,.nil,.nil]] .no,.sl [] .no],.agg (C4 exV)] (e15 true):=Tu (Tj RN 100000 b0q (by kernel_rfl)) (by kernel_rfl)
section
attribute [local irreducible] Ok run put N0 br jn pos Fo Eu So
attribute [-simp] List.map_take List.map_drop List.map_append List.map_set List.map_replicate List.map_cons List.map_map
attribute [local simp] plain B7 X3 Q5 I0 low D4 H7 Q4 S8 S7 P8 P6 Q9 S4 R0 S6 P9 S0 S5 U5 P5 T6 T1 U1 T5 U8 T0 V1 T9 U7 T8 V0 V3 W3 W5 X1 X6 Y7 Y5 Z9 AS AO Ae Ak Au Ar BP BO Bj Bd Bw Bu CY Cg Cw DP DH Df Ef Em EN EU Ei W0 BI EX EY CB BL K8 Ev IY Ge Gm He IV Ia IZ IK Gy Hi GM GC Hj Ib IS Hb HC Gd GV Hs Ic Hg Gj GT HB HU Hr Hx HT Gz GL Ie GY HZ Gl IU GN IG Ht Gk Gn Gv HH HJ Ga Hp GU IW Ij GS IJ IA IR Gg Hu Hn GP Gw GW IM HQ HG Gt Gc Gr Hq IP HI Gq If IE GO Hy Hc Hd GK GX HS Hm GH GR HL Jf
attribute [local simp] F9
theorem b2m(mg:Int)(r:b4e)(hw:∃y1,A9 Pg (O6 mg) 7 [.agg [.sl [[aS (⟨#[97,46,77]⟩:b4b),.sl [[aI 1,aS (⟨#[110]⟩:b4b),aE,aI 2,aI 0,aI 2,aI (-1),aI (-1)],[aI 2,aS (⟨#[108]⟩:b4b),aE,aI 4,aI 0,aI 7,aI (-1),aI (-1)]] .full,aI 0]] .no,.sl [] .no],aS (⟨#[97,46,77]⟩:b4b),.agg [aI 10,aU 0,aE,.sl [] .no,.sl [] .no,.sl [[aI 1,aI 2,aU 18446744073709551611,aE,.nil,.nil,.nil,.nil],[aI 2,aI 11,aU 0,aE,.sl [[aI 7,aU 0,aS (⟨#[97]⟩:b4b),.nil,.nil,.nil,.nil],[aI 7,aU 0,aS (⟨#[98]⟩:b4b),.nil,.nil,.nil,.nil]] .full,.nil,.nil,.nil]] .no,.sl [] .no]] (e7 y1)/\(∃y2,A9 Pg (O6 mg) 9 [.agg [.sl [[aS (⟨#[97,46,77]⟩:b4b),.sl [[aI 1,aS (⟨#[110]⟩:b4b),aE,aI 2,aI 0,aI 2,aI (-1),aI (-1)],[aI 2,aS (⟨#[108]⟩:b4b),aE,aI 4,aI 0,aI 7,aI (-1),aI (-1)]] .full,aI 0]] .no,.sl [] .no],aS (⟨#[97,46,77]⟩:b4b),.agg [aI 10,aU 0,aE,.sl [] .no,.sl [] .no,.sl [[aI 1,aI 2,aU 18446744073709551611,aE,.nil,.nil,.nil,.nil],[aI 2,aI 11,aU 0,aE,.sl [[aI 7,aU 0,aS (⟨#[97]⟩:b4b),.nil,.nil,.nil,.nil],[aI 7,aU 0,aS (⟨#[98]⟩:b4b),.nil,.nil,.nil,.nil]] .full,.nil,.nil,.nil]] .no,.sl [] .no]] (e9 y2)/\(∃y3,bj y3/\(∃y4,A9 Tryz.prog [] 24 [.agg [.sl [[aS (⟨#[97,46,77]⟩:b4b),.sl [[aI 1,aS (⟨#[110]⟩:b4b),aE,aI 2,aI 0,aI 2,aI (-1),aI (-1)],[aI 2,aS (⟨#[108]⟩:b4b),aE,aI 4,aI 0,aI 7,aI (-1),aI (-1)]] .full,aI 0]] .no,.sl [] .no],aS (⟨#[97,46,77]⟩:b4b),aS (⟨#[108,58,32,34,97,34,10,110,58,32,45,53,10,108,58,32,34,98,34,10]⟩:b4b),.agg (Bp y3)] (e24 y4)/\(∃y5,bj y5/\(∃y6,A9 Tryz.prog [] 24 [.agg [.sl [[aS (⟨#[97,46,77]⟩:b4b),.sl [[aI 1,aS (⟨#[110]⟩:b4b),aE,aI 2,aI 0,aI 2,aI (-1),aI (-1)],[aI 2,aS (⟨#[108]⟩:b4b),aE,aI 4,aI 0,aI 7,aI (-1),aI (-1)]] .full,aI 0]] .no,.sl [] .no],aS (⟨#[97,46,77]⟩:b4b),aS (⟨#[110,58,32,49,10,110,58,32,49,10]⟩:b4b),.agg (Bp y5)] (e24 y6)/\(JN (λbz1:b4e=>r=((bz1&&(y6.2.1==2))&&(y6.2.2==9))) λR1=>IF ((((((y1.2==0)&&(decide (y1.1=(⟨#[110,58,32,45,53,10,108,58,32,34,97,34,10,108,58,32,34,98,34,10]⟩:b4b))))&&(y2.2==0))&&(decide (y2.1=(⟨#[110,58,32,45,53,32,108,58,32,34,97,34,32,108,58,32,34,98,34]⟩:b4b))))&&(y4.2.2==0))&&(y4.2.1==0)) (∃y7,A9 Pg [] 15 [.agg [aI 10,aU 0,aE,.sl [] .no,.sl [] .no,.sl [[aI 1,aI 2,aU 18446744073709551611,aE,.nil,.nil,.nil,.nil],[aI 2,aI 11,aU 0,aE,.sl [[aI 7,aU 0,aS (⟨#[97]⟩:b4b),.nil,.nil,.nil,.nil],[aI 7,aU 0,aS (⟨#[98]⟩:b4b),.nil,.nil,.nil,.nil]] .full,.nil,.nil,.nil]] .no,.sl [] .no],.agg (C4 y4.1)] (e15 y7)/\(R1 y7)) (R1 false)))))))):UB mg r:=
 fP hw<|BW 57<|BW 11<|KD 8 [2]<|KC 1<|KC 0<|KV 5<|KD 6 [2]<|KC 1<|KC 0<|KV 5<|KT 10 3<|KT 1 3<|KT 1 3<|KT 1 3<|KT 1 3<|KQ 1 4 kB (KT 1 3<|KT 1 3<|KR 4) (λkey=>KC 2<|KE 1 key) λkey=>KE 4 key
end
theorem TQ(o:B0)(h:o∈[Mg,dZ]):Nh o/\EO o/\CZ o/\Es X8 o:=by
 have i:∀n:Int, -1<=n->n<=10->I64 n:=λn h1 h2=>⟨by omega,by omega⟩
 have z:∀n:Nat,n<=10->Sz n:=λn h=>show n<=140737488351232 by omega
 simp only[b38,List.mem_nil_iff,or_false]at h;rcases h with rfl|rfl
 ·exact⟨⟨i _ (by decide) (by decide),z _ (by decide),z _ (by decide),i _ (by decide) (by decide),i _ (by decide) (by decide),i _ (by decide) (by decide),i _ (by decide) (by decide),i _ (by decide) (by decide)⟩,⟨by decide,by decide⟩,by unfold CZ;decide,⟨by decide,by decide,⟨λ_=>rfl,λh=>absurd h (by decide)⟩,λh=>absurd h (by decide),λh=>absurd h (by decide),λ_ _=>rfl,.inl rfl⟩⟩
 ·exact⟨⟨i _ (by decide) (by decide),z _ (by decide),z _ (by decide),i _ (by decide) (by decide),i _ (by decide) (by decide),i _ (by decide) (by decide),i _ (by decide) (by decide),i _ (by decide) (by decide)⟩,⟨by decide,by decide⟩,by unfold CZ;decide,⟨by decide,by decide,⟨λ_=>rfl,λh=>absurd h (by decide)⟩,λh=>absurd h (by decide),λh=>absurd h (by decide),λ_ _=>rfl,.inl rfl⟩⟩
theorem ol:Ay X8:=by
 have z:∀n:Nat,n<=10->Sz n:=λn h=>show n<=140737488351232 by omega
 have one:∀g∈X8.A7,g=dn:=λg h=>List.mem_singleton.1 h
 have pl:Ct X8:=⟨z _ (by decide),λg hg=>by rw[one g hg];exact⟨z _ (by decide),z _ (by decide),λo ho=>(TQ o ho).1,⟨by decide,by decide⟩⟩,z _ (by decide),λy hy=>by cases hy⟩;refine⟨pl.oke,pl,⟨λg hg=>?_,λg hg o ho=>?_,λg hg=>?_⟩⟩
 ·rw[one g hg];intro m x y h1 h2 h3;have e:m=0:=by have:m+1<2:=h1;omega
  subst e;cases h2;cases h3;decide
 ·rw[one g hg]at ho;exact(TQ o ho).2.1
 ·rw[one g hg];exact⟨λo ho=>(TQ o ho).2.2.1,λo ho=>(TQ o ho).2.2.2⟩
theorem iQ:BE X8:=by
 have one:∀g∈X8.A7,g=dn:=λg h=>List.mem_singleton.1 h
 refine⟨λg hg o ho=>?_,λg hg=>by cases hg⟩;rw[one g hg]at ho;have ho:o∈[Mg,dZ]:=ho;simp only[b38,List.mem_nil_iff,or_false]at ho;rcases ho with rfl|rfl
 ·exact⟨by decide,by decide,by decide⟩
 ·exact⟨by decide,by decide,by decide⟩
theorem jZ(v:A0)(h:v.B4=[]/\v.Pairs=[]/\v.Slots=[]/\v.C1=[])(h1:I64 v.Kind)(h2:Ab v.Bits)(h3:Sz v.Text.size):C8 v:=by
 obtain⟨a,b,c,d⟩:=h;have z:∀n:Nat,n<=1000->Sz n:=λn h=>show n<=140737488351232 by omega
 exact .mk v h1 h2 h3 (by rw[a];exact z _ (by decide)) (by rw[b];exact z _ (by decide)) (by rw[c];exact z _ (by decide)) (by rw[d];exact z _ (by decide)) (by rw[a];intro x hx;cases hx) (by rw[b];intro x hx;cases hx) (by rw[b];intro x hx;cases hx) (by rw[c];intro x hx;cases hx) (by rw[c];intro x hx;cases hx) (by rw[d];intro x hx;cases hx) (by rw[a,b,c,d];exact⟨z _ (by decide),z _ (by decide),z _ (by decide),z _ (by decide)⟩)
theorem kR:C8 exV:=by
 have z:∀n:Nat,n<=1000->Sz n:=λn h=>show n<=140737488351232 by omega
 have hN:C8 Kg:=jZ Kg ⟨rfl,rfl,rfl,rfl⟩ ⟨by decide,by decide⟩ ⟨by decide,by decide⟩ (z _ (by decide));have hT:∀b,C8 (Is b):=λb=>jZ (Is b) ⟨rfl,rfl,rfl,rfl⟩ ⟨by show -9223372036854775808<=(7:Int);decide,by show(7:Int)<=9223372036854775807;decide⟩ ⟨by show(0:Int)<=0;decide,by show(0:Int)<18446744073709551616;decide⟩ (z _ (by show 1<=1000;decide))
 have hL:C8 Ki:=.mk Ki ⟨by decide,by decide⟩ ⟨by decide,by decide⟩ (z _ (by decide)) (z _ (by decide)) (z _ (by decide)) (z _ (by decide)) (z _ (by decide)) (λx hx=>by
  have hx:x∈[Is 97,Is 98]:=hx;simp only[b38,List.mem_nil_iff,or_false]at hx;rcases hx with rfl|rfl<;>exact hT _) (λx hx=>by cases hx) (λx hx=>by cases hx) (λx hx=>by cases hx) (λx hx=>by cases hx) (λx hx=>by cases hx) ⟨z _ (by decide),z _ (by decide),z _ (by decide),z _ (by decide)⟩
 refine .mk exV ⟨by decide,by decide⟩ ⟨by decide,by decide⟩ (z _ (by decide)) (z _ (by decide)) (z _ (by decide)) (z _ (by decide)) (z _ (by decide)) (λx hx=>by cases hx) (λx hx=>by cases hx) (λx hx=>by cases hx) (λx hx=>?_) (λx hx=>?_) (λx hx=>by cases hx) ⟨z _ (by decide),z _ (by decide),z _ (by decide),z _ (by decide)⟩
 all_goals
  have hx:x∈[((1:Int),Kg),(2,Ki)]:=hx;simp only[b38,List.mem_nil_iff,or_false]at hx
 ·rcases hx with rfl|rfl<;>exact⟨by decide,by decide⟩
 ·rcases hx with rfl|rfl
  ·exact hN
  ·exact hL
theorem a6l:∃k,SizeOf.sizeOf exV=k+3:=by
 have h1:((2:Int),Ki)∈exV.Slots:=by simp[exV]
 have h2:Is 97∈Ki.B4:=by simp[Ki]
 have:=BC h1;have:=Az h2;have:=Ao (Is 97);exact⟨SizeOf.sizeOf exV - 3,by simp only at*;omega⟩
theorem tf(k:Nat):Av X8 (k+3) 0 exV=0:=by kernel_rfl
theorem a9q(k:Nat):V9 (k+3) exV=false:=by kernel_rfl
theorem a5q(k:Nat):AN X8 (k+3) 0 exV=exV:=by kernel_rfl
theorem zj:Fd (wI 18446744073709551611)=⟨#[45,53]⟩:=by
 have:=cH 18446744073709551611 (by decide) (by decide);rw[show((18446744073709551611:Nat):Int)=18446744073709551611 from rfl]at this;rw[this,PL _ (by decide)];rfl
theorem tM:Aq X8 Mg Kg=⟨#[45,53]⟩:=by
 have h:Aq X8 Mg Kg=Fd (wI 18446744073709551611):=by kernel_rfl
 rw[h,zj]
theorem a3t(k:Nat):N4 X8 (k+3) 0 exV=[(0,(⟨#[110]⟩++⟨#[58,32]⟩)++Aq X8 Mg Kg),(0,(⟨#[108]⟩++⟨#[58,32]⟩)++⟨#[34,97,34]⟩),(0,(⟨#[108]⟩++⟨#[58,32]⟩)++⟨#[34,98,34]⟩)]:=by kernel_rfl
theorem b1r:M5 X8 ⟨#[97,46,77]⟩=(0,true):=by decide
theorem kW:U2 X8 ⟨#[97,46,77]⟩ exV=([(0,⟨#[110,58,32,45,53]⟩),(0,⟨#[108,58,32,34,97,34]⟩),(0,⟨#[108,58,32,34,98,34]⟩)],0):=by
 obtain⟨k,hk⟩:=a6l;have e1:=tf k;have e2:=a9q k;have e3:=a5q k;have e4:=a3t k;rw[tM]at e4;rw[U2,BH,b1r];simp only;rw[hk,e3,hk];rw[if_neg (by decide),if_neg (by rw[e1];decide),if_neg (by rw[e2];decide),e4];rfl
theorem vk:FQ X8 ⟨#[97,46,77]⟩ exV=(⟨#[110,58,32,45,53,10,108,58,32,34,97,34,10,108,58,32,34,98,34,10]⟩,0):=by
 rw[FQ,kW];rw[if_neg (by decide)]
 kernel_rfl
theorem rb:FG X8 ⟨#[97,46,77]⟩ exV=(⟨#[110,58,32,45,53,32,108,58,32,34,97,34,32,108,58,32,34,98,34]⟩,0):=by
 rw[FG,kW];rw[if_neg (by decide)]
 kernel_rfl
theorem jw:L9 exV<=134217728:=b37 (by kernel_rfl)
theorem qD(mg:Int):UB mg true:=by
 have h1:=qa ol iQ mg ⟨#[97,46,77]⟩ kR jw;have h2:=jv ol iQ mg ⟨#[97,46,77]⟩ kR jw;rw[vk]at h1;rw[rb]at h2;refine b2m mg _ ⟨_,UM (h1:A9 Tryz.prog (O6 mg) 7 [.agg (C7 X8),.v (.string ⟨#[97,46,77]⟩),.agg (C4 exV)] _) (by kernel_rfl),_,UM (h2:A9 Tryz.prog (O6 mg) 9 [.agg (C7 X8),.v (.string ⟨#[97,46,77]⟩),.agg (C4 exV)] _) (by kernel_rfl),Iq,nQ,_,UM yU (by kernel_rfl),Iq,nQ,_,UM a3f (by kernel_rfl),λb=>b=true,λb hb=>?_,λ_=>⟨true,a1o,rfl⟩,λh=>?_⟩
 ·rw[hb];rfl
 ·exact absurd h (by decide)
theorem yW(mg:Int)(p:A5)(hp:Ct p)(name:b4b)(v:A0)(hv:C8 v)(hw:L9 v<=134217728):pe mg p name v true:=by
 obtain⟨y,h1,h2⟩:=b04 p hp;refine a9d mg _ _ _ _ ⟨y,h1,λ_=>⟨true,qD mg,rfl⟩,λh=>?_⟩;obtain⟨va,nm⟩:=h2 (by simpa using h);have hx:Ay p:=⟨hp.oke,hp,va⟩;refine⟨_,qa hx nm mg name hv hw,_,rj hx nm name hv hw,_,jv hx nm mg name hv hw,_,yb hx nm name hv hw,λ_=>⟨true,qD mg,rfl⟩,λh=>?_⟩;simp at h
theorem oU{P:Program}{w:World}{fuel:Nat}{t e:TypeId}{n:Nat}{cs:b4c Value}{k:IntKind}{zs:b4c Int}{p:b4c MemPlace}(ht:P.underlying t=some (.array n e))(he:P.underlying e=some (.int k))(hc:P.cellsOf e=1)(h:DataW.trod (λ_=>()) P w 0 (λ_=>true) false fuel t cs=some (.agg (zs.map λz=>.lit (.int k z)),p))(i:Nat)(hi:i<n)(z:Int)(hz:zs[i]? =some z):cs[i]? =some (.int k z):=by
 obtain⟨fuel',d,q,hd,h1⟩:=Lib.array_elem ht h i hi;simp only[b31,hz,Option.map_some,b4a]at hd;subst hd;rw[hc]at h1;obtain⟨x,h2,h3,_⟩:=DataW.trod_int he h1
 have h4:x=z:=by
  have:=congrArg Prod.fst h3;simpa using this.symm
 have h5:=congrArg (·[0]?) h2;simp only[List.getElem?_take,List.getElem?_drop]at h5;subst h4;simpa using h5
theorem pJ{w:World}{g:Nat}{cells:b4c AV}(xs:Nat->Value)(h:∀(i:Nat) (av:AV),cells[i]? =some av->w.cell? ⟨g,i,none⟩=some (xs i)/\av=.v (xs i)/\Ha (xs i)):Rel (bare w Cv) (.D3 cells 0) (.pointer (some ⟨g,0,none⟩)):=by
 refine .D3 cells 0 g 0 xs (λi av hi=>?_) (λi av hi=>?_)
 ·obtain⟨h1,rfl,h3⟩:=h i av hi;exact⟨by rw[Nat.zero_add];exact h1,λq=>q.elim (λx=>x.elim) (λx=>FV _ _ _ _ x),rfl⟩
 ·obtain⟨h1,rfl,h3⟩:=h i av hi;exact .v _ h3
def Qn:b4c Int:=[1,10,100,1000,10000,100000,1000000,10000000,100000000,1000000000,10000000000,100000000000,1000000000000,10000000000000,100000000000000,1000000000000000,10000000000000000,100000000000000000,1000000000000000000,10000000000000000000]
def Vh:b4c Int:=[0,1,56,2,57,49,28,3,61,58,42,50,38,29,17,4,62,47,59,36,45,43,51,22,53,39,33,30,24,18,12,5,63,55,48,27,60,41,37,16,46,35,44,21,52,32,23,11,54,26,40,15,34,20,31,10,25,14,19,9,13,8,7,6]
theorem tD(mg:Int){w:World}(hp:Lib.VarReads Tryz.prog w "internal/strconv.uint64pow10" (.agg (Qn.map λz=>.lit (.int .u64 z))))(hb:Lib.VarReads Tryz.prog w "math/bits.deBruijn64tab" (.agg (Vh.map λz=>.lit (.int .u8 z)))):DI w Cv (O6 mg):=by
 intro g cells hg;rcases List.mem_cons.1 hg with e|hg
 ·have e2:cells=Qn.map λz=>.v (.int .u64 z):=by cases e;rfl
  obtain rfl:g=1:=by cases e;rfl
  subst e2;obtain⟨g,t,cs,fuel,p,h1,h2,h3,h4⟩:=hp;have g1:Tryz.prog.globalNamed "internal/strconv.uint64pow10"=some 1:=by kernel_rfl
  obtain rfl:=Option.some.inj (g1.symm.trans h1);have g2:(Tryz.prog.globals[1]?).map (·.type)=some 258:=by kernel_rfl
  obtain rfl:=Option.some.inj (g2.symm.trans h2);refine pJ (λi=>.int .u64 (Qn.getD i 0)) λi av hi=>?_
  rw[b31]at hi;obtain⟨s,hs,rfl⟩:=Option.map_eq_some_iff.1 hi;have hd:Qn.getD i 0=s:=by rw[List.getD_eq_getElem?_getD,hs];rfl
  have hlt:i<20:=(List.getElem?_eq_some_iff.1 hs).1;have:=oU (t:=258) (e:=26) (n:=20) (by kernel_rfl) (by kernel_rfl) (by kernel_rfl) h4 i hlt s hs;refine⟨?_,by rw[hd],rfl⟩;rw[World.var?_cell g1 h3 i,<-Array.getElem?_toList,hd];exact this
 rcases List.mem_cons.1 hg with e|hg
 ·have e2:cells=Vh.map λz=>.v (.int .u8 z):=by cases e;rfl
  obtain rfl:g=5:=by cases e;rfl
  subst e2;obtain⟨g,t,cs,fuel,p,h1,h2,h3,h4⟩:=hb;have g1:Tryz.prog.globalNamed "math/bits.deBruijn64tab"=some 5:=by kernel_rfl
  obtain rfl:=Option.some.inj (g1.symm.trans h1);have g2:(Tryz.prog.globals[5]?).map (·.type)=some 306:=by kernel_rfl
  obtain rfl:=Option.some.inj (g2.symm.trans h2);refine pJ (λi=>.int .u8 (Vh.getD i 0)) λi av hi=>?_
  rw[b31]at hi;obtain⟨s,hs,rfl⟩:=Option.map_eq_some_iff.1 hi;have hd:Vh.getD i 0=s:=by rw[List.getD_eq_getElem?_getD,hs];rfl
  have hlt:i<64:=(List.getElem?_eq_some_iff.1 hs).1;have:=oU (t:=306) (e:=5) (n:=64) (by kernel_rfl) (by kernel_rfl) (by kernel_rfl) h4 i hlt s hs;refine⟨?_,by rw[hd],rfl⟩;rw[World.var?_cell g1 h3 i,<-Array.getElem?_toList,hd];exact this
 ·cases hg
theorem uZ{P:Program}{f:FuncId}{args:b4c AV}{cargs:Array Value}{W:World}{gl:b4c (Nat × b4c AV)}(hg:DI W Cv gl)(hf:A9 P gl f args (.v (.bool true)))(hr:P7 (bare W Cv) args cargs.toList):
  Calls P f cargs W λe W'=>e=.returned (.bool true)/\Below W.heap.size W W':=by
 refine(hf.2 W Cv cargs (λb o h=>h.elim) hg hr).mono λe W' ⟨av,x,he,hp,hrel,hav⟩=>?_
 rw[u4 hav]at hrel;cases hrel with
 |v _ _=>exact⟨he,hp.below⟩
section
open Go.RowKit Go.ChangeShapes Go.WideShapes Go.ChangeAt
open _root_.Go.Proofs.YtdpomombdeccpaaGreatDoor.Rows (uptoBulk uptoBulkAll uptoBulkEntries uptoBulkEntry)
section
variable {H:Type}{enc:TypeId × Value->H}{P:Program}{W:World}{base b0:Nat}{spare:Nat->b4e}{held:b4e}
theorem Vs:∀(els:b4c (b4c AV)) (ds:b4c (DataW H)),ds.length=els.length->(∀(i:Nat) (el:b4c AV) (d:DataW H),els[i]? =some el->ds[i]? =some d->bL el<=uptoBulk d)->CG els<=uptoBulkAll ds
 |[],ds,_,_=>by simp[CG]
 |el::els,[],h,_=>by simp at h
 |el::els,d::ds,h,hh=>by
  have h1:=hh 0 el d rfl rfl;have h2:=Vs els ds (by simpa using h) λi e d hi hd=>hh (i+1) e d (by simpa using hi) (by simpa using hd)
  simp only[CG,uptoBulkAll];omega
theorem zT{ts:b4c TypeId}(ok:YR P ts):∀(n:Nat) (t:TypeId) (cs:b4c Value) (z:DataW H × b4c MemPlace),t∈ts->DataW.trod enc P W base spare held n t cs=some z->AE P t z.1->
  ∃avs,D0 (bare W Cv) avs cs/\Ty P n t avs/\B7 avs/\bL avs<=uptoBulk z.1:=by
 intro n
 induction n with
 |zero=>intro t cs z ht h;simp[DataW.trod]at h
 |succ n ih=>
  intro t cs z ht h hw;have hok:=List.all_eq_true.1 ok t ht;unfold dm at hok;split at hok
  ·rename_i k hu;obtain⟨m,rfl,hz,hwf⟩:=DataW.trod_int hu h;exact⟨[.v (.int k m)],D0.one (.v _ rfl) rfl,by unfold Ty;rw[hu];exact⟨m,rfl,hwf⟩,rfl,by rw[hz];simp[bL,bA,uptoBulk]⟩
  ·rename_i hu;obtain⟨b,rfl,hz⟩:=DataW.trod_bool hu h;exact⟨[.v (.bool b)],D0.one (.v _ rfl) rfl,by unfold Ty;rw[hu];exact⟨b,rfl⟩,rfl,by rw[hz];simp[bL,bA,uptoBulk]⟩
  ·rename_i hu;obtain⟨s,rfl,rfl,_⟩:=DataW.trod_string hu h;have:s.size<=140737488351232:=hw s.size (by simp[DataW.weights]);exact⟨[.v (.string s)],D0.one (.v _ rfl) rfl,by unfold Ty;rw[hu];exact⟨s,rfl,this⟩,rfl,by simp[bL,bA,uptoBulk]⟩
  ·rename_i e hu;simp only[b3x,b3v,List.contains_iff_mem]at hok;obtain⟨⟨he,hk0⟩,hb1⟩:=hok;rcases DataW.trod_slice hu h with⟨hc,hx0⟩|⟨a,len,cap,elems,rest,m,hm,hc,hy,hb,hl,hmx,hlen,helem,_⟩
   ·subst hc;exact⟨[.sl [] .no],D0.one (.sl0 _ trivial) rfl,by unfold Ty;rw[hu];exact⟨[],rfl,by simp,λel h=>by cases h⟩,rfl,by rw[hx0];simp[bL,bA,CG,uptoBulk]⟩
   ·subst hc hy;obtain rfl:m=n:=by omega
    have hsh:=AE.short hu hw;rw[List.length_map,hlen]at hsh
    have key:∀i,i<len->∃avs:b4c AV,∃vs:b4c Value,vs.length=P.cellsOf e/\(∀j,j<P.cellsOf e->W.cell? ((a.add (i*P.cellsOf e)).add j)=vs[j]?)/\D0 (bare W Cv) avs vs/\Ty P m e avs/\B7 avs/\∀q,elems[i]? =some q->bL avs<=uptoBulk q.1:=by
     intro i hi;have h1:=helem i hi;rw[b3y (by omega),b3u]at h1;obtain⟨vs,hc1,hc2⟩:=h1;obtain⟨_,hl1,hc3⟩:=World.cells?_some hc1;obtain⟨avs,h2,h3,h4,h5⟩:=ih e vs _ he hc2 (AE.elem hu hw (i:=i) (by rw[b31,b3y (by omega)];rfl));exact⟨avs,vs,hl1,hc3,h2,h3,h4,λq hq=>by rw[b3y (by omega)]at hq;cases hq;exact h5⟩
    obtain⟨els,hel,hels⟩:=Ul len key
    have hty:∀el∈els,Ty P m e el/\B7 el:=by
     intro el hmem;obtain⟨i,hi⟩:=List.mem_iff_getElem?.1 hmem;obtain⟨vs,_,_,_,q1,q2,_⟩:=hels i el hi;exact⟨q1,q2⟩
    refine⟨[.sl els .no],D0.one ?_ rfl,by unfold Ty;rw[hu];exact⟨els,rfl,by rw[hel];exact hsh,λel h=>(hty el h).1⟩,by simp only[B7,plain,Bool.true_and,Bool.and_true];exact gV λp hp=>(hty p hp).2,?_⟩
    rotate_left
    ·simp only[bL,bA,uptoBulk,Nat.add_zero]
     have hz:CG els<=uptoBulkAll (elems.map (·.1)):=Vs els _ (by rw[List.length_map,hel,hlen]) λi el d hi hd=>by
      obtain⟨vs,_,_,_,_,_,q3⟩:=hels i el hi;rw[b31,b3t]at hd;obtain⟨q,hq,rfl⟩:=hd;exact q3 q hq
     omega
    by_cases h0:len=0
    ·subst h0;have:els=[]:=List.eq_nil_of_length_eq_zero hel;subst this;exact .I5 _ a cap trivial (.inl rfl)
    ·obtain⟨b,o,sp⟩:=a;obtain⟨avs0,vs0,hl0,hc0,_⟩:=key 0 (by omega);have hz:=hc0 0 hk0;rw[b3y (by omega)]at hz
     have hspot:sp=none:=by
      have:=World.cell?_spot hz;simpa[Addr.add]using this
     subst hspot
     have:=Rel.sl (σ:=bare W Cv) els .no b o cap (P.cellsOf e) (λi j=>((W.cell? ⟨b,o+i*P.cellsOf e+j,none⟩).getD undef)) (λi el hi=>by
       obtain⟨vs,q1,_,q3,_⟩:=hels i el hi;rw[<-q3.1,q1]) (by omega) trivial (λid e h=>by cases h) (λi el hi j av hj=>by
       obtain⟨vs,q1,q2,q3,_⟩:=hels i el hi;obtain⟨c1,x,hx,hr⟩:=q3.2 j av hj;have hjl:j<P.cellsOf e:=by rw[<-q1];exact(List.getElem?_eq_some_iff.1 hx).1
       have:=q2 j hjl;rw[AM,AM,hx]at this;exact⟨by show W.cell? _=_;rw[this];rfl,λh=>(PD _ _ _ _).1 h,c1⟩) (λi el hi j av hj=>by
       obtain⟨vs,q1,q2,q3,_⟩:=hels i el hi;obtain⟨c1,x,hx,hr⟩:=q3.2 j av hj;have hjl:j<P.cellsOf e:=by rw[<-q1];exact(List.getElem?_eq_some_iff.1 hx).1
       have:=q2 j hjl;rw[AM,AM,hx]at this;rw[this];exact hr)
     rw[hel]at this;exact this
  ·rename_i fs hu;simp only[b3x,b34,List.contains_iff_mem]at hok;obtain⟨hfs,hcg⟩:=hok;obtain⟨xs,m,hm,rfl,hcl,hxl,hf⟩:=DataW.trod_struct hu h;obtain rfl:m=n:=by omega
   have key:∀i,i<fs.size->∃avs:b4c AV,∀f,fs[i]? =some f->D0 (bare W Cv) avs ((cs.drop f.offset).take (P.cellsOf f.type))/\Ty P m f.type avs/\B7 avs/\∀q,xs[i]? =some q->bL avs<=uptoBulk q.1:=by
    intro i hi;have hfi:fs[i]? =some fs[i]:=Array.getElem?_eq_getElem hi;have e:xs[i]? =some xs[i]:=b3y (by omega);obtain⟨avs,h2,h3,h4,h5⟩:=ih fs[i].type _ _ (hfs _ (by simp)) ((hf i _ hfi).trans e) (AE.part hu hw hfi (by rw[b31,e];rfl));refine⟨avs,λf hf'=>?_⟩;rw[hfi]at hf';cases hf';exact⟨h2,h3,h4,λq hq=>by rw[e]at hq;cases hq;exact h5⟩
   obtain⟨parts,hpl,hparts⟩:=Ul fs.size key;have hcells:=nL (P:=P) (bare W Cv) fs.toList 0 (P.cellsOf t) cs parts hcg hcl (by simpa using hpl) (λi f p hfi hpi=>(hparts i p hpi f (by simpa using hfi)).1);refine⟨parts.flatten,by simpa using hcells,?_,Wv λp hp=>?_,?_⟩
   ·unfold Ty;rw[hu];refine⟨parts,rfl,hpl,λi f hfi=>?_⟩;have hi:i<parts.length:=by rw[hpl];exact(Array.getElem?_eq_some_iff.1 hfi).1
    exact⟨parts[i],b3y hi,(hparts i _ (b3y hi) f hfi).2.1⟩
   ·obtain⟨i,hi⟩:=List.mem_iff_getElem?.1 hp;have hlt:i<fs.size:=by rw[<-hpl];exact(List.getElem?_eq_some_iff.1 hi).1
    exact(hparts i p hi fs[i] (Array.getElem?_eq_getElem hlt)).2.2.1
   ·rw[dH];simp only[uptoBulk]
    have hz:CG parts<=uptoBulkAll (xs.map (·.1)):=Vs parts _ (by rw[List.length_map,hpl,hxl]) λi p d hi hd=>by
     have hlt:i<fs.size:=by rw[<-hpl];exact(List.getElem?_eq_some_iff.1 hi).1
     rw[b31,b3t]at hd;obtain⟨q,hq,rfl⟩:=hd;exact(hparts i p hi fs[i] (Array.getElem?_eq_getElem hlt)).2.2.2 q hq
    omega
  ·rename_i k e hu;simp only[b3x,b3v,List.contains_iff_mem]at hok;obtain⟨he,hke⟩:=hok;obtain⟨xs,m,hm,rfl,hcl,hxl,hf⟩:=DataW.trod_array hu h;obtain rfl:m=n:=by omega
   have key:∀i,i<k->∃avs:b4c AV,D0 (bare W Cv) avs ((cs.drop (i*P.cellsOf e)).take (P.cellsOf e))/\Ty P m e avs/\B7 avs/\∀q,xs[i]? =some q->bL avs<=uptoBulk q.1:=by
    intro i hi;have e1:xs[i]? =some xs[i]:=b3y (by omega);obtain⟨avs,h2,h3,h4,h5⟩:=ih e _ _ he ((hf i hi).trans e1) (AE.at_ hu hw (by rw[b31,e1];rfl));exact⟨avs,h2,h3,h4,λq hq=>by rw[e1]at hq;cases hq;exact h5⟩
   obtain⟨parts,hpl,hparts⟩:=Ul k key
   have hall:∀p∈parts,Ty P m e p/\B7 p:=by
    intro p hp;obtain⟨i,hi⟩:=List.mem_iff_getElem?.1 hp;exact⟨(hparts i p hi).2.1,(hparts i p hi).2.2.1⟩
   refine⟨parts.flatten,jj _ (P.cellsOf e) parts cs (by rw[hcl,hpl,hke]) (λi p hi=>(hparts i p hi).1),?_,Wv λp hp=>(hall p hp).2,?_⟩
   ·unfold Ty;rw[hu];exact⟨parts,rfl,hpl,λp hp=>(hall p hp).1⟩
   ·rw[dH];simp only[uptoBulk]
    have hz:CG parts<=uptoBulkAll (xs.map (·.1)):=Vs parts _ (by rw[List.length_map,hpl,hxl]) λi p d hi hd=>by
     rw[b31,b3t]at hd;obtain⟨q,hq,rfl⟩:=hd;exact(hparts i p hi).2.2.2 q hq
    omega
  ·cases hok
theorem Zv{ts:b4c TypeId}(ok:YR P ts){t:TypeId}(ht:t∈ts){v:Value}{d:DataW H}{p:b4c MemPlace}(hval:Value.okWide P W .any b0 t v)(h:DataW.Trod enc P W base spare held t v d p)(hw:AE P t d):
  ∃n av,Rel (bare W Cv) av v/\Ix P n t av/\plain av/\bA av<=uptoBulk d+1:=by
 obtain⟨m,hm⟩:=h;obtain⟨avs,hc,hty,hpl,hbk⟩:=zT ok m t _ _ ht hm hw;cases m with
 |zero=>simp[DataW.trod]at hm
 |succ m=>
  have hok:=List.all_eq_true.1 ok t ht;unfold dm at hok;unfold Ix;unfold Value.okWide at hval;split at hok
  ·rename_i k hu;rw[hu]at hval;simp only[Cell.okWide,hu,Cell.ok]at hval;have h2:=hty;unfold Ty at h2;rw[hu]at h2;obtain⟨x,rfl,_⟩:=h2;refine⟨m+1,_,SF hc (λcs he=>by subst he;simp at hval),by rw[hu];exact hty,rfl,by simp only[bL]at hbk;omega⟩
  ·rename_i hu;rw[hu]at hval;simp only[Cell.okWide,hu,Cell.ok]at hval;have h2:=hty;unfold Ty at h2;rw[hu]at h2;obtain⟨x,rfl⟩:=h2;refine⟨m+1,_,SF hc (λcs he=>by subst he;simp at hval),by rw[hu];exact hty,rfl,by simp only[bL]at hbk;omega⟩
  ·rename_i hu;rw[hu]at hval;simp only[Cell.okWide,hu,Cell.ok]at hval;have h2:=hty;unfold Ty at h2;rw[hu]at h2;obtain⟨x,rfl,_⟩:=h2;refine⟨m+1,_,SF hc (λcs he=>by subst he;simp at hval),by rw[hu];exact hty,rfl,by simp only[bL]at hbk;omega⟩
  ·rename_i e hu;rw[hu]at hval;simp only[Cell.okWide,hu,Cell.ok]at hval;have h2:=hty;unfold Ty at h2;rw[hu]at h2;obtain⟨x,rfl,_⟩:=h2;refine⟨m+1,_,SF hc (λcs he=>by subst he;simp at hval),by rw[hu];exact hty,by simpa[B7]using hpl,by simp only[bL]at hbk;omega⟩
  ·rename_i fs hu;rw[hu]at hval;obtain⟨cs,rfl,_⟩:=hval;exact⟨m+1,.agg avs,lF hc,by rw[hu];exact⟨avs,rfl,hty⟩,hpl,by simp only[bA];have:uptoBulk (d,p).1=uptoBulk d:=rfl;omega⟩
  ·rename_i k e hu;rw[hu]at hval;obtain⟨cs,rfl,_⟩:=hval;exact⟨m+1,.agg avs,lF hc,by rw[hu];exact⟨avs,rfl,hty⟩,hpl,by simp only[bA];have:uptoBulk (d,p).1=uptoBulk d:=rfl;omega⟩
  ·cases hok
end
end
end Go.Proofs.YtdpomombdeccpaaGreatDoor.Lift
