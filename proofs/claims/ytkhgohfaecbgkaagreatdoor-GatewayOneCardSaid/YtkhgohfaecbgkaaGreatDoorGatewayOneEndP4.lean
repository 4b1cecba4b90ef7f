/- Part 5 of the texts that prove GatewayOneEnd. -/
import Derived.Test.YtkhgohfaecbgkaaGreatDoorGatewayOneEndP3
import Derived.Test.YtkhgohfaecbgkaaGreatDoorGatewayOneEndP2
import Derived.Test.YtkhgohfaecbgkaaGreatDoorProg
import Derived.WalkKit
import Derived.ProofKit
import Derived.Lib.Builder
import Derived.Laws.Externs
import Derived.Lib.Strings
import Derived.Lib.Slices
import Derived.Lib.Walk
import Derived.Lib.AppendStr
import Derived.Lib.UnsafeStr
import Derived.Lib.MakeNoZero
import Derived.Laws.IdiomCopy
import Derived.Laws.BitsLemmas
import Derived.Shelf.Strings.Builder1
import Derived.Shelf.Strings.Builder2
import Derived.Shelf.Small.Strs
import Derived.Shelf.Strings.BuilderF
import Derived.Shelf.Utf8.RuneCount
import Derived.Shelf.Strconv.Itoa0
import Derived.Shelf.Strconv.Itoa1
import Derived.Shelf.LaysM
import Derived.Shelf.Strconv.Itoa2
import Derived.Shelf.Strconv.Itoa3
import Derived.Shelf.Strings.Search1
import Derived.Shelf.Strings.Search2
import Derived.Shelf.Strings.Search3
import Derived.Shelf.Strings.Cut
import Derived.Shelf.Strings.Count
import Derived.Shelf.Strings.Shaped
import Derived.Shelf.Strings.Split
import Derived.Shelf.Strings.SplitShaped
import Derived.Shelf.Unicode.Decode
import Derived.Shelf.Strings.RuneCount
import Derived.Shelf.Strings.Explode
import Derived.Shelf.Bits.Mul64
import Derived.Shelf.Unicode.DecodeSlow
import Derived.Shelf.Unicode.DecodeAny
import Derived.Ground.Names2Prog
import Derived.Shelf.Slices.SearchI
import Derived.RegionCalls
import Derived.Deep.RegionWith
namespace Go.Proofs.YtkhgohfaecbgkaaGreatDoor.Lift
open Go.RowKit
set_option linter.unusedVariables false
set_option linter.unusedSimpArgs false
set_option linter.unnecessarySimpa false
set_option linter.unusedSectionVars false
set_option maxRecDepth 100000
section
attribute [local irreducible] Ok run put c85 br jn pos dr0 So
attribute [-simp] List.map_take List.map_drop List.map_append List.map_set List.map_replicate List.map_cons List.map_map
attribute [local simp] plain plainL a6k a4t W4 low lowL lowLL I4 G4 G6 D3 I3 G2 G3 G5 G9 G1 V3 M1 Y7 H0 F2 N6 J4 E5 F6 K4 H5 K2 H4 J8 F0 E1 F5 N3 I6 D6 F3 P7 M7 P1 O7 H9 I7 H3 I1 C9 N5 I5 J0 a2m W8 a99 a5q X9 K6 b1y a79 b0o d3f c1z c2k F9 c1b c2r c11 c2e a28 L9 eFn eL c1c b5j b5z b5q c07 b71 b6v b51 c08 c43 b2y c0t b3k b7d b5u b59 b2j b6z a7m b5c b5r b0k a8b b0b b23 b5d b9v a7l b7t c4o b96 c0d b7z b7m b5k c00 b5l b5v b6h b9t c4z b2i c0l b26 b67 b7a b6q b24 b6m a77 b6l b6n b0l a71 b0w b3n b6o c0i a7u b61 b2s b92 b22 b64 b7r b5t b2n b7p a69 b6a b50 b0d a68 a9q b2e b6p c1g a76 b5y b68
theorem h4s(r:Bool):plain (e5 r)=true:=rfl
theorem a1p(mg:Int)(s:A3)(l:(List B5))(verb:ByteArray)(path:ByteArray)(r:Bool)(hw:∃y1,b25 s l y1/\(∃R1:Bool->Prop,(∀bz1:Bool,R1 bz1->((bz1=true->∃y3,a54 mg y3/\(r=y3))/\(bz1=false->∃y4,a5s mg l verb path y4/\(((y4.2.2 !=0)=true->∃R2:Bool->Prop,(∀bz2:Bool,R2 bz2->(r=bz2))/\(((((y4.1==0)&&((y4.2.1.length:Int)==0))&&(y4.2.2==10))=true->∃y5,a54 mg y5/\(R2 y5))/\((((y4.1==0)&&((y4.2.1.length:Int)==0))&&(y4.2.2==10))=false->R2 false)))/\((y4.2.2 !=0)=false->∃R3:Bool->Prop,(∀bz3:Bool,R3 bz3->((bz3=true->r=false)/\(bz3=false->(0<=(0:Int)/\(0:Int)<=y4.1/\y4.1<=(l.length:Int))/\(((l.take y4.1.toNat).drop (0:Int).toNat).length*80<=140737488355328/\((0<=(wI (y4.1+1))/\(wI (y4.1+1))<=(l.length:Int)/\(l.length:Int)<=(l.length:Int))/\((((l.take y4.1.toNat).drop (0:Int).toNat).length+((l.take (l.length:Int).toNat).drop (wI (y4.1+1)).toNat).length)*80<=140737488355328/\(∃y8,a5s mg (((l.take y4.1.toNat).drop (0:Int).toNat)++((l.take (l.length:Int).toNat).drop (wI (y4.1+1)).toNat)) verb path y8/\(((y8.2.2==10)=true->∃y9,a54 mg y9/\(r=y9))/\((y8.2.2==10)=false->r=false)))))))))/\((((decide (y4.1<0))||(decide ((l.length:Int)<=y4.1)))=true->R3 true)/\(((decide (y4.1<0))||(decide ((l.length:Int)<=y4.1)))=false->∃y7,l[y4.1.toNat]? =some y7/\0<=y4.1/\(R3 (!(decide (y7.Verb=verb)))))))))))/\(((((!y1)||(decide (300<(verb.size:Int))))||(decide (1000<(path.size:Int))))=true->R1 true)/\((((!y1)||(decide (300<(verb.size:Int))))||(decide (1000<(path.size:Int))))=false->∃y2,a6d mg s l y2/\(R1 (y2 !=0)))))):a6p mg s l verb path r:=
 fP (KC 11 (pgX mg hw) pl6 fun _ hw=>KT 2 4<|KT 1 4<|KQ 1 5 kB hw (fun _ hw=>KW 2 hw (fun _ hw=>KC 2 hw pl7 fun _ hw=>KR 5 hw h4s) fun _ hw=>KC 7 hw n9m fun y4 hw=>KW 16 hw (fun _ hw=>KT2 5 4 (y4.1==0) (fun z=>aB (z&&((y4.2.1.length:Int)==0))) (fun _ key=>KL 1 e1r y4.2.1<|KE2 2 key) (fun _ key=>KE2 4 key)<|KT 1 3<|KQ 1 2 kB hw (fun _ hw=>KR 5 hw h4s) (fun _ key _ hw=>KC 0 hw pl7 fun _ hw=>KE 1 key hw) fun _ key _ hw=>KE 2 key hw) fun _ hw=>KT2 8 5 (decide (y4.1<0)) (fun z=>aB (z||(decide ((l.length:Int)<=y4.1)))) (fun _ key=>KE2 5 key) (fun _ key=>KL 2 L5 l<|KE2 2 key)<|KQ 1 8 kB hw (fun _ hw=>KW 2 hw (fun _ hw=>KR 7 hw h4s) fun _ hw=>KSV 12 L5 hw fun hw=>KA0 0 L5 hw mF fun hw=>KSV 9 L5 hw fun hw=>KA 0 L5 hw mF fun hw=>KC 8 hw n9m fun _ hw=>KW 14 hw (fun _ hw=>KC 0 hw pl7 fun _ hw=>KR 5 hw h4s) fun _ hw=>KR 6 hw h4s) (fun _ key _ hw=>KE 8 key hw) fun _ key _ hw=>KI 2 L5 hw fun _ hw=>KE 5 key hw) (fun _ key _ hw=>KE 5 key hw) fun _ key _ hw=>KC 2 hw pl8 fun _ hw=>KE 2 key hw)
theorem l7u(r:Bool):plain (e6 r)=true:=rfl
theorem a3d(s:A3)(l:(List B5))(r:Bool)(hw:∃y1,a91 l y1/\((y1=true->∃y2,a97 s y2/\((y2=true->∃y3,a9z s y3/\(r=y3))/\(y2=false->r=false)))/\(y1=false->r=false))):b25 s l r:=
 fP (KC 9 hw o2h fun _ hw=>KW 1 hw (fun _ hw=>KC 1 hw o0a fun _ hw=>KW 2 hw (fun _ hw=>KC 1 hw o0o fun _ hw=>KR 5 hw l7u) fun _ hw=>KR 7 hw l7u) fun _ hw=>KR 11 hw l7u)
theorem l6t(r:Int):plain (e8 r)=true:=rfl
def X1(ij3:Int)(l:(List B5))(mg:Int)(r:Int):Prop:=J Tryz.prog 8 (.ret (e8 r)) 16 [(28,aI ij3),(27,aI (l.length:Int)),(26,.sl (List.map C1 l) .no),(1,.sl (List.map C1 l) .no)] ⟨[],[],GLm mg⟩
def X6(ij2:Int)(l:(List B5))(s:A3)(mg:Int)(r:Int):Prop:=J Tryz.prog 8 (.ret (e8 r)) 6 [(15,aI ij2),(14,aI (l.length:Int)),(13,.sl (List.map C1 l) .no),(2,.ptr 0 0),(1,.sl (List.map C1 l) .no)] ⟨[some (A6 s)],[],GLm mg⟩
theorem a2g{ij3:Int}{l:(List B5)}:a6k [] 0 [(28,aI ij3),(27,aI (l.length:Int)),(26,.sl (List.map C1 l) .no),(1,.sl (List.map C1 l) .no)]=true/\a4t [] 0 []=true:=⟨by first|rfl|simp,by first|rfl|simp⟩
theorem a87{ij2:Int}{l:(List B5)}{s:A3}:a6k [true] 0 [(15,aI ij2),(14,aI (l.length:Int)),(13,.sl (List.map C1 l) .no),(2,.ptr 0 0),(1,.sl (List.map C1 l) .no)]=true/\a4t [true] 0 [some (A6 s)]=true:=⟨by first|rfl|simp,by first|rfl|simp⟩
theorem a1t(ij3:Int)(l:(List B5))(mg:Int)(r:Int)(hw:((decide (ij3<(l.length:Int)))=true->∃y9,l[ij3.toNat]? =some y9/\0<=ij3/\((0<=(0:Int)/\(0:Int)<=ij3/\ij3<=(l.length:Int))/\(∃y10,I2 mg ((l.take ij3.toNat).drop (0:Int).toNat) (⟨25,[],[.elt (C1 y9) 0],by simp⟩:GFn) y10/\((y10=true->r=9)/\(y10=false->X1 (wI (ij3+1)) l mg r)))))/\((decide (ij3<(l.length:Int)))=false->r=0)):X1 ij3 l mg r:=
 KW 7 hw (fun _ hw=>KI 7 L5 hw fun y9 hw=>KFz 7 0 [false] 0 [(8,aI ij3),(9,.elt (C1 y9) 0),(28,aI ij3),(27,aI (l.length:Int)),(26,.sl (List.map C1 l) .no),(1,.sl (List.map C1 l) .no)] [none] ⟨by first|rfl|simp,by first|rfl|simp⟩<|KSV 3 L5 hw fun hw=>KC 1 hw o10 fun _ hw=>KW 2 hw (fun _ hw=>KR 11 hw l6t) fun _ hw=>KJl 8 [] hw a2g) fun _ hw=>KR 11 hw l6t
theorem a1k(ij2:Int)(l:(List B5))(s:A3)(mg:Int)(r:Int)(hw:((decide (ij2<(l.length:Int)))=true->∃y11,l[ij2.toNat]? =some y11/\0<=ij2/\(∃y12,a0b mg s y11 y12/\(((y12 !=0)=true->r=y12)/\((y12 !=0)=false->X6 (wI (ij2+1)) l s mg r))))/\((decide (ij2<(l.length:Int)))=false->X1 0 l mg r)):X6 ij2 l s mg r:=
 KW 7 hw (fun _ hw=>KI 6 L5 hw fun _ hw=>KC 9 hw o07 fun _ hw=>KW 9 hw (fun _ hw=>KR 12 hw l6t) fun _ hw=>KJl 8 [] hw a87) fun _ hw=>KL 9 L5 l<|KJl 5 [] hw a2g
theorem b1x(mg:Int)(s:A3)(l:(List B5))(r:Int)(hw:((decide (64<(l.length:Int)))=true->r=3)/\((decide (64<(l.length:Int)))=false->X6 0 l s mg r)):a6d mg s l r:=
 fP (KL 10 L5 l<|KW 3 hw (fun _ hw=>KR 7 hw l6t) fun _ hw=>KL 6 L5 l<|KJ 5 [] hw)
theorem d5e(r:Bool):plain (e10 r)=true:=rfl
def a09(ij1:Int)(l:(List B5))(r:Bool):Prop:=JP Tryz.prog 10 (e10 r) 6 [(3,aI ij1),(0,.sl (List.map C1 l) .no)]
theorem a3o(ij1:Int)(l:(List B5))(r:Bool)(hw:((decide (ij1<(l.length:Int)))=true->∃y10,l[ij1.toNat]? =some y10/\0<=ij1/\(∃R4:Bool->Prop,(∀bz4:Bool,R4 bz4->(∃R5:Bool->Prop,(∀bz5:Bool,R5 bz5->(∃R6:Bool->Prop,(∀bz6:Bool,R6 bz6->((bz6=true->r=false)/\(bz6=false->∃y18,l[ij1.toNat]? =some y18/\0<=ij1/\(((decide (300<(y18.Body.size:Int)))=true->r=false)/\((decide (300<(y18.Body.size:Int)))=false->a09 (wI (ij1+1)) l r)))))/\((bz5=true->R6 true)/\(bz5=false->∃y16,l[ij1.toNat]? =some y16/\0<=ij1/\(R6 (decide (300<(y16.Method.size:Int))))))))/\((bz4=true->R5 true)/\(bz4=false->∃y14,l[ij1.toNat]? =some y14/\0<=ij1/\(R5 (decide (300<(y14.Service.size:Int))))))))/\(((decide (300<(y10.Verb.size:Int)))=true->R4 true)/\((decide (300<(y10.Verb.size:Int)))=false->∃y12,l[ij1.toNat]? =some y12/\0<=ij1/\(R4 (decide (300<(y12.Path.size:Int))))))))/\((decide (ij1<(l.length:Int)))=false->r=true)):a09 ij1 l r:=
 KL 6 L5 l<|KW 3 hw (fun _ hw=>KI 8 L5 hw fun _ hw=>KQ 5 8 kB hw (fun _ hw=>KQ 1 8 kB hw (fun _ hw=>KQ 1 8 kB hw (fun _ hw=>KW 1 hw (fun _ hw=>KR 22 hw d5e) fun _ hw=>KI 2 L5 hw fun _ hw=>KW 7 hw (fun _ hw=>KR 11 hw d5e) fun _ hw=>KJ 9 [] hw) (fun _ key _ hw=>KE 8 key hw) fun _ key _ hw=>KI 2 L5 hw fun _ hw=>KE 5 key hw) (fun _ key _ hw=>KE 8 key hw) fun _ key _ hw=>KI 2 L5 hw fun _ hw=>KE 5 key hw) (fun _ key _ hw=>KE 8 key hw) fun _ key _ hw=>KI 2 L5 hw fun _ hw=>KE 5 key hw) fun _ hw=>KR 11 hw d5e
theorem a6l(l:(List B5))(r:Bool)(hw:((decide (70<(l.length:Int)))=true->r=false)/\((decide (70<(l.length:Int)))=false->a09 0 l r)):a91 l r:=
 fP (KL 9 L5 l<|KW 3 hw (fun _ hw=>KR 7 hw d5e) fun _ hw=>KJ 10 [] hw)
theorem l3q(r:(Int × (List S3) × Int)):plain (e11 r)=true:=(b9g (B0 rfl (B0 (psl (W8 r.2.1)) (B0 rfl rfl))))
def X0(ij1:Int)(l:(List B5))(verb:ByteArray)(path:ByteArray)(mg:Int)(r:(Int × (List S3) × Int)):Prop:=J Tryz.prog 11 (.ret (e11 r)) 3 [(15,aI ij1),(14,aI (l.length:Int)),(13,.sl (List.map C1 l) .no),(1,aS verb),(2,aS path)] ⟨[],[],GLm mg⟩
theorem a81{ij1:Int}{l:(List B5)}{verb:ByteArray}{path:ByteArray}:a6k [] 0 [(15,aI ij1),(14,aI (l.length:Int)),(13,.sl (List.map C1 l) .no),(1,aS verb),(2,aS path)]=true/\a4t [] 0 []=true:=⟨by first|rfl|simp,by first|rfl|simp⟩
theorem a1n(ij1:Int)(l:(List B5))(verb:ByteArray)(path:ByteArray)(mg:Int)(r:(Int × (List S3) × Int))(hw:((decide (ij1<(l.length:Int)))=true->∃y3,l[ij1.toNat]? =some y3/\0<=ij1/\(∃y4,a6e mg y3 verb path y4/\((y4.2=true->r=(ij1,y4.1,0))/\(y4.2=false->X0 (wI (ij1+1)) l verb path mg r))))/\((decide (ij1<(l.length:Int)))=false->r=(0,([]:(List S3)),10))):X0 ij1 l verb path mg r:=
 KW 7 hw (fun _ hw=>KI 7 L5 hw fun _ hw=>KC 11 hw o0d fun _ hw=>KW 12 hw (fun _ hw=>KR 15 hw l3q) fun _ hw=>KJl 8 [] hw a81) fun _ hw=>KR 13 hw l3q
theorem a4i(mg:Int)(l:(List B5))(verb:ByteArray)(path:ByteArray)(r:(Int × (List S3) × Int))(hw:X0 0 l verb path mg r):a5s mg l verb path r:=
 fP (KL 11 L5 l<|KJ 5 [] hw)
theorem j0z(r:Bool):plain (e14 r)=true:=rfl
def Z7(ij37:Int)(ij38:Int)(ij35:Int)(s:A3)(y149:C7)(r:Bool):Prop:=J Tryz.prog 14 (.ret (e14 r)) 43 [(13,aI ij37),(3,aI ij38),(12,.ptr 1 0),(11,aI ij35),(1,.ptr 0 0)] ⟨[some (A6 s),some (E0 y149)],[],[]⟩
def T6(ij35:Int)(ij36:Int)(s:A3)(r:Bool):Prop:=J Tryz.prog 14 (.ret (e14 r)) 36 [(11,aI ij35),(3,aI ij36),(1,.ptr 0 0)] ⟨[some (A6 s)],[],[]⟩
def a0k(ij39:Int)(ij40:Int)(ij31:Int)(s:A3)(y164:a10)(r:Bool):Prop:=J Tryz.prog 14 (.ret (e14 r)) 30 [(10,aI ij39),(3,aI ij40),(9,.ptr 1 0),(8,aI ij31),(1,.ptr 0 0)] ⟨[some (A6 s),some (a0x y164)],[],[]⟩
def S8(ij31:Int)(ij32:Int)(s:A3)(r:Bool):Prop:=J Tryz.prog 14 (.ret (e14 r)) 23 [(8,aI ij31),(3,aI ij32),(1,.ptr 0 0)] ⟨[some (A6 s)],[],[]⟩
def T0(ij41:Int)(ij42:Int)(ij21:Int)(s:A3)(y175:B2)(r:Bool):Prop:=J Tryz.prog 14 (.ret (e14 r)) 14 [(6,aI ij41),(3,aI ij42),(5,.ptr 1 0),(4,aI ij21),(1,.ptr 0 0)] ⟨[some (A6 s),some (C4 y175)],[],[]⟩
def T3(ij21:Int)(ij22:Int)(s:A3)(r:Bool):Prop:=J Tryz.prog 14 (.ret (e14 r)) 7 [(4,aI ij21),(3,aI ij22),(1,.ptr 0 0)] ⟨[some (A6 s)],[],[]⟩
theorem b0t{ij35:Int}{ij36:Int}{s:A3}:a6k [true] 0 [(11,aI ij35),(3,aI ij36),(1,.ptr 0 0)]=true/\a4t [true] 0 [some (A6 s)]=true:=⟨by first|rfl|simp,by first|rfl|simp⟩
theorem a9m{ij31:Int}{ij32:Int}{s:A3}:a6k [true] 0 [(8,aI ij31),(3,aI ij32),(1,.ptr 0 0)]=true/\a4t [true] 0 [some (A6 s)]=true:=⟨by first|rfl|simp,by first|rfl|simp⟩
theorem a3e{ij41:Int}{ij42:Int}{ij21:Int}{s:A3}{y175:B2}:a6k [true,true] 0 [(6,aI ij41),(3,aI ij42),(5,.ptr 1 0),(4,aI ij21),(1,.ptr 0 0)]=true/\a4t [true,true] 0 [some (A6 s),some (C4 y175)]=true:=⟨by first|rfl|simp,by first|rfl|simp⟩
theorem a98{ij21:Int}{ij22:Int}{s:A3}:a6k [true] 0 [(4,aI ij21),(3,aI ij22),(1,.ptr 0 0)]=true/\a4t [true] 0 [some (A6 s)]=true:=⟨by first|rfl|simp,by first|rfl|simp⟩
theorem a15(ij37:Int)(ij38:Int)(ij35:Int)(s:A3)(y149:C7)(r:Bool)(hw:(((decide (ij37<(y149.Methods.length:Int)))&&(decide (0<=ij38)))=true->∃y158,y149.Methods[ij37.toNat]? =some y158/\0<=ij37/\(∃y159,K7 y158.Notes ij38 y159/\(∃y160,y149.Methods[ij37.toNat]? =some y160/\0<=ij37/\(∃y161,y149.Methods[ij37.toNat]? =some y161/\0<=ij37/\(∃y162,y149.Methods[ij37.toNat]? =some y162/\0<=ij37/\(∃y163,J1 ([y160.Name,y161.In,y162.Out]:(List ByteArray)) ij38 y163/\(Z7 (wI (ij37+1)) (wI ((wI ((wI (ij38 - y159)) - y163))+2)) ij35 s y149 r)))))))/\(((decide (ij37<(y149.Methods.length:Int)))&&(decide (0<=ij38)))=false->T6 (wI (ij35+1)) ij38 s r)):Z7 ij37 ij38 ij35 s y149 r:=
 KL 7 Z9 y149.Methods<|KT 2 3<|KW 2 hw (fun _ hw=>KD 4 [1]<|KI 4 Z9 hw fun _ hw=>KC 3 hw h1b fun _ hw=>KI 4 Z9 hw fun _ hw=>KI 5 Z9 hw fun _ hw=>KI 5 Z9 hw fun _ hw=>KC 4 hw f6o fun _ hw=>KJ 13 [] hw) fun _ hw=>KJl 12 [] hw b0t
theorem a2i(ij35:Int)(ij36:Int)(s:A3)(r:Bool)(hw:(((decide (ij35<(s.Services.length:Int)))&&(decide (0<=ij36)))=true->∃y149,s.Services[ij35.toNat]? =some y149/\0<=ij35/\(∃y150,K7 y149.Notes ij36 y150/\(∃y151,J1 ([y149.Name]:(List ByteArray)) ij36 y151/\(Z7 0 (wI ((wI (ij36 - y150)) - y151)) ij35 s y149 r))))/\(((decide (ij35<(s.Services.length:Int)))&&(decide (0<=ij36)))=false->r=(decide (0<=ij36)))):T6 ij35 ij36 s r:=
 KL 7 W2 s.Services<|KT 2 3<|KW 2 hw (fun _ hw=>KI 9 W2 hw fun _ hw=>KD 6 [1]<|KC 4 hw h1b fun _ hw=>KC 5 hw f6o fun _ hw=>KJ 12 [] hw) fun _ hw=>KR 13 hw j0z
theorem a2k(ij39:Int)(ij40:Int)(ij31:Int)(s:A3)(y164:a10)(r:Bool)(hw:(((decide (ij39<(y164.Items.length:Int)))&&(decide (0<=ij40)))=true->∃y171,y164.Items[ij39.toNat]? =some y171/\0<=ij39/\(∃y172,K7 y171.Notes ij40 y172/\(∃y173,y164.Items[ij39.toNat]? =some y173/\0<=ij39/\(∃y174,J1 ([y173.Name]:(List ByteArray)) ij40 y174/\(a0k (wI (ij39+1)) (wI ((wI (ij40 - y172)) - y174)) ij31 s y164 r)))))/\(((decide (ij39<(y164.Items.length:Int)))&&(decide (0<=ij40)))=false->S8 (wI (ij31+1)) ij40 s r)):a0k ij39 ij40 ij31 s y164 r:=
 KL 7 a5e y164.Items<|KT 2 3<|KW 2 hw (fun _ hw=>KD 4 [1]<|KI 4 a5e hw fun _ hw=>KC 3 hw h1b fun _ hw=>KI 4 a5e hw fun _ hw=>KC 4 hw f6o fun _ hw=>KJ 12 [] hw) fun _ hw=>KJl 12 [] hw a9m
theorem a16(ij31:Int)(ij32:Int)(s:A3)(r:Bool)(hw:(((decide (ij31<(s.Enums.length:Int)))&&(decide (0<=ij32)))=true->∃y164,s.Enums[ij31.toNat]? =some y164/\0<=ij31/\(∃y165,K7 y164.Notes ij32 y165/\(∃y166,J1 ([y164.Name]:(List ByteArray)) ij32 y166/\(a0k 0 (wI ((wI ((wI (ij32 - y165)) - (y164.Reserved.length:Int))) - y166)) ij31 s y164 r))))/\(((decide (ij31<(s.Enums.length:Int)))&&(decide (0<=ij32)))=false->T6 0 ij32 s r)):S8 ij31 ij32 s r:=
 KL 7 a6s s.Enums<|KT 2 3<|KW 2 hw (fun _ hw=>KI 9 a6s hw fun y164 hw=>KD 6 [1]<|KC 4 hw h1b fun _ hw=>KL 3 a4h y164.Reserved<|KC 5 hw f6o fun _ hw=>KJ 12 [] hw) fun _ hw=>KJ 13 [] hw
theorem a2h(ij41:Int)(ij42:Int)(ij21:Int)(s:A3)(y175:B2)(r:Bool)(hw:(((decide (ij41<(y175.Fields.length:Int)))&&(decide (0<=ij42)))=true->∃y182,y175.Fields[ij41.toNat]? =some y182/\0<=ij41/\(∃y183,K7 y182.Notes ij42 y183/\(∃y184,J1 ([y182.Name,y182.Type_.Name,y182.Union]:(List ByteArray)) ij42 y184/\(((decide (300<(y182.Default.Text.size:Int)))=true->T0 (wI (ij41+1)) (-1) ij21 s y175 r)/\((decide (300<(y182.Default.Text.size:Int)))=false->T0 (wI (ij41+1)) (wI ((wI ((wI ((wI (ij42 - 1)) - y183)) - y184))+3)) ij21 s y175 r)))))/\(((decide (ij41<(y175.Fields.length:Int)))&&(decide (0<=ij42)))=false->T3 (wI (ij21+1)) ij42 s r)):T0 ij41 ij42 ij21 s y175 r:=
 KL 7 M0 y175.Fields<|KT 2 3<|KW 2 hw (fun _ hw=>KI 9 M0 hw fun _ hw=>KD 6 [2]<|KC 5 hw h1b fun _ hw=>KC 10 hw f6o fun _ hw=>KW 15 hw (fun _ hw=>KJl 11 [] hw a3e) fun _ hw=>KJl 9 [] hw a3e) fun _ hw=>KJl 12 [] hw a98
theorem a2c(ij21:Int)(ij22:Int)(s:A3)(r:Bool)(hw:(((decide (ij21<(s.Messages.length:Int)))&&(decide (0<=ij22)))=true->∃y175,s.Messages[ij21.toNat]? =some y175/\0<=ij21/\(∃y176,K7 y175.Notes ij22 y176/\(∃y177,J1 y175.Gone ij22 y177/\(∃y178,J1 ([y175.Name]:(List ByteArray)) ij22 y178/\(T0 0 (wI ((wI ((wI ((wI (ij22 - y176)) - (y175.Reserved.length:Int))) - y177)) - y178)) ij21 s y175 r)))))/\(((decide (ij21<(s.Messages.length:Int)))&&(decide (0<=ij22)))=false->S8 0 ij22 s r)):T3 ij21 ij22 s r:=
 KL 7 K1 s.Messages<|KT 2 3<|KW 2 hw (fun _ hw=>KI 9 K1 hw fun y175 hw=>KD 6 [1]<|KC 4 hw h1b fun _ hw=>KL 3 a4h y175.Reserved<|KC 4 hw f6o fun _ hw=>KC 5 hw f6o fun _ hw=>KJ 12 [] hw) fun _ hw=>KJ 13 [] hw
theorem b36(s:A3)(r:Bool)(hw:(((((decide (150<(s.Messages.length:Int)))||(decide (150<(s.Enums.length:Int))))||(decide (150<(s.Services.length:Int))))||(decide (150<(wI ((wI ((s.Messages.length:Int)+(s.Enums.length:Int)))+(s.Services.length:Int))))))=true->r=false)/\(((((decide (150<(s.Messages.length:Int)))||(decide (150<(s.Enums.length:Int))))||(decide (150<(s.Services.length:Int))))||(decide (150<(wI ((wI ((s.Messages.length:Int)+(s.Enums.length:Int)))+(s.Services.length:Int))))))=false->T3 0 400 s r)):a97 s r:=
 fP (KL 11 K1 s.Messages<|KT2 2 5 (decide (150<(s.Messages.length:Int))) (fun z=>aB (z||(decide (150<(s.Enums.length:Int))))) (fun _ key=>KE2 5 key) (fun _ key=>KL 2 a6s s.Enums<|KE2 2 key)<|KT2 1 5 ((decide (150<(s.Messages.length:Int)))||(decide (150<(s.Enums.length:Int)))) (fun z=>aB (z||(decide (150<(s.Services.length:Int))))) (fun _ key=>KE2 5 key) (fun _ key=>KL 2 W2 s.Services<|KE2 2 key)<|KT2 1 13 (((decide (150<(s.Messages.length:Int)))||(decide (150<(s.Enums.length:Int))))||(decide (150<(s.Services.length:Int)))) (fun z=>aB (z||(decide (150<(wI ((wI ((s.Messages.length:Int)+(s.Enums.length:Int)))+(s.Services.length:Int))))))) (fun _ key=>KE2 13 key) (fun _ key=>KL 2 K1 s.Messages<|KL 2 a6s s.Enums<|KL 3 W2 s.Services<|KE2 3 key)<|KW 2 hw (fun _ hw=>KR 7 hw j0z) fun _ hw=>KJ 15 [] hw)
theorem m4p(r:Bool):plain (e15 r)=true:=rfl
theorem b34(s:A3)(r:Bool)(hw:∃y1,c2v s y1/\(r=((y1.length:Int)==0))):a9z s r:=
 fP (KC 9 hw n98 fun y1 hw=>KL 0 a67 y1<|KR 5 hw m4p)
theorem c24(r:Int):plain (e23 r)=true:=rfl
theorem a6g(mg:Int)(s:A3)(r_:B5)(r:Int)(hw:∃y1,L3 mg r_.Path y1/\(∃R1:Bool->Prop,(∀bz1:Bool,R1 bz1->((bz1=true->r=2)/\(bz1=false->∃y3,b0s r_.Service r_.Method y3/\(∃y4,b0z mg s y3 y4/\(((y4.2 !=0)=true->r=y4.2)/\((y4.2 !=0)=false->((y4.1.Shape !=1)=true->r=12)/\((y4.1.Shape !=1)=false->∃y5,S2 mg s y4.1.In r_ y5/\(((y5.2 !=0)=true->r=y5.2)/\((y5.2 !=0)=false->∃y6,a4u s y4.1.In r_ y6/\(((((!y6.2)&&(!(decide (r_.Body=(⟨#[]⟩:ByteArray)))))&&(!(decide (r_.Body=(⟨#[42]⟩:ByteArray)))))=true->r=8)/\((((!y6.2)&&(!(decide (r_.Body=(⟨#[]⟩:ByteArray)))))&&(!(decide (r_.Body=(⟨#[42]⟩:ByteArray)))))=false->(y6.2=true->∃y7,E4 y5.1 (⟨57,[],[.elt (C2 y6.1) 0],by simp⟩:GFn) y7/\((y7=true->r=9)/\(y7=false->r=0)))/\(y6.2=false->r=0))))))))))))/\(((!y1.2)=true->R1 true)/\((!y1.2)=false->∃y2,J3 ([(⟨#[71,69,84]⟩:ByteArray),(⟨#[80,85,84]⟩:ByteArray),(⟨#[80,79,83,84]⟩:ByteArray),(⟨#[80,65,84,67,72]⟩:ByteArray),(⟨#[68,69,76,69,84,69]⟩:ByteArray)]:(List ByteArray)) r_.Verb y2/\(R1 (!y2)))))):a0b mg s r_ r:=
 fP (KC 12 hw j9t fun _ hw=>KQ 12 6 kB hw (fun _ hw=>KW 2 hw (fun _ hw=>KR 7 hw c24) fun _ hw=>KD 3 [0,1]<|KC 5 (pgX mg hw) o1b fun _ hw=>KC 0 hw o0e fun y4 hw=>KV 4<|KW 11 hw (fun _ hw=>KR 8 hw c24) fun _ hw=>KW 10 hw (fun _ hw=>KR 7 hw c24) fun _ hw=>KC 8 hw o1w fun y5 hw=>KW 14 hw (fun _ hw=>KR 8 hw c24) fun _ hw=>KC 8 (pgX mg hw) o1r fun y6 hw=>KT 14 4<|KT 1 4<|KW 2 hw (fun _ hw=>KR 7 hw c24) fun _ hw=>KFz 4 3 [true,true,true,false] 0 [(11,aB y6.2),(10,.elt (C2 y6.1) 0),(9,.sl (List.map (eL F9) y5.1) .no)] [some (A6 s),some (C1 r_),some (H6 y4.1),none] ⟨by first|rfl|simp,by first|rfl|simp⟩<|KW 3 hw (fun _ hw=>KC 2 (pgX mg hw) n9b fun _ hw=>KW 3 hw (fun _ hw=>KR 7 hw c24) fun _ hw=>KR 8 hw c24) fun _ hw=>KR 15 hw c24) (fun _ key _ hw=>KE 6 key hw) fun _ key _ hw=>KC 3 (pgX mg hw) o0z fun _ hw=>KE 2 key hw)
theorem n2v(r:Bool):plain (e24 r)=true:=rfl
theorem V8(mg:Int)(s:(List B5))(f:GFn)(r:Bool)(hw:∃y1,Q4 mg s f y1/\(r=(decide (0<=y1)))):I2 mg s f r:=
 fP (KC 9 hw o25 fun _ hw=>KR 5 hw n2v)
theorem e8k(r:Bool):plain (e26 r)=true:=rfl
def N1(ij1:Int)(y1:((List ByteArray) × Bool))(y2:((List ByteArray) × Bool))(mg:Int)(r:Bool):Prop:=J Tryz.prog 26 (.ret (e26 r)) 8 [(36,aI ij1),(35,aI (y1.1.length:Int)),(7,.sl (List.map L9 y2.1) .no),(5,.sl (List.map L9 y1.1) .no)] ⟨[],[],GLm mg⟩
theorem a60{ij1:Int}{y1:((List ByteArray) × Bool)}{y2:((List ByteArray) × Bool)}:a6k [] 0 [(36,aI ij1),(35,aI (y1.1.length:Int)),(7,.sl (List.map L9 y2.1) .no),(5,.sl (List.map L9 y1.1) .no)]=true/\a4t [] 0 []=true:=⟨by first|rfl|simp,by first|rfl|simp⟩
theorem Z4(ij1:Int)(y1:((List ByteArray) × Bool))(y2:((List ByteArray) × Bool))(mg:Int)(r:Bool)(hw:((decide (ij1<(y1.1.length:Int)))=true->∃y10,y1.1[ij1.toNat]? =some y10/\0<=ij1/\(∃y11,T7 y10 y11/\(∃R4:Bool->Prop,(∀bz4:Bool,R4 bz4->((bz4=true->∃y15,y1.1[ij1.toNat]? =some y15/\0<=ij1/\(∃y16,y2.1[ij1.toNat]? =some y16/\0<=ij1/\(((!(decide (y15=y16)))=true->r=false)/\((!(decide (y15=y16)))=false->N1 (wI (ij1+1)) y1 y2 mg r))))/\(bz4=false->N1 (wI (ij1+1)) y1 y2 mg r)))/\((y11=true->∃y13,y2.1[ij1.toNat]? =some y13/\0<=ij1/\(∃y14,T7 y13 y14/\(R4 y14)))/\(y11=false->R4 false)))))/\((decide (ij1<(y1.1.length:Int)))=false->r=true)):N1 ij1 y1 y2 mg r:=
 KW 7 hw (fun _ hw=>KD 11 []<|KI 2 a3u hw fun _ hw=>KC 1 (pgX mg hw) m1o fun _ hw=>KQ 1 6 kB hw (fun _ hw=>KW 1 hw (fun _ hw=>KI 2 a3u hw fun _ hw=>KI 3 a3u hw fun _ hw=>KW 6 hw (fun _ hw=>KR 11 hw e8k) fun _ hw=>KJ 8 [] hw) fun _ hw=>KJ 22 [] hw) (fun _ key _ hw=>KI 2 a3u hw fun _ hw=>KC 1 (pgX mg hw) m1o fun _ hw=>KE 1 key hw) fun _ key _ hw=>KE 6 key hw) fun _ hw=>KR 11 hw e8k
theorem a8t(mg:Int)(a:B5)(b:B5)(r:Bool)(hw:∃y1,L3 mg a.Path y1/\(∃y2,L3 mg b.Path y2/\((((!(decide (a.Verb=b.Verb)))||((y1.1.length:Int) !=(y2.1.length:Int)))=true->r=false)/\(((!(decide (a.Verb=b.Verb)))||((y1.1.length:Int) !=(y2.1.length:Int)))=false->N1 0 y1 y2 mg r)))):a3h mg a b r:=
 fP (KC 11 hw j9t fun y1 hw=>KC 11 hw j9t fun y2 hw=>KT2 16 6 (!(decide (a.Verb=b.Verb))) (fun z=>aB (z||((y1.1.length:Int) !=(y2.1.length:Int)))) (fun _ key=>KE2 6 key) (fun _ key=>KL 1 a3u y1.1<|KL 1 a3u y2.1<|KE2 2 key)<|KW 2 hw (fun _ hw=>KR 7 hw e8k) fun _ hw=>KL 6 a3u y1.1<|KJl 5 [] hw a60)
theorem d7g(r:((List S3) × Bool)):plain (e29 r)=true:=(b9g (B0 (psl (W8 r.1)) (B0 rfl rfl)))
def P9(ij1:Int)(y1:((List ByteArray) × Bool))(lj2:(List S3))(y2:((List ByteArray) × Bool))(mg:Int)(r:((List S3) × Bool)):Prop:=J Tryz.prog 29 (.ret (e29 r)) 9 [(51,aI ij1),(50,aI (y1.1.length:Int)),(49,.sl (List.map L9 y1.1) .no),(12,.sl (List.map a33 lj2) (.own 0)),(10,.sl (List.map L9 y2.1) .no)] ⟨[],[(lj2.length,2)],GLm mg⟩
theorem a86{ij1:Int}{y1:((List ByteArray) × Bool)}{lj2:(List S3)}{y2:((List ByteArray) × Bool)}:a6k [] 1 [(51,aI ij1),(50,aI (y1.1.length:Int)),(49,.sl (List.map L9 y1.1) .no),(12,.sl (List.map a33 lj2) (.own 0)),(10,.sl (List.map L9 y2.1) .no)]=true/\a4t [] 1 []=true:=⟨by first|rfl|simp,by first|rfl|simp⟩
theorem a1m(ij1:Int)(y1:((List ByteArray) × Bool))(lj2:(List S3))(y2:((List ByteArray) × Bool))(mg:Int)(r:((List S3) × Bool))(hw:((decide (ij1<(y1.1.length:Int)))=true->∃y11,y1.1[ij1.toNat]? =some y11/\0<=ij1/\(∃y12,P8 mg y11 y12/\(∃R3:Bool->Prop,(∀bz3:Bool,R3 bz3->((bz3=true->r=(([]:(List S3)),false))/\(bz3=false->(y12.2=true->∃y15,y2.1[ij1.toNat]? =some y15/\0<=ij1/\(∃y16,a6j y15 y16/\(∃R4:Bool->Prop,(∀bz4:Bool,R4 bz4->((bz4=true->r=(([]:(List S3)),false))/\(bz4=false->(lj2.length+[(⟨y12.1,y16.1⟩:S3)].length)*32<=140737488355328/\(P9 (wI (ij1+1)) y1 (lj2++[(⟨y12.1,y16.1⟩:S3)]) y2 mg r))))/\(((y16.2 !=0)=true->R4 true)/\((y16.2 !=0)=false->∃y18,y2.1[ij1.toNat]? =some y18/\0<=ij1/\(R4 (decide (y18=(⟨#[]⟩:ByteArray)))))))))/\(y12.2=false->P9 (wI (ij1+1)) y1 lj2 y2 mg r))))/\(((!y12.2)=true->∃y14,y2.1[ij1.toNat]? =some y14/\0<=ij1/\(R3 (!(decide (y11=y14)))))/\((!y12.2)=false->R3 false)))))/\((decide (ij1<(y1.1.length:Int)))=false->r=(lj2,true))):P9 ij1 y1 lj2 y2 mg r:=
 KW 7 hw (fun _ hw=>KI 7 a3u hw fun _ hw=>KC 8 hw m7d fun _ hw=>KQ 13 7 kB hw (fun _ hw=>KW 2 hw (fun _ hw=>KR 13 hw d7g) fun _ hw=>KW 7 hw (fun _ hw=>KI 4 a3u hw fun _ hw=>KC 1 (pgX mg hw) o0m fun _ hw=>KQ 13 6 kB hw (fun _ hw=>KW 2 hw (fun _ hw=>KR 13 hw d7g) fun _ hw=>KA 8 e1r hw mE fun hw=>KJ 9 [] hw) (fun _ key _ hw=>KE 6 key hw) fun _ key _ hw=>KI 2 a3u hw fun _ hw=>KE 3 key hw) fun _ hw=>KJ 8 [] hw) (fun _ key _ hw=>KI 3 a3u hw fun _ hw=>KE 3 key hw) fun _ key _ hw=>KE 7 key hw) fun _ hw=>KR 13 hw d7g
theorem b05(mg:Int)(r_:B5)(verb:ByteArray)(path:ByteArray)(r:((List S3) × Bool))(hw:∃y1,L3 mg r_.Path y1/\(∃y2,X5 path y2/\((((((!y1.2)||(!y2.2))||(!(decide (r_.Verb=verb))))||((y1.1.length:Int) !=(y2.1.length:Int)))=true->r=(([]:(List S3)),false))/\(((((!y1.2)||(!y2.2))||(!(decide (r_.Verb=verb))))||((y1.1.length:Int) !=(y2.1.length:Int)))=false->P9 0 y1 ([]:List S3) y2 mg r)))):a6e mg r_ verb path r:=
 fP (KC 11 hw j9t fun y1 hw=>KC 10 (pgX mg hw) n90 fun y2 hw=>KT 13 3<|KT 1 5<|KT2 1 6 (((!y1.2)||(!y2.2))||(!(decide (r_.Verb=verb)))) (fun z=>aB (z||((y1.1.length:Int) !=(y2.1.length:Int)))) (fun _ key=>KE2 6 key) (fun _ key=>KL 1 a3u y1.1<|KL 1 a3u y2.1<|KE2 2 key)<|KW 2 hw (fun _ hw=>KR 8 hw d7g) fun _ hw=>KL 11 a3u y1.1<|KO 5 12 2<|KJl 0 [] hw a86)
theorem l3g(r:Int):plain (e31 r)=true:=rfl
def U1(ij1:Int)(l:(List F4))(left:Int)(r:Int):Prop:=JP Tryz.prog 31 (e31 r) 3 [(5,aI ij1),(0,.sl (List.map E9 l) .no),(1,aI left)]
theorem a7i{ij1:Int}{l:(List F4)}{left:Int}:a6k [] 0 [(5,aI ij1),(0,.sl (List.map E9 l) .no),(1,aI left)]=true/\a4t [] 0 []=true:=⟨by first|rfl|simp,by first|rfl|simp⟩
theorem a0w(ij1:Int)(l:(List F4))(left:Int)(r:Int)(hw:(((decide (ij1<(l.length:Int)))&&(decide (ij1<=left)))=true->∃y3,l[ij1.toNat]? =some y3/\0<=ij1/\(∃y4,l[ij1.toNat]? =some y4/\0<=ij1/\(((((decide (300<(y4.Name.size:Int)))||(decide (300<(y3.Val.Text.size:Int))))||(decide (0<(wI ((wI ((wI ((y3.Val.List_.length:Int)+(y3.Val.Pairs.length:Int)))+(y3.Val.Slots.length:Int)))+(y3.Val.Raws.length:Int))))))=true->r=(wI (left+10)))/\((((decide (300<(y4.Name.size:Int)))||(decide (300<(y3.Val.Text.size:Int))))||(decide (0<(wI ((wI ((wI ((y3.Val.List_.length:Int)+(y3.Val.Pairs.length:Int)))+(y3.Val.Slots.length:Int)))+(y3.Val.Raws.length:Int))))))=false->U1 (wI (ij1+1)) l left r))))/\(((decide (ij1<(l.length:Int)))&&(decide (ij1<=left)))=false->r=(l.length:Int))):U1 ij1 l left r:=
 KL 6 a17 l<|KT 2 4<|KW 2 hw (fun _ hw=>KI 8 a17 hw fun y3 hw=>KI 10 a17 hw fun y4 hw=>KT 5 5<|KT2 1 17 ((decide (300<(y4.Name.size:Int)))||(decide (300<(y3.Val.Text.size:Int)))) (fun z=>aB (z||(decide (0<(wI ((wI ((wI ((y3.Val.List_.length:Int)+(y3.Val.Pairs.length:Int)))+(y3.Val.Slots.length:Int)))+(y3.Val.Raws.length:Int))))))) (fun _ key=>KE2 17 key) (fun _ key=>KL 2 c0m y3.Val.List_<|KL 2 c5t y3.Val.Pairs<|KL 3 c6h y3.Val.Slots<|KL 3 d71 y3.Val.Raws<|KE2 3 key)<|KW 2 hw (fun _ hw=>KR 13 hw l3g) fun _ hw=>KJl 9 [] hw a7i) fun _ hw=>KL 8 a17 l<|KR 4 hw l3g
theorem a9y(l:(List F4))(left:Int)(r:Int)(hw:U1 0 l left r):K7 l left r:=
 fP (KJ 13 [] hw)
theorem k0o(r:Int):plain (e32 r)=true:=rfl
def U6(ij1:Int)(l:(List ByteArray))(left:Int)(r:Int):Prop:=JP Tryz.prog 32 (e32 r) 3 [(5,aI ij1),(0,.sl (List.map L9 l) .no),(1,aI left)]
theorem a0v(ij1:Int)(l:(List ByteArray))(left:Int)(r:Int)(hw:(((decide (ij1<(l.length:Int)))&&(decide (ij1<=left)))=true->∃y2,l[ij1.toNat]? =some y2/\0<=ij1/\(((decide (300<(y2.size:Int)))=true->r=(wI (left+10)))/\((decide (300<(y2.size:Int)))=false->U6 (wI (ij1+1)) l left r)))/\(((decide (ij1<(l.length:Int)))&&(decide (ij1<=left)))=false->r=(l.length:Int))):U6 ij1 l left r:=
 KL 6 a3u l<|KT 2 4<|KW 2 hw (fun _ hw=>KI 8 a3u hw fun _ hw=>KW 5 hw (fun _ hw=>KR 13 hw k0o) fun _ hw=>KJ 9 [] hw) fun _ hw=>KL 8 a3u l<|KR 4 hw k0o
theorem b0r(l:(List ByteArray))(left:Int)(r:Int)(hw:U6 0 l left r):J1 l left r:=
 fP (KJ 13 [] hw)
theorem n0q(r:(List A8)):plain (e33 r)=true:=(psl (K6 r))
def a2o(ij16:Int)(s:A3)(y11:G0)(lj17:(List A8))(r:(List A8)):Prop:=J Tryz.prog 33 (.ret (e33 r)) 29 [(12,aI ij16),(3,.ptr 1 0),(1,.ptr 0 0)] ⟨[some (A6 s),some [aS y11.def_,.sl (List.map D7 lj17) (.own 0)]],[(lj17.length,3)],[]⟩
def a2w(ij14:Int)(s:A3)(y11:G0)(lj15:(List A8))(r:(List A8)):Prop:=J Tryz.prog 33 (.ret (e33 r)) 23 [(11,aI ij14),(3,.ptr 1 0),(1,.ptr 0 0)] ⟨[some (A6 s),some [aS y11.def_,.sl (List.map D7 lj15) (.own 0)]],[(lj15.length,3)],[]⟩
def a2v(ij10:Int)(y12:(List Bool))(s:A3)(y11:G0)(lj11:(List A8))(r:(List A8)):Prop:=J Tryz.prog 33 (.ret (e33 r)) 17 [(10,aI ij10),(9,.sl (List.map a28 y12) .no),(3,.ptr 1 0),(1,.ptr 0 0)] ⟨[some (A6 s),some [aS y11.def_,.sl (List.map D7 lj11) (.own 0)]],[(lj11.length,3)],[]⟩
def a4g(ij1:Int)(s:A3)(sj2:ByteArray)(lj3:(List A8))(r:(List A8)):Prop:=J Tryz.prog 33 (.ret (e33 r)) 4 [(4,aI ij1),(3,.ptr 1 0),(1,.ptr 0 0)] ⟨[some (A6 s),some [aS sj2,.sl (List.map D7 lj3) (.own 0)]],[(lj3.length,3)],[]⟩
theorem a3z(ij16:Int)(s:A3)(y11:G0)(lj17:(List A8))(r:(List A8))(hw:((decide (ij16<(s.Services.length:Int)))=true->∃y35,s.Services[ij16.toNat]? =some y35/\0<=ij16/\(∃y36,a55 s y35 y36/\((lj17.length+y36.length)*32<=140737488355328/\(a2o (wI (ij16+1)) s y11 (lj17++y36) r))))/\((decide (ij16<(s.Services.length:Int)))=false->r=lj17)):a2o ij16 s y11 lj17 r:=
 KL 7 W2 s.Services<|KW 3 hw (fun _ hw=>KD 4 [0,1]<|KI 6 W2 hw fun _ hw=>KC 1 hw o3k fun _ hw=>KA 1 a67 hw mF fun hw=>KJ 11 [] hw) fun _ hw=>KR 13 hw n0q
theorem a4o(ij14:Int)(s:A3)(y11:G0)(lj15:(List A8))(r:(List A8))(hw:((decide (ij14<(s.Enums.length:Int)))=true->∃y37,s.Enums[ij14.toNat]? =some y37/\0<=ij14/\(∃y38,b3a y37 y38/\((lj15.length+y38.length)*32<=140737488355328/\(a2w (wI (ij14+1)) s y11 (lj15++y38) r))))/\((decide (ij14<(s.Enums.length:Int)))=false->a2o 0 s y11 lj15 r)):a2w ij14 s y11 lj15 r:=
 KL 7 a6s s.Enums<|KW 3 hw (fun _ hw=>KD 4 [0,1]<|KI 5 a6s hw fun _ hw=>KC 1 hw o2y fun _ hw=>KA 1 a67 hw mF fun hw=>KJ 11 [] hw) fun _ hw=>KJ 13 [] hw
theorem a4d(ij10:Int)(y12:(List Bool))(s:A3)(y11:G0)(lj11:(List A8))(r:(List A8))(hw:((decide (ij10<(s.Messages.length:Int)))=true->∃y39,s.Messages[ij10.toNat]? =some y39/\0<=ij10/\(∃y40,a5y s y39 y12 y40/\((lj11.length+y40.length)*32<=140737488355328/\(a2v (wI (ij10+1)) y12 s y11 (lj11++y40) r))))/\((decide (ij10<(s.Messages.length:Int)))=false->a2w 0 s y11 lj11 r)):a2v ij10 y12 s y11 lj11 r:=
 KL 7 K1 s.Messages<|KW 3 hw (fun _ hw=>KD 4 [0,1]<|KI 6 K1 hw fun _ hw=>KC 2 hw o2i fun _ hw=>KA 1 a67 hw mF fun hw=>KJ 11 [] hw) fun _ hw=>KJ 13 [] hw
theorem a49(ij1:Int)(s:A3)(sj2:ByteArray)(lj3:(List A8))(r:(List A8))(hw:((decide (ij1<=3))=true->∃y41,a04 s ij1 y41/\(∃y42,A9 (⟨sj2,lj3⟩:G0) (decide (64<(y41.length:Int))) (-1) 3 y42/\(∃y43,a3a y41 y43/\(∃y44,A9 y42 (!y43) (-1) 11 y44/\(a4g (wI (ij1+1)) s y44.def_ y44.l r)))))/\((decide (ij1<=3))=false->∃y5,a04 s 1 y5/\(∃y6,a04 s 2 y6/\(∃y7,a04 s 3 y7/\(∃y8,a5c y5 y6 y8/\(∃R1:Bool->Prop,(∀bz1:Bool,R1 bz1->(∃R2:Bool->Prop,(∀bz2:Bool,R2 bz2->(∃y11,A9 (⟨sj2,lj3⟩:G0) bz2 (-1) 9 y11/\(∃y12,a7h s y12/\(a2v 0 y12 s y11 y11.l r))))/\((bz1=true->R2 true)/\(bz1=false->∃y10,a5c y6 y7 y10/\(R2 y10)))))/\((y8=true->R1 true)/\(y8=false->∃y9,a5c y5 y7 y9/\(R1 y9))))))))):a4g ij1 s sj2 lj3 r:=
 KW 8 hw (fun _ hw=>KC 8 hw l6r fun y41 hw=>KL 6 a3u y41<|KI1 1 hw V0 fun _ hw=>KC 4 hw o3q fun _ hw=>KI1 1 hw V0 fun _ hw=>KJ 9 [] hw) fun _ hw=>KC 8 hw l6r fun _ hw=>KC 6 hw l6r fun _ hw=>KC 6 hw l6r fun _ hw=>KC 7 hw m93 fun _ hw=>KQ 1 4 kB hw (fun _ hw=>KQ 1 4 kB hw (fun _ hw=>KI1 0 hw V0 fun _ hw=>KC 5 hw o0w fun _ hw=>KJ 11 [] hw) (fun _ key _ hw=>KE 4 key hw) fun _ key _ hw=>KC 2 hw m93 fun _ hw=>KE 1 key hw) (fun _ key _ hw=>KE 4 key hw) fun _ key _ hw=>KC 2 hw m93 fun _ hw=>KE 1 key hw
theorem b8h(s:A3)(r:(List A8))(hw:a4g 1 s (⟨#[]⟩:ByteArray) ([]:List A8) r):c2v s r:=
 fP (KOb 21 1 1 3<|KJ 0 [] hw)
theorem n4l(r:ByteArray):plain (e35 r)=true:=rfl
theorem b4j(service:ByteArray)(method:ByteArray)(r:ByteArray)(hw:((service.size+(⟨#[47]⟩:ByteArray).size:Nat):Int)<=9223372036854775807/\((((service++(⟨#[47]⟩:ByteArray)).size+method.size:Nat):Int)<=9223372036854775807/\(r=((service++(⟨#[47]⟩:ByteArray))++method)))):b0s service method r:=
 fP (m2e 8 hw fun hw=>m2e 1 hw fun hw=>KR 4 hw n4l)
theorem h0f(r:(D8 × Int)):plain (e36 r)=true:=(b9g (B0 (H9 r.1) (B0 rfl rfl)))
theorem b4a(mg:Int)(s:A3)(path:ByteArray)(r:(D8 × Int))(hw:∃y1,strings_Cut mg path (⟨#[47]⟩:ByteArray) y1/\(∃R1:Bool->Prop,(∀bz1:Bool,R1 bz1->(∃R2:Bool->Prop,(∀bz2:Bool,R2 bz2->((bz2=true->r=((⟨(⟨#[]⟩:ByteArray),(⟨#[]⟩:ByteArray),(⟨#[]⟩:ByteArray),0,([]:(List F4))⟩:D8),2))/\(bz2=false->∃y4,b0e mg s path y4/\(((!y4.2)=true->r=((⟨(⟨#[]⟩:ByteArray),(⟨#[]⟩:ByteArray),(⟨#[]⟩:ByteArray),0,([]:(List F4))⟩:D8),10))/\((!y4.2)=false->r=(y4.1,0))))))/\((bz1=true->R2 true)/\(bz1=false->∃y3,a30 y1.2.1 y3/\(R2 (!y3))))))/\(((!y1.2.2)=true->R1 true)/\((!y1.2.2)=false->∃y2,a4j mg y1.1 y2/\(R1 (!y2)))))):b0z mg s path r:=
 fP (KC 10 hw n8u fun _ hw=>KQ 15 4 kB hw (fun _ hw=>KQ 1 4 kB hw (fun _ hw=>KW 2 hw (fun _ hw=>KR 9 hw h0f) fun _ hw=>KC 6 hw o3m fun _ hw=>KW 15 hw (fun _ hw=>KR 9 hw h0f) fun _ hw=>KR 10 hw h0f) (fun _ key _ hw=>KE 4 key hw) fun _ key _ hw=>KC 1 (pgX mg hw) n9j fun _ hw=>KE 2 key hw) (fun _ key _ hw=>KE 4 key hw) fun _ key _ hw=>KC 1 hw n8l fun _ hw=>KE 2 key hw)
theorem n42(r:Bool):plain (e50 r)=true:=rfl
theorem a4l(c:Int)(r:Bool)(hw:r=(((((((decide (97<=c))&&(decide (c<=122)))||((decide (65<=c))&&(decide (c<=90))))||((decide (48<=c))&&(decide (c<=57))))||(c==45))||(c==95))||(c==46))):a2u c r:=
 fP (KT 10 3<|KT2 1 7 ((decide (97<=c))&&(decide (c<=122))) (fun z=>aB (z||((decide (65<=c))&&(decide (c<=90))))) (fun _ key=>KE2 7 key) (fun _ key=>KT 3 3<|KE2 1 key)<|KT2 1 7 (((decide (97<=c))&&(decide (c<=122)))||((decide (65<=c))&&(decide (c<=90)))) (fun z=>aB (z||((decide (48<=c))&&(decide (c<=57))))) (fun _ key=>KE2 7 key) (fun _ key=>KT 3 3<|KE2 1 key)<|KT 1 3<|KT 1 3<|KT 1 3<|KR 4 hw n42)
theorem e5a(r:((List ByteArray) × Bool)):plain (e52 r)=true:=(b9g (B0 (psl (G1 r.1)) (B0 rfl rfl)))
def M8(ij1:Int)(y1:((List ByteArray) × Bool))(mg:Int)(r:((List ByteArray) × Bool)):Prop:=J Tryz.prog 52 (.ret (e52 r)) 7 [(24,aI ij1),(23,aI (y1.1.length:Int)),(22,.sl (List.map L9 y1.1) .no),(4,.sl (List.map L9 y1.1) .no)] ⟨[],[],GLm mg⟩
theorem a0p(ij1:Int)(y1:((List ByteArray) × Bool))(mg:Int)(r:((List ByteArray) × Bool))(hw:((decide (ij1<(y1.1.length:Int)))=true->∃y5,y1.1[ij1.toNat]? =some y5/\0<=ij1/\(∃y6,P8 mg y5 y6/\(((!y6.2)=true->∃y7,T7 y5 y7/\(((!y7)=true->r=(([]:(List ByteArray)),false))/\((!y7)=false->M8 (wI (ij1+1)) y1 mg r)))/\((!y6.2)=false->M8 (wI (ij1+1)) y1 mg r))))/\((decide (ij1<(y1.1.length:Int)))=false->r=(y1.1,true))):M8 ij1 y1 mg r:=
 KW 7 hw (fun _ hw=>KI 6 a3u hw fun _ hw=>KC 7 hw m7d fun _ hw=>KW 12 hw (fun _ hw=>KC 1 (pgX mg hw) m1o fun _ hw=>KW 4 hw (fun _ hw=>KR 12 hw e5a) fun _ hw=>KJ 8 [] hw) fun _ hw=>KJ 15 [] hw) fun _ hw=>KR 13 hw e5a
theorem a8x(mg:Int)(path:ByteArray)(r:((List ByteArray) × Bool))(hw:∃y1,X5 path y1/\((((!y1.2)||(decide (8<(y1.1.length:Int))))=true->r=(([]:(List ByteArray)),false))/\(((!y1.2)||(decide (8<(y1.1.length:Int))))=false->M8 0 y1 mg r))):L3 mg path r:=
 fP (KC 9 (pgX mg hw) n90 fun y1 hw=>KT2 13 4 (!y1.2) (fun z=>aB (z||(decide (8<(y1.1.length:Int))))) (fun _ key=>KE2 4 key) (fun _ key=>KL 1 a3u y1.1<|KE2 2 key)<|KW 2 hw (fun _ hw=>KR 8 hw e5a) fun _ hw=>KL 6 a3u y1.1<|KJ 5 [] hw)
theorem n6k(r:Bool):plain (e53 r)=true:=rfl
theorem Y3(s:(List ByteArray))(v:ByteArray)(r:Bool)(hw:∃y1,U0 s v y1/\(r=(decide (0<=y1)))):J3 s v r:=
 fP (KC 9 hw n70 fun _ hw=>KR 5 hw n6k)
theorem d6j(r:((List (List Int)) × Int)):plain (e54 r)=true:=(b9g (B0 (psl (d8h _ (fun l=>D3 l) r.1)) (B0 rfl rfl)))
def J2(ij1:Int)(y1:(List ByteArray))(lj2:(List (List Int)))(in_:ByteArray)(s:A3)(r_:B5)(mg:Int)(r:((List (List Int)) × Int)):Prop:=J Tryz.prog 54 (.ret (e54 r)) 4 [(19,aI ij1),(18,aI (y1.length:Int)),(17,.sl (List.map L9 y1) .no),(8,.sl (List.map (eL F9) lj2) (.own 0)),(5,.ptr 1 0),(3,.ptr 0 0),(1,aS in_)] ⟨[some (A6 s),some (C1 r_)],[(lj2.length,1)],GLm mg⟩
theorem a11{ij1:Int}{y1:(List ByteArray)}{lj2:(List (List Int))}{in_:ByteArray}{s:A3}{r_:B5}:a6k [true,true] 1 [(19,aI ij1),(18,aI (y1.length:Int)),(17,.sl (List.map L9 y1) .no),(8,.sl (List.map (eL F9) lj2) (.own 0)),(5,.ptr 1 0),(3,.ptr 0 0),(1,aS in_)]=true/\a4t [true,true] 1 [some (A6 s),some (C1 r_)]=true:=⟨by first|rfl|simp,by first|rfl|simp⟩
theorem O8(ij1:Int)(y1:(List ByteArray))(lj2:(List (List Int)))(in_:ByteArray)(s:A3)(r_:B5)(mg:Int)(r:((List (List Int)) × Int))(hw:((decide (ij1<(y1.length:Int)))=true->∃y9,y1[ij1.toNat]? =some y9/\0<=ij1/\(∃y10,b7w mg s in_ y9 y10/\(((y10.2 !=0)=true->r=(([]:(List (List Int))),y10.2))/\((y10.2 !=0)=false->∃y11,y10.1[(wI ((y10.1.length:Int) - 1)).toNat]? =some y11/\0<=(wI ((y10.1.length:Int) - 1))/\(∃y12,a9f y11 y12/\(∃R2:Bool->Prop,(∀bz2:Bool,R2 bz2->(((bz2||((decide (r_.Body=(⟨#[42]⟩:ByteArray)))&&(y11.Card==1)))=true->r=(([]:(List (List Int))),12))/\((bz2||((decide (r_.Body=(⟨#[42]⟩:ByteArray)))&&(y11.Card==1)))=false->∃y14,a3q y10.1 y14/\(∃y15,E4 lj2 (⟨120,[],[.elt [.sl (List.map F9 y14) .no] 0],by simp⟩:GFn) y15/\((y15=true->r=(([]:(List (List Int))),9))/\(y15=false->(lj2.length+[y14].length)*24<=140737488355328/\(J2 (wI (ij1+1)) y1 (lj2++[y14]) in_ s r_ mg r)))))))/\(((!y12)=true->R2 true)/\((!y12)=false->∃y13,a4r y11 y13/\(R2 (!y13))))))))))/\((decide (ij1<(y1.length:Int)))=false->r=(lj2,0))):J2 ij1 y1 lj2 in_ s r_ mg r:=
 KW 7 hw (fun _ hw=>KI 6 a3u hw fun _ hw=>KC 9 hw o0p fun y10 hw=>KW 14 hw (fun _ hw=>KR 14 hw d6j) fun _ hw=>KL 6 M0 y10.1<|KI 1 M0 hw fun y11 hw=>KC 9 (pgX mg hw) l97 fun _ hw=>KQ 2 4 kB hw (fun bz2 hw=>KT2 1 9 bz2 (fun z=>aB (z||((decide (r_.Body=(⟨#[42]⟩:ByteArray)))&&(y11.Card==1)))) (fun _ key=>KE2 9 key) (fun _ key=>KT 4 4<|KE2 1 key)<|KW 2 hw (fun _ hw=>KR 13 hw d6j) fun _ hw=>KC 5 (pgX mg hw) o04 fun y14 hw=>KFz 6 3 [true,true,true,false] 1 [(14,.elt [.sl (List.map F9 y14) .no] 0),(19,aI ij1),(18,aI (y1.length:Int)),(17,.sl (List.map L9 y1) .no),(8,.sl (List.map (eL F9) lj2) (.own 0)),(5,.ptr 1 0),(3,.ptr 0 0),(1,aS in_)] [some (A6 s),some (C1 r_),some (C2 y11),none] ⟨by first|rfl|simp,by first|rfl|simp⟩<|KC 3 (pgX mg hw) n9b fun _ hw=>KW 2 hw (fun _ hw=>KR 13 hw d6j) fun _ hw=>KA 6 c0c hw mE fun hw=>KJl 9 [] hw a11) (fun _ key _ hw=>KE 4 key hw) fun _ key _ hw=>KC 1 (pgX mg hw) o0l fun _ hw=>KE 2 key hw) fun _ hw=>KR 13 hw d6j
theorem a3m(mg:Int)(s:A3)(in_:ByteArray)(r_:B5)(r:((List (List Int)) × Int))(hw:∃y1,a08 mg r_.Path y1/\(J2 0 y1 ([]:List (List Int)) in_ s r_ mg r)):S2 mg s in_ r_ r:=
 fP (KC 18 hw n5e fun y1 hw=>KL 0 a3u y1<|KO 5 8 1<|KJ 0 [] hw)
theorem k4p(r:(B3 × Bool)):plain (e55 r)=true:=(b9g (B0 (E1 r.1) (B0 rfl rfl)))
theorem a3c(s:A3)(in_:ByteArray)(r_:B5)(r:(B3 × Bool))(hw:(((decide (r_.Body=(⟨#[]⟩:ByteArray)))||(decide (r_.Body=(⟨#[42]⟩:ByteArray))))=true->r=((⟨0,(⟨#[]⟩:ByteArray),0,0,(⟨0,(⟨#[]⟩:ByteArray)⟩:a9c),(⟨#[]⟩:ByteArray),false,(⟨0,0,(⟨#[]⟩:ByteArray),([]:(List C0)),([]:(List (C0 × C0))),([]:(List (Int × C0))),([]:(List c7z))⟩:C0),([]:(List F4))⟩:B3),false))/\(((decide (r_.Body=(⟨#[]⟩:ByteArray)))||(decide (r_.Body=(⟨#[42]⟩:ByteArray))))=false->∃y1,a1j s in_ y1/\(∃y2,a0g y1.1 r_.Body y2/\(r=(y2.1,((y2.2&&(y2.1.Type_.Kind==10))&&((y2.1.Card==1)||(y2.1.Card==2)))))))):a4u s in_ r_ r:=
 fP (KT 15 4<|KW 2 hw (fun _ hw=>KR 9 hw k4p) fun _ hw=>KC 6 hw m3h fun _ hw=>KC 13 hw l29 fun y2 hw=>KD 9 [4]<|KT 3 5<|KT2 1 9 (y2.2&&(y2.1.Type_.Kind==10)) (fun z=>aB (z&&((y2.1.Card==1)||(y2.1.Card==2)))) (fun _ key=>KT 4 4<|KE2 1 key) (fun _ key=>KE2 9 key)<|KV 0<|KR 5 hw k4p)
theorem n7v(r:Bool):plain (e56 r)=true:=rfl
theorem L2(s:(List (List Int)))(f:GFn)(r:Bool)(hw:∃y1,T9 s f y1/\(r=(decide (0<=y1)))):E4 s f r:=
 fP (KC 9 hw l7j fun _ hw=>KR 5 hw n7v)
theorem k4f(r:Int):plain (e58 r)=true:=rfl
def F8(ij1:Int)(s:(List B5))(f:GFn)(mg:Int)(r:Int):Prop:=J Tryz.prog 58 (.ret (e58 r)) 3 [(8,aI ij1),(7,aI (s.length:Int)),(0,.sl (List.map C1 s) .no),(1,.clo (.func f.fn) f.fi f.cap)] ⟨[],[],GLm mg⟩
theorem W0(ij1:Int)(s:(List B5))(f:GFn)(mg:Int)(r:Int)(hw:((decide (ij1<(s.length:Int)))=true->∃y3,s[ij1.toNat]? =some y3/\0<=ij1/\(∃y4,a5u Tryz.prog (GLm mg) (.clo (.func f.fn) f.fi f.cap) [.agg (C1 y3)] (aB y4)/\((y4=true->r=ij1)/\(y4=false->F8 (wI (ij1+1)) s f mg r))))/\((decide (ij1<(s.length:Int)))=false->r=(-1))):F8 ij1 s f mg r:=
 KW 7 hw (fun _ hw=>KI 15 L5 hw fun _ hw=>KF 1 hw fun _ hw=>KW 2 hw (fun _ hw=>KR 12 hw k4f) fun _ hw=>KJ 8 [] hw) fun _ hw=>KR 11 hw k4f
theorem Z2(mg:Int)(s:(List B5))(f:GFn)(r:Int)(hw:F8 0 s f mg r):Q4 mg s f r:=
 fP (KL 9 L5 s<|KJ 5 [] hw)
theorem f62(r:Bool):plain (e59 r)=true:=rfl
def M9(ij1:Int)(segment:ByteArray)(r:Bool):Prop:=JP Tryz.prog 59 (e59 r) 3 [(6,aI ij1),(5,aI (segment.size:Int)),(0,aS segment)]
theorem a0c(ij1:Int)(segment:ByteArray)(r:Bool)(hw:((decide (ij1<(segment.size:Int)))=true->(0<=ij1/\ij1<(segment.size:Int))/\(∃y2,a2u (D0 segment ij1.toNat) y2/\(((!y2)=true->r=false)/\((!y2)=false->(0<=ij1/\ij1<(segment.size:Int))/\(((decide (65<=(D0 segment ij1.toNat)))=true->(0<=ij1/\ij1<(segment.size:Int))/\(((decide ((D0 segment ij1.toNat)<=90))=true->r=false)/\((decide ((D0 segment ij1.toNat)<=90))=false->M9 (wI (ij1+1)) segment r)))/\((decide (65<=(D0 segment ij1.toNat)))=false->M9 (wI (ij1+1)) segment r))))))/\((decide (ij1<(segment.size:Int)))=false->r=(!(decide (segment=(⟨#[]⟩:ByteArray)))))):M9 ij1 segment r:=
 KW 7 hw (fun _ hw=>KIS 14 hw fun hw=>KC 0 hw o1g fun _ hw=>KW 2 hw (fun _ hw=>KR 25 hw f62) fun _ hw=>KIS 2 hw fun hw=>KW 2 hw (fun _ hw=>KIS 2 hw fun hw=>KW 5 hw (fun _ hw=>KR 11 hw f62) fun _ hw=>KJ 8 [] hw) fun _ hw=>KJ 17 [] hw) fun _ hw=>KR 13 hw f62
theorem a85(segment:ByteArray)(r:Bool)(hw:M9 0 segment r):T7 segment r:=
 fP (KJ 15 [] hw)
theorem j4a(r:((List ByteArray) × Bool)):plain (e66 r)=true:=(b9g (B0 (psl (G1 r.1)) (B0 rfl rfl)))
def I8(ij1:Int)(ij2:Int)(lj3:(List ByteArray))(path:ByteArray)(r:((List ByteArray) × Bool)):Prop:=J Tryz.prog 66 (.ret (e66 r)) 9 [(7,aI ij1),(6,aI ij2),(5,.sl (List.map L9 lj3) (.own 0)),(4,.sl (List.map c1b (bI path)) .no)] ⟨[],[(lj3.length,1)],[]⟩
theorem O2(ij1:Int)(ij2:Int)(lj3:(List ByteArray))(path:ByteArray)(r:((List ByteArray) × Bool))(hw:((decide (ij1<=((bI path).length:Int)))=true->∃R3:Bool->Prop,(∀bz3:Bool,R3 bz3->((bz3=true->(0<=ij2/\ij2<=ij1/\ij1<=((bI path).length:Int))/\(∃y6,(((bI path).take ij1.toNat).drop ij2.toNat)=bI y6/\((lj3.length+[y6].length)*16<=140737488355328/\(I8 (wI (ij1+1)) (wI (ij1+1)) (lj3++[y6]) path r))))/\(bz3=false->I8 (wI (ij1+1)) ij2 lj3 path r)))/\(((ij1==((bI path).length:Int))=true->R3 true)/\((ij1==((bI path).length:Int))=false->∃y5,(bI path)[ij1.toNat]? =some y5/\0<=ij1/\(R3 (y5==47)))))/\((decide (ij1<=((bI path).length:Int)))=false->r=(lj3,true))):I8 ij1 ij2 lj3 path r:=
 KL 6 d4u (bI path)<|KW 3 hw (fun _ hw=>KL 8 d4u (bI path)<|KQ 2 6 kB hw (fun _ hw=>KW 2 hw (fun _ hw=>KSF 7 d4u hw fun hw=>KS 0 hw fun _ hw=>KA 1 a3u hw mE fun hw=>KJ 16 [] hw) fun _ hw=>KJ 9 [] hw) (fun _ key _ hw=>KE 6 key hw) fun _ key _ hw=>KI 2 d4u hw fun _ hw=>KE 3 key hw) fun _ hw=>KR 13 hw j4a
theorem a7k(path:ByteArray)(r:((List ByteArray) × Bool))(hw:∃R1:Bool->Prop,(∀bz1:Bool,R1 bz1->((bz1=true->r=(([]:(List ByteArray)),false))/\(bz1=false->I8 1 1 ([]:List ByteArray) path r)))/\(((decide (path=(⟨#[]⟩:ByteArray)))=true->R1 true)/\((decide (path=(⟨#[]⟩:ByteArray)))=false->(0<=(0:Int)/\(0:Int)<(path.size:Int))/\(R1 ((D0 path (0:Int).toNat) !=47))))):X5 path r:=
 fP (KQ 12 4 kB hw (fun _ hw=>KW 2 hw (fun _ hw=>KR 8 hw j4a) fun _ hw=>KY 5<|KO 21 5 1<|KJ 0 [] hw) (fun _ key _ hw=>KE 4 key hw) fun _ key _ hw=>KIS 1 hw fun hw=>KE 2 key hw)
theorem j63(r:(ByteArray × Bool)):plain (e67 r)=true:=(b9g (B0 rfl (B0 rfl rfl)))
theorem a1x(mg:Int)(segment:ByteArray)(r:(ByteArray × Bool))(hw:∃R1:Bool->Prop,(∀bz1:Bool,R1 bz1->(∃R2:Bool->Prop,(∀bz2:Bool,R2 bz2->(∃R3:Bool->Prop,(∀bz3:Bool,R3 bz3->((bz3=true->r=((⟨#[]⟩:ByteArray),false))/\(bz3=false->(0<=(1:Int)/\(1:Int)<=(wI ((segment.size:Int) - 1))/\(wI ((segment.size:Int) - 1))<=(segment.size:Int))/\(r=((segment.extract (1:Int).toNat (wI ((segment.size:Int) - 1)).toNat),true)))))/\((bz2=true->R3 true)/\(bz2=false->(0<=(1:Int)/\(1:Int)<=(wI ((segment.size:Int) - 1))/\(wI ((segment.size:Int) - 1))<=(segment.size:Int))/\(∃y1,a4j mg (segment.extract (1:Int).toNat (wI ((segment.size:Int) - 1)).toNat) y1/\(R3 (!y1)))))))/\((bz1=true->R2 true)/\(bz1=false->(0<=(wI ((segment.size:Int) - 1))/\(wI ((segment.size:Int) - 1))<(segment.size:Int))/\(R2 ((D0 segment (wI ((segment.size:Int) - 1)).toNat) !=125))))))/\(((decide ((segment.size:Int)<2))=true->R1 true)/\((decide ((segment.size:Int)<2))=false->(0<=(0:Int)/\(0:Int)<(segment.size:Int))/\(R1 ((D0 segment (0:Int).toNat) !=123))))):P8 mg segment r:=
 fP (KQ 19 4 kB hw (fun _ hw=>KQ 1 6 kB hw (fun _ hw=>KQ 1 7 kB hw (fun _ hw=>KW 2 hw (fun _ hw=>KR 8 hw j63) fun _ hw=>KSS 7 hw fun hw=>KR 5 hw j63) (fun _ key _ hw=>KE 7 key hw) fun _ key _ hw=>KSS 3 hw fun hw=>KC 0 hw n8l fun _ hw=>KE 2 key hw) (fun _ key _ hw=>KE 6 key hw) fun _ key _ hw=>KIS 3 hw fun hw=>KE 2 key hw) (fun _ key _ hw=>KE 4 key hw) fun _ key _ hw=>KIS 1 hw fun hw=>KE 2 key hw)
theorem n4j(r:(List ByteArray)):plain (e71 r)=true:=(psl (G1 r))
def a0a(ij13:Int)(lj14:(List ByteArray))(which:Int)(s:A3)(r:(List ByteArray)):Prop:=J Tryz.prog 71 (.ret (e71 r)) 16 [(8,aI ij13),(5,.sl (List.map L9 lj14) (.own 0)),(2,.ptr 0 0),(1,aI which)] ⟨[some (A6 s)],[(lj14.length,1)],[]⟩
def a0d(ij11:Int)(lj12:(List ByteArray))(which:Int)(s:A3)(r:(List ByteArray)):Prop:=J Tryz.prog 71 (.ret (e71 r)) 10 [(7,aI ij11),(5,.sl (List.map L9 lj12) (.own 0)),(2,.ptr 0 0),(1,aI which)] ⟨[some (A6 s)],[(lj12.length,1)],[]⟩
def a1i(ij7:Int)(lj8:(List ByteArray))(which:Int)(s:A3)(r:(List ByteArray)):Prop:=J Tryz.prog 71 (.ret (e71 r)) 4 [(6,aI ij7),(5,.sl (List.map L9 lj8) (.own 0)),(2,.ptr 0 0),(1,aI which)] ⟨[some (A6 s)],[(lj8.length,1)],[]⟩
theorem a2f(ij13:Int)(lj14:(List ByteArray))(which:Int)(s:A3)(r:(List ByteArray))(hw:(((which==3)&&(decide (ij13<(s.Services.length:Int))))=true->∃y12,s.Services[ij13.toNat]? =some y12/\0<=ij13/\((lj14.length+[y12.Name].length)*16<=140737488355328/\(a0a (wI (ij13+1)) (lj14++[y12.Name]) which s r)))/\(((which==3)&&(decide (ij13<(s.Services.length:Int))))=false->r=lj14)):a0a ij13 lj14 which s r:=
 KT2 7 6 (which==3) (fun z=>aB (z&&(decide (ij13<(s.Services.length:Int))))) (fun _ key=>KL 3 W2 s.Services<|KE2 2 key) (fun _ key=>KE2 6 key)<|KW 2 hw (fun _ hw=>KI 9 W2 hw fun _ hw=>KA 3 a3u hw mE fun hw=>KJ 10 [] hw) fun _ hw=>KR 12 hw n4j
theorem a2e(ij11:Int)(lj12:(List ByteArray))(which:Int)(s:A3)(r:(List ByteArray))(hw:(((which==2)&&(decide (ij11<(s.Enums.length:Int))))=true->∃y13,s.Enums[ij11.toNat]? =some y13/\0<=ij11/\((lj12.length+[y13.Name].length)*16<=140737488355328/\(a0d (wI (ij11+1)) (lj12++[y13.Name]) which s r)))/\(((which==2)&&(decide (ij11<(s.Enums.length:Int))))=false->a0a 0 lj12 which s r)):a0d ij11 lj12 which s r:=
 KT2 7 6 (which==2) (fun z=>aB (z&&(decide (ij11<(s.Enums.length:Int))))) (fun _ key=>KL 3 a6s s.Enums<|KE2 2 key) (fun _ key=>KE2 6 key)<|KW 2 hw (fun _ hw=>KI 9 a6s hw fun _ hw=>KA 3 a3u hw mE fun hw=>KJ 10 [] hw) fun _ hw=>KJ 13 [] hw
theorem a3k(ij7:Int)(lj8:(List ByteArray))(which:Int)(s:A3)(r:(List ByteArray))(hw:(((which==1)&&(decide (ij7<(s.Messages.length:Int))))=true->∃y14,s.Messages[ij7.toNat]? =some y14/\0<=ij7/\((lj8.length+[y14.Name].length)*16<=140737488355328/\(a1i (wI (ij7+1)) (lj8++[y14.Name]) which s r)))/\(((which==1)&&(decide (ij7<(s.Messages.length:Int))))=false->a0d 0 lj8 which s r)):a1i ij7 lj8 which s r:=
 KT2 7 6 (which==1) (fun z=>aB (z&&(decide (ij7<(s.Messages.length:Int))))) (fun _ key=>KL 3 K1 s.Messages<|KE2 2 key) (fun _ key=>KE2 6 key)<|KW 2 hw (fun _ hw=>KI 9 K1 hw fun _ hw=>KA 3 a3u hw mE fun hw=>KJ 10 [] hw) fun _ hw=>KJ 13 [] hw
theorem b4p(s:A3)(which:Int)(r:(List ByteArray))(hw:a1i 0 ([]:List ByteArray) which s r):a04 s which r:=
 fP (KO 19 5 1<|KJ 0 [] hw)
theorem j3j(r:G0):plain (e72 r)=true/\(T5 r).all ok1=true/\lowL [true] 1 (T5 r)=true/\(a9j r).length=1:=⟨h6s r,a2t _,b70 _,rfl⟩
theorem a96(p:G0)(bad:Bool)(num:Int)(e_:Int)(r:G0)(hw:(bad=true->(p.l.length+[(⟨p.def_,num,e_⟩:A8)].length)*32<=140737488355328/\(r=(⟨p.def_,(p.l++[(⟨p.def_,num,e_⟩:A8)])⟩:G0)))/\(bad=false->r=p)):A9 p bad num e_ r:=
 fIO (KW 5 hw (fun _ hw=>KD 0 [0]<|KA 13 a67 hw mE fun hw=>KRi 5 hw j3j) fun _ hw=>KRi 1 hw j3j)
theorem k4q(r:Bool):plain (e73 r)=true:=rfl
def S5(ij1:Int)(l:(List ByteArray))(r:Bool):Prop:=JP Tryz.prog 73 (e73 r) 3 [(3,aI ij1),(0,.sl (List.map L9 l) .no)]
theorem a0i(ij1:Int)(l:(List ByteArray))(r:Bool)(hw:((decide (ij1<(l.length:Int)))=true->∃y3,l[ij1.toNat]? =some y3/\0<=ij1/\(∃y4,l[(wI (ij1 - 1)).toNat]? =some y4/\0<=(wI (ij1 - 1))/\(((Op.bytesLess y3.toList y4.toList||y3.toList==y4.toList)=true->r=false)/\((Op.bytesLess y3.toList y4.toList||y3.toList==y4.toList)=false->S5 (wI (ij1+1)) l r))))/\((decide (ij1<(l.length:Int)))=false->r=true)):S5 ij1 l r:=
 KL 6 a3u l<|KW 3 hw (fun _ hw=>KD 5 []<|KI 2 a3u hw fun _ hw=>KI 4 a3u hw fun _ hw=>KW 5 hw (fun _ hw=>KR 11 hw k4q) fun _ hw=>KJ 9 [] hw) fun _ hw=>KR 11 hw k4q
theorem a8y(l:(List ByteArray))(r:Bool)(hw:S5 1 l r):a3a l r:=
 fP (KJ 13 [] hw)
theorem j0o(r:Bool):plain (e74 r)=true:=rfl
def a2x(ij1:Int)(a:(List ByteArray))(b:(List ByteArray))(r:Bool):Prop:=JP Tryz.prog 74 (e74 r) 3 [(5,aI ij1),(0,.sl (List.map L9 a) .no),(1,.sl (List.map L9 b) .no)]
theorem a39(ij1:Int)(a:(List ByteArray))(b:(List ByteArray))(r:Bool)(hw:((decide (ij1<(a.length:Int)))=true->∃y3,a[ij1.toNat]? =some y3/\0<=ij1/\(∃y4,b1u b y3 y4/\((y4=true->r=true)/\(y4=false->a2x (wI (ij1+1)) a b r))))/\((decide (ij1<(a.length:Int)))=false->r=false)):a2x ij1 a b r:=
 KL 6 a3u a<|KW 3 hw (fun _ hw=>KI 9 a3u hw fun _ hw=>KC 1 hw k2q fun _ hw=>KW 2 hw (fun _ hw=>KR 11 hw j0o) fun _ hw=>KJ 9 [] hw) fun _ hw=>KR 11 hw j0o
theorem b7c(a:(List ByteArray))(b:(List ByteArray))(r:Bool)(hw:a2x 0 a b r):a5c a b r:=
 fP (KJ 13 [] hw)
theorem n3h(r:(List Bool)):plain (e75 r)=true:=(psl (G9 r))
def O3(ij7:Int)(bj8:Bool)(ij4:Int)(s:A3)(lj9:(List Bool))(r:(List Bool)):Prop:=J Tryz.prog 75 (.ret (e75 r)) 11 [(6,aI ij7),(4,aB bj8),(5,aI ij4),(3,.row 1 0 1 (s.Messages.length:Int).toNat (s.Messages.length:Int).toNat),(1,.ptr 0 0)] ⟨[some (A6 s),some (cellsOf a28 lj9)],[],[]⟩
def T2(ij4:Int)(bj5:Bool)(s:A3)(lj6:(List Bool))(r:(List Bool)):Prop:=J Tryz.prog 75 (.ret (e75 r)) 5 [(5,aI ij4),(4,aB bj5),(3,.row 1 0 1 (s.Messages.length:Int).toNat (s.Messages.length:Int).toNat),(1,.ptr 0 0)] ⟨[some (A6 s),some (cellsOf a28 lj6)],[],[]⟩
theorem a19(ij7:Int)(bj8:Bool)(ij4:Int)(s:A3)(lj9:(List Bool))(r:(List Bool))(hw:((decide (ij7<(s.Messages.length:Int)))=true->(0<=ij7/\ij7<((s.Messages.length:Int).toNat:Int))/\(∃y10,lj9[ij7.toNat]? =some y10/\(((!y10)=true->∃y11,s.Messages[ij7.toNat]? =some y11/\0<=ij7/\(lj9.length=(s.Messages.length:Int).toNat/\∃y12,a6f s y11 lj9 y12/\(((!y12)=true->(0<=ij7/\ij7<((s.Messages.length:Int).toNat:Int))/\(ij7.toNat<lj9.length/\(O3 (wI (ij7+1)) true ij4 s (lj9.set ij7.toNat true) r)))/\((!y12)=false->O3 (wI (ij7+1)) bj8 ij4 s lj9 r))))/\((!y10)=false->O3 (wI (ij7+1)) bj8 ij4 s lj9 r))))/\((decide (ij7<(s.Messages.length:Int)))=false->T2 (wI (ij4+1)) bj8 s lj9 r)):O3 ij7 bj8 ij4 s lj9 r:=
 KL 7 K1 s.Messages<|KW 3 hw (fun _ hw=>KD 5 [0,1]<|KRI 2 1 hw fun hw=>KR1 0 c8j 0 hw fun _ hw=>KW 2 hw (fun _ hw=>KI 4 K1 hw fun _ hw=>KCr 3 c8j 1 (fun y=>(.bool y)) hw j8c (fun _ hw=>KW 4 hw (fun _ hw=>KRI 4 1 hw fun hw=>KRS 0 c8j true hw fun hw=>KJ 13 [] hw) fun _ hw=>KJ 9 [] hw) (fun _=>rfl)) fun _ hw=>KJ 23 [] hw) fun _ hw=>KJ 12 [] hw
theorem a2b(ij4:Int)(bj5:Bool)(s:A3)(lj6:(List Bool))(r:(List Bool))(hw:(((decide (ij4<(s.Messages.length:Int)))&&bj5)=true->O3 0 false ij4 s lj6 r)/\(((decide (ij4<(s.Messages.length:Int)))&&bj5)=false->lj6.length=(s.Messages.length:Int).toNat/\(r=lj6))):T2 ij4 bj5 s lj6 r:=
 KL 7 K1 s.Messages<|KT 2 2<|KW 2 hw (fun _ hw=>KJ 16 [] hw) fun _ hw=>KDf 11 c8j 1 [true,false] 0 1 [(2,.sl (List.map a28 lj6) .no)] [some (A6 s),none] ⟨by first|rfl|simp,by first|rfl|simp⟩ hw fun hw=>KR 1 hw n3h
theorem b2v(s:A3)(r:(List Bool))(hw:(0<=(s.Messages.length:Int)/\(s.Messages.length:Int)<=(s.Messages.length:Int)/\(s.Messages.length:Int)*1<=140737488355328)/\(T2 0 true s (List.replicate (s.Messages.length:Int).toNat false) r)):a7h s r:=
 fP (KL 10 K1 s.Messages<|KM 0 c8j false hw fun hw=>KJ 16 [] hw)
theorem m0u(r:(List A8)):plain (e76 r)=true:=(psl (K6 r))
def W9(ij7:Int)(finite:(List Bool))(s:A3)(m:B2)(sj8:ByteArray)(lj9:(List A8))(r:(List A8)):Prop:=J Tryz.prog 76 (.ret (e76 r)) 31 [(12,aI ij7),(7,.ptr 2 0),(4,.ptr 1 0),(3,.ptr 0 0),(2,.sl (List.map a28 finite) .no)] ⟨[some (A6 s),some (C4 m),some [aS sj8,.sl (List.map D7 lj9) (.own 0)]],[(lj9.length,3)],[]⟩
def M3(ij10:Int)(bj11:Bool)(ij4:Int)(finite:(List Bool))(s:A3)(m:B2)(sj5:ByteArray)(lj6:(List A8))(y48:B3)(r:(List A8)):Prop:=J Tryz.prog 76 (.ret (e76 r)) 14 [(11,aI ij10),(10,aB bj11),(9,.ptr 3 0),(8,aI ij4),(7,.ptr 2 0),(4,.ptr 1 0),(3,.ptr 0 0),(2,.sl (List.map a28 finite) .no)] ⟨[some (A6 s),some (C4 m),some [aS sj5,.sl (List.map D7 lj6) (.own 0)],some (C2 y48)],[(lj6.length,3)],[]⟩
def Q0(ij4:Int)(finite:(List Bool))(s:A3)(m:B2)(sj5:ByteArray)(lj6:(List A8))(r:(List A8)):Prop:=J Tryz.prog 76 (.ret (e76 r)) 6 [(8,aI ij4),(7,.ptr 2 0),(4,.ptr 1 0),(3,.ptr 0 0),(2,.sl (List.map a28 finite) .no)] ⟨[some (A6 s),some (C4 m),some [aS sj5,.sl (List.map D7 lj6) (.own 0)]],[(lj6.length,3)],[]⟩
theorem a8w{ij4:Int}{finite:(List Bool)}{s:A3}{m:B2}{sj5:ByteArray}{lj6:(List A8)}:a6k [true,true,true] 1 [(8,aI ij4),(7,.ptr 2 0),(4,.ptr 1 0),(3,.ptr 0 0),(2,.sl (List.map a28 finite) .no)]=true/\a4t [true,true,true] 1 [some (A6 s),some (C4 m),some [aS sj5,.sl (List.map D7 lj6) (.own 0)]]=true:=⟨by first|rfl|simp,by first|rfl|simp⟩
theorem a1r(ij7:Int)(finite:(List Bool))(s:A3)(m:B2)(sj8:ByteArray)(lj9:(List A8))(r:(List A8))(hw:((decide (ij7<(m.Gone.length:Int)))=true->∃y45,m.Gone[ij7.toNat]? =some y45/\0<=ij7/\(∃y46,a5w y45 y46/\(∃y47,A9 (⟨sj8,lj9⟩:G0) (!y46) (-1) 7 y47/\(W9 (wI (ij7+1)) finite s m y47.def_ y47.l r))))/\((decide (ij7<(m.Gone.length:Int)))=false->∃y42,I0 (⟨sj8,lj9⟩:G0) m.Notes 1 (-1) y42/\(∃y43,a6f s m finite y43/\(∃y44,A9 y42 y43 (-1) 19 y44/\(r=y44.l))))):W9 ij7 finite s m sj8 lj9 r:=
 KL 7 a3u m.Gone<|KW 3 hw (fun _ hw=>KI 8 a3u hw fun _ hw=>KC 1 hw j4j fun _ hw=>KI1 1 hw V0 fun _ hw=>KJ 9 [] hw) fun _ hw=>KI1 9 hw b85 fun _ hw=>KC 7 hw j8c fun _ hw=>KI1 0 hw V0 fun _ hw=>KR 10 hw m0u
theorem a1z(ij10:Int)(bj11:Bool)(ij4:Int)(finite:(List Bool))(s:A3)(m:B2)(sj5:ByteArray)(lj6:(List A8))(y48:B3)(r:(List A8))(hw:((decide (ij10<ij4))=true->∃y86,m.Fields[ij10.toNat]? =some y86/\0<=ij10/\(((decide (y86.Name=y48.Name))=true->M3 (wI (ij10+1)) true ij4 finite s m sj5 lj6 y48 r)/\((decide (y86.Name=y48.Name))=false->M3 (wI (ij10+1)) bj11 ij4 finite s m sj5 lj6 y48 r)))/\((decide (ij10<ij4))=false->∃y67,A9 (⟨sj5,lj6⟩:G0) ((decide (y48.Num<1))||(decide (65535<y48.Num))) y48.Num 6 y67/\(∃R6:Bool->Prop,(∀bz6:Bool,R6 bz6->(∃y70,A9 y67 bz6 y48.Num 11 y70/\(∃y71,M5 y48.Name y71/\(∃y72,A9 y70 (!y71) y48.Num 8 y72/\(∃y73,A9 y72 bj11 y48.Num 9 y73/\(∃y74,a1d m.Reserved y48.Num y74/\(∃R8:Bool->Prop,(∀bz8:Bool,R8 bz8->(∃y76,A9 y73 bz8 y48.Num 21 y76/\(∃y77,b2o y48 y77/\(∃y78,A9 y76 (!y77) y48.Num 1 y78/\(∃y79,b7l s y48 y79/\(∃y80,A9 y78 (!y79) y48.Num 12 y80/\(∃y81,a9n m ij4 y81/\(∃y82,A9 y80 (!y81) y48.Num 15 y82/\(∃y83,a9x s y48 y83/\(∃y84,A9 y82 (!y83) y48.Num 1 y84/\(∃y85,I0 y84 y48.Notes 2 y48.Num y85/\(Q0 (wI (ij4+1)) finite s m y85.def_ y85.l r))))))))))))/\((y74=true->R8 true)/\(y74=false->∃y75,b1u m.Gone y48.Name y75/\(R8 y75))))))))))/\(((decide (0<ij4))=true->∃y69,m.Fields[(wI (ij4 - 1)).toNat]? =some y69/\0<=(wI (ij4 - 1))/\(R6 (decide (y48.Num<=y69.Num))))/\((decide (0<ij4))=false->R6 false))))):M3 ij10 bj11 ij4 finite s m sj5 lj6 y48 r:=
 KW 9 hw (fun _ hw=>KD 5 [1,3]<|KI 3 M0 hw fun _ hw=>KW 8 hw (fun _ hw=>KJ 11 [] hw) fun _ hw=>KJ 9 [] hw) fun _ hw=>KT 11 4<|KI1 2 hw V0 fun _ hw=>KD 3 [1,3]<|KQ 3 11 kB hw (fun _ hw=>KI1 3 hw V0 fun _ hw=>KD 3 [3]<|KC 2 hw d6d fun _ hw=>KI1 4 hw V0 fun _ hw=>KI1 7 hw V0 fun _ hw=>KD 3 [1,3]<|KC 4 hw h72 fun _ hw=>KQ 1 6 kB hw (fun _ hw=>KI1 3 hw V0 fun _ hw=>KD 3 [3]<|KC 1 hw m25 fun _ hw=>KI1 4 hw V0 fun _ hw=>KD 3 [0,3]<|KC 2 hw n2g fun _ hw=>KI1 4 hw V0 fun _ hw=>KD 3 [1,3]<|KC 2 hw m9c fun _ hw=>KI1 4 hw V0 fun _ hw=>KD 3 [0,3]<|KC 2 hw l9p fun _ hw=>KI1 4 hw V0 fun _ hw=>KI1 7 hw b85 fun _ hw=>KJl 9 [] hw a8w) (fun _ key _ hw=>KE 6 key hw) fun _ key _ hw=>KC 4 hw k2q fun _ hw=>KE 1 key hw) (fun _ key _ hw=>KI 6 M0 hw fun _ hw=>KE 4 key hw) fun _ key _ hw=>KE 11 key hw
theorem a1q(ij4:Int)(finite:(List Bool))(s:A3)(m:B2)(sj5:ByteArray)(lj6:(List A8))(r:(List A8))(hw:((decide (ij4<(m.Fields.length:Int)))=true->∃y48,m.Fields[ij4.toNat]? =some y48/\0<=ij4/\(M3 0 false ij4 finite s m sj5 lj6 y48 r))/\((decide (ij4<(m.Fields.length:Int)))=false->∃y35,X3 (⟨sj5,lj6⟩:G0) m.Reserved 1 65535 y35/\(W9 0 finite s m y35.def_ y35.l r))):Q0 ij4 finite s m sj5 lj6 r:=
 KL 7 M0 m.Fields<|KW 3 hw (fun _ hw=>KI 9 M0 hw fun _ hw=>KJ 18 [] hw) fun _ hw=>KI1 9 hw e2w fun _ hw=>KJ 10 [] hw
theorem b14(s:A3)(m:B2)(finite:(List Bool))(r:(List A8))(hw:∃y1,a1w m.Name y1/\(∃y2,A9 (⟨m.Name,([]:(List A8))⟩:G0) (!y1) (-1) 8 y2/\(∃y3,A9 y2 (((decide (64<(m.Fields.length:Int)))||(decide (16<(m.Reserved.length:Int))))||(decide (16<(m.Gone.length:Int)))) (-1) 3 y3/\(Q0 0 finite s m y3.def_ y3.l r)))):a5y s m finite r:=
 fP (KC 20 hw f1m fun _ hw=>KIN 1 1 3 hw V0 fun _ hw=>KL 6 M0 m.Fields<|KT2 2 5 (decide (64<(m.Fields.length:Int))) (fun z=>aB (z||(decide (16<(m.Reserved.length:Int))))) (fun _ key=>KE2 5 key) (fun _ key=>KL 2 a4h m.Reserved<|KE2 2 key)<|KT2 1 5 ((decide (64<(m.Fields.length:Int)))||(decide (16<(m.Reserved.length:Int)))) (fun z=>aB (z||(decide (16<(m.Gone.length:Int))))) (fun _ key=>KE2 5 key) (fun _ key=>KL 2 a3u m.Gone<|KE2 2 key)<|KI1 0 hw V0 fun _ hw=>KJ 10 [] hw)
theorem l7f(r:(List A8)):plain (e77 r)=true:=(psl (K6 r))
def U3(ij4:Int)(bj5:Bool)(ij1:Int)(e_:a10)(sj2:ByteArray)(lj3:(List A8))(y20:b4s)(r:(List A8)):Prop:=J Tryz.prog 77 (.ret (e77 r)) 15 [(7,aI ij4),(6,aB bj5),(5,.ptr 2 0),(4,aI ij1),(3,.ptr 1 0),(1,.ptr 0 0)] ⟨[some (a0x e_),some [aS sj2,.sl (List.map D7 lj3) (.own 0)],some (a5n y20)],[(lj3.length,3)],[]⟩
def a0j(ij1:Int)(e_:a10)(sj2:ByteArray)(lj3:(List A8))(r:(List A8)):Prop:=J Tryz.prog 77 (.ret (e77 r)) 7 [(4,aI ij1),(3,.ptr 1 0),(1,.ptr 0 0)] ⟨[some (a0x e_),some [aS sj2,.sl (List.map D7 lj3) (.own 0)]],[(lj3.length,3)],[]⟩
theorem b27{ij1:Int}{e_:a10}{sj2:ByteArray}{lj3:(List A8)}:a6k [true,true] 1 [(4,aI ij1),(3,.ptr 1 0),(1,.ptr 0 0)]=true/\a4t [true,true] 1 [some (a0x e_),some [aS sj2,.sl (List.map D7 lj3) (.own 0)]]=true:=⟨by first|rfl|simp,by first|rfl|simp⟩
theorem a3y(ij4:Int)(bj5:Bool)(ij1:Int)(e_:a10)(sj2:ByteArray)(lj3:(List A8))(y20:b4s)(r:(List A8))(hw:((decide (ij4<ij1))=true->∃y40,e_.Items[ij4.toNat]? =some y40/\0<=ij4/\(((decide (y40.Name=y20.Name))=true->U3 (wI (ij4+1)) true ij1 e_ sj2 lj3 y20 r)/\((decide (y40.Name=y20.Name))=false->U3 (wI (ij4+1)) bj5 ij1 e_ sj2 lj3 y20 r)))/\((decide (ij4<ij1))=false->∃y30,A9 (⟨sj2,lj3⟩:G0) ((decide (y20.Num<0))||(decide (2147483647<y20.Num))) y20.Num 6 y30/\(∃R3:Bool->Prop,(∀bz3:Bool,R3 bz3->(∃y33,A9 y30 bz3 y20.Num 11 y33/\(∃y34,M5 y20.Name y34/\(∃y35,A9 y33 (!y34) y20.Num 8 y35/\(∃y36,A9 y35 bj5 y20.Num 9 y36/\(∃y37,a1d e_.Reserved y20.Num y37/\(∃y38,A9 y36 y37 y20.Num 21 y38/\(∃y39,I0 y38 y20.Notes 4 y20.Num y39/\(a0j (wI (ij1+1)) e_ y39.def_ y39.l r)))))))))/\(((decide (0<ij1))=true->∃y32,e_.Items[(wI (ij1 - 1)).toNat]? =some y32/\0<=(wI (ij1 - 1))/\(R3 (decide (y20.Num<=y32.Num))))/\((decide (0<ij1))=false->R3 false))))):U3 ij4 bj5 ij1 e_ sj2 lj3 y20 r:=
 KW 9 hw (fun _ hw=>KD 5 [0,2]<|KI 3 a5e hw fun _ hw=>KW 8 hw (fun _ hw=>KJ 11 [] hw) fun _ hw=>KJ 9 [] hw) fun _ hw=>KT 11 4<|KI1 2 hw V0 fun _ hw=>KD 3 [0,2]<|KQ 3 11 kB hw (fun _ hw=>KI1 3 hw V0 fun _ hw=>KD 3 [2]<|KC 2 hw d6d fun _ hw=>KI1 4 hw V0 fun _ hw=>KI1 7 hw V0 fun _ hw=>KD 3 [0,2]<|KC 4 hw h72 fun _ hw=>KI1 3 hw V0 fun _ hw=>KI1 7 hw b85 fun _ hw=>KJl 9 [] hw b27) (fun _ key _ hw=>KI 6 a5e hw fun _ hw=>KE 4 key hw) fun _ key _ hw=>KE 11 key hw
theorem a4c(ij1:Int)(e_:a10)(sj2:ByteArray)(lj3:(List A8))(r:(List A8))(hw:((decide (ij1<(e_.Items.length:Int)))=true->∃y20,e_.Items[ij1.toNat]? =some y20/\0<=ij1/\(U3 0 false ij1 e_ sj2 lj3 y20 r))/\((decide (ij1<(e_.Items.length:Int)))=false->∃y18,X3 (⟨sj2,lj3⟩:G0) e_.Reserved 0 2147483647 y18/\(∃y19,I0 y18 e_.Notes 3 (-1) y19/\(r=y19.l)))):a0j ij1 e_ sj2 lj3 r:=
 KL 7 a5e e_.Items<|KW 3 hw (fun _ hw=>KI 9 a5e hw fun _ hw=>KJ 18 [] hw) fun _ hw=>KI1 9 hw e2w fun _ hw=>KI1 6 hw b85 fun _ hw=>KR 10 hw l7f
theorem b6r(e_:a10)(r:(List A8))(hw:∃y1,a1w e_.Name y1/\(∃y2,A9 (⟨e_.Name,([]:(List A8))⟩:G0) (!y1) (-1) 8 y2/\(∃y3,A9 y2 (((decide ((e_.Items.length:Int)<1))||(decide (64<(e_.Items.length:Int))))||(decide (16<(e_.Reserved.length:Int)))) (-1) 3 y3/\(∃R1:Bool->Prop,(∀bz1:Bool,R1 bz1->(∃y6,A9 y3 bz1 (-1) 14 y6/\(a0j 0 e_ y6.def_ y6.l r)))/\(((decide (0<(e_.Items.length:Int)))=true->∃y5,e_.Items[(0:Int).toNat]? =some y5/\0<=(0:Int)/\(R1 (y5.Num !=0)))/\((decide (0<(e_.Items.length:Int)))=false->R1 false)))))):b3a e_ r:=
 fP (KC 19 hw f1m fun _ hw=>KIN 1 1 3 hw V0 fun _ hw=>KL 6 a5e e_.Items<|KT2 2 5 (decide ((e_.Items.length:Int)<1)) (fun z=>aB (z||(decide (64<(e_.Items.length:Int))))) (fun _ key=>KE2 5 key) (fun _ key=>KL 2 a5e e_.Items<|KE2 2 key)<|KT2 1 5 ((decide ((e_.Items.length:Int)<1))||(decide (64<(e_.Items.length:Int)))) (fun z=>aB (z||(decide (16<(e_.Reserved.length:Int))))) (fun _ key=>KE2 5 key) (fun _ key=>KL 2 a4h e_.Reserved<|KE2 2 key)<|KI1 0 hw V0 fun _ hw=>KL 6 a5e e_.Items<|KQ 2 7 kB hw (fun _ hw=>KI1 0 hw V0 fun _ hw=>KJ 10 [] hw) (fun _ key _ hw=>KI 2 a5e hw fun _ hw=>KE 4 key hw) fun _ key _ hw=>KE 7 key hw)
theorem m09(r:(List A8)):plain (e78 r)=true:=(psl (K6 r))
def X2(ij1:Int)(s:A3)(v:C7)(sj2:ByteArray)(lj3:(List A8))(r:(List A8)):Prop:=J Tryz.prog 78 (.ret (e78 r)) 6 [(6,aI ij1),(5,.ptr 2 0),(3,.ptr 1 0),(2,.ptr 0 0)] ⟨[some (A6 s),some (E0 v),some [aS sj2,.sl (List.map D7 lj3) (.own 0)]],[(lj3.length,3)],[]⟩
theorem a84{ij1:Int}{s:A3}{v:C7}{sj2:ByteArray}{lj3:(List A8)}:a6k [true,true,true] 1 [(6,aI ij1),(5,.ptr 2 0),(3,.ptr 1 0),(2,.ptr 0 0)]=true/\a4t [true,true,true] 1 [some (A6 s),some (E0 v),some [aS sj2,.sl (List.map D7 lj3) (.own 0)]]=true:=⟨by first|rfl|simp,by first|rfl|simp⟩
theorem a1s(ij1:Int)(s:A3)(v:C7)(sj2:ByteArray)(lj3:(List A8))(r:(List A8))(hw:((decide (ij1<(v.Methods.length:Int)))=true->∃y15,v.Methods[ij1.toNat]? =some y15/\0<=ij1/\(∃y16,M5 y15.Name y16/\(∃y17,A9 (⟨sj2,lj3⟩:G0) (!y16) ij1 8 y17/\(∃R3:Bool->Prop,(∀bz3:Bool,R3 bz3->(∃y20,A9 y17 bz3 ij1 11 y20/\(∃y21,M4 s y15.In y21/\(∃R4:Bool->Prop,(∀bz4:Bool,R4 bz4->(∃y23,A9 y20 bz4 ij1 12 y23/\(∃y24,A9 y23 ((decide (y15.Shape<1))||(decide (4<y15.Shape))) ij1 1 y24/\(∃y25,I0 y24 y15.Notes 6 ij1 y25/\(X2 (wI (ij1+1)) s v y25.def_ y25.l r)))))/\(((decide (y21<0))=true->R4 true)/\((decide (y21<0))=false->∃y22,M4 s y15.Out y22/\(R4 (decide (y22<0)))))))))/\(((decide (0<ij1))=true->∃y19,v.Methods[(wI (ij1 - 1)).toNat]? =some y19/\0<=(wI (ij1 - 1))/\(R3 (Op.bytesLess y15.Name.toList y19.Name.toList||y15.Name.toList==y19.Name.toList)))/\((decide (0<ij1))=false->R3 false))))))/\((decide (ij1<(v.Methods.length:Int)))=false->∃y14,I0 (⟨sj2,lj3⟩:G0) v.Notes 5 (-1) y14/\(r=y14.l))):X2 ij1 s v sj2 lj3 r:=
 KL 7 Z9 v.Methods<|KW 3 hw (fun _ hw=>KI 9 Z9 hw fun _ hw=>KC 9 hw d6d fun _ hw=>KI1 2 hw V0 fun _ hw=>KD 3 [1,3]<|KQ 3 11 kB hw (fun _ hw=>KI1 2 hw V0 fun _ hw=>KC 7 hw d4j fun _ hw=>KQ 2 6 kB hw (fun _ hw=>KI1 1 hw V0 fun _ hw=>KT 8 4<|KI1 1 hw V0 fun _ hw=>KI1 6 hw b85 fun _ hw=>KJl 9 [] hw a84) (fun _ key _ hw=>KE 6 key hw) fun _ key _ hw=>KC 3 hw d4j fun _ hw=>KE 2 key hw) (fun _ key _ hw=>KI 6 Z9 hw fun _ hw=>KE 4 key hw) fun _ key _ hw=>KE 11 key hw) fun _ hw=>KI1 9 hw b85 fun _ hw=>KR 10 hw m09
theorem b1w(s:A3)(v:C7)(r:(List A8))(hw:∃y1,a1w v.Name y1/\(∃y2,A9 (⟨v.Name,([]:(List A8))⟩:G0) (!y1) (-1) 8 y2/\(∃y3,A9 y2 (decide (64<(v.Methods.length:Int))) (-1) 3 y3/\(X2 0 s v y3.def_ y3.l r)))):a55 s v r:=
 fP (KC 20 hw f1m fun _ hw=>KIN 1 1 3 hw V0 fun _ hw=>KL 6 Z9 v.Methods<|KI1 1 hw V0 fun _ hw=>KJ 10 [] hw)
theorem i6i(r:Bool):plain (e80 r)=true:=rfl
def Z6(ij1:Int)(y1:(List ByteArray))(s:ByteArray)(mg:Int)(r:Bool):Prop:=J Tryz.prog 80 (.ret (e80 r)) 3 [(8,aI ij1),(7,aI (y1.length:Int)),(6,.sl (List.map L9 y1) .no),(0,aS s)] ⟨[],[],GLm mg⟩
theorem a2d(ij1:Int)(y1:(List ByteArray))(s:ByteArray)(mg:Int)(r:Bool)(hw:((decide (ij1<(y1.length:Int)))=true->∃y4,y1[ij1.toNat]? =some y4/\0<=ij1/\(∃y5,a30 y4 y5/\(((!y5)=true->r=false)/\((!y5)=false->Z6 (wI (ij1+1)) y1 s mg r))))/\((decide (ij1<(y1.length:Int)))=false->r=(decide ((s.size:Int)<=120)))):Z6 ij1 y1 s mg r:=
 KW 7 hw (fun _ hw=>KI 6 a3u hw fun _ hw=>KC 7 (pgX mg hw) n9j fun _ hw=>KW 3 hw (fun _ hw=>KR 11 hw i6i) fun _ hw=>KJ 8 [] hw) fun _ hw=>KR 14 hw i6i
theorem b3f(mg:Int)(s:ByteArray)(r:Bool)(hw:∃y1,strings_Split mg s (⟨#[46]⟩:ByteArray) y1/\(Z6 0 y1 s mg r)):a4j mg s r:=
 fP (KC 9 hw h9o fun y1 hw=>KL 0 a3u y1<|KJ 5 [] hw)
theorem i52(r:Bool):plain (e81 r)=true:=rfl
def a0l(s:ByteArray)(nj1:Nat)(r:Bool):Prop:=J Tryz.prog 81 (.ret (e81 r)) 3 [(7,.ptr 0 0),(0,aS s)] ⟨[some [.it s nj1]],[],[]⟩
theorem V7(s:ByteArray)(nj1:Nat)(r:Bool)(hw:(nj1<s.size->∃y2,b0j (Utf8.decode s nj1).1 y2/\((((y2==0)||(((((nj1:Nat):Int)==0)&&(y2 !=1))&&(y2 !=2)))=true->r=false)/\(((y2==0)||(((((nj1:Nat):Int)==0)&&(y2 !=1))&&(y2 !=2)))=false->a0l s (nj1+(Utf8.decode s nj1).2) r)))/\(¬nj1<s.size->r=((decide (1<=(s.size:Int)))&&(decide ((s.size:Int)<=40))))):a0l s nj1 r:=
 KX 3 hw (fun _ hw=>KC 19 hw n6z fun y2 hw=>KT2 8 11 (y2==0) (fun z=>aB (z||(((((nj1:Nat):Int)==0)&&(y2 !=1))&&(y2 !=2)))) (fun _ key=>KE2 11 key) (fun _ key=>KT 3 3<|KT 1 3<|KE2 1 key)<|KW 2 hw (fun _ hw=>KR 10 hw i52) fun _ hw=>KJ 3 [] hw) fun _ hw=>KT 16 4<|KR 4 hw i52
theorem b29(s:ByteArray)(r:Bool)(hw:a0l s 0 r):a30 s r:=
 fP (KJ 14 [] hw)
theorem h9u(r:(D8 × Bool)):plain (e82 r)=true:=(b9g (B0 (H9 r.1) (B0 rfl rfl)))
theorem b37(mg:Int)(s:A3)(path:ByteArray)(r:(D8 × Bool))(hw:∃y1,strings_Cut mg path (⟨#[47]⟩:ByteArray) y1/\(∃y2,a7j s y1.1 y2/\((((!y1.2.2)||(!y2.2))=true->r=((⟨(⟨#[]⟩:ByteArray),(⟨#[]⟩:ByteArray),(⟨#[]⟩:ByteArray),0,([]:(List F4))⟩:D8),false))/\(((!y1.2.2)||(!y2.2))=false->∃y3,a41 y2.1.Methods (⟨154,[],[.elt [aS y1.2.1] 0],by simp⟩:GFn) y3/\(r=(y3.1,y3.2)))))):b0e mg s path r:=
 fP (KC 10 hw n8u fun y1 hw=>KC 14 (pgX mg hw) n8a fun y2 hw=>KT 14 3<|KW 2 hw (fun _ hw=>KR 9 hw h9u) fun _ hw=>KFz 3 2 [true,true,false,true] 0 [(9,.ptr 3 0),(7,.elt [aS y1.2.1] 0),(4,.ptr 1 0)] [some (A6 s),some [aE,aE,aE,aI 0,.nil],none,some (E0 y2.1)] ⟨by first|rfl|simp,by first|rfl|simp⟩<|KC 4 (pgX mg hw) n6a fun _ hw=>KR 7 hw h9u)
end
section
attribute [local irreducible] Ok run put c85 br jn pos dr0 So
attribute [-simp] List.map_take List.map_drop List.map_append List.map_set List.map_replicate List.map_cons List.map_map
attribute [local simp] plain plainL a6k a4t W4 low lowL lowLL I4 G4 G6 D3 I3 G2 G3 G5 G9 G1 V3 M1 Y7 H0 F2 N6 J4 E5 F6 K4 H5 K2 H4 J8 F0 E1 F5 N3 I6 D6 F3 P7 M7 P1 O7 H9 I7 H3 I1 C9 N5 I5 J0 a2m W8 a99 a5q X9 K6 b1y a79 b0o d3f c1z c2k F9 c1b c2r c11 c2e a28 L9 eFn eL c1c b5j b5z b5q c07 b71 b6v b51 c08 c43 b2y c0t b3k b7d b5u b59 b2j b6z a7m b5c b5r b0k a8b b0b b23 b5d b9v a7l b7t c4o b96 c0d b7z b7m b5k c00 b5l b5v b6h b9t c4z b2i c0l b26 b67 b7a b6q b24 b6m a77 b6l b6n b0l a71 b0w b3n b6o c0i a7u b61 b2s b92 b22 b64 b7r b5t b2n b7p a69 b6a b50 b0d a68 a9q b2e b6p c1g a76 b5y b68
theorem c9p(r:((List B3) × Int)):plain (e86 r)=true:=(b9g (B0 (psl (F5 r.1)) (B0 rfl rfl)))
def a66(y10:ByteArray)(ij8:Int)(y2:(List ByteArray))(lj9:(List B3))(s:A3)(sj15:ByteArray)(lj16:(List B3))(lj17:(List Y0))(lj18:(List ByteArray))(lj19:(List F4))(mg:Int)(r:((List B3) × Int)):Prop:=J Tryz.prog 86 (.ret (e86 r)) 16 [(12,aS y10),(29,aI ij8),(28,aI (y2.length:Int)),(27,.sl (List.map L9 y2) .no),(10,.sl (List.map C2 lj9) (.own 0)),(8,.ptr 1 0),(3,.ptr 0 0)] ⟨[some (A6 s),some [aS sj15,.sl (List.map C2 lj16) .no,.sl (List.map S6 lj17) .no,.sl (List.map L9 lj18) .no,.sl (List.map E9 lj19) .no]],[(lj9.length,16)],GLm mg⟩
def a32(ij8:Int)(y2:(List ByteArray))(lj9:(List B3))(s:A3)(sj10:ByteArray)(lj11:(List B3))(lj12:(List Y0))(lj13:(List ByteArray))(lj14:(List F4))(mg:Int)(r:((List B3) × Int)):Prop:=J Tryz.prog 86 (.ret (e86 r)) 11 [(29,aI ij8),(28,aI (y2.length:Int)),(27,.sl (List.map L9 y2) .no),(10,.sl (List.map C2 lj9) (.own 0)),(8,.ptr 1 0),(3,.ptr 0 0)] ⟨[some (A6 s),some [aS sj10,.sl (List.map C2 lj11) .no,.sl (List.map S6 lj12) .no,.sl (List.map L9 lj13) .no,.sl (List.map E9 lj14) .no]],[(lj9.length,16)],GLm mg⟩
theorem b4b{y10:ByteArray}{ij8:Int}{y2:(List ByteArray)}{lj9:(List B3)}{s:A3}{sj15:ByteArray}{lj16:(List B3)}{lj17:(List Y0)}{lj18:(List ByteArray)}{lj19:(List F4)}:a6k [true,true] 1 [(12,aS y10),(29,aI ij8),(28,aI (y2.length:Int)),(27,.sl (List.map L9 y2) .no),(10,.sl (List.map C2 lj9) (.own 0)),(8,.ptr 1 0),(3,.ptr 0 0)]=true/\a4t [true,true] 1 [some (A6 s),some [aS sj15,.sl (List.map C2 lj16) .no,.sl (List.map S6 lj17) .no,.sl (List.map L9 lj18) .no,.sl (List.map E9 lj19) .no]]=true:=⟨by first|rfl|simp,by first|rfl|simp⟩
theorem b38{ij8:Int}{y2:(List ByteArray)}{lj9:(List B3)}{s:A3}{sj10:ByteArray}{lj11:(List B3)}{lj12:(List Y0)}{lj13:(List ByteArray)}{lj14:(List F4)}:a6k [true,true] 1 [(29,aI ij8),(28,aI (y2.length:Int)),(27,.sl (List.map L9 y2) .no),(10,.sl (List.map C2 lj9) (.own 0)),(8,.ptr 1 0),(3,.ptr 0 0)]=true/\a4t [true,true] 1 [some (A6 s),some [aS sj10,.sl (List.map C2 lj11) .no,.sl (List.map S6 lj12) .no,.sl (List.map L9 lj13) .no,.sl (List.map E9 lj14) .no]]=true:=⟨by first|rfl|simp,by first|rfl|simp⟩
theorem a42(y10:ByteArray)(ij8:Int)(y2:(List ByteArray))(lj9:(List B3))(s:A3)(sj15:ByteArray)(lj16:(List B3))(lj17:(List Y0))(lj18:(List ByteArray))(lj19:(List F4))(mg:Int)(r:((List B3) × Int))(hw:∃y14,a0g (⟨sj15,lj16,lj17,lj18,lj19⟩:B2) y10 y14/\(((!y14.2)=true->r=(([]:(List B3)),8))/\((!y14.2)=false->(lj9.length+[y14.1].length)*240<=140737488355328/\(a32 (wI (ij8+1)) y2 (lj9++[y14.1]) s sj15 lj16 lj17 lj18 lj19 mg r)))):a66 y10 ij8 y2 lj9 s sj15 lj16 lj17 lj18 lj19 mg r:=
 KC 4 (pgX mg hw) l29 fun _ hw=>KW 15 hw (fun _ hw=>KR 13 hw c9p) fun _ hw=>KA 6 M0 hw mE fun hw=>KJl 9 [] hw b38
theorem a05(ij8:Int)(y2:(List ByteArray))(lj9:(List B3))(s:A3)(sj10:ByteArray)(lj11:(List B3))(lj12:(List Y0))(lj13:(List ByteArray))(lj14:(List F4))(mg:Int)(r:((List B3) × Int))(hw:((decide (ij8<(y2.length:Int)))=true->∃y10,y2[ij8.toNat]? =some y10/\0<=ij8/\(((decide (0<ij8))=true->∃y11,lj9[(wI (ij8 - 1)).toNat]? =some y11/\0<=(wI (ij8 - 1))/\(∃y12,a1j s y11.Type_.Name y12/\((((((y11.Type_.Kind !=10)||(y11.Card==4))||(y11.Card==5))||(!y12.2))=true->r=(([]:(List B3)),12))/\(((((y11.Type_.Kind !=10)||(y11.Card==4))||(y11.Card==5))||(!y12.2))=false->a66 y10 ij8 y2 lj9 s y12.1.Name y12.1.Fields y12.1.Reserved y12.1.Gone y12.1.Notes mg r))))/\((decide (0<ij8))=false->a66 y10 ij8 y2 lj9 s sj10 lj11 lj12 lj13 lj14 mg r)))/\((decide (ij8<(y2.length:Int)))=false->r=(lj9,0))):a32 ij8 y2 lj9 s sj10 lj11 lj12 lj13 lj14 mg r:=
 KW 7 hw (fun _ hw=>KI 7 a3u hw fun _ hw=>KW 12 hw (fun _ hw=>KI 5 M0 hw fun _ hw=>KC 11 (pgX mg hw) m3h fun _ hw=>KT 14 4<|KT 1 4<|KT 1 3<|KW 2 hw (fun _ hw=>KR 13 hw c9p) fun _ hw=>KJl 2 [] hw b4b) fun _ hw=>KJ 2 [] hw) fun _ hw=>KR 13 hw c9p
theorem b8a(mg:Int)(s:A3)(name:ByteArray)(path:ByteArray)(r:((List B3) × Int))(hw:((decide (path=(⟨#[]⟩:ByteArray)))=true->r=(([]:(List B3)),1))/\((decide (path=(⟨#[]⟩:ByteArray)))=false->∃y1,a1j s name y1/\(((!y1.2)=true->r=(([]:(List B3)),10))/\((!y1.2)=false->∃y2,strings_Split mg path (⟨#[46]⟩:ByteArray) y2/\(a32 0 y2 ([]:List B3) s y1.1.Name y1.1.Fields y1.1.Reserved y1.1.Gone y1.1.Notes mg r))))):b7w mg s name path r:=
 fP (KW 14 hw (fun _ hw=>KR 8 hw c9p) fun _ hw=>KC 6 (pgX mg hw) m3h fun _ hw=>KW 15 hw (fun _ hw=>KR 8 hw c9p) fun _ hw=>KC 11 hw h9o fun y2 hw=>KL 0 a3u y2<|KO 5 10 16<|KJ 0 [] hw)
theorem n18(r:(List Int)):plain (e87 r)=true:=(psl (D3 r))
def S4(ij1:Int)(l:(List B3))(lj2:(List Int))(r:(List Int)):Prop:=J Tryz.prog 87 (.ret (e87 r)) 4 [(8,aI ij1),(7,aI (l.length:Int)),(6,.sl (List.map C2 l) .no),(3,.sl (List.map F9 lj2) (.own 0))] ⟨[],[(lj2.length,1)],[]⟩
theorem a6w{ij1:Int}{l:(List B3)}{lj2:(List Int)}:a6k [] 1 [(8,aI ij1),(7,aI (l.length:Int)),(6,.sl (List.map C2 l) .no),(3,.sl (List.map F9 lj2) (.own 0))]=true/\a4t [] 1 []=true:=⟨by first|rfl|simp,by first|rfl|simp⟩
theorem a0h(ij1:Int)(l:(List B3))(lj2:(List Int))(r:(List Int))(hw:((decide (ij1<(l.length:Int)))=true->∃y2,l[ij1.toNat]? =some y2/\0<=ij1/\((lj2.length+[y2.Num].length)*8<=140737488355328/\(S4 (wI (ij1+1)) l (lj2++[y2.Num]) r)))/\((decide (ij1<(l.length:Int)))=false->r=lj2)):S4 ij1 l lj2 r:=
 KW 7 hw (fun _ hw=>KI 6 M0 hw fun _ hw=>KA 10 b6g hw mE fun hw=>KJl 9 [] hw a6w) fun _ hw=>KR 12 hw n18
theorem a8z(l:(List B3))(r:(List Int))(hw:S4 0 l ([]:List Int) r):a3q l r:=
 fP (KL 14 M0 l<|KO 5 3 1<|KJ 0 [] hw)
theorem n68(r:Bool):plain (e91 r)=true:=rfl
theorem b0c(f:B3)(r:Bool)(hw:∃y1,c1m f.Type_.Kind y1/\(r=(y1&&(f.Type_.Kind !=6)))):a4r f r:=
 fP (KC 11 hw l7c fun _ hw=>KT 1 5<|KR 4 hw n68)
theorem m52(r:(B2 × Bool)):plain (e93 r)=true:=(b9g (B0 (D6 r.1) (B0 rfl rfl)))
theorem b28(s:A3)(name:ByteArray)(r:(B2 × Bool))(hw:∃y1,a36 s.Messages (⟨166,[],[.elt [aS name] 0],by simp⟩:GFn) y1/\(r=(y1.1,y1.2))):a1j s name r:=
 fP (KFz 9 1 [true,false,true] 0 [(4,.ptr 2 0),(3,.elt [aS name] 0),(2,.ptr 0 0)] [some (A6 s),none,some [aE,.nil,.nil,.nil,.nil]] ⟨by first|rfl|simp,by first|rfl|simp⟩<|KC 4 hw m3x fun _ hw=>KR 7 hw m52)
theorem e0o(r:Int):plain (m5u r)=true:=rfl
def G7(ij1:Int)(s:(List ByteArray))(v:ByteArray)(r:Int):Prop:=JP Tryz.prog 117 (m5u r) 3 [(8,aI ij1),(7,aI (s.length:Int)),(0,.sl (List.map L9 s) .no),(1,aS v)]
theorem Y2(ij1:Int)(s:(List ByteArray))(v:ByteArray)(r:Int)(hw:((decide (ij1<(s.length:Int)))=true->∃y2,s[ij1.toNat]? =some y2/\0<=ij1/\(((decide (v=y2))=true->r=ij1)/\((decide (v=y2))=false->G7 (wI (ij1+1)) s v r)))/\((decide (ij1<(s.length:Int)))=false->r=(-1))):G7 ij1 s v r:=
 KW 7 hw (fun _ hw=>KI 15 a3u hw fun _ hw=>KW 4 hw (fun _ hw=>KR 12 hw e0o) fun _ hw=>KJ 8 [] hw) fun _ hw=>KR 11 hw e0o
theorem a0t(s:(List ByteArray))(v:ByteArray)(r:Int)(hw:G7 0 s v r):U0 s v r:=
 fP (KL 9 a3u s<|KJ 5 [] hw)
theorem j4m(r:(List ByteArray)):plain (n3i r)=true:=(psl (G1 r))
def J9(ij1:Int)(y1:((List ByteArray) × Bool))(lj2:(List ByteArray))(mg:Int)(r:(List ByteArray)):Prop:=J Tryz.prog 118 (.ret (n3i r)) 5 [(17,aI ij1),(16,aI (y1.1.length:Int)),(15,.sl (List.map L9 y1.1) .no),(5,.sl (List.map L9 lj2) (.own 0))] ⟨[],[(lj2.length,1)],GLm mg⟩
theorem W3(ij1:Int)(y1:((List ByteArray) × Bool))(lj2:(List ByteArray))(mg:Int)(r:(List ByteArray))(hw:((decide (ij1<(y1.1.length:Int)))=true->∃y4,y1.1[ij1.toNat]? =some y4/\0<=ij1/\(∃y5,P8 mg y4 y5/\((y5.2=true->(lj2.length+[y5.1].length)*16<=140737488355328/\(J9 (wI (ij1+1)) y1 (lj2++[y5.1]) mg r))/\(y5.2=false->J9 (wI (ij1+1)) y1 lj2 mg r))))/\((decide (ij1<(y1.1.length:Int)))=false->r=lj2)):J9 ij1 y1 lj2 mg r:=
 KW 7 hw (fun _ hw=>KI 6 a3u hw fun _ hw=>KC 7 hw m7d fun _ hw=>KW 12 hw (fun _ hw=>KA 4 a3u hw mE fun hw=>KJ 9 [] hw) fun _ hw=>KJ 8 [] hw) fun _ hw=>KR 12 hw j4m
theorem a6x(mg:Int)(path:ByteArray)(r:(List ByteArray))(hw:∃y1,L3 mg path y1/\(J9 0 y1 ([]:List ByteArray) mg r)):a08 mg path r:=
 fP (KC 8 hw j9t fun y1 hw=>KL 16 a3u y1.1<|KO 5 5 1<|KJ 0 [] hw)
theorem l0a(r:Bool):plain (n9x r)=true:=rfl
theorem a9p(f:B3)(r:Bool)(hw:r=((decide (1<=f.Card))&&(decide (f.Card<=3)))):a9f f r:=
 fP (KT 12 4<|KR 4 hw l0a)
theorem d1b(r:Bool):plain (n3u r)=true:=rfl
def J6(ij1:Int)(s1_:(List Int))(s2_:(List Int))(r:Bool):Prop:=JP Tryz.prog 121 (n3u r) 6 [(13,aI ij1),(12,aI (s1_.length:Int)),(0,.sl (List.map F9 s1_) .no),(1,.sl (List.map F9 s2_) .no)]
theorem Q2(ij1:Int)(s1_:(List Int))(s2_:(List Int))(r:Bool)(hw:((decide (ij1<(s1_.length:Int)))=true->∃y3,s1_[ij1.toNat]? =some y3/\0<=ij1/\(∃y4,s2_[ij1.toNat]? =some y4/\0<=ij1/\(((y3 !=y4)=true->r=false)/\((y3 !=y4)=false->J6 (wI (ij1+1)) s1_ s2_ r))))/\((decide (ij1<(s1_.length:Int)))=false->r=true)):J6 ij1 s1_ s2_ r:=
 KW 7 hw (fun _ hw=>KD 11 []<|KI 2 b6g hw fun _ hw=>KI 3 b6g hw fun _ hw=>KW 5 hw (fun _ hw=>KR 11 hw d1b) fun _ hw=>KJ 8 [] hw) fun _ hw=>KR 11 hw d1b
theorem a3v(s1_:(List Int))(s2_:(List Int))(r:Bool)(hw:(((s1_.length:Int) !=(s2_.length:Int))=true->r=false)/\(((s1_.length:Int) !=(s2_.length:Int))=false->J6 0 s1_ s2_ r)):T4 s1_ s2_ r:=
 fP (KL 9 b6g s1_<|KL 1 b6g s2_<|KW 3 hw (fun _ hw=>KR 7 hw d1b) fun _ hw=>KL 6 b6g s1_<|KJ 5 [] hw)
theorem e07(r:(B3 × Bool)):plain (n9u r)=true:=(b9g (B0 (E1 r.1) (B0 rfl rfl)))
theorem a8u(m:B2)(name:ByteArray)(r:(B3 × Bool))(hw:∃y1,a13 m.Fields (⟨198,[],[.elt [aS name] 0],by simp⟩:GFn) y1/\((y1.2=true->r=(y1.1,true))/\(y1.2=false->∃y2,a13 m.Fields (⟨199,[],[.elt [aS name] 0],by simp⟩:GFn) y2/\(r=(y2.1,y2.2))))):a0g m name r:=
 fP (KFz 10 1 [true,false,true] 0 [(4,.ptr 2 0),(3,.elt [aS name] 0),(2,.ptr 0 0)] [some (C4 m),none,some [aI 0,aE,aI 0,aI 0,aI 0,aE,aE,aB false,aI 0,aU 0,aE,.nil,.nil,.nil,.nil,.nil]] ⟨by first|rfl|simp,by first|rfl|simp⟩<|KC 4 hw h3l fun _ hw=>KW 13 hw (fun _ hw=>KR 9 hw e07) fun _ hw=>KC 7 hw h3l fun _ hw=>KR 7 hw e07)
theorem d8r(r:Int):plain (m65 r)=true:=rfl
def E6(ij1:Int)(s:(List (List Int)))(f:GFn)(r:Int):Prop:=JP Tryz.prog 123 (m65 r) 3 [(8,aI ij1),(7,aI (s.length:Int)),(0,.sl (List.map (eL F9) s) .no),(1,.clo (.func f.fn) f.fi f.cap)]
theorem L6(ij1:Int)(s:(List (List Int)))(f:GFn)(r:Int)(hw:((decide (ij1<(s.length:Int)))=true->∃y3,s[ij1.toNat]? =some y3/\0<=ij1/\(∃y4,a5u Tryz.prog [] (.clo (.func f.fn) f.fi f.cap) [.sl (List.map F9 y3) .no] (aB y4)/\((y4=true->r=ij1)/\(y4=false->E6 (wI (ij1+1)) s f r))))/\((decide (ij1<(s.length:Int)))=false->r=(-1))):E6 ij1 s f r:=
 KW 7 hw (fun _ hw=>KI 15 c0c hw fun _ hw=>KF 1 hw fun _ hw=>KW 2 hw (fun _ hw=>KR 12 hw d8r) fun _ hw=>KJ 8 [] hw) fun _ hw=>KR 11 hw d8r
theorem N8(s:(List (List Int)))(f:GFn)(r:Int)(hw:E6 0 s f r):T9 s f r:=
 fP (KL 9 c0c s<|KJ 5 [] hw)
theorem d2d(r:Bool):plain (n1i r)=true:=rfl
def O5(ij1:Int)(sj2:ByteArray)(s:ByteArray)(r:Bool):Prop:=JP Tryz.prog 124 (n1i r) 7 [(4,aI ij1),(3,aS sj2),(0,aS s)]
theorem N9(ij1:Int)(sj2:ByteArray)(s:ByteArray)(r:Bool)(hw:((decide (ij1<(s.size:Int)))=true->(0<=ij1/\ij1<(s.size:Int))/\((((D0 s ij1.toNat) !=46)=true->(0<=ij1/\ij1<=(wI (ij1+1))/\(wI (ij1+1))<=(s.size:Int))/\(((sj2.size+(s.extract ij1.toNat (wI (ij1+1)).toNat).size:Nat):Int)<=9223372036854775807/\(O5 (wI (ij1+1)) (sj2++(s.extract ij1.toNat (wI (ij1+1)).toNat)) s r)))/\(((D0 s ij1.toNat) !=46)=false->∃y4,Y5 sj2 y4/\(((!y4)=true->r=false)/\((!y4)=false->O5 (wI (ij1+1)) (⟨#[]⟩:ByteArray) s r)))))/\((decide (ij1<(s.size:Int)))=false->∃y3,Y5 sj2 y3/\(r=y3))):O5 ij1 sj2 s r:=
 KW 10 hw (fun _ hw=>KIS 9 hw fun hw=>KW 3 hw (fun _ hw=>KSS 7 hw fun hw=>m2e 0 hw fun hw=>KJ 13 [] hw) fun _ hw=>KC 6 hw e8d fun _ hw=>KW 3 hw (fun _ hw=>KR 12 hw d2d) fun _ hw=>KJ 13 [] hw) fun _ hw=>KC 8 hw e8d fun _ hw=>KR 4 hw d2d
theorem b2x(s:ByteArray)(r:Bool)(hw:((decide (120<(s.size:Int)))=true->r=false)/\((decide (120<(s.size:Int)))=false->O5 0 (⟨#[]⟩:ByteArray) s r)):a65 s r:=
 fP (KW 13 hw (fun _ hw=>KR 7 hw d2d) fun _ hw=>KJ 15 [] hw)
theorem c94(r:Bool):plain (n0u r)=true:=rfl
def O6(ij1:Int)(s:ByteArray)(r:Bool):Prop:=JP Tryz.prog 125 (n0u r) 6 [(3,aI ij1),(0,aS s)]
theorem O1(ij1:Int)(s:ByteArray)(r:Bool)(hw:((decide (ij1<(s.size:Int)))=true->(0<=ij1/\ij1<(s.size:Int))/\(∃y5,a5p (D0 s ij1.toNat) y5/\(∃R6:Bool->Prop,(∀bz6:Bool,R6 bz6->(∃R7:Bool->Prop,(∀bz7:Bool,R7 bz7->((bz7=true->(0<=ij1/\ij1<(s.size:Int))/\(∃R8:Bool->Prop,(∀bz8:Bool,R8 bz8->((bz8=true->r=false)/\(bz8=false->O6 (wI (ij1+1)) s r)))/\(((decide ((D0 s ij1.toNat)<48))=true->R8 true)/\((decide ((D0 s ij1.toNat)<48))=false->(0<=ij1/\ij1<(s.size:Int))/\(R8 (decide (57<(D0 s ij1.toNat))))))))/\(bz7=false->O6 (wI (ij1+1)) s r)))/\((bz6=true->(0<=ij1/\ij1<(s.size:Int))/\(R7 ((D0 s ij1.toNat) !=95)))/\(bz6=false->R7 false))))/\(((!y5)=true->(0<=ij1/\ij1<(s.size:Int))/\(∃y6,a2y (D0 s ij1.toNat) y6/\(R6 (!y6))))/\((!y5)=false->R6 false)))))/\((decide (ij1<(s.size:Int)))=false->r=true)):O6 ij1 s r:=
 KW 10 hw (fun _ hw=>KIS 8 hw fun hw=>KC 0 hw i5y fun _ hw=>KQ 2 6 kB hw (fun _ hw=>KQ 1 5 kB hw (fun _ hw=>KW 1 hw (fun _ hw=>KIS 2 hw fun hw=>KQ 2 5 kB hw (fun _ hw=>KW 3 hw (fun _ hw=>KR 11 hw c94) fun _ hw=>KJ 9 [] hw) (fun _ key _ hw=>KE 5 key hw) fun _ key _ hw=>KIS 2 hw fun hw=>KE 2 key hw) fun _ hw=>KJ 23 [] hw) (fun _ key _ hw=>KIS 2 hw fun hw=>KE 2 key hw) fun _ key _ hw=>KE 5 key hw) (fun _ key _ hw=>KIS 2 hw fun hw=>KC 0 hw j5u fun _ hw=>KE 2 key hw) fun _ key _ hw=>KE 6 key hw) fun _ hw=>KR 11 hw c94
theorem a5k(s:ByteArray)(r:Bool)(hw:∃R1:Bool->Prop,(∀bz1:Bool,R1 bz1->((bz1=true->r=false)/\(bz1=false->O6 1 s r)))/\(((((s.size:Int)==0)||(decide (40<(s.size:Int))))=true->R1 true)/\((((s.size:Int)==0)||(decide (40<(s.size:Int))))=false->(0<=(0:Int)/\(0:Int)<(s.size:Int))/\(∃y1,a5p (D0 s (0:Int).toNat) y1/\(∃R2:Bool->Prop,(∀bz2:Bool,R2 bz2->(R1 bz2))/\(((!y1)=true->(0<=(0:Int)/\(0:Int)<(s.size:Int))/\(∃y2,a2y (D0 s (0:Int).toNat) y2/\(R2 (!y2))))/\((!y1)=false->R2 false))))))):Y5 s r:=
 fP (KT 12 4<|KQ 1 11 kB hw (fun _ hw=>KW 2 hw (fun _ hw=>KR 7 hw c94) fun _ hw=>KJ 10 [] hw) (fun _ key _ hw=>KE 11 key hw) fun _ key _ hw=>KIS 1 hw fun hw=>KC 0 hw i5y fun _ hw=>KQ 2 5 kB hw (fun _ hw=>KE 1 key hw) (fun _ key _ hw=>KIS 1 hw fun hw=>KC 0 hw j5u fun _ hw=>KE 2 key hw) fun _ key _ hw=>KE 5 key hw)
theorem e1z(r:Bool):plain (m41 r)=true:=rfl
def a34(ij1:Int)(l:(List ByteArray))(s:ByteArray)(r:Bool):Prop:=JP Tryz.prog 136 (m41 r) 3 [(5,aI ij1),(0,.sl (List.map L9 l) .no),(1,aS s)]
theorem a44(ij1:Int)(l:(List ByteArray))(s:ByteArray)(r:Bool)(hw:((decide (ij1<(l.length:Int)))=true->∃y2,l[ij1.toNat]? =some y2/\0<=ij1/\(((decide (y2=s))=true->r=true)/\((decide (y2=s))=false->a34 (wI (ij1+1)) l s r)))/\((decide (ij1<(l.length:Int)))=false->r=false)):a34 ij1 l s r:=
 KL 6 a3u l<|KW 3 hw (fun _ hw=>KI 8 a3u hw fun _ hw=>KW 5 hw (fun _ hw=>KR 11 hw e1z) fun _ hw=>KJ 9 [] hw) fun _ hw=>KR 11 hw e1z
theorem b8j(l:(List ByteArray))(s:ByteArray)(r:Bool)(hw:a34 0 l s r):b1u l s r:=
 fP (KJ 13 [] hw)
theorem d8q(r:Bool):plain (m94 r)=true:=rfl
def S0(ij1:Int)(finite:(List Bool))(s:A3)(m:B2)(r:Bool):Prop:=J Tryz.prog 137 (.ret (m94 r)) 3 [(7,aI ij1),(4,.ptr 1 0),(3,.ptr 0 0),(2,.sl (List.map a28 finite) .no)] ⟨[some (A6 s),some (C4 m)],[],[]⟩
theorem a0o{ij1:Int}{finite:(List Bool)}{s:A3}{m:B2}:a6k [true,true] 0 [(7,aI ij1),(4,.ptr 1 0),(3,.ptr 0 0),(2,.sl (List.map a28 finite) .no)]=true/\a4t [true,true] 0 [some (A6 s),some (C4 m)]=true:=⟨by first|rfl|simp,by first|rfl|simp⟩
theorem a3b(ij1:Int)(finite:(List Bool))(s:A3)(m:B2)(r:Bool)(hw:((decide (ij1<(m.Fields.length:Int)))=true->∃y5,m.Fields[ij1.toNat]? =some y5/\0<=ij1/\((((y5.Card !=1)||(y5.Type_.Kind !=10))=true->S0 (wI (ij1+1)) finite s m r)/\(((y5.Card !=1)||(y5.Type_.Kind !=10))=false->∃y6,M4 s y5.Type_.Name y6/\(((decide (0<=y6))=true->∃y8,finite[y6.toNat]? =some y8/\0<=y6/\(((!y8)=true->r=true)/\((!y8)=false->S0 (wI (ij1+1)) finite s m r)))/\((decide (0<=y6))=false->S0 (wI (ij1+1)) finite s m r)))))/\((decide (ij1<(m.Fields.length:Int)))=false->r=false)):S0 ij1 finite s m r:=
 KL 7 M0 m.Fields<|KW 3 hw (fun _ hw=>KI 9 M0 hw fun _ hw=>KT 12 5<|KW 2 hw (fun _ hw=>KJl 10 [] hw a0o) fun _ hw=>KC 8 hw d4j fun _ hw=>KW 8 hw (fun _ hw=>KI 2 c8j hw fun _ hw=>KW 5 hw (fun _ hw=>KR 11 hw d8q) fun _ hw=>KJl 9 [] hw a0o) fun _ hw=>KJl 18 [] hw a0o) fun _ hw=>KR 11 hw d8q
theorem b4k(s:A3)(m:B2)(finite:(List Bool))(r:Bool)(hw:S0 0 finite s m r):a6f s m finite r:=
 fP (KJ 15 [] hw)
theorem d0z(r:Bool):plain (m82 r)=true:=rfl
def a0f(ij1:Int)(sj2:ByteArray)(r:Bool):Prop:=JP Tryz.prog 138 (m82 r) 6 [(3,aI ij1),(0,aS sj2)]
theorem a2j(ij1:Int)(sj2:ByteArray)(r:Bool)(hw:(((decide (ij1<120))&&(!(decide (sj2=(⟨#[]⟩:ByteArray)))))=true->∃y4,a93 sj2 y4/\(∃y5,a4m y4.2 y5/\((y5=true->r=false)/\(y5=false->a0f (wI (ij1+1)) y4.1 r))))/\(((decide (ij1<120))&&(!(decide (sj2=(⟨#[]⟩:ByteArray)))))=false->r=true)):a0f ij1 sj2 r:=
 KT 7 3<|KW 2 hw (fun _ hw=>KC 7 hw m1p fun _ hw=>KC 11 hw k6o fun _ hw=>KW 2 hw (fun _ hw=>KR 12 hw d0z) fun _ hw=>KJ 14 [] hw) fun _ hw=>KR 11 hw d0z
theorem b3m(s:ByteArray)(r:Bool)(hw:∃y1,a65 s y1/\(((!y1)=true->r=false)/\((!y1)=false->a0f 0 s r))):a1w s r:=
 fP (KC 9 hw n6n fun _ hw=>KW 3 hw (fun _ hw=>KR 7 hw d0z) fun _ hw=>KJ 10 [] hw)
theorem d85(r:Bool):plain (n9q r)=true:=rfl
theorem a78(s:ByteArray)(r:Bool)(hw:∃y1,Y5 s y1/\((y1=true->∃y2,a4m s y2/\(r=(!y2)))/\(y1=false->r=false))):M5 s r:=
 fP (KC 8 hw e8d fun _ hw=>KW 1 hw (fun _ hw=>KC 1 hw k6o fun _ hw=>KR 6 hw d85) fun _ hw=>KR 8 hw d85)
theorem e0q(r:Bool):plain (m6z r)=true:=rfl
def O4(ij1:Int)(l:(List Y0))(n:Int)(r:Bool):Prop:=JP Tryz.prog 140 (m6z r) 3 [(5,aI ij1),(0,.sl (List.map S6 l) .no),(1,aI n)]
theorem a0y(ij1:Int)(l:(List Y0))(n:Int)(r:Bool)(hw:((decide (ij1<(l.length:Int)))=true->∃y4,l[ij1.toNat]? =some y4/\0<=ij1/\(((decide (y4.From<=n))=true->∃y6,l[ij1.toNat]? =some y6/\0<=ij1/\(((decide (n<=y6.To))=true->r=true)/\((decide (n<=y6.To))=false->O4 (wI (ij1+1)) l n r)))/\((decide (y4.From<=n))=false->O4 (wI (ij1+1)) l n r)))/\((decide (ij1<(l.length:Int)))=false->r=false)):O4 ij1 l n r:=
 KL 6 a4h l<|KW 3 hw (fun _ hw=>KI 8 a4h hw fun _ hw=>KW 5 hw (fun _ hw=>KI 3 a4h hw fun _ hw=>KW 6 hw (fun _ hw=>KR 11 hw e0q) fun _ hw=>KJ 9 [] hw) fun _ hw=>KJ 20 [] hw) fun _ hw=>KR 11 hw e0q
theorem a9o(l:(List Y0))(n:Int)(r:Bool)(hw:O4 0 l n r):a1d l n r:=
 fP (KJ 13 [] hw)
theorem b3v(r:Bool):plain (n8y r)=true:=rfl
theorem b6k(f:B3)(r:Bool)(hw:((f.Card !=5)=true->r=(((decide (1<=f.Card))&&(decide (f.Card<=4)))&&(f.Key==0)))/\((f.Card !=5)=false->((f.Key==1)=true->r=true)/\((f.Key==1)=false->((f.Key==2)=true->r=true)/\((f.Key==2)=false->((f.Key==3)=true->r=true)/\((f.Key==3)=false->((f.Key==4)=true->r=true)/\((f.Key==4)=false->((f.Key==5)=true->r=true)/\((f.Key==5)=false->((f.Key==7)=true->r=true)/\((f.Key==7)=false->r=false)))))))):b2o f r:=
 fP (KW 14 hw (fun _ hw=>KT 6 4<|KT 1 4<|KR 5 hw b3v) fun _ hw=>KW 17 hw (fun hb2 hw=>KKn 2 hb2<|KR 8 hw b3v) fun hb2 hw=>KW 6 hw (fun hb3 hw=>KKn 2 hb3<|KR 8 hw b3v) fun hb3 hw=>KW 6 hw (fun hb4 hw=>KKn 2 hb4<|KR 8 hw b3v) fun hb4 hw=>KW 6 hw (fun hb5 hw=>KKn 2 hb5<|KR 8 hw b3v) fun hb5 hw=>KW 6 hw (fun hb6 hw=>KKn 2 hb6<|KR 8 hw b3v) fun hb6 hw=>KW 5 hw (fun _ hw=>KR 8 hw b3v) fun _ hw=>KR 9 hw b3v)
theorem d0g(r:Bool):plain (n9f r)=true:=rfl
theorem b77(s:A3)(f:B3)(r:Bool)(hw:((f.Type_.Kind==9)=true->∃y1,a2p s f.Type_.Name y1/\(r=(decide (0<=y1))))/\((f.Type_.Kind==9)=false->((f.Type_.Kind==10)=true->∃y2,M4 s f.Type_.Name y2/\(r=((decide (0<=y2))&&(f.Card !=3))))/\((f.Type_.Kind==10)=false->r=(((decide (1<=f.Type_.Kind))&&(decide (f.Type_.Kind<=8)))&&(decide (f.Type_.Name=(⟨#[]⟩:ByteArray))))))):b7l s f r:=
 fP (KW 22 hw (fun _ hw=>KC 6 hw l3m fun _ hw=>KR 7 hw d0g) fun _ hw=>KW 6 hw (fun _ hw=>KC 6 hw d4j fun _ hw=>KT 2 4<|KR 6 hw d0g) fun _ hw=>KT 10 5<|KT 1 5<|KR 4 hw d0g)
theorem c3m(r:Bool):plain (n73 r)=true:=rfl
def S1(ij1:Int)(bj2:Bool)(at_:Int)(m:B2)(y1:B3)(r:Bool):Prop:=J Tryz.prog 143 (.ret (n73 r)) 11 [(7,aI ij1),(6,aB bj2),(5,.ptr 1 0),(2,.ptr 0 0),(1,aI at_)] ⟨[some (C4 m),some (C2 y1)],[],[]⟩
theorem a3n(ij1:Int)(bj2:Bool)(at_:Int)(m:B2)(y1:B3)(r:Bool)(hw:((decide (ij1<(m.Fields.length:Int)))=true->∃y6,m.Fields[ij1.toNat]? =some y6/\0<=ij1/\(((decide (y6.Name=y1.Union))=true->r=false)/\((decide (y6.Name=y1.Union))=false->((decide (ij1<at_))=true->∃y7,m.Fields[ij1.toNat]? =some y7/\0<=ij1/\(((decide (y7.Union=y1.Union))=true->S1 (wI (ij1+1)) true at_ m y1 r)/\((decide (y7.Union=y1.Union))=false->S1 (wI (ij1+1)) bj2 at_ m y1 r)))/\((decide (ij1<at_))=false->S1 (wI (ij1+1)) bj2 at_ m y1 r))))/\((decide (ij1<(m.Fields.length:Int)))=false->((!bj2)=true->r=true)/\((!bj2)=false->∃y5,m.Fields[(wI (at_ - 1)).toNat]? =some y5/\0<=(wI (at_ - 1))/\(r=(decide (y5.Union=y1.Union)))))):S1 ij1 bj2 at_ m y1 r:=
 KL 7 M0 m.Fields<|KW 3 hw (fun _ hw=>KD 6 [0,1]<|KI 3 M0 hw fun _ hw=>KW 8 hw (fun _ hw=>KR 12 hw c3m) fun _ hw=>KD 3 [0,1]<|KW 4 hw (fun _ hw=>KI 3 M0 hw fun _ hw=>KW 9 hw (fun _ hw=>KJ 11 [] hw) fun _ hw=>KJ 9 [] hw) fun _ hw=>KJ 23 [] hw) fun _ hw=>KD 6 [0,1]<|KW 3 hw (fun _ hw=>KR 16 hw c3m) fun _ hw=>KI 4 M0 hw fun _ hw=>KR 11 hw c3m
theorem b4e(m:B2)(at_:Int)(r:Bool)(hw:∃y1,m.Fields[at_.toNat]? =some y1/\0<=at_/\(((decide (y1.Union=(⟨#[]⟩:ByteArray)))=true->r=true)/\((decide (y1.Union=(⟨#[]⟩:ByteArray)))=false->∃R1:Bool->Prop,(∀bz1:Bool,R1 bz1->((bz1=true->r=false)/\(bz1=false->S1 0 false at_ m y1 r)))/\(((y1.Card !=2)=true->R1 true)/\((y1.Card !=2)=false->∃y2,M5 y1.Union y2/\(R1 (!y2))))))):a9n m at_ r:=
 fP (KI 11 M0 hw fun _ hw=>KW 13 hw (fun _ hw=>KR 7 hw c3m) fun _ hw=>KQ 9 5 kB hw (fun _ hw=>KW 2 hw (fun _ hw=>KR 7 hw c3m) fun _ hw=>KJ 15 [] hw) (fun _ key _ hw=>KE 5 key hw) fun _ key _ hw=>KC 2 hw d6d fun _ hw=>KE 2 key hw)
theorem b9a(r:Bool):plain (l6f r)=true:=rfl
def a1b(ij2:Int)(y5:Int)(s:A3)(f:B3)(r:Bool):Prop:=J Tryz.prog 144 (.ret (l6f r)) 17 [(7,aI ij2),(6,aI y5),(5,.ptr 2 0),(2,.ptr 0 0)] ⟨[some (A6 s),none,some (M2 f.Default)],[],[]⟩
def a1f(bj1:Bool)(s:A3)(f:B3)(r:Bool):Prop:=J Tryz.prog 144 (.ret (l6f r)) 6 [(38,aB bj1),(5,.ptr 2 0),(3,.ptr 1 0),(2,.ptr 0 0)] ⟨[some (A6 s),some (C2 f),some (M2 f.Default)],[],[]⟩
theorem b17{ij2:Int}{y5:Int}{s:A3}{f:B3}:a6k [true,false,true] 0 [(7,aI ij2),(6,aI y5),(5,.ptr 2 0),(2,.ptr 0 0)]=true/\a4t [true,false,true] 0 [some (A6 s),none,some (M2 f.Default)]=true:=⟨by first|rfl|simp,by first|rfl|simp⟩
theorem a29(ij2:Int)(y5:Int)(s:A3)(f:B3)(r:Bool)(hw:∃y9,s.Enums[y5.toNat]? =some y9/\0<=y5/\(((decide (ij2<(y9.Items.length:Int)))=true->∃y10,s.Enums[y5.toNat]? =some y10/\0<=y5/\(∃y11,y10.Items[ij2.toNat]? =some y11/\0<=ij2/\((((wU y11.Num)==f.Default.Bits)=true->r=true)/\(((wU y11.Num)==f.Default.Bits)=false->a1b (wI (ij2+1)) y5 s f r))))/\((decide (ij2<(y9.Items.length:Int)))=false->r=false))):a1b ij2 y5 s f r:=
 KI 8 a6s hw fun y9 hw=>KL 2 a5e y9.Items<|KW 3 hw (fun _ hw=>KD 5 [0,2]<|KI 3 a6s hw fun _ hw=>KI 3 a5e hw fun _ hw=>KW 9 hw (fun _ hw=>KR 11 hw b9a) fun _ hw=>KJ 9 [] hw) fun _ hw=>KR 11 hw b9a
theorem a95(bj1:Bool)(s:A3)(f:B3)(r:Bool)(hw:(bj1=true->r=false)/\(bj1=false->∃y5,a2p s f.Type_.Name y5/\(((f.Type_.Kind !=9)=true->r=true)/\((f.Type_.Kind !=9)=false->((decide (y5<0))=true->r=false)/\((decide (y5<0))=false->a1b 0 y5 s f r))))):a1f bj1 s f r:=
 KW 0 hw (fun _ hw=>KR 7 hw b9a) fun _ hw=>KC 8 hw l3m fun _ hw=>KW 12 hw (fun _ hw=>KR 7 hw b9a) fun _ hw=>KW 9 hw (fun _ hw=>KR 7 hw b9a) fun _ hw=>KJl 10 [] hw b17
theorem b4i(s:A3)(f:B3)(r:Bool)(hw:((!f.HasDefault)=true->∃y1,X7 f.Default (⟨0,0,(⟨#[]⟩:ByteArray),([]:(List C0)),([]:(List (C0 × C0))),([]:(List (Int × C0))),([]:(List c7z))⟩:C0) y1/\(r=y1))/\((!f.HasDefault)=false->∃R2:Bool->Prop,(∀bz2:Bool,R2 bz2->((bz2=true->a1f true s f r)/\(bz2=false->∃y3,b2z f.Default y3/\(∃y4,X7 f.Default y3 y4/\(a1f (!y4) s f r)))))/\((((f.Card !=2)||(!(decide (f.Union=(⟨#[]⟩:ByteArray)))))=true->R2 true)/\(((f.Card !=2)||(!(decide (f.Union=(⟨#[]⟩:ByteArray)))))=false->∃y2,a8o f.Type_.Kind f.Default y2/\(R2 (!y2)))))):a9x s f r:=
 fP (KW 23 hw (fun _ hw=>KC 4 hw k51 fun _ hw=>KR 5 hw b9a) fun _ hw=>KD 4 [1,2]<|KT 4 4<|KQ 1 7 kB hw (fun _ hw=>KW 1 hw (fun _ hw=>KJ 9 [] hw) fun _ hw=>KC 2 hw n05 fun _ hw=>KC 1 hw k51 fun _ hw=>KJ 4 [] hw) (fun _ key _ hw=>KE 7 key hw) fun _ key _ hw=>KC 4 hw i2x fun _ hw=>KE 2 key hw)
theorem k0d(r:G0):plain (l6m r)=true/\(T5 r).all ok1=true/\lowL [true] 1 (T5 r)=true/\(a9j r).length=1:=⟨d9f r,a2t _,b70 _,rfl⟩
theorem a7e(p:G0)(l:(List F4))(target:Int)(num:Int)(r:G0)(hw:∃y1,a9s l target y1/\(∃y2,A9 p (y1 !=0) num y1 y2/\(r=y2))):I0 p l target num r:=
 fIO (KC 4 hw m27 fun _ hw=>KI1 9 hw V0 fun _ hw=>KRi 1 hw k0d)
theorem j1k(r:G0):plain (j98 r)=true/\(T5 r).all ok1=true/\lowL [true] 1 (T5 r)=true/\(a9j r).length=1:=⟨d9s r,a2t _,b70 _,rfl⟩
def L1(ij1:Int)(l:(List Y0))(least:Int)(most:Int)(sj2:ByteArray)(lj3:(List A8))(r:G0):Prop:=J Tryz.prog 146 (.io 1 (j98 r) (T5 r) (a9j r)) 1 [(8,aI ij1),(0,.ptr 0 0),(1,.sl (List.map S6 l) .no),(2,aI least),(3,aI most)] ⟨[some [aS sj2,.sl (List.map D7 lj3) (.own 0)]],[(lj3.length,3)],[]⟩
theorem Y6(ij1:Int)(l:(List Y0))(least:Int)(most:Int)(sj2:ByteArray)(lj3:(List A8))(r:G0)(hw:((decide (ij1<(l.length:Int)))=true->∃y9,l[ij1.toNat]? =some y9/\0<=ij1/\(∃R7:Bool->Prop,(∀bz7:Bool,R7 bz7->(∃R8:Bool->Prop,(∀bz8:Bool,R8 bz8->(∃y15,A9 (⟨sj2,lj3⟩:G0) bz8 (-1) 6 y15/\(((decide (0<ij1))=true->∃y17,l[ij1.toNat]? =some y17/\0<=ij1/\(∃y18,l[(wI (ij1 - 1)).toNat]? =some y18/\0<=(wI (ij1 - 1))/\(∃y19,A9 y15 (decide (y17.From<=y18.To)) (-1) 11 y19/\(L1 (wI (ij1+1)) l least most y19.def_ y19.l r))))/\((decide (0<ij1))=false->∃y20,A9 y15 false (-1) 11 y20/\(L1 (wI (ij1+1)) l least most y20.def_ y20.l r)))))/\((bz7=true->R8 true)/\(bz7=false->∃y13,l[ij1.toNat]? =some y13/\0<=ij1/\(∃y14,l[ij1.toNat]? =some y14/\0<=ij1/\(R8 (decide (y14.To<y13.From))))))))/\(((decide (y9.From<least))=true->R7 true)/\((decide (y9.From<least))=false->∃y11,l[ij1.toNat]? =some y11/\0<=ij1/\(R7 (decide (most<y11.To)))))))/\((decide (ij1<(l.length:Int)))=false->r=(⟨sj2,lj3⟩:G0))):L1 ij1 l least most sj2 lj3 r:=
 KL 6 a4h l<|KW 3 hw (fun _ hw=>KD 5 []<|KI 3 a4h hw fun _ hw=>KQ 5 8 kB hw (fun _ hw=>KQ 1 12 kB hw (fun _ hw=>KI1 1 hw V0 fun _ hw=>KD 2 []<|KW 4 hw (fun _ hw=>KI 2 a4h hw fun _ hw=>KI 5 a4h hw fun _ hw=>KI1 5 hw V0 fun _ hw=>KJ 9 [] hw) fun _ hw=>KI1 14 hw V0 fun _ hw=>KJ 9 [] hw) (fun _ key _ hw=>KE 12 key hw) fun _ key _ hw=>KI 2 a4h hw fun _ hw=>KI 4 a4h hw fun _ hw=>KE 4 key hw) (fun _ key _ hw=>KE 8 key hw) fun _ key _ hw=>KI 2 a4h hw fun _ hw=>KE 5 key hw) fun _ hw=>KRi 4 hw j1k
theorem a8a(p:G0)(l:(List Y0))(least:Int)(most:Int)(r:G0)(hw:L1 0 l least most p.def_ p.l r):X3 p l least most r:=
 fIO (KJ 7 [] hw)
theorem h98(r:Bool):plain (n84 r)=true:=rfl
theorem b4c(s:ByteArray)(r:Bool)(hw:∃y1,c3h s y1/\(r=(decide (y1<0)))):a5w s r:=
 fP (KC 8 hw n4d fun _ hw=>KR 5 hw h98)
theorem e3i(r:Int):plain (m3j r)=true:=rfl
def O9(ij1:Int)(name:ByteArray)(s:A3)(r:Int):Prop:=J Tryz.prog 148 (.ret (m3j r)) 3 [(5,aI ij1),(2,.ptr 0 0),(1,aS name)] ⟨[some (A6 s)],[],[]⟩
theorem Y8(ij1:Int)(name:ByteArray)(s:A3)(r:Int)(hw:((decide (ij1<(s.Messages.length:Int)))=true->∃y2,s.Messages[ij1.toNat]? =some y2/\0<=ij1/\(((decide (y2.Name=name))=true->r=ij1)/\((decide (y2.Name=name))=false->O9 (wI (ij1+1)) name s r)))/\((decide (ij1<(s.Messages.length:Int)))=false->r=(-1))):O9 ij1 name s r:=
 KL 7 K1 s.Messages<|KW 3 hw (fun _ hw=>KI 9 K1 hw fun _ hw=>KW 6 hw (fun _ hw=>KR 12 hw e3i) fun _ hw=>KJ 9 [] hw) fun _ hw=>KR 11 hw e3i
theorem a7v(s:A3)(name:ByteArray)(r:Int)(hw:O9 0 name s r):M4 s name r:=
 fP (KJ 14 [] hw)
theorem c1k(r:Int):plain (n8p r)=true:=rfl
theorem b4g(c:Int)(r:Int)(hw:(((decide (97<=c))&&(decide (c<=122)))=true->r=1)/\(((decide (97<=c))&&(decide (c<=122)))=false->(((decide (65<=c))&&(decide (c<=90)))=true->r=2)/\(((decide (65<=c))&&(decide (c<=90)))=false->(((decide (48<=c))&&(decide (c<=57)))=true->r=3)/\(((decide (48<=c))&&(decide (c<=57)))=false->((c==95)=true->r=4)/\((c==95)=false->r=0))))):b0j c r:=
 fP (KT 12 3<|KW 3 hw (fun _ hw=>KR 8 hw c1k) fun _ hw=>KT 5 3<|KW 3 hw (fun _ hw=>KR 8 hw c1k) fun _ hw=>KT 5 3<|KW 3 hw (fun _ hw=>KR 8 hw c1k) fun _ hw=>KW 7 hw (fun _ hw=>KR 8 hw c1k) fun _ hw=>KR 9 hw c1k)
theorem h9t(r:(C7 × Bool)):plain (n9k r)=true:=(b9g (B0 (H3 r.1) (B0 rfl rfl)))
theorem b3c(s:A3)(name:ByteArray)(r:(C7 × Bool))(hw:∃y1,a4f s.Services (⟨219,[],[.elt [aS name] 0],by simp⟩:GFn) y1/\(r=(y1.1,y1.2))):a7j s name r:=
 fP (KFz 9 1 [true,false,true] 0 [(4,.ptr 2 0),(3,.elt [aS name] 0),(2,.ptr 0 0)] [some (A6 s),none,some [aE,.nil,.nil]] ⟨by first|rfl|simp,by first|rfl|simp⟩<|KC 4 hw m5d fun _ hw=>KR 7 hw h9t)
theorem e0l(r:(D8 × Bool)):plain (m2b r)=true:=(b9g (B0 (H9 r.1) (B0 rfl rfl)))
def O0(ij1:Int)(l:(List D8))(is:GFn)(r:(D8 × Bool)):Prop:=J Tryz.prog 153 (.ret (m2b r)) 3 [(11,aI ij1),(10,aI (l.length:Int)),(9,.sl (List.map H6 l) .no),(4,.ptr 0 0),(1,.clo (.func is.fn) is.fi is.cap)] ⟨[some [aE,aE,aE,aI 0,.nil]],[],[]⟩
theorem a45{ij1:Int}{l:(List D8)}{is:GFn}:a6k [true] 0 [(11,aI ij1),(10,aI (l.length:Int)),(9,.sl (List.map H6 l) .no),(4,.ptr 0 0),(1,.clo (.func is.fn) is.fi is.cap)]=true/\a4t [true] 0 [some [aE,aE,aE,aI 0,.nil]]=true:=⟨by first|rfl|simp,by first|rfl|simp⟩
theorem a4z(ij1:Int)(l:(List D8))(is:GFn)(r:(D8 × Bool))(hw:((decide (ij1<(l.length:Int)))=true->∃y3,l[ij1.toNat]? =some y3/\0<=ij1/\(∃y4,a5u Tryz.prog [] (.clo (.func is.fn) is.fi is.cap) [.agg (H6 y3)] (aB y4)/\((y4=true->r=(y3,true))/\(y4=false->O0 (wI (ij1+1)) l is r))))/\((decide (ij1<(l.length:Int)))=false->r=((⟨(⟨#[]⟩:ByteArray),(⟨#[]⟩:ByteArray),(⟨#[]⟩:ByteArray),0,([]:(List F4))⟩:D8),false))):O0 ij1 l is r:=
 KW 7 hw (fun _ hw=>KI 6 Z9 hw fun _ hw=>KF 9 hw fun _ hw=>KW 2 hw (fun _ hw=>KR 13 hw e0l) fun _ hw=>KJl 8 [] hw a45) fun _ hw=>KR 18 hw e0l
theorem a6y(l:(List D8))(is:GFn)(r:(D8 × Bool))(hw:O0 0 l is r):a41 l is r:=
 fP (KL 10 Z9 l<|KJ 5 [] hw)
theorem h3q(r:Bool):plain (n9n r)=true:=rfl
theorem b8m(kind:Int)(r:Bool)(hw:r=((decide (1<=kind))&&(decide (kind<=9)))):c1m kind r:=
 fP (KT 10 3<|KR 4 hw h3q)
theorem d97(r:(B2 × Bool)):plain (l81 r)=true:=(b9g (B0 (D6 r.1) (B0 rfl rfl)))
def M6(ij1:Int)(l:(List B2))(is:GFn)(r:(B2 × Bool)):Prop:=J Tryz.prog 165 (.ret (l81 r)) 3 [(11,aI ij1),(10,aI (l.length:Int)),(9,.sl (List.map C4 l) .no),(4,.ptr 0 0),(1,.clo (.func is.fn) is.fi is.cap)] ⟨[some [aE,.nil,.nil,.nil,.nil]],[],[]⟩
theorem a4s{ij1:Int}{l:(List B2)}{is:GFn}:a6k [true] 0 [(11,aI ij1),(10,aI (l.length:Int)),(9,.sl (List.map C4 l) .no),(4,.ptr 0 0),(1,.clo (.func is.fn) is.fi is.cap)]=true/\a4t [true] 0 [some [aE,.nil,.nil,.nil,.nil]]=true:=⟨by first|rfl|simp,by first|rfl|simp⟩
theorem a3w(ij1:Int)(l:(List B2))(is:GFn)(r:(B2 × Bool))(hw:((decide (ij1<(l.length:Int)))=true->∃y3,l[ij1.toNat]? =some y3/\0<=ij1/\(∃y4,a5u Tryz.prog [] (.clo (.func is.fn) is.fi is.cap) [.agg (C4 y3)] (aB y4)/\((y4=true->r=(y3,true))/\(y4=false->M6 (wI (ij1+1)) l is r))))/\((decide (ij1<(l.length:Int)))=false->r=((⟨(⟨#[]⟩:ByteArray),([]:(List B3)),([]:(List Y0)),([]:(List ByteArray)),([]:(List F4))⟩:B2),false))):M6 ij1 l is r:=
 KW 7 hw (fun _ hw=>KI 6 K1 hw fun _ hw=>KF 9 hw fun _ hw=>KW 2 hw (fun _ hw=>KR 13 hw d97) fun _ hw=>KJl 8 [] hw a4s) fun _ hw=>KR 18 hw d97
theorem a5z(l:(List B2))(is:GFn)(r:(B2 × Bool))(hw:M6 0 l is r):a36 l is r:=
 fP (KL 10 K1 l<|KJ 5 [] hw)
theorem e1a(r:(B3 × Bool)):plain (n5v r)=true:=(b9g (B0 (E1 r.1) (B0 rfl rfl)))
def L8(ij1:Int)(l:(List B3))(is:GFn)(r:(B3 × Bool)):Prop:=J Tryz.prog 175 (.ret (n5v r)) 3 [(11,aI ij1),(10,aI (l.length:Int)),(9,.sl (List.map C2 l) .no),(4,.ptr 0 0),(1,.clo (.func is.fn) is.fi is.cap)] ⟨[some [aI 0,aE,aI 0,aI 0,aI 0,aE,aE,aB false,aI 0,aU 0,aE,.nil,.nil,.nil,.nil,.nil]],[],[]⟩
theorem a50{ij1:Int}{l:(List B3)}{is:GFn}:a6k [true] 0 [(11,aI ij1),(10,aI (l.length:Int)),(9,.sl (List.map C2 l) .no),(4,.ptr 0 0),(1,.clo (.func is.fn) is.fi is.cap)]=true/\a4t [true] 0 [some [aI 0,aE,aI 0,aI 0,aI 0,aE,aE,aB false,aI 0,aU 0,aE,.nil,.nil,.nil,.nil,.nil]]=true:=⟨by first|rfl|simp,by first|rfl|simp⟩
theorem Y9(ij1:Int)(l:(List B3))(is:GFn)(r:(B3 × Bool))(hw:((decide (ij1<(l.length:Int)))=true->∃y3,l[ij1.toNat]? =some y3/\0<=ij1/\(∃y4,a5u Tryz.prog [] (.clo (.func is.fn) is.fi is.cap) [.agg (C2 y3)] (aB y4)/\((y4=true->r=(y3,true))/\(y4=false->L8 (wI (ij1+1)) l is r))))/\((decide (ij1<(l.length:Int)))=false->r=((⟨0,(⟨#[]⟩:ByteArray),0,0,(⟨0,(⟨#[]⟩:ByteArray)⟩:a9c),(⟨#[]⟩:ByteArray),false,(⟨0,0,(⟨#[]⟩:ByteArray),([]:(List C0)),([]:(List (C0 × C0))),([]:(List (Int × C0))),([]:(List c7z))⟩:C0),([]:(List F4))⟩:B3),false))):L8 ij1 l is r:=
 KW 7 hw (fun _ hw=>KI 6 M0 hw fun _ hw=>KF 9 hw fun _ hw=>KW 2 hw (fun _ hw=>KR 13 hw e1a) fun _ hw=>KJl 8 [] hw a50) fun _ hw=>KR 18 hw e1a
theorem a1o(l:(List B3))(is:GFn)(r:(B3 × Bool))(hw:L8 0 l is r):a13 l is r:=
 fP (KL 10 M0 l<|KJ 5 [] hw)
theorem e1w(r:(C0 × Bool)):plain (n9o r)=true:=(b9g (B0 (E5 r.1) (B0 rfl rfl)))
theorem b8f(l:(List F4))(name:ByteArray)(r:(C0 × Bool))(hw:∃y1,b86 l name y1/\(((decide (y1<0))=true->r=((⟨0,0,(⟨#[]⟩:ByteArray),([]:(List C0)),([]:(List (C0 × C0))),([]:(List (Int × C0))),([]:(List c7z))⟩:C0),false))/\((decide (y1<0))=false->∃y2,l[y1.toNat]? =some y2/\0<=y1/\(r=(y2.Val,true))))):b7e l name r:=
 fP (KC 10 hw n7n fun _ hw=>KW 10 hw (fun _ hw=>KR 9 hw e1w) fun _ hw=>KI 6 a17 hw fun _ hw=>KR 7 hw e1w)
theorem i3l(r:Bool):plain (n9c r)=true:=rfl
theorem b3b(l:(List F4))(name:ByteArray)(r:Bool)(hw:∃y1,b7e l (⟨#[97,108,105,97,115]⟩:ByteArray) y1/\(r=((y1.2&&(y1.1.Kind==7))&&(decide (y1.1.Text=name))))):b30 l name r:=
 fP (KC 8 hw l8g fun _ hw=>KT 12 4<|KT 1 5<|KR 4 hw i3l)
theorem h3f(r:Bool):plain (n87 r)=true:=rfl
theorem a14(b:Int)(r:Bool)(hw:r=((decide (97<=b))&&(decide (b<=122)))):a5p b r:=
 fP (KT 10 3<|KR 4 hw h3f)
theorem h2x(r:Bool):plain (n86 r)=true:=rfl
theorem a0q(b:Int)(r:Bool)(hw:r=((decide (65<=b))&&(decide (b<=90)))):a2y b r:=
 fP (KT 10 3<|KR 4 hw h2x)
theorem e2s(r:(ByteArray × ByteArray × Bool)):plain (n9g r)=true:=(b9g (B0 rfl (B0 rfl (B0 rfl rfl))))
def a4q(ij1:Int)(s:ByteArray)(c:Int)(r:(ByteArray × ByteArray × Bool)):Prop:=JP Tryz.prog 203 (n9g r) 3 [(7,aI ij1),(0,aS s),(1,aC c)]
theorem a3p(ij1:Int)(s:ByteArray)(c:Int)(r:(ByteArray × ByteArray × Bool))(hw:((decide (ij1<(s.size:Int)))=true->(0<=ij1/\ij1<(s.size:Int))/\((((D0 s ij1.toNat)==c)=true->(0<=(0:Int)/\(0:Int)<=ij1/\ij1<=(s.size:Int))/\((0<=(wI (ij1+1))/\(wI (ij1+1))<=(s.size:Int)/\(s.size:Int)<=(s.size:Int))/\(r=((s.extract (0:Int).toNat ij1.toNat),(s.extract (wI (ij1+1)).toNat (s.size:Int).toNat),true))))/\(((D0 s ij1.toNat)==c)=false->a4q (wI (ij1+1)) s c r)))/\((decide (ij1<(s.size:Int)))=false->r=(s,(⟨#[]⟩:ByteArray),false))):a4q ij1 s c r:=
 KW 10 hw (fun _ hw=>KIS 8 hw fun hw=>KW 4 hw (fun _ hw=>KD 1 []<|KSS 2 hw fun hw=>KSS 3 hw fun hw=>KR 12 hw e2s) fun _ hw=>KJ 9 [] hw) fun _ hw=>KR 14 hw e2s
theorem i8p(r:Bool):plain (n9v r)=true:=rfl
theorem c0x(kind:Int)(r:Bool)(hw:r=((decide (1<=kind))&&(decide (kind<=9)))):c7f kind r:=
 fP (KT 10 3<|KR 4 hw i8p)
theorem d99(r:(ByteArray × ByteArray)):plain (n71 r)=true:=(b9g (B0 rfl (B0 rfl rfl)))
def a1c(ij1:Int)(full:ByteArray)(r:(ByteArray × ByteArray)):Prop:=JP Tryz.prog 208 (n71 r) 3 [(4,aI ij1),(0,aS full)]
theorem a3r(ij1:Int)(full:ByteArray)(r:(ByteArray × ByteArray))(hw:((decide (0<=ij1))=true->(0<=ij1/\ij1<(full.size:Int))/\((((D0 full ij1.toNat)==46)=true->(0<=(0:Int)/\(0:Int)<=ij1/\ij1<=(full.size:Int))/\((0<=(wI (ij1+1))/\(wI (ij1+1))<=(full.size:Int)/\(full.size:Int)<=(full.size:Int))/\(r=((full.extract (0:Int).toNat ij1.toNat),(full.extract (wI (ij1+1)).toNat (full.size:Int).toNat)))))/\(((D0 full ij1.toNat)==46)=false->a1c (wI (ij1 - 1)) full r)))/\((decide (0<=ij1))=false->r=((⟨#[]⟩:ByteArray),full))):a1c ij1 full r:=
 KW 8 hw (fun _ hw=>KIS 8 hw fun hw=>KW 3 hw (fun _ hw=>KD 1 []<|KSS 2 hw fun hw=>KSS 3 hw fun hw=>KR 11 hw d99) fun _ hw=>KJ 9 [] hw) fun _ hw=>KR 13 hw d99
theorem b4l(full:ByteArray)(r:(ByteArray × ByteArray))(hw:a1c (wI ((full.size:Int) - 1)) full r):a93 full r:=
 fP (KJ 17 [] hw)
theorem V2(r:Bool):plain (n82 r)=true:=rfl
theorem b2t(s:ByteArray)(r:Bool)(hw:((decide (s=(⟨#[109,101,115,115,97,103,101]⟩:ByteArray)))=true->r=true)/\((decide (s=(⟨#[109,101,115,115,97,103,101]⟩:ByteArray)))=false->((decide (s=(⟨#[101,110,117,109]⟩:ByteArray)))=true->r=true)/\((decide (s=(⟨#[101,110,117,109]⟩:ByteArray)))=false->((decide (s=(⟨#[115,101,114,118,105,99,101]⟩:ByteArray)))=true->r=true)/\((decide (s=(⟨#[115,101,114,118,105,99,101]⟩:ByteArray)))=false->((decide (s=(⟨#[117,110,105,111,110]⟩:ByteArray)))=true->r=true)/\((decide (s=(⟨#[117,110,105,111,110]⟩:ByteArray)))=false->((decide (s=(⟨#[109,97,112]⟩:ByteArray)))=true->r=true)/\((decide (s=(⟨#[109,97,112]⟩:ByteArray)))=false->((decide (s=(⟨#[108,105,115,116]⟩:ByteArray)))=true->r=true)/\((decide (s=(⟨#[108,105,115,116]⟩:ByteArray)))=false->((decide (s=(⟨#[114,101,113,117,105,114,101,100]⟩:ByteArray)))=true->r=true)/\((decide (s=(⟨#[114,101,113,117,105,114,101,100]⟩:ByteArray)))=false->((decide (s=(⟨#[111,112,116,105,111,110,97,108]⟩:ByteArray)))=true->r=true)/\((decide (s=(⟨#[111,112,116,105,111,110,97,108]⟩:ByteArray)))=false->((decide (s=(⟨#[112,108,97,105,110]⟩:ByteArray)))=true->r=true)/\((decide (s=(⟨#[112,108,97,105,110]⟩:ByteArray)))=false->((decide (s=(⟨#[100,101,102,97,117,108,116]⟩:ByteArray)))=true->r=true)/\((decide (s=(⟨#[100,101,102,97,117,108,116]⟩:ByteArray)))=false->((decide (s=(⟨#[114,101,115,101,114,118,101,100]⟩:ByteArray)))=true->r=true)/\((decide (s=(⟨#[114,101,115,101,114,118,101,100]⟩:ByteArray)))=false->((decide (s=(⟨#[105,109,112,111,114,116]⟩:ByteArray)))=true->r=true)/\((decide (s=(⟨#[105,109,112,111,114,116]⟩:ByteArray)))=false->((decide (s=(⟨#[115,112,97,99,101]⟩:ByteArray)))=true->r=true)/\((decide (s=(⟨#[115,112,97,99,101]⟩:ByteArray)))=false->((decide (s=(⟨#[114,112,99]⟩:ByteArray)))=true->r=true)/\((decide (s=(⟨#[114,112,99]⟩:ByteArray)))=false->((decide (s=(⟨#[115,116,114,101,97,109]⟩:ByteArray)))=true->r=true)/\((decide (s=(⟨#[115,116,114,101,97,109]⟩:ByteArray)))=false->((decide (s=(⟨#[114,101,116,117,114,110,115]⟩:ByteArray)))=true->r=true)/\((decide (s=(⟨#[114,101,116,117,114,110,115]⟩:ByteArray)))=false->((decide (s=(⟨#[111,112,101,110]⟩:ByteArray)))=true->r=true)/\((decide (s=(⟨#[111,112,101,110]⟩:ByteArray)))=false->((decide (s=(⟨#[116,114,117,101]⟩:ByteArray)))=true->r=true)/\((decide (s=(⟨#[116,114,117,101]⟩:ByteArray)))=false->((decide (s=(⟨#[102,97,108,115,101]⟩:ByteArray)))=true->r=true)/\((decide (s=(⟨#[102,97,108,115,101]⟩:ByteArray)))=false->((decide (s=(⟨#[110,97,110]⟩:ByteArray)))=true->r=true)/\((decide (s=(⟨#[110,97,110]⟩:ByteArray)))=false->((decide (s=(⟨#[105,110,102]⟩:ByteArray)))=true->r=true)/\((decide (s=(⟨#[105,110,102]⟩:ByteArray)))=false->r=false)))))))))))))))))))))):a4m s r:=
 fP (KW 19 hw (fun hb1 hw=>KKn 2 hb1<|KR 8 hw V2) fun hb1 hw=>KW 6 hw (fun hb2 hw=>KKn 2 hb2<|KR 8 hw V2) fun hb2 hw=>KW 6 hw (fun hb3 hw=>KKn 2 hb3<|KR 8 hw V2) fun hb3 hw=>KW 6 hw (fun hb4 hw=>KKn 2 hb4<|KR 8 hw V2) fun hb4 hw=>KW 6 hw (fun hb5 hw=>KKn 2 hb5<|KR 8 hw V2) fun hb5 hw=>KW 6 hw (fun hb6 hw=>KKn 2 hb6<|KR 8 hw V2) fun hb6 hw=>KW 6 hw (fun hb7 hw=>KKn 2 hb7<|KR 8 hw V2) fun hb7 hw=>KW 6 hw (fun hb8 hw=>KKn 2 hb8<|KR 8 hw V2) fun hb8 hw=>KW 6 hw (fun hb9 hw=>KKn 2 hb9<|KR 8 hw V2) fun hb9 hw=>KW 6 hw (fun hb10 hw=>KKn 2 hb10<|KR 8 hw V2) fun hb10 hw=>KW 6 hw (fun hb11 hw=>KKn 2 hb11<|KR 8 hw V2) fun hb11 hw=>KW 6 hw (fun hb12 hw=>KKn 2 hb12<|KR 8 hw V2) fun hb12 hw=>KW 6 hw (fun hb13 hw=>KKn 2 hb13<|KR 8 hw V2) fun hb13 hw=>KW 6 hw (fun hb14 hw=>KKn 2 hb14<|KR 8 hw V2) fun hb14 hw=>KW 6 hw (fun hb15 hw=>KKn 2 hb15<|KR 8 hw V2) fun hb15 hw=>KW 6 hw (fun hb16 hw=>KKn 2 hb16<|KR 8 hw V2) fun hb16 hw=>KW 6 hw (fun hb17 hw=>KKn 2 hb17<|KR 8 hw V2) fun hb17 hw=>KW 6 hw (fun hb18 hw=>KKn 2 hb18<|KR 8 hw V2) fun hb18 hw=>KW 6 hw (fun hb19 hw=>KKn 2 hb19<|KR 8 hw V2) fun hb19 hw=>KW 6 hw (fun hb20 hw=>KKn 2 hb20<|KR 8 hw V2) fun hb20 hw=>KW 5 hw (fun _ hw=>KR 8 hw V2) fun _ hw=>KR 9 hw V2)
theorem d93(r:Int):plain (m0s r)=true:=rfl
def X4(ij1:Int)(name:ByteArray)(s:A3)(r:Int):Prop:=J Tryz.prog 210 (.ret (m0s r)) 3 [(5,aI ij1),(2,.ptr 0 0),(1,aS name)] ⟨[some (A6 s)],[],[]⟩
theorem a1v(ij1:Int)(name:ByteArray)(s:A3)(r:Int)(hw:((decide (ij1<(s.Enums.length:Int)))=true->∃y2,s.Enums[ij1.toNat]? =some y2/\0<=ij1/\(((decide (y2.Name=name))=true->r=ij1)/\((decide (y2.Name=name))=false->X4 (wI (ij1+1)) name s r)))/\((decide (ij1<(s.Enums.length:Int)))=false->r=(-1))):X4 ij1 name s r:=
 KL 7 a6s s.Enums<|KW 3 hw (fun _ hw=>KI 9 a6s hw fun _ hw=>KW 6 hw (fun _ hw=>KR 12 hw d93) fun _ hw=>KJ 9 [] hw) fun _ hw=>KR 11 hw d93
theorem b08(s:A3)(name:ByteArray)(r:Int)(hw:X4 0 name s r):a2p s name r:=
 fP (KJ 14 [] hw)
theorem i5u(r:Bool):plain (n8r r)=true:=rfl
theorem a74(a:C0)(b:C0)(r:Bool)(hw:r=((((a.Kind==b.Kind)&&(a.Bits==b.Bits))&&(decide (a.Text=b.Text)))&&((wI ((wI ((wI ((wI ((wI ((wI ((wI ((a.List_.length:Int)+(a.Pairs.length:Int)))+(a.Slots.length:Int)))+(a.Raws.length:Int)))+(b.List_.length:Int)))+(b.Pairs.length:Int)))+(b.Slots.length:Int)))+(b.Raws.length:Int)))==0))):X7 a b r:=
 fP (KT 15 6<|KT 1 6<|KT2 1 33 (((a.Kind==b.Kind)&&(a.Bits==b.Bits))&&(decide (a.Text=b.Text))) (fun z=>aB (z&&((wI ((wI ((wI ((wI ((wI ((wI ((wI ((a.List_.length:Int)+(a.Pairs.length:Int)))+(a.Slots.length:Int)))+(a.Raws.length:Int)))+(b.List_.length:Int)))+(b.Pairs.length:Int)))+(b.Slots.length:Int)))+(b.Raws.length:Int)))==0))) (fun _ key=>KL 2 c0m a.List_<|KL 2 c5t a.Pairs<|KL 3 c6h a.Slots<|KL 3 d71 a.Raws<|KL 3 c0m b.List_<|KL 3 c5t b.Pairs<|KL 3 c6h b.Slots<|KL 3 d71 b.Raws<|KE2 3 key) (fun _ key=>KE2 33 key)<|KR 4 hw i5u)
theorem b3z(r:Bool):plain (n8z r)=true:=rfl
theorem b57(kind:Int)(v:C0)(r:Bool)(hw:∃y1,c7f kind y1/\(∃R1:Bool->Prop,(∀bz1:Bool,R1 bz1->((bz1=true->r=false)/\(bz1=false->∃y3,b7o kind y3/\((y3=true->∃R2:Bool->Prop,(∀bz2:Bool,R2 bz2->(r=bz2))/\((((v.Bits==0)&&(decide ((v.Text.size:Int)<=4096)))=true->∃R3:Bool->Prop,(∀bz3:Bool,R3 bz3->(R2 bz3))/\(((kind==8)=true->R3 true)/\((kind==8)=false->∃y4,a5w v.Text y4/\(R3 y4))))/\(((v.Bits==0)&&(decide ((v.Text.size:Int)<=4096)))=false->R2 false)))/\(y3=false->((!(decide (v.Text=(⟨#[]⟩:ByteArray))))=true->r=false)/\((!(decide (v.Text=(⟨#[]⟩:ByteArray))))=false->((kind==1)=true->r=(decide (v.Bits<=1)))/\((kind==1)=false->((kind==2)=true->r=((decide ((-2147483648)<=(wI v.Bits)))&&(decide ((wI v.Bits)<=2147483647))))/\((kind==2)=false->((kind==4)=true->r=(decide (v.Bits<4294967296)))/\((kind==4)=false->((kind==9)=true->r=(decide (v.Bits<2147483648)))/\((kind==9)=false->r=true))))))))))/\((((!y1)||(v.Kind !=kind))=true->R1 true)/\(((!y1)||(v.Kind !=kind))=false->∃y2,b9n v y2/\(R1 (!y2)))))):a8o kind v r:=
 fP (KC 10 hw n1p fun _ hw=>KT 2 5<|KQ 1 4 kB hw (fun _ hw=>KW 2 hw (fun _ hw=>KR 7 hw b3z) fun _ hw=>KC 6 hw m9d fun _ hw=>KW 2 hw (fun _ hw=>KT 6 5<|KQ 1 8 kB hw (fun _ hw=>KR 5 hw b3z) (fun _ key _ hw=>KQ 3 4 kB hw (fun _ hw=>KE 1 key hw) (fun _ key _ hw=>KE 4 key hw) fun _ key _ hw=>KC 2 hw j4j fun _ hw=>KE 1 key hw) fun _ key _ hw=>KE 8 key hw) fun _ hw=>KW 10 hw (fun _ hw=>KR 7 hw b3z) fun _ hw=>KW 15 hw (fun _ hw=>KR 11 hw b3z) fun _ hw=>KW 6 hw (fun _ hw=>KT 13 3<|KR 6 hw b3z) fun _ hw=>KW 6 hw (fun _ hw=>KR 11 hw b3z) fun _ hw=>KW 6 hw (fun _ hw=>KR 11 hw b3z) fun _ hw=>KR 9 hw b3z) (fun _ key _ hw=>KE 4 key hw) fun _ key _ hw=>KC 1 hw l60 fun _ hw=>KE 2 key hw)
theorem d3e(r:C0):plain (n8s r)=true:=(E5 r)
theorem b7q(v:C0)(r:C0)(hw:((v.Kind==6)=true->∃y1,b0x v.Bits y1/\(((y1==0)=true->r=(⟨v.Kind,9221120237041090560,v.Text,v.List_,v.Pairs,v.Slots,v.Raws⟩:C0))/\((y1==0)=false->r=v)))/\((v.Kind==6)=false->r=v)):b2z v r:=
 fP (KW 13 hw (fun _ hw=>KC 2 hw m1v fun _ hw=>KW 4 hw (fun _ hw=>KR 12 hw d3e) fun _ hw=>KR 9 hw d3e) fun _ hw=>KR 17 hw d3e)
theorem b53(r:Int):plain (l6o r)=true:=rfl
def a1a(bj2:Bool)(ij1:Int)(l:(List F4))(target:Int)(r:Int):Prop:=JP Tryz.prog 214 (l6o r) 20 [(51,aB bj2),(5,aI ij1),(0,.sl (List.map E9 l) .no),(1,aI target)]
def Q7(ij1:Int)(l:(List F4))(target:Int)(r:Int):Prop:=JP Tryz.prog 214 (l6o r) 6 [(5,aI ij1),(0,.sl (List.map E9 l) .no),(1,aI target)]
theorem b0p(bj2:Bool)(ij1:Int)(l:(List F4))(target:Int)(r:Int)(hw:(bj2=true->r=11)/\(bj2=false->((decide (0<ij1))=true->∃y17,l[ij1.toNat]? =some y17/\0<=ij1/\(∃y18,l[(wI (ij1 - 1)).toNat]? =some y18/\0<=(wI (ij1 - 1))/\(((decide (y17.Name=y18.Name))=true->r=9)/\((decide (y17.Name=y18.Name))=false->Q7 (wI (ij1+1)) l target r))))/\((decide (0<ij1))=false->Q7 (wI (ij1+1)) l target r))):a1a bj2 ij1 l target r:=
 KW 0 hw (fun _ hw=>KR 12 hw b53) fun _ hw=>KD 3 []<|KW 3 hw (fun _ hw=>KI 2 a17 hw fun _ hw=>KI 5 a17 hw fun _ hw=>KW 7 hw (fun _ hw=>KR 11 hw b53) fun _ hw=>KJ 9 [] hw) fun _ hw=>KJ 26 [] hw
theorem a3l(ij1:Int)(l:(List F4))(target:Int)(r:Int)(hw:((decide (ij1<(l.length:Int)))=true->∃y7,l[ij1.toNat]? =some y7/\0<=ij1/\(∃y8,a8j y7.Name y8/\(((y8==0)=true->r=8)/\((y8==0)=false->∃y9,l[ij1.toNat]? =some y9/\0<=ij1/\(∃y10,b3q y9.Name target y10/\(((!y10)=true->r=1)/\((!y10)=false->∃y11,l[ij1.toNat]? =some y11/\0<=ij1/\(∃y12,b0n y11 y12/\(((!y12)=true->r=12)/\((!y12)=false->((decide (0<ij1))=true->∃y13,l[ij1.toNat]? =some y13/\0<=ij1/\(∃y14,l[(wI (ij1 - 1)).toNat]? =some y14/\0<=(wI (ij1 - 1))/\(a1a (Op.bytesLess y13.Name.toList y14.Name.toList) ij1 l target r)))/\((decide (0<ij1))=false->a1a false ij1 l target r)))))))))))/\((decide (ij1<(l.length:Int)))=false->r=0)):Q7 ij1 l target r:=
 KL 6 a17 l<|KW 3 hw (fun _ hw=>KI 9 a17 hw fun _ hw=>KC 2 hw j8v fun _ hw=>KW 3 hw (fun _ hw=>KR 12 hw b53) fun _ hw=>KI 7 a17 hw fun _ hw=>KC 3 hw n0c fun _ hw=>KW 3 hw (fun _ hw=>KR 12 hw b53) fun _ hw=>KI 7 a17 hw fun _ hw=>KC 1 hw m9t fun _ hw=>KW 3 hw (fun _ hw=>KR 12 hw b53) fun _ hw=>KD 4 []<|KW 3 hw (fun _ hw=>KI 2 a17 hw fun _ hw=>KI 5 a17 hw fun _ hw=>KJ 7 [] hw) fun _ hw=>KJ 16 [] hw) fun _ hw=>KR 11 hw b53
theorem b4r(l:(List F4))(target:Int)(r:Int)(hw:((decide (8<(l.length:Int)))=true->r=3)/\((decide (8<(l.length:Int)))=false->Q7 0 l target r)):a9s l target r:=
 fP (KL 9 a17 l<|KW 3 hw (fun _ hw=>KR 7 hw b53) fun _ hw=>KJ 10 [] hw)
theorem d9o(r:Int):plain (l7x r)=true:=rfl
def a4a(ij1:Int)(s:ByteArray)(r:Int):Prop:=JP Tryz.prog 215 (l7x r) 3 [(3,aI ij1),(0,aS s)]
theorem a48(ij1:Int)(s:ByteArray)(r:Int)(hw:((decide (ij1<(s.size:Int)))=true->∃y2,b2k s ij1 y2/\(((y2==0)=true->r=ij1)/\((y2==0)=false->a4a (wI (ij1+y2)) s r)))/\((decide (ij1<(s.size:Int)))=false->r=(-1))):a4a ij1 s r:=
 KW 10 hw (fun _ hw=>KC 7 hw l8m fun _ hw=>KW 10 hw (fun _ hw=>KR 12 hw d9o) fun _ hw=>KJ 10 [] hw) fun _ hw=>KR 11 hw d9o
theorem b8n(s:ByteArray)(r:Int)(hw:a4a 0 s r):c3h s r:=
 fP (KJ 13 [] hw)
theorem e1l(r:(C7 × Bool)):plain (l62 r)=true:=(b9g (B0 (H3 r.1) (B0 rfl rfl)))
def N0(ij1:Int)(l:(List C7))(is:GFn)(r:(C7 × Bool)):Prop:=J Tryz.prog 218 (.ret (l62 r)) 3 [(11,aI ij1),(10,aI (l.length:Int)),(9,.sl (List.map E0 l) .no),(4,.ptr 0 0),(1,.clo (.func is.fn) is.fi is.cap)] ⟨[some [aE,.nil,.nil]],[],[]⟩
theorem a4w{ij1:Int}{l:(List C7)}{is:GFn}:a6k [true] 0 [(11,aI ij1),(10,aI (l.length:Int)),(9,.sl (List.map E0 l) .no),(4,.ptr 0 0),(1,.clo (.func is.fn) is.fi is.cap)]=true/\a4t [true] 0 [some [aE,.nil,.nil]]=true:=⟨by first|rfl|simp,by first|rfl|simp⟩
theorem a3x(ij1:Int)(l:(List C7))(is:GFn)(r:(C7 × Bool))(hw:((decide (ij1<(l.length:Int)))=true->∃y3,l[ij1.toNat]? =some y3/\0<=ij1/\(∃y4,a5u Tryz.prog [] (.clo (.func is.fn) is.fi is.cap) [.agg (E0 y3)] (aB y4)/\((y4=true->r=(y3,true))/\(y4=false->N0 (wI (ij1+1)) l is r))))/\((decide (ij1<(l.length:Int)))=false->r=((⟨(⟨#[]⟩:ByteArray),([]:(List D8)),([]:(List F4))⟩:C7),false))):N0 ij1 l is r:=
 KW 7 hw (fun _ hw=>KI 6 W2 hw fun _ hw=>KF 9 hw fun _ hw=>KW 2 hw (fun _ hw=>KR 13 hw e1l) fun _ hw=>KJl 8 [] hw a4w) fun _ hw=>KR 18 hw e1l
theorem a58(l:(List C7))(is:GFn)(r:(C7 × Bool))(hw:N0 0 l is r):a4f l is r:=
 fP (KL 10 W2 l<|KJ 5 [] hw)
theorem k8h(r:Int):plain (n88 r)=true:=rfl
theorem b56(l:(List F4))(name:ByteArray)(r:Int)(hw:∃y1,T1 l (⟨345,[],[.elt [aS name] 0],by simp⟩:GFn) y1/\(r=y1)):b86 l name r:=
 fP (KFz 7 0 [false] 0 [(3,.elt [aS name] 0),(0,.sl (List.map E9 l) .no)] [none] ⟨by first|rfl|simp,by first|rfl|simp⟩<|KC 3 hw n57 fun _ hw=>KR 4 hw k8h)
theorem j3r(r:Bool):plain (n81 r)=true:=rfl
theorem b65(v:C0)(r:Bool)(hw:r=(((((v.List_.length:Int)==0)&&((v.Pairs.length:Int)==0))&&((v.Slots.length:Int)==0))&&((v.Raws.length:Int)==0))):b9n v r:=
 fP (KL 10 c0m v.List_<|KT2 2 5 ((v.List_.length:Int)==0) (fun z=>aB (z&&((v.Pairs.length:Int)==0))) (fun _ key=>KL 2 c5t v.Pairs<|KE2 2 key) (fun _ key=>KE2 5 key)<|KT2 1 5 (((v.List_.length:Int)==0)&&((v.Pairs.length:Int)==0)) (fun z=>aB (z&&((v.Slots.length:Int)==0))) (fun _ key=>KL 2 c6h v.Slots<|KE2 2 key) (fun _ key=>KE2 5 key)<|KT2 1 5 ((((v.List_.length:Int)==0)&&((v.Pairs.length:Int)==0))&&((v.Slots.length:Int)==0)) (fun z=>aB (z&&((v.Raws.length:Int)==0))) (fun _ key=>KL 2 d71 v.Raws<|KE2 2 key) (fun _ key=>KE2 5 key)<|KR 4 hw j3r)
theorem k3w(r:Bool):plain (n9w r)=true:=rfl
theorem b4h(kind:Int)(r:Bool)(hw:r=((kind==7)||(kind==8))):b7o kind r:=
 fP (KT 10 3<|KR 4 hw k3w)
theorem c1r(r:Int):plain (n8t r)=true:=rfl
theorem b4f(bits:Int)(r:Int)(hw:((decide (9218868437227405312<(bits.tmod 9223372036854775808)))=true->r=0)/\((decide (9218868437227405312<(bits.tmod 9223372036854775808)))=false->(((bits.tmod 9223372036854775808)==9218868437227405312)=true->r=1)/\(((bits.tmod 9223372036854775808)==9218868437227405312)=false->(((bits.tmod 9223372036854775808)==0)=true->r=2)/\(((bits.tmod 9223372036854775808)==0)=false->((decide ((bits.tmod 9223372036854775808)<4503599627370496))=true->r=3)/\((decide ((bits.tmod 9223372036854775808)<4503599627370496))=false->r=4))))):b0x bits r:=
 fP (KW 21 hw (fun _ hw=>KR 8 hw c1r) fun _ hw=>KW 7 hw (fun _ hw=>KR 8 hw c1r) fun _ hw=>KW 7 hw (fun _ hw=>KR 8 hw c1r) fun _ hw=>KW 7 hw (fun _ hw=>KR 8 hw c1r) fun _ hw=>KR 9 hw c1r)
theorem b9b(r:Int):plain (j5z r)=true:=rfl
def Q9(bj7:Bool)(name:ByteArray)(r:Int):Prop:=JP Tryz.prog 280 (j5z r) 12 [(13,aB bj7),(3,aS name)]
def Q6(bj6:Bool)(name:ByteArray)(r:Int):Prop:=JP Tryz.prog 280 (j5z r) 7 [(8,aB bj6),(3,aS name)]
def Z5(bj4:Bool)(name:ByteArray)(r:Int):Prop:=JP Tryz.prog 280 (j5z r) 3 [(4,aB bj4),(3,aS name)]
theorem b0y(bj7:Bool)(name:ByteArray)(r:Int)(hw:(bj7=true->r=4)/\(bj7=false->((decide (name=(⟨#[109,105,110]⟩:ByteArray)))=true->r=3)/\((decide (name=(⟨#[109,105,110]⟩:ByteArray)))=false->((decide (name=(⟨#[109,97,120]⟩:ByteArray)))=true->r=3)/\((decide (name=(⟨#[109,97,120]⟩:ByteArray)))=false->r=0)))):Q9 bj7 name r:=
 KW 0 hw (fun _ hw=>KR 8 hw b9b) fun _ hw=>KW 7 hw (fun hb49 hw=>KKn 2 hb49<|KR 8 hw b9b) fun hb49 hw=>KW 5 hw (fun _ hw=>KR 8 hw b9b) fun _ hw=>KR 9 hw b9b
theorem a94(bj6:Bool)(name:ByteArray)(r:Int)(hw:(bj6=true->r=7)/\(bj6=false->((decide (name=(⟨#[115,105,110,99,101]⟩:ByteArray)))=true->Q9 (decide (name=(⟨#[115,105,110,99,101]⟩:ByteArray))) name r)/\((decide (name=(⟨#[115,105,110,99,101]⟩:ByteArray)))=false->((decide (name=(⟨#[117,110,116,105,108]⟩:ByteArray)))=true->Q9 (decide (name=(⟨#[117,110,116,105,108]⟩:ByteArray))) name r)/\((decide (name=(⟨#[117,110,116,105,108]⟩:ByteArray)))=false->((decide (name=(⟨#[108,101,110,103,116,104]⟩:ByteArray)))=true->Q9 (decide (name=(⟨#[108,101,110,103,116,104]⟩:ByteArray))) name r)/\((decide (name=(⟨#[108,101,110,103,116,104]⟩:ByteArray)))=false->Q9 (decide (name=(⟨#[116,105,109,101,111,117,116]⟩:ByteArray))) name r))))):Q6 bj6 name r:=
 KW 0 hw (fun _ hw=>KR 8 hw b9b) fun _ hw=>KW 7 hw (fun _ hw=>KJ 2 [] hw) fun _ hw=>KW 6 hw (fun _ hw=>KJ 2 [] hw) fun _ hw=>KW 6 hw (fun _ hw=>KJ 2 [] hw) fun _ hw=>KJ 5 [] hw
theorem b12(bj4:Bool)(name:ByteArray)(r:Int)(hw:(bj4=true->r=1)/\(bj4=false->((decide (name=(⟨#[100,111,99]⟩:ByteArray)))=true->Q6 (decide (name=(⟨#[100,111,99]⟩:ByteArray))) name r)/\((decide (name=(⟨#[100,111,99]⟩:ByteArray)))=false->((decide (name=(⟨#[97,108,105,97,115]⟩:ByteArray)))=true->Q6 (decide (name=(⟨#[97,108,105,97,115]⟩:ByteArray))) name r)/\((decide (name=(⟨#[97,108,105,97,115]⟩:ByteArray)))=false->((decide (name=(⟨#[114,111,117,116,101]⟩:ByteArray)))=true->Q6 (decide (name=(⟨#[114,111,117,116,101]⟩:ByteArray))) name r)/\((decide (name=(⟨#[114,111,117,116,101]⟩:ByteArray)))=false->Q6 (decide (name=(⟨#[111,119,110,101,114]⟩:ByteArray))) name r))))):Z5 bj4 name r:=
 KW 0 hw (fun _ hw=>KR 8 hw b9b) fun _ hw=>KW 7 hw (fun _ hw=>KJ 2 [] hw) fun _ hw=>KW 6 hw (fun _ hw=>KJ 2 [] hw) fun _ hw=>KW 6 hw (fun _ hw=>KJ 2 [] hw) fun _ hw=>KJ 5 [] hw
theorem b58(name:ByteArray)(r:Int)(hw:((decide (name=(⟨#[100,101,112,114,101,99,97,116,101,100]⟩:ByteArray)))=true->Z5 (decide (name=(⟨#[100,101,112,114,101,99,97,116,101,100]⟩:ByteArray))) name r)/\((decide (name=(⟨#[100,101,112,114,101,99,97,116,101,100]⟩:ByteArray)))=false->((decide (name=(⟨#[115,101,99,114,101,116]⟩:ByteArray)))=true->Z5 (decide (name=(⟨#[115,101,99,114,101,116]⟩:ByteArray))) name r)/\((decide (name=(⟨#[115,101,99,114,101,116]⟩:ByteArray)))=false->Z5 (decide (name=(⟨#[105,100,101,109,112,111,116,101,110,116]⟩:ByteArray))) name r))):a8j name r:=
 fP (KW 19 hw (fun _ hw=>KJ 2 [] hw) fun _ hw=>KW 6 hw (fun _ hw=>KJ 2 [] hw) fun _ hw=>KJ 5 [] hw)
theorem c14(r:Bool):plain (h1g r)=true:=rfl
def W6(bj15:Bool)(target:Int)(r:Bool):Prop:=JP Tryz.prog 281 (h1g r) 15 [(36,aB bj15),(1,aI target)]
def R0(bj14:Bool)(name:ByteArray)(target:Int)(r:Bool):Prop:=JP Tryz.prog 281 (h1g r) 10 [(29,aB bj14),(5,aS name),(1,aI target)]
def W7(bj12:Bool)(name:ByteArray)(target:Int)(r:Bool):Prop:=JP Tryz.prog 281 (h1g r) 6 [(15,aB bj12),(5,aS name),(1,aI target)]
def a1h(bj8:Bool)(name:ByteArray)(target:Int)(r:Bool):Prop:=JP Tryz.prog 281 (h1g r) 3 [(6,aB bj8),(5,aS name),(1,aI target)]
theorem b0v(bj15:Bool)(target:Int)(r:Bool)(hw:(bj15=true->r=(target==6))/\(bj15=false->r=((target==1)||(target==5)))):W6 bj15 target r:=
 KW 0 hw (fun _ hw=>KR 10 hw c14) fun _ hw=>KT 8 3<|KR 4 hw c14
theorem b0g(bj14:Bool)(name:ByteArray)(target:Int)(r:Bool)(hw:(bj14=true->r=(target==2))/\(bj14=false->((decide (name=(⟨#[105,100,101,109,112,111,116,101,110,116]⟩:ByteArray)))=true->W6 (decide (name=(⟨#[105,100,101,109,112,111,116,101,110,116]⟩:ByteArray))) target r)/\((decide (name=(⟨#[105,100,101,109,112,111,116,101,110,116]⟩:ByteArray)))=false->((decide (name=(⟨#[116,105,109,101,111,117,116]⟩:ByteArray)))=true->W6 (decide (name=(⟨#[116,105,109,101,111,117,116]⟩:ByteArray))) target r)/\((decide (name=(⟨#[116,105,109,101,111,117,116]⟩:ByteArray)))=false->W6 (decide (name=(⟨#[114,111,117,116,101]⟩:ByteArray))) target r)))):R0 bj14 name target r:=
 KW 0 hw (fun _ hw=>KR 10 hw c14) fun _ hw=>KW 7 hw (fun _ hw=>KJ 2 [] hw) fun _ hw=>KW 6 hw (fun _ hw=>KJ 2 [] hw) fun _ hw=>KJ 5 [] hw
theorem a9t(bj12:Bool)(name:ByteArray)(target:Int)(r:Bool)(hw:(bj12=true->r=(((target==2)||(target==4))||(target==6)))/\(bj12=false->((decide (name=(⟨#[109,105,110]⟩:ByteArray)))=true->R0 (decide (name=(⟨#[109,105,110]⟩:ByteArray))) name target r)/\((decide (name=(⟨#[109,105,110]⟩:ByteArray)))=false->((decide (name=(⟨#[109,97,120]⟩:ByteArray)))=true->R0 (decide (name=(⟨#[109,97,120]⟩:ByteArray))) name target r)/\((decide (name=(⟨#[109,97,120]⟩:ByteArray)))=false->((decide (name=(⟨#[108,101,110,103,116,104]⟩:ByteArray)))=true->R0 (decide (name=(⟨#[108,101,110,103,116,104]⟩:ByteArray))) name target r)/\((decide (name=(⟨#[108,101,110,103,116,104]⟩:ByteArray)))=false->R0 (decide (name=(⟨#[115,101,99,114,101,116]⟩:ByteArray))) name target r))))):W7 bj12 name target r:=
 KW 0 hw (fun _ hw=>KT 5 3<|KT 1 3<|KR 6 hw c14) fun _ hw=>KW 7 hw (fun _ hw=>KJ 2 [] hw) fun _ hw=>KW 6 hw (fun _ hw=>KJ 2 [] hw) fun _ hw=>KW 6 hw (fun _ hw=>KJ 2 [] hw) fun _ hw=>KJ 5 [] hw
theorem a92(bj8:Bool)(name:ByteArray)(target:Int)(r:Bool)(hw:(bj8=true->r=((decide (1<=target))&&(decide (target<=6))))/\(bj8=false->((decide (name=(⟨#[97,108,105,97,115]⟩:ByteArray)))=true->W7 (decide (name=(⟨#[97,108,105,97,115]⟩:ByteArray))) name target r)/\((decide (name=(⟨#[97,108,105,97,115]⟩:ByteArray)))=false->((decide (name=(⟨#[115,105,110,99,101]⟩:ByteArray)))=true->W7 (decide (name=(⟨#[115,105,110,99,101]⟩:ByteArray))) name target r)/\((decide (name=(⟨#[115,105,110,99,101]⟩:ByteArray)))=false->W7 (decide (name=(⟨#[117,110,116,105,108]⟩:ByteArray))) name target r)))):a1h bj8 name target r:=
 KW 0 hw (fun _ hw=>KT 5 3<|KR 6 hw c14) fun _ hw=>KW 7 hw (fun _ hw=>KJ 2 [] hw) fun _ hw=>KW 6 hw (fun _ hw=>KJ 2 [] hw) fun _ hw=>KJ 5 [] hw
theorem b5s(name:ByteArray)(target:Int)(r:Bool)(hw:((decide (name=(⟨#[100,101,112,114,101,99,97,116,101,100]⟩:ByteArray)))=true->a1h (decide (name=(⟨#[100,101,112,114,101,99,97,116,101,100]⟩:ByteArray))) name target r)/\((decide (name=(⟨#[100,101,112,114,101,99,97,116,101,100]⟩:ByteArray)))=false->a1h (decide (name=(⟨#[100,111,99]⟩:ByteArray))) name target r)):b3q name target r:=
 fP (KW 19 hw (fun _ hw=>KJ 2 [] hw) fun _ hw=>KJ 5 [] hw)
theorem e1q(r:Bool):plain (n8m r)=true:=rfl
theorem b4m(n:F4)(r:Bool)(hw:∃y1,a8j n.Name y1/\((((y1 !=0)&&(n.Val.Kind==y1))=true->∃y2,a8o y1 n.Val y2/\(r=y2))/\(((y1 !=0)&&(n.Val.Kind==y1))=false->r=false))):b0n n r:=
 fP (KC 10 hw j8v fun _ hw=>KT 8 6<|KW 1 hw (fun _ hw=>KC 3 hw i2x fun _ hw=>KR 5 hw e1q) fun _ hw=>KR 9 hw e1q)
theorem a9h(r:Int):plain (n9d r)=true:=rfl
theorem b6x(s:ByteArray)(i:Int)(r:Int)(hw:(0<=i/\i<(s.size:Int))/\(((decide ((D0 s i.toNat)<128))=true->r=1)/\((decide ((D0 s i.toNat)<128))=false->∃R1:Bool->Prop,(∀bz1:Bool,R1 bz1->((bz1=true->r=2)/\(bz1=false->∃R2:Bool->Prop,(∀bz2:Bool,R2 bz2->(∃R3:Bool->Prop,(∀bz3:Bool,R3 bz3->((bz3=true->r=3)/\(bz3=false->∃R4:Bool->Prop,(∀bz4:Bool,R4 bz4->(∃R5:Bool->Prop,(∀bz5:Bool,R5 bz5->((bz5=true->r=3)/\(bz5=false->∃R6:Bool->Prop,(∀bz6:Bool,R6 bz6->((bz6=true->r=3)/\(bz6=false->∃R7:Bool->Prop,(∀bz7:Bool,R7 bz7->(∃R8:Bool->Prop,(∀bz8:Bool,R8 bz8->((bz8=true->r=4)/\(bz8=false->∃R9:Bool->Prop,(∀bz9:Bool,R9 bz9->((bz9=true->r=4)/\(bz9=false->∃R10:Bool->Prop,(∀bz10:Bool,R10 bz10->((bz10=true->∃y11,U4 s (wI (i+2)) 2 y11/\((y11=true->r=4)/\(y11=false->r=0)))/\(bz10=false->r=0)))/\((((D0 s i.toNat)==244)=true->∃y10,P0 s (wI (i+1)) 128 143 y10/\(R10 y10))/\(((D0 s i.toNat)==244)=false->R10 false)))))/\((((decide (241<=(D0 s i.toNat)))&&(decide ((D0 s i.toNat)<=243)))=true->∃y9,U4 s (wI (i+1)) 3 y9/\(R9 y9))/\(((decide (241<=(D0 s i.toNat)))&&(decide ((D0 s i.toNat)<=243)))=false->R9 false)))))/\((bz7=true->∃y8,U4 s (wI (i+2)) 2 y8/\(R8 y8))/\(bz7=false->R8 false))))/\((((D0 s i.toNat)==240)=true->∃y7,P0 s (wI (i+1)) 144 191 y7/\(R7 y7))/\(((D0 s i.toNat)==240)=false->R7 false)))))/\(((((decide (225<=(D0 s i.toNat)))&&(decide ((D0 s i.toNat)<=239)))&&((D0 s i.toNat) !=237))=true->∃y6,U4 s (wI (i+1)) 2 y6/\(R6 y6))/\((((decide (225<=(D0 s i.toNat)))&&(decide ((D0 s i.toNat)<=239)))&&((D0 s i.toNat) !=237))=false->R6 false)))))/\((bz4=true->∃y5,U4 s (wI (i+2)) 1 y5/\(R5 y5))/\(bz4=false->R5 false))))/\((((D0 s i.toNat)==237)=true->∃y4,P0 s (wI (i+1)) 128 159 y4/\(R4 y4))/\(((D0 s i.toNat)==237)=false->R4 false)))))/\((bz2=true->∃y3,U4 s (wI (i+2)) 1 y3/\(R3 y3))/\(bz2=false->R3 false))))/\((((D0 s i.toNat)==224)=true->∃y2,P0 s (wI (i+1)) 160 191 y2/\(R2 y2))/\(((D0 s i.toNat)==224)=false->R2 false)))))/\((((decide (194<=(D0 s i.toNat)))&&(decide ((D0 s i.toNat)<=223)))=true->∃y1,U4 s (wI (i+1)) 1 y1/\(R1 y1))/\(((decide (194<=(D0 s i.toNat)))&&(decide ((D0 s i.toNat)<=223)))=false->R1 false))))):b2k s i r:=
 fP (KIS 9 hw fun hw=>KW 12 hw (fun _ hw=>KR 8 hw a9h) fun _ hw=>KT 5 3<|KQ 1 5 kB hw (fun _ hw=>KW 3 hw (fun _ hw=>KR 8 hw a9h) fun _ hw=>KQ 5 5 kB hw (fun _ hw=>KQ 1 5 kB hw (fun _ hw=>KW 3 hw (fun _ hw=>KR 8 hw a9h) fun _ hw=>KQ 5 5 kB hw (fun _ hw=>KQ 1 5 kB hw (fun _ hw=>KW 3 hw (fun _ hw=>KR 8 hw a9h) fun _ hw=>KT 5 3<|KT 1 3<|KQ 1 5 kB hw (fun _ hw=>KW 3 hw (fun _ hw=>KR 8 hw a9h) fun _ hw=>KQ 5 5 kB hw (fun _ hw=>KQ 1 5 kB hw (fun _ hw=>KW 3 hw (fun _ hw=>KR 8 hw a9h) fun _ hw=>KT 5 3<|KQ 1 5 kB hw (fun _ hw=>KW 3 hw (fun _ hw=>KR 8 hw a9h) fun _ hw=>KQ 5 5 kB hw (fun _ hw=>KW 1 hw (fun _ hw=>KC 3 hw c4i fun _ hw=>KW 4 hw (fun _ hw=>KR 8 hw a9h) fun _ hw=>KR 9 hw a9h) fun _ hw=>KR 18 hw a9h) (fun _ key _ hw=>KC 3 hw d2y fun _ hw=>KE 1 key hw) fun _ key _ hw=>KE 5 key hw) (fun _ key _ hw=>KC 3 hw c4i fun _ hw=>KE 1 key hw) fun _ key _ hw=>KE 5 key hw) (fun _ key _ hw=>KC 3 hw c4i fun _ hw=>KE 1 key hw) fun _ key _ hw=>KE 5 key hw) (fun _ key _ hw=>KC 3 hw d2y fun _ hw=>KE 1 key hw) fun _ key _ hw=>KE 5 key hw) (fun _ key _ hw=>KC 3 hw c4i fun _ hw=>KE 1 key hw) fun _ key _ hw=>KE 5 key hw) (fun _ key _ hw=>KC 3 hw c4i fun _ hw=>KE 1 key hw) fun _ key _ hw=>KE 5 key hw) (fun _ key _ hw=>KC 3 hw d2y fun _ hw=>KE 1 key hw) fun _ key _ hw=>KE 5 key hw) (fun _ key _ hw=>KC 3 hw c4i fun _ hw=>KE 1 key hw) fun _ key _ hw=>KE 5 key hw) (fun _ key _ hw=>KC 3 hw d2y fun _ hw=>KE 1 key hw) fun _ key _ hw=>KE 5 key hw) (fun _ key _ hw=>KC 3 hw c4i fun _ hw=>KE 1 key hw) fun _ key _ hw=>KE 5 key hw)
theorem e4t(r:Int):plain (m5z r)=true:=rfl
def G8(ij1:Int)(s:(List F4))(f:GFn)(r:Int):Prop:=JP Tryz.prog 344 (m5z r) 3 [(8,aI ij1),(7,aI (s.length:Int)),(0,.sl (List.map E9 s) .no),(1,.clo (.func f.fn) f.fi f.cap)]
theorem Y4(ij1:Int)(s:(List F4))(f:GFn)(r:Int)(hw:((decide (ij1<(s.length:Int)))=true->∃y3,s[ij1.toNat]? =some y3/\0<=ij1/\(∃y4,a5u Tryz.prog [] (.clo (.func f.fn) f.fi f.cap) [.agg (E9 y3)] (aB y4)/\((y4=true->r=ij1)/\(y4=false->G8 (wI (ij1+1)) s f r))))/\((decide (ij1<(s.length:Int)))=false->r=(-1))):G8 ij1 s f r:=
 KW 7 hw (fun _ hw=>KI 15 a17 hw fun _ hw=>KF 1 hw fun _ hw=>KW 2 hw (fun _ hw=>KR 12 hw e4t) fun _ hw=>KJ 8 [] hw) fun _ hw=>KR 11 hw e4t
theorem a0u(s:(List F4))(f:GFn)(r:Int)(hw:G8 0 s f r):T1 s f r:=
 fP (KL 9 a17 s<|KJ 5 [] hw)
theorem e2z(r:Bool):plain (l9n r)=true:=rfl
def a2r(ij1:Int)(s:ByteArray)(i:Int)(n:Int)(r:Bool):Prop:=JP Tryz.prog 359 (l9n r) 3 [(7,aI ij1),(0,aS s),(1,aI i),(2,aI n)]
theorem a4n(ij1:Int)(s:ByteArray)(i:Int)(n:Int)(r:Bool)(hw:((decide (ij1<n))=true->∃y2,P0 s (wI (i+ij1)) 128 191 y2/\(((!y2)=true->r=false)/\((!y2)=false->a2r (wI (ij1+1)) s i n r)))/\((decide (ij1<n))=false->r=true)):a2r ij1 s i n r:=
 KW 9 hw (fun _ hw=>KC 10 hw d2y fun _ hw=>KW 3 hw (fun _ hw=>KR 11 hw e2z) fun _ hw=>KJ 9 [] hw) fun _ hw=>KR 11 hw e2z
theorem b7h(s:ByteArray)(i:Int)(n:Int)(r:Bool)(hw:a2r 0 s i n r):U4 s i n r:=
 fP (KJ 13 [] hw)
theorem e2l(r:Bool):plain (n9a r)=true:=rfl
theorem b10(s:ByteArray)(i:Int)(lo:Int)(hi:Int)(r:Bool)(hw:∃R1:Bool->Prop,(∀bz1:Bool,R1 bz1->((bz1=true->(0<=i/\i<(s.size:Int))/\(r=(decide ((D0 s i.toNat)<=hi))))/\(bz1=false->r=false)))/\(((decide (i<(s.size:Int)))=true->(0<=i/\i<(s.size:Int))/\(R1 (decide (lo<=(D0 s i.toNat)))))/\((decide (i<(s.size:Int)))=false->R1 false))):P0 s i lo hi r:=
 fP (KQ 12 6 kB hw (fun _ hw=>KW 1 hw (fun _ hw=>KIS 2 hw fun hw=>KR 7 hw e2l) fun _ hw=>KR 10 hw e2l) (fun _ key _ hw=>KIS 2 hw fun hw=>KE 3 key hw) fun _ key _ hw=>KE 6 key hw)
theorem m8r(r:Bool):plain (e25 r)=true:=rfl
theorem a83(mg:Int)(old:B5)(c1_:B5)(r:Bool)(hw:∃y1,a3h mg old c1_ y1/\(r=y1)):a27 mg old c1_ r:=
 fP (KC 10 hw o23 fun _ hw=>KR 4 hw m8r)
theorem a90(mg:Int)(old:B5)(c1_:B5)(r:Bool)(h:a27 mg old c1_ r):a5u Tryz.prog (GLm mg) (.clo (.func 25) [] [.elt (C1 c1_) 0]) [.agg (C1 old)] (aB r):=⟨25,[],[.elt (C1 c1_) 0],rfl,(show plainL [.agg (C1 old),.elt (C1 c1_) 0]=true by simp),h⟩
theorem n36(r:Bool):plain (e57 r)=true:=rfl
theorem a4x(n:(List Int))(c1_:B3)(r:Bool)(hw:∃y1,n[(0:Int).toNat]? =some y1/\0<=(0:Int)/\(r=(y1==c1_.Num))):V6 n c1_ r:=
 fP (KD 6 []<|KI 1 b6g hw fun _ hw=>KR 9 hw n36)
theorem a5l(n:(List Int))(c1_:B3)(r:Bool)(h:V6 n c1_ r):a5u Tryz.prog [] (.clo (.func 57) [] [.elt (C2 c1_) 0]) [.sl (List.map F9 n) .no] (aB r):=⟨57,[],[.elt (C2 c1_) 0],rfl,(show plainL [.sl (List.map F9 n) .no,.elt (C2 c1_) 0]=true by simp),h⟩
theorem j71(r:Bool):plain (n80 r)=true:=rfl
theorem a12(old:(List Int))(c1_:(List Int))(r:Bool)(hw:∃y1,T4 old c1_ y1/\(r=y1)):Z1 old c1_ r:=
 fP (KC 9 hw n4a fun _ hw=>KR 4 hw j71)
theorem a2s(old:(List Int))(c1_:(List Int))(r:Bool)(h:Z1 old c1_ r):a5u Tryz.prog [] (.clo (.func 120) [] [.elt ((eL F9) c1_) 0]) [.sl (List.map F9 old) .no] (aB r):=⟨120,[],[.elt ((eL F9) c1_) 0],rfl,(show plainL [.sl (List.map F9 old) .no,.elt ((eL F9) c1_) 0]=true by simp),h⟩
theorem i0y(r:Bool):plain (n89 r)=true:=rfl
theorem b1r(m:D8)(c1_:ByteArray)(r:Bool)(hw:r=(decide (m.Name=c1_))):b2a m c1_ r:=
 fP (KR 16 hw i0y)
theorem b2f(m:D8)(c1_:ByteArray)(r:Bool)(h:b2a m c1_ r):a5u Tryz.prog [] (.clo (.func 154) [] [.elt (L9 c1_) 0]) [.agg (H6 m)] (aB r):=⟨154,[],[.elt (L9 c1_) 0],rfl,(show plainL [.agg (H6 m),.elt (L9 c1_) 0]=true by simp),h⟩
theorem l34(r:Bool):plain (n8v r)=true:=rfl
theorem b0h(m:B2)(c1_:ByteArray)(r:Bool)(hw:r=(decide (m.Name=c1_))):a89 m c1_ r:=
 fP (KR 16 hw l34)
theorem b1f(m:B2)(c1_:ByteArray)(r:Bool)(h:a89 m c1_ r):a5u Tryz.prog [] (.clo (.func 166) [] [.elt (L9 c1_) 0]) [.agg (C4 m)] (aB r):=⟨166,[],[.elt (L9 c1_) 0],rfl,(show plainL [.agg (C4 m),.elt (L9 c1_) 0]=true by simp),h⟩
theorem i51(r:Bool):plain (n9s r)=true:=rfl
theorem a61(f:B3)(c1_:ByteArray)(r:Bool)(hw:r=(decide (f.Name=c1_))):a5j f c1_ r:=
 fP (KR 16 hw i51)
theorem a7p(f:B3)(c1_:ByteArray)(r:Bool)(h:a5j f c1_ r):a5u Tryz.prog [] (.clo (.func 198) [] [.elt (L9 c1_) 0]) [.agg (C2 f)] (aB r):=⟨198,[],[.elt (L9 c1_) 0],rfl,(show plainL [.agg (C2 f),.elt (L9 c1_) 0]=true by simp),h⟩
theorem k25(r:Bool):plain (n8n r)=true:=rfl
theorem a6v(f:B3)(c1_:ByteArray)(r:Bool)(hw:∃y1,b30 f.Notes c1_ y1/\(r=y1)):a5f f c1_ r:=
 fP (KC 11 hw n1h fun _ hw=>KR 4 hw k25)
theorem a75(f:B3)(c1_:ByteArray)(r:Bool)(h:a5f f c1_ r):a5u Tryz.prog [] (.clo (.func 199) [] [.elt (L9 c1_) 0]) [.agg (C2 f)] (aB r):=⟨199,[],[.elt (L9 c1_) 0],rfl,(show plainL [.agg (C2 f),.elt (L9 c1_) 0]=true by simp),h⟩
theorem k96(r:Bool):plain (n9l r)=true:=rfl
theorem b00(v:C7)(c1_:ByteArray)(r:Bool)(hw:r=(decide (v.Name=c1_))):a88 v c1_ r:=
 fP (KR 16 hw k96)
theorem b1b(v:C7)(c1_:ByteArray)(r:Bool)(h:a88 v c1_ r):a5u Tryz.prog [] (.clo (.func 219) [] [.elt (L9 c1_) 0]) [.agg (E0 v)] (aB r):=⟨219,[],[.elt (L9 c1_) 0],rfl,(show plainL [.agg (E0 v),.elt (L9 c1_) 0]=true by simp),h⟩
theorem j4p(r:Bool):plain (n9p r)=true:=rfl
theorem b21(n:F4)(c1_:ByteArray)(r:Bool)(hw:r=(decide (n.Name=c1_))):b3y n c1_ r:=
 fP (KR 16 hw j4p)
theorem b4n(n:F4)(c1_:ByteArray)(r:Bool)(h:b3y n c1_ r):a5u Tryz.prog [] (.clo (.func 345) [] [.elt (L9 c1_) 0]) [.agg (E9 n)] (aB r):=⟨345,[],[.elt (L9 c1_) 0],rfl,(show plainL [.agg (E9 n),.elt (L9 c1_) 0]=true by simp),h⟩
end
section
open Go.RowKit Go.ChangeShapes Go.WideShapes Go.ChangeAt
def TyV(P:Program)(n:Nat)(t:TypeId)(av:AV):Prop:=
 match P.underlying t with
 |some (.struct _)|some (.array _ _)=>∃avs,av=.agg avs/\Ty P n t avs
 |_=>Ty P n t [av]
theorem c20{σ:Sg}{avs:List AV}{cs:Array Value}(h:D2 σ avs cs.toList):Rel σ (.agg avs) (.agg cs):=by
 refine .agg avs cs (by simpa using h.1) (fun i av hi=>(h.2 i av hi).1) (fun i=>cs.toList[i]?.getD (.bool false)) (fun i av hi=>?_) (fun i av hi=>?_)
 ·obtain⟨_,x,hx,_⟩:=h.2 i av hi;rw[hx];simpa using hx
 ·obtain⟨_,x,hx,hr⟩:=h.2 i av hi;rw[hx];exact hr
theorem b1z{σ:Sg}{av:AV}{v:Value}(h:D2 σ [av] v.cells.toList)(hv:∀cs,v≠.agg cs):Rel σ av v:=by
 obtain⟨_,x,hx,hr⟩:=h.2 0 av rfl;cases v with
 |agg cs=>exact absurd rfl (hv cs)
 |_=>simp[Value.cells]at hx;subst hx;exact hr
section
variable {H:Type}{enc:TypeId × Value->H}{P:Program}{W:World}{base b0:Nat}{spare:Nat->Bool}{held:Bool}
theorem b1k{ts:List TypeId}(ok:c39 P ts=true){t:TypeId}(ht:t∈ts){v:Value}{d:DataW H}{p:List MemPlace}(hval:Value.okWide P W .any b0 t v)(h:DataW.Trod enc P W base spare held t v d p)(hw:N7 P t d):
  ∃n av,Rel (bare W a0e) av v/\TyV P n t av/\plain av=true:=by
 obtain⟨m,hm⟩:=h;obtain⟨avs,hc,hty,hpl⟩:=c8t ok m t _ _ ht hm hw;cases m with
 |zero=>simp[DataW.trod]at hm
 |succ m=>
  have hok:=List.all_eq_true.1 ok t ht;unfold okT at hok;unfold TyV;unfold Value.okWide at hval;split at hok
  ·rename_i k hu;rw[hu]at hval;simp only[Cell.okWide,hu,Cell.ok]at hval;have h2:=hty;unfold Ty at h2;rw[hu]at h2;obtain⟨x,rfl,_⟩:=h2;refine⟨m+1,_,b1z hc (fun cs he=>by subst he;simp at hval),by rw[hu];exact hty,rfl⟩
  ·rename_i hu;rw[hu]at hval;simp only[Cell.okWide,hu,Cell.ok]at hval;have h2:=hty;unfold Ty at h2;rw[hu]at h2;obtain⟨x,rfl⟩:=h2;refine⟨m+1,_,b1z hc (fun cs he=>by subst he;simp at hval),by rw[hu];exact hty,rfl⟩
  ·rename_i hu;rw[hu]at hval;simp only[Cell.okWide,hu,Cell.ok]at hval;have h2:=hty;unfold Ty at h2;rw[hu]at h2;obtain⟨x,rfl,_⟩:=h2;refine⟨m+1,_,b1z hc (fun cs he=>by subst he;simp at hval),by rw[hu];exact hty,rfl⟩
  ·rename_i e hu;rw[hu]at hval;simp only[Cell.okWide,hu,Cell.ok]at hval;have h2:=hty;unfold Ty at h2;rw[hu]at h2;obtain⟨x,rfl,_⟩:=h2;refine⟨m+1,_,b1z hc (fun cs he=>by subst he;simp at hval),by rw[hu];exact hty,by simpa[plainL]using hpl⟩
  ·rename_i fs hu;rw[hu]at hval;obtain⟨cs,rfl,_⟩:=hval;exact⟨m+1,.agg avs,c20 hc,by rw[hu];exact⟨avs,rfl,hty⟩,hpl⟩
  ·rename_i k e hu;rw[hu]at hval;obtain⟨cs,rfl,_⟩:=hval;exact⟨m+1,.agg avs,c20 hc,by rw[hu];exact⟨avs,rfl,hty⟩,hpl⟩
  ·cases hok
end
def f9w(P:Program)(t:TypeId):List TypeId:=
 match P.underlying t with
 |some (.slice e)=>[e]
 |some (.struct fs)=>fs.toList.map (·.type)
 |some (.array _ e)=>[e]
 |_=>[]
def c6y:List TypeId->List TypeId->List TypeId
 |l,[]=>l
 |l,t::r=>c6y (if l.contains t then l else l++[t]) r
def c2f(P:Program):Nat->List TypeId->List TypeId
 |0,l=>l
 |n+1,l=>c2f P n (c6y l (l.flatMap (f9w P)))
theorem c3n(σ:Sg):b39 σ [] []:=⟨rfl,fun i av h=>by simp at h⟩
theorem a47{σ:Sg}{a:AV}{v:Value}{l:List AV}{xs:List Value}(h:Rel σ a v)(hr:b39 σ l xs):b39 σ (a::l) (v::xs):=by
 refine⟨by simp[hr.1],fun i av hi=>?_⟩;cases i with
 |zero=>simp at hi;subst hi;exact⟨v,rfl,h⟩
 |succ i=>obtain⟨x,h1,h2⟩:=hr.2 i av (by simpa using hi);exact⟨x,by simpa using h1,h2⟩
theorem g6r{av:AV}(h:nz av=.v (.bool true)):av=.v (.bool true):=by
 cases av with
 |v x=>simpa[nz,nzA,nz1]using h
 |_=>simp[nz,nzA,nz1]at h
end
def I64(n:Int):Prop:= -9223372036854775808<=n/\n<=9223372036854775807
def U64(n:Int):Prop:=0<=n/\n<18446744073709551616
def Sz(n:Nat):Prop:=n<=140737488351232
structure f1p(x:c7z):Prop where
 num:I64 x.Num
 wire:I64 x.Wire
 bits:U64 x.Bits
 data:Sz x.Data.size
inductive OkD:C0->Prop
 |mk (v:C0) (k:I64 v.Kind) (b:U64 v.Bits) (t:Sz v.Text.size) (l:Sz v.List_.length) (p:Sz v.Pairs.length) (s:Sz v.Slots.length) (r:Sz v.Raws.length)
  (hl:∀x∈v.List_,OkD x) (hk:∀x∈v.Pairs,OkD x.1) (hv:∀x∈v.Pairs,OkD x.2) (hn:∀x∈v.Slots,I64 x.1) (hs:∀x∈v.Slots,OkD x.2) (hr:∀x∈v.Raws,f1p x) (w:Sz (v.List_.length*128)/\Sz (v.Pairs.length*256)/\Sz (v.Slots.length*136)/\Sz (v.Raws.length*40)):OkD v
section
variable {P:Program}{n:Nat}{t:TypeId}{avs:List AV}
def TyL(P:Program)(m:Nat):List TypeId->List AV->Prop
 |[],avs=>avs=[]
 |t::ts,avs=>∃a b,avs=a++b/\Ty P m t a/\TyL P m ts b
theorem d94{m:Nat}:∀(fs:List Field) (parts:List (List AV)),parts.length=fs.length->(∀(i:Nat) (f:Field),fs[i]? =some f->∃p,parts[i]? =some p/\Ty P m f.type p)->TyL P m (fs.map (·.type)) parts.flatten
 |[],[],_,_=>rfl
 |[],_::_,h,_=>by cases h
 |_::_,[],h,_=>by cases h
 |f::fs,p::parts,hl,h=>by
  obtain⟨q,hq,hty⟩:=h 0 f rfl;cases hq;exact⟨p,parts.flatten,by simp,hty,d94 fs parts (by simpa using hl) fun i g hg=>h (i+1) g (by simpa using hg)⟩
def a8r(P:Program)(t:TypeId):Option (List TypeId):=match P.underlying t with|some (.struct fs)=>some (fs.toList.map (·.type))|_=>none
theorem a9r{ts:List TypeId}(hu:a8r P t=some ts)(h:Ty P n t avs):∃m,n=m+1/\TyL P m ts avs:=by
 cases n with
 |zero=>exact absurd h (by unfold Ty;exact id)
 |succ m=>
  unfold a8r at hu;unfold Ty at h;split at hu
  ·rename_i fs hfs;rw[hfs]at h;obtain⟨parts,rfl,hl,hp⟩:=h;cases hu;exact⟨m,rfl,d94 fs.toList parts (by simpa using hl) (fun i f hf=>hp i f (by simpa using hf))⟩
  ·cases hu
theorem d9u{k:IntKind}(hu:P.underlying t=some (.int k))(h:Ty P n t avs):∃m,avs=[.v (.int k m)]/\(Lit.int k m).wf=true:=by
 cases n with
 |zero=>exact absurd h (by unfold Ty;exact id)
 |succ m=>unfold Ty at h;rw[hu]at h;exact h
theorem a6t(hu:P.underlying t=some (.int .i64))(h:Ty P n t avs):∃m,avs=[.v (.int .i64 m)]/\I64 m:=by
 obtain⟨m,h1,h2⟩:=d9u hu h;refine⟨m,h1,?_⟩;simp only[Lit.wf,Bool.and_eq_true,decide_eq_true_eq]at h2;exact h2
theorem e1c(hu:P.underlying t=some (.int .u64))(h:Ty P n t avs):∃m,avs=[.v (.int .u64 m)]/\U64 m:=by
 obtain⟨m,h1,h2⟩:=d9u hu h;refine⟨m,h1,?_⟩;simp only[Lit.wf,Bool.and_eq_true,decide_eq_true_eq]at h2;have e1:IntKind.u64.min=0:=by decide
 have e2:IntKind.u64.max=18446744073709551615:=by decide
 unfold U64;omega
theorem d2w(hu:P.underlying t=some .bool)(h:Ty P n t avs):∃b,avs=[.v (.bool b)]:=by
 cases n with
 |zero=>exact absurd h (by unfold Ty;exact id)
 |succ m=>unfold Ty at h;rw[hu]at h;exact h
theorem Z0(hu:P.underlying t=some .string)(h:Ty P n t avs):∃s:ByteArray,avs=[.v (.string s)]/\Sz s.size:=by
 cases n with
 |zero=>exact absurd h (by unfold Ty;exact id)
 |succ m=>unfold Ty at h;rw[hu]at h;exact h
theorem b81{e:TypeId}{G:Type}{enc:G->List AV}{Ok:G->Prop}(hu:P.underlying t=some (.slice e)){w:Nat}(hw:P.bytesOf e=w)(hb:1<=P.bytesOf e)(hel:∀m avs,m<n->Ty P m e avs->∃x,avs=enc x/\Ok x)(h:Ty P n t avs):∃l:List G,avs=[.sl (l.map enc) .no]/\(Sz l.length/\Sz (l.length*w))/\∀x∈l,Ok x:=by
 cases n with
 |zero=>exact absurd h (by unfold Ty;exact id)
 |succ m=>
  unfold Ty at h;rw[hu]at h;obtain⟨els,rfl,hl,hty⟩:=h;have hn:els.length<=140737488351232:=Nat.le_trans (Nat.le_mul_of_pos_right _ hb) hl
  have:∀els:List (List AV),(∀el∈els,Ty P m e el)->∃l:List G,els=l.map enc/\∀x∈l,Ok x:=by
   intro els
   induction els with
   |nil=>exact fun _=>⟨[],rfl,fun x h=>by cases h⟩
   |cons a els ih=>
    intro h;obtain⟨l,rfl,hl⟩:=ih fun el hel=>h el (List.mem_cons_of_mem _ hel)
    obtain⟨x,rfl,hx⟩:=hel m a (Nat.lt_succ_self m) (h a List.mem_cons_self);exact⟨x::l,rfl,fun y hy=>(List.mem_cons.1 hy).elim (fun e=>e▸hx) (hl y)⟩
  obtain⟨l,rfl,hok⟩:=this els hty;exact⟨l,rfl,⟨by simpa[Sz]using hn,by subst hw;simpa[Sz]using hl⟩,hok⟩
theorem b0u{e:TypeId}{G:Type}{enc:G->List AV}{Ok:G->Prop}(hu:P.underlying t=some (.slice e))(hb:1<=P.bytesOf e)(hel:∀m avs,m<n->Ty P m e avs->∃x,avs=enc x/\Ok x)(h:Ty P n t avs):∃l:List G,avs=[.sl (l.map enc) .no]/\Sz l.length/\∀x∈l,Ok x:=by
 obtain⟨l,h1,h2,h3⟩:=b81 hu rfl hb hel h;exact⟨l,h1,h2.1,h3⟩
theorem k2w{av:AV}{ts:List TypeId}(hu:a8r P t=some ts)(h:TyV P n t av):∃avs,av=.agg avs/\Ty P n t avs:=by
 unfold TyV at h;unfold a8r at hu;split at hu
 ·rename_i fs hfs;rw[hfs]at h;exact h
 ·cases hu
end
section
variable {n:Nat}{avs:List AV}{av:AV}
theorem h8h(h:Ty Tryz.prog n 192 avs):∃x,avs=a6z x/\f1p x:=by
 obtain⟨m,rfl,a1,b1,rfl,h1,a2,b2,rfl,h2,a3,b3,rfl,h3,a4,b4,rfl,h4,rfl⟩:=a9r (ts:=[3,3,48,9]) (by kernel_rfl) h;obtain⟨x1,rfl,k1⟩:=a6t (by kernel_rfl) h1;obtain⟨x2,rfl,k2⟩:=a6t (by kernel_rfl) h2;obtain⟨x3,rfl,k3⟩:=e1c (by kernel_rfl) h3;obtain⟨x4,rfl,k4⟩:=Z0 (by kernel_rfl) h4;exact⟨⟨x1,x2,x3,x4⟩,rfl,⟨k1,k2,k3,k4⟩⟩
theorem c61:∀(n:Nat) (avs:List AV),Ty Tryz.prog n 54 avs->∃x,avs=H2 x/\OkD x:=by
 intro n
 induction n using Nat.strongRecOn with
 |_ n ih=>
  intro avs h;obtain⟨m,rfl,a1,b1,rfl,h1,a2,b2,rfl,h2,a3,b3,rfl,h3,a4,b4,rfl,h4,a5,b5,rfl,h5,a6,b6,rfl,h6,a7,b7,rfl,h7,rfl⟩:=a9r (ts:=[3,48,9,49,50,51,52]) (by kernel_rfl) h;obtain⟨x1,rfl,k1⟩:=a6t (by kernel_rfl) h1;obtain⟨x2,rfl,k2⟩:=e1c (by kernel_rfl) h2;obtain⟨x3,rfl,k3⟩:=Z0 (by kernel_rfl) h3;obtain⟨x4,rfl,⟨n4,w4⟩,k4⟩:=b81 (w:=128) (e:=54) (enc:=H2) (Ok:=OkD) (by kernel_rfl) (by kernel_rfl) (of_decide_eq_true (by kernel_rfl)) (fun k a hk ha=>ih k (by omega) a ha) h4
  obtain⟨x5,rfl,⟨n5,w5⟩,k5⟩:=b81 (w:=256) (e:=269) (enc:=S7) (Ok:=fun x=>OkD x.1/\OkD x.2) (by kernel_rfl) (by kernel_rfl) (of_decide_eq_true (by kernel_rfl)) (fun k a hk ha=>by
   obtain⟨q,rfl,a1,b1,rfl,h1,a2,b2,rfl,h2,rfl⟩:=a9r (ts:=[54,54]) (by kernel_rfl) ha;obtain⟨y1,rfl,z1⟩:=ih q (by omega) _ h1;obtain⟨y2,rfl,z2⟩:=ih q (by omega) _ h2;exact⟨(y1,y2),by simp[S7],z1,z2⟩) h5
  obtain⟨x6,rfl,⟨n6,w6⟩,k6⟩:=b81 (w:=136) (e:=67) (enc:=T8) (Ok:=fun x=>I64 x.1/\OkD x.2) (by kernel_rfl) (by kernel_rfl) (of_decide_eq_true (by kernel_rfl)) (fun k a hk ha=>by
   obtain⟨q,rfl,a1,b1,rfl,h1,a2,b2,rfl,h2,rfl⟩:=a9r (ts:=[3,54]) (by kernel_rfl) ha;obtain⟨y1,rfl,z1⟩:=a6t (by kernel_rfl) h1;obtain⟨y2,rfl,z2⟩:=ih q (by omega) _ h2;exact⟨(y1,y2),by simp[T8],z1,z2⟩) h6
  obtain⟨x7,rfl,⟨n7,w7⟩,k7⟩:=b81 (w:=40) (e:=192) (enc:=a6z) (Ok:=f1p) (by kernel_rfl) (by kernel_rfl) (of_decide_eq_true (by kernel_rfl)) (fun k a hk ha=>h8h ha) h7;refine⟨⟨x1,x2,x3,x4,x5,x6,x7⟩,?_,.mk _ k1 k2 k3 n4 n5 n6 n7 k4 (fun x hx=>(k5 x hx).1) (fun x hx=>(k5 x hx).2) (fun x hx=>(k6 x hx).1) (fun x hx=>(k6 x hx).2) k7 ⟨w4,w5,w6,w7⟩⟩;rw[L4];rfl
theorem n8w(h:TyV Tryz.prog n 9 av):∃x:ByteArray,av=.v (.string x)/\Sz x.size:=by
 have hu:Tryz.prog.underlying 9=some .string:=by kernel_rfl
 unfold TyV at h;rw[hu]at h;obtain⟨x,hx,k⟩:=Z0 hu h;exact⟨x,by simpa using hx,k⟩
end
set_option maxHeartbeats 1000000 in
set_option maxRecDepth 100000 in
theorem d0x(b:Nat)(w:World)(h0:w.cell? ⟨b,0,none⟩=some (.pointer (some ⟨b,0,none⟩))):
  Calls Tryz.prog 106 #[.pointer (some ⟨b,0,none⟩)] w fun e w'=>e=.returned (.tuple #[])/\w'=w:=by
 obtain⟨j,hj,_⟩:=Option.map_eq_some_iff.1 (show((Tryz.prog).info? 121).map (·.size)=some 2 by kernel_rfl)
 go_enter Tryz.func106,Tryz.ntmps106
 go_wp2
 rw[Lib.run_neq_ptr_same w _ Tryz.underlying118 hj]
 go_wp2
 go_end0
 exact⟨rfl,rfl⟩
set_option maxHeartbeats 1000000 in
set_option maxRecDepth 100000 in
theorem c5x(b:Nat)(w:World)(h0:w.cell? ⟨b,0,none⟩=some (.pointer none))(hsh:w.shape? b=some (121,2))(hfz:w.frozen? ⟨b,0,none⟩=false):
  Calls Tryz.prog 106 #[.pointer (some ⟨b,0,none⟩)] w fun e w'=>e=.returned (.tuple #[])/\w'=w.setCell ⟨b,0,none⟩ (.pointer (some ⟨b,0,none⟩)):=by
 obtain⟨j,hj,hjs⟩:=Option.map_eq_some_iff.1 (show((Tryz.prog).info? 121).map (·.size)=some 2 by kernel_rfl);have hlies:liesAt Tryz.prog (Tryz.prog).depth 121 (2 / (Tryz.prog).cellsOf 121) 0 121 1=true:=by kernel_rfl
 go_enter Tryz.func106,Tryz.ntmps106
 go_wp2
 rw[Lib.run_to_unsafe w ⟨b,0,none⟩ Tryz.underlying118 Tryz.underlying275 hj (by rw[hjs];decide) hsh (Nat.zero_lt_succ 1)];simp only[Result.andThen];rw[Oper.upon_value]
 go_wp2
 rw[run_callFunc_extern Tryz.func186 (by kernel_rfl) (by kernel_rfl) (by kernel_rfl) (e:=Extern.AbiNoEscape.same) (by kernel_rfl)];rw[Lib.run_noEscape];simp only[Result.andThen];rw[Oper.upon_value]
 go_wp2
 rw[Lib.run_from_unsafe w ⟨b,0,none⟩ Tryz.underlying275 Tryz.underlying118 hj hsh hlies];simp only[Result.andThen];rw[Oper.upon_value]
 go_wp2
 go_end0
 exact⟨rfl,rfl⟩
theorem m4v:n4i Tryz.prog 106 121:=by
 intro h n r hb K hk;refine⟨⟨_,Tryz.func106,by kernel_rfl,by kernel_rfl⟩,fun σ cargs hi hr=>?_⟩;obtain⟨hl,hx⟩:=hr;obtain⟨x0,h0,r0⟩:=hx 0 _ rfl;obtain⟨b,k1,k2⟩:=hi.blk n _ hb;cases r0 with
 |ptr _ _ b' hb'=>
 rw[k1]at hb';cases hb'
 obtain rfl:cargs=#[.pointer (some ⟨b,0,none⟩)]:=by
  apply Array.ext'
  match hc:cargs.toList,hl,h0 with
  |[a],_,h0=>simp at h0;simp[h0]
 obtain⟨cs,rest,elem,hh,hc⟩:=k2.plain rfl;obtain⟨_,x,hx0,hrx⟩:=hc.2 0 _ rfl
 have hcell:σ.w.cell? ⟨b,0,none⟩=some x:=by
  rw[P2 hh,<-Array.getElem?_toList,List.toList_toArray,List.getElem?_append_left (List.getElem?_eq_some_iff.1 hx0).1];exact hx0
 cases hrx with
 |ps _ _ b2 p hb2 hs hp=>
 rw[k1]at hb2;cases hb2;rcases hp with rfl|rfl
 ·refine(c5x b σ.w hcell hs (c80 hh 0)).mono fun e w' ⟨he,hw⟩=>?_
  subst he hw;have hlt:b<σ.w.heap.size:=c0v hh;obtain⟨q1,q2,q3,q4,q5⟩:=Z8 b [.pointer (some ⟨b,0,none⟩)] 0 σ.w;have q6:=a2l b elem (0,0) [.pointer (some ⟨b,0,none⟩)] 0 σ.w (cs++rest) hh (by have:=(List.getElem?_eq_some_iff.1 hx0).1;simp;omega);have hw:σ.w.setCells b 0 [.pointer (some ⟨b,0,none⟩)]=σ.w.setCell ⟨b,0,none⟩ (.pointer (some ⟨b,0,none⟩)):=rfl
  obtain⟨c0,cs,rfl⟩:∃c0 cs',cs=c0::cs':=by
   cases cs with
   |nil=>simp at hx0
   |cons c0 cs'=>exact⟨c0,cs',rfl⟩
  obtain⟨hle,hinv⟩:=c1s (w':=σ.w.setCells b 0 [.pointer (some ⟨b,0,none⟩)]) (cells':=.ps n 121::r) hi k1 hb (by simp) q1 q2 q3 q4 q5 (fun o ho=>a0s b _ 0 σ.w _ ho) (fun hle=>by
   refine .cells _ (.pointer (some ⟨b,0,none⟩)::cs) rest elem (by rw[q6];simp) ⟨by simpa using hc.1,fun i av hi=>?_⟩;cases i with
   |zero=>simp at hi;subst hi;exact⟨rfl,_,rfl,.ps _ _ b _ k1 (Q5 b _ 0 _ b hs) (.inr rfl)⟩
   |succ i=>
    obtain⟨g1,y,g2,g3⟩:=hc.2 (i+1) av (by simpa using hi);exact⟨g1,y,by simpa using g2,g3.mono hle⟩) (fun _=>⟨_,_,q6⟩) (by simp) (fun x hx=>Q5 b _ 0 _ b hx)
  have e1:h.blks.set n (some (.ps n 121::r))=h.blks:=by
   apply List.ext_getElem?;intro i
   by_cases hni:n=i
   ·subst hni;rw[List.getElem?_set_self (List.getElem?_eq_some_iff.1 hb).1,hb]
   ·rw[List.getElem?_set_ne hni]
  rw[e1]at hinv;exact⟨_,h,.tuple [],_,rfl,hw,hle,hinv,Rel.tuple_mk rfl fun i av hi=>by simp at hi,hk⟩
 ·refine(d0x b σ.w hcell).mono fun e w' ⟨he,hw⟩=>?_
  subst he hw;exact⟨σ,h,.tuple [],_,rfl,rfl,Le.refl σ,hi,Rel.tuple_mk rfl fun i av hi=>by simp at hi,hk⟩
theorem bcc(B b:Nat)(bs:List Value)(w:World)(h:Lib.IsBuilder 121 5 B b bs w):
  Calls Tryz.prog 106 #[.pointer (some ⟨b,0,none⟩)] w fun e w'=>e=.returned (.tuple #[])/\(Lib.BuilderAt 121 5 B b (.pointer (some ⟨b,0,none⟩)) bs w'/\Below B w w'):=by
 rcases h with h|h
 ·refine(c5x b w h.cell0 h.shape h.frozen0).mono ?_;rintro e w' ⟨rfl,rfl⟩;exact⟨rfl,h.used _,(Below.refl B w).setCell (p:=⟨b,0,none⟩) h.1 _⟩
 ·refine(d0x b w h.cell0).mono ?_;rintro e w' ⟨rfl,rfl⟩;exact⟨rfl,h,Below.refl B _⟩
set_option maxHeartbeats 2000000 in
set_option maxRecDepth 100000 in
theorem bwb(B b:Nat)(bs:List Value)(c:Int)(w:World)(h:Lib.IsBuilder 121 5 B b bs w)(hlen:bs.length+1<=140737488355328)(hBw:B<=w.heap.size):
  Calls Tryz.prog 43 #[.pointer (some ⟨b,0,none⟩),.int .u8 c] w fun e w'=>e=.returned .nilIface/\(Lib.BuilderAt 121 5 B b (.pointer (some ⟨b,0,none⟩)) (bs++[.int .u8 c]) w'/\Below B w w'):=by
 obtain⟨i0,hi,hz0,hz1,hz2⟩:=info_parts (show((Tryz.prog).info? 5).map (fun i=>(i.zero,i.size,i.bytes))=some (some (.int .u8 0),1,1) by kernel_rfl)
 go_enter Tryz.func43,Tryz.ntmps43
 go_wp2_with (go_at_call 106;refine(bcc B b bs _ h).mono ?_)
 rintro e w1 ⟨rfl,h1,hb1⟩;obtain⟨hB,v,hbk,hown,hne⟩:=h1;have c0:w1.cell? ⟨b,0,none⟩=some (.pointer (some ⟨b,0,none⟩)):=by rw[Lib.cell_of_heap hbk];rfl
 have c1:w1.cell? ⟨b,1,none⟩=some v:=by rw[Lib.cell_of_heap hbk];rfl
 go_wp2_with (at_builtin;refine wpList_append_own _ rfl _ _ 119 rfl B 5 i0 (.int .u8 0) 1 1 Tryz.underlying119 hi hz0 hz1 hz2 rfl (by decide) _ _ _ rfl (hown.alloc _) ⟨w1.heap.size,0,none⟩ 1 1 [.int .u8 c] rfl rfl ?c1 ?c2 ?c3 ?c4 ?c5 ?_)
 case c1=>
  intro j u hj
  match j,hj with
  |0,hj=>simp at hj;subst hj;simp[Addr.add]
 case c2=>intro u hu;simp at hu;subst hu;rfl
 case c3=>unfold maxLen;omega
 case c4=>omega
 case c5=>have:=hb1.size;simp;omega
 intro v' w2 hown' hgrow _
 have hlt:b<w1.heap.size:=by
  rcases Nat.lt_or_ge b w1.heap.size with h'|h'
  ·exact h'
  ·simp[Array.getElem?_eq_none h']at hbk
 have hb2:w2.heap[b]? =some (.cells #[.pointer (some ⟨b,0,none⟩),v] 121 (0,0)):=by
  rw[hgrow.block b (by simp;omega) (fun e=>hne e.symm),Lib.alloc_old w1 _ b hlt];exact hbk
 have d0:w2.cell? ⟨b,0,none⟩=some (.pointer (some ⟨b,0,none⟩)):=by rw[Lib.cell_of_heap hb2];rfl
 have d1:w2.cell? ⟨b,1,none⟩=some v:=by rw[Lib.cell_of_heap hb2];rfl
 have f1:w2.frozen? ⟨b,1,none⟩=false:=Lib.frozen_of_heap hb2 1
 obtain⟨g,cap,rfl⟩:∃g cap,v'=.slice (some ⟨g,0,none⟩) (bs.length+1) cap:=by
  rcases hown'.2 with⟨_,h0⟩|⟨g,cap,cur,hv,_⟩
  ·omega
  ·exact⟨g,cap,hv⟩
 go_wp2
 go_ret
 refine⟨rfl,?_,?_⟩
 ·exact Lib.BuilderAt.put (T:=121) (e:=5) hB hb2 (bs':=bs++[.int .u8 c]) (by simpa using hown') (by decide)
 ·exact((hb1.alloc (by have:=hb1.size;omega) _).grown hgrow (by have:=hb1.size;simp;omega) (fun k hk=>(hown.lt k hk).1)).setCell (p:=⟨b,1,none⟩) hB _
set_option maxHeartbeats 2000000 in
set_option maxRecDepth 100000 in
theorem bws(B b:Nat)(bs:List Value)(s:ByteArray)(w:World)(h:Lib.IsBuilder 121 5 B b bs w)(hlen:bs.length+s.size<=140737488355328)(hBw:B<=w.heap.size):
  Calls Tryz.prog 51 #[.pointer (some ⟨b,0,none⟩),.string s] w fun e w'=>e=.returned (.tuple #[.int .i64 s.size,.nilIface])/\(Lib.BuilderAt 121 5 B b (.pointer (some ⟨b,0,none⟩)) (bs++Lib.strCells s) w'/\Below B w w'):=by
 obtain⟨i0,hi,hz0,hz1,hz2⟩:=info_parts (show((Tryz.prog).info? 5).map (fun i=>(i.zero,i.size,i.bytes))=some (some (.int .u8 0),1,1) by kernel_rfl)
 go_enter Tryz.func51,Tryz.ntmps51
 go_wp2_with (go_at_call 106;refine(bcc B b bs _ h).mono ?_)
 rintro e w1 ⟨rfl,h1,hb1⟩;obtain⟨hB,v,hbk,hown,hne⟩:=h1;have c0:w1.cell? ⟨b,0,none⟩=some (.pointer (some ⟨b,0,none⟩)):=by rw[Lib.cell_of_heap hbk];rfl
 have c1:w1.cell? ⟨b,1,none⟩=some v:=by rw[Lib.cell_of_heap hbk];rfl
 go_wp2_with (at_builtin;refine Lib.wpList_append_own_string _ rfl _ _ 119 9 rfl B 5 i0 Tryz.underlying119 Tryz.underlying9 hi hz0 hz1 hz2 _ _ _ rfl hown s rfl ?c3 ?c4 ?c5 ?_)
 case c3=>unfold maxLen;omega
 case c4=>omega
 case c5=>have:=hb1.size;omega
 intro v' w2 hown' hgrow _
 have hlt:b<w1.heap.size:=by
  rcases Nat.lt_or_ge b w1.heap.size with h'|h'
  ·exact h'
  ·simp[Array.getElem?_eq_none h']at hbk
 have hb2:w2.heap[b]? =some (.cells #[.pointer (some ⟨b,0,none⟩),v] 121 (0,0)):=by
  rw[hgrow.block b hlt (fun e=>hne e.symm)];exact hbk
 have d0:w2.cell? ⟨b,0,none⟩=some (.pointer (some ⟨b,0,none⟩)):=by rw[Lib.cell_of_heap hb2];rfl
 have d1:w2.cell? ⟨b,1,none⟩=some v:=by rw[Lib.cell_of_heap hb2];rfl
 have f1:w2.frozen? ⟨b,1,none⟩=false:=Lib.frozen_of_heap hb2 1
 obtain⟨ao,n',cap,rfl⟩:∃ao n' cap,v'=.slice ao n' cap:=by
  rcases hown'.2 with⟨hv,_⟩|⟨g,cap,cur,hv,_⟩
  ·exact⟨_,_,_,hv⟩
  ·exact⟨_,_,_,hv⟩
 go_wp2
 go_ret2
 refine⟨rfl,?_,?_⟩
 ·exact Lib.BuilderAt.put (T:=121) (e:=5) hB hb2 (bs':=bs++Lib.strCells s) (by simpa[Lib.strCells_length]using hown') (by decide)
 ·exact(hb1.grown hgrow (by have:=hb1.size;omega) (fun k hk=>(hown.lt k hk).1)).setCell (p:=⟨b,1,none⟩) hB _
section
open Go.Shelf
def Tryz.lays169_ren:Go.Shelf.Ren:=⟨fun|169=>45|n=>n,fun|70=>118|9=>9|0=>0|72=>121|37=>119|127=>203|3=>3|5=>5|n=>n,fun|n=>n⟩
theorem Tryz.lays169:Go.Proofs.Lays.n169 Tryz.prog Tryz.lays169_ren:={
 mixed:=by kernel_rfl
 f169:=Tryz.func45.trans (congrArg some (by kernel_rfl))
 t0:=Tryz.underlying0
 a0:=Tryz.isAgg0
 z0:=Tryz.sizeOf0
 v0:=Tryz.zeroValue0
 t3:=Tryz.underlying3
 a3:=Tryz.isAgg3
 z3:=Tryz.sizeOf3
 v3:=Tryz.zeroValue3
 t9:=Tryz.underlying9
 a9:=Tryz.isAgg9
 z9:=Tryz.sizeOf9
 v9:=Tryz.zeroValue9
 t37:=Tryz.underlying119
 a37:=Tryz.isAgg119
 z37:=Tryz.sizeOf119
 v37:=Tryz.zeroValue119
 t70:=Tryz.underlying118
 a70:=Tryz.isAgg118
 z70:=Tryz.sizeOf118
 v70:=Tryz.zeroValue118
 t72:=Tryz.underlying121
 a72:=Tryz.isAgg121
 z72:=Tryz.sizeOf121
 v72:=Tryz.zeroValue121
 t127:=Tryz.underlying203
 a127:=Tryz.isAgg203
 z127:=Tryz.sizeOf203
 v127:=Tryz.zeroValue203}
theorem Tryz.Builder_Extra_169:Builder.Extra Tryz.prog Tryz.lays169_ren:={
 sizeBuilder:=by kernel_rfl
 liesBuilder:=by kernel_rfl
 t5:=Tryz.underlying5
 a5:=Tryz.isAgg5
 z5:=Tryz.sizeOf5
 v5:=Tryz.zeroValue5
 infoByte:=by kernel_rfl
 cellsByte:=by kernel_rfl
 sizeByte:=by kernel_rfl
 neB5:=by decide}
open Go.RowKit in
theorem Tryz.Builder_String_any(B b:Nat)(l:List UInt8)(w:World)(h:Lib.IsBuilder 121 5 B b (Lib.byteCells l) w)(hBw:B<=w.heap.size):
  Calls Tryz.prog 45 #[.pointer (some ⟨b,0,none⟩)] w fun e w'=>e=.returned (.string ⟨l.toArray⟩)/\Below B w w':=Any.Builder_String_any Tryz.lays169 Tryz.Builder_Extra_169 B b l w h hBw
def Tryz.lays137_ren:Go.Shelf.Ren:=⟨fun|137=>44|217=>107|266=>187|n=>n,fun|9=>9|5=>5|3=>3|n=>n,fun|n=>n⟩
theorem Tryz.lays137:Go.Proofs.Lays.n137 Tryz.prog Tryz.lays137_ren:={
 mixed:=by kernel_rfl
 f137:=Tryz.func44.trans (congrArg some (by kernel_rfl))
 f217:=Tryz.func107.trans (congrArg some (by kernel_rfl))
 f266:=Tryz.func187.trans (congrArg some (by kernel_rfl))
 t3:=Tryz.underlying3
 a3:=Tryz.isAgg3
 z3:=Tryz.sizeOf3
 v3:=Tryz.zeroValue3
 t5:=Tryz.underlying5
 a5:=Tryz.isAgg5
 z5:=Tryz.sizeOf5
 v5:=Tryz.zeroValue5
 t9:=Tryz.underlying9
 a9:=Tryz.isAgg9
 z9:=Tryz.sizeOf9
 v9:=Tryz.zeroValue9}
open Go.RowKit in
theorem Tryz.strings_IndexByte(s:ByteArray)(c:Int)(w:World):
  Calls Tryz.prog 44 #[.string s,.int .u8 c] w fun e w'=>e=.returned (.int .i64 (Lib.indexByte s.data.toList c.toNat.toUInt8))/\w'=w:=Any.strings_IndexByte Tryz.lays137 s c w
def Tryz.lays145_ren:Go.Shelf.Ren:=⟨fun|145=>79|220=>149|219=>216|217=>107|225=>284|224=>285|267=>286|266=>187|314=>361|n=>n,fun|9=>9|4=>4|59=>166|3=>3|5=>5|46=>126|146=>421|51=>420|n=>n,fun|1=>2|n=>n⟩
theorem Tryz.lays145:Go.Proofs.Lays.n145 Tryz.prog Tryz.lays145_ren:={
 mixed:=by kernel_rfl
 f145:=Tryz.func79.trans (congrArg some (by kernel_rfl))
 f217:=Tryz.func107.trans (congrArg some (by kernel_rfl))
 f219:=Tryz.func216.trans (congrArg some (by kernel_rfl))
 f220:=Tryz.func149.trans (congrArg some (by kernel_rfl))
 f224:=Tryz.func285.trans (congrArg some (by kernel_rfl))
 f225:=Tryz.func284.trans (congrArg some (by kernel_rfl))
 f266:=Tryz.func187.trans (congrArg some (by kernel_rfl))
 f267:=Tryz.func286.trans (congrArg some (by kernel_rfl))
 f314:=Tryz.func361.trans (congrArg some (by kernel_rfl))
 t3:=Tryz.underlying3
 a3:=Tryz.isAgg3
 z3:=Tryz.sizeOf3
 v3:=Tryz.zeroValue3
 t4:=Tryz.underlying4
 a4:=Tryz.isAgg4
 z4:=Tryz.sizeOf4
 v4:=Tryz.zeroValue4
 t5:=Tryz.underlying5
 a5:=Tryz.isAgg5
 z5:=Tryz.sizeOf5
 v5:=Tryz.zeroValue5
 t9:=Tryz.underlying9
 a9:=Tryz.isAgg9
 z9:=Tryz.sizeOf9
 v9:=Tryz.zeroValue9
 t46:=Tryz.underlying126
 a46:=Tryz.isAgg126
 z46:=Tryz.sizeOf126
 v46:=Tryz.zeroValue126
 t51:=Tryz.underlying420
 a51:=Tryz.isAgg420
 z51:=Tryz.sizeOf420
 v51:=Tryz.zeroValue420
 t59:=Tryz.underlying166
 a59:=Tryz.isAgg166
 z59:=Tryz.sizeOf166
 v59:=Tryz.zeroValue166
 t146:=Tryz.underlying421
 a146:=Tryz.isAgg421
 z146:=Tryz.sizeOf421
 v146:=Tryz.zeroValue421
 g1:=by kernel_rfl}
open Go.RowKit Go.Lib in
theorem Tryz.strings_Cut(s sep:ByteArray)(m:Int)(w:World)(hs:s.size<4294967281)(hm:w.cell? ⟨2,0,none⟩=some (.int .i64 m)):
  Calls Tryz.prog 79 #[.string s,.string sep] w fun e w'=>e=.returned (.tuple #[.string ⟨(Lib.cut s.data.toList sep.data.toList).1.toArray⟩,.string ⟨(Lib.cut s.data.toList sep.data.toList).2.1.toArray⟩,.bool (Lib.cut s.data.toList sep.data.toList).2.2])/\∃n,w'=w.drewN n:=Any.strings_Cut Tryz.lays145 s sep m w hs hm
def Tryz.lays146_ren:Go.Shelf.Ren:=⟨fun|146=>150|221=>217|268=>287|138=>288|143=>289|195=>362|197=>363|218=>364|219=>216|260=>416|217=>107|225=>284|224=>285|267=>286|266=>187|314=>361|n=>n,fun|9=>9|31=>79|3=>3|4=>4|0=>0|105=>423|21=>21|5=>5|46=>126|119=>479|139=>482|138=>481|146=>421|51=>420|n=>n,fun|1=>2|3=>3|4=>4|n=>n⟩
theorem Tryz.lays146:Go.Proofs.Lays.n146 Tryz.prog Tryz.lays146_ren:={
 mixed:=by kernel_rfl
 f138:=Tryz.func288.trans (congrArg some (by kernel_rfl))
 f143:=Tryz.func289.trans (congrArg some (by kernel_rfl))
 f146:=Tryz.func150.trans (congrArg some (by kernel_rfl))
 f195:=Tryz.func362.trans (congrArg some (by kernel_rfl))
 f197:=Tryz.func363.trans (congrArg some (by kernel_rfl))
 f217:=Tryz.func107.trans (congrArg some (by kernel_rfl))
 f218:=Tryz.func364.trans (congrArg some (by kernel_rfl))
 f219:=Tryz.func216.trans (congrArg some (by kernel_rfl))
 f221:=Tryz.func217.trans (congrArg some (by kernel_rfl))
 f224:=Tryz.func285.trans (congrArg some (by kernel_rfl))
 f225:=Tryz.func284.trans (congrArg some (by kernel_rfl))
 f260:=Tryz.func416.trans (congrArg some (by kernel_rfl))
 f266:=Tryz.func187.trans (congrArg some (by kernel_rfl))
 f267:=Tryz.func286.trans (congrArg some (by kernel_rfl))
 f268:=Tryz.func287.trans (congrArg some (by kernel_rfl))
 f314:=Tryz.func361.trans (congrArg some (by kernel_rfl))
 t0:=Tryz.underlying0
 a0:=Tryz.isAgg0
 z0:=Tryz.sizeOf0
 v0:=Tryz.zeroValue0
 t3:=Tryz.underlying3
 a3:=Tryz.isAgg3
 z3:=Tryz.sizeOf3
 v3:=Tryz.zeroValue3
 t4:=Tryz.underlying4
 a4:=Tryz.isAgg4
 z4:=Tryz.sizeOf4
 v4:=Tryz.zeroValue4
 t5:=Tryz.underlying5
 a5:=Tryz.isAgg5
 z5:=Tryz.sizeOf5
 v5:=Tryz.zeroValue5
 t9:=Tryz.underlying9
 a9:=Tryz.isAgg9
 z9:=Tryz.sizeOf9
 v9:=Tryz.zeroValue9
 t21:=Tryz.underlying21
 a21:=Tryz.isAgg21
 z21:=Tryz.sizeOf21
 v21:=Tryz.zeroValue21
 t31:=Tryz.underlying79
 a31:=Tryz.isAgg79
 z31:=Tryz.sizeOf79
 v31:=Tryz.zeroValue79
 t46:=Tryz.underlying126
 a46:=Tryz.isAgg126
 z46:=Tryz.sizeOf126
 v46:=Tryz.zeroValue126
 t51:=Tryz.underlying420
 a51:=Tryz.isAgg420
 z51:=Tryz.sizeOf420
 v51:=Tryz.zeroValue420
 t105:=Tryz.underlying423
 a105:=Tryz.isAgg423
 z105:=Tryz.sizeOf423
 v105:=Tryz.zeroValue423
 t119:=Tryz.underlying479
 a119:=Tryz.isAgg479
 z119:=Tryz.sizeOf479
 t138:=Tryz.underlying481
 a138:=Tryz.isAgg481
 z138:=Tryz.sizeOf481
 v138:=Tryz.zeroValue481
 t139:=Tryz.underlying482
 a139:=Tryz.isAgg482
 z139:=Tryz.sizeOf482
 v139:=Tryz.zeroValue482
 t146:=Tryz.underlying421
 a146:=Tryz.isAgg421
 z146:=Tryz.sizeOf421
 v146:=Tryz.zeroValue421
 g1:=by kernel_rfl
 g3:=by kernel_rfl
 g4:=by kernel_rfl}
open Go.RowKit Go.Lib in
theorem Tryz.strings_Split(s sep:ByteArray)(m:Int)(w:World)(hs:s.size<4294967281)(hm:w.cell? ⟨2,0,none⟩=some (.int .i64 m))(h1:1<=sep.size):
  Calls Tryz.prog 150 #[.string s,.string sep] w fun e w'=>
   e=.returned (.slice (some ⟨w.heap.size,0,none⟩) (Lib.countB s sep+1) (Lib.countB s sep+1))/\w'=w.alloc (.cells ((Lib.splitB sep 0 (Lib.countB s sep) s).map Value.string).toArray 9):=Any.strings_Split Tryz.lays146 (by kernel_rfl) s sep m w hs hm h1
end
theorem c2j{n:Int}(h: -9223372036854775808<=n/\n<=9223372036854775807):IntKind.i64.wrap n=n:=by simp[IntKind.wrap,IntKind.signed,IntKind.bits];omega
theorem c5z(s:ByteArray){l u:Nat}(h:u<=s.size):(s.extract l u).size=u - l:=by
 rw[ByteArray.size_extract];omega
section
theorem o0t{av:AV}{x:Value}(h:nz av=.v x)(hx:∀n,x≠.slice none n n:=by intro n h;cases h):av=.v x:=by
 cases av with
 |v y=>simpa[nz,nzA,nz1]using h
 |_=>simp[nz,nzA,nz1]at h
theorem f7i{P:Program}{f:FuncId}{args:List AV}{cargs:Array Value}{W:World}{x:Value}(hf:C6 P [] f args (.v x))(hr:b39 (bare W a0e) args cargs.toList)(hx:∀n,x≠.slice none n n:=by intro n h;cases h):
  Calls P f cargs W fun e W'=>e=.returned x/\Below W.heap.size W W':=by
 refine(hf.2 W a0e cargs (fun b o h=>h.elim) (fun g cells h=>by cases h) hr).mono fun e W' ⟨av,y,he,hp,hrel,hav⟩=>?_
 rw[o0t hav hx]at hrel;cases hrel with
 |v _ _=>exact⟨he,hp.below⟩
open Lift
def b52(c:Int):Bool:=((((((decide (97<=c))&&(decide (c<=122)))||((decide (65<=c))&&(decide (c<=90))))||((decide (48<=c))&&(decide (c<=57))))||(c==45))||(c==95))||(c==46)
theorem d37(c:Int):a2u c (b52 c):=a4l _ _ rfl
theorem c99(c:Int)(w:World):Calls Tryz.prog 50 #[.int .u8 c] w fun e w'=>e=.returned (.bool (b52 c))/\Below w.heap.size w w':=
 f7i (d37 c) (a47 (.v _ rfl) (c3n _))
def d3k(c:UInt8):Bool:=b52 (c.toNat:Int)
def d4m(n:Nat):UInt8:=if n<10 then UInt8.ofNat (48+n) else UInt8.ofNat (55+n)
def j14(c:UInt8):List UInt8:=if d3k c=true then [c] else [37,d4m (c.toNat / 16),d4m (c.toNat % 16)]
def c5m(l:List UInt8):List UInt8:=l.flatMap j14
theorem d26(c:UInt8)(l:List UInt8):c5m (c::l)=j14 c++c5m l:=rfl
theorem P6(s:ByteArray)(p:Nat)(h:p<s.size):s.data.toList.drop p=s[p]::s.data.toList.drop (p+1):=by
 have h':p<s.data.toList.length:=by simpa using h
 rw[List.drop_eq_getElem_cons h'];rfl
theorem c5j{T e:TypeId}{B b:Nat}{bs:List Value}{w w':World}(h:Lib.IsBuilder T e B b bs w)(hb:Below w.heap.size w w'):Lib.IsBuilder T e B b bs w':=by
 have one:∀p,Lib.BuilderAt T e B b p bs w->Lib.BuilderAt T e B b p bs w':=by
  rintro p ⟨h1,v,h2,h3,h4⟩
  have hlt:b<w.heap.size:=by
   rcases Nat.lt_or_ge b w.heap.size with h'|h'
   ·exact h'
   ·simp[Array.getElem?_eq_none h']at h2
  refine⟨h1,v,(hb.block b hlt).trans h2,⟨h3.1,?_⟩,h4⟩;rcases h3.2 with h|⟨g,cap,cur,k1,k2,k3,k4⟩
  ·exact .inl h
  ·refine .inr ⟨g,cap,cur,k1,k2,(hb.block g ?_).trans k3,k4⟩;rcases Nat.lt_or_ge g w.heap.size with h'|h'
   ·exact h'
   ·simp[Array.getElem?_eq_none h']at k3
 rcases h with h|h
 ·exact .inl (one _ h)
 ·exact .inr (one _ h)
set_option maxRecDepth 100000 in
theorem d0u(a:Nat)(h:a<16)(w:World):Sem.run Tryz.prog (Instr.slice 9 (.string ⟨#[48,49,50,51,52,53,54,55,56,57,65,66,67,68,69,70]⟩) (some (.int .u8 (a:Int))) (some (.int .u8 ((a:Int)+1))) none) w=.ok (.string ⟨#[d4m a]⟩) w:=by
 have:a=0\/a=1\/a=2\/a=3\/a=4\/a=5\/a=6\/a=7\/a=8\/a=9\/a=10\/a=11\/a=12\/a=13\/a=14\/a=15:=by omega
 rcases this with rfl|rfl|rfl|rfl|rfl|rfl|rfl|rfl|rfl|rfl|rfl|rfl|rfl|rfl|rfl|rfl
 all_goals rfl
theorem h5z(c:UInt8):bits .and .u8 (c.toNat:Int) 15=((c.toNat % 16:Nat):Int):=by
 have:∀c:Fin 256,bits .and .u8 ((c.val:Nat):Int) 15=((c.val % 16:Nat):Int):=by decide+kernel
 exact this ⟨c.toNat,c.toNat_lt⟩
theorem e0n(a:Nat)(h:a<16):IntKind.u8.wrap ((a:Int)+1)=(a:Int)+1:=by simp[IntKind.wrap,IntKind.signed,IntKind.bits];omega
theorem c7b{T e:TypeId}{B b:Nat}{bs:List Value}{w:World}(h:Lib.IsBuilder T e B b bs w):Lib.IsBuilder T e B b bs w.drew:=h
theorem n6t(a b:UInt8):Lib.strCells ((⟨#[37]⟩:ByteArray)++⟨#[a]⟩++⟨#[b]⟩)=Lib.byteCells [37,a,b]:=by
 rw[Lib.strCells_eq];rfl
theorem c7p(a b:UInt8):((⟨#[37]⟩:ByteArray)++⟨#[a]⟩++⟨#[b]⟩).size=3:=by simp[ByteArray.size_append];rfl
theorem a40{p:Prop}(h:p):Hid p:=h
set_option maxHeartbeats 4000000 in
set_option maxRecDepth 100000 in
theorem m6e(s:ByteArray)(hs:s.size<=1048576)(w:World):
  Calls Tryz.prog 21 #[.string s] w fun e w'=>e=.returned (.string ⟨(c5m s.data.toList).toArray⟩)/\Below w.heap.size w w':=by
 obtain⟨R,HR⟩:∃R,Hid (R=c5m s.data.toList):=⟨_,a40 rfl⟩
 rw[<-HR.out]
 go_enter Tryz.func21,Tryz.ntmps21
 go_wp2_with fail
 go_loopg [8] (s.size) (fun g s8 wx=>∃(p:Nat) (acc:List UInt8),s8=.int .i64 p/\p+g=s.size/\Hid (Lib.IsBuilder 121 5 w.heap.size w.heap.size (Lib.byteCells acc) wx)/\Hid (Below w.heap.size w wx)/\Hid (R=acc++c5m (s.data.toList.drop p))/\acc.length<=3*p)
 case atStart=>exact⟨0,[],rfl,by omega,a40 (Lib.fresh_isBuilder _ _ _),a40 ((Below.refl w.heap.size w).alloc (Nat.le_refl _) _),a40 (by rw[HR.out];simp),by simp⟩
 case round=>
  obtain⟨p,acc,rfl,hpg,HB,HW,HR2,hacc⟩:=hrel;have hBw:w.heap.size<=wr.heap.size:=HW.out.size;cases gk with
  |zero=>
   have hlt:¬(p:Int)<(s.size:Int):=by omega
   go_wp2_with (go_at_call 45;refine(Tryz.Builder_String_any w.heap.size w.heap.size acc _ HB.out hBw).mono ?_)
   rintro e w5 rfl hb5;have Hb5:=a40 (HW.out.trans hb5);have HA:Hid (R=acc):=a40 (by rw[HR2.out,List.drop_eq_nil_of_le (by simp;show s.size<=p;omega)];simp[c5m]);clear hb5
   go_wp2
   go_ret
   exact⟨by rw[HA.out];rfl,Hb5.out⟩
  |succ g=>
   have i0:(0:Int)<=(p:Int):=by omega
   have hlt:(p:Int)<(s.size:Int):=by omega
   have hp:p<s.size:=by omega
   have HN:Hid (R=acc++j14 s[p]++c5m (s.data.toList.drop (p+1))):=a40 (by rw[HR2.out,P6 s p hp,d26,List.append_assoc])
   by_cases hpl:d3k s[p]=true
   ·have HE:Hid (R=acc++[s[p]]++c5m (s.data.toList.drop (p+1))):=a40 (by rw[HN.out,j14,if_pos hpl])
    have HPC:∀w,Calls Tryz.prog 50 #[.int .u8 (s[p].toNat:Int)] w fun e w'=>e=.returned (.bool true)/\Below w.heap.size w w':=fun w=>by
     have:=c99 (s[p].toNat:Int) w;rw[show b52 (s[p].toNat:Int)=true from hpl]at this;exact this
    clear hpl
    go_wp2_with (go_at_call 50;refine(HPC _).mono ?_)
    rintro e w1 ⟨rfl,hb1⟩;have HB1:=a40 (c5j HB.out hb1);have HW1:=a40 (HW.out.trans (hb1.mono hBw));have hBw1:w.heap.size<=w1.heap.size:=HW1.out.size;clear hb1
    go_wp2_with (go_at_call 43;refine(bwb w.heap.size w.heap.size _ _ _ HB1.out (by rw[Lib.byteCells_length];omega) hBw1).mono ?_)
    rintro e w2 ⟨rfl,h2,hb2⟩;have HB2:Hid (Lib.IsBuilder 121 5 w.heap.size w.heap.size (Lib.byteCells (acc++[s[p]])) w2):=a40 (.inr (by rw[Lib.byteCells_append];exact h2));have HW2:=a40 (HW1.out.trans hb2);clear h2 hb2
    go_wp2
    go_roundg g
    case measure=>omega
    case rel=>exact⟨p+1,acc++[s[p]],by go_num,by omega,HB2,HW2,HE,by simp;omega⟩
   ·have hpl':d3k s[p]=false:=by simpa using hpl
    have HPC:∀w,Calls Tryz.prog 50 #[.int .u8 (s[p].toNat:Int)] w fun e w'=>e=.returned (.bool false)/\Below w.heap.size w w':=fun w=>by
     have:=c99 (s[p].toNat:Int) w;rw[show b52 (s[p].toNat:Int)=false from hpl']at this;exact this
    have HE:Hid (R=acc++[37,d4m (s[p].toNat / 16),d4m (s[p].toNat % 16)]++c5m (s.data.toList.drop (p+1))):=a40 (by rw[HN.out,j14,if_neg hpl]);have q0:(s[p].toNat:Int) / 16=((s[p].toNat / 16:Nat):Int):=by omega
    have hc:=s[p].toNat_lt;have q1:IntKind.u8.wrap ((s[p].toNat:Int) / 16+1)=((s[p].toNat / 16:Nat):Int)+1:=by rw[q0];exact e0n _ (by omega)
    have q2:=h5z s[p];have q3:IntKind.u8.wrap (bits .and .u8 (s[p].toNat:Int) 15+1)=((s[p].toNat % 16:Nat):Int)+1:=by rw[q2];exact e0n _ (by omega)
    have r1:∀w:World,Sem.run Tryz.prog (Instr.slice 9 (.string ⟨#[48,49,50,51,52,53,54,55,56,57,65,66,67,68,69,70]⟩) (some (.int .u8 ((s[p].toNat:Int) / 16))) (some (.int .u8 (IntKind.u8.wrap ((s[p].toNat:Int) / 16+1)))) none) w=.ok (.string ⟨#[d4m (s[p].toNat / 16)]⟩) w:=fun w=>by rw[q1,q0];exact d0u _ (by omega) w
    have r2:∀w:World,Sem.run Tryz.prog (Instr.slice 9 (.string ⟨#[48,49,50,51,52,53,54,55,56,57,65,66,67,68,69,70]⟩) (some (.int .u8 (bits .and .u8 (s[p].toNat:Int) 15))) (some (.int .u8 (IntKind.u8.wrap (bits .and .u8 (s[p].toNat:Int) 15+1)))) none) w=.ok (.string ⟨#[d4m (s[p].toNat % 16)]⟩) w:=fun w=>by rw[q3,q2];exact d0u _ (by omega) w
    clear hpl hpl' q0 q1 q2 q3 hc
    go_wp2_with (go_at_call 50;refine(HPC _).mono ?_)
    rintro e w1 ⟨rfl,hb1⟩;have HB1:=a40 (c5j HB.out hb1);have HW1:=a40 (HW.out.trans (hb1.mono hBw));have hBw1:w.heap.size<=w1.heap.size:=HW1.out.size;clear hb1
    go_wp2
    go_region_with (go_at_call 51;refine(bws w.heap.size w.heap.size _ _ _ (c7b HB1.out) (by rw[Lib.byteCells_length,c7p];omega) hBw1).mono ?_;rintro e w2 ⟨rfl,h2,hb2⟩)
    have HB2:Hid (Lib.IsBuilder 121 5 w.heap.size w.heap.size (Lib.byteCells (acc++[37,d4m (s[p].toNat / 16),d4m (s[p].toNat % 16)])) w2):=a40 (.inr (by rw[Lib.byteCells_append];rw[n6t]at h2;exact h2));have HW2:=a40 ((Below.drew HW1.out).trans hb2);clear h2 hb2
    go_wp2
    go_roundg g
    case measure=>omega
    case rel=>exact⟨p+1,_,by go_num,by omega,HB2,HW2,HE,by simp;omega⟩
end
section
open Go.RowKit Lift
def c1j(c:UInt8):Int:=if 48<=c/\c<=57 then(c.toNat:Int) - 48 else if 65<=c/\c<=70 then(c.toNat:Int) - 55 else -1
def a7y:List UInt8->List UInt8->Option (List UInt8)
 |[],acc=>some acc
 |c::r,acc=>if c≠37 then a7y r (acc++[c]) else match r with
  |a::b::r'=>if 0<=c1j a/\0<=c1j b then a7y r' (acc++[UInt8.ofNat (16*(c1j a).toNat+(c1j b).toNat)]) else none
  |_=>none
 termination_by l=>l.length
def b07(l:List UInt8):List UInt8 × Int:=match a7y l []with
 |some t=>if c5m t=l then(t,0) else([],2)
 |none=>([],2)
theorem c9y(c:UInt8):Lib.indexByte (⟨#[48,49,50,51,52,53,54,55,56,57,65,66,67,68,69,70]⟩:ByteArray).data.toList ((c.toNat:Int).toNat.toUInt8)=c1j c:=by
 have:∀c:Fin 256,Lib.indexByte (⟨#[48,49,50,51,52,53,54,55,56,57,65,66,67,68,69,70]⟩:ByteArray).data.toList (((c.val:Nat):Int).toNat.toUInt8)=c1j (UInt8.ofNat c.val):=by decide+kernel
 have h:=this ⟨c.toNat,c.toNat_lt⟩;simpa using h
theorem d9p(c:UInt8)(h:0<=c1j c):(c1j c).toNat<16:=by
 have:∀c:Fin 256,0<=c1j (UInt8.ofNat c.val)->(c1j (UInt8.ofNat c.val)).toNat<16:=by decide+kernel
 have h1:=this ⟨c.toNat,c.toNat_lt⟩;simp only[UInt8.ofNat_toNat]at h1;exact h1 h
theorem c91(c:UInt8)(h:¬0<=c1j c):c1j c= -1:=by
 have:∀c:Fin 256,¬0<=c1j (UInt8.ofNat c.val)->c1j (UInt8.ofNat c.val)= -1:=by decide+kernel
 have h1:=this ⟨c.toNat,c.toNat_lt⟩;simp only[UInt8.ofNat_toNat]at h1;exact h1 h
theorem k8u(x y:Nat)(hx:x<16)(hy:y<16):bits .or .i64 ((x:Int)*16) (y:Int) % 256=(((UInt8.ofNat (16*x+y)).toNat:Nat):Int):=by
 have:∀x y:Fin 16,bits .or .i64 (((x.val:Nat):Int)*16) ((y.val:Nat):Int) % 256=(((UInt8.ofNat (16*x.val+y.val)).toNat:Nat):Int):=by decide+kernel
 exact this ⟨x,hx⟩ ⟨y,hy⟩
theorem g79(c:UInt8)(w:World):Calls Tryz.prog 44 #[.string ⟨#[48,49,50,51,52,53,54,55,56,57,65,66,67,68,69,70]⟩,.int .u8 (c.toNat:Int)] w fun e w'=>e=.returned (.int .i64 (c1j c))/\w'=w:=by
 have h:=Tryz.strings_IndexByte ⟨#[48,49,50,51,52,53,54,55,56,57,65,66,67,68,69,70]⟩ (c.toNat:Int) w;rw[c9y]at h;exact h
theorem d3b{T e:TypeId}{B b:Nat}{bs:List Value}{w w':World}(h:Lib.IsBuilderF T e B b bs w)(hb:Below w.heap.size w w'):Lib.IsBuilderF T e B b bs w':=by
 have one:∀p,Lib.BuilderAtF T e B b p bs w->Lib.BuilderAtF T e B b p bs w':=by
  rintro p ⟨h1,v,h2,h3,h4⟩
  have hlt:b<w.heap.size:=by
   rcases Nat.lt_or_ge b w.heap.size with h'|h'
   ·exact h'
   ·simp[Array.getElem?_eq_none h']at h2
  refine⟨h1,v,(hb.block b hlt).trans h2,⟨h3.1,?_⟩,h4⟩;rcases h3.2 with h|⟨g,cap,cur,fz,k1,k2,k3,k4⟩
  ·exact .inl h
  ·refine .inr ⟨g,cap,cur,fz,k1,k2,(hb.block g ?_).trans k3,k4⟩;rcases Nat.lt_or_ge g w.heap.size with h'|h'
   ·exact h'
   ·simp[Array.getElem?_eq_none h']at k3
 rcases h with h|h
 ·exact .inl (one _ h)
 ·exact .inr (one _ h)
theorem n85(B b:Nat)(l:List UInt8)(w:World)(h:Lib.IsBuilderF 121 5 B b (Lib.byteCells l) w)(hBw:B<=w.heap.size):
  Calls Tryz.prog 45 #[.pointer (some ⟨b,0,none⟩)] w fun e w'=>e=.returned (.string ⟨l.toArray⟩)/\(Lib.IsBuilderF 121 5 B b (Lib.byteCells l) w'/\Below B w w'):=Any.Builder_String_any_f Tryz.lays169 Tryz.Builder_Extra_169 B b l w h hBw
theorem i76{a b:ByteArray}{x y:Int}(h1:a=b)(h2:x=y):Ending.returned (.tuple #[.string a,.int .i64 x])=.returned (.tuple #[.string b,.int .i64 y]):=by rw[h1,h2]
set_option maxHeartbeats 4000000 in
set_option maxRecDepth 100000 in
theorem g4b(s:ByteArray)(hs:s.size<=1048576)(w:World):
  Calls Tryz.prog 19 #[.string s] w fun e w'=>e=.returned (.tuple #[.string ⟨(b07 s.data.toList).1.toArray⟩,.int .i64 (b07 s.data.toList).2])/\Below w.heap.size w w':=by
 obtain⟨R,HR⟩:∃R,Hid (R=b07 s.data.toList):=⟨_,a40 rfl⟩
 rw[<-HR.out]
 go_enter Tryz.func19,Tryz.ntmps19
 go_wp2_with fail
 go_loopg [5] (s.size) (fun g s5 wx=>∃(p:Nat) (acc:List UInt8),s5=.int .i64 p/\p+g=s.size/\Hid (Lib.IsBuilder 121 5 w.heap.size w.heap.size (Lib.byteCells acc) wx)/\Hid (Below w.heap.size w wx)/\Hid (a7y s.data.toList []=a7y (s.data.toList.drop p) acc)/\acc.length<=p)
 case atStart=>exact⟨0,[],rfl,by omega,a40 (Lib.fresh_isBuilder _ _ _),a40 ((Below.refl w.heap.size w).alloc (Nat.le_refl _) _),a40 (by simp),by simp⟩
 case round=>
  obtain⟨p,acc,rfl,hpg,HB,HW,HR2,hacc⟩:=hrel;have hBw:w.heap.size<=wr.heap.size:=HW.out.size;have i0:(0:Int)<=(p:Int):=by omega
  cases gk with
  |zero=>
   have hlt:¬(p:Int)<(s.size:Int):=by omega
   have HA:Hid (R=if c5m acc=s.data.toList then(acc,0) else([],2)):=a40 (by
    have e:a7y s.data.toList []=some acc:=by rw[HR2.out,List.drop_eq_nil_of_le (by simp;show s.size<=p;omega)];simp[a7y]
    rw[HR.out,b07,e])
   have hal:acc.length<=1048576:=by omega
   go_wp2_with (go_at_call 45;refine(n85 w.heap.size w.heap.size acc _ (.of HB.out) hBw).mono ?_)
   rintro e w3 rfl hf3 hb3;have HF3:=a40 hf3;have HW3:=a40 (HW.out.trans hb3);have hBw3:w.heap.size<=w3.heap.size:=HW3.out.size;have hsz:(⟨acc.toArray⟩:ByteArray).size<=1048576:=by show acc.toArray.size<=_;simpa using hal
   clear hf3 hb3
   go_wp2_with (go_at_call 21;refine(m6e ⟨acc.toArray⟩ hsz _).mono ?_)
   rintro e w4 rfl hb4;have HF4:=a40 (d3b HF3.out hb4);have HW4:=a40 (HW3.out.trans (hb4.mono hBw3));have hBw4:w.heap.size<=w4.heap.size:=HW4.out.size;clear hb4
   by_cases hq:c5m acc=s.data.toList
   ·have HN:Hid (R=(acc,0)):=a40 (by rw[HA.out,if_pos hq]);have hE:(c5m acc==s.toList)=true:=by rw[hq,Lib.toList_data];simp
    go_wp2_with (go_at_call 45;refine(n85 w.heap.size w.heap.size acc _ HF4.out hBw4).mono ?_)
    first|rintro e w5 rfl hf5 hb5|rintro e w5 ⟨rfl,hf5,hb5⟩
    have HW5:=a40 (HW4.out.trans hb5);clear hf5 hb5
    go_wp2_with fail
    go_ret2
    exact⟨i76 (by rw[HN.out]) (by rw[HN.out]),HW5.out⟩
   ·have HN:Hid (R=([],2)):=a40 (by rw[HA.out,if_neg hq]);have hE:(c5m acc==s.toList)=false:=by rw[Lib.toList_data];simpa using hq
    go_wp2_with fail
    go_ret2
    exact⟨i76 (by rw[HN.out]) (by rw[HN.out]),HW4.out⟩
  |succ g=>
   have hlt:(p:Int)<(s.size:Int):=by omega
   have hp:p<s.size:=by omega
   by_cases hb:s[p]=37
   ·have hbq:((s[p].toNat:Int) !=37)=false:=by rw[hb];rfl
    have HB0:=a40 hb;clear hb
    by_cases h2:p+2<s.size
    ·have j0:(0:Int)<=(p:Int)+1:=by omega
     have j1:(p:Int)+1<(s.size:Int):=by omega
     have j2:(0:Int)<=(p:Int)+2:=by omega
     have j3:(p:Int)+2<(s.size:Int):=by omega
     have hp1:p+1<s.size:=by omega
     have jg:decide ((s.size:Int)<=(p:Int)+2)=false:=decide_eq_false (by omega);have HX:∀(c:UInt8) w,Calls Tryz.prog 44 #[.string ⟨#[48,49,50,51,52,53,54,55,56,57,65,66,67,68,69,70]⟩,.int .u8 (c.toNat:Int)] w fun e w'=>e=.returned (.int .i64 (c1j c))/\w'=w:=g79
     obtain⟨x,hxx⟩:∃x:Int,c1j s[p+1]=x:=⟨_,rfl⟩
     obtain⟨y,hyy⟩:∃y:Int,c1j s[p+2]=y:=⟨_,rfl⟩
     have HX1:∀w,Calls Tryz.prog 44 #[.string ⟨#[48,49,50,51,52,53,54,55,56,57,65,66,67,68,69,70]⟩,.int .u8 (s[p+1].toNat:Int)] w fun e w'=>e=.returned (.int .i64 x)/\w'=w:=fun w=>by rw[<-hxx];exact HX _ w
     have HX2:∀w,Calls Tryz.prog 44 #[.string ⟨#[48,49,50,51,52,53,54,55,56,57,65,66,67,68,69,70]⟩,.int .u8 (s[p+2].toNat:Int)] w fun e w'=>e=.returned (.int .i64 y)/\w'=w:=fun w=>by rw[<-hyy];exact HX _ w
     have HS:Hid (a7y s.data.toList []=if 0<=x/\0<=y then a7y (s.data.toList.drop (p+3)) (acc++[UInt8.ofNat (16*x.toNat+y.toNat)]) else none):=a40 (by
      rw[HR2.out,P6 s p hp,P6 s (p+1) hp1,P6 s (p+2) h2,a7y.eq_def];simp only[HB0.out,ne_eq,not_true_eq_false,if_false,hxx,hyy])
     have HD:Hid ((0<=x->x.toNat<16)/\(0<=y->y.toNat<16)):=a40 ⟨by rw[<-hxx];exact d9p _,by rw[<-hyy];exact d9p _⟩;have HM:Hid ((¬0<=x->x= -1)/\(¬0<=y->y= -1)):=a40 ⟨by rw[<-hxx];exact c91 _,by rw[<-hyy];exact c91 _⟩;clear hxx hyy HX;have v1:IntKind.i64.wrap ((p:Int)+1)=(p:Int)+1:=c2j (by omega);have v2:IntKind.i64.wrap ((p:Int)+2)=(p:Int)+2:=c2j (by omega)
     go_wp2_with fail
     go_region_with ((go_at_call 44;first|(refine(HX1 _).mono ?_;rintro e w' ⟨rfl,rfl⟩)|(refine(HX2 _).mono ?_;rintro e w' ⟨rfl,rfl⟩)))
     all_goals (
      clear HX1 HX2
      by_cases hx:0<=x
      ·by_cases hy:0<=y
       ·have hx16:=HD.out.1 hx;have hy16:=HD.out.2 hy;have HN:Hid (a7y s.data.toList []=a7y (s.data.toList.drop (p+3)) (acc++[UInt8.ofNat (16*x.toNat+y.toNat)])):=a40 (by rw[HS.out,if_pos ⟨hx,hy⟩]);clear HS HD HM;obtain⟨x,rfl⟩:=Int.eq_ofNat_of_zero_le hx;obtain⟨y,rfl⟩:=Int.eq_ofNat_of_zero_le hy;simp only[Int.toNat_natCast]at HN hx16 hy16;have n1:¬((x:Int)<0):=by omega
        have n2:¬((y:Int)<0):=by omega
        clear hx hy
        go_wp2_with (go_at_call 43;refine(bwb w.heap.size w.heap.size _ _ _ (c7b HB.out) (by rw[Lib.byteCells_length];omega) hBw).mono ?_)
        first|rintro e w2 rfl h3 hb2|rintro e w2 ⟨rfl,h3,hb2⟩
        have HB2:Hid (Lib.IsBuilder 121 5 w.heap.size w.heap.size (Lib.byteCells (acc++[UInt8.ofNat (16*x+y)])) w2):=a40 (.inr (by rw[Lib.byteCells_append];rw[k8u x y hx16 hy16]at h3;exact h3));have HW2:=a40 ((Below.drew HW.out).trans hb2);clear h3 hb2
        go_wp2_with fail
        go_roundg (g - 2)
        case measure=>omega
        case rel=>exact⟨p+3,_,by go_num,by omega,HB2,HW2,HN,by simp;omega⟩
       ·have hm:=HM.out.2 (by omega);have HN:Hid (R=([],2)):=a40 (by rw[HR.out,b07,HS.out,if_neg (fun h=>hy h.2)]);clear HS HD HM hy;subst hm;have n1:¬(x<0):=by omega
        go_wp2_with fail
        go_ret2
        exact⟨i76 (by rw[HN.out]) (by rw[HN.out]),Below.drew HW.out⟩
      ·have hm:=HM.out.1 (by omega);have HN:Hid (R=([],2)):=a40 (by rw[HR.out,b07,HS.out,if_neg (fun h=>hx h.1)]);clear HS HD HM hx;subst hm
       go_wp2_with fail
       go_ret2
       exact⟨i76 (by rw[HN.out]) (by rw[HN.out]),Below.drew HW.out⟩)
    ·have HN:Hid (R=([],2)):=a40 (by
      have e:a7y s.data.toList []=none:=by
       rw[HR2.out,P6 s p hp,a7y.eq_def];simp only[HB0.out,ne_eq,not_true_eq_false,if_false];split
       ·rename_i a b r' he;exfalso;have:=congrArg List.length he;simp at this;have h3:s.data.size=s.size:=rfl;omega
       ·rfl
      rw[HR.out,b07,e])
     have jg:decide ((s.size:Int)<=(p:Int)+2)=true:=decide_eq_true (by omega);have jh:(s.size:Int)<=(p:Int)+2:=by omega
     go_wp2_with fail
     go_ret2
     exact⟨i76 (by rw[HN.out]) (by rw[HN.out]),HW.out⟩
   ·have HN:Hid (a7y s.data.toList []=a7y (s.data.toList.drop (p+1)) (acc++[s[p]])):=a40 (by rw[HR2.out,P6 s p hp,a7y.eq_def];simp only[ne_eq,hb,not_false_eq_true,if_true]);have hbn:¬(s[p].toNat:Int)=37:=fun h=>hb (UInt8.toNat_inj.1 (by have:((37:UInt8).toNat)=37:=rfl;omega))
    have hbq:((s[p].toNat:Int) !=37)=true:=by rw[bne_iff_ne];exact hbn
    clear hb hbn
    go_wp2_with (go_at_call 43;refine(bwb w.heap.size w.heap.size _ _ _ HB.out (by rw[Lib.byteCells_length];omega) hBw).mono ?_)
    rintro e w2 ⟨rfl,h2,hb2⟩;have HB2:Hid (Lib.IsBuilder 121 5 w.heap.size w.heap.size (Lib.byteCells (acc++[s[p]])) w2):=a40 (.inr (by rw[Lib.byteCells_append];exact h2));have HW2:=a40 (HW.out.trans hb2);clear h2 hb2
    go_wp2
    go_roundg g
    case measure=>omega
    case rel=>exact⟨p+1,acc++[s[p]],by go_num,by omega,HB2,HW2,HN,by simp;omega⟩
end
end Go.Proofs.YtkhgohfaecbgkaaGreatDoor.Lift
