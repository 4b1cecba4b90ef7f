/- Part 5 of the texts that prove GatewayChecksEnd. -/
import Derived.Test.YtkhgohfaecbgkaaGreatDoorGatewayChecksEndP3
import Derived.Test.YtkhgohfaecbgkaaGreatDoorGatewayChecksEndP2
import Derived.Test.YtkhgohfaecbgkaaGreatDoorProg
import Derived.WalkKit
import Derived.ProofKit
import Derived.Lib.Builder
import Derived.Laws.Externs
import Derived.Shelf.Strings.Builder1
import Derived.Shelf.Strings.Builder2
import Derived.Shelf.Small.Strs
import Derived.Shelf.Strings.BuilderF
import Derived.Shelf.Utf8.RuneCount
import Derived.Shelf.Strconv.Itoa0
import Derived.Shelf.Strconv.Itoa1
import Derived.Shelf.LaysM
import Derived.Shelf.Strconv.Itoa2
import Derived.Shelf.Strconv.Itoa3
import Derived.Shelf.Strings.Search1
import Derived.Shelf.Strings.Search2
import Derived.Shelf.Strings.Search3
import Derived.Shelf.Strings.Cut
import Derived.Shelf.Strings.Count
import Derived.Shelf.Strings.Shaped
import Derived.Shelf.Strings.Split
import Derived.Shelf.Strings.SplitShaped
import Derived.Shelf.Unicode.Decode
import Derived.Shelf.Strings.RuneCount
import Derived.Shelf.Strings.Explode
import Derived.Shelf.Bits.Mul64
import Derived.Shelf.Unicode.DecodeSlow
import Derived.Shelf.Unicode.DecodeAny
import Derived.Ground.Names2Prog
import Derived.Shelf.Slices.SearchI
import Derived.Lib.Strings
import Derived.Lib.Slices
import Derived.Lib.Walk
import Derived.Lib.AppendStr
import Derived.Lib.UnsafeStr
import Derived.Lib.MakeNoZero
import Derived.Laws.IdiomCopy
import Derived.Laws.BitsLemmas
import Derived.RegionCalls
import Derived.Deep.RegionWith
namespace Go.Proofs.YtkhgohfaecbgkaaGreatDoor.Lift
open Go.RowKit
set_option linter.unusedVariables false
set_option linter.unusedSimpArgs false
set_option linter.unnecessarySimpa false
set_option linter.unusedSectionVars false
set_option maxRecDepth 100000
section
attribute [local irreducible] Ok run put d4b br jn pos dr0 So
attribute [-simp] List.map_take List.map_drop List.map_append List.map_set List.map_replicate List.map_cons List.map_map
attribute [local simp] plain plainL a55 a37 X5 low lowL lowLL I7 G7 G4 D6 I8 G6 G8 G3 H3 F4 W4 M3 a0e G5 F5 N7 K2 E8 F8 K6 H9 K5 H8 K1 E4 D8 E7 N2 I9 D5 F6 P8 M7 P7 O7 H5 J1 H0 I5 C3 N9 G9 J3 a5n a2k b1e a7o Z4 L2 b2r a9g b12 d5g c4b c4t G0 c3w c4e c43 c5r a4w J4 eFn eL c2q b95 b9b b8h c3z b8n b76 b7z c3p c73 b34 c24 b47 b97 b94 b9i b48 b8g a82 b74 b8c b1v a8k b03 b37 c0k c3r a8m b98 c7m c3k c2y b9g b88 b8y c2h c0e b82 b8a c3j c7h b5h c2l b38 b8v c0h b7y b5e c0i a9a c0j b8r b0y a9l b1b b35 b7s c2e a8o b9d b43 c2s b5k b8b b9u b90 b5f b9w a8e b89 b79 b0x a78 b1g b4d b7u c21 a8f b9c b9r
theorem m42(r:Bool):plain (e3 r)=true:=rfl
theorem a6s(mg:Int)(s:A2)(l:(List B4))(r:Bool)(hw:∃y1,b4a s l y1/\(((!y1)=true->∃y2,b19 mg y2/\(r=y2))/\((!y1)=false->∃y3,a61 mg s l y3/\(∃y4,b1i s l y4/\(((y3==y4)=true->∃y5,b19 mg y5/\(r=y5))/\((y3==y4)=false->r=false)))))):a4u mg s l r:=
 fP (KC 11 (pgX mg hw) pl6 fun _ hw=>KW 3 hw (fun _ hw=>KC 2 hw pl7 fun _ hw=>KR 5 hw m42) fun _ hw=>KD 3 [0]<|KC 2 hw pl8 fun _ hw=>KC 3 (pgX mg hw) pl9 fun _ hw=>KW 2 hw (fun _ hw=>KC 0 hw pl7 fun _ hw=>KR 5 hw m42) fun _ hw=>KR 6 hw m42)
theorem n6j(r:Bool):plain (e6 r)=true:=rfl
theorem a4x(s:A2)(l:(List B4))(r:Bool)(hw:∃y1,b0z l y1/\((y1=true->∃y2,b1n s y2/\((y2=true->∃y3,b2i s y3/\(r=y3))/\(y2=false->r=false)))/\(y1=false->r=false))):b4a s l r:=
 fP (KC 9 hw o38 fun _ hw=>KW 1 hw (fun _ hw=>KC 1 hw o6c fun _ hw=>KW 2 hw (fun _ hw=>KC 1 hw o58 fun _ hw=>KR 5 hw n6j) fun _ hw=>KR 7 hw n6j) fun _ hw=>KR 11 hw n6j)
theorem l9k(r:Int):plain (e8 r)=true:=rfl
def Z2(ij3:Int)(l:(List B4))(mg:Int)(r:Int):Prop:=J Tryz.prog 8 (.ret (e8 r)) 16 [(28,aI ij3),(27,aI (l.length:Int)),(26,.sl (List.map B9 l) .no),(1,.sl (List.map B9 l) .no)] ⟨[],[],GLm mg⟩
def Z3(ij2:Int)(l:(List B4))(s:A2)(mg:Int)(r:Int):Prop:=J Tryz.prog 8 (.ret (e8 r)) 6 [(15,aI ij2),(14,aI (l.length:Int)),(13,.sl (List.map B9 l) .no),(2,.ptr 0 0),(1,.sl (List.map B9 l) .no)] ⟨[some (A4 s)],[],GLm mg⟩
theorem a3f{ij3:Int}{l:(List B4)}:a55 [] 0 [(28,aI ij3),(27,aI (l.length:Int)),(26,.sl (List.map B9 l) .no),(1,.sl (List.map B9 l) .no)]=true/\a37 [] 0 []=true:=⟨by first|rfl|simp,by first|rfl|simp⟩
theorem b0c{ij2:Int}{l:(List B4)}{s:A2}:a55 [true] 0 [(15,aI ij2),(14,aI (l.length:Int)),(13,.sl (List.map B9 l) .no),(2,.ptr 0 0),(1,.sl (List.map B9 l) .no)]=true/\a37 [true] 0 [some (A4 s)]=true:=⟨by first|rfl|simp,by first|rfl|simp⟩
theorem a2h(ij3:Int)(l:(List B4))(mg:Int)(r:Int)(hw:((decide (ij3<(l.length:Int)))=true->∃y9,l[ij3.toNat]? =some y9/\0<=ij3/\((0<=(0:Int)/\(0:Int)<=ij3/\ij3<=(l.length:Int))/\(∃y10,I6 mg ((l.take ij3.toNat).drop (0:Int).toNat) (⟨25,[],[.elt (B9 y9) 0],by simp⟩:GFn) y10/\((y10=true->r=9)/\(y10=false->Z2 (wI (ij3+1)) l mg r)))))/\((decide (ij3<(l.length:Int)))=false->r=0)):Z2 ij3 l mg r:=
 KW 7 hw (fun _ hw=>KI 7 O0 hw fun y9 hw=>KFz 7 0 [false] 0 [(8,aI ij3),(9,.elt (B9 y9) 0),(28,aI ij3),(27,aI (l.length:Int)),(26,.sl (List.map B9 l) .no),(1,.sl (List.map B9 l) .no)] [none] ⟨by first|rfl|simp,by first|rfl|simp⟩<|KSV 3 O0 hw fun hw=>KC 1 hw o4i fun _ hw=>KW 2 hw (fun _ hw=>KR 11 hw l9k) fun _ hw=>KJl 8 [] hw a3f) fun _ hw=>KR 11 hw l9k
theorem a2q(ij2:Int)(l:(List B4))(s:A2)(mg:Int)(r:Int)(hw:((decide (ij2<(l.length:Int)))=true->∃y11,l[ij2.toNat]? =some y11/\0<=ij2/\(∃y12,a1g mg s y11 y12/\(((y12 !=0)=true->r=y12)/\((y12 !=0)=false->Z3 (wI (ij2+1)) l s mg r))))/\((decide (ij2<(l.length:Int)))=false->Z2 0 l mg r)):Z3 ij2 l s mg r:=
 KW 7 hw (fun _ hw=>KI 6 O0 hw fun _ hw=>KC 9 hw o4l fun _ hw=>KW 9 hw (fun _ hw=>KR 12 hw l9k) fun _ hw=>KJl 8 [] hw b0c) fun _ hw=>KL 9 O0 l<|KJl 5 [] hw a3f
theorem b3o(mg:Int)(s:A2)(l:(List B4))(r:Int)(hw:((decide (64<(l.length:Int)))=true->r=3)/\((decide (64<(l.length:Int)))=false->Z3 0 l s mg r)):a61 mg s l r:=
 fP (KL 10 O0 l<|KW 3 hw (fun _ hw=>KR 7 hw l9k) fun _ hw=>KL 6 O0 l<|KJ 5 [] hw)
theorem l9t(r:Int):plain (e9 r)=true:=rfl
def a0k(ij5:Int)(ij4:Int)(l:(List B4))(r:Int):Prop:=JP Tryz.prog 9 (e9 r) 20 [(8,aI ij5),(7,aI ij4),(1,.sl (List.map B9 l) .no)]
def U5(ij4:Int)(l:(List B4))(r:Int):Prop:=JP Tryz.prog 9 (e9 r) 15 [(7,aI ij4),(1,.sl (List.map B9 l) .no)]
def a1z(ij3:Int)(l:(List B4))(s:A2)(r:Int):Prop:=J Tryz.prog 9 (.ret (e9 r)) 6 [(5,aI ij3),(2,.ptr 0 0),(1,.sl (List.map B9 l) .no)] ⟨[some (A4 s)],[],[]⟩
theorem b2g{ij4:Int}{l:(List B4)}:a55 [] 0 [(7,aI ij4),(1,.sl (List.map B9 l) .no)]=true/\a37 [] 0 []=true:=⟨by first|rfl|simp,by first|rfl|simp⟩
theorem a3h(ij5:Int)(ij4:Int)(l:(List B4))(r:Int)(hw:((decide (ij5<ij4))=true->∃y12,l[ij5.toNat]? =some y12/\0<=ij5/\(∃y13,l[ij4.toNat]? =some y13/\0<=ij4/\(∃y14,a86 y12 y13 y14/\((y14=true->r=9)/\(y14=false->a0k (wI (ij5+1)) ij4 l r)))))/\((decide (ij5<ij4))=false->U5 (wI (ij4+1)) l r)):a0k ij5 ij4 l r:=
 KW 9 hw (fun _ hw=>KD 5 []<|KI 2 O0 hw fun _ hw=>KI 3 O0 hw fun _ hw=>KC 2 hw o6d fun _ hw=>KW 2 hw (fun _ hw=>KR 15 hw l9t) fun _ hw=>KJ 9 [] hw) fun _ hw=>KJ 12 [] hw
theorem a25(ij4:Int)(l:(List B4))(r:Int)(hw:((decide (ij4<(l.length:Int)))=true->a0k 0 ij4 l r)/\((decide (ij4<(l.length:Int)))=false->r=0)):U5 ij4 l r:=
 KL 6 O0 l<|KW 3 hw (fun _ hw=>KJ 11 [] hw) fun _ hw=>KR 11 hw l9t
theorem a4r(ij3:Int)(l:(List B4))(s:A2)(r:Int)(hw:((decide (ij3<(l.length:Int)))=true->∃y15,l[ij3.toNat]? =some y15/\0<=ij3/\(∃y16,b08 s y15 y16/\(((y16 !=0)=true->r=y16)/\((y16 !=0)=false->a1z (wI (ij3+1)) l s r))))/\((decide (ij3<(l.length:Int)))=false->U5 0 l r)):a1z ij3 l s r:=
 KL 6 O0 l<|KW 3 hw (fun _ hw=>KD 5 [0]<|KI 3 O0 hw fun _ hw=>KC 2 hw o3u fun _ hw=>KW 9 hw (fun _ hw=>KR 12 hw l9t) fun _ hw=>KJ 9 [] hw) fun _ hw=>KJl 13 [] hw b2g
theorem b6w(s:A2)(l:(List B4))(r:Int)(hw:((decide (64<(l.length:Int)))=true->r=3)/\((decide (64<(l.length:Int)))=false->a1z 0 l s r)):b1i s l r:=
 fP (KL 10 O0 l<|KW 3 hw (fun _ hw=>KR 7 hw l9t) fun _ hw=>KJ 10 [] hw)
theorem d65(r:Bool):plain (e10 r)=true:=rfl
def a13(ij1:Int)(l:(List B4))(r:Bool):Prop:=JP Tryz.prog 10 (e10 r) 6 [(3,aI ij1),(0,.sl (List.map B9 l) .no)]
theorem a4d(ij1:Int)(l:(List B4))(r:Bool)(hw:((decide (ij1<(l.length:Int)))=true->∃y10,l[ij1.toNat]? =some y10/\0<=ij1/\(∃R4:Bool->Prop,(∀bz4:Bool,R4 bz4->(∃R5:Bool->Prop,(∀bz5:Bool,R5 bz5->(∃R6:Bool->Prop,(∀bz6:Bool,R6 bz6->((bz6=true->r=false)/\(bz6=false->∃y18,l[ij1.toNat]? =some y18/\0<=ij1/\(((decide (300<(y18.Body.size:Int)))=true->r=false)/\((decide (300<(y18.Body.size:Int)))=false->a13 (wI (ij1+1)) l r)))))/\((bz5=true->R6 true)/\(bz5=false->∃y16,l[ij1.toNat]? =some y16/\0<=ij1/\(R6 (decide (300<(y16.Method.size:Int))))))))/\((bz4=true->R5 true)/\(bz4=false->∃y14,l[ij1.toNat]? =some y14/\0<=ij1/\(R5 (decide (300<(y14.Service.size:Int))))))))/\(((decide (300<(y10.Verb.size:Int)))=true->R4 true)/\((decide (300<(y10.Verb.size:Int)))=false->∃y12,l[ij1.toNat]? =some y12/\0<=ij1/\(R4 (decide (300<(y12.Path.size:Int))))))))/\((decide (ij1<(l.length:Int)))=false->r=true)):a13 ij1 l r:=
 KL 6 O0 l<|KW 3 hw (fun _ hw=>KI 8 O0 hw fun _ hw=>KQ 5 8 kB hw (fun _ hw=>KQ 1 8 kB hw (fun _ hw=>KQ 1 8 kB hw (fun _ hw=>KW 1 hw (fun _ hw=>KR 22 hw d65) fun _ hw=>KI 2 O0 hw fun _ hw=>KW 7 hw (fun _ hw=>KR 11 hw d65) fun _ hw=>KJ 9 [] hw) (fun _ key _ hw=>KE 8 key hw) fun _ key _ hw=>KI 2 O0 hw fun _ hw=>KE 5 key hw) (fun _ key _ hw=>KE 8 key hw) fun _ key _ hw=>KI 2 O0 hw fun _ hw=>KE 5 key hw) (fun _ key _ hw=>KE 8 key hw) fun _ key _ hw=>KI 2 O0 hw fun _ hw=>KE 5 key hw) fun _ hw=>KR 11 hw d65
theorem a7s(l:(List B4))(r:Bool)(hw:((decide (70<(l.length:Int)))=true->r=false)/\((decide (70<(l.length:Int)))=false->a13 0 l r)):b0z l r:=
 fP (KL 9 O0 l<|KW 3 hw (fun _ hw=>KR 7 hw d65) fun _ hw=>KJ 10 [] hw)
theorem j56(r:Bool):plain (e14 r)=true:=rfl
def a0q(ij37:Int)(ij38:Int)(ij35:Int)(s:A2)(y149:C4)(r:Bool):Prop:=J Tryz.prog 14 (.ret (e14 r)) 43 [(13,aI ij37),(3,aI ij38),(12,.ptr 1 0),(11,aI ij35),(1,.ptr 0 0)] ⟨[some (A4 s),some (D9 y149)],[],[]⟩
def U1(ij35:Int)(ij36:Int)(s:A2)(r:Bool):Prop:=J Tryz.prog 14 (.ret (e14 r)) 36 [(11,aI ij35),(3,aI ij36),(1,.ptr 0 0)] ⟨[some (A4 s)],[],[]⟩
def a02(ij39:Int)(ij40:Int)(ij31:Int)(s:A2)(y164:a20)(r:Bool):Prop:=J Tryz.prog 14 (.ret (e14 r)) 30 [(10,aI ij39),(3,aI ij40),(9,.ptr 1 0),(8,aI ij31),(1,.ptr 0 0)] ⟨[some (A4 s),some (a1m y164)],[],[]⟩
def T6(ij31:Int)(ij32:Int)(s:A2)(r:Bool):Prop:=J Tryz.prog 14 (.ret (e14 r)) 23 [(8,aI ij31),(3,aI ij32),(1,.ptr 0 0)] ⟨[some (A4 s)],[],[]⟩
def U0(ij41:Int)(ij42:Int)(ij21:Int)(s:A2)(y175:A9)(r:Bool):Prop:=J Tryz.prog 14 (.ret (e14 r)) 14 [(6,aI ij41),(3,aI ij42),(5,.ptr 1 0),(4,aI ij21),(1,.ptr 0 0)] ⟨[some (A4 s),some (C6 y175)],[],[]⟩
def U3(ij21:Int)(ij22:Int)(s:A2)(r:Bool):Prop:=J Tryz.prog 14 (.ret (e14 r)) 7 [(4,aI ij21),(3,aI ij22),(1,.ptr 0 0)] ⟨[some (A4 s)],[],[]⟩
theorem b1q{ij35:Int}{ij36:Int}{s:A2}:a55 [true] 0 [(11,aI ij35),(3,aI ij36),(1,.ptr 0 0)]=true/\a37 [true] 0 [some (A4 s)]=true:=⟨by first|rfl|simp,by first|rfl|simp⟩
theorem b1x{ij31:Int}{ij32:Int}{s:A2}:a55 [true] 0 [(8,aI ij31),(3,aI ij32),(1,.ptr 0 0)]=true/\a37 [true] 0 [some (A4 s)]=true:=⟨by first|rfl|simp,by first|rfl|simp⟩
theorem a4g{ij41:Int}{ij42:Int}{ij21:Int}{s:A2}{y175:A9}:a55 [true,true] 0 [(6,aI ij41),(3,aI ij42),(5,.ptr 1 0),(4,aI ij21),(1,.ptr 0 0)]=true/\a37 [true,true] 0 [some (A4 s),some (C6 y175)]=true:=⟨by first|rfl|simp,by first|rfl|simp⟩
theorem b02{ij21:Int}{ij22:Int}{s:A2}:a55 [true] 0 [(4,aI ij21),(3,aI ij22),(1,.ptr 0 0)]=true/\a37 [true] 0 [some (A4 s)]=true:=⟨by first|rfl|simp,by first|rfl|simp⟩
theorem a27(ij37:Int)(ij38:Int)(ij35:Int)(s:A2)(y149:C4)(r:Bool)(hw:(((decide (ij37<(y149.Methods.length:Int)))&&(decide (0<=ij38)))=true->∃y158,y149.Methods[ij37.toNat]? =some y158/\0<=ij37/\(∃y159,L1 y158.Notes ij38 y159/\(∃y160,y149.Methods[ij37.toNat]? =some y160/\0<=ij37/\(∃y161,y149.Methods[ij37.toNat]? =some y161/\0<=ij37/\(∃y162,y149.Methods[ij37.toNat]? =some y162/\0<=ij37/\(∃y163,J6 ([y160.Name,y161.In,y162.Out]:(List ByteArray)) ij38 y163/\(a0q (wI (ij37+1)) (wI ((wI ((wI (ij38 - y159)) - y163))+2)) ij35 s y149 r)))))))/\(((decide (ij37<(y149.Methods.length:Int)))&&(decide (0<=ij38)))=false->U1 (wI (ij35+1)) ij38 s r)):a0q ij37 ij38 ij35 s y149 r:=
 KL 7 T2 y149.Methods<|KT 2 3<|KW 2 hw (fun _ hw=>KD 4 [1]<|KI 4 T2 hw fun _ hw=>KC 3 hw h39 fun _ hw=>KI 4 T2 hw fun _ hw=>KI 5 T2 hw fun _ hw=>KI 5 T2 hw fun _ hw=>KC 4 hw h29 fun _ hw=>KJ 13 [] hw) fun _ hw=>KJl 12 [] hw b1q
theorem a3j(ij35:Int)(ij36:Int)(s:A2)(r:Bool)(hw:(((decide (ij35<(s.Services.length:Int)))&&(decide (0<=ij36)))=true->∃y149,s.Services[ij35.toNat]? =some y149/\0<=ij35/\(∃y150,L1 y149.Notes ij36 y150/\(∃y151,J6 ([y149.Name]:(List ByteArray)) ij36 y151/\(a0q 0 (wI ((wI (ij36 - y150)) - y151)) ij35 s y149 r))))/\(((decide (ij35<(s.Services.length:Int)))&&(decide (0<=ij36)))=false->r=(decide (0<=ij36)))):U1 ij35 ij36 s r:=
 KL 7 P0 s.Services<|KT 2 3<|KW 2 hw (fun _ hw=>KI 9 P0 hw fun _ hw=>KD 6 [1]<|KC 4 hw h39 fun _ hw=>KC 5 hw h29 fun _ hw=>KJ 12 [] hw) fun _ hw=>KR 13 hw j56
theorem a3k(ij39:Int)(ij40:Int)(ij31:Int)(s:A2)(y164:a20)(r:Bool)(hw:(((decide (ij39<(y164.Items.length:Int)))&&(decide (0<=ij40)))=true->∃y171,y164.Items[ij39.toNat]? =some y171/\0<=ij39/\(∃y172,L1 y171.Notes ij40 y172/\(∃y173,y164.Items[ij39.toNat]? =some y173/\0<=ij39/\(∃y174,J6 ([y173.Name]:(List ByteArray)) ij40 y174/\(a02 (wI (ij39+1)) (wI ((wI (ij40 - y172)) - y174)) ij31 s y164 r)))))/\(((decide (ij39<(y164.Items.length:Int)))&&(decide (0<=ij40)))=false->T6 (wI (ij31+1)) ij40 s r)):a02 ij39 ij40 ij31 s y164 r:=
 KL 7 a6r y164.Items<|KT 2 3<|KW 2 hw (fun _ hw=>KD 4 [1]<|KI 4 a6r hw fun _ hw=>KC 3 hw h39 fun _ hw=>KI 4 a6r hw fun _ hw=>KC 4 hw h29 fun _ hw=>KJ 12 [] hw) fun _ hw=>KJl 12 [] hw b1x
theorem a24(ij31:Int)(ij32:Int)(s:A2)(r:Bool)(hw:(((decide (ij31<(s.Enums.length:Int)))&&(decide (0<=ij32)))=true->∃y164,s.Enums[ij31.toNat]? =some y164/\0<=ij31/\(∃y165,L1 y164.Notes ij32 y165/\(∃y166,J6 ([y164.Name]:(List ByteArray)) ij32 y166/\(a02 0 (wI ((wI ((wI (ij32 - y165)) - (y164.Reserved.length:Int))) - y166)) ij31 s y164 r))))/\(((decide (ij31<(s.Enums.length:Int)))&&(decide (0<=ij32)))=false->U1 0 ij32 s r)):T6 ij31 ij32 s r:=
 KL 7 a7t s.Enums<|KT 2 3<|KW 2 hw (fun _ hw=>KI 9 a7t hw fun y164 hw=>KD 6 [1]<|KC 4 hw h39 fun _ hw=>KL 3 a5b y164.Reserved<|KC 5 hw h29 fun _ hw=>KJ 12 [] hw) fun _ hw=>KJ 13 [] hw
theorem a3b(ij41:Int)(ij42:Int)(ij21:Int)(s:A2)(y175:A9)(r:Bool)(hw:(((decide (ij41<(y175.Fields.length:Int)))&&(decide (0<=ij42)))=true->∃y182,y175.Fields[ij41.toNat]? =some y182/\0<=ij41/\(∃y183,L1 y182.Notes ij42 y183/\(∃y184,J6 ([y182.Name,y182.Type_.Name,y182.Union]:(List ByteArray)) ij42 y184/\(((decide (300<(y182.Default.Text.size:Int)))=true->U0 (wI (ij41+1)) (-1) ij21 s y175 r)/\((decide (300<(y182.Default.Text.size:Int)))=false->U0 (wI (ij41+1)) (wI ((wI ((wI ((wI (ij42 - 1)) - y183)) - y184))+3)) ij21 s y175 r)))))/\(((decide (ij41<(y175.Fields.length:Int)))&&(decide (0<=ij42)))=false->U3 (wI (ij21+1)) ij42 s r)):U0 ij41 ij42 ij21 s y175 r:=
 KL 7 F7 y175.Fields<|KT 2 3<|KW 2 hw (fun _ hw=>KI 9 F7 hw fun _ hw=>KD 6 [2]<|KC 5 hw h39 fun _ hw=>KC 10 hw h29 fun _ hw=>KW 15 hw (fun _ hw=>KJl 11 [] hw a4g) fun _ hw=>KJl 9 [] hw a4g) fun _ hw=>KJl 12 [] hw b02
theorem a29(ij21:Int)(ij22:Int)(s:A2)(r:Bool)(hw:(((decide (ij21<(s.Messages.length:Int)))&&(decide (0<=ij22)))=true->∃y175,s.Messages[ij21.toNat]? =some y175/\0<=ij21/\(∃y176,L1 y175.Notes ij22 y176/\(∃y177,J6 y175.Gone ij22 y177/\(∃y178,J6 ([y175.Name]:(List ByteArray)) ij22 y178/\(U0 0 (wI ((wI ((wI ((wI (ij22 - y176)) - (y175.Reserved.length:Int))) - y177)) - y178)) ij21 s y175 r)))))/\(((decide (ij21<(s.Messages.length:Int)))&&(decide (0<=ij22)))=false->T6 0 ij22 s r)):U3 ij21 ij22 s r:=
 KL 7 I0 s.Messages<|KT 2 3<|KW 2 hw (fun _ hw=>KI 9 I0 hw fun y175 hw=>KD 6 [1]<|KC 4 hw h39 fun _ hw=>KL 3 a5b y175.Reserved<|KC 4 hw h29 fun _ hw=>KC 5 hw h29 fun _ hw=>KJ 12 [] hw) fun _ hw=>KJ 13 [] hw
theorem b6y(s:A2)(r:Bool)(hw:(((((decide (150<(s.Messages.length:Int)))||(decide (150<(s.Enums.length:Int))))||(decide (150<(s.Services.length:Int))))||(decide (150<(wI ((wI ((s.Messages.length:Int)+(s.Enums.length:Int)))+(s.Services.length:Int))))))=true->r=false)/\(((((decide (150<(s.Messages.length:Int)))||(decide (150<(s.Enums.length:Int))))||(decide (150<(s.Services.length:Int))))||(decide (150<(wI ((wI ((s.Messages.length:Int)+(s.Enums.length:Int)))+(s.Services.length:Int))))))=false->U3 0 400 s r)):b1n s r:=
 fP (KL 11 I0 s.Messages<|KT2 2 5 (decide (150<(s.Messages.length:Int))) (fun z=>aB (z||(decide (150<(s.Enums.length:Int))))) (fun _ key=>KE2 5 key) (fun _ key=>KL 2 a7t s.Enums<|KE2 2 key)<|KT2 1 5 ((decide (150<(s.Messages.length:Int)))||(decide (150<(s.Enums.length:Int)))) (fun z=>aB (z||(decide (150<(s.Services.length:Int))))) (fun _ key=>KE2 5 key) (fun _ key=>KL 2 P0 s.Services<|KE2 2 key)<|KT2 1 13 (((decide (150<(s.Messages.length:Int)))||(decide (150<(s.Enums.length:Int))))||(decide (150<(s.Services.length:Int)))) (fun z=>aB (z||(decide (150<(wI ((wI ((s.Messages.length:Int)+(s.Enums.length:Int)))+(s.Services.length:Int))))))) (fun _ key=>KE2 13 key) (fun _ key=>KL 2 I0 s.Messages<|KL 2 a7t s.Enums<|KL 3 P0 s.Services<|KE2 3 key)<|KW 2 hw (fun _ hw=>KR 7 hw j56) fun _ hw=>KJ 15 [] hw)
theorem l92(r:Bool):plain (e15 r)=true:=rfl
theorem b6g(s:A2)(r:Bool)(hw:∃y1,c45 s y1/\(r=((y1.length:Int)==0))):b2i s r:=
 fP (KC 9 hw o41 fun y1 hw=>KL 0 a8z y1<|KR 5 hw l92)
theorem c4s(r:Int):plain (e23 r)=true:=rfl
theorem a7h(mg:Int)(s:A2)(r_:B4)(r:Int)(hw:∃y1,P2 mg r_.Path y1/\(∃R1:Bool->Prop,(∀bz1:Bool,R1 bz1->((bz1=true->r=2)/\(bz1=false->∃y3,b13 r_.Service r_.Method y3/\(∃y4,b01 mg s y3 y4/\(((y4.2 !=0)=true->r=y4.2)/\((y4.2 !=0)=false->((y4.1.Shape !=1)=true->r=12)/\((y4.1.Shape !=1)=false->∃y5,S7 mg s y4.1.In r_ y5/\(((y5.2 !=0)=true->r=y5.2)/\((y5.2 !=0)=false->∃y6,a5w s y4.1.In r_ y6/\(((((!y6.2)&&(!(decide (r_.Body=(⟨#[]⟩:ByteArray)))))&&(!(decide (r_.Body=(⟨#[42]⟩:ByteArray)))))=true->r=8)/\((((!y6.2)&&(!(decide (r_.Body=(⟨#[]⟩:ByteArray)))))&&(!(decide (r_.Body=(⟨#[42]⟩:ByteArray)))))=false->(y6.2=true->∃y7,F1 y5.1 (⟨57,[],[.elt (C0 y6.1) 0],by simp⟩:GFn) y7/\((y7=true->r=9)/\(y7=false->r=0)))/\(y6.2=false->r=0))))))))))))/\(((!y1.2)=true->R1 true)/\((!y1.2)=false->∃y2,J7 ([(⟨#[71,69,84]⟩:ByteArray),(⟨#[80,85,84]⟩:ByteArray),(⟨#[80,79,83,84]⟩:ByteArray),(⟨#[80,65,84,67,72]⟩:ByteArray),(⟨#[68,69,76,69,84,69]⟩:ByteArray)]:(List ByteArray)) r_.Verb y2/\(R1 (!y2)))))):a1g mg s r_ r:=
 fP (KC 12 hw l9h fun _ hw=>KQ 12 6 kB hw (fun _ hw=>KW 2 hw (fun _ hw=>KR 7 hw c4s) fun _ hw=>KD 3 [0,1]<|KC 5 (pgX mg hw) o6l fun _ hw=>KC 0 hw o4s fun y4 hw=>KV 4<|KW 11 hw (fun _ hw=>KR 8 hw c4s) fun _ hw=>KW 10 hw (fun _ hw=>KR 7 hw c4s) fun _ hw=>KC 8 hw o5v fun y5 hw=>KW 14 hw (fun _ hw=>KR 8 hw c4s) fun _ hw=>KC 8 (pgX mg hw) o4e fun y6 hw=>KT 14 4<|KT 1 4<|KW 2 hw (fun _ hw=>KR 7 hw c4s) fun _ hw=>KFz 4 3 [true,true,true,false] 0 [(11,aB y6.2),(10,.elt (C0 y6.1) 0),(9,.sl (List.map (eL G0) y5.1) .no)] [some (A4 s),some (B9 r_),some (H1 y4.1),none] ⟨by first|rfl|simp,by first|rfl|simp⟩<|KW 3 hw (fun _ hw=>KC 2 (pgX mg hw) o2z fun _ hw=>KW 3 hw (fun _ hw=>KR 7 hw c4s) fun _ hw=>KR 8 hw c4s) fun _ hw=>KR 15 hw c4s) (fun _ key _ hw=>KE 6 key hw) fun _ key _ hw=>KC 3 (pgX mg hw) o5n fun _ hw=>KE 2 key hw)
theorem n5z(r:Bool):plain (e24 r)=true:=rfl
theorem X2(mg:Int)(s:(List B4))(f:GFn)(r:Bool)(hw:∃y1,Q9 mg s f y1/\(r=(decide (0<=y1)))):I6 mg s f r:=
 fP (KC 9 hw o4z fun _ hw=>KR 5 hw n5z)
theorem f17(r:Bool):plain (e26 r)=true:=rfl
def N6(ij1:Int)(y1:((List ByteArray) × Bool))(y2:((List ByteArray) × Bool))(mg:Int)(r:Bool):Prop:=J Tryz.prog 26 (.ret (e26 r)) 8 [(36,aI ij1),(35,aI (y1.1.length:Int)),(7,.sl (List.map J4 y2.1) .no),(5,.sl (List.map J4 y1.1) .no)] ⟨[],[],GLm mg⟩
theorem a77{ij1:Int}{y1:((List ByteArray) × Bool)}{y2:((List ByteArray) × Bool)}:a55 [] 0 [(36,aI ij1),(35,aI (y1.1.length:Int)),(7,.sl (List.map J4 y2.1) .no),(5,.sl (List.map J4 y1.1) .no)]=true/\a37 [] 0 []=true:=⟨by first|rfl|simp,by first|rfl|simp⟩
theorem a0y(ij1:Int)(y1:((List ByteArray) × Bool))(y2:((List ByteArray) × Bool))(mg:Int)(r:Bool)(hw:((decide (ij1<(y1.1.length:Int)))=true->∃y10,y1.1[ij1.toNat]? =some y10/\0<=ij1/\(∃y11,V0 y10 y11/\(∃R4:Bool->Prop,(∀bz4:Bool,R4 bz4->((bz4=true->∃y15,y1.1[ij1.toNat]? =some y15/\0<=ij1/\(∃y16,y2.1[ij1.toNat]? =some y16/\0<=ij1/\(((!(decide (y15=y16)))=true->r=false)/\((!(decide (y15=y16)))=false->N6 (wI (ij1+1)) y1 y2 mg r))))/\(bz4=false->N6 (wI (ij1+1)) y1 y2 mg r)))/\((y11=true->∃y13,y2.1[ij1.toNat]? =some y13/\0<=ij1/\(∃y14,V0 y13 y14/\(R4 y14)))/\(y11=false->R4 false)))))/\((decide (ij1<(y1.1.length:Int)))=false->r=true)):N6 ij1 y1 y2 mg r:=
 KW 7 hw (fun _ hw=>KD 11 []<|KI 2 a0l hw fun _ hw=>KC 1 (pgX mg hw) m7w fun _ hw=>KQ 1 6 kB hw (fun _ hw=>KW 1 hw (fun _ hw=>KI 2 a0l hw fun _ hw=>KI 3 a0l hw fun _ hw=>KW 6 hw (fun _ hw=>KR 11 hw f17) fun _ hw=>KJ 8 [] hw) fun _ hw=>KJ 22 [] hw) (fun _ key _ hw=>KI 2 a0l hw fun _ hw=>KC 1 (pgX mg hw) m7w fun _ hw=>KE 1 key hw) fun _ key _ hw=>KE 6 key hw) fun _ hw=>KR 11 hw f17
theorem b0h(mg:Int)(a:B4)(b:B4)(r:Bool)(hw:∃y1,P2 mg a.Path y1/\(∃y2,P2 mg b.Path y2/\((((!(decide (a.Verb=b.Verb)))||((y1.1.length:Int) !=(y2.1.length:Int)))=true->r=false)/\(((!(decide (a.Verb=b.Verb)))||((y1.1.length:Int) !=(y2.1.length:Int)))=false->N6 0 y1 y2 mg r)))):a4i mg a b r:=
 fP (KC 11 hw l9h fun y1 hw=>KC 11 hw l9h fun y2 hw=>KT2 16 6 (!(decide (a.Verb=b.Verb))) (fun z=>aB (z||((y1.1.length:Int) !=(y2.1.length:Int)))) (fun _ key=>KE2 6 key) (fun _ key=>KL 1 a0l y1.1<|KL 1 a0l y2.1<|KE2 2 key)<|KW 2 hw (fun _ hw=>KR 7 hw f17) fun _ hw=>KL 6 a0l y1.1<|KJl 5 [] hw a77)
theorem d6u(r:Int):plain (e27 r)=true:=rfl
theorem b6k(s:A2)(r_:B4)(r:Int)(hw:∃y1,a1e r_.Path y1/\(∃R1:Bool->Prop,(∀bz1:Bool,R1 bz1->((bz1=true->r=2)/\(bz1=false->∃y3,b4w r_.Service r_.Method y3/\(∃y4,b4m s y3 y4/\(((y4.2 !=0)=true->r=y4.2)/\((y4.2 !=0)=false->((y4.1.Shape !=1)=true->r=12)/\((y4.1.Shape !=1)=false->∃y5,a9i s y4.1.In r_ y1.1 y5/\(r=y5))))))))/\(((!y1.2)=true->R1 true)/\((!y1.2)=false->∃y2,c1x r_.Verb y2/\(R1 (!y2)))))):b08 s r_ r:=
 fP (KC 11 hw o1k fun _ hw=>KQ 13 5 kB hw (fun _ hw=>KW 2 hw (fun _ hw=>KR 7 hw d6u) fun _ hw=>KD 3 [0,1]<|KC 5 hw o5t fun _ hw=>KC 0 hw o6n fun _ hw=>KV 4<|KW 11 hw (fun _ hw=>KR 8 hw d6u) fun _ hw=>KW 10 hw (fun _ hw=>KR 7 hw d6u) fun _ hw=>KC 9 hw o6q fun _ hw=>KR 4 hw d6u) (fun _ key _ hw=>KE 5 key hw) fun _ key _ hw=>KC 2 hw o4v fun _ hw=>KE 2 key hw)
theorem f2a(r:Bool):plain (e28 r)=true:=rfl
def T9(ij1:Int)(y2:((List ByteArray) × Bool))(y1:((List ByteArray) × Bool))(r:Bool):Prop:=JP Tryz.prog 28 (e28 r) 8 [(9,aI ij1),(7,.sl (List.map J4 y2.1) .no),(5,.sl (List.map J4 y1.1) .no)]
theorem b10{ij1:Int}{y2:((List ByteArray) × Bool)}{y1:((List ByteArray) × Bool)}:a55 [] 0 [(9,aI ij1),(7,.sl (List.map J4 y2.1) .no),(5,.sl (List.map J4 y1.1) .no)]=true/\a37 [] 0 []=true:=⟨by first|rfl|simp,by first|rfl|simp⟩
theorem a3i(ij1:Int)(y2:((List ByteArray) × Bool))(y1:((List ByteArray) × Bool))(r:Bool)(hw:((decide (ij1<(y1.1.length:Int)))=true->∃y10,y1.1[ij1.toNat]? =some y10/\0<=ij1/\(∃y11,y2.1[ij1.toNat]? =some y11/\0<=ij1/\(∃R4:Bool->Prop,(∀bz4:Bool,R4 bz4->((bz4=true->∃y15,y2.1[ij1.toNat]? =some y15/\0<=ij1/\(∃y16,a0p y15 y16/\((y16=true->r=false)/\(y16=false->T9 (wI (ij1+1)) y2 y1 r))))/\(bz4=false->T9 (wI (ij1+1)) y2 y1 r)))/\(((!(decide (y10=y11)))=true->∃y13,y1.1[ij1.toNat]? =some y13/\0<=ij1/\(∃y14,a0p y13 y14/\(R4 y14)))/\((!(decide (y10=y11)))=false->R4 false)))))/\((decide (ij1<(y1.1.length:Int)))=false->r=true)):T9 ij1 y2 y1 r:=
 KL 6 a0l y1.1<|KW 3 hw (fun _ hw=>KD 5 []<|KI 2 a0l hw fun _ hw=>KI 3 a0l hw fun _ hw=>KQ 3 6 kB hw (fun _ hw=>KW 1 hw (fun _ hw=>KI 3 a0l hw fun _ hw=>KC 1 hw n9p fun _ hw=>KW 3 hw (fun _ hw=>KR 11 hw f2a) fun _ hw=>KJ 9 [] hw) fun _ hw=>KJ 19 [] hw) (fun _ key _ hw=>KI 2 a0l hw fun _ hw=>KC 1 hw n9p fun _ hw=>KE 1 key hw) fun _ key _ hw=>KE 6 key hw) fun _ hw=>KR 11 hw f2a
theorem b5n(a:B4)(b:B4)(r:Bool)(hw:∃y1,a1e a.Path y1/\(∃y2,a1e b.Path y2/\((((!(decide (a.Verb=b.Verb)))||((y1.1.length:Int) !=(y2.1.length:Int)))=true->r=false)/\(((!(decide (a.Verb=b.Verb)))||((y1.1.length:Int) !=(y2.1.length:Int)))=false->T9 0 y2 y1 r)))):a86 a b r:=
 fP (KC 11 hw o1k fun y1 hw=>KC 11 hw o1k fun y2 hw=>KT2 16 6 (!(decide (a.Verb=b.Verb))) (fun z=>aB (z||((y1.1.length:Int) !=(y2.1.length:Int)))) (fun _ key=>KE2 6 key) (fun _ key=>KL 1 a0l y1.1<|KL 1 a0l y2.1<|KE2 2 key)<|KW 2 hw (fun _ hw=>KR 7 hw f2a) fun _ hw=>KJl 10 [] hw b10)
theorem j1w(r:Int):plain (e31 r)=true:=rfl
def V5(ij1:Int)(l:(List D7))(left:Int)(r:Int):Prop:=JP Tryz.prog 31 (e31 r) 3 [(5,aI ij1),(0,.sl (List.map E0 l) .no),(1,aI left)]
theorem a8y{ij1:Int}{l:(List D7)}{left:Int}:a55 [] 0 [(5,aI ij1),(0,.sl (List.map E0 l) .no),(1,aI left)]=true/\a37 [] 0 []=true:=⟨by first|rfl|simp,by first|rfl|simp⟩
theorem a1n(ij1:Int)(l:(List D7))(left:Int)(r:Int)(hw:(((decide (ij1<(l.length:Int)))&&(decide (ij1<=left)))=true->∃y3,l[ij1.toNat]? =some y3/\0<=ij1/\(∃y4,l[ij1.toNat]? =some y4/\0<=ij1/\(((((decide (300<(y4.Name.size:Int)))||(decide (300<(y3.Val.Text.size:Int))))||(decide (0<(wI ((wI ((wI ((y3.Val.List_.length:Int)+(y3.Val.Pairs.length:Int)))+(y3.Val.Slots.length:Int)))+(y3.Val.Raws.length:Int))))))=true->r=(wI (left+10)))/\((((decide (300<(y4.Name.size:Int)))||(decide (300<(y3.Val.Text.size:Int))))||(decide (0<(wI ((wI ((wI ((y3.Val.List_.length:Int)+(y3.Val.Pairs.length:Int)))+(y3.Val.Slots.length:Int)))+(y3.Val.Raws.length:Int))))))=false->V5 (wI (ij1+1)) l left r))))/\(((decide (ij1<(l.length:Int)))&&(decide (ij1<=left)))=false->r=(l.length:Int))):V5 ij1 l left r:=
 KL 6 a1d l<|KT 2 4<|KW 2 hw (fun _ hw=>KI 8 a1d hw fun y3 hw=>KI 10 a1d hw fun y4 hw=>KT 5 5<|KT2 1 17 ((decide (300<(y4.Name.size:Int)))||(decide (300<(y3.Val.Text.size:Int)))) (fun z=>aB (z||(decide (0<(wI ((wI ((wI ((y3.Val.List_.length:Int)+(y3.Val.Pairs.length:Int)))+(y3.Val.Slots.length:Int)))+(y3.Val.Raws.length:Int))))))) (fun _ key=>KE2 17 key) (fun _ key=>KL 2 c25 y3.Val.List_<|KL 2 c9i y3.Val.Pairs<|KL 3 c9q y3.Val.Slots<|KL 3 d8p y3.Val.Raws<|KE2 3 key)<|KW 2 hw (fun _ hw=>KR 13 hw j1w) fun _ hw=>KJl 9 [] hw a8y) fun _ hw=>KL 8 a1d l<|KR 4 hw j1w
theorem b1o(l:(List D7))(left:Int)(r:Int)(hw:V5 0 l left r):L1 l left r:=
 fP (KJ 13 [] hw)
theorem k42(r:Int):plain (e32 r)=true:=rfl
def W0(ij1:Int)(l:(List ByteArray))(left:Int)(r:Int):Prop:=JP Tryz.prog 32 (e32 r) 3 [(5,aI ij1),(0,.sl (List.map J4 l) .no),(1,aI left)]
theorem a1l(ij1:Int)(l:(List ByteArray))(left:Int)(r:Int)(hw:(((decide (ij1<(l.length:Int)))&&(decide (ij1<=left)))=true->∃y2,l[ij1.toNat]? =some y2/\0<=ij1/\(((decide (300<(y2.size:Int)))=true->r=(wI (left+10)))/\((decide (300<(y2.size:Int)))=false->W0 (wI (ij1+1)) l left r)))/\(((decide (ij1<(l.length:Int)))&&(decide (ij1<=left)))=false->r=(l.length:Int))):W0 ij1 l left r:=
 KL 6 a0l l<|KT 2 4<|KW 2 hw (fun _ hw=>KI 8 a0l hw fun _ hw=>KW 5 hw (fun _ hw=>KR 13 hw k42) fun _ hw=>KJ 9 [] hw) fun _ hw=>KL 8 a0l l<|KR 4 hw k42
theorem b1r(l:(List ByteArray))(left:Int)(r:Int)(hw:W0 0 l left r):J6 l left r:=
 fP (KJ 13 [] hw)
theorem n10(r:(List B1)):plain (e33 r)=true:=(psl (L2 r))
def a3s(ij16:Int)(s:A2)(y11:G1)(lj17:(List B1))(r:(List B1)):Prop:=J Tryz.prog 33 (.ret (e33 r)) 29 [(12,aI ij16),(3,.ptr 1 0),(1,.ptr 0 0)] ⟨[some (A4 s),some [aS y11.def_,.sl (List.map E3 lj17) (.own 0)]],[(lj17.length,3)],[]⟩
def a3p(ij14:Int)(s:A2)(y11:G1)(lj15:(List B1))(r:(List B1)):Prop:=J Tryz.prog 33 (.ret (e33 r)) 23 [(11,aI ij14),(3,.ptr 1 0),(1,.ptr 0 0)] ⟨[some (A4 s),some [aS y11.def_,.sl (List.map E3 lj15) (.own 0)]],[(lj15.length,3)],[]⟩
def a3q(ij10:Int)(y12:(List Bool))(s:A2)(y11:G1)(lj11:(List B1))(r:(List B1)):Prop:=J Tryz.prog 33 (.ret (e33 r)) 17 [(10,aI ij10),(9,.sl (List.map a4w y12) .no),(3,.ptr 1 0),(1,.ptr 0 0)] ⟨[some (A4 s),some [aS y11.def_,.sl (List.map E3 lj11) (.own 0)]],[(lj11.length,3)],[]⟩
def a5q(ij1:Int)(s:A2)(sj2:ByteArray)(lj3:(List B1))(r:(List B1)):Prop:=J Tryz.prog 33 (.ret (e33 r)) 4 [(4,aI ij1),(3,.ptr 1 0),(1,.ptr 0 0)] ⟨[some (A4 s),some [aS sj2,.sl (List.map E3 lj3) (.own 0)]],[(lj3.length,3)],[]⟩
theorem a5i(ij16:Int)(s:A2)(y11:G1)(lj17:(List B1))(r:(List B1))(hw:((decide (ij16<(s.Services.length:Int)))=true->∃y35,s.Services[ij16.toNat]? =some y35/\0<=ij16/\(∃y36,a7j s y35 y36/\((lj17.length+y36.length)*32<=140737488355328/\(a3s (wI (ij16+1)) s y11 (lj17++y36) r))))/\((decide (ij16<(s.Services.length:Int)))=false->r=lj17)):a3s ij16 s y11 lj17 r:=
 KL 7 P0 s.Services<|KW 3 hw (fun _ hw=>KD 4 [0,1]<|KI 6 P0 hw fun _ hw=>KC 1 hw o43 fun _ hw=>KA 1 a8z hw mF fun hw=>KJ 11 [] hw) fun _ hw=>KR 13 hw n10
theorem a5u(ij14:Int)(s:A2)(y11:G1)(lj15:(List B1))(r:(List B1))(hw:((decide (ij14<(s.Enums.length:Int)))=true->∃y37,s.Enums[ij14.toNat]? =some y37/\0<=ij14/\(∃y38,b49 y37 y38/\((lj15.length+y38.length)*32<=140737488355328/\(a3p (wI (ij14+1)) s y11 (lj15++y38) r))))/\((decide (ij14<(s.Enums.length:Int)))=false->a3s 0 s y11 lj15 r)):a3p ij14 s y11 lj15 r:=
 KL 7 a7t s.Enums<|KW 3 hw (fun _ hw=>KD 4 [0,1]<|KI 5 a7t hw fun _ hw=>KC 1 hw o3x fun _ hw=>KA 1 a8z hw mF fun hw=>KJ 11 [] hw) fun _ hw=>KJ 13 [] hw
theorem a5m(ij10:Int)(y12:(List Bool))(s:A2)(y11:G1)(lj11:(List B1))(r:(List B1))(hw:((decide (ij10<(s.Messages.length:Int)))=true->∃y39,s.Messages[ij10.toNat]? =some y39/\0<=ij10/\(∃y40,a65 s y39 y12 y40/\((lj11.length+y40.length)*32<=140737488355328/\(a3q (wI (ij10+1)) y12 s y11 (lj11++y40) r))))/\((decide (ij10<(s.Messages.length:Int)))=false->a3p 0 s y11 lj11 r)):a3q ij10 y12 s y11 lj11 r:=
 KL 7 I0 s.Messages<|KW 3 hw (fun _ hw=>KD 4 [0,1]<|KI 6 I0 hw fun _ hw=>KC 2 hw o7d fun _ hw=>KA 1 a8z hw mF fun hw=>KJ 11 [] hw) fun _ hw=>KJ 13 [] hw
theorem a57(ij1:Int)(s:A2)(sj2:ByteArray)(lj3:(List B1))(r:(List B1))(hw:((decide (ij1<=3))=true->∃y41,a1t s ij1 y41/\(∃y42,B2 (⟨sj2,lj3⟩:G1) (decide (64<(y41.length:Int))) (-1) 3 y42/\(∃y43,a4t y41 y43/\(∃y44,B2 y42 (!y43) (-1) 11 y44/\(a5q (wI (ij1+1)) s y44.def_ y44.l r)))))/\((decide (ij1<=3))=false->∃y5,a1t s 1 y5/\(∃y6,a1t s 2 y6/\(∃y7,a1t s 3 y7/\(∃y8,a6c y5 y6 y8/\(∃R1:Bool->Prop,(∀bz1:Bool,R1 bz1->(∃R2:Bool->Prop,(∀bz2:Bool,R2 bz2->(∃y11,B2 (⟨sj2,lj3⟩:G1) bz2 (-1) 9 y11/\(∃y12,a8u s y12/\(a3q 0 y12 s y11 y11.l r))))/\((bz1=true->R2 true)/\(bz1=false->∃y10,a6c y6 y7 y10/\(R2 y10)))))/\((y8=true->R1 true)/\(y8=false->∃y9,a6c y5 y7 y9/\(R1 y9))))))))):a5q ij1 s sj2 lj3 r:=
 KW 8 hw (fun _ hw=>KC 8 hw l9g fun y41 hw=>KL 6 a0l y41<|KI1 1 hw V3 fun _ hw=>KC 4 hw o4p fun _ hw=>KI1 1 hw V3 fun _ hw=>KJ 9 [] hw) fun _ hw=>KC 8 hw l9g fun _ hw=>KC 6 hw l9g fun _ hw=>KC 6 hw l9g fun _ hw=>KC 7 hw m63 fun _ hw=>KQ 1 4 kB hw (fun _ hw=>KQ 1 4 kB hw (fun _ hw=>KI1 0 hw V3 fun _ hw=>KC 5 hw o5s fun _ hw=>KJ 11 [] hw) (fun _ key _ hw=>KE 4 key hw) fun _ key _ hw=>KC 2 hw m63 fun _ hw=>KE 1 key hw) (fun _ key _ hw=>KE 4 key hw) fun _ key _ hw=>KC 2 hw m63 fun _ hw=>KE 1 key hw
theorem c0t(s:A2)(r:(List B1))(hw:a5q 1 s (⟨#[]⟩:ByteArray) ([]:List B1) r):c45 s r:=
 fP (KOb 21 1 1 3<|KJ 0 [] hw)
theorem n3h(r:ByteArray):plain (e35 r)=true:=rfl
theorem b6q(service:ByteArray)(method:ByteArray)(r:ByteArray)(hw:((service.size+(⟨#[47]⟩:ByteArray).size:Nat):Int)<=9223372036854775807/\((((service++(⟨#[47]⟩:ByteArray)).size+method.size:Nat):Int)<=9223372036854775807/\(r=((service++(⟨#[47]⟩:ByteArray))++method)))):b13 service method r:=
 fP (i4p 8 hw fun hw=>i4p 1 hw fun hw=>KR 4 hw n3h)
theorem f2k(r:(C8 × Int)):plain (e36 r)=true:=(b39 (A7 (H5 r.1) (A7 rfl rfl)))
theorem b6z(mg:Int)(s:A2)(path:ByteArray)(r:(C8 × Int))(hw:∃y1,strings_Cut mg path (⟨#[47]⟩:ByteArray) y1/\(∃R1:Bool->Prop,(∀bz1:Bool,R1 bz1->(∃R2:Bool->Prop,(∀bz2:Bool,R2 bz2->((bz2=true->r=((⟨(⟨#[]⟩:ByteArray),(⟨#[]⟩:ByteArray),(⟨#[]⟩:ByteArray),0,([]:(List D7))⟩:C8),2))/\(bz2=false->∃y4,b11 mg s path y4/\(((!y4.2)=true->r=((⟨(⟨#[]⟩:ByteArray),(⟨#[]⟩:ByteArray),(⟨#[]⟩:ByteArray),0,([]:(List D7))⟩:C8),10))/\((!y4.2)=false->r=(y4.1,0))))))/\((bz1=true->R2 true)/\(bz1=false->∃y3,a5j y1.2.1 y3/\(R2 (!y3))))))/\(((!y1.2.2)=true->R1 true)/\((!y1.2.2)=false->∃y2,a5f mg y1.1 y2/\(R1 (!y2)))))):b01 mg s path r:=
 fP (KC 10 hw o2n fun _ hw=>KQ 15 4 kB hw (fun _ hw=>KQ 1 4 kB hw (fun _ hw=>KW 2 hw (fun _ hw=>KR 9 hw f2k) fun _ hw=>KC 6 hw o3w fun _ hw=>KW 15 hw (fun _ hw=>KR 9 hw f2k) fun _ hw=>KR 10 hw f2k) (fun _ key _ hw=>KE 4 key hw) fun _ key _ hw=>KC 1 (pgX mg hw) o2e fun _ hw=>KE 2 key hw) (fun _ key _ hw=>KE 4 key hw) fun _ key _ hw=>KC 1 hw o2v fun _ hw=>KE 2 key hw)
theorem m3m(r:Bool):plain (e50 r)=true:=rfl
theorem b3l(c:Int)(r:Bool)(hw:r=(((((((decide (97<=c))&&(decide (c<=122)))||((decide (65<=c))&&(decide (c<=90))))||((decide (48<=c))&&(decide (c<=57))))||(c==45))||(c==95))||(c==46))):a63 c r:=
 fP (KT 10 3<|KT2 1 7 ((decide (97<=c))&&(decide (c<=122))) (fun z=>aB (z||((decide (65<=c))&&(decide (c<=90))))) (fun _ key=>KE2 7 key) (fun _ key=>KT 3 3<|KE2 1 key)<|KT2 1 7 (((decide (97<=c))&&(decide (c<=122)))||((decide (65<=c))&&(decide (c<=90)))) (fun z=>aB (z||((decide (48<=c))&&(decide (c<=57))))) (fun _ key=>KE2 7 key) (fun _ key=>KT 3 3<|KE2 1 key)<|KT 1 3<|KT 1 3<|KT 1 3<|KR 4 hw m3m)
theorem g7w(r:((List ByteArray) × Bool)):plain (e52 r)=true:=(b39 (A7 (psl (F4 r.1)) (A7 rfl rfl)))
def N1(ij1:Int)(y1:((List ByteArray) × Bool))(mg:Int)(r:((List ByteArray) × Bool)):Prop:=J Tryz.prog 52 (.ret (e52 r)) 7 [(24,aI ij1),(23,aI (y1.1.length:Int)),(22,.sl (List.map J4 y1.1) .no),(4,.sl (List.map J4 y1.1) .no)] ⟨[],[],GLm mg⟩
theorem a09(ij1:Int)(y1:((List ByteArray) × Bool))(mg:Int)(r:((List ByteArray) × Bool))(hw:((decide (ij1<(y1.1.length:Int)))=true->∃y5,y1.1[ij1.toNat]? =some y5/\0<=ij1/\(∃y6,Y6 mg y5 y6/\(((!y6.2)=true->∃y7,V0 y5 y7/\(((!y7)=true->r=(([]:(List ByteArray)),false))/\((!y7)=false->N1 (wI (ij1+1)) y1 mg r)))/\((!y6.2)=false->N1 (wI (ij1+1)) y1 mg r))))/\((decide (ij1<(y1.1.length:Int)))=false->r=(y1.1,true))):N1 ij1 y1 mg r:=
 KW 7 hw (fun _ hw=>KI 6 a0l hw fun _ hw=>KC 7 hw o19 fun _ hw=>KW 12 hw (fun _ hw=>KC 1 (pgX mg hw) m7w fun _ hw=>KW 4 hw (fun _ hw=>KR 12 hw g7w) fun _ hw=>KJ 8 [] hw) fun _ hw=>KJ 15 [] hw) fun _ hw=>KR 13 hw g7w
theorem a97(mg:Int)(path:ByteArray)(r:((List ByteArray) × Bool))(hw:∃y1,a22 path y1/\((((!y1.2)||(decide (8<(y1.1.length:Int))))=true->r=(([]:(List ByteArray)),false))/\(((!y1.2)||(decide (8<(y1.1.length:Int))))=false->N1 0 y1 mg r))):P2 mg path r:=
 fP (KC 9 (pgX mg hw) o32 fun y1 hw=>KT2 13 4 (!y1.2) (fun z=>aB (z||(decide (8<(y1.1.length:Int))))) (fun _ key=>KE2 4 key) (fun _ key=>KL 1 a0l y1.1<|KE2 2 key)<|KW 2 hw (fun _ hw=>KR 8 hw g7w) fun _ hw=>KL 6 a0l y1.1<|KJ 5 [] hw)
theorem m4i(r:Bool):plain (e53 r)=true:=rfl
theorem Z9(s:(List ByteArray))(v:ByteArray)(r:Bool)(hw:∃y1,T7 s v y1/\(r=(decide (0<=y1)))):J7 s v r:=
 fP (KC 9 hw n1t fun _ hw=>KR 5 hw m4i)
theorem d7s(r:((List (List Int)) × Int)):plain (e54 r)=true:=(b39 (A7 (psl (d97 _ (fun l=>D6 l) r.1)) (A7 rfl rfl)))
def J5(ij1:Int)(y1:(List ByteArray))(lj2:(List (List Int)))(in_:ByteArray)(s:A2)(r_:B4)(mg:Int)(r:((List (List Int)) × Int)):Prop:=J Tryz.prog 54 (.ret (e54 r)) 4 [(19,aI ij1),(18,aI (y1.length:Int)),(17,.sl (List.map J4 y1) .no),(8,.sl (List.map (eL G0) lj2) (.own 0)),(5,.ptr 1 0),(3,.ptr 0 0),(1,aS in_)] ⟨[some (A4 s),some (B9 r_)],[(lj2.length,1)],GLm mg⟩
theorem a2w{ij1:Int}{y1:(List ByteArray)}{lj2:(List (List Int))}{in_:ByteArray}{s:A2}{r_:B4}:a55 [true,true] 1 [(19,aI ij1),(18,aI (y1.length:Int)),(17,.sl (List.map J4 y1) .no),(8,.sl (List.map (eL G0) lj2) (.own 0)),(5,.ptr 1 0),(3,.ptr 0 0),(1,aS in_)]=true/\a37 [true,true] 1 [some (A4 s),some (B9 r_)]=true:=⟨by first|rfl|simp,by first|rfl|simp⟩
theorem P3(ij1:Int)(y1:(List ByteArray))(lj2:(List (List Int)))(in_:ByteArray)(s:A2)(r_:B4)(mg:Int)(r:((List (List Int)) × Int))(hw:((decide (ij1<(y1.length:Int)))=true->∃y9,y1[ij1.toNat]? =some y9/\0<=ij1/\(∃y10,b7q mg s in_ y9 y10/\(((y10.2 !=0)=true->r=(([]:(List (List Int))),y10.2))/\((y10.2 !=0)=false->∃y11,y10.1[(wI ((y10.1.length:Int) - 1)).toNat]? =some y11/\0<=(wI ((y10.1.length:Int) - 1))/\(∃y12,b0k y11 y12/\(∃R2:Bool->Prop,(∀bz2:Bool,R2 bz2->(((bz2||((decide (r_.Body=(⟨#[42]⟩:ByteArray)))&&(y11.Card==1)))=true->r=(([]:(List (List Int))),12))/\((bz2||((decide (r_.Body=(⟨#[42]⟩:ByteArray)))&&(y11.Card==1)))=false->∃y14,a4n y10.1 y14/\(∃y15,F1 lj2 (⟨120,[],[.elt [.sl (List.map G0 y14) .no] 0],by simp⟩:GFn) y15/\((y15=true->r=(([]:(List (List Int))),9))/\(y15=false->(lj2.length+[y14].length)*24<=140737488355328/\(J5 (wI (ij1+1)) y1 (lj2++[y14]) in_ s r_ mg r)))))))/\(((!y12)=true->R2 true)/\((!y12)=false->∃y13,a5y y11 y13/\(R2 (!y13))))))))))/\((decide (ij1<(y1.length:Int)))=false->r=(lj2,0))):J5 ij1 y1 lj2 in_ s r_ mg r:=
 KW 7 hw (fun _ hw=>KI 6 a0l hw fun _ hw=>KC 9 hw o7g fun y10 hw=>KW 14 hw (fun _ hw=>KR 14 hw d7s) fun _ hw=>KL 6 F7 y10.1<|KI 1 F7 hw fun y11 hw=>KC 9 (pgX mg hw) m86 fun _ hw=>KQ 2 4 kB hw (fun bz2 hw=>KT2 1 9 bz2 (fun z=>aB (z||((decide (r_.Body=(⟨#[42]⟩:ByteArray)))&&(y11.Card==1)))) (fun _ key=>KE2 9 key) (fun _ key=>KT 4 4<|KE2 1 key)<|KW 2 hw (fun _ hw=>KR 13 hw d7s) fun _ hw=>KC 5 (pgX mg hw) o5h fun y14 hw=>KFz 6 3 [true,true,true,false] 1 [(14,.elt [.sl (List.map G0 y14) .no] 0),(19,aI ij1),(18,aI (y1.length:Int)),(17,.sl (List.map J4 y1) .no),(8,.sl (List.map (eL G0) lj2) (.own 0)),(5,.ptr 1 0),(3,.ptr 0 0),(1,aS in_)] [some (A4 s),some (B9 r_),some (C0 y11),none] ⟨by first|rfl|simp,by first|rfl|simp⟩<|KC 3 (pgX mg hw) o2z fun _ hw=>KW 2 hw (fun _ hw=>KR 13 hw d7s) fun _ hw=>KA 6 c33 hw mE fun hw=>KJl 9 [] hw a2w) (fun _ key _ hw=>KE 4 key hw) fun _ key _ hw=>KC 1 (pgX mg hw) o6v fun _ hw=>KE 2 key hw) fun _ hw=>KR 13 hw d7s
theorem a4o(mg:Int)(s:A2)(in_:ByteArray)(r_:B4)(r:((List (List Int)) × Int))(hw:∃y1,a1q mg r_.Path y1/\(J5 0 y1 ([]:List (List Int)) in_ s r_ mg r)):S7 mg s in_ r_ r:=
 fP (KC 18 hw m2n fun y1 hw=>KL 0 a0l y1<|KO 5 8 1<|KJ 0 [] hw)
theorem l7w(r:(A5 × Bool)):plain (e55 r)=true:=(b39 (A7 (D8 r.1) (A7 rfl rfl)))
theorem a4s(s:A2)(in_:ByteArray)(r_:B4)(r:(A5 × Bool))(hw:(((decide (r_.Body=(⟨#[]⟩:ByteArray)))||(decide (r_.Body=(⟨#[42]⟩:ByteArray))))=true->r=((⟨0,(⟨#[]⟩:ByteArray),0,0,(⟨0,(⟨#[]⟩:ByteArray)⟩:a4m),(⟨#[]⟩:ByteArray),false,(⟨0,0,(⟨#[]⟩:ByteArray),([]:(List B6)),([]:(List (B6 × B6))),([]:(List (Int × B6))),([]:(List c6a))⟩:B6),([]:(List D7))⟩:A5),false))/\(((decide (r_.Body=(⟨#[]⟩:ByteArray)))||(decide (r_.Body=(⟨#[42]⟩:ByteArray))))=false->∃y1,a2f s in_ y1/\(∃y2,a03 y1.1 r_.Body y2/\(r=(y2.1,((y2.2&&(y2.1.Type_.Kind==10))&&((y2.1.Card==1)||(y2.1.Card==2)))))))):a5w s in_ r_ r:=
 fP (KT 15 4<|KW 2 hw (fun _ hw=>KR 9 hw l7w) fun _ hw=>KC 6 hw n5b fun _ hw=>KC 13 hw i8n fun y2 hw=>KD 9 [4]<|KT 3 5<|KT2 1 9 (y2.2&&(y2.1.Type_.Kind==10)) (fun z=>aB (z&&((y2.1.Card==1)||(y2.1.Card==2)))) (fun _ key=>KT 4 4<|KE2 1 key) (fun _ key=>KE2 9 key)<|KV 0<|KR 5 hw l7w)
theorem m9e(r:Bool):plain (e56 r)=true:=rfl
theorem L5(s:(List (List Int)))(f:GFn)(r:Bool)(hw:∃y1,V1 s f y1/\(r=(decide (0<=y1)))):F1 s f r:=
 fP (KC 9 hw m0o fun _ hw=>KR 5 hw m9e)
theorem k1u(r:Int):plain (e58 r)=true:=rfl
def F9(ij1:Int)(s:(List B4))(f:GFn)(mg:Int)(r:Int):Prop:=J Tryz.prog 58 (.ret (e58 r)) 3 [(8,aI ij1),(7,aI (s.length:Int)),(0,.sl (List.map B9 s) .no),(1,.clo (.func f.fn) f.fi f.cap)] ⟨[],[],GLm mg⟩
theorem X1(ij1:Int)(s:(List B4))(f:GFn)(mg:Int)(r:Int)(hw:((decide (ij1<(s.length:Int)))=true->∃y3,s[ij1.toNat]? =some y3/\0<=ij1/\(∃y4,a7k Tryz.prog (GLm mg) (.clo (.func f.fn) f.fi f.cap) [.agg (B9 y3)] (aB y4)/\((y4=true->r=ij1)/\(y4=false->F9 (wI (ij1+1)) s f mg r))))/\((decide (ij1<(s.length:Int)))=false->r=(-1))):F9 ij1 s f mg r:=
 KW 7 hw (fun _ hw=>KI 15 O0 hw fun _ hw=>KF 1 hw fun _ hw=>KW 2 hw (fun _ hw=>KR 12 hw k1u) fun _ hw=>KJ 8 [] hw) fun _ hw=>KR 11 hw k1u
theorem a0h(mg:Int)(s:(List B4))(f:GFn)(r:Int)(hw:F9 0 s f mg r):Q9 mg s f r:=
 fP (KL 9 O0 s<|KJ 5 [] hw)
theorem g7f(r:Bool):plain (e59 r)=true:=rfl
def N4(ij1:Int)(segment:ByteArray)(r:Bool):Prop:=JP Tryz.prog 59 (e59 r) 3 [(6,aI ij1),(5,aI (segment.size:Int)),(0,aS segment)]
theorem a07(ij1:Int)(segment:ByteArray)(r:Bool)(hw:((decide (ij1<(segment.size:Int)))=true->(0<=ij1/\ij1<(segment.size:Int))/\(∃y2,a63 (C7 segment ij1.toNat) y2/\(((!y2)=true->r=false)/\((!y2)=false->(0<=ij1/\ij1<(segment.size:Int))/\(((decide (65<=(C7 segment ij1.toNat)))=true->(0<=ij1/\ij1<(segment.size:Int))/\(((decide ((C7 segment ij1.toNat)<=90))=true->r=false)/\((decide ((C7 segment ij1.toNat)<=90))=false->N4 (wI (ij1+1)) segment r)))/\((decide (65<=(C7 segment ij1.toNat)))=false->N4 (wI (ij1+1)) segment r))))))/\((decide (ij1<(segment.size:Int)))=false->r=(!(decide (segment=(⟨#[]⟩:ByteArray)))))):N4 ij1 segment r:=
 KW 7 hw (fun _ hw=>KIS 14 hw fun hw=>KC 0 hw o7j fun _ hw=>KW 2 hw (fun _ hw=>KR 25 hw g7f) fun _ hw=>KIS 2 hw fun hw=>KW 2 hw (fun _ hw=>KIS 2 hw fun hw=>KW 5 hw (fun _ hw=>KR 11 hw g7f) fun _ hw=>KJ 8 [] hw) fun _ hw=>KJ 17 [] hw) fun _ hw=>KR 13 hw g7f
theorem a98(segment:ByteArray)(r:Bool)(hw:N4 0 segment r):V0 segment r:=
 fP (KJ 15 [] hw)
theorem f24(r:((List ByteArray) × Bool)):plain (e60 r)=true:=(b39 (A7 (psl (F4 r.1)) (A7 rfl rfl)))
def Y3(ij1:Int)(y1:((List ByteArray) × Bool))(r:((List ByteArray) × Bool)):Prop:=JP Tryz.prog 60 (e60 r) 7 [(6,aI ij1),(4,.sl (List.map J4 y1.1) .no)]
theorem a2l(ij1:Int)(y1:((List ByteArray) × Bool))(r:((List ByteArray) × Bool))(hw:((decide (ij1<(y1.1.length:Int)))=true->∃y7,y1.1[ij1.toNat]? =some y7/\0<=ij1/\(∃y8,a0p y7 y8/\(∃R2:Bool->Prop,(∀bz2:Bool,R2 bz2->((bz2=true->r=(([]:(List ByteArray)),false))/\(bz2=false->Y3 (wI (ij1+1)) y1 r)))/\(((!y8)=true->∃y10,y1.1[ij1.toNat]? =some y10/\0<=ij1/\(∃y11,X3 y10 y11/\(R2 (decide (y11=(⟨#[]⟩:ByteArray))))))/\((!y8)=false->R2 false)))))/\((decide (ij1<(y1.1.length:Int)))=false->r=(y1.1,true))):Y3 ij1 y1 r:=
 KL 6 a0l y1.1<|KW 3 hw (fun _ hw=>KI 8 a0l hw fun _ hw=>KC 1 hw n9p fun _ hw=>KQ 2 7 kB hw (fun _ hw=>KW 2 hw (fun _ hw=>KR 12 hw f24) fun _ hw=>KJ 9 [] hw) (fun _ key _ hw=>KI 2 a0l hw fun _ hw=>KC 1 hw n0h fun _ hw=>KE 2 key hw) fun _ key _ hw=>KE 7 key hw) fun _ hw=>KR 13 hw f24
theorem b3m(path:ByteArray)(r:((List ByteArray) × Bool))(hw:∃y1,b0q path y1/\((((!y1.2)||(decide (8<(y1.1.length:Int))))=true->r=(([]:(List ByteArray)),false))/\(((!y1.2)||(decide (8<(y1.1.length:Int))))=false->Y3 0 y1 r))):a1e path r:=
 fP (KC 9 hw o5x fun y1 hw=>KT2 13 4 (!y1.2) (fun z=>aB (z||(decide (8<(y1.1.length:Int))))) (fun _ key=>KE2 4 key) (fun _ key=>KL 1 a0l y1.1<|KE2 2 key)<|KW 2 hw (fun _ hw=>KR 8 hw f24) fun _ hw=>KJ 10 [] hw)
theorem n5e(r:Bool):plain (e61 r)=true:=rfl
theorem b93(s:ByteArray)(r:Bool)(hw:r=(((((decide (s=(⟨#[71,69,84]⟩:ByteArray)))||(decide (s=(⟨#[80,85,84]⟩:ByteArray))))||(decide (s=(⟨#[80,79,83,84]⟩:ByteArray))))||(decide (s=(⟨#[80,65,84,67,72]⟩:ByteArray))))||(decide (s=(⟨#[68,69,76,69,84,69]⟩:ByteArray))))):c1x s r:=
 fP (KT 10 3<|KT 1 3<|KT 1 3<|KT 1 3<|KR 4 hw n5e)
theorem g97(r:(C8 × Int)):plain (e62 r)=true:=(b39 (A7 (H5 r.1) (A7 rfl rfl)))
def a0r(ij1:Int)(ij2:Int)(path:ByteArray)(s:A2)(r:(C8 × Int)):Prop:=J Tryz.prog 62 (.ret (e62 r)) 4 [(7,aI ij1),(6,aI ij2),(4,.ptr 1 0),(2,.ptr 0 0),(1,aS path)] ⟨[some (A4 s),some [aE,aE,aE,aI 0,.nil]],[],[]⟩
theorem a5p(ij1:Int)(ij2:Int)(path:ByteArray)(s:A2)(r:(C8 × Int))(hw:((decide (0<=ij1))=true->(0<=ij1/\ij1<(path.size:Int))/\((((C7 path ij1.toNat)==47)=true->a0r (wI (ij1 - 1)) ij1 path s r)/\(((C7 path ij1.toNat)==47)=false->a0r (wI (ij1 - 1)) ij2 path s r)))/\((decide (0<=ij1))=false->∃R1:Bool->Prop,(∀bz1:Bool,R1 bz1->(∃R2:Bool->Prop,(∀bz2:Bool,R2 bz2->((bz2=true->r=((⟨(⟨#[]⟩:ByteArray),(⟨#[]⟩:ByteArray),(⟨#[]⟩:ByteArray),0,([]:(List D7))⟩:C8),2))/\(bz2=false->∃y3,a8n s path y3/\(((!y3.2)=true->r=((⟨(⟨#[]⟩:ByteArray),(⟨#[]⟩:ByteArray),(⟨#[]⟩:ByteArray),0,([]:(List D7))⟩:C8),10))/\((!y3.2)=false->r=(y3.1,0))))))/\((bz1=true->R2 true)/\(bz1=false->(0<=(wI (ij2+1))/\(wI (ij2+1))<=(path.size:Int)/\(path.size:Int)<=(path.size:Int))/\(∃y2,U9 (path.extract (wI (ij2+1)).toNat (path.size:Int).toNat) y2/\(R2 (!y2)))))))/\(((decide (ij2<0))=true->R1 true)/\((decide (ij2<0))=false->(0<=(0:Int)/\(0:Int)<=ij2/\ij2<=(path.size:Int))/\(∃y1,a0c (path.extract (0:Int).toNat ij2.toNat) y1/\(R1 (!y1))))))):a0r ij1 ij2 path s r:=
 KW 8 hw (fun _ hw=>KIS 8 hw fun hw=>KW 3 hw (fun _ hw=>KJ 12 [] hw) fun _ hw=>KJ 9 [] hw) fun _ hw=>KQ 11 6 kB hw (fun _ hw=>KQ 1 7 kB hw (fun _ hw=>KW 2 hw (fun _ hw=>KR 9 hw g97) fun _ hw=>KC 6 hw n3l fun _ hw=>KW 15 hw (fun _ hw=>KR 9 hw g97) fun _ hw=>KR 10 hw g97) (fun _ key _ hw=>KE 7 key hw) fun _ key _ hw=>KSS 3 hw fun hw=>KC 0 hw d9t fun _ hw=>KE 2 key hw) (fun _ key _ hw=>KE 6 key hw) fun _ key _ hw=>KSS 2 hw fun hw=>KC 0 hw g5a fun _ hw=>KE 2 key hw
theorem b8q(s:A2)(path:ByteArray)(r:(C8 × Int))(hw:a0r (wI ((path.size:Int) - 1)) (-1) path s r):b4m s path r:=
 fP (KJ 23 [] hw)
theorem o0o(r:ByteArray):plain (e63 r)=true:=rfl
theorem b7x(service:ByteArray)(method:ByteArray)(r:ByteArray)(hw:((service.size+(⟨#[47]⟩:ByteArray).size:Nat):Int)<=9223372036854775807/\((((service++(⟨#[47]⟩:ByteArray)).size+method.size:Nat):Int)<=9223372036854775807/\(r=((service++(⟨#[47]⟩:ByteArray))++method)))):b4w service method r:=
 fP (i4p 8 hw fun hw=>i4p 1 hw fun hw=>KR 4 hw o0o)
theorem c7e(r:Int):plain (e64 r)=true:=rfl
def T3(ij3:Int)(y1:(List ByteArray))(in_:ByteArray)(s:A2)(y14:(A5 × Bool))(r:Int):Prop:=J Tryz.prog 64 (.ret (e64 r)) 33 [(19,aI ij3),(17,.ptr 2 0),(9,.sl (List.map J4 y1) .no),(4,.ptr 0 0),(1,aS in_)] ⟨[some (A4 s),none,some (C0 y14.1)],[],[]⟩
def S8(ij4:Int)(y22:((List A5) × Int))(ij2:Int)(y1:(List ByteArray))(in_:ByteArray)(s:A2)(r_:B4)(r:Int):Prop:=J Tryz.prog 64 (.ret (e64 r)) 17 [(14,aI ij4),(11,.sl (List.map C0 y22.1) .no),(10,aI ij2),(9,.sl (List.map J4 y1) .no),(6,.ptr 1 0),(4,.ptr 0 0),(1,aS in_)] ⟨[some (A4 s),some (B9 r_)],[],[]⟩
def M8(ij2:Int)(y1:(List ByteArray))(in_:ByteArray)(s:A2)(r_:B4)(r:Int):Prop:=J Tryz.prog 64 (.ret (e64 r)) 4 [(10,aI ij2),(9,.sl (List.map J4 y1) .no),(6,.ptr 1 0),(4,.ptr 0 0),(1,aS in_)] ⟨[some (A4 s),some (B9 r_)],[],[]⟩
theorem a7z{ij3:Int}{y1:(List ByteArray)}{in_:ByteArray}{s:A2}{y14:(A5 × Bool)}:a55 [true,false,true] 0 [(19,aI ij3),(17,.ptr 2 0),(9,.sl (List.map J4 y1) .no),(4,.ptr 0 0),(1,aS in_)]=true/\a37 [true,false,true] 0 [some (A4 s),none,some (C0 y14.1)]=true:=⟨by first|rfl|simp,by first|rfl|simp⟩
theorem a70{ij4:Int}{y22:((List A5) × Int)}{ij2:Int}{y1:(List ByteArray)}{in_:ByteArray}{s:A2}{r_:B4}:a55 [true,true] 0 [(14,aI ij4),(11,.sl (List.map C0 y22.1) .no),(10,aI ij2),(9,.sl (List.map J4 y1) .no),(6,.ptr 1 0),(4,.ptr 0 0),(1,aS in_)]=true/\a37 [true,true] 0 [some (A4 s),some (B9 r_)]=true:=⟨by first|rfl|simp,by first|rfl|simp⟩
theorem a04(ij3:Int)(y1:(List ByteArray))(in_:ByteArray)(s:A2)(y14:(A5 × Bool))(r:Int)(hw:((decide (ij3<(y1.length:Int)))=true->∃y18,y1[ij3.toNat]? =some y18/\0<=ij3/\(∃y19,a6w s in_ y18 y19/\(∃y20,y19.1[(0:Int).toNat]? =some y20/\0<=(0:Int)/\(((y20.Num==y14.1.Num)=true->r=9)/\((y20.Num==y14.1.Num)=false->T3 (wI (ij3+1)) y1 in_ s y14 r)))))/\((decide (ij3<(y1.length:Int)))=false->r=0)):T3 ij3 y1 in_ s y14 r:=
 KL 6 a0l y1<|KW 3 hw (fun _ hw=>KD 5 [0]<|KI 4 a0l hw fun _ hw=>KC 1 hw f8r fun _ hw=>KD 9 [2]<|KI 1 F7 hw fun _ hw=>KW 8 hw (fun _ hw=>KR 11 hw c7e) fun _ hw=>KJ 9 [] hw) fun _ hw=>KR 11 hw c7e
theorem a0s(ij4:Int)(y22:((List A5) × Int))(ij2:Int)(y1:(List ByteArray))(in_:ByteArray)(s:A2)(r_:B4)(r:Int)(hw:((decide (ij4<ij2))=true->∃y29,y1[ij4.toNat]? =some y29/\0<=ij4/\(∃y30,a6w s in_ y29 y30/\(∃y31,b46 y22.1 y30.1 y31/\((y31=true->r=9)/\(y31=false->S8 (wI (ij4+1)) y22 ij2 y1 in_ s r_ r)))))/\((decide (ij4<ij2))=false->M8 (wI (ij2+1)) y1 in_ s r_ r)):S8 ij4 y22 ij2 y1 in_ s r_ r:=
 KW 9 hw (fun _ hw=>KD 5 [0]<|KI 4 a0l hw fun _ hw=>KC 1 hw f8r fun _ hw=>KC 12 hw n73 fun _ hw=>KW 2 hw (fun _ hw=>KR 15 hw c7e) fun _ hw=>KJ 9 [] hw) fun _ hw=>KJ 12 [] hw
theorem K8(ij2:Int)(y1:(List ByteArray))(in_:ByteArray)(s:A2)(r_:B4)(r:Int)(hw:((decide (ij2<(y1.length:Int)))=true->∃y21,y1[ij2.toNat]? =some y21/\0<=ij2/\(∃y22,a6w s in_ y21 y22/\(((y22.2 !=0)=true->r=y22.2)/\((y22.2 !=0)=false->∃y23,y22.1[(wI ((y22.1.length:Int) - 1)).toNat]? =some y23/\0<=(wI ((y22.1.length:Int) - 1))/\(∃y24,a8h y23 y24/\(∃R2:Bool->Prop,(∀bz2:Bool,R2 bz2->(((bz2||((decide (r_.Body=(⟨#[42]⟩:ByteArray)))&&(y23.Card==1)))=true->r=12)/\((bz2||((decide (r_.Body=(⟨#[42]⟩:ByteArray)))&&(y23.Card==1)))=false->S8 0 y22 ij2 y1 in_ s r_ r)))/\(((!y24)=true->R2 true)/\((!y24)=false->∃y25,a6x y23.Type_ y25/\(R2 (!y25))))))))))/\((decide (ij2<(y1.length:Int)))=false->(((decide (r_.Body=(⟨#[]⟩:ByteArray)))||(decide (r_.Body=(⟨#[42]⟩:ByteArray))))=true->r=0)/\(((decide (r_.Body=(⟨#[]⟩:ByteArray)))||(decide (r_.Body=(⟨#[42]⟩:ByteArray))))=false->∃y14,b4s s in_ r_ y14/\(((!y14.2)=true->r=8)/\((!y14.2)=false->T3 0 y1 in_ s y14 r))))):M8 ij2 y1 in_ s r_ r:=
 KL 6 a0l y1<|KW 3 hw (fun _ hw=>KD 5 [0]<|KI 4 a0l hw fun _ hw=>KC 1 hw f8r fun y22 hw=>KW 15 hw (fun _ hw=>KR 13 hw c7e) fun _ hw=>KL 6 F7 y22.1<|KI 1 F7 hw fun y23 hw=>KC 9 hw n3k fun _ hw=>KQ 2 5 kB hw (fun bz2 hw=>KT2 1 9 bz2 (fun z=>aB (z||((decide (r_.Body=(⟨#[42]⟩:ByteArray)))&&(y23.Card==1)))) (fun _ key=>KE2 9 key) (fun _ key=>KT 4 4<|KE2 1 key)<|KW 2 hw (fun _ hw=>KR 12 hw c7e) fun _ hw=>KJl 9 [] hw a70) (fun _ key _ hw=>KE 5 key hw) fun _ key _ hw=>KC 2 hw n9i fun _ hw=>KE 2 key hw) fun _ hw=>KT 12 4<|KW 2 hw (fun _ hw=>KR 7 hw c7e) fun _ hw=>KC 7 hw m3q fun _ hw=>KW 15 hw (fun _ hw=>KR 7 hw c7e) fun _ hw=>KJl 10 [] hw a7z
theorem b0g(s:A2)(in_:ByteArray)(r_:B4)(l:(List ByteArray))(r:Int)(hw:∃y1,a40 l y1/\(M8 0 y1 in_ s r_ r)):a9i s in_ r_ l r:=
 fP (KC 10 hw o1v fun _ hw=>KJ 11 [] hw)
theorem f25(r:Bool):plain (e65 r)=true:=rfl
def Y7(ij1:Int)(s:ByteArray)(r:Bool):Prop:=JP Tryz.prog 65 (e65 r) 3 [(3,aI ij1),(0,aS s)]
theorem a2j(ij1:Int)(s:ByteArray)(r:Bool)(hw:((decide (ij1<(s.size:Int)))=true->(0<=ij1/\ij1<(s.size:Int))/\(∃y2,b2c (C7 s ij1.toNat) y2/\(((!y2)=true->r=false)/\((!y2)=false->(0<=ij1/\ij1<(s.size:Int))/\(∃R2:Bool->Prop,(∀bz2:Bool,R2 bz2->((bz2=true->r=false)/\(bz2=false->Y7 (wI (ij1+1)) s r)))/\(((decide (65<=(C7 s ij1.toNat)))=true->(0<=ij1/\ij1<(s.size:Int))/\(R2 (decide ((C7 s ij1.toNat)<=90))))/\((decide (65<=(C7 s ij1.toNat)))=false->R2 false)))))))/\((decide (ij1<(s.size:Int)))=false->r=(!(decide (s=(⟨#[]⟩:ByteArray)))))):Y7 ij1 s r:=
 KW 10 hw (fun _ hw=>KIS 8 hw fun hw=>KC 0 hw m5e fun _ hw=>KW 2 hw (fun _ hw=>KR 25 hw f25) fun _ hw=>KIS 2 hw fun hw=>KQ 2 5 kB hw (fun _ hw=>KW 3 hw (fun _ hw=>KR 11 hw f25) fun _ hw=>KJ 9 [] hw) (fun _ key _ hw=>KIS 2 hw fun hw=>KE 2 key hw) fun _ key _ hw=>KE 5 key hw) fun _ hw=>KR 13 hw f25
theorem b2p(s:ByteArray)(r:Bool)(hw:Y7 0 s r):a0p s r:=
 fP (KJ 13 [] hw)
theorem k4g(r:((List ByteArray) × Bool)):plain (e66 r)=true:=(b39 (A7 (psl (F4 r.1)) (A7 rfl rfl)))
def J0(ij1:Int)(ij2:Int)(lj3:(List ByteArray))(path:ByteArray)(r:((List ByteArray) × Bool)):Prop:=J Tryz.prog 66 (.ret (e66 r)) 9 [(7,aI ij1),(6,aI ij2),(5,.sl (List.map J4 lj3) (.own 0)),(4,.sl (List.map c3w (bI path)) .no)] ⟨[],[(lj3.length,1)],[]⟩
theorem O9(ij1:Int)(ij2:Int)(lj3:(List ByteArray))(path:ByteArray)(r:((List ByteArray) × Bool))(hw:((decide (ij1<=((bI path).length:Int)))=true->∃R3:Bool->Prop,(∀bz3:Bool,R3 bz3->((bz3=true->(0<=ij2/\ij2<=ij1/\ij1<=((bI path).length:Int))/\(∃y6,(((bI path).take ij1.toNat).drop ij2.toNat)=bI y6/\((lj3.length+[y6].length)*16<=140737488355328/\(J0 (wI (ij1+1)) (wI (ij1+1)) (lj3++[y6]) path r))))/\(bz3=false->J0 (wI (ij1+1)) ij2 lj3 path r)))/\(((ij1==((bI path).length:Int))=true->R3 true)/\((ij1==((bI path).length:Int))=false->∃y5,(bI path)[ij1.toNat]? =some y5/\0<=ij1/\(R3 (y5==47)))))/\((decide (ij1<=((bI path).length:Int)))=false->r=(lj3,true))):J0 ij1 ij2 lj3 path r:=
 KL 6 d86 (bI path)<|KW 3 hw (fun _ hw=>KL 8 d86 (bI path)<|KQ 2 6 kB hw (fun _ hw=>KW 2 hw (fun _ hw=>KSF 7 d86 hw fun hw=>KS 0 hw fun _ hw=>KA 1 a0l hw mE fun hw=>KJ 16 [] hw) fun _ hw=>KJ 9 [] hw) (fun _ key _ hw=>KE 6 key hw) fun _ key _ hw=>KI 2 d86 hw fun _ hw=>KE 3 key hw) fun _ hw=>KR 13 hw k4g
theorem a8v(path:ByteArray)(r:((List ByteArray) × Bool))(hw:∃R1:Bool->Prop,(∀bz1:Bool,R1 bz1->((bz1=true->r=(([]:(List ByteArray)),false))/\(bz1=false->J0 1 1 ([]:List ByteArray) path r)))/\(((decide (path=(⟨#[]⟩:ByteArray)))=true->R1 true)/\((decide (path=(⟨#[]⟩:ByteArray)))=false->(0<=(0:Int)/\(0:Int)<(path.size:Int))/\(R1 ((C7 path (0:Int).toNat) !=47))))):a22 path r:=
 fP (KQ 12 4 kB hw (fun _ hw=>KW 2 hw (fun _ hw=>KR 8 hw k4g) fun _ hw=>KY 5<|KO 21 5 1<|KJ 0 [] hw) (fun _ key _ hw=>KE 4 key hw) fun _ key _ hw=>KIS 1 hw fun hw=>KE 2 key hw)
theorem j30(r:(ByteArray × Bool)):plain (e67 r)=true:=(b39 (A7 rfl (A7 rfl rfl)))
theorem a2s(mg:Int)(segment:ByteArray)(r:(ByteArray × Bool))(hw:∃R1:Bool->Prop,(∀bz1:Bool,R1 bz1->(∃R2:Bool->Prop,(∀bz2:Bool,R2 bz2->(∃R3:Bool->Prop,(∀bz3:Bool,R3 bz3->((bz3=true->r=((⟨#[]⟩:ByteArray),false))/\(bz3=false->(0<=(1:Int)/\(1:Int)<=(wI ((segment.size:Int) - 1))/\(wI ((segment.size:Int) - 1))<=(segment.size:Int))/\(r=((segment.extract (1:Int).toNat (wI ((segment.size:Int) - 1)).toNat),true)))))/\((bz2=true->R3 true)/\(bz2=false->(0<=(1:Int)/\(1:Int)<=(wI ((segment.size:Int) - 1))/\(wI ((segment.size:Int) - 1))<=(segment.size:Int))/\(∃y1,a5f mg (segment.extract (1:Int).toNat (wI ((segment.size:Int) - 1)).toNat) y1/\(R3 (!y1)))))))/\((bz1=true->R2 true)/\(bz1=false->(0<=(wI ((segment.size:Int) - 1))/\(wI ((segment.size:Int) - 1))<(segment.size:Int))/\(R2 ((C7 segment (wI ((segment.size:Int) - 1)).toNat) !=125))))))/\(((decide ((segment.size:Int)<2))=true->R1 true)/\((decide ((segment.size:Int)<2))=false->(0<=(0:Int)/\(0:Int)<(segment.size:Int))/\(R1 ((C7 segment (0:Int).toNat) !=123))))):Y6 mg segment r:=
 fP (KQ 19 4 kB hw (fun _ hw=>KQ 1 6 kB hw (fun _ hw=>KQ 1 7 kB hw (fun _ hw=>KW 2 hw (fun _ hw=>KR 8 hw j30) fun _ hw=>KSS 7 hw fun hw=>KR 5 hw j30) (fun _ key _ hw=>KE 7 key hw) fun _ key _ hw=>KSS 3 hw fun hw=>KC 0 hw o2v fun _ hw=>KE 2 key hw) (fun _ key _ hw=>KE 6 key hw) fun _ key _ hw=>KIS 3 hw fun hw=>KE 2 key hw) (fun _ key _ hw=>KE 4 key hw) fun _ key _ hw=>KIS 1 hw fun hw=>KE 2 key hw)
theorem k5n(r:ByteArray):plain (e69 r)=true:=rfl
theorem a4h(s:ByteArray)(r:ByteArray)(hw:∃R1:Bool->Prop,(∀bz1:Bool,R1 bz1->(∃R2:Bool->Prop,(∀bz2:Bool,R2 bz2->(∃R3:Bool->Prop,(∀bz3:Bool,R3 bz3->((bz3=true->r=(⟨#[]⟩:ByteArray))/\(bz3=false->(0<=(1:Int)/\(1:Int)<=(wI ((s.size:Int) - 1))/\(wI ((s.size:Int) - 1))<=(s.size:Int))/\(r=(s.extract (1:Int).toNat (wI ((s.size:Int) - 1)).toNat)))))/\((bz2=true->R3 true)/\(bz2=false->(0<=(1:Int)/\(1:Int)<=(wI ((s.size:Int) - 1))/\(wI ((s.size:Int) - 1))<=(s.size:Int))/\(∃y1,a0c (s.extract (1:Int).toNat (wI ((s.size:Int) - 1)).toNat) y1/\(R3 (!y1)))))))/\((bz1=true->R2 true)/\(bz1=false->(0<=(wI ((s.size:Int) - 1))/\(wI ((s.size:Int) - 1))<(s.size:Int))/\(R2 ((C7 s (wI ((s.size:Int) - 1)).toNat) !=125))))))/\(((decide ((s.size:Int)<3))=true->R1 true)/\((decide ((s.size:Int)<3))=false->(0<=(0:Int)/\(0:Int)<(s.size:Int))/\(R1 ((C7 s (0:Int).toNat) !=123))))):X3 s r:=
 fP (KQ 12 4 kB hw (fun _ hw=>KQ 1 7 kB hw (fun _ hw=>KQ 1 8 kB hw (fun _ hw=>KW 2 hw (fun _ hw=>KR 7 hw k5n) fun _ hw=>KSS 8 hw fun hw=>KR 4 hw k5n) (fun _ key _ hw=>KE 8 key hw) fun _ key _ hw=>KSS 4 hw fun hw=>KC 0 hw g5a fun _ hw=>KE 2 key hw) (fun _ key _ hw=>KE 7 key hw) fun _ key _ hw=>KIS 4 hw fun hw=>KE 2 key hw) (fun _ key _ hw=>KE 4 key hw) fun _ key _ hw=>KIS 1 hw fun hw=>KE 2 key hw)
theorem m5f(r:(List ByteArray)):plain (e71 r)=true:=(psl (F4 r))
def a1f(ij13:Int)(lj14:(List ByteArray))(which:Int)(s:A2)(r:(List ByteArray)):Prop:=J Tryz.prog 71 (.ret (e71 r)) 16 [(8,aI ij13),(5,.sl (List.map J4 lj14) (.own 0)),(2,.ptr 0 0),(1,aI which)] ⟨[some (A4 s)],[(lj14.length,1)],[]⟩
def a0x(ij11:Int)(lj12:(List ByteArray))(which:Int)(s:A2)(r:(List ByteArray)):Prop:=J Tryz.prog 71 (.ret (e71 r)) 10 [(7,aI ij11),(5,.sl (List.map J4 lj12) (.own 0)),(2,.ptr 0 0),(1,aI which)] ⟨[some (A4 s)],[(lj12.length,1)],[]⟩
def a17(ij7:Int)(lj8:(List ByteArray))(which:Int)(s:A2)(r:(List ByteArray)):Prop:=J Tryz.prog 71 (.ret (e71 r)) 4 [(6,aI ij7),(5,.sl (List.map J4 lj8) (.own 0)),(2,.ptr 0 0),(1,aI which)] ⟨[some (A4 s)],[(lj8.length,1)],[]⟩
theorem a3d(ij13:Int)(lj14:(List ByteArray))(which:Int)(s:A2)(r:(List ByteArray))(hw:(((which==3)&&(decide (ij13<(s.Services.length:Int))))=true->∃y12,s.Services[ij13.toNat]? =some y12/\0<=ij13/\((lj14.length+[y12.Name].length)*16<=140737488355328/\(a1f (wI (ij13+1)) (lj14++[y12.Name]) which s r)))/\(((which==3)&&(decide (ij13<(s.Services.length:Int))))=false->r=lj14)):a1f ij13 lj14 which s r:=
 KT2 7 6 (which==3) (fun z=>aB (z&&(decide (ij13<(s.Services.length:Int))))) (fun _ key=>KL 3 P0 s.Services<|KE2 2 key) (fun _ key=>KE2 6 key)<|KW 2 hw (fun _ hw=>KI 9 P0 hw fun _ hw=>KA 3 a0l hw mE fun hw=>KJ 10 [] hw) fun _ hw=>KR 12 hw m5f
theorem a28(ij11:Int)(lj12:(List ByteArray))(which:Int)(s:A2)(r:(List ByteArray))(hw:(((which==2)&&(decide (ij11<(s.Enums.length:Int))))=true->∃y13,s.Enums[ij11.toNat]? =some y13/\0<=ij11/\((lj12.length+[y13.Name].length)*16<=140737488355328/\(a0x (wI (ij11+1)) (lj12++[y13.Name]) which s r)))/\(((which==2)&&(decide (ij11<(s.Enums.length:Int))))=false->a1f 0 lj12 which s r)):a0x ij11 lj12 which s r:=
 KT2 7 6 (which==2) (fun z=>aB (z&&(decide (ij11<(s.Enums.length:Int))))) (fun _ key=>KL 3 a7t s.Enums<|KE2 2 key) (fun _ key=>KE2 6 key)<|KW 2 hw (fun _ hw=>KI 9 a7t hw fun _ hw=>KA 3 a0l hw mE fun hw=>KJ 10 [] hw) fun _ hw=>KJ 13 [] hw
theorem a4z(ij7:Int)(lj8:(List ByteArray))(which:Int)(s:A2)(r:(List ByteArray))(hw:(((which==1)&&(decide (ij7<(s.Messages.length:Int))))=true->∃y14,s.Messages[ij7.toNat]? =some y14/\0<=ij7/\((lj8.length+[y14.Name].length)*16<=140737488355328/\(a17 (wI (ij7+1)) (lj8++[y14.Name]) which s r)))/\(((which==1)&&(decide (ij7<(s.Messages.length:Int))))=false->a0x 0 lj8 which s r)):a17 ij7 lj8 which s r:=
 KT2 7 6 (which==1) (fun z=>aB (z&&(decide (ij7<(s.Messages.length:Int))))) (fun _ key=>KL 3 I0 s.Messages<|KE2 2 key) (fun _ key=>KE2 6 key)<|KW 2 hw (fun _ hw=>KI 9 I0 hw fun _ hw=>KA 3 a0l hw mE fun hw=>KJ 10 [] hw) fun _ hw=>KJ 13 [] hw
theorem b6n(s:A2)(which:Int)(r:(List ByteArray))(hw:a17 0 ([]:List ByteArray) which s r):a1t s which r:=
 fP (KO 19 5 1<|KJ 0 [] hw)
theorem j8z(r:G1):plain (e72 r)=true/\(U7 r).all ok1=true/\lowL [true] 1 (U7 r)=true/\(b0m r).length=1:=⟨j43 r,a3w _,b9t _,rfl⟩
theorem b2a(p:G1)(bad:Bool)(num:Int)(e_:Int)(r:G1)(hw:(bad=true->(p.l.length+[(⟨p.def_,num,e_⟩:B1)].length)*32<=140737488355328/\(r=(⟨p.def_,(p.l++[(⟨p.def_,num,e_⟩:B1)])⟩:G1)))/\(bad=false->r=p)):B2 p bad num e_ r:=
 fIO (KW 5 hw (fun _ hw=>KD 0 [0]<|KA 13 a8z hw mE fun hw=>KRi 5 hw j8z) fun _ hw=>KRi 1 hw j8z)
theorem k1v(r:Bool):plain (e73 r)=true:=rfl
def S9(ij1:Int)(l:(List ByteArray))(r:Bool):Prop:=JP Tryz.prog 73 (e73 r) 3 [(3,aI ij1),(0,.sl (List.map J4 l) .no)]
theorem a1b(ij1:Int)(l:(List ByteArray))(r:Bool)(hw:((decide (ij1<(l.length:Int)))=true->∃y3,l[ij1.toNat]? =some y3/\0<=ij1/\(∃y4,l[(wI (ij1 - 1)).toNat]? =some y4/\0<=(wI (ij1 - 1))/\(((Op.bytesLess y3.toList y4.toList||y3.toList==y4.toList)=true->r=false)/\((Op.bytesLess y3.toList y4.toList||y3.toList==y4.toList)=false->S9 (wI (ij1+1)) l r))))/\((decide (ij1<(l.length:Int)))=false->r=true)):S9 ij1 l r:=
 KL 6 a0l l<|KW 3 hw (fun _ hw=>KD 5 []<|KI 2 a0l hw fun _ hw=>KI 4 a0l hw fun _ hw=>KW 5 hw (fun _ hw=>KR 11 hw k1v) fun _ hw=>KJ 9 [] hw) fun _ hw=>KR 11 hw k1v
theorem a96(l:(List ByteArray))(r:Bool)(hw:S9 1 l r):a4t l r:=
 fP (KJ 13 [] hw)
theorem i7y(r:Bool):plain (e74 r)=true:=rfl
def a3u(ij1:Int)(a:(List ByteArray))(b:(List ByteArray))(r:Bool):Prop:=JP Tryz.prog 74 (e74 r) 3 [(5,aI ij1),(0,.sl (List.map J4 a) .no),(1,.sl (List.map J4 b) .no)]
theorem a5k(ij1:Int)(a:(List ByteArray))(b:(List ByteArray))(r:Bool)(hw:((decide (ij1<(a.length:Int)))=true->∃y3,a[ij1.toNat]? =some y3/\0<=ij1/\(∃y4,b3g b y3 y4/\((y4=true->r=true)/\(y4=false->a3u (wI (ij1+1)) a b r))))/\((decide (ij1<(a.length:Int)))=false->r=false)):a3u ij1 a b r:=
 KL 6 a0l a<|KW 3 hw (fun _ hw=>KI 9 a0l hw fun _ hw=>KC 1 hw h5a fun _ hw=>KW 2 hw (fun _ hw=>KR 11 hw i7y) fun _ hw=>KJ 9 [] hw) fun _ hw=>KR 11 hw i7y
theorem b91(a:(List ByteArray))(b:(List ByteArray))(r:Bool)(hw:a3u 0 a b r):a6c a b r:=
 fP (KJ 13 [] hw)
theorem n9n(r:(List Bool)):plain (e75 r)=true:=(psl (H3 r))
def O8(ij7:Int)(bj8:Bool)(ij4:Int)(s:A2)(lj9:(List Bool))(r:(List Bool)):Prop:=J Tryz.prog 75 (.ret (e75 r)) 11 [(6,aI ij7),(4,aB bj8),(5,aI ij4),(3,.row 1 0 1 (s.Messages.length:Int).toNat (s.Messages.length:Int).toNat),(1,.ptr 0 0)] ⟨[some (A4 s),some (cellsOf a4w lj9)],[],[]⟩
def V2(ij4:Int)(bj5:Bool)(s:A2)(lj6:(List Bool))(r:(List Bool)):Prop:=J Tryz.prog 75 (.ret (e75 r)) 5 [(5,aI ij4),(4,aB bj5),(3,.row 1 0 1 (s.Messages.length:Int).toNat (s.Messages.length:Int).toNat),(1,.ptr 0 0)] ⟨[some (A4 s),some (cellsOf a4w lj6)],[],[]⟩
theorem a3a(ij7:Int)(bj8:Bool)(ij4:Int)(s:A2)(lj9:(List Bool))(r:(List Bool))(hw:((decide (ij7<(s.Messages.length:Int)))=true->(0<=ij7/\ij7<((s.Messages.length:Int).toNat:Int))/\(∃y10,lj9[ij7.toNat]? =some y10/\(((!y10)=true->∃y11,s.Messages[ij7.toNat]? =some y11/\0<=ij7/\(lj9.length=(s.Messages.length:Int).toNat/\∃y12,a7m s y11 lj9 y12/\(((!y12)=true->(0<=ij7/\ij7<((s.Messages.length:Int).toNat:Int))/\(ij7.toNat<lj9.length/\(O8 (wI (ij7+1)) true ij4 s (lj9.set ij7.toNat true) r)))/\((!y12)=false->O8 (wI (ij7+1)) bj8 ij4 s lj9 r))))/\((!y10)=false->O8 (wI (ij7+1)) bj8 ij4 s lj9 r))))/\((decide (ij7<(s.Messages.length:Int)))=false->V2 (wI (ij4+1)) bj8 s lj9 r)):O8 ij7 bj8 ij4 s lj9 r:=
 KL 7 I0 s.Messages<|KW 3 hw (fun _ hw=>KD 5 [0,1]<|KRI 2 1 hw fun hw=>KR1 0 d1h 0 hw fun _ hw=>KW 2 hw (fun _ hw=>KI 4 I0 hw fun _ hw=>KCr 3 d1h 1 (fun y=>(.bool y)) hw k3q (fun _ hw=>KW 4 hw (fun _ hw=>KRI 4 1 hw fun hw=>KRS 0 d1h true hw fun hw=>KJ 13 [] hw) fun _ hw=>KJ 9 [] hw) (fun _=>rfl)) fun _ hw=>KJ 23 [] hw) fun _ hw=>KJ 12 [] hw
theorem a3g(ij4:Int)(bj5:Bool)(s:A2)(lj6:(List Bool))(r:(List Bool))(hw:(((decide (ij4<(s.Messages.length:Int)))&&bj5)=true->O8 0 false ij4 s lj6 r)/\(((decide (ij4<(s.Messages.length:Int)))&&bj5)=false->lj6.length=(s.Messages.length:Int).toNat/\(r=lj6))):V2 ij4 bj5 s lj6 r:=
 KL 7 I0 s.Messages<|KT 2 2<|KW 2 hw (fun _ hw=>KJ 16 [] hw) fun _ hw=>KDf 11 d1h 1 [true,false] 0 1 [(2,.sl (List.map a4w lj6) .no)] [some (A4 s),none] ⟨by first|rfl|simp,by first|rfl|simp⟩ hw fun hw=>KR 1 hw n9n
theorem b4x(s:A2)(r:(List Bool))(hw:(0<=(s.Messages.length:Int)/\(s.Messages.length:Int)<=(s.Messages.length:Int)/\(s.Messages.length:Int)*1<=140737488355328)/\(V2 0 true s (List.replicate (s.Messages.length:Int).toNat false) r)):a8u s r:=
 fP (KL 10 I0 s.Messages<|KM 0 d1h false hw fun hw=>KJ 16 [] hw)
theorem n1r(r:(List B1)):plain (e76 r)=true:=(psl (L2 r))
def Y9(ij7:Int)(finite:(List Bool))(s:A2)(m:A9)(sj8:ByteArray)(lj9:(List B1))(r:(List B1)):Prop:=J Tryz.prog 76 (.ret (e76 r)) 31 [(12,aI ij7),(7,.ptr 2 0),(4,.ptr 1 0),(3,.ptr 0 0),(2,.sl (List.map a4w finite) .no)] ⟨[some (A4 s),some (C6 m),some [aS sj8,.sl (List.map E3 lj9) (.own 0)]],[(lj9.length,3)],[]⟩
def M5(ij10:Int)(bj11:Bool)(ij4:Int)(finite:(List Bool))(s:A2)(m:A9)(sj5:ByteArray)(lj6:(List B1))(y48:A5)(r:(List B1)):Prop:=J Tryz.prog 76 (.ret (e76 r)) 14 [(11,aI ij10),(10,aB bj11),(9,.ptr 3 0),(8,aI ij4),(7,.ptr 2 0),(4,.ptr 1 0),(3,.ptr 0 0),(2,.sl (List.map a4w finite) .no)] ⟨[some (A4 s),some (C6 m),some [aS sj5,.sl (List.map E3 lj6) (.own 0)],some (C0 y48)],[(lj6.length,3)],[]⟩
def Q5(ij4:Int)(finite:(List Bool))(s:A2)(m:A9)(sj5:ByteArray)(lj6:(List B1))(r:(List B1)):Prop:=J Tryz.prog 76 (.ret (e76 r)) 6 [(8,aI ij4),(7,.ptr 2 0),(4,.ptr 1 0),(3,.ptr 0 0),(2,.sl (List.map a4w finite) .no)] ⟨[some (A4 s),some (C6 m),some [aS sj5,.sl (List.map E3 lj6) (.own 0)]],[(lj6.length,3)],[]⟩
theorem a99{ij4:Int}{finite:(List Bool)}{s:A2}{m:A9}{sj5:ByteArray}{lj6:(List B1)}:a55 [true,true,true] 1 [(8,aI ij4),(7,.ptr 2 0),(4,.ptr 1 0),(3,.ptr 0 0),(2,.sl (List.map a4w finite) .no)]=true/\a37 [true,true,true] 1 [some (A4 s),some (C6 m),some [aS sj5,.sl (List.map E3 lj6) (.own 0)]]=true:=⟨by first|rfl|simp,by first|rfl|simp⟩
theorem a2p(ij7:Int)(finite:(List Bool))(s:A2)(m:A9)(sj8:ByteArray)(lj9:(List B1))(r:(List B1))(hw:((decide (ij7<(m.Gone.length:Int)))=true->∃y45,m.Gone[ij7.toNat]? =some y45/\0<=ij7/\(∃y46,a60 y45 y46/\(∃y47,B2 (⟨sj8,lj9⟩:G1) (!y46) (-1) 7 y47/\(Y9 (wI (ij7+1)) finite s m y47.def_ y47.l r))))/\((decide (ij7<(m.Gone.length:Int)))=false->∃y42,I4 (⟨sj8,lj9⟩:G1) m.Notes 1 (-1) y42/\(∃y43,a7m s m finite y43/\(∃y44,B2 y42 y43 (-1) 19 y44/\(r=y44.l))))):Y9 ij7 finite s m sj8 lj9 r:=
 KL 7 a0l m.Gone<|KW 3 hw (fun _ hw=>KI 8 a0l hw fun _ hw=>KC 1 hw h81 fun _ hw=>KI1 1 hw V3 fun _ hw=>KJ 9 [] hw) fun _ hw=>KI1 9 hw c12 fun _ hw=>KC 7 hw k3q fun _ hw=>KI1 0 hw V3 fun _ hw=>KR 10 hw n1r
theorem a2d(ij10:Int)(bj11:Bool)(ij4:Int)(finite:(List Bool))(s:A2)(m:A9)(sj5:ByteArray)(lj6:(List B1))(y48:A5)(r:(List B1))(hw:((decide (ij10<ij4))=true->∃y86,m.Fields[ij10.toNat]? =some y86/\0<=ij10/\(((decide (y86.Name=y48.Name))=true->M5 (wI (ij10+1)) true ij4 finite s m sj5 lj6 y48 r)/\((decide (y86.Name=y48.Name))=false->M5 (wI (ij10+1)) bj11 ij4 finite s m sj5 lj6 y48 r)))/\((decide (ij10<ij4))=false->∃y67,B2 (⟨sj5,lj6⟩:G1) ((decide (y48.Num<1))||(decide (65535<y48.Num))) y48.Num 6 y67/\(∃R6:Bool->Prop,(∀bz6:Bool,R6 bz6->(∃y70,B2 y67 bz6 y48.Num 11 y70/\(∃y71,M6 y48.Name y71/\(∃y72,B2 y70 (!y71) y48.Num 8 y72/\(∃y73,B2 y72 bj11 y48.Num 9 y73/\(∃y74,a10 m.Reserved y48.Num y74/\(∃R8:Bool->Prop,(∀bz8:Bool,R8 bz8->(∃y76,B2 y73 bz8 y48.Num 21 y76/\(∃y77,b36 y48 y77/\(∃y78,B2 y76 (!y77) y48.Num 1 y78/\(∃y79,b78 s y48 y79/\(∃y80,B2 y78 (!y79) y48.Num 12 y80/\(∃y81,b2f m ij4 y81/\(∃y82,B2 y80 (!y81) y48.Num 15 y82/\(∃y83,b1t s y48 y83/\(∃y84,B2 y82 (!y83) y48.Num 1 y84/\(∃y85,I4 y84 y48.Notes 2 y48.Num y85/\(Q5 (wI (ij4+1)) finite s m y85.def_ y85.l r))))))))))))/\((y74=true->R8 true)/\(y74=false->∃y75,b3g m.Gone y48.Name y75/\(R8 y75))))))))))/\(((decide (0<ij4))=true->∃y69,m.Fields[(wI (ij4 - 1)).toNat]? =some y69/\0<=(wI (ij4 - 1))/\(R6 (decide (y48.Num<=y69.Num))))/\((decide (0<ij4))=false->R6 false))))):M5 ij10 bj11 ij4 finite s m sj5 lj6 y48 r:=
 KW 9 hw (fun _ hw=>KD 5 [1,3]<|KI 3 F7 hw fun _ hw=>KW 8 hw (fun _ hw=>KJ 11 [] hw) fun _ hw=>KJ 9 [] hw) fun _ hw=>KT 11 4<|KI1 2 hw V3 fun _ hw=>KD 3 [1,3]<|KQ 3 11 kB hw (fun _ hw=>KI1 3 hw V3 fun _ hw=>KD 3 [3]<|KC 2 hw d79 fun _ hw=>KI1 4 hw V3 fun _ hw=>KI1 7 hw V3 fun _ hw=>KD 3 [1,3]<|KC 4 hw i85 fun _ hw=>KQ 1 6 kB hw (fun _ hw=>KI1 3 hw V3 fun _ hw=>KD 3 [3]<|KC 1 hw m54 fun _ hw=>KI1 4 hw V3 fun _ hw=>KD 3 [0,3]<|KC 2 hw m3k fun _ hw=>KI1 4 hw V3 fun _ hw=>KD 3 [1,3]<|KC 2 hw m32 fun _ hw=>KI1 4 hw V3 fun _ hw=>KD 3 [0,3]<|KC 2 hw n2a fun _ hw=>KI1 4 hw V3 fun _ hw=>KI1 7 hw c12 fun _ hw=>KJl 9 [] hw a99) (fun _ key _ hw=>KE 6 key hw) fun _ key _ hw=>KC 4 hw h5a fun _ hw=>KE 1 key hw) (fun _ key _ hw=>KI 6 F7 hw fun _ hw=>KE 4 key hw) fun _ key _ hw=>KE 11 key hw
theorem a2r(ij4:Int)(finite:(List Bool))(s:A2)(m:A9)(sj5:ByteArray)(lj6:(List B1))(r:(List B1))(hw:((decide (ij4<(m.Fields.length:Int)))=true->∃y48,m.Fields[ij4.toNat]? =some y48/\0<=ij4/\(M5 0 false ij4 finite s m sj5 lj6 y48 r))/\((decide (ij4<(m.Fields.length:Int)))=false->∃y35,Y4 (⟨sj5,lj6⟩:G1) m.Reserved 1 65535 y35/\(Y9 0 finite s m y35.def_ y35.l r))):Q5 ij4 finite s m sj5 lj6 r:=
 KL 7 F7 m.Fields<|KW 3 hw (fun _ hw=>KI 9 F7 hw fun _ hw=>KJ 18 [] hw) fun _ hw=>KI1 9 hw e4e fun _ hw=>KJ 10 [] hw
theorem b3w(s:A2)(m:A9)(finite:(List Bool))(r:(List B1))(hw:∃y1,a2o m.Name y1/\(∃y2,B2 (⟨m.Name,([]:(List B1))⟩:G1) (!y1) (-1) 8 y2/\(∃y3,B2 y2 (((decide (64<(m.Fields.length:Int)))||(decide (16<(m.Reserved.length:Int))))||(decide (16<(m.Gone.length:Int)))) (-1) 3 y3/\(Q5 0 finite s m y3.def_ y3.l r)))):a65 s m finite r:=
 fP (KC 20 hw g2n fun _ hw=>KIN 1 1 3 hw V3 fun _ hw=>KL 6 F7 m.Fields<|KT2 2 5 (decide (64<(m.Fields.length:Int))) (fun z=>aB (z||(decide (16<(m.Reserved.length:Int))))) (fun _ key=>KE2 5 key) (fun _ key=>KL 2 a5b m.Reserved<|KE2 2 key)<|KT2 1 5 ((decide (64<(m.Fields.length:Int)))||(decide (16<(m.Reserved.length:Int)))) (fun z=>aB (z||(decide (16<(m.Gone.length:Int))))) (fun _ key=>KE2 5 key) (fun _ key=>KL 2 a0l m.Gone<|KE2 2 key)<|KI1 0 hw V3 fun _ hw=>KJ 10 [] hw)
theorem m7s(r:(List B1)):plain (e77 r)=true:=(psl (L2 r))
def V8(ij4:Int)(bj5:Bool)(ij1:Int)(e_:a20)(sj2:ByteArray)(lj3:(List B1))(y20:b6m)(r:(List B1)):Prop:=J Tryz.prog 77 (.ret (e77 r)) 15 [(7,aI ij4),(6,aB bj5),(5,.ptr 2 0),(4,aI ij1),(3,.ptr 1 0),(1,.ptr 0 0)] ⟨[some (a1m e_),some [aS sj2,.sl (List.map E3 lj3) (.own 0)],some (a6b y20)],[(lj3.length,3)],[]⟩
def a0t(ij1:Int)(e_:a20)(sj2:ByteArray)(lj3:(List B1))(r:(List B1)):Prop:=J Tryz.prog 77 (.ret (e77 r)) 7 [(4,aI ij1),(3,.ptr 1 0),(1,.ptr 0 0)] ⟨[some (a1m e_),some [aS sj2,.sl (List.map E3 lj3) (.own 0)]],[(lj3.length,3)],[]⟩
theorem b4b{ij1:Int}{e_:a20}{sj2:ByteArray}{lj3:(List B1)}:a55 [true,true] 1 [(4,aI ij1),(3,.ptr 1 0),(1,.ptr 0 0)]=true/\a37 [true,true] 1 [some (a1m e_),some [aS sj2,.sl (List.map E3 lj3) (.own 0)]]=true:=⟨by first|rfl|simp,by first|rfl|simp⟩
theorem a5h(ij4:Int)(bj5:Bool)(ij1:Int)(e_:a20)(sj2:ByteArray)(lj3:(List B1))(y20:b6m)(r:(List B1))(hw:((decide (ij4<ij1))=true->∃y40,e_.Items[ij4.toNat]? =some y40/\0<=ij4/\(((decide (y40.Name=y20.Name))=true->V8 (wI (ij4+1)) true ij1 e_ sj2 lj3 y20 r)/\((decide (y40.Name=y20.Name))=false->V8 (wI (ij4+1)) bj5 ij1 e_ sj2 lj3 y20 r)))/\((decide (ij4<ij1))=false->∃y30,B2 (⟨sj2,lj3⟩:G1) ((decide (y20.Num<0))||(decide (2147483647<y20.Num))) y20.Num 6 y30/\(∃R3:Bool->Prop,(∀bz3:Bool,R3 bz3->(∃y33,B2 y30 bz3 y20.Num 11 y33/\(∃y34,M6 y20.Name y34/\(∃y35,B2 y33 (!y34) y20.Num 8 y35/\(∃y36,B2 y35 bj5 y20.Num 9 y36/\(∃y37,a10 e_.Reserved y20.Num y37/\(∃y38,B2 y36 y37 y20.Num 21 y38/\(∃y39,I4 y38 y20.Notes 4 y20.Num y39/\(a0t (wI (ij1+1)) e_ y39.def_ y39.l r)))))))))/\(((decide (0<ij1))=true->∃y32,e_.Items[(wI (ij1 - 1)).toNat]? =some y32/\0<=(wI (ij1 - 1))/\(R3 (decide (y20.Num<=y32.Num))))/\((decide (0<ij1))=false->R3 false))))):V8 ij4 bj5 ij1 e_ sj2 lj3 y20 r:=
 KW 9 hw (fun _ hw=>KD 5 [0,2]<|KI 3 a6r hw fun _ hw=>KW 8 hw (fun _ hw=>KJ 11 [] hw) fun _ hw=>KJ 9 [] hw) fun _ hw=>KT 11 4<|KI1 2 hw V3 fun _ hw=>KD 3 [0,2]<|KQ 3 11 kB hw (fun _ hw=>KI1 3 hw V3 fun _ hw=>KD 3 [2]<|KC 2 hw d79 fun _ hw=>KI1 4 hw V3 fun _ hw=>KI1 7 hw V3 fun _ hw=>KD 3 [0,2]<|KC 4 hw i85 fun _ hw=>KI1 3 hw V3 fun _ hw=>KI1 7 hw c12 fun _ hw=>KJl 9 [] hw b4b) (fun _ key _ hw=>KI 6 a6r hw fun _ hw=>KE 4 key hw) fun _ key _ hw=>KE 11 key hw
theorem a44(ij1:Int)(e_:a20)(sj2:ByteArray)(lj3:(List B1))(r:(List B1))(hw:((decide (ij1<(e_.Items.length:Int)))=true->∃y20,e_.Items[ij1.toNat]? =some y20/\0<=ij1/\(V8 0 false ij1 e_ sj2 lj3 y20 r))/\((decide (ij1<(e_.Items.length:Int)))=false->∃y18,Y4 (⟨sj2,lj3⟩:G1) e_.Reserved 0 2147483647 y18/\(∃y19,I4 y18 e_.Notes 3 (-1) y19/\(r=y19.l)))):a0t ij1 e_ sj2 lj3 r:=
 KL 7 a6r e_.Items<|KW 3 hw (fun _ hw=>KI 9 a6r hw fun _ hw=>KJ 18 [] hw) fun _ hw=>KI1 9 hw e4e fun _ hw=>KI1 6 hw c12 fun _ hw=>KR 10 hw m7s
theorem b7n(e_:a20)(r:(List B1))(hw:∃y1,a2o e_.Name y1/\(∃y2,B2 (⟨e_.Name,([]:(List B1))⟩:G1) (!y1) (-1) 8 y2/\(∃y3,B2 y2 (((decide ((e_.Items.length:Int)<1))||(decide (64<(e_.Items.length:Int))))||(decide (16<(e_.Reserved.length:Int)))) (-1) 3 y3/\(∃R1:Bool->Prop,(∀bz1:Bool,R1 bz1->(∃y6,B2 y3 bz1 (-1) 14 y6/\(a0t 0 e_ y6.def_ y6.l r)))/\(((decide (0<(e_.Items.length:Int)))=true->∃y5,e_.Items[(0:Int).toNat]? =some y5/\0<=(0:Int)/\(R1 (y5.Num !=0)))/\((decide (0<(e_.Items.length:Int)))=false->R1 false)))))):b49 e_ r:=
 fP (KC 19 hw g2n fun _ hw=>KIN 1 1 3 hw V3 fun _ hw=>KL 6 a6r e_.Items<|KT2 2 5 (decide ((e_.Items.length:Int)<1)) (fun z=>aB (z||(decide (64<(e_.Items.length:Int))))) (fun _ key=>KE2 5 key) (fun _ key=>KL 2 a6r e_.Items<|KE2 2 key)<|KT2 1 5 ((decide ((e_.Items.length:Int)<1))||(decide (64<(e_.Items.length:Int)))) (fun z=>aB (z||(decide (16<(e_.Reserved.length:Int))))) (fun _ key=>KE2 5 key) (fun _ key=>KL 2 a5b e_.Reserved<|KE2 2 key)<|KI1 0 hw V3 fun _ hw=>KL 6 a6r e_.Items<|KQ 2 7 kB hw (fun _ hw=>KI1 0 hw V3 fun _ hw=>KJ 10 [] hw) (fun _ key _ hw=>KI 2 a6r hw fun _ hw=>KE 4 key hw) fun _ key _ hw=>KE 7 key hw)
theorem m33(r:(List B1)):plain (e78 r)=true:=(psl (L2 r))
def Y1(ij1:Int)(s:A2)(v:C4)(sj2:ByteArray)(lj3:(List B1))(r:(List B1)):Prop:=J Tryz.prog 78 (.ret (e78 r)) 6 [(6,aI ij1),(5,.ptr 2 0),(3,.ptr 1 0),(2,.ptr 0 0)] ⟨[some (A4 s),some (D9 v),some [aS sj2,.sl (List.map E3 lj3) (.own 0)]],[(lj3.length,3)],[]⟩
theorem b0i{ij1:Int}{s:A2}{v:C4}{sj2:ByteArray}{lj3:(List B1)}:a55 [true,true,true] 1 [(6,aI ij1),(5,.ptr 2 0),(3,.ptr 1 0),(2,.ptr 0 0)]=true/\a37 [true,true,true] 1 [some (A4 s),some (D9 v),some [aS sj2,.sl (List.map E3 lj3) (.own 0)]]=true:=⟨by first|rfl|simp,by first|rfl|simp⟩
theorem a2m(ij1:Int)(s:A2)(v:C4)(sj2:ByteArray)(lj3:(List B1))(r:(List B1))(hw:((decide (ij1<(v.Methods.length:Int)))=true->∃y15,v.Methods[ij1.toNat]? =some y15/\0<=ij1/\(∃y16,M6 y15.Name y16/\(∃y17,B2 (⟨sj2,lj3⟩:G1) (!y16) ij1 8 y17/\(∃R3:Bool->Prop,(∀bz3:Bool,R3 bz3->(∃y20,B2 y17 bz3 ij1 11 y20/\(∃y21,M4 s y15.In y21/\(∃R4:Bool->Prop,(∀bz4:Bool,R4 bz4->(∃y23,B2 y20 bz4 ij1 12 y23/\(∃y24,B2 y23 ((decide (y15.Shape<1))||(decide (4<y15.Shape))) ij1 1 y24/\(∃y25,I4 y24 y15.Notes 6 ij1 y25/\(Y1 (wI (ij1+1)) s v y25.def_ y25.l r)))))/\(((decide (y21<0))=true->R4 true)/\((decide (y21<0))=false->∃y22,M4 s y15.Out y22/\(R4 (decide (y22<0)))))))))/\(((decide (0<ij1))=true->∃y19,v.Methods[(wI (ij1 - 1)).toNat]? =some y19/\0<=(wI (ij1 - 1))/\(R3 (Op.bytesLess y15.Name.toList y19.Name.toList||y15.Name.toList==y19.Name.toList)))/\((decide (0<ij1))=false->R3 false))))))/\((decide (ij1<(v.Methods.length:Int)))=false->∃y14,I4 (⟨sj2,lj3⟩:G1) v.Notes 5 (-1) y14/\(r=y14.l))):Y1 ij1 s v sj2 lj3 r:=
 KL 7 T2 v.Methods<|KW 3 hw (fun _ hw=>KI 9 T2 hw fun _ hw=>KC 9 hw d79 fun _ hw=>KI1 2 hw V3 fun _ hw=>KD 3 [1,3]<|KQ 3 11 kB hw (fun _ hw=>KI1 2 hw V3 fun _ hw=>KC 7 hw d7c fun _ hw=>KQ 2 6 kB hw (fun _ hw=>KI1 1 hw V3 fun _ hw=>KT 8 4<|KI1 1 hw V3 fun _ hw=>KI1 6 hw c12 fun _ hw=>KJl 9 [] hw b0i) (fun _ key _ hw=>KE 6 key hw) fun _ key _ hw=>KC 3 hw d7c fun _ hw=>KE 2 key hw) (fun _ key _ hw=>KI 6 T2 hw fun _ hw=>KE 4 key hw) fun _ key _ hw=>KE 11 key hw) fun _ hw=>KI1 9 hw c12 fun _ hw=>KR 10 hw m33
theorem b2s(s:A2)(v:C4)(r:(List B1))(hw:∃y1,a2o v.Name y1/\(∃y2,B2 (⟨v.Name,([]:(List B1))⟩:G1) (!y1) (-1) 8 y2/\(∃y3,B2 y2 (decide (64<(v.Methods.length:Int))) (-1) 3 y3/\(Y1 0 s v y3.def_ y3.l r)))):a7j s v r:=
 fP (KC 20 hw g2n fun _ hw=>KIN 1 1 3 hw V3 fun _ hw=>KL 6 T2 v.Methods<|KI1 1 hw V3 fun _ hw=>KJ 10 [] hw)
theorem i7r(r:Bool):plain (e80 r)=true:=rfl
def a0w(ij1:Int)(y1:(List ByteArray))(s:ByteArray)(mg:Int)(r:Bool):Prop:=J Tryz.prog 80 (.ret (e80 r)) 3 [(8,aI ij1),(7,aI (y1.length:Int)),(6,.sl (List.map J4 y1) .no),(0,aS s)] ⟨[],[],GLm mg⟩
theorem a3c(ij1:Int)(y1:(List ByteArray))(s:ByteArray)(mg:Int)(r:Bool)(hw:((decide (ij1<(y1.length:Int)))=true->∃y4,y1[ij1.toNat]? =some y4/\0<=ij1/\(∃y5,a5j y4 y5/\(((!y5)=true->r=false)/\((!y5)=false->a0w (wI (ij1+1)) y1 s mg r))))/\((decide (ij1<(y1.length:Int)))=false->r=(decide ((s.size:Int)<=120)))):a0w ij1 y1 s mg r:=
 KW 7 hw (fun _ hw=>KI 6 a0l hw fun _ hw=>KC 7 (pgX mg hw) o2e fun _ hw=>KW 3 hw (fun _ hw=>KR 11 hw i7r) fun _ hw=>KJ 8 [] hw) fun _ hw=>KR 14 hw i7r
theorem b4h(mg:Int)(s:ByteArray)(r:Bool)(hw:∃y1,strings_Split mg s (⟨#[46]⟩:ByteArray) y1/\(a0w 0 y1 s mg r)):a5f mg s r:=
 fP (KC 9 hw h5o fun y1 hw=>KL 0 a0l y1<|KJ 5 [] hw)
theorem j0k(r:Bool):plain (e81 r)=true:=rfl
def a08(s:ByteArray)(nj1:Nat)(r:Bool):Prop:=J Tryz.prog 81 (.ret (e81 r)) 3 [(7,.ptr 0 0),(0,aS s)] ⟨[some [.it s nj1]],[],[]⟩
theorem X0(s:ByteArray)(nj1:Nat)(r:Bool)(hw:(nj1<s.size->∃y2,b1d (Utf8.decode s nj1).1 y2/\((((y2==0)||(((((nj1:Nat):Int)==0)&&(y2 !=1))&&(y2 !=2)))=true->r=false)/\(((y2==0)||(((((nj1:Nat):Int)==0)&&(y2 !=1))&&(y2 !=2)))=false->a08 s (nj1+(Utf8.decode s nj1).2) r)))/\(¬nj1<s.size->r=((decide (1<=(s.size:Int)))&&(decide ((s.size:Int)<=40))))):a08 s nj1 r:=
 KX 3 hw (fun _ hw=>KC 19 hw n8s fun y2 hw=>KT2 8 11 (y2==0) (fun z=>aB (z||(((((nj1:Nat):Int)==0)&&(y2 !=1))&&(y2 !=2)))) (fun _ key=>KE2 11 key) (fun _ key=>KT 3 3<|KT 1 3<|KE2 1 key)<|KW 2 hw (fun _ hw=>KR 10 hw j0k) fun _ hw=>KJ 3 [] hw) fun _ hw=>KT 16 4<|KR 4 hw j0k
theorem b4u(s:ByteArray)(r:Bool)(hw:a08 s 0 r):a5j s r:=
 fP (KJ 14 [] hw)
theorem l2h(r:(C8 × Bool)):plain (e82 r)=true:=(b39 (A7 (H5 r.1) (A7 rfl rfl)))
theorem b6c(mg:Int)(s:A2)(path:ByteArray)(r:(C8 × Bool))(hw:∃y1,strings_Cut mg path (⟨#[47]⟩:ByteArray) y1/\(∃y2,a8x s y1.1 y2/\((((!y1.2.2)||(!y2.2))=true->r=((⟨(⟨#[]⟩:ByteArray),(⟨#[]⟩:ByteArray),(⟨#[]⟩:ByteArray),0,([]:(List D7))⟩:C8),false))/\(((!y1.2.2)||(!y2.2))=false->∃y3,a6a y2.1.Methods (⟨154,[],[.elt [aS y1.2.1] 0],by simp⟩:GFn) y3/\(r=(y3.1,y3.2)))))):b11 mg s path r:=
 fP (KC 10 hw o2n fun y1 hw=>KC 14 (pgX mg hw) m4v fun y2 hw=>KT 14 3<|KW 2 hw (fun _ hw=>KR 9 hw l2h) fun _ hw=>KFz 3 2 [true,true,false,true] 0 [(9,.ptr 3 0),(7,.elt [aS y1.2.1] 0),(4,.ptr 1 0)] [some (A4 s),some [aE,aE,aE,aI 0,.nil],none,some (D9 y2.1)] ⟨by first|rfl|simp,by first|rfl|simp⟩<|KC 4 (pgX mg hw) l94 fun _ hw=>KR 7 hw l2h)
end
section
attribute [local irreducible] Ok run put d4b br jn pos dr0 So
attribute [-simp] List.map_take List.map_drop List.map_append List.map_set List.map_replicate List.map_cons List.map_map
attribute [local simp] plain plainL a55 a37 X5 low lowL lowLL I7 G7 G4 D6 I8 G6 G8 G3 H3 F4 W4 M3 a0e G5 F5 N7 K2 E8 F8 K6 H9 K5 H8 K1 E4 D8 E7 N2 I9 D5 F6 P8 M7 P7 O7 H5 J1 H0 I5 C3 N9 G9 J3 a5n a2k b1e a7o Z4 L2 b2r a9g b12 d5g c4b c4t G0 c3w c4e c43 c5r a4w J4 eFn eL c2q b95 b9b b8h c3z b8n b76 b7z c3p c73 b34 c24 b47 b97 b94 b9i b48 b8g a82 b74 b8c b1v a8k b03 b37 c0k c3r a8m b98 c7m c3k c2y b9g b88 b8y c2h c0e b82 b8a c3j c7h b5h c2l b38 b8v c0h b7y b5e c0i a9a c0j b8r b0y a9l b1b b35 b7s c2e a8o b9d b43 c2s b5k b8b b9u b90 b5f b9w a8e b89 b79 b0x a78 b1g b4d b7u c21 a8f b9c b9r
theorem d3b(r:((List A5) × Int)):plain (e86 r)=true:=(b39 (A7 (psl (E7 r.1)) (A7 rfl rfl)))
def a81(y10:ByteArray)(ij8:Int)(y2:(List ByteArray))(lj9:(List A5))(s:A2)(sj15:ByteArray)(lj16:(List A5))(lj17:(List U6))(lj18:(List ByteArray))(lj19:(List D7))(mg:Int)(r:((List A5) × Int)):Prop:=J Tryz.prog 86 (.ret (e86 r)) 16 [(12,aS y10),(29,aI ij8),(28,aI (y2.length:Int)),(27,.sl (List.map J4 y2) .no),(10,.sl (List.map C0 lj9) (.own 0)),(8,.ptr 1 0),(3,.ptr 0 0)] ⟨[some (A4 s),some [aS sj15,.sl (List.map C0 lj16) .no,.sl (List.map P4 lj17) .no,.sl (List.map J4 lj18) .no,.sl (List.map E0 lj19) .no]],[(lj9.length,16)],GLm mg⟩
def a5o(ij8:Int)(y2:(List ByteArray))(lj9:(List A5))(s:A2)(sj10:ByteArray)(lj11:(List A5))(lj12:(List U6))(lj13:(List ByteArray))(lj14:(List D7))(mg:Int)(r:((List A5) × Int)):Prop:=J Tryz.prog 86 (.ret (e86 r)) 11 [(29,aI ij8),(28,aI (y2.length:Int)),(27,.sl (List.map J4 y2) .no),(10,.sl (List.map C0 lj9) (.own 0)),(8,.ptr 1 0),(3,.ptr 0 0)] ⟨[some (A4 s),some [aS sj10,.sl (List.map C0 lj11) .no,.sl (List.map P4 lj12) .no,.sl (List.map J4 lj13) .no,.sl (List.map E0 lj14) .no]],[(lj9.length,16)],GLm mg⟩
theorem b59{y10:ByteArray}{ij8:Int}{y2:(List ByteArray)}{lj9:(List A5)}{s:A2}{sj15:ByteArray}{lj16:(List A5)}{lj17:(List U6)}{lj18:(List ByteArray)}{lj19:(List D7)}:a55 [true,true] 1 [(12,aS y10),(29,aI ij8),(28,aI (y2.length:Int)),(27,.sl (List.map J4 y2) .no),(10,.sl (List.map C0 lj9) (.own 0)),(8,.ptr 1 0),(3,.ptr 0 0)]=true/\a37 [true,true] 1 [some (A4 s),some [aS sj15,.sl (List.map C0 lj16) .no,.sl (List.map P4 lj17) .no,.sl (List.map J4 lj18) .no,.sl (List.map E0 lj19) .no]]=true:=⟨by first|rfl|simp,by first|rfl|simp⟩
theorem b6l{ij8:Int}{y2:(List ByteArray)}{lj9:(List A5)}{s:A2}{sj10:ByteArray}{lj11:(List A5)}{lj12:(List U6)}{lj13:(List ByteArray)}{lj14:(List D7)}:a55 [true,true] 1 [(29,aI ij8),(28,aI (y2.length:Int)),(27,.sl (List.map J4 y2) .no),(10,.sl (List.map C0 lj9) (.own 0)),(8,.ptr 1 0),(3,.ptr 0 0)]=true/\a37 [true,true] 1 [some (A4 s),some [aS sj10,.sl (List.map C0 lj11) .no,.sl (List.map P4 lj12) .no,.sl (List.map J4 lj13) .no,.sl (List.map E0 lj14) .no]]=true:=⟨by first|rfl|simp,by first|rfl|simp⟩
theorem a6j(y10:ByteArray)(ij8:Int)(y2:(List ByteArray))(lj9:(List A5))(s:A2)(sj15:ByteArray)(lj16:(List A5))(lj17:(List U6))(lj18:(List ByteArray))(lj19:(List D7))(mg:Int)(r:((List A5) × Int))(hw:∃y14,a03 (⟨sj15,lj16,lj17,lj18,lj19⟩:A9) y10 y14/\(((!y14.2)=true->r=(([]:(List A5)),8))/\((!y14.2)=false->(lj9.length+[y14.1].length)*240<=140737488355328/\(a5o (wI (ij8+1)) y2 (lj9++[y14.1]) s sj15 lj16 lj17 lj18 lj19 mg r)))):a81 y10 ij8 y2 lj9 s sj15 lj16 lj17 lj18 lj19 mg r:=
 KC 4 (pgX mg hw) i8n fun _ hw=>KW 15 hw (fun _ hw=>KR 13 hw d3b) fun _ hw=>KA 6 F7 hw mE fun hw=>KJl 9 [] hw b6l
theorem a1r(ij8:Int)(y2:(List ByteArray))(lj9:(List A5))(s:A2)(sj10:ByteArray)(lj11:(List A5))(lj12:(List U6))(lj13:(List ByteArray))(lj14:(List D7))(mg:Int)(r:((List A5) × Int))(hw:((decide (ij8<(y2.length:Int)))=true->∃y10,y2[ij8.toNat]? =some y10/\0<=ij8/\(((decide (0<ij8))=true->∃y11,lj9[(wI (ij8 - 1)).toNat]? =some y11/\0<=(wI (ij8 - 1))/\(∃y12,a2f s y11.Type_.Name y12/\((((((y11.Type_.Kind !=10)||(y11.Card==4))||(y11.Card==5))||(!y12.2))=true->r=(([]:(List A5)),12))/\(((((y11.Type_.Kind !=10)||(y11.Card==4))||(y11.Card==5))||(!y12.2))=false->a81 y10 ij8 y2 lj9 s y12.1.Name y12.1.Fields y12.1.Reserved y12.1.Gone y12.1.Notes mg r))))/\((decide (0<ij8))=false->a81 y10 ij8 y2 lj9 s sj10 lj11 lj12 lj13 lj14 mg r)))/\((decide (ij8<(y2.length:Int)))=false->r=(lj9,0))):a5o ij8 y2 lj9 s sj10 lj11 lj12 lj13 lj14 mg r:=
 KW 7 hw (fun _ hw=>KI 7 a0l hw fun _ hw=>KW 12 hw (fun _ hw=>KI 5 F7 hw fun _ hw=>KC 11 (pgX mg hw) n5b fun _ hw=>KT 14 4<|KT 1 4<|KT 1 3<|KW 2 hw (fun _ hw=>KR 13 hw d3b) fun _ hw=>KJl 2 [] hw b59) fun _ hw=>KJ 2 [] hw) fun _ hw=>KR 13 hw d3b
theorem c0u(mg:Int)(s:A2)(name:ByteArray)(path:ByteArray)(r:((List A5) × Int))(hw:((decide (path=(⟨#[]⟩:ByteArray)))=true->r=(([]:(List A5)),1))/\((decide (path=(⟨#[]⟩:ByteArray)))=false->∃y1,a2f s name y1/\(((!y1.2)=true->r=(([]:(List A5)),10))/\((!y1.2)=false->∃y2,strings_Split mg path (⟨#[46]⟩:ByteArray) y2/\(a5o 0 y2 ([]:List A5) s y1.1.Name y1.1.Fields y1.1.Reserved y1.1.Gone y1.1.Notes mg r))))):b7q mg s name path r:=
 fP (KW 14 hw (fun _ hw=>KR 8 hw d3b) fun _ hw=>KC 6 (pgX mg hw) n5b fun _ hw=>KW 15 hw (fun _ hw=>KR 8 hw d3b) fun _ hw=>KC 11 hw h5o fun y2 hw=>KL 0 a0l y2<|KO 5 10 16<|KJ 0 [] hw)
theorem m7a(r:(List Int)):plain (e87 r)=true:=(psl (D6 r))
def T0(ij1:Int)(l:(List A5))(lj2:(List Int))(r:(List Int)):Prop:=J Tryz.prog 87 (.ret (e87 r)) 4 [(8,aI ij1),(7,aI (l.length:Int)),(6,.sl (List.map C0 l) .no),(3,.sl (List.map G0 lj2) (.own 0))] ⟨[],[(lj2.length,1)],[]⟩
theorem a73{ij1:Int}{l:(List A5)}{lj2:(List Int)}:a55 [] 1 [(8,aI ij1),(7,aI (l.length:Int)),(6,.sl (List.map C0 l) .no),(3,.sl (List.map G0 lj2) (.own 0))]=true/\a37 [] 1 []=true:=⟨by first|rfl|simp,by first|rfl|simp⟩
theorem a1a(ij1:Int)(l:(List A5))(lj2:(List Int))(r:(List Int))(hw:((decide (ij1<(l.length:Int)))=true->∃y2,l[ij1.toNat]? =some y2/\0<=ij1/\((lj2.length+[y2.Num].length)*8<=140737488355328/\(T0 (wI (ij1+1)) l (lj2++[y2.Num]) r)))/\((decide (ij1<(l.length:Int)))=false->r=lj2)):T0 ij1 l lj2 r:=
 KW 7 hw (fun _ hw=>KI 6 F7 hw fun _ hw=>KA 10 b8f hw mE fun hw=>KJl 9 [] hw a73) fun _ hw=>KR 12 hw m7a
theorem a94(l:(List A5))(r:(List Int))(hw:T0 0 l ([]:List Int) r):a4n l r:=
 fP (KL 14 F7 l<|KO 5 3 1<|KJ 0 [] hw)
theorem n5v(r:Bool):plain (e91 r)=true:=rfl
theorem b14(f:A5)(r:Bool)(hw:∃y1,c39 f.Type_.Kind y1/\(r=(y1&&(f.Type_.Kind !=6)))):a5y f r:=
 fP (KC 11 hw l97 fun _ hw=>KT 1 5<|KR 4 hw n5v)
theorem n9l(r:(A9 × Bool)):plain (e93 r)=true:=(b39 (A7 (D5 r.1) (A7 rfl rfl)))
theorem b4v(s:A2)(name:ByteArray)(r:(A9 × Bool))(hw:∃y1,a5g s.Messages (⟨166,[],[.elt [aS name] 0],by simp⟩:GFn) y1/\(r=(y1.1,y1.2))):a2f s name r:=
 fP (KFz 9 1 [true,false,true] 0 [(4,.ptr 2 0),(3,.elt [aS name] 0),(2,.ptr 0 0)] [some (A4 s),none,some [aE,.nil,.nil,.nil,.nil]] ⟨by first|rfl|simp,by first|rfl|simp⟩<|KC 4 hw m4a fun _ hw=>KR 7 hw n9l)
theorem e3d(r:Int):plain (n13 r)=true:=rfl
def H2(ij1:Int)(s:(List ByteArray))(v:ByteArray)(r:Int):Prop:=JP Tryz.prog 117 (n13 r) 3 [(8,aI ij1),(7,aI (s.length:Int)),(0,.sl (List.map J4 s) .no),(1,aS v)]
theorem Z7(ij1:Int)(s:(List ByteArray))(v:ByteArray)(r:Int)(hw:((decide (ij1<(s.length:Int)))=true->∃y2,s[ij1.toNat]? =some y2/\0<=ij1/\(((decide (v=y2))=true->r=ij1)/\((decide (v=y2))=false->H2 (wI (ij1+1)) s v r)))/\((decide (ij1<(s.length:Int)))=false->r=(-1))):H2 ij1 s v r:=
 KW 7 hw (fun _ hw=>KI 15 a0l hw fun _ hw=>KW 4 hw (fun _ hw=>KR 12 hw e3d) fun _ hw=>KJ 8 [] hw) fun _ hw=>KR 11 hw e3d
theorem a1k(s:(List ByteArray))(v:ByteArray)(r:Int)(hw:H2 0 s v r):T7 s v r:=
 fP (KL 9 a0l s<|KJ 5 [] hw)
theorem l29(r:(List ByteArray)):plain (n6k r)=true:=(psl (F4 r))
def K3(ij1:Int)(y1:((List ByteArray) × Bool))(lj2:(List ByteArray))(mg:Int)(r:(List ByteArray)):Prop:=J Tryz.prog 118 (.ret (n6k r)) 5 [(17,aI ij1),(16,aI (y1.1.length:Int)),(15,.sl (List.map J4 y1.1) .no),(5,.sl (List.map J4 lj2) (.own 0))] ⟨[],[(lj2.length,1)],GLm mg⟩
theorem X7(ij1:Int)(y1:((List ByteArray) × Bool))(lj2:(List ByteArray))(mg:Int)(r:(List ByteArray))(hw:((decide (ij1<(y1.1.length:Int)))=true->∃y4,y1.1[ij1.toNat]? =some y4/\0<=ij1/\(∃y5,Y6 mg y4 y5/\((y5.2=true->(lj2.length+[y5.1].length)*16<=140737488355328/\(K3 (wI (ij1+1)) y1 (lj2++[y5.1]) mg r))/\(y5.2=false->K3 (wI (ij1+1)) y1 lj2 mg r))))/\((decide (ij1<(y1.1.length:Int)))=false->r=lj2)):K3 ij1 y1 lj2 mg r:=
 KW 7 hw (fun _ hw=>KI 6 a0l hw fun _ hw=>KC 7 hw o19 fun _ hw=>KW 12 hw (fun _ hw=>KA 4 a0l hw mE fun hw=>KJ 9 [] hw) fun _ hw=>KJ 8 [] hw) fun _ hw=>KR 12 hw l29
theorem a76(mg:Int)(path:ByteArray)(r:(List ByteArray))(hw:∃y1,P2 mg path y1/\(K3 0 y1 ([]:List ByteArray) mg r)):a1q mg path r:=
 fP (KC 8 hw l9h fun y1 hw=>KL 16 a0l y1.1<|KO 5 5 1<|KJ 0 [] hw)
theorem l6w(r:Bool):plain (o2x r)=true:=rfl
theorem b1l(f:A5)(r:Bool)(hw:r=((decide (1<=f.Card))&&(decide (f.Card<=3)))):b0k f r:=
 fP (KT 12 4<|KR 4 hw l6w)
theorem d42(r:Bool):plain (n0i r)=true:=rfl
def K0(ij1:Int)(s1_:(List Int))(s2_:(List Int))(r:Bool):Prop:=JP Tryz.prog 121 (n0i r) 6 [(13,aI ij1),(12,aI (s1_.length:Int)),(0,.sl (List.map G0 s1_) .no),(1,.sl (List.map G0 s2_) .no)]
theorem Q6(ij1:Int)(s1_:(List Int))(s2_:(List Int))(r:Bool)(hw:((decide (ij1<(s1_.length:Int)))=true->∃y3,s1_[ij1.toNat]? =some y3/\0<=ij1/\(∃y4,s2_[ij1.toNat]? =some y4/\0<=ij1/\(((y3 !=y4)=true->r=false)/\((y3 !=y4)=false->K0 (wI (ij1+1)) s1_ s2_ r))))/\((decide (ij1<(s1_.length:Int)))=false->r=true)):K0 ij1 s1_ s2_ r:=
 KW 7 hw (fun _ hw=>KD 11 []<|KI 2 b8f hw fun _ hw=>KI 3 b8f hw fun _ hw=>KW 5 hw (fun _ hw=>KR 11 hw d42) fun _ hw=>KJ 8 [] hw) fun _ hw=>KR 11 hw d42
theorem a43(s1_:(List Int))(s2_:(List Int))(r:Bool)(hw:(((s1_.length:Int) !=(s2_.length:Int))=true->r=false)/\(((s1_.length:Int) !=(s2_.length:Int))=false->K0 0 s1_ s2_ r)):U2 s1_ s2_ r:=
 fP (KL 9 b8f s1_<|KL 1 b8f s2_<|KW 3 hw (fun _ hw=>KR 7 hw d42) fun _ hw=>KL 6 b8f s1_<|KJ 5 [] hw)
theorem e5g(r:(A5 × Bool)):plain (o25 r)=true:=(b39 (A7 (D8 r.1) (A7 rfl rfl)))
theorem a92(m:A9)(name:ByteArray)(r:(A5 × Bool))(hw:∃y1,a2y m.Fields (⟨198,[],[.elt [aS name] 0],by simp⟩:GFn) y1/\((y1.2=true->r=(y1.1,true))/\(y1.2=false->∃y2,a2y m.Fields (⟨199,[],[.elt [aS name] 0],by simp⟩:GFn) y2/\(r=(y2.1,y2.2))))):a03 m name r:=
 fP (KFz 10 1 [true,false,true] 0 [(4,.ptr 2 0),(3,.elt [aS name] 0),(2,.ptr 0 0)] [some (C6 m),none,some [aI 0,aE,aI 0,aI 0,aI 0,aE,aE,aB false,aI 0,aU 0,aE,.nil,.nil,.nil,.nil,.nil]] ⟨by first|rfl|simp,by first|rfl|simp⟩<|KC 4 hw h6r fun _ hw=>KW 13 hw (fun _ hw=>KR 9 hw e5g) fun _ hw=>KC 7 hw h6r fun _ hw=>KR 7 hw e5g)
theorem e3o(r:Int):plain (n96 r)=true:=rfl
def F0(ij1:Int)(s:(List (List Int)))(f:GFn)(r:Int):Prop:=JP Tryz.prog 123 (n96 r) 3 [(8,aI ij1),(7,aI (s.length:Int)),(0,.sl (List.map (eL G0) s) .no),(1,.clo (.func f.fn) f.fi f.cap)]
theorem L4(ij1:Int)(s:(List (List Int)))(f:GFn)(r:Int)(hw:((decide (ij1<(s.length:Int)))=true->∃y3,s[ij1.toNat]? =some y3/\0<=ij1/\(∃y4,a7k Tryz.prog [] (.clo (.func f.fn) f.fi f.cap) [.sl (List.map G0 y3) .no] (aB y4)/\((y4=true->r=ij1)/\(y4=false->F0 (wI (ij1+1)) s f r))))/\((decide (ij1<(s.length:Int)))=false->r=(-1))):F0 ij1 s f r:=
 KW 7 hw (fun _ hw=>KI 15 c33 hw fun _ hw=>KF 1 hw fun _ hw=>KW 2 hw (fun _ hw=>KR 12 hw e3o) fun _ hw=>KJ 8 [] hw) fun _ hw=>KR 11 hw e3o
theorem O1(s:(List (List Int)))(f:GFn)(r:Int)(hw:F0 0 s f r):V1 s f r:=
 fP (KL 9 c33 s<|KJ 5 [] hw)
theorem d2p(r:Bool):plain (m1m r)=true:=rfl
def O6(ij1:Int)(sj2:ByteArray)(s:ByteArray)(r:Bool):Prop:=JP Tryz.prog 124 (m1m r) 7 [(4,aI ij1),(3,aS sj2),(0,aS s)]
theorem O4(ij1:Int)(sj2:ByteArray)(s:ByteArray)(r:Bool)(hw:((decide (ij1<(s.size:Int)))=true->(0<=ij1/\ij1<(s.size:Int))/\((((C7 s ij1.toNat) !=46)=true->(0<=ij1/\ij1<=(wI (ij1+1))/\(wI (ij1+1))<=(s.size:Int))/\(((sj2.size+(s.extract ij1.toNat (wI (ij1+1)).toNat).size:Nat):Int)<=9223372036854775807/\(O6 (wI (ij1+1)) (sj2++(s.extract ij1.toNat (wI (ij1+1)).toNat)) s r)))/\(((C7 s ij1.toNat) !=46)=false->∃y4,U9 sj2 y4/\(((!y4)=true->r=false)/\((!y4)=false->O6 (wI (ij1+1)) (⟨#[]⟩:ByteArray) s r)))))/\((decide (ij1<(s.size:Int)))=false->∃y3,U9 sj2 y3/\(r=y3))):O6 ij1 sj2 s r:=
 KW 10 hw (fun _ hw=>KIS 9 hw fun hw=>KW 3 hw (fun _ hw=>KSS 7 hw fun hw=>i4p 0 hw fun hw=>KJ 13 [] hw) fun _ hw=>KC 6 hw d9t fun _ hw=>KW 3 hw (fun _ hw=>KR 12 hw d2p) fun _ hw=>KJ 13 [] hw) fun _ hw=>KC 8 hw d9t fun _ hw=>KR 4 hw d2p
theorem a6u(s:ByteArray)(r:Bool)(hw:((decide (120<(s.size:Int)))=true->r=false)/\((decide (120<(s.size:Int)))=false->O6 0 (⟨#[]⟩:ByteArray) s r)):a0c s r:=
 fP (KW 13 hw (fun _ hw=>KR 7 hw d2p) fun _ hw=>KJ 15 [] hw)
theorem d24(r:Bool):plain (n90 r)=true:=rfl
def P1(ij1:Int)(s:ByteArray)(r:Bool):Prop:=JP Tryz.prog 125 (n90 r) 6 [(3,aI ij1),(0,aS s)]
theorem O2(ij1:Int)(s:ByteArray)(r:Bool)(hw:((decide (ij1<(s.size:Int)))=true->(0<=ij1/\ij1<(s.size:Int))/\(∃y5,a7a (C7 s ij1.toNat) y5/\(∃R6:Bool->Prop,(∀bz6:Bool,R6 bz6->(∃R7:Bool->Prop,(∀bz7:Bool,R7 bz7->((bz7=true->(0<=ij1/\ij1<(s.size:Int))/\(∃R8:Bool->Prop,(∀bz8:Bool,R8 bz8->((bz8=true->r=false)/\(bz8=false->P1 (wI (ij1+1)) s r)))/\(((decide ((C7 s ij1.toNat)<48))=true->R8 true)/\((decide ((C7 s ij1.toNat)<48))=false->(0<=ij1/\ij1<(s.size:Int))/\(R8 (decide (57<(C7 s ij1.toNat))))))))/\(bz7=false->P1 (wI (ij1+1)) s r)))/\((bz6=true->(0<=ij1/\ij1<(s.size:Int))/\(R7 ((C7 s ij1.toNat) !=95)))/\(bz6=false->R7 false))))/\(((!y5)=true->(0<=ij1/\ij1<(s.size:Int))/\(∃y6,a3o (C7 s ij1.toNat) y6/\(R6 (!y6))))/\((!y5)=false->R6 false)))))/\((decide (ij1<(s.size:Int)))=false->r=true)):P1 ij1 s r:=
 KW 10 hw (fun _ hw=>KIS 8 hw fun hw=>KC 0 hw i71 fun _ hw=>KQ 2 6 kB hw (fun _ hw=>KQ 1 5 kB hw (fun _ hw=>KW 1 hw (fun _ hw=>KIS 2 hw fun hw=>KQ 2 5 kB hw (fun _ hw=>KW 3 hw (fun _ hw=>KR 11 hw d24) fun _ hw=>KJ 9 [] hw) (fun _ key _ hw=>KE 5 key hw) fun _ key _ hw=>KIS 2 hw fun hw=>KE 2 key hw) fun _ hw=>KJ 23 [] hw) (fun _ key _ hw=>KIS 2 hw fun hw=>KE 2 key hw) fun _ key _ hw=>KE 5 key hw) (fun _ key _ hw=>KIS 2 hw fun hw=>KC 0 hw l65 fun _ hw=>KE 2 key hw) fun _ key _ hw=>KE 6 key hw) fun _ hw=>KR 11 hw d24
theorem a6p(s:ByteArray)(r:Bool)(hw:∃R1:Bool->Prop,(∀bz1:Bool,R1 bz1->((bz1=true->r=false)/\(bz1=false->P1 1 s r)))/\(((((s.size:Int)==0)||(decide (40<(s.size:Int))))=true->R1 true)/\((((s.size:Int)==0)||(decide (40<(s.size:Int))))=false->(0<=(0:Int)/\(0:Int)<(s.size:Int))/\(∃y1,a7a (C7 s (0:Int).toNat) y1/\(∃R2:Bool->Prop,(∀bz2:Bool,R2 bz2->(R1 bz2))/\(((!y1)=true->(0<=(0:Int)/\(0:Int)<(s.size:Int))/\(∃y2,a3o (C7 s (0:Int).toNat) y2/\(R2 (!y2))))/\((!y1)=false->R2 false))))))):U9 s r:=
 fP (KT 12 4<|KQ 1 11 kB hw (fun _ hw=>KW 2 hw (fun _ hw=>KR 7 hw d24) fun _ hw=>KJ 10 [] hw) (fun _ key _ hw=>KE 11 key hw) fun _ key _ hw=>KIS 1 hw fun hw=>KC 0 hw i71 fun _ hw=>KQ 2 5 kB hw (fun _ hw=>KE 1 key hw) (fun _ key _ hw=>KIS 1 hw fun hw=>KC 0 hw l65 fun _ hw=>KE 2 key hw) fun _ key _ hw=>KE 5 key hw)
theorem d5s(r:(C8 × Bool)):plain (o0u r)=true:=(b39 (A7 (H5 r.1) (A7 rfl rfl)))
def a0u(ij1:Int)(y1:(ByteArray × ByteArray × Bool))(y2:(C4 × Bool))(r:(C8 × Bool)):Prop:=J Tryz.prog 126 (.ret (o0u r)) 8 [(11,aI ij1),(9,.ptr 2 0),(7,aS y1.2.1),(4,.ptr 1 0)] ⟨[none,some [aE,aE,aE,aI 0,.nil],some (D9 y2.1)],[],[]⟩
theorem b1f{ij1:Int}{y1:(ByteArray × ByteArray × Bool)}{y2:(C4 × Bool)}:a55 [false,true,true] 0 [(11,aI ij1),(9,.ptr 2 0),(7,aS y1.2.1),(4,.ptr 1 0)]=true/\a37 [false,true,true] 0 [none,some [aE,aE,aE,aI 0,.nil],some (D9 y2.1)]=true:=⟨by first|rfl|simp,by first|rfl|simp⟩
theorem a93(ij1:Int)(y1:(ByteArray × ByteArray × Bool))(y2:(C4 × Bool))(r:(C8 × Bool))(hw:((decide (ij1<(y2.1.Methods.length:Int)))=true->∃y5,y2.1.Methods[ij1.toNat]? =some y5/\0<=ij1/\(((decide (y5.Name=y1.2.1))=true->∃y6,y2.1.Methods[ij1.toNat]? =some y6/\0<=ij1/\(r=(y6,true)))/\((decide (y5.Name=y1.2.1))=false->a0u (wI (ij1+1)) y1 y2 r)))/\((decide (ij1<(y2.1.Methods.length:Int)))=false->r=((⟨(⟨#[]⟩:ByteArray),(⟨#[]⟩:ByteArray),(⟨#[]⟩:ByteArray),0,([]:(List D7))⟩:C8),false))):a0u ij1 y1 y2 r:=
 KL 7 T2 y2.1.Methods<|KW 3 hw (fun _ hw=>KI 9 T2 hw fun _ hw=>KW 6 hw (fun _ hw=>KI 5 T2 hw fun _ hw=>KR 11 hw d5s) fun _ hw=>KJ 9 [] hw) fun _ hw=>KR 13 hw d5s
theorem b42(s:A2)(path:ByteArray)(r:(C8 × Bool))(hw:∃y1,a7l path 47 y1/\(((!y1.2.2)=true->r=((⟨(⟨#[]⟩:ByteArray),(⟨#[]⟩:ByteArray),(⟨#[]⟩:ByteArray),0,([]:(List D7))⟩:C8),false))/\((!y1.2.2)=false->∃y2,a64 s y1.1 y2/\(a0u 0 y1 y2 r)))):a8n s path r:=
 fP (KC 10 hw h78 fun _ hw=>KW 16 hw (fun _ hw=>KR 9 hw d5s) fun _ hw=>KC 6 hw n2i fun _ hw=>KJl 16 [] hw b1f)
theorem h4y(r:(List ByteArray)):plain (m89 r)=true:=(psl (F4 r))
def N5(ij1:Int)(lj2:(List ByteArray))(l:(List ByteArray))(r:(List ByteArray)):Prop:=J Tryz.prog 127 (.ret (m89 r)) 4 [(4,aI ij1),(3,.sl (List.map J4 lj2) (.own 0)),(0,.sl (List.map J4 l) .no)] ⟨[],[(lj2.length,1)],[]⟩
theorem a0v(ij1:Int)(lj2:(List ByteArray))(l:(List ByteArray))(r:(List ByteArray))(hw:((decide (ij1<(l.length:Int)))=true->∃y5,l[ij1.toNat]? =some y5/\0<=ij1/\(∃y6,X3 y5 y6/\(((!(decide (y6=(⟨#[]⟩:ByteArray))))=true->∃y7,l[ij1.toNat]? =some y7/\0<=ij1/\(∃y8,X3 y7 y8/\((lj2.length+[y8].length)*16<=140737488355328/\(N5 (wI (ij1+1)) (lj2++[y8]) l r))))/\((!(decide (y6=(⟨#[]⟩:ByteArray))))=false->N5 (wI (ij1+1)) lj2 l r))))/\((decide (ij1<(l.length:Int)))=false->r=lj2)):N5 ij1 lj2 l r:=
 KL 6 a0l l<|KW 3 hw (fun _ hw=>KI 8 a0l hw fun _ hw=>KC 1 hw n0h fun _ hw=>KW 3 hw (fun _ hw=>KI 4 a0l hw fun _ hw=>KC 1 hw n0h fun _ hw=>KA 1 a0l hw mE fun hw=>KJ 10 [] hw) fun _ hw=>KJ 9 [] hw) fun _ hw=>KR 12 hw h4y
theorem b0f(l:(List ByteArray))(r:(List ByteArray))(hw:N5 0 ([]:List ByteArray) l r):a40 l r:=
 fP (KO 18 3 1<|KJ 0 [] hw)
theorem c19(r:((List A5) × Int)):plain (m6x r)=true:=(b39 (A7 (psl (E7 r.1)) (A7 rfl rfl)))
def a3m(lj1:(List A5))(sj2:ByteArray)(s:A2)(sj3:ByteArray)(lj4:(List A5))(lj5:(List U6))(lj6:(List ByteArray))(lj7:(List D7))(r:((List A5) × Int)):Prop:=J Tryz.prog 128 (.ret (m6x r)) 9 [(10,.sl (List.map C0 lj1) (.own 0)),(8,.ptr 1 0),(3,.ptr 0 0),(2,aS sj2)] ⟨[some (A4 s),some [aS sj3,.sl (List.map C0 lj4) .no,.sl (List.map P4 lj5) .no,.sl (List.map J4 lj6) .no,.sl (List.map E0 lj7) .no]],[(lj1.length,16)],[]⟩
theorem b4e{lj1:(List A5)}{sj2:ByteArray}{s:A2}{sj3:ByteArray}{lj4:(List A5)}{lj5:(List U6)}{lj6:(List ByteArray)}{lj7:(List D7)}:a55 [true,true] 1 [(10,.sl (List.map C0 lj1) (.own 0)),(8,.ptr 1 0),(3,.ptr 0 0),(2,aS sj2)]=true/\a37 [true,true] 1 [some (A4 s),some [aS sj3,.sl (List.map C0 lj4) .no,.sl (List.map P4 lj5) .no,.sl (List.map J4 lj6) .no,.sl (List.map E0 lj7) .no]]=true:=⟨by first|rfl|simp,by first|rfl|simp⟩
theorem a5t(lj1:(List A5))(sj2:ByteArray)(s:A2)(sj3:ByteArray)(lj4:(List A5))(lj5:(List U6))(lj6:(List ByteArray))(lj7:(List D7))(r:((List A5) × Int))(hw:∃y5,a7l sj2 46 y5/\(∃y6,Y8 (⟨sj3,lj4,lj5,lj6,lj7⟩:A9) y5.1 y6/\(((!y6.2)=true->r=(([]:(List A5)),8))/\((!y6.2)=false->(lj1.length+[y6.1].length)*240<=140737488355328/\(((!y5.2.2)=true->r=((lj1++[y6.1]),0))/\((!y5.2.2)=false->((((y6.1.Type_.Kind !=10)||(y6.1.Card==4))||(y6.1.Card==5))=true->r=(([]:(List A5)),12))/\((((y6.1.Type_.Kind !=10)||(y6.1.Card==4))||(y6.1.Card==5))=false->∃y7,a05 s y6.1.Type_.Name y7/\(((!y7.2)=true->r=(([]:(List A5)),12))/\((!y7.2)=false->a3m (lj1++[y6.1]) y5.2.1 s y7.1.Name y7.1.Fields y7.1.Reserved y7.1.Gone y7.1.Notes r))))))))):a3m lj1 sj2 s sj3 lj4 lj5 lj6 lj7 r:=
 KC 5 hw h78 fun _ hw=>KC 13 hw k5j fun _ hw=>KW 15 hw (fun _ hw=>KR 11 hw c19) fun _ hw=>KA 7 F7 hw mE fun hw=>KW 10 hw (fun _ hw=>KR 12 hw c19) fun _ hw=>KT 10 4<|KT 1 4<|KW 2 hw (fun _ hw=>KR 11 hw c19) fun _ hw=>KC 8 hw g86 fun _ hw=>KW 14 hw (fun _ hw=>KR 11 hw c19) fun _ hw=>KJl 8 [] hw b4e
theorem b86(s:A2)(name:ByteArray)(path:ByteArray)(r:((List A5) × Int))(hw:((decide (path=(⟨#[]⟩:ByteArray)))=true->r=(([]:(List A5)),1))/\((decide (path=(⟨#[]⟩:ByteArray)))=false->∃y1,a05 s name y1/\(((!y1.2)=true->r=(([]:(List A5)),10))/\((!y1.2)=false->a3m ([]:List A5) path s y1.1.Name y1.1.Fields y1.1.Reserved y1.1.Gone y1.1.Notes r)))):a6w s name path r:=
 fP (KW 14 hw (fun _ hw=>KR 8 hw c19) fun _ hw=>KC 6 hw g86 fun _ hw=>KW 15 hw (fun _ hw=>KR 8 hw c19) fun _ hw=>KO 9 10 16<|KJ 0 [] hw)
theorem i43(r:Bool):plain (o2p r)=true:=rfl
theorem b5i(f:A5)(r:Bool)(hw:r=(((f.Card==1)||(f.Card==2))||(f.Card==3))):a8h f r:=
 fP (KT 12 4<|KT 1 4<|KR 4 hw i43)
theorem i82(r:Bool):plain (o2d r)=true:=rfl
theorem b2z(t:a4m)(r:Bool)(hw:∃y1,c2u t.Kind y1/\(r=(y1&&(t.Kind !=6)))):a6x t r:=
 fP (KC 10 hw h9p fun _ hw=>KT 1 4<|KR 4 hw i82)
theorem d1x(r:Bool):plain (m1s r)=true:=rfl
def a3l(ij1:Int)(a:(List A5))(b:(List A5))(r:Bool):Prop:=JP Tryz.prog 131 (m1s r) 6 [(5,aI ij1),(0,.sl (List.map C0 a) .no),(1,.sl (List.map C0 b) .no)]
theorem a5r(ij1:Int)(a:(List A5))(b:(List A5))(r:Bool)(hw:((decide (ij1<(a.length:Int)))=true->∃y3,a[ij1.toNat]? =some y3/\0<=ij1/\(∃y4,b[ij1.toNat]? =some y4/\0<=ij1/\(((y3.Num !=y4.Num)=true->r=false)/\((y3.Num !=y4.Num)=false->a3l (wI (ij1+1)) a b r))))/\((decide (ij1<(a.length:Int)))=false->r=true)):a3l ij1 a b r:=
 KL 6 F7 a<|KW 3 hw (fun _ hw=>KD 5 []<|KI 2 F7 hw fun _ hw=>KI 4 F7 hw fun _ hw=>KW 6 hw (fun _ hw=>KR 11 hw d1x) fun _ hw=>KJ 9 [] hw) fun _ hw=>KR 11 hw d1x
theorem b81(a:(List A5))(b:(List A5))(r:Bool)(hw:(((a.length:Int) !=(b.length:Int))=true->r=false)/\(((a.length:Int) !=(b.length:Int))=false->a3l 0 a b r)):b46 a b r:=
 fP (KL 9 F7 a<|KL 1 F7 b<|KW 3 hw (fun _ hw=>KR 7 hw d1x) fun _ hw=>KJ 10 [] hw)
theorem e03(r:(A5 × Bool)):plain (o3a r)=true:=(b39 (A7 (D8 r.1) (A7 rfl rfl)))
theorem c0c(s:A2)(in_:ByteArray)(r_:B4)(r:(A5 × Bool))(hw:∃y1,a05 s in_ y1/\(∃y2,Y8 y1.1 r_.Body y2/\(((((((decide (r_.Body=(⟨#[]⟩:ByteArray)))||(decide (r_.Body=(⟨#[42]⟩:ByteArray))))||(!y2.2))||((y2.1.Card !=1)&&(y2.1.Card !=2)))||(y2.1.Type_.Kind !=10))=true->r=((⟨0,(⟨#[]⟩:ByteArray),0,0,(⟨0,(⟨#[]⟩:ByteArray)⟩:a4m),(⟨#[]⟩:ByteArray),false,(⟨0,0,(⟨#[]⟩:ByteArray),([]:(List B6)),([]:(List (B6 × B6))),([]:(List (Int × B6))),([]:(List c6a))⟩:B6),([]:(List D7))⟩:A5),false))/\((((((decide (r_.Body=(⟨#[]⟩:ByteArray)))||(decide (r_.Body=(⟨#[42]⟩:ByteArray))))||(!y2.2))||((y2.1.Card !=1)&&(y2.1.Card !=2)))||(y2.1.Type_.Kind !=10))=false->r=(y2.1,true))))):b4s s in_ r_ r:=
 fP (KC 12 hw g86 fun _ hw=>KC 13 hw k5j fun y2 hw=>KT 15 4<|KT 1 3<|KT2 1 9 (((decide (r_.Body=(⟨#[]⟩:ByteArray)))||(decide (r_.Body=(⟨#[42]⟩:ByteArray))))||(!y2.2)) (fun z=>aB (z||((y2.1.Card !=1)&&(y2.1.Card !=2)))) (fun _ key=>KE2 9 key) (fun _ key=>KT 4 4<|KE2 1 key)<|KT 1 5<|KW 2 hw (fun _ hw=>KR 9 hw e03) fun _ hw=>KR 10 hw e03)
theorem h58(r:Bool):plain (o2j r)=true:=rfl
theorem b6e(b:Int)(r:Bool)(hw:r=(((((((decide (97<=b))&&(decide (b<=122)))||((decide (65<=b))&&(decide (b<=90))))||((decide (48<=b))&&(decide (b<=57))))||(b==45))||(b==95))||(b==46))):b2c b r:=
 fP (KT 10 3<|KT2 1 7 ((decide (97<=b))&&(decide (b<=122))) (fun z=>aB (z||((decide (65<=b))&&(decide (b<=90))))) (fun _ key=>KE2 7 key) (fun _ key=>KT 3 3<|KE2 1 key)<|KT2 1 7 (((decide (97<=b))&&(decide (b<=122)))||((decide (65<=b))&&(decide (b<=90)))) (fun z=>aB (z||((decide (48<=b))&&(decide (b<=57))))) (fun _ key=>KE2 7 key) (fun _ key=>KT 3 3<|KE2 1 key)<|KT 1 3<|KT 1 3<|KT 1 3<|KR 4 hw h58)
theorem e5y(r:Bool):plain (m3v r)=true:=rfl
def a5c(ij1:Int)(l:(List ByteArray))(s:ByteArray)(r:Bool):Prop:=JP Tryz.prog 136 (m3v r) 3 [(5,aI ij1),(0,.sl (List.map J4 l) .no),(1,aS s)]
theorem a56(ij1:Int)(l:(List ByteArray))(s:ByteArray)(r:Bool)(hw:((decide (ij1<(l.length:Int)))=true->∃y2,l[ij1.toNat]? =some y2/\0<=ij1/\(((decide (y2=s))=true->r=true)/\((decide (y2=s))=false->a5c (wI (ij1+1)) l s r)))/\((decide (ij1<(l.length:Int)))=false->r=false)):a5c ij1 l s r:=
 KL 6 a0l l<|KW 3 hw (fun _ hw=>KI 8 a0l hw fun _ hw=>KW 5 hw (fun _ hw=>KR 11 hw e5y) fun _ hw=>KJ 9 [] hw) fun _ hw=>KR 11 hw e5y
theorem c0q(l:(List ByteArray))(s:ByteArray)(r:Bool)(hw:a5c 0 l s r):b3g l s r:=
 fP (KJ 13 [] hw)
theorem e5s(r:Bool):plain (m71 r)=true:=rfl
def S6(ij1:Int)(finite:(List Bool))(s:A2)(m:A9)(r:Bool):Prop:=J Tryz.prog 137 (.ret (m71 r)) 3 [(7,aI ij1),(4,.ptr 1 0),(3,.ptr 0 0),(2,.sl (List.map a4w finite) .no)] ⟨[some (A4 s),some (C6 m)],[],[]⟩
theorem a0m{ij1:Int}{finite:(List Bool)}{s:A2}{m:A9}:a55 [true,true] 0 [(7,aI ij1),(4,.ptr 1 0),(3,.ptr 0 0),(2,.sl (List.map a4w finite) .no)]=true/\a37 [true,true] 0 [some (A4 s),some (C6 m)]=true:=⟨by first|rfl|simp,by first|rfl|simp⟩
theorem a4v(ij1:Int)(finite:(List Bool))(s:A2)(m:A9)(r:Bool)(hw:((decide (ij1<(m.Fields.length:Int)))=true->∃y5,m.Fields[ij1.toNat]? =some y5/\0<=ij1/\((((y5.Card !=1)||(y5.Type_.Kind !=10))=true->S6 (wI (ij1+1)) finite s m r)/\(((y5.Card !=1)||(y5.Type_.Kind !=10))=false->∃y6,M4 s y5.Type_.Name y6/\(((decide (0<=y6))=true->∃y8,finite[y6.toNat]? =some y8/\0<=y6/\(((!y8)=true->r=true)/\((!y8)=false->S6 (wI (ij1+1)) finite s m r)))/\((decide (0<=y6))=false->S6 (wI (ij1+1)) finite s m r)))))/\((decide (ij1<(m.Fields.length:Int)))=false->r=false)):S6 ij1 finite s m r:=
 KL 7 F7 m.Fields<|KW 3 hw (fun _ hw=>KI 9 F7 hw fun _ hw=>KT 12 5<|KW 2 hw (fun _ hw=>KJl 10 [] hw a0m) fun _ hw=>KC 8 hw d7c fun _ hw=>KW 8 hw (fun _ hw=>KI 2 d1h hw fun _ hw=>KW 5 hw (fun _ hw=>KR 11 hw e5s) fun _ hw=>KJl 9 [] hw a0m) fun _ hw=>KJl 18 [] hw a0m) fun _ hw=>KR 11 hw e5s
theorem b56(s:A2)(m:A9)(finite:(List Bool))(r:Bool)(hw:S6 0 finite s m r):a7m s m finite r:=
 fP (KJ 15 [] hw)
theorem d1v(r:Bool):plain (m2r r)=true:=rfl
def a00(ij1:Int)(sj2:ByteArray)(r:Bool):Prop:=JP Tryz.prog 138 (m2r r) 6 [(3,aI ij1),(0,aS sj2)]
theorem a3e(ij1:Int)(sj2:ByteArray)(r:Bool)(hw:(((decide (ij1<120))&&(!(decide (sj2=(⟨#[]⟩:ByteArray)))))=true->∃y4,b17 sj2 y4/\(∃y5,a48 y4.2 y5/\((y5=true->r=false)/\(y5=false->a00 (wI (ij1+1)) y4.1 r))))/\(((decide (ij1<120))&&(!(decide (sj2=(⟨#[]⟩:ByteArray)))))=false->r=true)):a00 ij1 sj2 r:=
 KT 7 3<|KW 2 hw (fun _ hw=>KC 7 hw o0a fun _ hw=>KC 11 hw j7f fun _ hw=>KW 2 hw (fun _ hw=>KR 12 hw d1v) fun _ hw=>KJ 14 [] hw) fun _ hw=>KR 11 hw d1v
theorem b4i(s:ByteArray)(r:Bool)(hw:∃y1,a0c s y1/\(((!y1)=true->r=false)/\((!y1)=false->a00 0 s r))):a2o s r:=
 fP (KC 9 hw g5a fun _ hw=>KW 3 hw (fun _ hw=>KR 7 hw d1v) fun _ hw=>KJ 10 [] hw)
theorem e3p(r:Bool):plain (o2i r)=true:=rfl
theorem a9h(s:ByteArray)(r:Bool)(hw:∃y1,U9 s y1/\((y1=true->∃y2,a48 s y2/\(r=(!y2)))/\(y1=false->r=false))):M6 s r:=
 fP (KC 8 hw d9t fun _ hw=>KW 1 hw (fun _ hw=>KC 1 hw j7f fun _ hw=>KR 6 hw e3p) fun _ hw=>KR 8 hw e3p)
theorem e51(r:Bool):plain (m0e r)=true:=rfl
def O5(ij1:Int)(l:(List U6))(n:Int)(r:Bool):Prop:=JP Tryz.prog 140 (m0e r) 3 [(5,aI ij1),(0,.sl (List.map P4 l) .no),(1,aI n)]
theorem a1p(ij1:Int)(l:(List U6))(n:Int)(r:Bool)(hw:((decide (ij1<(l.length:Int)))=true->∃y4,l[ij1.toNat]? =some y4/\0<=ij1/\(((decide (y4.From<=n))=true->∃y6,l[ij1.toNat]? =some y6/\0<=ij1/\(((decide (n<=y6.To))=true->r=true)/\((decide (n<=y6.To))=false->O5 (wI (ij1+1)) l n r)))/\((decide (y4.From<=n))=false->O5 (wI (ij1+1)) l n r)))/\((decide (ij1<(l.length:Int)))=false->r=false)):O5 ij1 l n r:=
 KL 6 a5b l<|KW 3 hw (fun _ hw=>KI 8 a5b hw fun _ hw=>KW 5 hw (fun _ hw=>KI 3 a5b hw fun _ hw=>KW 6 hw (fun _ hw=>KR 11 hw e51) fun _ hw=>KJ 9 [] hw) fun _ hw=>KJ 20 [] hw) fun _ hw=>KR 11 hw e51
theorem b09(l:(List U6))(n:Int)(r:Bool)(hw:O5 0 l n r):a10 l n r:=
 fP (KJ 13 [] hw)
theorem b54(r:Bool):plain (o3h r)=true:=rfl
theorem b8u(f:A5)(r:Bool)(hw:((f.Card !=5)=true->r=(((decide (1<=f.Card))&&(decide (f.Card<=4)))&&(f.Key==0)))/\((f.Card !=5)=false->((f.Key==1)=true->r=true)/\((f.Key==1)=false->((f.Key==2)=true->r=true)/\((f.Key==2)=false->((f.Key==3)=true->r=true)/\((f.Key==3)=false->((f.Key==4)=true->r=true)/\((f.Key==4)=false->((f.Key==5)=true->r=true)/\((f.Key==5)=false->((f.Key==7)=true->r=true)/\((f.Key==7)=false->r=false)))))))):b36 f r:=
 fP (KW 14 hw (fun _ hw=>KT 6 4<|KT 1 4<|KR 5 hw b54) fun _ hw=>KW 17 hw (fun hb2 hw=>KKn 2 hb2<|KR 8 hw b54) fun hb2 hw=>KW 6 hw (fun hb3 hw=>KKn 2 hb3<|KR 8 hw b54) fun hb3 hw=>KW 6 hw (fun hb4 hw=>KKn 2 hb4<|KR 8 hw b54) fun hb4 hw=>KW 6 hw (fun hb5 hw=>KKn 2 hb5<|KR 8 hw b54) fun hb5 hw=>KW 6 hw (fun hb6 hw=>KKn 2 hb6<|KR 8 hw b54) fun hb6 hw=>KW 5 hw (fun _ hw=>KR 8 hw b54) fun _ hw=>KR 9 hw b54)
theorem d16(r:Bool):plain (o2k r)=true:=rfl
theorem c0o(s:A2)(f:A5)(r:Bool)(hw:((f.Type_.Kind==9)=true->∃y1,a3z s f.Type_.Name y1/\(r=(decide (0<=y1))))/\((f.Type_.Kind==9)=false->((f.Type_.Kind==10)=true->∃y2,M4 s f.Type_.Name y2/\(r=((decide (0<=y2))&&(f.Card !=3))))/\((f.Type_.Kind==10)=false->r=(((decide (1<=f.Type_.Kind))&&(decide (f.Type_.Kind<=8)))&&(decide (f.Type_.Name=(⟨#[]⟩:ByteArray))))))):b78 s f r:=
 fP (KW 22 hw (fun _ hw=>KC 6 hw j4w fun _ hw=>KR 7 hw d16) fun _ hw=>KW 6 hw (fun _ hw=>KC 6 hw d7c fun _ hw=>KT 2 4<|KR 6 hw d16) fun _ hw=>KT 10 5<|KT 1 5<|KR 4 hw d16)
theorem c4z(r:Bool):plain (m0k r)=true:=rfl
def S0(ij1:Int)(bj2:Bool)(at_:Int)(m:A9)(y1:A5)(r:Bool):Prop:=J Tryz.prog 143 (.ret (m0k r)) 11 [(7,aI ij1),(6,aB bj2),(5,.ptr 1 0),(2,.ptr 0 0),(1,aI at_)] ⟨[some (C6 m),some (C0 y1)],[],[]⟩
theorem a4p(ij1:Int)(bj2:Bool)(at_:Int)(m:A9)(y1:A5)(r:Bool)(hw:((decide (ij1<(m.Fields.length:Int)))=true->∃y6,m.Fields[ij1.toNat]? =some y6/\0<=ij1/\(((decide (y6.Name=y1.Union))=true->r=false)/\((decide (y6.Name=y1.Union))=false->((decide (ij1<at_))=true->∃y7,m.Fields[ij1.toNat]? =some y7/\0<=ij1/\(((decide (y7.Union=y1.Union))=true->S0 (wI (ij1+1)) true at_ m y1 r)/\((decide (y7.Union=y1.Union))=false->S0 (wI (ij1+1)) bj2 at_ m y1 r)))/\((decide (ij1<at_))=false->S0 (wI (ij1+1)) bj2 at_ m y1 r))))/\((decide (ij1<(m.Fields.length:Int)))=false->((!bj2)=true->r=true)/\((!bj2)=false->∃y5,m.Fields[(wI (at_ - 1)).toNat]? =some y5/\0<=(wI (at_ - 1))/\(r=(decide (y5.Union=y1.Union)))))):S0 ij1 bj2 at_ m y1 r:=
 KL 7 F7 m.Fields<|KW 3 hw (fun _ hw=>KD 6 [0,1]<|KI 3 F7 hw fun _ hw=>KW 8 hw (fun _ hw=>KR 12 hw c4z) fun _ hw=>KD 3 [0,1]<|KW 4 hw (fun _ hw=>KI 3 F7 hw fun _ hw=>KW 9 hw (fun _ hw=>KJ 11 [] hw) fun _ hw=>KJ 9 [] hw) fun _ hw=>KJ 23 [] hw) fun _ hw=>KD 6 [0,1]<|KW 3 hw (fun _ hw=>KR 16 hw c4z) fun _ hw=>KI 4 F7 hw fun _ hw=>KR 11 hw c4z
theorem b6b(m:A9)(at_:Int)(r:Bool)(hw:∃y1,m.Fields[at_.toNat]? =some y1/\0<=at_/\(((decide (y1.Union=(⟨#[]⟩:ByteArray)))=true->r=true)/\((decide (y1.Union=(⟨#[]⟩:ByteArray)))=false->∃R1:Bool->Prop,(∀bz1:Bool,R1 bz1->((bz1=true->r=false)/\(bz1=false->S0 0 false at_ m y1 r)))/\(((y1.Card !=2)=true->R1 true)/\((y1.Card !=2)=false->∃y2,M6 y1.Union y2/\(R1 (!y2))))))):b2f m at_ r:=
 fP (KI 11 F7 hw fun _ hw=>KW 13 hw (fun _ hw=>KR 7 hw c4z) fun _ hw=>KQ 9 5 kB hw (fun _ hw=>KW 2 hw (fun _ hw=>KR 7 hw c4z) fun _ hw=>KJ 15 [] hw) (fun _ key _ hw=>KE 5 key hw) fun _ key _ hw=>KC 2 hw d79 fun _ hw=>KE 2 key hw)
theorem c09(r:Bool):plain (l9i r)=true:=rfl
def a18(ij2:Int)(y5:Int)(s:A2)(f:A5)(r:Bool):Prop:=J Tryz.prog 144 (.ret (l9i r)) 17 [(7,aI ij2),(6,aI y5),(5,.ptr 2 0),(2,.ptr 0 0)] ⟨[some (A4 s),none,some (L7 f.Default)],[],[]⟩
def a16(bj1:Bool)(s:A2)(f:A5)(r:Bool):Prop:=J Tryz.prog 144 (.ret (l9i r)) 6 [(38,aB bj1),(5,.ptr 2 0),(3,.ptr 1 0),(2,.ptr 0 0)] ⟨[some (A4 s),some (C0 f),some (L7 f.Default)],[],[]⟩
theorem b2t{ij2:Int}{y5:Int}{s:A2}{f:A5}:a55 [true,false,true] 0 [(7,aI ij2),(6,aI y5),(5,.ptr 2 0),(2,.ptr 0 0)]=true/\a37 [true,false,true] 0 [some (A4 s),none,some (L7 f.Default)]=true:=⟨by first|rfl|simp,by first|rfl|simp⟩
theorem a4q(ij2:Int)(y5:Int)(s:A2)(f:A5)(r:Bool)(hw:∃y9,s.Enums[y5.toNat]? =some y9/\0<=y5/\(((decide (ij2<(y9.Items.length:Int)))=true->∃y10,s.Enums[y5.toNat]? =some y10/\0<=y5/\(∃y11,y10.Items[ij2.toNat]? =some y11/\0<=ij2/\((((wU y11.Num)==f.Default.Bits)=true->r=true)/\(((wU y11.Num)==f.Default.Bits)=false->a18 (wI (ij2+1)) y5 s f r))))/\((decide (ij2<(y9.Items.length:Int)))=false->r=false))):a18 ij2 y5 s f r:=
 KI 8 a7t hw fun y9 hw=>KL 2 a6r y9.Items<|KW 3 hw (fun _ hw=>KD 5 [0,2]<|KI 3 a7t hw fun _ hw=>KI 3 a6r hw fun _ hw=>KW 9 hw (fun _ hw=>KR 11 hw c09) fun _ hw=>KJ 9 [] hw) fun _ hw=>KR 11 hw c09
theorem b06(bj1:Bool)(s:A2)(f:A5)(r:Bool)(hw:(bj1=true->r=false)/\(bj1=false->∃y5,a3z s f.Type_.Name y5/\(((f.Type_.Kind !=9)=true->r=true)/\((f.Type_.Kind !=9)=false->((decide (y5<0))=true->r=false)/\((decide (y5<0))=false->a18 0 y5 s f r))))):a16 bj1 s f r:=
 KW 0 hw (fun _ hw=>KR 7 hw c09) fun _ hw=>KC 8 hw j4w fun _ hw=>KW 12 hw (fun _ hw=>KR 7 hw c09) fun _ hw=>KW 9 hw (fun _ hw=>KR 7 hw c09) fun _ hw=>KJl 10 [] hw b2t
theorem b6f(s:A2)(f:A5)(r:Bool)(hw:((!f.HasDefault)=true->∃y1,Y2 f.Default (⟨0,0,(⟨#[]⟩:ByteArray),([]:(List B6)),([]:(List (B6 × B6))),([]:(List (Int × B6))),([]:(List c6a))⟩:B6) y1/\(r=y1))/\((!f.HasDefault)=false->∃R2:Bool->Prop,(∀bz2:Bool,R2 bz2->((bz2=true->a16 true s f r)/\(bz2=false->∃y3,b4p f.Default y3/\(∃y4,Y2 f.Default y3 y4/\(a16 (!y4) s f r)))))/\((((f.Card !=2)||(!(decide (f.Union=(⟨#[]⟩:ByteArray)))))=true->R2 true)/\(((f.Card !=2)||(!(decide (f.Union=(⟨#[]⟩:ByteArray)))))=false->∃y2,a9y f.Type_.Kind f.Default y2/\(R2 (!y2)))))):b1t s f r:=
 fP (KW 23 hw (fun _ hw=>KC 4 hw j12 fun _ hw=>KR 5 hw c09) fun _ hw=>KD 4 [1,2]<|KT 4 4<|KQ 1 7 kB hw (fun _ hw=>KW 1 hw (fun _ hw=>KJ 9 [] hw) fun _ hw=>KC 2 hw n7d fun _ hw=>KC 1 hw j12 fun _ hw=>KJ 4 [] hw) (fun _ key _ hw=>KE 7 key hw) fun _ key _ hw=>KC 4 hw i47 fun _ hw=>KE 2 key hw)
theorem j7s(r:G1):plain (l9n r)=true/\(U7 r).all ok1=true/\lowL [true] 1 (U7 r)=true/\(b0m r).length=1:=⟨e5a r,a3w _,b9t _,rfl⟩
theorem a9d(p:G1)(l:(List D7))(target:Int)(num:Int)(r:G1)(hw:∃y1,b15 l target y1/\(∃y2,B2 p (y1 !=0) num y1 y2/\(r=y2))):I4 p l target num r:=
 fIO (KC 4 hw m2o fun _ hw=>KI1 9 hw V3 fun _ hw=>KRi 1 hw j7s)
theorem j4y(r:G1):plain (j5b r)=true/\(U7 r).all ok1=true/\lowL [true] 1 (U7 r)=true/\(b0m r).length=1:=⟨e7r r,a3w _,b9t _,rfl⟩
def M2(ij1:Int)(l:(List U6))(least:Int)(most:Int)(sj2:ByteArray)(lj3:(List B1))(r:G1):Prop:=J Tryz.prog 146 (.io 1 (j5b r) (U7 r) (b0m r)) 1 [(8,aI ij1),(0,.ptr 0 0),(1,.sl (List.map P4 l) .no),(2,aI least),(3,aI most)] ⟨[some [aS sj2,.sl (List.map E3 lj3) (.own 0)]],[(lj3.length,3)],[]⟩
theorem a0f(ij1:Int)(l:(List U6))(least:Int)(most:Int)(sj2:ByteArray)(lj3:(List B1))(r:G1)(hw:((decide (ij1<(l.length:Int)))=true->∃y9,l[ij1.toNat]? =some y9/\0<=ij1/\(∃R7:Bool->Prop,(∀bz7:Bool,R7 bz7->(∃R8:Bool->Prop,(∀bz8:Bool,R8 bz8->(∃y15,B2 (⟨sj2,lj3⟩:G1) bz8 (-1) 6 y15/\(((decide (0<ij1))=true->∃y17,l[ij1.toNat]? =some y17/\0<=ij1/\(∃y18,l[(wI (ij1 - 1)).toNat]? =some y18/\0<=(wI (ij1 - 1))/\(∃y19,B2 y15 (decide (y17.From<=y18.To)) (-1) 11 y19/\(M2 (wI (ij1+1)) l least most y19.def_ y19.l r))))/\((decide (0<ij1))=false->∃y20,B2 y15 false (-1) 11 y20/\(M2 (wI (ij1+1)) l least most y20.def_ y20.l r)))))/\((bz7=true->R8 true)/\(bz7=false->∃y13,l[ij1.toNat]? =some y13/\0<=ij1/\(∃y14,l[ij1.toNat]? =some y14/\0<=ij1/\(R8 (decide (y14.To<y13.From))))))))/\(((decide (y9.From<least))=true->R7 true)/\((decide (y9.From<least))=false->∃y11,l[ij1.toNat]? =some y11/\0<=ij1/\(R7 (decide (most<y11.To)))))))/\((decide (ij1<(l.length:Int)))=false->r=(⟨sj2,lj3⟩:G1))):M2 ij1 l least most sj2 lj3 r:=
 KL 6 a5b l<|KW 3 hw (fun _ hw=>KD 5 []<|KI 3 a5b hw fun _ hw=>KQ 5 8 kB hw (fun _ hw=>KQ 1 12 kB hw (fun _ hw=>KI1 1 hw V3 fun _ hw=>KD 2 []<|KW 4 hw (fun _ hw=>KI 2 a5b hw fun _ hw=>KI 5 a5b hw fun _ hw=>KI1 5 hw V3 fun _ hw=>KJ 9 [] hw) fun _ hw=>KI1 14 hw V3 fun _ hw=>KJ 9 [] hw) (fun _ key _ hw=>KE 12 key hw) fun _ key _ hw=>KI 2 a5b hw fun _ hw=>KI 4 a5b hw fun _ hw=>KE 4 key hw) (fun _ key _ hw=>KE 8 key hw) fun _ key _ hw=>KI 2 a5b hw fun _ hw=>KE 5 key hw) fun _ hw=>KRi 4 hw j4y
theorem a8d(p:G1)(l:(List U6))(least:Int)(most:Int)(r:G1)(hw:M2 0 l least most p.def_ p.l r):Y4 p l least most r:=
 fIO (KJ 7 [] hw)
theorem k97(r:Bool):plain (o3l r)=true:=rfl
theorem b58(s:ByteArray)(r:Bool)(hw:∃y1,c4r s y1/\(r=(decide (y1<0)))):a60 s r:=
 fP (KC 8 hw n7g fun _ hw=>KR 5 hw k97)
theorem e5l(r:Int):plain (n52 r)=true:=rfl
def P9(ij1:Int)(name:ByteArray)(s:A2)(r:Int):Prop:=J Tryz.prog 148 (.ret (n52 r)) 3 [(5,aI ij1),(2,.ptr 0 0),(1,aS name)] ⟨[some (A4 s)],[],[]⟩
theorem a0g(ij1:Int)(name:ByteArray)(s:A2)(r:Int)(hw:((decide (ij1<(s.Messages.length:Int)))=true->∃y2,s.Messages[ij1.toNat]? =some y2/\0<=ij1/\(((decide (y2.Name=name))=true->r=ij1)/\((decide (y2.Name=name))=false->P9 (wI (ij1+1)) name s r)))/\((decide (ij1<(s.Messages.length:Int)))=false->r=(-1))):P9 ij1 name s r:=
 KL 7 I0 s.Messages<|KW 3 hw (fun _ hw=>KI 9 I0 hw fun _ hw=>KW 6 hw (fun _ hw=>KR 12 hw e5l) fun _ hw=>KJ 9 [] hw) fun _ hw=>KR 11 hw e5l
theorem a8a(s:A2)(name:ByteArray)(r:Int)(hw:P9 0 name s r):M4 s name r:=
 fP (KJ 14 [] hw)
theorem c4o(r:Int):plain (o21 r)=true:=rfl
theorem b6i(c:Int)(r:Int)(hw:(((decide (97<=c))&&(decide (c<=122)))=true->r=1)/\(((decide (97<=c))&&(decide (c<=122)))=false->(((decide (65<=c))&&(decide (c<=90)))=true->r=2)/\(((decide (65<=c))&&(decide (c<=90)))=false->(((decide (48<=c))&&(decide (c<=57)))=true->r=3)/\(((decide (48<=c))&&(decide (c<=57)))=false->((c==95)=true->r=4)/\((c==95)=false->r=0))))):b1d c r:=
 fP (KT 12 3<|KW 3 hw (fun _ hw=>KR 8 hw c4o) fun _ hw=>KT 5 3<|KW 3 hw (fun _ hw=>KR 8 hw c4o) fun _ hw=>KT 5 3<|KW 3 hw (fun _ hw=>KR 8 hw c4o) fun _ hw=>KW 7 hw (fun _ hw=>KR 8 hw c4o) fun _ hw=>KR 9 hw c4o)
theorem j96(r:(C4 × Bool)):plain (o2a r)=true:=(b39 (A7 (H0 r.1) (A7 rfl rfl)))
theorem b5t(s:A2)(name:ByteArray)(r:(C4 × Bool))(hw:∃y1,a5d s.Services (⟨219,[],[.elt [aS name] 0],by simp⟩:GFn) y1/\(r=(y1.1,y1.2))):a8x s name r:=
 fP (KFz 9 1 [true,false,true] 0 [(4,.ptr 2 0),(3,.elt [aS name] 0),(2,.ptr 0 0)] [some (A4 s),none,some [aE,.nil,.nil]] ⟨by first|rfl|simp,by first|rfl|simp⟩<|KC 4 hw o1t fun _ hw=>KR 7 hw j96)
theorem e49(r:(C8 × Bool)):plain (m78 r)=true:=(b39 (A7 (H5 r.1) (A7 rfl rfl)))
def O3(ij1:Int)(l:(List C8))(is:GFn)(r:(C8 × Bool)):Prop:=J Tryz.prog 153 (.ret (m78 r)) 3 [(11,aI ij1),(10,aI (l.length:Int)),(9,.sl (List.map H1 l) .no),(4,.ptr 0 0),(1,.clo (.func is.fn) is.fi is.cap)] ⟨[some [aE,aE,aE,aI 0,.nil]],[],[]⟩
theorem a6l{ij1:Int}{l:(List C8)}{is:GFn}:a55 [true] 0 [(11,aI ij1),(10,aI (l.length:Int)),(9,.sl (List.map H1 l) .no),(4,.ptr 0 0),(1,.clo (.func is.fn) is.fi is.cap)]=true/\a37 [true] 0 [some [aE,aE,aE,aI 0,.nil]]=true:=⟨by first|rfl|simp,by first|rfl|simp⟩
theorem a53(ij1:Int)(l:(List C8))(is:GFn)(r:(C8 × Bool))(hw:((decide (ij1<(l.length:Int)))=true->∃y3,l[ij1.toNat]? =some y3/\0<=ij1/\(∃y4,a7k Tryz.prog [] (.clo (.func is.fn) is.fi is.cap) [.agg (H1 y3)] (aB y4)/\((y4=true->r=(y3,true))/\(y4=false->O3 (wI (ij1+1)) l is r))))/\((decide (ij1<(l.length:Int)))=false->r=((⟨(⟨#[]⟩:ByteArray),(⟨#[]⟩:ByteArray),(⟨#[]⟩:ByteArray),0,([]:(List D7))⟩:C8),false))):O3 ij1 l is r:=
 KW 7 hw (fun _ hw=>KI 6 T2 hw fun _ hw=>KF 9 hw fun _ hw=>KW 2 hw (fun _ hw=>KR 13 hw e49) fun _ hw=>KJl 8 [] hw a6l) fun _ hw=>KR 18 hw e49
theorem a74(l:(List C8))(is:GFn)(r:(C8 × Bool))(hw:O3 0 l is r):a6a l is r:=
 fP (KL 10 T2 l<|KJ 5 [] hw)
theorem j1o(r:Bool):plain (o2f r)=true:=rfl
theorem c03(kind:Int)(r:Bool)(hw:r=((decide (1<=kind))&&(decide (kind<=9)))):c39 kind r:=
 fP (KT 10 3<|KR 4 hw j1o)
theorem e7m(r:(A9 × Bool)):plain (m1g r)=true:=(b39 (A7 (D5 r.1) (A7 rfl rfl)))
def N3(ij1:Int)(l:(List A9))(is:GFn)(r:(A9 × Bool)):Prop:=J Tryz.prog 165 (.ret (m1g r)) 3 [(11,aI ij1),(10,aI (l.length:Int)),(9,.sl (List.map C6 l) .no),(4,.ptr 0 0),(1,.clo (.func is.fn) is.fi is.cap)] ⟨[some [aE,.nil,.nil,.nil,.nil]],[],[]⟩
theorem a50{ij1:Int}{l:(List A9)}{is:GFn}:a55 [true] 0 [(11,aI ij1),(10,aI (l.length:Int)),(9,.sl (List.map C6 l) .no),(4,.ptr 0 0),(1,.clo (.func is.fn) is.fi is.cap)]=true/\a37 [true] 0 [some [aE,.nil,.nil,.nil,.nil]]=true:=⟨by first|rfl|simp,by first|rfl|simp⟩
theorem a41(ij1:Int)(l:(List A9))(is:GFn)(r:(A9 × Bool))(hw:((decide (ij1<(l.length:Int)))=true->∃y3,l[ij1.toNat]? =some y3/\0<=ij1/\(∃y4,a7k Tryz.prog [] (.clo (.func is.fn) is.fi is.cap) [.agg (C6 y3)] (aB y4)/\((y4=true->r=(y3,true))/\(y4=false->N3 (wI (ij1+1)) l is r))))/\((decide (ij1<(l.length:Int)))=false->r=((⟨(⟨#[]⟩:ByteArray),([]:(List A5)),([]:(List U6)),([]:(List ByteArray)),([]:(List D7))⟩:A9),false))):N3 ij1 l is r:=
 KW 7 hw (fun _ hw=>KI 6 I0 hw fun _ hw=>KF 9 hw fun _ hw=>KW 2 hw (fun _ hw=>KR 13 hw e7m) fun _ hw=>KJl 8 [] hw a50) fun _ hw=>KR 18 hw e7m
theorem a69(l:(List A9))(is:GFn)(r:(A9 × Bool))(hw:N3 0 l is r):a5g l is r:=
 fP (KL 10 I0 l<|KJ 5 [] hw)
theorem e2f(r:(A5 × Bool)):plain (m0w r)=true:=(b39 (A7 (D8 r.1) (A7 rfl rfl)))
def L9(ij1:Int)(l:(List A5))(is:GFn)(r:(A5 × Bool)):Prop:=J Tryz.prog 175 (.ret (m0w r)) 3 [(11,aI ij1),(10,aI (l.length:Int)),(9,.sl (List.map C0 l) .no),(4,.ptr 0 0),(1,.clo (.func is.fn) is.fi is.cap)] ⟨[some [aI 0,aE,aI 0,aI 0,aI 0,aE,aE,aB false,aI 0,aU 0,aE,.nil,.nil,.nil,.nil,.nil]],[],[]⟩
theorem a6z{ij1:Int}{l:(List A5)}{is:GFn}:a55 [true] 0 [(11,aI ij1),(10,aI (l.length:Int)),(9,.sl (List.map C0 l) .no),(4,.ptr 0 0),(1,.clo (.func is.fn) is.fi is.cap)]=true/\a37 [true] 0 [some [aI 0,aE,aI 0,aI 0,aI 0,aE,aE,aB false,aI 0,aU 0,aE,.nil,.nil,.nil,.nil,.nil]]=true:=⟨by first|rfl|simp,by first|rfl|simp⟩
theorem a0d(ij1:Int)(l:(List A5))(is:GFn)(r:(A5 × Bool))(hw:((decide (ij1<(l.length:Int)))=true->∃y3,l[ij1.toNat]? =some y3/\0<=ij1/\(∃y4,a7k Tryz.prog [] (.clo (.func is.fn) is.fi is.cap) [.agg (C0 y3)] (aB y4)/\((y4=true->r=(y3,true))/\(y4=false->L9 (wI (ij1+1)) l is r))))/\((decide (ij1<(l.length:Int)))=false->r=((⟨0,(⟨#[]⟩:ByteArray),0,0,(⟨0,(⟨#[]⟩:ByteArray)⟩:a4m),(⟨#[]⟩:ByteArray),false,(⟨0,0,(⟨#[]⟩:ByteArray),([]:(List B6)),([]:(List (B6 × B6))),([]:(List (Int × B6))),([]:(List c6a))⟩:B6),([]:(List D7))⟩:A5),false))):L9 ij1 l is r:=
 KW 7 hw (fun _ hw=>KI 6 F7 hw fun _ hw=>KF 9 hw fun _ hw=>KW 2 hw (fun _ hw=>KR 13 hw e2f) fun _ hw=>KJl 8 [] hw a6z) fun _ hw=>KR 18 hw e2f
theorem a2t(l:(List A5))(is:GFn)(r:(A5 × Bool))(hw:L9 0 l is r):a2y l is r:=
 fP (KL 10 F7 l<|KJ 5 [] hw)
theorem e7k(r:(B6 × Bool)):plain (o3k r)=true:=(b39 (A7 (E8 r.1) (A7 rfl rfl)))
theorem c05(l:(List D7))(name:ByteArray)(r:(B6 × Bool))(hw:∃y1,c10 l name y1/\(((decide (y1<0))=true->r=((⟨0,0,(⟨#[]⟩:ByteArray),([]:(List B6)),([]:(List (B6 × B6))),([]:(List (Int × B6))),([]:(List c6a))⟩:B6),false))/\((decide (y1<0))=false->∃y2,l[y1.toNat]? =some y2/\0<=y1/\(r=(y2.Val,true))))):b8t l name r:=
 fP (KC 10 hw m50 fun _ hw=>KW 10 hw (fun _ hw=>KR 9 hw e7k) fun _ hw=>KI 6 a1d hw fun _ hw=>KR 7 hw e7k)
theorem i8g(r:Bool):plain (o3o r)=true:=rfl
theorem b4r(l:(List D7))(name:ByteArray)(r:Bool)(hw:∃y1,b8t l (⟨#[97,108,105,97,115]⟩:ByteArray) y1/\(r=((y1.2&&(y1.1.Kind==7))&&(decide (y1.1.Text=name))))):b5x l name r:=
 fP (KC 8 hw n58 fun _ hw=>KT 12 4<|KT 1 5<|KR 4 hw i8g)
theorem j4r(r:Bool):plain (o2q r)=true:=rfl
theorem a2v(b:Int)(r:Bool)(hw:r=((decide (97<=b))&&(decide (b<=122)))):a7a b r:=
 fP (KT 10 3<|KR 4 hw j4r)
theorem k6p(r:Bool):plain (o2c r)=true:=rfl
theorem a0j(b:Int)(r:Bool)(hw:r=((decide (65<=b))&&(decide (b<=90)))):a3o b r:=
 fP (KT 10 3<|KR 4 hw k6p)
theorem e5z(r:(ByteArray × ByteArray × Bool)):plain (n7i r)=true:=(b39 (A7 rfl (A7 rfl (A7 rfl rfl))))
def a2a(ij1:Int)(s:ByteArray)(c:Int)(r:(ByteArray × ByteArray × Bool)):Prop:=JP Tryz.prog 203 (n7i r) 3 [(7,aI ij1),(0,aS s),(1,aC c)]
theorem a4a(ij1:Int)(s:ByteArray)(c:Int)(r:(ByteArray × ByteArray × Bool))(hw:((decide (ij1<(s.size:Int)))=true->(0<=ij1/\ij1<(s.size:Int))/\((((C7 s ij1.toNat)==c)=true->(0<=(0:Int)/\(0:Int)<=ij1/\ij1<=(s.size:Int))/\((0<=(wI (ij1+1))/\(wI (ij1+1))<=(s.size:Int)/\(s.size:Int)<=(s.size:Int))/\(r=((s.extract (0:Int).toNat ij1.toNat),(s.extract (wI (ij1+1)).toNat (s.size:Int).toNat),true))))/\(((C7 s ij1.toNat)==c)=false->a2a (wI (ij1+1)) s c r)))/\((decide (ij1<(s.size:Int)))=false->r=(s,(⟨#[]⟩:ByteArray),false))):a2a ij1 s c r:=
 KW 10 hw (fun _ hw=>KIS 8 hw fun hw=>KW 4 hw (fun _ hw=>KD 1 []<|KSS 2 hw fun hw=>KSS 3 hw fun hw=>KR 12 hw e5z) fun _ hw=>KJ 9 [] hw) fun _ hw=>KR 14 hw e5z
theorem b6o(s:ByteArray)(c:Int)(r:(ByteArray × ByteArray × Bool))(hw:a2a 0 s c r):a7l s c r:=
 fP (KJ 15 [] hw)
theorem e3n(r:(C4 × Bool)):plain (m1v r)=true:=(b39 (A7 (H0 r.1) (A7 rfl rfl)))
def Y5(ij1:Int)(name:ByteArray)(s:A2)(r:(C4 × Bool)):Prop:=J Tryz.prog 204 (.ret (m1v r)) 3 [(6,aI ij1),(4,.ptr 1 0),(2,.ptr 0 0),(1,aS name)] ⟨[some (A4 s),some [aE,.nil,.nil]],[],[]⟩
theorem a85(ij1:Int)(name:ByteArray)(s:A2)(r:(C4 × Bool))(hw:((decide (ij1<(s.Services.length:Int)))=true->∃y3,s.Services[ij1.toNat]? =some y3/\0<=ij1/\(((decide (y3.Name=name))=true->∃y4,s.Services[ij1.toNat]? =some y4/\0<=ij1/\(r=(y4,true)))/\((decide (y3.Name=name))=false->Y5 (wI (ij1+1)) name s r)))/\((decide (ij1<(s.Services.length:Int)))=false->r=((⟨(⟨#[]⟩:ByteArray),([]:(List C8)),([]:(List D7))⟩:C4),false))):Y5 ij1 name s r:=
 KL 7 P0 s.Services<|KW 3 hw (fun _ hw=>KI 9 P0 hw fun _ hw=>KW 6 hw (fun _ hw=>KI 5 P0 hw fun _ hw=>KR 11 hw e3n) fun _ hw=>KJ 9 [] hw) fun _ hw=>KR 13 hw e3n
theorem b3d(s:A2)(name:ByteArray)(r:(C4 × Bool))(hw:Y5 0 name s r):a64 s name r:=
 fP (KJ 15 [] hw)
theorem e42(r:(A9 × Bool)):plain (m0t r)=true:=(b39 (A7 (D5 r.1) (A7 rfl rfl)))
def Z1(ij1:Int)(name:ByteArray)(s:A2)(r:(A9 × Bool)):Prop:=J Tryz.prog 205 (.ret (m0t r)) 3 [(6,aI ij1),(4,.ptr 1 0),(2,.ptr 0 0),(1,aS name)] ⟨[some (A4 s),some [aE,.nil,.nil,.nil,.nil]],[],[]⟩
theorem a80(ij1:Int)(name:ByteArray)(s:A2)(r:(A9 × Bool))(hw:((decide (ij1<(s.Messages.length:Int)))=true->∃y3,s.Messages[ij1.toNat]? =some y3/\0<=ij1/\(((decide (y3.Name=name))=true->∃y4,s.Messages[ij1.toNat]? =some y4/\0<=ij1/\(r=(y4,true)))/\((decide (y3.Name=name))=false->Z1 (wI (ij1+1)) name s r)))/\((decide (ij1<(s.Messages.length:Int)))=false->r=((⟨(⟨#[]⟩:ByteArray),([]:(List A5)),([]:(List U6)),([]:(List ByteArray)),([]:(List D7))⟩:A9),false))):Z1 ij1 name s r:=
 KL 7 I0 s.Messages<|KW 3 hw (fun _ hw=>KI 9 I0 hw fun _ hw=>KW 6 hw (fun _ hw=>KI 5 I0 hw fun _ hw=>KR 11 hw e42) fun _ hw=>KJ 9 [] hw) fun _ hw=>KR 13 hw e42
theorem b2w(s:A2)(name:ByteArray)(r:(A9 × Bool))(hw:Z1 0 name s r):a05 s name r:=
 fP (KJ 15 [] hw)
theorem d3k(r:(A5 × Bool)):plain (l9f r)=true:=(b39 (A7 (D8 r.1) (A7 rfl rfl)))
def L6(ij3:Int)(name:ByteArray)(m:A9)(r:(A5 × Bool)):Prop:=J Tryz.prog 206 (.ret (l9f r)) 11 [(7,aI ij3),(4,.ptr 1 0),(2,.ptr 0 0),(1,aS name)] ⟨[some (C6 m),some [aI 0,aE,aI 0,aI 0,aI 0,aE,aE,aB false,aI 0,aU 0,aE,.nil,.nil,.nil,.nil,.nil]],[],[]⟩
def P5(ij2:Int)(name:ByteArray)(m:A9)(r:(A5 × Bool)):Prop:=J Tryz.prog 206 (.ret (l9f r)) 3 [(6,aI ij2),(4,.ptr 1 0),(2,.ptr 0 0),(1,aS name)] ⟨[some (C6 m),some [aI 0,aE,aI 0,aI 0,aI 0,aE,aE,aB false,aI 0,aU 0,aE,.nil,.nil,.nil,.nil,.nil]],[],[]⟩
theorem a6n(ij3:Int)(name:ByteArray)(m:A9)(r:(A5 × Bool))(hw:((decide (ij3<(m.Fields.length:Int)))=true->∃y12,m.Fields[ij3.toNat]? =some y12/\0<=ij3/\(∃y13,b1w y12.Notes name y13/\((y13=true->∃y14,m.Fields[ij3.toNat]? =some y14/\0<=ij3/\(r=(y14,true)))/\(y13=false->L6 (wI (ij3+1)) name m r))))/\((decide (ij3<(m.Fields.length:Int)))=false->r=((⟨0,(⟨#[]⟩:ByteArray),0,0,(⟨0,(⟨#[]⟩:ByteArray)⟩:a4m),(⟨#[]⟩:ByteArray),false,(⟨0,0,(⟨#[]⟩:ByteArray),([]:(List B6)),([]:(List (B6 × B6))),([]:(List (Int × B6))),([]:(List c6a))⟩:B6),([]:(List D7))⟩:A5),false))):L6 ij3 name m r:=
 KL 7 F7 m.Fields<|KW 3 hw (fun _ hw=>KI 9 F7 hw fun _ hw=>KC 3 hw n0e fun _ hw=>KW 2 hw (fun _ hw=>KI 5 F7 hw fun _ hw=>KR 11 hw d3k) fun _ hw=>KJ 9 [] hw) fun _ hw=>KR 13 hw d3k
theorem a6f(ij2:Int)(name:ByteArray)(m:A9)(r:(A5 × Bool))(hw:((decide (ij2<(m.Fields.length:Int)))=true->∃y15,m.Fields[ij2.toNat]? =some y15/\0<=ij2/\(((decide (y15.Name=name))=true->∃y16,m.Fields[ij2.toNat]? =some y16/\0<=ij2/\(r=(y16,true)))/\((decide (y15.Name=name))=false->P5 (wI (ij2+1)) name m r)))/\((decide (ij2<(m.Fields.length:Int)))=false->L6 0 name m r)):P5 ij2 name m r:=
 KL 7 F7 m.Fields<|KW 3 hw (fun _ hw=>KI 9 F7 hw fun _ hw=>KW 6 hw (fun _ hw=>KI 5 F7 hw fun _ hw=>KR 11 hw d3k) fun _ hw=>KJ 9 [] hw) fun _ hw=>KJ 13 [] hw
theorem a83(m:A9)(name:ByteArray)(r:(A5 × Bool))(hw:P5 0 name m r):Y8 m name r:=
 fP (KJ 15 [] hw)
theorem k8p(r:Bool):plain (o3j r)=true:=rfl
theorem b3n(kind:Int)(r:Bool)(hw:r=((decide (1<=kind))&&(decide (kind<=9)))):c2u kind r:=
 fP (KT 10 3<|KR 4 hw k8p)
theorem e1q(r:(ByteArray × ByteArray)):plain (m2j r)=true:=(b39 (A7 rfl (A7 rfl rfl)))
def a12(ij1:Int)(full:ByteArray)(r:(ByteArray × ByteArray)):Prop:=JP Tryz.prog 208 (m2j r) 3 [(4,aI ij1),(0,aS full)]
theorem a4c(ij1:Int)(full:ByteArray)(r:(ByteArray × ByteArray))(hw:((decide (0<=ij1))=true->(0<=ij1/\ij1<(full.size:Int))/\((((C7 full ij1.toNat)==46)=true->(0<=(0:Int)/\(0:Int)<=ij1/\ij1<=(full.size:Int))/\((0<=(wI (ij1+1))/\(wI (ij1+1))<=(full.size:Int)/\(full.size:Int)<=(full.size:Int))/\(r=((full.extract (0:Int).toNat ij1.toNat),(full.extract (wI (ij1+1)).toNat (full.size:Int).toNat)))))/\(((C7 full ij1.toNat)==46)=false->a12 (wI (ij1 - 1)) full r)))/\((decide (0<=ij1))=false->r=((⟨#[]⟩:ByteArray),full))):a12 ij1 full r:=
 KW 8 hw (fun _ hw=>KIS 8 hw fun hw=>KW 3 hw (fun _ hw=>KD 1 []<|KSS 2 hw fun hw=>KSS 3 hw fun hw=>KR 11 hw e1q) fun _ hw=>KJ 9 [] hw) fun _ hw=>KR 13 hw e1q
theorem b6a(full:ByteArray)(r:(ByteArray × ByteArray))(hw:a12 (wI ((full.size:Int) - 1)) full r):b17 full r:=
 fP (KJ 17 [] hw)
theorem W3(r:Bool):plain (o2w r)=true:=rfl
theorem b5l(s:ByteArray)(r:Bool)(hw:((decide (s=(⟨#[109,101,115,115,97,103,101]⟩:ByteArray)))=true->r=true)/\((decide (s=(⟨#[109,101,115,115,97,103,101]⟩:ByteArray)))=false->((decide (s=(⟨#[101,110,117,109]⟩:ByteArray)))=true->r=true)/\((decide (s=(⟨#[101,110,117,109]⟩:ByteArray)))=false->((decide (s=(⟨#[115,101,114,118,105,99,101]⟩:ByteArray)))=true->r=true)/\((decide (s=(⟨#[115,101,114,118,105,99,101]⟩:ByteArray)))=false->((decide (s=(⟨#[117,110,105,111,110]⟩:ByteArray)))=true->r=true)/\((decide (s=(⟨#[117,110,105,111,110]⟩:ByteArray)))=false->((decide (s=(⟨#[109,97,112]⟩:ByteArray)))=true->r=true)/\((decide (s=(⟨#[109,97,112]⟩:ByteArray)))=false->((decide (s=(⟨#[108,105,115,116]⟩:ByteArray)))=true->r=true)/\((decide (s=(⟨#[108,105,115,116]⟩:ByteArray)))=false->((decide (s=(⟨#[114,101,113,117,105,114,101,100]⟩:ByteArray)))=true->r=true)/\((decide (s=(⟨#[114,101,113,117,105,114,101,100]⟩:ByteArray)))=false->((decide (s=(⟨#[111,112,116,105,111,110,97,108]⟩:ByteArray)))=true->r=true)/\((decide (s=(⟨#[111,112,116,105,111,110,97,108]⟩:ByteArray)))=false->((decide (s=(⟨#[112,108,97,105,110]⟩:ByteArray)))=true->r=true)/\((decide (s=(⟨#[112,108,97,105,110]⟩:ByteArray)))=false->((decide (s=(⟨#[100,101,102,97,117,108,116]⟩:ByteArray)))=true->r=true)/\((decide (s=(⟨#[100,101,102,97,117,108,116]⟩:ByteArray)))=false->((decide (s=(⟨#[114,101,115,101,114,118,101,100]⟩:ByteArray)))=true->r=true)/\((decide (s=(⟨#[114,101,115,101,114,118,101,100]⟩:ByteArray)))=false->((decide (s=(⟨#[105,109,112,111,114,116]⟩:ByteArray)))=true->r=true)/\((decide (s=(⟨#[105,109,112,111,114,116]⟩:ByteArray)))=false->((decide (s=(⟨#[115,112,97,99,101]⟩:ByteArray)))=true->r=true)/\((decide (s=(⟨#[115,112,97,99,101]⟩:ByteArray)))=false->((decide (s=(⟨#[114,112,99]⟩:ByteArray)))=true->r=true)/\((decide (s=(⟨#[114,112,99]⟩:ByteArray)))=false->((decide (s=(⟨#[115,116,114,101,97,109]⟩:ByteArray)))=true->r=true)/\((decide (s=(⟨#[115,116,114,101,97,109]⟩:ByteArray)))=false->((decide (s=(⟨#[114,101,116,117,114,110,115]⟩:ByteArray)))=true->r=true)/\((decide (s=(⟨#[114,101,116,117,114,110,115]⟩:ByteArray)))=false->((decide (s=(⟨#[111,112,101,110]⟩:ByteArray)))=true->r=true)/\((decide (s=(⟨#[111,112,101,110]⟩:ByteArray)))=false->((decide (s=(⟨#[116,114,117,101]⟩:ByteArray)))=true->r=true)/\((decide (s=(⟨#[116,114,117,101]⟩:ByteArray)))=false->((decide (s=(⟨#[102,97,108,115,101]⟩:ByteArray)))=true->r=true)/\((decide (s=(⟨#[102,97,108,115,101]⟩:ByteArray)))=false->((decide (s=(⟨#[110,97,110]⟩:ByteArray)))=true->r=true)/\((decide (s=(⟨#[110,97,110]⟩:ByteArray)))=false->((decide (s=(⟨#[105,110,102]⟩:ByteArray)))=true->r=true)/\((decide (s=(⟨#[105,110,102]⟩:ByteArray)))=false->r=false)))))))))))))))))))))):a48 s r:=
 fP (KW 19 hw (fun hb1 hw=>KKn 2 hb1<|KR 8 hw W3) fun hb1 hw=>KW 6 hw (fun hb2 hw=>KKn 2 hb2<|KR 8 hw W3) fun hb2 hw=>KW 6 hw (fun hb3 hw=>KKn 2 hb3<|KR 8 hw W3) fun hb3 hw=>KW 6 hw (fun hb4 hw=>KKn 2 hb4<|KR 8 hw W3) fun hb4 hw=>KW 6 hw (fun hb5 hw=>KKn 2 hb5<|KR 8 hw W3) fun hb5 hw=>KW 6 hw (fun hb6 hw=>KKn 2 hb6<|KR 8 hw W3) fun hb6 hw=>KW 6 hw (fun hb7 hw=>KKn 2 hb7<|KR 8 hw W3) fun hb7 hw=>KW 6 hw (fun hb8 hw=>KKn 2 hb8<|KR 8 hw W3) fun hb8 hw=>KW 6 hw (fun hb9 hw=>KKn 2 hb9<|KR 8 hw W3) fun hb9 hw=>KW 6 hw (fun hb10 hw=>KKn 2 hb10<|KR 8 hw W3) fun hb10 hw=>KW 6 hw (fun hb11 hw=>KKn 2 hb11<|KR 8 hw W3) fun hb11 hw=>KW 6 hw (fun hb12 hw=>KKn 2 hb12<|KR 8 hw W3) fun hb12 hw=>KW 6 hw (fun hb13 hw=>KKn 2 hb13<|KR 8 hw W3) fun hb13 hw=>KW 6 hw (fun hb14 hw=>KKn 2 hb14<|KR 8 hw W3) fun hb14 hw=>KW 6 hw (fun hb15 hw=>KKn 2 hb15<|KR 8 hw W3) fun hb15 hw=>KW 6 hw (fun hb16 hw=>KKn 2 hb16<|KR 8 hw W3) fun hb16 hw=>KW 6 hw (fun hb17 hw=>KKn 2 hb17<|KR 8 hw W3) fun hb17 hw=>KW 6 hw (fun hb18 hw=>KKn 2 hb18<|KR 8 hw W3) fun hb18 hw=>KW 6 hw (fun hb19 hw=>KKn 2 hb19<|KR 8 hw W3) fun hb19 hw=>KW 6 hw (fun hb20 hw=>KKn 2 hb20<|KR 8 hw W3) fun hb20 hw=>KW 5 hw (fun _ hw=>KR 8 hw W3) fun _ hw=>KR 9 hw W3)
theorem e2y(r:Int):plain (m9v r)=true:=rfl
def Z0(ij1:Int)(name:ByteArray)(s:A2)(r:Int):Prop:=J Tryz.prog 210 (.ret (m9v r)) 3 [(5,aI ij1),(2,.ptr 0 0),(1,aS name)] ⟨[some (A4 s)],[],[]⟩
theorem a2i(ij1:Int)(name:ByteArray)(s:A2)(r:Int)(hw:((decide (ij1<(s.Enums.length:Int)))=true->∃y2,s.Enums[ij1.toNat]? =some y2/\0<=ij1/\(((decide (y2.Name=name))=true->r=ij1)/\((decide (y2.Name=name))=false->Z0 (wI (ij1+1)) name s r)))/\((decide (ij1<(s.Enums.length:Int)))=false->r=(-1))):Z0 ij1 name s r:=
 KL 7 a7t s.Enums<|KW 3 hw (fun _ hw=>KI 9 a7t hw fun _ hw=>KW 6 hw (fun _ hw=>KR 12 hw e2y) fun _ hw=>KJ 9 [] hw) fun _ hw=>KR 11 hw e2y
theorem b3x(s:A2)(name:ByteArray)(r:Int)(hw:Z0 0 name s r):a3z s name r:=
 fP (KJ 14 [] hw)
theorem l0x(r:Bool):plain (o3f r)=true:=rfl
theorem a8t(a:B6)(b:B6)(r:Bool)(hw:r=((((a.Kind==b.Kind)&&(a.Bits==b.Bits))&&(decide (a.Text=b.Text)))&&((wI ((wI ((wI ((wI ((wI ((wI ((wI ((a.List_.length:Int)+(a.Pairs.length:Int)))+(a.Slots.length:Int)))+(a.Raws.length:Int)))+(b.List_.length:Int)))+(b.Pairs.length:Int)))+(b.Slots.length:Int)))+(b.Raws.length:Int)))==0))):Y2 a b r:=
 fP (KT 15 6<|KT 1 6<|KT2 1 33 (((a.Kind==b.Kind)&&(a.Bits==b.Bits))&&(decide (a.Text=b.Text))) (fun z=>aB (z&&((wI ((wI ((wI ((wI ((wI ((wI ((wI ((a.List_.length:Int)+(a.Pairs.length:Int)))+(a.Slots.length:Int)))+(a.Raws.length:Int)))+(b.List_.length:Int)))+(b.Pairs.length:Int)))+(b.Slots.length:Int)))+(b.Raws.length:Int)))==0))) (fun _ key=>KL 2 c25 a.List_<|KL 2 c9i a.Pairs<|KL 3 c9q a.Slots<|KL 3 d8p a.Raws<|KL 3 c25 b.List_<|KL 3 c9i b.Pairs<|KL 3 c9q b.Slots<|KL 3 d8p b.Raws<|KE2 3 key) (fun _ key=>KE2 33 key)<|KR 4 hw l0x)
theorem b5w(r:Bool):plain (o2g r)=true:=rfl
theorem b9a(kind:Int)(v:B6)(r:Bool)(hw:∃y1,c2u kind y1/\(∃R1:Bool->Prop,(∀bz1:Bool,R1 bz1->((bz1=true->r=false)/\(bz1=false->∃y3,b9j kind y3/\((y3=true->∃R2:Bool->Prop,(∀bz2:Bool,R2 bz2->(r=bz2))/\((((v.Bits==0)&&(decide ((v.Text.size:Int)<=4096)))=true->∃R3:Bool->Prop,(∀bz3:Bool,R3 bz3->(R2 bz3))/\(((kind==8)=true->R3 true)/\((kind==8)=false->∃y4,a60 v.Text y4/\(R3 y4))))/\(((v.Bits==0)&&(decide ((v.Text.size:Int)<=4096)))=false->R2 false)))/\(y3=false->((!(decide (v.Text=(⟨#[]⟩:ByteArray))))=true->r=false)/\((!(decide (v.Text=(⟨#[]⟩:ByteArray))))=false->((kind==1)=true->r=(decide (v.Bits<=1)))/\((kind==1)=false->((kind==2)=true->r=((decide ((-2147483648)<=(wI v.Bits)))&&(decide ((wI v.Bits)<=2147483647))))/\((kind==2)=false->((kind==4)=true->r=(decide (v.Bits<4294967296)))/\((kind==4)=false->((kind==9)=true->r=(decide (v.Bits<2147483648)))/\((kind==9)=false->r=true))))))))))/\((((!y1)||(v.Kind !=kind))=true->R1 true)/\(((!y1)||(v.Kind !=kind))=false->∃y2,c13 v y2/\(R1 (!y2)))))):a9y kind v r:=
 fP (KC 10 hw h9p fun _ hw=>KT 2 5<|KQ 1 4 kB hw (fun _ hw=>KW 2 hw (fun _ hw=>KR 7 hw b5w) fun _ hw=>KC 6 hw m2c fun _ hw=>KW 2 hw (fun _ hw=>KT 6 5<|KQ 1 8 kB hw (fun _ hw=>KR 5 hw b5w) (fun _ key _ hw=>KQ 3 4 kB hw (fun _ hw=>KE 1 key hw) (fun _ key _ hw=>KE 4 key hw) fun _ key _ hw=>KC 2 hw h81 fun _ hw=>KE 1 key hw) fun _ key _ hw=>KE 8 key hw) fun _ hw=>KW 10 hw (fun _ hw=>KR 7 hw b5w) fun _ hw=>KW 15 hw (fun _ hw=>KR 11 hw b5w) fun _ hw=>KW 6 hw (fun _ hw=>KT 13 3<|KR 6 hw b5w) fun _ hw=>KW 6 hw (fun _ hw=>KR 11 hw b5w) fun _ hw=>KW 6 hw (fun _ hw=>KR 11 hw b5w) fun _ hw=>KR 9 hw b5w) (fun _ key _ hw=>KE 4 key hw) fun _ key _ hw=>KC 1 hw m65 fun _ hw=>KE 2 key hw)
theorem d4u(r:B6):plain (o26 r)=true:=(E8 r)
theorem b8e(v:B6)(r:B6)(hw:((v.Kind==6)=true->∃y1,b1k v.Bits y1/\(((y1==0)=true->r=(⟨v.Kind,9221120237041090560,v.Text,v.List_,v.Pairs,v.Slots,v.Raws⟩:B6))/\((y1==0)=false->r=v)))/\((v.Kind==6)=false->r=v)):b4p v r:=
 fP (KW 13 hw (fun _ hw=>KC 2 hw m3c fun _ hw=>KW 4 hw (fun _ hw=>KR 12 hw d4u) fun _ hw=>KR 9 hw d4u) fun _ hw=>KR 17 hw d4u)
theorem b8p(r:Int):plain (l9o r)=true:=rfl
def a19(bj2:Bool)(ij1:Int)(l:(List D7))(target:Int)(r:Int):Prop:=JP Tryz.prog 214 (l9o r) 20 [(51,aB bj2),(5,aI ij1),(0,.sl (List.map E0 l) .no),(1,aI target)]
def S5(ij1:Int)(l:(List D7))(target:Int)(r:Int):Prop:=JP Tryz.prog 214 (l9o r) 6 [(5,aI ij1),(0,.sl (List.map E0 l) .no),(1,aI target)]
theorem b0w(bj2:Bool)(ij1:Int)(l:(List D7))(target:Int)(r:Int)(hw:(bj2=true->r=11)/\(bj2=false->((decide (0<ij1))=true->∃y17,l[ij1.toNat]? =some y17/\0<=ij1/\(∃y18,l[(wI (ij1 - 1)).toNat]? =some y18/\0<=(wI (ij1 - 1))/\(((decide (y17.Name=y18.Name))=true->r=9)/\((decide (y17.Name=y18.Name))=false->S5 (wI (ij1+1)) l target r))))/\((decide (0<ij1))=false->S5 (wI (ij1+1)) l target r))):a19 bj2 ij1 l target r:=
 KW 0 hw (fun _ hw=>KR 12 hw b8p) fun _ hw=>KD 3 []<|KW 3 hw (fun _ hw=>KI 2 a1d hw fun _ hw=>KI 5 a1d hw fun _ hw=>KW 7 hw (fun _ hw=>KR 11 hw b8p) fun _ hw=>KJ 9 [] hw) fun _ hw=>KJ 26 [] hw
theorem a4k(ij1:Int)(l:(List D7))(target:Int)(r:Int)(hw:((decide (ij1<(l.length:Int)))=true->∃y7,l[ij1.toNat]? =some y7/\0<=ij1/\(∃y8,a9p y7.Name y8/\(((y8==0)=true->r=8)/\((y8==0)=false->∃y9,l[ij1.toNat]? =some y9/\0<=ij1/\(∃y10,b5p y9.Name target y10/\(((!y10)=true->r=1)/\((!y10)=false->∃y11,l[ij1.toNat]? =some y11/\0<=ij1/\(∃y12,b1s y11 y12/\(((!y12)=true->r=12)/\((!y12)=false->((decide (0<ij1))=true->∃y13,l[ij1.toNat]? =some y13/\0<=ij1/\(∃y14,l[(wI (ij1 - 1)).toNat]? =some y14/\0<=(wI (ij1 - 1))/\(a19 (Op.bytesLess y13.Name.toList y14.Name.toList) ij1 l target r)))/\((decide (0<ij1))=false->a19 false ij1 l target r)))))))))))/\((decide (ij1<(l.length:Int)))=false->r=0)):S5 ij1 l target r:=
 KL 6 a1d l<|KW 3 hw (fun _ hw=>KI 9 a1d hw fun _ hw=>KC 2 hw l8q fun _ hw=>KW 3 hw (fun _ hw=>KR 12 hw b8p) fun _ hw=>KI 7 a1d hw fun _ hw=>KC 3 hw m99 fun _ hw=>KW 3 hw (fun _ hw=>KR 12 hw b8p) fun _ hw=>KI 7 a1d hw fun _ hw=>KC 1 hw m2y fun _ hw=>KW 3 hw (fun _ hw=>KR 12 hw b8p) fun _ hw=>KD 4 []<|KW 3 hw (fun _ hw=>KI 2 a1d hw fun _ hw=>KI 5 a1d hw fun _ hw=>KJ 7 [] hw) fun _ hw=>KJ 16 [] hw) fun _ hw=>KR 11 hw b8p
theorem b6s(l:(List D7))(target:Int)(r:Int)(hw:((decide (8<(l.length:Int)))=true->r=3)/\((decide (8<(l.length:Int)))=false->S5 0 l target r)):b15 l target r:=
 fP (KL 9 a1d l<|KW 3 hw (fun _ hw=>KR 7 hw b8p) fun _ hw=>KJ 10 [] hw)
theorem e6h(r:Int):plain (m8x r)=true:=rfl
def a5e(ij1:Int)(s:ByteArray)(r:Int):Prop:=JP Tryz.prog 215 (m8x r) 3 [(3,aI ij1),(0,aS s)]
theorem a6t(ij1:Int)(s:ByteArray)(r:Int)(hw:((decide (ij1<(s.size:Int)))=true->∃y2,b4l s ij1 y2/\(((y2==0)=true->r=ij1)/\((y2==0)=false->a5e (wI (ij1+y2)) s r)))/\((decide (ij1<(s.size:Int)))=false->r=(-1))):a5e ij1 s r:=
 KW 10 hw (fun _ hw=>KC 7 hw n5p fun _ hw=>KW 10 hw (fun _ hw=>KR 12 hw e6h) fun _ hw=>KJ 10 [] hw) fun _ hw=>KR 11 hw e6h
theorem c0z(s:ByteArray)(r:Int)(hw:a5e 0 s r):c4r s r:=
 fP (KJ 13 [] hw)
theorem e05(r:(C4 × Bool)):plain (n3y r)=true:=(b39 (A7 (H0 r.1) (A7 rfl rfl)))
def M9(ij1:Int)(l:(List C4))(is:GFn)(r:(C4 × Bool)):Prop:=J Tryz.prog 218 (.ret (n3y r)) 3 [(11,aI ij1),(10,aI (l.length:Int)),(9,.sl (List.map D9 l) .no),(4,.ptr 0 0),(1,.clo (.func is.fn) is.fi is.cap)] ⟨[some [aE,.nil,.nil]],[],[]⟩
theorem a5v{ij1:Int}{l:(List C4)}{is:GFn}:a55 [true] 0 [(11,aI ij1),(10,aI (l.length:Int)),(9,.sl (List.map D9 l) .no),(4,.ptr 0 0),(1,.clo (.func is.fn) is.fi is.cap)]=true/\a37 [true] 0 [some [aE,.nil,.nil]]=true:=⟨by first|rfl|simp,by first|rfl|simp⟩
theorem a42(ij1:Int)(l:(List C4))(is:GFn)(r:(C4 × Bool))(hw:((decide (ij1<(l.length:Int)))=true->∃y3,l[ij1.toNat]? =some y3/\0<=ij1/\(∃y4,a7k Tryz.prog [] (.clo (.func is.fn) is.fi is.cap) [.agg (D9 y3)] (aB y4)/\((y4=true->r=(y3,true))/\(y4=false->M9 (wI (ij1+1)) l is r))))/\((decide (ij1<(l.length:Int)))=false->r=((⟨(⟨#[]⟩:ByteArray),([]:(List C8)),([]:(List D7))⟩:C4),false))):M9 ij1 l is r:=
 KW 7 hw (fun _ hw=>KI 6 P0 hw fun _ hw=>KF 9 hw fun _ hw=>KW 2 hw (fun _ hw=>KR 13 hw e05) fun _ hw=>KJl 8 [] hw a5v) fun _ hw=>KR 18 hw e05
theorem a7g(l:(List C4))(is:GFn)(r:(C4 × Bool))(hw:M9 0 l is r):a5d l is r:=
 fP (KL 10 P0 l<|KJ 5 [] hw)
theorem k3t(r:Int):plain (o2b r)=true:=rfl
theorem b9o(l:(List D7))(name:ByteArray)(r:Int)(hw:∃y1,T4 l (⟨345,[],[.elt [aS name] 0],by simp⟩:GFn) y1/\(r=y1)):c10 l name r:=
 fP (KFz 7 0 [false] 0 [(3,.elt [aS name] 0),(0,.sl (List.map E0 l) .no)] [none] ⟨by first|rfl|simp,by first|rfl|simp⟩<|KC 3 hw n00 fun _ hw=>KR 4 hw k3t)
theorem h9q(r:Bool):plain (o22 r)=true:=rfl
theorem b57(l:(List D7))(name:ByteArray)(r:Bool)(hw:∃y1,b5g l (⟨#[97,108,105,97,115]⟩:ByteArray) y1/\(r=((y1.2&&(y1.1.Kind==7))&&(decide (y1.1.Text=name))))):b1w l name r:=
 fP (KC 8 hw m4d fun _ hw=>KT 12 4<|KT 1 5<|KR 4 hw h9q)
theorem j5m(r:Bool):plain (o3b r)=true:=rfl
theorem b9e(v:B6)(r:Bool)(hw:r=(((((v.List_.length:Int)==0)&&((v.Pairs.length:Int)==0))&&((v.Slots.length:Int)==0))&&((v.Raws.length:Int)==0))):c13 v r:=
 fP (KL 10 c25 v.List_<|KT2 2 5 ((v.List_.length:Int)==0) (fun z=>aB (z&&((v.Pairs.length:Int)==0))) (fun _ key=>KL 2 c9i v.Pairs<|KE2 2 key) (fun _ key=>KE2 5 key)<|KT2 1 5 (((v.List_.length:Int)==0)&&((v.Pairs.length:Int)==0)) (fun z=>aB (z&&((v.Slots.length:Int)==0))) (fun _ key=>KL 2 c9q v.Slots<|KE2 2 key) (fun _ key=>KE2 5 key)<|KT2 1 5 ((((v.List_.length:Int)==0)&&((v.Pairs.length:Int)==0))&&((v.Slots.length:Int)==0)) (fun z=>aB (z&&((v.Raws.length:Int)==0))) (fun _ key=>KL 2 d8p v.Raws<|KE2 2 key) (fun _ key=>KE2 5 key)<|KR 4 hw j5m)
theorem k1i(r:Bool):plain (o2t r)=true:=rfl
theorem b6t(kind:Int)(r:Bool)(hw:r=((kind==7)||(kind==8))):b9j kind r:=
 fP (KT 10 3<|KR 4 hw k1i)
theorem c5a(r:Int):plain (o2y r)=true:=rfl
theorem b6j(bits:Int)(r:Int)(hw:((decide (9218868437227405312<(bits.tmod 9223372036854775808)))=true->r=0)/\((decide (9218868437227405312<(bits.tmod 9223372036854775808)))=false->(((bits.tmod 9223372036854775808)==9218868437227405312)=true->r=1)/\(((bits.tmod 9223372036854775808)==9218868437227405312)=false->(((bits.tmod 9223372036854775808)==0)=true->r=2)/\(((bits.tmod 9223372036854775808)==0)=false->((decide ((bits.tmod 9223372036854775808)<4503599627370496))=true->r=3)/\((decide ((bits.tmod 9223372036854775808)<4503599627370496))=false->r=4))))):b1k bits r:=
 fP (KW 21 hw (fun _ hw=>KR 8 hw c5a) fun _ hw=>KW 7 hw (fun _ hw=>KR 8 hw c5a) fun _ hw=>KW 7 hw (fun _ hw=>KR 8 hw c5a) fun _ hw=>KW 7 hw (fun _ hw=>KR 8 hw c5a) fun _ hw=>KR 9 hw c5a)
theorem c08(r:Int):plain (k1b r)=true:=rfl
def R0(bj7:Bool)(name:ByteArray)(r:Int):Prop:=JP Tryz.prog 280 (k1b r) 12 [(13,aB bj7),(3,aS name)]
def S1(bj6:Bool)(name:ByteArray)(r:Int):Prop:=JP Tryz.prog 280 (k1b r) 7 [(8,aB bj6),(3,aS name)]
def a06(bj4:Bool)(name:ByteArray)(r:Int):Prop:=JP Tryz.prog 280 (k1b r) 3 [(4,aB bj4),(3,aS name)]
theorem b16(bj7:Bool)(name:ByteArray)(r:Int)(hw:(bj7=true->r=4)/\(bj7=false->((decide (name=(⟨#[109,105,110]⟩:ByteArray)))=true->r=3)/\((decide (name=(⟨#[109,105,110]⟩:ByteArray)))=false->((decide (name=(⟨#[109,97,120]⟩:ByteArray)))=true->r=3)/\((decide (name=(⟨#[109,97,120]⟩:ByteArray)))=false->r=0)))):R0 bj7 name r:=
 KW 0 hw (fun _ hw=>KR 8 hw c08) fun _ hw=>KW 7 hw (fun hb49 hw=>KKn 2 hb49<|KR 8 hw c08) fun hb49 hw=>KW 5 hw (fun _ hw=>KR 8 hw c08) fun _ hw=>KR 9 hw c08
theorem b04(bj6:Bool)(name:ByteArray)(r:Int)(hw:(bj6=true->r=7)/\(bj6=false->((decide (name=(⟨#[115,105,110,99,101]⟩:ByteArray)))=true->R0 (decide (name=(⟨#[115,105,110,99,101]⟩:ByteArray))) name r)/\((decide (name=(⟨#[115,105,110,99,101]⟩:ByteArray)))=false->((decide (name=(⟨#[117,110,116,105,108]⟩:ByteArray)))=true->R0 (decide (name=(⟨#[117,110,116,105,108]⟩:ByteArray))) name r)/\((decide (name=(⟨#[117,110,116,105,108]⟩:ByteArray)))=false->((decide (name=(⟨#[108,101,110,103,116,104]⟩:ByteArray)))=true->R0 (decide (name=(⟨#[108,101,110,103,116,104]⟩:ByteArray))) name r)/\((decide (name=(⟨#[108,101,110,103,116,104]⟩:ByteArray)))=false->R0 (decide (name=(⟨#[116,105,109,101,111,117,116]⟩:ByteArray))) name r))))):S1 bj6 name r:=
 KW 0 hw (fun _ hw=>KR 8 hw c08) fun _ hw=>KW 7 hw (fun _ hw=>KJ 2 [] hw) fun _ hw=>KW 6 hw (fun _ hw=>KJ 2 [] hw) fun _ hw=>KW 6 hw (fun _ hw=>KJ 2 [] hw) fun _ hw=>KJ 5 [] hw
theorem b3y(bj4:Bool)(name:ByteArray)(r:Int)(hw:(bj4=true->r=1)/\(bj4=false->((decide (name=(⟨#[100,111,99]⟩:ByteArray)))=true->S1 (decide (name=(⟨#[100,111,99]⟩:ByteArray))) name r)/\((decide (name=(⟨#[100,111,99]⟩:ByteArray)))=false->((decide (name=(⟨#[97,108,105,97,115]⟩:ByteArray)))=true->S1 (decide (name=(⟨#[97,108,105,97,115]⟩:ByteArray))) name r)/\((decide (name=(⟨#[97,108,105,97,115]⟩:ByteArray)))=false->((decide (name=(⟨#[114,111,117,116,101]⟩:ByteArray)))=true->S1 (decide (name=(⟨#[114,111,117,116,101]⟩:ByteArray))) name r)/\((decide (name=(⟨#[114,111,117,116,101]⟩:ByteArray)))=false->S1 (decide (name=(⟨#[111,119,110,101,114]⟩:ByteArray))) name r))))):a06 bj4 name r:=
 KW 0 hw (fun _ hw=>KR 8 hw c08) fun _ hw=>KW 7 hw (fun _ hw=>KJ 2 [] hw) fun _ hw=>KW 6 hw (fun _ hw=>KJ 2 [] hw) fun _ hw=>KW 6 hw (fun _ hw=>KJ 2 [] hw) fun _ hw=>KJ 5 [] hw
theorem b7p(name:ByteArray)(r:Int)(hw:((decide (name=(⟨#[100,101,112,114,101,99,97,116,101,100]⟩:ByteArray)))=true->a06 (decide (name=(⟨#[100,101,112,114,101,99,97,116,101,100]⟩:ByteArray))) name r)/\((decide (name=(⟨#[100,101,112,114,101,99,97,116,101,100]⟩:ByteArray)))=false->((decide (name=(⟨#[115,101,99,114,101,116]⟩:ByteArray)))=true->a06 (decide (name=(⟨#[115,101,99,114,101,116]⟩:ByteArray))) name r)/\((decide (name=(⟨#[115,101,99,114,101,116]⟩:ByteArray)))=false->a06 (decide (name=(⟨#[105,100,101,109,112,111,116,101,110,116]⟩:ByteArray))) name r))):a9p name r:=
 fP (KW 19 hw (fun _ hw=>KJ 2 [] hw) fun _ hw=>KW 6 hw (fun _ hw=>KJ 2 [] hw) fun _ hw=>KJ 5 [] hw)
theorem c4g(r:Bool):plain (h4d r)=true:=rfl
def X9(bj15:Bool)(target:Int)(r:Bool):Prop:=JP Tryz.prog 281 (h4d r) 15 [(36,aB bj15),(1,aI target)]
def S2(bj14:Bool)(name:ByteArray)(target:Int)(r:Bool):Prop:=JP Tryz.prog 281 (h4d r) 10 [(29,aB bj14),(5,aS name),(1,aI target)]
def X4(bj12:Bool)(name:ByteArray)(target:Int)(r:Bool):Prop:=JP Tryz.prog 281 (h4d r) 6 [(15,aB bj12),(5,aS name),(1,aI target)]
def a2c(bj8:Bool)(name:ByteArray)(target:Int)(r:Bool):Prop:=JP Tryz.prog 281 (h4d r) 3 [(6,aB bj8),(5,aS name),(1,aI target)]
theorem b1z(bj15:Bool)(target:Int)(r:Bool)(hw:(bj15=true->r=(target==6))/\(bj15=false->r=((target==1)||(target==5)))):X9 bj15 target r:=
 KW 0 hw (fun _ hw=>KR 10 hw c4g) fun _ hw=>KT 8 3<|KR 4 hw c4g
theorem b07(bj14:Bool)(name:ByteArray)(target:Int)(r:Bool)(hw:(bj14=true->r=(target==2))/\(bj14=false->((decide (name=(⟨#[105,100,101,109,112,111,116,101,110,116]⟩:ByteArray)))=true->X9 (decide (name=(⟨#[105,100,101,109,112,111,116,101,110,116]⟩:ByteArray))) target r)/\((decide (name=(⟨#[105,100,101,109,112,111,116,101,110,116]⟩:ByteArray)))=false->((decide (name=(⟨#[116,105,109,101,111,117,116]⟩:ByteArray)))=true->X9 (decide (name=(⟨#[116,105,109,101,111,117,116]⟩:ByteArray))) target r)/\((decide (name=(⟨#[116,105,109,101,111,117,116]⟩:ByteArray)))=false->X9 (decide (name=(⟨#[114,111,117,116,101]⟩:ByteArray))) target r)))):S2 bj14 name target r:=
 KW 0 hw (fun _ hw=>KR 10 hw c4g) fun _ hw=>KW 7 hw (fun _ hw=>KJ 2 [] hw) fun _ hw=>KW 6 hw (fun _ hw=>KJ 2 [] hw) fun _ hw=>KJ 5 [] hw
theorem b2e(bj12:Bool)(name:ByteArray)(target:Int)(r:Bool)(hw:(bj12=true->r=(((target==2)||(target==4))||(target==6)))/\(bj12=false->((decide (name=(⟨#[109,105,110]⟩:ByteArray)))=true->S2 (decide (name=(⟨#[109,105,110]⟩:ByteArray))) name target r)/\((decide (name=(⟨#[109,105,110]⟩:ByteArray)))=false->((decide (name=(⟨#[109,97,120]⟩:ByteArray)))=true->S2 (decide (name=(⟨#[109,97,120]⟩:ByteArray))) name target r)/\((decide (name=(⟨#[109,97,120]⟩:ByteArray)))=false->((decide (name=(⟨#[108,101,110,103,116,104]⟩:ByteArray)))=true->S2 (decide (name=(⟨#[108,101,110,103,116,104]⟩:ByteArray))) name target r)/\((decide (name=(⟨#[108,101,110,103,116,104]⟩:ByteArray)))=false->S2 (decide (name=(⟨#[115,101,99,114,101,116]⟩:ByteArray))) name target r))))):X4 bj12 name target r:=
 KW 0 hw (fun _ hw=>KT 5 3<|KT 1 3<|KR 6 hw c4g) fun _ hw=>KW 7 hw (fun _ hw=>KJ 2 [] hw) fun _ hw=>KW 6 hw (fun _ hw=>KJ 2 [] hw) fun _ hw=>KW 6 hw (fun _ hw=>KJ 2 [] hw) fun _ hw=>KJ 5 [] hw
theorem b2h(bj8:Bool)(name:ByteArray)(target:Int)(r:Bool)(hw:(bj8=true->r=((decide (1<=target))&&(decide (target<=6))))/\(bj8=false->((decide (name=(⟨#[97,108,105,97,115]⟩:ByteArray)))=true->X4 (decide (name=(⟨#[97,108,105,97,115]⟩:ByteArray))) name target r)/\((decide (name=(⟨#[97,108,105,97,115]⟩:ByteArray)))=false->((decide (name=(⟨#[115,105,110,99,101]⟩:ByteArray)))=true->X4 (decide (name=(⟨#[115,105,110,99,101]⟩:ByteArray))) name target r)/\((decide (name=(⟨#[115,105,110,99,101]⟩:ByteArray)))=false->X4 (decide (name=(⟨#[117,110,116,105,108]⟩:ByteArray))) name target r)))):a2c bj8 name target r:=
 KW 0 hw (fun _ hw=>KT 5 3<|KR 6 hw c4g) fun _ hw=>KW 7 hw (fun _ hw=>KJ 2 [] hw) fun _ hw=>KW 6 hw (fun _ hw=>KJ 2 [] hw) fun _ hw=>KJ 5 [] hw
theorem b84(name:ByteArray)(target:Int)(r:Bool)(hw:((decide (name=(⟨#[100,101,112,114,101,99,97,116,101,100]⟩:ByteArray)))=true->a2c (decide (name=(⟨#[100,101,112,114,101,99,97,116,101,100]⟩:ByteArray))) name target r)/\((decide (name=(⟨#[100,101,112,114,101,99,97,116,101,100]⟩:ByteArray)))=false->a2c (decide (name=(⟨#[100,111,99]⟩:ByteArray))) name target r)):b5p name target r:=
 fP (KW 19 hw (fun _ hw=>KJ 2 [] hw) fun _ hw=>KJ 5 [] hw)
theorem e3v(r:Bool):plain (o24 r)=true:=rfl
theorem b6v(n:D7)(r:Bool)(hw:∃y1,a9p n.Name y1/\((((y1 !=0)&&(n.Val.Kind==y1))=true->∃y2,a9y y1 n.Val y2/\(r=y2))/\(((y1 !=0)&&(n.Val.Kind==y1))=false->r=false))):b1s n r:=
 fP (KC 10 hw l8q fun _ hw=>KT 8 6<|KW 1 hw (fun _ hw=>KC 3 hw i47 fun _ hw=>KR 5 hw e3v) fun _ hw=>KR 9 hw e3v)
theorem b0s(r:Int):plain (o20 r)=true:=rfl
theorem b9s(s:ByteArray)(i:Int)(r:Int)(hw:(0<=i/\i<(s.size:Int))/\(((decide ((C7 s i.toNat)<128))=true->r=1)/\((decide ((C7 s i.toNat)<128))=false->∃R1:Bool->Prop,(∀bz1:Bool,R1 bz1->((bz1=true->r=2)/\(bz1=false->∃R2:Bool->Prop,(∀bz2:Bool,R2 bz2->(∃R3:Bool->Prop,(∀bz3:Bool,R3 bz3->((bz3=true->r=3)/\(bz3=false->∃R4:Bool->Prop,(∀bz4:Bool,R4 bz4->(∃R5:Bool->Prop,(∀bz5:Bool,R5 bz5->((bz5=true->r=3)/\(bz5=false->∃R6:Bool->Prop,(∀bz6:Bool,R6 bz6->((bz6=true->r=3)/\(bz6=false->∃R7:Bool->Prop,(∀bz7:Bool,R7 bz7->(∃R8:Bool->Prop,(∀bz8:Bool,R8 bz8->((bz8=true->r=4)/\(bz8=false->∃R9:Bool->Prop,(∀bz9:Bool,R9 bz9->((bz9=true->r=4)/\(bz9=false->∃R10:Bool->Prop,(∀bz10:Bool,R10 bz10->((bz10=true->∃y11,V6 s (wI (i+2)) 2 y11/\((y11=true->r=4)/\(y11=false->r=0)))/\(bz10=false->r=0)))/\((((C7 s i.toNat)==244)=true->∃y10,Q1 s (wI (i+1)) 128 143 y10/\(R10 y10))/\(((C7 s i.toNat)==244)=false->R10 false)))))/\((((decide (241<=(C7 s i.toNat)))&&(decide ((C7 s i.toNat)<=243)))=true->∃y9,V6 s (wI (i+1)) 3 y9/\(R9 y9))/\(((decide (241<=(C7 s i.toNat)))&&(decide ((C7 s i.toNat)<=243)))=false->R9 false)))))/\((bz7=true->∃y8,V6 s (wI (i+2)) 2 y8/\(R8 y8))/\(bz7=false->R8 false))))/\((((C7 s i.toNat)==240)=true->∃y7,Q1 s (wI (i+1)) 144 191 y7/\(R7 y7))/\(((C7 s i.toNat)==240)=false->R7 false)))))/\(((((decide (225<=(C7 s i.toNat)))&&(decide ((C7 s i.toNat)<=239)))&&((C7 s i.toNat) !=237))=true->∃y6,V6 s (wI (i+1)) 2 y6/\(R6 y6))/\((((decide (225<=(C7 s i.toNat)))&&(decide ((C7 s i.toNat)<=239)))&&((C7 s i.toNat) !=237))=false->R6 false)))))/\((bz4=true->∃y5,V6 s (wI (i+2)) 1 y5/\(R5 y5))/\(bz4=false->R5 false))))/\((((C7 s i.toNat)==237)=true->∃y4,Q1 s (wI (i+1)) 128 159 y4/\(R4 y4))/\(((C7 s i.toNat)==237)=false->R4 false)))))/\((bz2=true->∃y3,V6 s (wI (i+2)) 1 y3/\(R3 y3))/\(bz2=false->R3 false))))/\((((C7 s i.toNat)==224)=true->∃y2,Q1 s (wI (i+1)) 160 191 y2/\(R2 y2))/\(((C7 s i.toNat)==224)=false->R2 false)))))/\((((decide (194<=(C7 s i.toNat)))&&(decide ((C7 s i.toNat)<=223)))=true->∃y1,V6 s (wI (i+1)) 1 y1/\(R1 y1))/\(((decide (194<=(C7 s i.toNat)))&&(decide ((C7 s i.toNat)<=223)))=false->R1 false))))):b4l s i r:=
 fP (KIS 9 hw fun hw=>KW 12 hw (fun _ hw=>KR 8 hw b0s) fun _ hw=>KT 5 3<|KQ 1 5 kB hw (fun _ hw=>KW 3 hw (fun _ hw=>KR 8 hw b0s) fun _ hw=>KQ 5 5 kB hw (fun _ hw=>KQ 1 5 kB hw (fun _ hw=>KW 3 hw (fun _ hw=>KR 8 hw b0s) fun _ hw=>KQ 5 5 kB hw (fun _ hw=>KQ 1 5 kB hw (fun _ hw=>KW 3 hw (fun _ hw=>KR 8 hw b0s) fun _ hw=>KT 5 3<|KT 1 3<|KQ 1 5 kB hw (fun _ hw=>KW 3 hw (fun _ hw=>KR 8 hw b0s) fun _ hw=>KQ 5 5 kB hw (fun _ hw=>KQ 1 5 kB hw (fun _ hw=>KW 3 hw (fun _ hw=>KR 8 hw b0s) fun _ hw=>KT 5 3<|KQ 1 5 kB hw (fun _ hw=>KW 3 hw (fun _ hw=>KR 8 hw b0s) fun _ hw=>KQ 5 5 kB hw (fun _ hw=>KW 1 hw (fun _ hw=>KC 3 hw c7y fun _ hw=>KW 4 hw (fun _ hw=>KR 8 hw b0s) fun _ hw=>KR 9 hw b0s) fun _ hw=>KR 18 hw b0s) (fun _ key _ hw=>KC 3 hw d4h fun _ hw=>KE 1 key hw) fun _ key _ hw=>KE 5 key hw) (fun _ key _ hw=>KC 3 hw c7y fun _ hw=>KE 1 key hw) fun _ key _ hw=>KE 5 key hw) (fun _ key _ hw=>KC 3 hw c7y fun _ hw=>KE 1 key hw) fun _ key _ hw=>KE 5 key hw) (fun _ key _ hw=>KC 3 hw d4h fun _ hw=>KE 1 key hw) fun _ key _ hw=>KE 5 key hw) (fun _ key _ hw=>KC 3 hw c7y fun _ hw=>KE 1 key hw) fun _ key _ hw=>KE 5 key hw) (fun _ key _ hw=>KC 3 hw c7y fun _ hw=>KE 1 key hw) fun _ key _ hw=>KE 5 key hw) (fun _ key _ hw=>KC 3 hw d4h fun _ hw=>KE 1 key hw) fun _ key _ hw=>KE 5 key hw) (fun _ key _ hw=>KC 3 hw c7y fun _ hw=>KE 1 key hw) fun _ key _ hw=>KE 5 key hw) (fun _ key _ hw=>KC 3 hw d4h fun _ hw=>KE 1 key hw) fun _ key _ hw=>KE 5 key hw) (fun _ key _ hw=>KC 3 hw c7y fun _ hw=>KE 1 key hw) fun _ key _ hw=>KE 5 key hw)
theorem e3l(r:Int):plain (n86 r)=true:=rfl
def H4(ij1:Int)(s:(List D7))(f:GFn)(r:Int):Prop:=JP Tryz.prog 344 (n86 r) 3 [(8,aI ij1),(7,aI (s.length:Int)),(0,.sl (List.map E0 s) .no),(1,.clo (.func f.fn) f.fi f.cap)]
theorem Z8(ij1:Int)(s:(List D7))(f:GFn)(r:Int)(hw:((decide (ij1<(s.length:Int)))=true->∃y3,s[ij1.toNat]? =some y3/\0<=ij1/\(∃y4,a7k Tryz.prog [] (.clo (.func f.fn) f.fi f.cap) [.agg (E0 y3)] (aB y4)/\((y4=true->r=ij1)/\(y4=false->H4 (wI (ij1+1)) s f r))))/\((decide (ij1<(s.length:Int)))=false->r=(-1))):H4 ij1 s f r:=
 KW 7 hw (fun _ hw=>KI 15 a1d hw fun _ hw=>KF 1 hw fun _ hw=>KW 2 hw (fun _ hw=>KR 12 hw e3l) fun _ hw=>KJ 8 [] hw) fun _ hw=>KR 11 hw e3l
theorem a1j(s:(List D7))(f:GFn)(r:Int)(hw:H4 0 s f r):T4 s f r:=
 fP (KL 9 a1d s<|KJ 5 [] hw)
theorem e13(r:(B6 × Bool)):plain (o2r r)=true:=(b39 (A7 (E8 r.1) (A7 rfl rfl)))
theorem b7l(l:(List D7))(name:ByteArray)(r:(B6 × Bool))(hw:∃y1,b8l l name y1/\(((decide (y1<0))=true->r=((⟨0,0,(⟨#[]⟩:ByteArray),([]:(List B6)),([]:(List (B6 × B6))),([]:(List (Int × B6))),([]:(List c6a))⟩:B6),false))/\((decide (y1<0))=false->∃y2,l[y1.toNat]? =some y2/\0<=y1/\(r=(y2.Val,true))))):b5g l name r:=
 fP (KC 10 hw m2a fun _ hw=>KW 10 hw (fun _ hw=>KR 9 hw e13) fun _ hw=>KI 6 a1d hw fun _ hw=>KR 7 hw e13)
theorem e34(r:Bool):plain (n83 r)=true:=rfl
def a30(ij1:Int)(s:ByteArray)(i:Int)(n:Int)(r:Bool):Prop:=JP Tryz.prog 359 (n83 r) 3 [(7,aI ij1),(0,aS s),(1,aI i),(2,aI n)]
theorem a5s(ij1:Int)(s:ByteArray)(i:Int)(n:Int)(r:Bool)(hw:((decide (ij1<n))=true->∃y2,Q1 s (wI (i+ij1)) 128 191 y2/\(((!y2)=true->r=false)/\((!y2)=false->a30 (wI (ij1+1)) s i n r)))/\((decide (ij1<n))=false->r=true)):a30 ij1 s i n r:=
 KW 9 hw (fun _ hw=>KC 10 hw d4h fun _ hw=>KW 3 hw (fun _ hw=>KR 11 hw e34) fun _ hw=>KJ 9 [] hw) fun _ hw=>KR 11 hw e34
theorem c0d(s:ByteArray)(i:Int)(n:Int)(r:Bool)(hw:a30 0 s i n r):V6 s i n r:=
 fP (KJ 13 [] hw)
theorem e1v(r:Bool):plain (o3c r)=true:=rfl
theorem b2v(s:ByteArray)(i:Int)(lo:Int)(hi:Int)(r:Bool)(hw:∃R1:Bool->Prop,(∀bz1:Bool,R1 bz1->((bz1=true->(0<=i/\i<(s.size:Int))/\(r=(decide ((C7 s i.toNat)<=hi))))/\(bz1=false->r=false)))/\(((decide (i<(s.size:Int)))=true->(0<=i/\i<(s.size:Int))/\(R1 (decide (lo<=(C7 s i.toNat)))))/\((decide (i<(s.size:Int)))=false->R1 false))):Q1 s i lo hi r:=
 fP (KQ 12 6 kB hw (fun _ hw=>KW 1 hw (fun _ hw=>KIS 2 hw fun hw=>KR 7 hw e1v) fun _ hw=>KR 10 hw e1v) (fun _ key _ hw=>KIS 2 hw fun hw=>KE 3 key hw) fun _ key _ hw=>KE 6 key hw)
theorem e6c(r:Int):plain (m6w r)=true:=rfl
def a14(ij1:Int)(l:(List D7))(name:ByteArray)(r:Int):Prop:=JP Tryz.prog 415 (m6w r) 3 [(5,aI ij1),(0,.sl (List.map E0 l) .no),(1,aS name)]
theorem b18(ij1:Int)(l:(List D7))(name:ByteArray)(r:Int)(hw:((decide (ij1<(l.length:Int)))=true->∃y2,l[ij1.toNat]? =some y2/\0<=ij1/\(((decide (y2.Name=name))=true->r=ij1)/\((decide (y2.Name=name))=false->a14 (wI (ij1+1)) l name r)))/\((decide (ij1<(l.length:Int)))=false->r=(-1))):a14 ij1 l name r:=
 KL 6 a1d l<|KW 3 hw (fun _ hw=>KI 8 a1d hw fun _ hw=>KW 6 hw (fun _ hw=>KR 12 hw e6c) fun _ hw=>KJ 9 [] hw) fun _ hw=>KR 11 hw e6c
theorem b6p(l:(List D7))(name:ByteArray)(r:Int)(hw:a14 0 l name r):b8l l name r:=
 fP (KJ 13 [] hw)
theorem n26(r:Bool):plain (e25 r)=true:=rfl
theorem b0e(mg:Int)(old:B4)(c1_:B4)(r:Bool)(hw:∃y1,a4i mg old c1_ y1/\(r=y1)):a4b mg old c1_ r:=
 fP (KC 10 hw o4h fun _ hw=>KR 4 hw n26)
theorem b00(mg:Int)(old:B4)(c1_:B4)(r:Bool)(h:a4b mg old c1_ r):a7k Tryz.prog (GLm mg) (.clo (.func 25) [] [.elt (B9 c1_) 0]) [.agg (B9 old)] (aB r):=⟨25,[],[.elt (B9 c1_) 0],rfl,(show plainL [.agg (B9 old),.elt (B9 c1_) 0]=true by simp),h⟩
theorem n9j(r:Bool):plain (e57 r)=true:=rfl
theorem a5z(n:(List Int))(c1_:A5)(r:Bool)(hw:∃y1,n[(0:Int).toNat]? =some y1/\0<=(0:Int)/\(r=(y1==c1_.Num))):W8 n c1_ r:=
 fP (KD 6 []<|KI 1 b8f hw fun _ hw=>KR 9 hw n9j)
theorem a6k(n:(List Int))(c1_:A5)(r:Bool)(h:W8 n c1_ r):a7k Tryz.prog [] (.clo (.func 57) [] [.elt (C0 c1_) 0]) [.sl (List.map G0 n) .no] (aB r):=⟨57,[],[.elt (C0 c1_) 0],rfl,(show plainL [.sl (List.map G0 n) .no,.elt (C0 c1_) 0]=true by simp),h⟩
theorem h6m(r:Bool):plain (o29 r)=true:=rfl
theorem a2z(old:(List Int))(c1_:(List Int))(r:Bool)(hw:∃y1,U2 old c1_ y1/\(r=y1)):a0b old c1_ r:=
 fP (KC 9 hw m85 fun _ hw=>KR 4 hw h6m)
theorem a3n(old:(List Int))(c1_:(List Int))(r:Bool)(h:a0b old c1_ r):a7k Tryz.prog [] (.clo (.func 120) [] [.elt ((eL G0) c1_) 0]) [.sl (List.map G0 old) .no] (aB r):=⟨120,[],[.elt ((eL G0) c1_) 0],rfl,(show plainL [.sl (List.map G0 old) .no,.elt ((eL G0) c1_) 0]=true by simp),h⟩
theorem k5m(r:Bool):plain (o27 r)=true:=rfl
theorem b3f(m:C8)(c1_:ByteArray)(r:Bool)(hw:r=(decide (m.Name=c1_))):b30 m c1_ r:=
 fP (KR 16 hw k5m)
theorem b41(m:C8)(c1_:ByteArray)(r:Bool)(h:b30 m c1_ r):a7k Tryz.prog [] (.clo (.func 154) [] [.elt (J4 c1_) 0]) [.agg (H1 m)] (aB r):=⟨154,[],[.elt (J4 c1_) 0],rfl,(show plainL [.agg (H1 m),.elt (J4 c1_) 0]=true by simp),h⟩
theorem j6h(r:Bool):plain (o18 r)=true:=rfl
theorem b1p(m:A9)(c1_:ByteArray)(r:Bool)(hw:r=(decide (m.Name=c1_))):b0t m c1_ r:=
 fP (KR 16 hw j6h)
theorem b3i(m:A9)(c1_:ByteArray)(r:Bool)(h:b0t m c1_ r):a7k Tryz.prog [] (.clo (.func 166) [] [.elt (J4 c1_) 0]) [.agg (C6 m)] (aB r):=⟨166,[],[.elt (J4 c1_) 0],rfl,(show plainL [.agg (C6 m),.elt (J4 c1_) 0]=true by simp),h⟩
theorem i61(r:Bool):plain (o2s r)=true:=rfl
theorem a75(f:A5)(c1_:ByteArray)(r:Bool)(hw:r=(decide (f.Name=c1_))):a6g f c1_ r:=
 fP (KR 16 hw i61)
theorem a8j(f:A5)(c1_:ByteArray)(r:Bool)(h:a6g f c1_ r):a7k Tryz.prog [] (.clo (.func 198) [] [.elt (J4 c1_) 0]) [.agg (C0 f)] (aB r):=⟨198,[],[.elt (J4 c1_) 0],rfl,(show plainL [.agg (C0 f),.elt (J4 c1_) 0]=true by simp),h⟩
theorem k99(r:Bool):plain (o3i r)=true:=rfl
theorem a72(f:A5)(c1_:ByteArray)(r:Bool)(hw:∃y1,b5x f.Notes c1_ y1/\(r=y1)):a6o f c1_ r:=
 fP (KC 11 hw n14 fun _ hw=>KR 4 hw k99)
theorem a8l(f:A5)(c1_:ByteArray)(r:Bool)(h:a6o f c1_ r):a7k Tryz.prog [] (.clo (.func 199) [] [.elt (J4 c1_) 0]) [.agg (C0 f)] (aB r):=⟨199,[],[.elt (J4 c1_) 0],rfl,(show plainL [.agg (C0 f),.elt (J4 c1_) 0]=true by simp),h⟩
theorem l8m(r:Bool):plain (o3p r)=true:=rfl
theorem b1j(v:C4)(c1_:ByteArray)(r:Bool)(hw:r=(decide (v.Name=c1_))):b0n v c1_ r:=
 fP (KR 16 hw l8m)
theorem b3h(v:C4)(c1_:ByteArray)(r:Bool)(h:b0n v c1_ r):a7k Tryz.prog [] (.clo (.func 219) [] [.elt (J4 c1_) 0]) [.agg (D9 v)] (aB r):=⟨219,[],[.elt (J4 c1_) 0],rfl,(show plainL [.agg (D9 v),.elt (J4 c1_) 0]=true by simp),h⟩
theorem l17(r:Bool):plain (o3g r)=true:=rfl
theorem b5o(n:D7)(c1_:ByteArray)(r:Bool)(hw:r=(decide (n.Name=c1_))):b5y n c1_ r:=
 fP (KR 16 hw l17)
theorem b6u(n:D7)(c1_:ByteArray)(r:Bool)(h:b5y n c1_ r):a7k Tryz.prog [] (.clo (.func 345) [] [.elt (J4 c1_) 0]) [.agg (E0 n)] (aB r):=⟨345,[],[.elt (J4 c1_) 0],rfl,(show plainL [.agg (E0 n),.elt (J4 c1_) 0]=true by simp),h⟩
end
section
open Go.RowKit Go.ChangeShapes Go.WideShapes Go.ChangeAt
def TyV(P:Program)(n:Nat)(t:TypeId)(av:AV):Prop:=
 match P.underlying t with
 |some (.struct _)|some (.array _ _)=>∃avs,av=.agg avs/\Ty P n t avs
 |_=>Ty P n t [av]
theorem c5j{σ:Sg}{avs:List AV}{cs:Array Value}(h:D4 σ avs cs.toList):Rel σ (.agg avs) (.agg cs):=by
 refine .agg avs cs (by simpa using h.1) (fun i av hi=>(h.2 i av hi).1) (fun i=>cs.toList[i]?.getD (.bool false)) (fun i av hi=>?_) (fun i av hi=>?_)
 ·obtain⟨_,x,hx,_⟩:=h.2 i av hi;rw[hx];simpa using hx
 ·obtain⟨_,x,hx,hr⟩:=h.2 i av hi;rw[hx];exact hr
theorem b3u{σ:Sg}{av:AV}{v:Value}(h:D4 σ [av] v.cells.toList)(hv:∀cs,v≠.agg cs):Rel σ av v:=by
 obtain⟨_,x,hx,hr⟩:=h.2 0 av rfl;cases v with
 |agg cs=>exact absurd rfl (hv cs)
 |_=>simp[Value.cells]at hx;subst hx;exact hr
section
variable {H:Type}{enc:TypeId × Value->H}{P:Program}{W:World}{base b0:Nat}{spare:Nat->Bool}{held:Bool}
theorem c5l{ts:List TypeId}(ok:c6t P ts=true){t:TypeId}(ht:t∈ts){v:Value}{d:DataW H}{p:List MemPlace}(hval:Value.okWide P W .any b0 t v)(h:DataW.Trod enc P W base spare held t v d p)(hw:Q4 P t d):
  ∃n av,Rel (bare W a2x) av v/\TyV P n t av/\plain av=true:=by
 obtain⟨m,hm⟩:=h;obtain⟨avs,hc,hty,hpl⟩:=d0r ok m t _ _ ht hm hw;cases m with
 |zero=>simp[DataW.trod]at hm
 |succ m=>
  have hok:=List.all_eq_true.1 ok t ht;unfold okT at hok;unfold TyV;unfold Value.okWide at hval;split at hok
  ·rename_i k hu;rw[hu]at hval;simp only[Cell.okWide,hu,Cell.ok]at hval;have h2:=hty;unfold Ty at h2;rw[hu]at h2;obtain⟨x,rfl,_⟩:=h2;refine⟨m+1,_,b3u hc (fun cs he=>by subst he;simp at hval),by rw[hu];exact hty,rfl⟩
  ·rename_i hu;rw[hu]at hval;simp only[Cell.okWide,hu,Cell.ok]at hval;have h2:=hty;unfold Ty at h2;rw[hu]at h2;obtain⟨x,rfl⟩:=h2;refine⟨m+1,_,b3u hc (fun cs he=>by subst he;simp at hval),by rw[hu];exact hty,rfl⟩
  ·rename_i hu;rw[hu]at hval;simp only[Cell.okWide,hu,Cell.ok]at hval;have h2:=hty;unfold Ty at h2;rw[hu]at h2;obtain⟨x,rfl,_⟩:=h2;refine⟨m+1,_,b3u hc (fun cs he=>by subst he;simp at hval),by rw[hu];exact hty,rfl⟩
  ·rename_i e hu;rw[hu]at hval;simp only[Cell.okWide,hu,Cell.ok]at hval;have h2:=hty;unfold Ty at h2;rw[hu]at h2;obtain⟨x,rfl,_⟩:=h2;refine⟨m+1,_,b3u hc (fun cs he=>by subst he;simp at hval),by rw[hu];exact hty,by simpa[plainL]using hpl⟩
  ·rename_i fs hu;rw[hu]at hval;obtain⟨cs,rfl,_⟩:=hval;exact⟨m+1,.agg avs,c5j hc,by rw[hu];exact⟨avs,rfl,hty⟩,hpl⟩
  ·rename_i k e hu;rw[hu]at hval;obtain⟨cs,rfl,_⟩:=hval;exact⟨m+1,.agg avs,c5j hc,by rw[hu];exact⟨avs,rfl,hty⟩,hpl⟩
  ·cases hok
end
def g1r(P:Program)(t:TypeId):List TypeId:=
 match P.underlying t with
 |some (.slice e)=>[e]
 |some (.struct fs)=>fs.toList.map (·.type)
 |some (.array _ e)=>[e]
 |_=>[]
def c9l:List TypeId->List TypeId->List TypeId
 |l,[]=>l
 |l,t::r=>c9l (if l.contains t then l else l++[t]) r
def c4d(P:Program):Nat->List TypeId->List TypeId
 |0,l=>l
 |n+1,l=>c4d P n (c9l l (l.flatMap (g1r P)))
theorem d4t(σ:Sg):b7b σ [] []:=⟨rfl,fun i av h=>by simp at h⟩
theorem c07{σ:Sg}{a:AV}{v:Value}{l:List AV}{xs:List Value}(h:Rel σ a v)(hr:b7b σ l xs):b7b σ (a::l) (v::xs):=by
 refine⟨by simp[hr.1],fun i av hi=>?_⟩;cases i with
 |zero=>simp at hi;subst hi;exact⟨v,rfl,h⟩
 |succ i=>obtain⟨x,h1,h2⟩:=hr.2 i av (by simpa using hi);exact⟨x,by simpa using h1,h2⟩
theorem g8m{av:AV}(h:nz av=.v (.bool true)):av=.v (.bool true):=by
 cases av with
 |v x=>simpa[nz,nzA,nz1]using h
 |_=>simp[nz,nzA,nz1]at h
end
def I64(n:Int):Prop:= -9223372036854775808<=n/\n<=9223372036854775807
def U64(n:Int):Prop:=0<=n/\n<18446744073709551616
def Sz(n:Nat):Prop:=n<=140737488351232
structure f2h(x:c6a):Prop where
 num:I64 x.Num
 wire:I64 x.Wire
 bits:U64 x.Bits
 data:Sz x.Data.size
inductive OkD:B6->Prop
 |mk (v:B6) (k:I64 v.Kind) (b:U64 v.Bits) (t:Sz v.Text.size) (l:Sz v.List_.length) (p:Sz v.Pairs.length) (s:Sz v.Slots.length) (r:Sz v.Raws.length)
  (hl:∀x∈v.List_,OkD x) (hk:∀x∈v.Pairs,OkD x.1) (hv:∀x∈v.Pairs,OkD x.2) (hn:∀x∈v.Slots,I64 x.1) (hs:∀x∈v.Slots,OkD x.2) (hr:∀x∈v.Raws,f2h x) (w:Sz (v.List_.length*128)/\Sz (v.Pairs.length*256)/\Sz (v.Slots.length*136)/\Sz (v.Raws.length*40)):OkD v
section
variable {P:Program}{n:Nat}{t:TypeId}{avs:List AV}
def TyL(P:Program)(m:Nat):List TypeId->List AV->Prop
 |[],avs=>avs=[]
 |t::ts,avs=>∃a b,avs=a++b/\Ty P m t a/\TyL P m ts b
theorem e5i{m:Nat}:∀(fs:List Field) (parts:List (List AV)),parts.length=fs.length->(∀(i:Nat) (f:Field),fs[i]? =some f->∃p,parts[i]? =some p/\Ty P m f.type p)->TyL P m (fs.map (·.type)) parts.flatten
 |[],[],_,_=>rfl
 |[],_::_,h,_=>by cases h
 |_::_,[],h,_=>by cases h
 |f::fs,p::parts,hl,h=>by
  obtain⟨q,hq,hty⟩:=h 0 f rfl;cases hq;exact⟨p,parts.flatten,by simp,hty,e5i fs parts (by simpa using hl) fun i g hg=>h (i+1) g (by simpa using hg)⟩
def a9u(P:Program)(t:TypeId):Option (List TypeId):=match P.underlying t with|some (.struct fs)=>some (fs.toList.map (·.type))|_=>none
theorem b1a{ts:List TypeId}(hu:a9u P t=some ts)(h:Ty P n t avs):∃m,n=m+1/\TyL P m ts avs:=by
 cases n with
 |zero=>exact absurd h (by unfold Ty;exact id)
 |succ m=>
  unfold a9u at hu;unfold Ty at h;split at hu
  ·rename_i fs hfs;rw[hfs]at h;obtain⟨parts,rfl,hl,hp⟩:=h;cases hu;exact⟨m,rfl,e5i fs.toList parts (by simpa using hl) (fun i f hf=>hp i f (by simpa using hf))⟩
  ·cases hu
theorem e6r{k:IntKind}(hu:P.underlying t=some (.int k))(h:Ty P n t avs):∃m,avs=[.v (.int k m)]/\(Lit.int k m).wf=true:=by
 cases n with
 |zero=>exact absurd h (by unfold Ty;exact id)
 |succ m=>unfold Ty at h;rw[hu]at h;exact h
theorem a7x(hu:P.underlying t=some (.int .i64))(h:Ty P n t avs):∃m,avs=[.v (.int .i64 m)]/\I64 m:=by
 obtain⟨m,h1,h2⟩:=e6r hu h;refine⟨m,h1,?_⟩;simp only[Lit.wf,Bool.and_eq_true,decide_eq_true_eq]at h2;exact h2
theorem e7j(hu:P.underlying t=some (.int .u64))(h:Ty P n t avs):∃m,avs=[.v (.int .u64 m)]/\U64 m:=by
 obtain⟨m,h1,h2⟩:=e6r hu h;refine⟨m,h1,?_⟩;simp only[Lit.wf,Bool.and_eq_true,decide_eq_true_eq]at h2;have e1:IntKind.u64.min=0:=by decide
 have e2:IntKind.u64.max=18446744073709551615:=by decide
 unfold U64;omega
theorem d3h(hu:P.underlying t=some .bool)(h:Ty P n t avs):∃b,avs=[.v (.bool b)]:=by
 cases n with
 |zero=>exact absurd h (by unfold Ty;exact id)
 |succ m=>unfold Ty at h;rw[hu]at h;exact h
theorem a01(hu:P.underlying t=some .string)(h:Ty P n t avs):∃s:ByteArray,avs=[.v (.string s)]/\Sz s.size:=by
 cases n with
 |zero=>exact absurd h (by unfold Ty;exact id)
 |succ m=>unfold Ty at h;rw[hu]at h;exact h
theorem c1v{e:TypeId}{G:Type}{enc:G->List AV}{Ok:G->Prop}(hu:P.underlying t=some (.slice e)){w:Nat}(hw:P.bytesOf e=w)(hb:1<=P.bytesOf e)(hel:∀m avs,m<n->Ty P m e avs->∃x,avs=enc x/\Ok x)(h:Ty P n t avs):∃l:List G,avs=[.sl (l.map enc) .no]/\(Sz l.length/\Sz (l.length*w))/\∀x∈l,Ok x:=by
 cases n with
 |zero=>exact absurd h (by unfold Ty;exact id)
 |succ m=>
  unfold Ty at h;rw[hu]at h;obtain⟨els,rfl,hl,hty⟩:=h;have hn:els.length<=140737488351232:=Nat.le_trans (Nat.le_mul_of_pos_right _ hb) hl
  have:∀els:List (List AV),(∀el∈els,Ty P m e el)->∃l:List G,els=l.map enc/\∀x∈l,Ok x:=by
   intro els
   induction els with
   |nil=>exact fun _=>⟨[],rfl,fun x h=>by cases h⟩
   |cons a els ih=>
    intro h;obtain⟨l,rfl,hl⟩:=ih fun el hel=>h el (List.mem_cons_of_mem _ hel)
    obtain⟨x,rfl,hx⟩:=hel m a (Nat.lt_succ_self m) (h a List.mem_cons_self);exact⟨x::l,rfl,fun y hy=>(List.mem_cons.1 hy).elim (fun e=>e▸hx) (hl y)⟩
  obtain⟨l,rfl,hok⟩:=this els hty;exact⟨l,rfl,⟨by simpa[Sz]using hn,by subst hw;simpa[Sz]using hl⟩,hok⟩
theorem b0v{e:TypeId}{G:Type}{enc:G->List AV}{Ok:G->Prop}(hu:P.underlying t=some (.slice e))(hb:1<=P.bytesOf e)(hel:∀m avs,m<n->Ty P m e avs->∃x,avs=enc x/\Ok x)(h:Ty P n t avs):∃l:List G,avs=[.sl (l.map enc) .no]/\Sz l.length/\∀x∈l,Ok x:=by
 obtain⟨l,h1,h2,h3⟩:=c1v hu rfl hb hel h;exact⟨l,h1,h2.1,h3⟩
theorem k7w{av:AV}{ts:List TypeId}(hu:a9u P t=some ts)(h:TyV P n t av):∃avs,av=.agg avs/\Ty P n t avs:=by
 unfold TyV at h;unfold a9u at hu;split at hu
 ·rename_i fs hfs;rw[hfs]at h;exact h
 ·cases hu
end
section
variable {n:Nat}{avs:List AV}{av:AV}
theorem i0l(h:Ty Tryz.prog n 192 avs):∃x,avs=a71 x/\f2h x:=by
 obtain⟨m,rfl,a1,b1,rfl,h1,a2,b2,rfl,h2,a3,b3,rfl,h3,a4,b4,rfl,h4,rfl⟩:=b1a (ts:=[3,3,48,9]) (by kernel_rfl) h;obtain⟨x1,rfl,k1⟩:=a7x (by kernel_rfl) h1;obtain⟨x2,rfl,k2⟩:=a7x (by kernel_rfl) h2;obtain⟨x3,rfl,k3⟩:=e7j (by kernel_rfl) h3;obtain⟨x4,rfl,k4⟩:=a01 (by kernel_rfl) h4;exact⟨⟨x1,x2,x3,x4⟩,rfl,⟨k1,k2,k3,k4⟩⟩
theorem c9f:∀(n:Nat) (avs:List AV),Ty Tryz.prog n 54 avs->∃x,avs=H7 x/\OkD x:=by
 intro n
 induction n using Nat.strongRecOn with
 |_ n ih=>
  intro avs h;obtain⟨m,rfl,a1,b1,rfl,h1,a2,b2,rfl,h2,a3,b3,rfl,h3,a4,b4,rfl,h4,a5,b5,rfl,h5,a6,b6,rfl,h6,a7,b7,rfl,h7,rfl⟩:=b1a (ts:=[3,48,9,49,50,51,52]) (by kernel_rfl) h;obtain⟨x1,rfl,k1⟩:=a7x (by kernel_rfl) h1;obtain⟨x2,rfl,k2⟩:=e7j (by kernel_rfl) h2;obtain⟨x3,rfl,k3⟩:=a01 (by kernel_rfl) h3;obtain⟨x4,rfl,⟨n4,w4⟩,k4⟩:=c1v (w:=128) (e:=54) (enc:=H7) (Ok:=OkD) (by kernel_rfl) (by kernel_rfl) (of_decide_eq_true (by kernel_rfl)) (fun k a hk ha=>ih k (by omega) a ha) h4
  obtain⟨x5,rfl,⟨n5,w5⟩,k5⟩:=c1v (w:=256) (e:=269) (enc:=T5) (Ok:=fun x=>OkD x.1/\OkD x.2) (by kernel_rfl) (by kernel_rfl) (of_decide_eq_true (by kernel_rfl)) (fun k a hk ha=>by
   obtain⟨q,rfl,a1,b1,rfl,h1,a2,b2,rfl,h2,rfl⟩:=b1a (ts:=[54,54]) (by kernel_rfl) ha;obtain⟨y1,rfl,z1⟩:=ih q (by omega) _ h1;obtain⟨y2,rfl,z2⟩:=ih q (by omega) _ h2;exact⟨(y1,y2),by simp[T5],z1,z2⟩) h5
  obtain⟨x6,rfl,⟨n6,w6⟩,k6⟩:=c1v (w:=136) (e:=67) (enc:=U8) (Ok:=fun x=>I64 x.1/\OkD x.2) (by kernel_rfl) (by kernel_rfl) (of_decide_eq_true (by kernel_rfl)) (fun k a hk ha=>by
   obtain⟨q,rfl,a1,b1,rfl,h1,a2,b2,rfl,h2,rfl⟩:=b1a (ts:=[3,54]) (by kernel_rfl) ha;obtain⟨y1,rfl,z1⟩:=a7x (by kernel_rfl) h1;obtain⟨y2,rfl,z2⟩:=ih q (by omega) _ h2;exact⟨(y1,y2),by simp[U8],z1,z2⟩) h6
  obtain⟨x7,rfl,⟨n7,w7⟩,k7⟩:=c1v (w:=40) (e:=192) (enc:=a71) (Ok:=f2h) (by kernel_rfl) (by kernel_rfl) (of_decide_eq_true (by kernel_rfl)) (fun k a hk ha=>i0l ha) h7;refine⟨⟨x1,x2,x3,x4,x5,x6,x7⟩,?_,.mk _ k1 k2 k3 n4 n5 n6 n7 k4 (fun x hx=>(k5 x hx).1) (fun x hx=>(k5 x hx).2) (fun x hx=>(k6 x hx).1) (fun x hx=>(k6 x hx).2) k7 ⟨w4,w5,w6,w7⟩⟩;rw[L8];rfl
end
set_option maxHeartbeats 1000000 in
set_option maxRecDepth 100000 in
theorem g6d(b:Nat)(w:World)(h0:w.cell? ⟨b,0,none⟩=some (.pointer (some ⟨b,0,none⟩))):
  Calls Tryz.prog 106 #[.pointer (some ⟨b,0,none⟩)] w fun e w'=>e=.returned (.tuple #[])/\w'=w:=by
 obtain⟨j,hj,_⟩:=Option.map_eq_some_iff.1 (show((Tryz.prog).info? 121).map (·.size)=some 2 by kernel_rfl)
 go_enter Tryz.func106,Tryz.ntmps106
 go_wp2
 rw[Lib.run_neq_ptr_same w _ Tryz.underlying118 hj]
 go_wp2
 go_end0
 exact⟨rfl,rfl⟩
set_option maxHeartbeats 1000000 in
set_option maxRecDepth 100000 in
theorem d7h(b:Nat)(w:World)(h0:w.cell? ⟨b,0,none⟩=some (.pointer none))(hsh:w.shape? b=some (121,2))(hfz:w.frozen? ⟨b,0,none⟩=false):
  Calls Tryz.prog 106 #[.pointer (some ⟨b,0,none⟩)] w fun e w'=>e=.returned (.tuple #[])/\w'=w.setCell ⟨b,0,none⟩ (.pointer (some ⟨b,0,none⟩)):=by
 obtain⟨j,hj,hjs⟩:=Option.map_eq_some_iff.1 (show((Tryz.prog).info? 121).map (·.size)=some 2 by kernel_rfl);have hlies:liesAt Tryz.prog (Tryz.prog).depth 121 (2 / (Tryz.prog).cellsOf 121) 0 121 1=true:=by kernel_rfl
 go_enter Tryz.func106,Tryz.ntmps106
 go_wp2
 rw[Lib.run_to_unsafe w ⟨b,0,none⟩ Tryz.underlying118 Tryz.underlying275 hj (by rw[hjs];decide) hsh (Nat.zero_lt_succ 1)];simp only[Result.andThen];rw[Oper.upon_value]
 go_wp2
 rw[run_callFunc_extern Tryz.func186 (by kernel_rfl) (by kernel_rfl) (by kernel_rfl) (e:=Extern.AbiNoEscape.same) (by kernel_rfl)];rw[Lib.run_noEscape];simp only[Result.andThen];rw[Oper.upon_value]
 go_wp2
 rw[Lib.run_from_unsafe w ⟨b,0,none⟩ Tryz.underlying275 Tryz.underlying118 hj hsh hlies];simp only[Result.andThen];rw[Oper.upon_value]
 go_wp2
 go_end0
 exact⟨rfl,rfl⟩
theorem m0s:n2s Tryz.prog 106 121:=by
 intro h n r hb K hk;refine⟨⟨_,Tryz.func106,by kernel_rfl,by kernel_rfl⟩,fun σ cargs hi hr=>?_⟩;obtain⟨hl,hx⟩:=hr;obtain⟨x0,h0,r0⟩:=hx 0 _ rfl;obtain⟨b,k1,k2⟩:=hi.blk n _ hb;cases r0 with
 |ptr _ _ b' hb'=>
 rw[k1]at hb';cases hb'
 obtain rfl:cargs=#[.pointer (some ⟨b,0,none⟩)]:=by
  apply Array.ext'
  match hc:cargs.toList,hl,h0 with
  |[a],_,h0=>simp at h0;simp[h0]
 obtain⟨cs,rest,elem,hh,hc⟩:=k2.plain rfl;obtain⟨_,x,hx0,hrx⟩:=hc.2 0 _ rfl
 have hcell:σ.w.cell? ⟨b,0,none⟩=some x:=by
  rw[Q3 hh,<-Array.getElem?_toList,List.toList_toArray,List.getElem?_append_left (List.getElem?_eq_some_iff.1 hx0).1];exact hx0
 cases hrx with
 |ps _ _ b2 p hb2 hs hp=>
 rw[k1]at hb2;cases hb2;rcases hp with rfl|rfl
 ·refine(d7h b σ.w hcell hs (d1b hh 0)).mono fun e w' ⟨he,hw⟩=>?_
  subst he hw;have hlt:b<σ.w.heap.size:=c23 hh;obtain⟨q1,q2,q3,q4,q5⟩:=a0z b [.pointer (some ⟨b,0,none⟩)] 0 σ.w;have q6:=a3v b elem (0,0) [.pointer (some ⟨b,0,none⟩)] 0 σ.w (cs++rest) hh (by have:=(List.getElem?_eq_some_iff.1 hx0).1;simp;omega);have hw:σ.w.setCells b 0 [.pointer (some ⟨b,0,none⟩)]=σ.w.setCell ⟨b,0,none⟩ (.pointer (some ⟨b,0,none⟩)):=rfl
  obtain⟨c0,cs,rfl⟩:∃c0 cs',cs=c0::cs':=by
   cases cs with
   |nil=>simp at hx0
   |cons c0 cs'=>exact⟨c0,cs',rfl⟩
  obtain⟨hle,hinv⟩:=c4u (w':=σ.w.setCells b 0 [.pointer (some ⟨b,0,none⟩)]) (cells':=.ps n 121::r) hi k1 hb (by simp) q1 q2 q3 q4 q5 (fun o ho=>a0o b _ 0 σ.w _ ho) (fun hle=>by
   refine .cells _ (.pointer (some ⟨b,0,none⟩)::cs) rest elem (by rw[q6];simp) ⟨by simpa using hc.1,fun i av hi=>?_⟩;cases i with
   |zero=>simp at hi;subst hi;exact⟨rfl,_,rfl,.ps _ _ b _ k1 (S3 b _ 0 _ b hs) (.inr rfl)⟩
   |succ i=>
    obtain⟨g1,y,g2,g3⟩:=hc.2 (i+1) av (by simpa using hi);exact⟨g1,y,by simpa using g2,g3.mono hle⟩) (fun _=>⟨_,_,q6⟩) (by simp) (fun x hx=>S3 b _ 0 _ b hx)
  have e1:h.blks.set n (some (.ps n 121::r))=h.blks:=by
   apply List.ext_getElem?;intro i
   by_cases hni:n=i
   ·subst hni;rw[List.getElem?_set_self (List.getElem?_eq_some_iff.1 hb).1,hb]
   ·rw[List.getElem?_set_ne hni]
  rw[e1]at hinv;exact⟨_,h,.tuple [],_,rfl,hw,hle,hinv,Rel.tuple_mk rfl fun i av hi=>by simp at hi,hk⟩
 ·refine(g6d b σ.w hcell).mono fun e w' ⟨he,hw⟩=>?_
  subst he hw;exact⟨σ,h,.tuple [],_,rfl,rfl,Le.refl σ,hi,Rel.tuple_mk rfl fun i av hi=>by simp at hi,hk⟩
section
open Go.Shelf
def Tryz.lays145_ren:Go.Shelf.Ren:=⟨fun|145=>79|220=>149|219=>216|217=>107|225=>284|224=>285|267=>286|266=>187|314=>361|n=>n,fun|9=>9|4=>4|59=>166|3=>3|5=>5|46=>126|146=>421|51=>420|n=>n,fun|1=>2|n=>n⟩
theorem Tryz.lays145:Go.Proofs.Lays.n145 Tryz.prog Tryz.lays145_ren:={
 mixed:=by kernel_rfl
 f145:=Tryz.func79.trans (congrArg some (by kernel_rfl))
 f217:=Tryz.func107.trans (congrArg some (by kernel_rfl))
 f219:=Tryz.func216.trans (congrArg some (by kernel_rfl))
 f220:=Tryz.func149.trans (congrArg some (by kernel_rfl))
 f224:=Tryz.func285.trans (congrArg some (by kernel_rfl))
 f225:=Tryz.func284.trans (congrArg some (by kernel_rfl))
 f266:=Tryz.func187.trans (congrArg some (by kernel_rfl))
 f267:=Tryz.func286.trans (congrArg some (by kernel_rfl))
 f314:=Tryz.func361.trans (congrArg some (by kernel_rfl))
 t3:=Tryz.underlying3
 a3:=Tryz.isAgg3
 z3:=Tryz.sizeOf3
 v3:=Tryz.zeroValue3
 t4:=Tryz.underlying4
 a4:=Tryz.isAgg4
 z4:=Tryz.sizeOf4
 v4:=Tryz.zeroValue4
 t5:=Tryz.underlying5
 a5:=Tryz.isAgg5
 z5:=Tryz.sizeOf5
 v5:=Tryz.zeroValue5
 t9:=Tryz.underlying9
 a9:=Tryz.isAgg9
 z9:=Tryz.sizeOf9
 v9:=Tryz.zeroValue9
 t46:=Tryz.underlying126
 a46:=Tryz.isAgg126
 z46:=Tryz.sizeOf126
 v46:=Tryz.zeroValue126
 t51:=Tryz.underlying420
 a51:=Tryz.isAgg420
 z51:=Tryz.sizeOf420
 v51:=Tryz.zeroValue420
 t59:=Tryz.underlying166
 a59:=Tryz.isAgg166
 z59:=Tryz.sizeOf166
 v59:=Tryz.zeroValue166
 t146:=Tryz.underlying421
 a146:=Tryz.isAgg421
 z146:=Tryz.sizeOf421
 v146:=Tryz.zeroValue421
 g1:=by kernel_rfl}
open Go.RowKit Go.Lib in
theorem Tryz.strings_Cut(s sep:ByteArray)(m:Int)(w:World)(hs:s.size<4294967281)(hm:w.cell? ⟨2,0,none⟩=some (.int .i64 m)):
  Calls Tryz.prog 79 #[.string s,.string sep] w fun e w'=>e=.returned (.tuple #[.string ⟨(Lib.cut s.data.toList sep.data.toList).1.toArray⟩,.string ⟨(Lib.cut s.data.toList sep.data.toList).2.1.toArray⟩,.bool (Lib.cut s.data.toList sep.data.toList).2.2])/\∃n,w'=w.drewN n:=Any.strings_Cut Tryz.lays145 s sep m w hs hm
def Tryz.lays146_ren:Go.Shelf.Ren:=⟨fun|146=>150|221=>217|268=>287|138=>288|143=>289|195=>362|197=>363|218=>364|219=>216|260=>416|217=>107|225=>284|224=>285|267=>286|266=>187|314=>361|n=>n,fun|9=>9|31=>79|3=>3|4=>4|0=>0|105=>423|21=>21|5=>5|46=>126|119=>479|139=>482|138=>481|146=>421|51=>420|n=>n,fun|1=>2|3=>3|4=>4|n=>n⟩
theorem Tryz.lays146:Go.Proofs.Lays.n146 Tryz.prog Tryz.lays146_ren:={
 mixed:=by kernel_rfl
 f138:=Tryz.func288.trans (congrArg some (by kernel_rfl))
 f143:=Tryz.func289.trans (congrArg some (by kernel_rfl))
 f146:=Tryz.func150.trans (congrArg some (by kernel_rfl))
 f195:=Tryz.func362.trans (congrArg some (by kernel_rfl))
 f197:=Tryz.func363.trans (congrArg some (by kernel_rfl))
 f217:=Tryz.func107.trans (congrArg some (by kernel_rfl))
 f218:=Tryz.func364.trans (congrArg some (by kernel_rfl))
 f219:=Tryz.func216.trans (congrArg some (by kernel_rfl))
 f221:=Tryz.func217.trans (congrArg some (by kernel_rfl))
 f224:=Tryz.func285.trans (congrArg some (by kernel_rfl))
 f225:=Tryz.func284.trans (congrArg some (by kernel_rfl))
 f260:=Tryz.func416.trans (congrArg some (by kernel_rfl))
 f266:=Tryz.func187.trans (congrArg some (by kernel_rfl))
 f267:=Tryz.func286.trans (congrArg some (by kernel_rfl))
 f268:=Tryz.func287.trans (congrArg some (by kernel_rfl))
 f314:=Tryz.func361.trans (congrArg some (by kernel_rfl))
 t0:=Tryz.underlying0
 a0:=Tryz.isAgg0
 z0:=Tryz.sizeOf0
 v0:=Tryz.zeroValue0
 t3:=Tryz.underlying3
 a3:=Tryz.isAgg3
 z3:=Tryz.sizeOf3
 v3:=Tryz.zeroValue3
 t4:=Tryz.underlying4
 a4:=Tryz.isAgg4
 z4:=Tryz.sizeOf4
 v4:=Tryz.zeroValue4
 t5:=Tryz.underlying5
 a5:=Tryz.isAgg5
 z5:=Tryz.sizeOf5
 v5:=Tryz.zeroValue5
 t9:=Tryz.underlying9
 a9:=Tryz.isAgg9
 z9:=Tryz.sizeOf9
 v9:=Tryz.zeroValue9
 t21:=Tryz.underlying21
 a21:=Tryz.isAgg21
 z21:=Tryz.sizeOf21
 v21:=Tryz.zeroValue21
 t31:=Tryz.underlying79
 a31:=Tryz.isAgg79
 z31:=Tryz.sizeOf79
 v31:=Tryz.zeroValue79
 t46:=Tryz.underlying126
 a46:=Tryz.isAgg126
 z46:=Tryz.sizeOf126
 v46:=Tryz.zeroValue126
 t51:=Tryz.underlying420
 a51:=Tryz.isAgg420
 z51:=Tryz.sizeOf420
 v51:=Tryz.zeroValue420
 t105:=Tryz.underlying423
 a105:=Tryz.isAgg423
 z105:=Tryz.sizeOf423
 v105:=Tryz.zeroValue423
 t119:=Tryz.underlying479
 a119:=Tryz.isAgg479
 z119:=Tryz.sizeOf479
 t138:=Tryz.underlying481
 a138:=Tryz.isAgg481
 z138:=Tryz.sizeOf481
 v138:=Tryz.zeroValue481
 t139:=Tryz.underlying482
 a139:=Tryz.isAgg482
 z139:=Tryz.sizeOf482
 v139:=Tryz.zeroValue482
 t146:=Tryz.underlying421
 a146:=Tryz.isAgg421
 z146:=Tryz.sizeOf421
 v146:=Tryz.zeroValue421
 g1:=by kernel_rfl
 g3:=by kernel_rfl
 g4:=by kernel_rfl}
open Go.RowKit Go.Lib in
theorem Tryz.strings_Split(s sep:ByteArray)(m:Int)(w:World)(hs:s.size<4294967281)(hm:w.cell? ⟨2,0,none⟩=some (.int .i64 m))(h1:1<=sep.size):
  Calls Tryz.prog 150 #[.string s,.string sep] w fun e w'=>
   e=.returned (.slice (some ⟨w.heap.size,0,none⟩) (Lib.countB s sep+1) (Lib.countB s sep+1))/\w'=w.alloc (.cells ((Lib.splitB sep 0 (Lib.countB s sep) s).map Value.string).toArray 9):=Any.strings_Split Tryz.lays146 (by kernel_rfl) s sep m w hs hm h1
end
theorem c04{n:Int}(h: -9223372036854775808<=n/\n<=9223372036854775807):IntKind.i64.wrap n=n:=by simp[IntKind.wrap,IntKind.signed,IntKind.bits];omega
theorem c9t(s:ByteArray){l u:Nat}(h:u<=s.size):(s.extract l u).size=u - l:=by
 rw[ByteArray.size_extract];omega
section
open Lift
def d5x(c:Int):Bool:=((((((decide (97<=c))&&(decide (c<=122)))||((decide (65<=c))&&(decide (c<=90))))||((decide (48<=c))&&(decide (c<=57))))||(c==45))||(c==95))||(c==46)
theorem T1(s:ByteArray)(p:Nat)(h:p<s.size):s.data.toList.drop p=s[p]::s.data.toList.drop (p+1):=by
 have h':p<s.data.toList.length:=by simpa using h
 rw[List.drop_eq_getElem_cons h'];rfl
theorem d2x{p:Prop}(h:p):Hid p:=h
end
end Go.Proofs.YtkhgohfaecbgkaaGreatDoor.Lift
