/- Part 5 of the texts that prove TextformPrintsEnd. -/
import Derived.Test.YtdpomombdeccpaaGreatDoorTextformPrintsEndP3
import Derived.Test.YtdpomombdeccpaaGreatDoorProg
import Derived.WalkKit
import Derived.ProofKit
import Derived.Lib.Builder
import Derived.Laws.Externs
namespace Go.Proofs.YtdpomombdeccpaaGreatDoor.Lift
open Go.RowKit
set_option linter.unusedVariables false
set_option linter.unusedSimpArgs false
set_option linter.unnecessarySimpa false
set_option linter.unusedSectionVars false
set_option maxRecDepth 100000
noncomputable abbrev Pg:Program:=Tryz.prog
def O6(mg:Int):b4c (Nat × b4c AV):=[(1,[.v (.int .u64 1),.v (.int .u64 10),.v (.int .u64 100),.v (.int .u64 1000),.v (.int .u64 10000),.v (.int .u64 100000),.v (.int .u64 1000000),.v (.int .u64 10000000),.v (.int .u64 100000000),.v (.int .u64 1000000000),.v (.int .u64 10000000000),.v (.int .u64 100000000000),.v (.int .u64 1000000000000),.v (.int .u64 10000000000000),.v (.int .u64 100000000000000),.v (.int .u64 1000000000000000),.v (.int .u64 10000000000000000),.v (.int .u64 100000000000000000),.v (.int .u64 1000000000000000000),.v (.int .u64 10000000000000000000)]),(5,[.v (.int .u8 0),.v (.int .u8 1),.v (.int .u8 56),.v (.int .u8 2),.v (.int .u8 57),.v (.int .u8 49),.v (.int .u8 28),.v (.int .u8 3),.v (.int .u8 61),.v (.int .u8 58),.v (.int .u8 42),.v (.int .u8 50),.v (.int .u8 38),.v (.int .u8 29),.v (.int .u8 17),.v (.int .u8 4),.v (.int .u8 62),.v (.int .u8 47),.v (.int .u8 59),.v (.int .u8 36),.v (.int .u8 45),.v (.int .u8 43),.v (.int .u8 51),.v (.int .u8 22),.v (.int .u8 53),.v (.int .u8 39),.v (.int .u8 33),.v (.int .u8 30),.v (.int .u8 24),.v (.int .u8 18),.v (.int .u8 12),.v (.int .u8 5),.v (.int .u8 63),.v (.int .u8 55),.v (.int .u8 48),.v (.int .u8 27),.v (.int .u8 60),.v (.int .u8 41),.v (.int .u8 37),.v (.int .u8 16),.v (.int .u8 46),.v (.int .u8 35),.v (.int .u8 44),.v (.int .u8 21),.v (.int .u8 52),.v (.int .u8 32),.v (.int .u8 23),.v (.int .u8 11),.v (.int .u8 54),.v (.int .u8 26),.v (.int .u8 40),.v (.int .u8 15),.v (.int .u8 34),.v (.int .u8 20),.v (.int .u8 31),.v (.int .u8 10),.v (.int .u8 25),.v (.int .u8 14),.v (.int .u8 19),.v (.int .u8 9),.v (.int .u8 13),.v (.int .u8 8),.v (.int .u8 7),.v (.int .u8 6)])]
abbrev e3(r:b4e):AV:=.v (.bool r)
def pe(mg:Int)(p:A5)(name:b4b)(v:A0)(r:b4e):Prop:=A9 Pg (O6 mg) 3 [.agg (C7 p),.v (.string name),.agg (C4 v)] (e3 r)
abbrev e4(r:b4e):AV:=.v (.bool r)
abbrev e5(r:Int):AV:=.v (.int .i64 r)
def ZS(p:A5)(r:Int):Prop:=A9 Pg [] 5 [.agg (C7 p)] (e5 r)
abbrev e6(r:b4e):AV:=.v (.bool r)
def UB(mg:Int)(r:b4e):Prop:=A9 Pg (O6 mg) 6 [] (e6 r)
abbrev e7(r:b4b × Int):AV:=.tuple [.v (.string r.1),.v (.int .i64 r.2)]
def bO(mg:Int)(p:A5)(name:b4b)(v:A0)(r:b4b × Int):Prop:=A9 Pg (O6 mg) 7 [.agg (C7 p),.v (.string name),.agg (C4 v)] (e7 r)
abbrev e8(r:b4b × Int):AV:=.tuple [.v (.string r.1),.v (.int .i64 r.2)]
def ap(p:A5)(name:b4b)(v:A0)(r:b4b × Int):Prop:=A9 Pg [] 8 [.agg (C7 p),.v (.string name),.agg (C4 v)] (e8 r)
abbrev e9(r:b4b × Int):AV:=.tuple [.v (.string r.1),.v (.int .i64 r.2)]
def Ya(mg:Int)(p:A5)(name:b4b)(v:A0)(r:b4b × Int):Prop:=A9 Pg (O6 mg) 9 [.agg (C7 p),.v (.string name),.agg (C4 v)] (e9 r)
abbrev e10(r:b4b × Int):AV:=.tuple [.v (.string r.1),.v (.int .i64 r.2)]
def Zg(p:A5)(name:b4b)(v:A0)(r:b4b × Int):Prop:=A9 Pg [] 10 [.agg (C7 p),.v (.string name),.agg (C4 v)] (e10 r)
abbrev e11(r:b4b):AV:=.v (.string r)
def Zo(mg:Int)(p:A5)(o_:B0)(v:A0)(r:b4b):Prop:=A9 Pg (O6 mg) 11 [.agg (C7 p),.agg (E7 o_),.agg (C4 v)] (e11 r)
abbrev e12(r:A0 × Int):AV:=.tuple [.agg (C4 r.1),.v (.int .i64 r.2)]
abbrev e13(r:A0 × Int):AV:=.tuple [.agg (C4 r.1),.v (.int .i64 r.2)]
abbrev e14(r:b4b):AV:=.v (.string r)
def Xx(p:A5)(o_:B0)(v:A0)(r:b4b):Prop:=A9 Pg [] 14 [.agg (C7 p),.agg (E7 o_),.agg (C4 v)] (e14 r)
abbrev e15(r:b4e):AV:=.v (.bool r)
abbrev e16(r:b4e):AV:=.v (.bool r)
def VP(p:A5)(enum num:Int)(r:b4e):Prop:=A9 Pg [] 16 [.agg (C7 p),.v (.int .i64 enum),.v (.int .u64 num)] (e16 r)
abbrev e17(r:b4e):AV:=.v (.bool r)
def Xy(p:A5)(r:b4e):Prop:=A9 Pg [] 17 [.agg (C7 p)] (e17 r)
abbrev e18(r:b4e):AV:=.v (.bool r)
def ai(p:A5)(r:b4e):Prop:=A9 Pg [] 18 [.agg (C7 p)] (e18 r)
abbrev e19(r:b4e):AV:=.v (.bool r)
def Xe(p:A5)(r:b4e):Prop:=A9 Pg [] 19 [.agg (C7 p)] (e19 r)
abbrev e20(r:b4e):AV:=.v (.bool r)
def Zd(p:A5)(r:b4e):Prop:=A9 Pg [] 20 [.agg (C7 p)] (e20 r)
abbrev e21(r:b4e):AV:=.v (.bool r)
def ZX(p:A5)(r:b4e):Prop:=A9 Pg [] 21 [.agg (C7 p)] (e21 r)
abbrev e22(r:b4e):AV:=.v (.bool r)
def ct(p:A5)(r:b4e):Prop:=A9 Pg [] 22 [.agg (C7 p)] (e22 r)
abbrev e23(r:b4e):AV:=.v (.bool r)
def Yd(p:A5)(r:b4e):Prop:=A9 Pg [] 23 [.agg (C7 p)] (e23 r)
abbrev e24(r:A0 × Int × Int):AV:=.tuple [.agg (C4 r.1),.v (.int .i64 r.2.1),.v (.int .i64 r.2.2)]
abbrev e25(r:FY):AV:=.agg (Bp r)
def bj(r:FY):Prop:=A9 Pg [] 25 [] (e25 r)
abbrev e26(r:(b4d G3) × Int):AV:=.tuple [qk Hw r.1,.v (.int .i64 r.2)]
def Tz(mg:Int)(p:A5)(name:b4b)(v:A0)(r:(b4d G3) × Int):Prop:=A9 Pg (O6 mg) 26 [.agg (C7 p),.v (.string name),.agg (C4 v)] (e26 r)
abbrev e27(r:(b4c b4b) × (b4c Int)):AV:=.tuple [.sl (List.map K8 r.1) .no,.sl (List.map W0 r.2) .no]
def Nj(w:G3)(r:(b4c b4b) × (b4c Int)):Prop:=A9 Pg [] 27 [.D3 (Hw w) 0] (e27 r)
abbrev e29(r:b4b):AV:=.v (.string r)
def MT(s:b4b)(count:Int)(r:b4b):Prop:=A9 Pg [] 29 [.v (.string s),.v (.int .i64 count)] (e29 r)
abbrev e30(r:b4b × Int):AV:=.tuple [.v (.string r.1),.v (.int .i64 r.2)]
def Tx(s:b4b)(r:b4b × Int):Prop:=A9 Pg [] 30 [.v (.string s)] (e30 r)
abbrev e32(r:(b4c b4b) × Int):AV:=.tuple [.sl (List.map K8 r.1) .no,.v (.int .i64 r.2)]
def Tq(p:A5)(name:b4b)(v:A0)(r:(b4c b4b) × Int):Prop:=A9 Pg [] 32 [.agg (C7 p),.v (.string name),.agg (C4 v)] (e32 r)
abbrev e33(r:b4b):AV:=.v (.string r)
def Xq(elems:b4c b4b)(sep r:b4b):Prop:=A9 Pg [] 33 [.sl (List.map K8 elems) .no,.v (.string sep)] (e33 r)
abbrev e34(r:b4b):AV:=.v (.string r)
def Zq(s r:b4b):Prop:=A9 Pg [] 34 [.v (.string s)] (e34 r)
abbrev e35(r:b4e):AV:=.v (.bool r)
def LT(kind:Int)(r:b4e):Prop:=A9 Pg [] 35 [.v (.int .i64 kind)] (e35 r)
abbrev e36(r:b4e):AV:=.v (.bool r)
def NF(kind:Int)(v:A0)(r:b4e):Prop:=A9 Pg [] 36 [.v (.int .i64 kind),.agg (C4 v)] (e36 r)
abbrev e37(r:b4b):AV:=.v (.string r)
def OW(mg:Int)(v:A0)(r:b4b):Prop:=A9 Pg (O6 mg) 37 [.agg (C4 v)] (e37 r)
abbrev e38(r:O5 × b4e):AV:=.tuple [.agg (V7 r.1),.v (.bool r.2)]
def am(p:A5)(enum num:Int)(r:O5 × b4e):Prop:=A9 Pg [] 38 [.agg (C7 p),.v (.int .i64 enum),.v (.int .u64 num)] (e38 r)
abbrev e41(r:b4e):AV:=.v (.bool r)
def Si(p:A5)(enum num:Int)(r:b4e):Prop:=A9 Pg [] 41 [.agg (C7 p),.v (.int .i64 enum),.v (.int .u64 num)] (e41 r)
abbrev e44(r:I2 × b4e):AV:=.tuple [.agg (U9 r.1),.v (.bool r.2)]
def XR(p:A5)(o_:B0)(r:I2 × b4e):Prop:=A9 Pg [] 44 [.agg (C7 p),.agg (E7 o_)] (e44 r)
abbrev e45(r:b4b × b4e):AV:=.tuple [.v (.string r.1),.v (.bool r.2)]
def ZV(e_:I2)(bits:Int)(r:b4b × b4e):Prop:=A9 Pg [] 45 [.agg (U9 e_),.v (.int .u64 bits)] (e45 r)
abbrev e46(r:b4e):AV:=.v (.bool r)
def Ma(s:b4b)(r:b4e):Prop:=A9 Pg [] 46 [.v (.string s)] (e46 r)
abbrev e47(r:b4e):AV:=.v (.bool r)
def MD(kind:Int)(v:A0)(r:b4e):Prop:=A9 Pg [] 47 [.v (.int .i64 kind),.agg (C4 v)] (e47 r)
abbrev e48(r:b4b):AV:=.v (.string r)
def Ow(v:A0)(r:b4b):Prop:=A9 Pg [] 48 [.agg (C4 v)] (e48 r)
abbrev e49(r:b4e):AV:=.v (.bool r)
def Qk(s:b4b)(r:b4e):Prop:=A9 Pg [] 49 [.v (.string s)] (e49 r)
abbrev e50(r:b4e):AV:=.v (.bool r)
def SE(s:b4b)(r:b4e):Prop:=A9 Pg [] 50 [.v (.string s)] (e50 r)
abbrev e51(r:b4e):AV:=.v (.bool r)
def cB(l:b4c Ba)(n:Int)(r:b4e):Prop:=A9 Pg [] 51 [.sl (List.map Br l) .no,.v (.int .i64 n)] (e51 r)
abbrev e52(r:Int):AV:=.v (.int .i64 r)
def XZ(l:b4c Z5)(target r:Int):Prop:=A9 Pg [] 52 [.sl (List.map BR l) .no,.v (.int .i64 target)] (e52 r)
abbrev e53(r:b4e):AV:=.v (.bool r)
def XG(g:C2)(r:b4e):Prop:=A9 Pg [] 53 [.agg (H6 g)] (e53 r)
abbrev e54(r:b4e):AV:=.v (.bool r)
def Zc(p:A5)(o_:B0)(r:b4e):Prop:=A9 Pg [] 54 [.agg (C7 p),.agg (E7 o_)] (e54 r)
abbrev e57(r:Int × b4e):AV:=.tuple [.v (.int .i64 r.1),.v (.bool r.2)]
def ZY(p:A5)(name:b4b)(r:Int × b4e):Prop:=A9 Pg [] 57 [.agg (C7 p),.v (.string name)] (e57 r)
abbrev e58(r:Int):AV:=.v (.int .i64 r)
def cQ(p:A5)(prog:Int)(v:A0)(r:Int):Prop:=A9 Pg [] 58 [.agg (C7 p),.v (.int .i64 prog),.agg (C4 v)] (e58 r)
abbrev e59(r:b4e):AV:=.v (.bool r)
def FZ(v:A0)(r:b4e):Prop:=A9 Pg [] 59 [.agg (C4 v)] (e59 r)
abbrev e60(r:G3):AV:=.tuple []
theorem qE(r:G3):plain (e60 r):=rfl
def Vu(mg:Int)(w:G3)(prog:Int)(v:A0)(r:G3):Prop:=De Pg (O6 mg) 60 [.ptr 0 0,.v (.int .i64 prog),.agg (C4 v)] (AR w) (Fk w) (e60 r) (AR r) (Fk r)
abbrev e61(r:A0):AV:=.agg (C4 r)
def Jj(p:A5)(prog:Int)(v r:A0):Prop:=A9 Pg [] 61 [.agg (C7 p),.v (.int .i64 prog),.agg (C4 v)] (e61 r)
abbrev e63(r:Int × Int):AV:=.tuple [.v (.int .u64 r.1),.v (.int .u64 r.2)]
def Oy(x y:Int)(r:Int × Int):Prop:=A9 Pg [] 63 [.v (.int .u64 x),.v (.int .u64 y)] (e63 r)
abbrev e64(r:b4e):AV:=.v (.bool r)
def FK(s prefix_:b4b)(r:b4e):Prop:=A9 Pg [] 64 [.v (.string s),.v (.string prefix_)] (e64 r)
abbrev qt(r:Int × b4e):AV:=.tuple [.v (.int .i64 r.1),.v (.bool r.2)]
def ZK(p:A5)(name:b4b)(r:Int × b4e):Prop:=A9 Pg [] 67 [.agg (C7 p),.v (.string name)] (qt r)
abbrev e68(r:Int):AV:=.v (.int .i64 r)
def Xw(p:A5)(prog:Int)(v:A0)(r:Int):Prop:=A9 Pg [] 68 [.agg (C7 p),.v (.int .i64 prog),.agg (C4 v)] (e68 r)
abbrev WN(r:b4e):AV:=.v (.bool r)
def Ff(v:A0)(r:b4e):Prop:=A9 Pg [] 69 [.agg (C4 v)] (WN r)
abbrev WQ(r:b4c b4b):AV:=.sl (List.map K8 r) .no
def Vr(p:A5)(prog:Int)(v:A0)(r:b4c b4b):Prop:=A9 Pg [] 70 [.agg (C7 p),.v (.int .i64 prog),.agg (C4 v)] (WQ r)
abbrev dp(r:A0):AV:=.agg (C4 r)
def MI(p:A5)(prog:Int)(v r:A0):Prop:=A9 Pg [] 71 [.agg (C7 p),.v (.int .i64 prog),.agg (C4 v)] (dp r)
abbrev e72(r:b4e):AV:=.v (.bool r)
def Sw(v:A0)(r:b4e):Prop:=A9 Pg [] 72 [.agg (C4 v)] (e72 r)
abbrev e73(r:b4e):AV:=.v (.bool r)
def Xv(kind bits:Int)(r:b4e):Prop:=A9 Pg [] 73 [.v (.int .i64 kind),.v (.int .u64 bits)] (e73 r)
abbrev e74(r:b4e):AV:=.v (.bool r)
def UQ(s:b4b)(r:b4e):Prop:=A9 Pg [] 74 [.v (.string s)] (e74 r)
abbrev e75(r:b4b):AV:=.v (.string r)
def XX(b:b4e)(r:b4b):Prop:=A9 Pg [] 75 [.v (.bool b)] (e75 r)
abbrev e76(r:b4b):AV:=.v (.string r)
def strconv_Itoa(mg x0:Int)(r:b4b):Prop:=A9 Pg (O6 mg) 76 [.v (.int .i64 x0)] (e76 r)
abbrev e77(r:b4b):AV:=.v (.string r)
def dU(mg bits:Int)(r:b4b):Prop:=A9 Pg (O6 mg) 77 [.v (.int .u64 bits)] (e77 r)
abbrev rA(r:b4b):AV:=.v (.string r)
def SC(s r:b4b):Prop:=A9 Pg [] 78 [.v (.string s)] (rA r)
abbrev qm(r:b4b):AV:=.v (.string r)
def Ym(s r:b4b):Prop:=A9 Pg [] 79 [.v (.string s)] (qm r)
abbrev e80(r:b4b):AV:=.v (.string r)
def Up(mg x0 x1:Int)(r:b4b):Prop:=A9 Pg (O6 mg) 80 [.v (.int .u64 x0),.v (.int .i64 x1)] (e80 r)
abbrev e82(r:b4e):AV:=.v (.bool r)
def bD(kind:Int)(r:b4e):Prop:=A9 Pg [] 82 [.v (.int .i64 kind)] (e82 r)
abbrev e86(r:b4e):AV:=.v (.bool r)
def mI(s:b4c O5)(f:B3)(r:b4e):Prop:=A9 Pg [] 86 [.sl (List.map V7 s) .no,.clo (.func f.fn) f.fi f.cap] (e86 r)
abbrev e87(r:b4e):AV:=.v (.bool r)
def lX(it:O5)(c1_:Int)(r:b4e):Prop:=A9 Pg [] 87 [.agg (V7 it),.D3 (CB c1_) 0] (e87 r)
abbrev e89(r:b4e):AV:=.v (.bool r)
def Uo(kind:Int)(r:b4e):Prop:=A9 Pg [] 89 [.v (.int .i64 kind)] (e89 r)
abbrev qq(r:A0 × Int):AV:=.tuple [.agg (C4 r.1),.v (.int .i64 r.2)]
abbrev e93(r:b4e):AV:=.v (.bool r)
def Ug(b:Int)(r:b4e):Prop:=A9 Pg [] 93 [.v (.int .u8 b)] (e93 r)
abbrev e94(r:b4e):AV:=.v (.bool r)
def TB(b:Int)(r:b4e):Prop:=A9 Pg [] 94 [.v (.int .u8 b)] (e94 r)
abbrev e95(r:b4e):AV:=.v (.bool r)
def Qm(v:A0)(r:b4e):Prop:=A9 Pg [] 95 [.agg (C4 v)] (e95 r)
abbrev e96(r:b4e):AV:=.v (.bool r)
def LK(kind:Int)(r:b4e):Prop:=A9 Pg [] 96 [.v (.int .i64 kind)] (e96 r)
abbrev e97(r:b4e):AV:=.v (.bool r)
def My(s:b4b)(r:b4e):Prop:=A9 Pg [] 97 [.v (.string s)] (e97 r)
abbrev qx(r:b4b):AV:=.v (.string r)
def LG(u:Int)(r:b4b):Prop:=A9 Pg [] 98 [.v (.int .u64 u)] (qx r)
abbrev e99(r:Int):AV:=.v (.int .i64 r)
def NR(bits r:Int):Prop:=A9 Pg [] 99 [.v (.int .u64 bits)] (e99 r)
abbrev oP(r:b4b):AV:=.v (.string r)
def Yp(u:Int)(r:b4b):Prop:=A9 Pg [] 100 [.v (.int .u64 u)] (oP r)
abbrev kV(r:b4b):AV:=.v (.string r)
def VD(s r:b4b):Prop:=A9 Pg [] 101 [.v (.string s)] (kV r)
abbrev gv(r:b4b):AV:=.v (.string r)
def Qg(s r:b4b):Prop:=A9 Pg [] 102 [.v (.string s)] (gv r)
abbrev mi(r:b4e):AV:=.v (.bool r)
def Wg(s:b4b)(r:b4e):Prop:=A9 Pg [] 103 [.v (.string s)] (mi r)
abbrev pG(r:b4b × b4b):AV:=.tuple [.v (.string r.1),.v (.string r.2)]
def dG(full:b4b)(r:b4b × b4b):Prop:=A9 Pg [] 104 [.v (.string full)] (pG r)
abbrev zl(r:b4e):AV:=.v (.bool r)
def UT(s:b4b)(r:b4e):Prop:=A9 Pg [] 105 [.v (.string s)] (zl r)
abbrev Uz(r:Int):AV:=.v (.int .i64 r)
def Tk(name:b4b)(r:Int):Prop:=A9 Pg [] 106 [.v (.string name)] (Uz r)
abbrev OF(r:b4e):AV:=.v (.bool r)
def Yi(name:b4b)(target:Int)(r:b4e):Prop:=A9 Pg [] 107 [.v (.string name),.v (.int .i64 target)] (OF r)
abbrev a6c(r:b4e):AV:=.v (.bool r)
def bC(n:Z5)(r:b4e):Prop:=A9 Pg [] 108 [.agg (BR n)] (a6c r)
abbrev b1h(r:b4e):AV:=.v (.bool r)
def Xh(p:A5)(o_:B0)(r:b4e):Prop:=A9 Pg [] 109 [.agg (C7 p),.agg (E7 o_)] (b1h r)
abbrev od(r:Int):AV:=.v (.int .i64 r)
def qB(s:b4c C2)(f:B3)(r:Int):Prop:=A9 Pg [] 114 [.sl (List.map H6 s) .no,.clo (.func f.fn) f.fi f.cap] (od r)
abbrev a06(r:b4e):AV:=.v (.bool r)
def gq(g:C2)(c1_:b4b)(r:b4e):Prop:=A9 Pg [] 115 [.agg (H6 g),.D3 (K8 c1_) 0] (a06 r)
abbrev Uu(r:Int):AV:=.v (.int .i64 r)
def MR(x:M6)(g:C2)(v:A0)(level r:Int):Prop:=A9 Pg [] 116 [.agg (Cj x),.agg (H6 g),.agg (C4 v),.v (.int .i64 level)] (Uu r)
abbrev pO(r:Int):AV:=.v (.int .i64 r)
def Mx(v:A0)(r:Int):Prop:=A9 Pg [] 117 [.agg (C4 v)] (pO r)
abbrev a6u(r:B0 × b4e):AV:=.tuple [.agg (E7 r.1),.v (.bool r.2)]
def JY(g:C2)(num:Int)(r:B0 × b4e):Prop:=A9 Pg [] 118 [.agg (H6 g),.v (.int .i64 num)] (a6u r)
abbrev Rz(r:G3):AV:=.tuple []
theorem pf(r:G3):plain (Rz r):=rfl
def Pb(mg:Int)(w:G3)(o_:B0)(name:b4b)(v:A0)(r:G3):Prop:=De Pg (O6 mg) 119 [.ptr 0 0,.agg (E7 o_),.v (.string name),.agg (C4 v)] (AR w) (Fk w) (Rz r) (AR r) (Fk r)
abbrev a7x(r:b4c D8):AV:=.sl (List.map G6 r) .no
def oQ(s r:b4c D8):Prop:=A9 Pg [] 120 [.sl (List.map G6 s) .no] (a7x r)
def a43(s:b4c D8):Prop:=Hk Pg G6 4 120 s
abbrev Wz(r:b4c (Int × A0)):AV:=.sl (List.map D2 r) .no
def PM(l r:b4c (Int × A0)):Prop:=A9 Pg [] 121 [.sl (List.map D2 l) .no] (Wz r)
abbrev Wj(r:A0):AV:=.agg (C4 r)
def ck(p:A5)(o_:B0)(v r:A0):Prop:=A9 Pg [] 122 [.agg (C7 p),.agg (E7 o_),.agg (C4 v)] (Wj r)
abbrev uQ(r:b4e):AV:=.v (.bool r)
def WX(v:A0)(r:b4e):Prop:=A9 Pg [] 123 [.agg (C4 v)] (uQ r)
def jo(x1:B3):Prop:=A9 Pg [] 124 [.sl [] .no,.clo (.func x1.fn) x1.fi x1.cap] (.tuple [])
abbrev a07(r:Int):AV:=.v (.int .i64 r)
def Fi(x y r:Int):Prop:=A9 Pg [] 126 [.v (.int .i64 x),.v (.int .i64 y)] (a07 r)
abbrev a70(r:Int × Int):AV:=.tuple [.v (.int .u64 r.1),.v (.int .u64 r.2)]
def kp(x y:Int)(r:Int × Int):Prop:=A9 Pg [] 129 [.v (.int .u64 x),.v (.int .u64 y)] (a70 r)
abbrev xQ(r:b4e):AV:=.v (.bool r)
def fC(s prefix_:b4b)(r:b4e):Prop:=A9 Pg [] 130 [.v (.string s),.v (.string prefix_)] (xQ r)
abbrev Vc(r:Int):AV:=.v (.int .i64 r)
def Ks(p:A5)(prog:Int)(v:A0)(level r:Int):Prop:=A9 Pg [] 132 [.agg (C7 p),.v (.int .i64 prog),.agg (C4 v),.v (.int .i64 level)] (Vc r)
abbrev Ql(r:Int):AV:=.v (.int .i64 r)
def Ds(v:A0)(r:Int):Prop:=A9 Pg [] 133 [.agg (C4 v)] (Ql r)
abbrev lZ(r:B0 × b4e):AV:=.tuple [.agg (E7 r.1),.v (.bool r.2)]
def JV(g:C2)(num:Int)(r:B0 × b4e):Prop:=A9 Pg [] 134 [.agg (H6 g),.v (.int .i64 num)] (lZ r)
abbrev Zr(r:b4c b4b):AV:=.sl (List.map K8 r) .no
def NS(p:A5)(o_:B0)(name:b4b)(v:A0)(r:b4c b4b):Prop:=A9 Pg [] 135 [.agg (C7 p),.agg (E7 o_),.v (.string name),.agg (C4 v)] (Zr r)
abbrev Xj(r:b4c D8):AV:=.sl (List.map G6 r) .no
def aQ(l r:b4c D8):Prop:=A9 Pg [] 136 [.sl (List.map G6 l) .no] (Xj r)
abbrev cz(r:A0):AV:=.agg (C4 r)
def bW(p:A5)(o_:B0)(v r:A0):Prop:=A9 Pg [] 137 [.agg (C7 p),.agg (E7 o_),.agg (C4 v)] (cz r)
abbrev ru(r:b4e):AV:=.v (.bool r)
def YC(v:A0)(r:b4e):Prop:=A9 Pg [] 138 [.agg (C4 v)] (ru r)
abbrev nB(r:Int):AV:=.v (.int .i64 r)
def gn(s:b4b)(r:Int):Prop:=A9 Pg [] 139 [.v (.string s)] (nB r)
abbrev uA(r:b4b):AV:=.v (.string r)
def ll(b:b4e)(r:b4b):Prop:=A9 Pg [] 140 [.v (.bool b)] (uA r)
abbrev ye(r:Int):AV:=.v (.int .i64 r)
def Ou(bits r:Int):Prop:=A9 Pg [] 142 [.v (.int .u64 bits)] (ye r)
abbrev yd(r:b4b):AV:=.v (.string r)
def XH(s:b4b)(at_ c:Int)(r:b4b):Prop:=A9 Pg [] 143 [.v (.string s),.v (.int .i64 at_),.v (.int .i32 c)] (yd r)
abbrev kC(r:Int):AV:=.v (.int .i64 r)
def mh(s:b4c O5)(f:B3)(r:Int):Prop:=A9 Pg [] 151 [.sl (List.map V7 s) .no,.clo (.func f.fn) f.fi f.cap] (kC r)
abbrev xY(r:b4e):AV:=.v (.bool r)
def kM(kind:Int)(r:b4e):Prop:=A9 Pg [] 155 [.v (.int .i64 kind)] (xY r)
abbrev qc(r:Int):AV:=.v (.int .i64 r)
def kQ(s:b4b)(r:Int):Prop:=A9 Pg [] 156 [.v (.string s)] (qc r)
abbrev m8(r:Int):AV:=.v (.int .i64 r)
def TD(s:b4b)(i r:Int):Prop:=A9 Pg [] 157 [.v (.string s),.v (.int .i64 i)] (m8 r)
abbrev a4a(r:b4b):AV:=.v (.string r)
def VB(b:Int)(r:b4b):Prop:=A9 Pg [] 158 [.v (.int .u8 b)] (a4a r)
abbrev d7(r:b4e):AV:=.v (.bool r)
def Lg(v:A0)(r:b4e):Prop:=A9 Pg [] 163 [.agg (C4 v)] (d7 r)
abbrev nZ(r:Int):AV:=.v (.int .i64 r)
def Yo(x:M6)(g:C2)(l:b4c (Int × A0))(i level r:Int):Prop:=A9 Pg [] 164 [.agg (Cj x),.agg (H6 g),.sl (List.map D2 l) .no,.v (.int .i64 i),.v (.int .i64 level)] (nZ r)
abbrev vD(r:b4e):AV:=.v (.bool r)
def UR(s:b4c (Int × A0))(f:B3)(r:b4e):Prop:=A9 Pg [] 165 [.sl (List.map D2 s) .no,.clo (.func f.fn) f.fi f.cap] (vD r)
abbrev a6b(r:b4e):AV:=.v (.bool r)
def kX(y:Int × A0)(c1_:B0)(r:b4e):Prop:=A9 Pg [] 166 [.agg (M4 y),.D3 (E7 c1_) 0] (a6b r)
abbrev rG(r:Int):AV:=.v (.int .i64 r)
def bB(x:M6)(g:C2)(f:D8)(r:Int):Prop:=A9 Pg [] 167 [.agg (Cj x),.agg (H6 g),.agg (G6 f)] (rG r)
abbrev Ye(r:b4c A0):AV:=.sl (List.map H3 r) .no
def ZQ(v:A0)(r:b4c A0):Prop:=A9 Pg [] 168 [.agg (C4 v)] (Ye r)
abbrev b1b(r:b4e):AV:=.v (.bool r)
def oK(o_:B0)(c1_:Int)(r:b4e):Prop:=A9 Pg [] 169 [.agg (E7 o_),.D3 (W0 c1_) 0] (b1b r)
abbrev yt(r:B0 × b4e):AV:=.tuple [.agg (E7 r.1),.v (.bool r.2)]
def lD(x:Fl)(g:C2)(r:B0 × b4e):Prop:=A9 Pg [] 170 [.agg (Jh x),.agg (H6 g)] (yt r)
abbrev a8s(r:b4c (Int × A0)):AV:=.sl (List.map D2 r) .no
def nH(s r:b4c (Int × A0)):Prop:=A9 Pg [] 171 [.sl (List.map D2 s) .no] (a8s r)
def kj(s:b4c (Int × A0)):Prop:=Hk Pg D2 8 171 s
def ah(n0:Nat)(x:b4c (Int × A0))(cmp:B3)(r:b4c (Int × A0)):Prop:=Bi Pg D2 8 172 n0 [.clo (.func cmp.fn) cmp.fi cmp.cap] x r
def fR(x1:B3):Prop:=A9 Pg [] 172 [.sl [] .no,.clo (.func x1.fn) x1.fi x1.cap] (.tuple [])
abbrev xr(r:Int):AV:=.v (.int .i64 r)
def ii(a b:Int × A0)(r:Int):Prop:=A9 Pg [] 173 [.agg (M4 a),.agg (M4 b)] (xr r)
abbrev a5f(r:A0):AV:=.agg (C4 r)
def PX(p:A5)(o_:B0)(v r:A0):Prop:=A9 Pg [] 174 [.agg (C7 p),.agg (E7 o_),.agg (C4 v)] (a5f r)
abbrev ZH(r:b4c (A0 × A0)):AV:=.sl (List.map D1 r) .no
def UP(l r:b4c (A0 × A0)):Prop:=A9 Pg [] 175 [.sl (List.map D1 l) .no] (ZH r)
abbrev a2y(r:A0):AV:=.agg (C4 r)
def Qy(v r:A0):Prop:=A9 Pg [] 176 [.agg (C4 v)] (a2y r)
abbrev xG(r:b4e):AV:=.v (.bool r)
def Wq(v:A0)(r:b4e):Prop:=A9 Pg [] 177 [.agg (C4 v)] (xG r)
abbrev zI(r:b4e):AV:=.v (.bool r)
def bu(x:Int)(r:b4e):Prop:=A9 Pg [] 179 [.v (.int .i64 x)] (zI r)
abbrev yY(r:b4e):AV:=.v (.bool r)
def MS(v:A0)(r:b4e):Prop:=A9 Pg [] 181 [.agg (C4 v)] (yY r)
abbrev qT(r:Int):AV:=.v (.int .i64 r)
def dF(g:C2)(l:b4c (Int × A0))(i r:Int):Prop:=A9 Pg [] 182 [.agg (H6 g),.sl (List.map D2 l) .no,.v (.int .i64 i)] (qT r)
abbrev nK(r:Int):AV:=.v (.int .i64 r)
def ZI(p:A5)(o_:B0)(v:A0)(level r:Int):Prop:=A9 Pg [] 183 [.agg (C7 p),.agg (E7 o_),.agg (C4 v),.v (.int .i64 level)] (nK r)
abbrev ny(r:b4e):AV:=.v (.bool r)
def Yr(v:A0)(num:Int)(r:b4e):Prop:=A9 Pg [] 184 [.agg (C4 v),.v (.int .i64 num)] (ny r)
abbrev a0y(r:b4e):AV:=.v (.bool r)
def ZN(p:A5)(g:C2)(x:D8)(r:b4e):Prop:=A9 Pg [] 185 [.agg (C7 p),.agg (H6 g),.agg (G6 x)] (a0y r)
abbrev a4d(r:A0):AV:=.agg (C4 r)
def PS(p:A5)(o_:B0)(v r:A0):Prop:=A9 Pg [] 186 [.agg (C7 p),.agg (E7 o_),.agg (C4 v)] (a4d r)
abbrev SQ(r:b4c (A0 × A0)):AV:=.sl (List.map D1 r) .no
def TH(l r:b4c (A0 × A0)):Prop:=A9 Pg [] 187 [.sl (List.map D1 l) .no] (SQ r)
abbrev a8a(r:A0):AV:=.agg (C4 r)
def Sq(v r:A0):Prop:=A9 Pg [] 188 [.agg (C4 v)] (a8a r)
abbrev a86(r:b4e):AV:=.v (.bool r)
def Xa(v:A0)(r:b4e):Prop:=A9 Pg [] 189 [.agg (C4 v)] (a86 r)
abbrev yN(r:b4e):AV:=.v (.bool r)
def Vd(s:b4b)(at_ c:Int)(r:b4e):Prop:=A9 Pg [] 190 [.v (.string s),.v (.int .i64 at_),.v (.int .i32 c)] (yN r)
abbrev a48(r:b4b):AV:=.v (.string r)
def XL(c:Int)(r:b4b):Prop:=A9 Pg [] 192 [.v (.int .u8 c)] (a48 r)
abbrev pY(r:b4e):AV:=.v (.bool r)
def FC(s:b4b)(i n:Int)(r:b4e):Prop:=A9 Pg [] 205 [.v (.string s),.v (.int .i64 i),.v (.int .i64 n)] (pY r)
abbrev a38(r:b4e):AV:=.v (.bool r)
def Jw(s:b4b)(i lo hi:Int)(r:b4e):Prop:=A9 Pg [] 206 [.v (.string s),.v (.int .i64 i),.v (.int .u8 lo),.v (.int .u8 hi)] (a38 r)
abbrev wM(r:b4e):AV:=.v (.bool r)
def mQ(y:Int × A0)(c1_:B0)(r:b4e):Prop:=A9 Pg [] 211 [.agg (M4 y),.D3 (E7 c1_) 0] (wM r)
abbrev ez(r:Int):AV:=.v (.int .i64 r)
def XS(x:M6)(o_:B0)(v:A0)(level r:Int):Prop:=A9 Pg [] 212 [.agg (Cj x),.agg (E7 o_),.agg (C4 v),.v (.int .i64 level)] (ez r)
abbrev kE(r:Int):AV:=.v (.int .i64 r)
def jp(s:b4c (Int × A0))(f:B3)(r:Int):Prop:=A9 Pg [] 213 [.sl (List.map D2 s) .no,.clo (.func f.fn) f.fi f.cap] (kE r)
def mc(s:b4c A0):Prop:=MH Pg H3 7 214 s
abbrev nR(r:Int):AV:=.v (.int .i64 r)
def jQ(s:b4c B0)(f:B3)(r:Int):Prop:=A9 Pg [] 215 [.sl (List.map E7 s) .no,.clo (.func f.fn) f.fi f.cap] (nR r)
def ZO(n0:Nat)(data:b4c (Int × A0))(n:Int)(cmp:B3)(r:b4c (Int × A0)):Prop:=Bi Pg D2 8 216 n0 [.v (.int .i64 n),.clo (.func cmp.fn) cmp.fi cmp.cap] data r
abbrev a4y(r:b4c (A0 × A0)):AV:=.sl (List.map D1 r) .no
def nF(s r:b4c (A0 × A0)):Prop:=A9 Pg [] 217 [.sl (List.map D1 s) .no] (a4y r)
def jT(s:b4c (A0 × A0)):Prop:=Hk Pg D1 14 217 s
def Zm(n0:Nat)(x:b4c (A0 × A0))(cmp:B3)(r:b4c (A0 × A0)):Prop:=Bi Pg D1 14 218 n0 [.clo (.func cmp.fn) cmp.fi cmp.cap] x r
def fk(x1:B3):Prop:=A9 Pg [] 218 [.sl [] .no,.clo (.func x1.fn) x1.fi x1.cap] (.tuple [])
abbrev l7(r:Int):AV:=.v (.int .i64 r)
def b0a(a b:A0 × A0)(r:Int):Prop:=A9 Pg [] 219 [.agg (L4 a),.agg (L4 b)] (l7 r)
abbrev a8u(r:Int):AV:=.v (.int .i64 r)
def JH(a b:A0)(r:Int):Prop:=A9 Pg [] 220 [.agg (C4 a),.agg (C4 b)] (a8u r)
abbrev rP(r:b4e):AV:=.v (.bool r)
def On(a b:A0)(r:b4e):Prop:=A9 Pg [] 221 [.agg (C4 a),.agg (C4 b)] (rP r)
abbrev ZP(r:Int):AV:=.v (.int .i64 r)
def bP(p:A5)(o_:B0)(l:b4c (A0 × A0))(level r:Int):Prop:=A9 Pg [] 224 [.agg (C7 p),.agg (E7 o_),.sl (List.map D1 l) .no,.v (.int .i64 level)] (ZP r)
abbrev a4l(r:Int):AV:=.v (.int .i64 r)
def Mu(p:A5)(o_:B0)(v:A0)(level r:Int):Prop:=A9 Pg [] 225 [.agg (C7 p),.agg (E7 o_),.agg (C4 v),.v (.int .i64 level)] (a4l r)
abbrev b17(r:Int):AV:=.v (.int .i64 r)
def Cz(a b:A0)(r:Int):Prop:=A9 Pg [] 226 [.agg (C4 a),.agg (C4 b)] (b17 r)
abbrev b2o(r:Int):AV:=.v (.int .i64 r)
def OR(x:M6)(o_:B0)(v:A0)(level r:Int):Prop:=A9 Pg [] 247 [.agg (Cj x),.agg (E7 o_),.agg (C4 v),.v (.int .i64 level)] (b2o r)
abbrev kY(r:Int):AV:=.v (.int .i64 r)
def YV(x:M6)(o_:B0)(l:b4c (A0 × A0))(level r:Int):Prop:=A9 Pg [] 248 [.agg (Cj x),.agg (E7 o_),.sl (List.map D1 l) .no,.v (.int .i64 level)] (kY r)
def Vk(n0:Nat)(data:b4c (Int × A0))(a b:Int)(cmp:B3)(r:b4c (Int × A0)):Prop:=Bi Pg D2 8 249 n0 [.v (.int .i64 a),.v (.int .i64 b),.clo (.func cmp.fn) cmp.fi cmp.cap] data r
def MG(n0:Nat)(data:b4c (Int × A0))(a m b:Int)(cmp:B3)(r:b4c (Int × A0)):Prop:=Bi Pg D2 8 250 n0 [.v (.int .i64 a),.v (.int .i64 m),.v (.int .i64 b),.clo (.func cmp.fn) cmp.fi cmp.cap] data r
def YW(n0:Nat)(data:b4c (A0 × A0))(n:Int)(cmp:B3)(r:b4c (A0 × A0)):Prop:=Bi Pg D1 14 251 n0 [.v (.int .i64 n),.clo (.func cmp.fn) cmp.fi cmp.cap] data r
abbrev wH(r:E5):AV:=M1 r
def Qf(v:A0)(r:E5):Prop:=A9 Pg [] 252 [.agg (C4 v)] (wH r)
abbrev sA(r:Int):AV:=.v (.int .i64 r)
def ZM(a b:A0)(r:Int):Prop:=A9 Pg [] 253 [.agg (C4 a),.agg (C4 b)] (sA r)
abbrev js(r:Int):AV:=.v (.int .i64 r)
def fq(s1_ s2_:b4c A0)(cmp:B3)(r:Int):Prop:=A9 Pg [] 254 [.sl (List.map H3 s1_) .no,.sl (List.map H3 s2_) .no,.clo (.func cmp.fn) cmp.fi cmp.cap] (js r)
abbrev pd(r:Int):AV:=.v (.int .i64 r)
def eh(s1_ s2_:b4c (A0 × A0))(cmp:B3)(r:Int):Prop:=A9 Pg [] 255 [.sl (List.map D1 s1_) .no,.sl (List.map D1 s2_) .no,.clo (.func cmp.fn) cmp.fi cmp.cap] (pd r)
abbrev a63(r:Int):AV:=.v (.int .i64 r)
def uS(a b:A0 × A0)(r:Int):Prop:=A9 Pg [] 256 [.agg (L4 a),.agg (L4 b)] (a63 r)
abbrev mj(r:Int):AV:=.v (.int .i64 r)
def Lr(vals:b4c Int)(r:Int):Prop:=A9 Pg [] 257 [.sl (List.map W0 vals) .no] (mj r)
abbrev ou(r:Int):AV:=.v (.int .i64 r)
def pm(s1_ s2_:b4c (Int × A0))(cmp:B3)(r:Int):Prop:=A9 Pg [] 258 [.sl (List.map D2 s1_) .no,.sl (List.map D2 s2_) .no,.clo (.func cmp.fn) cmp.fi cmp.cap] (ou r)
abbrev u7(r:Int):AV:=.v (.int .i64 r)
def vc(a b:Int × A0)(r:Int):Prop:=A9 Pg [] 259 [.agg (M4 a),.agg (M4 b)] (u7 r)
abbrev eY(r:Int):AV:=.v (.int .i64 r)
def fF(s1_ s2_:b4c D8)(cmp:B3)(r:Int):Prop:=A9 Pg [] 260 [.sl (List.map G6 s1_) .no,.sl (List.map G6 s2_) .no,.clo (.func cmp.fn) cmp.fi cmp.cap] (eY r)
abbrev b0h(r:Int):AV:=.v (.int .i64 r)
def lz(a b:D8)(r:Int):Prop:=A9 Pg [] 261 [.agg (G6 a),.agg (G6 b)] (b0h r)
abbrev a0i(r:Int):AV:=.v (.int .i64 r)
def TL(p:A5)(kind target:Int)(v:A0)(r:Int):Prop:=A9 Pg [] 263 [.agg (C7 p),.v (.int .i64 kind),.v (.int .i64 target),.agg (C4 v)] (a0i r)
abbrev zQ(r:b4e):AV:=.v (.bool r)
def bh(a b:A0)(r:b4e):Prop:=A9 Pg [] 264 [.agg (C4 a),.agg (C4 b)] (zQ r)
abbrev w0(r:Int):AV:=.v (.int .i64 r)
def DQ(a b r:Int):Prop:=A9 Pg [] 265 [.v (.int .i64 a),.v (.int .i64 b)] (w0 r)
abbrev mT(r:Int):AV:=.v (.int .i64 r)
def mH(a b:b4c A0)(r:Int):Prop:=A9 Pg [] 266 [.sl (List.map H3 a) .no,.sl (List.map H3 b) .no] (mT r)
abbrev gK(r:Int):AV:=.v (.int .i64 r)
def gL(a b:b4c (A0 × A0))(r:Int):Prop:=A9 Pg [] 267 [.sl (List.map D1 a) .no,.sl (List.map D1 b) .no] (gK r)
abbrev iZ(r:Int):AV:=.v (.int .i64 r)
def kw(a b:b4c (Int × A0))(r:Int):Prop:=A9 Pg [] 268 [.sl (List.map D2 a) .no,.sl (List.map D2 b) .no] (iZ r)
abbrev iF(r:Int):AV:=.v (.int .i64 r)
def gD(a b:b4c D8)(r:Int):Prop:=A9 Pg [] 269 [.sl (List.map G6 a) .no,.sl (List.map G6 b) .no] (iF r)
abbrev a3z(r:Int):AV:=.v (.int .i64 r)
def ZD(a b:A0)(r:Int):Prop:=A9 Pg [] 270 [.agg (C4 a),.agg (C4 b)] (a3z r)
abbrev yZ(r:Int):AV:=.v (.int .i64 r)
def VZ(x:M6)(kind enum:Int)(v:A0)(r:Int):Prop:=A9 Pg [] 280 [.agg (Cj x),.v (.int .i64 kind),.v (.int .i64 enum),.agg (C4 v)] (yZ r)
abbrev a1l(r:b4e):AV:=.v (.bool r)
def Yc(s:b4c (A0 × A0))(f:B3)(r:b4e):Prop:=A9 Pg [] 281 [.sl (List.map D1 s) .no,.clo (.func f.fn) f.fi f.cap] (a1l r)
abbrev a00(r:b4e):AV:=.v (.bool r)
def ee(q c1_:A0 × A0)(r:b4e):Prop:=A9 Pg [] 282 [.agg (L4 q),.D3 (L4 c1_) 0] (a00 r)
def Wp(n0:Nat)(data:b4c (Int × A0))(a m b:Int)(cmp:B3)(r:b4c (Int × A0)):Prop:=Bi Pg D2 8 283 n0 [.v (.int .i64 a),.v (.int .i64 m),.v (.int .i64 b),.clo (.func cmp.fn) cmp.fi cmp.cap] data r
def Sh(n0:Nat)(data:b4c (A0 × A0))(a b:Int)(cmp:B3)(r:b4c (A0 × A0)):Prop:=Bi Pg D1 14 284 n0 [.v (.int .i64 a),.v (.int .i64 b),.clo (.func cmp.fn) cmp.fi cmp.cap] data r
def LZ(n0:Nat)(data:b4c (A0 × A0))(a m b:Int)(cmp:B3)(r:b4c (A0 × A0)):Prop:=Bi Pg D1 14 285 n0 [.v (.int .i64 a),.v (.int .i64 m),.v (.int .i64 b),.clo (.func cmp.fn) cmp.fi cmp.cap] data r
abbrev a89(r:Int):AV:=.v (.int .i64 r)
def VG(x y:b4b)(r:Int):Prop:=A9 Pg [] 286 [.v (.string x),.v (.string y)] (a89 r)
abbrev zr(r:Int):AV:=.v (.int .i64 r)
def Pd(x y r:Int):Prop:=A9 Pg [] 287 [.v (.int .u64 x),.v (.int .u64 y)] (zr r)
abbrev a0t(r:Int):AV:=.v (.int .u64 r)
def Vw(bits r:Int):Prop:=A9 Pg [] 288 [.v (.int .u64 bits)] (a0t r)
abbrev sE(r:Int):AV:=.v (.int .i64 r)
def YM(a b:D8)(r:Int):Prop:=A9 Pg [] 290 [.agg (G6 a),.agg (G6 b)] (sE r)
abbrev xU(r:Int):AV:=.v (.int .u64 r)
def LN(v:A0)(r:Int):Prop:=A9 Pg [] 291 [.agg (C4 v)] (xU r)
abbrev nE(r:Int):AV:=.v (.int .i64 r)
def kG(s:b4c (A0 × A0))(f:B3)(r:Int):Prop:=A9 Pg [] 292 [.sl (List.map D1 s) .no,.clo (.func f.fn) f.fi f.cap] (nE r)
def ND(n0:Nat)(data:b4c (Int × A0))(a b n:Int)(cmp:B3)(r:b4c (Int × A0)):Prop:=Bi Pg D2 8 293 n0 [.v (.int .i64 a),.v (.int .i64 b),.v (.int .i64 n),.clo (.func cmp.fn) cmp.fi cmp.cap] data r
def bd(n0:Nat)(data:b4c (A0 × A0))(a m b:Int)(cmp:B3)(r:b4c (A0 × A0)):Prop:=Bi Pg D1 14 294 n0 [.v (.int .i64 a),.v (.int .i64 m),.v (.int .i64 b),.clo (.func cmp.fn) cmp.fi cmp.cap] data r
abbrev a2q(r:b4e):AV:=.v (.bool r)
def cJ(x:b4b)(r:b4e):Prop:=A9 Pg [] 295 [.v (.string x)] (a2q r)
abbrev j2(r:b4e):AV:=.v (.bool r)
def dO(x:Int)(r:b4e):Prop:=A9 Pg [] 296 [.v (.int .u64 x)] (j2 r)
def QA(n0:Nat)(data:b4c (A0 × A0))(a b n:Int)(cmp:B3)(r:b4c (A0 × A0)):Prop:=Bi Pg D1 14 297 n0 [.v (.int .i64 a),.v (.int .i64 b),.v (.int .i64 n),.clo (.func cmp.fn) cmp.fi cmp.cap] data r
theorem qg{x0:G3}{x1:Int}{x2:A0}{r:G3}:(AR x0).all ok1/\(AR r).all ok1/\List.all [.ptr 0 0,.v (.int .i64 x1),.agg (C4 x2)] okA/\plain (e60 r):=⟨LS _,LS _,I3 rfl (I3 (J2 rfl) (I3 (J2 (T0 x2)) rfl)),qE r⟩
theorem ag{x0:G3}{x1:B0}{x2:b4b}{x3:A0}{r:G3}:(AR x0).all ok1/\(AR r).all ok1/\List.all [.ptr 0 0,.agg (E7 x1),.v (.string x2),.agg (C4 x3)] okA/\plain (Rz r):=⟨LS _,LS _,I3 rfl (I3 (J2 (P5 x1)) (I3 (J2 rfl) (I3 (J2 (T0 x3)) rfl))),pf r⟩
theorem a77{x1:B3}:List.all [.clo (.func x1.fn) x1.fi x1.cap] okA:=(I3 (J2 (DK x1)) rfl)
theorem a0x{x1:Int}{x2:B3}:List.all [.v (.int .i64 x1),.clo (.func x2.fn) x2.fi x2.cap] okA:=(I3 (J2 rfl) (I3 (J2 (DK x2)) rfl))
theorem vl{x1:B3}:List.all [.clo (.func x1.fn) x1.fi x1.cap] okA:=(I3 (J2 (DK x1)) rfl)
theorem jR{x1 x2:Int}{x3:B3}:List.all [.v (.int .i64 x1),.v (.int .i64 x2),.clo (.func x3.fn) x3.fi x3.cap] okA:=(I3 (J2 rfl) (I3 (J2 rfl) (I3 (J2 (DK x3)) rfl)))
theorem Su{x1 x2 x3:Int}{x4:B3}:List.all [.v (.int .i64 x1),.v (.int .i64 x2),.v (.int .i64 x3),.clo (.func x4.fn) x4.fi x4.cap] okA:=(I3 (J2 rfl) (I3 (J2 rfl) (I3 (J2 rfl) (I3 (J2 (DK x4)) rfl))))
theorem vi{x1:Int}{x2:B3}:List.all [.v (.int .i64 x1),.clo (.func x2.fn) x2.fi x2.cap] okA:=(I3 (J2 rfl) (I3 (J2 (DK x2)) rfl))
theorem tb{x1 x2 x3:Int}{x4:B3}:List.all [.v (.int .i64 x1),.v (.int .i64 x2),.v (.int .i64 x3),.clo (.func x4.fn) x4.fi x4.cap] okA:=(I3 (J2 rfl) (I3 (J2 rfl) (I3 (J2 rfl) (I3 (J2 (DK x4)) rfl))))
theorem pZ{x1 x2:Int}{x3:B3}:List.all [.v (.int .i64 x1),.v (.int .i64 x2),.clo (.func x3.fn) x3.fi x3.cap] okA:=(I3 (J2 rfl) (I3 (J2 rfl) (I3 (J2 (DK x3)) rfl)))
theorem VK{x1 x2 x3:Int}{x4:B3}:List.all [.v (.int .i64 x1),.v (.int .i64 x2),.v (.int .i64 x3),.clo (.func x4.fn) x4.fi x4.cap] okA:=(I3 (J2 rfl) (I3 (J2 rfl) (I3 (J2 rfl) (I3 (J2 (DK x4)) rfl))))
theorem cq{x1 x2 x3:Int}{x4:B3}:List.all [.v (.int .i64 x1),.v (.int .i64 x2),.v (.int .i64 x3),.clo (.func x4.fn) x4.fi x4.cap] okA:=(I3 (J2 rfl) (I3 (J2 rfl) (I3 (J2 rfl) (I3 (J2 (DK x4)) rfl))))
theorem a4q{x1 x2 x3:Int}{x4:B3}:List.all [.v (.int .i64 x1),.v (.int .i64 x2),.v (.int .i64 x3),.clo (.func x4.fn) x4.fi x4.cap] okA:=(I3 (J2 rfl) (I3 (J2 rfl) (I3 (J2 rfl) (I3 (J2 (DK x4)) rfl))))
theorem dB{x1 x2 x3:Int}{x4:B3}:List.all [.v (.int .i64 x1),.v (.int .i64 x2),.v (.int .i64 x3),.clo (.func x4.fn) x4.fi x4.cap] okA:=(I3 (J2 rfl) (I3 (J2 rfl) (I3 (J2 rfl) (I3 (J2 (DK x4)) rfl))))
set_option maxHeartbeats 1000000 in
set_option maxRecDepth 100000 in
theorem sg(b:Nat)(w:World)(h0:w.cell? ⟨b,0,none⟩=some (.pointer (some ⟨b,0,none⟩))):
  Calls Tryz.prog 62 #[.pointer (some ⟨b,0,none⟩)] w λe w'=>e=.returned (.tuple #[])/\w'=w:=by
 obtain⟨j,hj,_⟩:=Option.map_eq_some_iff.1 (show((Tryz.prog).info? 68).map (·.size)=some 2 by kernel_rfl)
 go_enter Tryz.func62,Tryz.ntmps62
 go_wp2
 rw[Lib.run_neq_ptr_same w _ Tryz.underlying65 hj]
 go_wp2
 go_end0
 exact⟨rfl,rfl⟩
set_option maxHeartbeats 1000000 in
set_option maxRecDepth 100000 in
theorem yk(b:Nat)(w:World)(h0:w.cell? ⟨b,0,none⟩=some (.pointer none))(hsh:w.shape? b=some (68,2))(hfz:w.frozen? ⟨b,0,none⟩=false):
  Calls Tryz.prog 62 #[.pointer (some ⟨b,0,none⟩)] w λe w'=>e=.returned (.tuple #[])/\w'=w.setCell ⟨b,0,none⟩ (.pointer (some ⟨b,0,none⟩)):=by
 obtain⟨j,hj,hjs⟩:=Option.map_eq_some_iff.1 (show((Tryz.prog).info? 68).map (·.size)=some 2 by kernel_rfl);have hlies:liesAt Tryz.prog (Tryz.prog).depth 68 (2 / (Tryz.prog).cellsOf 68) 0 68 1:=by kernel_rfl
 go_enter Tryz.func62,Tryz.ntmps62
 go_wp2
 rw[Lib.run_to_unsafe w ⟨b,0,none⟩ Tryz.underlying65 Tryz.underlying180 hj (by rw[hjs];decide) hsh (Nat.zero_lt_succ 1)];simp only[Result.andThen];rw[Oper.upon_value]
 go_wp2
 rw[run_callFunc_extern Tryz.func127 (by kernel_rfl) (by kernel_rfl) (by kernel_rfl) (e:=Extern.AbiNoEscape.same) (by kernel_rfl)];rw[Lib.run_noEscape];simp only[Result.andThen];rw[Oper.upon_value]
 go_wp2
 rw[Lib.run_from_unsafe w ⟨b,0,none⟩ Tryz.underlying180 Tryz.underlying65 hj hsh hlies];simp only[Result.andThen];rw[Oper.upon_value]
 go_wp2
 go_end0
 exact⟨rfl,rfl⟩
theorem Bv:Sl Tryz.prog 62 68:=by
 intro h n r hb K hk;refine⟨⟨_,Tryz.func62,by kernel_rfl,by kernel_rfl⟩,λσ cargs hi hr=>?_⟩;obtain⟨hl,hx⟩:=hr;obtain⟨x0,h0,r0⟩:=hx 0 _ rfl;obtain⟨b,k1,k2⟩:=hi.blk n _ hb;cases r0 with
 |ptr _ _ b' hb'=>
 rw[k1]at hb';cases hb'
 obtain rfl:cargs=#[.pointer (some ⟨b,0,none⟩)]:=by
  apply Array.ext'
  match hc:cargs.toList,hl,h0 with
  |[a],_,h0=>simp at h0;simp[h0]
 obtain⟨cs,rest,elem,hh,hc⟩:=k2.plain rfl;obtain⟨_,x,hx0,hrx⟩:=hc.2 0 _ rfl
 have hcell:σ.w.cell? ⟨b,0,none⟩=some x:=by
  rw[Bg hh,<-Array.getElem?_toList,List.toList_toArray,b3z (List.getElem?_eq_some_iff.1 hx0).1];exact hx0
 cases hrx with
 |ps _ _ b2 p hb2 hs hp=>
 rw[k1]at hb2;cases hb2;rcases hp with rfl|rfl
 ·refine(yk b σ.w hcell hs (xL hh 0)).mono λe w' ⟨he,hw⟩=>?_
  subst he hw;have hlt:b<σ.w.heap.size:=Vm hh;obtain⟨q1,q2,q3,q4,q5⟩:=NO b [.pointer (some ⟨b,0,none⟩)] 0 σ.w;have q6:=Sj b elem (0,0) [.pointer (some ⟨b,0,none⟩)] 0 σ.w (cs++rest) hh (by have:=(List.getElem?_eq_some_iff.1 hx0).1;simp;omega);have hw:σ.w.setCells b 0 [.pointer (some ⟨b,0,none⟩)]=σ.w.setCell ⟨b,0,none⟩ (.pointer (some ⟨b,0,none⟩)):=rfl
  obtain⟨c0,cs,rfl⟩:∃c0 cs',cs=c0::cs':=by
   cases cs with
   |nil=>simp at hx0
   |cons c0 cs'=>exact⟨c0,cs',rfl⟩
  obtain⟨hle,hinv⟩:=PE (w':=σ.w.setCells b 0 [.pointer (some ⟨b,0,none⟩)]) (cells':=.ps n 68::r) hi k1 hb (by simp) q1 q2 q3 q4 q5 (λo ho=>NT b _ 0 σ.w _ ho) (λhle=>by
   refine .cells _ (.pointer (some ⟨b,0,none⟩)::cs) rest elem (by rw[q6];simp) ⟨by simpa using hc.1,λi av hi=>?_⟩;cases i with
   |zero=>simp at hi;subst hi;exact⟨rfl,_,rfl,.ps _ _ b _ k1 (Kt b _ 0 _ b hs) (.inr rfl)⟩
   |succ i=>
    obtain⟨g1,y,g2,g3⟩:=hc.2 (i+1) av (by simpa using hi);exact⟨g1,y,by simpa using g2,g3.mono hle⟩) (λ_=>⟨_,_,q6⟩) (by simp) (λx hx=>Kt b _ 0 _ b hx)
  have e1:h.A4.set n (some (.ps n 68::r))=h.A4:=by
   apply List.ext_getElem?;intro i
   by_cases hni:n=i
   ·subst hni;rw[List.getElem?_set_self (List.getElem?_eq_some_iff.1 hb).1,hb]
   ·rw[List.getElem?_set_ne hni]
  rw[e1]at hinv;exact⟨_,h,.tuple [],_,rfl,hw,hle,hinv,Rel.tuple_mk rfl λi av hi=>by simp at hi,hk⟩
 ·refine(sg b σ.w hcell).mono λe w' ⟨he,hw⟩=>?_
  subst he hw;exact⟨σ,h,.tuple [],_,rfl,rfl,Le.refl σ,hi,Rel.tuple_mk rfl λi av hi=>by simp at hi,hk⟩
section
attribute [local irreducible] Ok run put N0 br jn pos Fo Eu So
attribute [-simp] List.map_take List.map_drop List.map_append List.map_set List.map_replicate List.map_cons List.map_map
attribute [local simp] plain B7 X3 Q5 I0 low D4 H7 Q4 S8 S7 P8 P6 Q9 S4 R0 S6 P9 S0 S5 U5 P5 T6 T1 U1 T5 U8 T0 V1 T9 U7 T8 V0 V3 W3 W5 X1 X6 Y7 Y5 Z9 AS AO Ae Ak Au Ar BP BO Bj Bd Bw Bu CY Cg Cw DP DH Df Ef Em EN EU Ei W0 BI EX EY CB BL K8 Ev IY Ge Gm He IV Ia IZ IK Gy Hi GM GC Hj Ib IS Hb HC Gd GV Hs Ic Hg Gj GT HB HU Hr Hx HT Gz GL Ie GY HZ Gl IU GN IG Ht Gk Gn Gv HH HJ Ga Hp GU IW Ij GS IJ IA IR Gg Hu Hn GP Gw GW IM HQ HG Gt Gc Gr Hq IP HI Gq If IE GO Hy Hc Hd GK GX HS Hm GH GR HL Jf
theorem a9d(mg:Int)(p:A5)(name:b4b)(v:A0)(r:b4e)(hw:∃y1,ZS p y1/\(IF (y1 !=0) (∃y2,UB mg y2/\(r=y2)) (∃y3,bO mg p name v y3/\(∃y4,ap p name v y4/\(∃y5,Ya mg p name v y5/\(∃y6,Zg p name v y6/\(IF ((((decide (y3.1=y4.1))&&(y3.2==y4.2))&&(decide (y5.1=y6.1)))&&(y5.2==y6.2)) (∃y7,UB mg y7/\(r=y7)) (r=false)))))))):pe mg p name v r:=
 fP hw<|KC 11<|KW 3 (BW 2<|KR 5)<|BW 7<|KC 12<|BW 12<|KC 12<|KT 13 4<|KT 1 4<|KT 1 4<|KW 1 (BW 0<|KR 5)<|KR 6
theorem a7k(p:A5)(r:Int)(hw:∃y1,Xy p y1/\(IF (!y1) (r=3) (∃y2,ai p y2/\(IF (!y2) (r=8) (∃y3,Xe p y3/\(IF (!y3) (r=11) (∃y4,Zd p y4/\(IF (!y4) (r=9) (∃y5,ZX p y5/\(IF (!y5) (r=6) (∃y6,ct p y6/\(IF (!y6) (r=1) (∃y7,Yd p y7/\(IF (!y7) (r=19) (r=0))))))))))))))):ZS p r:=
 fP hw<|KC 11<|KW 4 (KR 8)<|KC 3<|KW 4 (KR 8)<|KC 3<|KW 4 (KR 8)<|KC 3<|KW 4 (KR 8)<|KC 3<|KW 4 (KR 8)<|KC 3<|KW 4 (KR 8)<|KC 3<|KW 4 (KR 8)<|KR 9
def UA(ij1:Int)(y4:(b4c b4b) × (b4c Int))(sj2:b4b)(mg:Int)(r:b4b × Int):Prop:=J Pg 7 (.ret (e7 r)) 9 [(32,aI ij1),(31,aI (y4.1.length:Int)),(30,.sl (List.map K8 y4.1) .no),(12,.ptr 2 0),(11,.sl (List.map W0 y4.2) .no)] ⟨[none,none,some [.ps 2 68,.bb (.own 0) (bE sj2) 5]],[(sj2.size,1)],O6 mg⟩
theorem gb(ij1:Int)(y4:(b4c b4b) × (b4c Int))(sj2:b4b)(mg:Int)(r:b4b × Int)(hw:ID (ij1<(y4.1.length:Int)) (IX y4.1 ij1 λy10=>IX y4.2 ij1 λy11=>∃y12,MT (⟨#[32,32]⟩:b4b) y11 y12/\(CT y12 y10 (CT (y12++y10) (⟨#[10]⟩:b4b) (sj2.size+((y12++y10)++(⟨#[10]⟩:b4b)).size<=140737488355328/\(UA (wI (ij1+1)) y4 (sj2++((y12++y10)++(⟨#[10]⟩:b4b))) mg r))))) (sj2.size<=140737488355328/\(∃y9,Tx sj2 y9/\(r=(y9.1,y9.2))))):UA ij1 y4 sj2 mg r:=
 fJ hw<|KW 7 (KI 7 O4<|KI 8 TC<|KC 1<|I8 1<|I8 0<|W7 0 28<|Cn 9 Bv<|Dw 10<|V2 14<|KJ 8)<|W7 7 31<|KD 6 [2]<|QK 11<|V2 4<|KC 0<|KR 7
theorem sr(mg:Int)(p:A5)(name:b4b)(v:A0)(r:b4b × Int)(hw:∃y1,Tz mg p name v y1/\((∀y2 y3,y1=(some y2,y3)->IF (y3 !=0) (r=((⟨#[]⟩:b4b),y3)) (∃y4,Nj y2 y4/\(UA 0 y4 (⟨#[]⟩:b4b) mg r)))/\(∀y3,y1=(none,y3)->IF (y3 !=0) (r=((⟨#[]⟩:b4b),y3)) (False)))):bO mg p name v r:=
 fP hw<|qp 13 (KW 14 (KR 9)<|KC 5 λ{y4}=>KL 16 O4 y4.1<|WD 4 2<|E1 1 [])<|λ{y3}=>KW 14 (KR 9)<|kF
def Se(ij1:Int)(sj2:b4b)(y1:(b4c b4b) × Int)(r:b4b × Int):Prop:=JP Pg 8 (e8 r) 8 [(11,aI ij1),(10,aS sj2),(8,.sl (List.map K8 y1.1) .no)]
theorem ja(ij1:Int)(sj2:b4b)(y1:(b4c b4b) × Int)(r:b4b × Int)(hw:ID (ij1<(y1.1.length:Int)) (IX y1.1 ij1 λy3=>CT y3 (⟨#[10]⟩:b4b) (CT sj2 (y3++(⟨#[10]⟩:b4b)) (Se (wI (ij1+1)) (sj2++(y3++(⟨#[10]⟩:b4b))) y1 r))) (ID (262144<(sj2.size:Int)) (r=((⟨#[]⟩:b4b),3)) (r=(sj2,0)))):Se ij1 sj2 y1 r:=
 fJ hw<|KL 6 O4 y1.1<|KW 3 (KI 8 O4<|I8 1<|I8 0<|KJ 10)<|KW 13 (KR 8)<|KR 10
theorem a3a(p:A5)(name:b4b)(v:A0)(r:b4b × Int)(hw:∃y1,Tq p name v y1/\(IF (y1.2 !=0) (r=((⟨#[]⟩:b4b),y1.2)) (Se 0 (⟨#[]⟩:b4b) y1 r))):ap p name v r:=
 fP hw<|KC 13<|KW 14 (KR 9)<|E1 15 []
theorem a64(mg:Int)(p:A5)(name:b4b)(v:A0)(r:b4b × Int)(hw:∃y1,Tz mg p name v y1/\((∀y2 y3,y1=(some y2,y3)->IF (y3 !=0) (r=((⟨#[]⟩:b4b),y3)) (∃y4,Nj y2 y4/\(∃y5,Xq y4.1 (⟨#[32]⟩:b4b) y5/\(∃y6,Tx y5 y6/\(r=(y6.1,y6.2))))))/\(∀y3,y1=(none,y3)->IF (y3 !=0) (r=((⟨#[]⟩:b4b),y3)) (False)))):Ya mg p name v r:=
 fP hw<|qp 13 (KW 14 (KR 9)<|KC 5<|KC 10<|KC 0<|KR 7)<|λ{y3}=>KW 14 (KR 9)<|kF
def dI(sj3:b4b)(ij1:Int)(y1:(b4c b4b) × Int)(r:b4b × Int):Prop:=JP Pg 10 (e10 r) 12 [(10,aS sj3),(11,aI ij1),(8,.sl (List.map K8 y1.1) .no)]
def Oj(ij1:Int)(sj2:b4b)(y1:(b4c b4b) × Int)(r:b4b × Int):Prop:=JP Pg 10 (e10 r) 8 [(11,aI ij1),(10,aS sj2),(8,.sl (List.map K8 y1.1) .no)]
theorem ms(sj3:b4b)(ij1:Int)(y1:(b4c b4b) × Int)(r:b4b × Int)(hw:IX y1.1 ij1 λy6=>∃y7,Zq y6 y7/\(CT sj3 y7 (Oj (wI (ij1+1)) (sj3++y7) y1 r))):dI sj3 ij1 y1 r:=
 fJ hw<|KI 4 O4<|KC 1<|I8 0<|KJ 10
theorem SN(ij1:Int)(sj2:b4b)(y1:(b4c b4b) × Int)(r:b4b × Int)(hw:ID (ij1<(y1.1.length:Int)) (ID (0<ij1) (CT sj2 (⟨#[32]⟩:b4b) (dI (sj2++(⟨#[32]⟩:b4b)) ij1 y1 r)) (dI sj2 ij1 y1 r)) (ID (262144<(sj2.size:Int)) (r=((⟨#[]⟩:b4b),3)) (r=(sj2,0)))):Oj ij1 sj2 y1 r:=
 fJ hw<|KL 6 O4 y1.1<|KW 3 (KW 11 (I8 2<|KJ 3)<|KJ 2)<|KW 13 (KR 8)<|KR 10
theorem rc(p:A5)(name:b4b)(v:A0)(r:b4b × Int)(hw:∃y1,Tq p name v y1/\(IF (y1.2 !=0) (r=((⟨#[]⟩:b4b),y1.2)) (Oj 0 (⟨#[]⟩:b4b) y1 r))):Zg p name v r:=
 fP hw<|KC 13<|KW 14 (KR 9)<|E1 15 []
theorem vL(mg:Int)(p:A5)(o_:B0)(v:A0)(r:b4b)(hw:∃y1,LT o_.Kind y1/\(JN (λbz1:b4e=>IF bz1 (r=(⟨#[]⟩:b4b)) (IF (o_.Kind !=9) (∃y3,OW mg v y3/\(r=y3)) (∃y4,am p o_.Target v.Bits y4/\(IF y4.2 (r=y4.1.Name) (∃y5,OW mg v y5/\(CT (⟨#[35]⟩:b4b) y5 (r=((⟨#[35]⟩:b4b)++y5)))))))) λR1=>IF (!y1) (R1 true) (∃y2,NF o_.Kind v y2/\(R1 (!y2))))):Zo mg p o_ v r:=
 fP hw<|KC 13<|KQ 2 6 kB (KW 2 (KR 7)<|KW 10 (BW 3<|KR 5)<|KC 10<|KW 13 (KR 9)<|BW 5<|I8 0<|KR 4) (λkey=>KE 6 key) λkey=>KC 3<|KE 2 key
theorem vG(p:A5)(o_:B0)(v:A0)(r:b4b)(hw:JN (λbz1:b4e=>IF bz1 (r=(⟨#[]⟩:b4b)) (IF (o_.Kind !=9) (∃y2,Ow v y2/\(r=y2)) (∃y3,XR p o_ y3/\(∃y4,ZV y3.1 v.Bits y4/\(IF y4.2 (r=y4.1) (∃y5,Ow v y5/\(CT (⟨#[35]⟩:b4b) y5 (r=((⟨#[35]⟩:b4b)++y5))))))))) λR1=>IF (v.Kind !=o_.Kind) (R1 true) (∃y1,MD o_.Kind v y1/\(R1 (!y1)))):Xx p o_ v r:=
 fP hw<|KQ 17 6 kB (KW 2 (KR 7)<|KW 10 (KC 3<|KR 5)<|KC 6<|KC 13<|KW 13 (KR 8)<|KC 5<|I8 0<|KR 4) (λkey=>KE 6 key) λkey=>KC 3<|KE 2 key
def OO(ij1:Int)(bj2:b4e)(enum num:Int)(p:A5)(r:b4e):Prop:=J Pg 16 (.ret (e16 r)) 7 [(8,aI ij1),(7,aB bj2),(3,.ptr 0 0),(1,aI enum),(2,aU num)] ⟨[some (C7 p)],[],[]⟩
theorem lI(ij1:Int)(bj2:b4e)(enum num:Int)(p:A5)(r:b4e)(hw:IX p.C3 enum λy6=>ID (ij1<(y6.Items.length:Int)) (IF bj2 (OO (wI (ij1+1)) true enum num p r) (IX p.C3 enum λy8=>IX y8.Items ij1 λy9=>OO (wI (ij1+1)) (y9.Num==(wI num)) enum num p r)) (r=bj2)):OO ij1 bj2 enum num p r:=
 fJ hw<|KI 8 L0 λ{y6}=>KL 2 W1 y6.Items<|KW 3 (KW 7 (KJ 24)<|KI 3 L0<|KI 3 W1<|KJ 16)<|KR 12
theorem vb(p:A5)(enum num:Int)(r:b4e)(hw:IF (((decide (enum<0))||(decide ((p.C3.length:Int)<=enum)))||(decide (2147483647<num))) (r=false) (IX p.C3 enum λy1=>OO 0 y1.Open enum num p r)):VP p enum num r:=
 fP hw<|J6 12 6 (decide (enum<0)) (λz=>aB (z||(decide ((p.C3.length:Int)<=enum)))) (λkey=>E3 6 key) (λkey=>KL 3 L0 p.C3<|E3 2 key)<|KT 1 3<|KW 2 (KR 7)<|KI 7 L0<|KJ 13
def OV(ij5:Int)(bj6:b4e)(p:A5)(r:b4e):Prop:=J Pg 17 (.ret (e17 r)) 10 [(5,aI ij5),(3,aB bj6),(1,.ptr 0 0)] ⟨[some (C7 p)],[],[]⟩
def Pn(ij3:Int)(bj4:b4e)(p:A5)(r:b4e):Prop:=J Pg 17 (.ret (e17 r)) 4 [(4,aI ij3),(3,aB bj4),(1,.ptr 0 0)] ⟨[some (C7 p)],[],[]⟩
theorem et(ij5:Int)(bj6:b4e)(p:A5)(r:b4e)(hw:ID (ij5<(p.C3.length:Int)) (IX p.C3 ij5 λy12=>IF ((bj6&&(decide (1<=(y12.Items.length:Int))))&&(decide ((y12.Items.length:Int)<=64))) (IX p.C3 ij5 λy14=>OV (wI (ij5+1)) (decide ((y14.Reserved.length:Int)<=16)) p r) (OV (wI (ij5+1)) false p r)) (r=bj6)):OV ij5 bj6 p r:=
 fJ hw<|KL 7 L0 p.C3<|KW 3 (KI 9 L0 λ{y12}=>KL 2 W1 y12.Items<|KT 6 3<|KT 1 3<|KW 1 (KI 3 L0 λ{y14}=>KL 2 JG y14.Reserved<|KJ 12)<|KJ 19)<|KR 12
theorem nM(ij3:Int)(bj4:b4e)(p:A5)(r:b4e)(hw:ID (ij3<(p.A7.length:Int)) (IF bj4 (IX p.A7 ij3 λy16=>Pn (wI (ij3+1)) (decide ((y16.Ops.length:Int)<=64)) p r) (Pn (wI (ij3+1)) false p r)) (OV 0 bj4 p r)):Pn ij3 bj4 p r:=
 fJ hw<|KL 7 H8 p.A7<|KW 3 (KW 7 (KI 3 H8 λ{y16}=>KL 2 N2 y16.Ops<|KJ 12)<|KJ 19)<|KJ 13
theorem a8e(p:A5)(r:b4e)(hw:Pn 0 ((decide ((p.A7.length:Int)<=64))&&(decide ((p.C3.length:Int)<=64))) p r):Xy p r:=
 fP hw<|KL 10 H8 p.A7<|J6 2 5 (decide ((p.A7.length:Int)<=64)) (λz=>aB (z&&(decide ((p.C3.length:Int)<=64)))) (λkey=>KL 2 L0 p.C3<|E3 2 key) (λkey=>E3 5 key)<|KJ 11
def MN(ij15:Int)(bj16:b4e)(ij13:Int)(p:A5)(r:b4e):Prop:=J Pg 18 (.ret (e18 r)) 22 [(7,aI ij15),(3,aB bj16),(6,aI ij13),(1,.ptr 0 0)] ⟨[some (C7 p)],[],[]⟩
def Li(ij13:Int)(bj14:b4e)(p:A5)(r:b4e):Prop:=J Pg 18 (.ret (e18 r)) 16 [(6,aI ij13),(3,aB bj14),(1,.ptr 0 0)] ⟨[some (C7 p)],[],[]⟩
def MC(ij17:Int)(bj18:b4e)(ij9:Int)(p:A5)(r:b4e):Prop:=J Pg 18 (.ret (e18 r)) 10 [(5,aI ij17),(3,aB bj18),(4,aI ij9),(1,.ptr 0 0)] ⟨[some (C7 p)],[],[]⟩
def PG(ij9:Int)(bj10:b4e)(p:A5)(r:b4e):Prop:=J Pg 18 (.ret (e18 r)) 4 [(4,aI ij9),(3,aB bj10),(1,.ptr 0 0)] ⟨[some (C7 p)],[],[]⟩
theorem qj(ij15:Int)(bj16:b4e)(ij13:Int)(p:A5)(r:b4e)(hw:IX p.C3 ij13 λy59=>ID (ij15<(y59.Items.length:Int)) (IF bj16 (IX p.C3 ij13 λy61=>IX y61.Items ij15 λy62=>∃y63,SE y62.Name y63/\(MN (wI (ij15+1)) y63 ij13 p r)) (MN (wI (ij15+1)) false ij13 p r)) (Li (wI (ij13+1)) bj16 p r)):MN ij15 bj16 ij13 p r:=
 fJ hw<|KI 8 L0 λ{y59}=>KL 2 W1 y59.Items<|KW 3 (KW 7 (KI 3 L0<|KI 3 W1<|KC 2<|KJ 11)<|KJ 22)<|KJ 12
theorem kk(ij13:Int)(bj14:b4e)(p:A5)(r:b4e)(hw:ID (ij13<(p.C3.length:Int)) (JN (λbz3:b4e=>MN 0 bz3 ij13 p r) λR3=>IF bj14 (IX p.C3 ij13 λy52=>∃y53,Qk y52.Name y53/\(R3 y53)) (R3 false)) (r=bj14)):Li ij13 bj14 p r:=
 fJ hw<|KL 7 L0 p.C3<|KW 3 (KQ 8 8 kB (KJ 10) (λkey=>KI 3 L0<|KC 2<|KE 1 key) λkey=>KE 8 key)<|KR 12
theorem eg(ij17:Int)(bj18:b4e)(ij9:Int)(p:A5)(r:b4e)(hw:IX p.A7 ij9 λy72=>ID (ij17<(y72.Ops.length:Int)) (IF bj18 (IX p.A7 ij9 λy74=>IX y74.Ops ij17 λy75=>∃y76,SE y75.Name y76/\(MC (wI (ij17+1)) y76 ij9 p r)) (MC (wI (ij17+1)) false ij9 p r)) (PG (wI (ij9+1)) bj18 p r)):MC ij17 bj18 ij9 p r:=
 fJ hw<|KI 8 H8 λ{y72}=>KL 2 N2 y72.Ops<|KW 3 (KW 7 (KI 3 H8<|KI 3 N2<|KC 2<|KJ 11)<|KJ 22)<|KJ 12
theorem ky(ij9:Int)(bj10:b4e)(p:A5)(r:b4e)(hw:ID (ij9<(p.A7.length:Int)) (JN (λbz4:b4e=>MC 0 bz4 ij9 p r) λR4=>IF bj10 (IX p.A7 ij9 λy65=>∃y66,Qk y65.Name y66/\(R4 y66)) (R4 false)) (Li 0 bj10 p r)):PG ij9 bj10 p r:=
 fJ hw<|KL 7 H8 p.A7<|KW 3 (KQ 8 8 kB (KJ 10) (λkey=>KI 3 H8<|KC 2<|KE 1 key) λkey=>KE 8 key)<|KJ 13
theorem j8(p:A5)(r:b4e)(hw:PG 0 true p r):ai p r:=
 fP hw<|KJ 19
def OJ(ij15:Int)(bj16:b4e)(ij13:Int)(p:A5)(r:b4e):Prop:=J Pg 19 (.ret (e19 r)) 22 [(7,aI ij15),(3,aB bj16),(6,aI ij13),(1,.ptr 0 0)] ⟨[some (C7 p)],[],[]⟩
def PT(ij13:Int)(bj14:b4e)(p:A5)(r:b4e):Prop:=J Pg 19 (.ret (e19 r)) 16 [(6,aI ij13),(3,aB bj14),(1,.ptr 0 0)] ⟨[some (C7 p)],[],[]⟩
def Kq(ij17:Int)(bj18:b4e)(ij9:Int)(p:A5)(r:b4e):Prop:=J Pg 19 (.ret (e19 r)) 10 [(5,aI ij17),(3,aB bj18),(4,aI ij9),(1,.ptr 0 0)] ⟨[some (C7 p)],[],[]⟩
def NK(ij9:Int)(bj10:b4e)(p:A5)(r:b4e):Prop:=J Pg 19 (.ret (e19 r)) 4 [(4,aI ij9),(3,aB bj10),(1,.ptr 0 0)] ⟨[some (C7 p)],[],[]⟩
theorem qF(ij15:Int)(bj16:b4e)(ij13:Int)(p:A5)(r:b4e)(hw:IX p.C3 ij13 λy61=>ID (ij15<(y61.Items.length:Int)) (IF bj16 (IX p.C3 ij13 λy63=>IX y63.Items (wI (ij15 - 1)) λy64=>IX p.C3 ij13 λy65=>IX y65.Items ij15 λy66=>OJ (wI (ij15+1)) (decide (y64.Num<y66.Num)) ij13 p r) (OJ (wI (ij15+1)) false ij13 p r)) (PT (wI (ij13+1)) bj16 p r)):OJ ij15 bj16 ij13 p r:=
 fJ hw<|KI 8 L0 λ{y61}=>KL 2 W1 y61.Items<|KW 3 (KD 4 [0]<|KW 2 (KI 3 L0<|KI 4 W1<|KI 5 L0<|KI 3 W1<|KJ 15)<|KJ 34)<|KJ 12
theorem nb(ij13:Int)(bj14:b4e)(p:A5)(r:b4e)(hw:ID (ij13<(p.C3.length:Int)) (JN (λbz3:b4e=>OJ 1 bz3 ij13 p r) λR3=>IF bj14 (JN (λbz4:b4e=>R3 bz4) λR4=>IF (ij13==0) (R4 true) (IX p.C3 (wI (ij13 - 1)) λy53=>IX p.C3 ij13 λy54=>R4 (Op.bytesLess y53.Name.toList y54.Name.toList))) (R3 false)) (r=bj14)):PT ij13 bj14 p r:=
 fJ hw<|KL 7 L0 p.C3<|KW 3 (KD 5 [0]<|KQ 2 20 kB (KJ 10) (λkey=>KQ 3 16 kB (KE 1 key) (λkey=>KE 16 key) λkey=>KI 4 L0<|KI 5 L0<|KE 5 key) λkey=>KE 20 key)<|KR 12
theorem ka(ij17:Int)(bj18:b4e)(ij9:Int)(p:A5)(r:b4e)(hw:IX p.A7 ij9 λy77=>ID (ij17<(y77.Ops.length:Int)) (IF bj18 (IX p.A7 ij9 λy79=>IX y79.Ops (wI (ij17 - 1)) λy80=>IX p.A7 ij9 λy81=>IX y81.Ops ij17 λy82=>Kq (wI (ij17+1)) (decide (y80.Num<y82.Num)) ij9 p r) (Kq (wI (ij17+1)) false ij9 p r)) (NK (wI (ij9+1)) bj18 p r)):Kq ij17 bj18 ij9 p r:=
 fJ hw<|KI 8 H8 λ{y77}=>KL 2 N2 y77.Ops<|KW 3 (KD 4 [0]<|KW 2 (KI 3 H8<|KI 4 N2<|KI 5 H8<|KI 3 N2<|KJ 15)<|KJ 34)<|KJ 12
theorem kI(ij9:Int)(bj10:b4e)(p:A5)(r:b4e)(hw:ID (ij9<(p.A7.length:Int)) (JN (λbz5:b4e=>Kq 1 bz5 ij9 p r) λR5=>IF bj10 (JN (λbz6:b4e=>R5 bz6) λR6=>IF (ij9==0) (R6 true) (IX p.A7 (wI (ij9 - 1)) λy69=>IX p.A7 ij9 λy70=>R6 (Op.bytesLess y69.Name.toList y70.Name.toList))) (R5 false)) (PT 0 bj10 p r)):NK ij9 bj10 p r:=
 fJ hw<|KL 7 H8 p.A7<|KW 3 (KD 5 [0]<|KQ 2 20 kB (KJ 10) (λkey=>KQ 3 16 kB (KE 1 key) (λkey=>KE 16 key) λkey=>KI 4 H8<|KI 5 H8<|KE 5 key) λkey=>KE 20 key)<|KJ 13
theorem a8m(p:A5)(r:b4e)(hw:NK 0 true p r):Xe p r:=
 fP hw<|KJ 19
def OP(ij49 ij47:Int)(y69:I2)(ij42:Int)(bj50:b4e)(p:A5)(r:b4e):Prop:=J Pg 20 (.ret (e20 r)) 38 [(12,aI ij49),(11,aI ij47),(10,.sl (List.map V7 y69.Items) .no),(9,aI ij42),(3,aB bj50),(1,.ptr 0 0)] ⟨[some (C7 p)],[],[]⟩
def Ox(ij47:Int)(y69:I2)(ij42:Int)(bj48:b4e)(p:A5)(r:b4e):Prop:=J Pg 20 (.ret (e20 r)) 33 [(11,aI ij47),(10,.sl (List.map V7 y69.Items) .no),(9,aI ij42),(3,aB bj48),(1,.ptr 0 0)] ⟨[some (C7 p)],[],[]⟩
def OC(ij42:Int)(bj43:b4e)(p:A5)(r:b4e):Prop:=J Pg 20 (.ret (e20 r)) 27 [(9,aI ij42),(3,aB bj43),(1,.ptr 0 0)] ⟨[some (C7 p)],[],[]⟩
def Nf(ij65 ij63:Int)(y98:C2)(ij33:Int)(bj66:b4e)(p:A5)(r:b4e):Prop:=J Pg 20 (.ret (e20 r)) 21 [(8,aI ij65),(7,aI ij63),(6,.sl (List.map E7 y98.Ops) .no),(4,aI ij33),(3,aB bj66),(1,.ptr 0 0)] ⟨[some (C7 p)],[],[]⟩
def Nd(ij63:Int)(y98:C2)(ij33:Int)(bj64:b4e)(p:A5)(r:b4e):Prop:=J Pg 20 (.ret (e20 r)) 16 [(7,aI ij63),(6,.sl (List.map E7 y98.Ops) .no),(4,aI ij33),(3,aB bj64),(1,.ptr 0 0)] ⟨[some (C7 p)],[],[]⟩
def PY(ij58 ij33:Int)(bj59:b4e)(p:A5)(r:b4e):Prop:=J Pg 20 (.ret (e20 r)) 10 [(5,aI ij58),(4,aI ij33),(3,aB bj59),(1,.ptr 0 0)] ⟨[some (C7 p)],[],[]⟩
def LB(ij33:Int)(bj34:b4e)(p:A5)(r:b4e):Prop:=J Pg 20 (.ret (e20 r)) 4 [(4,aI ij33),(3,aB bj34),(1,.ptr 0 0)] ⟨[some (C7 p)],[],[]⟩
theorem eJ(ij49 ij47:Int)(y69:I2)(ij42:Int)(bj50:b4e)(p:A5)(r:b4e)(hw:ID (ij49<ij47) (IF bj50 (IX y69.Items ij49 λy80=>IX y69.Items ij47 λy81=>OP (wI (ij49+1)) ij47 y69 ij42 (!(decide (y80.Name=y81.Name))) p r) (OP (wI (ij49+1)) ij47 y69 ij42 false p r)) (Ox (wI (ij47+1)) y69 ij42 bj50 p r)):OP ij49 ij47 y69 ij42 bj50 p r:=
 fJ hw<|KW 9 (KD 4 []<|KW 2 (KI 2 W1<|KI 4 W1<|KJ 15)<|KJ 23)<|KJ 12
theorem qQ(ij47:Int)(y69:I2)(ij42:Int)(bj48:b4e)(p:A5)(r:b4e)(hw:ID (ij47<(y69.Items.length:Int)) (OP 0 ij47 y69 ij42 bj48 p r) (OC (wI (ij42+1)) bj48 p r)):Ox ij47 y69 ij42 bj48 p r:=
 fJ hw<|KL 6 W1 y69.Items<|KW 3 (KJ 11)<|KJ 12
theorem nk(ij42:Int)(bj43:b4e)(p:A5)(r:b4e)(hw:ID (ij42<(p.C3.length:Int)) (IX p.C3 ij42 λy69=>Ox 0 y69 ij42 bj43 p r) (r=bj43)):OC ij42 bj43 p r:=
 fJ hw<|KL 7 L0 p.C3<|KW 3 (KI 9 L0<|KJ 12)<|KR 12
theorem mL(ij65 ij63:Int)(y98:C2)(ij33:Int)(bj66:b4e)(p:A5)(r:b4e)(hw:ID (ij65<ij63) (IF bj66 (IX y98.Ops ij65 λy109=>IX y98.Ops ij63 λy110=>Nf (wI (ij65+1)) ij63 y98 ij33 (!(decide (y109.Name=y110.Name))) p r) (Nf (wI (ij65+1)) ij63 y98 ij33 false p r)) (Nd (wI (ij63+1)) y98 ij33 bj66 p r)):Nf ij65 ij63 y98 ij33 bj66 p r:=
 fJ hw<|KW 9 (KD 4 []<|KW 2 (KI 2 N2<|KI 4 N2<|KJ 15)<|KJ 23)<|KJ 12
theorem nj(ij63:Int)(y98:C2)(ij33:Int)(bj64:b4e)(p:A5)(r:b4e)(hw:ID (ij63<(y98.Ops.length:Int)) (Nf 0 ij63 y98 ij33 bj64 p r) (LB (wI (ij33+1)) bj64 p r)):Nd ij63 y98 ij33 bj64 p r:=
 fJ hw<|KL 6 N2 y98.Ops<|KW 3 (KJ 11)<|KJ 12
theorem qI(ij58 ij33:Int)(bj59:b4e)(p:A5)(r:b4e)(hw:ID (ij58<(p.C3.length:Int)) (IF bj59 (IX p.A7 ij33 λy112=>IX p.C3 ij58 λy113=>PY (wI (ij58+1)) ij33 (!(decide (y112.Name=y113.Name))) p r) (PY (wI (ij58+1)) ij33 false p r)) (IX p.A7 ij33 λy98=>Nd 0 y98 ij33 bj59 p r)):PY ij58 ij33 bj59 p r:=
 fJ hw<|KL 7 L0 p.C3<|KW 3 (KD 4 [0]<|KW 2 (KI 3 H8<|KI 5 L0<|KJ 15)<|KJ 25)<|KI 10 H8<|KJ 12
theorem kA(ij33:Int)(bj34:b4e)(p:A5)(r:b4e)(hw:ID (ij33<(p.A7.length:Int)) (PY 0 ij33 bj34 p r) (OC 0 bj34 p r)):LB ij33 bj34 p r:=
 fJ hw<|KL 7 H8 p.A7<|KW 3 (KJ 12)<|KJ 13
theorem a22(p:A5)(r:b4e)(hw:LB 0 true p r):Zd p r:=
 fP hw<|KJ 19
def Lb(ij31 ij25:Int)(bj32:b4e)(p:A5)(y52:I2)(r:b4e):Prop:=J Pg 21 (.ret (e21 r)) 29 [(11,aI ij31),(8,.ptr 1 0),(7,aI ij25),(3,aB bj32),(1,.ptr 0 0)] ⟨[some (C7 p),some (U9 y52)],[],[]⟩
def Nl(ij29 ij25:Int)(bj30:b4e)(p:A5)(y52:I2)(r:b4e):Prop:=J Pg 21 (.ret (e21 r)) 23 [(9,aI ij29),(8,.ptr 1 0),(7,aI ij25),(3,aB bj30),(1,.ptr 0 0)] ⟨[some (C7 p),some (U9 y52)],[],[]⟩
def Ld(ij25:Int)(bj26:b4e)(p:A5)(r:b4e):Prop:=J Pg 21 (.ret (e21 r)) 16 [(7,aI ij25),(3,aB bj26),(1,.ptr 0 0)] ⟨[some (C7 p)],[],[]⟩
def RJ(ij33 ij17:Int)(bj34:b4e)(p:A5)(r:b4e):Prop:=J Pg 21 (.ret (e21 r)) 9 [(5,aI ij33),(4,aI ij17),(3,aB bj34),(1,.ptr 0 0)] ⟨[some (C7 p)],[],[]⟩
def OB(ij17:Int)(bj18:b4e)(p:A5)(r:b4e):Prop:=J Pg 21 (.ret (e21 r)) 4 [(4,aI ij17),(3,aB bj18),(1,.ptr 0 0)] ⟨[some (C7 p)],[],[]⟩
theorem mR(ij31 ij25:Int)(bj32:b4e)(p:A5)(y52:I2)(r:b4e)(hw:ID (ij31<(y52.Reserved.length:Int)) (IX y52.Reserved ij31 λy61=>IF (((bj32&&(decide (0<=y61.From)))&&(decide (y61.To<=2147483647)))&&(decide (y61.From<=y61.To))) (IF (ij31==0) (Lb (wI (ij31+1)) ij25 true p y52 r) (IX y52.Reserved (wI (ij31 - 1)) λy64=>Lb (wI (ij31+1)) ij25 (decide (y64.To<y61.From)) p y52 r)) (Lb (wI (ij31+1)) ij25 false p y52 r)) (Ld (wI (ij25+1)) bj32 p r)):Lb ij31 ij25 bj32 p y52 r:=
 fJ hw<|KL 7 JG y52.Reserved<|KW 3 (KI 9 JG<|KD 5 [1,2]<|KT 2 4<|KT 1 4<|KT 1 6<|KW 1 (KW 3 (E1 23 [])<|KI 6 JG<|E1 16 [])<|E1 26 [])<|E1 12 []
theorem ng(ij29 ij25:Int)(bj30:b4e)(p:A5)(y52:I2)(r:b4e)(hw:ID (ij29<(y52.Items.length:Int)) (IX y52.Items ij29 λy65=>IF ((bj30&&(decide (y65.Num<=2147483647)))&&((decide (0<ij29))||(y65.Num==0))) (∃y66,cB y52.Reserved y65.Num y66/\(Nl (wI (ij29+1)) ij25 (!y66) p y52 r)) (Nl (wI (ij29+1)) ij25 false p y52 r)) (Lb 0 ij25 bj30 p y52 r)):Nl ij29 ij25 bj30 p y52 r:=
 fJ hw<|KL 7 W1 y52.Items<|KW 3 (KI 9 W1 λ{y65}=>KT 8 3<|J6 1 7 (bj30&&(decide (y65.Num<=2147483647))) (λz=>aB (z&&((decide (0<ij29))||(y65.Num==0)))) (λkey=>KT 3 3<|E3 1 key) (λkey=>E3 7 key)<|KW 1 (KC 3<|KJ 12)<|KJ 16)<|KJ 12
theorem eU(ij25:Int)(bj26:b4e)(p:A5)(r:b4e)(hw:ID (ij25<(p.C3.length:Int)) (IX p.C3 ij25 λy52=>Nl 0 ij25 bj26 p y52 r) (r=bj26)):Ld ij25 bj26 p r:=
 fJ hw<|KL 7 L0 p.C3<|KW 3 (KI 9 L0<|KJ 13)<|KR 12
theorem lB(ij33 ij17:Int)(bj34:b4e)(p:A5)(r:b4e)(hw:IX p.A7 ij17 λy70=>ID (ij33<(y70.Ops.length:Int)) (IX p.A7 ij17 λy71=>IX y71.Ops ij33 λy72=>RJ (wI (ij33+1)) ij17 ((bj34&&(decide (1<=y72.Num)))&&(decide (y72.Num<=65535))) p r) (OB (wI (ij17+1)) bj34 p r)):RJ ij33 ij17 bj34 p r:=
 fJ hw<|KI 8 H8 λ{y70}=>KL 2 N2 y70.Ops<|KW 3 (KI 9 H8<|KI 3 N2<|KT 8 3<|KT 1 3<|KJ 10)<|KJ 12
theorem pS(ij17:Int)(bj18:b4e)(p:A5)(r:b4e)(hw:ID (ij17<(p.A7.length:Int)) (RJ 0 ij17 bj18 p r) (Ld 0 bj18 p r)):OB ij17 bj18 p r:=
 fJ hw<|KL 7 H8 p.A7<|KW 3 (KJ 11)<|KJ 13
theorem zo(p:A5)(r:b4e)(hw:OB 0 true p r):ZX p r:=
 fP hw<|KJ 19
def Mw(ij15:Int)(bj16:b4e)(ij13:Int)(p:A5)(r:b4e):Prop:=J Pg 22 (.ret (e22 r)) 23 [(8,aI ij15),(3,aB bj16),(7,aI ij13),(1,.ptr 0 0)] ⟨[some (C7 p)],[],[]⟩
def PP(ij13:Int)(bj14:b4e)(p:A5)(r:b4e):Prop:=J Pg 22 (.ret (e22 r)) 17 [(7,aI ij13),(3,aB bj14),(1,.ptr 0 0)] ⟨[some (C7 p)],[],[]⟩
def Jn(ij17:Int)(bj18:b4e)(ij9:Int)(p:A5)(r:b4e):Prop:=J Pg 22 (.ret (e22 r)) 10 [(5,aI ij17),(3,aB bj18),(4,aI ij9),(1,.ptr 0 0)] ⟨[some (C7 p)],[],[]⟩
def Ob(ij9:Int)(bj10:b4e)(p:A5)(r:b4e):Prop:=J Pg 22 (.ret (e22 r)) 4 [(4,aI ij9),(3,aB bj10),(1,.ptr 0 0)] ⟨[some (C7 p)],[],[]⟩
theorem jt(ij15:Int)(bj16:b4e)(ij13:Int)(p:A5)(r:b4e)(hw:IX p.A7 ij13 λy64=>ID (ij15<(y64.Ops.length:Int)) (IF bj16 (IX p.A7 ij13 λy66=>IX y66.Ops ij15 λy67=>∃y68,Zc p y67 y68/\(Mw (wI (ij15+1)) y68 ij13 p r)) (Mw (wI (ij15+1)) false ij13 p r)) (PP (wI (ij13+1)) bj16 p r)):Mw ij15 bj16 ij13 p r:=
 fJ hw<|KI 8 H8 λ{y64}=>KL 2 N2 y64.Ops<|KW 3 (KD 4 [0]<|KW 2 (KI 4 H8<|KI 3 N2<|KC 2<|KJ 11)<|KJ 23)<|KJ 12
theorem jJ(ij13:Int)(bj14:b4e)(p:A5)(r:b4e)(hw:ID (ij13<(p.A7.length:Int)) (JN (λbz5:b4e=>Mw 0 bz5 ij13 p r) λR5=>IF bj14 (IX p.A7 ij13 λy57=>∃y58,XG y57 y58/\(R5 y58)) (R5 false)) (r=bj14)):PP ij13 bj14 p r:=
 fJ hw<|KL 7 H8 p.A7<|KW 3 (KQ 8 7 kB (KJ 10) (λkey=>KI 3 H8<|KC 1<|KE 1 key) λkey=>KE 7 key)<|KR 12
theorem qG(ij17:Int)(bj18:b4e)(ij9:Int)(p:A5)(r:b4e)(hw:IX p.C3 ij9 λy79=>ID (ij17<(y79.Items.length:Int)) (IX p.C3 ij9 λy80=>IX y80.Items ij17 λy81=>IF bj18 (IF ((y81.Notes.length:Int)==0) (Jn (wI (ij17+1)) true ij9 p r) (JN (λbz8:b4e=>IF bz8 (∃y86,XZ y81.Notes 4 y86/\(Jn (wI (ij17+1)) (y86==0) ij9 p r)) (Jn (wI (ij17+1)) false ij9 p r)) λR8=>IF ((y81.Notes.length:Int)==1) (IX y81.Notes (0:Int) λy85=>R8 (decide (y85.Name=(⟨#[97,108,105,97,115]⟩:b4b)))) (R8 false))) (Jn (wI (ij17+1)) false ij9 p r)) (Ob (wI (ij9+1)) bj18 p r)):Jn ij17 bj18 ij9 p r:=
 fJ hw<|KI 8 L0 λ{y79}=>KL 2 W1 y79.Items<|KW 3 (KI 9 L0<|KI 3 W1 λ{y81}=>KW 8 (KL 1 CQ y81.Notes<|KW 2 (KJ 27)<|KL 1 CQ y81.Notes<|KQ 2 6 kB (KW 1 (KC 1<|KJ 14)<|KJ 16) (λkey=>KI 1 CQ<|KE 4 key) λkey=>KE 6 key)<|KJ 31)<|KJ 12
theorem fO(ij9:Int)(bj10:b4e)(p:A5)(r:b4e)(hw:ID (ij9<(p.C3.length:Int)) (JN (λbz6:b4e=>Jn 0 bz6 ij9 p r) λR6=>IF bj10 (IX p.C3 ij9 λy70=>R6 ((y70.Notes.length:Int)==0)) (R6 false)) (PP 0 bj10 p r)):Ob ij9 bj10 p r:=
 fJ hw<|KL 7 L0 p.C3<|KW 3 (KQ 8 9 kB (KJ 10) (λkey=>KI 3 L0 λ{y70}=>KL 2 CQ y70.Notes<|KE 2 key) λkey=>KE 9 key)<|KJ 13
theorem a0l(p:A5)(r:b4e)(hw:Ob 0 true p r):ct p r:=
 fP hw<|KJ 19
def Kv(ij16:Int)(bj17:b4e)(ij13:Int)(bj15:b4e)(ij8:Int)(p:A5)(lj14:b4c b4e)(r:b4e):Prop:=J Pg 23 (.ret (e23 r)) 18 [(7,aI ij16),(6,aB bj17),(5,aI ij13),(4,aB bj15),(20,aI ij8),(19,aI (p.A7.length:Int)),(3,.row 1 0 1 (p.A7.length:Int).toNat (p.A7.length:Int).toNat),(1,.ptr 0 0)] ⟨[some (C7 p),some (cellsOf BL lj14)],[],[]⟩
def Ny(ij13:Int)(bj15:b4e)(ij8:Int)(p:A5)(lj14:b4c b4e)(r:b4e):Prop:=J Pg 23 (.ret (e23 r)) 11 [(5,aI ij13),(4,aB bj15),(20,aI ij8),(19,aI (p.A7.length:Int)),(3,.row 1 0 1 (p.A7.length:Int).toNat (p.A7.length:Int).toNat),(1,.ptr 0 0)] ⟨[some (C7 p),some (cellsOf BL lj14)],[],[]⟩
def Ol(ij8:Int)(p:A5)(bj9:b4e)(lj10:b4c b4e)(r:b4e):Prop:=J Pg 23 (.ret (e23 r)) 5 [(20,aI ij8),(19,aI (p.A7.length:Int)),(4,aB bj9),(3,.row 1 0 1 (p.A7.length:Int).toNat (p.A7.length:Int).toNat),(1,.ptr 0 0)] ⟨[some (C7 p),some (cellsOf BL lj10)],[],[]⟩
theorem kh(ij16:Int)(bj17:b4e)(ij13:Int)(bj15:b4e)(ij8:Int)(p:A5)(lj14:b4c b4e)(r:b4e)(hw:IX p.A7 ij13 λy29=>ID (ij16<(y29.Ops.length:Int)) (IX p.A7 ij13 λy30=>IX y30.Ops ij16 λy31=>IF bj17 (IF ((y31.D6 !=1)||(y31.Kind !=10)) (Kv (wI (ij16+1)) true ij13 bj15 ij8 p lj14 r) ((0<=y31.Target/\y31.Target<((p.A7.length:Int).toNat:Int))/\(∃y32,lj14[y31.Target.toNat]? =some y32/\(Kv (wI (ij16+1)) y32 ij13 bj15 ij8 p lj14 r)))) (Kv (wI (ij16+1)) false ij13 bj15 ij8 p lj14 r)) ((0<=ij13/\ij13<((p.A7.length:Int).toNat:Int))/\(ij13.toNat<lj14.length/\(Ny (wI (ij13+1)) (bj15&&bj17) ij8 p (lj14.set ij13.toNat bj17) r)))):Kv ij16 bj17 ij13 bj15 ij8 p lj14 r:=
 fJ hw<|KI 8 H8 λ{y29}=>KL 2 N2 y29.Ops<|KW 3 (KI 9 H8<|KI 3 N2<|KW 8 (KT 4 4<|KW 1 (E1 17 [])<|H2 3 1<|KR1 0 ZC 0<|E1 12 [])<|E1 26 [])<|H2 10 1<|BA 0 ZC bj17<|KT 5 2<|KJ 10
theorem gX(ij13:Int)(bj15:b4e)(ij8:Int)(p:A5)(lj14:b4c b4e)(r:b4e)(hw:ID (ij13<(p.A7.length:Int)) (Kv 0 true ij13 bj15 ij8 p lj14 r) (Ol (wI (ij8+1)) p bj15 lj14 r)):Ny ij13 bj15 ij8 p lj14 r:=
 fJ hw<|KL 7 H8 p.A7<|KW 3 (KJ 17)<|KJ 11
theorem lU(ij8:Int)(p:A5)(bj9:b4e)(lj10:b4c b4e)(r:b4e)(hw:ID (ij8<(p.A7.length:Int)) (Ny 0 true ij8 p lj10 r) (r=bj9)):Ol ij8 p bj9 lj10 r:=
 fJ hw<|KW 7 (KJ 16)<|KR 12
theorem vI(p:A5)(r:b4e)(hw:(0<=(p.A7.length:Int)/\(p.A7.length:Int)<=(p.A7.length:Int)/\(p.A7.length:Int)*1<=140737488355328)/\(Ol 0 p ((p.A7.length:Int)==0) (List.replicate (p.A7.length:Int).toNat false) r)):Yd p r:=
 fP hw<|KL 10 H8 p.A7<|KM 0 ZC false<|KL 7 H8 p.A7<|KL 9 H8 p.A7<|KJ 5
theorem Ux(mg:Int)(p:A5)(name:b4b)(v:A0)(r:(b4d G3) × Int)(hw:∃y1,ZY p name y1/\(IF (!y1.2) (r=((none:b4d G3),10)) (∃y2,cQ p y1.1 v y2/\(IF (y2 !=0) (r=((none:b4d G3),y2)) (∃y3,FZ v y3/\(IF y3 (r=((none:b4d G3),18)) (∃y4,Jj p y1.1 v y4/\(∃y5,Vu mg (⟨p,[]⟩:G3) y1.1 y4 y5/\(r=((some y5),0)))))))))):Tz mg p name v r:=
 fP hw<|KC 12<|KW 14 (KR 8)<|KC 8<|KW 9 (KR 9)<|KC 6<|KW 2 (KR 8)<|KC 17<|KIN 0 2 1 qg λ{y5}=>KNb 9 2 2<|Kb 0 2 [true,true,false] 1 [(7,aI 0),(6,.D3 [.sl (List.map H6 y5.p.A7) .no,.sl (List.map U9 y5.p.C3) .no,.sl (List.map BQ y5.parts) .no] 0)] [some (C7 p),some (C4 v),none]<|KR 1
def MU(sj8:b4b)(ij10 ij4:Int)(w:G3)(ij9:Int)(lj5:b4c Int)(lj6:b4c b4b)(r:(b4c b4b) × (b4c Int)):Prop:=J Pg 27 (.ret (e27 r)) 13 [(10,aS sj8),(9,aI ij10),(19,aI ij4),(18,aI (w.parts.length:Int)),(17,.sl (List.map BQ w.parts) .no),(6,aI ij9),(5,.sl (List.map W0 lj5) (.own 0)),(4,.sl (List.map K8 lj6) (.own 1))] ⟨[],[(lj5.length,1),(lj6.length,1)],[]⟩
def TJ(ij4:Int)(w:G3)(ij7:Int)(lj5:b4c Int)(lj6:b4c b4b)(r:(b4c b4b) × (b4c Int)):Prop:=J Pg 27 (.ret (e27 r)) 6 [(19,aI ij4),(18,aI (w.parts.length:Int)),(17,.sl (List.map BQ w.parts) .no),(6,aI ij7),(5,.sl (List.map W0 lj5) (.own 0)),(4,.sl (List.map K8 lj6) (.own 1))] ⟨[],[(lj5.length,1),(lj6.length,1)],[]⟩
theorem a8x(sj8:b4b)(ij10 ij4:Int)(w:G3)(ij9:Int)(lj5:b4c Int)(lj6:b4c b4b)(r:(b4c b4b) × (b4c Int))(hw:(lj6.length+[sj8].length)*16<=140737488355328/\((lj5.length+[ij10].length)*8<=140737488355328/\(TJ (wI (ij4+1)) w ij9 (lj5++[ij10]) (lj6++[sj8]) r))):MU sj8 ij10 ij4 w ij9 lj5 lj6 r:=
 fJ hw<|KA 4 O4 mE<|KA 3 TC mE<|KJ 10
theorem iT(ij4:Int)(w:G3)(ij7:Int)(lj5:b4c Int)(lj6:b4c b4b)(r:(b4c b4b) × (b4c Int))(hw:ID (ij4<(w.parts.length:Int)) (IX w.parts ij4 λy5=>(∀y6,y5=E5.EC y6->CT y6.name (⟨#[58,32]⟩:b4b) (CT (y6.name++(⟨#[58,32]⟩:b4b)) y6.val (MU ((y6.name++(⟨#[58,32]⟩:b4b))++y6.val) ij7 ij4 w ij7 lj5 lj6 r)))/\((∀y6,y5≠E5.EC y6)->(∀y7,y5=E5.Dy y7->CT y7.name (⟨#[32,123]⟩:b4b) (MU (y7.name++(⟨#[32,123]⟩:b4b)) ij7 ij4 w (wI (ij7+1)) lj5 lj6 r))/\((∀y7,y5≠E5.Dy y7)->(∀y8,y5=E5.Dx y8->MU (⟨#[125]⟩:b4b) (wI (ij7 - 1)) ij4 w (wI (ij7 - 1)) lj5 lj6 r)/\((∀y8,y5≠E5.Dx y8)->MU (⟨#[125]⟩:b4b) ij7 ij4 w ij7 lj5 lj6 r)))) (r=(lj6,lj5))):TJ ij4 w ij7 lj5 lj6 r:=
 fJ hw<|KW 7 (KI 6 Oi<|a7w 24 (I8 14<|I8 2<|E1 4 [])<|a8i 7 (I8 15<|E1 10 [])<|a6r 7 (E1 24 [])<|KJ 8)<|KR 14
theorem tQ(w:G3)(r:(b4c b4b) × (b4c Int))(hw:TJ 0 w 0 ([]:b4c Int) ([]:b4c b4b) r):Nj w r:=
 fP hw<|KL 28 Oi w.parts<|KO 5 5 1<|KO 0 4 1<|KJ 0
def OQ(ij9:Int)(y1:Int × Int)(sj10 r:b4b):Prop:=J Pg 29 (.ret (e29 r)) 42 [(9,.ptr 0 0),(8,aI ij9),(7,aI (wI y1.2))] ⟨[some [.ps 0 68,.bb (.own 0) (bE sj10) 5]],[(sj10.size,1)],[]⟩
def Uf(ij9:Int)(y1:Int × Int)(s r:b4b):Prop:=JP Pg 29 (e29 r) 34 [(8,aI ij9),(7,aI (wI y1.2)),(0,aS s)]
def WV(ij12:Int)(y1:Int × Int)(s r:b4b):Prop:=JP Pg 29 (e29 r) 34 [(8,aI ij12),(7,aI (wI y1.2)),(0,aS s)]
def MQ(bj7:b4e)(y1:Int × Int)(s r:b4b):Prop:=JP Pg 29 (e29 r) 18 [(43,aB bj7),(7,aI (wI y1.2)),(0,aS s)]
theorem gf(ij9:Int)(y1:Int × Int)(sj10 r:b4b)(hw:ID (((bE sj10).length:Int)<(wI y1.2)) (sj10.size<=140737488355328/\(SS sj10 (0:Int) (min (min (wI ((wI y1.2) - ((bE sj10).length:Int))) ((bE sj10).length:Int)) ij9) (sj10.size+(sj10.extract (0:Int).toNat (min (min (wI ((wI y1.2) - ((bE sj10).length:Int))) ((bE sj10).length:Int)) ij9).toNat).size<=140737488355328/\(OQ ij9 y1 (sj10++(sj10.extract (0:Int).toNat (min (min (wI ((wI y1.2) - ((bE sj10).length:Int))) ((bE sj10).length:Int)) ij9).toNat)) r)))) (sj10.size<=140737488355328/\(r=sj10))):OQ ij9 y1 sj10 r:=
 fJ hw<|W7 4 66<|V2 16<|KW 4 (W7 6 66<|V2 16<|W7 1 66<|V2 16<|W7 6 31<|KD 6 [0]<|QK 11<|V2 4<|BF 1<|W7 0 28<|Cn 9 Bv<|Dw 10<|V2 14<|KJ 3)<|W7 7 31<|KD 6 [0]<|QK 11<|V2 4<|KR 4
theorem a55(ij9:Int)(y1:Int × Int)(s r:b4b)(hw:ID ((wI y1.2)<0) (False) (ID (0<(wI y1.2)) ((0<(wI (0+(wI y1.2)))/\(wI (0+(wI y1.2)))<=140737488355328)/\((⟨#[]⟩:b4b).size+s.size<=140737488355328/\(OQ ij9 y1 ((⟨#[]⟩:b4b)++s) r))) ((⟨#[]⟩:b4b).size+s.size<=140737488355328/\(OQ ij9 y1 ((⟨#[]⟩:b4b)++s) r)))):Uf ij9 y1 s r:=
 fJ hw<|W7 8 65<|Cn 3 Bv<|KW 9 (kF)<|KD 3 [0]<|KW 16 (W7 3 131<|KD 1 [0]<|qu 8<|V2 27<|V2 1<|W7 5 28<|Cn 9 Bv<|Dw 10<|V2 14<|KJ 5)<|V2 1<|WD 3 0<|W7 2 28<|Cn 9 Bv<|Dw 10<|V2 14<|KJ 5
theorem aR(bj7:b4e)(y1:Int × Int)(s r:b4b)(hw:IF bj7 (JN (λbz6:b4e=>IF bz6 (SS (bR 128 32) (0:Int) (wI y1.2) (r=((bR 128 32).extract (0:Int).toNat (wI y1.2).toNat))) (JN (λbz7:b4e=>IF bz7 (SS (bR 128 45) (0:Int) (wI y1.2) (r=((bR 128 45).extract (0:Int).toNat (wI y1.2).toNat))) (JN (λbz8:b4e=>IF bz8 (SS (bR 64 48) (0:Int) (wI y1.2) (r=((bR 64 48).extract (0:Int).toNat (wI y1.2).toNat))) (JN (λbz9:b4e=>IF bz9 (SS (bR 128 61) (0:Int) (wI y1.2) (r=((bR 128 61).extract (0:Int).toNat (wI y1.2).toNat))) (JN (λbz10:b4e=>IF bz10 (SS (bR 64 9) (0:Int) (wI y1.2) (r=((bR 64 9).extract (0:Int).toNat (wI y1.2).toNat))) (ID (8192<(wI y1.2)) ((s.size:Int)≠0/\(IF ((wI ((wI ((8192:Int).tdiv (s.size:Int)))*(s.size:Int)))==0) (Uf (s.size:Int) y1 s r) (Uf (wI ((wI ((8192:Int).tdiv (s.size:Int)))*(s.size:Int))) y1 s r))) (Uf (wI y1.2) y1 s r))) λR10=>ID ((wI y1.2)<=64) (∃y11,FK (bR 64 9) s y11/\(R10 y11)) (R10 false))) λR9=>ID ((wI y1.2)<=128) (∃y10,FK (bR 128 61) s y10/\(R9 y10)) (R9 false))) λR8=>ID ((wI y1.2)<=64) (∃y9,FK (bR 64 48) s y9/\(R8 y9)) (R8 false))) λR7=>ID ((wI y1.2)<=128) (∃y8,FK (bR 128 45) s y8/\(R7 y8)) (R7 false))) λR6=>ID ((wI y1.2)<=128) (∃y7,FK (bR 128 32) s y7/\(R6 y7)) (R6 false)) (ID (8192<(wI y1.2)) ((s.size:Int)≠0/\(IF ((wI ((wI ((8192:Int).tdiv (s.size:Int)))*(s.size:Int)))==0) (WV (s.size:Int) y1 s r) (WV (wI ((wI ((8192:Int).tdiv (s.size:Int)))*(s.size:Int))) y1 s r))) (WV (wI y1.2) y1 s r))):MQ bj7 y1 s r:=
 fJ hw<|KW 0 (KQ 6 3 kB (KW 3 (BF 3<|KR 7)<|KQ 5 3 kB (KW 3 (BF 3<|KR 7)<|KQ 5 3 kB (KW 3 (BF 3<|KR 7)<|KQ 5 3 kB (KW 3 (BF 3<|KR 7)<|KQ 5 3 kB (KW 3 (BF 3<|KR 7)<|KW 17 (KB 4<|KW 12 (KJ 6)<|KJ 2)<|KJ 2) (λkey=>KC 1<|KE 1 key) λkey=>KE 3 key) (λkey=>KC 1<|KE 1 key) λkey=>KE 3 key) (λkey=>KC 1<|KE 1 key) λkey=>KE 3 key) (λkey=>KC 1<|KE 1 key) λkey=>KE 3 key) (λkey=>KC 1<|KE 1 key) λkey=>KE 3 key)<|KW 16 (KB 4<|KW 12 (KJ 6)<|KJ 2)<|KJ 2
theorem Wt(s:b4b)(count:Int)(r:b4b)(hw:IF (count==0) (r=(⟨#[]⟩:b4b)) (IF (count==1) (r=s) (ID (count<0) (False) (∃y1,Oy (wU (s.size:Int)) (wU count) y1/\(IF ((decide (0<y1.1))||(decide (9223372036854775807<y1.2))) (False) (IF ((s.size:Int)==0) (r=(⟨#[]⟩:b4b)) (SI s (0:Int) (IF ((E2 s (0:Int).toNat)==32) (MQ ((E2 s (0:Int).toNat)==32) y1 s r) (IF ((E2 s (0:Int).toNat)==45) (MQ ((E2 s (0:Int).toNat)==45) y1 s r) (IF ((E2 s (0:Int).toNat)==48) (MQ ((E2 s (0:Int).toNat)==48) y1 s r) (IF ((E2 s (0:Int).toNat)==61) (MQ ((E2 s (0:Int).toNat)==61) y1 s r) (MQ ((E2 s (0:Int).toNat)==9) y1 s r)))))))))))):MT s count r:=
 fP hw<|KW 18 (KR 8)<|KW 6 (KR 9)<|KW 10 (kF)<|KC 9<|KT 13 3<|KW 2 (kF)<|KW 17 (KR 7)<|Z2 6<|KW 10 (KJ 2)<|KW 6 (KJ 2)<|KW 6 (KJ 2)<|KW 6 (KJ 2)<|KJ 5
theorem o3(s:b4b)(r:b4b × Int)(hw:ID (262144<(s.size:Int)) (r=((⟨#[]⟩:b4b),3)) (r=(s,0))):Tx s r:=
 fP hw<|KW 14 (KR 8)<|KR 10
theorem SM(p:A5)(name:b4b)(v:A0)(r:(b4c b4b) × Int)(hw:∃y1,ZK p name y1/\(IF (!y1.2) (r=(([]:(b4c b4b)),10)) (∃y2,Xw p y1.1 v y2/\(IF (y2 !=0) (r=(([]:(b4c b4b)),y2)) (∃y3,Ff v y3/\(IF y3 (r=(([]:(b4c b4b)),18)) (∃y4,MI p y1.1 v y4/\(∃y5,Vr p y1.1 y4 y5/\(r=(y5,0)))))))))):Tq p name v r:=
 fP hw<|KC 12<|KW 14 (KR 8)<|KC 7<|KW 10 (KR 9)<|KC 6<|KW 2 (KR 8)<|KD 3 [0,1]<|KC 5<|KC 1<|KR 5
end
section
attribute [local irreducible] Ok run put N0 br jn pos Fo Eu So
attribute [-simp] List.map_take List.map_drop List.map_append List.map_set List.map_replicate List.map_cons List.map_map
attribute [local simp] plain B7 X3 Q5 I0 low D4 H7 Q4 S8 S7 P8 P6 Q9 S4 R0 S6 P9 S0 S5 U5 P5 T6 T1 U1 T5 U8 T0 V1 T9 U7 T8 V0 V3 W3 W5 X1 X6 Y7 Y5 Z9 AS AO Ae Ak Au Ar BP BO Bj Bd Bw Bu CY Cg Cw DP DH Df Ef Em EN EU Ei W0 BI EX EY CB BL K8 Ev IY Ge Gm He IV Ia IZ IK Gy Hi GM GC Hj Ib IS Hb HC Gd GV Hs Ic Hg Gj GT HB HU Hr Hx HT Gz GL Ie GY HZ Gl IU GN IG Ht Gk Gn Gv HH HJ Ga Hp GU IW Ij GS IJ IA IR Gg Hu Hn GP Gw GW IM HQ HG Gt Gc Gr Hq IP HI Gq If IE GO Hy Hc Hd GK GX HS Hm GH GR HL Jf
def Lo(ij12:Int)(elems:b4c b4b)(sep sj13 r:b4b):Prop:=J Pg 33 (.ret (e33 r)) 26 [(65,aI ij12),(64,aI (((elems.take (elems.length:Int).toNat).drop (1:Int).toNat).length:Int)),(63,.sl (List.map K8 ((elems.take (elems.length:Int).toNat).drop (1:Int).toNat)) .no),(8,.ptr 0 0),(1,aS sep)] ⟨[some [.ps 0 68,.bb (.own 0) (bE sj13) 5]],[(sj13.size,1)],[]⟩
def SP(ij10:Int)(elems:b4c b4b)(ij11:Int)(sep r:b4b):Prop:=JP Pg 33 (e33 r) 14 [(41,aI ij10),(40,aI (elems.length:Int)),(39,.sl (List.map K8 elems) .no),(5,aI ij11),(0,.sl (List.map K8 elems) .no),(1,aS sep)]
def Zh(ij7:Int)(elems:b4c b4b)(sep r:b4b):Prop:=JP Pg 33 (e33 r) 8 [(5,aI ij7),(0,.sl (List.map K8 elems) .no),(1,aS sep)]
theorem jA(ij12:Int)(elems:b4c b4b)(sep sj13 r:b4b)(hw:ID (ij12<(((elems.take (elems.length:Int).toNat).drop (1:Int).toNat).length:Int)) (IX ((elems.take (elems.length:Int).toNat).drop (1:Int).toNat) ij12 λy19=>sj13.size+sep.size<=140737488355328/\((sj13++sep).size+y19.size<=140737488355328/\(Lo (wI (ij12+1)) elems sep ((sj13++sep)++y19) r))) (sj13.size<=140737488355328/\(r=sj13))):Lo ij12 elems sep sj13 r:=
 fJ hw<|KW 7 (KI 6 O4<|W7 7 28<|Cn 9 Bv<|Dw 10<|V2 14<|W7 4 28<|Cn 9 Bv<|Dw 10<|V2 14<|KJ 8)<|W7 7 31<|KD 6 [0]<|QK 11<|V2 4<|KR 4
theorem oS(ij10:Int)(elems:b4c b4b)(ij11:Int)(sep r:b4b)(hw:ID (ij10<(elems.length:Int)) (IX elems ij10 λy21=>ID ((wI (9223372036854775807 - ij11))<(y21.size:Int)) (False) (SP (wI (ij10+1)) elems (wI (ij11+(y21.size:Int))) sep r)) (ID (ij11<0) (False) (ID (0<ij11) ((0<(wI (0+ij11))/\(wI (0+ij11))<=140737488355328)/\(IX elems (0:Int) λy17=>(⟨#[]⟩:b4b).size+y17.size<=140737488355328/\((0<=(1:Int)/\(1:Int)<=(elems.length:Int)/\(elems.length:Int)<=(elems.length:Int))/\(Lo 0 elems sep ((⟨#[]⟩:b4b)++y17) r)))) (IX elems (0:Int) λy20=>(⟨#[]⟩:b4b).size+y20.size<=140737488355328/\((0<=(1:Int)/\(1:Int)<=(elems.length:Int)/\(elems.length:Int)<=(elems.length:Int))/\(Lo 0 elems sep ((⟨#[]⟩:b4b)++y20) r)))))):SP ij10 elems ij11 sep r:=
 fJ hw<|KW 7 (KI 6 O4<|KW 14 (kF)<|KJ 16)<|W7 13 65<|Cn 3 Bv<|KW 9 (kF)<|KD 3 [0]<|KW 16 (W7 3 131<|KD 1 [0]<|qu 8<|V2 27<|V2 1<|KI 5 O4<|W7 1 28<|Cn 9 Bv<|Dw 10<|V2 14<|ED 6 O4<|KL 0 O4 ((elems.take (elems.length:Int).toNat).drop (1:Int).toNat)<|KJ 5)<|V2 1<|WD 3 0<|KI 2 O4<|W7 1 28<|Cn 9 Bv<|Dw 10<|V2 14<|ED 6 O4<|KL 0 O4 ((elems.take (elems.length:Int).toNat).drop (1:Int).toNat)<|KJ 5
theorem a6m(ij7:Int)(elems:b4c b4b)(sep r:b4b)(hw:SP 0 elems ij7 sep r):Zh ij7 elems sep r:=
 fJ hw<|KL 4 O4 elems<|KJ 5
theorem b2r(elems:b4c b4b)(sep r:b4b)(hw:IF ((elems.length:Int)==0) (r=(⟨#[]⟩:b4b)) (IF ((elems.length:Int)==1) (IX elems (0:Int) λy1=>r=y1) (ID (0<(sep.size:Int)) ((wI ((elems.length:Int) - 1))≠0/\(ID ((wI ((9223372036854775807:Int).tdiv (wI ((elems.length:Int) - 1))))<=(sep.size:Int)) (False) (Zh (wI (0+(wI ((sep.size:Int)*(wI ((elems.length:Int) - 1)))))) elems sep r))) (Zh 0 elems sep r)))):Xq elems sep r:=
 fP hw<|KL 9 O4 elems<|KW 9 (KR 8)<|KW 6 (KI 3 O4<|KR 7)<|KW 16 (KL 6 O4 elems<|KB 1<|KW 3 (kF)<|KL 7 O4 elems<|KJ 6)<|KJ 2
def RU(sj1 r:b4b):Prop:=JP Pg 34 (e34 r) 2 [(0,aS sj1)]
theorem oL(sj1 r:b4b)(hw:IF (!(decide (sj1=(⟨#[]⟩:b4b)))) (SI sj1 (0:Int) (IF ((E2 sj1 (0:Int).toNat)==32) (SS sj1 (1:Int) (sj1.size:Int) (RU (sj1.extract (1:Int).toNat (sj1.size:Int).toNat) r)) (r=sj1))) (r=sj1)):RU sj1 r:=
 fJ hw<|KW 7 (Z2 1<|KW 4 (BF 5<|KJ 4)<|KR 12)<|KR 19
theorem vr(s r:b4b)(hw:RU s r):Zq s r:=
 fP hw<|KJ 8
theorem Pm(kind:Int)(r:b4e)(hw:r=((decide (1<=kind))&&(decide (kind<=9)))):LT kind r:=
 fP hw<|KT 10 3<|KR 4
theorem yK(kind:Int)(v:A0)(r:b4e)(hw:∃y1,LT kind y1/\(JN (λbz1:b4e=>JN (λbz2:b4e=>IF (bz2||(decide (4096<(v.Text.size:Int)))) (r=false) (IF (kind !=7) (r=true) (∃y4,UQ v.Text y4/\(r=y4)))) λR2=>IF bz1 (R2 true) (∃y3,Xv kind v.Bits y3/\(R2 (!y3)))) λR1=>IF ((!y1)||(v.Kind !=kind)) (R1 true) (∃y2,Sw v y2/\(R1 (!y2))))):NF kind v r:=
 fP hw<|KC 10<|KT 2 5<|KQ 1 4 kB (KQ 1 6 kB (KT 1 5<|KW 2 (KR 7)<|KW 7 (KR 8)<|KC 2<|KR 5) (λkey=>KE 6 key) λkey=>KC 3<|KE 2 key) (λkey=>KE 4 key) λkey=>KC 1<|KE 2 key
def Vl(bj1:b4e)(v:A0)(mg:Int)(r:b4b):Prop:=J Pg 37 (.ret (e37 r)) 8 [(16,aB bj1),(9,aI v.Kind),(1,.ptr 0 0)] ⟨[some (C4 v)],[],O6 mg⟩
theorem xJ(bj1:b4e)(v:A0)(mg:Int)(r:b4b)(hw:IF bj1 (∃y9,strconv_Itoa mg (wI v.Bits) y9/\(r=y9)) (IF (v.Kind==6) (∃y10,dU mg v.Bits y10/\(r=y10)) (IF (v.Kind==7) (∃y11,SC v.Text y11/\(r=y11)) (IF (v.Kind==8) (∃y12,Ym v.Text y12/\(∃y13,SC y12 y13/\(CT (⟨#[120]⟩:b4b) y13 (r=((⟨#[120]⟩:b4b)++y13))))) (∃y14,Up mg v.Bits 10 y14/\(r=y14)))))):Vl bj1 v mg r:=
 fJ hw<|KW 0 (BW 5<|KR 6)<|KW 6 (BW 4<|KR 6)<|KW 6 (KC 4<|KR 6)<|KW 6 (KC 4<|KC 0<|I8 0<|KR 6)<|BW 7<|KR 4
theorem a9e(mg:Int)(v:A0)(r:b4b)(hw:∃y1,NF v.Kind v y1/\(IF (!y1) (r=(⟨#[]⟩:b4b)) (IF (v.Kind==1) (∃y2,XX (v.Bits==1) y2/\(r=y2)) (IF (v.Kind==2) (Vl (v.Kind==2) v mg r) (Vl (v.Kind==3) v mg r))))):OW mg v r:=
 fP hw<|KC 12<|KW 3 (KR 7)<|KW 16 (KC 5<|KR 6)<|KW 7 (KJ 2)<|KJ 5
def Ss(ij1:Int)(y1:I2)(num:Int)(r:O5 × b4e):Prop:=J Pg 38 (.ret (e38 r)) 6 [(27,aI ij1),(26,aI (y1.Items.length:Int)),(25,.sl (List.map V7 y1.Items) .no),(6,.ptr 1 0),(2,aU num)] ⟨[none,some [aE,aI 0,.nil]],[],[]⟩
theorem km(ij1:Int)(y1:I2)(num:Int)(r:O5 × b4e)(hw:ID (ij1<(y1.Items.length:Int)) (IX y1.Items ij1 λy3=>IF ((decide (0<=y3.Num))&&((wU y3.Num)==num)) (r=(y3,true)) (Ss (wI (ij1+1)) y1 num r)) (r=((⟨⟨#[]⟩,0,[]⟩:O5),false))):Ss ij1 y1 num r:=
 fJ hw<|KW 7 (KI 6 W1<|KT 11 6<|KW 2 (KR 13)<|E1 8 [])<|KR 13
theorem ya(p:A5)(enum num:Int)(r:O5 × b4e)(hw:IF ((decide (enum<0))||(decide ((p.C3.length:Int)<=enum))) (r=((⟨⟨#[]⟩,0,[]⟩:O5),false)) (IX p.C3 enum λy1=>Ss 0 y1 num r)):am p enum num r:=
 fP hw<|J6 13 6 (decide (enum<0)) (λz=>aB (z||(decide ((p.C3.length:Int)<=enum)))) (λkey=>E3 6 key) (λkey=>KL 3 L0 p.C3<|E3 2 key)<|KW 2 (KR 9)<|KI 8 L0 λ{y1}=>KL 2 W1 y1.Items<|E1 5 []
theorem a8w(p:A5)(enum num:Int)(r:b4e)(hw:IF (((decide (enum<0))||(decide ((p.C3.length:Int)<=enum)))||(decide (2147483647<num))) (r=false) (IX p.C3 enum λy1=>IF y1.Open (r=true) (∃y2,mI y1.Items (⟨87,[],[.D3 [aU num] 0],by simp⟩:B3) y2/\(r=y2)))):Si p enum num r:=
 fP hw<|J6 13 6 (decide (enum<0)) (λz=>aB (z||(decide ((p.C3.length:Int)<=enum)))) (λkey=>E3 6 key) (λkey=>KL 3 L0 p.C3<|E3 2 key)<|KT 1 3<|KW 2 (KR 7)<|KI 7 L0 λ{y1}=>Kb 6 1 [true,false,true] 0 [(7,.ptr 2 0),(5,.D3 [aU num] 0)] [some (C7 p),none,some (U9 y1)]<|KW 4 (KR 9)<|KC 3<|KR 5
theorem lj(p:A5)(o_:B0)(r:I2 × b4e)(hw:IF ((decide (o_.Target<0))||(decide ((p.C3.length:Int)<=o_.Target))) (r=((⟨⟨#[]⟩,false,[],[],[]⟩:I2),false)) (IX p.C3 o_.Target λy1=>r=(y1,true))):XR p o_ r:=
 fP hw<|J6 15 7 (decide (o_.Target<0)) (λz=>aB (z||(decide ((p.C3.length:Int)<=o_.Target)))) (λkey=>E3 7 key) (λkey=>KL 4 L0 p.C3<|E3 2 key)<|KW 2 (KR 9)<|KI 8 L0<|KR 6
def Sv(ij1 bits:Int)(e_:I2)(r:b4b × b4e):Prop:=J Pg 45 (.ret (e45 r)) 3 [(6,aI ij1),(2,.ptr 0 0),(1,aU bits)] ⟨[some (U9 e_)],[],[]⟩
theorem oo(ij1 bits:Int)(e_:I2)(r:b4b × b4e)(hw:ID (ij1<(e_.Items.length:Int)) (IX e_.Items ij1 λy5=>JN (λbz2:b4e=>IF bz2 (IX e_.Items ij1 λy8=>r=(y8.Name,true)) (Sv (wI (ij1+1)) bits e_ r)) λR2=>ID (0<=y5.Num) (IX e_.Items ij1 λy7=>R2 ((wU y7.Num)==bits)) (R2 false)) (r=((⟨#[]⟩:b4b),false))):Sv ij1 bits e_ r:=
 fJ hw<|KL 7 W1 e_.Items<|KW 3 (KI 9 W1<|KQ 4 10 kB (KW 2 (KI 5 W1<|KR 12)<|KJ 9) (λkey=>KI 3 W1<|KE 6 key) λkey=>KE 10 key)<|KR 12
theorem a4e(e_:I2)(bits:Int)(r:b4b × b4e)(hw:Sv 0 bits e_ r):ZV e_ bits r:=
 fP hw<|KJ 15
def LD(ij1:Int)(s:b4b)(r:b4e):Prop:=JP Pg 46 (e46 r) 6 [(3,aI ij1),(0,aS s)]
theorem kS(ij1:Int)(s:b4b)(r:b4e)(hw:ID (ij1<(s.size:Int)) (SI s ij1 (∃y5,Ug (E2 s ij1.toNat) y5/\(JN (λbz6:b4e=>JN (λbz7:b4e=>IF bz7 (SI s ij1 (JN (λbz8:b4e=>IF bz8 (r=false) (LD (wI (ij1+1)) s r)) λR8=>ID ((E2 s ij1.toNat)<48) (R8 true) (SI s ij1 (R8 (decide (57<(E2 s ij1.toNat))))))) (LD (wI (ij1+1)) s r)) λR7=>IF bz6 (SI s ij1 (R7 ((E2 s ij1.toNat) !=95))) (R7 false)) λR6=>IF (!y5) (SI s ij1 (∃y6,TB (E2 s ij1.toNat) y6/\(R6 (!y6)))) (R6 false)))) (r=true)):LD ij1 s r:=
 fJ hw<|KW 10 (Z2 8<|KC 0<|KQ 2 6 kB (KQ 1 5 kB (KW 1 (Z2 2<|KQ 2 5 kB (KW 3 (KR 11)<|KJ 9) (λkey=>KE 5 key) λkey=>Z2 2<|KE 2 key)<|KJ 23) (λkey=>Z2 2<|KE 2 key) λkey=>KE 5 key) (λkey=>Z2 2<|KC 0<|KE 2 key) λkey=>KE 6 key)<|KR 11
theorem nJ(s:b4b)(r:b4e)(hw:JN (λbz1:b4e=>IF bz1 (r=false) (LD 1 s r)) λR1=>IF (((s.size:Int)==0)||(decide (40<(s.size:Int)))) (R1 true) (SI s (0:Int) (∃y1,Ug (E2 s (0:Int).toNat) y1/\(JN (λbz2:b4e=>R1 bz2) λR2=>IF (!y1) (SI s (0:Int) (∃y2,TB (E2 s (0:Int).toNat) y2/\(R2 (!y2)))) (R2 false))))):Ma s r:=
 fP hw<|KT 12 4<|KQ 1 11 kB (KW 2 (KR 7)<|KJ 10) (λkey=>KE 11 key) λkey=>Z2 1<|KC 0<|KQ 2 5 kB (KE 1 key) (λkey=>Z2 1<|KC 0<|KE 2 key) λkey=>KE 5 key
theorem a6n(kind:Int)(v:A0)(r:b4e)(hw:∃y1,Uo kind y1/\(JN (λbz1:b4e=>IF bz1 (r=false) (∃y3,LK kind y3/\(IF y3 (JN (λbz2:b4e=>r=bz2) λR2=>IF ((v.Bits==0)&&(decide ((v.Text.size:Int)<=4096))) (JN (λbz3:b4e=>R2 bz3) λR3=>IF (kind==8) (R3 true) (∃y4,My v.Text y4/\(R3 y4))) (R2 false)) (IF (!(decide (v.Text=(⟨#[]⟩:b4b)))) (r=false) (IF (kind==1) (r=(decide (v.Bits<=1))) (IF (kind==2) (r=((decide ((-2147483648)<=(wI v.Bits)))&&(decide ((wI v.Bits)<=2147483647)))) (IF (kind==4) (r=(decide (v.Bits<4294967296))) (IF (kind==9) (r=(decide (v.Bits<2147483648))) (r=true))))))))) λR1=>IF ((!y1)||(v.Kind !=kind)) (R1 true) (∃y2,Qm v y2/\(R1 (!y2))))):MD kind v r:=
 fP hw<|KC 10<|KT 2 5<|KQ 1 4 kB (KW 2 (KR 7)<|KC 6<|KW 2 (KT 6 5<|KQ 1 8 kB (KR 5) (λkey=>KQ 3 4 kB (KE 1 key) (λkey=>KE 4 key) λkey=>KC 2<|KE 1 key) λkey=>KE 8 key)<|KW 10 (KR 7)<|KW 15 (KR 11)<|KW 6 (KT 13 3<|KR 6)<|KW 6 (KR 11)<|KW 6 (KR 11)<|KR 9) (λkey=>KE 4 key) λkey=>KC 1<|KE 2 key
def Rn(bj1:b4e)(v:A0)(r:b4b):Prop:=J Pg 48 (.ret (e48 r)) 11 [(15,aB bj1),(9,aI v.Kind),(1,.ptr 0 0)] ⟨[some (C4 v)],[],[]⟩
theorem a83(bj1:b4e)(v:A0)(r:b4b)(hw:IF bj1 (ID (9223372036854775808<=v.Bits) (∃y10,LG (wU (0 - v.Bits)) y10/\(CT (⟨#[45]⟩:b4b) y10 (r=((⟨#[45]⟩:b4b)++y10)))) (∃y11,LG v.Bits y11/\(r=y11))) (IF (v.Kind==6) (∃y12,NR v.Bits y12/\(IF (y12==0) (r=(⟨#[110,97,110]⟩:b4b)) (IF (y12==1) (ID (9223372036854775808<=v.Bits) (r=(⟨#[45,105,110,102]⟩:b4b)) (r=(⟨#[105,110,102]⟩:b4b))) (∃y13,Yp v.Bits y13/\(CT (⟨#[48,120]⟩:b4b) y13 (r=((⟨#[48,120]⟩:b4b)++y13))))))) (IF (v.Kind==7) (∃y14,VD v.Text y14/\(r=y14)) (IF (v.Kind==8) (∃y15,Qg v.Text y15/\(∃y16,VD y15 y16/\(CT (⟨#[120]⟩:b4b) y16 (r=((⟨#[120]⟩:b4b)++y16))))) (∃y17,LG v.Bits y17/\(r=y17)))))):Rn bj1 v r:=
 fJ hw<|KW 0 (KW 8 (KC 5<|I8 0<|KR 7)<|KC 6<|KR 6)<|KW 6 (KC 5<|KW 9 (KR 10)<|KW 6 (KW 8 (KR 11)<|KR 12)<|KC 7<|I8 0<|KR 6)<|KW 6 (KC 4<|KR 6)<|KW 6 (KC 4<|KC 0<|I8 0<|KR 6)<|KC 7<|KR 4
theorem a1n(v:A0)(r:b4b)(hw:∃y1,MD v.Kind v y1/\(IF (!y1) (r=(⟨#[]⟩:b4b)) (IF (v.Kind==1) (IF (v.Bits==1) (r=(⟨#[116,114,117,101]⟩:b4b)) (r=(⟨#[102,97,108,115,101]⟩:b4b))) (IF (v.Kind==2) (Rn (v.Kind==2) v r) (Rn (v.Kind==3) v r))))):Ow v r:=
 fP hw<|KC 12<|KW 3 (KR 7)<|KW 16 (KW 8 (KR 9)<|KR 10)<|KW 7 (KJ 2)<|KJ 5
def Ra(sj1:b4b)(r:b4e):Prop:=JP Pg 49 (e49 r) 5 [(0,aS sj1)]
theorem fX(sj1:b4b)(r:b4e)(hw:IF (!(decide (sj1=(⟨#[]⟩:b4b)))) (∃y4,dG sj1 y4/\(∃y5,UT y4.2 y5/\(IF y5 (r=false) (Ra y4.1 r)))) (r=true)):Ra sj1 r:=
 fJ hw<|KW 8 (KC 6<|KC 11<|KW 2 (KR 11)<|KJ 8)<|KR 11
theorem b0g(s:b4b)(r:b4e)(hw:∃y1,Wg s y1/\(IF (!y1) (r=false) (Ra s r))):Qk s r:=
 fP hw<|KC 9<|KW 3 (KR 7)<|KJ 5
theorem a9y(s:b4b)(r:b4e)(hw:∃y1,Ma s y1/\(IF y1 (∃y2,UT s y2/\(r=(!y2))) (r=false))):SE s r:=
 fP hw<|KC 8<|KW 1 (KC 1<|KR 6)<|KR 8
def OA(ij1:Int)(l:b4c Ba)(n:Int)(r:b4e):Prop:=JP Pg 51 (e51 r) 3 [(5,aI ij1),(0,.sl (List.map Br l) .no),(1,aI n)]
theorem eF(ij1:Int)(l:b4c Ba)(n:Int)(r:b4e)(hw:ID (ij1<(l.length:Int)) (IX l ij1 λy4=>ID (y4.From<=n) (IX l ij1 λy6=>ID (n<=y6.To) (r=true) (OA (wI (ij1+1)) l n r)) (OA (wI (ij1+1)) l n r)) (r=false)):OA ij1 l n r:=
 fJ hw<|KL 6 JG l<|KW 3 (KI 8 JG<|KW 5 (KI 3 JG<|KW 6 (KR 11)<|KJ 9)<|KJ 20)<|KR 11
theorem a2i(l:b4c Ba)(n:Int)(r:b4e)(hw:OA 0 l n r):cB l n r:=
 fP hw<|KJ 13
def Pi(ij1:Int)(l:b4c Z5)(target r:Int):Prop:=JP Pg 52 (e52 r) 6 [(5,aI ij1),(0,.sl (List.map BR l) .no),(1,aI target)]
theorem pQ(ij1:Int)(l:b4c Z5)(target r:Int)(hw:ID (ij1<(l.length:Int)) (IX l ij1 λy7=>∃y8,Tk y7.Name y8/\(IF (y8==0) (r=8) (IX l ij1 λy9=>∃y10,Yi y9.Name target y10/\(IF (!y10) (r=1) (IX l ij1 λy11=>∃y12,bC y11 y12/\(IF (!y12) (r=12) (JN (λbz1:b4e=>IF bz1 (r=11) (ID (0<ij1) (IX l ij1 λy17=>IX l (wI (ij1 - 1)) λy18=>ID (y17.Name=y18.Name) (r=9) (Pi (wI (ij1+1)) l target r)) (Pi (wI (ij1+1)) l target r))) λR1=>ID (0<ij1) (IX l ij1 λy14=>IX l (wI (ij1 - 1)) λy15=>R1 (Op.bytesLess y14.Name.toList y15.Name.toList)) (R1 false)))))))) (r=0)):Pi ij1 l target r:=
 fJ hw<|KL 6 CQ l<|KW 3 (KI 9 CQ<|KC 2<|KW 3 (KR 12)<|KI 7 CQ<|KC 3<|KW 3 (KR 12)<|KI 7 CQ<|KC 1<|KW 3 (KR 12)<|KD 4 []<|KQ 3 14 kB (KW 2 (KR 12)<|KD 3 []<|KW 3 (KI 2 CQ<|KI 5 CQ<|KW 7 (KR 11)<|KJ 9)<|KJ 26) (λkey=>KI 2 CQ<|KI 5 CQ<|KE 5 key) λkey=>KE 14 key)<|KR 11
theorem b0z(l:b4c Z5)(target r:Int)(hw:ID (8<(l.length:Int)) (r=3) (Pi 0 l target r)):XZ l target r:=
 fP hw<|KL 9 CQ l<|KW 3 (KR 7)<|KJ 10
def LY(ij1 ij2:Int)(g:C2)(r:b4e):Prop:=J Pg 53 (.ret (e53 r)) 4 [(4,aI ij1),(3,aI ij2),(1,.ptr 0 0)] ⟨[some (H6 g)],[],[]⟩
theorem eG(ij1 ij2:Int)(g:C2)(r:b4e)(hw:ID (ij1<(g.Ops.length:Int)) (IX g.Ops ij1 λy2=>IF (y2.Union==ij2) (LY (wI (ij1+1)) (wI (ij2+1)) g r) (JN (λbz1:b4e=>IF bz1 (r=false) (LY (wI (ij1+1)) ij2 g r)) λR1=>IF (y2.Union !=(-1)) (IF (ij1==0) (R1 true) (IX g.Ops (wI (ij1 - 1)) λy5=>R1 (y5.Union !=y2.Union))) (R1 false))) (r=(g.de==ij2))):LY ij1 ij2 g r:=
 fJ hw<|KL 7 N2 g.Ops<|KW 3 (KI 9 N2<|KW 14 (KJ 14)<|KQ 5 14 kB (KW 3 (KR 12)<|KJ 10) (λkey=>KW 3 (KE 11 key)<|KI 4 N2<|KE 6 key) λkey=>KE 14 key)<|KR 15
theorem a0j(g:C2)(r:b4e)(hw:LY 0 0 g r):XG g r:=
 fP hw<|KJ 19
def RC(bj1:b4e)(p:A5)(o_:B0)(r:b4e):Prop:=J Pg 54 (.ret (e54 r)) 5 [(5,aB bj1),(3,.ptr 1 0),(2,.ptr 0 0)] ⟨[some (C7 p),some (E7 o_)],[],[]⟩
theorem rJ(bj1:b4e)(p:A5)(o_:B0)(r:b4e)(hw:JN (λbz2:b4e=>r=(bz2&&((o_.Union==(-1))||(o_.D6==2)))) λR2=>IF bj1 (∃y3,Xh p o_ y3/\(R2 y3)) (R2 false)):RC bj1 p o_ r:=
 fJ hw<|KQ 4 4 kB (λ{bz2}=>J6 1 9 bz2 (λz=>aB (z&&((o_.Union==(-1))||(o_.D6==2)))) (λkey=>KT 4 4<|E3 1 key) (λkey=>E3 9 key)<|KR 4) (λkey=>KC 2<|KE 1 key) λkey=>KE 4 key
theorem rF(p:A5)(o_:B0)(r:b4e)(hw:∃y1,My o_.Alias y1/\(IF ((((((!y1)||(decide (4096<(o_.Alias.size:Int))))||(decide (o_.D6<1)))||(decide (5<o_.D6)))||(decide (o_.Kind<1)))||(decide (10<o_.Kind))) (r=false) (IF (o_.D6 !=5) (RC (o_.Key==0) p o_ r) (RC (((decide (1<=o_.Key))&&(decide (o_.Key<=5)))||(o_.Key==7)) p o_ r)))):Zc p o_ r:=
 fP hw<|KC 12<|KT 2 5<|KT 1 4<|KT 1 4<|KT 1 4<|KT 1 4<|KW 2 (KR 7)<|KT 8 4<|KT 1 4<|KW 11 (KJ 7)<|KJ 2
theorem zq(p:A5)(name:b4b)(r:Int × b4e)(hw:∃y1,qB p.A7 (⟨115,[],[.D3 [aS name] 0],by simp⟩:B3) y1/\(r=((max y1 0),(decide (0<=y1))))):ZY p name r:=
 fP hw<|Kb 9 1 [true,false] 0 [(3,.D3 [aS name] 0),(2,.ptr 0 0)] [some (C7 p),none]<|KC 4<|KR 14
theorem a91(p:A5)(prog:Int)(v:A0)(r:Int)(hw:IF ((decide (prog<0))||(decide ((p.A7.length:Int)<=prog))) (r=10) (IX p.A7 prog λy1=>∃y2,MR (⟨p⟩:M6) y1 v 1 y2/\(IF (y2 !=0) (r=y2) (∃y3,Mx v y3/\(ID (4096<y3) (r=3) (r=0)))))):cQ p prog v r:=
 fP hw<|J6 13 6 (decide (prog<0)) (λz=>aB (z||(decide ((p.A7.length:Int)<=prog)))) (λkey=>E3 6 key) (λkey=>KL 3 H8 p.A7<|E3 2 key)<|KW 2 (KR 7)<|KD 4 [0,1]<|KI 5 H8<|KC 3<|KW 9 (KR 8)<|KC 6<|KW 3 (KR 7)<|KR 8
def aC(ij7:Int)(v:A0)(r:b4e):Prop:=JP Pg 59 (e59 r) 24 [(37,aI ij7),(36,aI (v.Slots.length:Int)),(35,.sl (List.map D2 v.Slots) .no)]
def bK(ij6:Int)(v:A0)(r:b4e):Prop:=J Pg 59 (.ret (e59 r)) 15 [(26,aI ij6),(25,aI (v.Pairs.length:Int)),(24,.sl (List.map D1 v.Pairs) .no),(1,.ptr 0 0)] ⟨[some (C4 v)],[],[]⟩
def Ww(ij4:Int)(v:A0)(r:b4e):Prop:=J Pg 59 (.ret (e59 r)) 6 [(16,aI ij4),(15,aI (v.B4.length:Int)),(14,.sl (List.map H3 v.B4) .no),(1,.ptr 0 0)] ⟨[some (C4 v)],[],[]⟩
theorem yG(ij7:Int)(v:A0)(r:b4e)(hw:ID (ij7<(v.Slots.length:Int)) (IX v.Slots ij7 λy23=>∃y24,FZ y23.2 y24/\(IF y24 (r=true) (aC (wI (ij7+1)) v r))) (r=false)):aC ij7 v r:=
 fJ hw<|KW 7 (KI 6 C6<|KC 9<|KW 2 (KR 11)<|E1 8 [])<|KR 11
theorem a0m(ij6:Int)(v:A0)(r:b4e)(hw:ID (ij6<(v.Pairs.length:Int)) (IX v.Pairs ij6 λy25=>∃y26,FZ y25.2 y26/\(IF y26 (r=true) (bK (wI (ij6+1)) v r))) (aC 0 v r)):bK ij6 v r:=
 fJ hw<|KW 7 (KI 6 B8<|KC 9<|KW 2 (KR 11)<|E1 8 [])<|KL 10 C6 v.Slots<|E1 5 []
theorem yq(ij4:Int)(v:A0)(r:b4e)(hw:ID (ij4<(v.B4.length:Int)) (IX v.B4 ij4 λy27=>∃y28,FZ y27 y28/\(IF y28 (r=true) (Ww (wI (ij4+1)) v r))) (bK 0 v r)):Ww ij4 v r:=
 fJ hw<|KW 7 (KI 6 I4<|KC 8<|KW 2 (KR 11)<|E1 8 [])<|KL 10 B8 v.Pairs<|KJ 5
theorem zM(v:A0)(r:b4e)(hw:ID (0<(v.C1.length:Int)) (r=true) (Ww 0 v r)):FZ v r:=
 fP hw<|KL 11 N9 v.C1<|KW 3 (KR 7)<|KL 7 I4 v.B4<|KJ 5
theorem a0w(r:G3):plain (e60 r)/\(AR r).all ok1/\D4 [true] 1 (AR r)/\(Fk r).length=1:=⟨qE r,LS _,pz _,rfl⟩
def Rg(ij13:Int)(y15:Int × A0)(ij9:Int)(v:A0)(prog:Int)(lj14:b4c C2)(lj15:b4c I2)(lj16:b4c E5)(y17:B0 × b4e)(mg:Int)(r:G3):Prop:=J Pg 60 (.io (O6 mg) 1 (e60 r) (AR r) (Fk r)) 11 [(50,aI ij13),(49,aI (y15.2.B4.length:Int)),(48,.sl (List.map H3 y15.2.B4) .no),(8,.ptr 2 0),(17,aI ij9),(16,aI (v.Slots.length:Int)),(15,.sl (List.map D2 v.Slots) .no),(0,.ptr 0 0),(1,aI prog)] ⟨[some [.sl (List.map H6 lj14) .no,.sl (List.map U9 lj15) .no,.sl (List.map BQ lj16) (.own 0)],none,some (E7 y17.1)],[(lj16.length,1)],O6 mg⟩
def Qv(ij17:Int)(y15:Int × A0)(ij9:Int)(v:A0)(prog:Int)(lj18:b4c C2)(lj19:b4c I2)(lj20:b4c E5)(y17:B0 × b4e)(mg:Int)(r:G3):Prop:=J Pg 60 (.io (O6 mg) 1 (e60 r) (AR r) (Fk r)) 18 [(67,aI ij17),(66,aI (y15.2.Pairs.length:Int)),(65,.sl (List.map D1 y15.2.Pairs) .no),(8,.ptr 2 0),(17,aI ij9),(16,aI (v.Slots.length:Int)),(15,.sl (List.map D2 v.Slots) .no),(0,.ptr 0 0),(1,aI prog)] ⟨[some [.sl (List.map H6 lj18) .no,.sl (List.map U9 lj19) .no,.sl (List.map BQ lj20) (.own 0)],none,some (E7 y17.1)],[(lj20.length,1)],O6 mg⟩
def Gs(ij9:Int)(v:A0)(prog:Int)(lj10:b4c C2)(lj11:b4c I2)(lj12:b4c E5)(mg:Int)(r:G3):Prop:=J Pg 60 (.io (O6 mg) 1 (e60 r) (AR r) (Fk r)) 2 [(17,aI ij9),(16,aI (v.Slots.length:Int)),(15,.sl (List.map D2 v.Slots) .no),(0,.ptr 0 0),(1,aI prog)] ⟨[some [.sl (List.map H6 lj10) .no,.sl (List.map U9 lj11) .no,.sl (List.map BQ lj12) (.own 0)]],[(lj12.length,1)],O6 mg⟩
theorem pE(ij13:Int)(y15:Int × A0)(ij9:Int)(v:A0)(prog:Int)(lj14:b4c C2)(lj15:b4c I2)(lj16:b4c E5)(y17:B0 × b4e)(mg:Int)(r:G3)(hw:ID (ij13<(y15.2.B4.length:Int)) (IX y15.2.B4 ij13 λy20=>∃y21,Pb mg (⟨⟨lj14,lj15⟩,lj16⟩:G3) y17.1 y17.1.Name y20 y21/\(Rg (wI (ij13+1)) y15 ij9 v prog y21.p.A7 y21.p.C3 y21.parts y17 mg r)) (Gs (wI (ij9+1)) v prog lj14 lj15 lj16 mg r)):Rg ij13 y15 ij9 v prog lj14 lj15 lj16 y17 mg r:=
 fJ hw<|KW 7 (KI 6 I4<|WH 11 ag<|E1 8 [])<|E1 12 []
theorem pA(ij17:Int)(y15:Int × A0)(ij9:Int)(v:A0)(prog:Int)(lj18:b4c C2)(lj19:b4c I2)(lj20:b4c E5)(y17:B0 × b4e)(mg:Int)(r:G3)(hw:ID (ij17<(y15.2.Pairs.length:Int)) (IX y15.2.Pairs ij17 λy25=>CT y17.1.Name (⟨#[91]⟩:b4b) (∃y26,OW mg y25.1 y26/\(CT (y17.1.Name++(⟨#[91]⟩:b4b)) y26 (CT ((y17.1.Name++(⟨#[91]⟩:b4b))++y26) (⟨#[93]⟩:b4b) (∃y27,Pb mg (⟨⟨lj18,lj19⟩,lj20⟩:G3) y17.1 (((y17.1.Name++(⟨#[91]⟩:b4b))++y26)++(⟨#[93]⟩:b4b)) y25.2 y27/\(Qv (wI (ij17+1)) y15 ij9 v prog y27.p.A7 y27.p.C3 y27.parts y17 mg r)))))) (Gs (wI (ij9+1)) v prog lj18 lj19 lj20 mg r)):Qv ij17 y15 ij9 v prog lj18 lj19 lj20 y17 mg r:=
 fJ hw<|KW 7 (KI 6 B8<|KD 5 [2,3]<|I8 4<|BW 2<|I8 0<|I8 0<|WH 3 ag<|E1 8 [])<|E1 12 []
theorem iV(ij9:Int)(v:A0)(prog:Int)(lj10:b4c C2)(lj11:b4c I2)(lj12:b4c E5)(mg:Int)(r:G3)(hw:ID (ij9<(v.Slots.length:Int)) (IX v.Slots ij9 λy15=>IX lj10 prog λy16=>∃y17,JY y16 y15.1 y17/\(IF (y17.1.D6==4) (Rg 0 y15 ij9 v prog lj10 lj11 lj12 y17 mg r) (IF (y17.1.D6==5) (Qv 0 y15 ij9 v prog lj10 lj11 lj12 y17 mg r) (∃y28,Pb mg (⟨⟨lj10,lj11⟩,lj12⟩:G3) y17.1 y17.1.Name y15.2 y28/\(Gs (wI (ij9+1)) v prog y28.p.A7 y28.p.C3 y28.parts mg r))))) (r=(⟨⟨lj10,lj11⟩,lj12⟩:G3))):Gs ij9 v prog lj10 lj11 lj12 mg r:=
 fJ hw<|KW 7 (KI 6 C6 λ{y15}=>KD 6 [0,1]<|KI 6 H8<|KC 3<|KV 4<|KW 17 (KL 5 I4 y15.2.B4<|E1 5 [])<|KW 6 (KL 5 B8 y15.2.Pairs<|E1 5 [])<|WH 7 ag<|E1 9 [])<|eD 4 a0w
theorem d8(mg:Int)(w:G3)(prog:Int)(v:A0)(r:G3)(hw:Gs 0 v prog w.p.A7 w.p.C3 w.parts mg r):Vu mg w prog v r:=
 dj hw<|KL 9 C6 v.Slots<|E1 5 []
def Oz(ij1:Int)(y1:b4c (Int × A0))(prog:Int)(p:A5)(lj2:b4c (Int × A0))(r:A0):Prop:=J Pg 61 (.ret (e61 r)) 7 [(32,aI ij1),(31,aI (y1.length:Int)),(30,.sl (List.map D2 y1) .no),(7,.ptr 3 0),(6,.ptr 2 0),(3,.ptr 0 0),(1,aI prog)] ⟨[some (C7 p),none,some zV,some [aI 10,aU 0,aE,.nil,.nil,.sl (List.map D2 lj2) (.own 0),.sl (List.map G6 ([]:b4c D8)) .no]],[(lj2.length,8)],[]⟩
def a5t(ij3:Int)(y12:b4c (Int × A0))(prog:Int)(p:A5)(v:A0)(lj4:b4c (Int × A0))(r:A0):Prop:=J Pg 61 (.ret (e61 r)) 7 [(32,aI ij3),(31,aI (y12.length:Int)),(30,.sl (List.map D2 y12) .no),(7,.ptr 4 0),(6,.ptr 2 0),(3,.ptr 0 0),(1,aI prog)] ⟨[some (C7 p),none,some zV,some (cellsOf G6 v.C1),some [aI 10,aU 0,aE,.nil,.nil,.sl (List.map D2 lj4) (.own 0),.row 3 0 4 v.C1.length v.C1.length]],[(lj4.length,8)],[]⟩
theorem gH(ij1:Int)(y1:b4c (Int × A0))(prog:Int)(p:A5)(lj2:b4c (Int × A0))(r:A0)(hw:ID (ij1<(y1.length:Int)) (IX y1 ij1 λy7=>IX p.A7 prog λy8=>∃y9,JY y8 y7.1 y9/\(∃y10,ck p y9.1 y7.2 y10/\(JN (λbz2:b4e=>IF bz2 ((lj2.length+[(y7.1,y10)].length)*136<=140737488355328/\(Oz (wI (ij1+1)) y1 prog p (lj2++[(y7.1,y10)]) r)) (Oz (wI (ij1+1)) y1 prog p lj2 r)) λR2=>IF (!(((y9.1.D6==3)||(y9.1.D6==4))||(y9.1.D6==5))) (R2 true) (∃y11,WX y10 y11/\(R2 (!y11)))))) (jo (⟨125,[],[],rfl⟩:B3)/\(r=(⟨10,0,⟨#[]⟩,[],[],lj2,[]⟩:A0)))):Oz ij1 y1 prog p lj2 r:=
 fJ hw<|KW 7 (KI 6 C6<|KD 6 [0,4]<|KI 3 H8<|KC 3<|KV 4<|KT 10 4<|KT 1 4<|KC 9<|KQ 9 4 kB (KW 2 (KA 8 C6 mE<|E1 10 [])<|E1 8 []) (λkey=>KE 4 key) λkey=>KC 1<|KE 2 key)<|Db 9<|KR 9
theorem a5p(p:A5)(prog:Int)(v r:A0)(hw:(v.C1=[]->oQ v.C1 ([]:b4c D8)/\(IF ((decide (prog<0))||(decide ((p.A7.length:Int)<=prog))) (r=(⟨10,0,⟨#[]⟩,[],[],[],[]⟩:A0)) (∃y1,PM v.Slots y1/\(Oz 0 y1 prog p ([]:b4c (Int × A0)) r))))/\(v.C1≠[]->a43 v.C1/\(IF ((decide (prog<0))||(decide ((p.A7.length:Int)<=prog))) (v.C1.length=v.C1.length/\(r=(⟨10,0,⟨#[]⟩,[],[],[],v.C1⟩:A0))) (∃y12,PM v.Slots y12/\(a5t 0 y12 prog p v ([]:b4c (Int × A0)) r))))):Jj p prog v r:=
 fP hw<|vE v.C1 (λhb1=>Db 11<|J6 11 6 (decide (prog<0)) (λz=>aB (z||(decide ((p.A7.length:Int)<=prog)))) (λkey=>E3 6 key) (λkey=>KL 3 H8 p.A7<|E3 2 key)<|KW 2 (KR 8)<|KC 7 λ{y1}=>KL 0 C6 y1<|Kf 5 3 5 8<|E1 0 []) λhb1=>di 11 N9 hb1<|J6 11 6 (decide (prog<0)) (λz=>aB (z||(decide ((p.A7.length:Int)<=prog)))) (λkey=>E3 6 key) (λkey=>KL 3 H8 p.A7<|E3 2 key)<|KW 2 (KDg 6 N9 3 [true,true,true,false,true] 0 0 2 [(6,.ptr 2 0)] [some (C7 p),some (C4 v),some [aI 10,aU 0,aE,.nil,.nil,.nil,.sl (List.map G6 v.C1) .no],none,some [aI 10,aU 0,aE,.nil,.nil,.nil,.sl (List.map G6 v.C1) .no]]<|KR 2)<|KC 7 λ{y12}=>KL 0 C6 y12<|Kf 5 4 5 8<|E1 0 []
theorem Wr(x y:Int)(r:Int × Int)(hw:∃y1,kp x y y1/\(r=(y1.1,y1.2))):Oy x y r:=
 fP hw<|KC 14<|KR 16
theorem oh(s prefix_:b4b)(r:b4e)(hw:∃y1,fC s prefix_ y1/\(r=y1)):FK s prefix_ r:=
 fP hw<|KC 9<|KR 4
def Rr(ij1:Int)(name:b4b)(p:A5)(r:Int × b4e):Prop:=J Pg 67 (.ret (qt r)) 3 [(6,aI ij1),(2,.ptr 0 0),(1,aS name)] ⟨[some (C7 p)],[],[]⟩
theorem ZG(ij1:Int)(name:b4b)(p:A5)(r:Int × b4e)(hw:ID (ij1<(p.A7.length:Int)) (IX p.A7 ij1 λy2=>ID (y2.Name=name) (r=(ij1,true)) (Rr (wI (ij1+1)) name p r)) (r=(0,false))):Rr ij1 name p r:=
 fJ hw<|KL 7 H8 p.A7<|KW 3 (KI 9 H8<|KW 6 (KR 13)<|KJ 9)<|KR 12
theorem a9v(p:A5)(name:b4b)(r:Int × b4e)(hw:Rr 0 name p r):ZK p name r:=
 fP hw<|KJ 15
theorem b10(p:A5)(prog:Int)(v:A0)(r:Int)(hw:IF ((decide (prog<0))||(decide ((p.A7.length:Int)<=prog))) (r=10) (∃y1,Ks p prog v 1 y1/\(IF (y1 !=0) (r=y1) (∃y2,Ds v y2/\(ID (4096<y2) (r=3) (r=0)))))):Xw p prog v r:=
 fP hw<|J6 13 6 (decide (prog<0)) (λz=>aB (z||(decide ((p.A7.length:Int)<=prog)))) (λkey=>E3 6 key) (λkey=>KL 3 H8 p.A7<|E3 2 key)<|KW 2 (KR 7)<|KC 8<|KW 9 (KR 8)<|KC 6<|KW 3 (KR 7)<|KR 8
def Xk(ij7:Int)(v:A0)(r:b4e):Prop:=J Pg 69 (.ret (WN r)) 22 [(5,aI ij7),(1,.ptr 0 0)] ⟨[some (C4 v)],[],[]⟩
def cf(ij6:Int)(v:A0)(r:b4e):Prop:=J Pg 69 (.ret (WN r)) 14 [(4,aI ij6),(1,.ptr 0 0)] ⟨[some (C4 v)],[],[]⟩
def XY(ij4:Int)(v:A0)(r:b4e):Prop:=J Pg 69 (.ret (WN r)) 6 [(3,aI ij4),(1,.ptr 0 0)] ⟨[some (C4 v)],[],[]⟩
theorem a0v(ij7:Int)(v:A0)(r:b4e)(hw:ID (ij7<(v.Pairs.length:Int)) (IX v.Pairs ij7 λy23=>∃y24,Ff y23.2 y24/\(IF y24 (r=true) (Xk (wI (ij7+1)) v r))) (r=false)):Xk ij7 v r:=
 fJ hw<|KL 7 B8 v.Pairs<|KW 3 (KI 9 B8<|KC 2<|KW 2 (KR 11)<|KJ 9)<|KR 11
theorem tA(ij6:Int)(v:A0)(r:b4e)(hw:ID (ij6<(v.B4.length:Int)) (IX v.B4 ij6 λy25=>∃y26,Ff y25 y26/\(IF y26 (r=true) (cf (wI (ij6+1)) v r))) (Xk 0 v r)):cf ij6 v r:=
 fJ hw<|KL 7 I4 v.B4<|KW 3 (KI 9 I4<|KC 1<|KW 2 (KR 11)<|KJ 9)<|KJ 13
theorem tw(ij4:Int)(v:A0)(r:b4e)(hw:ID (ij4<(v.Slots.length:Int)) (IX v.Slots ij4 λy27=>∃y28,Ff y27.2 y28/\(IF y28 (r=true) (XY (wI (ij4+1)) v r))) (cf 0 v r)):XY ij4 v r:=
 fJ hw<|KL 7 C6 v.Slots<|KW 3 (KI 9 C6<|KC 2<|KW 2 (KR 11)<|KJ 9)<|KJ 13
theorem b1w(v:A0)(r:b4e)(hw:ID (0<(v.C1.length:Int)) (r=true) (XY 0 v r)):Ff v r:=
 fP hw<|KL 11 N9 v.C1<|KW 3 (KR 7)<|KJ 10
def SR(ij7 ij5:Int)(lj8:b4c b4b)(prog:Int)(p:A5)(v:A0)(y20:B0 × b4e)(y21:Int × A0)(r:b4c b4b):Prop:=J Pg 70 (.ret (WQ r)) 12 [(12,aI ij7),(11,.ptr 3 0),(9,.ptr 2 0),(8,aI ij5),(7,.sl (List.map K8 lj8) (.own 0)),(5,.ptr 1 0),(3,.ptr 0 0),(1,aI prog)] ⟨[some (C7 p),some (C4 v),some (E7 y20.1),some (C4 y21.2)],[(lj8.length,1)],[]⟩
def TK(ij9 ij5:Int)(lj10:b4c b4b)(prog:Int)(p:A5)(v:A0)(y20:B0 × b4e)(y21:Int × A0)(r:b4c b4b):Prop:=J Pg 70 (.ret (WQ r)) 18 [(13,aI ij9),(11,.ptr 3 0),(9,.ptr 2 0),(8,aI ij5),(7,.sl (List.map K8 lj10) (.own 0)),(5,.ptr 1 0),(3,.ptr 0 0),(1,aI prog)] ⟨[some (C7 p),some (C4 v),some (E7 y20.1),some (C4 y21.2)],[(lj10.length,1)],[]⟩
def HN(ij5:Int)(lj6:b4c b4b)(prog:Int)(p:A5)(v:A0)(r:b4c b4b):Prop:=J Pg 70 (.ret (WQ r)) 4 [(8,aI ij5),(7,.sl (List.map K8 lj6) (.own 0)),(5,.ptr 1 0),(3,.ptr 0 0),(1,aI prog)] ⟨[some (C7 p),some (C4 v)],[(lj6.length,1)],[]⟩
theorem mZ(ij7 ij5:Int)(lj8:b4c b4b)(prog:Int)(p:A5)(v:A0)(y20:B0 × b4e)(y21:Int × A0)(r:b4c b4b)(hw:ID (ij7<(y21.2.B4.length:Int)) (IX y21.2.B4 ij7 λy24=>∃y25,NS p y20.1 y20.1.Name y24 y25/\((lj8.length+y25.length)*16<=140737488355328/\(SR (wI (ij7+1)) ij5 (lj8++y25) prog p v y20 y21 r))) (HN (wI (ij5+1)) lj8 prog p v r)):SR ij7 ij5 lj8 prog p v y20 y21 r:=
 fJ hw<|KL 7 I4 y21.2.B4<|KW 3 (KD 4 [0,2,3]<|KI 8 I4<|KC 1<|KA 1 O4 mF<|KJ 10)<|E1 12 []
theorem pj(ij9 ij5:Int)(lj10:b4c b4b)(prog:Int)(p:A5)(v:A0)(y20:B0 × b4e)(y21:Int × A0)(r:b4c b4b)(hw:ID (ij9<(y21.2.Pairs.length:Int)) (CT y20.1.Name (⟨#[91]⟩:b4b) (IX y21.2.Pairs ij9 λy30=>∃y31,Ow y30.1 y31/\(CT (y20.1.Name++(⟨#[91]⟩:b4b)) y31 (CT ((y20.1.Name++(⟨#[91]⟩:b4b))++y31) (⟨#[93]⟩:b4b) (IX y21.2.Pairs ij9 λy32=>∃y33,NS p y20.1 (((y20.1.Name++(⟨#[91]⟩:b4b))++y31)++(⟨#[93]⟩:b4b)) y32.2 y33/\((lj10.length+y33.length)*16<=140737488355328/\(TK (wI (ij9+1)) ij5 (lj10++y33) prog p v y20 y21 r))))))) (HN (wI (ij5+1)) lj10 prog p v r)):TK ij9 ij5 lj10 prog p v y20 y21 r:=
 fJ hw<|KL 7 B8 y21.2.Pairs<|KW 3 (KD 4 [0,2,3]<|I8 5<|KI 3 B8<|KC 2<|I8 0<|I8 0<|KI 3 B8<|KC 2<|KA 1 O4 mF<|KJ 10)<|E1 12 []
theorem nC(ij5:Int)(lj6:b4c b4b)(prog:Int)(p:A5)(v:A0)(r:b4c b4b)(hw:ID (ij5<(v.Slots.length:Int)) (IX p.A7 prog λy18=>IX v.Slots ij5 λy19=>∃y20,JV y18 y19.1 y20/\(IX v.Slots ij5 λy21=>IF (y20.1.D6==4) (SR 0 ij5 lj6 prog p v y20 y21 r) (IF (y20.1.D6==5) (TK 0 ij5 lj6 prog p v y20 y21 r) (∃y34,NS p y20.1 y20.1.Name y21.2 y34/\((lj6.length+y34.length)*16<=140737488355328/\(HN (wI (ij5+1)) (lj6++y34) prog p v r)))))) (r=lj6)):HN ij5 lj6 prog p v r:=
 fJ hw<|KL 7 C6 v.Slots<|KW 3 (KD 5 [0,1]<|KI 3 H8<|KI 4 C6<|KC 2<|KV 4<|KI 9 C6<|KW 13 (KJ 7)<|KW 7 (KJ 7)<|KC 7<|KA 0 O4 mF<|E1 10 [])<|KR 12
theorem a73(p:A5)(prog:Int)(v:A0)(r:b4c b4b)(hw:HN 0 ([]:b4c b4b) prog p v r):Vr p prog v r:=
 fP hw<|KO 20 7 1<|KJ 0
def Jc(ij5 ij3 prog:Int)(p:A5)(v:A0)(lj6:b4c (Int × A0))(y1:b4c D8)(y15:B0)(r:A0):Prop:=J Pg 71 (.ret (dp r)) 13 [(10,aI ij5),(9,.ptr 4 0),(8,aI ij3),(7,.ptr 3 0),(6,.ptr 2 0),(5,.ptr 1 0),(3,.ptr 0 0),(1,aI prog)] ⟨[some (C7 p),some (C4 v),some zV,some [aI 10,aU 0,aE,.nil,.nil,.sl (List.map D2 lj6) (.own 0),.sl (List.map G6 y1) .no],some (E7 y15)],[(lj6.length,8)],[]⟩
def Pe(ij3 prog:Int)(p:A5)(v:A0)(lj4:b4c (Int × A0))(y1:b4c D8)(r:A0):Prop:=J Pg 71 (.ret (dp r)) 7 [(8,aI ij3),(7,.ptr 3 0),(6,.ptr 2 0),(5,.ptr 1 0),(3,.ptr 0 0),(1,aI prog)] ⟨[some (C7 p),some (C4 v),some zV,some [aI 10,aU 0,aE,.nil,.nil,.sl (List.map D2 lj4) (.own 0),.sl (List.map G6 y1) .no]],[(lj4.length,8)],[]⟩
theorem kJ(ij5 ij3 prog:Int)(p:A5)(v:A0)(lj6:b4c (Int × A0))(y1:b4c D8)(y15:B0)(r:A0)(hw:ID (ij5<(v.Slots.length:Int)) (IX v.Slots ij5 λy20=>IF (y20.1 !=y15.Num) (Jc (wI (ij5+1)) ij3 prog p v lj6 y1 y15 r) (IX v.Slots ij5 λy21=>∃y22,bW p y15 y21.2 y22/\(JN (λbz4:b4e=>IF bz4 ((lj6.length+[(y15.Num,y22)].length)*136<=140737488355328/\(Jc (wI (ij5+1)) ij3 prog p v (lj6++[(y15.Num,y22)]) y1 y15 r)) (Jc (wI (ij5+1)) ij3 prog p v lj6 y1 y15 r)) λR4=>ID (y15.D6<3) (R4 true) (∃y23,YC y22 y23/\(R4 (!y23)))))) (Pe (wI (ij3+1)) prog p v lj6 y1 r)):Jc ij5 ij3 prog p v lj6 y1 y15 r:=
 fJ hw<|KL 7 C6 v.Slots<|KW 3 (KD 6 [1,4]<|KI 3 C6<|KW 8 (KJ 10)<|KD 3 [0,1,4]<|KI 5 C6<|KC 2<|KQ 11 4 kB (KW 2 (KA 8 C6 mE<|E1 11 [])<|E1 9 []) (λkey=>KE 4 key) λkey=>KC 1<|KE 2 key)<|E1 12 []
theorem Wb(ij3 prog:Int)(p:A5)(v:A0)(lj4:b4c (Int × A0))(y1:b4c D8)(r:A0)(hw:IX p.A7 prog λy13=>ID (ij3<(y13.Ops.length:Int)) (IX p.A7 prog λy14=>IX y14.Ops ij3 λy15=>Jc 0 ij3 prog p v lj4 y1 y15 r) (r=(⟨10,0,⟨#[]⟩,[],[],lj4,y1⟩:A0))):Pe ij3 prog p v lj4 y1 r:=
 fJ hw<|KI 8 H8 λ{y13}=>KL 2 N2 y13.Ops<|KW 3 (KI 9 H8<|KI 3 N2<|KJ 12)<|KR 12
theorem uG(p:A5)(prog:Int)(v r:A0)(hw:IF ((decide (prog<0))||(decide ((p.A7.length:Int)<=prog))) (r=(⟨0,0,⟨#[]⟩,[],[],[],[]⟩:A0)) (∃y1,aQ v.C1 y1/\(Pe 0 prog p v ([]:b4c (Int × A0)) y1 r))):MI p prog v r:=
 fP hw<|J6 13 6 (decide (prog<0)) (λz=>aB (z||(decide ((p.A7.length:Int)<=prog)))) (λkey=>E3 6 key) (λkey=>KL 3 H8 p.A7<|E3 2 key)<|KW 2 (KR 8)<|KC 6<|Kf 13 3 5 8<|KJ 0
theorem a2w(v:A0)(r:b4e)(hw:ID (0<(wI ((wI ((wI ((v.B4.length:Int)+(v.Pairs.length:Int)))+(v.Slots.length:Int)))+(v.C1.length:Int)))) (r=false) (∃y1,bD v.Kind y1/\(IF y1 (r=(v.Bits==0)) (r=(decide (v.Text=(⟨#[]⟩:b4b))))))):Sw v r:=
 fP hw<|KL 11 I4 v.B4<|KL 2 B8 v.Pairs<|KL 3 C6 v.Slots<|KL 3 N9 v.C1<|KW 4 (KR 7)<|KC 7<|KW 2 (KR 10)<|KR 11
theorem a0u(kind bits:Int)(r:b4e)(hw:IF (kind==1) (r=(decide (bits<=1))) (IF (kind==2) (r=((decide ((-2147483648)<=(wI bits)))&&(decide ((wI bits)<=2147483647)))) (IF (kind==9) (r=(decide (bits<=2147483647))) (IF (kind==4) (r=(decide (bits<=4294967295))) (r=true))))):Xv kind bits r:=
 fP hw<|KW 33 (KR 23)<|KW 9 (KT 14 4<|KR 11)<|KW 9 (KR 27)<|KW 8 (KR 23)<|KR 19
theorem a6d(s:b4b)(r:b4e)(hw:∃y1,gn s y1/\(r=(decide (y1<0)))):UQ s r:=
 fP hw<|KC 8<|KR 5
theorem a02(b:b4e)(r:b4b)(hw:∃y1,ll b y1/\(r=y1)):XX b r:=
 fP hw<|KC 8<|KR 4
theorem a7j(mg bits:Int)(r:b4b)(hw:∃y1,Ou bits y1/\(IF (y1==0) (r=(⟨#[110,97,110]⟩:b4b)) (IF ((y1==1)&&((G5 .and .u64 bits 9223372036854775808) !=0)) (r=(⟨#[45,105,110,102]⟩:b4b)) (IF (y1==1) (r=(⟨#[105,110,102]⟩:b4b)) (∃y2,Up mg bits 16 y2/\(∃y3,MT (⟨#[48]⟩:b4b) (wI (16 - (y2.size:Int))) y3/\(CT (⟨#[48,120]⟩:b4b) y3 (CT ((⟨#[48,120]⟩:b4b)++y3) y2 (r=(((⟨#[48,120]⟩:b4b)++y3)++y2)))))))))):dU mg bits r:=
 fP hw<|KC 9<|KW 11 (KR 8)<|KT 5 4<|KW 3 (KR 8)<|KW 7 (KR 8)<|BW 6<|KC 8<|I8 0<|I8 1<|KR 4
def VQ(s sj1:b4b)(nj2:Nat)(r:b4b):Prop:=J Pg 78 (.ret (rA r)) 5 [(8,.ptr 1 0),(3,.ptr 0 0),(0,aS s)] ⟨[some [.ps 0 68,.bb (.own 0) (bE sj1) 5],some [.it s nj2]],[(sj1.size,1)],[]⟩
theorem qY(s sj1:b4b)(nj2:Nat)(r:b4b)(hw:(nj2<s.size->∃y2,XH s ((nj2:Nat):Int) (Utf8.decode s nj2).1 y2/\(sj1.size+y2.size<=140737488355328/\(VQ s (sj1++y2) (nj2+(Utf8.decode s nj2).2) r)))/\(¬nj2<s.size->sj1.size+(⟨#[34]⟩:b4b).size<=140737488355328/\((sj1++(⟨#[34]⟩:b4b)).size<=140737488355328/\(r=(sj1++(⟨#[34]⟩:b4b)))))):VQ s sj1 nj2 r:=
 fJ hw<|KX 3 (KC 20<|W7 0 28<|Cn 9 Bv<|Dw 10<|V2 14<|KJ 3)<|W7 12 28<|Cn 9 Bv<|Dw 10<|V2 14<|W7 4 31<|KD 6 [0]<|QK 11<|V2 4<|KR 4
theorem su(s r:b4b)(hw:(⟨#[]⟩:b4b).size+(⟨#[34]⟩:b4b).size<=140737488355328/\(VQ s ((⟨#[]⟩:b4b)++(⟨#[34]⟩:b4b)) 0 r)):SC s r:=
 fP hw<|WD 11 0<|W7 1 28<|Cn 9 Bv<|Dw 10<|V2 14<|KJ 11
def Qj(ij1:Int)(s:b4b)(lj2:b4c Int)(r:b4b):Prop:=J Pg 79 (.ret (qm r)) 4 [(11,aI ij1),(10,aI (s.size:Int)),(3,.sl (List.map BI lj2) (.own 0)),(0,aS s)] ⟨[],[(lj2.length,1)],[]⟩
theorem ib(ij1:Int)(s:b4b)(lj2:b4c Int)(r:b4b)(hw:ID (ij1<(s.size:Int)) (SI s ij1 (SI (⟨#[48,49,50,51,52,53,54,55,56,57,97,98,99,100,101,102]⟩:b4b) ((E2 s ij1.toNat).fdiv (2 ^ min (4:Int).toNat IntKind.u8.bits)) (SI s ij1 (SI (⟨#[48,49,50,51,52,53,54,55,56,57,97,98,99,100,101,102]⟩:b4b) (G5 .and .u8 (E2 s ij1.toNat) 15) ((lj2.length+[(E2 (⟨#[48,49,50,51,52,53,54,55,56,57,97,98,99,100,101,102]⟩:b4b) ((E2 s ij1.toNat).fdiv (2 ^ min (4:Int).toNat IntKind.u8.bits)).toNat),(E2 (⟨#[48,49,50,51,52,53,54,55,56,57,97,98,99,100,101,102]⟩:b4b) (G5 .and .u8 (E2 s ij1.toNat) 15).toNat)].length)*1<=140737488355328/\(Qj (wI (ij1+1)) s (lj2++[(E2 (⟨#[48,49,50,51,52,53,54,55,56,57,97,98,99,100,101,102]⟩:b4b) ((E2 s ij1.toNat).fdiv (2 ^ min (4:Int).toNat IntKind.u8.bits)).toNat),(E2 (⟨#[48,49,50,51,52,53,54,55,56,57,97,98,99,100,101,102]⟩:b4b) (G5 .and .u8 (E2 s ij1.toNat) 15).toNat)]) r)))))) (∃y2,lj2=bI y2/\(r=y2))):Qj ij1 s lj2 r:=
 fJ hw<|KW 7 (KD 10 []<|Z2 3<|Z2 1<|Z2 2<|Z2 1<|KA 2 XB mE<|KJ 9)<|KS 8<|KR 4
theorem vm(s r:b4b)(hw:(0<=(wI (2*(s.size:Int)))/\(wI (2*(s.size:Int)))*1<=140737488355328)/\(Qj 0 s ([]:b4c Int) r)):Ym s r:=
 fP hw<|KM0 10 BI<|KJ 13
theorem nh(kind:Int)(r:b4e)(hw:r=((kind==7)||(kind==8))):bD kind r:=
 fP hw<|KT 10 3<|KR 4
theorem wa(s:b4c O5)(f:B3)(r:b4e)(hw:∃y1,mh s f y1/\(r=(decide (0<=y1)))):mI s f r:=
 fP hw<|KC 9<|KR 5
theorem Yl(kind:Int)(r:b4e)(hw:r=((decide (1<=kind))&&(decide (kind<=9)))):Uo kind r:=
 fP hw<|KT 10 3<|KR 4
theorem mz(b:Int)(r:b4e)(hw:r=((decide (97<=b))&&(decide (b<=122)))):Ug b r:=
 fP hw<|KT 10 3<|KR 4
theorem gw(b:Int)(r:b4e)(hw:r=((decide (65<=b))&&(decide (b<=90)))):TB b r:=
 fP hw<|KT 10 3<|KR 4
theorem ue(v:A0)(r:b4e)(hw:r=(((((v.B4.length:Int)==0)&&((v.Pairs.length:Int)==0))&&((v.Slots.length:Int)==0))&&((v.C1.length:Int)==0))):Qm v r:=
 fP hw<|KL 10 I4 v.B4<|J6 2 5 ((v.B4.length:Int)==0) (λz=>aB (z&&((v.Pairs.length:Int)==0))) (λkey=>KL 2 B8 v.Pairs<|E3 2 key) (λkey=>E3 5 key)<|J6 1 5 (((v.B4.length:Int)==0)&&((v.Pairs.length:Int)==0)) (λz=>aB (z&&((v.Slots.length:Int)==0))) (λkey=>KL 2 C6 v.Slots<|E3 2 key) (λkey=>E3 5 key)<|J6 1 5 ((((v.B4.length:Int)==0)&&((v.Pairs.length:Int)==0))&&((v.Slots.length:Int)==0)) (λz=>aB (z&&((v.C1.length:Int)==0))) (λkey=>KL 2 N9 v.C1<|E3 2 key) (λkey=>E3 5 key)<|KR 4
theorem fY(kind:Int)(r:b4e)(hw:r=((kind==7)||(kind==8))):LK kind r:=
 fP hw<|KT 10 3<|KR 4
theorem uj(s:b4b)(r:b4e)(hw:∃y1,kQ s y1/\(r=(decide (y1<0)))):My s r:=
 fP hw<|KC 8<|KR 5
def TV(sj1:b4b)(ij2:Int)(r:b4b):Prop:=JP Pg 98 (qx r) 3 [(3,aS sj1),(0,aU ij2)]
theorem qL(sj1:b4b)(ij2:Int)(r:b4b)(hw:ID (10<=ij2) (∃y3,([(IntKind.u8.wrap (wU (48+((wU (ij2.tdiv 10)).tmod 10))))]:b4c Int)=bI y3/\(CT y3 sj1 (TV (y3++sj1) (wU (ij2.tdiv 10)) r))) (r=sj1)):TV sj1 ij2 r:=
 fJ hw<|KW 8 (KS 16<|I8 1<|KJ 4)<|KR 12
theorem tX(u:Int)(r:b4b)(hw:∃y1,([(IntKind.u8.wrap (wU (48+(u.tmod 10))))]:b4c Int)=bI y1/\(TV y1 u r)):LG u r:=
 fP hw<|KS 12<|KJ 6
end
section
attribute [local irreducible] Ok run put N0 br jn pos Fo Eu So
attribute [-simp] List.map_take List.map_drop List.map_append List.map_set List.map_replicate List.map_cons List.map_map
attribute [local simp] plain B7 X3 Q5 I0 low D4 H7 Q4 S8 S7 P8 P6 Q9 S4 R0 S6 P9 S0 S5 U5 P5 T6 T1 U1 T5 U8 T0 V1 T9 U7 T8 V0 V3 W3 W5 X1 X6 Y7 Y5 Z9 AS AO Ae Ak Au Ar BP BO Bj Bd Bw Bu CY Cg Cw DP DH Df Ef Em EN EU Ei W0 BI EX EY CB BL K8 Ev IY Ge Gm He IV Ia IZ IK Gy Hi GM GC Hj Ib IS Hb HC Gd GV Hs Ic Hg Gj GT HB HU Hr Hx HT Gz GL Ie GY HZ Gl IU GN IG Ht Gk Gn Gv HH HJ Ga Hp GU IW Ij GS IJ IA IR Gg Hu Hn GP Gw GW IM HQ HG Gt Gc Gr Hq IP HI Gq If IE GO Hy Hc Hd GK GX HS Hm GH GR HL Jf
theorem p5(bits r:Int)(hw:ID (9218868437227405312<(bits.tmod 9223372036854775808)) (r=0) (IF ((bits.tmod 9223372036854775808)==9218868437227405312) (r=1) (IF ((bits.tmod 9223372036854775808)==0) (r=2) (ID ((bits.tmod 9223372036854775808)<4503599627370496) (r=3) (r=4))))):NR bits r:=
 fP hw<|KW 21 (KR 8)<|KW 7 (KR 8)<|KW 7 (KR 8)<|KW 7 (KR 8)<|KR 9
def OX(ij4:Int)(lj5:b4c Int)(ij6:Int)(r:b4b):Prop:=JP Pg 100 (oP r) 4 [(4,aI ij4),(3,.sl (List.map BI lj5) .no),(0,aU ij6)]
theorem fH(ij4:Int)(lj5:b4c Int)(ij6:Int)(r:b4b)(hw:ID (ij4<8) ((lj5=[]->([(IntKind.u8.wrap (ij6.tmod 256))]:b4c Int).length*1<=140737488355328/\(OX (wI (ij4+1)) ([(IntKind.u8.wrap (ij6.tmod 256))]:b4c Int) (wU (ij6.tdiv 256)) r))/\(lj5≠[]->([(IntKind.u8.wrap (ij6.tmod 256))].length+lj5.length)*1<=140737488355328/\lj5≠[]/\(OX (wI (ij4+1)) ([(IntKind.u8.wrap (ij6.tmod 256))]++lj5) (wU (ij6.tdiv 256)) r))) (∃y3,lj5=bI y3/\(∃y4,Qg y3 y4/\(r=y4)))):OX ij4 lj5 ij6 r:=
 fJ hw<|KW 8 (vE lj5 (λhb4=>Kn 11 XB hb4 mF xE<|QI 16 [3]) λhb4=>Cm 11 XB mF xE<|E1 16 [3])<|KS 8<|KC 0<|KR 4
theorem xf(u:Int)(r:b4b)(hw:OX 0 ([]:(b4c Int)) u r):Yp u r:=
 fP hw<|QI 18 [3]
def AU(ij1:Int)(sj2 s r:b4b):Prop:=JP Pg 101 (kV r) 4 [(4,aI ij1),(3,aS sj2),(0,aS s)]
theorem nD(ij1:Int)(sj2 s r:b4b)(hw:ID (ij1<(s.size:Int)) (∃y3,TD s ij1 y3/\(SI s ij1 (IF ((E2 s ij1.toNat)==34) (CT sj2 (⟨#[92,34]⟩:b4b) (IF (y3==0) (AU (wI (ij1+1)) (sj2++(⟨#[92,34]⟩:b4b)) s r) (AU (wI (ij1+y3)) (sj2++(⟨#[92,34]⟩:b4b)) s r))) (IF ((E2 s ij1.toNat)==92) (CT sj2 (⟨#[92,92]⟩:b4b) (IF (y3==0) (AU (wI (ij1+1)) (sj2++(⟨#[92,92]⟩:b4b)) s r) (AU (wI (ij1+y3)) (sj2++(⟨#[92,92]⟩:b4b)) s r))) (IF ((E2 s ij1.toNat)==10) (CT sj2 (⟨#[92,110]⟩:b4b) (IF (y3==0) (AU (wI (ij1+1)) (sj2++(⟨#[92,110]⟩:b4b)) s r) (AU (wI (ij1+y3)) (sj2++(⟨#[92,110]⟩:b4b)) s r))) (IF ((E2 s ij1.toNat)==9) (CT sj2 (⟨#[92,116]⟩:b4b) (IF (y3==0) (AU (wI (ij1+1)) (sj2++(⟨#[92,116]⟩:b4b)) s r) (AU (wI (ij1+y3)) (sj2++(⟨#[92,116]⟩:b4b)) s r))) (IF ((E2 s ij1.toNat)==13) (CT sj2 (⟨#[92,114]⟩:b4b) (IF (y3==0) (AU (wI (ij1+1)) (sj2++(⟨#[92,114]⟩:b4b)) s r) (AU (wI (ij1+y3)) (sj2++(⟨#[92,114]⟩:b4b)) s r))) (IF (((decide ((E2 s ij1.toNat)<32))||((E2 s ij1.toNat)==127))||(y3==0)) (CT sj2 (⟨#[92,120]⟩:b4b) (∃y4,VB (E2 s ij1.toNat) y4/\(CT (sj2++(⟨#[92,120]⟩:b4b)) y4 (IF (y3==0) (AU (wI (ij1+1)) ((sj2++(⟨#[92,120]⟩:b4b))++y4) s r) (AU (wI (ij1+y3)) ((sj2++(⟨#[92,120]⟩:b4b))++y4) s r))))) (SS s ij1 (wI (ij1+y3)) (CT sj2 (s.extract ij1.toNat (wI (ij1+y3)).toNat) (IF (y3==0) (AU (wI (ij1+1)) (sj2++(s.extract ij1.toNat (wI (ij1+y3)).toNat)) s r) (AU (wI (ij1+y3)) (sj2++(s.extract ij1.toNat (wI (ij1+y3)).toNat)) s r)))))))))))) (CT sj2 (⟨#[34]⟩:b4b) (r=(sj2++(⟨#[34]⟩:b4b))))):AU ij1 sj2 s r:=
 fJ hw<|KW 10 (KC 7<|Z2 7<|KW 12 (I8 2<|KW 11 (KJ 12)<|KJ 10)<|KW 7 (I8 2<|KW 11 (KJ 12)<|KJ 10)<|KW 7 (I8 2<|KW 11 (KJ 12)<|KJ 10)<|KW 7 (I8 2<|KW 11 (KJ 12)<|KJ 10)<|KW 7 (I8 2<|KW 11 (KJ 12)<|KJ 10)<|KT 5 3<|KT 1 3<|KW 3 (I8 2<|KC 1<|I8 0<|KW 11 (KJ 12)<|KJ 10)<|BF 7<|I8 0<|KW 11 (KJ 12)<|KJ 10)<|I8 8<|KR 4
theorem yD(s r:b4b)(hw:AU 0 (⟨#[34]⟩:b4b) s r):VD s r:=
 fP hw<|KJ 18
def SD(ij1:Int)(sj2 s r:b4b):Prop:=JP Pg 102 (gv r) 4 [(4,aI ij1),(3,aS sj2),(0,aS s)]
theorem lu(ij1:Int)(sj2 s r:b4b)(hw:ID (ij1<(s.size:Int)) (SI s ij1 (∃y2,VB (E2 s ij1.toNat) y2/\(CT sj2 y2 (SD (wI (ij1+1)) (sj2++y2) s r)))) (r=sj2)):SD ij1 sj2 s r:=
 fJ hw<|KW 10 (Z2 8<|KC 0<|I8 0<|KJ 10)<|KR 12
theorem b2b(s r:b4b)(hw:SD 0 (⟨#[]⟩:b4b) s r):Qg s r:=
 fP hw<|KJ 18
def Oc(ij1:Int)(sj2 s:b4b)(r:b4e):Prop:=JP Pg 103 (mi r) 7 [(4,aI ij1),(3,aS sj2),(0,aS s)]
theorem nW(ij1:Int)(sj2 s:b4b)(r:b4e)(hw:ID (ij1<(s.size:Int)) (SI s ij1 (IF ((E2 s ij1.toNat) !=46) (SS s ij1 (wI (ij1+1)) (CT sj2 (s.extract ij1.toNat (wI (ij1+1)).toNat) (Oc (wI (ij1+1)) (sj2++(s.extract ij1.toNat (wI (ij1+1)).toNat)) s r))) (∃y4,Ma sj2 y4/\(IF (!y4) (r=false) (Oc (wI (ij1+1)) (⟨#[]⟩:b4b) s r))))) (∃y3,Ma sj2 y3/\(r=y3))):Oc ij1 sj2 s r:=
 fJ hw<|KW 10 (Z2 9<|KW 3 (BF 7<|I8 0<|KJ 13)<|KC 6<|KW 3 (KR 12)<|KJ 13)<|KC 8<|KR 4
theorem a98(s:b4b)(r:b4e)(hw:ID (120<(s.size:Int)) (r=false) (Oc 0 (⟨#[]⟩:b4b) s r)):Wg s r:=
 fP hw<|KW 13 (KR 7)<|KJ 15
def UE(ij1:Int)(full:b4b)(r:b4b × b4b):Prop:=JP Pg 104 (pG r) 3 [(4,aI ij1),(0,aS full)]
theorem pM(ij1:Int)(full:b4b)(r:b4b × b4b)(hw:ID (0<=ij1) (SI full ij1 (IF ((E2 full ij1.toNat)==46) (SS full (0:Int) ij1 (SS full (wI (ij1+1)) (full.size:Int) (r=((full.extract (0:Int).toNat ij1.toNat),(full.extract (wI (ij1+1)).toNat (full.size:Int).toNat))))) (UE (wI (ij1 - 1)) full r))) (r=((⟨#[]⟩:b4b),full))):UE ij1 full r:=
 fJ hw<|KW 8 (Z2 8<|KW 3 (KD 1 []<|BF 2<|BF 3<|KR 11)<|KJ 9)<|KR 13
theorem a3r(full:b4b)(r:b4b × b4b)(hw:UE (wI ((full.size:Int) - 1)) full r):dG full r:=
 fP hw<|KJ 17
theorem a7u(s:b4b)(r:b4e)(hw:ID (s=(⟨#[109,101,115,115,97,103,101]⟩:b4b)) (r=true) (ID (s=(⟨#[101,110,117,109]⟩:b4b)) (r=true) (ID (s=(⟨#[115,101,114,118,105,99,101]⟩:b4b)) (r=true) (ID (s=(⟨#[117,110,105,111,110]⟩:b4b)) (r=true) (ID (s=(⟨#[109,97,112]⟩:b4b)) (r=true) (ID (s=(⟨#[108,105,115,116]⟩:b4b)) (r=true) (ID (s=(⟨#[114,101,113,117,105,114,101,100]⟩:b4b)) (r=true) (ID (s=(⟨#[111,112,116,105,111,110,97,108]⟩:b4b)) (r=true) (ID (s=(⟨#[112,108,97,105,110]⟩:b4b)) (r=true) (ID (s=(⟨#[100,101,102,97,117,108,116]⟩:b4b)) (r=true) (ID (s=(⟨#[114,101,115,101,114,118,101,100]⟩:b4b)) (r=true) (ID (s=(⟨#[105,109,112,111,114,116]⟩:b4b)) (r=true) (ID (s=(⟨#[115,112,97,99,101]⟩:b4b)) (r=true) (ID (s=(⟨#[114,112,99]⟩:b4b)) (r=true) (ID (s=(⟨#[115,116,114,101,97,109]⟩:b4b)) (r=true) (ID (s=(⟨#[114,101,116,117,114,110,115]⟩:b4b)) (r=true) (ID (s=(⟨#[111,112,101,110]⟩:b4b)) (r=true) (ID (s=(⟨#[116,114,117,101]⟩:b4b)) (r=true) (ID (s=(⟨#[102,97,108,115,101]⟩:b4b)) (r=true) (ID (s=(⟨#[110,97,110]⟩:b4b)) (r=true) (ID (s=(⟨#[105,110,102]⟩:b4b)) (r=true) (r=false)))))))))))))))))))))):UT s r:=
 fP hw<|Y0 19 (λhb1=>O8 2 hb1<|KR 8) λhb1=>Y0 6 (λhb2=>O8 2 hb2<|KR 8) λhb2=>Y0 6 (λhb3=>O8 2 hb3<|KR 8) λhb3=>Y0 6 (λhb4=>O8 2 hb4<|KR 8) λhb4=>Y0 6 (λhb5=>O8 2 hb5<|KR 8) λhb5=>Y0 6 (λhb6=>O8 2 hb6<|KR 8) λhb6=>Y0 6 (λhb7=>O8 2 hb7<|KR 8) λhb7=>Y0 6 (λhb8=>O8 2 hb8<|KR 8) λhb8=>Y0 6 (λhb9=>O8 2 hb9<|KR 8) λhb9=>Y0 6 (λhb10=>O8 2 hb10<|KR 8) λhb10=>Y0 6 (λhb11=>O8 2 hb11<|KR 8) λhb11=>Y0 6 (λhb12=>O8 2 hb12<|KR 8) λhb12=>Y0 6 (λhb13=>O8 2 hb13<|KR 8) λhb13=>Y0 6 (λhb14=>O8 2 hb14<|KR 8) λhb14=>Y0 6 (λhb15=>O8 2 hb15<|KR 8) λhb15=>Y0 6 (λhb16=>O8 2 hb16<|KR 8) λhb16=>Y0 6 (λhb17=>O8 2 hb17<|KR 8) λhb17=>Y0 6 (λhb18=>O8 2 hb18<|KR 8) λhb18=>Y0 6 (λhb19=>O8 2 hb19<|KR 8) λhb19=>Y0 6 (λhb20=>O8 2 hb20<|KR 8) λhb20=>KW 5 (KR 8)<|KR 9
def MZ(bj7:b4e)(name:b4b)(r:Int):Prop:=JP Pg 106 (Uz r) 12 [(13,aB bj7),(3,aS name)]
def LL(bj6:b4e)(name:b4b)(r:Int):Prop:=JP Pg 106 (Uz r) 7 [(8,aB bj6),(3,aS name)]
def PV(bj4:b4e)(name:b4b)(r:Int):Prop:=JP Pg 106 (Uz r) 3 [(4,aB bj4),(3,aS name)]
theorem a34(bj7:b4e)(name:b4b)(r:Int)(hw:IF bj7 (r=4) (ID (name=(⟨#[109,105,110]⟩:b4b)) (r=3) (ID (name=(⟨#[109,97,120]⟩:b4b)) (r=3) (r=0)))):MZ bj7 name r:=
 fJ hw<|KW 0 (KR 8)<|Y0 7 (λhb49=>O8 2 hb49<|KR 8) λhb49=>KW 5 (KR 8)<|KR 9
theorem yE(bj6:b4e)(name:b4b)(r:Int)(hw:IF bj6 (r=7) (ID (name=(⟨#[115,105,110,99,101]⟩:b4b)) (MZ (decide (name=(⟨#[115,105,110,99,101]⟩:b4b))) name r) (ID (name=(⟨#[117,110,116,105,108]⟩:b4b)) (MZ (decide (name=(⟨#[117,110,116,105,108]⟩:b4b))) name r) (ID (name=(⟨#[108,101,110,103,116,104]⟩:b4b)) (MZ (decide (name=(⟨#[108,101,110,103,116,104]⟩:b4b))) name r) (MZ (decide (name=(⟨#[116,105,109,101,111,117,116]⟩:b4b))) name r))))):LL bj6 name r:=
 fJ hw<|KW 0 (KR 8)<|KW 7 (KJ 2)<|KW 6 (KJ 2)<|KW 6 (KJ 2)<|KJ 5
theorem a85(bj4:b4e)(name:b4b)(r:Int)(hw:IF bj4 (r=1) (ID (name=(⟨#[100,111,99]⟩:b4b)) (LL (decide (name=(⟨#[100,111,99]⟩:b4b))) name r) (ID (name=(⟨#[97,108,105,97,115]⟩:b4b)) (LL (decide (name=(⟨#[97,108,105,97,115]⟩:b4b))) name r) (ID (name=(⟨#[114,111,117,116,101]⟩:b4b)) (LL (decide (name=(⟨#[114,111,117,116,101]⟩:b4b))) name r) (LL (decide (name=(⟨#[111,119,110,101,114]⟩:b4b))) name r))))):PV bj4 name r:=
 fJ hw<|KW 0 (KR 8)<|KW 7 (KJ 2)<|KW 6 (KJ 2)<|KW 6 (KJ 2)<|KJ 5
theorem b0f(name:b4b)(r:Int)(hw:ID (name=(⟨#[100,101,112,114,101,99,97,116,101,100]⟩:b4b)) (PV (decide (name=(⟨#[100,101,112,114,101,99,97,116,101,100]⟩:b4b))) name r) (ID (name=(⟨#[115,101,99,114,101,116]⟩:b4b)) (PV (decide (name=(⟨#[115,101,99,114,101,116]⟩:b4b))) name r) (PV (decide (name=(⟨#[105,100,101,109,112,111,116,101,110,116]⟩:b4b))) name r))):Tk name r:=
 fP hw<|KW 19 (KJ 2)<|KW 6 (KJ 2)<|KJ 5
def NN(bj15:b4e)(target:Int)(r:b4e):Prop:=JP Pg 107 (OF r) 15 [(36,aB bj15),(1,aI target)]
def LM(bj14:b4e)(name:b4b)(target:Int)(r:b4e):Prop:=JP Pg 107 (OF r) 10 [(29,aB bj14),(5,aS name),(1,aI target)]
def Pl(bj12:b4e)(name:b4b)(target:Int)(r:b4e):Prop:=JP Pg 107 (OF r) 6 [(15,aB bj12),(5,aS name),(1,aI target)]
def Rp(bj8:b4e)(name:b4b)(target:Int)(r:b4e):Prop:=JP Pg 107 (OF r) 3 [(6,aB bj8),(5,aS name),(1,aI target)]
theorem b14(bj15:b4e)(target:Int)(r:b4e)(hw:IF bj15 (r=(target==6)) (r=((target==1)||(target==5)))):NN bj15 target r:=
 fJ hw<|KW 0 (KR 10)<|KT 8 3<|KR 4
theorem tF(bj14:b4e)(name:b4b)(target:Int)(r:b4e)(hw:IF bj14 (r=(target==2)) (ID (name=(⟨#[105,100,101,109,112,111,116,101,110,116]⟩:b4b)) (NN (decide (name=(⟨#[105,100,101,109,112,111,116,101,110,116]⟩:b4b))) target r) (ID (name=(⟨#[116,105,109,101,111,117,116]⟩:b4b)) (NN (decide (name=(⟨#[116,105,109,101,111,117,116]⟩:b4b))) target r) (NN (decide (name=(⟨#[114,111,117,116,101]⟩:b4b))) target r)))):LM bj14 name target r:=
 fJ hw<|KW 0 (KR 10)<|KW 7 (KJ 2)<|KW 6 (KJ 2)<|KJ 5
theorem l8(bj12:b4e)(name:b4b)(target:Int)(r:b4e)(hw:IF bj12 (r=(((target==2)||(target==4))||(target==6))) (ID (name=(⟨#[109,105,110]⟩:b4b)) (LM (decide (name=(⟨#[109,105,110]⟩:b4b))) name target r) (ID (name=(⟨#[109,97,120]⟩:b4b)) (LM (decide (name=(⟨#[109,97,120]⟩:b4b))) name target r) (ID (name=(⟨#[108,101,110,103,116,104]⟩:b4b)) (LM (decide (name=(⟨#[108,101,110,103,116,104]⟩:b4b))) name target r) (LM (decide (name=(⟨#[115,101,99,114,101,116]⟩:b4b))) name target r))))):Pl bj12 name target r:=
 fJ hw<|KW 0 (KT 5 3<|KT 1 3<|KR 6)<|KW 7 (KJ 2)<|KW 6 (KJ 2)<|KW 6 (KJ 2)<|KJ 5
theorem vg(bj8:b4e)(name:b4b)(target:Int)(r:b4e)(hw:IF bj8 (r=((decide (1<=target))&&(decide (target<=6)))) (ID (name=(⟨#[97,108,105,97,115]⟩:b4b)) (Pl (decide (name=(⟨#[97,108,105,97,115]⟩:b4b))) name target r) (ID (name=(⟨#[115,105,110,99,101]⟩:b4b)) (Pl (decide (name=(⟨#[115,105,110,99,101]⟩:b4b))) name target r) (Pl (decide (name=(⟨#[117,110,116,105,108]⟩:b4b))) name target r)))):Rp bj8 name target r:=
 fJ hw<|KW 0 (KT 5 3<|KR 6)<|KW 7 (KJ 2)<|KW 6 (KJ 2)<|KJ 5
theorem a4w(name:b4b)(target:Int)(r:b4e)(hw:ID (name=(⟨#[100,101,112,114,101,99,97,116,101,100]⟩:b4b)) (Rp (decide (name=(⟨#[100,101,112,114,101,99,97,116,101,100]⟩:b4b))) name target r) (Rp (decide (name=(⟨#[100,111,99]⟩:b4b))) name target r)):Yi name target r:=
 fP hw<|KW 19 (KJ 2)<|KJ 5
theorem m5(n:Z5)(r:b4e)(hw:∃y1,Tk n.Name y1/\(IF ((y1 !=0)&&(n.Val.Kind==y1)) (∃y2,MD y1 n.Val y2/\(r=y2)) (r=false))):bC n r:=
 fP hw<|KC 10<|KT 8 6<|KW 1 (KC 3<|KR 5)<|KR 9
theorem b2q(p:A5)(o_:B0)(r:b4e)(hw:IF (o_.Kind==10) (r=(((decide (0<=o_.Target))&&(decide (o_.Target<(p.A7.length:Int))))&&(o_.D6 !=3))) (IF (o_.Kind==9) (r=((decide (0<=o_.Target))&&(decide (o_.Target<(p.C3.length:Int))))) (r=(o_.Target==(-1))))):Xh p o_ r:=
 fP hw<|KW 21 (J6 6 7 (decide (0<=o_.Target)) (λz=>aB (z&&(decide (o_.Target<(p.A7.length:Int))))) (λkey=>KL 4 H8 p.A7<|E3 2 key) (λkey=>E3 7 key)<|KT 1 4<|KR 6)<|KW 6 (J6 6 7 (decide (0<=o_.Target)) (λz=>aB (z&&(decide (o_.Target<(p.C3.length:Int))))) (λkey=>KL 4 L0 p.C3<|E3 2 key) (λkey=>E3 7 key)<|KR 6)<|KR 12
def VT(ij1:Int)(s:b4c C2)(f:B3)(r:Int):Prop:=JP Pg 114 (od r) 3 [(8,aI ij1),(7,aI (s.length:Int)),(0,.sl (List.map H6 s) .no),(1,.clo (.func f.fn) f.fi f.cap)]
theorem a94(ij1:Int)(s:b4c C2)(f:B3)(r:Int)(hw:ID (ij1<(s.length:Int)) (IX s ij1 λy3=>∃y4,N8 Pg [] (.clo (.func f.fn) f.fi f.cap) [.agg (H6 y3)] (aB y4)/\(IF y4 (r=ij1) (VT (wI (ij1+1)) s f r))) (r=(-1))):VT ij1 s f r:=
 fJ hw<|KW 7 (KI 15 H8<|KF 1<|KW 2 (KR 12)<|KJ 8)<|KR 11
theorem p8(s:b4c C2)(f:B3)(r:Int)(hw:VT 0 s f r):qB s f r:=
 fP hw<|KL 9 H8 s<|KJ 5
def Ta(ij7:Int)(v:A0)(x:M6)(g:C2)(r:Int):Prop:=J Pg 116 (.ret (Uu r)) 27 [(65,aI ij7),(64,aI (v.C1.length:Int)),(63,.sl (List.map G6 v.C1) .no),(5,.ptr 1 0),(4,.ptr 0 0)] ⟨[some (C7 x.p),some (H6 g)],[],[]⟩
def Nu(ij6:Int)(g:C2)(x:M6)(v:A0)(r:Int):Prop:=J Pg 116 (.ret (Uu r)) 18 [(47,aI ij6),(46,aI (g.Ops.length:Int)),(45,.sl (List.map E7 g.Ops) .no),(6,.ptr 2 0),(5,.ptr 1 0),(4,.ptr 0 0)] ⟨[some (C7 x.p),some (H6 g),some (C4 v)],[],[]⟩
def VN(ij4:Int)(v:A0)(level:Int)(x:M6)(g:C2)(r:Int):Prop:=J Pg 116 (.ret (Uu r)) 8 [(30,aI ij4),(29,aI (v.Slots.length:Int)),(6,.ptr 2 0),(5,.ptr 1 0),(4,.ptr 0 0),(3,aI level)] ⟨[some (C7 x.p),some (H6 g),some (C4 v)],[],[]⟩
theorem lR(ij7:Int)(v:A0)(x:M6)(g:C2)(r:Int)(hw:ID (ij7<(v.C1.length:Int)) (IX v.C1 ij7 λy23=>∃y24,bB x g y23 y24/\(IF (y24 !=0) (r=y24) (Ta (wI (ij7+1)) v x g r))) (r=0)):Ta ij7 v x g r:=
 fJ hw<|KW 7 (KI 6 N9<|KC 10<|KW 9 (KR 12)<|E1 8 [])<|KR 11
theorem ej(ij6:Int)(g:C2)(x:M6)(v:A0)(r:Int)(hw:ID (ij6<(g.Ops.length:Int)) (IX g.Ops ij6 λy25=>IF (y25.D6==1) (∃y26,UR v.Slots (⟨166,[],[.D3 (E7 y25) 0],by simp⟩:B3) y26/\(IF (!y26) (r=14) (Nu (wI (ij6+1)) g x v r))) (Nu (wI (ij6+1)) g x v r)) (Ta 0 v x g r)):Nu ij6 g x v r:=
 fJ hw<|KW 7 (KI 6 N2 λ{y25}=>Kb 6 3 [true,true,true,false] 0 [(12,.D3 (E7 y25) 0),(47,aI ij6),(46,aI (g.Ops.length:Int)),(45,.sl (List.map E7 g.Ops) .no),(6,.ptr 2 0),(5,.ptr 1 0),(4,.ptr 0 0)] [some (C7 x.p),some (H6 g),some (C4 v),none]<|KW 5 (KC 3<|KW 4 (KR 11)<|E1 8 [])<|E1 17 [])<|KL 10 N9 v.C1<|E1 5 []
theorem mS(ij4:Int)(v:A0)(level:Int)(x:M6)(g:C2)(r:Int)(hw:ID (ij4<(v.Slots.length:Int)) (∃y27,Yo x g v.Slots ij4 level y27/\(IF (y27 !=0) (r=y27) (VN (wI (ij4+1)) v level x g r))) (Nu 0 g x v r)):VN ij4 v level x g r:=
 fJ hw<|KW 7 (KC 18<|KW 9 (KR 12)<|KJ 8)<|KL 10 N2 g.Ops<|KJ 5
theorem n8(x:M6)(g:C2)(v:A0)(level r:Int)(hw:JN (λbz1:b4e=>IF bz1 (r=12) (ID (16<level) (r=17) (VN 0 v level x g r))) λR1=>IF (v.Kind !=10) (R1 true) (∃y1,Lg v y1/\(R1 y1))):MR x g v level r:=
 fP hw<|KQ 16 3 kB (KW 3 (KR 8)<|KW 7 (KR 8)<|KL 8 C6 v.Slots<|KJ 5) (λkey=>KE 3 key) λkey=>KC 1<|KE 1 key
def VE(ij1:Int)(y1:b4c A0)(ij2 r:Int):Prop:=JP Pg 117 (pO r) 4 [(13,aI ij1),(12,aI (y1.length:Int)),(11,.sl (List.map H3 y1) .no),(3,aI ij2)]
theorem wL(ij1:Int)(y1:b4c A0)(ij2 r:Int)(hw:ID (ij1<(y1.length:Int)) (IX y1 ij1 λy4=>∃y5,Mx y4 y5/\(VE (wI (ij1+1)) y1 (wI (ij2+y5)) r)) (r=ij2)):VE ij1 y1 ij2 r:=
 fJ hw<|KW 7 (KI 6 I4<|KC 8<|E1 10 [])<|KR 12
theorem sL(v:A0)(r:Int)(hw:∃y1,ZQ v y1/\(VE 0 y1 (wI (1+(v.C1.length:Int))) r)):Mx v r:=
 fP hw<|KL 10 N9 v.C1<|KC 8 λ{y1}=>KL 0 I4 y1<|E1 5 []
theorem a23(g:C2)(num:Int)(r:B0 × b4e)(hw:∃y1,lD (⟨(⟨169,[],[.D3 [aI num] 0],by simp⟩:B3)⟩:Fl) g y1/\(r=(y1.1,y1.2))):JY g num r:=
 fP hw<|Kb 9 1 [true,false,true] 0 [(4,.ptr 2 0),(3,.D3 [aI num] 0),(2,.ptr 0 0)] [some (H6 g),none,some [aI 0,aE,aE,aI 0,aI 0,aI 0,aI 0,aI 0]]<|KC 4<|KR 7
theorem mY(r:G3):plain (Rz r)/\(AR r).all ok1/\D4 [true] 1 (AR r)/\(Fk r).length=1:=⟨pf r,LS _,pz _,rfl⟩
theorem d5(mg:Int)(w:G3)(o_:B0)(name:b4b)(v:A0)(r:G3)(hw:IF (o_.Kind !=10) (∃y1,Zo mg w.p o_ v y1/\((w.parts.length+[(E5.EC (⟨name,y1⟩:FN))].length)*16<=140737488355328/\(r=(⟨w.p,(w.parts++[(E5.EC ⟨name,y1⟩)])⟩:G3)))) ((w.parts.length+[(E5.Dy (⟨name⟩:FJ))].length)*16<=140737488355328/\(∃y2,Vu mg (⟨w.p,(w.parts++[(E5.Dy ⟨name⟩)])⟩:G3) o_.Target v y2/\((y2.parts.length+[(E5.Dx (⟨⟩:Fg))].length)*16<=140737488355328/\(r=(⟨y2.p,(y2.parts++[(E5.Dx ⟨⟩)])⟩:G3)))))):Pb mg w o_ name v r:=
 dj hw<|KW 14 (KD 1 [0,1,2]<|BW 12<|KA 3 Oi mE<|eD 8 mY)<|KA 13 Oi mE<|WH 11 qg<|KA 11 Oi mE<|eD 4 mY
theorem zE(s r:b4c D8)(hw:s=[]/\r=[]):oQ s r:=by
 obtain⟨rfl,rfl⟩:=hw;exact fP (V:=∀b:b4e,(([]:(b4c D8))≠[]->b=false)->IF b (([]:(b4c D8))=[]) (([]:(b4c D8))=[])) (λb _=>⟨λ_=>rfl,λ_=>rfl⟩) (KN 9 N9 (KW 2 (KR 7) (db (b:=40) (sz:=4) 6 (KR 4))))
def UX(ij1:Int)(lj2 r:b4c (Int × A0)):Prop:=J Pg 121 (.ret (Wz r)) 6 [(13,aI ij1),(12,aI (([]:b4c (Int × A0)).length:Int)),(11,.sl (List.map D2 ([]:b4c (Int × A0))) .no),(4,.sl (List.map D2 lj2) (.own 0)),(3,.sl (List.map D2 ([]:b4c (Int × A0))) .no)] ⟨[],[(lj2.length,8)],[]⟩
def Nw(ij3:Int)(y7 lj4 r:b4c (Int × A0)):Prop:=J Pg 121 (.ret (Wz r)) 6 [(13,aI ij3),(12,aI (y7.length:Int)),(11,.sl (List.map D2 y7) .no),(4,.sl (List.map D2 lj4) (.own 0)),(3,.sl (List.map D2 y7) .no)] ⟨[],[(lj4.length,8)],[]⟩
theorem vM(ij1:Int)(lj2 r:b4c (Int × A0))(hw:ID (ij1<(([]:b4c (Int × A0)).length:Int)) (IX ([]:b4c (Int × A0)) ij1 λy4=>JN (λbz2:b4e=>IF bz2 ((lj2.length+[y4].length)*136<=140737488355328/\(UX (wI (ij1+1)) (lj2++[y4]) r)) (UX (wI (ij1+1)) lj2 r)) λR2=>IF ((wI (ij1+1))==(([]:b4c (Int × A0)).length:Int)) (R2 true) (IX ([]:b4c (Int × A0)) (wI (ij1+1)) λy6=>R2 (y4.1 !=y6.1))) (r=lj2)):UX ij1 lj2 r:=
 fJ hw<|KW 7 (KI 7 C6<|KD 7 [0]<|KL 3 C6 ([]:b4c (Int × A0))<|KQ 2 11 kB (KW 2 (KA 4 C6 mE<|E1 9 [])<|E1 8 []) (λkey=>KE 11 key) λkey=>KI 5 C6<|KE 5 key)<|KR 12
theorem WY(ij3:Int)(y7 lj4 r:b4c (Int × A0))(hw:ID (ij3<(y7.length:Int)) (IX y7 ij3 λy11=>JN (λbz4:b4e=>IF bz4 ((lj4.length+[y11].length)*136<=140737488355328/\(Nw (wI (ij3+1)) y7 (lj4++[y11]) r)) (Nw (wI (ij3+1)) y7 lj4 r)) λR4=>IF ((wI (ij3+1))==(y7.length:Int)) (R4 true) (IX y7 (wI (ij3+1)) λy13=>R4 (y11.1 !=y13.1))) (r=lj4)):Nw ij3 y7 lj4 r:=
 fJ hw<|KW 7 (KI 7 C6<|KD 7 [0]<|KL 3 C6 y7<|KQ 2 11 kB (KW 2 (KA 4 C6 mE<|E1 9 [])<|E1 8 []) (λkey=>KE 11 key) λkey=>KI 5 C6<|KE 5 key)<|KR 12
theorem pU(l r:b4c (Int × A0))(hw:(l=[]->nH l ([]:b4c (Int × A0))/\(fR (⟨173,[],[],rfl⟩:B3)/\(UX 0 ([]:b4c (Int × A0)) r)))/\(l≠[]->kj l/\(∃y7,ah l.length l (⟨173,[],[],rfl⟩:B3) y7/\(l≠[]/\y7≠[])/\(y7.length=l.length/\(Nw 0 y7 ([]:b4c (Int × A0)) r))))):PM l r:=
 fP hw<|vE l (λhb1=>Db 8<|Db 6<|KL 11 C6 ([]:b4c (Int × A0))<|KO 5 4 8<|KJ 0) λhb1=>di 8 C6 hb1<|V5 6 C6 a77 λ{y7}=>qo 2 C6 0 [false] 0 1 [(3,.sl (List.map D2 y7) .no)] [none]<|KL 9 C6 y7<|KO 5 4 8<|E1 0 []
def RS(ij1:Int)(v:A0)(p:A5)(o_:B0)(lj2:b4c A0)(r:A0):Prop:=J Pg 122 (.ret (Wj r)) 7 [(21,aI ij1),(20,aI (v.B4.length:Int)),(19,.sl (List.map H3 v.B4) .no),(7,.ptr 4 0),(6,.ptr 3 0),(4,.ptr 1 0),(3,.ptr 0 0)] ⟨[some (C7 p),some (E7 o_),none,some zV,some [aI 11,aU 0,aE,.sl (List.map H3 lj2) (.own 0),.nil,.nil,.nil]],[(lj2.length,7)],[]⟩
def Qx(ij3:Int)(y5:b4c (A0 × A0))(p:A5)(o_:B0)(lj4:b4c (A0 × A0))(r:A0):Prop:=J Pg 122 (.ret (Wj r)) 17 [(43,aI ij3),(42,aI (y5.length:Int)),(41,.sl (List.map D1 y5) .no),(10,.ptr 4 0),(6,.ptr 3 0),(4,.ptr 1 0),(3,.ptr 0 0)] ⟨[some (C7 p),some (E7 o_),none,some zV,some [aI 12,aU 0,aE,.nil,.sl (List.map D1 lj4) (.own 0),.nil,.nil]],[(lj4.length,14)],[]⟩
theorem gZ(ij1:Int)(v:A0)(p:A5)(o_:B0)(lj2:b4c A0)(r:A0)(hw:ID (ij1<(v.B4.length:Int)) (IX v.B4 ij1 λy3=>∃y4,PX p o_ y3 y4/\((lj2.length+[y4].length)*128<=140737488355328/\(RS (wI (ij1+1)) v p o_ (lj2++[y4]) r))) (r=(⟨11,0,⟨#[]⟩,lj2,[],[],[]⟩:A0))):RS ij1 v p o_ lj2 r:=
 fJ hw<|KW 7 (KI 6 I4<|KD 5 [0,1,4,5]<|KC 5<|KA 2 I4 mE<|E1 10 [])<|KR 14
theorem mr(ij3:Int)(y5:b4c (A0 × A0))(p:A5)(o_:B0)(lj4:b4c (A0 × A0))(r:A0)(hw:ID (ij3<(y5.length:Int)) (IX y5 ij3 λy9=>∃y10,Qy y9.1 y10/\(∃y11,PX p o_ y9.2 y11/\((lj4.length+[(y10,y11)].length)*256<=140737488355328/\(Qx (wI (ij3+1)) y5 p o_ (lj4++[(y10,y11)]) r)))) (r=(⟨12,0,⟨#[]⟩,[],lj4,[],[]⟩:A0))):Qx ij3 y5 p o_ lj4 r:=
 fJ hw<|KW 7 (KI 6 B8<|KD 5 [0,1,4,5]<|KC 4<|KC 4<|KA 3 B8 mE<|E1 10 [])<|KR 14
theorem a2h(p:A5)(o_:B0)(v r:A0)(hw:IF (o_.D6==4) (RS 0 v p o_ ([]:b4c A0) r) (IF (o_.D6==5) (∃y5,UP v.Pairs y5/\(Qx 0 y5 p o_ ([]:b4c (A0 × A0)) r)) (∃y12,PX p o_ v y12/\(r=y12)))):ck p o_ v r:=
 fP hw<|KW 22 (KL 12 I4 v.B4<|Kf 5 4 3 7<|E1 0 [])<|KW 6 (KC 12 λ{y5}=>KL 0 B8 y5<|Kf 5 4 4 14<|E1 0 [])<|KC 8<|KR 4
theorem a6h(v:A0)(r:b4e)(hw:IF (((v.Kind==11)&&((v.B4.length:Int)==0))||((v.Kind==12)&&((v.Pairs.length:Int)==0))) (r=true) (∃y1,Wq v y1/\(r=y1))):WX v r:=
 fP hw<|J6 12 5 (v.Kind==11) (λz=>aB (z&&((v.B4.length:Int)==0))) (λkey=>KL 2 I4 v.B4<|E3 2 key) (λkey=>E3 5 key)<|J6 1 10 ((v.Kind==11)&&((v.B4.length:Int)==0)) (λz=>aB (z||((v.Kind==12)&&((v.Pairs.length:Int)==0)))) (λkey=>E3 10 key) (λkey=>J6 4 5 (v.Kind==12) (λz=>aB (z&&((v.Pairs.length:Int)==0))) (λkey=>KL 2 B8 v.Pairs<|E3 2 key) (λkey=>E3 5 key)<|E3 1 key)<|KW 1 (KR 7)<|KC 1<|KR 5
theorem l9(x y r:Int)(hw:∃y1,bu x y1/\(∃y2,bu y y2/\(IF y1 (IF y2 (r=0) (r=(-1))) (IF y2 (r=1) (ID (x<y) (r=(-1)) (ID (y<x) (r=1) (r=0))))))):Fi x y r:=
 fP hw<|KC 8<|KC 6<|KW 9 (KW 6 (KR 8)<|KR 9)<|KW 8 (KR 7)<|KW 10 (KR 7)<|KW 10 (KR 7)<|KR 8
theorem Yx(x y:Int)(r:Int × Int)(hw:r=((wU ((wU ((wU ((x.fdiv (2 ^ min (32:Int).toNat IntKind.u64.bits))*(y.fdiv (2 ^ min (32:Int).toNat IntKind.u64.bits))))+((wU ((wU ((x.fdiv (2 ^ min (32:Int).toNat IntKind.u64.bits))*(G5 .and .u64 y 4294967295)))+((wU ((G5 .and .u64 x 4294967295)*(G5 .and .u64 y 4294967295))).fdiv (2 ^ min (32:Int).toNat IntKind.u64.bits)))).fdiv (2 ^ min (32:Int).toNat IntKind.u64.bits))))+((wU ((G5 .and .u64 (wU ((wU ((x.fdiv (2 ^ min (32:Int).toNat IntKind.u64.bits))*(G5 .and .u64 y 4294967295)))+((wU ((G5 .and .u64 x 4294967295)*(G5 .and .u64 y 4294967295))).fdiv (2 ^ min (32:Int).toNat IntKind.u64.bits)))) 4294967295)+(wU ((G5 .and .u64 x 4294967295)*(y.fdiv (2 ^ min (32:Int).toNat IntKind.u64.bits)))))).fdiv (2 ^ min (32:Int).toNat IntKind.u64.bits)))),(wU (x*y)))):kp x y r:=
 fP hw<|KR 99
theorem fZ(s prefix_:b4b)(r:b4e)(hw:ID ((prefix_.size:Int)<=(s.size:Int)) (SS s (0:Int) (prefix_.size:Int) (r=(decide ((s.extract (0:Int).toNat (prefix_.size:Int).toNat)=prefix_)))) (r=false)):fC s prefix_ r:=
 fP hw<|KW 13 (BF 3<|KR 7)<|KR 11
def Rq(ij7:Int)(p:A5)(v:A0)(y2:C2)(r:Int):Prop:=J Pg 132 (.ret (Vc r)) 32 [(16,aI ij7),(9,.ptr 2 0),(6,.ptr 1 0),(4,.ptr 0 0)] ⟨[some (C7 p),some (C4 v),some (H6 y2)],[],[]⟩
def PO(ij6:Int)(p:A5)(v:A0)(y2:C2)(r:Int):Prop:=J Pg 132 (.ret (Vc r)) 24 [(15,aI ij6),(9,.ptr 2 0),(6,.ptr 1 0),(4,.ptr 0 0)] ⟨[some (C7 p),some (C4 v),some (H6 y2)],[],[]⟩
def UF(ij4 level:Int)(p:A5)(v:A0)(y2:C2)(r:Int):Prop:=J Pg 132 (.ret (Vc r)) 10 [(10,aI ij4),(9,.ptr 2 0),(6,.ptr 1 0),(4,.ptr 0 0),(3,aI level)] ⟨[some (C7 p),some (C4 v),some (H6 y2)],[],[]⟩
theorem mW(ij7:Int)(p:A5)(v:A0)(y2:C2)(r:Int)(hw:ID (ij7<(v.C1.length:Int)) (IX v.C1 ij7 λy34=>∃y35,ZN p y2 y34 y35/\(IF (!y35) (r=1) (IF (((y34.J0==3)&&(decide (4096<(y34.Data.size:Int))))||(decide (65536<(y34.Data.size:Int)))) (r=3) (Rq (wI (ij7+1)) p v y2 r)))) (r=0)):Rq ij7 p v y2 r:=
 fJ hw<|KL 7 N9 v.C1<|KW 3 (KI 9 N9<|KC 11<|KW 3 (KR 12)<|KT 8 5<|KT 1 5<|KW 2 (KR 11)<|E1 9 [])<|KR 11
theorem iO(ij6:Int)(p:A5)(v:A0)(y2:C2)(r:Int)(hw:ID (ij6<(y2.Ops.length:Int)) (IX y2.Ops ij6 λy36=>IF (y36.D6==1) (IX y2.Ops ij6 λy38=>∃y39,Yr v y38.Num y39/\(IF (!y39) (r=14) (PO (wI (ij6+1)) p v y2 r))) (PO (wI (ij6+1)) p v y2 r)) (Rq 0 p v y2 r)):PO ij6 p v y2 r:=
 fJ hw<|KL 7 N2 y2.Ops<|KW 3 (KD 5 [1,2]<|KI 3 N2<|KW 4 (KI 4 N2<|KC 3<|KW 4 (KR 11)<|KJ 9)<|KJ 23)<|KJ 13
theorem qS(ij4 level:Int)(p:A5)(v:A0)(y2:C2)(r:Int)(hw:ID (ij4<(v.Slots.length:Int)) (∃y40,dF y2 v.Slots ij4 y40/\(IF (y40 !=0) (r=y40) (IX v.Slots ij4 λy41=>∃y42,JV y2 y41.1 y42/\(IX v.Slots ij4 λy43=>∃y44,ZI p y42.1 y43.2 level y44/\(IF (y44 !=0) (r=y44) (UF (wI (ij4+1)) level p v y2 r)))))) (PO 0 p v y2 r)):UF ij4 level p v y2 r:=
 fJ hw<|KL 7 C6 v.Slots<|KW 3 (KC 11<|KW 9 (KR 13)<|KD 3 [1,2]<|KI 4 C6<|KC 2<|KV 4<|KD 5 [0,1,3]<|KI 5 C6<|KC 4<|KW 9 (KR 12)<|E1 9 [])<|KJ 13
theorem ym(p:A5)(prog:Int)(v:A0)(level r:Int)(hw:JN (λbz1:b4e=>IF bz1 (r=12) (ID (16<level) (r=17) (IX p.A7 prog λy2=>UF 0 level p v y2 r))) λR1=>IF (v.Kind !=10) (R1 true) (∃y1,MS v y1/\(R1 y1))):Ks p prog v level r:=
 fP hw<|KQ 14 3 kB (KW 2 (KR 7)<|KW 9 (KR 7)<|KI 7 H8<|KJ 13) (λkey=>KE 3 key) λkey=>KC 1<|KE 1 key
def UW(ij13 ij14:Int)(v:A0)(r:Int):Prop:=J Pg 133 (.ret (Ql r)) 16 [(6,aI ij13),(3,aI ij14),(1,.ptr 0 0)] ⟨[some (C4 v)],[],[]⟩
def Ry(ij11 ij12:Int)(v:A0)(r:Int):Prop:=J Pg 133 (.ret (Ql r)) 10 [(5,aI ij11),(3,aI ij12),(1,.ptr 0 0)] ⟨[some (C4 v)],[],[]⟩
def VF(ij7 ij8:Int)(v:A0)(r:Int):Prop:=J Pg 133 (.ret (Ql r)) 4 [(4,aI ij7),(3,aI ij8),(1,.ptr 0 0)] ⟨[some (C4 v)],[],[]⟩
theorem a2l(ij13 ij14:Int)(v:A0)(r:Int)(hw:ID (ij13<(v.Slots.length:Int)) (IX v.Slots ij13 λy29=>∃y30,Ds y29.2 y30/\(UW (wI (ij13+1)) (wI (ij14+y30)) v r)) (r=ij14)):UW ij13 ij14 v r:=
 fJ hw<|KL 7 C6 v.Slots<|KW 3 (KI 9 C6<|KC 2<|KJ 11)<|KR 12
theorem v8(ij11 ij12:Int)(v:A0)(r:Int)(hw:ID (ij11<(v.Pairs.length:Int)) (IX v.Pairs ij11 λy31=>∃y32,Ds y31.1 y32/\(IX v.Pairs ij11 λy33=>∃y34,Ds y33.2 y34/\(Ry (wI (ij11+1)) (wI (ij12+(wI (y32+y34)))) v r))) (UW 0 ij12 v r)):Ry ij11 ij12 v r:=
 fJ hw<|KL 7 B8 v.Pairs<|KW 3 (KD 4 [0]<|KI 4 B8<|KC 2<|KI 3 B8<|KC 2<|KJ 13)<|KJ 13
theorem yO(ij7 ij8:Int)(v:A0)(r:Int)(hw:ID (ij7<(v.B4.length:Int)) (IX v.B4 ij7 λy35=>∃y36,Ds y35 y36/\(VF (wI (ij7+1)) (wI (ij8+y36)) v r)) (Ry 0 ij8 v r)):VF ij7 ij8 v r:=
 fJ hw<|KL 7 I4 v.B4<|KW 3 (KI 9 I4<|KC 1<|KJ 11)<|KJ 13
theorem a1a(v:A0)(r:Int)(hw:VF 0 (wI (1+(v.C1.length:Int))) v r):Ds v r:=
 fP hw<|KL 10 N9 v.C1<|KJ 12
def Ua(ij1 num:Int)(g:C2)(r:B0 × b4e):Prop:=J Pg 134 (.ret (lZ r)) 3 [(6,aI ij1),(4,.ptr 1 0),(2,.ptr 0 0),(1,aI num)] ⟨[some (H6 g),some [aI 0,aE,aE,aI 0,aI 0,aI 0,aI 0,aI 0]],[],[]⟩
theorem Wc(ij1 num:Int)(g:C2)(r:B0 × b4e)(hw:ID (ij1<(g.Ops.length:Int)) (IX g.Ops ij1 λy3=>IF (y3.Num==num) (IX g.Ops ij1 λy4=>r=(y4,true)) (Ua (wI (ij1+1)) num g r)) (r=((⟨0,⟨#[]⟩,⟨#[]⟩,0,0,0,0,0⟩:B0),false))):Ua ij1 num g r:=
 fJ hw<|KL 7 N2 g.Ops<|KW 3 (KI 9 N2<|KW 6 (KI 5 N2<|KR 11)<|KJ 9)<|KR 13
theorem a4s(g:C2)(num:Int)(r:B0 × b4e)(hw:Ua 0 num g r):JV g num r:=
 fP hw<|KJ 15
def QE(ij1:Int)(lj2 y2 r:b4c b4b):Prop:=J Pg 135 (.ret (Zr r)) 7 [(32,aI ij1),(9,.sl (List.map K8 lj2) (.own 0)),(31,aI (y2.length:Int)),(30,.sl (List.map K8 y2) .no)] ⟨[],[(lj2.length,1)],[]⟩
def jk(y2:b4c b4b)(name:b4b)(r:b4c b4b):Prop:=JP Pg 135 (Zr r) 7 [(32,aI 0),(31,aI (y2.length:Int)),(30,.sl (List.map K8 y2) .no),(9,.sl [[aS (name++(⟨#[32,123]⟩:b4b))]] .full)]
theorem mo(ij1:Int)(lj2 y2 r:b4c b4b)(hw:ID (ij1<(y2.length:Int)) (IX y2 ij1 λy6=>CT (⟨#[32,32]⟩:b4b) y6 ((lj2.length+[((⟨#[32,32]⟩:b4b)++y6)].length)*16<=140737488355328/\(QE (wI (ij1+1)) (lj2++[((⟨#[32,32]⟩:b4b)++y6)]) y2 r))) ((lj2.length+[(⟨#[125]⟩:b4b)].length)*16<=140737488355328/\(r=(lj2++[(⟨#[125]⟩:b4b)])))):QE ij1 lj2 y2 r:=
 fJ hw<|KW 7 (KI 6 O4<|I8 7<|KA 1 O4 mE<|KJ 9)<|KA 9 O4 mE<|KR 4
theorem sH(y2:b4c b4b)(name:b4b)(r:b4c b4b)(hw:ID (0<(y2.length:Int)) (IX y2 (0:Int) λy4=>CT (⟨#[32,32]⟩:b4b) y4 (([(name++(⟨#[32,123]⟩:b4b))].length+[((⟨#[32,32]⟩:b4b)++y4)].length)*16<=140737488355328/\[((⟨#[32,32]⟩:b4b)++y4)]≠[]/\(QE 1 ([(name++(⟨#[32,123]⟩:b4b))]++[((⟨#[32,32]⟩:b4b)++y4)]) y2 r))) (([(name++(⟨#[32,123]⟩:b4b))].length+[(⟨#[125]⟩:b4b)].length)*16<=140737488355328/\[(⟨#[125]⟩:b4b)]≠[]/\(r=([(name++(⟨#[32,123]⟩:b4b))]++[(⟨#[125]⟩:b4b)])))):jk y2 name r:=
 fJ hw<|KW 7 (KI 6 O4<|I8 7<|Cm 1 O4 mE xE<|KJ 9)<|Cm 9 O4 mE xE<|KR 4
theorem ta(p:A5)(o_:B0)(name:b4b)(v:A0)(r:b4c b4b)(hw:IF (o_.Kind !=10) (CT name (⟨#[58,32]⟩:b4b) (∃y1,Xx p o_ v y1/\(CT (name++(⟨#[58,32]⟩:b4b)) y1 (r=([((name++(⟨#[58,32]⟩:b4b))++y1)]:(b4c b4b)))))) (CT name (⟨#[32,123]⟩:b4b) (∃y2,Vr p o_.Target v y2/\(jk y2 name r)))):NS p o_ name v r:=
 fP hw<|KW 16 (I8 3<|KC 3<|I8 0<|KR 6)<|I8 5<|KC 11 λ{y2}=>KL 0 O4 y2<|E1 5 []
def wE(ij5 ij4:Int)(lj3 l r:b4c D8):Prop:=JP Pg 136 (Xj r) 10 [(5,aI ij5),(4,aI ij4),(3,.sl (List.map G6 lj3) .no),(0,.sl (List.map G6 l) .no)]
def eW(ij4:Int)(lj3 l r:b4c D8):Prop:=JP Pg 136 (Xj r) 4 [(4,aI ij4),(3,.sl (List.map G6 lj3) .no),(0,.sl (List.map G6 l) .no)]
theorem a1d(ij4:Int)(lj3 l r:b4c D8)(hw:ID (ij4<(l.length:Int)) (wE (lj3.length:Int) ij4 lj3 l r) (r=lj3)):eW ij4 lj3 l r:=
 fJ hw<|KL 6 N9 l<|KW 3 (KL 7 N9 lj3<|KJ 6)<|KR 12
theorem xj(l r:b4c D8)(hw:eW 0 ([]:(b4c D8)) l r):aQ l r:=
 fP hw<|QI 18 [3]
def Vn(ij1:Int)(p:A5)(o_:B0)(v:A0)(lj2:b4c A0)(r:A0):Prop:=J Pg 137 (.ret (cz r)) 7 [(8,aI ij1),(7,.ptr 4 0),(6,.ptr 3 0),(5,.ptr 2 0),(4,.ptr 1 0),(3,.ptr 0 0)] ⟨[some (C7 p),some (E7 o_),some (C4 v),some zV,some [aI 11,aU 0,aE,.sl (List.map H3 lj2) (.own 0),.nil,.nil,.nil]],[(lj2.length,7)],[]⟩
def Qh(ij3:Int)(y5:b4c (A0 × A0))(p:A5)(o_:B0)(lj4:b4c (A0 × A0))(r:A0):Prop:=J Pg 137 (.ret (cz r)) 17 [(11,aI ij3),(10,.sl (List.map D1 y5) .no),(9,.ptr 4 0),(6,.ptr 3 0),(4,.ptr 1 0),(3,.ptr 0 0)] ⟨[some (C7 p),some (E7 o_),none,some zV,some [aI 12,aU 0,aE,.nil,.sl (List.map D1 lj4) (.own 0),.nil,.nil]],[(lj4.length,14)],[]⟩
theorem hO(ij1:Int)(p:A5)(o_:B0)(v:A0)(lj2:b4c A0)(r:A0)(hw:ID (ij1<(v.B4.length:Int)) (IX v.B4 ij1 λy3=>∃y4,PS p o_ y3 y4/\((lj2.length+[y4].length)*128<=140737488355328/\(Vn (wI (ij1+1)) p o_ v (lj2++[y4]) r))) (r=(⟨11,0,⟨#[]⟩,lj2,[],[],[]⟩:A0))):Vn ij1 p o_ v lj2 r:=
 fJ hw<|KL 7 I4 v.B4<|KW 3 (KD 4 [0,1,2,4]<|KI 7 I4<|KC 1<|KA 2 I4 mE<|KJ 11)<|KR 14
theorem fw(ij3:Int)(y5:b4c (A0 × A0))(p:A5)(o_:B0)(lj4:b4c (A0 × A0))(r:A0)(hw:ID (ij3<(y5.length:Int)) (IX y5 ij3 λy10=>∃y11,Sq y10.1 y11/\(IX y5 ij3 λy12=>∃y13,PS p o_ y12.2 y13/\((lj4.length+[(y11,y13)].length)*256<=140737488355328/\(Qh (wI (ij3+1)) y5 p o_ (lj4++[(y11,y13)]) r)))) (r=(⟨12,0,⟨#[]⟩,[],lj4,[],[]⟩:A0))):Qh ij3 y5 p o_ lj4 r:=
 fJ hw<|KL 6 B8 y5<|KW 3 (KD 4 [0,1,4]<|KI 4 B8<|KC 2<|KI 4 B8<|KC 2<|KA 3 B8 mE<|KJ 11)<|KR 14
theorem vW(p:A5)(o_:B0)(v r:A0)(hw:IF (o_.D6==4) (Vn 0 p o_ v ([]:b4c A0) r) (IF (o_.D6==5) (∃y5,TH v.Pairs y5/\(Qh 0 y5 p o_ ([]:b4c (A0 × A0)) r)) (∃y14,PS p o_ v y14/\(r=y14)))):bW p o_ v r:=
 fP hw<|KW 22 (Kf 15 4 3 7<|KJ 0)<|KW 6 (KC 11<|Kf 11 4 4 14<|E1 0 [])<|KC 8<|KR 4
theorem a3o(v:A0)(r:b4e)(hw:IF (v.Kind==11) (r=((v.B4.length:Int)==0)) (IF (v.Kind==12) (r=((v.Pairs.length:Int)==0)) (∃y1,Xa v y1/\(r=y1)))):YC v r:=
 fP hw<|KW 20 (KL 4 I4 v.B4<|KR 7)<|KW 6 (KL 4 B8 v.Pairs<|KR 7)<|KC 6<|KR 4
def Rk(s:b4b)(nj1:Nat)(r:Int):Prop:=J Pg 139 (.ret (nB r)) 3 [(6,.ptr 0 0),(0,aS s)] ⟨[some [.it s nj1]],[],[]⟩
theorem lK(s:b4b)(nj1:Nat)(r:Int)(hw:(nj1<s.size->∃y2,Vd s ((nj1:Nat):Int) (Utf8.decode s nj1).1 y2/\(IF y2 (r=((nj1:Nat):Int)) (Rk s (nj1+(Utf8.decode s nj1).2) r)))/\(¬nj1<s.size->r=(-1))):Rk s nj1 r:=
 fJ hw<|KX 3 (KC 21<|KW 2 (KR 11)<|KJ 3)<|KR 16
theorem zm(s:b4b)(r:Int)(hw:Rk s 0 r):gn s r:=
 fP hw<|KJ 14
theorem b1d(b:b4e)(r:b4b)(hw:IF b (r=(⟨#[116,114,117,101]⟩:b4b)) (r=(⟨#[102,97,108,115,101]⟩:b4b))):ll b r:=
 fP hw<|KW 11 (KR 7)<|KR 8
theorem a93(bits r:Int)(hw:IF (((G5 .and .u64 bits 9218868437227405312)==9218868437227405312)&&((G5 .and .u64 bits 4503599627370495) !=0)) (r=0) (IF ((G5 .and .u64 bits 9218868437227405312)==9218868437227405312) (r=1) (IF (((G5 .and .u64 bits 9218868437227405312)==0)&&((G5 .and .u64 bits 4503599627370495)==0)) (r=2) (IF ((G5 .and .u64 bits 9218868437227405312)==0) (r=3) (r=4))))):Ou bits r:=
 fP hw<|KT 22 3<|KW 3 (KR 8)<|KW 7 (KR 8)<|KT 5 3<|KW 3 (KR 8)<|KW 7 (KR 8)<|KR 9
theorem uR(s:b4b)(at_ c:Int)(r:b4b)(hw:IF (c==34) (r=(⟨#[92,34]⟩:b4b)) (IF (c==92) (r=(⟨#[92,92]⟩:b4b)) (IF (c==10) (r=(⟨#[92,110]⟩:b4b)) (IF (c==9) (r=(⟨#[92,116]⟩:b4b)) (IF (c==13) (r=(⟨#[92,114]⟩:b4b)) (JN (λbz1:b4e=>IF bz1 (SI s at_ (∃y2,XL (E2 s at_.toNat) y2/\(r=y2))) (r=(Utf8.encode c))) λR1=>IF ((decide (c<32))||(c==127)) (R1 true) (∃y1,Vd s at_ c y1/\(R1 y1)))))))):XH s at_ c r:=
 fP hw<|KW 14 (KR 8)<|KW 7 (KR 8)<|KW 7 (KR 8)<|KW 7 (KR 8)<|KW 7 (KR 8)<|KT 5 3<|KQ 1 5 kB (KW 3 (Z2 4<|KC 0<|KR 6)<|KR 11) (λkey=>KE 5 key) λkey=>KC 3<|KE 1 key
def Qw(ij1:Int)(s:b4c O5)(f:B3)(r:Int):Prop:=JP Pg 151 (kC r) 3 [(8,aI ij1),(7,aI (s.length:Int)),(0,.sl (List.map V7 s) .no),(1,.clo (.func f.fn) f.fi f.cap)]
theorem TT(ij1:Int)(s:b4c O5)(f:B3)(r:Int)(hw:ID (ij1<(s.length:Int)) (IX s ij1 λy3=>∃y4,N8 Pg [] (.clo (.func f.fn) f.fi f.cap) [.agg (V7 y3)] (aB y4)/\(IF y4 (r=ij1) (Qw (wI (ij1+1)) s f r))) (r=(-1))):Qw ij1 s f r:=
 fJ hw<|KW 7 (KI 15 W1<|KF 1<|KW 2 (KR 12)<|KJ 8)<|KR 11
theorem tY(s:b4c O5)(f:B3)(r:Int)(hw:Qw 0 s f r):mh s f r:=
 fP hw<|KL 9 W1 s<|KJ 5
theorem wh(kind:Int)(r:b4e)(hw:r=((kind==2)||(kind==3))):kM kind r:=
 fP hw<|KT 10 3<|KR 4
def Uc(ij1:Int)(s:b4b)(r:Int):Prop:=JP Pg 156 (qc r) 3 [(3,aI ij1),(0,aS s)]
theorem ig(ij1:Int)(s:b4b)(r:Int)(hw:ID (ij1<(s.size:Int)) (∃y2,TD s ij1 y2/\(IF (y2==0) (r=ij1) (Uc (wI (ij1+y2)) s r))) (r=(-1))):Uc ij1 s r:=
 fJ hw<|KW 10 (KC 7<|KW 10 (KR 12)<|KJ 10)<|KR 11
theorem a26(s:b4b)(r:Int)(hw:Uc 0 s r):kQ s r:=
 fP hw<|KJ 13
end
section
attribute [local irreducible] Ok run put N0 br jn pos Fo Eu So
attribute [-simp] List.map_take List.map_drop List.map_append List.map_set List.map_replicate List.map_cons List.map_map
attribute [local simp] plain B7 X3 Q5 I0 low D4 H7 Q4 S8 S7 P8 P6 Q9 S4 R0 S6 P9 S0 S5 U5 P5 T6 T1 U1 T5 U8 T0 V1 T9 U7 T8 V0 V3 W3 W5 X1 X6 Y7 Y5 Z9 AS AO Ae Ak Au Ar BP BO Bj Bd Bw Bu CY Cg Cw DP DH Df Ef Em EN EU Ei W0 BI EX EY CB BL K8 Ev IY Ge Gm He IV Ia IZ IK Gy Hi GM GC Hj Ib IS Hb HC Gd GV Hs Ic Hg Gj GT HB HU Hr Hx HT Gz GL Ie GY HZ Gl IU GN IG Ht Gk Gn Gv HH HJ Ga Hp GU IW Ij GS IJ IA IR Gg Hu Hn GP Gw GW IM HQ HG Gt Gc Gr Hq IP HI Gq If IE GO Hy Hc Hd GK GX HS Hm GH GR HL Jf
theorem zy(s:b4b)(i r:Int)(hw:SI s i (ID ((E2 s i.toNat)<128) (r=1) (JN (λbz1:b4e=>IF bz1 (r=2) (JN (λbz2:b4e=>JN (λbz3:b4e=>IF bz3 (r=3) (JN (λbz4:b4e=>JN (λbz5:b4e=>IF bz5 (r=3) (JN (λbz6:b4e=>IF bz6 (r=3) (JN (λbz7:b4e=>JN (λbz8:b4e=>IF bz8 (r=4) (JN (λbz9:b4e=>IF bz9 (r=4) (JN (λbz10:b4e=>IF bz10 (∃y11,FC s (wI (i+2)) 2 y11/\(IF y11 (r=4) (r=0))) (r=0)) λR10=>IF ((E2 s i.toNat)==244) (∃y10,Jw s (wI (i+1)) 128 143 y10/\(R10 y10)) (R10 false))) λR9=>IF ((decide (241<=(E2 s i.toNat)))&&(decide ((E2 s i.toNat)<=243))) (∃y9,FC s (wI (i+1)) 3 y9/\(R9 y9)) (R9 false))) λR8=>IF bz7 (∃y8,FC s (wI (i+2)) 2 y8/\(R8 y8)) (R8 false)) λR7=>IF ((E2 s i.toNat)==240) (∃y7,Jw s (wI (i+1)) 144 191 y7/\(R7 y7)) (R7 false))) λR6=>IF (((decide (225<=(E2 s i.toNat)))&&(decide ((E2 s i.toNat)<=239)))&&((E2 s i.toNat) !=237)) (∃y6,FC s (wI (i+1)) 2 y6/\(R6 y6)) (R6 false))) λR5=>IF bz4 (∃y5,FC s (wI (i+2)) 1 y5/\(R5 y5)) (R5 false)) λR4=>IF ((E2 s i.toNat)==237) (∃y4,Jw s (wI (i+1)) 128 159 y4/\(R4 y4)) (R4 false))) λR3=>IF bz2 (∃y3,FC s (wI (i+2)) 1 y3/\(R3 y3)) (R3 false)) λR2=>IF ((E2 s i.toNat)==224) (∃y2,Jw s (wI (i+1)) 160 191 y2/\(R2 y2)) (R2 false))) λR1=>IF ((decide (194<=(E2 s i.toNat)))&&(decide ((E2 s i.toNat)<=223))) (∃y1,FC s (wI (i+1)) 1 y1/\(R1 y1)) (R1 false)))):TD s i r:=
 fP hw<|Z2 9<|KW 12 (KR 8)<|KT 5 3<|KQ 1 5 kB (KW 3 (KR 8)<|KQ 5 5 kB (KQ 1 5 kB (KW 3 (KR 8)<|KQ 5 5 kB (KQ 1 5 kB (KW 3 (KR 8)<|KT 5 3<|KT 1 3<|KQ 1 5 kB (KW 3 (KR 8)<|KQ 5 5 kB (KQ 1 5 kB (KW 3 (KR 8)<|KT 5 3<|KQ 1 5 kB (KW 3 (KR 8)<|KQ 5 5 kB (KW 1 (KC 3<|KW 4 (KR 8)<|KR 9)<|KR 18) (λkey=>KC 3<|KE 1 key) λkey=>KE 5 key) (λkey=>KC 3<|KE 1 key) λkey=>KE 5 key) (λkey=>KC 3<|KE 1 key) λkey=>KE 5 key) (λkey=>KC 3<|KE 1 key) λkey=>KE 5 key) (λkey=>KC 3<|KE 1 key) λkey=>KE 5 key) (λkey=>KC 3<|KE 1 key) λkey=>KE 5 key) (λkey=>KC 3<|KE 1 key) λkey=>KE 5 key) (λkey=>KC 3<|KE 1 key) λkey=>KE 5 key) (λkey=>KC 3<|KE 1 key) λkey=>KE 5 key) (λkey=>KC 3<|KE 1 key) λkey=>KE 5 key
theorem tn(b:Int)(r:b4b)(hw:SS (⟨#[48,49,50,51,52,53,54,55,56,57,97,98,99,100,101,102]⟩:b4b) (IntKind.u8.wrap (b.tdiv 16)) (IntKind.u8.wrap ((IntKind.u8.wrap (b.tdiv 16))+1)) (SS (⟨#[48,49,50,51,52,53,54,55,56,57,97,98,99,100,101,102]⟩:b4b) (b.tmod 16) (IntKind.u8.wrap ((b.tmod 16)+1)) (CT ((⟨#[48,49,50,51,52,53,54,55,56,57,97,98,99,100,101,102]⟩:b4b).extract (IntKind.u8.wrap (b.tdiv 16)).toNat (IntKind.u8.wrap ((IntKind.u8.wrap (b.tdiv 16))+1)).toNat) ((⟨#[48,49,50,51,52,53,54,55,56,57,97,98,99,100,101,102]⟩:b4b).extract (b.tmod 16).toNat (IntKind.u8.wrap ((b.tmod 16)+1)).toNat) (r=(((⟨#[48,49,50,51,52,53,54,55,56,57,97,98,99,100,101,102]⟩:b4b).extract (IntKind.u8.wrap (b.tdiv 16)).toNat (IntKind.u8.wrap ((IntKind.u8.wrap (b.tdiv 16))+1)).toNat)++((⟨#[48,49,50,51,52,53,54,55,56,57,97,98,99,100,101,102]⟩:b4b).extract (b.tmod 16).toNat (IntKind.u8.wrap ((b.tmod 16)+1)).toNat)))))):VB b r:=
 fP hw<|KD 6 []<|BF 5<|BF 5<|I8 1<|KR 4
theorem a2x(v:A0)(r:b4e)(hw:r=((((((v.Kind !=11)&&(decide (0<(v.B4.length:Int))))||((v.Kind !=12)&&(decide (0<(v.Pairs.length:Int)))))||((v.Kind !=10)&&(decide (0<(wI ((v.Slots.length:Int)+(v.C1.length:Int)))))))||((v.Bits !=0)&&(((v.Kind==7)||(v.Kind==8))||((decide (10<=v.Kind))&&(decide (v.Kind<=12))))))||((!(decide (v.Text=(⟨#[]⟩:b4b))))&&(!((v.Kind==7)||(v.Kind==8)))))):Lg v r:=
 fP hw<|KT 12 4<|J6 9 5 (v.Kind !=11) (λz=>aB (z&&(decide (0<(v.B4.length:Int))))) (λkey=>KL 2 I4 v.B4<|E3 2 key) (λkey=>E3 5 key)<|J6 1 10 ((v.Kind !=11)&&(decide (0<(v.B4.length:Int)))) (λz=>aB (z||((v.Kind !=12)&&(decide (0<(v.Pairs.length:Int)))))) (λkey=>E3 10 key) (λkey=>J6 4 5 (v.Kind !=12) (λz=>aB (z&&(decide (0<(v.Pairs.length:Int))))) (λkey=>KL 2 B8 v.Pairs<|E3 2 key) (λkey=>E3 5 key)<|E3 1 key)<|J6 1 14 (((v.Kind !=11)&&(decide (0<(v.B4.length:Int))))||((v.Kind !=12)&&(decide (0<(v.Pairs.length:Int))))) (λz=>aB (z||((v.Kind !=10)&&(decide (0<(wI ((v.Slots.length:Int)+(v.C1.length:Int)))))))) (λkey=>E3 14 key) (λkey=>J6 4 9 (v.Kind !=10) (λz=>aB (z&&(decide (0<(wI ((v.Slots.length:Int)+(v.C1.length:Int))))))) (λkey=>KL 2 C6 v.Slots<|KL 2 N9 v.C1<|E3 3 key) (λkey=>E3 9 key)<|E3 1 key)<|J6 1 17 ((((v.Kind !=11)&&(decide (0<(v.B4.length:Int))))||((v.Kind !=12)&&(decide (0<(v.Pairs.length:Int)))))||((v.Kind !=10)&&(decide (0<(wI ((v.Slots.length:Int)+(v.C1.length:Int))))))) (λz=>aB (z||((v.Bits !=0)&&(((v.Kind==7)||(v.Kind==8))||((decide (10<=v.Kind))&&(decide (v.Kind<=12))))))) (λkey=>E3 17 key) (λkey=>J6 4 12 (v.Bits !=0) (λz=>aB (z&&(((v.Kind==7)||(v.Kind==8))||((decide (10<=v.Kind))&&(decide (v.Kind<=12)))))) (λkey=>J6 2 9 ((v.Kind==7)||(v.Kind==8)) (λz=>aB (z||((decide (10<=v.Kind))&&(decide (v.Kind<=12))))) (λkey=>E3 9 key) (λkey=>KT 4 4<|E3 1 key)<|E3 1 key) (λkey=>E3 12 key)<|E3 1 key)<|J6 1 8 (((((v.Kind !=11)&&(decide (0<(v.B4.length:Int))))||((v.Kind !=12)&&(decide (0<(v.Pairs.length:Int)))))||((v.Kind !=10)&&(decide (0<(wI ((v.Slots.length:Int)+(v.C1.length:Int)))))))||((v.Bits !=0)&&(((v.Kind==7)||(v.Kind==8))||((decide (10<=v.Kind))&&(decide (v.Kind<=12)))))) (λz=>aB (z||((!(decide (v.Text=(⟨#[]⟩:b4b))))&&(!((v.Kind==7)||(v.Kind==8)))))) (λkey=>E3 8 key) (λkey=>KT 4 3<|E3 1 key)<|KR 4
def PA(ij1:Int)(l:b4c (Int × A0))(i:Int)(y2:B0 × b4e)(level:Int)(x:M6)(g:C2)(r:Int):Prop:=J Pg 164 (.ret (nZ r)) 10 [(38,aI ij1),(37,aI (((l.take i.toNat).drop (0:Int).toNat).length:Int)),(36,.sl (List.map D2 ((l.take i.toNat).drop (0:Int).toNat)) .no),(11,.D3 (E7 y2.1) 0),(6,.ptr 1 0),(5,.ptr 0 0),(2,.sl (List.map D2 l) .no),(3,aI i),(4,aI level)] ⟨[some (C7 x.p),some (H6 g)],[],[]⟩
theorem ml(ij1:Int)(l:b4c (Int × A0))(i:Int)(y2:B0 × b4e)(level:Int)(x:M6)(g:C2)(r:Int)(hw:ID (ij1<(((l.take i.toNat).drop (0:Int).toNat).length:Int)) (IX ((l.take i.toNat).drop (0:Int).toNat) ij1 λy10=>∃y11,JY g y10.1 y11/\(IF ((y2.1.Union !=(-1))&&(y11.1.Union==y2.1.Union)) (r=15) (PA (wI (ij1+1)) l i y2 level x g r))) (IX l i λy8=>∃y9,XS x y2.1 y8.2 level y9/\(r=y9))):PA ij1 l i y2 level x g r:=
 fJ hw<|KW 7 (KI 6 C6<|KC 10<|KT 14 6<|KW 2 (KR 11)<|E1 8 [])<|KD 6 [0]<|KI 4 C6<|KC 4<|KR 4
theorem i6(x:M6)(g:C2)(l:b4c (Int × A0))(i level r:Int)(hw:IX l i λy1=>∃y2,JY g y1.1 y2/\(IF (!y2.2) (r=8) ((0<=(0:Int)/\(0:Int)<=i/\i<=(l.length:Int))/\(∃y3,UR ((l.take i.toNat).drop (0:Int).toNat) (⟨211,[],[.D3 (E7 y2.1) 0],by simp⟩:B3) y3/\(IF y3 (r=9) ((0<=(0:Int)/\(0:Int)<=i/\i<=(l.length:Int))/\(PA 0 l i y2 level x g r))))))):Yo x g l i level r:=
 fP hw<|KD 8 [1]<|KI 3 C6<|KC 2 λ{y2}=>KV 4<|KW 11 (KR 7)<|Kb 4 2 [true,true,false] 0 [(11,.D3 (E7 y2.1) 0),(6,.ptr 1 0),(5,.ptr 0 0),(2,.sl (List.map D2 l) .no),(3,aI i),(4,aI level)] [some (C7 x.p),some (H6 g),none]<|ED 3 C6<|KC 1<|KW 2 (KR 7)<|ED 7 C6<|KL 0 C6 ((l.take i.toNat).drop (0:Int).toNat)<|E1 5 []
theorem wG(s:b4c (Int × A0))(f:B3)(r:b4e)(hw:∃y1,jp s f y1/\(r=(decide (0<=y1)))):UR s f r:=
 fP hw<|KC 9<|KR 5
theorem a03(x:M6)(g:C2)(f:D8)(r:Int)(hw:∃y1,JY g f.Num y1/\(JN (λbz1:b4e=>IF ((((decide (f.Num<1))||(decide (65535<f.Num)))||(decide (f.J0<0)))||(decide (6<f.J0))) (r=1) (IF ((((decide (f.J0<=2))&&(!(decide (f.Data=(⟨#[]⟩:b4b)))))||((!(decide (f.J0<=2)))&&(f.Bits !=0)))||(y1.2&&(!bz1))) (r=1) (IF (((f.J0==3)&&(decide (4096<(f.Data.size:Int))))||(decide (65536<(f.Data.size:Int)))) (r=3) (r=0)))) λR1=>IF ((((y1.1.Kind==9)&&(y1.1.D6 !=5))&&(f.J0==0))&&(decide (f.Bits<=2147483647))) (∃y2,Si x.p y1.1.Target f.Bits y2/\(R1 (!y2))) (R1 false))):bB x g f r:=
 fP hw<|KC 21 λ{y1}=>KT 14 4<|KT 1 4<|KT 1 4<|KQ 1 9 kB (λ{bz1}=>KT 11 4<|KT 1 4<|KT 1 4<|KW 3 (KR 8)<|KT 4 4<|J6 1 8 ((decide (f.J0<=2))&&(!(decide (f.Data=(⟨#[]⟩:b4b))))) (λz=>aB (z||((!(decide (f.J0<=2)))&&(f.Bits !=0)))) (λkey=>E3 8 key) (λkey=>KT 3 4<|E3 1 key)<|J6 1 6 (((decide (f.J0<=2))&&(!(decide (f.Data=(⟨#[]⟩:b4b)))))||((!(decide (f.J0<=2)))&&(f.Bits !=0))) (λz=>aB (z||(y1.2&&(!bz1)))) (λkey=>E3 6 key) (λkey=>KT 2 3<|E3 1 key)<|KW 3 (KR 8)<|KT 6 5<|KT 1 5<|KW 3 (KR 8)<|KR 9) (λkey=>KC 6<|KE 2 key) λkey=>KE 9 key
def Tn(ij5:Int)(v:A0)(lj6 r:b4c A0):Prop:=J Pg 168 (.ret (Ye r)) 11 [(29,aI ij5),(28,aI (v.Slots.length:Int)),(27,.sl (List.map D2 v.Slots) .no),(3,.sl (List.map H3 lj6) (.own 0))] ⟨[],[(lj6.length,7)],[]⟩
def Vq(ij3:Int)(v:A0)(lj4 r:b4c A0):Prop:=J Pg 168 (.ret (Ye r)) 4 [(14,aI ij3),(13,aI (v.Pairs.length:Int)),(12,.sl (List.map D1 v.Pairs) .no),(3,.sl (List.map H3 lj4) (.own 0)),(1,.ptr 0 0)] ⟨[some (C4 v)],[(lj4.length,7)],[]⟩
theorem bT(ij5:Int)(v:A0)(lj6 r:b4c A0)(hw:ID (ij5<(v.Slots.length:Int)) (IX v.Slots ij5 λy5=>(lj6.length+[y5.2].length)*128<=140737488355328/\(Tn (wI (ij5+1)) v (lj6++[y5.2]) r)) (r=lj6)):Tn ij5 v lj6 r:=
 fJ hw<|KW 7 (KI 6 C6<|KA 10 I4 mE<|E1 9 [])<|KR 12
theorem aH(ij3:Int)(v:A0)(lj4 r:b4c A0)(hw:ID (ij3<(v.Pairs.length:Int)) (IX v.Pairs ij3 λy6=>(lj4.length+[y6.1,y6.2].length)*128<=140737488355328/\(Vq (wI (ij3+1)) v (lj4++[y6.1,y6.2]) r)) (Tn 0 v lj4 r)):Vq ij3 v lj4 r:=
 fJ hw<|KW 7 (KI 6 B8<|KA 12 I4 mE<|E1 9 [])<|KL 10 C6 v.Slots<|E1 5 []
theorem vu(v:A0)(r:b4c A0)(hw:mc v.B4/\(Vq 0 v v.B4 r)):ZQ v r:=
 fP hw<|KNB 10 I4<|KL 8 B8 v.Pairs<|KJ 5
theorem uq(x:Fl)(g:C2)(r:B0 × b4e)(hw:∃y1,jQ g.Ops x.is y1/\(ID (y1<0) (r=((⟨0,⟨#[]⟩,⟨#[]⟩,0,0,0,0,0⟩:B0),false)) (IX g.Ops y1 λy2=>r=(y2,true)))):lD x g r:=
 fP hw<|KC 14<|KW 10 (KR 9)<|KI 7 N2<|KR 6
theorem gI(s r:b4c (Int × A0))(hw:s=[]/\r=[]):nH s r:=by
 obtain⟨rfl,rfl⟩:=hw;exact fP (V:=∀b:b4e,(([]:(b4c (Int × A0)))≠[]->b=false)->IF b (([]:(b4c (Int × A0)))=[]) (([]:(b4c (Int × A0)))=[])) (λb _=>⟨λ_=>rfl,λ_=>rfl⟩) (KN 9 C6 (KW 2 (KR 7) (db (b:=136) (sz:=8) 6 (KR 4))))
theorem zw(s:b4c (Int × A0))(hw:s≠[]/\s.length*136<=140737488355328):kj s:=iB C6 hw
theorem yf(n0:Nat)(x:b4c (Int × A0))(cmp:B3)(r:b4c (Int × A0))(hw:∃y1,ZO n0 x (n0:Int) cmp y1/\(x≠[]/\y1≠[])/\(y1≠[]/\r=y1)):ah n0 x cmp r:=
 DU hw<|V5 5 C6 a0x<|An 1 C6
theorem a6v(a b:Int × A0)(r:Int)(hw:∃y1,Fi a.1 b.1 y1/\(r=y1)):ii a b r:=
 fP hw<|KC 13<|KR 4
theorem a3i(p:A5)(o_:B0)(v r:A0)(hw:IF (o_.Kind==10) (∃y1,Jj p o_.Target v y1/\(r=y1)) (∃y2,Qy v y2/\(r=y2))):PX p o_ v r:=
 fP hw<|KW 16 (KC 6<|KR 5)<|KC 5<|KR 4
def UG(ij1:Int)(lj2 r:b4c (A0 × A0)):Prop:=J Pg 175 (.ret (ZH r)) 6 [(13,aI ij1),(12,aI (([]:b4c (A0 × A0)).length:Int)),(11,.sl (List.map D1 ([]:b4c (A0 × A0))) .no),(4,.sl (List.map D1 lj2) (.own 0)),(3,.sl (List.map D1 ([]:b4c (A0 × A0))) .no)] ⟨[],[(lj2.length,14)],[]⟩
def OU(ij3:Int)(y9 lj4 r:b4c (A0 × A0)):Prop:=J Pg 175 (.ret (ZH r)) 6 [(13,aI ij3),(12,aI (y9.length:Int)),(11,.sl (List.map D1 y9) .no),(4,.sl (List.map D1 lj4) (.own 0)),(3,.sl (List.map D1 y9) .no)] ⟨[],[(lj4.length,14)],[]⟩
theorem b1g(ij1:Int)(lj2 r:b4c (A0 × A0))(hw:ID (ij1<(([]:b4c (A0 × A0)).length:Int)) (IX ([]:b4c (A0 × A0)) ij1 λy5=>JN (λbz2:b4e=>IF bz2 ((lj2.length+[y5].length)*256<=140737488355328/\(UG (wI (ij1+1)) (lj2++[y5]) r)) (UG (wI (ij1+1)) lj2 r)) λR2=>IF ((wI (ij1+1))==(([]:b4c (A0 × A0)).length:Int)) (R2 true) (IX ([]:b4c (A0 × A0)) (wI (ij1+1)) λy7=>∃y8,On y5.1 y7.1 y8/\(R2 (!y8)))) (r=lj2)):UG ij1 lj2 r:=
 fJ hw<|KW 7 (KI 7 B8<|KD 7 [0]<|KL 3 B8 ([]:b4c (A0 × A0))<|KQ 2 12 kB (KW 2 (KA 4 B8 mE<|E1 9 [])<|E1 8 []) (λkey=>KE 12 key) λkey=>KI 5 B8<|KC 3<|KE 2 key)<|KR 12
theorem Yj(ij3:Int)(y9 lj4 r:b4c (A0 × A0))(hw:ID (ij3<(y9.length:Int)) (IX y9 ij3 λy14=>JN (λbz4:b4e=>IF bz4 ((lj4.length+[y14].length)*256<=140737488355328/\(OU (wI (ij3+1)) y9 (lj4++[y14]) r)) (OU (wI (ij3+1)) y9 lj4 r)) λR4=>IF ((wI (ij3+1))==(y9.length:Int)) (R4 true) (IX y9 (wI (ij3+1)) λy16=>∃y17,On y14.1 y16.1 y17/\(R4 (!y17)))) (r=lj4)):OU ij3 y9 lj4 r:=
 fJ hw<|KW 7 (KI 7 B8<|KD 7 [0]<|KL 3 B8 y9<|KQ 2 12 kB (KW 2 (KA 4 B8 mE<|E1 9 [])<|E1 8 []) (λkey=>KE 12 key) λkey=>KI 5 B8<|KC 3<|KE 2 key)<|KR 12
theorem kx(l r:b4c (A0 × A0))(hw:(l=[]->nF l ([]:b4c (A0 × A0))/\(fk (⟨219,[],[],rfl⟩:B3)/\(UG 0 ([]:b4c (A0 × A0)) r)))/\(l≠[]->jT l/\(∃y9,Zm l.length l (⟨219,[],[],rfl⟩:B3) y9/\(l≠[]/\y9≠[])/\(y9.length=l.length/\(OU 0 y9 ([]:b4c (A0 × A0)) r))))):UP l r:=
 fP hw<|vE l (λhb1=>Db 8<|Db 6<|KL 11 B8 ([]:b4c (A0 × A0))<|KO 5 4 14<|KJ 0) λhb1=>di 8 B8 hb1<|V5 6 B8 vl λ{y9}=>qo 2 B8 0 [false] 0 1 [(3,.sl (List.map D1 y9) .no)] [none]<|KL 9 B8 y9<|KO 5 4 14<|E1 0 []
theorem b2c(v r:A0)(hw:IF (v.Kind==6) (∃y1,Ou v.Bits y1/\(IF (y1==0) (r=(⟨v.Kind,9221120237041090560,v.Text,v.B4,v.Pairs,v.Slots,v.C1⟩:A0)) (r=v))) (r=v)):Qy v r:=
 fP hw<|KW 13 (KC 2<|KW 4 (KR 12)<|KR 9)<|KR 17
theorem a7l(v:A0)(r:b4e)(hw:∃y1,LT v.Kind y1/\(JN (λbz1:b4e=>r=((bz1&&(v.Bits==0))&&(decide (v.Text=(⟨#[]⟩:b4b))))) λR1=>IF y1 (∃y2,Sw v y2/\(R1 y2)) (R1 false))):Wq v r:=
 fP hw<|KC 10<|KQ 1 3 kB (KT 1 4<|KT 1 4<|KR 4) (λkey=>KC 1<|KE 1 key) λkey=>KE 3 key
theorem ft(x:Int)(r:b4e)(hw:r=(x !=x)):bu x r:=
 fP hw<|KR 14
theorem yT(v:A0)(r:b4e)(hw:IF ((((decide (0<(v.B4.length:Int)))&&(v.Kind !=11))||((decide (0<(v.Pairs.length:Int)))&&(v.Kind !=12)))||((decide (0<(wI ((v.Slots.length:Int)+(v.C1.length:Int)))))&&(!(v.Kind==10)))) (r=true) (r=(((v.Bits !=0)&&(((((v.Kind==7)||(v.Kind==8))||(v.Kind==11))||(v.Kind==12))||(v.Kind==10)))||((!(decide (v.Text=(⟨#[]⟩:b4b))))&&(!((v.Kind==7)||(v.Kind==8))))))):MS v r:=
 fP hw<|KT 12 4<|KL 16 I4 v.B4<|KT 2 4<|J6 1 10 ((decide (0<(v.B4.length:Int)))&&(v.Kind !=11)) (λz=>aB (z||((decide (0<(v.Pairs.length:Int)))&&(v.Kind !=12)))) (λkey=>E3 10 key) (λkey=>KL 2 B8 v.Pairs<|KT 2 4<|E3 1 key)<|J6 1 13 (((decide (0<(v.B4.length:Int)))&&(v.Kind !=11))||((decide (0<(v.Pairs.length:Int)))&&(v.Kind !=12))) (λz=>aB (z||((decide (0<(wI ((v.Slots.length:Int)+(v.C1.length:Int)))))&&(!(v.Kind==10))))) (λkey=>E3 13 key) (λkey=>KL 2 C6 v.Slots<|KL 2 N9 v.C1<|KT 3 3<|E3 1 key)<|KW 2 (KR 7)<|J6 8 15 (v.Bits !=0) (λz=>aB (z&&(((((v.Kind==7)||(v.Kind==8))||(v.Kind==11))||(v.Kind==12))||(v.Kind==10)))) (λkey=>KT 2 4<|KT 1 4<|KT 1 2<|E3 1 key) (λkey=>E3 15 key)<|J6 1 8 ((v.Bits !=0)&&(((((v.Kind==7)||(v.Kind==8))||(v.Kind==11))||(v.Kind==12))||(v.Kind==10))) (λz=>aB (z||((!(decide (v.Text=(⟨#[]⟩:b4b))))&&(!((v.Kind==7)||(v.Kind==8)))))) (λkey=>E3 8 key) (λkey=>KT 4 3<|E3 1 key)<|KR 4
def Ni(ij1:Int)(bj2:b4e)(l:b4c (Int × A0))(i:Int)(g:C2)(y2:B0 × b4e)(r:Int):Prop:=J Pg 182 (.ret (qT r)) 8 [(10,aI ij1),(9,aB bj2),(7,.ptr 1 0),(3,.ptr 0 0),(1,.sl (List.map D2 l) .no),(2,aI i)] ⟨[some (H6 g),some (E7 y2.1)],[],[]⟩
theorem je(ij1:Int)(bj2:b4e)(l:b4c (Int × A0))(i:Int)(g:C2)(y2:B0 × b4e)(r:Int)(hw:ID (ij1<i) (IX l ij1 λy7=>IX l i λy8=>IF (y7.1==y8.1) (r=9) (IX l ij1 λy9=>∃y10,JV g y9.1 y10/\(Ni (wI (ij1+1)) (bj2||((y2.1.Union !=(-1))&&(y10.1.Union==y2.1.Union))) l i g y2 r))) (IF bj2 (r=15) (r=0))):Ni ij1 bj2 l i g y2 r:=
 fJ hw<|KW 9 (KD 6 []<|KI 2 C6<|KI 4 C6<|KW 6 (KR 12)<|KD 3 [0]<|KI 3 C6<|KC 2 λ{y10}=>KV 4<|J6 7 11 bj2 (λz=>aB (z||((y2.1.Union !=(-1))&&(y10.1.Union==y2.1.Union)))) (λkey=>E3 11 key) (λkey=>KT 4 6<|E3 1 key)<|E1 10 [])<|KW 11 (KR 7)<|KR 8
theorem a9p(g:C2)(l:b4c (Int × A0))(i r:Int)(hw:IX l i λy1=>∃y2,JV g y1.1 y2/\(IF (!y2.2) (r=8) (Ni 0 false l i g y2 r))):dF g l i r:=
 fP hw<|KD 7 [0]<|KI 3 C6<|KC 2<|KV 4<|KW 11 (KR 7)<|KJ 15
def Tt(ij1 level:Int)(p:A5)(o_:B0)(v:A0)(r:Int):Prop:=J Pg 183 (.ret (nK r)) 14 [(9,aI ij1),(6,.ptr 2 0),(5,.ptr 1 0),(4,.ptr 0 0),(3,aI level)] ⟨[some (C7 p),some (E7 o_),some (C4 v)],[],[]⟩
theorem lk(ij1 level:Int)(p:A5)(o_:B0)(v:A0)(r:Int)(hw:ID (ij1<(v.B4.length:Int)) (IX v.B4 ij1 λy6=>∃y7,Mu p o_ y6 level y7/\(IF (y7 !=0) (r=y7) (Tt (wI (ij1+1)) level p o_ v r))) (r=0)):Tt ij1 level p o_ v r:=
 fJ hw<|KL 7 I4 v.B4<|KW 3 (KD 5 [0,1,2]<|KI 5 I4<|KC 3<|KW 9 (KR 14)<|KJ 9)<|KR 13
theorem a5z(p:A5)(o_:B0)(v:A0)(level r:Int)(hw:IF (o_.D6==5) (JN (λbz1:b4e=>IF bz1 (r=12) (∃y2,bP p o_ v.Pairs level y2/\(r=y2))) λR1=>IF (v.Kind !=12) (R1 true) (∃y1,MS v y1/\(R1 y1))) (IF (o_.D6==4) (JN (λbz2:b4e=>IF bz2 (r=12) (Tt 0 level p o_ v r)) λR2=>IF (v.Kind !=11) (R2 true) (∃y3,MS v y3/\(R2 y3))) (∃y8,Mu p o_ v level y8/\(r=y8)))):ZI p o_ v level r:=
 fP hw<|KW 22 (KQ 7 3 kB (KW 2 (KR 9)<|KC 9<|KR 6) (λkey=>KE 3 key) λkey=>KC 1<|KE 1 key)<|KW 6 (KQ 7 3 kB (KW 2 (KR 9)<|KJ 10) (λkey=>KE 3 key) λkey=>KC 1<|KE 1 key)<|KC 9<|KR 4
def YH(ij1 num:Int)(v:A0)(r:b4e):Prop:=J Pg 184 (.ret (ny r)) 3 [(5,aI ij1),(2,.ptr 0 0),(1,aI num)] ⟨[some (C4 v)],[],[]⟩
theorem a54(ij1 num:Int)(v:A0)(r:b4e)(hw:ID (ij1<(v.Slots.length:Int)) (IX v.Slots ij1 λy2=>IF (y2.1==num) (r=true) (YH (wI (ij1+1)) num v r)) (r=false)):YH ij1 num v r:=
 fJ hw<|KL 7 C6 v.Slots<|KW 3 (KI 9 C6<|KW 6 (KR 11)<|KJ 9)<|KR 11
theorem ze(v:A0)(num:Int)(r:b4e)(hw:YH 0 num v r):Yr v num r:=
 fP hw<|KJ 14
theorem a7f(p:A5)(g:C2)(x:D8)(r:b4e)(hw:IF ((((decide (x.Num<1))||(decide (65535<x.Num)))||(decide (x.J0<0)))||(decide (6<x.J0))) (r=false) (IF (((decide (x.J0<=2))&&(!(decide (x.Data=(⟨#[]⟩:b4b)))))||((decide (2<x.J0))&&(x.Bits !=0))) (r=false) (∃y1,JV g x.Num y1/\(IF (!y1.2) (r=true) (JN (λbz1:b4e=>IF (((bz1&&(y1.1.D6 !=5))&&(x.J0==0))&&(decide (x.Bits<=2147483647))) (∃y4,VP p y1.1.Target x.Bits y4/\(r=(!y4))) (r=false)) λR1=>IF (y1.1.Kind==9) (IX p.C3 y1.1.Target λy3=>R1 (!y3.Open)) (R1 false)))))):ZN p g x r:=
 fP hw<|KT 15 4<|KT 1 4<|KT 1 4<|KW 2 (KR 7)<|KT 9 4<|J6 1 9 ((decide (x.J0<=2))&&(!(decide (x.Data=(⟨#[]⟩:b4b))))) (λz=>aB (z||((decide (2<x.J0))&&(x.Bits !=0)))) (λkey=>E3 9 key) (λkey=>KT 4 4<|E3 1 key)<|KW 2 (KR 7)<|KC 7<|KW 15 (KR 7)<|KQ 8 9 kB (KT 1 4<|KT 1 4<|KT 1 4<|KW 1 (KC 5<|KR 6)<|KR 12) (λkey=>KI 4 L0<|KE 4 key) λkey=>KE 9 key
theorem um(p:A5)(o_:B0)(v r:A0)(hw:IF (o_.Kind==10) (∃y1,MI p o_.Target v y1/\(r=y1)) (∃y2,Sq v y2/\(r=y2))):PS p o_ v r:=
 fP hw<|KW 16 (KC 6<|KR 5)<|KC 5<|KR 4
def SW(ij11 ij7:Int)(lj6 l r:b4c (A0 × A0)):Prop:=JP Pg 187 (SQ r) 18 [(7,aI ij11),(4,aI ij7),(3,.sl (List.map D1 lj6) .no),(0,.sl (List.map D1 l) .no)]
def MX(ij9:Int)(bj10:b4e)(ij7:Int)(lj6 l r:b4c (A0 × A0)):Prop:=JP Pg 187 (SQ r) 11 [(6,aI ij9),(5,aB bj10),(4,aI ij7),(3,.sl (List.map D1 lj6) .no),(0,.sl (List.map D1 l) .no)]
def Y3(ij7:Int)(lj6 l r:b4c (A0 × A0)):Prop:=JP Pg 187 (SQ r) 4 [(4,aI ij7),(3,.sl (List.map D1 lj6) .no),(0,.sl (List.map D1 l) .no)]
theorem ay(ij11 ij7:Int)(lj6 l r:b4c (A0 × A0))(hw:ID (ij11<(lj6.length:Int)) (IX lj6 ij11 λy55=>IX l ij7 λy56=>∃y57,Cz y55.1 y56.1 y57/\(ID (y57<0) (SW (wI (ij11+1)) ij7 lj6 l r) (IX l ij7 λy58=>(0<=ij11/\ij11<=(lj6.length:Int)/\(lj6.length:Int)<=(lj6.length:Int))/\((((lj6.take (lj6.length:Int).toNat).drop ij11.toNat)=[]->([y58]:b4c (A0 × A0)).length*256<=140737488355328/\((0<=(0:Int)/\(0:Int)<=ij11/\ij11<=(lj6.length:Int))/\((((lj6.take ij11.toNat).drop (0:Int).toNat)=[]->([]:b4c (A0 × A0)).length*256<=140737488355328/\((([]:b4c (A0 × A0)).length+([y58]:b4c (A0 × A0)).length)*256<=140737488355328/\([y58]:b4c (A0 × A0))≠[]/\(Y3 (wI (ij7+1)) (([]:b4c (A0 × A0))++([y58]:b4c (A0 × A0))) l r)))/\(((lj6.take ij11.toNat).drop (0:Int).toNat)≠[]->(([]:b4c (A0 × A0)).length+((lj6.take ij11.toNat).drop (0:Int).toNat).length)*256<=140737488355328/\((lj6.take ij11.toNat).drop (0:Int).toNat)≠[]/\(((([]:b4c (A0 × A0))++((lj6.take ij11.toNat).drop (0:Int).toNat)).length+([y58]:b4c (A0 × A0)).length)*256<=140737488355328/\(Y3 (wI (ij7+1)) ((([]:b4c (A0 × A0))++((lj6.take ij11.toNat).drop (0:Int).toNat))++([y58]:b4c (A0 × A0))) l r))))))/\(((lj6.take (lj6.length:Int).toNat).drop ij11.toNat)≠[]->([y58].length+((lj6.take (lj6.length:Int).toNat).drop ij11.toNat).length)*256<=140737488355328/\((lj6.take (lj6.length:Int).toNat).drop ij11.toNat)≠[]/\((0<=(0:Int)/\(0:Int)<=ij11/\ij11<=(lj6.length:Int))/\((((lj6.take ij11.toNat).drop (0:Int).toNat)=[]->([]:b4c (A0 × A0)).length*256<=140737488355328/\((([]:b4c (A0 × A0)).length+([y58]++((lj6.take (lj6.length:Int).toNat).drop ij11.toNat)).length)*256<=140737488355328/\([y58]++((lj6.take (lj6.length:Int).toNat).drop ij11.toNat))≠[]/\(Y3 (wI (ij7+1)) (([]:b4c (A0 × A0))++([y58]++((lj6.take (lj6.length:Int).toNat).drop ij11.toNat))) l r)))/\(((lj6.take ij11.toNat).drop (0:Int).toNat)≠[]->(([]:b4c (A0 × A0)).length+((lj6.take ij11.toNat).drop (0:Int).toNat).length)*256<=140737488355328/\((lj6.take ij11.toNat).drop (0:Int).toNat)≠[]/\(((([]:b4c (A0 × A0))++((lj6.take ij11.toNat).drop (0:Int).toNat)).length+([y58]++((lj6.take (lj6.length:Int).toNat).drop ij11.toNat)).length)*256<=140737488355328/\(Y3 (wI (ij7+1)) ((([]:b4c (A0 × A0))++((lj6.take ij11.toNat).drop (0:Int).toNat))++([y58]++((lj6.take (lj6.length:Int).toNat).drop ij11.toNat))) l r)))))))))) (IX l ij7 λy59=>(0<=ij11/\ij11<=(lj6.length:Int)/\(lj6.length:Int)<=(lj6.length:Int))/\((((lj6.take (lj6.length:Int).toNat).drop ij11.toNat)=[]->([y59]:b4c (A0 × A0)).length*256<=140737488355328/\((0<=(0:Int)/\(0:Int)<=ij11/\ij11<=(lj6.length:Int))/\((((lj6.take ij11.toNat).drop (0:Int).toNat)=[]->([]:b4c (A0 × A0)).length*256<=140737488355328/\((([]:b4c (A0 × A0)).length+([y59]:b4c (A0 × A0)).length)*256<=140737488355328/\([y59]:b4c (A0 × A0))≠[]/\(Y3 (wI (ij7+1)) (([]:b4c (A0 × A0))++([y59]:b4c (A0 × A0))) l r)))/\(((lj6.take ij11.toNat).drop (0:Int).toNat)≠[]->(([]:b4c (A0 × A0)).length+((lj6.take ij11.toNat).drop (0:Int).toNat).length)*256<=140737488355328/\((lj6.take ij11.toNat).drop (0:Int).toNat)≠[]/\(((([]:b4c (A0 × A0))++((lj6.take ij11.toNat).drop (0:Int).toNat)).length+([y59]:b4c (A0 × A0)).length)*256<=140737488355328/\(Y3 (wI (ij7+1)) ((([]:b4c (A0 × A0))++((lj6.take ij11.toNat).drop (0:Int).toNat))++([y59]:b4c (A0 × A0))) l r))))))/\(((lj6.take (lj6.length:Int).toNat).drop ij11.toNat)≠[]->([y59].length+((lj6.take (lj6.length:Int).toNat).drop ij11.toNat).length)*256<=140737488355328/\((lj6.take (lj6.length:Int).toNat).drop ij11.toNat)≠[]/\((0<=(0:Int)/\(0:Int)<=ij11/\ij11<=(lj6.length:Int))/\((((lj6.take ij11.toNat).drop (0:Int).toNat)=[]->([]:b4c (A0 × A0)).length*256<=140737488355328/\((([]:b4c (A0 × A0)).length+([y59]++((lj6.take (lj6.length:Int).toNat).drop ij11.toNat)).length)*256<=140737488355328/\([y59]++((lj6.take (lj6.length:Int).toNat).drop ij11.toNat))≠[]/\(Y3 (wI (ij7+1)) (([]:b4c (A0 × A0))++([y59]++((lj6.take (lj6.length:Int).toNat).drop ij11.toNat))) l r)))/\(((lj6.take ij11.toNat).drop (0:Int).toNat)≠[]->(([]:b4c (A0 × A0)).length+((lj6.take ij11.toNat).drop (0:Int).toNat).length)*256<=140737488355328/\((lj6.take ij11.toNat).drop (0:Int).toNat)≠[]/\(((([]:b4c (A0 × A0))++((lj6.take ij11.toNat).drop (0:Int).toNat)).length+([y59]++((lj6.take (lj6.length:Int).toNat).drop ij11.toNat)).length)*256<=140737488355328/\(Y3 (wI (ij7+1)) ((([]:b4c (A0 × A0))++((lj6.take ij11.toNat).drop (0:Int).toNat))++([y59]++((lj6.take (lj6.length:Int).toNat).drop ij11.toNat))) l r))))))))):SW ij11 ij7 lj6 l r:=
 fJ hw<|KD 3 []<|KL 2 B8 lj6<|KW 2 (KI 2 B8<|KI 4 B8<|KC 3<|KW 4 (KJ 10)<|KD 6 []<|KI 2 B8<|ED 4 B8<|vE ((lj6.take (lj6.length:Int).toNat).drop ij11.toNat) (λhb70=>Kn 1 B8 hb70 mF xE<|ED 7 B8<|vE ((lj6.take ij11.toNat).drop (0:Int).toNat) (λhb71=>Kn 0 B8 hb71 mF xE<|Cm 1 B8 mF xF<|E1 10 [3]) λhb71=>Cm 0 B8 mF xE<|KA 1 B8 mF<|E1 10 [3]) λhb70=>Cm 1 B8 mF xE<|ED 7 B8<|vE ((lj6.take ij11.toNat).drop (0:Int).toNat) (λhb72=>Kn 0 B8 hb72 mF xE<|Cm 1 B8 mF xF<|E1 10 [3]) λhb72=>Cm 0 B8 mF xE<|KA 1 B8 mF<|E1 10 [3])<|KD 23 []<|KI 2 B8<|ED 4 B8<|vE ((lj6.take (lj6.length:Int).toNat).drop ij11.toNat) (λhb73=>Kn 1 B8 hb73 mF xE<|ED 7 B8<|vE ((lj6.take ij11.toNat).drop (0:Int).toNat) (λhb74=>Kn 0 B8 hb74 mF xE<|Cm 1 B8 mF xF<|E1 10 [3]) λhb74=>Cm 0 B8 mF xE<|KA 1 B8 mF<|E1 10 [3]) λhb73=>Cm 1 B8 mF xE<|ED 7 B8<|vE ((lj6.take ij11.toNat).drop (0:Int).toNat) (λhb75=>Kn 0 B8 hb75 mF xE<|Cm 1 B8 mF xF<|E1 10 [3]) λhb75=>Cm 0 B8 mF xE<|KA 1 B8 mF<|E1 10 [3]
theorem qH(ij9:Int)(bj10:b4e)(ij7:Int)(lj6 l r:b4c (A0 × A0))(hw:ID (ij9<(l.length:Int)) (IF bj10 (IX l ij7 λy61=>IX l ij9 λy62=>∃y63,Cz y61.1 y62.1 y63/\(MX (wI (ij9+1)) (y63 !=0) ij7 lj6 l r)) (MX (wI (ij9+1)) false ij7 lj6 l r)) (IF bj10 (SW 0 ij7 lj6 l r) (Y3 (wI (ij7+1)) lj6 l r))):MX ij9 bj10 ij7 lj6 l r:=
 fJ hw<|KL 6 B8 l<|KW 3 (KD 4 []<|KW 2 (KI 2 B8<|KI 4 B8<|KC 3<|KJ 12)<|KJ 24)<|KW 10 (KJ 8)<|KJ 9
theorem Xf(ij7:Int)(lj6 l r:b4c (A0 × A0))(hw:ID (ij7<(l.length:Int)) (MX (wI (ij7+1)) true ij7 lj6 l r) (r=lj6)):Y3 ij7 lj6 l r:=
 fJ hw<|KL 6 B8 l<|KW 3 (KJ 19)<|KR 12
theorem a5d(l r:b4c (A0 × A0))(hw:Y3 0 ([]:(b4c (A0 × A0))) l r):TH l r:=
 fP hw<|QI 18 [3]
theorem a1v(v r:A0)(hw:IF (v.Kind==6) (∃y1,NR v.Bits y1/\(IF (y1==0) (r=(⟨v.Kind,9221120237041090560,v.Text,v.B4,v.Pairs,v.Slots,v.C1⟩:A0)) (r=v))) (r=v)):Sq v r:=
 fP hw<|KW 13 (KC 2<|KW 4 (KR 12)<|KR 9)<|KR 17
theorem o8(v:A0)(r:b4e)(hw:∃y1,Uo v.Kind y1/\(IF ((y1&&(v.Bits==0))&&(decide (v.Text=(⟨#[]⟩:b4b)))) (∃y2,Qm v y2/\(r=y2)) (r=false))):Xa v r:=
 fP hw<|KC 10<|KT 1 4<|KT 1 4<|KW 1 (KC 1<|KR 5)<|KR 7
theorem a6t(s:b4b)(at_ c:Int)(r:b4e)(hw:IF (c==65533) (SS s at_ (s.size:Int) (∃y1,FK (s.extract at_.toNat (s.size:Int).toNat) (⟨#[239,191,189]⟩:b4b) y1/\(r=(!y1)))) (r=false)):Vd s at_ c r:=
 fP hw<|KW 10 (BF 2<|KC 0<|KR 6)<|KR 10
theorem xD(c:Int)(r:b4b)(hw:SS (⟨#[48,49,50,51,52,53,54,55,56,57,97,98,99,100,101,102]⟩:b4b) (c.fdiv (2 ^ min (4:Int).toNat IntKind.u8.bits)) (IntKind.u8.wrap ((c.fdiv (2 ^ min (4:Int).toNat IntKind.u8.bits))+1)) (CT (⟨#[92,120]⟩:b4b) ((⟨#[48,49,50,51,52,53,54,55,56,57,97,98,99,100,101,102]⟩:b4b).extract (c.fdiv (2 ^ min (4:Int).toNat IntKind.u8.bits)).toNat (IntKind.u8.wrap ((c.fdiv (2 ^ min (4:Int).toNat IntKind.u8.bits))+1)).toNat) (SS (⟨#[48,49,50,51,52,53,54,55,56,57,97,98,99,100,101,102]⟩:b4b) (G5 .and .u8 c 15) (IntKind.u8.wrap ((G5 .and .u8 c 15)+1)) (CT ((⟨#[92,120]⟩:b4b)++((⟨#[48,49,50,51,52,53,54,55,56,57,97,98,99,100,101,102]⟩:b4b).extract (c.fdiv (2 ^ min (4:Int).toNat IntKind.u8.bits)).toNat (IntKind.u8.wrap ((c.fdiv (2 ^ min (4:Int).toNat IntKind.u8.bits))+1)).toNat)) ((⟨#[48,49,50,51,52,53,54,55,56,57,97,98,99,100,101,102]⟩:b4b).extract (G5 .and .u8 c 15).toNat (IntKind.u8.wrap ((G5 .and .u8 c 15)+1)).toNat) (r=(((⟨#[92,120]⟩:b4b)++((⟨#[48,49,50,51,52,53,54,55,56,57,97,98,99,100,101,102]⟩:b4b).extract (c.fdiv (2 ^ min (4:Int).toNat IntKind.u8.bits)).toNat (IntKind.u8.wrap ((c.fdiv (2 ^ min (4:Int).toNat IntKind.u8.bits))+1)).toNat))++((⟨#[48,49,50,51,52,53,54,55,56,57,97,98,99,100,101,102]⟩:b4b).extract (G5 .and .u8 c 15).toNat (IntKind.u8.wrap ((G5 .and .u8 c 15)+1)).toNat))))))):XL c r:=
 fP hw<|KD 6 []<|BF 5<|I8 0<|BF 5<|I8 1<|KR 4
def Re(ij1:Int)(s:b4b)(i n:Int)(r:b4e):Prop:=JP Pg 205 (pY r) 3 [(7,aI ij1),(0,aS s),(1,aI i),(2,aI n)]
theorem pV(ij1:Int)(s:b4b)(i n:Int)(r:b4e)(hw:ID (ij1<n) (∃y2,Jw s (wI (i+ij1)) 128 191 y2/\(IF (!y2) (r=false) (Re (wI (ij1+1)) s i n r))) (r=true)):Re ij1 s i n r:=
 fJ hw<|KW 9 (KC 10<|KW 3 (KR 11)<|KJ 9)<|KR 11
theorem zu(s:b4b)(i n:Int)(r:b4e)(hw:Re 0 s i n r):FC s i n r:=
 fP hw<|KJ 13
theorem wd(s:b4b)(i lo hi:Int)(r:b4e)(hw:JN (λbz1:b4e=>IF bz1 (SI s i (r=(decide ((E2 s i.toNat)<=hi)))) (r=false)) λR1=>ID (i<(s.size:Int)) (SI s i (R1 (decide (lo<=(E2 s i.toNat))))) (R1 false)):Jw s i lo hi r:=
 fP hw<|KQ 12 6 kB (KW 1 (Z2 2<|KR 7)<|KR 10) (λkey=>Z2 2<|KE 3 key) λkey=>KE 6 key
def Rc(ij1:Int)(v:A0)(level:Int)(x:M6)(o_:B0)(r:Int):Prop:=J Pg 212 (.ret (ez r)) 9 [(26,aI ij1),(25,aI (v.B4.length:Int)),(24,.sl (List.map H3 v.B4) .no),(5,.ptr 1 0),(4,.ptr 0 0),(3,aI level)] ⟨[some (C7 x.p),some (E7 o_)],[],[]⟩
theorem mK(ij1:Int)(v:A0)(level:Int)(x:M6)(o_:B0)(r:Int)(hw:ID (ij1<(v.B4.length:Int)) (IX v.B4 ij1 λy4=>∃y5,OR x o_ y4 level y5/\(IF (y5 !=0) (r=y5) (Rc (wI (ij1+1)) v level x o_ r))) (r=0)):Rc ij1 v level x o_ r:=
 fJ hw<|KW 7 (KI 6 I4<|KC 11<|KW 9 (KR 14)<|E1 8 [])<|KR 13
theorem m9(x:M6)(o_:B0)(v:A0)(level r:Int)(hw:IF (o_.D6==4) (JN (λbz1:b4e=>IF bz1 (r=12) (Rc 0 v level x o_ r)) λR1=>IF (v.Kind !=11) (R1 true) (∃y1,Lg v y1/\(R1 y1))) (IF (o_.D6==5) (JN (λbz2:b4e=>IF bz2 (r=12) (∃y7,YV x o_ v.Pairs level y7/\(r=y7))) λR2=>IF (v.Kind !=12) (R2 true) (∃y6,Lg v y6/\(R2 y6))) (∃y8,OR x o_ v level y8/\(r=y8)))):XS x o_ v level r:=
 fP hw<|KW 22 (KQ 7 3 kB (KW 2 (KR 9)<|KL 7 I4 v.B4<|E1 5 []) (λkey=>KE 3 key) λkey=>KC 1<|KE 1 key)<|KW 6 (KQ 7 3 kB (KW 2 (KR 9)<|KC 9<|KR 6) (λkey=>KE 3 key) λkey=>KC 1<|KE 1 key)<|KC 9<|KR 4
def Qz(ij1:Int)(s:b4c (Int × A0))(f:B3)(r:Int):Prop:=JP Pg 213 (kE r) 3 [(8,aI ij1),(7,aI (s.length:Int)),(0,.sl (List.map D2 s) .no),(1,.clo (.func f.fn) f.fi f.cap)]
theorem a0p(ij1:Int)(s:b4c (Int × A0))(f:B3)(r:Int)(hw:ID (ij1<(s.length:Int)) (IX s ij1 λy3=>∃y4,N8 Pg [] (.clo (.func f.fn) f.fi f.cap) [.agg (M4 y3)] (aB y4)/\(IF y4 (r=ij1) (Qz (wI (ij1+1)) s f r))) (r=(-1))):Qz ij1 s f r:=
 fJ hw<|KW 7 (KI 15 C6<|KF 1<|KW 2 (KR 12)<|KJ 8)<|KR 11
theorem b1p(s:b4c (Int × A0))(f:B3)(r:Int)(hw:Qz 0 s f r):jp s f r:=
 fP hw<|KL 9 C6 s<|KJ 5
theorem a76(s:b4c A0)(hw:s.length*128<=140737488355328):mc s:=a18 I4 hw
def Tv(ij1:Int)(s:b4c B0)(f:B3)(r:Int):Prop:=JP Pg 215 (nR r) 3 [(8,aI ij1),(7,aI (s.length:Int)),(0,.sl (List.map E7 s) .no),(1,.clo (.func f.fn) f.fi f.cap)]
theorem WA(ij1:Int)(s:b4c B0)(f:B3)(r:Int)(hw:ID (ij1<(s.length:Int)) (IX s ij1 λy3=>∃y4,N8 Pg [] (.clo (.func f.fn) f.fi f.cap) [.agg (E7 y3)] (aB y4)/\(IF y4 (r=ij1) (Tv (wI (ij1+1)) s f r))) (r=(-1))):Tv ij1 s f r:=
 fJ hw<|KW 7 (KI 15 N2<|KF 1<|KW 2 (KR 12)<|KJ 8)<|KR 11
theorem rv(s:b4c B0)(f:B3)(r:Int)(hw:Tv 0 s f r):jQ s f r:=
 fP hw<|KL 9 N2 s<|KJ 5
def RP(ij17 ij18 ij15:Int)(n0:Nat)(n:Int)(cmp:B3)(lj19 r:b4c (Int × A0)):Prop:=J Pg 216 (.io [] 0 (.tuple []) (cellsOf D2 r) []) 14 [(8,aI ij17),(7,aI ij18),(6,aI ij15),(0,.row 0 0 8 n0 n0),(1,aI n),(2,.clo (.func cmp.fn) cmp.fi cmp.cap)] ⟨[some (cellsOf D2 lj19)],[],[]⟩
def Py(ij15:Int)(n0:Nat)(n:Int)(cmp:B3)(lj16 r:b4c (Int × A0)):Prop:=J Pg 216 (.io [] 0 (.tuple []) (cellsOf D2 r) []) 9 [(6,aI ij15),(0,.row 0 0 8 n0 n0),(1,aI n),(2,.clo (.func cmp.fn) cmp.fi cmp.cap)] ⟨[some (cellsOf D2 lj16)],[],[]⟩
def RZ(ij9 ij10:Int)(n0:Nat)(n:Int)(cmp:B3)(lj11 r:b4c (Int × A0)):Prop:=J Pg 216 (.io [] 0 (.tuple []) (cellsOf D2 r) []) 3 [(8,aI ij9),(7,aI ij10),(6,aI 20),(0,.row 0 0 8 n0 n0),(1,aI n),(2,.clo (.func cmp.fn) cmp.fi cmp.cap)] ⟨[some (cellsOf D2 lj11)],[],[]⟩
theorem a4m(ij17 ij18 ij15:Int)(n0:Nat)(n:Int)(cmp:B3)(lj19 r:b4c (Int × A0))(hw:ID (ij17<=n) (∃y19,MG n0 lj19 ij18 (wI (ij18+ij15)) ij17 cmp y19/\(lj19≠[]/\y19≠[])/\(RP (wI (ij17+(wI (2*ij15)))) ij17 ij15 n0 n cmp y19 r)) (ID ((wI (ij18+ij15))<n) (∃y18,MG n0 lj19 ij18 (wI (ij18+ij15)) n cmp y18/\(lj19≠[]/\y18≠[])/\(Py (wI (ij15*2)) n0 n cmp y18 r)) (Py (wI (ij15*2)) n0 n cmp lj19 r))):RP ij17 ij18 ij15 n0 n cmp lj19 r:=
 fJ hw<|KW 9 (V5 12 C6 Su<|KJ 17)<|KW 21 (V5 6 C6 Su<|KJ 9)<|KJ 9
theorem a8d(ij15:Int)(n0:Nat)(n:Int)(cmp:B3)(lj16 r:b4c (Int × A0))(hw:ID (ij15<n) (RP (wI (2*ij15)) 0 ij15 n0 n cmp lj16 r) (lj16≠[]/\r=lj16)):Py ij15 n0 n cmp lj16 r:=
 fJ hw<|KW 9 (KJ 14)<|An 4 C6
theorem xH(ij9 ij10:Int)(n0:Nat)(n:Int)(cmp:B3)(lj11 r:b4c (Int × A0))(hw:ID (ij9<=n) (∃y20,Vk n0 lj11 ij10 ij9 cmp y20/\(lj11≠[]/\y20≠[])/\(RZ (wI (ij9+20)) ij9 n0 n cmp y20 r)) (∃y11,Vk n0 lj11 ij10 n cmp y11/\(lj11≠[]/\y11≠[])/\(Py 20 n0 n cmp y11 r))):RZ ij9 ij10 n0 n cmp lj11 r:=
 fJ hw<|KW 9 (V5 9 C6 jR<|KJ 16)<|V5 11 C6 jR<|KJ 4
theorem a6i(n0:Nat)(data:b4c (Int × A0))(n:Int)(cmp:B3)(r:b4c (Int × A0))(hw:RZ 20 0 n0 n cmp data r):ZO n0 data n cmp r:=
 DU hw<|KJ 15
theorem ep(s r:b4c (A0 × A0))(hw:s=[]/\r=[]):nF s r:=by
 obtain⟨rfl,rfl⟩:=hw;exact fP (V:=∀b:b4e,(([]:(b4c (A0 × A0)))≠[]->b=false)->IF b (([]:(b4c (A0 × A0)))=[]) (([]:(b4c (A0 × A0)))=[])) (λb _=>⟨λ_=>rfl,λ_=>rfl⟩) (KN 9 B8 (KW 2 (KR 7) (db (b:=256) (sz:=14) 6 (KR 4))))
theorem yh(s:b4c (A0 × A0))(hw:s≠[]/\s.length*256<=140737488355328):jT s:=iB B8 hw
theorem wB(n0:Nat)(x:b4c (A0 × A0))(cmp:B3)(r:b4c (A0 × A0))(hw:∃y1,YW n0 x (n0:Int) cmp y1/\(x≠[]/\y1≠[])/\(y1≠[]/\r=y1)):Zm n0 x cmp r:=
 DU hw<|V5 5 B8 vi<|An 1 B8
theorem vw(a b:A0 × A0)(r:Int)(hw:∃y1,JH a.1 b.1 y1/\(r=y1)):b0a a b r:=
 fP hw<|KC 13<|KR 4
theorem uc(a b:A0)(r:Int)(hw:IF (a.Kind !=b.Kind) (∃y1,Fi a.Kind b.Kind y1/\(r=y1)) (∃y2,Qf b y2/\(∃y3,Qf a y3/\((∀y4,y3=E5.Fy y4->∃y5,ZM y4 b y5/\(r=y5))/\((∀y4,y3≠E5.Fy y4)->(∀y6,y3=E5.Da y6->∃y7,y2=E5.Da y7/\(∃y8,fq y6 y7 (⟨220,[],[],rfl⟩:B3) y8/\(r=y8)))/\((∀y6,y3≠E5.Da y6)->(∀y9,y3=E5.DZ y9->∃y10,y2=E5.DZ y10/\(∃y11,eh y9 y10 (⟨256,[],[],rfl⟩:B3) y11/\(r=y11)))/\((∀y9,y3≠E5.DZ y9)->(∀y12,y3=E5.DX y12->∃y13,y2=E5.DX y13/\(∃y14,pm y12.slots y13.slots (⟨259,[],[],rfl⟩:B3) y14/\(∃y15,fF y12.Kc y13.Kc (⟨261,[],[],rfl⟩:B3) y15/\(∃y16,Lr ([y14,y15]:(b4c Int)) y16/\(r=y16)))))/\((∀y12,y3≠E5.DX y12)->r=0)))))))):JH a b r:=
 fP hw<|KW 17 (KC 6<|KR 5)<|KC 5<|KC 7<|rR 5 (KC 15<|KR 6)<|zC 7 (a0d 14<|KC 0<|KR 6)<|a4c 7 (yC 14<|KC 0<|KR 6)<|zK 7 (td 14<|KD 5 [2,3]<|KC 4<|KC 5<|KC 1<|KR 6)<|KR 14
theorem gR(a b:A0)(r:b4e)(hw:∃y1,JH a b y1/\(r=(y1==0))):On a b r:=
 fP hw<|KC 11<|KR 5
end
end Go.Proofs.YtdpomombdeccpaaGreatDoor.Lift
