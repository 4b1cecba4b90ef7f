/- Part 5 of the texts that prove RowInvertsEnd. -/
import Derived.Test.YtidmmngcijapcaaGreatRowInvertsEndP3
import Derived.Test.YtidmmngcijapcaaGreatProg
namespace Go.Proofs.YtidmmngcijapcaaGreat.Lift
open Go.RowKit
set_option linter.unusedVariables false
set_option linter.unusedSimpArgs false
set_option linter.unnecessarySimpa false
set_option linter.unusedSectionVars false
set_option maxRecDepth 100000
def e3(r:Bool):AV:=.v (.bool r)
def e4(r:Bool):AV:=.v (.bool r)
def b7b(p:A7)(name:ByteArray)(v:A0)(r:Bool):Prop:=B9 Tryz.prog [] 4 [.agg (B6 p),.v (.string name),.agg (A5 v)] (e4 r)
def e5(r:Bool):AV:=.v (.bool r)
def e6(r:Bool):AV:=.v (.bool r)
def e7(r:Bool):AV:=.v (.bool r)
def e8(r:Bool):AV:=.v (.bool r)
def e9(r:Bool):AV:=.v (.bool r)
def b7z(p:A7)(r:Bool):Prop:=B9 Tryz.prog [] 9 [.agg (B6 p)] (e9 r)
def e10(r:(A0 × A3 × Int)):AV:=.tuple [.agg (A5 r.1),.agg (D4 r.2.1),.v (.int .i64 r.2.2)]
def c5k(p:A7)(o_:GOp)(c:A3)(r:(A0 × A3 × Int)):Prop:=B9 Tryz.prog [] 10 [.agg (B6 p),.agg (V3 o_),.agg (D4 c)] (e10 r)
def e12(r:ByteArray):AV:=.v (.string r)
def d38(v:A0)(r:ByteArray):Prop:=B9 Tryz.prog [] 12 [.agg (A5 v)] (e12 r)
def e13(r:Bool):AV:=.v (.bool r)
def c59(a:A0)(b:A0)(r:Bool):Prop:=B9 Tryz.prog [] 13 [.agg (A5 a),.agg (A5 b)] (e13 r)
def e14(r:ByteArray):AV:=.v (.string r)
def e15(r:Bool):AV:=.v (.bool r)
def b6q(r:Bool):Prop:=B9 Tryz.prog [] 15 [] (e15 r)
def e17(r:Bool):AV:=.v (.bool r)
def c1o(v:A0)(r:Bool):Prop:=B9 Tryz.prog [] 17 [.agg (A5 v)] (e17 r)
def e18(r:(ByteArray × Int)):AV:=.tuple [.v (.string r.1),.v (.int .i64 r.2)]
def c52(p:A7)(name:ByteArray)(v:A0)(r:(ByteArray × Int)):Prop:=B9 Tryz.prog [] 18 [.agg (B6 p),.v (.string name),.agg (A5 v)] (e18 r)
def e19(r:(Int × Bool)):AV:=.tuple [.v (.int .i64 r.1),.v (.bool r.2)]
def c4u(p:A7)(name:ByteArray)(r:(Int × Bool)):Prop:=B9 Tryz.prog [] 19 [.agg (B6 p),.v (.string name)] (e19 r)
def e20(r:(A0 × Int)):AV:=.tuple [.agg (A5 r.1),.v (.int .i64 r.2)]
def c6h(p:A7)(name:ByteArray)(data:ByteArray)(l:a0e)(r:(A0 × Int)):Prop:=B9 Tryz.prog [] 20 [.agg (B6 p),.v (.string name),.v (.string data),.agg (a7b l)] (e20 r)
def e21(r:a0e):AV:=.agg (a7b r)
def c15(r:a0e):Prop:=B9 Tryz.prog [] 21 [] (e21 r)
def e22(r:A0):AV:=.agg (A5 r)
def a8m(p:A7)(prog:Int)(v:A0)(r:A0):Prop:=B9 Tryz.prog [] 22 [.agg (B6 p),.v (.int .i64 prog),.agg (A5 v)] (e22 r)
def e23(r:Int):AV:=.v (.int .i64 r)
def e25(r:Int):AV:=.v (.int .i64 r)
def X8(v:A0)(r:Int):Prop:=B9 Tryz.prog [] 25 [.agg (A5 v)] (e25 r)
def e30(r:Int):AV:=.v (.int .i64 r)
def c1p(p:A7)(r:Int):Prop:=B9 Tryz.prog [] 30 [.agg (B6 p)] (e30 r)
def e31(r:(Int × A3 × Int)):AV:=.tuple [.v (.int .u8 r.1),.agg (D4 r.2.1),.v (.int .i64 r.2.2)]
def b6u(c:A3)(r:(Int × A3 × Int)):Prop:=B9 Tryz.prog [] 31 [.agg (D4 c)] (e31 r)
def e32(r:(A0 × A3 × Int)):AV:=.tuple [.agg (A5 r.1),.agg (D4 r.2.1),.v (.int .i64 r.2.2)]
def c5q(c:A3)(r:(A0 × A3 × Int)):Prop:=B9 Tryz.prog [] 32 [.agg (D4 c)] (e32 r)
def e33(r:(A0 × A3 × Int)):AV:=.tuple [.agg (A5 r.1),.agg (D4 r.2.1),.v (.int .i64 r.2.2)]
def d3w(kind:Int)(c:A3)(r:(A0 × A3 × Int)):Prop:=B9 Tryz.prog [] 33 [.v (.int .i64 kind),.agg (D4 c)] (e33 r)
def e34(r:(Int × A3 × Int)):AV:=.tuple [.v (.int .u64 r.1),.agg (D4 r.2.1),.v (.int .i64 r.2.2)]
def b5t(c:A3)(r:(Int × A3 × Int)):Prop:=B9 Tryz.prog [] 34 [.agg (D4 c)] (e34 r)
def e35(r:Int):AV:=.v (.int .i64 r)
def b9s(u:Int)(r:Int):Prop:=B9 Tryz.prog [] 35 [.v (.int .u64 u)] (e35 r)
def e36(r:Bool):AV:=.v (.bool r)
def b19(kind:Int)(v:A0)(r:Bool):Prop:=B9 Tryz.prog [] 36 [.v (.int .i64 kind),.agg (A5 v)] (e36 r)
def e37(r:Bool):AV:=.v (.bool r)
def a9g(p:A7)(enum:Int)(num:Int)(r:Bool):Prop:=B9 Tryz.prog [] 37 [.agg (B6 p),.v (.int .i64 enum),.v (.int .u64 num)] (e37 r)
def e41(r:A0):AV:=.agg (A5 r)
def b93(v:A0)(r:A0):Prop:=B9 Tryz.prog [] 41 [.agg (A5 v)] (e41 r)
def e42(r:Bool):AV:=.v (.bool r)
def c8q(kind:Int)(r:Bool):Prop:=B9 Tryz.prog [] 42 [.v (.int .i64 kind)] (e42 r)
def e44(r:Int):AV:=.v (.int .i64 r)
def c82(u:Int)(r:Int):Prop:=B9 Tryz.prog [] 44 [.v (.int .u64 u)] (e44 r)
def e45(r:Bool):AV:=.v (.bool r)
def c4s(kind:Int)(v:A0)(r:Bool):Prop:=B9 Tryz.prog [] 45 [.v (.int .i64 kind),.agg (A5 v)] (e45 r)
def e47(r:ByteArray):AV:=.v (.string r)
def a3i(u:Int)(r:ByteArray):Prop:=B9 Tryz.prog [] 47 [.v (.int .u64 u)] (e47 r)
def e48(r:Int):AV:=.v (.int .u64 r)
def c5m(n:Int)(r:Int):Prop:=B9 Tryz.prog [] 48 [.v (.int .i64 n)] (e48 r)
def e49(r:ByteArray):AV:=.v (.string r)
def b79(u:Int)(r:ByteArray):Prop:=B9 Tryz.prog [] 49 [.v (.int .u64 u)] (e49 r)
def e50(r:A0):AV:=.agg (A5 r)
def a8k(v:A0)(r:A0):Prop:=B9 Tryz.prog [] 50 [.agg (A5 v)] (e50 r)
def e51(r:Bool):AV:=.v (.bool r)
def c1y(a:A0)(b:A0)(r:Bool):Prop:=B9 Tryz.prog [] 51 [.agg (A5 a),.agg (A5 b)] (e51 r)
def e52(r:ByteArray):AV:=.v (.string r)
def c3z(u:Int)(r:ByteArray):Prop:=B9 Tryz.prog [] 52 [.v (.int .u64 u)] (e52 r)
def e55(r:(Int × Bool)):AV:=.tuple [.v (.int .i64 r.1),.v (.bool r.2)]
def c2f(p:A7)(name:ByteArray)(r:(Int × Bool)):Prop:=B9 Tryz.prog [] 55 [.agg (B6 p),.v (.string name)] (e55 r)
def e56(r:Int):AV:=.v (.int .i64 r)
def c81(p:A7)(prog:Int)(v:A0)(r:Int):Prop:=B9 Tryz.prog [] 56 [.agg (B6 p),.v (.int .i64 prog),.agg (A5 v)] (e56 r)
def e57(r:Bool):AV:=.v (.bool r)
def a6j(v:A0)(r:Bool):Prop:=B9 Tryz.prog [] 57 [.agg (A5 v)] (e57 r)
def e58(r:E2):AV:=.tuple []
theorem g2v(r:E2):plain (e58 r)=true:=rfl
def Z4(w:E2)(prog:Int)(v:A0)(r:E2):Prop:=b4h Tryz.prog [] 58 [.ptr 0 0,.v (.int .i64 prog),.agg (A5 v)] (N8 w) (a3n w) (e58 r) (N8 r) (a3n r)
def e59(r:A0):AV:=.agg (A5 r)
def b2h(p:A7)(prog:Int)(v:A0)(r:A0):Prop:=B9 Tryz.prog [] 59 [.agg (B6 p),.v (.int .i64 prog),.agg (A5 v)] (e59 r)
def e60(r:(A3 × Int)):AV:=.tuple [.agg (D4 r.1),.v (.int .i64 r.2)]
def d0p(data:ByteArray)(l:a0e)(r:(A3 × Int)):Prop:=B9 Tryz.prog [] 60 [.v (.string data),.agg (a7b l)] (e60 r)
def e61(r:(A9 × (A0 × Int))):AV:=.tuple [.agg (A5 r.2.1),.v (.int .i64 r.2.2)]
theorem g7u(r:(A9 × (A0 × Int))):plain (e61 r)=true:=(c67 (A6 (B0 r.2.1) (A6 rfl rfl)))
def W3(r_:A9)(prog:Int)(r:(A9 × (A0 × Int))):Prop:=b4h Tryz.prog [] 61 [.ptr 0 0,.v (.int .i64 prog)] (D0 r_) (J6 r_) (e61 r) (D0 r.1) (J6 r.1)
def e62(r:Int):AV:=.v (.int .i64 r)
def a73(c:A3)(r:Int):Prop:=B9 Tryz.prog [] 62 [.agg (D4 c)] (e62 r)
def e63(r:(List H5)):AV:=.sl (List.map I8 r) .no
def c42(l:(List H5))(r:(List H5)):Prop:=B9 Tryz.prog [] 63 [.sl (List.map I8 l) .no] (e63 r)
def e64(r:A0):AV:=.agg (A5 r)
def b83(p:A7)(o_:GOp)(v:A0)(r:A0):Prop:=B9 Tryz.prog [] 64 [.agg (B6 p),.agg (V3 o_),.agg (A5 v)] (e64 r)
def e65(r:Bool):AV:=.v (.bool r)
def c0s(v:A0)(r:Bool):Prop:=B9 Tryz.prog [] 65 [.agg (A5 v)] (e65 r)
def e66(r:Int):AV:=.v (.int .i64 r)
def d4n(p:A7)(prog:Int)(v:A0)(level:Int)(r:Int):Prop:=B9 Tryz.prog [] 66 [.agg (B6 p),.v (.int .i64 prog),.agg (A5 v),.v (.int .i64 level)] (e66 r)
def e68(r:ByteArray):AV:=.v (.string r)
def e3t(p:A7)(prog:Int)(v:A0)(r:ByteArray):Prop:=B9 Tryz.prog [] 68 [.agg (B6 p),.v (.int .i64 prog),.agg (A5 v)] (e68 r)
def e69(r:Bool):AV:=.v (.bool r)
def b78(p:A7)(r:Bool):Prop:=B9 Tryz.prog [] 69 [.agg (B6 p)] (e69 r)
def e70(r:Bool):AV:=.v (.bool r)
def c1a(p:A7)(r:Bool):Prop:=B9 Tryz.prog [] 70 [.agg (B6 p)] (e70 r)
def e71(r:Bool):AV:=.v (.bool r)
def b6x(p:A7)(r:Bool):Prop:=B9 Tryz.prog [] 71 [.agg (B6 p)] (e71 r)
def e72(r:Bool):AV:=.v (.bool r)
def b72(p:A7)(r:Bool):Prop:=B9 Tryz.prog [] 72 [.agg (B6 p)] (e72 r)
def e73(r:Bool):AV:=.v (.bool r)
def b87(p:A7)(r:Bool):Prop:=B9 Tryz.prog [] 73 [.agg (B6 p)] (e73 r)
def e74(r:Bool):AV:=.v (.bool r)
def b2e(p:A7)(r:Bool):Prop:=B9 Tryz.prog [] 74 [.agg (B6 p)] (e74 r)
def e75(r:Bool):AV:=.v (.bool r)
def b7s(p:A7)(r:Bool):Prop:=B9 Tryz.prog [] 75 [.agg (B6 p)] (e75 r)
def e76(r:A3):AV:=.agg (D4 r)
def a51(c:A3)(n:Int)(r:A3):Prop:=B9 Tryz.prog [] 76 [.agg (D4 c),.v (.int .i64 n)] (e76 r)
def e77(r:(Int × A3 × Int)):AV:=.tuple [.v (.int .u64 r.1),.agg (D4 r.2.1),.v (.int .i64 r.2.2)]
def b8u(c:A3)(r:(Int × A3 × Int)):Prop:=B9 Tryz.prog [] 77 [.agg (D4 c)] (e77 r)
def e78(r:(ByteArray × A3 × Int)):AV:=.tuple [.v (.string r.1),.agg (D4 r.2.1),.v (.int .i64 r.2.2)]
def c12(c:A3)(n:Int)(r:(ByteArray × A3 × Int)):Prop:=B9 Tryz.prog [] 78 [.agg (D4 c),.v (.int .i64 n)] (e78 r)
def e79(r:Bool):AV:=.v (.bool r)
def b8e(s:ByteArray)(r:Bool):Prop:=B9 Tryz.prog [] 79 [.v (.string s)] (e79 r)
def e80(r:(Int × A3 × Int)):AV:=.tuple [.v (.int .u64 r.1),.agg (D4 r.2.1),.v (.int .i64 r.2.2)]
def b6g(c:A3)(r:(Int × A3 × Int)):Prop:=B9 Tryz.prog [] 80 [.agg (D4 c)] (e80 r)
def e81(r:Int):AV:=.v (.int .i64 r)
def c6c(u:Int)(r:Int):Prop:=B9 Tryz.prog [] 81 [.v (.int .u64 u)] (e81 r)
def e82(r:Bool):AV:=.v (.bool r)
def b8g(kind:Int)(r:Bool):Prop:=B9 Tryz.prog [] 82 [.v (.int .i64 kind)] (e82 r)
def e83(r:Bool):AV:=.v (.bool r)
def b56(v:A0)(r:Bool):Prop:=B9 Tryz.prog [] 83 [.agg (A5 v)] (e83 r)
def e84(r:Bool):AV:=.v (.bool r)
def b61(kind:Int)(bits:Int)(r:Bool):Prop:=B9 Tryz.prog [] 84 [.v (.int .i64 kind),.v (.int .u64 bits)] (e84 r)
def e85(r:Bool):AV:=.v (.bool r)
def a00(s:(List b3z))(f:GFn)(r:Bool):Prop:=B9 Tryz.prog [] 85 [.sl (List.map a2i s) .no,.clo (.func f.fn) f.fi f.cap] (e85 r)
def e86(r:Bool):AV:=.v (.bool r)
def c0n(it:b3z)(c1_:Int)(r:Bool):Prop:=B9 Tryz.prog [] 86 [.agg (a2i it),.elt (b8l c1_) 0] (e86 r)
def e89(r:Bool):AV:=.v (.bool r)
def b65(s:ByteArray)(r:Bool):Prop:=B9 Tryz.prog [] 89 [.v (.string s)] (e89 r)
def e92(r:Int):AV:=.v (.int .i64 r)
def b6h(bits:Int)(r:Int):Prop:=B9 Tryz.prog [] 92 [.v (.int .u64 bits)] (e92 r)
def e95(r:Bool):AV:=.v (.bool r)
def b9c(v:A0)(r:Bool):Prop:=B9 Tryz.prog [] 95 [.agg (A5 v)] (e95 r)
def e96(r:Bool):AV:=.v (.bool r)
def a8a(kind:Int)(r:Bool):Prop:=B9 Tryz.prog [] 96 [.v (.int .i64 kind)] (e96 r)
def e97(r:Int):AV:=.v (.int .i64 r)
def b3q(bits:Int)(r:Int):Prop:=B9 Tryz.prog [] 97 [.v (.int .u64 bits)] (e97 r)
def e98(r:Int):AV:=.v (.int .i64 r)
def a1o(a:A0)(b:A0)(r:Int):Prop:=B9 Tryz.prog [] 98 [.agg (A5 a),.agg (A5 b)] (e98 r)
def e99(r:Int):AV:=.v (.int .i64 r)
def a21(s:(List B8))(f:GFn)(r:Int):Prop:=B9 Tryz.prog [] 99 [.sl (List.map E4 s) .no,.clo (.func f.fn) f.fi f.cap] (e99 r)
def h3o(r:Bool):AV:=.v (.bool r)
def c9b(g:B8)(c1_:ByteArray)(r:Bool):Prop:=B9 Tryz.prog [] 100 [.agg (E4 g),.elt (f1q c1_) 0] (h3o r)
def g7d(r:Int):AV:=.v (.int .i64 r)
def P8(x:C9)(g:B8)(v:A0)(level:Int)(r:Int):Prop:=B9 Tryz.prog [] 101 [.agg (K2 x),.agg (E4 g),.agg (A5 v),.v (.int .i64 level)] (g7d r)
def h2m(r:Int):AV:=.v (.int .i64 r)
def b2n(v:A0)(r:Int):Prop:=B9 Tryz.prog [] 102 [.agg (A5 v)] (h2m r)
def g77(r:E2):AV:=.tuple []
theorem f7h(r:E2):plain (g77 r)=true:=rfl
def Y5(w:E2)(o_:GOp)(v:A0)(r:E2):Prop:=b4h Tryz.prog [] 103 [.ptr 0 0,.agg (V3 o_),.agg (A5 v)] (N8 w) (a3n w) (g77 r) (N8 r) (a3n r)
def g8e(r:E2):AV:=.tuple []
theorem f5w(r:E2):plain (g8e r)=true:=rfl
def X0(w:E2)(s:ByteArray)(r:E2):Prop:=b4h Tryz.prog [] 104 [.ptr 0 0,.v (.string s)] (N8 w) (a3n w) (g8e r) (N8 r) (a3n r)
def h5l(r:(List H5)):AV:=.sl (List.map I8 r) .no
def a87(s:(List H5))(r:(List H5)):Prop:=B9 Tryz.prog [] 105 [.sl (List.map I8 s) .no] (h5l r)
def b3x(s:(List H5)):Prop:=f5z Tryz.prog I8 4 105 s
def g76(r:(List (Int × A0))):AV:=.sl (List.map B4 r) .no
def b11(l:(List (Int × A0)))(r:(List (Int × A0))):Prop:=B9 Tryz.prog [] 106 [.sl (List.map B4 l) .no] (g76 r)
def h4u(r:(GOp × Bool)):AV:=.tuple [.agg (V3 r.1),.v (.bool r.2)]
def c0r(g:B8)(num:Int)(r:(GOp × Bool)):Prop:=B9 Tryz.prog [] 107 [.agg (E4 g),.v (.int .i64 num)] (h4u r)
def g8h(r:A0):AV:=.agg (A5 r)
def b34(p:A7)(o_:GOp)(v:A0)(r:A0):Prop:=B9 Tryz.prog [] 108 [.agg (B6 p),.agg (V3 o_),.agg (A5 v)] (g8h r)
def h3x(r:Bool):AV:=.v (.bool r)
def c6e(v:A0)(r:Bool):Prop:=B9 Tryz.prog [] 109 [.agg (A5 v)] (h3x r)
def Y3(x1:GFn):Prop:=B9 Tryz.prog [] 110 [.sl [] .no,.clo (.func x1.fn) x1.fi x1.cap] (.tuple [])
def h3f(r:Int):AV:=.v (.int .i64 r)
def Q9(x:Int)(y:Int)(r:Int):Prop:=B9 Tryz.prog [] 112 [.v (.int .i64 x),.v (.int .i64 y)] (h3f r)
def g73(r:(A9 × Int)):AV:=.v (.int .i64 r.2)
theorem f6y(r:(A9 × Int)):plain (g73 r)=true:=rfl
def a1k(r_:A9)(n:Int)(r:(A9 × Int)):Prop:=b4h Tryz.prog [] 113 [.ptr 0 0,.v (.int .i64 n)] (D0 r_) (J6 r_) (g73 r) (D0 r.1) (J6 r.1)
def g7x(r:(A9 × (A0 × Int))):AV:=.tuple [.agg (A5 r.2.1),.v (.int .i64 r.2.2)]
theorem f7g(r:(A9 × (A0 × Int))):plain (g7x r)=true:=(c67 (A6 (B0 r.2.1) (A6 rfl rfl)))
def G3(r_:A9)(o_:GOp)(r:(A9 × (A0 × Int))):Prop:=b4h Tryz.prog [] 114 [.ptr 0 0,.agg (V3 o_)] (D0 r_) (J6 r_) (g7x r) (D0 r.1) (J6 r.1)
def g31(r:(A9 × (A0 × Int))):AV:=.tuple [.agg (A5 r.2.1),.v (.int .i64 r.2.2)]
theorem f7b(r:(A9 × (A0 × Int))):plain (g31 r)=true:=(c67 (A6 (B0 r.2.1) (A6 rfl rfl)))
def a0r(r_:A9)(o_:GOp)(r:(A9 × (A0 × Int))):Prop:=b4h Tryz.prog [] 115 [.ptr 0 0,.agg (V3 o_)] (D0 r_) (J6 r_) (g31 r) (D0 r.1) (J6 r.1)
def g4c(r:(A9 × (A0 × Int))):AV:=.tuple [.agg (A5 r.2.1),.v (.int .i64 r.2.2)]
theorem f7n(r:(A9 × (A0 × Int))):plain (g4c r)=true:=(c67 (A6 (B0 r.2.1) (A6 rfl rfl)))
def Y7(r_:A9)(o_:GOp)(r:(A9 × (A0 × Int))):Prop:=b4h Tryz.prog [] 116 [.ptr 0 0,.agg (V3 o_)] (D0 r_) (J6 r_) (g4c r) (D0 r.1) (J6 r.1)
def g36(r:(A9 × (A0 × Bool × Int))):AV:=.tuple [.agg (A5 r.2.1),.v (.bool r.2.2.1),.v (.int .i64 r.2.2.2)]
theorem f52(r:(A9 × (A0 × Bool × Int))):plain (g36 r)=true:=(c67 (A6 (B0 r.2.1) (A6 rfl (A6 rfl rfl))))
def Y8(r_:A9)(g:B8)(v:A0)(o_:GOp)(r:(A9 × (A0 × Bool × Int))):Prop:=b4h Tryz.prog [] 117 [.ptr 0 0,.agg (E4 g),.agg (A5 v),.agg (V3 o_)] (D0 r_) (J6 r_) (g36 r) (D0 r.1) (J6 r.1)
def h4v(r:Bool):AV:=.v (.bool r)
def b3c(c:A3)(r:Bool):Prop:=B9 Tryz.prog [] 118 [.agg (D4 c)] (h4v r)
def h3r(r:A0):AV:=.agg (A5 r)
def a9w(p:A7)(o_:GOp)(v:A0)(r:A0):Prop:=B9 Tryz.prog [] 119 [.agg (B6 p),.agg (V3 o_),.agg (A5 v)] (h3r r)
def g41(r:(List (A0 × A0))):AV:=.sl (List.map A8 r) .no
def b58(l:(List (A0 × A0)))(r:(List (A0 × A0))):Prop:=B9 Tryz.prog [] 120 [.sl (List.map A8 l) .no] (g41 r)
def h4s(r:Bool):AV:=.v (.bool r)
def b7v(v:A0)(r:Bool):Prop:=B9 Tryz.prog [] 121 [.agg (A5 v)] (h4s r)
def g8z(r:Bool):AV:=.v (.bool r)
def b07(s:ByteArray)(r:Bool):Prop:=B9 Tryz.prog [] 130 [.v (.string s)] (g8z r)
def h3y(r:Bool):AV:=.v (.bool r)
def b2v(s:ByteArray)(r:Bool):Prop:=B9 Tryz.prog [] 131 [.v (.string s)] (h3y r)
def h1k(r:Bool):AV:=.v (.bool r)
def b3t(l:(List b98))(n:Int)(r:Bool):Prop:=B9 Tryz.prog [] 132 [.sl (List.map b1z l) .no,.v (.int .i64 n)] (h1k r)
def h14(r:Int):AV:=.v (.int .i64 r)
def c1d(l:(List b2r))(target:Int)(r:Int):Prop:=B9 Tryz.prog [] 133 [.sl (List.map a7s l) .no,.v (.int .i64 target)] (h14 r)
def g81(r:Bool):AV:=.v (.bool r)
def b73(g:B8)(r:Bool):Prop:=B9 Tryz.prog [] 134 [.agg (E4 g)] (g81 r)
def h2i(r:Bool):AV:=.v (.bool r)
def b2f(p:A7)(o_:GOp)(r:Bool):Prop:=B9 Tryz.prog [] 135 [.agg (B6 p),.agg (V3 o_)] (h2i r)
def h1r(r:(Int × Int)):AV:=.tuple [.v (.int .u64 r.1),.v (.int .i64 r.2)]
def a97(s:ByteArray)(r:(Int × Int)):Prop:=B9 Tryz.prog [] 136 [.v (.string s)] (h1r r)
def h3u(r:ByteArray):AV:=.v (.string r)
def b6y(c:A3)(n:Int)(r:ByteArray):Prop:=B9 Tryz.prog [] 137 [.agg (D4 c),.v (.int .i64 n)] (h3u r)
def h3c(r:(List Int)):AV:=.sl (List.map b00 r) .no
def c62(c:A3)(n:Int)(r:(List Int)):Prop:=B9 Tryz.prog [] 138 [.agg (D4 c),.v (.int .i64 n)] (h3c r)
def h1e(r:Int):AV:=.v (.int .i64 r)
def f16(s:ByteArray)(r:Int):Prop:=B9 Tryz.prog [] 139 [.v (.string s)] (h1e r)
def g9g(r:(Int × Int × Int)):AV:=.tuple [.v (.int .u64 r.1),.v (.int .i64 r.2.1),.v (.int .i64 r.2.2)]
def c19(s:ByteArray)(r:(Int × Int × Int)):Prop:=B9 Tryz.prog [] 140 [.v (.string s)] (g9g r)
def h5a(r:Bool):AV:=.v (.bool r)
def b8h(kind:Int)(r:Bool):Prop:=B9 Tryz.prog [] 141 [.v (.int .i64 kind)] (h5a r)
def h0w(r:Int):AV:=.v (.int .i64 r)
def a2n(s:(List b3z))(f:GFn)(r:Int):Prop:=B9 Tryz.prog [] 142 [.sl (List.map a2i s) .no,.clo (.func f.fn) f.fi f.cap] (h0w r)
def h1z(r:Int):AV:=.v (.int .i64 r)
def d6c(s:ByteArray)(r:Int):Prop:=B9 Tryz.prog [] 143 [.v (.string s)] (h1z r)
def h4n(r:Int):AV:=.v (.int .i64 r)
def S3(a:Int)(b:Int)(r:Int):Prop:=B9 Tryz.prog [] 146 [.v (.int .i64 a),.v (.int .i64 b)] (h4n r)
def h1p(r:Int):AV:=.v (.int .i64 r)
def d0x(a:(List A0))(b:(List A0))(r:Int):Prop:=B9 Tryz.prog [] 147 [.sl (List.map C0 a) .no,.sl (List.map C0 b) .no] (h1p r)
def h1m(r:Int):AV:=.v (.int .i64 r)
def d0e(a:(List (A0 × A0)))(b:(List (A0 × A0)))(r:Int):Prop:=B9 Tryz.prog [] 148 [.sl (List.map A8 a) .no,.sl (List.map A8 b) .no] (h1m r)
def h2h(r:Int):AV:=.v (.int .i64 r)
def c91(a:(List (Int × A0)))(b:(List (Int × A0)))(r:Int):Prop:=B9 Tryz.prog [] 149 [.sl (List.map B4 a) .no,.sl (List.map B4 b) .no] (h2h r)
def g8x(r:Int):AV:=.v (.int .i64 r)
def d27(a:(List H5))(b:(List H5))(r:Int):Prop:=B9 Tryz.prog [] 150 [.sl (List.map I8 a) .no,.sl (List.map I8 b) .no] (g8x r)
def h3e(r:Int):AV:=.v (.int .i64 r)
def d0q(a:A0)(b:A0)(r:Int):Prop:=B9 Tryz.prog [] 151 [.agg (A5 a),.agg (A5 b)] (h3e r)
def h4t(r:Bool):AV:=.v (.bool r)
def b1t(v:A0)(r:Bool):Prop:=B9 Tryz.prog [] 152 [.agg (A5 v)] (h4t r)
def h2s(r:Int):AV:=.v (.int .i64 r)
def a6z(x:C9)(g:B8)(l:(List (Int × A0)))(i:Int)(level:Int)(r:Int):Prop:=B9 Tryz.prog [] 153 [.agg (K2 x),.agg (E4 g),.sl (List.map B4 l) .no,.v (.int .i64 i),.v (.int .i64 level)] (h2s r)
def h5f(r:Bool):AV:=.v (.bool r)
def N6(s:(List (Int × A0)))(f:GFn)(r:Bool):Prop:=B9 Tryz.prog [] 154 [.sl (List.map B4 s) .no,.clo (.func f.fn) f.fi f.cap] (h5f r)
def h38(r:Bool):AV:=.v (.bool r)
def a6p(y:(Int × A0))(c1_:GOp)(r:Bool):Prop:=B9 Tryz.prog [] 155 [.agg (W5 y),.elt (V3 c1_) 0] (h38 r)
def h3p(r:Int):AV:=.v (.int .i64 r)
def a74(x:C9)(g:B8)(f:H5)(r:Int):Prop:=B9 Tryz.prog [] 156 [.agg (K2 x),.agg (E4 g),.agg (I8 f)] (h3p r)
def g75(r:(List A0)):AV:=.sl (List.map C0 r) .no
def c1c(v:A0)(r:(List A0)):Prop:=B9 Tryz.prog [] 157 [.agg (A5 v)] (g75 r)
def h3k(r:(List (Int × A0))):AV:=.sl (List.map B4 r) .no
def a6n(s:(List (Int × A0)))(r:(List (Int × A0))):Prop:=B9 Tryz.prog [] 158 [.sl (List.map B4 s) .no] (h3k r)
def a2o(s:(List (Int × A0))):Prop:=f5z Tryz.prog B4 8 158 s
def S6(n0:Nat)(x:(List (Int × A0)))(cmp:GFn)(r:(List (Int × A0))):Prop:=c03 Tryz.prog B4 8 159 n0 [.clo (.func cmp.fn) cmp.fi cmp.cap] x r
def W7(x1:GFn):Prop:=B9 Tryz.prog [] 159 [.sl [] .no,.clo (.func x1.fn) x1.fi x1.cap] (.tuple [])
def h40(r:Int):AV:=.v (.int .i64 r)
def c3r(a:(Int × A0))(b:(Int × A0))(r:Int):Prop:=B9 Tryz.prog [] 160 [.agg (W5 a),.agg (W5 b)] (h40 r)
def h5n(r:Bool):AV:=.v (.bool r)
def d5t(o_:GOp)(c1_:Int)(r:Bool):Prop:=B9 Tryz.prog [] 161 [.agg (V3 o_),.elt (a9z c1_) 0] (h5n r)
def h5k(r:(GOp × Bool)):AV:=.tuple [.agg (V3 r.1),.v (.bool r.2)]
def c0l(x:b3u)(g:B8)(r:(GOp × Bool)):Prop:=B9 Tryz.prog [] 162 [.agg (b2z x),.agg (E4 g)] (h5k r)
def h4b(r:A0):AV:=.agg (A5 r)
def a6y(p:A7)(o_:GOp)(v:A0)(r:A0):Prop:=B9 Tryz.prog [] 163 [.agg (B6 p),.agg (V3 o_),.agg (A5 v)] (h4b r)
def g8i(r:(List (A0 × A0))):AV:=.sl (List.map A8 r) .no
def b6j(l:(List (A0 × A0)))(r:(List (A0 × A0))):Prop:=B9 Tryz.prog [] 164 [.sl (List.map A8 l) .no] (g8i r)
def h5g(r:Bool):AV:=.v (.bool r)
def a62(v:A0)(r:Bool):Prop:=B9 Tryz.prog [] 165 [.agg (A5 v)] (h5g r)
def h4x(r:Bool):AV:=.v (.bool r)
def b64(x:Int)(r:Bool):Prop:=B9 Tryz.prog [] 167 [.v (.int .i64 x)] (h4x r)
def h4a(r:(A3 × Int)):AV:=.tuple [.agg (D4 r.1),.v (.int .i64 r.2)]
def c6p(c:A3)(n:Int)(r:(A3 × Int)):Prop:=B9 Tryz.prog [] 168 [.agg (D4 c),.v (.int .i64 n)] (h4a r)
def g7v(r:(A9 × (Int × Int))):AV:=.tuple [.v (.int .i64 r.2.1),.v (.int .i64 r.2.2)]
theorem f6u(r:(A9 × (Int × Int))):plain (g7v r)=true:=(c67 (A6 rfl (A6 rfl rfl)))
def a4z(r_:A9)(r:(A9 × (Int × Int))):Prop:=b4h Tryz.prog [] 169 [.ptr 0 0] (D0 r_) (J6 r_) (g7v r) (D0 r.1) (J6 r.1)
def h4h(r:Int):AV:=.v (.int .i64 r)
def a9y(a:A0)(b:A0)(r:Int):Prop:=B9 Tryz.prog [] 170 [.agg (A5 a),.agg (A5 b)] (h4h r)
def h0u(r:Bool):AV:=.v (.bool r)
def b76(s:ByteArray)(r:Bool):Prop:=B9 Tryz.prog [] 173 [.v (.string s)] (h0u r)
def h2c(r:(ByteArray × ByteArray)):AV:=.tuple [.v (.string r.1),.v (.string r.2)]
def c13(full:ByteArray)(r:(ByteArray × ByteArray)):Prop:=B9 Tryz.prog [] 174 [.v (.string full)] (h2c r)
def h34(r:Bool):AV:=.v (.bool r)
def b3h(s:ByteArray)(r:Bool):Prop:=B9 Tryz.prog [] 175 [.v (.string s)] (h34 r)
def g86(r:Bool):AV:=.v (.bool r)
def a9u(s:ByteArray)(r:Bool):Prop:=B9 Tryz.prog [] 176 [.v (.string s)] (g86 r)
def g3o(r:Int):AV:=.v (.int .i64 r)
def b9y(name:ByteArray)(r:Int):Prop:=B9 Tryz.prog [] 177 [.v (.string name)] (g3o r)
def g2r(r:Bool):AV:=.v (.bool r)
def c45(name:ByteArray)(target:Int)(r:Bool):Prop:=B9 Tryz.prog [] 178 [.v (.string name),.v (.int .i64 target)] (g2r r)
def h47(r:Bool):AV:=.v (.bool r)
def c05(n:b2r)(r:Bool):Prop:=B9 Tryz.prog [] 179 [.agg (a7s n)] (h47 r)
def h43(r:Bool):AV:=.v (.bool r)
def b70(p:A7)(o_:GOp)(r:Bool):Prop:=B9 Tryz.prog [] 180 [.agg (B6 p),.agg (V3 o_)] (h43 r)
def h4w(r:Bool):AV:=.v (.bool r)
def d0s(s:ByteArray)(at_:Int)(c:Int)(r:Bool):Prop:=B9 Tryz.prog [] 181 [.v (.string s),.v (.int .i64 at_),.v (.int .i32 c)] (h4w r)
def h4g(r:Int):AV:=.v (.int .i64 r)
def c5t(s:ByteArray)(i:Int)(r:Int):Prop:=B9 Tryz.prog [] 182 [.v (.string s),.v (.int .i64 i)] (h4g r)
def h4d(r:Int):AV:=.v (.int .i64 r)
def c92(a:H5)(b:H5)(r:Int):Prop:=B9 Tryz.prog [] 183 [.agg (I8 a),.agg (I8 b)] (h4d r)
def h3w(r:Int):AV:=.v (.int .u64 r)
def b1k(v:A0)(r:Int):Prop:=B9 Tryz.prog [] 184 [.agg (A5 v)] (h3w r)
def h4y(r:Bool):AV:=.v (.bool r)
def b0h(y:(Int × A0))(c1_:GOp)(r:Bool):Prop:=B9 Tryz.prog [] 185 [.agg (W5 y),.elt (V3 c1_) 0] (h4y r)
def h0a(r:Int):AV:=.v (.int .i64 r)
def a42(x:C9)(o_:GOp)(v:A0)(level:Int)(r:Int):Prop:=B9 Tryz.prog [] 186 [.agg (K2 x),.agg (V3 o_),.agg (A5 v),.v (.int .i64 level)] (h0a r)
def g9z(r:Int):AV:=.v (.int .i64 r)
def a2l(s:(List (Int × A0)))(f:GFn)(r:Int):Prop:=B9 Tryz.prog [] 187 [.sl (List.map B4 s) .no,.clo (.func f.fn) f.fi f.cap] (g9z r)
def a1l(s:(List A0)):Prop:=g2s Tryz.prog C0 7 188 s
def a0f(n0:Nat)(data:(List (Int × A0)))(n:Int)(cmp:GFn)(r:(List (Int × A0))):Prop:=c03 Tryz.prog B4 8 189 n0 [.v (.int .i64 n),.clo (.func cmp.fn) cmp.fi cmp.cap] data r
def g90(r:Int):AV:=.v (.int .i64 r)
def a6w(s:(List GOp))(f:GFn)(r:Int):Prop:=B9 Tryz.prog [] 190 [.sl (List.map V3 s) .no,.clo (.func f.fn) f.fi f.cap] (g90 r)
def h4p(r:(List (A0 × A0))):AV:=.sl (List.map A8 r) .no
def a6t(s:(List (A0 × A0)))(r:(List (A0 × A0))):Prop:=B9 Tryz.prog [] 191 [.sl (List.map A8 s) .no] (h4p r)
def a28(s:(List (A0 × A0))):Prop:=f5z Tryz.prog A8 14 191 s
def S5(n0:Nat)(x:(List (A0 × A0)))(cmp:GFn)(r:(List (A0 × A0))):Prop:=c03 Tryz.prog A8 14 192 n0 [.clo (.func cmp.fn) cmp.fi cmp.cap] x r
def W8(x1:GFn):Prop:=B9 Tryz.prog [] 192 [.sl [] .no,.clo (.func x1.fn) x1.fi x1.cap] (.tuple [])
def h3q(r:Int):AV:=.v (.int .i64 r)
def d37(a:(A0 × A0))(b:(A0 × A0))(r:Int):Prop:=B9 Tryz.prog [] 193 [.agg (U7 a),.agg (U7 b)] (h3q r)
def h46(r:Bool):AV:=.v (.bool r)
def b2j(a:A0)(b:A0)(r:Bool):Prop:=B9 Tryz.prog [] 194 [.agg (A5 a),.agg (A5 b)] (h46 r)
def h5c(r:b9q):AV:=c86 r
def a8w(v:A0)(r:b9q):Prop:=B9 Tryz.prog [] 197 [.agg (A5 v)] (h5c r)
def h44(r:Int):AV:=.v (.int .i64 r)
def c5h(a:A0)(b:A0)(r:Int):Prop:=B9 Tryz.prog [] 198 [.agg (A5 a),.agg (A5 b)] (h44 r)
def h0h(r:Int):AV:=.v (.int .i64 r)
def K3(s1_:(List A0))(s2_:(List A0))(cmp:GFn)(r:Int):Prop:=B9 Tryz.prog [] 199 [.sl (List.map C0 s1_) .no,.sl (List.map C0 s2_) .no,.clo (.func cmp.fn) cmp.fi cmp.cap] (h0h r)
def h29(r:Int):AV:=.v (.int .i64 r)
def K1(s1_:(List (A0 × A0)))(s2_:(List (A0 × A0)))(cmp:GFn)(r:Int):Prop:=B9 Tryz.prog [] 200 [.sl (List.map A8 s1_) .no,.sl (List.map A8 s2_) .no,.clo (.func cmp.fn) cmp.fi cmp.cap] (h29 r)
def h3j(r:Int):AV:=.v (.int .i64 r)
def d4p(a:(A0 × A0))(b:(A0 × A0))(r:Int):Prop:=B9 Tryz.prog [] 201 [.agg (U7 a),.agg (U7 b)] (h3j r)
def g9i(r:Int):AV:=.v (.int .i64 r)
def b1m(vals:(List Int))(r:Int):Prop:=B9 Tryz.prog [] 202 [.sl (List.map a9z vals) .no] (g9i r)
def g9a(r:Int):AV:=.v (.int .i64 r)
def U8(s1_:(List (Int × A0)))(s2_:(List (Int × A0)))(cmp:GFn)(r:Int):Prop:=B9 Tryz.prog [] 203 [.sl (List.map B4 s1_) .no,.sl (List.map B4 s2_) .no,.clo (.func cmp.fn) cmp.fi cmp.cap] (g9a r)
def h3b(r:Int):AV:=.v (.int .i64 r)
def d30(a:(Int × A0))(b:(Int × A0))(r:Int):Prop:=B9 Tryz.prog [] 204 [.agg (W5 a),.agg (W5 b)] (h3b r)
def h0q(r:Int):AV:=.v (.int .i64 r)
def W9(s1_:(List H5))(s2_:(List H5))(cmp:GFn)(r:Int):Prop:=B9 Tryz.prog [] 205 [.sl (List.map I8 s1_) .no,.sl (List.map I8 s2_) .no,.clo (.func cmp.fn) cmp.fi cmp.cap] (h0q r)
def h3h(r:Int):AV:=.v (.int .i64 r)
def c6m(a:H5)(b:H5)(r:Int):Prop:=B9 Tryz.prog [] 206 [.agg (I8 a),.agg (I8 b)] (h3h r)
def h5d(r:Bool):AV:=.v (.bool r)
def b6v(b:Int)(r:Bool):Prop:=B9 Tryz.prog [] 208 [.v (.int .u8 b)] (h5d r)
def h5m(r:Bool):AV:=.v (.bool r)
def b0z(b:Int)(r:Bool):Prop:=B9 Tryz.prog [] 209 [.v (.int .u8 b)] (h5m r)
def h4o(r:Bool):AV:=.v (.bool r)
def a7z(s:ByteArray)(prefix_:ByteArray)(r:Bool):Prop:=B9 Tryz.prog [] 210 [.v (.string s),.v (.string prefix_)] (h4o r)
def h26(r:Bool):AV:=.v (.bool r)
def a3b(s:ByteArray)(i:Int)(n:Int)(r:Bool):Prop:=B9 Tryz.prog [] 211 [.v (.string s),.v (.int .i64 i),.v (.int .i64 n)] (h26 r)
def h4l(r:Bool):AV:=.v (.bool r)
def a07(s:ByteArray)(i:Int)(lo:Int)(hi:Int)(r:Bool):Prop:=B9 Tryz.prog [] 212 [.v (.string s),.v (.int .i64 i),.v (.int .u8 lo),.v (.int .u8 hi)] (h4l r)
def h3g(r:Bool):AV:=.v (.bool r)
def c6x(kind:Int)(r:Bool):Prop:=B9 Tryz.prog [] 213 [.v (.int .i64 kind)] (h3g r)
def h4i(r:Int):AV:=.v (.int .i64 r)
def Z5(x:C9)(o_:GOp)(v:A0)(level:Int)(r:Int):Prop:=B9 Tryz.prog [] 214 [.agg (K2 x),.agg (V3 o_),.agg (A5 v),.v (.int .i64 level)] (h4i r)
def g9v(r:Int):AV:=.v (.int .i64 r)
def a2v(x:C9)(o_:GOp)(l:(List (A0 × A0)))(level:Int)(r:Int):Prop:=B9 Tryz.prog [] 215 [.agg (K2 x),.agg (V3 o_),.sl (List.map A8 l) .no,.v (.int .i64 level)] (g9v r)
def K6(n0:Nat)(data:(List (Int × A0)))(a:Int)(b:Int)(cmp:GFn)(r:(List (Int × A0))):Prop:=c03 Tryz.prog B4 8 216 n0 [.v (.int .i64 a),.v (.int .i64 b),.clo (.func cmp.fn) cmp.fi cmp.cap] data r
def G9(n0:Nat)(data:(List (Int × A0)))(a:Int)(m:Int)(b:Int)(cmp:GFn)(r:(List (Int × A0))):Prop:=c03 Tryz.prog B4 8 217 n0 [.v (.int .i64 a),.v (.int .i64 m),.v (.int .i64 b),.clo (.func cmp.fn) cmp.fi cmp.cap] data r
def a0c(n0:Nat)(data:(List (A0 × A0)))(n:Int)(cmp:GFn)(r:(List (A0 × A0))):Prop:=c03 Tryz.prog A8 14 218 n0 [.v (.int .i64 n),.clo (.func cmp.fn) cmp.fi cmp.cap] data r
def h4j(r:Int):AV:=.v (.int .i64 r)
def a17(x:ByteArray)(y:ByteArray)(r:Int):Prop:=B9 Tryz.prog [] 220 [.v (.string x),.v (.string y)] (h4j r)
def h4k(r:Int):AV:=.v (.int .i64 r)
def Z9(x:Int)(y:Int)(r:Int):Prop:=B9 Tryz.prog [] 221 [.v (.int .u64 x),.v (.int .u64 y)] (h4k r)
def h30(r:Int):AV:=.v (.int .u64 r)
def b2y(bits:Int)(r:Int):Prop:=B9 Tryz.prog [] 222 [.v (.int .u64 bits)] (h30 r)
def h4m(r:Bool):AV:=.v (.bool r)
def a01(s:ByteArray)(prefix_:ByteArray)(r:Bool):Prop:=B9 Tryz.prog [] 223 [.v (.string s),.v (.string prefix_)] (h4m r)
def h41(r:Int):AV:=.v (.int .i64 r)
def a3k(x:C9)(kind:Int)(enum:Int)(v:A0)(r:Int):Prop:=B9 Tryz.prog [] 224 [.agg (K2 x),.v (.int .i64 kind),.v (.int .i64 enum),.agg (A5 v)] (h41 r)
def h5h(r:Bool):AV:=.v (.bool r)
def V4(s:(List (A0 × A0)))(f:GFn)(r:Bool):Prop:=B9 Tryz.prog [] 225 [.sl (List.map A8 s) .no,.clo (.func f.fn) f.fi f.cap] (h5h r)
def h5b(r:Bool):AV:=.v (.bool r)
def a6m(q:(A0 × A0))(c1_:(A0 × A0))(r:Bool):Prop:=B9 Tryz.prog [] 226 [.agg (U7 q),.elt (U7 c1_) 0] (h5b r)
def a0h(n0:Nat)(data:(List (Int × A0)))(a:Int)(m:Int)(b:Int)(cmp:GFn)(r:(List (Int × A0))):Prop:=c03 Tryz.prog B4 8 227 n0 [.v (.int .i64 a),.v (.int .i64 m),.v (.int .i64 b),.clo (.func cmp.fn) cmp.fi cmp.cap] data r
def K5(n0:Nat)(data:(List (A0 × A0)))(a:Int)(b:Int)(cmp:GFn)(r:(List (A0 × A0))):Prop:=c03 Tryz.prog A8 14 228 n0 [.v (.int .i64 a),.v (.int .i64 b),.clo (.func cmp.fn) cmp.fi cmp.cap] data r
def H1(n0:Nat)(data:(List (A0 × A0)))(a:Int)(m:Int)(b:Int)(cmp:GFn)(r:(List (A0 × A0))):Prop:=c03 Tryz.prog A8 14 229 n0 [.v (.int .i64 a),.v (.int .i64 m),.v (.int .i64 b),.clo (.func cmp.fn) cmp.fi cmp.cap] data r
def h3s(r:Bool):AV:=.v (.bool r)
def b0c(x:ByteArray)(r:Bool):Prop:=B9 Tryz.prog [] 231 [.v (.string x)] (h3s r)
def h3i(r:Bool):AV:=.v (.bool r)
def b0d(x:Int)(r:Bool):Prop:=B9 Tryz.prog [] 232 [.v (.int .u64 x)] (h3i r)
def h2x(r:Int):AV:=.v (.int .i64 r)
def a2f(s:(List (A0 × A0)))(f:GFn)(r:Int):Prop:=B9 Tryz.prog [] 233 [.sl (List.map A8 s) .no,.clo (.func f.fn) f.fi f.cap] (h2x r)
def J7(n0:Nat)(data:(List (Int × A0)))(a:Int)(b:Int)(n:Int)(cmp:GFn)(r:(List (Int × A0))):Prop:=c03 Tryz.prog B4 8 234 n0 [.v (.int .i64 a),.v (.int .i64 b),.v (.int .i64 n),.clo (.func cmp.fn) cmp.fi cmp.cap] data r
def a0d(n0:Nat)(data:(List (A0 × A0)))(a:Int)(m:Int)(b:Int)(cmp:GFn)(r:(List (A0 × A0))):Prop:=c03 Tryz.prog A8 14 235 n0 [.v (.int .i64 a),.v (.int .i64 m),.v (.int .i64 b),.clo (.func cmp.fn) cmp.fi cmp.cap] data r
def J8(n0:Nat)(data:(List (A0 × A0)))(a:Int)(b:Int)(n:Int)(cmp:GFn)(r:(List (A0 × A0))):Prop:=c03 Tryz.prog A8 14 236 n0 [.v (.int .i64 a),.v (.int .i64 b),.v (.int .i64 n),.clo (.func cmp.fn) cmp.fi cmp.cap] data r
theorem pl9{x0:A7}:plainL [.agg (B6 x0)]=true:=(A6 (E7 x0) rfl)
theorem h6x{x0:A7}{x1:GOp}{x2:A3}:plainL [.agg (B6 x0),.agg (V3 x1),.agg (D4 x2)]=true:=(A6 (E7 x0) (A6 (N3 x1) (A6 (C6 x2) rfl)))
theorem h39{x0:A0}:plainL [.agg (A5 x0)]=true:=(A6 (B0 x0) rfl)
theorem h5u{x0:A0}{x1:A0}:plainL [.agg (A5 x0),.agg (A5 x1)]=true:=(A6 (B0 x0) (A6 (B0 x1) rfl))
theorem h4e:plainL []=true:=rfl
theorem h5x{x0:A0}:plainL [.agg (A5 x0)]=true:=(A6 (B0 x0) rfl)
theorem h5r{x0:A7}{x1:ByteArray}{x2:A0}:plainL [.agg (B6 x0),.v (.string x1),.agg (A5 x2)]=true:=(A6 (E7 x0) (A6 rfl (A6 (B0 x2) rfl)))
theorem h5v{x0:A7}{x1:ByteArray}:plainL [.agg (B6 x0),.v (.string x1)]=true:=(A6 (E7 x0) (A6 rfl rfl))
theorem h6e{x0:A7}{x1:ByteArray}{x2:ByteArray}{x3:a0e}:plainL [.agg (B6 x0),.v (.string x1),.v (.string x2),.agg (a7b x3)]=true:=(A6 (E7 x0) (A6 rfl (A6 rfl (A6 (O1 x3) rfl))))
theorem h50:plainL []=true:=rfl
theorem h31{x0:A7}{x1:Int}{x2:A0}:plainL [.agg (B6 x0),.v (.int .i64 x1),.agg (A5 x2)]=true:=(A6 (E7 x0) (A6 rfl (A6 (B0 x2) rfl)))
theorem g37{x0:A0}:plainL [.agg (A5 x0)]=true:=(A6 (B0 x0) rfl)
theorem h6s{x0:A7}:plainL [.agg (B6 x0)]=true:=(A6 (E7 x0) rfl)
theorem h4r{x0:A3}:plainL [.agg (D4 x0)]=true:=(A6 (C6 x0) rfl)
theorem h6p{x0:A3}:plainL [.agg (D4 x0)]=true:=(A6 (C6 x0) rfl)
theorem h5w{x0:Int}{x1:A3}:plainL [.v (.int .i64 x0),.agg (D4 x1)]=true:=(A6 rfl (A6 (C6 x1) rfl))
theorem g95{x0:A3}:plainL [.agg (D4 x0)]=true:=(A6 (C6 x0) rfl)
theorem h6u{x0:Int}:plainL [.v (.int .u64 x0)]=true:=(A6 rfl rfl)
theorem g9x{x0:Int}{x1:A0}:plainL [.v (.int .i64 x0),.agg (A5 x1)]=true:=(A6 rfl (A6 (B0 x1) rfl))
theorem h13{x0:A7}{x1:Int}{x2:Int}:plainL [.agg (B6 x0),.v (.int .i64 x1),.v (.int .u64 x2)]=true:=(A6 (E7 x0) (A6 rfl (A6 rfl rfl)))
theorem h37{x0:A0}:plainL [.agg (A5 x0)]=true:=(A6 (B0 x0) rfl)
theorem g8r{x0:Int}:plainL [.v (.int .i64 x0)]=true:=(A6 rfl rfl)
theorem h6o{x0:Int}{x1:A0}:plainL [.v (.int .i64 x0),.agg (A5 x1)]=true:=(A6 rfl (A6 (B0 x1) rfl))
theorem g7r{x0:Int}:plainL [.v (.int .u64 x0)]=true:=(A6 rfl rfl)
theorem h6i{x0:Int}:plainL [.v (.int .i64 x0)]=true:=(A6 rfl rfl)
theorem h6f{x0:Int}:plainL [.v (.int .u64 x0)]=true:=(A6 rfl rfl)
theorem g78{x0:A0}:plainL [.agg (A5 x0)]=true:=(A6 (B0 x0) rfl)
theorem h6v{x0:A0}{x1:A0}:plainL [.agg (A5 x0),.agg (A5 x1)]=true:=(A6 (B0 x0) (A6 (B0 x1) rfl))
theorem h3m{x0:Int}:plainL [.v (.int .u64 x0)]=true:=(A6 rfl rfl)
theorem h35{x0:A7}{x1:ByteArray}:plainL [.agg (B6 x0),.v (.string x1)]=true:=(A6 (E7 x0) (A6 rfl rfl))
theorem h6q{x0:A7}{x1:Int}{x2:A0}:plainL [.agg (B6 x0),.v (.int .i64 x1),.agg (A5 x2)]=true:=(A6 (E7 x0) (A6 rfl (A6 (B0 x2) rfl)))
theorem g70{x0:A0}:plainL [.agg (A5 x0)]=true:=(A6 (B0 x0) rfl)
theorem g6o{x0:E2}{x1:Int}{x2:A0}{r:E2}:(N8 x0).all ok1=true/\(N8 r).all ok1=true/\List.all [.ptr 0 0,.v (.int .i64 x1),.agg (A5 x2)] okA=true/\plain (e58 r)=true:=⟨a3h _,a3h _,F6 rfl (F6 (C5 rfl) (F6 (C5 (B0 x2)) rfl)),g2v r⟩
theorem h49{x0:A7}{x1:Int}{x2:A0}:plainL [.agg (B6 x0),.v (.int .i64 x1),.agg (A5 x2)]=true:=(A6 (E7 x0) (A6 rfl (A6 (B0 x2) rfl)))
theorem h51{x0:ByteArray}{x1:a0e}:plainL [.v (.string x0),.agg (a7b x1)]=true:=(A6 rfl (A6 (O1 x1) rfl))
theorem g49{x0:A9}{x1:Int}{r:(A9 × (A0 × Int))}:(D0 x0).all ok1=true/\(D0 r.1).all ok1=true/\List.all [.ptr 0 0,.v (.int .i64 x1)] okA=true/\plain (e61 r)=true:=⟨J3 _,J3 _,F6 rfl (F6 (C5 rfl) rfl),g7u r⟩
theorem g7w{x0:A3}:plainL [.agg (D4 x0)]=true:=(A6 (C6 x0) rfl)
theorem h60{x0:(List H5)}:plainL [.sl (List.map I8 x0) .no]=true:=(A6 (psl (H6 x0)) rfl)
theorem h61{x0:A7}{x1:GOp}{x2:A0}:plainL [.agg (B6 x0),.agg (V3 x1),.agg (A5 x2)]=true:=(A6 (E7 x0) (A6 (N3 x1) (A6 (B0 x2) rfl)))
theorem h6r{x0:A0}:plainL [.agg (A5 x0)]=true:=(A6 (B0 x0) rfl)
theorem h5p{x0:A7}:plainL [.agg (B6 x0)]=true:=(A6 (E7 x0) rfl)
theorem h59{x0:A7}:plainL [.agg (B6 x0)]=true:=(A6 (E7 x0) rfl)
theorem h5s{x0:A7}:plainL [.agg (B6 x0)]=true:=(A6 (E7 x0) rfl)
theorem h54{x0:A7}:plainL [.agg (B6 x0)]=true:=(A6 (E7 x0) rfl)
theorem h6c{x0:A7}:plainL [.agg (B6 x0)]=true:=(A6 (E7 x0) rfl)
theorem h55{x0:A7}:plainL [.agg (B6 x0)]=true:=(A6 (E7 x0) rfl)
theorem h6a{x0:A7}:plainL [.agg (B6 x0)]=true:=(A6 (E7 x0) rfl)
theorem g8c{x0:A3}{x1:Int}:plainL [.agg (D4 x0),.v (.int .i64 x1)]=true:=(A6 (C6 x0) (A6 rfl rfl))
theorem h5q{x0:A3}:plainL [.agg (D4 x0)]=true:=(A6 (C6 x0) rfl)
theorem h6z{x0:A3}{x1:Int}:plainL [.agg (D4 x0),.v (.int .i64 x1)]=true:=(A6 (C6 x0) (A6 rfl rfl))
theorem g8l{x0:ByteArray}:plainL [.v (.string x0)]=true:=(A6 rfl rfl)
theorem h6m{x0:A3}:plainL [.agg (D4 x0)]=true:=(A6 (C6 x0) rfl)
theorem h6j{x0:Int}:plainL [.v (.int .u64 x0)]=true:=(A6 rfl rfl)
theorem g7z{x0:Int}:plainL [.v (.int .i64 x0)]=true:=(A6 rfl rfl)
theorem h3t{x0:A0}:plainL [.agg (A5 x0)]=true:=(A6 (B0 x0) rfl)
theorem h5y{x0:Int}{x1:Int}:plainL [.v (.int .i64 x0),.v (.int .u64 x1)]=true:=(A6 rfl (A6 rfl rfl))
theorem h52{x0:(List b3z)}{x1:GFn}:plainL [.sl (List.map a2i x0) .no,.clo (.func x1.fn) x1.fi x1.cap]=true:=(A6 (psl (L0 x0)) (A6 (a0y x1) rfl))
theorem h42{x0:ByteArray}:plainL [.v (.string x0)]=true:=(A6 rfl rfl)
theorem h3z{x0:Int}:plainL [.v (.int .u64 x0)]=true:=(A6 rfl rfl)
theorem h4f{x0:A0}:plainL [.agg (A5 x0)]=true:=(A6 (B0 x0) rfl)
theorem g74{x0:Int}:plainL [.v (.int .i64 x0)]=true:=(A6 rfl rfl)
theorem h36{x0:Int}:plainL [.v (.int .u64 x0)]=true:=(A6 rfl rfl)
theorem f8v{x0:A0}{x1:A0}:plainL [.agg (A5 x0),.agg (A5 x1)]=true:=(A6 (B0 x0) (A6 (B0 x1) rfl))
theorem h6t{x0:(List B8)}{x1:GFn}:plainL [.sl (List.map E4 x0) .no,.clo (.func x1.fn) x1.fi x1.cap]=true:=(A6 (psl (I2 x0)) (A6 (a0y x1) rfl))
theorem g60{x0:C9}{x1:B8}{x2:A0}{x3:Int}:plainL [.agg (K2 x0),.agg (E4 x1),.agg (A5 x2),.v (.int .i64 x3)]=true:=(A6 (G1 x0) (A6 (G2 x1) (A6 (B0 x2) (A6 rfl rfl))))
theorem g3r{x0:A0}:plainL [.agg (A5 x0)]=true:=(A6 (B0 x0) rfl)
theorem e1f{x0:E2}{x1:GOp}{x2:A0}{r:E2}:(N8 x0).all ok1=true/\(N8 r).all ok1=true/\List.all [.ptr 0 0,.agg (V3 x1),.agg (A5 x2)] okA=true/\plain (g77 r)=true:=⟨a3h _,a3h _,F6 rfl (F6 (C5 (N3 x1)) (F6 (C5 (B0 x2)) rfl)),f7h r⟩
theorem d28{x0:E2}{x1:ByteArray}{r:E2}:(N8 x0).all ok1=true/\(N8 r).all ok1=true/\List.all [.ptr 0 0,.v (.string x1)] okA=true/\plain (g8e r)=true:=⟨a3h _,a3h _,F6 rfl (F6 (C5 rfl) rfl),f5w r⟩
theorem h1s{x0:(List H5)}:plainL [.sl (List.map I8 x0) .no]=true:=(A6 (psl (H6 x0)) rfl)
theorem g47{x0:(List (Int × A0))}:plainL [.sl (List.map B4 x0) .no]=true:=(A6 (psl (E6 x0)) rfl)
theorem e6x{x0:B8}{x1:Int}:plainL [.agg (E4 x0),.v (.int .i64 x1)]=true:=(A6 (G2 x0) (A6 rfl rfl))
theorem h0d{x0:A7}{x1:GOp}{x2:A0}:plainL [.agg (B6 x0),.agg (V3 x1),.agg (A5 x2)]=true:=(A6 (E7 x0) (A6 (N3 x1) (A6 (B0 x2) rfl)))
theorem h16{x0:A0}:plainL [.agg (A5 x0)]=true:=(A6 (B0 x0) rfl)
theorem g5r{x1:GFn}:plainL [.sl [] .no,.clo (.func x1.fn) x1.fi x1.cap]=true:=(A6 rfl (A6 (a0y x1) rfl))
theorem d9l{x0:Int}{x1:Int}:plainL [.v (.int .i64 x0),.v (.int .i64 x1)]=true:=(A6 rfl (A6 rfl rfl))
theorem e6m{x0:A9}{x1:Int}{r:(A9 × Int)}:(D0 x0).all ok1=true/\(D0 r.1).all ok1=true/\List.all [.ptr 0 0,.v (.int .i64 x1)] okA=true/\plain (g73 r)=true:=⟨J3 _,J3 _,F6 rfl (F6 (C5 rfl) rfl),f6y r⟩
theorem d1c{x0:A9}{x1:GOp}{r:(A9 × (A0 × Int))}:(D0 x0).all ok1=true/\(D0 r.1).all ok1=true/\List.all [.ptr 0 0,.agg (V3 x1)] okA=true/\plain (g7x r)=true:=⟨J3 _,J3 _,F6 rfl (F6 (C5 (N3 x1)) rfl),f7g r⟩
theorem e8b{x0:A9}{x1:GOp}{r:(A9 × (A0 × Int))}:(D0 x0).all ok1=true/\(D0 r.1).all ok1=true/\List.all [.ptr 0 0,.agg (V3 x1)] okA=true/\plain (g31 r)=true:=⟨J3 _,J3 _,F6 rfl (F6 (C5 (N3 x1)) rfl),f7b r⟩
theorem f01{x0:A9}{x1:GOp}{r:(A9 × (A0 × Int))}:(D0 x0).all ok1=true/\(D0 r.1).all ok1=true/\List.all [.ptr 0 0,.agg (V3 x1)] okA=true/\plain (g4c r)=true:=⟨J3 _,J3 _,F6 rfl (F6 (C5 (N3 x1)) rfl),f7n r⟩
theorem e7c{x0:A9}{x1:B8}{x2:A0}{x3:GOp}{r:(A9 × (A0 × Bool × Int))}:(D0 x0).all ok1=true/\(D0 r.1).all ok1=true/\List.all [.ptr 0 0,.agg (E4 x1),.agg (A5 x2),.agg (V3 x3)] okA=true/\plain (g36 r)=true:=⟨J3 _,J3 _,F6 rfl (F6 (C5 (G2 x1)) (F6 (C5 (B0 x2)) (F6 (C5 (N3 x3)) rfl))),f52 r⟩
theorem g2w{x0:A3}:plainL [.agg (D4 x0)]=true:=(A6 (C6 x0) rfl)
theorem f9n{x0:A7}{x1:GOp}{x2:A0}:plainL [.agg (B6 x0),.agg (V3 x1),.agg (A5 x2)]=true:=(A6 (E7 x0) (A6 (N3 x1) (A6 (B0 x2) rfl)))
theorem h1d{x0:(List (A0 × A0))}:plainL [.sl (List.map A8 x0) .no]=true:=(A6 (psl (D9 x0)) rfl)
theorem h0m{x0:A0}:plainL [.agg (A5 x0)]=true:=(A6 (B0 x0) rfl)
theorem g7h{x0:ByteArray}:plainL [.v (.string x0)]=true:=(A6 rfl rfl)
theorem g3g{x0:ByteArray}:plainL [.v (.string x0)]=true:=(A6 rfl rfl)
theorem h1h{x0:(List b98)}{x1:Int}:plainL [.sl (List.map b1z x0) .no,.v (.int .i64 x1)]=true:=(A6 (psl (O5 x0)) (A6 rfl rfl))
theorem h2l{x0:(List b2r)}{x1:Int}:plainL [.sl (List.map a7s x0) .no,.v (.int .i64 x1)]=true:=(A6 (psl (K9 x0)) (A6 rfl rfl))
theorem h2e{x0:B8}:plainL [.agg (E4 x0)]=true:=(A6 (G2 x0) rfl)
theorem h2y{x0:A7}{x1:GOp}:plainL [.agg (B6 x0),.agg (V3 x1)]=true:=(A6 (E7 x0) (A6 (N3 x1) rfl))
theorem h22{x0:ByteArray}:plainL [.v (.string x0)]=true:=(A6 rfl rfl)
theorem g4q{x0:A3}{x1:Int}:plainL [.agg (D4 x0),.v (.int .i64 x1)]=true:=(A6 (C6 x0) (A6 rfl rfl))
theorem h11{x0:A3}{x1:Int}:plainL [.agg (D4 x0),.v (.int .i64 x1)]=true:=(A6 (C6 x0) (A6 rfl rfl))
theorem h1o{x0:ByteArray}:plainL [.v (.string x0)]=true:=(A6 rfl rfl)
theorem g8t{x0:ByteArray}:plainL [.v (.string x0)]=true:=(A6 rfl rfl)
theorem g26{x0:Int}:plainL [.v (.int .i64 x0)]=true:=(A6 rfl rfl)
theorem h2q{x0:(List b3z)}{x1:GFn}:plainL [.sl (List.map a2i x0) .no,.clo (.func x1.fn) x1.fi x1.cap]=true:=(A6 (psl (L0 x0)) (A6 (a0y x1) rfl))
theorem g8o{x0:ByteArray}:plainL [.v (.string x0)]=true:=(A6 rfl rfl)
theorem d6i{x0:Int}{x1:Int}:plainL [.v (.int .i64 x0),.v (.int .i64 x1)]=true:=(A6 rfl (A6 rfl rfl))
theorem h25{x0:(List A0)}{x1:(List A0)}:plainL [.sl (List.map C0 x0) .no,.sl (List.map C0 x1) .no]=true:=(A6 (psl (E8 x0)) (A6 (psl (E8 x1)) rfl))
theorem g8w{x0:(List (A0 × A0))}{x1:(List (A0 × A0))}:plainL [.sl (List.map A8 x0) .no,.sl (List.map A8 x1) .no]=true:=(A6 (psl (D9 x0)) (A6 (psl (D9 x1)) rfl))
theorem g8p{x0:(List (Int × A0))}{x1:(List (Int × A0))}:plainL [.sl (List.map B4 x0) .no,.sl (List.map B4 x1) .no]=true:=(A6 (psl (E6 x0)) (A6 (psl (E6 x1)) rfl))
theorem h0k{x0:(List H5)}{x1:(List H5)}:plainL [.sl (List.map I8 x0) .no,.sl (List.map I8 x1) .no]=true:=(A6 (psl (H6 x0)) (A6 (psl (H6 x1)) rfl))
theorem h0t{x0:A0}{x1:A0}:plainL [.agg (A5 x0),.agg (A5 x1)]=true:=(A6 (B0 x0) (A6 (B0 x1) rfl))
theorem f3e{x0:A0}:plainL [.agg (A5 x0)]=true:=(A6 (B0 x0) rfl)
theorem g97{x0:C9}{x1:B8}{x2:(List (Int × A0))}{x3:Int}{x4:Int}:plainL [.agg (K2 x0),.agg (E4 x1),.sl (List.map B4 x2) .no,.v (.int .i64 x3),.v (.int .i64 x4)]=true:=(A6 (G1 x0) (A6 (G2 x1) (A6 (psl (E6 x2)) (A6 rfl (A6 rfl rfl)))))
theorem g4x{x0:(List (Int × A0))}{x1:GFn}:plainL [.sl (List.map B4 x0) .no,.clo (.func x1.fn) x1.fi x1.cap]=true:=(A6 (psl (E6 x0)) (A6 (a0y x1) rfl))
theorem h1w{x0:C9}{x1:B8}{x2:H5}:plainL [.agg (K2 x0),.agg (E4 x1),.agg (I8 x2)]=true:=(A6 (G1 x0) (A6 (G2 x1) (A6 (Q8 x2) rfl)))
theorem h2b{x0:A0}:plainL [.agg (A5 x0)]=true:=(A6 (B0 x0) rfl)
theorem h09{x0:(List (Int × A0))}:plainL [.sl (List.map B4 x0) .no]=true:=(A6 (psl (E6 x0)) rfl)
theorem g7s{x1:GFn}:List.all [.clo (.func x1.fn) x1.fi x1.cap] okA=true:=(F6 (C5 (a0y x1)) rfl)
theorem g5a{x1:GFn}:plainL [.sl [] .no,.clo (.func x1.fn) x1.fi x1.cap]=true:=(A6 rfl (A6 (a0y x1) rfl))
theorem h2n{x0:b3u}{x1:B8}:plainL [.agg (b2z x0),.agg (E4 x1)]=true:=(A6 (a0s x0) (A6 (G2 x1) rfl))
theorem f8k{x0:A7}{x1:GOp}{x2:A0}:plainL [.agg (B6 x0),.agg (V3 x1),.agg (A5 x2)]=true:=(A6 (E7 x0) (A6 (N3 x1) (A6 (B0 x2) rfl)))
theorem h0j{x0:(List (A0 × A0))}:plainL [.sl (List.map A8 x0) .no]=true:=(A6 (psl (D9 x0)) rfl)
theorem g2z{x0:A0}:plainL [.agg (A5 x0)]=true:=(A6 (B0 x0) rfl)
theorem g3f{x0:Int}:plainL [.v (.int .i64 x0)]=true:=(A6 rfl rfl)
theorem h12{x0:A3}{x1:Int}:plainL [.agg (D4 x0),.v (.int .i64 x1)]=true:=(A6 (C6 x0) (A6 rfl rfl))
theorem f58{x0:A9}{r:(A9 × (Int × Int))}:(D0 x0).all ok1=true/\(D0 r.1).all ok1=true/\List.all [.ptr 0 0] okA=true/\plain (g7v r)=true:=⟨J3 _,J3 _,F6 rfl rfl,f6u r⟩
theorem e3b{x0:A0}{x1:A0}:plainL [.agg (A5 x0),.agg (A5 x1)]=true:=(A6 (B0 x0) (A6 (B0 x1) rfl))
theorem g8u{x0:ByteArray}:plainL [.v (.string x0)]=true:=(A6 rfl rfl)
theorem g9m{x0:ByteArray}:plainL [.v (.string x0)]=true:=(A6 rfl rfl)
theorem g24{x0:ByteArray}:plainL [.v (.string x0)]=true:=(A6 rfl rfl)
theorem f8u{x0:ByteArray}:plainL [.v (.string x0)]=true:=(A6 rfl rfl)
theorem g5f{x0:ByteArray}:plainL [.v (.string x0)]=true:=(A6 rfl rfl)
theorem h2k{x0:ByteArray}{x1:Int}:plainL [.v (.string x0),.v (.int .i64 x1)]=true:=(A6 rfl (A6 rfl rfl))
theorem g94{x0:b2r}:plainL [.agg (a7s x0)]=true:=(A6 (P9 x0) rfl)
theorem h2u{x0:A7}{x1:GOp}:plainL [.agg (B6 x0),.agg (V3 x1)]=true:=(A6 (E7 x0) (A6 (N3 x1) rfl))
theorem g8v{x0:ByteArray}{x1:Int}{x2:Int}:plainL [.v (.string x0),.v (.int .i64 x1),.v (.int .i32 x2)]=true:=(A6 rfl (A6 rfl (A6 rfl rfl)))
theorem g9f{x0:ByteArray}{x1:Int}:plainL [.v (.string x0),.v (.int .i64 x1)]=true:=(A6 rfl (A6 rfl rfl))
theorem h2v{x0:H5}{x1:H5}:plainL [.agg (I8 x0),.agg (I8 x1)]=true:=(A6 (Q8 x0) (A6 (Q8 x1) rfl))
theorem f3u{x0:A0}:plainL [.agg (A5 x0)]=true:=(A6 (B0 x0) rfl)
theorem h2r{x0:C9}{x1:GOp}{x2:A0}{x3:Int}:plainL [.agg (K2 x0),.agg (V3 x1),.agg (A5 x2),.v (.int .i64 x3)]=true:=(A6 (G1 x0) (A6 (N3 x1) (A6 (B0 x2) (A6 rfl rfl))))
theorem h0b{x0:(List (Int × A0))}{x1:GFn}:plainL [.sl (List.map B4 x0) .no,.clo (.func x1.fn) x1.fi x1.cap]=true:=(A6 (psl (E6 x0)) (A6 (a0y x1) rfl))
theorem g5v{x1:Int}{x2:GFn}:List.all [.v (.int .i64 x1),.clo (.func x2.fn) x2.fi x2.cap] okA=true:=(F6 (C5 rfl) (F6 (C5 (a0y x2)) rfl))
theorem h1v{x0:(List GOp)}{x1:GFn}:plainL [.sl (List.map V3 x0) .no,.clo (.func x1.fn) x1.fi x1.cap]=true:=(A6 (psl (U0 x0)) (A6 (a0y x1) rfl))
theorem g8n{x0:(List (A0 × A0))}:plainL [.sl (List.map A8 x0) .no]=true:=(A6 (psl (D9 x0)) rfl)
theorem g5n{x1:GFn}:List.all [.clo (.func x1.fn) x1.fi x1.cap] okA=true:=(F6 (C5 (a0y x1)) rfl)
theorem g4j{x1:GFn}:plainL [.sl [] .no,.clo (.func x1.fn) x1.fi x1.cap]=true:=(A6 rfl (A6 (a0y x1) rfl))
theorem f88{x0:A0}{x1:A0}:plainL [.agg (A5 x0),.agg (A5 x1)]=true:=(A6 (B0 x0) (A6 (B0 x1) rfl))
theorem g7n{x0:A0}:plainL [.agg (A5 x0)]=true:=(A6 (B0 x0) rfl)
theorem g98{x0:A0}{x1:A0}:plainL [.agg (A5 x0),.agg (A5 x1)]=true:=(A6 (B0 x0) (A6 (B0 x1) rfl))
theorem h1l{x0:(List A0)}{x1:(List A0)}{x2:GFn}:plainL [.sl (List.map C0 x0) .no,.sl (List.map C0 x1) .no,.clo (.func x2.fn) x2.fi x2.cap]=true:=(A6 (psl (E8 x0)) (A6 (psl (E8 x1)) (A6 (a0y x2) rfl)))
theorem g9s{x0:(List (A0 × A0))}{x1:(List (A0 × A0))}{x2:GFn}:plainL [.sl (List.map A8 x0) .no,.sl (List.map A8 x1) .no,.clo (.func x2.fn) x2.fi x2.cap]=true:=(A6 (psl (D9 x0)) (A6 (psl (D9 x1)) (A6 (a0y x2) rfl)))
theorem f4d{x0:(List Int)}:plainL [.sl (List.map a9z x0) .no]=true:=(A6 (psl (F9 x0)) rfl)
theorem h2f{x0:(List (Int × A0))}{x1:(List (Int × A0))}{x2:GFn}:plainL [.sl (List.map B4 x0) .no,.sl (List.map B4 x1) .no,.clo (.func x2.fn) x2.fi x2.cap]=true:=(A6 (psl (E6 x0)) (A6 (psl (E6 x1)) (A6 (a0y x2) rfl)))
theorem h2d{x0:(List H5)}{x1:(List H5)}{x2:GFn}:plainL [.sl (List.map I8 x0) .no,.sl (List.map I8 x1) .no,.clo (.func x2.fn) x2.fi x2.cap]=true:=(A6 (psl (H6 x0)) (A6 (psl (H6 x1)) (A6 (a0y x2) rfl)))
theorem g67{x0:Int}:plainL [.v (.int .u8 x0)]=true:=(A6 rfl rfl)
theorem g3d{x0:Int}:plainL [.v (.int .u8 x0)]=true:=(A6 rfl rfl)
theorem g9o{x0:ByteArray}{x1:ByteArray}:plainL [.v (.string x0),.v (.string x1)]=true:=(A6 rfl (A6 rfl rfl))
theorem d8k{x0:ByteArray}{x1:Int}{x2:Int}:plainL [.v (.string x0),.v (.int .i64 x1),.v (.int .i64 x2)]=true:=(A6 rfl (A6 rfl (A6 rfl rfl)))
theorem e6a{x0:ByteArray}{x1:Int}{x2:Int}{x3:Int}:plainL [.v (.string x0),.v (.int .i64 x1),.v (.int .u8 x2),.v (.int .u8 x3)]=true:=(A6 rfl (A6 rfl (A6 rfl (A6 rfl rfl))))
theorem h3a{x0:Int}:plainL [.v (.int .i64 x0)]=true:=(A6 rfl rfl)
theorem f8x{x0:C9}{x1:GOp}{x2:A0}{x3:Int}:plainL [.agg (K2 x0),.agg (V3 x1),.agg (A5 x2),.v (.int .i64 x3)]=true:=(A6 (G1 x0) (A6 (N3 x1) (A6 (B0 x2) (A6 rfl rfl))))
theorem h2g{x0:C9}{x1:GOp}{x2:(List (A0 × A0))}{x3:Int}:plainL [.agg (K2 x0),.agg (V3 x1),.sl (List.map A8 x2) .no,.v (.int .i64 x3)]=true:=(A6 (G1 x0) (A6 (N3 x1) (A6 (psl (D9 x2)) (A6 rfl rfl))))
theorem f76{x1:Int}{x2:Int}{x3:GFn}:List.all [.v (.int .i64 x1),.v (.int .i64 x2),.clo (.func x3.fn) x3.fi x3.cap] okA=true:=(F6 (C5 rfl) (F6 (C5 rfl) (F6 (C5 (a0y x3)) rfl)))
theorem e16{x1:Int}{x2:Int}{x3:Int}{x4:GFn}:List.all [.v (.int .i64 x1),.v (.int .i64 x2),.v (.int .i64 x3),.clo (.func x4.fn) x4.fi x4.cap] okA=true:=(F6 (C5 rfl) (F6 (C5 rfl) (F6 (C5 rfl) (F6 (C5 (a0y x4)) rfl))))
theorem g5h{x1:Int}{x2:GFn}:List.all [.v (.int .i64 x1),.clo (.func x2.fn) x2.fi x2.cap] okA=true:=(F6 (C5 rfl) (F6 (C5 (a0y x2)) rfl))
theorem g6k{x0:ByteArray}{x1:ByteArray}:plainL [.v (.string x0),.v (.string x1)]=true:=(A6 rfl (A6 rfl rfl))
theorem g04{x0:Int}{x1:Int}:plainL [.v (.int .u64 x0),.v (.int .u64 x1)]=true:=(A6 rfl (A6 rfl rfl))
theorem g68{x0:Int}:plainL [.v (.int .u64 x0)]=true:=(A6 rfl rfl)
theorem h01{x0:ByteArray}{x1:ByteArray}:plainL [.v (.string x0),.v (.string x1)]=true:=(A6 rfl (A6 rfl rfl))
theorem g5c{x0:C9}{x1:Int}{x2:Int}{x3:A0}:plainL [.agg (K2 x0),.v (.int .i64 x1),.v (.int .i64 x2),.agg (A5 x3)]=true:=(A6 (G1 x0) (A6 rfl (A6 rfl (A6 (B0 x3) rfl))))
theorem h15{x0:(List (A0 × A0))}{x1:GFn}:plainL [.sl (List.map A8 x0) .no,.clo (.func x1.fn) x1.fi x1.cap]=true:=(A6 (psl (D9 x0)) (A6 (a0y x1) rfl))
theorem g4l{x1:Int}{x2:Int}{x3:Int}{x4:GFn}:List.all [.v (.int .i64 x1),.v (.int .i64 x2),.v (.int .i64 x3),.clo (.func x4.fn) x4.fi x4.cap] okA=true:=(F6 (C5 rfl) (F6 (C5 rfl) (F6 (C5 rfl) (F6 (C5 (a0y x4)) rfl))))
theorem f6h{x1:Int}{x2:Int}{x3:GFn}:List.all [.v (.int .i64 x1),.v (.int .i64 x2),.clo (.func x3.fn) x3.fi x3.cap] okA=true:=(F6 (C5 rfl) (F6 (C5 rfl) (F6 (C5 (a0y x3)) rfl)))
theorem e1p{x1:Int}{x2:Int}{x3:Int}{x4:GFn}:List.all [.v (.int .i64 x1),.v (.int .i64 x2),.v (.int .i64 x3),.clo (.func x4.fn) x4.fi x4.cap] okA=true:=(F6 (C5 rfl) (F6 (C5 rfl) (F6 (C5 rfl) (F6 (C5 (a0y x4)) rfl))))
theorem g30{x0:ByteArray}:plainL [.v (.string x0)]=true:=(A6 rfl rfl)
theorem g7l{x0:Int}:plainL [.v (.int .u64 x0)]=true:=(A6 rfl rfl)
theorem h2t{x0:(List (A0 × A0))}{x1:GFn}:plainL [.sl (List.map A8 x0) .no,.clo (.func x1.fn) x1.fi x1.cap]=true:=(A6 (psl (D9 x0)) (A6 (a0y x1) rfl))
theorem e9w{x1:Int}{x2:Int}{x3:Int}{x4:GFn}:List.all [.v (.int .i64 x1),.v (.int .i64 x2),.v (.int .i64 x3),.clo (.func x4.fn) x4.fi x4.cap] okA=true:=(F6 (C5 rfl) (F6 (C5 rfl) (F6 (C5 rfl) (F6 (C5 (a0y x4)) rfl))))
theorem g6h{x1:Int}{x2:Int}{x3:Int}{x4:GFn}:List.all [.v (.int .i64 x1),.v (.int .i64 x2),.v (.int .i64 x3),.clo (.func x4.fn) x4.fi x4.cap] okA=true:=(F6 (C5 rfl) (F6 (C5 rfl) (F6 (C5 rfl) (F6 (C5 (a0y x4)) rfl))))
theorem e8i{x1:Int}{x2:Int}{x3:Int}{x4:GFn}:List.all [.v (.int .i64 x1),.v (.int .i64 x2),.v (.int .i64 x3),.clo (.func x4.fn) x4.fi x4.cap] okA=true:=(F6 (C5 rfl) (F6 (C5 rfl) (F6 (C5 rfl) (F6 (C5 (a0y x4)) rfl))))
section
attribute [local irreducible] Ok run put d1q br jn pos dr0 dr1 So
attribute [-simp] List.map_take List.map_drop List.map_append List.map_set List.map_replicate List.map_cons List.map_map
attribute [local simp] plain plainL a7q a5y a0a low lowL lowLL L6 H4 H3 F9 K4 G5 H0 G4 L4 U2 a0o T9 a1p N3 U0 G2 I2 Q8 H6 B0 E8 O8 D9 P3 E6 P9 K9 S8 L0 U9 O5 W2 R0 E7 T1 K8 I0 C6 M9 O1 P5 H7 F7 X1 U5 Z0 W4 G1 Q6 a0s a0g a6i a3l c6z d9v c9c d08 a9z b00 d02 d04 b8l c32 f1q eFn b9l b42 b4q b48 b9k b46 b5g b5j b9g c49 c4y b4s b97 b1p b5d b5r b47 b4z b5n b4g b5s a53 a71 a8r a0t a8g a8c a3f a8n b1o c51 b95 b9t b4x b5i b4j b9e b5p b5w b5u b94 c4w c5w b51 b9f b1u b4u b4n b5m b5f b50 b4i b4w a54 a8d a8q a0n a8p a76 a3j a8i b1r c4m b5k b9u b1j b5h b5q b4y b4b b4m b5o b4k a56 a75 a72 a0w a77 a8o a3c a8l b1s d2s
theorem g4i(r:Bool):plain (e4 r)=true:=rfl
theorem b7x(p:A7)(name:ByteArray)(v:A0)(r:Bool)(hw:∃y1,b7z p y1/\(∃R1:Bool->Prop,(∀bz1:Bool,R1 bz1->((bz1=true->r=true)/\(bz1=false->∃y3,c52 p name v y3/\((((y3.2 !=0)||(decide (20000<(y3.1.size:Int))))=true->∃y4,b6q y4/\(r=y4))/\(((y3.2 !=0)||(decide (20000<(y3.1.size:Int))))=false->∃y5,c4u p name y5/\(∃y6,c15 y6/\(∃y7,c6h p name y3.1 y6 y7/\(((y7.2==0)=true->∃y8,a8m p y5.1 v y8/\(∃y9,c59 y7.1 y8 y9/\((y9=true->∃y10,b6q y10/\(r=y10))/\(y9=false->r=false))))/\((y7.2==0)=false->r=false)))))))))/\(((!y1)=true->R1 true)/\((!y1)=false->∃y2,c1o v y2/\(R1 (!y2)))))):b7b p name v r:=
 fP (KC 11 hw pl9 fun _ hw=>KQ 2 4 kB hw (fun _ hw=>KW 2 hw (fun _ hw=>KR 7 hw g4i) fun _ hw=>KC 7 hw h5r fun _ hw=>KT 13 4<|KW 2 hw (fun _ hw=>KC 2 hw h4e fun _ hw=>KR 5 hw g4i) fun _ hw=>KC 6 hw h5v fun _ hw=>KD 8 [0]<|KC 3 hw h50 fun _ hw=>KC 0 hw h6e fun _ hw=>KV 4<|KD 5 [0,1,2]<|KW 3 hw (fun _ hw=>KC 4 hw h31 fun _ hw=>KC 0 hw h5u fun _ hw=>KW 2 hw (fun _ hw=>KC 0 hw h4e fun _ hw=>KR 6 hw g4i) fun _ hw=>KR 7 hw g4i) fun _ hw=>KR 15 hw g4i) (fun _ key _ hw=>KE 4 key hw) fun _ key _ hw=>KC 1 hw h5x fun _ hw=>KE 2 key hw)
theorem h45(r:Bool):plain (e9 r)=true:=rfl
theorem b45(p:A7)(r:Bool)(hw:(((decide ((p.Progs.length:Int)<=8))&&(decide ((p.Enums.length:Int)<=8)))=true->∃y1,c1p p y1/\(r=(y1==0)))/\(((decide ((p.Progs.length:Int)<=8))&&(decide ((p.Enums.length:Int)<=8)))=false->r=false)):b7z p r:=
 fP (KL 10 L3 p.Progs<|KT2 2 5 (decide ((p.Progs.length:Int)<=8)) (fun z=>aB (z&&(decide ((p.Enums.length:Int)<=8)))) (fun _ key=>KL 2 a0i p.Enums<|KE2 2 key) (fun _ key=>KE2 5 key)<|KW 1 hw (fun _ hw=>KC 1 hw h6s fun _ hw=>KR 6 hw h45) fun _ hw=>KR 8 hw h45)
theorem d14(r:(A0 × A3 × Int)):plain (e10 r)=true:=(c67 (A6 (B0 r.1) (A6 (C6 r.2.1) (A6 rfl rfl))))
def a8z(y17:(Int × A3 × Int))(p:A7)(o_:GOp)(c:A3)(ij5:Int)(r:(A0 × A3 × Int)):Prop:=J Tryz.prog 10 (.ret (e10 r)) 28 [(15,.ptr 6 0),(12,aU y17.1),(13,.ptr 5 0),(7,.ptr 4 0),(6,.ptr 3 0),(5,.ptr 2 0),(4,.ptr 1 0),(3,.ptr 0 0)] ⟨[some (B6 p),some (V3 o_),some (D4 c),some zV,some [aE,aI 0,aI 0,aI 0,aI 0,aI 0],some (D4 y17.2.1),some [aI o_.Kind,aU ij5,aE,.nil,.nil,.nil,.nil]],[],[]⟩
def a06(bj4:Bool)(p:A7)(o_:GOp)(c:A3)(r:(A0 × A3 × Int)):Prop:=J Tryz.prog 10 (.ret (e10 r)) 17 [(60,aB bj4),(7,.ptr 4 0),(6,.ptr 3 0),(5,.ptr 2 0),(4,.ptr 1 0),(3,.ptr 0 0)] ⟨[some (B6 p),some (V3 o_),some (D4 c),some zV,some [aE,aI 0,aI 0,aI 0,aI 0,aI 0]],[],[]⟩
def b1d(bj3:Bool)(o_:GOp)(p:A7)(c:A3)(r:(A0 × A3 × Int)):Prop:=J Tryz.prog 10 (.ret (e10 r)) 14 [(50,aB bj3),(17,aI o_.Kind),(7,.ptr 4 0),(6,.ptr 3 0),(5,.ptr 2 0),(4,.ptr 1 0),(3,.ptr 0 0)] ⟨[some (B6 p),some (V3 o_),some (D4 c),some zV,some [aE,aI 0,aI 0,aI 0,aI 0,aI 0]],[],[]⟩
theorem c1z(y17:(Int × A3 × Int))(p:A7)(o_:GOp)(c:A3)(ij5:Int)(r:(A0 × A3 × Int))(hw:∃y21,b19 o_.Kind (⟨o_.Kind,ij5,(⟨#[]⟩:ByteArray),([]:(List A0)),([]:(List (A0 × A0))),([]:(List (Int × A0))),([]:(List H5))⟩:A0) y21/\(((!y21)=true->r=((⟨0,0,(⟨#[]⟩:ByteArray),([]:(List A0)),([]:(List (A0 × A0))),([]:(List (Int × A0))),([]:(List H5))⟩:A0),c,6))/\((!y21)=false->∃R4:Bool->Prop,(∀bz4:Bool,R4 bz4->((bz4=true->r=((⟨0,0,(⟨#[]⟩:ByteArray),([]:(List A0)),([]:(List (A0 × A0))),([]:(List (Int × A0))),([]:(List H5))⟩:A0),c,16))/\(bz4=false->r=((⟨o_.Kind,ij5,(⟨#[]⟩:ByteArray),([]:(List A0)),([]:(List (A0 × A0))),([]:(List (Int × A0))),([]:(List H5))⟩:A0),y17.2.1,0))))/\(((o_.Kind==9)=true->∃y22,a9g p o_.Target y17.1 y22/\(R4 (!y22)))/\((o_.Kind==9)=false->R4 false))))):a8z y17 p o_ c ij5 r:=
 KC 6 hw g9x fun _ hw=>KW 3 hw (fun _ hw=>KD 1 [2]<|KV 2<|KR 7 hw d14) fun _ hw=>KQ 9 7 kB hw (fun _ hw=>KW 2 hw (fun _ hw=>KD 1 [2]<|KV 2<|KR 7 hw d14) fun _ hw=>KD 3 [5,6]<|KV 2<|KR 6 hw d14) (fun _ key _ hw=>KC 4 hw h13 fun _ hw=>KE 2 key hw) fun _ key _ hw=>KE 7 key hw
theorem c31(bj4:Bool)(p:A7)(o_:GOp)(c:A3)(r:(A0 × A3 × Int))(hw:(bj4=true->∃y17,b5t c y17/\(((y17.2.2 !=0)=true->r=((⟨0,0,(⟨#[]⟩:ByteArray),([]:(List A0)),([]:(List (A0 × A0))),([]:(List (Int × A0))),([]:(List H5))⟩:A0),c,y17.2.2))/\((y17.2.2 !=0)=false->(((o_.Kind==2)||(o_.Kind==3))=true->∃y18,b9s y17.1 y18/\(a8z y17 p o_ c (wU y18) r))/\(((o_.Kind==2)||(o_.Kind==3))=false->a8z y17 p o_ c y17.1 r))))/\(bj4=false->r=((⟨0,0,(⟨#[]⟩:ByteArray),([]:(List A0)),([]:(List (A0 × A0))),([]:(List (Int × A0))),([]:(List H5))⟩:A0),c,12))):a06 bj4 p o_ c r:=
 KW 0 hw (fun _ hw=>KC 6 hw g95 fun _ hw=>KW 17 hw (fun _ hw=>KD 1 [2]<|KV 3<|KV 0<|KR 6 hw d14) fun _ hw=>KT 19 4<|KW 2 hw (fun _ hw=>KC 2 hw h6u fun _ hw=>KJ 5 [] hw) fun _ hw=>KJ 2 [] hw) fun _ hw=>KD 1 [2]<|KV 2<|KR 8 hw d14
theorem c3v(bj3:Bool)(o_:GOp)(p:A7)(c:A3)(r:(A0 × A3 × Int))(hw:(bj3=true->∃y13,d3w o_.Kind c y13/\(r=(y13.1,y13.2.1,y13.2.2)))/\(bj3=false->((o_.Kind==2)=true->a06 (o_.Kind==2) p o_ c r)/\((o_.Kind==2)=false->((o_.Kind==3)=true->a06 (o_.Kind==3) p o_ c r)/\((o_.Kind==3)=false->((o_.Kind==4)=true->a06 (o_.Kind==4) p o_ c r)/\((o_.Kind==4)=false->((o_.Kind==5)=true->a06 (o_.Kind==5) p o_ c r)/\((o_.Kind==5)=false->a06 (o_.Kind==9) p o_ c r)))))):b1d bj3 o_ p c r:=
 KW 0 hw (fun _ hw=>KC 5 hw h5w fun _ hw=>KR 11 hw d14) fun _ hw=>KW 7 hw (fun _ hw=>KJ 2 [] hw) fun _ hw=>KW 6 hw (fun _ hw=>KJ 2 [] hw) fun _ hw=>KW 6 hw (fun _ hw=>KJ 2 [] hw) fun _ hw=>KW 6 hw (fun _ hw=>KJ 2 [] hw) fun _ hw=>KJ 5 [] hw
theorem c9n(p:A7)(o_:GOp)(c:A3)(r:(A0 × A3 × Int))(hw:((o_.Kind==1)=true->∃y1,b6u c y1/\(((y1.2.2 !=0)=true->r=((⟨0,0,(⟨#[]⟩:ByteArray),([]:(List A0)),([]:(List (A0 × A0))),([]:(List (Int × A0))),([]:(List H5))⟩:A0),c,y1.2.2))/\((y1.2.2 !=0)=false->((decide (1<y1.1))=true->r=((⟨0,0,(⟨#[]⟩:ByteArray),([]:(List A0)),([]:(List (A0 × A0))),([]:(List (Int × A0))),([]:(List H5))⟩:A0),c,5))/\((decide (1<y1.1))=false->r=((⟨o_.Kind,(wU y1.1),(⟨#[]⟩:ByteArray),([]:(List A0)),([]:(List (A0 × A0))),([]:(List (Int × A0))),([]:(List H5))⟩:A0),y1.2.1,0)))))/\((o_.Kind==1)=false->((o_.Kind==6)=true->∃y2,c5q c y2/\(r=(y2.1,y2.2.1,y2.2.2)))/\((o_.Kind==6)=false->((o_.Kind==7)=true->b1d (o_.Kind==7) o_ p c r)/\((o_.Kind==7)=false->b1d (o_.Kind==8) o_ p c r)))):c5k p o_ c r:=
 fP (KW 24 hw (fun _ hw=>KC 3 hw h4r fun _ hw=>KW 17 hw (fun _ hw=>KD 1 [2]<|KV 3<|KV 0<|KR 8 hw d14) fun _ hw=>KW 9 hw (fun _ hw=>KD 1 [2]<|KV 2<|KR 9 hw d14) fun _ hw=>KD 3 [1,5]<|KV 6<|KR 8 hw d14) fun _ hw=>KW 6 hw (fun _ hw=>KC 3 hw h6p fun _ hw=>KR 11 hw d14) fun _ hw=>KW 7 hw (fun _ hw=>KJ 2 [] hw) fun _ hw=>KJ 5 [] hw)
theorem e3q(r:ByteArray):plain (e12 r)=true:=rfl
def b96(bj3:Bool)(v:A0)(r:ByteArray):Prop:=J Tryz.prog 12 (.ret (e12 r)) 13 [(31,aB bj3),(1,.ptr 0 0)] ⟨[some (A5 v)],[],[]⟩
def b9r(bj2:Bool)(v:A0)(r:ByteArray):Prop:=J Tryz.prog 12 (.ret (e12 r)) 8 [(17,aB bj2),(9,aI v.Kind),(1,.ptr 0 0)] ⟨[some (A5 v)],[],[]⟩
theorem d0o(bj3:Bool)(v:A0)(r:ByteArray)(hw:(bj3=true->∃y17,a3i (wU (v.Text.size:Int)) y17/\(((y17.size+v.Text.size:Nat):Int)<=9223372036854775807/\(r=(y17++v.Text))))/\(bj3=false->∃y18,a3i v.Bits y18/\(r=y18))):b96 bj3 v r:=
 KW 0 hw (fun _ hw=>KD 1 [0]<|KC 4 hw g7r fun _ hw=>g9e 2 hw fun hw=>KR 7 hw e3q) fun _ hw=>KC 7 hw g7r fun _ hw=>KR 4 hw e3q
theorem d0b(bj2:Bool)(v:A0)(r:ByteArray)(hw:(bj2=true->∃y11,c5m (wI v.Bits) y11/\(∃y12,a3i y11 y12/\(r=y12)))/\(bj2=false->((v.Kind==6)=true->∃y13,a8k v y13/\(∃y14,b79 y13.Bits y14/\(r=y14)))/\((v.Kind==6)=false->((v.Kind==7)=true->b96 (v.Kind==7) v r)/\((v.Kind==7)=false->b96 (v.Kind==8) v r)))):b9r bj2 v r:=
 KW 0 hw (fun _ hw=>KC 5 hw h6i fun _ hw=>KC 0 hw g7r fun _ hw=>KR 6 hw e3q) fun _ hw=>KW 6 hw (fun _ hw=>KC 3 hw g78 fun _ hw=>KC 1 hw h6f fun _ hw=>KR 6 hw e3q) fun _ hw=>KW 7 hw (fun _ hw=>KJ 2 [] hw) fun _ hw=>KJ 5 [] hw
theorem d6t(v:A0)(r:ByteArray)(hw:∃y1,b19 v.Kind v y1/\(((!y1)=true->r=(⟨#[]⟩:ByteArray))/\((!y1)=false->((v.Kind==1)=true->∃y2,([(IntKind.u8.wrap v.Bits)]:List Int)=bI y2/\(r=y2))/\((v.Kind==1)=false->((v.Kind==2)=true->b9r (v.Kind==2) v r)/\((v.Kind==2)=false->b9r (v.Kind==3) v r))))):d38 v r:=
 fP (KC 12 hw g9x fun _ hw=>KW 3 hw (fun _ hw=>KR 7 hw e3q) fun _ hw=>KW 16 hw (fun _ hw=>KS 6 hw fun _ hw=>KR 6 hw e3q) fun _ hw=>KW 7 hw (fun _ hw=>KJ 2 [] hw) fun _ hw=>KJ 5 [] hw)
theorem h1n(r:Bool):plain (e13 r)=true:=rfl
theorem d07(a:A0)(b:A0)(r:Bool)(hw:∃y1,c1y a b y1/\(r=y1)):c59 a b r:=
 fP (KC 11 hw h6v fun _ hw=>KR 4 hw h1n)
theorem g3e(r:ByteArray):plain (e14 r)=true:=rfl
def c64(bj3:Bool)(v:A0)(r:ByteArray):Prop:=J Tryz.prog 14 (.ret (e14 r)) 13 [(31,aB bj3),(1,.ptr 0 0)] ⟨[some (A5 v)],[],[]⟩
theorem c5x(bj3:Bool)(v:A0)(r:ByteArray)(hw:(bj3=true->∃y17,c3z (wU (v.Text.size:Int)) y17/\(((y17.size+v.Text.size:Nat):Int)<=9223372036854775807/\(r=(y17++v.Text))))/\(bj3=false->∃y18,c3z v.Bits y18/\(r=y18))):c64 bj3 v r:=
 KW 0 hw (fun _ hw=>KD 1 [0]<|KC 4 hw h3m fun _ hw=>g9e 2 hw fun hw=>KR 7 hw g3e) fun _ hw=>KC 7 hw h3m fun _ hw=>KR 4 hw g3e
theorem g9l(r:Bool):plain (e17 r)=true:=rfl
theorem c7m(v:A0)(r:Bool)(hw:∃y1,X8 v y1/\(r=(decide (y1<=5000)))):c1o v r:=
 fP (KC 9 hw g37 fun _ hw=>KR 5 hw g9l)
theorem e6d(r:(ByteArray × Int)):plain (e18 r)=true:=(c67 (A6 rfl (A6 rfl rfl)))
theorem d0d(p:A7)(name:ByteArray)(v:A0)(r:(ByteArray × Int))(hw:∃y1,c2f p name y1/\(((!y1.2)=true->r=((⟨#[]⟩:ByteArray),10))/\((!y1.2)=false->∃y2,c81 p y1.1 v y2/\(((y2 !=0)=true->r=((⟨#[]⟩:ByteArray),y2))/\((y2 !=0)=false->∃y3,a6j v y3/\((y3=true->r=((⟨#[]⟩:ByteArray),18))/\(y3=false->∃y4,b2h p y1.1 v y4/\(∃y5,Z4 (⟨p,([]:(List Int))⟩:E2) y1.1 y4 y5/\(((decide (65536<(y5.out.length:Int)))=true->r=((⟨#[]⟩:ByteArray),3))/\((decide (65536<(y5.out.length:Int)))=false->∃y6,y5.out=bI y6/\(r=(y6,0)))))))))))):c52 p name v r:=
 fP (KC 12 hw h35 fun _ hw=>KW 14 hw (fun _ hw=>KR 8 hw e6d) fun _ hw=>KC 8 hw h6q fun _ hw=>KW 9 hw (fun _ hw=>KR 9 hw e6d) fun _ hw=>KC 6 hw g70 fun _ hw=>KW 2 hw (fun _ hw=>KR 8 hw e6d) fun _ hw=>KC 17 hw h49 fun _ hw=>KIN 0 2 1 hw g6o fun y5 hw=>KL 9 d1t y5.out<|KW 3 hw (fun _ hw=>KR 8 hw e6d) fun _ hw=>KS 8 hw fun _ hw=>KR 5 hw e6d)
theorem g20(r:(Int × Bool)):plain (e19 r)=true:=(c67 (A6 rfl (A6 rfl rfl)))
def b1a(ij1:Int)(name:ByteArray)(p:A7)(r:(Int × Bool)):Prop:=J Tryz.prog 19 (.ret (e19 r)) 3 [(6,aI ij1),(2,.ptr 0 0),(1,aS name)] ⟨[some (B6 p)],[],[]⟩
theorem a67(ij1:Int)(name:ByteArray)(p:A7)(r:(Int × Bool))(hw:((decide (ij1<(p.Progs.length:Int)))=true->∃y2,p.Progs[ij1.toNat]? =some y2/\0<=ij1/\(((decide (y2.Name=name))=true->r=(ij1,true))/\((decide (y2.Name=name))=false->b1a (wI (ij1+1)) name p r)))/\((decide (ij1<(p.Progs.length:Int)))=false->r=(0,false))):b1a ij1 name p r:=
 KL 7 L3 p.Progs<|KW 3 hw (fun _ hw=>KI 9 L3 hw fun _ hw=>KW 6 hw (fun _ hw=>KR 13 hw g20) fun _ hw=>KJ 9 [] hw) fun _ hw=>KR 12 hw g20
theorem c96(p:A7)(name:ByteArray)(r:(Int × Bool))(hw:b1a 0 name p r):c4u p name r:=
 fP (KJ 15 [] hw)
theorem e5h(r:(A0 × Int)):plain (e20 r)=true:=(c67 (A6 (B0 r.1) (A6 rfl rfl)))
theorem a6h(p:A7)(name:ByteArray)(data:ByteArray)(l:a0e)(r:(A0 × Int))(hw:∃y1,c2f p name y1/\(((!y1.2)=true->r=((⟨0,0,(⟨#[]⟩:ByteArray),([]:(List A0)),([]:(List (A0 × A0))),([]:(List (Int × A0))),([]:(List H5))⟩:A0),10))/\((!y1.2)=false->∃y2,d0p data l y2/\(((y2.2 !=0)=true->r=((⟨0,0,(⟨#[]⟩:ByteArray),([]:(List A0)),([]:(List (A0 × A0))),([]:(List (Int × A0))),([]:(List H5))⟩:A0),y2.2))/\((y2.2 !=0)=false->∃y3,W3 (⟨p,y2.1⟩:A9) y1.1 y3/\(((y3.2.2 !=0)=true->r=((⟨0,0,(⟨#[]⟩:ByteArray),([]:(List A0)),([]:(List (A0 × A0))),([]:(List (Int × A0))),([]:(List H5))⟩:A0),y3.2.2))/\((y3.2.2 !=0)=false->∃y4,a73 y3.1.c y4/\(((decide (0<y4))=true->r=((⟨0,0,(⟨#[]⟩:ByteArray),([]:(List A0)),([]:(List (A0 × A0))),([]:(List (Int × A0))),([]:(List H5))⟩:A0),18))/\((decide (0<y4))=false->r=(y3.2.1,0)))))))))):c6h p name data l r:=
 fP (KC 12 hw h35 fun _ hw=>KW 14 hw (fun _ hw=>KR 9 hw e5h) fun _ hw=>KC 6 hw h51 fun _ hw=>KW 15 hw (fun _ hw=>KR 10 hw e5h) fun _ hw=>KIO 15 hw g49 fun _ hw=>KW 15 hw (fun _ hw=>KR 10 hw e5h) fun _ hw=>KC 9 hw g7w fun _ hw=>KW 3 hw (fun _ hw=>KR 9 hw e5h) fun _ hw=>KR 10 hw e5h)
theorem g9k(r:a0e):plain (e21 r)=true:=(O1 r)
theorem c69(r:a0e)(hw:r=(⟨65536,16,4096,4096⟩:a0e)):c15 r:=
 fP (KR 12 hw g9k)
theorem g57(r:A0):plain (e22 r)=true:=(B0 r)
def a1a(ij5:Int)(ij3:Int)(prog:Int)(p:A7)(v:A0)(lj6:(List (Int × A0)))(y1:(List H5))(y15:GOp)(r:A0):Prop:=J Tryz.prog 22 (.ret (e22 r)) 13 [(10,aI ij5),(9,.ptr 4 0),(8,aI ij3),(7,.ptr 3 0),(6,.ptr 2 0),(5,.ptr 1 0),(3,.ptr 0 0),(1,aI prog)] ⟨[some (B6 p),some (A5 v),some zV,some [aI 10,aU 0,aE,.nil,.nil,.sl (List.map B4 lj6) (.own 0),.sl (List.map I8 y1) .no],some (V3 y15)],[(lj6.length,8)],[]⟩
def a61(ij3:Int)(prog:Int)(p:A7)(v:A0)(lj4:(List (Int × A0)))(y1:(List H5))(r:A0):Prop:=J Tryz.prog 22 (.ret (e22 r)) 7 [(8,aI ij3),(7,.ptr 3 0),(6,.ptr 2 0),(5,.ptr 1 0),(3,.ptr 0 0),(1,aI prog)] ⟨[some (B6 p),some (A5 v),some zV,some [aI 10,aU 0,aE,.nil,.nil,.sl (List.map B4 lj4) (.own 0),.sl (List.map I8 y1) .no]],[(lj4.length,8)],[]⟩
theorem b4p{ij5:Int}{ij3:Int}{prog:Int}{p:A7}{v:A0}{lj6:(List (Int × A0))}{y1:(List H5)}{y15:GOp}:a7q [true,true,true,true,true] 1 [(10,aI ij5),(9,.ptr 4 0),(8,aI ij3),(7,.ptr 3 0),(6,.ptr 2 0),(5,.ptr 1 0),(3,.ptr 0 0),(1,aI prog)]=true/\a5y [true,true,true,true,true] 1 [some (B6 p),some (A5 v),some zV,some [aI 10,aU 0,aE,.nil,.nil,.sl (List.map B4 lj6) (.own 0),.sl (List.map I8 y1) .no],some (V3 y15)]=true:=⟨by first|rfl|simp,by first|rfl|simp⟩
theorem c4z{ij3:Int}{prog:Int}{p:A7}{v:A0}{lj4:(List (Int × A0))}{y1:(List H5)}:a7q [true,true,true,true] 1 [(8,aI ij3),(7,.ptr 3 0),(6,.ptr 2 0),(5,.ptr 1 0),(3,.ptr 0 0),(1,aI prog)]=true/\a5y [true,true,true,true] 1 [some (B6 p),some (A5 v),some zV,some [aI 10,aU 0,aE,.nil,.nil,.sl (List.map B4 lj4) (.own 0),.sl (List.map I8 y1) .no]]=true:=⟨by first|rfl|simp,by first|rfl|simp⟩
theorem b21(ij5:Int)(ij3:Int)(prog:Int)(p:A7)(v:A0)(lj6:(List (Int × A0)))(y1:(List H5))(y15:GOp)(r:A0)(hw:((decide (ij5<(v.Slots.length:Int)))=true->∃y20,v.Slots[ij5.toNat]? =some y20/\0<=ij5/\(((y20.1 !=y15.Num)=true->a1a (wI (ij5+1)) ij3 prog p v lj6 y1 y15 r)/\((y20.1 !=y15.Num)=false->∃y21,v.Slots[ij5.toNat]? =some y21/\0<=ij5/\(∃y22,b83 p y15 y21.2 y22/\(∃R4:Bool->Prop,(∀bz4:Bool,R4 bz4->((bz4=true->(lj6.length+[(y15.Num,y22)].length)*136<=140737488355328/\(a1a (wI (ij5+1)) ij3 prog p v (lj6++[(y15.Num,y22)]) y1 y15 r))/\(bz4=false->a1a (wI (ij5+1)) ij3 prog p v lj6 y1 y15 r)))/\(((decide (y15.Card<3))=true->R4 true)/\((decide (y15.Card<3))=false->∃y23,c0s y22 y23/\(R4 (!y23)))))))))/\((decide (ij5<(v.Slots.length:Int)))=false->a61 (wI (ij3+1)) prog p v lj6 y1 r)):a1a ij5 ij3 prog p v lj6 y1 y15 r:=
 KL 7 C2 v.Slots<|KW 3 hw (fun _ hw=>KD 6 [1,4]<|KI 3 C2 hw fun _ hw=>KW 8 hw (fun _ hw=>KJ 10 [] hw) fun _ hw=>KD 3 [0,1,4]<|KI 5 C2 hw fun _ hw=>KC 2 hw h61 fun _ hw=>KQ 11 4 kB hw (fun _ hw=>KW 2 hw (fun _ hw=>KA 8 C2 hw mE fun hw=>KJl 11 [] hw b4p) fun _ hw=>KJl 9 [] hw b4p) (fun _ key _ hw=>KE 4 key hw) fun _ key _ hw=>KC 1 hw h6r fun _ hw=>KE 2 key hw) fun _ hw=>KJl 12 [] hw c4z
theorem a7c(ij3:Int)(prog:Int)(p:A7)(v:A0)(lj4:(List (Int × A0)))(y1:(List H5))(r:A0)(hw:∃y13,p.Progs[prog.toNat]? =some y13/\0<=prog/\(((decide (ij3<(y13.Ops.length:Int)))=true->∃y14,p.Progs[prog.toNat]? =some y14/\0<=prog/\(∃y15,y14.Ops[ij3.toNat]? =some y15/\0<=ij3/\(a1a 0 ij3 prog p v lj4 y1 y15 r)))/\((decide (ij3<(y13.Ops.length:Int)))=false->r=(⟨10,0,(⟨#[]⟩:ByteArray),([]:(List A0)),([]:(List (A0 × A0))),lj4,y1⟩:A0)))):a61 ij3 prog p v lj4 y1 r:=
 KI 8 L3 hw fun y13 hw=>KL 2 c0d y13.Ops<|KW 3 hw (fun _ hw=>KI 9 L3 hw fun _ hw=>KI 3 c0d hw fun _ hw=>KJ 12 [] hw) fun _ hw=>KR 12 hw g57
theorem d0y(p:A7)(prog:Int)(v:A0)(r:A0)(hw:(((decide (prog<0))||(decide ((p.Progs.length:Int)<=prog)))=true->r=(⟨0,0,(⟨#[]⟩:ByteArray),([]:(List A0)),([]:(List (A0 × A0))),([]:(List (Int × A0))),([]:(List H5))⟩:A0))/\(((decide (prog<0))||(decide ((p.Progs.length:Int)<=prog)))=false->∃y1,c42 v.Raws y1/\(a61 0 prog p v ([]:List (Int × A0)) y1 r))):a8m p prog v r:=
 fP (KT2 13 6 (decide (prog<0)) (fun z=>aB (z||(decide ((p.Progs.length:Int)<=prog)))) (fun _ key=>KE2 6 key) (fun _ key=>KL 3 L3 p.Progs<|KE2 2 key)<|KW 2 hw (fun _ hw=>KR 8 hw g57) fun _ hw=>KC 6 hw h60 fun _ hw=>KOb 13 3 5 8<|KJ 0 [] hw)
theorem g9t(r:Int):plain (e25 r)=true:=rfl
def a6e(ij13:Int)(ij14:Int)(v:A0)(r:Int):Prop:=J Tryz.prog 25 (.ret (e25 r)) 16 [(6,aI ij13),(3,aI ij14),(1,.ptr 0 0)] ⟨[some (A5 v)],[],[]⟩
def a6g(ij11:Int)(ij12:Int)(v:A0)(r:Int):Prop:=J Tryz.prog 25 (.ret (e25 r)) 10 [(5,aI ij11),(3,aI ij12),(1,.ptr 0 0)] ⟨[some (A5 v)],[],[]⟩
def a8v(ij7:Int)(ij8:Int)(v:A0)(r:Int):Prop:=J Tryz.prog 25 (.ret (e25 r)) 4 [(4,aI ij7),(3,aI ij8),(1,.ptr 0 0)] ⟨[some (A5 v)],[],[]⟩
theorem c0a(ij13:Int)(ij14:Int)(v:A0)(r:Int)(hw:((decide (ij13<(v.Slots.length:Int)))=true->∃y29,v.Slots[ij13.toNat]? =some y29/\0<=ij13/\(∃y30,X8 y29.2 y30/\(a6e (wI (ij13+1)) (wI (ij14+y30)) v r)))/\((decide (ij13<(v.Slots.length:Int)))=false->r=ij14)):a6e ij13 ij14 v r:=
 KL 7 C2 v.Slots<|KW 3 hw (fun _ hw=>KI 9 C2 hw fun _ hw=>KC 2 hw g37 fun _ hw=>KJ 11 [] hw) fun _ hw=>KR 12 hw g9t
theorem c0c(ij11:Int)(ij12:Int)(v:A0)(r:Int)(hw:((decide (ij11<(v.Pairs.length:Int)))=true->∃y31,v.Pairs[ij11.toNat]? =some y31/\0<=ij11/\(∃y32,X8 y31.1 y32/\(∃y33,v.Pairs[ij11.toNat]? =some y33/\0<=ij11/\(∃y34,X8 y33.2 y34/\(a6g (wI (ij11+1)) (wI (ij12+(wI (y32+y34)))) v r)))))/\((decide (ij11<(v.Pairs.length:Int)))=false->a6e 0 ij12 v r)):a6g ij11 ij12 v r:=
 KL 7 B7 v.Pairs<|KW 3 hw (fun _ hw=>KD 4 [0]<|KI 4 B7 hw fun _ hw=>KC 2 hw g37 fun _ hw=>KI 3 B7 hw fun _ hw=>KC 2 hw g37 fun _ hw=>KJ 13 [] hw) fun _ hw=>KJ 13 [] hw
theorem c1v(ij7:Int)(ij8:Int)(v:A0)(r:Int)(hw:((decide (ij7<(v.List_.length:Int)))=true->∃y35,v.List_[ij7.toNat]? =some y35/\0<=ij7/\(∃y36,X8 y35 y36/\(a8v (wI (ij7+1)) (wI (ij8+y36)) v r)))/\((decide (ij7<(v.List_.length:Int)))=false->a6g 0 ij8 v r)):a8v ij7 ij8 v r:=
 KL 7 G0 v.List_<|KW 3 hw (fun _ hw=>KI 9 G0 hw fun _ hw=>KC 1 hw g37 fun _ hw=>KJ 11 [] hw) fun _ hw=>KJ 13 [] hw
theorem c7g(v:A0)(r:Int)(hw:a8v 0 (wI (1+(v.Raws.length:Int))) v r):X8 v r:=
 fP (KL 10 a8t v.Raws<|KJ 12 [] hw)
theorem d76(r:Int):plain (e30 r)=true:=rfl
theorem c7u(p:A7)(r:Int)(hw:∃y1,b78 p y1/\(((!y1)=true->r=3)/\((!y1)=false->∃y2,c1a p y2/\(((!y2)=true->r=8)/\((!y2)=false->∃y3,b6x p y3/\(((!y3)=true->r=11)/\((!y3)=false->∃y4,b72 p y4/\(((!y4)=true->r=9)/\((!y4)=false->∃y5,b87 p y5/\(((!y5)=true->r=6)/\((!y5)=false->∃y6,b2e p y6/\(((!y6)=true->r=1)/\((!y6)=false->∃y7,b7s p y7/\(((!y7)=true->r=19)/\((!y7)=false->r=0))))))))))))))):c1p p r:=
 fP (KC 11 hw h5p fun _ hw=>KW 4 hw (fun _ hw=>KR 8 hw d76) fun _ hw=>KC 3 hw h59 fun _ hw=>KW 4 hw (fun _ hw=>KR 8 hw d76) fun _ hw=>KC 3 hw h5s fun _ hw=>KW 4 hw (fun _ hw=>KR 8 hw d76) fun _ hw=>KC 3 hw h54 fun _ hw=>KW 4 hw (fun _ hw=>KR 8 hw d76) fun _ hw=>KC 3 hw h6c fun _ hw=>KW 4 hw (fun _ hw=>KR 8 hw d76) fun _ hw=>KC 3 hw h55 fun _ hw=>KW 4 hw (fun _ hw=>KR 8 hw d76) fun _ hw=>KC 3 hw h6a fun _ hw=>KW 4 hw (fun _ hw=>KR 8 hw d76) fun _ hw=>KR 9 hw d76)
theorem g44(r:(Int × A3 × Int)):plain (e31 r)=true:=(c67 (A6 rfl (A6 (C6 r.2.1) (A6 rfl rfl))))
theorem c7p(c:A3)(r:(Int × A3 × Int))(hw:∃y1,a73 c y1/\(((decide (y1<1))=true->r=(0,c,4))/\((decide (y1<1))=false->(0<=c.At/\c.At<(c.Data.size:Int))/\(∃y2,a51 c 1 y2/\(r=((F3 c.Data c.At.toNat),y2,0)))))):b6u c r:=
 fP (KC 12 hw g7w fun _ hw=>KW 3 hw (fun _ hw=>KD 1 [0]<|KR 9 hw g44) fun _ hw=>KD 3 [0]<|KIS 4 hw fun hw=>KC 1 hw g8c fun _ hw=>KR 7 hw g44)
theorem f97(r:(A0 × A3 × Int)):plain (e32 r)=true:=(c67 (A6 (B0 r.1) (A6 (C6 r.2.1) (A6 rfl rfl))))
theorem d06(c:A3)(r:(A0 × A3 × Int))(hw:∃y1,b8u c y1/\(((y1.2.2 !=0)=true->r=((⟨0,0,(⟨#[]⟩:ByteArray),([]:(List A0)),([]:(List (A0 × A0))),([]:(List (Int × A0))),([]:(List H5))⟩:A0),c,y1.2.2))/\((y1.2.2 !=0)=false->∃y2,a8k (⟨6,y1.1,(⟨#[]⟩:ByteArray),([]:(List A0)),([]:(List (A0 × A0))),([]:(List (Int × A0))),([]:(List H5))⟩:A0) y2/\(((y2.Bits !=y1.1)=true->r=((⟨0,0,(⟨#[]⟩:ByteArray),([]:(List A0)),([]:(List (A0 × A0))),([]:(List (Int × A0))),([]:(List H5))⟩:A0),c,5))/\((y2.Bits !=y1.1)=false->r=((⟨6,y1.1,(⟨#[]⟩:ByteArray),([]:(List A0)),([]:(List (A0 × A0))),([]:(List (Int × A0))),([]:(List H5))⟩:A0),y1.2.1,0)))))):c5q c r:=
 fP (KC 11 hw h5q fun _ hw=>KW 17 hw (fun _ hw=>KD 1 [0]<|KV 3<|KV 0<|KR 6 hw f97) fun _ hw=>KC 14 hw g78 fun _ hw=>KW 5 hw (fun _ hw=>KD 1 [0]<|KV 2<|KR 7 hw f97) fun _ hw=>KD 3 [3,4]<|KV 2<|KR 6 hw f97)
theorem f0i(r:(A0 × A3 × Int)):plain (e33 r)=true:=(c67 (A6 (B0 r.1) (A6 (C6 r.2.1) (A6 rfl rfl))))
theorem d4y(kind:Int)(c:A3)(r:(A0 × A3 × Int))(hw:∃y1,b5t c y1/\(((y1.2.2 !=0)=true->r=((⟨0,0,(⟨#[]⟩:ByteArray),([]:(List A0)),([]:(List (A0 × A0))),([]:(List (Int × A0))),([]:(List H5))⟩:A0),c,y1.2.2))/\((y1.2.2 !=0)=false->∃y2,a73 y1.2.1 y2/\(((decide ((wU y2)<y1.1))=true->r=((⟨0,0,(⟨#[]⟩:ByteArray),([]:(List A0)),([]:(List (A0 × A0))),([]:(List (Int × A0))),([]:(List H5))⟩:A0),c,4))/\((decide ((wU y2)<y1.1))=false->∃y3,c12 y1.2.1 (wI y1.1) y3/\(((y3.2.2 !=0)=true->r=((⟨0,0,(⟨#[]⟩:ByteArray),([]:(List A0)),([]:(List (A0 × A0))),([]:(List (Int × A0))),([]:(List H5))⟩:A0),c,y3.2.2))/\((y3.2.2 !=0)=false->∃R1:Bool->Prop,(∀bz1:Bool,R1 bz1->((bz1=true->r=((⟨0,0,(⟨#[]⟩:ByteArray),([]:(List A0)),([]:(List (A0 × A0))),([]:(List (Int × A0))),([]:(List H5))⟩:A0),c,7))/\(bz1=false->r=((⟨kind,0,y3.1,([]:(List A0)),([]:(List (A0 × A0))),([]:(List (Int × A0))),([]:(List H5))⟩:A0),y3.2.1,0))))/\(((kind==7)=true->∃y4,b8e y3.1 y4/\(R1 (!y4)))/\((kind==7)=false->R1 false))))))))):d3w kind c r:=
 fP (KC 11 hw g95 fun _ hw=>KW 17 hw (fun _ hw=>KD 1 [0]<|KV 3<|KV 0<|KR 6 hw f0i) fun _ hw=>KC 7 hw g7w fun _ hw=>KW 4 hw (fun _ hw=>KD 1 [0]<|KV 2<|KR 7 hw f0i) fun _ hw=>KC 7 hw h6z fun _ hw=>KW 16 hw (fun _ hw=>KD 1 [0]<|KV 3<|KV 0<|KR 6 hw f0i) fun _ hw=>KQ 8 4 kB hw (fun _ hw=>KW 2 hw (fun _ hw=>KD 1 [0]<|KV 2<|KR 7 hw f0i) fun _ hw=>KD 3 [3]<|KV 4<|KR 6 hw f0i) (fun _ key _ hw=>KC 1 hw g8l fun _ hw=>KE 2 key hw) fun _ key _ hw=>KE 4 key hw)
theorem g0e(r:(Int × A3 × Int)):plain (e34 r)=true:=(c67 (A6 rfl (A6 (C6 r.2.1) (A6 rfl rfl))))
theorem c90(c:A3)(r:(Int × A3 × Int))(hw:∃y1,b6g c y1/\(((y1.2.2 !=0)=true->r=(0,c,y1.2.2))/\((y1.2.2 !=0)=false->∃y2,c6c y1.1 y2/\((((wI (y1.2.1.At - c.At)) !=y2)=true->r=(0,c,5))/\(((wI (y1.2.1.At - c.At)) !=y2)=false->r=(y1.1,y1.2.1,0)))))):b5t c r:=
 fP (KC 11 hw h6m fun _ hw=>KW 17 hw (fun _ hw=>KD 1 [0]<|KV 3<|KR 6 hw g0e) fun _ hw=>KD 4 [0,2]<|KC 6 hw h6j fun _ hw=>KW 4 hw (fun _ hw=>KD 1 [0]<|KR 9 hw g0e) fun _ hw=>KD 3 [2]<|KR 9 hw g0e)
theorem h2z(r:Int):plain (e35 r)=true:=rfl
theorem c9u(u:Int)(r:Int)(hw:r=(F0 .xor .i64 (wI (u.fdiv (2 ^ min (1:Int).toNat IntKind.u64.bits))) (wI (0 - (wI (F0 .and .u64 u 1)))))):b9s u r:=
 fP (KR 19 hw h2z)
theorem f9o(r:Bool):plain (e36 r)=true:=rfl
theorem c7j(kind:Int)(v:A0)(r:Bool)(hw:∃y1,b8g kind y1/\(∃R1:Bool->Prop,(∀bz1:Bool,R1 bz1->(∃R2:Bool->Prop,(∀bz2:Bool,R2 bz2->(((bz2||(decide (4096<(v.Text.size:Int))))=true->r=false)/\((bz2||(decide (4096<(v.Text.size:Int))))=false->((kind !=7)=true->r=true)/\((kind !=7)=false->∃y4,b8e v.Text y4/\(r=y4)))))/\((bz1=true->R2 true)/\(bz1=false->∃y3,b61 kind v.Bits y3/\(R2 (!y3))))))/\((((!y1)||(v.Kind !=kind))=true->R1 true)/\(((!y1)||(v.Kind !=kind))=false->∃y2,b56 v y2/\(R1 (!y2)))))):b19 kind v r:=
 fP (KC 10 hw g7z fun _ hw=>KT 2 5<|KQ 1 4 kB hw (fun _ hw=>KQ 1 6 kB hw (fun _ hw=>KT 1 5<|KW 2 hw (fun _ hw=>KR 7 hw f9o) fun _ hw=>KW 7 hw (fun _ hw=>KR 8 hw f9o) fun _ hw=>KC 2 hw g8l fun _ hw=>KR 5 hw f9o) (fun _ key _ hw=>KE 6 key hw) fun _ key _ hw=>KC 3 hw h5y fun _ hw=>KE 2 key hw) (fun _ key _ hw=>KE 4 key hw) fun _ key _ hw=>KC 1 hw h3t fun _ hw=>KE 2 key hw)
theorem f9f(r:Bool):plain (e37 r)=true:=rfl
theorem c5j(p:A7)(enum:Int)(num:Int)(r:Bool)(hw:((((decide (enum<0))||(decide ((p.Enums.length:Int)<=enum)))||(decide (2147483647<num)))=true->r=false)/\((((decide (enum<0))||(decide ((p.Enums.length:Int)<=enum)))||(decide (2147483647<num)))=false->∃y1,p.Enums[enum.toNat]? =some y1/\0<=enum/\((y1.Open=true->r=true)/\(y1.Open=false->∃y2,a00 y1.Items (⟨86,[],[.elt [aU num] 0],by simp⟩:GFn) y2/\(r=y2))))):a9g p enum num r:=
 fP (KT2 13 6 (decide (enum<0)) (fun z=>aB (z||(decide ((p.Enums.length:Int)<=enum)))) (fun _ key=>KE2 6 key) (fun _ key=>KL 3 a0i p.Enums<|KE2 2 key)<|KT 1 3<|KW 2 hw (fun _ hw=>KR 7 hw f9f) fun _ hw=>KI 7 a0i hw fun y1 hw=>KFz 6 1 [true,false,true] 0 [(7,.ptr 2 0),(5,.elt [aU num] 0)] [some (B6 p),none,some (Q7 y1)] ⟨by first|rfl|simp,by first|rfl|simp⟩<|KW 4 hw (fun _ hw=>KR 9 hw f9f) fun _ hw=>KC 3 hw h52 fun _ hw=>KR 5 hw f9f)
theorem g1r(r:A0):plain (e41 r)=true:=(B0 r)
theorem d0f(v:A0)(r:A0)(hw:((v.Kind==6)=true->∃y1,b6h v.Bits y1/\(((y1==0)=true->r=(⟨v.Kind,9221120237041090560,v.Text,v.List_,v.Pairs,v.Slots,v.Raws⟩:A0))/\((y1==0)=false->r=v)))/\((v.Kind==6)=false->r=v)):b93 v r:=
 fP (KW 13 hw (fun _ hw=>KC 2 hw h3z fun _ hw=>KW 4 hw (fun _ hw=>KR 12 hw g1r) fun _ hw=>KR 9 hw g1r) fun _ hw=>KR 17 hw g1r)
theorem h1u(r:Bool):plain (e42 r)=true:=rfl
theorem b6c(kind:Int)(r:Bool)(hw:r=((decide (1<=kind))&&(decide (kind<=9)))):c8q kind r:=
 fP (KT 10 3<|KR 4 hw h1u)
theorem g27(r:Int):plain (e44 r)=true:=rfl
theorem d13(u:Int)(r:Int)(hw:(((u.tmod 2)==0)=true->r=(wI (wU (u.tdiv 2))))/\(((u.tmod 2)==0)=false->r=(wI ((wI (0 - (wI (wU (u.tdiv 2))))) - 1)))):c82 u r:=
 fP (KW 13 hw (fun _ hw=>KR 10 hw g27) fun _ hw=>KR 13 hw g27)
theorem d50(r:Bool):plain (e45 r)=true:=rfl
theorem d0n(kind:Int)(v:A0)(r:Bool)(hw:∃y1,c8q kind y1/\(∃R1:Bool->Prop,(∀bz1:Bool,R1 bz1->((bz1=true->r=false)/\(bz1=false->∃y3,a8a kind y3/\((y3=true->∃R2:Bool->Prop,(∀bz2:Bool,R2 bz2->(r=bz2))/\((((v.Bits==0)&&(decide ((v.Text.size:Int)<=4096)))=true->∃R3:Bool->Prop,(∀bz3:Bool,R3 bz3->(R2 bz3))/\(((kind==8)=true->R3 true)/\((kind==8)=false->∃y4,b65 v.Text y4/\(R3 y4))))/\(((v.Bits==0)&&(decide ((v.Text.size:Int)<=4096)))=false->R2 false)))/\(y3=false->((!(decide (v.Text=(⟨#[]⟩:ByteArray))))=true->r=false)/\((!(decide (v.Text=(⟨#[]⟩:ByteArray))))=false->((kind==1)=true->r=(decide (v.Bits<=1)))/\((kind==1)=false->((kind==2)=true->r=((decide ((-2147483648)<=(wI v.Bits)))&&(decide ((wI v.Bits)<=2147483647))))/\((kind==2)=false->((kind==4)=true->r=(decide (v.Bits<4294967296)))/\((kind==4)=false->((kind==9)=true->r=(decide (v.Bits<2147483648)))/\((kind==9)=false->r=true))))))))))/\((((!y1)||(v.Kind !=kind))=true->R1 true)/\(((!y1)||(v.Kind !=kind))=false->∃y2,b9c v y2/\(R1 (!y2)))))):c4s kind v r:=
 fP (KC 10 hw g8r fun _ hw=>KT 2 5<|KQ 1 4 kB hw (fun _ hw=>KW 2 hw (fun _ hw=>KR 7 hw d50) fun _ hw=>KC 6 hw g74 fun _ hw=>KW 2 hw (fun _ hw=>KT 6 5<|KQ 1 8 kB hw (fun _ hw=>KR 5 hw d50) (fun _ key _ hw=>KQ 3 4 kB hw (fun _ hw=>KE 1 key hw) (fun _ key _ hw=>KE 4 key hw) fun _ key _ hw=>KC 2 hw h42 fun _ hw=>KE 1 key hw) fun _ key _ hw=>KE 8 key hw) fun _ hw=>KW 10 hw (fun _ hw=>KR 7 hw d50) fun _ hw=>KW 15 hw (fun _ hw=>KR 11 hw d50) fun _ hw=>KW 6 hw (fun _ hw=>KT 13 3<|KR 6 hw d50) fun _ hw=>KW 6 hw (fun _ hw=>KR 11 hw d50) fun _ hw=>KW 6 hw (fun _ hw=>KR 11 hw d50) fun _ hw=>KR 9 hw d50) (fun _ key _ hw=>KE 4 key hw) fun _ key _ hw=>KC 1 hw h4f fun _ hw=>KE 2 key hw)
theorem g9q(r:ByteArray):plain (e47 r)=true:=rfl
def b1c(lj1:(List Int))(ij2:Int)(r:ByteArray):Prop:=J Tryz.prog 47 (.ret (e47 r)) 3 [(3,.sl (List.map b00 lj1) (.own 0)),(0,aU ij2)] ⟨[],[(lj1.length,1)],[]⟩
theorem b3n(lj1:(List Int))(ij2:Int)(r:ByteArray)(hw:((decide (128<=ij2))=true->(lj1.length+[(F0 .or .u8 (IntKind.u8.wrap ij2) 128)].length)*1<=140737488355328/\(b1c (lj1++[(F0 .or .u8 (IntKind.u8.wrap ij2) 128)]) (ij2.fdiv (2 ^ min (7:Int).toNat IntKind.u64.bits)) r))/\((decide (128<=ij2))=false->(lj1.length+[(IntKind.u8.wrap ij2)].length)*1<=140737488355328/\(∃y2,(lj1++[(IntKind.u8.wrap ij2)])=bI y2/\(r=y2)))):b1c lj1 ij2 r:=
 KW 8 hw (fun _ hw=>KA 10 d1t hw mE fun hw=>KJ 10 [] hw) fun _ hw=>KA 11 d1t hw mE fun hw=>KS 0 hw fun _ hw=>KR 4 hw g9q
theorem c9g(u:Int)(r:ByteArray)(hw:b1c ([]:List Int) u r):a3i u r:=
 fP (KO 13 3 1<|KJ 0 [] hw)
theorem h0v(r:Int):plain (e48 r)=true:=rfl
theorem d09(n:Int)(r:Int)(hw:r=(F0 .xor .u64 (wU ((wU n)*2 ^ min (1:Int).toNat IntKind.u64.bits)) (wU (n.fdiv (2 ^ min (63:Int).toNat IntKind.i64.bits))))):c5m n r:=
 fP (KR 18 hw h0v)
theorem h1f(r:ByteArray):plain (e49 r)=true:=rfl
def a6s(ij1:Int)(u:Int)(lj2:(List Int))(r:ByteArray):Prop:=J Tryz.prog 49 (.ret (e49 r)) 4 [(8,aI ij1),(7,aI (8:Int)),(3,.row 0 0 1 8 8),(0,aU u)] ⟨[some (cellsOf b00 lj2)],[],[]⟩
theorem b0p(ij1:Int)(u:Int)(lj2:(List Int))(r:ByteArray)(hw:((decide (ij1<(8:Int)))=true->0<=(wI (8*ij1))/\((0<=ij1/\ij1<(8:Int))/\(ij1.toNat<lj2.length/\(a6s (wI (ij1+1)) u (lj2.set ij1.toNat (IntKind.u8.wrap (u.fdiv (2 ^ min (wI (8*ij1)).toNat IntKind.u64.bits)))) r))))/\((decide (ij1<(8:Int)))=false->lj2.length=8/\(∃y2,lj2=bI y2/\(r=y2)))):a6s ij1 u lj2 r:=
 KW 7 hw (fun _ hw=>KB 16 hw fun hw=>KRI 1 1 hw fun hw=>KRS 0 d1t (IntKind.u8.wrap (u.fdiv (2 ^ min (wI (8*ij1)).toNat IntKind.u64.bits))) hw fun hw=>KJ 8 [] hw) fun _ hw=>KDf 6 d1t 0 [false] 0 1 [(3,.sl (List.map b00 lj2) .no)] [none] ⟨by first|rfl|simp,by first|rfl|simp⟩ hw fun hw=>KS 2 hw fun _ hw=>KR 4 hw h1f
theorem c4l(u:Int)(r:ByteArray)(hw:(0<=(8:Int)/\(8:Int)<=(8:Int)/\(8:Int)*1<=140737488355328)/\(a6s 0 u (List.replicate 8 0) r)):b79 u r:=
 fP (KM 7 d1t 0 hw fun hw=>KJ 13 [] hw)
theorem g0v(r:A0):plain (e50 r)=true:=(B0 r)
theorem c7b(v:A0)(r:A0)(hw:((v.Kind==6)=true->∃y1,b3q v.Bits y1/\(((y1==0)=true->r=(⟨v.Kind,9221120237041090560,v.Text,v.List_,v.Pairs,v.Slots,v.Raws⟩:A0))/\((y1==0)=false->r=v)))/\((v.Kind==6)=false->r=v)):a8k v r:=
 fP (KW 13 hw (fun _ hw=>KC 2 hw h36 fun _ hw=>KW 4 hw (fun _ hw=>KR 12 hw g0v) fun _ hw=>KR 9 hw g0v) fun _ hw=>KR 17 hw g0v)
theorem h1q(r:Bool):plain (e51 r)=true:=rfl
theorem c7d(a:A0)(b:A0)(r:Bool)(hw:∃y1,a1o a b y1/\(r=(y1==0))):c1y a b r:=
 fP (KC 11 hw f8v fun _ hw=>KR 5 hw h1q)
theorem h21(r:ByteArray):plain (e52 r)=true:=rfl
def b26(lj1:(List Int))(ij2:Int)(r:ByteArray):Prop:=J Tryz.prog 52 (.ret (e52 r)) 3 [(3,.sl (List.map b00 lj1) (.own 0)),(0,aU ij2)] ⟨[],[(lj1.length,1)],[]⟩
theorem b40(lj1:(List Int))(ij2:Int)(r:ByteArray)(hw:((decide (128<=ij2))=true->(lj1.length+[(IntKind.u8.wrap (wU ((ij2.tmod 128)+128)))].length)*1<=140737488355328/\(b26 (lj1++[(IntKind.u8.wrap (wU ((ij2.tmod 128)+128)))]) (wU (ij2.tdiv 128)) r))/\((decide (128<=ij2))=false->(lj1.length+[(IntKind.u8.wrap ij2)].length)*1<=140737488355328/\(∃y2,(lj1++[(IntKind.u8.wrap ij2)])=bI y2/\(r=y2)))):b26 lj1 ij2 r:=
 KW 8 hw (fun _ hw=>KA 11 d1t hw mE fun hw=>KJ 10 [] hw) fun _ hw=>KA 11 d1t hw mE fun hw=>KS 0 hw fun _ hw=>KR 4 hw h21
theorem d1u(u:Int)(r:ByteArray)(hw:b26 ([]:List Int) u r):c3z u r:=
 fP (KO 13 3 1<|KJ 0 [] hw)
theorem g9u(r:(Int × Bool)):plain (e55 r)=true:=(c67 (A6 rfl (A6 rfl rfl)))
theorem d2a(p:A7)(name:ByteArray)(r:(Int × Bool))(hw:∃y1,a21 p.Progs (⟨100,[],[.elt [aS name] 0],by simp⟩:GFn) y1/\(r=((max y1 0),(decide (0<=y1))))):c2f p name r:=
 fP (KFz 9 1 [true,false] 0 [(3,.elt [aS name] 0),(2,.ptr 0 0)] [some (B6 p),none] ⟨by first|rfl|simp,by first|rfl|simp⟩<|KC 4 hw h6t fun _ hw=>KR 14 hw g9u)
theorem f32(r:Int):plain (e56 r)=true:=rfl
theorem d2d(p:A7)(prog:Int)(v:A0)(r:Int)(hw:(((decide (prog<0))||(decide ((p.Progs.length:Int)<=prog)))=true->r=10)/\(((decide (prog<0))||(decide ((p.Progs.length:Int)<=prog)))=false->∃y1,p.Progs[prog.toNat]? =some y1/\0<=prog/\(∃y2,P8 (⟨p⟩:C9) y1 v 1 y2/\(((y2 !=0)=true->r=y2)/\((y2 !=0)=false->∃y3,b2n v y3/\(((decide (4096<y3))=true->r=3)/\((decide (4096<y3))=false->r=0))))))):c81 p prog v r:=
 fP (KT2 13 6 (decide (prog<0)) (fun z=>aB (z||(decide ((p.Progs.length:Int)<=prog)))) (fun _ key=>KE2 6 key) (fun _ key=>KL 3 L3 p.Progs<|KE2 2 key)<|KW 2 hw (fun _ hw=>KR 7 hw f32) fun _ hw=>KD 4 [0,1]<|KI 5 L3 hw fun _ hw=>KC 2 hw g60 fun _ hw=>KW 10 hw (fun _ hw=>KR 8 hw f32) fun _ hw=>KC 6 hw g3r fun _ hw=>KW 3 hw (fun _ hw=>KR 7 hw f32) fun _ hw=>KR 8 hw f32)
theorem f1f(r:Bool):plain (e57 r)=true:=rfl
def b6i(ij7:Int)(v:A0)(r:Bool):Prop:=JP Tryz.prog 57 (e57 r) 24 [(37,aI ij7),(36,aI (v.Pairs.length:Int)),(35,.sl (List.map A8 v.Pairs) .no)]
def b6m(ij6:Int)(v:A0)(r:Bool):Prop:=J Tryz.prog 57 (.ret (e57 r)) 15 [(27,aI ij6),(26,aI (v.List_.length:Int)),(25,.sl (List.map C0 v.List_) .no),(1,.ptr 0 0)] ⟨[some (A5 v)],[],[]⟩
def b8a(ij4:Int)(v:A0)(r:Bool):Prop:=J Tryz.prog 57 (.ret (e57 r)) 6 [(16,aI ij4),(15,aI (v.Slots.length:Int)),(14,.sl (List.map B4 v.Slots) .no),(1,.ptr 0 0)] ⟨[some (A5 v)],[],[]⟩
theorem b4f{ij7:Int}{v:A0}:a7q [] 0 [(37,aI ij7),(36,aI (v.Pairs.length:Int)),(35,.sl (List.map A8 v.Pairs) .no)]=true/\a5y [] 0 []=true:=⟨by first|rfl|simp,by first|rfl|simp⟩
theorem c6d{ij6:Int}{v:A0}:a7q [true] 0 [(27,aI ij6),(26,aI (v.List_.length:Int)),(25,.sl (List.map C0 v.List_) .no),(1,.ptr 0 0)]=true/\a5y [true] 0 [some (A5 v)]=true:=⟨by first|rfl|simp,by first|rfl|simp⟩
theorem c7s{ij4:Int}{v:A0}:a7q [true] 0 [(16,aI ij4),(15,aI (v.Slots.length:Int)),(14,.sl (List.map B4 v.Slots) .no),(1,.ptr 0 0)]=true/\a5y [true] 0 [some (A5 v)]=true:=⟨by first|rfl|simp,by first|rfl|simp⟩
theorem c3u(ij7:Int)(v:A0)(r:Bool)(hw:((decide (ij7<(v.Pairs.length:Int)))=true->∃y23,v.Pairs[ij7.toNat]? =some y23/\0<=ij7/\(∃y24,a6j y23.2 y24/\((y24=true->r=true)/\(y24=false->b6i (wI (ij7+1)) v r))))/\((decide (ij7<(v.Pairs.length:Int)))=false->r=false)):b6i ij7 v r:=
 KW 7 hw (fun _ hw=>KI 6 B7 hw fun _ hw=>KC 9 hw g70 fun _ hw=>KW 2 hw (fun _ hw=>KR 11 hw f1f) fun _ hw=>KJl 8 [] hw b4f) fun _ hw=>KR 11 hw f1f
theorem c3p(ij6:Int)(v:A0)(r:Bool)(hw:((decide (ij6<(v.List_.length:Int)))=true->∃y25,v.List_[ij6.toNat]? =some y25/\0<=ij6/\(∃y26,a6j y25 y26/\((y26=true->r=true)/\(y26=false->b6m (wI (ij6+1)) v r))))/\((decide (ij6<(v.List_.length:Int)))=false->b6i 0 v r)):b6m ij6 v r:=
 KW 7 hw (fun _ hw=>KI 6 G0 hw fun _ hw=>KC 8 hw g70 fun _ hw=>KW 2 hw (fun _ hw=>KR 11 hw f1f) fun _ hw=>KJl 8 [] hw c6d) fun _ hw=>KL 10 B7 v.Pairs<|KJl 5 [] hw b4f
theorem c5f(ij4:Int)(v:A0)(r:Bool)(hw:((decide (ij4<(v.Slots.length:Int)))=true->∃y27,v.Slots[ij4.toNat]? =some y27/\0<=ij4/\(∃y28,a6j y27.2 y28/\((y28=true->r=true)/\(y28=false->b8a (wI (ij4+1)) v r))))/\((decide (ij4<(v.Slots.length:Int)))=false->b6m 0 v r)):b8a ij4 v r:=
 KW 7 hw (fun _ hw=>KI 6 C2 hw fun _ hw=>KC 9 hw g70 fun _ hw=>KW 2 hw (fun _ hw=>KR 11 hw f1f) fun _ hw=>KJl 8 [] hw c7s) fun _ hw=>KL 10 G0 v.List_<|KJ 5 [] hw
theorem d2h(v:A0)(r:Bool)(hw:((decide (0<(v.Raws.length:Int)))=true->r=true)/\((decide (0<(v.Raws.length:Int)))=false->b8a 0 v r)):a6j v r:=
 fP (KL 11 a8t v.Raws<|KW 3 hw (fun _ hw=>KR 7 hw f1f) fun _ hw=>KL 7 C2 v.Slots<|KJ 5 [] hw)
theorem h28(r:E2):plain (e58 r)=true/\(N8 r).all ok1=true/\lowL [true] 1 (N8 r)=true/\(a3n r).length=1:=⟨g2v r,a3h _,c0v _,rfl⟩
def T7(ij46:Int)(lj42:(List A0))(ij38:Int)(ij25:Int)(y1:B8)(lj47:(List B8))(lj48:(List V9))(lj49:(List Int))(v:A0)(y46:GOp)(r:E2):Prop:=J Tryz.prog 58 (.io 1 (e58 r) (N8 r) (a3n r)) 18 [(84,aI ij46),(83,aI (lj42.length:Int)),(82,.sl (List.map C0 lj42) .no),(6,aI ij38),(8,.ptr 2 0),(25,aI ij25),(24,aI (y1.Ops.length:Int)),(23,.sl (List.map V3 y1.Ops) .no),(5,.ptr 1 0),(0,.ptr 0 0)] ⟨[some [.sl (List.map E4 lj47) .no,.sl (List.map Q7 lj48) .no,.sl (List.map b00 lj49) (.own 0)],some (A5 v),some (V3 y46)],[(lj49.length,1)],[]⟩
def T0(ij50:Int)(lj43:(List (A0 × A0)))(ij38:Int)(ij25:Int)(y1:B8)(lj51:(List B8))(lj52:(List V9))(lj53:(List Int))(v:A0)(y46:GOp)(r:E2):Prop:=J Tryz.prog 58 (.io 1 (e58 r) (N8 r) (a3n r)) 26 [(105,aI ij50),(104,aI (lj43.length:Int)),(103,.sl (List.map A8 lj43) .no),(6,aI ij38),(8,.ptr 2 0),(25,aI ij25),(24,aI (y1.Ops.length:Int)),(23,.sl (List.map V3 y1.Ops) .no),(5,.ptr 1 0),(0,.ptr 0 0)] ⟨[some [.sl (List.map E4 lj51) .no,.sl (List.map Q7 lj52) .no,.sl (List.map b00 lj53) (.own 0)],some (A5 v),some (V3 y46)],[(lj53.length,1)],[]⟩
def T2(ij38:Int)(bz4:Bool)(ij25:Int)(y1:B8)(lj27:(List B8))(lj28:(List V9))(lj29:(List Int))(v:A0)(y46:GOp)(ij39:Int)(ij40:Int)(sj41:ByteArray)(lj42:(List A0))(lj43:(List (A0 × A0)))(lj44:(List (Int × A0)))(lj45:(List H5))(r:E2):Prop:=J Tryz.prog 58 (.io 1 (e58 r) (N8 r) (a3n r)) 10 [(6,aI ij38),(10,.ptr 3 0),(9,aB bz4),(8,.ptr 2 0),(25,aI ij25),(24,aI (y1.Ops.length:Int)),(23,.sl (List.map V3 y1.Ops) .no),(5,.ptr 1 0),(0,.ptr 0 0)] ⟨[some [.sl (List.map E4 lj27) .no,.sl (List.map Q7 lj28) .no,.sl (List.map b00 lj29) (.own 0)],some (A5 v),some (V3 y46),some [aI ij39,aU ij40,aS sj41,.sl (List.map C0 lj42) .no,.sl (List.map A8 lj43) .no,.sl (List.map B4 lj44) .no,.sl (List.map I8 lj45) .no]],[(lj29.length,1)],[]⟩
def C8(ij25:Int)(y1:B8)(ij26:Int)(lj27:(List B8))(lj28:(List V9))(lj29:(List Int))(v:A0)(r:E2):Prop:=J Tryz.prog 58 (.io 1 (e58 r) (N8 r) (a3n r)) 3 [(25,aI ij25),(24,aI (y1.Ops.length:Int)),(23,.sl (List.map V3 y1.Ops) .no),(6,aI ij26),(5,.ptr 1 0),(0,.ptr 0 0)] ⟨[some [.sl (List.map E4 lj27) .no,.sl (List.map Q7 lj28) .no,.sl (List.map b00 lj29) (.own 0)],some (A5 v)],[(lj29.length,1)],[]⟩
theorem a3v{ij46:Int}{lj42:(List A0)}{ij38:Int}{ij25:Int}{y1:B8}{lj47:(List B8)}{lj48:(List V9)}{lj49:(List Int)}{v:A0}{y46:GOp}:a7q [true,true,true] 1 [(84,aI ij46),(83,aI (lj42.length:Int)),(82,.sl (List.map C0 lj42) .no),(6,aI ij38),(8,.ptr 2 0),(25,aI ij25),(24,aI (y1.Ops.length:Int)),(23,.sl (List.map V3 y1.Ops) .no),(5,.ptr 1 0),(0,.ptr 0 0)]=true/\a5y [true,true,true] 1 [some [.sl (List.map E4 lj47) .no,.sl (List.map Q7 lj48) .no,.sl (List.map b00 lj49) (.own 0)],some (A5 v),some (V3 y46)]=true:=⟨by first|rfl|simp,by first|rfl|simp⟩
theorem a3r{ij50:Int}{lj43:(List (A0 × A0))}{ij38:Int}{ij25:Int}{y1:B8}{lj51:(List B8)}{lj52:(List V9)}{lj53:(List Int)}{v:A0}{y46:GOp}:a7q [true,true,true] 1 [(105,aI ij50),(104,aI (lj43.length:Int)),(103,.sl (List.map A8 lj43) .no),(6,aI ij38),(8,.ptr 2 0),(25,aI ij25),(24,aI (y1.Ops.length:Int)),(23,.sl (List.map V3 y1.Ops) .no),(5,.ptr 1 0),(0,.ptr 0 0)]=true/\a5y [true,true,true] 1 [some [.sl (List.map E4 lj51) .no,.sl (List.map Q7 lj52) .no,.sl (List.map b00 lj53) (.own 0)],some (A5 v),some (V3 y46)]=true:=⟨by first|rfl|simp,by first|rfl|simp⟩
theorem M8{ij25:Int}{y1:B8}{ij26:Int}{lj27:(List B8)}{lj28:(List V9)}{lj29:(List Int)}{v:A0}:a7q [true,true] 1 [(25,aI ij25),(24,aI (y1.Ops.length:Int)),(23,.sl (List.map V3 y1.Ops) .no),(6,aI ij26),(5,.ptr 1 0),(0,.ptr 0 0)]=true/\a5y [true,true] 1 [some [.sl (List.map E4 lj27) .no,.sl (List.map Q7 lj28) .no,.sl (List.map b00 lj29) (.own 0)],some (A5 v)]=true:=⟨by first|rfl|simp,by first|rfl|simp⟩
theorem a20(ij46:Int)(lj42:(List A0))(ij38:Int)(ij25:Int)(y1:B8)(lj47:(List B8))(lj48:(List V9))(lj49:(List Int))(v:A0)(y46:GOp)(r:E2)(hw:((decide (ij46<(lj42.length:Int)))=true->∃y75,lj42[ij46.toNat]? =some y75/\0<=ij46/\(∃y76,Y5 (⟨(⟨lj47,lj48⟩:A7),lj49⟩:E2) y46 y75 y76/\(T7 (wI (ij46+1)) lj42 ij38 ij25 y1 y76.p.Progs y76.p.Enums y76.out v y46 r)))/\((decide (ij46<(lj42.length:Int)))=false->C8 (wI (ij25+1)) y1 ij38 lj47 lj48 lj49 v r)):T7 ij46 lj42 ij38 ij25 y1 lj47 lj48 lj49 v y46 r:=
 KW 7 hw (fun _ hw=>KI 6 G0 hw fun _ hw=>KI1 9 hw e1f fun _ hw=>KJl 8 [] hw a3v) fun _ hw=>KJl 12 [] hw M8
theorem a2r(ij50:Int)(lj43:(List (A0 × A0)))(ij38:Int)(ij25:Int)(y1:B8)(lj51:(List B8))(lj52:(List V9))(lj53:(List Int))(v:A0)(y46:GOp)(r:E2)(hw:((decide (ij50<(lj43.length:Int)))=true->∃y83,lj43[ij50.toNat]? =some y83/\0<=ij50/\(∃y84,d38 y83.1 y84/\(∃y85,X0 (⟨(⟨lj51,lj52⟩:A7),lj53⟩:E2) y84 y85/\(∃y86,Y5 y85 y46 y83.2 y86/\(T0 (wI (ij50+1)) lj43 ij38 ij25 y1 y86.p.Progs y86.p.Enums y86.out v y46 r)))))/\((decide (ij50<(lj43.length:Int)))=false->C8 (wI (ij25+1)) y1 ij38 lj51 lj52 lj53 v r)):T0 ij50 lj43 ij38 ij25 y1 lj51 lj52 lj53 v y46 r:=
 KW 7 hw (fun _ hw=>KI 6 B7 hw fun _ hw=>KC 10 hw h39 fun _ hw=>KI1 0 hw d28 fun _ hw=>KI1 7 hw e1f fun _ hw=>KJl 8 [] hw a3r) fun _ hw=>KJl 12 [] hw M8
theorem b1x(ij38:Int)(bz4:Bool)(ij25:Int)(y1:B8)(lj27:(List B8))(lj28:(List V9))(lj29:(List Int))(v:A0)(y46:GOp)(ij39:Int)(ij40:Int)(sj41:ByteArray)(lj42:(List A0))(lj43:(List (A0 × A0)))(lj44:(List (Int × A0)))(lj45:(List H5))(r:E2)(hw:((y46.Card==1)=true->∃y70,Y5 (⟨(⟨lj27,lj28⟩:A7),lj29⟩:E2) y46 (⟨ij39,ij40,sj41,lj42,lj43,lj44,lj45⟩:A0) y70/\(C8 (wI (ij25+1)) y1 ij38 y70.p.Progs y70.p.Enums y70.out v r))/\((y46.Card==1)=false->((y46.Card==4)=true->∃y71,a3i (wU (lj42.length:Int)) y71/\(∃y72,X0 (⟨(⟨lj27,lj28⟩:A7),lj29⟩:E2) y71 y72/\(T7 0 lj42 ij38 ij25 y1 y72.p.Progs y72.p.Enums y72.out v y46 r)))/\((y46.Card==4)=false->((y46.Card==5)=true->∃y77,a3i (wU (lj43.length:Int)) y77/\(∃y78,X0 (⟨(⟨lj27,lj28⟩:A7),lj29⟩:E2) y77 y78/\(T0 0 lj43 ij38 ij25 y1 y78.p.Progs y78.p.Enums y78.out v y46 r)))/\((y46.Card==5)=false->((!bz4)=true->∃y87,X0 (⟨(⟨lj27,lj28⟩:A7),lj29⟩:E2) (⟨#[0]⟩:ByteArray) y87/\(C8 (wI (ij25+1)) y1 ij38 y87.p.Progs y87.p.Enums y87.out v r))/\((!bz4)=false->∃y88,X0 (⟨(⟨lj27,lj28⟩:A7),lj29⟩:E2) (⟨#[1]⟩:ByteArray) y88/\(∃y89,Y5 y88 y46 (⟨ij39,ij40,sj41,lj42,lj43,lj44,lj45⟩:A0) y89/\(C8 (wI (ij25+1)) y1 ij38 y89.p.Progs y89.p.Enums y89.out v r))))))):T2 ij38 bz4 ij25 y1 lj27 lj28 lj29 v y46 ij39 ij40 sj41 lj42 lj43 lj44 lj45 r:=
 KW 13 hw (fun _ hw=>KI1 4 hw e1f fun _ hw=>KJl 9 [] hw M8) fun _ hw=>KW 6 hw (fun _ hw=>KL 5 G0 lj42<|KC 1 hw g7r fun _ hw=>KI1 0 hw d28 fun _ hw=>KL 6 G0 lj42<|KJl 5 [] hw a3v) fun _ hw=>KW 6 hw (fun _ hw=>KL 5 B7 lj43<|KC 1 hw g7r fun _ hw=>KI1 0 hw d28 fun _ hw=>KL 6 B7 lj43<|KJl 5 [] hw a3r) fun _ hw=>KW 7 hw (fun _ hw=>KI1 3 hw d28 fun _ hw=>KJl 12 [] hw M8) fun _ hw=>KI1 5 hw d28 fun _ hw=>KI1 6 hw e1f fun _ hw=>KJl 9 [] hw M8
theorem X7(ij25:Int)(y1:B8)(ij26:Int)(lj27:(List B8))(lj28:(List V9))(lj29:(List Int))(v:A0)(r:E2)(hw:((decide (ij25<(y1.Ops.length:Int)))=true->∃y46,y1.Ops[ij25.toNat]? =some y46/\0<=ij25/\(∃R4:Bool->Prop,(∀bz4:Bool,R4 bz4->((bz4=true->∃y49,v.Slots[ij26.toNat]? =some y49/\0<=ij26/\(T2 (wI (ij26+1)) bz4 ij25 y1 lj27 lj28 lj29 v y46 y49.2.Kind y49.2.Bits y49.2.Text y49.2.List_ y49.2.Pairs y49.2.Slots y49.2.Raws r))/\(bz4=false->T2 ij26 bz4 ij25 y1 lj27 lj28 lj29 v y46 0 0 (⟨#[]⟩:ByteArray) ([]:(List A0)) ([]:(List (A0 × A0))) ([]:(List (Int × A0))) ([]:(List H5)) r)))/\(((decide (ij26<(v.Slots.length:Int)))=true->∃y48,v.Slots[ij26.toNat]? =some y48/\0<=ij26/\(R4 (y48.1==y46.Num)))/\((decide (ij26<(v.Slots.length:Int)))=false->R4 false))))/\((decide (ij25<(y1.Ops.length:Int)))=false->r=(⟨(⟨lj27,lj28⟩:A7),lj29⟩:E2))):C8 ij25 y1 ij26 lj27 lj28 lj29 v r:=
 KW 7 hw (fun _ hw=>KI 6 c0d hw fun _ hw=>KD 6 [1,2]<|KL 3 C2 v.Slots<|KQ 2 10 kB hw (fun _ hw=>KW 15 hw (fun _ hw=>KI 5 C2 hw fun _ hw=>KJ 11 [] hw) fun _ hw=>KNb 2 3 3<|KNb 0 3 4<|KNb 0 3 5<|KNb 0 3 6<|KJ 0 [] hw) (fun _ key _ hw=>KI 3 C2 hw fun _ hw=>KE 6 key hw) fun _ key _ hw=>KE 10 key hw) fun _ hw=>KRi 4 hw h28
theorem b54(w:E2)(prog:Int)(v:A0)(r:E2)(hw:∃y1,w.p.Progs[prog.toNat]? =some y1/\0<=prog/\(C8 0 y1 0 w.p.Progs w.p.Enums w.out v r)):Z4 w prog v r:=
 fIO (KI 18 L3 hw fun y1 hw=>KL 2 c0d y1.Ops<|KJ 5 [] hw)
theorem g2n(r:A0):plain (e59 r)=true:=(B0 r)
def a9c(ij1:Int)(y1:(List (Int × A0)))(prog:Int)(p:A7)(lj2:(List (Int × A0)))(r:A0):Prop:=J Tryz.prog 59 (.ret (e59 r)) 7 [(32,aI ij1),(31,aI (y1.length:Int)),(30,.sl (List.map B4 y1) .no),(7,.ptr 3 0),(6,.ptr 2 0),(3,.ptr 0 0),(1,aI prog)] ⟨[some (B6 p),none,some zV,some [aI 10,aU 0,aE,.nil,.nil,.sl (List.map B4 lj2) (.own 0),.sl (List.map I8 ([]:List H5)) .no]],[(lj2.length,8)],[]⟩
def d51(ij3:Int)(y12:(List (Int × A0)))(prog:Int)(p:A7)(v:A0)(lj4:(List (Int × A0)))(r:A0):Prop:=J Tryz.prog 59 (.ret (e59 r)) 7 [(32,aI ij3),(31,aI (y12.length:Int)),(30,.sl (List.map B4 y12) .no),(7,.ptr 4 0),(6,.ptr 2 0),(3,.ptr 0 0),(1,aI prog)] ⟨[some (B6 p),none,some zV,some (cellsOf I8 v.Raws),some [aI 10,aU 0,aE,.nil,.nil,.sl (List.map B4 lj4) (.own 0),.row 3 0 4 v.Raws.length v.Raws.length]],[(lj4.length,8)],[]⟩
theorem b0b{ij1:Int}{y1:(List (Int × A0))}{prog:Int}{p:A7}{lj2:(List (Int × A0))}:a7q [true,false,true,true] 1 [(32,aI ij1),(31,aI (y1.length:Int)),(30,.sl (List.map B4 y1) .no),(7,.ptr 3 0),(6,.ptr 2 0),(3,.ptr 0 0),(1,aI prog)]=true/\a5y [true,false,true,true] 1 [some (B6 p),none,some zV,some [aI 10,aU 0,aE,.nil,.nil,.sl (List.map B4 lj2) (.own 0),.sl (List.map I8 ([]:List H5)) .no]]=true:=⟨by first|rfl|simp,by first|rfl|simp⟩
theorem c7o{ij3:Int}{y12:(List (Int × A0))}{prog:Int}{p:A7}{v:A0}{lj4:(List (Int × A0))}:a7q [true,false,true,true,true] 1 [(32,aI ij3),(31,aI (y12.length:Int)),(30,.sl (List.map B4 y12) .no),(7,.ptr 4 0),(6,.ptr 2 0),(3,.ptr 0 0),(1,aI prog)]=true/\a5y [true,false,true,true,true] 1 [some (B6 p),none,some zV,some (cellsOf I8 v.Raws),some [aI 10,aU 0,aE,.nil,.nil,.sl (List.map B4 lj4) (.own 0),.row 3 0 4 v.Raws.length v.Raws.length]]=true:=⟨by first|rfl|simp,by first|rfl|simp⟩
theorem b41(ij1:Int)(y1:(List (Int × A0)))(prog:Int)(p:A7)(lj2:(List (Int × A0)))(r:A0)(hw:((decide (ij1<(y1.length:Int)))=true->∃y7,y1[ij1.toNat]? =some y7/\0<=ij1/\(∃y8,p.Progs[prog.toNat]? =some y8/\0<=prog/\(∃y9,c0r y8 y7.1 y9/\(∃y10,b34 p y9.1 y7.2 y10/\(∃R2:Bool->Prop,(∀bz2:Bool,R2 bz2->((bz2=true->(lj2.length+[(y7.1,y10)].length)*136<=140737488355328/\(a9c (wI (ij1+1)) y1 prog p (lj2++[(y7.1,y10)]) r))/\(bz2=false->a9c (wI (ij1+1)) y1 prog p lj2 r)))/\(((!(((y9.1.Card==3)||(y9.1.Card==4))||(y9.1.Card==5)))=true->R2 true)/\((!(((y9.1.Card==3)||(y9.1.Card==4))||(y9.1.Card==5)))=false->∃y11,c6e y10 y11/\(R2 (!y11)))))))))/\((decide (ij1<(y1.length:Int)))=false->Y3 (⟨111,[],[],rfl⟩:GFn)/\(r=(⟨10,0,(⟨#[]⟩:ByteArray),([]:(List A0)),([]:(List (A0 × A0))),lj2,([]:List H5)⟩:A0)))):a9c ij1 y1 prog p lj2 r:=
 KW 7 hw (fun _ hw=>KI 6 C2 hw fun _ hw=>KD 6 [0,4]<|KI 3 L3 hw fun _ hw=>KC 3 hw e6x fun _ hw=>KV 4<|KT 10 4<|KT 1 4<|KC 9 hw h0d fun _ hw=>KQ 9 4 kB hw (fun _ hw=>KW 2 hw (fun _ hw=>KA 8 C2 hw mE fun hw=>KJl 10 [] hw b0b) fun _ hw=>KJl 8 [] hw b0b) (fun _ key _ hw=>KE 4 key hw) fun _ key _ hw=>KC 1 hw h16 fun _ hw=>KE 2 key hw) fun _ hw=>KC0 9 hw g5r fun hw=>KR 9 hw g2n
theorem d16(p:A7)(prog:Int)(v:A0)(r:A0)(hw:(v.Raws=[]->a87 v.Raws ([]:List H5)/\((((decide (prog<0))||(decide ((p.Progs.length:Int)<=prog)))=true->r=(⟨10,0,(⟨#[]⟩:ByteArray),([]:(List A0)),([]:(List (A0 × A0))),([]:(List (Int × A0))),([]:List H5)⟩:A0))/\(((decide (prog<0))||(decide ((p.Progs.length:Int)<=prog)))=false->∃y1,b11 v.Slots y1/\(a9c 0 y1 prog p ([]:List (Int × A0)) r))))/\(v.Raws≠[]->b3x v.Raws/\((((decide (prog<0))||(decide ((p.Progs.length:Int)<=prog)))=true->v.Raws.length=v.Raws.length/\(r=(⟨10,0,(⟨#[]⟩:ByteArray),([]:(List A0)),([]:(List (A0 × A0))),([]:(List (Int × A0))),v.Raws⟩:A0)))/\(((decide (prog<0))||(decide ((p.Progs.length:Int)<=prog)))=false->∃y12,b11 v.Slots y12/\(d51 0 y12 prog p v ([]:List (Int × A0)) r))))):b2h p prog v r:=
 fP (g9c v.Raws (fun hb1=>KC0 11 (hw.1 hb1) h1s fun hw=>KT2 11 6 (decide (prog<0)) (fun z=>aB (z||(decide ((p.Progs.length:Int)<=prog)))) (fun _ key=>KE2 6 key) (fun _ key=>KL 3 L3 p.Progs<|KE2 2 key)<|KW 2 hw (fun _ hw=>KR 8 hw g2n) fun _ hw=>KC 7 hw g47 fun y1 hw=>KL 0 C2 y1<|KOb 5 3 5 8<|KJl 0 [] hw b0b) fun hb1=>KNw 11 a8t hb1 (hw.2 hb1) fun hw=>KT2 11 6 (decide (prog<0)) (fun z=>aB (z||(decide ((p.Progs.length:Int)<=prog)))) (fun _ key=>KE2 6 key) (fun _ key=>KL 3 L3 p.Progs<|KE2 2 key)<|KW 2 hw (fun _ hw=>KDg 6 a8t 3 [true,true,true,false,true] 0 0 2 [(6,.ptr 2 0)] [some (B6 p),some (A5 v),some [aI 10,aU 0,aE,.nil,.nil,.nil,.sl (List.map I8 v.Raws) .no],none,some [aI 10,aU 0,aE,.nil,.nil,.nil,.sl (List.map I8 v.Raws) .no]] ⟨by first|rfl|simp,by first|rfl|simp⟩ hw fun hw=>KR 2 hw g2n) fun _ hw=>KC 7 hw g47 fun y12 hw=>KL 0 C2 y12<|KOb 5 4 5 8<|KJl 0 [] hw c7o)
theorem f9q(r:(A3 × Int)):plain (e60 r)=true:=(c67 (A6 (C6 r.1) (A6 rfl rfl)))
theorem b0e(data:ByteArray)(l:a0e)(r:(A3 × Int))(hw:(((((decide (l.Bytes<0))||(decide (l.Depth<0)))||(decide (l.Nodes<0)))||(decide (l.Text<0)))=true->r=((⟨(⟨#[]⟩:ByteArray),0,0,0,0,0⟩:A3),1))/\(((((decide (l.Bytes<0))||(decide (l.Depth<0)))||(decide (l.Nodes<0)))||(decide (l.Text<0)))=false->((decide (l.Bytes<(data.size:Int)))=true->r=((⟨(⟨#[]⟩:ByteArray),0,0,0,0,0⟩:A3),3))/\((decide (l.Bytes<(data.size:Int)))=false->r=((⟨data,0,(data.size:Int),l.Depth,l.Nodes,l.Text⟩:A3),0)))):d0p data l r:=
 fP (KT 15 4<|KT 1 4<|KT 1 4<|KW 3 hw (fun _ hw=>KR 10 hw f9q) fun _ hw=>KW 10 hw (fun _ hw=>KR 10 hw f9q) fun _ hw=>KR 20 hw f9q)
end
section
attribute [local irreducible] Ok run put d1q br jn pos dr0 dr1 So
attribute [-simp] List.map_take List.map_drop List.map_append List.map_set List.map_replicate List.map_cons List.map_map
attribute [local simp] plain plainL a7q a5y a0a low lowL lowLL L6 H4 H3 F9 K4 G5 H0 G4 L4 U2 a0o T9 a1p N3 U0 G2 I2 Q8 H6 B0 E8 O8 D9 P3 E6 P9 K9 S8 L0 U9 O5 W2 R0 E7 T1 K8 I0 C6 M9 O1 P5 H7 F7 X1 U5 Z0 W4 G1 Q6 a0s a0g a6i a3l c6z d9v c9c d08 a9z b00 d02 d04 b8l c32 f1q eFn b9l b42 b4q b48 b9k b46 b5g b5j b9g c49 c4y b4s b97 b1p b5d b5r b47 b4z b5n b4g b5s a53 a71 a8r a0t a8g a8c a3f a8n b1o c51 b95 b9t b4x b5i b4j b9e b5p b5w b5u b94 c4w c5w b51 b9f b1u b4u b4n b5m b5f b50 b4i b4w a54 a8d a8q a0n a8p a76 a3j a8i b1r c4m b5k b9u b1j b5h b5q b4y b4b b4m b5o b4k a56 a75 a72 a0w a77 a8o a3c a8l b1s d2s
theorem d7x(r:(A9 × (A0 × Int))):plain (e61 r)=true/\(D0 r.1).all ok1=true/\lowL [true] 0 (D0 r.1)=true/\(J6 r.1).length=0:=⟨g7u r,J3 _,a40 _,rfl⟩
def O3(bj119:Bool)(ij120:Int)(ij94:Int)(lj121:(List B8))(lj122:(List V9))(sj123:ByteArray)(ij124:Int)(ij125:Int)(ij126:Int)(ij127:Int)(ij128:Int)(lj103:(List (Int × A0)))(y2:B8)(y23:GOp)(ij129:Int)(ij130:Int)(sj131:ByteArray)(lj132:(List A0))(lj133:(List (A0 × A0)))(lj134:(List (Int × A0)))(lj135:(List H5))(r:(A9 × (A0 × Int))):Prop:=J Tryz.prog 61 (.io 0 (e61 r) (D0 r.1) (J6 r.1)) 23 [(12,aB bj119),(13,aI ij120),(9,aI ij94),(11,.ptr 5 0),(10,.ptr 4 0),(8,.ptr 3 0),(6,.ptr 2 0),(4,.ptr 1 0),(0,.ptr 0 0)] ⟨[some [.sl (List.map E4 lj121) .no,.sl (List.map Q7 lj122) .no,aS sj123,aI ij124,aI ij125,aI ij126,aI ij127,aI ij128],some zV,some [aI 10,aU 0,aE,.nil,.nil,.sl (List.map B4 lj103) (.own 0),.nil],some (E4 y2),some (V3 y23),some [aI ij129,aU ij130,aS sj131,.sl (List.map C0 lj132) .no,.sl (List.map A8 lj133) .no,.sl (List.map B4 lj134) .no,.sl (List.map I8 lj135) .no]],[(lj103.length,8)],[]⟩
def T6(ij94:Int)(lj95:(List B8))(lj96:(List V9))(sj97:ByteArray)(ij98:Int)(ij99:Int)(ij100:Int)(ij101:Int)(ij102:Int)(lj103:(List (Int × A0)))(y2:B8)(ij104:Int)(sj105:ByteArray)(sj106:ByteArray)(ij107:Int)(ij108:Int)(ij109:Int)(ij110:Int)(ij111:Int)(ij112:Int)(ij113:Int)(sj114:ByteArray)(lj115:(List A0))(lj116:(List (A0 × A0)))(lj117:(List (Int × A0)))(lj118:(List H5))(r:(A9 × (A0 × Int))):Prop:=J Tryz.prog 61 (.io 0 (e61 r) (D0 r.1) (J6 r.1)) 1 [(9,aI ij94),(11,.ptr 5 0),(10,.ptr 4 0),(8,.ptr 3 0),(6,.ptr 2 0),(4,.ptr 1 0),(0,.ptr 0 0)] ⟨[some [.sl (List.map E4 lj95) .no,.sl (List.map Q7 lj96) .no,aS sj97,aI ij98,aI ij99,aI ij100,aI ij101,aI ij102],some zV,some [aI 10,aU 0,aE,.nil,.nil,.sl (List.map B4 lj103) (.own 0),.nil],some (E4 y2),some [aI ij104,aS sj105,aS sj106,aI ij107,aI ij108,aI ij109,aI ij110,aI ij111],some [aI ij112,aU ij113,aS sj114,.sl (List.map C0 lj115) .no,.sl (List.map A8 lj116) .no,.sl (List.map B4 lj117) .no,.sl (List.map I8 lj118) .no]],[(lj103.length,8)],[]⟩
def O2(bj178:Bool)(ij179:Int)(ij153:Int)(lj180:(List B8))(lj181:(List V9))(sj182:ByteArray)(ij183:Int)(ij184:Int)(ij185:Int)(ij186:Int)(ij187:Int)(lj162:(List (Int × A0)))(y2:B8)(y33:GOp)(ij188:Int)(ij189:Int)(sj190:ByteArray)(lj191:(List A0))(lj192:(List (A0 × A0)))(lj193:(List (Int × A0)))(lj194:(List H5))(r:(A9 × (A0 × Int))):Prop:=J Tryz.prog 61 (.io 0 (e61 r) (D0 r.1) (J6 r.1)) 23 [(12,aB bj178),(13,aI ij179),(9,aI ij153),(11,.ptr 5 0),(10,.ptr 4 0),(8,.ptr 3 0),(6,.ptr 2 0),(4,.ptr 1 0),(0,.ptr 0 0)] ⟨[some [.sl (List.map E4 lj180) .no,.sl (List.map Q7 lj181) .no,aS sj182,aI ij183,aI ij184,aI ij185,aI ij186,aI ij187],some zV,some [aI 10,aU 0,aE,.nil,.nil,.sl (List.map B4 lj162) (.own 0),.nil],some (E4 y2),some (V3 y33),some [aI ij188,aU ij189,aS sj190,.sl (List.map C0 lj191) .no,.sl (List.map A8 lj192) .no,.sl (List.map B4 lj193) .no,.sl (List.map I8 lj194) .no]],[(lj162.length,8)],[]⟩
def S9(ij153:Int)(lj154:(List B8))(lj155:(List V9))(sj156:ByteArray)(ij157:Int)(ij158:Int)(ij159:Int)(ij160:Int)(ij161:Int)(lj162:(List (Int × A0)))(y2:B8)(ij163:Int)(sj164:ByteArray)(sj165:ByteArray)(ij166:Int)(ij167:Int)(ij168:Int)(ij169:Int)(ij170:Int)(ij171:Int)(ij172:Int)(sj173:ByteArray)(lj174:(List A0))(lj175:(List (A0 × A0)))(lj176:(List (Int × A0)))(lj177:(List H5))(r:(A9 × (A0 × Int))):Prop:=J Tryz.prog 61 (.io 0 (e61 r) (D0 r.1) (J6 r.1)) 1 [(9,aI ij153),(11,.ptr 5 0),(10,.ptr 4 0),(8,.ptr 3 0),(6,.ptr 2 0),(4,.ptr 1 0),(0,.ptr 0 0)] ⟨[some [.sl (List.map E4 lj154) .no,.sl (List.map Q7 lj155) .no,aS sj156,aI ij157,aI ij158,aI ij159,aI ij160,aI ij161],some zV,some [aI 10,aU 0,aE,.nil,.nil,.sl (List.map B4 lj162) (.own 0),.nil],some (E4 y2),some [aI ij163,aS sj164,aS sj165,aI ij166,aI ij167,aI ij168,aI ij169,aI ij170],some [aI ij171,aU ij172,aS sj173,.sl (List.map C0 lj174) .no,.sl (List.map A8 lj175) .no,.sl (List.map B4 lj176) .no,.sl (List.map I8 lj177) .no]],[(lj162.length,8)],[]⟩
def P7(bj60:Bool)(ij61:Int)(lj62:(List B8))(lj63:(List V9))(sj64:ByteArray)(ij65:Int)(ij66:Int)(ij67:Int)(ij68:Int)(ij69:Int)(y2:B8)(y3:GOp)(ij70:Int)(ij71:Int)(sj72:ByteArray)(lj73:(List A0))(lj74:(List (A0 × A0)))(lj75:(List (Int × A0)))(lj76:(List H5))(r:(A9 × (A0 × Int))):Prop:=J Tryz.prog 61 (.io 0 (e61 r) (D0 r.1) (J6 r.1)) 23 [(12,aB bj60),(13,aI ij61),(11,.ptr 5 0),(10,.ptr 4 0),(9,aI 0),(8,.ptr 3 0),(6,.ptr 2 0),(4,.ptr 1 0),(0,.ptr 0 0)] ⟨[some [.sl (List.map E4 lj62) .no,.sl (List.map Q7 lj63) .no,aS sj64,aI ij65,aI ij66,aI ij67,aI ij68,aI ij69],some zV,some [aI 10,aU 0,aE,.nil,.nil,.nil,.nil],some (E4 y2),some (V3 y3),some [aI ij70,aU ij71,aS sj72,.sl (List.map C0 lj73) .no,.sl (List.map A8 lj74) .no,.sl (List.map B4 lj75) .no,.sl (List.map I8 lj76) .no]],[],[]⟩
theorem a2z(bj119:Bool)(ij120:Int)(ij94:Int)(lj121:(List B8))(lj122:(List V9))(sj123:ByteArray)(ij124:Int)(ij125:Int)(ij126:Int)(ij127:Int)(ij128:Int)(lj103:(List (Int × A0)))(y2:B8)(y23:GOp)(ij129:Int)(ij130:Int)(sj131:ByteArray)(lj132:(List A0))(lj133:(List (A0 × A0)))(lj134:(List (Int × A0)))(lj135:(List H5))(r:(A9 × (A0 × Int)))(hw:((ij120 !=0)=true->r=((⟨(⟨lj121,lj122⟩:A7),(⟨sj123,ij124,ij125,ij126,ij127,ij128⟩:A3)⟩:A9),(⟨10,0,(⟨#[]⟩:ByteArray),([]:(List A0)),([]:(List (A0 × A0))),lj103,([]:(List H5))⟩:A0),ij120))/\((ij120 !=0)=false->(bj119=true->(lj103.length+[(y23.Num,(⟨ij129,ij130,sj131,lj132,lj133,lj134,lj135⟩:A0))].length)*136<=140737488355328/\(T6 (wI (ij94+1)) lj121 lj122 sj123 ij124 ij125 ij126 ij127 ij128 (lj103++[(y23.Num,(⟨ij129,ij130,sj131,lj132,lj133,lj134,lj135⟩:A0))]) y2 y23.Num y23.Name y23.Alias y23.Card y23.Key y23.Kind y23.Target y23.Union ij129 ij130 sj131 lj132 lj133 lj134 lj135 r))/\(bj119=false->T6 (wI (ij94+1)) lj121 lj122 sj123 ij124 ij125 ij126 ij127 ij128 lj103 y2 y23.Num y23.Name y23.Alias y23.Card y23.Key y23.Kind y23.Target y23.Union ij129 ij130 sj131 lj132 lj133 lj134 lj135 r))):O3 bj119 ij120 ij94 lj121 lj122 sj123 ij124 ij125 ij126 ij127 ij128 lj103 y2 y23 ij129 ij130 sj131 lj132 lj133 lj134 lj135 r:=
 KW 7 hw (fun _ hw=>KRi 11 hw d7x) fun _ hw=>KW 8 hw (fun _ hw=>KA 8 C2 hw mE fun hw=>KJ 13 [] hw) fun _ hw=>KJ 11 [] hw
theorem a23(ij94:Int)(lj95:(List B8))(lj96:(List V9))(sj97:ByteArray)(ij98:Int)(ij99:Int)(ij100:Int)(ij101:Int)(ij102:Int)(lj103:(List (Int × A0)))(y2:B8)(ij104:Int)(sj105:ByteArray)(sj106:ByteArray)(ij107:Int)(ij108:Int)(ij109:Int)(ij110:Int)(ij111:Int)(ij112:Int)(ij113:Int)(sj114:ByteArray)(lj115:(List A0))(lj116:(List (A0 × A0)))(lj117:(List (Int × A0)))(lj118:(List H5))(r:(A9 × (A0 × Int)))(hw:((ij94==(y2.Ops.length:Int))=true->r=((⟨(⟨lj95,lj96⟩:A7),(⟨sj97,ij98,ij99,(wI (ij100+1)),ij101,ij102⟩:A3)⟩:A9),(⟨10,0,(⟨#[]⟩:ByteArray),([]:(List A0)),([]:(List (A0 × A0))),lj103,([]:(List H5))⟩:A0),0))/\((ij94==(y2.Ops.length:Int))=false->∃y23,y2.Ops[ij94.toNat]? =some y23/\0<=ij94/\(((y23.Card==1)=true->∃y24,G3 (⟨(⟨lj95,lj96⟩:A7),(⟨sj97,ij98,ij99,ij100,ij101,ij102⟩:A3)⟩:A9) y23 y24/\(O3 true y24.2.2 ij94 y24.1.p.Progs y24.1.p.Enums y24.1.c.Data y24.1.c.At y24.1.c.End y24.1.c.Depth y24.1.c.Nodes y24.1.c.Text lj103 y2 y23 y24.2.1.Kind y24.2.1.Bits y24.2.1.Text y24.2.1.List_ y24.2.1.Pairs y24.2.1.Slots y24.2.1.Raws r))/\((y23.Card==1)=false->((y23.Card==4)=true->∃y25,a0r (⟨(⟨lj95,lj96⟩:A7),(⟨sj97,ij98,ij99,ij100,ij101,ij102⟩:A3)⟩:A9) y23 y25/\(O3 (decide (0<(y25.2.1.List_.length:Int))) y25.2.2 ij94 y25.1.p.Progs y25.1.p.Enums y25.1.c.Data y25.1.c.At y25.1.c.End y25.1.c.Depth y25.1.c.Nodes y25.1.c.Text lj103 y2 y23 y25.2.1.Kind y25.2.1.Bits y25.2.1.Text y25.2.1.List_ y25.2.1.Pairs y25.2.1.Slots y25.2.1.Raws r))/\((y23.Card==4)=false->((y23.Card==5)=true->∃y26,Y7 (⟨(⟨lj95,lj96⟩:A7),(⟨sj97,ij98,ij99,ij100,ij101,ij102⟩:A3)⟩:A9) y23 y26/\(O3 (decide (0<(y26.2.1.Pairs.length:Int))) y26.2.2 ij94 y26.1.p.Progs y26.1.p.Enums y26.1.c.Data y26.1.c.At y26.1.c.End y26.1.c.Depth y26.1.c.Nodes y26.1.c.Text lj103 y2 y23 y26.2.1.Kind y26.2.1.Bits y26.2.1.Text y26.2.1.List_ y26.2.1.Pairs y26.2.1.Slots y26.2.1.Raws r))/\((y23.Card==5)=false->∃y27,Y8 (⟨(⟨lj95,lj96⟩:A7),(⟨sj97,ij98,ij99,ij100,ij101,ij102⟩:A3)⟩:A9) y2 (⟨10,0,(⟨#[]⟩:ByteArray),([]:(List A0)),([]:(List (A0 × A0))),lj103,([]:(List H5))⟩:A0) y23 y27/\(O3 y27.2.2.1 y27.2.2.2 ij94 y27.1.p.Progs y27.1.p.Enums y27.1.c.Data y27.1.c.At y27.1.c.End y27.1.c.Depth y27.1.c.Nodes y27.1.c.Text lj103 y2 y23 y27.2.1.Kind y27.2.1.Bits y27.2.1.Text y27.2.1.List_ y27.2.1.Pairs y27.2.1.Slots y27.2.1.Raws r))))))):T6 ij94 lj95 lj96 sj97 ij98 ij99 ij100 ij101 ij102 lj103 y2 ij104 sj105 sj106 ij107 ij108 ij109 ij110 ij111 ij112 ij113 sj114 lj115 lj116 lj117 lj118 r:=
 KL 10 c0d y2.Ops<|KW 3 hw (fun _ hw=>KRi 24 hw d7x) fun _ hw=>KI 7 c0d hw fun _ hw=>KW 18 hw (fun _ hw=>KIO 4 hw d1c fun _ hw=>KJ 12 [] hw) fun _ hw=>KW 6 hw (fun _ hw=>KIO 4 hw e8b fun y25 hw=>KL 10 G0 y25.2.1.List_<|KJ 5 [] hw) fun _ hw=>KW 6 hw (fun _ hw=>KIO 4 hw f01 fun y26 hw=>KL 10 B7 y26.2.1.Pairs<|KJ 5 [] hw) fun _ hw=>KIO 5 hw e7c fun _ hw=>KJ 10 [] hw
theorem a2e(bj178:Bool)(ij179:Int)(ij153:Int)(lj180:(List B8))(lj181:(List V9))(sj182:ByteArray)(ij183:Int)(ij184:Int)(ij185:Int)(ij186:Int)(ij187:Int)(lj162:(List (Int × A0)))(y2:B8)(y33:GOp)(ij188:Int)(ij189:Int)(sj190:ByteArray)(lj191:(List A0))(lj192:(List (A0 × A0)))(lj193:(List (Int × A0)))(lj194:(List H5))(r:(A9 × (A0 × Int)))(hw:((ij179 !=0)=true->r=((⟨(⟨lj180,lj181⟩:A7),(⟨sj182,ij183,ij184,ij185,ij186,ij187⟩:A3)⟩:A9),(⟨10,0,(⟨#[]⟩:ByteArray),([]:(List A0)),([]:(List (A0 × A0))),lj162,([]:(List H5))⟩:A0),ij179))/\((ij179 !=0)=false->(bj178=true->(lj162.length+[(y33.Num,(⟨ij188,ij189,sj190,lj191,lj192,lj193,lj194⟩:A0))].length)*136<=140737488355328/\(S9 (wI (ij153+1)) lj180 lj181 sj182 ij183 ij184 ij185 ij186 ij187 (lj162++[(y33.Num,(⟨ij188,ij189,sj190,lj191,lj192,lj193,lj194⟩:A0))]) y2 y33.Num y33.Name y33.Alias y33.Card y33.Key y33.Kind y33.Target y33.Union ij188 ij189 sj190 lj191 lj192 lj193 lj194 r))/\(bj178=false->S9 (wI (ij153+1)) lj180 lj181 sj182 ij183 ij184 ij185 ij186 ij187 lj162 y2 y33.Num y33.Name y33.Alias y33.Card y33.Key y33.Kind y33.Target y33.Union ij188 ij189 sj190 lj191 lj192 lj193 lj194 r))):O2 bj178 ij179 ij153 lj180 lj181 sj182 ij183 ij184 ij185 ij186 ij187 lj162 y2 y33 ij188 ij189 sj190 lj191 lj192 lj193 lj194 r:=
 KW 7 hw (fun _ hw=>KRi 11 hw d7x) fun _ hw=>KW 8 hw (fun _ hw=>KA 8 C2 hw mE fun hw=>KJ 13 [] hw) fun _ hw=>KJ 11 [] hw
theorem a27(ij153:Int)(lj154:(List B8))(lj155:(List V9))(sj156:ByteArray)(ij157:Int)(ij158:Int)(ij159:Int)(ij160:Int)(ij161:Int)(lj162:(List (Int × A0)))(y2:B8)(ij163:Int)(sj164:ByteArray)(sj165:ByteArray)(ij166:Int)(ij167:Int)(ij168:Int)(ij169:Int)(ij170:Int)(ij171:Int)(ij172:Int)(sj173:ByteArray)(lj174:(List A0))(lj175:(List (A0 × A0)))(lj176:(List (Int × A0)))(lj177:(List H5))(r:(A9 × (A0 × Int)))(hw:((ij153==(y2.Ops.length:Int))=true->r=((⟨(⟨lj154,lj155⟩:A7),(⟨sj156,ij157,ij158,(wI (ij159+1)),ij160,ij161⟩:A3)⟩:A9),(⟨10,0,(⟨#[]⟩:ByteArray),([]:(List A0)),([]:(List (A0 × A0))),lj162,([]:(List H5))⟩:A0),0))/\((ij153==(y2.Ops.length:Int))=false->∃y33,y2.Ops[ij153.toNat]? =some y33/\0<=ij153/\(((y33.Card==1)=true->∃y34,G3 (⟨(⟨lj154,lj155⟩:A7),(⟨sj156,ij157,ij158,ij159,ij160,ij161⟩:A3)⟩:A9) y33 y34/\(O2 true y34.2.2 ij153 y34.1.p.Progs y34.1.p.Enums y34.1.c.Data y34.1.c.At y34.1.c.End y34.1.c.Depth y34.1.c.Nodes y34.1.c.Text lj162 y2 y33 y34.2.1.Kind y34.2.1.Bits y34.2.1.Text y34.2.1.List_ y34.2.1.Pairs y34.2.1.Slots y34.2.1.Raws r))/\((y33.Card==1)=false->((y33.Card==4)=true->∃y35,a0r (⟨(⟨lj154,lj155⟩:A7),(⟨sj156,ij157,ij158,ij159,ij160,ij161⟩:A3)⟩:A9) y33 y35/\(O2 (decide (0<(y35.2.1.List_.length:Int))) y35.2.2 ij153 y35.1.p.Progs y35.1.p.Enums y35.1.c.Data y35.1.c.At y35.1.c.End y35.1.c.Depth y35.1.c.Nodes y35.1.c.Text lj162 y2 y33 y35.2.1.Kind y35.2.1.Bits y35.2.1.Text y35.2.1.List_ y35.2.1.Pairs y35.2.1.Slots y35.2.1.Raws r))/\((y33.Card==4)=false->((y33.Card==5)=true->∃y36,Y7 (⟨(⟨lj154,lj155⟩:A7),(⟨sj156,ij157,ij158,ij159,ij160,ij161⟩:A3)⟩:A9) y33 y36/\(O2 (decide (0<(y36.2.1.Pairs.length:Int))) y36.2.2 ij153 y36.1.p.Progs y36.1.p.Enums y36.1.c.Data y36.1.c.At y36.1.c.End y36.1.c.Depth y36.1.c.Nodes y36.1.c.Text lj162 y2 y33 y36.2.1.Kind y36.2.1.Bits y36.2.1.Text y36.2.1.List_ y36.2.1.Pairs y36.2.1.Slots y36.2.1.Raws r))/\((y33.Card==5)=false->∃y37,Y8 (⟨(⟨lj154,lj155⟩:A7),(⟨sj156,ij157,ij158,ij159,ij160,ij161⟩:A3)⟩:A9) y2 (⟨10,0,(⟨#[]⟩:ByteArray),([]:(List A0)),([]:(List (A0 × A0))),lj162,([]:(List H5))⟩:A0) y33 y37/\(O2 y37.2.2.1 y37.2.2.2 ij153 y37.1.p.Progs y37.1.p.Enums y37.1.c.Data y37.1.c.At y37.1.c.End y37.1.c.Depth y37.1.c.Nodes y37.1.c.Text lj162 y2 y33 y37.2.1.Kind y37.2.1.Bits y37.2.1.Text y37.2.1.List_ y37.2.1.Pairs y37.2.1.Slots y37.2.1.Raws r))))))):S9 ij153 lj154 lj155 sj156 ij157 ij158 ij159 ij160 ij161 lj162 y2 ij163 sj164 sj165 ij166 ij167 ij168 ij169 ij170 ij171 ij172 sj173 lj174 lj175 lj176 lj177 r:=
 KL 10 c0d y2.Ops<|KW 3 hw (fun _ hw=>KRi 24 hw d7x) fun _ hw=>KI 7 c0d hw fun _ hw=>KW 18 hw (fun _ hw=>KIO 4 hw d1c fun _ hw=>KJ 12 [] hw) fun _ hw=>KW 6 hw (fun _ hw=>KIO 4 hw e8b fun y35 hw=>KL 10 G0 y35.2.1.List_<|KJ 5 [] hw) fun _ hw=>KW 6 hw (fun _ hw=>KIO 4 hw f01 fun y36 hw=>KL 10 B7 y36.2.1.Pairs<|KJ 5 [] hw) fun _ hw=>KIO 5 hw e7c fun _ hw=>KJ 10 [] hw
theorem a3x(bj60:Bool)(ij61:Int)(lj62:(List B8))(lj63:(List V9))(sj64:ByteArray)(ij65:Int)(ij66:Int)(ij67:Int)(ij68:Int)(ij69:Int)(y2:B8)(y3:GOp)(ij70:Int)(ij71:Int)(sj72:ByteArray)(lj73:(List A0))(lj74:(List (A0 × A0)))(lj75:(List (Int × A0)))(lj76:(List H5))(r:(A9 × (A0 × Int)))(hw:((ij61 !=0)=true->r=((⟨(⟨lj62,lj63⟩:A7),(⟨sj64,ij65,ij66,ij67,ij68,ij69⟩:A3)⟩:A9),(⟨10,0,(⟨#[]⟩:ByteArray),([]:(List A0)),([]:(List (A0 × A0))),([]:(List (Int × A0))),([]:(List H5))⟩:A0),ij61))/\((ij61 !=0)=false->(bj60=true->[(y3.Num,(⟨ij70,ij71,sj72,lj73,lj74,lj75,lj76⟩:A0))].length*136<=140737488355328/\(T6 1 lj62 lj63 sj64 ij65 ij66 ij67 ij68 ij69 [(y3.Num,(⟨ij70,ij71,sj72,lj73,lj74,lj75,lj76⟩:A0))] y2 y3.Num y3.Name y3.Alias y3.Card y3.Key y3.Kind y3.Target y3.Union ij70 ij71 sj72 lj73 lj74 lj75 lj76 r))/\(bj60=false->S9 1 lj62 lj63 sj64 ij65 ij66 ij67 ij68 ij69 ([]:List (Int × A0)) y2 y3.Num y3.Name y3.Alias y3.Card y3.Key y3.Kind y3.Target y3.Union ij70 ij71 sj72 lj73 lj74 lj75 lj76 r))):P7 bj60 ij61 lj62 lj63 sj64 ij65 ij66 ij67 ij68 ij69 y2 y3 ij70 ij71 sj72 lj73 lj74 lj75 lj76 r:=
 KW 7 hw (fun _ hw=>KRi 11 hw d7x) fun _ hw=>KW 8 hw (fun _ hw=>KA0 8 C2 hw mE fun hw=>KJ 13 [] hw) fun _ hw=>KOb 11 2 5 8<|KJ 0 [] hw
theorem a6u(r_:A9)(prog:Int)(r:(A9 × (A0 × Int)))(hw:((decide (r_.c.Depth<1))=true->r=(r_,(⟨10,0,(⟨#[]⟩:ByteArray),([]:(List A0)),([]:(List (A0 × A0))),([]:(List (Int × A0))),([]:(List H5))⟩:A0),17))/\((decide (r_.c.Depth<1))=false->∃y1,a1k r_ 1 y1/\(((y1.2 !=0)=true->r=(y1.1,(⟨10,0,(⟨#[]⟩:ByteArray),([]:(List A0)),([]:(List (A0 × A0))),([]:(List (Int × A0))),([]:(List H5))⟩:A0),y1.2))/\((y1.2 !=0)=false->∃y2,y1.1.p.Progs[prog.toNat]? =some y2/\0<=prog/\(((0==(y2.Ops.length:Int))=true->r=((⟨y1.1.p,(⟨y1.1.c.Data,y1.1.c.At,y1.1.c.End,(wI ((wI (y1.1.c.Depth - 1))+1)),y1.1.c.Nodes,y1.1.c.Text⟩:A3)⟩:A9),(⟨10,0,(⟨#[]⟩:ByteArray),([]:(List A0)),([]:(List (A0 × A0))),([]:(List (Int × A0))),([]:(List H5))⟩:A0),0))/\((0==(y2.Ops.length:Int))=false->∃y3,y2.Ops[(0:Int).toNat]? =some y3/\0<=(0:Int)/\(((y3.Card==1)=true->∃y4,G3 (⟨y1.1.p,(⟨y1.1.c.Data,y1.1.c.At,y1.1.c.End,(wI (y1.1.c.Depth - 1)),y1.1.c.Nodes,y1.1.c.Text⟩:A3)⟩:A9) y3 y4/\(P7 true y4.2.2 y4.1.p.Progs y4.1.p.Enums y4.1.c.Data y4.1.c.At y4.1.c.End y4.1.c.Depth y4.1.c.Nodes y4.1.c.Text y2 y3 y4.2.1.Kind y4.2.1.Bits y4.2.1.Text y4.2.1.List_ y4.2.1.Pairs y4.2.1.Slots y4.2.1.Raws r))/\((y3.Card==1)=false->((y3.Card==4)=true->∃y5,a0r (⟨y1.1.p,(⟨y1.1.c.Data,y1.1.c.At,y1.1.c.End,(wI (y1.1.c.Depth - 1)),y1.1.c.Nodes,y1.1.c.Text⟩:A3)⟩:A9) y3 y5/\(P7 (decide (0<(y5.2.1.List_.length:Int))) y5.2.2 y5.1.p.Progs y5.1.p.Enums y5.1.c.Data y5.1.c.At y5.1.c.End y5.1.c.Depth y5.1.c.Nodes y5.1.c.Text y2 y3 y5.2.1.Kind y5.2.1.Bits y5.2.1.Text y5.2.1.List_ y5.2.1.Pairs y5.2.1.Slots y5.2.1.Raws r))/\((y3.Card==4)=false->((y3.Card==5)=true->∃y6,Y7 (⟨y1.1.p,(⟨y1.1.c.Data,y1.1.c.At,y1.1.c.End,(wI (y1.1.c.Depth - 1)),y1.1.c.Nodes,y1.1.c.Text⟩:A3)⟩:A9) y3 y6/\(P7 (decide (0<(y6.2.1.Pairs.length:Int))) y6.2.2 y6.1.p.Progs y6.1.p.Enums y6.1.c.Data y6.1.c.At y6.1.c.End y6.1.c.Depth y6.1.c.Nodes y6.1.c.Text y2 y3 y6.2.1.Kind y6.2.1.Bits y6.2.1.Text y6.2.1.List_ y6.2.1.Pairs y6.2.1.Slots y6.2.1.Raws r))/\((y3.Card==5)=false->∃y7,Y8 (⟨y1.1.p,(⟨y1.1.c.Data,y1.1.c.At,y1.1.c.End,(wI (y1.1.c.Depth - 1)),y1.1.c.Nodes,y1.1.c.Text⟩:A3)⟩:A9) y2 (⟨10,0,(⟨#[]⟩:ByteArray),([]:(List A0)),([]:(List (A0 × A0))),([]:(List (Int × A0))),([]:(List H5))⟩:A0) y3 y7/\(P7 y7.2.2.1 y7.2.2.2 y7.1.p.Progs y7.1.p.Enums y7.1.c.Data y7.1.c.At y7.1.c.End y7.1.c.Depth y7.1.c.Nodes y7.1.c.Text y2 y3 y7.2.1.Kind y7.2.1.Bits y7.2.1.Text y7.2.1.List_ y7.2.1.Pairs y7.2.1.Slots y7.2.1.Raws r))))))))))):W3 r_ prog r:=
 fIO (KW 25 hw (fun _ hw=>KRi 10 hw d7x) fun _ hw=>KIO 6 hw e6m fun _ hw=>KW 9 hw (fun _ hw=>KRi 11 hw d7x) fun _ hw=>KI 24 L3 hw fun y2 hw=>KL 39 c0d y2.Ops<|KW 3 hw (fun _ hw=>KRi 24 hw d7x) fun _ hw=>KI 7 c0d hw fun _ hw=>KW 18 hw (fun _ hw=>KIO 4 hw d1c fun _ hw=>KJ 12 [] hw) fun _ hw=>KW 6 hw (fun _ hw=>KIO 4 hw e8b fun y5 hw=>KL 10 G0 y5.2.1.List_<|KJ 5 [] hw) fun _ hw=>KW 6 hw (fun _ hw=>KIO 4 hw f01 fun y6 hw=>KL 10 B7 y6.2.1.Pairs<|KJ 5 [] hw) fun _ hw=>KIO 5 hw e7c fun _ hw=>KJ 10 [] hw)
theorem g4o(r:Int):plain (e62 r)=true:=rfl
theorem c7c(c:A3)(r:Int)(hw:∃y1,b3c c y1/\(((!y1)=true->r=0)/\((!y1)=false->r=(wI (c.End - c.At))))):a73 c r:=
 fP (KC 10 hw g2w fun _ hw=>KW 3 hw (fun _ hw=>KR 7 hw g4o) fun _ hw=>KR 13 hw g4o)
theorem g88(r:(List H5)):plain (e63 r)=true:=(psl (H6 r))
def d35(ij5:Int)(ij4:Int)(lj3:(List H5))(l:(List H5))(r:(List H5)):Prop:=JP Tryz.prog 63 (e63 r) 10 [(5,aI ij5),(4,aI ij4),(3,.sl (List.map I8 lj3) .no),(0,.sl (List.map I8 l) .no)]
def c2n(ij4:Int)(lj3:(List H5))(l:(List H5))(r:(List H5)):Prop:=JP Tryz.prog 63 (e63 r) 4 [(4,aI ij4),(3,.sl (List.map I8 lj3) .no),(0,.sl (List.map I8 l) .no)]
theorem c2y(ij4:Int)(lj3:(List H5))(l:(List H5))(r:(List H5))(hw:((decide (ij4<(l.length:Int)))=true->d35 (lj3.length:Int) ij4 lj3 l r)/\((decide (ij4<(l.length:Int)))=false->r=lj3)):c2n ij4 lj3 l r:=
 KL 6 a8t l<|KW 3 hw (fun _ hw=>KL 7 a8t lj3<|KJ 6 [] hw) fun _ hw=>KR 12 hw g88
theorem d1e(l:(List H5))(r:(List H5))(hw:c2n 0 ([]:(List H5)) l r):c42 l r:=
 fP (KJ 18 [3] hw)
theorem g19(r:A0):plain (e64 r)=true:=(B0 r)
def a68(ij1:Int)(p:A7)(o_:GOp)(v:A0)(lj2:(List A0))(r:A0):Prop:=J Tryz.prog 64 (.ret (e64 r)) 7 [(8,aI ij1),(7,.ptr 4 0),(6,.ptr 3 0),(5,.ptr 2 0),(4,.ptr 1 0),(3,.ptr 0 0)] ⟨[some (B6 p),some (V3 o_),some (A5 v),some zV,some [aI 11,aU 0,aE,.sl (List.map C0 lj2) (.own 0),.nil,.nil,.nil]],[(lj2.length,7)],[]⟩
def a69(ij3:Int)(y5:(List (A0 × A0)))(p:A7)(o_:GOp)(lj4:(List (A0 × A0)))(r:A0):Prop:=J Tryz.prog 64 (.ret (e64 r)) 17 [(11,aI ij3),(10,.sl (List.map A8 y5) .no),(9,.ptr 4 0),(6,.ptr 3 0),(4,.ptr 1 0),(3,.ptr 0 0)] ⟨[some (B6 p),some (V3 o_),none,some zV,some [aI 12,aU 0,aE,.nil,.sl (List.map A8 lj4) (.own 0),.nil,.nil]],[(lj4.length,14)],[]⟩
theorem c1e{ij3:Int}{y5:(List (A0 × A0))}{p:A7}{o_:GOp}{lj4:(List (A0 × A0))}:a7q [true,true,false,true,true] 1 [(11,aI ij3),(10,.sl (List.map A8 y5) .no),(9,.ptr 4 0),(6,.ptr 3 0),(4,.ptr 1 0),(3,.ptr 0 0)]=true/\a5y [true,true,false,true,true] 1 [some (B6 p),some (V3 o_),none,some zV,some [aI 12,aU 0,aE,.nil,.sl (List.map A8 lj4) (.own 0),.nil,.nil]]=true:=⟨by first|rfl|simp,by first|rfl|simp⟩
theorem b0m(ij1:Int)(p:A7)(o_:GOp)(v:A0)(lj2:(List A0))(r:A0)(hw:((decide (ij1<(v.List_.length:Int)))=true->∃y3,v.List_[ij1.toNat]? =some y3/\0<=ij1/\(∃y4,a9w p o_ y3 y4/\((lj2.length+[y4].length)*128<=140737488355328/\(a68 (wI (ij1+1)) p o_ v (lj2++[y4]) r))))/\((decide (ij1<(v.List_.length:Int)))=false->r=(⟨11,0,(⟨#[]⟩:ByteArray),lj2,([]:(List (A0 × A0))),([]:(List (Int × A0))),([]:(List H5))⟩:A0))):a68 ij1 p o_ v lj2 r:=
 KL 7 G0 v.List_<|KW 3 hw (fun _ hw=>KD 4 [0,1,2,4]<|KI 7 G0 hw fun _ hw=>KC 1 hw f9n fun _ hw=>KA 1 G0 hw mE fun hw=>KJ 12 [] hw) fun _ hw=>KR 14 hw g19
theorem b0u(ij3:Int)(y5:(List (A0 × A0)))(p:A7)(o_:GOp)(lj4:(List (A0 × A0)))(r:A0)(hw:((decide (ij3<(y5.length:Int)))=true->∃y10,y5[ij3.toNat]? =some y10/\0<=ij3/\(∃y11,b93 y10.1 y11/\(∃y12,y5[ij3.toNat]? =some y12/\0<=ij3/\(∃y13,a9w p o_ y12.2 y13/\((lj4.length+[(y11,y13)].length)*256<=140737488355328/\(a69 (wI (ij3+1)) y5 p o_ (lj4++[(y11,y13)]) r))))))/\((decide (ij3<(y5.length:Int)))=false->r=(⟨12,0,(⟨#[]⟩:ByteArray),([]:(List A0)),lj4,([]:(List (Int × A0))),([]:(List H5))⟩:A0))):a69 ij3 y5 p o_ lj4 r:=
 KL 6 B7 y5<|KW 3 hw (fun _ hw=>KD 4 [0,1,4]<|KI 4 B7 hw fun _ hw=>KC 2 hw h37 fun _ hw=>KI 4 B7 hw fun _ hw=>KC 2 hw f9n fun _ hw=>KA 2 B7 hw mE fun hw=>KJ 12 [] hw) fun _ hw=>KR 14 hw g19
theorem c4k(p:A7)(o_:GOp)(v:A0)(r:A0)(hw:((o_.Card==4)=true->a68 0 p o_ v ([]:List A0) r)/\((o_.Card==4)=false->((o_.Card==5)=true->∃y5,b58 v.Pairs y5/\(a69 0 y5 p o_ ([]:List (A0 × A0)) r))/\((o_.Card==5)=false->∃y14,a9w p o_ v y14/\(r=y14)))):b83 p o_ v r:=
 fP (KW 22 hw (fun _ hw=>KOb 15 4 3 7<|KJ 0 [] hw) fun _ hw=>KW 6 hw (fun _ hw=>KC 11 hw h1d fun _ hw=>KOb 11 4 4 14<|KJl 0 [] hw c1e) fun _ hw=>KC 8 hw f9n fun _ hw=>KR 4 hw g19)
theorem f8m(r:Bool):plain (e65 r)=true:=rfl
theorem c7e(v:A0)(r:Bool)(hw:((v.Kind==11)=true->r=((v.List_.length:Int)==0))/\((v.Kind==11)=false->((v.Kind==12)=true->r=((v.Pairs.length:Int)==0))/\((v.Kind==12)=false->∃y1,b7v v y1/\(r=y1)))):c0s v r:=
 fP (KW 20 hw (fun _ hw=>KL 4 G0 v.List_<|KR 7 hw f8m) fun _ hw=>KW 6 hw (fun _ hw=>KL 4 B7 v.Pairs<|KR 7 hw f8m) fun _ hw=>KC 6 hw h0m fun _ hw=>KR 4 hw f8m)
theorem g84(r:Bool):plain (e69 r)=true:=rfl
def a2w(ij5:Int)(bj6:Bool)(p:A7)(r:Bool):Prop:=J Tryz.prog 69 (.ret (e69 r)) 10 [(5,aI ij5),(3,aB bj6),(1,.ptr 0 0)] ⟨[some (B6 p)],[],[]⟩
def a24(ij3:Int)(bj4:Bool)(p:A7)(r:Bool):Prop:=J Tryz.prog 69 (.ret (e69 r)) 4 [(4,aI ij3),(3,aB bj4),(1,.ptr 0 0)] ⟨[some (B6 p)],[],[]⟩
theorem b0o(ij5:Int)(bj6:Bool)(p:A7)(r:Bool)(hw:((decide (ij5<(p.Enums.length:Int)))=true->∃y12,p.Enums[ij5.toNat]? =some y12/\0<=ij5/\((((bj6&&(decide (1<=(y12.Items.length:Int))))&&(decide ((y12.Items.length:Int)<=64)))=true->∃y14,p.Enums[ij5.toNat]? =some y14/\0<=ij5/\(a2w (wI (ij5+1)) (decide ((y14.Reserved.length:Int)<=16)) p r))/\(((bj6&&(decide (1<=(y12.Items.length:Int))))&&(decide ((y12.Items.length:Int)<=64)))=false->a2w (wI (ij5+1)) false p r)))/\((decide (ij5<(p.Enums.length:Int)))=false->r=bj6)):a2w ij5 bj6 p r:=
 KL 7 a0i p.Enums<|KW 3 hw (fun _ hw=>KI 9 a0i hw fun y12 hw=>KL 2 b10 y12.Items<|KT 6 3<|KT 1 3<|KW 1 hw (fun _ hw=>KI 3 a0i hw fun y14 hw=>KL 2 c84 y14.Reserved<|KJ 12 [] hw) fun _ hw=>KJ 19 [] hw) fun _ hw=>KR 12 hw g84
theorem b0t(ij3:Int)(bj4:Bool)(p:A7)(r:Bool)(hw:((decide (ij3<(p.Progs.length:Int)))=true->(bj4=true->∃y16,p.Progs[ij3.toNat]? =some y16/\0<=ij3/\(a24 (wI (ij3+1)) (decide ((y16.Ops.length:Int)<=64)) p r))/\(bj4=false->a24 (wI (ij3+1)) false p r))/\((decide (ij3<(p.Progs.length:Int)))=false->a2w 0 bj4 p r)):a24 ij3 bj4 p r:=
 KL 7 L3 p.Progs<|KW 3 hw (fun _ hw=>KW 7 hw (fun _ hw=>KI 3 L3 hw fun y16 hw=>KL 2 c0d y16.Ops<|KJ 12 [] hw) fun _ hw=>KJ 19 [] hw) fun _ hw=>KJ 13 [] hw
theorem c4f(p:A7)(r:Bool)(hw:a24 0 ((decide ((p.Progs.length:Int)<=64))&&(decide ((p.Enums.length:Int)<=64))) p r):b78 p r:=
 fP (KL 10 L3 p.Progs<|KT2 2 5 (decide ((p.Progs.length:Int)<=64)) (fun z=>aB (z&&(decide ((p.Enums.length:Int)<=64)))) (fun _ key=>KL 2 a0i p.Enums<|KE2 2 key) (fun _ key=>KE2 5 key)<|KJ 11 [] hw)
theorem g85(r:Bool):plain (e70 r)=true:=rfl
def a2j(ij15:Int)(bj16:Bool)(ij13:Int)(p:A7)(r:Bool):Prop:=J Tryz.prog 70 (.ret (e70 r)) 22 [(7,aI ij15),(3,aB bj16),(6,aI ij13),(1,.ptr 0 0)] ⟨[some (B6 p)],[],[]⟩
def a2m(ij13:Int)(bj14:Bool)(p:A7)(r:Bool):Prop:=J Tryz.prog 70 (.ret (e70 r)) 16 [(6,aI ij13),(3,aB bj14),(1,.ptr 0 0)] ⟨[some (B6 p)],[],[]⟩
def a22(ij17:Int)(bj18:Bool)(ij9:Int)(p:A7)(r:Bool):Prop:=J Tryz.prog 70 (.ret (e70 r)) 10 [(5,aI ij17),(3,aB bj18),(4,aI ij9),(1,.ptr 0 0)] ⟨[some (B6 p)],[],[]⟩
def a2t(ij9:Int)(bj10:Bool)(p:A7)(r:Bool):Prop:=J Tryz.prog 70 (.ret (e70 r)) 4 [(4,aI ij9),(3,aB bj10),(1,.ptr 0 0)] ⟨[some (B6 p)],[],[]⟩
theorem b0k(ij15:Int)(bj16:Bool)(ij13:Int)(p:A7)(r:Bool)(hw:∃y59,p.Enums[ij13.toNat]? =some y59/\0<=ij13/\(((decide (ij15<(y59.Items.length:Int)))=true->(bj16=true->∃y61,p.Enums[ij13.toNat]? =some y61/\0<=ij13/\(∃y62,y61.Items[ij15.toNat]? =some y62/\0<=ij15/\(∃y63,b2v y62.Name y63/\(a2j (wI (ij15+1)) y63 ij13 p r))))/\(bj16=false->a2j (wI (ij15+1)) false ij13 p r))/\((decide (ij15<(y59.Items.length:Int)))=false->a2m (wI (ij13+1)) bj16 p r))):a2j ij15 bj16 ij13 p r:=
 KI 8 a0i hw fun y59 hw=>KL 2 b10 y59.Items<|KW 3 hw (fun _ hw=>KW 7 hw (fun _ hw=>KI 3 a0i hw fun _ hw=>KI 3 b10 hw fun _ hw=>KC 2 hw g3g fun _ hw=>KJ 11 [] hw) fun _ hw=>KJ 22 [] hw) fun _ hw=>KJ 12 [] hw
theorem b0r(ij13:Int)(bj14:Bool)(p:A7)(r:Bool)(hw:((decide (ij13<(p.Enums.length:Int)))=true->∃R3:Bool->Prop,(∀bz3:Bool,R3 bz3->(a2j 0 bz3 ij13 p r))/\((bj14=true->∃y52,p.Enums[ij13.toNat]? =some y52/\0<=ij13/\(∃y53,b07 y52.Name y53/\(R3 y53)))/\(bj14=false->R3 false)))/\((decide (ij13<(p.Enums.length:Int)))=false->r=bj14)):a2m ij13 bj14 p r:=
 KL 7 a0i p.Enums<|KW 3 hw (fun _ hw=>KQ 8 8 kB hw (fun _ hw=>KJ 10 [] hw) (fun _ key _ hw=>KI 3 a0i hw fun _ hw=>KC 2 hw g7h fun _ hw=>KE 1 key hw) fun _ key _ hw=>KE 8 key hw) fun _ hw=>KR 12 hw g85
theorem b0j(ij17:Int)(bj18:Bool)(ij9:Int)(p:A7)(r:Bool)(hw:∃y72,p.Progs[ij9.toNat]? =some y72/\0<=ij9/\(((decide (ij17<(y72.Ops.length:Int)))=true->(bj18=true->∃y74,p.Progs[ij9.toNat]? =some y74/\0<=ij9/\(∃y75,y74.Ops[ij17.toNat]? =some y75/\0<=ij17/\(∃y76,b2v y75.Name y76/\(a22 (wI (ij17+1)) y76 ij9 p r))))/\(bj18=false->a22 (wI (ij17+1)) false ij9 p r))/\((decide (ij17<(y72.Ops.length:Int)))=false->a2t (wI (ij9+1)) bj18 p r))):a22 ij17 bj18 ij9 p r:=
 KI 8 L3 hw fun y72 hw=>KL 2 c0d y72.Ops<|KW 3 hw (fun _ hw=>KW 7 hw (fun _ hw=>KI 3 L3 hw fun _ hw=>KI 3 c0d hw fun _ hw=>KC 2 hw g3g fun _ hw=>KJ 11 [] hw) fun _ hw=>KJ 22 [] hw) fun _ hw=>KJ 12 [] hw
theorem b0l(ij9:Int)(bj10:Bool)(p:A7)(r:Bool)(hw:((decide (ij9<(p.Progs.length:Int)))=true->∃R4:Bool->Prop,(∀bz4:Bool,R4 bz4->(a22 0 bz4 ij9 p r))/\((bj10=true->∃y65,p.Progs[ij9.toNat]? =some y65/\0<=ij9/\(∃y66,b07 y65.Name y66/\(R4 y66)))/\(bj10=false->R4 false)))/\((decide (ij9<(p.Progs.length:Int)))=false->a2m 0 bj10 p r)):a2t ij9 bj10 p r:=
 KL 7 L3 p.Progs<|KW 3 hw (fun _ hw=>KQ 8 8 kB hw (fun _ hw=>KJ 10 [] hw) (fun _ key _ hw=>KI 3 L3 hw fun _ hw=>KC 2 hw g7h fun _ hw=>KE 1 key hw) fun _ key _ hw=>KE 8 key hw) fun _ hw=>KJ 13 [] hw
theorem c71(p:A7)(r:Bool)(hw:a2t 0 true p r):c1a p r:=
 fP (KJ 19 [] hw)
theorem g9r(r:Bool):plain (e71 r)=true:=rfl
def a0u(ij15:Int)(bj16:Bool)(ij13:Int)(p:A7)(r:Bool):Prop:=J Tryz.prog 71 (.ret (e71 r)) 22 [(7,aI ij15),(3,aB bj16),(6,aI ij13),(1,.ptr 0 0)] ⟨[some (B6 p)],[],[]⟩
def a0q(ij13:Int)(bj14:Bool)(p:A7)(r:Bool):Prop:=J Tryz.prog 71 (.ret (e71 r)) 16 [(6,aI ij13),(3,aB bj14),(1,.ptr 0 0)] ⟨[some (B6 p)],[],[]⟩
def X2(ij17:Int)(bj18:Bool)(ij9:Int)(p:A7)(r:Bool):Prop:=J Tryz.prog 71 (.ret (e71 r)) 10 [(5,aI ij17),(3,aB bj18),(4,aI ij9),(1,.ptr 0 0)] ⟨[some (B6 p)],[],[]⟩
def a0x(ij9:Int)(bj10:Bool)(p:A7)(r:Bool):Prop:=J Tryz.prog 71 (.ret (e71 r)) 4 [(4,aI ij9),(3,aB bj10),(1,.ptr 0 0)] ⟨[some (B6 p)],[],[]⟩
theorem a7u(ij15:Int)(bj16:Bool)(ij13:Int)(p:A7)(r:Bool)(hw:∃y61,p.Enums[ij13.toNat]? =some y61/\0<=ij13/\(((decide (ij15<(y61.Items.length:Int)))=true->(bj16=true->∃y63,p.Enums[ij13.toNat]? =some y63/\0<=ij13/\(∃y64,y63.Items[(wI (ij15 - 1)).toNat]? =some y64/\0<=(wI (ij15 - 1))/\(∃y65,p.Enums[ij13.toNat]? =some y65/\0<=ij13/\(∃y66,y65.Items[ij15.toNat]? =some y66/\0<=ij15/\(a0u (wI (ij15+1)) (decide (y64.Num<y66.Num)) ij13 p r)))))/\(bj16=false->a0u (wI (ij15+1)) false ij13 p r))/\((decide (ij15<(y61.Items.length:Int)))=false->a0q (wI (ij13+1)) bj16 p r))):a0u ij15 bj16 ij13 p r:=
 KI 8 a0i hw fun y61 hw=>KL 2 b10 y61.Items<|KW 3 hw (fun _ hw=>KD 4 [0]<|KW 2 hw (fun _ hw=>KI 3 a0i hw fun _ hw=>KI 4 b10 hw fun _ hw=>KI 5 a0i hw fun _ hw=>KI 3 b10 hw fun _ hw=>KJ 15 [] hw) fun _ hw=>KJ 34 [] hw) fun _ hw=>KJ 12 [] hw
theorem a7r(ij13:Int)(bj14:Bool)(p:A7)(r:Bool)(hw:((decide (ij13<(p.Enums.length:Int)))=true->∃R7:Bool->Prop,(∀bz7:Bool,R7 bz7->(a0u 1 bz7 ij13 p r))/\((bj14=true->∃R8:Bool->Prop,(∀bz8:Bool,R8 bz8->(R7 bz8))/\(((ij13==0)=true->R8 true)/\((ij13==0)=false->∃y53,p.Enums[(wI (ij13 - 1)).toNat]? =some y53/\0<=(wI (ij13 - 1))/\(∃y54,p.Enums[ij13.toNat]? =some y54/\0<=ij13/\(R8 (Op.bytesLess y53.Name.toList y54.Name.toList))))))/\(bj14=false->R7 false)))/\((decide (ij13<(p.Enums.length:Int)))=false->r=bj14)):a0q ij13 bj14 p r:=
 KL 7 a0i p.Enums<|KW 3 hw (fun _ hw=>KD 5 [0]<|KQ 2 19 kB hw (fun _ hw=>KJ 11 [] hw) (fun _ key _ hw=>KQ 3 15 kB hw (fun _ hw=>KE 1 key hw) (fun _ key _ hw=>KE 15 key hw) fun _ key _ hw=>KI 4 a0i hw fun _ hw=>KI 5 a0i hw fun _ hw=>KE 4 key hw) fun _ key _ hw=>KE 19 key hw) fun _ hw=>KR 12 hw g9r
theorem a7o(ij17:Int)(bj18:Bool)(ij9:Int)(p:A7)(r:Bool)(hw:∃y77,p.Progs[ij9.toNat]? =some y77/\0<=ij9/\(((decide (ij17<(y77.Ops.length:Int)))=true->(bj18=true->∃y79,p.Progs[ij9.toNat]? =some y79/\0<=ij9/\(∃y80,y79.Ops[(wI (ij17 - 1)).toNat]? =some y80/\0<=(wI (ij17 - 1))/\(∃y81,p.Progs[ij9.toNat]? =some y81/\0<=ij9/\(∃y82,y81.Ops[ij17.toNat]? =some y82/\0<=ij17/\(X2 (wI (ij17+1)) (decide (y80.Num<y82.Num)) ij9 p r)))))/\(bj18=false->X2 (wI (ij17+1)) false ij9 p r))/\((decide (ij17<(y77.Ops.length:Int)))=false->a0x (wI (ij9+1)) bj18 p r))):X2 ij17 bj18 ij9 p r:=
 KI 8 L3 hw fun y77 hw=>KL 2 c0d y77.Ops<|KW 3 hw (fun _ hw=>KD 4 [0]<|KW 2 hw (fun _ hw=>KI 3 L3 hw fun _ hw=>KI 4 c0d hw fun _ hw=>KI 5 L3 hw fun _ hw=>KI 3 c0d hw fun _ hw=>KJ 15 [] hw) fun _ hw=>KJ 34 [] hw) fun _ hw=>KJ 12 [] hw
theorem a7x(ij9:Int)(bj10:Bool)(p:A7)(r:Bool)(hw:((decide (ij9<(p.Progs.length:Int)))=true->∃R11:Bool->Prop,(∀bz11:Bool,R11 bz11->(X2 1 bz11 ij9 p r))/\((bj10=true->∃R12:Bool->Prop,(∀bz12:Bool,R12 bz12->(R11 bz12))/\(((ij9==0)=true->R12 true)/\((ij9==0)=false->∃y69,p.Progs[(wI (ij9 - 1)).toNat]? =some y69/\0<=(wI (ij9 - 1))/\(∃y70,p.Progs[ij9.toNat]? =some y70/\0<=ij9/\(R12 (Op.bytesLess y69.Name.toList y70.Name.toList))))))/\(bj10=false->R11 false)))/\((decide (ij9<(p.Progs.length:Int)))=false->a0q 0 bj10 p r)):a0x ij9 bj10 p r:=
 KL 7 L3 p.Progs<|KW 3 hw (fun _ hw=>KD 5 [0]<|KQ 2 19 kB hw (fun _ hw=>KJ 11 [] hw) (fun _ key _ hw=>KQ 3 15 kB hw (fun _ hw=>KE 1 key hw) (fun _ key _ hw=>KE 15 key hw) fun _ key _ hw=>KI 4 L3 hw fun _ hw=>KI 5 L3 hw fun _ hw=>KE 4 key hw) fun _ key _ hw=>KE 19 key hw) fun _ hw=>KJ 13 [] hw
theorem c2j(p:A7)(r:Bool)(hw:a0x 0 true p r):b6x p r:=
 fP (KJ 19 [] hw)
theorem g82(r:Bool):plain (e72 r)=true:=rfl
def a1t(ij49:Int)(ij47:Int)(y69:V9)(ij42:Int)(bj50:Bool)(p:A7)(r:Bool):Prop:=J Tryz.prog 72 (.ret (e72 r)) 38 [(12,aI ij49),(11,aI ij47),(10,.sl (List.map a2i y69.Items) .no),(9,aI ij42),(3,aB bj50),(1,.ptr 0 0)] ⟨[some (B6 p)],[],[]⟩
def a1x(ij47:Int)(y69:V9)(ij42:Int)(bj48:Bool)(p:A7)(r:Bool):Prop:=J Tryz.prog 72 (.ret (e72 r)) 33 [(11,aI ij47),(10,.sl (List.map a2i y69.Items) .no),(9,aI ij42),(3,aB bj48),(1,.ptr 0 0)] ⟨[some (B6 p)],[],[]⟩
def a1w(ij42:Int)(bj43:Bool)(p:A7)(r:Bool):Prop:=J Tryz.prog 72 (.ret (e72 r)) 27 [(9,aI ij42),(3,aB bj43),(1,.ptr 0 0)] ⟨[some (B6 p)],[],[]⟩
def a1g(ij65:Int)(ij63:Int)(y98:B8)(ij33:Int)(bj66:Bool)(p:A7)(r:Bool):Prop:=J Tryz.prog 72 (.ret (e72 r)) 21 [(8,aI ij65),(7,aI ij63),(6,.sl (List.map V3 y98.Ops) .no),(4,aI ij33),(3,aB bj66),(1,.ptr 0 0)] ⟨[some (B6 p)],[],[]⟩
def a1f(ij63:Int)(y98:B8)(ij33:Int)(bj64:Bool)(p:A7)(r:Bool):Prop:=J Tryz.prog 72 (.ret (e72 r)) 16 [(7,aI ij63),(6,.sl (List.map V3 y98.Ops) .no),(4,aI ij33),(3,aB bj64),(1,.ptr 0 0)] ⟨[some (B6 p)],[],[]⟩
def a1s(ij58:Int)(ij33:Int)(bj59:Bool)(p:A7)(r:Bool):Prop:=J Tryz.prog 72 (.ret (e72 r)) 10 [(5,aI ij58),(4,aI ij33),(3,aB bj59),(1,.ptr 0 0)] ⟨[some (B6 p)],[],[]⟩
def Y6(ij33:Int)(bj34:Bool)(p:A7)(r:Bool):Prop:=J Tryz.prog 72 (.ret (e72 r)) 4 [(4,aI ij33),(3,aB bj34),(1,.ptr 0 0)] ⟨[some (B6 p)],[],[]⟩
theorem a9d(ij49:Int)(ij47:Int)(y69:V9)(ij42:Int)(bj50:Bool)(p:A7)(r:Bool)(hw:((decide (ij49<ij47))=true->(bj50=true->∃y80,y69.Items[ij49.toNat]? =some y80/\0<=ij49/\(∃y81,y69.Items[ij47.toNat]? =some y81/\0<=ij47/\(a1t (wI (ij49+1)) ij47 y69 ij42 (!(decide (y80.Name=y81.Name))) p r)))/\(bj50=false->a1t (wI (ij49+1)) ij47 y69 ij42 false p r))/\((decide (ij49<ij47))=false->a1x (wI (ij47+1)) y69 ij42 bj50 p r)):a1t ij49 ij47 y69 ij42 bj50 p r:=
 KW 9 hw (fun _ hw=>KD 4 []<|KW 2 hw (fun _ hw=>KI 2 b10 hw fun _ hw=>KI 4 b10 hw fun _ hw=>KJ 15 [] hw) fun _ hw=>KJ 23 [] hw) fun _ hw=>KJ 12 [] hw
theorem a94(ij47:Int)(y69:V9)(ij42:Int)(bj48:Bool)(p:A7)(r:Bool)(hw:((decide (ij47<(y69.Items.length:Int)))=true->a1t 0 ij47 y69 ij42 bj48 p r)/\((decide (ij47<(y69.Items.length:Int)))=false->a1w (wI (ij42+1)) bj48 p r)):a1x ij47 y69 ij42 bj48 p r:=
 KL 6 b10 y69.Items<|KW 3 hw (fun _ hw=>KJ 11 [] hw) fun _ hw=>KJ 12 [] hw
theorem a9a(ij42:Int)(bj43:Bool)(p:A7)(r:Bool)(hw:((decide (ij42<(p.Enums.length:Int)))=true->∃y69,p.Enums[ij42.toNat]? =some y69/\0<=ij42/\(a1x 0 y69 ij42 bj43 p r))/\((decide (ij42<(p.Enums.length:Int)))=false->r=bj43)):a1w ij42 bj43 p r:=
 KL 7 a0i p.Enums<|KW 3 hw (fun _ hw=>KI 9 a0i hw fun _ hw=>KJ 12 [] hw) fun _ hw=>KR 12 hw g82
theorem a9l(ij65:Int)(ij63:Int)(y98:B8)(ij33:Int)(bj66:Bool)(p:A7)(r:Bool)(hw:((decide (ij65<ij63))=true->(bj66=true->∃y109,y98.Ops[ij65.toNat]? =some y109/\0<=ij65/\(∃y110,y98.Ops[ij63.toNat]? =some y110/\0<=ij63/\(a1g (wI (ij65+1)) ij63 y98 ij33 (!(decide (y109.Name=y110.Name))) p r)))/\(bj66=false->a1g (wI (ij65+1)) ij63 y98 ij33 false p r))/\((decide (ij65<ij63))=false->a1f (wI (ij63+1)) y98 ij33 bj66 p r)):a1g ij65 ij63 y98 ij33 bj66 p r:=
 KW 9 hw (fun _ hw=>KD 4 []<|KW 2 hw (fun _ hw=>KI 2 c0d hw fun _ hw=>KI 4 c0d hw fun _ hw=>KJ 15 [] hw) fun _ hw=>KJ 23 [] hw) fun _ hw=>KJ 12 [] hw
theorem a92(ij63:Int)(y98:B8)(ij33:Int)(bj64:Bool)(p:A7)(r:Bool)(hw:((decide (ij63<(y98.Ops.length:Int)))=true->a1g 0 ij63 y98 ij33 bj64 p r)/\((decide (ij63<(y98.Ops.length:Int)))=false->Y6 (wI (ij33+1)) bj64 p r)):a1f ij63 y98 ij33 bj64 p r:=
 KL 6 c0d y98.Ops<|KW 3 hw (fun _ hw=>KJ 11 [] hw) fun _ hw=>KJ 12 [] hw
theorem a9m(ij58:Int)(ij33:Int)(bj59:Bool)(p:A7)(r:Bool)(hw:((decide (ij58<(p.Enums.length:Int)))=true->(bj59=true->∃y112,p.Progs[ij33.toNat]? =some y112/\0<=ij33/\(∃y113,p.Enums[ij58.toNat]? =some y113/\0<=ij58/\(a1s (wI (ij58+1)) ij33 (!(decide (y112.Name=y113.Name))) p r)))/\(bj59=false->a1s (wI (ij58+1)) ij33 false p r))/\((decide (ij58<(p.Enums.length:Int)))=false->∃y98,p.Progs[ij33.toNat]? =some y98/\0<=ij33/\(a1f 0 y98 ij33 bj59 p r))):a1s ij58 ij33 bj59 p r:=
 KL 7 a0i p.Enums<|KW 3 hw (fun _ hw=>KD 4 [0]<|KW 2 hw (fun _ hw=>KI 3 L3 hw fun _ hw=>KI 5 a0i hw fun _ hw=>KJ 15 [] hw) fun _ hw=>KJ 25 [] hw) fun _ hw=>KI 10 L3 hw fun _ hw=>KJ 12 [] hw
theorem a9k(ij33:Int)(bj34:Bool)(p:A7)(r:Bool)(hw:((decide (ij33<(p.Progs.length:Int)))=true->a1s 0 ij33 bj34 p r)/\((decide (ij33<(p.Progs.length:Int)))=false->a1w 0 bj34 p r)):Y6 ij33 bj34 p r:=
 KL 7 L3 p.Progs<|KW 3 hw (fun _ hw=>KJ 12 [] hw) fun _ hw=>KJ 13 [] hw
theorem c46(p:A7)(r:Bool)(hw:Y6 0 true p r):b72 p r:=
 fP (KJ 19 [] hw)
theorem g8s(r:Bool):plain (e73 r)=true:=rfl
def Y9(ij31:Int)(ij25:Int)(bj32:Bool)(p:A7)(y52:V9)(r:Bool):Prop:=J Tryz.prog 73 (.ret (e73 r)) 29 [(11,aI ij31),(8,.ptr 1 0),(7,aI ij25),(3,aB bj32),(1,.ptr 0 0)] ⟨[some (B6 p),some (Q7 y52)],[],[]⟩
def a1m(ij29:Int)(ij25:Int)(bj30:Bool)(p:A7)(y52:V9)(r:Bool):Prop:=J Tryz.prog 73 (.ret (e73 r)) 23 [(9,aI ij29),(8,.ptr 1 0),(7,aI ij25),(3,aB bj30),(1,.ptr 0 0)] ⟨[some (B6 p),some (Q7 y52)],[],[]⟩
def Z2(ij25:Int)(bj26:Bool)(p:A7)(r:Bool):Prop:=J Tryz.prog 73 (.ret (e73 r)) 16 [(7,aI ij25),(3,aB bj26),(1,.ptr 0 0)] ⟨[some (B6 p)],[],[]⟩
def a4x(ij33:Int)(ij17:Int)(bj34:Bool)(p:A7)(r:Bool):Prop:=J Tryz.prog 73 (.ret (e73 r)) 9 [(5,aI ij33),(4,aI ij17),(3,aB bj34),(1,.ptr 0 0)] ⟨[some (B6 p)],[],[]⟩
def a1j(ij17:Int)(bj18:Bool)(p:A7)(r:Bool):Prop:=J Tryz.prog 73 (.ret (e73 r)) 4 [(4,aI ij17),(3,aB bj18),(1,.ptr 0 0)] ⟨[some (B6 p)],[],[]⟩
theorem a30{ij31:Int}{ij25:Int}{bj32:Bool}{p:A7}{y52:V9}:a7q [true,true] 0 [(11,aI ij31),(8,.ptr 1 0),(7,aI ij25),(3,aB bj32),(1,.ptr 0 0)]=true/\a5y [true,true] 0 [some (B6 p),some (Q7 y52)]=true:=⟨by first|rfl|simp,by first|rfl|simp⟩
theorem c0e{ij25:Int}{bj26:Bool}{p:A7}:a7q [true] 0 [(7,aI ij25),(3,aB bj26),(1,.ptr 0 0)]=true/\a5y [true] 0 [some (B6 p)]=true:=⟨by first|rfl|simp,by first|rfl|simp⟩
theorem a9t(ij31:Int)(ij25:Int)(bj32:Bool)(p:A7)(y52:V9)(r:Bool)(hw:((decide (ij31<(y52.Reserved.length:Int)))=true->∃y61,y52.Reserved[ij31.toNat]? =some y61/\0<=ij31/\(((((bj32&&(decide (0<=y61.From)))&&(decide (y61.To<=2147483647)))&&(decide (y61.From<=y61.To)))=true->((ij31==0)=true->Y9 (wI (ij31+1)) ij25 true p y52 r)/\((ij31==0)=false->∃y64,y52.Reserved[(wI (ij31 - 1)).toNat]? =some y64/\0<=(wI (ij31 - 1))/\(Y9 (wI (ij31+1)) ij25 (decide (y64.To<y61.From)) p y52 r)))/\((((bj32&&(decide (0<=y61.From)))&&(decide (y61.To<=2147483647)))&&(decide (y61.From<=y61.To)))=false->Y9 (wI (ij31+1)) ij25 false p y52 r)))/\((decide (ij31<(y52.Reserved.length:Int)))=false->Z2 (wI (ij25+1)) bj32 p r)):Y9 ij31 ij25 bj32 p y52 r:=
 KL 7 c84 y52.Reserved<|KW 3 hw (fun _ hw=>KI 9 c84 hw fun _ hw=>KD 5 [1,2]<|KT 2 4<|KT 1 4<|KT 1 6<|KW 1 hw (fun _ hw=>KW 3 hw (fun _ hw=>KJl 23 [] hw a30) fun _ hw=>KI 6 c84 hw fun _ hw=>KJl 16 [] hw a30) fun _ hw=>KJl 26 [] hw a30) fun _ hw=>KJl 12 [] hw c0e
theorem a9b(ij29:Int)(ij25:Int)(bj30:Bool)(p:A7)(y52:V9)(r:Bool)(hw:((decide (ij29<(y52.Items.length:Int)))=true->∃y65,y52.Items[ij29.toNat]? =some y65/\0<=ij29/\((((bj30&&(decide (y65.Num<=2147483647)))&&((decide (0<ij29))||(y65.Num==0)))=true->∃y66,b3t y52.Reserved y65.Num y66/\(a1m (wI (ij29+1)) ij25 (!y66) p y52 r))/\(((bj30&&(decide (y65.Num<=2147483647)))&&((decide (0<ij29))||(y65.Num==0)))=false->a1m (wI (ij29+1)) ij25 false p y52 r)))/\((decide (ij29<(y52.Items.length:Int)))=false->Y9 0 ij25 bj30 p y52 r)):a1m ij29 ij25 bj30 p y52 r:=
 KL 7 b10 y52.Items<|KW 3 hw (fun _ hw=>KI 9 b10 hw fun y65 hw=>KT 8 3<|KT2 1 7 (bj30&&(decide (y65.Num<=2147483647))) (fun z=>aB (z&&((decide (0<ij29))||(y65.Num==0)))) (fun _ key=>KT 3 3<|KE2 1 key) (fun _ key=>KE2 7 key)<|KW 1 hw (fun _ hw=>KC 3 hw h1h fun _ hw=>KJ 12 [] hw) fun _ hw=>KJ 16 [] hw) fun _ hw=>KJ 12 [] hw
theorem a9f(ij25:Int)(bj26:Bool)(p:A7)(r:Bool)(hw:((decide (ij25<(p.Enums.length:Int)))=true->∃y52,p.Enums[ij25.toNat]? =some y52/\0<=ij25/\(a1m 0 ij25 bj26 p y52 r))/\((decide (ij25<(p.Enums.length:Int)))=false->r=bj26)):Z2 ij25 bj26 p r:=
 KL 7 a0i p.Enums<|KW 3 hw (fun _ hw=>KI 9 a0i hw fun _ hw=>KJ 13 [] hw) fun _ hw=>KR 12 hw g8s
theorem a9v(ij33:Int)(ij17:Int)(bj34:Bool)(p:A7)(r:Bool)(hw:∃y70,p.Progs[ij17.toNat]? =some y70/\0<=ij17/\(((decide (ij33<(y70.Ops.length:Int)))=true->∃y71,p.Progs[ij17.toNat]? =some y71/\0<=ij17/\(∃y72,y71.Ops[ij33.toNat]? =some y72/\0<=ij33/\(a4x (wI (ij33+1)) ij17 ((bj34&&(decide (1<=y72.Num)))&&(decide (y72.Num<=65535))) p r)))/\((decide (ij33<(y70.Ops.length:Int)))=false->a1j (wI (ij17+1)) bj34 p r))):a4x ij33 ij17 bj34 p r:=
 KI 8 L3 hw fun y70 hw=>KL 2 c0d y70.Ops<|KW 3 hw (fun _ hw=>KI 9 L3 hw fun _ hw=>KI 3 c0d hw fun _ hw=>KT 8 3<|KT 1 3<|KJ 10 [] hw) fun _ hw=>KJ 12 [] hw
theorem a9e(ij17:Int)(bj18:Bool)(p:A7)(r:Bool)(hw:((decide (ij17<(p.Progs.length:Int)))=true->a4x 0 ij17 bj18 p r)/\((decide (ij17<(p.Progs.length:Int)))=false->Z2 0 bj18 p r)):a1j ij17 bj18 p r:=
 KL 7 L3 p.Progs<|KW 3 hw (fun _ hw=>KJ 11 [] hw) fun _ hw=>KJ 13 [] hw
theorem c4v(p:A7)(r:Bool)(hw:a1j 0 true p r):b87 p r:=
 fP (KJ 19 [] hw)
theorem h1i(r:Bool):plain (e74 r)=true:=rfl
def X6(ij15:Int)(bj16:Bool)(ij13:Int)(p:A7)(r:Bool):Prop:=J Tryz.prog 74 (.ret (e74 r)) 23 [(8,aI ij15),(3,aB bj16),(7,aI ij13),(1,.ptr 0 0)] ⟨[some (B6 p)],[],[]⟩
def X5(ij13:Int)(bj14:Bool)(p:A7)(r:Bool):Prop:=J Tryz.prog 74 (.ret (e74 r)) 17 [(7,aI ij13),(3,aB bj14),(1,.ptr 0 0)] ⟨[some (B6 p)],[],[]⟩
def P4(ij17:Int)(bj18:Bool)(ij9:Int)(p:A7)(r:Bool):Prop:=J Tryz.prog 74 (.ret (e74 r)) 10 [(5,aI ij17),(3,aB bj18),(4,aI ij9),(1,.ptr 0 0)] ⟨[some (B6 p)],[],[]⟩
def X4(ij9:Int)(bj10:Bool)(p:A7)(r:Bool):Prop:=J Tryz.prog 74 (.ret (e74 r)) 4 [(4,aI ij9),(3,aB bj10),(1,.ptr 0 0)] ⟨[some (B6 p)],[],[]⟩
theorem a52(ij15:Int)(bj16:Bool)(ij13:Int)(p:A7)(r:Bool)(hw:∃y64,p.Progs[ij13.toNat]? =some y64/\0<=ij13/\(((decide (ij15<(y64.Ops.length:Int)))=true->(bj16=true->∃y66,p.Progs[ij13.toNat]? =some y66/\0<=ij13/\(∃y67,y66.Ops[ij15.toNat]? =some y67/\0<=ij15/\(∃y68,b2f p y67 y68/\(X6 (wI (ij15+1)) y68 ij13 p r))))/\(bj16=false->X6 (wI (ij15+1)) false ij13 p r))/\((decide (ij15<(y64.Ops.length:Int)))=false->X5 (wI (ij13+1)) bj16 p r))):X6 ij15 bj16 ij13 p r:=
 KI 8 L3 hw fun y64 hw=>KL 2 c0d y64.Ops<|KW 3 hw (fun _ hw=>KD 4 [0]<|KW 2 hw (fun _ hw=>KI 4 L3 hw fun _ hw=>KI 3 c0d hw fun _ hw=>KC 1 hw h2y fun _ hw=>KJ 12 [] hw) fun _ hw=>KJ 23 [] hw) fun _ hw=>KJ 12 [] hw
theorem a5w(ij13:Int)(bj14:Bool)(p:A7)(r:Bool)(hw:((decide (ij13<(p.Progs.length:Int)))=true->∃R5:Bool->Prop,(∀bz5:Bool,R5 bz5->(X6 0 bz5 ij13 p r))/\((bj14=true->∃y57,p.Progs[ij13.toNat]? =some y57/\0<=ij13/\(∃y58,b73 y57 y58/\(R5 y58)))/\(bj14=false->R5 false)))/\((decide (ij13<(p.Progs.length:Int)))=false->r=bj14)):X5 ij13 bj14 p r:=
 KL 7 L3 p.Progs<|KW 3 hw (fun _ hw=>KQ 8 7 kB hw (fun _ hw=>KJ 10 [] hw) (fun _ key _ hw=>KI 3 L3 hw fun _ hw=>KC 1 hw h2e fun _ hw=>KE 1 key hw) fun _ key _ hw=>KE 7 key hw) fun _ hw=>KR 12 hw h1i
theorem a5r(ij17:Int)(bj18:Bool)(ij9:Int)(p:A7)(r:Bool)(hw:∃y79,p.Enums[ij9.toNat]? =some y79/\0<=ij9/\(((decide (ij17<(y79.Items.length:Int)))=true->∃y80,p.Enums[ij9.toNat]? =some y80/\0<=ij9/\(∃y81,y80.Items[ij17.toNat]? =some y81/\0<=ij17/\((bj18=true->(((y81.Notes.length:Int)==0)=true->P4 (wI (ij17+1)) true ij9 p r)/\(((y81.Notes.length:Int)==0)=false->∃R8:Bool->Prop,(∀bz8:Bool,R8 bz8->((bz8=true->∃y86,c1d y81.Notes 4 y86/\(P4 (wI (ij17+1)) (y86==0) ij9 p r))/\(bz8=false->P4 (wI (ij17+1)) false ij9 p r)))/\((((y81.Notes.length:Int)==1)=true->∃y85,y81.Notes[(0:Int).toNat]? =some y85/\0<=(0:Int)/\(R8 (decide (y85.Name=(⟨#[97,108,105,97,115]⟩:ByteArray)))))/\(((y81.Notes.length:Int)==1)=false->R8 false))))/\(bj18=false->P4 (wI (ij17+1)) false ij9 p r))))/\((decide (ij17<(y79.Items.length:Int)))=false->X4 (wI (ij9+1)) bj18 p r))):P4 ij17 bj18 ij9 p r:=
 KI 8 a0i hw fun y79 hw=>KL 2 b10 y79.Items<|KW 3 hw (fun _ hw=>KI 9 a0i hw fun _ hw=>KI 3 b10 hw fun y81 hw=>KW 8 hw (fun _ hw=>KL 1 b5b y81.Notes<|KW 2 hw (fun _ hw=>KJ 27 [] hw) fun _ hw=>KL 1 b5b y81.Notes<|KQ 2 6 kB hw (fun _ hw=>KW 1 hw (fun _ hw=>KC 1 hw h2l fun _ hw=>KJ 14 [] hw) fun _ hw=>KJ 16 [] hw) (fun _ key _ hw=>KI 1 b5b hw fun _ hw=>KE 4 key hw) fun _ key _ hw=>KE 6 key hw) fun _ hw=>KJ 31 [] hw) fun _ hw=>KJ 12 [] hw
theorem a55(ij9:Int)(bj10:Bool)(p:A7)(r:Bool)(hw:((decide (ij9<(p.Enums.length:Int)))=true->∃R6:Bool->Prop,(∀bz6:Bool,R6 bz6->(P4 0 bz6 ij9 p r))/\((bj10=true->∃y70,p.Enums[ij9.toNat]? =some y70/\0<=ij9/\(R6 ((y70.Notes.length:Int)==0)))/\(bj10=false->R6 false)))/\((decide (ij9<(p.Enums.length:Int)))=false->X5 0 bj10 p r)):X4 ij9 bj10 p r:=
 KL 7 a0i p.Enums<|KW 3 hw (fun _ hw=>KQ 8 9 kB hw (fun _ hw=>KJ 10 [] hw) (fun _ key _ hw=>KI 3 a0i hw fun y70 hw=>KL 2 b5b y70.Notes<|KE 2 key hw) fun _ key _ hw=>KE 9 key hw) fun _ hw=>KJ 13 [] hw
theorem c0g(p:A7)(r:Bool)(hw:X4 0 true p r):b2e p r:=
 fP (KJ 19 [] hw)
theorem h0e(r:Bool):plain (e75 r)=true:=rfl
def Z1(ij16:Int)(bj17:Bool)(ij13:Int)(bj15:Bool)(ij8:Int)(p:A7)(lj14:(List Bool))(r:Bool):Prop:=J Tryz.prog 75 (.ret (e75 r)) 18 [(7,aI ij16),(6,aB bj17),(5,aI ij13),(4,aB bj15),(20,aI ij8),(19,aI (p.Progs.length:Int)),(3,.row 1 0 1 (p.Progs.length:Int).toNat (p.Progs.length:Int).toNat),(1,.ptr 0 0)] ⟨[some (B6 p),some (cellsOf c32 lj14)],[],[]⟩
def a1u(ij13:Int)(bj15:Bool)(ij8:Int)(p:A7)(lj14:(List Bool))(r:Bool):Prop:=J Tryz.prog 75 (.ret (e75 r)) 11 [(5,aI ij13),(4,aB bj15),(20,aI ij8),(19,aI (p.Progs.length:Int)),(3,.row 1 0 1 (p.Progs.length:Int).toNat (p.Progs.length:Int).toNat),(1,.ptr 0 0)] ⟨[some (B6 p),some (cellsOf c32 lj14)],[],[]⟩
def a2x(ij8:Int)(p:A7)(bj9:Bool)(lj10:(List Bool))(r:Bool):Prop:=J Tryz.prog 75 (.ret (e75 r)) 5 [(20,aI ij8),(19,aI (p.Progs.length:Int)),(4,aB bj9),(3,.row 1 0 1 (p.Progs.length:Int).toNat (p.Progs.length:Int).toNat),(1,.ptr 0 0)] ⟨[some (B6 p),some (cellsOf c32 lj10)],[],[]⟩
theorem a32{ij16:Int}{bj17:Bool}{ij13:Int}{bj15:Bool}{ij8:Int}{p:A7}{lj14:(List Bool)}:a7q [true,true] 0 [(7,aI ij16),(6,aB bj17),(5,aI ij13),(4,aB bj15),(20,aI ij8),(19,aI (p.Progs.length:Int)),(3,.row 1 0 1 (p.Progs.length:Int).toNat (p.Progs.length:Int).toNat),(1,.ptr 0 0)]=true/\a5y [true,true] 0 [some (B6 p),some (cellsOf c32 lj14)]=true:=⟨by first|rfl|simp,by first|rfl|simp⟩
theorem a95(ij16:Int)(bj17:Bool)(ij13:Int)(bj15:Bool)(ij8:Int)(p:A7)(lj14:(List Bool))(r:Bool)(hw:∃y29,p.Progs[ij13.toNat]? =some y29/\0<=ij13/\(((decide (ij16<(y29.Ops.length:Int)))=true->∃y30,p.Progs[ij13.toNat]? =some y30/\0<=ij13/\(∃y31,y30.Ops[ij16.toNat]? =some y31/\0<=ij16/\((bj17=true->(((y31.Card !=1)||(y31.Kind !=10))=true->Z1 (wI (ij16+1)) true ij13 bj15 ij8 p lj14 r)/\(((y31.Card !=1)||(y31.Kind !=10))=false->(0<=y31.Target/\y31.Target<((p.Progs.length:Int).toNat:Int))/\(∃y32,lj14[y31.Target.toNat]? =some y32/\(Z1 (wI (ij16+1)) y32 ij13 bj15 ij8 p lj14 r))))/\(bj17=false->Z1 (wI (ij16+1)) false ij13 bj15 ij8 p lj14 r))))/\((decide (ij16<(y29.Ops.length:Int)))=false->(0<=ij13/\ij13<((p.Progs.length:Int).toNat:Int))/\(ij13.toNat<lj14.length/\(a1u (wI (ij13+1)) (bj15&&bj17) ij8 p (lj14.set ij13.toNat bj17) r))))):Z1 ij16 bj17 ij13 bj15 ij8 p lj14 r:=
 KI 8 L3 hw fun y29 hw=>KL 2 c0d y29.Ops<|KW 3 hw (fun _ hw=>KI 9 L3 hw fun _ hw=>KI 3 c0d hw fun _ hw=>KW 8 hw (fun _ hw=>KT 4 4<|KW 1 hw (fun _ hw=>KJl 17 [] hw a32) fun _ hw=>KRI 3 1 hw fun hw=>KR1 0 g07 0 hw fun _ hw=>KJl 12 [] hw a32) fun _ hw=>KJl 26 [] hw a32) fun _ hw=>KRI 10 1 hw fun hw=>KRS 0 g07 bj17 hw fun hw=>KT 5 2<|KJ 10 [] hw
theorem a9x(ij13:Int)(bj15:Bool)(ij8:Int)(p:A7)(lj14:(List Bool))(r:Bool)(hw:((decide (ij13<(p.Progs.length:Int)))=true->Z1 0 true ij13 bj15 ij8 p lj14 r)/\((decide (ij13<(p.Progs.length:Int)))=false->a2x (wI (ij8+1)) p bj15 lj14 r)):a1u ij13 bj15 ij8 p lj14 r:=
 KL 7 L3 p.Progs<|KW 3 hw (fun _ hw=>KJ 17 [] hw) fun _ hw=>KJ 11 [] hw
theorem b0q(ij8:Int)(p:A7)(bj9:Bool)(lj10:(List Bool))(r:Bool)(hw:((decide (ij8<(p.Progs.length:Int)))=true->a1u 0 true ij8 p lj10 r)/\((decide (ij8<(p.Progs.length:Int)))=false->r=bj9)):a2x ij8 p bj9 lj10 r:=
 KW 7 hw (fun _ hw=>KJ 16 [] hw) fun _ hw=>KR 12 hw h0e
theorem c4h(p:A7)(r:Bool)(hw:(0<=(p.Progs.length:Int)/\(p.Progs.length:Int)<=(p.Progs.length:Int)/\(p.Progs.length:Int)*1<=140737488355328)/\(a2x 0 p ((p.Progs.length:Int)==0) (List.replicate (p.Progs.length:Int).toNat false) r)):b7s p r:=
 fP (KL 10 L3 p.Progs<|KM 0 g07 false hw fun hw=>KL 7 L3 p.Progs<|KL 9 L3 p.Progs<|KJ 5 [] hw)
theorem g83(r:A3):plain (e76 r)=true:=(C6 r)
theorem c4g(c:A3)(n:Int)(r:A3)(hw:r=(⟨c.Data,(wI (c.At+n)),c.End,c.Depth,c.Nodes,c.Text⟩:A3)):a51 c n r:=
 fP (KR 23 hw g83)
theorem g6p(r:(Int × A3 × Int)):plain (e77 r)=true:=(c67 (A6 rfl (A6 (C6 r.2.1) (A6 rfl rfl))))
theorem c5g(c:A3)(r:(Int × A3 × Int))(hw:∃y1,b6y c 8 y1/\(∃y2,a97 y1 y2/\(((y2.2 !=0)=true->r=(0,c,y2.2))/\((y2.2 !=0)=false->∃y3,a51 c 8 y3/\(r=(y2.1,y3,0)))))):b8u c r:=
 fP (KC 11 hw g4q fun _ hw=>KC 0 hw h22 fun _ hw=>KW 14 hw (fun _ hw=>KD 1 [0]<|KV 3<|KR 6 hw g6p) fun _ hw=>KC 6 hw g8c fun _ hw=>KR 6 hw g6p)
theorem e7r(r:(ByteArray × A3 × Int)):plain (e78 r)=true:=(c67 (A6 rfl (A6 (C6 r.2.1) (A6 rfl rfl))))
theorem c7y(c:A3)(n:Int)(r:(ByteArray × A3 × Int))(hw:((decide (n<0))=true->r=((⟨#[]⟩:ByteArray),c,1))/\((decide (n<0))=false->∃y1,a73 c y1/\(((decide (y1<n))=true->r=((⟨#[]⟩:ByteArray),c,4))/\((decide (y1<n))=false->((decide (c.Text<n))=true->r=((⟨#[]⟩:ByteArray),c,3))/\((decide (c.Text<n))=false->((n==0)=true->r=((⟨#[]⟩:ByteArray),c,0))/\((n==0)=false->∃y2,c62 c n y2/\(∃y3,y2=bI y3/\(∃y4,a51 c n y4/\(r=(y3,y4,0)))))))))):c12 c n r:=
 fP (KW 17 hw (fun _ hw=>KD 1 [0]<|KR 10 hw e7r) fun _ hw=>KC 4 hw g7w fun _ hw=>KW 4 hw (fun _ hw=>KD 1 [0]<|KR 10 hw e7r) fun _ hw=>KW 9 hw (fun _ hw=>KD 1 [0]<|KR 10 hw e7r) fun _ hw=>KW 10 hw (fun _ hw=>KD 1 [0]<|KR 9 hw e7r) fun _ hw=>KD 3 [0]<|KC 2 hw h11 fun _ hw=>KS 0 hw fun _ hw=>KC 2 hw g8c fun _ hw=>KR 7 hw e7r)
theorem g9h(r:Bool):plain (e79 r)=true:=rfl
theorem d15(s:ByteArray)(r:Bool)(hw:∃y1,f16 s y1/\(r=(decide (y1<0)))):b8e s r:=
 fP (KC 8 hw h1o fun _ hw=>KR 5 hw g9h)
theorem g4h(r:(Int × A3 × Int)):plain (e80 r)=true:=(c67 (A6 rfl (A6 (C6 r.2.1) (A6 rfl rfl))))
theorem c3j(c:A3)(r:(Int × A3 × Int))(hw:∃y1,b6y c 10 y1/\(∃y2,c19 y1 y2/\(((y2.2.2 !=0)=true->r=(0,c,y2.2.2))/\((y2.2.2 !=0)=false->∃y3,a51 c y2.2.1 y3/\(r=(y2.1,y3,0)))))):b6g c r:=
 fP (KC 11 hw g4q fun _ hw=>KC 0 hw g8t fun _ hw=>KW 16 hw (fun _ hw=>KD 1 [0]<|KV 3<|KR 6 hw g4h) fun _ hw=>KC 7 hw g8c fun _ hw=>KR 6 hw g4h)
theorem g96(r:Int):plain (e81 r)=true:=rfl
def b03(ij1:Int)(ij2:Int)(r:Int):Prop:=JP Tryz.prog 81 (e81 r) 3 [(3,aI ij1),(0,aU ij2)]
theorem b2x(ij1:Int)(ij2:Int)(r:Int)(hw:((decide (128<=ij2))=true->b03 (wI (ij1+1)) (ij2.fdiv (2 ^ min (7:Int).toNat IntKind.u64.bits)) r)/\((decide (128<=ij2))=false->r=ij1)):b03 ij1 ij2 r:=
 KW 8 hw (fun _ hw=>KJ 17 [] hw) fun _ hw=>KR 12 hw g96
theorem d1j(u:Int)(r:Int)(hw:b03 1 u r):c6c u r:=
 fP (KJ 13 [] hw)
theorem h1g(r:Bool):plain (e82 r)=true:=rfl
theorem a81(kind:Int)(r:Bool)(hw:r=((decide (1<=kind))&&(decide (kind<=9)))):b8g kind r:=
 fP (KT 10 3<|KR 4 hw h1g)
theorem g1z(r:Bool):plain (e83 r)=true:=rfl
theorem c7v(v:A0)(r:Bool)(hw:((decide (0<(wI ((wI ((wI ((v.List_.length:Int)+(v.Pairs.length:Int)))+(v.Slots.length:Int)))+(v.Raws.length:Int)))))=true->r=false)/\((decide (0<(wI ((wI ((wI ((v.List_.length:Int)+(v.Pairs.length:Int)))+(v.Slots.length:Int)))+(v.Raws.length:Int)))))=false->∃y1,b8h v.Kind y1/\((y1=true->r=(v.Bits==0))/\(y1=false->r=(decide (v.Text=(⟨#[]⟩:ByteArray))))))):b56 v r:=
 fP (KL 11 G0 v.List_<|KL 2 B7 v.Pairs<|KL 3 C2 v.Slots<|KL 3 a8t v.Raws<|KW 4 hw (fun _ hw=>KR 7 hw g1z) fun _ hw=>KC 7 hw g26 fun _ hw=>KW 2 hw (fun _ hw=>KR 10 hw g1z) fun _ hw=>KR 11 hw g1z)
theorem f1l(r:Bool):plain (e84 r)=true:=rfl
theorem c21(kind:Int)(bits:Int)(r:Bool)(hw:((kind==1)=true->r=(decide (bits<=1)))/\((kind==1)=false->((kind==2)=true->r=((decide ((-2147483648)<=(wI bits)))&&(decide ((wI bits)<=2147483647))))/\((kind==2)=false->((kind==9)=true->r=(decide (bits<=2147483647)))/\((kind==9)=false->((kind==4)=true->r=(decide (bits<=4294967295)))/\((kind==4)=false->r=true))))):b61 kind bits r:=
 fP (KW 33 hw (fun _ hw=>KR 23 hw f1l) fun _ hw=>KW 9 hw (fun _ hw=>KT 14 4<|KR 11 hw f1l) fun _ hw=>KW 9 hw (fun _ hw=>KR 27 hw f1l) fun _ hw=>KW 8 hw (fun _ hw=>KR 23 hw f1l) fun _ hw=>KR 19 hw f1l)
theorem h0i(r:Bool):plain (e85 r)=true:=rfl
theorem a49(s:(List b3z))(f:GFn)(r:Bool)(hw:∃y1,a2n s f y1/\(r=(decide (0<=y1)))):a00 s f r:=
 fP (KC 9 hw h2q fun _ hw=>KR 5 hw h0i)
theorem g91(r:Bool):plain (e89 r)=true:=rfl
theorem c7k(s:ByteArray)(r:Bool)(hw:∃y1,d6c s y1/\(r=(decide (y1<0)))):b65 s r:=
 fP (KC 8 hw g8o fun _ hw=>KR 5 hw g91)
theorem f0t(r:Int):plain (e92 r)=true:=rfl
theorem c72(bits:Int)(r:Int)(hw:((decide (9218868437227405312<(bits.tmod 9223372036854775808)))=true->r=0)/\((decide (9218868437227405312<(bits.tmod 9223372036854775808)))=false->(((bits.tmod 9223372036854775808)==9218868437227405312)=true->r=1)/\(((bits.tmod 9223372036854775808)==9218868437227405312)=false->(((bits.tmod 9223372036854775808)==0)=true->r=2)/\(((bits.tmod 9223372036854775808)==0)=false->((decide ((bits.tmod 9223372036854775808)<4503599627370496))=true->r=3)/\((decide ((bits.tmod 9223372036854775808)<4503599627370496))=false->r=4))))):b6h bits r:=
 fP (KW 21 hw (fun _ hw=>KR 8 hw f0t) fun _ hw=>KW 7 hw (fun _ hw=>KR 8 hw f0t) fun _ hw=>KW 7 hw (fun _ hw=>KR 8 hw f0t) fun _ hw=>KW 7 hw (fun _ hw=>KR 8 hw f0t) fun _ hw=>KR 9 hw f0t)
theorem h0g(r:Bool):plain (e95 r)=true:=rfl
theorem d0c(v:A0)(r:Bool)(hw:r=(((((v.List_.length:Int)==0)&&((v.Pairs.length:Int)==0))&&((v.Slots.length:Int)==0))&&((v.Raws.length:Int)==0))):b9c v r:=
 fP (KL 10 G0 v.List_<|KT2 2 5 ((v.List_.length:Int)==0) (fun z=>aB (z&&((v.Pairs.length:Int)==0))) (fun _ key=>KL 2 B7 v.Pairs<|KE2 2 key) (fun _ key=>KE2 5 key)<|KT2 1 5 (((v.List_.length:Int)==0)&&((v.Pairs.length:Int)==0)) (fun z=>aB (z&&((v.Slots.length:Int)==0))) (fun _ key=>KL 2 C2 v.Slots<|KE2 2 key) (fun _ key=>KE2 5 key)<|KT2 1 5 ((((v.List_.length:Int)==0)&&((v.Pairs.length:Int)==0))&&((v.Slots.length:Int)==0)) (fun z=>aB (z&&((v.Raws.length:Int)==0))) (fun _ key=>KL 2 a8t v.Raws<|KE2 2 key) (fun _ key=>KE2 5 key)<|KR 4 hw h0g)
theorem g87(r:Bool):plain (e96 r)=true:=rfl
theorem b7d(kind:Int)(r:Bool)(hw:r=((kind==7)||(kind==8))):a8a kind r:=
 fP (KT 10 3<|KR 4 hw g87)
theorem e9v(r:Int):plain (e97 r)=true:=rfl
theorem c40(bits:Int)(r:Int)(hw:((((F0 .and .u64 bits 9218868437227405312)==9218868437227405312)&&((F0 .and .u64 bits 4503599627370495) !=0))=true->r=0)/\((((F0 .and .u64 bits 9218868437227405312)==9218868437227405312)&&((F0 .and .u64 bits 4503599627370495) !=0))=false->(((F0 .and .u64 bits 9218868437227405312)==9218868437227405312)=true->r=1)/\(((F0 .and .u64 bits 9218868437227405312)==9218868437227405312)=false->((((F0 .and .u64 bits 9218868437227405312)==0)&&((F0 .and .u64 bits 4503599627370495)==0))=true->r=2)/\((((F0 .and .u64 bits 9218868437227405312)==0)&&((F0 .and .u64 bits 4503599627370495)==0))=false->(((F0 .and .u64 bits 9218868437227405312)==0)=true->r=3)/\(((F0 .and .u64 bits 9218868437227405312)==0)=false->r=4))))):b3q bits r:=
 fP (KT 22 3<|KW 3 hw (fun _ hw=>KR 8 hw e9v) fun _ hw=>KW 7 hw (fun _ hw=>KR 8 hw e9v) fun _ hw=>KT 5 3<|KW 3 hw (fun _ hw=>KR 8 hw e9v) fun _ hw=>KW 7 hw (fun _ hw=>KR 8 hw e9v) fun _ hw=>KR 9 hw e9v)
theorem e3g(r:Int):plain (e98 r)=true:=rfl
theorem d2g(a:A0)(b:A0)(r:Int)(hw:((a.Kind !=b.Kind)=true->∃y1,S3 a.Kind b.Kind y1/\(r=y1))/\((a.Kind !=b.Kind)=false->((a.Kind==11)=true->∃y2,d0x a.List_ b.List_ y2/\(r=y2))/\((a.Kind==11)=false->((a.Kind==12)=true->∃y3,d0e a.Pairs b.Pairs y3/\(r=y3))/\((a.Kind==12)=false->((a.Kind==10)=true->∃y4,c91 a.Slots b.Slots y4/\(((y4 !=0)=true->r=y4)/\((y4 !=0)=false->∃y5,d27 a.Raws b.Raws y5/\(r=y5))))/\((a.Kind==10)=false->∃y6,d0q a b y6/\(r=y6)))))):a1o a b r:=
 fP (KW 17 hw (fun _ hw=>KC 6 hw d6i fun _ hw=>KR 5 hw e3g) fun _ hw=>KW 16 hw (fun _ hw=>KC 6 hw h25 fun _ hw=>KR 6 hw e3g) fun _ hw=>KW 6 hw (fun _ hw=>KC 6 hw g8w fun _ hw=>KR 6 hw e3g) fun _ hw=>KW 6 hw (fun _ hw=>KC 7 hw g8p fun _ hw=>KW 9 hw (fun _ hw=>KR 10 hw e3g) fun _ hw=>KC 8 hw h0k fun _ hw=>KR 6 hw e3g) fun _ hw=>KC 7 hw h0t fun _ hw=>KR 4 hw e3g)
theorem g5w(r:Int):plain (e99 r)=true:=rfl
def N5(ij1:Int)(s:(List B8))(f:GFn)(r:Int):Prop:=JP Tryz.prog 99 (e99 r) 3 [(8,aI ij1),(7,aI (s.length:Int)),(0,.sl (List.map E4 s) .no),(1,.clo (.func f.fn) f.fi f.cap)]
theorem a41(ij1:Int)(s:(List B8))(f:GFn)(r:Int)(hw:((decide (ij1<(s.length:Int)))=true->∃y3,s[ij1.toNat]? =some y3/\0<=ij1/\(∃y4,a6a Tryz.prog [] (.clo (.func f.fn) f.fi f.cap) [.agg (E4 y3)] (aB y4)/\((y4=true->r=ij1)/\(y4=false->N5 (wI (ij1+1)) s f r))))/\((decide (ij1<(s.length:Int)))=false->r=(-1))):N5 ij1 s f r:=
 KW 7 hw (fun _ hw=>KI 15 L3 hw fun _ hw=>KF 1 hw fun _ hw=>KW 2 hw (fun _ hw=>KR 12 hw g5w) fun _ hw=>KJ 8 [] hw) fun _ hw=>KR 11 hw g5w
theorem a7i(s:(List B8))(f:GFn)(r:Int)(hw:N5 0 s f r):a21 s f r:=
 fP (KL 9 L3 s<|KJ 5 [] hw)
theorem d24(r:Int):plain (g7d r)=true:=rfl
def V1(ij7:Int)(v:A0)(x:C9)(g:B8)(r:Int):Prop:=J Tryz.prog 101 (.ret (g7d r)) 27 [(65,aI ij7),(64,aI (v.Raws.length:Int)),(63,.sl (List.map I8 v.Raws) .no),(5,.ptr 1 0),(4,.ptr 0 0)] ⟨[some (B6 x.p),some (E4 g)],[],[]⟩
def O4(ij6:Int)(g:B8)(x:C9)(v:A0)(r:Int):Prop:=J Tryz.prog 101 (.ret (g7d r)) 18 [(47,aI ij6),(46,aI (g.Ops.length:Int)),(45,.sl (List.map V3 g.Ops) .no),(6,.ptr 2 0),(5,.ptr 1 0),(4,.ptr 0 0)] ⟨[some (B6 x.p),some (E4 g),some (A5 v)],[],[]⟩
def W0(ij4:Int)(v:A0)(level:Int)(x:C9)(g:B8)(r:Int):Prop:=J Tryz.prog 101 (.ret (g7d r)) 8 [(30,aI ij4),(29,aI (v.Slots.length:Int)),(6,.ptr 2 0),(5,.ptr 1 0),(4,.ptr 0 0),(3,aI level)] ⟨[some (B6 x.p),some (E4 g),some (A5 v)],[],[]⟩
theorem a1v{ij7:Int}{v:A0}{x:C9}{g:B8}:a7q [true,true] 0 [(65,aI ij7),(64,aI (v.Raws.length:Int)),(63,.sl (List.map I8 v.Raws) .no),(5,.ptr 1 0),(4,.ptr 0 0)]=true/\a5y [true,true] 0 [some (B6 x.p),some (E4 g)]=true:=⟨by first|rfl|simp,by first|rfl|simp⟩
theorem a1q{ij6:Int}{g:B8}{x:C9}{v:A0}:a7q [true,true,true] 0 [(47,aI ij6),(46,aI (g.Ops.length:Int)),(45,.sl (List.map V3 g.Ops) .no),(6,.ptr 2 0),(5,.ptr 1 0),(4,.ptr 0 0)]=true/\a5y [true,true,true] 0 [some (B6 x.p),some (E4 g),some (A5 v)]=true:=⟨by first|rfl|simp,by first|rfl|simp⟩
theorem a03(ij7:Int)(v:A0)(x:C9)(g:B8)(r:Int)(hw:((decide (ij7<(v.Raws.length:Int)))=true->∃y23,v.Raws[ij7.toNat]? =some y23/\0<=ij7/\(∃y24,a74 x g y23 y24/\(((y24 !=0)=true->r=y24)/\((y24 !=0)=false->V1 (wI (ij7+1)) v x g r))))/\((decide (ij7<(v.Raws.length:Int)))=false->r=0)):V1 ij7 v x g r:=
 KW 7 hw (fun _ hw=>KI 6 a8t hw fun _ hw=>KC 10 hw h1w fun _ hw=>KW 9 hw (fun _ hw=>KR 12 hw d24) fun _ hw=>KJl 8 [] hw a1v) fun _ hw=>KR 11 hw d24
theorem a04(ij6:Int)(g:B8)(x:C9)(v:A0)(r:Int)(hw:((decide (ij6<(g.Ops.length:Int)))=true->∃y25,g.Ops[ij6.toNat]? =some y25/\0<=ij6/\(((y25.Card==1)=true->∃y26,N6 v.Slots (⟨155,[],[.elt (V3 y25) 0],by simp⟩:GFn) y26/\(((!y26)=true->r=14)/\((!y26)=false->O4 (wI (ij6+1)) g x v r)))/\((y25.Card==1)=false->O4 (wI (ij6+1)) g x v r)))/\((decide (ij6<(g.Ops.length:Int)))=false->V1 0 v x g r)):O4 ij6 g x v r:=
 KW 7 hw (fun _ hw=>KI 6 c0d hw fun y25 hw=>KFz 6 3 [true,true,true,false] 0 [(12,.elt (V3 y25) 0),(47,aI ij6),(46,aI (g.Ops.length:Int)),(45,.sl (List.map V3 g.Ops) .no),(6,.ptr 2 0),(5,.ptr 1 0),(4,.ptr 0 0)] [some (B6 x.p),some (E4 g),some (A5 v),none] ⟨by first|rfl|simp,by first|rfl|simp⟩<|KW 5 hw (fun _ hw=>KC 3 hw g4x fun _ hw=>KW 4 hw (fun _ hw=>KR 11 hw d24) fun _ hw=>KJl 8 [] hw a1q) fun _ hw=>KJl 17 [] hw a1q) fun _ hw=>KL 10 a8t v.Raws<|KJl 5 [] hw a1v
theorem a1n(ij4:Int)(v:A0)(level:Int)(x:C9)(g:B8)(r:Int)(hw:((decide (ij4<(v.Slots.length:Int)))=true->∃y27,a6z x g v.Slots ij4 level y27/\(((y27 !=0)=true->r=y27)/\((y27 !=0)=false->W0 (wI (ij4+1)) v level x g r)))/\((decide (ij4<(v.Slots.length:Int)))=false->O4 0 g x v r)):W0 ij4 v level x g r:=
 KW 7 hw (fun _ hw=>KC 18 hw g97 fun _ hw=>KW 9 hw (fun _ hw=>KR 12 hw d24) fun _ hw=>KJ 8 [] hw) fun _ hw=>KL 10 c0d g.Ops<|KJ 5 [] hw
theorem b2p(x:C9)(g:B8)(v:A0)(level:Int)(r:Int)(hw:∃R1:Bool->Prop,(∀bz1:Bool,R1 bz1->((bz1=true->r=12)/\(bz1=false->((decide (16<level))=true->r=17)/\((decide (16<level))=false->W0 0 v level x g r))))/\(((v.Kind !=10)=true->R1 true)/\((v.Kind !=10)=false->∃y1,b1t v y1/\(R1 y1)))):P8 x g v level r:=
 fP (KQ 16 3 kB hw (fun _ hw=>KW 3 hw (fun _ hw=>KR 8 hw d24) fun _ hw=>KW 7 hw (fun _ hw=>KR 8 hw d24) fun _ hw=>KL 8 C2 v.Slots<|KJ 5 [] hw) (fun _ key _ hw=>KE 3 key hw) fun _ key _ hw=>KC 1 hw f3e fun _ hw=>KE 1 key hw)
theorem g5o(r:Int):plain (h2m r)=true:=rfl
def a83(ij1:Int)(y1:(List A0))(ij2:Int)(r:Int):Prop:=JP Tryz.prog 102 (h2m r) 4 [(13,aI ij1),(12,aI (y1.length:Int)),(11,.sl (List.map C0 y1) .no),(3,aI ij2)]
theorem b3e{ij1:Int}{y1:(List A0)}{ij2:Int}:a7q [] 0 [(13,aI ij1),(12,aI (y1.length:Int)),(11,.sl (List.map C0 y1) .no),(3,aI ij2)]=true/\a5y [] 0 []=true:=⟨by first|rfl|simp,by first|rfl|simp⟩
theorem c1f(ij1:Int)(y1:(List A0))(ij2:Int)(r:Int)(hw:((decide (ij1<(y1.length:Int)))=true->∃y4,y1[ij1.toNat]? =some y4/\0<=ij1/\(∃y5,b2n y4 y5/\(a83 (wI (ij1+1)) y1 (wI (ij2+y5)) r)))/\((decide (ij1<(y1.length:Int)))=false->r=ij2)):a83 ij1 y1 ij2 r:=
 KW 7 hw (fun _ hw=>KI 6 G0 hw fun _ hw=>KC 8 hw g3r fun _ hw=>KJl 10 [] hw b3e) fun _ hw=>KR 12 hw g5o
theorem c65(v:A0)(r:Int)(hw:∃y1,c1c v y1/\(a83 0 y1 (wI (1+(v.Raws.length:Int))) r)):b2n v r:=
 fP (KL 10 a8t v.Raws<|KC 8 hw h2b fun y1 hw=>KL 0 G0 y1<|KJl 5 [] hw b3e)
theorem f7f(r:E2):plain (g77 r)=true/\(N8 r).all ok1=true/\lowL [true] 1 (N8 r)=true/\(a3n r).length=1:=⟨f7h r,a3h _,c0v _,rfl⟩
theorem b8k(w:E2)(o_:GOp)(v:A0)(r:E2)(hw:((o_.Kind==10)=true->∃y1,Z4 w o_.Target v y1/\(r=y1))/\((o_.Kind==10)=false->∃y2,d38 v y2/\(∃y3,X0 w y2 y3/\(r=y3)))):Y5 w o_ v r:=
 fIO (KW 14 hw (fun _ hw=>KI1 6 hw g6o fun _ hw=>KRi 4 hw f7f) fun _ hw=>KC 5 hw h39 fun _ hw=>KI1 0 hw d28 fun _ hw=>KRi 1 hw f7f)
theorem g38(r:E2):plain (g8e r)=true/\(N8 r).all ok1=true/\lowL [true] 1 (N8 r)=true/\(a3n r).length=1:=⟨f5w r,a3h _,c0v _,rfl⟩
theorem c0q(w:E2)(s:ByteArray)(r:E2)(hw:(w.out.length+(bI s).length)*1<=140737488355328/\(r=(⟨w.p,(w.out++(bI s))⟩:E2))):X0 w s r:=
 fIO (KA 7 d1t hw mS fun hw=>KRi 4 hw g38)
theorem f75(r:(List H5)):plain (h5l r)=true:=(psl (H6 r))
theorem b2s(s:(List H5))(r:(List H5))(hw:∀bj1:Bool,(s≠[]->bj1=false)->((bj1=true->r=([]:(List H5)))/\(bj1=false->(([]:List H5).length+s.length)*40<=140737488355328/\(r=(([]:List H5)++s))))):a87 s r:=
 fP (KN 9 a8t hw fun _ hw=>KW 2 hw (fun _ hw=>KR 7 hw f75) fun _ hw=>KAf 6 a8t hw mF xE fun hw=>KR 4 hw f75)
theorem f6k(r:(List (Int × A0))):plain (g76 r)=true:=(psl (E6 r))
def a85(ij1:Int)(lj2:(List (Int × A0)))(r:(List (Int × A0))):Prop:=J Tryz.prog 106 (.ret (g76 r)) 6 [(13,aI ij1),(12,aI (([]:List (Int × A0)).length:Int)),(11,.sl (List.map B4 ([]:List (Int × A0))) .no),(4,.sl (List.map B4 lj2) (.own 0)),(3,.sl (List.map B4 ([]:List (Int × A0))) .no)] ⟨[],[(lj2.length,8)],[]⟩
def a4r(ij3:Int)(y7:(List (Int × A0)))(lj4:(List (Int × A0)))(r:(List (Int × A0))):Prop:=J Tryz.prog 106 (.ret (g76 r)) 6 [(13,aI ij3),(12,aI (y7.length:Int)),(11,.sl (List.map B4 y7) .no),(4,.sl (List.map B4 lj4) (.own 0)),(3,.sl (List.map B4 y7) .no)] ⟨[],[(lj4.length,8)],[]⟩
theorem b29{ij1:Int}{lj2:(List (Int × A0))}:a7q [] 1 [(13,aI ij1),(12,aI (([]:List (Int × A0)).length:Int)),(11,.sl (List.map B4 ([]:List (Int × A0))) .no),(4,.sl (List.map B4 lj2) (.own 0)),(3,.sl (List.map B4 ([]:List (Int × A0))) .no)]=true/\a5y [] 1 []=true:=⟨by first|rfl|simp,by first|rfl|simp⟩
theorem a6f{ij3:Int}{y7:(List (Int × A0))}{lj4:(List (Int × A0))}:a7q [] 1 [(13,aI ij3),(12,aI (y7.length:Int)),(11,.sl (List.map B4 y7) .no),(4,.sl (List.map B4 lj4) (.own 0)),(3,.sl (List.map B4 y7) .no)]=true/\a5y [] 1 []=true:=⟨by first|rfl|simp,by first|rfl|simp⟩
theorem c1j(ij1:Int)(lj2:(List (Int × A0)))(r:(List (Int × A0)))(hw:((decide (ij1<(([]:List (Int × A0)).length:Int)))=true->∃y4,([]:List (Int × A0))[ij1.toNat]? =some y4/\0<=ij1/\(∃R4:Bool->Prop,(∀bz4:Bool,R4 bz4->((bz4=true->(lj2.length+[y4].length)*136<=140737488355328/\(a85 (wI (ij1+1)) (lj2++[y4]) r))/\(bz4=false->a85 (wI (ij1+1)) lj2 r)))/\((((wI (ij1+1))==(([]:List (Int × A0)).length:Int))=true->R4 true)/\(((wI (ij1+1))==(([]:List (Int × A0)).length:Int))=false->∃y6,([]:List (Int × A0))[(wI (ij1+1)).toNat]? =some y6/\0<=(wI (ij1+1))/\(R4 (y4.1 !=y6.1))))))/\((decide (ij1<(([]:List (Int × A0)).length:Int)))=false->r=lj2)):a85 ij1 lj2 r:=
 KW 7 hw (fun _ hw=>KI 7 C2 hw fun _ hw=>KD 7 [0]<|KL 3 C2 ([]:List (Int × A0))<|KQ 2 10 kB hw (fun _ hw=>KW 3 hw (fun _ hw=>KA 4 C2 hw mE fun hw=>KJl 9 [] hw b29) fun _ hw=>KJl 8 [] hw b29) (fun _ key _ hw=>KE 10 key hw) fun _ key _ hw=>KI 5 C2 hw fun _ hw=>KE 4 key hw) fun _ hw=>KR 12 hw f6k
theorem a5n(ij3:Int)(y7:(List (Int × A0)))(lj4:(List (Int × A0)))(r:(List (Int × A0)))(hw:((decide (ij3<(y7.length:Int)))=true->∃y11,y7[ij3.toNat]? =some y11/\0<=ij3/\(∃R8:Bool->Prop,(∀bz8:Bool,R8 bz8->((bz8=true->(lj4.length+[y11].length)*136<=140737488355328/\(a4r (wI (ij3+1)) y7 (lj4++[y11]) r))/\(bz8=false->a4r (wI (ij3+1)) y7 lj4 r)))/\((((wI (ij3+1))==(y7.length:Int))=true->R8 true)/\(((wI (ij3+1))==(y7.length:Int))=false->∃y13,y7[(wI (ij3+1)).toNat]? =some y13/\0<=(wI (ij3+1))/\(R8 (y11.1 !=y13.1))))))/\((decide (ij3<(y7.length:Int)))=false->r=lj4)):a4r ij3 y7 lj4 r:=
 KW 7 hw (fun _ hw=>KI 7 C2 hw fun _ hw=>KD 7 [0]<|KL 3 C2 y7<|KQ 2 10 kB hw (fun _ hw=>KW 3 hw (fun _ hw=>KA 4 C2 hw mE fun hw=>KJl 9 [] hw a6f) fun _ hw=>KJl 8 [] hw a6f) (fun _ key _ hw=>KE 10 key hw) fun _ key _ hw=>KI 5 C2 hw fun _ hw=>KE 4 key hw) fun _ hw=>KR 12 hw f6k
theorem b7c(l:(List (Int × A0)))(r:(List (Int × A0)))(hw:(l=[]->a6n l ([]:List (Int × A0))/\(W7 (⟨160,[],[],rfl⟩:GFn)/\(a85 0 ([]:List (Int × A0)) r)))/\(l≠[]->a2o l/\(∃y7,S6 l.length l (⟨160,[],[],rfl⟩:GFn) y7/\(l≠[]/\y7≠[])/\(y7.length=l.length/\(a4r 0 y7 ([]:List (Int × A0)) r))))):b11 l r:=
 fP (g9c l (fun hb1=>KC0 8 (hw.1 hb1) h09 fun hw=>KC0 6 hw g5a fun hw=>KL 11 C2 ([]:List (Int × A0))<|KO 5 4 8<|KJ 0 [] hw) fun hb1=>KNw 8 C2 hb1 (hw.2 hb1) fun hw=>KRO 6 C2 hw g7s fun y7 hw=>KDf 2 C2 0 [false] 0 1 [(3,.sl (List.map B4 y7) .no)] [none] ⟨by first|rfl|simp,by first|rfl|simp⟩ hw fun hw=>KL 9 C2 y7<|KO 5 4 8<|KJl 0 [] hw a6f)
theorem g5p(r:(GOp × Bool)):plain (h4u r)=true:=(c67 (A6 (N3 r.1) (A6 rfl rfl)))
theorem d6g(g:B8)(num:Int)(r:(GOp × Bool))(hw:∃y1,c0l (⟨(⟨161,[],[.elt [aI num] 0],by simp⟩:GFn)⟩:b3u) g y1/\(r=(y1.1,y1.2))):c0r g num r:=
 fP (KFz 9 1 [true,false,true] 0 [(4,.ptr 2 0),(3,.elt [aI num] 0),(2,.ptr 0 0)] [some (E4 g),none,some [aI 0,aE,aE,aI 0,aI 0,aI 0,aI 0,aI 0]] ⟨by first|rfl|simp,by first|rfl|simp⟩<|KC 4 hw h2n fun _ hw=>KR 7 hw g5p)
theorem e7p(r:A0):plain (g8h r)=true:=(B0 r)
def a3g(ij1:Int)(v:A0)(p:A7)(o_:GOp)(lj2:(List A0))(r:A0):Prop:=J Tryz.prog 108 (.ret (g8h r)) 7 [(21,aI ij1),(20,aI (v.List_.length:Int)),(19,.sl (List.map C0 v.List_) .no),(7,.ptr 4 0),(6,.ptr 3 0),(4,.ptr 1 0),(3,.ptr 0 0)] ⟨[some (B6 p),some (V3 o_),none,some zV,some [aI 11,aU 0,aE,.sl (List.map C0 lj2) (.own 0),.nil,.nil,.nil]],[(lj2.length,7)],[]⟩
def a3m(ij3:Int)(y5:(List (A0 × A0)))(p:A7)(o_:GOp)(lj4:(List (A0 × A0)))(r:A0):Prop:=J Tryz.prog 108 (.ret (g8h r)) 17 [(43,aI ij3),(42,aI (y5.length:Int)),(41,.sl (List.map A8 y5) .no),(10,.ptr 4 0),(6,.ptr 3 0),(4,.ptr 1 0),(3,.ptr 0 0)] ⟨[some (B6 p),some (V3 o_),none,some zV,some [aI 12,aU 0,aE,.nil,.sl (List.map A8 lj4) (.own 0),.nil,.nil]],[(lj4.length,14)],[]⟩
theorem a91{ij1:Int}{v:A0}{p:A7}{o_:GOp}{lj2:(List A0)}:a7q [true,true,false,true,true] 1 [(21,aI ij1),(20,aI (v.List_.length:Int)),(19,.sl (List.map C0 v.List_) .no),(7,.ptr 4 0),(6,.ptr 3 0),(4,.ptr 1 0),(3,.ptr 0 0)]=true/\a5y [true,true,false,true,true] 1 [some (B6 p),some (V3 o_),none,some zV,some [aI 11,aU 0,aE,.sl (List.map C0 lj2) (.own 0),.nil,.nil,.nil]]=true:=⟨by first|rfl|simp,by first|rfl|simp⟩
theorem a9o{ij3:Int}{y5:(List (A0 × A0))}{p:A7}{o_:GOp}{lj4:(List (A0 × A0))}:a7q [true,true,false,true,true] 1 [(43,aI ij3),(42,aI (y5.length:Int)),(41,.sl (List.map A8 y5) .no),(10,.ptr 4 0),(6,.ptr 3 0),(4,.ptr 1 0),(3,.ptr 0 0)]=true/\a5y [true,true,false,true,true] 1 [some (B6 p),some (V3 o_),none,some zV,some [aI 12,aU 0,aE,.nil,.sl (List.map A8 lj4) (.own 0),.nil,.nil]]=true:=⟨by first|rfl|simp,by first|rfl|simp⟩
theorem a7t(ij1:Int)(v:A0)(p:A7)(o_:GOp)(lj2:(List A0))(r:A0)(hw:((decide (ij1<(v.List_.length:Int)))=true->∃y3,v.List_[ij1.toNat]? =some y3/\0<=ij1/\(∃y4,a6y p o_ y3 y4/\((lj2.length+[y4].length)*128<=140737488355328/\(a3g (wI (ij1+1)) v p o_ (lj2++[y4]) r))))/\((decide (ij1<(v.List_.length:Int)))=false->r=(⟨11,0,(⟨#[]⟩:ByteArray),lj2,([]:(List (A0 × A0))),([]:(List (Int × A0))),([]:(List H5))⟩:A0))):a3g ij1 v p o_ lj2 r:=
 KW 7 hw (fun _ hw=>KI 6 G0 hw fun _ hw=>KD 5 [0,1,4,5]<|KC 5 hw f8k fun _ hw=>KA 1 G0 hw mE fun hw=>KJl 11 [] hw a91) fun _ hw=>KR 14 hw e7p
theorem a7w(ij3:Int)(y5:(List (A0 × A0)))(p:A7)(o_:GOp)(lj4:(List (A0 × A0)))(r:A0)(hw:((decide (ij3<(y5.length:Int)))=true->∃y9,y5[ij3.toNat]? =some y9/\0<=ij3/\(∃y10,a8k y9.1 y10/\(∃y11,a6y p o_ y9.2 y11/\((lj4.length+[(y10,y11)].length)*256<=140737488355328/\(a3m (wI (ij3+1)) y5 p o_ (lj4++[(y10,y11)]) r)))))/\((decide (ij3<(y5.length:Int)))=false->r=(⟨12,0,(⟨#[]⟩:ByteArray),([]:(List A0)),lj4,([]:(List (Int × A0))),([]:(List H5))⟩:A0))):a3m ij3 y5 p o_ lj4 r:=
 KW 7 hw (fun _ hw=>KI 6 B7 hw fun _ hw=>KD 5 [0,1,4,5]<|KC 4 hw g78 fun _ hw=>KC 4 hw f8k fun _ hw=>KA 2 B7 hw mE fun hw=>KJl 11 [] hw a9o) fun _ hw=>KR 14 hw e7p
theorem c1l(p:A7)(o_:GOp)(v:A0)(r:A0)(hw:((o_.Card==4)=true->a3g 0 v p o_ ([]:List A0) r)/\((o_.Card==4)=false->((o_.Card==5)=true->∃y5,b6j v.Pairs y5/\(a3m 0 y5 p o_ ([]:List (A0 × A0)) r))/\((o_.Card==5)=false->∃y12,a6y p o_ v y12/\(r=y12)))):b34 p o_ v r:=
 fP (KW 22 hw (fun _ hw=>KL 12 G0 v.List_<|KOb 5 4 3 7<|KJl 0 [] hw a91) fun _ hw=>KW 6 hw (fun _ hw=>KC 12 hw h0j fun y5 hw=>KL 0 B7 y5<|KOb 5 4 4 14<|KJl 0 [] hw a9o) fun _ hw=>KC 8 hw f8k fun _ hw=>KR 4 hw e7p)
theorem f66(r:Bool):plain (h3x r)=true:=rfl
theorem d1g(v:A0)(r:Bool)(hw:((((v.Kind==11)&&((v.List_.length:Int)==0))||((v.Kind==12)&&((v.Pairs.length:Int)==0)))=true->r=true)/\((((v.Kind==11)&&((v.List_.length:Int)==0))||((v.Kind==12)&&((v.Pairs.length:Int)==0)))=false->∃y1,a62 v y1/\(r=y1))):c6e v r:=
 fP (KT2 12 5 (v.Kind==11) (fun z=>aB (z&&((v.List_.length:Int)==0))) (fun _ key=>KL 2 G0 v.List_<|KE2 2 key) (fun _ key=>KE2 5 key)<|KT2 1 10 ((v.Kind==11)&&((v.List_.length:Int)==0)) (fun z=>aB (z||((v.Kind==12)&&((v.Pairs.length:Int)==0)))) (fun _ key=>KE2 10 key) (fun _ key=>KT2 4 5 (v.Kind==12) (fun z=>aB (z&&((v.Pairs.length:Int)==0))) (fun _ key=>KL 2 B7 v.Pairs<|KE2 2 key) (fun _ key=>KE2 5 key)<|KE2 1 key)<|KW 1 hw (fun _ hw=>KR 7 hw f66) fun _ hw=>KC 1 hw g2z fun _ hw=>KR 5 hw f66)
theorem d2x(r:Int):plain (h3f r)=true:=rfl
theorem c0b(x:Int)(y:Int)(r:Int)(hw:∃y1,b64 x y1/\(∃y2,b64 y y2/\((y1=true->(y2=true->r=0)/\(y2=false->r=(-1)))/\(y1=false->(y2=true->r=1)/\(y2=false->((decide (x<y))=true->r=(-1))/\((decide (x<y))=false->((decide (y<x))=true->r=1)/\((decide (y<x))=false->r=0))))))):Q9 x y r:=
 fP (KC 8 hw g3f fun _ hw=>KC 6 hw g3f fun _ hw=>KW 9 hw (fun _ hw=>KW 6 hw (fun _ hw=>KR 8 hw d2x) fun _ hw=>KR 9 hw d2x) fun _ hw=>KW 8 hw (fun _ hw=>KR 7 hw d2x) fun _ hw=>KW 10 hw (fun _ hw=>KR 7 hw d2x) fun _ hw=>KW 10 hw (fun _ hw=>KR 7 hw d2x) fun _ hw=>KR 8 hw d2x)
theorem g3h(r:(A9 × Int)):plain (g73 r)=true/\(D0 r.1).all ok1=true/\lowL [true] 0 (D0 r.1)=true/\(J6 r.1).length=0:=⟨f6y r,J3 _,a40 _,rfl⟩
theorem a9q(r_:A9)(n:Int)(r:(A9 × Int))(hw:∃y1,c6p r_.c n y1/\(r=((⟨r_.p,y1.1⟩:A9),y1.2))):a1k r_ n r:=
 fIO (KC 12 hw h12 fun _ hw=>KRi 24 hw g3h)
theorem e9m(r:(A9 × (A0 × Int))):plain (g7x r)=true/\(D0 r.1).all ok1=true/\lowL [true] 0 (D0 r.1)=true/\(J6 r.1).length=0:=⟨f7g r,J3 _,a40 _,rfl⟩
theorem b8c(r_:A9)(o_:GOp)(r:(A9 × (A0 × Int)))(hw:((o_.Kind==10)=true->∃y1,W3 r_ o_.Target y1/\(r=(y1.1,y1.2.1,y1.2.2)))/\((o_.Kind==10)=false->∃y2,a1k r_ 1 y2/\(((y2.2 !=0)=true->r=(y2.1,(⟨0,0,(⟨#[]⟩:ByteArray),([]:(List A0)),([]:(List (A0 × A0))),([]:(List (Int × A0))),([]:(List H5))⟩:A0),y2.2))/\((y2.2 !=0)=false->∃y3,c5k y2.1.p o_ y2.1.c y3/\(r=((⟨y2.1.p,y3.2.1⟩:A9),y3.1,y3.2.2)))))):G3 r_ o_ r:=
 fIO (KW 15 hw (fun _ hw=>KIO 5 hw g49 fun _ hw=>KRi 8 hw e9m) fun _ hw=>KIO 6 hw e6m fun _ hw=>KW 9 hw (fun _ hw=>KRi 10 hw e9m) fun _ hw=>KD 3 [0,1]<|KC 9 hw h6x fun _ hw=>KV 6<|KV 0<|KRi 22 hw e9m)
theorem f1n(r:(A9 × (A0 × Int))):plain (g31 r)=true/\(D0 r.1).all ok1=true/\lowL [true] 0 (D0 r.1)=true/\(J6 r.1).length=0:=⟨f7b r,J3 _,a40 _,rfl⟩
def a19(ij1:Int)(y1:(A9 × (Int × Int)))(lj2:(List B8))(lj3:(List V9))(sj4:ByteArray)(ij5:Int)(ij6:Int)(ij7:Int)(ij8:Int)(ij9:Int)(o_:GOp)(lj10:(List A0))(r:(A9 × (A0 × Int))):Prop:=J Tryz.prog 115 (.io 0 (g31 r) (D0 r.1) (J6 r.1)) 8 [(22,aI ij1),(21,aI y1.2.1),(6,.ptr 3 0),(4,.ptr 2 0),(3,.ptr 1 0),(0,.ptr 0 0)] ⟨[some [.sl (List.map E4 lj2) .no,.sl (List.map Q7 lj3) .no,aS sj4,aI ij5,aI ij6,aI ij7,aI ij8,aI ij9],some (V3 o_),some zV,some [aI 11,aU 0,aE,.sl (List.map C0 lj10) (.own 0),.nil,.nil,.nil]],[(lj10.length,7)],[]⟩
theorem b7m{ij1:Int}{y1:(A9 × (Int × Int))}{lj2:(List B8)}{lj3:(List V9)}{sj4:ByteArray}{ij5:Int}{ij6:Int}{ij7:Int}{ij8:Int}{ij9:Int}{o_:GOp}{lj10:(List A0)}:a7q [true,true,true,true] 1 [(22,aI ij1),(21,aI y1.2.1),(6,.ptr 3 0),(4,.ptr 2 0),(3,.ptr 1 0),(0,.ptr 0 0)]=true/\a5y [true,true,true,true] 1 [some [.sl (List.map E4 lj2) .no,.sl (List.map Q7 lj3) .no,aS sj4,aI ij5,aI ij6,aI ij7,aI ij8,aI ij9],some (V3 o_),some zV,some [aI 11,aU 0,aE,.sl (List.map C0 lj10) (.own 0),.nil,.nil,.nil]]=true:=⟨by first|rfl|simp,by first|rfl|simp⟩
theorem a6d(ij1:Int)(y1:(A9 × (Int × Int)))(lj2:(List B8))(lj3:(List V9))(sj4:ByteArray)(ij5:Int)(ij6:Int)(ij7:Int)(ij8:Int)(ij9:Int)(o_:GOp)(lj10:(List A0))(r:(A9 × (A0 × Int)))(hw:((decide (ij1<y1.2.1))=true->∃y3,G3 (⟨(⟨lj2,lj3⟩:A7),(⟨sj4,ij5,ij6,ij7,ij8,ij9⟩:A3)⟩:A9) o_ y3/\(((y3.2.2 !=0)=true->r=(y3.1,(⟨11,0,(⟨#[]⟩:ByteArray),lj10,([]:(List (A0 × A0))),([]:(List (Int × A0))),([]:(List H5))⟩:A0),y3.2.2))/\((y3.2.2 !=0)=false->(lj10.length+[y3.2.1].length)*128<=140737488355328/\(a19 (wI (ij1+1)) y1 y3.1.p.Progs y3.1.p.Enums y3.1.c.Data y3.1.c.At y3.1.c.End y3.1.c.Depth y3.1.c.Nodes y3.1.c.Text o_ (lj10++[y3.2.1]) r))))/\((decide (ij1<y1.2.1))=false->r=((⟨(⟨lj2,lj3⟩:A7),(⟨sj4,ij5,ij6,ij7,ij8,ij9⟩:A3)⟩:A9),(⟨11,0,(⟨#[]⟩:ByteArray),lj10,([]:(List (A0 × A0))),([]:(List (Int × A0))),([]:(List H5))⟩:A0),0))):a19 ij1 y1 lj2 lj3 sj4 ij5 ij6 ij7 ij8 ij9 o_ lj10 r:=
 KW 7 hw (fun _ hw=>KIO 8 hw d1c fun _ hw=>KW 15 hw (fun _ hw=>KRi 15 hw f1n) fun _ hw=>KA 7 G0 hw mE fun hw=>KJl 10 [] hw b7m) fun _ hw=>KRi 13 hw f1n
theorem b99(r_:A9)(o_:GOp)(r:(A9 × (A0 × Int)))(hw:∃y1,a4z r_ y1/\(((y1.2.2 !=0)=true->r=(y1.1,(⟨11,0,(⟨#[]⟩:ByteArray),([]:(List A0)),([]:(List (A0 × A0))),([]:(List (Int × A0))),([]:(List H5))⟩:A0),y1.2.2))/\((y1.2.2 !=0)=false->a19 0 y1 y1.1.p.Progs y1.1.p.Enums y1.1.c.Data y1.1.c.At y1.1.c.End y1.1.c.Depth y1.1.c.Nodes y1.1.c.Text o_ ([]:List A0) r))):a0r r_ o_ r:=
 fIO (KIO 17 hw f58 fun _ hw=>KW 14 hw (fun _ hw=>KRi 10 hw f1n) fun _ hw=>KOb 11 3 3 7<|KJ 0 [] hw)
end
end Go.Proofs.YtidmmngcijapcaaGreat.Lift
