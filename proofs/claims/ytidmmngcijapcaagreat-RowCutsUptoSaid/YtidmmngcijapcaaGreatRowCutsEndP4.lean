/- Part 5 of the texts that prove RowCutsEnd. -/
import Derived.Test.YtidmmngcijapcaaGreatRowCutsEndP3
import Derived.Test.YtidmmngcijapcaaGreatProg
namespace Go.Proofs.YtidmmngcijapcaaGreat.Lift
open Go.RowKit
set_option linter.unusedVariables false
set_option linter.unusedSimpArgs false
set_option linter.unnecessarySimpa false
set_option linter.unusedSectionVars false
set_option maxRecDepth 100000
def e3 (r:Bool):AV:=.v (.bool r)
def e4 (r:Bool):AV:=.v (.bool r)
def e5 (r:Bool):AV:=.v (.bool r)
def e6 (r:Bool):AV:=.v (.bool r)
def e7 (r:Bool):AV:=.v (.bool r)
def c1w (p:A5) (name:ByteArray) (v:A0) (q:a1c) (r:Bool):Prop:=C1 Tryz.prog [] 7 [.agg (B7 p),.v (.string name),.agg (B0 v),.agg (a0z q)] (e7 r)
def e8 (r:Bool):AV:=.v (.bool r)
def e9 (r:Bool):AV:=.v (.bool r)
def b7j (p:A5) (r:Bool):Prop:=C1 Tryz.prog [] 9 [.agg (B7 p)] (e9 r)
def e10 (r:(A0 × A3 × Int)):AV:=.tuple [.agg (B0 r.1),.agg (D3 r.2.1),.v (.int .i64 r.2.2)]
def c3y (p:A5) (o_:GOp) (c:A3) (r:(A0 × A3 × Int)):Prop:=C1 Tryz.prog [] 10 [.agg (B7 p),.agg (W3 o_),.agg (D3 c)] (e10 r)
def e12 (r:ByteArray):AV:=.v (.string r)
def d10 (v:A0) (r:ByteArray):Prop:=C1 Tryz.prog [] 12 [.agg (B0 v)] (e12 r)
def e14 (r:ByteArray):AV:=.v (.string r)
def e15 (r:Bool):AV:=.v (.bool r)
def b09 (r:Bool):Prop:=C1 Tryz.prog [] 15 [] (e15 r)
def e17 (r:Bool):AV:=.v (.bool r)
def c0m (v:A0) (r:Bool):Prop:=C1 Tryz.prog [] 17 [.agg (B0 v)] (e17 r)
def e18 (r:(ByteArray × Int)):AV:=.tuple [.v (.string r.1),.v (.int .i64 r.2)]
def c24 (p:A5) (name:ByteArray) (v:A0) (r:(ByteArray × Int)):Prop:=C1 Tryz.prog [] 18 [.agg (B7 p),.v (.string name),.agg (B0 v)] (e18 r)
def e20 (r:(A0 × Int)):AV:=.tuple [.agg (B0 r.1),.v (.int .i64 r.2)]
def b79 (p:A5) (name:ByteArray) (data:ByteArray) (l:Y3) (r:(A0 × Int)):Prop:=C1 Tryz.prog [] 20 [.agg (B7 p),.v (.string name),.v (.string data),.agg (a6p l)] (e20 r)
def e21 (r:Y3):AV:=.agg (a6p r)
def b5o (r:Y3):Prop:=C1 Tryz.prog [] 21 [] (e21 r)
def e22 (r:A0):AV:=.agg (B0 r)
def e0m (p:A5) (prog:Int) (v:A0) (r:A0):Prop:=C1 Tryz.prog [] 22 [.agg (B7 p),.v (.int .i64 prog),.agg (B0 v)] (e22 r)
def e23 (r:Int):AV:=.v (.int .i64 r)
def e25 (r:Int):AV:=.v (.int .i64 r)
def X7 (v:A0) (r:Int):Prop:=C1 Tryz.prog [] 25 [.agg (B0 v)] (e25 r)
def e30 (r:Int):AV:=.v (.int .i64 r)
def c0s (p:A5) (r:Int):Prop:=C1 Tryz.prog [] 30 [.agg (B7 p)] (e30 r)
def e31 (r:(Int × A3 × Int)):AV:=.tuple [.v (.int .u8 r.1),.agg (D3 r.2.1),.v (.int .i64 r.2.2)]
def b5k (c:A3) (r:(Int × A3 × Int)):Prop:=C1 Tryz.prog [] 31 [.agg (D3 c)] (e31 r)
def e32 (r:(A0 × A3 × Int)):AV:=.tuple [.agg (B0 r.1),.agg (D3 r.2.1),.v (.int .i64 r.2.2)]
def c32 (c:A3) (r:(A0 × A3 × Int)):Prop:=C1 Tryz.prog [] 32 [.agg (D3 c)] (e32 r)
def e33 (r:(A0 × A3 × Int)):AV:=.tuple [.agg (B0 r.1),.agg (D3 r.2.1),.v (.int .i64 r.2.2)]
def d13 (kind:Int) (c:A3) (r:(A0 × A3 × Int)):Prop:=C1 Tryz.prog [] 33 [.v (.int .i64 kind),.agg (D3 c)] (e33 r)
def e34 (r:(Int × A3 × Int)):AV:=.tuple [.v (.int .u64 r.1),.agg (D3 r.2.1),.v (.int .i64 r.2.2)]
def b35 (c:A3) (r:(Int × A3 × Int)):Prop:=C1 Tryz.prog [] 34 [.agg (D3 c)] (e34 r)
def e35 (r:Int):AV:=.v (.int .i64 r)
def b8w (u:Int) (r:Int):Prop:=C1 Tryz.prog [] 35 [.v (.int .u64 u)] (e35 r)
def e36 (r:Bool):AV:=.v (.bool r)
def b1d (kind:Int) (v:A0) (r:Bool):Prop:=C1 Tryz.prog [] 36 [.v (.int .i64 kind),.agg (B0 v)] (e36 r)
def e37 (r:Bool):AV:=.v (.bool r)
def a8r (p:A5) (enum:Int) (num:Int) (r:Bool):Prop:=C1 Tryz.prog [] 37 [.agg (B7 p),.v (.int .i64 enum),.v (.int .u64 num)] (e37 r)
def e42 (r:Bool):AV:=.v (.bool r)
def d1t (kind:Int) (r:Bool):Prop:=C1 Tryz.prog [] 42 [.v (.int .i64 kind)] (e42 r)
def e44 (r:Int):AV:=.v (.int .i64 r)
def c8f (u:Int) (r:Int):Prop:=C1 Tryz.prog [] 44 [.v (.int .u64 u)] (e44 r)
def e45 (r:Bool):AV:=.v (.bool r)
def c2w (kind:Int) (v:A0) (r:Bool):Prop:=C1 Tryz.prog [] 45 [.v (.int .i64 kind),.agg (B0 v)] (e45 r)
def e47 (r:ByteArray):AV:=.v (.string r)
def a3l (u:Int) (r:ByteArray):Prop:=C1 Tryz.prog [] 47 [.v (.int .u64 u)] (e47 r)
def e48 (r:Int):AV:=.v (.int .u64 r)
def c2z (n:Int) (r:Int):Prop:=C1 Tryz.prog [] 48 [.v (.int .i64 n)] (e48 r)
def e49 (r:ByteArray):AV:=.v (.string r)
def b72 (u:Int) (r:ByteArray):Prop:=C1 Tryz.prog [] 49 [.v (.int .u64 u)] (e49 r)
def e50 (r:A0):AV:=.agg (B0 r)
def a77 (v:A0) (r:A0):Prop:=C1 Tryz.prog [] 50 [.agg (B0 v)] (e50 r)
def e52 (r:ByteArray):AV:=.v (.string r)
def c1d (u:Int) (r:ByteArray):Prop:=C1 Tryz.prog [] 52 [.v (.int .u64 u)] (e52 r)
def e55 (r:(Int × Bool)):AV:=.tuple [.v (.int .i64 r.1),.v (.bool r.2)]
def c2d (p:A5) (name:ByteArray) (r:(Int × Bool)):Prop:=C1 Tryz.prog [] 55 [.agg (B7 p),.v (.string name)] (e55 r)
def e56 (r:Int):AV:=.v (.int .i64 r)
def c79 (p:A5) (prog:Int) (v:A0) (r:Int):Prop:=C1 Tryz.prog [] 56 [.agg (B7 p),.v (.int .i64 prog),.agg (B0 v)] (e56 r)
def e57 (r:Bool):AV:=.v (.bool r)
def a6g (v:A0) (r:Bool):Prop:=C1 Tryz.prog [] 57 [.agg (B0 v)] (e57 r)
def e58 (r:E0):AV:=.tuple []
theorem g3q (r:E0):plain (e58 r)=true:=rfl
def Z6 (w:E0) (prog:Int) (v:A0) (r:E0):Prop:=b4b Tryz.prog [] 58 [.ptr 0 0,.v (.int .i64 prog),.agg (B0 v)] (M6 w) (a3j w) (e58 r) (M6 r) (a3j r)
def e59 (r:A0):AV:=.agg (B0 r)
def b05 (p:A5) (prog:Int) (v:A0) (r:A0):Prop:=C1 Tryz.prog [] 59 [.agg (B7 p),.v (.int .i64 prog),.agg (B0 v)] (e59 r)
def e60 (r:(A3 × Int)):AV:=.tuple [.agg (D3 r.1),.v (.int .i64 r.2)]
def c75 (data:ByteArray) (l:Y3) (r:(A3 × Int)):Prop:=C1 Tryz.prog [] 60 [.v (.string data),.agg (a6p l)] (e60 r)
def e61 (r:(A7 × (A0 × Int))):AV:=.tuple [.agg (B0 r.2.1),.v (.int .i64 r.2.2)]
theorem g14 (r:(A7 × (A0 × Int))):plain (e61 r)=true:=(c6m (A6 (B5 r.2.1) (A6 rfl rfl)))
def V9 (r_:A7) (prog:Int) (r:(A7 × (A0 × Int))):Prop:=b4b Tryz.prog [] 61 [.ptr 0 0,.v (.int .i64 prog)] (D0 r_) (J5 r_) (e61 r) (D0 r.1) (J5 r.1)
def e62 (r:Int):AV:=.v (.int .i64 r)
def a7q (c:A3) (r:Int):Prop:=C1 Tryz.prog [] 62 [.agg (D3 c)] (e62 r)
def e65 (r:Bool):AV:=.v (.bool r)
def c9a (v:A0) (r:Bool):Prop:=C1 Tryz.prog [] 65 [.agg (B0 v)] (e65 r)
def e66 (r:Int):AV:=.v (.int .i64 r)
def d26 (p:A5) (prog:Int) (v:A0) (level:Int) (r:Int):Prop:=C1 Tryz.prog [] 66 [.agg (B7 p),.v (.int .i64 prog),.agg (B0 v),.v (.int .i64 level)] (e66 r)
def e68 (r:ByteArray):AV:=.v (.string r)
def e0h (p:A5) (prog:Int) (v:A0) (r:ByteArray):Prop:=C1 Tryz.prog [] 68 [.agg (B7 p),.v (.int .i64 prog),.agg (B0 v)] (e68 r)
def e69 (r:Bool):AV:=.v (.bool r)
def b7u (p:A5) (r:Bool):Prop:=C1 Tryz.prog [] 69 [.agg (B7 p)] (e69 r)
def e70 (r:Bool):AV:=.v (.bool r)
def c0f (p:A5) (r:Bool):Prop:=C1 Tryz.prog [] 70 [.agg (B7 p)] (e70 r)
def e71 (r:Bool):AV:=.v (.bool r)
def b50 (p:A5) (r:Bool):Prop:=C1 Tryz.prog [] 71 [.agg (B7 p)] (e71 r)
def e72 (r:Bool):AV:=.v (.bool r)
def b7q (p:A5) (r:Bool):Prop:=C1 Tryz.prog [] 72 [.agg (B7 p)] (e72 r)
def e73 (r:Bool):AV:=.v (.bool r)
def b76 (p:A5) (r:Bool):Prop:=C1 Tryz.prog [] 73 [.agg (B7 p)] (e73 r)
def e74 (r:Bool):AV:=.v (.bool r)
def b1g (p:A5) (r:Bool):Prop:=C1 Tryz.prog [] 74 [.agg (B7 p)] (e74 r)
def e75 (r:Bool):AV:=.v (.bool r)
def b6p (p:A5) (r:Bool):Prop:=C1 Tryz.prog [] 75 [.agg (B7 p)] (e75 r)
def e76 (r:A3):AV:=.agg (D3 r)
def a5q (c:A3) (n:Int) (r:A3):Prop:=C1 Tryz.prog [] 76 [.agg (D3 c),.v (.int .i64 n)] (e76 r)
def e77 (r:(Int × A3 × Int)):AV:=.tuple [.v (.int .u64 r.1),.agg (D3 r.2.1),.v (.int .i64 r.2.2)]
def b67 (c:A3) (r:(Int × A3 × Int)):Prop:=C1 Tryz.prog [] 77 [.agg (D3 c)] (e77 r)
def e78 (r:(ByteArray × A3 × Int)):AV:=.tuple [.v (.string r.1),.agg (D3 r.2.1),.v (.int .i64 r.2.2)]
def c0d (c:A3) (n:Int) (r:(ByteArray × A3 × Int)):Prop:=C1 Tryz.prog [] 78 [.agg (D3 c),.v (.int .i64 n)] (e78 r)
def e79 (r:Bool):AV:=.v (.bool r)
def b7m (s:ByteArray) (r:Bool):Prop:=C1 Tryz.prog [] 79 [.v (.string s)] (e79 r)
def e80 (r:(Int × A3 × Int)):AV:=.tuple [.v (.int .u64 r.1),.agg (D3 r.2.1),.v (.int .i64 r.2.2)]
def b54 (c:A3) (r:(Int × A3 × Int)):Prop:=C1 Tryz.prog [] 80 [.agg (D3 c)] (e80 r)
def e81 (r:Int):AV:=.v (.int .i64 r)
def c35 (u:Int) (r:Int):Prop:=C1 Tryz.prog [] 81 [.v (.int .u64 u)] (e81 r)
def e82 (r:Bool):AV:=.v (.bool r)
def b6r (kind:Int) (r:Bool):Prop:=C1 Tryz.prog [] 82 [.v (.int .i64 kind)] (e82 r)
def e83 (r:Bool):AV:=.v (.bool r)
def b5f (v:A0) (r:Bool):Prop:=C1 Tryz.prog [] 83 [.agg (B0 v)] (e83 r)
def e84 (r:Bool):AV:=.v (.bool r)
def b5r (kind:Int) (bits:Int) (r:Bool):Prop:=C1 Tryz.prog [] 84 [.v (.int .i64 kind),.v (.int .u64 bits)] (e84 r)
def e85 (r:Bool):AV:=.v (.bool r)
def a0y (s:(List b24)) (f:GFn) (r:Bool):Prop:=C1 Tryz.prog [] 85 [.sl (List.map a2e s) .no,.clo (.func f.fn) f.fi f.cap] (e85 r)
def e86 (r:Bool):AV:=.v (.bool r)
def b9n (it:b24) (c1_:Int) (r:Bool):Prop:=C1 Tryz.prog [] 86 [.agg (a2e it),.elt (b66 c1_) 0] (e86 r)
def e89 (r:Bool):AV:=.v (.bool r)
def b56 (s:ByteArray) (r:Bool):Prop:=C1 Tryz.prog [] 89 [.v (.string s)] (e89 r)
def e95 (r:Bool):AV:=.v (.bool r)
def b8x (v:A0) (r:Bool):Prop:=C1 Tryz.prog [] 95 [.agg (B0 v)] (e95 r)
def e96 (r:Bool):AV:=.v (.bool r)
def c8n (kind:Int) (r:Bool):Prop:=C1 Tryz.prog [] 96 [.v (.int .i64 kind)] (e96 r)
def e97 (r:Int):AV:=.v (.int .i64 r)
def b18 (bits:Int) (r:Int):Prop:=C1 Tryz.prog [] 97 [.v (.int .u64 bits)] (e97 r)
def e99 (r:Int):AV:=.v (.int .i64 r)
def a2t (s:(List B6)) (f:GFn) (r:Int):Prop:=C1 Tryz.prog [] 99 [.sl (List.map E2 s) .no,.clo (.func f.fn) f.fi f.cap] (e99 r)
def h0s (r:Bool):AV:=.v (.bool r)
def c7u (g:B6) (c1_:ByteArray) (r:Bool):Prop:=C1 Tryz.prog [] 100 [.agg (E2 g),.elt (e5m c1_) 0] (h0s r)
def g2u (r:Int):AV:=.v (.int .i64 r)
def P4 (x:C9) (g:B6) (v:A0) (level:Int) (r:Int):Prop:=C1 Tryz.prog [] 101 [.agg (J8 x),.agg (E2 g),.agg (B0 v),.v (.int .i64 level)] (g2u r)
def g6p (r:Int):AV:=.v (.int .i64 r)
def b1u (v:A0) (r:Int):Prop:=C1 Tryz.prog [] 102 [.agg (B0 v)] (g6p r)
def g4t (r:E0):AV:=.tuple []
theorem f4p (r:E0):plain (g4t r)=true:=rfl
def Z0 (w:E0) (o_:GOp) (v:A0) (r:E0):Prop:=b4b Tryz.prog [] 103 [.ptr 0 0,.agg (W3 o_),.agg (B0 v)] (M6 w) (a3j w) (g4t r) (M6 r) (a3j r)
def g4q (r:E0):AV:=.tuple []
theorem f2l (r:E0):plain (g4q r)=true:=rfl
def W6 (w:E0) (s:ByteArray) (r:E0):Prop:=b4b Tryz.prog [] 104 [.ptr 0 0,.v (.string s)] (M6 w) (a3j w) (g4q r) (M6 r) (a3j r)
def g9b (r:(List Q0)):AV:=.sl (List.map T1 r) .no
def a9a (s:(List Q0)) (r:(List Q0)):Prop:=C1 Tryz.prog [] 105 [.sl (List.map T1 s) .no] (g9b r)
def b3a (s:(List Q0)):Prop:=f38 Tryz.prog T1 4 105 s
def g4d (r:(List (Int × A0))):AV:=.sl (List.map B3 r) .no
def b1c (l:(List (Int × A0))) (r:(List (Int × A0))):Prop:=C1 Tryz.prog [] 106 [.sl (List.map B3 l) .no] (g4d r)
def g9e (r:(GOp × Bool)):AV:=.tuple [.agg (W3 r.1),.v (.bool r.2)]
def b98 (g:B6) (num:Int) (r:(GOp × Bool)):Prop:=C1 Tryz.prog [] 107 [.agg (E2 g),.v (.int .i64 num)] (g9e r)
def g4n (r:A0):AV:=.agg (B0 r)
def b27 (p:A5) (o_:GOp) (v:A0) (r:A0):Prop:=C1 Tryz.prog [] 108 [.agg (B7 p),.agg (W3 o_),.agg (B0 v)] (g4n r)
def g96 (r:Bool):AV:=.v (.bool r)
def c3q (v:A0) (r:Bool):Prop:=C1 Tryz.prog [] 109 [.agg (B0 v)] (g96 r)
def Y1 (x1:GFn):Prop:=C1 Tryz.prog [] 110 [.sl [] .no,.clo (.func x1.fn) x1.fi x1.cap] (.tuple [])
def g9x (r:Int):AV:=.v (.int .i64 r)
def Q3 (x:Int) (y:Int) (r:Int):Prop:=C1 Tryz.prog [] 112 [.v (.int .i64 x),.v (.int .i64 y)] (g9x r)
def g39 (r:(A7 × Int)):AV:=.v (.int .i64 r.2)
theorem f4b (r:(A7 × Int)):plain (g39 r)=true:=rfl
def a1l (r_:A7) (n:Int) (r:(A7 × Int)):Prop:=b4b Tryz.prog [] 113 [.ptr 0 0,.v (.int .i64 n)] (D0 r_) (J5 r_) (g39 r) (D0 r.1) (J5 r.1)
def g4j (r:(A7 × (A0 × Int))):AV:=.tuple [.agg (B0 r.2.1),.v (.int .i64 r.2.2)]
theorem f3i (r:(A7 × (A0 × Int))):plain (g4j r)=true:=(c6m (A6 (B5 r.2.1) (A6 rfl rfl)))
def G2 (r_:A7) (o_:GOp) (r:(A7 × (A0 × Int))):Prop:=b4b Tryz.prog [] 114 [.ptr 0 0,.agg (W3 o_)] (D0 r_) (J5 r_) (g4j r) (D0 r.1) (J5 r.1)
def f9x (r:(A7 × (A0 × Int))):AV:=.tuple [.agg (B0 r.2.1),.v (.int .i64 r.2.2)]
theorem f4f (r:(A7 × (A0 × Int))):plain (f9x r)=true:=(c6m (A6 (B5 r.2.1) (A6 rfl rfl)))
def a0q (r_:A7) (o_:GOp) (r:(A7 × (A0 × Int))):Prop:=b4b Tryz.prog [] 115 [.ptr 0 0,.agg (W3 o_)] (D0 r_) (J5 r_) (f9x r) (D0 r.1) (J5 r.1)
def g2e (r:(A7 × (A0 × Int))):AV:=.tuple [.agg (B0 r.2.1),.v (.int .i64 r.2.2)]
theorem f4r (r:(A7 × (A0 × Int))):plain (g2e r)=true:=(c6m (A6 (B5 r.2.1) (A6 rfl rfl)))
def Y8 (r_:A7) (o_:GOp) (r:(A7 × (A0 × Int))):Prop:=b4b Tryz.prog [] 116 [.ptr 0 0,.agg (W3 o_)] (D0 r_) (J5 r_) (g2e r) (D0 r.1) (J5 r.1)
def g3l (r:(A7 × (A0 × Bool × Int))):AV:=.tuple [.agg (B0 r.2.1),.v (.bool r.2.2.1),.v (.int .i64 r.2.2.2)]
theorem f4k (r:(A7 × (A0 × Bool × Int))):plain (g3l r)=true:=(c6m (A6 (B5 r.2.1) (A6 rfl (A6 rfl rfl))))
def Y6 (r_:A7) (g:B6) (v:A0) (o_:GOp) (r:(A7 × (A0 × Bool × Int))):Prop:=b4b Tryz.prog [] 117 [.ptr 0 0,.agg (E2 g),.agg (B0 v),.agg (W3 o_)] (D0 r_) (J5 r_) (g3l r) (D0 r.1) (J5 r.1)
def g9s (r:Bool):AV:=.v (.bool r)
def b16 (c:A3) (r:Bool):Prop:=C1 Tryz.prog [] 118 [.agg (D3 c)] (g9s r)
def h0e (r:Bool):AV:=.v (.bool r)
def b65 (v:A0) (r:Bool):Prop:=C1 Tryz.prog [] 121 [.agg (B0 v)] (h0e r)
def g77 (r:Bool):AV:=.v (.bool r)
def b0d (s:ByteArray) (r:Bool):Prop:=C1 Tryz.prog [] 130 [.v (.string s)] (g77 r)
def h09 (r:Bool):AV:=.v (.bool r)
def b2d (s:ByteArray) (r:Bool):Prop:=C1 Tryz.prog [] 131 [.v (.string s)] (h09 r)
def g8j (r:Bool):AV:=.v (.bool r)
def b25 (l:(List b9b)) (n:Int) (r:Bool):Prop:=C1 Tryz.prog [] 132 [.sl (List.map b1b l) .no,.v (.int .i64 n)] (g8j r)
def g6x (r:Int):AV:=.v (.int .i64 r)
def c0a (l:(List b1x)) (target:Int) (r:Int):Prop:=C1 Tryz.prog [] 133 [.sl (List.map a7d l) .no,.v (.int .i64 target)] (g6x r)
def g6d (r:Bool):AV:=.v (.bool r)
def b7w (g:B6) (r:Bool):Prop:=C1 Tryz.prog [] 134 [.agg (E2 g)] (g6d r)
def g7b (r:Bool):AV:=.v (.bool r)
def b08 (p:A5) (o_:GOp) (r:Bool):Prop:=C1 Tryz.prog [] 135 [.agg (B7 p),.agg (W3 o_)] (g7b r)
def g5o (r:(Int × Int)):AV:=.tuple [.v (.int .u64 r.1),.v (.int .i64 r.2)]
def a9r (s:ByteArray) (r:(Int × Int)):Prop:=C1 Tryz.prog [] 136 [.v (.string s)] (g5o r)
def g9u (r:ByteArray):AV:=.v (.string r)
def b5e (c:A3) (n:Int) (r:ByteArray):Prop:=C1 Tryz.prog [] 137 [.agg (D3 c),.v (.int .i64 n)] (g9u r)
def g9m (r:(List Int)):AV:=.sl (List.map b0q r) .no
def c4s (c:A3) (n:Int) (r:(List Int)):Prop:=C1 Tryz.prog [] 138 [.agg (D3 c),.v (.int .i64 n)] (g9m r)
def g8x (r:Int):AV:=.v (.int .i64 r)
def e5r (s:ByteArray) (r:Int):Prop:=C1 Tryz.prog [] 139 [.v (.string s)] (g8x r)
def g83 (r:(Int × Int × Int)):AV:=.tuple [.v (.int .u64 r.1),.v (.int .i64 r.2.1),.v (.int .i64 r.2.2)]
def b9q (s:ByteArray) (r:(Int × Int × Int)):Prop:=C1 Tryz.prog [] 140 [.v (.string s)] (g83 r)
def h0o (r:Bool):AV:=.v (.bool r)
def b7p (kind:Int) (r:Bool):Prop:=C1 Tryz.prog [] 141 [.v (.int .i64 kind)] (h0o r)
def g8r (r:Int):AV:=.v (.int .i64 r)
def a21 (s:(List b24)) (f:GFn) (r:Int):Prop:=C1 Tryz.prog [] 142 [.sl (List.map a2e s) .no,.clo (.func f.fn) f.fi f.cap] (g8r r)
def g48 (r:Int):AV:=.v (.int .i64 r)
def d5a (s:ByteArray) (r:Int):Prop:=C1 Tryz.prog [] 143 [.v (.string s)] (g48 r)
def h0f (r:Bool):AV:=.v (.bool r)
def b01 (v:A0) (r:Bool):Prop:=C1 Tryz.prog [] 152 [.agg (B0 v)] (h0f r)
def g5g (r:Int):AV:=.v (.int .i64 r)
def a6h (x:C9) (g:B6) (l:(List (Int × A0))) (i:Int) (level:Int) (r:Int):Prop:=C1 Tryz.prog [] 153 [.agg (J8 x),.agg (E2 g),.sl (List.map B3 l) .no,.v (.int .i64 i),.v (.int .i64 level)] (g5g r)
def h07 (r:Bool):AV:=.v (.bool r)
def M7 (s:(List (Int × A0))) (f:GFn) (r:Bool):Prop:=C1 Tryz.prog [] 154 [.sl (List.map B3 s) .no,.clo (.func f.fn) f.fi f.cap] (h07 r)
def h0l (r:Bool):AV:=.v (.bool r)
def a53 (y:(Int × A0)) (c1_:GOp) (r:Bool):Prop:=C1 Tryz.prog [] 155 [.agg (W2 y),.elt (W3 c1_) 0] (h0l r)
def h04 (r:Int):AV:=.v (.int .i64 r)
def a7s (x:C9) (g:B6) (f:Q0) (r:Int):Prop:=C1 Tryz.prog [] 156 [.agg (J8 x),.agg (E2 g),.agg (T1 f)] (h04 r)
def g4h (r:(List A0)):AV:=.sl (List.map C0 r) .no
def b9t (v:A0) (r:(List A0)):Prop:=C1 Tryz.prog [] 157 [.agg (B0 v)] (g4h r)
def h0n (r:(List (Int × A0))):AV:=.sl (List.map B3 r) .no
def a6m (s:(List (Int × A0))) (r:(List (Int × A0))):Prop:=C1 Tryz.prog [] 158 [.sl (List.map B3 s) .no] (h0n r)
def a24 (s:(List (Int × A0))):Prop:=f38 Tryz.prog B3 8 158 s
def Q8 (n0:Nat) (x:(List (Int × A0))) (cmp:GFn) (r:(List (Int × A0))):Prop:=b96 Tryz.prog B3 8 159 n0 [.clo (.func cmp.fn) cmp.fi cmp.cap] x r
def W7 (x1:GFn):Prop:=C1 Tryz.prog [] 159 [.sl [] .no,.clo (.func x1.fn) x1.fi x1.cap] (.tuple [])
def g9d (r:Int):AV:=.v (.int .i64 r)
def c1h (a:(Int × A0)) (b:(Int × A0)) (r:Int):Prop:=C1 Tryz.prog [] 160 [.agg (W2 a),.agg (W2 b)] (g9d r)
def g9f (r:Bool):AV:=.v (.bool r)
def d3t (o_:GOp) (c1_:Int) (r:Bool):Prop:=C1 Tryz.prog [] 161 [.agg (W3 o_),.elt (a87 c1_) 0] (g9f r)
def h0t (r:(GOp × Bool)):AV:=.tuple [.agg (W3 r.1),.v (.bool r.2)]
def b9h (x:b20) (g:B6) (r:(GOp × Bool)):Prop:=C1 Tryz.prog [] 162 [.agg (b2w x),.agg (E2 g)] (h0t r)
def g93 (r:A0):AV:=.agg (B0 r)
def a6s (p:A5) (o_:GOp) (v:A0) (r:A0):Prop:=C1 Tryz.prog [] 163 [.agg (B7 p),.agg (W3 o_),.agg (B0 v)] (g93 r)
def g4p (r:(List (A0 × A0))):AV:=.sl (List.map B4 r) .no
def b5l (l:(List (A0 × A0))) (r:(List (A0 × A0))):Prop:=C1 Tryz.prog [] 164 [.sl (List.map B4 l) .no] (g4p r)
def g97 (r:Bool):AV:=.v (.bool r)
def a6t (v:A0) (r:Bool):Prop:=C1 Tryz.prog [] 165 [.agg (B0 v)] (g97 r)
def g9o (r:Bool):AV:=.v (.bool r)
def b5n (x:Int) (r:Bool):Prop:=C1 Tryz.prog [] 167 [.v (.int .i64 x)] (g9o r)
def g9i (r:(A3 × Int)):AV:=.tuple [.agg (D3 r.1),.v (.int .i64 r.2)]
def c4r (c:A3) (n:Int) (r:(A3 × Int)):Prop:=C1 Tryz.prog [] 168 [.agg (D3 c),.v (.int .i64 n)] (g9i r)
def g4u (r:(A7 × (Int × Int))):AV:=.tuple [.v (.int .i64 r.2.1),.v (.int .i64 r.2.2)]
theorem f2i (r:(A7 × (Int × Int))):plain (g4u r)=true:=(c6m (A6 rfl (A6 rfl rfl)))
def a4s (r_:A7) (r:(A7 × (Int × Int))):Prop:=b4b Tryz.prog [] 169 [.ptr 0 0] (D0 r_) (J5 r_) (g4u r) (D0 r.1) (J5 r.1)
def g99 (r:Int):AV:=.v (.int .i64 r)
def a8z (a:A0) (b:A0) (r:Int):Prop:=C1 Tryz.prog [] 170 [.agg (B0 a),.agg (B0 b)] (g99 r)
def g6s (r:Bool):AV:=.v (.bool r)
def b6w (s:ByteArray) (r:Bool):Prop:=C1 Tryz.prog [] 173 [.v (.string s)] (g6s r)
def g84 (r:(ByteArray × ByteArray)):AV:=.tuple [.v (.string r.1),.v (.string r.2)]
def b90 (full:ByteArray) (r:(ByteArray × ByteArray)):Prop:=C1 Tryz.prog [] 174 [.v (.string full)] (g84 r)
def h0z (r:Bool):AV:=.v (.bool r)
def b13 (s:ByteArray) (r:Bool):Prop:=C1 Tryz.prog [] 175 [.v (.string s)] (h0z r)
def g54 (r:Bool):AV:=.v (.bool r)
def a9g (s:ByteArray) (r:Bool):Prop:=C1 Tryz.prog [] 176 [.v (.string s)] (g54 r)
def g1t (r:Int):AV:=.v (.int .i64 r)
def b8o (name:ByteArray) (r:Int):Prop:=C1 Tryz.prog [] 177 [.v (.string name)] (g1t r)
def f88 (r:Bool):AV:=.v (.bool r)
def c3r (name:ByteArray) (target:Int) (r:Bool):Prop:=C1 Tryz.prog [] 178 [.v (.string name),.v (.int .i64 target)] (f88 r)
def h0r (r:Bool):AV:=.v (.bool r)
def c0v (n:b1x) (r:Bool):Prop:=C1 Tryz.prog [] 179 [.agg (a7d n)] (h0r r)
def h0x (r:Bool):AV:=.v (.bool r)
def b70 (p:A5) (o_:GOp) (r:Bool):Prop:=C1 Tryz.prog [] 180 [.agg (B7 p),.agg (W3 o_)] (h0x r)
def g92 (r:Bool):AV:=.v (.bool r)
def c7v (s:ByteArray) (at_:Int) (c:Int) (r:Bool):Prop:=C1 Tryz.prog [] 181 [.v (.string s),.v (.int .i64 at_),.v (.int .i32 c)] (g92 r)
def g9z (r:Int):AV:=.v (.int .i64 r)
def c4e (s:ByteArray) (i:Int) (r:Int):Prop:=C1 Tryz.prog [] 182 [.v (.string s),.v (.int .i64 i)] (g9z r)
def h05 (r:Bool):AV:=.v (.bool r)
def a90 (y:(Int × A0)) (c1_:GOp) (r:Bool):Prop:=C1 Tryz.prog [] 185 [.agg (W2 y),.elt (W3 c1_) 0] (h05 r)
def g6g (r:Int):AV:=.v (.int .i64 r)
def a49 (x:C9) (o_:GOp) (v:A0) (level:Int) (r:Int):Prop:=C1 Tryz.prog [] 186 [.agg (J8 x),.agg (W3 o_),.agg (B0 v),.v (.int .i64 level)] (g6g r)
def g55 (r:Int):AV:=.v (.int .i64 r)
def a2y (s:(List (Int × A0))) (f:GFn) (r:Int):Prop:=C1 Tryz.prog [] 187 [.sl (List.map B3 s) .no,.clo (.func f.fn) f.fi f.cap] (g55 r)
def a1s (s:(List A0)):Prop:=f85 Tryz.prog C0 7 188 s
def a0b (n0:Nat) (data:(List (Int × A0))) (n:Int) (cmp:GFn) (r:(List (Int × A0))):Prop:=b96 Tryz.prog B3 8 189 n0 [.v (.int .i64 n),.clo (.func cmp.fn) cmp.fi cmp.cap] data r
def g72 (r:Int):AV:=.v (.int .i64 r)
def a54 (s:(List GOp)) (f:GFn) (r:Int):Prop:=C1 Tryz.prog [] 190 [.sl (List.map W3 s) .no,.clo (.func f.fn) f.fi f.cap] (g72 r)
def g9h (r:(List (A0 × A0))):AV:=.sl (List.map B4 r) .no
def a6b (s:(List (A0 × A0))) (r:(List (A0 × A0))):Prop:=C1 Tryz.prog [] 191 [.sl (List.map B4 s) .no] (g9h r)
def a26 (s:(List (A0 × A0))):Prop:=f38 Tryz.prog B4 14 191 s
def Q9 (n0:Nat) (x:(List (A0 × A0))) (cmp:GFn) (r:(List (A0 × A0))):Prop:=b96 Tryz.prog B4 14 192 n0 [.clo (.func cmp.fn) cmp.fi cmp.cap] x r
def W5 (x1:GFn):Prop:=C1 Tryz.prog [] 192 [.sl [] .no,.clo (.func x1.fn) x1.fi x1.cap] (.tuple [])
def h03 (r:Int):AV:=.v (.int .i64 r)
def d1f (a:(A0 × A0)) (b:(A0 × A0)) (r:Int):Prop:=C1 Tryz.prog [] 193 [.agg (U4 a),.agg (U4 b)] (h03 r)
def h0p (r:Bool):AV:=.v (.bool r)
def b1n (a:A0) (b:A0) (r:Bool):Prop:=C1 Tryz.prog [] 194 [.agg (B0 a),.agg (B0 b)] (h0p r)
def g9y (r:b81):AV:=c78 r
def a8k (v:A0) (r:b81):Prop:=C1 Tryz.prog [] 197 [.agg (B0 v)] (g9y r)
def g9w (r:Int):AV:=.v (.int .i64 r)
def c2v (a:A0) (b:A0) (r:Int):Prop:=C1 Tryz.prog [] 198 [.agg (B0 a),.agg (B0 b)] (g9w r)
def g8l (r:Int):AV:=.v (.int .i64 r)
def J9 (s1_:(List A0)) (s2_:(List A0)) (cmp:GFn) (r:Int):Prop:=C1 Tryz.prog [] 199 [.sl (List.map C0 s1_) .no,.sl (List.map C0 s2_) .no,.clo (.func cmp.fn) cmp.fi cmp.cap] (g8l r)
def g73 (r:Int):AV:=.v (.int .i64 r)
def J7 (s1_:(List (A0 × A0))) (s2_:(List (A0 × A0))) (cmp:GFn) (r:Int):Prop:=C1 Tryz.prog [] 200 [.sl (List.map B4 s1_) .no,.sl (List.map B4 s2_) .no,.clo (.func cmp.fn) cmp.fi cmp.cap] (g73 r)
def h0a (r:Int):AV:=.v (.int .i64 r)
def d1u (a:(A0 × A0)) (b:(A0 × A0)) (r:Int):Prop:=C1 Tryz.prog [] 201 [.agg (U4 a),.agg (U4 b)] (h0a r)
def g7r (r:Int):AV:=.v (.int .i64 r)
def b04 (vals:(List Int)) (r:Int):Prop:=C1 Tryz.prog [] 202 [.sl (List.map a87 vals) .no] (g7r r)
def g5b (r:Int):AV:=.v (.int .i64 r)
def U3 (s1_:(List (Int × A0))) (s2_:(List (Int × A0))) (cmp:GFn) (r:Int):Prop:=C1 Tryz.prog [] 203 [.sl (List.map B3 s1_) .no,.sl (List.map B3 s2_) .no,.clo (.func cmp.fn) cmp.fi cmp.cap] (g5b r)
def h01 (r:Int):AV:=.v (.int .i64 r)
def d1m (a:(Int × A0)) (b:(Int × A0)) (r:Int):Prop:=C1 Tryz.prog [] 204 [.agg (W2 a),.agg (W2 b)] (h01 r)
def g6i (r:Int):AV:=.v (.int .i64 r)
def W8 (s1_:(List Q0)) (s2_:(List Q0)) (cmp:GFn) (r:Int):Prop:=C1 Tryz.prog [] 205 [.sl (List.map T1 s1_) .no,.sl (List.map T1 s2_) .no,.clo (.func cmp.fn) cmp.fi cmp.cap] (g6i r)
def g9k (r:Int):AV:=.v (.int .i64 r)
def c41 (a:Q0) (b:Q0) (r:Int):Prop:=C1 Tryz.prog [] 206 [.agg (T1 a),.agg (T1 b)] (g9k r)
def g9c (r:Bool):AV:=.v (.bool r)
def b5t (b:Int) (r:Bool):Prop:=C1 Tryz.prog [] 208 [.v (.int .u8 b)] (g9c r)
def h08 (r:Bool):AV:=.v (.bool r)
def b0h (b:Int) (r:Bool):Prop:=C1 Tryz.prog [] 209 [.v (.int .u8 b)] (h08 r)
def h0q (r:Bool):AV:=.v (.bool r)
def a7o (s:ByteArray) (prefix_:ByteArray) (r:Bool):Prop:=C1 Tryz.prog [] 210 [.v (.string s),.v (.string prefix_)] (h0q r)
def g8w (r:Bool):AV:=.v (.bool r)
def a3f (s:ByteArray) (i:Int) (n:Int) (r:Bool):Prop:=C1 Tryz.prog [] 211 [.v (.string s),.v (.int .i64 i),.v (.int .i64 n)] (g8w r)
def h0u (r:Bool):AV:=.v (.bool r)
def a1b (s:ByteArray) (i:Int) (lo:Int) (hi:Int) (r:Bool):Prop:=C1 Tryz.prog [] 212 [.v (.string s),.v (.int .i64 i),.v (.int .u8 lo),.v (.int .u8 hi)] (h0u r)
def h06 (r:Int):AV:=.v (.int .i64 r)
def Z5 (x:C9) (o_:GOp) (v:A0) (level:Int) (r:Int):Prop:=C1 Tryz.prog [] 214 [.agg (J8 x),.agg (W3 o_),.agg (B0 v),.v (.int .i64 level)] (h06 r)
def g63 (r:Int):AV:=.v (.int .i64 r)
def a2m (x:C9) (o_:GOp) (l:(List (A0 × A0))) (level:Int) (r:Int):Prop:=C1 Tryz.prog [] 215 [.agg (J8 x),.agg (W3 o_),.sl (List.map B4 l) .no,.v (.int .i64 level)] (g63 r)
def K0 (n0:Nat) (data:(List (Int × A0))) (a:Int) (b:Int) (cmp:GFn) (r:(List (Int × A0))):Prop:=b96 Tryz.prog B3 8 216 n0 [.v (.int .i64 a),.v (.int .i64 b),.clo (.func cmp.fn) cmp.fi cmp.cap] data r
def G7 (n0:Nat) (data:(List (Int × A0))) (a:Int) (m:Int) (b:Int) (cmp:GFn) (r:(List (Int × A0))):Prop:=b96 Tryz.prog B3 8 217 n0 [.v (.int .i64 a),.v (.int .i64 m),.v (.int .i64 b),.clo (.func cmp.fn) cmp.fi cmp.cap] data r
def a0e (n0:Nat) (data:(List (A0 × A0))) (n:Int) (cmp:GFn) (r:(List (A0 × A0))):Prop:=b96 Tryz.prog B4 14 218 n0 [.v (.int .i64 n),.clo (.func cmp.fn) cmp.fi cmp.cap] data r
def g9l (r:Int):AV:=.v (.int .i64 r)
def a14 (x:ByteArray) (y:ByteArray) (r:Int):Prop:=C1 Tryz.prog [] 220 [.v (.string x),.v (.string y)] (g9l r)
def h02 (r:Int):AV:=.v (.int .i64 r)
def Z3 (x:Int) (y:Int) (r:Int):Prop:=C1 Tryz.prog [] 221 [.v (.int .u64 x),.v (.int .u64 y)] (h02 r)
def h0i (r:Int):AV:=.v (.int .u64 r)
def b2l (bits:Int) (r:Int):Prop:=C1 Tryz.prog [] 222 [.v (.int .u64 bits)] (h0i r)
def g9n (r:Bool):AV:=.v (.bool r)
def a00 (s:ByteArray) (prefix_:ByteArray) (r:Bool):Prop:=C1 Tryz.prog [] 223 [.v (.string s),.v (.string prefix_)] (g9n r)
def h0h (r:Int):AV:=.v (.int .i64 r)
def a3i (x:C9) (kind:Int) (enum:Int) (v:A0) (r:Int):Prop:=C1 Tryz.prog [] 224 [.agg (J8 x),.v (.int .i64 kind),.v (.int .i64 enum),.agg (B0 v)] (h0h r)
def g9t (r:Bool):AV:=.v (.bool r)
def V2 (s:(List (A0 × A0))) (f:GFn) (r:Bool):Prop:=C1 Tryz.prog [] 225 [.sl (List.map B4 s) .no,.clo (.func f.fn) f.fi f.cap] (g9t r)
def h1a (r:Bool):AV:=.v (.bool r)
def a6o (q:(A0 × A0)) (c1_:(A0 × A0)) (r:Bool):Prop:=C1 Tryz.prog [] 226 [.agg (U4 q),.elt (U4 c1_) 0] (h1a r)
def a0d (n0:Nat) (data:(List (Int × A0))) (a:Int) (m:Int) (b:Int) (cmp:GFn) (r:(List (Int × A0))):Prop:=b96 Tryz.prog B3 8 227 n0 [.v (.int .i64 a),.v (.int .i64 m),.v (.int .i64 b),.clo (.func cmp.fn) cmp.fi cmp.cap] data r
def K2 (n0:Nat) (data:(List (A0 × A0))) (a:Int) (b:Int) (cmp:GFn) (r:(List (A0 × A0))):Prop:=b96 Tryz.prog B4 14 228 n0 [.v (.int .i64 a),.v (.int .i64 b),.clo (.func cmp.fn) cmp.fi cmp.cap] data r
def H1 (n0:Nat) (data:(List (A0 × A0))) (a:Int) (m:Int) (b:Int) (cmp:GFn) (r:(List (A0 × A0))):Prop:=b96 Tryz.prog B4 14 229 n0 [.v (.int .i64 a),.v (.int .i64 m),.v (.int .i64 b),.clo (.func cmp.fn) cmp.fi cmp.cap] data r
def g95 (r:Bool):AV:=.v (.bool r)
def a9m (x:ByteArray) (r:Bool):Prop:=C1 Tryz.prog [] 231 [.v (.string x)] (g95 r)
def g9p (r:Bool):AV:=.v (.bool r)
def a9q (x:Int) (r:Bool):Prop:=C1 Tryz.prog [] 232 [.v (.int .u64 x)] (g9p r)
def g8t (r:Int):AV:=.v (.int .i64 r)
def a2f (s:(List (A0 × A0))) (f:GFn) (r:Int):Prop:=C1 Tryz.prog [] 233 [.sl (List.map B4 s) .no,.clo (.func f.fn) f.fi f.cap] (g8t r)
def J0 (n0:Nat) (data:(List (Int × A0))) (a:Int) (b:Int) (n:Int) (cmp:GFn) (r:(List (Int × A0))):Prop:=b96 Tryz.prog B3 8 234 n0 [.v (.int .i64 a),.v (.int .i64 b),.v (.int .i64 n),.clo (.func cmp.fn) cmp.fi cmp.cap] data r
def a0f (n0:Nat) (data:(List (A0 × A0))) (a:Int) (m:Int) (b:Int) (cmp:GFn) (r:(List (A0 × A0))):Prop:=b96 Tryz.prog B4 14 235 n0 [.v (.int .i64 a),.v (.int .i64 m),.v (.int .i64 b),.clo (.func cmp.fn) cmp.fi cmp.cap] data r
def J3 (n0:Nat) (data:(List (A0 × A0))) (a:Int) (b:Int) (n:Int) (cmp:GFn) (r:(List (A0 × A0))):Prop:=b96 Tryz.prog B4 14 236 n0 [.v (.int .i64 a),.v (.int .i64 b),.v (.int .i64 n),.clo (.func cmp.fn) cmp.fi cmp.cap] data r
theorem pl9 {x0:A5}:plainL [.agg (B7 x0)]=true:=(A6 (F2 x0) rfl)
theorem h1o {x0:A5} {x1:GOp} {x2:A3}:plainL [.agg (B7 x0),.agg (W3 x1),.agg (D3 x2)]=true:=(A6 (F2 x0) (A6 (O7 x1) (A6 (C5 x2) rfl)))
theorem g9a {x0:A0}:plainL [.agg (B0 x0)]=true:=(A6 (B5 x0) rfl)
theorem g6b:plainL []=true:=rfl
theorem h2a {x0:A0}:plainL [.agg (B0 x0)]=true:=(A6 (B5 x0) rfl)
theorem h1u {x0:A5} {x1:ByteArray} {x2:A0}:plainL [.agg (B7 x0),.v (.string x1),.agg (B0 x2)]=true:=(A6 (F2 x0) (A6 rfl (A6 (B5 x2) rfl)))
theorem g91 {x0:A5} {x1:ByteArray} {x2:ByteArray} {x3:Y3}:plainL [.agg (B7 x0),.v (.string x1),.v (.string x2),.agg (a6p x3)]=true:=(A6 (F2 x0) (A6 rfl (A6 rfl (A6 (N8 x3) rfl))))
theorem g94:plainL []=true:=rfl
theorem g0s {x0:A0}:plainL [.agg (B0 x0)]=true:=(A6 (B5 x0) rfl)
theorem h2c {x0:A5}:plainL [.agg (B7 x0)]=true:=(A6 (F2 x0) rfl)
theorem h0c {x0:A3}:plainL [.agg (D3 x0)]=true:=(A6 (C5 x0) rfl)
theorem h1e {x0:A3}:plainL [.agg (D3 x0)]=true:=(A6 (C5 x0) rfl)
theorem h16 {x0:Int} {x1:A3}:plainL [.v (.int .i64 x0),.agg (D3 x1)]=true:=(A6 rfl (A6 (C5 x1) rfl))
theorem g7h {x0:A3}:plainL [.agg (D3 x0)]=true:=(A6 (C5 x0) rfl)
theorem h1y {x0:Int}:plainL [.v (.int .u64 x0)]=true:=(A6 rfl rfl)
theorem g6q {x0:Int} {x1:A0}:plainL [.v (.int .i64 x0),.agg (B0 x1)]=true:=(A6 rfl (A6 (B5 x1) rfl))
theorem g85 {x0:A5} {x1:Int} {x2:Int}:plainL [.agg (B7 x0),.v (.int .i64 x1),.v (.int .u64 x2)]=true:=(A6 (F2 x0) (A6 rfl (A6 rfl rfl)))
theorem g86 {x0:Int}:plainL [.v (.int .i64 x0)]=true:=(A6 rfl rfl)
theorem h1i {x0:Int} {x1:A0}:plainL [.v (.int .i64 x0),.agg (B0 x1)]=true:=(A6 rfl (A6 (B5 x1) rfl))
theorem f9s {x0:Int}:plainL [.v (.int .u64 x0)]=true:=(A6 rfl rfl)
theorem h1r {x0:Int}:plainL [.v (.int .i64 x0)]=true:=(A6 rfl rfl)
theorem h2j {x0:Int}:plainL [.v (.int .u64 x0)]=true:=(A6 rfl rfl)
theorem g38 {x0:A0}:plainL [.agg (B0 x0)]=true:=(A6 (B5 x0) rfl)
theorem h0m {x0:Int}:plainL [.v (.int .u64 x0)]=true:=(A6 rfl rfl)
theorem g88 {x0:A5} {x1:ByteArray}:plainL [.agg (B7 x0),.v (.string x1)]=true:=(A6 (F2 x0) (A6 rfl rfl))
theorem h2f {x0:A5} {x1:Int} {x2:A0}:plainL [.agg (B7 x0),.v (.int .i64 x1),.agg (B0 x2)]=true:=(A6 (F2 x0) (A6 rfl (A6 (B5 x2) rfl)))
theorem g4y {x0:A0}:plainL [.agg (B0 x0)]=true:=(A6 (B5 x0) rfl)
theorem f89 {x0:E0} {x1:Int} {x2:A0} {r:E0}:(M6 x0).all ok1=true /\ (M6 r).all ok1=true /\ List.all [.ptr 0 0,.v (.int .i64 x1),.agg (B0 x2)] okA=true /\ plain (e58 r)=true:=⟨a3m _,a3m _,F6 rfl (F6 (C3 rfl) (F6 (C3 (B5 x2)) rfl)),g3q r⟩
theorem h0g {x0:A5} {x1:Int} {x2:A0}:plainL [.agg (B7 x0),.v (.int .i64 x1),.agg (B0 x2)]=true:=(A6 (F2 x0) (A6 rfl (A6 (B5 x2) rfl)))
theorem h12 {x0:ByteArray} {x1:Y3}:plainL [.v (.string x0),.agg (a6p x1)]=true:=(A6 rfl (A6 (N8 x1) rfl))
theorem g01 {x0:A7} {x1:Int} {r:(A7 × (A0 × Int))}:(D0 x0).all ok1=true /\ (D0 r.1).all ok1=true /\ List.all [.ptr 0 0,.v (.int .i64 x1)] okA=true /\ plain (e61 r)=true:=⟨I8 _,I8 _,F6 rfl (F6 (C3 rfl) rfl),g14 r⟩
theorem g4w {x0:A3}:plainL [.agg (D3 x0)]=true:=(A6 (C5 x0) rfl)
theorem h1x {x0:A5}:plainL [.agg (B7 x0)]=true:=(A6 (F2 x0) rfl)
theorem h1f {x0:A5}:plainL [.agg (B7 x0)]=true:=(A6 (F2 x0) rfl)
theorem h1c {x0:A5}:plainL [.agg (B7 x0)]=true:=(A6 (F2 x0) rfl)
theorem h1g {x0:A5}:plainL [.agg (B7 x0)]=true:=(A6 (F2 x0) rfl)
theorem h14 {x0:A5}:plainL [.agg (B7 x0)]=true:=(A6 (F2 x0) rfl)
theorem h1s {x0:A5}:plainL [.agg (B7 x0)]=true:=(A6 (F2 x0) rfl)
theorem h1l {x0:A5}:plainL [.agg (B7 x0)]=true:=(A6 (F2 x0) rfl)
theorem g4o {x0:A3} {x1:Int}:plainL [.agg (D3 x0),.v (.int .i64 x1)]=true:=(A6 (C5 x0) (A6 rfl rfl))
theorem h1t {x0:A3}:plainL [.agg (D3 x0)]=true:=(A6 (C5 x0) rfl)
theorem h1h {x0:A3} {x1:Int}:plainL [.agg (D3 x0),.v (.int .i64 x1)]=true:=(A6 (C5 x0) (A6 rfl rfl))
theorem g5x {x0:ByteArray}:plainL [.v (.string x0)]=true:=(A6 rfl rfl)
theorem h1n {x0:A3}:plainL [.agg (D3 x0)]=true:=(A6 (C5 x0) rfl)
theorem h1b {x0:Int}:plainL [.v (.int .u64 x0)]=true:=(A6 rfl rfl)
theorem g4i {x0:Int}:plainL [.v (.int .i64 x0)]=true:=(A6 rfl rfl)
theorem g87 {x0:A0}:plainL [.agg (B0 x0)]=true:=(A6 (B5 x0) rfl)
theorem h19 {x0:Int} {x1:Int}:plainL [.v (.int .i64 x0),.v (.int .u64 x1)]=true:=(A6 rfl (A6 rfl rfl))
theorem h1m {x0:(List b24)} {x1:GFn}:plainL [.sl (List.map a2e x0) .no,.clo (.func x1.fn) x1.fi x1.cap]=true:=(A6 (psl (K6 x0)) (A6 (a0r x1) rfl))
theorem h0w {x0:ByteArray}:plainL [.v (.string x0)]=true:=(A6 rfl rfl)
theorem g9q {x0:A0}:plainL [.agg (B0 x0)]=true:=(A6 (B5 x0) rfl)
theorem h1d {x0:Int}:plainL [.v (.int .i64 x0)]=true:=(A6 rfl rfl)
theorem h0y {x0:Int}:plainL [.v (.int .u64 x0)]=true:=(A6 rfl rfl)
theorem h11 {x0:(List B6)} {x1:GFn}:plainL [.sl (List.map E2 x0) .no,.clo (.func x1.fn) x1.fi x1.cap]=true:=(A6 (psl (H7 x0)) (A6 (a0r x1) rfl))
theorem g09 {x0:C9} {x1:B6} {x2:A0} {x3:Int}:plainL [.agg (J8 x0),.agg (E2 x1),.agg (B0 x2),.v (.int .i64 x3)]=true:=(A6 (G0 x0) (A6 (G1 x1) (A6 (B5 x2) (A6 rfl rfl))))
theorem g23 {x0:A0}:plainL [.agg (B0 x0)]=true:=(A6 (B5 x0) rfl)
theorem d9t {x0:E0} {x1:GOp} {x2:A0} {r:E0}:(M6 x0).all ok1=true /\ (M6 r).all ok1=true /\ List.all [.ptr 0 0,.agg (W3 x1),.agg (B0 x2)] okA=true /\ plain (g4t r)=true:=⟨a3m _,a3m _,F6 rfl (F6 (C3 (O7 x1)) (F6 (C3 (B5 x2)) rfl)),f4p r⟩
theorem d0l {x0:E0} {x1:ByteArray} {r:E0}:(M6 x0).all ok1=true /\ (M6 r).all ok1=true /\ List.all [.ptr 0 0,.v (.string x1)] okA=true /\ plain (g4q r)=true:=⟨a3m _,a3m _,F6 rfl (F6 (C3 rfl) rfl),f2l r⟩
theorem g8u {x0:(List Q0)}:plainL [.sl (List.map T1 x0) .no]=true:=(A6 (psl (K3 x0)) rfl)
theorem g0c {x0:(List (Int × A0))}:plainL [.sl (List.map B3 x0) .no]=true:=(A6 (psl (E6 x0)) rfl)
theorem e24 {x0:B6} {x1:Int}:plainL [.agg (E2 x0),.v (.int .i64 x1)]=true:=(A6 (G1 x0) (A6 rfl rfl))
theorem g6e {x0:A5} {x1:GOp} {x2:A0}:plainL [.agg (B7 x0),.agg (W3 x1),.agg (B0 x2)]=true:=(A6 (F2 x0) (A6 (O7 x1) (A6 (B5 x2) rfl)))
theorem g5j {x0:A0}:plainL [.agg (B0 x0)]=true:=(A6 (B5 x0) rfl)
theorem g3y {x1:GFn}:plainL [.sl [] .no,.clo (.func x1.fn) x1.fi x1.cap]=true:=(A6 rfl (A6 (a0r x1) rfl))
theorem d6k {x0:Int} {x1:Int}:plainL [.v (.int .i64 x0),.v (.int .i64 x1)]=true:=(A6 rfl (A6 rfl rfl))
theorem e2h {x0:A7} {x1:Int} {r:(A7 × Int)}:(D0 x0).all ok1=true /\ (D0 r.1).all ok1=true /\ List.all [.ptr 0 0,.v (.int .i64 x1)] okA=true /\ plain (g39 r)=true:=⟨I8 _,I8 _,F6 rfl (F6 (C3 rfl) rfl),f4b r⟩
theorem c8e {x0:A7} {x1:GOp} {r:(A7 × (A0 × Int))}:(D0 x0).all ok1=true /\ (D0 r.1).all ok1=true /\ List.all [.ptr 0 0,.agg (W3 x1)] okA=true /\ plain (g4j r)=true:=⟨I8 _,I8 _,F6 rfl (F6 (C3 (O7 x1)) rfl),f3i r⟩
theorem e5i {x0:A7} {x1:GOp} {r:(A7 × (A0 × Int))}:(D0 x0).all ok1=true /\ (D0 r.1).all ok1=true /\ List.all [.ptr 0 0,.agg (W3 x1)] okA=true /\ plain (f9x r)=true:=⟨I8 _,I8 _,F6 rfl (F6 (C3 (O7 x1)) rfl),f4f r⟩
theorem e7a {x0:A7} {x1:GOp} {r:(A7 × (A0 × Int))}:(D0 x0).all ok1=true /\ (D0 r.1).all ok1=true /\ List.all [.ptr 0 0,.agg (W3 x1)] okA=true /\ plain (g2e r)=true:=⟨I8 _,I8 _,F6 rfl (F6 (C3 (O7 x1)) rfl),f4r r⟩
theorem e3r {x0:A7} {x1:B6} {x2:A0} {x3:GOp} {r:(A7 × (A0 × Bool × Int))}:(D0 x0).all ok1=true /\ (D0 r.1).all ok1=true /\ List.all [.ptr 0 0,.agg (E2 x1),.agg (B0 x2),.agg (W3 x3)] okA=true /\ plain (g3l r)=true:=⟨I8 _,I8 _,F6 rfl (F6 (C3 (G1 x1)) (F6 (C3 (B5 x2)) (F6 (C3 (O7 x3)) rfl))),f4k r⟩
theorem f9b {x0:A3}:plainL [.agg (D3 x0)]=true:=(A6 (C5 x0) rfl)
theorem g82 {x0:A0}:plainL [.agg (B0 x0)]=true:=(A6 (B5 x0) rfl)
theorem f9v {x0:ByteArray}:plainL [.v (.string x0)]=true:=(A6 rfl rfl)
theorem g1o {x0:ByteArray}:plainL [.v (.string x0)]=true:=(A6 rfl rfl)
theorem g41 {x0:(List b9b)} {x1:Int}:plainL [.sl (List.map b1b x0) .no,.v (.int .i64 x1)]=true:=(A6 (psl (N9 x0)) (A6 rfl rfl))
theorem g4z {x0:(List b1x)} {x1:Int}:plainL [.sl (List.map a7d x0) .no,.v (.int .i64 x1)]=true:=(A6 (psl (K7 x0)) (A6 rfl rfl))
theorem g7m {x0:B6}:plainL [.agg (E2 x0)]=true:=(A6 (G1 x0) rfl)
theorem g7i {x0:A5} {x1:GOp}:plainL [.agg (B7 x0),.agg (W3 x1)]=true:=(A6 (F2 x0) (A6 (O7 x1) rfl))
theorem g81 {x0:ByteArray}:plainL [.v (.string x0)]=true:=(A6 rfl rfl)
theorem g0o {x0:A3} {x1:Int}:plainL [.agg (D3 x0),.v (.int .i64 x1)]=true:=(A6 (C5 x0) (A6 rfl rfl))
theorem g76 {x0:A3} {x1:Int}:plainL [.agg (D3 x0),.v (.int .i64 x1)]=true:=(A6 (C5 x0) (A6 rfl rfl))
theorem g7g {x0:ByteArray}:plainL [.v (.string x0)]=true:=(A6 rfl rfl)
theorem g8e {x0:ByteArray}:plainL [.v (.string x0)]=true:=(A6 rfl rfl)
theorem g3r {x0:Int}:plainL [.v (.int .i64 x0)]=true:=(A6 rfl rfl)
theorem g6t {x0:(List b24)} {x1:GFn}:plainL [.sl (List.map a2e x0) .no,.clo (.func x1.fn) x1.fi x1.cap]=true:=(A6 (psl (K6 x0)) (A6 (a0r x1) rfl))
theorem g8q {x0:ByteArray}:plainL [.v (.string x0)]=true:=(A6 rfl rfl)
theorem f1l {x0:A0}:plainL [.agg (B0 x0)]=true:=(A6 (B5 x0) rfl)
theorem g8d {x0:C9} {x1:B6} {x2:(List (Int × A0))} {x3:Int} {x4:Int}:plainL [.agg (J8 x0),.agg (E2 x1),.sl (List.map B3 x2) .no,.v (.int .i64 x3),.v (.int .i64 x4)]=true:=(A6 (G0 x0) (A6 (G1 x1) (A6 (psl (E6 x2)) (A6 rfl (A6 rfl rfl)))))
theorem g0x {x0:(List (Int × A0))} {x1:GFn}:plainL [.sl (List.map B3 x0) .no,.clo (.func x1.fn) x1.fi x1.cap]=true:=(A6 (psl (E6 x0)) (A6 (a0r x1) rfl))
theorem g78 {x0:C9} {x1:B6} {x2:Q0}:plainL [.agg (J8 x0),.agg (E2 x1),.agg (T1 x2)]=true:=(A6 (G0 x0) (A6 (G1 x1) (A6 (T5 x2) rfl)))
theorem g7k {x0:A0}:plainL [.agg (B0 x0)]=true:=(A6 (B5 x0) rfl)
theorem g7d {x0:(List (Int × A0))}:plainL [.sl (List.map B3 x0) .no]=true:=(A6 (psl (E6 x0)) rfl)
theorem g0d {x1:GFn}:List.all [.clo (.func x1.fn) x1.fi x1.cap] okA=true:=(F6 (C3 (a0r x1)) rfl)
theorem g2g {x1:GFn}:plainL [.sl [] .no,.clo (.func x1.fn) x1.fi x1.cap]=true:=(A6 rfl (A6 (a0r x1) rfl))
theorem g8o {x0:b20} {x1:B6}:plainL [.agg (b2w x0),.agg (E2 x1)]=true:=(A6 (a0n x0) (A6 (G1 x1) rfl))
theorem f6p {x0:A5} {x1:GOp} {x2:A0}:plainL [.agg (B7 x0),.agg (W3 x1),.agg (B0 x2)]=true:=(A6 (F2 x0) (A6 (O7 x1) (A6 (B5 x2) rfl)))
theorem g8f {x0:(List (A0 × A0))}:plainL [.sl (List.map B4 x0) .no]=true:=(A6 (psl (E5 x0)) rfl)
theorem g1e {x0:A0}:plainL [.agg (B0 x0)]=true:=(A6 (B5 x0) rfl)
theorem g0p {x0:Int}:plainL [.v (.int .i64 x0)]=true:=(A6 rfl rfl)
theorem g5p {x0:A3} {x1:Int}:plainL [.agg (D3 x0),.v (.int .i64 x1)]=true:=(A6 (C5 x0) (A6 rfl rfl))
theorem f3z {x0:A7} {r:(A7 × (Int × Int))}:(D0 x0).all ok1=true /\ (D0 r.1).all ok1=true /\ List.all [.ptr 0 0] okA=true /\ plain (g4u r)=true:=⟨I8 _,I8 _,F6 rfl rfl,f2i r⟩
theorem e0o {x0:A0} {x1:A0}:plainL [.agg (B0 x0),.agg (B0 x1)]=true:=(A6 (B5 x0) (A6 (B5 x1) rfl))
theorem g5t {x0:ByteArray}:plainL [.v (.string x0)]=true:=(A6 rfl rfl)
theorem g5l {x0:ByteArray}:plainL [.v (.string x0)]=true:=(A6 rfl rfl)
theorem g2i {x0:ByteArray}:plainL [.v (.string x0)]=true:=(A6 rfl rfl)
theorem f6j {x0:ByteArray}:plainL [.v (.string x0)]=true:=(A6 rfl rfl)
theorem f9c {x0:ByteArray}:plainL [.v (.string x0)]=true:=(A6 rfl rfl)
theorem g67 {x0:ByteArray} {x1:Int}:plainL [.v (.string x0),.v (.int .i64 x1)]=true:=(A6 rfl (A6 rfl rfl))
theorem g68 {x0:b1x}:plainL [.agg (a7d x0)]=true:=(A6 (P6 x0) rfl)
theorem g70 {x0:A5} {x1:GOp}:plainL [.agg (B7 x0),.agg (W3 x1)]=true:=(A6 (F2 x0) (A6 (O7 x1) rfl))
theorem g6k {x0:ByteArray} {x1:Int} {x2:Int}:plainL [.v (.string x0),.v (.int .i64 x1),.v (.int .i32 x2)]=true:=(A6 rfl (A6 rfl (A6 rfl rfl)))
theorem g6c {x0:ByteArray} {x1:Int}:plainL [.v (.string x0),.v (.int .i64 x1)]=true:=(A6 rfl (A6 rfl rfl))
theorem g7e {x0:C9} {x1:GOp} {x2:A0} {x3:Int}:plainL [.agg (J8 x0),.agg (W3 x1),.agg (B0 x2),.v (.int .i64 x3)]=true:=(A6 (G0 x0) (A6 (O7 x1) (A6 (B5 x2) (A6 rfl rfl))))
theorem g61 {x0:(List (Int × A0))} {x1:GFn}:plainL [.sl (List.map B3 x0) .no,.clo (.func x1.fn) x1.fi x1.cap]=true:=(A6 (psl (E6 x0)) (A6 (a0r x1) rfl))
theorem g2j {x1:Int} {x2:GFn}:List.all [.v (.int .i64 x1),.clo (.func x2.fn) x2.fi x2.cap] okA=true:=(F6 (C3 rfl) (F6 (C3 (a0r x2)) rfl))
theorem g5c {x0:(List GOp)} {x1:GFn}:plainL [.sl (List.map W3 x0) .no,.clo (.func x1.fn) x1.fi x1.cap]=true:=(A6 (psl (T4 x0)) (A6 (a0r x1) rfl))
theorem g8b {x0:(List (A0 × A0))}:plainL [.sl (List.map B4 x0) .no]=true:=(A6 (psl (E5 x0)) rfl)
theorem f97 {x1:GFn}:List.all [.clo (.func x1.fn) x1.fi x1.cap] okA=true:=(F6 (C3 (a0r x1)) rfl)
theorem g22 {x1:GFn}:plainL [.sl [] .no,.clo (.func x1.fn) x1.fi x1.cap]=true:=(A6 rfl (A6 (a0r x1) rfl))
theorem f6f {x0:A0} {x1:A0}:plainL [.agg (B0 x0),.agg (B0 x1)]=true:=(A6 (B5 x0) (A6 (B5 x1) rfl))
theorem f93 {x0:A0}:plainL [.agg (B0 x0)]=true:=(A6 (B5 x0) rfl)
theorem g7y {x0:A0} {x1:A0}:plainL [.agg (B0 x0),.agg (B0 x1)]=true:=(A6 (B5 x0) (A6 (B5 x1) rfl))
theorem g7n {x0:(List A0)} {x1:(List A0)} {x2:GFn}:plainL [.sl (List.map C0 x0) .no,.sl (List.map C0 x1) .no,.clo (.func x2.fn) x2.fi x2.cap]=true:=(A6 (psl (F1 x0)) (A6 (psl (F1 x1)) (A6 (a0r x2) rfl)))
theorem g8m {x0:(List (A0 × A0))} {x1:(List (A0 × A0))} {x2:GFn}:plainL [.sl (List.map B4 x0) .no,.sl (List.map B4 x1) .no,.clo (.func x2.fn) x2.fi x2.cap]=true:=(A6 (psl (E5 x0)) (A6 (psl (E5 x1)) (A6 (a0r x2) rfl)))
theorem e8y {x0:(List Int)}:plainL [.sl (List.map a87 x0) .no]=true:=(A6 (psl (F9 x0)) rfl)
theorem g8c {x0:(List (Int × A0))} {x1:(List (Int × A0))} {x2:GFn}:plainL [.sl (List.map B3 x0) .no,.sl (List.map B3 x1) .no,.clo (.func x2.fn) x2.fi x2.cap]=true:=(A6 (psl (E6 x0)) (A6 (psl (E6 x1)) (A6 (a0r x2) rfl)))
theorem g8k {x0:(List Q0)} {x1:(List Q0)} {x2:GFn}:plainL [.sl (List.map T1 x0) .no,.sl (List.map T1 x1) .no,.clo (.func x2.fn) x2.fi x2.cap]=true:=(A6 (psl (K3 x0)) (A6 (psl (K3 x1)) (A6 (a0r x2) rfl)))
theorem f92 {x0:Int}:plainL [.v (.int .u8 x0)]=true:=(A6 rfl rfl)
theorem g2h {x0:Int}:plainL [.v (.int .u8 x0)]=true:=(A6 rfl rfl)
theorem g7x {x0:ByteArray} {x1:ByteArray}:plainL [.v (.string x0),.v (.string x1)]=true:=(A6 rfl (A6 rfl rfl))
theorem d6i {x0:ByteArray} {x1:Int} {x2:Int}:plainL [.v (.string x0),.v (.int .i64 x1),.v (.int .i64 x2)]=true:=(A6 rfl (A6 rfl (A6 rfl rfl)))
theorem e11 {x0:ByteArray} {x1:Int} {x2:Int} {x3:Int}:plainL [.v (.string x0),.v (.int .i64 x1),.v (.int .u8 x2),.v (.int .u8 x3)]=true:=(A6 rfl (A6 rfl (A6 rfl (A6 rfl rfl))))
theorem f5o {x0:C9} {x1:GOp} {x2:A0} {x3:Int}:plainL [.agg (J8 x0),.agg (W3 x1),.agg (B0 x2),.v (.int .i64 x3)]=true:=(A6 (G0 x0) (A6 (O7 x1) (A6 (B5 x2) (A6 rfl rfl))))
theorem g58 {x0:C9} {x1:GOp} {x2:(List (A0 × A0))} {x3:Int}:plainL [.agg (J8 x0),.agg (W3 x1),.sl (List.map B4 x2) .no,.v (.int .i64 x3)]=true:=(A6 (G0 x0) (A6 (O7 x1) (A6 (psl (E5 x2)) (A6 rfl rfl))))
theorem f30 {x1:Int} {x2:Int} {x3:GFn}:List.all [.v (.int .i64 x1),.v (.int .i64 x2),.clo (.func x3.fn) x3.fi x3.cap] okA=true:=(F6 (C3 rfl) (F6 (C3 rfl) (F6 (C3 (a0r x3)) rfl)))
theorem d8m {x1:Int} {x2:Int} {x3:Int} {x4:GFn}:List.all [.v (.int .i64 x1),.v (.int .i64 x2),.v (.int .i64 x3),.clo (.func x4.fn) x4.fi x4.cap] okA=true:=(F6 (C3 rfl) (F6 (C3 rfl) (F6 (C3 rfl) (F6 (C3 (a0r x4)) rfl))))
theorem g3g {x1:Int} {x2:GFn}:List.all [.v (.int .i64 x1),.clo (.func x2.fn) x2.fi x2.cap] okA=true:=(F6 (C3 rfl) (F6 (C3 (a0r x2)) rfl))
theorem g32 {x0:ByteArray} {x1:ByteArray}:plainL [.v (.string x0),.v (.string x1)]=true:=(A6 rfl (A6 rfl rfl))
theorem f70 {x0:Int} {x1:Int}:plainL [.v (.int .u64 x0),.v (.int .u64 x1)]=true:=(A6 rfl (A6 rfl rfl))
theorem g0a {x0:Int}:plainL [.v (.int .u64 x0)]=true:=(A6 rfl rfl)
theorem g40 {x0:ByteArray} {x1:ByteArray}:plainL [.v (.string x0),.v (.string x1)]=true:=(A6 rfl (A6 rfl rfl))
theorem f9f {x0:C9} {x1:Int} {x2:Int} {x3:A0}:plainL [.agg (J8 x0),.v (.int .i64 x1),.v (.int .i64 x2),.agg (B0 x3)]=true:=(A6 (G0 x0) (A6 rfl (A6 rfl (A6 (B5 x3) rfl))))
theorem g7s {x0:(List (A0 × A0))} {x1:GFn}:plainL [.sl (List.map B4 x0) .no,.clo (.func x1.fn) x1.fi x1.cap]=true:=(A6 (psl (E5 x0)) (A6 (a0r x1) rfl))
theorem f9a {x1:Int} {x2:Int} {x3:Int} {x4:GFn}:List.all [.v (.int .i64 x1),.v (.int .i64 x2),.v (.int .i64 x3),.clo (.func x4.fn) x4.fi x4.cap] okA=true:=(F6 (C3 rfl) (F6 (C3 rfl) (F6 (C3 rfl) (F6 (C3 (a0r x4)) rfl))))
theorem f31 {x1:Int} {x2:Int} {x3:GFn}:List.all [.v (.int .i64 x1),.v (.int .i64 x2),.clo (.func x3.fn) x3.fi x3.cap] okA=true:=(F6 (C3 rfl) (F6 (C3 rfl) (F6 (C3 (a0r x3)) rfl)))
theorem d9k {x1:Int} {x2:Int} {x3:Int} {x4:GFn}:List.all [.v (.int .i64 x1),.v (.int .i64 x2),.v (.int .i64 x3),.clo (.func x4.fn) x4.fi x4.cap] okA=true:=(F6 (C3 rfl) (F6 (C3 rfl) (F6 (C3 rfl) (F6 (C3 (a0r x4)) rfl))))
theorem g3c {x0:ByteArray}:plainL [.v (.string x0)]=true:=(A6 rfl rfl)
theorem f98 {x0:Int}:plainL [.v (.int .u64 x0)]=true:=(A6 rfl rfl)
theorem g52 {x0:(List (A0 × A0))} {x1:GFn}:plainL [.sl (List.map B4 x0) .no,.clo (.func x1.fn) x1.fi x1.cap]=true:=(A6 (psl (E5 x0)) (A6 (a0r x1) rfl))
theorem e4p {x1:Int} {x2:Int} {x3:Int} {x4:GFn}:List.all [.v (.int .i64 x1),.v (.int .i64 x2),.v (.int .i64 x3),.clo (.func x4.fn) x4.fi x4.cap] okA=true:=(F6 (C3 rfl) (F6 (C3 rfl) (F6 (C3 rfl) (F6 (C3 (a0r x4)) rfl))))
theorem g37 {x1:Int} {x2:Int} {x3:Int} {x4:GFn}:List.all [.v (.int .i64 x1),.v (.int .i64 x2),.v (.int .i64 x3),.clo (.func x4.fn) x4.fi x4.cap] okA=true:=(F6 (C3 rfl) (F6 (C3 rfl) (F6 (C3 rfl) (F6 (C3 (a0r x4)) rfl))))
theorem e3o {x1:Int} {x2:Int} {x3:Int} {x4:GFn}:List.all [.v (.int .i64 x1),.v (.int .i64 x2),.v (.int .i64 x3),.clo (.func x4.fn) x4.fi x4.cap] okA=true:=(F6 (C3 rfl) (F6 (C3 rfl) (F6 (C3 rfl) (F6 (C3 (a0r x4)) rfl))))
section
attribute [local irreducible] Ok run put c9l br jn pos dr0 dr1 So
attribute [-simp] List.map_take List.map_drop List.map_append List.map_set List.map_replicate List.map_cons List.map_map
attribute [local simp] plain plainL a9l a6x Z8 low lowL lowLL K8 G3 G8 F9 K1 H3 G5 G4 L7 T7 a0m T6 a1o O7 T4 G1 H7 T5 K3 B5 F1 O6 E5 O2 E6 P6 K7 S0 K6 U8 N9 W0 Q5 F2 S5 K5 H8 C5 M4 N8 O9 H4 F7 X1 U1 Z1 W1 G0 Q7 a0n a0c a57 a3c c5a d58 c7s c7e a87 b0q c8j c8d b66 c1n e5m eFn b8u b3y b39 b3k b84 b40 b3o b4e b80 c21 c4n b30 b82 b0y b33 b34 b4h b4o b4c b4m b3s a5s a7v a7t a0l a7j a7g a29 a75 b0w c4c b8h b8j b4j b43 b3z b8f b3f b4d b4u b8t c4i c26 b4v b8s b0t b4r b3x b3l b4y b4q b41 b45 a5r a7h a7l a0p a7x a71 a3b a7y b03 c4j b3p b8q b0u b4k b36 b3h b4t b4f b42 b4s a5j a7i a7w a0t a74 a7n a3h a72 b02 d0c
theorem f83 (r:Bool):plain (e7 r)=true:=rfl
theorem c2a (p:A5) (name:ByteArray) (v:A0) (q:a1c) (r:Bool) (hw:∃y1,b7j p y1 /\ (∃R1:Bool ->Prop,(∀bz1:Bool,R1 bz1 ->((bz1=true ->r=true) /\ (bz1=false ->∃y3,c24 p name v y3 /\ ((((y3.2 !=0)||(decide (3000<(y3.1.size:Int))))=true ->∃y4,b09 y4 /\ (r=y4)) /\ (((y3.2 !=0)||(decide (3000<(y3.1.size:Int))))=false ->∃y5,([(IntKind.u8.wrap q.a1)]:List Int)=bI y5 /\ (((y3.1.size+y5.size:Nat):Int)<=9223372036854775807 /\ (∃y6,b5o y6 /\ (∃y7,b79 p name (y3.1++y5) y6 y7 /\ (((y7.2 !=18)=true ->r=false) /\ ((y7.2 !=18)=false ->((decide (y3.1=(⟨#[]⟩:ByteArray)))=true ->∃y8,b09 y8 /\ (r=y8)) /\ ((decide (y3.1=(⟨#[]⟩:ByteArray)))=false ->(y3.1.size:Int)≠0 /\ ((0<=(0:Int) /\ (0:Int)<=((wI q.a0).tmod (y3.1.size:Int)) /\ ((wI q.a0).tmod (y3.1.size:Int))<=(y3.1.size:Int)) /\ (∃y9,b5o y9 /\ (∃y10,b79 p name (y3.1.extract (0:Int).toNat ((wI q.a0).tmod (y3.1.size:Int)).toNat) y9 y10 /\ (((y10.2==4)=true ->∃y11,b09 y11 /\ (r=y11)) /\ ((y10.2==4)=false ->r=false)))))))))))))))) /\ (((!y1)=true ->R1 true) /\ ((!y1)=false ->∃y2,c0m v y2 /\ (R1 (!y2)))))):c1w p name v q r:=
 fP (KC 12 hw pl9 fun _ hw=>KQ 2 4 kB hw (fun _ hw=>KW 2 hw (fun _ hw=>KR 7 hw f83) fun _ hw=>KC 7 hw h1u fun _ hw=>KT 13 4<|KW 2 hw (fun _ hw=>KC 2 hw g6b fun _ hw=>KR 5 hw f83) fun _ hw=>KD 3 [0,2]<|KS 7 hw fun _ hw=>g4s 0 hw fun hw=>KC 0 hw g94 fun _ hw=>KC 0 hw g91 fun _ hw=>KW 14 hw (fun _ hw=>KR 7 hw f83) fun _ hw=>KW 9 hw (fun _ hw=>KC 2 hw g6b fun _ hw=>KR 5 hw f83) fun _ hw=>KD 3 [0,2]<|KB 8 hw fun hw=>KSS 0 hw fun hw=>KC 0 hw g94 fun _ hw=>KC 0 hw g91 fun _ hw=>KW 12 hw (fun _ hw=>KC 0 hw g6b fun _ hw=>KR 5 hw f83) fun _ hw=>KR 6 hw f83) (fun _ key _ hw=>KE 4 key hw) fun _ key _ hw=>KC 1 hw h2a fun _ hw=>KE 2 key hw)
theorem h0k (r:Bool):plain (e9 r)=true:=rfl
theorem b4p (p:A5) (r:Bool) (hw:(((decide ((p.Progs.length:Int)<=8))&&(decide ((p.Enums.length:Int)<=8)))=true ->∃y1,c0s p y1 /\ (r=(y1==0))) /\ (((decide ((p.Progs.length:Int)<=8))&&(decide ((p.Enums.length:Int)<=8)))=false ->r=false)):b7j p r:=
 fP (KL 10 P3 p.Progs<|KT2 2 5 (decide ((p.Progs.length:Int)<=8)) (fun z=>aB (z&&(decide ((p.Enums.length:Int)<=8)))) (fun _ key=>KL 2 a0i p.Enums<|KE2 2 key) (fun _ key=>KE2 5 key)<|KW 1 hw (fun _ hw=>KC 1 hw h2c fun _ hw=>KR 6 hw h0k) fun _ hw=>KR 8 hw h0k)
theorem c9n (r:(A0 × A3 × Int)):plain (e10 r)=true:=(c6m (A6 (B5 r.1) (A6 (C5 r.2.1) (A6 rfl rfl))))
def a8i (y17:(Int × A3 × Int)) (p:A5) (o_:GOp) (c:A3) (ij5:Int) (r:(A0 × A3 × Int)):Prop:=J Tryz.prog 10 (.ret (e10 r)) 28 [(15,.ptr 6 0),(12,aU y17.1),(13,.ptr 5 0),(7,.ptr 4 0),(6,.ptr 3 0),(5,.ptr 2 0),(4,.ptr 1 0),(3,.ptr 0 0)] ⟨[some (B7 p),some (W3 o_),some (D3 c),some zV,some [aE,aI 0,aI 0,aI 0,aI 0,aI 0],some (D3 y17.2.1),some [aI o_.Kind,aU ij5,aE,.nil,.nil,.nil,.nil]],[],[]⟩
def a1d (bj4:Bool) (p:A5) (o_:GOp) (c:A3) (r:(A0 × A3 × Int)):Prop:=J Tryz.prog 10 (.ret (e10 r)) 17 [(60,aB bj4),(7,.ptr 4 0),(6,.ptr 3 0),(5,.ptr 2 0),(4,.ptr 1 0),(3,.ptr 0 0)] ⟨[some (B7 p),some (W3 o_),some (D3 c),some zV,some [aE,aI 0,aI 0,aI 0,aI 0,aI 0]],[],[]⟩
def b0b (bj3:Bool) (o_:GOp) (p:A5) (c:A3) (r:(A0 × A3 × Int)):Prop:=J Tryz.prog 10 (.ret (e10 r)) 14 [(50,aB bj3),(17,aI o_.Kind),(7,.ptr 4 0),(6,.ptr 3 0),(5,.ptr 2 0),(4,.ptr 1 0),(3,.ptr 0 0)] ⟨[some (B7 p),some (W3 o_),some (D3 c),some zV,some [aE,aI 0,aI 0,aI 0,aI 0,aI 0]],[],[]⟩
theorem b9u (y17:(Int × A3 × Int)) (p:A5) (o_:GOp) (c:A3) (ij5:Int) (r:(A0 × A3 × Int)) (hw:∃y21,b1d o_.Kind (⟨o_.Kind,ij5,(⟨#[]⟩:ByteArray),([]:(List A0)),([]:(List (A0 × A0))),([]:(List (Int × A0))),([]:(List Q0))⟩:A0) y21 /\ (((!y21)=true ->r=((⟨0,0,(⟨#[]⟩:ByteArray),([]:(List A0)),([]:(List (A0 × A0))),([]:(List (Int × A0))),([]:(List Q0))⟩:A0),c,6)) /\ ((!y21)=false ->∃R4:Bool ->Prop,(∀bz4:Bool,R4 bz4 ->((bz4=true ->r=((⟨0,0,(⟨#[]⟩:ByteArray),([]:(List A0)),([]:(List (A0 × A0))),([]:(List (Int × A0))),([]:(List Q0))⟩:A0),c,16)) /\ (bz4=false ->r=((⟨o_.Kind,ij5,(⟨#[]⟩:ByteArray),([]:(List A0)),([]:(List (A0 × A0))),([]:(List (Int × A0))),([]:(List Q0))⟩:A0),y17.2.1,0)))) /\ (((o_.Kind==9)=true ->∃y22,a8r p o_.Target y17.1 y22 /\ (R4 (!y22))) /\ ((o_.Kind==9)=false ->R4 false))))):a8i y17 p o_ c ij5 r:=
 KC 6 hw g6q fun _ hw=>KW 3 hw (fun _ hw=>KD 1 [2]<|KV 2<|KR 7 hw c9n) fun _ hw=>KQ 9 7 kB hw (fun _ hw=>KW 2 hw (fun _ hw=>KD 1 [2]<|KV 2<|KR 7 hw c9n) fun _ hw=>KD 3 [5,6]<|KV 2<|KR 6 hw c9n) (fun _ key _ hw=>KC 4 hw g85 fun _ hw=>KE 2 key hw) fun _ key _ hw=>KE 7 key hw
theorem c1t (bj4:Bool) (p:A5) (o_:GOp) (c:A3) (r:(A0 × A3 × Int)) (hw:(bj4=true ->∃y17,b35 c y17 /\ (((y17.2.2 !=0)=true ->r=((⟨0,0,(⟨#[]⟩:ByteArray),([]:(List A0)),([]:(List (A0 × A0))),([]:(List (Int × A0))),([]:(List Q0))⟩:A0),c,y17.2.2)) /\ ((y17.2.2 !=0)=false ->(((o_.Kind==2)||(o_.Kind==3))=true ->∃y18,b8w y17.1 y18 /\ (a8i y17 p o_ c (wU y18) r)) /\ (((o_.Kind==2)||(o_.Kind==3))=false ->a8i y17 p o_ c y17.1 r)))) /\ (bj4=false ->r=((⟨0,0,(⟨#[]⟩:ByteArray),([]:(List A0)),([]:(List (A0 × A0))),([]:(List (Int × A0))),([]:(List Q0))⟩:A0),c,12))):a1d bj4 p o_ c r:=
 KW 0 hw (fun _ hw=>KC 6 hw g7h fun _ hw=>KW 17 hw (fun _ hw=>KD 1 [2]<|KV 3<|KV 0<|KR 6 hw c9n) fun _ hw=>KT 19 4<|KW 2 hw (fun _ hw=>KC 2 hw h1y fun _ hw=>KJ 5 [] hw) fun _ hw=>KJ 2 [] hw) fun _ hw=>KD 1 [2]<|KV 2<|KR 8 hw c9n
theorem c2o (bj3:Bool) (o_:GOp) (p:A5) (c:A3) (r:(A0 × A3 × Int)) (hw:(bj3=true ->∃y13,d13 o_.Kind c y13 /\ (r=(y13.1,y13.2.1,y13.2.2))) /\ (bj3=false ->((o_.Kind==2)=true ->a1d (o_.Kind==2) p o_ c r) /\ ((o_.Kind==2)=false ->((o_.Kind==3)=true ->a1d (o_.Kind==3) p o_ c r) /\ ((o_.Kind==3)=false ->((o_.Kind==4)=true ->a1d (o_.Kind==4) p o_ c r) /\ ((o_.Kind==4)=false ->((o_.Kind==5)=true ->a1d (o_.Kind==5) p o_ c r) /\ ((o_.Kind==5)=false ->a1d (o_.Kind==9) p o_ c r)))))):b0b bj3 o_ p c r:=
 KW 0 hw (fun _ hw=>KC 5 hw h16 fun _ hw=>KR 11 hw c9n) fun _ hw=>KW 7 hw (fun _ hw=>KJ 2 [] hw) fun _ hw=>KW 6 hw (fun _ hw=>KJ 2 [] hw) fun _ hw=>KW 6 hw (fun _ hw=>KJ 2 [] hw) fun _ hw=>KW 6 hw (fun _ hw=>KJ 2 [] hw) fun _ hw=>KJ 5 [] hw
theorem c7o (p:A5) (o_:GOp) (c:A3) (r:(A0 × A3 × Int)) (hw:((o_.Kind==1)=true ->∃y1,b5k c y1 /\ (((y1.2.2 !=0)=true ->r=((⟨0,0,(⟨#[]⟩:ByteArray),([]:(List A0)),([]:(List (A0 × A0))),([]:(List (Int × A0))),([]:(List Q0))⟩:A0),c,y1.2.2)) /\ ((y1.2.2 !=0)=false ->((decide (1<y1.1))=true ->r=((⟨0,0,(⟨#[]⟩:ByteArray),([]:(List A0)),([]:(List (A0 × A0))),([]:(List (Int × A0))),([]:(List Q0))⟩:A0),c,5)) /\ ((decide (1<y1.1))=false ->r=((⟨o_.Kind,(wU y1.1),(⟨#[]⟩:ByteArray),([]:(List A0)),([]:(List (A0 × A0))),([]:(List (Int × A0))),([]:(List Q0))⟩:A0),y1.2.1,0))))) /\ ((o_.Kind==1)=false ->((o_.Kind==6)=true ->∃y2,c32 c y2 /\ (r=(y2.1,y2.2.1,y2.2.2))) /\ ((o_.Kind==6)=false ->((o_.Kind==7)=true ->b0b (o_.Kind==7) o_ p c r) /\ ((o_.Kind==7)=false ->b0b (o_.Kind==8) o_ p c r)))):c3y p o_ c r:=
 fP (KW 24 hw (fun _ hw=>KC 3 hw h0c fun _ hw=>KW 17 hw (fun _ hw=>KD 1 [2]<|KV 3<|KV 0<|KR 8 hw c9n) fun _ hw=>KW 9 hw (fun _ hw=>KD 1 [2]<|KV 2<|KR 9 hw c9n) fun _ hw=>KD 3 [1,5]<|KV 6<|KR 8 hw c9n) fun _ hw=>KW 6 hw (fun _ hw=>KC 3 hw h1e fun _ hw=>KR 11 hw c9n) fun _ hw=>KW 7 hw (fun _ hw=>KJ 2 [] hw) fun _ hw=>KJ 5 [] hw)
theorem e1g (r:ByteArray):plain (e12 r)=true:=rfl
def b8m (bj3:Bool) (v:A0) (r:ByteArray):Prop:=J Tryz.prog 12 (.ret (e12 r)) 13 [(31,aB bj3),(1,.ptr 0 0)] ⟨[some (B0 v)],[],[]⟩
def b8r (bj2:Bool) (v:A0) (r:ByteArray):Prop:=J Tryz.prog 12 (.ret (e12 r)) 8 [(17,aB bj2),(9,aI v.Kind),(1,.ptr 0 0)] ⟨[some (B0 v)],[],[]⟩
theorem c9b (bj3:Bool) (v:A0) (r:ByteArray) (hw:(bj3=true ->∃y17,a3l (wU (v.Text.size:Int)) y17 /\ (((y17.size+v.Text.size:Nat):Int)<=9223372036854775807 /\ (r=(y17++v.Text)))) /\ (bj3=false ->∃y18,a3l v.Bits y18 /\ (r=y18))):b8m bj3 v r:=
 KW 0 hw (fun _ hw=>KD 1 [0]<|KC 4 hw f9s fun _ hw=>g4s 2 hw fun hw=>KR 7 hw e1g) fun _ hw=>KC 7 hw f9s fun _ hw=>KR 4 hw e1g
theorem c7q (bj2:Bool) (v:A0) (r:ByteArray) (hw:(bj2=true ->∃y11,c2z (wI v.Bits) y11 /\ (∃y12,a3l y11 y12 /\ (r=y12))) /\ (bj2=false ->((v.Kind==6)=true ->∃y13,a77 v y13 /\ (∃y14,b72 y13.Bits y14 /\ (r=y14))) /\ ((v.Kind==6)=false ->((v.Kind==7)=true ->b8m (v.Kind==7) v r) /\ ((v.Kind==7)=false ->b8m (v.Kind==8) v r)))):b8r bj2 v r:=
 KW 0 hw (fun _ hw=>KC 5 hw h1r fun _ hw=>KC 0 hw f9s fun _ hw=>KR 6 hw e1g) fun _ hw=>KW 6 hw (fun _ hw=>KC 3 hw g38 fun _ hw=>KC 1 hw h2j fun _ hw=>KR 6 hw e1g) fun _ hw=>KW 7 hw (fun _ hw=>KJ 2 [] hw) fun _ hw=>KJ 5 [] hw
theorem d5r (v:A0) (r:ByteArray) (hw:∃y1,b1d v.Kind v y1 /\ (((!y1)=true ->r=(⟨#[]⟩:ByteArray)) /\ ((!y1)=false ->((v.Kind==1)=true ->∃y2,([(IntKind.u8.wrap v.Bits)]:List Int)=bI y2 /\ (r=y2)) /\ ((v.Kind==1)=false ->((v.Kind==2)=true ->b8r (v.Kind==2) v r) /\ ((v.Kind==2)=false ->b8r (v.Kind==3) v r))))):d10 v r:=
 fP (KC 12 hw g6q fun _ hw=>KW 3 hw (fun _ hw=>KR 7 hw e1g) fun _ hw=>KW 16 hw (fun _ hw=>KS 6 hw fun _ hw=>KR 6 hw e1g) fun _ hw=>KW 7 hw (fun _ hw=>KJ 2 [] hw) fun _ hw=>KJ 5 [] hw)
theorem g1d (r:ByteArray):plain (e14 r)=true:=rfl
def c40 (bj3:Bool) (v:A0) (r:ByteArray):Prop:=J Tryz.prog 14 (.ret (e14 r)) 13 [(31,aB bj3),(1,.ptr 0 0)] ⟨[some (B0 v)],[],[]⟩
theorem c3s (bj3:Bool) (v:A0) (r:ByteArray) (hw:(bj3=true ->∃y17,c1d (wU (v.Text.size:Int)) y17 /\ (((y17.size+v.Text.size:Nat):Int)<=9223372036854775807 /\ (r=(y17++v.Text)))) /\ (bj3=false ->∃y18,c1d v.Bits y18 /\ (r=y18))):c40 bj3 v r:=
 KW 0 hw (fun _ hw=>KD 1 [0]<|KC 4 hw h0m fun _ hw=>g4s 2 hw fun hw=>KR 7 hw g1d) fun _ hw=>KC 7 hw h0m fun _ hw=>KR 4 hw g1d
theorem g5h (r:Bool):plain (e17 r)=true:=rfl
theorem c53 (v:A0) (r:Bool) (hw:∃y1,X7 v y1 /\ (r=(decide (y1<=5000)))):c0m v r:=
 fP (KC 9 hw g0s fun _ hw=>KR 5 hw g5h)
theorem e5t (r:(ByteArray × Int)):plain (e18 r)=true:=(c6m (A6 rfl (A6 rfl rfl)))
theorem c8q (p:A5) (name:ByteArray) (v:A0) (r:(ByteArray × Int)) (hw:∃y1,c2d p name y1 /\ (((!y1.2)=true ->r=((⟨#[]⟩:ByteArray),10)) /\ ((!y1.2)=false ->∃y2,c79 p y1.1 v y2 /\ (((y2 !=0)=true ->r=((⟨#[]⟩:ByteArray),y2)) /\ ((y2 !=0)=false ->∃y3,a6g v y3 /\ ((y3=true ->r=((⟨#[]⟩:ByteArray),18)) /\ (y3=false ->∃y4,b05 p y1.1 v y4 /\ (∃y5,Z6 (⟨p,([]:(List Int))⟩:E0) y1.1 y4 y5 /\ (((decide (65536<(y5.out.length:Int)))=true ->r=((⟨#[]⟩:ByteArray),3)) /\ ((decide (65536<(y5.out.length:Int)))=false ->∃y6,y5.out=bI y6 /\ (r=(y6,0)))))))))))):c24 p name v r:=
 fP (KC 12 hw g88 fun _ hw=>KW 14 hw (fun _ hw=>KR 8 hw e5t) fun _ hw=>KC 8 hw h2f fun _ hw=>KW 9 hw (fun _ hw=>KR 9 hw e5t) fun _ hw=>KC 6 hw g4y fun _ hw=>KW 2 hw (fun _ hw=>KR 8 hw e5t) fun _ hw=>KC 17 hw h0g fun _ hw=>KIN 0 2 1 hw f89 fun y5 hw=>KL 9 c9u y5.out<|KW 3 hw (fun _ hw=>KR 8 hw e5t) fun _ hw=>KS 8 hw fun _ hw=>KR 5 hw e5t)
theorem e1v (r:(A0 × Int)):plain (e20 r)=true:=(c6m (A6 (B5 r.1) (A6 rfl rfl)))
theorem a6u (p:A5) (name:ByteArray) (data:ByteArray) (l:Y3) (r:(A0 × Int)) (hw:∃y1,c2d p name y1 /\ (((!y1.2)=true ->r=((⟨0,0,(⟨#[]⟩:ByteArray),([]:(List A0)),([]:(List (A0 × A0))),([]:(List (Int × A0))),([]:(List Q0))⟩:A0),10)) /\ ((!y1.2)=false ->∃y2,c75 data l y2 /\ (((y2.2 !=0)=true ->r=((⟨0,0,(⟨#[]⟩:ByteArray),([]:(List A0)),([]:(List (A0 × A0))),([]:(List (Int × A0))),([]:(List Q0))⟩:A0),y2.2)) /\ ((y2.2 !=0)=false ->∃y3,V9 (⟨p,y2.1⟩:A7) y1.1 y3 /\ (((y3.2.2 !=0)=true ->r=((⟨0,0,(⟨#[]⟩:ByteArray),([]:(List A0)),([]:(List (A0 × A0))),([]:(List (Int × A0))),([]:(List Q0))⟩:A0),y3.2.2)) /\ ((y3.2.2 !=0)=false ->∃y4,a7q y3.1.c y4 /\ (((decide (0<y4))=true ->r=((⟨0,0,(⟨#[]⟩:ByteArray),([]:(List A0)),([]:(List (A0 × A0))),([]:(List (Int × A0))),([]:(List Q0))⟩:A0),18)) /\ ((decide (0<y4))=false ->r=(y3.2.1,0)))))))))):b79 p name data l r:=
 fP (KC 12 hw g88 fun _ hw=>KW 14 hw (fun _ hw=>KR 9 hw e1v) fun _ hw=>KC 6 hw h12 fun _ hw=>KW 15 hw (fun _ hw=>KR 10 hw e1v) fun _ hw=>KIO 15 hw g01 fun _ hw=>KW 15 hw (fun _ hw=>KR 10 hw e1v) fun _ hw=>KC 9 hw g4w fun _ hw=>KW 3 hw (fun _ hw=>KR 9 hw e1v) fun _ hw=>KR 10 hw e1v)
theorem g69 (r:Y3):plain (e21 r)=true:=(N8 r)
theorem c5e (r:Y3) (hw:r=(⟨65536,16,4096,4096⟩:Y3)):b5o r:=
 fP (KR 12 hw g69)
theorem g74 (r:Int):plain (e25 r)=true:=rfl
def a55 (ij13:Int) (ij14:Int) (v:A0) (r:Int):Prop:=J Tryz.prog 25 (.ret (e25 r)) 16 [(6,aI ij13),(3,aI ij14),(1,.ptr 0 0)] ⟨[some (B0 v)],[],[]⟩
def a6a (ij11:Int) (ij12:Int) (v:A0) (r:Int):Prop:=J Tryz.prog 25 (.ret (e25 r)) 10 [(5,aI ij11),(3,aI ij12),(1,.ptr 0 0)] ⟨[some (B0 v)],[],[]⟩
def a8b (ij7:Int) (ij8:Int) (v:A0) (r:Int):Prop:=J Tryz.prog 25 (.ret (e25 r)) 4 [(4,aI ij7),(3,aI ij8),(1,.ptr 0 0)] ⟨[some (B0 v)],[],[]⟩
theorem b9d (ij13:Int) (ij14:Int) (v:A0) (r:Int) (hw:((decide (ij13<(v.Slots.length:Int)))=true ->∃y29,v.Slots[ij13.toNat]? =some y29 /\ 0<=ij13 /\ (∃y30,X7 y29.2 y30 /\ (a55 (wI (ij13+1)) (wI (ij14+y30)) v r))) /\ ((decide (ij13<(v.Slots.length:Int)))=false ->r=ij14)):a55 ij13 ij14 v r:=
 KL 7 C4 v.Slots<|KW 3 hw (fun _ hw=>KI 9 C4 hw fun _ hw=>KC 2 hw g0s fun _ hw=>KJ 11 [] hw) fun _ hw=>KR 12 hw g74
theorem b88 (ij11:Int) (ij12:Int) (v:A0) (r:Int) (hw:((decide (ij11<(v.Pairs.length:Int)))=true ->∃y31,v.Pairs[ij11.toNat]? =some y31 /\ 0<=ij11 /\ (∃y32,X7 y31.1 y32 /\ (∃y33,v.Pairs[ij11.toNat]? =some y33 /\ 0<=ij11 /\ (∃y34,X7 y33.2 y34 /\ (a6a (wI (ij11+1)) (wI (ij12+(wI (y32+y34)))) v r))))) /\ ((decide (ij11<(v.Pairs.length:Int)))=false ->a55 0 ij12 v r)):a6a ij11 ij12 v r:=
 KL 7 C7 v.Pairs<|KW 3 hw (fun _ hw=>KD 4 [0]<|KI 4 C7 hw fun _ hw=>KC 2 hw g0s fun _ hw=>KI 3 C7 hw fun _ hw=>KC 2 hw g0s fun _ hw=>KJ 13 [] hw) fun _ hw=>KJ 13 [] hw
theorem b9s (ij7:Int) (ij8:Int) (v:A0) (r:Int) (hw:((decide (ij7<(v.List_.length:Int)))=true ->∃y35,v.List_[ij7.toNat]? =some y35 /\ 0<=ij7 /\ (∃y36,X7 y35 y36 /\ (a8b (wI (ij7+1)) (wI (ij8+y36)) v r))) /\ ((decide (ij7<(v.List_.length:Int)))=false ->a6a 0 ij8 v r)):a8b ij7 ij8 v r:=
 KL 7 M5 v.List_<|KW 3 hw (fun _ hw=>KI 9 M5 hw fun _ hw=>KC 1 hw g0s fun _ hw=>KJ 11 [] hw) fun _ hw=>KJ 13 [] hw
theorem c5j (v:A0) (r:Int) (hw:a8b 0 (wI (1+(v.Raws.length:Int))) v r):X7 v r:=
 fP (KL 10 b5a v.Raws<|KJ 12 [] hw)
theorem d5i (r:Int):plain (e30 r)=true:=rfl
theorem c5v (p:A5) (r:Int) (hw:∃y1,b7u p y1 /\ (((!y1)=true ->r=3) /\ ((!y1)=false ->∃y2,c0f p y2 /\ (((!y2)=true ->r=8) /\ ((!y2)=false ->∃y3,b50 p y3 /\ (((!y3)=true ->r=11) /\ ((!y3)=false ->∃y4,b7q p y4 /\ (((!y4)=true ->r=9) /\ ((!y4)=false ->∃y5,b76 p y5 /\ (((!y5)=true ->r=6) /\ ((!y5)=false ->∃y6,b1g p y6 /\ (((!y6)=true ->r=1) /\ ((!y6)=false ->∃y7,b6p p y7 /\ (((!y7)=true ->r=19) /\ ((!y7)=false ->r=0))))))))))))))):c0s p r:=
 fP (KC 11 hw h1x fun _ hw=>KW 4 hw (fun _ hw=>KR 8 hw d5i) fun _ hw=>KC 3 hw h1f fun _ hw=>KW 4 hw (fun _ hw=>KR 8 hw d5i) fun _ hw=>KC 3 hw h1c fun _ hw=>KW 4 hw (fun _ hw=>KR 8 hw d5i) fun _ hw=>KC 3 hw h1g fun _ hw=>KW 4 hw (fun _ hw=>KR 8 hw d5i) fun _ hw=>KC 3 hw h14 fun _ hw=>KW 4 hw (fun _ hw=>KR 8 hw d5i) fun _ hw=>KC 3 hw h1s fun _ hw=>KW 4 hw (fun _ hw=>KR 8 hw d5i) fun _ hw=>KC 3 hw h1l fun _ hw=>KW 4 hw (fun _ hw=>KR 8 hw d5i) fun _ hw=>KR 9 hw d5i)
theorem g1l (r:(Int × A3 × Int)):plain (e31 r)=true:=(c6m (A6 rfl (A6 (C5 r.2.1) (A6 rfl rfl))))
theorem c5g (c:A3) (r:(Int × A3 × Int)) (hw:∃y1,a7q c y1 /\ (((decide (y1<1))=true ->r=(0,c,4)) /\ ((decide (y1<1))=false ->(0<=c.At /\ c.At<(c.Data.size:Int)) /\ (∃y2,a5q c 1 y2 /\ (r=((F0 c.Data c.At.toNat),y2,0)))))):b5k c r:=
 fP (KC 12 hw g4w fun _ hw=>KW 3 hw (fun _ hw=>KD 1 [0]<|KR 9 hw g1l) fun _ hw=>KD 3 [0]<|KIS 4 hw fun hw=>KC 1 hw g4o fun _ hw=>KR 7 hw g1l)
theorem f40 (r:(A0 × A3 × Int)):plain (e32 r)=true:=(c6m (A6 (B5 r.1) (A6 (C5 r.2.1) (A6 rfl rfl))))
theorem c76 (c:A3) (r:(A0 × A3 × Int)) (hw:∃y1,b67 c y1 /\ (((y1.2.2 !=0)=true ->r=((⟨0,0,(⟨#[]⟩:ByteArray),([]:(List A0)),([]:(List (A0 × A0))),([]:(List (Int × A0))),([]:(List Q0))⟩:A0),c,y1.2.2)) /\ ((y1.2.2 !=0)=false ->∃y2,a77 (⟨6,y1.1,(⟨#[]⟩:ByteArray),([]:(List A0)),([]:(List (A0 × A0))),([]:(List (Int × A0))),([]:(List Q0))⟩:A0) y2 /\ (((y2.Bits !=y1.1)=true ->r=((⟨0,0,(⟨#[]⟩:ByteArray),([]:(List A0)),([]:(List (A0 × A0))),([]:(List (Int × A0))),([]:(List Q0))⟩:A0),c,5)) /\ ((y2.Bits !=y1.1)=false ->r=((⟨6,y1.1,(⟨#[]⟩:ByteArray),([]:(List A0)),([]:(List (A0 × A0))),([]:(List (Int × A0))),([]:(List Q0))⟩:A0),y1.2.1,0)))))):c32 c r:=
 fP (KC 11 hw h1t fun _ hw=>KW 17 hw (fun _ hw=>KD 1 [0]<|KV 3<|KV 0<|KR 6 hw f40) fun _ hw=>KC 14 hw g38 fun _ hw=>KW 5 hw (fun _ hw=>KD 1 [0]<|KV 2<|KR 7 hw f40) fun _ hw=>KD 3 [3,4]<|KV 2<|KR 6 hw f40)
theorem e6e (r:(A0 × A3 × Int)):plain (e33 r)=true:=(c6m (A6 (B5 r.1) (A6 (C5 r.2.1) (A6 rfl rfl))))
theorem d1p (kind:Int) (c:A3) (r:(A0 × A3 × Int)) (hw:∃y1,b35 c y1 /\ (((y1.2.2 !=0)=true ->r=((⟨0,0,(⟨#[]⟩:ByteArray),([]:(List A0)),([]:(List (A0 × A0))),([]:(List (Int × A0))),([]:(List Q0))⟩:A0),c,y1.2.2)) /\ ((y1.2.2 !=0)=false ->∃y2,a7q y1.2.1 y2 /\ (((decide ((wU y2)<y1.1))=true ->r=((⟨0,0,(⟨#[]⟩:ByteArray),([]:(List A0)),([]:(List (A0 × A0))),([]:(List (Int × A0))),([]:(List Q0))⟩:A0),c,4)) /\ ((decide ((wU y2)<y1.1))=false ->∃y3,c0d y1.2.1 (wI y1.1) y3 /\ (((y3.2.2 !=0)=true ->r=((⟨0,0,(⟨#[]⟩:ByteArray),([]:(List A0)),([]:(List (A0 × A0))),([]:(List (Int × A0))),([]:(List Q0))⟩:A0),c,y3.2.2)) /\ ((y3.2.2 !=0)=false ->∃R1:Bool ->Prop,(∀bz1:Bool,R1 bz1 ->((bz1=true ->r=((⟨0,0,(⟨#[]⟩:ByteArray),([]:(List A0)),([]:(List (A0 × A0))),([]:(List (Int × A0))),([]:(List Q0))⟩:A0),c,7)) /\ (bz1=false ->r=((⟨kind,0,y3.1,([]:(List A0)),([]:(List (A0 × A0))),([]:(List (Int × A0))),([]:(List Q0))⟩:A0),y3.2.1,0)))) /\ (((kind==7)=true ->∃y4,b7m y3.1 y4 /\ (R1 (!y4))) /\ ((kind==7)=false ->R1 false))))))))):d13 kind c r:=
 fP (KC 11 hw g7h fun _ hw=>KW 17 hw (fun _ hw=>KD 1 [0]<|KV 3<|KV 0<|KR 6 hw e6e) fun _ hw=>KC 7 hw g4w fun _ hw=>KW 4 hw (fun _ hw=>KD 1 [0]<|KV 2<|KR 7 hw e6e) fun _ hw=>KC 7 hw h1h fun _ hw=>KW 16 hw (fun _ hw=>KD 1 [0]<|KV 3<|KV 0<|KR 6 hw e6e) fun _ hw=>KQ 8 4 kB hw (fun _ hw=>KW 2 hw (fun _ hw=>KD 1 [0]<|KV 2<|KR 7 hw e6e) fun _ hw=>KD 3 [3]<|KV 4<|KR 6 hw e6e) (fun _ key _ hw=>KC 1 hw g5x fun _ hw=>KE 2 key hw) fun _ key _ hw=>KE 4 key hw)
theorem f7e (r:(Int × A3 × Int)):plain (e34 r)=true:=(c6m (A6 rfl (A6 (C5 r.2.1) (A6 rfl rfl))))
theorem c67 (c:A3) (r:(Int × A3 × Int)) (hw:∃y1,b54 c y1 /\ (((y1.2.2 !=0)=true ->r=(0,c,y1.2.2)) /\ ((y1.2.2 !=0)=false ->∃y2,c35 y1.1 y2 /\ ((((wI (y1.2.1.At - c.At)) !=y2)=true ->r=(0,c,5)) /\ (((wI (y1.2.1.At - c.At)) !=y2)=false ->r=(y1.1,y1.2.1,0)))))):b35 c r:=
 fP (KC 11 hw h1n fun _ hw=>KW 17 hw (fun _ hw=>KD 1 [0]<|KV 3<|KR 6 hw f7e) fun _ hw=>KD 4 [0,2]<|KC 6 hw h1b fun _ hw=>KW 4 hw (fun _ hw=>KD 1 [0]<|KR 9 hw f7e) fun _ hw=>KD 3 [2]<|KR 9 hw f7e)
theorem g5q (r:Int):plain (e35 r)=true:=rfl
theorem c73 (u:Int) (r:Int) (hw:r=(F4 .xor .i64 (wI (u.fdiv (2 ^ min (1:Int).toNat IntKind.u64.bits))) (wI (0 - (wI (F4 .and .u64 u 1)))))):b8w u r:=
 fP (KR 19 hw g5q)
theorem f61 (r:Bool):plain (e36 r)=true:=rfl
theorem c5w (kind:Int) (v:A0) (r:Bool) (hw:∃y1,b6r kind y1 /\ (∃R1:Bool ->Prop,(∀bz1:Bool,R1 bz1 ->(∃R2:Bool ->Prop,(∀bz2:Bool,R2 bz2 ->(((bz2||(decide (4096<(v.Text.size:Int))))=true ->r=false) /\ ((bz2||(decide (4096<(v.Text.size:Int))))=false ->((kind !=7)=true ->r=true) /\ ((kind !=7)=false ->∃y4,b7m v.Text y4 /\ (r=y4))))) /\ ((bz1=true ->R2 true) /\ (bz1=false ->∃y3,b5r kind v.Bits y3 /\ (R2 (!y3)))))) /\ ((((!y1)||(v.Kind !=kind))=true ->R1 true) /\ (((!y1)||(v.Kind !=kind))=false ->∃y2,b5f v y2 /\ (R1 (!y2)))))):b1d kind v r:=
 fP (KC 10 hw g4i fun _ hw=>KT 2 5<|KQ 1 4 kB hw (fun _ hw=>KQ 1 6 kB hw (fun _ hw=>KT 1 5<|KW 2 hw (fun _ hw=>KR 7 hw f61) fun _ hw=>KW 7 hw (fun _ hw=>KR 8 hw f61) fun _ hw=>KC 2 hw g5x fun _ hw=>KR 5 hw f61) (fun _ key _ hw=>KE 6 key hw) fun _ key _ hw=>KC 3 hw h19 fun _ hw=>KE 2 key hw) (fun _ key _ hw=>KE 4 key hw) fun _ key _ hw=>KC 1 hw g87 fun _ hw=>KE 2 key hw)
theorem f5n (r:Bool):plain (e37 r)=true:=rfl
theorem c4q (p:A5) (enum:Int) (num:Int) (r:Bool) (hw:((((decide (enum<0))||(decide ((p.Enums.length:Int)<=enum)))||(decide (2147483647<num)))=true ->r=false) /\ ((((decide (enum<0))||(decide ((p.Enums.length:Int)<=enum)))||(decide (2147483647<num)))=false ->∃y1,p.Enums[enum.toNat]? =some y1 /\ 0<=enum /\ ((y1.Open=true ->r=true) /\ (y1.Open=false ->∃y2,a0y y1.Items (⟨86,[],[.elt [aU num] 0],by simp⟩:GFn) y2 /\ (r=y2))))):a8r p enum num r:=
 fP (KT2 13 6 (decide (enum<0)) (fun z=>aB (z||(decide ((p.Enums.length:Int)<=enum)))) (fun _ key=>KE2 6 key) (fun _ key=>KL 3 a0i p.Enums<|KE2 2 key)<|KT 1 3<|KW 2 hw (fun _ hw=>KR 7 hw f5n) fun _ hw=>KI 7 a0i hw fun y1 hw=>KFz 6 1 [true,false,true] 0 [(7,.ptr 2 0),(5,.elt [aU num] 0)] [some (B7 p),none,some (Q4 y1)] ⟨by first|rfl|simp,by first|rfl|simp⟩<|KW 4 hw (fun _ hw=>KR 9 hw f5n) fun _ hw=>KC 3 hw h1m fun _ hw=>KR 5 hw f5n)
theorem g7j (r:Bool):plain (e42 r)=true:=rfl
theorem c1a (kind:Int) (r:Bool) (hw:r=((decide (1<=kind))&&(decide (kind<=9)))):d1t kind r:=
 fP (KT 10 3<|KR 4 hw g7j)
theorem g34 (r:Int):plain (e44 r)=true:=rfl
theorem c9x (u:Int) (r:Int) (hw:(((u.tmod 2)==0)=true ->r=(wI (wU (u.tdiv 2)))) /\ (((u.tmod 2)==0)=false ->r=(wI ((wI (0 - (wI (wU (u.tdiv 2))))) - 1)))):c8f u r:=
 fP (KW 13 hw (fun _ hw=>KR 10 hw g34) fun _ hw=>KR 13 hw g34)
theorem d5u (r:Bool):plain (e45 r)=true:=rfl
theorem c7n (kind:Int) (v:A0) (r:Bool) (hw:∃y1,d1t kind y1 /\ (∃R1:Bool ->Prop,(∀bz1:Bool,R1 bz1 ->((bz1=true ->r=false) /\ (bz1=false ->∃y3,c8n kind y3 /\ ((y3=true ->∃R2:Bool ->Prop,(∀bz2:Bool,R2 bz2 ->(r=bz2)) /\ ((((v.Bits==0)&&(decide ((v.Text.size:Int)<=4096)))=true ->∃R3:Bool ->Prop,(∀bz3:Bool,R3 bz3 ->(R2 bz3)) /\ (((kind==8)=true ->R3 true) /\ ((kind==8)=false ->∃y4,b56 v.Text y4 /\ (R3 y4)))) /\ (((v.Bits==0)&&(decide ((v.Text.size:Int)<=4096)))=false ->R2 false))) /\ (y3=false ->((!(decide (v.Text=(⟨#[]⟩:ByteArray))))=true ->r=false) /\ ((!(decide (v.Text=(⟨#[]⟩:ByteArray))))=false ->((kind==1)=true ->r=(decide (v.Bits<=1))) /\ ((kind==1)=false ->((kind==2)=true ->r=((decide ((-2147483648)<=(wI v.Bits)))&&(decide ((wI v.Bits)<=2147483647)))) /\ ((kind==2)=false ->((kind==4)=true ->r=(decide (v.Bits<4294967296))) /\ ((kind==4)=false ->((kind==9)=true ->r=(decide (v.Bits<2147483648))) /\ ((kind==9)=false ->r=true)))))))))) /\ ((((!y1)||(v.Kind !=kind))=true ->R1 true) /\ (((!y1)||(v.Kind !=kind))=false ->∃y2,b8x v y2 /\ (R1 (!y2)))))):c2w kind v r:=
 fP (KC 10 hw g86 fun _ hw=>KT 2 5<|KQ 1 4 kB hw (fun _ hw=>KW 2 hw (fun _ hw=>KR 7 hw d5u) fun _ hw=>KC 6 hw h1d fun _ hw=>KW 2 hw (fun _ hw=>KT 6 5<|KQ 1 8 kB hw (fun _ hw=>KR 5 hw d5u) (fun _ key _ hw=>KQ 3 4 kB hw (fun _ hw=>KE 1 key hw) (fun _ key _ hw=>KE 4 key hw) fun _ key _ hw=>KC 2 hw h0w fun _ hw=>KE 1 key hw) fun _ key _ hw=>KE 8 key hw) fun _ hw=>KW 10 hw (fun _ hw=>KR 7 hw d5u) fun _ hw=>KW 15 hw (fun _ hw=>KR 11 hw d5u) fun _ hw=>KW 6 hw (fun _ hw=>KT 13 3<|KR 6 hw d5u) fun _ hw=>KW 6 hw (fun _ hw=>KR 11 hw d5u) fun _ hw=>KW 6 hw (fun _ hw=>KR 11 hw d5u) fun _ hw=>KR 9 hw d5u) (fun _ key _ hw=>KE 4 key hw) fun _ key _ hw=>KC 1 hw g9q fun _ hw=>KE 2 key hw)
theorem g46 (r:ByteArray):plain (e47 r)=true:=rfl
def b0j (lj1:(List Int)) (ij2:Int) (r:ByteArray):Prop:=J Tryz.prog 47 (.ret (e47 r)) 3 [(3,.sl (List.map b0q lj1) (.own 0)),(0,aU ij2)] ⟨[],[(lj1.length,1)],[]⟩
theorem b2c (lj1:(List Int)) (ij2:Int) (r:ByteArray) (hw:((decide (128<=ij2))=true ->(lj1.length+[(F4 .or .u8 (IntKind.u8.wrap ij2) 128)].length)*1<=140737488355328 /\ (b0j (lj1++[(F4 .or .u8 (IntKind.u8.wrap ij2) 128)]) (ij2.fdiv (2 ^ min (7:Int).toNat IntKind.u64.bits)) r)) /\ ((decide (128<=ij2))=false ->(lj1.length+[(IntKind.u8.wrap ij2)].length)*1<=140737488355328 /\ (∃y2,(lj1++[(IntKind.u8.wrap ij2)])=bI y2 /\ (r=y2)))):b0j lj1 ij2 r:=
 KW 8 hw (fun _ hw=>KA 10 c9u hw mE fun hw=>KJ 10 [] hw) fun _ hw=>KA 11 c9u hw mE fun hw=>KS 0 hw fun _ hw=>KR 4 hw g46
theorem c7j (u:Int) (r:ByteArray) (hw:b0j ([]:List Int) u r):a3l u r:=
 fP (KO 13 3 1<|KJ 0 [] hw)
theorem g43 (r:Int):plain (e48 r)=true:=rfl
theorem c8p (n:Int) (r:Int) (hw:r=(F4 .xor .u64 (wU ((wU n)*2 ^ min (1:Int).toNat IntKind.u64.bits)) (wU (n.fdiv (2 ^ min (63:Int).toNat IntKind.i64.bits))))):c2z n r:=
 fP (KR 18 hw g43)
theorem g6u (r:ByteArray):plain (e49 r)=true:=rfl
def a6d (ij1:Int) (u:Int) (lj2:(List Int)) (r:ByteArray):Prop:=J Tryz.prog 49 (.ret (e49 r)) 4 [(8,aI ij1),(7,aI (8:Int)),(3,.row 0 0 1 8 8),(0,aU u)] ⟨[some (cellsOf b0q lj2)],[],[]⟩
theorem a92 (ij1:Int) (u:Int) (lj2:(List Int)) (r:ByteArray) (hw:((decide (ij1<(8:Int)))=true ->0<=(wI (8*ij1)) /\ ((0<=ij1 /\ ij1<(8:Int)) /\ (ij1.toNat<lj2.length /\ (a6d (wI (ij1+1)) u (lj2.set ij1.toNat (IntKind.u8.wrap (u.fdiv (2 ^ min (wI (8*ij1)).toNat IntKind.u64.bits)))) r)))) /\ ((decide (ij1<(8:Int)))=false ->lj2.length=8 /\ (∃y2,lj2=bI y2 /\ (r=y2)))):a6d ij1 u lj2 r:=
 KW 7 hw (fun _ hw=>KB 16 hw fun hw=>KRI 1 1 hw fun hw=>KRS 0 c9u (IntKind.u8.wrap (u.fdiv (2 ^ min (wI (8*ij1)).toNat IntKind.u64.bits))) hw fun hw=>KJ 8 [] hw) fun _ hw=>KDf 6 c9u 0 [false] 0 1 [(3,.sl (List.map b0q lj2) .no)] [none] ⟨by first|rfl|simp,by first|rfl|simp⟩ hw fun hw=>KS 2 hw fun _ hw=>KR 4 hw g6u
theorem c27 (u:Int) (r:ByteArray) (hw:(0<=(8:Int) /\ (8:Int)<=(8:Int) /\ (8:Int)*1<=140737488355328) /\ (a6d 0 u (List.replicate 8 0) r)):b72 u r:=
 fP (KM 7 c9u 0 hw fun hw=>KJ 13 [] hw)
theorem f5b (r:A0):plain (e50 r)=true:=(B5 r)
theorem c5p (v:A0) (r:A0) (hw:((v.Kind==6)=true ->∃y1,b18 v.Bits y1 /\ (((y1==0)=true ->r=(⟨v.Kind,9221120237041090560,v.Text,v.List_,v.Pairs,v.Slots,v.Raws⟩:A0)) /\ ((y1==0)=false ->r=v))) /\ ((v.Kind==6)=false ->r=v)):a77 v r:=
 fP (KW 13 hw (fun _ hw=>KC 2 hw h0y fun _ hw=>KW 4 hw (fun _ hw=>KR 12 hw f5b) fun _ hw=>KR 9 hw f5b) fun _ hw=>KR 17 hw f5b)
theorem g6f (r:ByteArray):plain (e52 r)=true:=rfl
def b2p (lj1:(List Int)) (ij2:Int) (r:ByteArray):Prop:=J Tryz.prog 52 (.ret (e52 r)) 3 [(3,.sl (List.map b0q lj1) (.own 0)),(0,aU ij2)] ⟨[],[(lj1.length,1)],[]⟩
theorem b4n (lj1:(List Int)) (ij2:Int) (r:ByteArray) (hw:((decide (128<=ij2))=true ->(lj1.length+[(IntKind.u8.wrap (wU ((ij2.tmod 128)+128)))].length)*1<=140737488355328 /\ (b2p (lj1++[(IntKind.u8.wrap (wU ((ij2.tmod 128)+128)))]) (wU (ij2.tdiv 128)) r)) /\ ((decide (128<=ij2))=false ->(lj1.length+[(IntKind.u8.wrap ij2)].length)*1<=140737488355328 /\ (∃y2,(lj1++[(IntKind.u8.wrap ij2)])=bI y2 /\ (r=y2)))):b2p lj1 ij2 r:=
 KW 8 hw (fun _ hw=>KA 11 c9u hw mE fun hw=>KJ 10 [] hw) fun _ hw=>KA 11 c9u hw mE fun hw=>KS 0 hw fun _ hw=>KR 4 hw g6f
theorem c9g (u:Int) (r:ByteArray) (hw:b2p ([]:List Int) u r):c1d u r:=
 fP (KO 13 3 1<|KJ 0 [] hw)
theorem g44 (r:(Int × Bool)):plain (e55 r)=true:=(c6m (A6 rfl (A6 rfl rfl)))
theorem c9y (p:A5) (name:ByteArray) (r:(Int × Bool)) (hw:∃y1,a2t p.Progs (⟨100,[],[.elt [aS name] 0],by simp⟩:GFn) y1 /\ (r=((max y1 0),(decide (0<=y1))))):c2d p name r:=
 fP (KFz 9 1 [true,false] 0 [(3,.elt [aS name] 0),(2,.ptr 0 0)] [some (B7 p),none] ⟨by first|rfl|simp,by first|rfl|simp⟩<|KC 4 hw h11 fun _ hw=>KR 14 hw g44)
theorem f1t (r:Int):plain (e56 r)=true:=rfl
theorem c9j (p:A5) (prog:Int) (v:A0) (r:Int) (hw:(((decide (prog<0))||(decide ((p.Progs.length:Int)<=prog)))=true ->r=10) /\ (((decide (prog<0))||(decide ((p.Progs.length:Int)<=prog)))=false ->∃y1,p.Progs[prog.toNat]? =some y1 /\ 0<=prog /\ (∃y2,P4 (⟨p⟩:C9) y1 v 1 y2 /\ (((y2 !=0)=true ->r=y2) /\ ((y2 !=0)=false ->∃y3,b1u v y3 /\ (((decide (4096<y3))=true ->r=3) /\ ((decide (4096<y3))=false ->r=0))))))):c79 p prog v r:=
 fP (KT2 13 6 (decide (prog<0)) (fun z=>aB (z||(decide ((p.Progs.length:Int)<=prog)))) (fun _ key=>KE2 6 key) (fun _ key=>KL 3 P3 p.Progs<|KE2 2 key)<|KW 2 hw (fun _ hw=>KR 7 hw f1t) fun _ hw=>KD 4 [0,1]<|KI 5 P3 hw fun _ hw=>KC 2 hw g09 fun _ hw=>KW 10 hw (fun _ hw=>KR 8 hw f1t) fun _ hw=>KC 6 hw g23 fun _ hw=>KW 3 hw (fun _ hw=>KR 7 hw f1t) fun _ hw=>KR 8 hw f1t)
theorem e3g (r:Bool):plain (e57 r)=true:=rfl
def b5q (ij7:Int) (v:A0) (r:Bool):Prop:=JP Tryz.prog 57 (e57 r) 24 [(37,aI ij7),(36,aI (v.Pairs.length:Int)),(35,.sl (List.map B4 v.Pairs) .no)]
def b53 (ij6:Int) (v:A0) (r:Bool):Prop:=J Tryz.prog 57 (.ret (e57 r)) 15 [(27,aI ij6),(26,aI (v.List_.length:Int)),(25,.sl (List.map C0 v.List_) .no),(1,.ptr 0 0)] ⟨[some (B0 v)],[],[]⟩
def b7s (ij4:Int) (v:A0) (r:Bool):Prop:=J Tryz.prog 57 (.ret (e57 r)) 6 [(16,aI ij4),(15,aI (v.Slots.length:Int)),(14,.sl (List.map B3 v.Slots) .no),(1,.ptr 0 0)] ⟨[some (B0 v)],[],[]⟩
theorem b3r {ij7:Int} {v:A0}:a9l [] 0 [(37,aI ij7),(36,aI (v.Pairs.length:Int)),(35,.sl (List.map B4 v.Pairs) .no)]=true /\ a6x [] 0 []=true:=⟨by first|rfl|simp,by first|rfl|simp⟩
theorem c2y {ij6:Int} {v:A0}:a9l [true] 0 [(27,aI ij6),(26,aI (v.List_.length:Int)),(25,.sl (List.map C0 v.List_) .no),(1,.ptr 0 0)]=true /\ a6x [true] 0 [some (B0 v)]=true:=⟨by first|rfl|simp,by first|rfl|simp⟩
theorem c5r {ij4:Int} {v:A0}:a9l [true] 0 [(16,aI ij4),(15,aI (v.Slots.length:Int)),(14,.sl (List.map B3 v.Slots) .no),(1,.ptr 0 0)]=true /\ a6x [true] 0 [some (B0 v)]=true:=⟨by first|rfl|simp,by first|rfl|simp⟩
theorem c1g (ij7:Int) (v:A0) (r:Bool) (hw:((decide (ij7<(v.Pairs.length:Int)))=true ->∃y23,v.Pairs[ij7.toNat]? =some y23 /\ 0<=ij7 /\ (∃y24,a6g y23.2 y24 /\ ((y24=true ->r=true) /\ (y24=false ->b5q (wI (ij7+1)) v r)))) /\ ((decide (ij7<(v.Pairs.length:Int)))=false ->r=false)):b5q ij7 v r:=
 KW 7 hw (fun _ hw=>KI 6 C7 hw fun _ hw=>KC 9 hw g4y fun _ hw=>KW 2 hw (fun _ hw=>KR 11 hw e3g) fun _ hw=>KJl 8 [] hw b3r) fun _ hw=>KR 11 hw e3g
theorem c1o (ij6:Int) (v:A0) (r:Bool) (hw:((decide (ij6<(v.List_.length:Int)))=true ->∃y25,v.List_[ij6.toNat]? =some y25 /\ 0<=ij6 /\ (∃y26,a6g y25 y26 /\ ((y26=true ->r=true) /\ (y26=false ->b53 (wI (ij6+1)) v r)))) /\ ((decide (ij6<(v.List_.length:Int)))=false ->b5q 0 v r)):b53 ij6 v r:=
 KW 7 hw (fun _ hw=>KI 6 M5 hw fun _ hw=>KC 8 hw g4y fun _ hw=>KW 2 hw (fun _ hw=>KR 11 hw e3g) fun _ hw=>KJl 8 [] hw c2y) fun _ hw=>KL 10 C7 v.Pairs<|KJl 5 [] hw b3r
theorem c4o (ij4:Int) (v:A0) (r:Bool) (hw:((decide (ij4<(v.Slots.length:Int)))=true ->∃y27,v.Slots[ij4.toNat]? =some y27 /\ 0<=ij4 /\ (∃y28,a6g y27.2 y28 /\ ((y28=true ->r=true) /\ (y28=false ->b7s (wI (ij4+1)) v r)))) /\ ((decide (ij4<(v.Slots.length:Int)))=false ->b53 0 v r)):b7s ij4 v r:=
 KW 7 hw (fun _ hw=>KI 6 C4 hw fun _ hw=>KC 9 hw g4y fun _ hw=>KW 2 hw (fun _ hw=>KR 11 hw e3g) fun _ hw=>KJl 8 [] hw c5r) fun _ hw=>KL 10 M5 v.List_<|KJ 5 [] hw
theorem c9v (v:A0) (r:Bool) (hw:((decide (0<(v.Raws.length:Int)))=true ->r=true) /\ ((decide (0<(v.Raws.length:Int)))=false ->b7s 0 v r)):a6g v r:=
 fP (KL 11 b5a v.Raws<|KW 3 hw (fun _ hw=>KR 7 hw e3g) fun _ hw=>KL 7 C4 v.Slots<|KJ 5 [] hw)
theorem g49 (r:E0):plain (e58 r)=true /\ (M6 r).all ok1=true /\ lowL [true] 1 (M6 r)=true /\ (a3j r).length=1:=⟨g3q r,a3m _,c0u _,rfl⟩
def S9 (ij46:Int) (lj42:(List A0)) (ij38:Int) (ij25:Int) (y1:B6) (lj47:(List B6)) (lj48:(List V5)) (lj49:(List Int)) (v:A0) (y46:GOp) (r:E0):Prop:=J Tryz.prog 58 (.io 1 (e58 r) (M6 r) (a3j r)) 18 [(84,aI ij46),(83,aI (lj42.length:Int)),(82,.sl (List.map C0 lj42) .no),(6,aI ij38),(8,.ptr 2 0),(25,aI ij25),(24,aI (y1.Ops.length:Int)),(23,.sl (List.map W3 y1.Ops) .no),(5,.ptr 1 0),(0,.ptr 0 0)] ⟨[some [.sl (List.map E2 lj47) .no,.sl (List.map Q4 lj48) .no,.sl (List.map b0q lj49) (.own 0)],some (B0 v),some (W3 y46)],[(lj49.length,1)],[]⟩
def T0 (ij50:Int) (lj43:(List (A0 × A0))) (ij38:Int) (ij25:Int) (y1:B6) (lj51:(List B6)) (lj52:(List V5)) (lj53:(List Int)) (v:A0) (y46:GOp) (r:E0):Prop:=J Tryz.prog 58 (.io 1 (e58 r) (M6 r) (a3j r)) 26 [(105,aI ij50),(104,aI (lj43.length:Int)),(103,.sl (List.map B4 lj43) .no),(6,aI ij38),(8,.ptr 2 0),(25,aI ij25),(24,aI (y1.Ops.length:Int)),(23,.sl (List.map W3 y1.Ops) .no),(5,.ptr 1 0),(0,.ptr 0 0)] ⟨[some [.sl (List.map E2 lj51) .no,.sl (List.map Q4 lj52) .no,.sl (List.map b0q lj53) (.own 0)],some (B0 v),some (W3 y46)],[(lj53.length,1)],[]⟩
def S7 (ij38:Int) (bz4:Bool) (ij25:Int) (y1:B6) (lj27:(List B6)) (lj28:(List V5)) (lj29:(List Int)) (v:A0) (y46:GOp) (ij39:Int) (ij40:Int) (sj41:ByteArray) (lj42:(List A0)) (lj43:(List (A0 × A0))) (lj44:(List (Int × A0))) (lj45:(List Q0)) (r:E0):Prop:=J Tryz.prog 58 (.io 1 (e58 r) (M6 r) (a3j r)) 10 [(6,aI ij38),(10,.ptr 3 0),(9,aB bz4),(8,.ptr 2 0),(25,aI ij25),(24,aI (y1.Ops.length:Int)),(23,.sl (List.map W3 y1.Ops) .no),(5,.ptr 1 0),(0,.ptr 0 0)] ⟨[some [.sl (List.map E2 lj27) .no,.sl (List.map Q4 lj28) .no,.sl (List.map b0q lj29) (.own 0)],some (B0 v),some (W3 y46),some [aI ij39,aU ij40,aS sj41,.sl (List.map C0 lj42) .no,.sl (List.map B4 lj43) .no,.sl (List.map B3 lj44) .no,.sl (List.map T1 lj45) .no]],[(lj29.length,1)],[]⟩
def C8 (ij25:Int) (y1:B6) (ij26:Int) (lj27:(List B6)) (lj28:(List V5)) (lj29:(List Int)) (v:A0) (r:E0):Prop:=J Tryz.prog 58 (.io 1 (e58 r) (M6 r) (a3j r)) 3 [(25,aI ij25),(24,aI (y1.Ops.length:Int)),(23,.sl (List.map W3 y1.Ops) .no),(6,aI ij26),(5,.ptr 1 0),(0,.ptr 0 0)] ⟨[some [.sl (List.map E2 lj27) .no,.sl (List.map Q4 lj28) .no,.sl (List.map b0q lj29) (.own 0)],some (B0 v)],[(lj29.length,1)],[]⟩
theorem a3v {ij46:Int} {lj42:(List A0)} {ij38:Int} {ij25:Int} {y1:B6} {lj47:(List B6)} {lj48:(List V5)} {lj49:(List Int)} {v:A0} {y46:GOp}:a9l [true,true,true] 1 [(84,aI ij46),(83,aI (lj42.length:Int)),(82,.sl (List.map C0 lj42) .no),(6,aI ij38),(8,.ptr 2 0),(25,aI ij25),(24,aI (y1.Ops.length:Int)),(23,.sl (List.map W3 y1.Ops) .no),(5,.ptr 1 0),(0,.ptr 0 0)]=true /\ a6x [true,true,true] 1 [some [.sl (List.map E2 lj47) .no,.sl (List.map Q4 lj48) .no,.sl (List.map b0q lj49) (.own 0)],some (B0 v),some (W3 y46)]=true:=⟨by first|rfl|simp,by first|rfl|simp⟩
theorem a3t {ij50:Int} {lj43:(List (A0 × A0))} {ij38:Int} {ij25:Int} {y1:B6} {lj51:(List B6)} {lj52:(List V5)} {lj53:(List Int)} {v:A0} {y46:GOp}:a9l [true,true,true] 1 [(105,aI ij50),(104,aI (lj43.length:Int)),(103,.sl (List.map B4 lj43) .no),(6,aI ij38),(8,.ptr 2 0),(25,aI ij25),(24,aI (y1.Ops.length:Int)),(23,.sl (List.map W3 y1.Ops) .no),(5,.ptr 1 0),(0,.ptr 0 0)]=true /\ a6x [true,true,true] 1 [some [.sl (List.map E2 lj51) .no,.sl (List.map Q4 lj52) .no,.sl (List.map b0q lj53) (.own 0)],some (B0 v),some (W3 y46)]=true:=⟨by first|rfl|simp,by first|rfl|simp⟩
theorem M3 {ij25:Int} {y1:B6} {ij26:Int} {lj27:(List B6)} {lj28:(List V5)} {lj29:(List Int)} {v:A0}:a9l [true,true] 1 [(25,aI ij25),(24,aI (y1.Ops.length:Int)),(23,.sl (List.map W3 y1.Ops) .no),(6,aI ij26),(5,.ptr 1 0),(0,.ptr 0 0)]=true /\ a6x [true,true] 1 [some [.sl (List.map E2 lj27) .no,.sl (List.map Q4 lj28) .no,.sl (List.map b0q lj29) (.own 0)],some (B0 v)]=true:=⟨by first|rfl|simp,by first|rfl|simp⟩
theorem a2d (ij46:Int) (lj42:(List A0)) (ij38:Int) (ij25:Int) (y1:B6) (lj47:(List B6)) (lj48:(List V5)) (lj49:(List Int)) (v:A0) (y46:GOp) (r:E0) (hw:((decide (ij46<(lj42.length:Int)))=true ->∃y75,lj42[ij46.toNat]? =some y75 /\ 0<=ij46 /\ (∃y76,Z0 (⟨(⟨lj47,lj48⟩:A5),lj49⟩:E0) y46 y75 y76 /\ (S9 (wI (ij46+1)) lj42 ij38 ij25 y1 y76.p.Progs y76.p.Enums y76.out v y46 r))) /\ ((decide (ij46<(lj42.length:Int)))=false ->C8 (wI (ij25+1)) y1 ij38 lj47 lj48 lj49 v r)):S9 ij46 lj42 ij38 ij25 y1 lj47 lj48 lj49 v y46 r:=
 KW 7 hw (fun _ hw=>KI 6 M5 hw fun _ hw=>KI1 9 hw d9t fun _ hw=>KJl 8 [] hw a3v) fun _ hw=>KJl 12 [] hw M3
theorem a2x (ij50:Int) (lj43:(List (A0 × A0))) (ij38:Int) (ij25:Int) (y1:B6) (lj51:(List B6)) (lj52:(List V5)) (lj53:(List Int)) (v:A0) (y46:GOp) (r:E0) (hw:((decide (ij50<(lj43.length:Int)))=true ->∃y83,lj43[ij50.toNat]? =some y83 /\ 0<=ij50 /\ (∃y84,d10 y83.1 y84 /\ (∃y85,W6 (⟨(⟨lj51,lj52⟩:A5),lj53⟩:E0) y84 y85 /\ (∃y86,Z0 y85 y46 y83.2 y86 /\ (T0 (wI (ij50+1)) lj43 ij38 ij25 y1 y86.p.Progs y86.p.Enums y86.out v y46 r))))) /\ ((decide (ij50<(lj43.length:Int)))=false ->C8 (wI (ij25+1)) y1 ij38 lj51 lj52 lj53 v r)):T0 ij50 lj43 ij38 ij25 y1 lj51 lj52 lj53 v y46 r:=
 KW 7 hw (fun _ hw=>KI 6 C7 hw fun _ hw=>KC 10 hw g9a fun _ hw=>KI1 0 hw d0l fun _ hw=>KI1 7 hw d9t fun _ hw=>KJl 8 [] hw a3t) fun _ hw=>KJl 12 [] hw M3
theorem b1l (ij38:Int) (bz4:Bool) (ij25:Int) (y1:B6) (lj27:(List B6)) (lj28:(List V5)) (lj29:(List Int)) (v:A0) (y46:GOp) (ij39:Int) (ij40:Int) (sj41:ByteArray) (lj42:(List A0)) (lj43:(List (A0 × A0))) (lj44:(List (Int × A0))) (lj45:(List Q0)) (r:E0) (hw:((y46.Card==1)=true ->∃y70,Z0 (⟨(⟨lj27,lj28⟩:A5),lj29⟩:E0) y46 (⟨ij39,ij40,sj41,lj42,lj43,lj44,lj45⟩:A0) y70 /\ (C8 (wI (ij25+1)) y1 ij38 y70.p.Progs y70.p.Enums y70.out v r)) /\ ((y46.Card==1)=false ->((y46.Card==4)=true ->∃y71,a3l (wU (lj42.length:Int)) y71 /\ (∃y72,W6 (⟨(⟨lj27,lj28⟩:A5),lj29⟩:E0) y71 y72 /\ (S9 0 lj42 ij38 ij25 y1 y72.p.Progs y72.p.Enums y72.out v y46 r))) /\ ((y46.Card==4)=false ->((y46.Card==5)=true ->∃y77,a3l (wU (lj43.length:Int)) y77 /\ (∃y78,W6 (⟨(⟨lj27,lj28⟩:A5),lj29⟩:E0) y77 y78 /\ (T0 0 lj43 ij38 ij25 y1 y78.p.Progs y78.p.Enums y78.out v y46 r))) /\ ((y46.Card==5)=false ->((!bz4)=true ->∃y87,W6 (⟨(⟨lj27,lj28⟩:A5),lj29⟩:E0) (⟨#[0]⟩:ByteArray) y87 /\ (C8 (wI (ij25+1)) y1 ij38 y87.p.Progs y87.p.Enums y87.out v r)) /\ ((!bz4)=false ->∃y88,W6 (⟨(⟨lj27,lj28⟩:A5),lj29⟩:E0) (⟨#[1]⟩:ByteArray) y88 /\ (∃y89,Z0 y88 y46 (⟨ij39,ij40,sj41,lj42,lj43,lj44,lj45⟩:A0) y89 /\ (C8 (wI (ij25+1)) y1 ij38 y89.p.Progs y89.p.Enums y89.out v r))))))):S7 ij38 bz4 ij25 y1 lj27 lj28 lj29 v y46 ij39 ij40 sj41 lj42 lj43 lj44 lj45 r:=
 KW 13 hw (fun _ hw=>KI1 4 hw d9t fun _ hw=>KJl 9 [] hw M3) fun _ hw=>KW 6 hw (fun _ hw=>KL 5 M5 lj42<|KC 1 hw f9s fun _ hw=>KI1 0 hw d0l fun _ hw=>KL 6 M5 lj42<|KJl 5 [] hw a3v) fun _ hw=>KW 6 hw (fun _ hw=>KL 5 C7 lj43<|KC 1 hw f9s fun _ hw=>KI1 0 hw d0l fun _ hw=>KL 6 C7 lj43<|KJl 5 [] hw a3t) fun _ hw=>KW 7 hw (fun _ hw=>KI1 3 hw d0l fun _ hw=>KJl 12 [] hw M3) fun _ hw=>KI1 5 hw d0l fun _ hw=>KI1 6 hw d9t fun _ hw=>KJl 9 [] hw M3
theorem X5 (ij25:Int) (y1:B6) (ij26:Int) (lj27:(List B6)) (lj28:(List V5)) (lj29:(List Int)) (v:A0) (r:E0) (hw:((decide (ij25<(y1.Ops.length:Int)))=true ->∃y46,y1.Ops[ij25.toNat]? =some y46 /\ 0<=ij25 /\ (∃R4:Bool ->Prop,(∀bz4:Bool,R4 bz4 ->((bz4=true ->∃y49,v.Slots[ij26.toNat]? =some y49 /\ 0<=ij26 /\ (S7 (wI (ij26+1)) bz4 ij25 y1 lj27 lj28 lj29 v y46 y49.2.Kind y49.2.Bits y49.2.Text y49.2.List_ y49.2.Pairs y49.2.Slots y49.2.Raws r)) /\ (bz4=false ->S7 ij26 bz4 ij25 y1 lj27 lj28 lj29 v y46 0 0 (⟨#[]⟩:ByteArray) ([]:(List A0)) ([]:(List (A0 × A0))) ([]:(List (Int × A0))) ([]:(List Q0)) r))) /\ (((decide (ij26<(v.Slots.length:Int)))=true ->∃y48,v.Slots[ij26.toNat]? =some y48 /\ 0<=ij26 /\ (R4 (y48.1==y46.Num))) /\ ((decide (ij26<(v.Slots.length:Int)))=false ->R4 false)))) /\ ((decide (ij25<(y1.Ops.length:Int)))=false ->r=(⟨(⟨lj27,lj28⟩:A5),lj29⟩:E0))):C8 ij25 y1 ij26 lj27 lj28 lj29 v r:=
 KW 7 hw (fun _ hw=>KI 6 c0n hw fun _ hw=>KD 6 [1,2]<|KL 3 C4 v.Slots<|KQ 2 10 kB hw (fun _ hw=>KW 15 hw (fun _ hw=>KI 5 C4 hw fun _ hw=>KJ 11 [] hw) fun _ hw=>KNb 2 3 3<|KNb 0 3 4<|KNb 0 3 5<|KNb 0 3 6<|KJ 0 [] hw) (fun _ key _ hw=>KI 3 C4 hw fun _ hw=>KE 6 key hw) fun _ key _ hw=>KE 10 key hw) fun _ hw=>KRi 4 hw g49
theorem b48 (w:E0) (prog:Int) (v:A0) (r:E0) (hw:∃y1,w.p.Progs[prog.toNat]? =some y1 /\ 0<=prog /\ (C8 0 y1 0 w.p.Progs w.p.Enums w.out v r)):Z6 w prog v r:=
 fIO (KI 18 P3 hw fun y1 hw=>KL 2 c0n y1.Ops<|KJ 5 [] hw)
theorem f8a (r:A0):plain (e59 r)=true:=(B5 r)
def a9e (ij1:Int) (y1:(List (Int × A0))) (prog:Int) (p:A5) (lj2:(List (Int × A0))) (r:A0):Prop:=J Tryz.prog 59 (.ret (e59 r)) 7 [(32,aI ij1),(31,aI (y1.length:Int)),(30,.sl (List.map B3 y1) .no),(7,.ptr 3 0),(6,.ptr 2 0),(3,.ptr 0 0),(1,aI prog)] ⟨[some (B7 p),none,some zV,some [aI 10,aU 0,aE,.nil,.nil,.sl (List.map B3 lj2) (.own 0),.sl (List.map T1 ([]:List Q0)) .no]],[(lj2.length,8)],[]⟩
def d49 (ij3:Int) (y12:(List (Int × A0))) (prog:Int) (p:A5) (v:A0) (lj4:(List (Int × A0))) (r:A0):Prop:=J Tryz.prog 59 (.ret (e59 r)) 7 [(32,aI ij3),(31,aI (y12.length:Int)),(30,.sl (List.map B3 y12) .no),(7,.ptr 4 0),(6,.ptr 2 0),(3,.ptr 0 0),(1,aI prog)] ⟨[some (B7 p),none,some zV,some (cellsOf T1 v.Raws),some [aI 10,aU 0,aE,.nil,.nil,.sl (List.map B3 lj4) (.own 0),.row 3 0 4 v.Raws.length v.Raws.length]],[(lj4.length,8)],[]⟩
theorem a9u {ij1:Int} {y1:(List (Int × A0))} {prog:Int} {p:A5} {lj2:(List (Int × A0))}:a9l [true,false,true,true] 1 [(32,aI ij1),(31,aI (y1.length:Int)),(30,.sl (List.map B3 y1) .no),(7,.ptr 3 0),(6,.ptr 2 0),(3,.ptr 0 0),(1,aI prog)]=true /\ a6x [true,false,true,true] 1 [some (B7 p),none,some zV,some [aI 10,aU 0,aE,.nil,.nil,.sl (List.map B3 lj2) (.own 0),.sl (List.map T1 ([]:List Q0)) .no]]=true:=⟨by first|rfl|simp,by first|rfl|simp⟩
theorem c50 {ij3:Int} {y12:(List (Int × A0))} {prog:Int} {p:A5} {v:A0} {lj4:(List (Int × A0))}:a9l [true,false,true,true,true] 1 [(32,aI ij3),(31,aI (y12.length:Int)),(30,.sl (List.map B3 y12) .no),(7,.ptr 4 0),(6,.ptr 2 0),(3,.ptr 0 0),(1,aI prog)]=true /\ a6x [true,false,true,true,true] 1 [some (B7 p),none,some zV,some (cellsOf T1 v.Raws),some [aI 10,aU 0,aE,.nil,.nil,.sl (List.map B3 lj4) (.own 0),.row 3 0 4 v.Raws.length v.Raws.length]]=true:=⟨by first|rfl|simp,by first|rfl|simp⟩
theorem b3v (ij1:Int) (y1:(List (Int × A0))) (prog:Int) (p:A5) (lj2:(List (Int × A0))) (r:A0) (hw:((decide (ij1<(y1.length:Int)))=true ->∃y7,y1[ij1.toNat]? =some y7 /\ 0<=ij1 /\ (∃y8,p.Progs[prog.toNat]? =some y8 /\ 0<=prog /\ (∃y9,b98 y8 y7.1 y9 /\ (∃y10,b27 p y9.1 y7.2 y10 /\ (∃R2:Bool ->Prop,(∀bz2:Bool,R2 bz2 ->((bz2=true ->(lj2.length+[(y7.1,y10)].length)*136<=140737488355328 /\ (a9e (wI (ij1+1)) y1 prog p (lj2++[(y7.1,y10)]) r)) /\ (bz2=false ->a9e (wI (ij1+1)) y1 prog p lj2 r))) /\ (((!(((y9.1.Card==3)||(y9.1.Card==4))||(y9.1.Card==5)))=true ->R2 true) /\ ((!(((y9.1.Card==3)||(y9.1.Card==4))||(y9.1.Card==5)))=false ->∃y11,c3q y10 y11 /\ (R2 (!y11))))))))) /\ ((decide (ij1<(y1.length:Int)))=false ->Y1 (⟨111,[],[],rfl⟩:GFn) /\ (r=(⟨10,0,(⟨#[]⟩:ByteArray),([]:(List A0)),([]:(List (A0 × A0))),lj2,([]:List Q0)⟩:A0)))):a9e ij1 y1 prog p lj2 r:=
 KW 7 hw (fun _ hw=>KI 6 C4 hw fun _ hw=>KD 6 [0,4]<|KI 3 P3 hw fun _ hw=>KC 3 hw e24 fun _ hw=>KV 4<|KT 10 4<|KT 1 4<|KC 9 hw g6e fun _ hw=>KQ 9 4 kB hw (fun _ hw=>KW 2 hw (fun _ hw=>KA 8 C4 hw mE fun hw=>KJl 10 [] hw a9u) fun _ hw=>KJl 8 [] hw a9u) (fun _ key _ hw=>KE 4 key hw) fun _ key _ hw=>KC 1 hw g5j fun _ hw=>KE 2 key hw) fun _ hw=>KC0 9 hw g3y fun hw=>KR 9 hw f8a
theorem c9k (p:A5) (prog:Int) (v:A0) (r:A0) (hw:(v.Raws=[] ->a9a v.Raws ([]:List Q0) /\ ((((decide (prog<0))||(decide ((p.Progs.length:Int)<=prog)))=true ->r=(⟨10,0,(⟨#[]⟩:ByteArray),([]:(List A0)),([]:(List (A0 × A0))),([]:(List (Int × A0))),([]:List Q0)⟩:A0)) /\ (((decide (prog<0))||(decide ((p.Progs.length:Int)<=prog)))=false ->∃y1,b1c v.Slots y1 /\ (a9e 0 y1 prog p ([]:List (Int × A0)) r)))) /\ (v.Raws≠[] ->b3a v.Raws /\ ((((decide (prog<0))||(decide ((p.Progs.length:Int)<=prog)))=true ->v.Raws.length=v.Raws.length /\ (r=(⟨10,0,(⟨#[]⟩:ByteArray),([]:(List A0)),([]:(List (A0 × A0))),([]:(List (Int × A0))),v.Raws⟩:A0))) /\ (((decide (prog<0))||(decide ((p.Progs.length:Int)<=prog)))=false ->∃y12,b1c v.Slots y12 /\ (d49 0 y12 prog p v ([]:List (Int × A0)) r))))):b05 p prog v r:=
 fP (g8a v.Raws (fun hb1=>KC0 11 (hw.1 hb1) g8u fun hw=>KT2 11 6 (decide (prog<0)) (fun z=>aB (z||(decide ((p.Progs.length:Int)<=prog)))) (fun _ key=>KE2 6 key) (fun _ key=>KL 3 P3 p.Progs<|KE2 2 key)<|KW 2 hw (fun _ hw=>KR 8 hw f8a) fun _ hw=>KC 7 hw g0c fun y1 hw=>KL 0 C4 y1<|KOb 5 3 5 8<|KJl 0 [] hw a9u) fun hb1=>KNw 11 b5a hb1 (hw.2 hb1) fun hw=>KT2 11 6 (decide (prog<0)) (fun z=>aB (z||(decide ((p.Progs.length:Int)<=prog)))) (fun _ key=>KE2 6 key) (fun _ key=>KL 3 P3 p.Progs<|KE2 2 key)<|KW 2 hw (fun _ hw=>KDg 6 b5a 3 [true,true,true,false,true] 0 0 2 [(6,.ptr 2 0)] [some (B7 p),some (B0 v),some [aI 10,aU 0,aE,.nil,.nil,.nil,.sl (List.map T1 v.Raws) .no],none,some [aI 10,aU 0,aE,.nil,.nil,.nil,.sl (List.map T1 v.Raws) .no]] ⟨by first|rfl|simp,by first|rfl|simp⟩ hw fun hw=>KR 2 hw f8a) fun _ hw=>KC 7 hw g0c fun y12 hw=>KL 0 C4 y12<|KOb 5 4 5 8<|KJl 0 [] hw c50)
theorem f66 (r:(A3 × Int)):plain (e60 r)=true:=(c6m (A6 (C5 r.1) (A6 rfl rfl)))
theorem a9n (data:ByteArray) (l:Y3) (r:(A3 × Int)) (hw:(((((decide (l.Bytes<0))||(decide (l.Depth<0)))||(decide (l.Nodes<0)))||(decide (l.Text<0)))=true ->r=((⟨(⟨#[]⟩:ByteArray),0,0,0,0,0⟩:A3),1)) /\ (((((decide (l.Bytes<0))||(decide (l.Depth<0)))||(decide (l.Nodes<0)))||(decide (l.Text<0)))=false ->((decide (l.Bytes<(data.size:Int)))=true ->r=((⟨(⟨#[]⟩:ByteArray),0,0,0,0,0⟩:A3),3)) /\ ((decide (l.Bytes<(data.size:Int)))=false ->r=((⟨data,0,(data.size:Int),l.Depth,l.Nodes,l.Text⟩:A3),0)))):c75 data l r:=
 fP (KT 15 4<|KT 1 4<|KT 1 4<|KW 3 hw (fun _ hw=>KR 10 hw f66) fun _ hw=>KW 10 hw (fun _ hw=>KR 10 hw f66) fun _ hw=>KR 20 hw f66)
end
section
attribute [local irreducible] Ok run put c9l br jn pos dr0 dr1 So
attribute [-simp] List.map_take List.map_drop List.map_append List.map_set List.map_replicate List.map_cons List.map_map
attribute [local simp] plain plainL a9l a6x Z8 low lowL lowLL K8 G3 G8 F9 K1 H3 G5 G4 L7 T7 a0m T6 a1o O7 T4 G1 H7 T5 K3 B5 F1 O6 E5 O2 E6 P6 K7 S0 K6 U8 N9 W0 Q5 F2 S5 K5 H8 C5 M4 N8 O9 H4 F7 X1 U1 Z1 W1 G0 Q7 a0n a0c a57 a3c c5a d58 c7s c7e a87 b0q c8j c8d b66 c1n e5m eFn b8u b3y b39 b3k b84 b40 b3o b4e b80 c21 c4n b30 b82 b0y b33 b34 b4h b4o b4c b4m b3s a5s a7v a7t a0l a7j a7g a29 a75 b0w c4c b8h b8j b4j b43 b3z b8f b3f b4d b4u b8t c4i c26 b4v b8s b0t b4r b3x b3l b4y b4q b41 b45 a5r a7h a7l a0p a7x a71 a3b a7y b03 c4j b3p b8q b0u b4k b36 b3h b4t b4f b42 b4s a5j a7i a7w a0t a74 a7n a3h a72 b02 d0c
theorem d4x (r:(A7 × (A0 × Int))):plain (e61 r)=true /\ (D0 r.1).all ok1=true /\ lowL [true] 0 (D0 r.1)=true /\ (J5 r.1).length=0:=⟨g14 r,I8 _,a42 _,rfl⟩
def N6 (bj119:Bool) (ij120:Int) (ij94:Int) (lj121:(List B6)) (lj122:(List V5)) (sj123:ByteArray) (ij124:Int) (ij125:Int) (ij126:Int) (ij127:Int) (ij128:Int) (lj103:(List (Int × A0))) (y2:B6) (y23:GOp) (ij129:Int) (ij130:Int) (sj131:ByteArray) (lj132:(List A0)) (lj133:(List (A0 × A0))) (lj134:(List (Int × A0))) (lj135:(List Q0)) (r:(A7 × (A0 × Int))):Prop:=J Tryz.prog 61 (.io 0 (e61 r) (D0 r.1) (J5 r.1)) 23 [(12,aB bj119),(13,aI ij120),(9,aI ij94),(11,.ptr 5 0),(10,.ptr 4 0),(8,.ptr 3 0),(6,.ptr 2 0),(4,.ptr 1 0),(0,.ptr 0 0)] ⟨[some [.sl (List.map E2 lj121) .no,.sl (List.map Q4 lj122) .no,aS sj123,aI ij124,aI ij125,aI ij126,aI ij127,aI ij128],some zV,some [aI 10,aU 0,aE,.nil,.nil,.sl (List.map B3 lj103) (.own 0),.nil],some (E2 y2),some (W3 y23),some [aI ij129,aU ij130,aS sj131,.sl (List.map C0 lj132) .no,.sl (List.map B4 lj133) .no,.sl (List.map B3 lj134) .no,.sl (List.map T1 lj135) .no]],[(lj103.length,8)],[]⟩
def S4 (ij94:Int) (lj95:(List B6)) (lj96:(List V5)) (sj97:ByteArray) (ij98:Int) (ij99:Int) (ij100:Int) (ij101:Int) (ij102:Int) (lj103:(List (Int × A0))) (y2:B6) (ij104:Int) (sj105:ByteArray) (sj106:ByteArray) (ij107:Int) (ij108:Int) (ij109:Int) (ij110:Int) (ij111:Int) (ij112:Int) (ij113:Int) (sj114:ByteArray) (lj115:(List A0)) (lj116:(List (A0 × A0))) (lj117:(List (Int × A0))) (lj118:(List Q0)) (r:(A7 × (A0 × Int))):Prop:=J Tryz.prog 61 (.io 0 (e61 r) (D0 r.1) (J5 r.1)) 1 [(9,aI ij94),(11,.ptr 5 0),(10,.ptr 4 0),(8,.ptr 3 0),(6,.ptr 2 0),(4,.ptr 1 0),(0,.ptr 0 0)] ⟨[some [.sl (List.map E2 lj95) .no,.sl (List.map Q4 lj96) .no,aS sj97,aI ij98,aI ij99,aI ij100,aI ij101,aI ij102],some zV,some [aI 10,aU 0,aE,.nil,.nil,.sl (List.map B3 lj103) (.own 0),.nil],some (E2 y2),some [aI ij104,aS sj105,aS sj106,aI ij107,aI ij108,aI ij109,aI ij110,aI ij111],some [aI ij112,aU ij113,aS sj114,.sl (List.map C0 lj115) .no,.sl (List.map B4 lj116) .no,.sl (List.map B3 lj117) .no,.sl (List.map T1 lj118) .no]],[(lj103.length,8)],[]⟩
def N7 (bj178:Bool) (ij179:Int) (ij153:Int) (lj180:(List B6)) (lj181:(List V5)) (sj182:ByteArray) (ij183:Int) (ij184:Int) (ij185:Int) (ij186:Int) (ij187:Int) (lj162:(List (Int × A0))) (y2:B6) (y33:GOp) (ij188:Int) (ij189:Int) (sj190:ByteArray) (lj191:(List A0)) (lj192:(List (A0 × A0))) (lj193:(List (Int × A0))) (lj194:(List Q0)) (r:(A7 × (A0 × Int))):Prop:=J Tryz.prog 61 (.io 0 (e61 r) (D0 r.1) (J5 r.1)) 23 [(12,aB bj178),(13,aI ij179),(9,aI ij153),(11,.ptr 5 0),(10,.ptr 4 0),(8,.ptr 3 0),(6,.ptr 2 0),(4,.ptr 1 0),(0,.ptr 0 0)] ⟨[some [.sl (List.map E2 lj180) .no,.sl (List.map Q4 lj181) .no,aS sj182,aI ij183,aI ij184,aI ij185,aI ij186,aI ij187],some zV,some [aI 10,aU 0,aE,.nil,.nil,.sl (List.map B3 lj162) (.own 0),.nil],some (E2 y2),some (W3 y33),some [aI ij188,aU ij189,aS sj190,.sl (List.map C0 lj191) .no,.sl (List.map B4 lj192) .no,.sl (List.map B3 lj193) .no,.sl (List.map T1 lj194) .no]],[(lj162.length,8)],[]⟩
def S3 (ij153:Int) (lj154:(List B6)) (lj155:(List V5)) (sj156:ByteArray) (ij157:Int) (ij158:Int) (ij159:Int) (ij160:Int) (ij161:Int) (lj162:(List (Int × A0))) (y2:B6) (ij163:Int) (sj164:ByteArray) (sj165:ByteArray) (ij166:Int) (ij167:Int) (ij168:Int) (ij169:Int) (ij170:Int) (ij171:Int) (ij172:Int) (sj173:ByteArray) (lj174:(List A0)) (lj175:(List (A0 × A0))) (lj176:(List (Int × A0))) (lj177:(List Q0)) (r:(A7 × (A0 × Int))):Prop:=J Tryz.prog 61 (.io 0 (e61 r) (D0 r.1) (J5 r.1)) 1 [(9,aI ij153),(11,.ptr 5 0),(10,.ptr 4 0),(8,.ptr 3 0),(6,.ptr 2 0),(4,.ptr 1 0),(0,.ptr 0 0)] ⟨[some [.sl (List.map E2 lj154) .no,.sl (List.map Q4 lj155) .no,aS sj156,aI ij157,aI ij158,aI ij159,aI ij160,aI ij161],some zV,some [aI 10,aU 0,aE,.nil,.nil,.sl (List.map B3 lj162) (.own 0),.nil],some (E2 y2),some [aI ij163,aS sj164,aS sj165,aI ij166,aI ij167,aI ij168,aI ij169,aI ij170],some [aI ij171,aU ij172,aS sj173,.sl (List.map C0 lj174) .no,.sl (List.map B4 lj175) .no,.sl (List.map B3 lj176) .no,.sl (List.map T1 lj177) .no]],[(lj162.length,8)],[]⟩
def P5 (bj60:Bool) (ij61:Int) (lj62:(List B6)) (lj63:(List V5)) (sj64:ByteArray) (ij65:Int) (ij66:Int) (ij67:Int) (ij68:Int) (ij69:Int) (y2:B6) (y3:GOp) (ij70:Int) (ij71:Int) (sj72:ByteArray) (lj73:(List A0)) (lj74:(List (A0 × A0))) (lj75:(List (Int × A0))) (lj76:(List Q0)) (r:(A7 × (A0 × Int))):Prop:=J Tryz.prog 61 (.io 0 (e61 r) (D0 r.1) (J5 r.1)) 23 [(12,aB bj60),(13,aI ij61),(11,.ptr 5 0),(10,.ptr 4 0),(9,aI 0),(8,.ptr 3 0),(6,.ptr 2 0),(4,.ptr 1 0),(0,.ptr 0 0)] ⟨[some [.sl (List.map E2 lj62) .no,.sl (List.map Q4 lj63) .no,aS sj64,aI ij65,aI ij66,aI ij67,aI ij68,aI ij69],some zV,some [aI 10,aU 0,aE,.nil,.nil,.nil,.nil],some (E2 y2),some (W3 y3),some [aI ij70,aU ij71,aS sj72,.sl (List.map C0 lj73) .no,.sl (List.map B4 lj74) .no,.sl (List.map B3 lj75) .no,.sl (List.map T1 lj76) .no]],[],[]⟩
theorem a2g (bj119:Bool) (ij120:Int) (ij94:Int) (lj121:(List B6)) (lj122:(List V5)) (sj123:ByteArray) (ij124:Int) (ij125:Int) (ij126:Int) (ij127:Int) (ij128:Int) (lj103:(List (Int × A0))) (y2:B6) (y23:GOp) (ij129:Int) (ij130:Int) (sj131:ByteArray) (lj132:(List A0)) (lj133:(List (A0 × A0))) (lj134:(List (Int × A0))) (lj135:(List Q0)) (r:(A7 × (A0 × Int))) (hw:((ij120 !=0)=true ->r=((⟨(⟨lj121,lj122⟩:A5),(⟨sj123,ij124,ij125,ij126,ij127,ij128⟩:A3)⟩:A7),(⟨10,0,(⟨#[]⟩:ByteArray),([]:(List A0)),([]:(List (A0 × A0))),lj103,([]:(List Q0))⟩:A0),ij120)) /\ ((ij120 !=0)=false ->(bj119=true ->(lj103.length+[(y23.Num,(⟨ij129,ij130,sj131,lj132,lj133,lj134,lj135⟩:A0))].length)*136<=140737488355328 /\ (S4 (wI (ij94+1)) lj121 lj122 sj123 ij124 ij125 ij126 ij127 ij128 (lj103++[(y23.Num,(⟨ij129,ij130,sj131,lj132,lj133,lj134,lj135⟩:A0))]) y2 y23.Num y23.Name y23.Alias y23.Card y23.Key y23.Kind y23.Target y23.Union ij129 ij130 sj131 lj132 lj133 lj134 lj135 r)) /\ (bj119=false ->S4 (wI (ij94+1)) lj121 lj122 sj123 ij124 ij125 ij126 ij127 ij128 lj103 y2 y23.Num y23.Name y23.Alias y23.Card y23.Key y23.Kind y23.Target y23.Union ij129 ij130 sj131 lj132 lj133 lj134 lj135 r))):N6 bj119 ij120 ij94 lj121 lj122 sj123 ij124 ij125 ij126 ij127 ij128 lj103 y2 y23 ij129 ij130 sj131 lj132 lj133 lj134 lj135 r:=
 KW 7 hw (fun _ hw=>KRi 11 hw d4x) fun _ hw=>KW 8 hw (fun _ hw=>KA 8 C4 hw mE fun hw=>KJ 13 [] hw) fun _ hw=>KJ 11 [] hw
theorem a2z (ij94:Int) (lj95:(List B6)) (lj96:(List V5)) (sj97:ByteArray) (ij98:Int) (ij99:Int) (ij100:Int) (ij101:Int) (ij102:Int) (lj103:(List (Int × A0))) (y2:B6) (ij104:Int) (sj105:ByteArray) (sj106:ByteArray) (ij107:Int) (ij108:Int) (ij109:Int) (ij110:Int) (ij111:Int) (ij112:Int) (ij113:Int) (sj114:ByteArray) (lj115:(List A0)) (lj116:(List (A0 × A0))) (lj117:(List (Int × A0))) (lj118:(List Q0)) (r:(A7 × (A0 × Int))) (hw:((ij94==(y2.Ops.length:Int))=true ->r=((⟨(⟨lj95,lj96⟩:A5),(⟨sj97,ij98,ij99,(wI (ij100+1)),ij101,ij102⟩:A3)⟩:A7),(⟨10,0,(⟨#[]⟩:ByteArray),([]:(List A0)),([]:(List (A0 × A0))),lj103,([]:(List Q0))⟩:A0),0)) /\ ((ij94==(y2.Ops.length:Int))=false ->∃y23,y2.Ops[ij94.toNat]? =some y23 /\ 0<=ij94 /\ (((y23.Card==1)=true ->∃y24,G2 (⟨(⟨lj95,lj96⟩:A5),(⟨sj97,ij98,ij99,ij100,ij101,ij102⟩:A3)⟩:A7) y23 y24 /\ (N6 true y24.2.2 ij94 y24.1.p.Progs y24.1.p.Enums y24.1.c.Data y24.1.c.At y24.1.c.End y24.1.c.Depth y24.1.c.Nodes y24.1.c.Text lj103 y2 y23 y24.2.1.Kind y24.2.1.Bits y24.2.1.Text y24.2.1.List_ y24.2.1.Pairs y24.2.1.Slots y24.2.1.Raws r)) /\ ((y23.Card==1)=false ->((y23.Card==4)=true ->∃y25,a0q (⟨(⟨lj95,lj96⟩:A5),(⟨sj97,ij98,ij99,ij100,ij101,ij102⟩:A3)⟩:A7) y23 y25 /\ (N6 (decide (0<(y25.2.1.List_.length:Int))) y25.2.2 ij94 y25.1.p.Progs y25.1.p.Enums y25.1.c.Data y25.1.c.At y25.1.c.End y25.1.c.Depth y25.1.c.Nodes y25.1.c.Text lj103 y2 y23 y25.2.1.Kind y25.2.1.Bits y25.2.1.Text y25.2.1.List_ y25.2.1.Pairs y25.2.1.Slots y25.2.1.Raws r)) /\ ((y23.Card==4)=false ->((y23.Card==5)=true ->∃y26,Y8 (⟨(⟨lj95,lj96⟩:A5),(⟨sj97,ij98,ij99,ij100,ij101,ij102⟩:A3)⟩:A7) y23 y26 /\ (N6 (decide (0<(y26.2.1.Pairs.length:Int))) y26.2.2 ij94 y26.1.p.Progs y26.1.p.Enums y26.1.c.Data y26.1.c.At y26.1.c.End y26.1.c.Depth y26.1.c.Nodes y26.1.c.Text lj103 y2 y23 y26.2.1.Kind y26.2.1.Bits y26.2.1.Text y26.2.1.List_ y26.2.1.Pairs y26.2.1.Slots y26.2.1.Raws r)) /\ ((y23.Card==5)=false ->∃y27,Y6 (⟨(⟨lj95,lj96⟩:A5),(⟨sj97,ij98,ij99,ij100,ij101,ij102⟩:A3)⟩:A7) y2 (⟨10,0,(⟨#[]⟩:ByteArray),([]:(List A0)),([]:(List (A0 × A0))),lj103,([]:(List Q0))⟩:A0) y23 y27 /\ (N6 y27.2.2.1 y27.2.2.2 ij94 y27.1.p.Progs y27.1.p.Enums y27.1.c.Data y27.1.c.At y27.1.c.End y27.1.c.Depth y27.1.c.Nodes y27.1.c.Text lj103 y2 y23 y27.2.1.Kind y27.2.1.Bits y27.2.1.Text y27.2.1.List_ y27.2.1.Pairs y27.2.1.Slots y27.2.1.Raws r))))))):S4 ij94 lj95 lj96 sj97 ij98 ij99 ij100 ij101 ij102 lj103 y2 ij104 sj105 sj106 ij107 ij108 ij109 ij110 ij111 ij112 ij113 sj114 lj115 lj116 lj117 lj118 r:=
 KL 10 c0n y2.Ops<|KW 3 hw (fun _ hw=>KRi 24 hw d4x) fun _ hw=>KI 7 c0n hw fun _ hw=>KW 18 hw (fun _ hw=>KIO 4 hw c8e fun _ hw=>KJ 12 [] hw) fun _ hw=>KW 6 hw (fun _ hw=>KIO 4 hw e5i fun y25 hw=>KL 10 M5 y25.2.1.List_<|KJ 5 [] hw) fun _ hw=>KW 6 hw (fun _ hw=>KIO 4 hw e7a fun y26 hw=>KL 10 C7 y26.2.1.Pairs<|KJ 5 [] hw) fun _ hw=>KIO 5 hw e3r fun _ hw=>KJ 10 [] hw
theorem a2c (bj178:Bool) (ij179:Int) (ij153:Int) (lj180:(List B6)) (lj181:(List V5)) (sj182:ByteArray) (ij183:Int) (ij184:Int) (ij185:Int) (ij186:Int) (ij187:Int) (lj162:(List (Int × A0))) (y2:B6) (y33:GOp) (ij188:Int) (ij189:Int) (sj190:ByteArray) (lj191:(List A0)) (lj192:(List (A0 × A0))) (lj193:(List (Int × A0))) (lj194:(List Q0)) (r:(A7 × (A0 × Int))) (hw:((ij179 !=0)=true ->r=((⟨(⟨lj180,lj181⟩:A5),(⟨sj182,ij183,ij184,ij185,ij186,ij187⟩:A3)⟩:A7),(⟨10,0,(⟨#[]⟩:ByteArray),([]:(List A0)),([]:(List (A0 × A0))),lj162,([]:(List Q0))⟩:A0),ij179)) /\ ((ij179 !=0)=false ->(bj178=true ->(lj162.length+[(y33.Num,(⟨ij188,ij189,sj190,lj191,lj192,lj193,lj194⟩:A0))].length)*136<=140737488355328 /\ (S3 (wI (ij153+1)) lj180 lj181 sj182 ij183 ij184 ij185 ij186 ij187 (lj162++[(y33.Num,(⟨ij188,ij189,sj190,lj191,lj192,lj193,lj194⟩:A0))]) y2 y33.Num y33.Name y33.Alias y33.Card y33.Key y33.Kind y33.Target y33.Union ij188 ij189 sj190 lj191 lj192 lj193 lj194 r)) /\ (bj178=false ->S3 (wI (ij153+1)) lj180 lj181 sj182 ij183 ij184 ij185 ij186 ij187 lj162 y2 y33.Num y33.Name y33.Alias y33.Card y33.Key y33.Kind y33.Target y33.Union ij188 ij189 sj190 lj191 lj192 lj193 lj194 r))):N7 bj178 ij179 ij153 lj180 lj181 sj182 ij183 ij184 ij185 ij186 ij187 lj162 y2 y33 ij188 ij189 sj190 lj191 lj192 lj193 lj194 r:=
 KW 7 hw (fun _ hw=>KRi 11 hw d4x) fun _ hw=>KW 8 hw (fun _ hw=>KA 8 C4 hw mE fun hw=>KJ 13 [] hw) fun _ hw=>KJ 11 [] hw
theorem a2n (ij153:Int) (lj154:(List B6)) (lj155:(List V5)) (sj156:ByteArray) (ij157:Int) (ij158:Int) (ij159:Int) (ij160:Int) (ij161:Int) (lj162:(List (Int × A0))) (y2:B6) (ij163:Int) (sj164:ByteArray) (sj165:ByteArray) (ij166:Int) (ij167:Int) (ij168:Int) (ij169:Int) (ij170:Int) (ij171:Int) (ij172:Int) (sj173:ByteArray) (lj174:(List A0)) (lj175:(List (A0 × A0))) (lj176:(List (Int × A0))) (lj177:(List Q0)) (r:(A7 × (A0 × Int))) (hw:((ij153==(y2.Ops.length:Int))=true ->r=((⟨(⟨lj154,lj155⟩:A5),(⟨sj156,ij157,ij158,(wI (ij159+1)),ij160,ij161⟩:A3)⟩:A7),(⟨10,0,(⟨#[]⟩:ByteArray),([]:(List A0)),([]:(List (A0 × A0))),lj162,([]:(List Q0))⟩:A0),0)) /\ ((ij153==(y2.Ops.length:Int))=false ->∃y33,y2.Ops[ij153.toNat]? =some y33 /\ 0<=ij153 /\ (((y33.Card==1)=true ->∃y34,G2 (⟨(⟨lj154,lj155⟩:A5),(⟨sj156,ij157,ij158,ij159,ij160,ij161⟩:A3)⟩:A7) y33 y34 /\ (N7 true y34.2.2 ij153 y34.1.p.Progs y34.1.p.Enums y34.1.c.Data y34.1.c.At y34.1.c.End y34.1.c.Depth y34.1.c.Nodes y34.1.c.Text lj162 y2 y33 y34.2.1.Kind y34.2.1.Bits y34.2.1.Text y34.2.1.List_ y34.2.1.Pairs y34.2.1.Slots y34.2.1.Raws r)) /\ ((y33.Card==1)=false ->((y33.Card==4)=true ->∃y35,a0q (⟨(⟨lj154,lj155⟩:A5),(⟨sj156,ij157,ij158,ij159,ij160,ij161⟩:A3)⟩:A7) y33 y35 /\ (N7 (decide (0<(y35.2.1.List_.length:Int))) y35.2.2 ij153 y35.1.p.Progs y35.1.p.Enums y35.1.c.Data y35.1.c.At y35.1.c.End y35.1.c.Depth y35.1.c.Nodes y35.1.c.Text lj162 y2 y33 y35.2.1.Kind y35.2.1.Bits y35.2.1.Text y35.2.1.List_ y35.2.1.Pairs y35.2.1.Slots y35.2.1.Raws r)) /\ ((y33.Card==4)=false ->((y33.Card==5)=true ->∃y36,Y8 (⟨(⟨lj154,lj155⟩:A5),(⟨sj156,ij157,ij158,ij159,ij160,ij161⟩:A3)⟩:A7) y33 y36 /\ (N7 (decide (0<(y36.2.1.Pairs.length:Int))) y36.2.2 ij153 y36.1.p.Progs y36.1.p.Enums y36.1.c.Data y36.1.c.At y36.1.c.End y36.1.c.Depth y36.1.c.Nodes y36.1.c.Text lj162 y2 y33 y36.2.1.Kind y36.2.1.Bits y36.2.1.Text y36.2.1.List_ y36.2.1.Pairs y36.2.1.Slots y36.2.1.Raws r)) /\ ((y33.Card==5)=false ->∃y37,Y6 (⟨(⟨lj154,lj155⟩:A5),(⟨sj156,ij157,ij158,ij159,ij160,ij161⟩:A3)⟩:A7) y2 (⟨10,0,(⟨#[]⟩:ByteArray),([]:(List A0)),([]:(List (A0 × A0))),lj162,([]:(List Q0))⟩:A0) y33 y37 /\ (N7 y37.2.2.1 y37.2.2.2 ij153 y37.1.p.Progs y37.1.p.Enums y37.1.c.Data y37.1.c.At y37.1.c.End y37.1.c.Depth y37.1.c.Nodes y37.1.c.Text lj162 y2 y33 y37.2.1.Kind y37.2.1.Bits y37.2.1.Text y37.2.1.List_ y37.2.1.Pairs y37.2.1.Slots y37.2.1.Raws r))))))):S3 ij153 lj154 lj155 sj156 ij157 ij158 ij159 ij160 ij161 lj162 y2 ij163 sj164 sj165 ij166 ij167 ij168 ij169 ij170 ij171 ij172 sj173 lj174 lj175 lj176 lj177 r:=
 KL 10 c0n y2.Ops<|KW 3 hw (fun _ hw=>KRi 24 hw d4x) fun _ hw=>KI 7 c0n hw fun _ hw=>KW 18 hw (fun _ hw=>KIO 4 hw c8e fun _ hw=>KJ 12 [] hw) fun _ hw=>KW 6 hw (fun _ hw=>KIO 4 hw e5i fun y35 hw=>KL 10 M5 y35.2.1.List_<|KJ 5 [] hw) fun _ hw=>KW 6 hw (fun _ hw=>KIO 4 hw e7a fun y36 hw=>KL 10 C7 y36.2.1.Pairs<|KJ 5 [] hw) fun _ hw=>KIO 5 hw e3r fun _ hw=>KJ 10 [] hw
theorem a3r (bj60:Bool) (ij61:Int) (lj62:(List B6)) (lj63:(List V5)) (sj64:ByteArray) (ij65:Int) (ij66:Int) (ij67:Int) (ij68:Int) (ij69:Int) (y2:B6) (y3:GOp) (ij70:Int) (ij71:Int) (sj72:ByteArray) (lj73:(List A0)) (lj74:(List (A0 × A0))) (lj75:(List (Int × A0))) (lj76:(List Q0)) (r:(A7 × (A0 × Int))) (hw:((ij61 !=0)=true ->r=((⟨(⟨lj62,lj63⟩:A5),(⟨sj64,ij65,ij66,ij67,ij68,ij69⟩:A3)⟩:A7),(⟨10,0,(⟨#[]⟩:ByteArray),([]:(List A0)),([]:(List (A0 × A0))),([]:(List (Int × A0))),([]:(List Q0))⟩:A0),ij61)) /\ ((ij61 !=0)=false ->(bj60=true ->[(y3.Num,(⟨ij70,ij71,sj72,lj73,lj74,lj75,lj76⟩:A0))].length*136<=140737488355328 /\ (S4 1 lj62 lj63 sj64 ij65 ij66 ij67 ij68 ij69 [(y3.Num,(⟨ij70,ij71,sj72,lj73,lj74,lj75,lj76⟩:A0))] y2 y3.Num y3.Name y3.Alias y3.Card y3.Key y3.Kind y3.Target y3.Union ij70 ij71 sj72 lj73 lj74 lj75 lj76 r)) /\ (bj60=false ->S3 1 lj62 lj63 sj64 ij65 ij66 ij67 ij68 ij69 ([]:List (Int × A0)) y2 y3.Num y3.Name y3.Alias y3.Card y3.Key y3.Kind y3.Target y3.Union ij70 ij71 sj72 lj73 lj74 lj75 lj76 r))):P5 bj60 ij61 lj62 lj63 sj64 ij65 ij66 ij67 ij68 ij69 y2 y3 ij70 ij71 sj72 lj73 lj74 lj75 lj76 r:=
 KW 7 hw (fun _ hw=>KRi 11 hw d4x) fun _ hw=>KW 8 hw (fun _ hw=>KA0 8 C4 hw mE fun hw=>KJ 13 [] hw) fun _ hw=>KOb 11 2 5 8<|KJ 0 [] hw
theorem a56 (r_:A7) (prog:Int) (r:(A7 × (A0 × Int))) (hw:((decide (r_.c.Depth<1))=true ->r=(r_,(⟨10,0,(⟨#[]⟩:ByteArray),([]:(List A0)),([]:(List (A0 × A0))),([]:(List (Int × A0))),([]:(List Q0))⟩:A0),17)) /\ ((decide (r_.c.Depth<1))=false ->∃y1,a1l r_ 1 y1 /\ (((y1.2 !=0)=true ->r=(y1.1,(⟨10,0,(⟨#[]⟩:ByteArray),([]:(List A0)),([]:(List (A0 × A0))),([]:(List (Int × A0))),([]:(List Q0))⟩:A0),y1.2)) /\ ((y1.2 !=0)=false ->∃y2,y1.1.p.Progs[prog.toNat]? =some y2 /\ 0<=prog /\ (((0==(y2.Ops.length:Int))=true ->r=((⟨y1.1.p,(⟨y1.1.c.Data,y1.1.c.At,y1.1.c.End,(wI ((wI (y1.1.c.Depth - 1))+1)),y1.1.c.Nodes,y1.1.c.Text⟩:A3)⟩:A7),(⟨10,0,(⟨#[]⟩:ByteArray),([]:(List A0)),([]:(List (A0 × A0))),([]:(List (Int × A0))),([]:(List Q0))⟩:A0),0)) /\ ((0==(y2.Ops.length:Int))=false ->∃y3,y2.Ops[(0:Int).toNat]? =some y3 /\ 0<=(0:Int) /\ (((y3.Card==1)=true ->∃y4,G2 (⟨y1.1.p,(⟨y1.1.c.Data,y1.1.c.At,y1.1.c.End,(wI (y1.1.c.Depth - 1)),y1.1.c.Nodes,y1.1.c.Text⟩:A3)⟩:A7) y3 y4 /\ (P5 true y4.2.2 y4.1.p.Progs y4.1.p.Enums y4.1.c.Data y4.1.c.At y4.1.c.End y4.1.c.Depth y4.1.c.Nodes y4.1.c.Text y2 y3 y4.2.1.Kind y4.2.1.Bits y4.2.1.Text y4.2.1.List_ y4.2.1.Pairs y4.2.1.Slots y4.2.1.Raws r)) /\ ((y3.Card==1)=false ->((y3.Card==4)=true ->∃y5,a0q (⟨y1.1.p,(⟨y1.1.c.Data,y1.1.c.At,y1.1.c.End,(wI (y1.1.c.Depth - 1)),y1.1.c.Nodes,y1.1.c.Text⟩:A3)⟩:A7) y3 y5 /\ (P5 (decide (0<(y5.2.1.List_.length:Int))) y5.2.2 y5.1.p.Progs y5.1.p.Enums y5.1.c.Data y5.1.c.At y5.1.c.End y5.1.c.Depth y5.1.c.Nodes y5.1.c.Text y2 y3 y5.2.1.Kind y5.2.1.Bits y5.2.1.Text y5.2.1.List_ y5.2.1.Pairs y5.2.1.Slots y5.2.1.Raws r)) /\ ((y3.Card==4)=false ->((y3.Card==5)=true ->∃y6,Y8 (⟨y1.1.p,(⟨y1.1.c.Data,y1.1.c.At,y1.1.c.End,(wI (y1.1.c.Depth - 1)),y1.1.c.Nodes,y1.1.c.Text⟩:A3)⟩:A7) y3 y6 /\ (P5 (decide (0<(y6.2.1.Pairs.length:Int))) y6.2.2 y6.1.p.Progs y6.1.p.Enums y6.1.c.Data y6.1.c.At y6.1.c.End y6.1.c.Depth y6.1.c.Nodes y6.1.c.Text y2 y3 y6.2.1.Kind y6.2.1.Bits y6.2.1.Text y6.2.1.List_ y6.2.1.Pairs y6.2.1.Slots y6.2.1.Raws r)) /\ ((y3.Card==5)=false ->∃y7,Y6 (⟨y1.1.p,(⟨y1.1.c.Data,y1.1.c.At,y1.1.c.End,(wI (y1.1.c.Depth - 1)),y1.1.c.Nodes,y1.1.c.Text⟩:A3)⟩:A7) y2 (⟨10,0,(⟨#[]⟩:ByteArray),([]:(List A0)),([]:(List (A0 × A0))),([]:(List (Int × A0))),([]:(List Q0))⟩:A0) y3 y7 /\ (P5 y7.2.2.1 y7.2.2.2 y7.1.p.Progs y7.1.p.Enums y7.1.c.Data y7.1.c.At y7.1.c.End y7.1.c.Depth y7.1.c.Nodes y7.1.c.Text y2 y3 y7.2.1.Kind y7.2.1.Bits y7.2.1.Text y7.2.1.List_ y7.2.1.Pairs y7.2.1.Slots y7.2.1.Raws r))))))))))):V9 r_ prog r:=
 fIO (KW 25 hw (fun _ hw=>KRi 10 hw d4x) fun _ hw=>KIO 6 hw e2h fun _ hw=>KW 9 hw (fun _ hw=>KRi 11 hw d4x) fun _ hw=>KI 24 P3 hw fun y2 hw=>KL 39 c0n y2.Ops<|KW 3 hw (fun _ hw=>KRi 24 hw d4x) fun _ hw=>KI 7 c0n hw fun _ hw=>KW 18 hw (fun _ hw=>KIO 4 hw c8e fun _ hw=>KJ 12 [] hw) fun _ hw=>KW 6 hw (fun _ hw=>KIO 4 hw e5i fun y5 hw=>KL 10 M5 y5.2.1.List_<|KJ 5 [] hw) fun _ hw=>KW 6 hw (fun _ hw=>KIO 4 hw e7a fun y6 hw=>KL 10 C7 y6.2.1.Pairs<|KJ 5 [] hw) fun _ hw=>KIO 5 hw e3r fun _ hw=>KJ 10 [] hw)
theorem g26 (r:Int):plain (e62 r)=true:=rfl
theorem c5i (c:A3) (r:Int) (hw:∃y1,b16 c y1 /\ (((!y1)=true ->r=0) /\ ((!y1)=false ->r=(wI (c.End - c.At))))):a7q c r:=
 fP (KC 10 hw f9b fun _ hw=>KW 3 hw (fun _ hw=>KR 7 hw g26) fun _ hw=>KR 13 hw g26)
theorem f5t (r:Bool):plain (e65 r)=true:=rfl
theorem c5y (v:A0) (r:Bool) (hw:((v.Kind==11)=true ->r=((v.List_.length:Int)==0)) /\ ((v.Kind==11)=false ->((v.Kind==12)=true ->r=((v.Pairs.length:Int)==0)) /\ ((v.Kind==12)=false ->∃y1,b65 v y1 /\ (r=y1)))):c9a v r:=
 fP (KW 20 hw (fun _ hw=>KL 4 M5 v.List_<|KR 7 hw f5t) fun _ hw=>KW 6 hw (fun _ hw=>KL 4 C7 v.Pairs<|KR 7 hw f5t) fun _ hw=>KC 6 hw g82 fun _ hw=>KR 4 hw f5t)
theorem g7f (r:Bool):plain (e69 r)=true:=rfl
def a20 (ij5:Int) (bj6:Bool) (p:A5) (r:Bool):Prop:=J Tryz.prog 69 (.ret (e69 r)) 10 [(5,aI ij5),(3,aB bj6),(1,.ptr 0 0)] ⟨[some (B7 p)],[],[]⟩
def a22 (ij3:Int) (bj4:Bool) (p:A5) (r:Bool):Prop:=J Tryz.prog 69 (.ret (e69 r)) 4 [(4,aI ij3),(3,aB bj4),(1,.ptr 0 0)] ⟨[some (B7 p)],[],[]⟩
theorem a9w (ij5:Int) (bj6:Bool) (p:A5) (r:Bool) (hw:((decide (ij5<(p.Enums.length:Int)))=true ->∃y12,p.Enums[ij5.toNat]? =some y12 /\ 0<=ij5 /\ ((((bj6&&(decide (1<=(y12.Items.length:Int))))&&(decide ((y12.Items.length:Int)<=64)))=true ->∃y14,p.Enums[ij5.toNat]? =some y14 /\ 0<=ij5 /\ (a20 (wI (ij5+1)) (decide ((y14.Reserved.length:Int)<=16)) p r)) /\ (((bj6&&(decide (1<=(y12.Items.length:Int))))&&(decide ((y12.Items.length:Int)<=64)))=false ->a20 (wI (ij5+1)) false p r))) /\ ((decide (ij5<(p.Enums.length:Int)))=false ->r=bj6)):a20 ij5 bj6 p r:=
 KL 7 a0i p.Enums<|KW 3 hw (fun _ hw=>KI 9 a0i hw fun y12 hw=>KL 2 b1s y12.Items<|KT 6 3<|KT 1 3<|KW 1 hw (fun _ hw=>KI 3 a0i hw fun y14 hw=>KL 2 c83 y14.Reserved<|KJ 12 [] hw) fun _ hw=>KJ 19 [] hw) fun _ hw=>KR 12 hw g7f
theorem a91 (ij3:Int) (bj4:Bool) (p:A5) (r:Bool) (hw:((decide (ij3<(p.Progs.length:Int)))=true ->(bj4=true ->∃y16,p.Progs[ij3.toNat]? =some y16 /\ 0<=ij3 /\ (a22 (wI (ij3+1)) (decide ((y16.Ops.length:Int)<=64)) p r)) /\ (bj4=false ->a22 (wI (ij3+1)) false p r)) /\ ((decide (ij3<(p.Progs.length:Int)))=false ->a20 0 bj4 p r)):a22 ij3 bj4 p r:=
 KL 7 P3 p.Progs<|KW 3 hw (fun _ hw=>KW 7 hw (fun _ hw=>KI 3 P3 hw fun y16 hw=>KL 2 c0n y16.Ops<|KJ 12 [] hw) fun _ hw=>KJ 19 [] hw) fun _ hw=>KJ 13 [] hw
theorem c20 (p:A5) (r:Bool) (hw:a22 0 ((decide ((p.Progs.length:Int)<=64))&&(decide ((p.Enums.length:Int)<=64))) p r):b7u p r:=
 fP (KL 10 P3 p.Progs<|KT2 2 5 (decide ((p.Progs.length:Int)<=64)) (fun z=>aB (z&&(decide ((p.Enums.length:Int)<=64)))) (fun _ key=>KL 2 a0i p.Enums<|KE2 2 key) (fun _ key=>KE2 5 key)<|KJ 11 [] hw)
theorem g8y (r:Bool):plain (e70 r)=true:=rfl
def a2v (ij15:Int) (bj16:Bool) (ij13:Int) (p:A5) (r:Bool):Prop:=J Tryz.prog 70 (.ret (e70 r)) 22 [(7,aI ij15),(3,aB bj16),(6,aI ij13),(1,.ptr 0 0)] ⟨[some (B7 p)],[],[]⟩
def a2q (ij13:Int) (bj14:Bool) (p:A5) (r:Bool):Prop:=J Tryz.prog 70 (.ret (e70 r)) 16 [(6,aI ij13),(3,aB bj14),(1,.ptr 0 0)] ⟨[some (B7 p)],[],[]⟩
def a2p (ij17:Int) (bj18:Bool) (ij9:Int) (p:A5) (r:Bool):Prop:=J Tryz.prog 70 (.ret (e70 r)) 10 [(5,aI ij17),(3,aB bj18),(4,aI ij9),(1,.ptr 0 0)] ⟨[some (B7 p)],[],[]⟩
def a25 (ij9:Int) (bj10:Bool) (p:A5) (r:Bool):Prop:=J Tryz.prog 70 (.ret (e70 r)) 4 [(4,aI ij9),(3,aB bj10),(1,.ptr 0 0)] ⟨[some (B7 p)],[],[]⟩
theorem a9z (ij15:Int) (bj16:Bool) (ij13:Int) (p:A5) (r:Bool) (hw:∃y59,p.Enums[ij13.toNat]? =some y59 /\ 0<=ij13 /\ (((decide (ij15<(y59.Items.length:Int)))=true ->(bj16=true ->∃y61,p.Enums[ij13.toNat]? =some y61 /\ 0<=ij13 /\ (∃y62,y61.Items[ij15.toNat]? =some y62 /\ 0<=ij15 /\ (∃y63,b2d y62.Name y63 /\ (a2v (wI (ij15+1)) y63 ij13 p r)))) /\ (bj16=false ->a2v (wI (ij15+1)) false ij13 p r)) /\ ((decide (ij15<(y59.Items.length:Int)))=false ->a2q (wI (ij13+1)) bj16 p r))):a2v ij15 bj16 ij13 p r:=
 KI 8 a0i hw fun y59 hw=>KL 2 b1s y59.Items<|KW 3 hw (fun _ hw=>KW 7 hw (fun _ hw=>KI 3 a0i hw fun _ hw=>KI 3 b1s hw fun _ hw=>KC 2 hw g1o fun _ hw=>KJ 11 [] hw) fun _ hw=>KJ 22 [] hw) fun _ hw=>KJ 12 [] hw
theorem a93 (ij13:Int) (bj14:Bool) (p:A5) (r:Bool) (hw:((decide (ij13<(p.Enums.length:Int)))=true ->∃R3:Bool ->Prop,(∀bz3:Bool,R3 bz3 ->(a2v 0 bz3 ij13 p r)) /\ ((bj14=true ->∃y52,p.Enums[ij13.toNat]? =some y52 /\ 0<=ij13 /\ (∃y53,b0d y52.Name y53 /\ (R3 y53))) /\ (bj14=false ->R3 false))) /\ ((decide (ij13<(p.Enums.length:Int)))=false ->r=bj14)):a2q ij13 bj14 p r:=
 KL 7 a0i p.Enums<|KW 3 hw (fun _ hw=>KQ 8 8 kB hw (fun _ hw=>KJ 10 [] hw) (fun _ key _ hw=>KI 3 a0i hw fun _ hw=>KC 2 hw f9v fun _ hw=>KE 1 key hw) fun _ key _ hw=>KE 8 key hw) fun _ hw=>KR 12 hw g8y
theorem a95 (ij17:Int) (bj18:Bool) (ij9:Int) (p:A5) (r:Bool) (hw:∃y72,p.Progs[ij9.toNat]? =some y72 /\ 0<=ij9 /\ (((decide (ij17<(y72.Ops.length:Int)))=true ->(bj18=true ->∃y74,p.Progs[ij9.toNat]? =some y74 /\ 0<=ij9 /\ (∃y75,y74.Ops[ij17.toNat]? =some y75 /\ 0<=ij17 /\ (∃y76,b2d y75.Name y76 /\ (a2p (wI (ij17+1)) y76 ij9 p r)))) /\ (bj18=false ->a2p (wI (ij17+1)) false ij9 p r)) /\ ((decide (ij17<(y72.Ops.length:Int)))=false ->a25 (wI (ij9+1)) bj18 p r))):a2p ij17 bj18 ij9 p r:=
 KI 8 P3 hw fun y72 hw=>KL 2 c0n y72.Ops<|KW 3 hw (fun _ hw=>KW 7 hw (fun _ hw=>KI 3 P3 hw fun _ hw=>KI 3 c0n hw fun _ hw=>KC 2 hw g1o fun _ hw=>KJ 11 [] hw) fun _ hw=>KJ 22 [] hw) fun _ hw=>KJ 12 [] hw
theorem a97 (ij9:Int) (bj10:Bool) (p:A5) (r:Bool) (hw:((decide (ij9<(p.Progs.length:Int)))=true ->∃R4:Bool ->Prop,(∀bz4:Bool,R4 bz4 ->(a2p 0 bz4 ij9 p r)) /\ ((bj10=true ->∃y65,p.Progs[ij9.toNat]? =some y65 /\ 0<=ij9 /\ (∃y66,b0d y65.Name y66 /\ (R4 y66))) /\ (bj10=false ->R4 false))) /\ ((decide (ij9<(p.Progs.length:Int)))=false ->a2q 0 bj10 p r)):a25 ij9 bj10 p r:=
 KL 7 P3 p.Progs<|KW 3 hw (fun _ hw=>KQ 8 8 kB hw (fun _ hw=>KJ 10 [] hw) (fun _ key _ hw=>KI 3 P3 hw fun _ hw=>KC 2 hw f9v fun _ hw=>KE 1 key hw) fun _ key _ hw=>KE 8 key hw) fun _ hw=>KJ 13 [] hw
theorem c5o (p:A5) (r:Bool) (hw:a25 0 true p r):c0f p r:=
 fP (KJ 19 [] hw)
theorem g6n (r:Bool):plain (e71 r)=true:=rfl
def a0v (ij15:Int) (bj16:Bool) (ij13:Int) (p:A5) (r:Bool):Prop:=J Tryz.prog 71 (.ret (e71 r)) 22 [(7,aI ij15),(3,aB bj16),(6,aI ij13),(1,.ptr 0 0)] ⟨[some (B7 p)],[],[]⟩
def a0s (ij13:Int) (bj14:Bool) (p:A5) (r:Bool):Prop:=J Tryz.prog 71 (.ret (e71 r)) 16 [(6,aI ij13),(3,aB bj14),(1,.ptr 0 0)] ⟨[some (B7 p)],[],[]⟩
def X0 (ij17:Int) (bj18:Bool) (ij9:Int) (p:A5) (r:Bool):Prop:=J Tryz.prog 71 (.ret (e71 r)) 10 [(5,aI ij17),(3,aB bj18),(4,aI ij9),(1,.ptr 0 0)] ⟨[some (B7 p)],[],[]⟩
def a0o (ij9:Int) (bj10:Bool) (p:A5) (r:Bool):Prop:=J Tryz.prog 71 (.ret (e71 r)) 4 [(4,aI ij9),(3,aB bj10),(1,.ptr 0 0)] ⟨[some (B7 p)],[],[]⟩
theorem a69 (ij15:Int) (bj16:Bool) (ij13:Int) (p:A5) (r:Bool) (hw:∃y61,p.Enums[ij13.toNat]? =some y61 /\ 0<=ij13 /\ (((decide (ij15<(y61.Items.length:Int)))=true ->(bj16=true ->∃y63,p.Enums[ij13.toNat]? =some y63 /\ 0<=ij13 /\ (∃y64,y63.Items[(wI (ij15 - 1)).toNat]? =some y64 /\ 0<=(wI (ij15 - 1)) /\ (∃y65,p.Enums[ij13.toNat]? =some y65 /\ 0<=ij13 /\ (∃y66,y65.Items[ij15.toNat]? =some y66 /\ 0<=ij15 /\ (a0v (wI (ij15+1)) (decide (y64.Num<y66.Num)) ij13 p r))))) /\ (bj16=false ->a0v (wI (ij15+1)) false ij13 p r)) /\ ((decide (ij15<(y61.Items.length:Int)))=false ->a0s (wI (ij13+1)) bj16 p r))):a0v ij15 bj16 ij13 p r:=
 KI 8 a0i hw fun y61 hw=>KL 2 b1s y61.Items<|KW 3 hw (fun _ hw=>KD 4 [0]<|KW 2 hw (fun _ hw=>KI 3 a0i hw fun _ hw=>KI 4 b1s hw fun _ hw=>KI 5 a0i hw fun _ hw=>KI 3 b1s hw fun _ hw=>KJ 15 [] hw) fun _ hw=>KJ 34 [] hw) fun _ hw=>KJ 12 [] hw
theorem a7b (ij13:Int) (bj14:Bool) (p:A5) (r:Bool) (hw:((decide (ij13<(p.Enums.length:Int)))=true ->∃R7:Bool ->Prop,(∀bz7:Bool,R7 bz7 ->(a0v 1 bz7 ij13 p r)) /\ ((bj14=true ->∃R8:Bool ->Prop,(∀bz8:Bool,R8 bz8 ->(R7 bz8)) /\ (((ij13==0)=true ->R8 true) /\ ((ij13==0)=false ->∃y53,p.Enums[(wI (ij13 - 1)).toNat]? =some y53 /\ 0<=(wI (ij13 - 1)) /\ (∃y54,p.Enums[ij13.toNat]? =some y54 /\ 0<=ij13 /\ (R8 (Op.bytesLess y53.Name.toList y54.Name.toList)))))) /\ (bj14=false ->R7 false))) /\ ((decide (ij13<(p.Enums.length:Int)))=false ->r=bj14)):a0s ij13 bj14 p r:=
 KL 7 a0i p.Enums<|KW 3 hw (fun _ hw=>KD 5 [0]<|KQ 2 19 kB hw (fun _ hw=>KJ 11 [] hw) (fun _ key _ hw=>KQ 3 15 kB hw (fun _ hw=>KE 1 key hw) (fun _ key _ hw=>KE 15 key hw) fun _ key _ hw=>KI 4 a0i hw fun _ hw=>KI 5 a0i hw fun _ hw=>KE 4 key hw) fun _ key _ hw=>KE 19 key hw) fun _ hw=>KR 12 hw g6n
theorem a7c (ij17:Int) (bj18:Bool) (ij9:Int) (p:A5) (r:Bool) (hw:∃y77,p.Progs[ij9.toNat]? =some y77 /\ 0<=ij9 /\ (((decide (ij17<(y77.Ops.length:Int)))=true ->(bj18=true ->∃y79,p.Progs[ij9.toNat]? =some y79 /\ 0<=ij9 /\ (∃y80,y79.Ops[(wI (ij17 - 1)).toNat]? =some y80 /\ 0<=(wI (ij17 - 1)) /\ (∃y81,p.Progs[ij9.toNat]? =some y81 /\ 0<=ij9 /\ (∃y82,y81.Ops[ij17.toNat]? =some y82 /\ 0<=ij17 /\ (X0 (wI (ij17+1)) (decide (y80.Num<y82.Num)) ij9 p r))))) /\ (bj18=false ->X0 (wI (ij17+1)) false ij9 p r)) /\ ((decide (ij17<(y77.Ops.length:Int)))=false ->a0o (wI (ij9+1)) bj18 p r))):X0 ij17 bj18 ij9 p r:=
 KI 8 P3 hw fun y77 hw=>KL 2 c0n y77.Ops<|KW 3 hw (fun _ hw=>KD 4 [0]<|KW 2 hw (fun _ hw=>KI 3 P3 hw fun _ hw=>KI 4 c0n hw fun _ hw=>KI 5 P3 hw fun _ hw=>KI 3 c0n hw fun _ hw=>KJ 15 [] hw) fun _ hw=>KJ 34 [] hw) fun _ hw=>KJ 12 [] hw
theorem a7e (ij9:Int) (bj10:Bool) (p:A5) (r:Bool) (hw:((decide (ij9<(p.Progs.length:Int)))=true ->∃R11:Bool ->Prop,(∀bz11:Bool,R11 bz11 ->(X0 1 bz11 ij9 p r)) /\ ((bj10=true ->∃R12:Bool ->Prop,(∀bz12:Bool,R12 bz12 ->(R11 bz12)) /\ (((ij9==0)=true ->R12 true) /\ ((ij9==0)=false ->∃y69,p.Progs[(wI (ij9 - 1)).toNat]? =some y69 /\ 0<=(wI (ij9 - 1)) /\ (∃y70,p.Progs[ij9.toNat]? =some y70 /\ 0<=ij9 /\ (R12 (Op.bytesLess y69.Name.toList y70.Name.toList)))))) /\ (bj10=false ->R11 false))) /\ ((decide (ij9<(p.Progs.length:Int)))=false ->a0s 0 bj10 p r)):a0o ij9 bj10 p r:=
 KL 7 P3 p.Progs<|KW 3 hw (fun _ hw=>KD 5 [0]<|KQ 2 19 kB hw (fun _ hw=>KJ 11 [] hw) (fun _ key _ hw=>KQ 3 15 kB hw (fun _ hw=>KE 1 key hw) (fun _ key _ hw=>KE 15 key hw) fun _ key _ hw=>KI 4 P3 hw fun _ hw=>KI 5 P3 hw fun _ hw=>KE 4 key hw) fun _ key _ hw=>KE 19 key hw) fun _ hw=>KJ 13 [] hw
theorem c1k (p:A5) (r:Bool) (hw:a0o 0 true p r):b50 p r:=
 fP (KJ 19 [] hw)
theorem g80 (r:Bool):plain (e72 r)=true:=rfl
def a1t (ij49:Int) (ij47:Int) (y69:V5) (ij42:Int) (bj50:Bool) (p:A5) (r:Bool):Prop:=J Tryz.prog 72 (.ret (e72 r)) 38 [(12,aI ij49),(11,aI ij47),(10,.sl (List.map a2e y69.Items) .no),(9,aI ij42),(3,aB bj50),(1,.ptr 0 0)] ⟨[some (B7 p)],[],[]⟩
def a1f (ij47:Int) (y69:V5) (ij42:Int) (bj48:Bool) (p:A5) (r:Bool):Prop:=J Tryz.prog 72 (.ret (e72 r)) 33 [(11,aI ij47),(10,.sl (List.map a2e y69.Items) .no),(9,aI ij42),(3,aB bj48),(1,.ptr 0 0)] ⟨[some (B7 p)],[],[]⟩
def a1r (ij42:Int) (bj43:Bool) (p:A5) (r:Bool):Prop:=J Tryz.prog 72 (.ret (e72 r)) 27 [(9,aI ij42),(3,aB bj43),(1,.ptr 0 0)] ⟨[some (B7 p)],[],[]⟩
def a1v (ij65:Int) (ij63:Int) (y98:B6) (ij33:Int) (bj66:Bool) (p:A5) (r:Bool):Prop:=J Tryz.prog 72 (.ret (e72 r)) 21 [(8,aI ij65),(7,aI ij63),(6,.sl (List.map W3 y98.Ops) .no),(4,aI ij33),(3,aB bj66),(1,.ptr 0 0)] ⟨[some (B7 p)],[],[]⟩
def a1k (ij63:Int) (y98:B6) (ij33:Int) (bj64:Bool) (p:A5) (r:Bool):Prop:=J Tryz.prog 72 (.ret (e72 r)) 16 [(7,aI ij63),(6,.sl (List.map W3 y98.Ops) .no),(4,aI ij33),(3,aB bj64),(1,.ptr 0 0)] ⟨[some (B7 p)],[],[]⟩
def a1m (ij58:Int) (ij33:Int) (bj59:Bool) (p:A5) (r:Bool):Prop:=J Tryz.prog 72 (.ret (e72 r)) 10 [(5,aI ij58),(4,aI ij33),(3,aB bj59),(1,.ptr 0 0)] ⟨[some (B7 p)],[],[]⟩
def Y7 (ij33:Int) (bj34:Bool) (p:A5) (r:Bool):Prop:=J Tryz.prog 72 (.ret (e72 r)) 4 [(4,aI ij33),(3,aB bj34),(1,.ptr 0 0)] ⟨[some (B7 p)],[],[]⟩
theorem a88 (ij49:Int) (ij47:Int) (y69:V5) (ij42:Int) (bj50:Bool) (p:A5) (r:Bool) (hw:((decide (ij49<ij47))=true ->(bj50=true ->∃y80,y69.Items[ij49.toNat]? =some y80 /\ 0<=ij49 /\ (∃y81,y69.Items[ij47.toNat]? =some y81 /\ 0<=ij47 /\ (a1t (wI (ij49+1)) ij47 y69 ij42 (!(decide (y80.Name=y81.Name))) p r))) /\ (bj50=false ->a1t (wI (ij49+1)) ij47 y69 ij42 false p r)) /\ ((decide (ij49<ij47))=false ->a1f (wI (ij47+1)) y69 ij42 bj50 p r)):a1t ij49 ij47 y69 ij42 bj50 p r:=
 KW 9 hw (fun _ hw=>KD 4 []<|KW 2 hw (fun _ hw=>KI 2 b1s hw fun _ hw=>KI 4 b1s hw fun _ hw=>KJ 15 [] hw) fun _ hw=>KJ 23 [] hw) fun _ hw=>KJ 12 [] hw
theorem a8t (ij47:Int) (y69:V5) (ij42:Int) (bj48:Bool) (p:A5) (r:Bool) (hw:((decide (ij47<(y69.Items.length:Int)))=true ->a1t 0 ij47 y69 ij42 bj48 p r) /\ ((decide (ij47<(y69.Items.length:Int)))=false ->a1r (wI (ij42+1)) bj48 p r)):a1f ij47 y69 ij42 bj48 p r:=
 KL 6 b1s y69.Items<|KW 3 hw (fun _ hw=>KJ 11 [] hw) fun _ hw=>KJ 12 [] hw
theorem a9i (ij42:Int) (bj43:Bool) (p:A5) (r:Bool) (hw:((decide (ij42<(p.Enums.length:Int)))=true ->∃y69,p.Enums[ij42.toNat]? =some y69 /\ 0<=ij42 /\ (a1f 0 y69 ij42 bj43 p r)) /\ ((decide (ij42<(p.Enums.length:Int)))=false ->r=bj43)):a1r ij42 bj43 p r:=
 KL 7 a0i p.Enums<|KW 3 hw (fun _ hw=>KI 9 a0i hw fun _ hw=>KJ 12 [] hw) fun _ hw=>KR 12 hw g80
theorem a9d (ij65:Int) (ij63:Int) (y98:B6) (ij33:Int) (bj66:Bool) (p:A5) (r:Bool) (hw:((decide (ij65<ij63))=true ->(bj66=true ->∃y109,y98.Ops[ij65.toNat]? =some y109 /\ 0<=ij65 /\ (∃y110,y98.Ops[ij63.toNat]? =some y110 /\ 0<=ij63 /\ (a1v (wI (ij65+1)) ij63 y98 ij33 (!(decide (y109.Name=y110.Name))) p r))) /\ (bj66=false ->a1v (wI (ij65+1)) ij63 y98 ij33 false p r)) /\ ((decide (ij65<ij63))=false ->a1k (wI (ij63+1)) y98 ij33 bj66 p r)):a1v ij65 ij63 y98 ij33 bj66 p r:=
 KW 9 hw (fun _ hw=>KD 4 []<|KW 2 hw (fun _ hw=>KI 2 c0n hw fun _ hw=>KI 4 c0n hw fun _ hw=>KJ 15 [] hw) fun _ hw=>KJ 23 [] hw) fun _ hw=>KJ 12 [] hw
theorem a9j (ij63:Int) (y98:B6) (ij33:Int) (bj64:Bool) (p:A5) (r:Bool) (hw:((decide (ij63<(y98.Ops.length:Int)))=true ->a1v 0 ij63 y98 ij33 bj64 p r) /\ ((decide (ij63<(y98.Ops.length:Int)))=false ->Y7 (wI (ij33+1)) bj64 p r)):a1k ij63 y98 ij33 bj64 p r:=
 KL 6 c0n y98.Ops<|KW 3 hw (fun _ hw=>KJ 11 [] hw) fun _ hw=>KJ 12 [] hw
theorem a8u (ij58:Int) (ij33:Int) (bj59:Bool) (p:A5) (r:Bool) (hw:((decide (ij58<(p.Enums.length:Int)))=true ->(bj59=true ->∃y112,p.Progs[ij33.toNat]? =some y112 /\ 0<=ij33 /\ (∃y113,p.Enums[ij58.toNat]? =some y113 /\ 0<=ij58 /\ (a1m (wI (ij58+1)) ij33 (!(decide (y112.Name=y113.Name))) p r))) /\ (bj59=false ->a1m (wI (ij58+1)) ij33 false p r)) /\ ((decide (ij58<(p.Enums.length:Int)))=false ->∃y98,p.Progs[ij33.toNat]? =some y98 /\ 0<=ij33 /\ (a1k 0 y98 ij33 bj59 p r))):a1m ij58 ij33 bj59 p r:=
 KL 7 a0i p.Enums<|KW 3 hw (fun _ hw=>KD 4 [0]<|KW 2 hw (fun _ hw=>KI 3 P3 hw fun _ hw=>KI 5 a0i hw fun _ hw=>KJ 15 [] hw) fun _ hw=>KJ 25 [] hw) fun _ hw=>KI 10 P3 hw fun _ hw=>KJ 12 [] hw
theorem a85 (ij33:Int) (bj34:Bool) (p:A5) (r:Bool) (hw:((decide (ij33<(p.Progs.length:Int)))=true ->a1m 0 ij33 bj34 p r) /\ ((decide (ij33<(p.Progs.length:Int)))=false ->a1r 0 bj34 p r)):Y7 ij33 bj34 p r:=
 KL 7 P3 p.Progs<|KW 3 hw (fun _ hw=>KJ 12 [] hw) fun _ hw=>KJ 13 [] hw
theorem c30 (p:A5) (r:Bool) (hw:Y7 0 true p r):b7q p r:=
 fP (KJ 19 [] hw)
theorem g45 (r:Bool):plain (e73 r)=true:=rfl
def Y9 (ij31:Int) (ij25:Int) (bj32:Bool) (p:A5) (y52:V5) (r:Bool):Prop:=J Tryz.prog 73 (.ret (e73 r)) 29 [(11,aI ij31),(8,.ptr 1 0),(7,aI ij25),(3,aB bj32),(1,.ptr 0 0)] ⟨[some (B7 p),some (Q4 y52)],[],[]⟩
def a1n (ij29:Int) (ij25:Int) (bj30:Bool) (p:A5) (y52:V5) (r:Bool):Prop:=J Tryz.prog 73 (.ret (e73 r)) 23 [(9,aI ij29),(8,.ptr 1 0),(7,aI ij25),(3,aB bj30),(1,.ptr 0 0)] ⟨[some (B7 p),some (Q4 y52)],[],[]⟩
def Y5 (ij25:Int) (bj26:Bool) (p:A5) (r:Bool):Prop:=J Tryz.prog 73 (.ret (e73 r)) 16 [(7,aI ij25),(3,aB bj26),(1,.ptr 0 0)] ⟨[some (B7 p)],[],[]⟩
def a4p (ij33:Int) (ij17:Int) (bj34:Bool) (p:A5) (r:Bool):Prop:=J Tryz.prog 73 (.ret (e73 r)) 9 [(5,aI ij33),(4,aI ij17),(3,aB bj34),(1,.ptr 0 0)] ⟨[some (B7 p)],[],[]⟩
def a1p (ij17:Int) (bj18:Bool) (p:A5) (r:Bool):Prop:=J Tryz.prog 73 (.ret (e73 r)) 4 [(4,aI ij17),(3,aB bj18),(1,.ptr 0 0)] ⟨[some (B7 p)],[],[]⟩
theorem a3z {ij31:Int} {ij25:Int} {bj32:Bool} {p:A5} {y52:V5}:a9l [true,true] 0 [(11,aI ij31),(8,.ptr 1 0),(7,aI ij25),(3,aB bj32),(1,.ptr 0 0)]=true /\ a6x [true,true] 0 [some (B7 p),some (Q4 y52)]=true:=⟨by first|rfl|simp,by first|rfl|simp⟩
theorem b9e {ij25:Int} {bj26:Bool} {p:A5}:a9l [true] 0 [(7,aI ij25),(3,aB bj26),(1,.ptr 0 0)]=true /\ a6x [true] 0 [some (B7 p)]=true:=⟨by first|rfl|simp,by first|rfl|simp⟩
theorem a9k (ij31:Int) (ij25:Int) (bj32:Bool) (p:A5) (y52:V5) (r:Bool) (hw:((decide (ij31<(y52.Reserved.length:Int)))=true ->∃y61,y52.Reserved[ij31.toNat]? =some y61 /\ 0<=ij31 /\ (((((bj32&&(decide (0<=y61.From)))&&(decide (y61.To<=2147483647)))&&(decide (y61.From<=y61.To)))=true ->((ij31==0)=true ->Y9 (wI (ij31+1)) ij25 true p y52 r) /\ ((ij31==0)=false ->∃y64,y52.Reserved[(wI (ij31 - 1)).toNat]? =some y64 /\ 0<=(wI (ij31 - 1)) /\ (Y9 (wI (ij31+1)) ij25 (decide (y64.To<y61.From)) p y52 r))) /\ ((((bj32&&(decide (0<=y61.From)))&&(decide (y61.To<=2147483647)))&&(decide (y61.From<=y61.To)))=false ->Y9 (wI (ij31+1)) ij25 false p y52 r))) /\ ((decide (ij31<(y52.Reserved.length:Int)))=false ->Y5 (wI (ij25+1)) bj32 p r)):Y9 ij31 ij25 bj32 p y52 r:=
 KL 7 c83 y52.Reserved<|KW 3 hw (fun _ hw=>KI 9 c83 hw fun _ hw=>KD 5 [1,2]<|KT 2 4<|KT 1 4<|KT 1 6<|KW 1 hw (fun _ hw=>KW 3 hw (fun _ hw=>KJl 23 [] hw a3z) fun _ hw=>KI 6 c83 hw fun _ hw=>KJl 16 [] hw a3z) fun _ hw=>KJl 26 [] hw a3z) fun _ hw=>KJl 12 [] hw b9e
theorem a8p (ij29:Int) (ij25:Int) (bj30:Bool) (p:A5) (y52:V5) (r:Bool) (hw:((decide (ij29<(y52.Items.length:Int)))=true ->∃y65,y52.Items[ij29.toNat]? =some y65 /\ 0<=ij29 /\ ((((bj30&&(decide (y65.Num<=2147483647)))&&((decide (0<ij29))||(y65.Num==0)))=true ->∃y66,b25 y52.Reserved y65.Num y66 /\ (a1n (wI (ij29+1)) ij25 (!y66) p y52 r)) /\ (((bj30&&(decide (y65.Num<=2147483647)))&&((decide (0<ij29))||(y65.Num==0)))=false ->a1n (wI (ij29+1)) ij25 false p y52 r))) /\ ((decide (ij29<(y52.Items.length:Int)))=false ->Y9 0 ij25 bj30 p y52 r)):a1n ij29 ij25 bj30 p y52 r:=
 KL 7 b1s y52.Items<|KW 3 hw (fun _ hw=>KI 9 b1s hw fun y65 hw=>KT 8 3<|KT2 1 7 (bj30&&(decide (y65.Num<=2147483647))) (fun z=>aB (z&&((decide (0<ij29))||(y65.Num==0)))) (fun _ key=>KT 3 3<|KE2 1 key) (fun _ key=>KE2 7 key)<|KW 1 hw (fun _ hw=>KC 3 hw g41 fun _ hw=>KJ 12 [] hw) fun _ hw=>KJ 16 [] hw) fun _ hw=>KJ 12 [] hw
theorem a8l (ij25:Int) (bj26:Bool) (p:A5) (r:Bool) (hw:((decide (ij25<(p.Enums.length:Int)))=true ->∃y52,p.Enums[ij25.toNat]? =some y52 /\ 0<=ij25 /\ (a1n 0 ij25 bj26 p y52 r)) /\ ((decide (ij25<(p.Enums.length:Int)))=false ->r=bj26)):Y5 ij25 bj26 p r:=
 KL 7 a0i p.Enums<|KW 3 hw (fun _ hw=>KI 9 a0i hw fun _ hw=>KJ 13 [] hw) fun _ hw=>KR 12 hw g45
theorem a89 (ij33:Int) (ij17:Int) (bj34:Bool) (p:A5) (r:Bool) (hw:∃y70,p.Progs[ij17.toNat]? =some y70 /\ 0<=ij17 /\ (((decide (ij33<(y70.Ops.length:Int)))=true ->∃y71,p.Progs[ij17.toNat]? =some y71 /\ 0<=ij17 /\ (∃y72,y71.Ops[ij33.toNat]? =some y72 /\ 0<=ij33 /\ (a4p (wI (ij33+1)) ij17 ((bj34&&(decide (1<=y72.Num)))&&(decide (y72.Num<=65535))) p r))) /\ ((decide (ij33<(y70.Ops.length:Int)))=false ->a1p (wI (ij17+1)) bj34 p r))):a4p ij33 ij17 bj34 p r:=
 KI 8 P3 hw fun y70 hw=>KL 2 c0n y70.Ops<|KW 3 hw (fun _ hw=>KI 9 P3 hw fun _ hw=>KI 3 c0n hw fun _ hw=>KT 8 3<|KT 1 3<|KJ 10 [] hw) fun _ hw=>KJ 12 [] hw
theorem a8x (ij17:Int) (bj18:Bool) (p:A5) (r:Bool) (hw:((decide (ij17<(p.Progs.length:Int)))=true ->a4p 0 ij17 bj18 p r) /\ ((decide (ij17<(p.Progs.length:Int)))=false ->Y5 0 bj18 p r)):a1p ij17 bj18 p r:=
 KL 7 P3 p.Progs<|KW 3 hw (fun _ hw=>KJ 11 [] hw) fun _ hw=>KJ 13 [] hw
theorem c4k (p:A5) (r:Bool) (hw:a1p 0 true p r):b76 p r:=
 fP (KJ 19 [] hw)
theorem g5n (r:Bool):plain (e74 r)=true:=rfl
def X6 (ij15:Int) (bj16:Bool) (ij13:Int) (p:A5) (r:Bool):Prop:=J Tryz.prog 74 (.ret (e74 r)) 23 [(8,aI ij15),(3,aB bj16),(7,aI ij13),(1,.ptr 0 0)] ⟨[some (B7 p)],[],[]⟩
def X8 (ij13:Int) (bj14:Bool) (p:A5) (r:Bool):Prop:=J Tryz.prog 74 (.ret (e74 r)) 17 [(7,aI ij13),(3,aB bj14),(1,.ptr 0 0)] ⟨[some (B7 p)],[],[]⟩
def O8 (ij17:Int) (bj18:Bool) (ij9:Int) (p:A5) (r:Bool):Prop:=J Tryz.prog 74 (.ret (e74 r)) 10 [(5,aI ij17),(3,aB bj18),(4,aI ij9),(1,.ptr 0 0)] ⟨[some (B7 p)],[],[]⟩
def X3 (ij9:Int) (bj10:Bool) (p:A5) (r:Bool):Prop:=J Tryz.prog 74 (.ret (e74 r)) 4 [(4,aI ij9),(3,aB bj10),(1,.ptr 0 0)] ⟨[some (B7 p)],[],[]⟩
theorem a5l (ij15:Int) (bj16:Bool) (ij13:Int) (p:A5) (r:Bool) (hw:∃y64,p.Progs[ij13.toNat]? =some y64 /\ 0<=ij13 /\ (((decide (ij15<(y64.Ops.length:Int)))=true ->(bj16=true ->∃y66,p.Progs[ij13.toNat]? =some y66 /\ 0<=ij13 /\ (∃y67,y66.Ops[ij15.toNat]? =some y67 /\ 0<=ij15 /\ (∃y68,b08 p y67 y68 /\ (X6 (wI (ij15+1)) y68 ij13 p r)))) /\ (bj16=false ->X6 (wI (ij15+1)) false ij13 p r)) /\ ((decide (ij15<(y64.Ops.length:Int)))=false ->X8 (wI (ij13+1)) bj16 p r))):X6 ij15 bj16 ij13 p r:=
 KI 8 P3 hw fun y64 hw=>KL 2 c0n y64.Ops<|KW 3 hw (fun _ hw=>KD 4 [0]<|KW 2 hw (fun _ hw=>KI 4 P3 hw fun _ hw=>KI 3 c0n hw fun _ hw=>KC 1 hw g7i fun _ hw=>KJ 12 [] hw) fun _ hw=>KJ 23 [] hw) fun _ hw=>KJ 12 [] hw
theorem a5i (ij13:Int) (bj14:Bool) (p:A5) (r:Bool) (hw:((decide (ij13<(p.Progs.length:Int)))=true ->∃R5:Bool ->Prop,(∀bz5:Bool,R5 bz5 ->(X6 0 bz5 ij13 p r)) /\ ((bj14=true ->∃y57,p.Progs[ij13.toNat]? =some y57 /\ 0<=ij13 /\ (∃y58,b7w y57 y58 /\ (R5 y58))) /\ (bj14=false ->R5 false))) /\ ((decide (ij13<(p.Progs.length:Int)))=false ->r=bj14)):X8 ij13 bj14 p r:=
 KL 7 P3 p.Progs<|KW 3 hw (fun _ hw=>KQ 8 7 kB hw (fun _ hw=>KJ 10 [] hw) (fun _ key _ hw=>KI 3 P3 hw fun _ hw=>KC 1 hw g7m fun _ hw=>KE 1 key hw) fun _ key _ hw=>KE 7 key hw) fun _ hw=>KR 12 hw g5n
theorem a5p (ij17:Int) (bj18:Bool) (ij9:Int) (p:A5) (r:Bool) (hw:∃y79,p.Enums[ij9.toNat]? =some y79 /\ 0<=ij9 /\ (((decide (ij17<(y79.Items.length:Int)))=true ->∃y80,p.Enums[ij9.toNat]? =some y80 /\ 0<=ij9 /\ (∃y81,y80.Items[ij17.toNat]? =some y81 /\ 0<=ij17 /\ ((bj18=true ->(((y81.Notes.length:Int)==0)=true ->O8 (wI (ij17+1)) true ij9 p r) /\ (((y81.Notes.length:Int)==0)=false ->∃R8:Bool ->Prop,(∀bz8:Bool,R8 bz8 ->((bz8=true ->∃y86,c0a y81.Notes 4 y86 /\ (O8 (wI (ij17+1)) (y86==0) ij9 p r)) /\ (bz8=false ->O8 (wI (ij17+1)) false ij9 p r))) /\ ((((y81.Notes.length:Int)==1)=true ->∃y85,y81.Notes[(0:Int).toNat]? =some y85 /\ 0<=(0:Int) /\ (R8 (decide (y85.Name=(⟨#[97,108,105,97,115]⟩:ByteArray))))) /\ (((y81.Notes.length:Int)==1)=false ->R8 false)))) /\ (bj18=false ->O8 (wI (ij17+1)) false ij9 p r)))) /\ ((decide (ij17<(y79.Items.length:Int)))=false ->X3 (wI (ij9+1)) bj18 p r))):O8 ij17 bj18 ij9 p r:=
 KI 8 a0i hw fun y79 hw=>KL 2 b1s y79.Items<|KW 3 hw (fun _ hw=>KI 9 a0i hw fun _ hw=>KI 3 b1s hw fun y81 hw=>KW 8 hw (fun _ hw=>KL 1 b3w y81.Notes<|KW 2 hw (fun _ hw=>KJ 27 [] hw) fun _ hw=>KL 1 b3w y81.Notes<|KQ 2 6 kB hw (fun _ hw=>KW 1 hw (fun _ hw=>KC 1 hw g4z fun _ hw=>KJ 14 [] hw) fun _ hw=>KJ 16 [] hw) (fun _ key _ hw=>KI 1 b3w hw fun _ hw=>KE 4 key hw) fun _ key _ hw=>KE 6 key hw) fun _ hw=>KJ 31 [] hw) fun _ hw=>KJ 12 [] hw
theorem a5w (ij9:Int) (bj10:Bool) (p:A5) (r:Bool) (hw:((decide (ij9<(p.Enums.length:Int)))=true ->∃R6:Bool ->Prop,(∀bz6:Bool,R6 bz6 ->(O8 0 bz6 ij9 p r)) /\ ((bj10=true ->∃y70,p.Enums[ij9.toNat]? =some y70 /\ 0<=ij9 /\ (R6 ((y70.Notes.length:Int)==0))) /\ (bj10=false ->R6 false))) /\ ((decide (ij9<(p.Enums.length:Int)))=false ->X8 0 bj10 p r)):X3 ij9 bj10 p r:=
 KL 7 a0i p.Enums<|KW 3 hw (fun _ hw=>KQ 8 9 kB hw (fun _ hw=>KJ 10 [] hw) (fun _ key _ hw=>KI 3 a0i hw fun y70 hw=>KL 2 b3w y70.Notes<|KE 2 key hw) fun _ key _ hw=>KE 9 key hw) fun _ hw=>KJ 13 [] hw
theorem b89 (p:A5) (r:Bool) (hw:X3 0 true p r):b1g p r:=
 fP (KJ 19 [] hw)
theorem g5d (r:Bool):plain (e75 r)=true:=rfl
def Y4 (ij16:Int) (bj17:Bool) (ij13:Int) (bj15:Bool) (ij8:Int) (p:A5) (lj14:(List Bool)) (r:Bool):Prop:=J Tryz.prog 75 (.ret (e75 r)) 18 [(7,aI ij16),(6,aB bj17),(5,aI ij13),(4,aB bj15),(20,aI ij8),(19,aI (p.Progs.length:Int)),(3,.row 1 0 1 (p.Progs.length:Int).toNat (p.Progs.length:Int).toNat),(1,.ptr 0 0)] ⟨[some (B7 p),some (cellsOf c1n lj14)],[],[]⟩
def a1u (ij13:Int) (bj15:Bool) (ij8:Int) (p:A5) (lj14:(List Bool)) (r:Bool):Prop:=J Tryz.prog 75 (.ret (e75 r)) 11 [(5,aI ij13),(4,aB bj15),(20,aI ij8),(19,aI (p.Progs.length:Int)),(3,.row 1 0 1 (p.Progs.length:Int).toNat (p.Progs.length:Int).toNat),(1,.ptr 0 0)] ⟨[some (B7 p),some (cellsOf c1n lj14)],[],[]⟩
def a2w (ij8:Int) (p:A5) (bj9:Bool) (lj10:(List Bool)) (r:Bool):Prop:=J Tryz.prog 75 (.ret (e75 r)) 5 [(20,aI ij8),(19,aI (p.Progs.length:Int)),(4,aB bj9),(3,.row 1 0 1 (p.Progs.length:Int).toNat (p.Progs.length:Int).toNat),(1,.ptr 0 0)] ⟨[some (B7 p),some (cellsOf c1n lj10)],[],[]⟩
theorem a30 {ij16:Int} {bj17:Bool} {ij13:Int} {bj15:Bool} {ij8:Int} {p:A5} {lj14:(List Bool)}:a9l [true,true] 0 [(7,aI ij16),(6,aB bj17),(5,aI ij13),(4,aB bj15),(20,aI ij8),(19,aI (p.Progs.length:Int)),(3,.row 1 0 1 (p.Progs.length:Int).toNat (p.Progs.length:Int).toNat),(1,.ptr 0 0)]=true /\ a6x [true,true] 0 [some (B7 p),some (cellsOf c1n lj14)]=true:=⟨by first|rfl|simp,by first|rfl|simp⟩
theorem a9c (ij16:Int) (bj17:Bool) (ij13:Int) (bj15:Bool) (ij8:Int) (p:A5) (lj14:(List Bool)) (r:Bool) (hw:∃y29,p.Progs[ij13.toNat]? =some y29 /\ 0<=ij13 /\ (((decide (ij16<(y29.Ops.length:Int)))=true ->∃y30,p.Progs[ij13.toNat]? =some y30 /\ 0<=ij13 /\ (∃y31,y30.Ops[ij16.toNat]? =some y31 /\ 0<=ij16 /\ ((bj17=true ->(((y31.Card !=1)||(y31.Kind !=10))=true ->Y4 (wI (ij16+1)) true ij13 bj15 ij8 p lj14 r) /\ (((y31.Card !=1)||(y31.Kind !=10))=false ->(0<=y31.Target /\ y31.Target<((p.Progs.length:Int).toNat:Int)) /\ (∃y32,lj14[y31.Target.toNat]? =some y32 /\ (Y4 (wI (ij16+1)) y32 ij13 bj15 ij8 p lj14 r)))) /\ (bj17=false ->Y4 (wI (ij16+1)) false ij13 bj15 ij8 p lj14 r)))) /\ ((decide (ij16<(y29.Ops.length:Int)))=false ->(0<=ij13 /\ ij13<((p.Progs.length:Int).toNat:Int)) /\ (ij13.toNat<lj14.length /\ (a1u (wI (ij13+1)) (bj15&&bj17) ij8 p (lj14.set ij13.toNat bj17) r))))):Y4 ij16 bj17 ij13 bj15 ij8 p lj14 r:=
 KI 8 P3 hw fun y29 hw=>KL 2 c0n y29.Ops<|KW 3 hw (fun _ hw=>KI 9 P3 hw fun _ hw=>KI 3 c0n hw fun _ hw=>KW 8 hw (fun _ hw=>KT 4 4<|KW 1 hw (fun _ hw=>KJl 17 [] hw a30) fun _ hw=>KRI 3 1 hw fun hw=>KR1 0 f81 0 hw fun _ hw=>KJl 12 [] hw a30) fun _ hw=>KJl 26 [] hw a30) fun _ hw=>KRI 10 1 hw fun hw=>KRS 0 f81 bj17 hw fun hw=>KT 5 2<|KJ 10 [] hw
theorem a8q (ij13:Int) (bj15:Bool) (ij8:Int) (p:A5) (lj14:(List Bool)) (r:Bool) (hw:((decide (ij13<(p.Progs.length:Int)))=true ->Y4 0 true ij13 bj15 ij8 p lj14 r) /\ ((decide (ij13<(p.Progs.length:Int)))=false ->a2w (wI (ij8+1)) p bj15 lj14 r)):a1u ij13 bj15 ij8 p lj14 r:=
 KL 7 P3 p.Progs<|KW 3 hw (fun _ hw=>KJ 17 [] hw) fun _ hw=>KJ 11 [] hw
theorem a9y (ij8:Int) (p:A5) (bj9:Bool) (lj10:(List Bool)) (r:Bool) (hw:((decide (ij8<(p.Progs.length:Int)))=true ->a1u 0 true ij8 p lj10 r) /\ ((decide (ij8<(p.Progs.length:Int)))=false ->r=bj9)):a2w ij8 p bj9 lj10 r:=
 KW 7 hw (fun _ hw=>KJ 16 [] hw) fun _ hw=>KR 12 hw g5d
theorem c3v (p:A5) (r:Bool) (hw:(0<=(p.Progs.length:Int) /\ (p.Progs.length:Int)<=(p.Progs.length:Int) /\ (p.Progs.length:Int)*1<=140737488355328) /\ (a2w 0 p ((p.Progs.length:Int)==0) (List.replicate (p.Progs.length:Int).toNat false) r)):b6p p r:=
 fP (KL 10 P3 p.Progs<|KM 0 f81 false hw fun hw=>KL 7 P3 p.Progs<|KL 9 P3 p.Progs<|KJ 5 [] hw)
theorem g7u (r:A3):plain (e76 r)=true:=(C5 r)
theorem c3b (c:A3) (n:Int) (r:A3) (hw:r=(⟨c.Data,(wI (c.At+n)),c.End,c.Depth,c.Nodes,c.Text⟩:A3)):a5q c n r:=
 fP (KR 23 hw g7u)
theorem g3x (r:(Int × A3 × Int)):plain (e77 r)=true:=(c6m (A6 rfl (A6 (C5 r.2.1) (A6 rfl rfl))))
theorem c4d (c:A3) (r:(Int × A3 × Int)) (hw:∃y1,b5e c 8 y1 /\ (∃y2,a9r y1 y2 /\ (((y2.2 !=0)=true ->r=(0,c,y2.2)) /\ ((y2.2 !=0)=false ->∃y3,a5q c 8 y3 /\ (r=(y2.1,y3,0)))))):b67 c r:=
 fP (KC 11 hw g0o fun _ hw=>KC 0 hw g81 fun _ hw=>KW 14 hw (fun _ hw=>KD 1 [0]<|KV 3<|KR 6 hw g3x) fun _ hw=>KC 6 hw g4o fun _ hw=>KR 6 hw g3x)
theorem e7j (r:(ByteArray × A3 × Int)):plain (e78 r)=true:=(c6m (A6 rfl (A6 (C5 r.2.1) (A6 rfl rfl))))
theorem c5h (c:A3) (n:Int) (r:(ByteArray × A3 × Int)) (hw:((decide (n<0))=true ->r=((⟨#[]⟩:ByteArray),c,1)) /\ ((decide (n<0))=false ->∃y1,a7q c y1 /\ (((decide (y1<n))=true ->r=((⟨#[]⟩:ByteArray),c,4)) /\ ((decide (y1<n))=false ->((decide (c.Text<n))=true ->r=((⟨#[]⟩:ByteArray),c,3)) /\ ((decide (c.Text<n))=false ->((n==0)=true ->r=((⟨#[]⟩:ByteArray),c,0)) /\ ((n==0)=false ->∃y2,c4s c n y2 /\ (∃y3,y2=bI y3 /\ (∃y4,a5q c n y4 /\ (r=(y3,y4,0)))))))))):c0d c n r:=
 fP (KW 17 hw (fun _ hw=>KD 1 [0]<|KR 10 hw e7j) fun _ hw=>KC 4 hw g4w fun _ hw=>KW 4 hw (fun _ hw=>KD 1 [0]<|KR 10 hw e7j) fun _ hw=>KW 9 hw (fun _ hw=>KD 1 [0]<|KR 10 hw e7j) fun _ hw=>KW 10 hw (fun _ hw=>KD 1 [0]<|KR 9 hw e7j) fun _ hw=>KD 3 [0]<|KC 2 hw g76 fun _ hw=>KS 0 hw fun _ hw=>KC 2 hw g4o fun _ hw=>KR 7 hw e7j)
theorem g6m (r:Bool):plain (e79 r)=true:=rfl
theorem c93 (s:ByteArray) (r:Bool) (hw:∃y1,e5r s y1 /\ (r=(decide (y1<0)))):b7m s r:=
 fP (KC 8 hw g7g fun _ hw=>KR 5 hw g6m)
theorem f9q (r:(Int × A3 × Int)):plain (e80 r)=true:=(c6m (A6 rfl (A6 (C5 r.2.1) (A6 rfl rfl))))
theorem c05 (c:A3) (r:(Int × A3 × Int)) (hw:∃y1,b5e c 10 y1 /\ (∃y2,b9q y1 y2 /\ (((y2.2.2 !=0)=true ->r=(0,c,y2.2.2)) /\ ((y2.2.2 !=0)=false ->∃y3,a5q c y2.2.1 y3 /\ (r=(y2.1,y3,0)))))):b54 c r:=
 fP (KC 11 hw g0o fun _ hw=>KC 0 hw g8e fun _ hw=>KW 16 hw (fun _ hw=>KD 1 [0]<|KV 3<|KR 6 hw f9q) fun _ hw=>KC 7 hw g4o fun _ hw=>KR 6 hw f9q)
theorem g6y (r:Int):plain (e81 r)=true:=rfl
def b0l (ij1:Int) (ij2:Int) (r:Int):Prop:=JP Tryz.prog 81 (e81 r) 3 [(3,aI ij1),(0,aU ij2)]
theorem b2y (ij1:Int) (ij2:Int) (r:Int) (hw:((decide (128<=ij2))=true ->b0l (wI (ij1+1)) (ij2.fdiv (2 ^ min (7:Int).toNat IntKind.u64.bits)) r) /\ ((decide (128<=ij2))=false ->r=ij1)):b0l ij1 ij2 r:=
 KW 8 hw (fun _ hw=>KJ 17 [] hw) fun _ hw=>KR 12 hw g6y
theorem c8i (u:Int) (r:Int) (hw:b0l 1 u r):c35 u r:=
 fP (KJ 13 [] hw)
theorem g5m (r:Bool):plain (e82 r)=true:=rfl
theorem a8e (kind:Int) (r:Bool) (hw:r=((decide (1<=kind))&&(decide (kind<=9)))):b6r kind r:=
 fP (KT 10 3<|KR 4 hw g5m)
theorem f8n (r:Bool):plain (e83 r)=true:=rfl
theorem c54 (v:A0) (r:Bool) (hw:((decide (0<(wI ((wI ((wI ((v.List_.length:Int)+(v.Pairs.length:Int)))+(v.Slots.length:Int)))+(v.Raws.length:Int)))))=true ->r=false) /\ ((decide (0<(wI ((wI ((wI ((v.List_.length:Int)+(v.Pairs.length:Int)))+(v.Slots.length:Int)))+(v.Raws.length:Int)))))=false ->∃y1,b7p v.Kind y1 /\ ((y1=true ->r=(v.Bits==0)) /\ (y1=false ->r=(decide (v.Text=(⟨#[]⟩:ByteArray))))))):b5f v r:=
 fP (KL 11 M5 v.List_<|KL 2 C7 v.Pairs<|KL 3 C4 v.Slots<|KL 3 b5a v.Raws<|KW 4 hw (fun _ hw=>KR 7 hw f8n) fun _ hw=>KC 7 hw g3r fun _ hw=>KW 2 hw (fun _ hw=>KR 10 hw f8n) fun _ hw=>KR 11 hw f8n)
theorem e7o (r:Bool):plain (e84 r)=true:=rfl
theorem c1i (kind:Int) (bits:Int) (r:Bool) (hw:((kind==1)=true ->r=(decide (bits<=1))) /\ ((kind==1)=false ->((kind==2)=true ->r=((decide ((-2147483648)<=(wI bits)))&&(decide ((wI bits)<=2147483647)))) /\ ((kind==2)=false ->((kind==9)=true ->r=(decide (bits<=2147483647))) /\ ((kind==9)=false ->((kind==4)=true ->r=(decide (bits<=4294967295))) /\ ((kind==4)=false ->r=true))))):b5r kind bits r:=
 fP (KW 33 hw (fun _ hw=>KR 23 hw e7o) fun _ hw=>KW 9 hw (fun _ hw=>KT 14 4<|KR 11 hw e7o) fun _ hw=>KW 9 hw (fun _ hw=>KR 27 hw e7o) fun _ hw=>KW 8 hw (fun _ hw=>KR 23 hw e7o) fun _ hw=>KR 19 hw e7o)
theorem g6o (r:Bool):plain (e85 r)=true:=rfl
theorem a46 (s:(List b24)) (f:GFn) (r:Bool) (hw:∃y1,a21 s f y1 /\ (r=(decide (0<=y1)))):a0y s f r:=
 fP (KC 9 hw g6t fun _ hw=>KR 5 hw g6o)
theorem g7l (r:Bool):plain (e89 r)=true:=rfl
theorem c5m (s:ByteArray) (r:Bool) (hw:∃y1,d5a s y1 /\ (r=(decide (y1<0)))):b56 s r:=
 fP (KC 8 hw g8q fun _ hw=>KR 5 hw g7l)
theorem g53 (r:Bool):plain (e95 r)=true:=rfl
theorem c82 (v:A0) (r:Bool) (hw:r=(((((v.List_.length:Int)==0)&&((v.Pairs.length:Int)==0))&&((v.Slots.length:Int)==0))&&((v.Raws.length:Int)==0))):b8x v r:=
 fP (KL 10 M5 v.List_<|KT2 2 5 ((v.List_.length:Int)==0) (fun z=>aB (z&&((v.Pairs.length:Int)==0))) (fun _ key=>KL 2 C7 v.Pairs<|KE2 2 key) (fun _ key=>KE2 5 key)<|KT2 1 5 (((v.List_.length:Int)==0)&&((v.Pairs.length:Int)==0)) (fun z=>aB (z&&((v.Slots.length:Int)==0))) (fun _ key=>KL 2 C4 v.Slots<|KE2 2 key) (fun _ key=>KE2 5 key)<|KT2 1 5 ((((v.List_.length:Int)==0)&&((v.Pairs.length:Int)==0))&&((v.Slots.length:Int)==0)) (fun z=>aB (z&&((v.Raws.length:Int)==0))) (fun _ key=>KL 2 b5a v.Raws<|KE2 2 key) (fun _ key=>KE2 5 key)<|KR 4 hw g53)
theorem g8s (r:Bool):plain (e96 r)=true:=rfl
theorem c5z (kind:Int) (r:Bool) (hw:r=((kind==7)||(kind==8))):c8n kind r:=
 fP (KT 10 3<|KR 4 hw g8s)
theorem e6m (r:Int):plain (e97 r)=true:=rfl
theorem c39 (bits:Int) (r:Int) (hw:((((F4 .and .u64 bits 9218868437227405312)==9218868437227405312)&&((F4 .and .u64 bits 4503599627370495) !=0))=true ->r=0) /\ ((((F4 .and .u64 bits 9218868437227405312)==9218868437227405312)&&((F4 .and .u64 bits 4503599627370495) !=0))=false ->(((F4 .and .u64 bits 9218868437227405312)==9218868437227405312)=true ->r=1) /\ (((F4 .and .u64 bits 9218868437227405312)==9218868437227405312)=false ->((((F4 .and .u64 bits 9218868437227405312)==0)&&((F4 .and .u64 bits 4503599627370495)==0))=true ->r=2) /\ ((((F4 .and .u64 bits 9218868437227405312)==0)&&((F4 .and .u64 bits 4503599627370495)==0))=false ->(((F4 .and .u64 bits 9218868437227405312)==0)=true ->r=3) /\ (((F4 .and .u64 bits 9218868437227405312)==0)=false ->r=4))))):b18 bits r:=
 fP (KT 22 3<|KW 3 hw (fun _ hw=>KR 8 hw e6m) fun _ hw=>KW 7 hw (fun _ hw=>KR 8 hw e6m) fun _ hw=>KT 5 3<|KW 3 hw (fun _ hw=>KR 8 hw e6m) fun _ hw=>KW 7 hw (fun _ hw=>KR 8 hw e6m) fun _ hw=>KR 9 hw e6m)
theorem g0w (r:Int):plain (e99 r)=true:=rfl
def N2 (ij1:Int) (s:(List B6)) (f:GFn) (r:Int):Prop:=JP Tryz.prog 99 (e99 r) 3 [(8,aI ij1),(7,aI (s.length:Int)),(0,.sl (List.map E2 s) .no),(1,.clo (.func f.fn) f.fi f.cap)]
theorem a47 (ij1:Int) (s:(List B6)) (f:GFn) (r:Int) (hw:((decide (ij1<(s.length:Int)))=true ->∃y3,s[ij1.toNat]? =some y3 /\ 0<=ij1 /\ (∃y4,a50 Tryz.prog [] (.clo (.func f.fn) f.fi f.cap) [.agg (E2 y3)] (aB y4) /\ ((y4=true ->r=ij1) /\ (y4=false ->N2 (wI (ij1+1)) s f r)))) /\ ((decide (ij1<(s.length:Int)))=false ->r=(-1))):N2 ij1 s f r:=
 KW 7 hw (fun _ hw=>KI 15 P3 hw fun _ hw=>KF 1 hw fun _ hw=>KW 2 hw (fun _ hw=>KR 12 hw g0w) fun _ hw=>KJ 8 [] hw) fun _ hw=>KR 11 hw g0w
theorem a66 (s:(List B6)) (f:GFn) (r:Int) (hw:N2 0 s f r):a2t s f r:=
 fP (KL 9 P3 s<|KJ 5 [] hw)
theorem c96 (r:Int):plain (g2u r)=true:=rfl
def U7 (ij7:Int) (v:A0) (x:C9) (g:B6) (r:Int):Prop:=J Tryz.prog 101 (.ret (g2u r)) 27 [(65,aI ij7),(64,aI (v.Raws.length:Int)),(63,.sl (List.map T1 v.Raws) .no),(5,.ptr 1 0),(4,.ptr 0 0)] ⟨[some (B7 x.p),some (E2 g)],[],[]⟩
def O0 (ij6:Int) (g:B6) (x:C9) (v:A0) (r:Int):Prop:=J Tryz.prog 101 (.ret (g2u r)) 18 [(47,aI ij6),(46,aI (g.Ops.length:Int)),(45,.sl (List.map W3 g.Ops) .no),(6,.ptr 2 0),(5,.ptr 1 0),(4,.ptr 0 0)] ⟨[some (B7 x.p),some (E2 g),some (B0 v)],[],[]⟩
def V7 (ij4:Int) (v:A0) (level:Int) (x:C9) (g:B6) (r:Int):Prop:=J Tryz.prog 101 (.ret (g2u r)) 8 [(30,aI ij4),(29,aI (v.Slots.length:Int)),(6,.ptr 2 0),(5,.ptr 1 0),(4,.ptr 0 0),(3,aI level)] ⟨[some (B7 x.p),some (E2 g),some (B0 v)],[],[]⟩
theorem a1h {ij7:Int} {v:A0} {x:C9} {g:B6}:a9l [true,true] 0 [(65,aI ij7),(64,aI (v.Raws.length:Int)),(63,.sl (List.map T1 v.Raws) .no),(5,.ptr 1 0),(4,.ptr 0 0)]=true /\ a6x [true,true] 0 [some (B7 x.p),some (E2 g)]=true:=⟨by first|rfl|simp,by first|rfl|simp⟩
theorem a1q {ij6:Int} {g:B6} {x:C9} {v:A0}:a9l [true,true,true] 0 [(47,aI ij6),(46,aI (g.Ops.length:Int)),(45,.sl (List.map W3 g.Ops) .no),(6,.ptr 2 0),(5,.ptr 1 0),(4,.ptr 0 0)]=true /\ a6x [true,true,true] 0 [some (B7 x.p),some (E2 g),some (B0 v)]=true:=⟨by first|rfl|simp,by first|rfl|simp⟩
theorem a03 (ij7:Int) (v:A0) (x:C9) (g:B6) (r:Int) (hw:((decide (ij7<(v.Raws.length:Int)))=true ->∃y23,v.Raws[ij7.toNat]? =some y23 /\ 0<=ij7 /\ (∃y24,a7s x g y23 y24 /\ (((y24 !=0)=true ->r=y24) /\ ((y24 !=0)=false ->U7 (wI (ij7+1)) v x g r)))) /\ ((decide (ij7<(v.Raws.length:Int)))=false ->r=0)):U7 ij7 v x g r:=
 KW 7 hw (fun _ hw=>KI 6 b5a hw fun _ hw=>KC 10 hw g78 fun _ hw=>KW 9 hw (fun _ hw=>KR 12 hw c96) fun _ hw=>KJl 8 [] hw a1h) fun _ hw=>KR 11 hw c96
theorem a02 (ij6:Int) (g:B6) (x:C9) (v:A0) (r:Int) (hw:((decide (ij6<(g.Ops.length:Int)))=true ->∃y25,g.Ops[ij6.toNat]? =some y25 /\ 0<=ij6 /\ (((y25.Card==1)=true ->∃y26,M7 v.Slots (⟨155,[],[.elt (W3 y25) 0],by simp⟩:GFn) y26 /\ (((!y26)=true ->r=14) /\ ((!y26)=false ->O0 (wI (ij6+1)) g x v r))) /\ ((y25.Card==1)=false ->O0 (wI (ij6+1)) g x v r))) /\ ((decide (ij6<(g.Ops.length:Int)))=false ->U7 0 v x g r)):O0 ij6 g x v r:=
 KW 7 hw (fun _ hw=>KI 6 c0n hw fun y25 hw=>KFz 6 3 [true,true,true,false] 0 [(12,.elt (W3 y25) 0),(47,aI ij6),(46,aI (g.Ops.length:Int)),(45,.sl (List.map W3 g.Ops) .no),(6,.ptr 2 0),(5,.ptr 1 0),(4,.ptr 0 0)] [some (B7 x.p),some (E2 g),some (B0 v),none] ⟨by first|rfl|simp,by first|rfl|simp⟩<|KW 5 hw (fun _ hw=>KC 3 hw g0x fun _ hw=>KW 4 hw (fun _ hw=>KR 11 hw c96) fun _ hw=>KJl 8 [] hw a1q) fun _ hw=>KJl 17 [] hw a1q) fun _ hw=>KL 10 b5a v.Raws<|KJl 5 [] hw a1h
theorem a1i (ij4:Int) (v:A0) (level:Int) (x:C9) (g:B6) (r:Int) (hw:((decide (ij4<(v.Slots.length:Int)))=true ->∃y27,a6h x g v.Slots ij4 level y27 /\ (((y27 !=0)=true ->r=y27) /\ ((y27 !=0)=false ->V7 (wI (ij4+1)) v level x g r))) /\ ((decide (ij4<(v.Slots.length:Int)))=false ->O0 0 g x v r)):V7 ij4 v level x g r:=
 KW 7 hw (fun _ hw=>KC 18 hw g8d fun _ hw=>KW 9 hw (fun _ hw=>KR 12 hw c96) fun _ hw=>KJ 8 [] hw) fun _ hw=>KL 10 c0n g.Ops<|KJ 5 [] hw
theorem b12 (x:C9) (g:B6) (v:A0) (level:Int) (r:Int) (hw:∃R1:Bool ->Prop,(∀bz1:Bool,R1 bz1 ->((bz1=true ->r=12) /\ (bz1=false ->((decide (16<level))=true ->r=17) /\ ((decide (16<level))=false ->V7 0 v level x g r)))) /\ (((v.Kind !=10)=true ->R1 true) /\ ((v.Kind !=10)=false ->∃y1,b01 v y1 /\ (R1 y1)))):P4 x g v level r:=
 fP (KQ 16 3 kB hw (fun _ hw=>KW 3 hw (fun _ hw=>KR 8 hw c96) fun _ hw=>KW 7 hw (fun _ hw=>KR 8 hw c96) fun _ hw=>KL 8 C4 v.Slots<|KJ 5 [] hw) (fun _ key _ hw=>KE 3 key hw) fun _ key _ hw=>KC 1 hw f1l fun _ hw=>KE 1 key hw)
theorem g0t (r:Int):plain (g6p r)=true:=rfl
def a78 (ij1:Int) (y1:(List A0)) (ij2:Int) (r:Int):Prop:=JP Tryz.prog 102 (g6p r) 4 [(13,aI ij1),(12,aI (y1.length:Int)),(11,.sl (List.map C0 y1) .no),(3,aI ij2)]
theorem b2r {ij1:Int} {y1:(List A0)} {ij2:Int}:a9l [] 0 [(13,aI ij1),(12,aI (y1.length:Int)),(11,.sl (List.map C0 y1) .no),(3,aI ij2)]=true /\ a6x [] 0 []=true:=⟨by first|rfl|simp,by first|rfl|simp⟩
theorem b9x (ij1:Int) (y1:(List A0)) (ij2:Int) (r:Int) (hw:((decide (ij1<(y1.length:Int)))=true ->∃y4,y1[ij1.toNat]? =some y4 /\ 0<=ij1 /\ (∃y5,b1u y4 y5 /\ (a78 (wI (ij1+1)) y1 (wI (ij2+y5)) r))) /\ ((decide (ij1<(y1.length:Int)))=false ->r=ij2)):a78 ij1 y1 ij2 r:=
 KW 7 hw (fun _ hw=>KI 6 M5 hw fun _ hw=>KC 8 hw g23 fun _ hw=>KJl 10 [] hw b2r) fun _ hw=>KR 12 hw g0t
theorem c5c (v:A0) (r:Int) (hw:∃y1,b9t v y1 /\ (a78 0 y1 (wI (1+(v.Raws.length:Int))) r)):b1u v r:=
 fP (KL 10 b5a v.Raws<|KC 8 hw g7k fun y1 hw=>KL 0 M5 y1<|KJl 5 [] hw b2r)
theorem f2z (r:E0):plain (g4t r)=true /\ (M6 r).all ok1=true /\ lowL [true] 1 (M6 r)=true /\ (a3j r).length=1:=⟨f4p r,a3m _,c0u _,rfl⟩
theorem b6u (w:E0) (o_:GOp) (v:A0) (r:E0) (hw:((o_.Kind==10)=true ->∃y1,Z6 w o_.Target v y1 /\ (r=y1)) /\ ((o_.Kind==10)=false ->∃y2,d10 v y2 /\ (∃y3,W6 w y2 y3 /\ (r=y3)))):Z0 w o_ v r:=
 fIO (KW 14 hw (fun _ hw=>KI1 6 hw f89 fun _ hw=>KRi 4 hw f2z) fun _ hw=>KC 5 hw g9a fun _ hw=>KI1 0 hw d0l fun _ hw=>KRi 1 hw f2z)
theorem g35 (r:E0):plain (g4q r)=true /\ (M6 r).all ok1=true /\ lowL [true] 1 (M6 r)=true /\ (a3j r).length=1:=⟨f2l r,a3m _,c0u _,rfl⟩
theorem c0b (w:E0) (s:ByteArray) (r:E0) (hw:(w.out.length+(bI s).length)*1<=140737488355328 /\ (r=(⟨w.p,(w.out++(bI s))⟩:E0))):W6 w s r:=
 fIO (KA 7 c9u hw mS fun hw=>KRi 4 hw g35)
theorem f2y (r:(List Q0)):plain (g9b r)=true:=(psl (K3 r))
theorem b1w (s:(List Q0)) (r:(List Q0)) (hw:∀bj1:Bool,(s≠[] ->bj1=false) ->((bj1=true ->r=([]:(List Q0))) /\ (bj1=false ->(([]:List Q0).length+s.length)*40<=140737488355328 /\ (r=(([]:List Q0)++s))))):a9a s r:=
 fP (KN 9 b5a hw fun _ hw=>KW 2 hw (fun _ hw=>KR 7 hw f2y) fun _ hw=>KAf 6 b5a hw mF xE fun hw=>KR 4 hw f2y)
theorem f3q (r:(List (Int × A0))):plain (g4d r)=true:=(psl (E6 r))
def a8h (ij1:Int) (lj2:(List (Int × A0))) (r:(List (Int × A0))):Prop:=J Tryz.prog 106 (.ret (g4d r)) 6 [(13,aI ij1),(12,aI (([]:List (Int × A0)).length:Int)),(11,.sl (List.map B3 ([]:List (Int × A0))) .no),(4,.sl (List.map B3 lj2) (.own 0)),(3,.sl (List.map B3 ([]:List (Int × A0))) .no)] ⟨[],[(lj2.length,8)],[]⟩
def a4i (ij3:Int) (y7:(List (Int × A0))) (lj4:(List (Int × A0))) (r:(List (Int × A0))):Prop:=J Tryz.prog 106 (.ret (g4d r)) 6 [(13,aI ij3),(12,aI (y7.length:Int)),(11,.sl (List.map B3 y7) .no),(4,.sl (List.map B3 lj4) (.own 0)),(3,.sl (List.map B3 y7) .no)] ⟨[],[(lj4.length,8)],[]⟩
theorem b2i {ij1:Int} {lj2:(List (Int × A0))}:a9l [] 1 [(13,aI ij1),(12,aI (([]:List (Int × A0)).length:Int)),(11,.sl (List.map B3 ([]:List (Int × A0))) .no),(4,.sl (List.map B3 lj2) (.own 0)),(3,.sl (List.map B3 ([]:List (Int × A0))) .no)]=true /\ a6x [] 1 []=true:=⟨by first|rfl|simp,by first|rfl|simp⟩
theorem a58 {ij3:Int} {y7:(List (Int × A0))} {lj4:(List (Int × A0))}:a9l [] 1 [(13,aI ij3),(12,aI (y7.length:Int)),(11,.sl (List.map B3 y7) .no),(4,.sl (List.map B3 lj4) (.own 0)),(3,.sl (List.map B3 y7) .no)]=true /\ a6x [] 1 []=true:=⟨by first|rfl|simp,by first|rfl|simp⟩
theorem c0q (ij1:Int) (lj2:(List (Int × A0))) (r:(List (Int × A0))) (hw:((decide (ij1<(([]:List (Int × A0)).length:Int)))=true ->∃y4,([]:List (Int × A0))[ij1.toNat]? =some y4 /\ 0<=ij1 /\ (∃R4:Bool ->Prop,(∀bz4:Bool,R4 bz4 ->((bz4=true ->(lj2.length+[y4].length)*136<=140737488355328 /\ (a8h (wI (ij1+1)) (lj2++[y4]) r)) /\ (bz4=false ->a8h (wI (ij1+1)) lj2 r))) /\ ((((wI (ij1+1))==(([]:List (Int × A0)).length:Int))=true ->R4 true) /\ (((wI (ij1+1))==(([]:List (Int × A0)).length:Int))=false ->∃y6,([]:List (Int × A0))[(wI (ij1+1)).toNat]? =some y6 /\ 0<=(wI (ij1+1)) /\ (R4 (y4.1 !=y6.1)))))) /\ ((decide (ij1<(([]:List (Int × A0)).length:Int)))=false ->r=lj2)):a8h ij1 lj2 r:=
 KW 7 hw (fun _ hw=>KI 7 C4 hw fun _ hw=>KD 7 [0]<|KL 3 C4 ([]:List (Int × A0))<|KQ 2 10 kB hw (fun _ hw=>KW 3 hw (fun _ hw=>KA 4 C4 hw mE fun hw=>KJl 9 [] hw b2i) fun _ hw=>KJl 8 [] hw b2i) (fun _ key _ hw=>KE 10 key hw) fun _ key _ hw=>KI 5 C4 hw fun _ hw=>KE 4 key hw) fun _ hw=>KR 12 hw f3q
theorem a5b (ij3:Int) (y7:(List (Int × A0))) (lj4:(List (Int × A0))) (r:(List (Int × A0))) (hw:((decide (ij3<(y7.length:Int)))=true ->∃y11,y7[ij3.toNat]? =some y11 /\ 0<=ij3 /\ (∃R8:Bool ->Prop,(∀bz8:Bool,R8 bz8 ->((bz8=true ->(lj4.length+[y11].length)*136<=140737488355328 /\ (a4i (wI (ij3+1)) y7 (lj4++[y11]) r)) /\ (bz8=false ->a4i (wI (ij3+1)) y7 lj4 r))) /\ ((((wI (ij3+1))==(y7.length:Int))=true ->R8 true) /\ (((wI (ij3+1))==(y7.length:Int))=false ->∃y13,y7[(wI (ij3+1)).toNat]? =some y13 /\ 0<=(wI (ij3+1)) /\ (R8 (y11.1 !=y13.1)))))) /\ ((decide (ij3<(y7.length:Int)))=false ->r=lj4)):a4i ij3 y7 lj4 r:=
 KW 7 hw (fun _ hw=>KI 7 C4 hw fun _ hw=>KD 7 [0]<|KL 3 C4 y7<|KQ 2 10 kB hw (fun _ hw=>KW 3 hw (fun _ hw=>KA 4 C4 hw mE fun hw=>KJl 9 [] hw a58) fun _ hw=>KJl 8 [] hw a58) (fun _ key _ hw=>KE 10 key hw) fun _ key _ hw=>KI 5 C4 hw fun _ hw=>KE 4 key hw) fun _ hw=>KR 12 hw f3q
theorem b6d (l:(List (Int × A0))) (r:(List (Int × A0))) (hw:(l=[] ->a6m l ([]:List (Int × A0)) /\ (W7 (⟨160,[],[],rfl⟩:GFn) /\ (a8h 0 ([]:List (Int × A0)) r))) /\ (l≠[] ->a24 l /\ (∃y7,Q8 l.length l (⟨160,[],[],rfl⟩:GFn) y7 /\ (l≠[] /\ y7≠[]) /\ (y7.length=l.length /\ (a4i 0 y7 ([]:List (Int × A0)) r))))):b1c l r:=
 fP (g8a l (fun hb1=>KC0 8 (hw.1 hb1) g7d fun hw=>KC0 6 hw g2g fun hw=>KL 11 C4 ([]:List (Int × A0))<|KO 5 4 8<|KJ 0 [] hw) fun hb1=>KNw 8 C4 hb1 (hw.2 hb1) fun hw=>KRO 6 C4 hw g0d fun y7 hw=>KDf 2 C4 0 [false] 0 1 [(3,.sl (List.map B3 y7) .no)] [none] ⟨by first|rfl|simp,by first|rfl|simp⟩ hw fun hw=>KL 9 C4 y7<|KO 5 4 8<|KJl 0 [] hw a58)
theorem g00 (r:(GOp × Bool)):plain (g9e r)=true:=(c6m (A6 (O7 r.1) (A6 rfl rfl)))
theorem d5o (g:B6) (num:Int) (r:(GOp × Bool)) (hw:∃y1,b9h (⟨(⟨161,[],[.elt [aI num] 0],by simp⟩:GFn)⟩:b20) g y1 /\ (r=(y1.1,y1.2))):b98 g num r:=
 fP (KFz 9 1 [true,false,true] 0 [(4,.ptr 2 0),(3,.elt [aI num] 0),(2,.ptr 0 0)] [some (E2 g),none,some [aI 0,aE,aE,aI 0,aI 0,aI 0,aI 0,aI 0]] ⟨by first|rfl|simp,by first|rfl|simp⟩<|KC 4 hw g8o fun _ hw=>KR 7 hw g00)
theorem e43 (r:A0):plain (g4n r)=true:=(B5 r)
def a28 (ij1:Int) (v:A0) (p:A5) (o_:GOp) (lj2:(List A0)) (r:A0):Prop:=J Tryz.prog 108 (.ret (g4n r)) 7 [(21,aI ij1),(20,aI (v.List_.length:Int)),(19,.sl (List.map C0 v.List_) .no),(7,.ptr 4 0),(6,.ptr 3 0),(4,.ptr 1 0),(3,.ptr 0 0)] ⟨[some (B7 p),some (W3 o_),none,some zV,some [aI 11,aU 0,aE,.sl (List.map C0 lj2) (.own 0),.nil,.nil,.nil]],[(lj2.length,7)],[]⟩
def a3g (ij3:Int) (y5:(List (A0 × A0))) (p:A5) (o_:GOp) (lj4:(List (A0 × A0))) (r:A0):Prop:=J Tryz.prog 108 (.ret (g4n r)) 17 [(43,aI ij3),(42,aI (y5.length:Int)),(41,.sl (List.map B4 y5) .no),(10,.ptr 4 0),(6,.ptr 3 0),(4,.ptr 1 0),(3,.ptr 0 0)] ⟨[some (B7 p),some (W3 o_),none,some zV,some [aI 12,aU 0,aE,.nil,.sl (List.map B4 lj4) (.own 0),.nil,.nil]],[(lj4.length,14)],[]⟩
theorem a8n {ij1:Int} {v:A0} {p:A5} {o_:GOp} {lj2:(List A0)}:a9l [true,true,false,true,true] 1 [(21,aI ij1),(20,aI (v.List_.length:Int)),(19,.sl (List.map C0 v.List_) .no),(7,.ptr 4 0),(6,.ptr 3 0),(4,.ptr 1 0),(3,.ptr 0 0)]=true /\ a6x [true,true,false,true,true] 1 [some (B7 p),some (W3 o_),none,some zV,some [aI 11,aU 0,aE,.sl (List.map C0 lj2) (.own 0),.nil,.nil,.nil]]=true:=⟨by first|rfl|simp,by first|rfl|simp⟩
theorem a9b {ij3:Int} {y5:(List (A0 × A0))} {p:A5} {o_:GOp} {lj4:(List (A0 × A0))}:a9l [true,true,false,true,true] 1 [(43,aI ij3),(42,aI (y5.length:Int)),(41,.sl (List.map B4 y5) .no),(10,.ptr 4 0),(6,.ptr 3 0),(4,.ptr 1 0),(3,.ptr 0 0)]=true /\ a6x [true,true,false,true,true] 1 [some (B7 p),some (W3 o_),none,some zV,some [aI 12,aU 0,aE,.nil,.sl (List.map B4 lj4) (.own 0),.nil,.nil]]=true:=⟨by first|rfl|simp,by first|rfl|simp⟩
theorem a7a (ij1:Int) (v:A0) (p:A5) (o_:GOp) (lj2:(List A0)) (r:A0) (hw:((decide (ij1<(v.List_.length:Int)))=true ->∃y3,v.List_[ij1.toNat]? =some y3 /\ 0<=ij1 /\ (∃y4,a6s p o_ y3 y4 /\ ((lj2.length+[y4].length)*128<=140737488355328 /\ (a28 (wI (ij1+1)) v p o_ (lj2++[y4]) r)))) /\ ((decide (ij1<(v.List_.length:Int)))=false ->r=(⟨11,0,(⟨#[]⟩:ByteArray),lj2,([]:(List (A0 × A0))),([]:(List (Int × A0))),([]:(List Q0))⟩:A0))):a28 ij1 v p o_ lj2 r:=
 KW 7 hw (fun _ hw=>KI 6 M5 hw fun _ hw=>KD 5 [0,1,4,5]<|KC 5 hw f6p fun _ hw=>KA 1 M5 hw mE fun hw=>KJl 11 [] hw a8n) fun _ hw=>KR 14 hw e43
theorem a67 (ij3:Int) (y5:(List (A0 × A0))) (p:A5) (o_:GOp) (lj4:(List (A0 × A0))) (r:A0) (hw:((decide (ij3<(y5.length:Int)))=true ->∃y9,y5[ij3.toNat]? =some y9 /\ 0<=ij3 /\ (∃y10,a77 y9.1 y10 /\ (∃y11,a6s p o_ y9.2 y11 /\ ((lj4.length+[(y10,y11)].length)*256<=140737488355328 /\ (a3g (wI (ij3+1)) y5 p o_ (lj4++[(y10,y11)]) r))))) /\ ((decide (ij3<(y5.length:Int)))=false ->r=(⟨12,0,(⟨#[]⟩:ByteArray),([]:(List A0)),lj4,([]:(List (Int × A0))),([]:(List Q0))⟩:A0))):a3g ij3 y5 p o_ lj4 r:=
 KW 7 hw (fun _ hw=>KI 6 C7 hw fun _ hw=>KD 5 [0,1,4,5]<|KC 4 hw g38 fun _ hw=>KC 4 hw f6p fun _ hw=>KA 2 C7 hw mE fun hw=>KJl 11 [] hw a9b) fun _ hw=>KR 14 hw e43
theorem c0c (p:A5) (o_:GOp) (v:A0) (r:A0) (hw:((o_.Card==4)=true ->a28 0 v p o_ ([]:List A0) r) /\ ((o_.Card==4)=false ->((o_.Card==5)=true ->∃y5,b5l v.Pairs y5 /\ (a3g 0 y5 p o_ ([]:List (A0 × A0)) r)) /\ ((o_.Card==5)=false ->∃y12,a6s p o_ v y12 /\ (r=y12)))):b27 p o_ v r:=
 fP (KW 22 hw (fun _ hw=>KL 12 M5 v.List_<|KOb 5 4 3 7<|KJl 0 [] hw a8n) fun _ hw=>KW 6 hw (fun _ hw=>KC 12 hw g8f fun y5 hw=>KL 0 C7 y5<|KOb 5 4 4 14<|KJl 0 [] hw a9b) fun _ hw=>KC 8 hw f6p fun _ hw=>KR 4 hw e43)
theorem f2j (r:Bool):plain (g96 r)=true:=rfl
theorem c8a (v:A0) (r:Bool) (hw:((((v.Kind==11)&&((v.List_.length:Int)==0))||((v.Kind==12)&&((v.Pairs.length:Int)==0)))=true ->r=true) /\ ((((v.Kind==11)&&((v.List_.length:Int)==0))||((v.Kind==12)&&((v.Pairs.length:Int)==0)))=false ->∃y1,a6t v y1 /\ (r=y1))):c3q v r:=
 fP (KT2 12 5 (v.Kind==11) (fun z=>aB (z&&((v.List_.length:Int)==0))) (fun _ key=>KL 2 M5 v.List_<|KE2 2 key) (fun _ key=>KE2 5 key)<|KT2 1 10 ((v.Kind==11)&&((v.List_.length:Int)==0)) (fun z=>aB (z||((v.Kind==12)&&((v.Pairs.length:Int)==0)))) (fun _ key=>KE2 10 key) (fun _ key=>KT2 4 5 (v.Kind==12) (fun z=>aB (z&&((v.Pairs.length:Int)==0))) (fun _ key=>KL 2 C7 v.Pairs<|KE2 2 key) (fun _ key=>KE2 5 key)<|KE2 1 key)<|KW 1 hw (fun _ hw=>KR 7 hw f2j) fun _ hw=>KC 1 hw g1e fun _ hw=>KR 5 hw f2j)
theorem c95 (r:Int):plain (g9x r)=true:=rfl
theorem b9c (x:Int) (y:Int) (r:Int) (hw:∃y1,b5n x y1 /\ (∃y2,b5n y y2 /\ ((y1=true ->(y2=true ->r=0) /\ (y2=false ->r=(-1))) /\ (y1=false ->(y2=true ->r=1) /\ (y2=false ->((decide (x<y))=true ->r=(-1)) /\ ((decide (x<y))=false ->((decide (y<x))=true ->r=1) /\ ((decide (y<x))=false ->r=0))))))):Q3 x y r:=
 fP (KC 8 hw g0p fun _ hw=>KC 6 hw g0p fun _ hw=>KW 9 hw (fun _ hw=>KW 6 hw (fun _ hw=>KR 8 hw c95) fun _ hw=>KR 9 hw c95) fun _ hw=>KW 8 hw (fun _ hw=>KR 7 hw c95) fun _ hw=>KW 10 hw (fun _ hw=>KR 7 hw c95) fun _ hw=>KW 10 hw (fun _ hw=>KR 7 hw c95) fun _ hw=>KR 8 hw c95)
theorem g2t (r:(A7 × Int)):plain (g39 r)=true /\ (D0 r.1).all ok1=true /\ lowL [true] 0 (D0 r.1)=true /\ (J5 r.1).length=0:=⟨f4b r,I8 _,a42 _,rfl⟩
theorem a80 (r_:A7) (n:Int) (r:(A7 × Int)) (hw:∃y1,c4r r_.c n y1 /\ (r=((⟨r_.p,y1.1⟩:A7),y1.2))):a1l r_ n r:=
 fIO (KC 12 hw g5p fun _ hw=>KRi 24 hw g2t)
theorem e2a (r:(A7 × (A0 × Int))):plain (g4j r)=true /\ (D0 r.1).all ok1=true /\ lowL [true] 0 (D0 r.1)=true /\ (J5 r.1).length=0:=⟨f3i r,I8 _,a42 _,rfl⟩
theorem b7o (r_:A7) (o_:GOp) (r:(A7 × (A0 × Int))) (hw:((o_.Kind==10)=true ->∃y1,V9 r_ o_.Target y1 /\ (r=(y1.1,y1.2.1,y1.2.2))) /\ ((o_.Kind==10)=false ->∃y2,a1l r_ 1 y2 /\ (((y2.2 !=0)=true ->r=(y2.1,(⟨0,0,(⟨#[]⟩:ByteArray),([]:(List A0)),([]:(List (A0 × A0))),([]:(List (Int × A0))),([]:(List Q0))⟩:A0),y2.2)) /\ ((y2.2 !=0)=false ->∃y3,c3y y2.1.p o_ y2.1.c y3 /\ (r=((⟨y2.1.p,y3.2.1⟩:A7),y3.1,y3.2.2)))))):G2 r_ o_ r:=
 fIO (KW 15 hw (fun _ hw=>KIO 5 hw g01 fun _ hw=>KRi 8 hw e2a) fun _ hw=>KIO 6 hw e2h fun _ hw=>KW 9 hw (fun _ hw=>KRi 10 hw e2a) fun _ hw=>KD 3 [0,1]<|KC 9 hw h1o fun _ hw=>KV 6<|KV 0<|KRi 22 hw e2a)
theorem e8b (r:(A7 × (A0 × Int))):plain (f9x r)=true /\ (D0 r.1).all ok1=true /\ lowL [true] 0 (D0 r.1)=true /\ (J5 r.1).length=0:=⟨f4f r,I8 _,a42 _,rfl⟩
def a15 (ij1:Int) (y1:(A7 × (Int × Int))) (lj2:(List B6)) (lj3:(List V5)) (sj4:ByteArray) (ij5:Int) (ij6:Int) (ij7:Int) (ij8:Int) (ij9:Int) (o_:GOp) (lj10:(List A0)) (r:(A7 × (A0 × Int))):Prop:=J Tryz.prog 115 (.io 0 (f9x r) (D0 r.1) (J5 r.1)) 8 [(22,aI ij1),(21,aI y1.2.1),(6,.ptr 3 0),(4,.ptr 2 0),(3,.ptr 1 0),(0,.ptr 0 0)] ⟨[some [.sl (List.map E2 lj2) .no,.sl (List.map Q4 lj3) .no,aS sj4,aI ij5,aI ij6,aI ij7,aI ij8,aI ij9],some (W3 o_),some zV,some [aI 11,aU 0,aE,.sl (List.map C0 lj10) (.own 0),.nil,.nil,.nil]],[(lj10.length,7)],[]⟩
theorem b6j {ij1:Int} {y1:(A7 × (Int × Int))} {lj2:(List B6)} {lj3:(List V5)} {sj4:ByteArray} {ij5:Int} {ij6:Int} {ij7:Int} {ij8:Int} {ij9:Int} {o_:GOp} {lj10:(List A0)}:a9l [true,true,true,true] 1 [(22,aI ij1),(21,aI y1.2.1),(6,.ptr 3 0),(4,.ptr 2 0),(3,.ptr 1 0),(0,.ptr 0 0)]=true /\ a6x [true,true,true,true] 1 [some [.sl (List.map E2 lj2) .no,.sl (List.map Q4 lj3) .no,aS sj4,aI ij5,aI ij6,aI ij7,aI ij8,aI ij9],some (W3 o_),some zV,some [aI 11,aU 0,aE,.sl (List.map C0 lj10) (.own 0),.nil,.nil,.nil]]=true:=⟨by first|rfl|simp,by first|rfl|simp⟩
theorem a6f (ij1:Int) (y1:(A7 × (Int × Int))) (lj2:(List B6)) (lj3:(List V5)) (sj4:ByteArray) (ij5:Int) (ij6:Int) (ij7:Int) (ij8:Int) (ij9:Int) (o_:GOp) (lj10:(List A0)) (r:(A7 × (A0 × Int))) (hw:((decide (ij1<y1.2.1))=true ->∃y3,G2 (⟨(⟨lj2,lj3⟩:A5),(⟨sj4,ij5,ij6,ij7,ij8,ij9⟩:A3)⟩:A7) o_ y3 /\ (((y3.2.2 !=0)=true ->r=(y3.1,(⟨11,0,(⟨#[]⟩:ByteArray),lj10,([]:(List (A0 × A0))),([]:(List (Int × A0))),([]:(List Q0))⟩:A0),y3.2.2)) /\ ((y3.2.2 !=0)=false ->(lj10.length+[y3.2.1].length)*128<=140737488355328 /\ (a15 (wI (ij1+1)) y1 y3.1.p.Progs y3.1.p.Enums y3.1.c.Data y3.1.c.At y3.1.c.End y3.1.c.Depth y3.1.c.Nodes y3.1.c.Text o_ (lj10++[y3.2.1]) r)))) /\ ((decide (ij1<y1.2.1))=false ->r=((⟨(⟨lj2,lj3⟩:A5),(⟨sj4,ij5,ij6,ij7,ij8,ij9⟩:A3)⟩:A7),(⟨11,0,(⟨#[]⟩:ByteArray),lj10,([]:(List (A0 × A0))),([]:(List (Int × A0))),([]:(List Q0))⟩:A0),0))):a15 ij1 y1 lj2 lj3 sj4 ij5 ij6 ij7 ij8 ij9 o_ lj10 r:=
 KW 7 hw (fun _ hw=>KIO 8 hw c8e fun _ hw=>KW 15 hw (fun _ hw=>KRi 15 hw e8b) fun _ hw=>KA 7 M5 hw mE fun hw=>KJl 10 [] hw b6j) fun _ hw=>KRi 13 hw e8b
theorem b9a (r_:A7) (o_:GOp) (r:(A7 × (A0 × Int))) (hw:∃y1,a4s r_ y1 /\ (((y1.2.2 !=0)=true ->r=(y1.1,(⟨11,0,(⟨#[]⟩:ByteArray),([]:(List A0)),([]:(List (A0 × A0))),([]:(List (Int × A0))),([]:(List Q0))⟩:A0),y1.2.2)) /\ ((y1.2.2 !=0)=false ->a15 0 y1 y1.1.p.Progs y1.1.p.Enums y1.1.c.Data y1.1.c.At y1.1.c.End y1.1.c.Depth y1.1.c.Nodes y1.1.c.Text o_ ([]:List A0) r))):a0q r_ o_ r:=
 fIO (KIO 17 hw f3z fun _ hw=>KW 14 hw (fun _ hw=>KRi 10 hw e8b) fun _ hw=>KOb 11 3 3 7<|KJ 0 [] hw)
end
end Go.Proofs.YtidmmngcijapcaaGreat.Lift
