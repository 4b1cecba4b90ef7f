/- Part 7 of the texts that prove GatewayChecksEnd. -/
import Derived.Test.YtkhgohfaecbgkaaGreatDoorGatewayChecksEndP2
import Derived.Test.YtkhgohfaecbgkaaGreatDoorProg
import Derived.Test.YtkhgohfaecbgkaaGreatDoorGatewayChecksEndP5
import Derived.Test.YtkhgohfaecbgkaaGreatDoorGatewayChecksEndP4
import Derived.Shelf.Strings.BuilderF
import Derived.Lib.LaidU8
import Derived.Shelf.Vars
namespace Go.Proofs.YtkhgohfaecbgkaaGreatDoor.Lift
open Go.RowKit
set_option linter.unusedVariables false
set_option linter.unusedSimpArgs false
set_option linter.unnecessarySimpa false
set_option linter.unusedSectionVars false
set_option maxRecDepth 100000
def l87:LO:=[o 4 (mb false)]
def k0d:LO:=[o 5 (mv 0),o 6 (.bin .neq (T 5) (ci 5))]
def i5w:LO:=[o 7 (mv 1),o 8 (.bin .eql (T 7) (ci 0)),o 4 (mv 8)]
def j5q:A0:=.seq (.region k0d) (.cond (T 6) (.seq (.region i5w) .ret) .skip)
def h4q:LO:=[o 9 (mv 1),o 10 (.bin .geq (T 9) (ci 1)),o 11 (mv 10),og 12 (mv 1) 11 true,og 13 (.bin .leq (T 12) (ci 7)) 11 true,o 14 (.pick (T 11) (T 13) (cb false)),o 15 (mv 14),og 16 (mv 1) 15 true,og 17 (.bin .neq (T 16) (ci 6)) 15 true,o 18 (.pick (T 15) (T 17) (cb false)),o 4 (mv 18)]
def e2k:A0:=.seq (.region l87) (.seq j5q (.seq (.region h4q) .ret))
theorem m3t:B0 Tryz.prog 399=some (19,e2k,[.tmp 4]):=by kernel_rfl
def l80:LO:=[o 1 (bx 0),o 2 (.mv (.c aE))]
def l7x:LO:=[o 3 (fa 1 1),o 4 (ld 3),o 2 (mv 4)]
def e7a:A0:=.seq (.region l80) (.seq (.region l7x) .ret)
theorem n1n:B0 Tryz.prog 398=some (5,e7a,[.tmp 2]):=by kernel_rfl
def i14:LO:=[o 3 (bx 0),o 4 (bx 1),o 5 (bx 2),o 6 (mb false)]
def h7r:LO:=[o 7 (ld 3),o 8 (ld 4),o 9 (.sliceV 16 (T 7) none (some (T 8)) none),o 10 (.func (.func 432) [] [(T 5),(T 3),(T 4)]),o 11 (.call (cf 431) [(T 9),(T 10)]),o 6 (mv 11)]
def e4l:A0:=.seq (.region i14) (.seq (.region h7r) .ret)
theorem m80:B0 Tryz.prog 397=some (12,e4l,[.tmp 6]):=by kernel_rfl
def k39:LO:=[o 4 (bx 0),o 5 (mb false)]
def i2q:LO:=[o 6 (ld 1),o 7 (ln 16 4),o 8 (.call (T 6) [(T 7)]),o 9 (ld 1),o 10 (ld 2),o 11 (ld 3),o 12 (.idxSl 16 (T 10) (T 11)),o 13 (ln 16 12)]
def f98:LO:=[o 14 (.call (T 9) [(T 13)]),o 15 (.bin .eql (T 8) (T 14)),o 5 (mv 15)]
def h3p:LN:=[[],[],[0,1],[],[],[],[4,5],[6]]
def e3q:A0:=.seq (.region k39) (.seq (.drawn h3p i2q f98) .ret)
theorem m61:B0 Tryz.prog 432=some (16,e3q,[.tmp 5]):=by kernel_rfl
def h5r:LO:=[o 1 (bx 0),o 2 (.mv (.c (.v (.map none))))]
def l8l:LO:=[o 9 (.mkmap),o 3 (.alloc [(.v (.map none))]),on (st 1 3 9)]
def l6c:LO:=[o 10 (fa 0 1),o 11 (ld 10),o 12 (.len false (T 11)),o 13 (.bin .add (T 12) (ci 1)),o 14 (mi 0)]
def h6z:LO:=[o 15 (.bin .lss (T 14) (T 13))]
def i6q:LO:=[o 16 (fa 0 1),o 17 (ld 16),o 18 (.len false (T 17)),o 19 (mi 0)]
def k0n:LO:=[o 20 (.bin .lss (T 19) (T 18))]
def h3b:LO:=[o 21 (.idxSl 5 (T 17) (T 19)),o 22 (ln 5 21),o 5 (.alloc [aE,.nil,.nil,.nil,.nil]),on (st 5 5 22)]
def g2r:LO:=[o 24 (ln 3 1),o 25 (fa 0 5),o 26 (ld 25),o 27 (.call (cf 331) [(T 24),(T 26)]),o 23 (mv 27),o 28 (.extract 0 (T 23)),o 29 (.extract 1 (T 23)),o 6 (.alloc [aE,.nil,.nil,.nil,.nil]),on (st 5 6 28),o 7 (mv 29)]
def h1h:LO:=[o 30 (ln 5 6),o 31 (.call (cf 332) [(T 30)]),o 32 (.func (.func 333) [] [(T 1),(T 3)]),o 33 (.call (cf 329) [(T 31),(T 32)]),o 8 (mv 33)]
def g4r:LO:=[o 34 (mv 8),o 35 (.un .not (T 34))]
def g0d:LO:=[o 36 (ld 3),o 37 (fa 0 5),o 38 (ld 37),on (.mapset (T 36) (T 38) (cb true))]
def i6i:A0:=.seq (.region g4r) (.cond (T 35) (.region g0d) .skip)
def j63:A0:=.seq (.region h3b) (.seq (.region g2r) (.seq (.region h1h) i6i))
def g7m:LO:=[o 39 (.bin .add (T 19) (ci 1)),o 19 (mv 39)]
def k0u:A0:=.seq (.cond (T 20) .skip (.exit 2)) (.seq (.block 3 j63) (.region g7m))
def j9y:A0:=.seq (.region k0n) k0u
def f8l:LO:=[o 40 (.bin .add (T 14) (ci 1)),o 14 (mv 40)]
def i1y:A0:=.seq (.block 1 (.seq (.region i6q) (.block 2 (.loop j9y)))) (.region f8l)
def i41:A0:=.seq (.region h6z) (.seq (.cond (T 15) .skip (.exit 0)) i1y)
def g5h:LO:=[o 41 (ld 3),o 2 (mv 41)]
def i1g:A0:=.seq (.seq (.region l6c) (.block 0 (.loop i41))) (.seq (.region g5h) .ret)
def e08:A0:=.seq (.region h5r) (.seq (.region l8l) i1g)
theorem n74:B0 Tryz.prog 260=some (42,e08,[.tmp 2]):=by kernel_rfl
def l18:LO:=[o 1 (bx 0),o 2 (mb false)]
def i8s:LO:=[o 5 (mi 0)]
def i0n:LO:=[o 6 (.bin .lss (T 5) (ci 3))]
def k75:LO:=[o 7 (mv 5),o 3 (mv 7)]
def j6u:LO:=[o 8 (mv 3),o 9 (mi 0)]
def k3g:LO:=[o 10 (.bin .lss (T 9) (T 8))]
def f9y:LO:=[o 11 (mv 9),o 4 (.alloc [(aI 0)]),on (st 1 4 11)]
def f54:LO:=[o 12 (mv 3),o 13 (.idxA 3 1 (T 1) (T 12)),o 14 (ld 13),o 15 (.func (.func 330) [] [(T 1),(T 4)]),o 16 (.call (cf 329) [(T 14),(T 15)])]
def f05:LO:=[o 2 (mb false)]
def j2h:A0:=.seq (.region f54) (.cond (T 16) (.seq (.region f05) .ret) .skip)
def g6v:LO:=[o 17 (.bin .add (T 9) (ci 1)),o 9 (mv 17)]
def i63:A0:=.seq (.block 3 (.seq (.region f9y) j2h)) (.region g6v)
def l0p:A0:=.seq (.region k3g) (.seq (.cond (T 10) .skip (.exit 2)) i63)
def j6r:A0:=.seq (.region k75) (.seq (.region j6u) (.block 2 (.loop l0p)))
def f77:LO:=[o 18 (.bin .add (T 5) (ci 1)),o 5 (mv 18)]
def j10:A0:=.seq (.cond (T 6) .skip (.exit 0)) (.seq (.block 1 j6r) (.region f77))
def k9u:A0:=.seq (.region i0n) j10
def h05:LO:=[o 2 (mb true)]
def i1h:A0:=.seq (.seq (.region i8s) (.block 0 (.loop k9u))) (.seq (.region h05) .ret)
def e1m:A0:=.seq (.region l18) i1h
theorem n3n:B0 Tryz.prog 259=some (19,e1m,[.tmp 2]):=by kernel_rfl
def k5s:LO:=[o 4 (mb false)]
def h9j:LO:=[o 5 (ld 2),o 6 (.idxA 3 1 (T 1) (T 5)),o 7 (ld 6),o 8 (mv 0),o 9 (.call (cf 53) [(T 7),(T 8)]),o 4 (mv 9)]
def e5w:A0:=.seq (.region k5s) (.seq (.region h9j) .ret)
theorem o0s:B0 Tryz.prog 330=some (10,e5w,[.tmp 4]):=by kernel_rfl
def j97:LO:=[o 2 (mb false)]
def j46:LO:=[o 3 (mi 1)]
def k9v:LO:=[o 4 (mv 3),o 5 (mv 0),o 6 (.len false (T 5)),o 7 (.bin .lss (T 4) (T 6))]
def k9l:LO:=[o 10 (mv 0),o 11 (mv 3),o 12 (.idxSl 1 (T 10) (T 11)),o 13 (ld 12),o 14 (mv 0),o 15 (mv 3),o 16 (.bin .sub (T 15) (ci 1)),o 17 (.idxSl 1 (T 14) (T 16)),o 18 (ld 17)]
def f0g:LO:=[o 19 (.bin .leq (T 13) (T 18))]
def h0g:LN:=[[],[],[0,1],[2],[],[],[5],[4,6],[7]]
def j7x:LO:=[o 2 (mb false)]
def k7i:A0:=.seq (.drawn h0g k9l f0g) (.cond (T 19) (.seq (.region j7x) .ret) .skip)
def f18:LO:=[o 8 (mv 3),o 9 (.bin .add (T 8) (ci 1)),o 3 (mv 9)]
def j84:A0:=.seq (.seq (.region k9v) (.cond (T 7) .skip (.exit 0))) (.seq (.block 1 k7i) (.region f18))
def f0d:LO:=[o 2 (mb true)]
def k88:A0:=.seq (.seq (.region j46) (.block 0 (.loop j84))) (.seq (.region f0d) .ret)
def e4y:A0:=.seq (.region j97) k88
theorem o13:B0 Tryz.prog 258=some (20,e4y,[.tmp 2]):=by kernel_rfl
def l6b:LO:=[o 1 (bx 0),o 2 (.alloc [.nil,.nil,.nil])]
def h6a:LO:=[o 3 (.alloc [.nil,.nil,.nil])]
def i9p:LO:=[o 10 (fa 0 1),o 11 (ld 10),o 12 (.len false (T 11)),o 13 (mi 0)]
def j54:LO:=[o 14 (.bin .lss (T 13) (T 12))]
def i57:LO:=[o 15 (.idxSl 5 (T 11) (T 13)),o 16 (ln 5 15),o 5 (.alloc [aE,.nil,.nil,.nil,.nil]),on (st 5 5 16)]
def h7t:LO:=[o 17 (.idxA 3 1 (T 3) (ci 0)),o 18 (ld 17),o 19 (fa 0 5),o 20 (ld 19),o 21 (.sliceLit 1 1 [aE] [((0,1),(T 20))]),o 22 (.append 9 1 16 (T 18) (T 21)),o 23 (.idxA 3 1 (T 3) (ci 0)),on (st 1 23 22)]
def g73:LO:=[o 24 (.bin .add (T 13) (ci 1)),o 13 (mv 24)]
def j27:A0:=.seq (.block 1 (.seq (.region i57) (.region h7t))) (.region g73)
def k4c:A0:=.seq (.region j54) (.seq (.cond (T 14) .skip (.exit 0)) j27)
def h3j:LO:=[o 25 (fa 1 1),o 26 (ld 25),o 27 (.len false (T 26)),o 28 (mi 0)]
def f9s:LO:=[o 29 (.bin .lss (T 28) (T 27))]
def f0k:LO:=[o 30 (.idxSl 5 (T 26) (T 28)),o 31 (ln 5 30),o 7 (.alloc [aE,(aB false),.nil,.nil,.nil]),on (st 5 7 31)]
def f6n:LO:=[o 32 (.idxA 3 1 (T 3) (ci 1)),o 33 (ld 32),o 34 (fa 0 7),o 35 (ld 34),o 36 (.sliceLit 1 1 [aE] [((0,1),(T 35))]),o 37 (.append 9 1 16 (T 33) (T 36)),o 38 (.idxA 3 1 (T 3) (ci 1)),on (st 1 38 37)]
def f3j:LO:=[o 39 (.bin .add (T 28) (ci 1)),o 28 (mv 39)]
def j7p:A0:=.seq (.block 3 (.seq (.region f0k) (.region f6n))) (.region f3j)
def k3o:A0:=.seq (.region f9s) (.seq (.cond (T 29) .skip (.exit 2)) j7p)
def f5u:LO:=[o 40 (fa 2 1),o 41 (ld 40),o 42 (.len false (T 41)),o 43 (mi 0)]
def g1a:LO:=[o 44 (.bin .lss (T 43) (T 42))]
def f95:LO:=[o 45 (.idxSl 3 (T 41) (T 43)),o 46 (ln 3 45),o 9 (.alloc [aE,.nil,.nil]),on (st 3 9 46)]
def h24:LO:=[o 47 (.idxA 3 1 (T 3) (ci 2)),o 48 (ld 47),o 49 (fa 0 9),o 50 (ld 49),o 51 (.sliceLit 1 1 [aE] [((0,1),(T 50))]),o 52 (.append 9 1 16 (T 48) (T 51)),o 53 (.idxA 3 1 (T 3) (ci 2)),on (st 1 53 52)]
def g8f:LO:=[o 54 (.bin .add (T 43) (ci 1)),o 43 (mv 54)]
def l8j:A0:=.seq (.block 5 (.seq (.region f95) (.region h24))) (.region g8f)
def l0m:A0:=.seq (.region g1a) (.seq (.cond (T 44) .skip (.exit 4)) l8j)
def g69:LO:=[o 55 (ln 3 3),on (st 3 2 55)]
def i8a:A0:=.seq (.seq (.region f5u) (.block 4 (.loop l0m))) (.seq (.region g69) .ret)
def l60:A0:=.seq (.seq (.region h3j) (.block 2 (.loop k3o))) i8a
def k7y:A0:=.seq (.seq (.region i9p) (.block 0 (.loop k4c))) l60
def d34:A0:=.seq (.region l6b) (.seq (.region h6a) k7y)
theorem m8z:B0 Tryz.prog 256=some (56,d34,[.cell 2 (some 3)]):=by kernel_rfl
def m8m:LO:=[o 1 (bx 0),o 2 (.alloc [(aI 0),aE])]
def n3t:LO:=[o 4 (fa 0 1),o 5 (ld 4),o 6 (.call (cf 108) [(T 5)]),o 3 (mv 6)]
def n1z:LO:=[o 7 (fa 1 1),o 8 (ld 7),o 9 (.bin .neq (T 8) (.c aE))]
def m24:LO:=[o 10 (mv 3),o 11 (fa 1 1),o 12 (ld 11),o 13 (.bin .add (.c (aS ⟨#[32]⟩)) (T 12)),o 14 (.bin .add (T 10) (T 13)),o 3 (mv 14)]
def n1e:LO:=[o 15 (fa 0 1),o 16 (ld 15),o 17 (.call (cf 22) [(T 16)]),o 18 (mv 3),o 19 (.build [(aI 0),aE] [((0,1),(T 17)),((1,1),(T 18))]),on (st 2 2 19)]
def n02:A0:=.seq (.seq (.region n1z) (.cond (T 9) (.region m24) .skip)) (.seq (.region n1e) .ret)
def j9z:A0:=.seq (.region m8m) (.seq (.region n3t) n02)
theorem o5g:B0 Tryz.prog 46=some (20,j9z,[.cell 2 (some 2)]):=by kernel_rfl
def j3p:LO:=[o 2 (.mv (.c aE))]
def h79:LO:=[o 3 (mv 0),o 4 (.bin .lss (T 3) (ci 0)),o 5 (mv 4),og 6 (mv 0) 5 false,og 7 (.bin .geq (T 6) (ci 14)) 5 false,o 8 (.pick (T 5) (cb true) (T 7))]
def h7o:LO:=[o 2 (.mv (.c aE))]
def j7t:A0:=.seq (.region h79) (.cond (T 8) (.seq (.region h7o) .ret) .skip)
def l0r:LO:=[o 9 (mv 0),o 10 (.idxA 14 1 (.c (.glob 1)) (T 9)),o 11 (ld 10),o 2 (mv 11)]
def e18:A0:=.seq (.region j3p) (.seq j7t (.seq (.region l0r) .ret))
theorem o10:B0 Tryz.prog 108=some (12,e18,[.tmp 2]):=by kernel_rfl
def m2w:LO:=[o 2 (bx 0),o 4 (.alloc [aE,aE,aE,(aI 0),.nil]),o 5 (mi 0)]
def n4z:LO:=[o 11 (mv 1),o 12 (.call (cf 79) [(T 11),(.c (aS ⟨#[47]⟩))]),o 10 (mv 12),o 13 (.extract 0 (T 10)),o 14 (.extract 1 (T 10)),o 15 (.extract 2 (T 10)),o 6 (mv 13),o 7 (mv 14),o 8 (mv 15)]
def n6g:LO:=[o 16 (mv 8),o 17 (.un .not (T 16)),o 18 (mv 17),og 19 (mv 6) 18 false,og 20 (.call (cf 80) [(T 19)]) 18 false,og 21 (.un .not (T 20)) 18 false,o 22 (.pick (T 18) (cb true) (T 21)),o 23 (mv 22),og 24 (mv 7) 23 false,og 25 (.call (cf 81) [(T 24)]) 23 false,og 26 (.un .not (T 25)) 23 false,o 27 (.pick (T 23) (cb true) (T 26))]
def n71:LO:=[o 28 (.build [aE,aE,aE,(aI 0),.nil] []),on (st 5 4 28),o 5 (mi 2)]
def n57:A0:=.seq (.region n6g) (.cond (T 27) (.seq (.region n71) .ret) .skip)
def n7l:LO:=[o 30 (ln 3 2),o 31 (mv 1),o 32 (.call (cf 82) [(T 30),(T 31)]),o 29 (mv 32),o 33 (.extract 0 (T 29)),o 34 (.extract 1 (T 29)),o 9 (.alloc [aE,aE,aE,(aI 0),.nil]),on (st 5 9 33),o 8 (mv 34)]
def h8z:LO:=[o 35 (mv 8),o 36 (.un .not (T 35))]
def j9u:LO:=[o 37 (.build [aE,aE,aE,(aI 0),.nil] []),on (st 5 4 37),o 5 (mi 10)]
def n37:A0:=.seq (.region h8z) (.cond (T 36) (.seq (.region j9u) .ret) .skip)
def i88:LO:=[o 38 (ln 5 9),on (st 5 4 38),o 5 (mi 0)]
def n20:A0:=.seq (.region n7l) (.seq n37 (.seq (.region i88) .ret))
def l5k:A0:=.seq (.region m2w) (.seq (.region n4z) (.seq n57 n20))
theorem o5f:B0 Tryz.prog 36=some (39,l5k,[.cell 4 (some 5),.tmp 5]):=by kernel_rfl
def m7n:LO:=[o 2 (bx 0),o 4 (.alloc [aE,aE,aE,(aI 0),.nil]),o 5 (mb false)]
def m0u:LO:=[o 12 (mv 1),o 13 (.call (cf 79) [(T 12),(.c (aS ⟨#[47]⟩))]),o 11 (mv 13),o 14 (.extract 0 (T 11)),o 15 (.extract 1 (T 11)),o 16 (.extract 2 (T 11)),o 7 (.alloc [aE]),o 6 (mv 14),on (st 1 7 15),o 8 (mv 16)]
def o15:LO:=[o 18 (ln 3 2),o 19 (mv 6),o 20 (.call (cf 152) [(T 18),(T 19)]),o 17 (mv 20),o 21 (.extract 0 (T 17)),o 22 (.extract 1 (T 17)),o 9 (.alloc [aE,.nil,.nil]),on (st 3 9 21),o 10 (mv 22)]
def m7f:LO:=[o 23 (mv 8),o 24 (.un .not (T 23)),o 25 (mv 24),og 26 (mv 10) 25 false,og 27 (.un .not (T 26)) 25 false,o 28 (.pick (T 25) (cb true) (T 27))]
def o07:LO:=[o 29 (.build [aE,aE,aE,(aI 0),.nil] []),on (st 5 4 29),o 5 (mb false)]
def n5i:A0:=.seq (.region m7f) (.cond (T 28) (.seq (.region o07) .ret) .skip)
def k74:LO:=[o 30 (fa 1 9),o 31 (ld 30),o 32 (.func (.func 154) [] [(T 7)]),o 33 (.call (cf 153) [(T 31),(T 32)]),o 34 (.extract 0 (T 33)),o 35 (.extract 1 (T 33)),on (st 5 4 34),o 5 (mv 35)]
def n3r:A0:=.seq (.region o15) (.seq n5i (.seq (.region k74) .ret))
def i9b:A0:=.seq (.region m7n) (.seq (.region m0u) n3r)
theorem o34:B0 Tryz.prog 82=some (36,i9b,[.cell 4 (some 5),.tmp 5]):=by kernel_rfl
def k7o:LO:=[o 2 (bx 0),o 3 (mb false)]
def i2l:LO:=[o 4 (fa 0 2),o 5 (ld 4),o 6 (ld 1),o 7 (.bin .eql (T 5) (T 6)),o 3 (mv 7)]
def e1k:A0:=.seq (.region k7o) (.seq (.region i2l) .ret)
theorem o1y:B0 Tryz.prog 154=some (8,e1k,[.tmp 3]):=by kernel_rfl
def k8y:LO:=[o 4 (.alloc [aE,aE,aE,(aI 0),.nil]),o 5 (mb false)]
def i0y:LO:=[o 9 (mv 0),o 10 (.len false (T 9)),o 11 (mi 0)]
def h97:LO:=[o 12 (.bin .lss (T 11) (T 10))]
def k4p:LO:=[o 13 (.idxSl 5 (T 9) (T 11)),o 14 (ln 5 13),o 7 (.alloc [aE,aE,aE,(aI 0),.nil]),on (st 5 7 14)]
def j8x:LO:=[o 15 (mv 1),o 16 (ln 5 7),o 17 (.call (T 15) [(T 16)])]
def l6z:LO:=[o 18 (ln 5 7),on (st 5 4 18),o 5 (mb true)]
def i7l:A0:=.seq (.region j8x) (.cond (T 17) (.seq (.region l6z) .ret) .skip)
def f85:LO:=[o 19 (.bin .add (T 11) (ci 1)),o 11 (mv 19)]
def k9s:A0:=.seq (.block 1 (.seq (.region k4p) i7l)) (.region f85)
def i0q:A0:=.seq (.region h97) (.seq (.cond (T 12) .skip (.exit 0)) k9s)
def g7u:LO:=[o 8 (.alloc [aE,aE,aE,(aI 0),.nil])]
def h2w:LO:=[o 20 (ln 5 8),on (st 5 4 20),o 5 (mb false)]
def j8f:A0:=.seq (.seq (.region i0y) (.block 0 (.loop i0q))) (.seq (.region g7u) (.seq (.region h2w) .ret))
def e6i:A0:=.seq (.region k8y) j8f
theorem n0x:B0 Tryz.prog 153=some (21,e6i,[.cell 4 (some 5),.tmp 5]):=by kernel_rfl
def j59:LO:=[o 2 (bx 0),o 3 (bx 1),o 4 (.alloc [aE,.nil,.nil]),o 5 (mb false)]
def l2g:LO:=[o 6 (fa 2 2),o 7 (ld 6),o 8 (.func (.func 219) [] [(T 3)]),o 9 (.call (cf 218) [(T 7),(T 8)]),o 10 (.extract 0 (T 9)),o 11 (.extract 1 (T 9)),on (st 3 4 10),o 5 (mv 11)]
def e7u:A0:=.seq (.region j59) (.seq (.region l2g) .ret)
theorem n4q:B0 Tryz.prog 152=some (12,e7u,[.cell 4 (some 3),.tmp 5]):=by kernel_rfl
def i35:LO:=[o 2 (bx 0),o 3 (mb false)]
def l2r:LO:=[o 4 (fa 0 2),o 5 (ld 4),o 6 (ld 1),o 7 (.bin .eql (T 5) (T 6)),o 3 (mv 7)]
def e3a:A0:=.seq (.region i35) (.seq (.region l2r) .ret)
theorem m19:B0 Tryz.prog 219=some (8,e3a,[.tmp 3]):=by kernel_rfl
def k6x:LO:=[o 4 (.alloc [aE,.nil,.nil]),o 5 (mb false)]
def h6t:LO:=[o 9 (mv 0),o 10 (.len false (T 9)),o 11 (mi 0)]
def h9l:LO:=[o 12 (.bin .lss (T 11) (T 10))]
def l7t:LO:=[o 13 (.idxSl 3 (T 9) (T 11)),o 14 (ln 3 13),o 7 (.alloc [aE,.nil,.nil]),on (st 3 7 14)]
def h54:LO:=[o 15 (mv 1),o 16 (ln 3 7),o 17 (.call (T 15) [(T 16)])]
def j55:LO:=[o 18 (ln 3 7),on (st 3 4 18),o 5 (mb true)]
def j3l:A0:=.seq (.region h54) (.cond (T 17) (.seq (.region j55) .ret) .skip)
def g7q:LO:=[o 19 (.bin .add (T 11) (ci 1)),o 11 (mv 19)]
def i5b:A0:=.seq (.block 1 (.seq (.region l7t) j3l)) (.region g7q)
def k1w:A0:=.seq (.region h9l) (.seq (.cond (T 12) .skip (.exit 0)) i5b)
def e7x:LO:=[o 8 (.alloc [aE,.nil,.nil])]
def h30:LO:=[o 20 (ln 3 8),on (st 3 4 20),o 5 (mb false)]
def l4a:A0:=.seq (.seq (.region h6t) (.block 0 (.loop k1w))) (.seq (.region e7x) (.seq (.region h30) .ret))
def e01:A0:=.seq (.region k6x) l4a
theorem m4e:B0 Tryz.prog 218=some (21,e01,[.cell 4 (some 3),.tmp 5]):=by kernel_rfl
def o0k:LO:=[o 4 (.mv (.c aE)),o 5 (.mv (.c aE)),o 6 (mb false)]
def m3p:LO:=[o 7 (mv 0),o 8 (mv 1),o 9 (.call (cf 149) [(T 7),(T 8)]),o 10 (.extract 0 (T 9)),o 11 (.extract 1 (T 9)),o 12 (.extract 2 (T 9)),o 4 (mv 10),o 5 (mv 11),o 6 (mv 12)]
def j2j:A0:=.seq (.region o0k) (.seq (.region m3p) .ret)
theorem o47:B0 Tryz.prog 79=some (13,j2j,[.tmp 4,.tmp 5,.tmp 6]):=by kernel_rfl
def e5k:A0:=(.seq (.region [⟨(.some 4),(.mv (.c (.v (.string ⟨⟨[]⟩⟩)))),.none⟩,⟨(.some 5),(.mv (.c (.v (.string ⟨⟨[]⟩⟩)))),.none⟩,⟨(.some 6),(.mv (.c (.v (.bool false)))),.none⟩]) (.seq (.seq (.region [⟨(.some 8),(.mv (.t 0)),.none⟩,⟨(.some 9),(.mv (.t 1)),.none⟩,⟨(.some 10),(.call (.c (.clo (.func 216) [] [])) [(.t 8),(.t 9)]),.none⟩,⟨(.some 7),(.mv (.t 10)),.none⟩]) (.seq (.region [⟨(.some 11),(.mv (.t 7)),.none⟩,⟨(.some 12),(.bin .geq (.t 11) (.c (.v (.int .i64 0)))),.none⟩]) (.cond (.t 12) (.seq (.drawn [[],[],[0,1],[],[],[],[5],[4,6],[3,7],[0,1,2]] [⟨(.some 13),(.mv (.t 0)),.none⟩,⟨(.some 14),(.mv (.t 7)),.none⟩,⟨(.some 15),(.sliceS (.t 13) .none (.some (.t 14))),.none⟩,⟨(.some 16),(.mv (.t 0)),.none⟩,⟨(.some 17),(.mv (.t 7)),.none⟩,⟨(.some 18),(.mv (.t 1)),.none⟩,⟨(.some 19),(.len true (.t 18)),.none⟩,⟨(.some 20),(.bin .add (.t 17) (.t 19)),.none⟩,⟨(.some 21),(.sliceS (.t 16) (.some (.t 20)) .none),.none⟩,⟨(.some 4),(.mv (.t 15)),.none⟩] [⟨(.some 5),(.mv (.t 21)),.none⟩,⟨(.some 6),(.mv (.c (.v (.bool true)))),.none⟩]) .ret) .skip))) (.seq (.region [⟨(.some 22),(.mv (.t 0)),.none⟩,⟨(.some 4),(.mv (.t 22)),.none⟩,⟨(.some 5),(.mv (.c (.v (.string ⟨⟨[]⟩⟩)))),.none⟩,⟨(.some 6),(.mv (.c (.v (.bool false)))),.none⟩]) .ret)))
theorem m5n:B0 Tryz.prog 149=some (23,e5k,[(.tmp 4),(.tmp 5),(.tmp 6)]):=by kernel_rfl
def n50:LO:=[o 2 (.mv (.c aE)),o 3 (mi 0)]
def n34:LO:=[o 4 (.allocB 121 5)]
def n8h:LO:=[o 5 (mi 0)]
def m2l:LO:=[o 8 (mv 5),o 9 (mv 0),o 10 (.len true (T 9)),o 11 (.bin .lss (T 8) (T 10))]
def n7u:LO:=[o 14 (mv 0),o 15 (mv 5),o 16 (.idxS (T 14) (T 15)),o 17 (.bin .neq (T 16) (.c (aC 37)))]
def n8u:LO:=[o 18 (mv 0),o 19 (mv 5),o 20 (.idxS (T 18) (T 19)),o 21 (.call (cf 43) [(T 4),(T 20)])]
def n22:A0:=.seq (.region n7u) (.cond (T 17) (.seq (.region n8u) (.exit 1)) .skip)
def h52:LO:=[o 22 (mv 5),o 23 (.bin .add (T 22) (ci 2)),o 24 (mv 0),o 25 (.len true (T 24)),o 26 (.bin .geq (T 23) (T 25))]
def i8f:LO:=[o 2 (.mv (.c aE)),o 3 (mi 2)]
def m43:A0:=.seq (.region h52) (.cond (T 26) (.seq (.region i8f) .ret) .skip)
def l7v:LO:=[o 27 (mv 0),o 28 (mv 5),o 29 (.bin .add (T 28) (ci 1)),o 30 (.idxS (T 27) (T 29)),o 31 (.call (cf 44) [(.c (aS ⟨#[48,49,50,51,52,53,54,55,56,57,65,66,67,68,69,70]⟩)),(T 30)]),o 32 (mv 0),o 33 (mv 5),o 34 (.bin .add (T 33) (ci 2)),o 35 (.idxS (T 32) (T 34))]
def f8s:LO:=[o 36 (.call (cf 44) [(.c (aS ⟨#[48,49,50,51,52,53,54,55,56,57,65,66,67,68,69,70]⟩)),(T 35)]),o 6 (mv 31),o 7 (mv 36)]
def f0t:LN:=[[],[],[1],[0,2],[3],[],[],[6],[5,7]]
def i7z:LO:=[o 37 (mv 6),o 38 (.bin .lss (T 37) (ci 0)),o 39 (mv 38),og 40 (mv 7) 39 false,og 41 (.bin .lss (T 40) (ci 0)) 39 false,o 42 (.pick (T 39) (cb true) (T 41))]
def h7k:LO:=[o 2 (.mv (.c aE)),o 3 (mi 2)]
def m2h:A0:=.seq (.region i7z) (.cond (T 42) (.seq (.region h7k) .ret) .skip)
def h7x:LO:=[o 43 (mv 6),o 44 (.bin .shl (T 43) (.c (aU 4))),o 45 (mv 7),o 46 (.bin .or (T 44) (T 45)),o 47 (.conv (.num .u8) (T 46)),o 48 (.call (cf 43) [(T 4),(T 47)])]
def j22:LO:=[o 49 (mv 5),o 50 (.bin .add (T 49) (ci 2)),o 5 (mv 50)]
def o0i:A0:=.seq (.drawn f0t l7v f8s) (.seq m2h (.seq (.region h7x) (.region j22)))
def j6f:LO:=[o 12 (mv 5),o 13 (.bin .add (T 12) (ci 1)),o 5 (mv 13)]
def m81:A0:=.seq (.block 1 (.seq n22 (.seq m43 o0i))) (.region j6f)
def m2k:A0:=.seq (.seq (.region m2l) (.cond (T 11) .skip (.exit 0))) m81
def l3i:LO:=[o 51 (.call (cf 45) [(T 4)]),o 52 (.call (cf 21) [(T 51)]),o 53 (mv 0),o 54 (.bin .neq (T 52) (T 53))]
def l3v:LO:=[o 2 (.mv (.c aE)),o 3 (mi 2)]
def m8d:A0:=.seq (.region l3i) (.cond (T 54) (.seq (.region l3v) .ret) .skip)
def h6i:LO:=[o 55 (.call (cf 45) [(T 4)]),o 2 (mv 55),o 3 (mi 0)]
def m00:A0:=.seq (.seq (.region n8h) (.block 0 (.loop m2k))) (.seq m8d (.seq (.region h6i) .ret))
def l2d:A0:=.seq (.region n50) (.seq (.region n34) m00)
theorem o44:B0 Tryz.prog 19=some (56,l2d,[.tmp 2,.tmp 3]):=by kernel_rfl
def n79:LO:=[o 4 (mi 0)]
def m94:LO:=[o 5 (mv 0),o 6 (mv 1),o 7 (.call (cf 107) [(T 5),(T 6)]),o 4 (mv 7)]
def h7h:A0:=.seq (.region n79) (.seq (.region m94) .ret)
theorem o6t:B0 Tryz.prog 44=some (8,h7h,[.tmp 4]):=by kernel_rfl
def n3f:LO:=[o 3 (bx 0),o 4 (bx 1),o 5 (bx 2),o 6 (.alloc [aE,aE,.nil,aE]),o 7 (mi 0)]
def o0g:LO:=[o 15 (ln 3 3),o 16 (.call (cf 34) [(T 15)]),o 14 (mv 16),o 17 (.extract 0 (T 14)),o 18 (.extract 1 (T 14)),o 8 (.alloc [.nil,.nil,.nil,.nil,.nil]),on (st 5 8 17),o 9 (mv 18)]
def m6d:LO:=[o 20 (ln 3 3),o 21 (fa 2 4),o 22 (ld 21),o 23 (fa 3 4),o 24 (ld 23),o 25 (.call (cf 35) [(T 22),(T 24)]),o 26 (.call (cf 36) [(T 20),(T 25)]),o 19 (mv 26),o 27 (.extract 0 (T 19)),o 28 (.extract 1 (T 19)),o 10 (.alloc [aE,aE,aE,(aI 0),.nil]),on (st 5 10 27)]
def j5a:LO:=[o 11 (mv 28)]
def i6z:LN:=[[],[],[1],[],[3],[2,4],[0,5],[6],[7],[7],[],[0,1,2,3,4,5,6,7,8,10]]
def n55:LO:=[o 29 (mv 9),o 30 (.un .not (T 29)),o 31 (mv 30),og 32 (mv 11) 31 false,og 33 (.bin .neq (T 32) (ci 0)) 31 false,o 34 (.pick (T 31) (cb true) (T 33)),o 35 (mv 34),og 36 (ln 3 3) 35 false,og 37 (ln 5 4) 35 false,og 38 (.call (cf 23) [(T 36),(T 37)]) 35 false,og 39 (.bin .neq (T 38) (ci 0)) 35 false,o 40 (.pick (T 35) (cb true) (T 39))]
def o0w:LO:=[o 41 (.build [aE,aE,.nil,aE] []),on (st 4 6 41),o 7 (mi 1)]
def m5l:A0:=.seq (.region n55) (.cond (T 40) (.seq (.region o0w) .ret) .skip)
def j3s:LO:=[o 42 (ln 3 3),o 43 (fa 1 10),o 44 (ld 43),o 45 (ln 7 5),o 46 (.call (cf 40) [(T 42),(T 44),(T 45)]),o 12 (mv 46)]
def k6m:LO:=[o 47 (mv 12),o 48 (.bin .neq (T 47) (ci 0))]
def i6v:LO:=[o 49 (.build [aE,aE,.nil,aE] []),o 50 (mv 12),on (st 4 6 49),o 7 (mv 50)]
def m7o:A0:=.seq (.region k6m) (.cond (T 48) (.seq (.region i6v) .ret) .skip)
def k2c:LO:=[o 52 (ln 5 8),o 53 (fa 1 10),o 54 (ld 53),o 55 (ln 5 4),o 56 (ln 3 3),o 57 (fa 1 10),o 58 (ld 57),o 59 (ln 7 5),o 60 (.call (cf 41) [(T 56),(T 58),(T 59)]),o 61 (.call (cf 42) [(T 52),(T 54),(T 55),(T 60)]),o 51 (mv 61),o 62 (.extract 0 (T 51)),o 63 (.extract 1 (T 51)),o 13 (.alloc [aE,aE,.nil,aE]),on (st 4 13 62)]
def f6z:LO:=[o 11 (mv 63)]
def g3p:LN:=[[],[],[1],[],[],[],[5],[],[4,6,7],[0,2,3,8],[9],[10],[10],[],[0,1,2,3,4,5,6,7,8,9,10,11,13]]
def h8l:LO:=[o 64 (mv 11),o 65 (.bin .neq (T 64) (ci 0))]
def h8t:LO:=[o 66 (.build [aE,aE,.nil,aE] []),o 67 (mv 11),on (st 4 6 66),o 7 (mv 67)]
def m04:A0:=.seq (.region h8l) (.cond (T 65) (.seq (.region h8t) .ret) .skip)
def i3n:LO:=[o 68 (ln 4 13),on (st 4 6 68),o 7 (mi 0)]
def m0b:A0:=.seq (.drawn g3p k2c f6z) (.seq m04 (.seq (.region i3n) .ret))
def o1w:A0:=.seq (.drawn i6z m6d j5a) (.seq m5l (.seq (.seq (.region j3s) m7o) m0b))
def l8n:A0:=.seq (.region n3f) (.seq (.region o0g) o1w)
theorem o40:B0 Tryz.prog 18=some (69,l8n,[.cell 6 (some 4),.tmp 7]):=by kernel_rfl
def m4q:LO:=[o 4 (bx 0),o 6 (bx 2),o 7 (bx 3),o 8 (.alloc [aE,aE,.nil,aE]),o 9 (mi 0)]
def n85:LO:=[o 19 (ln 5 4),o 20 (mv 1),o 21 (ln 5 6),o 22 (ln 7 7),o 23 (.call (cf 103) [(T 19),(T 20),(T 21),(T 22)]),o 18 (mv 23),o 24 (.extract 0 (T 18)),o 25 (.extract 1 (T 18)),o 26 (.extract 2 (T 18)),o 11 (.alloc zV),o 10 (mv 24),on (st 7 11 25),o 12 (mv 26)]
def n3d:LO:=[o 27 (mv 12),o 28 (.bin .neq (T 27) (ci 0))]
def n9g:LO:=[o 29 (.build [aE,aE,.nil,aE] []),o 30 (mv 12),on (st 4 8 29),o 9 (mv 30)]
def n6e:A0:=.seq (.region n3d) (.cond (T 28) (.seq (.region n9g) .ret) .skip)
def m69:LO:=[o 31 (fa 0 6),o 32 (ld 31),o 33 (mv 10),o 34 (.build [aE,aE,.nil,aE] [((0,1),(T 32)),((1,1),(T 33))]),o 13 (.alloc [aE,aE,.nil,aE]),on (st 4 13 34)]
def j7c:LO:=[o 35 (fa 4 6),o 36 (ld 35),o 37 (.bin .eql (T 36) (.c (aS ⟨#[42]⟩)))]
def j4f:LO:=[o 39 (fa 3 4),o 40 (ln 2 39),o 41 (mv 1),o 42 (ln 7 11),o 43 (.call (cf 49) [(T 40),(T 41),(T 42)]),o 38 (mv 43),o 44 (.extract 0 (T 38)),o 45 (.extract 1 (T 38)),o 46 (fa 3 13),on (st 1 46 44),o 12 (mv 45)]
def h40:LO:=[o 47 (ln 4 13),o 48 (mv 12),on (st 4 8 47),o 9 (mv 48)]
def m52:A0:=.cond (T 37) (.seq (.region j4f) (.seq (.region h40) .ret)) .skip
def j4n:LO:=[o 50 (fa 0 4),o 51 (ln 3 50),o 52 (mv 1),o 53 (ln 5 6),o 54 (.call (cf 55) [(T 51),(T 52),(T 53)]),o 49 (mv 54),o 55 (.extract 0 (T 49)),o 56 (.extract 1 (T 49)),o 14 (.alloc [(aI 0),aE,(aI 0),(aI 0),(aI 0),aE,aE,(aB false),(aI 0),(aU 0),aE,.nil,.nil,.nil,.nil,.nil]),on (st 16 14 55),o 15 (mv 56)]
def i31:LO:=[o 57 (mv 15)]
def j68:LO:=[o 59 (ln 7 11),o 60 (fa 0 14),o 61 (ld 60),o 62 (.sliceLit 1 1 [(aI 0)] [((0,1),(T 61))]),o 63 (.call (cf 88) [(T 59),(T 62)]),o 58 (mv 63),o 64 (.extract 0 (T 58)),o 65 (.extract 1 (T 58)),o 16 (.alloc zV),on (st 7 16 64),o 17 (mv 65)]
def i29:LO:=[o 66 (mv 17),o 67 (.un .not (T 66))]
def k9h:LO:=[o 68 (.build [aE,aE,.nil,aE] []),on (st 4 8 68),o 9 (mi 14)]
def m08:A0:=.seq (.region i29) (.cond (T 67) (.seq (.region k9h) .ret) .skip)
def i0k:LO:=[o 70 (fa 3 4),o 71 (ln 2 70),o 72 (fa 4 14),o 73 (fa 1 72),o 74 (ld 73),o 75 (ln 7 16),o 76 (.call (cf 49) [(T 71),(T 74),(T 75)]),o 69 (mv 76),o 77 (.extract 0 (T 69)),o 78 (.extract 1 (T 69)),o 79 (fa 3 13),on (st 1 79 77),o 12 (mv 78)]
def i04:LO:=[o 80 (mv 12),o 81 (.bin .neq (T 80) (ci 0))]
def i1s:LO:=[o 82 (.build [aE,aE,.nil,aE] []),o 83 (mv 12),on (st 4 8 82),o 9 (mv 83)]
def m0q:A0:=.seq (.region i04) (.cond (T 81) (.seq (.region i1s) .ret) .skip)
def l15:LO:=[o 84 (ln 7 11),o 85 (fa 0 14),o 86 (ld 85),o 87 (.sliceLit 1 1 [(aI 0)] [((0,1),(T 86))]),o 88 (.call (cf 104) [(T 84),(T 87)]),on (st 7 11 88)]
def n7a:A0:=.seq m08 (.seq (.region i0k) (.seq m0q (.region l15)))
def o1b:A0:=.seq (.region i31) (.cond (T 57) (.seq (.region j68) n7a) .skip)
def l0w:LO:=[o 90 (ln 5 4),o 91 (mv 1),o 92 (ln 7 7),o 93 (ln 7 11),o 94 (.call (cf 105) [(T 90),(T 91),(.c aE),(T 92),(T 93)]),o 89 (mv 94),o 95 (.extract 0 (T 89)),o 96 (.extract 1 (T 89)),o 97 (fa 2 13),on (st 1 97 95),o 12 (mv 96)]
def j5w:LO:=[o 98 (ln 4 13),o 99 (mv 12),on (st 4 8 98),o 9 (mv 99)]
def n8p:A0:=.seq (.seq (.region j4n) o1b) (.seq (.region l0w) (.seq (.region j5w) .ret))
def m21:A0:=.seq (.region m69) (.seq (.seq (.region j7c) m52) n8p)
def l1h:A0:=.seq (.region m4q) (.seq (.region n85) (.seq n6e m21))
theorem o49:B0 Tryz.prog 42=some (100,l1h,[.cell 8 (some 4),.tmp 9]):=by kernel_rfl
def j5u:LO:=[o 5 (bx 0),o 8 (bx 3),o 9 (bx 4),o 10 (.mv (.c .nil)),o 11 (mi 0)]
def l7o:LO:=[o 24 (fa 3 5),o 25 (ln 2 24),o 26 (mv 1),o 27 (.call (cf 162) [(T 25),(T 26)]),o 23 (mv 27),o 28 (.extract 0 (T 23)),o 29 (.extract 1 (T 23)),o 12 (mv 28),o 13 (mv 29)]
def l22:LO:=[o 14 (.mv (.c .nil))]
def k86:LO:=[o 30 (fa 5 9),o 31 (ld 30),o 32 (.len false (T 31)),o 33 (mi 0)]
def h5e:LO:=[o 34 (.bin .lss (T 33) (T 32))]
def k15:LO:=[o 35 (.idxSl 8 (T 31) (T 33)),o 36 (ln 8 35),o 16 (.alloc [(aI 0),(aI 0),(aU 0),aE,.nil,.nil,.nil,.nil]),on (st 8 16 36)]
def h45:LO:=[o 38 (fa 3 5),o 39 (fa 0 38),o 40 (ld 39),o 41 (mv 12),o 42 (.idxSl 3 (T 40) (T 41)),o 43 (ln 3 42),o 44 (fa 0 16),o 45 (ld 44),o 46 (.call (cf 163) [(T 43),(T 45)]),o 37 (mv 46),o 47 (.extract 0 (T 37)),o 48 (.extract 1 (T 37)),o 17 (.alloc [(aI 0),aE,aE,(aI 0),(aI 0),(aI 0),(aI 0),(aI 0)]),on (st 8 17 47)]
def f55:LO:=[o 18 (mv 48)]
def g4g:LN:=[[],[0],[1],[],[2,3],[4],[],[6],[5,7],[8],[9],[9],[],[0,1,2,3,4,5,6,7,8,9,10,12]]
def e8d:LO:=[o 19 (.mv (.c .nil))]
def g45:LO:=[o 20 (mi 0)]
def f1j:LO:=[o 49 (fa 5 17),o 50 (ld 49),o 51 (.bin .eql (T 50) (ci 10)),o 52 (mv 51),og 53 (fa 3 17) 52 true,og 54 (ld 53) 52 true,og 55 (.bin .neq (T 54) (ci 4)) 52 true,o 56 (.pick (T 52) (T 55) (cb false)),o 57 (mv 56),og 58 (fa 3 17) 57 true,og 59 (ld 58) 57 true,og 60 (.bin .neq (T 59) (ci 5)) 57 true,o 61 (.pick (T 57) (T 60) (cb false))]
def g0y:LO:=[o 63 (ln 7 8),o 64 (fa 0 16),o 65 (ld 64),o 66 (.sliceLit 1 1 [(aI 0)] [((0,1),(T 65))]),o 67 (.call (cf 88) [(T 63),(T 66)]),o 62 (mv 67),o 68 (.extract 0 (T 62)),o 69 (.extract 1 (T 62)),o 21 (.alloc zV),on (st 7 21 68),o 22 (mv 69)]
def g8r:LO:=[o 70 (fa 5 21),o 71 (ld 70),o 72 (.len false (T 71)),o 73 (.bin .eql (T 72) (ci 0))]
def e8t:LO:=[o 10 (.mv (.c .nil)),o 11 (mi 12)]
def l3u:A0:=.seq (.region g8r) (.cond (T 73) (.seq (.region e8t) .ret) .skip)
def e8b:LO:=[o 75 (ln 5 5),o 76 (fa 3 5),o 77 (fa 0 76),o 78 (ld 77),o 79 (fa 6 17),o 80 (ld 79),o 81 (.idxSl 3 (T 78) (T 80)),o 82 (fa 0 81),o 83 (ld 82),o 84 (mv 2),o 85 (fa 1 17),o 86 (ld 85),o 87 (.bin .add (T 84) (T 86)),o 88 (.bin .add (T 87) (.c (aS ⟨#[46]⟩))),o 89 (ln 7 21),o 90 (fa 1 16),o 91 (ln 7 90),o 92 (.call (cf 105) [(T 75),(T 83),(T 88),(T 89),(T 91)]),o 74 (mv 92),o 93 (.extract 0 (T 74)),o 94 (.extract 1 (T 74)),o 19 (mv 93)]
def d6e:LO:=[o 20 (mv 94)]
def e0u:LN:=[[],[],[1],[2],[],[4],[3,5],[6],[7],[],[],[10],[9,11],[12],[],[],[15],[0,8,13,14,16],[17],[18],[18],[0,1,2,3,4,5,6,7,8,9,10,11,12,13,14,15,16,17,18,19]]
def j4z:A0:=.seq (.region g0y) (.seq l3u (.drawn e0u e8b d6e))
def g88:LO:=[o 96 (ln 5 5),o 97 (ln 8 17),o 98 (mv 2),o 99 (fa 1 17),o 100 (ld 99),o 101 (.bin .add (T 98) (T 100)),o 102 (fa 1 16),o 103 (ln 7 102),o 104 (.call (cf 185) [(T 96),(T 97),(T 101),(T 103)]),o 95 (mv 104),o 105 (.extract 0 (T 95)),o 106 (.extract 1 (T 95)),o 19 (mv 105),o 20 (mv 106)]
def h65:A0:=.seq (.region f1j) (.cond (T 61) j4z (.region g88))
def g65:LO:=[o 107 (mv 20),o 108 (.bin .neq (T 107) (ci 0))]
def f7i:LO:=[o 109 (mv 20),o 10 (.mv (.c .nil)),o 11 (mv 109)]
def h6v:A0:=.seq (.region g65) (.cond (T 108) (.seq (.region f7i) .ret) .skip)
def f3v:LO:=[o 110 (mv 14),o 111 (mv 19),o 112 (.append 47 2 32 (T 110) (T 111)),o 14 (mv 112)]
def k1o:A0:=.seq (.region g45) (.seq h65 (.seq h6v (.region f3v)))
def l44:A0:=.seq (.drawn g4g h45 f55) (.seq (.region e8d) k1o)
def f7b:LO:=[o 113 (.bin .add (T 33) (ci 1)),o 33 (mv 113)]
def j3h:A0:=.seq (.block 1 (.seq (.region k15) l44)) (.region f7b)
def k7g:A0:=.seq (.region h5e) (.seq (.cond (T 34) .skip (.exit 0)) j3h)
def g9f:LO:=[o 114 (fa 6 9),o 115 (ld 114),o 116 (.len false (T 115)),o 117 (.bin .gtr (T 116) (ci 0))]
def e99:LO:=[o 10 (.mv (.c .nil)),o 11 (mi 18)]
def k8a:A0:=.seq (.region g9f) (.cond (T 117) (.seq (.region e99) .ret) .skip)
def f4c:LO:=[o 118 (mv 14),o 10 (mv 118),o 11 (mi 0)]
def g5e:A0:=.seq (.seq (.region k86) (.block 0 (.loop k7g))) (.seq k8a (.seq (.region f4c) .ret))
def d4d:A0:=.seq (.region j5u) (.seq (.region l7o) (.seq (.region l22) g5e))
theorem m8b:B0 Tryz.prog 105=some (119,d4d,[.tmp 10,.tmp 11]):=by kernel_rfl
def j1r:LO:=[o 4 (bx 0),o 5 (bx 1),o 7 (bx 3),o 8 (.mv (.c .nil)),o 9 (mi 0)]
def j6t:LO:=[o 14 (ln 7 7),o 15 (.sliceLit 7 1 zV [((0,7),(T 14))]),o 10 (mv 15)]
def k6v:LO:=[o 16 (fa 0 7),o 17 (ld 16),o 18 (.bin .eql (T 17) (ci 11))]
def i78:LO:=[o 19 (fa 3 7),o 20 (ld 19),o 10 (mv 20)]
def i3x:LO:=[o 21 (fa 3 5),o 22 (ld 21),o 23 (.bin .eql (T 22) (ci 5)),o 24 (mv 23),og 25 (fa 5 5) 24 false,og 26 (ld 25) 24 false,og 27 (.bin .eql (T 26) (ci 6)) 24 false,o 28 (.pick (T 24) (cb true) (T 27)),o 29 (mv 28),og 30 (fa 5 5) 29 false,og 31 (ld 30) 29 false,og 32 (.bin .eql (T 31) (ci 10)) 29 false,o 33 (.pick (T 29) (cb true) (T 32))]
def l7j:LO:=[o 8 (.mv (.c .nil)),o 9 (mi 12)]
def l0l:A0:=.seq (.region i3x) (.cond (T 33) (.seq (.region l7j) .ret) .skip)
def f63:LO:=[o 11 (.mv (.c .nil))]
def g8l:LO:=[o 34 (mv 10),o 35 (.len false (T 34)),o 36 (mi 0)]
def e9r:LO:=[o 37 (.bin .lss (T 36) (T 35))]
def f97:LO:=[o 38 (.idxSl 7 (T 34) (T 36)),o 39 (ln 7 38),o 13 (.alloc zV),on (st 7 13 39)]
def g0h:LO:=[o 40 (mv 11),o 41 (mv 2),o 42 (ln 5 4),o 43 (ln 8 5),o 44 (ln 7 13),o 45 (.call (cf 183) [(T 42),(T 43),(T 44)]),o 46 (.build [aE,aE] [((0,1),(T 41)),((1,1),(T 45))]),o 47 (.sliceLit 2 1 [aE,aE] [((0,2),(T 46))]),o 48 (.append 47 2 32 (T 40) (T 47)),o 11 (mv 48)]
def g36:LO:=[o 49 (.bin .add (T 36) (ci 1)),o 36 (mv 49)]
def k0a:A0:=.seq (.block 1 (.seq (.region f97) (.region g0h))) (.region g36)
def k0m:A0:=.seq (.region e9r) (.seq (.cond (T 37) .skip (.exit 0)) k0a)
def f00:LO:=[o 50 (mv 11),o 8 (mv 50),o 9 (mi 0)]
def j9w:A0:=.seq (.seq (.region g8l) (.block 0 (.loop k0m))) (.seq (.region f00) .ret)
def i3c:A0:=.seq (.seq (.region k6v) (.cond (T 18) (.region i78) .skip)) (.seq l0l (.seq (.region f63) j9w))
def e3h:A0:=.seq (.region j1r) (.seq (.region j6t) i3c)
theorem n76:B0 Tryz.prog 185=some (51,e3h,[.tmp 8,.tmp 9]):=by kernel_rfl
def l81:LO:=[o 3 (bx 0),o 4 (bx 1),o 5 (bx 2),o 6 (.mv (.c aE))]
def j33:LO:=[o 7 (fa 5 4),o 8 (ld 7),o 9 (.bin .eql (T 8) (ci 7))]
def k02:LO:=[o 10 (fa 2 5),o 11 (ld 10),o 6 (mv 11)]
def i2p:A0:=.seq (.region j33) (.cond (T 9) (.seq (.region k02) .ret) .skip)
def l75:LO:=[o 12 (fa 3 3),o 13 (ln 2 12),o 14 (ln 8 4),o 15 (ln 7 5),o 16 (.call (cf 255) [(T 13),(T 14),(T 15)]),o 6 (mv 16)]
def e1c:A0:=.seq (.region l81) (.seq i2p (.seq (.region l75) .ret))
theorem o1c:B0 Tryz.prog 183=some (17,e1c,[.tmp 6]):=by kernel_rfl
def n6r:LO:=[o 2 (bx 0),o 4 (.alloc zV),o 5 (mb false)]
def n4f:LO:=[o 10 (mv 1),o 11 (.len false (T 10)),o 12 (mi 0)]
def n6p:LO:=[o 13 (.bin .lss (T 12) (T 11))]
def o09:LO:=[o 14 (.idxSl 1 (T 10) (T 12)),o 15 (ld 14),o 7 (mv 15)]
def n1l:LO:=[o 17 (ln 7 2),o 18 (mv 7),o 19 (.call (cf 158) [(T 17),(T 18)]),o 16 (mv 19),o 20 (.extract 0 (T 16)),o 21 (.extract 1 (T 16)),o 8 (mv 20),o 9 (mv 21)]
def m2p:LO:=[o 22 (mv 9),o 23 (.un .not (T 22))]
def m2g:LO:=[o 24 (.build zV []),on (st 7 4 24),o 5 (mb false)]
def m4s:A0:=.seq (.region m2p) (.cond (T 23) (.seq (.region m2g) .ret) .skip)
def i4u:LO:=[o 25 (fa 5 2),o 26 (ld 25),o 27 (mv 8),o 28 (.idxSl 8 (T 26) (T 27)),o 29 (fa 1 28),o 30 (ln 7 29),on (st 7 2 30)]
def n9u:A0:=.seq (.region o09) (.seq (.region n1l) (.seq m4s (.region i4u)))
def h4f:LO:=[o 31 (.bin .add (T 12) (ci 1)),o 12 (mv 31)]
def m0f:A0:=.seq (.cond (T 13) .skip (.exit 0)) (.seq (.block 1 n9u) (.region h4f))
def o1e:A0:=.seq (.region n6p) m0f
def h5n:LO:=[o 32 (ln 7 2),on (st 7 4 32),o 5 (mb true)]
def n08:A0:=.seq (.seq (.region n4f) (.block 0 (.loop o1e))) (.seq (.region h5n) .ret)
def i0b:A0:=.seq (.region n6r) n08
theorem o69:B0 Tryz.prog 88=some (33,i0b,[.cell 4 (some 7),.tmp 5]):=by kernel_rfl
def i4z:LO:=[o 2 (bx 0),o 4 (mi 0),o 5 (mb false)]
def i1i:LO:=[o 6 (fa 5 2),o 7 (ld 6),o 8 (mv 1),o 9 (.call (cf 226) [(T 7),(T 8),(cf 227)]),o 10 (.extract 0 (T 9)),o 11 (.extract 1 (T 9)),o 4 (mv 10),o 5 (mv 11)]
def e4z:A0:=.seq (.region i4z) (.seq (.region i1i) .ret)
theorem m40:B0 Tryz.prog 158=some (12,e4z,[.tmp 4,.tmp 5]):=by kernel_rfl
def h60:LO:=[o 2 (bx 0),o 4 (mi 0)]
def i9u:LO:=[o 5 (fa 0 2),o 6 (ld 5),o 7 (mv 1),o 8 (.bin .sub (T 6) (T 7)),o 4 (mv 8)]
def e11:A0:=.seq (.region h60) (.seq (.region i9u) .ret)
theorem n4r:B0 Tryz.prog 227=some (9,e11,[.tmp 4]):=by kernel_rfl
def h9d:LO:=[o 6 (mi 0),o 7 (mb false)]
def l2u:LO:=[o 12 (mv 0),o 13 (.len false (T 12)),o 8 (mv 13)]
def l6k:LO:=[o 14 (mv 8),o 9 (mi 0),o 10 (mv 14)]
def l37:LO:=[o 15 (mv 9),o 16 (mv 10),o 17 (.bin .lss (T 15) (T 16))]
def k6q:LO:=[o 18 (mv 9),o 19 (mv 10),o 20 (.bin .add (T 18) (T 19)),o 21 (.conv (.num .u64) (T 20)),o 22 (.bin .shr (T 21) (.c (aU 1))),o 23 (.conv (.num .i64) (T 22)),o 11 (mv 23)]
def i26:LO:=[o 24 (mv 2),o 25 (mv 0),o 26 (mv 11),o 27 (.idxSl 8 (T 25) (T 26)),o 28 (ln 8 27),o 29 (mv 1),o 30 (.call (T 24) [(T 28),(T 29)]),o 31 (.bin .lss (T 30) (ci 0))]
def g16:LO:=[o 32 (mv 11),o 33 (.bin .add (T 32) (ci 1)),o 9 (mv 33)]
def f7v:LO:=[o 34 (mv 11),o 10 (mv 34)]
def j21:A0:=.seq (.region i26) (.cond (T 31) (.region g16) (.region f7v))
def h51:A0:=.seq (.seq (.region l37) (.cond (T 17) .skip (.exit 0))) (.block 1 (.seq (.region k6q) j21))
def g95:LO:=[o 35 (mv 9),o 36 (mv 9),o 37 (mv 8),o 38 (.bin .lss (T 36) (T 37)),o 39 (mv 38),og 40 (mv 2) 39 true,og 41 (mv 0) 39 true,og 42 (mv 9) 39 true,og 43 (.idxSl 8 (T 41) (T 42)) 39 true,og 44 (ln 8 43) 39 true,og 45 (mv 1) 39 true,og 46 (.call (T 40) [(T 44),(T 45)]) 39 true,og 47 (.bin .eql (T 46) (ci 0)) 39 true,o 48 (.pick (T 39) (T 47) (cb false)),o 6 (mv 35),o 7 (mv 48)]
def l8i:A0:=.seq (.region l6k) (.seq (.block 0 (.loop h51)) (.seq (.region g95) .ret))
def e6x:A0:=.seq (.region h9d) (.seq (.region l2u) l8i)
theorem n5c:B0 Tryz.prog 226=some (49,e6x,[.tmp 6,.tmp 7]):=by kernel_rfl
def i45:LO:=[o 2 (bx 0),o 4 (.alloc zV)]
def j6b:LO:=[o 8 (ln 7 2),o 9 (mv 1),o 10 (.idxSl 1 (T 9) (ci 0)),o 11 (ld 10),o 12 (.call (cf 158) [(T 8),(T 11)]),o 7 (mv 12),o 13 (.extract 0 (T 7)),o 14 (.extract 1 (T 7)),o 5 (mv 13)]
def f1m:LO:=[o 6 (mv 14)]
def f5y:LN:=[[],[],[1],[2],[0,3],[4],[5],[5],[0,1,2,3,4,5,6]]
def k56:LO:=[o 15 (mv 6),o 16 (.un .not (T 15))]
def k16:LO:=[o 17 (ln 7 2),on (st 7 4 17)]
def h7w:A0:=.seq (.region k56) (.cond (T 16) (.seq (.region k16) .ret) .skip)
def l0h:LO:=[o 18 (fa 5 2),o 19 (ld 18),o 20 (.call (cf 159) [(T 19)]),o 21 (fa 5 2),on (st 1 21 20)]
def f76:LO:=[o 22 (mv 1),o 23 (.len false (T 22)),o 24 (.bin .eql (T 23) (ci 1))]
def g2d:LO:=[o 25 (fa 5 2),o 26 (ld 25),o 27 (mv 5),o 28 (mv 5),o 29 (.bin .add (T 28) (ci 1)),o 30 (.call (cf 184) [(T 26),(T 27),(T 29)]),o 31 (fa 5 2),on (st 1 31 30)]
def g0r:LO:=[o 32 (fa 5 2),o 33 (ld 32),o 34 (mv 5),o 35 (fa 5 2),o 36 (ld 35),o 37 (mv 5),o 38 (.idxSl 8 (T 36) (T 37)),o 39 (fa 1 38),o 40 (ln 7 39),o 41 (mv 1),o 42 (.sliceV 1 (T 41) (some (ci 1)) none none),o 43 (.call (cf 104) [(T 40),(T 42)])]
def d9f:LO:=[o 44 (.idxSl 8 (T 33) (T 34)),o 45 (fa 1 44),on (st 7 45 43)]
def d7b:LN:=[[],[0],[],[],[3],[],[4,5],[6],[7],[],[9],[8,10]]
def i34:A0:=.cond (T 24) (.region g2d) (.drawn d7b g0r d9f)
def h0d:LO:=[o 46 (ln 7 2),on (st 7 4 46)]
def l4n:A0:=.seq (.seq (.region f76) i34) (.seq (.region h0d) .ret)
def h6q:A0:=.seq (.drawn f5y j6b f1m) (.seq h7w (.seq (.region l0h) l4n))
def e5x:A0:=.seq (.region i45) h6q
theorem m4r:B0 Tryz.prog 104=some (47,e5x,[.cell 4 (some 7)]):=by kernel_rfl
def i4j:LO:=[o 6 (.mv (.c .nil))]
def i7q:LO:=[o 8 (mv 0),o 9 (mv 1),o 10 (mv 2),o 11 (mv 0),o 12 (.len false (T 11)),o 13 (.sliceV 8 (T 8) (some (T 9)) (some (T 10)) (some (T 12)))]
def k8m:LO:=[o 14 (mv 1),o 15 (mv 2),o 16 (.bin .eql (T 14) (T 15))]
def h7e:LO:=[o 17 (mv 0),o 6 (mv 17)]
def k18:A0:=.seq (.region k8m) (.cond (T 16) (.seq (.region h7e) .ret) .skip)
def h5d:LO:=[o 18 (mv 0),o 19 (.len false (T 18)),o 7 (mv 19)]
def g0q:LO:=[o 20 (mv 0),o 21 (mv 1),o 22 (.sliceV 8 (T 20) none (some (T 21)) none),o 23 (mv 0),o 24 (mv 2),o 25 (.sliceV 8 (T 23) (some (T 24)) none none)]
def e0o:LO:=[o 26 (.append 67 8 136 (T 22) (T 25)),o 0 (mv 26)]
def d95:LN:=[[],[],[0,1],[],[],[3,4]]
def g26:LO:=[o 27 (mv 0),o 28 (mv 0),o 29 (.len false (T 28)),o 30 (mv 7),o 31 (.sliceV 8 (T 27) (some (T 29)) (some (T 30)) none),on (.clear 8 [(aI 0),(aI 0),(aU 0),aE,.nil,.nil,.nil,.nil] (T 31))]
def h2z:LO:=[o 32 (mv 0),o 6 (mv 32)]
def j26:A0:=.seq (.drawn d95 g0q e0o) (.seq (.region g26) (.seq (.region h2z) .ret))
def k9r:A0:=.seq (.region i7q) (.seq k18 (.seq (.region h5d) j26))
def e1a:A0:=.seq (.region i4j) k9r
theorem n1c:B0 Tryz.prog 184=some (33,e1a,[.tmp 6]):=by kernel_rfl
def k69:LO:=[o 4 (bx 0),o 6 (bx 2),o 7 (bx 3),o 8 (.mv (.c aE)),o 9 (.alloc zV),o 10 (mi 0)]
def l4e:LO:=[o 23 (fa 1 6),o 24 (ld 23),o 25 (.call (cf 52) [(T 24)]),o 22 (mv 25),o 26 (.extract 0 (T 22)),o 27 (.extract 1 (T 22)),o 11 (mv 26),o 12 (mv 27)]
def l8d:LO:=[o 13 (.mv (.c aE))]
def k3k:LO:=[o 28 (mv 11),o 29 (.len false (T 28)),o 30 (mi 0)]
def j9j:LO:=[o 31 (.bin .lss (T 30) (T 29))]
def h87:LO:=[o 32 (.idxSl 1 (T 28) (T 30)),o 33 (ld 32),o 15 (mv 33)]
def h7c:LO:=[o 35 (mv 15),o 36 (.call (cf 67) [(T 35)]),o 34 (mv 36),o 37 (.extract 0 (T 34)),o 38 (.extract 1 (T 34)),o 16 (mv 37),o 17 (mv 38)]
def f3k:LO:=[o 39 (mv 17),o 40 (.un .not (T 39))]
def f1e:LO:=[o 41 (mv 13),o 42 (mv 15),o 43 (.bin .add (.c (aS ⟨#[47]⟩)) (T 42)),o 44 (.bin .add (T 41) (T 43)),o 13 (mv 44)]
def j0r:A0:=.seq (.region f3k) (.cond (T 40) (.seq (.region f1e) (.exit 1)) .skip)
def f34:LO:=[o 46 (fa 0 4),o 47 (ln 3 46),o 48 (mv 1),o 49 (mv 16),o 50 (.call (cf 86) [(T 47),(T 48),(T 49)]),o 45 (mv 50),o 51 (.extract 0 (T 45)),o 52 (.extract 1 (T 45)),o 18 (mv 51),o 19 (mv 52)]
def e9y:LO:=[o 53 (mv 19),o 54 (.bin .neq (T 53) (ci 0))]
def h1j:LO:=[o 55 (ln 7 7),o 56 (mv 19),o 8 (.mv (.c aE)),on (st 7 9 55)]
def d9z:LO:=[o 10 (mv 56)]
def e0n:LN:=[[],[],[],[0,2]]
def k2a:A0:=.cond (T 54) (.seq (.drawn e0n h1j d9z) .ret) .skip
def f3g:LO:=[o 58 (ln 7 7),o 59 (mv 18),o 60 (.call (cf 87) [(T 59)]),o 61 (.call (cf 88) [(T 58),(T 60)]),o 57 (mv 61),o 62 (.extract 0 (T 57)),o 63 (.extract 1 (T 57)),o 20 (.alloc zV),on (st 7 20 62)]
def d73:LO:=[o 17 (mv 63)]
def d68:LN:=[[],[],[1],[0,2],[3],[4],[4],[],[0,1,2,3,4,5,7]]
def h2f:LO:=[o 64 (ln 5 4),o 65 (ln 5 4),o 66 (mv 1),o 67 (mv 18),o 68 (.call (cf 90) [(T 65),(T 66),(T 67)]),o 69 (ln 7 20)]
def d8m:LO:=[o 70 (.call (cf 183) [(T 64),(T 68),(T 69)]),o 21 (mv 70)]
def d8e:LN:=[[],[],[],[],[1,2,3],[]]
def h06:LO:=[o 71 (mv 17),o 72 (.un .not (T 71)),o 73 (mv 72),og 74 (mv 21) 73 false,og 75 (.bin .eql (T 74) (.c aE)) 73 false,o 76 (.pick (T 73) (cb true) (T 75))]
def g8j:LO:=[o 77 (ln 7 7),o 8 (.mv (.c aE))]
def d9p:LO:=[on (st 7 9 77),o 10 (mi 14)]
def d8i:LN:=[[],[]]
def j1n:A0:=.cond (T 76) (.seq (.drawn d8i g8j d9p) .ret) .skip
def g05:LO:=[o 78 (mv 13),o 79 (mv 21),o 80 (.call (cf 21) [(T 79)]),o 81 (.bin .add (.c (aS ⟨#[47]⟩)) (T 80)),o 82 (.bin .add (T 78) (T 81)),o 13 (mv 82)]
def f7s:LO:=[o 83 (ln 7 7),o 84 (mv 18),o 85 (.call (cf 87) [(T 84)])]
def d6r:LO:=[o 86 (.call (cf 104) [(T 83),(T 85)]),on (st 7 7 86)]
def d9j:LN:=[[],[],[1]]
def j7e:A0:=.seq (.seq (.region h06) j1n) (.seq (.region g05) (.drawn d9j f7s d6r))
def h96:A0:=.seq (.drawn d68 f3g d73) (.seq (.drawn d8e h2f d8m) j7e)
def j13:A0:=.seq (.region f34) (.seq (.seq (.region e9y) k2a) h96)
def k67:A0:=.seq (.region h87) (.seq (.region h7c) (.seq j0r j13))
def h16:LO:=[o 87 (.bin .add (T 30) (ci 1)),o 30 (mv 87)]
def k8l:A0:=.seq (.cond (T 31) .skip (.exit 0)) (.seq (.block 1 k67) (.region h16))
def l70:A0:=.seq (.region j9j) k8l
def h0f:LO:=[o 88 (mv 13),o 89 (ln 7 7),o 8 (mv 88)]
def d7y:LO:=[on (st 7 9 89),o 10 (mi 0)]
def d7e:LN:=[[],[],[0]]
def h32:A0:=.seq (.seq (.region k3k) (.block 0 (.loop l70))) (.seq (.drawn d7e h0f d7y) .ret)
def d21:A0:=.seq (.region k69) (.seq (.region l4e) (.seq (.region l8d) h32))
theorem m3r:B0 Tryz.prog 103=some (90,d21,[.tmp 8,.cell 9 (some 7),.tmp 10]):=by kernel_rfl
def m5q:LO:=[o 3 (bx 0),o 6 (.alloc [(aI 0),aE,aE,(aI 0),(aI 0),(aI 0),(aI 0),(aI 0)])]
def n62:LO:=[o 12 (mv 2),o 13 (.len false (T 12)),o 7 (mv 13)]
def m51:LO:=[o 14 (mv 7),o 15 (.bin .gtr (T 14) (ci 1))]
def l98:LO:=[o 16 (mv 2),o 17 (mv 7),o 18 (.bin .sub (T 17) (ci 2)),o 19 (.idxSl 16 (T 16) (T 18)),o 20 (fa 4 19),o 21 (fa 1 20),o 22 (ld 21),o 1 (mv 22)]
def m9z:A0:=.seq (.region n62) (.seq (.region m51) (.cond (T 15) (.region l98) .skip))
def n40:LO:=[o 24 (fa 3 3),o 25 (ln 2 24),o 26 (mv 1),o 27 (.call (cf 162) [(T 25),(T 26)]),o 23 (mv 27),o 28 (.extract 0 (T 23)),o 29 (.extract 1 (T 23)),o 8 (mv 28),o 9 (mv 29)]
def m07:LO:=[o 31 (fa 3 3),o 32 (fa 0 31),o 33 (ld 32),o 34 (mv 8),o 35 (.idxSl 3 (T 33) (T 34)),o 36 (ln 3 35),o 37 (mv 2),o 38 (mv 2),o 39 (.len false (T 38)),o 40 (.bin .sub (T 39) (ci 1)),o 41 (.idxSl 16 (T 37) (T 40)),o 42 (fa 0 41),o 43 (ld 42),o 44 (.call (cf 163) [(T 36),(T 43)]),o 30 (mv 44),o 45 (.extract 0 (T 30)),o 46 (.extract 1 (T 30)),o 10 (.alloc [(aI 0),aE,aE,(aI 0),(aI 0),(aI 0),(aI 0),(aI 0)]),on (st 8 10 45)]
def l1q:LO:=[o 11 (mv 46)]
def k5b:LN:=[[],[0],[1],[],[2,3],[4],[],[],[7],[8],[6,9],[10],[11],[5,12],[13],[14],[14],[],[0,1,2,3,4,5,6,7,8,9,10,11,12,13,14,15,17]]
def k0t:LO:=[o 47 (ln 8 10),on (st 8 6 47)]
def m16:A0:=.seq (.drawn k5b m07 l1q) (.seq (.region k0t) .ret)
def h7n:A0:=.seq (.region m5q) (.seq m9z (.seq (.region n40) m16))
theorem o4t:B0 Tryz.prog 90=some (48,h7n,[.cell 6 (some 8)]):=by kernel_rfl
def n39:LO:=[o 2 (.mv (.c .nil))]
def m6m:LO:=[o 3 (.mv (.c .nil))]
def m73:LO:=[o 6 (mv 0),o 7 (.len false (T 6)),o 8 (mi 0)]
def o1l:LO:=[o 9 (.bin .lss (T 8) (T 7))]
def n8r:LO:=[o 10 (.idxSl 16 (T 6) (T 8)),o 11 (ln 16 10),o 5 (.alloc [(aI 0),aE,(aI 0),(aI 0),(aI 0),aE,aE,(aB false),(aI 0),(aU 0),aE,.nil,.nil,.nil,.nil,.nil]),on (st 16 5 11)]
def m41:LO:=[o 12 (mv 3),o 13 (fa 0 5),o 14 (ld 13),o 15 (.sliceLit 1 1 [(aI 0)] [((0,1),(T 14))]),o 16 (.append 3 1 8 (T 12) (T 15)),o 3 (mv 16)]
def l1j:LO:=[o 17 (.bin .add (T 8) (ci 1)),o 8 (mv 17)]
def n8t:A0:=.seq (.block 1 (.seq (.region n8r) (.region m41))) (.region l1j)
def l99:A0:=.seq (.region o1l) (.seq (.cond (T 9) .skip (.exit 0)) n8t)
def i13:LO:=[o 18 (mv 3),o 2 (mv 18)]
def m11:A0:=.seq (.seq (.region m73) (.block 0 (.loop l99))) (.seq (.region i13) .ret)
def i9n:A0:=.seq (.region n39) (.seq (.region m6m) m11)
theorem o5w:B0 Tryz.prog 87=some (19,i9n,[.tmp 2]):=by kernel_rfl
def n7w:LO:=[o 3 (bx 0),o 6 (.mv (.c .nil)),o 7 (mi 0)]
def m1y:LO:=[o 16 (mv 2),o 17 (.bin .eql (T 16) (.c aE))]
def m5i:LO:=[o 6 (.mv (.c .nil)),o 7 (mi 1)]
def m90:A0:=.seq (.region m1y) (.cond (T 17) (.seq (.region m5i) .ret) .skip)
def n2b:LO:=[o 19 (ln 3 3),o 20 (mv 1),o 21 (.call (cf 93) [(T 19),(T 20)]),o 18 (mv 21),o 22 (.extract 0 (T 18)),o 23 (.extract 1 (T 18)),o 8 (.alloc [aE,.nil,.nil,.nil,.nil]),on (st 5 8 22),o 9 (mv 23)]
def n51:LO:=[o 24 (mv 9),o 25 (.un .not (T 24))]
def l1d:LO:=[o 6 (.mv (.c .nil)),o 7 (mi 10)]
def m5u:A0:=.seq (.region n51) (.cond (T 25) (.seq (.region l1d) .ret) .skip)
def k64:LO:=[o 10 (.mv (.c .nil))]
def k0s:LO:=[o 26 (mv 2),o 27 (.call (cf 150) [(T 26),(.c (aS ⟨#[46]⟩))]),o 28 (.len false (T 27)),o 29 (mi 0)]
def i4e:LO:=[o 30 (.bin .lss (T 29) (T 28))]
def l62:LO:=[o 31 (mv 29),o 32 (.idxSl 1 (T 27) (T 29)),o 33 (ld 32),o 11 (mv 31),o 12 (mv 33)]
def i6p:LO:=[o 34 (mv 11),o 35 (.bin .gtr (T 34) (ci 0))]
def i7x:LO:=[o 36 (mv 10),o 37 (mv 11),o 38 (.bin .sub (T 37) (ci 1)),o 39 (.idxSl 16 (T 36) (T 38)),o 40 (ln 16 39),o 13 (.alloc [(aI 0),aE,(aI 0),(aI 0),(aI 0),aE,aE,(aB false),(aI 0),(aU 0),aE,.nil,.nil,.nil,.nil,.nil]),on (st 16 13 40)]
def i0d:LO:=[o 42 (ln 3 3),o 43 (fa 4 13),o 44 (fa 1 43),o 45 (ld 44),o 46 (.call (cf 93) [(T 42),(T 45)]),o 41 (mv 46),o 47 (.extract 0 (T 41)),o 48 (.extract 1 (T 41)),on (st 5 8 47),o 9 (mv 48)]
def h9f:LO:=[o 49 (fa 4 13),o 50 (fa 0 49),o 51 (ld 50),o 52 (.bin .neq (T 51) (ci 10)),o 53 (mv 52),og 54 (fa 2 13) 53 false,og 55 (ld 54) 53 false,og 56 (.bin .eql (T 55) (ci 4)) 53 false,o 57 (.pick (T 53) (cb true) (T 56)),o 58 (mv 57),og 59 (fa 2 13) 58 false,og 60 (ld 59) 58 false,og 61 (.bin .eql (T 60) (ci 5)) 58 false,o 62 (.pick (T 58) (cb true) (T 61)),o 63 (mv 62),og 64 (mv 9) 63 false,og 65 (.un .not (T 64)) 63 false,o 66 (.pick (T 63) (cb true) (T 65))]
def h5g:LO:=[o 6 (.mv (.c .nil)),o 7 (mi 12)]
def m8j:A0:=.seq (.region h9f) (.cond (T 66) (.seq (.region h5g) .ret) .skip)
def m9s:A0:=.cond (T 35) (.seq (.region i7x) (.seq (.region i0d) m8j)) .skip
def i5g:LO:=[o 68 (ln 5 8),o 69 (mv 12),o 70 (.call (cf 122) [(T 68),(T 69)]),o 67 (mv 70),o 71 (.extract 0 (T 67)),o 72 (.extract 1 (T 67)),o 14 (.alloc [(aI 0),aE,(aI 0),(aI 0),(aI 0),aE,aE,(aB false),(aI 0),(aU 0),aE,.nil,.nil,.nil,.nil,.nil]),on (st 16 14 71),o 15 (mv 72)]
def h9r:LO:=[o 73 (mv 15),o 74 (.un .not (T 73))]
def l6d:LO:=[o 6 (.mv (.c .nil)),o 7 (mi 8)]
def l9v:A0:=.seq (.region h9r) (.cond (T 74) (.seq (.region l6d) .ret) .skip)
def j8y:LO:=[o 75 (mv 10),o 76 (ln 16 14),o 77 (.sliceLit 16 1 [(aI 0),aE,(aI 0),(aI 0),(aI 0),aE,aE,(aB false),(aI 0),(aU 0),aE,.nil,.nil,.nil,.nil,.nil] [((0,16),(T 76))]),o 78 (.append 88 16 240 (T 75) (T 77)),o 10 (mv 78)]
def n0y:A0:=.seq (.seq (.region i6p) m9s) (.seq (.region i5g) (.seq l9v (.region j8y)))
def h76:LO:=[o 79 (.bin .add (T 29) (ci 1)),o 29 (mv 79)]
def n29:A0:=.seq (.block 1 (.seq (.region l62) n0y)) (.region h76)
def m5p:A0:=.seq (.region i4e) (.seq (.cond (T 30) .skip (.exit 0)) n29)
def k4b:LO:=[o 80 (mv 10),o 6 (mv 80),o 7 (mi 0)]
def n92:A0:=.seq (.seq (.region k0s) (.block 0 (.loop m5p))) (.seq (.region k4b) .ret)
def i7v:A0:=.seq (.region n2b) (.seq m5u (.seq (.region k64) n92))
def e4g:A0:=.seq (.region n7w) (.seq m90 i7v)
theorem o5b:B0 Tryz.prog 86=some (81,e4g,[.tmp 6,.tmp 7]):=by kernel_rfl
def h8d:LO:=[o 2 (bx 0),o 3 (bx 1),o 4 (.alloc [(aI 0),aE,(aI 0),(aI 0),(aI 0),aE,aE,(aB false),(aI 0),(aU 0),aE,.nil,.nil,.nil,.nil,.nil]),o 5 (mb false)]
def i7f:LO:=[o 9 (fa 1 2),o 10 (ld 9),o 11 (.func (.func 198) [] [(T 3)]),o 12 (.call (cf 175) [(T 10),(T 11)]),o 8 (mv 12),o 13 (.extract 0 (T 8)),o 14 (.extract 1 (T 8)),o 6 (.alloc [(aI 0),aE,(aI 0),(aI 0),(aI 0),aE,aE,(aB false),(aI 0),(aU 0),aE,.nil,.nil,.nil,.nil,.nil]),on (st 16 6 13),o 7 (mv 14)]
def j0c:LO:=[o 15 (mv 7)]
def i33:LO:=[o 16 (ln 16 6),on (st 16 4 16),o 5 (mb true)]
def j87:A0:=.seq (.region j0c) (.cond (T 15) (.seq (.region i33) .ret) .skip)
def h2m:LO:=[o 17 (fa 1 2),o 18 (ld 17),o 19 (.func (.func 199) [] [(T 3)]),o 20 (.call (cf 175) [(T 18),(T 19)]),o 21 (.extract 0 (T 20)),o 22 (.extract 1 (T 20)),on (st 16 4 21),o 5 (mv 22)]
def i01:A0:=.seq (.seq (.region i7f) j87) (.seq (.region h2m) .ret)
def e2u:A0:=.seq (.region h8d) i01
theorem m9y:B0 Tryz.prog 122=some (23,e2u,[.cell 4 (some 16),.tmp 5]):=by kernel_rfl
def k7r:LO:=[o 2 (bx 0),o 3 (mb false)]
def i2s:LO:=[o 4 (fa 1 2),o 5 (ld 4),o 6 (ld 1),o 7 (.bin .eql (T 5) (T 6)),o 3 (mv 7)]
def e7n:A0:=.seq (.region k7r) (.seq (.region i2s) .ret)
theorem m8w:B0 Tryz.prog 198=some (8,e7n,[.tmp 3]):=by kernel_rfl
def h74:LO:=[o 4 (.alloc [(aI 0),aE,(aI 0),(aI 0),(aI 0),aE,aE,(aB false),(aI 0),(aU 0),aE,.nil,.nil,.nil,.nil,.nil]),o 5 (mb false)]
def k3c:LO:=[o 9 (mv 0),o 10 (.len false (T 9)),o 11 (mi 0)]
def i1p:LO:=[o 12 (.bin .lss (T 11) (T 10))]
def l7a:LO:=[o 13 (.idxSl 16 (T 9) (T 11)),o 14 (ln 16 13),o 7 (.alloc [(aI 0),aE,(aI 0),(aI 0),(aI 0),aE,aE,(aB false),(aI 0),(aU 0),aE,.nil,.nil,.nil,.nil,.nil]),on (st 16 7 14)]
def j3m:LO:=[o 15 (mv 1),o 16 (ln 16 7),o 17 (.call (T 15) [(T 16)])]
def j7n:LO:=[o 18 (ln 16 7),on (st 16 4 18),o 5 (mb true)]
def l23:A0:=.seq (.region j3m) (.cond (T 17) (.seq (.region j7n) .ret) .skip)
def h2o:LO:=[o 19 (.bin .add (T 11) (ci 1)),o 11 (mv 19)]
def h6u:A0:=.seq (.block 1 (.seq (.region l7a) l23)) (.region h2o)
def j0j:A0:=.seq (.region i1p) (.seq (.cond (T 12) .skip (.exit 0)) h6u)
def f2b:LO:=[o 8 (.alloc [(aI 0),aE,(aI 0),(aI 0),(aI 0),aE,aE,(aB false),(aI 0),(aU 0),aE,.nil,.nil,.nil,.nil,.nil])]
def f5g:LO:=[o 20 (ln 16 8),on (st 16 4 20),o 5 (mb false)]
def i1w:A0:=.seq (.seq (.region k3c) (.block 0 (.loop j0j))) (.seq (.region f2b) (.seq (.region f5g) .ret))
def e1b:A0:=.seq (.region h74) i1w
theorem l9z:B0 Tryz.prog 175=some (21,e1b,[.cell 4 (some 16),.tmp 5]):=by kernel_rfl
def m49:LO:=[o 2 (bx 0),o 3 (bx 1),o 4 (.alloc [aE,.nil,.nil,.nil,.nil]),o 5 (mb false)]
def n8w:LO:=[o 6 (fa 0 2),o 7 (ld 6),o 8 (.func (.func 166) [] [(T 3)]),o 9 (.call (cf 165) [(T 7),(T 8)]),o 10 (.extract 0 (T 9)),o 11 (.extract 1 (T 9)),on (st 5 4 10),o 5 (mv 11)]
def i2j:A0:=.seq (.region m49) (.seq (.region n8w) .ret)
theorem o52:B0 Tryz.prog 93=some (12,i2j,[.cell 4 (some 5),.tmp 5]):=by kernel_rfl
def i1r:LO:=[o 2 (bx 0),o 3 (mb false)]
def j91:LO:=[o 4 (fa 0 2),o 5 (ld 4),o 6 (ld 1),o 7 (.bin .eql (T 5) (T 6)),o 3 (mv 7)]
def e4s:A0:=.seq (.region i1r) (.seq (.region j91) .ret)
theorem m3b:B0 Tryz.prog 166=some (8,e4s,[.tmp 3]):=by kernel_rfl
def h7b:LO:=[o 4 (.alloc [aE,.nil,.nil,.nil,.nil]),o 5 (mb false)]
def l0u:LO:=[o 9 (mv 0),o 10 (.len false (T 9)),o 11 (mi 0)]
def j5e:LO:=[o 12 (.bin .lss (T 11) (T 10))]
def k7h:LO:=[o 13 (.idxSl 5 (T 9) (T 11)),o 14 (ln 5 13),o 7 (.alloc [aE,.nil,.nil,.nil,.nil]),on (st 5 7 14)]
def j1l:LO:=[o 15 (mv 1),o 16 (ln 5 7),o 17 (.call (T 15) [(T 16)])]
def k6d:LO:=[o 18 (ln 5 7),on (st 5 4 18),o 5 (mb true)]
def i6x:A0:=.seq (.region j1l) (.cond (T 17) (.seq (.region k6d) .ret) .skip)
def f8v:LO:=[o 19 (.bin .add (T 11) (ci 1)),o 11 (mv 19)]
def j9r:A0:=.seq (.block 1 (.seq (.region k7h) i6x)) (.region f8v)
def l5q:A0:=.seq (.region j5e) (.seq (.cond (T 12) .skip (.exit 0)) j9r)
def g3y:LO:=[o 8 (.alloc [aE,.nil,.nil,.nil,.nil])]
def f6s:LO:=[o 20 (ln 5 8),on (st 5 4 20),o 5 (mb false)]
def k5l:A0:=.seq (.seq (.region l0u) (.block 0 (.loop l5q))) (.seq (.region g3y) (.seq (.region f6s) .ret))
def e48:A0:=.seq (.region h7b) k5l
theorem n6h:B0 Tryz.prog 165=some (21,e48,[.cell 4 (some 5),.tmp 5]):=by kernel_rfl
def n2e:LO:=[o 2 (.mv (.c aE)),o 3 (mb false)]
def n2y:LO:=[o 5 (mv 0),o 6 (.len true (T 5)),o 4 (mv 6)]
def n7k:LO:=[o 7 (mv 4),o 8 (.bin .lss (T 7) (ci 2)),o 9 (mv 8),og 10 (mv 0) 9 false,og 11 (.idxS (T 10) (ci 0)) 9 false,og 12 (.bin .neq (T 11) (.c (aC 123))) 9 false,o 13 (.pick (T 9) (cb true) (T 12)),o 14 (mv 13),og 15 (mv 0) 14 false,og 16 (mv 4) 14 false,og 17 (.bin .sub (T 16) (ci 1)) 14 false,og 18 (.idxS (T 15) (T 17)) 14 false,og 19 (.bin .neq (T 18) (.c (aC 125))) 14 false,o 20 (.pick (T 14) (cb true) (T 19)),o 21 (mv 20),og 22 (mv 0) 21 false,og 23 (mv 4) 21 false,og 24 (.bin .sub (T 23) (ci 1)) 21 false,og 25 (.sliceS (T 22) (some (ci 1)) (some (T 24))) 21 false,og 26 (.call (cf 80) [(T 25)]) 21 false,og 27 (.un .not (T 26)) 21 false,o 28 (.pick (T 21) (cb true) (T 27))]
def n7s:LO:=[o 2 (.mv (.c aE)),o 3 (mb false)]
def n0w:A0:=.seq (.region n7k) (.cond (T 28) (.seq (.region n7s) .ret) .skip)
def m7u:LO:=[o 29 (mv 0),o 30 (mv 4),o 31 (.bin .sub (T 30) (ci 1)),o 32 (.sliceS (T 29) (some (ci 1)) (some (T 31))),o 2 (mv 32),o 3 (mb true)]
def m0h:A0:=.seq (.region n2y) (.seq n0w (.seq (.region m7u) .ret))
def i8r:A0:=.seq (.region n2e) m0h
theorem o45:B0 Tryz.prog 67=some (33,i8r,[.tmp 2,.tmp 3]):=by kernel_rfl
def m95:LO:=[o 2 (.mv (.c .nil)),o 3 (mb false)]
def m6u:LO:=[o 11 (mv 0),o 12 (.call (cf 66) [(T 11)]),o 10 (mv 12),o 13 (.extract 0 (T 10)),o 14 (.extract 1 (T 10)),o 4 (mv 13),o 5 (mv 14)]
def o0r:LO:=[o 15 (mv 5),o 16 (.un .not (T 15)),o 17 (mv 16),og 18 (mv 4) 17 false,og 19 (.len false (T 18)) 17 false,og 20 (.bin .gtr (T 19) (ci 8)) 17 false,o 21 (.pick (T 17) (cb true) (T 20))]
def n2q:LO:=[o 2 (.mv (.c .nil)),o 3 (mb false)]
def n7n:A0:=.seq (.region o0r) (.cond (T 21) (.seq (.region n2q) .ret) .skip)
def n8q:LO:=[o 22 (mv 4),o 23 (.len false (T 22)),o 24 (mi 0)]
def j5x:LO:=[o 25 (.bin .lss (T 24) (T 23))]
def h9z:LO:=[o 26 (.idxSl 1 (T 22) (T 24)),o 27 (ld 26),o 7 (mv 27)]
def j1h:LO:=[o 29 (mv 7),o 30 (.call (cf 67) [(T 29)]),o 28 (mv 30),o 31 (.extract 0 (T 28)),o 32 (.extract 1 (T 28)),o 8 (mv 31),o 9 (mv 32)]
def j3u:LO:=[o 33 (mv 9),o 34 (.un .not (T 33)),o 35 (mv 34),og 36 (mv 7) 35 true,og 37 (.call (cf 59) [(T 36)]) 35 true,og 38 (.un .not (T 37)) 35 true,o 39 (.pick (T 35) (T 38) (cb false))]
def i5y:LO:=[o 2 (.mv (.c .nil)),o 3 (mb false)]
def m5b:A0:=.seq (.region j3u) (.cond (T 39) (.seq (.region i5y) .ret) .skip)
def m72:A0:=.block 1 (.seq (.region h9z) (.seq (.region j1h) m5b))
def l16:LO:=[o 40 (.bin .add (T 24) (ci 1)),o 24 (mv 40)]
def n04:A0:=.seq (.cond (T 25) .skip (.exit 0)) (.seq m72 (.region l16))
def m4o:A0:=.seq (.region j5x) n04
def l7b:LO:=[o 41 (mv 4),o 2 (mv 41),o 3 (mb true)]
def m6y:A0:=.seq (.seq (.region n8q) (.block 0 (.loop m4o))) (.seq (.region l7b) .ret)
def k1e:A0:=.seq (.region m95) (.seq (.region m6u) (.seq n7n m6y))
theorem o4o:B0 Tryz.prog 52=some (42,k1e,[.tmp 2,.tmp 3]):=by kernel_rfl
def m7q:LO:=[o 2 (.mv (.c .nil)),o 3 (mb false)]
def m2i:LO:=[o 8 (mv 0),o 9 (.bin .eql (T 8) (.c aE)),o 10 (mv 9),og 11 (mv 0) 10 false,og 12 (.idxS (T 11) (ci 0)) 10 false,og 13 (.bin .neq (T 12) (.c (aC 47))) 10 false,o 14 (.pick (T 10) (cb true) (T 13))]
def m8t:LO:=[o 2 (.mv (.c .nil)),o 3 (mb false)]
def l93:A0:=.seq (.region m2i) (.cond (T 14) (.seq (.region m8t) .ret) .skip)
def m2t:LO:=[o 15 (mv 0),o 16 (.bytes (T 15)),o 4 (mv 16)]
def n9z:LO:=[o 5 (.mv (.c .nil))]
def k98:LO:=[o 6 (mi 1)]
def i1q:LO:=[o 7 (mi 1)]
def k4z:LO:=[o 17 (mv 7),o 18 (mv 4),o 19 (.len false (T 18)),o 20 (.bin .leq (T 17) (T 19))]
def j2w:LO:=[o 23 (mv 7),o 24 (mv 4),o 25 (.len false (T 24)),o 26 (.bin .eql (T 23) (T 25)),o 27 (mv 26),og 28 (mv 4) 27 false,og 29 (mv 7) 27 false,og 30 (.idxSl 1 (T 28) (T 29)) 27 false,og 31 (ld 30) 27 false,og 32 (.bin .eql (T 31) (.c (aC 47))) 27 false,o 33 (.pick (T 27) (cb true) (T 32))]
def i2v:LO:=[o 34 (mv 5),o 35 (mv 4),o 36 (mv 6),o 37 (mv 7),o 38 (mv 7),o 39 (.sliceV 1 (T 35) (some (T 36)) (some (T 37)) (some (T 38))),o 40 (.conv .str (T 39)),o 41 (.sliceLit 1 1 [aE] [((0,1),(T 40))]),o 42 (.append 9 1 16 (T 34) (T 41)),o 5 (mv 42)]
def k2w:LO:=[o 43 (mv 7),o 44 (.bin .add (T 43) (ci 1)),o 6 (mv 44)]
def m15:A0:=.seq (.region j2w) (.cond (T 33) (.seq (.region i2v) (.region k2w)) .skip)
def j49:LO:=[o 21 (mv 7),o 22 (.bin .add (T 21) (ci 1)),o 7 (mv 22)]
def m8r:A0:=.seq (.seq (.region k4z) (.cond (T 20) .skip (.exit 0))) (.seq (.block 1 m15) (.region j49))
def l11:LO:=[o 45 (mv 5),o 2 (mv 45),o 3 (mb true)]
def m7j:A0:=.seq (.seq (.region i1q) (.block 0 (.loop m8r))) (.seq (.region l11) .ret)
def n1j:A0:=.seq (.region m2t) (.seq (.region n9z) (.seq (.region k98) m7j))
def i0h:A0:=.seq (.region m7q) (.seq l93 n1j)
theorem o6e:B0 Tryz.prog 66=some (46,i0h,[.tmp 2,.tmp 3]):=by kernel_rfl
def m2u:LO:=[o 2 (mb false)]
def m8l:LO:=[o 4 (mv 0),o 5 (.len true (T 4)),o 6 (mi 0)]
def m4w:LO:=[o 7 (.bin .lss (T 6) (T 5))]
def m4p:LO:=[o 8 (mv 6),o 3 (mv 8)]
def o0l:LO:=[o 9 (mv 0),o 10 (mv 3),o 11 (.idxS (T 9) (T 10)),o 12 (.call (cf 50) [(T 11)]),o 13 (.un .not (T 12)),o 14 (mv 13),og 15 (mv 0) 14 false,og 16 (mv 3) 14 false,og 17 (.idxS (T 15) (T 16)) 14 false,og 18 (.bin .geq (T 17) (.c (aC 65))) 14 false,og 19 (mv 18) 14 false,og 20 (mv 0) 19 true,og 21 (mv 3) 19 true,og 22 (.idxS (T 20) (T 21)) 19 true,og 23 (.bin .leq (T 22) (.c (aC 90))) 19 true,og 24 (.pick (T 19) (T 23) (cb false)) 14 false,o 25 (.pick (T 14) (cb true) (T 24))]
def n9o:LO:=[o 2 (mb false)]
def m9l:A0:=.seq (.region o0l) (.cond (T 25) (.seq (.region n9o) .ret) .skip)
def k21:LO:=[o 26 (.bin .add (T 6) (ci 1)),o 6 (mv 26)]
def n5k:A0:=.seq (.block 1 (.seq (.region m4p) m9l)) (.region k21)
def m8a:A0:=.seq (.region m4w) (.seq (.cond (T 7) .skip (.exit 0)) n5k)
def j5i:LO:=[o 27 (mv 0),o 28 (.bin .neq (T 27) (.c aE)),o 2 (mv 28)]
def m1h:A0:=.seq (.seq (.region m8l) (.block 0 (.loop m8a))) (.seq (.region j5i) .ret)
def i2t:A0:=.seq (.region m2u) m1h
theorem o4n:B0 Tryz.prog 59=some (29,i2t,[.tmp 2]):=by kernel_rfl
def m6g:LO:=[o 3 (bx 0),o 5 (bx 2),o 6 (.alloc [(aI 0),aE,(aI 0),(aI 0),(aI 0),aE,aE,(aB false),(aI 0),(aU 0),aE,.nil,.nil,.nil,.nil,.nil]),o 7 (mb false)]
def n0r:LO:=[o 12 (fa 4 5),o 13 (ld 12),o 14 (.bin .eql (T 13) (.c aE)),o 15 (mv 14),og 16 (fa 4 5) 15 false,og 17 (ld 16) 15 false,og 18 (.bin .eql (T 17) (.c (aS ⟨#[42]⟩))) 15 false,o 19 (.pick (T 15) (cb true) (T 18))]
def n64:LO:=[o 20 (.build [(aI 0),aE,(aI 0),(aI 0),(aI 0),aE,aE,(aB false),(aI 0),(aU 0),aE,.nil,.nil,.nil,.nil,.nil] []),on (st 16 6 20),o 7 (mb false)]
def o0n:A0:=.seq (.region n0r) (.cond (T 19) (.seq (.region n64) .ret) .skip)
def m2d:LO:=[o 22 (ln 3 3),o 23 (mv 1),o 24 (.call (cf 93) [(T 22),(T 23)]),o 21 (mv 24),o 25 (.extract 0 (T 21)),o 26 (.extract 1 (T 21)),o 8 (.alloc [aE,.nil,.nil,.nil,.nil]),on (st 5 8 25),o 9 (mv 26)]
def n66:LO:=[o 28 (ln 5 8),o 29 (fa 4 5),o 30 (ld 29),o 31 (.call (cf 122) [(T 28),(T 30)]),o 27 (mv 31),o 32 (.extract 0 (T 27)),o 33 (.extract 1 (T 27)),o 10 (.alloc [(aI 0),aE,(aI 0),(aI 0),(aI 0),aE,aE,(aB false),(aI 0),(aU 0),aE,.nil,.nil,.nil,.nil,.nil]),on (st 16 10 32),o 11 (mv 33)]
def k65:LO:=[o 34 (ln 16 10),o 35 (mv 11),o 36 (mv 35),og 37 (fa 4 10) 36 true,og 38 (fa 0 37) 36 true,og 39 (ld 38) 36 true,og 40 (.bin .eql (T 39) (ci 10)) 36 true,o 41 (.pick (T 36) (T 40) (cb false)),o 42 (mv 41),og 43 (fa 2 10) 42 true,og 44 (ld 43) 42 true,og 45 (.bin .eql (T 44) (ci 1)) 42 true,og 46 (mv 45) 42 true,og 47 (fa 2 10) 46 false,og 48 (ld 47) 46 false,og 49 (.bin .eql (T 48) (ci 2)) 46 false,og 50 (.pick (T 46) (cb true) (T 49)) 42 true,o 51 (.pick (T 42) (T 50) (cb false)),on (st 16 6 34)]
def e8e:LO:=[o 7 (mv 51)]
def g87:LN:=[[],[],[1],[2],[2,3],[2,4],[2,5],[2,6],[2,7],[8],[8,9],[8,10],[8,11],[12],[12,13],[12,14],[8,12,15],[8,16],[0,12]]
def n68:A0:=.seq (.region n66) (.seq (.drawn g87 k65 e8e) .ret)
def l5o:A0:=.seq (.region m6g) (.seq o0n (.seq (.region m2d) n68))
theorem o3r:B0 Tryz.prog 55=some (52,l5o,[.cell 6 (some 16),.tmp 7]):=by kernel_rfl
def n2h:LO:=[o 3 (bx 0),o 5 (bx 2),o 6 (.alloc zV)]
def n5u:LO:=[o 17 (ln 3 3),o 18 (mv 1),o 19 (.call (cf 93) [(T 17),(T 18)]),o 16 (mv 19),o 20 (.extract 0 (T 16)),o 21 (.extract 1 (T 16)),o 7 (.alloc [aE,.nil,.nil,.nil,.nil]),on (st 5 7 20),o 8 (mv 21)]
def n3m:LO:=[o 22 (fa 6 5),o 23 (ld 22),o 24 (.call (cf 96) [(T 23)]),o 25 (.build zV [((0,1),(ci 10)),((6,1),(T 24))]),o 9 (.alloc zV),on (st 7 9 25)]
def n1s:LO:=[o 26 (fa 5 5),o 27 (ld 26),o 28 (.call (cf 97) [(T 27)]),o 29 (.len false (T 28)),o 30 (mi 0)]
def m0z:LO:=[o 31 (.bin .lss (T 30) (T 29))]
def m8f:LO:=[o 32 (.idxSl 8 (T 28) (T 30)),o 33 (ln 8 32),o 11 (.alloc [(aI 0),(aI 0),(aU 0),aE,.nil,.nil,.nil,.nil]),on (st 8 11 33)]
def n2t:LO:=[o 35 (ln 5 7),o 36 (fa 0 11),o 37 (ld 36),o 38 (.call (cf 98) [(T 35),(T 37)]),o 34 (mv 38),o 39 (.extract 0 (T 34)),o 40 (.extract 1 (T 34)),o 12 (.alloc [(aI 0),aE,(aI 0),(aI 0),(aI 0),aE,aE,(aB false),(aI 0),(aU 0),aE,.nil,.nil,.nil,.nil,.nil]),on (st 16 12 39),o 13 (mv 40)]
def l49:LO:=[o 42 (ln 3 3),o 43 (ln 16 12),o 44 (fa 1 11),o 45 (ln 7 44),o 46 (.call (cf 99) [(T 42),(T 43),(T 45)]),o 41 (mv 46),o 47 (.extract 0 (T 41)),o 48 (.extract 1 (T 41)),o 14 (.alloc zV),on (st 7 14 47),o 15 (mv 48)]
def k55:LO:=[o 49 (mv 15)]
def k1x:LO:=[o 50 (fa 5 9),o 51 (ld 50),o 52 (fa 0 11),o 53 (ld 52),o 54 (ln 7 14),o 55 (.build [(aI 0),(aI 0),(aU 0),aE,.nil,.nil,.nil,.nil] [((0,1),(T 53)),((1,7),(T 54))]),o 56 (.sliceLit 8 1 [(aI 0),(aI 0),(aU 0),aE,.nil,.nil,.nil,.nil] [((0,8),(T 55))]),o 57 (.append 67 8 136 (T 51) (T 56)),o 58 (fa 5 9),on (st 1 58 57)]
def n0f:A0:=.seq (.region l49) (.seq (.region k55) (.cond (T 49) (.region k1x) .skip))
def j60:LO:=[o 59 (.bin .add (T 30) (ci 1)),o 30 (mv 59)]
def n42:A0:=.seq (.block 1 (.seq (.region m8f) (.seq (.region n2t) n0f))) (.region j60)
def m82:A0:=.seq (.region m0z) (.seq (.cond (T 31) .skip (.exit 0)) n42)
def k7t:LO:=[o 60 (fa 6 9),o 61 (ld 60),o 62 (.call (cf 100) [(T 61),(cf 101)])]
def j36:LO:=[o 63 (ln 7 9),on (st 7 6 63)]
def m6c:A0:=.seq (.seq (.region n1s) (.block 0 (.loop m82))) (.seq (.region k7t) (.seq (.region j36) .ret))
def i30:A0:=.seq (.region n2h) (.seq (.region n5u) (.seq (.region n3m) m6c))
theorem o5u:B0 Tryz.prog 41=some (64,i30,[.cell 6 (some 7)]):=by kernel_rfl
def e3g:A0:=(.seq (.region [⟨(.some 3),(.box (.t 0)),.none⟩,⟨(.some 4),(.box (.t 1)),.none⟩,⟨(.some 5),(.box (.t 2)),.none⟩,⟨(.some 6),(.alloc [(.v (.int .i64 0)),(.v (.int .u64 0)),(.v (.string ⟨⟨[]⟩⟩)),.nil,.nil,.nil,.nil]),.none⟩,⟨(.some 7),(.mv (.c (.v (.bool false)))),.none⟩]) (.seq (.seq (.region [⟨(.some 14),(.fieldAddr 2 (.t 4)),.none⟩,⟨(.some 15),(.load .none (.t 14)),.none⟩]) (.block 0 (.seq (.region [⟨(.some 17),(.bin .eql (.t 15) (.c (.v (.int .i64 4)))),.none⟩,⟨(.some 16),(.mv (.t 17)),.none⟩]) (.cond (.t 16) (.seq (.region [⟨(.some 18),(.build [(.v (.int .i64 0)),(.v (.int .u64 0)),(.v (.string ⟨⟨[]⟩⟩)),.nil,.nil,.nil,.nil] [((0,1),(.c (.v (.int .i64 11))))]),.none⟩,⟨(.some 8),(.alloc [(.v (.int .i64 0)),(.v (.int .u64 0)),(.v (.string ⟨⟨[]⟩⟩)),.nil,.nil,.nil,.nil]),.none⟩,⟨.none,(.store 7 (.t 8) (.t 18)),.none⟩]) (.seq (.seq (.region [⟨(.some 19),(.fieldAddr 3 (.t 5)),.none⟩,⟨(.some 20),(.load .none (.t 19)),.none⟩,⟨(.some 21),(.len false (.t 20)),.none⟩,⟨(.some 22),(.mv (.c (.v (.int .i64 0)))),.none⟩]) (.block 1 (.loop (.seq (.region [⟨(.some 23),(.bin .lss (.t 22) (.t 21)),.none⟩]) (.seq (.cond (.t 23) .skip (.exit 1)) (.seq (.block 2 (.seq (.region [⟨(.some 24),(.idxSl 7 (.t 20) (.t 22)),.none⟩,⟨(.some 25),(.load (.some 7) (.t 24)),.none⟩,⟨(.some 10),(.alloc [(.v (.int .i64 0)),(.v (.int .u64 0)),(.v (.string ⟨⟨[]⟩⟩)),.nil,.nil,.nil,.nil]),.none⟩,⟨.none,(.store 7 (.t 10) (.t 25)),.none⟩]) (.drawn [[],[0],[],[],[3],[],[2,4,5],[6]] [⟨(.some 26),(.fieldAddr 3 (.t 8)),.none⟩,⟨(.some 27),(.load .none (.t 26)),.none⟩,⟨(.some 28),(.load (.some 3) (.t 3)),.none⟩,⟨(.some 29),(.fieldAddr 4 (.t 4)),.none⟩,⟨(.some 30),(.load (.some 2) (.t 29)),.none⟩,⟨(.some 31),(.load (.some 7) (.t 10)),.none⟩,⟨(.some 32),(.call (.c (.clo (.func 177) [] [])) [(.t 28),(.t 30),(.t 31)]),.none⟩,⟨(.some 33),(.sliceLit 7 1 [(.v (.int .i64 0)),(.v (.int .u64 0)),(.v (.string ⟨⟨[]⟩⟩)),.nil,.nil,.nil,.nil] [((0,7),(.t 32))]),.none⟩] [⟨(.some 34),(.append 54 7 128 (.t 27) (.t 33)),.none⟩,⟨(.some 35),(.fieldAddr 3 (.t 8)),.none⟩,⟨.none,(.store 1 (.t 35) (.t 34)),.none⟩]))) (.region [⟨(.some 36),(.bin .add (.t 22) (.c (.v (.int .i64 1)))),.none⟩,⟨(.some 22),(.mv (.t 36)),.none⟩]))))))) (.seq (.drawn [[],[],[1],[2],[3],[0]] [⟨(.some 37),(.load (.some 7) (.t 8)),.none⟩,⟨(.some 38),(.fieldAddr 3 (.t 8)),.none⟩,⟨(.some 39),(.load .none (.t 38)),.none⟩,⟨(.some 40),(.len false (.t 39)),.none⟩,⟨(.some 41),(.bin .gtr (.t 40) (.c (.v (.int .i64 0)))),.none⟩,⟨.none,(.store 7 (.t 6) (.t 37)),.none⟩] [⟨(.some 7),(.mv (.t 41)),.none⟩]) .ret))) (.seq (.region [⟨(.some 43),(.bin .eql (.t 15) (.c (.v (.int .i64 5)))),.none⟩,⟨(.some 42),(.mv (.t 43)),.none⟩]) (.cond (.t 42) (.seq (.region [⟨(.some 44),(.build [(.v (.int .i64 0)),(.v (.int .u64 0)),(.v (.string ⟨⟨[]⟩⟩)),.nil,.nil,.nil,.nil] [((0,1),(.c (.v (.int .i64 12))))]),.none⟩,⟨(.some 11),(.alloc [(.v (.int .i64 0)),(.v (.int .u64 0)),(.v (.string ⟨⟨[]⟩⟩)),.nil,.nil,.nil,.nil]),.none⟩,⟨.none,(.store 7 (.t 11) (.t 44)),.none⟩]) (.seq (.seq (.region [⟨(.some 45),(.fieldAddr 4 (.t 5)),.none⟩,⟨(.some 46),(.load .none (.t 45)),.none⟩,⟨(.some 47),(.call (.c (.clo (.func 178) [] [])) [(.t 46)]),.none⟩,⟨(.some 48),(.len false (.t 47)),.none⟩,⟨(.some 49),(.mv (.c (.v (.int .i64 0)))),.none⟩]) (.block 3 (.loop (.seq (.region [⟨(.some 50),(.bin .lss (.t 49) (.t 48)),.none⟩]) (.seq (.cond (.t 50) .skip (.exit 3)) (.seq (.block 4 (.seq (.region [⟨(.some 51),(.idxSl 14 (.t 47) (.t 49)),.none⟩,⟨(.some 52),(.load (.some 14) (.t 51)),.none⟩,⟨(.some 13),(.alloc [(.v (.int .i64 0)),(.v (.int .u64 0)),(.v (.string ⟨⟨[]⟩⟩)),.nil,.nil,.nil,.nil,(.v (.int .i64 0)),(.v (.int .u64 0)),(.v (.string ⟨⟨[]⟩⟩)),.nil,.nil,.nil,.nil]),.none⟩,⟨.none,(.store 14 (.t 13) (.t 52)),.none⟩]) (.drawn [[],[0],[],[2],[3],[],[],[6],[],[8],[4,5,7,9],[4,10],[11]] [⟨(.some 53),(.fieldAddr 4 (.t 11)),.none⟩,⟨(.some 54),(.load .none (.t 53)),.none⟩,⟨(.some 55),(.fieldAddr 0 (.t 13)),.none⟩,⟨(.some 56),(.load (.some 7) (.t 55)),.none⟩,⟨(.some 57),(.call (.c (.clo (.func 179) [] [])) [(.t 56)]),.none⟩,⟨(.some 58),(.load (.some 3) (.t 3)),.none⟩,⟨(.some 59),(.fieldAddr 4 (.t 4)),.none⟩,⟨(.some 60),(.load (.some 2) (.t 59)),.none⟩,⟨(.some 61),(.fieldAddr 7 (.t 13)),.none⟩,⟨(.some 62),(.load (.some 7) (.t 61)),.none⟩,⟨(.some 63),(.call (.c (.clo (.func 177) [] [])) [(.t 58),(.t 60),(.t 62)]),.none⟩,⟨(.some 64),(.build [(.v (.int .i64 0)),(.v (.int .u64 0)),(.v (.string ⟨⟨[]⟩⟩)),.nil,.nil,.nil,.nil,(.v (.int .i64 0)),(.v (.int .u64 0)),(.v (.string ⟨⟨[]⟩⟩)),.nil,.nil,.nil,.nil] [((0,7),(.t 57)),((7,7),(.t 63))]),.none⟩,⟨(.some 65),(.sliceLit 14 1 [(.v (.int .i64 0)),(.v (.int .u64 0)),(.v (.string ⟨⟨[]⟩⟩)),.nil,.nil,.nil,.nil,(.v (.int .i64 0)),(.v (.int .u64 0)),(.v (.string ⟨⟨[]⟩⟩)),.nil,.nil,.nil,.nil] [((0,14),(.t 64))]),.none⟩] [⟨(.some 66),(.append 269 14 256 (.t 54) (.t 65)),.none⟩,⟨(.some 67),(.fieldAddr 4 (.t 11)),.none⟩,⟨.none,(.store 1 (.t 67) (.t 66)),.none⟩]))) (.region [⟨(.some 68),(.bin .add (.t 49) (.c (.v (.int .i64 1)))),.none⟩,⟨(.some 49),(.mv (.t 68)),.none⟩]))))))) (.seq (.drawn [[],[],[1],[2],[3],[0]] [⟨(.some 69),(.load (.some 7) (.t 11)),.none⟩,⟨(.some 70),(.fieldAddr 4 (.t 11)),.none⟩,⟨(.some 71),(.load .none (.t 70)),.none⟩,⟨(.some 72),(.len false (.t 71)),.none⟩,⟨(.some 73),(.bin .gtr (.t 72) (.c (.v (.int .i64 0)))),.none⟩,⟨.none,(.store 7 (.t 6) (.t 69)),.none⟩] [⟨(.some 7),(.mv (.t 73)),.none⟩]) .ret))) .skip)))))) (.seq (.drawn [[],[],[1],[],[0,2,3],[],[5],[6],[4,7],[8],[8,9],[8,10],[8,11],[0,1,2,3,4,10]] [⟨(.some 74),(.load (.some 3) (.t 3)),.none⟩,⟨(.some 75),(.fieldAddr 4 (.t 4)),.none⟩,⟨(.some 76),(.load (.some 2) (.t 75)),.none⟩,⟨(.some 77),(.load (.some 7) (.t 5)),.none⟩,⟨(.some 78),(.call (.c (.clo (.func 177) [] [])) [(.t 74),(.t 76),(.t 77)]),.none⟩,⟨(.some 79),(.fieldAddr 2 (.t 4)),.none⟩,⟨(.some 80),(.load .none (.t 79)),.none⟩,⟨(.some 81),(.bin .neq (.t 80) (.c (.v (.int .i64 3)))),.none⟩,⟨(.some 82),(.mv (.t 81)),.none⟩,⟨(.some 83),(.load (.some 7) (.t 5)),(.some (82,false))⟩,⟨(.some 84),(.call (.c (.clo (.func 180) [] [])) [(.t 83)]),(.some (82,false))⟩,⟨(.some 85),(.un .not (.t 84)),(.some (82,false))⟩,⟨(.some 86),(.pick (.t 82) (.c (.v (.bool true))) (.t 85)),.none⟩,⟨.none,(.store 7 (.t 6) (.t 78)),.none⟩] [⟨(.some 7),(.mv (.t 86)),.none⟩]) .ret)))
theorem o56:B0 Tryz.prog 99=some (87,e3g,[(.cell 6 (.some 7)),(.tmp 7)]):=by kernel_rfl
def l1i:LO:=[o 3 (bx 0),o 4 (bx 1),o 5 (bx 2),o 6 (.alloc zV)]
def j5n:LO:=[o 7 (fa 0 4),o 8 (ld 7),o 9 (.bin .eql (T 8) (ci 10))]
def k7k:LO:=[o 10 (ln 3 3),o 11 (fa 1 4),o 12 (ld 11),o 13 (ln 7 5),o 14 (.call (cf 41) [(T 10),(T 12),(T 13)]),on (st 7 6 14)]
def l4y:A0:=.seq (.region j5n) (.cond (T 9) (.seq (.region k7k) .ret) .skip)
def i6n:LO:=[o 15 (ln 7 5),o 16 (.call (cf 179) [(T 15)]),on (st 7 6 16)]
def e3i:A0:=.seq (.region l1i) (.seq l4y (.seq (.region i6n) .ret))
theorem o0p:B0 Tryz.prog 177=some (17,e3i,[.cell 6 (some 7)]):=by kernel_rfl
def n4y:LO:=[o 2 (bx 0),o 3 (bx 1),o 4 (.alloc [(aI 0),aE,(aI 0),(aI 0),(aI 0),aE,aE,(aB false),(aI 0),(aU 0),aE,.nil,.nil,.nil,.nil,.nil]),o 5 (mb false)]
def m7h:LO:=[o 6 (fa 1 2),o 7 (ld 6),o 8 (.func (.func 176) [] [(T 3)]),o 9 (.call (cf 175) [(T 7),(T 8)]),o 10 (.extract 0 (T 9)),o 11 (.extract 1 (T 9)),on (st 16 4 10),o 5 (mv 11)]
def h4k:A0:=.seq (.region n4y) (.seq (.region m7h) .ret)
theorem o6w:B0 Tryz.prog 98=some (12,h4k,[.cell 4 (some 16),.tmp 5]):=by kernel_rfl
def j5c:LO:=[o 2 (bx 0),o 3 (mb false)]
def l6y:LO:=[o 4 (fa 0 2),o 5 (ld 4),o 6 (ld 1),o 7 (.bin .eql (T 5) (T 6)),o 3 (mv 7)]
def e1y:A0:=.seq (.region j5c) (.seq (.region l6y) .ret)
theorem n6t:B0 Tryz.prog 176=some (8,e1y,[.tmp 3]):=by kernel_rfl
def n35:LO:=[o 3 (bx 0),o 5 (bx 2),o 6 (mi 0)]
def m9q:LO:=[o 11 (ln 3 3),o 12 (mv 1),o 13 (.call (cf 93) [(T 11),(T 12)]),o 10 (mv 13),o 14 (.extract 0 (T 10)),o 15 (.extract 1 (T 10)),o 7 (.alloc [aE,.nil,.nil,.nil,.nil]),on (st 5 7 14),o 8 (mv 15)]
def o0c:LO:=[o 16 (mv 8),o 17 (.un .not (T 16))]
def o0h:LO:=[o 6 (mi 10)]
def m1a:A0:=.seq (.region o0c) (.cond (T 17) (.seq (.region o0h) .ret) .skip)
def m57:LO:=[o 18 (ln 3 3),o 19 (ln 5 7),o 20 (ln 7 5),o 21 (.call (cf 94) [(T 18),(T 19),(T 20),(ci 1)]),o 9 (mv 21)]
def l5z:LO:=[o 22 (mv 9),o 23 (.bin .neq (T 22) (ci 0))]
def j3y:LO:=[o 24 (mv 9),o 6 (mv 24)]
def n3e:A0:=.seq (.region l5z) (.cond (T 23) (.seq (.region j3y) .ret) .skip)
def k0l:LO:=[o 25 (ln 7 5),o 26 (.call (cf 95) [(T 25)]),o 27 (.bin .gtr (T 26) (ci 4096))]
def l4h:LO:=[o 6 (mi 3)]
def m5z:A0:=.seq (.region k0l) (.cond (T 27) (.seq (.region l4h) .ret) .skip)
def j2p:LO:=[o 6 (mi 0)]
def m31:A0:=.seq (.seq (.region m57) n3e) (.seq m5z (.seq (.region j2p) .ret))
def l05:A0:=.seq (.region n35) (.seq (.region m9q) (.seq m1a m31))
theorem o4x:B0 Tryz.prog 40=some (28,l05,[.tmp 6]):=by kernel_rfl
def m7z:LO:=[o 4 (bx 0),o 5 (bx 1),o 6 (bx 2),o 8 (mi 0)]
def m2f:LO:=[o 17 (fa 0 6),o 18 (ld 17),o 19 (.bin .neq (T 18) (ci 10)),o 20 (mv 19),og 21 (ln 7 6) 20 false,og 22 (.call (cf 167) [(T 21)]) 20 false,o 23 (.pick (T 20) (cb true) (T 22)),o 16 (mv 23)]
def n54:LO:=[o 8 (mi 12)]
def l91:LO:=[o 25 (mv 3),o 26 (.bin .gtr (T 25) (ci 16)),o 24 (mv 26)]
def n6l:LO:=[o 8 (mi 17)]
def n0m:A0:=.seq (.region l91) (.cond (T 24) (.seq (.region n6l) .ret) .skip)
def m1p:A0:=.seq (.region m2f) (.cond (T 16) (.seq (.region n54) .ret) n0m)
def k54:LO:=[o 27 (fa 5 6),o 28 (ld 27),o 29 (.len false (T 28)),o 30 (mi 0)]
def i5a:LO:=[o 31 (.bin .lss (T 30) (T 29))]
def j40:LO:=[o 32 (mv 30),o 9 (mv 32)]
def k36:LO:=[o 33 (ln 3 4),o 34 (ln 5 5),o 35 (fa 5 6),o 36 (ld 35),o 37 (mv 9),o 38 (mv 3),o 39 (.call (cf 168) [(T 33),(T 34),(T 36),(T 37),(T 38)]),o 10 (mv 39)]
def k4w:LO:=[o 40 (mv 10),o 41 (.bin .neq (T 40) (ci 0))]
def i4d:LO:=[o 42 (mv 10),o 8 (mv 42)]
def m5c:A0:=.seq (.region k4w) (.cond (T 41) (.seq (.region i4d) .ret) .skip)
def m8i:A0:=.block 2 (.seq (.region j40) (.seq (.region k36) m5c))
def k23:LO:=[o 43 (.bin .add (T 30) (ci 1)),o 30 (mv 43)]
def o1f:A0:=.seq (.cond (T 31) .skip (.exit 1)) (.seq m8i (.region k23))
def n4m:A0:=.seq (.region i5a) o1f
def k6f:LO:=[o 44 (fa 1 5),o 45 (ld 44),o 46 (.len false (T 45)),o 47 (mi 0)]
def i36:LO:=[o 48 (.bin .lss (T 47) (T 46))]
def i8o:LO:=[o 49 (.idxSl 16 (T 45) (T 47)),o 50 (ln 16 49),o 12 (.alloc [(aI 0),aE,(aI 0),(aI 0),(aI 0),aE,aE,(aB false),(aI 0),(aU 0),aE,.nil,.nil,.nil,.nil,.nil]),on (st 16 12 50)]
def j41:LO:=[o 51 (fa 2 12),o 52 (ld 51),o 53 (.bin .eql (T 52) (ci 1)),o 54 (mv 53),og 55 (fa 5 6) 54 true,og 56 (ld 55) 54 true,og 57 (.func (.func 170) [] [(T 12)]) 54 true,og 58 (.call (cf 169) [(T 56),(T 57)]) 54 true,og 59 (.un .not (T 58)) 54 true,o 60 (.pick (T 54) (T 59) (cb false))]
def h50:LO:=[o 8 (mi 14)]
def n3c:A0:=.seq (.region j41) (.cond (T 60) (.seq (.region h50) .ret) .skip)
def h7j:LO:=[o 61 (.bin .add (T 47) (ci 1)),o 47 (mv 61)]
def m6b:A0:=.seq (.block 4 (.seq (.region i8o) n3c)) (.region h7j)
def n2c:A0:=.seq (.region i36) (.seq (.cond (T 48) .skip (.exit 3)) m6b)
def i0o:LO:=[o 62 (fa 6 6),o 63 (ld 62),o 64 (.len false (T 63)),o 65 (mi 0)]
def j0i:LO:=[o 66 (.bin .lss (T 65) (T 64))]
def i6m:LO:=[o 67 (.idxSl 4 (T 63) (T 65)),o 68 (ln 4 67),o 14 (.alloc [(aI 0),(aI 0),(aU 0),aE]),on (st 4 14 68)]
def l6q:LO:=[o 69 (ln 3 4),o 70 (ln 5 5),o 71 (ln 4 14),o 72 (.call (cf 171) [(T 69),(T 70),(T 71)]),o 15 (mv 72)]
def j9b:LO:=[o 73 (mv 15),o 74 (.bin .neq (T 73) (ci 0))]
def i93:LO:=[o 75 (mv 15),o 8 (mv 75)]
def k30:A0:=.seq (.region j9b) (.cond (T 74) (.seq (.region i93) .ret) .skip)
def l42:A0:=.block 6 (.seq (.region i6m) (.seq (.region l6q) k30))
def j1e:LO:=[o 76 (.bin .add (T 65) (ci 1)),o 65 (mv 76)]
def j3i:A0:=.seq (.cond (T 66) .skip (.exit 5)) (.seq l42 (.region j1e))
def h6e:A0:=.seq (.region j0i) j3i
def j8k:LO:=[o 8 (mi 0)]
def l0i:A0:=.seq (.seq (.region i0o) (.block 5 (.loop h6e))) (.seq (.region j8k) .ret)
def i4w:A0:=.seq (.seq (.region k54) (.block 1 (.loop n4m))) (.seq (.seq (.region k6f) (.block 3 (.loop n2c))) l0i)
def e3u:A0:=.seq (.region m7z) (.seq (.block 0 m1p) i4w)
theorem o64:B0 Tryz.prog 94=some (77,e3u,[.tmp 8]):=by kernel_rfl
def i02:LO:=[o 2 (bx 0),o 3 (bx 1),o 4 (.alloc [aE,(aB false),.nil,.nil,.nil]),o 5 (mb false)]
def j4x:LO:=[o 6 (fa 1 2),o 7 (ld 6),o 8 (.func (.func 385) [] [(T 3)]),o 9 (.call (cf 384) [(T 7),(T 8)]),o 10 (.extract 0 (T 9)),o 11 (.extract 1 (T 9)),on (st 5 4 10),o 5 (mv 11)]
def e2s:A0:=.seq (.region i02) (.seq (.region j4x) .ret)
theorem n5j:B0 Tryz.prog 312=some (12,e2s,[.cell 4 (some 5),.tmp 5]):=by kernel_rfl
def h7s:LO:=[o 4 (.alloc [aE,(aB false),.nil,.nil,.nil]),o 5 (mb false)]
def i12:LO:=[o 9 (mv 0),o 10 (.len false (T 9)),o 11 (mi 0)]
def i1o:LO:=[o 12 (.bin .lss (T 11) (T 10))]
def j38:LO:=[o 13 (.idxSl 5 (T 9) (T 11)),o 14 (ln 5 13),o 7 (.alloc [aE,(aB false),.nil,.nil,.nil]),on (st 5 7 14)]
def l2b:LO:=[o 15 (mv 1),o 16 (ln 5 7),o 17 (.call (T 15) [(T 16)])]
def j5h:LO:=[o 18 (ln 5 7),on (st 5 4 18),o 5 (mb true)]
def k2u:A0:=.seq (.region l2b) (.cond (T 17) (.seq (.region j5h) .ret) .skip)
def g74:LO:=[o 19 (.bin .add (T 11) (ci 1)),o 11 (mv 19)]
def k1r:A0:=.seq (.block 1 (.seq (.region j38) k2u)) (.region g74)
def i19:A0:=.seq (.region i1o) (.seq (.cond (T 12) .skip (.exit 0)) k1r)
def g61:LO:=[o 8 (.alloc [aE,(aB false),.nil,.nil,.nil])]
def h1g:LO:=[o 20 (ln 5 8),on (st 5 4 20),o 5 (mb false)]
def i09:A0:=.seq (.seq (.region i12) (.block 0 (.loop i19))) (.seq (.region g61) (.seq (.region h1g) .ret))
def e6v:A0:=.seq (.region h7s) i09
theorem o12:B0 Tryz.prog 384=some (21,e6v,[.cell 4 (some 5),.tmp 5]):=by kernel_rfl
def j42:LO:=[o 3 (bx 1),o 4 (mb false)]
def l3l:LO:=[o 5 (mv 0),o 6 (.func (.func 243) [] [(T 3)]),o 7 (.call (cf 242) [(T 5),(T 6)]),o 4 (mv 7)]
def e43:A0:=.seq (.region j42) (.seq (.region l3l) .ret)
theorem n5o:B0 Tryz.prog 169=some (8,e43,[.tmp 4]):=by kernel_rfl
def h7q:LO:=[o 2 (bx 0),o 3 (mb false)]
def i05:LO:=[o 4 (ld 1),o 5 (fa 0 2),o 6 (ld 5),o 7 (.call (T 4) [(T 6)]),o 3 (mv 7)]
def e2q:A0:=.seq (.region h7q) (.seq (.region i05) .ret)
theorem m1r:B0 Tryz.prog 243=some (8,e2q,[.tmp 3]):=by kernel_rfl
def k66:LO:=[o 5 (bx 0),o 6 (bx 1),o 10 (mi 0)]
def k1p:LO:=[o 16 (ln 5 6),o 17 (mv 2),o 18 (mv 3),o 19 (.idxSl 8 (T 17) (T 18)),o 20 (fa 0 19),o 21 (ld 20),o 22 (.call (cf 98) [(T 16),(T 21)]),o 15 (mv 22),o 23 (.extract 0 (T 15)),o 24 (.extract 1 (T 15)),o 11 (.alloc [(aI 0),aE,(aI 0),(aI 0),(aI 0),aE,aE,(aB false),(aI 0),(aU 0),aE,.nil,.nil,.nil,.nil,.nil]),on (st 16 11 23)]
def h3k:LO:=[o 12 (mv 24)]
def f2l:LN:=[[],[],[],[1,2],[3],[4],[0,5],[6],[7],[7],[],[0,1,2,3,4,5,6,7,8,10]]
def l4s:LO:=[o 25 (mv 12),o 26 (.un .not (T 25))]
def i5h:LO:=[o 10 (mi 8)]
def k38:A0:=.seq (.region l4s) (.cond (T 26) (.seq (.region i5h) .ret) .skip)
def h9m:LO:=[o 27 (mv 2),o 28 (mv 3),o 29 (.sliceV 8 (T 27) none (some (T 28)) none),o 30 (.func (.func 238) [] [(T 11)]),o 31 (.call (cf 169) [(T 29),(T 30)])]
def f5m:LO:=[o 10 (mi 9)]
def k8t:A0:=.seq (.region h9m) (.cond (T 31) (.seq (.region f5m) .ret) .skip)
def h1z:LO:=[o 32 (ln 5 6),o 33 (fa 6 11),o 34 (ld 33),o 35 (.call (cf 239) [(T 32),(T 34)]),o 36 (.len false (T 35)),o 37 (mi 0)]
def h0m:LO:=[o 38 (.bin .lss (T 37) (T 36))]
def h0b:LO:=[o 39 (.idxSl 16 (T 35) (T 37)),o 40 (ln 16 39),o 14 (.alloc [(aI 0),aE,(aI 0),(aI 0),(aI 0),aE,aE,(aB false),(aI 0),(aU 0),aE,.nil,.nil,.nil,.nil,.nil]),on (st 16 14 40)]
def f0p:LO:=[o 41 (fa 0 14),o 42 (ld 41),o 43 (fa 0 11),o 44 (ld 43),o 45 (.bin .neq (T 42) (T 44)),o 46 (mv 45),og 47 (mv 2) 46 true,og 48 (mv 3) 46 true,og 49 (.sliceV 8 (T 47) none (some (T 48)) none) 46 true,og 50 (.func (.func 240) [] [(T 14)]) 46 true,og 51 (.call (cf 169) [(T 49),(T 50)]) 46 true,o 52 (.pick (T 46) (T 51) (cb false))]
def g6h:LO:=[o 10 (mi 15)]
def k5q:A0:=.seq (.region f0p) (.cond (T 52) (.seq (.region g6h) .ret) .skip)
def f20:LO:=[o 53 (.bin .add (T 37) (ci 1)),o 37 (mv 53)]
def h6c:A0:=.seq (.block 1 (.seq (.region h0b) k5q)) (.region f20)
def i81:A0:=.seq (.region h0m) (.seq (.cond (T 38) .skip (.exit 0)) h6c)
def g8e:LO:=[o 54 (ln 3 5),o 55 (ln 16 11),o 56 (mv 2),o 57 (mv 3),o 58 (.idxSl 8 (T 56) (T 57)),o 59 (fa 1 58),o 60 (ln 7 59),o 61 (mv 4)]
def d8y:LO:=[o 62 (.call (cf 241) [(T 54),(T 55),(T 60),(T 61)]),o 10 (mv 62)]
def d88:LN:=[[],[],[],[],[2,3],[4],[5],[]]
def i55:A0:=.seq (.seq (.region h1z) (.block 0 (.loop i81))) (.seq (.drawn d88 g8e d8y) .ret)
def k7l:A0:=.seq (.drawn f2l k1p h3k) (.seq k38 (.seq k8t i55))
def e02:A0:=.seq (.region k66) k7l
theorem m9k:B0 Tryz.prog 168=some (63,e02,[.tmp 10]):=by kernel_rfl
def i03:LO:=[o 4 (bx 0),o 5 (bx 1),o 6 (bx 2),o 8 (mi 0)]
def h4u:LO:=[o 12 (fa 2 5),o 13 (ld 12)]
def l5t:LO:=[o 15 (.bin .eql (T 13) (ci 4)),o 14 (mv 15)]
def l7d:LO:=[o 16 (fa 0 6),o 17 (ld 16),o 18 (.bin .neq (T 17) (ci 11)),o 19 (mv 18),og 20 (ln 7 6) 19 false,og 21 (.call (cf 167) [(T 20)]) 19 false,o 22 (.pick (T 19) (cb true) (T 21))]
def k2l:LO:=[o 8 (mi 12)]
def j4b:A0:=.seq (.region l7d) (.cond (T 22) (.seq (.region k2l) .ret) .skip)
def e9a:LO:=[o 23 (fa 3 6),o 24 (ld 23),o 25 (.len false (T 24)),o 26 (mi 0)]
def g71:LO:=[o 27 (.bin .lss (T 26) (T 25))]
def g9t:LO:=[o 28 (.idxSl 7 (T 24) (T 26)),o 29 (ln 7 28),o 10 (.alloc zV),on (st 7 10 29)]
def g3l:LO:=[o 30 (ln 3 4),o 31 (fa 4 5),o 32 (ln 2 31),o 33 (ln 7 10),o 34 (mv 3),o 35 (.call (cf 309) [(T 30),(T 32),(T 33),(T 34)]),o 11 (mv 35)]
def h11:LO:=[o 36 (mv 11),o 37 (.bin .neq (T 36) (ci 0))]
def g0o:LO:=[o 38 (mv 11),o 8 (mv 38)]
def j1j:A0:=.seq (.region h11) (.cond (T 37) (.seq (.region g0o) .ret) .skip)
def i1b:A0:=.block 2 (.seq (.region g9t) (.seq (.region g3l) j1j))
def h19:LO:=[o 39 (.bin .add (T 26) (ci 1)),o 26 (mv 39)]
def i94:A0:=.seq (.cond (T 27) .skip (.exit 1)) (.seq i1b (.region h19))
def k5o:A0:=.seq (.region g71) i94
def e92:LO:=[o 8 (mi 0)]
def h8m:A0:=.seq (.seq (.region e9a) (.block 1 (.loop k5o))) (.seq (.region e92) .ret)
def f8w:LO:=[o 41 (.bin .eql (T 13) (ci 5)),o 40 (mv 41)]
def g92:LO:=[o 42 (fa 0 6),o 43 (ld 42),o 44 (.bin .neq (T 43) (ci 12)),o 45 (mv 44),og 46 (ln 7 6) 45 false,og 47 (.call (cf 167) [(T 46)]) 45 false,o 48 (.pick (T 45) (cb true) (T 47))]
def f5b:LO:=[o 8 (mi 12)]
def j92:A0:=.seq (.region g92) (.cond (T 48) (.seq (.region f5b) .ret) .skip)
def f51:LO:=[o 49 (ln 3 4),o 50 (ln 16 5),o 51 (fa 4 6),o 52 (ld 51),o 53 (mv 3),o 54 (.call (cf 310) [(T 49),(T 50),(T 52),(T 53)]),o 8 (mv 54)]
def j2k:A0:=.cond (T 40) (.seq j92 (.seq (.region f51) .ret)) .skip
def h8c:A0:=.cond (T 14) (.seq j4b h8m) (.seq (.region f8w) j2k)
def e85:A0:=.seq (.region h4u) (.block 0 (.seq (.region l5t) h8c))
def h0w:LO:=[o 55 (ln 3 4),o 56 (fa 4 5),o 57 (ln 2 56),o 58 (ln 7 6),o 59 (mv 3),o 60 (.call (cf 309) [(T 55),(T 57),(T 58),(T 59)]),o 8 (mv 60)]
def d37:A0:=.seq (.region i03) (.seq e85 (.seq (.region h0w) .ret))
theorem n0z:B0 Tryz.prog 241=some (61,d37,[.tmp 8]):=by kernel_rfl
def j9s:LO:=[o 3 (bx 0),o 4 (bx 1),o 5 (bx 2),o 6 (mi 0)]
def k8n:LO:=[o 10 (fa 0 5),o 11 (ld 10),o 12 (fa 0 4),o 13 (ld 12),o 14 (.bin .neq (T 11) (T 13)),o 15 (mv 14),og 16 (ln 7 5) 15 false,og 17 (.call (cf 167) [(T 16)]) 15 false,o 18 (.pick (T 15) (cb true) (T 17)),o 9 (mv 18)]
def h9b:LO:=[o 6 (mi 12)]
def h41:LO:=[o 20 (fa 2 5),o 21 (ld 20),o 22 (.len true (T 21)),o 23 (.bin .gtr (T 22) (ci 4096)),o 19 (mv 23)]
def j8a:LO:=[o 6 (mi 3)]
def k63:LO:=[o 25 (fa 0 4),o 26 (ld 25),o 27 (.bin .eql (T 26) (ci 7)),o 28 (mv 27),og 29 (fa 2 5) 28 true,og 30 (ld 29) 28 true,og 31 (.call (cf 337) [(T 30)]) 28 true,og 32 (.un .not (T 31)) 28 true,o 33 (.pick (T 28) (T 32) (cb false)),o 24 (mv 33)]
def f1g:LO:=[o 6 (mi 7)]
def g8i:LO:=[o 35 (fa 0 4),o 36 (ld 35),o 37 (ln 7 5),o 38 (.call (cf 328) [(T 36),(T 37)]),o 39 (.un .not (T 38)),o 34 (mv 39)]
def g6a:LO:=[o 6 (mi 12)]
def k6z:A0:=.seq (.region g8i) (.cond (T 34) (.seq (.region g6a) .ret) .skip)
def k3l:A0:=.seq (.region k63) (.cond (T 24) (.seq (.region f1g) .ret) k6z)
def j9d:A0:=.seq (.region h41) (.cond (T 19) (.seq (.region j8a) .ret) k3l)
def k37:A0:=.seq (.region k8n) (.cond (T 9) (.seq (.region h9b) .ret) j9d)
def h2c:LO:=[o 41 (ln 3 3),o 42 (fa 1 4),o 43 (ld 42),o 44 (.call (cf 312) [(T 41),(T 43)]),o 40 (mv 44),o 45 (.extract 0 (T 40)),o 46 (.extract 1 (T 40)),o 7 (.alloc [aE,(aB false),.nil,.nil,.nil]),on (st 5 7 45),o 8 (mv 46)]
def g4v:LO:=[o 47 (fa 0 4),o 48 (ld 47),o 49 (.bin .eql (T 48) (ci 9)),o 50 (mv 49),og 51 (ln 5 7) 50 true,og 52 (fa 1 5) 50 true,og 53 (ld 52) 50 true,og 54 (.call (cf 313) [(T 51),(T 53)]) 50 true,og 55 (.un .not (T 54)) 50 true,o 56 (.pick (T 50) (T 55) (cb false))]
def f86:LO:=[o 6 (mi 16)]
def j00:A0:=.seq (.region g4v) (.cond (T 56) (.seq (.region f86) .ret) .skip)
def h20:LO:=[o 6 (mi 0)]
def j8i:A0:=.seq (.seq (.region h2c) j00) (.seq (.region h20) .ret)
def e7t:A0:=.seq (.region j9s) (.seq (.block 0 k37) j8i)
theorem m20:B0 Tryz.prog 381=some (57,e7t,[.tmp 6]):=by kernel_rfl
def l2c:LO:=[o 1 (bx 0),o 2 (mb false)]
def i67:LO:=[o 4 (fa 0 1),o 5 (ld 4),o 6 (.bin .eql (T 5) (ci 7)),o 7 (mv 6),og 8 (fa 0 1) 7 false,og 9 (ld 8) 7 false,og 10 (.bin .eql (T 9) (ci 8)) 7 false,o 11 (.pick (T 7) (cb true) (T 10)),o 3 (mv 11)]
def j0d:LO:=[o 12 (fa 0 1),o 13 (ld 12),o 14 (.bin .neq (T 13) (ci 11)),o 15 (mv 14),og 16 (fa 3 1) 15 true,og 17 (ld 16) 15 true,og 18 (.len false (T 17)) 15 true,og 19 (.bin .gtr (T 18) (ci 0)) 15 true,o 20 (.pick (T 15) (T 19) (cb false)),o 21 (mv 20),og 22 (fa 0 1) 21 false,og 23 (ld 22) 21 false,og 24 (.bin .neq (T 23) (ci 12)) 21 false,og 25 (mv 24) 21 false,og 26 (fa 4 1) 25 true,og 27 (ld 26) 25 true,og 28 (.len false (T 27)) 25 true,og 29 (.bin .gtr (T 28) (ci 0)) 25 true,og 30 (.pick (T 25) (T 29) (cb false)) 21 false,o 31 (.pick (T 21) (cb true) (T 30)),o 32 (mv 31),og 33 (fa 0 1) 32 false,og 34 (ld 33) 32 false,og 35 (.bin .neq (T 34) (ci 10)) 32 false,og 36 (mv 35) 32 false,og 37 (fa 5 1) 36 true,og 38 (ld 37) 36 true,og 39 (.len false (T 38)) 36 true,og 40 (fa 6 1) 36 true,og 41 (ld 40) 36 true,og 42 (.len false (T 41)) 36 true,og 43 (.bin .add (T 39) (T 42)) 36 true,og 44 (.bin .gtr (T 43) (ci 0)) 36 true,og 45 (.pick (T 36) (T 44) (cb false)) 32 false,o 46 (.pick (T 32) (cb true) (T 45)),o 47 (mv 46),og 48 (fa 1 1) 47 false,og 49 (ld 48) 47 false,og 50 (.bin .neq (T 49) (.c (aU 0))) 47 false,og 51 (mv 50) 47 false,og 52 (mv 3) 51 true,og 53 (mv 52) 51 true,og 54 (fa 0 1) 53 false,og 55 (ld 54) 53 false,og 56 (.bin .geq (T 55) (ci 10)) 53 false,og 57 (mv 56) 53 false,og 58 (fa 0 1) 57 true,og 59 (ld 58) 57 true,og 60 (.bin .leq (T 59) (ci 12)) 57 true,og 61 (.pick (T 57) (T 60) (cb false)) 53 false,og 62 (.pick (T 53) (cb true) (T 61)) 51 true,og 63 (.pick (T 51) (T 62) (cb false)) 47 false,o 64 (.pick (T 47) (cb true) (T 63)),o 65 (mv 64),og 66 (fa 2 1) 65 false,og 67 (ld 66) 65 false,og 68 (.bin .neq (T 67) (.c aE)) 65 false,og 69 (mv 68) 65 false,og 70 (mv 3) 69 true,og 71 (.un .not (T 70)) 69 true,og 72 (.pick (T 69) (T 71) (cb false)) 65 false,o 73 (.pick (T 65) (cb true) (T 72)),o 2 (mv 73)]
def e7h:A0:=.seq (.region l2c) (.seq (.region i67) (.seq (.region j0d) .ret))
theorem n01:B0 Tryz.prog 167=some (74,e7h,[.tmp 2]):=by kernel_rfl
def h86:LO:=[o 4 (bx 0),o 5 (bx 1),o 6 (bx 2),o 8 (mi 0)]
def i3t:LO:=[o 11 (fa 0 5),o 12 (ld 11),o 13 (.bin .eql (T 12) (ci 10))]
def l8g:LO:=[o 15 (ln 3 4),o 16 (fa 1 5),o 17 (ld 16),o 18 (.call (cf 93) [(T 15),(T 17)]),o 14 (mv 18),o 19 (.extract 0 (T 14)),o 20 (.extract 1 (T 14)),o 9 (.alloc [aE,.nil,.nil,.nil,.nil]),on (st 5 9 19),o 10 (mv 20)]
def i5q:LO:=[o 21 (ln 3 4),o 22 (ln 5 9),o 23 (ln 7 6),o 24 (mv 3),o 25 (.bin .add (T 24) (ci 1)),o 26 (.call (cf 94) [(T 21),(T 22),(T 23),(T 25)]),o 8 (mv 26)]
def j4g:A0:=.cond (T 13) (.seq (.region l8g) (.seq (.region i5q) .ret)) .skip
def g3b:LO:=[o 27 (ln 3 4),o 28 (ln 2 5),o 29 (ln 7 6),o 30 (.call (cf 381) [(T 27),(T 28),(T 29)]),o 8 (mv 30)]
def l8x:A0:=.seq (.seq (.region i3t) j4g) (.seq (.region g3b) .ret)
def e3f:A0:=.seq (.region h86) l8x
theorem n6a:B0 Tryz.prog 309=some (31,e3f,[.tmp 8]):=by kernel_rfl
def l6p:LO:=[o 2 (bx 0),o 3 (bx 1),o 4 (.mv (.c .nil))]
def i8p:LO:=[o 5 (ld 3),o 6 (.bin .eql (T 5) (.c aE))]
def j85:LO:=[o 4 (.mv (.c .nil))]
def j3j:A0:=.seq (.region i8p) (.cond (T 6) (.seq (.region j85) .ret) .skip)
def l8y:LO:=[o 7 (fa 1 2),o 8 (ld 7),o 9 (.call (cf 307) [(T 8)]),o 10 (.func (.func 308) [] [(T 3)]),o 11 (.call (cf 306) [(T 9),(T 10)]),o 4 (mv 11)]
def e1s:A0:=.seq (.region l6p) (.seq j3j (.seq (.region l8y) .ret))
theorem n32:B0 Tryz.prog 239=some (12,e1s,[.tmp 4]):=by kernel_rfl
def h5m:LO:=[o 3 (mb false)]
def l7e:LO:=[o 4 (mv 0),o 5 (fa 0 1),o 6 (ld 5),o 7 (.bin .eql (T 4) (T 6)),o 3 (mv 7)]
def e3k:A0:=.seq (.region h5m) (.seq (.region l7e) .ret)
theorem m5k:B0 Tryz.prog 238=some (8,e3k,[.tmp 3]):=by kernel_rfl
def n5l:LO:=[o 4 (.mv (.c aE))]
def n2n:LO:=[o 5 (mv 0),o 6 (.bin .add (T 5) (.c (aS ⟨#[47]⟩))),o 7 (mv 1),o 8 (.bin .add (T 6) (T 7)),o 4 (mv 8)]
def j45:A0:=.seq (.region n5l) (.seq (.region n2n) .ret)
theorem o5d:B0 Tryz.prog 35=some (9,j45,[.tmp 4]):=by kernel_rfl
def n4d:LO:=[o 1 (bx 0),o 2 (.alloc [.nil,.nil,.nil,.nil,.nil]),o 3 (mb false)]
def m8k:LO:=[o 7 (ln 3 1),o 8 (.call (cf 48) [(T 7)]),o 6 (mv 8),o 9 (.extract 0 (T 6)),o 10 (.extract 1 (T 6)),o 4 (.alloc [.nil,.nil]),on (st 2 4 9),o 5 (mv 10)]
def n4v:LO:=[o 11 (ln 3 1),o 12 (ln 2 4),o 13 (.build [.nil,.nil,.nil,.nil,.nil] [((0,3),(T 11)),((3,2),(T 12))]),o 14 (mv 5),o 15 (.bin .eql (T 14) (ci 0)),on (st 5 2 13),o 3 (mv 15)]
def j0e:A0:=.seq (.region n4d) (.seq (.region m8k) (.seq (.region n4v) .ret))
theorem o5e:B0 Tryz.prog 34=some (16,j0e,[.cell 2 (some 5),.tmp 3]):=by kernel_rfl
def n3g:LO:=[o 2 (bx 0),o 3 (bx 1),o 4 (mi 0)]
def n8n:LO:=[o 13 (fa 1 3),o 14 (ld 13),o 15 (.call (cf 52) [(T 14)]),o 12 (mv 15),o 16 (.extract 0 (T 12)),o 17 (.extract 1 (T 12)),o 5 (mv 16),o 6 (mv 17)]
def n06:LO:=[o 18 (mv 6),o 19 (.un .not (T 18)),o 20 (mv 19),og 21 (.sliceLit 1 5 [aE,aE,aE,aE,aE] [((0,1),(.c (aS ⟨#[71,69,84]⟩))),((1,1),(.c (aS ⟨#[80,85,84]⟩))),((2,1),(.c (aS ⟨#[80,79,83,84]⟩))),((3,1),(.c (aS ⟨#[80,65,84,67,72]⟩))),((4,1),(.c (aS ⟨#[68,69,76,69,84,69]⟩)))]) 20 false,og 22 (fa 0 3) 20 false,og 23 (ld 22) 20 false,og 24 (.call (cf 53) [(T 21),(T 23)]) 20 false,og 25 (.un .not (T 24)) 20 false,o 26 (.pick (T 20) (cb true) (T 25))]
def m88:LO:=[o 4 (mi 2)]
def n2x:A0:=.seq (.region n06) (.cond (T 26) (.seq (.region m88) .ret) .skip)
def k8q:LO:=[o 28 (ln 3 2),o 29 (fa 2 3),o 30 (ld 29),o 31 (fa 3 3),o 32 (ld 31),o 33 (.call (cf 35) [(T 30),(T 32)]),o 34 (.call (cf 36) [(T 28),(T 33)]),o 27 (mv 34),o 35 (.extract 0 (T 27)),o 36 (.extract 1 (T 27)),o 7 (.alloc [aE,aE,aE,(aI 0),.nil]),on (st 5 7 35)]
def g4e:LO:=[o 8 (mv 36)]
def f87:LN:=[[],[],[1],[],[3],[2,4],[0,5],[6],[7],[7],[],[0,1,2,3,4,5,6,7,8,10]]
def h6p:LO:=[o 37 (mv 8),o 38 (.bin .neq (T 37) (ci 0))]
def l3q:LO:=[o 39 (mv 8),o 4 (mv 39)]
def n8m:A0:=.seq (.region h6p) (.cond (T 38) (.seq (.region l3q) .ret) .skip)
def i44:LO:=[o 40 (fa 3 7),o 41 (ld 40),o 42 (.bin .neq (T 41) (ci 1))]
def i5d:LO:=[o 4 (mi 12)]
def m5j:A0:=.seq (.region i44) (.cond (T 42) (.seq (.region i5d) .ret) .skip)
def i2i:LO:=[o 44 (ln 3 2),o 45 (fa 1 7),o 46 (ld 45),o 47 (ln 5 3),o 48 (.call (cf 54) [(T 44),(T 46),(T 47)]),o 43 (mv 48),o 49 (.extract 0 (T 43)),o 50 (.extract 1 (T 43)),o 9 (mv 49),o 8 (mv 50)]
def i8e:LO:=[o 51 (mv 8),o 52 (.bin .neq (T 51) (ci 0))]
def i9i:LO:=[o 53 (mv 8),o 4 (mv 53)]
def n05:A0:=.seq (.region i8e) (.cond (T 52) (.seq (.region i9i) .ret) .skip)
def k76:LO:=[o 55 (ln 3 2),o 56 (fa 1 7),o 57 (ld 56),o 58 (ln 5 3),o 59 (.call (cf 55) [(T 55),(T 57),(T 58)]),o 54 (mv 59),o 60 (.extract 0 (T 54)),o 61 (.extract 1 (T 54)),o 10 (.alloc [(aI 0),aE,(aI 0),(aI 0),(aI 0),aE,aE,(aB false),(aI 0),(aU 0),aE,.nil,.nil,.nil,.nil,.nil]),on (st 16 10 60),o 11 (mv 61)]
def j4o:LO:=[o 62 (mv 11),o 63 (.un .not (T 62)),o 64 (mv 63),og 65 (fa 4 3) 64 true,og 66 (ld 65) 64 true,og 67 (.bin .neq (T 66) (.c aE)) 64 true,o 68 (.pick (T 64) (T 67) (cb false)),o 69 (mv 68),og 70 (fa 4 3) 69 true,og 71 (ld 70) 69 true,og 72 (.bin .neq (T 71) (.c (aS ⟨#[42]⟩))) 69 true,o 73 (.pick (T 69) (T 72) (cb false))]
def i4v:LO:=[o 4 (mi 8)]
def m0m:A0:=.seq (.region j4o) (.cond (T 73) (.seq (.region i4v) .ret) .skip)
def l1e:LO:=[o 74 (mv 11),o 75 (mv 74),og 76 (mv 9) 75 true,og 77 (.func (.func 57) [] [(T 10)]) 75 true,og 78 (.call (cf 56) [(T 76),(T 77)]) 75 true,o 79 (.pick (T 75) (T 78) (cb false))]
def k2s:LO:=[o 4 (mi 9)]
def n4w:A0:=.seq (.region l1e) (.cond (T 79) (.seq (.region k2s) .ret) .skip)
def i6f:LO:=[o 4 (mi 0)]
def m9n:A0:=.seq (.region k76) (.seq m0m (.seq n4w (.seq (.region i6f) .ret)))
def m3e:A0:=.seq n8m (.seq m5j (.seq (.region i2i) (.seq n05 m9n)))
def n4l:A0:=.seq (.seq (.region n8n) n2x) (.seq (.drawn f87 k8q g4e) m3e)
def e17:A0:=.seq (.region n3g) n4l
theorem o50:B0 Tryz.prog 23=some (80,e17,[.tmp 4]):=by kernel_rfl
def n33:LO:=[o 4 (mb false)]
def m7y:LO:=[o 5 (mv 0),o 6 (mv 1),o 7 (.call (cf 123) [(T 5),(T 6)]),o 8 (.bin .geq (T 7) (ci 0)),o 4 (mv 8)]
def k68:A0:=.seq (.region n33) (.seq (.region m7y) .ret)
theorem o68:B0 Tryz.prog 56=some (9,k68,[.tmp 4]):=by kernel_rfl
def k8g:LO:=[o 4 (mi 0)]
def j80:LO:=[o 6 (mv 0),o 7 (.len false (T 6)),o 8 (mi 0)]
def l5x:LO:=[o 9 (.bin .lss (T 8) (T 7))]
def k9i:LO:=[o 10 (mv 8),o 5 (mv 10)]
def k2k:LO:=[o 11 (mv 1),o 12 (mv 0),o 13 (mv 5),o 14 (.idxSl 1 (T 12) (T 13)),o 15 (ld 14),o 16 (.call (T 11) [(T 15)])]
def i6r:LO:=[o 17 (mv 5),o 4 (mv 17)]
def h59:A0:=.seq (.region k2k) (.cond (T 16) (.seq (.region i6r) .ret) .skip)
def g2s:LO:=[o 18 (.bin .add (T 8) (ci 1)),o 8 (mv 18)]
def l00:A0:=.seq (.block 1 (.seq (.region k9i) h59)) (.region g2s)
def i9a:A0:=.seq (.region l5x) (.seq (.cond (T 9) .skip (.exit 0)) l00)
def f6v:LO:=[o 4 (mi (-1))]
def k5k:A0:=.seq (.seq (.region j80) (.block 0 (.loop i9a))) (.seq (.region f6v) .ret)
def e1i:A0:=.seq (.region k8g) k5k
theorem m2x:B0 Tryz.prog 123=some (19,e1i,[.tmp 4]):=by kernel_rfl
def m6i:LO:=[o 3 (bx 0),o 5 (bx 2),o 6 (.mv (.c .nil)),o 7 (mi 0)]
def n07:LO:=[o 8 (.mv (.c .nil))]
def n6o:LO:=[o 15 (fa 1 5),o 16 (ld 15),o 17 (.call (cf 118) [(T 16)]),o 18 (.len false (T 17)),o 19 (mi 0)]
def n4g:LO:=[o 20 (.bin .lss (T 19) (T 18))]
def m4z:LO:=[o 21 (.idxSl 1 (T 17) (T 19)),o 22 (ld 21),o 10 (mv 22)]
def n7z:LO:=[o 24 (ln 3 3),o 25 (mv 1),o 26 (mv 10),o 27 (.call (cf 86) [(T 24),(T 25),(T 26)]),o 23 (mv 27),o 28 (.extract 0 (T 23)),o 29 (.extract 1 (T 23)),o 11 (mv 28),o 12 (mv 29)]
def n0l:LO:=[o 30 (mv 12),o 31 (.bin .neq (T 30) (ci 0))]
def l54:LO:=[o 32 (mv 12),o 6 (.mv (.c .nil)),o 7 (mv 32)]
def m58:A0:=.seq (.region n0l) (.cond (T 31) (.seq (.region l54) .ret) .skip)
def j9o:LO:=[o 33 (mv 11),o 34 (mv 11),o 35 (.len false (T 34)),o 36 (.bin .sub (T 35) (ci 1)),o 37 (.idxSl 16 (T 33) (T 36)),o 38 (ln 16 37),o 13 (.alloc [(aI 0),aE,(aI 0),(aI 0),(aI 0),aE,aE,(aB false),(aI 0),(aU 0),aE,.nil,.nil,.nil,.nil,.nil]),on (st 16 13 38)]
def i7d:LO:=[o 39 (ln 16 13),o 40 (.call (cf 119) [(T 39)]),o 41 (.un .not (T 40)),o 42 (mv 41),og 43 (ln 16 13) 42 false,og 44 (.call (cf 91) [(T 43)]) 42 false,og 45 (.un .not (T 44)) 42 false,o 46 (.pick (T 42) (cb true) (T 45)),o 47 (mv 46),og 48 (fa 4 5) 47 false,og 49 (ld 48) 47 false,og 50 (.bin .eql (T 49) (.c (aS ⟨#[42]⟩))) 47 false,og 51 (mv 50) 47 false,og 52 (fa 2 13) 51 true,og 53 (ld 52) 51 true,og 54 (.bin .eql (T 53) (ci 1)) 51 true,og 55 (.pick (T 51) (T 54) (cb false)) 47 false,o 56 (.pick (T 47) (cb true) (T 55))]
def h8j:LO:=[o 6 (.mv (.c .nil)),o 7 (mi 12)]
def m3n:A0:=.seq (.region i7d) (.cond (T 56) (.seq (.region h8j) .ret) .skip)
def i79:LO:=[o 57 (mv 11),o 58 (.call (cf 87) [(T 57)]),o 14 (.alloc [.nil]),on (st 1 14 58)]
def h85:LO:=[o 59 (mv 8),o 60 (.func (.func 120) [] [(T 14)]),o 61 (.call (cf 56) [(T 59),(T 60)])]
def i21:LO:=[o 6 (.mv (.c .nil)),o 7 (mi 9)]
def m66:A0:=.seq (.region h85) (.cond (T 61) (.seq (.region i21) .ret) .skip)
def k43:LO:=[o 62 (mv 8),o 63 (ld 14),o 64 (.sliceLit 1 1 [.nil] [((0,1),(T 63))]),o 65 (.append 146 1 24 (T 62) (T 64)),o 8 (mv 65)]
def m53:A0:=.seq m3n (.seq (.region i79) (.seq m66 (.region k43)))
def n63:A0:=.seq (.region n7z) (.seq m58 (.seq (.region j9o) m53))
def l47:LO:=[o 66 (.bin .add (T 19) (ci 1)),o 19 (mv 66)]
def n2z:A0:=.seq (.block 1 (.seq (.region m4z) n63)) (.region l47)
def n2p:A0:=.seq (.region n4g) (.seq (.cond (T 20) .skip (.exit 0)) n2z)
def l3y:LO:=[o 67 (mv 8),o 6 (mv 67),o 7 (mi 0)]
def o11:A0:=.seq (.seq (.region n6o) (.block 0 (.loop n2p))) (.seq (.region l3y) .ret)
def i7m:A0:=.seq (.region m6i) (.seq (.region n07) o11)
theorem o53:B0 Tryz.prog 54=some (68,i7m,[.tmp 6,.tmp 7]):=by kernel_rfl
def l7m:LO:=[o 1 (bx 0),o 2 (mb false)]
def l0y:LO:=[o 3 (fa 2 1),o 4 (ld 3),o 5 (.bin .geq (T 4) (ci 1)),o 6 (mv 5),og 7 (fa 2 1) 6 true,og 8 (ld 7) 6 true,og 9 (.bin .leq (T 8) (ci 3)) 6 true,o 10 (.pick (T 6) (T 9) (cb false)),o 2 (mv 10)]
def e1u:A0:=.seq (.region l7m) (.seq (.region l0y) .ret)
theorem n3o:B0 Tryz.prog 119=some (11,e1u,[.tmp 2]):=by kernel_rfl
def j2n:LO:=[o 2 (.mv (.c .nil))]
def j0o:LO:=[o 11 (mv 0),o 12 (.call (cf 52) [(T 11)]),o 10 (mv 12),o 13 (.extract 0 (T 10)),o 14 (.extract 1 (T 10)),o 3 (mv 13),o 4 (mv 14)]
def i08:LO:=[o 5 (.mv (.c .nil))]
def i4o:LO:=[o 15 (mv 3),o 16 (.len false (T 15)),o 17 (mi 0)]
def l79:LO:=[o 18 (.bin .lss (T 17) (T 16))]
def l1t:LO:=[o 19 (.idxSl 1 (T 15) (T 17)),o 20 (ld 19),o 7 (mv 20)]
def k7m:LO:=[o 22 (mv 7),o 23 (.call (cf 67) [(T 22)]),o 21 (mv 23),o 24 (.extract 0 (T 21)),o 25 (.extract 1 (T 21)),o 8 (mv 24),o 9 (mv 25)]
def g1l:LO:=[o 26 (mv 9)]
def g3a:LO:=[o 27 (mv 5),o 28 (mv 8),o 29 (.sliceLit 1 1 [aE] [((0,1),(T 28))]),o 30 (.append 9 1 16 (T 27) (T 29)),o 5 (mv 30)]
def i37:A0:=.seq (.region g1l) (.cond (T 26) (.region g3a) .skip)
def l6a:A0:=.block 1 (.seq (.region l1t) (.seq (.region k7m) i37))
def g40:LO:=[o 31 (.bin .add (T 17) (ci 1)),o 17 (mv 31)]
def k5f:A0:=.seq (.cond (T 18) .skip (.exit 0)) (.seq l6a (.region g40))
def k94:A0:=.seq (.region l79) k5f
def f3u:LO:=[o 32 (mv 5),o 2 (mv 32)]
def l5l:A0:=.seq (.seq (.region i4o) (.block 0 (.loop k94))) (.seq (.region f3u) .ret)
def e2z:A0:=.seq (.region j2n) (.seq (.region j0o) (.seq (.region i08) l5l))
theorem n1i:B0 Tryz.prog 118=some (33,e2z,[.tmp 2]):=by kernel_rfl
def m23:LO:=[o 1 (bx 0),o 2 (mb false)]
def m5s:LO:=[o 3 (fa 4 1),o 4 (fa 0 3),o 5 (ld 4),o 6 (.call (cf 164) [(T 5)]),o 7 (mv 6),og 8 (fa 4 1) 7 true,og 9 (fa 0 8) 7 true,og 10 (ld 9) 7 true,og 11 (.bin .neq (T 10) (ci 6)) 7 true,o 12 (.pick (T 7) (T 11) (cb false)),o 2 (mv 12)]
def h7d:A0:=.seq (.region m23) (.seq (.region m5s) .ret)
theorem o6s:B0 Tryz.prog 91=some (13,h7d,[.tmp 2]):=by kernel_rfl
def m5y:LO:=[o 3 (bx 0),o 5 (bx 2),o 6 (.mv (.c aE)),o 7 (.alloc zV),o 8 (mi 0)]
def n0c:LO:=[o 22 (mv 1),o 23 (fa 0 5),o 24 (ld 23),o 25 (fa 1 5),o 26 (ld 25),o 27 (.call (cf 11) [(T 22),(T 24),(T 26)]),o 21 (mv 27),o 28 (.extract 0 (T 21)),o 29 (.extract 1 (T 21)),o 30 (.extract 2 (T 21)),o 9 (mv 28),o 10 (mv 29),o 11 (mv 30)]
def m9u:LO:=[o 31 (mv 11),o 32 (.bin .neq (T 31) (ci 0))]
def m37:LO:=[o 33 (.build zV []),o 34 (mv 11),o 6 (.mv (.c aE)),on (st 7 7 33),o 8 (mv 34)]
def n6b:A0:=.seq (.region m9u) (.cond (T 32) (.seq (.region m37) .ret) .skip)
def n5n:LO:=[o 36 (ln 3 3),o 37 (.call (cf 34) [(T 36)]),o 35 (mv 37),o 38 (.extract 0 (T 35)),o 39 (.extract 1 (T 35)),o 12 (.alloc [.nil,.nil,.nil,.nil,.nil]),on (st 5 12 38),o 13 (mv 39)]
def j8c:LO:=[o 40 (mv 1),o 41 (mv 9),o 42 (.idxSl 5 (T 40) (T 41)),o 43 (fa 2 42),o 44 (ld 43),o 45 (mv 1),o 46 (mv 9),o 47 (.idxSl 5 (T 45) (T 46)),o 48 (fa 3 47),o 49 (ld 48)]
def f8n:LO:=[o 50 (.call (cf 35) [(T 44),(T 49)]),o 14 (mv 50)]
def f43:LN:=[[],[],[0,1],[2],[3],[],[],[5,6],[7],[8]]
def l2s:LO:=[o 52 (ln 3 3),o 53 (mv 14),o 54 (.call (cf 36) [(T 52),(T 53)]),o 51 (mv 54),o 55 (.extract 0 (T 51)),o 56 (.extract 1 (T 51)),o 15 (.alloc [aE,aE,aE,(aI 0),.nil]),on (st 5 15 55),o 11 (mv 56)]
def k3y:LO:=[o 57 (mv 13),o 58 (.un .not (T 57)),o 59 (mv 58),og 60 (ln 3 3) 59 false,og 61 (mv 1) 59 false,og 62 (mv 9) 59 false,og 63 (.idxSl 5 (T 61) (T 62)) 59 false,og 64 (ln 5 63) 59 false]
def f1k:LO:=[og 65 (.call (cf 23) [(T 60),(T 64)]) 59 false,og 66 (.bin .neq (T 65) (ci 0)) 59 false,o 67 (.pick (T 59) (cb true) (T 66))]
def f7n:LN:=[[],[0],[1],[2],[2],[2],[2,4,5],[2,6]]
def j62:LO:=[o 68 (.build zV []),o 6 (.mv (.c aE)),on (st 7 7 68),o 8 (mi 1)]
def n23:A0:=.seq (.drawn f7n k3y f1k) (.cond (T 67) (.seq (.region j62) .ret) .skip)
def i11:LO:=[o 70 (ln 5 12),o 71 (fa 1 15),o 72 (ld 71),o 73 (mv 1),o 74 (mv 9),o 75 (.idxSl 5 (T 73) (T 74)),o 76 (ln 5 75),o 77 (ln 4 5),o 78 (.call (cf 37) [(T 70),(T 72),(T 76),(T 77)]),o 69 (mv 78),o 79 (.extract 0 (T 69)),o 80 (.extract 1 (T 69)),o 16 (.alloc zV),on (st 7 16 79)]
def f5s:LO:=[o 11 (mv 80)]
def g7b:LN:=[[],[],[1],[],[],[3,4],[5],[],[0,2,6,7],[8],[9],[9],[],[0,1,2,3,4,5,6,7,8,9,10,12]]
def j3n:LO:=[o 81 (mv 10),o 82 (.len false (T 81)),o 83 (mi 0)]
def i3a:LO:=[o 84 (.bin .lss (T 83) (T 82))]
def h4e:LO:=[o 85 (.idxSl 2 (T 81) (T 83)),o 86 (ln 2 85),o 18 (.alloc [aE,aE]),on (st 2 18 86)]
def l50:LO:=[o 87 (mv 11),o 88 (.bin .eql (T 87) (ci 0))]
def k4n:LO:=[o 90 (ln 5 12),o 91 (fa 1 15),o 92 (ld 91),o 93 (ln 7 16),o 94 (ln 2 18),o 95 (.call (cf 38) [(T 90),(T 92),(T 93),(T 94)]),o 89 (mv 95),o 96 (.extract 0 (T 89)),o 97 (.extract 1 (T 89)),on (st 7 16 96),o 11 (mv 97)]
def n0k:A0:=.seq (.region h4e) (.seq (.region l50) (.cond (T 88) (.region k4n) .skip))
def i2y:LO:=[o 98 (.bin .add (T 83) (ci 1)),o 83 (mv 98)]
def n4x:A0:=.seq (.cond (T 84) .skip (.exit 0)) (.seq (.block 1 n0k) (.region i2y))
def m3w:A0:=.seq (.region i3a) n4x
def k8h:LO:=[o 99 (fa 2 5),o 100 (ld 99),o 101 (.len false (T 100)),o 102 (mi 0)]
def j9n:LO:=[o 103 (.bin .lss (T 102) (T 101))]
def h4i:LO:=[o 104 (.idxSl 2 (T 100) (T 102)),o 105 (ln 2 104),o 20 (.alloc [aE,aE]),on (st 2 20 105)]
def l3m:LO:=[o 106 (mv 11),o 107 (.bin .eql (T 106) (ci 0))]
def l4r:LO:=[o 109 (ln 5 12),o 110 (fa 1 15),o 111 (ld 110),o 112 (mv 1),o 113 (mv 9),o 114 (.idxSl 5 (T 112) (T 113)),o 115 (ln 5 114),o 116 (ln 7 16),o 117 (ln 2 20),o 118 (.call (cf 39) [(T 109),(T 111),(T 115),(T 116),(T 117)]),o 108 (mv 118),o 119 (.extract 0 (T 108)),o 120 (.extract 1 (T 108)),on (st 7 16 119)]
def g9h:LO:=[o 11 (mv 120)]
def f4y:LN:=[[],[],[1],[],[],[3,4],[5],[],[],[0,2,6,7,8],[9],[10],[10],[0,1,2,3,4,5,6,7,8,9,10,11]]
def m1o:A0:=.seq (.region l3m) (.cond (T 107) (.drawn f4y l4r g9h) .skip)
def l40:LO:=[o 121 (.bin .add (T 102) (ci 1)),o 102 (mv 121)]
def n8d:A0:=.seq (.block 3 (.seq (.region h4i) m1o)) (.region l40)
def n93:A0:=.seq (.region j9n) (.seq (.cond (T 103) .skip (.exit 2)) n8d)
def j9g:LO:=[o 122 (mv 11),o 123 (.bin .eql (T 122) (ci 0))]
def l0g:LO:=[o 124 (ln 3 3),o 125 (fa 1 15),o 126 (ld 125),o 127 (ln 7 16),o 128 (.call (cf 40) [(T 124),(T 126),(T 127)]),o 11 (mv 128)]
def h5y:LO:=[o 129 (mv 11),o 130 (.bin .neq (T 129) (ci 0))]
def l5h:LO:=[o 131 (.build zV []),o 132 (mv 11),o 6 (.mv (.c aE)),on (st 7 7 131),o 8 (mv 132)]
def m13:A0:=.seq (.region h5y) (.cond (T 130) (.seq (.region l5h) .ret) .skip)
def h5b:LO:=[o 133 (mv 14),o 134 (ln 3 3),o 135 (fa 1 15),o 136 (ld 135),o 137 (ln 7 16),o 138 (.call (cf 41) [(T 134),(T 136),(T 137)]),o 6 (mv 133),on (st 7 7 138),o 8 (mi 0)]
def k1d:A0:=.seq (.seq (.region j9g) (.cond (T 123) (.region l0g) .skip)) (.seq m13 (.seq (.region h5b) .ret))
def k52:A0:=.seq (.seq (.region j3n) (.block 0 (.loop m3w))) (.seq (.seq (.region k8h) (.block 2 (.loop n93))) k1d)
def i9c:A0:=.seq (.region l2s) (.seq n23 (.seq (.drawn g7b i11 f5s) k52))
def k6h:A0:=.seq (.region n5n) (.seq (.drawn f43 j8c f8n) i9c)
def e1t:A0:=.seq (.region m5y) (.seq (.region n0c) (.seq n6b k6h))
theorem o4k:B0 Tryz.prog 17=some (139,e1t,[.tmp 6,.cell 7 (some 7),.tmp 8]):=by kernel_rfl
def m7b:LO:=[o 5 (bx 0),o 7 (bx 2),o 8 (bx 3),o 9 (bx 4),o 10 (.alloc zV),o 11 (mi 0)]
def m55:LO:=[o 22 (fa 0 5),o 23 (ln 3 22),o 24 (mv 1),o 25 (fa 0 9),o 26 (ld 25),o 27 (.call (cf 86) [(T 23),(T 24),(T 26)]),o 21 (mv 27),o 28 (.extract 0 (T 21)),o 29 (.extract 1 (T 21)),o 12 (mv 28),o 13 (mv 29)]
def o1i:LO:=[o 30 (mv 13),o 31 (.bin .neq (T 30) (ci 0))]
def o1n:LO:=[o 32 (ln 7 8),o 33 (mv 13),on (st 7 10 32),o 11 (mv 33)]
def m3j:A0:=.seq (.region o1i) (.cond (T 31) (.seq (.region o1n) .ret) .skip)
def n38:LO:=[o 34 (mv 12),o 35 (mv 12),o 36 (.len false (T 35)),o 37 (.bin .sub (T 36) (ci 1)),o 38 (.idxSl 16 (T 34) (T 37)),o 39 (ln 16 38),o 14 (.alloc [(aI 0),aE,(aI 0),(aI 0),(aI 0),aE,aE,(aB false),(aI 0),(aU 0),aE,.nil,.nil,.nil,.nil,.nil]),on (st 16 14 39)]
def k5v:LO:=[o 41 (fa 0 5),o 42 (ln 3 41),o 43 (mv 1),o 44 (ln 5 7),o 45 (.call (cf 55) [(T 42),(T 43),(T 44)]),o 40 (mv 45),o 46 (.extract 0 (T 40)),o 47 (.extract 1 (T 40)),o 15 (.alloc [(aI 0),aE,(aI 0),(aI 0),(aI 0),aE,aE,(aB false),(aI 0),(aU 0),aE,.nil,.nil,.nil,.nil,.nil]),on (st 16 15 46),o 16 (mv 47)]
def i5c:LO:=[o 48 (mv 16),o 49 (mv 48),og 50 (fa 0 15) 49 true,og 51 (ld 50) 49 true,og 52 (mv 12) 49 true,og 53 (.idxSl 16 (T 52) (ci 0)) 49 true,og 54 (fa 0 53) 49 true,og 55 (ld 54) 49 true]
def g99:LO:=[og 56 (.bin .eql (T 51) (T 55)) 49 true,o 57 (.pick (T 49) (T 56) (cb false))]
def g5v:LN:=[[],[0],[1],[1,2],[1],[1,4],[1,5],[1,6]]
def k1g:LO:=[o 58 (ln 7 8),on (st 7 10 58),o 11 (mi 9)]
def n2r:A0:=.seq (.drawn g5v i5c g99) (.cond (T 57) (.seq (.region k1g) .ret) .skip)
def j6i:LO:=[o 59 (fa 2 14),o 60 (ld 59),o 61 (.bin .eql (T 60) (ci 5)),o 62 (mv 61),og 63 (ln 16 14) 62 false,og 64 (.call (cf 91) [(T 63)]) 62 false,og 65 (.un .not (T 64)) 62 false,o 66 (.pick (T 62) (cb true) (T 65))]
def j14:LO:=[o 67 (ln 7 8),on (st 7 10 67),o 11 (mi 12)]
def m3u:A0:=.seq (.region j6i) (.cond (T 66) (.seq (.region j14) .ret) .skip)
def k2v:LO:=[o 68 (fa 2 14),o 69 (ld 68),o 70 (.bin .neq (T 69) (ci 4))]
def k1n:LO:=[o 71 (ln 5 5),o 72 (mv 1),o 73 (ln 7 8),o 74 (ln 2 9),o 75 (.call (cf 38) [(T 71),(T 72),(T 73),(T 74)]),o 76 (.extract 0 (T 75)),o 77 (.extract 1 (T 75)),on (st 7 10 76),o 11 (mv 77)]
def n75:A0:=.seq (.region k2v) (.cond (T 70) (.seq (.region k1n) .ret) .skip)
def l2q:LO:=[o 79 (ln 5 5),o 80 (ln 5 5),o 81 (mv 1),o 82 (mv 12),o 83 (.call (cf 90) [(T 80),(T 81),(T 82)]),o 84 (fa 1 9),o 85 (ld 84),o 86 (.call (cf 89) [(T 79),(T 83),(T 85)]),o 78 (mv 86),o 87 (.extract 0 (T 78)),o 88 (.extract 1 (T 78)),o 17 (.alloc zV),on (st 7 17 87)]
def f2n:LO:=[o 13 (mv 88)]
def e89:LN:=[[],[],[],[],[1,2,3],[],[5],[0,4,6],[7],[8],[8],[],[0,1,2,3,4,5,6,7,8,9,11]]
def l2n:LO:=[o 89 (mv 13),o 90 (.bin .neq (T 89) (ci 0))]
def i3u:LO:=[o 91 (ln 7 8),o 92 (mv 13),on (st 7 10 91),o 11 (mv 92)]
def m45:A0:=.seq (.region l2n) (.cond (T 90) (.seq (.region i3u) .ret) .skip)
def k3r:LO:=[o 93 (mv 12),o 94 (.call (cf 87) [(T 93)]),o 18 (mv 94)]
def h63:LO:=[o 96 (ln 7 8),o 97 (mv 18),o 98 (.call (cf 88) [(T 96),(T 97)]),o 95 (mv 98),o 99 (.extract 0 (T 95)),o 100 (.extract 1 (T 95)),o 19 (.alloc zV),on (st 7 19 99),o 20 (mv 100)]
def k9c:LO:=[o 101 (ln 7 8),o 102 (mv 18),o 103 (fa 3 19),o 104 (ld 103),o 105 (.call (cf 92) [(T 104)]),o 106 (ln 7 17),o 107 (.sliceLit 7 1 zV [((0,7),(T 106))]),o 108 (.append 54 7 128 (T 105) (T 107)),o 109 (.build zV [((0,1),(ci 11)),((3,1),(T 108))])]
def g7y:LO:=[o 110 (.call (cf 85) [(T 101),(T 102),(T 109)]),on (st 7 10 110),o 11 (mi 0)]
def f29:LN:=[[],[],[],[2],[3],[],[5],[4,6],[7]]
def m59:A0:=.seq (.region h63) (.seq (.drawn f29 k9c g7y) .ret)
def m8p:A0:=.seq (.drawn e89 l2q f2n) (.seq m45 (.seq (.region k3r) m59))
def m6h:A0:=.seq (.seq (.region k5v) n2r) (.seq m3u (.seq n75 m8p))
def l9x:A0:=.seq (.region m55) (.seq m3j (.seq (.region n38) m6h))
def e45:A0:=.seq (.region m7b) l9x
theorem o4g:B0 Tryz.prog 39=some (111,e45,[.cell 10 (some 7),.tmp 11]):=by kernel_rfl
def n5t:LO:=[o 3 (bx 0),o 4 (bx 1),o 6 (.alloc zV),o 7 (mi 0)]
def n0v:LO:=[o 8 (fa 5 4),o 9 (ld 8),o 10 (.bin .eql (T 9) (ci 7))]
def o1o:LO:=[o 11 (mv 2),o 12 (.build zV [((0,1),(ci 7)),((2,1),(T 11))]),on (st 7 6 12),o 7 (mi 0)]
def n9f:A0:=.seq (.region n0v) (.cond (T 10) (.seq (.region o1o) .ret) .skip)
def m6z:LO:=[o 13 (fa 3 3),o 14 (ln 2 13),o 15 (ln 8 4),o 16 (mv 2),o 17 (.call (cf 161) [(T 14),(T 15),(T 16)]),o 18 (.extract 0 (T 17)),o 19 (.extract 1 (T 17)),on (st 7 6 18),o 7 (mv 19)]
def i66:A0:=.seq (.region n5t) (.seq n9f (.seq (.region m6z) .ret))
theorem o4d:B0 Tryz.prog 89=some (20,i66,[.cell 6 (some 7),.tmp 7]):=by kernel_rfl
def h7l:LO:=[o 3 (bx 0),o 4 (bx 1),o 6 (.alloc zV),o 7 (mi 0)]
def h4h:LO:=[o 16 (fa 5 4),o 17 (ld 16),o 18 (.call (cf 164) [(T 17)]),o 19 (.un .not (T 18))]
def i73:LO:=[o 20 (.build zV []),on (st 7 6 20),o 7 (mi 12)]
def j39:A0:=.seq (.region h4h) (.cond (T 19) (.seq (.region i73) .ret) .skip)
def i3b:LO:=[o 21 (fa 5 4),o 22 (ld 21),o 23 (.bin .neq (T 22) (ci 9))]
def h9t:LO:=[o 24 (fa 5 4),o 25 (ld 24),o 26 (mv 2),o 27 (.call (cf 230) [(T 25),(T 26)]),o 28 (.extract 0 (T 27)),o 29 (.extract 1 (T 27)),on (st 7 6 28),o 7 (mv 29)]
def h9o:A0:=.seq (.region i3b) (.cond (T 23) (.seq (.region h9t) .ret) .skip)
def f8y:LO:=[o 31 (mv 2),o 32 (.call (cf 231) [(T 31),(.c (aS ⟨#[35]⟩))]),o 30 (mv 32),o 33 (.extract 0 (T 30)),o 34 (.extract 1 (T 30)),o 8 (mv 33),o 9 (mv 34)]
def e84:LO:=[o 35 (mv 9)]
def g4z:LO:=[o 37 (mv 8),o 38 (.call (cf 230) [(ci 9),(T 37)]),o 36 (mv 38),o 39 (.extract 0 (T 36)),o 40 (.extract 1 (T 36)),o 10 (.alloc zV),on (st 7 10 39),o 11 (mv 40)]
def f2j:LO:=[o 41 (mv 11),o 42 (.bin .neq (T 41) (ci 0))]
def g77:LO:=[o 43 (.build zV []),o 44 (mv 11),on (st 7 6 43),o 7 (mv 44)]
def k4o:A0:=.seq (.region f2j) (.cond (T 42) (.seq (.region g77) .ret) .skip)
def g8s:LO:=[o 46 (ln 2 3),o 47 (fa 6 4),o 48 (ld 47),o 49 (fa 1 10),o 50 (ld 49),o 51 (.call (cf 232) [(T 46),(T 48),(T 50)]),o 45 (mv 51),o 52 (.extract 0 (T 45)),o 53 (.extract 1 (T 45)),o 12 (.alloc [aE,(aI 0),.nil]),on (st 3 12 52),o 13 (mv 53)]
def g21:LO:=[o 54 (mv 13),o 55 (mv 54),og 56 (ln 2 3) 55 false,og 57 (fa 6 4) 55 false,og 58 (ld 57) 55 false,og 59 (fa 1 10) 55 false,og 60 (ld 59) 55 false,og 61 (.call (cf 233) [(T 56),(T 58),(T 60)]) 55 false,og 62 (.un .not (T 61)) 55 false,o 63 (.pick (T 55) (cb true) (T 62))]
def g6n:LO:=[o 64 (.build zV []),on (st 7 6 64),o 7 (mi 16)]
def i3q:A0:=.seq (.region g21) (.cond (T 63) (.seq (.region g6n) .ret) .skip)
def e8c:LO:=[o 65 (ln 7 10),on (st 7 6 65),o 7 (mi 0)]
def i70:A0:=.seq (.seq (.region g8s) i3q) (.seq (.region e8c) .ret)
def i6d:A0:=.cond (T 35) (.seq (.region g4z) (.seq k4o i70)) .skip
def g19:LO:=[o 66 (mv 2),o 67 (.call (cf 81) [(T 66)]),o 68 (.un .not (T 67))]
def e8z:LO:=[o 69 (.build zV []),on (st 7 6 69),o 7 (mi 2)]
def k3s:A0:=.seq (.region g19) (.cond (T 68) (.seq (.region e8z) .ret) .skip)
def g5x:LO:=[o 70 (fa 6 4),o 71 (ld 70),o 72 (.bin .geq (T 71) (ci 0)),o 73 (mv 72),og 74 (fa 6 4) 73 true,og 75 (ld 74) 73 true,og 76 (fa 1 3) 73 true,og 77 (ld 76) 73 true,og 78 (.len false (T 77)) 73 true,og 79 (.bin .lss (T 75) (T 78)) 73 true,o 80 (.pick (T 73) (T 79) (cb false))]
def f2v:LO:=[o 81 (fa 1 3),o 82 (ld 81),o 83 (fa 6 4),o 84 (ld 83),o 85 (.idxSl 5 (T 82) (T 84)),o 86 (fa 2 85),o 87 (ld 86),o 88 (.len false (T 87)),o 89 (mi 0)]
def f4e:LO:=[o 90 (.bin .lss (T 89) (T 88))]
def g0t:LO:=[o 91 (.idxSl 3 (T 87) (T 89)),o 92 (ln 3 91),o 15 (.alloc [aE,(aI 0),.nil]),on (st 3 15 92)]
def f4k:LO:=[o 93 (fa 0 15),o 94 (ld 93),o 95 (mv 2),o 96 (.bin .eql (T 94) (T 95))]
def g3j:LO:=[o 97 (fa 1 15),o 98 (ld 97),o 99 (.conv (.num .u64) (T 98)),o 100 (.build zV [((0,1),(ci 9)),((1,1),(T 99))]),on (st 7 6 100),o 7 (mi 0)]
def j4a:A0:=.seq (.region f4k) (.cond (T 96) (.seq (.region g3j) .ret) .skip)
def g2m:LO:=[o 101 (.bin .add (T 89) (ci 1)),o 89 (mv 101)]
def l57:A0:=.seq (.block 1 (.seq (.region g0t) j4a)) (.region g2m)
def f0j:A0:=.seq (.region f4e) (.seq (.cond (T 90) .skip (.exit 0)) l57)
def f0e:A0:=.cond (T 80) (.seq (.region f2v) (.block 0 (.loop f0j))) .skip
def f3i:LO:=[o 102 (.build zV []),on (st 7 6 102),o 7 (mi 16)]
def g70:A0:=.seq (.seq (.region g5x) f0e) (.seq (.region f3i) .ret)
def h04:A0:=.seq (.seq (.region f8y) (.seq (.region e84) i6d)) (.seq k3s g70)
def d4g:A0:=.seq (.region h7l) (.seq j39 (.seq h9o h04))
theorem m25:B0 Tryz.prog 161=some (103,d4g,[.cell 6 (some 7),.tmp 7]):=by kernel_rfl
def i50:LO:=[o 4 (.alloc zV),o 5 (mi 0)]
def k77:LO:=[o 7 (mv 0),o 8 (.call (cf 164) [(T 7)]),o 9 (.un .not (T 8)),o 6 (mv 9)]
def k41:LO:=[o 10 (.build zV []),on (st 7 4 10),o 5 (mi 1)]
def j9k:LO:=[o 12 (mv 0),o 13 (.bin .eql (T 12) (ci 1)),o 14 (mv 13),og 15 (mv 1) 14 true,og 16 (.bin .eql (T 15) (.c (aS ⟨#[116,114,117,101]⟩))) 14 true,o 17 (.pick (T 14) (T 16) (cb false)),o 11 (mv 17)]
def h7p:LO:=[o 18 (mv 0),o 19 (.build zV [((0,1),(T 18)),((1,1),(.c (aU 1)))]),on (st 7 4 19),o 5 (mi 0)]
def j98:LO:=[o 21 (mv 0),o 22 (.bin .eql (T 21) (ci 1)),o 23 (mv 22),og 24 (mv 1) 23 true,og 25 (.bin .eql (T 24) (.c (aS ⟨#[102,97,108,115,101]⟩))) 23 true,o 26 (.pick (T 23) (T 25) (cb false)),o 20 (mv 26)]
def g0w:LO:=[o 27 (mv 0),o 28 (.build zV [((0,1),(T 27))]),on (st 7 4 28),o 5 (mi 0)]
def h1i:LO:=[o 30 (mv 0),o 31 (.bin .eql (T 30) (ci 1)),o 29 (mv 31)]
def f88:LO:=[o 32 (.build zV []),on (st 7 4 32),o 5 (mi 2)]
def e96:LO:=[o 34 (mv 0),o 35 (.bin .eql (T 34) (ci 6)),o 33 (mv 35)]
def f36:LO:=[o 36 (mv 1),o 37 (.call (cf 298) [(T 36)]),o 38 (.extract 0 (T 37)),o 39 (.extract 1 (T 37)),on (st 7 4 38),o 5 (mv 39)]
def h1a:LO:=[o 41 (mv 0),o 42 (.call (cf 299) [(T 41)]),o 40 (mv 42)]
def g63:LO:=[o 43 (mv 0),o 44 (mv 1),o 45 (.call (cf 300) [(T 43),(T 44)]),o 46 (.extract 0 (T 45)),o 47 (.extract 1 (T 45)),on (st 7 4 46),o 5 (mv 47)]
def l0a:A0:=.seq (.region h1a) (.cond (T 40) (.seq (.region g63) .ret) .skip)
def j17:A0:=.seq (.region e96) (.cond (T 33) (.seq (.region f36) .ret) l0a)
def l1a:A0:=.seq (.region h1i) (.cond (T 29) (.seq (.region f88) .ret) j17)
def l1k:A0:=.seq (.region j98) (.cond (T 20) (.seq (.region g0w) .ret) l1a)
def k2h:A0:=.seq (.region j9k) (.cond (T 11) (.seq (.region h7p) .ret) l1k)
def l69:A0:=.seq (.region k77) (.cond (T 6) (.seq (.region k41) .ret) k2h)
def g9e:LO:=[o 48 (mv 0),o 49 (mv 1),o 50 (.call (cf 301) [(T 48),(T 49)]),o 51 (.extract 0 (T 50)),o 52 (.extract 1 (T 50)),on (st 7 4 51),o 5 (mv 52)]
def e5f:A0:=.seq (.region i50) (.seq (.block 0 l69) (.seq (.region g9e) .ret))
theorem m4h:B0 Tryz.prog 230=some (53,e5f,[.cell 4 (some 7),.tmp 5]):=by kernel_rfl
def l1p:LO:=[o 4 (.alloc zV),o 5 (mi 0)]
def i87:LO:=[o 9 (mv 1),o 10 (.call (cf 376) [(T 9)]),o 11 (.un .not (T 10))]
def l4l:LO:=[o 12 (.build zV []),on (st 7 4 12),o 5 (mi 2)]
def h9i:A0:=.seq (.region i87) (.cond (T 11) (.seq (.region l4l) .ret) .skip)
def j4i:LO:=[o 13 (mv 0),o 14 (.build zV [((0,1),(T 13))]),o 6 (.alloc zV),on (st 7 6 14)]
def k06:LO:=[o 7 (.mv (.c (.v .nilIface)))]
def f94:LO:=[o 15 (mv 0),o 16 (.bin .eql (T 15) (ci 2)),o 17 (mv 16),og 18 (mv 0) 17 false,og 19 (.bin .eql (T 18) (ci 3)) 17 false,o 20 (.pick (T 17) (cb true) (T 19))]
def g6g:LO:=[o 8 (mi 0)]
def g8g:LO:=[o 22 (mv 1),o 23 (.call (cf 377) [(T 22),(ci 10),(ci 64)]),o 21 (mv 23),o 24 (.extract 0 (T 21)),o 25 (.extract 1 (T 21)),o 8 (mv 24),o 7 (mv 25)]
def f3l:LO:=[o 26 (mv 8),o 27 (.conv (.num .u64) (T 26)),o 28 (fa 1 6),on (st 1 28 27)]
def k6j:A0:=.seq (.region g6g) (.seq (.region g8g) (.region f3l))
def g49:LO:=[o 30 (mv 1),o 31 (.call (cf 372) [(T 30),(ci 10),(ci 64)]),o 29 (mv 31),o 32 (.extract 0 (T 29)),o 33 (.extract 1 (T 29)),o 34 (fa 1 6),on (st 1 34 32),o 7 (mv 33)]
def l2y:A0:=.seq (.region f94) (.cond (T 20) k6j (.region g49))
def g3h:LO:=[o 35 (mv 7),o 36 (.eq .iface false (T 35) (.c (.v .nilIface))),o 37 (mv 36),og 38 (mv 0) 37 false,og 39 (fa 1 6) 37 false,og 40 (ld 39) 37 false,og 41 (.call (cf 378) [(T 38),(T 40)]) 37 false,og 42 (.un .not (T 41)) 37 false,o 43 (.pick (T 37) (cb true) (T 42))]
def g55:LO:=[o 44 (.build zV []),on (st 7 4 44),o 5 (mi 6)]
def i9y:A0:=.seq (.region g3h) (.cond (T 43) (.seq (.region g55) .ret) .skip)
def f9o:LO:=[o 45 (ln 7 6),on (st 7 4 45),o 5 (mi 0)]
def i6g:A0:=.seq (.region k06) (.seq l2y (.seq i9y (.seq (.region f9o) .ret)))
def e5e:A0:=.seq (.region l1p) (.seq h9i (.seq (.region j4i) i6g))
theorem m76:B0 Tryz.prog 301=some (46,e5e,[.cell 4 (some 7),.tmp 5]):=by kernel_rfl
def k2r:LO:=[o 6 (.mv (.c (aU 0))),o 7 (.mv (.c (.v .nilIface)))]
def l6m:LO:=[o 18 (mv 0),o 19 (.bin .eql (T 18) (.c aE))]
def i60:LO:=[o 20 (.iface 483 (ci 2)),o 6 (.mv (.c (aU 0))),o 7 (mv 20)]
def i2g:A0:=.seq (.region l6m) (.cond (T 19) (.seq (.region i60) .ret) .skip)
def j8u:LO:=[o 21 (mv 1),o 22 (.bin .eql (T 21) (ci 0)),o 8 (mv 22)]
def j3o:LO:=[o 23 (mv 0),o 9 (mv 23)]
def g4m:LO:=[o 26 (mv 1),o 27 (.bin .leq (ci 2) (T 26)),o 28 (mv 27),og 29 (mv 1) 28 true,og 30 (.bin .leq (T 29) (ci 36)) 28 true,o 31 (.pick (T 28) (T 30) (cb false)),o 25 (mv 31)]
def f65:LO:=[o 33 (mv 1),o 34 (.bin .eql (T 33) (ci 0)),o 32 (mv 34)]
def g6p:LO:=[o 1 (mi 10)]
def h01:LO:=[o 35 (mv 0),o 36 (.idxS (T 35) (ci 0)),o 37 (.bin .eql (T 36) (.c (aC 48)))]
def f56:LO:=[o 41 (mv 0),o 42 (.len true (T 41)),o 43 (.bin .geq (T 42) (ci 3)),o 44 (mv 43),og 45 (mv 0) 44 true,og 46 (.idxS (T 45) (ci 1)) 44 true,og 47 (.call (cf 451) [(T 46)]) 44 true,og 48 (.bin .eql (T 47) (.c (aC 98))) 44 true,o 49 (.pick (T 44) (T 48) (cb false)),o 40 (mv 49)]
def g0f:LO:=[o 1 (mi 2)]
def f8h:LO:=[o 50 (mv 0),o 51 (.sliceS (T 50) (some (ci 2)) none),o 0 (mv 51)]
def f4s:LO:=[o 53 (mv 0),o 54 (.len true (T 53)),o 55 (.bin .geq (T 54) (ci 3)),o 56 (mv 55),og 57 (mv 0) 56 true,og 58 (.idxS (T 57) (ci 1)) 56 true,og 59 (.call (cf 451) [(T 58)]) 56 true,og 60 (.bin .eql (T 59) (.c (aC 111))) 56 true,o 61 (.pick (T 56) (T 60) (cb false)),o 52 (mv 61)]
def f9d:LO:=[o 1 (mi 8)]
def f1z:LO:=[o 62 (mv 0),o 63 (.sliceS (T 62) (some (ci 2)) none),o 0 (mv 63)]
def g0c:LO:=[o 65 (mv 0),o 66 (.len true (T 65)),o 67 (.bin .geq (T 66) (ci 3)),o 68 (mv 67),og 69 (mv 0) 68 true,og 70 (.idxS (T 69) (ci 1)) 68 true,og 71 (.call (cf 451) [(T 70)]) 68 true,og 72 (.bin .eql (T 71) (.c (aC 120))) 68 true,o 73 (.pick (T 68) (T 72) (cb false)),o 64 (mv 73)]
def f2e:LO:=[o 1 (mi 16)]
def f44:LO:=[o 74 (mv 0),o 75 (.sliceS (T 74) (some (ci 2)) none),o 0 (mv 75)]
def e9k:LO:=[o 1 (mi 8)]
def h17:LO:=[o 38 (mv 0),o 39 (.sliceS (T 38) (some (ci 1)) none),o 0 (mv 39)]
def j4k:A0:=.cond (T 64) (.seq (.region f2e) (.region f44)) (.seq (.region e9k) (.region h17))
def k2o:A0:=.cond (T 52) (.seq (.region f9d) (.region f1z)) (.seq (.region g0c) j4k)
def j04:A0:=.cond (T 40) (.seq (.region g0f) (.region f8h)) (.seq (.region f4s) k2o)
def l56:A0:=.cond (T 37) (.block 1 (.seq (.region f56) j04)) .skip
def h2u:LO:=[o 24 (.iface 483 (ci 3)),o 6 (.mv (.c (aU 0))),o 7 (mv 24)]
def l1f:A0:=.cond (T 32) (.seq (.region g6p) (.seq (.region h01) l56)) (.seq (.region h2u) .ret)
def i6c:A0:=.seq (.region g4m) (.cond (T 25) .skip (.seq (.region f65) l1f))
def e8p:LO:=[o 76 (mv 2),o 77 (.bin .eql (T 76) (ci 0))]
def e9t:LO:=[o 2 (mi 64)]
def g9o:LO:=[o 78 (mv 2),o 79 (.bin .lss (T 78) (ci 0)),o 80 (mv 79),og 81 (mv 2) 80 false,og 82 (.bin .gtr (T 81) (ci 64)) 80 false,o 83 (.pick (T 80) (cb true) (T 82))]
def f1v:LO:=[o 84 (.iface 483 (ci 4)),o 6 (.mv (.c (aU 0))),o 7 (mv 84)]
def k8e:A0:=.seq (.region g9o) (.cond (T 83) (.seq (.region f1v) .ret) .skip)
def j6n:A0:=.seq (.region e8p) (.cond (T 77) (.region e9t) k8e)
def f9r:LO:=[o 10 (.mv (.c (aU 0)))]
def f93:LO:=[o 85 (mv 1)]
def g0v:LO:=[o 91 (.bin .eql (T 85) (ci 10)),o 90 (mv 91)]
def g7k:LO:=[o 10 (.mv (.c (aU 1844674407370955162)))]
def g0p:LO:=[o 93 (.bin .eql (T 85) (ci 16)),o 92 (mv 93)]
def f3y:LO:=[o 10 (.mv (.c (aU 1152921504606846976)))]
def h1t:LO:=[o 86 (mv 1),o 87 (.conv (.num .u64) (T 86)),o 88 (.bin .quo (.c (aU 18446744073709551615)) (T 87)),o 89 (.bin .add (T 88) (.c (aU 1))),o 10 (mv 89)]
def h28:A0:=.seq (.region g0p) (.cond (T 92) (.region f3y) (.region h1t))
def g28:A0:=.seq (.region g0v) (.cond (T 90) (.region g7k) h28)
def g7n:LO:=[o 94 (mv 2),o 95 (.conv (.num .u64) (T 94)),o 96 (.bin .shl (.c (aU 1)) (T 95)),o 97 (.bin .sub (T 96) (.c (aU 1))),o 11 (mv 97)]
def f6g:LO:=[o 12 (mb false)]
def h3l:LO:=[o 13 (.mv (.c (aU 0)))]
def f4l:LO:=[o 98 (mv 0),o 99 (.bytes (T 98)),o 100 (.len false (T 99)),o 101 (mi 0)]
def g6z:LO:=[o 102 (.bin .lss (T 101) (T 100))]
def g4o:LO:=[o 103 (.idxSl 1 (T 99) (T 101)),o 104 (ld 103),o 15 (mv 104)]
def f2i:LO:=[o 16 (.mv (.c (aC 0)))]
def e83:LO:=[o 107 (mv 15),o 108 (.bin .eql (T 107) (.c (aC 95))),o 109 (mv 108),og 110 (mv 8) 109 true,o 111 (.pick (T 109) (T 110) (cb false)),o 106 (mv 111)]
def f5q:LO:=[o 12 (mb true)]
def g4k:LO:=[o 113 (mv 15),o 114 (.bin .leq (.c (aC 48)) (T 113)),o 115 (mv 114),og 116 (mv 15) 115 true,og 117 (.bin .leq (T 116) (.c (aC 57))) 115 true,o 118 (.pick (T 115) (T 117) (cb false)),o 112 (mv 118)]
def f7z:LO:=[o 119 (mv 15),o 120 (.bin .sub (T 119) (.c (aC 48))),o 16 (mv 120)]
def f7t:LO:=[o 122 (mv 15),o 123 (.call (cf 451) [(T 122)]),o 124 (.bin .leq (.c (aC 97)) (T 123)),o 125 (mv 124),og 126 (mv 15) 125 true,og 127 (.call (cf 451) [(T 126)]) 125 true,og 128 (.bin .leq (T 127) (.c (aC 122))) 125 true,o 129 (.pick (T 125) (T 128) (cb false)),o 121 (mv 129)]
def h1y:LO:=[o 130 (mv 15),o 131 (.call (cf 451) [(T 130)]),o 132 (.bin .sub (T 131) (.c (aC 97))),o 133 (.bin .add (T 132) (.c (aC 10))),o 16 (mv 133)]
def f9g:LO:=[o 105 (.iface 483 (ci 2)),o 6 (.mv (.c (aU 0))),o 7 (mv 105)]
def f9x:A0:=.cond (T 121) (.region h1y) (.seq (.region f9g) .ret)
def f0s:A0:=.cond (T 112) (.region f7z) (.seq (.region f7t) f9x)
def g7g:A0:=.cond (T 106) (.seq (.region f5q) (.exit 4)) (.seq (.region g4k) f0s)
def d9w:LO:=[o 134 (mv 16),o 135 (mv 1),o 136 (.conv (.num .u8) (T 135)),o 137 (.bin .geq (T 134) (T 136))]
def d6b:LO:=[o 138 (.iface 483 (ci 2)),o 6 (.mv (.c (aU 0))),o 7 (mv 138)]
def h1m:A0:=.seq (.region d9w) (.cond (T 137) (.seq (.region d6b) .ret) .skip)
def d80:LO:=[o 139 (mv 13),o 140 (mv 10),o 141 (.bin .geq (T 139) (T 140))]
def e0k:LO:=[o 142 (mv 11),o 143 (.iface 483 (ci 1)),o 6 (mv 142),o 7 (mv 143)]
def g1y:A0:=.seq (.region d80) (.cond (T 141) (.seq (.region e0k) .ret) .skip)
def e0q:LO:=[o 144 (mv 13),o 145 (mv 1),o 146 (.conv (.num .u64) (T 145)),o 147 (.bin .mul (T 144) (T 146)),o 13 (mv 147)]
def e0j:LO:=[o 148 (mv 13),o 149 (mv 16),o 150 (.conv (.num .u64) (T 149)),o 151 (.bin .add (T 148) (T 150)),o 17 (mv 151)]
def d6t:LO:=[o 152 (mv 17),o 153 (mv 13),o 154 (.bin .lss (T 152) (T 153)),o 155 (mv 154),og 156 (mv 17) 155 false,og 157 (mv 11) 155 false,og 158 (.bin .gtr (T 156) (T 157)) 155 false,o 159 (.pick (T 155) (cb true) (T 158))]
def d62:LO:=[o 160 (mv 11),o 161 (.iface 483 (ci 1)),o 6 (mv 160),o 7 (mv 161)]
def f5a:A0:=.seq (.region d6t) (.cond (T 159) (.seq (.region d62) .ret) .skip)
def d9i:LO:=[o 162 (mv 17),o 13 (mv 162)]
def h33:A0:=.seq (.region e0q) (.seq (.region e0j) (.seq f5a (.region d9i)))
def h3s:A0:=.seq (.block 5 (.seq (.region e83) g7g)) (.seq h1m (.seq g1y h33))
def f4p:A0:=.block 4 (.seq (.region g4o) (.seq (.region f2i) h3s))
def d7l:LO:=[o 163 (.bin .add (T 101) (ci 1)),o 101 (mv 163)]
def f4x:A0:=.seq (.cond (T 102) .skip (.exit 3)) (.seq f4p (.region d7l))
def f9v:A0:=.seq (.region g6z) f4x
def d90:LO:=[o 164 (mv 12),o 165 (mv 164),og 166 (mv 9) 165 true,og 167 (.call (cf 452) [(T 166)]) 165 true,og 168 (.un .not (T 167)) 165 true,o 169 (.pick (T 165) (T 168) (cb false))]
def d8d:LO:=[o 170 (.iface 483 (ci 2)),o 6 (.mv (.c (aU 0))),o 7 (mv 170)]
def g91:A0:=.seq (.region d90) (.cond (T 169) (.seq (.region d8d) .ret) .skip)
def d8j:LO:=[o 171 (mv 13),o 6 (mv 171),o 7 (.mv (.c (.v .nilIface)))]
def f0w:A0:=.seq (.seq (.region f4l) (.block 3 (.loop f9v))) (.seq g91 (.seq (.region d8j) .ret))
def h26:A0:=.seq (.region g7n) (.seq (.region f6g) (.seq (.region h3l) f0w))
def f02:A0:=.seq (.region f9r) (.seq (.seq (.region f93) (.block 2 g28)) h26)
def f9k:A0:=.seq (.region j3o) (.seq (.block 0 i6c) (.seq j6n f02))
def d25:A0:=.seq (.region k2r) (.seq i2g (.seq (.region j8u) f9k))
theorem m3s:B0 Tryz.prog 420=some (172,d25,[.tmp 6,.tmp 7]):=by kernel_rfl
def i8v:LO:=[o 2 (mb false)]
def i3v:LO:=[o 5 (mv 0),o 6 (.call (cf 373) [(T 5),(.c (aS ⟨#[45]⟩))]),o 3 (mv 6)]
def h8b:LO:=[o 7 (mv 3),o 8 (.bin .eql (T 7) (.c aE)),o 9 (mv 8),og 10 (mv 3) 9 false,og 11 (.idxS (T 10) (ci 0)) 9 false,og 12 (.bin .eql (T 11) (.c (aC 48))) 9 false,og 13 (mv 12) 9 false,og 14 (mv 0) 13 true,og 15 (.bin .neq (T 14) (.c (aS ⟨#[48]⟩))) 13 true,og 16 (.pick (T 13) (T 15) (cb false)) 9 false,o 17 (.pick (T 9) (cb true) (T 16))]
def i0a:LO:=[o 2 (mb false)]
def j16:A0:=.seq (.region h8b) (.cond (T 17) (.seq (.region i0a) .ret) .skip)
def k81:LO:=[o 18 (mv 3),o 19 (.len true (T 18)),o 20 (mi 0)]
def h1q:LO:=[o 21 (.bin .lss (T 20) (T 19))]
def e7y:LO:=[o 22 (mv 20),o 4 (mv 22)]
def f6d:LO:=[o 23 (mv 3),o 24 (mv 4),o 25 (.idxS (T 23) (T 24)),o 26 (.bin .lss (T 25) (.c (aC 48))),o 27 (mv 26),og 28 (mv 3) 27 false,og 29 (mv 4) 27 false,og 30 (.idxS (T 28) (T 29)) 27 false,og 31 (.bin .gtr (T 30) (.c (aC 57))) 27 false,o 32 (.pick (T 27) (cb true) (T 31))]
def f1s:LO:=[o 2 (mb false)]
def j6d:A0:=.seq (.region f6d) (.cond (T 32) (.seq (.region f1s) .ret) .skip)
def f8x:LO:=[o 33 (.bin .add (T 20) (ci 1)),o 20 (mv 33)]
def k5z:A0:=.seq (.block 1 (.seq (.region e7y) j6d)) (.region f8x)
def l03:A0:=.seq (.region h1q) (.seq (.cond (T 21) .skip (.exit 0)) k5z)
def f04:LO:=[o 2 (mb true)]
def k4h:A0:=.seq (.seq (.region k81) (.block 0 (.loop l03))) (.seq (.region f04) .ret)
def e20:A0:=.seq (.region i8v) (.seq (.region i3v) (.seq j16 k4h))
theorem m4l:B0 Tryz.prog 376=some (34,e20,[.tmp 2]):=by kernel_rfl
def l52:LO:=[o 4 (.mv (.c aE))]
def j64:LO:=[o 5 (mv 0),o 6 (mv 1),o 7 (.call (cf 422) [(T 5),(T 6)]),o 4 (mv 7)]
def e37:A0:=.seq (.region l52) (.seq (.region j64) .ret)
theorem n4u:B0 Tryz.prog 373=some (8,e37,[.tmp 4]):=by kernel_rfl
def i2a:LO:=[o 4 (.mv (.c aE))]
def j2t:LO:=[o 5 (mv 0),o 6 (mv 1),o 7 (.call (cf 370) [(T 5),(T 6)])]
def k5x:LO:=[o 8 (mv 0),o 9 (mv 1),o 10 (.len true (T 9)),o 11 (.sliceS (T 8) (some (T 10)) none),o 4 (mv 11)]
def j1g:A0:=.seq (.region j2t) (.cond (T 7) (.seq (.region k5x) .ret) .skip)
def j8j:LO:=[o 12 (mv 0),o 4 (mv 12)]
def e0z:A0:=.seq (.region i2a) (.seq j1g (.seq (.region j8j) .ret))
theorem o17:B0 Tryz.prog 422=some (13,e0z,[.tmp 4]):=by kernel_rfl
def l4v:LO:=[o 6 (.mv (.c (aU 0))),o 7 (.mv (.c (.v .nilIface)))]
def j2x:LO:=[o 11 (mv 0),o 12 (mv 1),o 13 (mv 2),o 14 (.call (cf 420) [(T 11),(T 12),(T 13)]),o 10 (mv 14),o 15 (.extract 0 (T 10)),o 16 (.extract 1 (T 10)),o 8 (mv 15),o 9 (mv 16)]
def l3t:LO:=[o 17 (mv 9),o 18 (.eq .iface false (T 17) (.c (.v .nilIface)))]
def i7e:LO:=[o 19 (mv 8),o 20 (mv 0),o 21 (mv 1),o 22 (mv 2),o 23 (mv 9),o 24 (.call (cf 421) [(.c (aS ⟨#[80,97,114,115,101,85,105,110,116]⟩)),(T 20),(T 21),(T 22),(T 23)]),o 6 (mv 19),o 7 (mv 24)]
def h9c:A0:=.seq (.region l3t) (.cond (T 18) (.seq (.region i7e) .ret) .skip)
def l5b:LO:=[o 25 (mv 8),o 6 (mv 25),o 7 (.mv (.c (.v .nilIface)))]
def k3h:A0:=.seq (.region j2x) (.seq h9c (.seq (.region l5b) .ret))
def e4f:A0:=.seq (.region l4v) k3h
theorem n5m:B0 Tryz.prog 372=some (26,e4f,[.tmp 6,.tmp 7]):=by kernel_rfl
def n95:LO:=[o 3 (bx 0),o 5 (bx 2),o 6 (.alloc zV)]
def m1c:LO:=[o 9 (mv 1),o 10 (.len false (T 9)),o 11 (.bin .eql (T 10) (ci 0))]
def n6f:LO:=[o 12 (ln 7 5),on (st 7 6 12)]
def n5y:A0:=.seq (.region m1c) (.cond (T 11) (.seq (.region n6f) .ret) .skip)
def n3w:LO:=[o 14 (ln 7 3),o 15 (mv 1),o 16 (.idxSl 1 (T 15) (ci 0)),o 17 (ld 16),o 18 (.call (cf 158) [(T 14),(T 17)]),o 13 (mv 18),o 19 (.extract 0 (T 13)),o 20 (.extract 1 (T 13)),o 7 (mv 19)]
def k7z:LO:=[o 8 (mv 20)]
def h5t:LN:=[[],[],[1],[2],[0,3],[4],[5],[5],[0,1,2,3,4,5,6]]
def m3f:LO:=[o 21 (fa 5 3),o 22 (ld 21),o 23 (.call (cf 159) [(T 22)]),o 24 (fa 5 3),on (st 1 24 23)]
def l8r:LO:=[o 25 (mv 8),o 26 (.un .not (T 25))]
def j48:LO:=[o 27 (fa 5 3),o 28 (ld 27),o 29 (mv 7),o 30 (mv 1),o 31 (.idxSl 1 (T 30) (ci 0)),o 32 (ld 31),o 33 (.build zV [((0,1),(ci 10))]),o 34 (.build [(aI 0),(aI 0),(aU 0),aE,.nil,.nil,.nil,.nil] [((0,1),(T 32)),((1,7),(T 33))]),o 35 (.sliceLit 8 1 [(aI 0),(aI 0),(aU 0),aE,.nil,.nil,.nil,.nil] [((0,8),(T 34))])]
def g2h:LO:=[o 36 (.call (cf 160) [(T 28),(T 29),(T 35)]),o 37 (fa 5 3),on (st 1 37 36)]
def g5s:LN:=[[],[0],[],[],[3],[4],[],[5,6],[7]]
def n6c:A0:=.seq (.region l8r) (.cond (T 26) (.drawn g5s j48 g2h) .skip)
def k1z:LO:=[o 38 (fa 5 3),o 39 (ld 38),o 40 (mv 7),o 41 (fa 5 3),o 42 (ld 41),o 43 (mv 7),o 44 (.idxSl 8 (T 42) (T 43)),o 45 (fa 1 44),o 46 (ln 7 45),o 47 (mv 1),o 48 (.sliceV 1 (T 47) (some (ci 1)) none none),o 49 (ln 7 5),o 50 (.call (cf 85) [(T 46),(T 48),(T 49)])]
def g00:LO:=[o 51 (.idxSl 8 (T 39) (T 40)),o 52 (fa 1 51),on (st 7 52 50)]
def h0y:LN:=[[],[0],[],[],[3],[],[4,5],[6],[7],[],[9],[],[8,10,11]]
def h6d:LO:=[o 53 (ln 7 3),on (st 7 6 53)]
def o0z:A0:=.seq (.drawn h0y k1z g00) (.seq (.region h6d) .ret)
def n6d:A0:=.seq (.drawn h5t n3w k7z) (.seq (.region m3f) (.seq n6c o0z))
def k95:A0:=.seq (.region n95) (.seq n5y n6d)
theorem o6x:B0 Tryz.prog 85=some (54,k95,[.cell 6 (some 7)]):=by kernel_rfl
def j7y:LO:=[o 6 (.mv (.c .nil))]
def j6y:LO:=[o 10 (mv 0),o 11 (mv 1),o 12 (.sliceV 8 (T 10) (some (T 11)) none none)]
def k87:LO:=[o 13 (mv 2),o 14 (.len false (T 13)),o 7 (mv 14)]
def j3e:LO:=[o 15 (mv 7),o 16 (.bin .eql (T 15) (ci 0))]
def l6r:LO:=[o 17 (mv 0),o 6 (mv 17)]
def l4j:A0:=.seq (.region j3e) (.cond (T 16) (.seq (.region l6r) .ret) .skip)
def g80:LO:=[o 18 (mv 0),o 19 (.len false (T 18)),o 8 (mv 19)]
def g7a:LO:=[o 20 (mv 1),o 21 (mv 8),o 22 (.bin .eql (T 20) (T 21))]
def f5f:LO:=[o 23 (mv 0),o 24 (mv 2),o 25 (.append 67 8 136 (T 23) (T 24)),o 6 (mv 25)]
def k91:A0:=.seq (.region g7a) (.cond (T 22) (.seq (.region f5f) .ret) .skip)
def e8l:LO:=[o 26 (mv 8),o 27 (mv 7),o 28 (.bin .add (T 26) (T 27)),o 29 (mv 0),o 30 (.cap0 (T 29)),o 31 (.bin .gtr (T 28) (T 30))]
def g7i:LO:=[o 32 (mv 0),o 33 (mv 1),o 34 (.sliceV 8 (T 32) none (some (T 33)) none),o 35 (mv 8),o 36 (mv 7),o 37 (.bin .add (T 35) (T 36)),o 38 (mv 1),o 39 (.bin .sub (T 37) (T 38)),o 40 (.bad),o 9 (mv 40)]
def g5m:LO:=[o 41 (mv 9),o 42 (mv 1),o 43 (.sliceV 8 (T 41) (some (T 42)) none none),o 44 (mv 2),o 45 (.copy0 (T 43) (T 44))]
def g0m:LO:=[o 46 (mv 9),o 47 (mv 1),o 48 (mv 7),o 49 (.bin .add (T 47) (T 48)),o 50 (.sliceV 8 (T 46) (some (T 49)) none none),o 51 (mv 0),o 52 (mv 1),o 53 (.sliceV 8 (T 51) (some (T 52)) none none)]
def d84:LO:=[o 54 (.copy0 (T 50) (T 53))]
def d69:LN:=[[],[],[],[1,2],[0,3],[],[],[5,6]]
def f49:LO:=[o 55 (mv 9),o 6 (mv 55)]
def i5o:A0:=.seq (.drawn d69 g0m d84) (.seq (.region f49) .ret)
def i5l:A0:=.cond (T 31) (.seq (.region g7i) (.seq (.region g5m) i5o)) .skip
def f8k:LO:=[o 56 (mv 0),o 57 (mv 8),o 58 (mv 7),o 59 (.bin .add (T 57) (T 58)),o 60 (.sliceV 8 (T 56) none (some (T 59)) none),o 0 (mv 60)]
def f0m:LO:=[o 61 (mv 2),o 62 (mv 0),o 63 (mv 1),o 64 (mv 7),o 65 (.bin .add (T 63) (T 64)),o 66 (.sliceV 8 (T 62) (some (T 65)) none none),o 67 (.call (cf 228) [(T 61),(T 66)]),o 68 (.un .not (T 67))]
def e9x:LO:=[o 69 (mv 0),o 70 (mv 1),o 71 (mv 7),o 72 (.bin .add (T 70) (T 71)),o 73 (.sliceV 8 (T 69) (some (T 72)) none none),o 74 (mv 0),o 75 (mv 1),o 76 (.sliceV 8 (T 74) (some (T 75)) none none)]
def d9v:LO:=[o 77 (.copy0 (T 73) (T 76))]
def d6a:LN:=[[],[],[],[1,2],[0,3],[],[],[5,6]]
def f15:LO:=[o 78 (mv 0),o 79 (mv 1),o 80 (.sliceV 8 (T 78) (some (T 79)) none none),o 81 (mv 2),o 82 (.copy0 (T 80) (T 81))]
def h2l:LO:=[o 83 (mv 0),o 6 (mv 83)]
def i3o:A0:=.seq (.drawn d6a e9x d9v) (.seq (.region f15) (.seq (.region h2l) .ret))
def f0f:LO:=[o 84 (mv 0),o 85 (mv 8),o 86 (.sliceV 8 (T 84) (some (T 85)) none none),o 87 (mv 2),o 88 (.copy0 (T 86) (T 87))]
def g4d:LO:=[o 89 (mv 0),o 90 (mv 1),o 91 (.sliceV 8 (T 89) (some (T 90)) none none),o 92 (mv 7),o 93 (.call (cf 229) [(T 91),(T 92)])]
def f16:LO:=[o 94 (mv 0),o 6 (mv 94)]
def l5y:A0:=.seq (.region f0f) (.seq (.region g4d) (.seq (.region f16) .ret))
def i22:A0:=.seq (.seq (.region f0m) (.cond (T 68) i3o .skip)) l5y
def h89:A0:=.seq (.seq (.region e8l) i5l) (.seq (.region f8k) i22)
def l66:A0:=.seq (.region k87) (.seq l4j (.seq (.region g80) (.seq k91 h89)))
def d5r:A0:=.seq (.region j7y) (.seq (.region j6y) l66)
theorem n4j:B0 Tryz.prog 160=some (95,d5r,[.tmp 6]):=by kernel_rfl
def m9w:LO:=[o 4 (bx 0),o 6 (bx 2),o 7 (bx 3),o 8 (.alloc zV),o 9 (mi 0)]
def n1w:LO:=[o 17 (fa 0 4),o 18 (ln 3 17),o 19 (mv 1),o 20 (fa 0 7),o 21 (ld 20),o 22 (.call (cf 86) [(T 18),(T 19),(T 21)]),o 16 (mv 22),o 23 (.extract 0 (T 16)),o 24 (.extract 1 (T 16)),o 10 (mv 23),o 11 (mv 24)]
def m5x:LO:=[o 25 (mv 11),o 26 (.bin .neq (T 25) (ci 0))]
def n1d:LO:=[o 27 (ln 7 6),o 28 (mv 11),on (st 7 8 27),o 9 (mv 28)]
def n4c:A0:=.seq (.region m5x) (.cond (T 26) (.seq (.region n1d) .ret) .skip)
def m9j:LO:=[o 29 (mv 10),o 30 (.call (cf 87) [(T 29)]),o 12 (mv 30)]
def l3b:LO:=[o 32 (ln 7 6),o 33 (mv 12),o 34 (.call (cf 88) [(T 32),(T 33)]),o 31 (mv 34),o 35 (.extract 0 (T 31)),o 36 (.extract 1 (T 31)),o 13 (.alloc zV),on (st 7 13 35),o 14 (mv 36)]
def j73:LO:=[o 37 (mv 14)]
def l2l:LO:=[o 38 (ln 7 6),on (st 7 8 38),o 9 (mi 9)]
def m1w:A0:=.seq (.region j73) (.cond (T 37) (.seq (.region l2l) .ret) .skip)
def i91:LO:=[o 40 (ln 5 4),o 41 (ln 5 4),o 42 (mv 1),o 43 (mv 10),o 44 (.call (cf 90) [(T 41),(T 42),(T 43)]),o 45 (fa 1 7),o 46 (ld 45),o 47 (.call (cf 89) [(T 40),(T 44),(T 46)]),o 39 (mv 47),o 48 (.extract 0 (T 39)),o 49 (.extract 1 (T 39)),o 15 (.alloc zV),on (st 7 15 48)]
def f1l:LO:=[o 11 (mv 49)]
def h3h:LN:=[[],[],[],[],[1,2,3],[],[5],[0,4,6],[7],[8],[8],[],[0,1,2,3,4,5,6,7,8,9,11]]
def i3i:LO:=[o 50 (mv 11),o 51 (.bin .neq (T 50) (ci 0))]
def h8a:LO:=[o 52 (ln 7 6),o 53 (mv 11),on (st 7 8 52),o 9 (mv 53)]
def m14:A0:=.seq (.region i3i) (.cond (T 51) (.seq (.region h8a) .ret) .skip)
def l08:LO:=[o 54 (ln 7 6),o 55 (mv 12),o 56 (ln 7 15),o 57 (.call (cf 85) [(T 54),(T 55),(T 56)]),on (st 7 8 57),o 9 (mi 0)]
def m0i:A0:=.seq (.drawn h3h i91 f1l) (.seq m14 (.seq (.region l08) .ret))
def n3i:A0:=.seq (.region m9j) (.seq (.seq (.region l3b) m1w) m0i)
def k0v:A0:=.seq (.region m9w) (.seq (.region n1w) (.seq n4c n3i))
theorem o3y:B0 Tryz.prog 38=some (58,k0v,[.cell 8 (some 7),.tmp 9]):=by kernel_rfl
def n59:LO:=[o 4 (bx 0),o 6 (bx 2),o 7 (bx 3),o 8 (.alloc zV),o 9 (mi 0)]
def m38:LO:=[o 15 (.build zV [((0,1),(ci 10))]),o 10 (.alloc zV),on (st 7 10 15)]
def n9h:LO:=[o 17 (fa 4 6),o 18 (ld 17),o 19 (.bin .eql (T 18) (.c aE)),o 20 (mv 19),og 21 (fa 3 7) 20 true,og 22 (ld 21) 20 true,og 23 (.bin .neq (T 22) (.c aE)) 20 true,o 24 (.pick (T 20) (T 23) (cb false)),o 25 (mv 24),og 26 (fa 4 6) 25 false,og 27 (ld 26) 25 false,og 28 (.bin .eql (T 27) (.c (aS ⟨#[42]⟩))) 25 false,og 29 (mv 28) 25 false,og 30 (fa 2 7) 29 true,og 31 (ld 30) 29 true,og 32 (.len false (T 31)) 29 true,og 33 (.bin .gtr (T 32) (ci 0)) 29 true,og 34 (.pick (T 29) (T 33) (cb false)) 25 false,o 35 (.pick (T 25) (cb true) (T 34)),o 16 (mv 35)]
def n2v:LO:=[o 36 (ln 7 10),on (st 7 8 36),o 9 (mi 18)]
def m70:LO:=[o 38 (fa 4 6),o 39 (ld 38),o 40 (.bin .eql (T 39) (.c aE)),o 37 (mv 40)]
def m2e:LO:=[o 41 (ln 7 10),on (st 7 8 41),o 9 (mi 0)]
def j7j:LO:=[o 43 (fa 4 6),o 44 (ld 43),o 45 (.bin .eql (T 44) (.c (aS ⟨#[42]⟩))),o 42 (mv 45)]
def l6e:LO:=[o 46 (fa 3 4),o 47 (ln 2 46),o 48 (mv 1),o 49 (fa 3 7),o 50 (ld 49),o 51 (.call (cf 84) []),o 52 (.call (cf 83) [(T 47),(T 48),(T 50),(T 51)]),o 53 (.extract 0 (T 52)),o 54 (.extract 1 (T 52))]
def e9m:LO:=[on (st 7 8 53),o 9 (mv 54)]
def g7p:LN:=[[],[0],[],[],[3],[],[1,2,4,5],[6],[6]]
def m2s:A0:=.cond (T 42) (.seq (.drawn g7p l6e e9m) .ret) .skip
def m8e:A0:=.cond (T 37) (.seq (.region m2e) .ret) (.seq (.region j7j) m2s)
def o00:A0:=.cond (T 16) (.seq (.region n2v) .ret) (.seq (.region m70) m8e)
def i7n:LO:=[o 56 (fa 0 4),o 57 (ln 3 56),o 58 (mv 1),o 59 (ln 5 6),o 60 (.call (cf 55) [(T 57),(T 58),(T 59)]),o 55 (mv 60),o 61 (.extract 0 (T 55)),o 62 (.extract 1 (T 55)),o 11 (.alloc [(aI 0),aE,(aI 0),(aI 0),(aI 0),aE,aE,(aB false),(aI 0),(aU 0),aE,.nil,.nil,.nil,.nil,.nil]),on (st 16 11 61),o 12 (mv 62)]
def k40:LO:=[o 64 (fa 3 4),o 65 (ln 2 64),o 66 (fa 4 11),o 67 (fa 1 66),o 68 (ld 67),o 69 (fa 3 7),o 70 (ld 69),o 71 (.call (cf 84) []),o 72 (.call (cf 83) [(T 65),(T 68),(T 70),(T 71)]),o 63 (mv 72),o 73 (.extract 0 (T 63)),o 74 (.extract 1 (T 63)),o 13 (.alloc zV),on (st 7 13 73)]
def g6q:LO:=[o 14 (mv 74)]
def f0n:LN:=[[],[0],[],[2],[3],[],[5],[],[1,4,6,7],[8],[9],[9],[],[0,1,2,3,4,5,6,7,8,9,10,12]]
def h5z:LO:=[o 75 (mv 14),o 76 (.bin .neq (T 75) (ci 0))]
def k3b:LO:=[o 77 (ln 7 10),o 78 (mv 14),on (st 7 8 77),o 9 (mv 78)]
def n45:A0:=.seq (.region h5z) (.cond (T 76) (.seq (.region k3b) .ret) .skip)
def k17:LO:=[o 79 (ln 7 10),o 80 (fa 0 11),o 81 (ld 80),o 82 (.sliceLit 1 1 [(aI 0)] [((0,1),(T 81))]),o 83 (ln 7 13),o 84 (.call (cf 85) [(T 79),(T 82),(T 83)]),on (st 7 8 84),o 9 (mi 0)]
def n7o:A0:=.seq (.drawn f0n k40 g6q) (.seq n45 (.seq (.region k17) .ret))
def m3g:A0:=.seq (.block 0 (.seq (.region n9h) o00)) (.seq (.region i7n) n7o)
def l5r:A0:=.seq (.region n59) (.seq (.region m38) m3g)
theorem o65:B0 Tryz.prog 37=some (85,l5r,[.cell 8 (some 7),.tmp 9]):=by kernel_rfl
def m48:LO:=[o 6 (mi 0),o 7 (.mv (.c .nil)),o 8 (mi 0)]
def n3b:LO:=[o 13 (mv 0),o 14 (.len false (T 13)),o 15 (mi 0)]
def n65:LO:=[o 16 (.bin .lss (T 15) (T 14))]
def m7i:LO:=[o 17 (mv 15),o 18 (.idxSl 5 (T 13) (T 15)),o 19 (ln 5 18),o 10 (.alloc [aE,aE,aE,aE,aE]),o 9 (mv 17),on (st 5 10 19)]
def m97:LO:=[o 21 (ln 5 10),o 22 (mv 1),o 23 (mv 2),o 24 (.call (cf 29) [(T 21),(T 22),(T 23)]),o 20 (mv 24),o 25 (.extract 0 (T 20)),o 26 (.extract 1 (T 20)),o 11 (mv 25),o 12 (mv 26)]
def n8e:LO:=[o 27 (mv 12)]
def m84:LO:=[o 28 (mv 9),o 29 (mv 11),o 6 (mv 28),o 7 (mv 29),o 8 (mi 0)]
def n2g:A0:=.seq (.region n8e) (.cond (T 27) (.seq (.region m84) .ret) .skip)
def k62:LO:=[o 30 (.bin .add (T 15) (ci 1)),o 15 (mv 30)]
def m6n:A0:=.seq (.block 1 (.seq (.region m7i) (.seq (.region m97) n2g))) (.region k62)
def m2m:A0:=.seq (.region n65) (.seq (.cond (T 16) .skip (.exit 0)) m6n)
def k07:LO:=[o 6 (mi 0),o 7 (.mv (.c .nil)),o 8 (mi 10)]
def m3i:A0:=.seq (.seq (.region n3b) (.block 0 (.loop m2m))) (.seq (.region k07) .ret)
def i5n:A0:=.seq (.region m48) m3i
theorem o67:B0 Tryz.prog 11=some (31,i5n,[.tmp 6,.tmp 7,.tmp 8]):=by kernel_rfl
def n6u:LO:=[o 3 (bx 0),o 6 (.mv (.c .nil)),o 7 (mb false)]
def m9h:LO:=[o 20 (fa 1 3),o 21 (ld 20),o 22 (.call (cf 52) [(T 21)]),o 19 (mv 22),o 23 (.extract 0 (T 19)),o 24 (.extract 1 (T 19)),o 8 (mv 23),o 9 (mv 24)]
def m30:LO:=[o 26 (mv 2),o 27 (.call (cf 66) [(T 26)]),o 25 (mv 27),o 28 (.extract 0 (T 25)),o 29 (.extract 1 (T 25)),o 10 (mv 28),o 11 (mv 29)]
def m7t:LO:=[o 30 (mv 9),o 31 (.un .not (T 30)),o 32 (mv 31),og 33 (mv 11) 32 false,og 34 (.un .not (T 33)) 32 false,o 35 (.pick (T 32) (cb true) (T 34)),o 36 (mv 35),og 37 (fa 0 3) 36 false,og 38 (ld 37) 36 false,og 39 (mv 1) 36 false,og 40 (.bin .neq (T 38) (T 39)) 36 false,o 41 (.pick (T 36) (cb true) (T 40)),o 42 (mv 41),og 43 (mv 8) 42 false,og 44 (.len false (T 43)) 42 false,og 45 (mv 10) 42 false,og 46 (.len false (T 45)) 42 false,og 47 (.bin .neq (T 44) (T 46)) 42 false,o 48 (.pick (T 42) (cb true) (T 47))]
def m39:LO:=[o 6 (.mv (.c .nil)),o 7 (mb false)]
def n4a:A0:=.seq (.region m7t) (.cond (T 48) (.seq (.region m39) .ret) .skip)
def l3k:LO:=[o 12 (.mv (.c .nil))]
def j7h:LO:=[o 49 (mv 8),o 50 (.len false (T 49)),o 51 (mi 0)]
def k4y:LO:=[o 52 (.bin .lss (T 51) (T 50))]
def j08:LO:=[o 53 (mv 51),o 54 (.idxSl 1 (T 49) (T 51)),o 55 (ld 54),o 13 (mv 53),o 14 (mv 55)]
def i2o:LO:=[o 57 (mv 14),o 58 (.call (cf 67) [(T 57)]),o 56 (mv 58),o 59 (.extract 0 (T 56)),o 60 (.extract 1 (T 56)),o 15 (mv 59),o 16 (mv 60)]
def l78:LO:=[o 61 (mv 16),o 62 (.un .not (T 61)),o 63 (mv 62),og 64 (mv 14) 63 true,og 65 (mv 10) 63 true,og 66 (mv 13) 63 true,og 67 (.idxSl 1 (T 65) (T 66)) 63 true,og 68 (ld 67) 63 true,og 69 (.bin .neq (T 64) (T 68)) 63 true,o 70 (.pick (T 63) (T 69) (cb false))]
def k6w:LO:=[o 6 (.mv (.c .nil)),o 7 (mb false)]
def m4x:A0:=.seq (.region l78) (.cond (T 70) (.seq (.region k6w) .ret) .skip)
def h57:LO:=[o 71 (mv 16)]
def j8q:LO:=[o 73 (mv 10),o 74 (mv 13),o 75 (.idxSl 1 (T 73) (T 74)),o 76 (ld 75),o 77 (.call (cf 19) [(T 76)]),o 72 (mv 77),o 78 (.extract 0 (T 72)),o 79 (.extract 1 (T 72)),o 17 (mv 78),o 18 (mv 79)]
def j2f:LO:=[o 80 (mv 18),o 81 (.bin .neq (T 80) (ci 0)),o 82 (mv 81),og 83 (mv 10) 82 false,og 84 (mv 13) 82 false,og 85 (.idxSl 1 (T 83) (T 84)) 82 false,og 86 (ld 85) 82 false,og 87 (.bin .eql (T 86) (.c aE)) 82 false,o 88 (.pick (T 82) (cb true) (T 87))]
def k8i:LO:=[o 6 (.mv (.c .nil)),o 7 (mb false)]
def m1l:A0:=.seq (.region j2f) (.cond (T 88) (.seq (.region k8i) .ret) .skip)
def k7q:LO:=[o 89 (mv 12),o 90 (mv 15),o 91 (mv 17),o 92 (.build [aE,aE] [((0,1),(T 90)),((1,1),(T 91))]),o 93 (.sliceLit 2 1 [aE,aE] [((0,2),(T 92))]),o 94 (.append 47 2 32 (T 89) (T 93)),o 12 (mv 94)]
def m2z:A0:=.cond (T 71) (.seq (.region j8q) (.seq m1l (.region k7q))) .skip
def n8z:A0:=.seq (.region i2o) (.seq m4x (.seq (.region h57) m2z))
def l2e:LO:=[o 95 (.bin .add (T 51) (ci 1)),o 51 (mv 95)]
def m9r:A0:=.seq (.block 1 (.seq (.region j08) n8z)) (.region l2e)
def m1n:A0:=.seq (.region k4y) (.seq (.cond (T 52) .skip (.exit 0)) m9r)
def h43:LO:=[o 96 (mv 12),o 6 (mv 96),o 7 (mb true)]
def n4n:A0:=.seq (.seq (.region j7h) (.block 0 (.loop m1n))) (.seq (.region h43) .ret)
def m12:A0:=.seq (.region m30) (.seq n4a (.seq (.region l3k) n4n))
def e5o:A0:=.seq (.region n6u) (.seq (.region m9h) m12)
theorem o7f:B0 Tryz.prog 29=some (97,e5o,[.tmp 6,.tmp 7]):=by kernel_rfl
def n8i:LO:=[o 0 (.alloc [.nil,.nil,.nil]),o 1 (.alloc [aE,aE,aE,aE,aE])]
def o1s:LO:=[o 4 (.build [(aI 0),aE] [((0,1),(ci 4))]),o 5 (.build [(aI 0),aE,(aI 0),(aI 0),(aI 0),aE,aE,(aB false),(aI 0),(aU 0),aE,.nil,.nil,.nil,.nil,.nil] [((0,1),(ci 1)),((1,1),(.c (aS ⟨#[105,100]⟩))),((2,1),(ci 3)),((4,2),(T 4))]),o 6 (.build [(aI 0),aE] [((0,1),(ci 7))]),o 7 (.build [(aI 0),aE,(aI 0),(aI 0),(aI 0),aE,aE,(aB false),(aI 0),(aU 0),aE,.nil,.nil,.nil,.nil,.nil] [((0,1),(ci 2)),((1,1),(.c (aS ⟨#[116,97,103]⟩))),((2,1),(ci 4)),((4,2),(T 6))]),o 8 (.sliceLit 16 2 [(aI 0),aE,(aI 0),(aI 0),(aI 0),aE,aE,(aB false),(aI 0),(aU 0),aE,.nil,.nil,.nil,.nil,.nil,(aI 0),aE,(aI 0),(aI 0),(aI 0),aE,aE,(aB false),(aI 0),(aU 0),aE,.nil,.nil,.nil,.nil,.nil] [((0,16),(T 5)),((16,16),(T 7))]),o 9 (.build [aE,.nil,.nil,.nil,.nil] [((0,1),(.c (aS ⟨#[77]⟩))),((1,1),(T 8))]),o 2 (.alloc [aE,.nil,.nil,.nil,.nil]),on (st 5 2 9)]
def n7e:LO:=[o 10 (.build [aE,aE,aE,(aI 0),.nil] [((0,1),(.c (aS ⟨#[71,101,116]⟩))),((1,1),(.c (aS ⟨#[77]⟩))),((2,1),(.c (aS ⟨#[77]⟩))),((3,1),(ci 1))]),o 11 (.sliceLit 5 1 [aE,aE,aE,(aI 0),.nil] [((0,5),(T 10))]),o 12 (.build [aE,.nil,.nil] [((0,1),(.c (aS ⟨#[83]⟩))),((1,1),(T 11))]),o 3 (.alloc [aE,.nil,.nil]),on (st 3 3 12)]
def n49:LO:=[o 13 (ln 5 2),o 14 (.sliceLit 5 1 [aE,.nil,.nil,.nil,.nil] [((0,5),(T 13))]),o 15 (ln 3 3),o 16 (.sliceLit 3 1 [aE,.nil,.nil] [((0,3),(T 15))]),o 17 (.build [.nil,.nil,.nil] [((0,1),(T 14)),((2,1),(T 16))]),o 18 (.build [aE,aE,aE,aE,aE] [((0,1),(.c (aS ⟨#[71,69,84]⟩))),((1,1),(.c (aS ⟨#[47,117,115,101,114,115,47,123,105,100,125]⟩))),((2,1),(.c (aS ⟨#[83]⟩))),((3,1),(.c (aS ⟨#[71,101,116]⟩)))]),on (st 3 0 17),on (st 5 1 18)]
def m7d:A0:=.seq (.region o1s) (.seq (.region n7e) (.seq (.region n49) .ret))
def j2a:A0:=.seq (.region n8i) m7d
theorem o3t:B0 Tryz.prog 16=some (19,j2a,[.cell 0 (some 3),.cell 1 (some 5)]):=by kernel_rfl
def n6s:LO:=[o 2 (bx 0),o 3 (bx 1),o 4 (mb false)]
def m1f:LO:=[o 6 (fa 0 2),o 7 (ld 6),o 8 (fa 0 3),o 9 (ld 8),o 10 (.bin .neq (T 7) (T 9)),o 11 (mv 10),og 12 (fa 1 2) 11 false,og 13 (ld 12) 11 false,og 14 (fa 1 3) 11 false,og 15 (ld 14) 11 false,og 16 (.bin .neq (T 13) (T 15)) 11 false,o 17 (.pick (T 11) (cb true) (T 16)),o 18 (mv 17),og 19 (fa 3 2) 18 false,og 20 (ld 19) 18 false,og 21 (fa 3 3) 18 false,og 22 (ld 21) 18 false,og 23 (.bin .neq (T 20) (T 22)) 18 false,o 24 (.pick (T 18) (cb true) (T 23)),o 25 (mv 24),og 26 (fa 2 2) 25 false,og 27 (ld 26) 25 false,og 28 (.len false (T 27)) 25 false,og 29 (fa 2 3) 25 false,og 30 (ld 29) 25 false,og 31 (.len false (T 30)) 25 false,og 32 (.bin .neq (T 28) (T 31)) 25 false,o 33 (.pick (T 25) (cb true) (T 32))]
def m44:LO:=[o 4 (mb false)]
def m35:A0:=.seq (.region m1f) (.cond (T 33) (.seq (.region m44) .ret) .skip)
def n28:LO:=[o 5 (mi 0)]
def m26:LO:=[o 34 (mv 5),o 35 (fa 2 2),o 36 (ld 35),o 37 (.len false (T 36)),o 38 (.bin .lss (T 34) (T 37))]
def l1l:LO:=[o 41 (fa 2 2),o 42 (ld 41),o 43 (mv 5),o 44 (.idxSl 2 (T 42) (T 43)),o 45 (fa 0 44),o 46 (ld 45),o 47 (fa 2 3),o 48 (ld 47),o 49 (mv 5),o 50 (.idxSl 2 (T 48) (T 49)),o 51 (fa 0 50),o 52 (ld 51),o 53 (.bin .neq (T 46) (T 52)),o 54 (mv 53),og 55 (fa 2 2) 54 false,og 56 (ld 55) 54 false,og 57 (mv 5) 54 false,og 58 (.idxSl 2 (T 56) (T 57)) 54 false,og 59 (fa 1 58) 54 false,og 60 (ld 59) 54 false,og 61 (fa 2 3) 54 false,og 62 (ld 61) 54 false,og 63 (mv 5) 54 false,og 64 (.idxSl 2 (T 62) (T 63)) 54 false,og 65 (fa 1 64) 54 false,og 66 (ld 65) 54 false]
def g89:LO:=[og 67 (.bin .neq (T 60) (T 66)) 54 false,o 68 (.pick (T 54) (cb true) (T 67))]
def f70:LN:=[[],[0],[],[1,2],[3],[4],[],[6],[],[7,8],[9],[10],[5,11],[12],[13],[13,14],[13],[13,15,16],[13,17],[13,18],[13],[13,20],[13],[13,21,22],[13,23],[13,24]]
def h4o:LO:=[o 4 (mb false)]
def n1q:A0:=.seq (.drawn f70 l1l g89) (.cond (T 68) (.seq (.region h4o) .ret) .skip)
def i2f:LO:=[o 39 (mv 5),o 40 (.bin .add (T 39) (ci 1)),o 5 (mv 40)]
def n09:A0:=.seq (.seq (.region m26) (.cond (T 38) .skip (.exit 0))) (.seq (.block 1 n1q) (.region i2f))
def i07:LO:=[o 4 (mb true)]
def o1p:A0:=.seq (.seq (.region n28) (.block 0 (.loop n09))) (.seq (.region i07) .ret)
def j93:A0:=.seq (.region n6s) (.seq m35 o1p)
theorem o63:B0 Tryz.prog 13=some (69,j93,[.tmp 4]):=by kernel_rfl
def o3s:LO:=[o 2 (bx 0),o 4 (mi 0)]
def o6o:LO:=[o 10 (mv 1),o 11 (.len false (T 10)),o 12 (.bin .gtr (T 11) (ci 64))]
def o6p:LO:=[o 4 (mi 3)]
def o37:A0:=.seq (.region o6o) (.cond (T 12) (.seq (.region o6p) .ret) .skip)
def o4f:LO:=[o 13 (mv 1),o 14 (.len false (T 13)),o 15 (mi 0)]
def o5i:LO:=[o 16 (.bin .lss (T 15) (T 14))]
def m6f:LO:=[o 17 (.idxSl 5 (T 13) (T 15)),o 18 (ln 5 17),o 6 (.alloc [aE,aE,aE,aE,aE]),on (st 5 6 18)]
def m1j:LO:=[o 19 (ln 3 2),o 20 (ln 5 6),o 21 (.call (cf 23) [(T 19),(T 20)]),o 7 (mv 21)]
def o0f:LO:=[o 22 (mv 7),o 23 (.bin .neq (T 22) (ci 0))]
def n7j:LO:=[o 24 (mv 7),o 4 (mv 24)]
def o5k:A0:=.seq (.region o0f) (.cond (T 23) (.seq (.region n7j) .ret) .skip)
def m1e:LO:=[o 25 (.bin .add (T 15) (ci 1)),o 15 (mv 25)]
def o4u:A0:=.seq (.block 1 (.seq (.region m6f) (.seq (.region m1j) o5k))) (.region m1e)
def o3q:A0:=.seq (.region o5i) (.seq (.cond (T 16) .skip (.exit 0)) o4u)
def n2j:LO:=[o 26 (mv 1),o 27 (.len false (T 26)),o 28 (mi 0)]
def n8k:LO:=[o 29 (.bin .lss (T 28) (T 27))]
def n4i:LO:=[o 30 (mv 28),o 31 (.idxSl 5 (T 26) (T 28)),o 32 (ln 5 31),o 9 (.alloc [aE,aE,aE,aE,aE]),o 8 (mv 30),on (st 5 9 32)]
def n3a:LO:=[o 33 (mv 1),o 34 (mv 8),o 35 (.sliceV 5 (T 33) none (some (T 34)) none),o 36 (.func (.func 25) [] [(T 9)]),o 37 (.call (cf 24) [(T 35),(T 36)])]
def n4b:LO:=[o 4 (mi 9)]
def o5q:A0:=.seq (.region n3a) (.cond (T 37) (.seq (.region n4b) .ret) .skip)
def n9y:LO:=[o 38 (.bin .add (T 28) (ci 1)),o 28 (mv 38)]
def o7c:A0:=.seq (.cond (T 29) .skip (.exit 2)) (.seq (.block 3 (.seq (.region n4i) o5q)) (.region n9y))
def o4j:A0:=.seq (.region n8k) o7c
def m1d:LO:=[o 4 (mi 0)]
def o4w:A0:=.seq (.seq (.region n2j) (.block 2 (.loop o4j))) (.seq (.region m1d) .ret)
def o66:A0:=.seq o37 (.seq (.seq (.region o4f) (.block 0 (.loop o3q))) o4w)
def i4f:A0:=.seq (.region o3s) o66
theorem fn8:B0 Tryz.prog 8=some (39,i4f,[.tmp 4]):=by kernel_rfl
def n7r:LO:=[o 2 (bx 0),o 3 (mb false)]
def m7v:LO:=[o 4 (ln 5 2),o 5 (ln 5 1),o 6 (.call (cf 26) [(T 4),(T 5)]),o 3 (mv 6)]
def i4t:A0:=.seq (.region n7r) (.seq (.region m7v) .ret)
theorem o6z:B0 Tryz.prog 25=some (7,i4t,[.tmp 3]):=by kernel_rfl
def m0p:LO:=[o 2 (bx 0),o 3 (bx 1),o 4 (mb false)]
def m1z:LO:=[o 11 (fa 1 2),o 12 (ld 11),o 13 (.call (cf 52) [(T 12)]),o 10 (mv 13),o 14 (.extract 0 (T 10)),o 15 (.extract 1 (T 10)),o 5 (mv 14),o 6 (mv 15)]
def o0b:LO:=[o 17 (fa 1 3),o 18 (ld 17),o 19 (.call (cf 52) [(T 18)]),o 16 (mv 19),o 20 (.extract 0 (T 16)),o 21 (.extract 1 (T 16)),o 7 (mv 20),o 8 (mv 21)]
def n21:LO:=[o 22 (fa 0 2),o 23 (ld 22),o 24 (fa 0 3),o 25 (ld 24),o 26 (.bin .neq (T 23) (T 25)),o 27 (mv 26),og 28 (mv 5) 27 false,og 29 (.len false (T 28)) 27 false,og 30 (mv 7) 27 false,og 31 (.len false (T 30)) 27 false,og 32 (.bin .neq (T 29) (T 31)) 27 false,o 33 (.pick (T 27) (cb true) (T 32))]
def o1d:LO:=[o 4 (mb false)]
def m0g:A0:=.seq (.region n21) (.cond (T 33) (.seq (.region o1d) .ret) .skip)
def k34:LO:=[o 34 (mv 5),o 35 (.len false (T 34)),o 36 (mi 0)]
def l4d:LO:=[o 37 (.bin .lss (T 36) (T 35))]
def l73:LO:=[o 38 (mv 36),o 9 (mv 38)]
def l5c:LO:=[o 39 (mv 5),o 40 (mv 9),o 41 (.idxSl 1 (T 39) (T 40)),o 42 (ld 41),o 43 (.call (cf 59) [(T 42)]),o 44 (mv 43),og 45 (mv 7) 44 true,og 46 (mv 9) 44 true,og 47 (.idxSl 1 (T 45) (T 46)) 44 true,og 48 (ld 47) 44 true,og 49 (.call (cf 59) [(T 48)]) 44 true,o 50 (.pick (T 44) (T 49) (cb false)),o 51 (mv 50),og 52 (mv 5) 51 true,og 53 (mv 9) 51 true,og 54 (.idxSl 1 (T 52) (T 53)) 51 true,og 55 (ld 54) 51 true,og 56 (mv 7) 51 true,og 57 (mv 9) 51 true,og 58 (.idxSl 1 (T 56) (T 57)) 51 true,og 59 (ld 58) 51 true]
def g3d:LO:=[og 60 (.bin .neq (T 55) (T 59)) 51 true,o 61 (.pick (T 51) (T 60) (cb false))]
def e9l:LN:=[[],[],[0,1],[2],[3],[4],[5],[5],[5,6,7],[5,8],[5,9],[5,10],[10,11],[12],[12],[12,13,14],[12,15],[12],[12],[12,17,18],[12,19]]
def j7i:LO:=[o 4 (mb false)]
def n0p:A0:=.seq (.drawn e9l l5c g3d) (.cond (T 61) (.seq (.region j7i) .ret) .skip)
def l7p:LO:=[o 62 (.bin .add (T 36) (ci 1)),o 36 (mv 62)]
def n91:A0:=.seq (.block 1 (.seq (.region l73) n0p)) (.region l7p)
def n5a:A0:=.seq (.region l4d) (.seq (.cond (T 37) .skip (.exit 0)) n91)
def i9e:LO:=[o 4 (mb true)]
def m46:A0:=.seq (.seq (.region k34) (.block 0 (.loop n5a))) (.seq (.region i9e) .ret)
def n7y:A0:=.seq (.region m1z) (.seq (.region o0b) (.seq m0g m46))
def j8n:A0:=.seq (.region m0p) n7y
theorem o5c:B0 Tryz.prog 26=some (63,j8n,[.tmp 4]):=by kernel_rfl
def n3x:LO:=[o 4 (mb false)]
def o0v:LO:=[o 5 (mv 0),o 6 (mv 1),o 7 (.call (cf 58) [(T 5),(T 6)]),o 8 (.bin .geq (T 7) (ci 0)),o 4 (mv 8)]
def j05:A0:=.seq (.region n3x) (.seq (.region o0v) .ret)
theorem o4a:B0 Tryz.prog 24=some (9,j05,[.tmp 4]):=by kernel_rfl
def m60:LO:=[o 4 (mi 0)]
def m87:LO:=[o 6 (mv 0),o 7 (.len false (T 6)),o 8 (mi 0)]
def n0j:LO:=[o 9 (.bin .lss (T 8) (T 7))]
def n6i:LO:=[o 10 (mv 8),o 5 (mv 10)]
def n25:LO:=[o 11 (mv 1),o 12 (mv 0),o 13 (mv 5),o 14 (.idxSl 5 (T 12) (T 13)),o 15 (ln 5 14),o 16 (.call (T 11) [(T 15)])]
def n7x:LO:=[o 17 (mv 5),o 4 (mv 17)]
def m6r:A0:=.seq (.region n25) (.cond (T 16) (.seq (.region n7x) .ret) .skip)
def j7b:LO:=[o 18 (.bin .add (T 8) (ci 1)),o 8 (mv 18)]
def n2m:A0:=.seq (.block 1 (.seq (.region n6i) m6r)) (.region j7b)
def o01:A0:=.seq (.region n0j) (.seq (.cond (T 9) .skip (.exit 0)) n2m)
def j7k:LO:=[o 4 (mi (-1))]
def n6n:A0:=.seq (.seq (.region m87) (.block 0 (.loop o01))) (.seq (.region j7k) .ret)
def j0w:A0:=.seq (.region m60) n6n
theorem o5y:B0 Tryz.prog 58=some (19,j0w,[.tmp 4]):=by kernel_rfl
theorem A1{P:Program}{T:Tbl}{g:Nat}{x:Nat × A0 × List b0j}(h:B0 P g=some x)(t:W1 P T)(hc:m8n x.2.1=false:=by rfl)(hk:j66 x.2.1=none:=by rfl):W1 P ((g,x)::T):=by
 intro f y hf;rcases List.mem_cons.1 hf with e|hf
 ·cases e;unfold d8k;rw[hk,hc];exact h
 ·exact t f y hf
theorem g83{P:Program}:W1 P []:=fun _ _ h=>by cases h
def o23:Tbl:=[
 (7,(186,o3m,[.tmp 0])),
 (22,(14,k71,[.tmp 2])),
 (21,(35,l8v,[.tmp 2])),
 (51,(19,j09,[.tmp 4,.tmp 5])),
 (50,(37,l1n,[.tmp 2])),
 (45,(14,i2w,[.tmp 2])),
 (43,(17,h71,[.tmp 4])),
 (20,(53,l77,[.cell 8 (some 2)])),
 (49,(32,k5h,[.tmp 6,.tmp 7])),
 (116,(75,d5h,[.tmp 4])),
 (197,(25,e6w,[])),
 (275,(30,e3j,[])),
 (115,(8,e5q,[.tmp 2,.tmp 3])),
 (114,(59,d1w,[.tmp 2,.tmp 3])),
 (113,(40,e4k,[.tmp 6,.tmp 7])),
 (196,(86,e41,[.cell 6 (some 7)])),
 (102,(20,e2x,[.tmp 4])),
 (182,(6,e7w,[.tmp 2])),
 (273,(27,e6o,[.tmp 2])),
 (180,(20,e4m,[.tmp 2])),
 (252,(28,e1f,[.tmp 2])),
 (299,(9,e3s,[.tmp 2])),
 (164,(9,e6l,[.tmp 2])),
 (272,(67,d17,[.cell 6 (some 7)])),
 (356,(17,e7i,[.cell 6 (some 7)])),
 (179,(14,e6m,[.cell 2 (some 7)])),
 (163,(12,e1j,[.cell 4 (some 8),.tmp 5])),
 (237,(20,e1r,[.cell 4 (some 8),.tmp 5])),
 (305,(19,e22,[.tmp 4])),
 (236,(8,e6k,[.tmp 3])),
 (100,(9,.region e19,[])),
 (181,(63,e4w,[])),
 (253,(53,e2c,[])),
 (97,(40,l8e,[.tmp 2])),
 (174,(10,e1h,[.tmp 4])),
 (173,(9,.region e2o,[])),
 (245,(63,e4i,[])),
 (314,(53,e6g,[])),
 (159,(8,e16,[.tmp 2])),
 (96,(8,j5r,[.tmp 2])),
 (195,(86,d4m,[])),
 (271,(43,e5b,[.tmp 2])),
 (355,(8,e0x,[.tmp 4])),
 (414,(32,e2p,[.tmp 4])),
 (445,(15,e7e,[.tmp 2])),
 (353,(20,e1w,[.tmp 2])),
 (413,(41,e3x,[.tmp 6])),
 (438,(16,e7d,[.tmp 6])),
 (370,(18,e5m,[.tmp 4])),
 (328,(39,e4p,[.tmp 4])),
 (378,(28,e1o,[.tmp 4])),
 (337,(6,e6d,[.tmp 2])),
 (403,(16,e6a,[.tmp 2])),
 (270,(58,e3z,[])),
 (255,(40,e4r,[.tmp 6])),
 (194,(45,d19,[.tmp 2])),
 (193,(32,e4c,[.tmp 6])),
 (269,(77,d3o,[.tmp 8])),
 (347,(69,e6s,[.tmp 10])),
 (410,(59,d2y,[.tmp 8])),
 (462,(49,e5n,[.tmp 8])),
 (346,(74,e2w,[.tmp 2])),
 (441,(31,e4o,[.tmp 8])),
 (409,(9,e4j,[.tmp 3])),
 (242,(9,e6n,[.tmp 4])),
 (311,(19,e07,[.tmp 4])),
 (95,(23,h6b,[.tmp 2])),
 (172,(40,e2i,[.tmp 2])),
 (92,(8,j61,[.tmp 2])),
 (162,(15,e4v,[.tmp 4,.tmp 5])),
 (235,(8,e6f,[.tmp 3])),
 (234,(19,e30,[.tmp 4])),
 (48,(45,e06,[.cell 2 (some 2),.tmp 3])),
 (192,(18,e2r,[.cell 4 (some 7),.tmp 5])),
 (268,(8,e1d,[.tmp 4])),
 (344,(19,e1x,[.tmp 4])),
 (111,(68,e4h,[.cell 4 (some 3)])),
 (190,(19,e3m,[.tmp 4])),
 (264,(19,e2b,[.tmp 4])),
 (189,(12,e6y,[.tmp 2])),
 (117,(19,e21,[.tmp 4])),
 (53,(9,k7a,[.tmp 4])),
 (110,(7,e6z,[.tmp 2])),
 (188,(99,d32,[.tmp 2])),
 (263,(106,e5u,[.tmp 4])),
 (340,(10,e04,[.tmp 2])),
 (396,(27,d5t,[.tmp 2])),
 (81,(36,k3j,[.tmp 2])),
 (151,(27,e2e,[.tmp 2])),
 (338,(15,e7c,[])),
 (404,(31,e5d,[.tmp 4])),
 (257,(27,e2a,[])),
 (334,(11,e4x,[.tmp 2])),
 (329,(9,e7o,[.tmp 4])),
 (394,(19,e1e,[.tmp 4])),
 (150,(8,e00,[.tmp 4])),
 (217,(66,d3m,[.tmp 8])),
 (216,(143,d2d,[.tmp 4])),
 (107,(8,e3t,[.tmp 4])),
 (288,(34,e3r,[.tmp 4])),
 (80,(19,j5v,[.tmp 2])),
 (331,(19,e5j,[.cell 4 (some 5),.tmp 5])),
 (395,(8,e4n,[.tmp 3])),
 (343,(8,e40,[.tmp 4])),
 (407,(9,e5h,[.tmp 4])),
 (440,(19,e1n,[.tmp 4])),
 (336,(52,e5p,[])),
 (261,(79,e3w,[.tmp 6])),
 (339,(11,e6j,[.tmp 6])),
 (332,(30,e4a,[.tmp 2])),
 (335,(112,e4t,[])),
 (402,(59,e7q,[.tmp 4])),
 (436,(34,e1p,[.tmp 2])),
 (401,(50,e39,[.tmp 4])),
 (431,(9,e0y,[.tmp 4])),
 (380,(19,e2n,[.tmp 4])),
 (400,(57,e7g,[.tmp 4])),
 (399,(19,e2k,[.tmp 4])),
 (398,(5,e7a,[.tmp 2])),
 (397,(12,e4l,[.tmp 6])),
 (432,(16,e3q,[.tmp 5])),
 (260,(42,e08,[.tmp 2])),
 (259,(19,e1m,[.tmp 2])),
 (330,(10,e5w,[.tmp 4])),
 (258,(20,e4y,[.tmp 2])),
 (256,(56,d34,[.cell 2 (some 3)])),
 (46,(20,j9z,[.cell 2 (some 2)])),
 (108,(12,e18,[.tmp 2])),
 (36,(39,l5k,[.cell 4 (some 5),.tmp 5])),
 (82,(36,i9b,[.cell 4 (some 5),.tmp 5])),
 (154,(8,e1k,[.tmp 3])),
 (153,(21,e6i,[.cell 4 (some 5),.tmp 5])),
 (152,(12,e7u,[.cell 4 (some 3),.tmp 5])),
 (219,(8,e3a,[.tmp 3])),
 (218,(21,e01,[.cell 4 (some 3),.tmp 5])),
 (79,(13,j2j,[.tmp 4,.tmp 5,.tmp 6])),
 (149,(23,e5k,[.tmp 4,.tmp 5,.tmp 6])),
 (19,(56,l2d,[.tmp 2,.tmp 3])),
 (44,(8,h7h,[.tmp 4])),
 (18,(69,l8n,[.cell 6 (some 4),.tmp 7])),
 (42,(100,l1h,[.cell 8 (some 4),.tmp 9])),
 (105,(119,d4d,[.tmp 10,.tmp 11])),
 (185,(51,e3h,[.tmp 8,.tmp 9])),
 (183,(17,e1c,[.tmp 6])),
 (88,(33,i0b,[.cell 4 (some 7),.tmp 5])),
 (158,(12,e4z,[.tmp 4,.tmp 5])),
 (227,(9,e11,[.tmp 4])),
 (226,(49,e6x,[.tmp 6,.tmp 7])),
 (104,(47,e5x,[.cell 4 (some 7)])),
 (184,(33,e1a,[.tmp 6])),
 (103,(90,d21,[.tmp 8,.cell 9 (some 7),.tmp 10])),
 (90,(48,h7n,[.cell 6 (some 8)])),
 (87,(19,i9n,[.tmp 2])),
 (86,(81,e4g,[.tmp 6,.tmp 7])),
 (122,(23,e2u,[.cell 4 (some 16),.tmp 5])),
 (198,(8,e7n,[.tmp 3])),
 (175,(21,e1b,[.cell 4 (some 16),.tmp 5])),
 (93,(12,i2j,[.cell 4 (some 5),.tmp 5])),
 (166,(8,e4s,[.tmp 3])),
 (165,(21,e48,[.cell 4 (some 5),.tmp 5])),
 (67,(33,i8r,[.tmp 2,.tmp 3])),
 (52,(42,k1e,[.tmp 2,.tmp 3])),
 (66,(46,i0h,[.tmp 2,.tmp 3])),
 (59,(29,i2t,[.tmp 2])),
 (55,(52,l5o,[.cell 6 (some 16),.tmp 7])),
 (41,(64,i30,[.cell 6 (some 7)])),
 (99,(87,e3g,[.cell 6 (some 7),.tmp 7])),
 (177,(17,e3i,[.cell 6 (some 7)])),
 (98,(12,h4k,[.cell 4 (some 16),.tmp 5])),
 (176,(8,e1y,[.tmp 3])),
 (40,(28,l05,[.tmp 6])),
 (94,(77,e3u,[.tmp 8])),
 (312,(12,e2s,[.cell 4 (some 5),.tmp 5])),
 (384,(21,e6v,[.cell 4 (some 5),.tmp 5])),
 (169,(8,e43,[.tmp 4])),
 (243,(8,e2q,[.tmp 3])),
 (168,(63,e02,[.tmp 10])),
 (241,(61,d37,[.tmp 8])),
 (381,(57,e7t,[.tmp 6])),
 (167,(74,e7h,[.tmp 2])),
 (309,(31,e3f,[.tmp 8])),
 (239,(12,e1s,[.tmp 4])),
 (238,(8,e3k,[.tmp 3])),
 (35,(9,j45,[.tmp 4])),
 (34,(16,j0e,[.cell 2 (some 5),.tmp 3])),
 (23,(80,e17,[.tmp 4])),
 (56,(9,k68,[.tmp 4])),
 (123,(19,e1i,[.tmp 4])),
 (54,(68,i7m,[.tmp 6,.tmp 7])),
 (119,(11,e1u,[.tmp 2])),
 (118,(33,e2z,[.tmp 2])),
 (91,(13,h7d,[.tmp 2])),
 (17,(139,e1t,[.tmp 6,.cell 7 (some 7),.tmp 8])),
 (39,(111,e45,[.cell 10 (some 7),.tmp 11])),
 (89,(20,i66,[.cell 6 (some 7),.tmp 7])),
 (161,(103,d4g,[.cell 6 (some 7),.tmp 7])),
 (230,(53,e5f,[.cell 4 (some 7),.tmp 5])),
 (301,(46,e5e,[.cell 4 (some 7),.tmp 5])),
 (420,(172,d25,[.tmp 6,.tmp 7])),
 (376,(34,e20,[.tmp 2])),
 (373,(8,e37,[.tmp 4])),
 (422,(13,e0z,[.tmp 4])),
 (372,(26,e4f,[.tmp 6,.tmp 7])),
 (85,(54,k95,[.cell 6 (some 7)])),
 (160,(95,d5r,[.tmp 6])),
 (38,(58,k0v,[.cell 8 (some 7),.tmp 9])),
 (37,(85,l5r,[.cell 8 (some 7),.tmp 9])),
 (11,(31,i5n,[.tmp 6,.tmp 7,.tmp 8])),
 (29,(97,e5o,[.tmp 6,.tmp 7])),
 (16,(19,j2a,[.cell 0 (some 3),.cell 1 (some 5)])),
 (13,(69,j93,[.tmp 4])),
 (8,(39,i4f,[.tmp 4])),
 (25,(7,i4t,[.tmp 3])),
 (26,(63,j8n,[.tmp 4])),
 (24,(9,j05,[.tmp 4])),
 (58,(19,j0w,[.tmp 4]))]
theorem g9m:W1 Tryz.prog o23:=
 A1 fn7 (A1 o39 (A1 o6b (A1 o5o (A1 o7a (A1 o4m (A1 o7i (A1 o62 (A1 o5r (A1 n5w (A1 n6y (A1 n48 (A1 m98 (A1 m6a (A1 n1x (A1 m4y (A1 m4k (A1 n44 (A1 o0t (A1 n7p (A1 n80 (A1 n31 (A1 m0x (A1 n2l (A1 n9w (A1 o0q (A1 n9k (A1 n15 (A1 m3x (A1 n5r (A1 m64 (A1 m77 (A1 m6p (A1 o4r (A1 m8c (A1 m7m (A1 o0y (A1 n9a (A1 m9g (A1 o51 (A1 n6v (A1 n9b (A1 n7t (A1 n9s (A1 n3u (A1 m4m (A1 m1i (A1 l9w (A1 m0j (A1 m8u (A1 n5h (A1 n53 (A1 m0v (A1 n1b (A1 m9i (A1 m2v (A1 m9o (A1 n4p (A1 n1m (A1 o0j (A1 l96 (A1 n9e (A1 o1r (A1 n82 (A1 o1h (A1 m6o (A1 o7h (A1 o1x (A1 o7k (A1 n6x (A1 o05 (A1 n61 (A1 o5p (A1 n27 (A1 n60 (A1 n0o (A1 m7x (A1 n0s (A1 n4e (A1 n03 (A1 m4c (A1 o35 (A1 m22 (A1 n5q (A1 m47 (A1 m68 (A1 m0c (A1 o46 (A1 n46 (A1 m4b (A1 n97 (A1 m3l (A1 m34 (A1 m4g (A1 m06 (A1 m1q (A1 m5r (A1 m7g (A1 n17 (A1 n0u (A1 o42 (A1 n70 (A1 n8f (A1 n87 (A1 m9f (A1 n9m (A1 n7v (A1 m6k (A1 n8g (A1 o14 (A1 n2f (A1 m62 (A1 m4f (A1 n4k (A1 n1o (A1 n56 (A1 n3v (A1 m3t (A1 n1n (A1 m80 (A1 m61 (A1 n74 (A1 n3n (A1 o0s (A1 o13 (A1 m8z (A1 o5g (A1 o10 (A1 o5f (A1 o34 (A1 o1y (A1 n0x (A1 n4q (A1 m19 (A1 m4e (A1 o47 (A1 m5n (A1 o44 (A1 o6t (A1 o40 (A1 o49 (A1 m8b (A1 n76 (A1 o1c (A1 o69 (A1 m40 (A1 n4r (A1 n5c (A1 m4r (A1 n1c (A1 m3r (A1 o4t (A1 o5w (A1 o5b (A1 m9y (A1 m8w (A1 l9z (A1 o52 (A1 m3b (A1 n6h (A1 o45 (A1 o4o (A1 o6e (A1 o4n (A1 o3r (A1 o5u (A1 o56 (A1 o0p (A1 o6w (A1 n6t (A1 o4x (A1 o64 (A1 n5j (A1 o12 (A1 n5o (A1 m1r (A1 m9k (A1 n0z (A1 m20 (A1 n01 (A1 n6a (A1 n32 (A1 m5k (A1 o5d (A1 o5e (A1 o50 (A1 o68 (A1 m2x (A1 o53 (A1 n3o (A1 n1i (A1 o6s (A1 o4k (A1 o4g (A1 o4d (A1 m25 (A1 m4h (A1 m76 (A1 m3s (A1 m4l (A1 n4u (A1 o17 (A1 n5m (A1 o6x (A1 n4j (A1 o3y (A1 o65 (A1 o67 (A1 o7f (A1 o3t (A1 o63 (A1 fn8 (A1 o6z (A1 o5c (A1 o4a (A1 o5y g83)))))))))))))))))))))))))))))))))))))))))))))))))))))))))))))))))))))))))))))))))))))))))))))))))))))))))))))))))))))))))))))))))))))))))))))))))))))))))))))))))))))))))))))))))))))))))))))))))))))))))))))))))))))))
def tbl:Tbl:=(106,121,.from_ .skip 0,[])::o23
theorem a26:W1 Tryz.prog tbl:=by
 intro g x hm;rcases List.mem_cons.1 hm with h|h
 ·cases h;exact m0s
 ·exact g9m g x h
def gl0:List (Nat × List AV):=[(1,[.v (.string ⟨#[111,107]⟩),.v (.string ⟨#[99,97,110,99,101,108,108,101,100]⟩),.v (.string ⟨#[105,110,118,97,108,105,100]⟩),.v (.string ⟨#[100,101,97,100,108,105,110,101]⟩),.v (.string ⟨#[110,111,116,95,102,111,117,110,100]⟩),.v (.string ⟨#[101,120,105,115,116,115]⟩),.v (.string ⟨#[100,101,110,105,101,100]⟩),.v (.string ⟨#[101,120,104,97,117,115,116,101,100]⟩),.v (.string ⟨#[102,97,105,108,101,100]⟩),.v (.string ⟨#[97,98,111,114,116,101,100]⟩),.v (.string ⟨#[117,110,105,109,112,108,101,109,101,110,116,101,100]⟩),.v (.string ⟨#[105,110,116,101,114,110,97,108]⟩),.v (.string ⟨#[117,110,97,118,97,105,108,97,98,108,101]⟩),.v (.string ⟨#[100,97,116,97,95,108,111,115,115]⟩)])]
def X6(f:Nat)(md:Bool):Bool:=if [85,104].contains f then true else if [159,160,184].contains f then md else false
def kn0:List AV:=[(.tuple [(.v (.int .i64 0)),(.sl [[(.v (.string ⟨#[105,100]⟩)),(.v (.string ⟨#[55]⟩))]] .no),(.v (.int .i64 0))]),(.sl [[(.v (.string ⟨#[71,69,84]⟩)),(.v (.string ⟨#[47,117,115,101,114,115,47,123,105,100,125]⟩)),(.v (.string ⟨#[83]⟩)),(.v (.string ⟨#[71,101,116]⟩)),(.v (.string ⟨#[]⟩))]] .full),(.v (.string ⟨#[71,69,84]⟩)),(.v (.string ⟨#[47,117,115,101,114,115,47,55]⟩))]
def kn1:List AV:=[(.tuple [(.agg [(.sl [[(.v (.string ⟨#[77]⟩)),(.sl [[(.v (.int .i64 1)),(.v (.string ⟨#[105,100]⟩)),(.v (.string ⟨#[]⟩)),(.v (.int .i64 3)),(.v (.int .i64 0)),(.v (.int .i64 4)),(.v (.int .i64 (-1))),(.v (.int .i64 (-1)))],[(.v (.int .i64 2)),(.v (.string ⟨#[116,97,103]⟩)),(.v (.string ⟨#[]⟩)),(.v (.int .i64 4)),(.v (.int .i64 0)),(.v (.int .i64 7)),(.v (.int .i64 (-1))),(.v (.int .i64 (-1)))]] .no),(.v (.int .i64 0))]] .no),.nil]),(.v (.int .i64 0))]),(.agg [(.sl [[(.v (.string ⟨#[77]⟩)),(.sl [[(.v (.int .i64 1)),(.v (.string ⟨#[105,100]⟩)),(.v (.int .i64 3)),(.v (.int .i64 0)),(.v (.int .i64 4)),(.v (.string ⟨#[]⟩)),(.v (.string ⟨#[]⟩)),(.v (.bool false)),(.v (.int .i64 0)),(.v (.int .u64 0)),(.v (.string ⟨#[]⟩)),.nil,.nil,.nil,.nil,.nil],[(.v (.int .i64 2)),(.v (.string ⟨#[116,97,103]⟩)),(.v (.int .i64 4)),(.v (.int .i64 0)),(.v (.int .i64 7)),(.v (.string ⟨#[]⟩)),(.v (.string ⟨#[]⟩)),(.v (.bool false)),(.v (.int .i64 0)),(.v (.int .u64 0)),(.v (.string ⟨#[]⟩)),.nil,.nil,.nil,.nil,.nil]] .full),.nil,.nil,.nil]] .full),.nil,(.sl [[(.v (.string ⟨#[83]⟩)),(.sl [[(.v (.string ⟨#[71,101,116]⟩)),(.v (.string ⟨#[77]⟩)),(.v (.string ⟨#[77]⟩)),(.v (.int .i64 1)),.nil]] .full),.nil]] .full)])]
def kn2:List AV:=[(.v (.int .i64 0)),(.agg [(.sl [[(.v (.string ⟨#[77]⟩)),(.sl [[(.v (.int .i64 1)),(.v (.string ⟨#[105,100]⟩)),(.v (.int .i64 3)),(.v (.int .i64 0)),(.v (.int .i64 4)),(.v (.string ⟨#[]⟩)),(.v (.string ⟨#[]⟩)),(.v (.bool false)),(.v (.int .i64 0)),(.v (.int .u64 0)),(.v (.string ⟨#[]⟩)),.nil,.nil,.nil,.nil,.nil],[(.v (.int .i64 2)),(.v (.string ⟨#[116,97,103]⟩)),(.v (.int .i64 4)),(.v (.int .i64 0)),(.v (.int .i64 7)),(.v (.string ⟨#[]⟩)),(.v (.string ⟨#[]⟩)),(.v (.bool false)),(.v (.int .i64 0)),(.v (.int .u64 0)),(.v (.string ⟨#[]⟩)),.nil,.nil,.nil,.nil,.nil]] .full),.nil,.nil,.nil]] .full),.nil,(.sl [[(.v (.string ⟨#[83]⟩)),(.sl [[(.v (.string ⟨#[71,101,116]⟩)),(.v (.string ⟨#[77]⟩)),(.v (.string ⟨#[77]⟩)),(.v (.int .i64 1)),.nil]] .full),.nil]] .full)]),(.agg [(.v (.string ⟨#[71,69,84]⟩)),(.v (.string ⟨#[47,117,115,101,114,115,47,123,105,100,125]⟩)),(.v (.string ⟨#[83]⟩)),(.v (.string ⟨#[71,101,116]⟩)),(.v (.string ⟨#[]⟩))])]
def kn3:List AV:=[(.v (.int .i64 0)),(.agg [(.sl [[(.v (.string ⟨#[77]⟩)),(.sl [[(.v (.int .i64 1)),(.v (.string ⟨#[105,100]⟩)),(.v (.int .i64 3)),(.v (.int .i64 0)),(.v (.int .i64 4)),(.v (.string ⟨#[]⟩)),(.v (.string ⟨#[]⟩)),(.v (.bool false)),(.v (.int .i64 0)),(.v (.int .u64 0)),(.v (.string ⟨#[]⟩)),.nil,.nil,.nil,.nil,.nil],[(.v (.int .i64 2)),(.v (.string ⟨#[116,97,103]⟩)),(.v (.int .i64 4)),(.v (.int .i64 0)),(.v (.int .i64 7)),(.v (.string ⟨#[]⟩)),(.v (.string ⟨#[]⟩)),(.v (.bool false)),(.v (.int .i64 0)),(.v (.int .u64 0)),(.v (.string ⟨#[]⟩)),.nil,.nil,.nil,.nil,.nil]] .full),.nil,.nil,.nil]] .full),.nil,(.sl [[(.v (.string ⟨#[83]⟩)),(.sl [[(.v (.string ⟨#[71,101,116]⟩)),(.v (.string ⟨#[77]⟩)),(.v (.string ⟨#[77]⟩)),(.v (.int .i64 1)),.nil]] .full),.nil]] .full)]),(.v (.string ⟨#[77]⟩)),(.agg [(.v (.int .i64 10)),(.v (.int .u64 0)),(.v (.string ⟨#[]⟩)),.nil,.nil,(.sl [[(.v (.int .i64 1)),(.v (.int .i64 4)),(.v (.int .u64 7)),(.v (.string ⟨#[]⟩)),.nil,.nil,.nil,.nil],[(.v (.int .i64 2)),(.v (.int .i64 11)),(.v (.int .u64 0)),(.v (.string ⟨#[]⟩)),(.sl [[(.v (.int .i64 7)),(.v (.int .u64 0)),(.v (.string ⟨#[97,32,98]⟩)),.nil,.nil,.nil,.nil]] .no),.nil,.nil,.nil]] .no),.nil])]
def kn4:List AV:=[(.agg [(.v (.int .i64 10)),(.v (.int .u64 0)),(.v (.string ⟨#[]⟩)),.nil,.nil,(.sl [[(.v (.int .i64 1)),(.v (.int .i64 4)),(.v (.int .u64 7)),(.v (.string ⟨#[]⟩)),.nil,.nil,.nil,.nil],[(.v (.int .i64 2)),(.v (.int .i64 11)),(.v (.int .u64 0)),(.v (.string ⟨#[]⟩)),(.sl [[(.v (.int .i64 7)),(.v (.int .u64 0)),(.v (.string ⟨#[97,32,98]⟩)),.nil,.nil,.nil,.nil]] .no),.nil,.nil,.nil]] .no),.nil]),(.agg [(.sl [[(.v (.string ⟨#[77]⟩)),(.sl [[(.v (.int .i64 1)),(.v (.string ⟨#[105,100]⟩)),(.v (.int .i64 3)),(.v (.int .i64 0)),(.v (.int .i64 4)),(.v (.string ⟨#[]⟩)),(.v (.string ⟨#[]⟩)),(.v (.bool false)),(.v (.int .i64 0)),(.v (.int .u64 0)),(.v (.string ⟨#[]⟩)),.nil,.nil,.nil,.nil,.nil],[(.v (.int .i64 2)),(.v (.string ⟨#[116,97,103]⟩)),(.v (.int .i64 4)),(.v (.int .i64 0)),(.v (.int .i64 7)),(.v (.string ⟨#[]⟩)),(.v (.string ⟨#[]⟩)),(.v (.bool false)),(.v (.int .i64 0)),(.v (.int .u64 0)),(.v (.string ⟨#[]⟩)),.nil,.nil,.nil,.nil,.nil]] .full),.nil,.nil,.nil]] .full),.nil,(.sl [[(.v (.string ⟨#[83]⟩)),(.sl [[(.v (.string ⟨#[71,101,116]⟩)),(.v (.string ⟨#[77]⟩)),(.v (.string ⟨#[77]⟩)),(.v (.int .i64 1)),.nil]] .full),.nil]] .full)]),(.v (.string ⟨#[77]⟩)),(.agg [(.v (.int .i64 10)),(.v (.int .u64 0)),(.v (.string ⟨#[]⟩)),.nil,.nil,(.sl [[(.v (.int .i64 1)),(.v (.int .i64 4)),(.v (.int .u64 7)),(.v (.string ⟨#[]⟩)),.nil,.nil,.nil,.nil],[(.v (.int .i64 2)),(.v (.int .i64 11)),(.v (.int .u64 0)),(.v (.string ⟨#[]⟩)),(.sl [[(.v (.int .i64 7)),(.v (.int .u64 0)),(.v (.string ⟨#[97,32,98]⟩)),.nil,.nil,.nil,.nil]] .no),.nil,.nil,.nil]] .no),.nil])]
def kn5:List AV:=[(.tuple [(.v (.string ⟨#[83,47,71,101,116]⟩)),(.agg [(.v (.int .i64 10)),(.v (.int .u64 0)),(.v (.string ⟨#[]⟩)),.nil,.nil,(.sl [[(.v (.int .i64 1)),(.v (.int .i64 4)),(.v (.int .u64 7)),(.v (.string ⟨#[]⟩)),.nil,.nil,.nil,.nil],[(.v (.int .i64 2)),(.v (.int .i64 11)),(.v (.int .u64 0)),(.v (.string ⟨#[]⟩)),(.sl [[(.v (.int .i64 7)),(.v (.int .u64 0)),(.v (.string ⟨#[97,32,98]⟩)),.nil,.nil,.nil,.nil]] .no),.nil,.nil,.nil]] .no),.nil]),(.v (.int .i64 0))]),(.agg [(.sl [[(.v (.string ⟨#[77]⟩)),(.sl [[(.v (.int .i64 1)),(.v (.string ⟨#[105,100]⟩)),(.v (.int .i64 3)),(.v (.int .i64 0)),(.v (.int .i64 4)),(.v (.string ⟨#[]⟩)),(.v (.string ⟨#[]⟩)),(.v (.bool false)),(.v (.int .i64 0)),(.v (.int .u64 0)),(.v (.string ⟨#[]⟩)),.nil,.nil,.nil,.nil,.nil],[(.v (.int .i64 2)),(.v (.string ⟨#[116,97,103]⟩)),(.v (.int .i64 4)),(.v (.int .i64 0)),(.v (.int .i64 7)),(.v (.string ⟨#[]⟩)),(.v (.string ⟨#[]⟩)),(.v (.bool false)),(.v (.int .i64 0)),(.v (.int .u64 0)),(.v (.string ⟨#[]⟩)),.nil,.nil,.nil,.nil,.nil]] .full),.nil,.nil,.nil]] .full),.nil,(.sl [[(.v (.string ⟨#[83]⟩)),(.sl [[(.v (.string ⟨#[71,101,116]⟩)),(.v (.string ⟨#[77]⟩)),(.v (.string ⟨#[77]⟩)),(.v (.int .i64 1)),.nil]] .full),.nil]] .full)]),(.sl [[(.v (.string ⟨#[71,69,84]⟩)),(.v (.string ⟨#[47,117,115,101,114,115,47,123,105,100,125]⟩)),(.v (.string ⟨#[83]⟩)),(.v (.string ⟨#[71,101,116]⟩)),(.v (.string ⟨#[]⟩))]] .full),(.agg [(.v (.string ⟨#[71,69,84]⟩)),(.v (.string ⟨#[47,117,115,101,114,115,47,55]⟩)),(.sl [[(.v (.string ⟨#[116,97,103]⟩)),(.v (.string ⟨#[97,32,98]⟩))]] .full),(.v (.string ⟨#[]⟩))])]
def kn6:List AV:=[(.tuple [(.agg [(.v (.string ⟨#[71,69,84]⟩)),(.v (.string ⟨#[47,117,115,101,114,115,47,55]⟩)),(.sl [[(.v (.string ⟨#[116,97,103]⟩)),(.v (.string ⟨#[97,32,98]⟩))]] .no),(.v (.string ⟨#[]⟩))]),(.v (.int .i64 0))]),(.agg [(.sl [[(.v (.string ⟨#[77]⟩)),(.sl [[(.v (.int .i64 1)),(.v (.string ⟨#[105,100]⟩)),(.v (.int .i64 3)),(.v (.int .i64 0)),(.v (.int .i64 4)),(.v (.string ⟨#[]⟩)),(.v (.string ⟨#[]⟩)),(.v (.bool false)),(.v (.int .i64 0)),(.v (.int .u64 0)),(.v (.string ⟨#[]⟩)),.nil,.nil,.nil,.nil,.nil],[(.v (.int .i64 2)),(.v (.string ⟨#[116,97,103]⟩)),(.v (.int .i64 4)),(.v (.int .i64 0)),(.v (.int .i64 7)),(.v (.string ⟨#[]⟩)),(.v (.string ⟨#[]⟩)),(.v (.bool false)),(.v (.int .i64 0)),(.v (.int .u64 0)),(.v (.string ⟨#[]⟩)),.nil,.nil,.nil,.nil,.nil]] .full),.nil,.nil,.nil]] .full),.nil,(.sl [[(.v (.string ⟨#[83]⟩)),(.sl [[(.v (.string ⟨#[71,101,116]⟩)),(.v (.string ⟨#[77]⟩)),(.v (.string ⟨#[77]⟩)),(.v (.int .i64 1)),.nil]] .full),.nil]] .full)]),(.agg [(.v (.string ⟨#[71,69,84]⟩)),(.v (.string ⟨#[47,117,115,101,114,115,47,123,105,100,125]⟩)),(.v (.string ⟨#[83]⟩)),(.v (.string ⟨#[71,101,116]⟩)),(.v (.string ⟨#[]⟩))]),(.agg [(.v (.int .i64 10)),(.v (.int .u64 0)),(.v (.string ⟨#[]⟩)),.nil,.nil,(.sl [[(.v (.int .i64 1)),(.v (.int .i64 4)),(.v (.int .u64 7)),(.v (.string ⟨#[]⟩)),.nil,.nil,.nil,.nil],[(.v (.int .i64 2)),(.v (.int .i64 11)),(.v (.int .u64 0)),(.v (.string ⟨#[]⟩)),(.sl [[(.v (.int .i64 7)),(.v (.int .u64 0)),(.v (.string ⟨#[97,32,98]⟩)),.nil,.nil,.nil,.nil]] .no),.nil,.nil,.nil]] .no),.nil])]
def kn7:List AV:=[(.v (.int .i64 0)),(.agg [(.sl [[(.v (.string ⟨#[77]⟩)),(.sl [[(.v (.int .i64 1)),(.v (.string ⟨#[105,100]⟩)),(.v (.int .i64 3)),(.v (.int .i64 0)),(.v (.int .i64 4)),(.v (.string ⟨#[]⟩)),(.v (.string ⟨#[]⟩)),(.v (.bool false)),(.v (.int .i64 0)),(.v (.int .u64 0)),(.v (.string ⟨#[]⟩)),.nil,.nil,.nil,.nil,.nil],[(.v (.int .i64 2)),(.v (.string ⟨#[116,97,103]⟩)),(.v (.int .i64 4)),(.v (.int .i64 0)),(.v (.int .i64 7)),(.v (.string ⟨#[]⟩)),(.v (.string ⟨#[]⟩)),(.v (.bool false)),(.v (.int .i64 0)),(.v (.int .u64 0)),(.v (.string ⟨#[]⟩)),.nil,.nil,.nil,.nil,.nil]] .full),.nil,.nil,.nil]] .full),.nil,(.sl [[(.v (.string ⟨#[83]⟩)),(.sl [[(.v (.string ⟨#[71,101,116]⟩)),(.v (.string ⟨#[77]⟩)),(.v (.string ⟨#[77]⟩)),(.v (.int .i64 1)),.nil]] .full),.nil]] .full)]),(.v (.string ⟨#[77]⟩)),(.agg [(.v (.int .i64 10)),(.v (.int .u64 0)),(.v (.string ⟨#[]⟩)),.nil,.nil,.nil,.nil])]
def kn8:List AV:=[(.agg [(.v (.int .i64 10)),(.v (.int .u64 0)),(.v (.string ⟨#[]⟩)),.nil,.nil,.nil,.nil]),(.agg [(.sl [[(.v (.string ⟨#[77]⟩)),(.sl [[(.v (.int .i64 1)),(.v (.string ⟨#[105,100]⟩)),(.v (.int .i64 3)),(.v (.int .i64 0)),(.v (.int .i64 4)),(.v (.string ⟨#[]⟩)),(.v (.string ⟨#[]⟩)),(.v (.bool false)),(.v (.int .i64 0)),(.v (.int .u64 0)),(.v (.string ⟨#[]⟩)),.nil,.nil,.nil,.nil,.nil],[(.v (.int .i64 2)),(.v (.string ⟨#[116,97,103]⟩)),(.v (.int .i64 4)),(.v (.int .i64 0)),(.v (.int .i64 7)),(.v (.string ⟨#[]⟩)),(.v (.string ⟨#[]⟩)),(.v (.bool false)),(.v (.int .i64 0)),(.v (.int .u64 0)),(.v (.string ⟨#[]⟩)),.nil,.nil,.nil,.nil,.nil]] .full),.nil,.nil,.nil]] .full),.nil,(.sl [[(.v (.string ⟨#[83]⟩)),(.sl [[(.v (.string ⟨#[71,101,116]⟩)),(.v (.string ⟨#[77]⟩)),(.v (.string ⟨#[77]⟩)),(.v (.int .i64 1)),.nil]] .full),.nil]] .full)]),(.v (.string ⟨#[77]⟩)),(.agg [(.v (.int .i64 10)),(.v (.int .u64 0)),(.v (.string ⟨#[]⟩)),.nil,.nil,.nil,.nil])]
def kn9:List AV:=[(.tuple [(.agg [(.v (.string ⟨#[]⟩)),(.v (.string ⟨#[]⟩)),.nil,(.v (.string ⟨#[]⟩))]),(.v (.int .i64 14))]),(.agg [(.sl [[(.v (.string ⟨#[77]⟩)),(.sl [[(.v (.int .i64 1)),(.v (.string ⟨#[105,100]⟩)),(.v (.int .i64 3)),(.v (.int .i64 0)),(.v (.int .i64 4)),(.v (.string ⟨#[]⟩)),(.v (.string ⟨#[]⟩)),(.v (.bool false)),(.v (.int .i64 0)),(.v (.int .u64 0)),(.v (.string ⟨#[]⟩)),.nil,.nil,.nil,.nil,.nil],[(.v (.int .i64 2)),(.v (.string ⟨#[116,97,103]⟩)),(.v (.int .i64 4)),(.v (.int .i64 0)),(.v (.int .i64 7)),(.v (.string ⟨#[]⟩)),(.v (.string ⟨#[]⟩)),(.v (.bool false)),(.v (.int .i64 0)),(.v (.int .u64 0)),(.v (.string ⟨#[]⟩)),.nil,.nil,.nil,.nil,.nil]] .full),.nil,.nil,.nil]] .full),.nil,(.sl [[(.v (.string ⟨#[83]⟩)),(.sl [[(.v (.string ⟨#[71,101,116]⟩)),(.v (.string ⟨#[77]⟩)),(.v (.string ⟨#[77]⟩)),(.v (.int .i64 1)),.nil]] .full),.nil]] .full)]),(.agg [(.v (.string ⟨#[71,69,84]⟩)),(.v (.string ⟨#[47,117,115,101,114,115,47,123,105,100,125]⟩)),(.v (.string ⟨#[83]⟩)),(.v (.string ⟨#[71,101,116]⟩)),(.v (.string ⟨#[]⟩))]),(.agg [(.v (.int .i64 10)),(.v (.int .u64 0)),(.v (.string ⟨#[]⟩)),.nil,.nil,.nil,.nil])]
def e7s:List AV:=[(.tuple [(.v (.int .i64 0)),(.sl [[(.v (.string ⟨#[105,100]⟩)),(.v (.string ⟨#[32]⟩))]] .no),(.v (.int .i64 0))]),(.sl [[(.v (.string ⟨#[71,69,84]⟩)),(.v (.string ⟨#[47,117,115,101,114,115,47,123,105,100,125]⟩)),(.v (.string ⟨#[83]⟩)),(.v (.string ⟨#[71,101,116]⟩)),(.v (.string ⟨#[]⟩))]] .full),(.v (.string ⟨#[71,69,84]⟩)),(.v (.string ⟨#[47,117,115,101,114,115,47,37,50,48]⟩))]
def h0u:List AV:=[(.tuple [(.v (.string ⟨#[105,100,58,32,55,32,116,97,103,58,32,34,97,32,98,34]⟩)),(.v (.int .i64 0))]),(.agg [(.sl [[(.v (.string ⟨#[77]⟩)),(.sl [[(.v (.int .i64 1)),(.v (.string ⟨#[105,100]⟩)),(.v (.string ⟨#[]⟩)),(.v (.int .i64 3)),(.v (.int .i64 0)),(.v (.int .i64 4)),(.v (.int .i64 (-1))),(.v (.int .i64 (-1)))],[(.v (.int .i64 2)),(.v (.string ⟨#[116,97,103]⟩)),(.v (.string ⟨#[]⟩)),(.v (.int .i64 4)),(.v (.int .i64 0)),(.v (.int .i64 7)),(.v (.int .i64 (-1))),(.v (.int .i64 (-1)))]] .no),(.v (.int .i64 0))]] .no),.nil]),(.v (.string ⟨#[77]⟩)),(.agg [(.v (.int .i64 10)),(.v (.int .u64 0)),(.v (.string ⟨#[]⟩)),.nil,.nil,(.sl [[(.v (.int .i64 1)),(.v (.int .i64 4)),(.v (.int .u64 7)),(.v (.string ⟨#[]⟩)),.nil,.nil,.nil,.nil],[(.v (.int .i64 2)),(.v (.int .i64 11)),(.v (.int .u64 0)),(.v (.string ⟨#[]⟩)),(.sl [[(.v (.int .i64 7)),(.v (.int .u64 0)),(.v (.string ⟨#[97,32,98]⟩)),.nil,.nil,.nil,.nil]] .no),.nil,.nil,.nil]] .no),.nil])]
def h35:List AV:=[(.agg [(.v (.int .i64 200)),(.v (.string ⟨#[105,100,58,32,55,32,116,97,103,58,32,34,97,32,98,34]⟩))]),(.agg [(.sl [[(.v (.string ⟨#[77]⟩)),(.sl [[(.v (.int .i64 1)),(.v (.string ⟨#[105,100]⟩)),(.v (.int .i64 3)),(.v (.int .i64 0)),(.v (.int .i64 4)),(.v (.string ⟨#[]⟩)),(.v (.string ⟨#[]⟩)),(.v (.bool false)),(.v (.int .i64 0)),(.v (.int .u64 0)),(.v (.string ⟨#[]⟩)),.nil,.nil,.nil,.nil,.nil],[(.v (.int .i64 2)),(.v (.string ⟨#[116,97,103]⟩)),(.v (.int .i64 4)),(.v (.int .i64 0)),(.v (.int .i64 7)),(.v (.string ⟨#[]⟩)),(.v (.string ⟨#[]⟩)),(.v (.bool false)),(.v (.int .i64 0)),(.v (.int .u64 0)),(.v (.string ⟨#[]⟩)),.nil,.nil,.nil,.nil,.nil]] .full),.nil,.nil,.nil]] .full),.nil,(.sl [[(.v (.string ⟨#[83]⟩)),(.sl [[(.v (.string ⟨#[71,101,116]⟩)),(.v (.string ⟨#[77]⟩)),(.v (.string ⟨#[77]⟩)),(.v (.int .i64 1)),.nil]] .full),.nil]] .full)]),(.v (.string ⟨#[83,47,71,101,116]⟩)),(.agg [(.v (.int .i64 0)),(.v (.string ⟨#[]⟩))]),(.agg [(.v (.int .i64 10)),(.v (.int .u64 0)),(.v (.string ⟨#[]⟩)),.nil,.nil,(.sl [[(.v (.int .i64 1)),(.v (.int .i64 4)),(.v (.int .u64 7)),(.v (.string ⟨#[]⟩)),.nil,.nil,.nil,.nil],[(.v (.int .i64 2)),(.v (.int .i64 11)),(.v (.int .u64 0)),(.v (.string ⟨#[]⟩)),(.sl [[(.v (.int .i64 7)),(.v (.int .u64 0)),(.v (.string ⟨#[97,32,98]⟩)),.nil,.nil,.nil,.nil]] .no),.nil,.nil,.nil]] .no),.nil])]
def j0t:List AV:=[(.v (.int .i64 0)),(.agg [(.sl [[(.v (.string ⟨#[77]⟩)),(.sl [[(.v (.int .i64 1)),(.v (.string ⟨#[105,100]⟩)),(.v (.int .i64 3)),(.v (.int .i64 0)),(.v (.int .i64 4)),(.v (.string ⟨#[]⟩)),(.v (.string ⟨#[]⟩)),(.v (.bool false)),(.v (.int .i64 0)),(.v (.int .u64 0)),(.v (.string ⟨#[]⟩)),.nil,.nil,.nil,.nil,.nil],[(.v (.int .i64 2)),(.v (.string ⟨#[116,97,103]⟩)),(.v (.int .i64 4)),(.v (.int .i64 0)),(.v (.int .i64 7)),(.v (.string ⟨#[]⟩)),(.v (.string ⟨#[]⟩)),(.v (.bool false)),(.v (.int .i64 0)),(.v (.int .u64 0)),(.v (.string ⟨#[]⟩)),.nil,.nil,.nil,.nil,.nil]] .full),.nil,.nil,.nil]] .full),.nil,(.sl [[(.v (.string ⟨#[83]⟩)),(.sl [[(.v (.string ⟨#[71,101,116]⟩)),(.v (.string ⟨#[77]⟩)),(.v (.string ⟨#[77]⟩)),(.v (.int .i64 1)),.nil]] .full),.nil]] .full)]),(.sl [[(.v (.string ⟨#[71,69,84]⟩)),(.v (.string ⟨#[47,117,115,101,114,115,47,123,105,100,125]⟩)),(.v (.string ⟨#[83]⟩)),(.v (.string ⟨#[71,101,116]⟩)),(.v (.string ⟨#[]⟩))]] .full)]
def l9e:List AV:=[(.v (.int .i64 9)),(.agg [(.sl [[(.v (.string ⟨#[77]⟩)),(.sl [[(.v (.int .i64 1)),(.v (.string ⟨#[105,100]⟩)),(.v (.int .i64 3)),(.v (.int .i64 0)),(.v (.int .i64 4)),(.v (.string ⟨#[]⟩)),(.v (.string ⟨#[]⟩)),(.v (.bool false)),(.v (.int .i64 0)),(.v (.int .u64 0)),(.v (.string ⟨#[]⟩)),.nil,.nil,.nil,.nil,.nil],[(.v (.int .i64 2)),(.v (.string ⟨#[116,97,103]⟩)),(.v (.int .i64 4)),(.v (.int .i64 0)),(.v (.int .i64 7)),(.v (.string ⟨#[]⟩)),(.v (.string ⟨#[]⟩)),(.v (.bool false)),(.v (.int .i64 0)),(.v (.int .u64 0)),(.v (.string ⟨#[]⟩)),.nil,.nil,.nil,.nil,.nil]] .full),.nil,.nil,.nil]] .full),.nil,(.sl [[(.v (.string ⟨#[83]⟩)),(.sl [[(.v (.string ⟨#[71,101,116]⟩)),(.v (.string ⟨#[77]⟩)),(.v (.string ⟨#[77]⟩)),(.v (.int .i64 1)),.nil]] .full),.nil]] .full)]),(.sl [[(.v (.string ⟨#[71,69,84]⟩)),(.v (.string ⟨#[47,117,115,101,114,115,47,123,105,100,125]⟩)),(.v (.string ⟨#[83]⟩)),(.v (.string ⟨#[71,101,116]⟩)),(.v (.string ⟨#[]⟩))],[(.v (.string ⟨#[71,69,84]⟩)),(.v (.string ⟨#[47,117,115,101,114,115,47,123,105,100,125]⟩)),(.v (.string ⟨#[83]⟩)),(.v (.string ⟨#[71,101,116]⟩)),(.v (.string ⟨#[]⟩))]] .full)]
def m7e:Tbl:=tbl
def n8a:Tbl:=(11,0,knC kn0,[])::tbl
def m8s:Tbl:=(11,0,knC kn0,[])::(48,0,knC kn1,[])::tbl
def m91:Tbl:=(11,0,knC kn0,[])::(48,0,knC kn1,[])::(23,0,knC kn2,[])::tbl
def n3j:Tbl:=(11,0,knC kn0,[])::(48,0,knC kn1,[])::(23,0,knC kn2,[])::(40,0,knC kn3,[])::tbl
def n8b:Tbl:=(11,0,knC kn0,[])::(48,0,knC kn1,[])::(23,0,knC kn2,[])::(40,0,knC kn3,[])::(41,0,knC kn4,[])::tbl
def n5g:Tbl:=(11,0,knC kn0,[])::(48,0,knC kn1,[])::(23,0,knC kn2,[])::(40,0,knC kn3,[])::(41,0,knC kn4,[])::(17,0,knC kn5,[])::tbl
def n4t:Tbl:=(11,0,knC kn0,[])::(48,0,knC kn1,[])::(23,0,knC kn2,[])::(40,0,knC kn3,[])::(41,0,knC kn4,[])::(17,0,knC kn5,[])::(18,0,knC kn6,[])::tbl
def m8y:Tbl:=(11,0,knC kn0,[])::(48,0,knC kn1,[])::(23,0,knC kn2,[])::(40,0,knC kn3,[])::(41,0,knC kn4,[])::(17,0,knC kn5,[])::(18,0,knC kn6,[])::(40,0,knC kn7,[])::tbl
def l9y:Tbl:=(11,0,knC kn0,[])::(48,0,knC kn1,[])::(23,0,knC kn2,[])::(40,0,knC kn3,[])::(41,0,knC kn4,[])::(17,0,knC kn5,[])::(18,0,knC kn6,[])::(40,0,knC kn7,[])::(41,0,knC kn8,[])::tbl
def f1n:Tbl:=(11,0,knC kn0,[])::(48,0,knC kn1,[])::(23,0,knC kn2,[])::(40,0,knC kn3,[])::(41,0,knC kn4,[])::(17,0,knC kn5,[])::(18,0,knC kn6,[])::(40,0,knC kn7,[])::(41,0,knC kn8,[])::(18,0,knC kn9,[])::tbl
def g34:Tbl:=(11,0,knC kn0,[])::(48,0,knC kn1,[])::(23,0,knC kn2,[])::(40,0,knC kn3,[])::(41,0,knC kn4,[])::(17,0,knC kn5,[])::(18,0,knC kn6,[])::(40,0,knC kn7,[])::(41,0,knC kn8,[])::(18,0,knC kn9,[])::(11,0,knC e7s,[])::tbl
def f8z:Tbl:=(11,0,knC kn0,[])::(48,0,knC kn1,[])::(23,0,knC kn2,[])::(40,0,knC kn3,[])::(41,0,knC kn4,[])::(17,0,knC kn5,[])::(18,0,knC kn6,[])::(40,0,knC kn7,[])::(41,0,knC kn8,[])::(18,0,knC kn9,[])::(11,0,knC e7s,[])::(49,0,knC h0u,[])::tbl
def h3g:Tbl:=(11,0,knC kn0,[])::(48,0,knC kn1,[])::(23,0,knC kn2,[])::(40,0,knC kn3,[])::(41,0,knC kn4,[])::(17,0,knC kn5,[])::(18,0,knC kn6,[])::(40,0,knC kn7,[])::(41,0,knC kn8,[])::(18,0,knC kn9,[])::(11,0,knC e7s,[])::(49,0,knC h0u,[])::(20,0,knC h35,[])::tbl
def f4g:Tbl:=(11,0,knC kn0,[])::(48,0,knC kn1,[])::(23,0,knC kn2,[])::(40,0,knC kn3,[])::(41,0,knC kn4,[])::(17,0,knC kn5,[])::(18,0,knC kn6,[])::(40,0,knC kn7,[])::(41,0,knC kn8,[])::(18,0,knC kn9,[])::(11,0,knC e7s,[])::(49,0,knC h0u,[])::(20,0,knC h35,[])::(8,0,knC j0t,[])::tbl
def j07:Tbl:=(11,0,knC kn0,[])::(48,0,knC kn1,[])::(23,0,knC kn2,[])::(40,0,knC kn3,[])::(41,0,knC kn4,[])::(17,0,knC kn5,[])::(18,0,knC kn6,[])::(40,0,knC kn7,[])::(41,0,knC kn8,[])::(18,0,knC kn9,[])::(11,0,knC e7s,[])::(49,0,knC h0u,[])::(20,0,knC h35,[])::(8,0,knC j0t,[])::(8,0,knC l9e,[])::tbl
theorem f3e:(b50 m7e X6 false (evC m7e X6 100000) 11 kn0.tail ⟨[],[],[]⟩).map (fun r=>b5c r.2 r.1)=some (kn0.headD .nil):=by kernel_rfl
theorem g9w:(b50 n3j X6 false (evC n3j X6 100000) 41 kn4.tail ⟨[],[],[]⟩).map (fun r=>b5c r.2 r.1)=some (kn4.headD .nil):=by kernel_rfl
theorem g1p:(b50 m8y X6 false (evC m8y X6 100000) 41 kn8.tail ⟨[],[],[]⟩).map (fun r=>b5c r.2 r.1)=some (kn8.headD .nil):=by kernel_rfl
theorem d7r:(b50 f8z X6 false (evC f8z X6 100000) 20 h35.tail ⟨[],[],[]⟩).map (fun r=>b5c r.2 r.1)=some (h35.headD .nil):=by kernel_rfl
theorem g3r:(b50 n8a X6 false (evC n8a X6 100000) 48 kn1.tail ⟨[],[],[]⟩).map (fun r=>b5c r.2 r.1)=some (kn1.headD .nil):=by kernel_rfl
theorem g1w:(b50 n8b X6 false (evC n8b X6 100000) 17 kn5.tail ⟨[],[],[]⟩).map (fun r=>b5c r.2 r.1)=some (kn5.headD .nil):=by kernel_rfl
theorem g72:(b50 l9y X6 false (evC l9y X6 100000) 18 kn9.tail ⟨[],[],[]⟩).map (fun r=>b5c r.2 r.1)=some (kn9.headD .nil):=by kernel_rfl
theorem d8g:(b50 h3g X6 false (evC h3g X6 100000) 8 j0t.tail ⟨[],[],[]⟩).map (fun r=>b5c r.2 r.1)=some (j0t.headD .nil):=by kernel_rfl
theorem e9s:(b50 m8s X6 false (evC m8s X6 100000) 23 kn2.tail ⟨[],[],[]⟩).map (fun r=>b5c r.2 r.1)=some (kn2.headD .nil):=by kernel_rfl
theorem f60:(b50 n5g X6 false (evC n5g X6 100000) 18 kn6.tail ⟨[],[],[]⟩).map (fun r=>b5c r.2 r.1)=some (kn6.headD .nil):=by kernel_rfl
theorem d8n:(b50 f1n X6 false (evC f1n X6 100000) 11 e7s.tail ⟨[],[],[]⟩).map (fun r=>b5c r.2 r.1)=some (e7s.headD .nil):=by kernel_rfl
theorem d6d:(b50 f4g X6 false (evC f4g X6 100000) 8 l9e.tail ⟨[],[],[]⟩).map (fun r=>b5c r.2 r.1)=some (l9e.headD .nil):=by kernel_rfl
theorem g9k:(b50 m91 X6 false (evC m91 X6 100000) 40 kn3.tail ⟨[],[],[]⟩).map (fun r=>b5c r.2 r.1)=some (kn3.headD .nil):=by kernel_rfl
theorem g5c:(b50 n4t X6 false (evC n4t X6 100000) 40 kn7.tail ⟨[],[],[]⟩).map (fun r=>b5c r.2 r.1)=some (kn7.headD .nil):=by kernel_rfl
theorem d9c:(b50 g34 X6 false (evC g34 X6 100000) 49 h0u.tail ⟨[],[],[]⟩).map (fun r=>b5c r.2 r.1)=some (h0u.headD .nil):=by kernel_rfl
theorem B5{P:Program}{T:Tbl}{g:Nat}{l:List AV}(h:c34 P g l)(t:W1 P T):W1 P ((g,0,knC l,[])::T):=by
 intro f y hf;rcases List.mem_cons.1 hf with e|hf
 ·cases e;exact h
 ·exact t f y hf
theorem o31:W1 Tryz.prog m7e:=a26
theorem a38:c34 Tryz.prog 11 kn0:=⟨by kernel_rfl,I3 o31 100000 f3e (by kernel_rfl)⟩
theorem o6f:W1 Tryz.prog n8a:=B5 a38<|a26
theorem a5l:c34 Tryz.prog 48 kn1:=⟨by kernel_rfl,I3 o6f 100000 g3r (by kernel_rfl)⟩
theorem o6y:W1 Tryz.prog m8s:=B5 a38<|B5 a5l<|a26
theorem a6m:c34 Tryz.prog 23 kn2:=⟨by kernel_rfl,I3 o6y 100000 e9s (by kernel_rfl)⟩
theorem o6i:W1 Tryz.prog m91:=B5 a38<|B5 a5l<|B5 a6m<|a26
theorem a7u:c34 Tryz.prog 40 kn3:=⟨by kernel_rfl,I3 o6i 100000 g9k (by kernel_rfl)⟩
theorem o61:W1 Tryz.prog n3j:=B5 a38<|B5 a5l<|B5 a6m<|B5 a7u<|a26
theorem a8p:c34 Tryz.prog 41 kn4:=⟨by kernel_rfl,I3 o61 100000 g9w (by kernel_rfl)⟩
theorem o3z:W1 Tryz.prog n8b:=B5 a38<|B5 a5l<|B5 a6m<|B5 a7u<|B5 a8p<|a26
theorem b0r:c34 Tryz.prog 17 kn5:=⟨by kernel_rfl,I3 o3z 100000 g1w (by kernel_rfl)⟩
theorem o4y:W1 Tryz.prog n5g:=B5 a38<|B5 a5l<|B5 a6m<|B5 a7u<|B5 a8p<|B5 b0r<|a26
theorem b2n:c34 Tryz.prog 18 kn6:=⟨by kernel_rfl,I3 o4y 100000 f60 (by kernel_rfl)⟩
theorem o6a:W1 Tryz.prog n4t:=B5 a38<|B5 a5l<|B5 a6m<|B5 a7u<|B5 a8p<|B5 b0r<|B5 b2n<|a26
theorem b52:c34 Tryz.prog 40 kn7:=⟨by kernel_rfl,I3 o6a 100000 g5c (by kernel_rfl)⟩
theorem o6m:W1 Tryz.prog m8y:=B5 a38<|B5 a5l<|B5 a6m<|B5 a7u<|B5 a8p<|B5 b0r<|B5 b2n<|B5 b52<|a26
theorem c0b:c34 Tryz.prog 41 kn8:=⟨by kernel_rfl,I3 o6m 100000 g1p (by kernel_rfl)⟩
theorem o4q:W1 Tryz.prog l9y:=B5 a38<|B5 a5l<|B5 a6m<|B5 a7u<|B5 a8p<|B5 b0r<|B5 b2n<|B5 b52<|B5 c0b<|a26
theorem c1s:c34 Tryz.prog 18 kn9:=⟨by kernel_rfl,I3 o4q 100000 g72 (by kernel_rfl)⟩
theorem m96:W1 Tryz.prog f1n:=B5 a38<|B5 a5l<|B5 a6m<|B5 a7u<|B5 a8p<|B5 b0r<|B5 b2n<|B5 b52<|B5 c0b<|B5 c1s<|a26
theorem b72:c34 Tryz.prog 11 e7s:=⟨by kernel_rfl,I3 m96 100000 d8n (by kernel_rfl)⟩
theorem n9t:W1 Tryz.prog g34:=B5 a38<|B5 a5l<|B5 a6m<|B5 a7u<|B5 a8p<|B5 b0r<|B5 b2n<|B5 b52<|B5 c0b<|B5 c1s<|B5 b72<|a26
theorem c27:c34 Tryz.prog 49 h0u:=⟨by kernel_rfl,I3 n9t 100000 d9c (by kernel_rfl)⟩
theorem n1g:W1 Tryz.prog f8z:=B5 a38<|B5 a5l<|B5 a6m<|B5 a7u<|B5 a8p<|B5 b0r<|B5 b2n<|B5 b52<|B5 c0b<|B5 c1s<|B5 b72<|B5 c27<|a26
theorem c7d:c34 Tryz.prog 20 h35:=⟨by kernel_rfl,I3 n1g 100000 d7r (by kernel_rfl)⟩
theorem m3h:W1 Tryz.prog h3g:=B5 a38<|B5 a5l<|B5 a6m<|B5 a7u<|B5 a8p<|B5 b0r<|B5 b2n<|B5 b52<|B5 c0b<|B5 c1s<|B5 b72<|B5 c27<|B5 c7d<|a26
theorem d2v:c34 Tryz.prog 8 j0t:=⟨by kernel_rfl,I3 m3h 100000 d8g (by kernel_rfl)⟩
theorem m5w:W1 Tryz.prog f4g:=B5 a38<|B5 a5l<|B5 a6m<|B5 a7u<|B5 a8p<|B5 b0r<|B5 b2n<|B5 b52<|B5 c0b<|B5 c1s<|B5 b72<|B5 c27<|B5 c7d<|B5 d2v<|a26
theorem h1v:c34 Tryz.prog 8 l9e:=⟨by kernel_rfl,I3 m5w 100000 d6d (by kernel_rfl)⟩
theorem m9t:W1 Tryz.prog j07:=B5 a38<|B5 a5l<|B5 a6m<|B5 a7u<|B5 a8p<|B5 b0r<|B5 b2n<|B5 b52<|B5 c0b<|B5 c1s<|B5 b72<|B5 c27<|B5 c7d<|B5 d2v<|B5 h1v<|a26
def m8v:Tbl:=j07
theorem f79:W1 Tryz.prog m8v:=m9t
theorem d22:(b50 m8v X6 false (evC m8v X6 100000) 7 [] ⟨[],[],gl0⟩).map (fun r=>b5c r.2 r.1)=some (.v (.bool true)):=by kernel_rfl
theorem c2c:b6h Tryz.prog gl0 7 [] fun b=>b=.v (.bool true):=I3 f79 100000 d22 rfl
theorem d71{σ:Sg}{x v:Value}(h:Rel σ (.v x) v):v=x:=by
 cases h;rfl
theorem f61{σ:Sg}{x:Value}{cargs:Array Value}(hr:b7b σ [.v x] cargs.toList):cargs=#[x]:=by
 obtain⟨hl,hx⟩:=hr;obtain⟨x0,h0,r0⟩:=hx 0 _ rfl;have e0:=d71 r0;subst e0;apply Array.ext'
 match hc:cargs.toList,hl,h0 with
 |[a],_,h0=>simp at h0;simp[h0]
def D2(l:List UInt8):ByteArray:=⟨l.toArray⟩
theorem c29(l:List UInt8):(D2 l).data.toList=l:=rfl
theorem I1(l:List UInt8):(D2 l).size=l.length:=by simp[D2,ByteArray.size]
theorem c97{w:World}{outer:Nat->Nat->Prop}{x:Nat × List AV}{gl:List (Nat × List AV)}(h:c0x w outer (x::gl)):c0x w outer gl:=fun g cells hg=>h g cells (by simp[hg])
theorem c87(mg:Int):b19 mg true:=
 ⟨c2c.1,fun w outer cargs ho hg hr=>(c2c.2 w outer cargs ho (c97 hg) hr).mono fun e w' ⟨av,x,h1,h2,h3,h4⟩=>⟨av,x,h1,h2,h3,by rw[h4];rfl⟩⟩
structure a2e(n:D7):Prop where
 name:Sz n.Name.size
 val:OkD n.Val
structure e6t(x:a4m):Prop where
 kind:I64 x.Kind
 name:Sz x.Name.size
structure c2g(f:A5):Prop where
 num:I64 f.Num
 name:Sz f.Name.size
 card:I64 f.Card
 key:I64 f.Key
 type:e6t f.Type_
 union:Sz f.Union.size
 dflt:OkD f.Default
 nn:Sz f.Notes.length
 notes:∀x∈f.Notes,a2e x
structure c53(x:U6):Prop where
 from_:I64 x.From
 to_:I64 x.To
structure b1y(m:A9):Prop where
 name:Sz m.Name.size
 nf:Sz m.Fields.length
 fields:∀x∈m.Fields,c2g x
 nr:Sz m.Reserved.length
 reserved:∀x∈m.Reserved,c53 x
 ng:Sz m.Gone.length
 gone:∀x∈m.Gone,Sz x.size
 nn:Sz m.Notes.length
 notes:∀x∈m.Notes,a2e x
structure d28(x:b6m):Prop where
 name:Sz x.Name.size
 num:I64 x.Num
 nn:Sz x.Notes.length
 notes:∀n∈x.Notes,a2e n
structure b80(e:a20):Prop where
 name:Sz e.Name.size
 ni:Sz e.Items.length
 items:∀x∈e.Items,d28 x
 nr:Sz e.Reserved.length
 reserved:∀x∈e.Reserved,c53 x
 nn:Sz e.Notes.length
 notes:∀x∈e.Notes,a2e x
structure d4n(x:C8):Prop where
 name:Sz x.Name.size
 in_:Sz x.In.size
 out_:Sz x.Out.size
 shape:I64 x.Shape
 nn:Sz x.Notes.length
 notes:∀n∈x.Notes,a2e n
structure b3j(x:C4):Prop where
 name:Sz x.Name.size
 nm:Sz x.Methods.length
 meths:∀n∈x.Methods,d4n n
 nn:Sz x.Notes.length
 notes:∀n∈x.Notes,a2e n
structure a0i(s:A2):Prop where
 nm:Sz s.Messages.length
 msgs:∀x∈s.Messages,b1y x
 ne:Sz s.Enums.length
 enums:∀x∈s.Enums,b80 x
 ns:Sz s.Services.length
 servs:∀x∈s.Services,b3j x
section
variable {n:Nat}{avs:List AV}{av:AV}
theorem b5r(h:Ty Tryz.prog n 154 avs):∃x,avs=E0 x/\a2e x:=by
 obtain⟨m,rfl,a1,b1,rfl,h1,a2,b2,rfl,h2,rfl⟩:=b1a (ts:=[9,54]) (by kernel_rfl) h;obtain⟨x1,rfl,k1⟩:=a01 (by kernel_rfl) h1;obtain⟨x2,rfl,k2⟩:=c9f _ _ h2;exact⟨⟨x1,x2⟩,by rw[L8];rfl,⟨k1,k2⟩⟩
theorem f9b(h:Ty Tryz.prog n 86 avs):∃x,avs=a7d x/\e6t x:=by
 obtain⟨m,rfl,a1,b1,rfl,h1,a2,b2,rfl,h2,rfl⟩:=b1a (ts:=[3,9]) (by kernel_rfl) h;obtain⟨x1,rfl,k1⟩:=a7x (by kernel_rfl) h1;obtain⟨x2,rfl,k2⟩:=a01 (by kernel_rfl) h2;exact⟨⟨x1,x2⟩,rfl,⟨k1,k2⟩⟩
theorem d7o(h:Ty Tryz.prog n 88 avs):∃x,avs=C0 x/\c2g x:=by
 obtain⟨m,rfl,a1,b1,rfl,h1,a2,b2,rfl,h2,a3,b3,rfl,h3,a4,b4,rfl,h4,a5,b5,rfl,h5,a6,b6,rfl,h6,a7,b7,rfl,h7,a8,b8,rfl,h8,a9,b9,rfl,h9,rfl⟩:=b1a (ts:=[3,9,3,3,86,9,4,54,80]) (by kernel_rfl) h;obtain⟨x1,rfl,k1⟩:=a7x (by kernel_rfl) h1;obtain⟨x2,rfl,k2⟩:=a01 (by kernel_rfl) h2;obtain⟨x3,rfl,k3⟩:=a7x (by kernel_rfl) h3;obtain⟨x4,rfl,k4⟩:=a7x (by kernel_rfl) h4;obtain⟨x5,rfl,k5⟩:=f9b h5;obtain⟨x6,rfl,k6⟩:=a01 (by kernel_rfl) h6;obtain⟨x7,rfl⟩:=d3h (by kernel_rfl) h7;obtain⟨x8,rfl,k8⟩:=c9f _ _ h8;obtain⟨x9,rfl,n9,k9⟩:=b0v (e:=154) (enc:=E0) (Ok:=a2e) (by kernel_rfl) (of_decide_eq_true (by kernel_rfl)) (fun k a hk ha=>b5r ha) h9;exact⟨⟨x1,x2,x3,x4,x5,x6,x7,x8,x9⟩,by rw[L8];rfl,⟨k1,k2,k3,k4,k5,k6,k8,n9,k9⟩⟩
theorem d15(h:Ty Tryz.prog n 283 avs):∃x,avs=P4 x/\c53 x:=by
 obtain⟨m,rfl,a1,b1,rfl,h1,a2,b2,rfl,h2,rfl⟩:=b1a (ts:=[3,3]) (by kernel_rfl) h;obtain⟨x1,rfl,k1⟩:=a7x (by kernel_rfl) h1;obtain⟨x2,rfl,k2⟩:=a7x (by kernel_rfl) h2;exact⟨⟨x1,x2⟩,rfl,⟨k1,k2⟩⟩
theorem i0p(h:Ty Tryz.prog n 82 avs):∃x,avs=C6 x/\b1y x:=by
 obtain⟨m,rfl,a1,b1,rfl,h1,a2,b2,rfl,h2,a3,b3,rfl,h3,a4,b4,rfl,h4,a5,b5,rfl,h5,rfl⟩:=b1a (ts:=[9,77,78,79,80]) (by kernel_rfl) h;obtain⟨x1,rfl,k1⟩:=a01 (by kernel_rfl) h1;obtain⟨x2,rfl,n2,k2⟩:=b0v (e:=88) (enc:=C0) (Ok:=c2g) (by kernel_rfl) (of_decide_eq_true (by kernel_rfl)) (fun k a hk ha=>d7o ha) h2;obtain⟨x3,rfl,n3,k3⟩:=b0v (e:=283) (enc:=P4) (Ok:=c53) (by kernel_rfl) (of_decide_eq_true (by kernel_rfl)) (fun k a hk ha=>d15 ha) h3;obtain⟨x4,rfl,n4,k4⟩:=b0v (e:=9) (enc:=J4) (Ok:=fun x=>Sz x.size) (by kernel_rfl) (of_decide_eq_true (by kernel_rfl)) (fun k a hk ha=>a01 (by kernel_rfl) ha) h4;obtain⟨x5,rfl,n5,k5⟩:=b0v (e:=154) (enc:=E0) (Ok:=a2e) (by kernel_rfl) (of_decide_eq_true (by kernel_rfl)) (fun k a hk ha=>b5r ha) h5;exact⟨⟨x1,x2,x3,x4,x5⟩,rfl,⟨k1,n2,k2,n3,k3,n4,k4,n5,k5⟩⟩
theorem g2k(h:Ty Tryz.prog n 93 avs):∃x,avs=a6b x/\d28 x:=by
 obtain⟨m,rfl,a1,b1,rfl,h1,a2,b2,rfl,h2,a3,b3,rfl,h3,rfl⟩:=b1a (ts:=[9,3,80]) (by kernel_rfl) h;obtain⟨x1,rfl,k1⟩:=a01 (by kernel_rfl) h1;obtain⟨x2,rfl,k2⟩:=a7x (by kernel_rfl) h2;obtain⟨x3,rfl,n3,k3⟩:=b0v (e:=154) (enc:=E0) (Ok:=a2e) (by kernel_rfl) (of_decide_eq_true (by kernel_rfl)) (fun k a hk ha=>b5r ha) h3;exact⟨⟨x1,x2,x3⟩,rfl,⟨k1,k2,n3,k3⟩⟩
theorem f47(h:Ty Tryz.prog n 91 avs):∃x,avs=a1m x/\b80 x:=by
 obtain⟨m,rfl,a1,b1,rfl,h1,a2,b2,rfl,h2,a3,b3,rfl,h3,a4,b4,rfl,h4,a5,b5,rfl,h5,rfl⟩:=b1a (ts:=[9,4,89,78,80]) (by kernel_rfl) h;obtain⟨x1,rfl,k1⟩:=a01 (by kernel_rfl) h1;obtain⟨x2,rfl⟩:=d3h (by kernel_rfl) h2;obtain⟨x3,rfl,n3,k3⟩:=b0v (e:=93) (enc:=a6b) (Ok:=d28) (by kernel_rfl) (of_decide_eq_true (by kernel_rfl)) (fun k a hk ha=>g2k ha) h3;obtain⟨x4,rfl,n4,k4⟩:=b0v (e:=283) (enc:=P4) (Ok:=c53) (by kernel_rfl) (of_decide_eq_true (by kernel_rfl)) (fun k a hk ha=>d15 ha) h4;obtain⟨x5,rfl,n5,k5⟩:=b0v (e:=154) (enc:=E0) (Ok:=a2e) (by kernel_rfl) (of_decide_eq_true (by kernel_rfl)) (fun k a hk ha=>b5r ha) h5;exact⟨⟨x1,x2,x3,x4,x5⟩,rfl,⟨k1,n3,k3,n4,k4,n5,k5⟩⟩
theorem f6l(h:Ty Tryz.prog n 98 avs):∃x,avs=H1 x/\d4n x:=by
 obtain⟨m,rfl,a1,b1,rfl,h1,a2,b2,rfl,h2,a3,b3,rfl,h3,a4,b4,rfl,h4,a5,b5,rfl,h5,rfl⟩:=b1a (ts:=[9,9,9,3,80]) (by kernel_rfl) h;obtain⟨x1,rfl,k1⟩:=a01 (by kernel_rfl) h1;obtain⟨x2,rfl,k2⟩:=a01 (by kernel_rfl) h2;obtain⟨x3,rfl,k3⟩:=a01 (by kernel_rfl) h3;obtain⟨x4,rfl,k4⟩:=a7x (by kernel_rfl) h4;obtain⟨x5,rfl,n5,k5⟩:=b0v (e:=154) (enc:=E0) (Ok:=a2e) (by kernel_rfl) (of_decide_eq_true (by kernel_rfl)) (fun k a hk ha=>b5r ha) h5;exact⟨⟨x1,x2,x3,x4,x5⟩,rfl,⟨k1,k2,k3,k4,n5,k5⟩⟩
theorem f38(h:Ty Tryz.prog n 96 avs):∃x,avs=D9 x/\b3j x:=by
 obtain⟨m,rfl,a1,b1,rfl,h1,a2,b2,rfl,h2,a3,b3,rfl,h3,rfl⟩:=b1a (ts:=[9,94,80]) (by kernel_rfl) h;obtain⟨x1,rfl,k1⟩:=a01 (by kernel_rfl) h1;obtain⟨x2,rfl,n2,k2⟩:=b0v (e:=98) (enc:=H1) (Ok:=d4n) (by kernel_rfl) (of_decide_eq_true (by kernel_rfl)) (fun k a hk ha=>f6l ha) h2;obtain⟨x3,rfl,n3,k3⟩:=b0v (e:=154) (enc:=E0) (Ok:=a2e) (by kernel_rfl) (of_decide_eq_true (by kernel_rfl)) (fun k a hk ha=>b5r ha) h3;exact⟨⟨x1,x2,x3⟩,rfl,⟨k1,n2,k2,n3,k3⟩⟩
theorem l6x(h:Ty Tryz.prog n 26 avs):∃x,avs=A4 x/\a0i x:=by
 obtain⟨m,rfl,a1,b1,rfl,h1,a2,b2,rfl,h2,a3,b3,rfl,h3,rfl⟩:=b1a (ts:=[22,23,24]) (by kernel_rfl) h;obtain⟨x1,rfl,n1,k1⟩:=b0v (e:=82) (enc:=C6) (Ok:=b1y) (by kernel_rfl) (of_decide_eq_true (by kernel_rfl)) (fun k a hk ha=>i0p ha) h1;obtain⟨x2,rfl,n2,k2⟩:=b0v (e:=91) (enc:=a1m) (Ok:=b80) (by kernel_rfl) (of_decide_eq_true (by kernel_rfl)) (fun k a hk ha=>f47 ha) h2;obtain⟨x3,rfl,n3,k3⟩:=b0v (e:=96) (enc:=D9) (Ok:=b3j) (by kernel_rfl) (of_decide_eq_true (by kernel_rfl)) (fun k a hk ha=>f38 ha) h3;exact⟨⟨x1,x2,x3⟩,rfl,⟨n1,k1,n2,k2,n3,k3⟩⟩
theorem o57(h:TyV Tryz.prog n 26 av):∃x,av=.agg (A4 x)/\a0i x:=by
 obtain⟨avs,rfl,g⟩:=k7w (ts:=[22,23,24]) (by kernel_rfl) h;obtain⟨x,rfl,k⟩:=l6x g;exact⟨x,rfl,k⟩
end
def OkR(x:B4):Prop:=True
theorem d7n{n:Nat}{avs:List AV}(h:Ty Tryz.prog n 41 avs):∃x:B4,avs=B9 x/\OkR x:=by
 have hu:Tryz.prog.underlying 9=some .string:=by kernel_rfl
 obtain⟨m,_,a,r,rfl,ha,b,r,rfl,hb,c,r,rfl,hc,d,r,rfl,hd,e,r,rfl,he,rfl⟩:=b1a (ts:=[9,9,9,9,9]) (by kernel_rfl) h;obtain⟨a,rfl,_⟩:=a01 hu ha;obtain⟨b,rfl,_⟩:=a01 hu hb;obtain⟨c,rfl,_⟩:=a01 hu hc;obtain⟨d,rfl,_⟩:=a01 hu hd;obtain⟨e,rfl,_⟩:=a01 hu he;exact⟨⟨a,b,c,d,e⟩,rfl,trivial⟩
section
variable {n:Nat}{av:AV}
theorem o03(h:TyV Tryz.prog n 27 av):∃x:List B4,av=.sl (x.map B9) .no/\Sz x.length:=by
 have hu:Tryz.prog.underlying 27=some (.slice 41):=by kernel_rfl
 unfold TyV at h;rw[hu]at h;obtain⟨l,e,h1,h2⟩:=c1v (w:=80) (e:=41) (enc:=B9) (Ok:=OkR) hu (by kernel_rfl) (of_decide_eq_true (by kernel_rfl)) (fun k a hk ha=>d7n ha) h;exact⟨l,by simpa using e,h1.1⟩
end
theorem c3i{P:Program}{w:World}{fuel:Nat}{t e:TypeId}{n:Nat}{cs:List Value}{ss:List (List UInt8)}{p:List MemPlace}(ht:P.underlying t=some (.array n e))(he:P.underlying e=some .string)(hc:P.cellsOf e=1)
  (h:DataW.trod (fun _=>()) P w 0 (fun _=>true) false fuel t cs=some (.agg (ss.map fun s=>.lit (.string s)),p)) (i:Nat) (hi:i<n) (s:List UInt8) (hs:ss[i]? =some s):cs[i]? =some (.string ⟨s.toArray⟩):=by
 obtain⟨fuel',d,q,hd,h1⟩:=Lib.array_elem ht h i hi;simp only[List.getElem?_map,hs,Option.map_some,Option.some.injEq]at hd;subst hd;rw[hc]at h1;obtain⟨x,h2,h3,_⟩:=DataW.trod_string he h1
 have h4:x.data.toList=s:=by
  have:=congrArg Prod.fst h3;simpa using this.symm
 have h5:=congrArg (·[0]?) h2;simp only[List.getElem?_take,List.getElem?_drop]at h5;subst h4;simpa using h5
def c9v:List (List UInt8):=[[111,107],[99,97,110,99,101,108,108,101,100],[105,110,118,97,108,105,100],[100,101,97,100,108,105,110,101],[110,111,116,95,102,111,117,110,100],[101,120,105,115,116,115],[100,101,110,105,101,100],[101,120,104,97,117,115,116,101,100],[102,97,105,108,101,100],[97,98,111,114,116,101,100],[117,110,105,109,112,108,101,109,101,110,116,101,100],[105,110,116,101,114,110,97,108],[117,110,97,118,97,105,108,97,98,108,101],[100,97,116,97,95,108,111,115,115]]
theorem e6q{w:World}{g:Nat}{cells:List AV}(xs:Nat->Value)(h:∀(i:Nat) (av:AV),cells[i]? =some av->w.cell? ⟨g,i,none⟩=some (xs i)/\av=.v (xs i)/\e4q (xs i)=true):Rel (bare w a2x) (.elt cells 0) (.pointer (some ⟨g,0,none⟩)):=by
 refine .elt cells 0 g 0 xs (fun i av hi=>?_) (fun i av hi=>?_)
 ·obtain⟨h1,rfl,h3⟩:=h i av hi;exact⟨by rw[Nat.zero_add];exact h1,fun q=>q.elim (fun x=>x.elim) (fun x=>a9s _ _ _ _ x),rfl⟩
 ·obtain⟨h1,rfl,h3⟩:=h i av hi;exact .v _ h3
theorem e0t{w:World}{m:Int}(hm:w.cell? ⟨2,0,none⟩=some (.int .i64 m))(hn:Lib.VarReads Tryz.prog w "wireschema/status.names" (.agg (c9v.map fun s=>.lit (.string s)))):c0x w a2x (GLm m):=by
 intro g cells hg;rcases List.mem_cons.1 hg with e|hg
 ·cases e;refine e6q (fun _=>.int .i64 m) fun i av hi=>?_
  cases i with
  |zero=>simp at hi;subst hi;exact⟨hm,rfl,rfl⟩
  |succ i=>simp at hi
 ·rcases List.mem_cons.1 hg with e|hg
  ·have e2:cells=c9v.map fun s=>.v (.string ⟨s.toArray⟩):=by cases e;rfl
   obtain rfl:g=1:=by cases e;rfl
   subst e2;obtain⟨g,t,cs,fuel,p,h1,h2,h3,h4⟩:=hn;have g1:Tryz.prog.globalNamed "wireschema/status.names"=some 1:=by kernel_rfl
   obtain rfl:=Option.some.inj (g1.symm.trans h1);have g2:(Tryz.prog.globals[1]?).map (·.type)=some 277:=by kernel_rfl
   obtain rfl:=Option.some.inj (g2.symm.trans h2);refine e6q (fun i=>.string ⟨(c9v.getD i []).toArray⟩) fun i av hi=>?_
   rw[List.getElem?_map]at hi;obtain⟨s,hs,rfl⟩:=Option.map_eq_some_iff.1 hi;have hd:c9v.getD i []=s:=by rw[List.getD_eq_getElem?_getD,hs];rfl
   have hlt:i<14:=by
    have:=(List.getElem?_eq_some_iff.1 hs).1;exact this
   have:=c3i (t:=277) (e:=9) (n:=14) (by kernel_rfl) (by kernel_rfl) (by kernel_rfl) h4 i hlt s hs;refine⟨?_,by rw[hd],rfl⟩;rw[World.var?_cell g1 h3 i,<-Array.getElem?_toList,hd];exact this
  ·cases hg
theorem c3t{P:Program}{f:FuncId}{args:List AV}{cargs:Array Value}{W:World}{gl:List (Nat × List AV)}(hg:c0x W a2x gl)(hf:C5 P gl f args (.v (.bool true)))(hr:b7b (bare W a2x) args cargs.toList):
  Calls P f cargs W fun e W'=>e=.returned (.bool true)/\Below W.heap.size W W':=by
 refine(hf.2 W a2x cargs (fun b o h=>h.elim) hg hr).mono fun e W' ⟨av,x,he,hp,hrel,hav⟩=>?_
 rw[g8m hav]at hrel;cases hrel with
 |v _ _=>exact⟨he,hp.below⟩
theorem d55(c:Int):b2c c (d5x c):=b6e _ _ rfl
theorem b0u{a b:ByteArray}(h:a.data.toList=b.data.toList):a=b:=by
 cases a;cases b
 congr 1
 exact Array.toList_inj.1 h
theorem c1o(a b:List UInt8):D2 a++D2 b=D2 (a++b):=b0u (by
 rw[ByteArray.data_append,Array.toList_append];rfl)
theorem T8(s:ByteArray)(p:Nat)(h:p<s.size):C7 s p=(s[p].toNat:Int):=by
 unfold C7;have h':p<s.data.toList.length:=by simpa using h
 rw[List.getD_eq_getElem?_getD,List.getElem?_eq_getElem h'];rfl
theorem d27(s:ByteArray)(p:Nat)(h:p<s.size):s.extract p (p+1)=D2 [s[p]]:=b0u (by
 rw[Lib.extract_data,T1 s p h,Nat.add_sub_cancel_left];rfl)
theorem a3y{n:Int}(h: -9223372036854775808<=n/\n<=9223372036854775807):wI n=n:=c04 h
end Go.Proofs.YtkhgohfaecbgkaaGreatDoor.Lift
