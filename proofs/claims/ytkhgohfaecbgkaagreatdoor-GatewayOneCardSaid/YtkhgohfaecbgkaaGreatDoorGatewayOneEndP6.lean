/- Part 7 of the texts that prove GatewayOneEnd. -/
import Derived.Test.YtkhgohfaecbgkaaGreatDoorGatewayOneEndP2
import Derived.Test.YtkhgohfaecbgkaaGreatDoorProg
import Derived.Test.YtkhgohfaecbgkaaGreatDoorGatewayOneEndP5
import Derived.Test.YtkhgohfaecbgkaaGreatDoorGatewayOneEndP4
import Derived.Lib.LaidU8
import Derived.Shelf.Vars
import Derived.Laws.AppendOwn
namespace Go.Proofs.YtkhgohfaecbgkaaGreatDoor.Lift
open Go.RowKit
set_option linter.unusedVariables false
set_option linter.unusedSimpArgs false
set_option linter.unnecessarySimpa false
set_option linter.unusedSectionVars false
set_option maxRecDepth 100000
def i3t:LO:=[o 4 (mb false)]
def j08:LO:=[o 5 (mv 0),o 6 (.bin .neq (T 5) (ci 5))]
def k9a:LO:=[o 7 (mv 1),o 8 (.bin .eql (T 7) (ci 0)),o 4 (mv 8)]
def h51:A0:=.seq (.region j08) (.cond (T 6) (.seq (.region k9a) .ret) .skip)
def l4g:LO:=[o 9 (mv 1),o 10 (.bin .geq (T 9) (ci 1)),o 11 (mv 10),og 12 (mv 1) 11 true,og 13 (.bin .leq (T 12) (ci 7)) 11 true,o 14 (.pick (T 11) (T 13) (cb false)),o 15 (mv 14),og 16 (mv 1) 15 true,og 17 (.bin .neq (T 16) (ci 6)) 15 true,o 18 (.pick (T 15) (T 17) (cb false)),o 4 (mv 18)]
def e4k:A0:=.seq (.region i3t) (.seq h51 (.seq (.region l4g) .ret))
theorem n2t:A7 Tryz.prog 399=some (19,e4k,[.tmp 4]):=by kernel_rfl
def i88:LO:=[o 1 (bx 0),o 2 (.mv (.c aE))]
def k5i:LO:=[o 3 (fa 1 1),o 4 (ld 3),o 2 (mv 4)]
def e00:A0:=.seq (.region i88) (.seq (.region k5i) .ret)
theorem m2i:A7 Tryz.prog 398=some (5,e00,[.tmp 2]):=by kernel_rfl
def l0i:LO:=[o 3 (bx 0),o 4 (bx 1),o 5 (bx 2),o 6 (mb false)]
def j3s:LO:=[o 7 (ld 3),o 8 (ld 4),o 9 (.sliceV 16 (T 7) none (some (T 8)) none),o 10 (.func (.func 432) [] [(T 5),(T 3),(T 4)]),o 11 (.call (cf 431) [(T 9),(T 10)]),o 6 (mv 11)]
def e21:A0:=.seq (.region l0i) (.seq (.region j3s) .ret)
theorem l7z:A7 Tryz.prog 397=some (12,e21,[.tmp 6]):=by kernel_rfl
def l4v:LO:=[o 4 (bx 0),o 5 (mb false)]
def j0v:LO:=[o 6 (ld 1),o 7 (ln 16 4),o 8 (.call (T 6) [(T 7)]),o 9 (ld 1),o 10 (ld 2),o 11 (ld 3),o 12 (.idxSl 16 (T 10) (T 11)),o 13 (ln 16 12)]
def h0k:LO:=[o 14 (.call (T 9) [(T 13)]),o 15 (.bin .eql (T 8) (T 14)),o 5 (mv 15)]
def e94:LN:=[[],[],[0,1],[],[],[],[4,5],[6]]
def d90:A0:=.seq (.region l4v) (.seq (.drawn e94 j0v h0k) .ret)
theorem n2q:A7 Tryz.prog 432=some (16,d90,[.tmp 5]):=by kernel_rfl
def h7e:LO:=[o 1 (bx 0),o 2 (.mv (.c (.v (.map none))))]
def l4j:LO:=[o 9 (.mkmap),o 3 (.alloc [(.v (.map none))]),on (st 1 3 9)]
def j2r:LO:=[o 10 (fa 0 1),o 11 (ld 10),o 12 (.len false (T 11)),o 13 (.bin .add (T 12) (ci 1)),o 14 (mi 0)]
def k0s:LO:=[o 15 (.bin .lss (T 14) (T 13))]
def k1a:LO:=[o 16 (fa 0 1),o 17 (ld 16),o 18 (.len false (T 17)),o 19 (mi 0)]
def i39:LO:=[o 20 (.bin .lss (T 19) (T 18))]
def f9d:LO:=[o 21 (.idxSl 5 (T 17) (T 19)),o 22 (ln 5 21),o 5 (.alloc [aE,.nil,.nil,.nil,.nil]),on (st 5 5 22)]
def g4u:LO:=[o 24 (ln 3 1),o 25 (fa 0 5),o 26 (ld 25),o 27 (.call (cf 331) [(T 24),(T 26)]),o 23 (mv 27),o 28 (.extract 0 (T 23)),o 29 (.extract 1 (T 23)),o 6 (.alloc [aE,.nil,.nil,.nil,.nil]),on (st 5 6 28),o 7 (mv 29)]
def f4h:LO:=[o 30 (ln 5 6),o 31 (.call (cf 332) [(T 30)]),o 32 (.func (.func 333) [] [(T 1),(T 3)]),o 33 (.call (cf 329) [(T 31),(T 32)]),o 8 (mv 33)]
def g18:LO:=[o 34 (mv 8),o 35 (.un .not (T 34))]
def g3w:LO:=[o 36 (ld 3),o 37 (fa 0 5),o 38 (ld 37),on (.mapset (T 36) (T 38) (cb true))]
def i1s:A0:=.seq (.region g18) (.cond (T 35) (.region g3w) .skip)
def k2s:A0:=.seq (.region f9d) (.seq (.region g4u) (.seq (.region f4h) i1s))
def g0k:LO:=[o 39 (.bin .add (T 19) (ci 1)),o 19 (mv 39)]
def i5e:A0:=.seq (.cond (T 20) .skip (.exit 2)) (.seq (.block 3 k2s) (.region g0k))
def i0i:A0:=.seq (.region i39) i5e
def g07:LO:=[o 40 (.bin .add (T 14) (ci 1)),o 14 (mv 40)]
def l1d:A0:=.seq (.block 1 (.seq (.region k1a) (.block 2 (.loop i0i)))) (.region g07)
def j50:A0:=.seq (.region k0s) (.seq (.cond (T 15) .skip (.exit 0)) l1d)
def g0s:LO:=[o 41 (ld 3),o 2 (mv 41)]
def i2o:A0:=.seq (.seq (.region j2r) (.block 0 (.loop j50))) (.seq (.region g0s) .ret)
def e2h:A0:=.seq (.region h7e) (.seq (.region l4j) i2o)
theorem n74:A7 Tryz.prog 260=some (42,e2h,[.tmp 2]):=by kernel_rfl
def k0f:LO:=[o 1 (bx 0),o 2 (mb false)]
def i5h:LO:=[o 5 (mi 0)]
def k5v:LO:=[o 6 (.bin .lss (T 5) (ci 3))]
def i4l:LO:=[o 7 (mv 5),o 3 (mv 7)]
def l5x:LO:=[o 8 (mv 3),o 9 (mi 0)]
def h2j:LO:=[o 10 (.bin .lss (T 9) (T 8))]
def f73:LO:=[o 11 (mv 9),o 4 (.alloc [(aI 0)]),on (st 1 4 11)]
def h0o:LO:=[o 12 (mv 3),o 13 (.idxA 3 1 (T 1) (T 12)),o 14 (ld 13),o 15 (.func (.func 330) [] [(T 1),(T 4)]),o 16 (.call (cf 329) [(T 14),(T 15)])]
def e5s:LO:=[o 2 (mb false)]
def h7c:A0:=.seq (.region h0o) (.cond (T 16) (.seq (.region e5s) .ret) .skip)
def e7t:LO:=[o 17 (.bin .add (T 9) (ci 1)),o 9 (mv 17)]
def i8j:A0:=.seq (.block 3 (.seq (.region f73) h7c)) (.region e7t)
def l2s:A0:=.seq (.region h2j) (.seq (.cond (T 10) .skip (.exit 2)) i8j)
def l2l:A0:=.seq (.region i4l) (.seq (.region l5x) (.block 2 (.loop l2s)))
def f3i:LO:=[o 18 (.bin .add (T 5) (ci 1)),o 5 (mv 18)]
def l4n:A0:=.seq (.cond (T 6) .skip (.exit 0)) (.seq (.block 1 l2l) (.region f3i))
def h89:A0:=.seq (.region k5v) l4n
def g66:LO:=[o 2 (mb true)]
def l1q:A0:=.seq (.seq (.region i5h) (.block 0 (.loop h89))) (.seq (.region g66) .ret)
def e3v:A0:=.seq (.region k0f) l1q
theorem l63:A7 Tryz.prog 259=some (19,e3v,[.tmp 2]):=by kernel_rfl
def j2u:LO:=[o 4 (mb false)]
def k4w:LO:=[o 5 (ld 2),o 6 (.idxA 3 1 (T 1) (T 5)),o 7 (ld 6),o 8 (mv 0),o 9 (.call (cf 53) [(T 7),(T 8)]),o 4 (mv 9)]
def d88:A0:=.seq (.region j2u) (.seq (.region k4w) .ret)
theorem n4t:A7 Tryz.prog 330=some (10,d88,[.tmp 4]):=by kernel_rfl
def j0h:LO:=[o 2 (mb false)]
def i0b:LO:=[o 3 (mi 1)]
def h3b:LO:=[o 4 (mv 3),o 5 (mv 0),o 6 (.len false (T 5)),o 7 (.bin .lss (T 4) (T 6))]
def i29:LO:=[o 10 (mv 0),o 11 (mv 3),o 12 (.idxSl 1 (T 10) (T 11)),o 13 (ld 12),o 14 (mv 0),o 15 (mv 3),o 16 (.bin .sub (T 15) (ci 1)),o 17 (.idxSl 1 (T 14) (T 16)),o 18 (ld 17)]
def e69:LO:=[o 19 (.bin .leq (T 13) (T 18))]
def f5v:LN:=[[],[],[0,1],[2],[],[],[5],[4,6],[7]]
def h10:LO:=[o 2 (mb false)]
def k7m:A0:=.seq (.drawn f5v i29 e69) (.cond (T 19) (.seq (.region h10) .ret) .skip)
def f6p:LO:=[o 8 (mv 3),o 9 (.bin .add (T 8) (ci 1)),o 3 (mv 9)]
def l2w:A0:=.seq (.seq (.region h3b) (.cond (T 7) .skip (.exit 0))) (.seq (.block 1 k7m) (.region f6p))
def g70:LO:=[o 2 (mb true)]
def l4a:A0:=.seq (.seq (.region i0b) (.block 0 (.loop l2w))) (.seq (.region g70) .ret)
def d9b:A0:=.seq (.region j0h) l4a
theorem m3c:A7 Tryz.prog 258=some (20,d9b,[.tmp 2]):=by kernel_rfl
def j7a:LO:=[o 1 (bx 0),o 2 (.alloc [.nil,.nil,.nil])]
def h7z:LO:=[o 3 (.alloc [.nil,.nil,.nil])]
def l0x:LO:=[o 10 (fa 0 1),o 11 (ld 10),o 12 (.len false (T 11)),o 13 (mi 0)]
def k3t:LO:=[o 14 (.bin .lss (T 13) (T 12))]
def l2d:LO:=[o 15 (.idxSl 5 (T 11) (T 13)),o 16 (ln 5 15),o 5 (.alloc [aE,.nil,.nil,.nil,.nil]),on (st 5 5 16)]
def j3v:LO:=[o 17 (.idxA 3 1 (T 3) (ci 0)),o 18 (ld 17),o 19 (fa 0 5),o 20 (ld 19),o 21 (.sliceLit 1 1 [aE] [((0,1),(T 20))]),o 22 (.append 9 1 16 (T 18) (T 21)),o 23 (.idxA 3 1 (T 3) (ci 0)),on (st 1 23 22)]
def g1i:LO:=[o 24 (.bin .add (T 13) (ci 1)),o 13 (mv 24)]
def l0j:A0:=.seq (.block 1 (.seq (.region l2d) (.region j3v))) (.region g1i)
def k7s:A0:=.seq (.region k3t) (.seq (.cond (T 14) .skip (.exit 0)) l0j)
def f1r:LO:=[o 25 (fa 1 1),o 26 (ld 25),o 27 (.len false (T 26)),o 28 (mi 0)]
def f0m:LO:=[o 29 (.bin .lss (T 28) (T 27))]
def f0o:LO:=[o 30 (.idxSl 5 (T 26) (T 28)),o 31 (ln 5 30),o 7 (.alloc [aE,(aB false),.nil,.nil,.nil]),on (st 5 7 31)]
def f20:LO:=[o 32 (.idxA 3 1 (T 3) (ci 1)),o 33 (ld 32),o 34 (fa 0 7),o 35 (ld 34),o 36 (.sliceLit 1 1 [aE] [((0,1),(T 35))]),o 37 (.append 9 1 16 (T 33) (T 36)),o 38 (.idxA 3 1 (T 3) (ci 1)),on (st 1 38 37)]
def e98:LO:=[o 39 (.bin .add (T 28) (ci 1)),o 28 (mv 39)]
def h68:A0:=.seq (.block 3 (.seq (.region f0o) (.region f20))) (.region e98)
def k6d:A0:=.seq (.region f0m) (.seq (.cond (T 29) .skip (.exit 2)) h68)
def f87:LO:=[o 40 (fa 2 1),o 41 (ld 40),o 42 (.len false (T 41)),o 43 (mi 0)]
def f37:LO:=[o 44 (.bin .lss (T 43) (T 42))]
def g3o:LO:=[o 45 (.idxSl 3 (T 41) (T 43)),o 46 (ln 3 45),o 9 (.alloc [aE,.nil,.nil]),on (st 3 9 46)]
def f9n:LO:=[o 47 (.idxA 3 1 (T 3) (ci 2)),o 48 (ld 47),o 49 (fa 0 9),o 50 (ld 49),o 51 (.sliceLit 1 1 [aE] [((0,1),(T 50))]),o 52 (.append 9 1 16 (T 48) (T 51)),o 53 (.idxA 3 1 (T 3) (ci 2)),on (st 1 53 52)]
def g86:LO:=[o 54 (.bin .add (T 43) (ci 1)),o 43 (mv 54)]
def h20:A0:=.seq (.block 5 (.seq (.region g3o) (.region f9n))) (.region g86)
def i4k:A0:=.seq (.region f37) (.seq (.cond (T 44) .skip (.exit 4)) h20)
def f9b:LO:=[o 55 (ln 3 3),on (st 3 2 55)]
def k99:A0:=.seq (.seq (.region f87) (.block 4 (.loop i4k))) (.seq (.region f9b) .ret)
def l1x:A0:=.seq (.seq (.region f1r) (.block 2 (.loop k6d))) k99
def j1c:A0:=.seq (.seq (.region l0x) (.block 0 (.loop k7s))) l1x
def d1q:A0:=.seq (.region j7a) (.seq (.region h7z) j1c)
theorem m7m:A7 Tryz.prog 256=some (56,d1q,[.cell 2 (some 3)]):=by kernel_rfl
def n6h:LO:=[o 1 (bx 0),o 2 (.alloc [(aI 0),aE])]
def l9s:LO:=[o 4 (fa 0 1),o 5 (ld 4),o 6 (.call (cf 108) [(T 5)]),o 3 (mv 6)]
def m2v:LO:=[o 7 (fa 1 1),o 8 (ld 7),o 9 (.bin .neq (T 8) (.c aE))]
def l61:LO:=[o 10 (mv 3),o 11 (fa 1 1),o 12 (ld 11),o 13 (.bin .add (.c (aS ⟨#[32]⟩)) (T 12)),o 14 (.bin .add (T 10) (T 13)),o 3 (mv 14)]
def m8u:LO:=[o 15 (fa 0 1),o 16 (ld 15),o 17 (.call (cf 22) [(T 16)]),o 18 (mv 3),o 19 (.build [(aI 0),aE] [((0,1),(T 17)),((1,1),(T 18))]),on (st 2 2 19)]
def n6l:A0:=.seq (.seq (.region m2v) (.cond (T 9) (.region l61) .skip)) (.seq (.region m8u) .ret)
def i9x:A0:=.seq (.region n6h) (.seq (.region l9s) n6l)
theorem o06:A7 Tryz.prog 46=some (20,i9x,[.cell 2 (some 2)]):=by kernel_rfl
def i20:LO:=[o 2 (.mv (.c aE))]
def l2a:LO:=[o 3 (mv 0),o 4 (.bin .lss (T 3) (ci 0)),o 5 (mv 4),og 6 (mv 0) 5 false,og 7 (.bin .geq (T 6) (ci 14)) 5 false,o 8 (.pick (T 5) (cb true) (T 7))]
def k4u:LO:=[o 2 (.mv (.c aE))]
def h3m:A0:=.seq (.region l2a) (.cond (T 8) (.seq (.region k4u) .ret) .skip)
def j48:LO:=[o 9 (mv 0),o 10 (.idxA 14 1 (.c (.glob 1)) (T 9)),o 11 (ld 10),o 2 (mv 11)]
def e1o:A0:=.seq (.region i20) (.seq h3m (.seq (.region j48) .ret))
theorem l65:A7 Tryz.prog 108=some (12,e1o,[.tmp 2]):=by kernel_rfl
def n4m:LO:=[o 2 (bx 0),o 4 (.alloc [aE,aE,aE,(aI 0),.nil]),o 5 (mi 0)]
def m5i:LO:=[o 11 (mv 1),o 12 (.call (cf 79) [(T 11),(.c (aS ⟨#[47]⟩))]),o 10 (mv 12),o 13 (.extract 0 (T 10)),o 14 (.extract 1 (T 10)),o 15 (.extract 2 (T 10)),o 6 (mv 13),o 7 (mv 14),o 8 (mv 15)]
def m8v:LO:=[o 16 (mv 8),o 17 (.un .not (T 16)),o 18 (mv 17),og 19 (mv 6) 18 false,og 20 (.call (cf 80) [(T 19)]) 18 false,og 21 (.un .not (T 20)) 18 false,o 22 (.pick (T 18) (cb true) (T 21)),o 23 (mv 22),og 24 (mv 7) 23 false,og 25 (.call (cf 81) [(T 24)]) 23 false,og 26 (.un .not (T 25)) 23 false,o 27 (.pick (T 23) (cb true) (T 26))]
def n76:LO:=[o 28 (.build [aE,aE,aE,(aI 0),.nil] []),on (st 5 4 28),o 5 (mi 2)]
def l8c:A0:=.seq (.region m8v) (.cond (T 27) (.seq (.region n76) .ret) .skip)
def l7g:LO:=[o 30 (ln 3 2),o 31 (mv 1),o 32 (.call (cf 82) [(T 30),(T 31)]),o 29 (mv 32),o 33 (.extract 0 (T 29)),o 34 (.extract 1 (T 29)),o 9 (.alloc [aE,aE,aE,(aI 0),.nil]),on (st 5 9 33),o 8 (mv 34)]
def l6a:LO:=[o 35 (mv 8),o 36 (.un .not (T 35))]
def j19:LO:=[o 37 (.build [aE,aE,aE,(aI 0),.nil] []),on (st 5 4 37),o 5 (mi 10)]
def n12:A0:=.seq (.region l6a) (.cond (T 36) (.seq (.region j19) .ret) .skip)
def l5p:LO:=[o 38 (ln 5 9),on (st 5 4 38),o 5 (mi 0)]
def m57:A0:=.seq (.region l7g) (.seq n12 (.seq (.region l5p) .ret))
def k01:A0:=.seq (.region n4m) (.seq (.region m5i) (.seq l8c m57))
theorem n96:A7 Tryz.prog 36=some (39,k01,[.cell 4 (some 5),.tmp 5]):=by kernel_rfl
def m86:LO:=[o 2 (bx 0),o 4 (.alloc [aE,aE,aE,(aI 0),.nil]),o 5 (mb false)]
def m14:LO:=[o 12 (mv 1),o 13 (.call (cf 79) [(T 12),(.c (aS ⟨#[47]⟩))]),o 11 (mv 13),o 14 (.extract 0 (T 11)),o 15 (.extract 1 (T 11)),o 16 (.extract 2 (T 11)),o 7 (.alloc [aE]),o 6 (mv 14),on (st 1 7 15),o 8 (mv 16)]
def n8k:LO:=[o 18 (ln 3 2),o 19 (mv 6),o 20 (.call (cf 152) [(T 18),(T 19)]),o 17 (mv 20),o 21 (.extract 0 (T 17)),o 22 (.extract 1 (T 17)),o 9 (.alloc [aE,.nil,.nil]),on (st 3 9 21),o 10 (mv 22)]
def l86:LO:=[o 23 (mv 8),o 24 (.un .not (T 23)),o 25 (mv 24),og 26 (mv 10) 25 false,og 27 (.un .not (T 26)) 25 false,o 28 (.pick (T 25) (cb true) (T 27))]
def n3l:LO:=[o 29 (.build [aE,aE,aE,(aI 0),.nil] []),on (st 5 4 29),o 5 (mb false)]
def m8l:A0:=.seq (.region l86) (.cond (T 28) (.seq (.region n3l) .ret) .skip)
def h17:LO:=[o 30 (fa 1 9),o 31 (ld 30),o 32 (.func (.func 154) [] [(T 7)]),o 33 (.call (cf 153) [(T 31),(T 32)]),o 34 (.extract 0 (T 33)),o 35 (.extract 1 (T 33)),on (st 5 4 34),o 5 (mv 35)]
def m71:A0:=.seq (.region n8k) (.seq m8l (.seq (.region h17) .ret))
def i03:A0:=.seq (.region m86) (.seq (.region m14) m71)
theorem o0g:A7 Tryz.prog 82=some (36,i03,[.cell 4 (some 5),.tmp 5]):=by kernel_rfl
def k9v:LO:=[o 2 (bx 0),o 3 (mb false)]
def i81:LO:=[o 4 (fa 0 2),o 5 (ld 4),o 6 (ld 1),o 7 (.bin .eql (T 5) (T 6)),o 3 (mv 7)]
def e3g:A0:=.seq (.region k9v) (.seq (.region i81) .ret)
theorem n0x:A7 Tryz.prog 154=some (8,e3g,[.tmp 3]):=by kernel_rfl
def h65:LO:=[o 4 (.alloc [aE,aE,aE,(aI 0),.nil]),o 5 (mb false)]
def k6i:LO:=[o 9 (mv 0),o 10 (.len false (T 9)),o 11 (mi 0)]
def k2g:LO:=[o 12 (.bin .lss (T 11) (T 10))]
def i9l:LO:=[o 13 (.idxSl 5 (T 9) (T 11)),o 14 (ln 5 13),o 7 (.alloc [aE,aE,aE,(aI 0),.nil]),on (st 5 7 14)]
def i13:LO:=[o 15 (mv 1),o 16 (ln 5 7),o 17 (.call (T 15) [(T 16)])]
def j1l:LO:=[o 18 (ln 5 7),on (st 5 4 18),o 5 (mb true)]
def i1n:A0:=.seq (.region i13) (.cond (T 17) (.seq (.region j1l) .ret) .skip)
def g6x:LO:=[o 19 (.bin .add (T 11) (ci 1)),o 11 (mv 19)]
def j9p:A0:=.seq (.block 1 (.seq (.region i9l) i1n)) (.region g6x)
def i7u:A0:=.seq (.region k2g) (.seq (.cond (T 12) .skip (.exit 0)) j9p)
def e7c:LO:=[o 8 (.alloc [aE,aE,aE,(aI 0),.nil])]
def f1d:LO:=[o 20 (ln 5 8),on (st 5 4 20),o 5 (mb false)]
def h3n:A0:=.seq (.seq (.region k6i) (.block 0 (.loop i7u))) (.seq (.region e7c) (.seq (.region f1d) .ret))
def d91:A0:=.seq (.region h65) h3n
theorem l99:A7 Tryz.prog 153=some (21,d91,[.cell 4 (some 5),.tmp 5]):=by kernel_rfl
def h8r:LO:=[o 2 (bx 0),o 3 (bx 1),o 4 (.alloc [aE,.nil,.nil]),o 5 (mb false)]
def i6v:LO:=[o 6 (fa 2 2),o 7 (ld 6),o 8 (.func (.func 219) [] [(T 3)]),o 9 (.call (cf 218) [(T 7),(T 8)]),o 10 (.extract 0 (T 9)),o 11 (.extract 1 (T 9)),on (st 3 4 10),o 5 (mv 11)]
def d83:A0:=.seq (.region h8r) (.seq (.region i6v) .ret)
theorem m7s:A7 Tryz.prog 152=some (12,d83,[.cell 4 (some 3),.tmp 5]):=by kernel_rfl
def h4h:LO:=[o 2 (bx 0),o 3 (mb false)]
def l1m:LO:=[o 4 (fa 0 2),o 5 (ld 4),o 6 (ld 1),o 7 (.bin .eql (T 5) (T 6)),o 3 (mv 7)]
def d8o:A0:=.seq (.region h4h) (.seq (.region l1m) .ret)
theorem n4z:A7 Tryz.prog 219=some (8,d8o,[.tmp 3]):=by kernel_rfl
def k3n:LO:=[o 4 (.alloc [aE,.nil,.nil]),o 5 (mb false)]
def i8x:LO:=[o 9 (mv 0),o 10 (.len false (T 9)),o 11 (mi 0)]
def i61:LO:=[o 12 (.bin .lss (T 11) (T 10))]
def k8g:LO:=[o 13 (.idxSl 3 (T 9) (T 11)),o 14 (ln 3 13),o 7 (.alloc [aE,.nil,.nil]),on (st 3 7 14)]
def k65:LO:=[o 15 (mv 1),o 16 (ln 3 7),o 17 (.call (T 15) [(T 16)])]
def i82:LO:=[o 18 (ln 3 7),on (st 3 4 18),o 5 (mb true)]
def i3m:A0:=.seq (.region k65) (.cond (T 17) (.seq (.region i82) .ret) .skip)
def f5r:LO:=[o 19 (.bin .add (T 11) (ci 1)),o 11 (mv 19)]
def k4g:A0:=.seq (.block 1 (.seq (.region k8g) i3m)) (.region f5r)
def j5q:A0:=.seq (.region i61) (.seq (.cond (T 12) .skip (.exit 0)) k4g)
def f7w:LO:=[o 8 (.alloc [aE,.nil,.nil])]
def e8g:LO:=[o 20 (ln 3 8),on (st 3 4 20),o 5 (mb false)]
def j8y:A0:=.seq (.seq (.region i8x) (.block 0 (.loop j5q))) (.seq (.region f7w) (.seq (.region e8g) .ret))
def e2q:A0:=.seq (.region k3n) j8y
theorem m45:A7 Tryz.prog 218=some (21,e2q,[.cell 4 (some 3),.tmp 5]):=by kernel_rfl
def m4d:LO:=[o 4 (.mv (.c aE)),o 5 (.mv (.c aE)),o 6 (mb false)]
def m9u:LO:=[o 7 (mv 0),o 8 (mv 1),o 9 (.call (cf 149) [(T 7),(T 8)]),o 10 (.extract 0 (T 9)),o 11 (.extract 1 (T 9)),o 12 (.extract 2 (T 9)),o 4 (mv 10),o 5 (mv 11),o 6 (mv 12)]
def i1g:A0:=.seq (.region m4d) (.seq (.region m9u) .ret)
theorem n99:A7 Tryz.prog 79=some (13,i1g,[.tmp 4,.tmp 5,.tmp 6]):=by kernel_rfl
def d8s:A0:=(.seq (.region [⟨(.some 4),(.mv (.c (.v (.string ⟨⟨[]⟩⟩)))),.none⟩,⟨(.some 5),(.mv (.c (.v (.string ⟨⟨[]⟩⟩)))),.none⟩,⟨(.some 6),(.mv (.c (.v (.bool false)))),.none⟩]) (.seq (.seq (.region [⟨(.some 8),(.mv (.t 0)),.none⟩,⟨(.some 9),(.mv (.t 1)),.none⟩,⟨(.some 10),(.call (.c (.clo (.func 216) [] [])) [(.t 8),(.t 9)]),.none⟩,⟨(.some 7),(.mv (.t 10)),.none⟩]) (.seq (.region [⟨(.some 11),(.mv (.t 7)),.none⟩,⟨(.some 12),(.bin .geq (.t 11) (.c (.v (.int .i64 0)))),.none⟩]) (.cond (.t 12) (.seq (.drawn [[],[],[0,1],[],[],[],[5],[4,6],[3,7],[0,1,2]] [⟨(.some 13),(.mv (.t 0)),.none⟩,⟨(.some 14),(.mv (.t 7)),.none⟩,⟨(.some 15),(.sliceS (.t 13) .none (.some (.t 14))),.none⟩,⟨(.some 16),(.mv (.t 0)),.none⟩,⟨(.some 17),(.mv (.t 7)),.none⟩,⟨(.some 18),(.mv (.t 1)),.none⟩,⟨(.some 19),(.len true (.t 18)),.none⟩,⟨(.some 20),(.bin .add (.t 17) (.t 19)),.none⟩,⟨(.some 21),(.sliceS (.t 16) (.some (.t 20)) .none),.none⟩,⟨(.some 4),(.mv (.t 15)),.none⟩] [⟨(.some 5),(.mv (.t 21)),.none⟩,⟨(.some 6),(.mv (.c (.v (.bool true)))),.none⟩]) .ret) .skip))) (.seq (.region [⟨(.some 22),(.mv (.t 0)),.none⟩,⟨(.some 4),(.mv (.t 22)),.none⟩,⟨(.some 5),(.mv (.c (.v (.string ⟨⟨[]⟩⟩)))),.none⟩,⟨(.some 6),(.mv (.c (.v (.bool false)))),.none⟩]) .ret)))
theorem m80:A7 Tryz.prog 149=some (23,d8s,[(.tmp 4),(.tmp 5),(.tmp 6)]):=by kernel_rfl
def m3f:LO:=[o 2 (.mv (.c aE)),o 3 (mi 0)]
def l9q:LO:=[o 4 (.allocB 121 5)]
def m8n:LO:=[o 5 (mi 0)]
def m1m:LO:=[o 8 (mv 5),o 9 (mv 0),o 10 (.len true (T 9)),o 11 (.bin .lss (T 8) (T 10))]
def m31:LO:=[o 14 (mv 0),o 15 (mv 5),o 16 (.idxS (T 14) (T 15)),o 17 (.bin .neq (T 16) (.c (aC 37)))]
def n3g:LO:=[o 18 (mv 0),o 19 (mv 5),o 20 (.idxS (T 18) (T 19)),o 21 (.call (cf 43) [(T 4),(T 20)])]
def m98:A0:=.seq (.region m31) (.cond (T 17) (.seq (.region n3g) (.exit 1)) .skip)
def j88:LO:=[o 22 (mv 5),o 23 (.bin .add (T 22) (ci 2)),o 24 (mv 0),o 25 (.len true (T 24)),o 26 (.bin .geq (T 23) (T 25))]
def i8s:LO:=[o 2 (.mv (.c aE)),o 3 (mi 2)]
def n2k:A0:=.seq (.region j88) (.cond (T 26) (.seq (.region i8s) .ret) .skip)
def j6q:LO:=[o 27 (mv 0),o 28 (mv 5),o 29 (.bin .add (T 28) (ci 1)),o 30 (.idxS (T 27) (T 29)),o 31 (.call (cf 44) [(.c (aS ⟨#[48,49,50,51,52,53,54,55,56,57,65,66,67,68,69,70]⟩)),(T 30)]),o 32 (mv 0),o 33 (mv 5),o 34 (.bin .add (T 33) (ci 2)),o 35 (.idxS (T 32) (T 34))]
def g9q:LO:=[o 36 (.call (cf 44) [(.c (aS ⟨#[48,49,50,51,52,53,54,55,56,57,65,66,67,68,69,70]⟩)),(T 35)]),o 6 (mv 31),o 7 (mv 36)]
def g0l:LN:=[[],[],[1],[0,2],[3],[],[],[6],[5,7]]
def k5l:LO:=[o 37 (mv 6),o 38 (.bin .lss (T 37) (ci 0)),o 39 (mv 38),og 40 (mv 7) 39 false,og 41 (.bin .lss (T 40) (ci 0)) 39 false,o 42 (.pick (T 39) (cb true) (T 41))]
def h9m:LO:=[o 2 (.mv (.c aE)),o 3 (mi 2)]
def m8f:A0:=.seq (.region k5l) (.cond (T 42) (.seq (.region h9m) .ret) .skip)
def k8i:LO:=[o 43 (mv 6),o 44 (.bin .shl (T 43) (.c (aU 4))),o 45 (mv 7),o 46 (.bin .or (T 44) (T 45)),o 47 (.conv (.num .u8) (T 46)),o 48 (.call (cf 43) [(T 4),(T 47)])]
def i7h:LO:=[o 49 (mv 5),o 50 (.bin .add (T 49) (ci 2)),o 5 (mv 50)]
def n79:A0:=.seq (.drawn g0l j6q g9q) (.seq m8f (.seq (.region k8i) (.region i7h)))
def i5o:LO:=[o 12 (mv 5),o 13 (.bin .add (T 12) (ci 1)),o 5 (mv 13)]
def n5r:A0:=.seq (.block 1 (.seq m98 (.seq n2k n79))) (.region i5o)
def n1f:A0:=.seq (.seq (.region m1m) (.cond (T 11) .skip (.exit 0))) n5r
def i2y:LO:=[o 51 (.call (cf 45) [(T 4)]),o 52 (.call (cf 21) [(T 51)]),o 53 (mv 0),o 54 (.bin .neq (T 52) (T 53))]
def j9q:LO:=[o 2 (.mv (.c aE)),o 3 (mi 2)]
def n7s:A0:=.seq (.region i2y) (.cond (T 54) (.seq (.region j9q) .ret) .skip)
def h80:LO:=[o 55 (.call (cf 45) [(T 4)]),o 2 (mv 55),o 3 (mi 0)]
def m2u:A0:=.seq (.seq (.region m8n) (.block 0 (.loop n1f))) (.seq n7s (.seq (.region h80) .ret))
def j6f:A0:=.seq (.region m3f) (.seq (.region l9q) m2u)
theorem o3e:A7 Tryz.prog 19=some (56,j6f,[.tmp 2,.tmp 3]):=by kernel_rfl
def l7p:LO:=[o 4 (mi 0)]
def n54:LO:=[o 5 (mv 0),o 6 (mv 1),o 7 (.call (cf 107) [(T 5),(T 6)]),o 4 (mv 7)]
def k88:A0:=.seq (.region l7p) (.seq (.region n54) .ret)
theorem o3f:A7 Tryz.prog 44=some (8,k88,[.tmp 4]):=by kernel_rfl
def l69:LO:=[o 3 (bx 0),o 4 (bx 1),o 5 (bx 2),o 6 (.alloc [aE,aE,.nil,aE]),o 7 (mi 0)]
def l9d:LO:=[o 15 (ln 3 3),o 16 (.call (cf 34) [(T 15)]),o 14 (mv 16),o 17 (.extract 0 (T 14)),o 18 (.extract 1 (T 14)),o 8 (.alloc [.nil,.nil,.nil,.nil,.nil]),on (st 5 8 17),o 9 (mv 18)]
def n1b:LO:=[o 20 (ln 3 3),o 21 (fa 2 4),o 22 (ld 21),o 23 (fa 3 4),o 24 (ld 23),o 25 (.call (cf 35) [(T 22),(T 24)]),o 26 (.call (cf 36) [(T 20),(T 25)]),o 19 (mv 26),o 27 (.extract 0 (T 19)),o 28 (.extract 1 (T 19)),o 10 (.alloc [aE,aE,aE,(aI 0),.nil]),on (st 5 10 27)]
def h93:LO:=[o 11 (mv 28)]
def i7m:LN:=[[],[],[1],[],[3],[2,4],[0,5],[6],[7],[7],[],[0,1,2,3,4,5,6,7,8,10]]
def n35:LO:=[o 29 (mv 9),o 30 (.un .not (T 29)),o 31 (mv 30),og 32 (mv 11) 31 false,og 33 (.bin .neq (T 32) (ci 0)) 31 false,o 34 (.pick (T 31) (cb true) (T 33)),o 35 (mv 34),og 36 (ln 3 3) 35 false,og 37 (ln 5 4) 35 false,og 38 (.call (cf 23) [(T 36),(T 37)]) 35 false,og 39 (.bin .neq (T 38) (ci 0)) 35 false,o 40 (.pick (T 35) (cb true) (T 39))]
def m4t:LO:=[o 41 (.build [aE,aE,.nil,aE] []),on (st 4 6 41),o 7 (mi 1)]
def l6v:A0:=.seq (.region n35) (.cond (T 40) (.seq (.region m4t) .ret) .skip)
def l5g:LO:=[o 42 (ln 3 3),o 43 (fa 1 10),o 44 (ld 43),o 45 (ln 7 5),o 46 (.call (cf 40) [(T 42),(T 44),(T 45)]),o 12 (mv 46)]
def l0g:LO:=[o 47 (mv 12),o 48 (.bin .neq (T 47) (ci 0))]
def j9e:LO:=[o 49 (.build [aE,aE,.nil,aE] []),o 50 (mv 12),on (st 4 6 49),o 7 (mv 50)]
def l9a:A0:=.seq (.region l0g) (.cond (T 48) (.seq (.region j9e) .ret) .skip)
def h7m:LO:=[o 52 (ln 5 8),o 53 (fa 1 10),o 54 (ld 53),o 55 (ln 5 4),o 56 (ln 3 3),o 57 (fa 1 10),o 58 (ld 57),o 59 (ln 7 5),o 60 (.call (cf 41) [(T 56),(T 58),(T 59)]),o 61 (.call (cf 42) [(T 52),(T 54),(T 55),(T 60)]),o 51 (mv 61),o 62 (.extract 0 (T 51)),o 63 (.extract 1 (T 51)),o 13 (.alloc [aE,aE,.nil,aE]),on (st 4 13 62)]
def f1f:LO:=[o 11 (mv 63)]
def g3y:LN:=[[],[],[1],[],[],[],[5],[],[4,6,7],[0,2,3,8],[9],[10],[10],[],[0,1,2,3,4,5,6,7,8,9,10,11,13]]
def i7v:LO:=[o 64 (mv 11),o 65 (.bin .neq (T 64) (ci 0))]
def l5j:LO:=[o 66 (.build [aE,aE,.nil,aE] []),o 67 (mv 11),on (st 4 6 66),o 7 (mv 67)]
def n2h:A0:=.seq (.region i7v) (.cond (T 65) (.seq (.region l5j) .ret) .skip)
def j8j:LO:=[o 68 (ln 4 13),on (st 4 6 68),o 7 (mi 0)]
def n7c:A0:=.seq (.drawn g3y h7m f1f) (.seq n2h (.seq (.region j8j) .ret))
def n1t:A0:=.seq (.drawn i7m n1b h93) (.seq l6v (.seq (.seq (.region l5g) l9a) n7c))
def k91:A0:=.seq (.region l69) (.seq (.region l9d) n1t)
theorem o0u:A7 Tryz.prog 18=some (69,k91,[.cell 6 (some 4),.tmp 7]):=by kernel_rfl
def n00:LO:=[o 4 (bx 0),o 6 (bx 2),o 7 (bx 3),o 8 (.alloc [aE,aE,.nil,aE]),o 9 (mi 0)]
def l8f:LO:=[o 19 (ln 5 4),o 20 (mv 1),o 21 (ln 5 6),o 22 (ln 7 7),o 23 (.call (cf 103) [(T 19),(T 20),(T 21),(T 22)]),o 18 (mv 23),o 24 (.extract 0 (T 18)),o 25 (.extract 1 (T 18)),o 26 (.extract 2 (T 18)),o 11 (.alloc zV),o 10 (mv 24),on (st 7 11 25),o 12 (mv 26)]
def l68:LO:=[o 27 (mv 12),o 28 (.bin .neq (T 27) (ci 0))]
def m40:LO:=[o 29 (.build [aE,aE,.nil,aE] []),o 30 (mv 12),on (st 4 8 29),o 9 (mv 30)]
def n3o:A0:=.seq (.region l68) (.cond (T 28) (.seq (.region m40) .ret) .skip)
def m0y:LO:=[o 31 (fa 0 6),o 32 (ld 31),o 33 (mv 10),o 34 (.build [aE,aE,.nil,aE] [((0,1),(T 32)),((1,1),(T 33))]),o 13 (.alloc [aE,aE,.nil,aE]),on (st 4 13 34)]
def k05:LO:=[o 35 (fa 4 6),o 36 (ld 35),o 37 (.bin .eql (T 36) (.c (aS ⟨#[42]⟩)))]
def i5a:LO:=[o 39 (fa 3 4),o 40 (ln 2 39),o 41 (mv 1),o 42 (ln 7 11),o 43 (.call (cf 49) [(T 40),(T 41),(T 42)]),o 38 (mv 43),o 44 (.extract 0 (T 38)),o 45 (.extract 1 (T 38)),o 46 (fa 3 13),on (st 1 46 44),o 12 (mv 45)]
def h5u:LO:=[o 47 (ln 4 13),o 48 (mv 12),on (st 4 8 47),o 9 (mv 48)]
def m9o:A0:=.cond (T 37) (.seq (.region i5a) (.seq (.region h5u) .ret)) .skip
def k67:LO:=[o 50 (fa 0 4),o 51 (ln 3 50),o 52 (mv 1),o 53 (ln 5 6),o 54 (.call (cf 55) [(T 51),(T 52),(T 53)]),o 49 (mv 54),o 55 (.extract 0 (T 49)),o 56 (.extract 1 (T 49)),o 14 (.alloc [(aI 0),aE,(aI 0),(aI 0),(aI 0),aE,aE,(aB false),(aI 0),(aU 0),aE,.nil,.nil,.nil,.nil,.nil]),on (st 16 14 55),o 15 (mv 56)]
def k2h:LO:=[o 57 (mv 15)]
def i4y:LO:=[o 59 (ln 7 11),o 60 (fa 0 14),o 61 (ld 60),o 62 (.sliceLit 1 1 [(aI 0)] [((0,1),(T 61))]),o 63 (.call (cf 88) [(T 59),(T 62)]),o 58 (mv 63),o 64 (.extract 0 (T 58)),o 65 (.extract 1 (T 58)),o 16 (.alloc zV),on (st 7 16 64),o 17 (mv 65)]
def i3q:LO:=[o 66 (mv 17),o 67 (.un .not (T 66))]
def l3t:LO:=[o 68 (.build [aE,aE,.nil,aE] []),on (st 4 8 68),o 9 (mi 14)]
def n7w:A0:=.seq (.region i3q) (.cond (T 67) (.seq (.region l3t) .ret) .skip)
def k9r:LO:=[o 70 (fa 3 4),o 71 (ln 2 70),o 72 (fa 4 14),o 73 (fa 1 72),o 74 (ld 73),o 75 (ln 7 16),o 76 (.call (cf 49) [(T 71),(T 74),(T 75)]),o 69 (mv 76),o 77 (.extract 0 (T 69)),o 78 (.extract 1 (T 69)),o 79 (fa 3 13),on (st 1 79 77),o 12 (mv 78)]
def j65:LO:=[o 80 (mv 12),o 81 (.bin .neq (T 80) (ci 0))]
def i43:LO:=[o 82 (.build [aE,aE,.nil,aE] []),o 83 (mv 12),on (st 4 8 82),o 9 (mv 83)]
def n5t:A0:=.seq (.region j65) (.cond (T 81) (.seq (.region i43) .ret) .skip)
def h24:LO:=[o 84 (ln 7 11),o 85 (fa 0 14),o 86 (ld 85),o 87 (.sliceLit 1 1 [(aI 0)] [((0,1),(T 86))]),o 88 (.call (cf 104) [(T 84),(T 87)]),on (st 7 11 88)]
def m1r:A0:=.seq n7w (.seq (.region k9r) (.seq n5t (.region h24)))
def n28:A0:=.seq (.region k2h) (.cond (T 57) (.seq (.region i4y) m1r) .skip)
def j60:LO:=[o 90 (ln 5 4),o 91 (mv 1),o 92 (ln 7 7),o 93 (ln 7 11),o 94 (.call (cf 105) [(T 90),(T 91),(.c aE),(T 92),(T 93)]),o 89 (mv 94),o 95 (.extract 0 (T 89)),o 96 (.extract 1 (T 89)),o 97 (fa 2 13),on (st 1 97 95),o 12 (mv 96)]
def h7x:LO:=[o 98 (ln 4 13),o 99 (mv 12),on (st 4 8 98),o 9 (mv 99)]
def n1r:A0:=.seq (.seq (.region k67) n28) (.seq (.region j60) (.seq (.region h7x) .ret))
def m4h:A0:=.seq (.region m0y) (.seq (.seq (.region k05) m9o) n1r)
def j2p:A0:=.seq (.region n00) (.seq (.region l8f) (.seq n3o m4h))
theorem o08:A7 Tryz.prog 42=some (100,j2p,[.cell 8 (some 4),.tmp 9]):=by kernel_rfl
def j6s:LO:=[o 5 (bx 0),o 8 (bx 3),o 9 (bx 4),o 10 (.mv (.c .nil)),o 11 (mi 0)]
def h4t:LO:=[o 24 (fa 3 5),o 25 (ln 2 24),o 26 (mv 1),o 27 (.call (cf 162) [(T 25),(T 26)]),o 23 (mv 27),o 28 (.extract 0 (T 23)),o 29 (.extract 1 (T 23)),o 12 (mv 28),o 13 (mv 29)]
def j3z:LO:=[o 14 (.mv (.c .nil))]
def h5l:LO:=[o 30 (fa 5 9),o 31 (ld 30),o 32 (.len false (T 31)),o 33 (mi 0)]
def k4x:LO:=[o 34 (.bin .lss (T 33) (T 32))]
def k7e:LO:=[o 35 (.idxSl 8 (T 31) (T 33)),o 36 (ln 8 35),o 16 (.alloc [(aI 0),(aI 0),(aU 0),aE,.nil,.nil,.nil,.nil]),on (st 8 16 36)]
def i6n:LO:=[o 38 (fa 3 5),o 39 (fa 0 38),o 40 (ld 39),o 41 (mv 12),o 42 (.idxSl 3 (T 40) (T 41)),o 43 (ln 3 42),o 44 (fa 0 16),o 45 (ld 44),o 46 (.call (cf 163) [(T 43),(T 45)]),o 37 (mv 46),o 47 (.extract 0 (T 37)),o 48 (.extract 1 (T 37)),o 17 (.alloc [(aI 0),aE,aE,(aI 0),(aI 0),(aI 0),(aI 0),(aI 0)]),on (st 8 17 47)]
def f1n:LO:=[o 18 (mv 48)]
def g09:LN:=[[],[0],[1],[],[2,3],[4],[],[6],[5,7],[8],[9],[9],[],[0,1,2,3,4,5,6,7,8,9,10,12]]
def e6f:LO:=[o 19 (.mv (.c .nil))]
def e8l:LO:=[o 20 (mi 0)]
def g1e:LO:=[o 49 (fa 5 17),o 50 (ld 49),o 51 (.bin .eql (T 50) (ci 10)),o 52 (mv 51),og 53 (fa 3 17) 52 true,og 54 (ld 53) 52 true,og 55 (.bin .neq (T 54) (ci 4)) 52 true,o 56 (.pick (T 52) (T 55) (cb false)),o 57 (mv 56),og 58 (fa 3 17) 57 true,og 59 (ld 58) 57 true,og 60 (.bin .neq (T 59) (ci 5)) 57 true,o 61 (.pick (T 57) (T 60) (cb false))]
def f7y:LO:=[o 63 (ln 7 8),o 64 (fa 0 16),o 65 (ld 64),o 66 (.sliceLit 1 1 [(aI 0)] [((0,1),(T 65))]),o 67 (.call (cf 88) [(T 63),(T 66)]),o 62 (mv 67),o 68 (.extract 0 (T 62)),o 69 (.extract 1 (T 62)),o 21 (.alloc zV),on (st 7 21 68),o 22 (mv 69)]
def e8y:LO:=[o 70 (fa 5 21),o 71 (ld 70),o 72 (.len false (T 71)),o 73 (.bin .eql (T 72) (ci 0))]
def g3q:LO:=[o 10 (.mv (.c .nil)),o 11 (mi 12)]
def i7p:A0:=.seq (.region e8y) (.cond (T 73) (.seq (.region g3q) .ret) .skip)
def f77:LO:=[o 75 (ln 5 5),o 76 (fa 3 5),o 77 (fa 0 76),o 78 (ld 77),o 79 (fa 6 17),o 80 (ld 79),o 81 (.idxSl 3 (T 78) (T 80)),o 82 (fa 0 81),o 83 (ld 82),o 84 (mv 2),o 85 (fa 1 17),o 86 (ld 85),o 87 (.bin .add (T 84) (T 86)),o 88 (.bin .add (T 87) (.c (aS ⟨#[46]⟩))),o 89 (ln 7 21),o 90 (fa 1 16),o 91 (ln 7 90),o 92 (.call (cf 105) [(T 75),(T 83),(T 88),(T 89),(T 91)]),o 74 (mv 92),o 93 (.extract 0 (T 74)),o 94 (.extract 1 (T 74)),o 19 (mv 93)]
def d54:LO:=[o 20 (mv 94)]
def d4f:LN:=[[],[],[1],[2],[],[4],[3,5],[6],[7],[],[],[10],[9,11],[12],[],[],[15],[0,8,13,14,16],[17],[18],[18],[0,1,2,3,4,5,6,7,8,9,10,11,12,13,14,15,16,17,18,19]]
def h78:A0:=.seq (.region f7y) (.seq i7p (.drawn d4f f77 d54))
def f5g:LO:=[o 96 (ln 5 5),o 97 (ln 8 17),o 98 (mv 2),o 99 (fa 1 17),o 100 (ld 99),o 101 (.bin .add (T 98) (T 100)),o 102 (fa 1 16),o 103 (ln 7 102),o 104 (.call (cf 185) [(T 96),(T 97),(T 101),(T 103)]),o 95 (mv 104),o 105 (.extract 0 (T 95)),o 106 (.extract 1 (T 95)),o 19 (mv 105),o 20 (mv 106)]
def i6j:A0:=.seq (.region g1e) (.cond (T 61) h78 (.region f5g))
def f80:LO:=[o 107 (mv 20),o 108 (.bin .neq (T 107) (ci 0))]
def f7s:LO:=[o 109 (mv 20),o 10 (.mv (.c .nil)),o 11 (mv 109)]
def k1w:A0:=.seq (.region f80) (.cond (T 108) (.seq (.region f7s) .ret) .skip)
def h07:LO:=[o 110 (mv 14),o 111 (mv 19),o 112 (.append 47 2 32 (T 110) (T 111)),o 14 (mv 112)]
def j4t:A0:=.seq (.region e8l) (.seq i6j (.seq k1w (.region h07)))
def i62:A0:=.seq (.drawn g09 i6n f1n) (.seq (.region e6f) j4t)
def g5w:LO:=[o 113 (.bin .add (T 33) (ci 1)),o 33 (mv 113)]
def i7s:A0:=.seq (.block 1 (.seq (.region k7e) i62)) (.region g5w)
def h2b:A0:=.seq (.region k4x) (.seq (.cond (T 34) .skip (.exit 0)) i7s)
def f0w:LO:=[o 114 (fa 6 9),o 115 (ld 114),o 116 (.len false (T 115)),o 117 (.bin .gtr (T 116) (ci 0))]
def f1s:LO:=[o 10 (.mv (.c .nil)),o 11 (mi 18)]
def i0n:A0:=.seq (.region f0w) (.cond (T 117) (.seq (.region f1s) .ret) .skip)
def g7x:LO:=[o 118 (mv 14),o 10 (mv 118),o 11 (mi 0)]
def f4a:A0:=.seq (.seq (.region h5l) (.block 0 (.loop h2b))) (.seq i0n (.seq (.region g7x) .ret))
def d2b:A0:=.seq (.region j6s) (.seq (.region h4t) (.seq (.region j3z) f4a))
theorem n4k:A7 Tryz.prog 105=some (119,d2b,[.tmp 10,.tmp 11]):=by kernel_rfl
def j1n:LO:=[o 4 (bx 0),o 5 (bx 1),o 7 (bx 3),o 8 (.mv (.c .nil)),o 9 (mi 0)]
def j5k:LO:=[o 14 (ln 7 7),o 15 (.sliceLit 7 1 zV [((0,7),(T 14))]),o 10 (mv 15)]
def j07:LO:=[o 16 (fa 0 7),o 17 (ld 16),o 18 (.bin .eql (T 17) (ci 11))]
def j7z:LO:=[o 19 (fa 3 7),o 20 (ld 19),o 10 (mv 20)]
def l14:LO:=[o 21 (fa 3 5),o 22 (ld 21),o 23 (.bin .eql (T 22) (ci 5)),o 24 (mv 23),og 25 (fa 5 5) 24 false,og 26 (ld 25) 24 false,og 27 (.bin .eql (T 26) (ci 6)) 24 false,o 28 (.pick (T 24) (cb true) (T 27)),o 29 (mv 28),og 30 (fa 5 5) 29 false,og 31 (ld 30) 29 false,og 32 (.bin .eql (T 31) (ci 10)) 29 false,o 33 (.pick (T 29) (cb true) (T 32))]
def k6s:LO:=[o 8 (.mv (.c .nil)),o 9 (mi 12)]
def l1v:A0:=.seq (.region l14) (.cond (T 33) (.seq (.region k6s) .ret) .skip)
def f1l:LO:=[o 11 (.mv (.c .nil))]
def g6f:LO:=[o 34 (mv 10),o 35 (.len false (T 34)),o 36 (mi 0)]
def g6v:LO:=[o 37 (.bin .lss (T 36) (T 35))]
def e5n:LO:=[o 38 (.idxSl 7 (T 34) (T 36)),o 39 (ln 7 38),o 13 (.alloc zV),on (st 7 13 39)]
def f4w:LO:=[o 40 (mv 11),o 41 (mv 2),o 42 (ln 5 4),o 43 (ln 8 5),o 44 (ln 7 13),o 45 (.call (cf 183) [(T 42),(T 43),(T 44)]),o 46 (.build [aE,aE] [((0,1),(T 41)),((1,1),(T 45))]),o 47 (.sliceLit 2 1 [aE,aE] [((0,2),(T 46))]),o 48 (.append 47 2 32 (T 40) (T 47)),o 11 (mv 48)]
def g9c:LO:=[o 49 (.bin .add (T 36) (ci 1)),o 36 (mv 49)]
def l49:A0:=.seq (.block 1 (.seq (.region e5n) (.region f4w))) (.region g9c)
def h76:A0:=.seq (.region g6v) (.seq (.cond (T 37) .skip (.exit 0)) l49)
def f2b:LO:=[o 50 (mv 11),o 8 (mv 50),o 9 (mi 0)]
def i5w:A0:=.seq (.seq (.region g6f) (.block 0 (.loop h76))) (.seq (.region f2b) .ret)
def i02:A0:=.seq (.seq (.region j07) (.cond (T 18) (.region j7z) .skip)) (.seq l1v (.seq (.region f1l) i5w))
def e1e:A0:=.seq (.region j1n) (.seq (.region j5k) i02)
theorem n7r:A7 Tryz.prog 185=some (51,e1e,[.tmp 8,.tmp 9]):=by kernel_rfl
def i4e:LO:=[o 3 (bx 0),o 4 (bx 1),o 5 (bx 2),o 6 (.mv (.c aE))]
def k6z:LO:=[o 7 (fa 5 4),o 8 (ld 7),o 9 (.bin .eql (T 8) (ci 7))]
def l23:LO:=[o 10 (fa 2 5),o 11 (ld 10),o 6 (mv 11)]
def k66:A0:=.seq (.region k6z) (.cond (T 9) (.seq (.region l23) .ret) .skip)
def i5g:LO:=[o 12 (fa 3 3),o 13 (ln 2 12),o 14 (ln 8 4),o 15 (ln 7 5),o 16 (.call (cf 255) [(T 13),(T 14),(T 15)]),o 6 (mv 16)]
def e0w:A0:=.seq (.region i4e) (.seq k66 (.seq (.region i5g) .ret))
theorem m1c:A7 Tryz.prog 183=some (17,e0w,[.tmp 6]):=by kernel_rfl
def n5s:LO:=[o 2 (bx 0),o 4 (.alloc zV),o 5 (mb false)]
def m07:LO:=[o 10 (mv 1),o 11 (.len false (T 10)),o 12 (mi 0)]
def l8j:LO:=[o 13 (.bin .lss (T 12) (T 11))]
def n65:LO:=[o 14 (.idxSl 1 (T 10) (T 12)),o 15 (ld 14),o 7 (mv 15)]
def n6m:LO:=[o 17 (ln 7 2),o 18 (mv 7),o 19 (.call (cf 158) [(T 17),(T 18)]),o 16 (mv 19),o 20 (.extract 0 (T 16)),o 21 (.extract 1 (T 16)),o 8 (mv 20),o 9 (mv 21)]
def m0l:LO:=[o 22 (mv 9),o 23 (.un .not (T 22))]
def n58:LO:=[o 24 (.build zV []),on (st 7 4 24),o 5 (mb false)]
def m3v:A0:=.seq (.region m0l) (.cond (T 23) (.seq (.region n58) .ret) .skip)
def k4k:LO:=[o 25 (fa 5 2),o 26 (ld 25),o 27 (mv 8),o 28 (.idxSl 8 (T 26) (T 27)),o 29 (fa 1 28),o 30 (ln 7 29),on (st 7 2 30)]
def m0m:A0:=.seq (.region n65) (.seq (.region n6m) (.seq m3v (.region k4k)))
def i92:LO:=[o 31 (.bin .add (T 12) (ci 1)),o 12 (mv 31)]
def m6b:A0:=.seq (.cond (T 13) .skip (.exit 0)) (.seq (.block 1 m0m) (.region i92))
def n5q:A0:=.seq (.region l8j) m6b
def k5x:LO:=[o 32 (ln 7 2),on (st 7 4 32),o 5 (mb true)]
def m38:A0:=.seq (.seq (.region m07) (.block 0 (.loop n5q))) (.seq (.region k5x) .ret)
def j86:A0:=.seq (.region n5s) m38
theorem o0q:A7 Tryz.prog 88=some (33,j86,[.cell 4 (some 7),.tmp 5]):=by kernel_rfl
def j12:LO:=[o 2 (bx 0),o 4 (mi 0),o 5 (mb false)]
def h3p:LO:=[o 6 (fa 5 2),o 7 (ld 6),o 8 (mv 1),o 9 (.call (cf 226) [(T 7),(T 8),(cf 227)]),o 10 (.extract 0 (T 9)),o 11 (.extract 1 (T 9)),o 4 (mv 10),o 5 (mv 11)]
def e1u:A0:=.seq (.region j12) (.seq (.region h3p) .ret)
theorem m89:A7 Tryz.prog 158=some (12,e1u,[.tmp 4,.tmp 5]):=by kernel_rfl
def i07:LO:=[o 2 (bx 0),o 4 (mi 0)]
def k39:LO:=[o 5 (fa 0 2),o 6 (ld 5),o 7 (mv 1),o 8 (.bin .sub (T 6) (T 7)),o 4 (mv 8)]
def e1y:A0:=.seq (.region i07) (.seq (.region k39) .ret)
theorem n7a:A7 Tryz.prog 227=some (9,e1y,[.tmp 4]):=by kernel_rfl
def l18:LO:=[o 6 (mi 0),o 7 (mb false)]
def l2k:LO:=[o 12 (mv 0),o 13 (.len false (T 12)),o 8 (mv 13)]
def j2l:LO:=[o 14 (mv 8),o 9 (mi 0),o 10 (mv 14)]
def j06:LO:=[o 15 (mv 9),o 16 (mv 10),o 17 (.bin .lss (T 15) (T 16))]
def i19:LO:=[o 18 (mv 9),o 19 (mv 10),o 20 (.bin .add (T 18) (T 19)),o 21 (.conv (.num .u64) (T 20)),o 22 (.bin .shr (T 21) (.c (aU 1))),o 23 (.conv (.num .i64) (T 22)),o 11 (mv 23)]
def l12:LO:=[o 24 (mv 2),o 25 (mv 0),o 26 (mv 11),o 27 (.idxSl 8 (T 25) (T 26)),o 28 (ln 8 27),o 29 (mv 1),o 30 (.call (T 24) [(T 28),(T 29)]),o 31 (.bin .lss (T 30) (ci 0))]
def f4b:LO:=[o 32 (mv 11),o 33 (.bin .add (T 32) (ci 1)),o 9 (mv 33)]
def e6x:LO:=[o 34 (mv 11),o 10 (mv 34)]
def i3y:A0:=.seq (.region l12) (.cond (T 31) (.region f4b) (.region e6x))
def l5h:A0:=.seq (.seq (.region j06) (.cond (T 17) .skip (.exit 0))) (.block 1 (.seq (.region i19) i3y))
def e5h:LO:=[o 35 (mv 9),o 36 (mv 9),o 37 (mv 8),o 38 (.bin .lss (T 36) (T 37)),o 39 (mv 38),og 40 (mv 2) 39 true,og 41 (mv 0) 39 true,og 42 (mv 9) 39 true,og 43 (.idxSl 8 (T 41) (T 42)) 39 true,og 44 (ln 8 43) 39 true,og 45 (mv 1) 39 true,og 46 (.call (T 40) [(T 44),(T 45)]) 39 true,og 47 (.bin .eql (T 46) (ci 0)) 39 true,o 48 (.pick (T 39) (T 47) (cb false)),o 6 (mv 35),o 7 (mv 48)]
def h3u:A0:=.seq (.region j2l) (.seq (.block 0 (.loop l5h)) (.seq (.region e5h) .ret))
def e0u:A0:=.seq (.region l18) (.seq (.region l2k) h3u)
theorem m10:A7 Tryz.prog 226=some (49,e0u,[.tmp 6,.tmp 7]):=by kernel_rfl
def h63:LO:=[o 2 (bx 0),o 4 (.alloc zV)]
def h9p:LO:=[o 8 (ln 7 2),o 9 (mv 1),o 10 (.idxSl 1 (T 9) (ci 0)),o 11 (ld 10),o 12 (.call (cf 158) [(T 8),(T 11)]),o 7 (mv 12),o 13 (.extract 0 (T 7)),o 14 (.extract 1 (T 7)),o 5 (mv 13)]
def g55:LO:=[o 6 (mv 14)]
def e8c:LN:=[[],[],[1],[2],[0,3],[4],[5],[5],[0,1,2,3,4,5,6]]
def l37:LO:=[o 15 (mv 6),o 16 (.un .not (T 15))]
def l16:LO:=[o 17 (ln 7 2),on (st 7 4 17)]
def j04:A0:=.seq (.region l37) (.cond (T 16) (.seq (.region l16) .ret) .skip)
def h4o:LO:=[o 18 (fa 5 2),o 19 (ld 18),o 20 (.call (cf 159) [(T 19)]),o 21 (fa 5 2),on (st 1 21 20)]
def f6j:LO:=[o 22 (mv 1),o 23 (.len false (T 22)),o 24 (.bin .eql (T 23) (ci 1))]
def f9a:LO:=[o 25 (fa 5 2),o 26 (ld 25),o 27 (mv 5),o 28 (mv 5),o 29 (.bin .add (T 28) (ci 1)),o 30 (.call (cf 184) [(T 26),(T 27),(T 29)]),o 31 (fa 5 2),on (st 1 31 30)]
def f0h:LO:=[o 32 (fa 5 2),o 33 (ld 32),o 34 (mv 5),o 35 (fa 5 2),o 36 (ld 35),o 37 (mv 5),o 38 (.idxSl 8 (T 36) (T 37)),o 39 (fa 1 38),o 40 (ln 7 39),o 41 (mv 1),o 42 (.sliceV 1 (T 41) (some (ci 1)) none none),o 43 (.call (cf 104) [(T 40),(T 42)])]
def d5m:LO:=[o 44 (.idxSl 8 (T 33) (T 34)),o 45 (fa 1 44),on (st 7 45 43)]
def d6o:LN:=[[],[0],[],[],[3],[],[4,5],[6],[7],[],[9],[8,10]]
def i3j:A0:=.cond (T 24) (.region f9a) (.drawn d6o f0h d5m)
def e7p:LO:=[o 46 (ln 7 2),on (st 7 4 46)]
def l3v:A0:=.seq (.seq (.region f6j) i3j) (.seq (.region e7p) .ret)
def i6g:A0:=.seq (.drawn e8c h9p g55) (.seq j04 (.seq (.region h4o) l3v))
def d95:A0:=.seq (.region h63) i6g
theorem m3d:A7 Tryz.prog 104=some (47,d95,[.cell 4 (some 7)]):=by kernel_rfl
def i85:LO:=[o 6 (.mv (.c .nil))]
def l04:LO:=[o 8 (mv 0),o 9 (mv 1),o 10 (mv 2),o 11 (mv 0),o 12 (.len false (T 11)),o 13 (.sliceV 8 (T 8) (some (T 9)) (some (T 10)) (some (T 12)))]
def j3i:LO:=[o 14 (mv 1),o 15 (mv 2),o 16 (.bin .eql (T 14) (T 15))]
def k7d:LO:=[o 17 (mv 0),o 6 (mv 17)]
def i0g:A0:=.seq (.region j3i) (.cond (T 16) (.seq (.region k7d) .ret) .skip)
def k0j:LO:=[o 18 (mv 0),o 19 (.len false (T 18)),o 7 (mv 19)]
def f7x:LO:=[o 20 (mv 0),o 21 (mv 1),o 22 (.sliceV 8 (T 20) none (some (T 21)) none),o 23 (mv 0),o 24 (mv 2),o 25 (.sliceV 8 (T 23) (some (T 24)) none none)]
def d5u:LO:=[o 26 (.append 67 8 136 (T 22) (T 25)),o 0 (mv 26)]
def d7q:LN:=[[],[],[0,1],[],[],[3,4]]
def f8i:LO:=[o 27 (mv 0),o 28 (mv 0),o 29 (.len false (T 28)),o 30 (mv 7),o 31 (.sliceV 8 (T 27) (some (T 29)) (some (T 30)) none),on (.clear 8 [(aI 0),(aI 0),(aU 0),aE,.nil,.nil,.nil,.nil] (T 31))]
def e9y:LO:=[o 32 (mv 0),o 6 (mv 32)]
def k7b:A0:=.seq (.drawn d7q f7x d5u) (.seq (.region f8i) (.seq (.region e9y) .ret))
def i4j:A0:=.seq (.region l04) (.seq i0g (.seq (.region k0j) k7b))
def d9h:A0:=.seq (.region i85) i4j
theorem m1y:A7 Tryz.prog 184=some (33,d9h,[.tmp 6]):=by kernel_rfl
def i2w:LO:=[o 4 (bx 0),o 6 (bx 2),o 7 (bx 3),o 8 (.mv (.c aE)),o 9 (.alloc zV),o 10 (mi 0)]
def l3x:LO:=[o 23 (fa 1 6),o 24 (ld 23),o 25 (.call (cf 52) [(T 24)]),o 22 (mv 25),o 26 (.extract 0 (T 22)),o 27 (.extract 1 (T 22)),o 11 (mv 26),o 12 (mv 27)]
def i7b:LO:=[o 13 (.mv (.c aE))]
def h8w:LO:=[o 28 (mv 11),o 29 (.len false (T 28)),o 30 (mi 0)]
def h1w:LO:=[o 31 (.bin .lss (T 30) (T 29))]
def h4w:LO:=[o 32 (.idxSl 1 (T 28) (T 30)),o 33 (ld 32),o 15 (mv 33)]
def k5w:LO:=[o 35 (mv 15),o 36 (.call (cf 67) [(T 35)]),o 34 (mv 36),o 37 (.extract 0 (T 34)),o 38 (.extract 1 (T 34)),o 16 (mv 37),o 17 (mv 38)]
def f86:LO:=[o 39 (mv 17),o 40 (.un .not (T 39))]
def f36:LO:=[o 41 (mv 13),o 42 (mv 15),o 43 (.bin .add (.c (aS ⟨#[47]⟩)) (T 42)),o 44 (.bin .add (T 41) (T 43)),o 13 (mv 44)]
def i15:A0:=.seq (.region f86) (.cond (T 40) (.seq (.region f36) (.exit 1)) .skip)
def f8m:LO:=[o 46 (fa 0 4),o 47 (ln 3 46),o 48 (mv 1),o 49 (mv 16),o 50 (.call (cf 86) [(T 47),(T 48),(T 49)]),o 45 (mv 50),o 51 (.extract 0 (T 45)),o 52 (.extract 1 (T 45)),o 18 (mv 51),o 19 (mv 52)]
def f4d:LO:=[o 53 (mv 19),o 54 (.bin .neq (T 53) (ci 0))]
def f3c:LO:=[o 55 (ln 7 7),o 56 (mv 19),o 8 (.mv (.c aE)),on (st 7 9 55)]
def d4g:LO:=[o 10 (mv 56)]
def d5p:LN:=[[],[],[],[0,2]]
def l5n:A0:=.cond (T 54) (.seq (.drawn d5p f3c d4g) .ret) .skip
def f1y:LO:=[o 58 (ln 7 7),o 59 (mv 18),o 60 (.call (cf 87) [(T 59)]),o 61 (.call (cf 88) [(T 58),(T 60)]),o 57 (mv 61),o 62 (.extract 0 (T 57)),o 63 (.extract 1 (T 57)),o 20 (.alloc zV),on (st 7 20 62)]
def d6f:LO:=[o 17 (mv 63)]
def d78:LN:=[[],[],[1],[0,2],[3],[4],[4],[],[0,1,2,3,4,5,7]]
def f4v:LO:=[o 64 (ln 5 4),o 65 (ln 5 4),o 66 (mv 1),o 67 (mv 18),o 68 (.call (cf 90) [(T 65),(T 66),(T 67)]),o 69 (ln 7 20)]
def d43:LO:=[o 70 (.call (cf 183) [(T 64),(T 68),(T 69)]),o 21 (mv 70)]
def d69:LN:=[[],[],[],[],[1,2,3],[]]
def g99:LO:=[o 71 (mv 17),o 72 (.un .not (T 71)),o 73 (mv 72),og 74 (mv 21) 73 false,og 75 (.bin .eql (T 74) (.c aE)) 73 false,o 76 (.pick (T 73) (cb true) (T 75))]
def g9x:LO:=[o 77 (ln 7 7),o 8 (.mv (.c aE))]
def d7x:LO:=[on (st 7 9 77),o 10 (mi 14)]
def d4o:LN:=[[],[]]
def i5s:A0:=.cond (T 76) (.seq (.drawn d4o g9x d7x) .ret) .skip
def e9b:LO:=[o 78 (mv 13),o 79 (mv 21),o 80 (.call (cf 21) [(T 79)]),o 81 (.bin .add (.c (aS ⟨#[47]⟩)) (T 80)),o 82 (.bin .add (T 78) (T 81)),o 13 (mv 82)]
def f3n:LO:=[o 83 (ln 7 7),o 84 (mv 18),o 85 (.call (cf 87) [(T 84)])]
def d6k:LO:=[o 86 (.call (cf 104) [(T 83),(T 85)]),on (st 7 7 86)]
def d58:LN:=[[],[],[1]]
def j7s:A0:=.seq (.seq (.region g99) i5s) (.seq (.region e9b) (.drawn d58 f3n d6k))
def h8a:A0:=.seq (.drawn d78 f1y d6f) (.seq (.drawn d69 f4v d43) j7s)
def k77:A0:=.seq (.region f8m) (.seq (.seq (.region f4d) l5n) h8a)
def k1z:A0:=.seq (.region h4w) (.seq (.region k5w) (.seq i15 k77))
def g6t:LO:=[o 87 (.bin .add (T 30) (ci 1)),o 30 (mv 87)]
def h4v:A0:=.seq (.cond (T 31) .skip (.exit 0)) (.seq (.block 1 k1z) (.region g6t))
def i0s:A0:=.seq (.region h1w) h4v
def f2v:LO:=[o 88 (mv 13),o 89 (ln 7 7),o 8 (mv 88)]
def d47:LO:=[on (st 7 9 89),o 10 (mi 0)]
def d66:LN:=[[],[],[0]]
def e62:A0:=.seq (.seq (.region h8w) (.block 0 (.loop i0s))) (.seq (.drawn d66 f2v d47) .ret)
def d0o:A0:=.seq (.region i2w) (.seq (.region l3x) (.seq (.region i7b) e62))
theorem l7r:A7 Tryz.prog 103=some (90,d0o,[.tmp 8,.cell 9 (some 7),.tmp 10]):=by kernel_rfl
def n4g:LO:=[o 3 (bx 0),o 6 (.alloc [(aI 0),aE,aE,(aI 0),(aI 0),(aI 0),(aI 0),(aI 0)])]
def m2k:LO:=[o 12 (mv 2),o 13 (.len false (T 12)),o 7 (mv 13)]
def m63:LO:=[o 14 (mv 7),o 15 (.bin .gtr (T 14) (ci 1))]
def n1y:LO:=[o 16 (mv 2),o 17 (mv 7),o 18 (.bin .sub (T 17) (ci 2)),o 19 (.idxSl 16 (T 16) (T 18)),o 20 (fa 4 19),o 21 (fa 1 20),o 22 (ld 21),o 1 (mv 22)]
def l7e:A0:=.seq (.region m2k) (.seq (.region m63) (.cond (T 15) (.region n1y) .skip))
def n34:LO:=[o 24 (fa 3 3),o 25 (ln 2 24),o 26 (mv 1),o 27 (.call (cf 162) [(T 25),(T 26)]),o 23 (mv 27),o 28 (.extract 0 (T 23)),o 29 (.extract 1 (T 23)),o 8 (mv 28),o 9 (mv 29)]
def l9o:LO:=[o 31 (fa 3 3),o 32 (fa 0 31),o 33 (ld 32),o 34 (mv 8),o 35 (.idxSl 3 (T 33) (T 34)),o 36 (ln 3 35),o 37 (mv 2),o 38 (mv 2),o 39 (.len false (T 38)),o 40 (.bin .sub (T 39) (ci 1)),o 41 (.idxSl 16 (T 37) (T 40)),o 42 (fa 0 41),o 43 (ld 42),o 44 (.call (cf 163) [(T 36),(T 43)]),o 30 (mv 44),o 45 (.extract 0 (T 30)),o 46 (.extract 1 (T 30)),o 10 (.alloc [(aI 0),aE,aE,(aI 0),(aI 0),(aI 0),(aI 0),(aI 0)]),on (st 8 10 45)]
def h1s:LO:=[o 11 (mv 46)]
def l40:LN:=[[],[0],[1],[],[2,3],[4],[],[],[7],[8],[6,9],[10],[11],[5,12],[13],[14],[14],[],[0,1,2,3,4,5,6,7,8,9,10,11,12,13,14,15,17]]
def i6c:LO:=[o 47 (ln 8 10),on (st 8 6 47)]
def n30:A0:=.seq (.drawn l40 l9o h1s) (.seq (.region i6c) .ret)
def h9l:A0:=.seq (.region n4g) (.seq l7e (.seq (.region n34) n30))
theorem o21:A7 Tryz.prog 90=some (48,h9l,[.cell 6 (some 8)]):=by kernel_rfl
def m33:LO:=[o 2 (.mv (.c .nil))]
def l9i:LO:=[o 3 (.mv (.c .nil))]
def n1d:LO:=[o 6 (mv 0),o 7 (.len false (T 6)),o 8 (mi 0)]
def m51:LO:=[o 9 (.bin .lss (T 8) (T 7))]
def l9m:LO:=[o 10 (.idxSl 16 (T 6) (T 8)),o 11 (ln 16 10),o 5 (.alloc [(aI 0),aE,(aI 0),(aI 0),(aI 0),aE,aE,(aB false),(aI 0),(aU 0),aE,.nil,.nil,.nil,.nil,.nil]),on (st 16 5 11)]
def l66:LO:=[o 12 (mv 3),o 13 (fa 0 5),o 14 (ld 13),o 15 (.sliceLit 1 1 [(aI 0)] [((0,1),(T 14))]),o 16 (.append 3 1 8 (T 12) (T 15)),o 3 (mv 16)]
def i9v:LO:=[o 17 (.bin .add (T 8) (ci 1)),o 8 (mv 17)]
def n2l:A0:=.seq (.block 1 (.seq (.region l9m) (.region l66))) (.region i9v)
def m7b:A0:=.seq (.region m51) (.seq (.cond (T 9) .skip (.exit 0)) n2l)
def i6r:LO:=[o 18 (mv 3),o 2 (mv 18)]
def m49:A0:=.seq (.seq (.region n1d) (.block 0 (.loop m7b))) (.seq (.region i6r) .ret)
def j6d:A0:=.seq (.region m33) (.seq (.region l9i) m49)
theorem o01:A7 Tryz.prog 87=some (19,j6d,[.tmp 2]):=by kernel_rfl
def n07:LO:=[o 3 (bx 0),o 6 (.mv (.c .nil)),o 7 (mi 0)]
def m0p:LO:=[o 16 (mv 2),o 17 (.bin .eql (T 16) (.c aE))]
def m1b:LO:=[o 6 (.mv (.c .nil)),o 7 (mi 1)]
def m0k:A0:=.seq (.region m0p) (.cond (T 17) (.seq (.region m1b) .ret) .skip)
def m1u:LO:=[o 19 (ln 3 3),o 20 (mv 1),o 21 (.call (cf 93) [(T 19),(T 20)]),o 18 (mv 21),o 22 (.extract 0 (T 18)),o 23 (.extract 1 (T 18)),o 8 (.alloc [aE,.nil,.nil,.nil,.nil]),on (st 5 8 22),o 9 (mv 23)]
def m1j:LO:=[o 24 (mv 9),o 25 (.un .not (T 24))]
def l4e:LO:=[o 6 (.mv (.c .nil)),o 7 (mi 10)]
def n56:A0:=.seq (.region m1j) (.cond (T 25) (.seq (.region l4e) .ret) .skip)
def h4c:LO:=[o 10 (.mv (.c .nil))]
def k9t:LO:=[o 26 (mv 2),o 27 (.call (cf 150) [(T 26),(.c (aS ⟨#[46]⟩))]),o 28 (.len false (T 27)),o 29 (mi 0)]
def l36:LO:=[o 30 (.bin .lss (T 29) (T 28))]
def j6k:LO:=[o 31 (mv 29),o 32 (.idxSl 1 (T 27) (T 29)),o 33 (ld 32),o 11 (mv 31),o 12 (mv 33)]
def j9n:LO:=[o 34 (mv 11),o 35 (.bin .gtr (T 34) (ci 0))]
def i6e:LO:=[o 36 (mv 10),o 37 (mv 11),o 38 (.bin .sub (T 37) (ci 1)),o 39 (.idxSl 16 (T 36) (T 38)),o 40 (ln 16 39),o 13 (.alloc [(aI 0),aE,(aI 0),(aI 0),(aI 0),aE,aE,(aB false),(aI 0),(aU 0),aE,.nil,.nil,.nil,.nil,.nil]),on (st 16 13 40)]
def i7f:LO:=[o 42 (ln 3 3),o 43 (fa 4 13),o 44 (fa 1 43),o 45 (ld 44),o 46 (.call (cf 93) [(T 42),(T 45)]),o 41 (mv 46),o 47 (.extract 0 (T 41)),o 48 (.extract 1 (T 41)),on (st 5 8 47),o 9 (mv 48)]
def k2a:LO:=[o 49 (fa 4 13),o 50 (fa 0 49),o 51 (ld 50),o 52 (.bin .neq (T 51) (ci 10)),o 53 (mv 52),og 54 (fa 2 13) 53 false,og 55 (ld 54) 53 false,og 56 (.bin .eql (T 55) (ci 4)) 53 false,o 57 (.pick (T 53) (cb true) (T 56)),o 58 (mv 57),og 59 (fa 2 13) 58 false,og 60 (ld 59) 58 false,og 61 (.bin .eql (T 60) (ci 5)) 58 false,o 62 (.pick (T 58) (cb true) (T 61)),o 63 (mv 62),og 64 (mv 9) 63 false,og 65 (.un .not (T 64)) 63 false,o 66 (.pick (T 63) (cb true) (T 65))]
def j0f:LO:=[o 6 (.mv (.c .nil)),o 7 (mi 12)]
def l7d:A0:=.seq (.region k2a) (.cond (T 66) (.seq (.region j0f) .ret) .skip)
def n0m:A0:=.cond (T 35) (.seq (.region i6e) (.seq (.region i7f) l7d)) .skip
def k2t:LO:=[o 68 (ln 5 8),o 69 (mv 12),o 70 (.call (cf 122) [(T 68),(T 69)]),o 67 (mv 70),o 71 (.extract 0 (T 67)),o 72 (.extract 1 (T 67)),o 14 (.alloc [(aI 0),aE,(aI 0),(aI 0),(aI 0),aE,aE,(aB false),(aI 0),(aU 0),aE,.nil,.nil,.nil,.nil,.nil]),on (st 16 14 71),o 15 (mv 72)]
def l3b:LO:=[o 73 (mv 15),o 74 (.un .not (T 73))]
def k7t:LO:=[o 6 (.mv (.c .nil)),o 7 (mi 8)]
def m62:A0:=.seq (.region l3b) (.cond (T 74) (.seq (.region k7t) .ret) .skip)
def i8r:LO:=[o 75 (mv 10),o 76 (ln 16 14),o 77 (.sliceLit 16 1 [(aI 0),aE,(aI 0),(aI 0),(aI 0),aE,aE,(aB false),(aI 0),(aU 0),aE,.nil,.nil,.nil,.nil,.nil] [((0,16),(T 76))]),o 78 (.append 88 16 240 (T 75) (T 77)),o 10 (mv 78)]
def n4q:A0:=.seq (.seq (.region j9n) n0m) (.seq (.region k2t) (.seq m62 (.region i8r)))
def j8p:LO:=[o 79 (.bin .add (T 29) (ci 1)),o 29 (mv 79)]
def l88:A0:=.seq (.block 1 (.seq (.region j6k) n4q)) (.region j8p)
def m95:A0:=.seq (.region l36) (.seq (.cond (T 30) .skip (.exit 0)) l88)
def i3e:LO:=[o 80 (mv 10),o 6 (mv 80),o 7 (mi 0)]
def m75:A0:=.seq (.seq (.region k9t) (.block 0 (.loop m95))) (.seq (.region i3e) .ret)
def h1v:A0:=.seq (.region m1u) (.seq n56 (.seq (.region h4c) m75))
def e3e:A0:=.seq (.region n07) (.seq m0k h1v)
theorem o2q:A7 Tryz.prog 86=some (81,e3e,[.tmp 6,.tmp 7]):=by kernel_rfl
def k27:LO:=[o 2 (bx 0),o 3 (bx 1),o 4 (.alloc [(aI 0),aE,(aI 0),(aI 0),(aI 0),aE,aE,(aB false),(aI 0),(aU 0),aE,.nil,.nil,.nil,.nil,.nil]),o 5 (mb false)]
def h28:LO:=[o 9 (fa 1 2),o 10 (ld 9),o 11 (.func (.func 198) [] [(T 3)]),o 12 (.call (cf 175) [(T 10),(T 11)]),o 8 (mv 12),o 13 (.extract 0 (T 8)),o 14 (.extract 1 (T 8)),o 6 (.alloc [(aI 0),aE,(aI 0),(aI 0),(aI 0),aE,aE,(aB false),(aI 0),(aU 0),aE,.nil,.nil,.nil,.nil,.nil]),on (st 16 6 13),o 7 (mv 14)]
def l0c:LO:=[o 15 (mv 7)]
def j59:LO:=[o 16 (ln 16 6),on (st 16 4 16),o 5 (mb true)]
def j8a:A0:=.seq (.region l0c) (.cond (T 15) (.seq (.region j59) .ret) .skip)
def e8n:LO:=[o 17 (fa 1 2),o 18 (ld 17),o 19 (.func (.func 199) [] [(T 3)]),o 20 (.call (cf 175) [(T 18),(T 19)]),o 21 (.extract 0 (T 20)),o 22 (.extract 1 (T 20)),on (st 16 4 21),o 5 (mv 22)]
def l2e:A0:=.seq (.seq (.region h28) j8a) (.seq (.region e8n) .ret)
def e2g:A0:=.seq (.region k27) l2e
theorem n8b:A7 Tryz.prog 122=some (23,e2g,[.cell 4 (some 16),.tmp 5]):=by kernel_rfl
def l2m:LO:=[o 2 (bx 0),o 3 (mb false)]
def h83:LO:=[o 4 (fa 1 2),o 5 (ld 4),o 6 (ld 1),o 7 (.bin .eql (T 5) (T 6)),o 3 (mv 7)]
def e04:A0:=.seq (.region l2m) (.seq (.region h83) .ret)
theorem n3w:A7 Tryz.prog 198=some (8,e04,[.tmp 3]):=by kernel_rfl
def i0r:LO:=[o 4 (.alloc [(aI 0),aE,(aI 0),(aI 0),(aI 0),aE,aE,(aB false),(aI 0),(aU 0),aE,.nil,.nil,.nil,.nil,.nil]),o 5 (mb false)]
def k15:LO:=[o 9 (mv 0),o 10 (.len false (T 9)),o 11 (mi 0)]
def k8k:LO:=[o 12 (.bin .lss (T 11) (T 10))]
def j0e:LO:=[o 13 (.idxSl 16 (T 9) (T 11)),o 14 (ln 16 13),o 7 (.alloc [(aI 0),aE,(aI 0),(aI 0),(aI 0),aE,aE,(aB false),(aI 0),(aU 0),aE,.nil,.nil,.nil,.nil,.nil]),on (st 16 7 14)]
def l5o:LO:=[o 15 (mv 1),o 16 (ln 16 7),o 17 (.call (T 15) [(T 16)])]
def k9b:LO:=[o 18 (ln 16 7),on (st 16 4 18),o 5 (mb true)]
def k6b:A0:=.seq (.region l5o) (.cond (T 17) (.seq (.region k9b) .ret) .skip)
def e6c:LO:=[o 19 (.bin .add (T 11) (ci 1)),o 11 (mv 19)]
def i1j:A0:=.seq (.block 1 (.seq (.region j0e) k6b)) (.region e6c)
def l3z:A0:=.seq (.region k8k) (.seq (.cond (T 12) .skip (.exit 0)) i1j)
def e6b:LO:=[o 8 (.alloc [(aI 0),aE,(aI 0),(aI 0),(aI 0),aE,aE,(aB false),(aI 0),(aU 0),aE,.nil,.nil,.nil,.nil,.nil])]
def g8y:LO:=[o 20 (ln 16 8),on (st 16 4 20),o 5 (mb false)]
def l5r:A0:=.seq (.seq (.region k15) (.block 0 (.loop l3z))) (.seq (.region e6b) (.seq (.region g8y) .ret))
def e3w:A0:=.seq (.region i0r) l5r
theorem n7q:A7 Tryz.prog 175=some (21,e3w,[.cell 4 (some 16),.tmp 5]):=by kernel_rfl
def n51:LO:=[o 2 (bx 0),o 3 (bx 1),o 4 (.alloc [aE,.nil,.nil,.nil,.nil]),o 5 (mb false)]
def m3t:LO:=[o 6 (fa 0 2),o 7 (ld 6),o 8 (.func (.func 166) [] [(T 3)]),o 9 (.call (cf 165) [(T 7),(T 8)]),o 10 (.extract 0 (T 9)),o 11 (.extract 1 (T 9)),on (st 5 4 10),o 5 (mv 11)]
def h7h:A0:=.seq (.region n51) (.seq (.region m3t) .ret)
theorem o20:A7 Tryz.prog 93=some (12,h7h,[.cell 4 (some 5),.tmp 5]):=by kernel_rfl
def j5y:LO:=[o 2 (bx 0),o 3 (mb false)]
def j09:LO:=[o 4 (fa 0 2),o 5 (ld 4),o 6 (ld 1),o 7 (.bin .eql (T 5) (T 6)),o 3 (mv 7)]
def d89:A0:=.seq (.region j5y) (.seq (.region j09) .ret)
theorem l6w:A7 Tryz.prog 166=some (8,d89,[.tmp 3]):=by kernel_rfl
def k0h:LO:=[o 4 (.alloc [aE,.nil,.nil,.nil,.nil]),o 5 (mb false)]
def k62:LO:=[o 9 (mv 0),o 10 (.len false (T 9)),o 11 (mi 0)]
def j7e:LO:=[o 12 (.bin .lss (T 11) (T 10))]
def k79:LO:=[o 13 (.idxSl 5 (T 9) (T 11)),o 14 (ln 5 13),o 7 (.alloc [aE,.nil,.nil,.nil,.nil]),on (st 5 7 14)]
def i9c:LO:=[o 15 (mv 1),o 16 (ln 5 7),o 17 (.call (T 15) [(T 16)])]
def j0c:LO:=[o 18 (ln 5 7),on (st 5 4 18),o 5 (mb true)]
def j41:A0:=.seq (.region i9c) (.cond (T 17) (.seq (.region j0c) .ret) .skip)
def g20:LO:=[o 19 (.bin .add (T 11) (ci 1)),o 11 (mv 19)]
def h5v:A0:=.seq (.block 1 (.seq (.region k79) j41)) (.region g20)
def l00:A0:=.seq (.region j7e) (.seq (.cond (T 12) .skip (.exit 0)) h5v)
def g9d:LO:=[o 8 (.alloc [aE,.nil,.nil,.nil,.nil])]
def h00:LO:=[o 20 (ln 5 8),on (st 5 4 20),o 5 (mb false)]
def l2o:A0:=.seq (.seq (.region k62) (.block 0 (.loop l00))) (.seq (.region g9d) (.seq (.region h00) .ret))
def e2j:A0:=.seq (.region k0h) l2o
theorem m6y:A7 Tryz.prog 165=some (21,e2j,[.cell 4 (some 5),.tmp 5]):=by kernel_rfl
def n2m:LO:=[o 2 (.mv (.c aE)),o 3 (mb false)]
def n1s:LO:=[o 5 (mv 0),o 6 (.len true (T 5)),o 4 (mv 6)]
def m58:LO:=[o 7 (mv 4),o 8 (.bin .lss (T 7) (ci 2)),o 9 (mv 8),og 10 (mv 0) 9 false,og 11 (.idxS (T 10) (ci 0)) 9 false,og 12 (.bin .neq (T 11) (.c (aC 123))) 9 false,o 13 (.pick (T 9) (cb true) (T 12)),o 14 (mv 13),og 15 (mv 0) 14 false,og 16 (mv 4) 14 false,og 17 (.bin .sub (T 16) (ci 1)) 14 false,og 18 (.idxS (T 15) (T 17)) 14 false,og 19 (.bin .neq (T 18) (.c (aC 125))) 14 false,o 20 (.pick (T 14) (cb true) (T 19)),o 21 (mv 20),og 22 (mv 0) 21 false,og 23 (mv 4) 21 false,og 24 (.bin .sub (T 23) (ci 1)) 21 false,og 25 (.sliceS (T 22) (some (ci 1)) (some (T 24))) 21 false,og 26 (.call (cf 80) [(T 25)]) 21 false,og 27 (.un .not (T 26)) 21 false,o 28 (.pick (T 21) (cb true) (T 27))]
def n3j:LO:=[o 2 (.mv (.c aE)),o 3 (mb false)]
def m8h:A0:=.seq (.region m58) (.cond (T 28) (.seq (.region n3j) .ret) .skip)
def m2w:LO:=[o 29 (mv 0),o 30 (mv 4),o 31 (.bin .sub (T 30) (ci 1)),o 32 (.sliceS (T 29) (some (ci 1)) (some (T 31))),o 2 (mv 32),o 3 (mb true)]
def l7o:A0:=.seq (.region n1s) (.seq m8h (.seq (.region m2w) .ret))
def k9d:A0:=.seq (.region n2m) l7o
theorem o1y:A7 Tryz.prog 67=some (33,k9d,[.tmp 2,.tmp 3]):=by kernel_rfl
def n0j:LO:=[o 2 (.mv (.c .nil)),o 3 (mb false)]
def m6r:LO:=[o 11 (mv 0),o 12 (.call (cf 66) [(T 11)]),o 10 (mv 12),o 13 (.extract 0 (T 10)),o 14 (.extract 1 (T 10)),o 4 (mv 13),o 5 (mv 14)]
def n5o:LO:=[o 15 (mv 5),o 16 (.un .not (T 15)),o 17 (mv 16),og 18 (mv 4) 17 false,og 19 (.len false (T 18)) 17 false,og 20 (.bin .gtr (T 19) (ci 8)) 17 false,o 21 (.pick (T 17) (cb true) (T 20))]
def n26:LO:=[o 2 (.mv (.c .nil)),o 3 (mb false)]
def m9s:A0:=.seq (.region n5o) (.cond (T 21) (.seq (.region n26) .ret) .skip)
def m1f:LO:=[o 22 (mv 4),o 23 (.len false (T 22)),o 24 (mi 0)]
def h46:LO:=[o 25 (.bin .lss (T 24) (T 23))]
def l2g:LO:=[o 26 (.idxSl 1 (T 22) (T 24)),o 27 (ld 26),o 7 (mv 27)]
def j0b:LO:=[o 29 (mv 7),o 30 (.call (cf 67) [(T 29)]),o 28 (mv 30),o 31 (.extract 0 (T 28)),o 32 (.extract 1 (T 28)),o 8 (mv 31),o 9 (mv 32)]
def k0m:LO:=[o 33 (mv 9),o 34 (.un .not (T 33)),o 35 (mv 34),og 36 (mv 7) 35 true,og 37 (.call (cf 59) [(T 36)]) 35 true,og 38 (.un .not (T 37)) 35 true,o 39 (.pick (T 35) (T 38) (cb false))]
def k5b:LO:=[o 2 (.mv (.c .nil)),o 3 (mb false)]
def m2d:A0:=.seq (.region k0m) (.cond (T 39) (.seq (.region k5b) .ret) .skip)
def m8p:A0:=.block 1 (.seq (.region l2g) (.seq (.region j0b) m2d))
def k5p:LO:=[o 40 (.bin .add (T 24) (ci 1)),o 24 (mv 40)]
def m6g:A0:=.seq (.cond (T 25) .skip (.exit 0)) (.seq m8p (.region k5p))
def m7i:A0:=.seq (.region h46) m6g
def j3h:LO:=[o 41 (mv 4),o 2 (mv 41),o 3 (mb true)]
def n11:A0:=.seq (.seq (.region m1f) (.block 0 (.loop m7i))) (.seq (.region j3h) .ret)
def j7m:A0:=.seq (.region n0j) (.seq (.region m6r) (.seq m9s n11))
theorem o1x:A7 Tryz.prog 52=some (42,j7m,[.tmp 2,.tmp 3]):=by kernel_rfl
def n8h:LO:=[o 2 (.mv (.c .nil)),o 3 (mb false)]
def m1k:LO:=[o 8 (mv 0),o 9 (.bin .eql (T 8) (.c aE)),o 10 (mv 9),og 11 (mv 0) 10 false,og 12 (.idxS (T 11) (ci 0)) 10 false,og 13 (.bin .neq (T 12) (.c (aC 47))) 10 false,o 14 (.pick (T 10) (cb true) (T 13))]
def n0d:LO:=[o 2 (.mv (.c .nil)),o 3 (mb false)]
def n1q:A0:=.seq (.region m1k) (.cond (T 14) (.seq (.region n0d) .ret) .skip)
def m9b:LO:=[o 15 (mv 0),o 16 (.bytes (T 15)),o 4 (mv 16)]
def m7q:LO:=[o 5 (.mv (.c .nil))]
def j1b:LO:=[o 6 (mi 1)]
def l4c:LO:=[o 7 (mi 1)]
def j8q:LO:=[o 17 (mv 7),o 18 (mv 4),o 19 (.len false (T 18)),o 20 (.bin .leq (T 17) (T 19))]
def j5x:LO:=[o 23 (mv 7),o 24 (mv 4),o 25 (.len false (T 24)),o 26 (.bin .eql (T 23) (T 25)),o 27 (mv 26),og 28 (mv 4) 27 false,og 29 (mv 7) 27 false,og 30 (.idxSl 1 (T 28) (T 29)) 27 false,og 31 (ld 30) 27 false,og 32 (.bin .eql (T 31) (.c (aC 47))) 27 false,o 33 (.pick (T 27) (cb true) (T 32))]
def i8y:LO:=[o 34 (mv 5),o 35 (mv 4),o 36 (mv 6),o 37 (mv 7),o 38 (mv 7),o 39 (.sliceV 1 (T 35) (some (T 36)) (some (T 37)) (some (T 38))),o 40 (.conv .str (T 39)),o 41 (.sliceLit 1 1 [aE] [((0,1),(T 40))]),o 42 (.append 9 1 16 (T 34) (T 41)),o 5 (mv 42)]
def i5n:LO:=[o 43 (mv 7),o 44 (.bin .add (T 43) (ci 1)),o 6 (mv 44)]
def n7y:A0:=.seq (.region j5x) (.cond (T 33) (.seq (.region i8y) (.region i5n)) .skip)
def l05:LO:=[o 21 (mv 7),o 22 (.bin .add (T 21) (ci 1)),o 7 (mv 22)]
def n7p:A0:=.seq (.seq (.region j8q) (.cond (T 20) .skip (.exit 0))) (.seq (.block 1 n7y) (.region l05))
def k3y:LO:=[o 45 (mv 5),o 2 (mv 45),o 3 (mb true)]
def n2u:A0:=.seq (.seq (.region l4c) (.block 0 (.loop n7p))) (.seq (.region k3y) .ret)
def n1w:A0:=.seq (.region m9b) (.seq (.region m7q) (.seq (.region j1b) n2u))
def k2p:A0:=.seq (.region n8h) (.seq n1q n1w)
theorem o2x:A7 Tryz.prog 66=some (46,k2p,[.tmp 2,.tmp 3]):=by kernel_rfl
def n7d:LO:=[o 2 (mb false)]
def m2p:LO:=[o 4 (mv 0),o 5 (.len true (T 4)),o 6 (mi 0)]
def m9g:LO:=[o 7 (.bin .lss (T 6) (T 5))]
def n02:LO:=[o 8 (mv 6),o 3 (mv 8)]
def m16:LO:=[o 9 (mv 0),o 10 (mv 3),o 11 (.idxS (T 9) (T 10)),o 12 (.call (cf 50) [(T 11)]),o 13 (.un .not (T 12)),o 14 (mv 13),og 15 (mv 0) 14 false,og 16 (mv 3) 14 false,og 17 (.idxS (T 15) (T 16)) 14 false,og 18 (.bin .geq (T 17) (.c (aC 65))) 14 false,og 19 (mv 18) 14 false,og 20 (mv 0) 19 true,og 21 (mv 3) 19 true,og 22 (.idxS (T 20) (T 21)) 19 true,og 23 (.bin .leq (T 22) (.c (aC 90))) 19 true,og 24 (.pick (T 19) (T 23) (cb false)) 14 false,o 25 (.pick (T 14) (cb true) (T 24))]
def l8x:LO:=[o 2 (mb false)]
def m6t:A0:=.seq (.region m16) (.cond (T 25) (.seq (.region l8x) .ret) .skip)
def j45:LO:=[o 26 (.bin .add (T 6) (ci 1)),o 6 (mv 26)]
def l8r:A0:=.seq (.block 1 (.seq (.region n02) m6t)) (.region j45)
def m3a:A0:=.seq (.region m9g) (.seq (.cond (T 7) .skip (.exit 0)) l8r)
def i11:LO:=[o 27 (mv 0),o 28 (.bin .neq (T 27) (.c aE)),o 2 (mv 28)]
def n0r:A0:=.seq (.seq (.region m2p) (.block 0 (.loop m3a))) (.seq (.region i11) .ret)
def j9r:A0:=.seq (.region n7d) n0r
theorem o2k:A7 Tryz.prog 59=some (29,j9r,[.tmp 2]):=by kernel_rfl
def l8q:LO:=[o 3 (bx 0),o 5 (bx 2),o 6 (.alloc [(aI 0),aE,(aI 0),(aI 0),(aI 0),aE,aE,(aB false),(aI 0),(aU 0),aE,.nil,.nil,.nil,.nil,.nil]),o 7 (mb false)]
def l8n:LO:=[o 12 (fa 4 5),o 13 (ld 12),o 14 (.bin .eql (T 13) (.c aE)),o 15 (mv 14),og 16 (fa 4 5) 15 false,og 17 (ld 16) 15 false,og 18 (.bin .eql (T 17) (.c (aS ⟨#[42]⟩))) 15 false,o 19 (.pick (T 15) (cb true) (T 18))]
def n8c:LO:=[o 20 (.build [(aI 0),aE,(aI 0),(aI 0),(aI 0),aE,aE,(aB false),(aI 0),(aU 0),aE,.nil,.nil,.nil,.nil,.nil] []),on (st 16 6 20),o 7 (mb false)]
def m72:A0:=.seq (.region l8n) (.cond (T 19) (.seq (.region n8c) .ret) .skip)
def l90:LO:=[o 22 (ln 3 3),o 23 (mv 1),o 24 (.call (cf 93) [(T 22),(T 23)]),o 21 (mv 24),o 25 (.extract 0 (T 21)),o 26 (.extract 1 (T 21)),o 8 (.alloc [aE,.nil,.nil,.nil,.nil]),on (st 5 8 25),o 9 (mv 26)]
def n5n:LO:=[o 28 (ln 5 8),o 29 (fa 4 5),o 30 (ld 29),o 31 (.call (cf 122) [(T 28),(T 30)]),o 27 (mv 31),o 32 (.extract 0 (T 27)),o 33 (.extract 1 (T 27)),o 10 (.alloc [(aI 0),aE,(aI 0),(aI 0),(aI 0),aE,aE,(aB false),(aI 0),(aU 0),aE,.nil,.nil,.nil,.nil,.nil]),on (st 16 10 32),o 11 (mv 33)]
def h3k:LO:=[o 34 (ln 16 10),o 35 (mv 11),o 36 (mv 35),og 37 (fa 4 10) 36 true,og 38 (fa 0 37) 36 true,og 39 (ld 38) 36 true,og 40 (.bin .eql (T 39) (ci 10)) 36 true,o 41 (.pick (T 36) (T 40) (cb false)),o 42 (mv 41),og 43 (fa 2 10) 42 true,og 44 (ld 43) 42 true,og 45 (.bin .eql (T 44) (ci 1)) 42 true,og 46 (mv 45) 42 true,og 47 (fa 2 10) 46 false,og 48 (ld 47) 46 false,og 49 (.bin .eql (T 48) (ci 2)) 46 false,og 50 (.pick (T 46) (cb true) (T 49)) 42 true,o 51 (.pick (T 42) (T 50) (cb false)),on (st 16 6 34)]
def f2p:LO:=[o 7 (mv 51)]
def g15:LN:=[[],[],[1],[2],[2,3],[2,4],[2,5],[2,6],[2,7],[8],[8,9],[8,10],[8,11],[12],[12,13],[12,14],[8,12,15],[8,16],[0,12]]
def n0e:A0:=.seq (.region n5n) (.seq (.drawn g15 h3k f2p) .ret)
def k8e:A0:=.seq (.region l8q) (.seq m72 (.seq (.region l90) n0e))
theorem o2m:A7 Tryz.prog 55=some (52,k8e,[.cell 6 (some 16),.tmp 7]):=by kernel_rfl
def n40:LO:=[o 3 (bx 0),o 5 (bx 2),o 6 (.alloc zV)]
def m0f:LO:=[o 17 (ln 3 3),o 18 (mv 1),o 19 (.call (cf 93) [(T 17),(T 18)]),o 16 (mv 19),o 20 (.extract 0 (T 16)),o 21 (.extract 1 (T 16)),o 7 (.alloc [aE,.nil,.nil,.nil,.nil]),on (st 5 7 20),o 8 (mv 21)]
def l7h:LO:=[o 22 (fa 6 5),o 23 (ld 22),o 24 (.call (cf 96) [(T 23)]),o 25 (.build zV [((0,1),(ci 10)),((6,1),(T 24))]),o 9 (.alloc zV),on (st 7 9 25)]
def m78:LO:=[o 26 (fa 5 5),o 27 (ld 26),o 28 (.call (cf 97) [(T 27)]),o 29 (.len false (T 28)),o 30 (mi 0)]
def n7i:LO:=[o 31 (.bin .lss (T 30) (T 29))]
def m79:LO:=[o 32 (.idxSl 8 (T 28) (T 30)),o 33 (ln 8 32),o 11 (.alloc [(aI 0),(aI 0),(aU 0),aE,.nil,.nil,.nil,.nil]),on (st 8 11 33)]
def m99:LO:=[o 35 (ln 5 7),o 36 (fa 0 11),o 37 (ld 36),o 38 (.call (cf 98) [(T 35),(T 37)]),o 34 (mv 38),o 39 (.extract 0 (T 34)),o 40 (.extract 1 (T 34)),o 12 (.alloc [(aI 0),aE,(aI 0),(aI 0),(aI 0),aE,aE,(aB false),(aI 0),(aU 0),aE,.nil,.nil,.nil,.nil,.nil]),on (st 16 12 39),o 13 (mv 40)]
def k8s:LO:=[o 42 (ln 3 3),o 43 (ln 16 12),o 44 (fa 1 11),o 45 (ln 7 44),o 46 (.call (cf 99) [(T 42),(T 43),(T 45)]),o 41 (mv 46),o 47 (.extract 0 (T 41)),o 48 (.extract 1 (T 41)),o 14 (.alloc zV),on (st 7 14 47),o 15 (mv 48)]
def j2q:LO:=[o 49 (mv 15)]
def h86:LO:=[o 50 (fa 5 9),o 51 (ld 50),o 52 (fa 0 11),o 53 (ld 52),o 54 (ln 7 14),o 55 (.build [(aI 0),(aI 0),(aU 0),aE,.nil,.nil,.nil,.nil] [((0,1),(T 53)),((1,7),(T 54))]),o 56 (.sliceLit 8 1 [(aI 0),(aI 0),(aU 0),aE,.nil,.nil,.nil,.nil] [((0,8),(T 55))]),o 57 (.append 67 8 136 (T 51) (T 56)),o 58 (fa 5 9),on (st 1 58 57)]
def m13:A0:=.seq (.region k8s) (.seq (.region j2q) (.cond (T 49) (.region h86) .skip))
def k1r:LO:=[o 59 (.bin .add (T 30) (ci 1)),o 30 (mv 59)]
def m8j:A0:=.seq (.block 1 (.seq (.region m79) (.seq (.region m99) m13))) (.region k1r)
def l8p:A0:=.seq (.region n7i) (.seq (.cond (T 31) .skip (.exit 0)) m8j)
def j2z:LO:=[o 60 (fa 6 9),o 61 (ld 60),o 62 (.call (cf 100) [(T 61),(cf 101)])]
def i5k:LO:=[o 63 (ln 7 9),on (st 7 6 63)]
def n4p:A0:=.seq (.seq (.region m78) (.block 0 (.loop l8p))) (.seq (.region j2z) (.seq (.region i5k) .ret))
def l5s:A0:=.seq (.region n40) (.seq (.region m0f) (.seq (.region l7h) n4p))
theorem o3r:A7 Tryz.prog 41=some (64,l5s,[.cell 6 (some 7)]):=by kernel_rfl
def e4l:A0:=(.seq (.region [⟨(.some 3),(.box (.t 0)),.none⟩,⟨(.some 4),(.box (.t 1)),.none⟩,⟨(.some 5),(.box (.t 2)),.none⟩,⟨(.some 6),(.alloc [(.v (.int .i64 0)),(.v (.int .u64 0)),(.v (.string ⟨⟨[]⟩⟩)),.nil,.nil,.nil,.nil]),.none⟩,⟨(.some 7),(.mv (.c (.v (.bool false)))),.none⟩]) (.seq (.seq (.region [⟨(.some 14),(.fieldAddr 2 (.t 4)),.none⟩,⟨(.some 15),(.load .none (.t 14)),.none⟩]) (.block 0 (.seq (.region [⟨(.some 17),(.bin .eql (.t 15) (.c (.v (.int .i64 4)))),.none⟩,⟨(.some 16),(.mv (.t 17)),.none⟩]) (.cond (.t 16) (.seq (.region [⟨(.some 18),(.build [(.v (.int .i64 0)),(.v (.int .u64 0)),(.v (.string ⟨⟨[]⟩⟩)),.nil,.nil,.nil,.nil] [((0,1),(.c (.v (.int .i64 11))))]),.none⟩,⟨(.some 8),(.alloc [(.v (.int .i64 0)),(.v (.int .u64 0)),(.v (.string ⟨⟨[]⟩⟩)),.nil,.nil,.nil,.nil]),.none⟩,⟨.none,(.store 7 (.t 8) (.t 18)),.none⟩]) (.seq (.seq (.region [⟨(.some 19),(.fieldAddr 3 (.t 5)),.none⟩,⟨(.some 20),(.load .none (.t 19)),.none⟩,⟨(.some 21),(.len false (.t 20)),.none⟩,⟨(.some 22),(.mv (.c (.v (.int .i64 0)))),.none⟩]) (.block 1 (.loop (.seq (.region [⟨(.some 23),(.bin .lss (.t 22) (.t 21)),.none⟩]) (.seq (.cond (.t 23) .skip (.exit 1)) (.seq (.block 2 (.seq (.region [⟨(.some 24),(.idxSl 7 (.t 20) (.t 22)),.none⟩,⟨(.some 25),(.load (.some 7) (.t 24)),.none⟩,⟨(.some 10),(.alloc [(.v (.int .i64 0)),(.v (.int .u64 0)),(.v (.string ⟨⟨[]⟩⟩)),.nil,.nil,.nil,.nil]),.none⟩,⟨.none,(.store 7 (.t 10) (.t 25)),.none⟩]) (.drawn [[],[0],[],[],[3],[],[2,4,5],[6]] [⟨(.some 26),(.fieldAddr 3 (.t 8)),.none⟩,⟨(.some 27),(.load .none (.t 26)),.none⟩,⟨(.some 28),(.load (.some 3) (.t 3)),.none⟩,⟨(.some 29),(.fieldAddr 4 (.t 4)),.none⟩,⟨(.some 30),(.load (.some 2) (.t 29)),.none⟩,⟨(.some 31),(.load (.some 7) (.t 10)),.none⟩,⟨(.some 32),(.call (.c (.clo (.func 177) [] [])) [(.t 28),(.t 30),(.t 31)]),.none⟩,⟨(.some 33),(.sliceLit 7 1 [(.v (.int .i64 0)),(.v (.int .u64 0)),(.v (.string ⟨⟨[]⟩⟩)),.nil,.nil,.nil,.nil] [((0,7),(.t 32))]),.none⟩] [⟨(.some 34),(.append 54 7 128 (.t 27) (.t 33)),.none⟩,⟨(.some 35),(.fieldAddr 3 (.t 8)),.none⟩,⟨.none,(.store 1 (.t 35) (.t 34)),.none⟩]))) (.region [⟨(.some 36),(.bin .add (.t 22) (.c (.v (.int .i64 1)))),.none⟩,⟨(.some 22),(.mv (.t 36)),.none⟩]))))))) (.seq (.drawn [[],[],[1],[2],[3],[0]] [⟨(.some 37),(.load (.some 7) (.t 8)),.none⟩,⟨(.some 38),(.fieldAddr 3 (.t 8)),.none⟩,⟨(.some 39),(.load .none (.t 38)),.none⟩,⟨(.some 40),(.len false (.t 39)),.none⟩,⟨(.some 41),(.bin .gtr (.t 40) (.c (.v (.int .i64 0)))),.none⟩,⟨.none,(.store 7 (.t 6) (.t 37)),.none⟩] [⟨(.some 7),(.mv (.t 41)),.none⟩]) .ret))) (.seq (.region [⟨(.some 43),(.bin .eql (.t 15) (.c (.v (.int .i64 5)))),.none⟩,⟨(.some 42),(.mv (.t 43)),.none⟩]) (.cond (.t 42) (.seq (.region [⟨(.some 44),(.build [(.v (.int .i64 0)),(.v (.int .u64 0)),(.v (.string ⟨⟨[]⟩⟩)),.nil,.nil,.nil,.nil] [((0,1),(.c (.v (.int .i64 12))))]),.none⟩,⟨(.some 11),(.alloc [(.v (.int .i64 0)),(.v (.int .u64 0)),(.v (.string ⟨⟨[]⟩⟩)),.nil,.nil,.nil,.nil]),.none⟩,⟨.none,(.store 7 (.t 11) (.t 44)),.none⟩]) (.seq (.seq (.region [⟨(.some 45),(.fieldAddr 4 (.t 5)),.none⟩,⟨(.some 46),(.load .none (.t 45)),.none⟩,⟨(.some 47),(.call (.c (.clo (.func 178) [] [])) [(.t 46)]),.none⟩,⟨(.some 48),(.len false (.t 47)),.none⟩,⟨(.some 49),(.mv (.c (.v (.int .i64 0)))),.none⟩]) (.block 3 (.loop (.seq (.region [⟨(.some 50),(.bin .lss (.t 49) (.t 48)),.none⟩]) (.seq (.cond (.t 50) .skip (.exit 3)) (.seq (.block 4 (.seq (.region [⟨(.some 51),(.idxSl 14 (.t 47) (.t 49)),.none⟩,⟨(.some 52),(.load (.some 14) (.t 51)),.none⟩,⟨(.some 13),(.alloc [(.v (.int .i64 0)),(.v (.int .u64 0)),(.v (.string ⟨⟨[]⟩⟩)),.nil,.nil,.nil,.nil,(.v (.int .i64 0)),(.v (.int .u64 0)),(.v (.string ⟨⟨[]⟩⟩)),.nil,.nil,.nil,.nil]),.none⟩,⟨.none,(.store 14 (.t 13) (.t 52)),.none⟩]) (.drawn [[],[0],[],[2],[3],[],[],[6],[],[8],[4,5,7,9],[4,10],[11]] [⟨(.some 53),(.fieldAddr 4 (.t 11)),.none⟩,⟨(.some 54),(.load .none (.t 53)),.none⟩,⟨(.some 55),(.fieldAddr 0 (.t 13)),.none⟩,⟨(.some 56),(.load (.some 7) (.t 55)),.none⟩,⟨(.some 57),(.call (.c (.clo (.func 179) [] [])) [(.t 56)]),.none⟩,⟨(.some 58),(.load (.some 3) (.t 3)),.none⟩,⟨(.some 59),(.fieldAddr 4 (.t 4)),.none⟩,⟨(.some 60),(.load (.some 2) (.t 59)),.none⟩,⟨(.some 61),(.fieldAddr 7 (.t 13)),.none⟩,⟨(.some 62),(.load (.some 7) (.t 61)),.none⟩,⟨(.some 63),(.call (.c (.clo (.func 177) [] [])) [(.t 58),(.t 60),(.t 62)]),.none⟩,⟨(.some 64),(.build [(.v (.int .i64 0)),(.v (.int .u64 0)),(.v (.string ⟨⟨[]⟩⟩)),.nil,.nil,.nil,.nil,(.v (.int .i64 0)),(.v (.int .u64 0)),(.v (.string ⟨⟨[]⟩⟩)),.nil,.nil,.nil,.nil] [((0,7),(.t 57)),((7,7),(.t 63))]),.none⟩,⟨(.some 65),(.sliceLit 14 1 [(.v (.int .i64 0)),(.v (.int .u64 0)),(.v (.string ⟨⟨[]⟩⟩)),.nil,.nil,.nil,.nil,(.v (.int .i64 0)),(.v (.int .u64 0)),(.v (.string ⟨⟨[]⟩⟩)),.nil,.nil,.nil,.nil] [((0,14),(.t 64))]),.none⟩] [⟨(.some 66),(.append 269 14 256 (.t 54) (.t 65)),.none⟩,⟨(.some 67),(.fieldAddr 4 (.t 11)),.none⟩,⟨.none,(.store 1 (.t 67) (.t 66)),.none⟩]))) (.region [⟨(.some 68),(.bin .add (.t 49) (.c (.v (.int .i64 1)))),.none⟩,⟨(.some 49),(.mv (.t 68)),.none⟩]))))))) (.seq (.drawn [[],[],[1],[2],[3],[0]] [⟨(.some 69),(.load (.some 7) (.t 11)),.none⟩,⟨(.some 70),(.fieldAddr 4 (.t 11)),.none⟩,⟨(.some 71),(.load .none (.t 70)),.none⟩,⟨(.some 72),(.len false (.t 71)),.none⟩,⟨(.some 73),(.bin .gtr (.t 72) (.c (.v (.int .i64 0)))),.none⟩,⟨.none,(.store 7 (.t 6) (.t 69)),.none⟩] [⟨(.some 7),(.mv (.t 73)),.none⟩]) .ret))) .skip)))))) (.seq (.drawn [[],[],[1],[],[0,2,3],[],[5],[6],[4,7],[8],[8,9],[8,10],[8,11],[0,1,2,3,4,10]] [⟨(.some 74),(.load (.some 3) (.t 3)),.none⟩,⟨(.some 75),(.fieldAddr 4 (.t 4)),.none⟩,⟨(.some 76),(.load (.some 2) (.t 75)),.none⟩,⟨(.some 77),(.load (.some 7) (.t 5)),.none⟩,⟨(.some 78),(.call (.c (.clo (.func 177) [] [])) [(.t 74),(.t 76),(.t 77)]),.none⟩,⟨(.some 79),(.fieldAddr 2 (.t 4)),.none⟩,⟨(.some 80),(.load .none (.t 79)),.none⟩,⟨(.some 81),(.bin .neq (.t 80) (.c (.v (.int .i64 3)))),.none⟩,⟨(.some 82),(.mv (.t 81)),.none⟩,⟨(.some 83),(.load (.some 7) (.t 5)),(.some (82,false))⟩,⟨(.some 84),(.call (.c (.clo (.func 180) [] [])) [(.t 83)]),(.some (82,false))⟩,⟨(.some 85),(.un .not (.t 84)),(.some (82,false))⟩,⟨(.some 86),(.pick (.t 82) (.c (.v (.bool true))) (.t 85)),.none⟩,⟨.none,(.store 7 (.t 6) (.t 78)),.none⟩] [⟨(.some 7),(.mv (.t 86)),.none⟩]) .ret)))
theorem o1q:A7 Tryz.prog 99=some (87,e4l,[(.cell 6 (.some 7)),(.tmp 7)]):=by kernel_rfl
def i7w:LO:=[o 3 (bx 0),o 4 (bx 1),o 5 (bx 2),o 6 (.alloc zV)]
def j8h:LO:=[o 7 (fa 0 4),o 8 (ld 7),o 9 (.bin .eql (T 8) (ci 10))]
def k78:LO:=[o 10 (ln 3 3),o 11 (fa 1 4),o 12 (ld 11),o 13 (ln 7 5),o 14 (.call (cf 41) [(T 10),(T 12),(T 13)]),on (st 7 6 14)]
def k3x:A0:=.seq (.region j8h) (.cond (T 9) (.seq (.region k78) .ret) .skip)
def j5n:LO:=[o 15 (ln 7 5),o 16 (.call (cf 179) [(T 15)]),on (st 7 6 16)]
def e3z:A0:=.seq (.region i7w) (.seq k3x (.seq (.region j5n) .ret))
theorem l9g:A7 Tryz.prog 177=some (17,e3z,[.cell 6 (some 7)]):=by kernel_rfl
def n31:LO:=[o 2 (bx 0),o 3 (bx 1),o 4 (.alloc [(aI 0),aE,(aI 0),(aI 0),(aI 0),aE,aE,(aB false),(aI 0),(aU 0),aE,.nil,.nil,.nil,.nil,.nil]),o 5 (mb false)]
def m77:LO:=[o 6 (fa 1 2),o 7 (ld 6),o 8 (.func (.func 176) [] [(T 3)]),o 9 (.call (cf 175) [(T 7),(T 8)]),o 10 (.extract 0 (T 9)),o 11 (.extract 1 (T 9)),on (st 16 4 10),o 5 (mv 11)]
def l4p:A0:=.seq (.region n31) (.seq (.region m77) .ret)
theorem o0b:A7 Tryz.prog 98=some (12,l4p,[.cell 4 (some 16),.tmp 5]):=by kernel_rfl
def h4z:LO:=[o 2 (bx 0),o 3 (mb false)]
def j51:LO:=[o 4 (fa 0 2),o 5 (ld 4),o 6 (ld 1),o 7 (.bin .eql (T 5) (T 6)),o 3 (mv 7)]
def e4n:A0:=.seq (.region h4z) (.seq (.region j51) .ret)
theorem n2j:A7 Tryz.prog 176=some (8,e4n,[.tmp 3]):=by kernel_rfl
def m4c:LO:=[o 3 (bx 0),o 5 (bx 2),o 6 (mi 0)]
def n3e:LO:=[o 11 (ln 3 3),o 12 (mv 1),o 13 (.call (cf 93) [(T 11),(T 12)]),o 10 (mv 13),o 14 (.extract 0 (T 10)),o 15 (.extract 1 (T 10)),o 7 (.alloc [aE,.nil,.nil,.nil,.nil]),on (st 5 7 14),o 8 (mv 15)]
def n2w:LO:=[o 16 (mv 8),o 17 (.un .not (T 16))]
def n3q:LO:=[o 6 (mi 10)]
def m92:A0:=.seq (.region n2w) (.cond (T 17) (.seq (.region n3q) .ret) .skip)
def m7e:LO:=[o 18 (ln 3 3),o 19 (ln 5 7),o 20 (ln 7 5),o 21 (.call (cf 94) [(T 18),(T 19),(T 20),(ci 1)]),o 9 (mv 21)]
def j3l:LO:=[o 22 (mv 9),o 23 (.bin .neq (T 22) (ci 0))]
def k3f:LO:=[o 24 (mv 9),o 6 (mv 24)]
def l75:A0:=.seq (.region j3l) (.cond (T 23) (.seq (.region k3f) .ret) .skip)
def i75:LO:=[o 25 (ln 7 5),o 26 (.call (cf 95) [(T 25)]),o 27 (.bin .gtr (T 26) (ci 4096))]
def h2f:LO:=[o 6 (mi 3)]
def n1c:A0:=.seq (.region i75) (.cond (T 27) (.seq (.region h2f) .ret) .skip)
def h84:LO:=[o 6 (mi 0)]
def m8z:A0:=.seq (.seq (.region m7e) l75) (.seq n1c (.seq (.region h84) .ret))
def i3u:A0:=.seq (.region m4c) (.seq (.region n3e) (.seq m92 m8z))
theorem o2n:A7 Tryz.prog 40=some (28,i3u,[.tmp 6]):=by kernel_rfl
def m59:LO:=[o 4 (bx 0),o 5 (bx 1),o 6 (bx 2),o 8 (mi 0)]
def m8w:LO:=[o 17 (fa 0 6),o 18 (ld 17),o 19 (.bin .neq (T 18) (ci 10)),o 20 (mv 19),og 21 (ln 7 6) 20 false,og 22 (.call (cf 167) [(T 21)]) 20 false,o 23 (.pick (T 20) (cb true) (T 22)),o 16 (mv 23)]
def n3r:LO:=[o 8 (mi 12)]
def m6a:LO:=[o 25 (mv 3),o 26 (.bin .gtr (T 25) (ci 16)),o 24 (mv 26)]
def m9i:LO:=[o 8 (mi 17)]
def m34:A0:=.seq (.region m6a) (.cond (T 24) (.seq (.region m9i) .ret) .skip)
def m6u:A0:=.seq (.region m8w) (.cond (T 16) (.seq (.region n3r) .ret) m34)
def i41:LO:=[o 27 (fa 5 6),o 28 (ld 27),o 29 (.len false (T 28)),o 30 (mi 0)]
def k1y:LO:=[o 31 (.bin .lss (T 30) (T 29))]
def l2y:LO:=[o 32 (mv 30),o 9 (mv 32)]
def l3y:LO:=[o 33 (ln 3 4),o 34 (ln 5 5),o 35 (fa 5 6),o 36 (ld 35),o 37 (mv 9),o 38 (mv 3),o 39 (.call (cf 168) [(T 33),(T 34),(T 36),(T 37),(T 38)]),o 10 (mv 39)]
def j7v:LO:=[o 40 (mv 10),o 41 (.bin .neq (T 40) (ci 0))]
def k2r:LO:=[o 42 (mv 10),o 8 (mv 42)]
def n6p:A0:=.seq (.region j7v) (.cond (T 41) (.seq (.region k2r) .ret) .skip)
def m6p:A0:=.block 2 (.seq (.region l2y) (.seq (.region l3y) n6p))
def h4n:LO:=[o 43 (.bin .add (T 30) (ci 1)),o 30 (mv 43)]
def n19:A0:=.seq (.cond (T 31) .skip (.exit 1)) (.seq m6p (.region h4n))
def m64:A0:=.seq (.region k1y) n19
def k1x:LO:=[o 44 (fa 1 5),o 45 (ld 44),o 46 (.len false (T 45)),o 47 (mi 0)]
def l3d:LO:=[o 48 (.bin .lss (T 47) (T 46))]
def j7x:LO:=[o 49 (.idxSl 16 (T 45) (T 47)),o 50 (ln 16 49),o 12 (.alloc [(aI 0),aE,(aI 0),(aI 0),(aI 0),aE,aE,(aB false),(aI 0),(aU 0),aE,.nil,.nil,.nil,.nil,.nil]),on (st 16 12 50)]
def i8t:LO:=[o 51 (fa 2 12),o 52 (ld 51),o 53 (.bin .eql (T 52) (ci 1)),o 54 (mv 53),og 55 (fa 5 6) 54 true,og 56 (ld 55) 54 true,og 57 (.func (.func 170) [] [(T 12)]) 54 true,og 58 (.call (cf 169) [(T 56),(T 57)]) 54 true,og 59 (.un .not (T 58)) 54 true,o 60 (.pick (T 54) (T 59) (cb false))]
def h61:LO:=[o 8 (mi 14)]
def m8s:A0:=.seq (.region i8t) (.cond (T 60) (.seq (.region h61) .ret) .skip)
def j3o:LO:=[o 61 (.bin .add (T 47) (ci 1)),o 47 (mv 61)]
def n6g:A0:=.seq (.block 4 (.seq (.region j7x) m8s)) (.region j3o)
def m08:A0:=.seq (.region l3d) (.seq (.cond (T 48) .skip (.exit 3)) n6g)
def h8k:LO:=[o 62 (fa 6 6),o 63 (ld 62),o 64 (.len false (T 63)),o 65 (mi 0)]
def i42:LO:=[o 66 (.bin .lss (T 65) (T 64))]
def i6w:LO:=[o 67 (.idxSl 4 (T 63) (T 65)),o 68 (ln 4 67),o 14 (.alloc [(aI 0),(aI 0),(aU 0),aE]),on (st 4 14 68)]
def k7a:LO:=[o 69 (ln 3 4),o 70 (ln 5 5),o 71 (ln 4 14),o 72 (.call (cf 171) [(T 69),(T 70),(T 71)]),o 15 (mv 72)]
def h2i:LO:=[o 73 (mv 15),o 74 (.bin .neq (T 73) (ci 0))]
def j5h:LO:=[o 75 (mv 15),o 8 (mv 75)]
def h8p:A0:=.seq (.region h2i) (.cond (T 74) (.seq (.region j5h) .ret) .skip)
def j1f:A0:=.block 6 (.seq (.region i6w) (.seq (.region k7a) h8p))
def j9v:LO:=[o 76 (.bin .add (T 65) (ci 1)),o 65 (mv 76)]
def h6c:A0:=.seq (.cond (T 66) .skip (.exit 5)) (.seq j1f (.region j9v))
def i86:A0:=.seq (.region i42) h6c
def i6f:LO:=[o 8 (mi 0)]
def j4w:A0:=.seq (.seq (.region h8k) (.block 5 (.loop i86))) (.seq (.region i6f) .ret)
def j6m:A0:=.seq (.seq (.region i41) (.block 1 (.loop m64))) (.seq (.seq (.region k1x) (.block 3 (.loop m08))) j4w)
def e3h:A0:=.seq (.region m59) (.seq (.block 0 m6u) j6m)
theorem o1v:A7 Tryz.prog 94=some (77,e3h,[.tmp 8]):=by kernel_rfl
def i91:LO:=[o 2 (bx 0),o 3 (bx 1),o 4 (.alloc [aE,(aB false),.nil,.nil,.nil]),o 5 (mb false)]
def k90:LO:=[o 6 (fa 1 2),o 7 (ld 6),o 8 (.func (.func 385) [] [(T 3)]),o 9 (.call (cf 384) [(T 7),(T 8)]),o 10 (.extract 0 (T 9)),o 11 (.extract 1 (T 9)),on (st 5 4 10),o 5 (mv 11)]
def e1k:A0:=.seq (.region i91) (.seq (.region k90) .ret)
theorem m6l:A7 Tryz.prog 312=some (12,e1k,[.cell 4 (some 5),.tmp 5]):=by kernel_rfl
def k85:LO:=[o 4 (.alloc [aE,(aB false),.nil,.nil,.nil]),o 5 (mb false)]
def i3a:LO:=[o 9 (mv 0),o 10 (.len false (T 9)),o 11 (mi 0)]
def i1c:LO:=[o 12 (.bin .lss (T 11) (T 10))]
def k3c:LO:=[o 13 (.idxSl 5 (T 9) (T 11)),o 14 (ln 5 13),o 7 (.alloc [aE,(aB false),.nil,.nil,.nil]),on (st 5 7 14)]
def k3a:LO:=[o 15 (mv 1),o 16 (ln 5 7),o 17 (.call (T 15) [(T 16)])]
def k70:LO:=[o 18 (ln 5 7),on (st 5 4 18),o 5 (mb true)]
def h5e:A0:=.seq (.region k3a) (.cond (T 17) (.seq (.region k70) .ret) .skip)
def f76:LO:=[o 19 (.bin .add (T 11) (ci 1)),o 11 (mv 19)]
def h2r:A0:=.seq (.block 1 (.seq (.region k3c) h5e)) (.region f76)
def i8g:A0:=.seq (.region i1c) (.seq (.cond (T 12) .skip (.exit 0)) h2r)
def e7y:LO:=[o 8 (.alloc [aE,(aB false),.nil,.nil,.nil])]
def e8f:LO:=[o 20 (ln 5 8),on (st 5 4 20),o 5 (mb false)]
def h75:A0:=.seq (.seq (.region i3a) (.block 0 (.loop i8g))) (.seq (.region e7y) (.seq (.region e8f) .ret))
def e4f:A0:=.seq (.region k85) h75
theorem n47:A7 Tryz.prog 384=some (21,e4f,[.cell 4 (some 5),.tmp 5]):=by kernel_rfl
def k8o:LO:=[o 3 (bx 1),o 4 (mb false)]
def k86:LO:=[o 5 (mv 0),o 6 (.func (.func 243) [] [(T 3)]),o 7 (.call (cf 242) [(T 5),(T 6)]),o 4 (mv 7)]
def e4d:A0:=.seq (.region k8o) (.seq (.region k86) .ret)
theorem l9r:A7 Tryz.prog 169=some (8,e4d,[.tmp 4]):=by kernel_rfl
def l08:LO:=[o 2 (bx 0),o 3 (mb false)]
def h4i:LO:=[o 4 (ld 1),o 5 (fa 0 2),o 6 (ld 5),o 7 (.call (T 4) [(T 6)]),o 3 (mv 7)]
def e3l:A0:=.seq (.region l08) (.seq (.region h4i) .ret)
theorem m8i:A7 Tryz.prog 243=some (8,e3l,[.tmp 3]):=by kernel_rfl
def j0w:LO:=[o 5 (bx 0),o 6 (bx 1),o 10 (mi 0)]
def h52:LO:=[o 16 (ln 5 6),o 17 (mv 2),o 18 (mv 3),o 19 (.idxSl 8 (T 17) (T 18)),o 20 (fa 0 19),o 21 (ld 20),o 22 (.call (cf 98) [(T 16),(T 21)]),o 15 (mv 22),o 23 (.extract 0 (T 15)),o 24 (.extract 1 (T 15)),o 11 (.alloc [(aI 0),aE,(aI 0),(aI 0),(aI 0),aE,aE,(aB false),(aI 0),(aU 0),aE,.nil,.nil,.nil,.nil,.nil]),on (st 16 11 23)]
def g52:LO:=[o 12 (mv 24)]
def g9g:LN:=[[],[],[],[1,2],[3],[4],[0,5],[6],[7],[7],[],[0,1,2,3,4,5,6,7,8,10]]
def i47:LO:=[o 25 (mv 12),o 26 (.un .not (T 25))]
def k7k:LO:=[o 10 (mi 8)]
def j35:A0:=.seq (.region i47) (.cond (T 26) (.seq (.region k7k) .ret) .skip)
def j6b:LO:=[o 27 (mv 2),o 28 (mv 3),o 29 (.sliceV 8 (T 27) none (some (T 28)) none),o 30 (.func (.func 238) [] [(T 11)]),o 31 (.call (cf 169) [(T 29),(T 30)])]
def e9n:LO:=[o 10 (mi 9)]
def i3g:A0:=.seq (.region j6b) (.cond (T 31) (.seq (.region e9n) .ret) .skip)
def f0q:LO:=[o 32 (ln 5 6),o 33 (fa 6 11),o 34 (ld 33),o 35 (.call (cf 239) [(T 32),(T 34)]),o 36 (.len false (T 35)),o 37 (mi 0)]
def e5q:LO:=[o 38 (.bin .lss (T 37) (T 36))]
def g19:LO:=[o 39 (.idxSl 16 (T 35) (T 37)),o 40 (ln 16 39),o 14 (.alloc [(aI 0),aE,(aI 0),(aI 0),(aI 0),aE,aE,(aB false),(aI 0),(aU 0),aE,.nil,.nil,.nil,.nil,.nil]),on (st 16 14 40)]
def f6k:LO:=[o 41 (fa 0 14),o 42 (ld 41),o 43 (fa 0 11),o 44 (ld 43),o 45 (.bin .neq (T 42) (T 44)),o 46 (mv 45),og 47 (mv 2) 46 true,og 48 (mv 3) 46 true,og 49 (.sliceV 8 (T 47) none (some (T 48)) none) 46 true,og 50 (.func (.func 240) [] [(T 14)]) 46 true,og 51 (.call (cf 169) [(T 49),(T 50)]) 46 true,o 52 (.pick (T 46) (T 51) (cb false))]
def g29:LO:=[o 10 (mi 15)]
def l1t:A0:=.seq (.region f6k) (.cond (T 52) (.seq (.region g29) .ret) .skip)
def e4w:LO:=[o 53 (.bin .add (T 37) (ci 1)),o 37 (mv 53)]
def i17:A0:=.seq (.block 1 (.seq (.region g19) l1t)) (.region e4w)
def l02:A0:=.seq (.region e5q) (.seq (.cond (T 38) .skip (.exit 0)) i17)
def h06:LO:=[o 54 (ln 3 5),o 55 (ln 16 11),o 56 (mv 2),o 57 (mv 3),o 58 (.idxSl 8 (T 56) (T 57)),o 59 (fa 1 58),o 60 (ln 7 59),o 61 (mv 4)]
def d8d:LO:=[o 62 (.call (cf 241) [(T 54),(T 55),(T 60),(T 61)]),o 10 (mv 62)]
def d46:LN:=[[],[],[],[],[2,3],[4],[5],[]]
def i0j:A0:=.seq (.seq (.region f0q) (.block 0 (.loop l02))) (.seq (.drawn d46 h06 d8d) .ret)
def j10:A0:=.seq (.drawn g9g h52 g52) (.seq j35 (.seq i3g i0j))
def e1f:A0:=.seq (.region j0w) j10
theorem n3s:A7 Tryz.prog 168=some (63,e1f,[.tmp 10]):=by kernel_rfl
def h2y:LO:=[o 4 (bx 0),o 5 (bx 1),o 6 (bx 2),o 8 (mi 0)]
def h9r:LO:=[o 12 (fa 2 5),o 13 (ld 12)]
def l5t:LO:=[o 15 (.bin .eql (T 13) (ci 4)),o 14 (mv 15)]
def i5t:LO:=[o 16 (fa 0 6),o 17 (ld 16),o 18 (.bin .neq (T 17) (ci 11)),o 19 (mv 18),og 20 (ln 7 6) 19 false,og 21 (.call (cf 167) [(T 20)]) 19 false,o 22 (.pick (T 19) (cb true) (T 21))]
def j0y:LO:=[o 8 (mi 12)]
def k7j:A0:=.seq (.region i5t) (.cond (T 22) (.seq (.region j0y) .ret) .skip)
def f18:LO:=[o 23 (fa 3 6),o 24 (ld 23),o 25 (.len false (T 24)),o 26 (mi 0)]
def e9u:LO:=[o 27 (.bin .lss (T 26) (T 25))]
def f3h:LO:=[o 28 (.idxSl 7 (T 24) (T 26)),o 29 (ln 7 28),o 10 (.alloc zV),on (st 7 10 29)]
def e6u:LO:=[o 30 (ln 3 4),o 31 (fa 4 5),o 32 (ln 2 31),o 33 (ln 7 10),o 34 (mv 3),o 35 (.call (cf 309) [(T 30),(T 32),(T 33),(T 34)]),o 11 (mv 35)]
def e9a:LO:=[o 36 (mv 11),o 37 (.bin .neq (T 36) (ci 0))]
def g7z:LO:=[o 38 (mv 11),o 8 (mv 38)]
def i24:A0:=.seq (.region e9a) (.cond (T 37) (.seq (.region g7z) .ret) .skip)
def i56:A0:=.block 2 (.seq (.region f3h) (.seq (.region e6u) i24))
def g2a:LO:=[o 39 (.bin .add (T 26) (ci 1)),o 26 (mv 39)]
def i3o:A0:=.seq (.cond (T 27) .skip (.exit 1)) (.seq i56 (.region g2a))
def k84:A0:=.seq (.region e9u) i3o
def g7n:LO:=[o 8 (mi 0)]
def h71:A0:=.seq (.seq (.region f18) (.block 1 (.loop k84))) (.seq (.region g7n) .ret)
def h0c:LO:=[o 41 (.bin .eql (T 13) (ci 5)),o 40 (mv 41)]
def g7t:LO:=[o 42 (fa 0 6),o 43 (ld 42),o 44 (.bin .neq (T 43) (ci 12)),o 45 (mv 44),og 46 (ln 7 6) 45 false,og 47 (.call (cf 167) [(T 46)]) 45 false,o 48 (.pick (T 45) (cb true) (T 47))]
def f0z:LO:=[o 8 (mi 12)]
def k7w:A0:=.seq (.region g7t) (.cond (T 48) (.seq (.region f0z) .ret) .skip)
def f5j:LO:=[o 49 (ln 3 4),o 50 (ln 16 5),o 51 (fa 4 6),o 52 (ld 51),o 53 (mv 3),o 54 (.call (cf 310) [(T 49),(T 50),(T 52),(T 53)]),o 8 (mv 54)]
def l1y:A0:=.cond (T 40) (.seq k7w (.seq (.region f5j) .ret)) .skip
def j3k:A0:=.cond (T 14) (.seq k7j h71) (.seq (.region h0c) l1y)
def e8h:A0:=.seq (.region h9r) (.block 0 (.seq (.region l5t) j3k))
def f8a:LO:=[o 55 (ln 3 4),o 56 (fa 4 5),o 57 (ln 2 56),o 58 (ln 7 6),o 59 (mv 3),o 60 (.call (cf 309) [(T 55),(T 57),(T 58),(T 59)]),o 8 (mv 60)]
def d0k:A0:=.seq (.region h2y) (.seq e8h (.seq (.region f8a) .ret))
theorem n7b:A7 Tryz.prog 241=some (61,d0k,[.tmp 8]):=by kernel_rfl
def i93:LO:=[o 3 (bx 0),o 4 (bx 1),o 5 (bx 2),o 6 (mi 0)]
def h1y:LO:=[o 10 (fa 0 5),o 11 (ld 10),o 12 (fa 0 4),o 13 (ld 12),o 14 (.bin .neq (T 11) (T 13)),o 15 (mv 14),og 16 (ln 7 5) 15 false,og 17 (.call (cf 167) [(T 16)]) 15 false,o 18 (.pick (T 15) (cb true) (T 17)),o 9 (mv 18)]
def h6j:LO:=[o 6 (mi 12)]
def h8d:LO:=[o 20 (fa 2 5),o 21 (ld 20),o 22 (.len true (T 21)),o 23 (.bin .gtr (T 22) (ci 4096)),o 19 (mv 23)]
def i7e:LO:=[o 6 (mi 3)]
def k81:LO:=[o 25 (fa 0 4),o 26 (ld 25),o 27 (.bin .eql (T 26) (ci 7)),o 28 (mv 27),og 29 (fa 2 5) 28 true,og 30 (ld 29) 28 true,og 31 (.call (cf 337) [(T 30)]) 28 true,og 32 (.un .not (T 31)) 28 true,o 33 (.pick (T 28) (T 32) (cb false)),o 24 (mv 33)]
def g9r:LO:=[o 6 (mi 7)]
def f3t:LO:=[o 35 (fa 0 4),o 36 (ld 35),o 37 (ln 7 5),o 38 (.call (cf 328) [(T 36),(T 37)]),o 39 (.un .not (T 38)),o 34 (mv 39)]
def g5t:LO:=[o 6 (mi 12)]
def k1q:A0:=.seq (.region f3t) (.cond (T 34) (.seq (.region g5t) .ret) .skip)
def i8u:A0:=.seq (.region k81) (.cond (T 24) (.seq (.region g9r) .ret) k1q)
def j8i:A0:=.seq (.region h8d) (.cond (T 19) (.seq (.region i7e) .ret) i8u)
def l0q:A0:=.seq (.region h1y) (.cond (T 9) (.seq (.region h6j) .ret) j8i)
def f26:LO:=[o 41 (ln 3 3),o 42 (fa 1 4),o 43 (ld 42),o 44 (.call (cf 312) [(T 41),(T 43)]),o 40 (mv 44),o 45 (.extract 0 (T 40)),o 46 (.extract 1 (T 40)),o 7 (.alloc [aE,(aB false),.nil,.nil,.nil]),on (st 5 7 45),o 8 (mv 46)]
def f69:LO:=[o 47 (fa 0 4),o 48 (ld 47),o 49 (.bin .eql (T 48) (ci 9)),o 50 (mv 49),og 51 (ln 5 7) 50 true,og 52 (fa 1 5) 50 true,og 53 (ld 52) 50 true,og 54 (.call (cf 313) [(T 51),(T 53)]) 50 true,og 55 (.un .not (T 54)) 50 true,o 56 (.pick (T 50) (T 55) (cb false))]
def g0z:LO:=[o 6 (mi 16)]
def j4q:A0:=.seq (.region f69) (.cond (T 56) (.seq (.region g0z) .ret) .skip)
def f4t:LO:=[o 6 (mi 0)]
def j28:A0:=.seq (.seq (.region f26) j4q) (.seq (.region f4t) .ret)
def e0j:A0:=.seq (.region i93) (.seq (.block 0 l0q) j28)
theorem n5c:A7 Tryz.prog 381=some (57,e0j,[.tmp 6]):=by kernel_rfl
def j80:LO:=[o 1 (bx 0),o 2 (mb false)]
def l1p:LO:=[o 4 (fa 0 1),o 5 (ld 4),o 6 (.bin .eql (T 5) (ci 7)),o 7 (mv 6),og 8 (fa 0 1) 7 false,og 9 (ld 8) 7 false,og 10 (.bin .eql (T 9) (ci 8)) 7 false,o 11 (.pick (T 7) (cb true) (T 10)),o 3 (mv 11)]
def k49:LO:=[o 12 (fa 0 1),o 13 (ld 12),o 14 (.bin .neq (T 13) (ci 11)),o 15 (mv 14),og 16 (fa 3 1) 15 true,og 17 (ld 16) 15 true,og 18 (.len false (T 17)) 15 true,og 19 (.bin .gtr (T 18) (ci 0)) 15 true,o 20 (.pick (T 15) (T 19) (cb false)),o 21 (mv 20),og 22 (fa 0 1) 21 false,og 23 (ld 22) 21 false,og 24 (.bin .neq (T 23) (ci 12)) 21 false,og 25 (mv 24) 21 false,og 26 (fa 4 1) 25 true,og 27 (ld 26) 25 true,og 28 (.len false (T 27)) 25 true,og 29 (.bin .gtr (T 28) (ci 0)) 25 true,og 30 (.pick (T 25) (T 29) (cb false)) 21 false,o 31 (.pick (T 21) (cb true) (T 30)),o 32 (mv 31),og 33 (fa 0 1) 32 false,og 34 (ld 33) 32 false,og 35 (.bin .neq (T 34) (ci 10)) 32 false,og 36 (mv 35) 32 false,og 37 (fa 5 1) 36 true,og 38 (ld 37) 36 true,og 39 (.len false (T 38)) 36 true,og 40 (fa 6 1) 36 true,og 41 (ld 40) 36 true,og 42 (.len false (T 41)) 36 true,og 43 (.bin .add (T 39) (T 42)) 36 true,og 44 (.bin .gtr (T 43) (ci 0)) 36 true,og 45 (.pick (T 36) (T 44) (cb false)) 32 false,o 46 (.pick (T 32) (cb true) (T 45)),o 47 (mv 46),og 48 (fa 1 1) 47 false,og 49 (ld 48) 47 false,og 50 (.bin .neq (T 49) (.c (aU 0))) 47 false,og 51 (mv 50) 47 false,og 52 (mv 3) 51 true,og 53 (mv 52) 51 true,og 54 (fa 0 1) 53 false,og 55 (ld 54) 53 false,og 56 (.bin .geq (T 55) (ci 10)) 53 false,og 57 (mv 56) 53 false,og 58 (fa 0 1) 57 true,og 59 (ld 58) 57 true,og 60 (.bin .leq (T 59) (ci 12)) 57 true,og 61 (.pick (T 57) (T 60) (cb false)) 53 false,og 62 (.pick (T 53) (cb true) (T 61)) 51 true,og 63 (.pick (T 51) (T 62) (cb false)) 47 false,o 64 (.pick (T 47) (cb true) (T 63)),o 65 (mv 64),og 66 (fa 2 1) 65 false,og 67 (ld 66) 65 false,og 68 (.bin .neq (T 67) (.c aE)) 65 false,og 69 (mv 68) 65 false,og 70 (mv 3) 69 true,og 71 (.un .not (T 70)) 69 true,og 72 (.pick (T 69) (T 71) (cb false)) 65 false,o 73 (.pick (T 65) (cb true) (T 72)),o 2 (mv 73)]
def e1i:A0:=.seq (.region j80) (.seq (.region l1p) (.seq (.region k49) .ret))
theorem n2n:A7 Tryz.prog 167=some (74,e1i,[.tmp 2]):=by kernel_rfl
def l01:LO:=[o 4 (bx 0),o 5 (bx 1),o 6 (bx 2),o 8 (mi 0)]
def i7j:LO:=[o 11 (fa 0 5),o 12 (ld 11),o 13 (.bin .eql (T 12) (ci 10))]
def h67:LO:=[o 15 (ln 3 4),o 16 (fa 1 5),o 17 (ld 16),o 18 (.call (cf 93) [(T 15),(T 17)]),o 14 (mv 18),o 19 (.extract 0 (T 14)),o 20 (.extract 1 (T 14)),o 9 (.alloc [aE,.nil,.nil,.nil,.nil]),on (st 5 9 19),o 10 (mv 20)]
def i2j:LO:=[o 21 (ln 3 4),o 22 (ln 5 9),o 23 (ln 7 6),o 24 (mv 3),o 25 (.bin .add (T 24) (ci 1)),o 26 (.call (cf 94) [(T 21),(T 22),(T 23),(T 25)]),o 8 (mv 26)]
def j2e:A0:=.cond (T 13) (.seq (.region h67) (.seq (.region i2j) .ret)) .skip
def g1j:LO:=[o 27 (ln 3 4),o 28 (ln 2 5),o 29 (ln 7 6),o 30 (.call (cf 381) [(T 27),(T 28),(T 29)]),o 8 (mv 30)]
def k74:A0:=.seq (.seq (.region i7j) j2e) (.seq (.region g1j) .ret)
def e2x:A0:=.seq (.region l01) k74
theorem n6u:A7 Tryz.prog 309=some (31,e2x,[.tmp 8]):=by kernel_rfl
def l1n:LO:=[o 2 (bx 0),o 3 (bx 1),o 4 (.mv (.c .nil))]
def i2h:LO:=[o 5 (ld 3),o 6 (.bin .eql (T 5) (.c aE))]
def j0d:LO:=[o 4 (.mv (.c .nil))]
def k28:A0:=.seq (.region i2h) (.cond (T 6) (.seq (.region j0d) .ret) .skip)
def l33:LO:=[o 7 (fa 1 2),o 8 (ld 7),o 9 (.call (cf 307) [(T 8)]),o 10 (.func (.func 308) [] [(T 3)]),o 11 (.call (cf 306) [(T 9),(T 10)]),o 4 (mv 11)]
def e0z:A0:=.seq (.region l1n) (.seq k28 (.seq (.region l33) .ret))
theorem m9f:A7 Tryz.prog 239=some (12,e0z,[.tmp 4]):=by kernel_rfl
def h2h:LO:=[o 3 (mb false)]
def h26:LO:=[o 4 (mv 0),o 5 (fa 0 1),o 6 (ld 5),o 7 (.bin .eql (T 4) (T 6)),o 3 (mv 7)]
def e3s:A0:=.seq (.region h2h) (.seq (.region h26) .ret)
theorem m4a:A7 Tryz.prog 238=some (8,e3s,[.tmp 3]):=by kernel_rfl
def l84:LO:=[o 4 (.mv (.c aE))]
def m6q:LO:=[o 5 (mv 0),o 6 (.bin .add (T 5) (.c (aS ⟨#[47]⟩))),o 7 (mv 1),o 8 (.bin .add (T 6) (T 7)),o 4 (mv 8)]
def j52:A0:=.seq (.region l84) (.seq (.region m6q) .ret)
theorem o1k:A7 Tryz.prog 35=some (9,j52,[.tmp 4]):=by kernel_rfl
def n2c:LO:=[o 1 (bx 0),o 2 (.alloc [.nil,.nil,.nil,.nil,.nil]),o 3 (mb false)]
def m6x:LO:=[o 7 (ln 3 1),o 8 (.call (cf 48) [(T 7)]),o 6 (mv 8),o 9 (.extract 0 (T 6)),o 10 (.extract 1 (T 6)),o 4 (.alloc [.nil,.nil]),on (st 2 4 9),o 5 (mv 10)]
def m6n:LO:=[o 11 (ln 3 1),o 12 (ln 2 4),o 13 (.build [.nil,.nil,.nil,.nil,.nil] [((0,3),(T 11)),((3,2),(T 12))]),o 14 (mv 5),o 15 (.bin .eql (T 14) (ci 0)),on (st 5 2 13),o 3 (mv 15)]
def k8c:A0:=.seq (.region n2c) (.seq (.region m6x) (.seq (.region m6n) .ret))
theorem o0j:A7 Tryz.prog 34=some (16,k8c,[.cell 2 (some 5),.tmp 3]):=by kernel_rfl
def n4s:LO:=[o 2 (bx 0),o 3 (bx 1),o 4 (mi 0)]
def m7z:LO:=[o 13 (fa 1 3),o 14 (ld 13),o 15 (.call (cf 52) [(T 14)]),o 12 (mv 15),o 16 (.extract 0 (T 12)),o 17 (.extract 1 (T 12)),o 5 (mv 16),o 6 (mv 17)]
def l64:LO:=[o 18 (mv 6),o 19 (.un .not (T 18)),o 20 (mv 19),og 21 (.sliceLit 1 5 [aE,aE,aE,aE,aE] [((0,1),(.c (aS ⟨#[71,69,84]⟩))),((1,1),(.c (aS ⟨#[80,85,84]⟩))),((2,1),(.c (aS ⟨#[80,79,83,84]⟩))),((3,1),(.c (aS ⟨#[80,65,84,67,72]⟩))),((4,1),(.c (aS ⟨#[68,69,76,69,84,69]⟩)))]) 20 false,og 22 (fa 0 3) 20 false,og 23 (ld 22) 20 false,og 24 (.call (cf 53) [(T 21),(T 23)]) 20 false,og 25 (.un .not (T 24)) 20 false,o 26 (.pick (T 20) (cb true) (T 25))]
def n55:LO:=[o 4 (mi 2)]
def l96:A0:=.seq (.region l64) (.cond (T 26) (.seq (.region n55) .ret) .skip)
def j7u:LO:=[o 28 (ln 3 2),o 29 (fa 2 3),o 30 (ld 29),o 31 (fa 3 3),o 32 (ld 31),o 33 (.call (cf 35) [(T 30),(T 32)]),o 34 (.call (cf 36) [(T 28),(T 33)]),o 27 (mv 34),o 35 (.extract 0 (T 27)),o 36 (.extract 1 (T 27)),o 7 (.alloc [aE,aE,aE,(aI 0),.nil]),on (st 5 7 35)]
def g38:LO:=[o 8 (mv 36)]
def h0x:LN:=[[],[],[1],[],[3],[2,4],[0,5],[6],[7],[7],[],[0,1,2,3,4,5,6,7,8,10]]
def j97:LO:=[o 37 (mv 8),o 38 (.bin .neq (T 37) (ci 0))]
def j6w:LO:=[o 39 (mv 8),o 4 (mv 39)]
def n6e:A0:=.seq (.region j97) (.cond (T 38) (.seq (.region j6w) .ret) .skip)
def j2m:LO:=[o 40 (fa 3 7),o 41 (ld 40),o 42 (.bin .neq (T 41) (ci 1))]
def i9w:LO:=[o 4 (mi 12)]
def l8v:A0:=.seq (.region j2m) (.cond (T 42) (.seq (.region i9w) .ret) .skip)
def h5y:LO:=[o 44 (ln 3 2),o 45 (fa 1 7),o 46 (ld 45),o 47 (ln 5 3),o 48 (.call (cf 54) [(T 44),(T 46),(T 47)]),o 43 (mv 48),o 49 (.extract 0 (T 43)),o 50 (.extract 1 (T 43)),o 9 (mv 49),o 8 (mv 50)]
def l4s:LO:=[o 51 (mv 8),o 52 (.bin .neq (T 51) (ci 0))]
def k6t:LO:=[o 53 (mv 8),o 4 (mv 53)]
def l7t:A0:=.seq (.region l4s) (.cond (T 52) (.seq (.region k6t) .ret) .skip)
def j2k:LO:=[o 55 (ln 3 2),o 56 (fa 1 7),o 57 (ld 56),o 58 (ln 5 3),o 59 (.call (cf 55) [(T 55),(T 57),(T 58)]),o 54 (mv 59),o 60 (.extract 0 (T 54)),o 61 (.extract 1 (T 54)),o 10 (.alloc [(aI 0),aE,(aI 0),(aI 0),(aI 0),aE,aE,(aB false),(aI 0),(aU 0),aE,.nil,.nil,.nil,.nil,.nil]),on (st 16 10 60),o 11 (mv 61)]
def j57:LO:=[o 62 (mv 11),o 63 (.un .not (T 62)),o 64 (mv 63),og 65 (fa 4 3) 64 true,og 66 (ld 65) 64 true,og 67 (.bin .neq (T 66) (.c aE)) 64 true,o 68 (.pick (T 64) (T 67) (cb false)),o 69 (mv 68),og 70 (fa 4 3) 69 true,og 71 (ld 70) 69 true,og 72 (.bin .neq (T 71) (.c (aS ⟨#[42]⟩))) 69 true,o 73 (.pick (T 69) (T 72) (cb false))]
def h6f:LO:=[o 4 (mi 8)]
def n1z:A0:=.seq (.region j57) (.cond (T 73) (.seq (.region h6f) .ret) .skip)
def l1k:LO:=[o 74 (mv 11),o 75 (mv 74),og 76 (mv 9) 75 true,og 77 (.func (.func 57) [] [(T 10)]) 75 true,og 78 (.call (cf 56) [(T 76),(T 77)]) 75 true,o 79 (.pick (T 75) (T 78) (cb false))]
def k2m:LO:=[o 4 (mi 9)]
def l87:A0:=.seq (.region l1k) (.cond (T 79) (.seq (.region k2m) .ret) .skip)
def i7n:LO:=[o 4 (mi 0)]
def n5h:A0:=.seq (.region j2k) (.seq n1z (.seq l87 (.seq (.region i7n) .ret)))
def m24:A0:=.seq n6e (.seq l8v (.seq (.region h5y) (.seq l7t n5h)))
def m8a:A0:=.seq (.seq (.region m7z) l96) (.seq (.drawn h0x j7u g38) m24)
def e0x:A0:=.seq (.region n4s) m8a
theorem o1f:A7 Tryz.prog 23=some (80,e0x,[.tmp 4]):=by kernel_rfl
def m7k:LO:=[o 4 (mb false)]
def m44:LO:=[o 5 (mv 0),o 6 (mv 1),o 7 (.call (cf 123) [(T 5),(T 6)]),o 8 (.bin .geq (T 7) (ci 0)),o 4 (mv 8)]
def j9a:A0:=.seq (.region m7k) (.seq (.region m44) .ret)
theorem o1u:A7 Tryz.prog 56=some (9,j9a,[.tmp 4]):=by kernel_rfl
def j6z:LO:=[o 4 (mi 0)]
def h55:LO:=[o 6 (mv 0),o 7 (.len false (T 6)),o 8 (mi 0)]
def k40:LO:=[o 9 (.bin .lss (T 8) (T 7))]
def j1x:LO:=[o 10 (mv 8),o 5 (mv 10)]
def l0p:LO:=[o 11 (mv 1),o 12 (mv 0),o 13 (mv 5),o 14 (.idxSl 1 (T 12) (T 13)),o 15 (ld 14),o 16 (.call (T 11) [(T 15)])]
def h22:LO:=[o 17 (mv 5),o 4 (mv 17)]
def k16:A0:=.seq (.region l0p) (.cond (T 16) (.seq (.region h22) .ret) .skip)
def f49:LO:=[o 18 (.bin .add (T 8) (ci 1)),o 8 (mv 18)]
def i2f:A0:=.seq (.block 1 (.seq (.region j1x) k16)) (.region f49)
def l4y:A0:=.seq (.region k40) (.seq (.cond (T 9) .skip (.exit 0)) i2f)
def f63:LO:=[o 4 (mi (-1))]
def i68:A0:=.seq (.seq (.region h55) (.block 0 (.loop l4y))) (.seq (.region f63) .ret)
def e4c:A0:=.seq (.region j6z) i68
theorem n59:A7 Tryz.prog 123=some (19,e4c,[.tmp 4]):=by kernel_rfl
def m0t:LO:=[o 3 (bx 0),o 5 (bx 2),o 6 (.mv (.c .nil)),o 7 (mi 0)]
def m04:LO:=[o 8 (.mv (.c .nil))]
def n48:LO:=[o 15 (fa 1 5),o 16 (ld 15),o 17 (.call (cf 118) [(T 16)]),o 18 (.len false (T 17)),o 19 (mi 0)]
def m5f:LO:=[o 20 (.bin .lss (T 19) (T 18))]
def m83:LO:=[o 21 (.idxSl 1 (T 17) (T 19)),o 22 (ld 21),o 10 (mv 22)]
def l92:LO:=[o 24 (ln 3 3),o 25 (mv 1),o 26 (mv 10),o 27 (.call (cf 86) [(T 24),(T 25),(T 26)]),o 23 (mv 27),o 28 (.extract 0 (T 23)),o 29 (.extract 1 (T 23)),o 11 (mv 28),o 12 (mv 29)]
def n17:LO:=[o 30 (mv 12),o 31 (.bin .neq (T 30) (ci 0))]
def k3s:LO:=[o 32 (mv 12),o 6 (.mv (.c .nil)),o 7 (mv 32)]
def m5y:A0:=.seq (.region n17) (.cond (T 31) (.seq (.region k3s) .ret) .skip)
def j4n:LO:=[o 33 (mv 11),o 34 (mv 11),o 35 (.len false (T 34)),o 36 (.bin .sub (T 35) (ci 1)),o 37 (.idxSl 16 (T 33) (T 36)),o 38 (ln 16 37),o 13 (.alloc [(aI 0),aE,(aI 0),(aI 0),(aI 0),aE,aE,(aB false),(aI 0),(aU 0),aE,.nil,.nil,.nil,.nil,.nil]),on (st 16 13 38)]
def j32:LO:=[o 39 (ln 16 13),o 40 (.call (cf 119) [(T 39)]),o 41 (.un .not (T 40)),o 42 (mv 41),og 43 (ln 16 13) 42 false,og 44 (.call (cf 91) [(T 43)]) 42 false,og 45 (.un .not (T 44)) 42 false,o 46 (.pick (T 42) (cb true) (T 45)),o 47 (mv 46),og 48 (fa 4 5) 47 false,og 49 (ld 48) 47 false,og 50 (.bin .eql (T 49) (.c (aS ⟨#[42]⟩))) 47 false,og 51 (mv 50) 47 false,og 52 (fa 2 13) 51 true,og 53 (ld 52) 51 true,og 54 (.bin .eql (T 53) (ci 1)) 51 true,og 55 (.pick (T 51) (T 54) (cb false)) 47 false,o 56 (.pick (T 47) (cb true) (T 55))]
def h7n:LO:=[o 6 (.mv (.c .nil)),o 7 (mi 12)]
def m6v:A0:=.seq (.region j32) (.cond (T 56) (.seq (.region h7n) .ret) .skip)
def k3i:LO:=[o 57 (mv 11),o 58 (.call (cf 87) [(T 57)]),o 14 (.alloc [.nil]),on (st 1 14 58)]
def l2z:LO:=[o 59 (mv 8),o 60 (.func (.func 120) [] [(T 14)]),o 61 (.call (cf 56) [(T 59),(T 60)])]
def j90:LO:=[o 6 (.mv (.c .nil)),o 7 (mi 9)]
def m9j:A0:=.seq (.region l2z) (.cond (T 61) (.seq (.region j90) .ret) .skip)
def k38:LO:=[o 62 (mv 8),o 63 (ld 14),o 64 (.sliceLit 1 1 [.nil] [((0,1),(T 63))]),o 65 (.append 146 1 24 (T 62) (T 64)),o 8 (mv 65)]
def m3m:A0:=.seq m6v (.seq (.region k3i) (.seq m9j (.region k38)))
def l8k:A0:=.seq (.region l92) (.seq m5y (.seq (.region j4n) m3m))
def i3b:LO:=[o 66 (.bin .add (T 19) (ci 1)),o 19 (mv 66)]
def m1s:A0:=.seq (.block 1 (.seq (.region m83) l8k)) (.region i3b)
def n1o:A0:=.seq (.region m5f) (.seq (.cond (T 20) .skip (.exit 0)) m1s)
def h3d:LO:=[o 67 (mv 8),o 6 (mv 67),o 7 (mi 0)]
def l8t:A0:=.seq (.seq (.region n48) (.block 0 (.loop n1o))) (.seq (.region h3d) .ret)
def j1p:A0:=.seq (.region m0t) (.seq (.region m04) l8t)
theorem o2p:A7 Tryz.prog 54=some (68,j1p,[.tmp 6,.tmp 7]):=by kernel_rfl
def k5u:LO:=[o 1 (bx 0),o 2 (mb false)]
def h4j:LO:=[o 3 (fa 2 1),o 4 (ld 3),o 5 (.bin .geq (T 4) (ci 1)),o 6 (mv 5),og 7 (fa 2 1) 6 true,og 8 (ld 7) 6 true,og 9 (.bin .leq (T 8) (ci 3)) 6 true,o 10 (.pick (T 6) (T 9) (cb false)),o 2 (mv 10)]
def e4g:A0:=.seq (.region k5u) (.seq (.region h4j) .ret)
theorem m9h:A7 Tryz.prog 119=some (11,e4g,[.tmp 2]):=by kernel_rfl
def k5c:LO:=[o 2 (.mv (.c .nil))]
def j1o:LO:=[o 11 (mv 0),o 12 (.call (cf 52) [(T 11)]),o 10 (mv 12),o 13 (.extract 0 (T 10)),o 14 (.extract 1 (T 10)),o 3 (mv 13),o 4 (mv 14)]
def h8n:LO:=[o 5 (.mv (.c .nil))]
def k8a:LO:=[o 15 (mv 3),o 16 (.len false (T 15)),o 17 (mi 0)]
def i05:LO:=[o 18 (.bin .lss (T 17) (T 16))]
def j6y:LO:=[o 19 (.idxSl 1 (T 15) (T 17)),o 20 (ld 19),o 7 (mv 20)]
def i1u:LO:=[o 22 (mv 7),o 23 (.call (cf 67) [(T 22)]),o 21 (mv 23),o 24 (.extract 0 (T 21)),o 25 (.extract 1 (T 21)),o 8 (mv 24),o 9 (mv 25)]
def e6m:LO:=[o 26 (mv 9)]
def e99:LO:=[o 27 (mv 5),o 28 (mv 8),o 29 (.sliceLit 1 1 [aE] [((0,1),(T 28))]),o 30 (.append 9 1 16 (T 27) (T 29)),o 5 (mv 30)]
def h7t:A0:=.seq (.region e6m) (.cond (T 26) (.region e99) .skip)
def k5r:A0:=.block 1 (.seq (.region j6y) (.seq (.region i1u) h7t))
def f5m:LO:=[o 31 (.bin .add (T 17) (ci 1)),o 17 (mv 31)]
def k0w:A0:=.seq (.cond (T 18) .skip (.exit 0)) (.seq k5r (.region f5m))
def i7q:A0:=.seq (.region i05) k0w
def g7y:LO:=[o 32 (mv 5),o 2 (mv 32)]
def j6r:A0:=.seq (.seq (.region k8a) (.block 0 (.loop i7q))) (.seq (.region g7y) .ret)
def e1n:A0:=.seq (.region k5c) (.seq (.region j1o) (.seq (.region h8n) j6r))
theorem n8f:A7 Tryz.prog 118=some (33,e1n,[.tmp 2]):=by kernel_rfl
def n5l:LO:=[o 1 (bx 0),o 2 (mb false)]
def m3z:LO:=[o 3 (fa 4 1),o 4 (fa 0 3),o 5 (ld 4),o 6 (.call (cf 164) [(T 5)]),o 7 (mv 6),og 8 (fa 4 1) 7 true,og 9 (fa 0 8) 7 true,og 10 (ld 9) 7 true,og 11 (.bin .neq (T 10) (ci 6)) 7 true,o 12 (.pick (T 7) (T 11) (cb false)),o 2 (mv 12)]
def k5s:A0:=.seq (.region n5l) (.seq (.region m3z) .ret)
theorem o03:A7 Tryz.prog 91=some (13,k5s,[.tmp 2]):=by kernel_rfl
def m8x:LO:=[o 3 (bx 0),o 5 (bx 2),o 6 (.mv (.c aE)),o 7 (.alloc zV),o 8 (mi 0)]
def n33:LO:=[o 22 (mv 1),o 23 (fa 0 5),o 24 (ld 23),o 25 (fa 1 5),o 26 (ld 25),o 27 (.call (cf 11) [(T 22),(T 24),(T 26)]),o 21 (mv 27),o 28 (.extract 0 (T 21)),o 29 (.extract 1 (T 21)),o 30 (.extract 2 (T 21)),o 9 (mv 28),o 10 (mv 29),o 11 (mv 30)]
def l74:LO:=[o 31 (mv 11),o 32 (.bin .neq (T 31) (ci 0))]
def m7c:LO:=[o 33 (.build zV []),o 34 (mv 11),o 6 (.mv (.c aE)),on (st 7 7 33),o 8 (mv 34)]
def m2t:A0:=.seq (.region l74) (.cond (T 32) (.seq (.region m7c) .ret) .skip)
def m8t:LO:=[o 36 (ln 3 3),o 37 (.call (cf 34) [(T 36)]),o 35 (mv 37),o 38 (.extract 0 (T 35)),o 39 (.extract 1 (T 35)),o 12 (.alloc [.nil,.nil,.nil,.nil,.nil]),on (st 5 12 38),o 13 (mv 39)]
def l4h:LO:=[o 40 (mv 1),o 41 (mv 9),o 42 (.idxSl 5 (T 40) (T 41)),o 43 (fa 2 42),o 44 (ld 43),o 45 (mv 1),o 46 (mv 9),o 47 (.idxSl 5 (T 45) (T 46)),o 48 (fa 3 47),o 49 (ld 48)]
def f1w:LO:=[o 50 (.call (cf 35) [(T 44),(T 49)]),o 14 (mv 50)]
def e7s:LN:=[[],[],[0,1],[2],[3],[],[],[5,6],[7],[8]]
def i49:LO:=[o 52 (ln 3 3),o 53 (mv 14),o 54 (.call (cf 36) [(T 52),(T 53)]),o 51 (mv 54),o 55 (.extract 0 (T 51)),o 56 (.extract 1 (T 51)),o 15 (.alloc [aE,aE,aE,(aI 0),.nil]),on (st 5 15 55),o 11 (mv 56)]
def j2y:LO:=[o 57 (mv 13),o 58 (.un .not (T 57)),o 59 (mv 58),og 60 (ln 3 3) 59 false,og 61 (mv 1) 59 false,og 62 (mv 9) 59 false,og 63 (.idxSl 5 (T 61) (T 62)) 59 false,og 64 (ln 5 63) 59 false]
def f4f:LO:=[og 65 (.call (cf 23) [(T 60),(T 64)]) 59 false,og 66 (.bin .neq (T 65) (ci 0)) 59 false,o 67 (.pick (T 59) (cb true) (T 66))]
def g1s:LN:=[[],[0],[1],[2],[2],[2],[2,4,5],[2,6]]
def h11:LO:=[o 68 (.build zV []),o 6 (.mv (.c aE)),on (st 7 7 68),o 8 (mi 1)]
def n2x:A0:=.seq (.drawn g1s j2y f4f) (.cond (T 67) (.seq (.region h11) .ret) .skip)
def j0p:LO:=[o 70 (ln 5 12),o 71 (fa 1 15),o 72 (ld 71),o 73 (mv 1),o 74 (mv 9),o 75 (.idxSl 5 (T 73) (T 74)),o 76 (ln 5 75),o 77 (ln 4 5),o 78 (.call (cf 37) [(T 70),(T 72),(T 76),(T 77)]),o 69 (mv 78),o 79 (.extract 0 (T 69)),o 80 (.extract 1 (T 69)),o 16 (.alloc zV),on (st 7 16 79)]
def g4j:LO:=[o 11 (mv 80)]
def f4k:LN:=[[],[],[1],[],[],[3,4],[5],[],[0,2,6,7],[8],[9],[9],[],[0,1,2,3,4,5,6,7,8,9,10,12]]
def h23:LO:=[o 81 (mv 10),o 82 (.len false (T 81)),o 83 (mi 0)]
def j0m:LO:=[o 84 (.bin .lss (T 83) (T 82))]
def k1e:LO:=[o 85 (.idxSl 2 (T 81) (T 83)),o 86 (ln 2 85),o 18 (.alloc [aE,aE]),on (st 2 18 86)]
def h2g:LO:=[o 87 (mv 11),o 88 (.bin .eql (T 87) (ci 0))]
def k5f:LO:=[o 90 (ln 5 12),o 91 (fa 1 15),o 92 (ld 91),o 93 (ln 7 16),o 94 (ln 2 18),o 95 (.call (cf 38) [(T 90),(T 92),(T 93),(T 94)]),o 89 (mv 95),o 96 (.extract 0 (T 89)),o 97 (.extract 1 (T 89)),on (st 7 16 96),o 11 (mv 97)]
def l8z:A0:=.seq (.region k1e) (.seq (.region h2g) (.cond (T 88) (.region k5f) .skip))
def k4j:LO:=[o 98 (.bin .add (T 83) (ci 1)),o 83 (mv 98)]
def l6y:A0:=.seq (.cond (T 84) .skip (.exit 0)) (.seq (.block 1 l8z) (.region k4j))
def m9v:A0:=.seq (.region j0m) l6y
def h1m:LO:=[o 99 (fa 2 5),o 100 (ld 99),o 101 (.len false (T 100)),o 102 (mi 0)]
def h7v:LO:=[o 103 (.bin .lss (T 102) (T 101))]
def l4l:LO:=[o 104 (.idxSl 2 (T 100) (T 102)),o 105 (ln 2 104),o 20 (.alloc [aE,aE]),on (st 2 20 105)]
def l2f:LO:=[o 106 (mv 11),o 107 (.bin .eql (T 106) (ci 0))]
def j2n:LO:=[o 109 (ln 5 12),o 110 (fa 1 15),o 111 (ld 110),o 112 (mv 1),o 113 (mv 9),o 114 (.idxSl 5 (T 112) (T 113)),o 115 (ln 5 114),o 116 (ln 7 16),o 117 (ln 2 20),o 118 (.call (cf 39) [(T 109),(T 111),(T 115),(T 116),(T 117)]),o 108 (mv 118),o 119 (.extract 0 (T 108)),o 120 (.extract 1 (T 108)),on (st 7 16 119)]
def e92:LO:=[o 11 (mv 120)]
def g2i:LN:=[[],[],[1],[],[],[3,4],[5],[],[],[0,2,6,7,8],[9],[10],[10],[0,1,2,3,4,5,6,7,8,9,10,11]]
def m2y:A0:=.seq (.region l2f) (.cond (T 107) (.drawn g2i j2n e92) .skip)
def k58:LO:=[o 121 (.bin .add (T 102) (ci 1)),o 102 (mv 121)]
def m0v:A0:=.seq (.block 3 (.seq (.region l4l) m2y)) (.region k58)
def l6x:A0:=.seq (.region h7v) (.seq (.cond (T 103) .skip (.exit 2)) m0v)
def i45:LO:=[o 122 (mv 11),o 123 (.bin .eql (T 122) (ci 0))]
def l2h:LO:=[o 124 (ln 3 3),o 125 (fa 1 15),o 126 (ld 125),o 127 (ln 7 16),o 128 (.call (cf 40) [(T 124),(T 126),(T 127)]),o 11 (mv 128)]
def j1q:LO:=[o 129 (mv 11),o 130 (.bin .neq (T 129) (ci 0))]
def i2q:LO:=[o 131 (.build zV []),o 132 (mv 11),o 6 (.mv (.c aE)),on (st 7 7 131),o 8 (mv 132)]
def m9l:A0:=.seq (.region j1q) (.cond (T 130) (.seq (.region i2q) .ret) .skip)
def l3s:LO:=[o 133 (mv 14),o 134 (ln 3 3),o 135 (fa 1 15),o 136 (ld 135),o 137 (ln 7 16),o 138 (.call (cf 41) [(T 134),(T 136),(T 137)]),o 6 (mv 133),on (st 7 7 138),o 8 (mi 0)]
def i4x:A0:=.seq (.seq (.region i45) (.cond (T 123) (.region l2h) .skip)) (.seq m9l (.seq (.region l3s) .ret))
def k0q:A0:=.seq (.seq (.region h23) (.block 0 (.loop m9v))) (.seq (.seq (.region h1m) (.block 2 (.loop l6x))) i4x)
def j11:A0:=.seq (.region i49) (.seq n2x (.seq (.drawn f4k j0p g4j) k0q))
def l4z:A0:=.seq (.region m8t) (.seq (.drawn e7s l4h f1w) j11)
def e3q:A0:=.seq (.region m8x) (.seq (.region n33) (.seq m2t l4z))
theorem o0h:A7 Tryz.prog 17=some (139,e3q,[.tmp 6,.cell 7 (some 7),.tmp 8]):=by kernel_rfl
def n10:LO:=[o 5 (bx 0),o 7 (bx 2),o 8 (bx 3),o 9 (bx 4),o 10 (.alloc zV),o 11 (mi 0)]
def m3s:LO:=[o 22 (fa 0 5),o 23 (ln 3 22),o 24 (mv 1),o 25 (fa 0 9),o 26 (ld 25),o 27 (.call (cf 86) [(T 23),(T 24),(T 26)]),o 21 (mv 27),o 28 (.extract 0 (T 21)),o 29 (.extract 1 (T 21)),o 12 (mv 28),o 13 (mv 29)]
def m8c:LO:=[o 30 (mv 13),o 31 (.bin .neq (T 30) (ci 0))]
def n8g:LO:=[o 32 (ln 7 8),o 33 (mv 13),on (st 7 10 32),o 11 (mv 33)]
def n5j:A0:=.seq (.region m8c) (.cond (T 31) (.seq (.region n8g) .ret) .skip)
def l9x:LO:=[o 34 (mv 12),o 35 (mv 12),o 36 (.len false (T 35)),o 37 (.bin .sub (T 36) (ci 1)),o 38 (.idxSl 16 (T 34) (T 37)),o 39 (ln 16 38),o 14 (.alloc [(aI 0),aE,(aI 0),(aI 0),(aI 0),aE,aE,(aB false),(aI 0),(aU 0),aE,.nil,.nil,.nil,.nil,.nil]),on (st 16 14 39)]
def i6h:LO:=[o 41 (fa 0 5),o 42 (ln 3 41),o 43 (mv 1),o 44 (ln 5 7),o 45 (.call (cf 55) [(T 42),(T 43),(T 44)]),o 40 (mv 45),o 46 (.extract 0 (T 40)),o 47 (.extract 1 (T 40)),o 15 (.alloc [(aI 0),aE,(aI 0),(aI 0),(aI 0),aE,aE,(aB false),(aI 0),(aU 0),aE,.nil,.nil,.nil,.nil,.nil]),on (st 16 15 46),o 16 (mv 47)]
def i54:LO:=[o 48 (mv 16),o 49 (mv 48),og 50 (fa 0 15) 49 true,og 51 (ld 50) 49 true,og 52 (mv 12) 49 true,og 53 (.idxSl 16 (T 52) (ci 0)) 49 true,og 54 (fa 0 53) 49 true,og 55 (ld 54) 49 true]
def e5f:LO:=[og 56 (.bin .eql (T 51) (T 55)) 49 true,o 57 (.pick (T 49) (T 56) (cb false))]
def g5o:LN:=[[],[0],[1],[1,2],[1],[1,4],[1,5],[1,6]]
def k76:LO:=[o 58 (ln 7 8),on (st 7 10 58),o 11 (mi 9)]
def m1t:A0:=.seq (.drawn g5o i54 e5f) (.cond (T 57) (.seq (.region k76) .ret) .skip)
def k2d:LO:=[o 59 (fa 2 14),o 60 (ld 59),o 61 (.bin .eql (T 60) (ci 5)),o 62 (mv 61),og 63 (ln 16 14) 62 false,og 64 (.call (cf 91) [(T 63)]) 62 false,og 65 (.un .not (T 64)) 62 false,o 66 (.pick (T 62) (cb true) (T 65))]
def h1l:LO:=[o 67 (ln 7 8),on (st 7 10 67),o 11 (mi 12)]
def l7y:A0:=.seq (.region k2d) (.cond (T 66) (.seq (.region h1l) .ret) .skip)
def h3h:LO:=[o 68 (fa 2 14),o 69 (ld 68),o 70 (.bin .neq (T 69) (ci 4))]
def i6z:LO:=[o 71 (ln 5 5),o 72 (mv 1),o 73 (ln 7 8),o 74 (ln 2 9),o 75 (.call (cf 38) [(T 71),(T 72),(T 73),(T 74)]),o 76 (.extract 0 (T 75)),o 77 (.extract 1 (T 75)),on (st 7 10 76),o 11 (mv 77)]
def m69:A0:=.seq (.region h3h) (.cond (T 70) (.seq (.region i6z) .ret) .skip)
def i3p:LO:=[o 79 (ln 5 5),o 80 (ln 5 5),o 81 (mv 1),o 82 (mv 12),o 83 (.call (cf 90) [(T 80),(T 81),(T 82)]),o 84 (fa 1 9),o 85 (ld 84),o 86 (.call (cf 89) [(T 79),(T 83),(T 85)]),o 78 (mv 86),o 87 (.extract 0 (T 78)),o 88 (.extract 1 (T 78)),o 17 (.alloc zV),on (st 7 17 87)]
def g3f:LO:=[o 13 (mv 88)]
def e9v:LN:=[[],[],[],[],[1,2,3],[],[5],[0,4,6],[7],[8],[8],[],[0,1,2,3,4,5,6,7,8,9,11]]
def k19:LO:=[o 89 (mv 13),o 90 (.bin .neq (T 89) (ci 0))]
def h64:LO:=[o 91 (ln 7 8),o 92 (mv 13),on (st 7 10 91),o 11 (mv 92)]
def n50:A0:=.seq (.region k19) (.cond (T 90) (.seq (.region h64) .ret) .skip)
def h9h:LO:=[o 93 (mv 12),o 94 (.call (cf 87) [(T 93)]),o 18 (mv 94)]
def j05:LO:=[o 96 (ln 7 8),o 97 (mv 18),o 98 (.call (cf 88) [(T 96),(T 97)]),o 95 (mv 98),o 99 (.extract 0 (T 95)),o 100 (.extract 1 (T 95)),o 19 (.alloc zV),on (st 7 19 99),o 20 (mv 100)]
def h9g:LO:=[o 101 (ln 7 8),o 102 (mv 18),o 103 (fa 3 19),o 104 (ld 103),o 105 (.call (cf 92) [(T 104)]),o 106 (ln 7 17),o 107 (.sliceLit 7 1 zV [((0,7),(T 106))]),o 108 (.append 54 7 128 (T 105) (T 107)),o 109 (.build zV [((0,1),(ci 11)),((3,1),(T 108))])]
def g49:LO:=[o 110 (.call (cf 85) [(T 101),(T 102),(T 109)]),on (st 7 10 110),o 11 (mi 0)]
def g1u:LN:=[[],[],[],[2],[3],[],[5],[4,6],[7]]
def l7l:A0:=.seq (.region j05) (.seq (.drawn g1u h9g g49) .ret)
def m1i:A0:=.seq (.drawn e9v i3p g3f) (.seq n50 (.seq (.region h9h) l7l))
def m2a:A0:=.seq (.seq (.region i6h) m1t) (.seq l7y (.seq m69 m1i))
def m9r:A0:=.seq (.region m3s) (.seq n5j (.seq (.region l9x) m2a))
def e3k:A0:=.seq (.region n10) m9r
theorem o18:A7 Tryz.prog 39=some (111,e3k,[.cell 10 (some 7),.tmp 11]):=by kernel_rfl
def l7m:LO:=[o 3 (bx 0),o 4 (bx 1),o 6 (.alloc zV),o 7 (mi 0)]
def n0n:LO:=[o 8 (fa 5 4),o 9 (ld 8),o 10 (.bin .eql (T 9) (ci 7))]
def m5g:LO:=[o 11 (mv 2),o 12 (.build zV [((0,1),(ci 7)),((2,1),(T 11))]),on (st 7 6 12),o 7 (mi 0)]
def n13:A0:=.seq (.region n0n) (.cond (T 10) (.seq (.region m5g) .ret) .skip)
def m7g:LO:=[o 13 (fa 3 3),o 14 (ln 2 13),o 15 (ln 8 4),o 16 (mv 2),o 17 (.call (cf 161) [(T 14),(T 15),(T 16)]),o 18 (.extract 0 (T 17)),o 19 (.extract 1 (T 17)),on (st 7 6 18),o 7 (mv 19)]
def k3p:A0:=.seq (.region l7m) (.seq n13 (.seq (.region m7g) .ret))
theorem o3i:A7 Tryz.prog 89=some (20,k3p,[.cell 6 (some 7),.tmp 7]):=by kernel_rfl
def l1c:LO:=[o 3 (bx 0),o 4 (bx 1),o 6 (.alloc zV),o 7 (mi 0)]
def k80:LO:=[o 16 (fa 5 4),o 17 (ld 16),o 18 (.call (cf 164) [(T 17)]),o 19 (.un .not (T 18))]
def l48:LO:=[o 20 (.build zV []),on (st 7 6 20),o 7 (mi 12)]
def j74:A0:=.seq (.region k80) (.cond (T 19) (.seq (.region l48) .ret) .skip)
def j42:LO:=[o 21 (fa 5 4),o 22 (ld 21),o 23 (.bin .neq (T 22) (ci 9))]
def h9w:LO:=[o 24 (fa 5 4),o 25 (ld 24),o 26 (mv 2),o 27 (.call (cf 230) [(T 25),(T 26)]),o 28 (.extract 0 (T 27)),o 29 (.extract 1 (T 27)),on (st 7 6 28),o 7 (mv 29)]
def h3t:A0:=.seq (.region j42) (.cond (T 23) (.seq (.region h9w) .ret) .skip)
def g2x:LO:=[o 31 (mv 2),o 32 (.call (cf 231) [(T 31),(.c (aS ⟨#[35]⟩))]),o 30 (mv 32),o 33 (.extract 0 (T 30)),o 34 (.extract 1 (T 30)),o 8 (mv 33),o 9 (mv 34)]
def g93:LO:=[o 35 (mv 9)]
def g6i:LO:=[o 37 (mv 8),o 38 (.call (cf 230) [(ci 9),(T 37)]),o 36 (mv 38),o 39 (.extract 0 (T 36)),o 40 (.extract 1 (T 36)),o 10 (.alloc zV),on (st 7 10 39),o 11 (mv 40)]
def f38:LO:=[o 41 (mv 11),o 42 (.bin .neq (T 41) (ci 0))]
def f9l:LO:=[o 43 (.build zV []),o 44 (mv 11),on (st 7 6 43),o 7 (mv 44)]
def h27:A0:=.seq (.region f38) (.cond (T 42) (.seq (.region f9l) .ret) .skip)
def f4r:LO:=[o 46 (ln 2 3),o 47 (fa 6 4),o 48 (ld 47),o 49 (fa 1 10),o 50 (ld 49),o 51 (.call (cf 232) [(T 46),(T 48),(T 50)]),o 45 (mv 51),o 52 (.extract 0 (T 45)),o 53 (.extract 1 (T 45)),o 12 (.alloc [aE,(aI 0),.nil]),on (st 3 12 52),o 13 (mv 53)]
def f1u:LO:=[o 54 (mv 13),o 55 (mv 54),og 56 (ln 2 3) 55 false,og 57 (fa 6 4) 55 false,og 58 (ld 57) 55 false,og 59 (fa 1 10) 55 false,og 60 (ld 59) 55 false,og 61 (.call (cf 233) [(T 56),(T 58),(T 60)]) 55 false,og 62 (.un .not (T 61)) 55 false,o 63 (.pick (T 55) (cb true) (T 62))]
def g1f:LO:=[o 64 (.build zV []),on (st 7 6 64),o 7 (mi 16)]
def l43:A0:=.seq (.region f1u) (.cond (T 63) (.seq (.region g1f) .ret) .skip)
def g48:LO:=[o 65 (ln 7 10),on (st 7 6 65),o 7 (mi 0)]
def k30:A0:=.seq (.seq (.region f4r) l43) (.seq (.region g48) .ret)
def i95:A0:=.cond (T 35) (.seq (.region g6i) (.seq h27 k30)) .skip
def e6v:LO:=[o 66 (mv 2),o 67 (.call (cf 81) [(T 66)]),o 68 (.un .not (T 67))]
def e5v:LO:=[o 69 (.build zV []),on (st 7 6 69),o 7 (mi 2)]
def j9c:A0:=.seq (.region e6v) (.cond (T 68) (.seq (.region e5v) .ret) .skip)
def g9w:LO:=[o 70 (fa 6 4),o 71 (ld 70),o 72 (.bin .geq (T 71) (ci 0)),o 73 (mv 72),og 74 (fa 6 4) 73 true,og 75 (ld 74) 73 true,og 76 (fa 1 3) 73 true,og 77 (ld 76) 73 true,og 78 (.len false (T 77)) 73 true,og 79 (.bin .lss (T 75) (T 78)) 73 true,o 80 (.pick (T 73) (T 79) (cb false))]
def g4k:LO:=[o 81 (fa 1 3),o 82 (ld 81),o 83 (fa 6 4),o 84 (ld 83),o 85 (.idxSl 5 (T 82) (T 84)),o 86 (fa 2 85),o 87 (ld 86),o 88 (.len false (T 87)),o 89 (mi 0)]
def f8n:LO:=[o 90 (.bin .lss (T 89) (T 88))]
def g1x:LO:=[o 91 (.idxSl 3 (T 87) (T 89)),o 92 (ln 3 91),o 15 (.alloc [aE,(aI 0),.nil]),on (st 3 15 92)]
def e5l:LO:=[o 93 (fa 0 15),o 94 (ld 93),o 95 (mv 2),o 96 (.bin .eql (T 94) (T 95))]
def f95:LO:=[o 97 (fa 1 15),o 98 (ld 97),o 99 (.conv (.num .u64) (T 98)),o 100 (.build zV [((0,1),(ci 9)),((1,1),(T 99))]),on (st 7 6 100),o 7 (mi 0)]
def i0a:A0:=.seq (.region e5l) (.cond (T 96) (.seq (.region f95) .ret) .skip)
def f2e:LO:=[o 101 (.bin .add (T 89) (ci 1)),o 89 (mv 101)]
def i5i:A0:=.seq (.block 1 (.seq (.region g1x) i0a)) (.region f2e)
def g6l:A0:=.seq (.region f8n) (.seq (.cond (T 90) .skip (.exit 0)) i5i)
def g0m:A0:=.cond (T 80) (.seq (.region g4k) (.block 0 (.loop g6l))) .skip
def f8b:LO:=[o 102 (.build zV []),on (st 7 6 102),o 7 (mi 16)]
def f5o:A0:=.seq (.seq (.region g9w) g0m) (.seq (.region f8b) .ret)
def e84:A0:=.seq (.seq (.region g2x) (.seq (.region g93) i95)) (.seq j9c f5o)
def d1a:A0:=.seq (.region l1c) (.seq j74 (.seq h3t e84))
theorem m3w:A7 Tryz.prog 161=some (103,d1a,[.cell 6 (some 7),.tmp 7]):=by kernel_rfl
def h16:LO:=[o 4 (.alloc zV),o 5 (mi 0)]
def l5d:LO:=[o 7 (mv 0),o 8 (.call (cf 164) [(T 7)]),o 9 (.un .not (T 8)),o 6 (mv 9)]
def j9f:LO:=[o 10 (.build zV []),on (st 7 4 10),o 5 (mi 1)]
def k1v:LO:=[o 12 (mv 0),o 13 (.bin .eql (T 12) (ci 1)),o 14 (mv 13),og 15 (mv 1) 14 true,og 16 (.bin .eql (T 15) (.c (aS ⟨#[116,114,117,101]⟩))) 14 true,o 17 (.pick (T 14) (T 16) (cb false)),o 11 (mv 17)]
def j1d:LO:=[o 18 (mv 0),o 19 (.build zV [((0,1),(T 18)),((1,1),(.c (aU 1)))]),on (st 7 4 19),o 5 (mi 0)]
def k4z:LO:=[o 21 (mv 0),o 22 (.bin .eql (T 21) (ci 1)),o 23 (mv 22),og 24 (mv 1) 23 true,og 25 (.bin .eql (T 24) (.c (aS ⟨#[102,97,108,115,101]⟩))) 23 true,o 26 (.pick (T 23) (T 25) (cb false)),o 20 (mv 26)]
def g25:LO:=[o 27 (mv 0),o 28 (.build zV [((0,1),(T 27))]),on (st 7 4 28),o 5 (mi 0)]
def h0g:LO:=[o 30 (mv 0),o 31 (.bin .eql (T 30) (ci 1)),o 29 (mv 31)]
def e8b:LO:=[o 32 (.build zV []),on (st 7 4 32),o 5 (mi 2)]
def f9c:LO:=[o 34 (mv 0),o 35 (.bin .eql (T 34) (ci 6)),o 33 (mv 35)]
def g0r:LO:=[o 36 (mv 1),o 37 (.call (cf 298) [(T 36)]),o 38 (.extract 0 (T 37)),o 39 (.extract 1 (T 37)),on (st 7 4 38),o 5 (mv 39)]
def f8f:LO:=[o 41 (mv 0),o 42 (.call (cf 299) [(T 41)]),o 40 (mv 42)]
def f2s:LO:=[o 43 (mv 0),o 44 (mv 1),o 45 (.call (cf 300) [(T 43),(T 44)]),o 46 (.extract 0 (T 45)),o 47 (.extract 1 (T 45)),on (st 7 4 46),o 5 (mv 47)]
def h32:A0:=.seq (.region f8f) (.cond (T 40) (.seq (.region f2s) .ret) .skip)
def j6u:A0:=.seq (.region f9c) (.cond (T 33) (.seq (.region g0r) .ret) h32)
def j5a:A0:=.seq (.region h0g) (.cond (T 29) (.seq (.region e8b) .ret) j6u)
def i89:A0:=.seq (.region k4z) (.cond (T 20) (.seq (.region g25) .ret) j5a)
def k6p:A0:=.seq (.region k1v) (.cond (T 11) (.seq (.region j1d) .ret) i89)
def l38:A0:=.seq (.region l5d) (.cond (T 6) (.seq (.region j9f) .ret) k6p)
def g28:LO:=[o 48 (mv 0),o 49 (mv 1),o 50 (.call (cf 301) [(T 48),(T 49)]),o 51 (.extract 0 (T 50)),o 52 (.extract 1 (T 50)),on (st 7 4 51),o 5 (mv 52)]
def e0c:A0:=.seq (.region h16) (.seq (.block 0 l38) (.seq (.region g28) .ret))
theorem l80:A7 Tryz.prog 230=some (53,e0c,[.cell 4 (some 7),.tmp 5]):=by kernel_rfl
def j6i:LO:=[o 4 (.alloc zV),o 5 (mi 0)]
def j9u:LO:=[o 9 (mv 1),o 10 (.call (cf 376) [(T 9)]),o 11 (.un .not (T 10))]
def i1o:LO:=[o 12 (.build zV []),on (st 7 4 12),o 5 (mi 2)]
def k2i:A0:=.seq (.region j9u) (.cond (T 11) (.seq (.region i1o) .ret) .skip)
def l50:LO:=[o 13 (mv 0),o 14 (.build zV [((0,1),(T 13))]),o 6 (.alloc zV),on (st 7 6 14)]
def h7k:LO:=[o 7 (.mv (.c (.v .nilIface)))]
def g0d:LO:=[o 15 (mv 0),o 16 (.bin .eql (T 15) (ci 2)),o 17 (mv 16),og 18 (mv 0) 17 false,og 19 (.bin .eql (T 18) (ci 3)) 17 false,o 20 (.pick (T 17) (cb true) (T 19))]
def g67:LO:=[o 8 (mi 0)]
def e90:LO:=[o 22 (mv 1),o 23 (.call (cf 377) [(T 22),(ci 10),(ci 64)]),o 21 (mv 23),o 24 (.extract 0 (T 21)),o 25 (.extract 1 (T 21)),o 8 (mv 24),o 7 (mv 25)]
def f7p:LO:=[o 26 (mv 8),o 27 (.conv (.num .u64) (T 26)),o 28 (fa 1 6),on (st 1 28 27)]
def h9d:A0:=.seq (.region g67) (.seq (.region e90) (.region f7p))
def g24:LO:=[o 30 (mv 1),o 31 (.call (cf 372) [(T 30),(ci 10),(ci 64)]),o 29 (mv 31),o 32 (.extract 0 (T 29)),o 33 (.extract 1 (T 29)),o 34 (fa 1 6),on (st 1 34 32),o 7 (mv 33)]
def i74:A0:=.seq (.region g0d) (.cond (T 20) h9d (.region g24))
def e7h:LO:=[o 35 (mv 7),o 36 (.eq .iface false (T 35) (.c (.v .nilIface))),o 37 (mv 36),og 38 (mv 0) 37 false,og 39 (fa 1 6) 37 false,og 40 (ld 39) 37 false,og 41 (.call (cf 378) [(T 38),(T 40)]) 37 false,og 42 (.un .not (T 41)) 37 false,o 43 (.pick (T 37) (cb true) (T 42))]
def f5p:LO:=[o 44 (.build zV []),on (st 7 4 44),o 5 (mi 6)]
def j6h:A0:=.seq (.region e7h) (.cond (T 43) (.seq (.region f5p) .ret) .skip)
def f1a:LO:=[o 45 (ln 7 6),on (st 7 4 45),o 5 (mi 0)]
def i1f:A0:=.seq (.region h7k) (.seq i74 (.seq j6h (.seq (.region f1a) .ret)))
def d9z:A0:=.seq (.region j6i) (.seq k2i (.seq (.region l50) i1f))
theorem n4x:A7 Tryz.prog 301=some (46,d9z,[.cell 4 (some 7),.tmp 5]):=by kernel_rfl
def i9i:LO:=[o 6 (.mv (.c (aU 0))),o 7 (.mv (.c (.v .nilIface)))]
def j8u:LO:=[o 18 (mv 0),o 19 (.bin .eql (T 18) (.c aE))]
def h3s:LO:=[o 20 (.iface 483 (ci 2)),o 6 (.mv (.c (aU 0))),o 7 (mv 20)]
def i7i:A0:=.seq (.region j8u) (.cond (T 19) (.seq (.region h3s) .ret) .skip)
def l47:LO:=[o 21 (mv 1),o 22 (.bin .eql (T 21) (ci 0)),o 8 (mv 22)]
def k1m:LO:=[o 23 (mv 0),o 9 (mv 23)]
def g40:LO:=[o 26 (mv 1),o 27 (.bin .leq (ci 2) (T 26)),o 28 (mv 27),og 29 (mv 1) 28 true,og 30 (.bin .leq (T 29) (ci 36)) 28 true,o 31 (.pick (T 28) (T 30) (cb false)),o 25 (mv 31)]
def f5e:LO:=[o 33 (mv 1),o 34 (.bin .eql (T 33) (ci 0)),o 32 (mv 34)]
def h0i:LO:=[o 1 (mi 10)]
def f51:LO:=[o 35 (mv 0),o 36 (.idxS (T 35) (ci 0)),o 37 (.bin .eql (T 36) (.c (aC 48)))]
def f9e:LO:=[o 41 (mv 0),o 42 (.len true (T 41)),o 43 (.bin .geq (T 42) (ci 3)),o 44 (mv 43),og 45 (mv 0) 44 true,og 46 (.idxS (T 45) (ci 1)) 44 true,og 47 (.call (cf 451) [(T 46)]) 44 true,og 48 (.bin .eql (T 47) (.c (aC 98))) 44 true,o 49 (.pick (T 44) (T 48) (cb false)),o 40 (mv 49)]
def g2u:LO:=[o 1 (mi 2)]
def f79:LO:=[o 50 (mv 0),o 51 (.sliceS (T 50) (some (ci 2)) none),o 0 (mv 51)]
def g8i:LO:=[o 53 (mv 0),o 54 (.len true (T 53)),o 55 (.bin .geq (T 54) (ci 3)),o 56 (mv 55),og 57 (mv 0) 56 true,og 58 (.idxS (T 57) (ci 1)) 56 true,og 59 (.call (cf 451) [(T 58)]) 56 true,og 60 (.bin .eql (T 59) (.c (aC 111))) 56 true,o 61 (.pick (T 56) (T 60) (cb false)),o 52 (mv 61)]
def e5j:LO:=[o 1 (mi 8)]
def f5u:LO:=[o 62 (mv 0),o 63 (.sliceS (T 62) (some (ci 2)) none),o 0 (mv 63)]
def g08:LO:=[o 65 (mv 0),o 66 (.len true (T 65)),o 67 (.bin .geq (T 66) (ci 3)),o 68 (mv 67),og 69 (mv 0) 68 true,og 70 (.idxS (T 69) (ci 1)) 68 true,og 71 (.call (cf 451) [(T 70)]) 68 true,og 72 (.bin .eql (T 71) (.c (aC 120))) 68 true,o 73 (.pick (T 68) (T 72) (cb false)),o 64 (mv 73)]
def e4v:LO:=[o 1 (mi 16)]
def g7k:LO:=[o 74 (mv 0),o 75 (.sliceS (T 74) (some (ci 2)) none),o 0 (mv 75)]
def g39:LO:=[o 1 (mi 8)]
def e5i:LO:=[o 38 (mv 0),o 39 (.sliceS (T 38) (some (ci 1)) none),o 0 (mv 39)]
def j8s:A0:=.cond (T 64) (.seq (.region e4v) (.region g7k)) (.seq (.region g39) (.region e5i))
def j3t:A0:=.cond (T 52) (.seq (.region e5j) (.region f5u)) (.seq (.region g08) j8s)
def k5y:A0:=.cond (T 40) (.seq (.region g2u) (.region f79)) (.seq (.region g8i) j3t)
def k5g:A0:=.cond (T 37) (.block 1 (.seq (.region f9e) k5y)) .skip
def f70:LO:=[o 24 (.iface 483 (ci 3)),o 6 (.mv (.c (aU 0))),o 7 (mv 24)]
def k63:A0:=.cond (T 32) (.seq (.region h0i) (.seq (.region f51) k5g)) (.seq (.region f70) .ret)
def h7p:A0:=.seq (.region g40) (.cond (T 25) .skip (.seq (.region f5e) k63))
def f9p:LO:=[o 76 (mv 2),o 77 (.bin .eql (T 76) (ci 0))]
def h1a:LO:=[o 2 (mi 64)]
def f2l:LO:=[o 78 (mv 2),o 79 (.bin .lss (T 78) (ci 0)),o 80 (mv 79),og 81 (mv 2) 80 false,og 82 (.bin .gtr (T 81) (ci 64)) 80 false,o 83 (.pick (T 80) (cb true) (T 82))]
def g96:LO:=[o 84 (.iface 483 (ci 4)),o 6 (.mv (.c (aU 0))),o 7 (mv 84)]
def l6c:A0:=.seq (.region f2l) (.cond (T 83) (.seq (.region g96) .ret) .skip)
def i1b:A0:=.seq (.region f9p) (.cond (T 77) (.region h1a) l6c)
def g9k:LO:=[o 10 (.mv (.c (aU 0)))]
def f25:LO:=[o 85 (mv 1)]
def f01:LO:=[o 91 (.bin .eql (T 85) (ci 10)),o 90 (mv 91)]
def g1b:LO:=[o 10 (.mv (.c (aU 1844674407370955162)))]
def f88:LO:=[o 93 (.bin .eql (T 85) (ci 16)),o 92 (mv 93)]
def g1l:LO:=[o 10 (.mv (.c (aU 1152921504606846976)))]
def f40:LO:=[o 86 (mv 1),o 87 (.conv (.num .u64) (T 86)),o 88 (.bin .quo (.c (aU 18446744073709551615)) (T 87)),o 89 (.bin .add (T 88) (.c (aU 1))),o 10 (mv 89)]
def f66:A0:=.seq (.region f88) (.cond (T 92) (.region g1l) (.region f40))
def e4z:A0:=.seq (.region f01) (.cond (T 90) (.region g1b) f66)
def e7r:LO:=[o 94 (mv 2),o 95 (.conv (.num .u64) (T 94)),o 96 (.bin .shl (.c (aU 1)) (T 95)),o 97 (.bin .sub (T 96) (.c (aU 1))),o 11 (mv 97)]
def g7v:LO:=[o 12 (mb false)]
def g0i:LO:=[o 13 (.mv (.c (aU 0)))]
def g35:LO:=[o 98 (mv 0),o 99 (.bytes (T 98)),o 100 (.len false (T 99)),o 101 (mi 0)]
def g2y:LO:=[o 102 (.bin .lss (T 101) (T 100))]
def g3x:LO:=[o 103 (.idxSl 1 (T 99) (T 101)),o 104 (ld 103),o 15 (mv 104)]
def g0v:LO:=[o 16 (.mv (.c (aC 0)))]
def e4x:LO:=[o 107 (mv 15),o 108 (.bin .eql (T 107) (.c (aC 95))),o 109 (mv 108),og 110 (mv 8) 109 true,o 111 (.pick (T 109) (T 110) (cb false)),o 106 (mv 111)]
def e8q:LO:=[o 12 (mb true)]
def f3p:LO:=[o 113 (mv 15),o 114 (.bin .leq (.c (aC 48)) (T 113)),o 115 (mv 114),og 116 (mv 15) 115 true,og 117 (.bin .leq (T 116) (.c (aC 57))) 115 true,o 118 (.pick (T 115) (T 117) (cb false)),o 112 (mv 118)]
def g7s:LO:=[o 119 (mv 15),o 120 (.bin .sub (T 119) (.c (aC 48))),o 16 (mv 120)]
def f5l:LO:=[o 122 (mv 15),o 123 (.call (cf 451) [(T 122)]),o 124 (.bin .leq (.c (aC 97)) (T 123)),o 125 (mv 124),og 126 (mv 15) 125 true,og 127 (.call (cf 451) [(T 126)]) 125 true,og 128 (.bin .leq (T 127) (.c (aC 122))) 125 true,o 129 (.pick (T 125) (T 128) (cb false)),o 121 (mv 129)]
def f0y:LO:=[o 130 (mv 15),o 131 (.call (cf 451) [(T 130)]),o 132 (.bin .sub (T 131) (.c (aC 97))),o 133 (.bin .add (T 132) (.c (aC 10))),o 16 (mv 133)]
def f06:LO:=[o 105 (.iface 483 (ci 2)),o 6 (.mv (.c (aU 0))),o 7 (mv 105)]
def g8t:A0:=.cond (T 121) (.region f0y) (.seq (.region f06) .ret)
def g9u:A0:=.cond (T 112) (.region g7s) (.seq (.region f5l) g8t)
def e6d:A0:=.cond (T 106) (.seq (.region e8q) (.exit 4)) (.seq (.region f3p) g9u)
def d7d:LO:=[o 134 (mv 16),o 135 (mv 1),o 136 (.conv (.num .u8) (T 135)),o 137 (.bin .geq (T 134) (T 136))]
def d5k:LO:=[o 138 (.iface 483 (ci 2)),o 6 (.mv (.c (aU 0))),o 7 (mv 138)]
def e5r:A0:=.seq (.region d7d) (.cond (T 137) (.seq (.region d5k) .ret) .skip)
def d4e:LO:=[o 139 (mv 13),o 140 (mv 10),o 141 (.bin .geq (T 139) (T 140))]
def d7b:LO:=[o 142 (mv 11),o 143 (.iface 483 (ci 1)),o 6 (mv 142),o 7 (mv 143)]
def g21:A0:=.seq (.region d4e) (.cond (T 141) (.seq (.region d7b) .ret) .skip)
def d8f:LO:=[o 144 (mv 13),o 145 (mv 1),o 146 (.conv (.num .u64) (T 145)),o 147 (.bin .mul (T 144) (T 146)),o 13 (mv 147)]
def d4q:LO:=[o 148 (mv 13),o 149 (mv 16),o 150 (.conv (.num .u64) (T 149)),o 151 (.bin .add (T 148) (T 150)),o 17 (mv 151)]
def d7v:LO:=[o 152 (mv 17),o 153 (mv 13),o 154 (.bin .lss (T 152) (T 153)),o 155 (mv 154),og 156 (mv 17) 155 false,og 157 (mv 11) 155 false,og 158 (.bin .gtr (T 156) (T 157)) 155 false,o 159 (.pick (T 155) (cb true) (T 158))]
def d4y:LO:=[o 160 (mv 11),o 161 (.iface 483 (ci 1)),o 6 (mv 160),o 7 (mv 161)]
def g8a:A0:=.seq (.region d7v) (.cond (T 159) (.seq (.region d4y) .ret) .skip)
def d4a:LO:=[o 162 (mv 17),o 13 (mv 162)]
def f5b:A0:=.seq (.region d8f) (.seq (.region d4q) (.seq g8a (.region d4a)))
def g69:A0:=.seq (.block 5 (.seq (.region e4x) e6d)) (.seq e5r (.seq g21 f5b))
def g62:A0:=.block 4 (.seq (.region g3x) (.seq (.region g0v) g69))
def d42:LO:=[o 163 (.bin .add (T 101) (ci 1)),o 101 (mv 163)]
def e8r:A0:=.seq (.cond (T 102) .skip (.exit 3)) (.seq g62 (.region d42))
def g56:A0:=.seq (.region g2y) e8r
def d6s:LO:=[o 164 (mv 12),o 165 (mv 164),og 166 (mv 9) 165 true,og 167 (.call (cf 452) [(T 166)]) 165 true,og 168 (.un .not (T 167)) 165 true,o 169 (.pick (T 165) (T 168) (cb false))]
def d7u:LO:=[o 170 (.iface 483 (ci 2)),o 6 (.mv (.c (aU 0))),o 7 (mv 170)]
def h0w:A0:=.seq (.region d6s) (.cond (T 169) (.seq (.region d7u) .ret) .skip)
def d5v:LO:=[o 171 (mv 13),o 6 (mv 171),o 7 (.mv (.c (.v .nilIface)))]
def e44:A0:=.seq (.seq (.region g35) (.block 3 (.loop g56))) (.seq h0w (.seq (.region d5v) .ret))
def f68:A0:=.seq (.region e7r) (.seq (.region g7v) (.seq (.region g0i) e44))
def f8z:A0:=.seq (.region g9k) (.seq (.seq (.region f25) (.block 2 e4z)) f68)
def g0c:A0:=.seq (.region k1m) (.seq (.block 0 h7p) (.seq i1b f8z))
def d1s:A0:=.seq (.region i9i) (.seq i7i (.seq (.region l47) g0c))
theorem m4g:A7 Tryz.prog 420=some (172,d1s,[.tmp 6,.tmp 7]):=by kernel_rfl
def k9l:LO:=[o 2 (mb false)]
def h12:LO:=[o 5 (mv 0),o 6 (.call (cf 373) [(T 5),(.c (aS ⟨#[45]⟩))]),o 3 (mv 6)]
def j29:LO:=[o 7 (mv 3),o 8 (.bin .eql (T 7) (.c aE)),o 9 (mv 8),og 10 (mv 3) 9 false,og 11 (.idxS (T 10) (ci 0)) 9 false,og 12 (.bin .eql (T 11) (.c (aC 48))) 9 false,og 13 (mv 12) 9 false,og 14 (mv 0) 13 true,og 15 (.bin .neq (T 14) (.c (aS ⟨#[48]⟩))) 13 true,og 16 (.pick (T 13) (T 15) (cb false)) 9 false,o 17 (.pick (T 9) (cb true) (T 16))]
def h2z:LO:=[o 2 (mb false)]
def k2b:A0:=.seq (.region j29) (.cond (T 17) (.seq (.region h2z) .ret) .skip)
def i0v:LO:=[o 18 (mv 3),o 19 (.len true (T 18)),o 20 (mi 0)]
def e5m:LO:=[o 21 (.bin .lss (T 20) (T 19))]
def f8h:LO:=[o 22 (mv 20),o 4 (mv 22)]
def e8x:LO:=[o 23 (mv 3),o 24 (mv 4),o 25 (.idxS (T 23) (T 24)),o 26 (.bin .lss (T 25) (.c (aC 48))),o 27 (mv 26),og 28 (mv 3) 27 false,og 29 (mv 4) 27 false,og 30 (.idxS (T 28) (T 29)) 27 false,og 31 (.bin .gtr (T 30) (.c (aC 57))) 27 false,o 32 (.pick (T 27) (cb true) (T 31))]
def g2f:LO:=[o 2 (mb false)]
def j81:A0:=.seq (.region e8x) (.cond (T 32) (.seq (.region g2f) .ret) .skip)
def g64:LO:=[o 33 (.bin .add (T 20) (ci 1)),o 20 (mv 33)]
def j37:A0:=.seq (.block 1 (.seq (.region f8h) j81)) (.region g64)
def j9h:A0:=.seq (.region e5m) (.seq (.cond (T 21) .skip (.exit 0)) j37)
def g3e:LO:=[o 2 (mb true)]
def i63:A0:=.seq (.seq (.region i0v) (.block 0 (.loop j9h))) (.seq (.region g3e) .ret)
def e0a:A0:=.seq (.region k9l) (.seq (.region h12) (.seq k2b i63))
theorem l8h:A7 Tryz.prog 376=some (34,e0a,[.tmp 2]):=by kernel_rfl
def j5r:LO:=[o 4 (.mv (.c aE))]
def i1l:LO:=[o 5 (mv 0),o 6 (mv 1),o 7 (.call (cf 422) [(T 5),(T 6)]),o 4 (mv 7)]
def e4b:A0:=.seq (.region j5r) (.seq (.region i1l) .ret)
theorem m5n:A7 Tryz.prog 373=some (8,e4b,[.tmp 4]):=by kernel_rfl
def j62:LO:=[o 4 (.mv (.c aE))]
def i9y:LO:=[o 5 (mv 0),o 6 (mv 1),o 7 (.call (cf 370) [(T 5),(T 6)])]
def j8o:LO:=[o 8 (mv 0),o 9 (mv 1),o 10 (.len true (T 9)),o 11 (.sliceS (T 8) (some (T 10)) none),o 4 (mv 11)]
def l2p:A0:=.seq (.region i9y) (.cond (T 7) (.seq (.region j8o) .ret) .skip)
def l51:LO:=[o 12 (mv 0),o 4 (mv 12)]
def e1t:A0:=.seq (.region j62) (.seq l2p (.seq (.region l51) .ret))
theorem n72:A7 Tryz.prog 422=some (13,e1t,[.tmp 4]):=by kernel_rfl
def h5g:LO:=[o 6 (.mv (.c (aU 0))),o 7 (.mv (.c (.v .nilIface)))]
def k3j:LO:=[o 11 (mv 0),o 12 (mv 1),o 13 (mv 2),o 14 (.call (cf 420) [(T 11),(T 12),(T 13)]),o 10 (mv 14),o 15 (.extract 0 (T 10)),o 16 (.extract 1 (T 10)),o 8 (mv 15),o 9 (mv 16)]
def i8e:LO:=[o 17 (mv 9),o 18 (.eq .iface false (T 17) (.c (.v .nilIface)))]
def k2x:LO:=[o 19 (mv 8),o 20 (mv 0),o 21 (mv 1),o 22 (mv 2),o 23 (mv 9),o 24 (.call (cf 421) [(.c (aS ⟨#[80,97,114,115,101,85,105,110,116]⟩)),(T 20),(T 21),(T 22),(T 23)]),o 6 (mv 19),o 7 (mv 24)]
def i46:A0:=.seq (.region i8e) (.cond (T 18) (.seq (.region k2x) .ret) .skip)
def i70:LO:=[o 25 (mv 8),o 6 (mv 25),o 7 (.mv (.c (.v .nilIface)))]
def h7w:A0:=.seq (.region k3j) (.seq i46 (.seq (.region i70) .ret))
def e03:A0:=.seq (.region h5g) h7w
theorem m48:A7 Tryz.prog 372=some (26,e03,[.tmp 6,.tmp 7]):=by kernel_rfl
def n3m:LO:=[o 3 (bx 0),o 5 (bx 2),o 6 (.alloc zV)]
def m1x:LO:=[o 9 (mv 1),o 10 (.len false (T 9)),o 11 (.bin .eql (T 10) (ci 0))]
def n39:LO:=[o 12 (ln 7 5),on (st 7 6 12)]
def m5r:A0:=.seq (.region m1x) (.cond (T 11) (.seq (.region n39) .ret) .skip)
def n3n:LO:=[o 14 (ln 7 3),o 15 (mv 1),o 16 (.idxSl 1 (T 15) (ci 0)),o 17 (ld 16),o 18 (.call (cf 158) [(T 14),(T 17)]),o 13 (mv 18),o 19 (.extract 0 (T 13)),o 20 (.extract 1 (T 13)),o 7 (mv 19)]
def j89:LO:=[o 8 (mv 20)]
def i30:LN:=[[],[],[1],[2],[0,3],[4],[5],[5],[0,1,2,3,4,5,6]]
def m4q:LO:=[o 21 (fa 5 3),o 22 (ld 21),o 23 (.call (cf 159) [(T 22)]),o 24 (fa 5 3),on (st 1 24 23)]
def i1t:LO:=[o 25 (mv 8),o 26 (.un .not (T 25))]
def j4y:LO:=[o 27 (fa 5 3),o 28 (ld 27),o 29 (mv 7),o 30 (mv 1),o 31 (.idxSl 1 (T 30) (ci 0)),o 32 (ld 31),o 33 (.build zV [((0,1),(ci 10))]),o 34 (.build [(aI 0),(aI 0),(aU 0),aE,.nil,.nil,.nil,.nil] [((0,1),(T 32)),((1,7),(T 33))]),o 35 (.sliceLit 8 1 [(aI 0),(aI 0),(aU 0),aE,.nil,.nil,.nil,.nil] [((0,8),(T 34))])]
def e7k:LO:=[o 36 (.call (cf 160) [(T 28),(T 29),(T 35)]),o 37 (fa 5 3),on (st 1 37 36)]
def g5l:LN:=[[],[0],[],[],[3],[4],[],[5,6],[7]]
def l79:A0:=.seq (.region i1t) (.cond (T 26) (.drawn g5l j4y e7k) .skip)
def j8w:LO:=[o 38 (fa 5 3),o 39 (ld 38),o 40 (mv 7),o 41 (fa 5 3),o 42 (ld 41),o 43 (mv 7),o 44 (.idxSl 8 (T 42) (T 43)),o 45 (fa 1 44),o 46 (ln 7 45),o 47 (mv 1),o 48 (.sliceV 1 (T 47) (some (ci 1)) none none),o 49 (ln 7 5),o 50 (.call (cf 85) [(T 46),(T 48),(T 49)])]
def e64:LO:=[o 51 (.idxSl 8 (T 39) (T 40)),o 52 (fa 1 51),on (st 7 52 50)]
def f4l:LN:=[[],[0],[],[],[3],[],[4,5],[6],[7],[],[9],[],[8,10,11]]
def j1a:LO:=[o 53 (ln 7 3),on (st 7 6 53)]
def n75:A0:=.seq (.drawn f4l j8w e64) (.seq (.region j1a) .ret)
def m7w:A0:=.seq (.drawn i30 n3n j89) (.seq (.region m4q) (.seq l79 n75))
def i5f:A0:=.seq (.region n3m) (.seq m5r m7w)
theorem o1h:A7 Tryz.prog 85=some (54,i5f,[.cell 6 (some 7)]):=by kernel_rfl
def k23:LO:=[o 6 (.mv (.c .nil))]
def k9s:LO:=[o 10 (mv 0),o 11 (mv 1),o 12 (.sliceV 8 (T 10) (some (T 11)) none none)]
def h57:LO:=[o 13 (mv 2),o 14 (.len false (T 13)),o 7 (mv 14)]
def j72:LO:=[o 15 (mv 7),o 16 (.bin .eql (T 15) (ci 0))]
def k4o:LO:=[o 17 (mv 0),o 6 (mv 17)]
def i80:A0:=.seq (.region j72) (.cond (T 16) (.seq (.region k4o) .ret) .skip)
def f9h:LO:=[o 18 (mv 0),o 19 (.len false (T 18)),o 8 (mv 19)]
def g02:LO:=[o 20 (mv 1),o 21 (mv 8),o 22 (.bin .eql (T 20) (T 21))]
def e49:LO:=[o 23 (mv 0),o 24 (mv 2),o 25 (.append 67 8 136 (T 23) (T 24)),o 6 (mv 25)]
def h2v:A0:=.seq (.region g02) (.cond (T 22) (.seq (.region e49) .ret) .skip)
def g2c:LO:=[o 26 (mv 8),o 27 (mv 7),o 28 (.bin .add (T 26) (T 27)),o 29 (mv 0),o 30 (.cap0 (T 29)),o 31 (.bin .gtr (T 28) (T 30))]
def e5g:LO:=[o 32 (mv 0),o 33 (mv 1),o 34 (.sliceV 8 (T 32) none (some (T 33)) none),o 35 (mv 8),o 36 (mv 7),o 37 (.bin .add (T 35) (T 36)),o 38 (mv 1),o 39 (.bin .sub (T 37) (T 38)),o 40 (.bad),o 9 (mv 40)]
def g76:LO:=[o 41 (mv 9),o 42 (mv 1),o 43 (.sliceV 8 (T 41) (some (T 42)) none none),o 44 (mv 2),o 45 (.copy0 (T 43) (T 44))]
def g1o:LO:=[o 46 (mv 9),o 47 (mv 1),o 48 (mv 7),o 49 (.bin .add (T 47) (T 48)),o 50 (.sliceV 8 (T 46) (some (T 49)) none none),o 51 (mv 0),o 52 (mv 1),o 53 (.sliceV 8 (T 51) (some (T 52)) none none)]
def d6z:LO:=[o 54 (.copy0 (T 50) (T 53))]
def d5i:LN:=[[],[],[],[1,2],[0,3],[],[],[5,6]]
def e9g:LO:=[o 55 (mv 9),o 6 (mv 55)]
def j26:A0:=.seq (.drawn d5i g1o d6z) (.seq (.region e9g) .ret)
def j24:A0:=.cond (T 31) (.seq (.region e5g) (.seq (.region g76) j26)) .skip
def f72:LO:=[o 56 (mv 0),o 57 (mv 8),o 58 (mv 7),o 59 (.bin .add (T 57) (T 58)),o 60 (.sliceV 8 (T 56) none (some (T 59)) none),o 0 (mv 60)]
def g7b:LO:=[o 61 (mv 2),o 62 (mv 0),o 63 (mv 1),o 64 (mv 7),o 65 (.bin .add (T 63) (T 64)),o 66 (.sliceV 8 (T 62) (some (T 65)) none none),o 67 (.call (cf 228) [(T 61),(T 66)]),o 68 (.un .not (T 67))]
def f17:LO:=[o 69 (mv 0),o 70 (mv 1),o 71 (mv 7),o 72 (.bin .add (T 70) (T 71)),o 73 (.sliceV 8 (T 69) (some (T 72)) none none),o 74 (mv 0),o 75 (mv 1),o 76 (.sliceV 8 (T 74) (some (T 75)) none none)]
def d5w:LO:=[o 77 (.copy0 (T 73) (T 76))]
def d5a:LN:=[[],[],[],[1,2],[0,3],[],[],[5,6]]
def f11:LO:=[o 78 (mv 0),o 79 (mv 1),o 80 (.sliceV 8 (T 78) (some (T 79)) none none),o 81 (mv 2),o 82 (.copy0 (T 80) (T 81))]
def f4o:LO:=[o 83 (mv 0),o 6 (mv 83)]
def h6m:A0:=.seq (.drawn d5a f17 d5w) (.seq (.region f11) (.seq (.region f4o) .ret))
def f2x:LO:=[o 84 (mv 0),o 85 (mv 8),o 86 (.sliceV 8 (T 84) (some (T 85)) none none),o 87 (mv 2),o 88 (.copy0 (T 86) (T 87))]
def g6a:LO:=[o 89 (mv 0),o 90 (mv 1),o 91 (.sliceV 8 (T 89) (some (T 90)) none none),o 92 (mv 7),o 93 (.call (cf 229) [(T 91),(T 92)])]
def e7w:LO:=[o 94 (mv 0),o 6 (mv 94)]
def j9o:A0:=.seq (.region f2x) (.seq (.region g6a) (.seq (.region e7w) .ret))
def i2g:A0:=.seq (.seq (.region g7b) (.cond (T 68) h6m .skip)) j9o
def k5a:A0:=.seq (.seq (.region g2c) j24) (.seq (.region f72) i2g)
def i94:A0:=.seq (.region h57) (.seq i80 (.seq (.region f9h) (.seq h2v k5a)))
def d2f:A0:=.seq (.region k23) (.seq (.region k9s) i94)
theorem m6j:A7 Tryz.prog 160=some (95,d2f,[.tmp 6]):=by kernel_rfl
def m3g:LO:=[o 4 (bx 0),o 6 (bx 2),o 7 (bx 3),o 8 (.alloc zV),o 9 (mi 0)]
def n25:LO:=[o 17 (fa 0 4),o 18 (ln 3 17),o 19 (mv 1),o 20 (fa 0 7),o 21 (ld 20),o 22 (.call (cf 86) [(T 18),(T 19),(T 21)]),o 16 (mv 22),o 23 (.extract 0 (T 16)),o 24 (.extract 1 (T 16)),o 10 (mv 23),o 11 (mv 24)]
def n1e:LO:=[o 25 (mv 11),o 26 (.bin .neq (T 25) (ci 0))]
def m87:LO:=[o 27 (ln 7 6),o 28 (mv 11),on (st 7 8 27),o 9 (mv 28)]
def n53:A0:=.seq (.region n1e) (.cond (T 26) (.seq (.region m87) .ret) .skip)
def l9t:LO:=[o 29 (mv 10),o 30 (.call (cf 87) [(T 29)]),o 12 (mv 30)]
def k0r:LO:=[o 32 (ln 7 6),o 33 (mv 12),o 34 (.call (cf 88) [(T 32),(T 33)]),o 31 (mv 34),o 35 (.extract 0 (T 31)),o 36 (.extract 1 (T 31)),o 13 (.alloc zV),on (st 7 13 35),o 14 (mv 36)]
def i37:LO:=[o 37 (mv 14)]
def i8z:LO:=[o 38 (ln 7 6),on (st 7 8 38),o 9 (mi 9)]
def m5t:A0:=.seq (.region i37) (.cond (T 37) (.seq (.region i8z) .ret) .skip)
def k32:LO:=[o 40 (ln 5 4),o 41 (ln 5 4),o 42 (mv 1),o 43 (mv 10),o 44 (.call (cf 90) [(T 41),(T 42),(T 43)]),o 45 (fa 1 7),o 46 (ld 45),o 47 (.call (cf 89) [(T 40),(T 44),(T 46)]),o 39 (mv 47),o 48 (.extract 0 (T 39)),o 49 (.extract 1 (T 39)),o 15 (.alloc zV),on (st 7 15 48)]
def f32:LO:=[o 11 (mv 49)]
def g8f:LN:=[[],[],[],[],[1,2,3],[],[5],[0,4,6],[7],[8],[8],[],[0,1,2,3,4,5,6,7,8,9,11]]
def j1y:LO:=[o 50 (mv 11),o 51 (.bin .neq (T 50) (ci 0))]
def k14:LO:=[o 52 (ln 7 6),o 53 (mv 11),on (st 7 8 52),o 9 (mv 53)]
def m0e:A0:=.seq (.region j1y) (.cond (T 51) (.seq (.region k14) .ret) .skip)
def j8e:LO:=[o 54 (ln 7 6),o 55 (mv 12),o 56 (ln 7 15),o 57 (.call (cf 85) [(T 54),(T 55),(T 56)]),on (st 7 8 57),o 9 (mi 0)]
def n4w:A0:=.seq (.drawn g8f k32 f32) (.seq m0e (.seq (.region j8e) .ret))
def n8i:A0:=.seq (.region l9t) (.seq (.seq (.region k0r) m5t) n4w)
def i1x:A0:=.seq (.region m3g) (.seq (.region n25) (.seq n53 n8i))
theorem n95:A7 Tryz.prog 38=some (58,i1x,[.cell 8 (some 7),.tmp 9]):=by kernel_rfl
def l8s:LO:=[o 4 (bx 0),o 6 (bx 2),o 7 (bx 3),o 8 (.alloc zV),o 9 (mi 0)]
def m4w:LO:=[o 15 (.build zV [((0,1),(ci 10))]),o 10 (.alloc zV),on (st 7 10 15)]
def n64:LO:=[o 17 (fa 4 6),o 18 (ld 17),o 19 (.bin .eql (T 18) (.c aE)),o 20 (mv 19),og 21 (fa 3 7) 20 true,og 22 (ld 21) 20 true,og 23 (.bin .neq (T 22) (.c aE)) 20 true,o 24 (.pick (T 20) (T 23) (cb false)),o 25 (mv 24),og 26 (fa 4 6) 25 false,og 27 (ld 26) 25 false,og 28 (.bin .eql (T 27) (.c (aS ⟨#[42]⟩))) 25 false,og 29 (mv 28) 25 false,og 30 (fa 2 7) 29 true,og 31 (ld 30) 29 true,og 32 (.len false (T 31)) 29 true,og 33 (.bin .gtr (T 32) (ci 0)) 29 true,og 34 (.pick (T 29) (T 33) (cb false)) 25 false,o 35 (.pick (T 25) (cb true) (T 34)),o 16 (mv 35)]
def n5d:LO:=[o 36 (ln 7 10),on (st 7 8 36),o 9 (mi 18)]
def n6r:LO:=[o 38 (fa 4 6),o 39 (ld 38),o 40 (.bin .eql (T 39) (.c aE)),o 37 (mv 40)]
def m9m:LO:=[o 41 (ln 7 10),on (st 7 8 41),o 9 (mi 0)]
def j18:LO:=[o 43 (fa 4 6),o 44 (ld 43),o 45 (.bin .eql (T 44) (.c (aS ⟨#[42]⟩))),o 42 (mv 45)]
def i4d:LO:=[o 46 (fa 3 4),o 47 (ln 2 46),o 48 (mv 1),o 49 (fa 3 7),o 50 (ld 49),o 51 (.call (cf 84) []),o 52 (.call (cf 83) [(T 47),(T 48),(T 50),(T 51)]),o 53 (.extract 0 (T 52)),o 54 (.extract 1 (T 52))]
def f6b:LO:=[on (st 7 8 53),o 9 (mv 54)]
def g5z:LN:=[[],[0],[],[],[3],[],[1,2,4,5],[6],[6]]
def m05:A0:=.cond (T 42) (.seq (.drawn g5z i4d f6b) .ret) .skip
def n6s:A0:=.cond (T 37) (.seq (.region m9m) .ret) (.seq (.region j18) m05)
def m4r:A0:=.cond (T 16) (.seq (.region n5d) .ret) (.seq (.region n6r) n6s)
def k50:LO:=[o 56 (fa 0 4),o 57 (ln 3 56),o 58 (mv 1),o 59 (ln 5 6),o 60 (.call (cf 55) [(T 57),(T 58),(T 59)]),o 55 (mv 60),o 61 (.extract 0 (T 55)),o 62 (.extract 1 (T 55)),o 11 (.alloc [(aI 0),aE,(aI 0),(aI 0),(aI 0),aE,aE,(aB false),(aI 0),(aU 0),aE,.nil,.nil,.nil,.nil,.nil]),on (st 16 11 61),o 12 (mv 62)]
def i4w:LO:=[o 64 (fa 3 4),o 65 (ln 2 64),o 66 (fa 4 11),o 67 (fa 1 66),o 68 (ld 67),o 69 (fa 3 7),o 70 (ld 69),o 71 (.call (cf 84) []),o 72 (.call (cf 83) [(T 65),(T 68),(T 70),(T 71)]),o 63 (mv 72),o 73 (.extract 0 (T 63)),o 74 (.extract 1 (T 63)),o 13 (.alloc zV),on (st 7 13 73)]
def e8s:LO:=[o 14 (mv 74)]
def f8o:LN:=[[],[0],[],[2],[3],[],[5],[],[1,4,6,7],[8],[9],[9],[],[0,1,2,3,4,5,6,7,8,9,10,12]]
def l4d:LO:=[o 75 (mv 14),o 76 (.bin .neq (T 75) (ci 0))]
def j1i:LO:=[o 77 (ln 7 10),o 78 (mv 14),on (st 7 8 77),o 9 (mv 78)]
def l7s:A0:=.seq (.region l4d) (.cond (T 76) (.seq (.region j1i) .ret) .skip)
def j7p:LO:=[o 79 (ln 7 10),o 80 (fa 0 11),o 81 (ld 80),o 82 (.sliceLit 1 1 [(aI 0)] [((0,1),(T 81))]),o 83 (ln 7 13),o 84 (.call (cf 85) [(T 79),(T 82),(T 83)]),on (st 7 8 84),o 9 (mi 0)]
def n5a:A0:=.seq (.drawn f8o i4w e8s) (.seq l7s (.seq (.region j7p) .ret))
def n5m:A0:=.seq (.block 0 (.seq (.region n64) m4r)) (.seq (.region k50) n5a)
def k0v:A0:=.seq (.region l8s) (.seq (.region m4w) n5m)
theorem o1d:A7 Tryz.prog 37=some (85,k0v,[.cell 8 (some 7),.tmp 9]):=by kernel_rfl
def n08:LO:=[o 6 (mi 0),o 7 (.mv (.c .nil)),o 8 (mi 0)]
def l78:LO:=[o 13 (mv 0),o 14 (.len false (T 13)),o 15 (mi 0)]
def m74:LO:=[o 16 (.bin .lss (T 15) (T 14))]
def n6d:LO:=[o 17 (mv 15),o 18 (.idxSl 5 (T 13) (T 15)),o 19 (ln 5 18),o 10 (.alloc [aE,aE,aE,aE,aE]),o 9 (mv 17),on (st 5 10 19)]
def m7r:LO:=[o 21 (ln 5 10),o 22 (mv 1),o 23 (mv 2),o 24 (.call (cf 29) [(T 21),(T 22),(T 23)]),o 20 (mv 24),o 25 (.extract 0 (T 20)),o 26 (.extract 1 (T 20)),o 11 (mv 25),o 12 (mv 26)]
def m46:LO:=[o 27 (mv 12)]
def l9z:LO:=[o 28 (mv 9),o 29 (mv 11),o 6 (mv 28),o 7 (mv 29),o 8 (mi 0)]
def n6q:A0:=.seq (.region m46) (.cond (T 27) (.seq (.region l9z) .ret) .skip)
def i8d:LO:=[o 30 (.bin .add (T 15) (ci 1)),o 15 (mv 30)]
def l7n:A0:=.seq (.block 1 (.seq (.region n6d) (.seq (.region m7r) n6q))) (.region i8d)
def m3o:A0:=.seq (.region m74) (.seq (.cond (T 16) .skip (.exit 0)) l7n)
def l5b:LO:=[o 6 (mi 0),o 7 (.mv (.c .nil)),o 8 (mi 10)]
def n1j:A0:=.seq (.seq (.region l78) (.block 0 (.loop m3o))) (.seq (.region l5b) .ret)
def j4o:A0:=.seq (.region n08) n1j
theorem o2s:A7 Tryz.prog 11=some (31,j4o,[.tmp 6,.tmp 7,.tmp 8]):=by kernel_rfl
def m5h:LO:=[o 3 (bx 0),o 6 (.mv (.c .nil)),o 7 (mb false)]
def m21:LO:=[o 20 (fa 1 3),o 21 (ld 20),o 22 (.call (cf 52) [(T 21)]),o 19 (mv 22),o 23 (.extract 0 (T 19)),o 24 (.extract 1 (T 19)),o 8 (mv 23),o 9 (mv 24)]
def m4b:LO:=[o 26 (mv 2),o 27 (.call (cf 66) [(T 26)]),o 25 (mv 27),o 28 (.extract 0 (T 25)),o 29 (.extract 1 (T 25)),o 10 (mv 28),o 11 (mv 29)]
def n1l:LO:=[o 30 (mv 9),o 31 (.un .not (T 30)),o 32 (mv 31),og 33 (mv 11) 32 false,og 34 (.un .not (T 33)) 32 false,o 35 (.pick (T 32) (cb true) (T 34)),o 36 (mv 35),og 37 (fa 0 3) 36 false,og 38 (ld 37) 36 false,og 39 (mv 1) 36 false,og 40 (.bin .neq (T 38) (T 39)) 36 false,o 41 (.pick (T 36) (cb true) (T 40)),o 42 (mv 41),og 43 (mv 8) 42 false,og 44 (.len false (T 43)) 42 false,og 45 (mv 10) 42 false,og 46 (.len false (T 45)) 42 false,og 47 (.bin .neq (T 44) (T 46)) 42 false,o 48 (.pick (T 42) (cb true) (T 47))]
def l7i:LO:=[o 6 (.mv (.c .nil)),o 7 (mb false)]
def n24:A0:=.seq (.region n1l) (.cond (T 48) (.seq (.region l7i) .ret) .skip)
def j23:LO:=[o 12 (.mv (.c .nil))]
def i1k:LO:=[o 49 (mv 8),o 50 (.len false (T 49)),o 51 (mi 0)]
def i3c:LO:=[o 52 (.bin .lss (T 51) (T 50))]
def k7p:LO:=[o 53 (mv 51),o 54 (.idxSl 1 (T 49) (T 51)),o 55 (ld 54),o 13 (mv 53),o 14 (mv 55)]
def l3h:LO:=[o 57 (mv 14),o 58 (.call (cf 67) [(T 57)]),o 56 (mv 58),o 59 (.extract 0 (T 56)),o 60 (.extract 1 (T 56)),o 15 (mv 59),o 16 (mv 60)]
def j8b:LO:=[o 61 (mv 16),o 62 (.un .not (T 61)),o 63 (mv 62),og 64 (mv 14) 63 true,og 65 (mv 10) 63 true,og 66 (mv 13) 63 true,og 67 (.idxSl 1 (T 65) (T 66)) 63 true,og 68 (ld 67) 63 true,og 69 (.bin .neq (T 64) (T 68)) 63 true,o 70 (.pick (T 63) (T 69) (cb false))]
def k48:LO:=[o 6 (.mv (.c .nil)),o 7 (mb false)]
def n01:A0:=.seq (.region j8b) (.cond (T 70) (.seq (.region k48) .ret) .skip)
def k9o:LO:=[o 71 (mv 16)]
def l1r:LO:=[o 73 (mv 10),o 74 (mv 13),o 75 (.idxSl 1 (T 73) (T 74)),o 76 (ld 75),o 77 (.call (cf 19) [(T 76)]),o 72 (mv 77),o 78 (.extract 0 (T 72)),o 79 (.extract 1 (T 72)),o 17 (mv 78),o 18 (mv 79)]
def j7o:LO:=[o 80 (mv 18),o 81 (.bin .neq (T 80) (ci 0)),o 82 (mv 81),og 83 (mv 10) 82 false,og 84 (mv 13) 82 false,og 85 (.idxSl 1 (T 83) (T 84)) 82 false,og 86 (ld 85) 82 false,og 87 (.bin .eql (T 86) (.c aE)) 82 false,o 88 (.pick (T 82) (cb true) (T 87))]
def h2q:LO:=[o 6 (.mv (.c .nil)),o 7 (mb false)]
def n0s:A0:=.seq (.region j7o) (.cond (T 88) (.seq (.region h2q) .ret) .skip)
def k0y:LO:=[o 89 (mv 12),o 90 (mv 15),o 91 (mv 17),o 92 (.build [aE,aE] [((0,1),(T 90)),((1,1),(T 91))]),o 93 (.sliceLit 2 1 [aE,aE] [((0,2),(T 92))]),o 94 (.append 47 2 32 (T 89) (T 93)),o 12 (mv 94)]
def l8l:A0:=.cond (T 71) (.seq (.region l1r) (.seq n0s (.region k0y))) .skip
def m4k:A0:=.seq (.region l3h) (.seq n01 (.seq (.region k9o) l8l))
def i58:LO:=[o 95 (.bin .add (T 51) (ci 1)),o 51 (mv 95)]
def m6m:A0:=.seq (.block 1 (.seq (.region k7p) m4k)) (.region i58)
def n2b:A0:=.seq (.region i3c) (.seq (.cond (T 52) .skip (.exit 0)) m6m)
def i9m:LO:=[o 96 (mv 12),o 6 (mv 96),o 7 (mb true)]
def n5k:A0:=.seq (.seq (.region i1k) (.block 0 (.loop n2b))) (.seq (.region i9m) .ret)
def n14:A0:=.seq (.region m4b) (.seq n24 (.seq (.region j23) n5k))
def d96:A0:=.seq (.region m5h) (.seq (.region m21) n14)
theorem o3l:A7 Tryz.prog 29=some (97,d96,[.tmp 6,.tmp 7]):=by kernel_rfl
def l9v:LO:=[o 0 (.alloc [.nil,.nil,.nil]),o 1 (.alloc [aE,aE,aE,aE,aE])]
def m36:LO:=[o 4 (.build [(aI 0),aE] [((0,1),(ci 4))]),o 5 (.build [(aI 0),aE,(aI 0),(aI 0),(aI 0),aE,aE,(aB false),(aI 0),(aU 0),aE,.nil,.nil,.nil,.nil,.nil] [((0,1),(ci 1)),((1,1),(.c (aS ⟨#[105,100]⟩))),((2,1),(ci 3)),((4,2),(T 4))]),o 6 (.build [(aI 0),aE] [((0,1),(ci 7))]),o 7 (.build [(aI 0),aE,(aI 0),(aI 0),(aI 0),aE,aE,(aB false),(aI 0),(aU 0),aE,.nil,.nil,.nil,.nil,.nil] [((0,1),(ci 2)),((1,1),(.c (aS ⟨#[116,97,103]⟩))),((2,1),(ci 4)),((4,2),(T 6))]),o 8 (.sliceLit 16 2 [(aI 0),aE,(aI 0),(aI 0),(aI 0),aE,aE,(aB false),(aI 0),(aU 0),aE,.nil,.nil,.nil,.nil,.nil,(aI 0),aE,(aI 0),(aI 0),(aI 0),aE,aE,(aB false),(aI 0),(aU 0),aE,.nil,.nil,.nil,.nil,.nil] [((0,16),(T 5)),((16,16),(T 7))]),o 9 (.build [aE,.nil,.nil,.nil,.nil] [((0,1),(.c (aS ⟨#[77]⟩))),((1,1),(T 8))]),o 2 (.alloc [aE,.nil,.nil,.nil,.nil]),on (st 5 2 9)]
def m90:LO:=[o 10 (.build [aE,aE,aE,(aI 0),.nil] [((0,1),(.c (aS ⟨#[71,101,116]⟩))),((1,1),(.c (aS ⟨#[77]⟩))),((2,1),(.c (aS ⟨#[77]⟩))),((3,1),(ci 1))]),o 11 (.sliceLit 5 1 [aE,aE,aE,(aI 0),.nil] [((0,5),(T 10))]),o 12 (.build [aE,.nil,.nil] [((0,1),(.c (aS ⟨#[83]⟩))),((1,1),(T 11))]),o 3 (.alloc [aE,.nil,.nil]),on (st 3 3 12)]
def m7f:LO:=[o 13 (ln 5 2),o 14 (.sliceLit 5 1 [aE,.nil,.nil,.nil,.nil] [((0,5),(T 13))]),o 15 (ln 3 3),o 16 (.sliceLit 3 1 [aE,.nil,.nil] [((0,3),(T 15))]),o 17 (.build [.nil,.nil,.nil] [((0,1),(T 14)),((2,1),(T 16))]),o 18 (.build [aE,aE,aE,aE,aE] [((0,1),(.c (aS ⟨#[71,69,84]⟩))),((1,1),(.c (aS ⟨#[47,117,115,101,114,115,47,123,105,100,125]⟩))),((2,1),(.c (aS ⟨#[83]⟩))),((3,1),(.c (aS ⟨#[71,101,116]⟩)))]),on (st 3 0 17),on (st 5 1 18)]
def m8b:A0:=.seq (.region m36) (.seq (.region m90) (.seq (.region m7f) .ret))
def j0t:A0:=.seq (.region l9v) m8b
theorem o2f:A7 Tryz.prog 16=some (19,j0t,[.cell 0 (some 3),.cell 1 (some 5)]):=by kernel_rfl
def l72:LO:=[o 2 (bx 0),o 3 (bx 1),o 4 (mb false)]
def m4m:LO:=[o 6 (fa 0 2),o 7 (ld 6),o 8 (fa 0 3),o 9 (ld 8),o 10 (.bin .neq (T 7) (T 9)),o 11 (mv 10),og 12 (fa 1 2) 11 false,og 13 (ld 12) 11 false,og 14 (fa 1 3) 11 false,og 15 (ld 14) 11 false,og 16 (.bin .neq (T 13) (T 15)) 11 false,o 17 (.pick (T 11) (cb true) (T 16)),o 18 (mv 17),og 19 (fa 3 2) 18 false,og 20 (ld 19) 18 false,og 21 (fa 3 3) 18 false,og 22 (ld 21) 18 false,og 23 (.bin .neq (T 20) (T 22)) 18 false,o 24 (.pick (T 18) (cb true) (T 23)),o 25 (mv 24),og 26 (fa 2 2) 25 false,og 27 (ld 26) 25 false,og 28 (.len false (T 27)) 25 false,og 29 (fa 2 3) 25 false,og 30 (ld 29) 25 false,og 31 (.len false (T 30)) 25 false,og 32 (.bin .neq (T 28) (T 31)) 25 false,o 33 (.pick (T 25) (cb true) (T 32))]
def m4j:LO:=[o 4 (mb false)]
def m5a:A0:=.seq (.region m4m) (.cond (T 33) (.seq (.region m4j) .ret) .skip)
def n8d:LO:=[o 5 (mi 0)]
def m1e:LO:=[o 34 (mv 5),o 35 (fa 2 2),o 36 (ld 35),o 37 (.len false (T 36)),o 38 (.bin .lss (T 34) (T 37))]
def k6j:LO:=[o 41 (fa 2 2),o 42 (ld 41),o 43 (mv 5),o 44 (.idxSl 2 (T 42) (T 43)),o 45 (fa 0 44),o 46 (ld 45),o 47 (fa 2 3),o 48 (ld 47),o 49 (mv 5),o 50 (.idxSl 2 (T 48) (T 49)),o 51 (fa 0 50),o 52 (ld 51),o 53 (.bin .neq (T 46) (T 52)),o 54 (mv 53),og 55 (fa 2 2) 54 false,og 56 (ld 55) 54 false,og 57 (mv 5) 54 false,og 58 (.idxSl 2 (T 56) (T 57)) 54 false,og 59 (fa 1 58) 54 false,og 60 (ld 59) 54 false,og 61 (fa 2 3) 54 false,og 62 (ld 61) 54 false,og 63 (mv 5) 54 false,og 64 (.idxSl 2 (T 62) (T 63)) 54 false,og 65 (fa 1 64) 54 false,og 66 (ld 65) 54 false]
def f6m:LO:=[og 67 (.bin .neq (T 60) (T 66)) 54 false,o 68 (.pick (T 54) (cb true) (T 67))]
def e5y:LN:=[[],[0],[],[1,2],[3],[4],[],[6],[],[7,8],[9],[10],[5,11],[12],[13],[13,14],[13],[13,15,16],[13,17],[13,18],[13],[13,20],[13],[13,21,22],[13,23],[13,24]]
def h7r:LO:=[o 4 (mb false)]
def l91:A0:=.seq (.drawn e5y k6j f6m) (.cond (T 68) (.seq (.region h7r) .ret) .skip)
def k1p:LO:=[o 39 (mv 5),o 40 (.bin .add (T 39) (ci 1)),o 5 (mv 40)]
def n06:A0:=.seq (.seq (.region m1e) (.cond (T 38) .skip (.exit 0))) (.seq (.block 1 l91) (.region k1p))
def i31:LO:=[o 4 (mb true)]
def m6c:A0:=.seq (.seq (.region n8d) (.block 0 (.loop n06))) (.seq (.region i31) .ret)
def h87:A0:=.seq (.region l72) (.seq m5a m6c)
theorem o0y:A7 Tryz.prog 13=some (69,h87,[.tmp 4]):=by kernel_rfl
def o2a:LO:=[o 2 (bx 0),o 4 (mi 0)]
def o0f:LO:=[o 10 (mv 1),o 11 (.len false (T 10)),o 12 (.bin .gtr (T 11) (ci 64))]
def o1s:LO:=[o 4 (mi 3)]
def n92:A0:=.seq (.region o0f) (.cond (T 12) (.seq (.region o1s) .ret) .skip)
def o0s:LO:=[o 13 (mv 1),o 14 (.len false (T 13)),o 15 (mi 0)]
def o29:LO:=[o 16 (.bin .lss (T 15) (T 14))]
def n0k:LO:=[o 17 (.idxSl 5 (T 13) (T 15)),o 18 (ln 5 17),o 6 (.alloc [aE,aE,aE,aE,aE]),on (st 5 6 18)]
def n4c:LO:=[o 19 (ln 3 2),o 20 (ln 5 6),o 21 (.call (cf 23) [(T 19),(T 20)]),o 7 (mv 21)]
def n37:LO:=[o 22 (mv 7),o 23 (.bin .neq (T 22) (ci 0))]
def n3k:LO:=[o 24 (mv 7),o 4 (mv 24)]
def o1i:A0:=.seq (.region n37) (.cond (T 23) (.seq (.region n3k) .ret) .skip)
def n5i:LO:=[o 25 (.bin .add (T 15) (ci 1)),o 15 (mv 25)]
def o1z:A0:=.seq (.block 1 (.seq (.region n0k) (.seq (.region n4c) o1i))) (.region n5i)
def o3j:A0:=.seq (.region o29) (.seq (.cond (T 16) .skip (.exit 0)) o1z)
def n29:LO:=[o 26 (mv 1),o 27 (.len false (T 26)),o 28 (mi 0)]
def m0n:LO:=[o 29 (.bin .lss (T 28) (T 27))]
def n5z:LO:=[o 30 (mv 28),o 31 (.idxSl 5 (T 26) (T 28)),o 32 (ln 5 31),o 9 (.alloc [aE,aE,aE,aE,aE]),o 8 (mv 30),on (st 5 9 32)]
def n0l:LO:=[o 33 (mv 1),o 34 (mv 8),o 35 (.sliceV 5 (T 33) none (some (T 34)) none),o 36 (.func (.func 25) [] [(T 9)]),o 37 (.call (cf 24) [(T 35),(T 36)])]
def m9x:LO:=[o 4 (mi 9)]
def o3o:A0:=.seq (.region n0l) (.cond (T 37) (.seq (.region m9x) .ret) .skip)
def n6b:LO:=[o 38 (.bin .add (T 28) (ci 1)),o 28 (mv 38)]
def o3a:A0:=.seq (.cond (T 29) .skip (.exit 2)) (.seq (.block 3 (.seq (.region n5z) o3o)) (.region n6b))
def o3h:A0:=.seq (.region m0n) o3a
def l7v:LO:=[o 4 (mi 0)]
def o27:A0:=.seq (.seq (.region n29) (.block 2 (.loop o3h))) (.seq (.region l7v) .ret)
def o2b:A0:=.seq n92 (.seq (.seq (.region o0s) (.block 0 (.loop o3j))) o27)
def i26:A0:=.seq (.region o2a) o2b
theorem fn8:A7 Tryz.prog 8=some (39,i26,[.tmp 4]):=by kernel_rfl
def m30:LO:=[o 2 (bx 0),o 3 (mb false)]
def n5g:LO:=[o 4 (ln 5 2),o 5 (ln 5 1),o 6 (.call (cf 26) [(T 4),(T 5)]),o 3 (mv 6)]
def h2c:A0:=.seq (.region m30) (.seq (.region n5g) .ret)
theorem o00:A7 Tryz.prog 25=some (7,h2c,[.tmp 3]):=by kernel_rfl
def n6j:LO:=[o 2 (bx 0),o 3 (bx 1),o 4 (mb false)]
def n41:LO:=[o 11 (fa 1 2),o 12 (ld 11),o 13 (.call (cf 52) [(T 12)]),o 10 (mv 13),o 14 (.extract 0 (T 10)),o 15 (.extract 1 (T 10)),o 5 (mv 14),o 6 (mv 15)]
def m3p:LO:=[o 17 (fa 1 3),o 18 (ld 17),o 19 (.call (cf 52) [(T 18)]),o 16 (mv 19),o 20 (.extract 0 (T 16)),o 21 (.extract 1 (T 16)),o 7 (mv 20),o 8 (mv 21)]
def m7x:LO:=[o 22 (fa 0 2),o 23 (ld 22),o 24 (fa 0 3),o 25 (ld 24),o 26 (.bin .neq (T 23) (T 25)),o 27 (mv 26),og 28 (mv 5) 27 false,og 29 (.len false (T 28)) 27 false,og 30 (mv 7) 27 false,og 31 (.len false (T 30)) 27 false,og 32 (.bin .neq (T 29) (T 31)) 27 false,o 33 (.pick (T 27) (cb true) (T 32))]
def m4o:LO:=[o 4 (mb false)]
def m18:A0:=.seq (.region m7x) (.cond (T 33) (.seq (.region m4o) .ret) .skip)
def j5c:LO:=[o 34 (mv 5),o 35 (.len false (T 34)),o 36 (mi 0)]
def l13:LO:=[o 37 (.bin .lss (T 36) (T 35))]
def j30:LO:=[o 38 (mv 36),o 9 (mv 38)]
def k7i:LO:=[o 39 (mv 5),o 40 (mv 9),o 41 (.idxSl 1 (T 39) (T 40)),o 42 (ld 41),o 43 (.call (cf 59) [(T 42)]),o 44 (mv 43),og 45 (mv 7) 44 true,og 46 (mv 9) 44 true,og 47 (.idxSl 1 (T 45) (T 46)) 44 true,og 48 (ld 47) 44 true,og 49 (.call (cf 59) [(T 48)]) 44 true,o 50 (.pick (T 44) (T 49) (cb false)),o 51 (mv 50),og 52 (mv 5) 51 true,og 53 (mv 9) 51 true,og 54 (.idxSl 1 (T 52) (T 53)) 51 true,og 55 (ld 54) 51 true,og 56 (mv 7) 51 true,og 57 (mv 9) 51 true,og 58 (.idxSl 1 (T 56) (T 57)) 51 true,og 59 (ld 58) 51 true]
def e5d:LO:=[og 60 (.bin .neq (T 55) (T 59)) 51 true,o 61 (.pick (T 51) (T 60) (cb false))]
def f0p:LN:=[[],[],[0,1],[2],[3],[4],[5],[5],[5,6,7],[5,8],[5,9],[5,10],[10,11],[12],[12],[12,13,14],[12,15],[12],[12],[12,17,18],[12,19]]
def j3b:LO:=[o 4 (mb false)]
def m5l:A0:=.seq (.drawn f0p k7i e5d) (.cond (T 61) (.seq (.region j3b) .ret) .skip)
def l0v:LO:=[o 62 (.bin .add (T 36) (ci 1)),o 36 (mv 62)]
def m0o:A0:=.seq (.block 1 (.seq (.region j30) m5l)) (.region l0v)
def l73:A0:=.seq (.region l13) (.seq (.cond (T 37) .skip (.exit 0)) m0o)
def k9q:LO:=[o 4 (mb true)]
def l8b:A0:=.seq (.seq (.region j5c) (.block 0 (.loop l73))) (.seq (.region k9q) .ret)
def n0g:A0:=.seq (.region n41) (.seq (.region m3p) (.seq m18 l8b))
def j5f:A0:=.seq (.region n6j) n0g
theorem o2e:A7 Tryz.prog 26=some (63,j5f,[.tmp 4]):=by kernel_rfl
def m0c:LO:=[o 4 (mb false)]
def n7f:LO:=[o 5 (mv 0),o 6 (mv 1),o 7 (.call (cf 58) [(T 5),(T 6)]),o 8 (.bin .geq (T 7) (ci 0)),o 4 (mv 8)]
def j47:A0:=.seq (.region m0c) (.seq (.region n7f) .ret)
theorem o2z:A7 Tryz.prog 24=some (9,j47,[.tmp 4]):=by kernel_rfl
def n6i:LO:=[o 4 (mi 0)]
def m84:LO:=[o 6 (mv 0),o 7 (.len false (T 6)),o 8 (mi 0)]
def m4y:LO:=[o 9 (.bin .lss (T 8) (T 7))]
def m88:LO:=[o 10 (mv 8),o 5 (mv 10)]
def l8y:LO:=[o 11 (mv 1),o 12 (mv 0),o 13 (mv 5),o 14 (.idxSl 5 (T 12) (T 13)),o 15 (ln 5 14),o 16 (.call (T 11) [(T 15)])]
def m7t:LO:=[o 17 (mv 5),o 4 (mv 17)]
def m0z:A0:=.seq (.region l8y) (.cond (T 16) (.seq (.region m7t) .ret) .skip)
def j7f:LO:=[o 18 (.bin .add (T 8) (ci 1)),o 8 (mv 18)]
def m5b:A0:=.seq (.block 1 (.seq (.region m88) m0z)) (.region j7f)
def l9c:A0:=.seq (.region m4y) (.seq (.cond (T 9) .skip (.exit 0)) m5b)
def l59:LO:=[o 4 (mi (-1))]
def n5f:A0:=.seq (.seq (.region m84) (.block 0 (.loop l9c))) (.seq (.region l59) .ret)
def h5j:A0:=.seq (.region n6i) n5f
theorem o2o:A7 Tryz.prog 58=some (19,h5j,[.tmp 4]):=by kernel_rfl
theorem A1{P:Program}{T:Tbl}{g:Nat}{x:Nat × A0 × List a9d}(h:A7 P g=some x)(t:U2 P T)(hc:n38 x.2.1=false:=by rfl)(hk:j68 x.2.1=none:=by rfl):U2 P ((g,x)::T):=by
 intro f y hf;rcases List.mem_cons.1 hf with e|hf
 ·cases e;unfold d76;rw[hk,hc];exact h
 ·exact t f y hf
theorem g57{P:Program}:U2 P []:=fun _ _ h=>by cases h
def n9e:Tbl:=[
 (7,(186,n8o,[.tmp 0])),
 (22,(14,i7d,[.tmp 2])),
 (21,(35,i8h,[.tmp 2])),
 (51,(19,l39,[.tmp 4,.tmp 5])),
 (50,(37,k08,[.tmp 2])),
 (45,(14,k0i,[.tmp 2])),
 (43,(17,i44,[.tmp 4])),
 (20,(53,i5m,[.cell 8 (some 2)])),
 (49,(32,j8d,[.tmp 6,.tmp 7])),
 (116,(75,d00,[.tmp 4])),
 (197,(25,d8m,[])),
 (275,(30,e08,[])),
 (115,(8,e4o,[.tmp 2,.tmp 3])),
 (114,(59,d10,[.tmp 2,.tmp 3])),
 (113,(40,d9r,[.tmp 6,.tmp 7])),
 (196,(86,e0i,[.cell 6 (some 7)])),
 (102,(20,d9e,[.tmp 4])),
 (182,(6,e1h,[.tmp 2])),
 (273,(27,e2f,[.tmp 2])),
 (180,(20,e39,[.tmp 2])),
 (252,(28,d9m,[.tmp 2])),
 (299,(9,d8w,[.tmp 2])),
 (164,(9,e1m,[.tmp 2])),
 (272,(67,d2n,[.cell 6 (some 7)])),
 (356,(17,e22,[.cell 6 (some 7)])),
 (179,(14,e3m,[.cell 2 (some 7)])),
 (163,(12,e13,[.cell 4 (some 8),.tmp 5])),
 (237,(20,e4u,[.cell 4 (some 8),.tmp 5])),
 (305,(19,e3f,[.tmp 4])),
 (236,(8,e1g,[.tmp 3])),
 (100,(9,.region d9a,[])),
 (181,(63,d9n,[])),
 (253,(53,d8p,[])),
 (97,(40,h37,[.tmp 2])),
 (174,(10,d8y,[.tmp 4])),
 (173,(9,.region e2e,[])),
 (245,(63,e4m,[])),
 (314,(53,e0e,[])),
 (159,(8,e2v,[.tmp 2])),
 (96,(8,i2t,[.tmp 2])),
 (195,(86,d1j,[])),
 (271,(43,e18,[.tmp 2])),
 (355,(8,d8k,[.tmp 4])),
 (414,(32,d86,[.tmp 4])),
 (445,(15,d9d,[.tmp 2])),
 (353,(20,d87,[.tmp 2])),
 (413,(41,e2i,[.tmp 6])),
 (438,(16,e4a,[.tmp 6])),
 (370,(18,d9x,[.tmp 4])),
 (328,(39,e2o,[.tmp 4])),
 (378,(28,e1x,[.tmp 4])),
 (337,(6,d8v,[.tmp 2])),
 (403,(16,e2k,[.tmp 2])),
 (270,(58,e27,[])),
 (255,(40,e4s,[.tmp 6])),
 (194,(45,c9t,[.tmp 2])),
 (193,(32,e0h,[.tmp 6])),
 (269,(77,d3o,[.tmp 8])),
 (347,(69,e2d,[.tmp 10])),
 (410,(59,d3c,[.tmp 8])),
 (462,(49,e4q,[.tmp 8])),
 (346,(74,e3d,[.tmp 2])),
 (441,(31,e0p,[.tmp 8])),
 (409,(9,e0k,[.tmp 3])),
 (242,(9,e01,[.tmp 4])),
 (311,(19,e37,[.tmp 4])),
 (95,(23,i2p,[.tmp 2])),
 (172,(40,e0s,[.tmp 2])),
 (92,(8,i9r,[.tmp 2])),
 (162,(15,e12,[.tmp 4,.tmp 5])),
 (235,(8,e09,[.tmp 3])),
 (234,(19,d8n,[.tmp 4])),
 (48,(45,e3y,[.cell 2 (some 2),.tmp 3])),
 (192,(18,d8z,[.cell 4 (some 7),.tmp 5])),
 (268,(8,e4j,[.tmp 4])),
 (344,(19,e0d,[.tmp 4])),
 (111,(68,d9i,[.cell 4 (some 3)])),
 (190,(19,e34,[.tmp 4])),
 (264,(19,e3a,[.tmp 4])),
 (189,(12,e3x,[.tmp 2])),
 (117,(19,e3n,[.tmp 4])),
 (53,(9,i8m,[.tmp 4])),
 (110,(7,e05,[.tmp 2])),
 (188,(99,d0d,[.tmp 2])),
 (263,(106,d84,[.tmp 4])),
 (340,(10,e30,[.tmp 2])),
 (396,(27,d18,[.tmp 2])),
 (81,(36,l1u,[.tmp 2])),
 (151,(27,e3c,[.tmp 2])),
 (338,(15,e1v,[])),
 (404,(31,e38,[.tmp 4])),
 (257,(27,d9l,[])),
 (334,(11,e2r,[.tmp 2])),
 (329,(9,e4e,[.tmp 4])),
 (394,(19,d9y,[.tmp 4])),
 (150,(8,e3t,[.tmp 4])),
 (217,(66,d21,[.tmp 8])),
 (216,(143,c9m,[.tmp 4])),
 (107,(8,d92,[.tmp 4])),
 (288,(34,d8t,[.tmp 4])),
 (80,(19,i4r,[.tmp 2])),
 (331,(19,d9w,[.cell 4 (some 5),.tmp 5])),
 (395,(8,d9v,[.tmp 3])),
 (343,(8,e2p,[.tmp 4])),
 (407,(9,e0y,[.tmp 4])),
 (440,(19,e0t,[.tmp 4])),
 (336,(52,e0b,[])),
 (261,(79,d9t,[.tmp 6])),
 (339,(11,d80,[.tmp 6])),
 (332,(30,d8l,[.tmp 2])),
 (335,(112,e28,[])),
 (402,(59,e2n,[.tmp 4])),
 (436,(34,e02,[.tmp 2])),
 (401,(50,e3p,[.tmp 4])),
 (431,(9,e1j,[.tmp 4])),
 (380,(19,e2b,[.tmp 4])),
 (400,(57,e1d,[.tmp 4])),
 (399,(19,e4k,[.tmp 4])),
 (398,(5,e00,[.tmp 2])),
 (397,(12,e21,[.tmp 6])),
 (432,(16,d90,[.tmp 5])),
 (260,(42,e2h,[.tmp 2])),
 (259,(19,e3v,[.tmp 2])),
 (330,(10,d88,[.tmp 4])),
 (258,(20,d9b,[.tmp 2])),
 (256,(56,d1q,[.cell 2 (some 3)])),
 (46,(20,i9x,[.cell 2 (some 2)])),
 (108,(12,e1o,[.tmp 2])),
 (36,(39,k01,[.cell 4 (some 5),.tmp 5])),
 (82,(36,i03,[.cell 4 (some 5),.tmp 5])),
 (154,(8,e3g,[.tmp 3])),
 (153,(21,d91,[.cell 4 (some 5),.tmp 5])),
 (152,(12,d83,[.cell 4 (some 3),.tmp 5])),
 (219,(8,d8o,[.tmp 3])),
 (218,(21,e2q,[.cell 4 (some 3),.tmp 5])),
 (79,(13,i1g,[.tmp 4,.tmp 5,.tmp 6])),
 (149,(23,d8s,[.tmp 4,.tmp 5,.tmp 6])),
 (19,(56,j6f,[.tmp 2,.tmp 3])),
 (44,(8,k88,[.tmp 4])),
 (18,(69,k91,[.cell 6 (some 4),.tmp 7])),
 (42,(100,j2p,[.cell 8 (some 4),.tmp 9])),
 (105,(119,d2b,[.tmp 10,.tmp 11])),
 (185,(51,e1e,[.tmp 8,.tmp 9])),
 (183,(17,e0w,[.tmp 6])),
 (88,(33,j86,[.cell 4 (some 7),.tmp 5])),
 (158,(12,e1u,[.tmp 4,.tmp 5])),
 (227,(9,e1y,[.tmp 4])),
 (226,(49,e0u,[.tmp 6,.tmp 7])),
 (104,(47,d95,[.cell 4 (some 7)])),
 (184,(33,d9h,[.tmp 6])),
 (103,(90,d0o,[.tmp 8,.cell 9 (some 7),.tmp 10])),
 (90,(48,h9l,[.cell 6 (some 8)])),
 (87,(19,j6d,[.tmp 2])),
 (86,(81,e3e,[.tmp 6,.tmp 7])),
 (122,(23,e2g,[.cell 4 (some 16),.tmp 5])),
 (198,(8,e04,[.tmp 3])),
 (175,(21,e3w,[.cell 4 (some 16),.tmp 5])),
 (93,(12,h7h,[.cell 4 (some 5),.tmp 5])),
 (166,(8,d89,[.tmp 3])),
 (165,(21,e2j,[.cell 4 (some 5),.tmp 5])),
 (67,(33,k9d,[.tmp 2,.tmp 3])),
 (52,(42,j7m,[.tmp 2,.tmp 3])),
 (66,(46,k2p,[.tmp 2,.tmp 3])),
 (59,(29,j9r,[.tmp 2])),
 (55,(52,k8e,[.cell 6 (some 16),.tmp 7])),
 (41,(64,l5s,[.cell 6 (some 7)])),
 (99,(87,e4l,[.cell 6 (some 7),.tmp 7])),
 (177,(17,e3z,[.cell 6 (some 7)])),
 (98,(12,l4p,[.cell 4 (some 16),.tmp 5])),
 (176,(8,e4n,[.tmp 3])),
 (40,(28,i3u,[.tmp 6])),
 (94,(77,e3h,[.tmp 8])),
 (312,(12,e1k,[.cell 4 (some 5),.tmp 5])),
 (384,(21,e4f,[.cell 4 (some 5),.tmp 5])),
 (169,(8,e4d,[.tmp 4])),
 (243,(8,e3l,[.tmp 3])),
 (168,(63,e1f,[.tmp 10])),
 (241,(61,d0k,[.tmp 8])),
 (381,(57,e0j,[.tmp 6])),
 (167,(74,e1i,[.tmp 2])),
 (309,(31,e2x,[.tmp 8])),
 (239,(12,e0z,[.tmp 4])),
 (238,(8,e3s,[.tmp 3])),
 (35,(9,j52,[.tmp 4])),
 (34,(16,k8c,[.cell 2 (some 5),.tmp 3])),
 (23,(80,e0x,[.tmp 4])),
 (56,(9,j9a,[.tmp 4])),
 (123,(19,e4c,[.tmp 4])),
 (54,(68,j1p,[.tmp 6,.tmp 7])),
 (119,(11,e4g,[.tmp 2])),
 (118,(33,e1n,[.tmp 2])),
 (91,(13,k5s,[.tmp 2])),
 (17,(139,e3q,[.tmp 6,.cell 7 (some 7),.tmp 8])),
 (39,(111,e3k,[.cell 10 (some 7),.tmp 11])),
 (89,(20,k3p,[.cell 6 (some 7),.tmp 7])),
 (161,(103,d1a,[.cell 6 (some 7),.tmp 7])),
 (230,(53,e0c,[.cell 4 (some 7),.tmp 5])),
 (301,(46,d9z,[.cell 4 (some 7),.tmp 5])),
 (420,(172,d1s,[.tmp 6,.tmp 7])),
 (376,(34,e0a,[.tmp 2])),
 (373,(8,e4b,[.tmp 4])),
 (422,(13,e1t,[.tmp 4])),
 (372,(26,e03,[.tmp 6,.tmp 7])),
 (85,(54,i5f,[.cell 6 (some 7)])),
 (160,(95,d2f,[.tmp 6])),
 (38,(58,i1x,[.cell 8 (some 7),.tmp 9])),
 (37,(85,k0v,[.cell 8 (some 7),.tmp 9])),
 (11,(31,j4o,[.tmp 6,.tmp 7,.tmp 8])),
 (29,(97,d96,[.tmp 6,.tmp 7])),
 (16,(19,j0t,[.cell 0 (some 3),.cell 1 (some 5)])),
 (13,(69,h87,[.tmp 4])),
 (8,(39,i26,[.tmp 4])),
 (25,(7,h2c,[.tmp 3])),
 (26,(63,j5f,[.tmp 4])),
 (24,(9,j47,[.tmp 4])),
 (58,(19,h5j,[.tmp 4]))]
theorem h02:U2 Tryz.prog n9e:=
 A1 fn7 (A1 o3s (A1 o24 (A1 o2c (A1 o0x (A1 o16 (A1 o0i (A1 o2l (A1 o13 (A1 l7q (A1 m01 (A1 n3y (A1 n0i (A1 m2n (A1 m0a (A1 l77 (A1 m2x (A1 l9k (A1 m60 (A1 m3r (A1 m0w (A1 l9b (A1 m4z (A1 l8w (A1 l93 (A1 n7h (A1 m7y (A1 l67 (A1 m5m (A1 m5v (A1 m5k (A1 n6c (A1 m6h (A1 o1o (A1 m5o (A1 l8u (A1 m29 (A1 m17 (A1 l9y (A1 o1p (A1 n4b (A1 l85 (A1 m0d (A1 n4y (A1 n4u (A1 n3b (A1 n46 (A1 n77 (A1 n0w (A1 n4r (A1 m9z (A1 n5w (A1 n3a (A1 n0h (A1 m35 (A1 n27 (A1 m1w (A1 m7p (A1 m7j (A1 n6y (A1 n2o (A1 n0o (A1 m6k (A1 n1u (A1 n0f (A1 n7x (A1 o28 (A1 m8y (A1 n97 (A1 m6i (A1 m7a (A1 n4e (A1 o0r (A1 m9a (A1 m03 (A1 m2o (A1 n6f (A1 n78 (A1 m2g (A1 n7m (A1 n2e (A1 o1t (A1 m0h (A1 n5u (A1 m66 (A1 m3q (A1 n7o (A1 o3n (A1 m7v (A1 m1l (A1 n0y (A1 m0q (A1 n60 (A1 m7o (A1 m50 (A1 n6v (A1 m53 (A1 m3u (A1 n63 (A1 n7z (A1 o05 (A1 n21 (A1 m8d (A1 n3t (A1 m02 (A1 l70 (A1 n69 (A1 n4v (A1 m91 (A1 n7j (A1 l9l (A1 m9k (A1 n1v (A1 n5x (A1 m2l (A1 n1x (A1 m3l (A1 n2t (A1 m2i (A1 l7z (A1 n2q (A1 n74 (A1 l63 (A1 n4t (A1 m3c (A1 m7m (A1 o06 (A1 l65 (A1 n96 (A1 o0g (A1 n0x (A1 l99 (A1 m7s (A1 n4z (A1 m45 (A1 n99 (A1 m80 (A1 o3e (A1 o3f (A1 o0u (A1 o08 (A1 n4k (A1 n7r (A1 m1c (A1 o0q (A1 m89 (A1 n7a (A1 m10 (A1 m3d (A1 m1y (A1 l7r (A1 o21 (A1 o01 (A1 o2q (A1 n8b (A1 n3w (A1 n7q (A1 o20 (A1 l6w (A1 m6y (A1 o1y (A1 o1x (A1 o2x (A1 o2k (A1 o2m (A1 o3r (A1 o1q (A1 l9g (A1 o0b (A1 n2j (A1 o2n (A1 o1v (A1 m6l (A1 n47 (A1 l9r (A1 m8i (A1 n3s (A1 n7b (A1 n5c (A1 n2n (A1 n6u (A1 m9f (A1 m4a (A1 o1k (A1 o0j (A1 o1f (A1 o1u (A1 n59 (A1 o2p (A1 m9h (A1 n8f (A1 o03 (A1 o0h (A1 o18 (A1 o3i (A1 m3w (A1 l80 (A1 n4x (A1 m4g (A1 l8h (A1 m5n (A1 n72 (A1 m48 (A1 o1h (A1 m6j (A1 n95 (A1 o1d (A1 o2s (A1 o3l (A1 o2f (A1 o0y (A1 fn8 (A1 o00 (A1 o2e (A1 o2z (A1 o2o g57)))))))))))))))))))))))))))))))))))))))))))))))))))))))))))))))))))))))))))))))))))))))))))))))))))))))))))))))))))))))))))))))))))))))))))))))))))))))))))))))))))))))))))))))))))))))))))))))))))))))))))))))))))))))
def tbl:Tbl:=(106,121,.from_ .skip 0,[])::n9e
theorem a18:U2 Tryz.prog tbl:=by
 intro g x hm;rcases List.mem_cons.1 hm with h|h
 ·cases h;exact m4v
 ·exact h02 g x h
def gl0:List (Nat × List AV):=[(1,[.v (.string ⟨#[111,107]⟩),.v (.string ⟨#[99,97,110,99,101,108,108,101,100]⟩),.v (.string ⟨#[105,110,118,97,108,105,100]⟩),.v (.string ⟨#[100,101,97,100,108,105,110,101]⟩),.v (.string ⟨#[110,111,116,95,102,111,117,110,100]⟩),.v (.string ⟨#[101,120,105,115,116,115]⟩),.v (.string ⟨#[100,101,110,105,101,100]⟩),.v (.string ⟨#[101,120,104,97,117,115,116,101,100]⟩),.v (.string ⟨#[102,97,105,108,101,100]⟩),.v (.string ⟨#[97,98,111,114,116,101,100]⟩),.v (.string ⟨#[117,110,105,109,112,108,101,109,101,110,116,101,100]⟩),.v (.string ⟨#[105,110,116,101,114,110,97,108]⟩),.v (.string ⟨#[117,110,97,118,97,105,108,97,98,108,101]⟩),.v (.string ⟨#[100,97,116,97,95,108,111,115,115]⟩)])]
def W5(f:Nat)(md:Bool):Bool:=if [85,104].contains f then true else if [159,160,184].contains f then md else false
def kn0:List AV:=[(.tuple [(.v (.int .i64 0)),(.sl [[(.v (.string ⟨#[105,100]⟩)),(.v (.string ⟨#[55]⟩))]] .no),(.v (.int .i64 0))]),(.sl [[(.v (.string ⟨#[71,69,84]⟩)),(.v (.string ⟨#[47,117,115,101,114,115,47,123,105,100,125]⟩)),(.v (.string ⟨#[83]⟩)),(.v (.string ⟨#[71,101,116]⟩)),(.v (.string ⟨#[]⟩))]] .full),(.v (.string ⟨#[71,69,84]⟩)),(.v (.string ⟨#[47,117,115,101,114,115,47,55]⟩))]
def kn1:List AV:=[(.tuple [(.agg [(.sl [[(.v (.string ⟨#[77]⟩)),(.sl [[(.v (.int .i64 1)),(.v (.string ⟨#[105,100]⟩)),(.v (.string ⟨#[]⟩)),(.v (.int .i64 3)),(.v (.int .i64 0)),(.v (.int .i64 4)),(.v (.int .i64 (-1))),(.v (.int .i64 (-1)))],[(.v (.int .i64 2)),(.v (.string ⟨#[116,97,103]⟩)),(.v (.string ⟨#[]⟩)),(.v (.int .i64 4)),(.v (.int .i64 0)),(.v (.int .i64 7)),(.v (.int .i64 (-1))),(.v (.int .i64 (-1)))]] .no),(.v (.int .i64 0))]] .no),.nil]),(.v (.int .i64 0))]),(.agg [(.sl [[(.v (.string ⟨#[77]⟩)),(.sl [[(.v (.int .i64 1)),(.v (.string ⟨#[105,100]⟩)),(.v (.int .i64 3)),(.v (.int .i64 0)),(.v (.int .i64 4)),(.v (.string ⟨#[]⟩)),(.v (.string ⟨#[]⟩)),(.v (.bool false)),(.v (.int .i64 0)),(.v (.int .u64 0)),(.v (.string ⟨#[]⟩)),.nil,.nil,.nil,.nil,.nil],[(.v (.int .i64 2)),(.v (.string ⟨#[116,97,103]⟩)),(.v (.int .i64 4)),(.v (.int .i64 0)),(.v (.int .i64 7)),(.v (.string ⟨#[]⟩)),(.v (.string ⟨#[]⟩)),(.v (.bool false)),(.v (.int .i64 0)),(.v (.int .u64 0)),(.v (.string ⟨#[]⟩)),.nil,.nil,.nil,.nil,.nil]] .full),.nil,.nil,.nil]] .full),.nil,(.sl [[(.v (.string ⟨#[83]⟩)),(.sl [[(.v (.string ⟨#[71,101,116]⟩)),(.v (.string ⟨#[77]⟩)),(.v (.string ⟨#[77]⟩)),(.v (.int .i64 1)),.nil]] .full),.nil]] .full)])]
def kn2:List AV:=[(.v (.int .i64 0)),(.agg [(.sl [[(.v (.string ⟨#[77]⟩)),(.sl [[(.v (.int .i64 1)),(.v (.string ⟨#[105,100]⟩)),(.v (.int .i64 3)),(.v (.int .i64 0)),(.v (.int .i64 4)),(.v (.string ⟨#[]⟩)),(.v (.string ⟨#[]⟩)),(.v (.bool false)),(.v (.int .i64 0)),(.v (.int .u64 0)),(.v (.string ⟨#[]⟩)),.nil,.nil,.nil,.nil,.nil],[(.v (.int .i64 2)),(.v (.string ⟨#[116,97,103]⟩)),(.v (.int .i64 4)),(.v (.int .i64 0)),(.v (.int .i64 7)),(.v (.string ⟨#[]⟩)),(.v (.string ⟨#[]⟩)),(.v (.bool false)),(.v (.int .i64 0)),(.v (.int .u64 0)),(.v (.string ⟨#[]⟩)),.nil,.nil,.nil,.nil,.nil]] .full),.nil,.nil,.nil]] .full),.nil,(.sl [[(.v (.string ⟨#[83]⟩)),(.sl [[(.v (.string ⟨#[71,101,116]⟩)),(.v (.string ⟨#[77]⟩)),(.v (.string ⟨#[77]⟩)),(.v (.int .i64 1)),.nil]] .full),.nil]] .full)]),(.agg [(.v (.string ⟨#[71,69,84]⟩)),(.v (.string ⟨#[47,117,115,101,114,115,47,123,105,100,125]⟩)),(.v (.string ⟨#[83]⟩)),(.v (.string ⟨#[71,101,116]⟩)),(.v (.string ⟨#[]⟩))])]
def kn3:List AV:=[(.v (.int .i64 0)),(.agg [(.sl [[(.v (.string ⟨#[77]⟩)),(.sl [[(.v (.int .i64 1)),(.v (.string ⟨#[105,100]⟩)),(.v (.int .i64 3)),(.v (.int .i64 0)),(.v (.int .i64 4)),(.v (.string ⟨#[]⟩)),(.v (.string ⟨#[]⟩)),(.v (.bool false)),(.v (.int .i64 0)),(.v (.int .u64 0)),(.v (.string ⟨#[]⟩)),.nil,.nil,.nil,.nil,.nil],[(.v (.int .i64 2)),(.v (.string ⟨#[116,97,103]⟩)),(.v (.int .i64 4)),(.v (.int .i64 0)),(.v (.int .i64 7)),(.v (.string ⟨#[]⟩)),(.v (.string ⟨#[]⟩)),(.v (.bool false)),(.v (.int .i64 0)),(.v (.int .u64 0)),(.v (.string ⟨#[]⟩)),.nil,.nil,.nil,.nil,.nil]] .full),.nil,.nil,.nil]] .full),.nil,(.sl [[(.v (.string ⟨#[83]⟩)),(.sl [[(.v (.string ⟨#[71,101,116]⟩)),(.v (.string ⟨#[77]⟩)),(.v (.string ⟨#[77]⟩)),(.v (.int .i64 1)),.nil]] .full),.nil]] .full)]),(.v (.string ⟨#[77]⟩)),(.agg [(.v (.int .i64 10)),(.v (.int .u64 0)),(.v (.string ⟨#[]⟩)),.nil,.nil,(.sl [[(.v (.int .i64 1)),(.v (.int .i64 4)),(.v (.int .u64 7)),(.v (.string ⟨#[]⟩)),.nil,.nil,.nil,.nil],[(.v (.int .i64 2)),(.v (.int .i64 11)),(.v (.int .u64 0)),(.v (.string ⟨#[]⟩)),(.sl [[(.v (.int .i64 7)),(.v (.int .u64 0)),(.v (.string ⟨#[97,32,98]⟩)),.nil,.nil,.nil,.nil]] .no),.nil,.nil,.nil]] .no),.nil])]
def kn4:List AV:=[(.agg [(.v (.int .i64 10)),(.v (.int .u64 0)),(.v (.string ⟨#[]⟩)),.nil,.nil,(.sl [[(.v (.int .i64 1)),(.v (.int .i64 4)),(.v (.int .u64 7)),(.v (.string ⟨#[]⟩)),.nil,.nil,.nil,.nil],[(.v (.int .i64 2)),(.v (.int .i64 11)),(.v (.int .u64 0)),(.v (.string ⟨#[]⟩)),(.sl [[(.v (.int .i64 7)),(.v (.int .u64 0)),(.v (.string ⟨#[97,32,98]⟩)),.nil,.nil,.nil,.nil]] .no),.nil,.nil,.nil]] .no),.nil]),(.agg [(.sl [[(.v (.string ⟨#[77]⟩)),(.sl [[(.v (.int .i64 1)),(.v (.string ⟨#[105,100]⟩)),(.v (.int .i64 3)),(.v (.int .i64 0)),(.v (.int .i64 4)),(.v (.string ⟨#[]⟩)),(.v (.string ⟨#[]⟩)),(.v (.bool false)),(.v (.int .i64 0)),(.v (.int .u64 0)),(.v (.string ⟨#[]⟩)),.nil,.nil,.nil,.nil,.nil],[(.v (.int .i64 2)),(.v (.string ⟨#[116,97,103]⟩)),(.v (.int .i64 4)),(.v (.int .i64 0)),(.v (.int .i64 7)),(.v (.string ⟨#[]⟩)),(.v (.string ⟨#[]⟩)),(.v (.bool false)),(.v (.int .i64 0)),(.v (.int .u64 0)),(.v (.string ⟨#[]⟩)),.nil,.nil,.nil,.nil,.nil]] .full),.nil,.nil,.nil]] .full),.nil,(.sl [[(.v (.string ⟨#[83]⟩)),(.sl [[(.v (.string ⟨#[71,101,116]⟩)),(.v (.string ⟨#[77]⟩)),(.v (.string ⟨#[77]⟩)),(.v (.int .i64 1)),.nil]] .full),.nil]] .full)]),(.v (.string ⟨#[77]⟩)),(.agg [(.v (.int .i64 10)),(.v (.int .u64 0)),(.v (.string ⟨#[]⟩)),.nil,.nil,(.sl [[(.v (.int .i64 1)),(.v (.int .i64 4)),(.v (.int .u64 7)),(.v (.string ⟨#[]⟩)),.nil,.nil,.nil,.nil],[(.v (.int .i64 2)),(.v (.int .i64 11)),(.v (.int .u64 0)),(.v (.string ⟨#[]⟩)),(.sl [[(.v (.int .i64 7)),(.v (.int .u64 0)),(.v (.string ⟨#[97,32,98]⟩)),.nil,.nil,.nil,.nil]] .no),.nil,.nil,.nil]] .no),.nil])]
def kn5:List AV:=[(.tuple [(.v (.string ⟨#[83,47,71,101,116]⟩)),(.agg [(.v (.int .i64 10)),(.v (.int .u64 0)),(.v (.string ⟨#[]⟩)),.nil,.nil,(.sl [[(.v (.int .i64 1)),(.v (.int .i64 4)),(.v (.int .u64 7)),(.v (.string ⟨#[]⟩)),.nil,.nil,.nil,.nil],[(.v (.int .i64 2)),(.v (.int .i64 11)),(.v (.int .u64 0)),(.v (.string ⟨#[]⟩)),(.sl [[(.v (.int .i64 7)),(.v (.int .u64 0)),(.v (.string ⟨#[97,32,98]⟩)),.nil,.nil,.nil,.nil]] .no),.nil,.nil,.nil]] .no),.nil]),(.v (.int .i64 0))]),(.agg [(.sl [[(.v (.string ⟨#[77]⟩)),(.sl [[(.v (.int .i64 1)),(.v (.string ⟨#[105,100]⟩)),(.v (.int .i64 3)),(.v (.int .i64 0)),(.v (.int .i64 4)),(.v (.string ⟨#[]⟩)),(.v (.string ⟨#[]⟩)),(.v (.bool false)),(.v (.int .i64 0)),(.v (.int .u64 0)),(.v (.string ⟨#[]⟩)),.nil,.nil,.nil,.nil,.nil],[(.v (.int .i64 2)),(.v (.string ⟨#[116,97,103]⟩)),(.v (.int .i64 4)),(.v (.int .i64 0)),(.v (.int .i64 7)),(.v (.string ⟨#[]⟩)),(.v (.string ⟨#[]⟩)),(.v (.bool false)),(.v (.int .i64 0)),(.v (.int .u64 0)),(.v (.string ⟨#[]⟩)),.nil,.nil,.nil,.nil,.nil]] .full),.nil,.nil,.nil]] .full),.nil,(.sl [[(.v (.string ⟨#[83]⟩)),(.sl [[(.v (.string ⟨#[71,101,116]⟩)),(.v (.string ⟨#[77]⟩)),(.v (.string ⟨#[77]⟩)),(.v (.int .i64 1)),.nil]] .full),.nil]] .full)]),(.sl [[(.v (.string ⟨#[71,69,84]⟩)),(.v (.string ⟨#[47,117,115,101,114,115,47,123,105,100,125]⟩)),(.v (.string ⟨#[83]⟩)),(.v (.string ⟨#[71,101,116]⟩)),(.v (.string ⟨#[]⟩))]] .full),(.agg [(.v (.string ⟨#[71,69,84]⟩)),(.v (.string ⟨#[47,117,115,101,114,115,47,55]⟩)),(.sl [[(.v (.string ⟨#[116,97,103]⟩)),(.v (.string ⟨#[97,32,98]⟩))]] .full),(.v (.string ⟨#[]⟩))])]
def kn6:List AV:=[(.tuple [(.agg [(.v (.string ⟨#[71,69,84]⟩)),(.v (.string ⟨#[47,117,115,101,114,115,47,55]⟩)),(.sl [[(.v (.string ⟨#[116,97,103]⟩)),(.v (.string ⟨#[97,32,98]⟩))]] .no),(.v (.string ⟨#[]⟩))]),(.v (.int .i64 0))]),(.agg [(.sl [[(.v (.string ⟨#[77]⟩)),(.sl [[(.v (.int .i64 1)),(.v (.string ⟨#[105,100]⟩)),(.v (.int .i64 3)),(.v (.int .i64 0)),(.v (.int .i64 4)),(.v (.string ⟨#[]⟩)),(.v (.string ⟨#[]⟩)),(.v (.bool false)),(.v (.int .i64 0)),(.v (.int .u64 0)),(.v (.string ⟨#[]⟩)),.nil,.nil,.nil,.nil,.nil],[(.v (.int .i64 2)),(.v (.string ⟨#[116,97,103]⟩)),(.v (.int .i64 4)),(.v (.int .i64 0)),(.v (.int .i64 7)),(.v (.string ⟨#[]⟩)),(.v (.string ⟨#[]⟩)),(.v (.bool false)),(.v (.int .i64 0)),(.v (.int .u64 0)),(.v (.string ⟨#[]⟩)),.nil,.nil,.nil,.nil,.nil]] .full),.nil,.nil,.nil]] .full),.nil,(.sl [[(.v (.string ⟨#[83]⟩)),(.sl [[(.v (.string ⟨#[71,101,116]⟩)),(.v (.string ⟨#[77]⟩)),(.v (.string ⟨#[77]⟩)),(.v (.int .i64 1)),.nil]] .full),.nil]] .full)]),(.agg [(.v (.string ⟨#[71,69,84]⟩)),(.v (.string ⟨#[47,117,115,101,114,115,47,123,105,100,125]⟩)),(.v (.string ⟨#[83]⟩)),(.v (.string ⟨#[71,101,116]⟩)),(.v (.string ⟨#[]⟩))]),(.agg [(.v (.int .i64 10)),(.v (.int .u64 0)),(.v (.string ⟨#[]⟩)),.nil,.nil,(.sl [[(.v (.int .i64 1)),(.v (.int .i64 4)),(.v (.int .u64 7)),(.v (.string ⟨#[]⟩)),.nil,.nil,.nil,.nil],[(.v (.int .i64 2)),(.v (.int .i64 11)),(.v (.int .u64 0)),(.v (.string ⟨#[]⟩)),(.sl [[(.v (.int .i64 7)),(.v (.int .u64 0)),(.v (.string ⟨#[97,32,98]⟩)),.nil,.nil,.nil,.nil]] .no),.nil,.nil,.nil]] .no),.nil])]
def kn7:List AV:=[(.v (.int .i64 0)),(.agg [(.sl [[(.v (.string ⟨#[77]⟩)),(.sl [[(.v (.int .i64 1)),(.v (.string ⟨#[105,100]⟩)),(.v (.int .i64 3)),(.v (.int .i64 0)),(.v (.int .i64 4)),(.v (.string ⟨#[]⟩)),(.v (.string ⟨#[]⟩)),(.v (.bool false)),(.v (.int .i64 0)),(.v (.int .u64 0)),(.v (.string ⟨#[]⟩)),.nil,.nil,.nil,.nil,.nil],[(.v (.int .i64 2)),(.v (.string ⟨#[116,97,103]⟩)),(.v (.int .i64 4)),(.v (.int .i64 0)),(.v (.int .i64 7)),(.v (.string ⟨#[]⟩)),(.v (.string ⟨#[]⟩)),(.v (.bool false)),(.v (.int .i64 0)),(.v (.int .u64 0)),(.v (.string ⟨#[]⟩)),.nil,.nil,.nil,.nil,.nil]] .full),.nil,.nil,.nil]] .full),.nil,(.sl [[(.v (.string ⟨#[83]⟩)),(.sl [[(.v (.string ⟨#[71,101,116]⟩)),(.v (.string ⟨#[77]⟩)),(.v (.string ⟨#[77]⟩)),(.v (.int .i64 1)),.nil]] .full),.nil]] .full)]),(.v (.string ⟨#[77]⟩)),(.agg [(.v (.int .i64 10)),(.v (.int .u64 0)),(.v (.string ⟨#[]⟩)),.nil,.nil,.nil,.nil])]
def kn8:List AV:=[(.agg [(.v (.int .i64 10)),(.v (.int .u64 0)),(.v (.string ⟨#[]⟩)),.nil,.nil,.nil,.nil]),(.agg [(.sl [[(.v (.string ⟨#[77]⟩)),(.sl [[(.v (.int .i64 1)),(.v (.string ⟨#[105,100]⟩)),(.v (.int .i64 3)),(.v (.int .i64 0)),(.v (.int .i64 4)),(.v (.string ⟨#[]⟩)),(.v (.string ⟨#[]⟩)),(.v (.bool false)),(.v (.int .i64 0)),(.v (.int .u64 0)),(.v (.string ⟨#[]⟩)),.nil,.nil,.nil,.nil,.nil],[(.v (.int .i64 2)),(.v (.string ⟨#[116,97,103]⟩)),(.v (.int .i64 4)),(.v (.int .i64 0)),(.v (.int .i64 7)),(.v (.string ⟨#[]⟩)),(.v (.string ⟨#[]⟩)),(.v (.bool false)),(.v (.int .i64 0)),(.v (.int .u64 0)),(.v (.string ⟨#[]⟩)),.nil,.nil,.nil,.nil,.nil]] .full),.nil,.nil,.nil]] .full),.nil,(.sl [[(.v (.string ⟨#[83]⟩)),(.sl [[(.v (.string ⟨#[71,101,116]⟩)),(.v (.string ⟨#[77]⟩)),(.v (.string ⟨#[77]⟩)),(.v (.int .i64 1)),.nil]] .full),.nil]] .full)]),(.v (.string ⟨#[77]⟩)),(.agg [(.v (.int .i64 10)),(.v (.int .u64 0)),(.v (.string ⟨#[]⟩)),.nil,.nil,.nil,.nil])]
def kn9:List AV:=[(.tuple [(.agg [(.v (.string ⟨#[]⟩)),(.v (.string ⟨#[]⟩)),.nil,(.v (.string ⟨#[]⟩))]),(.v (.int .i64 14))]),(.agg [(.sl [[(.v (.string ⟨#[77]⟩)),(.sl [[(.v (.int .i64 1)),(.v (.string ⟨#[105,100]⟩)),(.v (.int .i64 3)),(.v (.int .i64 0)),(.v (.int .i64 4)),(.v (.string ⟨#[]⟩)),(.v (.string ⟨#[]⟩)),(.v (.bool false)),(.v (.int .i64 0)),(.v (.int .u64 0)),(.v (.string ⟨#[]⟩)),.nil,.nil,.nil,.nil,.nil],[(.v (.int .i64 2)),(.v (.string ⟨#[116,97,103]⟩)),(.v (.int .i64 4)),(.v (.int .i64 0)),(.v (.int .i64 7)),(.v (.string ⟨#[]⟩)),(.v (.string ⟨#[]⟩)),(.v (.bool false)),(.v (.int .i64 0)),(.v (.int .u64 0)),(.v (.string ⟨#[]⟩)),.nil,.nil,.nil,.nil,.nil]] .full),.nil,.nil,.nil]] .full),.nil,(.sl [[(.v (.string ⟨#[83]⟩)),(.sl [[(.v (.string ⟨#[71,101,116]⟩)),(.v (.string ⟨#[77]⟩)),(.v (.string ⟨#[77]⟩)),(.v (.int .i64 1)),.nil]] .full),.nil]] .full)]),(.agg [(.v (.string ⟨#[71,69,84]⟩)),(.v (.string ⟨#[47,117,115,101,114,115,47,123,105,100,125]⟩)),(.v (.string ⟨#[83]⟩)),(.v (.string ⟨#[71,101,116]⟩)),(.v (.string ⟨#[]⟩))]),(.agg [(.v (.int .i64 10)),(.v (.int .u64 0)),(.v (.string ⟨#[]⟩)),.nil,.nil,.nil,.nil])]
def e16:List AV:=[(.tuple [(.v (.int .i64 0)),(.sl [[(.v (.string ⟨#[105,100]⟩)),(.v (.string ⟨#[32]⟩))]] .no),(.v (.int .i64 0))]),(.sl [[(.v (.string ⟨#[71,69,84]⟩)),(.v (.string ⟨#[47,117,115,101,114,115,47,123,105,100,125]⟩)),(.v (.string ⟨#[83]⟩)),(.v (.string ⟨#[71,101,116]⟩)),(.v (.string ⟨#[]⟩))]] .full),(.v (.string ⟨#[71,69,84]⟩)),(.v (.string ⟨#[47,117,115,101,114,115,47,37,50,48]⟩))]
def g1r:List AV:=[(.tuple [(.v (.string ⟨#[105,100,58,32,55,32,116,97,103,58,32,34,97,32,98,34]⟩)),(.v (.int .i64 0))]),(.agg [(.sl [[(.v (.string ⟨#[77]⟩)),(.sl [[(.v (.int .i64 1)),(.v (.string ⟨#[105,100]⟩)),(.v (.string ⟨#[]⟩)),(.v (.int .i64 3)),(.v (.int .i64 0)),(.v (.int .i64 4)),(.v (.int .i64 (-1))),(.v (.int .i64 (-1)))],[(.v (.int .i64 2)),(.v (.string ⟨#[116,97,103]⟩)),(.v (.string ⟨#[]⟩)),(.v (.int .i64 4)),(.v (.int .i64 0)),(.v (.int .i64 7)),(.v (.int .i64 (-1))),(.v (.int .i64 (-1)))]] .no),(.v (.int .i64 0))]] .no),.nil]),(.v (.string ⟨#[77]⟩)),(.agg [(.v (.int .i64 10)),(.v (.int .u64 0)),(.v (.string ⟨#[]⟩)),.nil,.nil,(.sl [[(.v (.int .i64 1)),(.v (.int .i64 4)),(.v (.int .u64 7)),(.v (.string ⟨#[]⟩)),.nil,.nil,.nil,.nil],[(.v (.int .i64 2)),(.v (.int .i64 11)),(.v (.int .u64 0)),(.v (.string ⟨#[]⟩)),(.sl [[(.v (.int .i64 7)),(.v (.int .u64 0)),(.v (.string ⟨#[97,32,98]⟩)),.nil,.nil,.nil,.nil]] .no),.nil,.nil,.nil]] .no),.nil])]
def h1c:List AV:=[(.agg [(.v (.int .i64 200)),(.v (.string ⟨#[105,100,58,32,55,32,116,97,103,58,32,34,97,32,98,34]⟩))]),(.agg [(.sl [[(.v (.string ⟨#[77]⟩)),(.sl [[(.v (.int .i64 1)),(.v (.string ⟨#[105,100]⟩)),(.v (.int .i64 3)),(.v (.int .i64 0)),(.v (.int .i64 4)),(.v (.string ⟨#[]⟩)),(.v (.string ⟨#[]⟩)),(.v (.bool false)),(.v (.int .i64 0)),(.v (.int .u64 0)),(.v (.string ⟨#[]⟩)),.nil,.nil,.nil,.nil,.nil],[(.v (.int .i64 2)),(.v (.string ⟨#[116,97,103]⟩)),(.v (.int .i64 4)),(.v (.int .i64 0)),(.v (.int .i64 7)),(.v (.string ⟨#[]⟩)),(.v (.string ⟨#[]⟩)),(.v (.bool false)),(.v (.int .i64 0)),(.v (.int .u64 0)),(.v (.string ⟨#[]⟩)),.nil,.nil,.nil,.nil,.nil]] .full),.nil,.nil,.nil]] .full),.nil,(.sl [[(.v (.string ⟨#[83]⟩)),(.sl [[(.v (.string ⟨#[71,101,116]⟩)),(.v (.string ⟨#[77]⟩)),(.v (.string ⟨#[77]⟩)),(.v (.int .i64 1)),.nil]] .full),.nil]] .full)]),(.v (.string ⟨#[83,47,71,101,116]⟩)),(.agg [(.v (.int .i64 0)),(.v (.string ⟨#[]⟩))]),(.agg [(.v (.int .i64 10)),(.v (.int .u64 0)),(.v (.string ⟨#[]⟩)),.nil,.nil,(.sl [[(.v (.int .i64 1)),(.v (.int .i64 4)),(.v (.int .u64 7)),(.v (.string ⟨#[]⟩)),.nil,.nil,.nil,.nil],[(.v (.int .i64 2)),(.v (.int .i64 11)),(.v (.int .u64 0)),(.v (.string ⟨#[]⟩)),(.sl [[(.v (.int .i64 7)),(.v (.int .u64 0)),(.v (.string ⟨#[97,32,98]⟩)),.nil,.nil,.nil,.nil]] .no),.nil,.nil,.nil]] .no),.nil])]
def h5r:List AV:=[(.v (.int .i64 0)),(.agg [(.sl [[(.v (.string ⟨#[77]⟩)),(.sl [[(.v (.int .i64 1)),(.v (.string ⟨#[105,100]⟩)),(.v (.int .i64 3)),(.v (.int .i64 0)),(.v (.int .i64 4)),(.v (.string ⟨#[]⟩)),(.v (.string ⟨#[]⟩)),(.v (.bool false)),(.v (.int .i64 0)),(.v (.int .u64 0)),(.v (.string ⟨#[]⟩)),.nil,.nil,.nil,.nil,.nil],[(.v (.int .i64 2)),(.v (.string ⟨#[116,97,103]⟩)),(.v (.int .i64 4)),(.v (.int .i64 0)),(.v (.int .i64 7)),(.v (.string ⟨#[]⟩)),(.v (.string ⟨#[]⟩)),(.v (.bool false)),(.v (.int .i64 0)),(.v (.int .u64 0)),(.v (.string ⟨#[]⟩)),.nil,.nil,.nil,.nil,.nil]] .full),.nil,.nil,.nil]] .full),.nil,(.sl [[(.v (.string ⟨#[83]⟩)),(.sl [[(.v (.string ⟨#[71,101,116]⟩)),(.v (.string ⟨#[77]⟩)),(.v (.string ⟨#[77]⟩)),(.v (.int .i64 1)),.nil]] .full),.nil]] .full)]),(.sl [[(.v (.string ⟨#[71,69,84]⟩)),(.v (.string ⟨#[47,117,115,101,114,115,47,123,105,100,125]⟩)),(.v (.string ⟨#[83]⟩)),(.v (.string ⟨#[71,101,116]⟩)),(.v (.string ⟨#[]⟩))]] .full)]
def l6p:List AV:=[(.v (.int .i64 9)),(.agg [(.sl [[(.v (.string ⟨#[77]⟩)),(.sl [[(.v (.int .i64 1)),(.v (.string ⟨#[105,100]⟩)),(.v (.int .i64 3)),(.v (.int .i64 0)),(.v (.int .i64 4)),(.v (.string ⟨#[]⟩)),(.v (.string ⟨#[]⟩)),(.v (.bool false)),(.v (.int .i64 0)),(.v (.int .u64 0)),(.v (.string ⟨#[]⟩)),.nil,.nil,.nil,.nil,.nil],[(.v (.int .i64 2)),(.v (.string ⟨#[116,97,103]⟩)),(.v (.int .i64 4)),(.v (.int .i64 0)),(.v (.int .i64 7)),(.v (.string ⟨#[]⟩)),(.v (.string ⟨#[]⟩)),(.v (.bool false)),(.v (.int .i64 0)),(.v (.int .u64 0)),(.v (.string ⟨#[]⟩)),.nil,.nil,.nil,.nil,.nil]] .full),.nil,.nil,.nil]] .full),.nil,(.sl [[(.v (.string ⟨#[83]⟩)),(.sl [[(.v (.string ⟨#[71,101,116]⟩)),(.v (.string ⟨#[77]⟩)),(.v (.string ⟨#[77]⟩)),(.v (.int .i64 1)),.nil]] .full),.nil]] .full)]),(.sl [[(.v (.string ⟨#[71,69,84]⟩)),(.v (.string ⟨#[47,117,115,101,114,115,47,123,105,100,125]⟩)),(.v (.string ⟨#[83]⟩)),(.v (.string ⟨#[71,101,116]⟩)),(.v (.string ⟨#[]⟩))],[(.v (.string ⟨#[71,69,84]⟩)),(.v (.string ⟨#[47,117,115,101,114,115,47,123,105,100,125]⟩)),(.v (.string ⟨#[83]⟩)),(.v (.string ⟨#[71,101,116]⟩)),(.v (.string ⟨#[]⟩))]] .full)]
def n6o:Tbl:=tbl
def l7b:Tbl:=(11,0,knC kn0,[])::tbl
def n5b:Tbl:=(11,0,knC kn0,[])::(48,0,knC kn1,[])::tbl
def n2i:Tbl:=(11,0,knC kn0,[])::(48,0,knC kn1,[])::(23,0,knC kn2,[])::tbl
def n0a:Tbl:=(11,0,knC kn0,[])::(48,0,knC kn1,[])::(23,0,knC kn2,[])::(40,0,knC kn3,[])::tbl
def m5j:Tbl:=(11,0,knC kn0,[])::(48,0,knC kn1,[])::(23,0,knC kn2,[])::(40,0,knC kn3,[])::(41,0,knC kn4,[])::tbl
def m3k:Tbl:=(11,0,knC kn0,[])::(48,0,knC kn1,[])::(23,0,knC kn2,[])::(40,0,knC kn3,[])::(41,0,knC kn4,[])::(17,0,knC kn5,[])::tbl
def n6x:Tbl:=(11,0,knC kn0,[])::(48,0,knC kn1,[])::(23,0,knC kn2,[])::(40,0,knC kn3,[])::(41,0,knC kn4,[])::(17,0,knC kn5,[])::(18,0,knC kn6,[])::tbl
def m47:Tbl:=(11,0,knC kn0,[])::(48,0,knC kn1,[])::(23,0,knC kn2,[])::(40,0,knC kn3,[])::(41,0,knC kn4,[])::(17,0,knC kn5,[])::(18,0,knC kn6,[])::(40,0,knC kn7,[])::tbl
def m9n:Tbl:=(11,0,knC kn0,[])::(48,0,knC kn1,[])::(23,0,knC kn2,[])::(40,0,knC kn3,[])::(41,0,knC kn4,[])::(17,0,knC kn5,[])::(18,0,knC kn6,[])::(40,0,knC kn7,[])::(41,0,knC kn8,[])::tbl
def g4l:Tbl:=(11,0,knC kn0,[])::(48,0,knC kn1,[])::(23,0,knC kn2,[])::(40,0,knC kn3,[])::(41,0,knC kn4,[])::(17,0,knC kn5,[])::(18,0,knC kn6,[])::(40,0,knC kn7,[])::(41,0,knC kn8,[])::(18,0,knC kn9,[])::tbl
def e51:Tbl:=(11,0,knC kn0,[])::(48,0,knC kn1,[])::(23,0,knC kn2,[])::(40,0,knC kn3,[])::(41,0,knC kn4,[])::(17,0,knC kn5,[])::(18,0,knC kn6,[])::(40,0,knC kn7,[])::(41,0,knC kn8,[])::(18,0,knC kn9,[])::(11,0,knC e16,[])::tbl
def g6c:Tbl:=(11,0,knC kn0,[])::(48,0,knC kn1,[])::(23,0,knC kn2,[])::(40,0,knC kn3,[])::(41,0,knC kn4,[])::(17,0,knC kn5,[])::(18,0,knC kn6,[])::(40,0,knC kn7,[])::(41,0,knC kn8,[])::(18,0,knC kn9,[])::(11,0,knC e16,[])::(49,0,knC g1r,[])::tbl
def f9j:Tbl:=(11,0,knC kn0,[])::(48,0,knC kn1,[])::(23,0,knC kn2,[])::(40,0,knC kn3,[])::(41,0,knC kn4,[])::(17,0,knC kn5,[])::(18,0,knC kn6,[])::(40,0,knC kn7,[])::(41,0,knC kn8,[])::(18,0,knC kn9,[])::(11,0,knC e16,[])::(49,0,knC g1r,[])::(20,0,knC h1c,[])::tbl
def f2z:Tbl:=(11,0,knC kn0,[])::(48,0,knC kn1,[])::(23,0,knC kn2,[])::(40,0,knC kn3,[])::(41,0,knC kn4,[])::(17,0,knC kn5,[])::(18,0,knC kn6,[])::(40,0,knC kn7,[])::(41,0,knC kn8,[])::(18,0,knC kn9,[])::(11,0,knC e16,[])::(49,0,knC g1r,[])::(20,0,knC h1c,[])::(8,0,knC h5r,[])::tbl
def i7g:Tbl:=(11,0,knC kn0,[])::(48,0,knC kn1,[])::(23,0,knC kn2,[])::(40,0,knC kn3,[])::(41,0,knC kn4,[])::(17,0,knC kn5,[])::(18,0,knC kn6,[])::(40,0,knC kn7,[])::(41,0,knC kn8,[])::(18,0,knC kn9,[])::(11,0,knC e16,[])::(49,0,knC g1r,[])::(20,0,knC h1c,[])::(8,0,knC h5r,[])::(8,0,knC l6p,[])::tbl
theorem f6c:(b33 n6o W5 false (evC n6o W5 100000) 11 kn0.tail ⟨[],[],[]⟩).map (fun r=>b3g r.2 r.1)=some (kn0.headD .nil):=by kernel_rfl
theorem f43:(b33 n0a W5 false (evC n0a W5 100000) 41 kn4.tail ⟨[],[],[]⟩).map (fun r=>b3g r.2 r.1)=some (kn4.headD .nil):=by kernel_rfl
theorem f4c:(b33 m47 W5 false (evC m47 W5 100000) 41 kn8.tail ⟨[],[],[]⟩).map (fun r=>b3g r.2 r.1)=some (kn8.headD .nil):=by kernel_rfl
theorem d72:(b33 g6c W5 false (evC g6c W5 100000) 20 h1c.tail ⟨[],[],[]⟩).map (fun r=>b3g r.2 r.1)=some (h1c.headD .nil):=by kernel_rfl
theorem g7i:(b33 l7b W5 false (evC l7b W5 100000) 48 kn1.tail ⟨[],[],[]⟩).map (fun r=>b3g r.2 r.1)=some (kn1.headD .nil):=by kernel_rfl
theorem e5k:(b33 m5j W5 false (evC m5j W5 100000) 17 kn5.tail ⟨[],[],[]⟩).map (fun r=>b3g r.2 r.1)=some (kn5.headD .nil):=by kernel_rfl
theorem f1c:(b33 m9n W5 false (evC m9n W5 100000) 18 kn9.tail ⟨[],[],[]⟩).map (fun r=>b3g r.2 r.1)=some (kn9.headD .nil):=by kernel_rfl
theorem d30:(b33 f9j W5 false (evC f9j W5 100000) 8 h5r.tail ⟨[],[],[]⟩).map (fun r=>b3g r.2 r.1)=some (h5r.headD .nil):=by kernel_rfl
theorem e88:(b33 n5b W5 false (evC n5b W5 100000) 23 kn2.tail ⟨[],[],[]⟩).map (fun r=>b3g r.2 r.1)=some (kn2.headD .nil):=by kernel_rfl
theorem f2n:(b33 m3k W5 false (evC m3k W5 100000) 18 kn6.tail ⟨[],[],[]⟩).map (fun r=>b3g r.2 r.1)=some (kn6.headD .nil):=by kernel_rfl
theorem d52:(b33 g4l W5 false (evC g4l W5 100000) 11 e16.tail ⟨[],[],[]⟩).map (fun r=>b3g r.2 r.1)=some (e16.headD .nil):=by kernel_rfl
theorem d51:(b33 f2z W5 false (evC f2z W5 100000) 8 l6p.tail ⟨[],[],[]⟩).map (fun r=>b3g r.2 r.1)=some (l6p.headD .nil):=by kernel_rfl
theorem g8h:(b33 n2i W5 false (evC n2i W5 100000) 40 kn3.tail ⟨[],[],[]⟩).map (fun r=>b3g r.2 r.1)=some (kn3.headD .nil):=by kernel_rfl
theorem g8g:(b33 n6x W5 false (evC n6x W5 100000) 40 kn7.tail ⟨[],[],[]⟩).map (fun r=>b3g r.2 r.1)=some (kn7.headD .nil):=by kernel_rfl
theorem d7w:(b33 e51 W5 false (evC e51 W5 100000) 49 g1r.tail ⟨[],[],[]⟩).map (fun r=>b3g r.2 r.1)=some (g1r.headD .nil):=by kernel_rfl
theorem B4{P:Program}{T:Tbl}{g:Nat}{l:List AV}(h:c1h P g l)(t:U2 P T):U2 P ((g,0,knC l,[])::T):=by
 intro f y hf;rcases List.mem_cons.1 hf with e|hf
 ·cases e;exact h
 ·exact t f y hf
theorem o0v:U2 Tryz.prog n6o:=a18
theorem a26:c1h Tryz.prog 11 kn0:=⟨by kernel_rfl,H8 o0v 100000 f6c (by kernel_rfl)⟩
theorem o1j:U2 Tryz.prog l7b:=B4 a26<|a18
theorem a4k:c1h Tryz.prog 48 kn1:=⟨by kernel_rfl,H8 o1j 100000 g7i (by kernel_rfl)⟩
theorem o2d:U2 Tryz.prog n5b:=B4 a26<|B4 a4k<|a18
theorem a43:c1h Tryz.prog 23 kn2:=⟨by kernel_rfl,H8 o2d 100000 e88 (by kernel_rfl)⟩
theorem o1a:U2 Tryz.prog n2i:=B4 a26<|B4 a4k<|B4 a43<|a18
theorem a6o:c1h Tryz.prog 40 kn3:=⟨by kernel_rfl,H8 o1a 100000 g8h (by kernel_rfl)⟩
theorem o2v:U2 Tryz.prog n0a:=B4 a26<|B4 a4k<|B4 a43<|B4 a6o<|a18
theorem a73:c1h Tryz.prog 41 kn4:=⟨by kernel_rfl,H8 o2v 100000 f43 (by kernel_rfl)⟩
theorem o2g:U2 Tryz.prog m5j:=B4 a26<|B4 a4k<|B4 a43<|B4 a6o<|B4 a73<|a18
theorem a9g:c1h Tryz.prog 17 kn5:=⟨by kernel_rfl,H8 o2g 100000 e5k (by kernel_rfl)⟩
theorem o1c:U2 Tryz.prog m3k:=B4 a26<|B4 a4k<|B4 a43<|B4 a6o<|B4 a73<|B4 a9g<|a18
theorem b19:c1h Tryz.prog 18 kn6:=⟨by kernel_rfl,H8 o1c 100000 f2n (by kernel_rfl)⟩
theorem o12:U2 Tryz.prog n6x:=B4 a26<|B4 a4k<|B4 a43<|B4 a6o<|B4 a73<|B4 a9g<|B4 b19<|a18
theorem b3w:c1h Tryz.prog 40 kn7:=⟨by kernel_rfl,H8 o12 100000 g8g (by kernel_rfl)⟩
theorem o3c:U2 Tryz.prog m47:=B4 a26<|B4 a4k<|B4 a43<|B4 a6o<|B4 a73<|B4 a9g<|B4 b19<|B4 b3w<|a18
theorem b6i:c1h Tryz.prog 41 kn8:=⟨by kernel_rfl,H8 o3c 100000 f4c (by kernel_rfl)⟩
theorem o2u:U2 Tryz.prog m9n:=B4 a26<|B4 a4k<|B4 a43<|B4 a6o<|B4 a73<|B4 a9g<|B4 b19<|B4 b3w<|B4 b6i<|a18
theorem b8q:c1h Tryz.prog 18 kn9:=⟨by kernel_rfl,H8 o2u 100000 f1c (by kernel_rfl)⟩
theorem m0r:U2 Tryz.prog g4l:=B4 a26<|B4 a4k<|B4 a43<|B4 a6o<|B4 a73<|B4 a9g<|B4 b19<|B4 b3w<|B4 b6i<|B4 b8q<|a18
theorem b5e:c1h Tryz.prog 11 e16:=⟨by kernel_rfl,H8 m0r 100000 d52 (by kernel_rfl)⟩
theorem n5p:U2 Tryz.prog e51:=B4 a26<|B4 a4k<|B4 a43<|B4 a6o<|B4 a73<|B4 a9g<|B4 b19<|B4 b3w<|B4 b6i<|B4 b8q<|B4 b5e<|a18
theorem c04:c1h Tryz.prog 49 g1r:=⟨by kernel_rfl,H8 n5p 100000 d7w (by kernel_rfl)⟩
theorem n3f:U2 Tryz.prog g6c:=B4 a26<|B4 a4k<|B4 a43<|B4 a6o<|B4 a73<|B4 a9g<|B4 b19<|B4 b3w<|B4 b6i<|B4 b8q<|B4 b5e<|B4 c04<|a18
theorem c3s:c1h Tryz.prog 20 h1c:=⟨by kernel_rfl,H8 n3f 100000 d72 (by kernel_rfl)⟩
theorem m1g:U2 Tryz.prog f9j:=B4 a26<|B4 a4k<|B4 a43<|B4 a6o<|B4 a73<|B4 a9g<|B4 b19<|B4 b3w<|B4 b6i<|B4 b8q<|B4 b5e<|B4 c04<|B4 c3s<|a18
theorem d1f:c1h Tryz.prog 8 h5r:=⟨by kernel_rfl,H8 m1g 100000 d30 (by kernel_rfl)⟩
theorem m5p:U2 Tryz.prog f2z:=B4 a26<|B4 a4k<|B4 a43<|B4 a6o<|B4 a73<|B4 a9g<|B4 b19<|B4 b3w<|B4 b6i<|B4 b8q<|B4 b5e<|B4 c04<|B4 c3s<|B4 d1f<|a18
theorem e6q:c1h Tryz.prog 8 l6p:=⟨by kernel_rfl,H8 m5p 100000 d51 (by kernel_rfl)⟩
theorem n0p:U2 Tryz.prog i7g:=B4 a26<|B4 a4k<|B4 a43<|B4 a6o<|B4 a73<|B4 a9g<|B4 b19<|B4 b3w<|B4 b6i<|B4 b8q<|B4 b5e<|B4 c04<|B4 c3s<|B4 d1f<|B4 e6q<|a18
def n0v:Tbl:=i7g
theorem e8a:U2 Tryz.prog n0v:=n0p
theorem d3l:(b33 n0v W5 false (evC n0v W5 100000) 7 [] ⟨[],[],gl0⟩).map (fun r=>b3g r.2 r.1)=some (.v (.bool true)):=by kernel_rfl
theorem b9k:b4q Tryz.prog gl0 7 [] fun b=>b=.v (.bool true):=H8 e8a 100000 d3l rfl
theorem d5n{σ:Sg}{x v:Value}(h:Rel σ (.v x) v):v=x:=by
 cases h;rfl
theorem f3s{σ:Sg}{x:Value}{cargs:Array Value}(hr:b39 σ [.v x] cargs.toList):cargs=#[x]:=by
 obtain⟨hl,hx⟩:=hr;obtain⟨x0,h0,r0⟩:=hx 0 _ rfl;have e0:=d5n r0;subst e0;apply Array.ext'
 match hc:cargs.toList,hl,h0 with
 |[a],_,h0=>simp at h0;simp[h0]
def F1(l:List UInt8):ByteArray:=⟨l.toArray⟩
theorem c02(l:List UInt8):(F1 l).data.toList=l:=rfl
theorem S9(l:List UInt8):(F1 l).size=l.length:=by simp[F1,ByteArray.size]
def b3s(s:ByteArray):ByteArray × Int:=(F1 (b07 s.data.toList).1,(b07 s.data.toList).2)
theorem l5a(s:ByteArray)(hs:s.size<=1048576):a6j s (b3s s):=by
 refine⟨⟨_,Tryz.func19,by kernel_rfl,by kernel_rfl⟩,fun w outer cargs ho hg hr=>?_⟩;rw[f3s hr];refine(g4b s hs w).mono fun e w' ⟨he,hb⟩=>⟨.tuple [.v (.string (b3s s).1),.v (.int .i64 (b3s s).2)],_,he,a5d.of_below hb,?_,rfl⟩
 refine Rel.tuple_mk rfl fun i av hi=>?_
 match i,hi with
 |0,hi=>simp at hi;subst hi;exact⟨_,rfl,.v _ rfl⟩
 |1,hi=>simp at hi;subst hi;exact⟨_,rfl,.v _ rfl⟩
theorem c77{w:World}{outer:Nat->Nat->Prop}{x:Nat × List AV}{gl:List (Nat × List AV)}(h:b79 w outer (x::gl)):b79 w outer gl:=fun g cells hg=>h g cells (by simp[hg])
theorem b45(mg:Int):a54 mg true:=
 ⟨b9k.1,fun w outer cargs ho hg hr=>(b9k.2 w outer cargs ho (c77 hg) hr).mono fun e w' ⟨av,x,h1,h2,h3,h4⟩=>⟨av,x,h1,h2,h3,by rw[h4];rfl⟩⟩
structure a1l(n:F4):Prop where
 name:Sz n.Name.size
 val:OkD n.Val
structure e1p(x:a9c):Prop where
 kind:I64 x.Kind
 name:Sz x.Name.size
structure b9r(f:B3):Prop where
 num:I64 f.Num
 name:Sz f.Name.size
 card:I64 f.Card
 key:I64 f.Key
 type:e1p f.Type_
 union:Sz f.Union.size
 dflt:OkD f.Default
 nn:Sz f.Notes.length
 notes:∀x∈f.Notes,a1l x
structure c29(x:Y0):Prop where
 from_:I64 x.From
 to_:I64 x.To
structure b2g(m:B2):Prop where
 name:Sz m.Name.size
 nf:Sz m.Fields.length
 fields:∀x∈m.Fields,b9r x
 nr:Sz m.Reserved.length
 reserved:∀x∈m.Reserved,c29 x
 ng:Sz m.Gone.length
 gone:∀x∈m.Gone,Sz x.size
 nn:Sz m.Notes.length
 notes:∀x∈m.Notes,a1l x
structure d25(x:b4s):Prop where
 name:Sz x.Name.size
 num:I64 x.Num
 nn:Sz x.Notes.length
 notes:∀n∈x.Notes,a1l n
structure b5x(e:a10):Prop where
 name:Sz e.Name.size
 ni:Sz e.Items.length
 items:∀x∈e.Items,d25 x
 nr:Sz e.Reserved.length
 reserved:∀x∈e.Reserved,c29 x
 nn:Sz e.Notes.length
 notes:∀x∈e.Notes,a1l x
structure d22(x:D8):Prop where
 name:Sz x.Name.size
 in_:Sz x.In.size
 out_:Sz x.Out.size
 shape:I64 x.Shape
 nn:Sz x.Notes.length
 notes:∀n∈x.Notes,a1l n
structure b1j(x:C7):Prop where
 name:Sz x.Name.size
 nm:Sz x.Methods.length
 meths:∀n∈x.Methods,d22 n
 nn:Sz x.Notes.length
 notes:∀n∈x.Notes,a1l n
structure a6u(s:A3):Prop where
 nm:Sz s.Messages.length
 msgs:∀x∈s.Messages,b2g x
 ne:Sz s.Enums.length
 enums:∀x∈s.Enums,b5x x
 ns:Sz s.Services.length
 servs:∀x∈s.Services,b1j x
section
variable {n:Nat}{avs:List AV}{av:AV}
theorem b20(h:Ty Tryz.prog n 154 avs):∃x,avs=E9 x/\a1l x:=by
 obtain⟨m,rfl,a1,b1,rfl,h1,a2,b2,rfl,h2,rfl⟩:=a9r (ts:=[9,54]) (by kernel_rfl) h;obtain⟨x1,rfl,k1⟩:=Z0 (by kernel_rfl) h1;obtain⟨x2,rfl,k2⟩:=c61 _ _ h2;exact⟨⟨x1,x2⟩,by rw[L4];rfl,⟨k1,k2⟩⟩
theorem h0d(h:Ty Tryz.prog n 86 avs):∃x,avs=a9l x/\e1p x:=by
 obtain⟨m,rfl,a1,b1,rfl,h1,a2,b2,rfl,h2,rfl⟩:=a9r (ts:=[3,9]) (by kernel_rfl) h;obtain⟨x1,rfl,k1⟩:=a6t (by kernel_rfl) h1;obtain⟨x2,rfl,k2⟩:=Z0 (by kernel_rfl) h2;exact⟨⟨x1,x2⟩,rfl,⟨k1,k2⟩⟩
theorem d4w(h:Ty Tryz.prog n 88 avs):∃x,avs=C2 x/\b9r x:=by
 obtain⟨m,rfl,a1,b1,rfl,h1,a2,b2,rfl,h2,a3,b3,rfl,h3,a4,b4,rfl,h4,a5,b5,rfl,h5,a6,b6,rfl,h6,a7,b7,rfl,h7,a8,b8,rfl,h8,a9,b9,rfl,h9,rfl⟩:=a9r (ts:=[3,9,3,3,86,9,4,54,80]) (by kernel_rfl) h;obtain⟨x1,rfl,k1⟩:=a6t (by kernel_rfl) h1;obtain⟨x2,rfl,k2⟩:=Z0 (by kernel_rfl) h2;obtain⟨x3,rfl,k3⟩:=a6t (by kernel_rfl) h3;obtain⟨x4,rfl,k4⟩:=a6t (by kernel_rfl) h4;obtain⟨x5,rfl,k5⟩:=h0d h5;obtain⟨x6,rfl,k6⟩:=Z0 (by kernel_rfl) h6;obtain⟨x7,rfl⟩:=d2w (by kernel_rfl) h7;obtain⟨x8,rfl,k8⟩:=c61 _ _ h8;obtain⟨x9,rfl,n9,k9⟩:=b0u (e:=154) (enc:=E9) (Ok:=a1l) (by kernel_rfl) (of_decide_eq_true (by kernel_rfl)) (fun k a hk ha=>b20 ha) h9;exact⟨⟨x1,x2,x3,x4,x5,x6,x7,x8,x9⟩,by rw[L4];rfl,⟨k1,k2,k3,k4,k5,k6,k8,n9,k9⟩⟩
theorem d29(h:Ty Tryz.prog n 283 avs):∃x,avs=S6 x/\c29 x:=by
 obtain⟨m,rfl,a1,b1,rfl,h1,a2,b2,rfl,h2,rfl⟩:=a9r (ts:=[3,3]) (by kernel_rfl) h;obtain⟨x1,rfl,k1⟩:=a6t (by kernel_rfl) h1;obtain⟨x2,rfl,k2⟩:=a6t (by kernel_rfl) h2;exact⟨⟨x1,x2⟩,rfl,⟨k1,k2⟩⟩
theorem l3i(h:Ty Tryz.prog n 82 avs):∃x,avs=C4 x/\b2g x:=by
 obtain⟨m,rfl,a1,b1,rfl,h1,a2,b2,rfl,h2,a3,b3,rfl,h3,a4,b4,rfl,h4,a5,b5,rfl,h5,rfl⟩:=a9r (ts:=[9,77,78,79,80]) (by kernel_rfl) h;obtain⟨x1,rfl,k1⟩:=Z0 (by kernel_rfl) h1;obtain⟨x2,rfl,n2,k2⟩:=b0u (e:=88) (enc:=C2) (Ok:=b9r) (by kernel_rfl) (of_decide_eq_true (by kernel_rfl)) (fun k a hk ha=>d4w ha) h2;obtain⟨x3,rfl,n3,k3⟩:=b0u (e:=283) (enc:=S6) (Ok:=c29) (by kernel_rfl) (of_decide_eq_true (by kernel_rfl)) (fun k a hk ha=>d29 ha) h3;obtain⟨x4,rfl,n4,k4⟩:=b0u (e:=9) (enc:=L9) (Ok:=fun x=>Sz x.size) (by kernel_rfl) (of_decide_eq_true (by kernel_rfl)) (fun k a hk ha=>Z0 (by kernel_rfl) ha) h4;obtain⟨x5,rfl,n5,k5⟩:=b0u (e:=154) (enc:=E9) (Ok:=a1l) (by kernel_rfl) (of_decide_eq_true (by kernel_rfl)) (fun k a hk ha=>b20 ha) h5;exact⟨⟨x1,x2,x3,x4,x5⟩,rfl,⟨k1,n2,k2,n3,k3,n4,k4,n5,k5⟩⟩
theorem f2j(h:Ty Tryz.prog n 93 avs):∃x,avs=a5n x/\d25 x:=by
 obtain⟨m,rfl,a1,b1,rfl,h1,a2,b2,rfl,h2,a3,b3,rfl,h3,rfl⟩:=a9r (ts:=[9,3,80]) (by kernel_rfl) h;obtain⟨x1,rfl,k1⟩:=Z0 (by kernel_rfl) h1;obtain⟨x2,rfl,k2⟩:=a6t (by kernel_rfl) h2;obtain⟨x3,rfl,n3,k3⟩:=b0u (e:=154) (enc:=E9) (Ok:=a1l) (by kernel_rfl) (of_decide_eq_true (by kernel_rfl)) (fun k a hk ha=>b20 ha) h3;exact⟨⟨x1,x2,x3⟩,rfl,⟨k1,k2,n3,k3⟩⟩
theorem g3m(h:Ty Tryz.prog n 91 avs):∃x,avs=a0x x/\b5x x:=by
 obtain⟨m,rfl,a1,b1,rfl,h1,a2,b2,rfl,h2,a3,b3,rfl,h3,a4,b4,rfl,h4,a5,b5,rfl,h5,rfl⟩:=a9r (ts:=[9,4,89,78,80]) (by kernel_rfl) h;obtain⟨x1,rfl,k1⟩:=Z0 (by kernel_rfl) h1;obtain⟨x2,rfl⟩:=d2w (by kernel_rfl) h2;obtain⟨x3,rfl,n3,k3⟩:=b0u (e:=93) (enc:=a5n) (Ok:=d25) (by kernel_rfl) (of_decide_eq_true (by kernel_rfl)) (fun k a hk ha=>f2j ha) h3;obtain⟨x4,rfl,n4,k4⟩:=b0u (e:=283) (enc:=S6) (Ok:=c29) (by kernel_rfl) (of_decide_eq_true (by kernel_rfl)) (fun k a hk ha=>d29 ha) h4;obtain⟨x5,rfl,n5,k5⟩:=b0u (e:=154) (enc:=E9) (Ok:=a1l) (by kernel_rfl) (of_decide_eq_true (by kernel_rfl)) (fun k a hk ha=>b20 ha) h5;exact⟨⟨x1,x2,x3,x4,x5⟩,rfl,⟨k1,n3,k3,n4,k4,n5,k5⟩⟩
theorem e5x(h:Ty Tryz.prog n 98 avs):∃x,avs=H6 x/\d22 x:=by
 obtain⟨m,rfl,a1,b1,rfl,h1,a2,b2,rfl,h2,a3,b3,rfl,h3,a4,b4,rfl,h4,a5,b5,rfl,h5,rfl⟩:=a9r (ts:=[9,9,9,3,80]) (by kernel_rfl) h;obtain⟨x1,rfl,k1⟩:=Z0 (by kernel_rfl) h1;obtain⟨x2,rfl,k2⟩:=Z0 (by kernel_rfl) h2;obtain⟨x3,rfl,k3⟩:=Z0 (by kernel_rfl) h3;obtain⟨x4,rfl,k4⟩:=a6t (by kernel_rfl) h4;obtain⟨x5,rfl,n5,k5⟩:=b0u (e:=154) (enc:=E9) (Ok:=a1l) (by kernel_rfl) (of_decide_eq_true (by kernel_rfl)) (fun k a hk ha=>b20 ha) h5;exact⟨⟨x1,x2,x3,x4,x5⟩,rfl,⟨k1,k2,k3,k4,n5,k5⟩⟩
theorem f8x(h:Ty Tryz.prog n 96 avs):∃x,avs=E0 x/\b1j x:=by
 obtain⟨m,rfl,a1,b1,rfl,h1,a2,b2,rfl,h2,a3,b3,rfl,h3,rfl⟩:=a9r (ts:=[9,94,80]) (by kernel_rfl) h;obtain⟨x1,rfl,k1⟩:=Z0 (by kernel_rfl) h1;obtain⟨x2,rfl,n2,k2⟩:=b0u (e:=98) (enc:=H6) (Ok:=d22) (by kernel_rfl) (of_decide_eq_true (by kernel_rfl)) (fun k a hk ha=>e5x ha) h2;obtain⟨x3,rfl,n3,k3⟩:=b0u (e:=154) (enc:=E9) (Ok:=a1l) (by kernel_rfl) (of_decide_eq_true (by kernel_rfl)) (fun k a hk ha=>b20 ha) h3;exact⟨⟨x1,x2,x3⟩,rfl,⟨k1,n2,k2,n3,k3⟩⟩
theorem k2o(h:Ty Tryz.prog n 26 avs):∃x,avs=A6 x/\a6u x:=by
 obtain⟨m,rfl,a1,b1,rfl,h1,a2,b2,rfl,h2,a3,b3,rfl,h3,rfl⟩:=a9r (ts:=[22,23,24]) (by kernel_rfl) h;obtain⟨x1,rfl,n1,k1⟩:=b0u (e:=82) (enc:=C4) (Ok:=b2g) (by kernel_rfl) (of_decide_eq_true (by kernel_rfl)) (fun k a hk ha=>l3i ha) h1;obtain⟨x2,rfl,n2,k2⟩:=b0u (e:=91) (enc:=a0x) (Ok:=b5x) (by kernel_rfl) (of_decide_eq_true (by kernel_rfl)) (fun k a hk ha=>g3m ha) h2;obtain⟨x3,rfl,n3,k3⟩:=b0u (e:=96) (enc:=E0) (Ok:=b1j) (by kernel_rfl) (of_decide_eq_true (by kernel_rfl)) (fun k a hk ha=>f8x ha) h3;exact⟨⟨x1,x2,x3⟩,rfl,⟨n1,k1,n2,k2,n3,k3⟩⟩
theorem n93(h:TyV Tryz.prog n 26 av):∃x,av=.agg (A6 x)/\a6u x:=by
 obtain⟨avs,rfl,g⟩:=k2w (ts:=[22,23,24]) (by kernel_rfl) h;obtain⟨x,rfl,k⟩:=k2o g;exact⟨x,rfl,k⟩
end
def OkR(x:B5):Prop:=True
theorem d7h{n:Nat}{avs:List AV}(h:Ty Tryz.prog n 41 avs):∃x:B5,avs=C1 x/\OkR x:=by
 have hu:Tryz.prog.underlying 9=some .string:=by kernel_rfl
 obtain⟨m,_,a,r,rfl,ha,b,r,rfl,hb,c,r,rfl,hc,d,r,rfl,hd,e,r,rfl,he,rfl⟩:=a9r (ts:=[9,9,9,9,9]) (by kernel_rfl) h;obtain⟨a,rfl,_⟩:=Z0 hu ha;obtain⟨b,rfl,_⟩:=Z0 hu hb;obtain⟨c,rfl,_⟩:=Z0 hu hc;obtain⟨d,rfl,_⟩:=Z0 hu hd;obtain⟨e,rfl,_⟩:=Z0 hu he;exact⟨⟨a,b,c,d,e⟩,rfl,trivial⟩
section
variable {n:Nat}{av:AV}
theorem m76(h:TyV Tryz.prog n 27 av):∃x:List B5,av=.sl (x.map C1) .no/\Sz x.length:=by
 have hu:Tryz.prog.underlying 27=some (.slice 41):=by kernel_rfl
 unfold TyV at h;rw[hu]at h;obtain⟨l,e,h1,h2⟩:=b81 (w:=80) (e:=41) (enc:=C1) (Ok:=OkR) hu (by kernel_rfl) (of_decide_eq_true (by kernel_rfl)) (fun k a hk ha=>d7h ha) h;exact⟨l,by simpa using e,h1.1⟩
end
theorem c0j{P:Program}{w:World}{fuel:Nat}{t e:TypeId}{n:Nat}{cs:List Value}{ss:List (List UInt8)}{p:List MemPlace}(ht:P.underlying t=some (.array n e))(he:P.underlying e=some .string)(hc:P.cellsOf e=1)
  (h:DataW.trod (fun _=>()) P w 0 (fun _=>true) false fuel t cs=some (.agg (ss.map fun s=>.lit (.string s)),p)) (i:Nat) (hi:i<n) (s:List UInt8) (hs:ss[i]? =some s):cs[i]? =some (.string ⟨s.toArray⟩):=by
 obtain⟨fuel',d,q,hd,h1⟩:=Lib.array_elem ht h i hi;simp only[List.getElem?_map,hs,Option.map_some,Option.some.injEq]at hd;subst hd;rw[hc]at h1;obtain⟨x,h2,h3,_⟩:=DataW.trod_string he h1
 have h4:x.data.toList=s:=by
  have:=congrArg Prod.fst h3;simpa using this.symm
 have h5:=congrArg (·[0]?) h2;simp only[List.getElem?_take,List.getElem?_drop]at h5;subst h4;simpa using h5
def c6j:List (List UInt8):=[[111,107],[99,97,110,99,101,108,108,101,100],[105,110,118,97,108,105,100],[100,101,97,100,108,105,110,101],[110,111,116,95,102,111,117,110,100],[101,120,105,115,116,115],[100,101,110,105,101,100],[101,120,104,97,117,115,116,101,100],[102,97,105,108,101,100],[97,98,111,114,116,101,100],[117,110,105,109,112,108,101,109,101,110,116,101,100],[105,110,116,101,114,110,97,108],[117,110,97,118,97,105,108,97,98,108,101],[100,97,116,97,95,108,111,115,115]]
theorem e3u{w:World}{g:Nat}{cells:List AV}(xs:Nat->Value)(h:∀(i:Nat) (av:AV),cells[i]? =some av->w.cell? ⟨g,i,none⟩=some (xs i)/\av=.v (xs i)/\e3j (xs i)=true):Rel (bare w a0e) (.elt cells 0) (.pointer (some ⟨g,0,none⟩)):=by
 refine .elt cells 0 g 0 xs (fun i av hi=>?_) (fun i av hi=>?_)
 ·obtain⟨h1,rfl,h3⟩:=h i av hi;exact⟨by rw[Nat.zero_add];exact h1,fun q=>q.elim (fun x=>x.elim) (fun x=>a8f _ _ _ _ x),rfl⟩
 ·obtain⟨h1,rfl,h3⟩:=h i av hi;exact .v _ h3
theorem d7n{w:World}{m:Int}(hm:w.cell? ⟨2,0,none⟩=some (.int .i64 m))(hn:Lib.VarReads Tryz.prog w "wireschema/status.names" (.agg (c6j.map fun s=>.lit (.string s)))):b79 w a0e (GLm m):=by
 intro g cells hg;rcases List.mem_cons.1 hg with e|hg
 ·cases e;refine e3u (fun _=>.int .i64 m) fun i av hi=>?_
  cases i with
  |zero=>simp at hi;subst hi;exact⟨hm,rfl,rfl⟩
  |succ i=>simp at hi
 ·rcases List.mem_cons.1 hg with e|hg
  ·have e2:cells=c6j.map fun s=>.v (.string ⟨s.toArray⟩):=by cases e;rfl
   obtain rfl:g=1:=by cases e;rfl
   subst e2;obtain⟨g,t,cs,fuel,p,h1,h2,h3,h4⟩:=hn;have g1:Tryz.prog.globalNamed "wireschema/status.names"=some 1:=by kernel_rfl
   obtain rfl:=Option.some.inj (g1.symm.trans h1);have g2:(Tryz.prog.globals[1]?).map (·.type)=some 277:=by kernel_rfl
   obtain rfl:=Option.some.inj (g2.symm.trans h2);refine e3u (fun i=>.string ⟨(c6j.getD i []).toArray⟩) fun i av hi=>?_
   rw[List.getElem?_map]at hi;obtain⟨s,hs,rfl⟩:=Option.map_eq_some_iff.1 hi;have hd:c6j.getD i []=s:=by rw[List.getD_eq_getElem?_getD,hs];rfl
   have hlt:i<14:=by
    have:=(List.getElem?_eq_some_iff.1 hs).1;exact this
   have:=c0j (t:=277) (e:=9) (n:=14) (by kernel_rfl) (by kernel_rfl) (by kernel_rfl) h4 i hlt s hs;refine⟨?_,by rw[hd],rfl⟩;rw[World.var?_cell g1 h3 i,<-Array.getElem?_toList,hd];exact this
  ·cases hg
theorem b9s{P:Program}{f:FuncId}{args:List AV}{cargs:Array Value}{W:World}{gl:List (Nat × List AV)}(hg:b79 W a0e gl)(hf:C6 P gl f args (.v (.bool true)))(hr:b39 (bare W a0e) args cargs.toList):
  Calls P f cargs W fun e W'=>e=.returned (.bool true)/\Below W.heap.size W W':=by
 refine(hf.2 W a0e cargs (fun b o h=>h.elim) hg hr).mono fun e W' ⟨av,x,he,hp,hrel,hav⟩=>?_
 rw[g6r hav]at hrel;cases hrel with
 |v _ _=>exact⟨he,hp.below⟩
theorem b66{a b:ByteArray}(h:a.data.toList=b.data.toList):a=b:=by
 cases a;cases b
 congr 1
 exact Array.toList_inj.1 h
theorem c76(a b:List UInt8):F1 a++F1 b=F1 (a++b):=b66 (by
 rw[ByteArray.data_append,Array.toList_append];rfl)
theorem a3t(s:ByteArray)(p:Nat)(h:p<s.size):D0 s p=(s[p].toNat:Int):=by
 unfold D0;have h':p<s.data.toList.length:=by simpa using h
 rw[List.getD_eq_getElem?_getD,List.getElem?_eq_getElem h'];rfl
theorem f9q(s:ByteArray)(p:Nat)(h:p<s.size):s.extract p (p+1)=F1 [s[p]]:=b66 (by
 rw[Lib.extract_data,P6 s p h,Nat.add_sub_cancel_left];rfl)
theorem a4y{n:Int}(h: -9223372036854775808<=n/\n<=9223372036854775807):wI n=n:=c2j h
section
open Go.RowKit Lift
def b3x:List UInt8->List (List UInt8)
 |[]=>[[]]
 |c::r=>if c=47 then []::b3x r else match b3x r with
  |[]=>[[c]]
  |h::t=>(c::h)::t
theorem c3x:∀l,b3x l≠[]
 |[]=>by simp[b3x]
 |c::r=>by
  unfold b3x;split
  ·simp
  ·split<;>simp
def b8b(x:List UInt8):List (List UInt8)->List (List UInt8)
 |[]=>[x]
 |h::t=>(x++h)::t
theorem c8w(x r:List UInt8):b8b x (b3x (47::r))=x::b8b [] (b3x r):=by
 have h:b3x (47::r)=[]::b3x r:=by rw[b3x,if_pos rfl]
 rw[h,b8b,List.append_nil];cases hs:b3x r with
 |nil=>exact absurd hs (c3x r)
 |cons a b=>rw[b8b,List.nil_append]
theorem d1k(x:List UInt8)(c:UInt8)(r:List UInt8)(hc:c≠47):b8b x (b3x (c::r))=b8b (x++[c]) (b3x r):=by
 rw[b3x,if_neg hc];cases hs:b3x r with
 |nil=>exact absurd hs (c3x r)
 |cons a b=>simp[b8b]
theorem d31(x:List UInt8):b8b x (b3x [])=[x]:=by simp[b3x,b8b]
theorem d6t(r:List UInt8):b8b [] (b3x r)=b3x r:=by
 cases hs:b3x r with
 |nil=>exact absurd hs (c3x r)
 |cons a b=>rw[b8b,List.nil_append]
def e0v(l:List UInt8):Value:=.string (F1 l)
def d8b(B:Nat)(v:Value)(n:Nat)(l:List (List UInt8))(w:World):Prop:=∃g cap cur,v=.slice (some ⟨g,0,none⟩) n cap/\B<=g/\w.heap[g]? =some (.cells cur 9 (0,0))/\n<=cap/\cap<=maxLen/\cur.size=cap*1/\cur.toList.take (n*1)=l.map e0v/\l.length=n
theorem d8b.row{B:Nat}{v:Value}{n:Nat}{l:List (List UInt8)}{w:World}(h:d8b B v n l w):w.ownsRow B 9 1 v n (l.map e0v):=by
 obtain⟨g,cap,cur,h1,h2,h3,h4,h5,h6,h7,h8⟩:=h;exact⟨by simp[h8],.inr ⟨g,cap,cur,h1,h2,h3,h4,h5,h6,h7⟩⟩
theorem d8b.of{B:Nat}{v:Value}{n:Nat}{l:List (List UInt8)}{w:World}(h:w.ownsRow B 9 1 v n (l.map e0v))(hn:1<=n):d8b B v n l w:=by
 obtain⟨h0,h⟩:=h;rcases h with⟨_,h⟩|⟨g,cap,cur,h1,h2,h3,h4,h5,h6,h7⟩
 ·omega
 ·exact⟨g,cap,cur,h1,h2,h3,h4,h5,h6,h7,by simpa using h0⟩
theorem d8b.lit(B:Nat)(w:World)(hB:B<=w.heap.size):d8b B (.slice (some ⟨w.heap.size,0,none⟩) 1 1) 1 [[]] (w.alloc (.cells #[.string ⟨#[]⟩] 9)):=
 ⟨w.heap.size,1,_,rfl,hB,heap_alloc_new w _,Nat.le_refl _,by decide,rfl,rfl,rfl⟩
theorem d8b.put{B ga cap:Nat}{cur:Array Value}{l:List (List UInt8)}{x y:List UInt8}{w:World}(g2:B<=ga)(g3:w.heap[ga]? =some (.cells cur 9 (0,0)))(g4:l.length+1<=cap)(g5:cap<=maxLen)(g6:cur.size=cap*1)(g7:cur.toList.take ((l.length+1)*1)=(l++[x]).map e0v)(g8:(l++[x]).length=l.length+1):
  d8b B (.slice (some ⟨ga,0,none⟩) (l.length+1) cap) (l.length+1) (l++[y]) (w.setCell ⟨ga,l.length,none⟩ (.string (F1 y))).drew:=by
 refine⟨ga,cap,cur.setIfInBounds l.length (.string (F1 y)),rfl,g2,?_,g4,g5,by simpa using g6,?_,by simp⟩
 ·show(w.setCell ⟨ga,l.length,none⟩ (.string (F1 y))).heap[ga]? =_;simp[World.setCell,Array.getElem?_modify,g3]
 ·apply List.ext_getElem?;intro i;have h:=congrArg (·[i]?) g7;simp only[List.getElem?_take,List.getElem?_map,Nat.mul_one]at h ⊢;rw[Array.toList_setIfInBounds,List.getElem?_set]
  by_cases hi:i<l.length+1
  ·rw[if_pos hi]at h ⊢
   by_cases hil:l.length=i
   ·subst hil;rw[if_pos rfl];have:l.length<cur.toList.length:=by simp;omega
    simp[e0v];omega
   ·rw[if_neg hil,h,List.getElem?_append_left (by omega),List.getElem?_append_left (by omega)]
  ·rw[if_neg hi,List.getElem?_eq_none (by simp;omega)];rfl
end
section
open Go.RowKit Lift
def a5g(s:ByteArray):List ByteArray × Bool:=if(1<=s.size/\D0 s 0=47) then((b3x (s.data.toList.drop 1)).map F1,true) else([],false)
theorem d67{w:World}{outer:Nat->Nat->Prop}{B:Nat}{v:Value}{n:Nat}{l:List (List UInt8)}(ho:∀b o,outer b o->b<B)(h:d8b B v n l w):Rel (bare w outer) (.sl ((l.map F1).map L9) .no) v:=by
 obtain⟨g,cap,cur,rfl,h2,h3,h4,h5,h6,h7,rfl⟩:=h
 have hcell:∀i x,l[i]? =some x->w.cell? ⟨g,i,none⟩=some (e0v x):=fun i x hx=>by
  rw[Lib.cell_of_heap h3,<-Array.getElem?_toList];have h8:=congrArg (·[i]?) h7;simp only[List.getElem?_take,List.getElem?_map,hx,Option.map_some,Nat.mul_one]at h8;rw[if_pos (List.getElem?_eq_some_iff.1 hx).1]at h8;exact h8
 have hels:∀(i:Nat) (el:List AV),((l.map F1).map L9)[i]? =some el->∃x,l[i]? =some x/\el=[.v (e0v x)]:=fun i el he=>by
  simp only[List.getElem?_map,Option.map_eq_some_iff]at he;obtain⟨y,⟨x,hx,rfl⟩,rfl⟩:=he;exact⟨x,hx,rfl⟩
 have hlen:((l.map F1).map L9).length=l.length:=by simp
 have:=Rel.sl (σ:=bare w outer) ((l.map F1).map L9) .no g 0 cap 1 (fun i _=>e0v (l.getD i [])) (fun i el he=>by obtain⟨x,_,rfl⟩:=hels i el he;rfl) (by rw[hlen];exact h4) trivial (fun id e h=>by cases h)
  (fun i el he j av hj=>by
   obtain⟨x,hx,rfl⟩:=hels i el he;cases j with
   |zero=>
    simp at hj;subst hj;have hd:l.getD i []=x:=by rw[List.getD_eq_getElem?_getD,hx];rfl
    refine⟨by simp only[hd];rw[show 0+i*1+0=i by omega];exact hcell i x hx,fun q=>q.elim (fun x=>?_) (fun x=>a8f _ _ _ _ x),rfl⟩;have:=ho _ _ x;omega
   |succ j=>simp at hj)
  (fun i el he j av hj=>by
   obtain⟨x,hx,rfl⟩:=hels i el he;cases j with
   |zero=>
    simp at hj;subst hj;have hd:l.getD i []=x:=by rw[List.getD_eq_getElem?_getD,hx];rfl
    simp only[hd];exact .v _ rfl
   |succ j=>simp at hj)
 rw[hlen]at this;exact this
end
end Go.Proofs.YtkhgohfaecbgkaaGreatDoor.Lift
