/- Part 6 of the texts that prove GatewayMatchesEnd. -/
import Derived.Test.YtkhgohfaecbgkaaGreatDoorGatewayMatchesEndP2
import Derived.Test.YtkhgohfaecbgkaaGreatDoorProg
import Derived.Test.YtkhgohfaecbgkaaGreatDoorGatewayMatchesEndP3
import Derived.Test.YtkhgohfaecbgkaaGreatDoorGatewayMatchesEndP4
import Derived.Lib.LaidU8
import Derived.Shelf.Vars
import Derived.Laws.AppendOwn
import Derived.Lib.DecodeN
import Derived.Lib.SplitLaws
import Derived.Test.YtkhgohfaecbgkaaGreatDoorRows
import Derived.WalkKit
import Derived.JoinedCond
import Derived.SevenTiedAt
namespace Go.Proofs.YtkhgohfaecbgkaaGreatDoor.Lift
open Go.RowKit
set_option linter.unusedVariables false
set_option linter.unusedSimpArgs false
set_option linter.unnecessarySimpa false
set_option linter.unusedSectionVars false
set_option maxRecDepth 100000
def r384_0 : LO := [o 4 (.alloc [aE, (aB false), .nil, .nil, .nil]), o 5 (mb false)]
def r384_1 : LO := [o 9 (mv 0), o 10 (.len false (T 9)), o 11 (mi 0)]
def r384_2 : LO := [o 12 (.bin .lss (T 11) (T 10))]
def r384_6 : LO := [o 13 (.idxSl 5 (T 9) (T 11)), o 14 (ln 5 13), o 7 (.alloc [aE, (aB false), .nil, .nil, .nil]), on (st 5 7 14)]
def r384_7 : LO := [o 15 (mv 1), o 16 (ln 5 7), o 17 (.call (T 15) [(T 16)])]
def r384_8 : LO := [o 18 (ln 5 7), on (st 5 4 18), o 5 (mb true)]
def k384_1 : ACode := .seq (.region r384_7) (.cond (T 17) (.seq (.region r384_8) .ret) .skip)
def r384_16 : LO := [o 19 (.bin .add (T 11) (ci 1)), o 11 (mv 19)]
def k384_2 : ACode := .seq (.block 1 (.seq (.region r384_6) k384_1)) (.region r384_16)
def k384_3 : ACode := .seq (.region r384_2) (.seq (.cond (T 12) .skip (.exit 0)) k384_2)
def r384_23 : LO := [o 8 (.alloc [aE, (aB false), .nil, .nil, .nil])]
def r384_24 : LO := [o 20 (ln 5 8), on (st 5 4 20), o 5 (mb false)]
def k384_4 : ACode := .seq (.seq (.region r384_1) (.block 0 (.loop k384_3))) (.seq (.region r384_23) (.seq (.region r384_24) .ret))
def k384_5 : ACode := .seq (.region r384_0) k384_4
theorem fn384 : getFn Tryz.prog 384 = some (21, k384_5, [.cell 4 (some 5), .tmp 5]) := by kernel_rfl
def r169_0 : LO := [o 3 (bx 1), o 4 (mb false)]
def r169_1 : LO := [o 5 (mv 0), o 6 (.func (.func 243) [] [(T 3)]), o 7 (.call (cf 242) [(T 5), (T 6)]), o 4 (mv 7)]
def k169_1 : ACode := .seq (.region r169_0) (.seq (.region r169_1) .ret)
theorem fn169 : getFn Tryz.prog 169 = some (8, k169_1, [.tmp 4]) := by kernel_rfl
def r243_0 : LO := [o 2 (bx 0), o 3 (mb false)]
def r243_1 : LO := [o 4 (ld 1), o 5 (fa 0 2), o 6 (ld 5), o 7 (.call (T 4) [(T 6)]), o 3 (mv 7)]
def k243_1 : ACode := .seq (.region r243_0) (.seq (.region r243_1) .ret)
theorem fn243 : getFn Tryz.prog 243 = some (8, k243_1, [.tmp 3]) := by kernel_rfl
def r168_0 : LO := [o 5 (bx 0), o 6 (bx 1), o 10 (mi 0)]
def r168_1 : LO := [o 16 (ln 5 6), o 17 (mv 2), o 18 (mv 3), o 19 (.idxSl 8 (T 17) (T 18)), o 20 (fa 0 19), o 21 (ld 20), o 22 (.call (cf 98) [(T 16), (T 21)]), o 15 (mv 22), o 23 (.extract 0 (T 15)), o 24 (.extract 1 (T 15)), o 11 (.alloc [(aI 0), aE, (aI 0), (aI 0), (aI 0), aE, aE, (aB false), (aI 0), (aU 0), aE, .nil, .nil, .nil, .nil, .nil]), on (st 16 11 23)]
def r168_1t : LO := [o 12 (mv 24)]
def r168_1o : LN := [[], [], [], [1, 2], [3], [4], [0, 5], [6], [7], [7], [], [0, 1, 2, 3, 4, 5, 6, 7, 8, 10]]
def r168_2 : LO := [o 25 (mv 12), o 26 (.un .not (T 25))]
def r168_3 : LO := [o 10 (mi 8)]
def k168_1 : ACode := .seq (.region r168_2) (.cond (T 26) (.seq (.region r168_3) .ret) .skip)
def r168_9 : LO := [o 27 (mv 2), o 28 (mv 3), o 29 (.sliceV 8 (T 27) none (some (T 28)) none), o 30 (.func (.func 238) [] [(T 11)]), o 31 (.call (cf 169) [(T 29), (T 30)])]
def r168_10 : LO := [o 10 (mi 9)]
def k168_2 : ACode := .seq (.region r168_9) (.cond (T 31) (.seq (.region r168_10) .ret) .skip)
def r168_16 : LO := [o 32 (ln 5 6), o 33 (fa 6 11), o 34 (ld 33), o 35 (.call (cf 239) [(T 32), (T 34)]), o 36 (.len false (T 35)), o 37 (mi 0)]
def r168_17 : LO := [o 38 (.bin .lss (T 37) (T 36))]
def r168_21 : LO := [o 39 (.idxSl 16 (T 35) (T 37)), o 40 (ln 16 39), o 14 (.alloc [(aI 0), aE, (aI 0), (aI 0), (aI 0), aE, aE, (aB false), (aI 0), (aU 0), aE, .nil, .nil, .nil, .nil, .nil]), on (st 16 14 40)]
def r168_22 : LO := [o 41 (fa 0 14), o 42 (ld 41), o 43 (fa 0 11), o 44 (ld 43), o 45 (.bin .neq (T 42) (T 44)), o 46 (mv 45), og 47 (mv 2) 46 true, og 48 (mv 3) 46 true, og 49 (.sliceV 8 (T 47) none (some (T 48)) none) 46 true, og 50 (.func (.func 240) [] [(T 14)]) 46 true, og 51 (.call (cf 169) [(T 49), (T 50)]) 46 true, o 52 (.pick (T 46) (T 51) (cb false))]
def r168_23 : LO := [o 10 (mi 15)]
def k168_3 : ACode := .seq (.region r168_22) (.cond (T 52) (.seq (.region r168_23) .ret) .skip)
def r168_31 : LO := [o 53 (.bin .add (T 37) (ci 1)), o 37 (mv 53)]
def k168_4 : ACode := .seq (.block 1 (.seq (.region r168_21) k168_3)) (.region r168_31)
def k168_5 : ACode := .seq (.region r168_17) (.seq (.cond (T 38) .skip (.exit 0)) k168_4)
def r168_38 : LO := [o 54 (ln 3 5), o 55 (ln 16 11), o 56 (mv 2), o 57 (mv 3), o 58 (.idxSl 8 (T 56) (T 57)), o 59 (fa 1 58), o 60 (ln 7 59), o 61 (mv 4)]
def r168_38t : LO := [o 62 (.call (cf 241) [(T 54), (T 55), (T 60), (T 61)]), o 10 (mv 62)]
def r168_38o : LN := [[], [], [], [], [2, 3], [4], [5], []]
def k168_6 : ACode := .seq (.seq (.region r168_16) (.block 0 (.loop k168_5))) (.seq (.drawn r168_38o r168_38 r168_38t) .ret)
def k168_7 : ACode := .seq (.drawn r168_1o r168_1 r168_1t) (.seq k168_1 (.seq k168_2 k168_6))
def k168_8 : ACode := .seq (.region r168_0) k168_7
theorem fn168 : getFn Tryz.prog 168 = some (63, k168_8, [.tmp 10]) := by kernel_rfl
def r241_0 : LO := [o 4 (bx 0), o 5 (bx 1), o 6 (bx 2), o 8 (mi 0)]
def r241_1 : LO := [o 12 (fa 2 5), o 13 (ld 12)]
def r241_2 : LO := [o 15 (.bin .eql (T 13) (ci 4)), o 14 (mv 15)]
def r241_3 : LO := [o 16 (fa 0 6), o 17 (ld 16), o 18 (.bin .neq (T 17) (ci 11)), o 19 (mv 18), og 20 (ln 7 6) 19 false, og 21 (.call (cf 167) [(T 20)]) 19 false, o 22 (.pick (T 19) (cb true) (T 21))]
def r241_4 : LO := [o 8 (mi 12)]
def k241_1 : ACode := .seq (.region r241_3) (.cond (T 22) (.seq (.region r241_4) .ret) .skip)
def r241_10 : LO := [o 23 (fa 3 6), o 24 (ld 23), o 25 (.len false (T 24)), o 26 (mi 0)]
def r241_11 : LO := [o 27 (.bin .lss (T 26) (T 25))]
def r241_15 : LO := [o 28 (.idxSl 7 (T 24) (T 26)), o 29 (ln 7 28), o 10 (.alloc zV), on (st 7 10 29)]
def r241_16 : LO := [o 30 (ln 3 4), o 31 (fa 4 5), o 32 (ln 2 31), o 33 (ln 7 10), o 34 (mv 3), o 35 (.call (cf 309) [(T 30), (T 32), (T 33), (T 34)]), o 11 (mv 35)]
def r241_17 : LO := [o 36 (mv 11), o 37 (.bin .neq (T 36) (ci 0))]
def r241_18 : LO := [o 38 (mv 11), o 8 (mv 38)]
def k241_2 : ACode := .seq (.region r241_17) (.cond (T 37) (.seq (.region r241_18) .ret) .skip)
def k241_3 : ACode := .block 2 (.seq (.region r241_15) (.seq (.region r241_16) k241_2))
def r241_27 : LO := [o 39 (.bin .add (T 26) (ci 1)), o 26 (mv 39)]
def k241_4 : ACode := .seq (.cond (T 27) .skip (.exit 1)) (.seq k241_3 (.region r241_27))
def k241_5 : ACode := .seq (.region r241_11) k241_4
def r241_34 : LO := [o 8 (mi 0)]
def k241_6 : ACode := .seq (.seq (.region r241_10) (.block 1 (.loop k241_5))) (.seq (.region r241_34) .ret)
def r241_39 : LO := [o 41 (.bin .eql (T 13) (ci 5)), o 40 (mv 41)]
def r241_40 : LO := [o 42 (fa 0 6), o 43 (ld 42), o 44 (.bin .neq (T 43) (ci 12)), o 45 (mv 44), og 46 (ln 7 6) 45 false, og 47 (.call (cf 167) [(T 46)]) 45 false, o 48 (.pick (T 45) (cb true) (T 47))]
def r241_41 : LO := [o 8 (mi 12)]
def k241_7 : ACode := .seq (.region r241_40) (.cond (T 48) (.seq (.region r241_41) .ret) .skip)
def r241_47 : LO := [o 49 (ln 3 4), o 50 (ln 16 5), o 51 (fa 4 6), o 52 (ld 51), o 53 (mv 3), o 54 (.call (cf 310) [(T 49), (T 50), (T 52), (T 53)]), o 8 (mv 54)]
def k241_8 : ACode := .cond (T 40) (.seq k241_7 (.seq (.region r241_47) .ret)) .skip
def k241_9 : ACode := .cond (T 14) (.seq k241_1 k241_6) (.seq (.region r241_39) k241_8)
def k241_10 : ACode := .seq (.region r241_1) (.block 0 (.seq (.region r241_2) k241_9))
def r241_58 : LO := [o 55 (ln 3 4), o 56 (fa 4 5), o 57 (ln 2 56), o 58 (ln 7 6), o 59 (mv 3), o 60 (.call (cf 309) [(T 55), (T 57), (T 58), (T 59)]), o 8 (mv 60)]
def k241_11 : ACode := .seq (.region r241_0) (.seq k241_10 (.seq (.region r241_58) .ret))
theorem fn241 : getFn Tryz.prog 241 = some (61, k241_11, [.tmp 8]) := by kernel_rfl
def r381_0 : LO := [o 3 (bx 0), o 4 (bx 1), o 5 (bx 2), o 6 (mi 0)]
def r381_1 : LO := [o 10 (fa 0 5), o 11 (ld 10), o 12 (fa 0 4), o 13 (ld 12), o 14 (.bin .neq (T 11) (T 13)), o 15 (mv 14), og 16 (ln 7 5) 15 false, og 17 (.call (cf 167) [(T 16)]) 15 false, o 18 (.pick (T 15) (cb true) (T 17)), o 9 (mv 18)]
def r381_2 : LO := [o 6 (mi 12)]
def r381_5 : LO := [o 20 (fa 2 5), o 21 (ld 20), o 22 (.len true (T 21)), o 23 (.bin .gtr (T 22) (ci 4096)), o 19 (mv 23)]
def r381_6 : LO := [o 6 (mi 3)]
def r381_9 : LO := [o 25 (fa 0 4), o 26 (ld 25), o 27 (.bin .eql (T 26) (ci 7)), o 28 (mv 27), og 29 (fa 2 5) 28 true, og 30 (ld 29) 28 true, og 31 (.call (cf 337) [(T 30)]) 28 true, og 32 (.un .not (T 31)) 28 true, o 33 (.pick (T 28) (T 32) (cb false)), o 24 (mv 33)]
def r381_10 : LO := [o 6 (mi 7)]
def r381_13 : LO := [o 35 (fa 0 4), o 36 (ld 35), o 37 (ln 7 5), o 38 (.call (cf 328) [(T 36), (T 37)]), o 39 (.un .not (T 38)), o 34 (mv 39)]
def r381_14 : LO := [o 6 (mi 12)]
def k381_1 : ACode := .seq (.region r381_13) (.cond (T 34) (.seq (.region r381_14) .ret) .skip)
def k381_2 : ACode := .seq (.region r381_9) (.cond (T 24) (.seq (.region r381_10) .ret) k381_1)
def k381_3 : ACode := .seq (.region r381_5) (.cond (T 19) (.seq (.region r381_6) .ret) k381_2)
def k381_4 : ACode := .seq (.region r381_1) (.cond (T 9) (.seq (.region r381_2) .ret) k381_3)
def r381_27 : LO := [o 41 (ln 3 3), o 42 (fa 1 4), o 43 (ld 42), o 44 (.call (cf 312) [(T 41), (T 43)]), o 40 (mv 44), o 45 (.extract 0 (T 40)), o 46 (.extract 1 (T 40)), o 7 (.alloc [aE, (aB false), .nil, .nil, .nil]), on (st 5 7 45), o 8 (mv 46)]
def r381_28 : LO := [o 47 (fa 0 4), o 48 (ld 47), o 49 (.bin .eql (T 48) (ci 9)), o 50 (mv 49), og 51 (ln 5 7) 50 true, og 52 (fa 1 5) 50 true, og 53 (ld 52) 50 true, og 54 (.call (cf 313) [(T 51), (T 53)]) 50 true, og 55 (.un .not (T 54)) 50 true, o 56 (.pick (T 50) (T 55) (cb false))]
def r381_29 : LO := [o 6 (mi 16)]
def k381_5 : ACode := .seq (.region r381_28) (.cond (T 56) (.seq (.region r381_29) .ret) .skip)
def r381_36 : LO := [o 6 (mi 0)]
def k381_6 : ACode := .seq (.seq (.region r381_27) k381_5) (.seq (.region r381_36) .ret)
def k381_7 : ACode := .seq (.region r381_0) (.seq (.block 0 k381_4) k381_6)
theorem fn381 : getFn Tryz.prog 381 = some (57, k381_7, [.tmp 6]) := by kernel_rfl
def r167_0 : LO := [o 1 (bx 0), o 2 (mb false)]
def r167_1 : LO := [o 4 (fa 0 1), o 5 (ld 4), o 6 (.bin .eql (T 5) (ci 7)), o 7 (mv 6), og 8 (fa 0 1) 7 false, og 9 (ld 8) 7 false, og 10 (.bin .eql (T 9) (ci 8)) 7 false, o 11 (.pick (T 7) (cb true) (T 10)), o 3 (mv 11)]
def r167_2 : LO := [o 12 (fa 0 1), o 13 (ld 12), o 14 (.bin .neq (T 13) (ci 11)), o 15 (mv 14), og 16 (fa 3 1) 15 true, og 17 (ld 16) 15 true, og 18 (.len false (T 17)) 15 true, og 19 (.bin .gtr (T 18) (ci 0)) 15 true, o 20 (.pick (T 15) (T 19) (cb false)), o 21 (mv 20), og 22 (fa 0 1) 21 false, og 23 (ld 22) 21 false, og 24 (.bin .neq (T 23) (ci 12)) 21 false, og 25 (mv 24) 21 false, og 26 (fa 4 1) 25 true, og 27 (ld 26) 25 true, og 28 (.len false (T 27)) 25 true, og 29 (.bin .gtr (T 28) (ci 0)) 25 true, og 30 (.pick (T 25) (T 29) (cb false)) 21 false, o 31 (.pick (T 21) (cb true) (T 30)), o 32 (mv 31), og 33 (fa 0 1) 32 false, og 34 (ld 33) 32 false, og 35 (.bin .neq (T 34) (ci 10)) 32 false, og 36 (mv 35) 32 false, og 37 (fa 5 1) 36 true, og 38 (ld 37) 36 true, og 39 (.len false (T 38)) 36 true, og 40 (fa 6 1) 36 true, og 41 (ld 40) 36 true, og 42 (.len false (T 41)) 36 true, og 43 (.bin .add (T 39) (T 42)) 36 true, og 44 (.bin .gtr (T 43) (ci 0)) 36 true, og 45 (.pick (T 36) (T 44) (cb false)) 32 false, o 46 (.pick (T 32) (cb true) (T 45)), o 47 (mv 46), og 48 (fa 1 1) 47 false, og 49 (ld 48) 47 false, og 50 (.bin .neq (T 49) (.c (aU 0))) 47 false, og 51 (mv 50) 47 false, og 52 (mv 3) 51 true, og 53 (mv 52) 51 true, og 54 (fa 0 1) 53 false, og 55 (ld 54) 53 false, og 56 (.bin .geq (T 55) (ci 10)) 53 false, og 57 (mv 56) 53 false, og 58 (fa 0 1) 57 true, og 59 (ld 58) 57 true, og 60 (.bin .leq (T 59) (ci 12)) 57 true, og 61 (.pick (T 57) (T 60) (cb false)) 53 false, og 62 (.pick (T 53) (cb true) (T 61)) 51 true, og 63 (.pick (T 51) (T 62) (cb false)) 47 false, o 64 (.pick (T 47) (cb true) (T 63)), o 65 (mv 64), og 66 (fa 2 1) 65 false, og 67 (ld 66) 65 false, og 68 (.bin .neq (T 67) (.c aE)) 65 false, og 69 (mv 68) 65 false, og 70 (mv 3) 69 true, og 71 (.un .not (T 70)) 69 true, og 72 (.pick (T 69) (T 71) (cb false)) 65 false, o 73 (.pick (T 65) (cb true) (T 72)), o 2 (mv 73)]
def k167_1 : ACode := .seq (.region r167_0) (.seq (.region r167_1) (.seq (.region r167_2) .ret))
theorem fn167 : getFn Tryz.prog 167 = some (74, k167_1, [.tmp 2]) := by kernel_rfl
def r309_0 : LO := [o 4 (bx 0), o 5 (bx 1), o 6 (bx 2), o 8 (mi 0)]
def r309_1 : LO := [o 11 (fa 0 5), o 12 (ld 11), o 13 (.bin .eql (T 12) (ci 10))]
def r309_2 : LO := [o 15 (ln 3 4), o 16 (fa 1 5), o 17 (ld 16), o 18 (.call (cf 93) [(T 15), (T 17)]), o 14 (mv 18), o 19 (.extract 0 (T 14)), o 20 (.extract 1 (T 14)), o 9 (.alloc [aE, .nil, .nil, .nil, .nil]), on (st 5 9 19), o 10 (mv 20)]
def r309_3 : LO := [o 21 (ln 3 4), o 22 (ln 5 9), o 23 (ln 7 6), o 24 (mv 3), o 25 (.bin .add (T 24) (ci 1)), o 26 (.call (cf 94) [(T 21), (T 22), (T 23), (T 25)]), o 8 (mv 26)]
def k309_1 : ACode := .cond (T 13) (.seq (.region r309_2) (.seq (.region r309_3) .ret)) .skip
def r309_10 : LO := [o 27 (ln 3 4), o 28 (ln 2 5), o 29 (ln 7 6), o 30 (.call (cf 381) [(T 27), (T 28), (T 29)]), o 8 (mv 30)]
def k309_2 : ACode := .seq (.seq (.region r309_1) k309_1) (.seq (.region r309_10) .ret)
def k309_3 : ACode := .seq (.region r309_0) k309_2
theorem fn309 : getFn Tryz.prog 309 = some (31, k309_3, [.tmp 8]) := by kernel_rfl
def r239_0 : LO := [o 2 (bx 0), o 3 (bx 1), o 4 (.mv (.c .nil))]
def r239_1 : LO := [o 5 (ld 3), o 6 (.bin .eql (T 5) (.c aE))]
def r239_2 : LO := [o 4 (.mv (.c .nil))]
def k239_1 : ACode := .seq (.region r239_1) (.cond (T 6) (.seq (.region r239_2) .ret) .skip)
def r239_8 : LO := [o 7 (fa 1 2), o 8 (ld 7), o 9 (.call (cf 307) [(T 8)]), o 10 (.func (.func 308) [] [(T 3)]), o 11 (.call (cf 306) [(T 9), (T 10)]), o 4 (mv 11)]
def k239_2 : ACode := .seq (.region r239_0) (.seq k239_1 (.seq (.region r239_8) .ret))
theorem fn239 : getFn Tryz.prog 239 = some (12, k239_2, [.tmp 4]) := by kernel_rfl
def r238_0 : LO := [o 3 (mb false)]
def r238_1 : LO := [o 4 (mv 0), o 5 (fa 0 1), o 6 (ld 5), o 7 (.bin .eql (T 4) (T 6)), o 3 (mv 7)]
def k238_1 : ACode := .seq (.region r238_0) (.seq (.region r238_1) .ret)
theorem fn238 : getFn Tryz.prog 238 = some (8, k238_1, [.tmp 3]) := by kernel_rfl
def r35_0 : LO := [o 4 (.mv (.c aE))]
def r35_1 : LO := [o 5 (mv 0), o 6 (.bin .add (T 5) (.c (aS ⟨#[47]⟩))), o 7 (mv 1), o 8 (.bin .add (T 6) (T 7)), o 4 (mv 8)]
def k35_1 : ACode := .seq (.region r35_0) (.seq (.region r35_1) .ret)
theorem fn35 : getFn Tryz.prog 35 = some (9, k35_1, [.tmp 4]) := by kernel_rfl
def r34_0 : LO := [o 1 (bx 0), o 2 (.alloc [.nil, .nil, .nil, .nil, .nil]), o 3 (mb false)]
def r34_1 : LO := [o 7 (ln 3 1), o 8 (.call (cf 48) [(T 7)]), o 6 (mv 8), o 9 (.extract 0 (T 6)), o 10 (.extract 1 (T 6)), o 4 (.alloc [.nil, .nil]), on (st 2 4 9), o 5 (mv 10)]
def r34_2 : LO := [o 11 (ln 3 1), o 12 (ln 2 4), o 13 (.build [.nil, .nil, .nil, .nil, .nil] [((0, 3), (T 11)), ((3, 2), (T 12))]), o 14 (mv 5), o 15 (.bin .eql (T 14) (ci 0)), on (st 5 2 13), o 3 (mv 15)]
def k34_1 : ACode := .seq (.region r34_0) (.seq (.region r34_1) (.seq (.region r34_2) .ret))
theorem fn34 : getFn Tryz.prog 34 = some (16, k34_1, [.cell 2 (some 5), .tmp 3]) := by kernel_rfl
def r23_0 : LO := [o 2 (bx 0), o 3 (bx 1), o 4 (mi 0)]
def r23_1 : LO := [o 13 (fa 1 3), o 14 (ld 13), o 15 (.call (cf 52) [(T 14)]), o 12 (mv 15), o 16 (.extract 0 (T 12)), o 17 (.extract 1 (T 12)), o 5 (mv 16), o 6 (mv 17)]
def r23_2 : LO := [o 18 (mv 6), o 19 (.un .not (T 18)), o 20 (mv 19), og 21 (.sliceLit 1 5 [aE, aE, aE, aE, aE] [((0, 1), (.c (aS ⟨#[71, 69, 84]⟩))), ((1, 1), (.c (aS ⟨#[80, 85, 84]⟩))), ((2, 1), (.c (aS ⟨#[80, 79, 83, 84]⟩))), ((3, 1), (.c (aS ⟨#[80, 65, 84, 67, 72]⟩))), ((4, 1), (.c (aS ⟨#[68, 69, 76, 69, 84, 69]⟩)))]) 20 false, og 22 (fa 0 3) 20 false, og 23 (ld 22) 20 false, og 24 (.call (cf 53) [(T 21), (T 23)]) 20 false, og 25 (.un .not (T 24)) 20 false, o 26 (.pick (T 20) (cb true) (T 25))]
def r23_3 : LO := [o 4 (mi 2)]
def k23_1 : ACode := .seq (.region r23_2) (.cond (T 26) (.seq (.region r23_3) .ret) .skip)
def r23_10 : LO := [o 28 (ln 3 2), o 29 (fa 2 3), o 30 (ld 29), o 31 (fa 3 3), o 32 (ld 31), o 33 (.call (cf 35) [(T 30), (T 32)]), o 34 (.call (cf 36) [(T 28), (T 33)]), o 27 (mv 34), o 35 (.extract 0 (T 27)), o 36 (.extract 1 (T 27)), o 7 (.alloc [aE, aE, aE, (aI 0), .nil]), on (st 5 7 35)]
def r23_10t : LO := [o 8 (mv 36)]
def r23_10o : LN := [[], [], [1], [], [3], [2, 4], [0, 5], [6], [7], [7], [], [0, 1, 2, 3, 4, 5, 6, 7, 8, 10]]
def r23_11 : LO := [o 37 (mv 8), o 38 (.bin .neq (T 37) (ci 0))]
def r23_12 : LO := [o 39 (mv 8), o 4 (mv 39)]
def k23_2 : ACode := .seq (.region r23_11) (.cond (T 38) (.seq (.region r23_12) .ret) .skip)
def r23_18 : LO := [o 40 (fa 3 7), o 41 (ld 40), o 42 (.bin .neq (T 41) (ci 1))]
def r23_19 : LO := [o 4 (mi 12)]
def k23_3 : ACode := .seq (.region r23_18) (.cond (T 42) (.seq (.region r23_19) .ret) .skip)
def r23_25 : LO := [o 44 (ln 3 2), o 45 (fa 1 7), o 46 (ld 45), o 47 (ln 5 3), o 48 (.call (cf 54) [(T 44), (T 46), (T 47)]), o 43 (mv 48), o 49 (.extract 0 (T 43)), o 50 (.extract 1 (T 43)), o 9 (mv 49), o 8 (mv 50)]
def r23_26 : LO := [o 51 (mv 8), o 52 (.bin .neq (T 51) (ci 0))]
def r23_27 : LO := [o 53 (mv 8), o 4 (mv 53)]
def k23_4 : ACode := .seq (.region r23_26) (.cond (T 52) (.seq (.region r23_27) .ret) .skip)
def r23_33 : LO := [o 55 (ln 3 2), o 56 (fa 1 7), o 57 (ld 56), o 58 (ln 5 3), o 59 (.call (cf 55) [(T 55), (T 57), (T 58)]), o 54 (mv 59), o 60 (.extract 0 (T 54)), o 61 (.extract 1 (T 54)), o 10 (.alloc [(aI 0), aE, (aI 0), (aI 0), (aI 0), aE, aE, (aB false), (aI 0), (aU 0), aE, .nil, .nil, .nil, .nil, .nil]), on (st 16 10 60), o 11 (mv 61)]
def r23_34 : LO := [o 62 (mv 11), o 63 (.un .not (T 62)), o 64 (mv 63), og 65 (fa 4 3) 64 true, og 66 (ld 65) 64 true, og 67 (.bin .neq (T 66) (.c aE)) 64 true, o 68 (.pick (T 64) (T 67) (cb false)), o 69 (mv 68), og 70 (fa 4 3) 69 true, og 71 (ld 70) 69 true, og 72 (.bin .neq (T 71) (.c (aS ⟨#[42]⟩))) 69 true, o 73 (.pick (T 69) (T 72) (cb false))]
def r23_35 : LO := [o 4 (mi 8)]
def k23_5 : ACode := .seq (.region r23_34) (.cond (T 73) (.seq (.region r23_35) .ret) .skip)
def r23_41 : LO := [o 74 (mv 11), o 75 (mv 74), og 76 (mv 9) 75 true, og 77 (.func (.func 57) [] [(T 10)]) 75 true, og 78 (.call (cf 56) [(T 76), (T 77)]) 75 true, o 79 (.pick (T 75) (T 78) (cb false))]
def r23_42 : LO := [o 4 (mi 9)]
def k23_6 : ACode := .seq (.region r23_41) (.cond (T 79) (.seq (.region r23_42) .ret) .skip)
def r23_48 : LO := [o 4 (mi 0)]
def k23_7 : ACode := .seq (.region r23_33) (.seq k23_5 (.seq k23_6 (.seq (.region r23_48) .ret)))
def k23_8 : ACode := .seq k23_2 (.seq k23_3 (.seq (.region r23_25) (.seq k23_4 k23_7)))
def k23_9 : ACode := .seq (.seq (.region r23_1) k23_1) (.seq (.drawn r23_10o r23_10 r23_10t) k23_8)
def k23_10 : ACode := .seq (.region r23_0) k23_9
theorem fn23 : getFn Tryz.prog 23 = some (80, k23_10, [.tmp 4]) := by kernel_rfl
def r56_0 : LO := [o 4 (mb false)]
def r56_1 : LO := [o 5 (mv 0), o 6 (mv 1), o 7 (.call (cf 123) [(T 5), (T 6)]), o 8 (.bin .geq (T 7) (ci 0)), o 4 (mv 8)]
def k56_1 : ACode := .seq (.region r56_0) (.seq (.region r56_1) .ret)
theorem fn56 : getFn Tryz.prog 56 = some (9, k56_1, [.tmp 4]) := by kernel_rfl
def r123_0 : LO := [o 4 (mi 0)]
def r123_1 : LO := [o 6 (mv 0), o 7 (.len false (T 6)), o 8 (mi 0)]
def r123_2 : LO := [o 9 (.bin .lss (T 8) (T 7))]
def r123_6 : LO := [o 10 (mv 8), o 5 (mv 10)]
def r123_7 : LO := [o 11 (mv 1), o 12 (mv 0), o 13 (mv 5), o 14 (.idxSl 1 (T 12) (T 13)), o 15 (ld 14), o 16 (.call (T 11) [(T 15)])]
def r123_8 : LO := [o 17 (mv 5), o 4 (mv 17)]
def k123_1 : ACode := .seq (.region r123_7) (.cond (T 16) (.seq (.region r123_8) .ret) .skip)
def r123_16 : LO := [o 18 (.bin .add (T 8) (ci 1)), o 8 (mv 18)]
def k123_2 : ACode := .seq (.block 1 (.seq (.region r123_6) k123_1)) (.region r123_16)
def k123_3 : ACode := .seq (.region r123_2) (.seq (.cond (T 9) .skip (.exit 0)) k123_2)
def r123_23 : LO := [o 4 (mi (-1))]
def k123_4 : ACode := .seq (.seq (.region r123_1) (.block 0 (.loop k123_3))) (.seq (.region r123_23) .ret)
def k123_5 : ACode := .seq (.region r123_0) k123_4
theorem fn123 : getFn Tryz.prog 123 = some (19, k123_5, [.tmp 4]) := by kernel_rfl
def r54_0 : LO := [o 3 (bx 0), o 5 (bx 2), o 6 (.mv (.c .nil)), o 7 (mi 0)]
def r54_1 : LO := [o 8 (.mv (.c .nil))]
def r54_2 : LO := [o 15 (fa 1 5), o 16 (ld 15), o 17 (.call (cf 118) [(T 16)]), o 18 (.len false (T 17)), o 19 (mi 0)]
def r54_3 : LO := [o 20 (.bin .lss (T 19) (T 18))]
def r54_7 : LO := [o 21 (.idxSl 1 (T 17) (T 19)), o 22 (ld 21), o 10 (mv 22)]
def r54_8 : LO := [o 24 (ln 3 3), o 25 (mv 1), o 26 (mv 10), o 27 (.call (cf 86) [(T 24), (T 25), (T 26)]), o 23 (mv 27), o 28 (.extract 0 (T 23)), o 29 (.extract 1 (T 23)), o 11 (mv 28), o 12 (mv 29)]
def r54_9 : LO := [o 30 (mv 12), o 31 (.bin .neq (T 30) (ci 0))]
def r54_10 : LO := [o 32 (mv 12), o 6 (.mv (.c .nil)), o 7 (mv 32)]
def k54_1 : ACode := .seq (.region r54_9) (.cond (T 31) (.seq (.region r54_10) .ret) .skip)
def r54_16 : LO := [o 33 (mv 11), o 34 (mv 11), o 35 (.len false (T 34)), o 36 (.bin .sub (T 35) (ci 1)), o 37 (.idxSl 16 (T 33) (T 36)), o 38 (ln 16 37), o 13 (.alloc [(aI 0), aE, (aI 0), (aI 0), (aI 0), aE, aE, (aB false), (aI 0), (aU 0), aE, .nil, .nil, .nil, .nil, .nil]), on (st 16 13 38)]
def r54_17 : LO := [o 39 (ln 16 13), o 40 (.call (cf 119) [(T 39)]), o 41 (.un .not (T 40)), o 42 (mv 41), og 43 (ln 16 13) 42 false, og 44 (.call (cf 91) [(T 43)]) 42 false, og 45 (.un .not (T 44)) 42 false, o 46 (.pick (T 42) (cb true) (T 45)), o 47 (mv 46), og 48 (fa 4 5) 47 false, og 49 (ld 48) 47 false, og 50 (.bin .eql (T 49) (.c (aS ⟨#[42]⟩))) 47 false, og 51 (mv 50) 47 false, og 52 (fa 2 13) 51 true, og 53 (ld 52) 51 true, og 54 (.bin .eql (T 53) (ci 1)) 51 true, og 55 (.pick (T 51) (T 54) (cb false)) 47 false, o 56 (.pick (T 47) (cb true) (T 55))]
def r54_18 : LO := [o 6 (.mv (.c .nil)), o 7 (mi 12)]
def k54_2 : ACode := .seq (.region r54_17) (.cond (T 56) (.seq (.region r54_18) .ret) .skip)
def r54_24 : LO := [o 57 (mv 11), o 58 (.call (cf 87) [(T 57)]), o 14 (.alloc [.nil]), on (st 1 14 58)]
def r54_25 : LO := [o 59 (mv 8), o 60 (.func (.func 120) [] [(T 14)]), o 61 (.call (cf 56) [(T 59), (T 60)])]
def r54_26 : LO := [o 6 (.mv (.c .nil)), o 7 (mi 9)]
def k54_3 : ACode := .seq (.region r54_25) (.cond (T 61) (.seq (.region r54_26) .ret) .skip)
def r54_32 : LO := [o 62 (mv 8), o 63 (ld 14), o 64 (.sliceLit 1 1 [.nil] [((0, 1), (T 63))]), o 65 (.append 146 1 24 (T 62) (T 64)), o 8 (mv 65)]
def k54_4 : ACode := .seq k54_2 (.seq (.region r54_24) (.seq k54_3 (.region r54_32)))
def k54_5 : ACode := .seq (.region r54_8) (.seq k54_1 (.seq (.region r54_16) k54_4))
def r54_41 : LO := [o 66 (.bin .add (T 19) (ci 1)), o 19 (mv 66)]
def k54_6 : ACode := .seq (.block 1 (.seq (.region r54_7) k54_5)) (.region r54_41)
def k54_7 : ACode := .seq (.region r54_3) (.seq (.cond (T 20) .skip (.exit 0)) k54_6)
def r54_48 : LO := [o 67 (mv 8), o 6 (mv 67), o 7 (mi 0)]
def k54_8 : ACode := .seq (.seq (.region r54_2) (.block 0 (.loop k54_7))) (.seq (.region r54_48) .ret)
def k54_9 : ACode := .seq (.region r54_0) (.seq (.region r54_1) k54_8)
theorem fn54 : getFn Tryz.prog 54 = some (68, k54_9, [.tmp 6, .tmp 7]) := by kernel_rfl
def r119_0 : LO := [o 1 (bx 0), o 2 (mb false)]
def r119_1 : LO := [o 3 (fa 2 1), o 4 (ld 3), o 5 (.bin .geq (T 4) (ci 1)), o 6 (mv 5), og 7 (fa 2 1) 6 true, og 8 (ld 7) 6 true, og 9 (.bin .leq (T 8) (ci 3)) 6 true, o 10 (.pick (T 6) (T 9) (cb false)), o 2 (mv 10)]
def k119_1 : ACode := .seq (.region r119_0) (.seq (.region r119_1) .ret)
theorem fn119 : getFn Tryz.prog 119 = some (11, k119_1, [.tmp 2]) := by kernel_rfl
def r118_0 : LO := [o 2 (.mv (.c .nil))]
def r118_1 : LO := [o 11 (mv 0), o 12 (.call (cf 52) [(T 11)]), o 10 (mv 12), o 13 (.extract 0 (T 10)), o 14 (.extract 1 (T 10)), o 3 (mv 13), o 4 (mv 14)]
def r118_2 : LO := [o 5 (.mv (.c .nil))]
def r118_3 : LO := [o 15 (mv 3), o 16 (.len false (T 15)), o 17 (mi 0)]
def r118_4 : LO := [o 18 (.bin .lss (T 17) (T 16))]
def r118_8 : LO := [o 19 (.idxSl 1 (T 15) (T 17)), o 20 (ld 19), o 7 (mv 20)]
def r118_9 : LO := [o 22 (mv 7), o 23 (.call (cf 67) [(T 22)]), o 21 (mv 23), o 24 (.extract 0 (T 21)), o 25 (.extract 1 (T 21)), o 8 (mv 24), o 9 (mv 25)]
def r118_10 : LO := [o 26 (mv 9)]
def r118_11 : LO := [o 27 (mv 5), o 28 (mv 8), o 29 (.sliceLit 1 1 [aE] [((0, 1), (T 28))]), o 30 (.append 9 1 16 (T 27) (T 29)), o 5 (mv 30)]
def k118_1 : ACode := .seq (.region r118_10) (.cond (T 26) (.region r118_11) .skip)
def k118_2 : ACode := .block 1 (.seq (.region r118_8) (.seq (.region r118_9) k118_1))
def r118_18 : LO := [o 31 (.bin .add (T 17) (ci 1)), o 17 (mv 31)]
def k118_3 : ACode := .seq (.cond (T 18) .skip (.exit 0)) (.seq k118_2 (.region r118_18))
def k118_4 : ACode := .seq (.region r118_4) k118_3
def r118_25 : LO := [o 32 (mv 5), o 2 (mv 32)]
def k118_5 : ACode := .seq (.seq (.region r118_3) (.block 0 (.loop k118_4))) (.seq (.region r118_25) .ret)
def k118_6 : ACode := .seq (.region r118_0) (.seq (.region r118_1) (.seq (.region r118_2) k118_5))
theorem fn118 : getFn Tryz.prog 118 = some (33, k118_6, [.tmp 2]) := by kernel_rfl
def r91_0 : LO := [o 1 (bx 0), o 2 (mb false)]
def r91_1 : LO := [o 3 (fa 4 1), o 4 (fa 0 3), o 5 (ld 4), o 6 (.call (cf 164) [(T 5)]), o 7 (mv 6), og 8 (fa 4 1) 7 true, og 9 (fa 0 8) 7 true, og 10 (ld 9) 7 true, og 11 (.bin .neq (T 10) (ci 6)) 7 true, o 12 (.pick (T 7) (T 11) (cb false)), o 2 (mv 12)]
def k91_1 : ACode := .seq (.region r91_0) (.seq (.region r91_1) .ret)
theorem fn91 : getFn Tryz.prog 91 = some (13, k91_1, [.tmp 2]) := by kernel_rfl
def r17_0 : LO := [o 3 (bx 0), o 5 (bx 2), o 6 (.mv (.c aE)), o 7 (.alloc zV), o 8 (mi 0)]
def r17_1 : LO := [o 22 (mv 1), o 23 (fa 0 5), o 24 (ld 23), o 25 (fa 1 5), o 26 (ld 25), o 27 (.call (cf 11) [(T 22), (T 24), (T 26)]), o 21 (mv 27), o 28 (.extract 0 (T 21)), o 29 (.extract 1 (T 21)), o 30 (.extract 2 (T 21)), o 9 (mv 28), o 10 (mv 29), o 11 (mv 30)]
def r17_2 : LO := [o 31 (mv 11), o 32 (.bin .neq (T 31) (ci 0))]
def r17_3 : LO := [o 33 (.build zV []), o 34 (mv 11), o 6 (.mv (.c aE)), on (st 7 7 33), o 8 (mv 34)]
def k17_1 : ACode := .seq (.region r17_2) (.cond (T 32) (.seq (.region r17_3) .ret) .skip)
def r17_9 : LO := [o 36 (ln 3 3), o 37 (.call (cf 34) [(T 36)]), o 35 (mv 37), o 38 (.extract 0 (T 35)), o 39 (.extract 1 (T 35)), o 12 (.alloc [.nil, .nil, .nil, .nil, .nil]), on (st 5 12 38), o 13 (mv 39)]
def r17_10 : LO := [o 40 (mv 1), o 41 (mv 9), o 42 (.idxSl 5 (T 40) (T 41)), o 43 (fa 2 42), o 44 (ld 43), o 45 (mv 1), o 46 (mv 9), o 47 (.idxSl 5 (T 45) (T 46)), o 48 (fa 3 47), o 49 (ld 48)]
def r17_10t : LO := [o 50 (.call (cf 35) [(T 44), (T 49)]), o 14 (mv 50)]
def r17_10o : LN := [[], [], [0, 1], [2], [3], [], [], [5, 6], [7], [8]]
def r17_11 : LO := [o 52 (ln 3 3), o 53 (mv 14), o 54 (.call (cf 36) [(T 52), (T 53)]), o 51 (mv 54), o 55 (.extract 0 (T 51)), o 56 (.extract 1 (T 51)), o 15 (.alloc [aE, aE, aE, (aI 0), .nil]), on (st 5 15 55), o 11 (mv 56)]
def r17_12 : LO := [o 57 (mv 13), o 58 (.un .not (T 57)), o 59 (mv 58), og 60 (ln 3 3) 59 false, og 61 (mv 1) 59 false, og 62 (mv 9) 59 false, og 63 (.idxSl 5 (T 61) (T 62)) 59 false, og 64 (ln 5 63) 59 false]
def r17_12t : LO := [og 65 (.call (cf 23) [(T 60), (T 64)]) 59 false, og 66 (.bin .neq (T 65) (ci 0)) 59 false, o 67 (.pick (T 59) (cb true) (T 66))]
def r17_12o : LN := [[], [0], [1], [2], [2], [2], [2, 4, 5], [2, 6]]
def r17_13 : LO := [o 68 (.build zV []), o 6 (.mv (.c aE)), on (st 7 7 68), o 8 (mi 1)]
def k17_2 : ACode := .seq (.drawn r17_12o r17_12 r17_12t) (.cond (T 67) (.seq (.region r17_13) .ret) .skip)
def r17_19 : LO := [o 70 (ln 5 12), o 71 (fa 1 15), o 72 (ld 71), o 73 (mv 1), o 74 (mv 9), o 75 (.idxSl 5 (T 73) (T 74)), o 76 (ln 5 75), o 77 (ln 4 5), o 78 (.call (cf 37) [(T 70), (T 72), (T 76), (T 77)]), o 69 (mv 78), o 79 (.extract 0 (T 69)), o 80 (.extract 1 (T 69)), o 16 (.alloc zV), on (st 7 16 79)]
def r17_19t : LO := [o 11 (mv 80)]
def r17_19o : LN := [[], [], [1], [], [], [3, 4], [5], [], [0, 2, 6, 7], [8], [9], [9], [], [0, 1, 2, 3, 4, 5, 6, 7, 8, 9, 10, 12]]
def r17_20 : LO := [o 81 (mv 10), o 82 (.len false (T 81)), o 83 (mi 0)]
def r17_21 : LO := [o 84 (.bin .lss (T 83) (T 82))]
def r17_25 : LO := [o 85 (.idxSl 2 (T 81) (T 83)), o 86 (ln 2 85), o 18 (.alloc [aE, aE]), on (st 2 18 86)]
def r17_26 : LO := [o 87 (mv 11), o 88 (.bin .eql (T 87) (ci 0))]
def r17_27 : LO := [o 90 (ln 5 12), o 91 (fa 1 15), o 92 (ld 91), o 93 (ln 7 16), o 94 (ln 2 18), o 95 (.call (cf 38) [(T 90), (T 92), (T 93), (T 94)]), o 89 (mv 95), o 96 (.extract 0 (T 89)), o 97 (.extract 1 (T 89)), on (st 7 16 96), o 11 (mv 97)]
def k17_3 : ACode := .seq (.region r17_25) (.seq (.region r17_26) (.cond (T 88) (.region r17_27) .skip))
def r17_33 : LO := [o 98 (.bin .add (T 83) (ci 1)), o 83 (mv 98)]
def k17_4 : ACode := .seq (.cond (T 84) .skip (.exit 0)) (.seq (.block 1 k17_3) (.region r17_33))
def k17_5 : ACode := .seq (.region r17_21) k17_4
def r17_40 : LO := [o 99 (fa 2 5), o 100 (ld 99), o 101 (.len false (T 100)), o 102 (mi 0)]
def r17_41 : LO := [o 103 (.bin .lss (T 102) (T 101))]
def r17_45 : LO := [o 104 (.idxSl 2 (T 100) (T 102)), o 105 (ln 2 104), o 20 (.alloc [aE, aE]), on (st 2 20 105)]
def r17_46 : LO := [o 106 (mv 11), o 107 (.bin .eql (T 106) (ci 0))]
def r17_47 : LO := [o 109 (ln 5 12), o 110 (fa 1 15), o 111 (ld 110), o 112 (mv 1), o 113 (mv 9), o 114 (.idxSl 5 (T 112) (T 113)), o 115 (ln 5 114), o 116 (ln 7 16), o 117 (ln 2 20), o 118 (.call (cf 39) [(T 109), (T 111), (T 115), (T 116), (T 117)]), o 108 (mv 118), o 119 (.extract 0 (T 108)), o 120 (.extract 1 (T 108)), on (st 7 16 119)]
def r17_47t : LO := [o 11 (mv 120)]
def r17_47o : LN := [[], [], [1], [], [], [3, 4], [5], [], [], [0, 2, 6, 7, 8], [9], [10], [10], [0, 1, 2, 3, 4, 5, 6, 7, 8, 9, 10, 11]]
def k17_6 : ACode := .seq (.region r17_46) (.cond (T 107) (.drawn r17_47o r17_47 r17_47t) .skip)
def r17_53 : LO := [o 121 (.bin .add (T 102) (ci 1)), o 102 (mv 121)]
def k17_7 : ACode := .seq (.block 3 (.seq (.region r17_45) k17_6)) (.region r17_53)
def k17_8 : ACode := .seq (.region r17_41) (.seq (.cond (T 103) .skip (.exit 2)) k17_7)
def r17_60 : LO := [o 122 (mv 11), o 123 (.bin .eql (T 122) (ci 0))]
def r17_61 : LO := [o 124 (ln 3 3), o 125 (fa 1 15), o 126 (ld 125), o 127 (ln 7 16), o 128 (.call (cf 40) [(T 124), (T 126), (T 127)]), o 11 (mv 128)]
def r17_65 : LO := [o 129 (mv 11), o 130 (.bin .neq (T 129) (ci 0))]
def r17_66 : LO := [o 131 (.build zV []), o 132 (mv 11), o 6 (.mv (.c aE)), on (st 7 7 131), o 8 (mv 132)]
def k17_9 : ACode := .seq (.region r17_65) (.cond (T 130) (.seq (.region r17_66) .ret) .skip)
def r17_72 : LO := [o 133 (mv 14), o 134 (ln 3 3), o 135 (fa 1 15), o 136 (ld 135), o 137 (ln 7 16), o 138 (.call (cf 41) [(T 134), (T 136), (T 137)]), o 6 (mv 133), on (st 7 7 138), o 8 (mi 0)]
def k17_10 : ACode := .seq (.seq (.region r17_60) (.cond (T 123) (.region r17_61) .skip)) (.seq k17_9 (.seq (.region r17_72) .ret))
def k17_11 : ACode := .seq (.seq (.region r17_20) (.block 0 (.loop k17_5))) (.seq (.seq (.region r17_40) (.block 2 (.loop k17_8))) k17_10)
def k17_12 : ACode := .seq (.region r17_11) (.seq k17_2 (.seq (.drawn r17_19o r17_19 r17_19t) k17_11))
def k17_13 : ACode := .seq (.region r17_9) (.seq (.drawn r17_10o r17_10 r17_10t) k17_12)
def k17_14 : ACode := .seq (.region r17_0) (.seq (.region r17_1) (.seq k17_1 k17_13))
theorem fn17 : getFn Tryz.prog 17 = some (139, k17_14, [.tmp 6, .cell 7 (some 7), .tmp 8]) := by kernel_rfl
def r39_0 : LO := [o 5 (bx 0), o 7 (bx 2), o 8 (bx 3), o 9 (bx 4), o 10 (.alloc zV), o 11 (mi 0)]
def r39_1 : LO := [o 22 (fa 0 5), o 23 (ln 3 22), o 24 (mv 1), o 25 (fa 0 9), o 26 (ld 25), o 27 (.call (cf 86) [(T 23), (T 24), (T 26)]), o 21 (mv 27), o 28 (.extract 0 (T 21)), o 29 (.extract 1 (T 21)), o 12 (mv 28), o 13 (mv 29)]
def r39_2 : LO := [o 30 (mv 13), o 31 (.bin .neq (T 30) (ci 0))]
def r39_3 : LO := [o 32 (ln 7 8), o 33 (mv 13), on (st 7 10 32), o 11 (mv 33)]
def k39_1 : ACode := .seq (.region r39_2) (.cond (T 31) (.seq (.region r39_3) .ret) .skip)
def r39_9 : LO := [o 34 (mv 12), o 35 (mv 12), o 36 (.len false (T 35)), o 37 (.bin .sub (T 36) (ci 1)), o 38 (.idxSl 16 (T 34) (T 37)), o 39 (ln 16 38), o 14 (.alloc [(aI 0), aE, (aI 0), (aI 0), (aI 0), aE, aE, (aB false), (aI 0), (aU 0), aE, .nil, .nil, .nil, .nil, .nil]), on (st 16 14 39)]
def r39_10 : LO := [o 41 (fa 0 5), o 42 (ln 3 41), o 43 (mv 1), o 44 (ln 5 7), o 45 (.call (cf 55) [(T 42), (T 43), (T 44)]), o 40 (mv 45), o 46 (.extract 0 (T 40)), o 47 (.extract 1 (T 40)), o 15 (.alloc [(aI 0), aE, (aI 0), (aI 0), (aI 0), aE, aE, (aB false), (aI 0), (aU 0), aE, .nil, .nil, .nil, .nil, .nil]), on (st 16 15 46), o 16 (mv 47)]
def r39_11 : LO := [o 48 (mv 16), o 49 (mv 48), og 50 (fa 0 15) 49 true, og 51 (ld 50) 49 true, og 52 (mv 12) 49 true, og 53 (.idxSl 16 (T 52) (ci 0)) 49 true, og 54 (fa 0 53) 49 true, og 55 (ld 54) 49 true]
def r39_11t : LO := [og 56 (.bin .eql (T 51) (T 55)) 49 true, o 57 (.pick (T 49) (T 56) (cb false))]
def r39_11o : LN := [[], [0], [1], [1, 2], [1], [1, 4], [1, 5], [1, 6]]
def r39_12 : LO := [o 58 (ln 7 8), on (st 7 10 58), o 11 (mi 9)]
def k39_2 : ACode := .seq (.drawn r39_11o r39_11 r39_11t) (.cond (T 57) (.seq (.region r39_12) .ret) .skip)
def r39_19 : LO := [o 59 (fa 2 14), o 60 (ld 59), o 61 (.bin .eql (T 60) (ci 5)), o 62 (mv 61), og 63 (ln 16 14) 62 false, og 64 (.call (cf 91) [(T 63)]) 62 false, og 65 (.un .not (T 64)) 62 false, o 66 (.pick (T 62) (cb true) (T 65))]
def r39_20 : LO := [o 67 (ln 7 8), on (st 7 10 67), o 11 (mi 12)]
def k39_3 : ACode := .seq (.region r39_19) (.cond (T 66) (.seq (.region r39_20) .ret) .skip)
def r39_26 : LO := [o 68 (fa 2 14), o 69 (ld 68), o 70 (.bin .neq (T 69) (ci 4))]
def r39_27 : LO := [o 71 (ln 5 5), o 72 (mv 1), o 73 (ln 7 8), o 74 (ln 2 9), o 75 (.call (cf 38) [(T 71), (T 72), (T 73), (T 74)]), o 76 (.extract 0 (T 75)), o 77 (.extract 1 (T 75)), on (st 7 10 76), o 11 (mv 77)]
def k39_4 : ACode := .seq (.region r39_26) (.cond (T 70) (.seq (.region r39_27) .ret) .skip)
def r39_33 : LO := [o 79 (ln 5 5), o 80 (ln 5 5), o 81 (mv 1), o 82 (mv 12), o 83 (.call (cf 90) [(T 80), (T 81), (T 82)]), o 84 (fa 1 9), o 85 (ld 84), o 86 (.call (cf 89) [(T 79), (T 83), (T 85)]), o 78 (mv 86), o 87 (.extract 0 (T 78)), o 88 (.extract 1 (T 78)), o 17 (.alloc zV), on (st 7 17 87)]
def r39_33t : LO := [o 13 (mv 88)]
def r39_33o : LN := [[], [], [], [], [1, 2, 3], [], [5], [0, 4, 6], [7], [8], [8], [], [0, 1, 2, 3, 4, 5, 6, 7, 8, 9, 11]]
def r39_34 : LO := [o 89 (mv 13), o 90 (.bin .neq (T 89) (ci 0))]
def r39_35 : LO := [o 91 (ln 7 8), o 92 (mv 13), on (st 7 10 91), o 11 (mv 92)]
def k39_5 : ACode := .seq (.region r39_34) (.cond (T 90) (.seq (.region r39_35) .ret) .skip)
def r39_41 : LO := [o 93 (mv 12), o 94 (.call (cf 87) [(T 93)]), o 18 (mv 94)]
def r39_42 : LO := [o 96 (ln 7 8), o 97 (mv 18), o 98 (.call (cf 88) [(T 96), (T 97)]), o 95 (mv 98), o 99 (.extract 0 (T 95)), o 100 (.extract 1 (T 95)), o 19 (.alloc zV), on (st 7 19 99), o 20 (mv 100)]
def r39_43 : LO := [o 101 (ln 7 8), o 102 (mv 18), o 103 (fa 3 19), o 104 (ld 103), o 105 (.call (cf 92) [(T 104)]), o 106 (ln 7 17), o 107 (.sliceLit 7 1 zV [((0, 7), (T 106))]), o 108 (.append 54 7 128 (T 105) (T 107)), o 109 (.build zV [((0, 1), (ci 11)), ((3, 1), (T 108))])]
def r39_43t : LO := [o 110 (.call (cf 85) [(T 101), (T 102), (T 109)]), on (st 7 10 110), o 11 (mi 0)]
def r39_43o : LN := [[], [], [], [2], [3], [], [5], [4, 6], [7]]
def k39_6 : ACode := .seq (.region r39_42) (.seq (.drawn r39_43o r39_43 r39_43t) .ret)
def k39_7 : ACode := .seq (.drawn r39_33o r39_33 r39_33t) (.seq k39_5 (.seq (.region r39_41) k39_6))
def k39_8 : ACode := .seq (.seq (.region r39_10) k39_2) (.seq k39_3 (.seq k39_4 k39_7))
def k39_9 : ACode := .seq (.region r39_1) (.seq k39_1 (.seq (.region r39_9) k39_8))
def k39_10 : ACode := .seq (.region r39_0) k39_9
theorem fn39 : getFn Tryz.prog 39 = some (111, k39_10, [.cell 10 (some 7), .tmp 11]) := by kernel_rfl
def r89_0 : LO := [o 3 (bx 0), o 4 (bx 1), o 6 (.alloc zV), o 7 (mi 0)]
def r89_1 : LO := [o 8 (fa 5 4), o 9 (ld 8), o 10 (.bin .eql (T 9) (ci 7))]
def r89_2 : LO := [o 11 (mv 2), o 12 (.build zV [((0, 1), (ci 7)), ((2, 1), (T 11))]), on (st 7 6 12), o 7 (mi 0)]
def k89_1 : ACode := .seq (.region r89_1) (.cond (T 10) (.seq (.region r89_2) .ret) .skip)
def r89_8 : LO := [o 13 (fa 3 3), o 14 (ln 2 13), o 15 (ln 8 4), o 16 (mv 2), o 17 (.call (cf 161) [(T 14), (T 15), (T 16)]), o 18 (.extract 0 (T 17)), o 19 (.extract 1 (T 17)), on (st 7 6 18), o 7 (mv 19)]
def k89_2 : ACode := .seq (.region r89_0) (.seq k89_1 (.seq (.region r89_8) .ret))
theorem fn89 : getFn Tryz.prog 89 = some (20, k89_2, [.cell 6 (some 7), .tmp 7]) := by kernel_rfl
def r161_0 : LO := [o 3 (bx 0), o 4 (bx 1), o 6 (.alloc zV), o 7 (mi 0)]
def r161_1 : LO := [o 16 (fa 5 4), o 17 (ld 16), o 18 (.call (cf 164) [(T 17)]), o 19 (.un .not (T 18))]
def r161_2 : LO := [o 20 (.build zV []), on (st 7 6 20), o 7 (mi 12)]
def k161_1 : ACode := .seq (.region r161_1) (.cond (T 19) (.seq (.region r161_2) .ret) .skip)
def r161_8 : LO := [o 21 (fa 5 4), o 22 (ld 21), o 23 (.bin .neq (T 22) (ci 9))]
def r161_9 : LO := [o 24 (fa 5 4), o 25 (ld 24), o 26 (mv 2), o 27 (.call (cf 230) [(T 25), (T 26)]), o 28 (.extract 0 (T 27)), o 29 (.extract 1 (T 27)), on (st 7 6 28), o 7 (mv 29)]
def k161_2 : ACode := .seq (.region r161_8) (.cond (T 23) (.seq (.region r161_9) .ret) .skip)
def r161_15 : LO := [o 31 (mv 2), o 32 (.call (cf 231) [(T 31), (.c (aS ⟨#[35]⟩))]), o 30 (mv 32), o 33 (.extract 0 (T 30)), o 34 (.extract 1 (T 30)), o 8 (mv 33), o 9 (mv 34)]
def r161_16 : LO := [o 35 (mv 9)]
def r161_17 : LO := [o 37 (mv 8), o 38 (.call (cf 230) [(ci 9), (T 37)]), o 36 (mv 38), o 39 (.extract 0 (T 36)), o 40 (.extract 1 (T 36)), o 10 (.alloc zV), on (st 7 10 39), o 11 (mv 40)]
def r161_18 : LO := [o 41 (mv 11), o 42 (.bin .neq (T 41) (ci 0))]
def r161_19 : LO := [o 43 (.build zV []), o 44 (mv 11), on (st 7 6 43), o 7 (mv 44)]
def k161_3 : ACode := .seq (.region r161_18) (.cond (T 42) (.seq (.region r161_19) .ret) .skip)
def r161_25 : LO := [o 46 (ln 2 3), o 47 (fa 6 4), o 48 (ld 47), o 49 (fa 1 10), o 50 (ld 49), o 51 (.call (cf 232) [(T 46), (T 48), (T 50)]), o 45 (mv 51), o 52 (.extract 0 (T 45)), o 53 (.extract 1 (T 45)), o 12 (.alloc [aE, (aI 0), .nil]), on (st 3 12 52), o 13 (mv 53)]
def r161_26 : LO := [o 54 (mv 13), o 55 (mv 54), og 56 (ln 2 3) 55 false, og 57 (fa 6 4) 55 false, og 58 (ld 57) 55 false, og 59 (fa 1 10) 55 false, og 60 (ld 59) 55 false, og 61 (.call (cf 233) [(T 56), (T 58), (T 60)]) 55 false, og 62 (.un .not (T 61)) 55 false, o 63 (.pick (T 55) (cb true) (T 62))]
def r161_27 : LO := [o 64 (.build zV []), on (st 7 6 64), o 7 (mi 16)]
def k161_4 : ACode := .seq (.region r161_26) (.cond (T 63) (.seq (.region r161_27) .ret) .skip)
def r161_34 : LO := [o 65 (ln 7 10), on (st 7 6 65), o 7 (mi 0)]
def k161_5 : ACode := .seq (.seq (.region r161_25) k161_4) (.seq (.region r161_34) .ret)
def k161_6 : ACode := .cond (T 35) (.seq (.region r161_17) (.seq k161_3 k161_5)) .skip
def r161_44 : LO := [o 66 (mv 2), o 67 (.call (cf 81) [(T 66)]), o 68 (.un .not (T 67))]
def r161_45 : LO := [o 69 (.build zV []), on (st 7 6 69), o 7 (mi 2)]
def k161_7 : ACode := .seq (.region r161_44) (.cond (T 68) (.seq (.region r161_45) .ret) .skip)
def r161_51 : LO := [o 70 (fa 6 4), o 71 (ld 70), o 72 (.bin .geq (T 71) (ci 0)), o 73 (mv 72), og 74 (fa 6 4) 73 true, og 75 (ld 74) 73 true, og 76 (fa 1 3) 73 true, og 77 (ld 76) 73 true, og 78 (.len false (T 77)) 73 true, og 79 (.bin .lss (T 75) (T 78)) 73 true, o 80 (.pick (T 73) (T 79) (cb false))]
def r161_52 : LO := [o 81 (fa 1 3), o 82 (ld 81), o 83 (fa 6 4), o 84 (ld 83), o 85 (.idxSl 5 (T 82) (T 84)), o 86 (fa 2 85), o 87 (ld 86), o 88 (.len false (T 87)), o 89 (mi 0)]
def r161_53 : LO := [o 90 (.bin .lss (T 89) (T 88))]
def r161_57 : LO := [o 91 (.idxSl 3 (T 87) (T 89)), o 92 (ln 3 91), o 15 (.alloc [aE, (aI 0), .nil]), on (st 3 15 92)]
def r161_58 : LO := [o 93 (fa 0 15), o 94 (ld 93), o 95 (mv 2), o 96 (.bin .eql (T 94) (T 95))]
def r161_59 : LO := [o 97 (fa 1 15), o 98 (ld 97), o 99 (.conv (.num .u64) (T 98)), o 100 (.build zV [((0, 1), (ci 9)), ((1, 1), (T 99))]), on (st 7 6 100), o 7 (mi 0)]
def k161_8 : ACode := .seq (.region r161_58) (.cond (T 96) (.seq (.region r161_59) .ret) .skip)
def r161_67 : LO := [o 101 (.bin .add (T 89) (ci 1)), o 89 (mv 101)]
def k161_9 : ACode := .seq (.block 1 (.seq (.region r161_57) k161_8)) (.region r161_67)
def k161_10 : ACode := .seq (.region r161_53) (.seq (.cond (T 90) .skip (.exit 0)) k161_9)
def k161_11 : ACode := .cond (T 80) (.seq (.region r161_52) (.block 0 (.loop k161_10))) .skip
def r161_77 : LO := [o 102 (.build zV []), on (st 7 6 102), o 7 (mi 16)]
def k161_12 : ACode := .seq (.seq (.region r161_51) k161_11) (.seq (.region r161_77) .ret)
def k161_13 : ACode := .seq (.seq (.region r161_15) (.seq (.region r161_16) k161_6)) (.seq k161_7 k161_12)
def k161_14 : ACode := .seq (.region r161_0) (.seq k161_1 (.seq k161_2 k161_13))
theorem fn161 : getFn Tryz.prog 161 = some (103, k161_14, [.cell 6 (some 7), .tmp 7]) := by kernel_rfl
def r230_0 : LO := [o 4 (.alloc zV), o 5 (mi 0)]
def r230_1 : LO := [o 7 (mv 0), o 8 (.call (cf 164) [(T 7)]), o 9 (.un .not (T 8)), o 6 (mv 9)]
def r230_2 : LO := [o 10 (.build zV []), on (st 7 4 10), o 5 (mi 1)]
def r230_5 : LO := [o 12 (mv 0), o 13 (.bin .eql (T 12) (ci 1)), o 14 (mv 13), og 15 (mv 1) 14 true, og 16 (.bin .eql (T 15) (.c (aS ⟨#[116, 114, 117, 101]⟩))) 14 true, o 17 (.pick (T 14) (T 16) (cb false)), o 11 (mv 17)]
def r230_6 : LO := [o 18 (mv 0), o 19 (.build zV [((0, 1), (T 18)), ((1, 1), (.c (aU 1)))]), on (st 7 4 19), o 5 (mi 0)]
def r230_9 : LO := [o 21 (mv 0), o 22 (.bin .eql (T 21) (ci 1)), o 23 (mv 22), og 24 (mv 1) 23 true, og 25 (.bin .eql (T 24) (.c (aS ⟨#[102, 97, 108, 115, 101]⟩))) 23 true, o 26 (.pick (T 23) (T 25) (cb false)), o 20 (mv 26)]
def r230_10 : LO := [o 27 (mv 0), o 28 (.build zV [((0, 1), (T 27))]), on (st 7 4 28), o 5 (mi 0)]
def r230_13 : LO := [o 30 (mv 0), o 31 (.bin .eql (T 30) (ci 1)), o 29 (mv 31)]
def r230_14 : LO := [o 32 (.build zV []), on (st 7 4 32), o 5 (mi 2)]
def r230_17 : LO := [o 34 (mv 0), o 35 (.bin .eql (T 34) (ci 6)), o 33 (mv 35)]
def r230_18 : LO := [o 36 (mv 1), o 37 (.call (cf 298) [(T 36)]), o 38 (.extract 0 (T 37)), o 39 (.extract 1 (T 37)), on (st 7 4 38), o 5 (mv 39)]
def r230_21 : LO := [o 41 (mv 0), o 42 (.call (cf 299) [(T 41)]), o 40 (mv 42)]
def r230_22 : LO := [o 43 (mv 0), o 44 (mv 1), o 45 (.call (cf 300) [(T 43), (T 44)]), o 46 (.extract 0 (T 45)), o 47 (.extract 1 (T 45)), on (st 7 4 46), o 5 (mv 47)]
def k230_1 : ACode := .seq (.region r230_21) (.cond (T 40) (.seq (.region r230_22) .ret) .skip)
def k230_2 : ACode := .seq (.region r230_17) (.cond (T 33) (.seq (.region r230_18) .ret) k230_1)
def k230_3 : ACode := .seq (.region r230_13) (.cond (T 29) (.seq (.region r230_14) .ret) k230_2)
def k230_4 : ACode := .seq (.region r230_9) (.cond (T 20) (.seq (.region r230_10) .ret) k230_3)
def k230_5 : ACode := .seq (.region r230_5) (.cond (T 11) (.seq (.region r230_6) .ret) k230_4)
def k230_6 : ACode := .seq (.region r230_1) (.cond (T 6) (.seq (.region r230_2) .ret) k230_5)
def r230_39 : LO := [o 48 (mv 0), o 49 (mv 1), o 50 (.call (cf 301) [(T 48), (T 49)]), o 51 (.extract 0 (T 50)), o 52 (.extract 1 (T 50)), on (st 7 4 51), o 5 (mv 52)]
def k230_7 : ACode := .seq (.region r230_0) (.seq (.block 0 k230_6) (.seq (.region r230_39) .ret))
theorem fn230 : getFn Tryz.prog 230 = some (53, k230_7, [.cell 4 (some 7), .tmp 5]) := by kernel_rfl
def r301_0 : LO := [o 4 (.alloc zV), o 5 (mi 0)]
def r301_1 : LO := [o 9 (mv 1), o 10 (.call (cf 376) [(T 9)]), o 11 (.un .not (T 10))]
def r301_2 : LO := [o 12 (.build zV []), on (st 7 4 12), o 5 (mi 2)]
def k301_1 : ACode := .seq (.region r301_1) (.cond (T 11) (.seq (.region r301_2) .ret) .skip)
def r301_8 : LO := [o 13 (mv 0), o 14 (.build zV [((0, 1), (T 13))]), o 6 (.alloc zV), on (st 7 6 14)]
def r301_9 : LO := [o 7 (.mv (.c (.v .nilIface)))]
def r301_10 : LO := [o 15 (mv 0), o 16 (.bin .eql (T 15) (ci 2)), o 17 (mv 16), og 18 (mv 0) 17 false, og 19 (.bin .eql (T 18) (ci 3)) 17 false, o 20 (.pick (T 17) (cb true) (T 19))]
def r301_11 : LO := [o 8 (mi 0)]
def r301_12 : LO := [o 22 (mv 1), o 23 (.call (cf 377) [(T 22), (ci 10), (ci 64)]), o 21 (mv 23), o 24 (.extract 0 (T 21)), o 25 (.extract 1 (T 21)), o 8 (mv 24), o 7 (mv 25)]
def r301_13 : LO := [o 26 (mv 8), o 27 (.conv (.num .u64) (T 26)), o 28 (fa 1 6), on (st 1 28 27)]
def k301_2 : ACode := .seq (.region r301_11) (.seq (.region r301_12) (.region r301_13))
def r301_16 : LO := [o 30 (mv 1), o 31 (.call (cf 372) [(T 30), (ci 10), (ci 64)]), o 29 (mv 31), o 32 (.extract 0 (T 29)), o 33 (.extract 1 (T 29)), o 34 (fa 1 6), on (st 1 34 32), o 7 (mv 33)]
def k301_3 : ACode := .seq (.region r301_10) (.cond (T 20) k301_2 (.region r301_16))
def r301_19 : LO := [o 35 (mv 7), o 36 (.eq .iface false (T 35) (.c (.v .nilIface))), o 37 (mv 36), og 38 (mv 0) 37 false, og 39 (fa 1 6) 37 false, og 40 (ld 39) 37 false, og 41 (.call (cf 378) [(T 38), (T 40)]) 37 false, og 42 (.un .not (T 41)) 37 false, o 43 (.pick (T 37) (cb true) (T 42))]
def r301_20 : LO := [o 44 (.build zV []), on (st 7 4 44), o 5 (mi 6)]
def k301_4 : ACode := .seq (.region r301_19) (.cond (T 43) (.seq (.region r301_20) .ret) .skip)
def r301_26 : LO := [o 45 (ln 7 6), on (st 7 4 45), o 5 (mi 0)]
def k301_5 : ACode := .seq (.region r301_9) (.seq k301_3 (.seq k301_4 (.seq (.region r301_26) .ret)))
def k301_6 : ACode := .seq (.region r301_0) (.seq k301_1 (.seq (.region r301_8) k301_5))
theorem fn301 : getFn Tryz.prog 301 = some (46, k301_6, [.cell 4 (some 7), .tmp 5]) := by kernel_rfl
def r420_0 : LO := [o 6 (.mv (.c (aU 0))), o 7 (.mv (.c (.v .nilIface)))]
def r420_1 : LO := [o 18 (mv 0), o 19 (.bin .eql (T 18) (.c aE))]
def r420_2 : LO := [o 20 (.iface 483 (ci 2)), o 6 (.mv (.c (aU 0))), o 7 (mv 20)]
def k420_1 : ACode := .seq (.region r420_1) (.cond (T 19) (.seq (.region r420_2) .ret) .skip)
def r420_8 : LO := [o 21 (mv 1), o 22 (.bin .eql (T 21) (ci 0)), o 8 (mv 22)]
def r420_9 : LO := [o 23 (mv 0), o 9 (mv 23)]
def r420_10 : LO := [o 26 (mv 1), o 27 (.bin .leq (ci 2) (T 26)), o 28 (mv 27), og 29 (mv 1) 28 true, og 30 (.bin .leq (T 29) (ci 36)) 28 true, o 31 (.pick (T 28) (T 30) (cb false)), o 25 (mv 31)]
def r420_12 : LO := [o 33 (mv 1), o 34 (.bin .eql (T 33) (ci 0)), o 32 (mv 34)]
def r420_13 : LO := [o 1 (mi 10)]
def r420_14 : LO := [o 35 (mv 0), o 36 (.idxS (T 35) (ci 0)), o 37 (.bin .eql (T 36) (.c (aC 48)))]
def r420_15 : LO := [o 41 (mv 0), o 42 (.len true (T 41)), o 43 (.bin .geq (T 42) (ci 3)), o 44 (mv 43), og 45 (mv 0) 44 true, og 46 (.idxS (T 45) (ci 1)) 44 true, og 47 (.call (cf 451) [(T 46)]) 44 true, og 48 (.bin .eql (T 47) (.c (aC 98))) 44 true, o 49 (.pick (T 44) (T 48) (cb false)), o 40 (mv 49)]
def r420_16 : LO := [o 1 (mi 2)]
def r420_17 : LO := [o 50 (mv 0), o 51 (.sliceS (T 50) (some (ci 2)) none), o 0 (mv 51)]
def r420_19 : LO := [o 53 (mv 0), o 54 (.len true (T 53)), o 55 (.bin .geq (T 54) (ci 3)), o 56 (mv 55), og 57 (mv 0) 56 true, og 58 (.idxS (T 57) (ci 1)) 56 true, og 59 (.call (cf 451) [(T 58)]) 56 true, og 60 (.bin .eql (T 59) (.c (aC 111))) 56 true, o 61 (.pick (T 56) (T 60) (cb false)), o 52 (mv 61)]
def r420_20 : LO := [o 1 (mi 8)]
def r420_21 : LO := [o 62 (mv 0), o 63 (.sliceS (T 62) (some (ci 2)) none), o 0 (mv 63)]
def r420_23 : LO := [o 65 (mv 0), o 66 (.len true (T 65)), o 67 (.bin .geq (T 66) (ci 3)), o 68 (mv 67), og 69 (mv 0) 68 true, og 70 (.idxS (T 69) (ci 1)) 68 true, og 71 (.call (cf 451) [(T 70)]) 68 true, og 72 (.bin .eql (T 71) (.c (aC 120))) 68 true, o 73 (.pick (T 68) (T 72) (cb false)), o 64 (mv 73)]
def r420_24 : LO := [o 1 (mi 16)]
def r420_25 : LO := [o 74 (mv 0), o 75 (.sliceS (T 74) (some (ci 2)) none), o 0 (mv 75)]
def r420_27 : LO := [o 1 (mi 8)]
def r420_28 : LO := [o 38 (mv 0), o 39 (.sliceS (T 38) (some (ci 1)) none), o 0 (mv 39)]
def k420_2 : ACode := .cond (T 64) (.seq (.region r420_24) (.region r420_25)) (.seq (.region r420_27) (.region r420_28))
def k420_3 : ACode := .cond (T 52) (.seq (.region r420_20) (.region r420_21)) (.seq (.region r420_23) k420_2)
def k420_4 : ACode := .cond (T 40) (.seq (.region r420_16) (.region r420_17)) (.seq (.region r420_19) k420_3)
def k420_5 : ACode := .cond (T 37) (.block 1 (.seq (.region r420_15) k420_4)) .skip
def r420_41 : LO := [o 24 (.iface 483 (ci 3)), o 6 (.mv (.c (aU 0))), o 7 (mv 24)]
def k420_6 : ACode := .cond (T 32) (.seq (.region r420_13) (.seq (.region r420_14) k420_5)) (.seq (.region r420_41) .ret)
def k420_7 : ACode := .seq (.region r420_10) (.cond (T 25) .skip (.seq (.region r420_12) k420_6))
def r420_49 : LO := [o 76 (mv 2), o 77 (.bin .eql (T 76) (ci 0))]
def r420_50 : LO := [o 2 (mi 64)]
def r420_51 : LO := [o 78 (mv 2), o 79 (.bin .lss (T 78) (ci 0)), o 80 (mv 79), og 81 (mv 2) 80 false, og 82 (.bin .gtr (T 81) (ci 64)) 80 false, o 83 (.pick (T 80) (cb true) (T 82))]
def r420_52 : LO := [o 84 (.iface 483 (ci 4)), o 6 (.mv (.c (aU 0))), o 7 (mv 84)]
def k420_8 : ACode := .seq (.region r420_51) (.cond (T 83) (.seq (.region r420_52) .ret) .skip)
def k420_9 : ACode := .seq (.region r420_49) (.cond (T 77) (.region r420_50) k420_8)
def r420_60 : LO := [o 10 (.mv (.c (aU 0)))]
def r420_61 : LO := [o 85 (mv 1)]
def r420_62 : LO := [o 91 (.bin .eql (T 85) (ci 10)), o 90 (mv 91)]
def r420_63 : LO := [o 10 (.mv (.c (aU 1844674407370955162)))]
def r420_64 : LO := [o 93 (.bin .eql (T 85) (ci 16)), o 92 (mv 93)]
def r420_65 : LO := [o 10 (.mv (.c (aU 1152921504606846976)))]
def r420_66 : LO := [o 86 (mv 1), o 87 (.conv (.num .u64) (T 86)), o 88 (.bin .quo (.c (aU 18446744073709551615)) (T 87)), o 89 (.bin .add (T 88) (.c (aU 1))), o 10 (mv 89)]
def k420_10 : ACode := .seq (.region r420_64) (.cond (T 92) (.region r420_65) (.region r420_66))
def k420_11 : ACode := .seq (.region r420_62) (.cond (T 90) (.region r420_63) k420_10)
def r420_73 : LO := [o 94 (mv 2), o 95 (.conv (.num .u64) (T 94)), o 96 (.bin .shl (.c (aU 1)) (T 95)), o 97 (.bin .sub (T 96) (.c (aU 1))), o 11 (mv 97)]
def r420_74 : LO := [o 12 (mb false)]
def r420_75 : LO := [o 13 (.mv (.c (aU 0)))]
def r420_76 : LO := [o 98 (mv 0), o 99 (.bytes (T 98)), o 100 (.len false (T 99)), o 101 (mi 0)]
def r420_77 : LO := [o 102 (.bin .lss (T 101) (T 100))]
def r420_81 : LO := [o 103 (.idxSl 1 (T 99) (T 101)), o 104 (ld 103), o 15 (mv 104)]
def r420_82 : LO := [o 16 (.mv (.c (aC 0)))]
def r420_83 : LO := [o 107 (mv 15), o 108 (.bin .eql (T 107) (.c (aC 95))), o 109 (mv 108), og 110 (mv 8) 109 true, o 111 (.pick (T 109) (T 110) (cb false)), o 106 (mv 111)]
def r420_84 : LO := [o 12 (mb true)]
def r420_87 : LO := [o 113 (mv 15), o 114 (.bin .leq (.c (aC 48)) (T 113)), o 115 (mv 114), og 116 (mv 15) 115 true, og 117 (.bin .leq (T 116) (.c (aC 57))) 115 true, o 118 (.pick (T 115) (T 117) (cb false)), o 112 (mv 118)]
def r420_88 : LO := [o 119 (mv 15), o 120 (.bin .sub (T 119) (.c (aC 48))), o 16 (mv 120)]
def r420_89 : LO := [o 122 (mv 15), o 123 (.call (cf 451) [(T 122)]), o 124 (.bin .leq (.c (aC 97)) (T 123)), o 125 (mv 124), og 126 (mv 15) 125 true, og 127 (.call (cf 451) [(T 126)]) 125 true, og 128 (.bin .leq (T 127) (.c (aC 122))) 125 true, o 129 (.pick (T 125) (T 128) (cb false)), o 121 (mv 129)]
def r420_90 : LO := [o 130 (mv 15), o 131 (.call (cf 451) [(T 130)]), o 132 (.bin .sub (T 131) (.c (aC 97))), o 133 (.bin .add (T 132) (.c (aC 10))), o 16 (mv 133)]
def r420_91 : LO := [o 105 (.iface 483 (ci 2)), o 6 (.mv (.c (aU 0))), o 7 (mv 105)]
def k420_12 : ACode := .cond (T 121) (.region r420_90) (.seq (.region r420_91) .ret)
def k420_13 : ACode := .cond (T 112) (.region r420_88) (.seq (.region r420_89) k420_12)
def k420_14 : ACode := .cond (T 106) (.seq (.region r420_84) (.exit 4)) (.seq (.region r420_87) k420_13)
def r420_101 : LO := [o 134 (mv 16), o 135 (mv 1), o 136 (.conv (.num .u8) (T 135)), o 137 (.bin .geq (T 134) (T 136))]
def r420_102 : LO := [o 138 (.iface 483 (ci 2)), o 6 (.mv (.c (aU 0))), o 7 (mv 138)]
def k420_15 : ACode := .seq (.region r420_101) (.cond (T 137) (.seq (.region r420_102) .ret) .skip)
def r420_108 : LO := [o 139 (mv 13), o 140 (mv 10), o 141 (.bin .geq (T 139) (T 140))]
def r420_109 : LO := [o 142 (mv 11), o 143 (.iface 483 (ci 1)), o 6 (mv 142), o 7 (mv 143)]
def k420_16 : ACode := .seq (.region r420_108) (.cond (T 141) (.seq (.region r420_109) .ret) .skip)
def r420_115 : LO := [o 144 (mv 13), o 145 (mv 1), o 146 (.conv (.num .u64) (T 145)), o 147 (.bin .mul (T 144) (T 146)), o 13 (mv 147)]
def r420_116 : LO := [o 148 (mv 13), o 149 (mv 16), o 150 (.conv (.num .u64) (T 149)), o 151 (.bin .add (T 148) (T 150)), o 17 (mv 151)]
def r420_117 : LO := [o 152 (mv 17), o 153 (mv 13), o 154 (.bin .lss (T 152) (T 153)), o 155 (mv 154), og 156 (mv 17) 155 false, og 157 (mv 11) 155 false, og 158 (.bin .gtr (T 156) (T 157)) 155 false, o 159 (.pick (T 155) (cb true) (T 158))]
def r420_118 : LO := [o 160 (mv 11), o 161 (.iface 483 (ci 1)), o 6 (mv 160), o 7 (mv 161)]
def k420_17 : ACode := .seq (.region r420_117) (.cond (T 159) (.seq (.region r420_118) .ret) .skip)
def r420_124 : LO := [o 162 (mv 17), o 13 (mv 162)]
def k420_18 : ACode := .seq (.region r420_115) (.seq (.region r420_116) (.seq k420_17 (.region r420_124)))
def k420_19 : ACode := .seq (.block 5 (.seq (.region r420_83) k420_14)) (.seq k420_15 (.seq k420_16 k420_18))
def k420_20 : ACode := .block 4 (.seq (.region r420_81) (.seq (.region r420_82) k420_19))
def r420_134 : LO := [o 163 (.bin .add (T 101) (ci 1)), o 101 (mv 163)]
def k420_21 : ACode := .seq (.cond (T 102) .skip (.exit 3)) (.seq k420_20 (.region r420_134))
def k420_22 : ACode := .seq (.region r420_77) k420_21
def r420_141 : LO := [o 164 (mv 12), o 165 (mv 164), og 166 (mv 9) 165 true, og 167 (.call (cf 452) [(T 166)]) 165 true, og 168 (.un .not (T 167)) 165 true, o 169 (.pick (T 165) (T 168) (cb false))]
def r420_142 : LO := [o 170 (.iface 483 (ci 2)), o 6 (.mv (.c (aU 0))), o 7 (mv 170)]
def k420_23 : ACode := .seq (.region r420_141) (.cond (T 169) (.seq (.region r420_142) .ret) .skip)
def r420_148 : LO := [o 171 (mv 13), o 6 (mv 171), o 7 (.mv (.c (.v .nilIface)))]
def k420_24 : ACode := .seq (.seq (.region r420_76) (.block 3 (.loop k420_22))) (.seq k420_23 (.seq (.region r420_148) .ret))
def k420_25 : ACode := .seq (.region r420_73) (.seq (.region r420_74) (.seq (.region r420_75) k420_24))
def k420_26 : ACode := .seq (.region r420_60) (.seq (.seq (.region r420_61) (.block 2 k420_11)) k420_25)
def k420_27 : ACode := .seq (.region r420_9) (.seq (.block 0 k420_7) (.seq k420_9 k420_26))
def k420_28 : ACode := .seq (.region r420_0) (.seq k420_1 (.seq (.region r420_8) k420_27))
theorem fn420 : getFn Tryz.prog 420 = some (172, k420_28, [.tmp 6, .tmp 7]) := by kernel_rfl
def r376_0 : LO := [o 2 (mb false)]
def r376_1 : LO := [o 5 (mv 0), o 6 (.call (cf 373) [(T 5), (.c (aS ⟨#[45]⟩))]), o 3 (mv 6)]
def r376_2 : LO := [o 7 (mv 3), o 8 (.bin .eql (T 7) (.c aE)), o 9 (mv 8), og 10 (mv 3) 9 false, og 11 (.idxS (T 10) (ci 0)) 9 false, og 12 (.bin .eql (T 11) (.c (aC 48))) 9 false, og 13 (mv 12) 9 false, og 14 (mv 0) 13 true, og 15 (.bin .neq (T 14) (.c (aS ⟨#[48]⟩))) 13 true, og 16 (.pick (T 13) (T 15) (cb false)) 9 false, o 17 (.pick (T 9) (cb true) (T 16))]
def r376_3 : LO := [o 2 (mb false)]
def k376_1 : ACode := .seq (.region r376_2) (.cond (T 17) (.seq (.region r376_3) .ret) .skip)
def r376_9 : LO := [o 18 (mv 3), o 19 (.len true (T 18)), o 20 (mi 0)]
def r376_10 : LO := [o 21 (.bin .lss (T 20) (T 19))]
def r376_14 : LO := [o 22 (mv 20), o 4 (mv 22)]
def r376_15 : LO := [o 23 (mv 3), o 24 (mv 4), o 25 (.idxS (T 23) (T 24)), o 26 (.bin .lss (T 25) (.c (aC 48))), o 27 (mv 26), og 28 (mv 3) 27 false, og 29 (mv 4) 27 false, og 30 (.idxS (T 28) (T 29)) 27 false, og 31 (.bin .gtr (T 30) (.c (aC 57))) 27 false, o 32 (.pick (T 27) (cb true) (T 31))]
def r376_16 : LO := [o 2 (mb false)]
def k376_2 : ACode := .seq (.region r376_15) (.cond (T 32) (.seq (.region r376_16) .ret) .skip)
def r376_24 : LO := [o 33 (.bin .add (T 20) (ci 1)), o 20 (mv 33)]
def k376_3 : ACode := .seq (.block 1 (.seq (.region r376_14) k376_2)) (.region r376_24)
def k376_4 : ACode := .seq (.region r376_10) (.seq (.cond (T 21) .skip (.exit 0)) k376_3)
def r376_31 : LO := [o 2 (mb true)]
def k376_5 : ACode := .seq (.seq (.region r376_9) (.block 0 (.loop k376_4))) (.seq (.region r376_31) .ret)
def k376_6 : ACode := .seq (.region r376_0) (.seq (.region r376_1) (.seq k376_1 k376_5))
theorem fn376 : getFn Tryz.prog 376 = some (34, k376_6, [.tmp 2]) := by kernel_rfl
def r373_0 : LO := [o 4 (.mv (.c aE))]
def r373_1 : LO := [o 5 (mv 0), o 6 (mv 1), o 7 (.call (cf 422) [(T 5), (T 6)]), o 4 (mv 7)]
def k373_1 : ACode := .seq (.region r373_0) (.seq (.region r373_1) .ret)
theorem fn373 : getFn Tryz.prog 373 = some (8, k373_1, [.tmp 4]) := by kernel_rfl
def r422_0 : LO := [o 4 (.mv (.c aE))]
def r422_1 : LO := [o 5 (mv 0), o 6 (mv 1), o 7 (.call (cf 370) [(T 5), (T 6)])]
def r422_2 : LO := [o 8 (mv 0), o 9 (mv 1), o 10 (.len true (T 9)), o 11 (.sliceS (T 8) (some (T 10)) none), o 4 (mv 11)]
def k422_1 : ACode := .seq (.region r422_1) (.cond (T 7) (.seq (.region r422_2) .ret) .skip)
def r422_8 : LO := [o 12 (mv 0), o 4 (mv 12)]
def k422_2 : ACode := .seq (.region r422_0) (.seq k422_1 (.seq (.region r422_8) .ret))
theorem fn422 : getFn Tryz.prog 422 = some (13, k422_2, [.tmp 4]) := by kernel_rfl
def r372_0 : LO := [o 6 (.mv (.c (aU 0))), o 7 (.mv (.c (.v .nilIface)))]
def r372_1 : LO := [o 11 (mv 0), o 12 (mv 1), o 13 (mv 2), o 14 (.call (cf 420) [(T 11), (T 12), (T 13)]), o 10 (mv 14), o 15 (.extract 0 (T 10)), o 16 (.extract 1 (T 10)), o 8 (mv 15), o 9 (mv 16)]
def r372_2 : LO := [o 17 (mv 9), o 18 (.eq .iface false (T 17) (.c (.v .nilIface)))]
def r372_3 : LO := [o 19 (mv 8), o 20 (mv 0), o 21 (mv 1), o 22 (mv 2), o 23 (mv 9), o 24 (.call (cf 421) [(.c (aS ⟨#[80, 97, 114, 115, 101, 85, 105, 110, 116]⟩)), (T 20), (T 21), (T 22), (T 23)]), o 6 (mv 19), o 7 (mv 24)]
def k372_1 : ACode := .seq (.region r372_2) (.cond (T 18) (.seq (.region r372_3) .ret) .skip)
def r372_9 : LO := [o 25 (mv 8), o 6 (mv 25), o 7 (.mv (.c (.v .nilIface)))]
def k372_2 : ACode := .seq (.region r372_1) (.seq k372_1 (.seq (.region r372_9) .ret))
def k372_3 : ACode := .seq (.region r372_0) k372_2
theorem fn372 : getFn Tryz.prog 372 = some (26, k372_3, [.tmp 6, .tmp 7]) := by kernel_rfl
def r85_0 : LO := [o 3 (bx 0), o 5 (bx 2), o 6 (.alloc zV)]
def r85_1 : LO := [o 9 (mv 1), o 10 (.len false (T 9)), o 11 (.bin .eql (T 10) (ci 0))]
def r85_2 : LO := [o 12 (ln 7 5), on (st 7 6 12)]
def k85_1 : ACode := .seq (.region r85_1) (.cond (T 11) (.seq (.region r85_2) .ret) .skip)
def r85_8 : LO := [o 14 (ln 7 3), o 15 (mv 1), o 16 (.idxSl 1 (T 15) (ci 0)), o 17 (ld 16), o 18 (.call (cf 158) [(T 14), (T 17)]), o 13 (mv 18), o 19 (.extract 0 (T 13)), o 20 (.extract 1 (T 13)), o 7 (mv 19)]
def r85_8t : LO := [o 8 (mv 20)]
def r85_8o : LN := [[], [], [1], [2], [0, 3], [4], [5], [5], [0, 1, 2, 3, 4, 5, 6]]
def r85_9 : LO := [o 21 (fa 5 3), o 22 (ld 21), o 23 (.call (cf 159) [(T 22)]), o 24 (fa 5 3), on (st 1 24 23)]
def r85_10 : LO := [o 25 (mv 8), o 26 (.un .not (T 25))]
def r85_11 : LO := [o 27 (fa 5 3), o 28 (ld 27), o 29 (mv 7), o 30 (mv 1), o 31 (.idxSl 1 (T 30) (ci 0)), o 32 (ld 31), o 33 (.build zV [((0, 1), (ci 10))]), o 34 (.build [(aI 0), (aI 0), (aU 0), aE, .nil, .nil, .nil, .nil] [((0, 1), (T 32)), ((1, 7), (T 33))]), o 35 (.sliceLit 8 1 [(aI 0), (aI 0), (aU 0), aE, .nil, .nil, .nil, .nil] [((0, 8), (T 34))])]
def r85_11t : LO := [o 36 (.call (cf 160) [(T 28), (T 29), (T 35)]), o 37 (fa 5 3), on (st 1 37 36)]
def r85_11o : LN := [[], [0], [], [], [3], [4], [], [5, 6], [7]]
def k85_2 : ACode := .seq (.region r85_10) (.cond (T 26) (.drawn r85_11o r85_11 r85_11t) .skip)
def r85_15 : LO := [o 38 (fa 5 3), o 39 (ld 38), o 40 (mv 7), o 41 (fa 5 3), o 42 (ld 41), o 43 (mv 7), o 44 (.idxSl 8 (T 42) (T 43)), o 45 (fa 1 44), o 46 (ln 7 45), o 47 (mv 1), o 48 (.sliceV 1 (T 47) (some (ci 1)) none none), o 49 (ln 7 5), o 50 (.call (cf 85) [(T 46), (T 48), (T 49)])]
def r85_15t : LO := [o 51 (.idxSl 8 (T 39) (T 40)), o 52 (fa 1 51), on (st 7 52 50)]
def r85_15o : LN := [[], [0], [], [], [3], [], [4, 5], [6], [7], [], [9], [], [8, 10, 11]]
def r85_16 : LO := [o 53 (ln 7 3), on (st 7 6 53)]
def k85_3 : ACode := .seq (.drawn r85_15o r85_15 r85_15t) (.seq (.region r85_16) .ret)
def k85_4 : ACode := .seq (.drawn r85_8o r85_8 r85_8t) (.seq (.region r85_9) (.seq k85_2 k85_3))
def k85_5 : ACode := .seq (.region r85_0) (.seq k85_1 k85_4)
theorem fn85 : getFn Tryz.prog 85 = some (54, k85_5, [.cell 6 (some 7)]) := by kernel_rfl
def r160_0 : LO := [o 6 (.mv (.c .nil))]
def r160_1 : LO := [o 10 (mv 0), o 11 (mv 1), o 12 (.sliceV 8 (T 10) (some (T 11)) none none)]
def r160_2 : LO := [o 13 (mv 2), o 14 (.len false (T 13)), o 7 (mv 14)]
def r160_3 : LO := [o 15 (mv 7), o 16 (.bin .eql (T 15) (ci 0))]
def r160_4 : LO := [o 17 (mv 0), o 6 (mv 17)]
def k160_1 : ACode := .seq (.region r160_3) (.cond (T 16) (.seq (.region r160_4) .ret) .skip)
def r160_10 : LO := [o 18 (mv 0), o 19 (.len false (T 18)), o 8 (mv 19)]
def r160_11 : LO := [o 20 (mv 1), o 21 (mv 8), o 22 (.bin .eql (T 20) (T 21))]
def r160_12 : LO := [o 23 (mv 0), o 24 (mv 2), o 25 (.append 67 8 136 (T 23) (T 24)), o 6 (mv 25)]
def k160_2 : ACode := .seq (.region r160_11) (.cond (T 22) (.seq (.region r160_12) .ret) .skip)
def r160_18 : LO := [o 26 (mv 8), o 27 (mv 7), o 28 (.bin .add (T 26) (T 27)), o 29 (mv 0), o 30 (.cap0 (T 29)), o 31 (.bin .gtr (T 28) (T 30))]
def r160_19 : LO := [o 32 (mv 0), o 33 (mv 1), o 34 (.sliceV 8 (T 32) none (some (T 33)) none), o 35 (mv 8), o 36 (mv 7), o 37 (.bin .add (T 35) (T 36)), o 38 (mv 1), o 39 (.bin .sub (T 37) (T 38)), o 40 (.bad), o 9 (mv 40)]
def r160_20 : LO := [o 41 (mv 9), o 42 (mv 1), o 43 (.sliceV 8 (T 41) (some (T 42)) none none), o 44 (mv 2), o 45 (.copy0 (T 43) (T 44))]
def r160_21 : LO := [o 46 (mv 9), o 47 (mv 1), o 48 (mv 7), o 49 (.bin .add (T 47) (T 48)), o 50 (.sliceV 8 (T 46) (some (T 49)) none none), o 51 (mv 0), o 52 (mv 1), o 53 (.sliceV 8 (T 51) (some (T 52)) none none)]
def r160_21t : LO := [o 54 (.copy0 (T 50) (T 53))]
def r160_21o : LN := [[], [], [], [1, 2], [0, 3], [], [], [5, 6]]
def r160_22 : LO := [o 55 (mv 9), o 6 (mv 55)]
def k160_3 : ACode := .seq (.drawn r160_21o r160_21 r160_21t) (.seq (.region r160_22) .ret)
def k160_4 : ACode := .cond (T 31) (.seq (.region r160_19) (.seq (.region r160_20) k160_3)) .skip
def r160_31 : LO := [o 56 (mv 0), o 57 (mv 8), o 58 (mv 7), o 59 (.bin .add (T 57) (T 58)), o 60 (.sliceV 8 (T 56) none (some (T 59)) none), o 0 (mv 60)]
def r160_32 : LO := [o 61 (mv 2), o 62 (mv 0), o 63 (mv 1), o 64 (mv 7), o 65 (.bin .add (T 63) (T 64)), o 66 (.sliceV 8 (T 62) (some (T 65)) none none), o 67 (.call (cf 228) [(T 61), (T 66)]), o 68 (.un .not (T 67))]
def r160_33 : LO := [o 69 (mv 0), o 70 (mv 1), o 71 (mv 7), o 72 (.bin .add (T 70) (T 71)), o 73 (.sliceV 8 (T 69) (some (T 72)) none none), o 74 (mv 0), o 75 (mv 1), o 76 (.sliceV 8 (T 74) (some (T 75)) none none)]
def r160_33t : LO := [o 77 (.copy0 (T 73) (T 76))]
def r160_33o : LN := [[], [], [], [1, 2], [0, 3], [], [], [5, 6]]
def r160_34 : LO := [o 78 (mv 0), o 79 (mv 1), o 80 (.sliceV 8 (T 78) (some (T 79)) none none), o 81 (mv 2), o 82 (.copy0 (T 80) (T 81))]
def r160_35 : LO := [o 83 (mv 0), o 6 (mv 83)]
def k160_5 : ACode := .seq (.drawn r160_33o r160_33 r160_33t) (.seq (.region r160_34) (.seq (.region r160_35) .ret))
def r160_43 : LO := [o 84 (mv 0), o 85 (mv 8), o 86 (.sliceV 8 (T 84) (some (T 85)) none none), o 87 (mv 2), o 88 (.copy0 (T 86) (T 87))]
def r160_44 : LO := [o 89 (mv 0), o 90 (mv 1), o 91 (.sliceV 8 (T 89) (some (T 90)) none none), o 92 (mv 7), o 93 (.call (cf 229) [(T 91), (T 92)])]
def r160_45 : LO := [o 94 (mv 0), o 6 (mv 94)]
def k160_6 : ACode := .seq (.region r160_43) (.seq (.region r160_44) (.seq (.region r160_45) .ret))
def k160_7 : ACode := .seq (.seq (.region r160_32) (.cond (T 68) k160_5 .skip)) k160_6
def k160_8 : ACode := .seq (.seq (.region r160_18) k160_4) (.seq (.region r160_31) k160_7)
def k160_9 : ACode := .seq (.region r160_2) (.seq k160_1 (.seq (.region r160_10) (.seq k160_2 k160_8)))
def k160_10 : ACode := .seq (.region r160_0) (.seq (.region r160_1) k160_9)
theorem fn160 : getFn Tryz.prog 160 = some (95, k160_10, [.tmp 6]) := by kernel_rfl
def r38_0 : LO := [o 4 (bx 0), o 6 (bx 2), o 7 (bx 3), o 8 (.alloc zV), o 9 (mi 0)]
def r38_1 : LO := [o 17 (fa 0 4), o 18 (ln 3 17), o 19 (mv 1), o 20 (fa 0 7), o 21 (ld 20), o 22 (.call (cf 86) [(T 18), (T 19), (T 21)]), o 16 (mv 22), o 23 (.extract 0 (T 16)), o 24 (.extract 1 (T 16)), o 10 (mv 23), o 11 (mv 24)]
def r38_2 : LO := [o 25 (mv 11), o 26 (.bin .neq (T 25) (ci 0))]
def r38_3 : LO := [o 27 (ln 7 6), o 28 (mv 11), on (st 7 8 27), o 9 (mv 28)]
def k38_1 : ACode := .seq (.region r38_2) (.cond (T 26) (.seq (.region r38_3) .ret) .skip)
def r38_9 : LO := [o 29 (mv 10), o 30 (.call (cf 87) [(T 29)]), o 12 (mv 30)]
def r38_10 : LO := [o 32 (ln 7 6), o 33 (mv 12), o 34 (.call (cf 88) [(T 32), (T 33)]), o 31 (mv 34), o 35 (.extract 0 (T 31)), o 36 (.extract 1 (T 31)), o 13 (.alloc zV), on (st 7 13 35), o 14 (mv 36)]
def r38_11 : LO := [o 37 (mv 14)]
def r38_12 : LO := [o 38 (ln 7 6), on (st 7 8 38), o 9 (mi 9)]
def k38_2 : ACode := .seq (.region r38_11) (.cond (T 37) (.seq (.region r38_12) .ret) .skip)
def r38_19 : LO := [o 40 (ln 5 4), o 41 (ln 5 4), o 42 (mv 1), o 43 (mv 10), o 44 (.call (cf 90) [(T 41), (T 42), (T 43)]), o 45 (fa 1 7), o 46 (ld 45), o 47 (.call (cf 89) [(T 40), (T 44), (T 46)]), o 39 (mv 47), o 48 (.extract 0 (T 39)), o 49 (.extract 1 (T 39)), o 15 (.alloc zV), on (st 7 15 48)]
def r38_19t : LO := [o 11 (mv 49)]
def r38_19o : LN := [[], [], [], [], [1, 2, 3], [], [5], [0, 4, 6], [7], [8], [8], [], [0, 1, 2, 3, 4, 5, 6, 7, 8, 9, 11]]
def r38_20 : LO := [o 50 (mv 11), o 51 (.bin .neq (T 50) (ci 0))]
def r38_21 : LO := [o 52 (ln 7 6), o 53 (mv 11), on (st 7 8 52), o 9 (mv 53)]
def k38_3 : ACode := .seq (.region r38_20) (.cond (T 51) (.seq (.region r38_21) .ret) .skip)
def r38_27 : LO := [o 54 (ln 7 6), o 55 (mv 12), o 56 (ln 7 15), o 57 (.call (cf 85) [(T 54), (T 55), (T 56)]), on (st 7 8 57), o 9 (mi 0)]
def k38_4 : ACode := .seq (.drawn r38_19o r38_19 r38_19t) (.seq k38_3 (.seq (.region r38_27) .ret))
def k38_5 : ACode := .seq (.region r38_9) (.seq (.seq (.region r38_10) k38_2) k38_4)
def k38_6 : ACode := .seq (.region r38_0) (.seq (.region r38_1) (.seq k38_1 k38_5))
theorem fn38 : getFn Tryz.prog 38 = some (58, k38_6, [.cell 8 (some 7), .tmp 9]) := by kernel_rfl
def r37_0 : LO := [o 4 (bx 0), o 6 (bx 2), o 7 (bx 3), o 8 (.alloc zV), o 9 (mi 0)]
def r37_1 : LO := [o 15 (.build zV [((0, 1), (ci 10))]), o 10 (.alloc zV), on (st 7 10 15)]
def r37_2 : LO := [o 17 (fa 4 6), o 18 (ld 17), o 19 (.bin .eql (T 18) (.c aE)), o 20 (mv 19), og 21 (fa 3 7) 20 true, og 22 (ld 21) 20 true, og 23 (.bin .neq (T 22) (.c aE)) 20 true, o 24 (.pick (T 20) (T 23) (cb false)), o 25 (mv 24), og 26 (fa 4 6) 25 false, og 27 (ld 26) 25 false, og 28 (.bin .eql (T 27) (.c (aS ⟨#[42]⟩))) 25 false, og 29 (mv 28) 25 false, og 30 (fa 2 7) 29 true, og 31 (ld 30) 29 true, og 32 (.len false (T 31)) 29 true, og 33 (.bin .gtr (T 32) (ci 0)) 29 true, og 34 (.pick (T 29) (T 33) (cb false)) 25 false, o 35 (.pick (T 25) (cb true) (T 34)), o 16 (mv 35)]
def r37_3 : LO := [o 36 (ln 7 10), on (st 7 8 36), o 9 (mi 18)]
def r37_6 : LO := [o 38 (fa 4 6), o 39 (ld 38), o 40 (.bin .eql (T 39) (.c aE)), o 37 (mv 40)]
def r37_7 : LO := [o 41 (ln 7 10), on (st 7 8 41), o 9 (mi 0)]
def r37_10 : LO := [o 43 (fa 4 6), o 44 (ld 43), o 45 (.bin .eql (T 44) (.c (aS ⟨#[42]⟩))), o 42 (mv 45)]
def r37_11 : LO := [o 46 (fa 3 4), o 47 (ln 2 46), o 48 (mv 1), o 49 (fa 3 7), o 50 (ld 49), o 51 (.call (cf 84) []), o 52 (.call (cf 83) [(T 47), (T 48), (T 50), (T 51)]), o 53 (.extract 0 (T 52)), o 54 (.extract 1 (T 52))]
def r37_11t : LO := [on (st 7 8 53), o 9 (mv 54)]
def r37_11o : LN := [[], [0], [], [], [3], [], [1, 2, 4, 5], [6], [6]]
def k37_1 : ACode := .cond (T 42) (.seq (.drawn r37_11o r37_11 r37_11t) .ret) .skip
def k37_2 : ACode := .cond (T 37) (.seq (.region r37_7) .ret) (.seq (.region r37_10) k37_1)
def k37_3 : ACode := .cond (T 16) (.seq (.region r37_3) .ret) (.seq (.region r37_6) k37_2)
def r37_22 : LO := [o 56 (fa 0 4), o 57 (ln 3 56), o 58 (mv 1), o 59 (ln 5 6), o 60 (.call (cf 55) [(T 57), (T 58), (T 59)]), o 55 (mv 60), o 61 (.extract 0 (T 55)), o 62 (.extract 1 (T 55)), o 11 (.alloc [(aI 0), aE, (aI 0), (aI 0), (aI 0), aE, aE, (aB false), (aI 0), (aU 0), aE, .nil, .nil, .nil, .nil, .nil]), on (st 16 11 61), o 12 (mv 62)]
def r37_23 : LO := [o 64 (fa 3 4), o 65 (ln 2 64), o 66 (fa 4 11), o 67 (fa 1 66), o 68 (ld 67), o 69 (fa 3 7), o 70 (ld 69), o 71 (.call (cf 84) []), o 72 (.call (cf 83) [(T 65), (T 68), (T 70), (T 71)]), o 63 (mv 72), o 73 (.extract 0 (T 63)), o 74 (.extract 1 (T 63)), o 13 (.alloc zV), on (st 7 13 73)]
def r37_23t : LO := [o 14 (mv 74)]
def r37_23o : LN := [[], [0], [], [2], [3], [], [5], [], [1, 4, 6, 7], [8], [9], [9], [], [0, 1, 2, 3, 4, 5, 6, 7, 8, 9, 10, 12]]
def r37_24 : LO := [o 75 (mv 14), o 76 (.bin .neq (T 75) (ci 0))]
def r37_25 : LO := [o 77 (ln 7 10), o 78 (mv 14), on (st 7 8 77), o 9 (mv 78)]
def k37_4 : ACode := .seq (.region r37_24) (.cond (T 76) (.seq (.region r37_25) .ret) .skip)
def r37_31 : LO := [o 79 (ln 7 10), o 80 (fa 0 11), o 81 (ld 80), o 82 (.sliceLit 1 1 [(aI 0)] [((0, 1), (T 81))]), o 83 (ln 7 13), o 84 (.call (cf 85) [(T 79), (T 82), (T 83)]), on (st 7 8 84), o 9 (mi 0)]
def k37_5 : ACode := .seq (.drawn r37_23o r37_23 r37_23t) (.seq k37_4 (.seq (.region r37_31) .ret))
def k37_6 : ACode := .seq (.block 0 (.seq (.region r37_2) k37_3)) (.seq (.region r37_22) k37_5)
def k37_7 : ACode := .seq (.region r37_0) (.seq (.region r37_1) k37_6)
theorem fn37 : getFn Tryz.prog 37 = some (85, k37_7, [.cell 8 (some 7), .tmp 9]) := by kernel_rfl
def r11_0 : LO := [o 6 (mi 0), o 7 (.mv (.c .nil)), o 8 (mi 0)]
def r11_1 : LO := [o 13 (mv 0), o 14 (.len false (T 13)), o 15 (mi 0)]
def r11_2 : LO := [o 16 (.bin .lss (T 15) (T 14))]
def r11_6 : LO := [o 17 (mv 15), o 18 (.idxSl 5 (T 13) (T 15)), o 19 (ln 5 18), o 10 (.alloc [aE, aE, aE, aE, aE]), o 9 (mv 17), on (st 5 10 19)]
def r11_7 : LO := [o 21 (ln 5 10), o 22 (mv 1), o 23 (mv 2), o 24 (.call (cf 29) [(T 21), (T 22), (T 23)]), o 20 (mv 24), o 25 (.extract 0 (T 20)), o 26 (.extract 1 (T 20)), o 11 (mv 25), o 12 (mv 26)]
def r11_8 : LO := [o 27 (mv 12)]
def r11_9 : LO := [o 28 (mv 9), o 29 (mv 11), o 6 (mv 28), o 7 (mv 29), o 8 (mi 0)]
def k11_1 : ACode := .seq (.region r11_8) (.cond (T 27) (.seq (.region r11_9) .ret) .skip)
def r11_18 : LO := [o 30 (.bin .add (T 15) (ci 1)), o 15 (mv 30)]
def k11_2 : ACode := .seq (.block 1 (.seq (.region r11_6) (.seq (.region r11_7) k11_1))) (.region r11_18)
def k11_3 : ACode := .seq (.region r11_2) (.seq (.cond (T 16) .skip (.exit 0)) k11_2)
def r11_25 : LO := [o 6 (mi 0), o 7 (.mv (.c .nil)), o 8 (mi 10)]
def k11_4 : ACode := .seq (.seq (.region r11_1) (.block 0 (.loop k11_3))) (.seq (.region r11_25) .ret)
def k11_5 : ACode := .seq (.region r11_0) k11_4
theorem fn11 : getFn Tryz.prog 11 = some (31, k11_5, [.tmp 6, .tmp 7, .tmp 8]) := by kernel_rfl
def r29_0 : LO := [o 3 (bx 0), o 6 (.mv (.c .nil)), o 7 (mb false)]
def r29_1 : LO := [o 20 (fa 1 3), o 21 (ld 20), o 22 (.call (cf 52) [(T 21)]), o 19 (mv 22), o 23 (.extract 0 (T 19)), o 24 (.extract 1 (T 19)), o 8 (mv 23), o 9 (mv 24)]
def r29_2 : LO := [o 26 (mv 2), o 27 (.call (cf 66) [(T 26)]), o 25 (mv 27), o 28 (.extract 0 (T 25)), o 29 (.extract 1 (T 25)), o 10 (mv 28), o 11 (mv 29)]
def r29_3 : LO := [o 30 (mv 9), o 31 (.un .not (T 30)), o 32 (mv 31), og 33 (mv 11) 32 false, og 34 (.un .not (T 33)) 32 false, o 35 (.pick (T 32) (cb true) (T 34)), o 36 (mv 35), og 37 (fa 0 3) 36 false, og 38 (ld 37) 36 false, og 39 (mv 1) 36 false, og 40 (.bin .neq (T 38) (T 39)) 36 false, o 41 (.pick (T 36) (cb true) (T 40)), o 42 (mv 41), og 43 (mv 8) 42 false, og 44 (.len false (T 43)) 42 false, og 45 (mv 10) 42 false, og 46 (.len false (T 45)) 42 false, og 47 (.bin .neq (T 44) (T 46)) 42 false, o 48 (.pick (T 42) (cb true) (T 47))]
def r29_4 : LO := [o 6 (.mv (.c .nil)), o 7 (mb false)]
def k29_1 : ACode := .seq (.region r29_3) (.cond (T 48) (.seq (.region r29_4) .ret) .skip)
def r29_10 : LO := [o 12 (.mv (.c .nil))]
def r29_11 : LO := [o 49 (mv 8), o 50 (.len false (T 49)), o 51 (mi 0)]
def r29_12 : LO := [o 52 (.bin .lss (T 51) (T 50))]
def r29_16 : LO := [o 53 (mv 51), o 54 (.idxSl 1 (T 49) (T 51)), o 55 (ld 54), o 13 (mv 53), o 14 (mv 55)]
def r29_17 : LO := [o 57 (mv 14), o 58 (.call (cf 67) [(T 57)]), o 56 (mv 58), o 59 (.extract 0 (T 56)), o 60 (.extract 1 (T 56)), o 15 (mv 59), o 16 (mv 60)]
def r29_18 : LO := [o 61 (mv 16), o 62 (.un .not (T 61)), o 63 (mv 62), og 64 (mv 14) 63 true, og 65 (mv 10) 63 true, og 66 (mv 13) 63 true, og 67 (.idxSl 1 (T 65) (T 66)) 63 true, og 68 (ld 67) 63 true, og 69 (.bin .neq (T 64) (T 68)) 63 true, o 70 (.pick (T 63) (T 69) (cb false))]
def r29_19 : LO := [o 6 (.mv (.c .nil)), o 7 (mb false)]
def k29_2 : ACode := .seq (.region r29_18) (.cond (T 70) (.seq (.region r29_19) .ret) .skip)
def r29_25 : LO := [o 71 (mv 16)]
def r29_26 : LO := [o 73 (mv 10), o 74 (mv 13), o 75 (.idxSl 1 (T 73) (T 74)), o 76 (ld 75), o 77 (.call (cf 19) [(T 76)]), o 72 (mv 77), o 78 (.extract 0 (T 72)), o 79 (.extract 1 (T 72)), o 17 (mv 78), o 18 (mv 79)]
def r29_27 : LO := [o 80 (mv 18), o 81 (.bin .neq (T 80) (ci 0)), o 82 (mv 81), og 83 (mv 10) 82 false, og 84 (mv 13) 82 false, og 85 (.idxSl 1 (T 83) (T 84)) 82 false, og 86 (ld 85) 82 false, og 87 (.bin .eql (T 86) (.c aE)) 82 false, o 88 (.pick (T 82) (cb true) (T 87))]
def r29_28 : LO := [o 6 (.mv (.c .nil)), o 7 (mb false)]
def k29_3 : ACode := .seq (.region r29_27) (.cond (T 88) (.seq (.region r29_28) .ret) .skip)
def r29_34 : LO := [o 89 (mv 12), o 90 (mv 15), o 91 (mv 17), o 92 (.build [aE, aE] [((0, 1), (T 90)), ((1, 1), (T 91))]), o 93 (.sliceLit 2 1 [aE, aE] [((0, 2), (T 92))]), o 94 (.append 47 2 32 (T 89) (T 93)), o 12 (mv 94)]
def k29_4 : ACode := .cond (T 71) (.seq (.region r29_26) (.seq k29_3 (.region r29_34))) .skip
def k29_5 : ACode := .seq (.region r29_17) (.seq k29_2 (.seq (.region r29_25) k29_4))
def r29_44 : LO := [o 95 (.bin .add (T 51) (ci 1)), o 51 (mv 95)]
def k29_6 : ACode := .seq (.block 1 (.seq (.region r29_16) k29_5)) (.region r29_44)
def k29_7 : ACode := .seq (.region r29_12) (.seq (.cond (T 52) .skip (.exit 0)) k29_6)
def r29_51 : LO := [o 96 (mv 12), o 6 (mv 96), o 7 (mb true)]
def k29_8 : ACode := .seq (.seq (.region r29_11) (.block 0 (.loop k29_7))) (.seq (.region r29_51) .ret)
def k29_9 : ACode := .seq (.region r29_2) (.seq k29_1 (.seq (.region r29_10) k29_8))
def k29_10 : ACode := .seq (.region r29_0) (.seq (.region r29_1) k29_9)
theorem fn29 : getFn Tryz.prog 29 = some (97, k29_10, [.tmp 6, .tmp 7]) := by kernel_rfl
def r16_0 : LO := [o 0 (.alloc [.nil, .nil, .nil]), o 1 (.alloc [aE, aE, aE, aE, aE])]
def r16_1 : LO := [o 4 (.build [(aI 0), aE] [((0, 1), (ci 4))]), o 5 (.build [(aI 0), aE, (aI 0), (aI 0), (aI 0), aE, aE, (aB false), (aI 0), (aU 0), aE, .nil, .nil, .nil, .nil, .nil] [((0, 1), (ci 1)), ((1, 1), (.c (aS ⟨#[105, 100]⟩))), ((2, 1), (ci 3)), ((4, 2), (T 4))]), o 6 (.build [(aI 0), aE] [((0, 1), (ci 7))]), o 7 (.build [(aI 0), aE, (aI 0), (aI 0), (aI 0), aE, aE, (aB false), (aI 0), (aU 0), aE, .nil, .nil, .nil, .nil, .nil] [((0, 1), (ci 2)), ((1, 1), (.c (aS ⟨#[116, 97, 103]⟩))), ((2, 1), (ci 4)), ((4, 2), (T 6))]), o 8 (.sliceLit 16 2 [(aI 0), aE, (aI 0), (aI 0), (aI 0), aE, aE, (aB false), (aI 0), (aU 0), aE, .nil, .nil, .nil, .nil, .nil, (aI 0), aE, (aI 0), (aI 0), (aI 0), aE, aE, (aB false), (aI 0), (aU 0), aE, .nil, .nil, .nil, .nil, .nil] [((0, 16), (T 5)), ((16, 16), (T 7))]), o 9 (.build [aE, .nil, .nil, .nil, .nil] [((0, 1), (.c (aS ⟨#[77]⟩))), ((1, 1), (T 8))]), o 2 (.alloc [aE, .nil, .nil, .nil, .nil]), on (st 5 2 9)]
def r16_2 : LO := [o 10 (.build [aE, aE, aE, (aI 0), .nil] [((0, 1), (.c (aS ⟨#[71, 101, 116]⟩))), ((1, 1), (.c (aS ⟨#[77]⟩))), ((2, 1), (.c (aS ⟨#[77]⟩))), ((3, 1), (ci 1))]), o 11 (.sliceLit 5 1 [aE, aE, aE, (aI 0), .nil] [((0, 5), (T 10))]), o 12 (.build [aE, .nil, .nil] [((0, 1), (.c (aS ⟨#[83]⟩))), ((1, 1), (T 11))]), o 3 (.alloc [aE, .nil, .nil]), on (st 3 3 12)]
def r16_3 : LO := [o 13 (ln 5 2), o 14 (.sliceLit 5 1 [aE, .nil, .nil, .nil, .nil] [((0, 5), (T 13))]), o 15 (ln 3 3), o 16 (.sliceLit 3 1 [aE, .nil, .nil] [((0, 3), (T 15))]), o 17 (.build [.nil, .nil, .nil] [((0, 1), (T 14)), ((2, 1), (T 16))]), o 18 (.build [aE, aE, aE, aE, aE] [((0, 1), (.c (aS ⟨#[71, 69, 84]⟩))), ((1, 1), (.c (aS ⟨#[47, 117, 115, 101, 114, 115, 47, 123, 105, 100, 125]⟩))), ((2, 1), (.c (aS ⟨#[83]⟩))), ((3, 1), (.c (aS ⟨#[71, 101, 116]⟩)))]), on (st 3 0 17), on (st 5 1 18)]
def k16_1 : ACode := .seq (.region r16_1) (.seq (.region r16_2) (.seq (.region r16_3) .ret))
def k16_2 : ACode := .seq (.region r16_0) k16_1
theorem fn16 : getFn Tryz.prog 16 = some (19, k16_2, [.cell 0 (some 3), .cell 1 (some 5)]) := by kernel_rfl
def r13_0 : LO := [o 2 (bx 0), o 3 (bx 1), o 4 (mb false)]
def r13_1 : LO := [o 6 (fa 0 2), o 7 (ld 6), o 8 (fa 0 3), o 9 (ld 8), o 10 (.bin .neq (T 7) (T 9)), o 11 (mv 10), og 12 (fa 1 2) 11 false, og 13 (ld 12) 11 false, og 14 (fa 1 3) 11 false, og 15 (ld 14) 11 false, og 16 (.bin .neq (T 13) (T 15)) 11 false, o 17 (.pick (T 11) (cb true) (T 16)), o 18 (mv 17), og 19 (fa 3 2) 18 false, og 20 (ld 19) 18 false, og 21 (fa 3 3) 18 false, og 22 (ld 21) 18 false, og 23 (.bin .neq (T 20) (T 22)) 18 false, o 24 (.pick (T 18) (cb true) (T 23)), o 25 (mv 24), og 26 (fa 2 2) 25 false, og 27 (ld 26) 25 false, og 28 (.len false (T 27)) 25 false, og 29 (fa 2 3) 25 false, og 30 (ld 29) 25 false, og 31 (.len false (T 30)) 25 false, og 32 (.bin .neq (T 28) (T 31)) 25 false, o 33 (.pick (T 25) (cb true) (T 32))]
def r13_2 : LO := [o 4 (mb false)]
def k13_1 : ACode := .seq (.region r13_1) (.cond (T 33) (.seq (.region r13_2) .ret) .skip)
def r13_8 : LO := [o 5 (mi 0)]
def r13_9 : LO := [o 34 (mv 5), o 35 (fa 2 2), o 36 (ld 35), o 37 (.len false (T 36)), o 38 (.bin .lss (T 34) (T 37))]
def r13_14 : LO := [o 41 (fa 2 2), o 42 (ld 41), o 43 (mv 5), o 44 (.idxSl 2 (T 42) (T 43)), o 45 (fa 0 44), o 46 (ld 45), o 47 (fa 2 3), o 48 (ld 47), o 49 (mv 5), o 50 (.idxSl 2 (T 48) (T 49)), o 51 (fa 0 50), o 52 (ld 51), o 53 (.bin .neq (T 46) (T 52)), o 54 (mv 53), og 55 (fa 2 2) 54 false, og 56 (ld 55) 54 false, og 57 (mv 5) 54 false, og 58 (.idxSl 2 (T 56) (T 57)) 54 false, og 59 (fa 1 58) 54 false, og 60 (ld 59) 54 false, og 61 (fa 2 3) 54 false, og 62 (ld 61) 54 false, og 63 (mv 5) 54 false, og 64 (.idxSl 2 (T 62) (T 63)) 54 false, og 65 (fa 1 64) 54 false, og 66 (ld 65) 54 false]
def r13_14t : LO := [og 67 (.bin .neq (T 60) (T 66)) 54 false, o 68 (.pick (T 54) (cb true) (T 67))]
def r13_14o : LN := [[], [0], [], [1, 2], [3], [4], [], [6], [], [7, 8], [9], [10], [5, 11], [12], [13], [13, 14], [13], [13, 15, 16], [13, 17], [13, 18], [13], [13, 20], [13], [13, 21, 22], [13, 23], [13, 24]]
def r13_15 : LO := [o 4 (mb false)]
def k13_2 : ACode := .seq (.drawn r13_14o r13_14 r13_14t) (.cond (T 68) (.seq (.region r13_15) .ret) .skip)
def r13_22 : LO := [o 39 (mv 5), o 40 (.bin .add (T 39) (ci 1)), o 5 (mv 40)]
def k13_3 : ACode := .seq (.seq (.region r13_9) (.cond (T 38) .skip (.exit 0))) (.seq (.block 1 k13_2) (.region r13_22))
def r13_28 : LO := [o 4 (mb true)]
def k13_4 : ACode := .seq (.seq (.region r13_8) (.block 0 (.loop k13_3))) (.seq (.region r13_28) .ret)
def k13_5 : ACode := .seq (.region r13_0) (.seq k13_1 k13_4)
theorem fn13 : getFn Tryz.prog 13 = some (69, k13_5, [.tmp 4]) := by kernel_rfl
def r8_0 : LO := [o 2 (bx 0), o 4 (mi 0)]
def r8_1 : LO := [o 10 (mv 1), o 11 (.len false (T 10)), o 12 (.bin .gtr (T 11) (ci 64))]
def r8_2 : LO := [o 4 (mi 3)]
def k8_1 : ACode := .seq (.region r8_1) (.cond (T 12) (.seq (.region r8_2) .ret) .skip)
def r8_8 : LO := [o 13 (mv 1), o 14 (.len false (T 13)), o 15 (mi 0)]
def r8_9 : LO := [o 16 (.bin .lss (T 15) (T 14))]
def r8_13 : LO := [o 17 (.idxSl 5 (T 13) (T 15)), o 18 (ln 5 17), o 6 (.alloc [aE, aE, aE, aE, aE]), on (st 5 6 18)]
def r8_14 : LO := [o 19 (ln 3 2), o 20 (ln 5 6), o 21 (.call (cf 23) [(T 19), (T 20)]), o 7 (mv 21)]
def r8_15 : LO := [o 22 (mv 7), o 23 (.bin .neq (T 22) (ci 0))]
def r8_16 : LO := [o 24 (mv 7), o 4 (mv 24)]
def k8_2 : ACode := .seq (.region r8_15) (.cond (T 23) (.seq (.region r8_16) .ret) .skip)
def r8_25 : LO := [o 25 (.bin .add (T 15) (ci 1)), o 15 (mv 25)]
def k8_3 : ACode := .seq (.block 1 (.seq (.region r8_13) (.seq (.region r8_14) k8_2))) (.region r8_25)
def k8_4 : ACode := .seq (.region r8_9) (.seq (.cond (T 16) .skip (.exit 0)) k8_3)
def r8_32 : LO := [o 26 (mv 1), o 27 (.len false (T 26)), o 28 (mi 0)]
def r8_33 : LO := [o 29 (.bin .lss (T 28) (T 27))]
def r8_37 : LO := [o 30 (mv 28), o 31 (.idxSl 5 (T 26) (T 28)), o 32 (ln 5 31), o 9 (.alloc [aE, aE, aE, aE, aE]), o 8 (mv 30), on (st 5 9 32)]
def r8_38 : LO := [o 33 (mv 1), o 34 (mv 8), o 35 (.sliceV 5 (T 33) none (some (T 34)) none), o 36 (.func (.func 25) [] [(T 9)]), o 37 (.call (cf 24) [(T 35), (T 36)])]
def r8_39 : LO := [o 4 (mi 9)]
def k8_5 : ACode := .seq (.region r8_38) (.cond (T 37) (.seq (.region r8_39) .ret) .skip)
def r8_47 : LO := [o 38 (.bin .add (T 28) (ci 1)), o 28 (mv 38)]
def k8_6 : ACode := .seq (.cond (T 29) .skip (.exit 2)) (.seq (.block 3 (.seq (.region r8_37) k8_5)) (.region r8_47))
def k8_7 : ACode := .seq (.region r8_33) k8_6
def r8_54 : LO := [o 4 (mi 0)]
def k8_8 : ACode := .seq (.seq (.region r8_32) (.block 2 (.loop k8_7))) (.seq (.region r8_54) .ret)
def k8_9 : ACode := .seq k8_1 (.seq (.seq (.region r8_8) (.block 0 (.loop k8_4))) k8_8)
def k8_10 : ACode := .seq (.region r8_0) k8_9
theorem fn8 : getFn Tryz.prog 8 = some (39, k8_10, [.tmp 4]) := by kernel_rfl
def r25_0 : LO := [o 2 (bx 0), o 3 (mb false)]
def r25_1 : LO := [o 4 (ln 5 2), o 5 (ln 5 1), o 6 (.call (cf 26) [(T 4), (T 5)]), o 3 (mv 6)]
def k25_1 : ACode := .seq (.region r25_0) (.seq (.region r25_1) .ret)
theorem fn25 : getFn Tryz.prog 25 = some (7, k25_1, [.tmp 3]) := by kernel_rfl
def r26_0 : LO := [o 2 (bx 0), o 3 (bx 1), o 4 (mb false)]
def r26_1 : LO := [o 11 (fa 1 2), o 12 (ld 11), o 13 (.call (cf 52) [(T 12)]), o 10 (mv 13), o 14 (.extract 0 (T 10)), o 15 (.extract 1 (T 10)), o 5 (mv 14), o 6 (mv 15)]
def r26_2 : LO := [o 17 (fa 1 3), o 18 (ld 17), o 19 (.call (cf 52) [(T 18)]), o 16 (mv 19), o 20 (.extract 0 (T 16)), o 21 (.extract 1 (T 16)), o 7 (mv 20), o 8 (mv 21)]
def r26_3 : LO := [o 22 (fa 0 2), o 23 (ld 22), o 24 (fa 0 3), o 25 (ld 24), o 26 (.bin .neq (T 23) (T 25)), o 27 (mv 26), og 28 (mv 5) 27 false, og 29 (.len false (T 28)) 27 false, og 30 (mv 7) 27 false, og 31 (.len false (T 30)) 27 false, og 32 (.bin .neq (T 29) (T 31)) 27 false, o 33 (.pick (T 27) (cb true) (T 32))]
def r26_4 : LO := [o 4 (mb false)]
def k26_1 : ACode := .seq (.region r26_3) (.cond (T 33) (.seq (.region r26_4) .ret) .skip)
def r26_10 : LO := [o 34 (mv 5), o 35 (.len false (T 34)), o 36 (mi 0)]
def r26_11 : LO := [o 37 (.bin .lss (T 36) (T 35))]
def r26_15 : LO := [o 38 (mv 36), o 9 (mv 38)]
def r26_16 : LO := [o 39 (mv 5), o 40 (mv 9), o 41 (.idxSl 1 (T 39) (T 40)), o 42 (ld 41), o 43 (.call (cf 59) [(T 42)]), o 44 (mv 43), og 45 (mv 7) 44 true, og 46 (mv 9) 44 true, og 47 (.idxSl 1 (T 45) (T 46)) 44 true, og 48 (ld 47) 44 true, og 49 (.call (cf 59) [(T 48)]) 44 true, o 50 (.pick (T 44) (T 49) (cb false)), o 51 (mv 50), og 52 (mv 5) 51 true, og 53 (mv 9) 51 true, og 54 (.idxSl 1 (T 52) (T 53)) 51 true, og 55 (ld 54) 51 true, og 56 (mv 7) 51 true, og 57 (mv 9) 51 true, og 58 (.idxSl 1 (T 56) (T 57)) 51 true, og 59 (ld 58) 51 true]
def r26_16t : LO := [og 60 (.bin .neq (T 55) (T 59)) 51 true, o 61 (.pick (T 51) (T 60) (cb false))]
def r26_16o : LN := [[], [], [0, 1], [2], [3], [4], [5], [5], [5, 6, 7], [5, 8], [5, 9], [5, 10], [10, 11], [12], [12], [12, 13, 14], [12, 15], [12], [12], [12, 17, 18], [12, 19]]
def r26_17 : LO := [o 4 (mb false)]
def k26_2 : ACode := .seq (.drawn r26_16o r26_16 r26_16t) (.cond (T 61) (.seq (.region r26_17) .ret) .skip)
def r26_25 : LO := [o 62 (.bin .add (T 36) (ci 1)), o 36 (mv 62)]
def k26_3 : ACode := .seq (.block 1 (.seq (.region r26_15) k26_2)) (.region r26_25)
def k26_4 : ACode := .seq (.region r26_11) (.seq (.cond (T 37) .skip (.exit 0)) k26_3)
def r26_32 : LO := [o 4 (mb true)]
def k26_5 : ACode := .seq (.seq (.region r26_10) (.block 0 (.loop k26_4))) (.seq (.region r26_32) .ret)
def k26_6 : ACode := .seq (.region r26_1) (.seq (.region r26_2) (.seq k26_1 k26_5))
def k26_7 : ACode := .seq (.region r26_0) k26_6
theorem fn26 : getFn Tryz.prog 26 = some (63, k26_7, [.tmp 4]) := by kernel_rfl
def r24_0 : LO := [o 4 (mb false)]
def r24_1 : LO := [o 5 (mv 0), o 6 (mv 1), o 7 (.call (cf 58) [(T 5), (T 6)]), o 8 (.bin .geq (T 7) (ci 0)), o 4 (mv 8)]
def k24_1 : ACode := .seq (.region r24_0) (.seq (.region r24_1) .ret)
theorem fn24 : getFn Tryz.prog 24 = some (9, k24_1, [.tmp 4]) := by kernel_rfl
def r58_0 : LO := [o 4 (mi 0)]
def r58_1 : LO := [o 6 (mv 0), o 7 (.len false (T 6)), o 8 (mi 0)]
def r58_2 : LO := [o 9 (.bin .lss (T 8) (T 7))]
def r58_6 : LO := [o 10 (mv 8), o 5 (mv 10)]
def r58_7 : LO := [o 11 (mv 1), o 12 (mv 0), o 13 (mv 5), o 14 (.idxSl 5 (T 12) (T 13)), o 15 (ln 5 14), o 16 (.call (T 11) [(T 15)])]
def r58_8 : LO := [o 17 (mv 5), o 4 (mv 17)]
def k58_1 : ACode := .seq (.region r58_7) (.cond (T 16) (.seq (.region r58_8) .ret) .skip)
def r58_16 : LO := [o 18 (.bin .add (T 8) (ci 1)), o 8 (mv 18)]
def k58_2 : ACode := .seq (.block 1 (.seq (.region r58_6) k58_1)) (.region r58_16)
def k58_3 : ACode := .seq (.region r58_2) (.seq (.cond (T 9) .skip (.exit 0)) k58_2)
def r58_23 : LO := [o 4 (mi (-1))]
def k58_4 : ACode := .seq (.seq (.region r58_1) (.block 0 (.loop k58_3))) (.seq (.region r58_23) .ret)
def k58_5 : ACode := .seq (.region r58_0) k58_4
theorem fn58 : getFn Tryz.prog 58 = some (19, k58_5, [.tmp 4]) := by kernel_rfl
theorem tok_cons {P : Program} {T : Tbl} {g : Nat} {x : Nat × ACode × List ARes} (h : getFn P g = some x) (t : TblOK P T) (hc : isCC x.2.1 = false := by rfl) (hk : isKn x.2.1 = none := by rfl) : TblOK P ((g, x) :: T) := by
 intro f y hf
 rcases List.mem_cons.1 hf with e | hf
 ·cases e; unfold EntOK; rw [hk, hc]; exact h
 ·exact t f y hf
theorem tok_nil {P : Program} : TblOK P [] := fun _ _ h => by cases h
def tblG : Tbl := [
 (7, (186, k7_5, [.tmp 0])),
 (22, (14, k22_3, [.tmp 2])),
 (21, (35, k21_6, [.tmp 2])),
 (51, (19, k51_2, [.tmp 4, .tmp 5])),
 (50, (37, k50_1, [.tmp 2])),
 (45, (14, k45_1, [.tmp 2])),
 (43, (17, k43_2, [.tmp 4])),
 (20, (53, k20_6, [.cell 8 (some 2)])),
 (49, (32, k49_3, [.tmp 6, .tmp 7])),
 (116, (75, k116_16, [.tmp 4])),
 (197, (25, k197_3, [])),
 (275, (30, k275_1, [])),
 (115, (8, k115_2, [.tmp 2, .tmp 3])),
 (114, (59, k114_11, [.tmp 2, .tmp 3])),
 (113, (40, k113_6, [.tmp 6, .tmp 7])),
 (196, (86, k196_7, [.cell 6 (some 7)])),
 (102, (20, k102_8, [.tmp 4])),
 (182, (6, k182_1, [.tmp 2])),
 (273, (27, k273_1, [.tmp 2])),
 (180, (20, k180_1, [.tmp 2])),
 (252, (28, k252_3, [.tmp 2])),
 (299, (9, k299_1, [.tmp 2])),
 (164, (9, k164_1, [.tmp 2])),
 (272, (67, k272_12, [.cell 6 (some 7)])),
 (356, (17, k356_2, [.cell 6 (some 7)])),
 (179, (14, k179_2, [.cell 2 (some 7)])),
 (163, (12, k163_1, [.cell 4 (some 8), .tmp 5])),
 (237, (20, k237_3, [.cell 4 (some 8), .tmp 5])),
 (305, (19, k305_5, [.tmp 4])),
 (236, (8, k236_1, [.tmp 3])),
 (100, (9, .region r100_0, [])),
 (181, (63, k181_9, [])),
 (253, (53, k253_6, [])),
 (97, (40, k97_6, [.tmp 2])),
 (174, (10, k174_1, [.tmp 4])),
 (173, (9, .region r173_0, [])),
 (245, (63, k245_9, [])),
 (314, (53, k314_6, [])),
 (159, (8, k159_2, [.tmp 2])),
 (96, (8, k96_2, [.tmp 2])),
 (195, (86, k195_12, [])),
 (271, (43, k271_9, [.tmp 2])),
 (355, (8, k355_1, [.tmp 4])),
 (414, (32, k414_5, [.tmp 4])),
 (445, (15, k445_2, [.tmp 2])),
 (353, (20, k353_4, [.tmp 2])),
 (413, (41, k413_7, [.tmp 6])),
 (438, (16, k438_1, [.tmp 6])),
 (370, (18, k370_1, [.tmp 4])),
 (328, (39, k328_2, [.tmp 4])),
 (378, (28, k378_8, [.tmp 4])),
 (337, (6, k337_1, [.tmp 2])),
 (403, (16, k403_5, [.tmp 2])),
 (270, (58, k270_3, [])),
 (255, (40, k255_5, [.tmp 6])),
 (194, (45, k194_14, [.tmp 2])),
 (193, (32, k193_5, [.tmp 6])),
 (269, (77, k269_17, [.tmp 8])),
 (347, (69, k347_9, [.tmp 10])),
 (410, (59, k410_11, [.tmp 8])),
 (462, (49, k462_6, [.tmp 8])),
 (346, (74, k346_1, [.tmp 2])),
 (441, (31, k441_3, [.tmp 8])),
 (409, (9, k409_1, [.tmp 3])),
 (242, (9, k242_1, [.tmp 4])),
 (311, (19, k311_5, [.tmp 4])),
 (95, (23, k95_4, [.tmp 2])),
 (172, (40, k172_7, [.tmp 2])),
 (92, (8, k92_2, [.tmp 2])),
 (162, (15, k162_1, [.tmp 4, .tmp 5])),
 (235, (8, k235_1, [.tmp 3])),
 (234, (19, k234_5, [.tmp 4])),
 (48, (45, k48_10, [.cell 2 (some 2), .tmp 3])),
 (192, (18, k192_3, [.cell 4 (some 7), .tmp 5])),
 (268, (8, k268_1, [.tmp 4])),
 (344, (19, k344_5, [.tmp 4])),
 (111, (68, k111_7, [.cell 4 (some 3)])),
 (190, (19, k190_4, [.tmp 4])),
 (264, (19, k264_5, [.tmp 4])),
 (189, (12, k189_1, [.tmp 2])),
 (117, (19, k117_5, [.tmp 4])),
 (53, (9, k53_1, [.tmp 4])),
 (110, (7, k110_1, [.tmp 2])),
 (188, (99, k188_17, [.tmp 2])),
 (263, (106, k263_9, [.tmp 4])),
 (340, (10, k340_1, [.tmp 2])),
 (396, (27, k396_16, [.tmp 2])),
 (81, (36, k81_5, [.tmp 2])),
 (151, (27, k151_5, [.tmp 2])),
 (338, (15, k338_1, [])),
 (404, (31, k404_7, [.tmp 4])),
 (257, (27, k257_1, [])),
 (334, (11, k334_1, [.tmp 2])),
 (329, (9, k329_1, [.tmp 4])),
 (394, (19, k394_5, [.tmp 4])),
 (150, (8, k150_1, [.tmp 4])),
 (217, (66, k217_10, [.tmp 8])),
 (216, (143, k216_19, [.tmp 4])),
 (107, (8, k107_1, [.tmp 4])),
 (288, (34, k288_7, [.tmp 4])),
 (80, (19, k80_5, [.tmp 2])),
 (331, (19, k331_3, [.cell 4 (some 5), .tmp 5])),
 (395, (8, k395_1, [.tmp 3])),
 (343, (8, k343_1, [.tmp 4])),
 (407, (9, k407_1, [.tmp 4])),
 (440, (19, k440_5, [.tmp 4])),
 (336, (52, k336_4, [])),
 (261, (79, k261_9, [.tmp 6])),
 (339, (11, k339_1, [.tmp 6])),
 (332, (30, k332_5, [.tmp 2])),
 (335, (112, k335_5, [])),
 (402, (59, k402_5, [.tmp 4])),
 (436, (34, k436_1, [.tmp 2])),
 (401, (50, k401_4, [.tmp 4])),
 (431, (9, k431_1, [.tmp 4])),
 (380, (19, k380_5, [.tmp 4])),
 (400, (57, k400_5, [.tmp 4])),
 (399, (19, k399_2, [.tmp 4])),
 (398, (5, k398_1, [.tmp 2])),
 (397, (12, k397_1, [.tmp 6])),
 (432, (16, k432_1, [.tmp 5])),
 (260, (42, k260_8, [.tmp 2])),
 (259, (19, k259_8, [.tmp 2])),
 (330, (10, k330_1, [.tmp 4])),
 (258, (20, k258_4, [.tmp 2])),
 (256, (56, k256_10, [.cell 2 (some 3)])),
 (46, (20, k46_2, [.cell 2 (some 2)])),
 (108, (12, k108_2, [.tmp 2])),
 (36, (39, k36_4, [.cell 4 (some 5), .tmp 5])),
 (82, (36, k82_3, [.cell 4 (some 5), .tmp 5])),
 (154, (8, k154_1, [.tmp 3])),
 (153, (21, k153_5, [.cell 4 (some 5), .tmp 5])),
 (152, (12, k152_1, [.cell 4 (some 3), .tmp 5])),
 (219, (8, k219_1, [.tmp 3])),
 (218, (21, k218_5, [.cell 4 (some 3), .tmp 5])),
 (79, (13, k79_1, [.tmp 4, .tmp 5, .tmp 6])),
 (149, (23, k149_3, [.tmp 4, .tmp 5, .tmp 6])),
 (19, (56, k19_9, [.tmp 2, .tmp 3])),
 (44, (8, k44_1, [.tmp 4])),
 (18, (69, k18_6, [.cell 6 (some 4), .tmp 7])),
 (42, (100, k42_9, [.cell 8 (some 4), .tmp 9])),
 (105, (119, k105_11, [.tmp 10, .tmp 11])),
 (185, (51, k185_6, [.tmp 8, .tmp 9])),
 (183, (17, k183_2, [.tmp 6])),
 (88, (33, k88_6, [.cell 4 (some 7), .tmp 5])),
 (158, (12, k158_1, [.tmp 4, .tmp 5])),
 (227, (9, k227_1, [.tmp 4])),
 (226, (49, k226_4, [.tmp 6, .tmp 7])),
 (104, (47, k104_5, [.cell 4 (some 7)])),
 (184, (33, k184_4, [.tmp 6])),
 (103, (90, k103_11, [.tmp 8, .cell 9 (some 7), .tmp 10])),
 (90, (48, k90_3, [.cell 6 (some 8)])),
 (87, (19, k87_4, [.tmp 2])),
 (86, (81, k86_11, [.tmp 6, .tmp 7])),
 (122, (23, k122_3, [.cell 4 (some 16), .tmp 5])),
 (198, (8, k198_1, [.tmp 3])),
 (175, (21, k175_5, [.cell 4 (some 16), .tmp 5])),
 (93, (12, k93_1, [.cell 4 (some 5), .tmp 5])),
 (166, (8, k166_1, [.tmp 3])),
 (165, (21, k165_5, [.cell 4 (some 5), .tmp 5])),
 (67, (33, k67_3, [.tmp 2, .tmp 3])),
 (52, (42, k52_7, [.tmp 2, .tmp 3])),
 (66, (46, k66_6, [.tmp 2, .tmp 3])),
 (59, (29, k59_5, [.tmp 2])),
 (55, (52, k55_3, [.cell 6 (some 16), .tmp 7])),
 (41, (64, k41_5, [.cell 6 (some 7)])),
 (99, (87, k99_12, [.cell 6 (some 7), .tmp 7])),
 (177, (17, k177_2, [.cell 6 (some 7)])),
 (98, (12, k98_1, [.cell 4 (some 16), .tmp 5])),
 (176, (8, k176_1, [.tmp 3])),
 (40, (28, k40_5, [.tmp 6])),
 (94, (77, k94_16, [.tmp 8])),
 (312, (12, k312_1, [.cell 4 (some 5), .tmp 5])),
 (384, (21, k384_5, [.cell 4 (some 5), .tmp 5])),
 (169, (8, k169_1, [.tmp 4])),
 (243, (8, k243_1, [.tmp 3])),
 (168, (63, k168_8, [.tmp 10])),
 (241, (61, k241_11, [.tmp 8])),
 (381, (57, k381_7, [.tmp 6])),
 (167, (74, k167_1, [.tmp 2])),
 (309, (31, k309_3, [.tmp 8])),
 (239, (12, k239_2, [.tmp 4])),
 (238, (8, k238_1, [.tmp 3])),
 (35, (9, k35_1, [.tmp 4])),
 (34, (16, k34_1, [.cell 2 (some 5), .tmp 3])),
 (23, (80, k23_10, [.tmp 4])),
 (56, (9, k56_1, [.tmp 4])),
 (123, (19, k123_5, [.tmp 4])),
 (54, (68, k54_9, [.tmp 6, .tmp 7])),
 (119, (11, k119_1, [.tmp 2])),
 (118, (33, k118_6, [.tmp 2])),
 (91, (13, k91_1, [.tmp 2])),
 (17, (139, k17_14, [.tmp 6, .cell 7 (some 7), .tmp 8])),
 (39, (111, k39_10, [.cell 10 (some 7), .tmp 11])),
 (89, (20, k89_2, [.cell 6 (some 7), .tmp 7])),
 (161, (103, k161_14, [.cell 6 (some 7), .tmp 7])),
 (230, (53, k230_7, [.cell 4 (some 7), .tmp 5])),
 (301, (46, k301_6, [.cell 4 (some 7), .tmp 5])),
 (420, (172, k420_28, [.tmp 6, .tmp 7])),
 (376, (34, k376_6, [.tmp 2])),
 (373, (8, k373_1, [.tmp 4])),
 (422, (13, k422_2, [.tmp 4])),
 (372, (26, k372_3, [.tmp 6, .tmp 7])),
 (85, (54, k85_5, [.cell 6 (some 7)])),
 (160, (95, k160_10, [.tmp 6])),
 (38, (58, k38_6, [.cell 8 (some 7), .tmp 9])),
 (37, (85, k37_7, [.cell 8 (some 7), .tmp 9])),
 (11, (31, k11_5, [.tmp 6, .tmp 7, .tmp 8])),
 (29, (97, k29_10, [.tmp 6, .tmp 7])),
 (16, (19, k16_2, [.cell 0 (some 3), .cell 1 (some 5)])),
 (13, (69, k13_5, [.tmp 4])),
 (8, (39, k8_10, [.tmp 4])),
 (25, (7, k25_1, [.tmp 3])),
 (26, (63, k26_7, [.tmp 4])),
 (24, (9, k24_1, [.tmp 4])),
 (58, (19, k58_5, [.tmp 4]))]
theorem tblG_ok : TblOK Tryz.prog tblG :=
 tok_cons fn7 (tok_cons fn22 (tok_cons fn21 (tok_cons fn51 (tok_cons fn50 (tok_cons fn45 (tok_cons fn43 (tok_cons fn20 (tok_cons fn49 (tok_cons fn116 (tok_cons fn197 (tok_cons fn275 (tok_cons fn115 (tok_cons fn114 (tok_cons fn113 (tok_cons fn196 (tok_cons fn102 (tok_cons fn182 (tok_cons fn273 (tok_cons fn180 (tok_cons fn252 (tok_cons fn299 (tok_cons fn164 (tok_cons fn272 (tok_cons fn356 (tok_cons fn179 (tok_cons fn163 (tok_cons fn237 (tok_cons fn305 (tok_cons fn236 (tok_cons fn100 (tok_cons fn181 (tok_cons fn253 (tok_cons fn97 (tok_cons fn174 (tok_cons fn173 (tok_cons fn245 (tok_cons fn314 (tok_cons fn159 (tok_cons fn96 (tok_cons fn195 (tok_cons fn271 (tok_cons fn355 (tok_cons fn414 (tok_cons fn445 (tok_cons fn353 (tok_cons fn413 (tok_cons fn438 (tok_cons fn370 (tok_cons fn328 (tok_cons fn378 (tok_cons fn337 (tok_cons fn403 (tok_cons fn270 (tok_cons fn255 (tok_cons fn194 (tok_cons fn193 (tok_cons fn269 (tok_cons fn347 (tok_cons fn410 (tok_cons fn462 (tok_cons fn346 (tok_cons fn441 (tok_cons fn409 (tok_cons fn242 (tok_cons fn311 (tok_cons fn95 (tok_cons fn172 (tok_cons fn92 (tok_cons fn162 (tok_cons fn235 (tok_cons fn234 (tok_cons fn48 (tok_cons fn192 (tok_cons fn268 (tok_cons fn344 (tok_cons fn111 (tok_cons fn190 (tok_cons fn264 (tok_cons fn189 (tok_cons fn117 (tok_cons fn53 (tok_cons fn110 (tok_cons fn188 (tok_cons fn263 (tok_cons fn340 (tok_cons fn396 (tok_cons fn81 (tok_cons fn151 (tok_cons fn338 (tok_cons fn404 (tok_cons fn257 (tok_cons fn334 (tok_cons fn329 (tok_cons fn394 (tok_cons fn150 (tok_cons fn217 (tok_cons fn216 (tok_cons fn107 (tok_cons fn288 (tok_cons fn80 (tok_cons fn331 (tok_cons fn395 (tok_cons fn343 (tok_cons fn407 (tok_cons fn440 (tok_cons fn336 (tok_cons fn261 (tok_cons fn339 (tok_cons fn332 (tok_cons fn335 (tok_cons fn402 (tok_cons fn436 (tok_cons fn401 (tok_cons fn431 (tok_cons fn380 (tok_cons fn400 (tok_cons fn399 (tok_cons fn398 (tok_cons fn397 (tok_cons fn432 (tok_cons fn260 (tok_cons fn259 (tok_cons fn330 (tok_cons fn258 (tok_cons fn256 (tok_cons fn46 (tok_cons fn108 (tok_cons fn36 (tok_cons fn82 (tok_cons fn154 (tok_cons fn153 (tok_cons fn152 (tok_cons fn219 (tok_cons fn218 (tok_cons fn79 (tok_cons fn149 (tok_cons fn19 (tok_cons fn44 (tok_cons fn18 (tok_cons fn42 (tok_cons fn105 (tok_cons fn185 (tok_cons fn183 (tok_cons fn88 (tok_cons fn158 (tok_cons fn227 (tok_cons fn226 (tok_cons fn104 (tok_cons fn184 (tok_cons fn103 (tok_cons fn90 (tok_cons fn87 (tok_cons fn86 (tok_cons fn122 (tok_cons fn198 (tok_cons fn175 (tok_cons fn93 (tok_cons fn166 (tok_cons fn165 (tok_cons fn67 (tok_cons fn52 (tok_cons fn66 (tok_cons fn59 (tok_cons fn55 (tok_cons fn41 (tok_cons fn99 (tok_cons fn177 (tok_cons fn98 (tok_cons fn176 (tok_cons fn40 (tok_cons fn94 (tok_cons fn312 (tok_cons fn384 (tok_cons fn169 (tok_cons fn243 (tok_cons fn168 (tok_cons fn241 (tok_cons fn381 (tok_cons fn167 (tok_cons fn309 (tok_cons fn239 (tok_cons fn238 (tok_cons fn35 (tok_cons fn34 (tok_cons fn23 (tok_cons fn56 (tok_cons fn123 (tok_cons fn54 (tok_cons fn119 (tok_cons fn118 (tok_cons fn91 (tok_cons fn17 (tok_cons fn39 (tok_cons fn89 (tok_cons fn161 (tok_cons fn230 (tok_cons fn301 (tok_cons fn420 (tok_cons fn376 (tok_cons fn373 (tok_cons fn422 (tok_cons fn372 (tok_cons fn85 (tok_cons fn160 (tok_cons fn38 (tok_cons fn37 (tok_cons fn11 (tok_cons fn29 (tok_cons fn16 (tok_cons fn13 (tok_cons fn8 (tok_cons fn25 (tok_cons fn26 (tok_cons fn24 (tok_cons fn58 tok_nil)))))))))))))))))))))))))))))))))))))))))))))))))))))))))))))))))))))))))))))))))))))))))))))))))))))))))))))))))))))))))))))))))))))))))))))))))))))))))))))))))))))))))))))))))))))))))))))))))))))))))))))))))))))))
def tbl : Tbl := (106, 121, .from_ .skip 0, []) :: tblG
theorem tbl_ok : TblOK Tryz.prog tbl := by
 intro g x hm
 rcases List.mem_cons.1 hm with h | h
 ·cases h; exact cc_ok
 ·exact tblG_ok g x h
def gl0 : List (Nat × List AV) := [(1, [.v (.string ⟨#[111, 107]⟩), .v (.string ⟨#[99, 97, 110, 99, 101, 108, 108, 101, 100]⟩), .v (.string ⟨#[105, 110, 118, 97, 108, 105, 100]⟩), .v (.string ⟨#[100, 101, 97, 100, 108, 105, 110, 101]⟩), .v (.string ⟨#[110, 111, 116, 95, 102, 111, 117, 110, 100]⟩), .v (.string ⟨#[101, 120, 105, 115, 116, 115]⟩), .v (.string ⟨#[100, 101, 110, 105, 101, 100]⟩), .v (.string ⟨#[101, 120, 104, 97, 117, 115, 116, 101, 100]⟩), .v (.string ⟨#[102, 97, 105, 108, 101, 100]⟩), .v (.string ⟨#[97, 98, 111, 114, 116, 101, 100]⟩), .v (.string ⟨#[117, 110, 105, 109, 112, 108, 101, 109, 101, 110, 116, 101, 100]⟩), .v (.string ⟨#[105, 110, 116, 101, 114, 110, 97, 108]⟩), .v (.string ⟨#[117, 110, 97, 118, 97, 105, 108, 97, 98, 108, 101]⟩), .v (.string ⟨#[100, 97, 116, 97, 95, 108, 111, 115, 115]⟩)])]
def mode0 (f : Nat) (md : Bool) : Bool := if [85, 104].contains f then true else if [159, 160, 184].contains f then md else false
def kn0 : List AV := [(.tuple [(.v (.int .i64 0)), (.sl [[(.v (.string ⟨#[105, 100]⟩)), (.v (.string ⟨#[55]⟩))]] .no), (.v (.int .i64 0))]), (.sl [[(.v (.string ⟨#[71, 69, 84]⟩)), (.v (.string ⟨#[47, 117, 115, 101, 114, 115, 47, 123, 105, 100, 125]⟩)), (.v (.string ⟨#[83]⟩)), (.v (.string ⟨#[71, 101, 116]⟩)), (.v (.string ⟨#[]⟩))]] .full), (.v (.string ⟨#[71, 69, 84]⟩)), (.v (.string ⟨#[47, 117, 115, 101, 114, 115, 47, 55]⟩))]
def kn1 : List AV := [(.tuple [(.agg [(.sl [[(.v (.string ⟨#[77]⟩)), (.sl [[(.v (.int .i64 1)), (.v (.string ⟨#[105, 100]⟩)), (.v (.string ⟨#[]⟩)), (.v (.int .i64 3)), (.v (.int .i64 0)), (.v (.int .i64 4)), (.v (.int .i64 (-1))), (.v (.int .i64 (-1)))], [(.v (.int .i64 2)), (.v (.string ⟨#[116, 97, 103]⟩)), (.v (.string ⟨#[]⟩)), (.v (.int .i64 4)), (.v (.int .i64 0)), (.v (.int .i64 7)), (.v (.int .i64 (-1))), (.v (.int .i64 (-1)))]] .no), (.v (.int .i64 0))]] .no), .nil]), (.v (.int .i64 0))]), (.agg [(.sl [[(.v (.string ⟨#[77]⟩)), (.sl [[(.v (.int .i64 1)), (.v (.string ⟨#[105, 100]⟩)), (.v (.int .i64 3)), (.v (.int .i64 0)), (.v (.int .i64 4)), (.v (.string ⟨#[]⟩)), (.v (.string ⟨#[]⟩)), (.v (.bool false)), (.v (.int .i64 0)), (.v (.int .u64 0)), (.v (.string ⟨#[]⟩)), .nil, .nil, .nil, .nil, .nil], [(.v (.int .i64 2)), (.v (.string ⟨#[116, 97, 103]⟩)), (.v (.int .i64 4)), (.v (.int .i64 0)), (.v (.int .i64 7)), (.v (.string ⟨#[]⟩)), (.v (.string ⟨#[]⟩)), (.v (.bool false)), (.v (.int .i64 0)), (.v (.int .u64 0)), (.v (.string ⟨#[]⟩)), .nil, .nil, .nil, .nil, .nil]] .full), .nil, .nil, .nil]] .full), .nil, (.sl [[(.v (.string ⟨#[83]⟩)), (.sl [[(.v (.string ⟨#[71, 101, 116]⟩)), (.v (.string ⟨#[77]⟩)), (.v (.string ⟨#[77]⟩)), (.v (.int .i64 1)), .nil]] .full), .nil]] .full)])]
def kn2 : List AV := [(.v (.int .i64 0)), (.agg [(.sl [[(.v (.string ⟨#[77]⟩)), (.sl [[(.v (.int .i64 1)), (.v (.string ⟨#[105, 100]⟩)), (.v (.int .i64 3)), (.v (.int .i64 0)), (.v (.int .i64 4)), (.v (.string ⟨#[]⟩)), (.v (.string ⟨#[]⟩)), (.v (.bool false)), (.v (.int .i64 0)), (.v (.int .u64 0)), (.v (.string ⟨#[]⟩)), .nil, .nil, .nil, .nil, .nil], [(.v (.int .i64 2)), (.v (.string ⟨#[116, 97, 103]⟩)), (.v (.int .i64 4)), (.v (.int .i64 0)), (.v (.int .i64 7)), (.v (.string ⟨#[]⟩)), (.v (.string ⟨#[]⟩)), (.v (.bool false)), (.v (.int .i64 0)), (.v (.int .u64 0)), (.v (.string ⟨#[]⟩)), .nil, .nil, .nil, .nil, .nil]] .full), .nil, .nil, .nil]] .full), .nil, (.sl [[(.v (.string ⟨#[83]⟩)), (.sl [[(.v (.string ⟨#[71, 101, 116]⟩)), (.v (.string ⟨#[77]⟩)), (.v (.string ⟨#[77]⟩)), (.v (.int .i64 1)), .nil]] .full), .nil]] .full)]), (.agg [(.v (.string ⟨#[71, 69, 84]⟩)), (.v (.string ⟨#[47, 117, 115, 101, 114, 115, 47, 123, 105, 100, 125]⟩)), (.v (.string ⟨#[83]⟩)), (.v (.string ⟨#[71, 101, 116]⟩)), (.v (.string ⟨#[]⟩))])]
def kn3 : List AV := [(.v (.int .i64 0)), (.agg [(.sl [[(.v (.string ⟨#[77]⟩)), (.sl [[(.v (.int .i64 1)), (.v (.string ⟨#[105, 100]⟩)), (.v (.int .i64 3)), (.v (.int .i64 0)), (.v (.int .i64 4)), (.v (.string ⟨#[]⟩)), (.v (.string ⟨#[]⟩)), (.v (.bool false)), (.v (.int .i64 0)), (.v (.int .u64 0)), (.v (.string ⟨#[]⟩)), .nil, .nil, .nil, .nil, .nil], [(.v (.int .i64 2)), (.v (.string ⟨#[116, 97, 103]⟩)), (.v (.int .i64 4)), (.v (.int .i64 0)), (.v (.int .i64 7)), (.v (.string ⟨#[]⟩)), (.v (.string ⟨#[]⟩)), (.v (.bool false)), (.v (.int .i64 0)), (.v (.int .u64 0)), (.v (.string ⟨#[]⟩)), .nil, .nil, .nil, .nil, .nil]] .full), .nil, .nil, .nil]] .full), .nil, (.sl [[(.v (.string ⟨#[83]⟩)), (.sl [[(.v (.string ⟨#[71, 101, 116]⟩)), (.v (.string ⟨#[77]⟩)), (.v (.string ⟨#[77]⟩)), (.v (.int .i64 1)), .nil]] .full), .nil]] .full)]), (.v (.string ⟨#[77]⟩)), (.agg [(.v (.int .i64 10)), (.v (.int .u64 0)), (.v (.string ⟨#[]⟩)), .nil, .nil, (.sl [[(.v (.int .i64 1)), (.v (.int .i64 4)), (.v (.int .u64 7)), (.v (.string ⟨#[]⟩)), .nil, .nil, .nil, .nil], [(.v (.int .i64 2)), (.v (.int .i64 11)), (.v (.int .u64 0)), (.v (.string ⟨#[]⟩)), (.sl [[(.v (.int .i64 7)), (.v (.int .u64 0)), (.v (.string ⟨#[97, 32, 98]⟩)), .nil, .nil, .nil, .nil]] .no), .nil, .nil, .nil]] .no), .nil])]
def kn4 : List AV := [(.agg [(.v (.int .i64 10)), (.v (.int .u64 0)), (.v (.string ⟨#[]⟩)), .nil, .nil, (.sl [[(.v (.int .i64 1)), (.v (.int .i64 4)), (.v (.int .u64 7)), (.v (.string ⟨#[]⟩)), .nil, .nil, .nil, .nil], [(.v (.int .i64 2)), (.v (.int .i64 11)), (.v (.int .u64 0)), (.v (.string ⟨#[]⟩)), (.sl [[(.v (.int .i64 7)), (.v (.int .u64 0)), (.v (.string ⟨#[97, 32, 98]⟩)), .nil, .nil, .nil, .nil]] .no), .nil, .nil, .nil]] .no), .nil]), (.agg [(.sl [[(.v (.string ⟨#[77]⟩)), (.sl [[(.v (.int .i64 1)), (.v (.string ⟨#[105, 100]⟩)), (.v (.int .i64 3)), (.v (.int .i64 0)), (.v (.int .i64 4)), (.v (.string ⟨#[]⟩)), (.v (.string ⟨#[]⟩)), (.v (.bool false)), (.v (.int .i64 0)), (.v (.int .u64 0)), (.v (.string ⟨#[]⟩)), .nil, .nil, .nil, .nil, .nil], [(.v (.int .i64 2)), (.v (.string ⟨#[116, 97, 103]⟩)), (.v (.int .i64 4)), (.v (.int .i64 0)), (.v (.int .i64 7)), (.v (.string ⟨#[]⟩)), (.v (.string ⟨#[]⟩)), (.v (.bool false)), (.v (.int .i64 0)), (.v (.int .u64 0)), (.v (.string ⟨#[]⟩)), .nil, .nil, .nil, .nil, .nil]] .full), .nil, .nil, .nil]] .full), .nil, (.sl [[(.v (.string ⟨#[83]⟩)), (.sl [[(.v (.string ⟨#[71, 101, 116]⟩)), (.v (.string ⟨#[77]⟩)), (.v (.string ⟨#[77]⟩)), (.v (.int .i64 1)), .nil]] .full), .nil]] .full)]), (.v (.string ⟨#[77]⟩)), (.agg [(.v (.int .i64 10)), (.v (.int .u64 0)), (.v (.string ⟨#[]⟩)), .nil, .nil, (.sl [[(.v (.int .i64 1)), (.v (.int .i64 4)), (.v (.int .u64 7)), (.v (.string ⟨#[]⟩)), .nil, .nil, .nil, .nil], [(.v (.int .i64 2)), (.v (.int .i64 11)), (.v (.int .u64 0)), (.v (.string ⟨#[]⟩)), (.sl [[(.v (.int .i64 7)), (.v (.int .u64 0)), (.v (.string ⟨#[97, 32, 98]⟩)), .nil, .nil, .nil, .nil]] .no), .nil, .nil, .nil]] .no), .nil])]
def kn5 : List AV := [(.tuple [(.v (.string ⟨#[83, 47, 71, 101, 116]⟩)), (.agg [(.v (.int .i64 10)), (.v (.int .u64 0)), (.v (.string ⟨#[]⟩)), .nil, .nil, (.sl [[(.v (.int .i64 1)), (.v (.int .i64 4)), (.v (.int .u64 7)), (.v (.string ⟨#[]⟩)), .nil, .nil, .nil, .nil], [(.v (.int .i64 2)), (.v (.int .i64 11)), (.v (.int .u64 0)), (.v (.string ⟨#[]⟩)), (.sl [[(.v (.int .i64 7)), (.v (.int .u64 0)), (.v (.string ⟨#[97, 32, 98]⟩)), .nil, .nil, .nil, .nil]] .no), .nil, .nil, .nil]] .no), .nil]), (.v (.int .i64 0))]), (.agg [(.sl [[(.v (.string ⟨#[77]⟩)), (.sl [[(.v (.int .i64 1)), (.v (.string ⟨#[105, 100]⟩)), (.v (.int .i64 3)), (.v (.int .i64 0)), (.v (.int .i64 4)), (.v (.string ⟨#[]⟩)), (.v (.string ⟨#[]⟩)), (.v (.bool false)), (.v (.int .i64 0)), (.v (.int .u64 0)), (.v (.string ⟨#[]⟩)), .nil, .nil, .nil, .nil, .nil], [(.v (.int .i64 2)), (.v (.string ⟨#[116, 97, 103]⟩)), (.v (.int .i64 4)), (.v (.int .i64 0)), (.v (.int .i64 7)), (.v (.string ⟨#[]⟩)), (.v (.string ⟨#[]⟩)), (.v (.bool false)), (.v (.int .i64 0)), (.v (.int .u64 0)), (.v (.string ⟨#[]⟩)), .nil, .nil, .nil, .nil, .nil]] .full), .nil, .nil, .nil]] .full), .nil, (.sl [[(.v (.string ⟨#[83]⟩)), (.sl [[(.v (.string ⟨#[71, 101, 116]⟩)), (.v (.string ⟨#[77]⟩)), (.v (.string ⟨#[77]⟩)), (.v (.int .i64 1)), .nil]] .full), .nil]] .full)]), (.sl [[(.v (.string ⟨#[71, 69, 84]⟩)), (.v (.string ⟨#[47, 117, 115, 101, 114, 115, 47, 123, 105, 100, 125]⟩)), (.v (.string ⟨#[83]⟩)), (.v (.string ⟨#[71, 101, 116]⟩)), (.v (.string ⟨#[]⟩))]] .full), (.agg [(.v (.string ⟨#[71, 69, 84]⟩)), (.v (.string ⟨#[47, 117, 115, 101, 114, 115, 47, 55]⟩)), (.sl [[(.v (.string ⟨#[116, 97, 103]⟩)), (.v (.string ⟨#[97, 32, 98]⟩))]] .full), (.v (.string ⟨#[]⟩))])]
def kn6 : List AV := [(.tuple [(.agg [(.v (.string ⟨#[71, 69, 84]⟩)), (.v (.string ⟨#[47, 117, 115, 101, 114, 115, 47, 55]⟩)), (.sl [[(.v (.string ⟨#[116, 97, 103]⟩)), (.v (.string ⟨#[97, 32, 98]⟩))]] .no), (.v (.string ⟨#[]⟩))]), (.v (.int .i64 0))]), (.agg [(.sl [[(.v (.string ⟨#[77]⟩)), (.sl [[(.v (.int .i64 1)), (.v (.string ⟨#[105, 100]⟩)), (.v (.int .i64 3)), (.v (.int .i64 0)), (.v (.int .i64 4)), (.v (.string ⟨#[]⟩)), (.v (.string ⟨#[]⟩)), (.v (.bool false)), (.v (.int .i64 0)), (.v (.int .u64 0)), (.v (.string ⟨#[]⟩)), .nil, .nil, .nil, .nil, .nil], [(.v (.int .i64 2)), (.v (.string ⟨#[116, 97, 103]⟩)), (.v (.int .i64 4)), (.v (.int .i64 0)), (.v (.int .i64 7)), (.v (.string ⟨#[]⟩)), (.v (.string ⟨#[]⟩)), (.v (.bool false)), (.v (.int .i64 0)), (.v (.int .u64 0)), (.v (.string ⟨#[]⟩)), .nil, .nil, .nil, .nil, .nil]] .full), .nil, .nil, .nil]] .full), .nil, (.sl [[(.v (.string ⟨#[83]⟩)), (.sl [[(.v (.string ⟨#[71, 101, 116]⟩)), (.v (.string ⟨#[77]⟩)), (.v (.string ⟨#[77]⟩)), (.v (.int .i64 1)), .nil]] .full), .nil]] .full)]), (.agg [(.v (.string ⟨#[71, 69, 84]⟩)), (.v (.string ⟨#[47, 117, 115, 101, 114, 115, 47, 123, 105, 100, 125]⟩)), (.v (.string ⟨#[83]⟩)), (.v (.string ⟨#[71, 101, 116]⟩)), (.v (.string ⟨#[]⟩))]), (.agg [(.v (.int .i64 10)), (.v (.int .u64 0)), (.v (.string ⟨#[]⟩)), .nil, .nil, (.sl [[(.v (.int .i64 1)), (.v (.int .i64 4)), (.v (.int .u64 7)), (.v (.string ⟨#[]⟩)), .nil, .nil, .nil, .nil], [(.v (.int .i64 2)), (.v (.int .i64 11)), (.v (.int .u64 0)), (.v (.string ⟨#[]⟩)), (.sl [[(.v (.int .i64 7)), (.v (.int .u64 0)), (.v (.string ⟨#[97, 32, 98]⟩)), .nil, .nil, .nil, .nil]] .no), .nil, .nil, .nil]] .no), .nil])]
def kn7 : List AV := [(.v (.int .i64 0)), (.agg [(.sl [[(.v (.string ⟨#[77]⟩)), (.sl [[(.v (.int .i64 1)), (.v (.string ⟨#[105, 100]⟩)), (.v (.int .i64 3)), (.v (.int .i64 0)), (.v (.int .i64 4)), (.v (.string ⟨#[]⟩)), (.v (.string ⟨#[]⟩)), (.v (.bool false)), (.v (.int .i64 0)), (.v (.int .u64 0)), (.v (.string ⟨#[]⟩)), .nil, .nil, .nil, .nil, .nil], [(.v (.int .i64 2)), (.v (.string ⟨#[116, 97, 103]⟩)), (.v (.int .i64 4)), (.v (.int .i64 0)), (.v (.int .i64 7)), (.v (.string ⟨#[]⟩)), (.v (.string ⟨#[]⟩)), (.v (.bool false)), (.v (.int .i64 0)), (.v (.int .u64 0)), (.v (.string ⟨#[]⟩)), .nil, .nil, .nil, .nil, .nil]] .full), .nil, .nil, .nil]] .full), .nil, (.sl [[(.v (.string ⟨#[83]⟩)), (.sl [[(.v (.string ⟨#[71, 101, 116]⟩)), (.v (.string ⟨#[77]⟩)), (.v (.string ⟨#[77]⟩)), (.v (.int .i64 1)), .nil]] .full), .nil]] .full)]), (.v (.string ⟨#[77]⟩)), (.agg [(.v (.int .i64 10)), (.v (.int .u64 0)), (.v (.string ⟨#[]⟩)), .nil, .nil, .nil, .nil])]
def kn8 : List AV := [(.agg [(.v (.int .i64 10)), (.v (.int .u64 0)), (.v (.string ⟨#[]⟩)), .nil, .nil, .nil, .nil]), (.agg [(.sl [[(.v (.string ⟨#[77]⟩)), (.sl [[(.v (.int .i64 1)), (.v (.string ⟨#[105, 100]⟩)), (.v (.int .i64 3)), (.v (.int .i64 0)), (.v (.int .i64 4)), (.v (.string ⟨#[]⟩)), (.v (.string ⟨#[]⟩)), (.v (.bool false)), (.v (.int .i64 0)), (.v (.int .u64 0)), (.v (.string ⟨#[]⟩)), .nil, .nil, .nil, .nil, .nil], [(.v (.int .i64 2)), (.v (.string ⟨#[116, 97, 103]⟩)), (.v (.int .i64 4)), (.v (.int .i64 0)), (.v (.int .i64 7)), (.v (.string ⟨#[]⟩)), (.v (.string ⟨#[]⟩)), (.v (.bool false)), (.v (.int .i64 0)), (.v (.int .u64 0)), (.v (.string ⟨#[]⟩)), .nil, .nil, .nil, .nil, .nil]] .full), .nil, .nil, .nil]] .full), .nil, (.sl [[(.v (.string ⟨#[83]⟩)), (.sl [[(.v (.string ⟨#[71, 101, 116]⟩)), (.v (.string ⟨#[77]⟩)), (.v (.string ⟨#[77]⟩)), (.v (.int .i64 1)), .nil]] .full), .nil]] .full)]), (.v (.string ⟨#[77]⟩)), (.agg [(.v (.int .i64 10)), (.v (.int .u64 0)), (.v (.string ⟨#[]⟩)), .nil, .nil, .nil, .nil])]
def kn9 : List AV := [(.tuple [(.agg [(.v (.string ⟨#[]⟩)), (.v (.string ⟨#[]⟩)), .nil, (.v (.string ⟨#[]⟩))]), (.v (.int .i64 14))]), (.agg [(.sl [[(.v (.string ⟨#[77]⟩)), (.sl [[(.v (.int .i64 1)), (.v (.string ⟨#[105, 100]⟩)), (.v (.int .i64 3)), (.v (.int .i64 0)), (.v (.int .i64 4)), (.v (.string ⟨#[]⟩)), (.v (.string ⟨#[]⟩)), (.v (.bool false)), (.v (.int .i64 0)), (.v (.int .u64 0)), (.v (.string ⟨#[]⟩)), .nil, .nil, .nil, .nil, .nil], [(.v (.int .i64 2)), (.v (.string ⟨#[116, 97, 103]⟩)), (.v (.int .i64 4)), (.v (.int .i64 0)), (.v (.int .i64 7)), (.v (.string ⟨#[]⟩)), (.v (.string ⟨#[]⟩)), (.v (.bool false)), (.v (.int .i64 0)), (.v (.int .u64 0)), (.v (.string ⟨#[]⟩)), .nil, .nil, .nil, .nil, .nil]] .full), .nil, .nil, .nil]] .full), .nil, (.sl [[(.v (.string ⟨#[83]⟩)), (.sl [[(.v (.string ⟨#[71, 101, 116]⟩)), (.v (.string ⟨#[77]⟩)), (.v (.string ⟨#[77]⟩)), (.v (.int .i64 1)), .nil]] .full), .nil]] .full)]), (.agg [(.v (.string ⟨#[71, 69, 84]⟩)), (.v (.string ⟨#[47, 117, 115, 101, 114, 115, 47, 123, 105, 100, 125]⟩)), (.v (.string ⟨#[83]⟩)), (.v (.string ⟨#[71, 101, 116]⟩)), (.v (.string ⟨#[]⟩))]), (.agg [(.v (.int .i64 10)), (.v (.int .u64 0)), (.v (.string ⟨#[]⟩)), .nil, .nil, .nil, .nil])]
def kn10 : List AV := [(.tuple [(.v (.int .i64 0)), (.sl [[(.v (.string ⟨#[105, 100]⟩)), (.v (.string ⟨#[32]⟩))]] .no), (.v (.int .i64 0))]), (.sl [[(.v (.string ⟨#[71, 69, 84]⟩)), (.v (.string ⟨#[47, 117, 115, 101, 114, 115, 47, 123, 105, 100, 125]⟩)), (.v (.string ⟨#[83]⟩)), (.v (.string ⟨#[71, 101, 116]⟩)), (.v (.string ⟨#[]⟩))]] .full), (.v (.string ⟨#[71, 69, 84]⟩)), (.v (.string ⟨#[47, 117, 115, 101, 114, 115, 47, 37, 50, 48]⟩))]
def kn11 : List AV := [(.tuple [(.v (.string ⟨#[105, 100, 58, 32, 55, 32, 116, 97, 103, 58, 32, 34, 97, 32, 98, 34]⟩)), (.v (.int .i64 0))]), (.agg [(.sl [[(.v (.string ⟨#[77]⟩)), (.sl [[(.v (.int .i64 1)), (.v (.string ⟨#[105, 100]⟩)), (.v (.string ⟨#[]⟩)), (.v (.int .i64 3)), (.v (.int .i64 0)), (.v (.int .i64 4)), (.v (.int .i64 (-1))), (.v (.int .i64 (-1)))], [(.v (.int .i64 2)), (.v (.string ⟨#[116, 97, 103]⟩)), (.v (.string ⟨#[]⟩)), (.v (.int .i64 4)), (.v (.int .i64 0)), (.v (.int .i64 7)), (.v (.int .i64 (-1))), (.v (.int .i64 (-1)))]] .no), (.v (.int .i64 0))]] .no), .nil]), (.v (.string ⟨#[77]⟩)), (.agg [(.v (.int .i64 10)), (.v (.int .u64 0)), (.v (.string ⟨#[]⟩)), .nil, .nil, (.sl [[(.v (.int .i64 1)), (.v (.int .i64 4)), (.v (.int .u64 7)), (.v (.string ⟨#[]⟩)), .nil, .nil, .nil, .nil], [(.v (.int .i64 2)), (.v (.int .i64 11)), (.v (.int .u64 0)), (.v (.string ⟨#[]⟩)), (.sl [[(.v (.int .i64 7)), (.v (.int .u64 0)), (.v (.string ⟨#[97, 32, 98]⟩)), .nil, .nil, .nil, .nil]] .no), .nil, .nil, .nil]] .no), .nil])]
def kn12 : List AV := [(.agg [(.v (.int .i64 200)), (.v (.string ⟨#[105, 100, 58, 32, 55, 32, 116, 97, 103, 58, 32, 34, 97, 32, 98, 34]⟩))]), (.agg [(.sl [[(.v (.string ⟨#[77]⟩)), (.sl [[(.v (.int .i64 1)), (.v (.string ⟨#[105, 100]⟩)), (.v (.int .i64 3)), (.v (.int .i64 0)), (.v (.int .i64 4)), (.v (.string ⟨#[]⟩)), (.v (.string ⟨#[]⟩)), (.v (.bool false)), (.v (.int .i64 0)), (.v (.int .u64 0)), (.v (.string ⟨#[]⟩)), .nil, .nil, .nil, .nil, .nil], [(.v (.int .i64 2)), (.v (.string ⟨#[116, 97, 103]⟩)), (.v (.int .i64 4)), (.v (.int .i64 0)), (.v (.int .i64 7)), (.v (.string ⟨#[]⟩)), (.v (.string ⟨#[]⟩)), (.v (.bool false)), (.v (.int .i64 0)), (.v (.int .u64 0)), (.v (.string ⟨#[]⟩)), .nil, .nil, .nil, .nil, .nil]] .full), .nil, .nil, .nil]] .full), .nil, (.sl [[(.v (.string ⟨#[83]⟩)), (.sl [[(.v (.string ⟨#[71, 101, 116]⟩)), (.v (.string ⟨#[77]⟩)), (.v (.string ⟨#[77]⟩)), (.v (.int .i64 1)), .nil]] .full), .nil]] .full)]), (.v (.string ⟨#[83, 47, 71, 101, 116]⟩)), (.agg [(.v (.int .i64 0)), (.v (.string ⟨#[]⟩))]), (.agg [(.v (.int .i64 10)), (.v (.int .u64 0)), (.v (.string ⟨#[]⟩)), .nil, .nil, (.sl [[(.v (.int .i64 1)), (.v (.int .i64 4)), (.v (.int .u64 7)), (.v (.string ⟨#[]⟩)), .nil, .nil, .nil, .nil], [(.v (.int .i64 2)), (.v (.int .i64 11)), (.v (.int .u64 0)), (.v (.string ⟨#[]⟩)), (.sl [[(.v (.int .i64 7)), (.v (.int .u64 0)), (.v (.string ⟨#[97, 32, 98]⟩)), .nil, .nil, .nil, .nil]] .no), .nil, .nil, .nil]] .no), .nil])]
def kn13 : List AV := [(.v (.int .i64 0)), (.agg [(.sl [[(.v (.string ⟨#[77]⟩)), (.sl [[(.v (.int .i64 1)), (.v (.string ⟨#[105, 100]⟩)), (.v (.int .i64 3)), (.v (.int .i64 0)), (.v (.int .i64 4)), (.v (.string ⟨#[]⟩)), (.v (.string ⟨#[]⟩)), (.v (.bool false)), (.v (.int .i64 0)), (.v (.int .u64 0)), (.v (.string ⟨#[]⟩)), .nil, .nil, .nil, .nil, .nil], [(.v (.int .i64 2)), (.v (.string ⟨#[116, 97, 103]⟩)), (.v (.int .i64 4)), (.v (.int .i64 0)), (.v (.int .i64 7)), (.v (.string ⟨#[]⟩)), (.v (.string ⟨#[]⟩)), (.v (.bool false)), (.v (.int .i64 0)), (.v (.int .u64 0)), (.v (.string ⟨#[]⟩)), .nil, .nil, .nil, .nil, .nil]] .full), .nil, .nil, .nil]] .full), .nil, (.sl [[(.v (.string ⟨#[83]⟩)), (.sl [[(.v (.string ⟨#[71, 101, 116]⟩)), (.v (.string ⟨#[77]⟩)), (.v (.string ⟨#[77]⟩)), (.v (.int .i64 1)), .nil]] .full), .nil]] .full)]), (.sl [[(.v (.string ⟨#[71, 69, 84]⟩)), (.v (.string ⟨#[47, 117, 115, 101, 114, 115, 47, 123, 105, 100, 125]⟩)), (.v (.string ⟨#[83]⟩)), (.v (.string ⟨#[71, 101, 116]⟩)), (.v (.string ⟨#[]⟩))]] .full)]
def kn14 : List AV := [(.v (.int .i64 9)), (.agg [(.sl [[(.v (.string ⟨#[77]⟩)), (.sl [[(.v (.int .i64 1)), (.v (.string ⟨#[105, 100]⟩)), (.v (.int .i64 3)), (.v (.int .i64 0)), (.v (.int .i64 4)), (.v (.string ⟨#[]⟩)), (.v (.string ⟨#[]⟩)), (.v (.bool false)), (.v (.int .i64 0)), (.v (.int .u64 0)), (.v (.string ⟨#[]⟩)), .nil, .nil, .nil, .nil, .nil], [(.v (.int .i64 2)), (.v (.string ⟨#[116, 97, 103]⟩)), (.v (.int .i64 4)), (.v (.int .i64 0)), (.v (.int .i64 7)), (.v (.string ⟨#[]⟩)), (.v (.string ⟨#[]⟩)), (.v (.bool false)), (.v (.int .i64 0)), (.v (.int .u64 0)), (.v (.string ⟨#[]⟩)), .nil, .nil, .nil, .nil, .nil]] .full), .nil, .nil, .nil]] .full), .nil, (.sl [[(.v (.string ⟨#[83]⟩)), (.sl [[(.v (.string ⟨#[71, 101, 116]⟩)), (.v (.string ⟨#[77]⟩)), (.v (.string ⟨#[77]⟩)), (.v (.int .i64 1)), .nil]] .full), .nil]] .full)]), (.sl [[(.v (.string ⟨#[71, 69, 84]⟩)), (.v (.string ⟨#[47, 117, 115, 101, 114, 115, 47, 123, 105, 100, 125]⟩)), (.v (.string ⟨#[83]⟩)), (.v (.string ⟨#[71, 101, 116]⟩)), (.v (.string ⟨#[]⟩))], [(.v (.string ⟨#[71, 69, 84]⟩)), (.v (.string ⟨#[47, 117, 115, 101, 114, 115, 47, 123, 105, 100, 125]⟩)), (.v (.string ⟨#[83]⟩)), (.v (.string ⟨#[71, 101, 116]⟩)), (.v (.string ⟨#[]⟩))]] .full)]
def tbk0 : Tbl := tbl
def tbk1 : Tbl := (11, 0, knC kn0, []) :: tbl
def tbk2 : Tbl := (11, 0, knC kn0, []) :: (48, 0, knC kn1, []) :: tbl
def tbk3 : Tbl := (11, 0, knC kn0, []) :: (48, 0, knC kn1, []) :: (23, 0, knC kn2, []) :: tbl
def tbk4 : Tbl := (11, 0, knC kn0, []) :: (48, 0, knC kn1, []) :: (23, 0, knC kn2, []) :: (40, 0, knC kn3, []) :: tbl
def tbk5 : Tbl := (11, 0, knC kn0, []) :: (48, 0, knC kn1, []) :: (23, 0, knC kn2, []) :: (40, 0, knC kn3, []) :: (41, 0, knC kn4, []) :: tbl
def tbk6 : Tbl := (11, 0, knC kn0, []) :: (48, 0, knC kn1, []) :: (23, 0, knC kn2, []) :: (40, 0, knC kn3, []) :: (41, 0, knC kn4, []) :: (17, 0, knC kn5, []) :: tbl
def tbk7 : Tbl := (11, 0, knC kn0, []) :: (48, 0, knC kn1, []) :: (23, 0, knC kn2, []) :: (40, 0, knC kn3, []) :: (41, 0, knC kn4, []) :: (17, 0, knC kn5, []) :: (18, 0, knC kn6, []) :: tbl
def tbk8 : Tbl := (11, 0, knC kn0, []) :: (48, 0, knC kn1, []) :: (23, 0, knC kn2, []) :: (40, 0, knC kn3, []) :: (41, 0, knC kn4, []) :: (17, 0, knC kn5, []) :: (18, 0, knC kn6, []) :: (40, 0, knC kn7, []) :: tbl
def tbk9 : Tbl := (11, 0, knC kn0, []) :: (48, 0, knC kn1, []) :: (23, 0, knC kn2, []) :: (40, 0, knC kn3, []) :: (41, 0, knC kn4, []) :: (17, 0, knC kn5, []) :: (18, 0, knC kn6, []) :: (40, 0, knC kn7, []) :: (41, 0, knC kn8, []) :: tbl
def tbk10 : Tbl := (11, 0, knC kn0, []) :: (48, 0, knC kn1, []) :: (23, 0, knC kn2, []) :: (40, 0, knC kn3, []) :: (41, 0, knC kn4, []) :: (17, 0, knC kn5, []) :: (18, 0, knC kn6, []) :: (40, 0, knC kn7, []) :: (41, 0, knC kn8, []) :: (18, 0, knC kn9, []) :: tbl
def tbk11 : Tbl := (11, 0, knC kn0, []) :: (48, 0, knC kn1, []) :: (23, 0, knC kn2, []) :: (40, 0, knC kn3, []) :: (41, 0, knC kn4, []) :: (17, 0, knC kn5, []) :: (18, 0, knC kn6, []) :: (40, 0, knC kn7, []) :: (41, 0, knC kn8, []) :: (18, 0, knC kn9, []) :: (11, 0, knC kn10, []) :: tbl
def tbk12 : Tbl := (11, 0, knC kn0, []) :: (48, 0, knC kn1, []) :: (23, 0, knC kn2, []) :: (40, 0, knC kn3, []) :: (41, 0, knC kn4, []) :: (17, 0, knC kn5, []) :: (18, 0, knC kn6, []) :: (40, 0, knC kn7, []) :: (41, 0, knC kn8, []) :: (18, 0, knC kn9, []) :: (11, 0, knC kn10, []) :: (49, 0, knC kn11, []) :: tbl
def tbk13 : Tbl := (11, 0, knC kn0, []) :: (48, 0, knC kn1, []) :: (23, 0, knC kn2, []) :: (40, 0, knC kn3, []) :: (41, 0, knC kn4, []) :: (17, 0, knC kn5, []) :: (18, 0, knC kn6, []) :: (40, 0, knC kn7, []) :: (41, 0, knC kn8, []) :: (18, 0, knC kn9, []) :: (11, 0, knC kn10, []) :: (49, 0, knC kn11, []) :: (20, 0, knC kn12, []) :: tbl
def tbk14 : Tbl := (11, 0, knC kn0, []) :: (48, 0, knC kn1, []) :: (23, 0, knC kn2, []) :: (40, 0, knC kn3, []) :: (41, 0, knC kn4, []) :: (17, 0, knC kn5, []) :: (18, 0, knC kn6, []) :: (40, 0, knC kn7, []) :: (41, 0, knC kn8, []) :: (18, 0, knC kn9, []) :: (11, 0, knC kn10, []) :: (49, 0, knC kn11, []) :: (20, 0, knC kn12, []) :: (8, 0, knC kn13, []) :: tbl
def tbk15 : Tbl := (11, 0, knC kn0, []) :: (48, 0, knC kn1, []) :: (23, 0, knC kn2, []) :: (40, 0, knC kn3, []) :: (41, 0, knC kn4, []) :: (17, 0, knC kn5, []) :: (18, 0, knC kn6, []) :: (40, 0, knC kn7, []) :: (41, 0, knC kn8, []) :: (18, 0, knC kn9, []) :: (11, 0, knC kn10, []) :: (49, 0, knC kn11, []) :: (20, 0, knC kn12, []) :: (8, 0, knC kn13, []) :: (8, 0, knC kn14, []) :: tbl
theorem kn0_run : (fnAt tbk0 mode0 false (evC tbk0 mode0 100000) 11 kn0.tail ⟨[], [], []⟩).map (fun r => outV r.2 r.1) = some (kn0.headD .nil) := by kernel_rfl
theorem kn4_run : (fnAt tbk4 mode0 false (evC tbk4 mode0 100000) 41 kn4.tail ⟨[], [], []⟩).map (fun r => outV r.2 r.1) = some (kn4.headD .nil) := by kernel_rfl
theorem kn8_run : (fnAt tbk8 mode0 false (evC tbk8 mode0 100000) 41 kn8.tail ⟨[], [], []⟩).map (fun r => outV r.2 r.1) = some (kn8.headD .nil) := by kernel_rfl
theorem kn12_run : (fnAt tbk12 mode0 false (evC tbk12 mode0 100000) 20 kn12.tail ⟨[], [], []⟩).map (fun r => outV r.2 r.1) = some (kn12.headD .nil) := by kernel_rfl
theorem kn1_run : (fnAt tbk1 mode0 false (evC tbk1 mode0 100000) 48 kn1.tail ⟨[], [], []⟩).map (fun r => outV r.2 r.1) = some (kn1.headD .nil) := by kernel_rfl
theorem kn5_run : (fnAt tbk5 mode0 false (evC tbk5 mode0 100000) 17 kn5.tail ⟨[], [], []⟩).map (fun r => outV r.2 r.1) = some (kn5.headD .nil) := by kernel_rfl
theorem kn9_run : (fnAt tbk9 mode0 false (evC tbk9 mode0 100000) 18 kn9.tail ⟨[], [], []⟩).map (fun r => outV r.2 r.1) = some (kn9.headD .nil) := by kernel_rfl
theorem kn13_run : (fnAt tbk13 mode0 false (evC tbk13 mode0 100000) 8 kn13.tail ⟨[], [], []⟩).map (fun r => outV r.2 r.1) = some (kn13.headD .nil) := by kernel_rfl
theorem kn2_run : (fnAt tbk2 mode0 false (evC tbk2 mode0 100000) 23 kn2.tail ⟨[], [], []⟩).map (fun r => outV r.2 r.1) = some (kn2.headD .nil) := by kernel_rfl
theorem kn6_run : (fnAt tbk6 mode0 false (evC tbk6 mode0 100000) 18 kn6.tail ⟨[], [], []⟩).map (fun r => outV r.2 r.1) = some (kn6.headD .nil) := by kernel_rfl
theorem kn10_run : (fnAt tbk10 mode0 false (evC tbk10 mode0 100000) 11 kn10.tail ⟨[], [], []⟩).map (fun r => outV r.2 r.1) = some (kn10.headD .nil) := by kernel_rfl
theorem kn14_run : (fnAt tbk14 mode0 false (evC tbk14 mode0 100000) 8 kn14.tail ⟨[], [], []⟩).map (fun r => outV r.2 r.1) = some (kn14.headD .nil) := by kernel_rfl
theorem kn3_run : (fnAt tbk3 mode0 false (evC tbk3 mode0 100000) 40 kn3.tail ⟨[], [], []⟩).map (fun r => outV r.2 r.1) = some (kn3.headD .nil) := by kernel_rfl
theorem kn7_run : (fnAt tbk7 mode0 false (evC tbk7 mode0 100000) 40 kn7.tail ⟨[], [], []⟩).map (fun r => outV r.2 r.1) = some (kn7.headD .nil) := by kernel_rfl
theorem kn11_run : (fnAt tbk11 mode0 false (evC tbk11 mode0 100000) 49 kn11.tail ⟨[], [], []⟩).map (fun r => outV r.2 r.1) = some (kn11.headD .nil) := by kernel_rfl
theorem tok_kn {P : Program} {T : Tbl} {g : Nat} {l : List AV} (h : KnOK P g l) (t : TblOK P T) : TblOK P ((g, 0, knC l, []) :: T) := by
 intro f y hf
 rcases List.mem_cons.1 hf with e | hf
 ·cases e; exact h
 ·exact t f y hf
theorem tok0 : TblOK Tryz.prog tbk0 := tbl_ok
theorem kn0_ok : KnOK Tryz.prog 11 kn0 := ⟨by kernel_rfl, run_closed tok0 100000 kn0_run (by kernel_rfl)⟩
theorem tok1 : TblOK Tryz.prog tbk1 := tok_kn kn0_ok <| tbl_ok
theorem kn1_ok : KnOK Tryz.prog 48 kn1 := ⟨by kernel_rfl, run_closed tok1 100000 kn1_run (by kernel_rfl)⟩
theorem tok2 : TblOK Tryz.prog tbk2 := tok_kn kn0_ok <| tok_kn kn1_ok <| tbl_ok
theorem kn2_ok : KnOK Tryz.prog 23 kn2 := ⟨by kernel_rfl, run_closed tok2 100000 kn2_run (by kernel_rfl)⟩
theorem tok3 : TblOK Tryz.prog tbk3 := tok_kn kn0_ok <| tok_kn kn1_ok <| tok_kn kn2_ok <| tbl_ok
theorem kn3_ok : KnOK Tryz.prog 40 kn3 := ⟨by kernel_rfl, run_closed tok3 100000 kn3_run (by kernel_rfl)⟩
theorem tok4 : TblOK Tryz.prog tbk4 := tok_kn kn0_ok <| tok_kn kn1_ok <| tok_kn kn2_ok <| tok_kn kn3_ok <| tbl_ok
theorem kn4_ok : KnOK Tryz.prog 41 kn4 := ⟨by kernel_rfl, run_closed tok4 100000 kn4_run (by kernel_rfl)⟩
theorem tok5 : TblOK Tryz.prog tbk5 := tok_kn kn0_ok <| tok_kn kn1_ok <| tok_kn kn2_ok <| tok_kn kn3_ok <| tok_kn kn4_ok <| tbl_ok
theorem kn5_ok : KnOK Tryz.prog 17 kn5 := ⟨by kernel_rfl, run_closed tok5 100000 kn5_run (by kernel_rfl)⟩
theorem tok6 : TblOK Tryz.prog tbk6 := tok_kn kn0_ok <| tok_kn kn1_ok <| tok_kn kn2_ok <| tok_kn kn3_ok <| tok_kn kn4_ok <| tok_kn kn5_ok <| tbl_ok
theorem kn6_ok : KnOK Tryz.prog 18 kn6 := ⟨by kernel_rfl, run_closed tok6 100000 kn6_run (by kernel_rfl)⟩
theorem tok7 : TblOK Tryz.prog tbk7 := tok_kn kn0_ok <| tok_kn kn1_ok <| tok_kn kn2_ok <| tok_kn kn3_ok <| tok_kn kn4_ok <| tok_kn kn5_ok <| tok_kn kn6_ok <| tbl_ok
theorem kn7_ok : KnOK Tryz.prog 40 kn7 := ⟨by kernel_rfl, run_closed tok7 100000 kn7_run (by kernel_rfl)⟩
theorem tok8 : TblOK Tryz.prog tbk8 := tok_kn kn0_ok <| tok_kn kn1_ok <| tok_kn kn2_ok <| tok_kn kn3_ok <| tok_kn kn4_ok <| tok_kn kn5_ok <| tok_kn kn6_ok <| tok_kn kn7_ok <| tbl_ok
theorem kn8_ok : KnOK Tryz.prog 41 kn8 := ⟨by kernel_rfl, run_closed tok8 100000 kn8_run (by kernel_rfl)⟩
theorem tok9 : TblOK Tryz.prog tbk9 := tok_kn kn0_ok <| tok_kn kn1_ok <| tok_kn kn2_ok <| tok_kn kn3_ok <| tok_kn kn4_ok <| tok_kn kn5_ok <| tok_kn kn6_ok <| tok_kn kn7_ok <| tok_kn kn8_ok <| tbl_ok
theorem kn9_ok : KnOK Tryz.prog 18 kn9 := ⟨by kernel_rfl, run_closed tok9 100000 kn9_run (by kernel_rfl)⟩
theorem tok10 : TblOK Tryz.prog tbk10 := tok_kn kn0_ok <| tok_kn kn1_ok <| tok_kn kn2_ok <| tok_kn kn3_ok <| tok_kn kn4_ok <| tok_kn kn5_ok <| tok_kn kn6_ok <| tok_kn kn7_ok <| tok_kn kn8_ok <| tok_kn kn9_ok <| tbl_ok
theorem kn10_ok : KnOK Tryz.prog 11 kn10 := ⟨by kernel_rfl, run_closed tok10 100000 kn10_run (by kernel_rfl)⟩
theorem tok11 : TblOK Tryz.prog tbk11 := tok_kn kn0_ok <| tok_kn kn1_ok <| tok_kn kn2_ok <| tok_kn kn3_ok <| tok_kn kn4_ok <| tok_kn kn5_ok <| tok_kn kn6_ok <| tok_kn kn7_ok <| tok_kn kn8_ok <| tok_kn kn9_ok <| tok_kn kn10_ok <| tbl_ok
theorem kn11_ok : KnOK Tryz.prog 49 kn11 := ⟨by kernel_rfl, run_closed tok11 100000 kn11_run (by kernel_rfl)⟩
theorem tok12 : TblOK Tryz.prog tbk12 := tok_kn kn0_ok <| tok_kn kn1_ok <| tok_kn kn2_ok <| tok_kn kn3_ok <| tok_kn kn4_ok <| tok_kn kn5_ok <| tok_kn kn6_ok <| tok_kn kn7_ok <| tok_kn kn8_ok <| tok_kn kn9_ok <| tok_kn kn10_ok <| tok_kn kn11_ok <| tbl_ok
theorem kn12_ok : KnOK Tryz.prog 20 kn12 := ⟨by kernel_rfl, run_closed tok12 100000 kn12_run (by kernel_rfl)⟩
theorem tok13 : TblOK Tryz.prog tbk13 := tok_kn kn0_ok <| tok_kn kn1_ok <| tok_kn kn2_ok <| tok_kn kn3_ok <| tok_kn kn4_ok <| tok_kn kn5_ok <| tok_kn kn6_ok <| tok_kn kn7_ok <| tok_kn kn8_ok <| tok_kn kn9_ok <| tok_kn kn10_ok <| tok_kn kn11_ok <| tok_kn kn12_ok <| tbl_ok
theorem kn13_ok : KnOK Tryz.prog 8 kn13 := ⟨by kernel_rfl, run_closed tok13 100000 kn13_run (by kernel_rfl)⟩
theorem tok14 : TblOK Tryz.prog tbk14 := tok_kn kn0_ok <| tok_kn kn1_ok <| tok_kn kn2_ok <| tok_kn kn3_ok <| tok_kn kn4_ok <| tok_kn kn5_ok <| tok_kn kn6_ok <| tok_kn kn7_ok <| tok_kn kn8_ok <| tok_kn kn9_ok <| tok_kn kn10_ok <| tok_kn kn11_ok <| tok_kn kn12_ok <| tok_kn kn13_ok <| tbl_ok
theorem kn14_ok : KnOK Tryz.prog 8 kn14 := ⟨by kernel_rfl, run_closed tok14 100000 kn14_run (by kernel_rfl)⟩
theorem tok15 : TblOK Tryz.prog tbk15 := tok_kn kn0_ok <| tok_kn kn1_ok <| tok_kn kn2_ok <| tok_kn kn3_ok <| tok_kn kn4_ok <| tok_kn kn5_ok <| tok_kn kn6_ok <| tok_kn kn7_ok <| tok_kn kn8_ok <| tok_kn kn9_ok <| tok_kn kn10_ok <| tok_kn kn11_ok <| tok_kn kn12_ok <| tok_kn kn13_ok <| tok_kn kn14_ok <| tbl_ok
def tblK : Tbl := tbk15
theorem tblK_ok : TblOK Tryz.prog tblK := tok15
theorem awake_run : (fnAt tblK mode0 false (evC tblK mode0 100000) 7 [] ⟨[], [], gl0⟩).map (fun r => outV r.2 r.1) = some (.v (.bool true)) := by kernel_rfl
theorem awake_pure : PureC Tryz.prog gl0 7 [] fun b => b = .v (.bool true) := run_closed tblK_ok 100000 awake_run rfl
theorem rel_v {σ : Sg} {x v : Value} (h : Rel σ (.v x) v) : v = x := by
 cases h; rfl
theorem one_arg {σ : Sg} {x : Value} {cargs : Array Value} (hr : Rels σ [.v x] cargs.toList) : cargs = #[x] := by
 obtain ⟨hl, hx⟩ := hr
 obtain ⟨x0, h0, r0⟩ := hx 0 _ rfl
 have e0 := rel_v r0
 subst e0
 apply Array.ext'
 match hc : cargs.toList, hl, h0 with
 | [a], _, h0 => simp at h0; simp [h0]
def bytesL (l : List UInt8) : ByteArray := ⟨l.toArray⟩
theorem bytesL_toList (l : List UInt8) : (bytesL l).data.toList = l := rfl
theorem bytesL_data (s : ByteArray) : bytesL s.data.toList = s := rfl
theorem bytesL_size (l : List UInt8) : (bytesL l).size = l.length := by simp [bytesL, ByteArray.size]
def escB (s : ByteArray) : ByteArray := bytesL (escL s.data.toList)
def unescB (s : ByteArray) : ByteArray × Int := (bytesL (unescL s.data.toList).1, (unescL s.data.toList).2)
theorem gunesc (s : ByteArray) (hs : s.size <= 1048576) : gateway_Unescape s (unescB s) := by
 refine ⟨⟨_, Tryz.func19, by kernel_rfl, by kernel_rfl⟩, fun w outer cargs ho hg hr => ?_⟩
 rw [one_arg hr]
 refine (unesc_c s hs w).mono fun e w' ⟨he, hb⟩ => ⟨.tuple [.v (.string (unescB s).1), .v (.int .i64 (unescB s).2)], _, he, Past.of_below hb, ?_, rfl⟩
 refine Rel.tuple_mk rfl fun i av hi => ?_
 match i, hi with
 | 0, hi => simp at hi; subst hi; exact ⟨_, rfl, .v _ rfl⟩
 | 1, hi => simp at hi; subst hi; exact ⟨_, rfl, .v _ rfl⟩
theorem globs_tail {w : World} {outer : Nat -> Nat -> Prop} {x : Nat × List AV} {gl : List (Nat × List AV)} (h : Globs w outer (x :: gl)) : Globs w outer gl := fun g cells hg => h g cells (by simp [hg])
theorem awake_is (mg : Int) : law55_awake mg true :=
 ⟨awake_pure.1, fun w outer cargs ho hg hr => (awake_pure.2 w outer cargs ho (globs_tail hg) hr).mono fun e w' ⟨av, x, h1, h2, h3, h4⟩ => ⟨av, x, h1, h2, h3, by rw [h4]; rfl⟩⟩
def Sz (n : Nat) : Prop := n <= 140737488351232
section
variable {P : Program} {n : Nat} {t : TypeId} {avs : List AV}
def TyL (P : Program) (m : Nat) : List TypeId -> List AV -> Prop
 | [], avs => avs = []
 | t :: ts, avs => ∃ a b, avs = a ++ b /\ Ty P m t a /\ TyL P m ts b
theorem tyL_of {m : Nat} : ∀ (fs : List Field) (parts : List (List AV)), parts.length = fs.length -> (∀ (i : Nat) (f : Field), fs[i]? = some f -> ∃ p, parts[i]? = some p /\ Ty P m f.type p) -> TyL P m (fs.map (·.type)) parts.flatten
 | [], [], _, _ => rfl
 | [], _ :: _, h, _ => by cases h
 | _ :: _, [], h, _ => by cases h
 | f :: fs, p :: parts, hl, h => by
  obtain ⟨q, hq, hty⟩ := h 0 f rfl
  cases hq
  exact ⟨p, parts.flatten, by simp, hty, tyL_of fs parts (by simpa using hl) fun i g hg => h (i + 1) g (by simpa using hg)⟩
def fieldTypes (P : Program) (t : TypeId) : Option (List TypeId) := match P.underlying t with | some (.struct fs) => some (fs.toList.map (·.type)) | _ => none
theorem ty_st {ts : List TypeId} (hu : fieldTypes P t = some ts) (h : Ty P n t avs) : ∃ m, n = m + 1 /\ TyL P m ts avs := by
 cases n with
 | zero => exact absurd h (by unfold Ty; exact id)
 | succ m =>
  unfold fieldTypes at hu
  unfold Ty at h
  split at hu
  ·rename_i fs hfs
   rw [hfs] at h
   obtain ⟨parts, rfl, hl, hp⟩ := h
   cases hu
   exact ⟨m, rfl, tyL_of fs.toList parts (by simpa using hl) (fun i f hf => hp i f (by simpa using hf))⟩
  ·cases hu
theorem ty_str (hu : P.underlying t = some .string) (h : Ty P n t avs) : ∃ s : ByteArray, avs = [.v (.string s)] /\ Sz s.size := by
 cases n with
 | zero => exact absurd h (by unfold Ty; exact id)
 | succ m => unfold Ty at h; rw [hu] at h; exact h
theorem ty_slw {e : TypeId} {G : Type} {enc : G -> List AV} {Ok : G -> Prop} (hu : P.underlying t = some (.slice e)) {w : Nat} (hw : P.bytesOf e = w) (hb : 1 <= P.bytesOf e) (hel : ∀ m avs, m < n -> Ty P m e avs -> ∃ x, avs = enc x /\ Ok x) (h : Ty P n t avs) : ∃ l : List G, avs = [.sl (l.map enc) .no] /\ (Sz l.length /\ Sz (l.length * w)) /\ ∀ x ∈ l, Ok x := by
 cases n with
 | zero => exact absurd h (by unfold Ty; exact id)
 | succ m =>
  unfold Ty at h; rw [hu] at h
  obtain ⟨els, rfl, hl, hty⟩ := h
  have hn : els.length <= 140737488351232 := Nat.le_trans (Nat.le_mul_of_pos_right _ hb) hl
  have : ∀ els : List (List AV), (∀ el ∈ els, Ty P m e el) -> ∃ l : List G, els = l.map enc /\ ∀ x ∈ l, Ok x := by
   intro els
   induction els with
   | nil => exact fun _ => ⟨[], rfl, fun x h => by cases h⟩
   | cons a els ih =>
    intro h
    obtain ⟨l, rfl, hl⟩ := ih fun el hel => h el (List.mem_cons_of_mem _ hel)
    obtain ⟨x, rfl, hx⟩ := hel m a (Nat.lt_succ_self m) (h a List.mem_cons_self)
    exact ⟨x :: l, rfl, fun y hy => (List.mem_cons.1 hy).elim (fun e => e ▸ hx) (hl y)⟩
  obtain ⟨l, rfl, hok⟩ := this els hty
  exact ⟨l, rfl, ⟨by simpa [Sz] using hn, by subst hw; simpa [Sz] using hl⟩, hok⟩
end
def OkR (x : GRoute) : Prop := True
theorem op_route {n : Nat} {avs : List AV} (h : Ty Tryz.prog n 41 avs) : ∃ x : GRoute, avs = eGRoute x /\ OkR x := by
 have hu : Tryz.prog.underlying 9 = some .string := by kernel_rfl
 obtain ⟨m, _, a, r, rfl, ha, b, r, rfl, hb, c, r, rfl, hc, d, r, rfl, hd, e, r, rfl, he, rfl⟩ := ty_st (ts := [9, 9, 9, 9, 9]) (by kernel_rfl) h
 obtain ⟨a, rfl, _⟩ := ty_str hu ha
 obtain ⟨b, rfl, _⟩ := ty_str hu hb
 obtain ⟨c, rfl, _⟩ := ty_str hu hc
 obtain ⟨d, rfl, _⟩ := ty_str hu hd
 obtain ⟨e, rfl, _⟩ := ty_str hu he
 exact ⟨⟨a, b, c, d, e⟩, rfl, trivial⟩
section
variable {n : Nat} {av : AV}
theorem ar_s (h : TyV Tryz.prog n 9 av) : ∃ x : ByteArray, av = .v (.string x) /\ Sz x.size := by
 have hu : Tryz.prog.underlying 9 = some .string := by kernel_rfl
 unfold TyV at h; rw [hu] at h
 obtain ⟨x, hx, k⟩ := ty_str hu h
 exact ⟨x, by simpa using hx, k⟩
theorem ar_lr (h : TyV Tryz.prog n 27 av) : ∃ x : List GRoute, av = .sl (x.map eGRoute) .no /\ Sz x.length := by
 have hu : Tryz.prog.underlying 27 = some (.slice 41) := by kernel_rfl
 unfold TyV at h; rw [hu] at h
 obtain ⟨l, e, h1, h2⟩ := ty_slw (w := 80) (e := 41) (enc := eGRoute) (Ok := OkR) hu (by kernel_rfl) (of_decide_eq_true (by kernel_rfl)) (fun k a hk ha => op_route ha) h
 exact ⟨l, by simpa using e, h1.1⟩
end
theorem strs_of_array {P : Program} {w : World} {fuel : Nat} {t e : TypeId} {n : Nat} {cs : List Value} {ss : List (List UInt8)} {p : List MemPlace} (ht : P.underlying t = some (.array n e)) (he : P.underlying e = some .string) (hc : P.cellsOf e = 1)
  (h : DataW.trod (fun _ => ()) P w 0 (fun _ => true) false fuel t cs = some (.agg (ss.map fun s => .lit (.string s)), p)) (i : Nat) (hi : i < n) (s : List UInt8) (hs : ss[i]? = some s) : cs[i]? = some (.string ⟨s.toArray⟩) := by
 obtain ⟨fuel', d, q, hd, h1⟩ := Lib.array_elem ht h i hi
 simp only [List.getElem?_map, hs, Option.map_some, Option.some.injEq] at hd
 subst hd
 rw [hc] at h1
 obtain ⟨x, h2, h3, _⟩ := DataW.trod_string he h1
 have h4 : x.data.toList = s := by
  have := congrArg Prod.fst h3
  simpa using this.symm
 have h5 := congrArg (·[0]?) h2
 simp only [List.getElem?_take, List.getElem?_drop] at h5
 subst h4
 simpa using h5
def namesL : List (List UInt8) := [[111, 107], [99, 97, 110, 99, 101, 108, 108, 101, 100], [105, 110, 118, 97, 108, 105, 100], [100, 101, 97, 100, 108, 105, 110, 101], [110, 111, 116, 95, 102, 111, 117, 110, 100], [101, 120, 105, 115, 116, 115], [100, 101, 110, 105, 101, 100], [101, 120, 104, 97, 117, 115, 116, 101, 100], [102, 97, 105, 108, 101, 100], [97, 98, 111, 114, 116, 101, 100], [117, 110, 105, 109, 112, 108, 101, 109, 101, 110, 116, 101, 100], [105, 110, 116, 101, 114, 110, 97, 108], [117, 110, 97, 118, 97, 105, 108, 97, 98, 108, 101], [100, 97, 116, 97, 95, 108, 111, 115, 115]]
theorem elt_mk {w : World} {g : Nat} {cells : List AV} (xs : Nat -> Value) (h : ∀ (i : Nat) (av : AV), cells[i]? = some av -> w.cell? ⟨g, i, none⟩ = some (xs i) /\ av = .v (xs i) /\ atom (xs i) = true) : Rel (bare w nowhere) (.elt cells 0) (.pointer (some ⟨g, 0, none⟩)) := by
 refine .elt cells 0 g 0 xs (fun i av hi => ?_) (fun i av hi => ?_)
 ·obtain ⟨h1, rfl, h3⟩ := h i av hi
  exact ⟨by rw [Nat.zero_add]; exact h1, fun q => q.elim (fun x => x.elim) (fun x => bare_own _ _ _ _ x), rfl⟩
 ·obtain ⟨h1, rfl, h3⟩ := h i av hi
  exact .v _ h3
theorem globs_of {w : World} {m : Int} (hm : w.cell? ⟨2, 0, none⟩ = some (.int .i64 m)) (hn : Lib.VarReads Tryz.prog w "wireschema/status.names" (.agg (namesL.map fun s => .lit (.string s)))) : Globs w nowhere (GLm m) := by
 intro g cells hg
 rcases List.mem_cons.1 hg with e | hg
 ·cases e
  refine elt_mk (fun _ => .int .i64 m) fun i av hi => ?_
  cases i with
  | zero => simp at hi; subst hi; exact ⟨hm, rfl, rfl⟩
  | succ i => simp at hi
 ·rcases List.mem_cons.1 hg with e | hg
  ·have e2 : cells = namesL.map fun s => .v (.string ⟨s.toArray⟩) := by cases e; rfl
   obtain rfl : g = 1 := by cases e; rfl
   subst e2
   obtain ⟨g, t, cs, fuel, p, h1, h2, h3, h4⟩ := hn
   have g1 : Tryz.prog.globalNamed "wireschema/status.names" = some 1 := by kernel_rfl
   obtain rfl := Option.some.inj (g1.symm.trans h1)
   have g2 : (Tryz.prog.globals[1]?).map (·.type) = some 277 := by kernel_rfl
   obtain rfl := Option.some.inj (g2.symm.trans h2)
   refine elt_mk (fun i => .string ⟨(namesL.getD i []).toArray⟩) fun i av hi => ?_
   rw [List.getElem?_map] at hi
   obtain ⟨s, hs, rfl⟩ := Option.map_eq_some_iff.1 hi
   have hd : namesL.getD i [] = s := by rw [List.getD_eq_getElem?_getD, hs]; rfl
   have hlt : i < 14 := by
    have := (List.getElem?_eq_some_iff.1 hs).1
    exact this
   have := strs_of_array (t := 277) (e := 9) (n := 14) (by kernel_rfl) (by kernel_rfl) (by kernel_rfl) h4 i hlt s hs
   refine ⟨?_, by rw [hd], rfl⟩
   rw [World.var?_cell g1 h3 i, ← Array.getElem?_toList, hd]
   exact this
  ·cases hg
theorem calls_true_gl {P : Program} {f : FuncId} {args : List AV} {cargs : Array Value} {W : World} {gl : List (Nat × List AV)} (hg : Globs W nowhere gl) (hf : PureN P gl f args (.v (.bool true))) (hr : Rels (bare W nowhere) args cargs.toList) :
  Calls P f cargs W fun e W' => e = .returned (.bool true) /\ Below W.heap.size W W' := by
 refine (hf.2 W nowhere cargs (fun b o h => h.elim) hg hr).mono fun e W' ⟨av, x, he, hp, hrel, hav⟩ => ?_
 rw [nz_true hav] at hrel
 cases hrel with
 | v _ _ => exact ⟨he, hp.below⟩
theorem rplain_is (c : Int) : ref55_plain c (plainI c) := ref55_plain_step _ _ rfl
theorem ba_ext {a b : ByteArray} (h : a.data.toList = b.data.toList) : a = b := by
 cases a; cases b
 congr 1
 exact Array.toList_inj.1 h
theorem bytesL_app (a b : List UInt8) : bytesL a ++ bytesL b = bytesL (a ++ b) := ba_ext (by
 rw [ByteArray.data_append, Array.toList_append]; rfl)
theorem byteAt_at (s : ByteArray) (p : Nat) (h : p < s.size) : byteAt s p = (s[p].toNat : Int) := by
 unfold byteAt
 have h' : p < s.data.toList.length := by simpa using h
 rw [List.getD_eq_getElem?_getD, List.getElem?_eq_getElem h']
 rfl
theorem cut_one (s : ByteArray) (p : Nat) (h : p < s.size) : s.extract p (p + 1) = bytesL [s[p]] := ba_ext (by
 rw [Lib.extract_data, drop_at' s p h, Nat.add_sub_cancel_left]; rfl)
theorem dig_cut (a : Nat) (h : a < 16) : (⟨#[48, 49, 50, 51, 52, 53, 54, 55, 56, 57, 65, 66, 67, 68, 69, 70]⟩ : ByteArray).extract a (a + 1) = bytesL [hexU a] := by
 have : ∀ a : Fin 16, (⟨#[48, 49, 50, 51, 52, 53, 54, 55, 56, 57, 65, 66, 67, 68, 69, 70]⟩ : ByteArray).extract a.val (a.val + 1) = bytesL [hexU a.val] := by decide +kernel
 exact this ⟨a, h⟩
theorem wrap8 {n : Int} (h : 0 <= n /\ n <= 255) : IntKind.u8.wrap n = n := by simp [IntKind.wrap, IntKind.signed, IntKind.bits]; omega
theorem wI_id {n : Int} (h : -9223372036854775808 <= n /\ n <= 9223372036854775807) : wI n = n := wrapI h
theorem resc_j (s : ByteArray) (hs : s.size <= 1048576) : ∀ (k p : Nat) (acc : List UInt8), p + k = s.size -> acc.length <= 3 * p -> ref55_Escape_j2 p (bytesL acc) s (bytesL (acc ++ escL (s.data.toList.drop p)))
 | 0, p, acc, hk, ha => by
  refine ref55_Escape_j2_step _ _ _ _ ⟨fun h => ?_, fun h => ?_⟩
  ·simp only [decide_eq_true_eq] at h; omega
  ·rw [List.drop_eq_nil_of_le (by simp; show s.size <= p; omega)]; simp [escL]
 | k + 1, p, acc, hk, ha => by
  have hp : p < s.size := by omega
  have hc := s[p].toNat_lt
  refine ref55_Escape_j2_step _ _ _ _ ⟨fun h => ⟨⟨by omega, by omega⟩, _, rplain_is _, ?_⟩, fun h => by simp only [decide_eq_false_iff_not] at h; omega⟩
  simp only [Int.toNat_natCast]
  rw [wI_id (by omega), show ((p : Int) + 1).toNat = p + 1 by omega, byteAt_at s p hp, cut_one s p hp, drop_at' s p hp, escL_cons]
  have hb : ((p : Int) + 1) = ((p + 1 : Nat) : Int) := by omega
  refine ⟨fun h => ⟨by omega, ?_⟩, fun h => ?_⟩
  ·rw [bytesL_size, bytesL_size, bytesL_app, hb]
   refine ⟨by simp; omega, ?_⟩
   have h1 : escU s[p] = [s[p]] := by unfold escU; rw [if_pos (show plainU s[p] = true from h)]
   rw [h1, ← List.append_assoc]
   exact resc_j s hs k (p + 1) (acc ++ [s[p]]) (by omega) (by simp; omega)
  ·have h1 : escU s[p] = [37, hexU (s[p].toNat / 16), hexU (s[p].toNat % 16)] := by
    unfold escU
    rw [if_neg (by rw [show plainU s[p] = false from h]; simp)]
   have e1 : (s[p].toNat : Int).tdiv 16 = ((s[p].toNat / 16 : Nat) : Int) := by
    rw [Int.tdiv_eq_ediv_of_nonneg (by omega)]; omega
   have e2 : (s[p].toNat : Int).tmod 16 = ((s[p].toNat % 16 : Nat) : Int) := by
    rw [Int.tmod_eq_emod_of_nonneg (by omega)]; omega
   rw [e1, e2, wrap8 (by omega), wrap8 (by omega), wrap8 (by omega)]
   have c1 : (((s[p].toNat / 16 : Nat) : Int) + 1).toNat = s[p].toNat / 16 + 1 := by omega
   have c2 : (((s[p].toNat % 16 : Nat) : Int) + 1).toNat = s[p].toNat % 16 + 1 := by omega
   rw [c1, c2, Int.toNat_natCast, Int.toNat_natCast, dig_cut _ (by omega), dig_cut _ (by omega), show (⟨#[37]⟩ : ByteArray) = bytesL [37] from rfl, bytesL_app, bytesL_app, bytesL_app, hb]
   simp only [bytesL_size, List.length_append, List.length_cons, List.length_nil]
   have hd : ((⟨#[48, 49, 50, 51, 52, 53, 54, 55, 56, 57, 65, 66, 67, 68, 69, 70]⟩ : ByteArray).size : Int) = 16 := rfl
   rw [hd]
   refine ⟨by omega, by omega, by omega, by omega, by omega, ?_⟩
   rw [h1]
   have := resc_j s hs k (p + 1) (acc ++ [37, hexU (s[p].toNat / 16), hexU (s[p].toNat % 16)]) (by omega) (by simp; omega)
   simpa using this
theorem resc (s : ByteArray) (hs : s.size <= 1048576) : ref55_Escape s (escB s) := ref55_Escape_step _ _ (by
 have := resc_j s hs s.size 0 [] (by omega) (by simp)
 rw [List.drop_zero, List.nil_append] at this
 exact this)
def digF : Nat -> Nat -> Int -> Int
 | 0, _, _ => -1
 | k + 1, i, b => if byteAt (⟨#[48, 49, 50, 51, 52, 53, 54, 55, 56, 57, 65, 66, 67, 68, 69, 70]⟩ : ByteArray) i = b then i else digF k (i + 1) b
theorem digF_is (c : UInt8) : digF 16 0 (c.toNat : Int) = digI c := by
 have : ∀ c : Fin 256, digF 16 0 ((c.val : Nat) : Int) = digI (UInt8.ofNat c.val) := by decide +kernel
 have h := this ⟨c.toNat, c.toNat_lt⟩
 simpa using h
theorem rdig_j (b : Int) : ∀ (k i : Nat), i + k = 16 -> ref55_digit_j2 i b (digF k i b)
 | 0, i, h => ref55_digit_j2_step _ _ _ ⟨fun h1 => by simp only [decide_eq_true_eq] at h1; omega, fun _ => rfl⟩
 | k + 1, i, h => by
  have hd : ((⟨#[48, 49, 50, 51, 52, 53, 54, 55, 56, 57, 65, 66, 67, 68, 69, 70]⟩ : ByteArray).size : Int) = 16 := rfl
  refine ref55_digit_j2_step _ _ _ ⟨fun h1 => ⟨⟨by omega, by rw [hd]; omega⟩, fun h2 => ?_, fun h2 => ?_⟩, fun h1 => by simp only [decide_eq_false_iff_not] at h1; omega⟩
  ·simp only [Int.toNat_natCast, beq_iff_eq] at h2
   rw [digF, if_pos h2]
  ·simp only [Int.toNat_natCast, beq_eq_false_iff_ne, ne_eq] at h2
   rw [digF, if_neg h2, wI_id (by omega), show ((i : Int) + 1) = ((i + 1 : Nat) : Int) by omega]
   exact rdig_j b k (i + 1) (by omega)
theorem rdig (c : UInt8) : ref55_digit (c.toNat : Int) (digI c) := ref55_digit_step _ _ (by rw [← digF_is]; exact rdig_j _ 16 0 rfl)
def unescR (s : ByteArray) (o : Option (List UInt8)) : ByteArray × Int := match o with
 | some t => if escL t = s.data.toList then (bytesL t, 0) else (⟨#[]⟩, 2)
 | none => (⟨#[]⟩, 2)
theorem unescR_is (s : ByteArray) : unescB s = unescR s (unraw s.data.toList []) := by
 unfold unescB unescR unescL
 cases unraw s.data.toList [] with
 | none => rfl
 | some t => by_cases h : escL t = s.data.toList <;> simp [h] <;> rfl
theorem bI_one (n : Nat) (h : n < 256) : ([(n : Int)] : List Int) = bI (bytesL [UInt8.ofNat n]) := by
 unfold bI
 rw [bytesL_toList]
 simp
 omega
theorem runesc_j (s : ByteArray) (hs : s.size <= 1048576) : ∀ (k p : Nat) (acc : List UInt8), p + k = s.size -> acc.length <= p -> ref55_Unescape_j2 p (bytesL acc) s (unescR s (unraw (s.data.toList.drop p) acc)) := by
 intro k
 induction k using Nat.strongRecOn with
 | _ k ih =>
 intro p acc hk ha
 refine ref55_Unescape_j2_step _ _ _ _ ⟨fun h => ?_, fun h => ?_⟩
 ·simp only [decide_eq_true_eq] at h
  have hp : p < s.size := by omega
  refine ⟨by omega, ?_⟩
  simp only [Int.toNat_natCast]
  rw [byteAt_at s p hp]
  have w1 : wI ((p : Int) + 1) = ((p + 1 : Nat) : Int) := by rw [wI_id (by omega)]; omega
  have w2 : wI ((p : Int) + 2) = ((p + 2 : Nat) : Int) := by rw [wI_id (by omega)]; omega
  have w3 : wI ((p : Int) + 3) = ((p + 3 : Nat) : Int) := by rw [wI_id (by omega)]; omega
  rw [w1, w2, w3]
  simp only [Int.toNat_natCast]
  refine ⟨fun hb => ⟨by omega, ?_⟩, fun hb => ?_⟩
  ·rw [cut_one s p hp, bytesL_size, bytesL_size, bytesL_app]
   refine ⟨by simp; omega, ?_⟩
   have hb' : s[p] ≠ 37 := fun h => by rw [h] at hb; simp at hb
   have e : unraw (s.data.toList.drop p) acc = unraw (s.data.toList.drop (p + 1)) (acc ++ [s[p]]) := by
    rw [drop_at' s p hp, unraw.eq_def]; simp only [ne_eq, hb', not_false_eq_true, if_true]
   rw [e]
   exact ih (k - 1) (by omega) (p + 1) _ (by omega) (by simp; omega)
  ·have hb' : s[p] = 37 := by
    simp only [bne_eq_false_iff_eq] at hb
    exact UInt8.toNat_inj.1 (by have : ((37 : UInt8).toNat) = 37 := rfl; omega)
   by_cases h2 : p + 2 < s.size
   ·have hp1 : p + 1 < s.size := by omega
    rw [byteAt_at s (p + 1) hp1, byteAt_at s (p + 2) h2]
    have e : unraw (s.data.toList.drop p) acc = if 0 <= digI s[p + 1] /\ 0 <= digI s[p + 2] then unraw (s.data.toList.drop (p + 3)) (acc ++ [UInt8.ofNat (16 * (digI s[p + 1]).toNat + (digI s[p + 2]).toNat)]) else none := by
     rw [drop_at' s p hp, drop_at' s (p + 1) hp1, drop_at' s (p + 2) h2, unraw.eq_def]
     simp only [hb', ne_eq, not_true_eq_false, if_false]
    rw [e]
    have hx16 := dig_lt s[p + 1]
    have hy16 := dig_lt s[p + 2]
    refine ⟨fun b => b = decide (digI s[p + 1] < 0), fun b3 hb3 => ⟨fun b => b = (b3 || decide (digI s[p + 2] < 0)), fun b4 hb4 => ⟨fun ht => ?_, fun hf => ?_⟩, fun ht => by simp [ht], fun hf => ⟨by omega, _, rdig _, by simp [hf]⟩⟩, fun ht => ?_, fun hf => ⟨by omega, _, rdig _, rfl⟩⟩
    ·subst hb3
     rw [hb4] at ht
     simp only [Bool.or_eq_true, decide_eq_true_eq] at ht
     rw [if_neg (by omega)]; rfl
    ·subst hb3
     rw [hb4] at hf
     simp only [Bool.or_eq_false_iff, decide_eq_false_iff_not] at hf
     obtain ⟨x, hx⟩ : ∃ x : Nat, digI s[p + 1] = (x : Int) := ⟨(digI s[p + 1]).toNat, by omega⟩
     obtain ⟨y, hy⟩ : ∃ y : Nat, digI s[p + 2] = (y : Int) := ⟨(digI s[p + 2]).toNat, by omega⟩
     have r1 := rdig s[p + 1]
     have r2 := rdig s[p + 2]
     rw [hx] at r1 hx16
     rw [hy] at r2 hy16
     simp only [Int.toNat_natCast] at hx16 hy16
     have hx1 := hx16 (by omega)
     have hy1 := hy16 (by omega)
     rw [hx, hy, if_pos (by omega)]
     simp only [Int.toNat_natCast]
     refine ⟨by omega, _, r1, by omega, _, r2, bytesL [UInt8.ofNat (16 * x + y)], ?_, ?_, ?_⟩
     ·rw [wI_id (n := 16 * (x : Int)) (by omega), wI_id (by omega), wrap8 (by omega), ← bI_one _ (by omega)]
      congr 1
     ·rw [bytesL_size, bytesL_size]; simp; omega
     ·rw [bytesL_app]
      exact ih (k - 3) (by omega) (p + 3) _ (by omega) (by simp; omega)
    ·simp only [decide_eq_true_eq] at ht; omega
   ·have e : unraw (s.data.toList.drop p) acc = none := by
     rw [drop_at' s p hp, unraw.eq_def]
     simp only [hb', ne_eq, not_true_eq_false, if_false]
     split
     ·rename_i a b r' he
      exfalso
      have := congrArg List.length he
      simp at this
      have h3 : s.data.size = s.size := rfl
      omega
     ·rfl
    rw [e]
    refine ⟨fun b => b = true, fun b3 hb3 => ⟨fun b => b = true, fun b4 hb4 => ⟨fun _ => rfl, fun hf => by rw [hb4] at hf; cases hf⟩, fun _ => rfl, fun hf => by rw [hb3] at hf; cases hf⟩, fun _ => rfl, fun hf => ?_⟩
    simp only [decide_eq_false_iff_not] at hf; omega
 ·simp only [decide_eq_false_iff_not] at h
  have e : unraw (s.data.toList.drop p) acc = some acc := by rw [List.drop_eq_nil_of_le (by simp; show s.size <= p; omega), unraw.eq_def]
  rw [e]
  refine ⟨_, resc (bytesL acc) (by rw [bytesL_size]; omega), fun ht => ?_, fun hf => ?_⟩
  ·have hn : ¬ escL acc = s.data.toList := fun hq => by
    have : escB (bytesL acc) = s := by unfold escB; rw [bytesL_toList, hq, bytesL_data]
    simp [this] at ht
   simp only [unescR, if_neg hn]
  ·have hq : escL acc = s.data.toList := by
    have h1 : escB (bytesL acc) = s := by simpa using hf
    rw [← h1]; rfl
   simp only [unescR, if_pos hq]
theorem runesc (s : ByteArray) (hs : s.size <= 1048576) : ref55_Unescape s (unescB s) := ref55_Unescape_step _ _ (by
 rw [unescR_is]
 have := runesc_j s hs s.size 0 [] (by omega) (by simp)
 rw [List.drop_zero] at this
 exact this)
section
open Go.RowKit Lift
def segL : List UInt8 -> List (List UInt8)
 | [] => [[]]
 | c :: r => if c = 47 then [] :: segL r else match segL r with
  | [] => [[c]]
  | h :: t => (c :: h) :: t
theorem segL_ne : ∀ l, segL l ≠ []
 | [] => by simp [segL]
 | c :: r => by
  unfold segL
  split
  ·simp
  ·split <;> simp
def glue (x : List UInt8) : List (List UInt8) -> List (List UInt8)
 | [] => [x]
 | h :: t => (x ++ h) :: t
theorem glue_slash (x r : List UInt8) : glue x (segL (47 :: r)) = x :: glue [] (segL r) := by
 have h : segL (47 :: r) = [] :: segL r := by rw [segL, if_pos rfl]
 rw [h, glue, List.append_nil]
 cases hs : segL r with
 | nil => exact absurd hs (segL_ne r)
 | cons a b => rw [glue, List.nil_append]
theorem glue_byte (x : List UInt8) (c : UInt8) (r : List UInt8) (hc : c ≠ 47) : glue x (segL (c :: r)) = glue (x ++ [c]) (segL r) := by
 rw [segL, if_neg hc]
 cases hs : segL r with
 | nil => exact absurd hs (segL_ne r)
 | cons a b => simp [glue]
theorem glue_end (x : List UInt8) : glue x (segL []) = [x] := by simp [segL, glue]
theorem glue_nil (r : List UInt8) : glue [] (segL r) = segL r := by
 cases hs : segL r with
 | nil => exact absurd hs (segL_ne r)
 | cons a b => rw [glue, List.nil_append]
def strV (l : List UInt8) : Value := .string (bytesL l)
def OwnS (B : Nat) (v : Value) (n : Nat) (l : List (List UInt8)) (w : World) : Prop := ∃ g cap cur, v = .slice (some ⟨g, 0, none⟩) n cap /\ B <= g /\ w.heap[g]? = some (.cells cur 9 (0, 0)) /\ n <= cap /\ cap <= maxLen /\ cur.size = cap * 1 /\ cur.toList.take (n * 1) = l.map strV /\ l.length = n
theorem OwnS.row {B : Nat} {v : Value} {n : Nat} {l : List (List UInt8)} {w : World} (h : OwnS B v n l w) : w.ownsRow B 9 1 v n (l.map strV) := by
 obtain ⟨g, cap, cur, h1, h2, h3, h4, h5, h6, h7, h8⟩ := h
 exact ⟨by simp [h8], .inr ⟨g, cap, cur, h1, h2, h3, h4, h5, h6, h7⟩⟩
theorem OwnS.of {B : Nat} {v : Value} {n : Nat} {l : List (List UInt8)} {w : World} (h : w.ownsRow B 9 1 v n (l.map strV)) (hn : 1 <= n) : OwnS B v n l w := by
 obtain ⟨h0, h⟩ := h
 rcases h with ⟨_, h⟩ | ⟨g, cap, cur, h1, h2, h3, h4, h5, h6, h7⟩
 ·omega
 ·exact ⟨g, cap, cur, h1, h2, h3, h4, h5, h6, h7, by simpa using h0⟩
theorem OwnS.lit (B : Nat) (w : World) (hB : B <= w.heap.size) : OwnS B (.slice (some ⟨w.heap.size, 0, none⟩) 1 1) 1 [[]] (w.alloc (.cells #[.string ⟨#[]⟩] 9)) :=
 ⟨w.heap.size, 1, _, rfl, hB, heap_alloc_new w _, Nat.le_refl _, by decide, rfl, rfl, rfl⟩
theorem OwnS.put {B ga cap : Nat} {cur : Array Value} {l : List (List UInt8)} {x y : List UInt8} {w : World} (g2 : B <= ga) (g3 : w.heap[ga]? = some (.cells cur 9 (0, 0))) (g4 : l.length + 1 <= cap) (g5 : cap <= maxLen) (g6 : cur.size = cap * 1) (g7 : cur.toList.take ((l.length + 1) * 1) = (l ++ [x]).map strV) (g8 : (l ++ [x]).length = l.length + 1) :
  OwnS B (.slice (some ⟨ga, 0, none⟩) (l.length + 1) cap) (l.length + 1) (l ++ [y]) (w.setCell ⟨ga, l.length, none⟩ (.string (bytesL y))).drew := by
 refine ⟨ga, cap, cur.setIfInBounds l.length (.string (bytesL y)), rfl, g2, ?_, g4, g5, by simpa using g6, ?_, by simp⟩
 ·show (w.setCell ⟨ga, l.length, none⟩ (.string (bytesL y))).heap[ga]? = _
  simp [World.setCell, Array.getElem?_modify, g3]
 ·apply List.ext_getElem?
  intro i
  have h := congrArg (·[i]?) g7
  simp only [List.getElem?_take, List.getElem?_map, Nat.mul_one] at h ⊢
  rw [Array.toList_setIfInBounds, List.getElem?_set]
  by_cases hi : i < l.length + 1
  ·rw [if_pos hi] at h ⊢
   by_cases hil : l.length = i
   ·subst hil
    rw [if_pos rfl]
    have : l.length < cur.toList.length := by simp; omega
    simp [strV]
    omega
   ·rw [if_neg hil, h, List.getElem?_append_left (by omega), List.getElem?_append_left (by omega)]
  ·rw [if_neg hi, List.getElem?_eq_none (by simp; omega)]; rfl
set_option maxHeartbeats 4000000 in
set_option maxRecDepth 100000 in
theorem rseg_c (s : ByteArray) (hs : s.size <= 1048576) (h1 : 1 <= s.size) (h0 : s[0] = 47) (w : World) :
  Calls Tryz.prog 68 #[.string s] w fun e w' => (∃ v, e = .returned (.tuple #[v, .bool true]) /\ OwnS w.heap.size v (segL (s.data.toList.drop 1)).length (segL (s.data.toList.drop 1)) w') /\ Below w.heap.size w w' := by
 obtain ⟨R, HR⟩ : ∃ R, Hid (R = segL (s.data.toList.drop 1)) := ⟨_, hidE rfl⟩
 rw [← HR.out]
 obtain ⟨i0, hi, hz0, hz1, hz2⟩ := info_parts (show ((Tryz.prog).info? 9).map (fun i => (i.zero, i.size, i.bytes)) = some (some (.string ⟨#[]⟩), 1, 16) by kernel_rfl)
 have hie : s.toList.isEmpty = false := by
  rw [Lib.toList_data, List.isEmpty_eq_false_iff]
  intro h
  have := congrArg List.length h
  simp at this
  have e : s.data.size = s.size := rfl
  rw [this] at h1
  simp at h1
 have hb0 : ((s[0].toNat : Int) != 47) = false := by rw [h0]; rfl
 have i1 : (0 : Int) < (s.size : Int) := by omega
 go_enter Tryz.func68, Tryz.ntmps68
 go_wp2_with fail
 clear hie hb0 h0 i1
 go_loopg [4, 5] (s.size - 1) (fun g s4 s5 wx => ∃ (p : Nat) (l : List (List UInt8)) (x : List UInt8), s5 = .int .i64 p /\ 1 <= p /\ p + g = s.size /\ Hid (OwnS w.heap.size s4 (l ++ [x]).length (l ++ [x]) wx) /\ Hid (Below w.heap.size w wx) /\ Hid (R = l ++ glue x (segL (s.data.toList.drop p))) /\ (l ++ [x]).length <= p /\ x.length <= p)
 case atStart => exact ⟨1, [], [], rfl, Nat.le_refl _, by omega, hidE (OwnS.lit _ _ (Nat.le_refl _)), hidE ((Below.refl w.heap.size w).alloc (Nat.le_refl _) _), hidE (by rw [List.nil_append, glue_nil]; exact HR.out), by simp, by simp⟩
 case round =>
  obtain ⟨p, l, x, rfl, hp1, hpg, HO, HW, HR2, hlen, hxl⟩ := hrel
  have hBw : w.heap.size <= wr.heap.size := HW.out.size
  have i0' : (0 : Int) <= (p : Int) := by omega
  cases gk with
  | zero =>
   have hlt : ¬ (p : Int) < (s.size : Int) := by omega
   have HA : Hid (R = l ++ [x]) := hidE (by rw [HR2.out, List.drop_eq_nil_of_le (by simp; show s.size <= p; omega), glue_end])
   go_wp2_with fail
   go_ret2
   exact ⟨⟨_, rfl, by rw [HA.out]; exact HO.out⟩, HW.out⟩
  | succ g =>
   have hlt : (p : Int) < (s.size : Int) := by omega
   have hp : p < s.size := by omega
   by_cases hb : s[p] = 47
   ·have hbq : ((s[p].toNat : Int) == 47) = true := by rw [hb]; rfl
    have HN : Hid (R = (l ++ [x]) ++ glue [] (segL (s.data.toList.drop (p + 1)))) := hidE (by rw [HR2.out, drop_at' s p hp, hb, glue_slash]; simp)
    clear hb
    go_wp2_with (at_builtin; refine wpList_append_own _ rfl _ _ 79 rfl w.heap.size 9 i0 (.string ⟨#[]⟩) 1 16 Tryz.underlying79 hi hz0 hz1 hz2 rfl (by decide) _ _ _ rfl (HO.out.row.alloc _) ⟨wr.heap.size, 0, none⟩ 1 1 [.string ⟨#[]⟩] rfl rfl ?c1 ?c2 ?c3 ?c4 ?c5 ?_)
    case c1 =>
     intro j u hj
     match j, hj with
     | 0, hj => simp at hj; subst hj; simp [Addr.add]
    case c2 => intro u hu; simp at hu; subst hu; rfl
    case c3 => unfold maxLen; omega
    case c4 => omega
    case c5 => simp; omega
    intro v' w2 hown' hgrow _
    have HO2 : Hid (OwnS w.heap.size v' ((l ++ [x]) ++ [[]]).length ((l ++ [x]) ++ [[]]) w2) := hidE (by
     have e : ((l ++ [x]) ++ [[]]).map strV = l.map strV ++ [strV x, .string ⟨#[]⟩] := by simp [strV, bytesL]
     have e2 : ((l ++ [x]) ++ [([] : List UInt8)]).length = (l ++ [x]).length + 1 := by simp
     rw [e2]
     exact OwnS.of (by rw [e]; simpa using hown') (by omega))
    have HW2 := hidE ((HW.out.alloc (by omega) _).grown hgrow (by simp; omega) (fun k hk => (HO.out.row.lt k hk).1))
    clear hown' hgrow
    go_wp2_with fail
    go_roundg g
    case measure => omega
    case rel => exact ⟨p + 1, l ++ [x], [], by go_num, by omega, by omega, HO2, HW2, HN, by simp at hlen ⊢; omega, by simp⟩
   ·have hbn : ¬ (s[p].toNat : Int) = 47 := fun h => hb (UInt8.toNat_inj.1 (by have : ((47 : UInt8).toNat) = 47 := rfl; omega))
    have hbq : ((s[p].toNat : Int) == 47) = false := by rw [beq_eq_false_iff_ne]; exact hbn
    have HN : Hid (R = l ++ glue (x ++ [s[p]]) (segL (s.data.toList.drop (p + 1)))) := hidE (by rw [HR2.out, drop_at' s p hp, glue_byte _ _ _ hb])
    clear hb hbn
    obtain ⟨ga, cap, cur, rfl, g2, g3, g4, g5, g6, g7, g8⟩ := HO.out
    have hm : (l ++ [x]).length = l.length + 1 := by simp
    rw [hm] at g4 g7 g8 hlen HO
    have hcell : wr.drew.cell? ⟨ga, l.length, none⟩ = some (.string (bytesL x)) := by
     have h3 : wr.drew.heap[ga]? = some (.cells cur 9 (0, 0)) := g3
     rw [Lib.cell_of_heap h3, ← Array.getElem?_toList]
     have h4 : (cur.toList.take ((l.length + 1) * 1))[l.length]? = some (strV x) := by rw [g7]; simp
     rw [List.getElem?_take, if_pos (by omega)] at h4
     exact h4
    have hfz : wr.drew.frozen? ⟨ga, l.length, none⟩ = false := Lib.frozen_of_heap (show wr.drew.heap[ga]? = some (.cells cur 9 (0, 0)) from g3) _
    have v1 : IntKind.i64.wrap ((p : Int) + 1) = (p : Int) + 1 := wrapI (by omega)
    have v2 : IntKind.i64.wrap (((l.length + 1 : Nat) : Int) - 1) = (l.length : Int) := by rw [wrapI (by omega)]; omega
    have v3 : IntKind.i64.wrap ((l.length : Int) + 1 - 1) = (l.length : Int) := by rw [wrapI (by omega)]; omega
    have v4 : IntKind.i64.wrap (l.length : Int) = (l.length : Int) := wrapI (by omega)
    have b1 : (0 : Int) <= (l.length : Int) := by omega
    have hbd : ¬ 9223372036854775807 < (bytesL x).size + (min (p + 1) s.size - p) := by rw [bytesL_size]; omega
    have d1 : (p : Int) <= (p : Int) + 1 := by omega
    have d2 : (p : Int) + 1 <= (s.size : Int) := by omega
    have b2 : (l.length : Int) < (l.length : Int) + 1 := by omega
    go_wp2_with fail
    go_region_with (fail)
    all_goals (
     have hcat : bytesL x ++ s.extract p (p + 1) = bytesL (x ++ [s[p]]) := by rw [cut_one s p hp, bytesL_app]
     rw [hcat]
     have HO2 : Hid (OwnS w.heap.size (.slice (some ⟨ga, 0, none⟩) (l.length + 1) cap) (l ++ [x ++ [s[p]]]).length (l ++ [x ++ [s[p]]]) (wr.setCell ⟨ga, l.length, none⟩ (.string (bytesL (x ++ [s[p]])))).drew) := hidE (by
      have e2 : (l ++ [x ++ [s[p]]]).length = l.length + 1 := by simp
      rw [e2]
      exact OwnS.put g2 g3 g4 g5 g6 g7 hm)
     have HW2 := hidE (HW.out.setCell (p := ⟨ga, l.length, none⟩) g2 (.string (bytesL (x ++ [s[p]])))).drew
     go_wp2_with fail
     go_roundg g
     case measure => omega
     case rel => exact ⟨p + 1, l, x ++ [s[p]], by go_num, by omega, by omega, HO2, HW2, HN, by simp; omega, by simp; omega⟩)
end
section
open Go.RowKit Lift
set_option maxHeartbeats 4000000 in
set_option maxRecDepth 100000 in
theorem rseg_none (w : World) :
  Calls Tryz.prog 68 #[.string ⟨#[]⟩] w fun e w' => e = .returned (.tuple #[.slice none 0 0, .bool false]) /\ Below w.heap.size w w' := by
 go_enter Tryz.func68, Tryz.ntmps68
 go_wp2_with fail
 go_ret2
 exact ⟨rfl, Below.refl _ _⟩
set_option maxHeartbeats 4000000 in
set_option maxRecDepth 100000 in
theorem rseg_no (s : ByteArray) (h1 : 1 <= s.size) (h0 : s[0] ≠ 47) (w : World) :
  Calls Tryz.prog 68 #[.string s] w fun e w' => e = .returned (.tuple #[.slice none 0 0, .bool false]) /\ Below w.heap.size w w' := by
 have hie : s.toList.isEmpty = false := by
  rw [Lib.toList_data, List.isEmpty_eq_false_iff]
  intro h
  have := congrArg List.length h
  simp at this
  have e : s.data.size = s.size := rfl
  rw [this] at h1
  simp at h1
 have hbn : ¬ (s[0].toNat : Int) = 47 := fun h => h0 (UInt8.toNat_inj.1 (by have : ((47 : UInt8).toNat) = 47 := rfl; omega))
 have hb0 : ((s[0].toNat : Int) != 47) = true := by rw [bne_iff_ne]; exact hbn
 have i1 : (0 : Int) < (s.size : Int) := by omega
 go_enter Tryz.func68, Tryz.ntmps68
 go_wp2_with fail
 go_ret2
 exact ⟨rfl, Below.refl _ _⟩
def segsB (s : ByteArray) : List ByteArray × Bool := if (1 <= s.size /\ byteAt s 0 = 47) then ((segL (s.data.toList.drop 1)).map bytesL, true) else ([], false)
theorem owns_rel {w : World} {outer : Nat -> Nat -> Prop} {B : Nat} {v : Value} {n : Nat} {l : List (List UInt8)} (ho : ∀ b o, outer b o -> b < B) (h : OwnS B v n l w) : Rel (bare w outer) (.sl ((l.map bytesL).map eStr) .no) v := by
 obtain ⟨g, cap, cur, rfl, h2, h3, h4, h5, h6, h7, rfl⟩ := h
 have hcell : ∀ i x, l[i]? = some x -> w.cell? ⟨g, i, none⟩ = some (strV x) := fun i x hx => by
  rw [Lib.cell_of_heap h3, ← Array.getElem?_toList]
  have h8 := congrArg (·[i]?) h7
  simp only [List.getElem?_take, List.getElem?_map, hx, Option.map_some, Nat.mul_one] at h8
  rw [if_pos (List.getElem?_eq_some_iff.1 hx).1] at h8
  exact h8
 have hels : ∀ (i : Nat) (el : List AV), ((l.map bytesL).map eStr)[i]? = some el -> ∃ x, l[i]? = some x /\ el = [.v (strV x)] := fun i el he => by
  simp only [List.getElem?_map, Option.map_eq_some_iff] at he
  obtain ⟨y, ⟨x, hx, rfl⟩, rfl⟩ := he
  exact ⟨x, hx, rfl⟩
 have hlen : ((l.map bytesL).map eStr).length = l.length := by simp
 have := Rel.sl (σ := bare w outer) ((l.map bytesL).map eStr) .no g 0 cap 1 (fun i _ => strV (l.getD i [])) (fun i el he => by obtain ⟨x, _, rfl⟩ := hels i el he; rfl) (by rw [hlen]; exact h4) trivial (fun id e h => by cases h)
  (fun i el he j av hj => by
   obtain ⟨x, hx, rfl⟩ := hels i el he
   cases j with
   | zero =>
    simp at hj; subst hj
    have hd : l.getD i [] = x := by rw [List.getD_eq_getElem?_getD, hx]; rfl
    refine ⟨by simp only [hd]; rw [show 0 + i * 1 + 0 = i by omega]; exact hcell i x hx, fun q => q.elim (fun x => ?_) (fun x => bare_own _ _ _ _ x), rfl⟩
    have := ho _ _ x
    omega
   | succ j => simp at hj)
  (fun i el he j av hj => by
   obtain ⟨x, hx, rfl⟩ := hels i el he
   cases j with
   | zero =>
    simp at hj; subst hj
    have hd : l.getD i [] = x := by rw [List.getD_eq_getElem?_getD, hx]; rfl
    simp only [hd]
    exact .v _ rfl
   | succ j => simp at hj)
 rw [hlen] at this
 exact this
theorem rsegs (s : ByteArray) (hs : s.size <= 1048576) : ref55_segments s (segsB s) := by
 refine ⟨⟨_, Tryz.func68, by kernel_rfl, by kernel_rfl⟩, fun w outer cargs ho hg hr => ?_⟩
 rw [one_arg hr]
 have hno : ∀ (hn : ¬ (1 <= s.size /\ byteAt s 0 = 47)), Calls Tryz.prog 68 #[.string s] w fun e w' => e = .returned (.tuple #[.slice none 0 0, .bool false]) /\ Below w.heap.size w w' := fun hn => by
  by_cases h1 : 1 <= s.size
  ·refine rseg_no s h1 (fun h => hn ⟨h1, ?_⟩) w
   rw [byteAt_at s 0 (by omega), h]; rfl
  ·have : s = ⟨#[]⟩ := ba_ext (by
    have : s.data.toList.length = 0 := by
     rw [Array.length_toList]
     show s.size = 0
     omega
    rw [List.eq_nil_of_length_eq_zero this])
   rw [this]
   exact rseg_none w
 unfold segsB
 by_cases hc : 1 <= s.size /\ byteAt s 0 = 47
 ·rw [if_pos hc]
  have h0 : s[0] = 47 := by
   have h2 := hc.2
   rw [byteAt_at s 0 (by omega)] at h2
   exact UInt8.toNat_inj.1 (by have : ((47 : UInt8).toNat) = 47 := rfl; omega)
  refine (rseg_c s hs hc.1 h0 w).mono fun e w' ⟨⟨v, he, hv⟩, hb⟩ => ⟨.tuple [.sl (((segL (s.data.toList.drop 1)).map bytesL).map eStr) .no, .v (.bool true)], _, he, Past.of_below hb, ?_, rfl⟩
  refine Rel.tuple_mk rfl fun i av hi => ?_
  match i, hi with
  | 0, hi => simp at hi; subst hi; exact ⟨_, rfl, by simpa using owns_rel ho hv⟩
  | 1, hi => simp at hi; subst hi; exact ⟨_, rfl, .v _ rfl⟩
 ·rw [if_neg hc]
  refine (hno hc).mono fun e w' ⟨he, hb⟩ => ⟨.tuple [.sl [] .no, .v (.bool false)], _, he, Past.of_below hb, ?_, rfl⟩
  refine Rel.tuple_mk rfl fun i av hi => ?_
  match i, hi with
  | 0, hi => simp at hi; subst hi; exact ⟨_, rfl, .sl0 .no trivial⟩
  | 1, hi => simp at hi; subst hi; exact ⟨_, rfl, .v _ rfl⟩
end
theorem lenL (s : ByteArray) : s.data.toList.length = s.size := by simp
theorem bI_len (s : ByteArray) : (bI s).length = s.size := by simp [bI]
theorem bI_at (s : ByteArray) (p : Nat) (h : p < s.size) : (bI s)[p]? = some (s[p].toNat : Int) := by
 unfold bI
 have h' : p < s.data.toList.length := by simpa using h
 rw [List.getElem?_map, List.getElem?_eq_getElem h']
 rfl
theorem bI_cut (s : ByteArray) (a b : Nat) : ((bI s).take b).drop a = bI (bytesL ((s.data.toList.take b).drop a)) := by
 unfold bI
 rw [bytesL_toList, List.map_drop, List.map_take]
theorem gseg_end (s : ByteArray) (hs : s.size <= 1048576) (f : Nat) (out : List ByteArray) : gateway_segments_j2 ((s.size + 1 : Nat) : Int) f out s (out, true) := by
 refine gateway_segments_j2_step _ _ _ _ _ ⟨fun h => ?_, fun _ => rfl⟩
 rw [bI_len] at h
 simp only [decide_eq_true_eq] at h
 omega
theorem gseg_j (s : ByteArray) (hs : s.size <= 1048576) : ∀ (k i f : Nat) (out : List ByteArray), i + k = s.size -> f <= i -> out.length <= f -> gateway_segments_j2 i f out s (out ++ (glue ((s.data.toList.take i).drop f) (segL (s.data.toList.drop i))).map bytesL, true)
 | 0, i, f, out, hk, hf, ho => by
  refine gateway_segments_j2_step _ _ _ _ _ ⟨fun h => ⟨fun b => b = true, fun b hb => ⟨fun _ => ?_, fun hf => by rw [hb] at hf; cases hf⟩, fun _ => rfl, fun hn => ?_⟩, fun h => ?_⟩
  ·rw [bI_len]
   simp only [Int.toNat_natCast]
   refine ⟨by omega, bytesL ((s.data.toList.take i).drop f), bI_cut s f i, by simp; omega, ?_⟩
   rw [wI_id (by omega), show ((i : Int) + 1) = ((s.size + 1 : Nat) : Int) by omega, show s.data.toList.drop i = [] from List.drop_eq_nil_of_le (by rw [lenL]; omega), glue_end]
   exact gseg_end s hs _ _
  ·rw [bI_len] at hn
   simp only [beq_eq_false_iff_ne, ne_eq] at hn
   omega
  ·rw [bI_len] at h
   simp only [decide_eq_false_iff_not] at h
   omega
 | k + 1, i, f, out, hk, hf, ho => by
  have hi : i < s.size := by omega
  have hw : wI ((i : Int) + 1) = ((i + 1 : Nat) : Int) := by rw [wI_id (by omega)]; omega
  have hc := s[i].toNat_lt
  refine gateway_segments_j2_step _ _ _ _ _ ⟨fun h => ⟨fun b => b = decide (s[i] = 47), fun b hb => ⟨fun ht => ?_, fun hn => ?_⟩, fun he => ?_, fun hn => ⟨_, by rw [Int.toNat_natCast]; exact bI_at s i hi, by omega, ?_⟩⟩, fun h => ?_⟩
  ·rw [bI_len]
   simp only [Int.toNat_natCast]
   have h47 : s[i] = 47 := by rw [hb] at ht; simpa using ht
   refine ⟨by omega, bytesL ((s.data.toList.take i).drop f), bI_cut s f i, by simp; omega, ?_⟩
   rw [hw, drop_at' s i hi, h47, glue_slash]
   have := gseg_j s hs k (i + 1) (i + 1) (out ++ [bytesL ((s.data.toList.take i).drop f)]) (by omega) (Nat.le_refl _) (by simp; omega)
   rw [show (s.data.toList.take (i + 1)).drop (i + 1) = [] from List.drop_eq_nil_of_le (by rw [List.length_take]; omega), List.append_assoc] at this
   exact this
  ·have h47 : s[i] ≠ 47 := by rw [hb] at hn; simpa using hn
   rw [hw, drop_at' s i hi, glue_byte _ _ _ h47]
   have := gseg_j s hs k (i + 1) f out (by omega) (by omega) ho
   have e : (s.data.toList.take (i + 1)).drop f = (s.data.toList.take i).drop f ++ [s[i]] := by
    have h' : i < s.data.toList.length := by rw [lenL]; exact hi
    rw [List.take_add_one, List.drop_append_of_le_length (by rw [List.length_take]; omega), List.getElem?_eq_getElem h']
    rfl
   rw [e] at this
   exact this
  ·rw [bI_len] at he
   simp only [beq_iff_eq] at he
   omega
  ·have e47 : ((47 : UInt8).toNat) = 47 := rfl
   by_cases h47 : s[i] = 47
   ·simp [h47]
   ·have : ¬ (s[i].toNat : Int) = 47 := fun h => h47 (UInt8.toNat_inj.1 (by omega))
    rw [decide_eq_false h47]; exact beq_eq_false_iff_ne.2 this
  ·rw [bI_len] at h
   simp only [decide_eq_false_iff_not] at h
   omega
theorem gsegs (s : ByteArray) (hs : s.size <= 1048576) : gateway_segments s (segsB s) := by
 unfold segsB
 refine gateway_segments_step _ _ ⟨fun b => b = decide (¬ (1 <= s.size /\ byteAt s 0 = 47)), fun b hb => ⟨fun ht => ?_, fun hn => ?_⟩, fun he => ?_, fun hn => ⟨⟨Int.le_refl _, ?_⟩, ?_⟩⟩
 ·rw [hb] at ht
  rw [if_neg (of_decide_eq_true ht)]
 ·rw [hb] at hn
  have hc : 1 <= s.size /\ byteAt s 0 = 47 := by
   simp only [decide_eq_false_iff_not, Decidable.not_not] at hn
   exact hn
  rw [if_pos hc]
  have := gseg_j s hs (s.size - 1) 1 1 [] (by omega) (Nat.le_refl _) (by simp)
  rw [show (s.data.toList.take 1).drop 1 = [] from List.drop_eq_nil_of_le (by rw [List.length_take]; omega), glue_nil, List.nil_append] at this
  exact this
 ·simp only [decide_eq_true_eq] at he
  rw [eq_comm, decide_eq_true_eq]
  rintro ⟨h1, _⟩
  rw [he] at h1
  exact absurd h1 (by decide)
 ·simp only [decide_eq_false_iff_not] at hn
  have : s.size ≠ 0 := fun h => hn (ba_ext (by
   have : s.data.toList.length = 0 := by rw [lenL]; exact h
   rw [List.eq_nil_of_length_eq_zero this]))
  omega
 ·simp only [decide_eq_false_iff_not] at hn
  have : s.size ≠ 0 := fun h => hn (ba_ext (by
   have : s.data.toList.length = 0 := by rw [lenL]; exact h
   rw [List.eq_nil_of_length_eq_zero this]))
  have h1 : 1 <= s.size := by omega
  show ((byteAt s 0) != 47) = _
  by_cases h47 : byteAt s 0 = 47
  ·rw [decide_eq_false (by simp [h1, h47])]; simp [h47]
  ·rw [decide_eq_true (by simp [h47])]; simpa using h47
def litOK (c : Int) : Bool := plainI c && !(decide (65 <= c) && decide (c <= 90))
def litB (s : ByteArray) : Bool := s.data.toList.all (fun c => litOK (c.toNat : Int)) && !(decide (s = (⟨#[]⟩ : ByteArray)))
theorem gplain_is (c : Int) : gateway_plain c (plainI c) := gateway_plain_step _ _ rfl
theorem glit_j (s : ByteArray) (hs : s.size <= 1048576) : ∀ (k p : Nat), p + k = s.size -> gateway_literal_j2 p s ((s.data.toList.drop p).all (fun c => litOK (c.toNat : Int)) && !(decide (s = (⟨#[]⟩ : ByteArray))))
 | 0, p, hk => by
  refine gateway_literal_j2_step _ _ _ ⟨fun h => by simp only [decide_eq_true_eq] at h; omega, fun _ => ?_⟩
  rw [List.drop_eq_nil_of_le (by rw [lenL]; omega)]; simp
 | k + 1, p, hk => by
  have hp : p < s.size := by omega
  have hw : wI ((p : Int) + 1) = ((p + 1 : Nat) : Int) := by rw [wI_id (by omega)]; omega
  have ih := glit_j s hs k (p + 1) (by omega)
  refine gateway_literal_j2_step _ _ _ ⟨fun h => ⟨by omega, _, gplain_is _, ?_⟩, fun h => by simp only [decide_eq_false_iff_not] at h; omega⟩
  simp only [Int.toNat_natCast, byteAt_at s p hp, hw]
  rw [drop_at' s p hp, List.all_cons]
  refine ⟨fun hn => ?_, fun hy => ⟨by omega, fun h1 => ⟨by omega, fun h2 => ?_, fun h2 => ?_⟩, fun h1 => ?_⟩⟩
  ·simp only [Bool.not_eq_true'] at hn; simp [litOK, hn]
  ·simp [litOK, h1, h2]
  ·have : litOK (s[p].toNat : Int) = true := by simp only [Bool.not_eq_false'] at hy; simp [litOK, hy, h2]
   rw [this, Bool.true_and]; exact ih
  ·have : litOK (s[p].toNat : Int) = true := by simp only [Bool.not_eq_false'] at hy; simp [litOK, hy, h1]
   rw [this, Bool.true_and]; exact ih
theorem glit (s : ByteArray) (hs : s.size <= 1048576) : gateway_literal s (litB s) := gateway_literal_step _ _ (by
 have := glit_j s hs s.size 0 (by omega)
 rw [List.drop_zero] at this
 exact this)
theorem rlit_j (s : ByteArray) (hs : s.size <= 1048576) : ∀ (k p : Nat), p + k = s.size -> ref55_literal_j2 p s ((s.data.toList.drop p).all (fun c => litOK (c.toNat : Int)) && !(decide (s = (⟨#[]⟩ : ByteArray))))
 | 0, p, hk => by
  refine ref55_literal_j2_step _ _ _ ⟨fun h => by simp only [decide_eq_true_eq] at h; omega, fun _ => ?_⟩
  rw [List.drop_eq_nil_of_le (by rw [lenL]; omega)]; simp
 | k + 1, p, hk => by
  have hp : p < s.size := by omega
  have hw : wI ((p : Int) + 1) = ((p + 1 : Nat) : Int) := by rw [wI_id (by omega)]; omega
  have ih := rlit_j s hs k (p + 1) (by omega)
  refine ref55_literal_j2_step _ _ _ ⟨fun h => ⟨by omega, _, rplain_is _, ?_⟩, fun h => by simp only [decide_eq_false_iff_not] at h; omega⟩
  simp only [Int.toNat_natCast, byteAt_at s p hp, hw]
  rw [drop_at' s p hp, List.all_cons]
  refine ⟨fun hn => ?_, fun hy => ⟨by omega, fun b => b = (decide (65 <= (s[p].toNat : Int)) && decide ((s[p].toNat : Int) <= 90)), fun b hb => ⟨fun ht => ?_, fun hf => ?_⟩, fun h1 => ⟨by omega, by simp [h1]⟩, fun h1 => by simp [h1]⟩⟩
  ·simp only [Bool.not_eq_true'] at hn; simp [litOK, hn]
  ·rw [hb] at ht; simp only [litOK, ht]; simp
  ·rw [hb] at hf
   have : litOK (s[p].toNat : Int) = true := by simp only [Bool.not_eq_false'] at hy; simp only [litOK, hf, hy]; rfl
   rw [this, Bool.true_and]; exact ih
theorem rlit (s : ByteArray) (hs : s.size <= 1048576) : ref55_literal s (litB s) := ref55_literal_step _ _ (by
 have := rlit_j s hs s.size 0 (by omega)
 rw [List.drop_zero] at this
 exact this)
theorem dec_hi (n b0 b1 b2 b3 : Nat) (h : 128 <= b0) : 128 <= (Lib.decodeN n b0 b1 b2 b3).1 := by
 unfold Lib.decodeN
 repeat' split
 all_goals first | omega | (simp only []; omega) | skip
theorem get_at (s : ByteArray) (p : Nat) (h : p < s.size) : s.get! p = s[p] := by
 show s.data[p]! = s.data[p]
 exact getElem!_pos s.data p h
theorem dec_lo (s : ByteArray) (p : Nat) (h : p < s.size) (hb : s[p].toNat < 128) : Utf8.decode s p = (s[p].toNat, 1) := by
 rw [Lib.decode_at, get_at s p h]
 unfold Lib.decodeN
 rw [if_pos hb]
theorem dec_up (s : ByteArray) (p : Nat) (h : p < s.size) (hb : ¬ s[p].toNat < 128) : 128 <= (Utf8.decode s p).1 := by
 rw [Lib.decode_at, get_at s p h]
 exact dec_hi _ _ _ _ _ (by omega)
def smallI (c : Int) : Bool := decide (97 <= c) && decide (c <= 122)
def capI (c : Int) : Bool := decide (65 <= c) && decide (c <= 90)
def digB (c : Int) : Bool := decide (48 <= c) && decide (c <= 57)
def classI (c : Int) : Int := if smallI c = true then 1 else if capI c = true then 2 else if digB c = true then 3 else if c = 95 then 4 else 0
theorem class_is (c : Int) : ident_class c (classI c) := by
 refine ident_class_step _ _ ⟨fun h => ?_, fun h => ⟨fun h1 => ?_, fun h1 => ⟨fun h2 => ?_, fun h2 => ⟨fun h3 => ?_, fun h3 => ?_⟩⟩⟩⟩
 ·unfold classI; rw [if_pos (show smallI c = true from h)]
 ·unfold classI; rw [if_neg (by rw [show smallI c = false from h]; simp), if_pos (show capI c = true from h1)]
 ·unfold classI; rw [if_neg (by rw [show smallI c = false from h]; simp), if_neg (by rw [show capI c = false from h1]; simp), if_pos (show digB c = true from h2)]
 ·unfold classI; rw [if_neg (by rw [show smallI c = false from h]; simp), if_neg (by rw [show capI c = false from h1]; simp), if_neg (by rw [show digB c = false from h2]; simp), if_pos (by simpa using h3)]
 ·unfold classI; rw [if_neg (by rw [show smallI c = false from h]; simp), if_neg (by rw [show capI c = false from h1]; simp), if_neg (by rw [show digB c = false from h2]; simp), if_neg (by simpa using h3)]
def innB (c : Int) : Bool := smallI c || capI c || digB c || c == 95
def firB (c : Int) : Bool := smallI c || capI c
theorem class_inn (c : Int) : (classI c == 0) = !(innB c) := by
 unfold classI innB
 cases smallI c <;> cases capI c <;> cases digB c <;> by_cases h : c = 95 <;> simp [h]
theorem class_fir (c : Int) : ((classI c == 0) || ((classI c != 1) && (classI c != 2))) = !(firB c) := by
 unfold classI firB
 cases smallI c <;> cases capI c <;> cases digB c <;> by_cases h : c = 95 <;> simp [h]
theorem class_big (c : Int) (h : 128 <= c) : classI c = 0 := by
 unfold classI smallI capI digB
 rw [if_neg (by simp; omega), if_neg (by simp; omega), if_neg (by simp; omega), if_neg (by omega)]
def partB (s : ByteArray) : Bool := decide (1 <= (s.size : Int)) && decide ((s.size : Int) <= 40) && (firB (byteAt s 0)) && (s.data.toList.drop 1).all (fun c => innB (c.toNat : Int))
theorem part_j (s : ByteArray) (hs : s.size <= 1048576) : ∀ (k p : Nat), p + k = s.size -> 1 <= p -> ident_IsPart_j2 s p ((s.data.toList.drop p).all (fun c => innB (c.toNat : Int)) && (decide (1 <= (s.size : Int)) && decide ((s.size : Int) <= 40)))
 | 0, p, hk, h1 => by
  refine ident_IsPart_j2_step _ _ _ ⟨fun h => by omega, fun _ => ?_⟩
  rw [List.drop_eq_nil_of_le (by rw [lenL]; omega)]; simp
 | k + 1, p, hk, h1 => by
  have hp : p < s.size := by omega
  refine ident_IsPart_j2_step _ _ _ ⟨fun h => ⟨_, class_is _, ?_⟩, fun h => by omega⟩
  have hz : (((p : Nat) : Int) == 0) = false := by rw [beq_eq_false_iff_ne]; omega
  rw [hz, Bool.false_and, Bool.false_and, Bool.or_false, drop_at' s p hp, List.all_cons]
  by_cases hb : s[p].toNat < 128
  ·rw [dec_lo s p hp hb, class_inn]
   refine ⟨fun ht => ?_, fun hf => ?_⟩
   ·simp only [Bool.not_eq_true'] at ht; rw [ht]; rfl
   ·simp only [Bool.not_eq_false'] at hf; rw [hf, Bool.true_and]; exact part_j s hs k (p + 1) (by omega) (by omega)
  ·have h2 := dec_up s p hp hb
   have h3 := class_big (((Utf8.decode s p).1 : Nat) : Int) (by omega)
   have h4 : innB (s[p].toNat : Int) = false := by
    have := class_inn (s[p].toNat : Int)
    rw [class_big _ (by omega)] at this
    simpa using this.symm
   rw [h3, h4]
   exact ⟨fun _ => by simp, fun hf => by simp at hf⟩
theorem part_is (s : ByteArray) (hs : s.size <= 1048576) : ident_IsPart s (partB s) := by
 refine ident_IsPart_step _ _ (ident_IsPart_j2_step _ _ _ ⟨fun h => ⟨_, class_is _, ?_⟩, fun h => ?_⟩)
 ·rw [show ((((0 : Nat) : Nat) : Int) == 0) = true from rfl, Bool.true_and]
  have hb0 := byteAt_at s 0 h
  by_cases hb : s[0].toNat < 128
  ·rw [dec_lo s 0 h hb, class_fir]
   unfold partB
   rw [hb0]
   refine ⟨fun ht => ?_, fun hf => ?_⟩
   ·simp only [Bool.not_eq_true'] at ht; rw [ht]; simp
   ·simp only [Bool.not_eq_false'] at hf
    have := part_j s hs (s.size - 1) 1 (by omega) (Nat.le_refl _)
    rw [hf, Bool.and_true, Bool.and_comm]
    simpa using this
  ·have h2 := dec_up s 0 h hb
   have h3 := class_big (((Utf8.decode s 0).1 : Nat) : Int) (by omega)
   have h4 : firB (s[0].toNat : Int) = false := by
    have := class_fir (s[0].toNat : Int)
    rw [class_big _ (by omega)] at this
    simpa using this.symm
   rw [h3]
   refine ⟨fun _ => ?_, fun hf => by simp at hf⟩
   unfold partB
   rw [hb0, h4]; simp
 ·have : s.size = 0 := by omega
  unfold partB
  rw [this]; simp
theorem rpart_j (s : ByteArray) (hs : s.size <= 1048576) : ∀ (k p : Nat), p + k = s.size -> ref06_IsPart_j2 p s ((s.data.toList.drop p).all (fun c => innB (c.toNat : Int)))
 | 0, p, hk => by
  refine ref06_IsPart_j2_step _ _ _ ⟨fun h => by simp only [decide_eq_true_eq] at h; omega, fun _ => ?_⟩
  rw [List.drop_eq_nil_of_le (by rw [lenL]; omega)]; rfl
 | k + 1, p, hk => by
  have hp : p < s.size := by omega
  have hw : wI ((p : Int) + 1) = ((p + 1 : Nat) : Int) := by rw [wI_id (by omega)]; omega
  have ih := rpart_j s hs k (p + 1) (by omega)
  refine ref06_IsPart_j2_step _ _ _ ⟨fun h => ⟨by omega, _, ref06_small_step _ _ rfl, ?_⟩, fun h => by simp only [decide_eq_false_iff_not] at h; omega⟩
  simp only [Int.toNat_natCast, byteAt_at s p hp, hw]
  rw [drop_at' s p hp, List.all_cons]
  have hi : innB (s[p].toNat : Int) = (smallI (s[p].toNat : Int) || capI (s[p].toNat : Int) || digB (s[p].toNat : Int) || (s[p].toNat : Int) == 95) := rfl
  refine ⟨fun b => b = !(smallI (s[p].toNat : Int) || capI (s[p].toNat : Int)), fun b6 h6 => ⟨fun b => b = (b6 && ((s[p].toNat : Int) != 95)), fun b7 h7 => ⟨fun ht => ⟨by omega, fun b => b = !(digB (s[p].toNat : Int)), fun b8 h8 => ⟨fun h => ?_, fun h => ?_⟩, fun h => ?_, fun h => ⟨by omega, ?_⟩⟩, fun hf => ?_⟩, fun h => ⟨by omega, by rw [h, Bool.true_and]⟩, fun h => by rw [h, Bool.false_and]⟩, fun h => ⟨by omega, _, ref06_capital_step _ _ rfl, ?_⟩, fun h => ?_⟩
  ·rw [h7] at ht
   simp only [Bool.and_eq_true] at ht
   have h1 := ht.1
   rw [h6] at h1
   rw [h8] at h
   simp only [Bool.not_eq_true', Bool.or_eq_false_iff] at h1 h
   have h2 : ((s[p].toNat : Int) == 95) = false := by have := ht.2; simpa [bne] using this
   rw [hi, h1.1, h1.2, h, h2]; rfl
  ·rw [h8] at h
   simp only [Bool.not_eq_false'] at h
   rw [hi, h]; simp only [Bool.or_true, Bool.true_or, Bool.true_and]; exact ih
  ·simp only [decide_eq_true_eq] at h
   have : digB (s[p].toNat : Int) = false := by unfold digB; simp; omega
   rw [this]; rfl
  ·simp only [decide_eq_false_iff_not] at h
   unfold digB
   by_cases h9 : 57 < (s[p].toNat : Int)
   ·rw [decide_eq_true h9, decide_eq_false (p := (s[p].toNat : Int) <= 57) (by omega)]; simp
   ·rw [decide_eq_false h9, decide_eq_true (p := (s[p].toNat : Int) <= 57) (by omega), decide_eq_true (p := (48 : Int) <= (s[p].toNat : Int)) (by omega)]; rfl
  ·rw [h7, h6] at hf
   have : innB (s[p].toNat : Int) = true := by
    rw [hi]
    cases h1 : smallI (s[p].toNat : Int) with
    | true => simp
    | false =>
     cases h2 : capI (s[p].toNat : Int) with
     | true => simp
     | false =>
      rw [h1, h2] at hf
      have : ((s[p].toNat : Int) == 95) = true := by simpa [bne] using hf
      rw [this]; simp
   rw [this, Bool.true_and]; exact ih
  ·have h0 : smallI (s[p].toNat : Int) = false := by rw [Bool.not_eq_true'] at h; exact h
   rw [h0, Bool.false_or]; rfl
  ·have h0 : smallI (s[p].toNat : Int) = true := by rw [Bool.not_eq_false'] at h; exact h
   rw [h0]; rfl
theorem rpart_is (s : ByteArray) (hs : s.size <= 1048576) : ref06_IsPart s (partB s) := by
 refine ref06_IsPart_step _ _ ⟨fun b => b = !(decide (1 <= (s.size : Int)) && decide ((s.size : Int) <= 40) && firB (byteAt s 0)), fun b hb => ⟨fun ht => ?_, fun hf => ?_⟩, fun h => ?_, fun h => ⟨⟨Int.le_refl _, ?_⟩, _, ref06_small_step _ _ rfl, fun b => b = !(decide (1 <= (s.size : Int)) && decide ((s.size : Int) <= 40) && firB (byteAt s 0)), fun b hb => hb, fun h2 => ⟨⟨Int.le_refl _, ?_⟩, _, ref06_capital_step _ _ rfl, ?_⟩, fun h2 => ?_⟩⟩
 ·rw [hb] at ht
  simp only [Bool.not_eq_true'] at ht
  unfold partB
  rw [ht]; rfl
 ·rw [hb] at hf
  simp only [Bool.not_eq_false'] at hf
  unfold partB
  rw [hf, Bool.true_and]
  have h1 : 1 <= s.size := by
   simp only [Bool.and_eq_true, decide_eq_true_eq] at hf
   omega
  exact rpart_j s hs (s.size - 1) 1 (by omega)
 ·simp only [Bool.or_eq_true, beq_iff_eq, decide_eq_true_eq] at h
  rcases h with h | h
  ·rw [decide_eq_false (p := (1 : Int) <= (s.size : Int)) (by omega)]; rfl
  ·rw [decide_eq_false (p := (s.size : Int) <= 40) (by omega)]; simp
 ·simp only [Bool.or_eq_false_iff, beq_eq_false_iff_ne, decide_eq_false_iff_not] at h; omega
 ·simp only [Bool.or_eq_false_iff, beq_eq_false_iff_ne, decide_eq_false_iff_not] at h; omega
 ·simp only [Bool.or_eq_false_iff, beq_eq_false_iff_ne, decide_eq_false_iff_not] at h
  rw [decide_eq_true (p := (1 : Int) <= (s.size : Int)) (by omega), decide_eq_true (p := (s.size : Int) <= 40) (by omega)]
  have h0 : smallI (byteAt s 0) = false := by rw [Bool.not_eq_true'] at h2; exact h2
  unfold firB
  rw [h0]; rfl
 ·simp only [Bool.or_eq_false_iff, beq_eq_false_iff_ne, decide_eq_false_iff_not] at h
  rw [decide_eq_true (p := (1 : Int) <= (s.size : Int)) (by omega), decide_eq_true (p := (s.size : Int) <= 40) (by omega)]
  have h0 : smallI (byteAt s 0) = true := by rw [Bool.not_eq_false'] at h2; exact h2
  unfold firB
  rw [h0]; rfl
def dotL : List UInt8 -> List (List UInt8)
 | [] => [[]]
 | c :: r => if c = 46 then [] :: dotL r else match dotL r with
  | [] => [[c]]
  | h :: t => (c :: h) :: t
theorem dotL_ne : ∀ l, dotL l ≠ []
 | [] => by simp [dotL]
 | c :: r => by
  unfold dotL
  split
  ·simp
  ·split <;> simp
theorem dglue_dot (x r : List UInt8) : glue x (dotL (46 :: r)) = x :: glue [] (dotL r) := by
 have h : dotL (46 :: r) = [] :: dotL r := by rw [dotL, if_pos rfl]
 rw [h, glue, List.append_nil]
 cases hs : dotL r with
 | nil => exact absurd hs (dotL_ne r)
 | cons a b => rw [glue, List.nil_append]
theorem dglue_byte (x : List UInt8) (c : UInt8) (r : List UInt8) (hc : c ≠ 46) : glue x (dotL (c :: r)) = glue (x ++ [c]) (dotL r) := by
 rw [dotL, if_neg hc]
 cases hs : dotL r with
 | nil => exact absurd hs (dotL_ne r)
 | cons a b => simp [glue]
theorem dglue_nil (r : List UInt8) : glue [] (dotL r) = dotL r := by
 cases hs : dotL r with
 | nil => exact absurd hs (dotL_ne r)
 | cons a b => rw [glue, List.nil_append]
theorem splitK_dot : ∀ l : List UInt8, Lib.splitK [46] 0 (Lib.count l [46]) l = dotL l
 | [] => by
  have h : Lib.count ([] : List UInt8) [46] = 0 := Lib.count_miss (by decide)
  rw [h]; rfl
 | c :: r => by
  by_cases hc : c = 46
  ·subst hc
   rw [Lib.count_cons_eq, Nat.add_comm, Lib.splitK]
   have hi : Lib.index (46 :: r) [46] = 0 := by unfold Lib.index; simp
   rw [hi, if_neg (by decide), dotL, if_pos rfl]
   have := splitK_dot r
   simpa using this
  ·rw [Lib.count_cons_ne _ _ _ hc, dotL, if_neg hc, ← splitK_dot r]
   have hi : Lib.index (c :: r) [46] = if Lib.index r [46] == -1 then -1 else Lib.index r [46] + 1 := by
    rw [Lib.index]
    rw [if_neg (by simp [Ne.symm hc])]
   by_cases hm : Lib.index r [46] = -1
   ·rw [Lib.count_miss hm]; rfl
   ·have h0 := Lib.index_ge r [46]
    obtain ⟨i, hii⟩ : ∃ i : Nat, Lib.index r [46] = i := ⟨(Lib.index r [46]).toNat, by omega⟩
    rw [Lib.count_hit (by simp) hii, Nat.add_comm, Lib.splitK, Lib.splitK, hi, hii]
    have e1 : ¬ (((i : Int) == -1) = true) := by rw [beq_iff_eq]; omega
    rw [if_neg e1, if_neg e1, if_neg (by rw [beq_iff_eq]; omega)]
    have e2 : ((i : Int) + 1).toNat = i + 1 := by omega
    simp [e2]
def fullB (s : ByteArray) : Bool := (dotL s.data.toList).all (fun x => partB (bytesL x)) && decide ((s.size : Int) <= 120)
theorem rfull_j (s : ByteArray) (hs : s.size <= 1048576) : ∀ (k p : Nat) (x : List UInt8), p + k = s.size -> x.length <= p -> ref06_IsFull_j2 p (bytesL x) s ((glue x (dotL (s.data.toList.drop p))).all (fun x => partB (bytesL x)))
 | 0, p, x, hk, hx => by
  refine ref06_IsFull_j2_step _ _ _ _ ⟨fun h => by simp only [decide_eq_true_eq] at h; omega, fun _ => ⟨_, rpart_is (bytesL x) (by rw [bytesL_size]; omega), ?_⟩⟩
  rw [List.drop_eq_nil_of_le (by rw [lenL]; omega)]; simp [dotL, glue]
 | k + 1, p, x, hk, hx => by
  have hp : p < s.size := by omega
  have hw : wI ((p : Int) + 1) = ((p + 1 : Nat) : Int) := by rw [wI_id (by omega)]; omega
  refine ref06_IsFull_j2_step _ _ _ _ ⟨fun h => ⟨by omega, ?_⟩, fun h => by simp only [decide_eq_false_iff_not] at h; omega⟩
  simp only [Int.toNat_natCast, byteAt_at s p hp, hw]
  rw [drop_at' s p hp]
  have e46 : ((46 : UInt8).toNat) = 46 := rfl
  refine ⟨fun hb => ⟨by omega, ?_⟩, fun hb => ⟨_, rpart_is (bytesL x) (by rw [bytesL_size]; omega), ?_⟩⟩
  ·have hc : s[p] ≠ 46 := fun h => by rw [h] at hb; simp at hb
   rw [cut_one s p hp, bytesL_size, bytesL_size, bytesL_app, dglue_byte _ _ _ hc]
   exact ⟨by simp; omega, rfull_j s hs k (p + 1) _ (by omega) (by simp; omega)⟩
  ·have hc : s[p] = 46 := by
    simp only [bne_eq_false_iff_eq] at hb
    exact UInt8.toNat_inj.1 (by omega)
   rw [hc, dglue_dot, List.all_cons]
   refine ⟨fun h => ?_, fun h => ?_⟩
   ·simp only [Bool.not_eq_true'] at h; rw [h]; rfl
   ·simp only [Bool.not_eq_false'] at h
    rw [h, Bool.true_and]
    exact rfull_j s hs k (p + 1) [] (by omega) (by simp)
theorem rfull_is (s : ByteArray) (hs : s.size <= 1048576) : ref06_IsFull s (fullB s) := by
 refine ref06_IsFull_step _ _ ⟨fun h => ?_, fun h => ?_⟩
 ·simp only [decide_eq_true_eq] at h
  unfold fullB
  rw [decide_eq_false (p := (s.size : Int) <= 120) (by omega), Bool.and_false]
 ·simp only [decide_eq_false_iff_not] at h
  unfold fullB
  rw [decide_eq_true (p := (s.size : Int) <= 120) (by omega), Bool.and_true]
  have := rfull_j s hs s.size 0 [] (by omega) (by simp)
  rw [List.drop_zero, dglue_nil] at this
  exact this
theorem two_args {σ : Sg} {x y : Value} {cargs : Array Value} (hr : Rels σ [.v x, .v y] cargs.toList) : cargs = #[x, y] := by
 obtain ⟨hl, hx⟩ := hr
 obtain ⟨x0, h0, r0⟩ := hx 0 _ rfl
 obtain ⟨x1, h1, r1⟩ := hx 1 _ rfl
 have e0 := rel_v r0
 have e1 := rel_v r1
 subst e0 e1
 apply Array.ext'
 match hc : cargs.toList, hl, h0, h1 with
 | [a, b], _, h0, h1 => simp at h0 h1; simp [h0, h1]
theorem elt_inv {σ : Sg} {cells : List AV} {off : Nat} {v : Value} (h : Rel σ (.elt cells off) v) : ∃ (b o : Nat) (xs : Nat -> Value), v = .pointer (some ⟨b, o + off, none⟩) /\ ∀ (i : Nat) (av : AV), cells[i]? = some av -> σ.w.cell? ⟨b, o + i, none⟩ = some (xs i) /\ Rel σ av (xs i) := by
 cases h with
 | elt _ _ b o xs hc hr => exact ⟨b, o, xs, rfl, fun i av hi => ⟨(hc i av hi).1, hr i av hi⟩⟩
theorem globs_cell {w : World} {outer : Nat -> Nat -> Prop} {m : Int} (h : Globs w outer (GLm m)) : w.cell? ⟨2, 0, none⟩ = some (.int .i64 m) := by
 obtain ⟨b, o, xs, hv, hc⟩ := elt_inv (h 2 [.v (.int .i64 m)] (by simp [GLm]))
 obtain ⟨h1, h2⟩ := hc 0 _ rfl
 rw [rel_v h2] at h1
 injection hv with hv
 injection hv with hv
 injection hv with h3 h4
 have h5 : o = 0 := by omega
 subst h5
 rw [← h3] at h1
 exact h1
theorem split_is (mg : Int) (s : ByteArray) (hs : s.size <= 1048576) : strings_Split mg s ⟨#[46]⟩ ((dotL s.data.toList).map bytesL) := by
 refine ⟨⟨_, Tryz.func150, by kernel_rfl, by kernel_rfl⟩, fun w outer cargs ho hg hr => ?_⟩
 rw [two_args hr]
 have hc := Tryz.strings_Split s ⟨#[46]⟩ mg w (by omega) (globs_cell hg) (by decide)
 refine hc.mono fun e w' ⟨he, hw⟩ => ⟨.sl (((dotL s.data.toList).map bytesL).map eStr) .no, _, he, ?_, ?_, rfl⟩
 ·rw [hw]; exact Past.alloc _ _
 ·have hd : (Lib.splitB ⟨#[46]⟩ 0 (Lib.countB s ⟨#[46]⟩) s).map (·.data.toList) = dotL s.data.toList := by
   rw [Lib.splitB_data]; exact splitK_dot _
  have hlen := Lib.splitB_all ⟨#[46]⟩ (by decide) 0 (Lib.countB s ⟨#[46]⟩) s rfl
  have hle := Lib.countB_le ⟨#[46]⟩ (by decide) s.size s (Nat.le_refl _)
  subst hw
  refine owns_rel (B := w.heap.size) (n := Lib.countB s ⟨#[46]⟩ + 1) ho ⟨w.heap.size, _, _, rfl, Nat.le_refl _, heap_alloc_new w _, Nat.le_refl _, by unfold maxLen; omega, by simp [hlen], ?_, by rw [← hd]; simpa using hlen⟩
  rw [Nat.mul_one, List.take_of_length_le (by simp [hlen]), ← hd, List.map_map]
  rfl
theorem gfull_j (mg : Int) (s : ByteArray) (hs : s.size <= 1048576) (L : List (List UInt8)) (hl : ∀ x ∈ L, x.length <= 1048576) (hL : L.length <= 2097152) : ∀ (k i : Nat), i + k = L.length -> ident_IsFull_j2 i (L.map bytesL) s mg ((L.drop i).all (fun x => partB (bytesL x)) && decide ((s.size : Int) <= 120))
 | 0, i, hk => by
  refine ident_IsFull_j2_step _ _ _ _ _ ⟨fun h => by simp only [decide_eq_true_eq, List.length_map] at h; omega, fun _ => ?_⟩
  rw [List.drop_eq_nil_of_le (by omega)]; rfl
 | k + 1, i, hk => by
  have hi : i < L.length := by omega
  have hw : wI ((i : Int) + 1) = ((i + 1 : Nat) : Int) := by rw [wI_id (by omega)]; omega
  refine ident_IsFull_j2_step _ _ _ _ _ ⟨fun h => ⟨bytesL L[i], by rw [Int.toNat_natCast, List.getElem?_map, List.getElem?_eq_getElem hi]; rfl, by omega, _, part_is _ (by rw [bytesL_size]; exact hl _ (List.getElem_mem hi)), ?_⟩, fun h => by simp only [decide_eq_false_iff_not, List.length_map] at h; omega⟩
  rw [hw, List.drop_eq_getElem_cons hi, List.all_cons]
  refine ⟨fun h => ?_, fun h => ?_⟩
  ·simp only [Bool.not_eq_true'] at h; rw [h]; rfl
  ·simp only [Bool.not_eq_false'] at h
   rw [h, Bool.true_and]
   exact gfull_j mg s hs L hl hL k (i + 1) (by omega)
theorem dotL_len : ∀ l : List UInt8, (dotL l).length <= l.length + 1 /\ ∀ x ∈ dotL l, x.length <= l.length
 | [] => by simp [dotL]
 | c :: r => by
  obtain ⟨h1, h2⟩ := dotL_len r
  unfold dotL
  split
  ·refine ⟨by simp; omega, fun x hx => ?_⟩
   rcases List.mem_cons.1 hx with rfl | hx
   ·simp
   ·have := h2 x hx; simp; omega
  ·split
   ·simp
   ·rename_i h t he
    rw [he] at h1 h2
    refine ⟨by simp at h1 ⊢; omega, fun x hx => ?_⟩
    rcases List.mem_cons.1 hx with rfl | hx
    ·have := h2 h (by simp); simp; omega
    ·have := h2 x (by simp [hx]); simp; omega
theorem gfull_is (mg : Int) (s : ByteArray) (hs : s.size <= 1048576) : ident_IsFull mg s (fullB s) := by
 refine ident_IsFull_step _ _ _ ⟨_, split_is mg s hs, ?_⟩
 obtain ⟨h1, h2⟩ := dotL_len s.data.toList
 rw [lenL] at h1 h2
 have := gfull_j mg s hs (dotL s.data.toList) (fun x hx => by have := h2 x hx; omega) (by omega) _ 0 (Nat.zero_add _)
 exact this
def midB (s : ByteArray) : ByteArray := s.extract 1 (s.size - 1)
def noV (s : ByteArray) : Bool := (byteAt s 0 != 123) || (byteAt s (s.size - 1) != 125) || !(fullB (midB s))
def vOK (s : ByteArray) : Bool := decide (3 <= s.size) && !(noV s)
theorem full_nil : fullB ⟨#[]⟩ = false := by decide +kernel
theorem mid_size (s : ByteArray) : (midB s).size = s.size - 1 - 1 := by
 unfold midB
 rw [ByteArray.size_extract]; omega
theorem ba_nil {s : ByteArray} (h : s.size = 0) : s = ⟨#[]⟩ := ba_ext (by
 have : s.data.toList.length = 0 := by rw [lenL]; exact h
 rw [List.eq_nil_of_length_eq_zero this])
theorem noV_two (s : ByteArray) (h : s.size < 3) : noV s = true := by
 have : midB s = ⟨#[]⟩ := ba_nil (by rw [mid_size]; omega)
 unfold noV
 rw [this, full_nil]; simp
theorem gvar (mg : Int) (s : ByteArray) (hs : s.size <= 1048576) : gateway_variable mg s (if vOK s = true then (midB s, true) else (⟨#[]⟩, false)) := by
 by_cases h2 : s.size < 2
 ·have hv : vOK s = false := by unfold vOK; rw [decide_eq_false (by omega)]; rfl
  rw [if_neg (by rw [hv]; simp)]
  refine gateway_variable_step _ _ _ ⟨fun b => b = true, fun b1 hb1 => ⟨fun b => b = true, fun b2 hb2 => ⟨fun b => b = true, fun b3 hb3 => ⟨fun _ => rfl, fun h => by rw [hb3] at h; cases h⟩, fun _ => rfl, fun h => by rw [hb2] at h; cases h⟩, fun _ => rfl, fun h => by rw [hb1] at h; cases h⟩, fun _ => rfl, fun h => ?_⟩
  simp only [decide_eq_false_iff_not] at h
  omega
 ·have hw : wI ((s.size : Int) - 1) = ((s.size - 1 : Nat) : Int) := by rw [wI_id (by omega)]; omega
  refine gateway_variable_step _ _ _ ⟨fun b => b = (byteAt s 0 != 123), fun b1 hb1 => ⟨fun b => b = (b1 || (byteAt s (s.size - 1) != 125)), fun b2 hb2 => ⟨fun b => b = noV s, fun b3 hb3 => ⟨fun h => ?_, fun h => ?_⟩, fun h => ?_, fun h => ⟨by rw [hw]; omega, _, gfull_is mg _ ?_, ?_⟩⟩, fun h => by rw [h, Bool.true_or], fun h => ⟨by rw [hw]; omega, by rw [hw, h, Bool.false_or, Int.toNat_natCast]⟩⟩, fun h => by simp only [decide_eq_true_eq] at h; omega, fun h => ⟨⟨Int.le_refl _, by omega⟩, rfl⟩⟩
  ·have hv : vOK s = false := by unfold vOK; rw [← hb3, h]; simp
   rw [if_neg (by rw [hv]; simp)]
  ·have h3 : 3 <= s.size := by
    rcases Nat.lt_or_ge s.size 3 with h4 | h4
    ·rw [noV_two s h4, h] at hb3; cases hb3
    ·exact h4
   have hv : vOK s = true := by unfold vOK; rw [← hb3, h, decide_eq_true h3]; rfl
   rw [if_pos hv, hw]
   refine ⟨by omega, ?_⟩
   rw [Int.toNat_natCast]; rfl
  ·rw [hb1] at hb2
   unfold noV
   rw [← hb2, h]; rfl
  ·rw [hw, Int.toNat_natCast]
   have := mid_size s
   unfold midB at this
   show (s.extract 1 (s.size - 1)).size <= _
   omega
  ·rw [hb1] at hb2
   unfold noV
   rw [← hb2, h, Bool.false_or, hw, Int.toNat_natCast]; rfl
theorem rvar (s : ByteArray) (hs : s.size <= 1048576) : ref55_variable s (if vOK s = true then midB s else ⟨#[]⟩) := by
 by_cases h2 : s.size < 3
 ·have hv : vOK s = false := by unfold vOK; rw [decide_eq_false (by omega)]; rfl
  rw [if_neg (by rw [hv]; simp)]
  refine ref55_variable_step _ _ ⟨fun b => b = true, fun b1 hb1 => ⟨fun b => b = true, fun b2 hb2 => ⟨fun b => b = true, fun b3 hb3 => ⟨fun _ => rfl, fun h => by rw [hb3] at h; cases h⟩, fun _ => rfl, fun h => by rw [hb2] at h; cases h⟩, fun _ => rfl, fun h => by rw [hb1] at h; cases h⟩, fun _ => rfl, fun h => ?_⟩
  simp only [decide_eq_false_iff_not] at h
  omega
 ·have hw : wI ((s.size : Int) - 1) = ((s.size - 1 : Nat) : Int) := by rw [wI_id (by omega)]; omega
  refine ref55_variable_step _ _ ⟨fun b => b = (byteAt s 0 != 123), fun b1 hb1 => ⟨fun b => b = (b1 || (byteAt s (s.size - 1) != 125)), fun b2 hb2 => ⟨fun b => b = noV s, fun b3 hb3 => ⟨fun h => ?_, fun h => ?_⟩, fun h => ?_, fun h => ⟨by rw [hw]; omega, _, rfull_is _ ?_, ?_⟩⟩, fun h => by rw [h, Bool.true_or], fun h => ⟨by rw [hw]; omega, by rw [hw, h, Bool.false_or, Int.toNat_natCast]⟩⟩, fun h => by simp only [decide_eq_true_eq] at h; omega, fun h => ⟨⟨Int.le_refl _, by omega⟩, rfl⟩⟩
  ·have hv : vOK s = false := by unfold vOK; rw [← hb3, h]; simp
   rw [if_neg (by rw [hv]; simp)]
  ·have hv : vOK s = true := by unfold vOK; rw [← hb3, h, decide_eq_true (by omega)]; rfl
   rw [if_pos hv, hw]
   refine ⟨by omega, ?_⟩
   rw [Int.toNat_natCast]; rfl
  ·rw [hb1] at hb2
   unfold noV
   rw [← hb2, h]; rfl
  ·rw [hw, Int.toNat_natCast]
   have := mid_size s
   unfold midB at this
   show (s.extract 1 (s.size - 1)).size <= _
   omega
  ·rw [hb1] at hb2
   unfold noV
   rw [← hb2, h, Bool.false_or, hw, Int.toNat_natCast]; rfl
theorem mid_ne (s : ByteArray) (h : vOK s = true) : midB s ≠ ⟨#[]⟩ := fun he => by
 unfold vOK at h
 simp only [Bool.and_eq_true, decide_eq_true_eq] at h
 have h1 := mid_size s
 rw [he] at h1
 have : (⟨#[]⟩ : ByteArray).size = 0 := rfl
 omega
def segOK (s : ByteArray) : Bool := vOK s || litB s
def patB (s : ByteArray) : List ByteArray × Bool := if (segsB s).2 = true /\ (segsB s).1.length <= 8 /\ (segsB s).1.all segOK = true then ((segsB s).1, true) else ([], false)
theorem segL_len : ∀ l : List UInt8, (segL l).length <= l.length + 1 /\ ∀ x ∈ segL l, x.length <= l.length
 | [] => by simp [segL]
 | c :: r => by
  obtain ⟨h1, h2⟩ := segL_len r
  unfold segL
  split
  ·refine ⟨by simp; omega, fun x hx => ?_⟩
   rcases List.mem_cons.1 hx with rfl | hx
   ·simp
   ·have := h2 x hx; simp; omega
  ·split
   ·simp
   ·rename_i h t he
    rw [he] at h1 h2
    refine ⟨by simp at h1 ⊢; omega, fun x hx => ?_⟩
    rcases List.mem_cons.1 hx with rfl | hx
    ·have := h2 h (by simp); simp; omega
    ·have := h2 x (by simp [hx]); simp; omega
theorem segs_len (s : ByteArray) : (segsB s).1.length <= s.size + 1 /\ ∀ x ∈ (segsB s).1, x.size <= s.size := by
 unfold segsB
 split
 ·obtain ⟨h1, h2⟩ := segL_len (s.data.toList.drop 1)
  simp only [List.length_drop, lenL] at h1 h2
  refine ⟨by simp only [List.length_map]; omega, fun x hx => ?_⟩
  obtain ⟨y, hy, rfl⟩ := List.mem_map.1 hx
  rw [bytesL_size]
  have := h2 y hy
  omega
 ·exact ⟨by simp, fun x hx => by simp at hx⟩
theorem gpat_j (mg : Int) (L : List ByteArray) (hl : ∀ x ∈ L, x.size <= 1048576) (hL : L.length <= 8) (y : Bool) : ∀ (k i : Nat), i + k = L.length -> gateway_pattern_j2 i (L, y) mg (if (L.drop i).all segOK = true then (L, true) else ([], false))
 | 0, i, hk => by
  refine gateway_pattern_j2_step _ _ _ _ ⟨fun h => by simp only [decide_eq_true_eq] at h; omega, fun _ => ?_⟩
  rw [List.drop_eq_nil_of_le (by omega)]; rfl
 | k + 1, i, hk => by
  have hi : i < L.length := by omega
  have hw : wI ((i : Int) + 1) = ((i + 1 : Nat) : Int) := by rw [wI_id (by omega)]; omega
  have hz := hl _ (List.getElem_mem hi)
  refine gateway_pattern_j2_step _ _ _ _ ⟨fun h => ⟨L[i], by rw [Int.toNat_natCast]; exact List.getElem?_eq_getElem hi, by omega, _, gvar mg _ hz, ?_⟩, fun h => by simp only [decide_eq_false_iff_not] at h; omega⟩
  rw [hw, List.drop_eq_getElem_cons hi, List.all_cons]
  have ih := gpat_j mg L hl hL y k (i + 1) (by omega)
  cases hv : vOK L[i] with
  | true =>
   have : segOK L[i] = true := by unfold segOK; rw [hv]; rfl
   rw [if_pos rfl, this, Bool.true_and]
   exact ⟨fun h => by simp at h, fun _ => ih⟩
  | false =>
   rw [if_neg (by simp)]
   refine ⟨fun _ => ⟨_, glit _ hz, fun h => ?_, fun h => ?_⟩, fun h => by simp at h⟩
   ·have : segOK L[i] = false := by unfold segOK; rw [hv]; simpa using h
    rw [this]; simp
   ·have : segOK L[i] = true := by unfold segOK; rw [hv]; simpa using h
    rw [this, Bool.true_and]; exact ih
theorem gpat (mg : Int) (s : ByteArray) (hs : s.size <= 1048576) : gateway_pattern mg s (patB s) := by
 refine gateway_pattern_step _ _ _ ⟨_, gsegs s hs, fun h => ?_, fun h => ?_⟩
 ·unfold patB
  rw [if_neg (fun hc => ?_)]
  simp only [Bool.or_eq_true, Bool.not_eq_true', decide_eq_true_eq] at h
  rcases h with h | h
  ·rw [hc.1] at h; cases h
  ·omega
 ·simp only [Bool.or_eq_false_iff, Bool.not_eq_false', decide_eq_false_iff_not] at h
  have h8 : (segsB s).1.length <= 8 := by omega
  have := gpat_j mg (segsB s).1 (fun x hx => Nat.le_trans ((segs_len s).2 x hx) hs) h8 (segsB s).2 _ 0 (Nat.zero_add _)
  rw [List.drop_zero] at this
  unfold patB
  by_cases ha : (segsB s).1.all segOK = true
  ·rw [if_pos ha] at this
   rw [if_pos ⟨h.1, h8, ha⟩]; exact this
  ·rw [if_neg ha] at this
   rw [if_neg (fun hc => ha hc.2.2)]; exact this
theorem rpat_j (L : List ByteArray) (hl : ∀ x ∈ L, x.size <= 1048576) (hL : L.length <= 8) (y : Bool) : ∀ (k i : Nat), i + k = L.length -> ref55_Pattern_j2 i (L, y) (if (L.drop i).all segOK = true then (L, true) else ([], false))
 | 0, i, hk => by
  refine ref55_Pattern_j2_step _ _ _ ⟨fun h => by simp only [decide_eq_true_eq] at h; omega, fun _ => ?_⟩
  rw [List.drop_eq_nil_of_le (by omega)]; rfl
 | k + 1, i, hk => by
  have hi : i < L.length := by omega
  have hw : wI ((i : Int) + 1) = ((i + 1 : Nat) : Int) := by rw [wI_id (by omega)]; omega
  have hz := hl _ (List.getElem_mem hi)
  have hget : L[((i : Int)).toNat]? = some L[i] := by rw [Int.toNat_natCast]; exact List.getElem?_eq_getElem hi
  refine ref55_Pattern_j2_step _ _ _ ⟨fun h => ⟨L[i], hget, by omega, _, rlit _ hz, fun b => b = !(segOK L[i]), fun b hb => ⟨fun h => ?_, fun h => ?_⟩, fun h => ⟨L[i], hget, by omega, _, rvar _ hz, ?_⟩, fun h => ?_⟩, fun h => by simp only [decide_eq_false_iff_not] at h; omega⟩
  ·rw [hb] at h
   simp only [Bool.not_eq_true'] at h
   rw [List.drop_eq_getElem_cons hi, List.all_cons, h]; simp
  ·rw [hb] at h
   simp only [Bool.not_eq_false'] at h
   rw [hw, List.drop_eq_getElem_cons hi, List.all_cons, h, Bool.true_and]
   exact rpat_j L hl hL y k (i + 1) (by omega)
  ·simp only [Bool.not_eq_true'] at h
   unfold segOK
   rw [h, Bool.or_false]
   cases hv : vOK L[i] with
   | true => rw [if_pos rfl, decide_eq_false (mid_ne _ hv)]; rfl
   | false => rw [if_neg (by simp), decide_eq_true rfl]; rfl
  ·simp only [Bool.not_eq_false'] at h
   unfold segOK
   rw [h, Bool.or_true]; rfl
theorem rpat (s : ByteArray) (hs : s.size <= 1048576) : ref55_Pattern s (patB s) := by
 refine ref55_Pattern_step _ _ ⟨_, rsegs s hs, fun h => ?_, fun h => ?_⟩
 ·unfold patB
  rw [if_neg (fun hc => ?_)]
  simp only [Bool.or_eq_true, Bool.not_eq_true', decide_eq_true_eq] at h
  rcases h with h | h
  ·rw [hc.1] at h; cases h
  ·omega
 ·simp only [Bool.or_eq_false_iff, Bool.not_eq_false', decide_eq_false_iff_not] at h
  have h8 : (segsB s).1.length <= 8 := by omega
  have := rpat_j (segsB s).1 (fun x hx => Nat.le_trans ((segs_len s).2 x hx) hs) h8 (segsB s).2 _ 0 (Nat.zero_add _)
  rw [List.drop_zero] at this
  unfold patB
  by_cases ha : (segsB s).1.all segOK = true
  ·rw [if_pos ha] at this
   rw [if_pos ⟨h.1, h8, ha⟩]; exact this
  ·rw [if_neg ha] at this
   rw [if_neg (fun hc => ha hc.2.2)]; exact this
def mtch : List ByteArray -> List ByteArray -> List GMeta -> List GMeta × Bool
 | [], _, acc => (acc, true)
 | _ :: _, [], _ => ([], false)
 | s :: ws, h :: hs, acc => if vOK s = true then (if (unescB h).2 ≠ 0 ∨ h = ⟨#[]⟩ then ([], false) else mtch ws hs (acc ++ [⟨midB s, (unescB h).1⟩])) else if s = h then mtch ws hs acc else ([], false)
theorem gm_j (mg : Int) (W H : List ByteArray) (y1 y2 : Bool) (hl : ∀ x ∈ W, x.size <= 1048576) (hh : ∀ x ∈ H, x.size <= 1048576) (hWH : W.length = H.length) (hL : W.length <= 1048576) : ∀ (k i : Nat) (acc : List GMeta), i + k = W.length -> acc.length <= i -> gateway_match_j2 i (W, y1) acc (H, y2) mg (mtch (W.drop i) (H.drop i) acc)
 | 0, i, acc, hk, ha => by
  refine gateway_match_j2_step _ _ _ _ _ _ ⟨fun h => by simp only [decide_eq_true_eq] at h; omega, fun _ => ?_⟩
  rw [show W.drop i = [] from List.drop_eq_nil_of_le (by omega)]; rfl
 | k + 1, i, acc, hk, ha => by
  have hi : i < W.length := by omega
  have hj : i < H.length := by omega
  have hw : wI ((i : Int) + 1) = ((i + 1 : Nat) : Int) := by rw [wI_id (by omega)]; omega
  have hz := hl _ (List.getElem_mem hi)
  have hz2 := hh _ (List.getElem_mem hj)
  have hget : W[((i : Int)).toNat]? = some W[i] := by rw [Int.toNat_natCast]; exact List.getElem?_eq_getElem hi
  have hget2 : H[((i : Int)).toNat]? = some H[i] := by rw [Int.toNat_natCast]; exact List.getElem?_eq_getElem hj
  have ih := fun acc h => gm_j mg W H y1 y2 hl hh hWH hL k (i + 1) acc (by omega) h
  refine gateway_match_j2_step _ _ _ _ _ _ ⟨fun h => ⟨W[i], hget, by omega, _, gvar mg _ hz, ?_⟩, fun h => by simp only [decide_eq_false_iff_not] at h; omega⟩
  rw [hw, List.drop_eq_getElem_cons hi, List.drop_eq_getElem_cons hj, mtch]
  cases hv : vOK W[i] with
  | true =>
   rw [if_pos (rfl : true = true), if_pos (rfl : true = true)]
   refine ⟨fun b => b = false, fun b hb => ⟨fun h => (by rw [hb] at h; cases h), fun _ => ⟨fun _ => ⟨H[i], hget2, by omega, _, gunesc _ hz2, fun b => b = decide ((unescB H[i]).2 ≠ 0 ∨ H[i] = ⟨#[]⟩), fun b4 h4 => ⟨fun h => ?_, fun h => ⟨by simp; omega, ?_⟩⟩, fun h => ?_, fun h => ⟨H[i], hget2, by omega, ?_⟩⟩, fun h => by simp at h⟩⟩, fun h => by simp at h, fun _ => rfl⟩
   ·rw [h4] at h
    rw [if_pos (of_decide_eq_true h)]
   ·rw [h4] at h
    rw [if_neg (of_decide_eq_false h)]
    exact ih _ (by simp; omega)
   ·have : (unescB H[i]).2 ≠ 0 := by simpa using h
    rw [decide_eq_true (Or.inl this)]
   ·have h0 : (unescB H[i]).2 = 0 := by simpa using h
    by_cases he : H[i] = ⟨#[]⟩
    ·rw [decide_eq_true he, decide_eq_true (Or.inr he)]
    ·rw [decide_eq_false he, decide_eq_false (fun hc => hc.elim (fun q => q h0) he)]
  | false =>
   rw [if_neg (show ¬ (false = true) from Bool.noConfusion), if_neg (show ¬ (false = true) from Bool.noConfusion)]
   refine ⟨fun b => b = !(decide (W[i] = H[i])), fun b hb => ⟨fun h => ?_, fun h => ⟨fun q => by simp at q, fun _ => ?_⟩⟩, fun _ => ⟨H[i], hget2, by omega, rfl⟩, fun h => by simp at h⟩
   ·rw [hb] at h
    have : ¬ W[i] = H[i] := by simpa using h
    rw [if_neg this]
   ·rw [hb] at h
    have : W[i] = H[i] := by simpa using h
    rw [if_pos this]
    exact ih _ (by omega)
def matB (r : GRoute) (path : ByteArray) : List GMeta × Bool := if (patB r.Path).2 = true /\ (segsB path).2 = true /\ (patB r.Path).1.length = (segsB path).1.length then mtch (patB r.Path).1 (segsB path).1 [] else ([], false)
theorem pat_len (s : ByteArray) : (patB s).1.length <= 8 /\ ∀ x ∈ (patB s).1, x.size <= s.size := by
 unfold patB
 split
 ·rename_i h
  exact ⟨h.2.1, (segs_len s).2⟩
 ·exact ⟨by simp, fun x hx => by simp at hx⟩
theorem gmat (mg : Int) (r : GRoute) (verb path : ByteArray) (hp : r.Path.size <= 1048576) (hs : path.size <= 1048576) : gateway_match mg r verb path (if r.Verb = verb then matB r path else ([], false)) := by
 refine gateway_match_step _ _ _ _ _ ⟨_, gpat mg _ hp, _, gsegs _ hs, fun h => ?_, fun h => ?_⟩
 ·split
  ·rename_i hv
   unfold matB
   rw [if_neg (fun hc => ?_)]
   simp only [Bool.or_eq_true, Bool.not_eq_true', decide_eq_false_iff_not, bne_iff_ne] at h
   rcases h with ((h | h) | h) | h
   ·rw [hc.1] at h; cases h
   ·rw [hc.2.1] at h; cases h
   ·exact h hv
   ·exact h (by rw [hc.2.2])
  ·rfl
 ·simp only [Bool.or_eq_false_iff, Bool.not_eq_false', decide_eq_true_eq, bne_eq_false_iff_eq] at h
  obtain ⟨⟨⟨h1, h2⟩, h3⟩, h4⟩ := h
  have h5 : (patB r.Path).1.length = (segsB path).1.length := by omega
  rw [if_pos h3]
  unfold matB
  rw [if_pos ⟨h1, h2, h5⟩]
  exact gm_j mg (patB r.Path).1 (segsB path).1 _ _ (fun x hx => Nat.le_trans ((pat_len _).2 x hx) hp) (fun x hx => Nat.le_trans ((segs_len _).2 x hx) hs) h5 (Nat.le_trans (pat_len _).1 (by omega)) _ 0 [] (Nat.zero_add _) (by simp)
theorem rm_j (W H : List ByteArray) (y1 y2 : Bool) (hl : ∀ x ∈ W, x.size <= 1048576) (hh : ∀ x ∈ H, x.size <= 1048576) (hWH : W.length = H.length) (hL : W.length <= 1048576) : ∀ (k i : Nat) (acc : List GMeta), i + k = W.length -> acc.length <= i -> ref55_matches_j2 i acc (H, y2) (W, y1) (mtch (W.drop i) (H.drop i) acc)
 | 0, i, acc, hk, ha => by
  refine ref55_matches_j2_step _ _ _ _ _ ⟨fun h => by simp only [decide_eq_true_eq] at h; omega, fun _ => ?_⟩
  rw [show W.drop i = [] from List.drop_eq_nil_of_le (by omega)]; rfl
 | k + 1, i, acc, hk, ha => by
  have hi : i < W.length := by omega
  have hj : i < H.length := by omega
  have hw : wI ((i : Int) + 1) = ((i + 1 : Nat) : Int) := by rw [wI_id (by omega)]; omega
  have hz := hl _ (List.getElem_mem hi)
  have hz2 := hh _ (List.getElem_mem hj)
  have hget : W[((i : Int)).toNat]? = some W[i] := by rw [Int.toNat_natCast]; exact List.getElem?_eq_getElem hi
  have hget2 : H[((i : Int)).toNat]? = some H[i] := by rw [Int.toNat_natCast]; exact List.getElem?_eq_getElem hj
  have ih := fun acc h => rm_j W H y1 y2 hl hh hWH hL k (i + 1) acc (by omega) h
  refine ref55_matches_j2_step _ _ _ _ _ ⟨fun h => ⟨W[i], hget, by omega, _, rvar _ hz, ?_⟩, fun h => by simp only [decide_eq_false_iff_not] at h; omega⟩
  rw [hw, List.drop_eq_getElem_cons hi, List.drop_eq_getElem_cons hj, mtch]
  cases hv : vOK W[i] with
  | true =>
   rw [if_pos (rfl : true = true), if_pos (rfl : true = true)]
   refine ⟨fun h => absurd (of_decide_eq_true h) (mid_ne _ hv), fun _ => ⟨H[i], hget2, by omega, _, runesc _ hz2, H[i], hget2, by omega, fun h => ?_, fun h => ⟨by simp; omega, ?_⟩⟩⟩
   ·simp only [Bool.or_eq_true, decide_eq_true_eq, bne_iff_ne] at h
    rw [if_pos (h.elim Or.inr Or.inl)]
   ·simp only [Bool.or_eq_false_iff, decide_eq_false_iff_not, bne_eq_false_iff_eq] at h
    rw [if_neg (fun hc => hc.elim (fun q => q h.2) h.1)]
    exact ih _ (by simp; omega)
  | false =>
   rw [if_neg (show ¬ (false = true) from Bool.noConfusion), if_neg (show ¬ (false = true) from Bool.noConfusion)]
   refine ⟨fun _ => ⟨W[i], hget, by omega, H[i], hget2, by omega, fun h => ?_, fun h => ?_⟩, fun h => absurd rfl (of_decide_eq_false h)⟩
   ·have : ¬ W[i] = H[i] := by simpa using h
    rw [if_neg this]
   ·have : W[i] = H[i] := by simpa using h
    rw [if_pos this]
    exact ih _ (by omega)
theorem rmat (r : GRoute) (path : ByteArray) (hp : r.Path.size <= 1048576) (hs : path.size <= 1048576) : ref55_matches r path (matB r path) := by
 refine ref55_matches_step _ _ _ ⟨_, rpat _ hp, _, rsegs _ hs, fun h => ?_, fun h => ?_⟩
 ·unfold matB
  rw [if_neg (fun hc => ?_)]
  simp only [Bool.or_eq_true, Bool.not_eq_true', bne_iff_ne] at h
  rcases h with (h | h) | h
  ·rw [hc.1] at h; cases h
  ·rw [hc.2.1] at h; cases h
  ·exact h (by rw [hc.2.2])
 ·simp only [Bool.or_eq_false_iff, Bool.not_eq_false', bne_eq_false_iff_eq] at h
  obtain ⟨⟨h1, h2⟩, h4⟩ := h
  have h5 : (patB r.Path).1.length = (segsB path).1.length := by omega
  unfold matB
  rw [if_pos ⟨h1, h2, h5⟩]
  exact rm_j (patB r.Path).1 (segsB path).1 _ _ (fun x hx => Nat.le_trans ((pat_len _).2 x hx) hp) (fun x hx => Nat.le_trans ((segs_len _).2 x hx) hs) h5 (Nat.le_trans (pat_len _).1 (by omega)) _ 0 [] (Nat.zero_add _) (by simp)
def fstM (verb path : ByteArray) : List GRoute -> Nat -> Int × List GMeta × Int
 | [], _ => (0, [], 10)
 | r :: l, i => if r.Verb = verb /\ (matB r path).2 = true then ((i : Int), (matB r path).1, 0) else fstM verb path l (i + 1)
theorem gM_j (mg : Int) (L : List GRoute) (verb path : ByteArray) (hl : ∀ x ∈ L, x.Path.size <= 1048576) (hs : path.size <= 1048576) (hL : L.length <= 1048576) : ∀ (k i : Nat), i + k = L.length -> gateway_Match_j2 i L verb path mg (fstM verb path (L.drop i) i)
 | 0, i, hk => by
  refine gateway_Match_j2_step _ _ _ _ _ _ ⟨fun h => by simp only [decide_eq_true_eq] at h; omega, fun _ => ?_⟩
  rw [List.drop_eq_nil_of_le (by omega)]; rfl
 | k + 1, i, hk => by
  have hi : i < L.length := by omega
  have hw : wI ((i : Int) + 1) = ((i + 1 : Nat) : Int) := by rw [wI_id (by omega)]; omega
  have hget : L[((i : Int)).toNat]? = some L[i] := by rw [Int.toNat_natCast]; exact List.getElem?_eq_getElem hi
  refine gateway_Match_j2_step _ _ _ _ _ _ ⟨fun h => ⟨L[i], hget, by omega, _, gmat mg _ verb path (hl _ (List.getElem_mem hi)) hs, ?_⟩, fun h => by simp only [decide_eq_false_iff_not] at h; omega⟩
  rw [hw, List.drop_eq_getElem_cons hi, fstM]
  have ih := gM_j mg L verb path hl hs hL k (i + 1) (by omega)
  by_cases hv : L[i].Verb = verb
  ·rw [if_pos hv]
   refine ⟨fun h => by rw [if_pos ⟨hv, h⟩], fun h => ?_⟩
   rw [if_neg (fun hc => by rw [hc.2] at h; cases h)]; exact ih
  ·rw [if_neg hv, if_neg (fun hc => hv hc.1)]
   exact ⟨fun h => by simp at h, fun _ => ih⟩
theorem rM_j (L : List GRoute) (verb path : ByteArray) (hl : ∀ x ∈ L, x.Path.size <= 1048576) (hs : path.size <= 1048576) (hL : L.length <= 1048576) : ∀ (k i : Nat), i + k = L.length -> ref55_Match_j2 i L verb path (fstM verb path (L.drop i) i)
 | 0, i, hk => by
  refine ref55_Match_j2_step _ _ _ _ _ ⟨fun h => by simp only [decide_eq_true_eq] at h; omega, fun _ => ?_⟩
  rw [List.drop_eq_nil_of_le (by omega)]; rfl
 | k + 1, i, hk => by
  have hi : i < L.length := by omega
  have hw : wI ((i : Int) + 1) = ((i + 1 : Nat) : Int) := by rw [wI_id (by omega)]; omega
  have hget : L[((i : Int)).toNat]? = some L[i] := by rw [Int.toNat_natCast]; exact List.getElem?_eq_getElem hi
  have ih := rM_j L verb path hl hs hL k (i + 1) (by omega)
  refine ref55_Match_j2_step _ _ _ _ _ ⟨fun h => ⟨L[i], hget, by omega, _, rmat _ path (hl _ (List.getElem_mem hi)) hs, fun b => b = decide (L[i].Verb = verb /\ (matB L[i] path).2 = true), fun b hb => ⟨fun h => ?_, fun h => ?_⟩, fun h => ⟨L[i], hget, by omega, ?_⟩, fun h => ?_⟩, fun h => by simp only [decide_eq_false_iff_not] at h; omega⟩
  ·rw [hb] at h
   rw [List.drop_eq_getElem_cons hi, fstM, if_pos (of_decide_eq_true h)]
  ·rw [hb] at h
   rw [hw, List.drop_eq_getElem_cons hi, fstM, if_neg (of_decide_eq_false h)]; exact ih
  ·by_cases hv : L[i].Verb = verb
   ·rw [decide_eq_true hv, decide_eq_true ⟨hv, h⟩]
   ·rw [decide_eq_false hv, decide_eq_false (fun hc => hv hc.1)]
  ·exact (decide_eq_false (fun hc => by rw [hc.2] at h; cases h)).symm
theorem sw_j (a b : GWeb) (hq : a.Query = b.Query) (hL : a.Query.length <= 1048576) : ∀ (k i : Nat), i + k = a.Query.length -> ref55_SameWeb_j2 i a b true
 | 0, i, hk => ref55_SameWeb_j2_step _ _ _ _ ⟨fun h => by simp only [decide_eq_true_eq] at h; omega, fun _ => rfl⟩
 | k + 1, i, hk => by
  have hi : i < a.Query.length := by omega
  have hw : wI ((i : Int) + 1) = ((i + 1 : Nat) : Int) := by rw [wI_id (by omega)]; omega
  have hget : a.Query[((i : Int)).toNat]? = some a.Query[i] := by rw [Int.toNat_natCast]; exact List.getElem?_eq_getElem hi
  have hget2 : b.Query[((i : Int)).toNat]? = some a.Query[i] := by rw [← hq]; exact hget
  refine ref55_SameWeb_j2_step _ _ _ _ ⟨fun h => ⟨_, hget, by omega, _, hget2, by omega, fun h => by simp at h, fun _ => ⟨_, hget, by omega, _, hget2, by omega, fun h => by simp at h, fun _ => ?_⟩⟩, fun h => by simp only [decide_eq_false_iff_not] at h; omega⟩
  rw [hw]
  exact sw_j a b hq hL k (i + 1) (by omega)
theorem sm_j (L : List GRoute) (hL : L.length <= 70) : ∀ (k i : Nat), i + k = L.length -> ∃ b, ref55_Small_j2 i L b /\ (b = true -> ∀ x ∈ L.drop i, x.Path.size <= 300 /\ x.Service.size <= 300 /\ x.Method.size <= 300 /\ x.Body.size <= 300)
 | 0, i, hk => by
  refine ⟨true, ref55_Small_j2_step _ _ _ ⟨fun h => by simp only [decide_eq_true_eq] at h; omega, fun _ => rfl⟩, fun _ x hx => ?_⟩
  rw [List.drop_eq_nil_of_le (by omega)] at hx; cases hx
 | k + 1, i, hk => by
  have hi : i < L.length := by omega
  have hw : wI ((i : Int) + 1) = ((i + 1 : Nat) : Int) := by rw [wI_id (by omega)]; omega
  have hget : L[((i : Int)).toNat]? = some L[i] := by rw [Int.toNat_natCast]; exact List.getElem?_eq_getElem hi
  obtain ⟨b, ih, hb⟩ := sm_j L hL k (i + 1) (by omega)
  have big : Bool := false
  let c4 := decide (300 < (L[i].Verb.size : Int)) || decide (300 < (L[i].Path.size : Int))
  let c5 := c4 || decide (300 < (L[i].Service.size : Int))
  let c6 := c5 || decide (300 < (L[i].Method.size : Int))
  let c7 := c6 || decide (300 < (L[i].Body.size : Int))
  refine ⟨if c7 = true then false else b, ref55_Small_j2_step _ _ _ ⟨fun h => ⟨_, hget, by omega, fun z => z = c4, fun b4 h4 => ⟨fun z => z = c5, fun b5 h5 => ⟨fun z => z = c6, fun b6 h6 => ⟨fun h => ?_, fun h => ⟨_, hget, by omega, fun h9 => ?_, fun h9 => ?_⟩⟩, fun h => ?_, fun h => ⟨_, hget, by omega, ?_⟩⟩, fun h => ?_, fun h => ⟨_, hget, by omega, ?_⟩⟩, fun h => ?_, fun h => ⟨_, hget, by omega, ?_⟩⟩, fun h => by simp only [decide_eq_false_iff_not] at h; omega⟩, fun h x hx => ?_⟩
  ·have : c7 = true := by show (c6 || _) = true; rw [← h6, h]; rfl
   rw [if_pos this]
  ·have : c7 = true := by show (c6 || _) = true; rw [h9, Bool.or_true]
   rw [if_pos this]
  ·have : c7 = false := by show (c6 || _) = false; rw [← h6, h, h9]; rfl
   rw [if_neg (by rw [this]; simp), hw]; exact ih
  ·show true = (c5 || _); rw [← h5, h]; rfl
  ·show _ = (c5 || _); rw [← h5, h]; rfl
  ·show true = (c4 || _); rw [← h4, h]; rfl
  ·show _ = (c4 || _); rw [← h4, h]; rfl
  ·show true = (decide (300 < (L[i].Verb.size : Int)) || _); rw [h]; rfl
  ·show _ = (decide (300 < (L[i].Verb.size : Int)) || _); rw [h]; rfl
  ·have h7 : c7 = false := by
    cases hc : c7 with
    | false => rfl
    | true => rw [if_pos hc] at h; cases h
   rw [if_neg (by rw [h7]; simp)] at h
   rw [List.drop_eq_getElem_cons hi] at hx
   rcases List.mem_cons.1 hx with rfl | hx
   ·have : ((((decide (300 < (L[i].Verb.size : Int)) || decide (300 < (L[i].Path.size : Int))) || decide (300 < (L[i].Service.size : Int))) || decide (300 < (L[i].Method.size : Int))) || decide (300 < (L[i].Body.size : Int))) = false := h7
    simp only [Bool.or_eq_false_iff, decide_eq_false_iff_not] at this
    omega
   ·exact hb h x hx
theorem small_is (L : List GRoute) : ∃ b, ref55_Small L b /\ (b = true -> L.length <= 70 /\ ∀ x ∈ L, x.Path.size <= 300 /\ x.Service.size <= 300 /\ x.Method.size <= 300 /\ x.Body.size <= 300) := by
 by_cases h : L.length <= 70
 ·obtain ⟨b, h1, h2⟩ := sm_j L h _ 0 (Nat.zero_add _)
  refine ⟨b, ref55_Small_step _ _ ⟨fun hh => by simp only [decide_eq_true_eq] at hh; omega, fun _ => h1⟩, fun hb => ⟨h, ?_⟩⟩
  have := h2 hb
  rw [List.drop_zero] at this
  exact this
 ·exact ⟨false, ref55_Small_step _ _ ⟨fun _ => rfl, fun hh => by simp only [decide_eq_false_iff_not] at hh; omega⟩, fun hb => by cases hb⟩
theorem mtch_len : ∀ (W H : List ByteArray) (acc : List GMeta), (mtch W H acc).1.length <= acc.length + W.length
 | [], _, acc => by simp [mtch]
 | _ :: _, [], acc => by simp [mtch]
 | s :: W, h :: H, acc => by
  rw [mtch]
  have h1 := mtch_len W H acc
  have h2 := mtch_len W H (acc ++ [⟨midB s, (unescB h).1⟩])
  simp only [List.length_append, List.length_cons, List.length_nil] at h2
  split
  ·split
   ·simp
   ·simp only [List.length_cons]; omega
  ·split
   ·simp only [List.length_cons]; omega
   ·simp
theorem fst_len (verb path : ByteArray) : ∀ (L : List GRoute) (i : Nat), (fstM verb path L i).2.1.length <= 8
 | [], i => by simp [fstM]
 | r :: L, i => by
  rw [fstM]
  split
  ·unfold matB
   split
   ·have := mtch_len (patB r.Path).1 (segsB path).1 []
    have h8 := (pat_len r.Path).1
    simp only [List.length_nil] at this
    show (mtch _ _ _).1.length <= 8
    omega
   ·simp
  ·exact fst_len verb path L (i + 1)
theorem matches_true (mg : Int) (l : List GRoute) (verb path : ByteArray) : law55_GatewayMatches mg l verb path true := by
 obtain ⟨b, h1, h2⟩ := small_is l
 refine law55_GatewayMatches_step _ _ _ _ _ ⟨b, h1, fun _ => ⟨_, awake_is mg, rfl⟩, fun h => ?_⟩
 simp only [Bool.or_eq_false_iff, Bool.not_eq_false', decide_eq_false_iff_not] at h
 obtain ⟨h3, h4⟩ := h2 h.1.1
 have hp : path.size <= 1048576 := by have := h.2; omega
 have hl : ∀ x ∈ l, x.Path.size <= 1048576 := fun x hx => by have := h4 x hx; omega
 have g1 := gM_j mg l verb path hl hp (by omega) _ 0 (Nat.zero_add _)
 have g2 := rM_j l verb path hl hp (by omega) _ 0 (Nat.zero_add _)
 rw [List.drop_zero] at g1 g2
 refine ⟨_, gateway_Match_step _ _ _ _ _ g1, _, ref55_Match_step _ _ _ _ g2, fun _ => ⟨true, ?_, fun _ => ⟨_, awake_is mg, rfl⟩, fun hf => by cases hf⟩, fun hf => by simp at hf⟩
 refine ref55_SameWeb_step _ _ _ ⟨fun hf => by simp at hf, fun _ => ?_⟩
 have h8 := fst_len verb path l 0
 exact sw_j _ _ rfl (by show (fstM verb path l 0).2.1.length <= _; omega) _ 0 (Nat.zero_add _)
theorem k10 : Rows.gatewayMatchesRow.inPlace = Tryz.prog.inPlace 4 := by kernel_rfl
theorem k11 : Tryz.prog.unfollowed 4 = true := by kernel_rfl
theorem k12 : Tryz.prog.recurses 4 = true := by unfold Program.recurses; rw [k11]; rfl
theorem k13 : Rows.gatewayMatchesRow.named = Tryz.prog.varsNamed 4 := by kernel_rfl
theorem noGo : Tryz.prog.funcs.any Func.goes = false := by kernel_rfl
theorem goes_no {P : Program} (h : P.funcs.any Func.goes = false) (f : FuncId) : P.goes f = false := by
 unfold Program.goes
 rw [h, Bool.and_false, Bool.or_false]
 refine List.any_eq_false.2 fun g _ => ?_
 cases hg : P.funcs[g]? with
 | none => simp
 | some fn =>
  rw [Array.any_eq_false] at h
  obtain ⟨hl, he⟩ := Array.getElem?_eq_some_iff.1 hg
  have := h g hl
  rw [he] at this
  simpa using this
theorem kg : false = Rows.gatewayMatchesRow.goesBy Tryz.prog := by
 have : Rows.gatewayMatchesRow.goesBy Tryz.prog = Tryz.prog.goesFrom Rows.gatewayMatchesRow.func := by unfold OpenClaim.goesBy Program.goesAt; exact Bool.or_false _
 rw [this]
 unfold Program.goesFrom
 cases Tryz.prog.funcNamed Rows.gatewayMatchesRow.func with
 | none => rfl
 | some f => rw [Option.any_some, goes_no noGo]
theorem and_t {a b : Bool} (h : a = true) (k : b = true) : (a && b) = true := by rw [h, k]; rfl
set_option maxHeartbeats 100000000 in
theorem closed : joinedFacts Tryz.prog 4 Tryz.f4 (OpenSpec.ofChange Rows.gatewayMatchesSpec).bare Rows.gatewayMatchesRow = true := by
 unfold joinedFacts
 refine (and_t (and_t (and_t (and_t (and_t (and_t (and_t (and_t (and_t (and_t (and_t (and_t (and_t (and_t (and_t (and_t (and_t (and_t (and_t (and_t (and_t (and_t (and_t (and_t (and_t (and_t (and_t (and_t (and_t (and_t (and_t ?_ ?_) ?_) ?_) ?_) ?_) ?_) ?_) ?_) ?_) ?_) ?_) ?_) ?_) ?_) ?_) ?_) ?_) ?_) ?_) ?_) ?_) ?_) ?_) ?_) ?_) ?_) ?_) ?_) ?_) ?_) ?_)
 ·as_aux_lemma => kernel_rfl
 ·as_aux_lemma => kernel_rfl
 ·as_aux_lemma => kernel_rfl
 ·as_aux_lemma => kernel_rfl
 ·as_aux_lemma => kernel_rfl
 ·as_aux_lemma => kernel_rfl
 ·as_aux_lemma => kernel_rfl
 ·as_aux_lemma => kernel_rfl
 ·as_aux_lemma => kernel_rfl
 ·exact beq_iff_eq.2 k10
 ·exact beq_iff_eq.2 k11.symm
 ·exact beq_iff_eq.2 k12.symm
 ·exact beq_iff_eq.2 k13
 ·as_aux_lemma => kernel_rfl
 ·as_aux_lemma => kernel_rfl
 ·as_aux_lemma => kernel_rfl
 ·as_aux_lemma => kernel_rfl
 ·as_aux_lemma => kernel_rfl
 ·as_aux_lemma => kernel_rfl
 ·as_aux_lemma => kernel_rfl
 ·as_aux_lemma => kernel_rfl
 ·as_aux_lemma => kernel_rfl
 ·as_aux_lemma => kernel_rfl
 ·as_aux_lemma => kernel_rfl
 ·as_aux_lemma => kernel_rfl
 ·as_aux_lemma => kernel_rfl
 ·as_aux_lemma => kernel_rfl
 ·as_aux_lemma => kernel_rfl
 ·as_aux_lemma => kernel_rfl
 ·as_aux_lemma => kernel_rfl
 ·as_aux_lemma => kernel_rfl
 ·as_aux_lemma => kernel_rfl
end Go.Proofs.YtkhgohfaecbgkaaGreatDoor.Lift
